/- The law FnExactBuildingsOfBlocks: part 9 of its texts, joined (wip/pack.py). -/
import Derived.Test.YtlbcnflcibmifaaGreatDoorKFnExactBuildingsOfBlocksa
import Derived.Test.YtlbcnflcibmifaaGreatDoorKFnExactBuildingsOfBlocksb
import Derived.Test.YtlbcnflcibmifaaGreatDoorKFnExactBuildingsOfBlocksc
import Derived.Test.YtlbcnflcibmifaaGreatDoorKFnExactBuildingsOfBlocksd
import Derived.Test.YtlbcnflcibmifaaGreatDoorKFnExactBuildingsOfBlockse
import Derived.Test.YtlbcnflcibmifaaGreatDoorKFnExactBuildingsOfBlocksf
import Derived.Test.YtlbcnflcibmifaaGreatDoorKFnExactBuildingsOfBlocksg
import Derived.Test.YtlbcnflcibmifaaGreatDoorKFnExactBuildingsOfBlocksh
import Derived.Test.YtlbcnflcibmifaaGreatDoorKFnExactBuildingsOfBlocksi
import Derived.Deep.Slices
import Derived.SizedLaws
import Derived.ChangeArms
import Derived.WideShapes
import Derived.KernelRfl
import Derived.Lib.Strings
import Derived.Lib.IndexLaws
import Derived.Lib.IndexBytes
import Derived.Lib.IndexMore
import Derived.Laws.BitsLemmas
import Derived.Lib.ItoaMem
import Derived.Lib.Join
import Derived.Lib.ParseIntBCases
import Derived.Lib.ItoaNum
import Derived.Lib.SplitLaws

section
namespace Go.Proofs.YtlbcnflcibmifaaGreatDoor.XT
open Go.RowKit Go.Proofs.YtlbcnflcibmifaaGreatDoorW.PrintWords Go.Proofs.YtlbcnflcibmifaaGreatDoorW.PrintLast Go.Proofs.YtlbcnflcibmifaaGreatDoorW.PrintMore
attribute [local go_sem] run_eql_slice_nil binOp_string_gtr' binOp_string_leq' binOp_string_geq' max2_int min2_int max_two min_two max_three min_three max_four min_four   -- for this text's walks alone
set_option linter.unusedVariables false
set_option linter.unusedSimpArgs false
def laws_FnExactBuildingsOfBlocks.f (k : Nat) (l0 : List (S36)) : Option Bool := (laws_szBlockS.f k l0 1048576).bind fun t3 => (if t3 < 0 then some true else ((laws_toBlockS.f k l0).bind fun t8 => ((spec_BuildingsOfBlocks.f k t8).bind fun bt17 => ((laws_toBlockS.f k l0).bind fun t28 => ((impl_BuildingsOfBlocks.f k t28).bind fun bt37 => ((laws_eqBuildingS.f k bt37.1 bt17.1).bind fun t48 => (if t48 = true then (if bt37.2 = bt17.2 then ((laws_toBlockS.f k l0).bind fun t53 => ((laws_eqBlockS.f k t28 t53).bind fun t63 => (if t63 = true then ((laws_markBlockS.f k t28 1).bind fun bt67 => (if ¬ bt67.1 < 0 then ((laws_eqBuildingS.f k bt37.1 bt17.1).bind fun t74 => (if t74 = true then (if bt37.2 = bt17.2 then ((laws_markBuildingS.f k bt37.1 1).bind fun bt78 => ((laws_heldBuildingS.f k bt78.2 1).bind fun t84 => (if ¬ t84 < 0 then (if t84 = bt78.1 then ((laws_toBlockS.f k l0).bind fun t89 => ((impl_BuildingsOfBlocks.f k t89).bind fun bt98 => ((laws_eqBuildingS.f k bt98.1 bt17.1).bind fun t109 => (if t109 = true then (if bt98.2 = bt17.2 then ((laws_heldBuildingS.f k bt78.2 1).bind fun t113 => (if ¬ t113 < 0 then (if t113 = bt78.1 then (some true) else none) else none)) else none) else none)))) else none) else none))) else none) else none)) else none)) else none))) else none) else none)))))))
set_option maxHeartbeats 4000000 in
set_option maxRecDepth 100000 in
theorem laws_FnExactBuildingsOfBlocks.calls (k : Nat) (A0 : Option Addr) (c0 : Nat) (l0 : List (S36)) (r : Bool) (w : World) (hr0 : Kd.C k36 w A0 l0.length l0) (hc0 : l0.length ≤ c0) (hSH : ShT Tryz.prog w) (h : laws_FnExactBuildingsOfBlocks.f k l0 = some r) :
  Calls Tryz.prog 3 #[.slice A0 l0.length c0] w fun e w' => e = .returned (.bool r) ∧ Below w.heap.size w w' := by
 have HR0 := Aside0.mk hr0
 have HC0 := Aside0.mk hc0
 clear hr0 hc0
 have HB := Aside0.mk (Below.refl w.heap.size w)
 have HSH := Aside0.mk hSH
 clear hSH
 unfold laws_FnExactBuildingsOfBlocks.f at h
 replace h := Option.bind_eq_some_iff.mp h
 obtain ⟨t3, A1_, h⟩ := h
 try dsimp only at h
 have A1 := Aside0.mk A1_
 clear A1_
 by_cases c115 : t3 < 0
 ·rw [if_pos c115] at h
  have c115b : decide (t3 < 0) = true := decide_eq_true (by omega)
  clear c115
  obtain rfl := Option.some.inj h
  go_enter Tryz.func3, Tryz.ntmps3
  go_wp2_with fail
  refine (laws_szBlockS.calls k _ _ l0 1048576 _ _ (Kd.C_below HR0.out HB.out) HC0.out A1.out).mono ?_
  rintro e w2 ⟨rfl, hb⟩
  have SZ4 := Aside0.mk hb.size
  replace HB := Aside0.mk (below_step HB.out hb)
  clear hb
  go_wp2
  go_ret
  exact ⟨eZ, bZ⟩
 rw [if_neg c115] at h
 have c115b : decide (t3 < 0) = false := decide_eq_false (by omega)
 clear c115
 replace h := Option.bind_eq_some_iff.mp h
 obtain ⟨t8, A6_, h⟩ := h
 try dsimp only at h
 have A6 := Aside0.mk A6_
 clear A6_
 replace h := Option.bind_eq_some_iff.mp h
 obtain ⟨⟨t17, t18⟩, A15_, h⟩ := h
 try dsimp only at h
 have A15 := Aside0.mk A15_
 clear A15_
 replace h := Option.bind_eq_some_iff.mp h
 obtain ⟨t28, A26_, h⟩ := h
 try dsimp only at h
 have A26 := Aside0.mk A26_
 clear A26_
 replace h := Option.bind_eq_some_iff.mp h
 obtain ⟨⟨t37, t38⟩, A35_, h⟩ := h
 try dsimp only at h
 have A35 := Aside0.mk A35_
 clear A35_
 replace h := Option.bind_eq_some_iff.mp h
 obtain ⟨t48, A46_, h⟩ := h
 try dsimp only at h
 have A46 := Aside0.mk A46_
 clear A46_
 by_cases c116 : t48 = true
 rotate_left
 ·rw [if_neg c116] at h; exact absurd h (by simp)
 rw [if_pos c116] at h
 subst c116
 by_cases c117 : t38 = t18
 rotate_left
 ·rw [if_neg c117] at h; exact absurd h (by simp)
 rw [if_pos c117] at h
 have c117b : (t38 != t18) = false := by rw [c117]; simp
 clear c117
 replace h := Option.bind_eq_some_iff.mp h
 obtain ⟨t53, A51_, h⟩ := h
 try dsimp only at h
 have A51 := Aside0.mk A51_
 clear A51_
 replace h := Option.bind_eq_some_iff.mp h
 obtain ⟨t63, A61_, h⟩ := h
 try dsimp only at h
 have A61 := Aside0.mk A61_
 clear A61_
 by_cases c118 : t63 = true
 rotate_left
 ·rw [if_neg c118] at h; exact absurd h (by simp)
 rw [if_pos c118] at h
 subst c118
 replace h := Option.bind_eq_some_iff.mp h
 obtain ⟨⟨t67, t68⟩, A65_, h⟩ := h
 try dsimp only at h
 have A65 := Aside0.mk A65_
 clear A65_
 by_cases c119 : ¬ t67 < 0
 rotate_left
 ·rw [if_neg c119] at h; exact absurd h (by simp)
 rw [if_pos c119] at h
 have c119b : decide (t67 < 0) = false := decide_eq_false c119
 clear c119
 replace h := Option.bind_eq_some_iff.mp h
 obtain ⟨t74, A72_, h⟩ := h
 try dsimp only at h
 have A72 := Aside0.mk A72_
 clear A72_
 by_cases c120 : t74 = true
 rotate_left
 ·rw [if_neg c120] at h; exact absurd h (by simp)
 rw [if_pos c120] at h
 subst c120
 by_cases c121 : t38 = t18
 rotate_left
 ·rw [if_neg c121] at h; exact absurd h (by simp)
 rw [if_pos c121] at h
 have c121b : (t38 != t18) = false := by rw [c121]; simp
 clear c121
 replace h := Option.bind_eq_some_iff.mp h
 obtain ⟨⟨t78, t79⟩, A76_, h⟩ := h
 try dsimp only at h
 have A76 := Aside0.mk A76_
 clear A76_
 replace h := Option.bind_eq_some_iff.mp h
 obtain ⟨t84, A82_, h⟩ := h
 try dsimp only at h
 have A82 := Aside0.mk A82_
 clear A82_
 by_cases c122 : ¬ t84 < 0
 rotate_left
 ·rw [if_neg c122] at h; exact absurd h (by simp)
 rw [if_pos c122] at h
 have c122b : decide (t84 < 0) = false := decide_eq_false c122
 clear c122
 by_cases c123 : t84 = t78
 rotate_left
 ·rw [if_neg c123] at h; exact absurd h (by simp)
 rw [if_pos c123] at h
 have c123b : (t84 != t78) = false := by rw [c123]; simp
 clear c123
 replace h := Option.bind_eq_some_iff.mp h
 obtain ⟨t89, A87_, h⟩ := h
 try dsimp only at h
 have A87 := Aside0.mk A87_
 clear A87_
 replace h := Option.bind_eq_some_iff.mp h
 obtain ⟨⟨t98, t99⟩, A96_, h⟩ := h
 try dsimp only at h
 have A96 := Aside0.mk A96_
 clear A96_
 replace h := Option.bind_eq_some_iff.mp h
 obtain ⟨t109, A107_, h⟩ := h
 try dsimp only at h
 have A107 := Aside0.mk A107_
 clear A107_
 by_cases c124 : t109 = true
 rotate_left
 ·rw [if_neg c124] at h; exact absurd h (by simp)
 rw [if_pos c124] at h
 subst c124
 by_cases c125 : t99 = t18
 rotate_left
 ·rw [if_neg c125] at h; exact absurd h (by simp)
 rw [if_pos c125] at h
 have c125b : (t99 != t18) = false := by rw [c125]; simp
 clear c125
 replace h := Option.bind_eq_some_iff.mp h
 obtain ⟨t113, A111_, h⟩ := h
 try dsimp only at h
 have A111 := Aside0.mk A111_
 clear A111_
 by_cases c126 : ¬ t113 < 0
 rotate_left
 ·rw [if_neg c126] at h; exact absurd h (by simp)
 rw [if_pos c126] at h
 have c126b : decide (t113 < 0) = false := decide_eq_false c126
 clear c126
 by_cases c127 : t113 = t78
 rotate_left
 ·rw [if_neg c127] at h; exact absurd h (by simp)
 rw [if_pos c127] at h
 have c127b : (t113 != t78) = false := by rw [c127]; simp
 clear c127
 obtain rfl := Option.some.inj h
 go_enter Tryz.func3, Tryz.ntmps3
 go_wp2_with fail
 refine (laws_szBlockS.calls k _ _ l0 1048576 _ _ (Kd.C_below HR0.out HB.out) HC0.out A1.out).mono ?_
 rintro e w2 ⟨rfl, hb⟩
 have SZ4 := Aside0.mk hb.size
 replace HB := Aside0.mk (below_step HB.out hb)
 clear hb
 go_wp2_with fail
 refine (laws_toBlockS.calls k _ _ l0 _ _ (Kd.C_below HR0.out HB.out) HC0.out A6.out).mono ?_
 rintro e w7 ⟨v9, rfl, ho10, hb⟩
 have SZ11 := Aside0.mk hb.size
 obtain ⟨Ao13, co14, rfl⟩ := Kd.R_slice ho10
 have F12 := Aside0.mk (Kd.R_lower (Kd.R_mono (ok' := fun k_ => w2.heap.size ≤ k_ ∧ k_ < w7.heap.size) (Kd.R_bound ho10) (fun k_ hk_ => ⟨hk_.2.1, hk_.2.2.1⟩)) HB.out.size)
 clear ho10
 replace HB := Aside0.mk (below_step HB.out hb)
 clear hb
 go_wp2_with fail
 refine (spec_BuildingsOfBlocks.calls k _ _ t8 _ _ _ (Kd.R_reads' F12.out).2.2 (by rw [← (Kd.R_reads' F12.out).1]; exact (Kd.R_reads' F12.out).2.1) A15.out).mono ?_
 rintro e w16 ⟨v19, rfl, ho20, hb⟩
 have SZ21 := Aside0.mk hb.size
 replace F12 := Aside0.mk (Kd.R_below F12.out hb)
 obtain ⟨Ao23, co24, rfl⟩ := Kd.S_slice ho20
 have F22 := Aside0.mk (Kd.S_lower (Kd.S_mono (ok' := fun k_ => w7.heap.size ≤ k_ ∧ k_ < w16.heap.size) (Kd.S_bound ho20) (fun k_ hk_ => ⟨hk_.2.1, hk_.2.2.1⟩)) HB.out.size)
 clear ho20
 replace HB := Aside0.mk (below_step HB.out hb)
 clear hb
 go_wp2_with fail
 refine (laws_toBlockS.calls k _ _ l0 _ _ (Kd.C_below HR0.out HB.out) HC0.out A26.out).mono ?_
 rintro e w27 ⟨v29, rfl, ho30, hb⟩
 have SZ31 := Aside0.mk hb.size
 replace F12 := Aside0.mk (Kd.R_below F12.out hb)
 replace F22 := Aside0.mk (Kd.S_below F22.out hb)
 obtain ⟨Ao33, co34, rfl⟩ := Kd.R_slice ho30
 have F32 := Aside0.mk (Kd.R_lower (Kd.R_mono (ok' := fun k_ => w16.heap.size ≤ k_ ∧ k_ < w27.heap.size) (Kd.R_bound ho30) (fun k_ hk_ => ⟨hk_.2.1, hk_.2.2.1⟩)) HB.out.size)
 clear ho30
 replace HB := Aside0.mk (below_step HB.out hb)
 clear hb
 go_wp2_with fail
 refine (impl_BuildingsOfBlocks.calls k _ _ t28 _ _ _ (Kd.R_reads' F32.out).2.2 (by rw [← (Kd.R_reads' F32.out).1]; exact (Kd.R_reads' F32.out).2.1) (HSH.out.below HB.out) A35.out).mono ?_
 rintro e w36 ⟨v39, rfl, ho40, hb⟩
 have SZ41 := Aside0.mk hb.size
 replace F12 := Aside0.mk (Kd.R_below F12.out hb)
 replace F22 := Aside0.mk (Kd.S_below F22.out hb)
 replace F32 := Aside0.mk (Kd.R_below F32.out hb)
 obtain ⟨Ao43, co44, rfl⟩ := Kd.S_slice ho40
 have F42 := Aside0.mk (Kd.S_lower (Kd.S_mono (ok' := fun k_ => w27.heap.size ≤ k_ ∧ k_ < w36.heap.size) (Kd.S_bound ho40) (fun k_ hk_ => ⟨hk_.2.1, hk_.2.2.1⟩)) HB.out.size)
 clear ho40
 replace HB := Aside0.mk (below_step HB.out hb)
 clear hb
 go_wp2_with fail
 refine (laws_eqBuildingS.calls k _ _ t37 _ _ t17 _ _ (Kd.S_reads' F42.out).2.2 (by rw [← (Kd.S_reads' F42.out).1]; exact (Kd.S_reads' F42.out).2.1) (Kd.S_reads' F22.out).2.2 (by rw [← (Kd.S_reads' F22.out).1]; exact (Kd.S_reads' F22.out).2.1) A46.out).mono ?_
 rintro e w47 ⟨rfl, hb⟩
 have SZ49 := Aside0.mk hb.size
 replace F12 := Aside0.mk (Kd.R_below F12.out hb)
 replace F22 := Aside0.mk (Kd.S_below F22.out hb)
 replace F32 := Aside0.mk (Kd.R_below F32.out hb)
 replace F42 := Aside0.mk (Kd.S_below F42.out hb)
 replace HB := Aside0.mk (below_step HB.out hb)
 clear hb
 go_wp2_with fail
 refine (laws_toBlockS.calls k _ _ l0 _ _ (Kd.C_below HR0.out HB.out) HC0.out A51.out).mono ?_
 rintro e w52 ⟨v54, rfl, ho55, hb⟩
 have SZ56 := Aside0.mk hb.size
 replace F12 := Aside0.mk (Kd.R_below F12.out hb)
 replace F22 := Aside0.mk (Kd.S_below F22.out hb)
 replace F32 := Aside0.mk (Kd.R_below F32.out hb)
 replace F42 := Aside0.mk (Kd.S_below F42.out hb)
 obtain ⟨Ao58, co59, rfl⟩ := Kd.R_slice ho55
 have F57 := Aside0.mk (Kd.R_lower (Kd.R_mono (ok' := fun k_ => w47.heap.size ≤ k_ ∧ k_ < w52.heap.size) (Kd.R_bound ho55) (fun k_ hk_ => ⟨hk_.2.1, hk_.2.2.1⟩)) HB.out.size)
 clear ho55
 replace HB := Aside0.mk (below_step HB.out hb)
 clear hb
 go_wp2_with fail
 refine (laws_eqBlockS.calls k _ _ t28 _ _ t53 _ _ (Kd.R_reads' F32.out).2.2 (by rw [← (Kd.R_reads' F32.out).1]; exact (Kd.R_reads' F32.out).2.1) (Kd.R_reads' F57.out).2.2 (by rw [← (Kd.R_reads' F57.out).1]; exact (Kd.R_reads' F57.out).2.1) A61.out).mono ?_
 rintro e w62 ⟨rfl, hb⟩
 have SZ64 := Aside0.mk hb.size
 replace F12 := Aside0.mk (Kd.R_below F12.out hb)
 replace F22 := Aside0.mk (Kd.S_below F22.out hb)
 replace F32 := Aside0.mk (Kd.R_below F32.out hb)
 replace F42 := Aside0.mk (Kd.S_below F42.out hb)
 replace F57 := Aside0.mk (Kd.R_below F57.out hb)
 replace HB := Aside0.mk (below_step HB.out hb)
 clear hb
 go_wp2_with fail
 refine (laws_markBlockS.calls k (fun k_ => w16.heap.size ≤ k_ ∧ k_ < w27.heap.size) _ t28 1 _ _ w _ HB.out F32.out A65.out).mono ?_
 rintro e w66 ⟨rfl, ho69, hb, hk⟩
 have SZ70 := Aside0.mk hk.1
 replace F12 := Aside0.mk (Kd.R_step F12.out (fun k_ ho_ hlt_ => hk.2 k_ hlt_ (by have := SZ4.out; have := SZ11.out; have := SZ21.out; have := SZ31.out; have := SZ41.out; have := SZ49.out; have := SZ56.out; have := SZ64.out; have := SZ70.out; omega)))
 replace F22 := Aside0.mk (Kd.S_step F22.out (fun k_ ho_ hlt_ => hk.2 k_ hlt_ (by have := SZ4.out; have := SZ11.out; have := SZ21.out; have := SZ31.out; have := SZ41.out; have := SZ49.out; have := SZ56.out; have := SZ64.out; have := SZ70.out; omega)))
 replace F42 := Aside0.mk (Kd.S_step F42.out (fun k_ ho_ hlt_ => hk.2 k_ hlt_ (by have := SZ4.out; have := SZ11.out; have := SZ21.out; have := SZ31.out; have := SZ41.out; have := SZ49.out; have := SZ56.out; have := SZ64.out; have := SZ70.out; omega)))
 replace F57 := Aside0.mk (Kd.R_step F57.out (fun k_ ho_ hlt_ => hk.2 k_ hlt_ (by have := SZ4.out; have := SZ11.out; have := SZ21.out; have := SZ31.out; have := SZ41.out; have := SZ49.out; have := SZ56.out; have := SZ64.out; have := SZ70.out; omega)))
 replace F32 := Aside0.mk (Kd.R_mono (Kd.R_tight rfl ho69) (fun k_ hk_ => F32.out.1 k_ hk_.symm))
 replace HB := Aside0.mk hb
 clear hb hk ho69
 go_wp2_with fail
 refine (laws_eqBuildingS.calls k _ _ t37 _ _ t17 _ _ (Kd.S_reads' F42.out).2.2 (by rw [← (Kd.S_reads' F42.out).1]; exact (Kd.S_reads' F42.out).2.1) (Kd.S_reads' F22.out).2.2 (by rw [← (Kd.S_reads' F22.out).1]; exact (Kd.S_reads' F22.out).2.1) A72.out).mono ?_
 rintro e w73 ⟨rfl, hb⟩
 have SZ75 := Aside0.mk hb.size
 replace F12 := Aside0.mk (Kd.R_below F12.out hb)
 replace F22 := Aside0.mk (Kd.S_below F22.out hb)
 replace F32 := Aside0.mk (Kd.R_below F32.out hb)
 replace F42 := Aside0.mk (Kd.S_below F42.out hb)
 replace F57 := Aside0.mk (Kd.R_below F57.out hb)
 replace HB := Aside0.mk (below_step HB.out hb)
 clear hb
 go_wp2_with fail
 refine (laws_markBuildingS.calls k (fun k_ => w27.heap.size ≤ k_ ∧ k_ < w36.heap.size) _ t37 1 _ _ w _ HB.out F42.out A76.out).mono ?_
 rintro e w77 ⟨rfl, ho80, hb, hk⟩
 have SZ81 := Aside0.mk hk.1
 replace F12 := Aside0.mk (Kd.R_step F12.out (fun k_ ho_ hlt_ => hk.2 k_ hlt_ (by have := SZ4.out; have := SZ11.out; have := SZ21.out; have := SZ31.out; have := SZ41.out; have := SZ49.out; have := SZ56.out; have := SZ64.out; have := SZ70.out; have := SZ75.out; have := SZ81.out; omega)))
 replace F22 := Aside0.mk (Kd.S_step F22.out (fun k_ ho_ hlt_ => hk.2 k_ hlt_ (by have := SZ4.out; have := SZ11.out; have := SZ21.out; have := SZ31.out; have := SZ41.out; have := SZ49.out; have := SZ56.out; have := SZ64.out; have := SZ70.out; have := SZ75.out; have := SZ81.out; omega)))
 replace F32 := Aside0.mk (Kd.R_step F32.out (fun k_ ho_ hlt_ => hk.2 k_ hlt_ (by have := SZ4.out; have := SZ11.out; have := SZ21.out; have := SZ31.out; have := SZ41.out; have := SZ49.out; have := SZ56.out; have := SZ64.out; have := SZ70.out; have := SZ75.out; have := SZ81.out; omega)))
 replace F57 := Aside0.mk (Kd.R_step F57.out (fun k_ ho_ hlt_ => hk.2 k_ hlt_ (by have := SZ4.out; have := SZ11.out; have := SZ21.out; have := SZ31.out; have := SZ41.out; have := SZ49.out; have := SZ56.out; have := SZ64.out; have := SZ70.out; have := SZ75.out; have := SZ81.out; omega)))
 replace F42 := Aside0.mk ho80
 replace HB := Aside0.mk hb
 clear hb hk ho80
 go_wp2_with fail
 refine calls_of_args (args' := #[.slice Ao43 t79.length co44, .int .i64 (1)]) (by rw [show t37.length = t79.length from (Kd.S_reads' F42.out).1]) ?_
 refine (laws_heldBuildingS.calls k _ _ t79 1 _ _ (Kd.S_reads' F42.out).2.2 (by rw [← (Kd.S_reads' F42.out).1]; exact (Kd.S_reads' F42.out).2.1) A82.out).mono ?_
 rintro e w83 ⟨rfl, hb⟩
 have SZ85 := Aside0.mk hb.size
 replace F12 := Aside0.mk (Kd.R_below F12.out hb)
 replace F22 := Aside0.mk (Kd.S_below F22.out hb)
 replace F32 := Aside0.mk (Kd.R_below F32.out hb)
 replace F42 := Aside0.mk (Kd.S_below F42.out hb)
 replace F57 := Aside0.mk (Kd.R_below F57.out hb)
 replace HB := Aside0.mk (below_step HB.out hb)
 clear hb
 go_wp2_with fail
 refine (laws_toBlockS.calls k _ _ l0 _ _ (Kd.C_below HR0.out HB.out) HC0.out A87.out).mono ?_
 rintro e w88 ⟨v90, rfl, ho91, hb⟩
 have SZ92 := Aside0.mk hb.size
 replace F12 := Aside0.mk (Kd.R_below F12.out hb)
 replace F22 := Aside0.mk (Kd.S_below F22.out hb)
 replace F32 := Aside0.mk (Kd.R_below F32.out hb)
 replace F42 := Aside0.mk (Kd.S_below F42.out hb)
 replace F57 := Aside0.mk (Kd.R_below F57.out hb)
 obtain ⟨Ao94, co95, rfl⟩ := Kd.R_slice ho91
 have F93 := Aside0.mk (Kd.R_lower (Kd.R_mono (ok' := fun k_ => w83.heap.size ≤ k_ ∧ k_ < w88.heap.size) (Kd.R_bound ho91) (fun k_ hk_ => ⟨hk_.2.1, hk_.2.2.1⟩)) HB.out.size)
 clear ho91
 replace HB := Aside0.mk (below_step HB.out hb)
 clear hb
 go_wp2_with fail
 refine (impl_BuildingsOfBlocks.calls k _ _ t89 _ _ _ (Kd.R_reads' F93.out).2.2 (by rw [← (Kd.R_reads' F93.out).1]; exact (Kd.R_reads' F93.out).2.1) (HSH.out.below HB.out) A96.out).mono ?_
 rintro e w97 ⟨v100, rfl, ho101, hb⟩
 have SZ102 := Aside0.mk hb.size
 replace F12 := Aside0.mk (Kd.R_below F12.out hb)
 replace F22 := Aside0.mk (Kd.S_below F22.out hb)
 replace F32 := Aside0.mk (Kd.R_below F32.out hb)
 replace F42 := Aside0.mk (Kd.S_below F42.out hb)
 replace F57 := Aside0.mk (Kd.R_below F57.out hb)
 replace F93 := Aside0.mk (Kd.R_below F93.out hb)
 obtain ⟨Ao104, co105, rfl⟩ := Kd.S_slice ho101
 have F103 := Aside0.mk (Kd.S_lower (Kd.S_mono (ok' := fun k_ => w88.heap.size ≤ k_ ∧ k_ < w97.heap.size) (Kd.S_bound ho101) (fun k_ hk_ => ⟨hk_.2.1, hk_.2.2.1⟩)) HB.out.size)
 clear ho101
 replace HB := Aside0.mk (below_step HB.out hb)
 clear hb
 go_wp2_with fail
 refine (laws_eqBuildingS.calls k _ _ t98 _ _ t17 _ _ (Kd.S_reads' F103.out).2.2 (by rw [← (Kd.S_reads' F103.out).1]; exact (Kd.S_reads' F103.out).2.1) (Kd.S_reads' F22.out).2.2 (by rw [← (Kd.S_reads' F22.out).1]; exact (Kd.S_reads' F22.out).2.1) A107.out).mono ?_
 rintro e w108 ⟨rfl, hb⟩
 have SZ110 := Aside0.mk hb.size
 replace F12 := Aside0.mk (Kd.R_below F12.out hb)
 replace F22 := Aside0.mk (Kd.S_below F22.out hb)
 replace F32 := Aside0.mk (Kd.R_below F32.out hb)
 replace F42 := Aside0.mk (Kd.S_below F42.out hb)
 replace F57 := Aside0.mk (Kd.R_below F57.out hb)
 replace F93 := Aside0.mk (Kd.R_below F93.out hb)
 replace F103 := Aside0.mk (Kd.S_below F103.out hb)
 replace HB := Aside0.mk (below_step HB.out hb)
 clear hb
 go_wp2_with fail
 refine calls_of_args (args' := #[.slice Ao43 t79.length co44, .int .i64 (1)]) (by rw [show t37.length = t79.length from (Kd.S_reads' F42.out).1]) ?_
 refine (laws_heldBuildingS.calls k _ _ t79 1 _ _ (Kd.S_reads' F42.out).2.2 (by rw [← (Kd.S_reads' F42.out).1]; exact (Kd.S_reads' F42.out).2.1) A111.out).mono ?_
 rintro e w112 ⟨rfl, hb⟩
 have SZ114 := Aside0.mk hb.size
 replace F12 := Aside0.mk (Kd.R_below F12.out hb)
 replace F22 := Aside0.mk (Kd.S_below F22.out hb)
 replace F32 := Aside0.mk (Kd.R_below F32.out hb)
 replace F42 := Aside0.mk (Kd.S_below F42.out hb)
 replace F57 := Aside0.mk (Kd.R_below F57.out hb)
 replace F93 := Aside0.mk (Kd.R_below F93.out hb)
 replace F103 := Aside0.mk (Kd.S_below F103.out hb)
 replace HB := Aside0.mk (below_step HB.out hb)
 clear hb
 go_wp2
 go_ret
 exact ⟨eZ, bZ⟩
end Go.Proofs.YtlbcnflcibmifaaGreatDoor.XT
end

section
namespace Go.Proofs.YtlbcnflcibmifaaGreatDoor.Open
open Go.ChangeShapes Go.WideShapes Go.RowKit Go.Proofs.YtlbcnflcibmifaaGreatDoorW.PrintWords
set_option linter.unusedVariables false
def Opens (P : Program) (t : TypeId) {α : Type} (d : Kd α) (Q : α → Prop) : Prop :=
  P.cellsOf t = d.sz ∧ ∀ (H : Type) (enc : TypeId × Value → H) (w : World) (base : Nat) (spare : Nat → Bool) (held : Bool) (fuel : Nat) (cs : List Value) (x : DataW H × List MemPlace),
    DataW.trod enc P w base spare held fuel t cs = some x → ∃ a : α, d.K w a cs ∧ Q a
theorem Opens.int {P : Program} {t : TypeId} {k : IntKind} (hu : P.underlying t = some (.int k)) (hc : P.cellsOf t = 1) : Opens P t (Kd.int k) (fun n => (Lit.int k n).wf = true) := by
  refine ⟨hc, fun H enc w base spare held fuel cs x h => ?_⟩
  obtain ⟨n, rfl, _, hw⟩ := DataW.trod_int hu h
  exact ⟨n, rfl, hw⟩
theorem Opens.bool {P : Program} {t : TypeId} (hu : P.underlying t = some .bool) (hc : P.cellsOf t = 1) : Opens P t Kd.bool (fun _ => True) := by
  refine ⟨hc, fun H enc w base spare held fuel cs x h => ?_⟩
  obtain ⟨b, rfl, _⟩ := DataW.trod_bool hu h
  exact ⟨b, rfl, trivial⟩
theorem Opens.string {P : Program} {t : TypeId} (hu : P.underlying t = some .string) (hc : P.cellsOf t = 1) : Opens P t Kd.string (fun s => s.size ≤ maxLen) := by
  refine ⟨hc, fun H enc w base spare held fuel cs x h => ?_⟩
  obtain ⟨s, rfl, _, hs⟩ := DataW.trod_string hu h
  exact ⟨s, rfl, hs⟩
theorem choose_list {α : Type} {n : Nat} {p : Nat → α → Prop} (h : ∀ i, i < n → ∃ x, p i x) : ∃ l : List α, l.length = n ∧ ∀ i x, l[i]? = some x → p i x := by
  induction n with
  | zero => exact ⟨[], rfl, fun i x hx => by simp at hx⟩
  | succ n ih =>
    obtain ⟨l, hl, hp⟩ := ih (fun i hi => h i (by omega))
    obtain ⟨x, hx⟩ := h n (by omega)
    refine ⟨l ++ [x], by simp [hl], fun i y hy => ?_⟩
    rcases Nat.lt_or_ge i l.length with hi | hi
    · rw [List.getElem?_append_left hi] at hy
      exact hp i y hy
    · have : i = l.length := by
        have := (List.getElem?_eq_some_iff.1 hy).1
        simp at this
        omega
      subst this
      simp at hy
      subst hy
      rw [hl]
      exact hx
theorem cells?_get {w : World} {base : Nat} {a : Addr} {n : Nat} {cs : List Value} (h : w.cells? base a n = some cs) (i : Nat) (u : Value) (hu : cs[i]? = some u) : w.cell? (a.add i) = some u := by
  unfold World.cells? at h
  split at h
  · have hlen : cs.length = n := by simpa using mapM_some_length h
    have hi : i < n := by
      have := (List.getElem?_eq_some_iff.1 hu).1
      omega
    have := mapM_some_get h i i (by simp [hi])
    rw [hu] at this
    exact this
  · cases h
theorem Opens.slice {P : Program} {t e : TypeId} {α : Type} {d : Kd α} {Q : α → Prop} (hu : P.underlying t = some (.slice e)) (hc : P.cellsOf t = 1) (hd : Opens P e d Q) :
    Opens P t (Kd.slice e d) (fun xs => xs.length ≤ maxLen ∧ ∀ x ∈ xs, Q x) := by
  refine ⟨hc, fun H enc w base spare held fuel cs x h => ?_⟩
  rcases Go.Deep.open_slice hu h with ⟨rfl, _⟩ | ⟨a, len, cap, m, n, D, Pl, rfl, _, hl, hm, hmm, _, hx⟩
  · exact ⟨[], ⟨none, 0, rfl, Nat.le_refl _, rfl, by simp, fun h => absurd h (by simp)⟩, by simp, fun x hx => by simp at hx⟩
  · have hlm : len ≤ m := by rw [hmm]; split <;> omega
    obtain ⟨l, hl1, hp⟩ := choose_list (n := len) (p := fun i (x : α) => ∃ cs', w.cells? base (a.add (i * d.sz)) d.sz = some cs' ∧ d.K w x cs' ∧ Q x) (fun i hi => by
      obtain ⟨cs', h1, h2⟩ := hx i (by omega)
      rw [hd.1] at h1
      obtain ⟨y, hy, hq⟩ := hd.2 H enc w base spare held n cs' _ h2
      exact ⟨y, cs', h1, hy, hq⟩)
    have hmax : (maxLen : Nat) = 9223372036854775807 := by unfold maxLen; omega
    refine ⟨l, ⟨some a, cap, by rw [hl1], by omega, rfl, by omega, fun _ => ⟨a, rfl, fun j p hj => ?_⟩⟩, by omega, fun x hx => ?_⟩
    · obtain ⟨cs', h1, h2, _⟩ := hp j p hj
      refine ⟨cs', d.K_len h2, h2, fun i u hi => ?_⟩
      have := cells?_get h1 i u hi
      rwa [Go.Deep.add_add] at this
    · obtain ⟨i, hi, rfl⟩ := List.mem_iff_getElem.1 hx
      obtain ⟨cs', _, _, h3⟩ := hp i _ (List.getElem?_eq_getElem hi)
      exact h3
def OpensF (P : Program) (fs : List Field) (off : Nat) {α : Type} (d : Kd α) (Q : α → Prop) : Prop :=
  ∀ (H : Type) (enc : TypeId × Value → H) (w : World) (base : Nat) (spare : Nat → Bool) (held : Bool) (n : Nat) (cs : List Value), off + d.sz = cs.length →
    (∀ f ∈ fs, ∃ y, DataW.trod enc P w base spare held n f.type ((cs.drop f.offset).take (P.cellsOf f.type)) = some y) → ∃ a : α, d.K w a (cs.drop off) ∧ Q a
theorem OpensF.one {P : Program} {f : Field} {off : Nat} {α : Type} {d : Kd α} {Q : α → Prop} (ho : f.offset = off) (h : Opens P f.type d Q) : OpensF P [f] off d Q := by
  intro H enc w base spare held n cs hl hf
  obtain ⟨y, hy⟩ := hf f List.mem_cons_self
  rw [ho, h.1, List.take_of_length_le (by rw [List.length_drop]; omega)] at hy
  exact h.2 H enc w base spare held n _ y hy
theorem OpensF.cons {P : Program} {f : Field} {fs : List Field} {off : Nat} {α β : Type} {d1 : Kd α} {d2 : Kd β} {Q1 : α → Prop} {Q2 : β → Prop} (ho : f.offset = off) (h : Opens P f.type d1 Q1) (hs : OpensF P fs (off + d1.sz) d2 Q2) :
    OpensF P (f :: fs) off (Kd.pair d1 d2) (fun x => Q1 x.1 ∧ Q2 x.2) := by
  intro H enc w base spare held n cs hl hf
  have hl' : off + (d1.sz + d2.sz) = cs.length := hl
  obtain ⟨y, hy⟩ := hf f List.mem_cons_self
  rw [ho, h.1] at hy
  obtain ⟨a, ha, qa⟩ := h.2 H enc w base spare held n _ y hy
  obtain ⟨b, hb, qb⟩ := hs H enc w base spare held n cs (by omega) (fun g hg => hf g (List.mem_cons_of_mem _ hg))
  refine ⟨(a, b), ⟨_, _, ?_, ha, hb⟩, qa, qb⟩
  rw [← List.drop_drop, List.take_append_drop]
theorem Opens.struct {P : Program} {t : TypeId} {fs : Array Field} {α β : Type} {d : Kd α} {Q : α → Prop} (f : β → α) (g : α → β) (hfg : ∀ x, f (g x) = x) (hu : P.underlying t = some (.struct fs)) (hc : P.cellsOf t = d.sz) (h : OpensF P fs.toList 0 d Q) :
    Opens P t (Kd.iso d f) (fun x => Q (f x)) := by
  refine ⟨hc, fun H enc w base spare held fuel cs x hx => ?_⟩
  obtain ⟨xs, n, rfl, _, hl, hxs, hf⟩ := DataW.trod_struct hu hx
  obtain ⟨a, ha, qa⟩ := h H enc w base spare held n cs (by omega) (fun f hf0 => by
    obtain ⟨i, hi, rfl⟩ := List.mem_iff_getElem.1 hf0
    have hi' : i < fs.size := by simpa using hi
    have := hf i fs[i] (Array.getElem?_eq_getElem hi')
    rw [List.getElem?_eq_getElem (by omega)] at this
    exact ⟨_, by simpa using this⟩)
  refine ⟨g a, ?_, ?_⟩
  · show d.K w (f (g a)) cs
    rw [hfg]
    simpa using ha
  · show Q (f (g a))
    rw [hfg]
    exact qa
theorem open_sl {H : Type} {enc : TypeId × Value → H} {P : Program} {W : World} {base B : Nat} {spare : Nat → Bool} {held : Bool} {t e : TypeId} {v : Value} {dd : DataW H} {ps : List MemPlace} {α : Type} {d : Kd α} {Q : α → Prop}
    (hu : P.underlying t = some (.slice e)) (hc : P.cellsOf t = 1) (hd : Opens P e d Q) (hv : Value.okWide P W .any B t v) (h : DataW.Trod enc P W base spare held t v dd ps) :
    ∃ (A : Option Addr) (c : Nat) (l : List α), v = .slice A l.length c ∧ l.length ≤ c ∧ Kd.C d W A l.length l ∧ l.length ≤ maxLen ∧ ∀ x ∈ l, Q x := by
  obtain ⟨a0, len, cap, rfl⟩ := okWide_slice hu hv
  obtain ⟨fuel, hf⟩ := h
  obtain ⟨l, ⟨A, c, he, hl, hC⟩, hm, hq⟩ := (Opens.slice hu hc hd).2 H enc W base spare held fuel _ _ hf
  refine ⟨A, c, l, ?_, hl, hC, hm, hq⟩
  simpa [Value.cells] using he
end Go.Proofs.YtlbcnflcibmifaaGreatDoor.Open
end

section
namespace Go.Proofs.YtlbcnflcibmifaaGreatDoor.XT
open Go.RowKit Go.Proofs.YtlbcnflcibmifaaGreatDoorW.PrintWords Go.Proofs.YtlbcnflcibmifaaGreatDoor.Open
set_option linter.unusedVariables false
def Q36 (x : S36) : Prop := (x.f0.size ≤ maxLen) ∧ (x.f1.size ≤ maxLen) ∧ (x.f2.size ≤ maxLen)
theorem opens36 : Opens Tryz.prog 36 k36 Q36 := Opens.struct (fun x : S36 => (x.f0, x.f1, x.f2)) (fun p => (⟨p.1, p.2.1, p.2.2⟩ : S36)) (fun _ => rfl) Tryz.underlying36 (by kernel_rfl) (OpensF.cons rfl (Opens.string Tryz.underlying9 (by kernel_rfl)) (OpensF.cons rfl (Opens.string Tryz.underlying9 (by kernel_rfl)) (OpensF.one rfl (Opens.string Tryz.underlying9 (by kernel_rfl)))))
end Go.Proofs.YtlbcnflcibmifaaGreatDoor.XT
end

section
namespace Go.Proofs.YtlbcnflcibmifaaGreatDoor.XT
open Go.RowKit Go.Proofs.YtlbcnflcibmifaaGreatDoorW.PrintWords
def laws_FnExactBuildingsOfBlocks.Pure : Prop := ∀ (a0 : List (S36)), ((a0.length ≤ maxLen ∧ ∀ y2 ∈ a0, Q36 y2)) → ∃ k, laws_FnExactBuildingsOfBlocks.f k a0 = some true
end Go.Proofs.YtlbcnflcibmifaaGreatDoor.XT
end

section
namespace Go.Proofs.YtlbcnflcibmifaaGreatDoor.EvK
open Go.RowKit Go.Proofs.YtlbcnflcibmifaaGreatDoorW.PrintWords
set_option linter.unusedVariables false
theorem w64 {n : Int} (h : -9223372036854775808 ≤ n) (h' : n ≤ 9223372036854775807) : wrap64 n = n := by unfold wrap64; omega
theorem Ev.some {α : Type} {a r : α} (h : a = r) : Ev (fun _ => Option.some a) r := h ▸ Ev.now a
theorem Ev.bind_some {α β : Type} {g : Nat → Option α} {f : Nat → α → Option β} {a : α} {r : β} (h : Ev g a) (k : Ev (fun n => f n a) r) : Ev (fun n => (g n).bind (f n)) r := Ev.bind h k
theorem getD_at {α : Type} (l : List α) (d : α) (i : Nat) (h : i < l.length) : l.getD (i : Int).toNat d = l[i] := by
  simp [List.getD_eq_getElem?_getD, List.getElem?_eq_getElem h]
theorem rd_at (l : List Int) (i : Nat) (h : i < l.length) : rd l (i : Int) = l[i] := getD_at l 0 i h
theorem rdOf_at {α : Type} (l : List α) (d : α) (i : Nat) (h : i < l.length) : rdOf d l (i : Int) = l[i] := getD_at l d i h
theorem map_done {α β : Type} (f : α → β) (l : List α) (z : β) (i : Nat) (h : i < l.length) :
    ((l.take i).map f ++ List.replicate (l.length - i) z).set i (f l[i]) = (l.take (i + 1)).map f ++ List.replicate (l.length - (i + 1)) z := by
  have e : l.length - i = (l.length - (i + 1)) + 1 := by omega
  rw [List.set_append_right _ _ (by simp; omega), e, List.replicate_succ]
  have e2 : i - ((l.take i).map f).length = 0 := by simp; omega
  rw [e2, List.set_cons_zero, List.take_succ_eq_append_getElem h, List.map_append]
  simp
theorem done_len {α β : Type} (f : α → β) (l : List α) (z : β) (i : Nat) (h : i ≤ l.length) : ((l.take i).map f ++ List.replicate (l.length - i) z).length = l.length := by simp; omega
def EvP {α : Type} (g : Nat → Option α) (P : α → Prop) : Prop := ∃ r, Ev g r ∧ P r
theorem EvP.now {α : Type} {r : α} {P : α → Prop} (h : P r) : EvP (fun _ => Option.some r) P := ⟨r, Ev.now r, h⟩
theorem EvP.of {α : Type} {g : Nat → Option α} {r : α} {P : α → Prop} (h : Ev g r) (hp : P r) : EvP g P := ⟨r, h, hp⟩
theorem EvP.mono {α : Type} {g : Nat → Option α} {P Q : α → Prop} (h : EvP g P) (hp : ∀ r, P r → Q r) : EvP g Q := by
  obtain ⟨r, h1, h2⟩ := h
  exact ⟨r, h1, hp _ h2⟩
theorem EvP.eq {α : Type} {g : Nat → Option α} {r : α} (h : EvP g (· = r)) : Ev g r := by
  obtain ⟨r', h, rfl⟩ := h
  exact h
theorem EvP.step {α : Type} {g f : Nat → Option α} {P : α → Prop} (h : ∀ k, g (k + 1) = f k) (k : EvP f P) : EvP g P := by
  obtain ⟨r, h1, h2⟩ := k
  exact ⟨r, Ev.step h h1, h2⟩
theorem EvP.bind {α β : Type} {g : Nat → Option α} {f : Nat → α → Option β} {a : α} {P : β → Prop} (h : Ev g a) (k : EvP (fun n => f n a) P) : EvP (fun n => (g n).bind (f n)) P := by
  obtain ⟨r, h1, h2⟩ := k
  exact ⟨r, Ev.bind h h1, h2⟩
theorem EvP.bindP {α β : Type} {g : Nat → Option α} {f : Nat → α → Option β} {Q : α → Prop} {P : β → Prop} (h : EvP g Q) (k : ∀ a, Q a → EvP (fun n => f n a) P) : EvP (fun n => (g n).bind (f n)) P := by
  obtain ⟨a, ha, hq⟩ := h
  exact EvP.bind ha (k a hq)
theorem EvP.rounds {α : Type} {g : Nat → Option α} {r : α} (h : EvP g (· = r)) : ∃ k, g k = Option.some r := Ev.rounds (EvP.eq h)
theorem for_evp {σ ρ : Type} {L : Nat → σ → Int → Option ρ} {Post : ρ → Prop} (n : Nat) (inv : Nat → σ → Prop)
    (step : ∀ (i : Nat) (s : σ), i < n → inv i s → (∀ s', inv (i + 1) s' → EvP (fun k => L k s' ((i : Int) + 1)) Post) → EvP (fun k => L k s i) Post)
    (fin : ∀ s, inv n s → EvP (fun k => L k s n) Post) (s : σ) (h0 : inv 0 s) : EvP (fun k => L k s 0) Post := by
  have key : ∀ (d i : Nat) (s : σ), i + d = n → inv i s → EvP (fun k => L k s i) Post := by
    intro d
    induction d with
    | zero =>
      intro i s hi hs
      obtain rfl : i = n := by omega
      exact fin s hs
    | succ d ih =>
      intro i s hi hs
      refine step i s (by omega) hs (fun s' hs' => ?_)
      simpa using ih (i + 1) s' (by omega) hs'
  simpa using key n 0 s (by omega) h0
theorem take_all {α : Type} {p : α → Prop} {l : List α} {i : Nat} (h : i < l.length) (hs : ∀ x ∈ l.take i, p x) (hx : p l[i]) : ∀ x ∈ l.take (i + 1), p x := by
  rw [List.take_succ_eq_append_getElem h]
  intro x hm
  rcases List.mem_append.1 hm with hm | hm
  · exact hs x hm
  · rw [List.mem_singleton.1 hm]
    exact hx
theorem set_done {α : Type} (E : Nat → α) (l : List α) (i : Nat) (h : i < l.length) : ((List.range i).map E ++ l.drop i).set i (E i) = (List.range (i + 1)).map E ++ l.drop (i + 1) := by
  rw [List.set_append_right _ _ (by simp), List.range_succ, List.map_append, List.append_assoc]
  congr 1
  rw [List.length_map, List.length_range, Nat.sub_self, List.drop_eq_getElem_cons h]
  rfl
theorem getD_set_self {α : Type} (l : List α) (i : Nat) (v d : α) (h : i < l.length) : (l.set i v).getD i d = v := by
  simp [List.getD_eq_getElem?_getD, h]
theorem all_ev {α : Type} {L : Nat → Int → Option Bool} (l : List α) (p : α → Bool) (b : Bool)
    (step : ∀ (i : Nat) (h : i < l.length), p l[i] = true → ∀ P, EvP (fun k => L k ((i : Int) + 1)) P → EvP (fun k => L k i) P)
    (stop : ∀ (i : Nat) (h : i < l.length), p l[i] = false → Ev (fun k => L k i) false)
    (fin : Ev (fun k => L k l.length) b) : Ev (fun k => L k 0) (l.all p && b) := by
  apply EvP.eq
  refine for_evp (L := fun k (_ : Unit) i => L k i) l.length (fun i _ => ∀ x ∈ l.take i, p x = true) ?_ ?_ () (by simp)
  · intro i _ hi hs K
    cases hp : p l[i] with
    | true => exact step i hi hp _ (K () (take_all hi hs hp))
    | false =>
      have e : l.all p = false := by
        rw [List.all_eq_false]
        exact ⟨l[i], List.getElem_mem hi, by simp [hp]⟩
      rw [e]
      exact EvP.of (stop i hi hp) rfl
  · intro _ hs
    have e : l.all p = true := by
      rw [List.all_eq_true]
      simpa using hs
    rw [e]
    exact EvP.of fin rfl
theorem bytes_at_ (s : ByteArray) (i : Nat) (h : i < s.data.toList.length) : bt s (i : Int) = ((s.data.toList[i]).toNat : Int) := by
  have h' : i < s.size := by simpa using h
  unfold bt
  rw [dif_pos (by simpa using h')]
  simp
  rfl
theorem size_len (s : ByteArray) : (s.size : Int) = (s.data.toList.length : Int) := by simp
theorem size_len' (s : ByteArray) : s.size = s.data.toList.length := by simp
end Go.Proofs.YtlbcnflcibmifaaGreatDoor.EvK
end

section
namespace Go.Proofs.YtlbcnflcibmifaaGreatDoor.PBasics
open Go.RowKit Go.Proofs.YtlbcnflcibmifaaGreatDoorW.PrintWords Go.Proofs.YtlbcnflcibmifaaGreatDoor.XT Go.Proofs.YtlbcnflcibmifaaGreatDoor.EvK
set_option linter.unusedVariables false
set_option linter.unusedSimpArgs false
def smallB (c : UInt8) : Bool := decide (97 ≤ (c.toNat : Int)) && decide ((c.toNat : Int) ≤ 122)
def digB (c : UInt8) : Bool := decide (48 ≤ (c.toNat : Int)) && decide ((c.toNat : Int) ≤ 57)
def nameB (c : UInt8) : Bool := smallB c || digB c
def nameOk (s : ByteArray) : Bool := match s.data.toList with
  | [] => false
  | c :: l => decide ((s.size : Int) ≤ 10) && smallB c && (c :: l).all nameB
def inR (n a b : Int) : Bool := decide (a ≤ n) && decide (n ≤ b)
theorem within_eq (n a b : Int) : impl_within.f n a b = some (inR n a b) := by
  unfold impl_within.f inR
  by_cases h : n ≥ a
  · rw [if_pos h, decide_eq_true (show a ≤ n from h), Bool.true_and]
  · rw [if_neg h, decide_eq_false (show ¬ a ≤ n from h), Bool.false_and]
theorem in_eq (n a b : Int) : spec_l00In.f n a b = some (inR n a b) := by
  unfold spec_l00In.f inR
  by_cases h : n ≥ a
  · rw [if_pos h, decide_eq_true (show a ≤ n from h), Bool.true_and]
  · rw [if_neg h, decide_eq_false (show ¬ a ≤ n from h), Bool.false_and]
theorem small_eq (c : UInt8) : spec_l01Small.f (c.toNat : Int) = some (smallB c) := by
  unfold spec_l01Small.f smallB
  by_cases h : (c.toNat : Int) ≥ 97
  · rw [if_pos h, decide_eq_true (show (97 : Int) ≤ c.toNat from h), Bool.true_and]
  · rw [if_neg h, decide_eq_false (show ¬ (97 : Int) ≤ c.toNat from h), Bool.false_and]
theorem dig_eq (c : UInt8) : spec_l01Digit.f (c.toNat : Int) = some (digB c) := by
  unfold spec_l01Digit.f digB
  by_cases h : (c.toNat : Int) ≥ 48
  · rw [if_pos h, decide_eq_true (show (48 : Int) ≤ c.toNat from h), Bool.true_and]
  · rw [if_neg h, decide_eq_false (show ¬ (48 : Int) ≤ c.toNat from h), Bool.false_and]
theorem onlyName_ev (s : ByteArray) (h : s.size ≤ 1048576) : Ev (fun k => impl_onlyNameBytes.f k s) (s.data.toList.all nameB) := by
  unfold impl_onlyNameBytes.f
  rw [size_len'] at h
  have := all_ev (L := fun k i => impl_onlyNameBytes.l0 k s (s.size : Int) i) s.data.toList nameB true ?_ ?_ ?_
  · simpa using this
  · intro i hi hp P K
    refine EvP.step (fun k => impl_onlyNameBytes.l0.eq_2 _ _ _ k) ?_
    simp only [size_len] at K
    simp only [size_len, if_pos (show (i : Int) < (s.data.toList.length : Int) by omega), if_pos (show (0 : Int) ≤ (i : Int) by omega), bytes_at_ s i hi, w64 (show -9223372036854775808 ≤ (i : Int) + 1 by omega) (by omega)]
    simp only [nameB, smallB, digB, Bool.or_eq_true, Bool.and_eq_true, decide_eq_true_eq] at hp
    by_cases h1 : ((s.data.toList[i]).toNat : Int) < 97
    · simp only [if_pos h1, if_neg (show ¬ ((s.data.toList[i]).toNat : Int) < 48 by omega), if_neg (show ¬ ((s.data.toList[i]).toNat : Int) > 57 by omega)]
      exact K
    · simp only [if_neg h1, if_neg (show ¬ ((s.data.toList[i]).toNat : Int) > 122 by omega)]
      exact K
  · intro i hi hp
    refine Ev.step (fun k => impl_onlyNameBytes.l0.eq_2 _ _ _ k) ?_
    simp only [size_len, if_pos (show (i : Int) < (s.data.toList.length : Int) by omega), if_pos (show (0 : Int) ≤ (i : Int) by omega), bytes_at_ s i hi, w64 (show -9223372036854775808 ≤ (i : Int) + 1 by omega) (by omega)]
    simp only [nameB, smallB, digB, Bool.or_eq_false_iff, Bool.and_eq_false_iff, decide_eq_false_iff_not] at hp
    by_cases h1 : ((s.data.toList[i]).toNat : Int) < 97
    · by_cases h2 : ((s.data.toList[i]).toNat : Int) < 48
      · simp only [if_pos h1, if_pos h2]; exact Ev.now _
      · simp only [if_pos h1, if_neg h2, if_pos (show ((s.data.toList[i]).toNat : Int) > 57 by omega)]; exact Ev.now _
    · simp only [if_neg h1, if_pos (show ((s.data.toList[i]).toNat : Int) > 122 by omega), if_neg (show ¬ ((s.data.toList[i]).toNat : Int) < 48 by omega), if_pos (show ((s.data.toList[i]).toNat : Int) > 57 by omega)]
      exact Ev.now _
  · refine Ev.step (fun k => impl_onlyNameBytes.l0.eq_2 _ _ _ k) ?_
    simp only [size_len, if_neg (show ¬ (s.data.toList.length : Int) < (s.data.toList.length : Int) by omega)]
    exact Ev.now _
theorem head_at (s : ByteArray) (c : UInt8) (l : List UInt8) (hl : s.data.toList = c :: l) : bt s 0 = (c.toNat : Int) := by
  have h : 0 < s.data.toList.length := by rw [hl]; simp
  have := bytes_at_ s 0 h
  rw [show ((0 : Nat) : Int) = 0 from rfl] at this
  rw [this]
  simp only [hl, List.getElem_cons_zero]
theorem isName_ev (s : ByteArray) (h : s.size ≤ 1048576) : Ev (fun k => impl_IsName.f k s) (nameOk s) := by
  unfold impl_IsName.f nameOk
  cases hl : s.data.toList with
  | nil =>
    have hz : s.size = 0 := by rw [size_len', hl]; rfl
    simp only [hz, Int.natCast_zero, if_pos (show (0 : Int) < 1 by omega)]
    exact Ev.now _
  | cons c l =>
    have hz : s.size = l.length + 1 := by rw [size_len', hl]; rfl
    have ho := onlyName_ev s h
    rw [hl] at ho
    simp only [if_neg (show ¬ (s.size : Int) < 1 by omega), if_pos (show (0 : Int) < (s.size : Int) by omega), head_at s c l hl]
    by_cases h1 : (s.size : Int) > 10
    · simp only [if_pos h1, decide_eq_false (show ¬ (s.size : Int) ≤ 10 by omega), Bool.false_and]
      exact Ev.now _
    · simp only [if_neg h1, decide_eq_true (show (s.size : Int) ≤ 10 by omega), Bool.true_and]
      by_cases h2 : (c.toNat : Int) < 97
      · simp only [if_pos h2, smallB, decide_eq_false (show ¬ (97 : Int) ≤ c.toNat by omega), Bool.false_and]
        exact Ev.now _
      · by_cases h3 : (c.toNat : Int) > 122
        · simp only [if_neg h2, if_pos h3, smallB, decide_eq_false (show ¬ (c.toNat : Int) ≤ 122 by omega), Bool.false_and, Bool.and_false]
          exact Ev.now _
        · simp only [if_neg h2, if_neg h3, smallB, decide_eq_true (show (97 : Int) ≤ c.toNat by omega), decide_eq_true (show (c.toNat : Int) ≤ 122 by omega), Bool.true_and]
          exact Ev.bind ho (Ev.now _)
theorem toList_eq (s : ByteArray) : s.toList = s.data.toList := by
  have := Lib.toList_data s
  first | exact this | exact this.symm
theorem specName_ev (s : ByteArray) (h : s.size ≤ 1048576) : Ev (fun k => spec_l01Name.f k s) (nameOk s) := by
  unfold spec_l01Name.f nameOk
  have hj : Ev (fun k => spec_l01Name.j0 k s true) false := by
    refine Ev.step (fun k => spec_l01Name.j0.eq_2 _ _ k) ?_
    simp only [if_true]
    exact Ev.now _
  cases hl : s.data.toList with
  | nil =>
    simp only [toList_eq, hl, if_true]
    exact hj
  | cons c l =>
    have hz : s.size = l.length + 1 := by rw [size_len', hl]; rfl
    simp only [toList_eq, hl, reduceCtorEq, if_false, if_pos (show (0 : Int) < (s.size : Int) by omega), head_at s c l hl, small_eq, Option.bind_some]
    by_cases h1 : (s.size : Int) > 10
    · simp only [if_pos h1, decide_eq_false (show ¬ (s.size : Int) ≤ 10 by omega), Bool.false_and]
      exact hj
    simp only [if_neg h1, decide_eq_true (show (s.size : Int) ≤ 10 by omega), Bool.true_and]
    cases hs : smallB c with
    | false =>
      simp only [Bool.not_false, Bool.false_and]
      exact hj
    | true =>
      simp only [Bool.not_true, Bool.true_and]
      refine Ev.step (fun k => spec_l01Name.j0.eq_2 _ _ k) ?_
      simp only [Bool.false_eq_true, if_false]
      rw [← hl]
      rw [size_len'] at h
      have := all_ev (L := fun k i => spec_l01Name.l0 k s i) s.data.toList nameB true ?_ ?_ ?_
      · simpa using this
      · intro i hi hp P K
        refine EvP.step (fun k => spec_l01Name.l0.eq_2 _ _ k) ?_
        simp only [size_len, if_pos (show (i : Int) < (s.data.toList.length : Int) by omega), if_pos (show (0 : Int) ≤ (i : Int) by omega), bytes_at_ s i hi, w64 (show -9223372036854775808 ≤ (i : Int) + 1 by omega) (by omega), small_eq, dig_eq, Option.bind_some]
        cases h2 : smallB s.data.toList[i] with
        | true => simp only [if_true]; exact K
        | false =>
          simp only [nameB, h2, Bool.false_or] at hp
          simp only [hp, Bool.false_eq_true, if_false, if_true]
          exact K
      · intro i hi hp
        refine Ev.step (fun k => spec_l01Name.l0.eq_2 _ _ k) ?_
        simp only [nameB, Bool.or_eq_false_iff] at hp
        simp only [size_len, if_pos (show (i : Int) < (s.data.toList.length : Int) by omega), if_pos (show (0 : Int) ≤ (i : Int) by omega), bytes_at_ s i hi, w64 (show -9223372036854775808 ≤ (i : Int) + 1 by omega) (by omega), small_eq, dig_eq, Option.bind_some, hp.1, hp.2, Bool.false_eq_true, if_false]
        exact Ev.now _
      · refine Ev.step (fun k => spec_l01Name.l0.eq_2 _ _ k) ?_
        simp only [size_len, if_neg (show ¬ (s.data.toList.length : Int) < (s.data.toList.length : Int) by omega)]
        exact Ev.now _
end Go.Proofs.YtlbcnflcibmifaaGreatDoor.PBasics
end

section
namespace Go.Proofs.YtlbcnflcibmifaaGreatDoor.EvK
open Go.RowKit Go.Proofs.YtlbcnflcibmifaaGreatDoorW.PrintWords
set_option linter.unusedVariables false
theorem all_to {α ρ : Type} {L : Nat → Int → Option ρ} (l : List α) (p : α → Bool) (yes no : ρ)
    (step : ∀ (i : Nat) (h : i < l.length), p l[i] = true → ∀ P, EvP (fun k => L k ((i : Int) + 1)) P → EvP (fun k => L k i) P)
    (stop : ∀ (i : Nat) (h : i < l.length), p l[i] = false → Ev (fun k => L k i) no)
    (fin : l.all p = true → Ev (fun k => L k l.length) yes) : Ev (fun k => L k 0) (if l.all p = true then yes else no) := by
  apply EvP.eq
  refine for_evp (L := fun k (_ : Unit) i => L k i) l.length (fun i _ => ∀ x ∈ l.take i, p x = true) ?_ ?_ () (by simp)
  · intro i _ hi hs K
    cases hp : p l[i] with
    | true => exact step i hi hp _ (K () (take_all hi hs hp))
    | false =>
      have e : l.all p = false := by
        rw [List.all_eq_false]
        exact ⟨l[i], List.getElem_mem hi, by simp [hp]⟩
      rw [e]
      exact EvP.of (stop i hi hp) rfl
  · intro _ hs
    have e : l.all p = true := by
      rw [List.all_eq_true]
      simpa using hs
    rw [e]
    exact EvP.of (fin e) rfl
theorem all_n {ρ : Type} {L : Nat → Int → Option ρ} (n : Nat) (p : Nat → Bool) (yes no : ρ)
    (step : ∀ (i : Nat), i < n → p i = true → ∀ P, EvP (fun k => L k ((i : Int) + 1)) P → EvP (fun k => L k i) P)
    (stop : ∀ (i : Nat), i < n → p i = false → Ev (fun k => L k i) no)
    (fin : Ev (fun k => L k n) yes) : Ev (fun k => L k 0) (if (List.range n).all p = true then yes else no) := by
  have := all_to (L := L) (List.range n) p yes no ?_ ?_ ?_
  · exact this
  · intro i hi hp P K
    simp only [List.length_range, List.getElem_range] at hi hp
    exact step i hi hp P K
  · intro i hi hp
    simp only [List.length_range, List.getElem_range] at hi hp
    exact stop i hi hp
  · intro _
    simpa using fin
theorem contains_byte (l : List UInt8) (c : UInt8) : Lib.contains l [c] = !(l.all (fun x => !(x == c))) := by
  unfold Lib.contains
  rw [Lib.index_one]
  by_cases h : 0 ≤ Lib.indexByte l c
  · obtain ⟨h1, _⟩ := Lib.indexByte_some (l := l) (c := c) (o := (Lib.indexByte l c).toNat) (by omega)
    have e : l.all (fun x => !(x == c)) = false := by
      rw [List.all_eq_false]
      exact ⟨c, List.mem_of_getElem? h1, by simp⟩
    rw [decide_eq_true h, e]; rfl
  · have hm : Lib.indexByte l c = -1 := by have := Lib.indexByte_ge l c; omega
    have hn := Lib.indexByte_none hm
    have e : l.all (fun x => !(x == c)) = true := by
      rw [List.all_eq_true]
      intro x hx
      obtain ⟨k, hk⟩ := List.getElem?_of_mem hx
      have := hn k
      rw [hk] at this
      simpa using this
    rw [decide_eq_false h, e]; rfl
end Go.Proofs.YtlbcnflcibmifaaGreatDoor.EvK
end

section
namespace Go.Proofs.YtlbcnflcibmifaaGreatDoor.PCrc
open Go.RowKit Go.Proofs.YtlbcnflcibmifaaGreatDoorW.PrintWords Go.Proofs.YtlbcnflcibmifaaGreatDoor.XT Go.Proofs.YtlbcnflcibmifaaGreatDoor.EvK
set_option linter.unusedVariables false
set_option linter.unusedSimpArgs false
def D (u : Nat) : List Int := (Lib.decDigits u).map fun b => (b.toNat : Int)
theorem itoa_size (u f : Nat) (h : u < 10 ^ f) (hf : 0 < f) : (⟨(Lib.itoa (u : Int)).toArray⟩ : ByteArray).size ≤ f := by
  have ei : Lib.itoa (u : Int) = Lib.decDigits u := by unfold Lib.itoa; rw [if_neg (by omega)]; rfl
  have hs : (⟨(Lib.itoa (u : Int)).toArray⟩ : ByteArray).size = (Lib.decDigits u).length := by rw [ei]; simp [ByteArray.size]
  rw [hs, Lib.decDigits_length]
  apply Nat.le_of_not_lt
  intro hc
  have key : ∀ (f u : Nat), u < 10 ^ f → 0 < f → Lib.nDigits u ≤ f := by
    intro f
    induction f with
    | zero => intro u _ h; omega
    | succ f ih =>
      intro u h _
      by_cases h10 : u < 10
      · rw [Lib.nDigits_small h10]; omega
      · rw [Lib.nDigits_big h10]
        rw [Nat.pow_succ] at h
        by_cases hf0 : f = 0
        · subst hf0; omega
        · have := ih (u / 10) (by omega) (by omega); omega
  have := key f u h hf
  omega
end Go.Proofs.YtlbcnflcibmifaaGreatDoor.PCrc
end

section
namespace Go.Proofs.YtlbcnflcibmifaaGreatDoor.PDecNeg
open Go.RowKit Go.Proofs.YtlbcnflcibmifaaGreatDoorW.PrintWords Go.Proofs.YtlbcnflcibmifaaGreatDoor.XT Go.Proofs.YtlbcnflcibmifaaGreatDoor.EvK Go.Proofs.YtlbcnflcibmifaaGreatDoor.PCrc
set_option linter.unusedVariables false
set_option linter.unusedSimpArgs false
theorem decI_eq (v : Int) (h1 : -100000000000000000 ≤ v) (h2 : v ≤ 100000000000000000) : impl_Decimal.f v = some (⟨(Lib.itoa v).toArray⟩ : ByteArray) := by
  unfold impl_Decimal.f strconv_FormatInt.f
  rw [if_pos ⟨rfl, by omega, by omega⟩]
  rfl
end Go.Proofs.YtlbcnflcibmifaaGreatDoor.PDecNeg
end

section
namespace Go.Proofs.YtlbcnflcibmifaaGreatDoor.ST
open Go.RowKit Go.Proofs.YtlbcnflcibmifaaGreatDoorW.PrintWords Go.Proofs.YtlbcnflcibmifaaGreatDoor.XT Go.Proofs.YtlbcnflcibmifaaGreatDoor.EvK
set_option linter.unusedVariables false
set_option linter.unusedSimpArgs false
theorem eqInt64S_ev (l : List Int) (hl : l.length ≤ 1048576) : Ev (fun k => laws_eqInt64S.f k l l) true := by
  apply EvP.eq
  unfold laws_eqInt64S.f
  simp only [if_true]
  refine for_evp (L := fun k (s : Unit) i => laws_eqInt64S.l0 k l l i) l.length (fun i s => True) ?_ ?_ () trivial
  · rintro i s hi - K
    refine EvP.step (fun k => laws_eqInt64S.l0.eq_2 _ _ _ k) ?_
    simp only [if_pos (show (i : Int) < (l.length : Int) by omega), if_pos (show (0 : Int) ≤ (i : Int) by omega), if_true, w64 (show -9223372036854775808 ≤ (i : Int) + 1 by omega) (by omega)]
    exact K () trivial
  · rintro s -
    refine EvP.step (fun k => laws_eqInt64S.l0.eq_2 _ _ _ k) ?_
    simp only [if_neg (show ¬ (l.length : Int) < (l.length : Int) by omega)]
    exact EvP.now rfl
end Go.Proofs.YtlbcnflcibmifaaGreatDoor.ST
end

section
namespace Go.Proofs.YtlbcnflcibmifaaGreatDoor.ST
open Go.RowKit Go.Proofs.YtlbcnflcibmifaaGreatDoorW.PrintWords Go.Proofs.YtlbcnflcibmifaaGreatDoor.XT Go.Proofs.YtlbcnflcibmifaaGreatDoor.EvK
set_option linter.unusedVariables false
set_option linter.unusedSimpArgs false
theorem markInt64S_ev (l : List Int) (c : Int) (h0 : 0 ≤ c) (h1 : c + (l.length : Int) ≤ 4611686018427387904) :
    ∃ y : List Int, Ev (fun k => laws_markInt64S.f k l c) (c + (l.length : Int), y) ∧ Ev (fun k => laws_heldInt64S.f k y c) (c + (l.length : Int)) ∧ y.length = l.length := by
  let E : Nat → Int := fun j => c + (j : Int)
  have hset : ∀ (i : Nat) (h : i < l.length), ((List.range i).map E ++ l.drop i).set i (E i) = (List.range (i + 1)).map E ++ l.drop (i + 1) := fun i h => set_done E l i h
  have hlen : ∀ (i : Nat), i ≤ l.length → ((List.range i).map E ++ l.drop i).length = l.length := by intro i h; simp; omega
  refine ⟨(List.range l.length).map E, EvP.eq ?_, EvP.eq ?_, by simp⟩
  · unfold laws_markInt64S.f
    refine for_evp (L := fun k (s : List Int × Int) i => laws_markInt64S.l0 k s.1 s.2 i) l.length (fun i s => s = ((List.range i).map E ++ l.drop i, c + (i : Int))) ?_ ?_ (l, c) (by simp)
    · rintro i s hi rfl K
      refine EvP.step (fun k => laws_markInt64S.l0.eq_2 _ _ _ k) ?_
      simp only [hlen i (by omega), if_pos (show (i : Int) < (l.length : Int) by omega), if_pos (show (0 : Int) ≤ (i : Int) by omega), Option.bind_some, w64 (show -9223372036854775808 ≤ (i : Int) + 1 by omega) (by omega), w64 (show -9223372036854775808 ≤ c + (i : Int) + 1 by omega) (by omega), Int.toNat_natCast]
      refine K (_, _) ?_
      rw [← hset i hi, Prod.mk.injEq]
      refine ⟨?_, by push_cast; omega⟩
      have g1 := hlen i (by omega)
      generalize (List.range i).map E ++ l.drop i = L at g1
      have g2 : i < L.length := by omega
      first | rfl | (simp [E, getD_set_self, g2])
    · rintro s rfl
      refine EvP.step (fun k => laws_markInt64S.l0.eq_2 _ _ _ k) ?_
      simp only [hlen l.length (Nat.le_refl _), if_neg (show ¬ (l.length : Int) < (l.length : Int) by omega)]
      exact EvP.now (by simp)
  · unfold laws_heldInt64S.f
    have hl2 : ((List.range l.length).map E).length = l.length := by simp
    refine for_evp (L := fun k (s : Int) i => laws_heldInt64S.l0 k ((List.range l.length).map E) s i) l.length (fun i s => s = c + (i : Int)) ?_ ?_ c (by simp)
    · rintro i s hi rfl K
      have e : rd ((List.range l.length).map E) (i : Int) = E i := by
        rw [show rd ((List.range l.length).map E) (i : Int) = ((List.range l.length).map E)[i]'(by simpa using hi) from getD_at _ 0 i (by simpa using hi)]; simp
      refine EvP.step (fun k => laws_heldInt64S.l0.eq_2 _ _ _ k) ?_
      simp only [hl2, if_pos (show (i : Int) < (l.length : Int) by omega), if_pos (show (0 : Int) ≤ (i : Int) by omega), e, E, if_true, w64 (show -9223372036854775808 ≤ (i : Int) + 1 by omega) (by omega), w64 (show -9223372036854775808 ≤ c + (i : Int) + 1 by omega) (by omega)]
      exact K _ (by push_cast; omega)
    · rintro s rfl
      refine EvP.step (fun k => laws_heldInt64S.l0.eq_2 _ _ _ k) ?_
      simp only [hl2, if_neg (show ¬ (l.length : Int) < (l.length : Int) by omega)]
      exact EvP.now rfl
end Go.Proofs.YtlbcnflcibmifaaGreatDoor.ST
end

section
namespace Go.Proofs.YtlbcnflcibmifaaGreatDoor.ST
open Go.RowKit Go.Proofs.YtlbcnflcibmifaaGreatDoorW.PrintWords Go.Proofs.YtlbcnflcibmifaaGreatDoor.XT Go.Proofs.YtlbcnflcibmifaaGreatDoor.EvK
set_option linter.unusedVariables false
set_option linter.unusedSimpArgs false
theorem markText_ev (c : Int) (h0 : 0 ≤ c) (h1 : c ≤ 4611686018427387904) : ∃ s : ByteArray, Ev (fun k => laws_markText.f k c) s := by
  unfold laws_markText.f
  by_cases hc : c ≤ 0
  · simp only [if_pos hc]
    exact ⟨_, Ev.now _⟩
  simp only [if_neg hc]
  have key : ∀ (d : Nat) (x : Int) (y : ByteArray), 0 ≤ x → x ≤ d → y.size + d ≤ 9223372036854775000 → ∃ s : ByteArray, Ev (fun k => laws_markText.l0 k x y) s := by
    intro d
    induction d using Nat.strongRecOn with
    | _ d ih =>
    intro x y hx hd hy
    by_cases hp : x > 0
    · have hz : (strOfNums [(wrap64 (48 + Int.tmod x 10)) % 256]).size = 1 := rfl
      have hd' : Int.tdiv x 10 = x / 10 := Int.tdiv_eq_ediv_of_nonneg hx
      have hw : wrap64 (Int.tdiv x 10) = x / 10 := by rw [hd', w64 (by omega) (by omega)]
      obtain ⟨s, hs⟩ := ih (d - 1) (by omega) (x / 10) (strOfNums [(wrap64 (48 + Int.tmod x 10)) % 256] ++ y) (by omega) (by omega) (by rw [ByteArray.size_append, hz]; omega)
      refine ⟨s, Ev.step (fun k => laws_markText.l0.eq_2 _ _ k) ?_⟩
      simp only [if_pos hp, Option.bind_some, hz, if_pos (show 1 + y.size ≤ 9223372036854775807 by omega), hw]
      exact hs
    · refine ⟨(⟨#[109]⟩ : ByteArray) ++ y, Ev.step (fun k => laws_markText.l0.eq_2 _ _ k) ?_⟩
      simp only [if_neg hp, if_pos (show 1 + y.size ≤ 9223372036854775807 by omega)]
      exact Ev.now _
  exact key c.toNat c ⟨#[]⟩ h0 (by omega) (by show 0 + _ ≤ _; omega)
end Go.Proofs.YtlbcnflcibmifaaGreatDoor.ST
end

section
namespace Go.Proofs.YtlbcnflcibmifaaGreatDoor.PBld
open Go.RowKit Go.Proofs.YtlbcnflcibmifaaGreatDoorW.PrintWords Go.Proofs.YtlbcnflcibmifaaGreatDoorW.PrintMore Go.Proofs.YtlbcnflcibmifaaGreatDoor.XT Go.Proofs.YtlbcnflcibmifaaGreatDoor.EvK Go.Proofs.YtlbcnflcibmifaaGreatDoor.ST Go.Proofs.YtlbcnflcibmifaaGreatDoor.PBasics Go.Proofs.YtlbcnflcibmifaaGreatDoor.PDecNeg Go.Proofs.YtlbcnflcibmifaaGreatDoor.PCrc
set_option linter.unusedVariables false
set_option linter.unusedSimpArgs false
def T (l : List Int) : List UInt8 := Lib.join (l.map Lib.itoa) [44]
def tx (l : List Int) : ByteArray := if l.length = 0 then ⟨#[45]⟩ else ⟨(T l).toArray⟩
def Rg (l : List Int) : Prop := l.length ≤ 64 ∧ ∀ x ∈ l, -1000000000000 ≤ x ∧ x ≤ 1000000000000
theorem itoa_len (v : Int) (h1 : -1000000000000 ≤ v) (h2 : v ≤ 1000000000000) : (Lib.itoa v).length ≤ 20 := by
  by_cases hv : 0 ≤ v
  · obtain ⟨u, rfl⟩ : ∃ u : Nat, v = (u : Int) := ⟨v.toNat, by omega⟩
    have := itoa_size u 19 (by omega) (by omega)
    simp [ByteArray.size] at this
    omega
  · obtain ⟨u, hu, rfl⟩ : ∃ u : Nat, 1 ≤ u ∧ v = -(u : Int) := ⟨(-v).toNat, by omega, by omega⟩
    rw [Lib.itoa_neg u hu]
    have := itoa_size u 19 (by omega) (by omega)
    have ei : Lib.itoa (u : Int) = Lib.decDigits u := by unfold Lib.itoa; rw [if_neg (by omega)]; rfl
    simp [ByteArray.size, ei] at this
    simp
    omega
theorem tail_len : ∀ (l : List Int), (∀ x ∈ l, -1000000000000 ≤ x ∧ x ≤ 1000000000000) → (Lib.joinTail [44] (l.map Lib.itoa)).length ≤ 21 * l.length
  | [], _ => by simp [Lib.joinTail]
  | x :: l, h => by
    have hx := h x (by simp)
    have hi := itoa_len x hx.1 hx.2
    have := tail_len l (fun y hy => h y (by simp [hy]))
    unfold Lib.joinTail at this ⊢
    simp only [List.map_cons, List.flatten_cons, List.length_append, List.length_cons, List.length_nil] at this ⊢
    omega
theorem T_len (l : List Int) (h : ∀ x ∈ l, -1000000000000 ≤ x ∧ x ≤ 1000000000000) : (T l).length ≤ 21 * l.length := by
  unfold T
  cases l with
  | nil => simp [Lib.join_nil]
  | cons x l =>
    have hx := h x (by simp)
    have hi := itoa_len x hx.1 hx.2
    have := tail_len l (fun y hy => h y (by simp [hy]))
    rw [List.map_cons, Lib.join_cons, List.length_append, List.length_cons]
    omega
theorem rd_int (l : List Int) (i : Nat) (h : i < l.length) : rd l (i : Int) = l[i] := rd_at l i h
theorem ba_size (a : List UInt8) : (⟨a.toArray⟩ : ByteArray).size = a.length := by simp [ByteArray.size]
theorem take_map (l : List Int) (i : Nat) (h : i < l.length) : (l.take i).map (fun n => (⟨(Lib.itoa n).toArray⟩ : ByteArray)) ++ [⟨(Lib.itoa l[i]).toArray⟩] = (l.take (i + 1)).map (fun n => (⟨(Lib.itoa n).toArray⟩ : ByteArray)) := by
  rw [List.take_succ_eq_append_getElem h, List.map_append]
  rfl
theorem listText_ev (l : List Int) (h : Rg l) : Ev (fun k => impl_ListText.f k l) (tx l) := by
  obtain ⟨hl, hr⟩ := h
  unfold impl_ListText.f tx
  simp only [if_neg (show ¬ (l.length : Int) > 64 by omega)]
  by_cases h0 : l.length = 0
  · simp only [if_pos (show (l.length : Int) = 0 by omega), if_pos h0]
    exact Ev.now _
  simp only [if_neg (show ¬ (l.length : Int) = 0 by omega), if_neg h0, if_pos (show (0 : Int) ≤ (l.length : Int) by omega), Int.toNat_natCast, if_pos (show l.length ≤ 17592186044416 by omega)]
  apply EvP.eq
  refine for_evp (L := fun k (s : List ByteArray) i => impl_ListText.l0 k s l (l.length : Int) i) l.length (fun i s => s = (l.take i).map (fun n => (⟨(Lib.itoa n).toArray⟩ : ByteArray))) ?_ ?_ [] (by simp)
  · rintro i s hi rfl K
    refine EvP.step (fun k => impl_ListText.l0.eq_2 _ _ _ _ k) ?_
    have hx := hr _ (List.getElem_mem hi)
    simp only [if_pos (show (i : Int) < (l.length : Int) by omega), if_pos (show (0 : Int) ≤ (i : Int) by omega), rd_int l i hi, within_eq, inR, decide_eq_true hx.1, decide_eq_true hx.2, Bool.and_self, Option.bind_some, if_true, decI_eq l[i] (by omega) (by omega), if_pos (show ((l.take i).map (fun n => (⟨(Lib.itoa n).toArray⟩ : ByteArray))).length < 8796093022208 by simp; omega), take_map l i hi, w64 (show -9223372036854775808 ≤ (i : Int) + 1 by omega) (by omega)]
    exact K _ rfl
  · rintro s rfl
    refine EvP.step (fun k => impl_ListText.l0.eq_2 _ _ _ _ k) ?_
    simp only [if_neg (show ¬ (l.length : Int) < (l.length : Int) by omega), List.take_length]
    have e : strings_Join.j (l.map (fun n => (⟨(Lib.itoa n).toArray⟩ : ByteArray))) (⟨#[44]⟩ : ByteArray) = T l := by
      unfold strings_Join.j T
      simp [Function.comp_def]
    unfold strings_Join.f
    have := T_len l hr
    simp only [e, if_pos (show (l.map (fun n => (⟨(Lib.itoa n).toArray⟩ : ByteArray))).length ≤ 140737488355328 ∧ (T l).length ≤ 140737488355328 from ⟨by simp; omega, by omega⟩), Option.bind_some]
    exact EvP.now rfl
end Go.Proofs.YtlbcnflcibmifaaGreatDoor.PBld
end

section
namespace Go.Proofs.YtlbcnflcibmifaaGreatDoor.PNum
open Go.RowKit Go.Proofs.YtlbcnflcibmifaaGreatDoorW.PrintWords Go.Proofs.YtlbcnflcibmifaaGreatDoor.EvK
set_option linter.unusedVariables false
set_option linter.unusedSimpArgs false
def dig (c : UInt8) : Bool := decide (48 ≤ c.toNat) && decide (c.toNat ≤ 57)
theorem dig_iff (c : UInt8) : dig c = true ↔ 48 ≤ c.toNat ∧ c.toNat ≤ 57 := by unfold dig; simp
def vall (a : Nat) (l : List UInt8) : Nat := l.foldl (fun a c => a * 10 + (c.toNat - 48)) a
theorem vall_nil (a : Nat) : vall a [] = a := rfl
theorem vall_cons (a : Nat) (c : UInt8) (r : List UInt8) : vall a (c :: r) = vall (a * 10 + (c.toNat - 48)) r := by unfold vall; rw [List.foldl_cons]
theorem vall_lt (l : List UInt8) : ∀ a, l.all dig = true → vall a l < (a + 1) * 10 ^ l.length := by
  induction l with
  | nil =>
    intro a _
    rw [vall_nil, List.length_nil, Nat.pow_zero]
    omega
  | cons c r ih =>
    intro a h
    rw [List.all_cons, Bool.and_eq_true, dig_iff] at h
    have h1 := ih (a * 10 + (c.toNat - 48)) h.2
    rw [vall_cons, List.length_cons, Nat.pow_succ]
    have h2 : (a * 10 + (c.toNat - 48) + 1) * 10 ^ r.length ≤ (a + 1) * 10 * 10 ^ r.length := Nat.mul_le_mul_right _ (by omega)
    have h3 : (a + 1) * 10 * 10 ^ r.length = (a + 1) * (10 ^ r.length * 10) := by rw [Nat.mul_assoc, Nat.mul_comm 10]
    omega
theorem parse_vall (l : List UInt8) : ∀ a, l.all dig = true → (a + 1) * 10 ^ l.length ≤ 1000000000000000000 → Lib.parseUintM (2 ^ 64 - 1) a l = .ok (vall a l) := by
  induction l with
  | nil => intro a _ _; rfl
  | cons c r ih =>
    intro a h hb
    rw [List.all_cons, Bool.and_eq_true, dig_iff] at h
    rw [List.length_cons, Nat.pow_succ] at hb
    have hp : 0 < 10 ^ r.length := Nat.pow_pos (by omega)
    have h1 : (a + 1) * 10 ≤ (a + 1) * (10 ^ r.length * 10) := Nat.mul_le_mul_left _ (by omega)
    have h2 : (a * 10 + (c.toNat - 48) + 1) * 10 ^ r.length ≤ (a + 1) * 10 * 10 ^ r.length := Nat.mul_le_mul_right _ (by omega)
    have h3 : (a + 1) * 10 * 10 ^ r.length = (a + 1) * (10 ^ r.length * 10) := by rw [Nat.mul_assoc, Nat.mul_comm 10]
    rw [Lib.parseUintM, if_pos h.1, if_neg (by omega), if_neg (by omega), vall_cons]
    exact ih _ h.2 (by omega)
theorem dec_step (a d : Nat) (ha : 0 < a) (hd : d < 10) : Lib.decDigits (a * 10 + d) = Lib.decDigits a ++ [UInt8.ofNat (48 + d)] := by
  rw [Lib.decDigits, dif_neg (by omega), show (a * 10 + d) / 10 = a by omega, show (a * 10 + d) % 10 = d by omega]
theorem of_dig {c : UInt8} (h : 48 ≤ c.toNat ∧ c.toNat ≤ 57) : UInt8.ofNat (48 + (c.toNat - 48)) = c := by
  apply UInt8.toNat_inj.1
  rw [show 48 + (c.toNat - 48) = c.toNat by omega]
  simp
theorem dec_vall (l : List UInt8) : ∀ a, 0 < a → l.all dig = true → Lib.decDigits (vall a l) = Lib.decDigits a ++ l := by
  induction l with
  | nil => intro a _ _; simp [vall_nil]
  | cons c r ih =>
    intro a ha h
    rw [List.all_cons, Bool.and_eq_true, dig_iff] at h
    rw [vall_cons, ih _ (by omega) h.2, dec_step a _ ha (by omega), of_dig h.1]
    simp
def plainOk (l : List UInt8) : Bool := l.all dig && (decide (l.length ≤ 18) && match l with
  | [] => false
  | c :: r => !(decide (c = 48)) || r.isEmpty)
theorem plain_dec (l : List UInt8) (h : plainOk l = true) : Lib.decDigits (vall 0 l) = l ∧ vall 0 l < 10 ^ 18 ∧ Lib.parseUintB 64 l = .ok (vall 0 l) := by
  unfold plainOk at h
  rw [Bool.and_eq_true, Bool.and_eq_true, decide_eq_true_eq] at h
  obtain ⟨h1, h2, h3⟩ := h
  have hlt := vall_lt l 0 h1
  have hp : 10 ^ l.length ≤ 10 ^ 18 := Nat.pow_le_pow_right (by omega) h2
  have hp18 : (10 : Nat) ^ 18 = 1000000000000000000 := by decide
  cases l with
  | nil => cases h3
  | cons c r =>
    refine ⟨?_, by omega, ?_⟩
    · have h1' := h1
      rw [List.all_cons, Bool.and_eq_true, dig_iff] at h1
      by_cases hc : c = 48
      · subst hc
        simp only [decide_true, Bool.not_true, Bool.false_or] at h3
        rw [List.isEmpty_iff.1 h3]
        rw [show vall 0 [48] = 0 from rfl, Lib.decDigits_one (by omega)]
        rfl
      · have hn : ¬ c.toNat = 48 := fun e => hc (UInt8.toNat_inj.1 e)
        rw [vall_cons, dec_vall r _ (by omega) h1.2, Nat.zero_mul, Nat.zero_add, Lib.decDigits_one (by omega), of_dig h1.1]
        rfl
    · unfold Lib.parseUintB
      rw [if_neg (by simp)]
      exact parse_vall _ 0 h1 (by omega)
theorem dec_all : ∀ (f u : Nat), u < 10 ^ f → 0 < f → (Lib.decDigits u).all dig = true ∧ ∃ c r, Lib.decDigits u = c :: r ∧ (c = 48 → u = 0 ∧ r = []) := by
  intro f
  induction f with
  | zero => intro u _ h; omega
  | succ f ih =>
    intro u h _
    have ho : ∀ d, d < 10 → dig (UInt8.ofNat (48 + d)) = true ∧ (UInt8.ofNat (48 + d) = 48 → d = 0) := by decide
    by_cases h10 : u < 10
    · rw [Lib.decDigits_one h10]
      refine ⟨by rw [List.all_cons, (ho u h10).1]; rfl, _, _, rfl, fun e => ⟨(ho u h10).2 e, rfl⟩⟩
    · rw [Nat.pow_succ] at h
      have hf0 : 0 < f := by
        apply Nat.pos_of_ne_zero
        rintro rfl
        omega
      obtain ⟨i1, c, r, i2, i3⟩ := ih (u / 10) (by omega) hf0
      rw [Lib.decDigits, dif_neg h10]
      refine ⟨by rw [List.all_append, i1, List.all_cons, (ho (u % 10) (by omega)).1]; rfl, c, r ++ [_], by rw [i2]; rfl, fun e => ?_⟩
      have := (i3 e).1
      omega
def canon (l : List UInt8) : Option Int := match l with
  | [] => none
  | c :: r => if c = 45 then (if plainOk r && !(r.head? == some 48) then some (-(vall 0 r : Int)) else none) else if plainOk (c :: r) then some (vall 0 (c :: r) : Int) else none
theorem canon_parse (l : List UInt8) (v : Int) (h : canon l = some v) : Lib.parseIntB 64 l = .ok v ∧ Lib.itoa v = l ∧ -1000000000000000000 < v ∧ v < 1000000000000000000 := by
  unfold canon at h
  cases l with
  | nil => cases h
  | cons c r =>
    simp only at h
    have hb : (2 : Nat) ^ (64 - 1) = 9223372036854775808 := by decide
    by_cases hc : c = 45
    · subst hc
      rw [if_pos rfl] at h
      split at h
      · rename_i hp
        rw [Bool.and_eq_true] at hp
        obtain rfl := Option.some.inj h
        obtain ⟨e1, e2, e3⟩ := plain_dec r hp.1
        have hpos : 1 ≤ vall 0 r := by
          apply Nat.pos_of_ne_zero
          intro h0
          rw [h0, Lib.decDigits_one (by omega)] at e1
          rw [← e1] at hp
          exact absurd hp.2 (by decide)
        refine ⟨?_, by rw [Lib.itoa_neg _ hpos, e1], by omega, by omega⟩
        rw [Lib.parseIntB_minus, e3, hb]
        show (if 9223372036854775808 < vall 0 r then Lib.NumEnd.range else Lib.NumEnd.ok (-(vall 0 r : Int))) = _
        rw [if_neg (by omega)]
      · cases h
    · rw [if_neg hc] at h
      split at h
      · rename_i hp
        obtain rfl := Option.some.inj h
        obtain ⟨e1, e2, e3⟩ := plain_dec (c :: r) hp
        have hd : 48 ≤ c.toNat ∧ c.toNat ≤ 57 := by
          unfold plainOk at hp
          rw [Bool.and_eq_true, List.all_cons, Bool.and_eq_true, dig_iff] at hp
          exact hp.1.1
        refine ⟨?_, by rw [Lib.itoa_nonneg, e1], by omega, by omega⟩
        rw [Lib.parseIntB_plain 64 c r (by omega) (by omega), e3, hb]
        show (if 9223372036854775808 ≤ vall 0 (c :: r) then Lib.NumEnd.range else Lib.NumEnd.ok (vall 0 (c :: r) : Int)) = _
        rw [if_neg (by omega)]
      · cases h
def less1 (l : List UInt8) : List UInt8 := if l.head? = some 45 then l.tail else l
theorem parse_canon (l : List UInt8) (v : Int) (hv0 : -9223372036854775808 ≤ v) (hv1 : v ≤ 9223372036854775807) (h : Lib.itoa v = l) (hl : (less1 l).length ≤ 18) : canon l = some v := by
  obtain ⟨u, hu⟩ : ∃ u : Nat, v = u ∨ v = -(u : Int) ∧ 1 ≤ u := by
    rcases Int.lt_or_le v 0 with h0 | h0
    · exact ⟨v.natAbs, Or.inr ⟨by omega, by omega⟩⟩
    · exact ⟨v.natAbs, Or.inl (by omega)⟩
  have hu2 : u < 10 ^ 19 := by rcases hu with h | h <;> omega
  obtain ⟨g1, c, r, g2, g3⟩ := dec_all 19 u hu2 (by omega)
  have hd : 48 ≤ c.toNat ∧ c.toNat ≤ 57 := by
    rw [g2, List.all_cons, Bool.and_eq_true, dig_iff] at g1
    exact g1.1
  have hplain : ∀ hl : (c :: r).length ≤ 18, plainOk (c :: r) = true ∧ vall 0 (c :: r) = u := by
    intro hl
    have hp : plainOk (c :: r) = true := by
      unfold plainOk
      rw [← g2, g1, g2, decide_eq_true hl, Bool.true_and, Bool.true_and]
      by_cases hc : c = 48
      · rw [(g3 hc).2]; simp
      · simp [hc]
    refine ⟨hp, ?_⟩
    obtain ⟨e1, e2, e3⟩ := plain_dec (c :: r) hp
    have inj : ∀ (f a b : Nat), a < 10 ^ f → b < 10 ^ f → 0 < f → Lib.decDigits a = Lib.decDigits b → a = b := by
      intro f
      induction f with
      | zero => intro a b _ _ h; omega
      | succ f ih =>
        intro a b ha hb _ he
        have ho : ∀ d, d < 10 → ∀ e, e < 10 → UInt8.ofNat (48 + d) = UInt8.ofNat (48 + e) → d = e := by decide
        have hla := Lib.decDigits_length a
        have hlb := Lib.decDigits_length b
        rw [Nat.pow_succ] at ha hb
        by_cases a10 : a < 10
        · by_cases b10 : b < 10
          · rw [Lib.decDigits_one a10, Lib.decDigits_one b10] at he
            exact ho a a10 b b10 (by injection he)
          · rw [Lib.decDigits_one a10, Lib.decDigits, dif_neg b10] at he
            have hh := congrArg List.length he
            obtain ⟨_, x, y, hxy, _⟩ := dec_all (f + 1) (b / 10) (by rw [Nat.pow_succ]; omega) (by omega)
            rw [hxy] at hh
            simp at hh
        · by_cases b10 : b < 10
          · rw [Lib.decDigits_one b10, Lib.decDigits, dif_neg a10] at he
            have hh := congrArg List.length he
            obtain ⟨_, x, y, hxy, _⟩ := dec_all (f + 1) (a / 10) (by rw [Nat.pow_succ]; omega) (by omega)
            rw [hxy] at hh
            simp at hh
          · rw [Lib.decDigits, dif_neg a10] at he
            rw [show Lib.decDigits b = Lib.decDigits (b / 10) ++ [UInt8.ofNat (48 + b % 10)] by rw [Lib.decDigits, dif_neg b10]] at he
            obtain ⟨he1, he2⟩ := List.append_inj' he rfl
            have hq := ho (a % 10) (by omega) (b % 10) (by omega) (by injection he2)
            have hf0 : 0 < f := by
              apply Nat.pos_of_ne_zero
              rintro rfl
              omega
            have := ih (a / 10) (b / 10) (by omega) (by omega) hf0 he1
            omega
    exact inj 19 _ _ (by omega) hu2 (by omega) (e1.trans g2.symm)
  rcases hu with rfl | ⟨rfl, hu1⟩
  · rw [Lib.itoa_nonneg, g2] at h
    subst h
    have h45 : ¬ c = 45 := fun e => by rw [e] at hd; exact absurd hd (by decide)
    have hl2 : (c :: r).length ≤ 18 := by
      unfold less1 at hl
      rw [if_neg (by simpa using h45)] at hl
      exact hl
    obtain ⟨p1, p2⟩ := hplain hl2
    unfold canon
    simp only [if_neg h45, p1, if_true, p2]
  · rw [Lib.itoa_neg _ hu1, g2] at h
    subst h
    have hl2 : (c :: r).length ≤ 18 := by
      unfold less1 at hl
      rw [if_pos (by simp)] at hl
      exact hl
    obtain ⟨p1, p2⟩ := hplain hl2
    have h48 : ¬ c = 48 := fun e => by have := (g3 e).1; omega
    unfold canon
    simp [p1, p2, h48]
end Go.Proofs.YtlbcnflcibmifaaGreatDoor.PNum
end

section
namespace Go.Proofs.YtlbcnflcibmifaaGreatDoor.PSplit
open Go.RowKit Go.Proofs.YtlbcnflcibmifaaGreatDoorW.PrintWords Go.Proofs.YtlbcnflcibmifaaGreatDoor.XT Go.Proofs.YtlbcnflcibmifaaGreatDoor.EvK
set_option linter.unusedVariables false
set_option linter.unusedSimpArgs false
def sp (c : UInt8) : List UInt8 → List UInt8 → List (List UInt8)
  | acc, [] => [acc]
  | acc, b :: l => if b = c then acc :: sp c [] l else sp c (acc ++ [b]) l
theorem sp_none (c : UInt8) : ∀ (l acc : List UInt8), c ∉ l → sp c acc l = [acc ++ l]
  | [], acc, _ => by simp [sp]
  | b :: l, acc, h => by
    rw [List.mem_cons, not_or] at h
    rw [sp, if_neg (fun e => h.1 e.symm), sp_none c l _ h.2]
    simp
theorem sp_some (c : UInt8) : ∀ (a r acc : List UInt8), c ∉ a → sp c acc (a ++ c :: r) = (acc ++ a) :: sp c [] r
  | [], r, acc, _ => by simp [sp]
  | b :: a, r, acc, h => by
    rw [List.mem_cons, not_or] at h
    rw [List.cons_append, sp, if_neg (fun e => h.1 e.symm), sp_some c a r _ h.2]
    simp
theorem sp_join (c : UInt8) : ∀ (l acc : List UInt8), ∃ init last, sp c acc l = init ++ [last] ∧ acc ++ l = init.flatMap (· ++ [c]) ++ last
  | [], acc => ⟨[], acc, rfl, by simp⟩
  | b :: l, acc => by
    rw [sp]
    by_cases h : b = c
    · rw [if_pos h]
      obtain ⟨i, z, h1, h2⟩ := sp_join c l []
      refine ⟨acc :: i, z, by rw [h1]; rfl, ?_⟩
      rw [List.nil_append] at h2
      rw [h2, h]
      simp
    · rw [if_neg h]
      obtain ⟨i, z, h1, h2⟩ := sp_join c l (acc ++ [b])
      exact ⟨i, z, h1, by rw [← h2]; simp⟩
theorem data_inj {a b : ByteArray} (h : a.data.toList = b.data.toList) : a = b := ByteArray.ext (Array.ext' h)
theorem lists_eq : ∀ {l l' : List ByteArray}, l.map (·.data.toList) = l'.map (·.data.toList) → l = l'
  | [], [], _ => rfl
  | [], _ :: _, h => by simp at h
  | _ :: _, [], h => by simp at h
  | a :: l, b :: l', h => by
    simp only [List.map_cons, List.cons.injEq] at h
    rw [data_inj h.1, lists_eq h.2]
theorem extract_list (s : ByteArray) (a b : Nat) : (s.extract a b).data.toList = (s.data.toList.drop a).take (b - a) := by
  simp [ByteArray.data_extract, Array.toList_extract, List.extract_eq_take_drop]
theorem split_ev (s : ByteArray) (c : UInt8) (hs : s.size ≤ 1048576) : ∃ r : List ByteArray, Ev (fun k => spec_l01Split.f k s (c.toNat : Int)) r ∧ r.map (·.data.toList) = sp c [] s.data.toList := by
  obtain ⟨L, hL⟩ : ∃ L, L = s.data.toList := ⟨_, rfl⟩
  have hsz : s.size = L.length := by rw [hL]; exact size_len' s
  suffices h : EvP (fun k => spec_l01Split.f k s (c.toNat : Int)) (fun r => r.map (·.data.toList) = sp c [] L) by
    obtain ⟨r, h1, h2⟩ := h
    exact ⟨r, h1, by rw [← hL]; exact h2⟩
  unfold spec_l01Split.f
  refine for_evp (L := fun k (x : List ByteArray × Nat) i => spec_l01Split.l0 k s (c.toNat : Int) x.1 (x.2 : Int) i) L.length
    (fun i x => x.2 ≤ i ∧ x.1.length ≤ i ∧ x.1.map (·.data.toList) ++ sp c ((L.drop x.2).take (i - x.2)) (L.drop i) = sp c [] L) ?_ ?_ ([], 0) (by simp)
  · rintro i ⟨acc, st⟩ hi ⟨h1, h2, h3⟩ K
    simp only at h1 h2 h3
    have hb : bt s (i : Int) = ((L[i]).toNat : Int) := by
      have := bytes_at_ s i (by rw [← hL]; exact hi)
      simpa only [← hL] using this
    have hd : L.drop i = L[i] :: L.drop (i + 1) := List.drop_eq_getElem_cons hi
    refine EvP.step (fun k => spec_l01Split.l0.eq_2 _ _ _ _ _ k) ?_
    simp only [hsz, if_pos (show (i : Int) < (L.length : Int) by omega), if_pos (show (0 : Int) ≤ (i : Int) by omega), hb, if_pos (show (0 : Int) ≤ (st : Int) by omega), if_pos (show (st : Int) ≤ (i : Int) by omega), if_pos (show (i : Int) ≤ (L.length : Int) by omega), if_pos (show acc.length < 8796093022208 by omega), w64 (show -9223372036854775808 ≤ (i : Int) + 1 by omega) (by omega), Int.toNat_natCast]
    rw [hd, sp] at h3
    by_cases hc : L[i] = c
    · rw [if_pos hc] at h3
      simp only [hc, if_true]
      have := K (acc ++ [s.extract st i], i + 1) ⟨Nat.le_refl _, by simp; omega, ?_⟩
      · simpa using this
      · simp only [List.map_append, List.map_cons, List.map_nil, extract_list, ← hL, Nat.sub_self, List.take_zero, List.append_assoc, List.cons_append, List.nil_append]
        exact h3
    · rw [if_neg hc] at h3
      have hne : ¬ ((L[i]).toNat : Int) = (c.toNat : Int) := fun e => hc (UInt8.toNat_inj.1 (by omega))
      simp only [if_neg hne]
      refine K (acc, st) ⟨by simp only; omega, by simp only; omega, ?_⟩
      simp only
      rw [← h3]
      congr 2
      rw [show i + 1 - st = (i - st) + 1 by omega, List.take_succ_eq_append_getElem (by rw [List.length_drop]; omega)]
      congr 2
      rw [List.getElem_drop]
      congr 1
      omega
  · rintro ⟨acc, st⟩ ⟨h1, h2, h3⟩
    simp only at h1 h2 h3
    refine EvP.step (fun k => spec_l01Split.l0.eq_2 _ _ _ _ _ k) ?_
    simp only [hsz, if_neg (show ¬ (L.length : Int) < (L.length : Int) by omega), if_pos (show (0 : Int) ≤ (st : Int) by omega), if_pos (show (st : Int) ≤ (L.length : Int) by omega), if_pos (show acc.length < 8796093022208 by omega), Int.toNat_natCast]
    refine EvP.now ?_
    rw [List.drop_of_length_le (Nat.le_refl _), sp] at h3
    rw [← h3]
    simp only [List.map_append, List.map_cons, List.map_nil, extract_list, ← hL]
theorem index_at (s : ByteArray) (c : UInt8) : Lib.indexB s ⟨#[c]⟩ = Lib.indexByte s.data.toList c := Lib.index_one _ _
theorem splitB_sp (c : UInt8) : ∀ (k : Nat) (s : ByteArray), Lib.countB s ⟨#[c]⟩ = k → (Lib.splitB ⟨#[c]⟩ 0 k s).map (·.data.toList) = sp c [] s.data.toList := by
  have hc1 : (⟨#[c]⟩ : ByteArray).size = 1 := rfl
  have miss : ∀ s : ByteArray, Lib.indexB s ⟨#[c]⟩ = -1 → [s].map (·.data.toList) = sp c [] s.data.toList := by
    intro s h
    rw [index_at] at h
    have hn := Lib.indexByte_none h
    rw [sp_none c _ _ (fun hm => by obtain ⟨q, hq⟩ := List.getElem?_of_mem hm; exact hn q hq)]
    simp
  intro k
  induction k with
  | zero =>
    intro s hs
    rcases Lib.indexB_cases s ⟨#[c]⟩ with h | ⟨i, h, _⟩
    · exact miss s h
    · have := Lib.countB_hit s ⟨#[c]⟩ i (by rw [hc1]; omega) h
      omega
  | succ k ih =>
    intro s hs
    rcases Lib.indexB_cases s ⟨#[c]⟩ with h | ⟨i, h, hi⟩
    · rw [Lib.splitB_miss _ _ _ _ h]
      exact miss s h
    · have hcount := Lib.countB_hit s ⟨#[c]⟩ i (by rw [hc1]; omega) h
      rw [hc1] at hi hcount
      have hk := ih (s.extract (i + 1) s.size) (by omega)
      have hL := size_len' s
      have h2 := h
      rw [index_at] at h2
      obtain ⟨g1, g2⟩ := Lib.indexByte_some h2
      obtain ⟨g3, g4⟩ := List.getElem?_eq_some_iff.1 g1
      have e : s.data.toList = s.data.toList.take i ++ c :: s.data.toList.drop (i + 1) := by
        rw [← g4, ← List.drop_eq_getElem_cons g3, List.take_append_drop]
      have hna : c ∉ s.data.toList.take i := by
        intro hm
        obtain ⟨q, hq⟩ := List.getElem?_of_mem hm
        rw [List.getElem?_take] at hq
        split at hq
        · exact g2 q (by assumption) hq
        · cases hq
      unfold Lib.splitB
      rw [if_neg (by rw [h]; simp), List.map_cons, h, Int.toNat_natCast, hc1, hk, extract_list, extract_list]
      conv => rhs; rw [e, sp_some c _ _ _ hna]
      rw [List.nil_append, List.drop_zero, Nat.sub_zero, Nat.add_zero]
      congr 2
      exact List.take_of_length_le (by rw [List.length_drop]; omega)
end Go.Proofs.YtlbcnflcibmifaaGreatDoor.PSplit
end

section
namespace Go.Proofs.YtlbcnflcibmifaaGreatDoor.PRead
open Go.RowKit Go.Proofs.YtlbcnflcibmifaaGreatDoorW.PrintWords Go.Proofs.YtlbcnflcibmifaaGreatDoor.XT Go.Proofs.YtlbcnflcibmifaaGreatDoor.EvK Go.Proofs.YtlbcnflcibmifaaGreatDoor.PBasics Go.Proofs.YtlbcnflcibmifaaGreatDoor.PBld Go.Proofs.YtlbcnflcibmifaaGreatDoor.PNum Go.Proofs.YtlbcnflcibmifaaGreatDoor.PSplit
set_option linter.unusedVariables false
set_option linter.unusedSimpArgs false
theorem join_cons2 (x y : List UInt8) (r : List (List UInt8)) (sep : List UInt8) : Lib.join (x :: y :: r) sep = x ++ sep ++ Lib.join (y :: r) sep := by
  rw [Lib.join_cons, Lib.join_cons]
  simp [Lib.joinTail]
theorem sp_cons (c : UInt8) (l acc : List UInt8) : ∃ y r, sp c acc l = y :: r := by
  obtain ⟨i, z, h, _⟩ := sp_join c l acc
  cases i with
  | nil => exact ⟨z, [], h⟩
  | cons a i => exact ⟨a, i ++ [z], h⟩
theorem join_sp (c : UInt8) : ∀ (l acc : List UInt8), Lib.join (sp c acc l) [c] = acc ++ l
  | [], acc => by rw [sp, Lib.join_one]; simp
  | b :: l, acc => by
    rw [sp]
    by_cases h : b = c
    · rw [if_pos h]
      obtain ⟨y, r, e⟩ := sp_cons c l []
      have := join_sp c l []
      rw [e] at this ⊢
      rw [join_cons2, this, h]
      simp
    · rw [if_neg h, join_sp c l (acc ++ [b])]
      simp
def spN (m : Nat) (ps : List (List UInt8)) : List (List UInt8) := if ps.length ≤ m + 1 then ps else ps.take m ++ [Lib.join (ps.drop m) [44]]
theorem spN_cons (m : Nat) (a : List UInt8) (ps : List (List UInt8)) : spN (m + 1) (a :: ps) = a :: spN m ps := by
  unfold spN
  by_cases h : ps.length ≤ m + 1
  · rw [if_pos h, if_pos (by simpa using h)]
  · rw [if_neg h, if_neg (by simpa using h)]
    rfl
theorem splitN_sp : ∀ (m : Nat) (s : ByteArray), (Lib.splitB ⟨#[44]⟩ 0 m s).map (·.data.toList) = spN m (sp 44 [] s.data.toList) := by
  have hc1 : (⟨#[44]⟩ : ByteArray).size = 1 := rfl
  intro m
  induction m with
  | zero =>
    intro s
    have hj := join_sp 44 s.data.toList []
    rw [List.nil_append] at hj
    show [s.data.toList] = _
    unfold spN
    obtain ⟨y, r, e⟩ := sp_cons 44 s.data.toList []
    rw [e] at hj ⊢
    cases r with
    | nil => rw [if_pos (by simp), ← hj, Lib.join_one]
    | cons z r => rw [if_neg (by simp), List.take_zero, List.drop_zero, hj]; rfl
  | succ m ih =>
    intro s
    rcases Lib.indexB_cases s ⟨#[44]⟩ with h | ⟨i, h, hi⟩
    · rw [Lib.splitB_miss _ _ _ _ h]
      have h2 := h
      rw [index_at] at h2
      have hn := Lib.indexByte_none h2
      rw [sp_none 44 _ _ (fun hm => by obtain ⟨q, hq⟩ := List.getElem?_of_mem hm; exact hn q hq)]
      unfold spN
      rw [if_pos (by simp)]
      simp
    · rw [hc1] at hi
      have hk := ih (s.extract (i + 1) s.size)
      have hL := size_len' s
      have h2 := h
      rw [index_at] at h2
      obtain ⟨g1, g2⟩ := Lib.indexByte_some h2
      obtain ⟨g3, g4⟩ := List.getElem?_eq_some_iff.1 g1
      have e : s.data.toList = s.data.toList.take i ++ 44 :: s.data.toList.drop (i + 1) := by
        rw [← g4, ← List.drop_eq_getElem_cons g3, List.take_append_drop]
      have hna : (44 : UInt8) ∉ s.data.toList.take i := by
        intro hm
        obtain ⟨q, hq⟩ := List.getElem?_of_mem hm
        rw [List.getElem?_take] at hq
        split at hq
        · exact g2 q (by assumption) hq
        · cases hq
      unfold Lib.splitB
      rw [if_neg (by rw [h]; simp), List.map_cons, h, Int.toNat_natCast, hc1, hk, extract_list, extract_list]
      conv => rhs; rw [e, sp_some 44 _ _ _ hna]
      rw [List.nil_append, List.drop_zero, Nat.sub_zero, spN_cons]
      congr 2
      rw [show (s.data.toList.drop (i + 1)).take (s.size - (i + 1)) = s.data.toList.drop (i + 1) from List.take_of_length_le (by rw [List.length_drop]; omega)]
def vals : List (List UInt8) → Option (List Int)
  | [] => some []
  | p :: r => (canon p).bind fun v => (vals r).map (v :: ·)
theorem vals_eq : ∀ (ps : List (List UInt8)) (vs : List Int), vals ps = some vs → ps = vs.map Lib.itoa
  | [], vs, h => by
    obtain rfl := Option.some.inj h
    rfl
  | p :: r, vs, h => by
    rw [vals] at h
    obtain ⟨v, hv, h⟩ := Option.bind_eq_some_iff.mp h
    obtain ⟨ws, hw, rfl⟩ := Option.map_eq_some_iff.mp h
    rw [List.map_cons, ← vals_eq r ws hw, (canon_parse p v hv).2.1]
theorem canon_comma (l : List UInt8) (h : (44 : UInt8) ∈ l) : canon l = none := by
  have key : ∀ r : List UInt8, (44 : UInt8) ∈ r → plainOk r = false := by
    intro r hr
    unfold plainOk
    have : r.all dig = false := by
      rw [List.all_eq_false]
      exact ⟨44, hr, by decide⟩
    rw [this, Bool.false_and]
  cases l with
  | nil => rfl
  | cons c r =>
    unfold canon
    by_cases hc : c = 45
    · have hr : (44 : UInt8) ∈ r := by
        rcases List.mem_cons.1 h with e | e
        · rw [hc] at e; exact absurd e (by decide)
        · exact e
      simp only [hc, if_true, key r hr, Bool.false_and, Bool.false_eq_true, if_false]
    · simp only [if_neg hc, key _ h, Bool.false_eq_true, if_false]
theorem vals_bad : ∀ (ps : List (List UInt8)) (p : List UInt8), canon p = none → vals (ps ++ [p]) = none
  | [], p, h => by
    show (canon p).bind _ = none
    rw [h]
    rfl
  | q :: ps, p, h => by
    show (canon q).bind (fun v => (vals (ps ++ [p])).map (v :: ·)) = none
    rw [vals_bad ps p h]
    cases canon q <;> rfl
theorem vals_len : ∀ (ps : List (List UInt8)) (vs : List Int), vals ps = some vs → vs.length = ps.length := by
  intro ps vs h
  have := congrArg List.length (vals_eq ps vs h)
  simpa using this.symm
theorem vals_spN (ps : List (List UInt8)) : vals (spN 64 ps) = if ps.length ≤ 65 then vals ps else none := by
  unfold spN
  by_cases h : ps.length ≤ 65
  · rw [if_pos h, if_pos h]
  · rw [if_neg h, if_neg h]
    refine vals_bad _ _ (canon_comma _ ?_)
    obtain ⟨x, y, r, e⟩ : ∃ x y r, ps.drop 64 = x :: y :: r := by
      match hd : ps.drop 64 with
      | [] => have := congrArg List.length hd; simp at this; omega
      | [x] => have := congrArg List.length hd; simp at this; omega
      | x :: y :: r => exact ⟨x, y, r, rfl⟩
    rw [e, join_cons2]
    simp
def readL (s : List UInt8) : Option (List Int) :=
  if s = [45] then some [] else if 64 < (sp 44 [] s).length then none else
    (vals (sp 44 [] s)).bind fun vs => if vs.all (fun v => inR v (-1000000000000) 1000000000000) = true then some vs else none
theorem readL_text (s : ByteArray) (vs : List Int) (h : readL s.data.toList = some vs) : tx vs = s ∧ Rg vs := by
  unfold readL at h
  by_cases h1 : s.data.toList = [45]
  · rw [if_pos h1] at h
    obtain rfl := Option.some.inj h
    refine ⟨?_, by simp, fun x hx => by simp at hx⟩
    refine data_inj ?_
    rw [h1]
    rfl
  rw [if_neg h1] at h
  by_cases h2 : 64 < (sp 44 [] s.data.toList).length
  · rw [if_pos h2] at h; cases h
  rw [if_neg h2] at h
  obtain ⟨ws, hw, h⟩ := Option.bind_eq_some_iff.mp h
  by_cases h3 : ws.all (fun v => inR v (-1000000000000) 1000000000000) = true
  · rw [if_pos h3] at h
    obtain rfl := Option.some.inj h
    have he := vals_eq _ _ hw
    have hl : ws.length = (sp 44 [] s.data.toList).length := by rw [he, List.length_map]
    obtain ⟨y, r, e⟩ := sp_cons 44 s.data.toList []
    have h0 : ¬ ws.length = 0 := by rw [hl, e]; simp
    refine ⟨?_, by omega, fun x hx => ?_⟩
    · unfold tx T
      rw [if_neg h0, ← he, join_sp]
      refine data_inj ?_
      simp
    · rw [List.all_eq_true] at h3
      have := h3 x hx
      unfold inR at this
      simpa using this
  · rw [if_neg h3] at h; cases h
end Go.Proofs.YtlbcnflcibmifaaGreatDoor.PRead
end

section
namespace Go.Proofs.YtlbcnflcibmifaaGreatDoor.PNumEv
open Go.RowKit Go.Proofs.YtlbcnflcibmifaaGreatDoorW.PrintWords Go.Proofs.YtlbcnflcibmifaaGreatDoor.XT Go.Proofs.YtlbcnflcibmifaaGreatDoor.EvK Go.Proofs.YtlbcnflcibmifaaGreatDoor.PBasics Go.Proofs.YtlbcnflcibmifaaGreatDoor.PNum
set_option linter.unusedVariables false
set_option linter.unusedSimpArgs false
def res : Option Int → Int × Bool
  | none => (0, false)
  | some v => (v, true)
theorem canon_len {l : List UInt8} {v : Int} (h : canon l = some v) : (less1 l).length ≤ 18 := by
  have hp : ∀ l, plainOk l = true → l.length ≤ 18 := by
    intro l h
    unfold plainOk at h
    rw [Bool.and_eq_true, Bool.and_eq_true, decide_eq_true_eq] at h
    exact h.2.1
  unfold canon at h
  cases l with
  | nil => cases h
  | cons c r =>
    simp only at h
    unfold less1
    by_cases hc : c = 45
    · rw [if_pos hc] at h
      rw [if_pos (by rw [hc]; rfl)]
      split at h
      · rename_i hq
        rw [Bool.and_eq_true] at hq
        exact hp _ hq.1
      · cases h
    · rw [if_neg hc] at h
      rw [if_neg (by simpa using hc)]
      split at h
      · rename_i hq
        exact hp _ hq
      · cases h
theorem trim_less (l : List UInt8) : Lib.trimPrefix l [45] = less1 l := by
  unfold Lib.trimPrefix less1
  cases l with
  | nil => rfl
  | cons c r =>
    by_cases hc : c = 45
    · subst hc
      have : Lib.hasPrefix (45 :: r) [45] = true := by first | rfl | simp [Lib.hasPrefix]
      rw [this]
      simp
    · have : Lib.hasPrefix (c :: r) [45] = false := by
        unfold Lib.hasPrefix
        rw [List.isPrefixOf, beq_eq_false_iff_ne.2 (fun e => hc e.symm), Bool.false_and]
      rw [this]
      simp [hc]
theorem dec_res (l : List UInt8) : impl_ReadDecimal.dec l = res (canon l) := by
  unfold impl_ReadDecimal.dec
  rw [trim_less]
  cases hp : Lib.parseIntB 64 l
  · rename_i v
    obtain ⟨v0, v1⟩ := impl_ReadDecimal.ok_range hp
    simp only
    by_cases h18 : 18 < (less1 l).length
    · rw [if_pos h18]
      cases hc : canon l with
      | none => rfl
      | some u => have := canon_len hc; omega
    · rw [if_neg h18]
      by_cases hi : Lib.itoa v = l
      · rw [if_pos hi, parse_canon l v v0 v1 hi (by omega)]
        rfl
      · rw [if_neg hi]
        cases hc : canon l with
        | none => rfl
        | some u =>
          obtain ⟨h1, h2, _⟩ := canon_parse l u hc
          rw [hp] at h1
          have e : v = u := Lib.NumEnd.ok.inj h1
          rw [← e] at h2
          exact absurd h2 hi
  · cases hc : canon l with
    | none => rfl
    | some v => have := (canon_parse l v hc).1; rw [hp] at this; cases this
  · cases hc : canon l with
    | none => rfl
    | some v => have := (canon_parse l v hc).1; rw [hp] at this; cases this
theorem read_eq (s : ByteArray) (hs : s.size ≤ 1048576) : impl_ReadDecimal.f s = some (res (canon s.data.toList)) := by
  unfold impl_ReadDecimal.f
  rw [if_pos (by omega), dec_res]
theorem digB_dig (c : UInt8) : digB c = dig c := by
  unfold digB dig
  congr 1
  · rw [decide_eq_decide]; omega
  · rw [decide_eq_decide]; omega
theorem digits_ev (s : ByteArray) (hs : s.size ≤ 1048576) (at_ : Int) (hat : at_ = 0 ∨ at_ = 1) : ∀ (D : List UInt8) (i n : Nat), i + D.length = s.size → s.data.toList.drop i = D → (n + 1) * 10 ^ D.length ≤ 1000000000000000000 →
    Ev (fun k => spec_l01Number.l0 k s at_ (n : Int) (i : Int)) (if D.all dig = true then ((if at_ = 1 then -(vall n D : Int) else (vall n D : Int)), true) else (0, false)) := by
  intro D
  induction D with
  | nil =>
    intro i n hi hd hn
    rw [List.length_nil] at hi hn
    refine Ev.step (fun k => spec_l01Number.l0.eq_2 _ _ _ _ k) ?_
    simp only [if_neg (show ¬ (i : Int) < (s.size : Int) by omega), List.all_nil, if_true, vall_nil]
    rcases hat with rfl | rfl
    · simp only [if_neg (show ¬ (0 : Int) = 1 by omega)]
      exact Ev.now _
    · simp only [if_true, w64 (show -9223372036854775808 ≤ -(n : Int) by omega) (by omega)]
      exact Ev.now _
  | cons c r ih =>
    intro i n hi hd hn
    rw [List.length_cons] at hi hn
    have hL := size_len' s
    have hil : i < s.data.toList.length := by omega
    have hc : s.data.toList[i] = c := by
      have := List.drop_eq_getElem_cons hil
      rw [hd] at this
      injection this with h1 h2
      exact h1.symm
    have hr : s.data.toList.drop (i + 1) = r := by
      have := List.drop_eq_getElem_cons hil
      rw [hd] at this
      injection this with h1 h2
      exact h2.symm
    have hb : bt s (i : Int) = (c.toNat : Int) := by rw [bytes_at_ s i hil, hc]
    refine Ev.step (fun k => spec_l01Number.l0.eq_2 _ _ _ _ k) ?_
    simp only [if_pos (show (i : Int) < (s.size : Int) by omega), if_pos (show (0 : Int) ≤ (i : Int) by omega), hb, dig_eq, Option.bind_some, digB_dig]
    cases hdg : dig c with
    | false =>
      simp only [List.all_cons, hdg, Bool.false_and, Bool.false_eq_true, if_false]
      exact Ev.now _
    | true =>
      have hc2 := (dig_iff c).1 hdg
      have hp : 0 < 10 ^ r.length := Nat.pow_pos (by omega)
      rw [Nat.pow_succ] at hn
      have h1 : (n + 1) * 10 ≤ (n + 1) * (10 ^ r.length * 10) := Nat.mul_le_mul_left _ (by omega)
      have h2 : (n * 10 + (c.toNat - 48) + 1) * 10 ^ r.length ≤ (n + 1) * 10 * 10 ^ r.length := Nat.mul_le_mul_right _ (by omega)
      have h3 : (n + 1) * 10 * 10 ^ r.length = (n + 1) * (10 ^ r.length * 10) := by rw [Nat.mul_assoc, Nat.mul_comm 10]
      have h := ih (i + 1) (n * 10 + (c.toNat - 48)) (by omega) hr (by omega)
      have e1 : wrap64 (wrap64 (10 * (n : Int)) + ((c.toNat : Int) - 48) % 256) = ((n * 10 + (c.toNat - 48) : Nat) : Int) := by
        rw [w64 (show -9223372036854775808 ≤ 10 * (n : Int) by omega) (by omega), w64 (by omega) (by omega)]
        omega
      have e2 : wrap64 ((i : Int) + 1) = ((i + 1 : Nat) : Int) := by rw [w64 (by omega) (by omega)]; omega
      simp only [if_true, e1, e2, List.all_cons, hdg, Bool.true_and, vall_cons]
      exact h
theorem num_ev (s : ByteArray) (hs : s.size ≤ 1048576) : Ev (fun k => spec_l01Number.f k s) (res (canon s.data.toList)) := by
  have hL := size_len' s
  have no : ∀ a : Int, Ev (fun k => spec_l01Number.j2 k s a true) (0, false) := by
    intro a
    refine Ev.step (fun k => spec_l01Number.j2.eq_2 _ _ _ k) ?_
    simp only [if_true]
    exact Ev.now _
  have p18 : (10 : Nat) ^ 18 = 1000000000000000000 := by decide
  have go : ∀ (a : Nat) (D : List UInt8), (a = 0 ∨ a = 1) → s.data.toList.drop a = D → a + D.length = s.size → 0 < D.length → (D.length ≤ 18 → (D.head? = some 48 → ¬ 1 < s.size) →
      Ev (fun k => spec_l01Number.l0 k s (a : Int) 0 (a : Int)) (if D.all dig = true then ((if (a : Int) = 1 then -(vall 0 D : Int) else (vall 0 D : Int)), true) else (0, false))) := by
    intro a D ha hd hl h0 h18 _
    have hp : 10 ^ D.length ≤ 10 ^ 18 := Nat.pow_le_pow_right (by omega) h18
    exact digits_ev s hs (a : Int) (by rcases ha with rfl | rfl; exact Or.inl rfl; exact Or.inr rfl) D a 0 hl hd (by omega)
  cases hl : s.data.toList with
  | nil =>
    have hz : s.size = 0 := by rw [hL, hl]; rfl
    unfold spec_l01Number.f
    simp only [if_neg (show ¬ (s.size : Int) > 0 by omega)]
    refine Ev.step (fun k => spec_l01Number.j0.eq_2 _ _ _ k) ?_
    simp only [Bool.false_eq_true, if_false]
    refine Ev.step (fun k => spec_l01Number.j1.eq_2 _ _ k) ?_
    simp only [if_pos (show (s.size : Int) = 0 by omega)]
    exact no 0
  | cons c r =>
    have hz : s.size = r.length + 1 := by rw [hL, hl]; rfl
    have hb0 : bt s 0 = (c.toNat : Int) := head_at s c r hl
    unfold spec_l01Number.f
    simp only [if_pos (show (s.size : Int) > 0 by omega), if_pos (show (0 : Int) < (s.size : Int) by omega), hb0]
    refine Ev.step (fun k => spec_l01Number.j0.eq_2 _ _ _ k) ?_
    by_cases hc : c = 45
    · subst hc
      simp only [show ((((45 : UInt8).toNat : Int)) == 45) = true from rfl, if_true]
      refine Ev.step (fun k => spec_l01Number.j1.eq_2 _ _ k) ?_
      unfold canon
      simp only [if_true]
      cases r with
      | nil =>
        rw [List.length_nil] at hz
        simp only [if_pos (show (s.size : Int) = 1 by omega)]
        have : (plainOk [] && !(([] : List UInt8).head? == some 48)) = false := by decide
        rw [this]
        exact no 1
      | cons d r2 =>
        rw [List.length_cons] at hz
        simp only [if_neg (show ¬ (s.size : Int) = 1 by omega), w64 (show -9223372036854775808 ≤ (s.size : Int) - 1 by omega) (by omega)]
        by_cases h18 : (s.size : Int) - 1 > 18
        · simp only [if_pos h18]
          have : plainOk (d :: r2) = false := by
            unfold plainOk
            rw [decide_eq_false (show ¬ (d :: r2).length ≤ 18 by rw [List.length_cons]; omega)]
            simp
          rw [this]
          exact no 1
        · have hb1 : bt s 1 = (d.toNat : Int) := by
            have := bytes_at_ s 1 (by rw [hl]; simp)
            rw [show ((1 : Nat) : Int) = 1 from rfl] at this
            rw [this]
            simp only [hl, List.getElem_cons_succ, List.getElem_cons_zero]
          simp only [if_neg h18, if_pos (show (0 : Int) ≤ 1 by omega), if_pos (show (1 : Int) < (s.size : Int) by omega), hb1]
          by_cases hd : d = 48
          · subst hd
            simp only [show (((48 : UInt8).toNat : Int) = 48) from rfl, if_true, decide_eq_true (show (s.size : Int) > 1 by omega)]
            have : (plainOk (48 :: r2) && !(((48 :: r2) : List UInt8).head? == some 48)) = false := by simp
            rw [this]
            exact no 1
          · have hdn : ¬ (d.toNat : Int) = 48 := fun e => hd (UInt8.toNat_inj.1 (by rw [show (48 : UInt8).toNat = 48 from rfl]; omega))
            simp only [if_neg hdn]
            refine Ev.step (fun k => spec_l01Number.j2.eq_2 _ _ _ k) ?_
            simp only [Bool.false_eq_true, if_false]
            have h := go 1 (d :: r2) (Or.inr rfl) (by rw [hl]; rfl) (by rw [List.length_cons]; omega) (by simp) (by rw [List.length_cons]; omega) (fun h => absurd (by simpa using h) hd)
            have e : (if (plainOk (d :: r2) && !(((d :: r2) : List UInt8).head? == some 48)) = true then some (-(vall 0 (d :: r2) : Int)) else none) = if (d :: r2).all dig = true then some (-(vall 0 (d :: r2) : Int)) else none := by
              unfold plainOk
              rw [decide_eq_true (show (d :: r2).length ≤ 18 by rw [List.length_cons]; omega)]
              simp [hd]
            rw [e]
            cases hall : (d :: r2).all dig with
            | true => rw [hall] at h; simpa [res] using h
            | false => rw [hall] at h; simpa [res] using h
    · have hcn : ((c.toNat : Int) == 45) = false := by
        rw [beq_eq_false_iff_ne]
        exact fun e => hc (UInt8.toNat_inj.1 (by rw [show (45 : UInt8).toNat = 45 from rfl]; omega))
      simp only [hcn, Bool.false_eq_true, if_false]
      refine Ev.step (fun k => spec_l01Number.j1.eq_2 _ _ k) ?_
      unfold canon
      simp only [if_neg hc, if_neg (show ¬ (s.size : Int) = 0 by omega), w64 (show -9223372036854775808 ≤ (s.size : Int) - 0 by omega) (by omega)]
      by_cases h18 : (s.size : Int) - 0 > 18
      · simp only [if_pos h18]
        have : plainOk (c :: r) = false := by
          unfold plainOk
          rw [decide_eq_false (show ¬ (c :: r).length ≤ 18 by rw [List.length_cons]; omega)]
          simp
        rw [this]
        exact no 0
      · simp only [if_neg h18, if_pos (show (0 : Int) ≤ 0 by omega), if_pos (show (0 : Int) < (s.size : Int) by omega), hb0]
        have hlen : (c :: r).length ≤ 18 := by rw [List.length_cons]; omega
        by_cases hd : c = 48 ∧ r ≠ []
        · obtain ⟨rfl, hr⟩ := hd
          have hrl : 0 < r.length := List.length_pos_iff.2 hr
          simp only [show (((48 : UInt8).toNat : Int) = 48) from rfl, if_true, decide_eq_true (show (s.size : Int) > 1 by omega)]
          have : plainOk (48 :: r) = false := by
            unfold plainOk
            have : r.isEmpty = false := by cases r with
              | nil => exact absurd rfl hr
              | cons _ _ => rfl
            simp [this]
          rw [this]
          exact no 0
        · have hj : Ev (fun k => if (c.toNat : Int) = 48 then spec_l01Number.j2 k s 0 (decide ((s.size : Int) > 1)) else spec_l01Number.j2 k s 0 false) (res (if plainOk (c :: r) = true then some (vall 0 (c :: r) : Int) else none)) := by
            have e : plainOk (c :: r) = (c :: r).all dig := by
              unfold plainOk
              rw [decide_eq_true hlen]
              by_cases h48 : c = 48
              · have : r = [] := Classical.byContradiction fun hr => hd ⟨h48, hr⟩
                rw [this]; simp
              · simp [h48]
            have h := go 0 (c :: r) (Or.inl rfl) (by rw [hl]; rfl) (by rw [List.length_cons]; omega) (by simp) hlen (by
              intro h
              have h48 : c = 48 := by simpa using h
              have : r = [] := Classical.byContradiction fun hr => hd ⟨h48, hr⟩
              rw [this] at hz
              simp at hz
              omega)
            have hj2 : Ev (fun k => spec_l01Number.j2 k s 0 false) (res (if plainOk (c :: r) = true then some (vall 0 (c :: r) : Int) else none)) := by
              refine Ev.step (fun k => spec_l01Number.j2.eq_2 _ _ _ k) ?_
              simp only [Bool.false_eq_true, if_false]
              rw [e]
              cases hall : (c :: r).all dig with
              | true => rw [hall] at h; simpa [res] using h
              | false => rw [hall] at h; simpa [res] using h
            by_cases h48 : (c.toNat : Int) = 48
            · have hc48 : c = 48 := UInt8.toNat_inj.1 (by rw [show (48 : UInt8).toNat = 48 from rfl]; omega)
              have hr : r = [] := Classical.byContradiction fun hr => hd ⟨hc48, hr⟩
              have hz1 : s.size = 1 := by rw [hz, hr]; rfl
              simp only [if_pos h48, decide_eq_false (show ¬ (s.size : Int) > 1 by omega)]
              exact hj2
            · simp only [if_neg h48]
              exact hj2
          exact hj
end Go.Proofs.YtlbcnflcibmifaaGreatDoor.PNumEv
end

section
namespace Go.Proofs.YtlbcnflcibmifaaGreatDoor.PBld2
open Go.RowKit Go.Proofs.YtlbcnflcibmifaaGreatDoorW.PrintWords Go.Proofs.YtlbcnflcibmifaaGreatDoorW.PrintMore Go.Proofs.YtlbcnflcibmifaaGreatDoor.XT Go.Proofs.YtlbcnflcibmifaaGreatDoor.EvK Go.Proofs.YtlbcnflcibmifaaGreatDoor.ST Go.Proofs.YtlbcnflcibmifaaGreatDoor.PBasics Go.Proofs.YtlbcnflcibmifaaGreatDoor.PBld
set_option linter.unusedVariables false
set_option linter.unusedSimpArgs false
def okB (b : S41) : Bool := nameOk b.f0 && (inR b.f1 0 15 && (inR b.f2 0 1000000 && (inR b.f3 0 100000 && (inR b.f4 (-4000) 4500 && (decide (b.f5.length = 24) && b.f5.all (fun x => inR x 0 3000))))))
theorem implOne_ev (b : S41) (h : b.f0.size ≤ 1048576) : Ev (fun k => impl_Building_valid.f k b.f0 b.f1 b.f2 b.f3 b.f4 b.f5) (okB b) := by
  unfold impl_Building_valid.f okB impl_nodeOk.f impl_outdoorOk.f impl_allWithin.f
  simp only [within_eq, Option.bind_some]
  refine Ev.bind (isName_ev _ h) ?_
  cases nameOk b.f0 with
  | false => simp only [Bool.false_eq_true, if_false, Bool.false_and]; exact Ev.now _
  | true =>
    cases inR b.f1 0 15 with
    | false => simp only [if_true, Bool.false_eq_true, if_false, Bool.false_and, Bool.and_false]; exact Ev.now _
    | true =>
      cases inR b.f2 0 1000000 with
      | false => simp only [if_true, Bool.false_eq_true, if_false, Bool.false_and, Bool.and_false]; exact Ev.now _
      | true =>
        cases inR b.f3 0 100000 with
        | false => simp only [if_true, Bool.false_eq_true, if_false, Bool.false_and, Bool.and_false]; exact Ev.now _
        | true =>
          cases inR b.f4 (-4000) 4500 with
          | false => simp only [if_true, Bool.false_eq_true, if_false, Bool.false_and, Bool.and_false]; exact Ev.now _
          | true =>
            by_cases hl : b.f5.length = 24
            · simp only [if_true, Bool.true_and, if_pos (show (b.f5.length : Int) = 24 by omega), decide_eq_true hl]
              exact Ev.now _
            · simp only [if_true, Bool.true_and, if_neg (show ¬ (b.f5.length : Int) = 24 by omega), decide_eq_false hl, Bool.false_and]
              exact Ev.now _
theorem specOne_ev (b : S41) (h : b.f0.size ≤ 1048576) (h5 : b.f5.length ≤ 1048576) : Ev (fun k => spec_l05One.f k b.f0 b.f1 b.f2 b.f3 b.f4 b.f5) (okB b) := by
  have hj : Ev (fun k => spec_l05One.j0 k true b.f0 b.f1 b.f2 b.f3 b.f4 b.f5) false := Ev.step (fun k => spec_l05One.j0.eq_2 _ _ _ _ _ _ _ k) (by simp only [if_true]; exact Ev.now _)
  unfold spec_l05One.f okB spec_l05Outdoor.f
  simp only [in_eq, Option.bind_some]
  refine Ev.bind (specName_ev _ h) ?_
  cases nameOk b.f0 with
  | false => simp only [Bool.false_eq_true, if_false, Bool.false_and]; exact hj
  | true =>
    cases inR b.f1 0 15 with
    | false => simp only [if_true, Bool.false_eq_true, if_false, Bool.false_and, Bool.and_false]; exact hj
    | true =>
      cases inR b.f2 0 1000000 with
      | false => simp only [if_true, Bool.false_eq_true, if_false, Bool.false_and, Bool.and_false]; exact hj
      | true =>
        cases inR b.f3 0 100000 with
        | false => simp only [if_true, Bool.false_eq_true, if_false, Bool.false_and, Bool.and_false]; exact hj
        | true =>
          cases inR b.f4 (-4000) 4500 with
          | false => simp only [if_true, Bool.false_eq_true, if_false, Bool.false_and, Bool.and_false]; exact hj
          | true =>
            simp only [if_true, Bool.true_and]
            refine Ev.step (fun k => spec_l05One.j0.eq_2 _ _ _ _ _ _ _ k) ?_
            by_cases hl : b.f5.length = 24
            · simp only [show ((b.f5.length : Int) != 24) = false by rw [hl]; rfl, Bool.false_eq_true, if_false, decide_eq_true hl, Bool.true_and]
              have := all_to (L := fun k i => spec_l05One.l0 k i b.f0 b.f1 b.f2 b.f3 b.f4 b.f5) b.f5 (fun x => inR x 0 3000) true false ?_ ?_ ?_
              · cases hr : b.f5.all (fun x => inR x 0 3000) with
                | true => rw [hr] at this; exact this
                | false => rw [hr] at this; exact this
              · intro i hi hp P K
                refine EvP.step (fun k => spec_l05One.l0.eq_2 _ _ _ _ _ _ _ k) ?_
                simp only [if_pos (show (i : Int) < (b.f5.length : Int) by omega), if_pos (show (0 : Int) ≤ (i : Int) by omega), rd_int _ i hi, in_eq, hp, Option.bind_some, if_true, w64 (show -9223372036854775808 ≤ (i : Int) + 1 by omega) (by omega)]
                exact K
              · intro i hi hp
                refine Ev.step (fun k => spec_l05One.l0.eq_2 _ _ _ _ _ _ _ k) ?_
                simp only [if_pos (show (i : Int) < (b.f5.length : Int) by omega), if_pos (show (0 : Int) ≤ (i : Int) by omega), rd_int _ i hi, in_eq, hp, Option.bind_some, Bool.false_eq_true, if_false]
                exact Ev.now _
              · intro _
                refine Ev.step (fun k => spec_l05One.l0.eq_2 _ _ _ _ _ _ _ k) ?_
                simp only [if_neg (show ¬ (b.f5.length : Int) < (b.f5.length : Int) by omega)]
                exact Ev.now _
            · simp only [show ((b.f5.length : Int) != 24) = true by simp; omega, if_true, decide_eq_false hl, Bool.false_and]
              exact Ev.now _
def lessB (a b : ByteArray) : Bool := Op.bytesLess a.toList b.toList
def bAt (l : List S41) (i : Nat) : Bool := okB (l.getD i z41) && (decide (i = 0) || lessB (l.getD (i - 1) z41).f0 (l.getD i z41).f0)
def listOk (l : List S41) : Bool := decide (l.length ≤ 12) && (List.range l.length).all (bAt l)
def bt (b : S41) : ByteArray := b.f0 ++ (⟨#[32]⟩ : ByteArray) ++ tx [b.f1, b.f2, b.f3, b.f4] ++ (⟨#[32]⟩ : ByteArray) ++ tx b.f5
theorem tx_size (l : List Int) (h : Rg l) : (tx l).size ≤ 1344 + 1 := by
  have := T_len l h.2
  have hl := h.1
  unfold tx
  split
  · decide
  · rw [ba_size]; omega
theorem rg4 (b : S41) (h : okB b = true) : Rg [b.f1, b.f2, b.f3, b.f4] := by
  unfold okB inR at h
  simp only [Bool.and_eq_true, decide_eq_true_eq] at h
  refine ⟨by simp, fun x hx => ?_⟩
  simp only [List.mem_cons, List.not_mem_nil, or_false] at hx
  rcases hx with rfl | rfl | rfl | rfl <;> omega
theorem rg5 (b : S41) (h : okB b = true) : Rg b.f5 := by
  unfold okB inR at h
  simp only [Bool.and_eq_true, decide_eq_true_eq, List.all_eq_true] at h
  refine ⟨by omega, fun x hx => ?_⟩
  have := h.2.2.2.2.2.2 x hx
  omega
theorem one32 : (⟨#[32]⟩ : ByteArray).size = 1 := rfl
theorem implText_ev (b : S41) (hs : b.f0.size ≤ 1048576) (h : okB b = true) : Ev (fun k => impl_BuildingText.f k b.f0 b.f1 b.f2 b.f3 b.f4 b.f5) (bt b) := by
  have z1 := tx_size _ (rg4 b h)
  have z2 := tx_size _ (rg5 b h)
  unfold impl_BuildingText.f
  refine Ev.bind (implOne_ev b hs) ?_
  simp only [h, if_true]
  have hw : Ev (fun k => impl_withId.f k b.f0 [b.f1, b.f2, b.f3, b.f4]) (b.f0 ++ (⟨#[32]⟩ : ByteArray) ++ tx [b.f1, b.f2, b.f3, b.f4]) := by
    unfold impl_withId.f
    simp only [if_pos (show b.f0.size + 1 ≤ 9223372036854775807 by omega)]
    refine Ev.bind (listText_ev _ (rg4 b h)) ?_
    simp only [ByteArray.size_append, one32, if_pos (show b.f0.size + 1 + (tx [b.f1, b.f2, b.f3, b.f4]).size ≤ 9223372036854775807 by omega)]
    exact Ev.now _
  refine Ev.bind hw ?_
  simp only [ByteArray.size_append, one32, if_pos (show b.f0.size + 1 + (tx [b.f1, b.f2, b.f3, b.f4]).size + 1 ≤ 9223372036854775807 by omega)]
  refine Ev.bind (listText_ev _ (rg5 b h)) ?_
  simp only [if_pos (show b.f0.size + 1 + (tx [b.f1, b.f2, b.f3, b.f4]).size + 1 + (tx b.f5).size ≤ 9223372036854775807 by omega)]
  exact Ev.now _
def mk (b : S41) : S38 := ⟨(⟨#[98, 117, 105, 108, 100, 105, 110, 103]⟩ : ByteArray), b.f0, bt b⟩
theorem rdB (l : List S41) (i : Nat) (h : i < l.length) : rd_T41 l (i : Int) = l[i] := getD_at l z41 i h
def ans (l : List S41) : List S38 × Int := if listOk l = true then (l.map mk, 0) else ([], 1)
end Go.Proofs.YtlbcnflcibmifaaGreatDoor.PBld2
end

section
namespace Go.Proofs.YtlbcnflcibmifaaGreatDoor.PRead2
open Go.RowKit Go.Proofs.YtlbcnflcibmifaaGreatDoorW.PrintWords Go.Proofs.YtlbcnflcibmifaaGreatDoor.XT Go.Proofs.YtlbcnflcibmifaaGreatDoor.EvK Go.Proofs.YtlbcnflcibmifaaGreatDoor.PBasics Go.Proofs.YtlbcnflcibmifaaGreatDoor.PNum Go.Proofs.YtlbcnflcibmifaaGreatDoor.PNumEv Go.Proofs.YtlbcnflcibmifaaGreatDoor.PSplit Go.Proofs.YtlbcnflcibmifaaGreatDoor.PRead Go.Proofs.YtlbcnflcibmifaaGreatDoor.PCrc
set_option linter.unusedVariables false
set_option linter.unusedSimpArgs false
abbrev inB (v : Int) : Bool := inR v (-1000000000000) 1000000000000
theorem sp_mem (c : UInt8) : ∀ (l acc : List UInt8), ∀ x ∈ sp c acc l, x.length ≤ acc.length + l.length
  | [], acc, x, h => by simp [sp] at h; subst h; simp
  | b :: l, acc, x, h => by
    rw [sp] at h
    split at h
    · rcases List.mem_cons.1 h with rfl | h
      · simp
      · have := sp_mem c l [] x h; simp at this ⊢; omega
    · have := sp_mem c l (acc ++ [b]) x h; simp at this ⊢; omega
theorem sp_len (c : UInt8) : ∀ (l acc : List UInt8), (sp c acc l).length ≤ l.length + 1
  | [], acc => by simp [sp]
  | b :: l, acc => by
    rw [sp]
    split
    · have := sp_len c l []; simp; omega
    · have := sp_len c l (acc ++ [b]); simp; omega
theorem parts_small {c : UInt8} {s : ByteArray} {t : List ByteArray} (hs : s.size ≤ 1048576) (h : t.map (·.data.toList) = sp c [] s.data.toList) : ∀ x ∈ t, x.size ≤ 1048576 := by
  intro x hx
  have := sp_mem c s.data.toList [] x.data.toList (by rw [← h]; exact List.mem_map_of_mem hx)
  rw [size_len'] at hs ⊢
  simp only [List.length_nil, Nat.zero_add] at this
  omega
theorem drop_at {α : Type} {t rest : List α} {y : α} {i : Nat} (h : t.drop i = y :: rest) : ∃ hi : i < t.length, t[i] = y ∧ t.drop (i + 1) = rest := by
  have hi : i < t.length := by
    apply Nat.lt_of_not_le
    intro hc
    rw [List.drop_eq_nil_of_le hc] at h
    cases h
  have := List.drop_eq_getElem_cons hi
  rw [h] at this
  injection this with h1 h2
  exact ⟨hi, h1.symm, h2.symm⟩
theorem drop_nil {α : Type} {t : List α} {i : Nat} (hi : i ≤ t.length) (h : t.drop i = []) : i = t.length := by
  have := congrArg List.length h
  simp at this
  omega
def valsR (ps : List (List UInt8)) : Option (List Int) := (vals ps).bind fun vs => if vs.all inB = true then some vs else none
theorem valsR_nil : valsR [] = some [] := rfl
theorem valsR_cons (p : List UInt8) (r : List (List UInt8)) : valsR (p :: r) = (canon p).bind fun v => if inB v = true then (valsR r).map (v :: ·) else none := by
  unfold valsR
  rw [vals]
  cases canon p with
  | none => rfl
  | some v =>
    simp only [Option.bind_some]
    cases vals r with
    | none => simp
    | some vs =>
      simp only [Option.map_some, Option.bind_some, List.all_cons]
      by_cases g1 : inB v = true <;> by_cases g2 : vs.all inB = true <;> simp [g1, g2]
def rlr : Option (List Int) → List Int × Bool
  | none => ([], false)
  | some vs => (vs, true)
theorem specLoop (t : List ByteArray) (ht : ∀ x ∈ t, x.size ≤ 1048576) : ∀ (rest : List ByteArray) (i : Nat) (acc : List Int), i ≤ t.length → t.drop i = rest → acc.length + rest.length ≤ 1048576 →
    t.length ≤ 1048576 → Ev (fun k => spec_ReadList.l0 k t acc (i : Int)) (rlr ((valsR (rest.map (·.data.toList))).map (acc ++ ·))) := by
  intro rest
  induction rest with
  | nil =>
    intro i acc hi hd hn htl
    have := drop_nil hi hd
    refine Ev.step (fun k => spec_ReadList.l0.eq_2 _ _ _ k) ?_
    simp only [if_neg (show ¬ (i : Int) < (t.length : Int) by omega), List.map_nil, valsR_nil, Option.map_some, List.append_nil]
    exact Ev.now _
  | cons y rest ih =>
    intro i acc hi hd hn htl
    obtain ⟨hil, hy, hr⟩ := drop_at hd
    rw [List.length_cons] at hn
    refine Ev.step (fun k => spec_ReadList.l0.eq_2 _ _ _ k) ?_
    simp only [if_pos (show (i : Int) < (t.length : Int) by omega), if_pos (show (0 : Int) ≤ (i : Int) by omega), rdOf_at _ _ i hil, hy]
    refine Ev.bind (num_ev y (ht _ (by rw [← hy]; exact List.getElem_mem hil))) ?_
    rw [List.map_cons, valsR_cons]
    cases canon y.data.toList with
    | none => simp only [res, Bool.false_eq_true, if_false]; exact Ev.now _
    | some v =>
      simp only [res, if_true, in_eq, Option.bind_some]
      cases hb : inB v with
      | false => simp only [inB] at hb; simp only [hb, Bool.false_eq_true, if_false]; exact Ev.now _
      | true =>
        have h := ih (i + 1) (acc ++ [v]) (by omega) hr (by rw [List.length_append, List.length_singleton]; omega) htl
        simp only [inB] at hb
        simp only [hb, if_true, if_pos (show acc.length < 17592186044416 by omega), w64 (show -9223372036854775808 ≤ (i : Int) + 1 by omega) (by omega)]
        have e : rlr (((valsR (rest.map (·.data.toList))).map (v :: ·)).map (acc ++ ·)) = rlr ((valsR (rest.map (·.data.toList))).map (acc ++ [v] ++ ·)) := by
          cases valsR (rest.map (·.data.toList)) with
          | none => rfl
          | some vs => simp [rlr]
        rw [e]
        exact h
theorem readL_R (s : List UInt8) : readL s = if s = [45] then some [] else if 64 < (sp 44 [] s).length then none else valsR (sp 44 [] s) := rfl
theorem specRead_ev (s : ByteArray) (hs : s.size ≤ 1048576) : Ev (fun k => spec_ReadList.f k s) (rlr (readL s.data.toList)) := by
  unfold spec_ReadList.f
  rw [readL_R]
  by_cases h1 : s.data.toList = [45]
  · simp only [toList_eq, if_pos h1]
    exact Ev.now _
  simp only [toList_eq, if_neg h1]
  obtain ⟨t, h2, h3⟩ := split_ev s 44 hs
  have e44 : ((44 : UInt8).toNat : Int) = 44 := rfl
  rw [e44] at h2
  refine Ev.bind h2 ?_
  have hl : t.length = (sp 44 [] s.data.toList).length := by rw [← h3, List.length_map]
  by_cases h64 : (t.length : Int) > 64
  · simp only [if_pos h64, if_pos (show 64 < (sp 44 [] s.data.toList).length by omega)]
    exact Ev.now _
  simp only [if_neg h64, if_neg (show ¬ 64 < (sp 44 [] s.data.toList).length by omega)]
  have := specLoop t (parts_small hs h3) t 0 [] (by omega) rfl (by simp; omega) (by omega)
  have e : (fun x : List Int => [] ++ x) = id := by funext x; rfl
  rw [e, Option.map_id, id_eq, show t.map (·.data.toList) = sp 44 [] s.data.toList from h3] at this
  exact this
theorem listText_any (l : List Int) (hb : ∀ x ∈ l, -1000000000000000000 < x ∧ x < 1000000000000000000) : Ev (fun k => impl_ListText.f k l) (if l.length ≤ 64 ∧ l.all inB = true then PBld.tx l else ⟨#[]⟩) := by
  by_cases hl : l.length ≤ 64
  · by_cases ha : l.all inB = true
    · rw [if_pos ⟨hl, ha⟩]
      refine PBld.listText_ev l ⟨hl, fun x hx => ?_⟩
      rw [List.all_eq_true] at ha
      have := ha x hx
      unfold inB inR at this
      simpa using this
    · rw [if_neg (fun h => ha h.2)]
      have h0 : ¬ l.length = 0 := by
        intro h0
        rw [List.eq_nil_of_length_eq_zero h0] at ha
        exact ha rfl
      unfold impl_ListText.f
      simp only [if_neg (show ¬ (l.length : Int) > 64 by omega), if_neg (show ¬ (l.length : Int) = 0 by omega), if_pos (show (0 : Int) ≤ (l.length : Int) by omega), Int.toNat_natCast, if_pos (show l.length ≤ 17592186044416 by omega)]
      apply EvP.eq
      refine for_evp (L := fun k (s : List ByteArray) i => impl_ListText.l0 k s l (l.length : Int) i) l.length (fun i s => s.length = i ∧ ∀ x ∈ l.take i, inB x = true) ?_ ?_ [] (by simp)
      · rintro i s hi ⟨hsl, hall⟩ K
        refine EvP.step (fun k => impl_ListText.l0.eq_2 _ _ _ _ k) ?_
        have hx := hb _ (List.getElem_mem hi)
        simp only [if_pos (show (i : Int) < (l.length : Int) by omega), if_pos (show (0 : Int) ≤ (i : Int) by omega), PBld.rd_int l i hi, within_eq, Option.bind_some]
        cases hv : inB l[i] with
        | false => simp only [inB] at hv; simp only [hv, Bool.false_eq_true, if_false]; exact EvP.now rfl
        | true =>
          have hall' := take_all hi hall hv
          simp only [inB] at hv
          have hv2 : -1000000000000 ≤ l[i] ∧ l[i] ≤ 1000000000000 := by unfold inR at hv; simpa using hv
          simp only [hv, if_true, PDecNeg.decI_eq l[i] (by omega) (by omega), Option.bind_some, if_pos (show s.length < 8796093022208 by omega), w64 (show -9223372036854775808 ≤ (i : Int) + 1 by omega) (by omega)]
          exact K _ ⟨by rw [List.length_append, List.length_singleton]; omega, hall'⟩
      · rintro s ⟨hsl, hall⟩
        rw [List.take_length] at hall
        exact absurd (List.all_eq_true.2 hall) ha
  · rw [if_neg (fun h => hl h.1)]
    unfold impl_ListText.f
    simp only [if_pos (show (l.length : Int) > 64 by omega)]
    exact Ev.now _
def endL (s : ByteArray) (l : List Int) : List Int × Bool := if (if l.length ≤ 64 ∧ l.all inB = true then PBld.tx l else ⟨#[]⟩).data.toList = s.data.toList then (l, true) else ([], false)
theorem implLoop (s : ByteArray) (t : List ByteArray) (ht : ∀ x ∈ t, x.size ≤ 1048576) (htl : t.length ≤ 1048576) : ∀ (rest : List ByteArray) (i : Nat) (acc : List Int), i ≤ t.length → t.drop i = rest → acc.length + rest.length ≤ 1048576 →
    (∀ x ∈ acc, -1000000000000000000 < x ∧ x < 1000000000000000000) → Ev (fun k => impl_ReadList.l0 k s acc t (t.length : Int) (i : Int)) (match vals (rest.map (·.data.toList)) with | none => ([], false) | some vs => endL s (acc ++ vs)) := by
  intro rest
  induction rest with
  | nil =>
    intro i acc hi hd hn hb
    have := drop_nil hi hd
    refine Ev.step (fun k => impl_ReadList.l0.eq_2 _ _ _ _ _ k) ?_
    simp only [if_neg (show ¬ (i : Int) < (t.length : Int) by omega), List.map_nil, vals, List.append_nil]
    refine Ev.bind (listText_any acc hb) ?_
    unfold endL
    generalize (if acc.length ≤ 64 ∧ acc.all inB = true then PBld.tx acc else (⟨#[]⟩ : ByteArray)) = X
    simp only [toList_eq]
    by_cases he : X.data.toList = s.data.toList
    · simp only [if_pos he]
      exact Ev.now _
    · simp only [if_neg he]
      exact Ev.now _
  | cons y rest ih =>
    intro i acc hi hd hn hb
    obtain ⟨hil, hy, hr⟩ := drop_at hd
    rw [List.length_cons] at hn
    refine Ev.step (fun k => impl_ReadList.l0.eq_2 _ _ _ _ _ k) ?_
    simp only [if_pos (show (i : Int) < (t.length : Int) by omega), if_pos (show (0 : Int) ≤ (i : Int) by omega), rdOf_at _ _ i hil, hy, read_eq y (ht _ (by rw [← hy]; exact List.getElem_mem hil)), Option.bind_some, List.map_cons, vals]
    cases hc : canon y.data.toList with
    | none => simp only [res, Bool.false_eq_true, if_false, Option.bind_none]; exact Ev.now _
    | some v =>
      obtain ⟨_, _, v1, v2⟩ := canon_parse _ _ hc
      have h := ih (i + 1) (acc ++ [v]) (by omega) hr (by rw [List.length_append, List.length_singleton]; omega) (by
        intro x hx
        rcases List.mem_append.1 hx with hx | hx
        · exact hb x hx
        · rw [List.mem_singleton.1 hx]; exact ⟨v1, v2⟩)
      simp only [res, if_true, Option.bind_some, if_pos (show acc.length < 17592186044416 by omega), w64 (show -9223372036854775808 ≤ (i : Int) + 1 by omega) (by omega)]
      have e : (match (vals (rest.map (·.data.toList))).map (v :: ·) with | none => (([], false) : List Int × Bool) | some vs => endL s (acc ++ vs)) = (match vals (rest.map (·.data.toList)) with | none => ([], false) | some vs => endL s (acc ++ [v] ++ vs)) := by
        cases vals (rest.map (·.data.toList)) with
        | none => rfl
        | some vs => simp
      rw [e]
      exact h
theorem tx_vals (s : ByteArray) (vs : List Int) (hne : s.data.toList ≠ [45]) (h : vals (sp 44 [] s.data.toList) = some vs) : (PBld.tx vs).data.toList = s.data.toList ∧ s.data.toList ≠ [] ∧ vs.length = (sp 44 [] s.data.toList).length := by
  have hl := vals_len _ _ h
  obtain ⟨y, r, e⟩ := sp_cons 44 s.data.toList []
  have h0 : ¬ vs.length = 0 := by rw [hl, e]; simp
  have he := vals_eq _ _ h
  refine ⟨?_, ?_, hl⟩
  · unfold PBld.tx PBld.T
    rw [if_neg h0, ← he, join_sp]
    simp
  · intro hn
    rw [hn] at h
    cases h
theorem implRead_ev (s : ByteArray) (hs : s.size ≤ 1048576) : Ev (fun k => impl_ReadList.f k s) (rlr (readL s.data.toList)) := by
  unfold impl_ReadList.f
  rw [readL_R]
  by_cases h1 : s.data.toList = [45]
  · simp only [toList_eq, if_pos h1]
    exact Ev.now _
  have hsl := sp_len 44 s.data.toList []
  have hsz := size_len' s
  have h44 : (⟨#[44]⟩ : ByteArray).size = 1 := rfl
  simp only [toList_eq, if_neg h1]
  unfold strings_SplitN.f
  simp only [if_pos (show s.size < 4294967281 ∧ 1 ≤ (⟨#[44]⟩ : ByteArray).size ∧ (1 : Int) ≤ 65 ∧ (65 : Int) ≤ 4294967296 by rw [h44]; omega), Option.bind_some]
  have hm : (Lib.splitB ⟨#[44]⟩ 0 (min (65 : Int).toNat (s.size + 1) - 1) s).map (·.data.toList) = spN 64 (sp 44 [] s.data.toList) := by
    have := splitN_sp (min (65 : Int).toNat (s.size + 1) - 1) s
    rw [show (Lib.splitB ⟨#[44]⟩ 0 (min (65 : Int).toNat (s.size + 1) - 1) s).map (·.data.toList) = _ from this]
    have e65 : (65 : Int).toNat = 65 := rfl
    rw [e65]
    unfold spN
    by_cases hc : s.size + 1 ≤ 65
    · rw [if_pos (by omega), if_pos (by omega)]
    · rw [show min 65 (s.size + 1) - 1 = 64 by omega]
  obtain ⟨t, ht⟩ : ∃ t, t = Lib.splitB ⟨#[44]⟩ 0 (min (65 : Int).toNat (s.size + 1) - 1) s := ⟨_, rfl⟩
  rw [← ht] at hm ⊢
  have hlt : t.length ≤ 65 := by
    have := congrArg List.length hm
    rw [List.length_map] at this
    rw [this]
    unfold spN
    split
    · assumption
    · simp; omega
  have hsm : ∀ x ∈ t, x.size ≤ 1048576 := by
    intro x hx
    have hx' : x.data.toList ∈ spN 64 (sp 44 [] s.data.toList) := by rw [← hm]; exact List.mem_map_of_mem hx
    have key : x.data.toList.length ≤ s.data.toList.length := by
      unfold spN at hx'
      split at hx'
      · have := sp_mem 44 s.data.toList [] _ hx'; simpa using this
      · rcases List.mem_append.1 hx' with hx' | hx'
        · have := sp_mem 44 s.data.toList [] _ (List.mem_of_mem_take hx'); simpa using this
        · rw [List.mem_singleton.1 hx']
          have hj := join_sp 44 s.data.toList []
          have hle : ∀ (m : Nat) (ps : List (List UInt8)), (Lib.join (ps.drop m) [44]).length ≤ (Lib.join ps [44]).length := by
            intro m
            induction m with
            | zero => intro ps; simp
            | succ m ih =>
              intro ps
              cases ps with
              | nil => simp
              | cons a ps =>
                refine Nat.le_trans (ih ps) ?_
                cases ps with
                | nil => simp [Lib.join_nil]
                | cons b ps => rw [join_cons2]; simp only [List.length_append]; omega
          have := hle 64 (sp 44 [] s.data.toList)
          rw [hj] at this
          simpa using this
    rw [size_len' x]
    have : s.data.toList.length = s.size := (size_len' s).symm
    exact Nat.le_trans key (by omega)
  have := implLoop s t hsm (by omega) t 0 [] (by omega) rfl (by simp; omega) (by simp)
  rw [hm, vals_spN] at this
  simp only [List.nil_append] at this
  have e : (match if (sp 44 [] s.data.toList).length ≤ 65 then vals (sp 44 [] s.data.toList) else none with | none => (([], false) : List Int × Bool) | some vs => endL s vs) = rlr (if 64 < (sp 44 [] s.data.toList).length then none else valsR (sp 44 [] s.data.toList)) := by
    by_cases h65 : (sp 44 [] s.data.toList).length ≤ 65
    · rw [if_pos h65]
      unfold valsR
      cases hv : vals (sp 44 [] s.data.toList) with
      | none => simp [rlr]
      | some vs =>
        obtain ⟨t1, t2, t3⟩ := tx_vals s vs h1 hv
        simp only [Option.bind_some]
        unfold endL
        by_cases h64 : 64 < (sp 44 [] s.data.toList).length
        · rw [if_pos h64, if_neg (show ¬ (vs.length ≤ 64 ∧ vs.all inB = true) from fun h => by omega), if_neg (fun h => t2 h.symm)]
          rfl
        · rw [if_neg h64]
          by_cases ha : vs.all inB = true
          · rw [if_pos (show vs.length ≤ 64 ∧ vs.all inB = true from ⟨by omega, ha⟩), if_pos t1, if_pos ha]
            rfl
          · rw [if_neg (show ¬ (vs.length ≤ 64 ∧ vs.all inB = true) from fun h => ha h.2), if_neg ha, if_neg (fun h => t2 h.symm)]
            rfl
    · rw [if_neg h65, if_pos (by omega)]
      rfl
  rw [e] at this
  exact this
def four (o : Option (List Int)) : List Int × Bool := match o with
  | none => ([0, 0, 0, 0], false)
  | some vs => if vs.length = 4 then (vs, true) else ([0, 0, 0, 0], false)
theorem numbers_ev (s : ByteArray) (hs : s.size ≤ 1048576) : Ev (fun k => impl_readNumbers.f k s 4) (four (readL s.data.toList)) := by
  unfold impl_readNumbers.f
  refine Ev.bind (implRead_ev s hs) ?_
  have e4 : List.replicate (4 : Int).toNat (0 : Int) = [0, 0, 0, 0] := rfl
  cases readL s.data.toList with
  | none =>
    simp only [rlr, Bool.false_eq_true, if_false, if_pos (show (0 : Int) ≤ 4 by omega), if_pos (show (4 : Int).toNat ≤ 35184372088832 by decide), e4]
    exact Ev.now _
  | some vs =>
    simp only [rlr, if_true, if_pos (show (0 : Int) ≤ 4 by omega), if_pos (show (4 : Int).toNat ≤ 35184372088832 by decide), e4, four]
    by_cases h : vs.length = 4
    · simp only [if_pos (show (vs.length : Int) = 4 by omega), if_pos h]
      exact Ev.now _
    · simp only [if_neg (show ¬ (vs.length : Int) = 4 by omega), if_neg h]
      exact Ev.now _
end Go.Proofs.YtlbcnflcibmifaaGreatDoor.PRead2
end

section
namespace Go.Proofs.YtlbcnflcibmifaaGreatDoor.PBlocks
open Go.RowKit Go.Proofs.YtlbcnflcibmifaaGreatDoorW.PrintWords Go.Proofs.YtlbcnflcibmifaaGreatDoor.XT Go.Proofs.YtlbcnflcibmifaaGreatDoor.EvK Go.Proofs.YtlbcnflcibmifaaGreatDoor.PBasics
set_option linter.unusedVariables false
set_option linter.unusedSimpArgs false
def noNl (t : ByteArray) : Bool := t.data.toList.all (fun x => !(x == 10))
def blockOk (a b t : ByteArray) : Bool := nameOk a && (nameOk b && (decide ((t.size : Int) ≤ 400) && noNl t))
theorem validBlock_ev (a b t : ByteArray) (ha : a.size ≤ 1048576) (hb : b.size ≤ 1048576) (ht : t.size ≤ 1048576) : Ev (fun k => impl_ValidBlock.f k a b t) (blockOk a b t) := by
  unfold impl_ValidBlock.f blockOk strings_Contains.f
  rw [if_pos (show t.size < 4294967281 by omega)]
  refine Ev.bind (isName_ev a ha) ?_
  cases nameOk a with
  | false => exact Ev.now _
  | true =>
    simp only [if_true, Bool.true_and]
    refine Ev.bind (isName_ev b hb) ?_
    cases nameOk b with
    | false => exact Ev.now _
    | true =>
      simp only [if_true, Bool.true_and]
      by_cases h : (t.size : Int) ≤ 400
      · simp only [if_pos h, Option.bind_some, decide_eq_true h, Bool.true_and, contains_byte t.data.toList 10, Bool.not_not]
        exact Ev.now _
      · simp only [if_neg h, decide_eq_false h, Bool.false_and]
        exact Ev.now _
theorem oneBlock_ev (a b t : ByteArray) (ha : a.size ≤ 1048576) (hb : b.size ≤ 1048576) (ht : t.size ≤ 1048576) : Ev (fun k => spec_l29One.f k a b t) (blockOk a b t) := by
  unfold spec_l29One.f
  rw [size_len'] at ht
  have e : blockOk a b t = if (t.data.toList.all fun x => !(x == 10)) = true then (nameOk a && (nameOk b && decide ((t.size : Int) ≤ 400))) else false := by
    unfold blockOk noNl
    cases (t.data.toList.all fun x => !(x == 10)) <;> simp
  rw [e]
  refine all_to (L := fun k i => spec_l29One.l0 k i a b t) t.data.toList _ _ _ ?_ ?_ ?_
  · intro i hi hp P K
    refine EvP.step (fun k => spec_l29One.l0.eq_2 _ _ _ _ k) ?_
    have hn : ¬ ((t.data.toList[i].toNat : Int) = 10) := by
      intro h
      have : t.data.toList[i] = 10 := UInt8.toNat_inj.1 (by rw [show ((10 : UInt8).toNat) = 10 from rfl]; omega)
      rw [this] at hp
      exact absurd hp (by decide)
    simp only [size_len, if_pos (show (i : Int) < (t.data.toList.length : Int) by omega), if_pos (show (0 : Int) ≤ (i : Int) by omega), bytes_at_ t i hi, if_neg hn, w64 (show -9223372036854775808 ≤ (i : Int) + 1 by omega) (by omega)]
    simpa only [size_len] using K
  · intro i hi hp
    refine Ev.step (fun k => spec_l29One.l0.eq_2 _ _ _ _ k) ?_
    have hn : ((t.data.toList[i].toNat : Int) = 10) := by
      have : t.data.toList[i] = 10 := by simpa using hp
      rw [this]; rfl
    simp only [size_len, if_pos (show (i : Int) < (t.data.toList.length : Int) by omega), if_pos (show (0 : Int) ≤ (i : Int) by omega), bytes_at_ t i hi, if_pos hn]
    exact Ev.now _
  · intro _
    refine Ev.step (fun k => spec_l29One.l0.eq_2 _ _ _ _ k) ?_
    simp only [size_len, if_neg (show ¬ (t.data.toList.length : Int) < (t.data.toList.length : Int) by omega)]
    refine Ev.bind (specName_ev a ha) ?_
    cases nameOk a with
    | false => exact Ev.now _
    | true =>
      simp only [if_true, Bool.true_and]
      refine Ev.bind (specName_ev b hb) ?_
      cases nameOk b with
      | false => exact Ev.now _
      | true =>
        simp only [if_true, Bool.true_and]
        exact Ev.now _
end Go.Proofs.YtlbcnflcibmifaaGreatDoor.PBlocks
end

section
namespace Go.Proofs.YtlbcnflcibmifaaGreatDoor.PBlockL
open Go.RowKit Go.Proofs.YtlbcnflcibmifaaGreatDoorW.PrintWords Go.Proofs.YtlbcnflcibmifaaGreatDoor.XT Go.Proofs.YtlbcnflcibmifaaGreatDoor.EvK Go.Proofs.YtlbcnflcibmifaaGreatDoor.PBasics Go.Proofs.YtlbcnflcibmifaaGreatDoor.PBlocks
set_option linter.unusedVariables false
set_option linter.unusedSimpArgs false
def lessS (a b : ByteArray) : Bool := Op.bytesLess a.data.toList b.data.toList
def before (a b : S38) : Bool := lessS a.f0 b.f0 || (decide (a.f0.data.toList = b.f0.data.toList) && lessS a.f1 b.f1)
def cmpS (a b : ByteArray) : Int := if lessS a b = true then -1 else if lessS b a = true then 1 else 0
def cmpB (a b : S38) : Int := if cmpS a.f0 b.f0 = 0 then cmpS a.f1 b.f1 else cmpS a.f0 b.f0
theorem less_ge' (a b : ByteArray) : (lessS a b || decide (a.data.toList = b.data.toList)) = !(lessS b a) := by
  have h := less_ge a.data.toList b.data.toList
  unfold lessS
  rw [← h]
  congr 1
  rw [Bool.eq_iff_iff]
  simp
theorem cmpB_ge (a b : S38) : 0 ≤ cmpB a b ↔ before a b = false := by
  have h := less_ge' a.f0 b.f0
  unfold cmpB before cmpS
  cases h1 : lessS a.f0 b.f0 <;> cases h2 : lessS b.f0 a.f0 <;> cases h3 : lessS a.f1 b.f1 <;> cases h4 : lessS b.f1 a.f1 <;> simp_all
theorem compare_eq (a b : ByteArray) : cmp_Compare_string.f a b = some (cmpS a b) := by
  unfold cmp_Compare_string.f cmp_isNaN_string.f cmpS lessS
  simp only [bne_self_eq_false, Option.bind_some, Bool.false_eq_true, if_false, toList_eq]
  by_cases h1 : Op.bytesLess a.data.toList b.data.toList = true
  · simp only [if_pos h1]
  · simp only [if_neg h1]
    by_cases h2 : Op.bytesLess b.data.toList a.data.toList = true
    · simp only [if_pos h2]
    · simp only [if_neg h2]
theorem or_ev (a b : Int) : Ev (fun k => cmp_Or_int.f k [a, b]) (if a = 0 then b else a) := by
  unfold cmp_Or_int.f
  have w1 : wrap64 (0 + 1) = 1 := by rw [w64 (by omega) (by omega)]; rfl
  have w2 : wrap64 (1 + 1) = 2 := by rw [w64 (by omega) (by omega)]; rfl
  have r0 : rd [a, b] 0 = a := rfl
  have r1 : rd [a, b] 1 = b := rfl
  have hl : (([a, b] : List Int).length : Int) = 2 := rfl
  refine Ev.step (fun k => cmp_Or_int.l0.eq_2 _ _ _ _ k) ?_
  simp only [hl, w1, r0, if_pos (show (0 : Int) < 2 by omega), if_pos (show (0 : Int) ≤ 0 by omega)]
  by_cases ha : a = 0
  · simp only [if_pos ha]
    refine Ev.step (fun k => cmp_Or_int.l0.eq_2 _ _ _ _ k) ?_
    simp only [hl, w2, r1, if_pos (show (1 : Int) < 2 by omega), if_pos (show (0 : Int) ≤ 1 by omega)]
    by_cases hb : b = 0
    · simp only [if_pos hb]
      refine Ev.step (fun k => cmp_Or_int.l0.eq_2 _ _ _ _ k) ?_
      simp only [hl, if_neg (show ¬ (2 : Int) < 2 by omega), hb]
      exact Ev.now _
    · simp only [if_neg hb]; exact Ev.now _
  · simp only [if_neg ha]; exact Ev.now _
theorem compareB_ev (a b : S38) : Ev (fun k => impl_compareBlocks.f k a.f0 a.f1 a.f2 b.f0 b.f1 b.f2) (cmpB a b) := by
  unfold impl_compareBlocks.f
  simp only [compare_eq, Option.bind_some]
  exact Ev.bind (or_ev _ _) (Ev.now _)
theorem before_eq (a b : S38) : spec_l29Before.f a.f0 a.f1 a.f2 b.f0 b.f1 b.f2 = some (before a b) := by
  unfold spec_l29Before.f before
  simp only [toList_eq]
  show (if lessS a.f0 b.f0 = true then some true else if a.f0.data.toList = b.f0.data.toList then some (lessS a.f1 b.f1) else some false) = _
  cases lessS a.f0 b.f0
  · by_cases h : a.f0.data.toList = b.f0.data.toList <;> simp [h]
  · simp
def okAt (l : List S38) (i : Nat) : Bool := let b := l.getD i z38; blockOk b.f0 b.f1 b.f2 && (decide (i = 0) || before (l.getD (i - 1) z38) b)
def listOk (l : List S38) : Bool := (List.range l.length).all (okAt l) && decide ((l.length : Int) ≤ 32)
def Small (l : List S38) : Prop := l.length ≤ 1048576 ∧ ∀ x ∈ l, x.f0.size ≤ 1048576 ∧ x.f1.size ≤ 1048576 ∧ x.f2.size ≤ 1048576
theorem rd_nat (l : List S38) (i : Nat) : rd_T38 l (i : Int) = l.getD i z38 := rfl
theorem getD_mem {l : List S38} {i : Nat} (h : i < l.length) : l.getD i z38 ∈ l := by
  rw [List.getD_eq_getElem?_getD, List.getElem?_eq_getElem h]
  exact List.getElem_mem h
theorem specOk_ev (l : List S38) (hs : Small l) : Ev (fun k => spec_l29Ok.f k l) (listOk l) := by
  have hl := hs.1
  unfold spec_l29Ok.f listOk
  have e : ((List.range l.length).all (okAt l) && decide ((l.length : Int) ≤ 32)) = if (List.range l.length).all (okAt l) = true then decide ((l.length : Int) ≤ 32) else false := by
    cases (List.range l.length).all (okAt l) <;> simp
  rw [e]
  refine all_n (L := fun k i => spec_l29Ok.l0 k l i) l.length (okAt l) _ _ ?_ ?_ ?_
  · intro i hi hp P K
    obtain ⟨z0, z1, z2⟩ := hs.2 _ (getD_mem hi)
    refine EvP.step (fun k => spec_l29Ok.l0.eq_2 _ _ k) ?_
    simp only [if_pos (show (i : Int) < (l.length : Int) by omega), if_pos (show (0 : Int) ≤ (i : Int) by omega), rd_nat, w64 (show -9223372036854775808 ≤ (i : Int) + 1 by omega) (by omega), w64 (show -9223372036854775808 ≤ (i : Int) - 1 by omega) (by omega)]
    simp only [okAt, Bool.and_eq_true, Bool.or_eq_true, decide_eq_true_eq] at hp
    refine EvP.bind (oneBlock_ev _ _ _ z0 z1 z2) ?_
    simp only [hp.1, if_true]
    by_cases h0 : i = 0
    · simp only [if_neg (show ¬ (i : Int) > 0 by omega)]
      exact K
    · have hb : before (l.getD (i - 1) z38) (l.getD i z38) = true := by rcases hp.2 with h | h; exact absurd h h0; exact h
      have ei : ((i : Int) - 1) = ((i - 1 : Nat) : Int) := by omega
      simp only [if_pos (show (i : Int) > 0 by omega), ei, rd_nat, if_pos (show (0 : Int) ≤ ((i - 1 : Nat) : Int) by omega), if_pos (show ((i - 1 : Nat) : Int) < (l.length : Int) by omega), before_eq, hb, Option.bind_some, if_true]
      exact K
  · intro i hi hp
    obtain ⟨z0, z1, z2⟩ := hs.2 _ (getD_mem hi)
    refine Ev.step (fun k => spec_l29Ok.l0.eq_2 _ _ k) ?_
    simp only [if_pos (show (i : Int) < (l.length : Int) by omega), if_pos (show (0 : Int) ≤ (i : Int) by omega), rd_nat, w64 (show -9223372036854775808 ≤ (i : Int) + 1 by omega) (by omega), w64 (show -9223372036854775808 ≤ (i : Int) - 1 by omega) (by omega)]
    refine Ev.bind (oneBlock_ev _ _ _ z0 z1 z2) ?_
    simp only [okAt, Bool.and_eq_false_iff, Bool.or_eq_false_iff, decide_eq_false_iff_not] at hp
    cases hk : blockOk (l.getD i z38).f0 (l.getD i z38).f1 (l.getD i z38).f2 with
    | false => simp only [Bool.false_eq_true, if_false]; exact Ev.now _
    | true =>
      obtain ⟨h0, hb⟩ : i ≠ 0 ∧ before (l.getD (i - 1) z38) (l.getD i z38) = false := by rcases hp with h | h; rw [hk] at h; exact absurd h (by decide); exact h
      have ei : ((i : Int) - 1) = ((i - 1 : Nat) : Int) := by omega
      simp only [if_pos (show (i : Int) > 0 by omega), ei, rd_nat, if_pos (show (0 : Int) ≤ ((i - 1 : Nat) : Int) by omega), if_pos (show ((i - 1 : Nat) : Int) < (l.length : Int) by omega), before_eq, hb, Option.bind_some, if_true, Bool.false_eq_true, if_false]
      exact Ev.now _
  · refine Ev.step (fun k => spec_l29Ok.l0.eq_2 _ _ k) ?_
    simp only [if_neg (show ¬ (l.length : Int) < (l.length : Int) by omega)]
    exact Ev.now _
theorem implOk_ev (l : List S38) (hs : Small l) : Ev (fun k => impl_ValidBlocks.f k l) (listOk l) := by
  have hl := hs.1
  unfold impl_ValidBlocks.f listOk
  by_cases h32 : (l.length : Int) > 32
  · simp only [if_pos h32, decide_eq_false (show ¬ (l.length : Int) ≤ 32 by omega), Bool.and_false]
    exact Ev.now _
  simp only [if_neg h32, decide_eq_true (show (l.length : Int) ≤ 32 by omega), Bool.and_true]
  have e : (List.range l.length).all (okAt l) = if (List.range l.length).all (okAt l) = true then true else false := by
    cases (List.range l.length).all (okAt l) <;> simp
  rw [e]
  refine all_n (L := fun k i => impl_ValidBlocks.l0 k l l (l.length : Int) i) l.length (okAt l) _ _ ?_ ?_ ?_
  · intro i hi hp P K
    obtain ⟨z0, z1, z2⟩ := hs.2 _ (getD_mem hi)
    refine EvP.step (fun k => impl_ValidBlocks.l0.eq_2 _ _ _ _ k) ?_
    simp only [if_pos (show (i : Int) < (l.length : Int) by omega), if_pos (show (0 : Int) ≤ (i : Int) by omega), rd_nat, w64 (show -9223372036854775808 ≤ (i : Int) + 1 by omega) (by omega), w64 (show -9223372036854775808 ≤ (i : Int) - 1 by omega) (by omega)]
    simp only [okAt, Bool.and_eq_true, Bool.or_eq_true, decide_eq_true_eq] at hp
    refine EvP.bind (validBlock_ev _ _ _ z0 z1 z2) ?_
    simp only [hp.1, if_true]
    by_cases h0 : i = 0
    · simp only [if_neg (show ¬ (i : Int) > 0 by omega)]
      exact K
    · have hb : before (l.getD (i - 1) z38) (l.getD i z38) = true := by rcases hp.2 with h | h; exact absurd h h0; exact h
      have ei : ((i : Int) - 1) = ((i - 1 : Nat) : Int) := by omega
      simp only [if_pos (show (i : Int) > 0 by omega), ei, rd_nat, if_pos (show (0 : Int) ≤ ((i - 1 : Nat) : Int) by omega), if_pos (show ((i - 1 : Nat) : Int) < (l.length : Int) by omega)]
      refine EvP.bind (compareB_ev _ _) ?_
      have hc := cmpB_ge (l.getD (i - 1) z38) (l.getD i z38)
      rw [hb] at hc
      simp only [if_neg (show ¬ (cmpB (l.getD (i - 1) z38) (l.getD i z38) ≥ 0) from fun h => absurd (hc.1 h) (by decide))]
      exact K
  · intro i hi hp
    obtain ⟨z0, z1, z2⟩ := hs.2 _ (getD_mem hi)
    refine Ev.step (fun k => impl_ValidBlocks.l0.eq_2 _ _ _ _ k) ?_
    simp only [if_pos (show (i : Int) < (l.length : Int) by omega), if_pos (show (0 : Int) ≤ (i : Int) by omega), rd_nat, w64 (show -9223372036854775808 ≤ (i : Int) + 1 by omega) (by omega), w64 (show -9223372036854775808 ≤ (i : Int) - 1 by omega) (by omega)]
    refine Ev.bind (validBlock_ev _ _ _ z0 z1 z2) ?_
    simp only [okAt, Bool.and_eq_false_iff, Bool.or_eq_false_iff, decide_eq_false_iff_not] at hp
    cases hk : blockOk (l.getD i z38).f0 (l.getD i z38).f1 (l.getD i z38).f2 with
    | false => simp only [Bool.false_eq_true, if_false]; exact Ev.now _
    | true =>
      obtain ⟨h0, hb⟩ : i ≠ 0 ∧ before (l.getD (i - 1) z38) (l.getD i z38) = false := by rcases hp with h | h; rw [hk] at h; exact absurd h (by decide); exact h
      have ei : ((i : Int) - 1) = ((i - 1 : Nat) : Int) := by omega
      simp only [if_true, if_pos (show (i : Int) > 0 by omega), ei, rd_nat, if_pos (show (0 : Int) ≤ ((i - 1 : Nat) : Int) by omega), if_pos (show ((i - 1 : Nat) : Int) < (l.length : Int) by omega)]
      refine Ev.bind (compareB_ev _ _) ?_
      have hc := cmpB_ge (l.getD (i - 1) z38) (l.getD i z38)
      simp only [if_pos (show cmpB (l.getD (i - 1) z38) (l.getD i z38) ≥ 0 from hc.2 hb)]
      exact Ev.now _
  · refine Ev.step (fun k => impl_ValidBlocks.l0.eq_2 _ _ _ _ k) ?_
    simp only [if_neg (show ¬ (l.length : Int) < (l.length : Int) by omega)]
    exact Ev.now _
end Go.Proofs.YtlbcnflcibmifaaGreatDoor.PBlockL
end
