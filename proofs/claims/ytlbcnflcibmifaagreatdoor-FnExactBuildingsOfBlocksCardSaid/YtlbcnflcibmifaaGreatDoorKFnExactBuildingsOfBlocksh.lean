/- The law FnExactBuildingsOfBlocks: part 7 of its texts, joined (wip/pack.py). -/
import Derived.Test.YtlbcnflcibmifaaGreatDoorKFnExactBuildingsOfBlocksa
import Derived.Test.YtlbcnflcibmifaaGreatDoorKFnExactBuildingsOfBlocksb
import Derived.Test.YtlbcnflcibmifaaGreatDoorKFnExactBuildingsOfBlocksc
import Derived.Test.YtlbcnflcibmifaaGreatDoorKFnExactBuildingsOfBlocksd
import Derived.Test.YtlbcnflcibmifaaGreatDoorKFnExactBuildingsOfBlockse
import Derived.Test.YtlbcnflcibmifaaGreatDoorKFnExactBuildingsOfBlocksf
import Derived.Test.YtlbcnflcibmifaaGreatDoorKFnExactBuildingsOfBlocksg

section
namespace Go.Proofs.YtlbcnflcibmifaaGreatDoor.XT
open Go.RowKit Go.Proofs.YtlbcnflcibmifaaGreatDoorW.PrintWords Go.Proofs.YtlbcnflcibmifaaGreatDoorW.PrintLast Go.Proofs.YtlbcnflcibmifaaGreatDoorW.PrintMore
attribute [local go_sem] run_eql_slice_nil binOp_string_gtr' binOp_string_leq' binOp_string_geq' max2_int min2_int max_two min_two max_three min_three max_four min_four   -- for this text's walks alone
set_option linter.unusedVariables false
set_option linter.unusedSimpArgs false
def impl_BuildingsOfBlocks.l0 : Nat → List (S41) → List (S38) → Int → Int → Option ((List (S41)) × Int)
 | 0, _, _, _, _ => none
 | k + 1, x4, x12, x13, x14 => if x14 < x13 then (if 0 ≤ x14 then (if x14 < (x12.length : Int) then (if ((rd_T38 x12 x14).f0).toList = ([98, 117, 105, 108, 100, 105, 110, 103] : List UInt8) then ((impl_ReadBuilding.f k ((rd_T38 x12 x14).f2)).bind fun bt293 => (if bt293.2.2.2.2.2.2 = true then (if bt293.1.toList = ((rd_T38 x12 x14).f1).toList then (if x4.length < 1954687338268 then (impl_BuildingsOfBlocks.l0 k (x4 ++ [(⟨bt293.1, bt293.2.1, bt293.2.2.1, bt293.2.2.2.1, bt293.2.2.2.2.1, bt293.2.2.2.2.2.1⟩ : S41)]) x12 x13 (wrap64 (x14 + 1))) else (none)) else (some (([] : List (S41)), 6))) else (some (([] : List (S41)), 9)))) else (impl_BuildingsOfBlocks.l0 k x4 x12 x13 (wrap64 (x14 + 1)))) else (none)) else (none)) else (if (x4.length : Int) > 12 then (some (([] : List (S41)), 5)) else (some (x4, 0)))
def impl_BuildingsOfBlocks.f (k : Nat) (l0 : List (S38)) : Option ((List (S41)) × Int) := (impl_ValidBlocks.f k l0).bind fun t290 => (if t290 = true then (impl_BuildingsOfBlocks.l0 k ([] : List (S41)) l0 (l0.length : Int) 0) else (some (([] : List (S41)), 1)))
set_option maxHeartbeats 8000000 in
set_option maxRecDepth 100000 in
theorem impl_BuildingsOfBlocks.calls (k : Nat) (A0 : Option Addr) (c0 : Nat) (l0 : List (S38)) (r1 : List (S41)) (r2 : Int) (w : World) (hr0 : Kd.C k38 w A0 l0.length l0) (hc0 : l0.length ≤ c0) (hSH : ShT Tryz.prog w) (h : impl_BuildingsOfBlocks.f k l0 = some (r1, r2)) :
  Calls Tryz.prog 7 #[.slice A0 l0.length c0] w fun e w' => ∃ v0_ : Value, e = .returned (.tuple #[v0_, .int .i64 r2]) ∧ Kd.S k41 41 w' w.heap.size (fun _ => True) v0_ r1 ∧ Below w.heap.size w w' := by
 have hu38 := Tryz.underlying38
 have hu41 := Tryz.underlying41
 have HR0 := Aside0.mk hr0
 have HC0 := Aside0.mk hc0
 clear hr0 hc0
 have HB := Aside0.mk (Below.refl w.heap.size w)
 have HSH := Aside0.mk hSH
 clear hSH
 have H : ((impl_ValidBlocks.f k l0).bind fun t290 => (if t290 = true then (impl_BuildingsOfBlocks.l0 k ([] : List (S41)) l0 (l0.length : Int) 0) else (some (([] : List (S41)), 1)))) = some (r1, r2) := h
 clear h
 replace H := Option.bind_eq_some_iff.mp H
 obtain ⟨t290, A20, H⟩ := H
 replace H : (if t290 = true then (impl_BuildingsOfBlocks.l0 k ([] : List (S41)) l0 (l0.length : Int) 0) else (some (([] : List (S41)), 1))) = some (r1, r2) := H
 have A2 := Aside0.mk A20
 clear A20
 by_cases c3 : t290 = true
 ·subst c3
  have H1 : (impl_BuildingsOfBlocks.l0 k ([] : List (S41)) l0 (l0.length : Int) 0) = some (r1, r2) := by rw [if_pos rfl] at H; exact H
  clear H
  have H := H1
  clear H1
  have H' := Aside0.mk H
  clear H
  go_enter Tryz.func7, Tryz.ntmps7
  go_wp2_with (first | ((with_reducible refine gate_callee (f := 17) rfl ?_); refine goesL_ (some 10) rfl rfl Tryz.func17 (by kernel_rfl) rfl #[.slice A0 l0.length c0] rfl gZ ?_; (with_reducible refine (impl_ValidBlocks.calls k _ _ l0 true _ ?side1 ?side2 ?side3 A2.out).mono ?_); (case side1 => repeat (first | exact HR0.out | (with_reducible refine Kd.C_alloc ?_ _) | (with_reducible refine Kd.C_drewN ?_ _) | (with_reducible refine Kd.C_drew ?_))); (case side2 => exact HC0.out); (case side3 => exact HSH.out.below (show Below w.heap.size w _ from bZ)); rintro e w4 ⟨rfl, hb⟩; refine ⟨_, rfl, ?_⟩; have n0_ := Aside0.mk (below_step bZ hb); clear HB; have HB := n0_; clear n0_; (try clear hb); (try clear hb2); (try clear hk); (try clear hi)))
  go_loopg [4, 14] k (fun kq v4 v14 w' => ∃ (x4_1 : List (S41)) (x14_1 : Int), v14 = .int .i64 x14_1 ∧ Aside0 (impl_BuildingsOfBlocks.l0 kq x4_1 l0 (l0.length : Int) x14_1 = some (r1, r2)) ∧ Aside0 (kq ≤ k) ∧ Aside0 (Kd.S k41 41 w' w.heap.size (fun _ => True) v4 x4_1) ∧ Aside0 (Below w.heap.size w w'))
  case atStart => exact ⟨(([] : List (S41))), (0), sZ, H', ⟨Nat.le_refl _⟩, ⟨by first | exact Kd.S_nil _ _ _ _ _ | exact Kd.N_nil _ _ _ _ _ | exact Kd.V_nil _ _ _ _ _ | exact Kd.Q_nil _ _ _ _ _ | exact Kd.R_nil _ _ _ _ _⟩, ⟨bZ⟩⟩
  case round =>
   clear H'; (try clear c1); (try clear p2); (try clear c3)
   obtain ⟨x4_1, x14_1, rfl, HA, HK1, HO_4, HB⟩ := hrel
   cases gk with
   | zero => exact absurd HA.out (by simp [impl_BuildingsOfBlocks.l0])
   | succ k1 =>
    have H := HA.out
    clear HA
    simp only [impl_BuildingsOfBlocks.l0] at H
    by_cases c5 : x14_1 < (l0.length : Int)
    ·rw [if_pos c5] at H
     have c5b0 : decide (x14_1 < (l0.length : Int)) = true := decide_eq_true c5
     clear c5
     by_cases c6 : 0 ≤ x14_1
     ·rw [if_pos c6] at H
      have c6b0 : decide (0 ≤ x14_1) = true := decide_eq_true c6
      clear c6
      by_cases c7 : x14_1 < (l0.length : Int)
      ·rw [if_pos c7] at H
       have c7b0 : decide (x14_1 < (l0.length : Int)) = true := decide_eq_true c7
       clear c7
       by_cases c8 : ((rd_T38 l0 x14_1).f0).toList = ([98, 117, 105, 108, 100, 105, 110, 103] : List UInt8)
       ·rw [if_pos c8] at H
        have c8b0 : (((rd_T38 l0 x14_1).f0).toList == ([98, 117, 105, 108, 100, 105, 110, 103] : List UInt8)) = true := beq_iff_eq.mpr c8
        have c8b1 : (((rd_T38 l0 x14_1).f0).toList != ([98, 117, 105, 108, 100, 105, 110, 103] : List UInt8)) = false := bne_eq_false_iff_eq.mpr c8
        clear c8
        replace H := Option.bind_eq_some_iff.mp H
        obtain ⟨⟨t293, t294, t295, t296, t297, t298, t301⟩, A90, H⟩ := H
        replace H : (if t301 = true then (if t293.toList = ((rd_T38 l0 x14_1).f1).toList then (if x4_1.length < 1954687338268 then (impl_BuildingsOfBlocks.l0 k1 (x4_1 ++ [(⟨t293, t294, t295, t296, t297, t298⟩ : S41)]) l0 (l0.length : Int) (wrap64 (x14_1 + 1))) else (none)) else (some (([] : List (S41)), 6))) else (some (([] : List (S41)), 9))) = some (r1, r2) := H
        have A9 := Aside0.mk A90
        clear A90
        by_cases c10 : t301 = true
        ·subst c10
         have H1 : (if t293.toList = ((rd_T38 l0 x14_1).f1).toList then (if x4_1.length < 1954687338268 then (impl_BuildingsOfBlocks.l0 k1 (x4_1 ++ [(⟨t293, t294, t295, t296, t297, t298⟩ : S41)]) l0 (l0.length : Int) (wrap64 (x14_1 + 1))) else (none)) else (some (([] : List (S41)), 6))) = some (r1, r2) := by rw [if_pos rfl] at H; exact H
         clear H
         have H := H1
         clear H1
         by_cases c11 : t293.toList = ((rd_T38 l0 x14_1).f1).toList
         ·rw [if_pos c11] at H
          have c11b0 : (t293.toList == ((rd_T38 l0 x14_1).f1).toList) = true := beq_iff_eq.mpr c11
          have c11b1 : (t293.toList != ((rd_T38 l0 x14_1).f1).toList) = false := bne_eq_false_iff_eq.mpr c11
          clear c11
          by_cases c12 : x4_1.length < 1954687338268
          ·rw [if_pos c12] at H
           have LMc12 := Aside0.mk c12
           clear c12
           obtain ⟨y303, hy303⟩ : ∃ y_ : List (S41), y_ = (x4_1 ++ [(⟨t293, t294, t295, t296, t297, t298⟩ : S41)]) := ⟨_, rfl⟩
           replace H : (impl_BuildingsOfBlocks.l0 k1 y303 l0 (l0.length : Int) (wrap64 (x14_1 + 1))) = some (r1, r2) := by first | (rw [hy303]; with_reducible exact H) | (have H2_ := (Option.bind_some _ _).symm.trans H; rw [hy303]; with_reducible exact H2_) | (have H2_ := (Option.bind_some _ _).symm.trans H; with_reducible exact H2_) | with_reducible exact H | (rw [hy303]; exact H) | exact H
           have Ny303 := Aside0.mk hy303
           clear hy303
           have H' := Aside0.mk H
           clear H
           have p291 : 0 ≤ (x14_1 : Int) := oZ
           have q291 : x14_1 < (l0.length : Int) := oZ
           obtain ⟨ad291, e291, hx291_0, hx291_1, hx291_2⟩ := at_T38 HR0.out x14_1 p291 q291
           cases e291
           replace hx291_0 := (HB.out.cell (World.block_lt_of_cell? w _ hx291_0)).trans hx291_0
           replace hx291_1 := (HB.out.cell (World.block_lt_of_cell? w _ hx291_1)).trans hx291_1
           replace hx291_2 := (HB.out.cell (World.block_lt_of_cell? w _ hx291_2)).trans hx291_2
           replace p291 := eq_true p291
           replace q291 := eq_true q291
           go_wp2_with (first | ((with_reducible refine gate_dst (N := 6) rfl ?_); refine boxZ 6 #[.string (⟨#[]⟩ : ByteArray), .string (⟨#[]⟩ : ByteArray), .string (⟨#[]⟩ : ByteArray)] 38 rfl rfl ?_; intro gb292 hg w13 hbox hb; have n0_ := Aside0.mk (Kd.S_below (by (with_reducible repeat (first | apply Kd.S_alloc | apply Kd.S_drewN | apply Kd.S_drew)); exact HO_4.out) hb); have n1_ := Aside0.mk (below_step bZ hb); have n2_ := Aside0.mk (hbox); have n3_ := Aside0.mk ((by rw [hg]; exact bsZ : w.heap.size ≤ gb292)); have n4_ := Aside0.mk ((by rw [hg]; exact bsZ : w.heap.size ≤ gb292)); clear HO_4; clear HB; have HO_4 := n0_; have HB := n1_; have BK292 := n2_; have GW292 := n3_; have GE292 := n4_; clear n0_ n1_ n2_ n3_ n4_; clear hb hbox hg; have hcz14_0 := bc0 BK292.out; have hcz14_1 := bc1 BK292.out; have hcz14_2 := bc2 BK292.out; have hfz14_0 := blk_frozen BK292.out 0; have hfz14_1 := blk_frozen BK292.out 1; have hfz14_2 := blk_frozen BK292.out 2) | ((with_reducible refine gate_callee (f := 18) rfl ?_); refine goesL_ (some 24) rfl rfl Tryz.func18 (by kernel_rfl) rfl #[.string ((rd_T38 l0 x14_1).f2)] rfl gZ ?_; (with_reducible refine (impl_ReadBuilding.calls k1 ((rd_T38 l0 x14_1).f2) t293 t294 t295 t296 t297 t298 true _ ?side1 A9.out).mono ?_); (case side1 => exact HSH.out.below (show Below w.heap.size w _ from bZ)); rintro e w15 ⟨v299, rfl, ho0, hb⟩; refine ⟨_, rfl, ?_⟩; have n0_ := Aside0.mk (Kd.S_elder' (by (with_reducible repeat (first | apply Kd.S_alloc | apply Kd.S_drewN | apply Kd.S_drew)); exact (Kd.S_mono (Kd.S_far (p := ⟨gb292, 2, none⟩) (Kd.S_far (p := ⟨gb292, 1, none⟩) (Kd.S_far (p := ⟨gb292, 0, none⟩) (Kd.S_types HO_4.out BK292.out (by decide)) (fun _ hk => hk.2) (.string ((rd_T38 l0 x14_1).f0))) (fun _ hk => hk.2) (.string ((rd_T38 l0 x14_1).f1))) (fun _ hk => hk.2) (.string ((rd_T38 l0 x14_1).f2))) (fun _ h_ => h_.1))) (Kd.R_base ho0) hb); have n1_ := Aside0.mk (Kd.R_lower ho0 bsZ); have n2_ := Aside0.mk (blk_below (g := gb292) (o := .cells #[.string ((rd_T38 l0 x14_1).f0), .string ((rd_T38 l0 x14_1).f1), .string ((rd_T38 l0 x14_1).f2)] 38 (0, 0)) (by (with_reducible repeat (first | refine blk_drewN ?_ _ | refine blk_drew ?_ | refine blk_alloc ?_ _)); refine blk_put (cs := #[.string ((rd_T38 l0 x14_1).f0), .string ((rd_T38 l0 x14_1).f1), .string (⟨#[]⟩ : ByteArray)]) ?_ 2 _ rfl; (with_reducible repeat (first | refine blk_drewN ?_ _ | refine blk_drew ?_ | refine blk_alloc ?_ _)); refine blk_put (cs := #[.string ((rd_T38 l0 x14_1).f0), .string (⟨#[]⟩ : ByteArray), .string (⟨#[]⟩ : ByteArray)]) ?_ 1 _ rfl; (with_reducible repeat (first | refine blk_drewN ?_ _ | refine blk_drew ?_ | refine blk_alloc ?_ _)); refine blk_put (cs := #[.string (⟨#[]⟩ : ByteArray), .string (⟨#[]⟩ : ByteArray), .string (⟨#[]⟩ : ByteArray)]) ?_ 0 _ rfl; (with_reducible repeat (first | refine blk_drewN ?_ _ | refine blk_drew ?_ | refine blk_alloc ?_ _)); exact BK292.out) hb); have n3_ := Aside0.mk (below_step bZ hb); clear HO_4; clear BK292; clear HB; have HO_4 := n0_; have HO300 := n1_; have BK292 := n2_; have HB := n3_; clear n0_ n1_ n2_ n3_; (try clear hb); (try clear hb2); (try clear hk); (try clear hi); (try clear ho0)) | ((with_reducible refine gate_dst (N := 7) rfl ?_); refine boxZ 7 #[.string (⟨#[]⟩ : ByteArray), .int .i64 0, .int .i64 0, .int .i64 0, .int .i64 0, .slice none 0 0] 41 rfl rfl ?_; intro gb302 hg w16 hbox hb; have n0_ := Aside0.mk (Kd.S_below (Kd.S_elderB (by (with_reducible repeat (first | apply Kd.S_alloc | apply Kd.S_drewN | apply Kd.S_drew)); exact HO_4.out) gb302 (Nat.le_of_eq hg.symm)) hb); have n1_ := Aside0.mk (Kd.R_below (Kd.rZ HO300.out) hb); have n2_ := Aside0.mk (blk_below (g := gb292) (o := .cells #[.string ((rd_T38 l0 x14_1).f0), .string ((rd_T38 l0 x14_1).f1), .string ((rd_T38 l0 x14_1).f2)] 38 (0, 0)) (kZ BK292.out) hb); have n3_ := Aside0.mk (below_step bZ hb); have n4_ := Aside0.mk (hbox); have n5_ := Aside0.mk ((by rw [hg]; exact bsZ : w.heap.size ≤ gb302)); have n6_ := Aside0.mk ((by rw [hg]; exact bsZ : w.heap.size ≤ gb302)); have n7_ := Aside0.mk ((by rw [hg]; exact Nat.ne_of_lt (blk_lt (g := gb292) (o := .cells #[.string ((rd_T38 l0 x14_1).f0), .string ((rd_T38 l0 x14_1).f1), .string ((rd_T38 l0 x14_1).f2)] 38 (0, 0)) (kZ BK292.out)) : gb292 ≠ gb302)); have n8_ := Aside0.mk ((by rw [hg]; exact Nat.ne_of_gt (blk_lt (g := gb292) (o := .cells #[.string ((rd_T38 l0 x14_1).f0), .string ((rd_T38 l0 x14_1).f1), .string ((rd_T38 l0 x14_1).f2)] 38 (0, 0)) (kZ BK292.out)) : gb302 ≠ gb292)); clear HO_4; clear HO300; clear BK292; clear HB; have HO_4 := n0_; have HO300 := n1_; have BK292 := n2_; have HB := n3_; have BK302 := n4_; have GW302 := n5_; have GE302 := n6_; have NB292_302 := n7_; have NB302_292 := n8_; clear n0_ n1_ n2_ n3_ n4_ n5_ n6_ n7_ n8_; clear hb hbox hg; have hnb17 := NB302_292.out; have hnc17 := NB292_302.out; have hcz18_0 := bc0 BK302.out; have hcz18_1 := bc1 BK302.out; have hcz18_2 := bc2 BK302.out; have hcz18_3 := bc3 BK302.out; have hcz18_4 := bc4 BK302.out; have hcz18_5 := bc5 BK302.out; have hfz18_0 := blk_frozen BK302.out 0; have hfz18_1 := blk_frozen BK302.out 1; have hfz18_2 := blk_frozen BK302.out 2; have hfz18_3 := blk_frozen BK302.out 3; have hfz18_4 := blk_frozen BK302.out 4; have hfz18_5 := blk_frozen BK302.out 5; obtain ⟨Ao19, co19, eo19⟩ := Kd.R_slice HO300.out; subst eo19) | ((with_reducible refine gate_store (t := 41) (p := 7) rfl ?_); refine store_event (t := 41) (p := 7) (v := ?vo_w20) (w1 := ((((((w16.setCell ⟨gb302, 0, none⟩ (.string t293)).setCell ⟨gb302, 1, none⟩ (.int .i64 t294)).setCell ⟨gb302, 2, none⟩ (.int .i64 t295)).setCell ⟨gb302, 3, none⟩ (.int .i64 t296)).setCell ⟨gb302, 4, none⟩ (.int .i64 t297)).setCell ⟨gb302, 5, none⟩ (.slice Ao19 t298.length co19))) ?hg ?ho ?hn ?hr ?_; (case ho => rfl); (case hg => rfl); (case hn => rfl); (case hr => first | (go_simp; done) | (go_simp; rfl)); intro w20 hw; have n0_ : Aside0 (Kd.S k41 41 w20 w.heap.size (fun k_ => some k_ ≠ (.slice Ao19 t298.length co19 : Value).ownBlock ∧ k_ ≠ gb302) u4 x4_1) := ⟨(by rw [hw]; exact (by (with_reducible repeat (first | apply Kd.S_alloc | apply Kd.S_drewN | apply Kd.S_drew)); exact Kd.S_mono (Kd.S_far (p := ⟨gb302, 5, none⟩) (Kd.S_far (p := ⟨gb302, 4, none⟩) (Kd.S_far (p := ⟨gb302, 3, none⟩) (Kd.S_far (p := ⟨gb302, 2, none⟩) (Kd.S_far (p := ⟨gb302, 1, none⟩) (Kd.S_far (p := ⟨gb302, 0, none⟩) (Kd.S_mono HO_4.out (fun k_ hk => (⟨hk, hk.2⟩ : _ ∧ k_ ≠ gb302))) (fun _ hk => hk.2) (.string t293)) (fun _ hk => hk.2) (.int .i64 t294)) (fun _ hk => hk.2) (.int .i64 t295)) (fun _ hk => hk.2) (.int .i64 t296)) (fun _ hk => hk.2) (.int .i64 t297)) (fun _ hk => hk.2) (.slice Ao19 t298.length co19)) (fun _ hk => ⟨hk.1.1.2, hk.1.2⟩)))⟩; have n1_ : Aside0 (Kd.R (Kd.int .i64) 2 w20 w.heap.size (fun _ => True) (.slice Ao19 t298.length co19) t298) := ⟨(by rw [hw]; exact (Kd.rZ (Kd.R_mono (Kd.R_far (p := ⟨gb302, 5, none⟩) (Kd.R_far (p := ⟨gb302, 4, none⟩) (Kd.R_far (p := ⟨gb302, 3, none⟩) (Kd.R_far (p := ⟨gb302, 2, none⟩) (Kd.R_far (p := ⟨gb302, 1, none⟩) (Kd.R_far (p := ⟨gb302, 0, none⟩) (Kd.R_types HO300.out BK302.out (by decide)) (fun _ hk => hk.2) (.string t293)) (fun _ hk => hk.2) (.int .i64 t294)) (fun _ hk => hk.2) (.int .i64 t295)) (fun _ hk => hk.2) (.int .i64 t296)) (fun _ hk => hk.2) (.int .i64 t297)) (fun _ hk => hk.2) (.slice Ao19 t298.length co19)) (fun _ hk => trivial))))⟩; have n2_ : Aside0 (w20.heap[gb292]? = some (.cells #[.string ((rd_T38 l0 x14_1).f0), .string ((rd_T38 l0 x14_1).f1), .string ((rd_T38 l0 x14_1).f2)] 38 (0, 0))) := ⟨(by rw [hw]; exact (by (with_reducible repeat (first | refine blk_drewN ?_ _ | refine blk_drew ?_ | refine blk_alloc ?_ _)); refine blk_far ?_ NB292_302.out _; (with_reducible repeat (first | refine blk_drewN ?_ _ | refine blk_drew ?_ | refine blk_alloc ?_ _)); refine blk_far ?_ NB292_302.out _; (with_reducible repeat (first | refine blk_drewN ?_ _ | refine blk_drew ?_ | refine blk_alloc ?_ _)); refine blk_far ?_ NB292_302.out _; (with_reducible repeat (first | refine blk_drewN ?_ _ | refine blk_drew ?_ | refine blk_alloc ?_ _)); refine blk_far ?_ NB292_302.out _; (with_reducible repeat (first | refine blk_drewN ?_ _ | refine blk_drew ?_ | refine blk_alloc ?_ _)); refine blk_far ?_ NB292_302.out _; (with_reducible repeat (first | refine blk_drewN ?_ _ | refine blk_drew ?_ | refine blk_alloc ?_ _)); refine blk_far ?_ NB292_302.out _; (with_reducible repeat (first | refine blk_drewN ?_ _ | refine blk_drew ?_ | refine blk_alloc ?_ _)); exact BK292.out))⟩; have n3_ : Aside0 (w20.heap[gb302]? = some (.cells #[.string t293, .int .i64 t294, .int .i64 t295, .int .i64 t296, .int .i64 t297, .slice Ao19 t298.length co19] 41 (0, 0))) := ⟨(by rw [hw]; exact (by (with_reducible repeat (first | refine blk_drewN ?_ _ | refine blk_drew ?_ | refine blk_alloc ?_ _)); refine blk_put (cs := #[.string t293, .int .i64 t294, .int .i64 t295, .int .i64 t296, .int .i64 t297, .slice none 0 0]) ?_ 5 _ rfl; (with_reducible repeat (first | refine blk_drewN ?_ _ | refine blk_drew ?_ | refine blk_alloc ?_ _)); refine blk_put (cs := #[.string t293, .int .i64 t294, .int .i64 t295, .int .i64 t296, .int .i64 0, .slice none 0 0]) ?_ 4 _ rfl; (with_reducible repeat (first | refine blk_drewN ?_ _ | refine blk_drew ?_ | refine blk_alloc ?_ _)); refine blk_put (cs := #[.string t293, .int .i64 t294, .int .i64 t295, .int .i64 0, .int .i64 0, .slice none 0 0]) ?_ 3 _ rfl; (with_reducible repeat (first | refine blk_drewN ?_ _ | refine blk_drew ?_ | refine blk_alloc ?_ _)); refine blk_put (cs := #[.string t293, .int .i64 t294, .int .i64 0, .int .i64 0, .int .i64 0, .slice none 0 0]) ?_ 2 _ rfl; (with_reducible repeat (first | refine blk_drewN ?_ _ | refine blk_drew ?_ | refine blk_alloc ?_ _)); refine blk_put (cs := #[.string t293, .int .i64 0, .int .i64 0, .int .i64 0, .int .i64 0, .slice none 0 0]) ?_ 1 _ rfl; (with_reducible repeat (first | refine blk_drewN ?_ _ | refine blk_drew ?_ | refine blk_alloc ?_ _)); refine blk_put (cs := #[.string (⟨#[]⟩ : ByteArray), .int .i64 0, .int .i64 0, .int .i64 0, .int .i64 0, .slice none 0 0]) ?_ 0 _ rfl; (with_reducible repeat (first | refine blk_drewN ?_ _ | refine blk_drew ?_ | refine blk_alloc ?_ _)); exact BK302.out))⟩; have n4_ : Aside0 (Below w.heap.size w w20) := ⟨(by rw [hw]; exact bZ)⟩; clear hw; clear HO_4; clear HO300; clear BK292; clear BK302; clear HB; have HO_4 := n0_; have HO300 := n1_; have BK292 := n2_; have BK302 := n3_; have HB := n4_; clear n0_ n1_ n2_ n3_ n4_; have hcz21_0 := bc0 BK302.out; have hcz21_1 := bc1 BK302.out; have hcz21_2 := bc2 BK302.out; have hcz21_3 := bc3 BK302.out; have hcz21_4 := bc4 BK302.out; have hcz21_5 := bc5 BK302.out; have hfz21_0 := blk_frozen BK302.out 0; have hfz21_1 := blk_frozen BK302.out 1; have hfz21_2 := blk_frozen BK302.out 2; have hfz21_3 := blk_frozen BK302.out 3; have hfz21_4 := blk_frozen BK302.out 4; have hfz21_5 := blk_frozen BK302.out 5; have hcz22_0 := bc0 BK292.out; have hcz22_1 := bc1 BK292.out; have hcz22_2 := bc2 BK292.out; have hfz22_0 := blk_frozen BK292.out 0; have hfz22_1 := blk_frozen BK292.out 1; have hfz22_2 := blk_frozen BK292.out 2) | ((with_reducible refine gate_builtin (b := .append) (xs := #[.tmp 36, .tmp 38]) rfl ?_); at_builtin; refine Kd.S_append k41 (w0 := w) w.heap.size rfl (.tmp 36) (.tmp 38) 24 41 (.agg #[(.string ⟨#[]⟩), (.int .i64 0), (.int .i64 0), (.int .i64 0), (.int .i64 0), (.slice none 0 0)]) 72 rfl Tryz.underlying24 info41 rfl (by decide) (by omega) u4 x4_1 (⟨t293, t294, t295, t296, t297, t298⟩ : S41) [.string t293, .int .i64 t294, .int .i64 t295, .int .i64 t296, .int .i64 t297, .slice Ao19 t298.length co19] (fun k_ => k_ ≠ gb302) (fun k_ => some k_ = (.slice Ao19 t298.length co19 : Value).ownBlock) rfl rfl ?aP (fun k_ hk_ => ((Kd.R_mono (ok' := fun k_ => ((fun k_ => k_ ≠ gb302)) k_ ∧ some k_ ≠ (u4 : Value).ownBlock) (Kd.R_types (Kd.R_apart' (HO300.out) (Kd.S_typed HO_4.out) (by decide)) BK302.out (by decide)) (fun k_ hk => ⟨hk.2, hk.1.2⟩))).1 k_ hk_.symm) ?aF ?aO ?aB ?aS ?aL ?_; (case aP => exact k41_mkM _ _ _ (⟨t293, t294, t295, t296, t297, t298⟩ : S41) (Kd.R_mono (Kd.R_tight rfl (Kd.R_mono (ok' := fun k_ => ((fun k_ => k_ ≠ gb302)) k_ ∧ some k_ ≠ (u4 : Value).ownBlock) (Kd.R_types (Kd.R_apart' (HO300.out) (Kd.S_typed HO_4.out) (by decide)) BK302.out (by decide)) (fun k_ hk => ⟨hk.2, hk.1.2⟩))) (fun _ h_ => h_))); (case aB => exact bZ); (case aF => exact (fun k_ hk => Kd.freshB (g := gb302) (o := .cells #[.string t293, .int .i64 t294, .int .i64 t295, .int .i64 t296, .int .i64 t297, .slice Ao19 t298.length co19] 41 (0, 0)) (kZ BK302.out) k_ hk)); (case aO => exact (by (with_reducible repeat (first | apply Kd.S_alloc | apply Kd.S_drewN | apply Kd.S_drew)); exact Kd.S_mono HO_4.out (fun k_ hk => ⟨hk.2, fun e_ => hk.1 e_⟩))); (case aS => exact bsZ); (case aL => have := LMc12.out; omega); intro v304 w23 ho hb hg hat; rw [← Ny303.out] at ho; have n0_ := Aside0.mk (blk_grown (g := gb292) (o := .cells #[.string ((rd_T38 l0 x14_1).f0), .string ((rd_T38 l0 x14_1).f1), .string ((rd_T38 l0 x14_1).f2)] 38 (0, 0)) (kZ BK292.out) hg (Kd.S_ne HO_4.out BK292.out (by decide))); have n1_ := Aside0.mk (blk_grown (g := gb302) (o := .cells #[.string t293, .int .i64 t294, .int .i64 t295, .int .i64 t296, .int .i64 t297, .slice Ao19 t298.length co19] 41 (0, 0)) (kZ BK302.out) hg (Kd.S_away HO_4.out (fun _ hk => hk.2))); have n2_ := Aside0.mk (hb); have n3_ := Aside0.mk (ho); clear BK292; clear BK302; clear HB; clear HO_4; clear HO300; have BK292 := n0_; have BK302 := n1_; have HB := n2_; have HO305 := n3_; clear n0_ n1_ n2_ n3_; clear ho hb hg hat))
           go_roundg k1
           case measure => have := HK1.out; omega
           case rel => exact ⟨(y303), (wrap64 (x14_1 + 1)), sZ, H', ⟨by have := HK1.out; omega⟩, ⟨by (with_reducible repeat (first | apply Kd.S_alloc | apply Kd.S_drewN | apply Kd.S_drew)); exact Kd.S_mono HO305.out (fun _ hk => trivial)⟩, ⟨bZ⟩⟩
          ·rw [if_neg c12] at H
           exact absurd H (by simp)
         ·rw [if_neg c11] at H
          have c11b0 : (t293.toList == ((rd_T38 l0 x14_1).f1).toList) = false := beq_eq_false_iff_ne.mpr c11
          have c11b1 : (t293.toList != ((rd_T38 l0 x14_1).f1).toList) = true := bne_iff_ne.mpr c11
          simp only [Option.some.injEq, Prod.mk.injEq] at H
          obtain ⟨rfl, rfl⟩ := H
          have p291 : 0 ≤ (x14_1 : Int) := oZ
          have q291 : x14_1 < (l0.length : Int) := oZ
          obtain ⟨ad291, e291, hx291_0, hx291_1, hx291_2⟩ := at_T38 HR0.out x14_1 p291 q291
          cases e291
          replace hx291_0 := (HB.out.cell (World.block_lt_of_cell? w _ hx291_0)).trans hx291_0
          replace hx291_1 := (HB.out.cell (World.block_lt_of_cell? w _ hx291_1)).trans hx291_1
          replace hx291_2 := (HB.out.cell (World.block_lt_of_cell? w _ hx291_2)).trans hx291_2
          replace p291 := eq_true p291
          replace q291 := eq_true q291
          go_wp2_with (first | ((with_reducible refine gate_dst (N := 6) rfl ?_); refine boxZ 6 #[.string (⟨#[]⟩ : ByteArray), .string (⟨#[]⟩ : ByteArray), .string (⟨#[]⟩ : ByteArray)] 38 rfl rfl ?_; intro gb292 hg w24 hbox hb; have n0_ := Aside0.mk (Kd.S_below (by (with_reducible repeat (first | apply Kd.S_alloc | apply Kd.S_drewN | apply Kd.S_drew)); exact HO_4.out) hb); have n1_ := Aside0.mk (below_step bZ hb); have n2_ := Aside0.mk (hbox); have n3_ := Aside0.mk ((by rw [hg]; exact bsZ : w.heap.size ≤ gb292)); have n4_ := Aside0.mk ((by rw [hg]; exact bsZ : w.heap.size ≤ gb292)); clear HO_4; clear HB; have HO_4 := n0_; have HB := n1_; have BK292 := n2_; have GW292 := n3_; have GE292 := n4_; clear n0_ n1_ n2_ n3_ n4_; clear hb hbox hg; have hcz25_0 := bc0 BK292.out; have hcz25_1 := bc1 BK292.out; have hcz25_2 := bc2 BK292.out; have hfz25_0 := blk_frozen BK292.out 0; have hfz25_1 := blk_frozen BK292.out 1; have hfz25_2 := blk_frozen BK292.out 2) | ((with_reducible refine gate_callee (f := 18) rfl ?_); refine goesL_ (some 24) rfl rfl Tryz.func18 (by kernel_rfl) rfl #[.string ((rd_T38 l0 x14_1).f2)] rfl gZ ?_; (with_reducible refine (impl_ReadBuilding.calls k1 ((rd_T38 l0 x14_1).f2) t293 t294 t295 t296 t297 t298 true _ ?side1 A9.out).mono ?_); (case side1 => exact HSH.out.below (show Below w.heap.size w _ from bZ)); rintro e w26 ⟨v299, rfl, ho0, hb⟩; refine ⟨_, rfl, ?_⟩; have n0_ := Aside0.mk (Kd.S_elder' (by (with_reducible repeat (first | apply Kd.S_alloc | apply Kd.S_drewN | apply Kd.S_drew)); exact (Kd.S_mono (Kd.S_far (p := ⟨gb292, 2, none⟩) (Kd.S_far (p := ⟨gb292, 1, none⟩) (Kd.S_far (p := ⟨gb292, 0, none⟩) (Kd.S_types HO_4.out BK292.out (by decide)) (fun _ hk => hk.2) (.string ((rd_T38 l0 x14_1).f0))) (fun _ hk => hk.2) (.string ((rd_T38 l0 x14_1).f1))) (fun _ hk => hk.2) (.string ((rd_T38 l0 x14_1).f2))) (fun _ h_ => h_.1))) (Kd.R_base ho0) hb); have n1_ := Aside0.mk (Kd.R_lower ho0 bsZ); have n2_ := Aside0.mk (blk_below (g := gb292) (o := .cells #[.string ((rd_T38 l0 x14_1).f0), .string ((rd_T38 l0 x14_1).f1), .string ((rd_T38 l0 x14_1).f2)] 38 (0, 0)) (by (with_reducible repeat (first | refine blk_drewN ?_ _ | refine blk_drew ?_ | refine blk_alloc ?_ _)); refine blk_put (cs := #[.string ((rd_T38 l0 x14_1).f0), .string ((rd_T38 l0 x14_1).f1), .string (⟨#[]⟩ : ByteArray)]) ?_ 2 _ rfl; (with_reducible repeat (first | refine blk_drewN ?_ _ | refine blk_drew ?_ | refine blk_alloc ?_ _)); refine blk_put (cs := #[.string ((rd_T38 l0 x14_1).f0), .string (⟨#[]⟩ : ByteArray), .string (⟨#[]⟩ : ByteArray)]) ?_ 1 _ rfl; (with_reducible repeat (first | refine blk_drewN ?_ _ | refine blk_drew ?_ | refine blk_alloc ?_ _)); refine blk_put (cs := #[.string (⟨#[]⟩ : ByteArray), .string (⟨#[]⟩ : ByteArray), .string (⟨#[]⟩ : ByteArray)]) ?_ 0 _ rfl; (with_reducible repeat (first | refine blk_drewN ?_ _ | refine blk_drew ?_ | refine blk_alloc ?_ _)); exact BK292.out) hb); have n3_ := Aside0.mk (below_step bZ hb); clear HO_4; clear BK292; clear HB; have HO_4 := n0_; have HO300 := n1_; have BK292 := n2_; have HB := n3_; clear n0_ n1_ n2_ n3_; (try clear hb); (try clear hb2); (try clear hk); (try clear hi); (try clear ho0)) | ((with_reducible refine gate_dst (N := 7) rfl ?_); refine boxZ 7 #[.string (⟨#[]⟩ : ByteArray), .int .i64 0, .int .i64 0, .int .i64 0, .int .i64 0, .slice none 0 0] 41 rfl rfl ?_; intro gb302 hg w27 hbox hb; have n0_ := Aside0.mk (Kd.S_below (Kd.S_elderB (by (with_reducible repeat (first | apply Kd.S_alloc | apply Kd.S_drewN | apply Kd.S_drew)); exact HO_4.out) gb302 (Nat.le_of_eq hg.symm)) hb); have n1_ := Aside0.mk (Kd.R_below (Kd.rZ HO300.out) hb); have n2_ := Aside0.mk (blk_below (g := gb292) (o := .cells #[.string ((rd_T38 l0 x14_1).f0), .string ((rd_T38 l0 x14_1).f1), .string ((rd_T38 l0 x14_1).f2)] 38 (0, 0)) (kZ BK292.out) hb); have n3_ := Aside0.mk (below_step bZ hb); have n4_ := Aside0.mk (hbox); have n5_ := Aside0.mk ((by rw [hg]; exact bsZ : w.heap.size ≤ gb302)); have n6_ := Aside0.mk ((by rw [hg]; exact bsZ : w.heap.size ≤ gb302)); have n7_ := Aside0.mk ((by rw [hg]; exact Nat.ne_of_lt (blk_lt (g := gb292) (o := .cells #[.string ((rd_T38 l0 x14_1).f0), .string ((rd_T38 l0 x14_1).f1), .string ((rd_T38 l0 x14_1).f2)] 38 (0, 0)) (kZ BK292.out)) : gb292 ≠ gb302)); have n8_ := Aside0.mk ((by rw [hg]; exact Nat.ne_of_gt (blk_lt (g := gb292) (o := .cells #[.string ((rd_T38 l0 x14_1).f0), .string ((rd_T38 l0 x14_1).f1), .string ((rd_T38 l0 x14_1).f2)] 38 (0, 0)) (kZ BK292.out)) : gb302 ≠ gb292)); clear HO_4; clear HO300; clear BK292; clear HB; have HO_4 := n0_; have HO300 := n1_; have BK292 := n2_; have HB := n3_; have BK302 := n4_; have GW302 := n5_; have GE302 := n6_; have NB292_302 := n7_; have NB302_292 := n8_; clear n0_ n1_ n2_ n3_ n4_ n5_ n6_ n7_ n8_; clear hb hbox hg; have hnb28 := NB302_292.out; have hnc28 := NB292_302.out; have hcz29_0 := bc0 BK302.out; have hcz29_1 := bc1 BK302.out; have hcz29_2 := bc2 BK302.out; have hcz29_3 := bc3 BK302.out; have hcz29_4 := bc4 BK302.out; have hcz29_5 := bc5 BK302.out; have hfz29_0 := blk_frozen BK302.out 0; have hfz29_1 := blk_frozen BK302.out 1; have hfz29_2 := blk_frozen BK302.out 2; have hfz29_3 := blk_frozen BK302.out 3; have hfz29_4 := blk_frozen BK302.out 4; have hfz29_5 := blk_frozen BK302.out 5; obtain ⟨Ao30, co30, eo30⟩ := Kd.R_slice HO300.out; subst eo30; have hcz31_0 := bc0 BK292.out; have hcz31_1 := bc1 BK292.out; have hcz31_2 := bc2 BK292.out; have hfz31_0 := blk_frozen BK292.out 0; have hfz31_1 := blk_frozen BK292.out 1; have hfz31_2 := blk_frozen BK292.out 2))
          go_ret2
          exact ⟨_, eZ, by first | exact Kd.S_nil _ _ _ _ _ | exact Kd.N_nil _ _ _ _ _ | exact Kd.V_nil _ _ _ _ _ | exact Kd.Q_nil _ _ _ _ _ | exact Kd.R_nil _ _ _ _ _, bZ⟩
        ·replace c10 := Bool.eq_false_iff.mpr c10
         subst c10
         have H1 : (some (([] : List (S41)), 9)) = some (r1, r2) := by rw [if_neg (show ¬ (false = true) by decide)] at H; exact H
         clear H
         have H := H1
         clear H1
         simp only [Option.some.injEq, Prod.mk.injEq] at H
         obtain ⟨rfl, rfl⟩ := H
         have p291 : 0 ≤ (x14_1 : Int) := oZ
         have q291 : x14_1 < (l0.length : Int) := oZ
         obtain ⟨ad291, e291, hx291_0, hx291_1, hx291_2⟩ := at_T38 HR0.out x14_1 p291 q291
         cases e291
         replace hx291_0 := (HB.out.cell (World.block_lt_of_cell? w _ hx291_0)).trans hx291_0
         replace hx291_1 := (HB.out.cell (World.block_lt_of_cell? w _ hx291_1)).trans hx291_1
         replace hx291_2 := (HB.out.cell (World.block_lt_of_cell? w _ hx291_2)).trans hx291_2
         replace p291 := eq_true p291
         replace q291 := eq_true q291
         go_wp2_with (first | ((with_reducible refine gate_dst (N := 6) rfl ?_); refine boxZ 6 #[.string (⟨#[]⟩ : ByteArray), .string (⟨#[]⟩ : ByteArray), .string (⟨#[]⟩ : ByteArray)] 38 rfl rfl ?_; intro gb292 hg w32 hbox hb; have n0_ := Aside0.mk (Kd.S_below (by (with_reducible repeat (first | apply Kd.S_alloc | apply Kd.S_drewN | apply Kd.S_drew)); exact HO_4.out) hb); have n1_ := Aside0.mk (below_step bZ hb); have n2_ := Aside0.mk (hbox); have n3_ := Aside0.mk ((by rw [hg]; exact bsZ : w.heap.size ≤ gb292)); have n4_ := Aside0.mk ((by rw [hg]; exact bsZ : w.heap.size ≤ gb292)); clear HO_4; clear HB; have HO_4 := n0_; have HB := n1_; have BK292 := n2_; have GW292 := n3_; have GE292 := n4_; clear n0_ n1_ n2_ n3_ n4_; clear hb hbox hg; have hcz33_0 := bc0 BK292.out; have hcz33_1 := bc1 BK292.out; have hcz33_2 := bc2 BK292.out; have hfz33_0 := blk_frozen BK292.out 0; have hfz33_1 := blk_frozen BK292.out 1; have hfz33_2 := blk_frozen BK292.out 2) | ((with_reducible refine gate_callee (f := 18) rfl ?_); refine goesL_ (some 24) rfl rfl Tryz.func18 (by kernel_rfl) rfl #[.string ((rd_T38 l0 x14_1).f2)] rfl gZ ?_; (with_reducible refine (impl_ReadBuilding.calls k1 ((rd_T38 l0 x14_1).f2) t293 t294 t295 t296 t297 t298 false _ ?side1 A9.out).mono ?_); (case side1 => exact HSH.out.below (show Below w.heap.size w _ from bZ)); rintro e w34 ⟨v299, rfl, ho0, hb⟩; refine ⟨_, rfl, ?_⟩; have n0_ := Aside0.mk (Kd.S_elder' (by (with_reducible repeat (first | apply Kd.S_alloc | apply Kd.S_drewN | apply Kd.S_drew)); exact (Kd.S_mono (Kd.S_far (p := ⟨gb292, 2, none⟩) (Kd.S_far (p := ⟨gb292, 1, none⟩) (Kd.S_far (p := ⟨gb292, 0, none⟩) (Kd.S_types HO_4.out BK292.out (by decide)) (fun _ hk => hk.2) (.string ((rd_T38 l0 x14_1).f0))) (fun _ hk => hk.2) (.string ((rd_T38 l0 x14_1).f1))) (fun _ hk => hk.2) (.string ((rd_T38 l0 x14_1).f2))) (fun _ h_ => h_.1))) (Kd.R_base ho0) hb); have n1_ := Aside0.mk (Kd.R_lower ho0 bsZ); have n2_ := Aside0.mk (blk_below (g := gb292) (o := .cells #[.string ((rd_T38 l0 x14_1).f0), .string ((rd_T38 l0 x14_1).f1), .string ((rd_T38 l0 x14_1).f2)] 38 (0, 0)) (by (with_reducible repeat (first | refine blk_drewN ?_ _ | refine blk_drew ?_ | refine blk_alloc ?_ _)); refine blk_put (cs := #[.string ((rd_T38 l0 x14_1).f0), .string ((rd_T38 l0 x14_1).f1), .string (⟨#[]⟩ : ByteArray)]) ?_ 2 _ rfl; (with_reducible repeat (first | refine blk_drewN ?_ _ | refine blk_drew ?_ | refine blk_alloc ?_ _)); refine blk_put (cs := #[.string ((rd_T38 l0 x14_1).f0), .string (⟨#[]⟩ : ByteArray), .string (⟨#[]⟩ : ByteArray)]) ?_ 1 _ rfl; (with_reducible repeat (first | refine blk_drewN ?_ _ | refine blk_drew ?_ | refine blk_alloc ?_ _)); refine blk_put (cs := #[.string (⟨#[]⟩ : ByteArray), .string (⟨#[]⟩ : ByteArray), .string (⟨#[]⟩ : ByteArray)]) ?_ 0 _ rfl; (with_reducible repeat (first | refine blk_drewN ?_ _ | refine blk_drew ?_ | refine blk_alloc ?_ _)); exact BK292.out) hb); have n3_ := Aside0.mk (below_step bZ hb); clear HO_4; clear BK292; clear HB; have HO_4 := n0_; have HO300 := n1_; have BK292 := n2_; have HB := n3_; clear n0_ n1_ n2_ n3_; (try clear hb); (try clear hb2); (try clear hk); (try clear hi); (try clear ho0)) | ((with_reducible refine gate_dst (N := 7) rfl ?_); refine boxZ 7 #[.string (⟨#[]⟩ : ByteArray), .int .i64 0, .int .i64 0, .int .i64 0, .int .i64 0, .slice none 0 0] 41 rfl rfl ?_; intro gb302 hg w35 hbox hb; have n0_ := Aside0.mk (Kd.S_below (Kd.S_elderB (by (with_reducible repeat (first | apply Kd.S_alloc | apply Kd.S_drewN | apply Kd.S_drew)); exact HO_4.out) gb302 (Nat.le_of_eq hg.symm)) hb); have n1_ := Aside0.mk (Kd.R_below (Kd.rZ HO300.out) hb); have n2_ := Aside0.mk (blk_below (g := gb292) (o := .cells #[.string ((rd_T38 l0 x14_1).f0), .string ((rd_T38 l0 x14_1).f1), .string ((rd_T38 l0 x14_1).f2)] 38 (0, 0)) (kZ BK292.out) hb); have n3_ := Aside0.mk (below_step bZ hb); have n4_ := Aside0.mk (hbox); have n5_ := Aside0.mk ((by rw [hg]; exact bsZ : w.heap.size ≤ gb302)); have n6_ := Aside0.mk ((by rw [hg]; exact bsZ : w.heap.size ≤ gb302)); have n7_ := Aside0.mk ((by rw [hg]; exact Nat.ne_of_lt (blk_lt (g := gb292) (o := .cells #[.string ((rd_T38 l0 x14_1).f0), .string ((rd_T38 l0 x14_1).f1), .string ((rd_T38 l0 x14_1).f2)] 38 (0, 0)) (kZ BK292.out)) : gb292 ≠ gb302)); have n8_ := Aside0.mk ((by rw [hg]; exact Nat.ne_of_gt (blk_lt (g := gb292) (o := .cells #[.string ((rd_T38 l0 x14_1).f0), .string ((rd_T38 l0 x14_1).f1), .string ((rd_T38 l0 x14_1).f2)] 38 (0, 0)) (kZ BK292.out)) : gb302 ≠ gb292)); clear HO_4; clear HO300; clear BK292; clear HB; have HO_4 := n0_; have HO300 := n1_; have BK292 := n2_; have HB := n3_; have BK302 := n4_; have GW302 := n5_; have GE302 := n6_; have NB292_302 := n7_; have NB302_292 := n8_; clear n0_ n1_ n2_ n3_ n4_ n5_ n6_ n7_ n8_; clear hb hbox hg; have hnb36 := NB302_292.out; have hnc36 := NB292_302.out; have hcz37_0 := bc0 BK302.out; have hcz37_1 := bc1 BK302.out; have hcz37_2 := bc2 BK302.out; have hcz37_3 := bc3 BK302.out; have hcz37_4 := bc4 BK302.out; have hcz37_5 := bc5 BK302.out; have hfz37_0 := blk_frozen BK302.out 0; have hfz37_1 := blk_frozen BK302.out 1; have hfz37_2 := blk_frozen BK302.out 2; have hfz37_3 := blk_frozen BK302.out 3; have hfz37_4 := blk_frozen BK302.out 4; have hfz37_5 := blk_frozen BK302.out 5; obtain ⟨Ao38, co38, eo38⟩ := Kd.R_slice HO300.out; subst eo38))
         go_ret2
         exact ⟨_, eZ, by first | exact Kd.S_nil _ _ _ _ _ | exact Kd.N_nil _ _ _ _ _ | exact Kd.V_nil _ _ _ _ _ | exact Kd.Q_nil _ _ _ _ _ | exact Kd.R_nil _ _ _ _ _, bZ⟩
       ·rw [if_neg c8] at H
        have c8b0 : (((rd_T38 l0 x14_1).f0).toList == ([98, 117, 105, 108, 100, 105, 110, 103] : List UInt8)) = false := beq_eq_false_iff_ne.mpr c8
        have c8b1 : (((rd_T38 l0 x14_1).f0).toList != ([98, 117, 105, 108, 100, 105, 110, 103] : List UInt8)) = true := bne_iff_ne.mpr c8
        have H' := Aside0.mk H
        clear H
        have p291 : 0 ≤ (x14_1 : Int) := oZ
        have q291 : x14_1 < (l0.length : Int) := oZ
        obtain ⟨ad291, e291, hx291_0, hx291_1, hx291_2⟩ := at_T38 HR0.out x14_1 p291 q291
        cases e291
        replace hx291_0 := (HB.out.cell (World.block_lt_of_cell? w _ hx291_0)).trans hx291_0
        replace hx291_1 := (HB.out.cell (World.block_lt_of_cell? w _ hx291_1)).trans hx291_1
        replace hx291_2 := (HB.out.cell (World.block_lt_of_cell? w _ hx291_2)).trans hx291_2
        replace p291 := eq_true p291
        replace q291 := eq_true q291
        go_wp2_with (first | ((with_reducible refine gate_dst (N := 6) rfl ?_); refine boxZ 6 #[.string (⟨#[]⟩ : ByteArray), .string (⟨#[]⟩ : ByteArray), .string (⟨#[]⟩ : ByteArray)] 38 rfl rfl ?_; intro gb292 hg w39 hbox hb; have n0_ := Aside0.mk (Kd.S_below (by (with_reducible repeat (first | apply Kd.S_alloc | apply Kd.S_drewN | apply Kd.S_drew)); exact HO_4.out) hb); have n1_ := Aside0.mk (below_step bZ hb); have n2_ := Aside0.mk (hbox); have n3_ := Aside0.mk ((by rw [hg]; exact bsZ : w.heap.size ≤ gb292)); have n4_ := Aside0.mk ((by rw [hg]; exact bsZ : w.heap.size ≤ gb292)); clear HO_4; clear HB; have HO_4 := n0_; have HB := n1_; have BK292 := n2_; have GW292 := n3_; have GE292 := n4_; clear n0_ n1_ n2_ n3_ n4_; clear hb hbox hg; have hcz40_0 := bc0 BK292.out; have hcz40_1 := bc1 BK292.out; have hcz40_2 := bc2 BK292.out; have hfz40_0 := blk_frozen BK292.out 0; have hfz40_1 := blk_frozen BK292.out 1; have hfz40_2 := blk_frozen BK292.out 2))
        go_roundg k1
        case measure => have := HK1.out; omega
        case rel => exact ⟨(x4_1), (wrap64 (x14_1 + 1)), sZ, H', ⟨by have := HK1.out; omega⟩, ⟨by (with_reducible repeat (first | apply Kd.S_alloc | apply Kd.S_drewN | apply Kd.S_drew)); exact Kd.S_mono (Kd.S_far (p := ⟨gb292, 2, none⟩) (Kd.S_far (p := ⟨gb292, 1, none⟩) (Kd.S_far (p := ⟨gb292, 0, none⟩) (Kd.S_types HO_4.out BK292.out (by decide)) (fun _ hk => hk.2) (.string ((rd_T38 l0 x14_1).f0))) (fun _ hk => hk.2) (.string ((rd_T38 l0 x14_1).f1))) (fun _ hk => hk.2) (.string ((rd_T38 l0 x14_1).f2))) (fun _ hk => trivial)⟩, ⟨bZ⟩⟩
      ·rw [if_neg c7] at H
       exact absurd H (by simp)
     ·rw [if_neg c6] at H
      exact absurd H (by simp)
    ·rw [if_neg c5] at H
     have c5b0 : decide (x14_1 < (l0.length : Int)) = false := decide_eq_false c5
     clear c5
     by_cases c41 : (x4_1.length : Int) > 12
     ·rw [if_pos c41] at H
      have c41b0 : decide (12 < (x4_1.length : Int)) = true := decide_eq_true c41
      have c41b1 : decide (12 < x4_1.length) = true := decide_eq_true (by omega)
      clear c41
      simp only [Option.some.injEq, Prod.mk.injEq] at H
      obtain ⟨rfl, rfl⟩ := H
      obtain ⟨Ao42, co42, eo42⟩ := Kd.S_slice HO_4.out
      subst eo42
      go_wp2
      go_ret2
      exact ⟨_, eZ, by first | exact Kd.S_nil _ _ _ _ _ | exact Kd.N_nil _ _ _ _ _ | exact Kd.V_nil _ _ _ _ _ | exact Kd.Q_nil _ _ _ _ _ | exact Kd.R_nil _ _ _ _ _, bZ⟩
     ·rw [if_neg c41] at H
      have c41b0 : decide (12 < (x4_1.length : Int)) = false := decide_eq_false c41
      have c41b1 : decide (12 < x4_1.length) = false := decide_eq_false (by omega)
      clear c41
      simp only [Option.some.injEq, Prod.mk.injEq] at H
      obtain ⟨rfl, rfl⟩ := H
      obtain ⟨Ao43, co43, eo43⟩ := Kd.S_slice HO_4.out
      subst eo43
      go_wp2
      go_ret2
      exact ⟨_, eZ, by (with_reducible repeat (first | apply Kd.S_alloc | apply Kd.S_drewN | apply Kd.S_drew)); exact HO_4.out, bZ⟩
 ·replace c3 := Bool.eq_false_iff.mpr c3
  subst c3
  have H1 : (some (([] : List (S41)), 1)) = some (r1, r2) := by rw [if_neg (show ¬ (false = true) by decide)] at H; exact H
  clear H
  have H := H1
  clear H1
  simp only [Option.some.injEq, Prod.mk.injEq] at H
  obtain ⟨rfl, rfl⟩ := H
  go_enter Tryz.func7, Tryz.ntmps7
  go_wp2_with (first | ((with_reducible refine gate_callee (f := 17) rfl ?_); refine goesL_ (some 10) rfl rfl Tryz.func17 (by kernel_rfl) rfl #[.slice A0 l0.length c0] rfl gZ ?_; (with_reducible refine (impl_ValidBlocks.calls k _ _ l0 false _ ?side1 ?side2 ?side3 A2.out).mono ?_); (case side1 => repeat (first | exact HR0.out | (with_reducible refine Kd.C_alloc ?_ _) | (with_reducible refine Kd.C_drewN ?_ _) | (with_reducible refine Kd.C_drew ?_))); (case side2 => exact HC0.out); (case side3 => exact HSH.out.below (show Below w.heap.size w _ from bZ)); rintro e w44 ⟨rfl, hb⟩; refine ⟨_, rfl, ?_⟩; have n0_ := Aside0.mk (below_step bZ hb); clear HB; have HB := n0_; clear n0_; (try clear hb); (try clear hb2); (try clear hk); (try clear hi)))
  go_ret2
  exact ⟨_, eZ, by first | exact Kd.S_nil _ _ _ _ _ | exact Kd.N_nil _ _ _ _ _ | exact Kd.V_nil _ _ _ _ _ | exact Kd.Q_nil _ _ _ _ _ | exact Kd.R_nil _ _ _ _ _, bZ⟩
end Go.Proofs.YtlbcnflcibmifaaGreatDoor.XT
end

section
namespace Go.Proofs.YtlbcnflcibmifaaGreatDoor.XT
open Go.RowKit Go.Proofs.YtlbcnflcibmifaaGreatDoorW.PrintWords Go.Proofs.YtlbcnflcibmifaaGreatDoorW.PrintLast Go.Proofs.YtlbcnflcibmifaaGreatDoorW.PrintMore
attribute [local go_sem] run_eql_slice_nil binOp_string_gtr' binOp_string_leq' binOp_string_geq' max2_int min2_int max_two min_two max_three min_three max_four min_four   -- for this text's walks alone
set_option linter.unusedVariables false
set_option linter.unusedSimpArgs false
def laws_eqInt64S.l0 : Nat → List Int → List Int → Int → Option (Bool)
 | 0, _, _, _ => none
 | k + 1, x0, x1, x5 => if x5 < (x0.length : Int) then (if 0 ≤ x5 then (if x5 < (x1.length : Int) then (if (rd x0 x5) = (rd x1 x5) then (laws_eqInt64S.l0 k x0 x1 (wrap64 (x5 + 1))) else (some false)) else (none)) else (none)) else (some true)
def laws_eqInt64S.f (k : Nat) (l0 : List Int) (l1 : List Int) : Option (Bool) := if (l0.length : Int) = (l1.length : Int) then (laws_eqInt64S.l0 k l0 l1 0) else (some false)
set_option maxHeartbeats 8000000 in
set_option maxRecDepth 100000 in
theorem laws_eqInt64S.calls (k : Nat) (A0 : Option Addr) (c0 : Nat) (l0 : List Int) (A1 : Option Addr) (c1 : Nat) (l1 : List Int) (r : Bool) (w : World) (hr0 : Kd.C (Kd.int .i64) w A0 l0.length l0) (hc0 : l0.length ≤ c0) (hr1 : Kd.C (Kd.int .i64) w A1 l1.length l1) (hc1 : l1.length ≤ c1) (h : laws_eqInt64S.f k l0 l1 = some r) :
  Calls Tryz.prog 35 #[.slice A0 l0.length c0, .slice A1 l1.length c1] w fun e w' => e = .returned (.bool r) ∧ Drawn0 w w' := by
 have HR0 := Aside0.mk hr0
 have HC0 := Aside0.mk hc0
 clear hr0 hc0
 have HR1 := Aside0.mk hr1
 have HC1 := Aside0.mk hc1
 clear hr1 hc1
 have H : (if (l0.length : Int) = (l1.length : Int) then (laws_eqInt64S.l0 k l0 l1 0) else (some false)) = some r := h
 clear h
 by_cases c3 : (l0.length : Int) = (l1.length : Int)
 ·rw [if_pos c3] at H
  have c3b0 : ((l0.length : Int) == (l1.length : Int)) = true := beq_iff_eq.mpr c3
  have c3b1 : ((l0.length : Int) != (l1.length : Int)) = false := bne_eq_false_iff_eq.mpr c3
  have c3b2 : (l0.length == l1.length) = true := by first | simpa using c3 | (simp at c3 ⊢; omega)
  clear c3
  have H' := Aside0.mk H
  clear H
  go_enter Tryz.func35, Tryz.ntmps35
  go_wp2
  repeat (go_quiet (fail); try go_wp2)
  go_loopg [5] k (fun kq v5 w' => ∃ (x5_1 : Int), v5 = .int .i64 x5_1 ∧ Aside0 (laws_eqInt64S.l0 kq l0 l1 x5_1 = some r) ∧ Aside0 (kq ≤ k) ∧ Drawn0 w w')
  case atStart => exact ⟨(0), sZ, H', ⟨Nat.le_refl _⟩, dZ⟩
  case round =>
   clear H'; (try clear c1); (try clear p2); (try clear c3); (try clear c3b0); (try clear c3b1); (try clear c3b2)
   obtain ⟨x5_1, rfl, HA, HK1, ⟨m1, rfl⟩⟩ := hrel
   cases gk with
   | zero => exact absurd HA.out (by simp [laws_eqInt64S.l0])
   | succ k1 =>
    have H := HA.out
    clear HA
    simp only [laws_eqInt64S.l0] at H
    by_cases c4 : x5_1 < (l0.length : Int)
    ·rw [if_pos c4] at H
     have c4b0 : decide (x5_1 < (l0.length : Int)) = true := decide_eq_true c4
     clear c4
     by_cases c5 : 0 ≤ x5_1
     ·rw [if_pos c5] at H
      have c5b0 : decide (0 ≤ x5_1) = true := decide_eq_true c5
      clear c5
      by_cases c6 : x5_1 < (l1.length : Int)
      ·rw [if_pos c6] at H
       have c6b0 : decide (x5_1 < (l1.length : Int)) = true := decide_eq_true c6
       clear c6
       by_cases c7 : (rd l0 x5_1) = (rd l1 x5_1)
       ·rw [if_pos c7] at H
        have c7b0 : ((rd l0 x5_1) == (rd l1 x5_1)) = true := beq_iff_eq.mpr c7
        have c7b1 : ((rd l0 x5_1) != (rd l1 x5_1)) = false := bne_eq_false_iff_eq.mpr c7
        clear c7
        have H' := Aside0.mk H
        clear H
        have p306 : 0 ≤ (x5_1 : Int) := oZ
        have q306 : x5_1 < (l0.length : Int) := oZ
        obtain ⟨ad306, e306, hx306_0⟩ := Kd.at_int HR0.out x5_1 p306 q306
        cases e306
        replace p306 := eq_true p306
        replace q306 := eq_true q306
        have p307 : 0 ≤ (x5_1 : Int) := oZ
        have q307 : x5_1 < (l1.length : Int) := oZ
        obtain ⟨ad307, e307, hx307_0⟩ := Kd.at_int HR1.out x5_1 p307 q307
        cases e307
        replace p307 := eq_true p307
        replace q307 := eq_true q307
        go_wp2
        repeat (go_quiet (fail); try go_wp2)
        go_roundg k1
        case measure => have := HK1.out; omega
        case rel => exact ⟨(wrap64 (x5_1 + 1)), sZ, H', ⟨by have := HK1.out; omega⟩, dZ⟩
       ·rw [if_neg c7] at H
        have c7b0 : ((rd l0 x5_1) == (rd l1 x5_1)) = false := beq_eq_false_iff_ne.mpr c7
        have c7b1 : ((rd l0 x5_1) != (rd l1 x5_1)) = true := bne_iff_ne.mpr c7
        obtain rfl := Option.some.inj H
        have p306 : 0 ≤ (x5_1 : Int) := oZ
        have q306 : x5_1 < (l0.length : Int) := oZ
        obtain ⟨ad306, e306, hx306_0⟩ := Kd.at_int HR0.out x5_1 p306 q306
        cases e306
        replace p306 := eq_true p306
        replace q306 := eq_true q306
        have p307 : 0 ≤ (x5_1 : Int) := oZ
        have q307 : x5_1 < (l1.length : Int) := oZ
        obtain ⟨ad307, e307, hx307_0⟩ := Kd.at_int HR1.out x5_1 p307 q307
        cases e307
        replace p307 := eq_true p307
        replace q307 := eq_true q307
        go_wp2
        repeat (go_quiet (fail); try go_wp2)
        go_ret
        exact ⟨sZ, dZ⟩
      ·rw [if_neg c6] at H
       exact absurd H (by simp)
     ·rw [if_neg c5] at H
      exact absurd H (by simp)
    ·rw [if_neg c4] at H
     have c4b0 : decide (x5_1 < (l0.length : Int)) = false := decide_eq_false c4
     clear c4
     obtain rfl := Option.some.inj H
     go_wp2
     repeat (go_quiet (fail); try go_wp2)
     go_ret
     exact ⟨sZ, dZ⟩
 ·rw [if_neg c3] at H
  have c3b0 : ((l0.length : Int) == (l1.length : Int)) = false := beq_eq_false_iff_ne.mpr c3
  have c3b1 : ((l0.length : Int) != (l1.length : Int)) = true := bne_iff_ne.mpr c3
  have c3b2 : (l0.length == l1.length) = false := by first | simpa using c3 | (simp at c3 ⊢; omega)
  obtain rfl := Option.some.inj H
  go_enter Tryz.func35, Tryz.ntmps35
  go_wp2
  repeat (go_quiet (fail); try go_wp2)
  go_ret
  exact ⟨sZ, dZ⟩
end Go.Proofs.YtlbcnflcibmifaaGreatDoor.XT
end

section
namespace Go.Proofs.YtlbcnflcibmifaaGreatDoor.XT
open Go.RowKit Go.Proofs.YtlbcnflcibmifaaGreatDoorW.PrintWords Go.Proofs.YtlbcnflcibmifaaGreatDoorW.PrintLast Go.Proofs.YtlbcnflcibmifaaGreatDoorW.PrintMore
attribute [local go_sem] run_eql_slice_nil binOp_string_gtr' binOp_string_leq' binOp_string_geq' max2_int min2_int max_two min_two max_three min_three max_four min_four   -- for this text's walks alone
set_option linter.unusedVariables false
set_option linter.unusedSimpArgs false
def laws_eqBuilding.f (k : Nat) (a0_0 : ByteArray) (a0_1 : Int) (a0_2 : Int) (a0_3 : Int) (a0_4 : Int) (l0_5 : List Int) (a1_0 : ByteArray) (a1_1 : Int) (a1_2 : Int) (a1_3 : Int) (a1_4 : Int) (l1_5 : List Int) : Option (Bool) := if a0_0.toList = a1_0.toList then (if a0_1 = a1_1 then (if a0_2 = a1_2 then (if a0_3 = a1_3 then (if a0_4 = a1_4 then ((laws_eqInt64S.f k l0_5 l1_5).bind fun t310 => (if t310 = true then (some true) else (some false))) else (some false)) else (some false)) else (some false)) else (some false)) else (some false)
set_option maxHeartbeats 8000000 in
set_option maxRecDepth 100000 in
theorem laws_eqBuilding.calls (k : Nat) (a0_0 : ByteArray) (a0_1 : Int) (a0_2 : Int) (a0_3 : Int) (a0_4 : Int) (A0_5 : Option Addr) (c0_5 : Nat) (l0_5 : List Int) (a1_0 : ByteArray) (a1_1 : Int) (a1_2 : Int) (a1_3 : Int) (a1_4 : Int) (A1_5 : Option Addr) (c1_5 : Nat) (l1_5 : List Int) (r : Bool) (w : World) (hr0_5 : Kd.C (Kd.int .i64) w A0_5 l0_5.length l0_5) (hc0_5 : l0_5.length ≤ c0_5) (hr1_5 : Kd.C (Kd.int .i64) w A1_5 l1_5.length l1_5) (hc1_5 : l1_5.length ≤ c1_5) (h : laws_eqBuilding.f k a0_0 a0_1 a0_2 a0_3 a0_4 l0_5 a1_0 a1_1 a1_2 a1_3 a1_4 l1_5 = some r) :
  Calls Tryz.prog 19 #[.agg #[.string a0_0, .int .i64 a0_1, .int .i64 a0_2, .int .i64 a0_3, .int .i64 a0_4, .slice A0_5 l0_5.length c0_5], .agg #[.string a1_0, .int .i64 a1_1, .int .i64 a1_2, .int .i64 a1_3, .int .i64 a1_4, .slice A1_5 l1_5.length c1_5]] w fun e w' => e = .returned (.bool r) ∧ Below w.heap.size w w' := by
 have hu41 := Tryz.underlying41
 have HR0_5 := Aside0.mk hr0_5
 have HC0_5 := Aside0.mk hc0_5
 clear hr0_5 hc0_5
 have HR1_5 := Aside0.mk hr1_5
 have HC1_5 := Aside0.mk hc1_5
 clear hr1_5 hc1_5
 have HB := Aside0.mk (Below.refl w.heap.size w)
 have H : (if a0_0.toList = a1_0.toList then (if a0_1 = a1_1 then (if a0_2 = a1_2 then (if a0_3 = a1_3 then (if a0_4 = a1_4 then ((laws_eqInt64S.f k l0_5 l1_5).bind fun t310 => (if t310 = true then (some true) else (some false))) else (some false)) else (some false)) else (some false)) else (some false)) else (some false)) = some r := h
 clear h
 by_cases c3 : a0_0.toList = a1_0.toList
 ·rw [if_pos c3] at H
  have c3b0 : (a0_0.toList == a1_0.toList) = true := beq_iff_eq.mpr c3
  have c3b1 : (a0_0.toList != a1_0.toList) = false := bne_eq_false_iff_eq.mpr c3
  clear c3
  by_cases c4 : a0_1 = a1_1
  ·rw [if_pos c4] at H
   have c4b0 : (a0_1 == a1_1) = true := beq_iff_eq.mpr c4
   have c4b1 : (a0_1 != a1_1) = false := bne_eq_false_iff_eq.mpr c4
   clear c4
   by_cases c5 : a0_2 = a1_2
   ·rw [if_pos c5] at H
    have c5b0 : (a0_2 == a1_2) = true := beq_iff_eq.mpr c5
    have c5b1 : (a0_2 != a1_2) = false := bne_eq_false_iff_eq.mpr c5
    clear c5
    by_cases c6 : a0_3 = a1_3
    ·rw [if_pos c6] at H
     have c6b0 : (a0_3 == a1_3) = true := beq_iff_eq.mpr c6
     have c6b1 : (a0_3 != a1_3) = false := bne_eq_false_iff_eq.mpr c6
     clear c6
     by_cases c7 : a0_4 = a1_4
     ·rw [if_pos c7] at H
      have c7b0 : (a0_4 == a1_4) = true := beq_iff_eq.mpr c7
      have c7b1 : (a0_4 != a1_4) = false := bne_eq_false_iff_eq.mpr c7
      clear c7
      replace H := Option.bind_eq_some_iff.mp H
      obtain ⟨t310, A80, H⟩ := H
      replace H : (if t310 = true then (some true) else (some false)) = some r := H
      have A8 := Aside0.mk A80
      clear A80
      by_cases c9 : t310 = true
      ·subst c9
       have H1 : (some true) = some r := by rw [if_pos rfl] at H; exact H
       clear H
       have H := H1
       clear H1
       obtain rfl := Option.some.inj H
       go_enter Tryz.func19, Tryz.ntmps19
       go_wp2_with (first | ((with_reducible refine gate_dst (N := 2) rfl ?_); refine boxZ 2 #[.string a0_0, .int .i64 a0_1, .int .i64 a0_2, .int .i64 a0_3, .int .i64 a0_4, .slice A0_5 l0_5.length c0_5] 41 rfl rfl ?_; intro gb308 hg w10 hbox hb; have n0_ := Aside0.mk (below_step bZ hb); have n1_ := Aside0.mk (hbox); have n2_ := Aside0.mk ((by rw [hg]; exact bsZ : w.heap.size ≤ gb308)); have n3_ := Aside0.mk ((by rw [hg]; exact bsZ : w.heap.size ≤ gb308)); clear HB; have HB := n0_; have BK308 := n1_; have GW308 := n2_; have GE308 := n3_; clear n0_ n1_ n2_ n3_; clear hb hbox hg) | ((with_reducible refine gate_dst (N := 3) rfl ?_); refine boxZ 3 #[.string a1_0, .int .i64 a1_1, .int .i64 a1_2, .int .i64 a1_3, .int .i64 a1_4, .slice A1_5 l1_5.length c1_5] 41 rfl rfl ?_; intro gb309 hg w11 hbox hb; have n0_ := Aside0.mk (blk_below (g := gb308) (o := .cells #[.string a0_0, .int .i64 a0_1, .int .i64 a0_2, .int .i64 a0_3, .int .i64 a0_4, .slice A0_5 l0_5.length c0_5] 41 (0, 0)) (kZ BK308.out) hb); have n1_ := Aside0.mk (below_step bZ hb); have n2_ := Aside0.mk (hbox); have n3_ := Aside0.mk ((by rw [hg]; exact bsZ : w.heap.size ≤ gb309)); have n4_ := Aside0.mk ((by rw [hg]; exact bsZ : w.heap.size ≤ gb309)); have n5_ := Aside0.mk ((by rw [hg]; exact Nat.ne_of_lt (blk_lt (g := gb308) (o := .cells #[.string a0_0, .int .i64 a0_1, .int .i64 a0_2, .int .i64 a0_3, .int .i64 a0_4, .slice A0_5 l0_5.length c0_5] 41 (0, 0)) (kZ BK308.out)) : gb308 ≠ gb309)); have n6_ := Aside0.mk ((by rw [hg]; exact Nat.ne_of_gt (blk_lt (g := gb308) (o := .cells #[.string a0_0, .int .i64 a0_1, .int .i64 a0_2, .int .i64 a0_3, .int .i64 a0_4, .slice A0_5 l0_5.length c0_5] 41 (0, 0)) (kZ BK308.out)) : gb309 ≠ gb308)); clear BK308; clear HB; have BK308 := n0_; have HB := n1_; have BK309 := n2_; have GW309 := n3_; have GE309 := n4_; have NB308_309 := n5_; have NB309_308 := n6_; clear n0_ n1_ n2_ n3_ n4_ n5_ n6_; clear hb hbox hg; have hnb12 := NB308_309.out; have hnc12 := NB309_308.out; have hcz13_0 := bc0 BK308.out; have hcz13_1 := bc1 BK308.out; have hcz13_2 := bc2 BK308.out; have hcz13_3 := bc3 BK308.out; have hcz13_4 := bc4 BK308.out; have hcz13_5 := bc5 BK308.out; have hfz13_0 := blk_frozen BK308.out 0; have hfz13_1 := blk_frozen BK308.out 1; have hfz13_2 := blk_frozen BK308.out 2; have hfz13_3 := blk_frozen BK308.out 3; have hfz13_4 := blk_frozen BK308.out 4; have hfz13_5 := blk_frozen BK308.out 5; have hcz14_0 := bc0 BK309.out; have hcz14_1 := bc1 BK309.out; have hcz14_2 := bc2 BK309.out; have hcz14_3 := bc3 BK309.out; have hcz14_4 := bc4 BK309.out; have hcz14_5 := bc5 BK309.out; have hfz14_0 := blk_frozen BK309.out 0; have hfz14_1 := blk_frozen BK309.out 1; have hfz14_2 := blk_frozen BK309.out 2; have hfz14_3 := blk_frozen BK309.out 3; have hfz14_4 := blk_frozen BK309.out 4; have hfz14_5 := blk_frozen BK309.out 5) | ((with_reducible refine gate_callee (f := 35) rfl ?_); refine goesL_ (some 34) rfl rfl Tryz.func35 (by kernel_rfl) rfl #[.slice A0_5 l0_5.length c0_5, .slice A1_5 l1_5.length c1_5] rfl gZ ?_; (with_reducible refine (laws_eqInt64S.calls k _ _ l0_5 _ _ l1_5 true _ ?side1 ?side2 ?side3 ?side4 A8.out).mono ?_); (case side1 => repeat (first | exact (Kd.C_below HR0_5.out HB.out) | (with_reducible refine Kd.C_alloc ?_ _) | (with_reducible refine Kd.C_drewN ?_ _) | (with_reducible refine Kd.C_drew ?_))); (case side2 => exact HC0_5.out); (case side3 => repeat (first | exact (Kd.C_below HR1_5.out HB.out) | (with_reducible refine Kd.C_alloc ?_ _) | (with_reducible refine Kd.C_drewN ?_ _) | (with_reducible refine Kd.C_drew ?_))); (case side4 => exact HC1_5.out); rintro e w' ⟨rfl, ⟨nd, rfl⟩⟩; refine ⟨_, rfl, ?_⟩))
       go_ret
       exact ⟨eZ, bZ⟩
      ·replace c9 := Bool.eq_false_iff.mpr c9
       subst c9
       have H1 : (some false) = some r := by rw [if_neg (show ¬ (false = true) by decide)] at H; exact H
       clear H
       have H := H1
       clear H1
       obtain rfl := Option.some.inj H
       go_enter Tryz.func19, Tryz.ntmps19
       go_wp2_with (first | ((with_reducible refine gate_dst (N := 2) rfl ?_); refine boxZ 2 #[.string a0_0, .int .i64 a0_1, .int .i64 a0_2, .int .i64 a0_3, .int .i64 a0_4, .slice A0_5 l0_5.length c0_5] 41 rfl rfl ?_; intro gb308 hg w15 hbox hb; have n0_ := Aside0.mk (below_step bZ hb); have n1_ := Aside0.mk (hbox); have n2_ := Aside0.mk ((by rw [hg]; exact bsZ : w.heap.size ≤ gb308)); have n3_ := Aside0.mk ((by rw [hg]; exact bsZ : w.heap.size ≤ gb308)); clear HB; have HB := n0_; have BK308 := n1_; have GW308 := n2_; have GE308 := n3_; clear n0_ n1_ n2_ n3_; clear hb hbox hg) | ((with_reducible refine gate_dst (N := 3) rfl ?_); refine boxZ 3 #[.string a1_0, .int .i64 a1_1, .int .i64 a1_2, .int .i64 a1_3, .int .i64 a1_4, .slice A1_5 l1_5.length c1_5] 41 rfl rfl ?_; intro gb309 hg w16 hbox hb; have n0_ := Aside0.mk (blk_below (g := gb308) (o := .cells #[.string a0_0, .int .i64 a0_1, .int .i64 a0_2, .int .i64 a0_3, .int .i64 a0_4, .slice A0_5 l0_5.length c0_5] 41 (0, 0)) (kZ BK308.out) hb); have n1_ := Aside0.mk (below_step bZ hb); have n2_ := Aside0.mk (hbox); have n3_ := Aside0.mk ((by rw [hg]; exact bsZ : w.heap.size ≤ gb309)); have n4_ := Aside0.mk ((by rw [hg]; exact bsZ : w.heap.size ≤ gb309)); have n5_ := Aside0.mk ((by rw [hg]; exact Nat.ne_of_lt (blk_lt (g := gb308) (o := .cells #[.string a0_0, .int .i64 a0_1, .int .i64 a0_2, .int .i64 a0_3, .int .i64 a0_4, .slice A0_5 l0_5.length c0_5] 41 (0, 0)) (kZ BK308.out)) : gb308 ≠ gb309)); have n6_ := Aside0.mk ((by rw [hg]; exact Nat.ne_of_gt (blk_lt (g := gb308) (o := .cells #[.string a0_0, .int .i64 a0_1, .int .i64 a0_2, .int .i64 a0_3, .int .i64 a0_4, .slice A0_5 l0_5.length c0_5] 41 (0, 0)) (kZ BK308.out)) : gb309 ≠ gb308)); clear BK308; clear HB; have BK308 := n0_; have HB := n1_; have BK309 := n2_; have GW309 := n3_; have GE309 := n4_; have NB308_309 := n5_; have NB309_308 := n6_; clear n0_ n1_ n2_ n3_ n4_ n5_ n6_; clear hb hbox hg; have hnb17 := NB308_309.out; have hnc17 := NB309_308.out; have hcz18_0 := bc0 BK308.out; have hcz18_1 := bc1 BK308.out; have hcz18_2 := bc2 BK308.out; have hcz18_3 := bc3 BK308.out; have hcz18_4 := bc4 BK308.out; have hcz18_5 := bc5 BK308.out; have hfz18_0 := blk_frozen BK308.out 0; have hfz18_1 := blk_frozen BK308.out 1; have hfz18_2 := blk_frozen BK308.out 2; have hfz18_3 := blk_frozen BK308.out 3; have hfz18_4 := blk_frozen BK308.out 4; have hfz18_5 := blk_frozen BK308.out 5; have hcz19_0 := bc0 BK309.out; have hcz19_1 := bc1 BK309.out; have hcz19_2 := bc2 BK309.out; have hcz19_3 := bc3 BK309.out; have hcz19_4 := bc4 BK309.out; have hcz19_5 := bc5 BK309.out; have hfz19_0 := blk_frozen BK309.out 0; have hfz19_1 := blk_frozen BK309.out 1; have hfz19_2 := blk_frozen BK309.out 2; have hfz19_3 := blk_frozen BK309.out 3; have hfz19_4 := blk_frozen BK309.out 4; have hfz19_5 := blk_frozen BK309.out 5) | ((with_reducible refine gate_callee (f := 35) rfl ?_); refine goesL_ (some 34) rfl rfl Tryz.func35 (by kernel_rfl) rfl #[.slice A0_5 l0_5.length c0_5, .slice A1_5 l1_5.length c1_5] rfl gZ ?_; (with_reducible refine (laws_eqInt64S.calls k _ _ l0_5 _ _ l1_5 false _ ?side1 ?side2 ?side3 ?side4 A8.out).mono ?_); (case side1 => repeat (first | exact (Kd.C_below HR0_5.out HB.out) | (with_reducible refine Kd.C_alloc ?_ _) | (with_reducible refine Kd.C_drewN ?_ _) | (with_reducible refine Kd.C_drew ?_))); (case side2 => exact HC0_5.out); (case side3 => repeat (first | exact (Kd.C_below HR1_5.out HB.out) | (with_reducible refine Kd.C_alloc ?_ _) | (with_reducible refine Kd.C_drewN ?_ _) | (with_reducible refine Kd.C_drew ?_))); (case side4 => exact HC1_5.out); rintro e w' ⟨rfl, ⟨nd, rfl⟩⟩; refine ⟨_, rfl, ?_⟩))
       go_ret
       exact ⟨eZ, bZ⟩
     ·rw [if_neg c7] at H
      have c7b0 : (a0_4 == a1_4) = false := beq_eq_false_iff_ne.mpr c7
      have c7b1 : (a0_4 != a1_4) = true := bne_iff_ne.mpr c7
      obtain rfl := Option.some.inj H
      go_enter Tryz.func19, Tryz.ntmps19
      go_wp2_with (first | ((with_reducible refine gate_dst (N := 2) rfl ?_); refine boxZ 2 #[.string a0_0, .int .i64 a0_1, .int .i64 a0_2, .int .i64 a0_3, .int .i64 a0_4, .slice A0_5 l0_5.length c0_5] 41 rfl rfl ?_; intro gb308 hg w20 hbox hb; have n0_ := Aside0.mk (below_step bZ hb); have n1_ := Aside0.mk (hbox); have n2_ := Aside0.mk ((by rw [hg]; exact bsZ : w.heap.size ≤ gb308)); have n3_ := Aside0.mk ((by rw [hg]; exact bsZ : w.heap.size ≤ gb308)); clear HB; have HB := n0_; have BK308 := n1_; have GW308 := n2_; have GE308 := n3_; clear n0_ n1_ n2_ n3_; clear hb hbox hg) | ((with_reducible refine gate_dst (N := 3) rfl ?_); refine boxZ 3 #[.string a1_0, .int .i64 a1_1, .int .i64 a1_2, .int .i64 a1_3, .int .i64 a1_4, .slice A1_5 l1_5.length c1_5] 41 rfl rfl ?_; intro gb309 hg w21 hbox hb; have n0_ := Aside0.mk (blk_below (g := gb308) (o := .cells #[.string a0_0, .int .i64 a0_1, .int .i64 a0_2, .int .i64 a0_3, .int .i64 a0_4, .slice A0_5 l0_5.length c0_5] 41 (0, 0)) (kZ BK308.out) hb); have n1_ := Aside0.mk (below_step bZ hb); have n2_ := Aside0.mk (hbox); have n3_ := Aside0.mk ((by rw [hg]; exact bsZ : w.heap.size ≤ gb309)); have n4_ := Aside0.mk ((by rw [hg]; exact bsZ : w.heap.size ≤ gb309)); have n5_ := Aside0.mk ((by rw [hg]; exact Nat.ne_of_lt (blk_lt (g := gb308) (o := .cells #[.string a0_0, .int .i64 a0_1, .int .i64 a0_2, .int .i64 a0_3, .int .i64 a0_4, .slice A0_5 l0_5.length c0_5] 41 (0, 0)) (kZ BK308.out)) : gb308 ≠ gb309)); have n6_ := Aside0.mk ((by rw [hg]; exact Nat.ne_of_gt (blk_lt (g := gb308) (o := .cells #[.string a0_0, .int .i64 a0_1, .int .i64 a0_2, .int .i64 a0_3, .int .i64 a0_4, .slice A0_5 l0_5.length c0_5] 41 (0, 0)) (kZ BK308.out)) : gb309 ≠ gb308)); clear BK308; clear HB; have BK308 := n0_; have HB := n1_; have BK309 := n2_; have GW309 := n3_; have GE309 := n4_; have NB308_309 := n5_; have NB309_308 := n6_; clear n0_ n1_ n2_ n3_ n4_ n5_ n6_; clear hb hbox hg; have hnb22 := NB308_309.out; have hnc22 := NB309_308.out; have hcz23_0 := bc0 BK308.out; have hcz23_1 := bc1 BK308.out; have hcz23_2 := bc2 BK308.out; have hcz23_3 := bc3 BK308.out; have hcz23_4 := bc4 BK308.out; have hcz23_5 := bc5 BK308.out; have hfz23_0 := blk_frozen BK308.out 0; have hfz23_1 := blk_frozen BK308.out 1; have hfz23_2 := blk_frozen BK308.out 2; have hfz23_3 := blk_frozen BK308.out 3; have hfz23_4 := blk_frozen BK308.out 4; have hfz23_5 := blk_frozen BK308.out 5; have hcz24_0 := bc0 BK309.out; have hcz24_1 := bc1 BK309.out; have hcz24_2 := bc2 BK309.out; have hcz24_3 := bc3 BK309.out; have hcz24_4 := bc4 BK309.out; have hcz24_5 := bc5 BK309.out; have hfz24_0 := blk_frozen BK309.out 0; have hfz24_1 := blk_frozen BK309.out 1; have hfz24_2 := blk_frozen BK309.out 2; have hfz24_3 := blk_frozen BK309.out 3; have hfz24_4 := blk_frozen BK309.out 4; have hfz24_5 := blk_frozen BK309.out 5))
      go_ret
      exact ⟨eZ, bZ⟩
    ·rw [if_neg c6] at H
     have c6b0 : (a0_3 == a1_3) = false := beq_eq_false_iff_ne.mpr c6
     have c6b1 : (a0_3 != a1_3) = true := bne_iff_ne.mpr c6
     obtain rfl := Option.some.inj H
     go_enter Tryz.func19, Tryz.ntmps19
     go_wp2_with (first | ((with_reducible refine gate_dst (N := 2) rfl ?_); refine boxZ 2 #[.string a0_0, .int .i64 a0_1, .int .i64 a0_2, .int .i64 a0_3, .int .i64 a0_4, .slice A0_5 l0_5.length c0_5] 41 rfl rfl ?_; intro gb308 hg w25 hbox hb; have n0_ := Aside0.mk (below_step bZ hb); have n1_ := Aside0.mk (hbox); have n2_ := Aside0.mk ((by rw [hg]; exact bsZ : w.heap.size ≤ gb308)); have n3_ := Aside0.mk ((by rw [hg]; exact bsZ : w.heap.size ≤ gb308)); clear HB; have HB := n0_; have BK308 := n1_; have GW308 := n2_; have GE308 := n3_; clear n0_ n1_ n2_ n3_; clear hb hbox hg) | ((with_reducible refine gate_dst (N := 3) rfl ?_); refine boxZ 3 #[.string a1_0, .int .i64 a1_1, .int .i64 a1_2, .int .i64 a1_3, .int .i64 a1_4, .slice A1_5 l1_5.length c1_5] 41 rfl rfl ?_; intro gb309 hg w26 hbox hb; have n0_ := Aside0.mk (blk_below (g := gb308) (o := .cells #[.string a0_0, .int .i64 a0_1, .int .i64 a0_2, .int .i64 a0_3, .int .i64 a0_4, .slice A0_5 l0_5.length c0_5] 41 (0, 0)) (kZ BK308.out) hb); have n1_ := Aside0.mk (below_step bZ hb); have n2_ := Aside0.mk (hbox); have n3_ := Aside0.mk ((by rw [hg]; exact bsZ : w.heap.size ≤ gb309)); have n4_ := Aside0.mk ((by rw [hg]; exact bsZ : w.heap.size ≤ gb309)); have n5_ := Aside0.mk ((by rw [hg]; exact Nat.ne_of_lt (blk_lt (g := gb308) (o := .cells #[.string a0_0, .int .i64 a0_1, .int .i64 a0_2, .int .i64 a0_3, .int .i64 a0_4, .slice A0_5 l0_5.length c0_5] 41 (0, 0)) (kZ BK308.out)) : gb308 ≠ gb309)); have n6_ := Aside0.mk ((by rw [hg]; exact Nat.ne_of_gt (blk_lt (g := gb308) (o := .cells #[.string a0_0, .int .i64 a0_1, .int .i64 a0_2, .int .i64 a0_3, .int .i64 a0_4, .slice A0_5 l0_5.length c0_5] 41 (0, 0)) (kZ BK308.out)) : gb309 ≠ gb308)); clear BK308; clear HB; have BK308 := n0_; have HB := n1_; have BK309 := n2_; have GW309 := n3_; have GE309 := n4_; have NB308_309 := n5_; have NB309_308 := n6_; clear n0_ n1_ n2_ n3_ n4_ n5_ n6_; clear hb hbox hg; have hnb27 := NB308_309.out; have hnc27 := NB309_308.out; have hcz28_0 := bc0 BK308.out; have hcz28_1 := bc1 BK308.out; have hcz28_2 := bc2 BK308.out; have hcz28_3 := bc3 BK308.out; have hcz28_4 := bc4 BK308.out; have hcz28_5 := bc5 BK308.out; have hfz28_0 := blk_frozen BK308.out 0; have hfz28_1 := blk_frozen BK308.out 1; have hfz28_2 := blk_frozen BK308.out 2; have hfz28_3 := blk_frozen BK308.out 3; have hfz28_4 := blk_frozen BK308.out 4; have hfz28_5 := blk_frozen BK308.out 5; have hcz29_0 := bc0 BK309.out; have hcz29_1 := bc1 BK309.out; have hcz29_2 := bc2 BK309.out; have hcz29_3 := bc3 BK309.out; have hcz29_4 := bc4 BK309.out; have hcz29_5 := bc5 BK309.out; have hfz29_0 := blk_frozen BK309.out 0; have hfz29_1 := blk_frozen BK309.out 1; have hfz29_2 := blk_frozen BK309.out 2; have hfz29_3 := blk_frozen BK309.out 3; have hfz29_4 := blk_frozen BK309.out 4; have hfz29_5 := blk_frozen BK309.out 5))
     go_ret
     exact ⟨eZ, bZ⟩
   ·rw [if_neg c5] at H
    have c5b0 : (a0_2 == a1_2) = false := beq_eq_false_iff_ne.mpr c5
    have c5b1 : (a0_2 != a1_2) = true := bne_iff_ne.mpr c5
    obtain rfl := Option.some.inj H
    go_enter Tryz.func19, Tryz.ntmps19
    go_wp2_with (first | ((with_reducible refine gate_dst (N := 2) rfl ?_); refine boxZ 2 #[.string a0_0, .int .i64 a0_1, .int .i64 a0_2, .int .i64 a0_3, .int .i64 a0_4, .slice A0_5 l0_5.length c0_5] 41 rfl rfl ?_; intro gb308 hg w30 hbox hb; have n0_ := Aside0.mk (below_step bZ hb); have n1_ := Aside0.mk (hbox); have n2_ := Aside0.mk ((by rw [hg]; exact bsZ : w.heap.size ≤ gb308)); have n3_ := Aside0.mk ((by rw [hg]; exact bsZ : w.heap.size ≤ gb308)); clear HB; have HB := n0_; have BK308 := n1_; have GW308 := n2_; have GE308 := n3_; clear n0_ n1_ n2_ n3_; clear hb hbox hg) | ((with_reducible refine gate_dst (N := 3) rfl ?_); refine boxZ 3 #[.string a1_0, .int .i64 a1_1, .int .i64 a1_2, .int .i64 a1_3, .int .i64 a1_4, .slice A1_5 l1_5.length c1_5] 41 rfl rfl ?_; intro gb309 hg w31 hbox hb; have n0_ := Aside0.mk (blk_below (g := gb308) (o := .cells #[.string a0_0, .int .i64 a0_1, .int .i64 a0_2, .int .i64 a0_3, .int .i64 a0_4, .slice A0_5 l0_5.length c0_5] 41 (0, 0)) (kZ BK308.out) hb); have n1_ := Aside0.mk (below_step bZ hb); have n2_ := Aside0.mk (hbox); have n3_ := Aside0.mk ((by rw [hg]; exact bsZ : w.heap.size ≤ gb309)); have n4_ := Aside0.mk ((by rw [hg]; exact bsZ : w.heap.size ≤ gb309)); have n5_ := Aside0.mk ((by rw [hg]; exact Nat.ne_of_lt (blk_lt (g := gb308) (o := .cells #[.string a0_0, .int .i64 a0_1, .int .i64 a0_2, .int .i64 a0_3, .int .i64 a0_4, .slice A0_5 l0_5.length c0_5] 41 (0, 0)) (kZ BK308.out)) : gb308 ≠ gb309)); have n6_ := Aside0.mk ((by rw [hg]; exact Nat.ne_of_gt (blk_lt (g := gb308) (o := .cells #[.string a0_0, .int .i64 a0_1, .int .i64 a0_2, .int .i64 a0_3, .int .i64 a0_4, .slice A0_5 l0_5.length c0_5] 41 (0, 0)) (kZ BK308.out)) : gb309 ≠ gb308)); clear BK308; clear HB; have BK308 := n0_; have HB := n1_; have BK309 := n2_; have GW309 := n3_; have GE309 := n4_; have NB308_309 := n5_; have NB309_308 := n6_; clear n0_ n1_ n2_ n3_ n4_ n5_ n6_; clear hb hbox hg; have hnb32 := NB308_309.out; have hnc32 := NB309_308.out; have hcz33_0 := bc0 BK308.out; have hcz33_1 := bc1 BK308.out; have hcz33_2 := bc2 BK308.out; have hcz33_3 := bc3 BK308.out; have hcz33_4 := bc4 BK308.out; have hcz33_5 := bc5 BK308.out; have hfz33_0 := blk_frozen BK308.out 0; have hfz33_1 := blk_frozen BK308.out 1; have hfz33_2 := blk_frozen BK308.out 2; have hfz33_3 := blk_frozen BK308.out 3; have hfz33_4 := blk_frozen BK308.out 4; have hfz33_5 := blk_frozen BK308.out 5; have hcz34_0 := bc0 BK309.out; have hcz34_1 := bc1 BK309.out; have hcz34_2 := bc2 BK309.out; have hcz34_3 := bc3 BK309.out; have hcz34_4 := bc4 BK309.out; have hcz34_5 := bc5 BK309.out; have hfz34_0 := blk_frozen BK309.out 0; have hfz34_1 := blk_frozen BK309.out 1; have hfz34_2 := blk_frozen BK309.out 2; have hfz34_3 := blk_frozen BK309.out 3; have hfz34_4 := blk_frozen BK309.out 4; have hfz34_5 := blk_frozen BK309.out 5))
    go_ret
    exact ⟨eZ, bZ⟩
  ·rw [if_neg c4] at H
   have c4b0 : (a0_1 == a1_1) = false := beq_eq_false_iff_ne.mpr c4
   have c4b1 : (a0_1 != a1_1) = true := bne_iff_ne.mpr c4
   obtain rfl := Option.some.inj H
   go_enter Tryz.func19, Tryz.ntmps19
   go_wp2_with (first | ((with_reducible refine gate_dst (N := 2) rfl ?_); refine boxZ 2 #[.string a0_0, .int .i64 a0_1, .int .i64 a0_2, .int .i64 a0_3, .int .i64 a0_4, .slice A0_5 l0_5.length c0_5] 41 rfl rfl ?_; intro gb308 hg w35 hbox hb; have n0_ := Aside0.mk (below_step bZ hb); have n1_ := Aside0.mk (hbox); have n2_ := Aside0.mk ((by rw [hg]; exact bsZ : w.heap.size ≤ gb308)); have n3_ := Aside0.mk ((by rw [hg]; exact bsZ : w.heap.size ≤ gb308)); clear HB; have HB := n0_; have BK308 := n1_; have GW308 := n2_; have GE308 := n3_; clear n0_ n1_ n2_ n3_; clear hb hbox hg) | ((with_reducible refine gate_dst (N := 3) rfl ?_); refine boxZ 3 #[.string a1_0, .int .i64 a1_1, .int .i64 a1_2, .int .i64 a1_3, .int .i64 a1_4, .slice A1_5 l1_5.length c1_5] 41 rfl rfl ?_; intro gb309 hg w36 hbox hb; have n0_ := Aside0.mk (blk_below (g := gb308) (o := .cells #[.string a0_0, .int .i64 a0_1, .int .i64 a0_2, .int .i64 a0_3, .int .i64 a0_4, .slice A0_5 l0_5.length c0_5] 41 (0, 0)) (kZ BK308.out) hb); have n1_ := Aside0.mk (below_step bZ hb); have n2_ := Aside0.mk (hbox); have n3_ := Aside0.mk ((by rw [hg]; exact bsZ : w.heap.size ≤ gb309)); have n4_ := Aside0.mk ((by rw [hg]; exact bsZ : w.heap.size ≤ gb309)); have n5_ := Aside0.mk ((by rw [hg]; exact Nat.ne_of_lt (blk_lt (g := gb308) (o := .cells #[.string a0_0, .int .i64 a0_1, .int .i64 a0_2, .int .i64 a0_3, .int .i64 a0_4, .slice A0_5 l0_5.length c0_5] 41 (0, 0)) (kZ BK308.out)) : gb308 ≠ gb309)); have n6_ := Aside0.mk ((by rw [hg]; exact Nat.ne_of_gt (blk_lt (g := gb308) (o := .cells #[.string a0_0, .int .i64 a0_1, .int .i64 a0_2, .int .i64 a0_3, .int .i64 a0_4, .slice A0_5 l0_5.length c0_5] 41 (0, 0)) (kZ BK308.out)) : gb309 ≠ gb308)); clear BK308; clear HB; have BK308 := n0_; have HB := n1_; have BK309 := n2_; have GW309 := n3_; have GE309 := n4_; have NB308_309 := n5_; have NB309_308 := n6_; clear n0_ n1_ n2_ n3_ n4_ n5_ n6_; clear hb hbox hg; have hnb37 := NB308_309.out; have hnc37 := NB309_308.out; have hcz38_0 := bc0 BK308.out; have hcz38_1 := bc1 BK308.out; have hcz38_2 := bc2 BK308.out; have hcz38_3 := bc3 BK308.out; have hcz38_4 := bc4 BK308.out; have hcz38_5 := bc5 BK308.out; have hfz38_0 := blk_frozen BK308.out 0; have hfz38_1 := blk_frozen BK308.out 1; have hfz38_2 := blk_frozen BK308.out 2; have hfz38_3 := blk_frozen BK308.out 3; have hfz38_4 := blk_frozen BK308.out 4; have hfz38_5 := blk_frozen BK308.out 5; have hcz39_0 := bc0 BK309.out; have hcz39_1 := bc1 BK309.out; have hcz39_2 := bc2 BK309.out; have hcz39_3 := bc3 BK309.out; have hcz39_4 := bc4 BK309.out; have hcz39_5 := bc5 BK309.out; have hfz39_0 := blk_frozen BK309.out 0; have hfz39_1 := blk_frozen BK309.out 1; have hfz39_2 := blk_frozen BK309.out 2; have hfz39_3 := blk_frozen BK309.out 3; have hfz39_4 := blk_frozen BK309.out 4; have hfz39_5 := blk_frozen BK309.out 5))
   go_ret
   exact ⟨eZ, bZ⟩
 ·rw [if_neg c3] at H
  have c3b0 : (a0_0.toList == a1_0.toList) = false := beq_eq_false_iff_ne.mpr c3
  have c3b1 : (a0_0.toList != a1_0.toList) = true := bne_iff_ne.mpr c3
  obtain rfl := Option.some.inj H
  go_enter Tryz.func19, Tryz.ntmps19
  go_wp2_with (first | ((with_reducible refine gate_dst (N := 2) rfl ?_); refine boxZ 2 #[.string a0_0, .int .i64 a0_1, .int .i64 a0_2, .int .i64 a0_3, .int .i64 a0_4, .slice A0_5 l0_5.length c0_5] 41 rfl rfl ?_; intro gb308 hg w40 hbox hb; have n0_ := Aside0.mk (below_step bZ hb); have n1_ := Aside0.mk (hbox); have n2_ := Aside0.mk ((by rw [hg]; exact bsZ : w.heap.size ≤ gb308)); have n3_ := Aside0.mk ((by rw [hg]; exact bsZ : w.heap.size ≤ gb308)); clear HB; have HB := n0_; have BK308 := n1_; have GW308 := n2_; have GE308 := n3_; clear n0_ n1_ n2_ n3_; clear hb hbox hg) | ((with_reducible refine gate_dst (N := 3) rfl ?_); refine boxZ 3 #[.string a1_0, .int .i64 a1_1, .int .i64 a1_2, .int .i64 a1_3, .int .i64 a1_4, .slice A1_5 l1_5.length c1_5] 41 rfl rfl ?_; intro gb309 hg w41 hbox hb; have n0_ := Aside0.mk (blk_below (g := gb308) (o := .cells #[.string a0_0, .int .i64 a0_1, .int .i64 a0_2, .int .i64 a0_3, .int .i64 a0_4, .slice A0_5 l0_5.length c0_5] 41 (0, 0)) (kZ BK308.out) hb); have n1_ := Aside0.mk (below_step bZ hb); have n2_ := Aside0.mk (hbox); have n3_ := Aside0.mk ((by rw [hg]; exact bsZ : w.heap.size ≤ gb309)); have n4_ := Aside0.mk ((by rw [hg]; exact bsZ : w.heap.size ≤ gb309)); have n5_ := Aside0.mk ((by rw [hg]; exact Nat.ne_of_lt (blk_lt (g := gb308) (o := .cells #[.string a0_0, .int .i64 a0_1, .int .i64 a0_2, .int .i64 a0_3, .int .i64 a0_4, .slice A0_5 l0_5.length c0_5] 41 (0, 0)) (kZ BK308.out)) : gb308 ≠ gb309)); have n6_ := Aside0.mk ((by rw [hg]; exact Nat.ne_of_gt (blk_lt (g := gb308) (o := .cells #[.string a0_0, .int .i64 a0_1, .int .i64 a0_2, .int .i64 a0_3, .int .i64 a0_4, .slice A0_5 l0_5.length c0_5] 41 (0, 0)) (kZ BK308.out)) : gb309 ≠ gb308)); clear BK308; clear HB; have BK308 := n0_; have HB := n1_; have BK309 := n2_; have GW309 := n3_; have GE309 := n4_; have NB308_309 := n5_; have NB309_308 := n6_; clear n0_ n1_ n2_ n3_ n4_ n5_ n6_; clear hb hbox hg; have hnb42 := NB308_309.out; have hnc42 := NB309_308.out; have hcz43_0 := bc0 BK308.out; have hcz43_1 := bc1 BK308.out; have hcz43_2 := bc2 BK308.out; have hcz43_3 := bc3 BK308.out; have hcz43_4 := bc4 BK308.out; have hcz43_5 := bc5 BK308.out; have hfz43_0 := blk_frozen BK308.out 0; have hfz43_1 := blk_frozen BK308.out 1; have hfz43_2 := blk_frozen BK308.out 2; have hfz43_3 := blk_frozen BK308.out 3; have hfz43_4 := blk_frozen BK308.out 4; have hfz43_5 := blk_frozen BK308.out 5; have hcz44_0 := bc0 BK309.out; have hcz44_1 := bc1 BK309.out; have hcz44_2 := bc2 BK309.out; have hcz44_3 := bc3 BK309.out; have hcz44_4 := bc4 BK309.out; have hcz44_5 := bc5 BK309.out; have hfz44_0 := blk_frozen BK309.out 0; have hfz44_1 := blk_frozen BK309.out 1; have hfz44_2 := blk_frozen BK309.out 2; have hfz44_3 := blk_frozen BK309.out 3; have hfz44_4 := blk_frozen BK309.out 4; have hfz44_5 := blk_frozen BK309.out 5))
  go_ret
  exact ⟨eZ, bZ⟩
end Go.Proofs.YtlbcnflcibmifaaGreatDoor.XT
end

section
namespace Go.Proofs.YtlbcnflcibmifaaGreatDoor.XT
open Go.RowKit Go.Proofs.YtlbcnflcibmifaaGreatDoorW.PrintWords Go.Proofs.YtlbcnflcibmifaaGreatDoorW.PrintLast Go.Proofs.YtlbcnflcibmifaaGreatDoorW.PrintMore
attribute [local go_sem] run_eql_slice_nil binOp_string_gtr' binOp_string_leq' binOp_string_geq' max2_int min2_int max_two min_two max_three min_three max_four min_four   -- for this text's walks alone
set_option linter.unusedVariables false
set_option linter.unusedSimpArgs false
def laws_eqBuildingS.l0 : Nat → List (S41) → List (S41) → Int → Option (Bool)
 | 0, _, _, _ => none
 | k + 1, x0, x1, x5 => if x5 < (x0.length : Int) then (if 0 ≤ x5 then (if x5 < (x1.length : Int) then ((laws_eqBuilding.f k ((rd_T41 x0 x5).f0) ((rd_T41 x0 x5).f1) ((rd_T41 x0 x5).f2) ((rd_T41 x0 x5).f3) ((rd_T41 x0 x5).f4) ((rd_T41 x0 x5).f5) ((rd_T41 x1 x5).f0) ((rd_T41 x1 x5).f1) ((rd_T41 x1 x5).f2) ((rd_T41 x1 x5).f3) ((rd_T41 x1 x5).f4) ((rd_T41 x1 x5).f5)).bind fun t313 => (if t313 = true then (laws_eqBuildingS.l0 k x0 x1 (wrap64 (x5 + 1))) else (none))) else (none)) else (none)) else (some true)
def laws_eqBuildingS.f (k : Nat) (l0 : List (S41)) (l1 : List (S41)) : Option (Bool) := if (l0.length : Int) = (l1.length : Int) then (laws_eqBuildingS.l0 k l0 l1 0) else (none)
def laws_eqBuildingS.T6 : Bool × List (List Nat × List Nat) := (true, [([], []), ([], []), ([0, 1], [0, 1]), ([2], [2]), ([], []), ([], []), ([4, 5], [4, 5]), ([6], [6]), ([3, 7], [3, 7]), ([8], [8])])
def laws_eqBuildingS.B6 : List Nat := [0, 0, 3, 7, 0, 0, 48, 112, 255, 511]
theorem laws_eqBuildingS.tab6 : rtab .any (opsOf Tryz.f8 6) = laws_eqBuildingS.T6 := by kernel_rfl
theorem laws_eqBuildingS.bits6 : waitsOk laws_eqBuildingS.T6.2 laws_eqBuildingS.B6 = true := by kernel_rfl
set_option maxHeartbeats 8000000 in
set_option maxRecDepth 100000 in
theorem laws_eqBuildingS.calls (k : Nat) (A0 : Option Addr) (c0 : Nat) (l0 : List (S41)) (A1 : Option Addr) (c1 : Nat) (l1 : List (S41)) (r : Bool) (w : World) (hr0 : Kd.C k41 w A0 l0.length l0) (hc0 : l0.length ≤ c0) (hr1 : Kd.C k41 w A1 l1.length l1) (hc1 : l1.length ≤ c1) (h : laws_eqBuildingS.f k l0 l1 = some r) :
  Calls Tryz.prog 8 #[.slice A0 l0.length c0, .slice A1 l1.length c1] w fun e w' => e = .returned (.bool r) ∧ Below w.heap.size w w' := by
 have hu41 := Tryz.underlying41
 have HR0 := Aside0.mk hr0
 have HC0 := Aside0.mk hc0
 clear hr0 hc0
 have HR1 := Aside0.mk hr1
 have HC1 := Aside0.mk hc1
 clear hr1 hc1
 have HB := Aside0.mk (Below.refl w.heap.size w)
 have H : (if (l0.length : Int) = (l1.length : Int) then (laws_eqBuildingS.l0 k l0 l1 0) else (none)) = some r := h
 clear h
 by_cases c3 : (l0.length : Int) = (l1.length : Int)
 ·rw [if_pos c3] at H
  have c3b0 : ((l0.length : Int) == (l1.length : Int)) = true := beq_iff_eq.mpr c3
  have c3b1 : ((l0.length : Int) != (l1.length : Int)) = false := bne_eq_false_iff_eq.mpr c3
  have c3b2 : (l0.length == l1.length) = true := by first | simpa using c3 | (simp at c3 ⊢; omega)
  clear c3
  have H' := Aside0.mk H
  clear H
  go_enter Tryz.func8, Tryz.ntmps8
  go_wp2
  go_loopg [5] k (fun kq v5 w' => ∃ (x5_1 : Int), v5 = .int .i64 x5_1 ∧ Aside0 (laws_eqBuildingS.l0 kq l0 l1 x5_1 = some r) ∧ Aside0 (kq ≤ k) ∧ Aside0 (Below w.heap.size w w'))
  case atStart => exact ⟨(0), sZ, H', ⟨Nat.le_refl _⟩, ⟨bZ⟩⟩
  case round =>
   clear H'; (try clear c1); (try clear p2); (try clear c3); (try clear c3b0); (try clear c3b1); (try clear c3b2)
   obtain ⟨x5_1, rfl, HA, HK1, HB⟩ := hrel
   cases gk with
   | zero => exact absurd HA.out (by simp [laws_eqBuildingS.l0])
   | succ k1 =>
    have H := HA.out
    clear HA
    simp only [laws_eqBuildingS.l0] at H
    by_cases c4 : x5_1 < (l0.length : Int)
    ·rw [if_pos c4] at H
     have c4b0 : decide (x5_1 < (l0.length : Int)) = true := decide_eq_true c4
     clear c4
     by_cases c5 : 0 ≤ x5_1
     ·rw [if_pos c5] at H
      have c5b0 : decide (0 ≤ x5_1) = true := decide_eq_true c5
      clear c5
      by_cases c6 : x5_1 < (l1.length : Int)
      ·rw [if_pos c6] at H
       have c6b0 : decide (x5_1 < (l1.length : Int)) = true := decide_eq_true c6
       clear c6
       replace H := Option.bind_eq_some_iff.mp H
       obtain ⟨t313, A70, H⟩ := H
       replace H : (if t313 = true then (laws_eqBuildingS.l0 k1 l0 l1 (wrap64 (x5_1 + 1))) else (none)) = some r := H
       have A7 := Aside0.mk A70
       clear A70
       by_cases c8 : t313 = true
       ·subst c8
        have H1 : (laws_eqBuildingS.l0 k1 l0 l1 (wrap64 (x5_1 + 1))) = some r := by rw [if_pos rfl] at H; exact H
        clear H
        have H := H1
        clear H1
        have H' := Aside0.mk H
        clear H
        try go_wp2
        have n0_ := Aside0.mk (below_drew1 HB.out)
        clear HB
        have HB := n0_
        clear n0_
        have p311 : 0 ≤ (x5_1 : Int) := oZ
        have q311 : x5_1 < (l0.length : Int) := oZ
        obtain ⟨ad311, A311_5, c311_5, e311, hx311_0, hx311_1, hx311_2, hx311_3, hx311_4, hx311_5, hl311_5, hi311_5⟩ := at_T41 HR0.out x5_1 p311 q311
        have hw311_5 := hx311_5
        have hw311_4 := hx311_4
        have hw311_3 := hx311_3
        have hw311_2 := hx311_2
        have hw311_1 := hx311_1
        have hw311_0 := hx311_0
        cases e311
        replace hx311_0 := (HB.out.cell (World.block_lt_of_cell? w _ hx311_0)).trans hx311_0
        replace hx311_1 := (HB.out.cell (World.block_lt_of_cell? w _ hx311_1)).trans hx311_1
        replace hx311_2 := (HB.out.cell (World.block_lt_of_cell? w _ hx311_2)).trans hx311_2
        replace hx311_3 := (HB.out.cell (World.block_lt_of_cell? w _ hx311_3)).trans hx311_3
        replace hx311_4 := (HB.out.cell (World.block_lt_of_cell? w _ hx311_4)).trans hx311_4
        replace hx311_5 := (HB.out.cell (World.block_lt_of_cell? w _ hx311_5)).trans hx311_5
        have HR311_5 := Aside0.mk hi311_5
        have HC311_5 := Aside0.mk hl311_5
        clear hi311_5 hl311_5
        replace p311 := eq_true p311
        replace q311 := eq_true q311
        have p312 : 0 ≤ (x5_1 : Int) := oZ
        have q312 : x5_1 < (l1.length : Int) := oZ
        obtain ⟨ad312, A312_5, c312_5, e312, hx312_0, hx312_1, hx312_2, hx312_3, hx312_4, hx312_5, hl312_5, hi312_5⟩ := at_T41 HR1.out x5_1 p312 q312
        have hw312_5 := hx312_5
        have hw312_4 := hx312_4
        have hw312_3 := hx312_3
        have hw312_2 := hx312_2
        have hw312_1 := hx312_1
        have hw312_0 := hx312_0
        cases e312
        replace hx312_0 := (HB.out.cell (World.block_lt_of_cell? w _ hx312_0)).trans hx312_0
        replace hx312_1 := (HB.out.cell (World.block_lt_of_cell? w _ hx312_1)).trans hx312_1
        replace hx312_2 := (HB.out.cell (World.block_lt_of_cell? w _ hx312_2)).trans hx312_2
        replace hx312_3 := (HB.out.cell (World.block_lt_of_cell? w _ hx312_3)).trans hx312_3
        replace hx312_4 := (HB.out.cell (World.block_lt_of_cell? w _ hx312_4)).trans hx312_4
        replace hx312_5 := (HB.out.cell (World.block_lt_of_cell? w _ hx312_5)).trans hx312_5
        have HR312_5 := Aside0.mk hi312_5
        have HC312_5 := Aside0.mk hl312_5
        clear hi312_5 hl312_5
        replace p312 := eq_true p312
        replace q312 := eq_true q312
        refine start_ (n := 10) (S := fun w' => w'.cell? (ad311.add ((x5_1).toNat * 6)) = some (.string ((rd_T41 l0 x5_1).f0)) ∧ w'.cell? ⟨(ad311.add ((x5_1).toNat * 6)).block, (ad311.add ((x5_1).toNat * 6)).off + 1, none⟩ = some (.int .i64 ((rd_T41 l0 x5_1).f1)) ∧ w'.cell? ⟨(ad311.add ((x5_1).toNat * 6)).block, (ad311.add ((x5_1).toNat * 6)).off + 2, none⟩ = some (.int .i64 ((rd_T41 l0 x5_1).f2)) ∧ w'.cell? ⟨(ad311.add ((x5_1).toNat * 6)).block, (ad311.add ((x5_1).toNat * 6)).off + 3, none⟩ = some (.int .i64 ((rd_T41 l0 x5_1).f3)) ∧ w'.cell? ⟨(ad311.add ((x5_1).toNat * 6)).block, (ad311.add ((x5_1).toNat * 6)).off + 4, none⟩ = some (.int .i64 ((rd_T41 l0 x5_1).f4)) ∧ w'.cell? ⟨(ad311.add ((x5_1).toNat * 6)).block, (ad311.add ((x5_1).toNat * 6)).off + 5, none⟩ = some (.slice A311_5 ((rd_T41 l0 x5_1).f5).length c311_5) ∧ w'.cell? (ad312.add ((x5_1).toNat * 6)) = some (.string ((rd_T41 l1 x5_1).f0)) ∧ w'.cell? ⟨(ad312.add ((x5_1).toNat * 6)).block, (ad312.add ((x5_1).toNat * 6)).off + 1, none⟩ = some (.int .i64 ((rd_T41 l1 x5_1).f1)) ∧ w'.cell? ⟨(ad312.add ((x5_1).toNat * 6)).block, (ad312.add ((x5_1).toNat * 6)).off + 2, none⟩ = some (.int .i64 ((rd_T41 l1 x5_1).f2)) ∧ w'.cell? ⟨(ad312.add ((x5_1).toNat * 6)).block, (ad312.add ((x5_1).toNat * 6)).off + 3, none⟩ = some (.int .i64 ((rd_T41 l1 x5_1).f3)) ∧ w'.cell? ⟨(ad312.add ((x5_1).toNat * 6)).block, (ad312.add ((x5_1).toNat * 6)).off + 4, none⟩ = some (.int .i64 ((rd_T41 l1 x5_1).f4)) ∧ w'.cell? ⟨(ad312.add ((x5_1).toNat * 6)).block, (ad312.add ((x5_1).toNat * 6)).off + 5, none⟩ = some (.slice A312_5 ((rd_T41 l1 x5_1).f5).length c312_5)) (ds := []) #[false, false, false, false, false, false, false, false, false, false] (by kernel_rfl) rfl rfl ⟨((HB.out.cell (World.block_lt_of_cell? w _ hw311_0)).trans hw311_0), ((HB.out.cell (World.block_lt_of_cell? w _ hw311_1)).trans hw311_1), ((HB.out.cell (World.block_lt_of_cell? w _ hw311_2)).trans hw311_2), ((HB.out.cell (World.block_lt_of_cell? w _ hw311_3)).trans hw311_3), ((HB.out.cell (World.block_lt_of_cell? w _ hw311_4)).trans hw311_4), ((HB.out.cell (World.block_lt_of_cell? w _ hw311_5)).trans hw311_5), ((HB.out.cell (World.block_lt_of_cell? w _ hw312_0)).trans hw312_0), ((HB.out.cell (World.block_lt_of_cell? w _ hw312_1)).trans hw312_1), ((HB.out.cell (World.block_lt_of_cell? w _ hw312_2)).trans hw312_2), ((HB.out.cell (World.block_lt_of_cell? w _ hw312_3)).trans hw312_3), ((HB.out.cell (World.block_lt_of_cell? w _ hw312_4)).trans hw312_4), ((HB.out.cell (World.block_lt_of_cell? w _ hw312_5)).trans hw312_5)⟩ (fun hHeld => ?_); refine with_tabW laws_eqBuildingS.tab6 laws_eqBuildingS.bits6 (fun HT_ HW_ => ?_)
        generalize wr.drew = w9 at HB HR311_5 HR312_5 hx311_0 hx311_1 hx311_2 hx311_3 hx311_4 hx311_5 hx312_0 hx312_1 hx312_2 hx312_3 hx312_4 hx312_5 hHeld ⊢
        refine puZ 0 (some 17) #[true, false, false, false, false, false, false, false, false, false] rfl rfl HT_.out ?_
        refine puZ 1 (some 18) #[true, true, false, false, false, false, false, false, false, false] rfl rfl HT_.out ?_
        refine puZ 2 (some 19) #[true, true, true, false, false, false, false, false, false, false] rfl rfl HT_.out ?_
        refine puZ 4 (some 21) #[true, true, true, false, true, false, false, false, false, false] rfl rfl HT_.out ?_
        refine puZ 5 (some 22) #[true, true, true, false, true, true, false, false, false, false] rfl rfl HT_.out ?_
        refine puZ 6 (some 23) #[true, true, true, false, true, true, true, false, false, false] rfl rfl HT_.out ?_
        refine take_ (i := 3) (N := some 20) (v := ?_) (a' := ?_) #[true, true, true, true, true, true, true, false, false, false] rfl rfl (take_ofW HT_.out HW_.out (by kernel_rfl)) (fun _ _ _ h => h) (Or.inl ⟨by rfl, ?_⟩) hHeld ?_ ?_
        rotate_left
        ·rintro w' ⟨s0, s1, s2, s3, s4, s5, s6, s7, s8, s9, s10, s11⟩
         go_simp
         with_reducible rfl
        rotate_left
        ·simp only [Act.put, List.setIfInBounds_toArray, List.set_cons_zero, List.set_cons_succ, i64_w, i32_w]
         rfl
        refine take_ (i := 7) (N := some 24) (v := ?_) (a' := ?_) #[true, true, true, true, true, true, true, true, false, false] rfl rfl (take_ofW HT_.out HW_.out (by kernel_rfl)) (fun _ _ _ h => h) (Or.inl ⟨by rfl, ?_⟩) hHeld ?_ ?_
        rotate_left
        ·rintro w' ⟨s0, s1, s2, s3, s4, s5, s6, s7, s8, s9, s10, s11⟩
         go_simp
         with_reducible rfl
        rotate_left
        ·simp only [Act.put, List.setIfInBounds_toArray, List.set_cons_zero, List.set_cons_succ, i64_w, i32_w]
         rfl
        refine one_ (i := 8) (N := some 25) #[true, true, true, true, true, true, true, true, true, false] rfl rfl (one_of HT_.out (by kernel_rfl)) (by decide) (fun K hK => ?_)
        refine goes_ Tryz.func19 (by kernel_rfl) rfl #[.agg #[.string ((rd_T41 l0 x5_1).f0), .int .i64 ((rd_T41 l0 x5_1).f1), .int .i64 ((rd_T41 l0 x5_1).f2), .int .i64 ((rd_T41 l0 x5_1).f3), .int .i64 ((rd_T41 l0 x5_1).f4), .slice A311_5 ((rd_T41 l0 x5_1).f5).length c311_5], .agg #[.string ((rd_T41 l1 x5_1).f0), .int .i64 ((rd_T41 l1 x5_1).f1), .int .i64 ((rd_T41 l1 x5_1).f2), .int .i64 ((rd_T41 l1 x5_1).f3), .int .i64 ((rd_T41 l1 x5_1).f4), .slice A312_5 ((rd_T41 l1 x5_1).f5).length c312_5]] (by rfl) rfl rfl gZ ?_
        with_reducible refine (laws_eqBuilding.calls k1 ((rd_T41 l0 x5_1).f0) ((rd_T41 l0 x5_1).f1) ((rd_T41 l0 x5_1).f2) ((rd_T41 l0 x5_1).f3) ((rd_T41 l0 x5_1).f4) _ _ ((rd_T41 l0 x5_1).f5) ((rd_T41 l1 x5_1).f0) ((rd_T41 l1 x5_1).f1) ((rd_T41 l1 x5_1).f2) ((rd_T41 l1 x5_1).f3) ((rd_T41 l1 x5_1).f4) _ _ ((rd_T41 l1 x5_1).f5) true _ ?side1 ?side2 ?side3 ?side4 A7.out).mono ?_
        (case side1 => repeat (first | exact (Kd.C_below HR311_5.out HB.out) | (with_reducible refine Kd.C_alloc ?_ _) | (with_reducible refine Kd.C_drewN ?_ _) | (with_reducible refine Kd.C_drew ?_)))
        (case side2 => exact HC311_5.out)
        (case side3 => repeat (first | exact (Kd.C_below HR312_5.out HB.out) | (with_reducible refine Kd.C_alloc ?_ _) | (with_reducible refine Kd.C_drewN ?_ _) | (with_reducible refine Kd.C_drew ?_)))
        (case side4 => exact HC312_5.out)
        rintro e w10 ⟨rfl, hb⟩
        refine ⟨_, rfl, ?_⟩
        have n0_ := Aside0.mk (below_step bZ hb)
        clear HB
        have HB := n0_
        clear n0_
        (try clear hb)
        (try clear hb2)
        (try clear hk)
        (try clear hi)
        refine hK.out _ _ ⟨((HB.out.cell (World.block_lt_of_cell? w _ hw311_0)).trans hw311_0), ((HB.out.cell (World.block_lt_of_cell? w _ hw311_1)).trans hw311_1), ((HB.out.cell (World.block_lt_of_cell? w _ hw311_2)).trans hw311_2), ((HB.out.cell (World.block_lt_of_cell? w _ hw311_3)).trans hw311_3), ((HB.out.cell (World.block_lt_of_cell? w _ hw311_4)).trans hw311_4), ((HB.out.cell (World.block_lt_of_cell? w _ hw311_5)).trans hw311_5), ((HB.out.cell (World.block_lt_of_cell? w _ hw312_0)).trans hw312_0), ((HB.out.cell (World.block_lt_of_cell? w _ hw312_1)).trans hw312_1), ((HB.out.cell (World.block_lt_of_cell? w _ hw312_2)).trans hw312_2), ((HB.out.cell (World.block_lt_of_cell? w _ hw312_3)).trans hw312_3), ((HB.out.cell (World.block_lt_of_cell? w _ hw312_4)).trans hw312_4), ((HB.out.cell (World.block_lt_of_cell? w _ hw312_5)).trans hw312_5)⟩ (fun hHeld => ?_)
        clear hK K
        refine norm_ (a' := ?_) ?_ ?_
        rotate_left
        ·show Act.put _ (some 25) _ = _
         simp only [Act.put, List.setIfInBounds_toArray, List.set_cons_zero, List.set_cons_succ, i64_w, i32_w]
         rfl
        refine puZ 9 (some 26) #[true, true, true, true, true, true, true, true, true, true] rfl rfl HT_.out ?_
        refine done_ (done_of HT_.out (by kernel_rfl)) ?_
        try go_wp2
        go_roundg k1
        case measure => have := HK1.out; omega
        case rel => exact ⟨(wrap64 (x5_1 + 1)), sZ, H', ⟨by have := HK1.out; omega⟩, ⟨bZ⟩⟩
       ·replace c8 := Bool.eq_false_iff.mpr c8
        subst c8
        have H1 : (none) = some r := by rw [if_neg (show ¬ (false = true) by decide)] at H; exact H
        clear H
        have H := H1
        clear H1
        exact absurd H (by simp)
      ·rw [if_neg c6] at H
       exact absurd H (by simp)
     ·rw [if_neg c5] at H
      exact absurd H (by simp)
    ·rw [if_neg c4] at H
     have c4b0 : decide (x5_1 < (l0.length : Int)) = false := decide_eq_false c4
     clear c4
     obtain rfl := Option.some.inj H
     go_wp2
     go_ret
     exact ⟨eZ, bZ⟩
 ·rw [if_neg c3] at H
  exact absurd H (by simp)
end Go.Proofs.YtlbcnflcibmifaaGreatDoor.XT
end

section
namespace Go.Proofs.YtlbcnflcibmifaaGreatDoor.XT
open Go.RowKit Go.Proofs.YtlbcnflcibmifaaGreatDoorW.PrintWords Go.Proofs.YtlbcnflcibmifaaGreatDoorW.PrintLast Go.Proofs.YtlbcnflcibmifaaGreatDoorW.PrintMore
attribute [local go_sem] run_eql_slice_nil binOp_string_gtr' binOp_string_leq' binOp_string_geq' max2_int min2_int max_two min_two max_three min_three max_four min_four   -- for this text's walks alone
set_option linter.unusedVariables false
set_option linter.unusedSimpArgs false
def laws_eqBlock.f (a0_0 : ByteArray) (a0_1 : ByteArray) (a0_2 : ByteArray) (a1_0 : ByteArray) (a1_1 : ByteArray) (a1_2 : ByteArray) : Option (Bool) := if a0_0.toList = a1_0.toList then (if a0_1.toList = a1_1.toList then (if a0_2.toList = a1_2.toList then (some true) else (some false)) else (some false)) else (some false)
set_option maxHeartbeats 8000000 in
set_option maxRecDepth 100000 in
theorem laws_eqBlock.calls (a0_0 : ByteArray) (a0_1 : ByteArray) (a0_2 : ByteArray) (a1_0 : ByteArray) (a1_1 : ByteArray) (a1_2 : ByteArray) (r : Bool) (w : World) (h : laws_eqBlock.f a0_0 a0_1 a0_2 a1_0 a1_1 a1_2 = some r) :
  Calls Tryz.prog 20 #[.agg #[.string a0_0, .string a0_1, .string a0_2], .agg #[.string a1_0, .string a1_1, .string a1_2]] w fun e w' => e = .returned (.bool r) ∧ Below w.heap.size w w' := by
 have hu38 := Tryz.underlying38
 have HB := Aside0.mk (Below.refl w.heap.size w)
 have H : (if a0_0.toList = a1_0.toList then (if a0_1.toList = a1_1.toList then (if a0_2.toList = a1_2.toList then (some true) else (some false)) else (some false)) else (some false)) = some r := h
 clear h
 by_cases c3 : a0_0.toList = a1_0.toList
 ·rw [if_pos c3] at H
  have c3b0 : (a0_0.toList == a1_0.toList) = true := beq_iff_eq.mpr c3
  have c3b1 : (a0_0.toList != a1_0.toList) = false := bne_eq_false_iff_eq.mpr c3
  clear c3
  by_cases c4 : a0_1.toList = a1_1.toList
  ·rw [if_pos c4] at H
   have c4b0 : (a0_1.toList == a1_1.toList) = true := beq_iff_eq.mpr c4
   have c4b1 : (a0_1.toList != a1_1.toList) = false := bne_eq_false_iff_eq.mpr c4
   clear c4
   by_cases c5 : a0_2.toList = a1_2.toList
   ·rw [if_pos c5] at H
    have c5b0 : (a0_2.toList == a1_2.toList) = true := beq_iff_eq.mpr c5
    have c5b1 : (a0_2.toList != a1_2.toList) = false := bne_eq_false_iff_eq.mpr c5
    clear c5
    obtain rfl := Option.some.inj H
    go_enter Tryz.func20, Tryz.ntmps20
    go_wp2_with (first | ((with_reducible refine gate_dst (N := 2) rfl ?_); refine boxZ 2 #[.string a0_0, .string a0_1, .string a0_2] 38 rfl rfl ?_; intro gb314 hg w6 hbox hb; have n0_ := Aside0.mk (below_step bZ hb); have n1_ := Aside0.mk (hbox); have n2_ := Aside0.mk ((by rw [hg]; exact bsZ : w.heap.size ≤ gb314)); have n3_ := Aside0.mk ((by rw [hg]; exact bsZ : w.heap.size ≤ gb314)); clear HB; have HB := n0_; have BK314 := n1_; have GW314 := n2_; have GE314 := n3_; clear n0_ n1_ n2_ n3_; clear hb hbox hg) | ((with_reducible refine gate_dst (N := 3) rfl ?_); refine boxZ 3 #[.string a1_0, .string a1_1, .string a1_2] 38 rfl rfl ?_; intro gb315 hg w7 hbox hb; have n0_ := Aside0.mk (blk_below (g := gb314) (o := .cells #[.string a0_0, .string a0_1, .string a0_2] 38 (0, 0)) (kZ BK314.out) hb); have n1_ := Aside0.mk (below_step bZ hb); have n2_ := Aside0.mk (hbox); have n3_ := Aside0.mk ((by rw [hg]; exact bsZ : w.heap.size ≤ gb315)); have n4_ := Aside0.mk ((by rw [hg]; exact bsZ : w.heap.size ≤ gb315)); have n5_ := Aside0.mk ((by rw [hg]; exact Nat.ne_of_lt (blk_lt (g := gb314) (o := .cells #[.string a0_0, .string a0_1, .string a0_2] 38 (0, 0)) (kZ BK314.out)) : gb314 ≠ gb315)); have n6_ := Aside0.mk ((by rw [hg]; exact Nat.ne_of_gt (blk_lt (g := gb314) (o := .cells #[.string a0_0, .string a0_1, .string a0_2] 38 (0, 0)) (kZ BK314.out)) : gb315 ≠ gb314)); clear BK314; clear HB; have BK314 := n0_; have HB := n1_; have BK315 := n2_; have GW315 := n3_; have GE315 := n4_; have NB314_315 := n5_; have NB315_314 := n6_; clear n0_ n1_ n2_ n3_ n4_ n5_ n6_; clear hb hbox hg; have hnb8 := NB314_315.out; have hnc8 := NB315_314.out; have hcz9_0 := bc0 BK314.out; have hcz9_1 := bc1 BK314.out; have hcz9_2 := bc2 BK314.out; have hfz9_0 := blk_frozen BK314.out 0; have hfz9_1 := blk_frozen BK314.out 1; have hfz9_2 := blk_frozen BK314.out 2; have hcz10_0 := bc0 BK315.out; have hcz10_1 := bc1 BK315.out; have hcz10_2 := bc2 BK315.out; have hfz10_0 := blk_frozen BK315.out 0; have hfz10_1 := blk_frozen BK315.out 1; have hfz10_2 := blk_frozen BK315.out 2))
    go_ret
    exact ⟨eZ, bZ⟩
   ·rw [if_neg c5] at H
    have c5b0 : (a0_2.toList == a1_2.toList) = false := beq_eq_false_iff_ne.mpr c5
    have c5b1 : (a0_2.toList != a1_2.toList) = true := bne_iff_ne.mpr c5
    obtain rfl := Option.some.inj H
    go_enter Tryz.func20, Tryz.ntmps20
    go_wp2_with (first | ((with_reducible refine gate_dst (N := 2) rfl ?_); refine boxZ 2 #[.string a0_0, .string a0_1, .string a0_2] 38 rfl rfl ?_; intro gb314 hg w11 hbox hb; have n0_ := Aside0.mk (below_step bZ hb); have n1_ := Aside0.mk (hbox); have n2_ := Aside0.mk ((by rw [hg]; exact bsZ : w.heap.size ≤ gb314)); have n3_ := Aside0.mk ((by rw [hg]; exact bsZ : w.heap.size ≤ gb314)); clear HB; have HB := n0_; have BK314 := n1_; have GW314 := n2_; have GE314 := n3_; clear n0_ n1_ n2_ n3_; clear hb hbox hg) | ((with_reducible refine gate_dst (N := 3) rfl ?_); refine boxZ 3 #[.string a1_0, .string a1_1, .string a1_2] 38 rfl rfl ?_; intro gb315 hg w12 hbox hb; have n0_ := Aside0.mk (blk_below (g := gb314) (o := .cells #[.string a0_0, .string a0_1, .string a0_2] 38 (0, 0)) (kZ BK314.out) hb); have n1_ := Aside0.mk (below_step bZ hb); have n2_ := Aside0.mk (hbox); have n3_ := Aside0.mk ((by rw [hg]; exact bsZ : w.heap.size ≤ gb315)); have n4_ := Aside0.mk ((by rw [hg]; exact bsZ : w.heap.size ≤ gb315)); have n5_ := Aside0.mk ((by rw [hg]; exact Nat.ne_of_lt (blk_lt (g := gb314) (o := .cells #[.string a0_0, .string a0_1, .string a0_2] 38 (0, 0)) (kZ BK314.out)) : gb314 ≠ gb315)); have n6_ := Aside0.mk ((by rw [hg]; exact Nat.ne_of_gt (blk_lt (g := gb314) (o := .cells #[.string a0_0, .string a0_1, .string a0_2] 38 (0, 0)) (kZ BK314.out)) : gb315 ≠ gb314)); clear BK314; clear HB; have BK314 := n0_; have HB := n1_; have BK315 := n2_; have GW315 := n3_; have GE315 := n4_; have NB314_315 := n5_; have NB315_314 := n6_; clear n0_ n1_ n2_ n3_ n4_ n5_ n6_; clear hb hbox hg; have hnb13 := NB314_315.out; have hnc13 := NB315_314.out; have hcz14_0 := bc0 BK314.out; have hcz14_1 := bc1 BK314.out; have hcz14_2 := bc2 BK314.out; have hfz14_0 := blk_frozen BK314.out 0; have hfz14_1 := blk_frozen BK314.out 1; have hfz14_2 := blk_frozen BK314.out 2; have hcz15_0 := bc0 BK315.out; have hcz15_1 := bc1 BK315.out; have hcz15_2 := bc2 BK315.out; have hfz15_0 := blk_frozen BK315.out 0; have hfz15_1 := blk_frozen BK315.out 1; have hfz15_2 := blk_frozen BK315.out 2))
    go_ret
    exact ⟨eZ, bZ⟩
  ·rw [if_neg c4] at H
   have c4b0 : (a0_1.toList == a1_1.toList) = false := beq_eq_false_iff_ne.mpr c4
   have c4b1 : (a0_1.toList != a1_1.toList) = true := bne_iff_ne.mpr c4
   obtain rfl := Option.some.inj H
   go_enter Tryz.func20, Tryz.ntmps20
   go_wp2_with (first | ((with_reducible refine gate_dst (N := 2) rfl ?_); refine boxZ 2 #[.string a0_0, .string a0_1, .string a0_2] 38 rfl rfl ?_; intro gb314 hg w16 hbox hb; have n0_ := Aside0.mk (below_step bZ hb); have n1_ := Aside0.mk (hbox); have n2_ := Aside0.mk ((by rw [hg]; exact bsZ : w.heap.size ≤ gb314)); have n3_ := Aside0.mk ((by rw [hg]; exact bsZ : w.heap.size ≤ gb314)); clear HB; have HB := n0_; have BK314 := n1_; have GW314 := n2_; have GE314 := n3_; clear n0_ n1_ n2_ n3_; clear hb hbox hg) | ((with_reducible refine gate_dst (N := 3) rfl ?_); refine boxZ 3 #[.string a1_0, .string a1_1, .string a1_2] 38 rfl rfl ?_; intro gb315 hg w17 hbox hb; have n0_ := Aside0.mk (blk_below (g := gb314) (o := .cells #[.string a0_0, .string a0_1, .string a0_2] 38 (0, 0)) (kZ BK314.out) hb); have n1_ := Aside0.mk (below_step bZ hb); have n2_ := Aside0.mk (hbox); have n3_ := Aside0.mk ((by rw [hg]; exact bsZ : w.heap.size ≤ gb315)); have n4_ := Aside0.mk ((by rw [hg]; exact bsZ : w.heap.size ≤ gb315)); have n5_ := Aside0.mk ((by rw [hg]; exact Nat.ne_of_lt (blk_lt (g := gb314) (o := .cells #[.string a0_0, .string a0_1, .string a0_2] 38 (0, 0)) (kZ BK314.out)) : gb314 ≠ gb315)); have n6_ := Aside0.mk ((by rw [hg]; exact Nat.ne_of_gt (blk_lt (g := gb314) (o := .cells #[.string a0_0, .string a0_1, .string a0_2] 38 (0, 0)) (kZ BK314.out)) : gb315 ≠ gb314)); clear BK314; clear HB; have BK314 := n0_; have HB := n1_; have BK315 := n2_; have GW315 := n3_; have GE315 := n4_; have NB314_315 := n5_; have NB315_314 := n6_; clear n0_ n1_ n2_ n3_ n4_ n5_ n6_; clear hb hbox hg; have hnb18 := NB314_315.out; have hnc18 := NB315_314.out; have hcz19_0 := bc0 BK314.out; have hcz19_1 := bc1 BK314.out; have hcz19_2 := bc2 BK314.out; have hfz19_0 := blk_frozen BK314.out 0; have hfz19_1 := blk_frozen BK314.out 1; have hfz19_2 := blk_frozen BK314.out 2; have hcz20_0 := bc0 BK315.out; have hcz20_1 := bc1 BK315.out; have hcz20_2 := bc2 BK315.out; have hfz20_0 := blk_frozen BK315.out 0; have hfz20_1 := blk_frozen BK315.out 1; have hfz20_2 := blk_frozen BK315.out 2))
   go_ret
   exact ⟨eZ, bZ⟩
 ·rw [if_neg c3] at H
  have c3b0 : (a0_0.toList == a1_0.toList) = false := beq_eq_false_iff_ne.mpr c3
  have c3b1 : (a0_0.toList != a1_0.toList) = true := bne_iff_ne.mpr c3
  obtain rfl := Option.some.inj H
  go_enter Tryz.func20, Tryz.ntmps20
  go_wp2_with (first | ((with_reducible refine gate_dst (N := 2) rfl ?_); refine boxZ 2 #[.string a0_0, .string a0_1, .string a0_2] 38 rfl rfl ?_; intro gb314 hg w21 hbox hb; have n0_ := Aside0.mk (below_step bZ hb); have n1_ := Aside0.mk (hbox); have n2_ := Aside0.mk ((by rw [hg]; exact bsZ : w.heap.size ≤ gb314)); have n3_ := Aside0.mk ((by rw [hg]; exact bsZ : w.heap.size ≤ gb314)); clear HB; have HB := n0_; have BK314 := n1_; have GW314 := n2_; have GE314 := n3_; clear n0_ n1_ n2_ n3_; clear hb hbox hg) | ((with_reducible refine gate_dst (N := 3) rfl ?_); refine boxZ 3 #[.string a1_0, .string a1_1, .string a1_2] 38 rfl rfl ?_; intro gb315 hg w22 hbox hb; have n0_ := Aside0.mk (blk_below (g := gb314) (o := .cells #[.string a0_0, .string a0_1, .string a0_2] 38 (0, 0)) (kZ BK314.out) hb); have n1_ := Aside0.mk (below_step bZ hb); have n2_ := Aside0.mk (hbox); have n3_ := Aside0.mk ((by rw [hg]; exact bsZ : w.heap.size ≤ gb315)); have n4_ := Aside0.mk ((by rw [hg]; exact bsZ : w.heap.size ≤ gb315)); have n5_ := Aside0.mk ((by rw [hg]; exact Nat.ne_of_lt (blk_lt (g := gb314) (o := .cells #[.string a0_0, .string a0_1, .string a0_2] 38 (0, 0)) (kZ BK314.out)) : gb314 ≠ gb315)); have n6_ := Aside0.mk ((by rw [hg]; exact Nat.ne_of_gt (blk_lt (g := gb314) (o := .cells #[.string a0_0, .string a0_1, .string a0_2] 38 (0, 0)) (kZ BK314.out)) : gb315 ≠ gb314)); clear BK314; clear HB; have BK314 := n0_; have HB := n1_; have BK315 := n2_; have GW315 := n3_; have GE315 := n4_; have NB314_315 := n5_; have NB315_314 := n6_; clear n0_ n1_ n2_ n3_ n4_ n5_ n6_; clear hb hbox hg; have hnb23 := NB314_315.out; have hnc23 := NB315_314.out; have hcz24_0 := bc0 BK314.out; have hcz24_1 := bc1 BK314.out; have hcz24_2 := bc2 BK314.out; have hfz24_0 := blk_frozen BK314.out 0; have hfz24_1 := blk_frozen BK314.out 1; have hfz24_2 := blk_frozen BK314.out 2; have hcz25_0 := bc0 BK315.out; have hcz25_1 := bc1 BK315.out; have hcz25_2 := bc2 BK315.out; have hfz25_0 := blk_frozen BK315.out 0; have hfz25_1 := blk_frozen BK315.out 1; have hfz25_2 := blk_frozen BK315.out 2))
  go_ret
  exact ⟨eZ, bZ⟩
end Go.Proofs.YtlbcnflcibmifaaGreatDoor.XT
end

section
namespace Go.Proofs.YtlbcnflcibmifaaGreatDoor.XT
open Go.RowKit Go.Proofs.YtlbcnflcibmifaaGreatDoorW.PrintWords Go.Proofs.YtlbcnflcibmifaaGreatDoorW.PrintLast Go.Proofs.YtlbcnflcibmifaaGreatDoorW.PrintMore
attribute [local go_sem] run_eql_slice_nil binOp_string_gtr' binOp_string_leq' binOp_string_geq' max2_int min2_int max_two min_two max_three min_three max_four min_four   -- for this text's walks alone
set_option linter.unusedVariables false
set_option linter.unusedSimpArgs false
def laws_eqBlockS.l0 : Nat → List (S38) → List (S38) → Int → Option (Bool)
 | 0, _, _, _ => none
 | k + 1, x0, x1, x5 => if x5 < (x0.length : Int) then (if 0 ≤ x5 then (if x5 < (x1.length : Int) then ((laws_eqBlock.f ((rd_T38 x0 x5).f0) ((rd_T38 x0 x5).f1) ((rd_T38 x0 x5).f2) ((rd_T38 x1 x5).f0) ((rd_T38 x1 x5).f1) ((rd_T38 x1 x5).f2)).bind fun t318 => (if t318 = true then (laws_eqBlockS.l0 k x0 x1 (wrap64 (x5 + 1))) else (none))) else (none)) else (none)) else (some true)
def laws_eqBlockS.f (k : Nat) (l0 : List (S38)) (l1 : List (S38)) : Option (Bool) := if (l0.length : Int) = (l1.length : Int) then (laws_eqBlockS.l0 k l0 l1 0) else (none)
def laws_eqBlockS.T6 : Bool × List (List Nat × List Nat) := (true, [([], []), ([], []), ([0, 1], [0, 1]), ([2], [2]), ([], []), ([], []), ([4, 5], [4, 5]), ([6], [6]), ([3, 7], [3, 7]), ([8], [8])])
def laws_eqBlockS.B6 : List Nat := [0, 0, 3, 7, 0, 0, 48, 112, 255, 511]
theorem laws_eqBlockS.tab6 : rtab .any (opsOf Tryz.f9 6) = laws_eqBlockS.T6 := by kernel_rfl
theorem laws_eqBlockS.bits6 : waitsOk laws_eqBlockS.T6.2 laws_eqBlockS.B6 = true := by kernel_rfl
set_option maxHeartbeats 8000000 in
set_option maxRecDepth 100000 in
theorem laws_eqBlockS.calls (k : Nat) (A0 : Option Addr) (c0 : Nat) (l0 : List (S38)) (A1 : Option Addr) (c1 : Nat) (l1 : List (S38)) (r : Bool) (w : World) (hr0 : Kd.C k38 w A0 l0.length l0) (hc0 : l0.length ≤ c0) (hr1 : Kd.C k38 w A1 l1.length l1) (hc1 : l1.length ≤ c1) (h : laws_eqBlockS.f k l0 l1 = some r) :
  Calls Tryz.prog 9 #[.slice A0 l0.length c0, .slice A1 l1.length c1] w fun e w' => e = .returned (.bool r) ∧ Below w.heap.size w w' := by
 have hu38 := Tryz.underlying38
 have HR0 := Aside0.mk hr0
 have HC0 := Aside0.mk hc0
 clear hr0 hc0
 have HR1 := Aside0.mk hr1
 have HC1 := Aside0.mk hc1
 clear hr1 hc1
 have HB := Aside0.mk (Below.refl w.heap.size w)
 have H : (if (l0.length : Int) = (l1.length : Int) then (laws_eqBlockS.l0 k l0 l1 0) else (none)) = some r := h
 clear h
 by_cases c3 : (l0.length : Int) = (l1.length : Int)
 ·rw [if_pos c3] at H
  have c3b0 : ((l0.length : Int) == (l1.length : Int)) = true := beq_iff_eq.mpr c3
  have c3b1 : ((l0.length : Int) != (l1.length : Int)) = false := bne_eq_false_iff_eq.mpr c3
  have c3b2 : (l0.length == l1.length) = true := by first | simpa using c3 | (simp at c3 ⊢; omega)
  clear c3
  have H' := Aside0.mk H
  clear H
  go_enter Tryz.func9, Tryz.ntmps9
  go_wp2
  go_loopg [5] k (fun kq v5 w' => ∃ (x5_1 : Int), v5 = .int .i64 x5_1 ∧ Aside0 (laws_eqBlockS.l0 kq l0 l1 x5_1 = some r) ∧ Aside0 (kq ≤ k) ∧ Aside0 (Below w.heap.size w w'))
  case atStart => exact ⟨(0), sZ, H', ⟨Nat.le_refl _⟩, ⟨bZ⟩⟩
  case round =>
   clear H'; (try clear c1); (try clear p2); (try clear c3); (try clear c3b0); (try clear c3b1); (try clear c3b2)
   obtain ⟨x5_1, rfl, HA, HK1, HB⟩ := hrel
   cases gk with
   | zero => exact absurd HA.out (by simp [laws_eqBlockS.l0])
   | succ k1 =>
    have H := HA.out
    clear HA
    simp only [laws_eqBlockS.l0] at H
    by_cases c4 : x5_1 < (l0.length : Int)
    ·rw [if_pos c4] at H
     have c4b0 : decide (x5_1 < (l0.length : Int)) = true := decide_eq_true c4
     clear c4
     by_cases c5 : 0 ≤ x5_1
     ·rw [if_pos c5] at H
      have c5b0 : decide (0 ≤ x5_1) = true := decide_eq_true c5
      clear c5
      by_cases c6 : x5_1 < (l1.length : Int)
      ·rw [if_pos c6] at H
       have c6b0 : decide (x5_1 < (l1.length : Int)) = true := decide_eq_true c6
       clear c6
       replace H := Option.bind_eq_some_iff.mp H
       obtain ⟨t318, A70, H⟩ := H
       replace H : (if t318 = true then (laws_eqBlockS.l0 k1 l0 l1 (wrap64 (x5_1 + 1))) else (none)) = some r := H
       have A7 := Aside0.mk A70
       clear A70
       by_cases c8 : t318 = true
       ·subst c8
        have H1 : (laws_eqBlockS.l0 k1 l0 l1 (wrap64 (x5_1 + 1))) = some r := by rw [if_pos rfl] at H; exact H
        clear H
        have H := H1
        clear H1
        have H' := Aside0.mk H
        clear H
        try go_wp2
        have n0_ := Aside0.mk (below_drew1 HB.out)
        clear HB
        have HB := n0_
        clear n0_
        have p316 : 0 ≤ (x5_1 : Int) := oZ
        have q316 : x5_1 < (l0.length : Int) := oZ
        obtain ⟨ad316, e316, hx316_0, hx316_1, hx316_2⟩ := at_T38 HR0.out x5_1 p316 q316
        have hw316_2 := hx316_2
        have hw316_1 := hx316_1
        have hw316_0 := hx316_0
        cases e316
        replace hx316_0 := (HB.out.cell (World.block_lt_of_cell? w _ hx316_0)).trans hx316_0
        replace hx316_1 := (HB.out.cell (World.block_lt_of_cell? w _ hx316_1)).trans hx316_1
        replace hx316_2 := (HB.out.cell (World.block_lt_of_cell? w _ hx316_2)).trans hx316_2
        replace p316 := eq_true p316
        replace q316 := eq_true q316
        have p317 : 0 ≤ (x5_1 : Int) := oZ
        have q317 : x5_1 < (l1.length : Int) := oZ
        obtain ⟨ad317, e317, hx317_0, hx317_1, hx317_2⟩ := at_T38 HR1.out x5_1 p317 q317
        have hw317_2 := hx317_2
        have hw317_1 := hx317_1
        have hw317_0 := hx317_0
        cases e317
        replace hx317_0 := (HB.out.cell (World.block_lt_of_cell? w _ hx317_0)).trans hx317_0
        replace hx317_1 := (HB.out.cell (World.block_lt_of_cell? w _ hx317_1)).trans hx317_1
        replace hx317_2 := (HB.out.cell (World.block_lt_of_cell? w _ hx317_2)).trans hx317_2
        replace p317 := eq_true p317
        replace q317 := eq_true q317
        refine start_ (n := 10) (S := fun w' => w'.cell? (ad316.add ((x5_1).toNat * 3)) = some (.string ((rd_T38 l0 x5_1).f0)) ∧ w'.cell? ⟨(ad316.add ((x5_1).toNat * 3)).block, (ad316.add ((x5_1).toNat * 3)).off + 1, none⟩ = some (.string ((rd_T38 l0 x5_1).f1)) ∧ w'.cell? ⟨(ad316.add ((x5_1).toNat * 3)).block, (ad316.add ((x5_1).toNat * 3)).off + 2, none⟩ = some (.string ((rd_T38 l0 x5_1).f2)) ∧ w'.cell? (ad317.add ((x5_1).toNat * 3)) = some (.string ((rd_T38 l1 x5_1).f0)) ∧ w'.cell? ⟨(ad317.add ((x5_1).toNat * 3)).block, (ad317.add ((x5_1).toNat * 3)).off + 1, none⟩ = some (.string ((rd_T38 l1 x5_1).f1)) ∧ w'.cell? ⟨(ad317.add ((x5_1).toNat * 3)).block, (ad317.add ((x5_1).toNat * 3)).off + 2, none⟩ = some (.string ((rd_T38 l1 x5_1).f2))) (ds := []) #[false, false, false, false, false, false, false, false, false, false] (by kernel_rfl) rfl rfl ⟨((HB.out.cell (World.block_lt_of_cell? w _ hw316_0)).trans hw316_0), ((HB.out.cell (World.block_lt_of_cell? w _ hw316_1)).trans hw316_1), ((HB.out.cell (World.block_lt_of_cell? w _ hw316_2)).trans hw316_2), ((HB.out.cell (World.block_lt_of_cell? w _ hw317_0)).trans hw317_0), ((HB.out.cell (World.block_lt_of_cell? w _ hw317_1)).trans hw317_1), ((HB.out.cell (World.block_lt_of_cell? w _ hw317_2)).trans hw317_2)⟩ (fun hHeld => ?_); refine with_tabW laws_eqBlockS.tab6 laws_eqBlockS.bits6 (fun HT_ HW_ => ?_)
        generalize wr.drew = w9 at HB hx316_0 hx316_1 hx316_2 hx317_0 hx317_1 hx317_2 hHeld ⊢
        refine puZ 0 (some 17) #[true, false, false, false, false, false, false, false, false, false] rfl rfl HT_.out ?_
        refine puZ 1 (some 18) #[true, true, false, false, false, false, false, false, false, false] rfl rfl HT_.out ?_
        refine puZ 2 (some 19) #[true, true, true, false, false, false, false, false, false, false] rfl rfl HT_.out ?_
        refine puZ 4 (some 21) #[true, true, true, false, true, false, false, false, false, false] rfl rfl HT_.out ?_
        refine puZ 5 (some 22) #[true, true, true, false, true, true, false, false, false, false] rfl rfl HT_.out ?_
        refine puZ 6 (some 23) #[true, true, true, false, true, true, true, false, false, false] rfl rfl HT_.out ?_
        refine take_ (i := 3) (N := some 20) (v := ?_) (a' := ?_) #[true, true, true, true, true, true, true, false, false, false] rfl rfl (take_ofW HT_.out HW_.out (by kernel_rfl)) (fun _ _ _ h => h) (Or.inl ⟨by rfl, ?_⟩) hHeld ?_ ?_
        rotate_left
        ·rintro w' ⟨s0, s1, s2, s3, s4, s5⟩
         go_simp
         with_reducible rfl
        rotate_left
        ·simp only [Act.put, List.setIfInBounds_toArray, List.set_cons_zero, List.set_cons_succ, i64_w, i32_w]
         rfl
        refine take_ (i := 7) (N := some 24) (v := ?_) (a' := ?_) #[true, true, true, true, true, true, true, true, false, false] rfl rfl (take_ofW HT_.out HW_.out (by kernel_rfl)) (fun _ _ _ h => h) (Or.inl ⟨by rfl, ?_⟩) hHeld ?_ ?_
        rotate_left
        ·rintro w' ⟨s0, s1, s2, s3, s4, s5⟩
         go_simp
         with_reducible rfl
        rotate_left
        ·simp only [Act.put, List.setIfInBounds_toArray, List.set_cons_zero, List.set_cons_succ, i64_w, i32_w]
         rfl
        refine one_ (i := 8) (N := some 25) #[true, true, true, true, true, true, true, true, true, false] rfl rfl (one_of HT_.out (by kernel_rfl)) (by decide) (fun K hK => ?_)
        refine goes_ Tryz.func20 (by kernel_rfl) rfl #[.agg #[.string ((rd_T38 l0 x5_1).f0), .string ((rd_T38 l0 x5_1).f1), .string ((rd_T38 l0 x5_1).f2)], .agg #[.string ((rd_T38 l1 x5_1).f0), .string ((rd_T38 l1 x5_1).f1), .string ((rd_T38 l1 x5_1).f2)]] (by rfl) rfl rfl gZ ?_
        with_reducible refine (laws_eqBlock.calls ((rd_T38 l0 x5_1).f0) ((rd_T38 l0 x5_1).f1) ((rd_T38 l0 x5_1).f2) ((rd_T38 l1 x5_1).f0) ((rd_T38 l1 x5_1).f1) ((rd_T38 l1 x5_1).f2) true _ A7.out).mono ?_
        rintro e w10 ⟨rfl, hb⟩
        refine ⟨_, rfl, ?_⟩
        have n0_ := Aside0.mk (below_step bZ hb)
        clear HB
        have HB := n0_
        clear n0_
        (try clear hb)
        (try clear hb2)
        (try clear hk)
        (try clear hi)
        refine hK.out _ _ ⟨((HB.out.cell (World.block_lt_of_cell? w _ hw316_0)).trans hw316_0), ((HB.out.cell (World.block_lt_of_cell? w _ hw316_1)).trans hw316_1), ((HB.out.cell (World.block_lt_of_cell? w _ hw316_2)).trans hw316_2), ((HB.out.cell (World.block_lt_of_cell? w _ hw317_0)).trans hw317_0), ((HB.out.cell (World.block_lt_of_cell? w _ hw317_1)).trans hw317_1), ((HB.out.cell (World.block_lt_of_cell? w _ hw317_2)).trans hw317_2)⟩ (fun hHeld => ?_)
        clear hK K
        refine norm_ (a' := ?_) ?_ ?_
        rotate_left
        ·show Act.put _ (some 25) _ = _
         simp only [Act.put, List.setIfInBounds_toArray, List.set_cons_zero, List.set_cons_succ, i64_w, i32_w]
         rfl
        refine puZ 9 (some 26) #[true, true, true, true, true, true, true, true, true, true] rfl rfl HT_.out ?_
        refine done_ (done_of HT_.out (by kernel_rfl)) ?_
        try go_wp2
        go_roundg k1
        case measure => have := HK1.out; omega
        case rel => exact ⟨(wrap64 (x5_1 + 1)), sZ, H', ⟨by have := HK1.out; omega⟩, ⟨bZ⟩⟩
       ·replace c8 := Bool.eq_false_iff.mpr c8
        subst c8
        have H1 : (none) = some r := by rw [if_neg (show ¬ (false = true) by decide)] at H; exact H
        clear H
        have H := H1
        clear H1
        exact absurd H (by simp)
      ·rw [if_neg c6] at H
       exact absurd H (by simp)
     ·rw [if_neg c5] at H
      exact absurd H (by simp)
    ·rw [if_neg c4] at H
     have c4b0 : decide (x5_1 < (l0.length : Int)) = false := decide_eq_false c4
     clear c4
     obtain rfl := Option.some.inj H
     go_wp2
     go_ret
     exact ⟨eZ, bZ⟩
 ·rw [if_neg c3] at H
  exact absurd H (by simp)
end Go.Proofs.YtlbcnflcibmifaaGreatDoor.XT
end
