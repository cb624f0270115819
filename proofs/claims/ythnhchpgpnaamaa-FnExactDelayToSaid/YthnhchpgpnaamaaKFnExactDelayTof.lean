/- The law FnExactDelayTo: part 5 of its texts, joined (wip/pack.py). -/
import Derived.Test.YthnhchpgpnaamaaKFnExactDelayToa
import Derived.Test.YthnhchpgpnaamaaKFnExactDelayTob
import Derived.Test.YthnhchpgpnaamaaKFnExactDelayToc
import Derived.Test.YthnhchpgpnaamaaKFnExactDelayTod
import Derived.Test.YthnhchpgpnaamaaKFnExactDelayToe
import Derived.Laws.CopyRow
import Derived.Laws.Tables
import Derived.Lib.Overlaps
import Derived.Lib.AppendZerosOnto
import Derived.Shelf.Small.Bits
import Derived.Shelf.Strconv.Itoa0
import Derived.Ground.SlgmProg
import Derived.Shelf.SortM.Plain
import Derived.Shelf.SortM.SortNone
import Derived.Test.YthnhchpgpnaamaaProg
import Derived.Sort.OwnSortedInts

section
namespace Go.Proofs.Ythnhchpgpnaamaa.XG
open Go.RowKit Go.Proofs.YthnhchpgpnaamaaW.PrintWords Go.Proofs.YthnhchpgpnaamaaW.PrintLast Go.Proofs.YthnhchpgpnaamaaW.PrintMore
attribute [local go_sem] run_eql_slice_nil binOp_string_gtr' binOp_string_leq' binOp_string_geq' max2_int min2_int max_two min_two max_three min_three max_four min_four   -- for this text's walks alone
set_option linter.unusedVariables false
set_option linter.unusedSimpArgs false
mutual
def impl_ValidNetwork.j0 : Nat → Bool → List Int → List (S59) → Option (Bool)
 | 0, _, _, _ => none
 | k + 1, x26, x267000, x267001 => if x26 = true then (some false) else (impl_ValidNetwork.l0 k x267001 (x267001.length : Int) 0 x267000 x267001)
def impl_ValidNetwork.l0 : Nat → List (S59) → Int → Int → List Int → List (S59) → Option (Bool)
 | 0, _, _, _, _, _ => none
 | k + 1, x28, x29, x30, x267000, x267001 => if x30 < x29 then (if 0 ≤ x30 then (if x30 < (x28.length : Int) then ((impl_ValidPipe.f k ((rd_T59 x28 x30).f0) ((rd_T59 x28 x30).f1) ((rd_T59 x28 x30).f2) ((rd_T59 x28 x30).f3) ((rd_T59 x28 x30).f4) ((rd_T59 x28 x30).f5)).bind fun t270 => (if t270 = true then ((impl_Network_hasEnds.f x267000 x267001 ((rd_T59 x28 x30).f0) ((rd_T59 x28 x30).f1) ((rd_T59 x28 x30).f2) ((rd_T59 x28 x30).f3) ((rd_T59 x28 x30).f4) ((rd_T59 x28 x30).f5)).bind fun t271 => (if t271 = true then (if x30 > 0 then (if 0 ≤ (wrap64 (x30 - 1)) then (if (wrap64 (x30 - 1)) < (x267001.length : Int) then (impl_ValidNetwork.j2 k x28 x29 x30 (!(Op.bytesLess (((rd_T59 x267001 (wrap64 (x30 - 1))).f0).toList) (((rd_T59 x28 x30).f0).toList))) x267000 x267001) else (none)) else (none)) else (impl_ValidNetwork.j2 k x28 x29 x30 false x267000 x267001)) else (impl_ValidNetwork.j2 k x28 x29 x30 true x267000 x267001))) else (impl_ValidNetwork.j2 k x28 x29 x30 true x267000 x267001))) else (none)) else (none)) else (some true)
def impl_ValidNetwork.j2 : Nat → List (S59) → Int → Int → Bool → List Int → List (S59) → Option (Bool)
 | 0, _, _, _, _, _, _ => none
 | k + 1, x28, x29, x30, x59, x267000, x267001 => if x59 = true then (some false) else (impl_ValidNetwork.l0 k x28 x29 (wrap64 (x30 + 1)) x267000 x267001)
end
def impl_ValidNetwork.f (k : Nat) (l0_0 : List Int) (l0_1 : List (S59)) : Option (Bool) := if (l0_0.length : Int) < 1 then (impl_ValidNetwork.j0 k true l0_0 l0_1) else (if (l0_0.length : Int) > 16 then (impl_ValidNetwork.j0 k true l0_0 l0_1) else ((impl_allWithin.f l0_0 (-100000) 100000).bind fun t267 => (if t267 = true then (impl_ValidNetwork.j0 k (decide ((l0_1.length : Int) > 20)) l0_0 l0_1) else (impl_ValidNetwork.j0 k true l0_0 l0_1))))
def impl_ValidNetwork.T6 : Bool × List (List Nat × List Nat) := (true, [([], []), ([0], [0]), ([1], [1]), ([2, 1], [2]), ([3], [3]), ([3], [3]), ([4, 5, 3, 3], [3, 4, 5]), ([6, 3], [3, 6]), ([3, 7], [3, 7]), ([8, 6], [8]), ([9], [9]), ([10, 9], [9, 10]), ([11, 9, 9], [9, 11]), ([12], [12]), ([13, 12], [12, 13]), ([12], [12]), ([15, 12], [12, 15]), ([12], [12]), ([17, 12], [12, 17]), ([16, 18, 12], [12, 16, 18]), ([19, 12], [12, 19]), ([20, 12], [12, 20]), ([14, 21, 12], [12, 14, 21]), ([12, 22, 9], [9, 12, 22]), ([9, 23], [9, 23])])
def impl_ValidNetwork.B6 : List Nat := [0, 1, 3, 7, 15, 15, 63, 127, 255, 511, 1023, 2047, 4095, 8191, 16383, 8191, 40959, 8191, 139263, 499711, 1023999, 2072575, 4194303, 8388607, 16777215]
theorem impl_ValidNetwork.tab6 : rtab .any (opsOf Try.f22 6) = impl_ValidNetwork.T6 := by kernel_rfl
theorem impl_ValidNetwork.bits6 : waitsOk impl_ValidNetwork.T6.2 impl_ValidNetwork.B6 = true := by kernel_rfl
set_option maxHeartbeats 8000000 in
set_option maxRecDepth 100000 in
theorem impl_ValidNetwork.calls (k : Nat) (A0_0 : Option Addr) (c0_0 : Nat) (l0_0 : List Int) (A0_1 : Option Addr) (c0_1 : Nat) (l0_1 : List (S59)) (r : Bool) (w : World) (hr0_0 : Kd.C (Kd.int .i64) w A0_0 l0_0.length l0_0) (hc0_0 : l0_0.length ≤ c0_0) (hr0_1 : Kd.C k59 w A0_1 l0_1.length l0_1) (hc0_1 : l0_1.length ≤ c0_1) (h : impl_ValidNetwork.f k l0_0 l0_1 = some r) :
  Calls Try.prog 22 #[.agg #[.slice A0_0 l0_0.length c0_0, .slice A0_1 l0_1.length c0_1]] w fun e w' => e = .returned (.bool r) ∧ Below w.heap.size w w' := by
 have hu31 := Try.underlying31
 have hu59 := Try.underlying59
 have HR0_0 := Aside0.mk hr0_0
 have HC0_0 := Aside0.mk hc0_0
 clear hr0_0 hc0_0
 have HR0_1 := Aside0.mk hr0_1
 have HC0_1 := Aside0.mk hc0_1
 clear hr0_1 hc0_1
 have HB := Aside0.mk (Below.refl w.heap.size w)
 have H : (if (l0_0.length : Int) < 1 then (impl_ValidNetwork.j0 k true l0_0 l0_1) else (if (l0_0.length : Int) > 16 then (impl_ValidNetwork.j0 k true l0_0 l0_1) else ((impl_allWithin.f l0_0 (-100000) 100000).bind fun t267 => (if t267 = true then (impl_ValidNetwork.j0 k (decide ((l0_1.length : Int) > 20)) l0_0 l0_1) else (impl_ValidNetwork.j0 k true l0_0 l0_1))))) = some r := h
 clear h
 have HC2 := Aside0.mk H
 clear H
 go_enter Try.func22, Try.ntmps22
 go_upto_region 1 with (first | ((with_reducible refine gate_dst (N := 1) rfl ?_); (try (refine gate_guard (by rfl) ?_; dsimp only)); refine boxZ 1 #[.slice A0_0 l0_0.length c0_0, .slice A0_1 l0_1.length c0_1] 31 rfl rfl ?_; intro gb266 hg w3 hbox hb; have n0_ := Aside0.mk (below_step bZ hb); have n1_ := Aside0.mk (hbox); have n2_ := Aside0.mk ((by rw [hg]; exact bsZ : w.heap.size ≤ gb266)); have n3_ := Aside0.mk ((by rw [hg]; exact bsZ : w.heap.size ≤ gb266)); clear HB; have HB := n0_; have BK266 := n1_; have GW266 := n2_; have GE266 := n3_; clear n0_ n1_ n2_ n3_; clear hb hbox hg))
 (try simp only [Act.put, List.setIfInBounds_toArray, List.set_cons_zero, List.set_cons_succ])
 go_cut [26] (fun v26 wc => ∃ (kq : Nat) (x26_1 : Bool), v26 = .bool x26_1 ∧ Aside0 (impl_ValidNetwork.j0 kq x26_1 l0_0 l0_1 = some r) ∧ Aside0 (kq ≤ k) ∧ Aside0 (wc.heap[gb266]? = some (.cells #[(.slice A0_0 l0_0.length c0_0), (.slice A0_1 l0_1.length c0_1)] 31 (0, 0))) ∧ Aside0 (Below w.heap.size w wc))
 case first =>
  have H := HC2.out
  clear HC2
  by_cases c4 : (l0_0.length : Int) < 1
  ·rw [if_pos c4] at H
   have c4b0 : decide ((l0_0.length : Int) < 1) = true := decide_eq_true c4
   have c4b1 : decide (l0_0.length < 1) = true := decide_eq_true (by omega)
   clear c4
   (first | rw [c4b0] | (simp only [i64_w, i32_w]; rw [c4b0]) | skip)
   have H' := Aside0.mk H
   clear H
   have hcz5_0 := bc0 BK266.out
   have hcz5_1 := bc1 BK266.out
   have hfz5_0 := blk_frozen BK266.out 0
   have hfz5_1 := blk_frozen BK266.out 1
   go_wp2
   go_meet
   case rel => exact ⟨_, (true), sZ, H', ⟨by first | omega | exact Nat.le_refl _⟩, ⟨kZ BK266.out⟩, ⟨bZ⟩⟩
  ·rw [if_neg c4] at H
   have c4b0 : decide ((l0_0.length : Int) < 1) = false := decide_eq_false c4
   have c4b1 : decide (l0_0.length < 1) = false := decide_eq_false (by omega)
   clear c4
   (first | rw [c4b0] | (simp only [i64_w, i32_w]; rw [c4b0]) | skip)
   by_cases c6 : (l0_0.length : Int) > 16
   ·rw [if_pos c6] at H
    have c6b0 : decide (16 < (l0_0.length : Int)) = true := decide_eq_true c6
    have c6b1 : decide (16 < l0_0.length) = true := decide_eq_true (by omega)
    clear c6
    have H' := Aside0.mk H
    clear H
    have hcz7_0 := bc0 BK266.out
    have hcz7_1 := bc1 BK266.out
    have hfz7_0 := blk_frozen BK266.out 0
    have hfz7_1 := blk_frozen BK266.out 1
    go_wp2
    go_meet
    case rel => exact ⟨_, (true), sZ, H', ⟨by first | omega | exact Nat.le_refl _⟩, ⟨kZ BK266.out⟩, ⟨bZ⟩⟩
   ·rw [if_neg c6] at H
    have c6b0 : decide (16 < (l0_0.length : Int)) = false := decide_eq_false c6
    have c6b1 : decide (16 < l0_0.length) = false := decide_eq_false (by omega)
    clear c6
    replace H := Option.bind_eq_some_iff.mp H
    obtain ⟨t267, A80, H⟩ := H
    replace H : (if t267 = true then (impl_ValidNetwork.j0 k (decide ((l0_1.length : Int) > 20)) l0_0 l0_1) else (impl_ValidNetwork.j0 k true l0_0 l0_1)) = some r := H
    have A8 := Aside0.mk A80
    clear A80
    by_cases c9 : t267 = true
    ·subst c9
     have H1 : (impl_ValidNetwork.j0 k (decide ((l0_1.length : Int) > 20)) l0_0 l0_1) = some r := by rw [if_pos rfl] at H; exact H
     clear H
     have H := H1
     clear H1
     have H' := Aside0.mk H
     clear H
     have hcz10_0 := bc0 BK266.out
     have hcz10_1 := bc1 BK266.out
     have hfz10_0 := blk_frozen BK266.out 0
     have hfz10_1 := blk_frozen BK266.out 1
     go_wp2_with (first | (go_at_call 39; (with_reducible refine (impl_allWithin.calls _ _ l0_0 (-100000) 100000 true _ ?side1 ?side2 A8.out).mono ?_); (case side1 => repeat (first | exact (Kd.C_below HR0_0.out HB.out) | (with_reducible refine Kd.C_alloc ?_ _) | (with_reducible refine Kd.C_drewN ?_ _) | (with_reducible refine Kd.C_drew ?_))); (case side2 => exact HC0_0.out); rintro e w11 ⟨rfl, hb⟩; have n0_ := Aside0.mk (blk_below (g := gb266) (o := .cells #[.slice A0_0 l0_0.length c0_0, .slice A0_1 l0_1.length c0_1] 31 (0, 0)) (kZ BK266.out) hb); have n1_ := Aside0.mk (below_step bZ hb); clear BK266; clear HB; have BK266 := n0_; have HB := n1_; clear n0_ n1_; (try clear hb); (try clear hb2); (try clear hk); (try clear hi); have hcz12_0 := bc0 BK266.out; have hcz12_1 := bc1 BK266.out; have hfz12_0 := blk_frozen BK266.out 0; have hfz12_1 := blk_frozen BK266.out 1))
     go_meet
     case rel => exact ⟨_, (decide ((l0_1.length : Int) > 20)), sZ, H', ⟨by first | omega | exact Nat.le_refl _⟩, ⟨kZ BK266.out⟩, ⟨bZ⟩⟩
    ·replace c9 := Bool.eq_false_iff.mpr c9
     subst c9
     have H1 : (impl_ValidNetwork.j0 k true l0_0 l0_1) = some r := by rw [if_neg (show ¬ (false = true) by decide)] at H; exact H
     clear H
     have H := H1
     clear H1
     have H' := Aside0.mk H
     clear H
     have hcz13_0 := bc0 BK266.out
     have hcz13_1 := bc1 BK266.out
     have hfz13_0 := blk_frozen BK266.out 0
     have hfz13_1 := blk_frozen BK266.out 1
     go_wp2_with (first | (go_at_call 39; (with_reducible refine (impl_allWithin.calls _ _ l0_0 (-100000) 100000 false _ ?side1 ?side2 A8.out).mono ?_); (case side1 => repeat (first | exact (Kd.C_below HR0_0.out HB.out) | (with_reducible refine Kd.C_alloc ?_ _) | (with_reducible refine Kd.C_drewN ?_ _) | (with_reducible refine Kd.C_drew ?_))); (case side2 => exact HC0_0.out); rintro e w14 ⟨rfl, hb⟩; have n0_ := Aside0.mk (blk_below (g := gb266) (o := .cells #[.slice A0_0 l0_0.length c0_0, .slice A0_1 l0_1.length c0_1] 31 (0, 0)) (kZ BK266.out) hb); have n1_ := Aside0.mk (below_step bZ hb); clear BK266; clear HB; have BK266 := n0_; have HB := n1_; clear n0_ n1_; (try clear hb); (try clear hb2); (try clear hk); (try clear hi)))
     go_meet
     case rel => exact ⟨_, (true), sZ, H', ⟨by first | omega | exact Nat.le_refl _⟩, ⟨kZ BK266.out⟩, ⟨bZ⟩⟩
 case rest =>
  clear HC2; (try clear c2); (try clear p2); (try clear c4); (try clear c4b0); (try clear c4b1); (try clear c6); (try clear c6b0); (try clear c6b1); (try clear c9); (try clear hcz10_0); (try clear hcz10_1); (try clear hcz12_0); (try clear hcz12_1); (try clear hcz13_0); (try clear hcz13_1); (try clear hcz5_0); (try clear hcz5_1); (try clear hcz7_0); (try clear hcz7_1); (try clear hfz10_0); (try clear hfz10_1); (try clear hfz12_0); (try clear hfz12_1); (try clear hfz13_0); (try clear hfz13_1); (try clear hfz5_0); (try clear hfz5_1); (try clear hfz7_0); (try clear hfz7_1)
  obtain ⟨kq, x26_1, rfl, HA, HJ1, BK266, HB⟩ := hcut
  cases kq with
  | zero => exact absurd HA.out (by simp [impl_ValidNetwork.j0])
  | succ kj1 =>
   have H := HA.out
   clear HA
   simp only [impl_ValidNetwork.j0] at H
   by_cases c15 : x26_1 = true
   ·subst c15
    have H1 : (some false) = some r := by rw [if_pos rfl] at H; exact H
    clear H
    have H := H1
    clear H1
    obtain rfl := Option.some.inj H
    go_wp2
    go_ret
    exact ⟨eZ, bZ⟩
   ·replace c15 := Bool.eq_false_iff.mpr c15
    subst c15
    have H1 : (impl_ValidNetwork.l0 kj1 l0_1 (l0_1.length : Int) 0 l0_0 l0_1) = some r := by rw [if_neg (show ¬ (false = true) by decide)] at H; exact H
    clear H
    have H := H1
    clear H1
    have H' := Aside0.mk H
    clear H
    have hcz16_0 := bc0 BK266.out
    have hcz16_1 := bc1 BK266.out
    have hfz16_0 := blk_frozen BK266.out 0
    have hfz16_1 := blk_frozen BK266.out 1
    go_wp2
    go_loopg [30] kj1 (fun kq v30 w' => ∃ (x30_2 : Int), v30 = .int .i64 x30_2 ∧ Aside0 (impl_ValidNetwork.l0 kq l0_1 (l0_1.length : Int) x30_2 l0_0 l0_1 = some r) ∧ Aside0 (kq ≤ kj1) ∧ Aside0 (w'.heap[gb266]? = some (.cells #[(.slice A0_0 l0_0.length c0_0), (.slice A0_1 l0_1.length c0_1)] 31 (0, 0))) ∧ Aside0 (Below w.heap.size w w'))
    case atStart => exact ⟨(0), sZ, H', ⟨Nat.le_refl _⟩, ⟨kZ BK266.out⟩, ⟨bZ⟩⟩
    case round =>
     clear H'; (try clear c1); (try clear c2); (try clear p2); (try clear c4); (try clear c4b0); (try clear c4b1); (try clear c6); (try clear c6b0); (try clear c6b1); (try clear c9); (try clear c15); (try clear hcz10_0); (try clear hcz10_1); (try clear hcz12_0); (try clear hcz12_1); (try clear hcz13_0); (try clear hcz13_1); (try clear hcz16_0); (try clear hcz16_1); (try clear hcz5_0); (try clear hcz5_1); (try clear hcz7_0); (try clear hcz7_1); (try clear hfz10_0); (try clear hfz10_1); (try clear hfz12_0); (try clear hfz12_1); (try clear hfz13_0); (try clear hfz13_1); (try clear hfz16_0); (try clear hfz16_1); (try clear hfz5_0); (try clear hfz5_1); (try clear hfz7_0); (try clear hfz7_1); (try clear p2)
     obtain ⟨x30_2, rfl, HA, HK2, BK266, HB⟩ := hrel
     cases gk with
     | zero => exact absurd HA.out (by simp [impl_ValidNetwork.l0])
     | succ k2 =>
      have H := HA.out
      clear HA
      simp only [impl_ValidNetwork.l0] at H
      by_cases c17 : x30_2 < (l0_1.length : Int)
      ·rw [if_pos c17] at H
       have c17b0 : decide (x30_2 < (l0_1.length : Int)) = true := decide_eq_true c17
       clear c17
       by_cases c18 : 0 ≤ x30_2
       ·rw [if_pos c18] at H
        have c18b0 : decide (0 ≤ x30_2) = true := decide_eq_true c18
        clear c18
        by_cases c19 : x30_2 < (l0_1.length : Int)
        ·rw [if_pos c19] at H
         have c19b0 : decide (x30_2 < (l0_1.length : Int)) = true := decide_eq_true c19
         clear c19
         have HC20 := Aside0.mk H
         clear H
         have p268 : 0 ≤ (x30_2 : Int) := oZ
         have q268 : x30_2 < (l0_1.length : Int) := oZ
         obtain ⟨ad268, e268, hx268_0, hx268_1, hx268_2, hx268_3, hx268_4, hx268_5⟩ := at_T59 HR0_1.out x30_2 p268 q268
         cases e268
         replace hx268_0 := (HB.out.cell (World.block_lt_of_cell? w _ hx268_0)).trans hx268_0
         replace hx268_1 := (HB.out.cell (World.block_lt_of_cell? w _ hx268_1)).trans hx268_1
         replace hx268_2 := (HB.out.cell (World.block_lt_of_cell? w _ hx268_2)).trans hx268_2
         replace hx268_3 := (HB.out.cell (World.block_lt_of_cell? w _ hx268_3)).trans hx268_3
         replace hx268_4 := (HB.out.cell (World.block_lt_of_cell? w _ hx268_4)).trans hx268_4
         replace hx268_5 := (HB.out.cell (World.block_lt_of_cell? w _ hx268_5)).trans hx268_5
         replace p268 := eq_true p268
         replace q268 := eq_true q268
         go_upto_region 6 with (first | ((with_reducible refine gate_dst (N := 4) rfl ?_); (try (refine gate_guard (by rfl) ?_; dsimp only)); refine boxZ 4 #[.string (⟨#[]⟩ : ByteArray), .int .i64 0, .int .i64 0, .int .i64 0, .int .i64 0, .int .i64 0] 59 rfl rfl ?_; intro gb269 hg w21 hbox hb; have n0_ := Aside0.mk (blk_below (g := gb266) (o := .cells #[.slice A0_0 l0_0.length c0_0, .slice (some ad268) l0_1.length c0_1] 31 (0, 0)) (kZ BK266.out) hb); have n1_ := Aside0.mk (below_step bZ hb); have n2_ := Aside0.mk (hbox); have n3_ := Aside0.mk ((by rw [hg]; exact bsZ : w.heap.size ≤ gb269)); have n4_ := Aside0.mk ((by rw [hg]; exact bsZ : w.heap.size ≤ gb269)); have n5_ := Aside0.mk ((by rw [hg]; exact Nat.ne_of_lt (blk_lt (g := gb266) (o := .cells #[.slice A0_0 l0_0.length c0_0, .slice (some ad268) l0_1.length c0_1] 31 (0, 0)) (kZ BK266.out)) : gb266 ≠ gb269)); have n6_ := Aside0.mk ((by rw [hg]; exact Nat.ne_of_gt (blk_lt (g := gb266) (o := .cells #[.slice A0_0 l0_0.length c0_0, .slice (some ad268) l0_1.length c0_1] 31 (0, 0)) (kZ BK266.out)) : gb269 ≠ gb266)); clear BK266; clear HB; have BK266 := n0_; have HB := n1_; have BK269 := n2_; have GW269 := n3_; have GE269 := n4_; have NB266_269 := n5_; have NB269_266 := n6_; clear n0_ n1_ n2_ n3_ n4_ n5_ n6_; clear hb hbox hg; have hnb22 := NB269_266.out; have hnc22 := NB266_269.out; have hcz23_0 := bc0 BK269.out; have hcz23_1 := bc1 BK269.out; have hcz23_2 := bc2 BK269.out; have hcz23_3 := bc3 BK269.out; have hcz23_4 := bc4 BK269.out; have hcz23_5 := bc5 BK269.out; have hfz23_0 := blk_frozen BK269.out 0; have hfz23_1 := blk_frozen BK269.out 1; have hfz23_2 := blk_frozen BK269.out 2; have hfz23_3 := blk_frozen BK269.out 3; have hfz23_4 := blk_frozen BK269.out 4; have hfz23_5 := blk_frozen BK269.out 5))
         (try simp only [Act.put, List.setIfInBounds_toArray, List.set_cons_zero, List.set_cons_succ])
         go_cut [59] (fun v59 wc => ∃ (kq : Nat) (x59_19 : Bool), v59 = .bool x59_19 ∧ Aside0 (impl_ValidNetwork.j2 kq l0_1 (l0_1.length : Int) x30_2 x59_19 l0_0 l0_1 = some r) ∧ Aside0 (kq ≤ k2) ∧ Aside0 (wc.heap[gb266]? = some (.cells #[(.slice A0_0 l0_0.length c0_0), (.slice (some ad268) l0_1.length c0_1)] 31 (0, 0))) ∧ Aside0 (wc.heap[gb269]? = some (.cells #[.string ((rd_T59 l0_1 x30_2).f0), .int .i64 ((rd_T59 l0_1 x30_2).f1), .int .i64 ((rd_T59 l0_1 x30_2).f2), .int .i64 ((rd_T59 l0_1 x30_2).f3), .int .i64 ((rd_T59 l0_1 x30_2).f4), .int .i64 ((rd_T59 l0_1 x30_2).f5)] 59 (0, 0))) ∧ Aside0 (Below w.heap.size w wc))
         case first =>
          have H := HC20.out
          clear HC20
          replace H := Option.bind_eq_some_iff.mp H
          obtain ⟨t270, A240, H⟩ := H
          replace H : (if t270 = true then ((impl_Network_hasEnds.f l0_0 l0_1 ((rd_T59 l0_1 x30_2).f0) ((rd_T59 l0_1 x30_2).f1) ((rd_T59 l0_1 x30_2).f2) ((rd_T59 l0_1 x30_2).f3) ((rd_T59 l0_1 x30_2).f4) ((rd_T59 l0_1 x30_2).f5)).bind fun t271 => (if t271 = true then (if x30_2 > 0 then (if 0 ≤ (wrap64 (x30_2 - 1)) then (if (wrap64 (x30_2 - 1)) < (l0_1.length : Int) then (impl_ValidNetwork.j2 k2 l0_1 (l0_1.length : Int) x30_2 (!(Op.bytesLess (((rd_T59 l0_1 (wrap64 (x30_2 - 1))).f0).toList) (((rd_T59 l0_1 x30_2).f0).toList))) l0_0 l0_1) else (none)) else (none)) else (impl_ValidNetwork.j2 k2 l0_1 (l0_1.length : Int) x30_2 false l0_0 l0_1)) else (impl_ValidNetwork.j2 k2 l0_1 (l0_1.length : Int) x30_2 true l0_0 l0_1))) else (impl_ValidNetwork.j2 k2 l0_1 (l0_1.length : Int) x30_2 true l0_0 l0_1)) = some r := H
          have A24 := Aside0.mk A240
          clear A240
          by_cases c25 : t270 = true
          ·subst c25
           have H1 : ((impl_Network_hasEnds.f l0_0 l0_1 ((rd_T59 l0_1 x30_2).f0) ((rd_T59 l0_1 x30_2).f1) ((rd_T59 l0_1 x30_2).f2) ((rd_T59 l0_1 x30_2).f3) ((rd_T59 l0_1 x30_2).f4) ((rd_T59 l0_1 x30_2).f5)).bind fun t271 => (if t271 = true then (if x30_2 > 0 then (if 0 ≤ (wrap64 (x30_2 - 1)) then (if (wrap64 (x30_2 - 1)) < (l0_1.length : Int) then (impl_ValidNetwork.j2 k2 l0_1 (l0_1.length : Int) x30_2 (!(Op.bytesLess (((rd_T59 l0_1 (wrap64 (x30_2 - 1))).f0).toList) (((rd_T59 l0_1 x30_2).f0).toList))) l0_0 l0_1) else (none)) else (none)) else (impl_ValidNetwork.j2 k2 l0_1 (l0_1.length : Int) x30_2 false l0_0 l0_1)) else (impl_ValidNetwork.j2 k2 l0_1 (l0_1.length : Int) x30_2 true l0_0 l0_1))) = some r := by rw [if_pos rfl] at H; exact H
           clear H
           have H := H1
           clear H1
           replace H := Option.bind_eq_some_iff.mp H
           obtain ⟨t271, A260, H⟩ := H
           replace H : (if t271 = true then (if x30_2 > 0 then (if 0 ≤ (wrap64 (x30_2 - 1)) then (if (wrap64 (x30_2 - 1)) < (l0_1.length : Int) then (impl_ValidNetwork.j2 k2 l0_1 (l0_1.length : Int) x30_2 (!(Op.bytesLess (((rd_T59 l0_1 (wrap64 (x30_2 - 1))).f0).toList) (((rd_T59 l0_1 x30_2).f0).toList))) l0_0 l0_1) else (none)) else (none)) else (impl_ValidNetwork.j2 k2 l0_1 (l0_1.length : Int) x30_2 false l0_0 l0_1)) else (impl_ValidNetwork.j2 k2 l0_1 (l0_1.length : Int) x30_2 true l0_0 l0_1)) = some r := H
           have A26 := Aside0.mk A260
           clear A260
           by_cases c27 : t271 = true
           ·subst c27
            have H1 : (if x30_2 > 0 then (if 0 ≤ (wrap64 (x30_2 - 1)) then (if (wrap64 (x30_2 - 1)) < (l0_1.length : Int) then (impl_ValidNetwork.j2 k2 l0_1 (l0_1.length : Int) x30_2 (!(Op.bytesLess (((rd_T59 l0_1 (wrap64 (x30_2 - 1))).f0).toList) (((rd_T59 l0_1 x30_2).f0).toList))) l0_0 l0_1) else (none)) else (none)) else (impl_ValidNetwork.j2 k2 l0_1 (l0_1.length : Int) x30_2 false l0_0 l0_1)) = some r := by rw [if_pos rfl] at H; exact H
            clear H
            have H := H1
            clear H1
            by_cases c28 : x30_2 > 0
            ·rw [if_pos c28] at H
             have c28b0 : decide (0 < x30_2) = true := decide_eq_true c28
             clear c28
             (first | rw [c28b0] | (simp only [i64_w, i32_w]; rw [c28b0]) | skip)
             obtain ⟨ji29, hji29⟩ : ∃ j_ : Int, (wrap64 (x30_2 - 1)) = j_ := ⟨_, rfl⟩
             replace H : (if 0 ≤ (ji29) then (if (ji29) < (l0_1.length : Int) then (impl_ValidNetwork.j2 k2 l0_1 (l0_1.length : Int) x30_2 (!(Op.bytesLess (((rd_T59 l0_1 (ji29)).f0).toList) (((rd_T59 l0_1 x30_2).f0).toList))) l0_0 l0_1) else (none)) else (none)) = some r := by first | (rw [hji29] at H; exact H) | (simp only [hji29] at H ⊢; exact H)
             (try rw [hji29] at A24)
             (try rw [hji29] at A26)
             have hji29w : (IntKind.i64.wrap (x30_2 - 1)) = ji29 := (i64_w _).trans hji29
             by_cases c30 : 0 ≤ (ji29)
             ·rw [if_pos c30] at H
              have c30b0 : decide (0 ≤ (ji29)) = true := decide_eq_true c30
              clear c30
              by_cases c31 : (ji29) < (l0_1.length : Int)
              ·rw [if_pos c31] at H
               have c31b0 : decide ((ji29) < (l0_1.length : Int)) = true := decide_eq_true c31
               clear c31
               have H' := Aside0.mk H
               clear H
               try go_wp2
               have n0_ : Aside0 (((((((w21.setCell ⟨gb269, 0, none⟩ (.string ((rd_T59 l0_1 x30_2).f0))).setCell ⟨gb269, 1, none⟩ (.int .i64 ((rd_T59 l0_1 x30_2).f1))).setCell ⟨gb269, 2, none⟩ (.int .i64 ((rd_T59 l0_1 x30_2).f2))).setCell ⟨gb269, 3, none⟩ (.int .i64 ((rd_T59 l0_1 x30_2).f3))).setCell ⟨gb269, 4, none⟩ (.int .i64 ((rd_T59 l0_1 x30_2).f4))).setCell ⟨gb269, 5, none⟩ (.int .i64 ((rd_T59 l0_1 x30_2).f5))).heap[gb266]? = some (.cells #[.slice A0_0 l0_0.length c0_0, .slice (some ad268) l0_1.length c0_1] 31 (0, 0))) := ⟨by (with_reducible repeat (first | refine blk_drewN ?_ _ | refine blk_drew ?_ | refine blk_alloc ?_ _)); refine blk_far ?_ NB266_269.out _; (with_reducible repeat (first | refine blk_drewN ?_ _ | refine blk_drew ?_ | refine blk_alloc ?_ _)); refine blk_far ?_ NB266_269.out _; (with_reducible repeat (first | refine blk_drewN ?_ _ | refine blk_drew ?_ | refine blk_alloc ?_ _)); refine blk_far ?_ NB266_269.out _; (with_reducible repeat (first | refine blk_drewN ?_ _ | refine blk_drew ?_ | refine blk_alloc ?_ _)); refine blk_far ?_ NB266_269.out _; (with_reducible repeat (first | refine blk_drewN ?_ _ | refine blk_drew ?_ | refine blk_alloc ?_ _)); refine blk_far ?_ NB266_269.out _; (with_reducible repeat (first | refine blk_drewN ?_ _ | refine blk_drew ?_ | refine blk_alloc ?_ _)); refine blk_far ?_ NB266_269.out _; (with_reducible repeat (first | refine blk_drewN ?_ _ | refine blk_drew ?_ | refine blk_alloc ?_ _)); exact BK266.out⟩
               have n1_ : Aside0 (((((((w21.setCell ⟨gb269, 0, none⟩ (.string ((rd_T59 l0_1 x30_2).f0))).setCell ⟨gb269, 1, none⟩ (.int .i64 ((rd_T59 l0_1 x30_2).f1))).setCell ⟨gb269, 2, none⟩ (.int .i64 ((rd_T59 l0_1 x30_2).f2))).setCell ⟨gb269, 3, none⟩ (.int .i64 ((rd_T59 l0_1 x30_2).f3))).setCell ⟨gb269, 4, none⟩ (.int .i64 ((rd_T59 l0_1 x30_2).f4))).setCell ⟨gb269, 5, none⟩ (.int .i64 ((rd_T59 l0_1 x30_2).f5))).heap[gb269]? = some (.cells #[.string ((rd_T59 l0_1 x30_2).f0), .int .i64 ((rd_T59 l0_1 x30_2).f1), .int .i64 ((rd_T59 l0_1 x30_2).f2), .int .i64 ((rd_T59 l0_1 x30_2).f3), .int .i64 ((rd_T59 l0_1 x30_2).f4), .int .i64 ((rd_T59 l0_1 x30_2).f5)] 59 (0, 0))) := ⟨by (with_reducible repeat (first | refine blk_drewN ?_ _ | refine blk_drew ?_ | refine blk_alloc ?_ _)); refine blk_put (cs := #[.string ((rd_T59 l0_1 x30_2).f0), .int .i64 ((rd_T59 l0_1 x30_2).f1), .int .i64 ((rd_T59 l0_1 x30_2).f2), .int .i64 ((rd_T59 l0_1 x30_2).f3), .int .i64 ((rd_T59 l0_1 x30_2).f4), .int .i64 0]) ?_ 5 _ rfl; (with_reducible repeat (first | refine blk_drewN ?_ _ | refine blk_drew ?_ | refine blk_alloc ?_ _)); refine blk_put (cs := #[.string ((rd_T59 l0_1 x30_2).f0), .int .i64 ((rd_T59 l0_1 x30_2).f1), .int .i64 ((rd_T59 l0_1 x30_2).f2), .int .i64 ((rd_T59 l0_1 x30_2).f3), .int .i64 0, .int .i64 0]) ?_ 4 _ rfl; (with_reducible repeat (first | refine blk_drewN ?_ _ | refine blk_drew ?_ | refine blk_alloc ?_ _)); refine blk_put (cs := #[.string ((rd_T59 l0_1 x30_2).f0), .int .i64 ((rd_T59 l0_1 x30_2).f1), .int .i64 ((rd_T59 l0_1 x30_2).f2), .int .i64 0, .int .i64 0, .int .i64 0]) ?_ 3 _ rfl; (with_reducible repeat (first | refine blk_drewN ?_ _ | refine blk_drew ?_ | refine blk_alloc ?_ _)); refine blk_put (cs := #[.string ((rd_T59 l0_1 x30_2).f0), .int .i64 ((rd_T59 l0_1 x30_2).f1), .int .i64 0, .int .i64 0, .int .i64 0, .int .i64 0]) ?_ 2 _ rfl; (with_reducible repeat (first | refine blk_drewN ?_ _ | refine blk_drew ?_ | refine blk_alloc ?_ _)); refine blk_put (cs := #[.string ((rd_T59 l0_1 x30_2).f0), .int .i64 0, .int .i64 0, .int .i64 0, .int .i64 0, .int .i64 0]) ?_ 1 _ rfl; (with_reducible repeat (first | refine blk_drewN ?_ _ | refine blk_drew ?_ | refine blk_alloc ?_ _)); refine blk_put (cs := #[.string (⟨#[]⟩ : ByteArray), .int .i64 0, .int .i64 0, .int .i64 0, .int .i64 0, .int .i64 0]) ?_ 0 _ rfl; (with_reducible repeat (first | refine blk_drewN ?_ _ | refine blk_drew ?_ | refine blk_alloc ?_ _)); exact BK269.out⟩
               have n2_ : Aside0 (Below w.heap.size w ((((((w21.setCell ⟨gb269, 0, none⟩ (.string ((rd_T59 l0_1 x30_2).f0))).setCell ⟨gb269, 1, none⟩ (.int .i64 ((rd_T59 l0_1 x30_2).f1))).setCell ⟨gb269, 2, none⟩ (.int .i64 ((rd_T59 l0_1 x30_2).f2))).setCell ⟨gb269, 3, none⟩ (.int .i64 ((rd_T59 l0_1 x30_2).f3))).setCell ⟨gb269, 4, none⟩ (.int .i64 ((rd_T59 l0_1 x30_2).f4))).setCell ⟨gb269, 5, none⟩ (.int .i64 ((rd_T59 l0_1 x30_2).f5)))) := ⟨bZ⟩
               (try clear BK266)
               (try clear BK269)
               (try clear HB)
               generalize ((((((w21.setCell ⟨gb269, 0, none⟩ (.string ((rd_T59 l0_1 x30_2).f0))).setCell ⟨gb269, 1, none⟩ (.int .i64 ((rd_T59 l0_1 x30_2).f1))).setCell ⟨gb269, 2, none⟩ (.int .i64 ((rd_T59 l0_1 x30_2).f2))).setCell ⟨gb269, 3, none⟩ (.int .i64 ((rd_T59 l0_1 x30_2).f3))).setCell ⟨gb269, 4, none⟩ (.int .i64 ((rd_T59 l0_1 x30_2).f4))).setCell ⟨gb269, 5, none⟩ (.int .i64 ((rd_T59 l0_1 x30_2).f5))) = w32 at n0_ n1_ n2_ ⊢
               have BK266 := n0_
               have BK269 := n1_
               have HB := n2_
               clear n0_ n1_ n2_
               have n0_ := Aside0.mk (blk_drew BK266.out)
               have n1_ := Aside0.mk (blk_drew BK269.out)
               have n2_ := Aside0.mk (below_drew1 HB.out)
               clear BK266; clear BK269; clear HB
               have BK266 := n0_
               have BK269 := n1_
               have HB := n2_
               clear n0_ n1_ n2_
               have p272 : 0 ≤ ((ji29) : Int) := oZ
               have q272 : (ji29) < (l0_1.length : Int) := oZ
               obtain ⟨ad272, e272, hx272_0, hx272_1, hx272_2, hx272_3, hx272_4, hx272_5⟩ := at_T59 HR0_1.out (ji29) p272 q272
               have hw272_5 := hx272_5
               have hw272_4 := hx272_4
               have hw272_3 := hx272_3
               have hw272_2 := hx272_2
               have hw272_1 := hx272_1
               have hw272_0 := hx272_0
               obtain rfl : ad268 = ad272 := (by injection e272)
               replace hx272_0 := (HB.out.cell (World.block_lt_of_cell? w _ hx272_0)).trans hx272_0
               replace hx272_1 := (HB.out.cell (World.block_lt_of_cell? w _ hx272_1)).trans hx272_1
               replace hx272_2 := (HB.out.cell (World.block_lt_of_cell? w _ hx272_2)).trans hx272_2
               replace hx272_3 := (HB.out.cell (World.block_lt_of_cell? w _ hx272_3)).trans hx272_3
               replace hx272_4 := (HB.out.cell (World.block_lt_of_cell? w _ hx272_4)).trans hx272_4
               replace hx272_5 := (HB.out.cell (World.block_lt_of_cell? w _ hx272_5)).trans hx272_5
               replace p272 := eq_true p272
               replace q272 := eq_true q272
               refine start_ (n := 25) (S := fun w' => w'.cell? ⟨gb269, 0, none⟩ = some (.string ((rd_T59 l0_1 x30_2).f0)) ∧ w'.cell? ⟨gb269, 1, none⟩ = some (.int .i64 ((rd_T59 l0_1 x30_2).f1)) ∧ w'.cell? ⟨gb269, 2, none⟩ = some (.int .i64 ((rd_T59 l0_1 x30_2).f2)) ∧ w'.cell? ⟨gb269, 3, none⟩ = some (.int .i64 ((rd_T59 l0_1 x30_2).f3)) ∧ w'.cell? ⟨gb269, 4, none⟩ = some (.int .i64 ((rd_T59 l0_1 x30_2).f4)) ∧ w'.cell? ⟨gb269, 5, none⟩ = some (.int .i64 ((rd_T59 l0_1 x30_2).f5)) ∧ w'.cell? ⟨gb266, 0, none⟩ = some (.slice A0_0 l0_0.length c0_0) ∧ w'.cell? ⟨gb266, 1, none⟩ = some (.slice (some ad268) l0_1.length c0_1) ∧ w'.cell? (ad268.add (((ji29)).toNat * 6)) = some (.string ((rd_T59 l0_1 (ji29)).f0)) ∧ w'.cell? ⟨(ad268.add (((ji29)).toNat * 6)).block, (ad268.add (((ji29)).toNat * 6)).off + 1, none⟩ = some (.int .i64 ((rd_T59 l0_1 (ji29)).f1)) ∧ w'.cell? ⟨(ad268.add (((ji29)).toNat * 6)).block, (ad268.add (((ji29)).toNat * 6)).off + 2, none⟩ = some (.int .i64 ((rd_T59 l0_1 (ji29)).f2)) ∧ w'.cell? ⟨(ad268.add (((ji29)).toNat * 6)).block, (ad268.add (((ji29)).toNat * 6)).off + 3, none⟩ = some (.int .i64 ((rd_T59 l0_1 (ji29)).f3)) ∧ w'.cell? ⟨(ad268.add (((ji29)).toNat * 6)).block, (ad268.add (((ji29)).toNat * 6)).off + 4, none⟩ = some (.int .i64 ((rd_T59 l0_1 (ji29)).f4)) ∧ w'.cell? ⟨(ad268.add (((ji29)).toNat * 6)).block, (ad268.add (((ji29)).toNat * 6)).off + 5, none⟩ = some (.int .i64 ((rd_T59 l0_1 (ji29)).f5))) (ds := []) #[false, false, false, false, false, false, false, false, false, false, false, false, false, false, false, false, false, false, false, false, false, false, false, false, false] (by kernel_rfl) rfl rfl ⟨(blk_cell BK269.out 0).trans rfl, (blk_cell BK269.out 1).trans rfl, (blk_cell BK269.out 2).trans rfl, (blk_cell BK269.out 3).trans rfl, (blk_cell BK269.out 4).trans rfl, (blk_cell BK269.out 5).trans rfl, (blk_cell BK266.out 0).trans rfl, (blk_cell BK266.out 1).trans rfl, ((HB.out.cell (World.block_lt_of_cell? w _ hw272_0)).trans hw272_0), ((HB.out.cell (World.block_lt_of_cell? w _ hw272_1)).trans hw272_1), ((HB.out.cell (World.block_lt_of_cell? w _ hw272_2)).trans hw272_2), ((HB.out.cell (World.block_lt_of_cell? w _ hw272_3)).trans hw272_3), ((HB.out.cell (World.block_lt_of_cell? w _ hw272_4)).trans hw272_4), ((HB.out.cell (World.block_lt_of_cell? w _ hw272_5)).trans hw272_5)⟩ (fun hHeld => ?_); refine with_tabW impl_ValidNetwork.tab6 impl_ValidNetwork.bits6 (fun HT_ HW_ => ?_)
               generalize w32.drew = w33 at BK266 BK269 HB hx272_0 hx272_1 hx272_2 hx272_3 hx272_4 hx272_5 hHeld ⊢
               refine take_ (i := 0) (N := some 35) (v := ?_) (a' := ?_) #[true, false, false, false, false, false, false, false, false, false, false, false, false, false, false, false, false, false, false, false, false, false, false, false, false] rfl rfl (take_ofW HT_.out HW_.out (by kernel_rfl)) (fun _ _ _ h => h) (Or.inl ⟨by rfl, ?_⟩) hHeld ?_ ?_
               rotate_left
               ·rintro w' ⟨s0, s1, s2, s3, s4, s5, s6, s7, s8, s9, s10, s11, s12, s13⟩
                go_simp
                with_reducible rfl
               rotate_left
               ·simp only [Act.put, List.setIfInBounds_toArray, List.set_cons_zero, List.set_cons_succ, i64_w, i32_w]
                rfl
               refine one_ (i := 1) (N := some 36) #[true, true, false, false, false, false, false, false, false, false, false, false, false, false, false, false, false, false, false, false, false, false, false, false, false] rfl rfl (one_of HT_.out (by kernel_rfl)) (by decide) (fun K hK => ?_)
               refine goes_ Try.func40 (by kernel_rfl) rfl #[.agg #[.string ((rd_T59 l0_1 x30_2).f0), .int .i64 ((rd_T59 l0_1 x30_2).f1), .int .i64 ((rd_T59 l0_1 x30_2).f2), .int .i64 ((rd_T59 l0_1 x30_2).f3), .int .i64 ((rd_T59 l0_1 x30_2).f4), .int .i64 ((rd_T59 l0_1 x30_2).f5)]] (by rfl) rfl rfl gZ ?_
               with_reducible refine (impl_ValidPipe.calls k2 ((rd_T59 l0_1 x30_2).f0) ((rd_T59 l0_1 x30_2).f1) ((rd_T59 l0_1 x30_2).f2) ((rd_T59 l0_1 x30_2).f3) ((rd_T59 l0_1 x30_2).f4) ((rd_T59 l0_1 x30_2).f5) true _ A24.out).mono ?_
               rintro e w34 ⟨rfl, hb⟩
               refine ⟨_, rfl, ?_⟩
               have n0_ := Aside0.mk (blk_below (g := gb266) (o := .cells #[.slice A0_0 l0_0.length c0_0, .slice (some ad268) l0_1.length c0_1] 31 (0, 0)) (kZ BK266.out) hb)
               have n1_ := Aside0.mk (blk_below (g := gb269) (o := .cells #[.string ((rd_T59 l0_1 x30_2).f0), .int .i64 ((rd_T59 l0_1 x30_2).f1), .int .i64 ((rd_T59 l0_1 x30_2).f2), .int .i64 ((rd_T59 l0_1 x30_2).f3), .int .i64 ((rd_T59 l0_1 x30_2).f4), .int .i64 ((rd_T59 l0_1 x30_2).f5)] 59 (0, 0)) (kZ BK269.out) hb)
               have n2_ := Aside0.mk (below_step bZ hb)
               clear BK266; clear BK269; clear HB
               have BK266 := n0_
               have BK269 := n1_
               have HB := n2_
               clear n0_ n1_ n2_
               (try clear hb)
               (try clear hb2)
               (try clear hk)
               (try clear hi)
               refine hK.out _ _ ⟨(blk_cell BK269.out 0).trans rfl, (blk_cell BK269.out 1).trans rfl, (blk_cell BK269.out 2).trans rfl, (blk_cell BK269.out 3).trans rfl, (blk_cell BK269.out 4).trans rfl, (blk_cell BK269.out 5).trans rfl, (blk_cell BK266.out 0).trans rfl, (blk_cell BK266.out 1).trans rfl, ((HB.out.cell (World.block_lt_of_cell? w _ hw272_0)).trans hw272_0), ((HB.out.cell (World.block_lt_of_cell? w _ hw272_1)).trans hw272_1), ((HB.out.cell (World.block_lt_of_cell? w _ hw272_2)).trans hw272_2), ((HB.out.cell (World.block_lt_of_cell? w _ hw272_3)).trans hw272_3), ((HB.out.cell (World.block_lt_of_cell? w _ hw272_4)).trans hw272_4), ((HB.out.cell (World.block_lt_of_cell? w _ hw272_5)).trans hw272_5)⟩ (fun hHeld => ?_)
               clear hK K
               refine norm_ (a' := ?_) ?_ ?_
               rotate_left
               ·show Act.put _ (some 36) _ = _
                simp only [Act.put, List.setIfInBounds_toArray, List.set_cons_zero, List.set_cons_succ, i64_w, i32_w]
                rfl
               refine puZ 2 (some 37) #[true, true, true, false, false, false, false, false, false, false, false, false, false, false, false, false, false, false, false, false, false, false, false, false, false] rfl rfl HT_.out ?_
               refine puZ 3 (some 38) #[true, true, true, true, false, false, false, false, false, false, false, false, false, false, false, false, false, false, false, false, false, false, false, false, false] rfl rfl HT_.out ?_
               refine take_ (i := 4) (N := some 39) (v := ?_) (a' := ?_) #[true, true, true, true, true, false, false, false, false, false, false, false, false, false, false, false, false, false, false, false, false, false, false, false, false] rfl rfl (take_ofW HT_.out HW_.out (by kernel_rfl)) (fun _ _ _ h => h) (Or.inl ⟨by rfl, ?_⟩) hHeld ?_ ?_
               rotate_left
               ·rintro w' ⟨s0, s1, s2, s3, s4, s5, s6, s7, s8, s9, s10, s11, s12, s13⟩
                go_simp
                with_reducible rfl
               rotate_left
               ·simp only [Act.put, List.setIfInBounds_toArray, List.set_cons_zero, List.set_cons_succ, i64_w, i32_w]
                rfl
               refine take_ (i := 5) (N := some 40) (v := ?_) (a' := ?_) #[true, true, true, true, true, true, false, false, false, false, false, false, false, false, false, false, false, false, false, false, false, false, false, false, false] rfl rfl (take_ofW HT_.out HW_.out (by kernel_rfl)) (fun _ _ _ h => h) (Or.inl ⟨by rfl, ?_⟩) hHeld ?_ ?_
               rotate_left
               ·rintro w' ⟨s0, s1, s2, s3, s4, s5, s6, s7, s8, s9, s10, s11, s12, s13⟩
                go_simp
                with_reducible rfl
               rotate_left
               ·simp only [Act.put, List.setIfInBounds_toArray, List.set_cons_zero, List.set_cons_succ, i64_w, i32_w]
                rfl
               refine one_ (i := 6) (N := some 41) #[true, true, true, true, true, true, true, false, false, false, false, false, false, false, false, false, false, false, false, false, false, false, false, false, false] rfl rfl (one_of HT_.out (by kernel_rfl)) (by decide) (fun K hK => ?_)
               refine goes_ Try.func41 (by kernel_rfl) rfl #[.agg #[.slice A0_0 l0_0.length c0_0, .slice (some ad268) l0_1.length c0_1], .agg #[.string ((rd_T59 l0_1 x30_2).f0), .int .i64 ((rd_T59 l0_1 x30_2).f1), .int .i64 ((rd_T59 l0_1 x30_2).f2), .int .i64 ((rd_T59 l0_1 x30_2).f3), .int .i64 ((rd_T59 l0_1 x30_2).f4), .int .i64 ((rd_T59 l0_1 x30_2).f5)]] (by rfl) rfl rfl gZ ?_
               with_reducible refine (impl_Network_hasEnds.calls _ _ l0_0 _ _ l0_1 ((rd_T59 l0_1 x30_2).f0) ((rd_T59 l0_1 x30_2).f1) ((rd_T59 l0_1 x30_2).f2) ((rd_T59 l0_1 x30_2).f3) ((rd_T59 l0_1 x30_2).f4) ((rd_T59 l0_1 x30_2).f5) true _ ?side1 ?side2 ?side3 ?side4 A26.out).mono ?_
               (case side1 => repeat (first | exact (Kd.C_below HR0_0.out HB.out) | (with_reducible refine Kd.C_alloc ?_ _) | (with_reducible refine Kd.C_drewN ?_ _) | (with_reducible refine Kd.C_drew ?_)))
               (case side2 => exact HC0_0.out)
               (case side3 => repeat (first | exact (Kd.C_below HR0_1.out HB.out) | (with_reducible refine Kd.C_alloc ?_ _) | (with_reducible refine Kd.C_drewN ?_ _) | (with_reducible refine Kd.C_drew ?_)))
               (case side4 => exact HC0_1.out)
               rintro e w35 ⟨rfl, hb⟩
               refine ⟨_, rfl, ?_⟩
               have n0_ := Aside0.mk (blk_below (g := gb266) (o := .cells #[.slice A0_0 l0_0.length c0_0, .slice (some ad268) l0_1.length c0_1] 31 (0, 0)) (kZ BK266.out) hb)
               have n1_ := Aside0.mk (blk_below (g := gb269) (o := .cells #[.string ((rd_T59 l0_1 x30_2).f0), .int .i64 ((rd_T59 l0_1 x30_2).f1), .int .i64 ((rd_T59 l0_1 x30_2).f2), .int .i64 ((rd_T59 l0_1 x30_2).f3), .int .i64 ((rd_T59 l0_1 x30_2).f4), .int .i64 ((rd_T59 l0_1 x30_2).f5)] 59 (0, 0)) (kZ BK269.out) hb)
               have n2_ := Aside0.mk (below_step bZ hb)
               clear BK266; clear BK269; clear HB
               have BK266 := n0_
               have BK269 := n1_
               have HB := n2_
               clear n0_ n1_ n2_
               (try clear hb)
               (try clear hb2)
               (try clear hk)
               (try clear hi)
               refine hK.out _ _ ⟨(blk_cell BK269.out 0).trans rfl, (blk_cell BK269.out 1).trans rfl, (blk_cell BK269.out 2).trans rfl, (blk_cell BK269.out 3).trans rfl, (blk_cell BK269.out 4).trans rfl, (blk_cell BK269.out 5).trans rfl, (blk_cell BK266.out 0).trans rfl, (blk_cell BK266.out 1).trans rfl, ((HB.out.cell (World.block_lt_of_cell? w _ hw272_0)).trans hw272_0), ((HB.out.cell (World.block_lt_of_cell? w _ hw272_1)).trans hw272_1), ((HB.out.cell (World.block_lt_of_cell? w _ hw272_2)).trans hw272_2), ((HB.out.cell (World.block_lt_of_cell? w _ hw272_3)).trans hw272_3), ((HB.out.cell (World.block_lt_of_cell? w _ hw272_4)).trans hw272_4), ((HB.out.cell (World.block_lt_of_cell? w _ hw272_5)).trans hw272_5)⟩ (fun hHeld => ?_)
               clear hK K
               refine norm_ (a' := ?_) ?_ ?_
               rotate_left
               ·show Act.put _ (some 41) _ = _
                simp only [Act.put, List.setIfInBounds_toArray, List.set_cons_zero, List.set_cons_succ, i64_w, i32_w]
                rfl
               refine puZ 7 (some 42) #[true, true, true, true, true, true, true, true, false, false, false, false, false, false, false, false, false, false, false, false, false, false, false, false, false] rfl rfl HT_.out ?_
               refine puZ 8 (some 43) #[true, true, true, true, true, true, true, true, true, false, false, false, false, false, false, false, false, false, false, false, false, false, false, false, false] rfl rfl HT_.out ?_
               refine puZ 9 (some 44) #[true, true, true, true, true, true, true, true, true, true, false, false, false, false, false, false, false, false, false, false, false, false, false, false, false] rfl rfl HT_.out ?_
               refine puZ 10 (some 45) #[true, true, true, true, true, true, true, true, true, true, true, false, false, false, false, false, false, false, false, false, false, false, false, false, false] rfl rfl HT_.out ?_
               refine puZ 11 (some 46) #[true, true, true, true, true, true, true, true, true, true, true, true, false, false, false, false, false, false, false, false, false, false, false, false, false] rfl rfl HT_.out ?_
               refine puZ 12 (some 47) #[true, true, true, true, true, true, true, true, true, true, true, true, true, false, false, false, false, false, false, false, false, false, false, false, false] rfl rfl HT_.out ?_
               refine puZ 13 (some 48) #[true, true, true, true, true, true, true, true, true, true, true, true, true, true, false, false, false, false, false, false, false, false, false, false, false] rfl rfl HT_.out ?_
               refine puZ 15 (some 50) #[true, true, true, true, true, true, true, true, true, true, true, true, true, true, false, true, false, false, false, false, false, false, false, false, false] rfl rfl HT_.out ?_
               refine puZ 17 (some 52) #[true, true, true, true, true, true, true, true, true, true, true, true, true, true, false, true, false, true, false, false, false, false, false, false, false] rfl rfl HT_.out ?_
               refine puZ 18 (some 53) #[true, true, true, true, true, true, true, true, true, true, true, true, true, true, false, true, false, true, true, false, false, false, false, false, false] rfl rfl HT_.out ?_
               refine take_ (i := 14) (N := some 49) (v := ?_) (a' := ?_) #[true, true, true, true, true, true, true, true, true, true, true, true, true, true, true, true, false, true, true, false, false, false, false, false, false] rfl rfl (take_ofW HT_.out HW_.out (by kernel_rfl)) (fun _ _ _ h => h) (Or.inl ⟨by rfl, ?_⟩) hHeld ?_ ?_
               rotate_left
               ·rintro w' ⟨s0, s1, s2, s3, s4, s5, s6, s7, s8, s9, s10, s11, s12, s13⟩
                go_simp
                with_reducible rfl
               rotate_left
               ·simp only [Act.put, List.setIfInBounds_toArray, List.set_cons_zero, List.set_cons_succ, i64_w, i32_w]
                rfl
               refine take_ (i := 16) (N := some 51) (v := ?_) (a' := ?_) #[true, true, true, true, true, true, true, true, true, true, true, true, true, true, true, true, true, true, true, false, false, false, false, false, false] rfl rfl (take_ofW HT_.out HW_.out (by kernel_rfl)) (fun _ _ _ h => h) (Or.inl ⟨by rfl, ?_⟩) hHeld ?_ ?_
               rotate_left
               ·rintro w' ⟨s0, s1, s2, s3, s4, s5, s6, s7, s8, s9, s10, s11, s12, s13⟩
                go_simp
                with_reducible rfl
               rotate_left
               ·simp only [Act.put, List.setIfInBounds_toArray, List.set_cons_zero, List.set_cons_succ, i64_w, i32_w]
                rfl
               refine puZ 19 (some 54) #[true, true, true, true, true, true, true, true, true, true, true, true, true, true, true, true, true, true, true, true, false, false, false, false, false] rfl rfl HT_.out ?_
               refine puZ 20 (some 55) #[true, true, true, true, true, true, true, true, true, true, true, true, true, true, true, true, true, true, true, true, true, false, false, false, false] rfl rfl HT_.out ?_
               refine take_ (i := 21) (N := some 56) (v := ?_) (a' := ?_) #[true, true, true, true, true, true, true, true, true, true, true, true, true, true, true, true, true, true, true, true, true, true, false, false, false] rfl rfl (take_ofW HT_.out HW_.out (by kernel_rfl)) (fun _ _ _ h => h) (Or.inl ⟨by rfl, ?_⟩) hHeld ?_ ?_
               rotate_left
               ·rintro w' ⟨s0, s1, s2, s3, s4, s5, s6, s7, s8, s9, s10, s11, s12, s13⟩
                go_simp
                with_reducible rfl
               rotate_left
               ·simp only [Act.put, List.setIfInBounds_toArray, List.set_cons_zero, List.set_cons_succ, i64_w, i32_w]
                rfl
               refine puZ 22 (some 57) #[true, true, true, true, true, true, true, true, true, true, true, true, true, true, true, true, true, true, true, true, true, true, true, false, false] rfl rfl HT_.out ?_
               refine puZ 23 (some 58) #[true, true, true, true, true, true, true, true, true, true, true, true, true, true, true, true, true, true, true, true, true, true, true, true, false] rfl rfl HT_.out ?_
               refine puZ 24 (some 59) #[true, true, true, true, true, true, true, true, true, true, true, true, true, true, true, true, true, true, true, true, true, true, true, true, true] rfl rfl HT_.out ?_
               refine done_ (done_of HT_.out (by kernel_rfl)) ?_
               try go_wp2
               go_meet
               case rel => exact ⟨_, (!(Op.bytesLess (((rd_T59 l0_1 (ji29)).f0).toList) (((rd_T59 l0_1 x30_2).f0).toList))), (by first | rfl | (simp; done) | (simp only [← hji29] <;> (first | rfl | simp)) | (simp [*]; done)), H', ⟨by have := HJ1.out; have := HK2.out; first | omega | exact Nat.le_refl _⟩, ⟨kZ BK266.out⟩, ⟨kZ BK269.out⟩, ⟨bZ⟩⟩
              ·rw [if_neg c31] at H
               exact absurd H (by simp)
             ·rw [if_neg c30] at H
              exact absurd H (by simp)
            ·rw [if_neg c28] at H
             have c28b0 : decide (0 < x30_2) = false := decide_eq_false c28
             clear c28
             (first | rw [c28b0] | (simp only [i64_w, i32_w]; rw [c28b0]) | skip)
             have H' := Aside0.mk H
             clear H
             try go_wp2
             have n0_ : Aside0 (((((((w21.setCell ⟨gb269, 0, none⟩ (.string ((rd_T59 l0_1 x30_2).f0))).setCell ⟨gb269, 1, none⟩ (.int .i64 ((rd_T59 l0_1 x30_2).f1))).setCell ⟨gb269, 2, none⟩ (.int .i64 ((rd_T59 l0_1 x30_2).f2))).setCell ⟨gb269, 3, none⟩ (.int .i64 ((rd_T59 l0_1 x30_2).f3))).setCell ⟨gb269, 4, none⟩ (.int .i64 ((rd_T59 l0_1 x30_2).f4))).setCell ⟨gb269, 5, none⟩ (.int .i64 ((rd_T59 l0_1 x30_2).f5))).heap[gb266]? = some (.cells #[.slice A0_0 l0_0.length c0_0, .slice (some ad268) l0_1.length c0_1] 31 (0, 0))) := ⟨by (with_reducible repeat (first | refine blk_drewN ?_ _ | refine blk_drew ?_ | refine blk_alloc ?_ _)); refine blk_far ?_ NB266_269.out _; (with_reducible repeat (first | refine blk_drewN ?_ _ | refine blk_drew ?_ | refine blk_alloc ?_ _)); refine blk_far ?_ NB266_269.out _; (with_reducible repeat (first | refine blk_drewN ?_ _ | refine blk_drew ?_ | refine blk_alloc ?_ _)); refine blk_far ?_ NB266_269.out _; (with_reducible repeat (first | refine blk_drewN ?_ _ | refine blk_drew ?_ | refine blk_alloc ?_ _)); refine blk_far ?_ NB266_269.out _; (with_reducible repeat (first | refine blk_drewN ?_ _ | refine blk_drew ?_ | refine blk_alloc ?_ _)); refine blk_far ?_ NB266_269.out _; (with_reducible repeat (first | refine blk_drewN ?_ _ | refine blk_drew ?_ | refine blk_alloc ?_ _)); refine blk_far ?_ NB266_269.out _; (with_reducible repeat (first | refine blk_drewN ?_ _ | refine blk_drew ?_ | refine blk_alloc ?_ _)); exact BK266.out⟩
             have n1_ : Aside0 (((((((w21.setCell ⟨gb269, 0, none⟩ (.string ((rd_T59 l0_1 x30_2).f0))).setCell ⟨gb269, 1, none⟩ (.int .i64 ((rd_T59 l0_1 x30_2).f1))).setCell ⟨gb269, 2, none⟩ (.int .i64 ((rd_T59 l0_1 x30_2).f2))).setCell ⟨gb269, 3, none⟩ (.int .i64 ((rd_T59 l0_1 x30_2).f3))).setCell ⟨gb269, 4, none⟩ (.int .i64 ((rd_T59 l0_1 x30_2).f4))).setCell ⟨gb269, 5, none⟩ (.int .i64 ((rd_T59 l0_1 x30_2).f5))).heap[gb269]? = some (.cells #[.string ((rd_T59 l0_1 x30_2).f0), .int .i64 ((rd_T59 l0_1 x30_2).f1), .int .i64 ((rd_T59 l0_1 x30_2).f2), .int .i64 ((rd_T59 l0_1 x30_2).f3), .int .i64 ((rd_T59 l0_1 x30_2).f4), .int .i64 ((rd_T59 l0_1 x30_2).f5)] 59 (0, 0))) := ⟨by (with_reducible repeat (first | refine blk_drewN ?_ _ | refine blk_drew ?_ | refine blk_alloc ?_ _)); refine blk_put (cs := #[.string ((rd_T59 l0_1 x30_2).f0), .int .i64 ((rd_T59 l0_1 x30_2).f1), .int .i64 ((rd_T59 l0_1 x30_2).f2), .int .i64 ((rd_T59 l0_1 x30_2).f3), .int .i64 ((rd_T59 l0_1 x30_2).f4), .int .i64 0]) ?_ 5 _ rfl; (with_reducible repeat (first | refine blk_drewN ?_ _ | refine blk_drew ?_ | refine blk_alloc ?_ _)); refine blk_put (cs := #[.string ((rd_T59 l0_1 x30_2).f0), .int .i64 ((rd_T59 l0_1 x30_2).f1), .int .i64 ((rd_T59 l0_1 x30_2).f2), .int .i64 ((rd_T59 l0_1 x30_2).f3), .int .i64 0, .int .i64 0]) ?_ 4 _ rfl; (with_reducible repeat (first | refine blk_drewN ?_ _ | refine blk_drew ?_ | refine blk_alloc ?_ _)); refine blk_put (cs := #[.string ((rd_T59 l0_1 x30_2).f0), .int .i64 ((rd_T59 l0_1 x30_2).f1), .int .i64 ((rd_T59 l0_1 x30_2).f2), .int .i64 0, .int .i64 0, .int .i64 0]) ?_ 3 _ rfl; (with_reducible repeat (first | refine blk_drewN ?_ _ | refine blk_drew ?_ | refine blk_alloc ?_ _)); refine blk_put (cs := #[.string ((rd_T59 l0_1 x30_2).f0), .int .i64 ((rd_T59 l0_1 x30_2).f1), .int .i64 0, .int .i64 0, .int .i64 0, .int .i64 0]) ?_ 2 _ rfl; (with_reducible repeat (first | refine blk_drewN ?_ _ | refine blk_drew ?_ | refine blk_alloc ?_ _)); refine blk_put (cs := #[.string ((rd_T59 l0_1 x30_2).f0), .int .i64 0, .int .i64 0, .int .i64 0, .int .i64 0, .int .i64 0]) ?_ 1 _ rfl; (with_reducible repeat (first | refine blk_drewN ?_ _ | refine blk_drew ?_ | refine blk_alloc ?_ _)); refine blk_put (cs := #[.string (⟨#[]⟩ : ByteArray), .int .i64 0, .int .i64 0, .int .i64 0, .int .i64 0, .int .i64 0]) ?_ 0 _ rfl; (with_reducible repeat (first | refine blk_drewN ?_ _ | refine blk_drew ?_ | refine blk_alloc ?_ _)); exact BK269.out⟩
             have n2_ : Aside0 (Below w.heap.size w ((((((w21.setCell ⟨gb269, 0, none⟩ (.string ((rd_T59 l0_1 x30_2).f0))).setCell ⟨gb269, 1, none⟩ (.int .i64 ((rd_T59 l0_1 x30_2).f1))).setCell ⟨gb269, 2, none⟩ (.int .i64 ((rd_T59 l0_1 x30_2).f2))).setCell ⟨gb269, 3, none⟩ (.int .i64 ((rd_T59 l0_1 x30_2).f3))).setCell ⟨gb269, 4, none⟩ (.int .i64 ((rd_T59 l0_1 x30_2).f4))).setCell ⟨gb269, 5, none⟩ (.int .i64 ((rd_T59 l0_1 x30_2).f5)))) := ⟨bZ⟩
             (try clear BK266)
             (try clear BK269)
             (try clear HB)
             generalize ((((((w21.setCell ⟨gb269, 0, none⟩ (.string ((rd_T59 l0_1 x30_2).f0))).setCell ⟨gb269, 1, none⟩ (.int .i64 ((rd_T59 l0_1 x30_2).f1))).setCell ⟨gb269, 2, none⟩ (.int .i64 ((rd_T59 l0_1 x30_2).f2))).setCell ⟨gb269, 3, none⟩ (.int .i64 ((rd_T59 l0_1 x30_2).f3))).setCell ⟨gb269, 4, none⟩ (.int .i64 ((rd_T59 l0_1 x30_2).f4))).setCell ⟨gb269, 5, none⟩ (.int .i64 ((rd_T59 l0_1 x30_2).f5))) = w36 at n0_ n1_ n2_ ⊢
             have BK266 := n0_
             have BK269 := n1_
             have HB := n2_
             clear n0_ n1_ n2_
             have n0_ := Aside0.mk (blk_drew BK266.out)
             have n1_ := Aside0.mk (blk_drew BK269.out)
             have n2_ := Aside0.mk (below_drew1 HB.out)
             clear BK266; clear BK269; clear HB
             have BK266 := n0_
             have BK269 := n1_
             have HB := n2_
             clear n0_ n1_ n2_
             refine start_ (n := 25) (S := fun w' => w'.cell? ⟨gb269, 0, none⟩ = some (.string ((rd_T59 l0_1 x30_2).f0)) ∧ w'.cell? ⟨gb269, 1, none⟩ = some (.int .i64 ((rd_T59 l0_1 x30_2).f1)) ∧ w'.cell? ⟨gb269, 2, none⟩ = some (.int .i64 ((rd_T59 l0_1 x30_2).f2)) ∧ w'.cell? ⟨gb269, 3, none⟩ = some (.int .i64 ((rd_T59 l0_1 x30_2).f3)) ∧ w'.cell? ⟨gb269, 4, none⟩ = some (.int .i64 ((rd_T59 l0_1 x30_2).f4)) ∧ w'.cell? ⟨gb269, 5, none⟩ = some (.int .i64 ((rd_T59 l0_1 x30_2).f5)) ∧ w'.cell? ⟨gb266, 0, none⟩ = some (.slice A0_0 l0_0.length c0_0) ∧ w'.cell? ⟨gb266, 1, none⟩ = some (.slice (some ad268) l0_1.length c0_1)) (ds := []) #[false, false, false, false, false, false, false, false, false, false, false, false, false, false, false, false, false, false, false, false, false, false, false, false, false] (by kernel_rfl) rfl rfl ⟨(blk_cell BK269.out 0).trans rfl, (blk_cell BK269.out 1).trans rfl, (blk_cell BK269.out 2).trans rfl, (blk_cell BK269.out 3).trans rfl, (blk_cell BK269.out 4).trans rfl, (blk_cell BK269.out 5).trans rfl, (blk_cell BK266.out 0).trans rfl, (blk_cell BK266.out 1).trans rfl⟩ (fun hHeld => ?_); refine with_tabW impl_ValidNetwork.tab6 impl_ValidNetwork.bits6 (fun HT_ HW_ => ?_)
             generalize w36.drew = w37 at BK266 BK269 HB hHeld ⊢
             refine take_ (i := 0) (N := some 35) (v := ?_) (a' := ?_) #[true, false, false, false, false, false, false, false, false, false, false, false, false, false, false, false, false, false, false, false, false, false, false, false, false] rfl rfl (take_ofW HT_.out HW_.out (by kernel_rfl)) (fun _ _ _ h => h) (Or.inl ⟨by rfl, ?_⟩) hHeld ?_ ?_
             rotate_left
             ·rintro w' ⟨s0, s1, s2, s3, s4, s5, s6, s7⟩
              go_simp
              with_reducible rfl
             rotate_left
             ·simp only [Act.put, List.setIfInBounds_toArray, List.set_cons_zero, List.set_cons_succ, i64_w, i32_w]
              rfl
             refine one_ (i := 1) (N := some 36) #[true, true, false, false, false, false, false, false, false, false, false, false, false, false, false, false, false, false, false, false, false, false, false, false, false] rfl rfl (one_of HT_.out (by kernel_rfl)) (by decide) (fun K hK => ?_)
             refine goes_ Try.func40 (by kernel_rfl) rfl #[.agg #[.string ((rd_T59 l0_1 x30_2).f0), .int .i64 ((rd_T59 l0_1 x30_2).f1), .int .i64 ((rd_T59 l0_1 x30_2).f2), .int .i64 ((rd_T59 l0_1 x30_2).f3), .int .i64 ((rd_T59 l0_1 x30_2).f4), .int .i64 ((rd_T59 l0_1 x30_2).f5)]] (by rfl) rfl rfl gZ ?_
             with_reducible refine (impl_ValidPipe.calls k2 ((rd_T59 l0_1 x30_2).f0) ((rd_T59 l0_1 x30_2).f1) ((rd_T59 l0_1 x30_2).f2) ((rd_T59 l0_1 x30_2).f3) ((rd_T59 l0_1 x30_2).f4) ((rd_T59 l0_1 x30_2).f5) true _ A24.out).mono ?_
             rintro e w38 ⟨rfl, hb⟩
             refine ⟨_, rfl, ?_⟩
             have n0_ := Aside0.mk (blk_below (g := gb266) (o := .cells #[.slice A0_0 l0_0.length c0_0, .slice (some ad268) l0_1.length c0_1] 31 (0, 0)) (kZ BK266.out) hb)
             have n1_ := Aside0.mk (blk_below (g := gb269) (o := .cells #[.string ((rd_T59 l0_1 x30_2).f0), .int .i64 ((rd_T59 l0_1 x30_2).f1), .int .i64 ((rd_T59 l0_1 x30_2).f2), .int .i64 ((rd_T59 l0_1 x30_2).f3), .int .i64 ((rd_T59 l0_1 x30_2).f4), .int .i64 ((rd_T59 l0_1 x30_2).f5)] 59 (0, 0)) (kZ BK269.out) hb)
             have n2_ := Aside0.mk (below_step bZ hb)
             clear BK266; clear BK269; clear HB
             have BK266 := n0_
             have BK269 := n1_
             have HB := n2_
             clear n0_ n1_ n2_
             (try clear hb)
             (try clear hb2)
             (try clear hk)
             (try clear hi)
             refine hK.out _ _ ⟨(blk_cell BK269.out 0).trans rfl, (blk_cell BK269.out 1).trans rfl, (blk_cell BK269.out 2).trans rfl, (blk_cell BK269.out 3).trans rfl, (blk_cell BK269.out 4).trans rfl, (blk_cell BK269.out 5).trans rfl, (blk_cell BK266.out 0).trans rfl, (blk_cell BK266.out 1).trans rfl⟩ (fun hHeld => ?_)
             clear hK K
             refine norm_ (a' := ?_) ?_ ?_
             rotate_left
             ·show Act.put _ (some 36) _ = _
              simp only [Act.put, List.setIfInBounds_toArray, List.set_cons_zero, List.set_cons_succ, i64_w, i32_w]
              rfl
             refine puZ 2 (some 37) #[true, true, true, false, false, false, false, false, false, false, false, false, false, false, false, false, false, false, false, false, false, false, false, false, false] rfl rfl HT_.out ?_
             refine puZ 3 (some 38) #[true, true, true, true, false, false, false, false, false, false, false, false, false, false, false, false, false, false, false, false, false, false, false, false, false] rfl rfl HT_.out ?_
             refine take_ (i := 4) (N := some 39) (v := ?_) (a' := ?_) #[true, true, true, true, true, false, false, false, false, false, false, false, false, false, false, false, false, false, false, false, false, false, false, false, false] rfl rfl (take_ofW HT_.out HW_.out (by kernel_rfl)) (fun _ _ _ h => h) (Or.inl ⟨by rfl, ?_⟩) hHeld ?_ ?_
             rotate_left
             ·rintro w' ⟨s0, s1, s2, s3, s4, s5, s6, s7⟩
              go_simp
              with_reducible rfl
             rotate_left
             ·simp only [Act.put, List.setIfInBounds_toArray, List.set_cons_zero, List.set_cons_succ, i64_w, i32_w]
              rfl
             refine take_ (i := 5) (N := some 40) (v := ?_) (a' := ?_) #[true, true, true, true, true, true, false, false, false, false, false, false, false, false, false, false, false, false, false, false, false, false, false, false, false] rfl rfl (take_ofW HT_.out HW_.out (by kernel_rfl)) (fun _ _ _ h => h) (Or.inl ⟨by rfl, ?_⟩) hHeld ?_ ?_
             rotate_left
             ·rintro w' ⟨s0, s1, s2, s3, s4, s5, s6, s7⟩
              go_simp
              with_reducible rfl
             rotate_left
             ·simp only [Act.put, List.setIfInBounds_toArray, List.set_cons_zero, List.set_cons_succ, i64_w, i32_w]
              rfl
             refine one_ (i := 6) (N := some 41) #[true, true, true, true, true, true, true, false, false, false, false, false, false, false, false, false, false, false, false, false, false, false, false, false, false] rfl rfl (one_of HT_.out (by kernel_rfl)) (by decide) (fun K hK => ?_)
             refine goes_ Try.func41 (by kernel_rfl) rfl #[.agg #[.slice A0_0 l0_0.length c0_0, .slice (some ad268) l0_1.length c0_1], .agg #[.string ((rd_T59 l0_1 x30_2).f0), .int .i64 ((rd_T59 l0_1 x30_2).f1), .int .i64 ((rd_T59 l0_1 x30_2).f2), .int .i64 ((rd_T59 l0_1 x30_2).f3), .int .i64 ((rd_T59 l0_1 x30_2).f4), .int .i64 ((rd_T59 l0_1 x30_2).f5)]] (by rfl) rfl rfl gZ ?_
             with_reducible refine (impl_Network_hasEnds.calls _ _ l0_0 _ _ l0_1 ((rd_T59 l0_1 x30_2).f0) ((rd_T59 l0_1 x30_2).f1) ((rd_T59 l0_1 x30_2).f2) ((rd_T59 l0_1 x30_2).f3) ((rd_T59 l0_1 x30_2).f4) ((rd_T59 l0_1 x30_2).f5) true _ ?side1 ?side2 ?side3 ?side4 A26.out).mono ?_
             (case side1 => repeat (first | exact (Kd.C_below HR0_0.out HB.out) | (with_reducible refine Kd.C_alloc ?_ _) | (with_reducible refine Kd.C_drewN ?_ _) | (with_reducible refine Kd.C_drew ?_)))
             (case side2 => exact HC0_0.out)
             (case side3 => repeat (first | exact (Kd.C_below HR0_1.out HB.out) | (with_reducible refine Kd.C_alloc ?_ _) | (with_reducible refine Kd.C_drewN ?_ _) | (with_reducible refine Kd.C_drew ?_)))
             (case side4 => exact HC0_1.out)
             rintro e w39 ⟨rfl, hb⟩
             refine ⟨_, rfl, ?_⟩
             have n0_ := Aside0.mk (blk_below (g := gb266) (o := .cells #[.slice A0_0 l0_0.length c0_0, .slice (some ad268) l0_1.length c0_1] 31 (0, 0)) (kZ BK266.out) hb)
             have n1_ := Aside0.mk (blk_below (g := gb269) (o := .cells #[.string ((rd_T59 l0_1 x30_2).f0), .int .i64 ((rd_T59 l0_1 x30_2).f1), .int .i64 ((rd_T59 l0_1 x30_2).f2), .int .i64 ((rd_T59 l0_1 x30_2).f3), .int .i64 ((rd_T59 l0_1 x30_2).f4), .int .i64 ((rd_T59 l0_1 x30_2).f5)] 59 (0, 0)) (kZ BK269.out) hb)
             have n2_ := Aside0.mk (below_step bZ hb)
             clear BK266; clear BK269; clear HB
             have BK266 := n0_
             have BK269 := n1_
             have HB := n2_
             clear n0_ n1_ n2_
             (try clear hb)
             (try clear hb2)
             (try clear hk)
             (try clear hi)
             refine hK.out _ _ ⟨(blk_cell BK269.out 0).trans rfl, (blk_cell BK269.out 1).trans rfl, (blk_cell BK269.out 2).trans rfl, (blk_cell BK269.out 3).trans rfl, (blk_cell BK269.out 4).trans rfl, (blk_cell BK269.out 5).trans rfl, (blk_cell BK266.out 0).trans rfl, (blk_cell BK266.out 1).trans rfl⟩ (fun hHeld => ?_)
             clear hK K
             refine norm_ (a' := ?_) ?_ ?_
             rotate_left
             ·show Act.put _ (some 41) _ = _
              simp only [Act.put, List.setIfInBounds_toArray, List.set_cons_zero, List.set_cons_succ, i64_w, i32_w]
              rfl
             refine puZ 7 (some 42) #[true, true, true, true, true, true, true, true, false, false, false, false, false, false, false, false, false, false, false, false, false, false, false, false, false] rfl rfl HT_.out ?_
             refine puZ 8 (some 43) #[true, true, true, true, true, true, true, true, true, false, false, false, false, false, false, false, false, false, false, false, false, false, false, false, false] rfl rfl HT_.out ?_
             refine puZ 9 (some 44) #[true, true, true, true, true, true, true, true, true, true, false, false, false, false, false, false, false, false, false, false, false, false, false, false, false] rfl rfl HT_.out ?_
             refine puZ 10 (some 45) #[true, true, true, true, true, true, true, true, true, true, true, false, false, false, false, false, false, false, false, false, false, false, false, false, false] rfl rfl HT_.out ?_
             refine puZ 11 (some 46) #[true, true, true, true, true, true, true, true, true, true, true, true, false, false, false, false, false, false, false, false, false, false, false, false, false] rfl rfl HT_.out ?_
             refine puZ 12 (some 47) #[true, true, true, true, true, true, true, true, true, true, true, true, true, false, false, false, false, false, false, false, false, false, false, false, false] rfl rfl HT_.out ?_
             refine pure_ (i := 13) (N := some 48) (v := undef) (a' := ?_) #[true, true, true, true, true, true, true, true, true, true, true, true, true, true, false, false, false, false, false, false, false, false, false, false, false] rfl rfl (any_of HT_.out (by kernel_rfl)) (fun _ _ _ h => h) (Or.inr ⟨by rfl, rfl⟩) ?_ ?_
             rotate_left
             ·simp only [Act.put, List.setIfInBounds_toArray, List.set_cons_zero, List.set_cons_succ, i64_w, i32_w]
              rfl
             refine pure_ (i := 14) (N := some 49) (v := undef) (a' := ?_) #[true, true, true, true, true, true, true, true, true, true, true, true, true, true, true, false, false, false, false, false, false, false, false, false, false] rfl rfl (any_of HT_.out (by kernel_rfl)) (fun _ _ _ h => h) (Or.inr ⟨by rfl, rfl⟩) ?_ ?_
             rotate_left
             ·simp only [Act.put, List.setIfInBounds_toArray, List.set_cons_zero, List.set_cons_succ, i64_w, i32_w]
              rfl
             refine pure_ (i := 15) (N := some 50) (v := undef) (a' := ?_) #[true, true, true, true, true, true, true, true, true, true, true, true, true, true, true, true, false, false, false, false, false, false, false, false, false] rfl rfl (any_of HT_.out (by kernel_rfl)) (fun _ _ _ h => h) (Or.inr ⟨by rfl, rfl⟩) ?_ ?_
             rotate_left
             ·simp only [Act.put, List.setIfInBounds_toArray, List.set_cons_zero, List.set_cons_succ, i64_w, i32_w]
              rfl
             refine pure_ (i := 16) (N := some 51) (v := undef) (a' := ?_) #[true, true, true, true, true, true, true, true, true, true, true, true, true, true, true, true, true, false, false, false, false, false, false, false, false] rfl rfl (any_of HT_.out (by kernel_rfl)) (fun _ _ _ h => h) (Or.inr ⟨by rfl, rfl⟩) ?_ ?_
             rotate_left
             ·simp only [Act.put, List.setIfInBounds_toArray, List.set_cons_zero, List.set_cons_succ, i64_w, i32_w]
              rfl
             refine pure_ (i := 17) (N := some 52) (v := undef) (a' := ?_) #[true, true, true, true, true, true, true, true, true, true, true, true, true, true, true, true, true, true, false, false, false, false, false, false, false] rfl rfl (any_of HT_.out (by kernel_rfl)) (fun _ _ _ h => h) (Or.inr ⟨by rfl, rfl⟩) ?_ ?_
             rotate_left
             ·simp only [Act.put, List.setIfInBounds_toArray, List.set_cons_zero, List.set_cons_succ, i64_w, i32_w]
              rfl
             refine pure_ (i := 18) (N := some 53) (v := undef) (a' := ?_) #[true, true, true, true, true, true, true, true, true, true, true, true, true, true, true, true, true, true, true, false, false, false, false, false, false] rfl rfl (any_of HT_.out (by kernel_rfl)) (fun _ _ _ h => h) (Or.inr ⟨by rfl, rfl⟩) ?_ ?_
             rotate_left
             ·simp only [Act.put, List.setIfInBounds_toArray, List.set_cons_zero, List.set_cons_succ, i64_w, i32_w]
              rfl
             refine pure_ (i := 19) (N := some 54) (v := undef) (a' := ?_) #[true, true, true, true, true, true, true, true, true, true, true, true, true, true, true, true, true, true, true, true, false, false, false, false, false] rfl rfl (any_of HT_.out (by kernel_rfl)) (fun _ _ _ h => h) (Or.inr ⟨by rfl, rfl⟩) ?_ ?_
             rotate_left
             ·simp only [Act.put, List.setIfInBounds_toArray, List.set_cons_zero, List.set_cons_succ, i64_w, i32_w]
              rfl
             refine pure_ (i := 20) (N := some 55) (v := undef) (a' := ?_) #[true, true, true, true, true, true, true, true, true, true, true, true, true, true, true, true, true, true, true, true, true, false, false, false, false] rfl rfl (any_of HT_.out (by kernel_rfl)) (fun _ _ _ h => h) (Or.inr ⟨by rfl, rfl⟩) ?_ ?_
             rotate_left
             ·simp only [Act.put, List.setIfInBounds_toArray, List.set_cons_zero, List.set_cons_succ, i64_w, i32_w]
              rfl
             refine pure_ (i := 21) (N := some 56) (v := undef) (a' := ?_) #[true, true, true, true, true, true, true, true, true, true, true, true, true, true, true, true, true, true, true, true, true, true, false, false, false] rfl rfl (any_of HT_.out (by kernel_rfl)) (fun _ _ _ h => h) (Or.inr ⟨by rfl, rfl⟩) ?_ ?_
             rotate_left
             ·simp only [Act.put, List.setIfInBounds_toArray, List.set_cons_zero, List.set_cons_succ, i64_w, i32_w]
              rfl
             refine pure_ (i := 22) (N := some 57) (v := undef) (a' := ?_) #[true, true, true, true, true, true, true, true, true, true, true, true, true, true, true, true, true, true, true, true, true, true, true, false, false] rfl rfl (any_of HT_.out (by kernel_rfl)) (fun _ _ _ h => h) (Or.inr ⟨by rfl, rfl⟩) ?_ ?_
             rotate_left
             ·simp only [Act.put, List.setIfInBounds_toArray, List.set_cons_zero, List.set_cons_succ, i64_w, i32_w]
              rfl
             refine puZ 23 (some 58) #[true, true, true, true, true, true, true, true, true, true, true, true, true, true, true, true, true, true, true, true, true, true, true, true, false] rfl rfl HT_.out ?_
             refine puZ 24 (some 59) #[true, true, true, true, true, true, true, true, true, true, true, true, true, true, true, true, true, true, true, true, true, true, true, true, true] rfl rfl HT_.out ?_
             refine done_ (done_of HT_.out (by kernel_rfl)) ?_
             try go_wp2
             go_meet
             case rel => exact ⟨_, (false), sZ, H', ⟨by have := HJ1.out; have := HK2.out; first | omega | exact Nat.le_refl _⟩, ⟨kZ BK266.out⟩, ⟨kZ BK269.out⟩, ⟨bZ⟩⟩
           ·replace c27 := Bool.eq_false_iff.mpr c27
            subst c27
            have H1 : (impl_ValidNetwork.j2 k2 l0_1 (l0_1.length : Int) x30_2 true l0_0 l0_1) = some r := by rw [if_neg (show ¬ (false = true) by decide)] at H; exact H
            clear H
            have H := H1
            clear H1
            have H' := Aside0.mk H
            clear H
            try go_wp2
            have n0_ : Aside0 (((((((w21.setCell ⟨gb269, 0, none⟩ (.string ((rd_T59 l0_1 x30_2).f0))).setCell ⟨gb269, 1, none⟩ (.int .i64 ((rd_T59 l0_1 x30_2).f1))).setCell ⟨gb269, 2, none⟩ (.int .i64 ((rd_T59 l0_1 x30_2).f2))).setCell ⟨gb269, 3, none⟩ (.int .i64 ((rd_T59 l0_1 x30_2).f3))).setCell ⟨gb269, 4, none⟩ (.int .i64 ((rd_T59 l0_1 x30_2).f4))).setCell ⟨gb269, 5, none⟩ (.int .i64 ((rd_T59 l0_1 x30_2).f5))).heap[gb266]? = some (.cells #[.slice A0_0 l0_0.length c0_0, .slice (some ad268) l0_1.length c0_1] 31 (0, 0))) := ⟨by (with_reducible repeat (first | refine blk_drewN ?_ _ | refine blk_drew ?_ | refine blk_alloc ?_ _)); refine blk_far ?_ NB266_269.out _; (with_reducible repeat (first | refine blk_drewN ?_ _ | refine blk_drew ?_ | refine blk_alloc ?_ _)); refine blk_far ?_ NB266_269.out _; (with_reducible repeat (first | refine blk_drewN ?_ _ | refine blk_drew ?_ | refine blk_alloc ?_ _)); refine blk_far ?_ NB266_269.out _; (with_reducible repeat (first | refine blk_drewN ?_ _ | refine blk_drew ?_ | refine blk_alloc ?_ _)); refine blk_far ?_ NB266_269.out _; (with_reducible repeat (first | refine blk_drewN ?_ _ | refine blk_drew ?_ | refine blk_alloc ?_ _)); refine blk_far ?_ NB266_269.out _; (with_reducible repeat (first | refine blk_drewN ?_ _ | refine blk_drew ?_ | refine blk_alloc ?_ _)); refine blk_far ?_ NB266_269.out _; (with_reducible repeat (first | refine blk_drewN ?_ _ | refine blk_drew ?_ | refine blk_alloc ?_ _)); exact BK266.out⟩
            have n1_ : Aside0 (((((((w21.setCell ⟨gb269, 0, none⟩ (.string ((rd_T59 l0_1 x30_2).f0))).setCell ⟨gb269, 1, none⟩ (.int .i64 ((rd_T59 l0_1 x30_2).f1))).setCell ⟨gb269, 2, none⟩ (.int .i64 ((rd_T59 l0_1 x30_2).f2))).setCell ⟨gb269, 3, none⟩ (.int .i64 ((rd_T59 l0_1 x30_2).f3))).setCell ⟨gb269, 4, none⟩ (.int .i64 ((rd_T59 l0_1 x30_2).f4))).setCell ⟨gb269, 5, none⟩ (.int .i64 ((rd_T59 l0_1 x30_2).f5))).heap[gb269]? = some (.cells #[.string ((rd_T59 l0_1 x30_2).f0), .int .i64 ((rd_T59 l0_1 x30_2).f1), .int .i64 ((rd_T59 l0_1 x30_2).f2), .int .i64 ((rd_T59 l0_1 x30_2).f3), .int .i64 ((rd_T59 l0_1 x30_2).f4), .int .i64 ((rd_T59 l0_1 x30_2).f5)] 59 (0, 0))) := ⟨by (with_reducible repeat (first | refine blk_drewN ?_ _ | refine blk_drew ?_ | refine blk_alloc ?_ _)); refine blk_put (cs := #[.string ((rd_T59 l0_1 x30_2).f0), .int .i64 ((rd_T59 l0_1 x30_2).f1), .int .i64 ((rd_T59 l0_1 x30_2).f2), .int .i64 ((rd_T59 l0_1 x30_2).f3), .int .i64 ((rd_T59 l0_1 x30_2).f4), .int .i64 0]) ?_ 5 _ rfl; (with_reducible repeat (first | refine blk_drewN ?_ _ | refine blk_drew ?_ | refine blk_alloc ?_ _)); refine blk_put (cs := #[.string ((rd_T59 l0_1 x30_2).f0), .int .i64 ((rd_T59 l0_1 x30_2).f1), .int .i64 ((rd_T59 l0_1 x30_2).f2), .int .i64 ((rd_T59 l0_1 x30_2).f3), .int .i64 0, .int .i64 0]) ?_ 4 _ rfl; (with_reducible repeat (first | refine blk_drewN ?_ _ | refine blk_drew ?_ | refine blk_alloc ?_ _)); refine blk_put (cs := #[.string ((rd_T59 l0_1 x30_2).f0), .int .i64 ((rd_T59 l0_1 x30_2).f1), .int .i64 ((rd_T59 l0_1 x30_2).f2), .int .i64 0, .int .i64 0, .int .i64 0]) ?_ 3 _ rfl; (with_reducible repeat (first | refine blk_drewN ?_ _ | refine blk_drew ?_ | refine blk_alloc ?_ _)); refine blk_put (cs := #[.string ((rd_T59 l0_1 x30_2).f0), .int .i64 ((rd_T59 l0_1 x30_2).f1), .int .i64 0, .int .i64 0, .int .i64 0, .int .i64 0]) ?_ 2 _ rfl; (with_reducible repeat (first | refine blk_drewN ?_ _ | refine blk_drew ?_ | refine blk_alloc ?_ _)); refine blk_put (cs := #[.string ((rd_T59 l0_1 x30_2).f0), .int .i64 0, .int .i64 0, .int .i64 0, .int .i64 0, .int .i64 0]) ?_ 1 _ rfl; (with_reducible repeat (first | refine blk_drewN ?_ _ | refine blk_drew ?_ | refine blk_alloc ?_ _)); refine blk_put (cs := #[.string (⟨#[]⟩ : ByteArray), .int .i64 0, .int .i64 0, .int .i64 0, .int .i64 0, .int .i64 0]) ?_ 0 _ rfl; (with_reducible repeat (first | refine blk_drewN ?_ _ | refine blk_drew ?_ | refine blk_alloc ?_ _)); exact BK269.out⟩
            have n2_ : Aside0 (Below w.heap.size w ((((((w21.setCell ⟨gb269, 0, none⟩ (.string ((rd_T59 l0_1 x30_2).f0))).setCell ⟨gb269, 1, none⟩ (.int .i64 ((rd_T59 l0_1 x30_2).f1))).setCell ⟨gb269, 2, none⟩ (.int .i64 ((rd_T59 l0_1 x30_2).f2))).setCell ⟨gb269, 3, none⟩ (.int .i64 ((rd_T59 l0_1 x30_2).f3))).setCell ⟨gb269, 4, none⟩ (.int .i64 ((rd_T59 l0_1 x30_2).f4))).setCell ⟨gb269, 5, none⟩ (.int .i64 ((rd_T59 l0_1 x30_2).f5)))) := ⟨bZ⟩
            (try clear BK266)
            (try clear BK269)
            (try clear HB)
            generalize ((((((w21.setCell ⟨gb269, 0, none⟩ (.string ((rd_T59 l0_1 x30_2).f0))).setCell ⟨gb269, 1, none⟩ (.int .i64 ((rd_T59 l0_1 x30_2).f1))).setCell ⟨gb269, 2, none⟩ (.int .i64 ((rd_T59 l0_1 x30_2).f2))).setCell ⟨gb269, 3, none⟩ (.int .i64 ((rd_T59 l0_1 x30_2).f3))).setCell ⟨gb269, 4, none⟩ (.int .i64 ((rd_T59 l0_1 x30_2).f4))).setCell ⟨gb269, 5, none⟩ (.int .i64 ((rd_T59 l0_1 x30_2).f5))) = w40 at n0_ n1_ n2_ ⊢
            have BK266 := n0_
            have BK269 := n1_
            have HB := n2_
            clear n0_ n1_ n2_
            have n0_ := Aside0.mk (blk_drew BK266.out)
            have n1_ := Aside0.mk (blk_drew BK269.out)
            have n2_ := Aside0.mk (below_drew1 HB.out)
            clear BK266; clear BK269; clear HB
            have BK266 := n0_
            have BK269 := n1_
            have HB := n2_
            clear n0_ n1_ n2_
            refine start_ (n := 25) (S := fun w' => w'.cell? ⟨gb269, 0, none⟩ = some (.string ((rd_T59 l0_1 x30_2).f0)) ∧ w'.cell? ⟨gb269, 1, none⟩ = some (.int .i64 ((rd_T59 l0_1 x30_2).f1)) ∧ w'.cell? ⟨gb269, 2, none⟩ = some (.int .i64 ((rd_T59 l0_1 x30_2).f2)) ∧ w'.cell? ⟨gb269, 3, none⟩ = some (.int .i64 ((rd_T59 l0_1 x30_2).f3)) ∧ w'.cell? ⟨gb269, 4, none⟩ = some (.int .i64 ((rd_T59 l0_1 x30_2).f4)) ∧ w'.cell? ⟨gb269, 5, none⟩ = some (.int .i64 ((rd_T59 l0_1 x30_2).f5)) ∧ w'.cell? ⟨gb266, 0, none⟩ = some (.slice A0_0 l0_0.length c0_0) ∧ w'.cell? ⟨gb266, 1, none⟩ = some (.slice (some ad268) l0_1.length c0_1)) (ds := []) #[false, false, false, false, false, false, false, false, false, false, false, false, false, false, false, false, false, false, false, false, false, false, false, false, false] (by kernel_rfl) rfl rfl ⟨(blk_cell BK269.out 0).trans rfl, (blk_cell BK269.out 1).trans rfl, (blk_cell BK269.out 2).trans rfl, (blk_cell BK269.out 3).trans rfl, (blk_cell BK269.out 4).trans rfl, (blk_cell BK269.out 5).trans rfl, (blk_cell BK266.out 0).trans rfl, (blk_cell BK266.out 1).trans rfl⟩ (fun hHeld => ?_); refine with_tabW impl_ValidNetwork.tab6 impl_ValidNetwork.bits6 (fun HT_ HW_ => ?_)
            generalize w40.drew = w41 at BK266 BK269 HB hHeld ⊢
            refine take_ (i := 0) (N := some 35) (v := ?_) (a' := ?_) #[true, false, false, false, false, false, false, false, false, false, false, false, false, false, false, false, false, false, false, false, false, false, false, false, false] rfl rfl (take_ofW HT_.out HW_.out (by kernel_rfl)) (fun _ _ _ h => h) (Or.inl ⟨by rfl, ?_⟩) hHeld ?_ ?_
            rotate_left
            ·rintro w' ⟨s0, s1, s2, s3, s4, s5, s6, s7⟩
             go_simp
             with_reducible rfl
            rotate_left
            ·simp only [Act.put, List.setIfInBounds_toArray, List.set_cons_zero, List.set_cons_succ, i64_w, i32_w]
             rfl
            refine one_ (i := 1) (N := some 36) #[true, true, false, false, false, false, false, false, false, false, false, false, false, false, false, false, false, false, false, false, false, false, false, false, false] rfl rfl (one_of HT_.out (by kernel_rfl)) (by decide) (fun K hK => ?_)
            refine goes_ Try.func40 (by kernel_rfl) rfl #[.agg #[.string ((rd_T59 l0_1 x30_2).f0), .int .i64 ((rd_T59 l0_1 x30_2).f1), .int .i64 ((rd_T59 l0_1 x30_2).f2), .int .i64 ((rd_T59 l0_1 x30_2).f3), .int .i64 ((rd_T59 l0_1 x30_2).f4), .int .i64 ((rd_T59 l0_1 x30_2).f5)]] (by rfl) rfl rfl gZ ?_
            with_reducible refine (impl_ValidPipe.calls k2 ((rd_T59 l0_1 x30_2).f0) ((rd_T59 l0_1 x30_2).f1) ((rd_T59 l0_1 x30_2).f2) ((rd_T59 l0_1 x30_2).f3) ((rd_T59 l0_1 x30_2).f4) ((rd_T59 l0_1 x30_2).f5) true _ A24.out).mono ?_
            rintro e w42 ⟨rfl, hb⟩
            refine ⟨_, rfl, ?_⟩
            have n0_ := Aside0.mk (blk_below (g := gb266) (o := .cells #[.slice A0_0 l0_0.length c0_0, .slice (some ad268) l0_1.length c0_1] 31 (0, 0)) (kZ BK266.out) hb)
            have n1_ := Aside0.mk (blk_below (g := gb269) (o := .cells #[.string ((rd_T59 l0_1 x30_2).f0), .int .i64 ((rd_T59 l0_1 x30_2).f1), .int .i64 ((rd_T59 l0_1 x30_2).f2), .int .i64 ((rd_T59 l0_1 x30_2).f3), .int .i64 ((rd_T59 l0_1 x30_2).f4), .int .i64 ((rd_T59 l0_1 x30_2).f5)] 59 (0, 0)) (kZ BK269.out) hb)
            have n2_ := Aside0.mk (below_step bZ hb)
            clear BK266; clear BK269; clear HB
            have BK266 := n0_
            have BK269 := n1_
            have HB := n2_
            clear n0_ n1_ n2_
            (try clear hb)
            (try clear hb2)
            (try clear hk)
            (try clear hi)
            refine hK.out _ _ ⟨(blk_cell BK269.out 0).trans rfl, (blk_cell BK269.out 1).trans rfl, (blk_cell BK269.out 2).trans rfl, (blk_cell BK269.out 3).trans rfl, (blk_cell BK269.out 4).trans rfl, (blk_cell BK269.out 5).trans rfl, (blk_cell BK266.out 0).trans rfl, (blk_cell BK266.out 1).trans rfl⟩ (fun hHeld => ?_)
            clear hK K
            refine norm_ (a' := ?_) ?_ ?_
            rotate_left
            ·show Act.put _ (some 36) _ = _
             simp only [Act.put, List.setIfInBounds_toArray, List.set_cons_zero, List.set_cons_succ, i64_w, i32_w]
             rfl
            refine puZ 2 (some 37) #[true, true, true, false, false, false, false, false, false, false, false, false, false, false, false, false, false, false, false, false, false, false, false, false, false] rfl rfl HT_.out ?_
            refine puZ 3 (some 38) #[true, true, true, true, false, false, false, false, false, false, false, false, false, false, false, false, false, false, false, false, false, false, false, false, false] rfl rfl HT_.out ?_
            refine take_ (i := 4) (N := some 39) (v := ?_) (a' := ?_) #[true, true, true, true, true, false, false, false, false, false, false, false, false, false, false, false, false, false, false, false, false, false, false, false, false] rfl rfl (take_ofW HT_.out HW_.out (by kernel_rfl)) (fun _ _ _ h => h) (Or.inl ⟨by rfl, ?_⟩) hHeld ?_ ?_
            rotate_left
            ·rintro w' ⟨s0, s1, s2, s3, s4, s5, s6, s7⟩
             go_simp
             with_reducible rfl
            rotate_left
            ·simp only [Act.put, List.setIfInBounds_toArray, List.set_cons_zero, List.set_cons_succ, i64_w, i32_w]
             rfl
            refine take_ (i := 5) (N := some 40) (v := ?_) (a' := ?_) #[true, true, true, true, true, true, false, false, false, false, false, false, false, false, false, false, false, false, false, false, false, false, false, false, false] rfl rfl (take_ofW HT_.out HW_.out (by kernel_rfl)) (fun _ _ _ h => h) (Or.inl ⟨by rfl, ?_⟩) hHeld ?_ ?_
            rotate_left
            ·rintro w' ⟨s0, s1, s2, s3, s4, s5, s6, s7⟩
             go_simp
             with_reducible rfl
            rotate_left
            ·simp only [Act.put, List.setIfInBounds_toArray, List.set_cons_zero, List.set_cons_succ, i64_w, i32_w]
             rfl
            refine one_ (i := 6) (N := some 41) #[true, true, true, true, true, true, true, false, false, false, false, false, false, false, false, false, false, false, false, false, false, false, false, false, false] rfl rfl (one_of HT_.out (by kernel_rfl)) (by decide) (fun K hK => ?_)
            refine goes_ Try.func41 (by kernel_rfl) rfl #[.agg #[.slice A0_0 l0_0.length c0_0, .slice (some ad268) l0_1.length c0_1], .agg #[.string ((rd_T59 l0_1 x30_2).f0), .int .i64 ((rd_T59 l0_1 x30_2).f1), .int .i64 ((rd_T59 l0_1 x30_2).f2), .int .i64 ((rd_T59 l0_1 x30_2).f3), .int .i64 ((rd_T59 l0_1 x30_2).f4), .int .i64 ((rd_T59 l0_1 x30_2).f5)]] (by rfl) rfl rfl gZ ?_
            with_reducible refine (impl_Network_hasEnds.calls _ _ l0_0 _ _ l0_1 ((rd_T59 l0_1 x30_2).f0) ((rd_T59 l0_1 x30_2).f1) ((rd_T59 l0_1 x30_2).f2) ((rd_T59 l0_1 x30_2).f3) ((rd_T59 l0_1 x30_2).f4) ((rd_T59 l0_1 x30_2).f5) false _ ?side1 ?side2 ?side3 ?side4 A26.out).mono ?_
            (case side1 => repeat (first | exact (Kd.C_below HR0_0.out HB.out) | (with_reducible refine Kd.C_alloc ?_ _) | (with_reducible refine Kd.C_drewN ?_ _) | (with_reducible refine Kd.C_drew ?_)))
            (case side2 => exact HC0_0.out)
            (case side3 => repeat (first | exact (Kd.C_below HR0_1.out HB.out) | (with_reducible refine Kd.C_alloc ?_ _) | (with_reducible refine Kd.C_drewN ?_ _) | (with_reducible refine Kd.C_drew ?_)))
            (case side4 => exact HC0_1.out)
            rintro e w43 ⟨rfl, hb⟩
            refine ⟨_, rfl, ?_⟩
            have n0_ := Aside0.mk (blk_below (g := gb266) (o := .cells #[.slice A0_0 l0_0.length c0_0, .slice (some ad268) l0_1.length c0_1] 31 (0, 0)) (kZ BK266.out) hb)
            have n1_ := Aside0.mk (blk_below (g := gb269) (o := .cells #[.string ((rd_T59 l0_1 x30_2).f0), .int .i64 ((rd_T59 l0_1 x30_2).f1), .int .i64 ((rd_T59 l0_1 x30_2).f2), .int .i64 ((rd_T59 l0_1 x30_2).f3), .int .i64 ((rd_T59 l0_1 x30_2).f4), .int .i64 ((rd_T59 l0_1 x30_2).f5)] 59 (0, 0)) (kZ BK269.out) hb)
            have n2_ := Aside0.mk (below_step bZ hb)
            clear BK266; clear BK269; clear HB
            have BK266 := n0_
            have BK269 := n1_
            have HB := n2_
            clear n0_ n1_ n2_
            (try clear hb)
            (try clear hb2)
            (try clear hk)
            (try clear hi)
            refine hK.out _ _ ⟨(blk_cell BK269.out 0).trans rfl, (blk_cell BK269.out 1).trans rfl, (blk_cell BK269.out 2).trans rfl, (blk_cell BK269.out 3).trans rfl, (blk_cell BK269.out 4).trans rfl, (blk_cell BK269.out 5).trans rfl, (blk_cell BK266.out 0).trans rfl, (blk_cell BK266.out 1).trans rfl⟩ (fun hHeld => ?_)
            clear hK K
            refine norm_ (a' := ?_) ?_ ?_
            rotate_left
            ·show Act.put _ (some 41) _ = _
             simp only [Act.put, List.setIfInBounds_toArray, List.set_cons_zero, List.set_cons_succ, i64_w, i32_w]
             rfl
            refine puZ 7 (some 42) #[true, true, true, true, true, true, true, true, false, false, false, false, false, false, false, false, false, false, false, false, false, false, false, false, false] rfl rfl HT_.out ?_
            refine puZ 8 (some 43) #[true, true, true, true, true, true, true, true, true, false, false, false, false, false, false, false, false, false, false, false, false, false, false, false, false] rfl rfl HT_.out ?_
            refine puZ 9 (some 44) #[true, true, true, true, true, true, true, true, true, true, false, false, false, false, false, false, false, false, false, false, false, false, false, false, false] rfl rfl HT_.out ?_
            refine pure_ (i := 10) (N := some 45) (v := undef) (a' := ?_) #[true, true, true, true, true, true, true, true, true, true, true, false, false, false, false, false, false, false, false, false, false, false, false, false, false] rfl rfl (any_of HT_.out (by kernel_rfl)) (fun _ _ _ h => h) (Or.inr ⟨by rfl, rfl⟩) ?_ ?_
            rotate_left
            ·simp only [Act.put, List.setIfInBounds_toArray, List.set_cons_zero, List.set_cons_succ, i64_w, i32_w]
             rfl
            refine pure_ (i := 11) (N := some 46) (v := undef) (a' := ?_) #[true, true, true, true, true, true, true, true, true, true, true, true, false, false, false, false, false, false, false, false, false, false, false, false, false] rfl rfl (any_of HT_.out (by kernel_rfl)) (fun _ _ _ h => h) (Or.inr ⟨by rfl, rfl⟩) ?_ ?_
            rotate_left
            ·simp only [Act.put, List.setIfInBounds_toArray, List.set_cons_zero, List.set_cons_succ, i64_w, i32_w]
             rfl
            refine pure_ (i := 12) (N := some 47) (v := undef) (a' := ?_) #[true, true, true, true, true, true, true, true, true, true, true, true, true, false, false, false, false, false, false, false, false, false, false, false, false] rfl rfl (any_of HT_.out (by kernel_rfl)) (fun _ _ _ h => h) (Or.inr ⟨by rfl, rfl⟩) ?_ ?_
            rotate_left
            ·simp only [Act.put, List.setIfInBounds_toArray, List.set_cons_zero, List.set_cons_succ, i64_w, i32_w]
             rfl
            refine pure_ (i := 13) (N := some 48) (v := undef) (a' := ?_) #[true, true, true, true, true, true, true, true, true, true, true, true, true, true, false, false, false, false, false, false, false, false, false, false, false] rfl rfl (any_of HT_.out (by kernel_rfl)) (fun _ _ _ h => h) (Or.inr ⟨by rfl, rfl⟩) ?_ ?_
            rotate_left
            ·simp only [Act.put, List.setIfInBounds_toArray, List.set_cons_zero, List.set_cons_succ, i64_w, i32_w]
             rfl
            refine pure_ (i := 14) (N := some 49) (v := undef) (a' := ?_) #[true, true, true, true, true, true, true, true, true, true, true, true, true, true, true, false, false, false, false, false, false, false, false, false, false] rfl rfl (any_of HT_.out (by kernel_rfl)) (fun _ _ _ h => h) (Or.inr ⟨by rfl, rfl⟩) ?_ ?_
            rotate_left
            ·simp only [Act.put, List.setIfInBounds_toArray, List.set_cons_zero, List.set_cons_succ, i64_w, i32_w]
             rfl
            refine pure_ (i := 15) (N := some 50) (v := undef) (a' := ?_) #[true, true, true, true, true, true, true, true, true, true, true, true, true, true, true, true, false, false, false, false, false, false, false, false, false] rfl rfl (any_of HT_.out (by kernel_rfl)) (fun _ _ _ h => h) (Or.inr ⟨by rfl, rfl⟩) ?_ ?_
            rotate_left
            ·simp only [Act.put, List.setIfInBounds_toArray, List.set_cons_zero, List.set_cons_succ, i64_w, i32_w]
             rfl
            refine pure_ (i := 16) (N := some 51) (v := undef) (a' := ?_) #[true, true, true, true, true, true, true, true, true, true, true, true, true, true, true, true, true, false, false, false, false, false, false, false, false] rfl rfl (any_of HT_.out (by kernel_rfl)) (fun _ _ _ h => h) (Or.inr ⟨by rfl, rfl⟩) ?_ ?_
            rotate_left
            ·simp only [Act.put, List.setIfInBounds_toArray, List.set_cons_zero, List.set_cons_succ, i64_w, i32_w]
             rfl
            refine pure_ (i := 17) (N := some 52) (v := undef) (a' := ?_) #[true, true, true, true, true, true, true, true, true, true, true, true, true, true, true, true, true, true, false, false, false, false, false, false, false] rfl rfl (any_of HT_.out (by kernel_rfl)) (fun _ _ _ h => h) (Or.inr ⟨by rfl, rfl⟩) ?_ ?_
            rotate_left
            ·simp only [Act.put, List.setIfInBounds_toArray, List.set_cons_zero, List.set_cons_succ, i64_w, i32_w]
             rfl
            refine pure_ (i := 18) (N := some 53) (v := undef) (a' := ?_) #[true, true, true, true, true, true, true, true, true, true, true, true, true, true, true, true, true, true, true, false, false, false, false, false, false] rfl rfl (any_of HT_.out (by kernel_rfl)) (fun _ _ _ h => h) (Or.inr ⟨by rfl, rfl⟩) ?_ ?_
            rotate_left
            ·simp only [Act.put, List.setIfInBounds_toArray, List.set_cons_zero, List.set_cons_succ, i64_w, i32_w]
             rfl
            refine pure_ (i := 19) (N := some 54) (v := undef) (a' := ?_) #[true, true, true, true, true, true, true, true, true, true, true, true, true, true, true, true, true, true, true, true, false, false, false, false, false] rfl rfl (any_of HT_.out (by kernel_rfl)) (fun _ _ _ h => h) (Or.inr ⟨by rfl, rfl⟩) ?_ ?_
            rotate_left
            ·simp only [Act.put, List.setIfInBounds_toArray, List.set_cons_zero, List.set_cons_succ, i64_w, i32_w]
             rfl
            refine pure_ (i := 20) (N := some 55) (v := undef) (a' := ?_) #[true, true, true, true, true, true, true, true, true, true, true, true, true, true, true, true, true, true, true, true, true, false, false, false, false] rfl rfl (any_of HT_.out (by kernel_rfl)) (fun _ _ _ h => h) (Or.inr ⟨by rfl, rfl⟩) ?_ ?_
            rotate_left
            ·simp only [Act.put, List.setIfInBounds_toArray, List.set_cons_zero, List.set_cons_succ, i64_w, i32_w]
             rfl
            refine pure_ (i := 21) (N := some 56) (v := undef) (a' := ?_) #[true, true, true, true, true, true, true, true, true, true, true, true, true, true, true, true, true, true, true, true, true, true, false, false, false] rfl rfl (any_of HT_.out (by kernel_rfl)) (fun _ _ _ h => h) (Or.inr ⟨by rfl, rfl⟩) ?_ ?_
            rotate_left
            ·simp only [Act.put, List.setIfInBounds_toArray, List.set_cons_zero, List.set_cons_succ, i64_w, i32_w]
             rfl
            refine pure_ (i := 22) (N := some 57) (v := undef) (a' := ?_) #[true, true, true, true, true, true, true, true, true, true, true, true, true, true, true, true, true, true, true, true, true, true, true, false, false] rfl rfl (any_of HT_.out (by kernel_rfl)) (fun _ _ _ h => h) (Or.inr ⟨by rfl, rfl⟩) ?_ ?_
            rotate_left
            ·simp only [Act.put, List.setIfInBounds_toArray, List.set_cons_zero, List.set_cons_succ, i64_w, i32_w]
             rfl
            refine pure_ (i := 23) (N := some 58) (v := undef) (a' := ?_) #[true, true, true, true, true, true, true, true, true, true, true, true, true, true, true, true, true, true, true, true, true, true, true, true, false] rfl rfl (any_of HT_.out (by kernel_rfl)) (fun _ _ _ h => h) (Or.inr ⟨by rfl, rfl⟩) ?_ ?_
            rotate_left
            ·simp only [Act.put, List.setIfInBounds_toArray, List.set_cons_zero, List.set_cons_succ, i64_w, i32_w]
             rfl
            refine puZ 24 (some 59) #[true, true, true, true, true, true, true, true, true, true, true, true, true, true, true, true, true, true, true, true, true, true, true, true, true] rfl rfl HT_.out ?_
            refine done_ (done_of HT_.out (by kernel_rfl)) ?_
            try go_wp2
            go_meet
            case rel => exact ⟨_, (true), sZ, H', ⟨by have := HJ1.out; have := HK2.out; first | omega | exact Nat.le_refl _⟩, ⟨kZ BK266.out⟩, ⟨kZ BK269.out⟩, ⟨bZ⟩⟩
          ·replace c25 := Bool.eq_false_iff.mpr c25
           subst c25
           have H1 : (impl_ValidNetwork.j2 k2 l0_1 (l0_1.length : Int) x30_2 true l0_0 l0_1) = some r := by rw [if_neg (show ¬ (false = true) by decide)] at H; exact H
           clear H
           have H := H1
           clear H1
           have H' := Aside0.mk H
           clear H
           try go_wp2
           have n0_ : Aside0 (((((((w21.setCell ⟨gb269, 0, none⟩ (.string ((rd_T59 l0_1 x30_2).f0))).setCell ⟨gb269, 1, none⟩ (.int .i64 ((rd_T59 l0_1 x30_2).f1))).setCell ⟨gb269, 2, none⟩ (.int .i64 ((rd_T59 l0_1 x30_2).f2))).setCell ⟨gb269, 3, none⟩ (.int .i64 ((rd_T59 l0_1 x30_2).f3))).setCell ⟨gb269, 4, none⟩ (.int .i64 ((rd_T59 l0_1 x30_2).f4))).setCell ⟨gb269, 5, none⟩ (.int .i64 ((rd_T59 l0_1 x30_2).f5))).heap[gb266]? = some (.cells #[.slice A0_0 l0_0.length c0_0, .slice (some ad268) l0_1.length c0_1] 31 (0, 0))) := ⟨by (with_reducible repeat (first | refine blk_drewN ?_ _ | refine blk_drew ?_ | refine blk_alloc ?_ _)); refine blk_far ?_ NB266_269.out _; (with_reducible repeat (first | refine blk_drewN ?_ _ | refine blk_drew ?_ | refine blk_alloc ?_ _)); refine blk_far ?_ NB266_269.out _; (with_reducible repeat (first | refine blk_drewN ?_ _ | refine blk_drew ?_ | refine blk_alloc ?_ _)); refine blk_far ?_ NB266_269.out _; (with_reducible repeat (first | refine blk_drewN ?_ _ | refine blk_drew ?_ | refine blk_alloc ?_ _)); refine blk_far ?_ NB266_269.out _; (with_reducible repeat (first | refine blk_drewN ?_ _ | refine blk_drew ?_ | refine blk_alloc ?_ _)); refine blk_far ?_ NB266_269.out _; (with_reducible repeat (first | refine blk_drewN ?_ _ | refine blk_drew ?_ | refine blk_alloc ?_ _)); refine blk_far ?_ NB266_269.out _; (with_reducible repeat (first | refine blk_drewN ?_ _ | refine blk_drew ?_ | refine blk_alloc ?_ _)); exact BK266.out⟩
           have n1_ : Aside0 (((((((w21.setCell ⟨gb269, 0, none⟩ (.string ((rd_T59 l0_1 x30_2).f0))).setCell ⟨gb269, 1, none⟩ (.int .i64 ((rd_T59 l0_1 x30_2).f1))).setCell ⟨gb269, 2, none⟩ (.int .i64 ((rd_T59 l0_1 x30_2).f2))).setCell ⟨gb269, 3, none⟩ (.int .i64 ((rd_T59 l0_1 x30_2).f3))).setCell ⟨gb269, 4, none⟩ (.int .i64 ((rd_T59 l0_1 x30_2).f4))).setCell ⟨gb269, 5, none⟩ (.int .i64 ((rd_T59 l0_1 x30_2).f5))).heap[gb269]? = some (.cells #[.string ((rd_T59 l0_1 x30_2).f0), .int .i64 ((rd_T59 l0_1 x30_2).f1), .int .i64 ((rd_T59 l0_1 x30_2).f2), .int .i64 ((rd_T59 l0_1 x30_2).f3), .int .i64 ((rd_T59 l0_1 x30_2).f4), .int .i64 ((rd_T59 l0_1 x30_2).f5)] 59 (0, 0))) := ⟨by (with_reducible repeat (first | refine blk_drewN ?_ _ | refine blk_drew ?_ | refine blk_alloc ?_ _)); refine blk_put (cs := #[.string ((rd_T59 l0_1 x30_2).f0), .int .i64 ((rd_T59 l0_1 x30_2).f1), .int .i64 ((rd_T59 l0_1 x30_2).f2), .int .i64 ((rd_T59 l0_1 x30_2).f3), .int .i64 ((rd_T59 l0_1 x30_2).f4), .int .i64 0]) ?_ 5 _ rfl; (with_reducible repeat (first | refine blk_drewN ?_ _ | refine blk_drew ?_ | refine blk_alloc ?_ _)); refine blk_put (cs := #[.string ((rd_T59 l0_1 x30_2).f0), .int .i64 ((rd_T59 l0_1 x30_2).f1), .int .i64 ((rd_T59 l0_1 x30_2).f2), .int .i64 ((rd_T59 l0_1 x30_2).f3), .int .i64 0, .int .i64 0]) ?_ 4 _ rfl; (with_reducible repeat (first | refine blk_drewN ?_ _ | refine blk_drew ?_ | refine blk_alloc ?_ _)); refine blk_put (cs := #[.string ((rd_T59 l0_1 x30_2).f0), .int .i64 ((rd_T59 l0_1 x30_2).f1), .int .i64 ((rd_T59 l0_1 x30_2).f2), .int .i64 0, .int .i64 0, .int .i64 0]) ?_ 3 _ rfl; (with_reducible repeat (first | refine blk_drewN ?_ _ | refine blk_drew ?_ | refine blk_alloc ?_ _)); refine blk_put (cs := #[.string ((rd_T59 l0_1 x30_2).f0), .int .i64 ((rd_T59 l0_1 x30_2).f1), .int .i64 0, .int .i64 0, .int .i64 0, .int .i64 0]) ?_ 2 _ rfl; (with_reducible repeat (first | refine blk_drewN ?_ _ | refine blk_drew ?_ | refine blk_alloc ?_ _)); refine blk_put (cs := #[.string ((rd_T59 l0_1 x30_2).f0), .int .i64 0, .int .i64 0, .int .i64 0, .int .i64 0, .int .i64 0]) ?_ 1 _ rfl; (with_reducible repeat (first | refine blk_drewN ?_ _ | refine blk_drew ?_ | refine blk_alloc ?_ _)); refine blk_put (cs := #[.string (⟨#[]⟩ : ByteArray), .int .i64 0, .int .i64 0, .int .i64 0, .int .i64 0, .int .i64 0]) ?_ 0 _ rfl; (with_reducible repeat (first | refine blk_drewN ?_ _ | refine blk_drew ?_ | refine blk_alloc ?_ _)); exact BK269.out⟩
           have n2_ : Aside0 (Below w.heap.size w ((((((w21.setCell ⟨gb269, 0, none⟩ (.string ((rd_T59 l0_1 x30_2).f0))).setCell ⟨gb269, 1, none⟩ (.int .i64 ((rd_T59 l0_1 x30_2).f1))).setCell ⟨gb269, 2, none⟩ (.int .i64 ((rd_T59 l0_1 x30_2).f2))).setCell ⟨gb269, 3, none⟩ (.int .i64 ((rd_T59 l0_1 x30_2).f3))).setCell ⟨gb269, 4, none⟩ (.int .i64 ((rd_T59 l0_1 x30_2).f4))).setCell ⟨gb269, 5, none⟩ (.int .i64 ((rd_T59 l0_1 x30_2).f5)))) := ⟨bZ⟩
           (try clear BK266)
           (try clear BK269)
           (try clear HB)
           generalize ((((((w21.setCell ⟨gb269, 0, none⟩ (.string ((rd_T59 l0_1 x30_2).f0))).setCell ⟨gb269, 1, none⟩ (.int .i64 ((rd_T59 l0_1 x30_2).f1))).setCell ⟨gb269, 2, none⟩ (.int .i64 ((rd_T59 l0_1 x30_2).f2))).setCell ⟨gb269, 3, none⟩ (.int .i64 ((rd_T59 l0_1 x30_2).f3))).setCell ⟨gb269, 4, none⟩ (.int .i64 ((rd_T59 l0_1 x30_2).f4))).setCell ⟨gb269, 5, none⟩ (.int .i64 ((rd_T59 l0_1 x30_2).f5))) = w44 at n0_ n1_ n2_ ⊢
           have BK266 := n0_
           have BK269 := n1_
           have HB := n2_
           clear n0_ n1_ n2_
           have n0_ := Aside0.mk (blk_drew BK266.out)
           have n1_ := Aside0.mk (blk_drew BK269.out)
           have n2_ := Aside0.mk (below_drew1 HB.out)
           clear BK266; clear BK269; clear HB
           have BK266 := n0_
           have BK269 := n1_
           have HB := n2_
           clear n0_ n1_ n2_
           refine start_ (n := 25) (S := fun w' => w'.cell? ⟨gb269, 0, none⟩ = some (.string ((rd_T59 l0_1 x30_2).f0)) ∧ w'.cell? ⟨gb269, 1, none⟩ = some (.int .i64 ((rd_T59 l0_1 x30_2).f1)) ∧ w'.cell? ⟨gb269, 2, none⟩ = some (.int .i64 ((rd_T59 l0_1 x30_2).f2)) ∧ w'.cell? ⟨gb269, 3, none⟩ = some (.int .i64 ((rd_T59 l0_1 x30_2).f3)) ∧ w'.cell? ⟨gb269, 4, none⟩ = some (.int .i64 ((rd_T59 l0_1 x30_2).f4)) ∧ w'.cell? ⟨gb269, 5, none⟩ = some (.int .i64 ((rd_T59 l0_1 x30_2).f5))) (ds := []) #[false, false, false, false, false, false, false, false, false, false, false, false, false, false, false, false, false, false, false, false, false, false, false, false, false] (by kernel_rfl) rfl rfl ⟨(blk_cell BK269.out 0).trans rfl, (blk_cell BK269.out 1).trans rfl, (blk_cell BK269.out 2).trans rfl, (blk_cell BK269.out 3).trans rfl, (blk_cell BK269.out 4).trans rfl, (blk_cell BK269.out 5).trans rfl⟩ (fun hHeld => ?_); refine with_tabW impl_ValidNetwork.tab6 impl_ValidNetwork.bits6 (fun HT_ HW_ => ?_)
           generalize w44.drew = w45 at BK266 BK269 HB hHeld ⊢
           refine take_ (i := 0) (N := some 35) (v := ?_) (a' := ?_) #[true, false, false, false, false, false, false, false, false, false, false, false, false, false, false, false, false, false, false, false, false, false, false, false, false] rfl rfl (take_ofW HT_.out HW_.out (by kernel_rfl)) (fun _ _ _ h => h) (Or.inl ⟨by rfl, ?_⟩) hHeld ?_ ?_
           rotate_left
           ·rintro w' ⟨s0, s1, s2, s3, s4, s5⟩
            go_simp
            with_reducible rfl
           rotate_left
           ·simp only [Act.put, List.setIfInBounds_toArray, List.set_cons_zero, List.set_cons_succ, i64_w, i32_w]
            rfl
           refine one_ (i := 1) (N := some 36) #[true, true, false, false, false, false, false, false, false, false, false, false, false, false, false, false, false, false, false, false, false, false, false, false, false] rfl rfl (one_of HT_.out (by kernel_rfl)) (by decide) (fun K hK => ?_)
           refine goes_ Try.func40 (by kernel_rfl) rfl #[.agg #[.string ((rd_T59 l0_1 x30_2).f0), .int .i64 ((rd_T59 l0_1 x30_2).f1), .int .i64 ((rd_T59 l0_1 x30_2).f2), .int .i64 ((rd_T59 l0_1 x30_2).f3), .int .i64 ((rd_T59 l0_1 x30_2).f4), .int .i64 ((rd_T59 l0_1 x30_2).f5)]] (by rfl) rfl rfl gZ ?_
           with_reducible refine (impl_ValidPipe.calls k2 ((rd_T59 l0_1 x30_2).f0) ((rd_T59 l0_1 x30_2).f1) ((rd_T59 l0_1 x30_2).f2) ((rd_T59 l0_1 x30_2).f3) ((rd_T59 l0_1 x30_2).f4) ((rd_T59 l0_1 x30_2).f5) false _ A24.out).mono ?_
           rintro e w46 ⟨rfl, hb⟩
           refine ⟨_, rfl, ?_⟩
           have n0_ := Aside0.mk (blk_below (g := gb266) (o := .cells #[.slice A0_0 l0_0.length c0_0, .slice (some ad268) l0_1.length c0_1] 31 (0, 0)) (kZ BK266.out) hb)
           have n1_ := Aside0.mk (blk_below (g := gb269) (o := .cells #[.string ((rd_T59 l0_1 x30_2).f0), .int .i64 ((rd_T59 l0_1 x30_2).f1), .int .i64 ((rd_T59 l0_1 x30_2).f2), .int .i64 ((rd_T59 l0_1 x30_2).f3), .int .i64 ((rd_T59 l0_1 x30_2).f4), .int .i64 ((rd_T59 l0_1 x30_2).f5)] 59 (0, 0)) (kZ BK269.out) hb)
           have n2_ := Aside0.mk (below_step bZ hb)
           clear BK266; clear BK269; clear HB
           have BK266 := n0_
           have BK269 := n1_
           have HB := n2_
           clear n0_ n1_ n2_
           (try clear hb)
           (try clear hb2)
           (try clear hk)
           (try clear hi)
           refine hK.out _ _ ⟨(blk_cell BK269.out 0).trans rfl, (blk_cell BK269.out 1).trans rfl, (blk_cell BK269.out 2).trans rfl, (blk_cell BK269.out 3).trans rfl, (blk_cell BK269.out 4).trans rfl, (blk_cell BK269.out 5).trans rfl⟩ (fun hHeld => ?_)
           clear hK K
           refine norm_ (a' := ?_) ?_ ?_
           rotate_left
           ·show Act.put _ (some 36) _ = _
            simp only [Act.put, List.setIfInBounds_toArray, List.set_cons_zero, List.set_cons_succ, i64_w, i32_w]
            rfl
           refine puZ 2 (some 37) #[true, true, true, false, false, false, false, false, false, false, false, false, false, false, false, false, false, false, false, false, false, false, false, false, false] rfl rfl HT_.out ?_
           refine puZ 3 (some 38) #[true, true, true, true, false, false, false, false, false, false, false, false, false, false, false, false, false, false, false, false, false, false, false, false, false] rfl rfl HT_.out ?_
           refine pure_ (i := 4) (N := some 39) (v := undef) (a' := ?_) #[true, true, true, true, true, false, false, false, false, false, false, false, false, false, false, false, false, false, false, false, false, false, false, false, false] rfl rfl (any_of HT_.out (by kernel_rfl)) (fun _ _ _ h => h) (Or.inr ⟨by rfl, rfl⟩) ?_ ?_
           rotate_left
           ·simp only [Act.put, List.setIfInBounds_toArray, List.set_cons_zero, List.set_cons_succ, i64_w, i32_w]
            rfl
           refine pure_ (i := 5) (N := some 40) (v := undef) (a' := ?_) #[true, true, true, true, true, true, false, false, false, false, false, false, false, false, false, false, false, false, false, false, false, false, false, false, false] rfl rfl (any_of HT_.out (by kernel_rfl)) (fun _ _ _ h => h) (Or.inr ⟨by rfl, rfl⟩) ?_ ?_
           rotate_left
           ·simp only [Act.put, List.setIfInBounds_toArray, List.set_cons_zero, List.set_cons_succ, i64_w, i32_w]
            rfl
           refine pure_ (i := 6) (N := some 41) (v := undef) (a' := ?_) #[true, true, true, true, true, true, true, false, false, false, false, false, false, false, false, false, false, false, false, false, false, false, false, false, false] rfl rfl (any_of HT_.out (by kernel_rfl)) (fun _ _ _ h => h) (Or.inr ⟨by rfl, rfl⟩) ?_ ?_
           rotate_left
           ·simp only [Act.put, List.setIfInBounds_toArray, List.set_cons_zero, List.set_cons_succ, i64_w, i32_w]
            rfl
           refine pure_ (i := 7) (N := some 42) (v := undef) (a' := ?_) #[true, true, true, true, true, true, true, true, false, false, false, false, false, false, false, false, false, false, false, false, false, false, false, false, false] rfl rfl (any_of HT_.out (by kernel_rfl)) (fun _ _ _ h => h) (Or.inr ⟨by rfl, rfl⟩) ?_ ?_
           rotate_left
           ·simp only [Act.put, List.setIfInBounds_toArray, List.set_cons_zero, List.set_cons_succ, i64_w, i32_w]
            rfl
           refine puZ 8 (some 43) #[true, true, true, true, true, true, true, true, true, false, false, false, false, false, false, false, false, false, false, false, false, false, false, false, false] rfl rfl HT_.out ?_
           refine puZ 9 (some 44) #[true, true, true, true, true, true, true, true, true, true, false, false, false, false, false, false, false, false, false, false, false, false, false, false, false] rfl rfl HT_.out ?_
           refine pure_ (i := 10) (N := some 45) (v := undef) (a' := ?_) #[true, true, true, true, true, true, true, true, true, true, true, false, false, false, false, false, false, false, false, false, false, false, false, false, false] rfl rfl (any_of HT_.out (by kernel_rfl)) (fun _ _ _ h => h) (Or.inr ⟨by rfl, rfl⟩) ?_ ?_
           rotate_left
           ·simp only [Act.put, List.setIfInBounds_toArray, List.set_cons_zero, List.set_cons_succ, i64_w, i32_w]
            rfl
           refine pure_ (i := 11) (N := some 46) (v := undef) (a' := ?_) #[true, true, true, true, true, true, true, true, true, true, true, true, false, false, false, false, false, false, false, false, false, false, false, false, false] rfl rfl (any_of HT_.out (by kernel_rfl)) (fun _ _ _ h => h) (Or.inr ⟨by rfl, rfl⟩) ?_ ?_
           rotate_left
           ·simp only [Act.put, List.setIfInBounds_toArray, List.set_cons_zero, List.set_cons_succ, i64_w, i32_w]
            rfl
           refine pure_ (i := 12) (N := some 47) (v := undef) (a' := ?_) #[true, true, true, true, true, true, true, true, true, true, true, true, true, false, false, false, false, false, false, false, false, false, false, false, false] rfl rfl (any_of HT_.out (by kernel_rfl)) (fun _ _ _ h => h) (Or.inr ⟨by rfl, rfl⟩) ?_ ?_
           rotate_left
           ·simp only [Act.put, List.setIfInBounds_toArray, List.set_cons_zero, List.set_cons_succ, i64_w, i32_w]
            rfl
           refine pure_ (i := 13) (N := some 48) (v := undef) (a' := ?_) #[true, true, true, true, true, true, true, true, true, true, true, true, true, true, false, false, false, false, false, false, false, false, false, false, false] rfl rfl (any_of HT_.out (by kernel_rfl)) (fun _ _ _ h => h) (Or.inr ⟨by rfl, rfl⟩) ?_ ?_
           rotate_left
           ·simp only [Act.put, List.setIfInBounds_toArray, List.set_cons_zero, List.set_cons_succ, i64_w, i32_w]
            rfl
           refine pure_ (i := 14) (N := some 49) (v := undef) (a' := ?_) #[true, true, true, true, true, true, true, true, true, true, true, true, true, true, true, false, false, false, false, false, false, false, false, false, false] rfl rfl (any_of HT_.out (by kernel_rfl)) (fun _ _ _ h => h) (Or.inr ⟨by rfl, rfl⟩) ?_ ?_
           rotate_left
           ·simp only [Act.put, List.setIfInBounds_toArray, List.set_cons_zero, List.set_cons_succ, i64_w, i32_w]
            rfl
           refine pure_ (i := 15) (N := some 50) (v := undef) (a' := ?_) #[true, true, true, true, true, true, true, true, true, true, true, true, true, true, true, true, false, false, false, false, false, false, false, false, false] rfl rfl (any_of HT_.out (by kernel_rfl)) (fun _ _ _ h => h) (Or.inr ⟨by rfl, rfl⟩) ?_ ?_
           rotate_left
           ·simp only [Act.put, List.setIfInBounds_toArray, List.set_cons_zero, List.set_cons_succ, i64_w, i32_w]
            rfl
           refine pure_ (i := 16) (N := some 51) (v := undef) (a' := ?_) #[true, true, true, true, true, true, true, true, true, true, true, true, true, true, true, true, true, false, false, false, false, false, false, false, false] rfl rfl (any_of HT_.out (by kernel_rfl)) (fun _ _ _ h => h) (Or.inr ⟨by rfl, rfl⟩) ?_ ?_
           rotate_left
           ·simp only [Act.put, List.setIfInBounds_toArray, List.set_cons_zero, List.set_cons_succ, i64_w, i32_w]
            rfl
           refine pure_ (i := 17) (N := some 52) (v := undef) (a' := ?_) #[true, true, true, true, true, true, true, true, true, true, true, true, true, true, true, true, true, true, false, false, false, false, false, false, false] rfl rfl (any_of HT_.out (by kernel_rfl)) (fun _ _ _ h => h) (Or.inr ⟨by rfl, rfl⟩) ?_ ?_
           rotate_left
           ·simp only [Act.put, List.setIfInBounds_toArray, List.set_cons_zero, List.set_cons_succ, i64_w, i32_w]
            rfl
           refine pure_ (i := 18) (N := some 53) (v := undef) (a' := ?_) #[true, true, true, true, true, true, true, true, true, true, true, true, true, true, true, true, true, true, true, false, false, false, false, false, false] rfl rfl (any_of HT_.out (by kernel_rfl)) (fun _ _ _ h => h) (Or.inr ⟨by rfl, rfl⟩) ?_ ?_
           rotate_left
           ·simp only [Act.put, List.setIfInBounds_toArray, List.set_cons_zero, List.set_cons_succ, i64_w, i32_w]
            rfl
           refine pure_ (i := 19) (N := some 54) (v := undef) (a' := ?_) #[true, true, true, true, true, true, true, true, true, true, true, true, true, true, true, true, true, true, true, true, false, false, false, false, false] rfl rfl (any_of HT_.out (by kernel_rfl)) (fun _ _ _ h => h) (Or.inr ⟨by rfl, rfl⟩) ?_ ?_
           rotate_left
           ·simp only [Act.put, List.setIfInBounds_toArray, List.set_cons_zero, List.set_cons_succ, i64_w, i32_w]
            rfl
           refine pure_ (i := 20) (N := some 55) (v := undef) (a' := ?_) #[true, true, true, true, true, true, true, true, true, true, true, true, true, true, true, true, true, true, true, true, true, false, false, false, false] rfl rfl (any_of HT_.out (by kernel_rfl)) (fun _ _ _ h => h) (Or.inr ⟨by rfl, rfl⟩) ?_ ?_
           rotate_left
           ·simp only [Act.put, List.setIfInBounds_toArray, List.set_cons_zero, List.set_cons_succ, i64_w, i32_w]
            rfl
           refine pure_ (i := 21) (N := some 56) (v := undef) (a' := ?_) #[true, true, true, true, true, true, true, true, true, true, true, true, true, true, true, true, true, true, true, true, true, true, false, false, false] rfl rfl (any_of HT_.out (by kernel_rfl)) (fun _ _ _ h => h) (Or.inr ⟨by rfl, rfl⟩) ?_ ?_
           rotate_left
           ·simp only [Act.put, List.setIfInBounds_toArray, List.set_cons_zero, List.set_cons_succ, i64_w, i32_w]
            rfl
           refine pure_ (i := 22) (N := some 57) (v := undef) (a' := ?_) #[true, true, true, true, true, true, true, true, true, true, true, true, true, true, true, true, true, true, true, true, true, true, true, false, false] rfl rfl (any_of HT_.out (by kernel_rfl)) (fun _ _ _ h => h) (Or.inr ⟨by rfl, rfl⟩) ?_ ?_
           rotate_left
           ·simp only [Act.put, List.setIfInBounds_toArray, List.set_cons_zero, List.set_cons_succ, i64_w, i32_w]
            rfl
           refine pure_ (i := 23) (N := some 58) (v := undef) (a' := ?_) #[true, true, true, true, true, true, true, true, true, true, true, true, true, true, true, true, true, true, true, true, true, true, true, true, false] rfl rfl (any_of HT_.out (by kernel_rfl)) (fun _ _ _ h => h) (Or.inr ⟨by rfl, rfl⟩) ?_ ?_
           rotate_left
           ·simp only [Act.put, List.setIfInBounds_toArray, List.set_cons_zero, List.set_cons_succ, i64_w, i32_w]
            rfl
           refine puZ 24 (some 59) #[true, true, true, true, true, true, true, true, true, true, true, true, true, true, true, true, true, true, true, true, true, true, true, true, true] rfl rfl HT_.out ?_
           refine done_ (done_of HT_.out (by kernel_rfl)) ?_
           try go_wp2
           go_meet
           case rel => exact ⟨_, (true), sZ, H', ⟨by have := HJ1.out; have := HK2.out; first | omega | exact Nat.le_refl _⟩, ⟨kZ BK266.out⟩, ⟨kZ BK269.out⟩, ⟨bZ⟩⟩
         case rest =>
          clear HC20; (try clear c2); (try clear p2); (try clear c4); (try clear c25); (try clear c27); (try clear c40); (try clear c41)
          obtain ⟨kq, x59_19, rfl, HA, HJ19, BK266, BK269, HB⟩ := hcut
          cases kq with
          | zero => exact absurd HA.out (by simp [impl_ValidNetwork.j2])
          | succ kj19 =>
           have H := HA.out
           clear HA
           simp only [impl_ValidNetwork.j2] at H
           by_cases c47 : x59_19 = true
           ·subst c47
            have H1 : (some false) = some r := by rw [if_pos rfl] at H; exact H
            clear H
            have H := H1
            clear H1
            obtain rfl := Option.some.inj H
            go_wp2
            go_ret
            exact ⟨eZ, bZ⟩
           ·replace c47 := Bool.eq_false_iff.mpr c47
            subst c47
            have H1 : (impl_ValidNetwork.l0 kj19 l0_1 (l0_1.length : Int) (wrap64 (x30_2 + 1)) l0_0 l0_1) = some r := by rw [if_neg (show ¬ (false = true) by decide)] at H; exact H
            clear H
            have H := H1
            clear H1
            have H' := Aside0.mk H
            clear H
            go_wp2
            go_roundg kj19
            case measure => have := HJ1.out; have := HK2.out; have := HJ19.out; omega
            case rel => exact ⟨(wrap64 (x30_2 + 1)), sZ, H', ⟨by have := HJ1.out; have := HK2.out; have := HJ19.out; omega⟩, ⟨kZ BK266.out⟩, ⟨bZ⟩⟩
        ·rw [if_neg c19] at H
         exact absurd H (by simp)
       ·rw [if_neg c18] at H
        exact absurd H (by simp)
      ·rw [if_neg c17] at H
       have c17b0 : decide (x30_2 < (l0_1.length : Int)) = false := decide_eq_false c17
       clear c17
       obtain rfl := Option.some.inj H
       go_wp2
       go_ret
       exact ⟨eZ, bZ⟩
end Go.Proofs.Ythnhchpgpnaamaa.XG
end

section
namespace Go.Proofs.Ythnhchpgpnaamaa.XG
open Go.RowKit Go.Proofs.YthnhchpgpnaamaaW.PrintWords Go.Proofs.YthnhchpgpnaamaaW.PrintLast Go.Proofs.YthnhchpgpnaamaaW.PrintMore
attribute [local go_sem] run_eql_slice_nil binOp_string_gtr' binOp_string_leq' binOp_string_geq' max2_int min2_int max_two min_two max_three min_three max_four min_four   -- for this text's walks alone
set_option linter.unusedVariables false
set_option linter.unusedSimpArgs false
def impl_pressureOk.f (a0 : Int) : Option (Bool) := (impl_within.f a0 0 100000000).bind fun t273 => (some t273)
set_option maxHeartbeats 8000000 in
set_option maxRecDepth 100000 in
theorem impl_pressureOk.calls (a0 : Int) (r : Bool) (w : World) (h : impl_pressureOk.f a0 = some r) :
  Calls Try.prog 59 #[.int .i64 a0] w fun e w' => e = .returned (.bool r) ∧ Drawn0 w w' := by
 have H : ((impl_within.f a0 0 100000000).bind fun t273 => (some t273)) = some r := h
 clear h
 replace H := Option.bind_eq_some_iff.mp H
 obtain ⟨t273, A20, H⟩ := H
 replace H : (some t273) = some r := H
 have A2 := Aside0.mk A20
 clear A20
 obtain rfl := Option.some.inj H
 go_enter Try.func59, Try.ntmps59
 go_wp2_with (first | ((with_reducible refine gate_callee (f := 42) rfl ?_); refine goesL_ (some 4) rfl rfl Try.func42 (by kernel_rfl) rfl #[.int .i64 a0, .int .i64 0, .int .i64 100000000] rfl gZ ?_; (with_reducible refine (impl_within.calls a0 0 100000000 t273 _ A2.out).mono ?_); rintro e w' ⟨rfl, ⟨nd, rfl⟩⟩; refine ⟨_, rfl, ?_⟩))
 go_ret
 exact ⟨sZ, dZ⟩
def impl_Network_flowsOk.f (l0_0 : List Int) (l0_1 : List (S59)) (l1 : List Int) : Option (Bool) := if (l1.length : Int) = (l0_1.length : Int) then ((impl_allWithin.f l1 (-100000) 100000).bind fun t275 => (some t275)) else (some false)
set_option maxHeartbeats 8000000 in
set_option maxRecDepth 100000 in
theorem impl_Network_flowsOk.calls (A0_0 : Option Addr) (c0_0 : Nat) (l0_0 : List Int) (A0_1 : Option Addr) (c0_1 : Nat) (l0_1 : List (S59)) (A1 : Option Addr) (c1 : Nat) (l1 : List Int) (r : Bool) (w : World) (hr0_0 : Kd.C (Kd.int .i64) w A0_0 l0_0.length l0_0) (hc0_0 : l0_0.length ≤ c0_0) (hr0_1 : Kd.C k59 w A0_1 l0_1.length l0_1) (hc0_1 : l0_1.length ≤ c0_1) (hr1 : Kd.C (Kd.int .i64) w A1 l1.length l1) (hc1 : l1.length ≤ c1) (h : impl_Network_flowsOk.f l0_0 l0_1 l1 = some r) :
  Calls Try.prog 60 #[.agg #[.slice A0_0 l0_0.length c0_0, .slice A0_1 l0_1.length c0_1], .slice A1 l1.length c1] w fun e w' => e = .returned (.bool r) ∧ Below w.heap.size w w' := by
 have hu31 := Try.underlying31
 have HR0_0 := Aside0.mk hr0_0
 have HC0_0 := Aside0.mk hc0_0
 clear hr0_0 hc0_0
 have HR0_1 := Aside0.mk hr0_1
 have HC0_1 := Aside0.mk hc0_1
 clear hr0_1 hc0_1
 have HR1 := Aside0.mk hr1
 have HC1 := Aside0.mk hc1
 clear hr1 hc1
 have HB := Aside0.mk (Below.refl w.heap.size w)
 have H : (if (l1.length : Int) = (l0_1.length : Int) then ((impl_allWithin.f l1 (-100000) 100000).bind fun t275 => (some t275)) else (some false)) = some r := h
 clear h
 by_cases c3 : (l1.length : Int) = (l0_1.length : Int)
 ·rw [if_pos c3] at H
  have c3b0 : ((l1.length : Int) == (l0_1.length : Int)) = true := beq_iff_eq.mpr c3
  have c3b1 : ((l1.length : Int) != (l0_1.length : Int)) = false := bne_eq_false_iff_eq.mpr c3
  have c3b2 : (l1.length == l0_1.length) = true := by first | simpa using c3 | (simp at c3 ⊢; omega)
  clear c3
  replace H := Option.bind_eq_some_iff.mp H
  obtain ⟨t275, A40, H⟩ := H
  replace H : (some t275) = some r := H
  have A4 := Aside0.mk A40
  clear A40
  obtain rfl := Option.some.inj H
  go_enter Try.func60, Try.ntmps60
  go_wp2_with (first | ((with_reducible refine gate_dst (N := 2) rfl ?_); refine boxZ 2 #[.slice A0_0 l0_0.length c0_0, .slice A0_1 l0_1.length c0_1] 31 rfl rfl ?_; intro gb274 hg w5 hbox hb; have n0_ := Aside0.mk (below_step bZ hb); have n1_ := Aside0.mk (hbox); have n2_ := Aside0.mk ((by rw [hg]; exact bsZ : w.heap.size ≤ gb274)); have n3_ := Aside0.mk ((by rw [hg]; exact bsZ : w.heap.size ≤ gb274)); clear HB; have HB := n0_; have BK274 := n1_; have GW274 := n2_; have GE274 := n3_; clear n0_ n1_ n2_ n3_; clear hb hbox hg; have hcz6_0 := bc0 BK274.out; have hcz6_1 := bc1 BK274.out; have hfz6_0 := blk_frozen BK274.out 0; have hfz6_1 := blk_frozen BK274.out 1) | (go_at_call 39; (with_reducible refine (impl_allWithin.calls _ _ l1 (-100000) 100000 t275 _ ?side1 ?side2 A4.out).mono ?_); (case side1 => repeat (first | exact (Kd.C_below HR1.out HB.out) | (with_reducible refine Kd.C_alloc ?_ _) | (with_reducible refine Kd.C_drewN ?_ _) | (with_reducible refine Kd.C_drew ?_))); (case side2 => exact HC1.out); rintro e w7 ⟨rfl, hb⟩; have n0_ := Aside0.mk (blk_below (g := gb274) (o := .cells #[.slice A0_0 l0_0.length c0_0, .slice A0_1 l0_1.length c0_1] 31 (0, 0)) (kZ BK274.out) hb); have n1_ := Aside0.mk (below_step bZ hb); clear BK274; clear HB; have BK274 := n0_; have HB := n1_; clear n0_ n1_; (try clear hb); (try clear hb2); (try clear hk); (try clear hi)))
  go_ret
  exact ⟨eZ, bZ⟩
 ·rw [if_neg c3] at H
  have c3b0 : ((l1.length : Int) == (l0_1.length : Int)) = false := beq_eq_false_iff_ne.mpr c3
  have c3b1 : ((l1.length : Int) != (l0_1.length : Int)) = true := bne_iff_ne.mpr c3
  have c3b2 : (l1.length == l0_1.length) = false := by first | simpa using c3 | (simp at c3 ⊢; omega)
  obtain rfl := Option.some.inj H
  go_enter Try.func60, Try.ntmps60
  go_wp2_with (first | ((with_reducible refine gate_dst (N := 2) rfl ?_); refine boxZ 2 #[.slice A0_0 l0_0.length c0_0, .slice A0_1 l0_1.length c0_1] 31 rfl rfl ?_; intro gb274 hg w8 hbox hb; have n0_ := Aside0.mk (below_step bZ hb); have n1_ := Aside0.mk (hbox); have n2_ := Aside0.mk ((by rw [hg]; exact bsZ : w.heap.size ≤ gb274)); have n3_ := Aside0.mk ((by rw [hg]; exact bsZ : w.heap.size ≤ gb274)); clear HB; have HB := n0_; have BK274 := n1_; have GW274 := n2_; have GE274 := n3_; clear n0_ n1_ n2_ n3_; clear hb hbox hg; have hcz9_0 := bc0 BK274.out; have hcz9_1 := bc1 BK274.out; have hfz9_0 := blk_frozen BK274.out 0; have hfz9_1 := blk_frozen BK274.out 1))
  go_ret
  exact ⟨eZ, bZ⟩
def impl_Pipe_other.f (a0_0 : ByteArray) (a0_1 : Int) (a0_2 : Int) (a0_3 : Int) (a0_4 : Int) (a0_5 : Int) (a1 : Int) : Option (Int × Bool) := if a1 = a0_1 then (some (a0_2, true)) else (if a1 = a0_2 then (some (a0_1, true)) else (some (0, false)))
set_option maxHeartbeats 8000000 in
set_option maxRecDepth 100000 in
theorem impl_Pipe_other.calls (a0_0 : ByteArray) (a0_1 : Int) (a0_2 : Int) (a0_3 : Int) (a0_4 : Int) (a0_5 : Int) (a1 : Int) (r1 : Int) (r2 : Bool) (w : World) (h : impl_Pipe_other.f a0_0 a0_1 a0_2 a0_3 a0_4 a0_5 a1 = some (r1, r2)) :
  Calls Try.prog 44 #[.agg #[.string a0_0, .int .i64 a0_1, .int .i64 a0_2, .int .i64 a0_3, .int .i64 a0_4, .int .i64 a0_5], .int .i64 a1] w fun e w' => e = .returned (.tuple #[.int .i64 r1, .bool r2]) ∧ Below w.heap.size w w' := by
 have hu59 := Try.underlying59
 have HB := Aside0.mk (Below.refl w.heap.size w)
 have H : (if a1 = a0_1 then (some (a0_2, true)) else (if a1 = a0_2 then (some (a0_1, true)) else (some (0, false)))) = some (r1, r2) := h
 clear h
 by_cases c3 : a1 = a0_1
 ·rw [if_pos c3] at H
  have c3b0 : (a1 == a0_1) = true := beq_iff_eq.mpr c3
  have c3b1 : (a1 != a0_1) = false := bne_eq_false_iff_eq.mpr c3
  clear c3
  simp only [Option.some.injEq, Prod.mk.injEq] at H
  obtain ⟨rfl, rfl⟩ := H
  go_enter Try.func44, Try.ntmps44
  go_wp2_with (first | ((with_reducible refine gate_dst (N := 2) rfl ?_); refine boxZ 2 #[.string a0_0, .int .i64 a0_1, .int .i64 a0_2, .int .i64 a0_3, .int .i64 a0_4, .int .i64 a0_5] 59 rfl rfl ?_; intro gb276 hg w4 hbox hb; have n0_ := Aside0.mk (below_step bZ hb); have n1_ := Aside0.mk (hbox); have n2_ := Aside0.mk ((by rw [hg]; exact bsZ : w.heap.size ≤ gb276)); have n3_ := Aside0.mk ((by rw [hg]; exact bsZ : w.heap.size ≤ gb276)); clear HB; have HB := n0_; have BK276 := n1_; have GW276 := n2_; have GE276 := n3_; clear n0_ n1_ n2_ n3_; clear hb hbox hg; have hcz5_0 := bc0 BK276.out; have hcz5_1 := bc1 BK276.out; have hcz5_2 := bc2 BK276.out; have hcz5_3 := bc3 BK276.out; have hcz5_4 := bc4 BK276.out; have hcz5_5 := bc5 BK276.out; have hfz5_0 := blk_frozen BK276.out 0; have hfz5_1 := blk_frozen BK276.out 1; have hfz5_2 := blk_frozen BK276.out 2; have hfz5_3 := blk_frozen BK276.out 3; have hfz5_4 := blk_frozen BK276.out 4; have hfz5_5 := blk_frozen BK276.out 5))
  go_ret2
  exact ⟨eZ, bZ⟩
 ·rw [if_neg c3] at H
  have c3b0 : (a1 == a0_1) = false := beq_eq_false_iff_ne.mpr c3
  have c3b1 : (a1 != a0_1) = true := bne_iff_ne.mpr c3
  by_cases c6 : a1 = a0_2
  ·rw [if_pos c6] at H
   have c6b0 : (a1 == a0_2) = true := beq_iff_eq.mpr c6
   have c6b1 : (a1 != a0_2) = false := bne_eq_false_iff_eq.mpr c6
   clear c6
   simp only [Option.some.injEq, Prod.mk.injEq] at H
   obtain ⟨rfl, rfl⟩ := H
   go_enter Try.func44, Try.ntmps44
   go_wp2_with (first | ((with_reducible refine gate_dst (N := 2) rfl ?_); refine boxZ 2 #[.string a0_0, .int .i64 a0_1, .int .i64 a0_2, .int .i64 a0_3, .int .i64 a0_4, .int .i64 a0_5] 59 rfl rfl ?_; intro gb276 hg w7 hbox hb; have n0_ := Aside0.mk (below_step bZ hb); have n1_ := Aside0.mk (hbox); have n2_ := Aside0.mk ((by rw [hg]; exact bsZ : w.heap.size ≤ gb276)); have n3_ := Aside0.mk ((by rw [hg]; exact bsZ : w.heap.size ≤ gb276)); clear HB; have HB := n0_; have BK276 := n1_; have GW276 := n2_; have GE276 := n3_; clear n0_ n1_ n2_ n3_; clear hb hbox hg; have hcz8_0 := bc0 BK276.out; have hcz8_1 := bc1 BK276.out; have hcz8_2 := bc2 BK276.out; have hcz8_3 := bc3 BK276.out; have hcz8_4 := bc4 BK276.out; have hcz8_5 := bc5 BK276.out; have hfz8_0 := blk_frozen BK276.out 0; have hfz8_1 := blk_frozen BK276.out 1; have hfz8_2 := blk_frozen BK276.out 2; have hfz8_3 := blk_frozen BK276.out 3; have hfz8_4 := blk_frozen BK276.out 4; have hfz8_5 := blk_frozen BK276.out 5))
   go_ret2
   exact ⟨eZ, bZ⟩
  ·rw [if_neg c6] at H
   have c6b0 : (a1 == a0_2) = false := beq_eq_false_iff_ne.mpr c6
   have c6b1 : (a1 != a0_2) = true := bne_iff_ne.mpr c6
   simp only [Option.some.injEq, Prod.mk.injEq] at H
   obtain ⟨rfl, rfl⟩ := H
   go_enter Try.func44, Try.ntmps44
   go_wp2_with (first | ((with_reducible refine gate_dst (N := 2) rfl ?_); refine boxZ 2 #[.string a0_0, .int .i64 a0_1, .int .i64 a0_2, .int .i64 a0_3, .int .i64 a0_4, .int .i64 a0_5] 59 rfl rfl ?_; intro gb276 hg w9 hbox hb; have n0_ := Aside0.mk (below_step bZ hb); have n1_ := Aside0.mk (hbox); have n2_ := Aside0.mk ((by rw [hg]; exact bsZ : w.heap.size ≤ gb276)); have n3_ := Aside0.mk ((by rw [hg]; exact bsZ : w.heap.size ≤ gb276)); clear HB; have HB := n0_; have BK276 := n1_; have GW276 := n2_; have GE276 := n3_; clear n0_ n1_ n2_ n3_; clear hb hbox hg; have hcz10_0 := bc0 BK276.out; have hcz10_1 := bc1 BK276.out; have hcz10_2 := bc2 BK276.out; have hcz10_3 := bc3 BK276.out; have hcz10_4 := bc4 BK276.out; have hcz10_5 := bc5 BK276.out; have hfz10_0 := blk_frozen BK276.out 0; have hfz10_1 := blk_frozen BK276.out 1; have hfz10_2 := blk_frozen BK276.out 2; have hfz10_3 := blk_frozen BK276.out 3; have hfz10_4 := blk_frozen BK276.out 4; have hfz10_5 := blk_frozen BK276.out 5))
   go_ret2
   exact ⟨eZ, bZ⟩
def slices_Index_int64S.l0 : Nat → List Int → Int → Int → Int → Option (Int)
 | 0, _, _, _, _ => none
 | k + 1, x0, x1, x7, x8 => if x8 < x7 then (if 0 ≤ x8 then (if x8 < (x0.length : Int) then (if x1 = (rd x0 x8) then (some x8) else (slices_Index_int64S.l0 k x0 x1 x7 (wrap64 (x8 + 1)))) else (none)) else (none)) else (some (-1))
def slices_Index_int64S.f (k : Nat) (l0 : List Int) (a1 : Int) : Option (Int) := slices_Index_int64S.l0 k l0 a1 (l0.length : Int) 0
set_option maxHeartbeats 8000000 in
set_option maxRecDepth 100000 in
theorem slices_Index_int64S.calls (k : Nat) (A0 : Option Addr) (c0 : Nat) (l0 : List Int) (a1 : Int) (r : Int) (w : World) (hr0 : Kd.C (Kd.int .i64) w A0 l0.length l0) (hc0 : l0.length ≤ c0) (h : slices_Index_int64S.f k l0 a1 = some r) :
  Calls Try.prog 62 #[.slice A0 l0.length c0, .int .i64 a1] w fun e w' => e = .returned (.int .i64 r) ∧ Drawn0 w w' := by
 have HR0 := Aside0.mk hr0
 have HC0 := Aside0.mk hc0
 clear hr0 hc0
 have H : (slices_Index_int64S.l0 k l0 a1 (l0.length : Int) 0) = some r := h
 clear h
 have H' := Aside0.mk H
 clear H
 go_enter Try.func62, Try.ntmps62
 go_wp2
 go_loopg [8] k (fun kq v8 w' => ∃ (x8_1 : Int), v8 = .int .i64 x8_1 ∧ Aside0 (slices_Index_int64S.l0 kq l0 a1 (l0.length : Int) x8_1 = some r) ∧ Aside0 (kq ≤ k) ∧ Drawn0 w w')
 case atStart => exact ⟨(0), sZ, H', ⟨Nat.le_refl _⟩, dZ⟩
 case round =>
  clear H'; (try clear p2)
  obtain ⟨x8_1, rfl, HA, HK1, ⟨m1, rfl⟩⟩ := hrel
  cases gk with
  | zero => exact absurd HA.out (by simp [slices_Index_int64S.l0])
  | succ k1 =>
   have H := HA.out
   clear HA
   simp only [slices_Index_int64S.l0] at H
   by_cases c3 : x8_1 < (l0.length : Int)
   ·rw [if_pos c3] at H
    have c3b0 : decide (x8_1 < (l0.length : Int)) = true := decide_eq_true c3
    clear c3
    by_cases c4 : 0 ≤ x8_1
    ·rw [if_pos c4] at H
     have c4b0 : decide (0 ≤ x8_1) = true := decide_eq_true c4
     clear c4
     by_cases c5 : x8_1 < (l0.length : Int)
     ·rw [if_pos c5] at H
      have c5b0 : decide (x8_1 < (l0.length : Int)) = true := decide_eq_true c5
      clear c5
      by_cases c6 : a1 = (rd l0 x8_1)
      ·rw [if_pos c6] at H
       have c6b0 : (a1 == (rd l0 x8_1)) = true := beq_iff_eq.mpr c6
       have c6b1 : (a1 != (rd l0 x8_1)) = false := bne_eq_false_iff_eq.mpr c6
       clear c6
       obtain rfl := Option.some.inj H
       have p277 : 0 ≤ (x8_1 : Int) := oZ
       have q277 : x8_1 < (l0.length : Int) := oZ
       obtain ⟨ad277, e277, hx277_0⟩ := Kd.at_int HR0.out x8_1 p277 q277
       cases e277
       replace p277 := eq_true p277
       replace q277 := eq_true q277
       go_wp2
       go_ret
       exact ⟨sZ, dZ⟩
      ·rw [if_neg c6] at H
       have c6b0 : (a1 == (rd l0 x8_1)) = false := beq_eq_false_iff_ne.mpr c6
       have c6b1 : (a1 != (rd l0 x8_1)) = true := bne_iff_ne.mpr c6
       have H' := Aside0.mk H
       clear H
       have p277 : 0 ≤ (x8_1 : Int) := oZ
       have q277 : x8_1 < (l0.length : Int) := oZ
       obtain ⟨ad277, e277, hx277_0⟩ := Kd.at_int HR0.out x8_1 p277 q277
       cases e277
       replace p277 := eq_true p277
       replace q277 := eq_true q277
       go_wp2
       go_roundg k1
       case measure => have := HK1.out; omega
       case rel => exact ⟨(wrap64 (x8_1 + 1)), sZ, H', ⟨by have := HK1.out; omega⟩, dZ⟩
     ·rw [if_neg c5] at H
      exact absurd H (by simp)
    ·rw [if_neg c4] at H
     exact absurd H (by simp)
   ·rw [if_neg c3] at H
    have c3b0 : decide (x8_1 < (l0.length : Int)) = false := decide_eq_false c3
    clear c3
    obtain rfl := Option.some.inj H
    go_wp2
    go_ret
    exact ⟨sZ, dZ⟩
end Go.Proofs.Ythnhchpgpnaamaa.XG
end

section
namespace Go.Proofs.YthnhchpgpnaamaaW.PrintWords
open Go.RowKit
set_option linter.unusedVariables false
section
variable {P : Program}
theorem put_len (L vs : List Value) (p : Nat) (h : p + vs.length ≤ L.length) : (L.take p ++ vs ++ L.drop (p + vs.length)).length = L.length := by
  rw [List.length_append, List.length_append, List.length_take, List.length_drop]; omega
theorem Kd.R_mk {α : Type} (d : Kd α) {W : World} {e base g n c : Nat} {ok : Nat → Prop} {cur : Array Value} {xs : List α} (hok : ok g) (hb : base ≤ g) (hh : W.heap[g]? = some (.cells cur e (0, 0))) (hn : n = xs.length) (hnc : n ≤ c) (hcm : c ≤ maxLen) (hcs : cur.size = c * d.sz)
    (hr : Reps (d.M W base (fun k => ok k ∧ some k ≠ (Value.slice (some ⟨g, 0, none⟩) n c).ownBlock)) d.sz xs (cur.toList.take (n * d.sz))) : d.R e W base ok (.slice (some ⟨g, 0, none⟩) n c) xs := by
  subst hn
  refine ⟨fun k hk => ?_, cur.toList.take (xs.length * d.sz), ⟨?_, .inr ⟨g, c, cur, rfl, hb, hh, hnc, hcm, hcs, rfl⟩⟩, hr⟩
  · have : g = k := by simpa [Value.ownBlock] using hk
    exact this ▸ hok
  · exact hr.1
theorem Kd.R_unmk {α : Type} {d : Kd α} {W : World} {e base g n c : Nat} {ok : Nat → Prop} {xs : List α} (h : d.R e W base ok (.slice (some ⟨g, 0, none⟩) n c) xs) :
    ∃ cur : Array Value, ok g ∧ base ≤ g ∧ W.heap[g]? = some (.cells cur e (0, 0)) ∧ n = xs.length ∧ n ≤ c ∧ c ≤ maxLen ∧ cur.size = c * d.sz ∧ Reps (d.M W base (fun k => ok k ∧ some k ≠ (Value.slice (some ⟨g, 0, none⟩) n c).ownBlock)) d.sz xs (cur.toList.take (n * d.sz)) := by
  obtain ⟨hn, hnc, _⟩ := R_reads' h
  obtain ⟨hok, inner, hown, hr⟩ := h
  rcases hown.2 with ⟨hv, _⟩ | ⟨g', cap', cur, hv, hb, hh, hnn, hcm, hcs, htake⟩
  · injection hv with hv _ _
    cases hv
  · injection hv with ha _ hc
    injection ha with ha
    injection ha with ha
    subst ha; subst hc
    rw [← hn] at htake
    exact ⟨cur, hok g (by simp [Value.ownBlock]), hb, hh, hn, hnc, hcm, hcs, htake ▸ hr⟩
end
end Go.Proofs.YthnhchpgpnaamaaW.PrintWords
end

section
namespace Go.Proofs
open Go.Shelf
def Try.laysSlM5_f69_ren : Go.Shelf.Ren := ⟨fun | 5 => 69 | 8 => 73 | 7 => 72 | 19 => 83 | 20 => 84 | 10 => 74 | 11 => 75 | 12 => 76 | 13 => 77 | 14 => 78 | 15 => 79 | 16 => 80 | 17 => 81 | 18 => 82 | 30 => 85 | 31 => 86 | 32 => 87 | 33 => 88 | 34 => 89 | 35 => 90 | 40 => 91 | n => n, fun | 23 => 22 | 25 => 2 | 3 => 3 | 32 => 94 | 22 => 22 | 0 => 0 | 44 => 105 | 46 => 107 | 4 => 4 | 36 => 97 | 35 => 96 | 41 => 102 | 5 => 5 | 9 => 9 | 53 => 108 | 57 => 112 | 63 => 114 | 64 => 115 | n => n, fun | n => n⟩
theorem Try.laysSlM5_f69 : Go.Proofs.SlLaysM.n5 Try.prog Try.laysSlM5_f69_ren := {
  mixed := by kernel_rfl
  f5 := ⟨Try.f69.name, by decide, Try.func69.trans (congrArg some (by kernel_rfl))⟩
  f7 := ⟨Try.f72.name, by decide, Try.func72.trans (congrArg some (by kernel_rfl))⟩
  f8 := Try.func73.trans (congrArg some (by kernel_rfl))
  f10 := ⟨Try.f74.name, by decide, Try.func74.trans (congrArg some (by kernel_rfl))⟩
  f11 := ⟨Try.f75.name, by decide, Try.func75.trans (congrArg some (by kernel_rfl))⟩
  f12 := ⟨Try.f76.name, by decide, Try.func76.trans (congrArg some (by kernel_rfl))⟩
  f13 := ⟨Try.f77.name, by decide, Try.func77.trans (congrArg some (by kernel_rfl))⟩
  f14 := ⟨Try.f78.name, by decide, Try.func78.trans (congrArg some (by kernel_rfl))⟩
  f15 := ⟨Try.f79.name, by decide, Try.func79.trans (congrArg some (by kernel_rfl))⟩
  f16 := ⟨Try.f80.name, by decide, Try.func80.trans (congrArg some (by kernel_rfl))⟩
  f17 := ⟨Try.f81.name, by decide, Try.func81.trans (congrArg some (by kernel_rfl))⟩
  f18 := ⟨Try.f82.name, by decide, Try.func82.trans (congrArg some (by kernel_rfl))⟩
  f19 := Try.func83.trans (congrArg some (by kernel_rfl))
  f20 := Try.func84.trans (congrArg some (by kernel_rfl))
  f30 := ⟨Try.f85.name, by decide, Try.func85.trans (congrArg some (by kernel_rfl))⟩
  f31 := Try.func86.trans (congrArg some (by kernel_rfl))
  f32 := Try.func87.trans (congrArg some (by kernel_rfl))
  f33 := ⟨Try.f88.name, by decide, Try.func88.trans (congrArg some (by kernel_rfl))⟩
  f34 := ⟨Try.f89.name, by decide, Try.func89.trans (congrArg some (by kernel_rfl))⟩
  f35 := ⟨Try.f90.name, by decide, Try.func90.trans (congrArg some (by kernel_rfl))⟩
  f40 := ⟨Try.f91.name, by decide, Try.func91.trans (congrArg some (by kernel_rfl))⟩
  t0 := Try.underlying0
  a0 := Try.isAgg0
  z0 := Try.sizeOf0
  v0 := Try.zeroValue0
  t3 := Try.underlying3
  a3 := Try.isAgg3
  z3 := Try.sizeOf3
  v3 := Try.zeroValue3
  t4 := Try.underlying4
  a4 := Try.isAgg4
  z4 := Try.sizeOf4
  v4 := Try.zeroValue4
  t5 := Try.underlying5
  a5 := Try.isAgg5
  z5 := Try.sizeOf5
  v5 := Try.zeroValue5
  t9 := Try.underlying9
  a9 := Try.isAgg9
  z9 := Try.sizeOf9
  v9 := Try.zeroValue9
  t22 := Try.underlying22
  a22 := Try.isAgg22
  z22 := Try.sizeOf22
  v22 := Try.zeroValue22
  t23 := Try.underlying22
  a23 := Try.isAgg22
  z23 := Try.sizeOf22
  v23 := Try.zeroValue22
  t25 := Try.underlying2
  a25 := Try.isAgg2
  z25 := Try.sizeOf2
  v25 := Try.zeroValue2
  t32 := Try.underlying94
  a32 := Try.isAgg94
  z32 := Try.sizeOf94
  v32 := Try.zeroValue94
  t35 := Try.underlying96
  a35 := Try.isAgg96
  z35 := Try.sizeOf96
  v35 := Try.zeroValue96
  t36 := Try.underlying97
  a36 := Try.isAgg97
  z36 := Try.sizeOf97
  v36 := Try.zeroValue97
  t41 := Try.underlying102
  a41 := Try.isAgg102
  z41 := Try.sizeOf102
  v41 := Try.zeroValue102
  t44 := Try.underlying105
  a44 := Try.isAgg105
  z44 := Try.sizeOf105
  v44 := Try.zeroValue105
  t46 := Try.underlying107
  a46 := Try.isAgg107
  z46 := Try.sizeOf107
  v46 := Try.zeroValue107
  t53 := Try.underlying108
  a53 := Try.isAgg108
  z53 := Try.sizeOf108
  v53 := Try.zeroValue108
  t57 := Try.underlying112
  a57 := Try.isAgg112
  z57 := Try.sizeOf112
  v57 := Try.zeroValue112
  t63 := Try.underlying114
  a63 := Try.isAgg114
  z63 := Try.sizeOf114
  v63 := Try.zeroValue114
  t64 := Try.underlying115
  a64 := Try.isAgg115
  z64 := Try.sizeOf115
  v64 := Try.zeroValue115 }
open Go.Sort Go.RowKit in
theorem Try.slices_Sort_int (blk off cap : Nat) (zs : List Int) (w : World) (hH : Holds (Value.int .i64) w blk off zs.toArray) (hblk : blk < w.heap.size) (hsz : zs.length < 4611686018427387904) :
    Calls Try.prog 69 #[.slice (some ⟨blk, off, none⟩) zs.length cap] w fun e w' =>
      e = .returned (.tuple #[]) ∧ ∃ n os, w' = grow (putRow (Value.int .i64) (Sort.ahead w n) blk off (zs.mergeSort fun x y => decide (x ≤ y)).toArray) os := AnyM.slices_Sort_int Try.laysSlM5_f69 blk off cap zs w hH hblk hsz
open Go.RowKit Go.Sort in
theorem Try.slices_Sort_int_none (p : Option Addr) (cap : Nat) (w : World) :
    Calls Try.prog 69 #[.slice p 0 cap] w fun e w' => e = .returned (.tuple #[]) ∧ w' = w := AnyM.slices_Sort_int_none Try.laysSlM5_f69 p cap w
end Go.Proofs
end

section
namespace Go.Proofs.Ythnhchpgpnaamaa.XG
open Go.RowKit Go.Proofs.YthnhchpgpnaamaaW.PrintWords Go.Proofs.YthnhchpgpnaamaaW.PrintLast Go.Proofs.YthnhchpgpnaamaaW.PrintMore
attribute [local go_sem] run_eql_slice_nil binOp_string_gtr' binOp_string_leq' binOp_string_geq' max2_int min2_int max_two min_two max_three min_three max_four min_four   -- for this text's walks alone
set_option linter.unusedVariables false
set_option linter.unusedSimpArgs false
def slices_Contains_int64S.f (k : Nat) (l0 : List Int) (a1 : Int) : Option (Bool) := (slices_Index_int64S.f k l0 a1).bind fun t278 => (some (decide (t278 ≥ 0)))
set_option maxHeartbeats 8000000 in
set_option maxRecDepth 100000 in
theorem slices_Contains_int64S.calls (k : Nat) (A0 : Option Addr) (c0 : Nat) (l0 : List Int) (a1 : Int) (r : Bool) (w : World) (hr0 : Kd.C (Kd.int .i64) w A0 l0.length l0) (hc0 : l0.length ≤ c0) (h : slices_Contains_int64S.f k l0 a1 = some r) :
  Calls Try.prog 45 #[.slice A0 l0.length c0, .int .i64 a1] w fun e w' => e = .returned (.bool r) ∧ Drawn0 w w' := by
 have HR0 := Aside0.mk hr0
 have HC0 := Aside0.mk hc0
 clear hr0 hc0
 have H : ((slices_Index_int64S.f k l0 a1).bind fun t278 => (some (decide (t278 ≥ 0)))) = some r := h
 clear h
 replace H := Option.bind_eq_some_iff.mp H
 obtain ⟨t278, A30, H⟩ := H
 replace H : (some (decide (t278 ≥ 0))) = some r := H
 have A3 := Aside0.mk A30
 clear A30
 obtain rfl := Option.some.inj H
 go_enter Try.func45, Try.ntmps45
 go_wp2_with (first | ((with_reducible refine gate_callee (f := 62) rfl ?_); refine goesL_ (some 7) rfl rfl Try.func62 (by kernel_rfl) rfl #[.slice A0 l0.length c0, .int .i64 a1] rfl gZ ?_; (with_reducible refine (slices_Index_int64S.calls k _ _ l0 a1 t278 _ ?side1 ?side2 A3.out).mono ?_); (case side1 => repeat (first | exact HR0.out | (with_reducible refine Kd.C_alloc ?_ _) | (with_reducible refine Kd.C_drewN ?_ _) | (with_reducible refine Kd.C_drew ?_))); (case side2 => exact HC0.out); rintro e w' ⟨rfl, ⟨nd, rfl⟩⟩; refine ⟨_, rfl, ?_⟩))
 go_ret
 exact ⟨sZ, dZ⟩
def slices_Sort_int64S.f (l0 : List Int) : Option (List Int) := if l0.length < 4611686018427387904 then some (l0.mergeSort fun x y => decide (x ≤ y)) else none
set_option maxHeartbeats 1000000 in
theorem slices_Sort_int64S.calls (P0_ : Nat → Prop) (u9000_ : Value) (l0 : List Int) (r : List Int) (w0 w : World) (hB : Below w0.heap.size w0 w) (ho0 : Kd.R (Kd.int .i64) 2 w w0.heap.size P0_ u9000_ l0) (h : slices_Sort_int64S.f l0 = some r) :
  Calls Try.prog 69 #[u9000_] w fun e w' => e = .returned (.tuple #[]) ∧ Kd.R (Kd.int .i64) 2 w' w0.heap.size (fun k_ => (P0_ k_ ∨ w.heap.size ≤ k_)) u9000_ r ∧ Below w0.heap.size w0 w' ∧ Kept w w' (fun k_ => P0_ k_) := by
 unfold slices_Sort_int64S.f at h
 by_cases hl : l0.length < 4611686018427387904
 ·rw [if_pos hl] at h
  obtain rfl := Option.some.inj h
  by_cases he : l0 = []
  ·subst he
   obtain ⟨A, c, rfl⟩ := Kd.R_slice ho0
   refine (Try.slices_Sort_int_none A c w).mono ?_
   rintro e w' ⟨rfl, rfl⟩
   exact ⟨rfl, Kd.R_mono (by simpa using ho0) (fun k hk => .inl hk), hB, Kept.refl _ _⟩
  ·have hp : 0 < l0.length := Nat.pos_of_ne_zero (fun h => he (List.eq_nil_of_length_eq_zero h))
   obtain ⟨g, c, hv, _⟩ := Kd.R_form ho0 hp
   subst hv
   obtain ⟨cur, hok, hgb, hh, _, hnc, hcm, hcs, hreps⟩ := Kd.R_unmk ho0
   have henc : cur.toList.take l0.length = l0.map (Value.int .i64) := by
    have e := Kd.reps_encs (enc := Value.int .i64) hreps
    rw [show (Kd.int .i64).sz = 1 from rfl, Nat.mul_one] at e
    exact e
   have hlt : g < w.heap.size := (Array.getElem?_eq_some_iff.1 hh).1
   have hms : (l0.mergeSort fun x y => decide (x ≤ y)).length = l0.length := List.length_mergeSort _
   refine (Try.slices_Sort_int g 0 c l0 w (Go.holds_of_blockI hh henc) hlt hl).mono ?_
   rintro e w' ⟨rfl, n, os, rfl⟩
   have hgr := Go.grownBy_sortedI (w := w) (g := g) (n := n) (os := os) (l0.mergeSort fun x y => decide (x ≤ y)).toArray
   refine ⟨rfl, ?_, hB.grown hgr hB.size (fun k hk => by injection hk with hk; omega), Kept.of_grown hgr (Kept.refl _ _) (fun k_ e_ => by injection e_ with e_; subst e_; exact .inl hok)⟩
   refine Kd.R_mk (Kd.int .i64) (.inl hok) hgb (Go.heap_sortedI _ hh) hms.symm hnc hcm (by rw [show (Kd.int .i64).sz = 1 from rfl] at hcs ⊢; simpa [Go.Sort.putCells] using hcs) ?_
   have ht := Go.take_putCellsI cur (l0.mergeSort fun x y => decide (x ≤ y)) (by rw [hms]; rw [show (Kd.int .i64).sz = 1 from rfl] at hcs; omega)
   rw [show (Kd.int .i64).sz = 1 from rfl, Nat.mul_one, ← hms, ht]
   exact Kd.reps_scalar _
 ·rw [if_neg hl] at h
  exact absurd h (by simp)
end Go.Proofs.Ythnhchpgpnaamaa.XG
end
