/- The law FnExactNodeReport: part 7 of its texts, joined (wip/pack.py). -/
import Derived.Test.YtadaegehdcngdaaGreatDoorKFnExactNodeReporta
import Derived.Test.YtadaegehdcngdaaGreatDoorKFnExactNodeReportb
import Derived.Test.YtadaegehdcngdaaGreatDoorKFnExactNodeReportc
import Derived.Test.YtadaegehdcngdaaGreatDoorKFnExactNodeReportd
import Derived.Test.YtadaegehdcngdaaGreatDoorKFnExactNodeReporte
import Derived.Test.YtadaegehdcngdaaGreatDoorKFnExactNodeReportf
import Derived.Test.YtadaegehdcngdaaGreatDoorKFnExactNodeReportg

section
namespace Go.Proofs.YtadaegehdcngdaaGreatDoor.XV
open Go.RowKit Go.Proofs.YtadaegehdcngdaaGreatDoorW.PrintWords Go.Proofs.YtadaegehdcngdaaGreatDoorW.PrintLast Go.Proofs.YtadaegehdcngdaaGreatDoorW.PrintMore
attribute [local go_sem] run_eql_slice_nil binOp_string_gtr' binOp_string_leq' binOp_string_geq' max2_int min2_int max_two min_two max_three min_three max_four min_four   -- for this text's walks alone
set_option linter.unusedVariables false
set_option linter.unusedSimpArgs false
mutual
def impl_NodeReport.l0 : Nat → List Int → List Int → List Int → List (S58) → Int → Int → List Int → List (S58) → Option (List ByteArray × Int)
 | 0, _, _, _, _, _, _, _, _ => none
 | k + 1, x1, x6, x7, x32, x33, x34, x268000, x268001 => if x34 < x33 then (if 0 ≤ x34 then (if x34 < (x32.length : Int) then (if x34 < (x1.length : Int) then (if (rd x1 x34) < 0 then (impl_NodeReport.j1 k x1 x6 x7 x34 ((rd_T58 x32 x34).f2) ((rd_T58 x32 x34).f1) x32 x33 x34 x268000 x268001) else (impl_NodeReport.j1 k x1 x6 x7 x34 ((rd_T58 x32 x34).f1) ((rd_T58 x32 x34).f2) x32 x33 x34 x268000 x268001)) else (none)) else (none)) else (none)) else (impl_NodeReport.l1 k x6 x7 (([(([(⟨#[110, 111, 100, 101]⟩ : ByteArray), (⟨#[105, 110]⟩ : ByteArray), (⟨#[111, 117, 116]⟩ : ByteArray)] : List ByteArray))] : List (List ByteArray))) (x268000.length : Int) 0)
def impl_NodeReport.j1 : Nat → List Int → List Int → List Int → Int → Int → Int → List (S58) → Int → Int → List Int → List (S58) → Option (List ByteArray × Int)
 | 0, _, _, _, _, _, _, _, _, _, _, _ => none
 | k + 1, x1, x6, x7, x8, x10, x11, x32, x33, x34, x268000, x268001 => if 0 ≤ x10 then (if x10 < (x7.length : Int) then (if 0 ≤ x8 then (if x8 < (x1.length : Int) then ((impl_abs.f (rd x1 x8)).bind fun t281 => (if 0 ≤ x11 then (if x11 < (x6.length : Int) then ((impl_abs.f (rd x1 x8)).bind fun t285 => (impl_NodeReport.l0 k x1 (x6.set (x11 : Int).toNat (wrap64 ((rd x6 x11) + t285))) (x7.set (x10 : Int).toNat (wrap64 ((rd x7 x10) + t281))) x32 x33 (wrap64 (x34 + 1)) x268000 x268001)) else (none)) else (none))) else (none)) else (none)) else (none)) else (none)
def impl_NodeReport.l1 : Nat → List Int → List Int → List (List ByteArray) → Int → Int → Option (List ByteArray × Int)
 | 0, _, _, _, _, _ => none
 | k + 1, x6, x7, x12, x77, x78 => if x78 < x77 then ((impl_Decimal.f x78).bind fun t293 => (if 0 ≤ x78 then (if x78 < (x6.length : Int) then ((impl_Decimal.f (rd x6 x78)).bind fun t295 => (if x78 < (x7.length : Int) then ((impl_Decimal.f (rd x7 x78)).bind fun t297 => (if x12.length < 5864062014805 then (impl_NodeReport.l1 k x6 x7 (x12 ++ [(([t293, t295, t297] : List ByteArray))]) x77 (wrap64 (x78 + 1))) else (none))) else (none))) else (none)) else (none))) else ((impl_TableLines.f k x12).bind fun bt304 => (some (bt304.1, bt304.2)))
end
def impl_NodeReport.f (k : Nat) (l0_0 : List Int) (l0_1 : List (S58)) (l1 : List Int) : Option (List ByteArray × Int) := (impl_ValidNetwork.f k l0_0 l0_1).bind fun t268 => (if t268 = true then ((impl_Network_flowsOk.f l0_0 l0_1 l1).bind fun t269 => (if t269 = true then (if 0 ≤ (l0_0.length : Int) then (if ((l0_0.length : Int) : Int).toNat ≤ 35184372088832 then (impl_NodeReport.l0 k l1 (List.replicate ((l0_0.length : Int) : Int).toNat 0) (List.replicate ((l0_0.length : Int) : Int).toNat 0) l0_1 (l0_1.length : Int) 0 l0_0 l0_1) else (none)) else (none)) else (some (([] : List ByteArray), 2)))) else (some (([] : List ByteArray), 1)))
def impl_NodeReport.T5 : Bool × List (List Nat × List Nat) := (true, [([], []), ([0], [0]), ([1], [1]), ([2, 2], [2]), ([], []), ([4], [4]), ([5], [5]), ([6, 6], [6]), ([3, 0, 1, 2, 3], [3]), ([7, 8, 0, 1, 2, 3, 4, 5, 6, 7, 8], [7])])
def impl_NodeReport.B5 : List Nat := [0, 1, 3, 7, 0, 16, 48, 112, 15, 511]
theorem impl_NodeReport.tab5 : rtab .any (opsOf Tryz.f10 5) = impl_NodeReport.T5 := by kernel_rfl
theorem impl_NodeReport.bits5 : waitsOk impl_NodeReport.T5.2 impl_NodeReport.B5 = true := by kernel_rfl
def impl_NodeReport.T12 : Bool × List (List Nat × List Nat) := (true, [([], []), ([], []), ([0, 1], [0, 1]), ([2], [2]), ([], []), ([], []), ([4, 5], [4, 5]), ([6], [6]), ([7], [7]), ([3, 8], [3, 8]), ([0, 1, 0, 1, 2, 3, 4, 5, 6, 7, 8, 9], [0, 1]), ([10, 9, 8, 0, 1, 2, 3, 4, 5, 6, 7, 8, 9], [9, 10])])
def impl_NodeReport.B12 : List Nat := [0, 0, 3, 7, 0, 0, 48, 112, 240, 511, 1023, 2047]
theorem impl_NodeReport.tab12 : rtab .any (opsOf Tryz.f10 12) = impl_NodeReport.T12 := by kernel_rfl
theorem impl_NodeReport.bits12 : waitsOk impl_NodeReport.T12.2 impl_NodeReport.B12 = true := by kernel_rfl
def impl_NodeReport.T13 : Bool × List (List Nat × List Nat) := (true, [([], []), ([], []), ([0, 1], [0, 1]), ([2], [2]), ([], []), ([], []), ([4, 5], [4, 5]), ([6], [6]), ([7], [7]), ([3, 8], [3, 8]), ([0, 1, 0, 1, 2, 3, 4, 5, 6, 7, 8, 9], [0, 1]), ([10, 9, 8, 0, 1, 2, 3, 4, 5, 6, 7, 8, 9], [9, 10])])
def impl_NodeReport.B13 : List Nat := [0, 0, 3, 7, 0, 0, 48, 112, 240, 511, 1023, 2047]
theorem impl_NodeReport.tab13 : rtab .any (opsOf Tryz.f10 13) = impl_NodeReport.T13 := by kernel_rfl
theorem impl_NodeReport.bits13 : waitsOk impl_NodeReport.T13.2 impl_NodeReport.B13 = true := by kernel_rfl
def impl_NodeReport.T19 : Bool × List (List Nat × List Nat) := (true, [([], []), ([], []), ([1], [1]), ([], []), ([], []), ([3, 4], [3, 4]), ([5], [5]), ([6, 2], [6]), ([], []), ([], []), ([8, 9], [8, 9]), ([10], [10]), ([11, 7], [11]), ([2, 7, 12], [2, 7, 12]), ([13], [13]), ([0, 14, 12], [0, 14]), ([15, 15, 0, 1, 2, 3, 4, 5, 6, 7, 8, 9, 10, 11, 12, 13, 14, 15], [0, 15])])
def impl_NodeReport.B19 : List Nat := [0, 0, 2, 0, 0, 24, 56, 126, 0, 0, 768, 1792, 4094, 8190, 16382, 32767, 65535]
theorem impl_NodeReport.tab19 : rtab .any (opsOf Tryz.f10 19) = impl_NodeReport.T19 := by kernel_rfl
theorem impl_NodeReport.bits19 : waitsOk impl_NodeReport.T19.2 impl_NodeReport.B19 = true := by kernel_rfl
set_option maxHeartbeats 8000000 in
set_option maxRecDepth 100000 in
theorem impl_NodeReport.calls (k : Nat) (A0_0 : Option Addr) (c0_0 : Nat) (l0_0 : List Int) (A0_1 : Option Addr) (c0_1 : Nat) (l0_1 : List (S58)) (A1 : Option Addr) (c1 : Nat) (l1 : List Int) (r1 : List ByteArray) (r2 : Int) (w : World) (hr0_0 : Kd.C (Kd.int .i64) w A0_0 l0_0.length l0_0) (hc0_0 : l0_0.length ≤ c0_0) (hr0_1 : Kd.C k58 w A0_1 l0_1.length l0_1) (hc0_1 : l0_1.length ≤ c0_1) (hr1 : Kd.C (Kd.int .i64) w A1 l1.length l1) (hc1 : l1.length ≤ c1) (hSH : ShT Tryz.prog w) (h : impl_NodeReport.f k l0_0 l0_1 l1 = some (r1, r2)) :
  Calls Tryz.prog 10 #[.agg #[.slice A0_0 l0_0.length c0_0, .slice A0_1 l0_1.length c0_1], .slice A1 l1.length c1] w fun e w' => ∃ v0_ : Value, e = .returned (.tuple #[v0_, .int .i64 r2]) ∧ Kd.R Kd.string 9 w' w.heap.size (fun _ => True) v0_ r1 ∧ Below w.heap.size w w' := by
 have hu32 := Tryz.underlying32
 have hu58 := Tryz.underlying58
 have HR0_0 := Aside0.mk hr0_0
 have HC0_0 := Aside0.mk hc0_0
 clear hr0_0 hc0_0
 have HR0_1 := Aside0.mk hr0_1
 have HC0_1 := Aside0.mk hc0_1
 clear hr0_1 hc0_1
 have HR1 := Aside0.mk hr1
 have HC1 := Aside0.mk hc1
 clear hr1 hc1
 have HB := Aside0.mk (Below.refl w.heap.size w)
 have HSH := Aside0.mk hSH
 clear hSH
 have H : ((impl_ValidNetwork.f k l0_0 l0_1).bind fun t268 => (if t268 = true then ((impl_Network_flowsOk.f l0_0 l0_1 l1).bind fun t269 => (if t269 = true then (if 0 ≤ (l0_0.length : Int) then (if ((l0_0.length : Int) : Int).toNat ≤ 35184372088832 then (impl_NodeReport.l0 k l1 (List.replicate ((l0_0.length : Int) : Int).toNat 0) (List.replicate ((l0_0.length : Int) : Int).toNat 0) l0_1 (l0_1.length : Int) 0 l0_0 l0_1) else (none)) else (none)) else (some (([] : List ByteArray), 2)))) else (some (([] : List ByteArray), 1)))) = some (r1, r2) := h
 clear h
 replace H := Option.bind_eq_some_iff.mp H
 obtain ⟨t268, A30, H⟩ := H
 replace H : (if t268 = true then ((impl_Network_flowsOk.f l0_0 l0_1 l1).bind fun t269 => (if t269 = true then (if 0 ≤ (l0_0.length : Int) then (if ((l0_0.length : Int) : Int).toNat ≤ 35184372088832 then (impl_NodeReport.l0 k l1 (List.replicate ((l0_0.length : Int) : Int).toNat 0) (List.replicate ((l0_0.length : Int) : Int).toNat 0) l0_1 (l0_1.length : Int) 0 l0_0 l0_1) else (none)) else (none)) else (some (([] : List ByteArray), 2)))) else (some (([] : List ByteArray), 1))) = some (r1, r2) := H
 have A3 := Aside0.mk A30
 clear A30
 by_cases c4 : t268 = true
 ·subst c4
  have H1 : ((impl_Network_flowsOk.f l0_0 l0_1 l1).bind fun t269 => (if t269 = true then (if 0 ≤ (l0_0.length : Int) then (if ((l0_0.length : Int) : Int).toNat ≤ 35184372088832 then (impl_NodeReport.l0 k l1 (List.replicate ((l0_0.length : Int) : Int).toNat 0) (List.replicate ((l0_0.length : Int) : Int).toNat 0) l0_1 (l0_1.length : Int) 0 l0_0 l0_1) else (none)) else (none)) else (some (([] : List ByteArray), 2)))) = some (r1, r2) := by rw [if_pos rfl] at H; exact H
  clear H
  have H := H1
  clear H1
  replace H := Option.bind_eq_some_iff.mp H
  obtain ⟨t269, A50, H⟩ := H
  replace H : (if t269 = true then (if 0 ≤ (l0_0.length : Int) then (if ((l0_0.length : Int) : Int).toNat ≤ 35184372088832 then (impl_NodeReport.l0 k l1 (List.replicate ((l0_0.length : Int) : Int).toNat 0) (List.replicate ((l0_0.length : Int) : Int).toNat 0) l0_1 (l0_1.length : Int) 0 l0_0 l0_1) else (none)) else (none)) else (some (([] : List ByteArray), 2))) = some (r1, r2) := H
  have A5 := Aside0.mk A50
  clear A50
  by_cases c6 : t269 = true
  ·subst c6
   have H1 : (if 0 ≤ (l0_0.length : Int) then (if ((l0_0.length : Int) : Int).toNat ≤ 35184372088832 then (impl_NodeReport.l0 k l1 (List.replicate ((l0_0.length : Int) : Int).toNat 0) (List.replicate ((l0_0.length : Int) : Int).toNat 0) l0_1 (l0_1.length : Int) 0 l0_0 l0_1) else (none)) else (none)) = some (r1, r2) := by rw [if_pos rfl] at H; exact H
   clear H
   have H := H1
   clear H1
   by_cases c7 : 0 ≤ (l0_0.length : Int)
   ·rw [if_pos c7] at H
    have c7b0 := eq_true c7
    have c7b1 : decide (0 ≤ (l0_0.length : Int)) = true := decide_eq_true c7
    clear c7
    by_cases c8 : ((l0_0.length : Int) : Int).toNat ≤ 35184372088832
    ·rw [if_pos c8] at H
     have c8b0 := eq_true c8
     have c8b1 : decide (((l0_0.length : Int) : Int).toNat ≤ 35184372088832) = true := decide_eq_true c8
     clear c8
     obtain ⟨y270, hy270⟩ : ∃ y_ : List Int, y_ = (List.replicate ((l0_0.length : Int) : Int).toNat 0) := ⟨_, rfl⟩
     replace H : (impl_NodeReport.l0 k l1 y270 (List.replicate ((l0_0.length : Int) : Int).toNat 0) l0_1 (l0_1.length : Int) 0 l0_0 l0_1) = some (r1, r2) := by first | (rw [hy270]; with_reducible exact H) | (have H2_ := (Option.bind_some _ _).symm.trans H; rw [hy270]; with_reducible exact H2_) | (have H2_ := (Option.bind_some _ _).symm.trans H; with_reducible exact H2_) | with_reducible exact H | (rw [hy270]; exact H) | exact H
     have Ny270 := Aside0.mk hy270
     clear hy270
     obtain ⟨y273, hy273⟩ : ∃ y_ : List Int, y_ = (List.replicate ((l0_0.length : Int) : Int).toNat 0) := ⟨_, rfl⟩
     replace H : (impl_NodeReport.l0 k l1 y270 y273 l0_1 (l0_1.length : Int) 0 l0_0 l0_1) = some (r1, r2) := by first | (rw [hy273]; with_reducible exact H) | (have H2_ := (Option.bind_some _ _).symm.trans H; rw [hy273]; with_reducible exact H2_) | (have H2_ := (Option.bind_some _ _).symm.trans H; with_reducible exact H2_) | with_reducible exact H | (rw [hy273]; exact H) | exact H
     have Ny273 := Aside0.mk hy273
     clear hy273
     have H' := Aside0.mk H
     clear H
     go_enter Tryz.func10, Tryz.ntmps10
     try go_wp2_with (first | ((with_reducible refine gate_dst (N := 2) rfl ?_); refine boxZ 2 #[.slice A0_0 l0_0.length c0_0, .slice A0_1 l0_1.length c0_1] 32 rfl rfl ?_; intro gb267 hg w9 hbox hb; have n0_ := Aside0.mk (below_step bZ hb); have n1_ := Aside0.mk (hbox); have n2_ := Aside0.mk ((by rw [hg]; exact bsZ : w.heap.size ≤ gb267)); have n3_ := Aside0.mk ((by rw [hg]; exact bsZ : w.heap.size ≤ gb267)); clear HB; have HB := n0_; have BK267 := n1_; have GW267 := n2_; have GE267 := n3_; clear n0_ n1_ n2_ n3_; clear hb hbox hg; have hcz10_0 := bc0 BK267.out; have hcz10_1 := bc1 BK267.out; have hfz10_0 := blk_frozen BK267.out 0; have hfz10_1 := blk_frozen BK267.out 1) | ((with_reducible refine gate_callee (f := 38) rfl ?_); refine goesL_ (some 16) rfl rfl Tryz.func38 (by kernel_rfl) rfl #[.agg #[.slice A0_0 l0_0.length c0_0, .slice A0_1 l0_1.length c0_1]] rfl gZ ?_; (with_reducible refine (impl_ValidNetwork.calls k _ _ l0_0 _ _ l0_1 true _ ?side1 ?side2 ?side3 ?side4 A3.out).mono ?_); (case side1 => repeat (first | exact (Kd.C_below HR0_0.out HB.out) | (with_reducible refine Kd.C_alloc ?_ _) | (with_reducible refine Kd.C_drewN ?_ _) | (with_reducible refine Kd.C_drew ?_))); (case side2 => exact HC0_0.out); (case side3 => repeat (first | exact (Kd.C_below HR0_1.out HB.out) | (with_reducible refine Kd.C_alloc ?_ _) | (with_reducible refine Kd.C_drewN ?_ _) | (with_reducible refine Kd.C_drew ?_))); (case side4 => exact HC0_1.out); rintro e w11 ⟨rfl, hb⟩; refine ⟨_, rfl, ?_⟩; have n0_ := Aside0.mk (blk_below (g := gb267) (o := .cells #[.slice A0_0 l0_0.length c0_0, .slice A0_1 l0_1.length c0_1] 32 (0, 0)) (kZ BK267.out) hb); have n1_ := Aside0.mk (below_step bZ hb); clear BK267; clear HB; have BK267 := n0_; have HB := n1_; clear n0_ n1_; (try clear hb); (try clear hb2); (try clear hk); (try clear hi); have hcz12_0 := bc0 BK267.out; have hcz12_1 := bc1 BK267.out; have hfz12_0 := blk_frozen BK267.out 0; have hfz12_1 := blk_frozen BK267.out 1) | ((with_reducible refine gate_callee (f := 39) rfl ?_); refine goesL_ (some 21) rfl rfl Tryz.func39 (by kernel_rfl) rfl #[.agg #[.slice A0_0 l0_0.length c0_0, .slice A0_1 l0_1.length c0_1], .slice A1 l1.length c1] rfl gZ ?_; (with_reducible refine (impl_Network_flowsOk.calls _ _ l0_0 _ _ l0_1 _ _ l1 true _ ?side1 ?side2 ?side3 ?side4 ?side5 ?side6 A5.out).mono ?_); (case side1 => repeat (first | exact (Kd.C_below HR0_0.out HB.out) | (with_reducible refine Kd.C_alloc ?_ _) | (with_reducible refine Kd.C_drewN ?_ _) | (with_reducible refine Kd.C_drew ?_))); (case side2 => exact HC0_0.out); (case side3 => repeat (first | exact (Kd.C_below HR0_1.out HB.out) | (with_reducible refine Kd.C_alloc ?_ _) | (with_reducible refine Kd.C_drewN ?_ _) | (with_reducible refine Kd.C_drew ?_))); (case side4 => exact HC0_1.out); (case side5 => repeat (first | exact (Kd.C_below HR1.out HB.out) | (with_reducible refine Kd.C_alloc ?_ _) | (with_reducible refine Kd.C_drewN ?_ _) | (with_reducible refine Kd.C_drew ?_))); (case side6 => exact HC1.out); rintro e w13 ⟨rfl, hb⟩; refine ⟨_, rfl, ?_⟩; have n0_ := Aside0.mk (blk_below (g := gb267) (o := .cells #[.slice A0_0 l0_0.length c0_0, .slice A0_1 l0_1.length c0_1] 32 (0, 0)) (kZ BK267.out) hb); have n1_ := Aside0.mk (below_step bZ hb); clear BK267; clear HB; have BK267 := n0_; have HB := n1_; clear n0_ n1_; (try clear hb); (try clear hb2); (try clear hk); (try clear hi)))
     have n0_ := Aside0.mk (blk_drew BK267.out)
     have n1_ := Aside0.mk (below_drew1 HB.out)
     clear BK267; clear HB
     have BK267 := n0_
     have HB := n1_
     clear n0_ n1_
     refine start_ (n := 10) (S := fun w' => w'.cell? ⟨gb267, 0, none⟩ = some (.slice A0_0 l0_0.length c0_0) ∧ w'.cell? ⟨gb267, 1, none⟩ = some (.slice A0_1 l0_1.length c0_1)) (ds := []) #[false, false, false, false, false, false, false, false, false, false] (by kernel_rfl) rfl rfl ⟨(blk_cell BK267.out 0).trans rfl, (blk_cell BK267.out 1).trans rfl⟩ (fun hHeld => ?_); refine with_tabW impl_NodeReport.tab5 impl_NodeReport.bits5 (fun HT_ HW_ => ?_)
     generalize w13.drew = w14 at BK267 HB hHeld ⊢
     refine puZ 0 (some 23) #[true, false, false, false, false, false, false, false, false, false] rfl rfl HT_.out ?_
     refine puZ 4 (some 27) #[true, false, false, false, true, false, false, false, false, false] rfl rfl HT_.out ?_
     refine take_ (i := 1) (N := some 24) (v := ?_) (a' := ?_) #[true, true, false, false, true, false, false, false, false, false] rfl rfl (take_ofW HT_.out HW_.out (by kernel_rfl)) (fun _ _ _ h => h) (Or.inl ⟨by rfl, ?_⟩) hHeld ?_ ?_
     rotate_left
     ·rintro w' ⟨s0, s1⟩
      go_simp
      with_reducible rfl
     rotate_left
     ·simp only [Act.put, List.setIfInBounds_toArray, List.set_cons_zero, List.set_cons_succ, i64_w, i32_w]
      rfl
     refine puZ 2 (some 25) #[true, true, true, false, true, false, false, false, false, false] rfl rfl HT_.out ?_
     refine take_ (i := 5) (N := some 28) (v := ?_) (a' := ?_) #[true, true, true, false, true, true, false, false, false, false] rfl rfl (take_ofW HT_.out HW_.out (by kernel_rfl)) (fun _ _ _ h => h) (Or.inl ⟨by rfl, ?_⟩) hHeld ?_ ?_
     rotate_left
     ·rintro w' ⟨s0, s1⟩
      go_simp
      with_reducible rfl
     rotate_left
     ·simp only [Act.put, List.setIfInBounds_toArray, List.set_cons_zero, List.set_cons_succ, i64_w, i32_w]
      rfl
     refine puZ 6 (some 29) #[true, true, true, false, true, true, true, false, false, false] rfl rfl HT_.out ?_
     refine join_ (σ := Value × Value) 1 #[true, true, true, true, true, true, true, true, true, false] (fun s_ => [(26, s_.1), (30, s_.2), (6, s_.1)]) (fun s_ w' => (w'.cell? ⟨gb267, 0, none⟩ = some (.slice A0_0 l0_0.length c0_0) ∧ w'.cell? ⟨gb267, 1, none⟩ = some (.slice A0_1 l0_1.length c0_1)) ∧ (Kd.R (Kd.int .i64) 2 w' w.heap.size (fun k_ => some k_ ≠ (s_.2 : Value).ownBlock) s_.1 y270) ∧ (Kd.R (Kd.int .i64) 2 w' w.heap.size (fun k_ => some k_ ≠ (s_.1 : Value).ownBlock) s_.2 y273) ∧ (w'.heap[gb267]? = some (.cells #[.slice A0_0 l0_0.length c0_0, .slice A0_1 l0_1.length c0_1] 32 (0, 0))) ∧ (Below w.heap.size w w')) ?_ ?_
     rotate_left
     ·intro hCont
      refine two_ (i := 3) (j := 7) (Ni := some 26) (Nj := some 30) #[true, true, true, true, true, true, true, false, false, false] #[true, true, true, false, true, true, true, true, false, false] rfl rfl rfl rfl (two_of HT_.out (by kernel_rfl)) (by decide) (by decide) (fun K hK => ?_) (fun K hK => ?_)
      ·skip
       refine Kd.R_make_step (Kd.int .i64) _ 2 (by rfl) (N := 26) rfl 22 _ _ rfl (l0_0.length : Int) rfl rfl Tryz.underlying22 (.int .i64 0) 8 info2 rfl (by decide) (by omega) 0 (ok := fun _ => True) (okp := fun _ => True) rfl (fun _ hk => hk) trivial oZ (Nat.le_trans (Nat.mul_le_mul_right _ (oZ : (l0_0.length : Int).toNat ≤ 35184372088832)) (by omega)) (Below.refl _ _) (Nat.le_refl _) ?_
       intro v271 w15 ho16 hb hg_ hnew_
       clear hg_ hnew_
       (first | rw [← Ny270.out] at ho16 | (simp only [Int.reduceToNat] at ho16; rw [← Ny270.out] at ho16))
       have n0_ := Aside0.mk (Kd.R_lower ho16 bsZ)
       have n1_ := Aside0.mk (blk_below (g := gb267) (o := .cells #[.slice A0_0 l0_0.length c0_0, .slice A0_1 l0_1.length c0_1] 32 (0, 0)) (kZ BK267.out) hb)
       have n2_ := Aside0.mk (below_step bZ hb)
       clear BK267; clear HB
       have HO272 := n0_
       have BK267 := n1_
       have HB := n2_
       clear n0_ n1_ n2_
       clear hb ho16
       refine hK.out _ _ ⟨(blk_cell BK267.out 0).trans rfl, (blk_cell BK267.out 1).trans rfl⟩ (fun hHeld => ?_)
       clear hK K
       refine norm_ (a' := ?_) ?_ ?_
       rotate_left
       ·show Act.put _ (some 26) _ = _
        simp only [Act.put, List.setIfInBounds_toArray, List.set_cons_zero, List.set_cons_succ, i64_w, i32_w]
        rfl
       refine puZ 8 (some 6) #[true, true, true, true, true, true, true, false, true, false] rfl rfl HT_.out ?_
       refine one_ (i := 7) (N := some 30) #[true, true, true, true, true, true, true, true, true, false] rfl rfl (one_of HT_.out (by kernel_rfl)) (by decide) (fun K hK => ?_)
       refine Kd.R_make_step (Kd.int .i64) _ 2 (by rfl) (N := 30) rfl 22 _ _ rfl (l0_0.length : Int) rfl rfl Tryz.underlying22 (.int .i64 0) 8 info2 rfl (by decide) (by omega) 0 (ok := fun _ => True) (okp := fun _ => True) rfl (fun _ hk => hk) trivial oZ (Nat.le_trans (Nat.mul_le_mul_right _ (oZ : (l0_0.length : Int).toNat ≤ 35184372088832)) (by omega)) (Below.refl _ _) (Nat.le_refl _) ?_
       intro v274 w17 ho18 hb hg_ hnew_
       clear hg_ hnew_
       (first | rw [← Ny273.out] at ho18 | (simp only [Int.reduceToNat] at ho18; rw [← Ny273.out] at ho18))
       have n0_ := Aside0.mk (Kd.R_elder' (Kd.rZ HO272.out) (Kd.R_base ho18) hb)
       have n1_ := Aside0.mk (Kd.R_lower (Kd.R_new' ho18 (Kd.R_lt (Kd.rZ HO272.out))) bsZ)
       have n2_ := Aside0.mk (blk_below (g := gb267) (o := .cells #[.slice A0_0 l0_0.length c0_0, .slice A0_1 l0_1.length c0_1] 32 (0, 0)) (kZ BK267.out) hb)
       have n3_ := Aside0.mk (below_step bZ hb)
       clear HO272; clear BK267; clear HB
       have HO272 := n0_
       have HO275 := n1_
       have BK267 := n2_
       have HB := n3_
       clear n0_ n1_ n2_ n3_
       clear hb ho18
       refine hK.out _ _ ⟨(blk_cell BK267.out 0).trans rfl, (blk_cell BK267.out 1).trans rfl⟩ (fun hHeld => ?_)
       clear hK K
       refine norm_ (a' := ?_) ?_ ?_
       rotate_left
       ·show Act.put _ (some 30) _ = _
        simp only [Act.put, List.setIfInBounds_toArray, List.set_cons_zero, List.set_cons_succ, i64_w, i32_w]
        rfl
       exact norm_ (by simp only [putAll, Act.put, List.setIfInBounds_toArray, List.set_cons_zero, List.set_cons_succ]) (hCont (v271, v274) _ ⟨hHeld, (Kd.rZ (Kd.R_mono HO272.out (fun _ hk => hk.2))), (Kd.rZ (Kd.R_mono HO275.out (fun _ hk => hk.2))), (kZ BK267.out), bZ⟩)
      ·skip
       refine Kd.R_make_step (Kd.int .i64) _ 2 (by rfl) (N := 30) rfl 22 _ _ rfl (l0_0.length : Int) rfl rfl Tryz.underlying22 (.int .i64 0) 8 info2 rfl (by decide) (by omega) 0 (ok := fun _ => True) (okp := fun _ => True) rfl (fun _ hk => hk) trivial oZ (Nat.le_trans (Nat.mul_le_mul_right _ (oZ : (l0_0.length : Int).toNat ≤ 35184372088832)) (by omega)) (Below.refl _ _) (Nat.le_refl _) ?_
       intro v274 w15 ho16 hb hg_ hnew_
       clear hg_ hnew_
       (first | rw [← Ny273.out] at ho16 | (simp only [Int.reduceToNat] at ho16; rw [← Ny273.out] at ho16))
       have n0_ := Aside0.mk (Kd.R_lower ho16 bsZ)
       have n1_ := Aside0.mk (blk_below (g := gb267) (o := .cells #[.slice A0_0 l0_0.length c0_0, .slice A0_1 l0_1.length c0_1] 32 (0, 0)) (kZ BK267.out) hb)
       have n2_ := Aside0.mk (below_step bZ hb)
       clear BK267; clear HB
       have HO275 := n0_
       have BK267 := n1_
       have HB := n2_
       clear n0_ n1_ n2_
       clear hb ho16
       refine hK.out _ _ ⟨(blk_cell BK267.out 0).trans rfl, (blk_cell BK267.out 1).trans rfl⟩ (fun hHeld => ?_)
       clear hK K
       refine norm_ (a' := ?_) ?_ ?_
       rotate_left
       ·show Act.put _ (some 30) _ = _
        simp only [Act.put, List.setIfInBounds_toArray, List.set_cons_zero, List.set_cons_succ, i64_w, i32_w]
        rfl
       refine one_ (i := 3) (N := some 26) #[true, true, true, true, true, true, true, true, false, false] rfl rfl (one_of HT_.out (by kernel_rfl)) (by decide) (fun K hK => ?_)
       refine Kd.R_make_step (Kd.int .i64) _ 2 (by rfl) (N := 26) rfl 22 _ _ rfl (l0_0.length : Int) rfl rfl Tryz.underlying22 (.int .i64 0) 8 info2 rfl (by decide) (by omega) 0 (ok := fun _ => True) (okp := fun _ => True) rfl (fun _ hk => hk) trivial oZ (Nat.le_trans (Nat.mul_le_mul_right _ (oZ : (l0_0.length : Int).toNat ≤ 35184372088832)) (by omega)) (Below.refl _ _) (Nat.le_refl _) ?_
       intro v271 w17 ho18 hb hg_ hnew_
       clear hg_ hnew_
       (first | rw [← Ny270.out] at ho18 | (simp only [Int.reduceToNat] at ho18; rw [← Ny270.out] at ho18))
       have n0_ := Aside0.mk (Kd.R_elder' (Kd.rZ HO275.out) (Kd.R_base ho18) hb)
       have n1_ := Aside0.mk (Kd.R_lower (Kd.R_new' ho18 (Kd.R_lt (Kd.rZ HO275.out))) bsZ)
       have n2_ := Aside0.mk (blk_below (g := gb267) (o := .cells #[.slice A0_0 l0_0.length c0_0, .slice A0_1 l0_1.length c0_1] 32 (0, 0)) (kZ BK267.out) hb)
       have n3_ := Aside0.mk (below_step bZ hb)
       clear HO275; clear BK267; clear HB
       have HO275 := n0_
       have HO272 := n1_
       have BK267 := n2_
       have HB := n3_
       clear n0_ n1_ n2_ n3_
       clear hb ho18
       refine hK.out _ _ ⟨(blk_cell BK267.out 0).trans rfl, (blk_cell BK267.out 1).trans rfl⟩ (fun hHeld => ?_)
       clear hK K
       refine norm_ (a' := ?_) ?_ ?_
       rotate_left
       ·show Act.put _ (some 26) _ = _
        simp only [Act.put, List.setIfInBounds_toArray, List.set_cons_zero, List.set_cons_succ, i64_w, i32_w]
        rfl
       refine puZ 8 (some 6) #[true, true, true, true, true, true, true, true, true, false] rfl rfl HT_.out ?_
       exact norm_ (by simp only [putAll, Act.put, List.setIfInBounds_toArray, List.set_cons_zero, List.set_cons_succ]) (hCont (v271, v274) _ ⟨hHeld, (Kd.rZ (Kd.R_mono HO272.out (fun _ hk => hk.2))), (Kd.rZ (Kd.R_mono HO275.out (fun _ hk => hk.2))), (kZ BK267.out), bZ⟩)
     rintro ⟨v271, v274⟩ w19 ⟨hS_, h0_, h1_, h2_, h3_⟩
     have n0_ : Aside0 (Kd.R (Kd.int .i64) 2 w19 w.heap.size (fun k_ => some k_ ≠ (v274 : Value).ownBlock) v271 y270) := ⟨h0_⟩
     have n1_ : Aside0 (Kd.R (Kd.int .i64) 2 w19 w.heap.size (fun k_ => some k_ ≠ (v271 : Value).ownBlock) v274 y273) := ⟨h1_⟩
     have n2_ : Aside0 (w19.heap[gb267]? = some (.cells #[.slice A0_0 l0_0.length c0_0, .slice A0_1 l0_1.length c0_1] 32 (0, 0))) := ⟨h2_⟩
     have n3_ : Aside0 (Below w.heap.size w w19) := ⟨h3_⟩
     clear BK267; clear HB
     clear h0_ h1_ h2_ h3_
     have HO272 := n0_
     have HO275 := n1_
     have BK267 := n2_
     have HB := n3_
     clear n0_ n1_ n2_ n3_
     have hHeld : w19.cell? ⟨gb267, 0, none⟩ = some (.slice A0_0 l0_0.length c0_0) ∧ w19.cell? ⟨gb267, 1, none⟩ = some (.slice A0_1 l0_1.length c0_1) := hS_
     refine norm_ (a' := ?_) ?_ ?_
     rotate_left
     ·simp only [putAll, Act.put, List.setIfInBounds_toArray, List.set_cons_zero, List.set_cons_succ]
      rfl
     refine puZ 9 (some 7) #[true, true, true, true, true, true, true, true, true, true] rfl rfl HT_.out ?_
     refine done_ (done_of HT_.out (by kernel_rfl)) ?_
     have hcz20_0 := bc0 BK267.out
     have hcz20_1 := bc1 BK267.out
     have hfz20_0 := blk_frozen BK267.out 0
     have hfz20_1 := blk_frozen BK267.out 1
     try go_wp2
     go_loopg [34] k (fun kq v34 w' => ∃ (x6_1 : List Int) (x7_1 : List Int) (x34_1 : Int), v34 = .int .i64 x34_1 ∧ Aside0 (impl_NodeReport.l0 kq l1 x6_1 x7_1 l0_1 (l0_1.length : Int) x34_1 l0_0 l0_1 = some (r1, r2)) ∧ Aside0 (kq ≤ k) ∧ Aside0 (Kd.R (Kd.int .i64) 2 w' w.heap.size (fun k_ => some k_ ≠ (v274 : Value).ownBlock) v271 x6_1) ∧ Aside0 (Kd.R (Kd.int .i64) 2 w' w.heap.size (fun k_ => some k_ ≠ (v271 : Value).ownBlock) v274 x7_1) ∧ Aside0 (w'.heap[gb267]? = some (.cells #[(.slice A0_0 l0_0.length c0_0), (.slice A0_1 l0_1.length c0_1)] 32 (0, 0))) ∧ Aside0 (Below w.heap.size w w'))
     case atStart => exact ⟨(y270), (y273), (0), sZ, H', ⟨Nat.le_refl _⟩, ⟨Kd.rZ HO272.out⟩, ⟨Kd.rZ HO275.out⟩, ⟨kZ BK267.out⟩, ⟨bZ⟩⟩
     case round =>
      clear H'; (try clear c1); (try clear p2); (try clear c3); (try clear c4); (try clear c6); (try clear c7); (try clear c7b0); (try clear c7b1); (try clear c8); (try clear c8b0); (try clear c8b1); (try clear c10); (try clear hcz10_0); (try clear hcz10_1); (try clear hcz12_0); (try clear hcz12_1); (try clear hcz20_0); (try clear hcz20_1); (try clear hfz10_0); (try clear hfz10_1); (try clear hfz12_0); (try clear hfz12_1); (try clear hfz20_0); (try clear hfz20_1)
      obtain ⟨x6_1, x7_1, x34_1, rfl, HA, HK1, HO_6, HO_7, BK267, HB⟩ := hrel
      cases gk with
      | zero => exact absurd HA.out (by simp [impl_NodeReport.l0])
      | succ k1 =>
       have H := HA.out
       clear HA
       simp only [impl_NodeReport.l0] at H
       by_cases c21 : x34_1 < (l0_1.length : Int)
       ·rw [if_pos c21] at H
        have c21b0 : decide (x34_1 < (l0_1.length : Int)) = true := decide_eq_true c21
        clear c21
        by_cases c22 : 0 ≤ x34_1
        ·rw [if_pos c22] at H
         have c22b0 : decide (0 ≤ x34_1) = true := decide_eq_true c22
         clear c22
         by_cases c23 : x34_1 < (l0_1.length : Int)
         ·rw [if_pos c23] at H
          have c23b0 : decide (x34_1 < (l0_1.length : Int)) = true := decide_eq_true c23
          clear c23
          by_cases c24 : x34_1 < (l1.length : Int)
          ·rw [if_pos c24] at H
           have c24b0 : decide (x34_1 < (l1.length : Int)) = true := decide_eq_true c24
           clear c24
           have HC25 := Aside0.mk H
           clear H
           have p276 : 0 ≤ (x34_1 : Int) := oZ
           have q276 : x34_1 < (l0_1.length : Int) := oZ
           obtain ⟨ad276, e276, hx276_0, hx276_1, hx276_2, hx276_3, hx276_4, hx276_5⟩ := at_T58 HR0_1.out x34_1 p276 q276
           cases e276
           replace hx276_0 := (HB.out.cell (World.block_lt_of_cell? w _ hx276_0)).trans hx276_0
           replace hx276_1 := (HB.out.cell (World.block_lt_of_cell? w _ hx276_1)).trans hx276_1
           replace hx276_2 := (HB.out.cell (World.block_lt_of_cell? w _ hx276_2)).trans hx276_2
           replace hx276_3 := (HB.out.cell (World.block_lt_of_cell? w _ hx276_3)).trans hx276_3
           replace hx276_4 := (HB.out.cell (World.block_lt_of_cell? w _ hx276_4)).trans hx276_4
           replace hx276_5 := (HB.out.cell (World.block_lt_of_cell? w _ hx276_5)).trans hx276_5
           replace p276 := eq_true p276
           replace q276 := eq_true q276
           try go_wp2_with (first | ((with_reducible refine gate_dst (N := 9) rfl ?_); refine boxZ 9 #[.string (⟨#[]⟩ : ByteArray), .int .i64 0, .int .i64 0, .int .i64 0, .int .i64 0, .int .i64 0] 58 rfl rfl ?_; intro gb277 hg w26 hbox hb; have n0_ := Aside0.mk (Kd.R_below (Kd.rZ HO_6.out) hb); have n1_ := Aside0.mk (Kd.R_below (Kd.rZ HO_7.out) hb); have n2_ := Aside0.mk (blk_below (g := gb267) (o := .cells #[.slice A0_0 l0_0.length c0_0, .slice (some ad276) l0_1.length c0_1] 32 (0, 0)) (kZ BK267.out) hb); have n3_ := Aside0.mk (below_step bZ hb); have n4_ := Aside0.mk (hbox); have n5_ := Aside0.mk ((by rw [hg]; exact bsZ : w.heap.size ≤ gb277)); have n6_ := Aside0.mk ((by rw [hg]; exact bsZ : w.heap.size ≤ gb277)); have n7_ := Aside0.mk ((by rw [hg]; exact Nat.ne_of_lt (blk_lt (g := gb267) (o := .cells #[.slice A0_0 l0_0.length c0_0, .slice (some ad276) l0_1.length c0_1] 32 (0, 0)) (kZ BK267.out)) : gb267 ≠ gb277)); have n8_ := Aside0.mk ((by rw [hg]; exact Nat.ne_of_gt (blk_lt (g := gb267) (o := .cells #[.slice A0_0 l0_0.length c0_0, .slice (some ad276) l0_1.length c0_1] 32 (0, 0)) (kZ BK267.out)) : gb277 ≠ gb267)); clear HO_6; clear HO_7; clear BK267; clear HB; have HO_6 := n0_; have HO_7 := n1_; have BK267 := n2_; have HB := n3_; have BK277 := n4_; have GW277 := n5_; have GE277 := n6_; have NB267_277 := n7_; have NB277_267 := n8_; clear n0_ n1_ n2_ n3_ n4_ n5_ n6_ n7_ n8_; clear hb hbox hg; have hnb27 := NB277_267.out; have hnc27 := NB267_277.out; have hcz28_0 := bc0 BK277.out; have hcz28_1 := bc1 BK277.out; have hcz28_2 := bc2 BK277.out; have hcz28_3 := bc3 BK277.out; have hcz28_4 := bc4 BK277.out; have hcz28_5 := bc5 BK277.out; have hfz28_0 := blk_frozen BK277.out 0; have hfz28_1 := blk_frozen BK277.out 1; have hfz28_2 := blk_frozen BK277.out 2; have hfz28_3 := blk_frozen BK277.out 3; have hfz28_4 := blk_frozen BK277.out 4; have hfz28_5 := blk_frozen BK277.out 5))
           have n0_ : Aside0 (Kd.R (Kd.int .i64) 2 ((((((w26.setCell ⟨gb277, 0, none⟩ (.string ((rd_T58 l0_1 x34_1).f0))).setCell ⟨gb277, 1, none⟩ (.int .i64 ((rd_T58 l0_1 x34_1).f1))).setCell ⟨gb277, 2, none⟩ (.int .i64 ((rd_T58 l0_1 x34_1).f2))).setCell ⟨gb277, 3, none⟩ (.int .i64 ((rd_T58 l0_1 x34_1).f3))).setCell ⟨gb277, 4, none⟩ (.int .i64 ((rd_T58 l0_1 x34_1).f4))).setCell ⟨gb277, 5, none⟩ (.int .i64 ((rd_T58 l0_1 x34_1).f5))) w.heap.size (fun k_ => some k_ ≠ (v274 : Value).ownBlock) v271 x6_1) := ⟨Kd.rZ (Kd.R_mono (Kd.R_far (p := ⟨gb277, 5, none⟩) (Kd.R_far (p := ⟨gb277, 4, none⟩) (Kd.R_far (p := ⟨gb277, 3, none⟩) (Kd.R_far (p := ⟨gb277, 2, none⟩) (Kd.R_far (p := ⟨gb277, 1, none⟩) (Kd.R_far (p := ⟨gb277, 0, none⟩) (Kd.R_types HO_6.out BK277.out (by decide)) (fun _ hk => hk.2) (.string ((rd_T58 l0_1 x34_1).f0))) (fun _ hk => hk.2) (.int .i64 ((rd_T58 l0_1 x34_1).f1))) (fun _ hk => hk.2) (.int .i64 ((rd_T58 l0_1 x34_1).f2))) (fun _ hk => hk.2) (.int .i64 ((rd_T58 l0_1 x34_1).f3))) (fun _ hk => hk.2) (.int .i64 ((rd_T58 l0_1 x34_1).f4))) (fun _ hk => hk.2) (.int .i64 ((rd_T58 l0_1 x34_1).f5))) (fun _ hk => hk.1))⟩
           have n1_ : Aside0 (Kd.R (Kd.int .i64) 2 ((((((w26.setCell ⟨gb277, 0, none⟩ (.string ((rd_T58 l0_1 x34_1).f0))).setCell ⟨gb277, 1, none⟩ (.int .i64 ((rd_T58 l0_1 x34_1).f1))).setCell ⟨gb277, 2, none⟩ (.int .i64 ((rd_T58 l0_1 x34_1).f2))).setCell ⟨gb277, 3, none⟩ (.int .i64 ((rd_T58 l0_1 x34_1).f3))).setCell ⟨gb277, 4, none⟩ (.int .i64 ((rd_T58 l0_1 x34_1).f4))).setCell ⟨gb277, 5, none⟩ (.int .i64 ((rd_T58 l0_1 x34_1).f5))) w.heap.size (fun k_ => some k_ ≠ (v271 : Value).ownBlock) v274 x7_1) := ⟨Kd.rZ (Kd.R_mono (Kd.R_far (p := ⟨gb277, 5, none⟩) (Kd.R_far (p := ⟨gb277, 4, none⟩) (Kd.R_far (p := ⟨gb277, 3, none⟩) (Kd.R_far (p := ⟨gb277, 2, none⟩) (Kd.R_far (p := ⟨gb277, 1, none⟩) (Kd.R_far (p := ⟨gb277, 0, none⟩) (Kd.R_types HO_7.out BK277.out (by decide)) (fun _ hk => hk.2) (.string ((rd_T58 l0_1 x34_1).f0))) (fun _ hk => hk.2) (.int .i64 ((rd_T58 l0_1 x34_1).f1))) (fun _ hk => hk.2) (.int .i64 ((rd_T58 l0_1 x34_1).f2))) (fun _ hk => hk.2) (.int .i64 ((rd_T58 l0_1 x34_1).f3))) (fun _ hk => hk.2) (.int .i64 ((rd_T58 l0_1 x34_1).f4))) (fun _ hk => hk.2) (.int .i64 ((rd_T58 l0_1 x34_1).f5))) (fun _ hk => hk.1))⟩
           have n2_ : Aside0 (((((((w26.setCell ⟨gb277, 0, none⟩ (.string ((rd_T58 l0_1 x34_1).f0))).setCell ⟨gb277, 1, none⟩ (.int .i64 ((rd_T58 l0_1 x34_1).f1))).setCell ⟨gb277, 2, none⟩ (.int .i64 ((rd_T58 l0_1 x34_1).f2))).setCell ⟨gb277, 3, none⟩ (.int .i64 ((rd_T58 l0_1 x34_1).f3))).setCell ⟨gb277, 4, none⟩ (.int .i64 ((rd_T58 l0_1 x34_1).f4))).setCell ⟨gb277, 5, none⟩ (.int .i64 ((rd_T58 l0_1 x34_1).f5))).heap[gb267]? = some (.cells #[.slice A0_0 l0_0.length c0_0, .slice (some ad276) l0_1.length c0_1] 32 (0, 0))) := ⟨by (with_reducible repeat (first | refine blk_drewN ?_ _ | refine blk_drew ?_ | refine blk_alloc ?_ _)); refine blk_far ?_ NB267_277.out _; (with_reducible repeat (first | refine blk_drewN ?_ _ | refine blk_drew ?_ | refine blk_alloc ?_ _)); refine blk_far ?_ NB267_277.out _; (with_reducible repeat (first | refine blk_drewN ?_ _ | refine blk_drew ?_ | refine blk_alloc ?_ _)); refine blk_far ?_ NB267_277.out _; (with_reducible repeat (first | refine blk_drewN ?_ _ | refine blk_drew ?_ | refine blk_alloc ?_ _)); refine blk_far ?_ NB267_277.out _; (with_reducible repeat (first | refine blk_drewN ?_ _ | refine blk_drew ?_ | refine blk_alloc ?_ _)); refine blk_far ?_ NB267_277.out _; (with_reducible repeat (first | refine blk_drewN ?_ _ | refine blk_drew ?_ | refine blk_alloc ?_ _)); refine blk_far ?_ NB267_277.out _; (with_reducible repeat (first | refine blk_drewN ?_ _ | refine blk_drew ?_ | refine blk_alloc ?_ _)); exact BK267.out⟩
           have n3_ : Aside0 (((((((w26.setCell ⟨gb277, 0, none⟩ (.string ((rd_T58 l0_1 x34_1).f0))).setCell ⟨gb277, 1, none⟩ (.int .i64 ((rd_T58 l0_1 x34_1).f1))).setCell ⟨gb277, 2, none⟩ (.int .i64 ((rd_T58 l0_1 x34_1).f2))).setCell ⟨gb277, 3, none⟩ (.int .i64 ((rd_T58 l0_1 x34_1).f3))).setCell ⟨gb277, 4, none⟩ (.int .i64 ((rd_T58 l0_1 x34_1).f4))).setCell ⟨gb277, 5, none⟩ (.int .i64 ((rd_T58 l0_1 x34_1).f5))).heap[gb277]? = some (.cells #[.string ((rd_T58 l0_1 x34_1).f0), .int .i64 ((rd_T58 l0_1 x34_1).f1), .int .i64 ((rd_T58 l0_1 x34_1).f2), .int .i64 ((rd_T58 l0_1 x34_1).f3), .int .i64 ((rd_T58 l0_1 x34_1).f4), .int .i64 ((rd_T58 l0_1 x34_1).f5)] 58 (0, 0))) := ⟨by (with_reducible repeat (first | refine blk_drewN ?_ _ | refine blk_drew ?_ | refine blk_alloc ?_ _)); refine blk_put (cs := #[.string ((rd_T58 l0_1 x34_1).f0), .int .i64 ((rd_T58 l0_1 x34_1).f1), .int .i64 ((rd_T58 l0_1 x34_1).f2), .int .i64 ((rd_T58 l0_1 x34_1).f3), .int .i64 ((rd_T58 l0_1 x34_1).f4), .int .i64 0]) ?_ 5 _ rfl; (with_reducible repeat (first | refine blk_drewN ?_ _ | refine blk_drew ?_ | refine blk_alloc ?_ _)); refine blk_put (cs := #[.string ((rd_T58 l0_1 x34_1).f0), .int .i64 ((rd_T58 l0_1 x34_1).f1), .int .i64 ((rd_T58 l0_1 x34_1).f2), .int .i64 ((rd_T58 l0_1 x34_1).f3), .int .i64 0, .int .i64 0]) ?_ 4 _ rfl; (with_reducible repeat (first | refine blk_drewN ?_ _ | refine blk_drew ?_ | refine blk_alloc ?_ _)); refine blk_put (cs := #[.string ((rd_T58 l0_1 x34_1).f0), .int .i64 ((rd_T58 l0_1 x34_1).f1), .int .i64 ((rd_T58 l0_1 x34_1).f2), .int .i64 0, .int .i64 0, .int .i64 0]) ?_ 3 _ rfl; (with_reducible repeat (first | refine blk_drewN ?_ _ | refine blk_drew ?_ | refine blk_alloc ?_ _)); refine blk_put (cs := #[.string ((rd_T58 l0_1 x34_1).f0), .int .i64 ((rd_T58 l0_1 x34_1).f1), .int .i64 0, .int .i64 0, .int .i64 0, .int .i64 0]) ?_ 2 _ rfl; (with_reducible repeat (first | refine blk_drewN ?_ _ | refine blk_drew ?_ | refine blk_alloc ?_ _)); refine blk_put (cs := #[.string ((rd_T58 l0_1 x34_1).f0), .int .i64 0, .int .i64 0, .int .i64 0, .int .i64 0, .int .i64 0]) ?_ 1 _ rfl; (with_reducible repeat (first | refine blk_drewN ?_ _ | refine blk_drew ?_ | refine blk_alloc ?_ _)); refine blk_put (cs := #[.string (⟨#[]⟩ : ByteArray), .int .i64 0, .int .i64 0, .int .i64 0, .int .i64 0, .int .i64 0]) ?_ 0 _ rfl; (with_reducible repeat (first | refine blk_drewN ?_ _ | refine blk_drew ?_ | refine blk_alloc ?_ _)); exact BK277.out⟩
           have n4_ : Aside0 (Below w.heap.size w ((((((w26.setCell ⟨gb277, 0, none⟩ (.string ((rd_T58 l0_1 x34_1).f0))).setCell ⟨gb277, 1, none⟩ (.int .i64 ((rd_T58 l0_1 x34_1).f1))).setCell ⟨gb277, 2, none⟩ (.int .i64 ((rd_T58 l0_1 x34_1).f2))).setCell ⟨gb277, 3, none⟩ (.int .i64 ((rd_T58 l0_1 x34_1).f3))).setCell ⟨gb277, 4, none⟩ (.int .i64 ((rd_T58 l0_1 x34_1).f4))).setCell ⟨gb277, 5, none⟩ (.int .i64 ((rd_T58 l0_1 x34_1).f5)))) := ⟨bZ⟩
           (try clear HO_6)
           (try clear HO_7)
           (try clear BK267)
           (try clear BK277)
           (try clear HB)
           generalize ((((((w26.setCell ⟨gb277, 0, none⟩ (.string ((rd_T58 l0_1 x34_1).f0))).setCell ⟨gb277, 1, none⟩ (.int .i64 ((rd_T58 l0_1 x34_1).f1))).setCell ⟨gb277, 2, none⟩ (.int .i64 ((rd_T58 l0_1 x34_1).f2))).setCell ⟨gb277, 3, none⟩ (.int .i64 ((rd_T58 l0_1 x34_1).f3))).setCell ⟨gb277, 4, none⟩ (.int .i64 ((rd_T58 l0_1 x34_1).f4))).setCell ⟨gb277, 5, none⟩ (.int .i64 ((rd_T58 l0_1 x34_1).f5))) = w29 at n0_ n1_ n2_ n3_ n4_ ⊢
           have HO_6 := n0_
           have HO_7 := n1_
           have BK267 := n2_
           have BK277 := n3_
           have HB := n4_
           clear n0_ n1_ n2_ n3_ n4_
           have n0_ := Aside0.mk (Kd.R_drew HO_6.out)
           have n1_ := Aside0.mk (Kd.R_drew HO_7.out)
           have n2_ := Aside0.mk (blk_drew BK267.out)
           have n3_ := Aside0.mk (blk_drew BK277.out)
           have n4_ := Aside0.mk (below_drew1 HB.out)
           clear HO_6; clear HO_7; clear BK267; clear BK277; clear HB
           have HO_6 := n0_
           have HO_7 := n1_
           have BK267 := n2_
           have BK277 := n3_
           have HB := n4_
           clear n0_ n1_ n2_ n3_ n4_
           refine start_ (n := 6) (S := fun w' => w'.cell? ⟨gb277, 0, none⟩ = some (.string ((rd_T58 l0_1 x34_1).f0)) ∧ w'.cell? ⟨gb277, 1, none⟩ = some (.int .i64 ((rd_T58 l0_1 x34_1).f1)) ∧ w'.cell? ⟨gb277, 2, none⟩ = some (.int .i64 ((rd_T58 l0_1 x34_1).f2)) ∧ w'.cell? ⟨gb277, 3, none⟩ = some (.int .i64 ((rd_T58 l0_1 x34_1).f3)) ∧ w'.cell? ⟨gb277, 4, none⟩ = some (.int .i64 ((rd_T58 l0_1 x34_1).f4)) ∧ w'.cell? ⟨gb277, 5, none⟩ = some (.int .i64 ((rd_T58 l0_1 x34_1).f5))) (ds := []) #[false, false, false, false, false, false] (by kernel_rfl) rfl rfl ⟨(blk_cell BK277.out 0).trans rfl, (blk_cell BK277.out 1).trans rfl, (blk_cell BK277.out 2).trans rfl, (blk_cell BK277.out 3).trans rfl, (blk_cell BK277.out 4).trans rfl, (blk_cell BK277.out 5).trans rfl⟩ (fun hHeld => ?_)
           generalize w29.drew = w30 at HO_6 HO_7 BK267 BK277 HB hHeld ⊢
           refine puY 0 (some 39) #[true, false, false, false, false, false] rfl rfl ?_
           refine puY 2 (some 41) #[true, false, true, false, false, false] rfl rfl ?_
           refine take_ (i := 1) (N := some 40) (v := ?_) (a' := ?_) #[true, true, true, false, false, false] rfl rfl (by kernel_rfl) (fun _ _ _ h => h) (Or.inl ⟨by rfl, ?_⟩) hHeld ?_ ?_
           rotate_left
           ·rintro w' ⟨s0, s1, s2, s3, s4, s5⟩
            go_simp
            with_reducible rfl
           rotate_left
           ·simp only [Act.put, List.setIfInBounds_toArray, List.set_cons_zero, List.set_cons_succ, i64_w, i32_w]
            rfl
           refine puY 4 (some 10) #[true, true, true, false, true, false] rfl rfl ?_
           refine take_ (i := 3) (N := some 42) (v := ?_) (a' := ?_) #[true, true, true, true, true, false] rfl rfl (by kernel_rfl) (fun _ _ _ h => h) (Or.inl ⟨by rfl, ?_⟩) hHeld ?_ ?_
           rotate_left
           ·rintro w' ⟨s0, s1, s2, s3, s4, s5⟩
            go_simp
            with_reducible rfl
           rotate_left
           ·simp only [Act.put, List.setIfInBounds_toArray, List.set_cons_zero, List.set_cons_succ, i64_w, i32_w]
            rfl
           refine puY 5 (some 11) #[true, true, true, true, true, true] rfl rfl ?_
           refine done_ (by kernel_rfl) ?_
           have p278 : 0 ≤ (x34_1 : Int) := oZ
           have q278 : x34_1 < (l1.length : Int) := oZ
           obtain ⟨ad278, e278, hx278_0⟩ := Kd.at_int HR1.out x34_1 p278 q278
           cases e278
           replace hx278_0 := (HB.out.cell (World.block_lt_of_cell? w _ hx278_0)).trans hx278_0
           replace p278 := eq_true p278
           replace q278 := eq_true q278
           go_upto_if 47 with (fail)
           go_cut [10, 11] (fun v10 v11 wc => ∃ (kq : Nat) (x10_24 : Int) (x11_24 : Int), v10 = .int .i64 x10_24 ∧ v11 = .int .i64 x11_24 ∧ Aside0 (impl_NodeReport.j1 kq l1 x6_1 x7_1 x34_1 x10_24 x11_24 l0_1 (l0_1.length : Int) x34_1 l0_0 l0_1 = some (r1, r2)) ∧ Aside0 (kq ≤ k1) ∧ Aside0 (Kd.R (Kd.int .i64) 2 wc w.heap.size (fun k_ => some k_ ≠ (v274 : Value).ownBlock) v271 x6_1) ∧ Aside0 (Kd.R (Kd.int .i64) 2 wc w.heap.size (fun k_ => some k_ ≠ (v271 : Value).ownBlock) v274 x7_1) ∧ Aside0 (wc.heap[gb267]? = some (.cells #[(.slice A0_0 l0_0.length c0_0), (.slice (some ad276) l0_1.length c0_1)] 32 (0, 0))) ∧ Aside0 (wc.heap[gb277]? = some (.cells #[.string ((rd_T58 l0_1 x34_1).f0), .int .i64 ((rd_T58 l0_1 x34_1).f1), .int .i64 ((rd_T58 l0_1 x34_1).f2), .int .i64 ((rd_T58 l0_1 x34_1).f3), .int .i64 ((rd_T58 l0_1 x34_1).f4), .int .i64 ((rd_T58 l0_1 x34_1).f5)] 58 (0, 0))) ∧ Aside0 (Below w.heap.size w wc))
           case first =>
            have H := HC25.out
            clear HC25
            by_cases c31 : (rd l1 x34_1) < 0
            ·rw [if_pos c31] at H
             have c31b0 : decide ((rd l1 x34_1) < 0) = true := decide_eq_true c31
             clear c31
             (first | rw [c31b0] | (simp only [i64_w, i32_w]; rw [c31b0]) | skip)
             have H' := Aside0.mk H
             clear H
             go_wp2
             go_meet
             case rel => exact ⟨_, ((rd_T58 l0_1 x34_1).f2), ((rd_T58 l0_1 x34_1).f1), sZ, sZ, H', ⟨by have := HK1.out; first | omega | exact Nat.le_refl _⟩, ⟨Kd.rZ HO_6.out⟩, ⟨Kd.rZ HO_7.out⟩, ⟨kZ BK267.out⟩, ⟨kZ BK277.out⟩, ⟨bZ⟩⟩
            ·rw [if_neg c31] at H
             have c31b0 : decide ((rd l1 x34_1) < 0) = false := decide_eq_false c31
             clear c31
             (first | rw [c31b0] | (simp only [i64_w, i32_w]; rw [c31b0]) | skip)
             have H' := Aside0.mk H
             clear H
             go_wp2
             go_meet
             case rel => exact ⟨_, ((rd_T58 l0_1 x34_1).f1), ((rd_T58 l0_1 x34_1).f2), sZ, sZ, H', ⟨by have := HK1.out; first | omega | exact Nat.le_refl _⟩, ⟨Kd.rZ HO_6.out⟩, ⟨Kd.rZ HO_7.out⟩, ⟨kZ BK267.out⟩, ⟨kZ BK277.out⟩, ⟨bZ⟩⟩
           case rest =>
            clear HC25; (try clear c1); (try clear c2); (try clear p2); (try clear q2); (try clear hx2); (try clear c3); (try clear c4); (try clear c6); (try clear c7); (try clear c7b0); (try clear c7b1); (try clear c8); (try clear c8b0); (try clear c8b1); (try clear c10); (try clear c21); (try clear c21b0); (try clear c22); (try clear c22b0); (try clear c23); (try clear c23b0); (try clear c24); (try clear c24b0); (try clear c27); (try clear p27); (try clear q27); (try clear hx27); (try clear c31); (try clear c31b0); (try clear hcz10_0); (try clear hcz10_1); (try clear hcz12_0); (try clear hcz12_1); (try clear hcz20_0); (try clear hcz20_1); (try clear hcz28_0); (try clear hcz28_1); (try clear hcz28_2); (try clear hcz28_3); (try clear hcz28_4); (try clear hcz28_5); (try clear hfz10_0); (try clear hfz10_1); (try clear hfz12_0); (try clear hfz12_1); (try clear hfz20_0); (try clear hfz20_1); (try clear hfz28_0); (try clear hfz28_1); (try clear hfz28_2); (try clear hfz28_3); (try clear hfz28_4); (try clear hfz28_5); (try clear hx276_0); (try clear hx276_1); (try clear hx276_2); (try clear hx276_3); (try clear hx276_4); (try clear hx276_5); (try clear hx278_0); (try clear p2); (try clear p276); (try clear p278); (try clear q276); (try clear q278)
            obtain ⟨kq, x10_24, x11_24, rfl, rfl, HA, HJ24, HO_6, HO_7, BK267, BK277, HB⟩ := hcut
            cases kq with
            | zero => exact absurd HA.out (by simp [impl_NodeReport.j1])
            | succ kj24 =>
             have H := HA.out
             clear HA
             simp only [impl_NodeReport.j1] at H
             by_cases c32 : 0 ≤ x10_24
             ·rw [if_pos c32] at H
              have c32b0 : decide (0 ≤ x10_24) = true := decide_eq_true c32
              clear c32
              by_cases c33 : x10_24 < (x7_1.length : Int)
              ·rw [if_pos c33] at H
               have c33b0 : decide (x10_24 < (x7_1.length : Int)) = true := decide_eq_true c33
               clear c33
               by_cases c34 : 0 ≤ x34_1
               ·rw [if_pos c34] at H
                have c34b0 : decide (0 ≤ x34_1) = true := decide_eq_true c34
                clear c34
                by_cases c35 : x34_1 < (l1.length : Int)
                ·rw [if_pos c35] at H
                 have c35b0 : decide (x34_1 < (l1.length : Int)) = true := decide_eq_true c35
                 clear c35
                 replace H := Option.bind_eq_some_iff.mp H
                 obtain ⟨t281, A360, H⟩ := H
                 replace H : (if 0 ≤ x11_24 then (if x11_24 < (x6_1.length : Int) then ((impl_abs.f (rd l1 x34_1)).bind fun t285 => (impl_NodeReport.l0 kj24 l1 (x6_1.set (x11_24 : Int).toNat (wrap64 ((rd x6_1 x11_24) + t285))) (x7_1.set (x10_24 : Int).toNat (wrap64 ((rd x7_1 x10_24) + t281))) l0_1 (l0_1.length : Int) (wrap64 (x34_1 + 1)) l0_0 l0_1)) else (none)) else (none)) = some (r1, r2) := H
                 have A36 := Aside0.mk A360
                 clear A360
                 obtain ⟨y282, hy282⟩ : ∃ y_ : List Int, y_ = (x7_1.set (x10_24 : Int).toNat (wrap64 ((rd x7_1 x10_24) + t281))) := ⟨_, rfl⟩
                 replace H : (if 0 ≤ x11_24 then (if x11_24 < (x6_1.length : Int) then ((impl_abs.f (rd l1 x34_1)).bind fun t285 => (impl_NodeReport.l0 kj24 l1 (x6_1.set (x11_24 : Int).toNat (wrap64 ((rd x6_1 x11_24) + t285))) y282 l0_1 (l0_1.length : Int) (wrap64 (x34_1 + 1)) l0_0 l0_1)) else (none)) else (none)) = some (r1, r2) := by first | (rw [hy282]; with_reducible exact H) | (have H2_ := (Option.bind_some _ _).symm.trans H; rw [hy282]; with_reducible exact H2_) | (have H2_ := (Option.bind_some _ _).symm.trans H; with_reducible exact H2_) | with_reducible exact H | (rw [hy282]; exact H) | exact H
                 have Ny282 := Aside0.mk hy282
                 clear hy282
                 by_cases c38 : 0 ≤ x11_24
                 ·rw [if_pos c38] at H
                  have c38b0 : decide (0 ≤ x11_24) = true := decide_eq_true c38
                  clear c38
                  by_cases c39 : x11_24 < (x6_1.length : Int)
                  ·rw [if_pos c39] at H
                   have c39b0 : decide (x11_24 < (x6_1.length : Int)) = true := decide_eq_true c39
                   clear c39
                   replace H := Option.bind_eq_some_iff.mp H
                   obtain ⟨t285, A400, H⟩ := H
                   replace H : (impl_NodeReport.l0 kj24 l1 (x6_1.set (x11_24 : Int).toNat (wrap64 ((rd x6_1 x11_24) + t285))) y282 l0_1 (l0_1.length : Int) (wrap64 (x34_1 + 1)) l0_0 l0_1) = some (r1, r2) := H
                   have A40 := Aside0.mk A400
                   clear A400
                   obtain ⟨y286, hy286⟩ : ∃ y_ : List Int, y_ = (x6_1.set (x11_24 : Int).toNat (wrap64 ((rd x6_1 x11_24) + t285))) := ⟨_, rfl⟩
                   replace H : (impl_NodeReport.l0 kj24 l1 y286 y282 l0_1 (l0_1.length : Int) (wrap64 (x34_1 + 1)) l0_0 l0_1) = some (r1, r2) := by first | (rw [hy286]; with_reducible exact H) | (have H2_ := (Option.bind_some _ _).symm.trans H; rw [hy286]; with_reducible exact H2_) | (have H2_ := (Option.bind_some _ _).symm.trans H; with_reducible exact H2_) | with_reducible exact H | (rw [hy286]; exact H) | exact H
                   have Ny286 := Aside0.mk hy286
                   clear hy286
                   have H' := Aside0.mk H
                   clear H
                   try go_wp2
                   have n0_ := Aside0.mk (Kd.R_drew HO_6.out)
                   have n1_ := Aside0.mk (Kd.R_drew HO_7.out)
                   have n2_ := Aside0.mk (blk_drew BK267.out)
                   have n3_ := Aside0.mk (blk_drew BK277.out)
                   have n4_ := Aside0.mk (below_drew1 HB.out)
                   clear HO_6; clear HO_7; clear BK267; clear BK277; clear HB
                   have HO_6 := n0_
                   have HO_7 := n1_
                   have BK267 := n2_
                   have BK277 := n3_
                   have HB := n4_
                   clear n0_ n1_ n2_ n3_ n4_
                   obtain ⟨Ao43, co43, eo43⟩ := Kd.R_slice HO_7.out
                   (first | subst eo43 | (injection eo43 with f1_ f2_ f3_; have f4_ := f1_.symm; have f5_ := f3_.symm; clear f1_ f2_ f3_; subst f4_; subst f5_))
                   have p279 : 0 ≤ (x10_24 : Int) := oZ
                   have q279 : x10_24 < (x7_1.length : Int) := oZ
                   obtain ⟨ad279, e279, hx279_0⟩ := Kd.at_int (Kd.R_reads' HO_7.out).2.2 x10_24 p279 q279
                   cases e279
                   replace p279 := eq_true p279
                   replace q279 := eq_true q279
                   have p280 : 0 ≤ (x34_1 : Int) := oZ
                   have q280 : x34_1 < (l1.length : Int) := oZ
                   obtain ⟨ad280, e280, hx280_0⟩ := Kd.at_int HR1.out x34_1 p280 q280
                   have hw280_0 := hx280_0
                   obtain rfl : ad278 = ad280 := (by injection e280)
                   replace hx280_0 := (HB.out.cell (World.block_lt_of_cell? w _ hx280_0)).trans hx280_0
                   replace p280 := eq_true p280
                   replace q280 := eq_true q280
                   refine start_ (n := 12) (S := fun w' => w'.cell? (ad279.add (x10_24).toNat) = some (.int .i64 (rd x7_1 x10_24)) ∧ w'.cell? (ad278.add (x34_1).toNat) = some (.int .i64 (rd l1 x34_1))) (ds := [11]) #[false, false, false, false, false, false, false, false, false, false, false, false] (by kernel_rfl) rfl rfl ⟨hx279_0, ((HB.out.cell (World.block_lt_of_cell? w _ hw280_0)).trans hw280_0)⟩ (fun hHeld => ?_); refine with_tabW impl_NodeReport.tab12 impl_NodeReport.bits12 (fun HT_ HW_ => ?_)
                   generalize wc.drew = w42 at HO_6 HO_7 BK267 BK277 HB hx279_0 hx280_0 hHeld ⊢
                   refine puZ 0 (some 50) #[true, false, false, false, false, false, false, false, false, false, false, false] rfl rfl HT_.out ?_
                   refine puZ 1 (some 51) #[true, true, false, false, false, false, false, false, false, false, false, false] rfl rfl HT_.out ?_
                   refine puZ 2 (some 52) #[true, true, true, false, false, false, false, false, false, false, false, false] rfl rfl HT_.out ?_
                   refine puZ 4 (some 54) #[true, true, true, false, true, false, false, false, false, false, false, false] rfl rfl HT_.out ?_
                   refine puZ 5 (some 55) #[true, true, true, false, true, true, false, false, false, false, false, false] rfl rfl HT_.out ?_
                   refine puZ 6 (some 56) #[true, true, true, false, true, true, true, false, false, false, false, false] rfl rfl HT_.out ?_
                   refine take_ (i := 3) (N := some 53) (v := ?_) (a' := ?_) #[true, true, true, true, true, true, true, false, false, false, false, false] rfl rfl (take_ofW HT_.out HW_.out (by kernel_rfl)) (fun _ _ _ h => h) (Or.inl ⟨by rfl, ?_⟩) hHeld ?_ ?_
                   rotate_left
                   ·rintro w' ⟨s0, s1⟩
                    go_simp
                    with_reducible rfl
                   rotate_left
                   ·simp only [Act.put, List.setIfInBounds_toArray, List.set_cons_zero, List.set_cons_succ, i64_w, i32_w]
                    rfl
                   refine take_ (i := 7) (N := some 57) (v := ?_) (a' := ?_) #[true, true, true, true, true, true, true, true, false, false, false, false] rfl rfl (take_ofW HT_.out HW_.out (by kernel_rfl)) (fun _ _ _ h => h) (Or.inl ⟨by rfl, ?_⟩) hHeld ?_ ?_
                   rotate_left
                   ·rintro w' ⟨s0, s1⟩
                    go_simp
                    with_reducible rfl
                   rotate_left
                   ·simp only [Act.put, List.setIfInBounds_toArray, List.set_cons_zero, List.set_cons_succ, i64_w, i32_w]
                    rfl
                   refine one_ (i := 8) (N := some 58) #[true, true, true, true, true, true, true, true, true, false, false, false] rfl rfl (one_of HT_.out (by kernel_rfl)) (by decide) (fun K hK => ?_)
                   refine goes_ Tryz.func40 (by kernel_rfl) rfl #[.int .i64 (rd l1 x34_1)] (by rfl) rfl rfl gZ ?_
                   with_reducible refine (impl_abs.calls (rd l1 x34_1) t281 _ A36.out).mono ?_
                   rintro e w44 ⟨rfl, hb⟩
                   have HS0_ := (hb.cell (World.block_lt_of_cell? _ _ (hHeld.1))).trans (hHeld.1)
                   refine ⟨_, rfl, ?_⟩
                   have n0_ := Aside0.mk (Kd.R_below (Kd.rZ HO_6.out) hb)
                   have n1_ := Aside0.mk (Kd.R_below (Kd.rZ HO_7.out) hb)
                   have n2_ := Aside0.mk (blk_below (g := gb267) (o := .cells #[.slice A0_0 l0_0.length c0_0, .slice (some ad276) l0_1.length c0_1] 32 (0, 0)) (kZ BK267.out) hb)
                   have n3_ := Aside0.mk (blk_below (g := gb277) (o := .cells #[.string ((rd_T58 l0_1 x34_1).f0), .int .i64 ((rd_T58 l0_1 x34_1).f1), .int .i64 ((rd_T58 l0_1 x34_1).f2), .int .i64 ((rd_T58 l0_1 x34_1).f3), .int .i64 ((rd_T58 l0_1 x34_1).f4), .int .i64 ((rd_T58 l0_1 x34_1).f5)] 58 (0, 0)) (kZ BK277.out) hb)
                   have n4_ := Aside0.mk (below_step bZ hb)
                   clear HO_6; clear HO_7; clear BK267; clear BK277; clear HB
                   have HO_6 := n0_
                   have HO_7 := n1_
                   have BK267 := n2_
                   have BK277 := n3_
                   have HB := n4_
                   clear n0_ n1_ n2_ n3_ n4_
                   (try clear hb)
                   (try clear hb2)
                   (try clear hk)
                   (try clear hi)
                   have p37 : 0 ≤ (x10_24 : Int) := oZ
                   have q37 : (x10_24 : Int) < ((x7_1.length : Int) : Int) := oZ
                   obtain ⟨go37, co37, eo37, gb37, gl37, cl37, HG37⟩ := Kd.R_form HO_7.out (by omega)
                   (first | cases eo37 | (injection eo37 with ea_ en_ ec_; (first | subst ea_ | (injection ea_ with ea_; subst ea_)); subst ec_; clear en_))
                   have GB37 := Aside0.mk gb37
                   have GG37 := Aside0.mk HG37
                   clear gb37 gl37 HG37
                   (first | simp only [add_plain] at hx279_0 | skip)
                   obtain ⟨hx37_0, hf37_0⟩ := Kd.R_celln 0 HO_7.out (x10_24 : Int) p37 q37
                   replace p37 := eq_true p37
                   replace q37 := eq_true q37
                   have HP45 := Kd.R_putn HO_7.out (x10_24 : Int) (wrap64 ((rd x7_1 x10_24) + t281))
                   rw [← Ny282.out] at HP45
                   have HQ45 := Aside0.mk HP45
                   clear HP45
                   refine hK.out _ _ ⟨HS0_, ((HB.out.cell (World.block_lt_of_cell? w _ hw280_0)).trans hw280_0)⟩ (fun hHeld => ?_)
                   clear hK K
                   refine norm_ (a' := ?_) ?_ ?_
                   rotate_left
                   ·show Act.put _ (some 58) _ = _
                    simp only [Act.put, List.setIfInBounds_toArray, List.set_cons_zero, List.set_cons_succ, i64_w, i32_w]
                    rfl
                   refine puZ 9 (some 59) #[true, true, true, true, true, true, true, true, true, true, false, false] rfl rfl HT_.out ?_
                   refine puZ 10 (some 60) #[true, true, true, true, true, true, true, true, true, true, true, false] rfl rfl HT_.out ?_
                   refine last_ (i := 11) (N := none) #[true, true, true, true, true, true, true, true, true, true, true, true] rfl rfl (one_of HT_.out (by kernel_rfl)) (by decide) (fun K hK => ?_)
                   refine skip_ (w1 := ?_) (by rfl) rfl ?_ ?_
                   rotate_left
                   ·go_simp
                    rfl
                   refine hK.out _ _ ?_
                   clear hK K
                   refine done_ (done_of HT_.out (by kernel_rfl)) ?_
                   try go_wp2
                   have n0_ : Aside0 (Kd.R (Kd.int .i64) 2 (w44.setCell ⟨go37, (x10_24 : Int).toNat, none⟩ (.int .i64 (wrap64 ((rd x7_1 x10_24) + t281)))) w.heap.size (fun k_ => some k_ ≠ (.slice (some ⟨go37, 0, none⟩) x7_1.length co43 : Value).ownBlock) v271 x6_1) := ⟨Kd.rZ (Kd.R_mono (Kd.R_far (p := ⟨go37, (x10_24 : Int).toNat, none⟩) (Kd.R_mono HO_6.out (fun k_ hk => (⟨hk, fun e_ => hk (by rw [e_]; rfl)⟩ : _ ∧ k_ ≠ go37))) (fun _ hk => hk.2) (.int .i64 (wrap64 ((rd x7_1 x10_24) + t281)))) (fun _ hk => hk.1))⟩
                   have n1_ : Aside0 (Kd.R (Kd.int .i64) 2 (w44.setCell ⟨go37, (x10_24 : Int).toNat, none⟩ (.int .i64 (wrap64 ((rd x7_1 x10_24) + t281)))) w.heap.size (fun k_ => some k_ ≠ (v271 : Value).ownBlock) (.slice (some ⟨go37, 0, none⟩) x7_1.length co43) y282) := ⟨Kd.rZ HQ45.out⟩
                   have n2_ : Aside0 ((w44.setCell ⟨go37, (x10_24 : Int).toNat, none⟩ (.int .i64 (wrap64 ((rd x7_1 x10_24) + t281)))).heap[gb267]? = some (.cells #[.slice A0_0 l0_0.length c0_0, .slice (some ad276) l0_1.length c0_1] 32 (0, 0))) := ⟨by (with_reducible repeat (first | refine blk_drewN ?_ _ | refine blk_drew ?_ | refine blk_alloc ?_ _)); refine blk_far ?_ (by have h_ := Kd.R_ne HO_7.out BK267.out (by decide); intro e_; exact h_ (by rw [e_]; rfl)) _; (with_reducible repeat (first | refine blk_drewN ?_ _ | refine blk_drew ?_ | refine blk_alloc ?_ _)); exact BK267.out⟩
                   have n3_ : Aside0 ((w44.setCell ⟨go37, (x10_24 : Int).toNat, none⟩ (.int .i64 (wrap64 ((rd x7_1 x10_24) + t281)))).heap[gb277]? = some (.cells #[.string ((rd_T58 l0_1 x34_1).f0), .int .i64 ((rd_T58 l0_1 x34_1).f1), .int .i64 ((rd_T58 l0_1 x34_1).f2), .int .i64 ((rd_T58 l0_1 x34_1).f3), .int .i64 ((rd_T58 l0_1 x34_1).f4), .int .i64 ((rd_T58 l0_1 x34_1).f5)] 58 (0, 0))) := ⟨by (with_reducible repeat (first | refine blk_drewN ?_ _ | refine blk_drew ?_ | refine blk_alloc ?_ _)); refine blk_far ?_ (by have h_ := Kd.R_ne HO_7.out BK277.out (by decide); intro e_; exact h_ (by rw [e_]; rfl)) _; (with_reducible repeat (first | refine blk_drewN ?_ _ | refine blk_drew ?_ | refine blk_alloc ?_ _)); exact BK277.out⟩
                   have n4_ : Aside0 (Below w.heap.size w (w44.setCell ⟨go37, (x10_24 : Int).toNat, none⟩ (.int .i64 (wrap64 ((rd x7_1 x10_24) + t281))))) := ⟨by repeat (first | (with_reducible first | exact HB.out | apply below_alloc | apply pw_below_drewN | apply below_drew1 | refine below_set ?_ GB37.out | refine below_set ?_ GE267.out | refine below_set ?_ GE277.out) | exact HB.out)⟩
                   (try clear HO_6)
                   (try clear HO_7)
                   (try clear BK267)
                   (try clear BK277)
                   (try clear HB)
                   generalize (w44.setCell ⟨go37, (x10_24 : Int).toNat, none⟩ (.int .i64 (wrap64 ((rd x7_1 x10_24) + t281)))) = w46 at n0_ n1_ n2_ n3_ n4_ ⊢
                   have HO_6 := n0_
                   have HO_7 := n1_
                   have BK267 := n2_
                   have BK277 := n3_
                   have HB := n4_
                   clear n0_ n1_ n2_ n3_ n4_
                   have n0_ := Aside0.mk (Kd.R_drew HO_6.out)
                   have n1_ := Aside0.mk (Kd.R_drew HO_7.out)
                   have n2_ := Aside0.mk (blk_drew BK267.out)
                   have n3_ := Aside0.mk (blk_drew BK277.out)
                   have n4_ := Aside0.mk (below_drew1 HB.out)
                   clear HO_6; clear HO_7; clear BK267; clear BK277; clear HB
                   have HO_6 := n0_
                   have HO_7 := n1_
                   have BK267 := n2_
                   have BK277 := n3_
                   have HB := n4_
                   clear n0_ n1_ n2_ n3_ n4_
                   obtain ⟨Ao48, co48, eo48⟩ := Kd.R_slice HO_6.out
                   (first | subst eo48 | (injection eo48 with f1_ f2_ f3_; have f4_ := f1_.symm; have f5_ := f3_.symm; clear f1_ f2_ f3_; subst f4_; subst f5_))
                   have p283 : 0 ≤ (x11_24 : Int) := oZ
                   have q283 : x11_24 < (x6_1.length : Int) := oZ
                   obtain ⟨ad283, e283, hx283_0⟩ := Kd.at_int (Kd.R_reads' HO_6.out).2.2 x11_24 p283 q283
                   cases e283
                   replace p283 := eq_true p283
                   replace q283 := eq_true q283
                   have p284 : 0 ≤ (x34_1 : Int) := oZ
                   have q284 : x34_1 < (l1.length : Int) := oZ
                   obtain ⟨ad284, e284, hx284_0⟩ := Kd.at_int HR1.out x34_1 p284 q284
                   have hw284_0 := hx284_0
                   obtain rfl : ad278 = ad284 := (by injection e284)
                   replace hx284_0 := (HB.out.cell (World.block_lt_of_cell? w _ hx284_0)).trans hx284_0
                   replace p284 := eq_true p284
                   replace q284 := eq_true q284
                   refine start_ (n := 12) (S := fun w' => w'.cell? (ad283.add (x11_24).toNat) = some (.int .i64 (rd x6_1 x11_24)) ∧ w'.cell? (ad278.add (x34_1).toNat) = some (.int .i64 (rd l1 x34_1))) (ds := [11]) #[false, false, false, false, false, false, false, false, false, false, false, false] (by kernel_rfl) rfl rfl ⟨hx283_0, ((HB.out.cell (World.block_lt_of_cell? w _ hw284_0)).trans hw284_0)⟩ (fun hHeld => ?_); refine with_tabW impl_NodeReport.tab13 impl_NodeReport.bits13 (fun HT_ HW_ => ?_)
                   generalize w46.drew = w47 at HO_6 HO_7 BK267 BK277 HB HQ45 hx283_0 hx284_0 hHeld ⊢
                   refine puZ 0 (some 61) #[true, false, false, false, false, false, false, false, false, false, false, false] rfl rfl HT_.out ?_
                   refine puZ 1 (some 62) #[true, true, false, false, false, false, false, false, false, false, false, false] rfl rfl HT_.out ?_
                   refine puZ 2 (some 63) #[true, true, true, false, false, false, false, false, false, false, false, false] rfl rfl HT_.out ?_
                   refine puZ 4 (some 65) #[true, true, true, false, true, false, false, false, false, false, false, false] rfl rfl HT_.out ?_
                   refine puZ 5 (some 66) #[true, true, true, false, true, true, false, false, false, false, false, false] rfl rfl HT_.out ?_
                   refine puZ 6 (some 67) #[true, true, true, false, true, true, true, false, false, false, false, false] rfl rfl HT_.out ?_
                   refine take_ (i := 3) (N := some 64) (v := ?_) (a' := ?_) #[true, true, true, true, true, true, true, false, false, false, false, false] rfl rfl (take_ofW HT_.out HW_.out (by kernel_rfl)) (fun _ _ _ h => h) (Or.inl ⟨by rfl, ?_⟩) hHeld ?_ ?_
                   rotate_left
                   ·rintro w' ⟨s0, s1⟩
                    go_simp
                    with_reducible rfl
                   rotate_left
                   ·simp only [Act.put, List.setIfInBounds_toArray, List.set_cons_zero, List.set_cons_succ, i64_w, i32_w]
                    rfl
                   refine take_ (i := 7) (N := some 68) (v := ?_) (a' := ?_) #[true, true, true, true, true, true, true, true, false, false, false, false] rfl rfl (take_ofW HT_.out HW_.out (by kernel_rfl)) (fun _ _ _ h => h) (Or.inl ⟨by rfl, ?_⟩) hHeld ?_ ?_
                   rotate_left
                   ·rintro w' ⟨s0, s1⟩
                    go_simp
                    with_reducible rfl
                   rotate_left
                   ·simp only [Act.put, List.setIfInBounds_toArray, List.set_cons_zero, List.set_cons_succ, i64_w, i32_w]
                    rfl
                   refine one_ (i := 8) (N := some 69) #[true, true, true, true, true, true, true, true, true, false, false, false] rfl rfl (one_of HT_.out (by kernel_rfl)) (by decide) (fun K hK => ?_)
                   refine goes_ Tryz.func40 (by kernel_rfl) rfl #[.int .i64 (rd l1 x34_1)] (by rfl) rfl rfl gZ ?_
                   with_reducible refine (impl_abs.calls (rd l1 x34_1) t285 _ A40.out).mono ?_
                   rintro e w49 ⟨rfl, hb⟩
                   have HS0_ := (hb.cell (World.block_lt_of_cell? _ _ (hHeld.1))).trans (hHeld.1)
                   refine ⟨_, rfl, ?_⟩
                   have n0_ := Aside0.mk (Kd.R_below (Kd.rZ HO_6.out) hb)
                   have n1_ := Aside0.mk (Kd.R_below (Kd.rZ HO_7.out) hb)
                   have n2_ := Aside0.mk (blk_below (g := gb267) (o := .cells #[.slice A0_0 l0_0.length c0_0, .slice (some ad276) l0_1.length c0_1] 32 (0, 0)) (kZ BK267.out) hb)
                   have n3_ := Aside0.mk (blk_below (g := gb277) (o := .cells #[.string ((rd_T58 l0_1 x34_1).f0), .int .i64 ((rd_T58 l0_1 x34_1).f1), .int .i64 ((rd_T58 l0_1 x34_1).f2), .int .i64 ((rd_T58 l0_1 x34_1).f3), .int .i64 ((rd_T58 l0_1 x34_1).f4), .int .i64 ((rd_T58 l0_1 x34_1).f5)] 58 (0, 0)) (kZ BK277.out) hb)
                   have n4_ := Aside0.mk (below_step bZ hb)
                   clear HO_6; clear HO_7; clear BK267; clear BK277; clear HB
                   have HO_6 := n0_
                   have HO_7 := n1_
                   have BK267 := n2_
                   have BK277 := n3_
                   have HB := n4_
                   clear n0_ n1_ n2_ n3_ n4_
                   (try clear hb)
                   (try clear hb2)
                   (try clear hk)
                   (try clear hi)
                   have p41 : 0 ≤ (x11_24 : Int) := oZ
                   have q41 : (x11_24 : Int) < ((x6_1.length : Int) : Int) := oZ
                   obtain ⟨go41, co41, eo41, gb41, gl41, cl41, HG41⟩ := Kd.R_form HO_6.out (by omega)
                   (first | cases eo41 | (injection eo41 with ea_ en_ ec_; (first | subst ea_ | (injection ea_ with ea_; subst ea_)); subst ec_; clear en_))
                   have GB41 := Aside0.mk gb41
                   have GG41 := Aside0.mk HG41
                   clear gb41 gl41 HG41
                   (first | simp only [add_plain] at hx283_0 | skip)
                   obtain ⟨hx41_0, hf41_0⟩ := Kd.R_celln 0 HO_6.out (x11_24 : Int) p41 q41
                   replace p41 := eq_true p41
                   replace q41 := eq_true q41
                   have HP50 := Kd.R_putn HO_6.out (x11_24 : Int) (wrap64 ((rd x6_1 x11_24) + t285))
                   rw [← Ny286.out] at HP50
                   have HQ50 := Aside0.mk HP50
                   clear HP50
                   refine hK.out _ _ ⟨HS0_, ((HB.out.cell (World.block_lt_of_cell? w _ hw284_0)).trans hw284_0)⟩ (fun hHeld => ?_)
                   clear hK K
                   refine norm_ (a' := ?_) ?_ ?_
                   rotate_left
                   ·show Act.put _ (some 69) _ = _
                    simp only [Act.put, List.setIfInBounds_toArray, List.set_cons_zero, List.set_cons_succ, i64_w, i32_w]
                    rfl
                   refine puZ 9 (some 70) #[true, true, true, true, true, true, true, true, true, true, false, false] rfl rfl HT_.out ?_
                   refine puZ 10 (some 71) #[true, true, true, true, true, true, true, true, true, true, true, false] rfl rfl HT_.out ?_
                   refine last_ (i := 11) (N := none) #[true, true, true, true, true, true, true, true, true, true, true, true] rfl rfl (one_of HT_.out (by kernel_rfl)) (by decide) (fun K hK => ?_)
                   refine skip_ (w1 := ?_) (by rfl) rfl ?_ ?_
                   rotate_left
                   ·go_simp
                    rfl
                   refine hK.out _ _ ?_
                   clear hK K
                   refine done_ (done_of HT_.out (by kernel_rfl)) ?_
                   try go_wp2
                   go_roundg kj24
                   case measure => have := HK1.out; have := HJ24.out; omega
                   case rel => exact ⟨(y286), (y282), (wrap64 (x34_1 + 1)), sZ, H', ⟨by have := HK1.out; have := HJ24.out; omega⟩, ⟨Kd.rZ HQ50.out⟩, ⟨Kd.rZ (Kd.R_mono (Kd.R_far (p := ⟨go41, (x11_24 : Int).toNat, none⟩) (Kd.R_mono HO_7.out (fun k_ hk => (⟨hk, fun e_ => hk (by rw [e_]; rfl)⟩ : _ ∧ k_ ≠ go41))) (fun _ hk => hk.2) (.int .i64 (wrap64 ((rd x6_1 x11_24) + t285)))) (fun _ hk => hk.1))⟩, ⟨by (with_reducible repeat (first | refine blk_drewN ?_ _ | refine blk_drew ?_ | refine blk_alloc ?_ _)); refine blk_far ?_ (by have h_ := Kd.R_ne HO_6.out BK267.out (by decide); intro e_; exact h_ (by rw [e_]; rfl)) _; (with_reducible repeat (first | refine blk_drewN ?_ _ | refine blk_drew ?_ | refine blk_alloc ?_ _)); exact BK267.out⟩, ⟨by repeat (first | (with_reducible first | exact HB.out | apply below_alloc | apply pw_below_drewN | apply below_drew1 | refine below_set ?_ GB41.out | refine below_set ?_ GE267.out | refine below_set ?_ GE277.out) | exact HB.out)⟩⟩
                  ·rw [if_neg c39] at H
                   exact absurd H (by simp)
                 ·rw [if_neg c38] at H
                  exact absurd H (by simp)
                ·rw [if_neg c35] at H
                 exact absurd H (by simp)
               ·rw [if_neg c34] at H
                exact absurd H (by simp)
              ·rw [if_neg c33] at H
               exact absurd H (by simp)
             ·rw [if_neg c32] at H
              exact absurd H (by simp)
          ·rw [if_neg c24] at H
           exact absurd H (by simp)
         ·rw [if_neg c23] at H
          exact absurd H (by simp)
        ·rw [if_neg c22] at H
         exact absurd H (by simp)
       ·rw [if_neg c21] at H
        have c21b0 : decide (x34_1 < (l0_1.length : Int)) = false := decide_eq_false c21
        clear c21
        obtain ⟨y287, hy287⟩ : ∃ y_ : List ByteArray, y_ = (([(⟨#[110, 111, 100, 101]⟩ : ByteArray), (⟨#[105, 110]⟩ : ByteArray), (⟨#[111, 117, 116]⟩ : ByteArray)] : List ByteArray)) := ⟨_, rfl⟩
        replace H : (impl_NodeReport.l1 k1 x6_1 x7_1 (([y287] : List (List ByteArray))) (l0_0.length : Int) 0) = some (r1, r2) := by first | (rw [hy287]; with_reducible exact H) | (have H2_ := (Option.bind_some _ _).symm.trans H; rw [hy287]; with_reducible exact H2_) | (have H2_ := (Option.bind_some _ _).symm.trans H; with_reducible exact H2_) | with_reducible exact H | (rw [hy287]; exact H) | exact H
        have Ny287 := Aside0.mk hy287
        clear hy287
        obtain ⟨y290, hy290⟩ : ∃ y_ : List (List ByteArray), y_ = (([y287] : List (List ByteArray))) := ⟨_, rfl⟩
        replace H : (impl_NodeReport.l1 k1 x6_1 x7_1 y290 (l0_0.length : Int) 0) = some (r1, r2) := by first | (rw [hy290]; with_reducible exact H) | (have H2_ := (Option.bind_some _ _).symm.trans H; rw [hy290]; with_reducible exact H2_) | (have H2_ := (Option.bind_some _ _).symm.trans H; with_reducible exact H2_) | with_reducible exact H | (rw [hy290]; exact H) | exact H
        have Ny290 := Aside0.mk hy290
        clear hy290
        have H' := Aside0.mk H
        clear H
        go_wp2_with (first | ((with_reducible refine gate_dst (N := 73) rfl ?_); refine Kd.R_lit Kd.string _ 9 ?hg (N := 73) ?hd (xs := ([(⟨#[110, 111, 100, 101]⟩ : ByteArray), (⟨#[105, 110]⟩ : ByteArray), (⟨#[111, 117, 116]⟩ : ByteArray)] : List ByteArray)) (inner := [.string (⟨#[110, 111, 100, 101]⟩ : ByteArray), .string (⟨#[105, 110]⟩ : ByteArray), .string (⟨#[111, 117, 116]⟩ : ByteArray)]) (ok := fun _ => True) (okp := fun _ => True) ?hr ?hp (fun _ hk => hk) trivial (Below.refl _ _) (Nat.le_refl _) (by simp) ?_; (case hd => rfl); (case hg => rfl); (case hr => first | (go_simp; done) | (go_simp; rfl)); (case hp => exact (Reps.one (show Kd.M Kd.string _ _ _ (⟨#[110, 111, 100, 101]⟩ : ByteArray) [.string (⟨#[110, 111, 100, 101]⟩ : ByteArray)] from rfl) (Reps.one (show Kd.M Kd.string _ _ _ (⟨#[105, 110]⟩ : ByteArray) [.string (⟨#[105, 110]⟩ : ByteArray)] from rfl) (Reps.one (show Kd.M Kd.string _ _ _ (⟨#[111, 117, 116]⟩ : ByteArray) [.string (⟨#[111, 117, 116]⟩ : ByteArray)] from rfl) (Reps.none _ _))))); intro v288 w51 ho52 hb hg_ hnew_; clear hg_ hnew_; (first | rw [← Ny287.out] at ho52 | (simp only [Int.reduceToNat] at ho52; rw [← Ny287.out] at ho52)); have n0_ := Aside0.mk (Kd.R_below (Kd.rZ HO_6.out) hb); have n1_ := Aside0.mk (Kd.R_below (Kd.rZ HO_7.out) hb); have n2_ := Aside0.mk (Kd.R_lower ho52 bsZ); have n3_ := Aside0.mk (blk_below (g := gb267) (o := .cells #[.slice A0_0 l0_0.length c0_0, .slice A0_1 l0_1.length c0_1] 32 (0, 0)) (kZ BK267.out) hb); have n4_ := Aside0.mk (below_step bZ hb); clear HO_6; clear HO_7; clear BK267; clear HB; have HO_6 := n0_; have HO_7 := n1_; have HO289 := n2_; have BK267 := n3_; have HB := n4_; clear n0_ n1_ n2_ n3_ n4_; clear hb ho52; obtain ⟨Ao53, co53, eo53⟩ := Kd.R_slice HO289.out; subst eo53) | ((with_reducible refine gate_dst (N := 74) rfl ?_); refine Kd.N_lit (Kd.slice 9 Kd.string) _ 27 ?hg (N' := 74) ?hd (xs := ([y287] : List (List ByteArray))) (inner := [.slice Ao53 y287.length co53]) (ok := (fun k_ => some k_ ≠ (v271 : Value).ownBlock ∧ some k_ ≠ (v274 : Value).ownBlock ∧ k_ ≠ gb267)) (okp := (fun k_ => some k_ ≠ (v271 : Value).ownBlock ∧ some k_ ≠ (v274 : Value).ownBlock ∧ k_ ≠ gb267)) ?hr ?hp (fun _ hk => hk) ((show ∀ k_, w51.heap.size ≤ k_ → (fun k_ => some k_ ≠ (v271 : Value).ownBlock ∧ some k_ ≠ (v274 : Value).ownBlock ∧ k_ ≠ gb267) k_ from fun k_ hk => ⟨Kd.fresh' (Kd.R_lt (Kd.rZ HO_6.out)) k_ hk, Kd.fresh' (Kd.R_lt (Kd.rZ HO_7.out)) k_ hk, Kd.freshB (g := gb267) (o := .cells #[.slice A0_0 l0_0.length c0_0, .slice A0_1 l0_1.length c0_1] 32 (0, 0)) (kZ BK267.out) k_ hk⟩) _ (Nat.le_refl _)) (Below.refl _ _) (Nat.le_refl _) (by simp) ?_; (case hd => rfl); (case hg => rfl); (case hr => first | (go_simp; done) | (go_simp; rfl)); (case hp => exact (Reps.one (show Kd.FK (Kd.slice 9 Kd.string) _ _ y287 [.slice Ao53 y287.length co53] from (Kd.FK_slice_mk (Kd.R_reads' (Kd.R_mono (ok' := (fun k_ => some k_ ≠ (v271 : Value).ownBlock ∧ some k_ ≠ (v274 : Value).ownBlock ∧ k_ ≠ gb267)) (Kd.R_types (Kd.R_apart' (Kd.R_apart' (HO289.out) (Kd.R_typed HO_6.out) (by decide)) (Kd.R_typed HO_7.out) (by decide)) BK267.out (by decide)) (fun k_ hk => ⟨hk.1.1.2, ⟨hk.1.2, hk.2⟩⟩))).2.1 (Kd.R_F (Kd.R_mono (ok' := (fun k_ => some k_ ≠ (v271 : Value).ownBlock ∧ some k_ ≠ (v274 : Value).ownBlock ∧ k_ ≠ gb267)) (Kd.R_types (Kd.R_apart' (Kd.R_apart' (HO289.out) (Kd.R_typed HO_6.out) (by decide)) (Kd.R_typed HO_7.out) (by decide)) BK267.out (by decide)) (fun k_ hk => ⟨hk.1.1.2, ⟨hk.1.2, hk.2⟩⟩))))) (Reps.none _ _))); intro v291 w54 ho55 hb hg_ hnew_; clear hg_ hnew_; (first | rw [← Ny290.out] at ho55 | (simp only [Int.reduceToNat] at ho55; rw [← Ny290.out] at ho55)); have n0_ := Aside0.mk (Kd.R_below (Kd.rZ HO_6.out) hb); have n1_ := Aside0.mk (Kd.R_below (Kd.rZ HO_7.out) hb); have n2_ := Aside0.mk (Kd.N_lower ho55 bsZ); have n3_ := Aside0.mk (blk_below (g := gb267) (o := .cells #[.slice A0_0 l0_0.length c0_0, .slice A0_1 l0_1.length c0_1] 32 (0, 0)) (kZ BK267.out) hb); have n4_ := Aside0.mk (below_step bZ hb); clear HO_6; clear HO_7; clear BK267; clear HB; clear HO289; have HO_6 := n0_; have HO_7 := n1_; have HO292 := n2_; have BK267 := n3_; have HB := n4_; clear n0_ n1_ n2_ n3_ n4_; clear hb ho55; have hcz56_0 := bc0 BK267.out; have hcz56_1 := bc1 BK267.out; have hfz56_0 := blk_frozen BK267.out 0; have hfz56_1 := blk_frozen BK267.out 1))
        go_loopg [12, 78] k1 (fun kq v12 v78 w' => ∃ (x12_2 : List (List ByteArray)) (x78_2 : Int), v78 = .int .i64 x78_2 ∧ Aside0 (impl_NodeReport.l1 kq x6_1 x7_1 x12_2 (l0_0.length : Int) x78_2 = some (r1, r2)) ∧ Aside0 (kq ≤ k1) ∧ Aside0 (Kd.R (Kd.int .i64) 2 w' w.heap.size (fun k_ => some k_ ≠ (v274 : Value).ownBlock) v271 x6_1) ∧ Aside0 (Kd.R (Kd.int .i64) 2 w' w.heap.size (fun k_ => some k_ ≠ (v271 : Value).ownBlock) v274 x7_1) ∧ Aside0 (Kd.N (Kd.slice 9 Kd.string) 27 w' w.heap.size (fun k_ => some k_ ≠ (v271 : Value).ownBlock ∧ some k_ ≠ (v274 : Value).ownBlock ∧ k_ ≠ gb267) v12 x12_2) ∧ Aside0 (w'.heap[gb267]? = some (.cells #[(.slice A0_0 l0_0.length c0_0), (.slice A0_1 l0_1.length c0_1)] 32 (0, 0))) ∧ Aside0 (Below w.heap.size w w'))
        case atStart => exact ⟨(y290), (0), sZ, H', ⟨Nat.le_refl _⟩, ⟨Kd.rZ HO_6.out⟩, ⟨Kd.rZ HO_7.out⟩, ⟨by (with_reducible repeat (first | apply Kd.N_alloc | apply Kd.N_drewN | apply Kd.N_drew)); exact HO292.out⟩, ⟨kZ BK267.out⟩, ⟨bZ⟩⟩
        case round =>
         clear H'; (try clear c1); (try clear c2); (try clear p2); (try clear q2); (try clear hx2); (try clear c3); (try clear p3); (try clear q3); (try clear hx3); (try clear hf3); (try clear c4); (try clear p4); (try clear q4); (try clear hx4); (try clear hf4); (try clear c6); (try clear p6); (try clear c7); (try clear c7b0); (try clear c7b1); (try clear c8); (try clear c8b0); (try clear c8b1); (try clear c10); (try clear c21); (try clear c21b0); (try clear c22); (try clear c22b0); (try clear c23); (try clear c23b0); (try clear c24); (try clear c24b0); (try clear c27); (try clear p27); (try clear q27); (try clear hx27); (try clear p28); (try clear q28); (try clear hx28); (try clear c31); (try clear c31b0); (try clear c32); (try clear c32b0); (try clear c33); (try clear c33b0); (try clear c34); (try clear c34b0); (try clear c35); (try clear c35b0); (try clear p37); (try clear q37); (try clear hx37); (try clear hf37); (try clear c38); (try clear c38b0); (try clear c39); (try clear c39b0); (try clear c40); (try clear p41); (try clear q41); (try clear hx41); (try clear hf41); (try clear hcz10_0); (try clear hcz10_1); (try clear hcz12_0); (try clear hcz12_1); (try clear hcz20_0); (try clear hcz20_1); (try clear hcz28_0); (try clear hcz28_1); (try clear hcz28_2); (try clear hcz28_3); (try clear hcz28_4); (try clear hcz28_5); (try clear hcz56_0); (try clear hcz56_1); (try clear hfz10_0); (try clear hfz10_1); (try clear hfz12_0); (try clear hfz12_1); (try clear hfz20_0); (try clear hfz20_1); (try clear hfz28_0); (try clear hfz28_1); (try clear hfz28_2); (try clear hfz28_3); (try clear hfz28_4); (try clear hfz28_5); (try clear hfz56_0); (try clear hfz56_1); (try clear hx276_0); (try clear hx276_1); (try clear hx276_2); (try clear hx276_3); (try clear hx276_4); (try clear hx276_5); (try clear hx278_0); (try clear hx279_0); (try clear hx280_0); (try clear hx283_0); (try clear hx284_0); (try clear hx37_0); (try clear hx41_0); (try clear p2); (try clear p27); (try clear p276); (try clear p278); (try clear p279); (try clear p280); (try clear p283); (try clear p284); (try clear p37); (try clear p41); (try clear q2); (try clear q27); (try clear q276); (try clear q278); (try clear q279); (try clear q280); (try clear q283); (try clear q284); (try clear q37); (try clear q41)
         obtain ⟨x12_2, x78_2, rfl, HA, HK2, HO_6, HO_7, HO_12, BK267, HB⟩ := hrel
         cases gk with
         | zero => exact absurd HA.out (by simp [impl_NodeReport.l1])
         | succ k2 =>
          have H := HA.out
          clear HA
          simp only [impl_NodeReport.l1] at H
          by_cases c57 : x78_2 < (l0_0.length : Int)
          ·rw [if_pos c57] at H
           have c57b0 : decide (x78_2 < (l0_0.length : Int)) = true := decide_eq_true c57
           clear c57
           replace H := Option.bind_eq_some_iff.mp H
           obtain ⟨t293, A580, H⟩ := H
           replace H : (if 0 ≤ x78_2 then (if x78_2 < (x6_1.length : Int) then ((impl_Decimal.f (rd x6_1 x78_2)).bind fun t295 => (if x78_2 < (x7_1.length : Int) then ((impl_Decimal.f (rd x7_1 x78_2)).bind fun t297 => (if x12_2.length < 5864062014805 then (impl_NodeReport.l1 k2 x6_1 x7_1 (x12_2 ++ [(([t293, t295, t297] : List ByteArray))]) (l0_0.length : Int) (wrap64 (x78_2 + 1))) else (none))) else (none))) else (none)) else (none)) = some (r1, r2) := H
           have A58 := Aside0.mk A580
           clear A580
           by_cases c59 : 0 ≤ x78_2
           ·rw [if_pos c59] at H
            have c59b0 : decide (0 ≤ x78_2) = true := decide_eq_true c59
            clear c59
            by_cases c60 : x78_2 < (x6_1.length : Int)
            ·rw [if_pos c60] at H
             have c60b0 : decide (x78_2 < (x6_1.length : Int)) = true := decide_eq_true c60
             clear c60
             replace H := Option.bind_eq_some_iff.mp H
             obtain ⟨t295, A610, H⟩ := H
             replace H : (if x78_2 < (x7_1.length : Int) then ((impl_Decimal.f (rd x7_1 x78_2)).bind fun t297 => (if x12_2.length < 5864062014805 then (impl_NodeReport.l1 k2 x6_1 x7_1 (x12_2 ++ [(([t293, t295, t297] : List ByteArray))]) (l0_0.length : Int) (wrap64 (x78_2 + 1))) else (none))) else (none)) = some (r1, r2) := H
             have A61 := Aside0.mk A610
             clear A610
             by_cases c62 : x78_2 < (x7_1.length : Int)
             ·rw [if_pos c62] at H
              have c62b0 : decide (x78_2 < (x7_1.length : Int)) = true := decide_eq_true c62
              clear c62
              replace H := Option.bind_eq_some_iff.mp H
              obtain ⟨t297, A630, H⟩ := H
              replace H : (if x12_2.length < 5864062014805 then (impl_NodeReport.l1 k2 x6_1 x7_1 (x12_2 ++ [(([t293, t295, t297] : List ByteArray))]) (l0_0.length : Int) (wrap64 (x78_2 + 1))) else (none)) = some (r1, r2) := H
              have A63 := Aside0.mk A630
              clear A630
              obtain ⟨y298, hy298⟩ : ∃ y_ : List ByteArray, y_ = (([t293, t295, t297] : List ByteArray)) := ⟨_, rfl⟩
              replace H : (if x12_2.length < 5864062014805 then (impl_NodeReport.l1 k2 x6_1 x7_1 (x12_2 ++ [y298]) (l0_0.length : Int) (wrap64 (x78_2 + 1))) else (none)) = some (r1, r2) := by first | (rw [hy298]; with_reducible exact H) | (have H2_ := (Option.bind_some _ _).symm.trans H; rw [hy298]; with_reducible exact H2_) | (have H2_ := (Option.bind_some _ _).symm.trans H; with_reducible exact H2_) | with_reducible exact H | (rw [hy298]; exact H) | exact H
              have Ny298 := Aside0.mk hy298
              clear hy298
              by_cases c64 : x12_2.length < 5864062014805
              ·rw [if_pos c64] at H
               have LMc64 := Aside0.mk c64
               clear c64
               obtain ⟨y301, hy301⟩ : ∃ y_ : List (List ByteArray), y_ = (x12_2 ++ [y298]) := ⟨_, rfl⟩
               replace H : (impl_NodeReport.l1 k2 x6_1 x7_1 y301 (l0_0.length : Int) (wrap64 (x78_2 + 1))) = some (r1, r2) := by first | (rw [hy301]; with_reducible exact H) | (have H2_ := (Option.bind_some _ _).symm.trans H; rw [hy301]; with_reducible exact H2_) | (have H2_ := (Option.bind_some _ _).symm.trans H; with_reducible exact H2_) | with_reducible exact H | (rw [hy301]; exact H) | exact H
               have Ny301 := Aside0.mk hy301
               clear hy301
               have H' := Aside0.mk H
               clear H
               try go_wp2
               have n0_ := Aside0.mk (Kd.R_drew HO_6.out)
               have n1_ := Aside0.mk (Kd.R_drew HO_7.out)
               have n2_ := Aside0.mk (Kd.N_drew HO_12.out)
               have n3_ := Aside0.mk (blk_drew BK267.out)
               have n4_ := Aside0.mk (below_drew1 HB.out)
               clear HO_6; clear HO_7; clear HO_12; clear BK267; clear HB
               have HO_6 := n0_
               have HO_7 := n1_
               have HO_12 := n2_
               have BK267 := n3_
               have HB := n4_
               clear n0_ n1_ n2_ n3_ n4_
               obtain ⟨Ao66, co66, eo66⟩ := Kd.R_slice HO_6.out
               (first | subst eo66 | (injection eo66 with f1_ f2_ f3_; have f4_ := f1_.symm; have f5_ := f3_.symm; clear f1_ f2_ f3_; subst f4_; subst f5_))
               have p294 : 0 ≤ (x78_2 : Int) := oZ
               have q294 : x78_2 < (x6_1.length : Int) := oZ
               obtain ⟨ad294, e294, hx294_0⟩ := Kd.at_int (Kd.R_reads' HO_6.out).2.2 x78_2 p294 q294
               cases e294
               replace p294 := eq_true p294
               replace q294 := eq_true q294
               obtain ⟨Ao67, co67, eo67⟩ := Kd.R_slice HO_7.out
               (first | subst eo67 | (injection eo67 with f1_ f2_ f3_; have f4_ := f1_.symm; have f5_ := f3_.symm; clear f1_ f2_ f3_; subst f4_; subst f5_))
               have p296 : 0 ≤ (x78_2 : Int) := oZ
               have q296 : x78_2 < (x7_1.length : Int) := oZ
               obtain ⟨ad296, e296, hx296_0⟩ := Kd.at_int (Kd.R_reads' HO_7.out).2.2 x78_2 p296 q296
               cases e296
               replace p296 := eq_true p296
               replace q296 := eq_true q296
               refine start_ (n := 17) (S := fun w' => w'.cell? (ad294.add (x78_2).toNat) = some (.int .i64 (rd x6_1 x78_2)) ∧ w'.cell? (ad296.add (x78_2).toNat) = some (.int .i64 (rd x7_1 x78_2))) (ds := [14, 15]) #[false, false, false, false, false, false, false, false, false, false, false, false, false, false, false, false, false] (by kernel_rfl) rfl rfl ⟨hx294_0, hx296_0⟩ (fun hHeld => ?_); refine with_tabW impl_NodeReport.tab19 impl_NodeReport.bits19 (fun HT_ HW_ => ?_)
               generalize wr.drew = w65 at HO_6 HO_7 HO_12 BK267 HB hx294_0 hx296_0 hHeld ⊢
               refine puZ 0 (some 81) #[true, false, false, false, false, false, false, false, false, false, false, false, false, false, false, false, false] rfl rfl HT_.out ?_
               refine puZ 1 (some 82) #[true, true, false, false, false, false, false, false, false, false, false, false, false, false, false, false, false] rfl rfl HT_.out ?_
               refine puZ 3 (some 84) #[true, true, false, true, false, false, false, false, false, false, false, false, false, false, false, false, false] rfl rfl HT_.out ?_
               refine puZ 4 (some 85) #[true, true, false, true, true, false, false, false, false, false, false, false, false, false, false, false, false] rfl rfl HT_.out ?_
               refine puZ 5 (some 86) #[true, true, false, true, true, true, false, false, false, false, false, false, false, false, false, false, false] rfl rfl HT_.out ?_
               refine puZ 8 (some 89) #[true, true, false, true, true, true, false, false, true, false, false, false, false, false, false, false, false] rfl rfl HT_.out ?_
               refine puZ 9 (some 90) #[true, true, false, true, true, true, false, false, true, true, false, false, false, false, false, false, false] rfl rfl HT_.out ?_
               refine puZ 10 (some 91) #[true, true, false, true, true, true, false, false, true, true, true, false, false, false, false, false, false] rfl rfl HT_.out ?_
               refine take_ (i := 6) (N := some 87) (v := ?_) (a' := ?_) #[true, true, false, true, true, true, true, false, true, true, true, false, false, false, false, false, false] rfl rfl (take_ofW HT_.out HW_.out (by kernel_rfl)) (fun _ _ _ h => h) (Or.inl ⟨by rfl, ?_⟩) hHeld ?_ ?_
               rotate_left
               ·rintro w' ⟨s0, s1⟩
                go_simp
                with_reducible rfl
               rotate_left
               ·simp only [Act.put, List.setIfInBounds_toArray, List.set_cons_zero, List.set_cons_succ, i64_w, i32_w]
                rfl
               refine take_ (i := 11) (N := some 92) (v := ?_) (a' := ?_) #[true, true, false, true, true, true, true, false, true, true, true, true, false, false, false, false, false] rfl rfl (take_ofW HT_.out HW_.out (by kernel_rfl)) (fun _ _ _ h => h) (Or.inl ⟨by rfl, ?_⟩) hHeld ?_ ?_
               rotate_left
               ·rintro w' ⟨s0, s1⟩
                go_simp
                with_reducible rfl
               rotate_left
               ·simp only [Act.put, List.setIfInBounds_toArray, List.set_cons_zero, List.set_cons_succ, i64_w, i32_w]
                rfl
               refine one_ (i := 2) (N := some 83) #[true, true, true, true, true, true, true, false, true, true, true, true, false, false, false, false, false] rfl rfl (one_of HT_.out (by kernel_rfl)) (by decide) (fun K hK => ?_)
               refine goes_ Tryz.func41 (by kernel_rfl) rfl #[.int .i64 x78_2] (by rfl) rfl rfl gZ ?_
               with_reducible refine (impl_Decimal.calls x78_2 t293 _ ?side1 A58.out).mono ?_
               (case side1 => exact HSH.out.below (show Below w.heap.size w _ from bZ))
               rintro e w68 ⟨rfl, hb⟩
               have HS0_ := (hb.cell (World.block_lt_of_cell? _ _ (hHeld.1))).trans (hHeld.1)
               have HS1_ := (hb.cell (World.block_lt_of_cell? _ _ (hHeld.2))).trans (hHeld.2)
               refine ⟨_, rfl, ?_⟩
               have n0_ := Aside0.mk (Kd.R_below (Kd.rZ HO_6.out) hb)
               have n1_ := Aside0.mk (Kd.R_below (Kd.rZ HO_7.out) hb)
               have n2_ := Aside0.mk (Kd.N_below (by (with_reducible repeat (first | apply Kd.N_alloc | apply Kd.N_drewN | apply Kd.N_drew)); exact HO_12.out) hb)
               have n3_ := Aside0.mk (blk_below (g := gb267) (o := .cells #[.slice A0_0 l0_0.length c0_0, .slice A0_1 l0_1.length c0_1] 32 (0, 0)) (kZ BK267.out) hb)
               have n4_ := Aside0.mk (below_step bZ hb)
               clear HO_6; clear HO_7; clear HO_12; clear BK267; clear HB
               have HO_6 := n0_
               have HO_7 := n1_
               have HO_12 := n2_
               have BK267 := n3_
               have HB := n4_
               clear n0_ n1_ n2_ n3_ n4_
               (try clear hb)
               (try clear hb2)
               (try clear hk)
               (try clear hi)
               refine hK.out _ _ ⟨HS0_, HS1_⟩ (fun hHeld => ?_)
               clear hK K
               refine norm_ (a' := ?_) ?_ ?_
               rotate_left
               ·show Act.put _ (some 83) _ = _
                simp only [Act.put, List.setIfInBounds_toArray, List.set_cons_zero, List.set_cons_succ, i64_w, i32_w]
                rfl
               refine one_ (i := 7) (N := some 88) #[true, true, true, true, true, true, true, true, true, true, true, true, false, false, false, false, false] rfl rfl (one_of HT_.out (by kernel_rfl)) (by decide) (fun K hK => ?_)
               refine goes_ Tryz.func41 (by kernel_rfl) rfl #[.int .i64 (rd x6_1 x78_2)] (by rfl) rfl rfl gZ ?_
               with_reducible refine (impl_Decimal.calls (rd x6_1 x78_2) t295 _ ?side1 A61.out).mono ?_
               (case side1 => exact HSH.out.below (show Below w.heap.size w _ from bZ))
               rintro e w69 ⟨rfl, hb⟩
               have HS0_ := (hb.cell (World.block_lt_of_cell? _ _ (hHeld.1))).trans (hHeld.1)
               have HS1_ := (hb.cell (World.block_lt_of_cell? _ _ (hHeld.2))).trans (hHeld.2)
               refine ⟨_, rfl, ?_⟩
               have n0_ := Aside0.mk (Kd.R_below (Kd.rZ HO_6.out) hb)
               have n1_ := Aside0.mk (Kd.R_below (Kd.rZ HO_7.out) hb)
               have n2_ := Aside0.mk (Kd.N_below (by (with_reducible repeat (first | apply Kd.N_alloc | apply Kd.N_drewN | apply Kd.N_drew)); exact HO_12.out) hb)
               have n3_ := Aside0.mk (blk_below (g := gb267) (o := .cells #[.slice A0_0 l0_0.length c0_0, .slice A0_1 l0_1.length c0_1] 32 (0, 0)) (kZ BK267.out) hb)
               have n4_ := Aside0.mk (below_step bZ hb)
               clear HO_6; clear HO_7; clear HO_12; clear BK267; clear HB
               have HO_6 := n0_
               have HO_7 := n1_
               have HO_12 := n2_
               have BK267 := n3_
               have HB := n4_
               clear n0_ n1_ n2_ n3_ n4_
               (try clear hb)
               (try clear hb2)
               (try clear hk)
               (try clear hi)
               refine hK.out _ _ ⟨HS0_, HS1_⟩ (fun hHeld => ?_)
               clear hK K
               refine norm_ (a' := ?_) ?_ ?_
               rotate_left
               ·show Act.put _ (some 88) _ = _
                simp only [Act.put, List.setIfInBounds_toArray, List.set_cons_zero, List.set_cons_succ, i64_w, i32_w]
                rfl
               refine one_ (i := 12) (N := some 93) #[true, true, true, true, true, true, true, true, true, true, true, true, true, false, false, false, false] rfl rfl (one_of HT_.out (by kernel_rfl)) (by decide) (fun K hK => ?_)
               refine goes_ Tryz.func41 (by kernel_rfl) rfl #[.int .i64 (rd x7_1 x78_2)] (by rfl) rfl rfl gZ ?_
               with_reducible refine (impl_Decimal.calls (rd x7_1 x78_2) t297 _ ?side1 A63.out).mono ?_
               (case side1 => exact HSH.out.below (show Below w.heap.size w _ from bZ))
               rintro e w70 ⟨rfl, hb⟩
               have HS0_ := (hb.cell (World.block_lt_of_cell? _ _ (hHeld.1))).trans (hHeld.1)
               have HS1_ := (hb.cell (World.block_lt_of_cell? _ _ (hHeld.2))).trans (hHeld.2)
               refine ⟨_, rfl, ?_⟩
               have n0_ := Aside0.mk (Kd.R_below (Kd.rZ HO_6.out) hb)
               have n1_ := Aside0.mk (Kd.R_below (Kd.rZ HO_7.out) hb)
               have n2_ := Aside0.mk (Kd.N_below (by (with_reducible repeat (first | apply Kd.N_alloc | apply Kd.N_drewN | apply Kd.N_drew)); exact HO_12.out) hb)
               have n3_ := Aside0.mk (blk_below (g := gb267) (o := .cells #[.slice A0_0 l0_0.length c0_0, .slice A0_1 l0_1.length c0_1] 32 (0, 0)) (kZ BK267.out) hb)
               have n4_ := Aside0.mk (below_step bZ hb)
               clear HO_6; clear HO_7; clear HO_12; clear BK267; clear HB
               have HO_6 := n0_
               have HO_7 := n1_
               have HO_12 := n2_
               have BK267 := n3_
               have HB := n4_
               clear n0_ n1_ n2_ n3_ n4_
               (try clear hb)
               (try clear hb2)
               (try clear hk)
               (try clear hi)
               refine hK.out _ _ ⟨HS0_, HS1_⟩ (fun hHeld => ?_)
               clear hK K
               refine norm_ (a' := ?_) ?_ ?_
               rotate_left
               ·show Act.put _ (some 93) _ = _
                simp only [Act.put, List.setIfInBounds_toArray, List.set_cons_zero, List.set_cons_succ, i64_w, i32_w]
                rfl
               refine one_ (i := 13) (N := some 94) #[true, true, true, true, true, true, true, true, true, true, true, true, true, true, false, false, false] rfl rfl (one_of HT_.out (by kernel_rfl)) (by decide) (fun K hK => ?_)
               refine Kd.R_lit_step Kd.string _ 9 ?hg (N := 94) ?hd (xs := ([t293, t295, t297] : List ByteArray)) (inner := [.string t293, .string t295, .string t297]) (ok := fun _ => True) (okp := fun _ => True) ?hr ?hp (fun _ hk => hk) trivial (Below.refl _ _) (Nat.le_refl _) (by simp) ?_; (case hd => rfl); (case hg => rfl); (case hr => first | (go_simp; done) | (go_simp; rfl)); (case hp => exact (Reps.one (show Kd.M Kd.string _ _ _ t293 [.string t293] from rfl) (Reps.one (show Kd.M Kd.string _ _ _ t295 [.string t295] from rfl) (Reps.one (show Kd.M Kd.string _ _ _ t297 [.string t297] from rfl) (Reps.none _ _)))))
               intro v299 w71 ho72 hb hg_ hnew_
               have HS0_ := (hb.cell (World.block_lt_of_cell? _ _ (hHeld.1))).trans (hHeld.1)
               have HS1_ := (hb.cell (World.block_lt_of_cell? _ _ (hHeld.2))).trans (hHeld.2)
               clear hg_ hnew_
               (first | rw [← Ny298.out] at ho72 | (simp only [Int.reduceToNat] at ho72; rw [← Ny298.out] at ho72))
               have n0_ := Aside0.mk (Kd.R_below (Kd.rZ HO_6.out) hb)
               have n1_ := Aside0.mk (Kd.R_below (Kd.rZ HO_7.out) hb)
               have n2_ := Aside0.mk (Kd.N_elder' (by (with_reducible repeat (first | apply Kd.N_alloc | apply Kd.N_drewN | apply Kd.N_drew)); exact HO_12.out) (Kd.R_base ho72) hb)
               have n3_ := Aside0.mk (Kd.R_lower ho72 bsZ)
               have n4_ := Aside0.mk (blk_below (g := gb267) (o := .cells #[.slice A0_0 l0_0.length c0_0, .slice A0_1 l0_1.length c0_1] 32 (0, 0)) (kZ BK267.out) hb)
               have n5_ := Aside0.mk (below_step bZ hb)
               clear HO_6; clear HO_7; clear HO_12; clear BK267; clear HB
               have HO_6 := n0_
               have HO_7 := n1_
               have HO_12 := n2_
               have HO300 := n3_
               have BK267 := n4_
               have HB := n5_
               clear n0_ n1_ n2_ n3_ n4_ n5_
               clear hb ho72
               obtain ⟨Ao74, co74, eo74⟩ := Kd.R_slice HO300.out
               (first | subst eo74 | (injection eo74 with f1_ f2_ f3_; have f4_ := f1_.symm; have f5_ := f3_.symm; clear f1_ f2_ f3_; subst f4_; subst f5_))
               refine hK.out _ _ ⟨HS0_, HS1_⟩ (fun hHeld => ?_)
               clear hK K
               refine norm_ (a' := ?_) ?_ ?_
               rotate_left
               ·show Act.put _ (some 94) _ = _
                simp only [Act.put, List.setIfInBounds_toArray, List.set_cons_zero, List.set_cons_succ, i64_w, i32_w]
                rfl
               refine last_ (i := 14) (N := some 95) #[true, true, true, true, true, true, true, true, true, true, true, true, true, true, true, false, false] rfl rfl (one_of HT_.out (by kernel_rfl)) (by decide) (fun K hK => ?_)
               refine value_ (w1 := ?_) (v := ?_) (by rfl) rfl ?_ ?_
               rotate_left 2
               ·go_simp
                constructor
                ·rfl
                ·rfl
               refine hK.out _ _ ?_
               clear hK K
               refine norm_ (a' := ?_) ?_ ?_
               rotate_left
               ·show Act.put _ (some 95) _ = _
                simp only [Act.put, List.setIfInBounds_toArray, List.set_cons_zero, List.set_cons_succ, i64_w, i32_w]
                rfl
               refine last_ (i := 15) (N := some 96) #[true, true, true, true, true, true, true, true, true, true, true, true, true, true, true, true, false] rfl rfl (one_of HT_.out (by kernel_rfl)) (by decide) (fun K hK => ?_)
               refine Kd.N_append_step (Kd.slice 9 Kd.string) (w0 := w) w.heap.size (by rfl) (.tmp 81) (.tmp 95) 56 27 (.slice none 0 0) 24 rfl Tryz.underlying56 info27 rfl (by decide) (by omega) u12 x12_2 y298 [.slice Ao74 y298.length co74] (fun k_ => some k_ ≠ (.slice (some ad294) x6_1.length co66 : Value).ownBlock ∧ some k_ ≠ (.slice (some ad296) x7_1.length co67 : Value).ownBlock ∧ k_ ≠ gb267) (fun k_ => ((fun k_ => some k_ ≠ (.slice (some ad294) x6_1.length co66 : Value).ownBlock ∧ some k_ ≠ (.slice (some ad296) x7_1.length co67 : Value).ownBlock ∧ k_ ≠ gb267)) k_ ∧ some k_ ≠ (u12 : Value).ownBlock) rfl rfl ?aP (fun _ hk => hk) ?aF ?aO ?aB ?aS ?aL ?_
               (case aP => exact (Kd.FK_slice_mk (Kd.R_reads' (Kd.R_mono (ok' := (fun k_ => ((fun k_ => some k_ ≠ (.slice (some ad294) x6_1.length co66 : Value).ownBlock ∧ some k_ ≠ (.slice (some ad296) x7_1.length co67 : Value).ownBlock ∧ k_ ≠ gb267)) k_ ∧ some k_ ≠ (u12 : Value).ownBlock)) (Kd.R_types (Kd.R_apart' (Kd.R_apart' (Kd.R_apart' (HO300.out) (Kd.R_typed HO_6.out) (by decide)) (Kd.R_typed HO_7.out) (by decide)) (Kd.N_typed HO_12.out) (by decide)) BK267.out (by decide)) (fun k_ hk => ⟨⟨hk.1.1.1.2, ⟨hk.1.1.2, hk.2⟩⟩, hk.1.2⟩))).2.1 (Kd.R_F (Kd.R_mono (ok' := (fun k_ => ((fun k_ => some k_ ≠ (.slice (some ad294) x6_1.length co66 : Value).ownBlock ∧ some k_ ≠ (.slice (some ad296) x7_1.length co67 : Value).ownBlock ∧ k_ ≠ gb267)) k_ ∧ some k_ ≠ (u12 : Value).ownBlock)) (Kd.R_types (Kd.R_apart' (Kd.R_apart' (Kd.R_apart' (HO300.out) (Kd.R_typed HO_6.out) (by decide)) (Kd.R_typed HO_7.out) (by decide)) (Kd.N_typed HO_12.out) (by decide)) BK267.out (by decide)) (fun k_ hk => ⟨⟨hk.1.1.1.2, ⟨hk.1.1.2, hk.2⟩⟩, hk.1.2⟩)))))
               (case aB => exact bZ)
               (case aF => exact (fun k_ hk => ⟨Kd.fresh' (Kd.R_lt (Kd.rZ HO_6.out)) k_ hk, Kd.fresh' (Kd.R_lt (Kd.rZ HO_7.out)) k_ hk, Kd.freshB (g := gb267) (o := .cells #[.slice A0_0 l0_0.length c0_0, .slice A0_1 l0_1.length c0_1] 32 (0, 0)) (kZ BK267.out) k_ hk⟩))
               (case aO => exact (by (with_reducible repeat (first | apply Kd.N_alloc | apply Kd.N_drewN | apply Kd.N_drew)); exact Kd.N_mono HO_12.out (fun _ hk => ⟨hk.1.1, ⟨hk.1.2.1, hk.1.2.2⟩⟩)))
               (case aS => exact bsZ)
               (case aL => have := LMc64.out; omega)
               intro v302 w73 ho hb hg hat
               rw [← Ny301.out] at ho
               have n0_ := Aside0.mk (Kd.R_over' (Kd.rZ HO_6.out) (Kd.N_typed (by (with_reducible repeat (first | apply Kd.N_alloc | apply Kd.N_drewN | apply Kd.N_drew)); exact HO_12.out)) (by decide) hg)
               have n1_ := Aside0.mk (Kd.R_over' (Kd.rZ HO_7.out) (Kd.N_typed (by (with_reducible repeat (first | apply Kd.N_alloc | apply Kd.N_drewN | apply Kd.N_drew)); exact HO_12.out)) (by decide) hg)
               have n2_ := Aside0.mk (blk_grown (g := gb267) (o := .cells #[.slice A0_0 l0_0.length c0_0, .slice A0_1 l0_1.length c0_1] 32 (0, 0)) (kZ BK267.out) hg (Kd.N_ne HO_12.out BK267.out (by decide)))
               have n3_ := Aside0.mk (hb)
               have n4_ := Aside0.mk (ho)
               clear HO_6; clear HO_7; clear BK267; clear HB; clear HO_12; clear HO300
               have HO_6 := n0_
               have HO_7 := n1_
               have BK267 := n2_
               have HB := n3_
               have HO303 := n4_
               clear n0_ n1_ n2_ n3_ n4_
               clear ho hb hg hat
               refine hK.out _ _ ?_
               clear hK K
               refine norm_ (a' := ?_) ?_ ?_
               rotate_left
               ·show Act.put _ (some 96) _ = _
                simp only [Act.put, List.setIfInBounds_toArray, List.set_cons_zero, List.set_cons_succ, i64_w, i32_w]
                rfl
               refine puZ 16 (some 12) #[true, true, true, true, true, true, true, true, true, true, true, true, true, true, true, true, true] rfl rfl HT_.out ?_
               refine done_ (done_of HT_.out (by kernel_rfl)) ?_
               try go_wp2
               go_roundg k2
               case measure => have := HK1.out; have := HK2.out; omega
               case rel => exact ⟨(y301), (wrap64 (x78_2 + 1)), sZ, H', ⟨by have := HK1.out; have := HK2.out; omega⟩, ⟨Kd.rZ HO_6.out⟩, ⟨Kd.rZ HO_7.out⟩, ⟨by (with_reducible repeat (first | apply Kd.N_alloc | apply Kd.N_drewN | apply Kd.N_drew)); exact HO303.out⟩, ⟨kZ BK267.out⟩, ⟨bZ⟩⟩
              ·rw [if_neg c64] at H
               exact absurd H (by simp)
             ·rw [if_neg c62] at H
              exact absurd H (by simp)
            ·rw [if_neg c60] at H
             exact absurd H (by simp)
           ·rw [if_neg c59] at H
            exact absurd H (by simp)
          ·rw [if_neg c57] at H
           have c57b0 : decide (x78_2 < (l0_0.length : Int)) = false := decide_eq_false c57
           clear c57
           replace H := Option.bind_eq_some_iff.mp H
           obtain ⟨⟨t304, t305⟩, A750, H⟩ := H
           replace H : (some (t304, t305)) = some (r1, r2) := H
           have A75 := Aside0.mk A750
           clear A750
           simp only [Option.some.injEq, Prod.mk.injEq] at H
           obtain ⟨rfl, rfl⟩ := H
           obtain ⟨Ao76, co76, eo76⟩ := Kd.N_slice HO_12.out
           subst eo76
           go_wp2_with (first | ((with_reducible refine gate_callee (f := 42) rfl ?_); refine goesL_ (some 99) rfl rfl Tryz.func42 (by kernel_rfl) rfl #[.slice Ao76 x12_2.length co76] rfl gZ ?_; (with_reducible refine (impl_TableLines.calls k2 _ _ x12_2 t304 t305 _ ?side1 ?side2 A75.out).mono ?_); (case side1 => repeat (first | exact (Kd.N_reads' HO_12.out).2.2 | (with_reducible refine Kd.C_alloc ?_ _) | (with_reducible refine Kd.C_drewN ?_ _) | (with_reducible refine Kd.C_drew ?_))); (case side2 => exact (Kd.N_reads' HO_12.out).2.1); rintro e w77 ⟨v306, rfl, ho0, hb⟩; refine ⟨_, rfl, ?_⟩; have n0_ := Aside0.mk (Kd.R_below (Kd.rZ HO_6.out) hb); have n1_ := Aside0.mk (Kd.R_below (Kd.rZ HO_7.out) hb); have n2_ := Aside0.mk (Kd.N_elder' (by (with_reducible repeat (first | apply Kd.N_alloc | apply Kd.N_drewN | apply Kd.N_drew)); exact HO_12.out) (Kd.R_base ho0) hb); have n3_ := Aside0.mk (Kd.R_lower ho0 bsZ); have n4_ := Aside0.mk (blk_below (g := gb267) (o := .cells #[.slice A0_0 l0_0.length c0_0, .slice A0_1 l0_1.length c0_1] 32 (0, 0)) (kZ BK267.out) hb); have n5_ := Aside0.mk (below_step bZ hb); clear HO_6; clear HO_7; clear HO_12; clear BK267; clear HB; have HO_6 := n0_; have HO_7 := n1_; have HO_12 := n2_; have HO307 := n3_; have BK267 := n4_; have HB := n5_; clear n0_ n1_ n2_ n3_ n4_ n5_; (try clear hb); (try clear hb2); (try clear hk); (try clear hi); (try clear ho0)))
           go_ret2
           exact ⟨_, eZ, Kd.rZ HO307.out, bZ⟩
    ·rw [if_neg c8] at H
     exact absurd H (by simp)
   ·rw [if_neg c7] at H
    exact absurd H (by simp)
  ·replace c6 := Bool.eq_false_iff.mpr c6
   subst c6
   have H1 : (some (([] : List ByteArray), 2)) = some (r1, r2) := by rw [if_neg (show ¬ (false = true) by decide)] at H; exact H
   clear H
   have H := H1
   clear H1
   simp only [Option.some.injEq, Prod.mk.injEq] at H
   obtain ⟨rfl, rfl⟩ := H
   go_enter Tryz.func10, Tryz.ntmps10
   go_wp2_with (first | ((with_reducible refine gate_dst (N := 2) rfl ?_); refine boxZ 2 #[.slice A0_0 l0_0.length c0_0, .slice A0_1 l0_1.length c0_1] 32 rfl rfl ?_; intro gb267 hg w78 hbox hb; have n0_ := Aside0.mk (below_step bZ hb); have n1_ := Aside0.mk (hbox); have n2_ := Aside0.mk ((by rw [hg]; exact bsZ : w.heap.size ≤ gb267)); have n3_ := Aside0.mk ((by rw [hg]; exact bsZ : w.heap.size ≤ gb267)); clear HB; have HB := n0_; have BK267 := n1_; have GW267 := n2_; have GE267 := n3_; clear n0_ n1_ n2_ n3_; clear hb hbox hg; have hcz79_0 := bc0 BK267.out; have hcz79_1 := bc1 BK267.out; have hfz79_0 := blk_frozen BK267.out 0; have hfz79_1 := blk_frozen BK267.out 1) | ((with_reducible refine gate_callee (f := 38) rfl ?_); refine goesL_ (some 16) rfl rfl Tryz.func38 (by kernel_rfl) rfl #[.agg #[.slice A0_0 l0_0.length c0_0, .slice A0_1 l0_1.length c0_1]] rfl gZ ?_; (with_reducible refine (impl_ValidNetwork.calls k _ _ l0_0 _ _ l0_1 true _ ?side1 ?side2 ?side3 ?side4 A3.out).mono ?_); (case side1 => repeat (first | exact (Kd.C_below HR0_0.out HB.out) | (with_reducible refine Kd.C_alloc ?_ _) | (with_reducible refine Kd.C_drewN ?_ _) | (with_reducible refine Kd.C_drew ?_))); (case side2 => exact HC0_0.out); (case side3 => repeat (first | exact (Kd.C_below HR0_1.out HB.out) | (with_reducible refine Kd.C_alloc ?_ _) | (with_reducible refine Kd.C_drewN ?_ _) | (with_reducible refine Kd.C_drew ?_))); (case side4 => exact HC0_1.out); rintro e w80 ⟨rfl, hb⟩; refine ⟨_, rfl, ?_⟩; have n0_ := Aside0.mk (blk_below (g := gb267) (o := .cells #[.slice A0_0 l0_0.length c0_0, .slice A0_1 l0_1.length c0_1] 32 (0, 0)) (kZ BK267.out) hb); have n1_ := Aside0.mk (below_step bZ hb); clear BK267; clear HB; have BK267 := n0_; have HB := n1_; clear n0_ n1_; (try clear hb); (try clear hb2); (try clear hk); (try clear hi); have hcz81_0 := bc0 BK267.out; have hcz81_1 := bc1 BK267.out; have hfz81_0 := blk_frozen BK267.out 0; have hfz81_1 := blk_frozen BK267.out 1) | ((with_reducible refine gate_callee (f := 39) rfl ?_); refine goesL_ (some 21) rfl rfl Tryz.func39 (by kernel_rfl) rfl #[.agg #[.slice A0_0 l0_0.length c0_0, .slice A0_1 l0_1.length c0_1], .slice A1 l1.length c1] rfl gZ ?_; (with_reducible refine (impl_Network_flowsOk.calls _ _ l0_0 _ _ l0_1 _ _ l1 false _ ?side1 ?side2 ?side3 ?side4 ?side5 ?side6 A5.out).mono ?_); (case side1 => repeat (first | exact (Kd.C_below HR0_0.out HB.out) | (with_reducible refine Kd.C_alloc ?_ _) | (with_reducible refine Kd.C_drewN ?_ _) | (with_reducible refine Kd.C_drew ?_))); (case side2 => exact HC0_0.out); (case side3 => repeat (first | exact (Kd.C_below HR0_1.out HB.out) | (with_reducible refine Kd.C_alloc ?_ _) | (with_reducible refine Kd.C_drewN ?_ _) | (with_reducible refine Kd.C_drew ?_))); (case side4 => exact HC0_1.out); (case side5 => repeat (first | exact (Kd.C_below HR1.out HB.out) | (with_reducible refine Kd.C_alloc ?_ _) | (with_reducible refine Kd.C_drewN ?_ _) | (with_reducible refine Kd.C_drew ?_))); (case side6 => exact HC1.out); rintro e w82 ⟨rfl, hb⟩; refine ⟨_, rfl, ?_⟩; have n0_ := Aside0.mk (blk_below (g := gb267) (o := .cells #[.slice A0_0 l0_0.length c0_0, .slice A0_1 l0_1.length c0_1] 32 (0, 0)) (kZ BK267.out) hb); have n1_ := Aside0.mk (below_step bZ hb); clear BK267; clear HB; have BK267 := n0_; have HB := n1_; clear n0_ n1_; (try clear hb); (try clear hb2); (try clear hk); (try clear hi)))
   go_ret2
   exact ⟨_, eZ, by first | exact Kd.R_nil _ _ _ _ _ | exact Kd.N_nil _ _ _ _ _ | exact Kd.V_nil _ _ _ _ _ | exact Kd.Q_nil _ _ _ _ _ | exact Kd.S_nil _ _ _ _ _, bZ⟩
 ·replace c4 := Bool.eq_false_iff.mpr c4
  subst c4
  have H1 : (some (([] : List ByteArray), 1)) = some (r1, r2) := by rw [if_neg (show ¬ (false = true) by decide)] at H; exact H
  clear H
  have H := H1
  clear H1
  simp only [Option.some.injEq, Prod.mk.injEq] at H
  obtain ⟨rfl, rfl⟩ := H
  go_enter Tryz.func10, Tryz.ntmps10
  go_wp2_with (first | ((with_reducible refine gate_dst (N := 2) rfl ?_); refine boxZ 2 #[.slice A0_0 l0_0.length c0_0, .slice A0_1 l0_1.length c0_1] 32 rfl rfl ?_; intro gb267 hg w83 hbox hb; have n0_ := Aside0.mk (below_step bZ hb); have n1_ := Aside0.mk (hbox); have n2_ := Aside0.mk ((by rw [hg]; exact bsZ : w.heap.size ≤ gb267)); have n3_ := Aside0.mk ((by rw [hg]; exact bsZ : w.heap.size ≤ gb267)); clear HB; have HB := n0_; have BK267 := n1_; have GW267 := n2_; have GE267 := n3_; clear n0_ n1_ n2_ n3_; clear hb hbox hg; have hcz84_0 := bc0 BK267.out; have hcz84_1 := bc1 BK267.out; have hfz84_0 := blk_frozen BK267.out 0; have hfz84_1 := blk_frozen BK267.out 1) | ((with_reducible refine gate_callee (f := 38) rfl ?_); refine goesL_ (some 16) rfl rfl Tryz.func38 (by kernel_rfl) rfl #[.agg #[.slice A0_0 l0_0.length c0_0, .slice A0_1 l0_1.length c0_1]] rfl gZ ?_; (with_reducible refine (impl_ValidNetwork.calls k _ _ l0_0 _ _ l0_1 false _ ?side1 ?side2 ?side3 ?side4 A3.out).mono ?_); (case side1 => repeat (first | exact (Kd.C_below HR0_0.out HB.out) | (with_reducible refine Kd.C_alloc ?_ _) | (with_reducible refine Kd.C_drewN ?_ _) | (with_reducible refine Kd.C_drew ?_))); (case side2 => exact HC0_0.out); (case side3 => repeat (first | exact (Kd.C_below HR0_1.out HB.out) | (with_reducible refine Kd.C_alloc ?_ _) | (with_reducible refine Kd.C_drewN ?_ _) | (with_reducible refine Kd.C_drew ?_))); (case side4 => exact HC0_1.out); rintro e w85 ⟨rfl, hb⟩; refine ⟨_, rfl, ?_⟩; have n0_ := Aside0.mk (blk_below (g := gb267) (o := .cells #[.slice A0_0 l0_0.length c0_0, .slice A0_1 l0_1.length c0_1] 32 (0, 0)) (kZ BK267.out) hb); have n1_ := Aside0.mk (below_step bZ hb); clear BK267; clear HB; have BK267 := n0_; have HB := n1_; clear n0_ n1_; (try clear hb); (try clear hb2); (try clear hk); (try clear hi)))
  go_ret2
  exact ⟨_, eZ, by first | exact Kd.R_nil _ _ _ _ _ | exact Kd.N_nil _ _ _ _ _ | exact Kd.V_nil _ _ _ _ _ | exact Kd.Q_nil _ _ _ _ _ | exact Kd.S_nil _ _ _ _ _, bZ⟩
end Go.Proofs.YtadaegehdcngdaaGreatDoor.XV
end

section
namespace Go.Proofs.YtadaegehdcngdaaGreatDoor.XV
open Go.RowKit Go.Proofs.YtadaegehdcngdaaGreatDoorW.PrintWords Go.Proofs.YtadaegehdcngdaaGreatDoorW.PrintLast Go.Proofs.YtadaegehdcngdaaGreatDoorW.PrintMore
attribute [local go_sem] run_eql_slice_nil binOp_string_gtr' binOp_string_leq' binOp_string_geq' max2_int min2_int max_two min_two max_three min_three max_four min_four   -- for this text's walks alone
set_option linter.unusedVariables false
set_option linter.unusedSimpArgs false
def laws_eqStringS.l0 : Nat → List ByteArray → List ByteArray → Int → Option (Bool)
 | 0, _, _, _ => none
 | k + 1, x0, x1, x5 => if x5 < (x0.length : Int) then (if 0 ≤ x5 then (if x5 < (x1.length : Int) then (if (rdOf ByteArray.empty x0 x5).toList = (rdOf ByteArray.empty x1 x5).toList then (laws_eqStringS.l0 k x0 x1 (wrap64 (x5 + 1))) else (none)) else (none)) else (none)) else (some true)
def laws_eqStringS.f (k : Nat) (l0 : List ByteArray) (l1 : List ByteArray) : Option (Bool) := if (l0.length : Int) = (l1.length : Int) then (laws_eqStringS.l0 k l0 l1 0) else (none)
set_option maxHeartbeats 8000000 in
set_option maxRecDepth 100000 in
theorem laws_eqStringS.calls (k : Nat) (A0 : Option Addr) (c0 : Nat) (l0 : List ByteArray) (A1 : Option Addr) (c1 : Nat) (l1 : List ByteArray) (r : Bool) (w : World) (hr0 : Kd.C Kd.string w A0 l0.length l0) (hc0 : l0.length ≤ c0) (hr1 : Kd.C Kd.string w A1 l1.length l1) (hc1 : l1.length ≤ c1) (h : laws_eqStringS.f k l0 l1 = some r) :
  Calls Tryz.prog 11 #[.slice A0 l0.length c0, .slice A1 l1.length c1] w fun e w' => e = .returned (.bool r) ∧ Drawn0 w w' := by
 have HR0 := Aside0.mk hr0
 have HC0 := Aside0.mk hc0
 clear hr0 hc0
 have HR1 := Aside0.mk hr1
 have HC1 := Aside0.mk hc1
 clear hr1 hc1
 have H : (if (l0.length : Int) = (l1.length : Int) then (laws_eqStringS.l0 k l0 l1 0) else (none)) = some r := h
 clear h
 by_cases c3 : (l0.length : Int) = (l1.length : Int)
 ·rw [if_pos c3] at H
  have c3b0 : ((l0.length : Int) == (l1.length : Int)) = true := beq_iff_eq.mpr c3
  have c3b1 : ((l0.length : Int) != (l1.length : Int)) = false := bne_eq_false_iff_eq.mpr c3
  have c3b2 : (l0.length == l1.length) = true := by first | simpa using c3 | (simp at c3 ⊢; omega)
  clear c3
  have H' := Aside0.mk H
  clear H
  go_enter Tryz.func11, Tryz.ntmps11
  go_wp2
  repeat (go_quiet (fail); try go_wp2)
  go_loopg [5] k (fun kq v5 w' => ∃ (x5_1 : Int), v5 = .int .i64 x5_1 ∧ Aside0 (laws_eqStringS.l0 kq l0 l1 x5_1 = some r) ∧ Aside0 (kq ≤ k) ∧ Drawn0 w w')
  case atStart => exact ⟨(0), sZ, H', ⟨Nat.le_refl _⟩, dZ⟩
  case round =>
   clear H'; (try clear c1); (try clear p2); (try clear c3); (try clear c3b0); (try clear c3b1); (try clear c3b2)
   obtain ⟨x5_1, rfl, HA, HK1, ⟨m1, rfl⟩⟩ := hrel
   cases gk with
   | zero => exact absurd HA.out (by simp [laws_eqStringS.l0])
   | succ k1 =>
    have H := HA.out
    clear HA
    simp only [laws_eqStringS.l0] at H
    by_cases c4 : x5_1 < (l0.length : Int)
    ·rw [if_pos c4] at H
     have c4b0 : decide (x5_1 < (l0.length : Int)) = true := decide_eq_true c4
     clear c4
     by_cases c5 : 0 ≤ x5_1
     ·rw [if_pos c5] at H
      have c5b0 : decide (0 ≤ x5_1) = true := decide_eq_true c5
      clear c5
      by_cases c6 : x5_1 < (l1.length : Int)
      ·rw [if_pos c6] at H
       have c6b0 : decide (x5_1 < (l1.length : Int)) = true := decide_eq_true c6
       clear c6
       by_cases c7 : (rdOf ByteArray.empty l0 x5_1).toList = (rdOf ByteArray.empty l1 x5_1).toList
       ·rw [if_pos c7] at H
        have c7b0 : ((rdOf ByteArray.empty l0 x5_1).toList == (rdOf ByteArray.empty l1 x5_1).toList) = true := beq_iff_eq.mpr c7
        have c7b1 : ((rdOf ByteArray.empty l0 x5_1).toList != (rdOf ByteArray.empty l1 x5_1).toList) = false := bne_eq_false_iff_eq.mpr c7
        clear c7
        have H' := Aside0.mk H
        clear H
        have p308 : 0 ≤ (x5_1 : Int) := oZ
        have q308 : x5_1 < (l0.length : Int) := oZ
        obtain ⟨ad308, e308, hx308_0⟩ := Kd.at_string HR0.out x5_1 p308 q308
        cases e308
        replace p308 := eq_true p308
        replace q308 := eq_true q308
        have p309 : 0 ≤ (x5_1 : Int) := oZ
        have q309 : x5_1 < (l1.length : Int) := oZ
        obtain ⟨ad309, e309, hx309_0⟩ := Kd.at_string HR1.out x5_1 p309 q309
        cases e309
        replace p309 := eq_true p309
        replace q309 := eq_true q309
        go_wp2
        repeat (go_quiet (fail); try go_wp2)
        go_roundg k1
        case measure => have := HK1.out; omega
        case rel => exact ⟨(wrap64 (x5_1 + 1)), sZ, H', ⟨by have := HK1.out; omega⟩, dZ⟩
       ·rw [if_neg c7] at H
        exact absurd H (by simp)
      ·rw [if_neg c6] at H
       exact absurd H (by simp)
     ·rw [if_neg c5] at H
      exact absurd H (by simp)
    ·rw [if_neg c4] at H
     have c4b0 : decide (x5_1 < (l0.length : Int)) = false := decide_eq_false c4
     clear c4
     obtain rfl := Option.some.inj H
     go_wp2
     repeat (go_quiet (fail); try go_wp2)
     go_ret
     exact ⟨sZ, dZ⟩
 ·rw [if_neg c3] at H
  exact absurd H (by simp)
end Go.Proofs.YtadaegehdcngdaaGreatDoor.XV
end

section
namespace Go.Proofs.YtadaegehdcngdaaGreatDoor.XV
open Go.RowKit Go.Proofs.YtadaegehdcngdaaGreatDoorW.PrintWords Go.Proofs.YtadaegehdcngdaaGreatDoorW.PrintLast Go.Proofs.YtadaegehdcngdaaGreatDoorW.PrintMore
attribute [local go_sem] run_eql_slice_nil binOp_string_gtr' binOp_string_leq' binOp_string_geq' max2_int min2_int max_two min_two max_three min_three max_four min_four   -- for this text's walks alone
set_option linter.unusedVariables false
set_option linter.unusedSimpArgs false
def laws_eqInt64S.l0 : Nat → List Int → List Int → Int → Option (Bool)
 | 0, _, _, _ => none
 | k + 1, x0, x1, x5 => if x5 < (x0.length : Int) then (if 0 ≤ x5 then (if x5 < (x1.length : Int) then (if (rd x0 x5) = (rd x1 x5) then (laws_eqInt64S.l0 k x0 x1 (wrap64 (x5 + 1))) else (none)) else (none)) else (none)) else (some true)
def laws_eqInt64S.f (k : Nat) (l0 : List Int) (l1 : List Int) : Option (Bool) := if (l0.length : Int) = (l1.length : Int) then (laws_eqInt64S.l0 k l0 l1 0) else (none)
set_option maxHeartbeats 8000000 in
set_option maxRecDepth 100000 in
theorem laws_eqInt64S.calls (k : Nat) (A0 : Option Addr) (c0 : Nat) (l0 : List Int) (A1 : Option Addr) (c1 : Nat) (l1 : List Int) (r : Bool) (w : World) (hr0 : Kd.C (Kd.int .i64) w A0 l0.length l0) (hc0 : l0.length ≤ c0) (hr1 : Kd.C (Kd.int .i64) w A1 l1.length l1) (hc1 : l1.length ≤ c1) (h : laws_eqInt64S.f k l0 l1 = some r) :
  Calls Tryz.prog 13 #[.slice A0 l0.length c0, .slice A1 l1.length c1] w fun e w' => e = .returned (.bool r) ∧ Drawn0 w w' := by
 have HR0 := Aside0.mk hr0
 have HC0 := Aside0.mk hc0
 clear hr0 hc0
 have HR1 := Aside0.mk hr1
 have HC1 := Aside0.mk hc1
 clear hr1 hc1
 have H : (if (l0.length : Int) = (l1.length : Int) then (laws_eqInt64S.l0 k l0 l1 0) else (none)) = some r := h
 clear h
 by_cases c3 : (l0.length : Int) = (l1.length : Int)
 ·rw [if_pos c3] at H
  have c3b0 : ((l0.length : Int) == (l1.length : Int)) = true := beq_iff_eq.mpr c3
  have c3b1 : ((l0.length : Int) != (l1.length : Int)) = false := bne_eq_false_iff_eq.mpr c3
  have c3b2 : (l0.length == l1.length) = true := by first | simpa using c3 | (simp at c3 ⊢; omega)
  clear c3
  have H' := Aside0.mk H
  clear H
  go_enter Tryz.func13, Tryz.ntmps13
  go_wp2
  repeat (go_quiet (fail); try go_wp2)
  go_loopg [5] k (fun kq v5 w' => ∃ (x5_1 : Int), v5 = .int .i64 x5_1 ∧ Aside0 (laws_eqInt64S.l0 kq l0 l1 x5_1 = some r) ∧ Aside0 (kq ≤ k) ∧ Drawn0 w w')
  case atStart => exact ⟨(0), sZ, H', ⟨Nat.le_refl _⟩, dZ⟩
  case round =>
   clear H'; (try clear c1); (try clear p2); (try clear c3); (try clear c3b0); (try clear c3b1); (try clear c3b2)
   obtain ⟨x5_1, rfl, HA, HK1, ⟨m1, rfl⟩⟩ := hrel
   cases gk with
   | zero => exact absurd HA.out (by simp [laws_eqInt64S.l0])
   | succ k1 =>
    have H := HA.out
    clear HA
    simp only [laws_eqInt64S.l0] at H
    by_cases c4 : x5_1 < (l0.length : Int)
    ·rw [if_pos c4] at H
     have c4b0 : decide (x5_1 < (l0.length : Int)) = true := decide_eq_true c4
     clear c4
     by_cases c5 : 0 ≤ x5_1
     ·rw [if_pos c5] at H
      have c5b0 : decide (0 ≤ x5_1) = true := decide_eq_true c5
      clear c5
      by_cases c6 : x5_1 < (l1.length : Int)
      ·rw [if_pos c6] at H
       have c6b0 : decide (x5_1 < (l1.length : Int)) = true := decide_eq_true c6
       clear c6
       by_cases c7 : (rd l0 x5_1) = (rd l1 x5_1)
       ·rw [if_pos c7] at H
        have c7b0 : ((rd l0 x5_1) == (rd l1 x5_1)) = true := beq_iff_eq.mpr c7
        have c7b1 : ((rd l0 x5_1) != (rd l1 x5_1)) = false := bne_eq_false_iff_eq.mpr c7
        clear c7
        have H' := Aside0.mk H
        clear H
        have p310 : 0 ≤ (x5_1 : Int) := oZ
        have q310 : x5_1 < (l0.length : Int) := oZ
        obtain ⟨ad310, e310, hx310_0⟩ := Kd.at_int HR0.out x5_1 p310 q310
        cases e310
        replace p310 := eq_true p310
        replace q310 := eq_true q310
        have p311 : 0 ≤ (x5_1 : Int) := oZ
        have q311 : x5_1 < (l1.length : Int) := oZ
        obtain ⟨ad311, e311, hx311_0⟩ := Kd.at_int HR1.out x5_1 p311 q311
        cases e311
        replace p311 := eq_true p311
        replace q311 := eq_true q311
        go_wp2
        repeat (go_quiet (fail); try go_wp2)
        go_roundg k1
        case measure => have := HK1.out; omega
        case rel => exact ⟨(wrap64 (x5_1 + 1)), sZ, H', ⟨by have := HK1.out; omega⟩, dZ⟩
       ·rw [if_neg c7] at H
        exact absurd H (by simp)
      ·rw [if_neg c6] at H
       exact absurd H (by simp)
     ·rw [if_neg c5] at H
      exact absurd H (by simp)
    ·rw [if_neg c4] at H
     have c4b0 : decide (x5_1 < (l0.length : Int)) = false := decide_eq_false c4
     clear c4
     obtain rfl := Option.some.inj H
     go_wp2
     repeat (go_quiet (fail); try go_wp2)
     go_ret
     exact ⟨sZ, dZ⟩
 ·rw [if_neg c3] at H
  exact absurd H (by simp)
def laws_eqPipe.f (a0_0 : ByteArray) (a0_1 : Int) (a0_2 : Int) (a0_3 : Int) (a0_4 : Int) (a0_5 : Int) (a1_0 : ByteArray) (a1_1 : Int) (a1_2 : Int) (a1_3 : Int) (a1_4 : Int) (a1_5 : Int) : Option (Bool) := if a0_0.toList = a1_0.toList then (if a0_1 = a1_1 then (if a0_2 = a1_2 then (if a0_3 = a1_3 then (if a0_4 = a1_4 then (if a0_5 = a1_5 then (some true) else (none)) else (none)) else (none)) else (none)) else (none)) else (none)
set_option maxHeartbeats 8000000 in
set_option maxRecDepth 100000 in
theorem laws_eqPipe.calls (a0_0 : ByteArray) (a0_1 : Int) (a0_2 : Int) (a0_3 : Int) (a0_4 : Int) (a0_5 : Int) (a1_0 : ByteArray) (a1_1 : Int) (a1_2 : Int) (a1_3 : Int) (a1_4 : Int) (a1_5 : Int) (r : Bool) (w : World) (h : laws_eqPipe.f a0_0 a0_1 a0_2 a0_3 a0_4 a0_5 a1_0 a1_1 a1_2 a1_3 a1_4 a1_5 = some r) :
  Calls Tryz.prog 77 #[.agg #[.string a0_0, .int .i64 a0_1, .int .i64 a0_2, .int .i64 a0_3, .int .i64 a0_4, .int .i64 a0_5], .agg #[.string a1_0, .int .i64 a1_1, .int .i64 a1_2, .int .i64 a1_3, .int .i64 a1_4, .int .i64 a1_5]] w fun e w' => e = .returned (.bool r) ∧ Below w.heap.size w w' := by
 have hu58 := Tryz.underlying58
 have HB := Aside0.mk (Below.refl w.heap.size w)
 have H : (if a0_0.toList = a1_0.toList then (if a0_1 = a1_1 then (if a0_2 = a1_2 then (if a0_3 = a1_3 then (if a0_4 = a1_4 then (if a0_5 = a1_5 then (some true) else (none)) else (none)) else (none)) else (none)) else (none)) else (none)) = some r := h
 clear h
 by_cases c3 : a0_0.toList = a1_0.toList
 ·rw [if_pos c3] at H
  have c3b0 : (a0_0.toList == a1_0.toList) = true := beq_iff_eq.mpr c3
  have c3b1 : (a0_0.toList != a1_0.toList) = false := bne_eq_false_iff_eq.mpr c3
  clear c3
  by_cases c4 : a0_1 = a1_1
  ·rw [if_pos c4] at H
   have c4b0 : (a0_1 == a1_1) = true := beq_iff_eq.mpr c4
   have c4b1 : (a0_1 != a1_1) = false := bne_eq_false_iff_eq.mpr c4
   clear c4
   by_cases c5 : a0_2 = a1_2
   ·rw [if_pos c5] at H
    have c5b0 : (a0_2 == a1_2) = true := beq_iff_eq.mpr c5
    have c5b1 : (a0_2 != a1_2) = false := bne_eq_false_iff_eq.mpr c5
    clear c5
    by_cases c6 : a0_3 = a1_3
    ·rw [if_pos c6] at H
     have c6b0 : (a0_3 == a1_3) = true := beq_iff_eq.mpr c6
     have c6b1 : (a0_3 != a1_3) = false := bne_eq_false_iff_eq.mpr c6
     clear c6
     by_cases c7 : a0_4 = a1_4
     ·rw [if_pos c7] at H
      have c7b0 : (a0_4 == a1_4) = true := beq_iff_eq.mpr c7
      have c7b1 : (a0_4 != a1_4) = false := bne_eq_false_iff_eq.mpr c7
      clear c7
      by_cases c8 : a0_5 = a1_5
      ·rw [if_pos c8] at H
       have c8b0 : (a0_5 == a1_5) = true := beq_iff_eq.mpr c8
       have c8b1 : (a0_5 != a1_5) = false := bne_eq_false_iff_eq.mpr c8
       clear c8
       obtain rfl := Option.some.inj H
       go_enter Tryz.func77, Tryz.ntmps77
       go_wp2_with (first | ((with_reducible refine gate_dst (N := 2) rfl ?_); refine boxZ 2 #[.string a0_0, .int .i64 a0_1, .int .i64 a0_2, .int .i64 a0_3, .int .i64 a0_4, .int .i64 a0_5] 58 rfl rfl ?_; intro gb312 hg w9 hbox hb; have n0_ := Aside0.mk (below_step bZ hb); have n1_ := Aside0.mk (hbox); have n2_ := Aside0.mk ((by rw [hg]; exact bsZ : w.heap.size ≤ gb312)); have n3_ := Aside0.mk ((by rw [hg]; exact bsZ : w.heap.size ≤ gb312)); clear HB; have HB := n0_; have BK312 := n1_; have GW312 := n2_; have GE312 := n3_; clear n0_ n1_ n2_ n3_; clear hb hbox hg) | ((with_reducible refine gate_dst (N := 3) rfl ?_); refine boxZ 3 #[.string a1_0, .int .i64 a1_1, .int .i64 a1_2, .int .i64 a1_3, .int .i64 a1_4, .int .i64 a1_5] 58 rfl rfl ?_; intro gb313 hg w10 hbox hb; have n0_ := Aside0.mk (blk_below (g := gb312) (o := .cells #[.string a0_0, .int .i64 a0_1, .int .i64 a0_2, .int .i64 a0_3, .int .i64 a0_4, .int .i64 a0_5] 58 (0, 0)) (kZ BK312.out) hb); have n1_ := Aside0.mk (below_step bZ hb); have n2_ := Aside0.mk (hbox); have n3_ := Aside0.mk ((by rw [hg]; exact bsZ : w.heap.size ≤ gb313)); have n4_ := Aside0.mk ((by rw [hg]; exact bsZ : w.heap.size ≤ gb313)); have n5_ := Aside0.mk ((by rw [hg]; exact Nat.ne_of_lt (blk_lt (g := gb312) (o := .cells #[.string a0_0, .int .i64 a0_1, .int .i64 a0_2, .int .i64 a0_3, .int .i64 a0_4, .int .i64 a0_5] 58 (0, 0)) (kZ BK312.out)) : gb312 ≠ gb313)); have n6_ := Aside0.mk ((by rw [hg]; exact Nat.ne_of_gt (blk_lt (g := gb312) (o := .cells #[.string a0_0, .int .i64 a0_1, .int .i64 a0_2, .int .i64 a0_3, .int .i64 a0_4, .int .i64 a0_5] 58 (0, 0)) (kZ BK312.out)) : gb313 ≠ gb312)); clear BK312; clear HB; have BK312 := n0_; have HB := n1_; have BK313 := n2_; have GW313 := n3_; have GE313 := n4_; have NB312_313 := n5_; have NB313_312 := n6_; clear n0_ n1_ n2_ n3_ n4_ n5_ n6_; clear hb hbox hg; have hnb11 := NB312_313.out; have hnc11 := NB313_312.out; have hcz12_0 := bc0 BK312.out; have hcz12_1 := bc1 BK312.out; have hcz12_2 := bc2 BK312.out; have hcz12_3 := bc3 BK312.out; have hcz12_4 := bc4 BK312.out; have hcz12_5 := bc5 BK312.out; have hfz12_0 := blk_frozen BK312.out 0; have hfz12_1 := blk_frozen BK312.out 1; have hfz12_2 := blk_frozen BK312.out 2; have hfz12_3 := blk_frozen BK312.out 3; have hfz12_4 := blk_frozen BK312.out 4; have hfz12_5 := blk_frozen BK312.out 5; have hcz13_0 := bc0 BK313.out; have hcz13_1 := bc1 BK313.out; have hcz13_2 := bc2 BK313.out; have hcz13_3 := bc3 BK313.out; have hcz13_4 := bc4 BK313.out; have hcz13_5 := bc5 BK313.out; have hfz13_0 := blk_frozen BK313.out 0; have hfz13_1 := blk_frozen BK313.out 1; have hfz13_2 := blk_frozen BK313.out 2; have hfz13_3 := blk_frozen BK313.out 3; have hfz13_4 := blk_frozen BK313.out 4; have hfz13_5 := blk_frozen BK313.out 5))
       go_ret
       exact ⟨eZ, bZ⟩
      ·rw [if_neg c8] at H
       exact absurd H (by simp)
     ·rw [if_neg c7] at H
      exact absurd H (by simp)
    ·rw [if_neg c6] at H
     exact absurd H (by simp)
   ·rw [if_neg c5] at H
    exact absurd H (by simp)
  ·rw [if_neg c4] at H
   exact absurd H (by simp)
 ·rw [if_neg c3] at H
  exact absurd H (by simp)
end Go.Proofs.YtadaegehdcngdaaGreatDoor.XV
end
