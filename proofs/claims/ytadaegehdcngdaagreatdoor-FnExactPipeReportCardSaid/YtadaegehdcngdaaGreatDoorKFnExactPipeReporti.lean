/- The law FnExactPipeReport: part 8 of its texts, joined (wip/pack.py). -/
import Derived.Test.YtadaegehdcngdaaGreatDoorKFnExactPipeReporta
import Derived.Test.YtadaegehdcngdaaGreatDoorKFnExactPipeReportb
import Derived.Test.YtadaegehdcngdaaGreatDoorKFnExactPipeReportc
import Derived.Test.YtadaegehdcngdaaGreatDoorKFnExactPipeReportd
import Derived.Test.YtadaegehdcngdaaGreatDoorKFnExactPipeReporte
import Derived.Test.YtadaegehdcngdaaGreatDoorKFnExactPipeReportf
import Derived.Test.YtadaegehdcngdaaGreatDoorKFnExactPipeReportg
import Derived.Test.YtadaegehdcngdaaGreatDoorKFnExactPipeReporth

section
namespace Go.Proofs.YtadaegehdcngdaaGreatDoor.XV
open Go.RowKit Go.Proofs.YtadaegehdcngdaaGreatDoorW.PrintWords Go.Proofs.YtadaegehdcngdaaGreatDoorW.PrintLast Go.Proofs.YtadaegehdcngdaaGreatDoorW.PrintMore
attribute [local go_sem] run_eql_slice_nil binOp_string_gtr' binOp_string_leq' binOp_string_geq' max2_int min2_int max_two min_two max_three min_three max_four min_four   -- for this text's walks alone
set_option linter.unusedVariables false
set_option linter.unusedSimpArgs false
def impl_PipeReport.l0 : Nat → List Int → List (List ByteArray) → List (S58) → Int → Int → Option (List ByteArray × Int)
 | 0, _, _, _, _, _ => none
 | k + 1, x1, x6, x21, x22, x23 => if x23 < x22 then (if 0 ≤ x23 then (if x23 < (x21.length : Int) then (if x23 < (x1.length : Int) then ((impl_Decimal.f (rd x1 x23)).bind fun t495 => ((impl_DropOf.f k ((rd_T58 x21 x23).f0) ((rd_T58 x21 x23).f1) ((rd_T58 x21 x23).f2) ((rd_T58 x21 x23).f3) ((rd_T58 x21 x23).f4) ((rd_T58 x21 x23).f5) (rd x1 x23)).bind fun bt497 => ((impl_numberCell.f bt497.1 bt497.2).bind fun t499 => ((impl_DelayOf.f k ((rd_T58 x21 x23).f0) ((rd_T58 x21 x23).f1) ((rd_T58 x21 x23).f2) ((rd_T58 x21 x23).f3) ((rd_T58 x21 x23).f4) ((rd_T58 x21 x23).f5) (rd x1 x23)).bind fun bt501 => ((impl_numberCell.f bt501.1 bt501.2).bind fun t503 => (if x6.length < 5864062014805 then (impl_PipeReport.l0 k x1 (x6 ++ [(([(rd_T58 x21 x23).f0, t495, t499, t503] : List ByteArray))]) x21 x22 (wrap64 (x23 + 1))) else (none))))))) else (none)) else (none)) else (none)) else ((impl_TableLines.f k x6).bind fun bt510 => (some (bt510.1, bt510.2)))
def impl_PipeReport.f (k : Nat) (l0_0 : List Int) (l0_1 : List (S58)) (l1 : List Int) : Option (List ByteArray × Int) := (impl_ValidNetwork.f k l0_0 l0_1).bind fun t484 => (if t484 = true then ((impl_Network_flowsOk.f l0_0 l0_1 l1).bind fun t485 => (if t485 = true then (impl_PipeReport.l0 k l1 (([(([(⟨#[112, 105, 112, 101]⟩ : ByteArray), (⟨#[102, 108, 111, 119]⟩ : ByteArray), (⟨#[100, 114, 111, 112]⟩ : ByteArray), (⟨#[100, 101, 108, 97, 121]⟩ : ByteArray)] : List ByteArray))] : List (List ByteArray))) l0_1 (l0_1.length : Int) 0) else (some (([] : List ByteArray), 2)))) else (some (([] : List ByteArray), 1)))
def impl_PipeReport.T9 : Bool × List (List Nat × List Nat) := (true, [([], []), ([], []), ([1], [1]), ([], []), ([], []), ([3, 4], [3, 4]), ([5], [5]), ([6], [6]), ([], []), ([], []), ([], []), ([9, 10], [9, 10]), ([11], [11]), ([8, 12, 7], [8, 12]), ([13], [13]), ([13], [13]), ([14, 15, 13], [14, 15]), ([], []), ([], []), ([], []), ([18, 19], [18, 19]), ([20], [20]), ([17, 21, 16], [17, 21]), ([22], [22]), ([22], [22]), ([23, 24, 22], [23, 24]), ([2, 7, 16, 25], [2, 7, 16, 25]), ([26], [26]), ([0, 27, 25], [0, 27]), ([28, 28, 0, 1, 2, 3, 4, 5, 6, 7, 8, 9, 10, 11, 12, 13, 14, 15, 16, 17, 18, 19, 20, 21, 22, 23, 24, 25, 26, 27, 28], [0, 28])])
def impl_PipeReport.B9 : List Nat := [0, 0, 2, 0, 0, 24, 56, 120, 0, 0, 0, 1536, 3584, 8184, 16376, 16376, 65528, 0, 0, 0, 786432, 1835008, 4194296, 8388600, 8388600, 33554424, 67108862, 134217726, 268435455, 536870911]
theorem impl_PipeReport.tab9 : rtab .any (opsOf Tryz.f19 9) = impl_PipeReport.T9 := by kernel_rfl
theorem impl_PipeReport.bits9 : waitsOk impl_PipeReport.T9.2 impl_PipeReport.B9 = true := by kernel_rfl
set_option maxHeartbeats 8000000 in
set_option maxRecDepth 100000 in
theorem impl_PipeReport.calls (k : Nat) (A0_0 : Option Addr) (c0_0 : Nat) (l0_0 : List Int) (A0_1 : Option Addr) (c0_1 : Nat) (l0_1 : List (S58)) (A1 : Option Addr) (c1 : Nat) (l1 : List Int) (r1 : List ByteArray) (r2 : Int) (w : World) (hr0_0 : Kd.C (Kd.int .i64) w A0_0 l0_0.length l0_0) (hc0_0 : l0_0.length ≤ c0_0) (hr0_1 : Kd.C k58 w A0_1 l0_1.length l0_1) (hc0_1 : l0_1.length ≤ c0_1) (hr1 : Kd.C (Kd.int .i64) w A1 l1.length l1) (hc1 : l1.length ≤ c1) (hSH : ShT Tryz.prog w) (h : impl_PipeReport.f k l0_0 l0_1 l1 = some (r1, r2)) :
  Calls Tryz.prog 19 #[.agg #[.slice A0_0 l0_0.length c0_0, .slice A0_1 l0_1.length c0_1], .slice A1 l1.length c1] w fun e w' => ∃ v0_ : Value, e = .returned (.tuple #[v0_, .int .i64 r2]) ∧ Kd.R Kd.string 9 w' w.heap.size (fun _ => True) v0_ r1 ∧ Below w.heap.size w w' := by
 have hu32 := Tryz.underlying32
 have hu58 := Tryz.underlying58
 have HR0_0 := Aside0.mk hr0_0
 have HC0_0 := Aside0.mk hc0_0
 clear hr0_0 hc0_0
 have HR0_1 := Aside0.mk hr0_1
 have HC0_1 := Aside0.mk hc0_1
 clear hr0_1 hc0_1
 have HR1 := Aside0.mk hr1
 have HC1 := Aside0.mk hc1
 clear hr1 hc1
 have HB := Aside0.mk (Below.refl w.heap.size w)
 have HSH := Aside0.mk hSH
 clear hSH
 have H : ((impl_ValidNetwork.f k l0_0 l0_1).bind fun t484 => (if t484 = true then ((impl_Network_flowsOk.f l0_0 l0_1 l1).bind fun t485 => (if t485 = true then (impl_PipeReport.l0 k l1 (([(([(⟨#[112, 105, 112, 101]⟩ : ByteArray), (⟨#[102, 108, 111, 119]⟩ : ByteArray), (⟨#[100, 114, 111, 112]⟩ : ByteArray), (⟨#[100, 101, 108, 97, 121]⟩ : ByteArray)] : List ByteArray))] : List (List ByteArray))) l0_1 (l0_1.length : Int) 0) else (some (([] : List ByteArray), 2)))) else (some (([] : List ByteArray), 1)))) = some (r1, r2) := h
 clear h
 replace H := Option.bind_eq_some_iff.mp H
 obtain ⟨t484, A30, H⟩ := H
 replace H : (if t484 = true then ((impl_Network_flowsOk.f l0_0 l0_1 l1).bind fun t485 => (if t485 = true then (impl_PipeReport.l0 k l1 (([(([(⟨#[112, 105, 112, 101]⟩ : ByteArray), (⟨#[102, 108, 111, 119]⟩ : ByteArray), (⟨#[100, 114, 111, 112]⟩ : ByteArray), (⟨#[100, 101, 108, 97, 121]⟩ : ByteArray)] : List ByteArray))] : List (List ByteArray))) l0_1 (l0_1.length : Int) 0) else (some (([] : List ByteArray), 2)))) else (some (([] : List ByteArray), 1))) = some (r1, r2) := H
 have A3 := Aside0.mk A30
 clear A30
 by_cases c4 : t484 = true
 ·subst c4
  have H1 : ((impl_Network_flowsOk.f l0_0 l0_1 l1).bind fun t485 => (if t485 = true then (impl_PipeReport.l0 k l1 (([(([(⟨#[112, 105, 112, 101]⟩ : ByteArray), (⟨#[102, 108, 111, 119]⟩ : ByteArray), (⟨#[100, 114, 111, 112]⟩ : ByteArray), (⟨#[100, 101, 108, 97, 121]⟩ : ByteArray)] : List ByteArray))] : List (List ByteArray))) l0_1 (l0_1.length : Int) 0) else (some (([] : List ByteArray), 2)))) = some (r1, r2) := by rw [if_pos rfl] at H; exact H
  clear H
  have H := H1
  clear H1
  replace H := Option.bind_eq_some_iff.mp H
  obtain ⟨t485, A50, H⟩ := H
  replace H : (if t485 = true then (impl_PipeReport.l0 k l1 (([(([(⟨#[112, 105, 112, 101]⟩ : ByteArray), (⟨#[102, 108, 111, 119]⟩ : ByteArray), (⟨#[100, 114, 111, 112]⟩ : ByteArray), (⟨#[100, 101, 108, 97, 121]⟩ : ByteArray)] : List ByteArray))] : List (List ByteArray))) l0_1 (l0_1.length : Int) 0) else (some (([] : List ByteArray), 2))) = some (r1, r2) := H
  have A5 := Aside0.mk A50
  clear A50
  by_cases c6 : t485 = true
  ·subst c6
   have H1 : (impl_PipeReport.l0 k l1 (([(([(⟨#[112, 105, 112, 101]⟩ : ByteArray), (⟨#[102, 108, 111, 119]⟩ : ByteArray), (⟨#[100, 114, 111, 112]⟩ : ByteArray), (⟨#[100, 101, 108, 97, 121]⟩ : ByteArray)] : List ByteArray))] : List (List ByteArray))) l0_1 (l0_1.length : Int) 0) = some (r1, r2) := by rw [if_pos rfl] at H; exact H
   clear H
   have H := H1
   clear H1
   obtain ⟨y486, hy486⟩ : ∃ y_ : List ByteArray, y_ = (([(⟨#[112, 105, 112, 101]⟩ : ByteArray), (⟨#[102, 108, 111, 119]⟩ : ByteArray), (⟨#[100, 114, 111, 112]⟩ : ByteArray), (⟨#[100, 101, 108, 97, 121]⟩ : ByteArray)] : List ByteArray)) := ⟨_, rfl⟩
   replace H : (impl_PipeReport.l0 k l1 (([y486] : List (List ByteArray))) l0_1 (l0_1.length : Int) 0) = some (r1, r2) := by first | (rw [hy486]; with_reducible exact H) | (have H2_ := (Option.bind_some _ _).symm.trans H; rw [hy486]; with_reducible exact H2_) | (have H2_ := (Option.bind_some _ _).symm.trans H; with_reducible exact H2_) | with_reducible exact H | (rw [hy486]; exact H) | exact H
   have Ny486 := Aside0.mk hy486
   clear hy486
   obtain ⟨y489, hy489⟩ : ∃ y_ : List (List ByteArray), y_ = (([y486] : List (List ByteArray))) := ⟨_, rfl⟩
   replace H : (impl_PipeReport.l0 k l1 y489 l0_1 (l0_1.length : Int) 0) = some (r1, r2) := by first | (rw [hy489]; with_reducible exact H) | (have H2_ := (Option.bind_some _ _).symm.trans H; rw [hy489]; with_reducible exact H2_) | (have H2_ := (Option.bind_some _ _).symm.trans H; with_reducible exact H2_) | with_reducible exact H | (rw [hy489]; exact H) | exact H
   have Ny489 := Aside0.mk hy489
   clear hy489
   have H' := Aside0.mk H
   clear H
   go_enter Tryz.func19, Tryz.ntmps19
   go_wp2_with (first | ((with_reducible refine gate_dst (N := 2) rfl ?_); refine boxZ 2 #[.slice A0_0 l0_0.length c0_0, .slice A0_1 l0_1.length c0_1] 32 rfl rfl ?_; intro gb483 hg w7 hbox hb; have n0_ := Aside0.mk (below_step bZ hb); have n1_ := Aside0.mk (hbox); have n2_ := Aside0.mk ((by rw [hg]; exact bsZ : w.heap.size ≤ gb483)); have n3_ := Aside0.mk ((by rw [hg]; exact bsZ : w.heap.size ≤ gb483)); clear HB; have HB := n0_; have BK483 := n1_; have GW483 := n2_; have GE483 := n3_; clear n0_ n1_ n2_ n3_; clear hb hbox hg; have hcz8_0 := bc0 BK483.out; have hcz8_1 := bc1 BK483.out; have hfz8_0 := blk_frozen BK483.out 0; have hfz8_1 := blk_frozen BK483.out 1) | ((with_reducible refine gate_callee (f := 38) rfl ?_); refine goesL_ (some 11) rfl rfl Tryz.func38 (by kernel_rfl) rfl #[.agg #[.slice A0_0 l0_0.length c0_0, .slice A0_1 l0_1.length c0_1]] rfl gZ ?_; (with_reducible refine (impl_ValidNetwork.calls k _ _ l0_0 _ _ l0_1 true _ ?side1 ?side2 ?side3 ?side4 A3.out).mono ?_); (case side1 => repeat (first | exact (Kd.C_below HR0_0.out HB.out) | (with_reducible refine Kd.C_alloc ?_ _) | (with_reducible refine Kd.C_drewN ?_ _) | (with_reducible refine Kd.C_drew ?_))); (case side2 => exact HC0_0.out); (case side3 => repeat (first | exact (Kd.C_below HR0_1.out HB.out) | (with_reducible refine Kd.C_alloc ?_ _) | (with_reducible refine Kd.C_drewN ?_ _) | (with_reducible refine Kd.C_drew ?_))); (case side4 => exact HC0_1.out); rintro e w9 ⟨rfl, hb⟩; refine ⟨_, rfl, ?_⟩; have n0_ := Aside0.mk (blk_below (g := gb483) (o := .cells #[.slice A0_0 l0_0.length c0_0, .slice A0_1 l0_1.length c0_1] 32 (0, 0)) (kZ BK483.out) hb); have n1_ := Aside0.mk (below_step bZ hb); clear BK483; clear HB; have BK483 := n0_; have HB := n1_; clear n0_ n1_; (try clear hb); (try clear hb2); (try clear hk); (try clear hi); have hcz10_0 := bc0 BK483.out; have hcz10_1 := bc1 BK483.out; have hfz10_0 := blk_frozen BK483.out 0; have hfz10_1 := blk_frozen BK483.out 1) | ((with_reducible refine gate_callee (f := 39) rfl ?_); refine goesL_ (some 16) rfl rfl Tryz.func39 (by kernel_rfl) rfl #[.agg #[.slice A0_0 l0_0.length c0_0, .slice A0_1 l0_1.length c0_1], .slice A1 l1.length c1] rfl gZ ?_; (with_reducible refine (impl_Network_flowsOk.calls _ _ l0_0 _ _ l0_1 _ _ l1 true _ ?side1 ?side2 ?side3 ?side4 ?side5 ?side6 A5.out).mono ?_); (case side1 => repeat (first | exact (Kd.C_below HR0_0.out HB.out) | (with_reducible refine Kd.C_alloc ?_ _) | (with_reducible refine Kd.C_drewN ?_ _) | (with_reducible refine Kd.C_drew ?_))); (case side2 => exact HC0_0.out); (case side3 => repeat (first | exact (Kd.C_below HR0_1.out HB.out) | (with_reducible refine Kd.C_alloc ?_ _) | (with_reducible refine Kd.C_drewN ?_ _) | (with_reducible refine Kd.C_drew ?_))); (case side4 => exact HC0_1.out); (case side5 => repeat (first | exact (Kd.C_below HR1.out HB.out) | (with_reducible refine Kd.C_alloc ?_ _) | (with_reducible refine Kd.C_drewN ?_ _) | (with_reducible refine Kd.C_drew ?_))); (case side6 => exact HC1.out); rintro e w11 ⟨rfl, hb⟩; refine ⟨_, rfl, ?_⟩; have n0_ := Aside0.mk (blk_below (g := gb483) (o := .cells #[.slice A0_0 l0_0.length c0_0, .slice A0_1 l0_1.length c0_1] 32 (0, 0)) (kZ BK483.out) hb); have n1_ := Aside0.mk (below_step bZ hb); clear BK483; clear HB; have BK483 := n0_; have HB := n1_; clear n0_ n1_; (try clear hb); (try clear hb2); (try clear hk); (try clear hi)) | ((with_reducible refine gate_dst (N := 18) rfl ?_); refine Kd.R_lit Kd.string _ 9 ?hg (N := 18) ?hd (xs := ([(⟨#[112, 105, 112, 101]⟩ : ByteArray), (⟨#[102, 108, 111, 119]⟩ : ByteArray), (⟨#[100, 114, 111, 112]⟩ : ByteArray), (⟨#[100, 101, 108, 97, 121]⟩ : ByteArray)] : List ByteArray)) (inner := [.string (⟨#[112, 105, 112, 101]⟩ : ByteArray), .string (⟨#[102, 108, 111, 119]⟩ : ByteArray), .string (⟨#[100, 114, 111, 112]⟩ : ByteArray), .string (⟨#[100, 101, 108, 97, 121]⟩ : ByteArray)]) (ok := fun _ => True) (okp := fun _ => True) ?hr ?hp (fun _ hk => hk) trivial (Below.refl _ _) (Nat.le_refl _) (by simp) ?_; (case hd => rfl); (case hg => rfl); (case hr => first | (go_simp; done) | (go_simp; rfl)); (case hp => exact (Reps.one (show Kd.M Kd.string _ _ _ (⟨#[112, 105, 112, 101]⟩ : ByteArray) [.string (⟨#[112, 105, 112, 101]⟩ : ByteArray)] from rfl) (Reps.one (show Kd.M Kd.string _ _ _ (⟨#[102, 108, 111, 119]⟩ : ByteArray) [.string (⟨#[102, 108, 111, 119]⟩ : ByteArray)] from rfl) (Reps.one (show Kd.M Kd.string _ _ _ (⟨#[100, 114, 111, 112]⟩ : ByteArray) [.string (⟨#[100, 114, 111, 112]⟩ : ByteArray)] from rfl) (Reps.one (show Kd.M Kd.string _ _ _ (⟨#[100, 101, 108, 97, 121]⟩ : ByteArray) [.string (⟨#[100, 101, 108, 97, 121]⟩ : ByteArray)] from rfl) (Reps.none _ _)))))); intro v487 w12 ho13 hb hg_ hnew_; clear hg_ hnew_; (first | rw [← Ny486.out] at ho13 | (simp only [Int.reduceToNat] at ho13; rw [← Ny486.out] at ho13)); have n0_ := Aside0.mk (Kd.R_lower ho13 bsZ); have n1_ := Aside0.mk (blk_below (g := gb483) (o := .cells #[.slice A0_0 l0_0.length c0_0, .slice A0_1 l0_1.length c0_1] 32 (0, 0)) (kZ BK483.out) hb); have n2_ := Aside0.mk (below_step bZ hb); clear BK483; clear HB; have HO488 := n0_; have BK483 := n1_; have HB := n2_; clear n0_ n1_ n2_; clear hb ho13; obtain ⟨Ao14, co14, eo14⟩ := Kd.R_slice HO488.out; subst eo14) | ((with_reducible refine gate_dst (N := 19) rfl ?_); refine Kd.N_lit (Kd.slice 9 Kd.string) _ 27 ?hg (N' := 19) ?hd (xs := ([y486] : List (List ByteArray))) (inner := [.slice Ao14 y486.length co14]) (ok := (fun k_ => k_ ≠ gb483)) (okp := (fun k_ => k_ ≠ gb483)) ?hr ?hp (fun _ hk => hk) ((show ∀ k_, w12.heap.size ≤ k_ → (fun k_ => k_ ≠ gb483) k_ from fun k_ hk => Kd.freshB (g := gb483) (o := .cells #[.slice A0_0 l0_0.length c0_0, .slice A0_1 l0_1.length c0_1] 32 (0, 0)) (kZ BK483.out) k_ hk) _ (Nat.le_refl _)) (Below.refl _ _) (Nat.le_refl _) (by simp) ?_; (case hd => rfl); (case hg => rfl); (case hr => first | (go_simp; done) | (go_simp; rfl)); (case hp => exact (Reps.one (show Kd.FK (Kd.slice 9 Kd.string) _ _ y486 [.slice Ao14 y486.length co14] from (Kd.FK_slice_mk (Kd.R_reads' (Kd.R_mono (ok' := (fun k_ => k_ ≠ gb483)) (Kd.R_types (HO488.out) BK483.out (by decide)) (fun k_ hk => hk.2))).2.1 (Kd.R_F (Kd.R_mono (ok' := (fun k_ => k_ ≠ gb483)) (Kd.R_types (HO488.out) BK483.out (by decide)) (fun k_ hk => hk.2))))) (Reps.none _ _))); intro v490 w15 ho16 hb hg_ hnew_; clear hg_ hnew_; (first | rw [← Ny489.out] at ho16 | (simp only [Int.reduceToNat] at ho16; rw [← Ny489.out] at ho16)); have n0_ := Aside0.mk (Kd.N_lower ho16 bsZ); have n1_ := Aside0.mk (blk_below (g := gb483) (o := .cells #[.slice A0_0 l0_0.length c0_0, .slice A0_1 l0_1.length c0_1] 32 (0, 0)) (kZ BK483.out) hb); have n2_ := Aside0.mk (below_step bZ hb); clear BK483; clear HB; clear HO488; have HO491 := n0_; have BK483 := n1_; have HB := n2_; clear n0_ n1_ n2_; clear hb ho16; have hcz17_0 := bc0 BK483.out; have hcz17_1 := bc1 BK483.out; have hfz17_0 := blk_frozen BK483.out 0; have hfz17_1 := blk_frozen BK483.out 1))
   go_loopg [6, 23] k (fun kq v6 v23 w' => ∃ (x6_1 : List (List ByteArray)) (x23_1 : Int), v23 = .int .i64 x23_1 ∧ Aside0 (impl_PipeReport.l0 kq l1 x6_1 l0_1 (l0_1.length : Int) x23_1 = some (r1, r2)) ∧ Aside0 (kq ≤ k) ∧ Aside0 (Kd.N (Kd.slice 9 Kd.string) 27 w' w.heap.size (fun k_ => k_ ≠ gb483) v6 x6_1) ∧ Aside0 (w'.heap[gb483]? = some (.cells #[(.slice A0_0 l0_0.length c0_0), (.slice A0_1 l0_1.length c0_1)] 32 (0, 0))) ∧ Aside0 (Below w.heap.size w w'))
   case atStart => exact ⟨(y489), (0), sZ, H', ⟨Nat.le_refl _⟩, ⟨by (with_reducible repeat (first | apply Kd.N_alloc | apply Kd.N_drewN | apply Kd.N_drew)); exact HO491.out⟩, ⟨kZ BK483.out⟩, ⟨bZ⟩⟩
   case round =>
    clear H'; (try clear c1); (try clear p2); (try clear c3); (try clear c4); (try clear c6); (try clear hcz10_0); (try clear hcz10_1); (try clear hcz17_0); (try clear hcz17_1); (try clear hcz8_0); (try clear hcz8_1); (try clear hfz10_0); (try clear hfz10_1); (try clear hfz17_0); (try clear hfz17_1); (try clear hfz8_0); (try clear hfz8_1)
    obtain ⟨x6_1, x23_1, rfl, HA, HK1, HO_6, BK483, HB⟩ := hrel
    cases gk with
    | zero => exact absurd HA.out (by simp [impl_PipeReport.l0])
    | succ k1 =>
     have H := HA.out
     clear HA
     simp only [impl_PipeReport.l0] at H
     by_cases c18 : x23_1 < (l0_1.length : Int)
     ·rw [if_pos c18] at H
      have c18b0 : decide (x23_1 < (l0_1.length : Int)) = true := decide_eq_true c18
      clear c18
      by_cases c19 : 0 ≤ x23_1
      ·rw [if_pos c19] at H
       have c19b0 : decide (0 ≤ x23_1) = true := decide_eq_true c19
       clear c19
       by_cases c20 : x23_1 < (l0_1.length : Int)
       ·rw [if_pos c20] at H
        have c20b0 : decide (x23_1 < (l0_1.length : Int)) = true := decide_eq_true c20
        clear c20
        by_cases c21 : x23_1 < (l1.length : Int)
        ·rw [if_pos c21] at H
         have c21b0 : decide (x23_1 < (l1.length : Int)) = true := decide_eq_true c21
         clear c21
         replace H := Option.bind_eq_some_iff.mp H
         obtain ⟨t495, A220, H⟩ := H
         replace H : ((impl_DropOf.f k1 ((rd_T58 l0_1 x23_1).f0) ((rd_T58 l0_1 x23_1).f1) ((rd_T58 l0_1 x23_1).f2) ((rd_T58 l0_1 x23_1).f3) ((rd_T58 l0_1 x23_1).f4) ((rd_T58 l0_1 x23_1).f5) (rd l1 x23_1)).bind fun bt497 => ((impl_numberCell.f bt497.1 bt497.2).bind fun t499 => ((impl_DelayOf.f k1 ((rd_T58 l0_1 x23_1).f0) ((rd_T58 l0_1 x23_1).f1) ((rd_T58 l0_1 x23_1).f2) ((rd_T58 l0_1 x23_1).f3) ((rd_T58 l0_1 x23_1).f4) ((rd_T58 l0_1 x23_1).f5) (rd l1 x23_1)).bind fun bt501 => ((impl_numberCell.f bt501.1 bt501.2).bind fun t503 => (if x6_1.length < 5864062014805 then (impl_PipeReport.l0 k1 l1 (x6_1 ++ [(([(rd_T58 l0_1 x23_1).f0, t495, t499, t503] : List ByteArray))]) l0_1 (l0_1.length : Int) (wrap64 (x23_1 + 1))) else (none)))))) = some (r1, r2) := H
         have A22 := Aside0.mk A220
         clear A220
         replace H := Option.bind_eq_some_iff.mp H
         obtain ⟨⟨t497, t498⟩, A230, H⟩ := H
         replace H : ((impl_numberCell.f t497 t498).bind fun t499 => ((impl_DelayOf.f k1 ((rd_T58 l0_1 x23_1).f0) ((rd_T58 l0_1 x23_1).f1) ((rd_T58 l0_1 x23_1).f2) ((rd_T58 l0_1 x23_1).f3) ((rd_T58 l0_1 x23_1).f4) ((rd_T58 l0_1 x23_1).f5) (rd l1 x23_1)).bind fun bt501 => ((impl_numberCell.f bt501.1 bt501.2).bind fun t503 => (if x6_1.length < 5864062014805 then (impl_PipeReport.l0 k1 l1 (x6_1 ++ [(([(rd_T58 l0_1 x23_1).f0, t495, t499, t503] : List ByteArray))]) l0_1 (l0_1.length : Int) (wrap64 (x23_1 + 1))) else (none))))) = some (r1, r2) := H
         have A23 := Aside0.mk A230
         clear A230
         replace H := Option.bind_eq_some_iff.mp H
         obtain ⟨t499, A240, H⟩ := H
         replace H : ((impl_DelayOf.f k1 ((rd_T58 l0_1 x23_1).f0) ((rd_T58 l0_1 x23_1).f1) ((rd_T58 l0_1 x23_1).f2) ((rd_T58 l0_1 x23_1).f3) ((rd_T58 l0_1 x23_1).f4) ((rd_T58 l0_1 x23_1).f5) (rd l1 x23_1)).bind fun bt501 => ((impl_numberCell.f bt501.1 bt501.2).bind fun t503 => (if x6_1.length < 5864062014805 then (impl_PipeReport.l0 k1 l1 (x6_1 ++ [(([(rd_T58 l0_1 x23_1).f0, t495, t499, t503] : List ByteArray))]) l0_1 (l0_1.length : Int) (wrap64 (x23_1 + 1))) else (none)))) = some (r1, r2) := H
         have A24 := Aside0.mk A240
         clear A240
         replace H := Option.bind_eq_some_iff.mp H
         obtain ⟨⟨t501, t502⟩, A250, H⟩ := H
         replace H : ((impl_numberCell.f t501 t502).bind fun t503 => (if x6_1.length < 5864062014805 then (impl_PipeReport.l0 k1 l1 (x6_1 ++ [(([(rd_T58 l0_1 x23_1).f0, t495, t499, t503] : List ByteArray))]) l0_1 (l0_1.length : Int) (wrap64 (x23_1 + 1))) else (none))) = some (r1, r2) := H
         have A25 := Aside0.mk A250
         clear A250
         replace H := Option.bind_eq_some_iff.mp H
         obtain ⟨t503, A260, H⟩ := H
         replace H : (if x6_1.length < 5864062014805 then (impl_PipeReport.l0 k1 l1 (x6_1 ++ [(([(rd_T58 l0_1 x23_1).f0, t495, t499, t503] : List ByteArray))]) l0_1 (l0_1.length : Int) (wrap64 (x23_1 + 1))) else (none)) = some (r1, r2) := H
         have A26 := Aside0.mk A260
         clear A260
         obtain ⟨y504, hy504⟩ : ∃ y_ : List ByteArray, y_ = (([(rd_T58 l0_1 x23_1).f0, t495, t499, t503] : List ByteArray)) := ⟨_, rfl⟩
         replace H : (if x6_1.length < 5864062014805 then (impl_PipeReport.l0 k1 l1 (x6_1 ++ [y504]) l0_1 (l0_1.length : Int) (wrap64 (x23_1 + 1))) else (none)) = some (r1, r2) := by first | (rw [hy504]; with_reducible exact H) | (have H2_ := (Option.bind_some _ _).symm.trans H; rw [hy504]; with_reducible exact H2_) | (have H2_ := (Option.bind_some _ _).symm.trans H; with_reducible exact H2_) | with_reducible exact H | (rw [hy504]; exact H) | exact H
         have Ny504 := Aside0.mk hy504
         clear hy504
         by_cases c27 : x6_1.length < 5864062014805
         ·rw [if_pos c27] at H
          have LMc27 := Aside0.mk c27
          clear c27
          obtain ⟨y507, hy507⟩ : ∃ y_ : List (List ByteArray), y_ = (x6_1 ++ [y504]) := ⟨_, rfl⟩
          replace H : (impl_PipeReport.l0 k1 l1 y507 l0_1 (l0_1.length : Int) (wrap64 (x23_1 + 1))) = some (r1, r2) := by first | (rw [hy507]; with_reducible exact H) | (have H2_ := (Option.bind_some _ _).symm.trans H; rw [hy507]; with_reducible exact H2_) | (have H2_ := (Option.bind_some _ _).symm.trans H; with_reducible exact H2_) | with_reducible exact H | (rw [hy507]; exact H) | exact H
          have Ny507 := Aside0.mk hy507
          clear hy507
          have H' := Aside0.mk H
          clear H
          have p492 : 0 ≤ (x23_1 : Int) := oZ
          have q492 : x23_1 < (l0_1.length : Int) := oZ
          obtain ⟨ad492, e492, hx492_0, hx492_1, hx492_2, hx492_3, hx492_4, hx492_5⟩ := at_T58 HR0_1.out x23_1 p492 q492
          cases e492
          replace hx492_0 := (HB.out.cell (World.block_lt_of_cell? w _ hx492_0)).trans hx492_0
          replace hx492_1 := (HB.out.cell (World.block_lt_of_cell? w _ hx492_1)).trans hx492_1
          replace hx492_2 := (HB.out.cell (World.block_lt_of_cell? w _ hx492_2)).trans hx492_2
          replace hx492_3 := (HB.out.cell (World.block_lt_of_cell? w _ hx492_3)).trans hx492_3
          replace hx492_4 := (HB.out.cell (World.block_lt_of_cell? w _ hx492_4)).trans hx492_4
          replace hx492_5 := (HB.out.cell (World.block_lt_of_cell? w _ hx492_5)).trans hx492_5
          replace p492 := eq_true p492
          replace q492 := eq_true q492
          try go_wp2_with (first | ((with_reducible refine gate_dst (N := 8) rfl ?_); refine boxZ 8 #[.string (⟨#[]⟩ : ByteArray), .int .i64 0, .int .i64 0, .int .i64 0, .int .i64 0, .int .i64 0] 58 rfl rfl ?_; intro gb493 hg w28 hbox hb; have n0_ := Aside0.mk (Kd.N_below (Kd.N_elderB (by (with_reducible repeat (first | apply Kd.N_alloc | apply Kd.N_drewN | apply Kd.N_drew)); exact HO_6.out) gb493 (Nat.le_of_eq hg.symm)) hb); have n1_ := Aside0.mk (blk_below (g := gb483) (o := .cells #[.slice A0_0 l0_0.length c0_0, .slice (some ad492) l0_1.length c0_1] 32 (0, 0)) (kZ BK483.out) hb); have n2_ := Aside0.mk (below_step bZ hb); have n3_ := Aside0.mk (hbox); have n4_ := Aside0.mk ((by rw [hg]; exact bsZ : w.heap.size ≤ gb493)); have n5_ := Aside0.mk ((by rw [hg]; exact bsZ : w.heap.size ≤ gb493)); have n6_ := Aside0.mk ((by rw [hg]; exact Nat.ne_of_lt (blk_lt (g := gb483) (o := .cells #[.slice A0_0 l0_0.length c0_0, .slice (some ad492) l0_1.length c0_1] 32 (0, 0)) (kZ BK483.out)) : gb483 ≠ gb493)); have n7_ := Aside0.mk ((by rw [hg]; exact Nat.ne_of_gt (blk_lt (g := gb483) (o := .cells #[.slice A0_0 l0_0.length c0_0, .slice (some ad492) l0_1.length c0_1] 32 (0, 0)) (kZ BK483.out)) : gb493 ≠ gb483)); clear HO_6; clear BK483; clear HB; have HO_6 := n0_; have BK483 := n1_; have HB := n2_; have BK493 := n3_; have GW493 := n4_; have GE493 := n5_; have NB483_493 := n6_; have NB493_483 := n7_; clear n0_ n1_ n2_ n3_ n4_ n5_ n6_ n7_; clear hb hbox hg; have hnb29 := NB493_483.out; have hnc29 := NB483_493.out; have hcz30_0 := bc0 BK493.out; have hcz30_1 := bc1 BK493.out; have hcz30_2 := bc2 BK493.out; have hcz30_3 := bc3 BK493.out; have hcz30_4 := bc4 BK493.out; have hcz30_5 := bc5 BK493.out; have hfz30_0 := blk_frozen BK493.out 0; have hfz30_1 := blk_frozen BK493.out 1; have hfz30_2 := blk_frozen BK493.out 2; have hfz30_3 := blk_frozen BK493.out 3; have hfz30_4 := blk_frozen BK493.out 4; have hfz30_5 := blk_frozen BK493.out 5))
          have n0_ : Aside0 (Kd.N (Kd.slice 9 Kd.string) 27 ((((((w28.setCell ⟨gb493, 0, none⟩ (.string ((rd_T58 l0_1 x23_1).f0))).setCell ⟨gb493, 1, none⟩ (.int .i64 ((rd_T58 l0_1 x23_1).f1))).setCell ⟨gb493, 2, none⟩ (.int .i64 ((rd_T58 l0_1 x23_1).f2))).setCell ⟨gb493, 3, none⟩ (.int .i64 ((rd_T58 l0_1 x23_1).f3))).setCell ⟨gb493, 4, none⟩ (.int .i64 ((rd_T58 l0_1 x23_1).f4))).setCell ⟨gb493, 5, none⟩ (.int .i64 ((rd_T58 l0_1 x23_1).f5))) w.heap.size (fun k_ => k_ ≠ gb483 ∧ k_ ≠ gb493) u6 x6_1) := ⟨by (with_reducible repeat (first | apply Kd.N_alloc | apply Kd.N_drewN | apply Kd.N_drew)); exact Kd.N_mono (Kd.N_far (p := ⟨gb493, 5, none⟩) (Kd.N_far (p := ⟨gb493, 4, none⟩) (Kd.N_far (p := ⟨gb493, 3, none⟩) (Kd.N_far (p := ⟨gb493, 2, none⟩) (Kd.N_far (p := ⟨gb493, 1, none⟩) (Kd.N_far (p := ⟨gb493, 0, none⟩) (Kd.N_mono HO_6.out (fun k_ hk => (⟨hk, hk.2⟩ : _ ∧ k_ ≠ gb493))) (fun _ hk => hk.2) (.string ((rd_T58 l0_1 x23_1).f0))) (fun _ hk => hk.2) (.int .i64 ((rd_T58 l0_1 x23_1).f1))) (fun _ hk => hk.2) (.int .i64 ((rd_T58 l0_1 x23_1).f2))) (fun _ hk => hk.2) (.int .i64 ((rd_T58 l0_1 x23_1).f3))) (fun _ hk => hk.2) (.int .i64 ((rd_T58 l0_1 x23_1).f4))) (fun _ hk => hk.2) (.int .i64 ((rd_T58 l0_1 x23_1).f5))) (fun _ hk => ⟨hk.1.1, hk.1.2⟩)⟩
          have n1_ : Aside0 (((((((w28.setCell ⟨gb493, 0, none⟩ (.string ((rd_T58 l0_1 x23_1).f0))).setCell ⟨gb493, 1, none⟩ (.int .i64 ((rd_T58 l0_1 x23_1).f1))).setCell ⟨gb493, 2, none⟩ (.int .i64 ((rd_T58 l0_1 x23_1).f2))).setCell ⟨gb493, 3, none⟩ (.int .i64 ((rd_T58 l0_1 x23_1).f3))).setCell ⟨gb493, 4, none⟩ (.int .i64 ((rd_T58 l0_1 x23_1).f4))).setCell ⟨gb493, 5, none⟩ (.int .i64 ((rd_T58 l0_1 x23_1).f5))).heap[gb483]? = some (.cells #[.slice A0_0 l0_0.length c0_0, .slice (some ad492) l0_1.length c0_1] 32 (0, 0))) := ⟨by (with_reducible repeat (first | refine blk_drewN ?_ _ | refine blk_drew ?_ | refine blk_alloc ?_ _)); refine blk_far ?_ NB483_493.out _; (with_reducible repeat (first | refine blk_drewN ?_ _ | refine blk_drew ?_ | refine blk_alloc ?_ _)); refine blk_far ?_ NB483_493.out _; (with_reducible repeat (first | refine blk_drewN ?_ _ | refine blk_drew ?_ | refine blk_alloc ?_ _)); refine blk_far ?_ NB483_493.out _; (with_reducible repeat (first | refine blk_drewN ?_ _ | refine blk_drew ?_ | refine blk_alloc ?_ _)); refine blk_far ?_ NB483_493.out _; (with_reducible repeat (first | refine blk_drewN ?_ _ | refine blk_drew ?_ | refine blk_alloc ?_ _)); refine blk_far ?_ NB483_493.out _; (with_reducible repeat (first | refine blk_drewN ?_ _ | refine blk_drew ?_ | refine blk_alloc ?_ _)); refine blk_far ?_ NB483_493.out _; (with_reducible repeat (first | refine blk_drewN ?_ _ | refine blk_drew ?_ | refine blk_alloc ?_ _)); exact BK483.out⟩
          have n2_ : Aside0 (((((((w28.setCell ⟨gb493, 0, none⟩ (.string ((rd_T58 l0_1 x23_1).f0))).setCell ⟨gb493, 1, none⟩ (.int .i64 ((rd_T58 l0_1 x23_1).f1))).setCell ⟨gb493, 2, none⟩ (.int .i64 ((rd_T58 l0_1 x23_1).f2))).setCell ⟨gb493, 3, none⟩ (.int .i64 ((rd_T58 l0_1 x23_1).f3))).setCell ⟨gb493, 4, none⟩ (.int .i64 ((rd_T58 l0_1 x23_1).f4))).setCell ⟨gb493, 5, none⟩ (.int .i64 ((rd_T58 l0_1 x23_1).f5))).heap[gb493]? = some (.cells #[.string ((rd_T58 l0_1 x23_1).f0), .int .i64 ((rd_T58 l0_1 x23_1).f1), .int .i64 ((rd_T58 l0_1 x23_1).f2), .int .i64 ((rd_T58 l0_1 x23_1).f3), .int .i64 ((rd_T58 l0_1 x23_1).f4), .int .i64 ((rd_T58 l0_1 x23_1).f5)] 58 (0, 0))) := ⟨by (with_reducible repeat (first | refine blk_drewN ?_ _ | refine blk_drew ?_ | refine blk_alloc ?_ _)); refine blk_put (cs := #[.string ((rd_T58 l0_1 x23_1).f0), .int .i64 ((rd_T58 l0_1 x23_1).f1), .int .i64 ((rd_T58 l0_1 x23_1).f2), .int .i64 ((rd_T58 l0_1 x23_1).f3), .int .i64 ((rd_T58 l0_1 x23_1).f4), .int .i64 0]) ?_ 5 _ rfl; (with_reducible repeat (first | refine blk_drewN ?_ _ | refine blk_drew ?_ | refine blk_alloc ?_ _)); refine blk_put (cs := #[.string ((rd_T58 l0_1 x23_1).f0), .int .i64 ((rd_T58 l0_1 x23_1).f1), .int .i64 ((rd_T58 l0_1 x23_1).f2), .int .i64 ((rd_T58 l0_1 x23_1).f3), .int .i64 0, .int .i64 0]) ?_ 4 _ rfl; (with_reducible repeat (first | refine blk_drewN ?_ _ | refine blk_drew ?_ | refine blk_alloc ?_ _)); refine blk_put (cs := #[.string ((rd_T58 l0_1 x23_1).f0), .int .i64 ((rd_T58 l0_1 x23_1).f1), .int .i64 ((rd_T58 l0_1 x23_1).f2), .int .i64 0, .int .i64 0, .int .i64 0]) ?_ 3 _ rfl; (with_reducible repeat (first | refine blk_drewN ?_ _ | refine blk_drew ?_ | refine blk_alloc ?_ _)); refine blk_put (cs := #[.string ((rd_T58 l0_1 x23_1).f0), .int .i64 ((rd_T58 l0_1 x23_1).f1), .int .i64 0, .int .i64 0, .int .i64 0, .int .i64 0]) ?_ 2 _ rfl; (with_reducible repeat (first | refine blk_drewN ?_ _ | refine blk_drew ?_ | refine blk_alloc ?_ _)); refine blk_put (cs := #[.string ((rd_T58 l0_1 x23_1).f0), .int .i64 0, .int .i64 0, .int .i64 0, .int .i64 0, .int .i64 0]) ?_ 1 _ rfl; (with_reducible repeat (first | refine blk_drewN ?_ _ | refine blk_drew ?_ | refine blk_alloc ?_ _)); refine blk_put (cs := #[.string (⟨#[]⟩ : ByteArray), .int .i64 0, .int .i64 0, .int .i64 0, .int .i64 0, .int .i64 0]) ?_ 0 _ rfl; (with_reducible repeat (first | refine blk_drewN ?_ _ | refine blk_drew ?_ | refine blk_alloc ?_ _)); exact BK493.out⟩
          have n3_ : Aside0 (Below w.heap.size w ((((((w28.setCell ⟨gb493, 0, none⟩ (.string ((rd_T58 l0_1 x23_1).f0))).setCell ⟨gb493, 1, none⟩ (.int .i64 ((rd_T58 l0_1 x23_1).f1))).setCell ⟨gb493, 2, none⟩ (.int .i64 ((rd_T58 l0_1 x23_1).f2))).setCell ⟨gb493, 3, none⟩ (.int .i64 ((rd_T58 l0_1 x23_1).f3))).setCell ⟨gb493, 4, none⟩ (.int .i64 ((rd_T58 l0_1 x23_1).f4))).setCell ⟨gb493, 5, none⟩ (.int .i64 ((rd_T58 l0_1 x23_1).f5)))) := ⟨bZ⟩
          (try clear HO_6)
          (try clear BK483)
          (try clear BK493)
          (try clear HB)
          generalize ((((((w28.setCell ⟨gb493, 0, none⟩ (.string ((rd_T58 l0_1 x23_1).f0))).setCell ⟨gb493, 1, none⟩ (.int .i64 ((rd_T58 l0_1 x23_1).f1))).setCell ⟨gb493, 2, none⟩ (.int .i64 ((rd_T58 l0_1 x23_1).f2))).setCell ⟨gb493, 3, none⟩ (.int .i64 ((rd_T58 l0_1 x23_1).f3))).setCell ⟨gb493, 4, none⟩ (.int .i64 ((rd_T58 l0_1 x23_1).f4))).setCell ⟨gb493, 5, none⟩ (.int .i64 ((rd_T58 l0_1 x23_1).f5))) = w31 at n0_ n1_ n2_ n3_ ⊢
          have HO_6 := n0_
          have BK483 := n1_
          have BK493 := n2_
          have HB := n3_
          clear n0_ n1_ n2_ n3_
          have n0_ := Aside0.mk (Kd.N_drew HO_6.out)
          have n1_ := Aside0.mk (blk_drew BK483.out)
          have n2_ := Aside0.mk (blk_drew BK493.out)
          have n3_ := Aside0.mk (below_drew1 HB.out)
          clear HO_6; clear BK483; clear BK493; clear HB
          have HO_6 := n0_
          have BK483 := n1_
          have BK493 := n2_
          have HB := n3_
          clear n0_ n1_ n2_ n3_
          have p494 : 0 ≤ (x23_1 : Int) := oZ
          have q494 : x23_1 < (l1.length : Int) := oZ
          obtain ⟨ad494, e494, hx494_0⟩ := Kd.at_int HR1.out x23_1 p494 q494
          have hw494_0 := hx494_0
          cases e494
          replace hx494_0 := (HB.out.cell (World.block_lt_of_cell? w _ hx494_0)).trans hx494_0
          replace p494 := eq_true p494
          replace q494 := eq_true q494
          have p496 : 0 ≤ (x23_1 : Int) := oZ
          have q496 : x23_1 < (l1.length : Int) := oZ
          obtain ⟨ad496, e496, hx496_0⟩ := Kd.at_int HR1.out x23_1 p496 q496
          have hw496_0 := hx496_0
          obtain rfl : ad494 = ad496 := (by injection e496)
          replace hx496_0 := (HB.out.cell (World.block_lt_of_cell? w _ hx496_0)).trans hx496_0
          replace p496 := eq_true p496
          replace q496 := eq_true q496
          have p500 : 0 ≤ (x23_1 : Int) := oZ
          have q500 : x23_1 < (l1.length : Int) := oZ
          obtain ⟨ad500, e500, hx500_0⟩ := Kd.at_int HR1.out x23_1 p500 q500
          have hw500_0 := hx500_0
          obtain rfl : ad494 = ad500 := (by injection e500)
          replace hx500_0 := (HB.out.cell (World.block_lt_of_cell? w _ hx500_0)).trans hx500_0
          replace p500 := eq_true p500
          replace q500 := eq_true q500
          refine start_ (n := 30) (S := fun w' => w'.cell? ⟨gb493, 0, none⟩ = some (.string ((rd_T58 l0_1 x23_1).f0)) ∧ w'.cell? ⟨gb493, 1, none⟩ = some (.int .i64 ((rd_T58 l0_1 x23_1).f1)) ∧ w'.cell? ⟨gb493, 2, none⟩ = some (.int .i64 ((rd_T58 l0_1 x23_1).f2)) ∧ w'.cell? ⟨gb493, 3, none⟩ = some (.int .i64 ((rd_T58 l0_1 x23_1).f3)) ∧ w'.cell? ⟨gb493, 4, none⟩ = some (.int .i64 ((rd_T58 l0_1 x23_1).f4)) ∧ w'.cell? ⟨gb493, 5, none⟩ = some (.int .i64 ((rd_T58 l0_1 x23_1).f5)) ∧ w'.cell? (ad494.add (x23_1).toNat) = some (.int .i64 (rd l1 x23_1)) ∧ w'.cell? (ad494.add (x23_1).toNat) = some (.int .i64 (rd l1 x23_1)) ∧ w'.cell? (ad494.add (x23_1).toNat) = some (.int .i64 (rd l1 x23_1))) (ds := []) #[false, false, false, false, false, false, false, false, false, false, false, false, false, false, false, false, false, false, false, false, false, false, false, false, false, false, false, false, false, false] (by kernel_rfl) rfl rfl ⟨(blk_cell BK493.out 0).trans rfl, (blk_cell BK493.out 1).trans rfl, (blk_cell BK493.out 2).trans rfl, (blk_cell BK493.out 3).trans rfl, (blk_cell BK493.out 4).trans rfl, (blk_cell BK493.out 5).trans rfl, ((HB.out.cell (World.block_lt_of_cell? w _ hw494_0)).trans hw494_0), ((HB.out.cell (World.block_lt_of_cell? w _ hw496_0)).trans hw496_0), ((HB.out.cell (World.block_lt_of_cell? w _ hw500_0)).trans hw500_0)⟩ (fun hHeld => ?_); refine with_tabW impl_PipeReport.tab9 impl_PipeReport.bits9 (fun HT_ HW_ => ?_)
          generalize w31.drew = w32 at HO_6 BK483 BK493 HB hx494_0 hx496_0 hx500_0 hHeld ⊢
          refine puZ 0 (some 28) #[true, false, false, false, false, false, false, false, false, false, false, false, false, false, false, false, false, false, false, false, false, false, false, false, false, false, false, false, false, false] rfl rfl HT_.out ?_
          refine puZ 1 (some 29) #[true, true, false, false, false, false, false, false, false, false, false, false, false, false, false, false, false, false, false, false, false, false, false, false, false, false, false, false, false, false] rfl rfl HT_.out ?_
          refine puZ 3 (some 31) #[true, true, false, true, false, false, false, false, false, false, false, false, false, false, false, false, false, false, false, false, false, false, false, false, false, false, false, false, false, false] rfl rfl HT_.out ?_
          refine puZ 4 (some 32) #[true, true, false, true, true, false, false, false, false, false, false, false, false, false, false, false, false, false, false, false, false, false, false, false, false, false, false, false, false, false] rfl rfl HT_.out ?_
          refine puZ 5 (some 33) #[true, true, false, true, true, true, false, false, false, false, false, false, false, false, false, false, false, false, false, false, false, false, false, false, false, false, false, false, false, false] rfl rfl HT_.out ?_
          refine puZ 9 (some 37) #[true, true, false, true, true, true, false, false, false, true, false, false, false, false, false, false, false, false, false, false, false, false, false, false, false, false, false, false, false, false] rfl rfl HT_.out ?_
          refine puZ 10 (some 38) #[true, true, false, true, true, true, false, false, false, true, true, false, false, false, false, false, false, false, false, false, false, false, false, false, false, false, false, false, false, false] rfl rfl HT_.out ?_
          refine puZ 11 (some 39) #[true, true, false, true, true, true, false, false, false, true, true, true, false, false, false, false, false, false, false, false, false, false, false, false, false, false, false, false, false, false] rfl rfl HT_.out ?_
          refine puZ 18 (some 46) #[true, true, false, true, true, true, false, false, false, true, true, true, false, false, false, false, false, false, true, false, false, false, false, false, false, false, false, false, false, false] rfl rfl HT_.out ?_
          refine puZ 19 (some 47) #[true, true, false, true, true, true, false, false, false, true, true, true, false, false, false, false, false, false, true, true, false, false, false, false, false, false, false, false, false, false] rfl rfl HT_.out ?_
          refine puZ 20 (some 48) #[true, true, false, true, true, true, false, false, false, true, true, true, false, false, false, false, false, false, true, true, true, false, false, false, false, false, false, false, false, false] rfl rfl HT_.out ?_
          refine take_ (i := 2) (N := some 30) (v := ?_) (a' := ?_) #[true, true, true, true, true, true, false, false, false, true, true, true, false, false, false, false, false, false, true, true, true, false, false, false, false, false, false, false, false, false] rfl rfl (take_ofW HT_.out HW_.out (by kernel_rfl)) (fun _ _ _ h => h) (Or.inl ⟨by rfl, ?_⟩) hHeld ?_ ?_
          rotate_left
          ·rintro w' ⟨s0, s1, s2, s3, s4, s5, s6, s7, s8⟩
           go_simp
           with_reducible rfl
          rotate_left
          ·simp only [Act.put, List.setIfInBounds_toArray, List.set_cons_zero, List.set_cons_succ, i64_w, i32_w]
           rfl
          refine take_ (i := 6) (N := some 34) (v := ?_) (a' := ?_) #[true, true, true, true, true, true, true, false, false, true, true, true, false, false, false, false, false, false, true, true, true, false, false, false, false, false, false, false, false, false] rfl rfl (take_ofW HT_.out HW_.out (by kernel_rfl)) (fun _ _ _ h => h) (Or.inl ⟨by rfl, ?_⟩) hHeld ?_ ?_
          rotate_left
          ·rintro w' ⟨s0, s1, s2, s3, s4, s5, s6, s7, s8⟩
           go_simp
           with_reducible rfl
          rotate_left
          ·simp only [Act.put, List.setIfInBounds_toArray, List.set_cons_zero, List.set_cons_succ, i64_w, i32_w]
           rfl
          refine take_ (i := 8) (N := some 36) (v := ?_) (a' := ?_) #[true, true, true, true, true, true, true, false, true, true, true, true, false, false, false, false, false, false, true, true, true, false, false, false, false, false, false, false, false, false] rfl rfl (take_ofW HT_.out HW_.out (by kernel_rfl)) (fun _ _ _ h => h) (Or.inl ⟨by rfl, ?_⟩) hHeld ?_ ?_
          rotate_left
          ·rintro w' ⟨s0, s1, s2, s3, s4, s5, s6, s7, s8⟩
           go_simp
           with_reducible rfl
          rotate_left
          ·simp only [Act.put, List.setIfInBounds_toArray, List.set_cons_zero, List.set_cons_succ, i64_w, i32_w]
           rfl
          refine take_ (i := 12) (N := some 40) (v := ?_) (a' := ?_) #[true, true, true, true, true, true, true, false, true, true, true, true, true, false, false, false, false, false, true, true, true, false, false, false, false, false, false, false, false, false] rfl rfl (take_ofW HT_.out HW_.out (by kernel_rfl)) (fun _ _ _ h => h) (Or.inl ⟨by rfl, ?_⟩) hHeld ?_ ?_
          rotate_left
          ·rintro w' ⟨s0, s1, s2, s3, s4, s5, s6, s7, s8⟩
           go_simp
           with_reducible rfl
          rotate_left
          ·simp only [Act.put, List.setIfInBounds_toArray, List.set_cons_zero, List.set_cons_succ, i64_w, i32_w]
           rfl
          refine take_ (i := 17) (N := some 45) (v := ?_) (a' := ?_) #[true, true, true, true, true, true, true, false, true, true, true, true, true, false, false, false, false, true, true, true, true, false, false, false, false, false, false, false, false, false] rfl rfl (take_ofW HT_.out HW_.out (by kernel_rfl)) (fun _ _ _ h => h) (Or.inl ⟨by rfl, ?_⟩) hHeld ?_ ?_
          rotate_left
          ·rintro w' ⟨s0, s1, s2, s3, s4, s5, s6, s7, s8⟩
           go_simp
           with_reducible rfl
          rotate_left
          ·simp only [Act.put, List.setIfInBounds_toArray, List.set_cons_zero, List.set_cons_succ, i64_w, i32_w]
           rfl
          refine take_ (i := 21) (N := some 49) (v := ?_) (a' := ?_) #[true, true, true, true, true, true, true, false, true, true, true, true, true, false, false, false, false, true, true, true, true, true, false, false, false, false, false, false, false, false] rfl rfl (take_ofW HT_.out HW_.out (by kernel_rfl)) (fun _ _ _ h => h) (Or.inl ⟨by rfl, ?_⟩) hHeld ?_ ?_
          rotate_left
          ·rintro w' ⟨s0, s1, s2, s3, s4, s5, s6, s7, s8⟩
           go_simp
           with_reducible rfl
          rotate_left
          ·simp only [Act.put, List.setIfInBounds_toArray, List.set_cons_zero, List.set_cons_succ, i64_w, i32_w]
           rfl
          refine one_ (i := 7) (N := some 35) #[true, true, true, true, true, true, true, true, true, true, true, true, true, false, false, false, false, true, true, true, true, true, false, false, false, false, false, false, false, false] rfl rfl (one_of HT_.out (by kernel_rfl)) (by decide) (fun K hK => ?_)
          refine goes_ Tryz.func41 (by kernel_rfl) rfl #[.int .i64 (rd l1 x23_1)] (by rfl) rfl rfl gZ ?_
          with_reducible refine (impl_Decimal.calls (rd l1 x23_1) t495 _ ?side1 A22.out).mono ?_
          (case side1 => exact HSH.out.below (show Below w.heap.size w _ from bZ))
          rintro e w33 ⟨rfl, hb⟩
          refine ⟨_, rfl, ?_⟩
          have n0_ := Aside0.mk (Kd.N_below (by (with_reducible repeat (first | apply Kd.N_alloc | apply Kd.N_drewN | apply Kd.N_drew)); exact HO_6.out) hb)
          have n1_ := Aside0.mk (blk_below (g := gb483) (o := .cells #[.slice A0_0 l0_0.length c0_0, .slice (some ad492) l0_1.length c0_1] 32 (0, 0)) (kZ BK483.out) hb)
          have n2_ := Aside0.mk (blk_below (g := gb493) (o := .cells #[.string ((rd_T58 l0_1 x23_1).f0), .int .i64 ((rd_T58 l0_1 x23_1).f1), .int .i64 ((rd_T58 l0_1 x23_1).f2), .int .i64 ((rd_T58 l0_1 x23_1).f3), .int .i64 ((rd_T58 l0_1 x23_1).f4), .int .i64 ((rd_T58 l0_1 x23_1).f5)] 58 (0, 0)) (kZ BK493.out) hb)
          have n3_ := Aside0.mk (below_step bZ hb)
          clear HO_6; clear BK483; clear BK493; clear HB
          have HO_6 := n0_
          have BK483 := n1_
          have BK493 := n2_
          have HB := n3_
          clear n0_ n1_ n2_ n3_
          (try clear hb)
          (try clear hb2)
          (try clear hk)
          (try clear hi)
          refine hK.out _ _ ⟨(blk_cell BK493.out 0).trans rfl, (blk_cell BK493.out 1).trans rfl, (blk_cell BK493.out 2).trans rfl, (blk_cell BK493.out 3).trans rfl, (blk_cell BK493.out 4).trans rfl, (blk_cell BK493.out 5).trans rfl, ((HB.out.cell (World.block_lt_of_cell? w _ hw494_0)).trans hw494_0), ((HB.out.cell (World.block_lt_of_cell? w _ hw496_0)).trans hw496_0), ((HB.out.cell (World.block_lt_of_cell? w _ hw500_0)).trans hw500_0)⟩ (fun hHeld => ?_)
          clear hK K
          refine norm_ (a' := ?_) ?_ ?_
          rotate_left
          ·show Act.put _ (some 35) _ = _
           simp only [Act.put, List.setIfInBounds_toArray, List.set_cons_zero, List.set_cons_succ, i64_w, i32_w]
           rfl
          refine one_ (i := 13) (N := some 41) #[true, true, true, true, true, true, true, true, true, true, true, true, true, true, false, false, false, true, true, true, true, true, false, false, false, false, false, false, false, false] rfl rfl (one_of HT_.out (by kernel_rfl)) (by decide) (fun K hK => ?_)
          refine goes_ Tryz.func50 (by kernel_rfl) rfl #[.agg #[.string ((rd_T58 l0_1 x23_1).f0), .int .i64 ((rd_T58 l0_1 x23_1).f1), .int .i64 ((rd_T58 l0_1 x23_1).f2), .int .i64 ((rd_T58 l0_1 x23_1).f3), .int .i64 ((rd_T58 l0_1 x23_1).f4), .int .i64 ((rd_T58 l0_1 x23_1).f5)], .int .i64 (rd l1 x23_1)] (by rfl) rfl rfl gZ ?_
          with_reducible refine (impl_DropOf.calls k1 ((rd_T58 l0_1 x23_1).f0) ((rd_T58 l0_1 x23_1).f1) ((rd_T58 l0_1 x23_1).f2) ((rd_T58 l0_1 x23_1).f3) ((rd_T58 l0_1 x23_1).f4) ((rd_T58 l0_1 x23_1).f5) (rd l1 x23_1) t497 t498 _ A23.out).mono ?_
          rintro e w34 ⟨rfl, hb⟩
          refine ⟨_, rfl, ?_⟩
          have n0_ := Aside0.mk (Kd.N_below (by (with_reducible repeat (first | apply Kd.N_alloc | apply Kd.N_drewN | apply Kd.N_drew)); exact HO_6.out) hb)
          have n1_ := Aside0.mk (blk_below (g := gb483) (o := .cells #[.slice A0_0 l0_0.length c0_0, .slice (some ad492) l0_1.length c0_1] 32 (0, 0)) (kZ BK483.out) hb)
          have n2_ := Aside0.mk (blk_below (g := gb493) (o := .cells #[.string ((rd_T58 l0_1 x23_1).f0), .int .i64 ((rd_T58 l0_1 x23_1).f1), .int .i64 ((rd_T58 l0_1 x23_1).f2), .int .i64 ((rd_T58 l0_1 x23_1).f3), .int .i64 ((rd_T58 l0_1 x23_1).f4), .int .i64 ((rd_T58 l0_1 x23_1).f5)] 58 (0, 0)) (kZ BK493.out) hb)
          have n3_ := Aside0.mk (below_step bZ hb)
          clear HO_6; clear BK483; clear BK493; clear HB
          have HO_6 := n0_
          have BK483 := n1_
          have BK493 := n2_
          have HB := n3_
          clear n0_ n1_ n2_ n3_
          (try clear hb)
          (try clear hb2)
          (try clear hk)
          (try clear hi)
          refine hK.out _ _ ⟨(blk_cell BK493.out 0).trans rfl, (blk_cell BK493.out 1).trans rfl, (blk_cell BK493.out 2).trans rfl, (blk_cell BK493.out 3).trans rfl, (blk_cell BK493.out 4).trans rfl, (blk_cell BK493.out 5).trans rfl, ((HB.out.cell (World.block_lt_of_cell? w _ hw494_0)).trans hw494_0), ((HB.out.cell (World.block_lt_of_cell? w _ hw496_0)).trans hw496_0), ((HB.out.cell (World.block_lt_of_cell? w _ hw500_0)).trans hw500_0)⟩ (fun hHeld => ?_)
          clear hK K
          refine norm_ (a' := ?_) ?_ ?_
          rotate_left
          ·show Act.put _ (some 41) _ = _
           simp only [Act.put, List.setIfInBounds_toArray, List.set_cons_zero, List.set_cons_succ, i64_w, i32_w]
           rfl
          refine puZ 14 (some 42) #[true, true, true, true, true, true, true, true, true, true, true, true, true, true, true, false, false, true, true, true, true, true, false, false, false, false, false, false, false, false] rfl rfl HT_.out ?_
          refine puZ 15 (some 43) #[true, true, true, true, true, true, true, true, true, true, true, true, true, true, true, true, false, true, true, true, true, true, false, false, false, false, false, false, false, false] rfl rfl HT_.out ?_
          refine one_ (i := 16) (N := some 44) #[true, true, true, true, true, true, true, true, true, true, true, true, true, true, true, true, true, true, true, true, true, true, false, false, false, false, false, false, false, false] rfl rfl (one_of HT_.out (by kernel_rfl)) (by decide) (fun K hK => ?_)
          refine goes_ Tryz.func49 (by kernel_rfl) rfl #[.int .i64 t497, .int .i64 t498] (by rfl) rfl rfl gZ ?_
          with_reducible refine (impl_numberCell.calls t497 t498 t499 _ ?side1 A24.out).mono ?_
          (case side1 => exact HSH.out.below (show Below w.heap.size w _ from bZ))
          rintro e w35 ⟨rfl, hb⟩
          refine ⟨_, rfl, ?_⟩
          have n0_ := Aside0.mk (Kd.N_below (by (with_reducible repeat (first | apply Kd.N_alloc | apply Kd.N_drewN | apply Kd.N_drew)); exact HO_6.out) hb)
          have n1_ := Aside0.mk (blk_below (g := gb483) (o := .cells #[.slice A0_0 l0_0.length c0_0, .slice (some ad492) l0_1.length c0_1] 32 (0, 0)) (kZ BK483.out) hb)
          have n2_ := Aside0.mk (blk_below (g := gb493) (o := .cells #[.string ((rd_T58 l0_1 x23_1).f0), .int .i64 ((rd_T58 l0_1 x23_1).f1), .int .i64 ((rd_T58 l0_1 x23_1).f2), .int .i64 ((rd_T58 l0_1 x23_1).f3), .int .i64 ((rd_T58 l0_1 x23_1).f4), .int .i64 ((rd_T58 l0_1 x23_1).f5)] 58 (0, 0)) (kZ BK493.out) hb)
          have n3_ := Aside0.mk (below_step bZ hb)
          clear HO_6; clear BK483; clear BK493; clear HB
          have HO_6 := n0_
          have BK483 := n1_
          have BK493 := n2_
          have HB := n3_
          clear n0_ n1_ n2_ n3_
          (try clear hb)
          (try clear hb2)
          (try clear hk)
          (try clear hi)
          refine hK.out _ _ ⟨(blk_cell BK493.out 0).trans rfl, (blk_cell BK493.out 1).trans rfl, (blk_cell BK493.out 2).trans rfl, (blk_cell BK493.out 3).trans rfl, (blk_cell BK493.out 4).trans rfl, (blk_cell BK493.out 5).trans rfl, ((HB.out.cell (World.block_lt_of_cell? w _ hw494_0)).trans hw494_0), ((HB.out.cell (World.block_lt_of_cell? w _ hw496_0)).trans hw496_0), ((HB.out.cell (World.block_lt_of_cell? w _ hw500_0)).trans hw500_0)⟩ (fun hHeld => ?_)
          clear hK K
          refine norm_ (a' := ?_) ?_ ?_
          rotate_left
          ·show Act.put _ (some 44) _ = _
           simp only [Act.put, List.setIfInBounds_toArray, List.set_cons_zero, List.set_cons_succ, i64_w, i32_w]
           rfl
          refine one_ (i := 22) (N := some 50) #[true, true, true, true, true, true, true, true, true, true, true, true, true, true, true, true, true, true, true, true, true, true, true, false, false, false, false, false, false, false] rfl rfl (one_of HT_.out (by kernel_rfl)) (by decide) (fun K hK => ?_)
          refine goes_ Tryz.func51 (by kernel_rfl) rfl #[.agg #[.string ((rd_T58 l0_1 x23_1).f0), .int .i64 ((rd_T58 l0_1 x23_1).f1), .int .i64 ((rd_T58 l0_1 x23_1).f2), .int .i64 ((rd_T58 l0_1 x23_1).f3), .int .i64 ((rd_T58 l0_1 x23_1).f4), .int .i64 ((rd_T58 l0_1 x23_1).f5)], .int .i64 (rd l1 x23_1)] (by rfl) rfl rfl gZ ?_
          with_reducible refine (impl_DelayOf.calls k1 ((rd_T58 l0_1 x23_1).f0) ((rd_T58 l0_1 x23_1).f1) ((rd_T58 l0_1 x23_1).f2) ((rd_T58 l0_1 x23_1).f3) ((rd_T58 l0_1 x23_1).f4) ((rd_T58 l0_1 x23_1).f5) (rd l1 x23_1) t501 t502 _ A25.out).mono ?_
          rintro e w36 ⟨rfl, hb⟩
          refine ⟨_, rfl, ?_⟩
          have n0_ := Aside0.mk (Kd.N_below (by (with_reducible repeat (first | apply Kd.N_alloc | apply Kd.N_drewN | apply Kd.N_drew)); exact HO_6.out) hb)
          have n1_ := Aside0.mk (blk_below (g := gb483) (o := .cells #[.slice A0_0 l0_0.length c0_0, .slice (some ad492) l0_1.length c0_1] 32 (0, 0)) (kZ BK483.out) hb)
          have n2_ := Aside0.mk (blk_below (g := gb493) (o := .cells #[.string ((rd_T58 l0_1 x23_1).f0), .int .i64 ((rd_T58 l0_1 x23_1).f1), .int .i64 ((rd_T58 l0_1 x23_1).f2), .int .i64 ((rd_T58 l0_1 x23_1).f3), .int .i64 ((rd_T58 l0_1 x23_1).f4), .int .i64 ((rd_T58 l0_1 x23_1).f5)] 58 (0, 0)) (kZ BK493.out) hb)
          have n3_ := Aside0.mk (below_step bZ hb)
          clear HO_6; clear BK483; clear BK493; clear HB
          have HO_6 := n0_
          have BK483 := n1_
          have BK493 := n2_
          have HB := n3_
          clear n0_ n1_ n2_ n3_
          (try clear hb)
          (try clear hb2)
          (try clear hk)
          (try clear hi)
          refine hK.out _ _ ⟨(blk_cell BK493.out 0).trans rfl, (blk_cell BK493.out 1).trans rfl, (blk_cell BK493.out 2).trans rfl, (blk_cell BK493.out 3).trans rfl, (blk_cell BK493.out 4).trans rfl, (blk_cell BK493.out 5).trans rfl, ((HB.out.cell (World.block_lt_of_cell? w _ hw494_0)).trans hw494_0), ((HB.out.cell (World.block_lt_of_cell? w _ hw496_0)).trans hw496_0), ((HB.out.cell (World.block_lt_of_cell? w _ hw500_0)).trans hw500_0)⟩ (fun hHeld => ?_)
          clear hK K
          refine norm_ (a' := ?_) ?_ ?_
          rotate_left
          ·show Act.put _ (some 50) _ = _
           simp only [Act.put, List.setIfInBounds_toArray, List.set_cons_zero, List.set_cons_succ, i64_w, i32_w]
           rfl
          refine puZ 23 (some 51) #[true, true, true, true, true, true, true, true, true, true, true, true, true, true, true, true, true, true, true, true, true, true, true, true, false, false, false, false, false, false] rfl rfl HT_.out ?_
          refine puZ 24 (some 52) #[true, true, true, true, true, true, true, true, true, true, true, true, true, true, true, true, true, true, true, true, true, true, true, true, true, false, false, false, false, false] rfl rfl HT_.out ?_
          refine one_ (i := 25) (N := some 53) #[true, true, true, true, true, true, true, true, true, true, true, true, true, true, true, true, true, true, true, true, true, true, true, true, true, true, false, false, false, false] rfl rfl (one_of HT_.out (by kernel_rfl)) (by decide) (fun K hK => ?_)
          refine goes_ Tryz.func49 (by kernel_rfl) rfl #[.int .i64 t501, .int .i64 t502] (by rfl) rfl rfl gZ ?_
          with_reducible refine (impl_numberCell.calls t501 t502 t503 _ ?side1 A26.out).mono ?_
          (case side1 => exact HSH.out.below (show Below w.heap.size w _ from bZ))
          rintro e w37 ⟨rfl, hb⟩
          refine ⟨_, rfl, ?_⟩
          have n0_ := Aside0.mk (Kd.N_below (by (with_reducible repeat (first | apply Kd.N_alloc | apply Kd.N_drewN | apply Kd.N_drew)); exact HO_6.out) hb)
          have n1_ := Aside0.mk (blk_below (g := gb483) (o := .cells #[.slice A0_0 l0_0.length c0_0, .slice (some ad492) l0_1.length c0_1] 32 (0, 0)) (kZ BK483.out) hb)
          have n2_ := Aside0.mk (blk_below (g := gb493) (o := .cells #[.string ((rd_T58 l0_1 x23_1).f0), .int .i64 ((rd_T58 l0_1 x23_1).f1), .int .i64 ((rd_T58 l0_1 x23_1).f2), .int .i64 ((rd_T58 l0_1 x23_1).f3), .int .i64 ((rd_T58 l0_1 x23_1).f4), .int .i64 ((rd_T58 l0_1 x23_1).f5)] 58 (0, 0)) (kZ BK493.out) hb)
          have n3_ := Aside0.mk (below_step bZ hb)
          clear HO_6; clear BK483; clear BK493; clear HB
          have HO_6 := n0_
          have BK483 := n1_
          have BK493 := n2_
          have HB := n3_
          clear n0_ n1_ n2_ n3_
          (try clear hb)
          (try clear hb2)
          (try clear hk)
          (try clear hi)
          refine hK.out _ _ ⟨(blk_cell BK493.out 0).trans rfl, (blk_cell BK493.out 1).trans rfl, (blk_cell BK493.out 2).trans rfl, (blk_cell BK493.out 3).trans rfl, (blk_cell BK493.out 4).trans rfl, (blk_cell BK493.out 5).trans rfl, ((HB.out.cell (World.block_lt_of_cell? w _ hw494_0)).trans hw494_0), ((HB.out.cell (World.block_lt_of_cell? w _ hw496_0)).trans hw496_0), ((HB.out.cell (World.block_lt_of_cell? w _ hw500_0)).trans hw500_0)⟩ (fun hHeld => ?_)
          clear hK K
          refine norm_ (a' := ?_) ?_ ?_
          rotate_left
          ·show Act.put _ (some 53) _ = _
           simp only [Act.put, List.setIfInBounds_toArray, List.set_cons_zero, List.set_cons_succ, i64_w, i32_w]
           rfl
          refine one_ (i := 26) (N := some 54) #[true, true, true, true, true, true, true, true, true, true, true, true, true, true, true, true, true, true, true, true, true, true, true, true, true, true, true, false, false, false] rfl rfl (one_of HT_.out (by kernel_rfl)) (by decide) (fun K hK => ?_)
          refine Kd.R_lit_step Kd.string _ 9 ?hg (N := 54) ?hd (xs := ([(rd_T58 l0_1 x23_1).f0, t495, t499, t503] : List ByteArray)) (inner := [.string ((rd_T58 l0_1 x23_1).f0), .string t495, .string t499, .string t503]) (ok := fun _ => True) (okp := fun _ => True) ?hr ?hp (fun _ hk => hk) trivial (Below.refl _ _) (Nat.le_refl _) (by simp) ?_; (case hd => rfl); (case hg => rfl); (case hr => first | (go_simp; done) | (go_simp; rfl)); (case hp => exact (Reps.one (show Kd.M Kd.string _ _ _ ((rd_T58 l0_1 x23_1).f0) [.string ((rd_T58 l0_1 x23_1).f0)] from rfl) (Reps.one (show Kd.M Kd.string _ _ _ t495 [.string t495] from rfl) (Reps.one (show Kd.M Kd.string _ _ _ t499 [.string t499] from rfl) (Reps.one (show Kd.M Kd.string _ _ _ t503 [.string t503] from rfl) (Reps.none _ _))))))
          intro v505 w38 ho39 hb hg_ hnew_
          clear hg_ hnew_
          (first | rw [← Ny504.out] at ho39 | (simp only [Int.reduceToNat] at ho39; rw [← Ny504.out] at ho39))
          have n0_ := Aside0.mk (Kd.N_elder' (by (with_reducible repeat (first | apply Kd.N_alloc | apply Kd.N_drewN | apply Kd.N_drew)); exact HO_6.out) (Kd.R_base ho39) hb)
          have n1_ := Aside0.mk (Kd.R_lower ho39 bsZ)
          have n2_ := Aside0.mk (blk_below (g := gb483) (o := .cells #[.slice A0_0 l0_0.length c0_0, .slice (some ad492) l0_1.length c0_1] 32 (0, 0)) (kZ BK483.out) hb)
          have n3_ := Aside0.mk (blk_below (g := gb493) (o := .cells #[.string ((rd_T58 l0_1 x23_1).f0), .int .i64 ((rd_T58 l0_1 x23_1).f1), .int .i64 ((rd_T58 l0_1 x23_1).f2), .int .i64 ((rd_T58 l0_1 x23_1).f3), .int .i64 ((rd_T58 l0_1 x23_1).f4), .int .i64 ((rd_T58 l0_1 x23_1).f5)] 58 (0, 0)) (kZ BK493.out) hb)
          have n4_ := Aside0.mk (below_step bZ hb)
          clear HO_6; clear BK483; clear BK493; clear HB
          have HO_6 := n0_
          have HO506 := n1_
          have BK483 := n2_
          have BK493 := n3_
          have HB := n4_
          clear n0_ n1_ n2_ n3_ n4_
          clear hb ho39
          obtain ⟨Ao41, co41, eo41⟩ := Kd.R_slice HO506.out
          (first | subst eo41 | (injection eo41 with f1_ f2_ f3_; have f4_ := f1_.symm; have f5_ := f3_.symm; clear f1_ f2_ f3_; subst f4_; subst f5_))
          refine hK.out _ _ ⟨(blk_cell BK493.out 0).trans rfl, (blk_cell BK493.out 1).trans rfl, (blk_cell BK493.out 2).trans rfl, (blk_cell BK493.out 3).trans rfl, (blk_cell BK493.out 4).trans rfl, (blk_cell BK493.out 5).trans rfl, ((HB.out.cell (World.block_lt_of_cell? w _ hw494_0)).trans hw494_0), ((HB.out.cell (World.block_lt_of_cell? w _ hw496_0)).trans hw496_0), ((HB.out.cell (World.block_lt_of_cell? w _ hw500_0)).trans hw500_0)⟩ (fun hHeld => ?_)
          clear hK K
          refine norm_ (a' := ?_) ?_ ?_
          rotate_left
          ·show Act.put _ (some 54) _ = _
           simp only [Act.put, List.setIfInBounds_toArray, List.set_cons_zero, List.set_cons_succ, i64_w, i32_w]
           rfl
          refine one_ (i := 27) (N := some 55) #[true, true, true, true, true, true, true, true, true, true, true, true, true, true, true, true, true, true, true, true, true, true, true, true, true, true, true, true, false, false] rfl rfl (one_of HT_.out (by kernel_rfl)) (by decide) (fun K hK => ?_)
          refine value_ (w1 := ?_) (v := ?_) (by rfl) rfl ?_ ?_
          rotate_left 2
          ·go_simp
           constructor
           ·rfl
           ·rfl
          refine hK.out _ _ ⟨(blk_cell (blk_alloc BK493.out _) 0).trans rfl, (blk_cell (blk_alloc BK493.out _) 1).trans rfl, (blk_cell (blk_alloc BK493.out _) 2).trans rfl, (blk_cell (blk_alloc BK493.out _) 3).trans rfl, (blk_cell (blk_alloc BK493.out _) 4).trans rfl, (blk_cell (blk_alloc BK493.out _) 5).trans rfl, (World.cell?_alloc_lt _ _ _ (World.block_lt_of_cell? _ _ (((HB.out.cell (World.block_lt_of_cell? w _ hw494_0)).trans hw494_0)))).trans (((HB.out.cell (World.block_lt_of_cell? w _ hw494_0)).trans hw494_0)), (World.cell?_alloc_lt _ _ _ (World.block_lt_of_cell? _ _ (((HB.out.cell (World.block_lt_of_cell? w _ hw496_0)).trans hw496_0)))).trans (((HB.out.cell (World.block_lt_of_cell? w _ hw496_0)).trans hw496_0)), (World.cell?_alloc_lt _ _ _ (World.block_lt_of_cell? _ _ (((HB.out.cell (World.block_lt_of_cell? w _ hw500_0)).trans hw500_0)))).trans (((HB.out.cell (World.block_lt_of_cell? w _ hw500_0)).trans hw500_0))⟩ (fun hHeld => ?_)
          clear hK K
          refine norm_ (a' := ?_) ?_ ?_
          rotate_left
          ·show Act.put _ (some 55) _ = _
           simp only [Act.put, List.setIfInBounds_toArray, List.set_cons_zero, List.set_cons_succ, i64_w, i32_w]
           rfl
          refine one_ (i := 28) (N := some 56) #[true, true, true, true, true, true, true, true, true, true, true, true, true, true, true, true, true, true, true, true, true, true, true, true, true, true, true, true, true, false] rfl rfl (one_of HT_.out (by kernel_rfl)) (by decide) (fun K hK => ?_)
          refine Kd.N_append_step (Kd.slice 9 Kd.string) (w0 := w) w.heap.size (by rfl) (.tmp 28) (.tmp 55) 56 27 (.slice none 0 0) 24 rfl Tryz.underlying56 info27 rfl (by decide) (by omega) u6 x6_1 y504 [.slice Ao41 y504.length co41] (fun k_ => k_ ≠ gb483 ∧ k_ ≠ gb493) (fun k_ => ((fun k_ => k_ ≠ gb483 ∧ k_ ≠ gb493)) k_ ∧ some k_ ≠ (u6 : Value).ownBlock) rfl rfl ?aP (fun _ hk => hk) ?aF ?aO ?aB ?aS ?aL ?_
          (case aP => exact (Kd.FK_slice_mk (Kd.R_reads' (Kd.R_mono (ok' := (fun k_ => ((fun k_ => k_ ≠ gb483 ∧ k_ ≠ gb493)) k_ ∧ some k_ ≠ (u6 : Value).ownBlock)) (Kd.R_types (Kd.R_types (Kd.R_apart' (HO506.out) (Kd.N_typed HO_6.out) (by decide)) BK483.out (by decide)) BK493.out (by decide)) (fun k_ hk => ⟨⟨hk.1.2, hk.2⟩, hk.1.1.2⟩))).2.1 (Kd.R_F (Kd.R_mono (ok' := (fun k_ => ((fun k_ => k_ ≠ gb483 ∧ k_ ≠ gb493)) k_ ∧ some k_ ≠ (u6 : Value).ownBlock)) (Kd.R_types (Kd.R_types (Kd.R_apart' (HO506.out) (Kd.N_typed HO_6.out) (by decide)) BK483.out (by decide)) BK493.out (by decide)) (fun k_ hk => ⟨⟨hk.1.2, hk.2⟩, hk.1.1.2⟩)))))
          (case aB => exact bZ)
          (case aF => exact (fun k_ hk => ⟨Kd.freshB (g := gb483) (o := .cells #[.slice A0_0 l0_0.length c0_0, .slice (some ad492) l0_1.length c0_1] 32 (0, 0)) (kZ BK483.out) k_ hk, Kd.freshB (g := gb493) (o := .cells #[.string ((rd_T58 l0_1 x23_1).f0), .int .i64 ((rd_T58 l0_1 x23_1).f1), .int .i64 ((rd_T58 l0_1 x23_1).f2), .int .i64 ((rd_T58 l0_1 x23_1).f3), .int .i64 ((rd_T58 l0_1 x23_1).f4), .int .i64 ((rd_T58 l0_1 x23_1).f5)] 58 (0, 0)) (kZ BK493.out) k_ hk⟩))
          (case aO => exact (by (with_reducible repeat (first | apply Kd.N_alloc | apply Kd.N_drewN | apply Kd.N_drew)); exact Kd.N_mono HO_6.out (fun _ hk => ⟨hk.1.1, hk.1.2⟩)))
          (case aS => exact bsZ)
          (case aL => have := LMc27.out; omega)
          intro v508 w40 ho hb hg hat
          rw [← Ny507.out] at ho
          have n0_ := Aside0.mk (blk_grown (g := gb483) (o := .cells #[.slice A0_0 l0_0.length c0_0, .slice (some ad492) l0_1.length c0_1] 32 (0, 0)) (kZ BK483.out) hg (Kd.N_ne HO_6.out BK483.out (by decide)))
          have n1_ := Aside0.mk (blk_grown (g := gb493) (o := .cells #[.string ((rd_T58 l0_1 x23_1).f0), .int .i64 ((rd_T58 l0_1 x23_1).f1), .int .i64 ((rd_T58 l0_1 x23_1).f2), .int .i64 ((rd_T58 l0_1 x23_1).f3), .int .i64 ((rd_T58 l0_1 x23_1).f4), .int .i64 ((rd_T58 l0_1 x23_1).f5)] 58 (0, 0)) (kZ BK493.out) hg (Kd.N_ne HO_6.out BK493.out (by decide)))
          have n2_ := Aside0.mk (hb)
          have n3_ := Aside0.mk (ho)
          clear BK483; clear BK493; clear HB; clear HO_6; clear HO506
          have BK483 := n0_
          have BK493 := n1_
          have HB := n2_
          have HO509 := n3_
          clear n0_ n1_ n2_ n3_
          clear ho hb hg hat
          refine hK.out _ _ ⟨(blk_cell BK493.out 0).trans rfl, (blk_cell BK493.out 1).trans rfl, (blk_cell BK493.out 2).trans rfl, (blk_cell BK493.out 3).trans rfl, (blk_cell BK493.out 4).trans rfl, (blk_cell BK493.out 5).trans rfl, ((HB.out.cell (World.block_lt_of_cell? w _ hw494_0)).trans hw494_0), ((HB.out.cell (World.block_lt_of_cell? w _ hw496_0)).trans hw496_0), ((HB.out.cell (World.block_lt_of_cell? w _ hw500_0)).trans hw500_0)⟩ (fun hHeld => ?_)
          clear hK K
          refine norm_ (a' := ?_) ?_ ?_
          rotate_left
          ·show Act.put _ (some 56) _ = _
           simp only [Act.put, List.setIfInBounds_toArray, List.set_cons_zero, List.set_cons_succ, i64_w, i32_w]
           rfl
          refine puZ 29 (some 6) #[true, true, true, true, true, true, true, true, true, true, true, true, true, true, true, true, true, true, true, true, true, true, true, true, true, true, true, true, true, true] rfl rfl HT_.out ?_
          refine done_ (done_of HT_.out (by kernel_rfl)) ?_
          try go_wp2
          go_roundg k1
          case measure => have := HK1.out; omega
          case rel => exact ⟨(y507), (wrap64 (x23_1 + 1)), sZ, H', ⟨by have := HK1.out; omega⟩, ⟨by (with_reducible repeat (first | apply Kd.N_alloc | apply Kd.N_drewN | apply Kd.N_drew)); exact Kd.N_mono HO509.out (fun _ hk => hk.1)⟩, ⟨kZ BK483.out⟩, ⟨bZ⟩⟩
         ·rw [if_neg c27] at H
          exact absurd H (by simp)
        ·rw [if_neg c21] at H
         exact absurd H (by simp)
       ·rw [if_neg c20] at H
        exact absurd H (by simp)
      ·rw [if_neg c19] at H
       exact absurd H (by simp)
     ·rw [if_neg c18] at H
      have c18b0 : decide (x23_1 < (l0_1.length : Int)) = false := decide_eq_false c18
      clear c18
      replace H := Option.bind_eq_some_iff.mp H
      obtain ⟨⟨t510, t511⟩, A420, H⟩ := H
      replace H : (some (t510, t511)) = some (r1, r2) := H
      have A42 := Aside0.mk A420
      clear A420
      simp only [Option.some.injEq, Prod.mk.injEq] at H
      obtain ⟨rfl, rfl⟩ := H
      obtain ⟨Ao43, co43, eo43⟩ := Kd.N_slice HO_6.out
      subst eo43
      go_wp2_with (first | ((with_reducible refine gate_callee (f := 42) rfl ?_); refine goesL_ (some 59) rfl rfl Tryz.func42 (by kernel_rfl) rfl #[.slice Ao43 x6_1.length co43] rfl gZ ?_; (with_reducible refine (impl_TableLines.calls k1 _ _ x6_1 t510 t511 _ ?side1 ?side2 A42.out).mono ?_); (case side1 => repeat (first | exact (Kd.N_reads' HO_6.out).2.2 | (with_reducible refine Kd.C_alloc ?_ _) | (with_reducible refine Kd.C_drewN ?_ _) | (with_reducible refine Kd.C_drew ?_))); (case side2 => exact (Kd.N_reads' HO_6.out).2.1); rintro e w44 ⟨v512, rfl, ho0, hb⟩; refine ⟨_, rfl, ?_⟩; have n0_ := Aside0.mk (Kd.N_elder' (by (with_reducible repeat (first | apply Kd.N_alloc | apply Kd.N_drewN | apply Kd.N_drew)); exact HO_6.out) (Kd.R_base ho0) hb); have n1_ := Aside0.mk (Kd.R_lower ho0 bsZ); have n2_ := Aside0.mk (blk_below (g := gb483) (o := .cells #[.slice A0_0 l0_0.length c0_0, .slice A0_1 l0_1.length c0_1] 32 (0, 0)) (kZ BK483.out) hb); have n3_ := Aside0.mk (below_step bZ hb); clear HO_6; clear BK483; clear HB; have HO_6 := n0_; have HO513 := n1_; have BK483 := n2_; have HB := n3_; clear n0_ n1_ n2_ n3_; (try clear hb); (try clear hb2); (try clear hk); (try clear hi); (try clear ho0)))
      go_ret2
      exact ⟨_, eZ, Kd.rZ HO513.out, bZ⟩
  ·replace c6 := Bool.eq_false_iff.mpr c6
   subst c6
   have H1 : (some (([] : List ByteArray), 2)) = some (r1, r2) := by rw [if_neg (show ¬ (false = true) by decide)] at H; exact H
   clear H
   have H := H1
   clear H1
   simp only [Option.some.injEq, Prod.mk.injEq] at H
   obtain ⟨rfl, rfl⟩ := H
   go_enter Tryz.func19, Tryz.ntmps19
   go_wp2_with (first | ((with_reducible refine gate_dst (N := 2) rfl ?_); refine boxZ 2 #[.slice A0_0 l0_0.length c0_0, .slice A0_1 l0_1.length c0_1] 32 rfl rfl ?_; intro gb483 hg w45 hbox hb; have n0_ := Aside0.mk (below_step bZ hb); have n1_ := Aside0.mk (hbox); have n2_ := Aside0.mk ((by rw [hg]; exact bsZ : w.heap.size ≤ gb483)); have n3_ := Aside0.mk ((by rw [hg]; exact bsZ : w.heap.size ≤ gb483)); clear HB; have HB := n0_; have BK483 := n1_; have GW483 := n2_; have GE483 := n3_; clear n0_ n1_ n2_ n3_; clear hb hbox hg; have hcz46_0 := bc0 BK483.out; have hcz46_1 := bc1 BK483.out; have hfz46_0 := blk_frozen BK483.out 0; have hfz46_1 := blk_frozen BK483.out 1) | ((with_reducible refine gate_callee (f := 38) rfl ?_); refine goesL_ (some 11) rfl rfl Tryz.func38 (by kernel_rfl) rfl #[.agg #[.slice A0_0 l0_0.length c0_0, .slice A0_1 l0_1.length c0_1]] rfl gZ ?_; (with_reducible refine (impl_ValidNetwork.calls k _ _ l0_0 _ _ l0_1 true _ ?side1 ?side2 ?side3 ?side4 A3.out).mono ?_); (case side1 => repeat (first | exact (Kd.C_below HR0_0.out HB.out) | (with_reducible refine Kd.C_alloc ?_ _) | (with_reducible refine Kd.C_drewN ?_ _) | (with_reducible refine Kd.C_drew ?_))); (case side2 => exact HC0_0.out); (case side3 => repeat (first | exact (Kd.C_below HR0_1.out HB.out) | (with_reducible refine Kd.C_alloc ?_ _) | (with_reducible refine Kd.C_drewN ?_ _) | (with_reducible refine Kd.C_drew ?_))); (case side4 => exact HC0_1.out); rintro e w47 ⟨rfl, hb⟩; refine ⟨_, rfl, ?_⟩; have n0_ := Aside0.mk (blk_below (g := gb483) (o := .cells #[.slice A0_0 l0_0.length c0_0, .slice A0_1 l0_1.length c0_1] 32 (0, 0)) (kZ BK483.out) hb); have n1_ := Aside0.mk (below_step bZ hb); clear BK483; clear HB; have BK483 := n0_; have HB := n1_; clear n0_ n1_; (try clear hb); (try clear hb2); (try clear hk); (try clear hi); have hcz48_0 := bc0 BK483.out; have hcz48_1 := bc1 BK483.out; have hfz48_0 := blk_frozen BK483.out 0; have hfz48_1 := blk_frozen BK483.out 1) | ((with_reducible refine gate_callee (f := 39) rfl ?_); refine goesL_ (some 16) rfl rfl Tryz.func39 (by kernel_rfl) rfl #[.agg #[.slice A0_0 l0_0.length c0_0, .slice A0_1 l0_1.length c0_1], .slice A1 l1.length c1] rfl gZ ?_; (with_reducible refine (impl_Network_flowsOk.calls _ _ l0_0 _ _ l0_1 _ _ l1 false _ ?side1 ?side2 ?side3 ?side4 ?side5 ?side6 A5.out).mono ?_); (case side1 => repeat (first | exact (Kd.C_below HR0_0.out HB.out) | (with_reducible refine Kd.C_alloc ?_ _) | (with_reducible refine Kd.C_drewN ?_ _) | (with_reducible refine Kd.C_drew ?_))); (case side2 => exact HC0_0.out); (case side3 => repeat (first | exact (Kd.C_below HR0_1.out HB.out) | (with_reducible refine Kd.C_alloc ?_ _) | (with_reducible refine Kd.C_drewN ?_ _) | (with_reducible refine Kd.C_drew ?_))); (case side4 => exact HC0_1.out); (case side5 => repeat (first | exact (Kd.C_below HR1.out HB.out) | (with_reducible refine Kd.C_alloc ?_ _) | (with_reducible refine Kd.C_drewN ?_ _) | (with_reducible refine Kd.C_drew ?_))); (case side6 => exact HC1.out); rintro e w49 ⟨rfl, hb⟩; refine ⟨_, rfl, ?_⟩; have n0_ := Aside0.mk (blk_below (g := gb483) (o := .cells #[.slice A0_0 l0_0.length c0_0, .slice A0_1 l0_1.length c0_1] 32 (0, 0)) (kZ BK483.out) hb); have n1_ := Aside0.mk (below_step bZ hb); clear BK483; clear HB; have BK483 := n0_; have HB := n1_; clear n0_ n1_; (try clear hb); (try clear hb2); (try clear hk); (try clear hi)))
   go_ret2
   exact ⟨_, eZ, by first | exact Kd.R_nil _ _ _ _ _ | exact Kd.N_nil _ _ _ _ _ | exact Kd.V_nil _ _ _ _ _ | exact Kd.Q_nil _ _ _ _ _ | exact Kd.S_nil _ _ _ _ _, bZ⟩
 ·replace c4 := Bool.eq_false_iff.mpr c4
  subst c4
  have H1 : (some (([] : List ByteArray), 1)) = some (r1, r2) := by rw [if_neg (show ¬ (false = true) by decide)] at H; exact H
  clear H
  have H := H1
  clear H1
  simp only [Option.some.injEq, Prod.mk.injEq] at H
  obtain ⟨rfl, rfl⟩ := H
  go_enter Tryz.func19, Tryz.ntmps19
  go_wp2_with (first | ((with_reducible refine gate_dst (N := 2) rfl ?_); refine boxZ 2 #[.slice A0_0 l0_0.length c0_0, .slice A0_1 l0_1.length c0_1] 32 rfl rfl ?_; intro gb483 hg w50 hbox hb; have n0_ := Aside0.mk (below_step bZ hb); have n1_ := Aside0.mk (hbox); have n2_ := Aside0.mk ((by rw [hg]; exact bsZ : w.heap.size ≤ gb483)); have n3_ := Aside0.mk ((by rw [hg]; exact bsZ : w.heap.size ≤ gb483)); clear HB; have HB := n0_; have BK483 := n1_; have GW483 := n2_; have GE483 := n3_; clear n0_ n1_ n2_ n3_; clear hb hbox hg; have hcz51_0 := bc0 BK483.out; have hcz51_1 := bc1 BK483.out; have hfz51_0 := blk_frozen BK483.out 0; have hfz51_1 := blk_frozen BK483.out 1) | ((with_reducible refine gate_callee (f := 38) rfl ?_); refine goesL_ (some 11) rfl rfl Tryz.func38 (by kernel_rfl) rfl #[.agg #[.slice A0_0 l0_0.length c0_0, .slice A0_1 l0_1.length c0_1]] rfl gZ ?_; (with_reducible refine (impl_ValidNetwork.calls k _ _ l0_0 _ _ l0_1 false _ ?side1 ?side2 ?side3 ?side4 A3.out).mono ?_); (case side1 => repeat (first | exact (Kd.C_below HR0_0.out HB.out) | (with_reducible refine Kd.C_alloc ?_ _) | (with_reducible refine Kd.C_drewN ?_ _) | (with_reducible refine Kd.C_drew ?_))); (case side2 => exact HC0_0.out); (case side3 => repeat (first | exact (Kd.C_below HR0_1.out HB.out) | (with_reducible refine Kd.C_alloc ?_ _) | (with_reducible refine Kd.C_drewN ?_ _) | (with_reducible refine Kd.C_drew ?_))); (case side4 => exact HC0_1.out); rintro e w52 ⟨rfl, hb⟩; refine ⟨_, rfl, ?_⟩; have n0_ := Aside0.mk (blk_below (g := gb483) (o := .cells #[.slice A0_0 l0_0.length c0_0, .slice A0_1 l0_1.length c0_1] 32 (0, 0)) (kZ BK483.out) hb); have n1_ := Aside0.mk (below_step bZ hb); clear BK483; clear HB; have BK483 := n0_; have HB := n1_; clear n0_ n1_; (try clear hb); (try clear hb2); (try clear hk); (try clear hi)))
  go_ret2
  exact ⟨_, eZ, by first | exact Kd.R_nil _ _ _ _ _ | exact Kd.N_nil _ _ _ _ _ | exact Kd.V_nil _ _ _ _ _ | exact Kd.Q_nil _ _ _ _ _ | exact Kd.S_nil _ _ _ _ _, bZ⟩
end Go.Proofs.YtadaegehdcngdaaGreatDoor.XV
end
