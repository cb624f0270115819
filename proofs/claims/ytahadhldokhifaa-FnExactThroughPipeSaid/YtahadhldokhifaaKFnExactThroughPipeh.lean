/- The law FnExactThroughPipe: part 7 of its texts, joined (wip/pack.py). -/
import Derived.Test.YtahadhldokhifaaKFnExactThroughPipea
import Derived.Test.YtahadhldokhifaaKFnExactThroughPipeb
import Derived.Test.YtahadhldokhifaaKFnExactThroughPipec
import Derived.Test.YtahadhldokhifaaKFnExactThroughPiped
import Derived.Test.YtahadhldokhifaaKFnExactThroughPipee
import Derived.Test.YtahadhldokhifaaKFnExactThroughPipef
import Derived.Test.YtahadhldokhifaaKFnExactThroughPipeg
import Derived.Deep.Slices
import Derived.SizedLaws
import Derived.ChangeArms
import Derived.WideShapes
import Derived.KernelRfl
import Derived.Lib.Strings
import Derived.Lib.IndexLaws
import Derived.Lib.IndexBytes
import Derived.Lib.IndexMore

section
namespace Go.Proofs.Ytahadhldokhifaa.XP
open Go.RowKit Go.Proofs.YtahadhldokhifaaW.PrintWords Go.Proofs.YtahadhldokhifaaW.PrintLast Go.Proofs.YtahadhldokhifaaW.PrintMore
attribute [local go_sem] run_eql_slice_nil binOp_string_gtr' binOp_string_leq' binOp_string_geq' max2_int min2_int max_two min_two max_three min_three max_four min_four   -- for this text's walks alone
set_option linter.unusedVariables false
set_option linter.unusedSimpArgs false
mutual
def laws_FnExactThroughPipe.j0 : Nat → Int → List (S45) → Int → Int → List (S43) → Int → List (S43) → List (S43) → Int → Bool → ByteArray → Int → Int → Int → Int → Int → Option (Bool)
 | 0, _, _, _, _, _, _, _, _, _, _, _, _, _, _, _, _ => none
 | k + 1, x1, x2, x3, x4, x12, x13, x14, x15, x16, x63, x297000, x297001, x297002, x297003, x297004, x297005 => if x63 = true then (some false) else ((laws_toStepS.f k x2).bind fun t326 => ((laws_eqStepS.f k x14 t326).bind fun t329 => (if t329 = true then ((laws_markStepS.f k x14 1).bind fun bt330 => (if bt330.1 < 0 then (laws_FnExactThroughPipe.j1 k x1 x2 x3 x4 x12 x13 x15 true x297000 x297001 x297002 x297003 x297004 x297005) else ((laws_eqStepS.f k x15 x12).bind fun t332 => (if t332 = true then (laws_FnExactThroughPipe.j1 k x1 x2 x3 x4 x12 x13 x15 (x16 != x13) x297000 x297001 x297002 x297003 x297004 x297005) else (laws_FnExactThroughPipe.j1 k x1 x2 x3 x4 x12 x13 x15 true x297000 x297001 x297002 x297003 x297004 x297005))))) else (some false))))
def laws_FnExactThroughPipe.j1 : Nat → Int → List (S45) → Int → Int → List (S43) → Int → List (S43) → Bool → ByteArray → Int → Int → Int → Int → Int → Option (Bool)
 | 0, _, _, _, _, _, _, _, _, _, _, _, _, _, _ => none
 | k + 1, x1, x2, x3, x4, x12, x13, x15, x84, x297000, x297001, x297002, x297003, x297004, x297005 => if x84 = true then (some false) else ((laws_markStepS.f k x15 1).bind fun bt333 => ((laws_heldStepS.f k bt333.2 1).bind fun t335 => (if t335 < 0 then (some false) else (if t335 = bt333.1 then ((laws_toPipe.f x297000 x297001 x297002 x297003 x297004 x297005).bind fun bt336 => ((laws_toStepS.f k x2).bind fun t342 => ((impl_ThroughPipe.f k bt336.1 bt336.2.1 bt336.2.2.1 bt336.2.2.2.1 bt336.2.2.2.2.1 bt336.2.2.2.2.2 x1 t342 x3 x4).bind fun bt345 => ((laws_eqStepS.f k bt345.1 x12).bind fun t349 => (if t349 = true then (laws_FnExactThroughPipe.j2 k bt333.2 bt333.1 (bt345.2 != x13)) else (laws_FnExactThroughPipe.j2 k bt333.2 bt333.1 true)))))) else (some false)))))
def laws_FnExactThroughPipe.j2 : Nat → List (S43) → Int → Bool → Option (Bool)
 | 0, _, _, _ => none
 | k + 1, x15, x18, x115 => if x115 = true then (some false) else ((laws_heldStepS.f k x15 1).bind fun t350 => (if t350 < 0 then (some false) else (if t350 = x18 then (some true) else (some false))))
end
def laws_FnExactThroughPipe.f (k : Nat) (a0_0 : ByteArray) (a0_1 : Int) (a0_2 : Int) (a0_3 : Int) (a0_4 : Int) (a0_5 : Int) (a1 : Int) (l2 : List (S45)) (a3 : Int) (a4 : Int) : Option (Bool) := (laws_szPipe.f a0_0 a0_1 a0_2 a0_3 a0_4 a0_5 1048576).bind fun t297 => (if t297 < 0 then (some true) else ((laws_szStepS.f l2 t297).bind fun t298 => (if t298 < 0 then (some true) else ((laws_toPipe.f a0_0 a0_1 a0_2 a0_3 a0_4 a0_5).bind fun bt299 => ((laws_toStepS.f k l2).bind fun t305 => ((spec_ThroughPipe.f k bt299.1 bt299.2.1 bt299.2.2.1 bt299.2.2.2.1 bt299.2.2.2.2.1 bt299.2.2.2.2.2 a1 t305 a3 a4).bind fun bt308 => ((laws_toStepS.f k l2).bind fun t312 => ((laws_toPipe.f a0_0 a0_1 a0_2 a0_3 a0_4 a0_5).bind fun bt315 => ((impl_ThroughPipe.f k bt315.1 bt315.2.1 bt315.2.2.1 bt315.2.2.2.1 bt315.2.2.2.2.1 bt315.2.2.2.2.2 a1 t312 a3 a4).bind fun bt321 => ((laws_eqStepS.f k bt321.1 bt308.1).bind fun t325 => (if t325 = true then (laws_FnExactThroughPipe.j0 k a1 l2 a3 a4 bt308.1 bt308.2 t312 bt321.1 bt321.2 (bt321.2 != bt308.2) a0_0 a0_1 a0_2 a0_3 a0_4 a0_5) else (laws_FnExactThroughPipe.j0 k a1 l2 a3 a4 bt308.1 bt308.2 t312 bt321.1 bt321.2 true a0_0 a0_1 a0_2 a0_3 a0_4 a0_5))))))))))))
set_option maxHeartbeats 8000000 in
set_option maxRecDepth 100000 in
theorem laws_FnExactThroughPipe.calls (k : Nat) (a0_0 : ByteArray) (a0_1 : Int) (a0_2 : Int) (a0_3 : Int) (a0_4 : Int) (a0_5 : Int) (a1 : Int) (A2 : Option Addr) (c2 : Nat) (l2 : List (S45)) (a3 : Int) (a4 : Int) (r : Bool) (w : World) (hr2 : Kd.C k45 w A2 l2.length l2) (hc2 : l2.length ≤ c2) (h : laws_FnExactThroughPipe.f k a0_0 a0_1 a0_2 a0_3 a0_4 a0_5 a1 l2 a3 a4 = some r) :
  Calls Try.prog 3 #[.agg #[.string a0_0, .int .i64 a0_1, .int .i64 a0_2, .int .i64 a0_3, .int .i64 a0_4, .int .i64 a0_5], .int .i64 a1, .slice A2 l2.length c2, .int .i64 a3, .int .i64 a4] w fun e w' => e = .returned (.bool r) ∧ Below w.heap.size w w' := by
 have hu23 := Try.underlying23
 have HR2 := Aside0.mk hr2
 have HC2 := Aside0.mk hc2
 clear hr2 hc2
 have HB := Aside0.mk (Below.refl w.heap.size w)
 have H : ((laws_szPipe.f a0_0 a0_1 a0_2 a0_3 a0_4 a0_5 1048576).bind fun t297 => (if t297 < 0 then (some true) else ((laws_szStepS.f l2 t297).bind fun t298 => (if t298 < 0 then (some true) else ((laws_toPipe.f a0_0 a0_1 a0_2 a0_3 a0_4 a0_5).bind fun bt299 => ((laws_toStepS.f k l2).bind fun t305 => ((spec_ThroughPipe.f k bt299.1 bt299.2.1 bt299.2.2.1 bt299.2.2.2.1 bt299.2.2.2.2.1 bt299.2.2.2.2.2 a1 t305 a3 a4).bind fun bt308 => ((laws_toStepS.f k l2).bind fun t312 => ((laws_toPipe.f a0_0 a0_1 a0_2 a0_3 a0_4 a0_5).bind fun bt315 => ((impl_ThroughPipe.f k bt315.1 bt315.2.1 bt315.2.2.1 bt315.2.2.2.1 bt315.2.2.2.2.1 bt315.2.2.2.2.2 a1 t312 a3 a4).bind fun bt321 => ((laws_eqStepS.f k bt321.1 bt308.1).bind fun t325 => (if t325 = true then (laws_FnExactThroughPipe.j0 k a1 l2 a3 a4 bt308.1 bt308.2 t312 bt321.1 bt321.2 (bt321.2 != bt308.2) a0_0 a0_1 a0_2 a0_3 a0_4 a0_5) else (laws_FnExactThroughPipe.j0 k a1 l2 a3 a4 bt308.1 bt308.2 t312 bt321.1 bt321.2 true a0_0 a0_1 a0_2 a0_3 a0_4 a0_5))))))))))))) = some r := h
 clear h
 replace H := Option.bind_eq_some_iff.mp H
 obtain ⟨t297, A60, H⟩ := H
 replace H : (if t297 < 0 then (some true) else ((laws_szStepS.f l2 t297).bind fun t298 => (if t298 < 0 then (some true) else ((laws_toPipe.f a0_0 a0_1 a0_2 a0_3 a0_4 a0_5).bind fun bt299 => ((laws_toStepS.f k l2).bind fun t305 => ((spec_ThroughPipe.f k bt299.1 bt299.2.1 bt299.2.2.1 bt299.2.2.2.1 bt299.2.2.2.2.1 bt299.2.2.2.2.2 a1 t305 a3 a4).bind fun bt308 => ((laws_toStepS.f k l2).bind fun t312 => ((laws_toPipe.f a0_0 a0_1 a0_2 a0_3 a0_4 a0_5).bind fun bt315 => ((impl_ThroughPipe.f k bt315.1 bt315.2.1 bt315.2.2.1 bt315.2.2.2.1 bt315.2.2.2.2.1 bt315.2.2.2.2.2 a1 t312 a3 a4).bind fun bt321 => ((laws_eqStepS.f k bt321.1 bt308.1).bind fun t325 => (if t325 = true then (laws_FnExactThroughPipe.j0 k a1 l2 a3 a4 bt308.1 bt308.2 t312 bt321.1 bt321.2 (bt321.2 != bt308.2) a0_0 a0_1 a0_2 a0_3 a0_4 a0_5) else (laws_FnExactThroughPipe.j0 k a1 l2 a3 a4 bt308.1 bt308.2 t312 bt321.1 bt321.2 true a0_0 a0_1 a0_2 a0_3 a0_4 a0_5)))))))))))) = some r := H
 have A6 := Aside0.mk A60
 clear A60
 by_cases c7 : t297 < 0
 ·rw [if_pos c7] at H
  have c7b0 : decide (t297 < 0) = true := decide_eq_true c7
  clear c7
  obtain rfl := Option.some.inj H
  go_enter Try.func3, Try.ntmps3
  go_wp2_with (first | ((with_reducible refine gate_dst (N := 5) rfl ?_); refine boxZ 5 #[.string a0_0, .int .i64 a0_1, .int .i64 a0_2, .int .i64 a0_3, .int .i64 a0_4, .int .i64 a0_5] 23 rfl rfl ?_; intro gb296 hg w8 hbox hb; have n0_ := Aside0.mk (below_step bZ hb); have n1_ := Aside0.mk (hbox); have n2_ := Aside0.mk ((by rw [hg]; exact bsZ : w.heap.size ≤ gb296)); have n3_ := Aside0.mk ((by rw [hg]; exact bsZ : w.heap.size ≤ gb296)); clear HB; have HB := n0_; have BK296 := n1_; have GW296 := n2_; have GE296 := n3_; clear n0_ n1_ n2_ n3_; clear hb hbox hg; have hcz9_0 := bc0 BK296.out; have hcz9_1 := bc1 BK296.out; have hcz9_2 := bc2 BK296.out; have hcz9_3 := bc3 BK296.out; have hcz9_4 := bc4 BK296.out; have hcz9_5 := bc5 BK296.out; have hfz9_0 := blk_frozen BK296.out 0; have hfz9_1 := blk_frozen BK296.out 1; have hfz9_2 := blk_frozen BK296.out 2; have hfz9_3 := blk_frozen BK296.out 3; have hfz9_4 := blk_frozen BK296.out 4; have hfz9_5 := blk_frozen BK296.out 5) | ((with_reducible refine gate_callee (f := 4) rfl ?_); refine goesL_ (some 24) rfl rfl Try.func4 (by kernel_rfl) rfl #[.agg #[.string a0_0, .int .i64 a0_1, .int .i64 a0_2, .int .i64 a0_3, .int .i64 a0_4, .int .i64 a0_5], .int .i64 1048576] rfl gZ ?_; (with_reducible refine (laws_szPipe.calls a0_0 a0_1 a0_2 a0_3 a0_4 a0_5 1048576 t297 _ A6.out).mono ?_); rintro e w10 ⟨rfl, hb⟩; refine ⟨_, rfl, ?_⟩; have n0_ := Aside0.mk (blk_below (g := gb296) (o := .cells #[.string a0_0, .int .i64 a0_1, .int .i64 a0_2, .int .i64 a0_3, .int .i64 a0_4, .int .i64 a0_5] 23 (0, 0)) (kZ BK296.out) hb); have n1_ := Aside0.mk (below_step bZ hb); clear BK296; clear HB; have BK296 := n0_; have HB := n1_; clear n0_ n1_; (try clear hb); (try clear hb2); (try clear hk); (try clear hi)))
  go_ret
  exact ⟨eZ, bZ⟩
 ·rw [if_neg c7] at H
  have c7b0 : decide (t297 < 0) = false := decide_eq_false c7
  clear c7
  replace H := Option.bind_eq_some_iff.mp H
  obtain ⟨t298, A110, H⟩ := H
  replace H : (if t298 < 0 then (some true) else ((laws_toPipe.f a0_0 a0_1 a0_2 a0_3 a0_4 a0_5).bind fun bt299 => ((laws_toStepS.f k l2).bind fun t305 => ((spec_ThroughPipe.f k bt299.1 bt299.2.1 bt299.2.2.1 bt299.2.2.2.1 bt299.2.2.2.2.1 bt299.2.2.2.2.2 a1 t305 a3 a4).bind fun bt308 => ((laws_toStepS.f k l2).bind fun t312 => ((laws_toPipe.f a0_0 a0_1 a0_2 a0_3 a0_4 a0_5).bind fun bt315 => ((impl_ThroughPipe.f k bt315.1 bt315.2.1 bt315.2.2.1 bt315.2.2.2.1 bt315.2.2.2.2.1 bt315.2.2.2.2.2 a1 t312 a3 a4).bind fun bt321 => ((laws_eqStepS.f k bt321.1 bt308.1).bind fun t325 => (if t325 = true then (laws_FnExactThroughPipe.j0 k a1 l2 a3 a4 bt308.1 bt308.2 t312 bt321.1 bt321.2 (bt321.2 != bt308.2) a0_0 a0_1 a0_2 a0_3 a0_4 a0_5) else (laws_FnExactThroughPipe.j0 k a1 l2 a3 a4 bt308.1 bt308.2 t312 bt321.1 bt321.2 true a0_0 a0_1 a0_2 a0_3 a0_4 a0_5)))))))))) = some r := H
  have A11 := Aside0.mk A110
  clear A110
  by_cases c12 : t298 < 0
  ·rw [if_pos c12] at H
   have c12b0 : decide (t298 < 0) = true := decide_eq_true c12
   clear c12
   obtain rfl := Option.some.inj H
   go_enter Try.func3, Try.ntmps3
   go_wp2_with (first | ((with_reducible refine gate_dst (N := 5) rfl ?_); refine boxZ 5 #[.string a0_0, .int .i64 a0_1, .int .i64 a0_2, .int .i64 a0_3, .int .i64 a0_4, .int .i64 a0_5] 23 rfl rfl ?_; intro gb296 hg w13 hbox hb; have n0_ := Aside0.mk (below_step bZ hb); have n1_ := Aside0.mk (hbox); have n2_ := Aside0.mk ((by rw [hg]; exact bsZ : w.heap.size ≤ gb296)); have n3_ := Aside0.mk ((by rw [hg]; exact bsZ : w.heap.size ≤ gb296)); clear HB; have HB := n0_; have BK296 := n1_; have GW296 := n2_; have GE296 := n3_; clear n0_ n1_ n2_ n3_; clear hb hbox hg; have hcz14_0 := bc0 BK296.out; have hcz14_1 := bc1 BK296.out; have hcz14_2 := bc2 BK296.out; have hcz14_3 := bc3 BK296.out; have hcz14_4 := bc4 BK296.out; have hcz14_5 := bc5 BK296.out; have hfz14_0 := blk_frozen BK296.out 0; have hfz14_1 := blk_frozen BK296.out 1; have hfz14_2 := blk_frozen BK296.out 2; have hfz14_3 := blk_frozen BK296.out 3; have hfz14_4 := blk_frozen BK296.out 4; have hfz14_5 := blk_frozen BK296.out 5) | ((with_reducible refine gate_callee (f := 4) rfl ?_); refine goesL_ (some 24) rfl rfl Try.func4 (by kernel_rfl) rfl #[.agg #[.string a0_0, .int .i64 a0_1, .int .i64 a0_2, .int .i64 a0_3, .int .i64 a0_4, .int .i64 a0_5], .int .i64 1048576] rfl gZ ?_; (with_reducible refine (laws_szPipe.calls a0_0 a0_1 a0_2 a0_3 a0_4 a0_5 1048576 t297 _ A6.out).mono ?_); rintro e w15 ⟨rfl, hb⟩; refine ⟨_, rfl, ?_⟩; have n0_ := Aside0.mk (blk_below (g := gb296) (o := .cells #[.string a0_0, .int .i64 a0_1, .int .i64 a0_2, .int .i64 a0_3, .int .i64 a0_4, .int .i64 a0_5] 23 (0, 0)) (kZ BK296.out) hb); have n1_ := Aside0.mk (below_step bZ hb); clear BK296; clear HB; have BK296 := n0_; have HB := n1_; clear n0_ n1_; (try clear hb); (try clear hb2); (try clear hk); (try clear hi)) | ((with_reducible refine gate_callee (f := 5) rfl ?_); refine goesL_ (some 29) rfl rfl Try.func5 (by kernel_rfl) rfl #[.slice A2 l2.length c2, .int .i64 t297] rfl gZ ?_; (with_reducible refine (laws_szStepS.calls _ _ l2 t297 t298 _ ?side1 ?side2 A11.out).mono ?_); (case side1 => repeat (first | exact (Kd.C_below HR2.out HB.out) | (with_reducible refine Kd.C_alloc ?_ _) | (with_reducible refine Kd.C_drewN ?_ _) | (with_reducible refine Kd.C_drew ?_))); (case side2 => exact HC2.out); rintro e w' ⟨rfl, ⟨nd, rfl⟩⟩; refine ⟨_, rfl, ?_⟩))
   go_ret
   exact ⟨eZ, bZ⟩
  ·rw [if_neg c12] at H
   have c12b0 : decide (t298 < 0) = false := decide_eq_false c12
   clear c12
   replace H := Option.bind_eq_some_iff.mp H
   obtain ⟨⟨t299, t300, t301, t302, t303, t304⟩, A160, H⟩ := H
   replace H : ((laws_toStepS.f k l2).bind fun t305 => ((spec_ThroughPipe.f k t299 t300 t301 t302 t303 t304 a1 t305 a3 a4).bind fun bt308 => ((laws_toStepS.f k l2).bind fun t312 => ((laws_toPipe.f a0_0 a0_1 a0_2 a0_3 a0_4 a0_5).bind fun bt315 => ((impl_ThroughPipe.f k bt315.1 bt315.2.1 bt315.2.2.1 bt315.2.2.2.1 bt315.2.2.2.2.1 bt315.2.2.2.2.2 a1 t312 a3 a4).bind fun bt321 => ((laws_eqStepS.f k bt321.1 bt308.1).bind fun t325 => (if t325 = true then (laws_FnExactThroughPipe.j0 k a1 l2 a3 a4 bt308.1 bt308.2 t312 bt321.1 bt321.2 (bt321.2 != bt308.2) a0_0 a0_1 a0_2 a0_3 a0_4 a0_5) else (laws_FnExactThroughPipe.j0 k a1 l2 a3 a4 bt308.1 bt308.2 t312 bt321.1 bt321.2 true a0_0 a0_1 a0_2 a0_3 a0_4 a0_5)))))))) = some r := H
   have A16 := Aside0.mk A160
   clear A160
   replace H := Option.bind_eq_some_iff.mp H
   obtain ⟨t305, A170, H⟩ := H
   replace H : ((spec_ThroughPipe.f k t299 t300 t301 t302 t303 t304 a1 t305 a3 a4).bind fun bt308 => ((laws_toStepS.f k l2).bind fun t312 => ((laws_toPipe.f a0_0 a0_1 a0_2 a0_3 a0_4 a0_5).bind fun bt315 => ((impl_ThroughPipe.f k bt315.1 bt315.2.1 bt315.2.2.1 bt315.2.2.2.1 bt315.2.2.2.2.1 bt315.2.2.2.2.2 a1 t312 a3 a4).bind fun bt321 => ((laws_eqStepS.f k bt321.1 bt308.1).bind fun t325 => (if t325 = true then (laws_FnExactThroughPipe.j0 k a1 l2 a3 a4 bt308.1 bt308.2 t312 bt321.1 bt321.2 (bt321.2 != bt308.2) a0_0 a0_1 a0_2 a0_3 a0_4 a0_5) else (laws_FnExactThroughPipe.j0 k a1 l2 a3 a4 bt308.1 bt308.2 t312 bt321.1 bt321.2 true a0_0 a0_1 a0_2 a0_3 a0_4 a0_5))))))) = some r := H
   have A17 := Aside0.mk A170
   clear A170
   replace H := Option.bind_eq_some_iff.mp H
   obtain ⟨⟨t308, t311⟩, A180, H⟩ := H
   replace H : ((laws_toStepS.f k l2).bind fun t312 => ((laws_toPipe.f a0_0 a0_1 a0_2 a0_3 a0_4 a0_5).bind fun bt315 => ((impl_ThroughPipe.f k bt315.1 bt315.2.1 bt315.2.2.1 bt315.2.2.2.1 bt315.2.2.2.2.1 bt315.2.2.2.2.2 a1 t312 a3 a4).bind fun bt321 => ((laws_eqStepS.f k bt321.1 t308).bind fun t325 => (if t325 = true then (laws_FnExactThroughPipe.j0 k a1 l2 a3 a4 t308 t311 t312 bt321.1 bt321.2 (bt321.2 != t311) a0_0 a0_1 a0_2 a0_3 a0_4 a0_5) else (laws_FnExactThroughPipe.j0 k a1 l2 a3 a4 t308 t311 t312 bt321.1 bt321.2 true a0_0 a0_1 a0_2 a0_3 a0_4 a0_5)))))) = some r := H
   have A18 := Aside0.mk A180
   clear A180
   replace H := Option.bind_eq_some_iff.mp H
   obtain ⟨t312, A190, H⟩ := H
   replace H : ((laws_toPipe.f a0_0 a0_1 a0_2 a0_3 a0_4 a0_5).bind fun bt315 => ((impl_ThroughPipe.f k bt315.1 bt315.2.1 bt315.2.2.1 bt315.2.2.2.1 bt315.2.2.2.2.1 bt315.2.2.2.2.2 a1 t312 a3 a4).bind fun bt321 => ((laws_eqStepS.f k bt321.1 t308).bind fun t325 => (if t325 = true then (laws_FnExactThroughPipe.j0 k a1 l2 a3 a4 t308 t311 t312 bt321.1 bt321.2 (bt321.2 != t311) a0_0 a0_1 a0_2 a0_3 a0_4 a0_5) else (laws_FnExactThroughPipe.j0 k a1 l2 a3 a4 t308 t311 t312 bt321.1 bt321.2 true a0_0 a0_1 a0_2 a0_3 a0_4 a0_5))))) = some r := H
   have A19 := Aside0.mk A190
   clear A190
   replace H := Option.bind_eq_some_iff.mp H
   obtain ⟨⟨t315, t316, t317, t318, t319, t320⟩, A200, H⟩ := H
   replace H : ((impl_ThroughPipe.f k t315 t316 t317 t318 t319 t320 a1 t312 a3 a4).bind fun bt321 => ((laws_eqStepS.f k bt321.1 t308).bind fun t325 => (if t325 = true then (laws_FnExactThroughPipe.j0 k a1 l2 a3 a4 t308 t311 t312 bt321.1 bt321.2 (bt321.2 != t311) a0_0 a0_1 a0_2 a0_3 a0_4 a0_5) else (laws_FnExactThroughPipe.j0 k a1 l2 a3 a4 t308 t311 t312 bt321.1 bt321.2 true a0_0 a0_1 a0_2 a0_3 a0_4 a0_5)))) = some r := H
   have A20 := Aside0.mk A200
   clear A200
   replace H := Option.bind_eq_some_iff.mp H
   obtain ⟨⟨t321, t324⟩, A210, H⟩ := H
   replace H : ((laws_eqStepS.f k t321 t308).bind fun t325 => (if t325 = true then (laws_FnExactThroughPipe.j0 k a1 l2 a3 a4 t308 t311 t312 t321 t324 (t324 != t311) a0_0 a0_1 a0_2 a0_3 a0_4 a0_5) else (laws_FnExactThroughPipe.j0 k a1 l2 a3 a4 t308 t311 t312 t321 t324 true a0_0 a0_1 a0_2 a0_3 a0_4 a0_5))) = some r := H
   have A21 := Aside0.mk A210
   clear A210
   have HC22 := Aside0.mk H
   clear H
   go_enter Try.func3, Try.ntmps3
   go_upto_region 11 with (first | ((with_reducible refine gate_dst (N := 5) rfl ?_); refine boxZ 5 #[.string a0_0, .int .i64 a0_1, .int .i64 a0_2, .int .i64 a0_3, .int .i64 a0_4, .int .i64 a0_5] 23 rfl rfl ?_; intro gb296 hg w23 hbox hb; have n0_ := Aside0.mk (below_step bZ hb); have n1_ := Aside0.mk (hbox); have n2_ := Aside0.mk ((by rw [hg]; exact bsZ : w.heap.size ≤ gb296)); have n3_ := Aside0.mk ((by rw [hg]; exact bsZ : w.heap.size ≤ gb296)); clear HB; have HB := n0_; have BK296 := n1_; have GW296 := n2_; have GE296 := n3_; clear n0_ n1_ n2_ n3_; clear hb hbox hg; have hcz24_0 := bc0 BK296.out; have hcz24_1 := bc1 BK296.out; have hcz24_2 := bc2 BK296.out; have hcz24_3 := bc3 BK296.out; have hcz24_4 := bc4 BK296.out; have hcz24_5 := bc5 BK296.out; have hfz24_0 := blk_frozen BK296.out 0; have hfz24_1 := blk_frozen BK296.out 1; have hfz24_2 := blk_frozen BK296.out 2; have hfz24_3 := blk_frozen BK296.out 3; have hfz24_4 := blk_frozen BK296.out 4; have hfz24_5 := blk_frozen BK296.out 5) | ((with_reducible refine gate_callee (f := 4) rfl ?_); refine goesL_ (some 24) rfl rfl Try.func4 (by kernel_rfl) rfl #[.agg #[.string a0_0, .int .i64 a0_1, .int .i64 a0_2, .int .i64 a0_3, .int .i64 a0_4, .int .i64 a0_5], .int .i64 1048576] rfl gZ ?_; (with_reducible refine (laws_szPipe.calls a0_0 a0_1 a0_2 a0_3 a0_4 a0_5 1048576 t297 _ A6.out).mono ?_); rintro e w25 ⟨rfl, hb⟩; refine ⟨_, rfl, ?_⟩; have n0_ := Aside0.mk (blk_below (g := gb296) (o := .cells #[.string a0_0, .int .i64 a0_1, .int .i64 a0_2, .int .i64 a0_3, .int .i64 a0_4, .int .i64 a0_5] 23 (0, 0)) (kZ BK296.out) hb); have n1_ := Aside0.mk (below_step bZ hb); clear BK296; clear HB; have BK296 := n0_; have HB := n1_; clear n0_ n1_; (try clear hb); (try clear hb2); (try clear hk); (try clear hi)) | ((with_reducible refine gate_callee (f := 5) rfl ?_); refine goesL_ (some 29) rfl rfl Try.func5 (by kernel_rfl) rfl #[.slice A2 l2.length c2, .int .i64 t297] rfl gZ ?_; (with_reducible refine (laws_szStepS.calls _ _ l2 t297 t298 _ ?side1 ?side2 A11.out).mono ?_); (case side1 => repeat (first | exact (Kd.C_below HR2.out HB.out) | (with_reducible refine Kd.C_alloc ?_ _) | (with_reducible refine Kd.C_drewN ?_ _) | (with_reducible refine Kd.C_drew ?_))); (case side2 => exact HC2.out); rintro e w' ⟨rfl, ⟨nd, rfl⟩⟩; refine ⟨_, rfl, ?_⟩; have hcz26_0 := bc0 BK296.out; have hcz26_1 := bc1 BK296.out; have hcz26_2 := bc2 BK296.out; have hcz26_3 := bc3 BK296.out; have hcz26_4 := bc4 BK296.out; have hcz26_5 := bc5 BK296.out; have hfz26_0 := blk_frozen BK296.out 0; have hfz26_1 := blk_frozen BK296.out 1; have hfz26_2 := blk_frozen BK296.out 2; have hfz26_3 := blk_frozen BK296.out 3; have hfz26_4 := blk_frozen BK296.out 4; have hfz26_5 := blk_frozen BK296.out 5) | ((with_reducible refine gate_callee (f := 7) rfl ?_); refine goesL_ (some 34) rfl rfl Try.func7 (by kernel_rfl) rfl #[.agg #[.string a0_0, .int .i64 a0_1, .int .i64 a0_2, .int .i64 a0_3, .int .i64 a0_4, .int .i64 a0_5]] rfl gZ ?_; (with_reducible refine (laws_toPipe.calls a0_0 a0_1 a0_2 a0_3 a0_4 a0_5 t299 t300 t301 t302 t303 t304 _ A16.out).mono ?_); rintro e w27 ⟨rfl, hb⟩; refine ⟨_, rfl, ?_⟩; have n0_ := Aside0.mk (blk_below (g := gb296) (o := .cells #[.string a0_0, .int .i64 a0_1, .int .i64 a0_2, .int .i64 a0_3, .int .i64 a0_4, .int .i64 a0_5] 23 (0, 0)) (kZ BK296.out) hb); have n1_ := Aside0.mk (below_step bZ hb); clear BK296; clear HB; have BK296 := n0_; have HB := n1_; clear n0_ n1_; (try clear hb); (try clear hb2); (try clear hk); (try clear hi)) | ((with_reducible refine gate_callee (f := 8) rfl ?_); refine goesL_ (some 37) rfl rfl Try.func8 (by kernel_rfl) rfl #[.slice A2 l2.length c2] rfl gZ ?_; (with_reducible refine (laws_toStepS.calls k _ _ l2 t305 _ ?side1 ?side2 A17.out).mono ?_); (case side1 => repeat (first | exact (Kd.C_below HR2.out HB.out) | (with_reducible refine Kd.C_alloc ?_ _) | (with_reducible refine Kd.C_drewN ?_ _) | (with_reducible refine Kd.C_drew ?_))); (case side2 => exact HC2.out); rintro e w28 ⟨v306, rfl, ho0, hb⟩; refine ⟨_, rfl, ?_⟩; have n0_ := Aside0.mk (Kd.R_lower ho0 bsZ); have n1_ := Aside0.mk (blk_below (g := gb296) (o := .cells #[.string a0_0, .int .i64 a0_1, .int .i64 a0_2, .int .i64 a0_3, .int .i64 a0_4, .int .i64 a0_5] 23 (0, 0)) (kZ BK296.out) hb); have n2_ := Aside0.mk (below_step bZ hb); clear BK296; clear HB; have HO307 := n0_; have BK296 := n1_; have HB := n2_; clear n0_ n1_ n2_; (try clear hb); (try clear hb2); (try clear hk); (try clear hi); (try clear ho0); obtain ⟨Ao29, co29, eo29⟩ := Kd.R_slice HO307.out; subst eo29) | ((with_reducible refine gate_callee (f := 6) rfl ?_); refine goesL_ (some 40) rfl rfl Try.func6 (by kernel_rfl) rfl #[.agg #[.string t299, .int .i64 t300, .int .i64 t301, .int .i64 t302, .int .i64 t303, .int .i64 t304], .int .i64 a1, .slice Ao29 t305.length co29, .int .i64 a3, .int .i64 a4] rfl gZ ?_; (with_reducible refine (spec_ThroughPipe.calls k t299 t300 t301 t302 t303 t304 a1 _ _ t305 a3 a4 t308 t311 _ ?side1 ?side2 A18.out).mono ?_); (case side1 => exact Kd.cZ HO307.out); (case side2 => exact (Kd.R_reads' HO307.out).2.1); rintro e w30 ⟨v309, rfl, ho0, hb⟩; refine ⟨_, rfl, ?_⟩; have n0_ := Aside0.mk (Kd.R_elder' (Kd.rZ HO307.out) (Kd.R_base ho0) hb); have n1_ := Aside0.mk (Kd.R_lower (Kd.R_new' ho0 (Kd.R_lt (Kd.rZ HO307.out))) bsZ); have n2_ := Aside0.mk (blk_below (g := gb296) (o := .cells #[.string a0_0, .int .i64 a0_1, .int .i64 a0_2, .int .i64 a0_3, .int .i64 a0_4, .int .i64 a0_5] 23 (0, 0)) (kZ BK296.out) hb); have n3_ := Aside0.mk (below_step bZ hb); clear HO307; clear BK296; clear HB; have HO307 := n0_; have HO310 := n1_; have BK296 := n2_; have HB := n3_; clear n0_ n1_ n2_ n3_; (try clear hb); (try clear hb2); (try clear hk); (try clear hi); (try clear ho0)) | ((with_reducible refine gate_callee (f := 8) rfl ?_); refine goesL_ (some 44) rfl rfl Try.func8 (by kernel_rfl) rfl #[.slice A2 l2.length c2] rfl gZ ?_; (with_reducible refine (laws_toStepS.calls k _ _ l2 t312 _ ?side1 ?side2 A19.out).mono ?_); (case side1 => repeat (first | exact (Kd.C_below HR2.out HB.out) | (with_reducible refine Kd.C_alloc ?_ _) | (with_reducible refine Kd.C_drewN ?_ _) | (with_reducible refine Kd.C_drew ?_))); (case side2 => exact HC2.out); rintro e w31 ⟨v313, rfl, ho0, hb⟩; refine ⟨_, rfl, ?_⟩; have n0_ := Aside0.mk (Kd.R_elder' (Kd.rZ HO307.out) (Kd.R_base ho0) hb); have n1_ := Aside0.mk (Kd.R_elder' (Kd.rZ HO310.out) (Kd.R_base ho0) hb); have n2_ := Aside0.mk (Kd.R_lower (Kd.R_new' (Kd.R_new' ho0 (Kd.R_lt (Kd.rZ HO307.out))) (Kd.R_lt (Kd.rZ HO310.out))) bsZ); have n3_ := Aside0.mk (blk_below (g := gb296) (o := .cells #[.string a0_0, .int .i64 a0_1, .int .i64 a0_2, .int .i64 a0_3, .int .i64 a0_4, .int .i64 a0_5] 23 (0, 0)) (kZ BK296.out) hb); have n4_ := Aside0.mk (below_step bZ hb); clear HO307; clear HO310; clear BK296; clear HB; have HO307 := n0_; have HO310 := n1_; have HO314 := n2_; have BK296 := n3_; have HB := n4_; clear n0_ n1_ n2_ n3_ n4_; (try clear hb); (try clear hb2); (try clear hk); (try clear hi); (try clear ho0); have hcz32_0 := bc0 BK296.out; have hcz32_1 := bc1 BK296.out; have hcz32_2 := bc2 BK296.out; have hcz32_3 := bc3 BK296.out; have hcz32_4 := bc4 BK296.out; have hcz32_5 := bc5 BK296.out; have hfz32_0 := blk_frozen BK296.out 0; have hfz32_1 := blk_frozen BK296.out 1; have hfz32_2 := blk_frozen BK296.out 2; have hfz32_3 := blk_frozen BK296.out 3; have hfz32_4 := blk_frozen BK296.out 4; have hfz32_5 := blk_frozen BK296.out 5) | ((with_reducible refine gate_callee (f := 7) rfl ?_); refine goesL_ (some 47) rfl rfl Try.func7 (by kernel_rfl) rfl #[.agg #[.string a0_0, .int .i64 a0_1, .int .i64 a0_2, .int .i64 a0_3, .int .i64 a0_4, .int .i64 a0_5]] rfl gZ ?_; (with_reducible refine (laws_toPipe.calls a0_0 a0_1 a0_2 a0_3 a0_4 a0_5 t315 t316 t317 t318 t319 t320 _ A20.out).mono ?_); rintro e w33 ⟨rfl, hb⟩; refine ⟨_, rfl, ?_⟩; have n0_ := Aside0.mk (Kd.R_below (Kd.rZ HO307.out) hb); have n1_ := Aside0.mk (Kd.R_below (Kd.rZ HO310.out) hb); have n2_ := Aside0.mk (Kd.R_below (Kd.rZ HO314.out) hb); have n3_ := Aside0.mk (blk_below (g := gb296) (o := .cells #[.string a0_0, .int .i64 a0_1, .int .i64 a0_2, .int .i64 a0_3, .int .i64 a0_4, .int .i64 a0_5] 23 (0, 0)) (kZ BK296.out) hb); have n4_ := Aside0.mk (below_step bZ hb); clear HO307; clear HO310; clear HO314; clear BK296; clear HB; have HO307 := n0_; have HO310 := n1_; have HO314 := n2_; have BK296 := n3_; have HB := n4_; clear n0_ n1_ n2_ n3_ n4_; (try clear hb); (try clear hb2); (try clear hk); (try clear hi); obtain ⟨Ao34, co34, eo34⟩ := Kd.R_slice HO314.out; subst eo34) | ((with_reducible refine gate_callee (f := 9) rfl ?_); refine goesL_ (some 52) rfl rfl Try.func9 (by kernel_rfl) rfl #[.agg #[.string t315, .int .i64 t316, .int .i64 t317, .int .i64 t318, .int .i64 t319, .int .i64 t320], .int .i64 a1, .slice Ao34 t312.length co34, .int .i64 a3, .int .i64 a4] rfl gZ ?_; (with_reducible refine (impl_ThroughPipe.calls k t315 t316 t317 t318 t319 t320 a1 _ _ t312 a3 a4 t321 t324 _ ?side1 ?side2 A21.out).mono ?_); (case side1 => exact Kd.cZ HO314.out); (case side2 => exact (Kd.R_reads' HO314.out).2.1); rintro e w35 ⟨v322, rfl, ho0, hb⟩; refine ⟨_, rfl, ?_⟩; have n0_ := Aside0.mk (Kd.R_elder' (Kd.rZ HO307.out) (Kd.R_base ho0) hb); have n1_ := Aside0.mk (Kd.R_elder' (Kd.rZ HO310.out) (Kd.R_base ho0) hb); have n2_ := Aside0.mk (Kd.R_elder' (Kd.rZ HO314.out) (Kd.R_base ho0) hb); have n3_ := Aside0.mk (Kd.R_lower (Kd.R_new' (Kd.R_new' (Kd.R_new' ho0 (Kd.R_lt (Kd.rZ HO307.out))) (Kd.R_lt (Kd.rZ HO310.out))) (Kd.R_lt (Kd.rZ HO314.out))) bsZ); have n4_ := Aside0.mk (blk_below (g := gb296) (o := .cells #[.string a0_0, .int .i64 a0_1, .int .i64 a0_2, .int .i64 a0_3, .int .i64 a0_4, .int .i64 a0_5] 23 (0, 0)) (kZ BK296.out) hb); have n5_ := Aside0.mk (below_step bZ hb); clear HO307; clear HO310; clear HO314; clear BK296; clear HB; have HO307 := n0_; have HO310 := n1_; have HO314 := n2_; have HO323 := n3_; have BK296 := n4_; have HB := n5_; clear n0_ n1_ n2_ n3_ n4_ n5_; (try clear hb); (try clear hb2); (try clear hk); (try clear hi); (try clear ho0)))
   (try simp only [Act.put, List.setIfInBounds_toArray, List.set_cons_zero, List.set_cons_succ])
   go_cut [63] (fun v63 wc => ∃ (kq : Nat) (x63_21 : Bool), v63 = .bool x63_21 ∧ Aside0 (laws_FnExactThroughPipe.j0 kq a1 l2 a3 a4 t308 t311 t312 t321 t324 x63_21 a0_0 a0_1 a0_2 a0_3 a0_4 a0_5 = some r) ∧ Aside0 (kq ≤ k) ∧ Aside0 (Kd.R k43 43 wc w.heap.size (fun k_ => some k_ ≠ ((.slice Ao34 t312.length co34) : Value).ownBlock ∧ some k_ ≠ (v322 : Value).ownBlock) v309 t308) ∧ Aside0 (Kd.R k43 43 wc w.heap.size (fun k_ => some k_ ≠ (v309 : Value).ownBlock ∧ some k_ ≠ (v322 : Value).ownBlock) (.slice Ao34 t312.length co34) t312) ∧ Aside0 (Kd.R k43 43 wc w.heap.size (fun k_ => some k_ ≠ (v309 : Value).ownBlock ∧ some k_ ≠ ((.slice Ao34 t312.length co34) : Value).ownBlock) v322 t321) ∧ Aside0 (wc.heap[gb296]? = some (.cells #[.string a0_0, .int .i64 a0_1, .int .i64 a0_2, .int .i64 a0_3, .int .i64 a0_4, .int .i64 a0_5] 23 (0, 0))) ∧ Aside0 (Below w.heap.size w wc))
   case first =>
    have H := HC22.out
    clear HC22
    replace H := Option.bind_eq_some_iff.mp H
    obtain ⟨t325, A360, H⟩ := H
    replace H : (if t325 = true then (laws_FnExactThroughPipe.j0 k a1 l2 a3 a4 t308 t311 t312 t321 t324 (t324 != t311) a0_0 a0_1 a0_2 a0_3 a0_4 a0_5) else (laws_FnExactThroughPipe.j0 k a1 l2 a3 a4 t308 t311 t312 t321 t324 true a0_0 a0_1 a0_2 a0_3 a0_4 a0_5)) = some r := H
    have A36 := Aside0.mk A360
    clear A360
    by_cases c37 : t325 = true
    ·subst c37
     have H1 : (laws_FnExactThroughPipe.j0 k a1 l2 a3 a4 t308 t311 t312 t321 t324 (t324 != t311) a0_0 a0_1 a0_2 a0_3 a0_4 a0_5) = some r := by rw [if_pos rfl] at H; exact H
     clear H
     have H := H1
     clear H1
     have H' := Aside0.mk H
     clear H
     obtain ⟨Ao38, co38, eo38⟩ := Kd.R_slice HO323.out
     subst eo38
     obtain ⟨Ao39, co39, eo39⟩ := Kd.R_slice HO310.out
     subst eo39
     go_wp2_with (first | ((with_reducible refine gate_callee (f := 10) rfl ?_); refine goesL_ (some 57) rfl rfl Try.func10 (by kernel_rfl) rfl #[.slice Ao38 t321.length co38, .slice Ao39 t308.length co39] rfl gZ ?_; (with_reducible refine (laws_eqStepS.calls k _ _ t321 _ _ t308 true _ ?side1 ?side2 ?side3 ?side4 A36.out).mono ?_); (case side1 => exact Kd.cZ HO323.out); (case side2 => exact (Kd.R_reads' HO323.out).2.1); (case side3 => exact Kd.cZ HO310.out); (case side4 => exact (Kd.R_reads' HO310.out).2.1); rintro e w40 ⟨rfl, hb⟩; refine ⟨_, rfl, ?_⟩; have n0_ := Aside0.mk (Kd.R_below (Kd.rZ HO307.out) hb); have n1_ := Aside0.mk (Kd.R_below (Kd.rZ HO310.out) hb); have n2_ := Aside0.mk (Kd.R_below (Kd.rZ HO314.out) hb); have n3_ := Aside0.mk (Kd.R_below (Kd.rZ HO323.out) hb); have n4_ := Aside0.mk (blk_below (g := gb296) (o := .cells #[.string a0_0, .int .i64 a0_1, .int .i64 a0_2, .int .i64 a0_3, .int .i64 a0_4, .int .i64 a0_5] 23 (0, 0)) (kZ BK296.out) hb); have n5_ := Aside0.mk (below_step bZ hb); clear HO307; clear HO310; clear HO314; clear HO323; clear BK296; clear HB; have HO307 := n0_; have HO310 := n1_; have HO314 := n2_; have HO323 := n3_; have BK296 := n4_; have HB := n5_; clear n0_ n1_ n2_ n3_ n4_ n5_; (try clear hb); (try clear hb2); (try clear hk); (try clear hi)))
     go_meet
     case rel => exact ⟨_, ((t324 != t311)), sZ, H', ⟨by first | omega | exact Nat.le_refl _⟩, ⟨Kd.rZ (Kd.R_mono HO310.out (fun _ hk => ⟨hk.1.2, hk.2⟩))⟩, ⟨Kd.rZ (Kd.R_mono HO314.out (fun _ hk => ⟨hk.1.2, hk.2⟩))⟩, ⟨Kd.rZ (Kd.R_mono HO323.out (fun _ hk => ⟨hk.1.2, hk.2⟩))⟩, ⟨kZ BK296.out⟩, ⟨bZ⟩⟩
    ·replace c37 := Bool.eq_false_iff.mpr c37
     subst c37
     have H1 : (laws_FnExactThroughPipe.j0 k a1 l2 a3 a4 t308 t311 t312 t321 t324 true a0_0 a0_1 a0_2 a0_3 a0_4 a0_5) = some r := by rw [if_neg (show ¬ (false = true) by decide)] at H; exact H
     clear H
     have H := H1
     clear H1
     have H' := Aside0.mk H
     clear H
     obtain ⟨Ao41, co41, eo41⟩ := Kd.R_slice HO323.out
     subst eo41
     obtain ⟨Ao42, co42, eo42⟩ := Kd.R_slice HO310.out
     subst eo42
     go_wp2_with (first | ((with_reducible refine gate_callee (f := 10) rfl ?_); refine goesL_ (some 57) rfl rfl Try.func10 (by kernel_rfl) rfl #[.slice Ao41 t321.length co41, .slice Ao42 t308.length co42] rfl gZ ?_; (with_reducible refine (laws_eqStepS.calls k _ _ t321 _ _ t308 false _ ?side1 ?side2 ?side3 ?side4 A36.out).mono ?_); (case side1 => exact Kd.cZ HO323.out); (case side2 => exact (Kd.R_reads' HO323.out).2.1); (case side3 => exact Kd.cZ HO310.out); (case side4 => exact (Kd.R_reads' HO310.out).2.1); rintro e w43 ⟨rfl, hb⟩; refine ⟨_, rfl, ?_⟩; have n0_ := Aside0.mk (Kd.R_below (Kd.rZ HO307.out) hb); have n1_ := Aside0.mk (Kd.R_below (Kd.rZ HO310.out) hb); have n2_ := Aside0.mk (Kd.R_below (Kd.rZ HO314.out) hb); have n3_ := Aside0.mk (Kd.R_below (Kd.rZ HO323.out) hb); have n4_ := Aside0.mk (blk_below (g := gb296) (o := .cells #[.string a0_0, .int .i64 a0_1, .int .i64 a0_2, .int .i64 a0_3, .int .i64 a0_4, .int .i64 a0_5] 23 (0, 0)) (kZ BK296.out) hb); have n5_ := Aside0.mk (below_step bZ hb); clear HO307; clear HO310; clear HO314; clear HO323; clear BK296; clear HB; have HO307 := n0_; have HO310 := n1_; have HO314 := n2_; have HO323 := n3_; have BK296 := n4_; have HB := n5_; clear n0_ n1_ n2_ n3_ n4_ n5_; (try clear hb); (try clear hb2); (try clear hk); (try clear hi)))
     go_meet
     case rel => exact ⟨_, (true), sZ, H', ⟨by first | omega | exact Nat.le_refl _⟩, ⟨Kd.rZ (Kd.R_mono HO310.out (fun _ hk => ⟨hk.1.2, hk.2⟩))⟩, ⟨Kd.rZ (Kd.R_mono HO314.out (fun _ hk => ⟨hk.1.2, hk.2⟩))⟩, ⟨Kd.rZ (Kd.R_mono HO323.out (fun _ hk => ⟨hk.1.2, hk.2⟩))⟩, ⟨kZ BK296.out⟩, ⟨bZ⟩⟩
   case rest =>
    clear HC22; (try clear c1); (try clear c2); (try clear p2); (try clear c3); (try clear c4); (try clear c5); (try clear c6); (try clear c7); (try clear c7b0); (try clear c8); (try clear c9); (try clear c10); (try clear c12); (try clear c12b0); (try clear c37); (try clear hcz14_0); (try clear hcz14_1); (try clear hcz14_2); (try clear hcz14_3); (try clear hcz14_4); (try clear hcz14_5); (try clear hcz24_0); (try clear hcz24_1); (try clear hcz24_2); (try clear hcz24_3); (try clear hcz24_4); (try clear hcz24_5); (try clear hcz26_0); (try clear hcz26_1); (try clear hcz26_2); (try clear hcz26_3); (try clear hcz26_4); (try clear hcz26_5); (try clear hcz32_0); (try clear hcz32_1); (try clear hcz32_2); (try clear hcz32_3); (try clear hcz32_4); (try clear hcz32_5); (try clear hcz9_0); (try clear hcz9_1); (try clear hcz9_2); (try clear hcz9_3); (try clear hcz9_4); (try clear hcz9_5); (try clear hfz14_0); (try clear hfz14_1); (try clear hfz14_2); (try clear hfz14_3); (try clear hfz14_4); (try clear hfz14_5); (try clear hfz24_0); (try clear hfz24_1); (try clear hfz24_2); (try clear hfz24_3); (try clear hfz24_4); (try clear hfz24_5); (try clear hfz26_0); (try clear hfz26_1); (try clear hfz26_2); (try clear hfz26_3); (try clear hfz26_4); (try clear hfz26_5); (try clear hfz32_0); (try clear hfz32_1); (try clear hfz32_2); (try clear hfz32_3); (try clear hfz32_4); (try clear hfz32_5); (try clear hfz9_0); (try clear hfz9_1); (try clear hfz9_2); (try clear hfz9_3); (try clear hfz9_4); (try clear hfz9_5)
    obtain ⟨kq, x63_21, rfl, HA, HJ21, HO_12, HO_14, HO_15, BK296, HB⟩ := hcut
    cases kq with
    | zero => exact absurd HA.out (by simp [laws_FnExactThroughPipe.j0])
    | succ kj21 =>
     have H := HA.out
     clear HA
     simp only [laws_FnExactThroughPipe.j0] at H
     by_cases c44 : x63_21 = true
     ·subst c44
      have H1 : (some false) = some r := by rw [if_pos rfl] at H; exact H
      clear H
      have H := H1
      clear H1
      obtain rfl := Option.some.inj H
      go_wp2
      go_ret
      exact ⟨eZ, bZ⟩
     ·replace c44 := Bool.eq_false_iff.mpr c44
      subst c44
      have H1 : ((laws_toStepS.f kj21 l2).bind fun t326 => ((laws_eqStepS.f kj21 t312 t326).bind fun t329 => (if t329 = true then ((laws_markStepS.f kj21 t312 1).bind fun bt330 => (if bt330.1 < 0 then (laws_FnExactThroughPipe.j1 kj21 a1 l2 a3 a4 t308 t311 t321 true a0_0 a0_1 a0_2 a0_3 a0_4 a0_5) else ((laws_eqStepS.f kj21 t321 t308).bind fun t332 => (if t332 = true then (laws_FnExactThroughPipe.j1 kj21 a1 l2 a3 a4 t308 t311 t321 (t324 != t311) a0_0 a0_1 a0_2 a0_3 a0_4 a0_5) else (laws_FnExactThroughPipe.j1 kj21 a1 l2 a3 a4 t308 t311 t321 true a0_0 a0_1 a0_2 a0_3 a0_4 a0_5))))) else (some false)))) = some r := by rw [if_neg (show ¬ (false = true) by decide)] at H; exact H
      clear H
      have H := H1
      clear H1
      replace H := Option.bind_eq_some_iff.mp H
      obtain ⟨t326, A450, H⟩ := H
      replace H : ((laws_eqStepS.f kj21 t312 t326).bind fun t329 => (if t329 = true then ((laws_markStepS.f kj21 t312 1).bind fun bt330 => (if bt330.1 < 0 then (laws_FnExactThroughPipe.j1 kj21 a1 l2 a3 a4 t308 t311 t321 true a0_0 a0_1 a0_2 a0_3 a0_4 a0_5) else ((laws_eqStepS.f kj21 t321 t308).bind fun t332 => (if t332 = true then (laws_FnExactThroughPipe.j1 kj21 a1 l2 a3 a4 t308 t311 t321 (t324 != t311) a0_0 a0_1 a0_2 a0_3 a0_4 a0_5) else (laws_FnExactThroughPipe.j1 kj21 a1 l2 a3 a4 t308 t311 t321 true a0_0 a0_1 a0_2 a0_3 a0_4 a0_5))))) else (some false))) = some r := H
      have A45 := Aside0.mk A450
      clear A450
      replace H := Option.bind_eq_some_iff.mp H
      obtain ⟨t329, A460, H⟩ := H
      replace H : (if t329 = true then ((laws_markStepS.f kj21 t312 1).bind fun bt330 => (if bt330.1 < 0 then (laws_FnExactThroughPipe.j1 kj21 a1 l2 a3 a4 t308 t311 t321 true a0_0 a0_1 a0_2 a0_3 a0_4 a0_5) else ((laws_eqStepS.f kj21 t321 t308).bind fun t332 => (if t332 = true then (laws_FnExactThroughPipe.j1 kj21 a1 l2 a3 a4 t308 t311 t321 (t324 != t311) a0_0 a0_1 a0_2 a0_3 a0_4 a0_5) else (laws_FnExactThroughPipe.j1 kj21 a1 l2 a3 a4 t308 t311 t321 true a0_0 a0_1 a0_2 a0_3 a0_4 a0_5))))) else (some false)) = some r := H
      have A46 := Aside0.mk A460
      clear A460
      by_cases c47 : t329 = true
      ·subst c47
       have H1 : ((laws_markStepS.f kj21 t312 1).bind fun bt330 => (if bt330.1 < 0 then (laws_FnExactThroughPipe.j1 kj21 a1 l2 a3 a4 t308 t311 t321 true a0_0 a0_1 a0_2 a0_3 a0_4 a0_5) else ((laws_eqStepS.f kj21 t321 t308).bind fun t332 => (if t332 = true then (laws_FnExactThroughPipe.j1 kj21 a1 l2 a3 a4 t308 t311 t321 (t324 != t311) a0_0 a0_1 a0_2 a0_3 a0_4 a0_5) else (laws_FnExactThroughPipe.j1 kj21 a1 l2 a3 a4 t308 t311 t321 true a0_0 a0_1 a0_2 a0_3 a0_4 a0_5))))) = some r := by rw [if_pos rfl] at H; exact H
       clear H
       have H := H1
       clear H1
       replace H := Option.bind_eq_some_iff.mp H
       obtain ⟨⟨t330, t331⟩, A480, H⟩ := H
       replace H : (if t330 < 0 then (laws_FnExactThroughPipe.j1 kj21 a1 l2 a3 a4 t308 t311 t321 true a0_0 a0_1 a0_2 a0_3 a0_4 a0_5) else ((laws_eqStepS.f kj21 t321 t308).bind fun t332 => (if t332 = true then (laws_FnExactThroughPipe.j1 kj21 a1 l2 a3 a4 t308 t311 t321 (t324 != t311) a0_0 a0_1 a0_2 a0_3 a0_4 a0_5) else (laws_FnExactThroughPipe.j1 kj21 a1 l2 a3 a4 t308 t311 t321 true a0_0 a0_1 a0_2 a0_3 a0_4 a0_5)))) = some r := H
       have A48 := Aside0.mk A480
       clear A480
       have HC49 := Aside0.mk H
       clear H
       go_upto_region 17 with (first | ((with_reducible refine gate_callee (f := 8) rfl ?_); refine goesL_ (some 66) rfl rfl Try.func8 (by kernel_rfl) rfl #[.slice A2 l2.length c2] rfl gZ ?_; (with_reducible refine (laws_toStepS.calls kj21 _ _ l2 t326 _ ?side1 ?side2 A45.out).mono ?_); (case side1 => repeat (first | exact (Kd.C_below HR2.out HB.out) | (with_reducible refine Kd.C_alloc ?_ _) | (with_reducible refine Kd.C_drewN ?_ _) | (with_reducible refine Kd.C_drew ?_))); (case side2 => exact HC2.out); rintro e w50 ⟨v327, rfl, ho0, hb⟩; refine ⟨_, rfl, ?_⟩; have n0_ := Aside0.mk (Kd.R_elder' (Kd.rZ HO_12.out) (Kd.R_base ho0) hb); have n1_ := Aside0.mk (Kd.R_elder' (Kd.rZ HO_14.out) (Kd.R_base ho0) hb); have n2_ := Aside0.mk (Kd.R_elder' (Kd.rZ HO_15.out) (Kd.R_base ho0) hb); have n3_ := Aside0.mk (Kd.R_lower (Kd.R_new' (Kd.R_new' (Kd.R_new' ho0 (Kd.R_lt (Kd.rZ HO_12.out))) (Kd.R_lt (Kd.rZ HO_14.out))) (Kd.R_lt (Kd.rZ HO_15.out))) bsZ); have n4_ := Aside0.mk (blk_below (g := gb296) (o := .cells #[.string a0_0, .int .i64 a0_1, .int .i64 a0_2, .int .i64 a0_3, .int .i64 a0_4, .int .i64 a0_5] 23 (0, 0)) (kZ BK296.out) hb); have n5_ := Aside0.mk (below_step bZ hb); clear HO_12; clear HO_14; clear HO_15; clear BK296; clear HB; have HO_12 := n0_; have HO_14 := n1_; have HO_15 := n2_; have HO328 := n3_; have BK296 := n4_; have HB := n5_; clear n0_ n1_ n2_ n3_ n4_ n5_; (try clear hb); (try clear hb2); (try clear hk); (try clear hi); (try clear ho0); obtain ⟨Ao51, co51, eo51⟩ := Kd.R_slice HO328.out; subst eo51) | ((with_reducible refine gate_callee (f := 10) rfl ?_); refine goesL_ (some 67) rfl rfl Try.func10 (by kernel_rfl) rfl #[.slice Ao34 t312.length co34, .slice Ao51 t326.length co51] rfl gZ ?_; (with_reducible refine (laws_eqStepS.calls kj21 _ _ t312 _ _ t326 true _ ?side1 ?side2 ?side3 ?side4 A46.out).mono ?_); (case side1 => exact Kd.cZ HO_14.out); (case side2 => exact (Kd.R_reads' HO_14.out).2.1); (case side3 => exact Kd.cZ HO328.out); (case side4 => exact (Kd.R_reads' HO328.out).2.1); rintro e w52 ⟨rfl, hb⟩; refine ⟨_, rfl, ?_⟩; have n0_ := Aside0.mk (Kd.R_below (Kd.rZ HO_12.out) hb); have n1_ := Aside0.mk (Kd.R_below (Kd.rZ HO_14.out) hb); have n2_ := Aside0.mk (Kd.R_below (Kd.rZ HO_15.out) hb); have n3_ := Aside0.mk (Kd.R_below (Kd.rZ HO328.out) hb); have n4_ := Aside0.mk (blk_below (g := gb296) (o := .cells #[.string a0_0, .int .i64 a0_1, .int .i64 a0_2, .int .i64 a0_3, .int .i64 a0_4, .int .i64 a0_5] 23 (0, 0)) (kZ BK296.out) hb); have n5_ := Aside0.mk (below_step bZ hb); clear HO_12; clear HO_14; clear HO_15; clear HO328; clear BK296; clear HB; have HO_12 := n0_; have HO_14 := n1_; have HO_15 := n2_; have HO328 := n3_; have BK296 := n4_; have HB := n5_; clear n0_ n1_ n2_ n3_ n4_ n5_; (try clear hb); (try clear hb2); (try clear hk); (try clear hi)) | ((with_reducible refine gate_callee (f := 11) rfl ?_); refine goesL_ (some 71) rfl rfl Try.func11 (by kernel_rfl) rfl #[.slice Ao34 t312.length co34, .int .i64 1] rfl gZ ?_; (with_reducible refine (laws_markStepS.calls kj21 (fun k_ => some k_ = (.slice Ao34 t312.length co34 : Value).ownBlock) (.slice Ao34 t312.length co34) t312 1 t330 t331 w _ ?side1 ?side2 A48.out).mono ?_); (case side1 => repeat (first | (with_reducible first | exact HB.out | apply below_alloc | apply pw_below_drewN | apply below_drew1 | refine below_set ?_ GE296.out) | exact HB.out)); (case side2 => exact Kd.R_tight rfl HO_14.out); rintro e w53 ⟨rfl, hy0, hb, hkp⟩; refine ⟨_, rfl, ?_⟩; have n0_ := Aside0.mk (Kd.R_mono (ok' := fun k_ => some k_ ≠ (.slice Ao34 t312.length co34 : Value).ownBlock ∧ some k_ ≠ (v322 : Value).ownBlock ∧ some k_ ≠ (.slice Ao51 t326.length co51 : Value).ownBlock) (Kd.R_keptB (HO_12.out) hkp (fun k_ hk_ hs_ => (hk_.1.1) hs_)) (fun k_ hk_ => ⟨hk_.1.1.1, hk_.1.1.2, hk_.1.2⟩)); have n1_ := Aside0.mk (Kd.R_reok rfl hy0 (fun k_ e_ => HO_14.out.1 k_ e_)); have n2_ := Aside0.mk (Kd.R_mono (ok' := fun k_ => some k_ ≠ (v309 : Value).ownBlock ∧ some k_ ≠ (.slice Ao34 t312.length co34 : Value).ownBlock ∧ some k_ ≠ (.slice Ao51 t326.length co51 : Value).ownBlock) (Kd.R_keptB (HO_15.out) hkp (fun k_ hk_ hs_ => (hk_.1.2) hs_)) (fun k_ hk_ => ⟨hk_.1.1.1, hk_.1.1.2, hk_.1.2⟩)); have n3_ := Aside0.mk (blk_kept (kZ BK296.out) hkp (fun hs_ => (fun e_ => (Kd.R_ne HO_14.out BK296.out (by decide)) e_) hs_)); have n4_ := Aside0.mk (Kd.R_mono (ok' := fun k_ => some k_ ≠ (v309 : Value).ownBlock ∧ some k_ ≠ (.slice Ao34 t312.length co34 : Value).ownBlock ∧ some k_ ≠ (v322 : Value).ownBlock) (Kd.R_keptB (HO328.out) hkp (fun k_ hk_ hs_ => (hk_.1.2) hs_)) (fun k_ hk_ => ⟨hk_.1.1.1.2, hk_.1.1.2, hk_.1.2⟩)); have n5_ := Aside0.mk (hb); clear HO_12; clear HO_14; clear HO_15; clear BK296; clear HO328; clear HB; have HO_12 := n0_; have HO_14 := n1_; have HO_15 := n2_; have BK296 := n3_; have HO328 := n4_; have HB := n5_; clear n0_ n1_ n2_ n3_ n4_ n5_; (try clear hb); (try clear hkp); (try clear hy0)))
       (try simp only [Act.put, List.setIfInBounds_toArray, List.set_cons_zero, List.set_cons_succ])
       go_cut [84] (fun v84 wc => ∃ (kq : Nat) (x84_48 : Bool), v84 = .bool x84_48 ∧ Aside0 (laws_FnExactThroughPipe.j1 kq a1 l2 a3 a4 t308 t311 t321 x84_48 a0_0 a0_1 a0_2 a0_3 a0_4 a0_5 = some r) ∧ Aside0 (kq ≤ kj21) ∧ Aside0 (Kd.R k43 43 wc w.heap.size (fun k_ => some k_ ≠ (v322 : Value).ownBlock) v309 t308) ∧ Aside0 (Kd.R k43 43 wc w.heap.size (fun k_ => some k_ ≠ (v309 : Value).ownBlock) v322 t321) ∧ Aside0 (wc.heap[gb296]? = some (.cells #[.string a0_0, .int .i64 a0_1, .int .i64 a0_2, .int .i64 a0_3, .int .i64 a0_4, .int .i64 a0_5] 23 (0, 0))) ∧ Aside0 (Below w.heap.size w wc))
       case first =>
        have H := HC49.out
        clear HC49
        by_cases c54 : t330 < 0
        ·rw [if_pos c54] at H
         have c54b0 : decide (t330 < 0) = true := decide_eq_true c54
         clear c54
         (first | rw [c54b0] | (simp only [i64_w, i32_w]; rw [c54b0]) | skip)
         have H' := Aside0.mk H
         clear H
         go_wp2
         go_meet
         case rel => exact ⟨_, (true), sZ, H', ⟨by have := HJ21.out; first | omega | exact Nat.le_refl _⟩, ⟨Kd.rZ (Kd.R_mono HO_12.out (fun _ hk => hk.2.1))⟩, ⟨Kd.rZ (Kd.R_mono HO_15.out (fun _ hk => hk.1))⟩, ⟨kZ BK296.out⟩, ⟨bZ⟩⟩
        ·rw [if_neg c54] at H
         have c54b0 : decide (t330 < 0) = false := decide_eq_false c54
         clear c54
         (first | rw [c54b0] | (simp only [i64_w, i32_w]; rw [c54b0]) | skip)
         replace H := Option.bind_eq_some_iff.mp H
         obtain ⟨t332, A550, H⟩ := H
         replace H : (if t332 = true then (laws_FnExactThroughPipe.j1 kj21 a1 l2 a3 a4 t308 t311 t321 (t324 != t311) a0_0 a0_1 a0_2 a0_3 a0_4 a0_5) else (laws_FnExactThroughPipe.j1 kj21 a1 l2 a3 a4 t308 t311 t321 true a0_0 a0_1 a0_2 a0_3 a0_4 a0_5)) = some r := H
         have A55 := Aside0.mk A550
         clear A550
         by_cases c56 : t332 = true
         ·subst c56
          have H1 : (laws_FnExactThroughPipe.j1 kj21 a1 l2 a3 a4 t308 t311 t321 (t324 != t311) a0_0 a0_1 a0_2 a0_3 a0_4 a0_5) = some r := by rw [if_pos rfl] at H; exact H
          clear H
          have H := H1
          clear H1
          have H' := Aside0.mk H
          clear H
          obtain ⟨Ao57, co57, eo57⟩ := Kd.R_slice HO_15.out
          subst eo57
          obtain ⟨Ao58, co58, eo58⟩ := Kd.R_slice HO_12.out
          subst eo58
          go_wp2_with (first | (go_at_call 10; (with_reducible refine (laws_eqStepS.calls kj21 _ _ t321 _ _ t308 true _ ?side1 ?side2 ?side3 ?side4 A55.out).mono ?_); (case side1 => exact Kd.cZ HO_15.out); (case side2 => exact (Kd.R_reads' HO_15.out).2.1); (case side3 => exact Kd.cZ HO_12.out); (case side4 => exact (Kd.R_reads' HO_12.out).2.1); rintro e w59 ⟨rfl, hb⟩; have n0_ := Aside0.mk (Kd.R_below (Kd.rZ HO_12.out) hb); have n1_ := Aside0.mk (Kd.R_below (Kd.rZ HO_14.out) hb); have n2_ := Aside0.mk (Kd.R_below (Kd.rZ HO_15.out) hb); have n3_ := Aside0.mk (Kd.R_below (Kd.rZ HO328.out) hb); have n4_ := Aside0.mk (blk_below (g := gb296) (o := .cells #[.string a0_0, .int .i64 a0_1, .int .i64 a0_2, .int .i64 a0_3, .int .i64 a0_4, .int .i64 a0_5] 23 (0, 0)) (kZ BK296.out) hb); have n5_ := Aside0.mk (below_step bZ hb); clear HO_12; clear HO_14; clear HO_15; clear HO328; clear BK296; clear HB; have HO_12 := n0_; have HO_14 := n1_; have HO_15 := n2_; have HO328 := n3_; have BK296 := n4_; have HB := n5_; clear n0_ n1_ n2_ n3_ n4_ n5_; (try clear hb); (try clear hb2); (try clear hk); (try clear hi)))
          go_meet
          case rel => exact ⟨_, ((t324 != t311)), sZ, H', ⟨by have := HJ21.out; first | omega | exact Nat.le_refl _⟩, ⟨Kd.rZ (Kd.R_mono HO_12.out (fun _ hk => hk.2.1))⟩, ⟨Kd.rZ (Kd.R_mono HO_15.out (fun _ hk => hk.1))⟩, ⟨kZ BK296.out⟩, ⟨bZ⟩⟩
         ·replace c56 := Bool.eq_false_iff.mpr c56
          subst c56
          have H1 : (laws_FnExactThroughPipe.j1 kj21 a1 l2 a3 a4 t308 t311 t321 true a0_0 a0_1 a0_2 a0_3 a0_4 a0_5) = some r := by rw [if_neg (show ¬ (false = true) by decide)] at H; exact H
          clear H
          have H := H1
          clear H1
          have H' := Aside0.mk H
          clear H
          obtain ⟨Ao60, co60, eo60⟩ := Kd.R_slice HO_15.out
          subst eo60
          obtain ⟨Ao61, co61, eo61⟩ := Kd.R_slice HO_12.out
          subst eo61
          go_wp2_with (first | (go_at_call 10; (with_reducible refine (laws_eqStepS.calls kj21 _ _ t321 _ _ t308 false _ ?side1 ?side2 ?side3 ?side4 A55.out).mono ?_); (case side1 => exact Kd.cZ HO_15.out); (case side2 => exact (Kd.R_reads' HO_15.out).2.1); (case side3 => exact Kd.cZ HO_12.out); (case side4 => exact (Kd.R_reads' HO_12.out).2.1); rintro e w62 ⟨rfl, hb⟩; have n0_ := Aside0.mk (Kd.R_below (Kd.rZ HO_12.out) hb); have n1_ := Aside0.mk (Kd.R_below (Kd.rZ HO_14.out) hb); have n2_ := Aside0.mk (Kd.R_below (Kd.rZ HO_15.out) hb); have n3_ := Aside0.mk (Kd.R_below (Kd.rZ HO328.out) hb); have n4_ := Aside0.mk (blk_below (g := gb296) (o := .cells #[.string a0_0, .int .i64 a0_1, .int .i64 a0_2, .int .i64 a0_3, .int .i64 a0_4, .int .i64 a0_5] 23 (0, 0)) (kZ BK296.out) hb); have n5_ := Aside0.mk (below_step bZ hb); clear HO_12; clear HO_14; clear HO_15; clear HO328; clear BK296; clear HB; have HO_12 := n0_; have HO_14 := n1_; have HO_15 := n2_; have HO328 := n3_; have BK296 := n4_; have HB := n5_; clear n0_ n1_ n2_ n3_ n4_ n5_; (try clear hb); (try clear hb2); (try clear hk); (try clear hi)))
          go_meet
          case rel => exact ⟨_, (true), sZ, H', ⟨by have := HJ21.out; first | omega | exact Nat.le_refl _⟩, ⟨Kd.rZ (Kd.R_mono HO_12.out (fun _ hk => hk.2.1))⟩, ⟨Kd.rZ (Kd.R_mono HO_15.out (fun _ hk => hk.1))⟩, ⟨kZ BK296.out⟩, ⟨bZ⟩⟩
       case rest =>
        clear HC49; (try clear c1); (try clear c2); (try clear p2); (try clear c3); (try clear c4); (try clear c5); (try clear c6); (try clear c7); (try clear c7b0); (try clear c8); (try clear c9); (try clear c10); (try clear c11); (try clear c12); (try clear c12b0); (try clear c37); (try clear c44); (try clear c47); (try clear c54); (try clear c54b0); (try clear c56); (try clear hcz14_0); (try clear hcz14_1); (try clear hcz14_2); (try clear hcz14_3); (try clear hcz14_4); (try clear hcz14_5); (try clear hcz24_0); (try clear hcz24_1); (try clear hcz24_2); (try clear hcz24_3); (try clear hcz24_4); (try clear hcz24_5); (try clear hcz26_0); (try clear hcz26_1); (try clear hcz26_2); (try clear hcz26_3); (try clear hcz26_4); (try clear hcz26_5); (try clear hcz32_0); (try clear hcz32_1); (try clear hcz32_2); (try clear hcz32_3); (try clear hcz32_4); (try clear hcz32_5); (try clear hcz9_0); (try clear hcz9_1); (try clear hcz9_2); (try clear hcz9_3); (try clear hcz9_4); (try clear hcz9_5); (try clear hfz14_0); (try clear hfz14_1); (try clear hfz14_2); (try clear hfz14_3); (try clear hfz14_4); (try clear hfz14_5); (try clear hfz24_0); (try clear hfz24_1); (try clear hfz24_2); (try clear hfz24_3); (try clear hfz24_4); (try clear hfz24_5); (try clear hfz26_0); (try clear hfz26_1); (try clear hfz26_2); (try clear hfz26_3); (try clear hfz26_4); (try clear hfz26_5); (try clear hfz32_0); (try clear hfz32_1); (try clear hfz32_2); (try clear hfz32_3); (try clear hfz32_4); (try clear hfz32_5); (try clear hfz9_0); (try clear hfz9_1); (try clear hfz9_2); (try clear hfz9_3); (try clear hfz9_4); (try clear hfz9_5); (try clear p2)
        obtain ⟨kq, x84_48, rfl, HA, HJ48, HO_12, HO_15, BK296, HB⟩ := hcut
        cases kq with
        | zero => exact absurd HA.out (by simp [laws_FnExactThroughPipe.j1])
        | succ kj48 =>
         have H := HA.out
         clear HA
         simp only [laws_FnExactThroughPipe.j1] at H
         by_cases c63 : x84_48 = true
         ·subst c63
          have H1 : (some false) = some r := by rw [if_pos rfl] at H; exact H
          clear H
          have H := H1
          clear H1
          obtain rfl := Option.some.inj H
          go_wp2
          go_ret
          exact ⟨eZ, bZ⟩
         ·replace c63 := Bool.eq_false_iff.mpr c63
          subst c63
          have H1 : ((laws_markStepS.f kj48 t321 1).bind fun bt333 => ((laws_heldStepS.f kj48 bt333.2 1).bind fun t335 => (if t335 < 0 then (some false) else (if t335 = bt333.1 then ((laws_toPipe.f a0_0 a0_1 a0_2 a0_3 a0_4 a0_5).bind fun bt336 => ((laws_toStepS.f kj48 l2).bind fun t342 => ((impl_ThroughPipe.f kj48 bt336.1 bt336.2.1 bt336.2.2.1 bt336.2.2.2.1 bt336.2.2.2.2.1 bt336.2.2.2.2.2 a1 t342 a3 a4).bind fun bt345 => ((laws_eqStepS.f kj48 bt345.1 t308).bind fun t349 => (if t349 = true then (laws_FnExactThroughPipe.j2 kj48 bt333.2 bt333.1 (bt345.2 != t311)) else (laws_FnExactThroughPipe.j2 kj48 bt333.2 bt333.1 true)))))) else (some false))))) = some r := by rw [if_neg (show ¬ (false = true) by decide)] at H; exact H
          clear H
          have H := H1
          clear H1
          replace H := Option.bind_eq_some_iff.mp H
          obtain ⟨⟨t333, t334⟩, A640, H⟩ := H
          replace H : ((laws_heldStepS.f kj48 t334 1).bind fun t335 => (if t335 < 0 then (some false) else (if t335 = t333 then ((laws_toPipe.f a0_0 a0_1 a0_2 a0_3 a0_4 a0_5).bind fun bt336 => ((laws_toStepS.f kj48 l2).bind fun t342 => ((impl_ThroughPipe.f kj48 bt336.1 bt336.2.1 bt336.2.2.1 bt336.2.2.2.1 bt336.2.2.2.2.1 bt336.2.2.2.2.2 a1 t342 a3 a4).bind fun bt345 => ((laws_eqStepS.f kj48 bt345.1 t308).bind fun t349 => (if t349 = true then (laws_FnExactThroughPipe.j2 kj48 t334 t333 (bt345.2 != t311)) else (laws_FnExactThroughPipe.j2 kj48 t334 t333 true)))))) else (some false)))) = some r := H
          have A64 := Aside0.mk A640
          clear A640
          replace H := Option.bind_eq_some_iff.mp H
          obtain ⟨t335, A650, H⟩ := H
          replace H : (if t335 < 0 then (some false) else (if t335 = t333 then ((laws_toPipe.f a0_0 a0_1 a0_2 a0_3 a0_4 a0_5).bind fun bt336 => ((laws_toStepS.f kj48 l2).bind fun t342 => ((impl_ThroughPipe.f kj48 bt336.1 bt336.2.1 bt336.2.2.1 bt336.2.2.2.1 bt336.2.2.2.2.1 bt336.2.2.2.2.2 a1 t342 a3 a4).bind fun bt345 => ((laws_eqStepS.f kj48 bt345.1 t308).bind fun t349 => (if t349 = true then (laws_FnExactThroughPipe.j2 kj48 t334 t333 (bt345.2 != t311)) else (laws_FnExactThroughPipe.j2 kj48 t334 t333 true)))))) else (some false))) = some r := H
          have A65 := Aside0.mk A650
          clear A650
          by_cases c66 : t335 < 0
          ·rw [if_pos c66] at H
           have c66b0 : decide (t335 < 0) = true := decide_eq_true c66
           clear c66
           obtain rfl := Option.some.inj H
           obtain ⟨Ao67, co67, eo67⟩ := Kd.R_slice HO_15.out
           subst eo67
           go_wp2_with (first | ((with_reducible refine gate_callee (f := 11) rfl ?_); refine goesL_ (some 87) rfl rfl Try.func11 (by kernel_rfl) rfl #[.slice Ao67 t321.length co67, .int .i64 1] rfl gZ ?_; (with_reducible refine (laws_markStepS.calls kj48 (fun k_ => some k_ = (.slice Ao67 t321.length co67 : Value).ownBlock) (.slice Ao67 t321.length co67) t321 1 t333 t334 w _ ?side1 ?side2 A64.out).mono ?_); (case side1 => repeat (first | (with_reducible first | exact HB.out | apply below_alloc | apply pw_below_drewN | apply below_drew1 | refine below_set ?_ GE296.out) | exact HB.out)); (case side2 => exact Kd.R_tight rfl HO_15.out); rintro e w68 ⟨rfl, hy0, hb, hkp⟩; refine ⟨_, rfl, ?_⟩; have n0_ := Aside0.mk (Kd.R_mono (ok' := fun k_ => some k_ ≠ (.slice Ao67 t321.length co67 : Value).ownBlock) (Kd.R_keptB (HO_12.out) hkp (fun k_ hk_ hs_ => (hk_) hs_)) (fun k_ hk_ => hk_.1)); have n1_ := Aside0.mk (Kd.R_reok rfl hy0 (fun k_ e_ => HO_15.out.1 k_ e_)); have n2_ := Aside0.mk (blk_kept (kZ BK296.out) hkp (fun hs_ => (fun e_ => (Kd.R_ne HO_15.out BK296.out (by decide)) e_) hs_)); have n3_ := Aside0.mk (hb); clear HO_12; clear HO_15; clear BK296; clear HB; have HO_12 := n0_; have HO_15 := n1_; have BK296 := n2_; have HB := n3_; clear n0_ n1_ n2_ n3_; (try clear hb); (try clear hkp); (try clear hy0)) | ((with_reducible refine gate_callee (f := 12) rfl ?_); refine goesL_ (some 90) rfl rfl Try.func12 (by kernel_rfl) rfl #[.slice Ao67 t334.length co67, .int .i64 1] rfl (by (try simp only [List.map_toArray, List.map_cons, List.map_nil]); first | done | (rw [show t334.length = t321.length from (Kd.R_reads' HO_15.out).1.symm] <;> rfl) | rfl | (simp only [List.length_drop, List.length_take]; rfl)) ?_; (with_reducible refine (laws_heldStepS.calls kj48 _ _ t334 1 t335 _ ?side1 ?side2 A65.out).mono ?_); (case side1 => exact Kd.cZ HO_15.out); (case side2 => rw [show t334.length = t321.length from (Kd.R_reads' HO_15.out).1.symm]; exact (Kd.R_reads' HO_15.out).2.1); rintro e w' ⟨rfl, ⟨nd, rfl⟩⟩; refine ⟨_, rfl, ?_⟩))
           go_ret
           exact ⟨eZ, bZ⟩
          ·rw [if_neg c66] at H
           have c66b0 : decide (t335 < 0) = false := decide_eq_false c66
           clear c66
           by_cases c69 : t335 = t333
           ·rw [if_pos c69] at H
            have c69b0 : (t335 == t333) = true := beq_iff_eq.mpr c69
            have c69b1 : (t335 != t333) = false := bne_eq_false_iff_eq.mpr c69
            clear c69
            replace H := Option.bind_eq_some_iff.mp H
            obtain ⟨⟨t336, t337, t338, t339, t340, t341⟩, A700, H⟩ := H
            replace H : ((laws_toStepS.f kj48 l2).bind fun t342 => ((impl_ThroughPipe.f kj48 t336 t337 t338 t339 t340 t341 a1 t342 a3 a4).bind fun bt345 => ((laws_eqStepS.f kj48 bt345.1 t308).bind fun t349 => (if t349 = true then (laws_FnExactThroughPipe.j2 kj48 t334 t333 (bt345.2 != t311)) else (laws_FnExactThroughPipe.j2 kj48 t334 t333 true))))) = some r := H
            have A70 := Aside0.mk A700
            clear A700
            replace H := Option.bind_eq_some_iff.mp H
            obtain ⟨t342, A710, H⟩ := H
            replace H : ((impl_ThroughPipe.f kj48 t336 t337 t338 t339 t340 t341 a1 t342 a3 a4).bind fun bt345 => ((laws_eqStepS.f kj48 bt345.1 t308).bind fun t349 => (if t349 = true then (laws_FnExactThroughPipe.j2 kj48 t334 t333 (bt345.2 != t311)) else (laws_FnExactThroughPipe.j2 kj48 t334 t333 true)))) = some r := H
            have A71 := Aside0.mk A710
            clear A710
            replace H := Option.bind_eq_some_iff.mp H
            obtain ⟨⟨t345, t348⟩, A720, H⟩ := H
            replace H : ((laws_eqStepS.f kj48 t345 t308).bind fun t349 => (if t349 = true then (laws_FnExactThroughPipe.j2 kj48 t334 t333 (t348 != t311)) else (laws_FnExactThroughPipe.j2 kj48 t334 t333 true))) = some r := H
            have A72 := Aside0.mk A720
            clear A720
            have HC73 := Aside0.mk H
            clear H
            obtain ⟨Ao74, co74, eo74⟩ := Kd.R_slice HO_15.out
            subst eo74
            go_upto_region 28 with (first | ((with_reducible refine gate_callee (f := 11) rfl ?_); refine goesL_ (some 87) rfl rfl Try.func11 (by kernel_rfl) rfl #[.slice Ao74 t321.length co74, .int .i64 1] rfl gZ ?_; (with_reducible refine (laws_markStepS.calls kj48 (fun k_ => some k_ = (.slice Ao74 t321.length co74 : Value).ownBlock) (.slice Ao74 t321.length co74) t321 1 t333 t334 w _ ?side1 ?side2 A64.out).mono ?_); (case side1 => repeat (first | (with_reducible first | exact HB.out | apply below_alloc | apply pw_below_drewN | apply below_drew1 | refine below_set ?_ GE296.out) | exact HB.out)); (case side2 => exact Kd.R_tight rfl HO_15.out); rintro e w75 ⟨rfl, hy0, hb, hkp⟩; refine ⟨_, rfl, ?_⟩; have n0_ := Aside0.mk (Kd.R_mono (ok' := fun k_ => some k_ ≠ (.slice Ao74 t321.length co74 : Value).ownBlock) (Kd.R_keptB (HO_12.out) hkp (fun k_ hk_ hs_ => (hk_) hs_)) (fun k_ hk_ => hk_.1)); have n1_ := Aside0.mk (Kd.R_reok rfl hy0 (fun k_ e_ => HO_15.out.1 k_ e_)); have n2_ := Aside0.mk (blk_kept (kZ BK296.out) hkp (fun hs_ => (fun e_ => (Kd.R_ne HO_15.out BK296.out (by decide)) e_) hs_)); have n3_ := Aside0.mk (hb); clear HO_12; clear HO_15; clear BK296; clear HB; have HO_12 := n0_; have HO_15 := n1_; have BK296 := n2_; have HB := n3_; clear n0_ n1_ n2_ n3_; (try clear hb); (try clear hkp); (try clear hy0)) | ((with_reducible refine gate_callee (f := 12) rfl ?_); refine goesL_ (some 90) rfl rfl Try.func12 (by kernel_rfl) rfl #[.slice Ao74 t334.length co74, .int .i64 1] rfl (by (try simp only [List.map_toArray, List.map_cons, List.map_nil]); first | done | (rw [show t334.length = t321.length from (Kd.R_reads' HO_15.out).1.symm] <;> rfl) | rfl | (simp only [List.length_drop, List.length_take]; rfl)) ?_; (with_reducible refine (laws_heldStepS.calls kj48 _ _ t334 1 t335 _ ?side1 ?side2 A65.out).mono ?_); (case side1 => exact Kd.cZ HO_15.out); (case side2 => rw [show t334.length = t321.length from (Kd.R_reads' HO_15.out).1.symm]; exact (Kd.R_reads' HO_15.out).2.1); rintro e w' ⟨rfl, ⟨nd, rfl⟩⟩; refine ⟨_, rfl, ?_⟩; have hcz76_0 := bc0 BK296.out; have hcz76_1 := bc1 BK296.out; have hcz76_2 := bc2 BK296.out; have hcz76_3 := bc3 BK296.out; have hcz76_4 := bc4 BK296.out; have hcz76_5 := bc5 BK296.out; have hfz76_0 := blk_frozen BK296.out 0; have hfz76_1 := blk_frozen BK296.out 1; have hfz76_2 := blk_frozen BK296.out 2; have hfz76_3 := blk_frozen BK296.out 3; have hfz76_4 := blk_frozen BK296.out 4; have hfz76_5 := blk_frozen BK296.out 5) | ((with_reducible refine gate_callee (f := 7) rfl ?_); refine goesL_ (some 98) rfl rfl Try.func7 (by kernel_rfl) rfl #[.agg #[.string a0_0, .int .i64 a0_1, .int .i64 a0_2, .int .i64 a0_3, .int .i64 a0_4, .int .i64 a0_5]] rfl gZ ?_; (with_reducible refine (laws_toPipe.calls a0_0 a0_1 a0_2 a0_3 a0_4 a0_5 t336 t337 t338 t339 t340 t341 _ A70.out).mono ?_); rintro e w77 ⟨rfl, hb⟩; refine ⟨_, rfl, ?_⟩; have n0_ := Aside0.mk (Kd.R_below (Kd.rZ HO_12.out) hb); have n1_ := Aside0.mk (Kd.R_below (Kd.rZ HO_15.out) hb); have n2_ := Aside0.mk (blk_below (g := gb296) (o := .cells #[.string a0_0, .int .i64 a0_1, .int .i64 a0_2, .int .i64 a0_3, .int .i64 a0_4, .int .i64 a0_5] 23 (0, 0)) (kZ BK296.out) hb); have n3_ := Aside0.mk (below_step bZ hb); clear HO_12; clear HO_15; clear BK296; clear HB; have HO_12 := n0_; have HO_15 := n1_; have BK296 := n2_; have HB := n3_; clear n0_ n1_ n2_ n3_; (try clear hb); (try clear hb2); (try clear hk); (try clear hi)) | ((with_reducible refine gate_callee (f := 8) rfl ?_); refine goesL_ (some 101) rfl rfl Try.func8 (by kernel_rfl) rfl #[.slice A2 l2.length c2] rfl gZ ?_; (with_reducible refine (laws_toStepS.calls kj48 _ _ l2 t342 _ ?side1 ?side2 A71.out).mono ?_); (case side1 => repeat (first | exact (Kd.C_below HR2.out HB.out) | (with_reducible refine Kd.C_alloc ?_ _) | (with_reducible refine Kd.C_drewN ?_ _) | (with_reducible refine Kd.C_drew ?_))); (case side2 => exact HC2.out); rintro e w78 ⟨v343, rfl, ho0, hb⟩; refine ⟨_, rfl, ?_⟩; have n0_ := Aside0.mk (Kd.R_elder' (Kd.rZ HO_12.out) (Kd.R_base ho0) hb); have n1_ := Aside0.mk (Kd.R_elder' (Kd.rZ HO_15.out) (Kd.R_base ho0) hb); have n2_ := Aside0.mk (Kd.R_lower (Kd.R_new' (Kd.R_new' ho0 (Kd.R_lt (Kd.rZ HO_12.out))) (Kd.R_lt (Kd.rZ HO_15.out))) bsZ); have n3_ := Aside0.mk (blk_below (g := gb296) (o := .cells #[.string a0_0, .int .i64 a0_1, .int .i64 a0_2, .int .i64 a0_3, .int .i64 a0_4, .int .i64 a0_5] 23 (0, 0)) (kZ BK296.out) hb); have n4_ := Aside0.mk (below_step bZ hb); clear HO_12; clear HO_15; clear BK296; clear HB; have HO_12 := n0_; have HO_15 := n1_; have HO344 := n2_; have BK296 := n3_; have HB := n4_; clear n0_ n1_ n2_ n3_ n4_; (try clear hb); (try clear hb2); (try clear hk); (try clear hi); (try clear ho0); obtain ⟨Ao79, co79, eo79⟩ := Kd.R_slice HO344.out; subst eo79) | ((with_reducible refine gate_callee (f := 9) rfl ?_); refine goesL_ (some 104) rfl rfl Try.func9 (by kernel_rfl) rfl #[.agg #[.string t336, .int .i64 t337, .int .i64 t338, .int .i64 t339, .int .i64 t340, .int .i64 t341], .int .i64 a1, .slice Ao79 t342.length co79, .int .i64 a3, .int .i64 a4] rfl gZ ?_; (with_reducible refine (impl_ThroughPipe.calls kj48 t336 t337 t338 t339 t340 t341 a1 _ _ t342 a3 a4 t345 t348 _ ?side1 ?side2 A72.out).mono ?_); (case side1 => exact Kd.cZ HO344.out); (case side2 => exact (Kd.R_reads' HO344.out).2.1); rintro e w80 ⟨v346, rfl, ho0, hb⟩; refine ⟨_, rfl, ?_⟩; have n0_ := Aside0.mk (Kd.R_elder' (Kd.rZ HO_12.out) (Kd.R_base ho0) hb); have n1_ := Aside0.mk (Kd.R_elder' (Kd.rZ HO_15.out) (Kd.R_base ho0) hb); have n2_ := Aside0.mk (Kd.R_elder' (Kd.rZ HO344.out) (Kd.R_base ho0) hb); have n3_ := Aside0.mk (Kd.R_lower (Kd.R_new' (Kd.R_new' (Kd.R_new' ho0 (Kd.R_lt (Kd.rZ HO_12.out))) (Kd.R_lt (Kd.rZ HO_15.out))) (Kd.R_lt (Kd.rZ HO344.out))) bsZ); have n4_ := Aside0.mk (blk_below (g := gb296) (o := .cells #[.string a0_0, .int .i64 a0_1, .int .i64 a0_2, .int .i64 a0_3, .int .i64 a0_4, .int .i64 a0_5] 23 (0, 0)) (kZ BK296.out) hb); have n5_ := Aside0.mk (below_step bZ hb); clear HO_12; clear HO_15; clear HO344; clear BK296; clear HB; have HO_12 := n0_; have HO_15 := n1_; have HO344 := n2_; have HO347 := n3_; have BK296 := n4_; have HB := n5_; clear n0_ n1_ n2_ n3_ n4_ n5_; (try clear hb); (try clear hb2); (try clear hk); (try clear hi); (try clear ho0)))
            (try simp only [Act.put, List.setIfInBounds_toArray, List.set_cons_zero, List.set_cons_succ])
            go_cut [115] (fun v115 wc => ∃ (kq : Nat) (x115_72 : Bool), v115 = .bool x115_72 ∧ Aside0 (laws_FnExactThroughPipe.j2 kq t334 t333 x115_72 = some r) ∧ Aside0 (kq ≤ kj48) ∧ Aside0 (Kd.R k43 43 wc w.heap.size (fun _ => True) (.slice Ao74 t321.length co74) t334) ∧ Aside0 (wc.heap[gb296]? = some (.cells #[.string a0_0, .int .i64 a0_1, .int .i64 a0_2, .int .i64 a0_3, .int .i64 a0_4, .int .i64 a0_5] 23 (0, 0))) ∧ Aside0 (Below w.heap.size w wc))
            case first =>
             have H := HC73.out
             clear HC73
             replace H := Option.bind_eq_some_iff.mp H
             obtain ⟨t349, A810, H⟩ := H
             replace H : (if t349 = true then (laws_FnExactThroughPipe.j2 kj48 t334 t333 (t348 != t311)) else (laws_FnExactThroughPipe.j2 kj48 t334 t333 true)) = some r := H
             have A81 := Aside0.mk A810
             clear A810
             by_cases c82 : t349 = true
             ·subst c82
              have H1 : (laws_FnExactThroughPipe.j2 kj48 t334 t333 (t348 != t311)) = some r := by rw [if_pos rfl] at H; exact H
              clear H
              have H := H1
              clear H1
              have H' := Aside0.mk H
              clear H
              obtain ⟨Ao83, co83, eo83⟩ := Kd.R_slice HO347.out
              subst eo83
              obtain ⟨Ao84, co84, eo84⟩ := Kd.R_slice HO_12.out
              subst eo84
              go_wp2_with (first | ((with_reducible refine gate_callee (f := 10) rfl ?_); refine goesL_ (some 109) rfl rfl Try.func10 (by kernel_rfl) rfl #[.slice Ao83 t345.length co83, .slice Ao84 t308.length co84] rfl gZ ?_; (with_reducible refine (laws_eqStepS.calls kj48 _ _ t345 _ _ t308 true _ ?side1 ?side2 ?side3 ?side4 A81.out).mono ?_); (case side1 => exact Kd.cZ HO347.out); (case side2 => exact (Kd.R_reads' HO347.out).2.1); (case side3 => exact Kd.cZ HO_12.out); (case side4 => exact (Kd.R_reads' HO_12.out).2.1); rintro e w85 ⟨rfl, hb⟩; refine ⟨_, rfl, ?_⟩; have n0_ := Aside0.mk (Kd.R_below (Kd.rZ HO_12.out) hb); have n1_ := Aside0.mk (Kd.R_below (Kd.rZ HO_15.out) hb); have n2_ := Aside0.mk (Kd.R_below (Kd.rZ HO344.out) hb); have n3_ := Aside0.mk (Kd.R_below (Kd.rZ HO347.out) hb); have n4_ := Aside0.mk (blk_below (g := gb296) (o := .cells #[.string a0_0, .int .i64 a0_1, .int .i64 a0_2, .int .i64 a0_3, .int .i64 a0_4, .int .i64 a0_5] 23 (0, 0)) (kZ BK296.out) hb); have n5_ := Aside0.mk (below_step bZ hb); clear HO_12; clear HO_15; clear HO344; clear HO347; clear BK296; clear HB; have HO_12 := n0_; have HO_15 := n1_; have HO344 := n2_; have HO347 := n3_; have BK296 := n4_; have HB := n5_; clear n0_ n1_ n2_ n3_ n4_ n5_; (try clear hb); (try clear hb2); (try clear hk); (try clear hi)))
              go_meet
              case rel => exact ⟨_, ((t348 != t311)), sZ, H', ⟨by have := HJ21.out; have := HJ48.out; first | omega | exact Nat.le_refl _⟩, ⟨Kd.rZ (Kd.R_mono HO_15.out (fun _ hk => trivial))⟩, ⟨kZ BK296.out⟩, ⟨bZ⟩⟩
             ·replace c82 := Bool.eq_false_iff.mpr c82
              subst c82
              have H1 : (laws_FnExactThroughPipe.j2 kj48 t334 t333 true) = some r := by rw [if_neg (show ¬ (false = true) by decide)] at H; exact H
              clear H
              have H := H1
              clear H1
              have H' := Aside0.mk H
              clear H
              obtain ⟨Ao86, co86, eo86⟩ := Kd.R_slice HO347.out
              subst eo86
              obtain ⟨Ao87, co87, eo87⟩ := Kd.R_slice HO_12.out
              subst eo87
              go_wp2_with (first | ((with_reducible refine gate_callee (f := 10) rfl ?_); refine goesL_ (some 109) rfl rfl Try.func10 (by kernel_rfl) rfl #[.slice Ao86 t345.length co86, .slice Ao87 t308.length co87] rfl gZ ?_; (with_reducible refine (laws_eqStepS.calls kj48 _ _ t345 _ _ t308 false _ ?side1 ?side2 ?side3 ?side4 A81.out).mono ?_); (case side1 => exact Kd.cZ HO347.out); (case side2 => exact (Kd.R_reads' HO347.out).2.1); (case side3 => exact Kd.cZ HO_12.out); (case side4 => exact (Kd.R_reads' HO_12.out).2.1); rintro e w88 ⟨rfl, hb⟩; refine ⟨_, rfl, ?_⟩; have n0_ := Aside0.mk (Kd.R_below (Kd.rZ HO_12.out) hb); have n1_ := Aside0.mk (Kd.R_below (Kd.rZ HO_15.out) hb); have n2_ := Aside0.mk (Kd.R_below (Kd.rZ HO344.out) hb); have n3_ := Aside0.mk (Kd.R_below (Kd.rZ HO347.out) hb); have n4_ := Aside0.mk (blk_below (g := gb296) (o := .cells #[.string a0_0, .int .i64 a0_1, .int .i64 a0_2, .int .i64 a0_3, .int .i64 a0_4, .int .i64 a0_5] 23 (0, 0)) (kZ BK296.out) hb); have n5_ := Aside0.mk (below_step bZ hb); clear HO_12; clear HO_15; clear HO344; clear HO347; clear BK296; clear HB; have HO_12 := n0_; have HO_15 := n1_; have HO344 := n2_; have HO347 := n3_; have BK296 := n4_; have HB := n5_; clear n0_ n1_ n2_ n3_ n4_ n5_; (try clear hb); (try clear hb2); (try clear hk); (try clear hi)))
              go_meet
              case rel => exact ⟨_, (true), sZ, H', ⟨by have := HJ21.out; have := HJ48.out; first | omega | exact Nat.le_refl _⟩, ⟨Kd.rZ (Kd.R_mono HO_15.out (fun _ hk => trivial))⟩, ⟨kZ BK296.out⟩, ⟨bZ⟩⟩
            case rest =>
             clear HC73; (try clear c1); (try clear c2); (try clear p2); (try clear c3); (try clear c4); (try clear c5); (try clear c6); (try clear c7); (try clear c7b0); (try clear c8); (try clear c9); (try clear c10); (try clear c11); (try clear c12); (try clear c12b0); (try clear c37); (try clear c44); (try clear c47); (try clear c54); (try clear c54b0); (try clear c56); (try clear c63); (try clear c66); (try clear c66b0); (try clear c69); (try clear c69b0); (try clear c69b1); (try clear c82); (try clear hcz14_0); (try clear hcz14_1); (try clear hcz14_2); (try clear hcz14_3); (try clear hcz14_4); (try clear hcz14_5); (try clear hcz24_0); (try clear hcz24_1); (try clear hcz24_2); (try clear hcz24_3); (try clear hcz24_4); (try clear hcz24_5); (try clear hcz26_0); (try clear hcz26_1); (try clear hcz26_2); (try clear hcz26_3); (try clear hcz26_4); (try clear hcz26_5); (try clear hcz32_0); (try clear hcz32_1); (try clear hcz32_2); (try clear hcz32_3); (try clear hcz32_4); (try clear hcz32_5); (try clear hcz76_0); (try clear hcz76_1); (try clear hcz76_2); (try clear hcz76_3); (try clear hcz76_4); (try clear hcz76_5); (try clear hcz9_0); (try clear hcz9_1); (try clear hcz9_2); (try clear hcz9_3); (try clear hcz9_4); (try clear hcz9_5); (try clear hfz14_0); (try clear hfz14_1); (try clear hfz14_2); (try clear hfz14_3); (try clear hfz14_4); (try clear hfz14_5); (try clear hfz24_0); (try clear hfz24_1); (try clear hfz24_2); (try clear hfz24_3); (try clear hfz24_4); (try clear hfz24_5); (try clear hfz26_0); (try clear hfz26_1); (try clear hfz26_2); (try clear hfz26_3); (try clear hfz26_4); (try clear hfz26_5); (try clear hfz32_0); (try clear hfz32_1); (try clear hfz32_2); (try clear hfz32_3); (try clear hfz32_4); (try clear hfz32_5); (try clear hfz76_0); (try clear hfz76_1); (try clear hfz76_2); (try clear hfz76_3); (try clear hfz76_4); (try clear hfz76_5); (try clear hfz9_0); (try clear hfz9_1); (try clear hfz9_2); (try clear hfz9_3); (try clear hfz9_4); (try clear hfz9_5); (try clear p2)
             obtain ⟨kq, x115_72, rfl, HA, HJ72, HO_15, BK296, HB⟩ := hcut
             have hl15_72 := (Kd.R_reads' HO_15.out).1
             rw [hl15_72] at HO_15
             (try simp only [hl15_72])
             (try simp only [hl15_72] at BK296)
             cases kq with
             | zero => exact absurd HA.out (by simp [laws_FnExactThroughPipe.j2])
             | succ kj72 =>
              have H := HA.out
              clear HA
              simp only [laws_FnExactThroughPipe.j2] at H
              by_cases c89 : x115_72 = true
              ·subst c89
               have H1 : (some false) = some r := by rw [if_pos rfl] at H; exact H
               clear H
               have H := H1
               clear H1
               obtain rfl := Option.some.inj H
               go_wp2
               go_ret
               exact ⟨eZ, bZ⟩
              ·replace c89 := Bool.eq_false_iff.mpr c89
               subst c89
               have H1 : ((laws_heldStepS.f kj72 t334 1).bind fun t350 => (if t350 < 0 then (some false) else (if t350 = t333 then (some true) else (some false)))) = some r := by rw [if_neg (show ¬ (false = true) by decide)] at H; exact H
               clear H
               have H := H1
               clear H1
               replace H := Option.bind_eq_some_iff.mp H
               obtain ⟨t350, A900, H⟩ := H
               replace H : (if t350 < 0 then (some false) else (if t350 = t333 then (some true) else (some false))) = some r := H
               have A90 := Aside0.mk A900
               clear A900
               by_cases c91 : t350 < 0
               ·rw [if_pos c91] at H
                have c91b0 : decide (t350 < 0) = true := decide_eq_true c91
                clear c91
                obtain rfl := Option.some.inj H
                go_wp2_with (first | ((with_reducible refine gate_callee (f := 12) rfl ?_); refine goesL_ (some 118) rfl rfl Try.func12 (by kernel_rfl) rfl #[.slice Ao74 t334.length co74, .int .i64 1] rfl gZ ?_; (with_reducible refine (laws_heldStepS.calls kj72 _ _ t334 1 t350 _ ?side1 ?side2 A90.out).mono ?_); (case side1 => exact Kd.cZ HO_15.out); (case side2 => exact (Kd.R_reads' HO_15.out).2.1); rintro e w' ⟨rfl, ⟨nd, rfl⟩⟩; refine ⟨_, rfl, ?_⟩))
                go_ret
                exact ⟨eZ, bZ⟩
               ·rw [if_neg c91] at H
                have c91b0 : decide (t350 < 0) = false := decide_eq_false c91
                clear c91
                by_cases c92 : t350 = t333
                ·rw [if_pos c92] at H
                 have c92b0 : (t350 == t333) = true := beq_iff_eq.mpr c92
                 have c92b1 : (t350 != t333) = false := bne_eq_false_iff_eq.mpr c92
                 clear c92
                 obtain rfl := Option.some.inj H
                 go_wp2_with (first | ((with_reducible refine gate_callee (f := 12) rfl ?_); refine goesL_ (some 118) rfl rfl Try.func12 (by kernel_rfl) rfl #[.slice Ao74 t334.length co74, .int .i64 1] rfl gZ ?_; (with_reducible refine (laws_heldStepS.calls kj72 _ _ t334 1 t350 _ ?side1 ?side2 A90.out).mono ?_); (case side1 => exact Kd.cZ HO_15.out); (case side2 => exact (Kd.R_reads' HO_15.out).2.1); rintro e w' ⟨rfl, ⟨nd, rfl⟩⟩; refine ⟨_, rfl, ?_⟩))
                 go_ret
                 exact ⟨eZ, bZ⟩
                ·rw [if_neg c92] at H
                 have c92b0 : (t350 == t333) = false := beq_eq_false_iff_ne.mpr c92
                 have c92b1 : (t350 != t333) = true := bne_iff_ne.mpr c92
                 obtain rfl := Option.some.inj H
                 go_wp2_with (first | ((with_reducible refine gate_callee (f := 12) rfl ?_); refine goesL_ (some 118) rfl rfl Try.func12 (by kernel_rfl) rfl #[.slice Ao74 t334.length co74, .int .i64 1] rfl gZ ?_; (with_reducible refine (laws_heldStepS.calls kj72 _ _ t334 1 t350 _ ?side1 ?side2 A90.out).mono ?_); (case side1 => exact Kd.cZ HO_15.out); (case side2 => exact (Kd.R_reads' HO_15.out).2.1); rintro e w' ⟨rfl, ⟨nd, rfl⟩⟩; refine ⟨_, rfl, ?_⟩))
                 go_ret
                 exact ⟨eZ, bZ⟩
           ·rw [if_neg c69] at H
            have c69b0 : (t335 == t333) = false := beq_eq_false_iff_ne.mpr c69
            have c69b1 : (t335 != t333) = true := bne_iff_ne.mpr c69
            obtain rfl := Option.some.inj H
            obtain ⟨Ao93, co93, eo93⟩ := Kd.R_slice HO_15.out
            subst eo93
            go_wp2_with (first | ((with_reducible refine gate_callee (f := 11) rfl ?_); refine goesL_ (some 87) rfl rfl Try.func11 (by kernel_rfl) rfl #[.slice Ao93 t321.length co93, .int .i64 1] rfl gZ ?_; (with_reducible refine (laws_markStepS.calls kj48 (fun k_ => some k_ = (.slice Ao93 t321.length co93 : Value).ownBlock) (.slice Ao93 t321.length co93) t321 1 t333 t334 w _ ?side1 ?side2 A64.out).mono ?_); (case side1 => repeat (first | (with_reducible first | exact HB.out | apply below_alloc | apply pw_below_drewN | apply below_drew1 | refine below_set ?_ GE296.out) | exact HB.out)); (case side2 => exact Kd.R_tight rfl HO_15.out); rintro e w94 ⟨rfl, hy0, hb, hkp⟩; refine ⟨_, rfl, ?_⟩; have n0_ := Aside0.mk (Kd.R_mono (ok' := fun k_ => some k_ ≠ (.slice Ao93 t321.length co93 : Value).ownBlock) (Kd.R_keptB (HO_12.out) hkp (fun k_ hk_ hs_ => (hk_) hs_)) (fun k_ hk_ => hk_.1)); have n1_ := Aside0.mk (Kd.R_reok rfl hy0 (fun k_ e_ => HO_15.out.1 k_ e_)); have n2_ := Aside0.mk (blk_kept (kZ BK296.out) hkp (fun hs_ => (fun e_ => (Kd.R_ne HO_15.out BK296.out (by decide)) e_) hs_)); have n3_ := Aside0.mk (hb); clear HO_12; clear HO_15; clear BK296; clear HB; have HO_12 := n0_; have HO_15 := n1_; have BK296 := n2_; have HB := n3_; clear n0_ n1_ n2_ n3_; (try clear hb); (try clear hkp); (try clear hy0)) | ((with_reducible refine gate_callee (f := 12) rfl ?_); refine goesL_ (some 90) rfl rfl Try.func12 (by kernel_rfl) rfl #[.slice Ao93 t334.length co93, .int .i64 1] rfl (by (try simp only [List.map_toArray, List.map_cons, List.map_nil]); first | done | (rw [show t334.length = t321.length from (Kd.R_reads' HO_15.out).1.symm] <;> rfl) | rfl | (simp only [List.length_drop, List.length_take]; rfl)) ?_; (with_reducible refine (laws_heldStepS.calls kj48 _ _ t334 1 t335 _ ?side1 ?side2 A65.out).mono ?_); (case side1 => exact Kd.cZ HO_15.out); (case side2 => rw [show t334.length = t321.length from (Kd.R_reads' HO_15.out).1.symm]; exact (Kd.R_reads' HO_15.out).2.1); rintro e w' ⟨rfl, ⟨nd, rfl⟩⟩; refine ⟨_, rfl, ?_⟩))
            go_ret
            exact ⟨eZ, bZ⟩
      ·replace c47 := Bool.eq_false_iff.mpr c47
       subst c47
       have H1 : (some false) = some r := by rw [if_neg (show ¬ (false = true) by decide)] at H; exact H
       clear H
       have H := H1
       clear H1
       obtain rfl := Option.some.inj H
       go_wp2_with (first | ((with_reducible refine gate_callee (f := 8) rfl ?_); refine goesL_ (some 66) rfl rfl Try.func8 (by kernel_rfl) rfl #[.slice A2 l2.length c2] rfl gZ ?_; (with_reducible refine (laws_toStepS.calls kj21 _ _ l2 t326 _ ?side1 ?side2 A45.out).mono ?_); (case side1 => repeat (first | exact (Kd.C_below HR2.out HB.out) | (with_reducible refine Kd.C_alloc ?_ _) | (with_reducible refine Kd.C_drewN ?_ _) | (with_reducible refine Kd.C_drew ?_))); (case side2 => exact HC2.out); rintro e w95 ⟨v327, rfl, ho0, hb⟩; refine ⟨_, rfl, ?_⟩; have n0_ := Aside0.mk (Kd.R_elder' (Kd.rZ HO_12.out) (Kd.R_base ho0) hb); have n1_ := Aside0.mk (Kd.R_elder' (Kd.rZ HO_14.out) (Kd.R_base ho0) hb); have n2_ := Aside0.mk (Kd.R_elder' (Kd.rZ HO_15.out) (Kd.R_base ho0) hb); have n3_ := Aside0.mk (Kd.R_lower (Kd.R_new' (Kd.R_new' (Kd.R_new' ho0 (Kd.R_lt (Kd.rZ HO_12.out))) (Kd.R_lt (Kd.rZ HO_14.out))) (Kd.R_lt (Kd.rZ HO_15.out))) bsZ); have n4_ := Aside0.mk (blk_below (g := gb296) (o := .cells #[.string a0_0, .int .i64 a0_1, .int .i64 a0_2, .int .i64 a0_3, .int .i64 a0_4, .int .i64 a0_5] 23 (0, 0)) (kZ BK296.out) hb); have n5_ := Aside0.mk (below_step bZ hb); clear HO_12; clear HO_14; clear HO_15; clear BK296; clear HB; have HO_12 := n0_; have HO_14 := n1_; have HO_15 := n2_; have HO328 := n3_; have BK296 := n4_; have HB := n5_; clear n0_ n1_ n2_ n3_ n4_ n5_; (try clear hb); (try clear hb2); (try clear hk); (try clear hi); (try clear ho0); obtain ⟨Ao96, co96, eo96⟩ := Kd.R_slice HO328.out; subst eo96) | ((with_reducible refine gate_callee (f := 10) rfl ?_); refine goesL_ (some 67) rfl rfl Try.func10 (by kernel_rfl) rfl #[.slice Ao34 t312.length co34, .slice Ao96 t326.length co96] rfl gZ ?_; (with_reducible refine (laws_eqStepS.calls kj21 _ _ t312 _ _ t326 false _ ?side1 ?side2 ?side3 ?side4 A46.out).mono ?_); (case side1 => exact Kd.cZ HO_14.out); (case side2 => exact (Kd.R_reads' HO_14.out).2.1); (case side3 => exact Kd.cZ HO328.out); (case side4 => exact (Kd.R_reads' HO328.out).2.1); rintro e w97 ⟨rfl, hb⟩; refine ⟨_, rfl, ?_⟩; have n0_ := Aside0.mk (Kd.R_below (Kd.rZ HO_12.out) hb); have n1_ := Aside0.mk (Kd.R_below (Kd.rZ HO_14.out) hb); have n2_ := Aside0.mk (Kd.R_below (Kd.rZ HO_15.out) hb); have n3_ := Aside0.mk (Kd.R_below (Kd.rZ HO328.out) hb); have n4_ := Aside0.mk (blk_below (g := gb296) (o := .cells #[.string a0_0, .int .i64 a0_1, .int .i64 a0_2, .int .i64 a0_3, .int .i64 a0_4, .int .i64 a0_5] 23 (0, 0)) (kZ BK296.out) hb); have n5_ := Aside0.mk (below_step bZ hb); clear HO_12; clear HO_14; clear HO_15; clear HO328; clear BK296; clear HB; have HO_12 := n0_; have HO_14 := n1_; have HO_15 := n2_; have HO328 := n3_; have BK296 := n4_; have HB := n5_; clear n0_ n1_ n2_ n3_ n4_ n5_; (try clear hb); (try clear hb2); (try clear hk); (try clear hi)))
       go_ret
       exact ⟨eZ, bZ⟩
end Go.Proofs.Ytahadhldokhifaa.XP
end

section
namespace Go.Proofs.Ytahadhldokhifaa.Open
open Go.ChangeShapes Go.WideShapes Go.RowKit Go.Proofs.YtahadhldokhifaaW.PrintWords
set_option linter.unusedVariables false
def Opens (P : Program) (t : TypeId) {α : Type} (d : Kd α) (Q : α → Prop) : Prop :=
  P.cellsOf t = d.sz ∧ ∀ (H : Type) (enc : TypeId × Value → H) (w : World) (base : Nat) (spare : Nat → Bool) (held : Bool) (fuel : Nat) (cs : List Value) (x : DataW H × List MemPlace),
    DataW.trod enc P w base spare held fuel t cs = some x → ∃ a : α, d.K w a cs ∧ Q a
theorem Opens.int {P : Program} {t : TypeId} {k : IntKind} (hu : P.underlying t = some (.int k)) (hc : P.cellsOf t = 1) : Opens P t (Kd.int k) (fun n => (Lit.int k n).wf = true) := by
  refine ⟨hc, fun H enc w base spare held fuel cs x h => ?_⟩
  obtain ⟨n, rfl, _, hw⟩ := DataW.trod_int hu h
  exact ⟨n, rfl, hw⟩
theorem Opens.bool {P : Program} {t : TypeId} (hu : P.underlying t = some .bool) (hc : P.cellsOf t = 1) : Opens P t Kd.bool (fun _ => True) := by
  refine ⟨hc, fun H enc w base spare held fuel cs x h => ?_⟩
  obtain ⟨b, rfl, _⟩ := DataW.trod_bool hu h
  exact ⟨b, rfl, trivial⟩
theorem Opens.string {P : Program} {t : TypeId} (hu : P.underlying t = some .string) (hc : P.cellsOf t = 1) : Opens P t Kd.string (fun s => s.size ≤ maxLen) := by
  refine ⟨hc, fun H enc w base spare held fuel cs x h => ?_⟩
  obtain ⟨s, rfl, _, hs⟩ := DataW.trod_string hu h
  exact ⟨s, rfl, hs⟩
theorem choose_list {α : Type} {n : Nat} {p : Nat → α → Prop} (h : ∀ i, i < n → ∃ x, p i x) : ∃ l : List α, l.length = n ∧ ∀ i x, l[i]? = some x → p i x := by
  induction n with
  | zero => exact ⟨[], rfl, fun i x hx => by simp at hx⟩
  | succ n ih =>
    obtain ⟨l, hl, hp⟩ := ih (fun i hi => h i (by omega))
    obtain ⟨x, hx⟩ := h n (by omega)
    refine ⟨l ++ [x], by simp [hl], fun i y hy => ?_⟩
    rcases Nat.lt_or_ge i l.length with hi | hi
    · rw [List.getElem?_append_left hi] at hy
      exact hp i y hy
    · have : i = l.length := by
        have := (List.getElem?_eq_some_iff.1 hy).1
        simp at this
        omega
      subst this
      simp at hy
      subst hy
      rw [hl]
      exact hx
theorem cells?_get {w : World} {base : Nat} {a : Addr} {n : Nat} {cs : List Value} (h : w.cells? base a n = some cs) (i : Nat) (u : Value) (hu : cs[i]? = some u) : w.cell? (a.add i) = some u := by
  unfold World.cells? at h
  split at h
  · have hlen : cs.length = n := by simpa using mapM_some_length h
    have hi : i < n := by
      have := (List.getElem?_eq_some_iff.1 hu).1
      omega
    have := mapM_some_get h i i (by simp [hi])
    rw [hu] at this
    exact this
  · cases h
theorem Opens.slice {P : Program} {t e : TypeId} {α : Type} {d : Kd α} {Q : α → Prop} (hu : P.underlying t = some (.slice e)) (hc : P.cellsOf t = 1) (hd : Opens P e d Q) :
    Opens P t (Kd.slice e d) (fun xs => xs.length ≤ maxLen ∧ ∀ x ∈ xs, Q x) := by
  refine ⟨hc, fun H enc w base spare held fuel cs x h => ?_⟩
  rcases Go.Deep.open_slice hu h with ⟨rfl, _⟩ | ⟨a, len, cap, m, n, D, Pl, rfl, _, hl, hm, hmm, _, hx⟩
  · exact ⟨[], ⟨none, 0, rfl, Nat.le_refl _, rfl, by simp, fun h => absurd h (by simp)⟩, by simp, fun x hx => by simp at hx⟩
  · have hlm : len ≤ m := by rw [hmm]; split <;> omega
    obtain ⟨l, hl1, hp⟩ := choose_list (n := len) (p := fun i (x : α) => ∃ cs', w.cells? base (a.add (i * d.sz)) d.sz = some cs' ∧ d.K w x cs' ∧ Q x) (fun i hi => by
      obtain ⟨cs', h1, h2⟩ := hx i (by omega)
      rw [hd.1] at h1
      obtain ⟨y, hy, hq⟩ := hd.2 H enc w base spare held n cs' _ h2
      exact ⟨y, cs', h1, hy, hq⟩)
    have hmax : (maxLen : Nat) = 9223372036854775807 := by unfold maxLen; omega
    refine ⟨l, ⟨some a, cap, by rw [hl1], by omega, rfl, by omega, fun _ => ⟨a, rfl, fun j p hj => ?_⟩⟩, by omega, fun x hx => ?_⟩
    · obtain ⟨cs', h1, h2, _⟩ := hp j p hj
      refine ⟨cs', d.K_len h2, h2, fun i u hi => ?_⟩
      have := cells?_get h1 i u hi
      rwa [Go.Deep.add_add] at this
    · obtain ⟨i, hi, rfl⟩ := List.mem_iff_getElem.1 hx
      obtain ⟨cs', _, _, h3⟩ := hp i _ (List.getElem?_eq_getElem hi)
      exact h3
def OpensF (P : Program) (fs : List Field) (off : Nat) {α : Type} (d : Kd α) (Q : α → Prop) : Prop :=
  ∀ (H : Type) (enc : TypeId × Value → H) (w : World) (base : Nat) (spare : Nat → Bool) (held : Bool) (n : Nat) (cs : List Value), off + d.sz = cs.length →
    (∀ f ∈ fs, ∃ y, DataW.trod enc P w base spare held n f.type ((cs.drop f.offset).take (P.cellsOf f.type)) = some y) → ∃ a : α, d.K w a (cs.drop off) ∧ Q a
theorem OpensF.one {P : Program} {f : Field} {off : Nat} {α : Type} {d : Kd α} {Q : α → Prop} (ho : f.offset = off) (h : Opens P f.type d Q) : OpensF P [f] off d Q := by
  intro H enc w base spare held n cs hl hf
  obtain ⟨y, hy⟩ := hf f List.mem_cons_self
  rw [ho, h.1, List.take_of_length_le (by rw [List.length_drop]; omega)] at hy
  exact h.2 H enc w base spare held n _ y hy
theorem OpensF.cons {P : Program} {f : Field} {fs : List Field} {off : Nat} {α β : Type} {d1 : Kd α} {d2 : Kd β} {Q1 : α → Prop} {Q2 : β → Prop} (ho : f.offset = off) (h : Opens P f.type d1 Q1) (hs : OpensF P fs (off + d1.sz) d2 Q2) :
    OpensF P (f :: fs) off (Kd.pair d1 d2) (fun x => Q1 x.1 ∧ Q2 x.2) := by
  intro H enc w base spare held n cs hl hf
  have hl' : off + (d1.sz + d2.sz) = cs.length := hl
  obtain ⟨y, hy⟩ := hf f List.mem_cons_self
  rw [ho, h.1] at hy
  obtain ⟨a, ha, qa⟩ := h.2 H enc w base spare held n _ y hy
  obtain ⟨b, hb, qb⟩ := hs H enc w base spare held n cs (by omega) (fun g hg => hf g (List.mem_cons_of_mem _ hg))
  refine ⟨(a, b), ⟨_, _, ?_, ha, hb⟩, qa, qb⟩
  rw [← List.drop_drop, List.take_append_drop]
theorem Opens.struct {P : Program} {t : TypeId} {fs : Array Field} {α β : Type} {d : Kd α} {Q : α → Prop} (f : β → α) (g : α → β) (hfg : ∀ x, f (g x) = x) (hu : P.underlying t = some (.struct fs)) (hc : P.cellsOf t = d.sz) (h : OpensF P fs.toList 0 d Q) :
    Opens P t (Kd.iso d f) (fun x => Q (f x)) := by
  refine ⟨hc, fun H enc w base spare held fuel cs x hx => ?_⟩
  obtain ⟨xs, n, rfl, _, hl, hxs, hf⟩ := DataW.trod_struct hu hx
  obtain ⟨a, ha, qa⟩ := h H enc w base spare held n cs (by omega) (fun f hf0 => by
    obtain ⟨i, hi, rfl⟩ := List.mem_iff_getElem.1 hf0
    have hi' : i < fs.size := by simpa using hi
    have := hf i fs[i] (Array.getElem?_eq_getElem hi')
    rw [List.getElem?_eq_getElem (by omega)] at this
    exact ⟨_, by simpa using this⟩)
  refine ⟨g a, ?_, ?_⟩
  · show d.K w (f (g a)) cs
    rw [hfg]
    simpa using ha
  · show Q (f (g a))
    rw [hfg]
    exact qa
theorem open_sl {H : Type} {enc : TypeId × Value → H} {P : Program} {W : World} {base B : Nat} {spare : Nat → Bool} {held : Bool} {t e : TypeId} {v : Value} {dd : DataW H} {ps : List MemPlace} {α : Type} {d : Kd α} {Q : α → Prop}
    (hu : P.underlying t = some (.slice e)) (hc : P.cellsOf t = 1) (hd : Opens P e d Q) (hv : Value.okWide P W .any B t v) (h : DataW.Trod enc P W base spare held t v dd ps) :
    ∃ (A : Option Addr) (c : Nat) (l : List α), v = .slice A l.length c ∧ l.length ≤ c ∧ Kd.C d W A l.length l ∧ l.length ≤ maxLen ∧ ∀ x ∈ l, Q x := by
  obtain ⟨a0, len, cap, rfl⟩ := okWide_slice hu hv
  obtain ⟨fuel, hf⟩ := h
  obtain ⟨l, ⟨A, c, he, hl, hC⟩, hm, hq⟩ := (Opens.slice hu hc hd).2 H enc W base spare held fuel _ _ hf
  refine ⟨A, c, l, ?_, hl, hC, hm, hq⟩
  simpa [Value.cells] using he
theorem open_st {H : Type} {enc : TypeId × Value → H} {P : Program} {W : World} {base B : Nat} {spare : Nat → Bool} {held : Bool} {t : TypeId} {fs : Array Field} {v : Value} {dd : DataW H} {ps : List MemPlace} {α : Type} {d : Kd α} {Q : α → Prop}
    (hu : P.underlying t = some (.struct fs)) (hd : Opens P t d Q) (hv : Value.okWide P W .any B t v) (h : DataW.Trod enc P W base spare held t v dd ps) :
    ∃ (cs : List Value) (x : α), v = .agg cs.toArray ∧ d.K W x cs ∧ Q x := by
  obtain ⟨cs, rfl, _⟩ := okWide_struct hu hv
  obtain ⟨fuel, hf⟩ := h
  obtain ⟨x, hK, hq⟩ := hd.2 H enc W base spare held fuel _ _ hf
  exact ⟨cs.toList, x, by simp, by simpa [Value.cells] using hK, hq⟩
end Go.Proofs.Ytahadhldokhifaa.Open
end

section
namespace Go.Proofs.Ytahadhldokhifaa.XP
open Go.RowKit Go.Proofs.YtahadhldokhifaaW.PrintWords Go.Proofs.Ytahadhldokhifaa.Open
set_option linter.unusedVariables false
def Q23 (x : S23) : Prop := (x.f0.size ≤ maxLen) ∧ ((Lit.int .i64 x.f1).wf = true) ∧ ((Lit.int .i64 x.f2).wf = true) ∧ ((Lit.int .i64 x.f3).wf = true) ∧ ((Lit.int .i64 x.f4).wf = true) ∧ ((Lit.int .i64 x.f5).wf = true)
theorem opens23 : Opens Try.prog 23 k23 Q23 := Opens.struct (fun x : S23 => (x.f0, x.f1, x.f2, x.f3, x.f4, x.f5)) (fun p => (⟨p.1, p.2.1, p.2.2.1, p.2.2.2.1, p.2.2.2.2.1, p.2.2.2.2.2⟩ : S23)) (fun _ => rfl) Try.underlying23 (by kernel_rfl) (OpensF.cons rfl (Opens.string Try.underlying9 (by kernel_rfl)) (OpensF.cons rfl (Opens.int Try.underlying2 (by kernel_rfl)) (OpensF.cons rfl (Opens.int Try.underlying2 (by kernel_rfl)) (OpensF.cons rfl (Opens.int Try.underlying2 (by kernel_rfl)) (OpensF.cons rfl (Opens.int Try.underlying2 (by kernel_rfl)) (OpensF.one rfl (Opens.int Try.underlying2 (by kernel_rfl))))))))
def Q45 (x : S45) : Prop := ((Lit.int .i64 x.f0).wf = true) ∧ ((Lit.int .i64 x.f1).wf = true)
theorem opens45 : Opens Try.prog 45 k45 Q45 := Opens.struct (fun x : S45 => (x.f0, x.f1)) (fun p => (⟨p.1, p.2⟩ : S45)) (fun _ => rfl) Try.underlying45 (by kernel_rfl) (OpensF.cons rfl (Opens.int Try.underlying2 (by kernel_rfl)) (OpensF.one rfl (Opens.int Try.underlying2 (by kernel_rfl))))
end Go.Proofs.Ytahadhldokhifaa.XP
end

section
namespace Go.Proofs.Ytahadhldokhifaa.XP
open Go.RowKit Go.Proofs.YtahadhldokhifaaW.PrintWords
def laws_FnExactThroughPipe.Pure : Prop := ∀ (a0 : S23), ∀ (a1 : Int), ∀ (a2 : List (S45)), ∀ (a3 : Int), ∀ (a4 : Int), (Q23 a0) → ((Lit.int .i64 a1).wf = true) → ((a2.length ≤ maxLen ∧ ∀ y2 ∈ a2, Q45 y2)) → ((Lit.int .i64 a3).wf = true) → ((Lit.int .i64 a4).wf = true) → ∃ k, laws_FnExactThroughPipe.f k a0.f0 a0.f1 a0.f2 a0.f3 a0.f4 a0.f5 a1 a2 a3 a4 = some true
end Go.Proofs.Ytahadhldokhifaa.XP
end

section
namespace Go.Proofs.Ytahadhldokhifaa.EvK
open Go.RowKit Go.Proofs.YtahadhldokhifaaW.PrintWords
set_option linter.unusedVariables false
theorem w64 {n : Int} (h : -9223372036854775808 ≤ n) (h' : n ≤ 9223372036854775807) : wrap64 n = n := by unfold wrap64; omega
theorem Ev.some {α : Type} {a r : α} (h : a = r) : Ev (fun _ => Option.some a) r := h ▸ Ev.now a
theorem Ev.bind_some {α β : Type} {g : Nat → Option α} {f : Nat → α → Option β} {a : α} {r : β} (h : Ev g a) (k : Ev (fun n => f n a) r) : Ev (fun n => (g n).bind (f n)) r := Ev.bind h k
theorem getD_at {α : Type} (l : List α) (d : α) (i : Nat) (h : i < l.length) : l.getD (i : Int).toNat d = l[i] := by
  simp [List.getD_eq_getElem?_getD, List.getElem?_eq_getElem h]
theorem map_done {α β : Type} (f : α → β) (l : List α) (z : β) (i : Nat) (h : i < l.length) :
    ((l.take i).map f ++ List.replicate (l.length - i) z).set i (f l[i]) = (l.take (i + 1)).map f ++ List.replicate (l.length - (i + 1)) z := by
  have e : l.length - i = (l.length - (i + 1)) + 1 := by omega
  rw [List.set_append_right _ _ (by simp; omega), e, List.replicate_succ]
  have e2 : i - ((l.take i).map f).length = 0 := by simp; omega
  rw [e2, List.set_cons_zero, List.take_succ_eq_append_getElem h, List.map_append]
  simp
theorem done_len {α β : Type} (f : α → β) (l : List α) (z : β) (i : Nat) (h : i ≤ l.length) : ((l.take i).map f ++ List.replicate (l.length - i) z).length = l.length := by simp; omega
def EvP {α : Type} (g : Nat → Option α) (P : α → Prop) : Prop := ∃ r, Ev g r ∧ P r
theorem EvP.now {α : Type} {r : α} {P : α → Prop} (h : P r) : EvP (fun _ => Option.some r) P := ⟨r, Ev.now r, h⟩
theorem EvP.of {α : Type} {g : Nat → Option α} {r : α} {P : α → Prop} (h : Ev g r) (hp : P r) : EvP g P := ⟨r, h, hp⟩
theorem EvP.mono {α : Type} {g : Nat → Option α} {P Q : α → Prop} (h : EvP g P) (hp : ∀ r, P r → Q r) : EvP g Q := by
  obtain ⟨r, h1, h2⟩ := h
  exact ⟨r, h1, hp _ h2⟩
theorem EvP.eq {α : Type} {g : Nat → Option α} {r : α} (h : EvP g (· = r)) : Ev g r := by
  obtain ⟨r', h, rfl⟩ := h
  exact h
theorem EvP.step {α : Type} {g f : Nat → Option α} {P : α → Prop} (h : ∀ k, g (k + 1) = f k) (k : EvP f P) : EvP g P := by
  obtain ⟨r, h1, h2⟩ := k
  exact ⟨r, Ev.step h h1, h2⟩
theorem EvP.bind {α β : Type} {g : Nat → Option α} {f : Nat → α → Option β} {a : α} {P : β → Prop} (h : Ev g a) (k : EvP (fun n => f n a) P) : EvP (fun n => (g n).bind (f n)) P := by
  obtain ⟨r, h1, h2⟩ := k
  exact ⟨r, Ev.bind h h1, h2⟩
theorem EvP.bindP {α β : Type} {g : Nat → Option α} {f : Nat → α → Option β} {Q : α → Prop} {P : β → Prop} (h : EvP g Q) (k : ∀ a, Q a → EvP (fun n => f n a) P) : EvP (fun n => (g n).bind (f n)) P := by
  obtain ⟨a, ha, hq⟩ := h
  exact EvP.bind ha (k a hq)
theorem EvP.rounds {α : Type} {g : Nat → Option α} {r : α} (h : EvP g (· = r)) : ∃ k, g k = Option.some r := Ev.rounds (EvP.eq h)
theorem for_evp {σ ρ : Type} {L : Nat → σ → Int → Option ρ} {Post : ρ → Prop} (n : Nat) (inv : Nat → σ → Prop)
    (step : ∀ (i : Nat) (s : σ), i < n → inv i s → (∀ s', inv (i + 1) s' → EvP (fun k => L k s' ((i : Int) + 1)) Post) → EvP (fun k => L k s i) Post)
    (fin : ∀ s, inv n s → EvP (fun k => L k s n) Post) (s : σ) (h0 : inv 0 s) : EvP (fun k => L k s 0) Post := by
  have key : ∀ (d i : Nat) (s : σ), i + d = n → inv i s → EvP (fun k => L k s i) Post := by
    intro d
    induction d with
    | zero =>
      intro i s hi hs
      obtain rfl : i = n := by omega
      exact fin s hs
    | succ d ih =>
      intro i s hi hs
      refine step i s (by omega) hs (fun s' hs' => ?_)
      simpa using ih (i + 1) s' (by omega) hs'
  simpa using key n 0 s (by omega) h0
theorem take_all {α : Type} {p : α → Prop} {l : List α} {i : Nat} (h : i < l.length) (hs : ∀ x ∈ l.take i, p x) (hx : p l[i]) : ∀ x ∈ l.take (i + 1), p x := by
  rw [List.take_succ_eq_append_getElem h]
  intro x hm
  rcases List.mem_append.1 hm with hm | hm
  · exact hs x hm
  · rw [List.mem_singleton.1 hm]
    exact hx
theorem set_done {α : Type} (E : Nat → α) (l : List α) (i : Nat) (h : i < l.length) : ((List.range i).map E ++ l.drop i).set i (E i) = (List.range (i + 1)).map E ++ l.drop (i + 1) := by
  rw [List.set_append_right _ _ (by simp), List.range_succ, List.map_append, List.append_assoc]
  congr 1
  rw [List.length_map, List.length_range, Nat.sub_self, List.drop_eq_getElem_cons h]
  rfl
theorem getD_set_self {α : Type} (l : List α) (i : Nat) (v d : α) (h : i < l.length) : (l.set i v).getD i d = v := by
  simp [List.getD_eq_getElem?_getD, h]
theorem all_ev {α : Type} {L : Nat → Int → Option Bool} (l : List α) (p : α → Bool) (b : Bool)
    (step : ∀ (i : Nat) (h : i < l.length), p l[i] = true → ∀ P, EvP (fun k => L k ((i : Int) + 1)) P → EvP (fun k => L k i) P)
    (stop : ∀ (i : Nat) (h : i < l.length), p l[i] = false → Ev (fun k => L k i) false)
    (fin : Ev (fun k => L k l.length) b) : Ev (fun k => L k 0) (l.all p && b) := by
  apply EvP.eq
  refine for_evp (L := fun k (_ : Unit) i => L k i) l.length (fun i _ => ∀ x ∈ l.take i, p x = true) ?_ ?_ () (by simp)
  · intro i _ hi hs K
    cases hp : p l[i] with
    | true => exact step i hi hp _ (K () (take_all hi hs hp))
    | false =>
      have e : l.all p = false := by
        rw [List.all_eq_false]
        exact ⟨l[i], List.getElem_mem hi, by simp [hp]⟩
      rw [e]
      exact EvP.of (stop i hi hp) rfl
  · intro _ hs
    have e : l.all p = true := by
      rw [List.all_eq_true]
      simpa using hs
    rw [e]
    exact EvP.of fin rfl
theorem bytes_at_ (s : ByteArray) (i : Nat) (h : i < s.data.toList.length) : bt s (i : Int) = ((s.data.toList[i]).toNat : Int) := by
  have h' : i < s.size := by simpa using h
  unfold bt
  rw [dif_pos (by simpa using h')]
  simp
  rfl
theorem size_len (s : ByteArray) : (s.size : Int) = (s.data.toList.length : Int) := by simp
theorem size_len' (s : ByteArray) : s.size = s.data.toList.length := by simp
end Go.Proofs.Ytahadhldokhifaa.EvK
end

section
namespace Go.Proofs.Ytahadhldokhifaa.PBasics
open Go.RowKit Go.Proofs.YtahadhldokhifaaW.PrintWords Go.Proofs.Ytahadhldokhifaa.XP Go.Proofs.Ytahadhldokhifaa.EvK
set_option linter.unusedVariables false
set_option linter.unusedSimpArgs false
def smallB (c : UInt8) : Bool := decide (97 ≤ (c.toNat : Int)) && decide ((c.toNat : Int) ≤ 122)
def digB (c : UInt8) : Bool := decide (48 ≤ (c.toNat : Int)) && decide ((c.toNat : Int) ≤ 57)
def nameB (c : UInt8) : Bool := smallB c || digB c
def nameOk (s : ByteArray) : Bool := match s.data.toList with
  | [] => false
  | c :: l => decide ((s.size : Int) ≤ 10) && smallB c && (c :: l).all nameB
def inR (n a b : Int) : Bool := decide (a ≤ n) && decide (n ≤ b)
theorem within_eq (n a b : Int) : impl_within.f n a b = some (inR n a b) := by
  unfold impl_within.f inR
  by_cases h : n ≥ a
  · rw [if_pos h, decide_eq_true (show a ≤ n from h), Bool.true_and]
  · rw [if_neg h, decide_eq_false (show ¬ a ≤ n from h), Bool.false_and]
theorem in_eq (n a b : Int) : spec_l00In.f n a b = some (inR n a b) := by
  unfold spec_l00In.f inR
  by_cases h : n ≥ a
  · rw [if_pos h, decide_eq_true (show a ≤ n from h), Bool.true_and]
  · rw [if_neg h, decide_eq_false (show ¬ a ≤ n from h), Bool.false_and]
theorem small_eq (c : UInt8) : spec_l01Small.f (c.toNat : Int) = some (smallB c) := by
  unfold spec_l01Small.f smallB
  by_cases h : (c.toNat : Int) ≥ 97
  · rw [if_pos h, decide_eq_true (show (97 : Int) ≤ c.toNat from h), Bool.true_and]
  · rw [if_neg h, decide_eq_false (show ¬ (97 : Int) ≤ c.toNat from h), Bool.false_and]
theorem dig_eq (c : UInt8) : spec_l01Digit.f (c.toNat : Int) = some (digB c) := by
  unfold spec_l01Digit.f digB
  by_cases h : (c.toNat : Int) ≥ 48
  · rw [if_pos h, decide_eq_true (show (48 : Int) ≤ c.toNat from h), Bool.true_and]
  · rw [if_neg h, decide_eq_false (show ¬ (48 : Int) ≤ c.toNat from h), Bool.false_and]
theorem onlyName_ev (s : ByteArray) (h : s.size ≤ 1048576) : Ev (fun k => impl_onlyNameBytes.f k s) (s.data.toList.all nameB) := by
  unfold impl_onlyNameBytes.f
  rw [size_len'] at h
  have := all_ev (L := fun k i => impl_onlyNameBytes.l0 k s (s.size : Int) i) s.data.toList nameB true ?_ ?_ ?_
  · simpa using this
  · intro i hi hp P K
    refine EvP.step (fun k => impl_onlyNameBytes.l0.eq_2 _ _ _ k) ?_
    simp only [size_len] at K
    simp only [size_len, if_pos (show (i : Int) < (s.data.toList.length : Int) by omega), if_pos (show (0 : Int) ≤ (i : Int) by omega), bytes_at_ s i hi, w64 (show -9223372036854775808 ≤ (i : Int) + 1 by omega) (by omega)]
    simp only [nameB, smallB, digB, Bool.or_eq_true, Bool.and_eq_true, decide_eq_true_eq] at hp
    by_cases h1 : ((s.data.toList[i]).toNat : Int) < 97
    · simp only [if_pos h1, if_neg (show ¬ ((s.data.toList[i]).toNat : Int) < 48 by omega), if_neg (show ¬ ((s.data.toList[i]).toNat : Int) > 57 by omega)]
      exact K
    · simp only [if_neg h1, if_neg (show ¬ ((s.data.toList[i]).toNat : Int) > 122 by omega)]
      exact K
  · intro i hi hp
    refine Ev.step (fun k => impl_onlyNameBytes.l0.eq_2 _ _ _ k) ?_
    simp only [size_len, if_pos (show (i : Int) < (s.data.toList.length : Int) by omega), if_pos (show (0 : Int) ≤ (i : Int) by omega), bytes_at_ s i hi, w64 (show -9223372036854775808 ≤ (i : Int) + 1 by omega) (by omega)]
    simp only [nameB, smallB, digB, Bool.or_eq_false_iff, Bool.and_eq_false_iff, decide_eq_false_iff_not] at hp
    by_cases h1 : ((s.data.toList[i]).toNat : Int) < 97
    · by_cases h2 : ((s.data.toList[i]).toNat : Int) < 48
      · simp only [if_pos h1, if_pos h2]; exact Ev.now _
      · simp only [if_pos h1, if_neg h2, if_pos (show ((s.data.toList[i]).toNat : Int) > 57 by omega)]; exact Ev.now _
    · simp only [if_neg h1, if_pos (show ((s.data.toList[i]).toNat : Int) > 122 by omega), if_neg (show ¬ ((s.data.toList[i]).toNat : Int) < 48 by omega), if_pos (show ((s.data.toList[i]).toNat : Int) > 57 by omega)]
      exact Ev.now _
  · refine Ev.step (fun k => impl_onlyNameBytes.l0.eq_2 _ _ _ k) ?_
    simp only [size_len, if_neg (show ¬ (s.data.toList.length : Int) < (s.data.toList.length : Int) by omega)]
    exact Ev.now _
theorem head_at (s : ByteArray) (c : UInt8) (l : List UInt8) (hl : s.data.toList = c :: l) : bt s 0 = (c.toNat : Int) := by
  have h : 0 < s.data.toList.length := by rw [hl]; simp
  have := bytes_at_ s 0 h
  rw [show ((0 : Nat) : Int) = 0 from rfl] at this
  rw [this]
  simp only [hl, List.getElem_cons_zero]
theorem isName_ev (s : ByteArray) (h : s.size ≤ 1048576) : Ev (fun k => impl_IsName.f k s) (nameOk s) := by
  unfold impl_IsName.f nameOk
  cases hl : s.data.toList with
  | nil =>
    have hz : s.size = 0 := by rw [size_len', hl]; rfl
    simp only [hz, Int.natCast_zero, if_pos (show (0 : Int) < 1 by omega)]
    exact Ev.now _
  | cons c l =>
    have hz : s.size = l.length + 1 := by rw [size_len', hl]; rfl
    have ho := onlyName_ev s h
    rw [hl] at ho
    simp only [if_neg (show ¬ (s.size : Int) < 1 by omega), if_pos (show (0 : Int) < (s.size : Int) by omega), head_at s c l hl]
    by_cases h1 : (s.size : Int) > 10
    · simp only [if_pos h1, decide_eq_false (show ¬ (s.size : Int) ≤ 10 by omega), Bool.false_and]
      exact Ev.now _
    · simp only [if_neg h1, decide_eq_true (show (s.size : Int) ≤ 10 by omega), Bool.true_and]
      by_cases h2 : (c.toNat : Int) < 97
      · simp only [if_pos h2, smallB, decide_eq_false (show ¬ (97 : Int) ≤ c.toNat by omega), Bool.false_and]
        exact Ev.now _
      · by_cases h3 : (c.toNat : Int) > 122
        · simp only [if_neg h2, if_pos h3, smallB, decide_eq_false (show ¬ (c.toNat : Int) ≤ 122 by omega), Bool.false_and, Bool.and_false]
          exact Ev.now _
        · simp only [if_neg h2, if_neg h3, smallB, decide_eq_true (show (97 : Int) ≤ c.toNat by omega), decide_eq_true (show (c.toNat : Int) ≤ 122 by omega), Bool.true_and]
          exact Ev.bind ho (Ev.now _)
theorem toList_eq (s : ByteArray) : s.toList = s.data.toList := by
  have := Lib.toList_data s
  first | exact this | exact this.symm
theorem specName_ev (s : ByteArray) (h : s.size ≤ 1048576) : Ev (fun k => spec_l01Name.f k s) (nameOk s) := by
  unfold spec_l01Name.f nameOk
  have hj : Ev (fun k => spec_l01Name.j0 k s true) false := by
    refine Ev.step (fun k => spec_l01Name.j0.eq_2 _ _ k) ?_
    simp only [if_true]
    exact Ev.now _
  cases hl : s.data.toList with
  | nil =>
    simp only [toList_eq, hl, if_true]
    exact hj
  | cons c l =>
    have hz : s.size = l.length + 1 := by rw [size_len', hl]; rfl
    simp only [toList_eq, hl, reduceCtorEq, if_false, if_pos (show (0 : Int) < (s.size : Int) by omega), head_at s c l hl, small_eq, Option.bind_some]
    by_cases h1 : (s.size : Int) > 10
    · simp only [if_pos h1, decide_eq_false (show ¬ (s.size : Int) ≤ 10 by omega), Bool.false_and]
      exact hj
    simp only [if_neg h1, decide_eq_true (show (s.size : Int) ≤ 10 by omega), Bool.true_and]
    cases hs : smallB c with
    | false =>
      simp only [Bool.not_false, Bool.false_and]
      exact hj
    | true =>
      simp only [Bool.not_true, Bool.true_and]
      refine Ev.step (fun k => spec_l01Name.j0.eq_2 _ _ k) ?_
      simp only [Bool.false_eq_true, if_false]
      rw [← hl]
      rw [size_len'] at h
      have := all_ev (L := fun k i => spec_l01Name.l0 k s i) s.data.toList nameB true ?_ ?_ ?_
      · simpa using this
      · intro i hi hp P K
        refine EvP.step (fun k => spec_l01Name.l0.eq_2 _ _ k) ?_
        simp only [size_len, if_pos (show (i : Int) < (s.data.toList.length : Int) by omega), if_pos (show (0 : Int) ≤ (i : Int) by omega), bytes_at_ s i hi, w64 (show -9223372036854775808 ≤ (i : Int) + 1 by omega) (by omega), small_eq, dig_eq, Option.bind_some]
        cases h2 : smallB s.data.toList[i] with
        | true => simp only [if_true]; exact K
        | false =>
          simp only [nameB, h2, Bool.false_or] at hp
          simp only [hp, Bool.false_eq_true, if_false, if_true]
          exact K
      · intro i hi hp
        refine Ev.step (fun k => spec_l01Name.l0.eq_2 _ _ k) ?_
        simp only [nameB, Bool.or_eq_false_iff] at hp
        simp only [size_len, if_pos (show (i : Int) < (s.data.toList.length : Int) by omega), if_pos (show (0 : Int) ≤ (i : Int) by omega), bytes_at_ s i hi, w64 (show -9223372036854775808 ≤ (i : Int) + 1 by omega) (by omega), small_eq, dig_eq, Option.bind_some, hp.1, hp.2, Bool.false_eq_true, if_false]
        exact Ev.now _
      · refine Ev.step (fun k => spec_l01Name.l0.eq_2 _ _ k) ?_
        simp only [size_len, if_neg (show ¬ (s.data.toList.length : Int) < (s.data.toList.length : Int) by omega)]
        exact Ev.now _
end Go.Proofs.Ytahadhldokhifaa.PBasics
end

section
namespace Go.Proofs.Ytahadhldokhifaa.EvK
open Go.RowKit Go.Proofs.YtahadhldokhifaaW.PrintWords
set_option linter.unusedVariables false
theorem all_to {α ρ : Type} {L : Nat → Int → Option ρ} (l : List α) (p : α → Bool) (yes no : ρ)
    (step : ∀ (i : Nat) (h : i < l.length), p l[i] = true → ∀ P, EvP (fun k => L k ((i : Int) + 1)) P → EvP (fun k => L k i) P)
    (stop : ∀ (i : Nat) (h : i < l.length), p l[i] = false → Ev (fun k => L k i) no)
    (fin : l.all p = true → Ev (fun k => L k l.length) yes) : Ev (fun k => L k 0) (if l.all p = true then yes else no) := by
  apply EvP.eq
  refine for_evp (L := fun k (_ : Unit) i => L k i) l.length (fun i _ => ∀ x ∈ l.take i, p x = true) ?_ ?_ () (by simp)
  · intro i _ hi hs K
    cases hp : p l[i] with
    | true => exact step i hi hp _ (K () (take_all hi hs hp))
    | false =>
      have e : l.all p = false := by
        rw [List.all_eq_false]
        exact ⟨l[i], List.getElem_mem hi, by simp [hp]⟩
      rw [e]
      exact EvP.of (stop i hi hp) rfl
  · intro _ hs
    have e : l.all p = true := by
      rw [List.all_eq_true]
      simpa using hs
    rw [e]
    exact EvP.of (fin e) rfl
theorem all_n {ρ : Type} {L : Nat → Int → Option ρ} (n : Nat) (p : Nat → Bool) (yes no : ρ)
    (step : ∀ (i : Nat), i < n → p i = true → ∀ P, EvP (fun k => L k ((i : Int) + 1)) P → EvP (fun k => L k i) P)
    (stop : ∀ (i : Nat), i < n → p i = false → Ev (fun k => L k i) no)
    (fin : Ev (fun k => L k n) yes) : Ev (fun k => L k 0) (if (List.range n).all p = true then yes else no) := by
  have := all_to (L := L) (List.range n) p yes no ?_ ?_ ?_
  · exact this
  · intro i hi hp P K
    simp only [List.length_range, List.getElem_range] at hi hp
    exact step i hi hp P K
  · intro i hi hp
    simp only [List.length_range, List.getElem_range] at hi hp
    exact stop i hi hp
  · intro _
    simpa using fin
end Go.Proofs.Ytahadhldokhifaa.EvK
end

section
namespace Go.Proofs.Ytahadhldokhifaa.PDivR
open Go.RowKit Go.Proofs.YtahadhldokhifaaW.PrintWords Go.Proofs.YtahadhldokhifaaW.PrintMore Go.Proofs.Ytahadhldokhifaa.XP Go.Proofs.Ytahadhldokhifaa.EvK
set_option linter.unusedVariables false
set_option linter.unusedSimpArgs false
def dr (a b : Int) : Int := if 0 ≤ a then (2 * a + b) / (2 * b) else -((b - 2 * a) / (2 * b))
theorem ediv_is {x b k : Int} (hb : 0 < b) (h1 : b * k ≤ x) (h2 : x < b * k + b) : x / b = k := by
  have e : x = (x - b * k) + b * k := by omega
  rw [e, Int.add_mul_ediv_left _ _ (by omega), Int.ediv_eq_zero_of_lt (by omega) (by omega)]
  omega
theorem divRound_eq (a b : Int) (hb : 0 < b) (hb2 : b ≤ 1152921504606846976) (h1 : -2305843009213693951 ≤ a) (h2 : a ≤ 2305843009213693951) : impl_divRound.f a b = some (dr a b) := by
  have two : ∀ x : Int, 2 * b * x = 2 * (b * x) := fun x => Int.mul_assoc 2 b x
  unfold impl_divRound.f dr impl_abs.f
  rw [if_neg (show ¬ b = 0 by omega)]
  simp only [Option.bind_some]
  have eb : mx b (wrap64 (-b)) = b := by rw [w64 (by omega) (by omega)]; unfold mx; rw [if_neg (by omega)]
  rw [eb, decide_eq_false (show ¬ b < 0 by omega)]
  by_cases ha : 0 ≤ a
  · have hq := Int.tdiv_eq_ediv_of_nonneg (b := b) ha
    have hr := Int.tmod_eq_emod_of_nonneg (b := b) ha
    rw [hq, hr, if_pos ha, decide_eq_false (show ¬ a < 0 by omega)]
    have hr0 := Int.emod_nonneg a (show b ≠ 0 by omega)
    have hr1 := Int.emod_lt_of_pos a hb
    have he := Int.mul_ediv_add_emod a b
    have hq0 : 0 ≤ a / b := Int.ediv_nonneg ha (by omega)
    have hqa : a / b ≤ a := Int.ediv_le_self b ha
    generalize a / b = q at *
    generalize a % b = r at *
    have er : mx r (wrap64 (-r)) = r := by rw [w64 (by omega) (by omega)]; unfold mx; rw [if_neg (by omega)]
    rw [er, w64 (show -9223372036854775808 ≤ b - r by omega) (by omega), w64 (show -9223372036854775808 ≤ q by omega) (by omega)]
    by_cases hc : r ≥ b - r
    · rw [if_pos hc, if_pos (by rfl), w64 (by omega) (by omega)]
      congr 1
      have h2_ : b * (q + 1) = b * q + b := by rw [Int.mul_add, Int.mul_one]
      have := two (q + 1)
      rw [h2_] at this
      exact (ediv_is (by omega) (by omega) (by omega)).symm
    · rw [if_neg hc]
      congr 1
      have := two q
      exact (ediv_is (by omega) (by omega) (by omega)).symm
  · obtain ⟨n, hn⟩ : ∃ n, a = -n := ⟨-a, by omega⟩
    subst hn
    have hn0 : 0 ≤ n := by omega
    have hq : Int.tdiv (-n) b = -(n / b) := by rw [Int.neg_tdiv, Int.tdiv_eq_ediv_of_nonneg hn0]
    have hr : Int.tmod (-n) b = -(n % b) := by rw [Int.neg_tmod, Int.tmod_eq_emod_of_nonneg hn0]
    rw [hq, hr, if_neg ha, decide_eq_true (show -n < 0 by omega)]
    have hr0 := Int.emod_nonneg n (show b ≠ 0 by omega)
    have hr1 := Int.emod_lt_of_pos n hb
    have he := Int.mul_ediv_add_emod n b
    have hq0 : 0 ≤ n / b := Int.ediv_nonneg hn0 (by omega)
    have hqa : n / b ≤ n := Int.ediv_le_self b hn0
    generalize n / b = q at *
    generalize n % b = r at *
    have er : mx (-r) (wrap64 (-(-r))) = r := by rw [w64 (by omega) (by omega)]; unfold mx; split <;> omega
    rw [er, w64 (show -9223372036854775808 ≤ b - r by omega) (by omega), w64 (show -9223372036854775808 ≤ -q by omega) (by omega)]
    by_cases hc : r ≥ b - r
    · rw [if_pos hc, if_neg (by decide), w64 (by omega) (by omega)]
      congr 1
      have h2_ : b * (q + 1) = b * q + b := by rw [Int.mul_add, Int.mul_one]
      have := two (q + 1)
      rw [h2_] at this
      rw [ediv_is (k := q + 1) (b := 2 * b) (by omega) (by omega) (by omega)]
      omega
    · rw [if_neg hc]
      congr 1
      have := two q
      rw [ediv_is (k := q) (b := 2 * b) (by omega) (by omega) (by omega)]
theorem div_eq (a b : Int) (hb : 0 < b) (hb2 : b ≤ 1152921504606846976) (h1 : -2305843009213693951 ≤ a) (h2 : a ≤ 2305843009213693951) : spec_l01Div.f a b = some (dr a b) := by
  unfold spec_l01Div.f dr
  rw [if_neg (show ¬ b < 0 by omega)]
  by_cases ha : 0 ≤ a
  · rw [if_neg (show ¬ a < 0 by omega), if_pos ha, w64 (show -9223372036854775808 ≤ 2 * b by omega) (by omega), if_neg (show ¬ 2 * b = 0 by omega), w64 (show -9223372036854775808 ≤ 2 * a by omega) (by omega), w64 (show -9223372036854775808 ≤ 2 * a + b by omega) (by omega), Int.tdiv_eq_ediv_of_nonneg (by omega)]
    have h0 : 0 ≤ (2 * a + b) / (2 * b) := Int.ediv_nonneg (by omega) (by omega)
    have h3 : (2 * a + b) / (2 * b) ≤ 2 * a + b := Int.ediv_le_self _ (by omega)
    rw [w64 (by omega) (by omega)]
  · rw [if_pos (show a < 0 by omega), if_neg ha, w64 (show -9223372036854775808 ≤ 2 * b by omega) (by omega), if_neg (show ¬ 2 * b = 0 by omega), w64 (show -9223372036854775808 ≤ 2 * a by omega) (by omega), w64 (show -9223372036854775808 ≤ b - 2 * a by omega) (by omega), Int.tdiv_eq_ediv_of_nonneg (by omega)]
    have h0 : 0 ≤ (b - 2 * a) / (2 * b) := Int.ediv_nonneg (by omega) (by omega)
    have h3 : (b - 2 * a) / (2 * b) ≤ b - 2 * a := Int.ediv_le_self _ (by omega)
    rw [w64 (show -9223372036854775808 ≤ (b - 2 * a) / (2 * b) by omega) (by omega), w64 (by omega) (by omega)]
end Go.Proofs.Ytahadhldokhifaa.PDivR
end

section
namespace Go.Proofs.Ytahadhldokhifaa.PThru
open Go.RowKit Go.Proofs.YtahadhldokhifaaW.PrintWords Go.Proofs.YtahadhldokhifaaW.PrintMore Go.Proofs.Ytahadhldokhifaa.XP Go.Proofs.Ytahadhldokhifaa.EvK Go.Proofs.Ytahadhldokhifaa.PBasics
open Go.Proofs.Ytahadhldokhifaa.PDivR (dr divRound_eq)
set_option linter.unusedVariables false
set_option linter.unusedSimpArgs false
theorem inR_iff {n a b : Int} : inR n a b = true ↔ a ≤ n ∧ n ≤ b := by unfold inR; simp
def pipeOkV (s : ByteArray) (f t l d q : Int) : Bool := nameOk s && (inR f 0 15 && (inR t 0 15 && (!(decide (f = t)) && (inR l 1 10000 && (inR d 20 1000 && inR q 0 5000)))))
theorem nodeV_eq (n : Int) : impl_nodeOk.f n = some (inR n 0 15) := by unfold impl_nodeOk.f; rw [within_eq]; rfl
theorem validPipeV_ev (s : ByteArray) (f t l d q : Int) (h : s.size ≤ 1048576) : Ev (fun k => impl_ValidPipe.f k s f t l d q) (pipeOkV s f t l d q) := by
  unfold impl_ValidPipe.f pipeOkV
  refine Ev.bind (isName_ev s h) ?_
  simp only [nodeV_eq, within_eq, Option.bind_some]
  cases nameOk s <;> simp only [Bool.false_eq_true, if_false, if_true, Bool.false_and, Bool.true_and]
  · exact Ev.now _
  cases inR f 0 15 <;> simp only [Bool.false_eq_true, if_false, if_true, Bool.false_and, Bool.true_and]
  · exact Ev.now _
  cases inR t 0 15 <;> simp only [Bool.false_eq_true, if_false, if_true, Bool.false_and, Bool.true_and]
  · exact Ev.now _
  by_cases hft : f = t
  · simp only [if_pos hft, hft, decide_true, Bool.not_true, Bool.false_and]; exact Ev.now _
  simp only [if_neg hft, hft, decide_false, Bool.not_false, Bool.true_and]
  cases inR l 1 10000 <;> simp only [Bool.false_eq_true, if_false, if_true, Bool.false_and, Bool.true_and]
  · exact Ev.now _
  cases inR d 20 1000 <;> simp only [Bool.false_eq_true, if_false, if_true, Bool.false_and, Bool.true_and]
  · exact Ev.now _
  exact Ev.now _
theorem l03OkV_ev (s : ByteArray) (f t l d q : Int) (h : s.size ≤ 1048576) : Ev (fun k => spec_l03Ok.f k s f t l d q) (pipeOkV s f t l d q) := by
  unfold spec_l03Ok.f pipeOkV
  have hj : ∀ b : Bool, Ev (fun k => spec_l03Ok.j0 k b s f t l d q) (!b && (inR l 1 10000 && (inR d 20 1000 && inR q 0 5000))) := by
    intro b
    refine Ev.step (fun k => spec_l03Ok.j0.eq_2 _ _ _ _ _ _ _ k) ?_
    simp only [in_eq, Option.bind_some]
    cases b <;> simp only [Bool.false_eq_true, if_false, if_true, Bool.false_and, Bool.true_and, Bool.not_false, Bool.not_true]
    · cases inR l 1 10000 <;> simp only [Bool.false_eq_true, if_false, if_true, Bool.false_and, Bool.true_and]
      · exact Ev.now _
      cases inR d 20 1000 <;> simp only [Bool.false_eq_true, if_false, if_true, Bool.false_and, Bool.true_and]
      · exact Ev.now _
      exact Ev.now _
    · exact Ev.now _
  refine Ev.bind (specName_ev s h) ?_
  simp only [in_eq, Option.bind_some]
  cases nameOk s <;> simp only [Bool.false_eq_true, if_false, if_true, Bool.false_and, Bool.true_and]
  · exact hj true
  cases inR f 0 15 <;> simp only [Bool.false_eq_true, if_false, if_true, Bool.false_and, Bool.true_and]
  · exact hj true
  cases inR t 0 15 <;> simp only [Bool.false_eq_true, if_false, if_true, Bool.false_and, Bool.true_and]
  · exact hj true
  exact hj (f == t)
theorem ok_b {s : ByteArray} {f t l d q : Int} (h : pipeOkV s f t l d q = true) : (1 ≤ l ∧ l ≤ 10000) ∧ (20 ≤ d ∧ d ≤ 1000) ∧ (0 ≤ q ∧ q ≤ 5000) := by
  unfold pipeOkV at h
  simp only [Bool.and_eq_true, inR_iff] at h
  exact ⟨h.2.2.2.2.1, h.2.2.2.2.2.1, h.2.2.2.2.2.2⟩
def ab (q : Int) : Int := mx q (wrap64 (-q))
theorem abI_eq (q : Int) : impl_abs.f q = some (ab q) := rfl
theorem abS_eq (q : Int) : spec_l03Abs.f q = some (ab q) := by
  unfold spec_l03Abs.f spec_l00Max.f ab mx
  by_cases h : q > wrap64 (-q)
  · rw [if_pos h, if_neg (show ¬ q < wrap64 (-q) by omega)]; rfl
  · rw [if_neg h]
    by_cases h2 : q < wrap64 (-q)
    · rw [if_pos h2]; rfl
    · rw [if_neg h2, show wrap64 (-q) = q by omega]; rfl
theorem ab_is {q : Int} (h : -9223372036854775807 ≤ q) (h' : q ≤ 9223372036854775807) : ab q = (q.natAbs : Int) := by
  unfold ab mx
  rw [w64 (by omega) (by omega)]
  split <;> omega
def waterOf (l d : Int) : Int := dr (l * d * d * 7854) 10000
theorem water_b {l d : Int} (hl : 1 ≤ l ∧ l ≤ 10000) (hd : 20 ≤ d ∧ d ≤ 1000) : wrap64 ((wrap64 ((wrap64 (l * d)) * d)) * 7854) = l * d * d * 7854 ∧ 3141600 ≤ l * d * d * 7854 ∧ l * d * d * 7854 ≤ 78540000000000 := by
  have h1 : l * d ≤ 10000 * d := Int.mul_le_mul_of_nonneg_right hl.2 (by omega)
  have h0 : 1 * d ≤ l * d := Int.mul_le_mul_of_nonneg_right hl.1 (by omega)
  have h2 : l * d * d ≤ 10000000 * d := Int.mul_le_mul_of_nonneg_right (by omega) (by omega)
  have h3 : 20 * d ≤ l * d * d := Int.mul_le_mul_of_nonneg_right (by omega) (by omega)
  refine ⟨?_, by omega, by omega⟩
  rw [w64 (show -9223372036854775808 ≤ l * d by omega) (by omega), w64 (show -9223372036854775808 ≤ l * d * d by omega) (by omega), w64 (by omega) (by omega)]
theorem waterI {l d : Int} (hl : 1 ≤ l ∧ l ≤ 10000) (hd : 20 ≤ d ∧ d ≤ 1000) (s : ByteArray) (f t q : Int) : impl_Pipe_water.f s f t l d q = some (waterOf l d) := by
  obtain ⟨e, h0, h1⟩ := water_b hl hd
  unfold impl_Pipe_water.f waterOf
  rw [e, divRound_eq _ _ (by omega) (by omega) (by omega) (by omega)]
  rfl
theorem waterS {l d : Int} (hl : 1 ≤ l ∧ l ≤ 10000) (hd : 20 ≤ d ∧ d ≤ 1000) (s : ByteArray) (f t q : Int) : spec_l03Water.f s f t l d q = some (waterOf l d) := by
  obtain ⟨e, h0, h1⟩ := water_b hl hd
  unfold spec_l03Water.f waterOf
  rw [e, PDivR.div_eq _ _ (by omega) (by omega) (by omega) (by omega)]
  rfl
theorem water_pos {l d : Int} (hl : 1 ≤ l ∧ l ≤ 10000) (hd : 20 ≤ d ∧ d ≤ 1000) : 1 ≤ waterOf l d ∧ waterOf l d ≤ 1000000000000000 := by
  obtain ⟨_, h0, h1⟩ := water_b hl hd
  unfold waterOf dr
  rw [if_pos (by omega)]
  omega
def dly (l d q : Int) : Int := wrap64 (Int.tdiv (wrap64 ((wrap64 (waterOf l d + ab q)) - 1)) (ab q))
theorem dly_pos {l d q : Int} (hl : 1 ≤ l ∧ l ≤ 10000) (hd : 20 ≤ d ∧ d ≤ 1000) (hq : -100000 ≤ q ∧ q ≤ 100000) (h0 : q ≠ 0) : 1 ≤ dly l d q := by
  obtain ⟨g0, g1⟩ := water_pos hl hd
  have ha : ab q = (q.natAbs : Int) := ab_is (by omega) (by omega)
  have hb : 1 ≤ ab q ∧ ab q ≤ 100000 := by rw [ha]; omega
  unfold dly
  rw [w64 (show -9223372036854775808 ≤ waterOf l d + ab q by omega) (by omega), w64 (show -9223372036854775808 ≤ waterOf l d + ab q - 1 by omega) (by omega)]
  rw [Int.tdiv_eq_ediv_of_nonneg (by omega)]
  have h1 : 1 ≤ (waterOf l d + ab q - 1) / ab q := by
    rw [Int.le_ediv_iff_mul_le (by omega)]
    omega
  have h2 : (waterOf l d + ab q - 1) / ab q ≤ waterOf l d + ab q - 1 := Int.ediv_le_self _ (by omega)
  rw [w64 (by omega) (by omega)]
  exact h1
theorem ab_ne {q : Int} (hq : -100000 ≤ q ∧ q ≤ 100000) (h : q ≠ 0) : ab q ≠ 0 := by rw [ab_is (by omega) (by omega)]; omega
theorem delayI {l d q : Int} (hl : 1 ≤ l ∧ l ≤ 10000) (hd : 20 ≤ d ∧ d ≤ 1000) (hq : -100000 ≤ q ∧ q ≤ 100000) (h0 : q ≠ 0) (s : ByteArray) (f t w : Int) : impl_Pipe_delay.f s f t l d w q = some (dly l d q) := by
  unfold impl_Pipe_delay.f impl_divUp.f
  rw [waterI hl hd, abI_eq]
  simp only [Option.bind_some, if_neg (ab_ne hq h0)]
  rfl
theorem delayS {l d q : Int} (hl : 1 ≤ l ∧ l ≤ 10000) (hd : 20 ≤ d ∧ d ≤ 1000) (hq : -100000 ≤ q ∧ q ≤ 100000) (h0 : q ≠ 0) (s : ByteArray) (f t w : Int) : spec_l03Delay.f s f t l d w q = some (dly l d q) := by
  unfold spec_l03Delay.f
  rw [waterS hl hd, abS_eq]
  simp only [Option.bind_some, if_neg (ab_ne hq h0)]
  rfl
def lossOf (l w x g : Int) : Int := dr (w * l * (x - g)) 100000
def endOf (l w q g x : Int) : Int := if x ≥ g then mx (wrap64 (x - dr (100000 * lossOf l w x g) (4186 * ab q))) g else mn (wrap64 (x - dr (100000 * lossOf l w x g) (4186 * ab q))) g
theorem dr_abs {a b : Int} (hb : 0 < b) : -(2 * a.natAbs + b) ≤ dr a b ∧ dr a b ≤ 2 * a.natAbs + b := by
  unfold dr
  split
  · have h1 := Int.ediv_nonneg (show 0 ≤ 2 * a + b by omega) (show 0 ≤ 2 * b by omega)
    have h2 := Int.ediv_le_self (a := 2 * a + b) (2 * b) (by omega)
    omega
  · have h1 := Int.ediv_nonneg (show 0 ≤ b - 2 * a by omega) (show 0 ≤ 2 * b by omega)
    have h2 := Int.ediv_le_self (a := b - 2 * a) (2 * b) (by omega)
    omega
theorem mulB {x y : Int} {A B : Nat} (h1 : x.natAbs ≤ A) (h2 : y.natAbs ≤ B) : (x * y).natAbs ≤ A * B := by
  rw [Int.natAbs_mul]
  exact Nat.mul_le_mul h1 h2
theorem loss_b {l w x g : Int} (hl : 1 ≤ l ∧ l ≤ 10000) (hw : 0 ≤ w ∧ w ≤ 5000) (hx : -5000 ≤ x ∧ x ≤ 20000) (hg : -5000 ≤ g ∧ g ≤ 20000) :
    wrap64 ((wrap64 (w * l)) * (wrap64 (x - g))) = w * l * (x - g) ∧ (w * l * (x - g)).natAbs ≤ 1250000000000 := by
  have h1 : (w * l).natAbs ≤ 5000 * 10000 := mulB (by omega) (by omega)
  have h2 : (w * l * (x - g)).natAbs ≤ 5000 * 10000 * 25000 := mulB h1 (by omega)
  refine ⟨?_, by omega⟩
  rw [w64 (show -9223372036854775808 ≤ w * l by omega) (by omega), w64 (show -9223372036854775808 ≤ x - g by omega) (by omega), w64 (by omega) (by omega)]
theorem endI {l d w q x g : Int} (hl : 1 ≤ l ∧ l ≤ 10000) (hw : 0 ≤ w ∧ w ≤ 5000) (hq : -100000 ≤ q ∧ q ≤ 100000) (h0 : q ≠ 0) (hx : -5000 ≤ x ∧ x ≤ 20000) (hg : -5000 ≤ g ∧ g ≤ 20000) (s : ByteArray) (f t : Int) : impl_Pipe_endTemperature.f s f t l d w q x g = some (endOf l w q g x) := by
  obtain ⟨e, hb⟩ := loss_b hl hw hx hg
  have ha : 1 ≤ ab q ∧ ab q ≤ 100000 := by rw [ab_is (by omega) (by omega)]; omega
  have hd := dr_abs (a := w * l * (x - g)) (b := 100000) (by omega)
  unfold impl_Pipe_endTemperature.f impl_Pipe_loss.f endOf
  rw [if_neg h0, e, divRound_eq _ _ (by omega) (by omega) (by omega) (by omega), abI_eq]
  simp only [Option.bind_some]
  rw [w64 (show -9223372036854775808 ≤ 100000 * dr (w * l * (x - g)) 100000 by omega) (by omega), w64 (show -9223372036854775808 ≤ 4186 * ab q by omega) (by omega), divRound_eq _ _ (by omega) (by omega) (by omega) (by omega)]
  simp only [Option.bind_some]
  unfold lossOf
  split <;> rfl
theorem endS {l d w q x g : Int} (hl : 1 ≤ l ∧ l ≤ 10000) (hw : 0 ≤ w ∧ w ≤ 5000) (hq : -100000 ≤ q ∧ q ≤ 100000) (h0 : q ≠ 0) (hx : -5000 ≤ x ∧ x ≤ 20000) (hg : -5000 ≤ g ∧ g ≤ 20000) (s : ByteArray) (f t : Int) : spec_l03End.f s f t l d w q x g = some (endOf l w q g x) := by
  obtain ⟨e, hb⟩ := loss_b hl hw hx hg
  have ha : 1 ≤ ab q ∧ ab q ≤ 100000 := by rw [ab_is (by omega) (by omega)]; omega
  have hd := dr_abs (a := w * l * (x - g)) (b := 100000) (by omega)
  unfold spec_l03End.f spec_l03Loss.f endOf
  rw [e, PDivR.div_eq _ _ (by omega) (by omega) (by omega) (by omega), abS_eq]
  simp only [Option.bind_some]
  rw [w64 (show -9223372036854775808 ≤ dr (w * l * (x - g)) 100000 * 100000 by omega) (by omega), w64 (show -9223372036854775808 ≤ ab q * 4186 by omega) (by omega), PDivR.div_eq _ _ (by omega) (by omega) (by omega) (by omega)]
  simp only [Option.bind_some]
  unfold lossOf
  rw [show dr (w * l * (x - g)) 100000 * 100000 = 100000 * dr (w * l * (x - g)) 100000 by omega, show ab q * 4186 = 4186 * ab q by omega]
  generalize wrap64 (x - dr (100000 * dr (w * l * (x - g)) 100000) (4186 * ab q)) = y
  unfold spec_l00Max.f spec_l00Min.f mx mn
  by_cases hxg : x ≥ g
  · simp only [if_pos hxg]
    split <;> rfl
  · simp only [if_neg hxg]
    split <;> rfl
def gt (l : List S43) (i : Nat) : S43 := l.getD i z43
theorem rdg (l : List S43) (i : Nat) : rd_T43 l (i : Int) = gt l i := rfl
def timeB (x : Int) : Bool := inR x 0 1000000
def degB (x : Int) : Bool := inR x (-5000) 20000
def stepB (l : List S43) (i : Nat) : Bool := timeB (gt l i).f0 && (degB (gt l i).f1 && (if i = 0 then decide ((gt l i).f0 = 0) else decide ((gt l (i - 1)).f0 < (gt l i).f0)))
def waveB (l : List S43) : Bool := (List.range l.length).all (stepB l) && inR (l.length : Int) 1 24
theorem timeI (x : Int) : impl_timeOk.f x = some (timeB x) := by unfold impl_timeOk.f; rw [within_eq]; rfl
theorem timeS (x : Int) : spec_l09Time.f x = some (timeB x) := by unfold spec_l09Time.f; rw [in_eq]; rfl
theorem degI (x : Int) : impl_degreesOk.f x = some (degB x) := by unfold impl_degreesOk.f; rw [within_eq]; rfl
theorem degS (x : Int) : spec_l03Degrees.f x = some (degB x) := by unfold spec_l03Degrees.f; rw [in_eq]; rfl
theorem specWave_ev (l : List S43) (hl : l.length ≤ 1048576) : Ev (fun k => spec_l09Ok.f k l) (waveB l) := by
  unfold spec_l09Ok.f waveB
  have hj : ∀ (i : Nat) (b : Bool), i < l.length → ∀ P, (b = false → EvP (fun k => spec_l09Ok.l0 k l ((i : Int) + 1)) P) → (b = true → P false) → EvP (fun k => spec_l09Ok.j1 k l i b) P := by
    intro i b hi P h1 h2
    refine EvP.step (fun k => spec_l09Ok.j1.eq_2 _ _ _ k) ?_
    cases b with
    | true => exact EvP.now (h2 rfl)
    | false =>
      simp only [Bool.false_eq_true, if_false, w64 (show -9223372036854775808 ≤ (i : Int) + 1 by omega) (by omega)]
      exact h1 rfl
  have body : ∀ (i : Nat), i < l.length → ∀ P, (stepB l i = true → EvP (fun k => spec_l09Ok.l0 k l ((i : Int) + 1)) P) → (stepB l i = false → P false) → EvP (fun k => spec_l09Ok.l0 k l i) P := by
    intro i hi P K1 K2
    refine EvP.step (fun k => spec_l09Ok.l0.eq_2 _ _ k) ?_
    simp only [if_pos (show (i : Int) < (l.length : Int) by omega), if_pos (show (0 : Int) ≤ (i : Int) by omega), rdg, timeS, degS, Option.bind_some]
    unfold stepB at K1 K2
    cases h1 : timeB (gt l i).f0 with
    | false =>
      simp only [h1, Bool.false_eq_true, if_false, Bool.false_and] at K2 ⊢
      exact hj i true hi P (fun h => by cases h) (fun _ => K2 trivial)
    | true =>
      simp only [h1, if_true, Bool.true_and] at K1 K2 ⊢
      cases h2 : degB (gt l i).f1 with
      | false =>
        simp only [h2, Bool.false_eq_true, if_false, Bool.false_and] at K2 ⊢
        exact hj i true hi P (fun h => by cases h) (fun _ => K2 trivial)
      | true =>
        simp only [h2, if_true, Bool.true_and] at K1 K2 ⊢
        by_cases hz : i = 0
        · subst hz
          simp only [show ((0 : Nat) : Int) = 0 from rfl, if_true, eq_self_iff_true, gt_iff_lt, Int.lt_irrefl, if_false] at K1 K2 ⊢
          by_cases hf : (gt l 0).f0 = 0
          · simp only [hf, if_true, decide_true] at K1 ⊢
            exact hj 0 false hi P (fun _ => K1 trivial) (fun h => by cases h)
          · simp only [if_neg hf, hf, decide_false] at K2 ⊢
            exact hj 0 true hi P (fun h => by cases h) (fun _ => K2 trivial)
        · have wd : wrap64 ((i : Int) - 1) = ((i - 1 : Nat) : Int) := by rw [w64 (by omega) (by omega)]; omega
          simp only [if_neg hz, if_neg (show ¬ (i : Int) = 0 by omega), if_pos (show (i : Int) > 0 by omega), wd, if_pos (show (0 : Int) ≤ ((i - 1 : Nat) : Int) by omega), if_pos (show ((i - 1 : Nat) : Int) < (l.length : Int) by omega), rdg] at K1 K2 ⊢
          by_cases hf : (gt l (i - 1)).f0 < (gt l i).f0
          · rw [decide_eq_false (show ¬ (gt l (i - 1)).f0 ≥ (gt l i).f0 by omega)]
            exact hj i false hi P (fun _ => K1 (decide_eq_true hf)) (fun h => by cases h)
          · rw [decide_eq_true (show (gt l (i - 1)).f0 ≥ (gt l i).f0 by omega)]
            exact hj i true hi P (fun h => by cases h) (fun _ => K2 (decide_eq_false hf))
  have := all_n (L := fun k i => spec_l09Ok.l0 k l i) l.length (stepB l) (inR (l.length : Int) 1 24) false ?_ ?_ ?_
  · cases ha : (List.range l.length).all (stepB l) with
    | true => rw [ha] at this; simpa using this
    | false => rw [ha] at this; simpa using this
  · intro i hi hp P K
    exact body i hi P (fun _ => K) (fun h => by rw [hp] at h; cases h)
  · intro i hi hp
    exact EvP.eq (body i hi _ (fun h => by rw [hp] at h; cases h) (fun _ => rfl))
  · refine Ev.step (fun k => spec_l09Ok.l0.eq_2 _ _ k) ?_
    simp only [if_neg (show ¬ (l.length : Int) < (l.length : Int) by omega), in_eq, Option.bind_some]
    exact Ev.now _
theorem implWave_ev (l : List S43) (hl : l.length ≤ 1048576) : Ev (fun k => impl_ValidWave.f k l) (waveB l) := by
  unfold impl_ValidWave.f
  have bad : waveB l = false → Ev (fun k => impl_ValidWave.j0 k l true) (waveB l) := by
    intro e
    rw [e]
    refine Ev.step (fun k => impl_ValidWave.j0.eq_2 _ _ k) ?_
    simp only [if_true]
    exact Ev.now _
  by_cases h1 : (l.length : Int) < 1
  · simp only [if_pos h1]
    refine bad ?_
    unfold waveB inR
    rw [decide_eq_false (show ¬ 1 ≤ (l.length : Int) by omega)]
    simp
  simp only [if_neg h1]
  by_cases h2 : (l.length : Int) > 24
  · simp only [if_pos h2]
    refine bad ?_
    unfold waveB inR
    rw [decide_eq_false (show ¬ (l.length : Int) ≤ 24 by omega)]
    simp
  simp only [if_neg h2, if_pos (show 0 < (l.length : Int) by omega)]
  rw [show rd_T43 l 0 = gt l 0 from rfl]
  by_cases h3 : (gt l 0).f0 = 0
  · rw [h3, bne_self_eq_false]
    refine Ev.step (fun k => impl_ValidWave.j0.eq_2 _ _ k) ?_
    simp only [Bool.false_eq_true, if_false]
    have ew : waveB l = if (List.range l.length).all (stepB l) = true then true else false := by
      unfold waveB
      rw [show inR (l.length : Int) 1 24 = true from inR_iff.2 ⟨by omega, by omega⟩]
      cases (List.range l.length).all (stepB l) <;> rfl
    rw [ew]
    have body : ∀ (i : Nat), i < l.length → ∀ P, (stepB l i = true → EvP (fun k => impl_ValidWave.l0 k l l (l.length : Int) ((i : Int) + 1)) P) → (stepB l i = false → P false) → EvP (fun k => impl_ValidWave.l0 k l l (l.length : Int) i) P := by
      intro i hi P K1 K2
      refine EvP.step (fun k => impl_ValidWave.l0.eq_2 _ _ _ _ k) ?_
      simp only [if_pos (show (i : Int) < (l.length : Int) by omega), if_pos (show (0 : Int) ≤ (i : Int) by omega), rdg, timeI, degI, Option.bind_some]
      unfold stepB at K1 K2
      cases h1 : timeB (gt l i).f0 with
      | false =>
        simp only [h1, Bool.false_eq_true, if_false, Bool.false_and] at K2 ⊢
        exact EvP.now (K2 trivial)
      | true =>
        simp only [h1, if_true, Bool.true_and] at K1 K2 ⊢
        cases h2 : degB (gt l i).f1 with
        | false =>
          simp only [h2, Bool.false_eq_true, if_false, Bool.false_and] at K2 ⊢
          exact EvP.now (K2 trivial)
        | true =>
          simp only [h2, if_true, Bool.true_and] at K1 K2 ⊢
          by_cases hz : i = 0
          · subst hz
            simp only [if_true, h3, decide_true, if_neg (show ¬ ((0 : Nat) : Int) > 0 by omega), w64 (show -9223372036854775808 ≤ ((0 : Nat) : Int) + 1 by omega) (by omega)] at K1 ⊢
            exact K1 trivial
          · have wd : wrap64 ((i : Int) - 1) = ((i - 1 : Nat) : Int) := by rw [w64 (by omega) (by omega)]; omega
            simp only [if_neg hz, if_pos (show (i : Int) > 0 by omega), wd, if_pos (show (0 : Int) ≤ ((i - 1 : Nat) : Int) by omega), if_pos (show ((i - 1 : Nat) : Int) < (l.length : Int) by omega), rdg, w64 (show -9223372036854775808 ≤ (i : Int) + 1 by omega) (by omega)] at K1 K2 ⊢
            by_cases hf : (gt l (i - 1)).f0 < (gt l i).f0
            · simp only [if_neg (show ¬ (gt l i).f0 ≤ (gt l (i - 1)).f0 by omega)]
              exact K1 (decide_eq_true hf)
            · simp only [if_pos (show (gt l i).f0 ≤ (gt l (i - 1)).f0 by omega)]
              exact EvP.now (K2 (decide_eq_false hf))
    refine all_n (L := fun k i => impl_ValidWave.l0 k l l (l.length : Int) i) l.length (stepB l) true false ?_ ?_ ?_
    · intro i hi hp P K
      exact body i hi P (fun _ => K) (fun h => by rw [hp] at h; cases h)
    · intro i hi hp
      exact EvP.eq (body i hi _ (fun h => by rw [hp] at h; cases h) (fun _ => rfl))
    · refine Ev.step (fun k => impl_ValidWave.l0.eq_2 _ _ _ _ k) ?_
      simp only [if_neg (show ¬ (l.length : Int) < (l.length : Int) by omega)]
      exact Ev.now _
  · rw [show ((gt l 0).f0 != 0) = true from bne_iff_ne.2 h3]
    refine bad ?_
    have hs : stepB l 0 = false := by
      unfold stepB
      rw [if_pos rfl, decide_eq_false h3]
      simp
    unfold waveB
    rw [show (List.range l.length).all (stepB l) = false from by
      rw [List.all_eq_false]
      exact ⟨0, List.mem_range.2 (by omega), by simp [hs]⟩]
    rfl
end Go.Proofs.Ytahadhldokhifaa.PThru
end
