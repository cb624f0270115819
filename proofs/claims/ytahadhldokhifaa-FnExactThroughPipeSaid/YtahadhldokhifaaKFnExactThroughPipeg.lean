/- The law FnExactThroughPipe: part 6 of its texts, joined (wip/pack.py). -/
import Derived.Test.YtahadhldokhifaaKFnExactThroughPipea
import Derived.Test.YtahadhldokhifaaKFnExactThroughPipeb
import Derived.Test.YtahadhldokhifaaKFnExactThroughPipec
import Derived.Test.YtahadhldokhifaaKFnExactThroughPiped
import Derived.Test.YtahadhldokhifaaKFnExactThroughPipee
import Derived.Test.YtahadhldokhifaaKFnExactThroughPipef

section
namespace Go.Proofs.Ytahadhldokhifaa.XP
open Go.RowKit Go.Proofs.YtahadhldokhifaaW.PrintWords Go.Proofs.YtahadhldokhifaaW.PrintLast Go.Proofs.YtahadhldokhifaaW.PrintMore
attribute [local go_sem] run_eql_slice_nil binOp_string_gtr' binOp_string_leq' binOp_string_geq' max2_int min2_int max_two min_two max_three min_three max_four min_four   -- for this text's walks alone
set_option linter.unusedVariables false
set_option linter.unusedSimpArgs false
def impl_ThroughPipe.l0 (a0_0 : ByteArray) (a0_1 a0_2 a0_3 a0_4 a0_5 a1 a3 : Int) : Nat → List (S43) → Int → Option (List (S43))
 | 0, _, _ => none
 | k + 1, x, i => if i < (x.length : Int) then (if 0 ≤ i then ((impl_Pipe_endTemperature.f a0_0 a0_1 a0_2 a0_3 a0_4 a0_5 a1 (rd_T43 x i).f1 a3).bind fun t => impl_ThroughPipe.l0 a0_0 a0_1 a0_2 a0_3 a0_4 a0_5 a1 a3 k (x.set i.toNat ⟨(rd_T43 x i).f0, t⟩) (wrap64 (i + 1))) else none) else some x
def impl_ThroughPipe.f (k : Nat) (a0_0 : ByteArray) (a0_1 : Int) (a0_2 : Int) (a0_3 : Int) (a0_4 : Int) (a0_5 : Int) (a1 : Int) (l2 : List (S43)) (a3 : Int) (a4 : Int) : Option (List (S43) × Int) :=
 (impl_ValidPipe.f k a0_0 a0_1 a0_2 a0_3 a0_4 a0_5).bind fun b1 => if b1 = true then ((impl_ValidWave.f k l2).bind fun b2 => if b2 = true then ((impl_flowOk.f a1).bind fun b3 => if b3 = true then ((impl_degreesOk.f a3).bind fun b4 => if b4 = true then ((impl_degreesOk.f a4).bind fun b5 => if b5 = true then (if a1 = 0 then some ([], 6) else
  ((slices_Clone_StepS.f l2).bind fun c => (impl_ThroughPipe.l0 a0_0 a0_1 a0_2 a0_3 a0_4 a0_5 a1 a3 k c 0).bind fun x => (impl_Pipe_delay.f a0_0 a0_1 a0_2 a0_3 a0_4 a0_5 a1).bind fun d => (impl_delayed.f k x d a4).bind fun y => impl_trimmedWave.f k y)) else some ([], 2)) else some ([], 2)) else some ([], 2)) else some ([], 1)) else some ([], 1)
set_option maxHeartbeats 8000000 in
set_option maxRecDepth 100000 in
theorem impl_ThroughPipe.calls (k : Nat) (a0_0 : ByteArray) (a0_1 : Int) (a0_2 : Int) (a0_3 : Int) (a0_4 : Int) (a0_5 : Int) (a1 : Int) (A2 : Option Addr) (c2 : Nat) (l2 : List (S43)) (a3 : Int) (a4 : Int) (r1 : List (S43)) (r2 : Int) (w : World) (hr2 : Kd.C k43 w A2 l2.length l2) (hc2 : l2.length ≤ c2) (h : impl_ThroughPipe.f k a0_0 a0_1 a0_2 a0_3 a0_4 a0_5 a1 l2 a3 a4 = some (r1, r2)) :
  Calls Try.prog 9 #[.agg #[.string a0_0, .int .i64 a0_1, .int .i64 a0_2, .int .i64 a0_3, .int .i64 a0_4, .int .i64 a0_5], .int .i64 a1, .slice A2 l2.length c2, .int .i64 a3, .int .i64 a4] w fun e w' => ∃ v0_ : Value, e = .returned (.tuple #[v0_, .int .i64 r2]) ∧ Kd.R k43 43 w' w.heap.size (fun _ => True) v0_ r1 ∧ Below w.heap.size w w' := by
 unfold impl_ThroughPipe.f at h
 have HR := Aside0.mk hr2
 clear hr2
 obtain ⟨b0, hb0, h⟩ := Option.bind_eq_some_iff.mp h
 have HV1 := Aside0.mk hb0
 clear hb0
 cases b0 with
 | false =>
  simp only [Bool.false_eq_true, if_false, Option.some.injEq, Prod.mk.injEq] at h
  obtain ⟨rfl, rfl⟩ := h
  go_enter Try.func9, Try.ntmps9
  go_wp2_with (first
   | ((with_reducible refine gate_dst (N := 5) rfl ?_); refine box_event ?hg (N := 5) ?hd (cs := #[.string a0_0, .int .i64 a0_1, .int .i64 a0_2, .int .i64 a0_3, .int .i64 a0_4, .int .i64 a0_5]) (t := 30) ?hr ?_; (case hd => rfl); (case hg => rfl); (case hr => first | (go_simp; done) | (go_simp; rfl)); intro gp hgp w12 hbox hb; have HP5 := Aside0.mk hbox; have HB := Aside0.mk (below_step (Below.refl _ _) hb); have hcz5_0 : World.cell? _ ⟨gp, 0, none⟩ = some (.string a0_0) := (blk_cell HP5.out 0).trans rfl; have hcz5_1 : World.cell? _ ⟨gp, 1, none⟩ = some (.int .i64 a0_1) := (blk_cell HP5.out 1).trans rfl; have hcz5_2 : World.cell? _ ⟨gp, 2, none⟩ = some (.int .i64 a0_2) := (blk_cell HP5.out 2).trans rfl; have hcz5_3 : World.cell? _ ⟨gp, 3, none⟩ = some (.int .i64 a0_3) := (blk_cell HP5.out 3).trans rfl; have hcz5_4 : World.cell? _ ⟨gp, 4, none⟩ = some (.int .i64 a0_4) := (blk_cell HP5.out 4).trans rfl; have hcz5_5 : World.cell? _ ⟨gp, 5, none⟩ = some (.int .i64 a0_5) := (blk_cell HP5.out 5).trans rfl; clear hb hbox hgp)
   | (go_at_call 20; go_loud ((with_reducible refine (impl_ValidPipe.calls k a0_0 a0_1 a0_2 a0_3 a0_4 a0_5 false _ HV1.out).mono ?_); rintro e w2 ⟨rfl, hb⟩; have hb_ := hb; clear hcz5_0 hcz5_1 hcz5_2 hcz5_3 hcz5_4 hcz5_5; replace HP5 := Aside0.mk (blk_below HP5.out hb_); replace HB := Aside0.mk (below_step HB.out hb_); have hcz5_0 : World.cell? _ ⟨gp, 0, none⟩ = some (.string a0_0) := (blk_cell HP5.out 0).trans rfl; have hcz5_1 : World.cell? _ ⟨gp, 1, none⟩ = some (.int .i64 a0_1) := (blk_cell HP5.out 1).trans rfl; have hcz5_2 : World.cell? _ ⟨gp, 2, none⟩ = some (.int .i64 a0_2) := (blk_cell HP5.out 2).trans rfl; have hcz5_3 : World.cell? _ ⟨gp, 3, none⟩ = some (.int .i64 a0_3) := (blk_cell HP5.out 3).trans rfl; have hcz5_4 : World.cell? _ ⟨gp, 4, none⟩ = some (.int .i64 a0_4) := (blk_cell HP5.out 4).trans rfl; have hcz5_5 : World.cell? _ ⟨gp, 5, none⟩ = some (.int .i64 a0_5) := (blk_cell HP5.out 5).trans rfl; clear hb hb_)))
  go_ret2
  exact ⟨_, rfl, Kd.R_nil _ _ _ _ _, HB.out⟩
 | true =>
  simp only [if_true] at h
  obtain ⟨b1, hb1, h⟩ := Option.bind_eq_some_iff.mp h
  have HV2 := Aside0.mk hb1
  clear hb1
  cases b1 with
  | false =>
   simp only [Bool.false_eq_true, if_false, Option.some.injEq, Prod.mk.injEq] at h
   obtain ⟨rfl, rfl⟩ := h
   go_enter Try.func9, Try.ntmps9
   go_wp2_with (first
    | ((with_reducible refine gate_dst (N := 5) rfl ?_); refine box_event ?hg (N := 5) ?hd (cs := #[.string a0_0, .int .i64 a0_1, .int .i64 a0_2, .int .i64 a0_3, .int .i64 a0_4, .int .i64 a0_5]) (t := 30) ?hr ?_; (case hd => rfl); (case hg => rfl); (case hr => first | (go_simp; done) | (go_simp; rfl)); intro gp hgp w12 hbox hb; have HP5 := Aside0.mk hbox; have HB := Aside0.mk (below_step (Below.refl _ _) hb); have hcz5_0 : World.cell? _ ⟨gp, 0, none⟩ = some (.string a0_0) := (blk_cell HP5.out 0).trans rfl; have hcz5_1 : World.cell? _ ⟨gp, 1, none⟩ = some (.int .i64 a0_1) := (blk_cell HP5.out 1).trans rfl; have hcz5_2 : World.cell? _ ⟨gp, 2, none⟩ = some (.int .i64 a0_2) := (blk_cell HP5.out 2).trans rfl; have hcz5_3 : World.cell? _ ⟨gp, 3, none⟩ = some (.int .i64 a0_3) := (blk_cell HP5.out 3).trans rfl; have hcz5_4 : World.cell? _ ⟨gp, 4, none⟩ = some (.int .i64 a0_4) := (blk_cell HP5.out 4).trans rfl; have hcz5_5 : World.cell? _ ⟨gp, 5, none⟩ = some (.int .i64 a0_5) := (blk_cell HP5.out 5).trans rfl; clear hb hbox hgp)
    | (go_at_call 20; go_loud ((with_reducible refine (impl_ValidPipe.calls k a0_0 a0_1 a0_2 a0_3 a0_4 a0_5 true _ HV1.out).mono ?_); rintro e w2 ⟨rfl, hb⟩; have hb_ := hb; clear hcz5_0 hcz5_1 hcz5_2 hcz5_3 hcz5_4 hcz5_5; replace HP5 := Aside0.mk (blk_below HP5.out hb_); replace HB := Aside0.mk (below_step HB.out hb_); have hcz5_0 : World.cell? _ ⟨gp, 0, none⟩ = some (.string a0_0) := (blk_cell HP5.out 0).trans rfl; have hcz5_1 : World.cell? _ ⟨gp, 1, none⟩ = some (.int .i64 a0_1) := (blk_cell HP5.out 1).trans rfl; have hcz5_2 : World.cell? _ ⟨gp, 2, none⟩ = some (.int .i64 a0_2) := (blk_cell HP5.out 2).trans rfl; have hcz5_3 : World.cell? _ ⟨gp, 3, none⟩ = some (.int .i64 a0_3) := (blk_cell HP5.out 3).trans rfl; have hcz5_4 : World.cell? _ ⟨gp, 4, none⟩ = some (.int .i64 a0_4) := (blk_cell HP5.out 4).trans rfl; have hcz5_5 : World.cell? _ ⟨gp, 5, none⟩ = some (.int .i64 a0_5) := (blk_cell HP5.out 5).trans rfl; clear hb hb_))
    | (go_at_call 21; go_loud ((with_reducible refine (impl_ValidWave.calls k A2 c2 l2 false _ (Kd.C_below HR.out HB.out) hc2 HV2.out).mono ?_); rintro e w2 ⟨rfl, hb⟩; have hb_ := hb; clear hcz5_0 hcz5_1 hcz5_2 hcz5_3 hcz5_4 hcz5_5; replace HP5 := Aside0.mk (blk_below HP5.out hb_); replace HB := Aside0.mk (below_step HB.out hb_); have hcz5_0 : World.cell? _ ⟨gp, 0, none⟩ = some (.string a0_0) := (blk_cell HP5.out 0).trans rfl; have hcz5_1 : World.cell? _ ⟨gp, 1, none⟩ = some (.int .i64 a0_1) := (blk_cell HP5.out 1).trans rfl; have hcz5_2 : World.cell? _ ⟨gp, 2, none⟩ = some (.int .i64 a0_2) := (blk_cell HP5.out 2).trans rfl; have hcz5_3 : World.cell? _ ⟨gp, 3, none⟩ = some (.int .i64 a0_3) := (blk_cell HP5.out 3).trans rfl; have hcz5_4 : World.cell? _ ⟨gp, 4, none⟩ = some (.int .i64 a0_4) := (blk_cell HP5.out 4).trans rfl; have hcz5_5 : World.cell? _ ⟨gp, 5, none⟩ = some (.int .i64 a0_5) := (blk_cell HP5.out 5).trans rfl; clear hb hb_)))
   go_ret2
   exact ⟨_, rfl, Kd.R_nil _ _ _ _ _, HB.out⟩
  | true =>
   simp only [if_true] at h
   obtain ⟨b2, hb2, h⟩ := Option.bind_eq_some_iff.mp h
   have HV3 := Aside0.mk hb2
   clear hb2
   cases b2 with
   | false =>
    simp only [Bool.false_eq_true, if_false, Option.some.injEq, Prod.mk.injEq] at h
    obtain ⟨rfl, rfl⟩ := h
    go_enter Try.func9, Try.ntmps9
    go_wp2_with (first
     | ((with_reducible refine gate_dst (N := 5) rfl ?_); refine box_event ?hg (N := 5) ?hd (cs := #[.string a0_0, .int .i64 a0_1, .int .i64 a0_2, .int .i64 a0_3, .int .i64 a0_4, .int .i64 a0_5]) (t := 30) ?hr ?_; (case hd => rfl); (case hg => rfl); (case hr => first | (go_simp; done) | (go_simp; rfl)); intro gp hgp w12 hbox hb; have HP5 := Aside0.mk hbox; have HB := Aside0.mk (below_step (Below.refl _ _) hb); have hcz5_0 : World.cell? _ ⟨gp, 0, none⟩ = some (.string a0_0) := (blk_cell HP5.out 0).trans rfl; have hcz5_1 : World.cell? _ ⟨gp, 1, none⟩ = some (.int .i64 a0_1) := (blk_cell HP5.out 1).trans rfl; have hcz5_2 : World.cell? _ ⟨gp, 2, none⟩ = some (.int .i64 a0_2) := (blk_cell HP5.out 2).trans rfl; have hcz5_3 : World.cell? _ ⟨gp, 3, none⟩ = some (.int .i64 a0_3) := (blk_cell HP5.out 3).trans rfl; have hcz5_4 : World.cell? _ ⟨gp, 4, none⟩ = some (.int .i64 a0_4) := (blk_cell HP5.out 4).trans rfl; have hcz5_5 : World.cell? _ ⟨gp, 5, none⟩ = some (.int .i64 a0_5) := (blk_cell HP5.out 5).trans rfl; clear hb hbox hgp)
     | (go_at_call 20; go_loud ((with_reducible refine (impl_ValidPipe.calls k a0_0 a0_1 a0_2 a0_3 a0_4 a0_5 true _ HV1.out).mono ?_); rintro e w2 ⟨rfl, hb⟩; have hb_ := hb; clear hcz5_0 hcz5_1 hcz5_2 hcz5_3 hcz5_4 hcz5_5; replace HP5 := Aside0.mk (blk_below HP5.out hb_); replace HB := Aside0.mk (below_step HB.out hb_); have hcz5_0 : World.cell? _ ⟨gp, 0, none⟩ = some (.string a0_0) := (blk_cell HP5.out 0).trans rfl; have hcz5_1 : World.cell? _ ⟨gp, 1, none⟩ = some (.int .i64 a0_1) := (blk_cell HP5.out 1).trans rfl; have hcz5_2 : World.cell? _ ⟨gp, 2, none⟩ = some (.int .i64 a0_2) := (blk_cell HP5.out 2).trans rfl; have hcz5_3 : World.cell? _ ⟨gp, 3, none⟩ = some (.int .i64 a0_3) := (blk_cell HP5.out 3).trans rfl; have hcz5_4 : World.cell? _ ⟨gp, 4, none⟩ = some (.int .i64 a0_4) := (blk_cell HP5.out 4).trans rfl; have hcz5_5 : World.cell? _ ⟨gp, 5, none⟩ = some (.int .i64 a0_5) := (blk_cell HP5.out 5).trans rfl; clear hb hb_))
     | (go_at_call 21; go_loud ((with_reducible refine (impl_ValidWave.calls k A2 c2 l2 true _ (Kd.C_below HR.out HB.out) hc2 HV2.out).mono ?_); rintro e w2 ⟨rfl, hb⟩; have hb_ := hb; clear hcz5_0 hcz5_1 hcz5_2 hcz5_3 hcz5_4 hcz5_5; replace HP5 := Aside0.mk (blk_below HP5.out hb_); replace HB := Aside0.mk (below_step HB.out hb_); have hcz5_0 : World.cell? _ ⟨gp, 0, none⟩ = some (.string a0_0) := (blk_cell HP5.out 0).trans rfl; have hcz5_1 : World.cell? _ ⟨gp, 1, none⟩ = some (.int .i64 a0_1) := (blk_cell HP5.out 1).trans rfl; have hcz5_2 : World.cell? _ ⟨gp, 2, none⟩ = some (.int .i64 a0_2) := (blk_cell HP5.out 2).trans rfl; have hcz5_3 : World.cell? _ ⟨gp, 3, none⟩ = some (.int .i64 a0_3) := (blk_cell HP5.out 3).trans rfl; have hcz5_4 : World.cell? _ ⟨gp, 4, none⟩ = some (.int .i64 a0_4) := (blk_cell HP5.out 4).trans rfl; have hcz5_5 : World.cell? _ ⟨gp, 5, none⟩ = some (.int .i64 a0_5) := (blk_cell HP5.out 5).trans rfl; clear hb hb_))
     | (go_at_call 22; go_loud ((with_reducible refine (impl_flowOk.calls a1 false _ HV3.out).mono ?_); rintro e w2 ⟨rfl, hd⟩; have hb := hd.below; clear hd; have hb_ := hb; clear hcz5_0 hcz5_1 hcz5_2 hcz5_3 hcz5_4 hcz5_5; replace HP5 := Aside0.mk (blk_below HP5.out hb_); replace HB := Aside0.mk (below_step HB.out hb_); have hcz5_0 : World.cell? _ ⟨gp, 0, none⟩ = some (.string a0_0) := (blk_cell HP5.out 0).trans rfl; have hcz5_1 : World.cell? _ ⟨gp, 1, none⟩ = some (.int .i64 a0_1) := (blk_cell HP5.out 1).trans rfl; have hcz5_2 : World.cell? _ ⟨gp, 2, none⟩ = some (.int .i64 a0_2) := (blk_cell HP5.out 2).trans rfl; have hcz5_3 : World.cell? _ ⟨gp, 3, none⟩ = some (.int .i64 a0_3) := (blk_cell HP5.out 3).trans rfl; have hcz5_4 : World.cell? _ ⟨gp, 4, none⟩ = some (.int .i64 a0_4) := (blk_cell HP5.out 4).trans rfl; have hcz5_5 : World.cell? _ ⟨gp, 5, none⟩ = some (.int .i64 a0_5) := (blk_cell HP5.out 5).trans rfl; clear hb hb_)))
    go_ret2
    exact ⟨_, rfl, Kd.R_nil _ _ _ _ _, HB.out⟩
   | true =>
    simp only [if_true] at h
    obtain ⟨b3, hb3, h⟩ := Option.bind_eq_some_iff.mp h
    have HV4 := Aside0.mk hb3
    clear hb3
    cases b3 with
    | false =>
     simp only [Bool.false_eq_true, if_false, Option.some.injEq, Prod.mk.injEq] at h
     obtain ⟨rfl, rfl⟩ := h
     go_enter Try.func9, Try.ntmps9
     go_wp2_with (first
      | ((with_reducible refine gate_dst (N := 5) rfl ?_); refine box_event ?hg (N := 5) ?hd (cs := #[.string a0_0, .int .i64 a0_1, .int .i64 a0_2, .int .i64 a0_3, .int .i64 a0_4, .int .i64 a0_5]) (t := 30) ?hr ?_; (case hd => rfl); (case hg => rfl); (case hr => first | (go_simp; done) | (go_simp; rfl)); intro gp hgp w12 hbox hb; have HP5 := Aside0.mk hbox; have HB := Aside0.mk (below_step (Below.refl _ _) hb); have hcz5_0 : World.cell? _ ⟨gp, 0, none⟩ = some (.string a0_0) := (blk_cell HP5.out 0).trans rfl; have hcz5_1 : World.cell? _ ⟨gp, 1, none⟩ = some (.int .i64 a0_1) := (blk_cell HP5.out 1).trans rfl; have hcz5_2 : World.cell? _ ⟨gp, 2, none⟩ = some (.int .i64 a0_2) := (blk_cell HP5.out 2).trans rfl; have hcz5_3 : World.cell? _ ⟨gp, 3, none⟩ = some (.int .i64 a0_3) := (blk_cell HP5.out 3).trans rfl; have hcz5_4 : World.cell? _ ⟨gp, 4, none⟩ = some (.int .i64 a0_4) := (blk_cell HP5.out 4).trans rfl; have hcz5_5 : World.cell? _ ⟨gp, 5, none⟩ = some (.int .i64 a0_5) := (blk_cell HP5.out 5).trans rfl; clear hb hbox hgp)
      | (go_at_call 20; go_loud ((with_reducible refine (impl_ValidPipe.calls k a0_0 a0_1 a0_2 a0_3 a0_4 a0_5 true _ HV1.out).mono ?_); rintro e w2 ⟨rfl, hb⟩; have hb_ := hb; clear hcz5_0 hcz5_1 hcz5_2 hcz5_3 hcz5_4 hcz5_5; replace HP5 := Aside0.mk (blk_below HP5.out hb_); replace HB := Aside0.mk (below_step HB.out hb_); have hcz5_0 : World.cell? _ ⟨gp, 0, none⟩ = some (.string a0_0) := (blk_cell HP5.out 0).trans rfl; have hcz5_1 : World.cell? _ ⟨gp, 1, none⟩ = some (.int .i64 a0_1) := (blk_cell HP5.out 1).trans rfl; have hcz5_2 : World.cell? _ ⟨gp, 2, none⟩ = some (.int .i64 a0_2) := (blk_cell HP5.out 2).trans rfl; have hcz5_3 : World.cell? _ ⟨gp, 3, none⟩ = some (.int .i64 a0_3) := (blk_cell HP5.out 3).trans rfl; have hcz5_4 : World.cell? _ ⟨gp, 4, none⟩ = some (.int .i64 a0_4) := (blk_cell HP5.out 4).trans rfl; have hcz5_5 : World.cell? _ ⟨gp, 5, none⟩ = some (.int .i64 a0_5) := (blk_cell HP5.out 5).trans rfl; clear hb hb_))
      | (go_at_call 21; go_loud ((with_reducible refine (impl_ValidWave.calls k A2 c2 l2 true _ (Kd.C_below HR.out HB.out) hc2 HV2.out).mono ?_); rintro e w2 ⟨rfl, hb⟩; have hb_ := hb; clear hcz5_0 hcz5_1 hcz5_2 hcz5_3 hcz5_4 hcz5_5; replace HP5 := Aside0.mk (blk_below HP5.out hb_); replace HB := Aside0.mk (below_step HB.out hb_); have hcz5_0 : World.cell? _ ⟨gp, 0, none⟩ = some (.string a0_0) := (blk_cell HP5.out 0).trans rfl; have hcz5_1 : World.cell? _ ⟨gp, 1, none⟩ = some (.int .i64 a0_1) := (blk_cell HP5.out 1).trans rfl; have hcz5_2 : World.cell? _ ⟨gp, 2, none⟩ = some (.int .i64 a0_2) := (blk_cell HP5.out 2).trans rfl; have hcz5_3 : World.cell? _ ⟨gp, 3, none⟩ = some (.int .i64 a0_3) := (blk_cell HP5.out 3).trans rfl; have hcz5_4 : World.cell? _ ⟨gp, 4, none⟩ = some (.int .i64 a0_4) := (blk_cell HP5.out 4).trans rfl; have hcz5_5 : World.cell? _ ⟨gp, 5, none⟩ = some (.int .i64 a0_5) := (blk_cell HP5.out 5).trans rfl; clear hb hb_))
      | (go_at_call 22; go_loud ((with_reducible refine (impl_flowOk.calls a1 true _ HV3.out).mono ?_); rintro e w2 ⟨rfl, hd⟩; have hb := hd.below; clear hd; have hb_ := hb; clear hcz5_0 hcz5_1 hcz5_2 hcz5_3 hcz5_4 hcz5_5; replace HP5 := Aside0.mk (blk_below HP5.out hb_); replace HB := Aside0.mk (below_step HB.out hb_); have hcz5_0 : World.cell? _ ⟨gp, 0, none⟩ = some (.string a0_0) := (blk_cell HP5.out 0).trans rfl; have hcz5_1 : World.cell? _ ⟨gp, 1, none⟩ = some (.int .i64 a0_1) := (blk_cell HP5.out 1).trans rfl; have hcz5_2 : World.cell? _ ⟨gp, 2, none⟩ = some (.int .i64 a0_2) := (blk_cell HP5.out 2).trans rfl; have hcz5_3 : World.cell? _ ⟨gp, 3, none⟩ = some (.int .i64 a0_3) := (blk_cell HP5.out 3).trans rfl; have hcz5_4 : World.cell? _ ⟨gp, 4, none⟩ = some (.int .i64 a0_4) := (blk_cell HP5.out 4).trans rfl; have hcz5_5 : World.cell? _ ⟨gp, 5, none⟩ = some (.int .i64 a0_5) := (blk_cell HP5.out 5).trans rfl; clear hb hb_))
      | (go_at_call 23; go_loud ((first | (with_reducible refine (impl_degreesOk.calls a3 false _ HV4.out).mono ?_)); (rintro e w2 ⟨rfl, hd⟩); have hb := hd.below; clear hd; have hb_ := hb; clear hcz5_0 hcz5_1 hcz5_2 hcz5_3 hcz5_4 hcz5_5; replace HP5 := Aside0.mk (blk_below HP5.out hb_); replace HB := Aside0.mk (below_step HB.out hb_); have hcz5_0 : World.cell? _ ⟨gp, 0, none⟩ = some (.string a0_0) := (blk_cell HP5.out 0).trans rfl; have hcz5_1 : World.cell? _ ⟨gp, 1, none⟩ = some (.int .i64 a0_1) := (blk_cell HP5.out 1).trans rfl; have hcz5_2 : World.cell? _ ⟨gp, 2, none⟩ = some (.int .i64 a0_2) := (blk_cell HP5.out 2).trans rfl; have hcz5_3 : World.cell? _ ⟨gp, 3, none⟩ = some (.int .i64 a0_3) := (blk_cell HP5.out 3).trans rfl; have hcz5_4 : World.cell? _ ⟨gp, 4, none⟩ = some (.int .i64 a0_4) := (blk_cell HP5.out 4).trans rfl; have hcz5_5 : World.cell? _ ⟨gp, 5, none⟩ = some (.int .i64 a0_5) := (blk_cell HP5.out 5).trans rfl; clear hb hb_)))
     go_ret2
     exact ⟨_, rfl, Kd.R_nil _ _ _ _ _, HB.out⟩
    | true =>
     simp only [if_true] at h
     obtain ⟨b4, hb4, h⟩ := Option.bind_eq_some_iff.mp h
     have HV5 := Aside0.mk hb4
     clear hb4
     cases b4 with
     | false =>
      simp only [Bool.false_eq_true, if_false, Option.some.injEq, Prod.mk.injEq] at h
      obtain ⟨rfl, rfl⟩ := h
      go_enter Try.func9, Try.ntmps9
      go_wp2_with (first
       | ((with_reducible refine gate_dst (N := 5) rfl ?_); refine box_event ?hg (N := 5) ?hd (cs := #[.string a0_0, .int .i64 a0_1, .int .i64 a0_2, .int .i64 a0_3, .int .i64 a0_4, .int .i64 a0_5]) (t := 30) ?hr ?_; (case hd => rfl); (case hg => rfl); (case hr => first | (go_simp; done) | (go_simp; rfl)); intro gp hgp w12 hbox hb; have HP5 := Aside0.mk hbox; have HB := Aside0.mk (below_step (Below.refl _ _) hb); have hcz5_0 : World.cell? _ ⟨gp, 0, none⟩ = some (.string a0_0) := (blk_cell HP5.out 0).trans rfl; have hcz5_1 : World.cell? _ ⟨gp, 1, none⟩ = some (.int .i64 a0_1) := (blk_cell HP5.out 1).trans rfl; have hcz5_2 : World.cell? _ ⟨gp, 2, none⟩ = some (.int .i64 a0_2) := (blk_cell HP5.out 2).trans rfl; have hcz5_3 : World.cell? _ ⟨gp, 3, none⟩ = some (.int .i64 a0_3) := (blk_cell HP5.out 3).trans rfl; have hcz5_4 : World.cell? _ ⟨gp, 4, none⟩ = some (.int .i64 a0_4) := (blk_cell HP5.out 4).trans rfl; have hcz5_5 : World.cell? _ ⟨gp, 5, none⟩ = some (.int .i64 a0_5) := (blk_cell HP5.out 5).trans rfl; clear hb hbox hgp)
       | (go_at_call 20; go_loud ((with_reducible refine (impl_ValidPipe.calls k a0_0 a0_1 a0_2 a0_3 a0_4 a0_5 true _ HV1.out).mono ?_); rintro e w2 ⟨rfl, hb⟩; have hb_ := hb; clear hcz5_0 hcz5_1 hcz5_2 hcz5_3 hcz5_4 hcz5_5; replace HP5 := Aside0.mk (blk_below HP5.out hb_); replace HB := Aside0.mk (below_step HB.out hb_); have hcz5_0 : World.cell? _ ⟨gp, 0, none⟩ = some (.string a0_0) := (blk_cell HP5.out 0).trans rfl; have hcz5_1 : World.cell? _ ⟨gp, 1, none⟩ = some (.int .i64 a0_1) := (blk_cell HP5.out 1).trans rfl; have hcz5_2 : World.cell? _ ⟨gp, 2, none⟩ = some (.int .i64 a0_2) := (blk_cell HP5.out 2).trans rfl; have hcz5_3 : World.cell? _ ⟨gp, 3, none⟩ = some (.int .i64 a0_3) := (blk_cell HP5.out 3).trans rfl; have hcz5_4 : World.cell? _ ⟨gp, 4, none⟩ = some (.int .i64 a0_4) := (blk_cell HP5.out 4).trans rfl; have hcz5_5 : World.cell? _ ⟨gp, 5, none⟩ = some (.int .i64 a0_5) := (blk_cell HP5.out 5).trans rfl; clear hb hb_))
       | (go_at_call 21; go_loud ((with_reducible refine (impl_ValidWave.calls k A2 c2 l2 true _ (Kd.C_below HR.out HB.out) hc2 HV2.out).mono ?_); rintro e w2 ⟨rfl, hb⟩; have hb_ := hb; clear hcz5_0 hcz5_1 hcz5_2 hcz5_3 hcz5_4 hcz5_5; replace HP5 := Aside0.mk (blk_below HP5.out hb_); replace HB := Aside0.mk (below_step HB.out hb_); have hcz5_0 : World.cell? _ ⟨gp, 0, none⟩ = some (.string a0_0) := (blk_cell HP5.out 0).trans rfl; have hcz5_1 : World.cell? _ ⟨gp, 1, none⟩ = some (.int .i64 a0_1) := (blk_cell HP5.out 1).trans rfl; have hcz5_2 : World.cell? _ ⟨gp, 2, none⟩ = some (.int .i64 a0_2) := (blk_cell HP5.out 2).trans rfl; have hcz5_3 : World.cell? _ ⟨gp, 3, none⟩ = some (.int .i64 a0_3) := (blk_cell HP5.out 3).trans rfl; have hcz5_4 : World.cell? _ ⟨gp, 4, none⟩ = some (.int .i64 a0_4) := (blk_cell HP5.out 4).trans rfl; have hcz5_5 : World.cell? _ ⟨gp, 5, none⟩ = some (.int .i64 a0_5) := (blk_cell HP5.out 5).trans rfl; clear hb hb_))
       | (go_at_call 22; go_loud ((with_reducible refine (impl_flowOk.calls a1 true _ HV3.out).mono ?_); rintro e w2 ⟨rfl, hd⟩; have hb := hd.below; clear hd; have hb_ := hb; clear hcz5_0 hcz5_1 hcz5_2 hcz5_3 hcz5_4 hcz5_5; replace HP5 := Aside0.mk (blk_below HP5.out hb_); replace HB := Aside0.mk (below_step HB.out hb_); have hcz5_0 : World.cell? _ ⟨gp, 0, none⟩ = some (.string a0_0) := (blk_cell HP5.out 0).trans rfl; have hcz5_1 : World.cell? _ ⟨gp, 1, none⟩ = some (.int .i64 a0_1) := (blk_cell HP5.out 1).trans rfl; have hcz5_2 : World.cell? _ ⟨gp, 2, none⟩ = some (.int .i64 a0_2) := (blk_cell HP5.out 2).trans rfl; have hcz5_3 : World.cell? _ ⟨gp, 3, none⟩ = some (.int .i64 a0_3) := (blk_cell HP5.out 3).trans rfl; have hcz5_4 : World.cell? _ ⟨gp, 4, none⟩ = some (.int .i64 a0_4) := (blk_cell HP5.out 4).trans rfl; have hcz5_5 : World.cell? _ ⟨gp, 5, none⟩ = some (.int .i64 a0_5) := (blk_cell HP5.out 5).trans rfl; clear hb hb_))
       | (go_at_call 23; go_loud ((first | (with_reducible refine (impl_degreesOk.calls a3 true _ HV4.out).mono ?_) | (with_reducible refine (impl_degreesOk.calls a4 false _ HV5.out).mono ?_)); (rintro e w2 ⟨rfl, hd⟩); have hb := hd.below; clear hd; have hb_ := hb; clear hcz5_0 hcz5_1 hcz5_2 hcz5_3 hcz5_4 hcz5_5; replace HP5 := Aside0.mk (blk_below HP5.out hb_); replace HB := Aside0.mk (below_step HB.out hb_); have hcz5_0 : World.cell? _ ⟨gp, 0, none⟩ = some (.string a0_0) := (blk_cell HP5.out 0).trans rfl; have hcz5_1 : World.cell? _ ⟨gp, 1, none⟩ = some (.int .i64 a0_1) := (blk_cell HP5.out 1).trans rfl; have hcz5_2 : World.cell? _ ⟨gp, 2, none⟩ = some (.int .i64 a0_2) := (blk_cell HP5.out 2).trans rfl; have hcz5_3 : World.cell? _ ⟨gp, 3, none⟩ = some (.int .i64 a0_3) := (blk_cell HP5.out 3).trans rfl; have hcz5_4 : World.cell? _ ⟨gp, 4, none⟩ = some (.int .i64 a0_4) := (blk_cell HP5.out 4).trans rfl; have hcz5_5 : World.cell? _ ⟨gp, 5, none⟩ = some (.int .i64 a0_5) := (blk_cell HP5.out 5).trans rfl; clear hb hb_)))
      go_ret2
      exact ⟨_, rfl, Kd.R_nil _ _ _ _ _, HB.out⟩
     | true =>
      simp only [if_true] at h
      by_cases c0 : a1 = 0
      ·rw [if_pos c0] at h
       have c0b : (a1 == 0) = true := beq_iff_eq.mpr c0
       have c0d : decide (a1 = 0) = true := decide_eq_true c0
       simp only [Option.some.injEq, Prod.mk.injEq] at h
       obtain ⟨rfl, rfl⟩ := h
       clear c0
       go_enter Try.func9, Try.ntmps9
       go_wp2_with (first
        | ((with_reducible refine gate_dst (N := 5) rfl ?_); refine box_event ?hg (N := 5) ?hd (cs := #[.string a0_0, .int .i64 a0_1, .int .i64 a0_2, .int .i64 a0_3, .int .i64 a0_4, .int .i64 a0_5]) (t := 30) ?hr ?_; (case hd => rfl); (case hg => rfl); (case hr => first | (go_simp; done) | (go_simp; rfl)); intro gp hgp w12 hbox hb; have HP5 := Aside0.mk hbox; have HB := Aside0.mk (below_step (Below.refl _ _) hb); have hcz5_0 : World.cell? _ ⟨gp, 0, none⟩ = some (.string a0_0) := (blk_cell HP5.out 0).trans rfl; have hcz5_1 : World.cell? _ ⟨gp, 1, none⟩ = some (.int .i64 a0_1) := (blk_cell HP5.out 1).trans rfl; have hcz5_2 : World.cell? _ ⟨gp, 2, none⟩ = some (.int .i64 a0_2) := (blk_cell HP5.out 2).trans rfl; have hcz5_3 : World.cell? _ ⟨gp, 3, none⟩ = some (.int .i64 a0_3) := (blk_cell HP5.out 3).trans rfl; have hcz5_4 : World.cell? _ ⟨gp, 4, none⟩ = some (.int .i64 a0_4) := (blk_cell HP5.out 4).trans rfl; have hcz5_5 : World.cell? _ ⟨gp, 5, none⟩ = some (.int .i64 a0_5) := (blk_cell HP5.out 5).trans rfl; clear hb hbox hgp)
        | (go_at_call 20; go_loud ((with_reducible refine (impl_ValidPipe.calls k a0_0 a0_1 a0_2 a0_3 a0_4 a0_5 true _ HV1.out).mono ?_); rintro e w2 ⟨rfl, hb⟩; have hb_ := hb; clear hcz5_0 hcz5_1 hcz5_2 hcz5_3 hcz5_4 hcz5_5; replace HP5 := Aside0.mk (blk_below HP5.out hb_); replace HB := Aside0.mk (below_step HB.out hb_); have hcz5_0 : World.cell? _ ⟨gp, 0, none⟩ = some (.string a0_0) := (blk_cell HP5.out 0).trans rfl; have hcz5_1 : World.cell? _ ⟨gp, 1, none⟩ = some (.int .i64 a0_1) := (blk_cell HP5.out 1).trans rfl; have hcz5_2 : World.cell? _ ⟨gp, 2, none⟩ = some (.int .i64 a0_2) := (blk_cell HP5.out 2).trans rfl; have hcz5_3 : World.cell? _ ⟨gp, 3, none⟩ = some (.int .i64 a0_3) := (blk_cell HP5.out 3).trans rfl; have hcz5_4 : World.cell? _ ⟨gp, 4, none⟩ = some (.int .i64 a0_4) := (blk_cell HP5.out 4).trans rfl; have hcz5_5 : World.cell? _ ⟨gp, 5, none⟩ = some (.int .i64 a0_5) := (blk_cell HP5.out 5).trans rfl; clear hb hb_))
        | (go_at_call 21; go_loud ((with_reducible refine (impl_ValidWave.calls k A2 c2 l2 true _ (Kd.C_below HR.out HB.out) hc2 HV2.out).mono ?_); rintro e w2 ⟨rfl, hb⟩; have hb_ := hb; clear hcz5_0 hcz5_1 hcz5_2 hcz5_3 hcz5_4 hcz5_5; replace HP5 := Aside0.mk (blk_below HP5.out hb_); replace HB := Aside0.mk (below_step HB.out hb_); have hcz5_0 : World.cell? _ ⟨gp, 0, none⟩ = some (.string a0_0) := (blk_cell HP5.out 0).trans rfl; have hcz5_1 : World.cell? _ ⟨gp, 1, none⟩ = some (.int .i64 a0_1) := (blk_cell HP5.out 1).trans rfl; have hcz5_2 : World.cell? _ ⟨gp, 2, none⟩ = some (.int .i64 a0_2) := (blk_cell HP5.out 2).trans rfl; have hcz5_3 : World.cell? _ ⟨gp, 3, none⟩ = some (.int .i64 a0_3) := (blk_cell HP5.out 3).trans rfl; have hcz5_4 : World.cell? _ ⟨gp, 4, none⟩ = some (.int .i64 a0_4) := (blk_cell HP5.out 4).trans rfl; have hcz5_5 : World.cell? _ ⟨gp, 5, none⟩ = some (.int .i64 a0_5) := (blk_cell HP5.out 5).trans rfl; clear hb hb_))
        | (go_at_call 22; go_loud ((with_reducible refine (impl_flowOk.calls a1 true _ HV3.out).mono ?_); rintro e w2 ⟨rfl, hd⟩; have hb := hd.below; clear hd; have hb_ := hb; clear hcz5_0 hcz5_1 hcz5_2 hcz5_3 hcz5_4 hcz5_5; replace HP5 := Aside0.mk (blk_below HP5.out hb_); replace HB := Aside0.mk (below_step HB.out hb_); have hcz5_0 : World.cell? _ ⟨gp, 0, none⟩ = some (.string a0_0) := (blk_cell HP5.out 0).trans rfl; have hcz5_1 : World.cell? _ ⟨gp, 1, none⟩ = some (.int .i64 a0_1) := (blk_cell HP5.out 1).trans rfl; have hcz5_2 : World.cell? _ ⟨gp, 2, none⟩ = some (.int .i64 a0_2) := (blk_cell HP5.out 2).trans rfl; have hcz5_3 : World.cell? _ ⟨gp, 3, none⟩ = some (.int .i64 a0_3) := (blk_cell HP5.out 3).trans rfl; have hcz5_4 : World.cell? _ ⟨gp, 4, none⟩ = some (.int .i64 a0_4) := (blk_cell HP5.out 4).trans rfl; have hcz5_5 : World.cell? _ ⟨gp, 5, none⟩ = some (.int .i64 a0_5) := (blk_cell HP5.out 5).trans rfl; clear hb hb_))
        | (go_at_call 23; go_loud ((first | (with_reducible refine (impl_degreesOk.calls a3 true _ HV4.out).mono ?_) | (with_reducible refine (impl_degreesOk.calls a4 true _ HV5.out).mono ?_)); (rintro e w2 ⟨rfl, hd⟩); have hb := hd.below; clear hd; have hb_ := hb; clear hcz5_0 hcz5_1 hcz5_2 hcz5_3 hcz5_4 hcz5_5; replace HP5 := Aside0.mk (blk_below HP5.out hb_); replace HB := Aside0.mk (below_step HB.out hb_); have hcz5_0 : World.cell? _ ⟨gp, 0, none⟩ = some (.string a0_0) := (blk_cell HP5.out 0).trans rfl; have hcz5_1 : World.cell? _ ⟨gp, 1, none⟩ = some (.int .i64 a0_1) := (blk_cell HP5.out 1).trans rfl; have hcz5_2 : World.cell? _ ⟨gp, 2, none⟩ = some (.int .i64 a0_2) := (blk_cell HP5.out 2).trans rfl; have hcz5_3 : World.cell? _ ⟨gp, 3, none⟩ = some (.int .i64 a0_3) := (blk_cell HP5.out 3).trans rfl; have hcz5_4 : World.cell? _ ⟨gp, 4, none⟩ = some (.int .i64 a0_4) := (blk_cell HP5.out 4).trans rfl; have hcz5_5 : World.cell? _ ⟨gp, 5, none⟩ = some (.int .i64 a0_5) := (blk_cell HP5.out 5).trans rfl; clear hb hb_)))
       go_ret2
       exact ⟨_, rfl, Kd.R_nil _ _ _ _ _, HB.out⟩
      ·rw [if_neg c0] at h
       have c0b : (a1 == 0) = false := beq_eq_false_iff_ne.mpr c0
       have c0d : decide (a1 = 0) = false := decide_eq_false c0
       clear c0
       obtain ⟨c, h_, h⟩ := Option.bind_eq_some_iff.mp h
       have HC := Aside0.mk h_
       clear h_
       obtain ⟨xs, h_, h⟩ := Option.bind_eq_some_iff.mp h
       have HL := Aside0.mk h_
       clear h_
       obtain ⟨d, h_, h⟩ := Option.bind_eq_some_iff.mp h
       have HDl := Aside0.mk h_
       clear h_
       obtain ⟨y, h_, h⟩ := Option.bind_eq_some_iff.mp h
       have HY := Aside0.mk h_
       clear h_
       have HT := Aside0.mk h
       clear h
       go_enter Try.func9, Try.ntmps9
       go_wp2_with (first
        | ((with_reducible refine gate_dst (N := 5) rfl ?_); refine box_event ?hg (N := 5) ?hd (cs := #[.string a0_0, .int .i64 a0_1, .int .i64 a0_2, .int .i64 a0_3, .int .i64 a0_4, .int .i64 a0_5]) (t := 30) ?hr ?_; (case hd => rfl); (case hg => rfl); (case hr => first | (go_simp; done) | (go_simp; rfl)); intro gp hgp w12 hbox hb; have HP5 := Aside0.mk hbox; have HB := Aside0.mk (below_step (Below.refl _ _) hb); have hcz5_0 : World.cell? _ ⟨gp, 0, none⟩ = some (.string a0_0) := (blk_cell HP5.out 0).trans rfl; have hcz5_1 : World.cell? _ ⟨gp, 1, none⟩ = some (.int .i64 a0_1) := (blk_cell HP5.out 1).trans rfl; have hcz5_2 : World.cell? _ ⟨gp, 2, none⟩ = some (.int .i64 a0_2) := (blk_cell HP5.out 2).trans rfl; have hcz5_3 : World.cell? _ ⟨gp, 3, none⟩ = some (.int .i64 a0_3) := (blk_cell HP5.out 3).trans rfl; have hcz5_4 : World.cell? _ ⟨gp, 4, none⟩ = some (.int .i64 a0_4) := (blk_cell HP5.out 4).trans rfl; have hcz5_5 : World.cell? _ ⟨gp, 5, none⟩ = some (.int .i64 a0_5) := (blk_cell HP5.out 5).trans rfl; clear hb hbox hgp)
        | (go_at_call 20; go_loud ((with_reducible refine (impl_ValidPipe.calls k a0_0 a0_1 a0_2 a0_3 a0_4 a0_5 true _ HV1.out).mono ?_); rintro e w2 ⟨rfl, hb⟩; have hb_ := hb; clear hcz5_0 hcz5_1 hcz5_2 hcz5_3 hcz5_4 hcz5_5; replace HP5 := Aside0.mk (blk_below HP5.out hb_); replace HB := Aside0.mk (below_step HB.out hb_); have hcz5_0 : World.cell? _ ⟨gp, 0, none⟩ = some (.string a0_0) := (blk_cell HP5.out 0).trans rfl; have hcz5_1 : World.cell? _ ⟨gp, 1, none⟩ = some (.int .i64 a0_1) := (blk_cell HP5.out 1).trans rfl; have hcz5_2 : World.cell? _ ⟨gp, 2, none⟩ = some (.int .i64 a0_2) := (blk_cell HP5.out 2).trans rfl; have hcz5_3 : World.cell? _ ⟨gp, 3, none⟩ = some (.int .i64 a0_3) := (blk_cell HP5.out 3).trans rfl; have hcz5_4 : World.cell? _ ⟨gp, 4, none⟩ = some (.int .i64 a0_4) := (blk_cell HP5.out 4).trans rfl; have hcz5_5 : World.cell? _ ⟨gp, 5, none⟩ = some (.int .i64 a0_5) := (blk_cell HP5.out 5).trans rfl; clear hb hb_))
        | (go_at_call 21; go_loud ((with_reducible refine (impl_ValidWave.calls k A2 c2 l2 true _ (Kd.C_below HR.out HB.out) hc2 HV2.out).mono ?_); rintro e w2 ⟨rfl, hb⟩; have hb_ := hb; clear hcz5_0 hcz5_1 hcz5_2 hcz5_3 hcz5_4 hcz5_5; replace HP5 := Aside0.mk (blk_below HP5.out hb_); replace HB := Aside0.mk (below_step HB.out hb_); have hcz5_0 : World.cell? _ ⟨gp, 0, none⟩ = some (.string a0_0) := (blk_cell HP5.out 0).trans rfl; have hcz5_1 : World.cell? _ ⟨gp, 1, none⟩ = some (.int .i64 a0_1) := (blk_cell HP5.out 1).trans rfl; have hcz5_2 : World.cell? _ ⟨gp, 2, none⟩ = some (.int .i64 a0_2) := (blk_cell HP5.out 2).trans rfl; have hcz5_3 : World.cell? _ ⟨gp, 3, none⟩ = some (.int .i64 a0_3) := (blk_cell HP5.out 3).trans rfl; have hcz5_4 : World.cell? _ ⟨gp, 4, none⟩ = some (.int .i64 a0_4) := (blk_cell HP5.out 4).trans rfl; have hcz5_5 : World.cell? _ ⟨gp, 5, none⟩ = some (.int .i64 a0_5) := (blk_cell HP5.out 5).trans rfl; clear hb hb_))
        | (go_at_call 22; go_loud ((with_reducible refine (impl_flowOk.calls a1 true _ HV3.out).mono ?_); rintro e w2 ⟨rfl, hd⟩; have hb := hd.below; clear hd; have hb_ := hb; clear hcz5_0 hcz5_1 hcz5_2 hcz5_3 hcz5_4 hcz5_5; replace HP5 := Aside0.mk (blk_below HP5.out hb_); replace HB := Aside0.mk (below_step HB.out hb_); have hcz5_0 : World.cell? _ ⟨gp, 0, none⟩ = some (.string a0_0) := (blk_cell HP5.out 0).trans rfl; have hcz5_1 : World.cell? _ ⟨gp, 1, none⟩ = some (.int .i64 a0_1) := (blk_cell HP5.out 1).trans rfl; have hcz5_2 : World.cell? _ ⟨gp, 2, none⟩ = some (.int .i64 a0_2) := (blk_cell HP5.out 2).trans rfl; have hcz5_3 : World.cell? _ ⟨gp, 3, none⟩ = some (.int .i64 a0_3) := (blk_cell HP5.out 3).trans rfl; have hcz5_4 : World.cell? _ ⟨gp, 4, none⟩ = some (.int .i64 a0_4) := (blk_cell HP5.out 4).trans rfl; have hcz5_5 : World.cell? _ ⟨gp, 5, none⟩ = some (.int .i64 a0_5) := (blk_cell HP5.out 5).trans rfl; clear hb hb_))
        | (go_at_call 23; go_loud ((first | (with_reducible refine (impl_degreesOk.calls a3 true _ HV4.out).mono ?_) | (with_reducible refine (impl_degreesOk.calls a4 true _ HV5.out).mono ?_)); (rintro e w2 ⟨rfl, hd⟩); have hb := hd.below; clear hd; have hb_ := hb; clear hcz5_0 hcz5_1 hcz5_2 hcz5_3 hcz5_4 hcz5_5; replace HP5 := Aside0.mk (blk_below HP5.out hb_); replace HB := Aside0.mk (below_step HB.out hb_); have hcz5_0 : World.cell? _ ⟨gp, 0, none⟩ = some (.string a0_0) := (blk_cell HP5.out 0).trans rfl; have hcz5_1 : World.cell? _ ⟨gp, 1, none⟩ = some (.int .i64 a0_1) := (blk_cell HP5.out 1).trans rfl; have hcz5_2 : World.cell? _ ⟨gp, 2, none⟩ = some (.int .i64 a0_2) := (blk_cell HP5.out 2).trans rfl; have hcz5_3 : World.cell? _ ⟨gp, 3, none⟩ = some (.int .i64 a0_3) := (blk_cell HP5.out 3).trans rfl; have hcz5_4 : World.cell? _ ⟨gp, 4, none⟩ = some (.int .i64 a0_4) := (blk_cell HP5.out 4).trans rfl; have hcz5_5 : World.cell? _ ⟨gp, 5, none⟩ = some (.int .i64 a0_5) := (blk_cell HP5.out 5).trans rfl; clear hb hb_))
        | (go_at_call 24; go_loud ((with_reducible refine (slices_Clone_StepS.calls A2 c2 l2 c _ (Kd.C_below HR.out HB.out) hc2 HC.out).mono ?_); rintro e w2 ⟨v0, rfl, hrow, hb⟩; have HO := Aside0.mk (Kd.R_lower hrow HB.out.size); have hb_ := hb; clear hcz5_0 hcz5_1 hcz5_2 hcz5_3 hcz5_4 hcz5_5; replace HP5 := Aside0.mk (blk_below HP5.out hb_); replace HB := Aside0.mk (below_step HB.out hb_); have hcz5_0 : World.cell? _ ⟨gp, 0, none⟩ = some (.string a0_0) := (blk_cell HP5.out 0).trans rfl; have hcz5_1 : World.cell? _ ⟨gp, 1, none⟩ = some (.int .i64 a0_1) := (blk_cell HP5.out 1).trans rfl; have hcz5_2 : World.cell? _ ⟨gp, 2, none⟩ = some (.int .i64 a0_2) := (blk_cell HP5.out 2).trans rfl; have hcz5_3 : World.cell? _ ⟨gp, 3, none⟩ = some (.int .i64 a0_3) := (blk_cell HP5.out 3).trans rfl; have hcz5_4 : World.cell? _ ⟨gp, 4, none⟩ = some (.int .i64 a0_4) := (blk_cell HP5.out 4).trans rfl; have hcz5_5 : World.cell? _ ⟨gp, 5, none⟩ = some (.int .i64 a0_5) := (blk_cell HP5.out 5).trans rfl; clear hb hb_; clear hrow; obtain ⟨Ao, co, rfl⟩ := Kd.R_slice HO.out)))
       go_loopg [45] k (fun kq v45 w' => ∃ (x : List (S43)) (i : Int), v45 = .int .i64 i ∧ Aside0 (impl_ThroughPipe.l0 a0_0 a0_1 a0_2 a0_3 a0_4 a0_5 a1 a3 kq x i = some xs) ∧ Aside0 (kq ≤ k) ∧ Aside0 (Kd.R k43 43 w' w.heap.size (fun _ => True) (.slice Ao c.length co) x) ∧ Aside0 (w'.heap[gp]? = some (.cells #[.string a0_0, .int .i64 a0_1, .int .i64 a0_2, .int .i64 a0_3, .int .i64 a0_4, .int .i64 a0_5] 30 (0, 0))) ∧ Aside0 (Below w.heap.size w w'))
       case atStart => exact ⟨c, 0, rfl, HL, ⟨Nat.le_refl _⟩, HO, HP5, HB⟩
       case round =>
        clear HL
        obtain ⟨x, i, rfl, HA, HK1, HO, HP5, HB⟩ := hrel
        have hl := (Kd.R_reads' HO.out).1
        cases gk with
        | zero => exact absurd HA.out (by simp [impl_ThroughPipe.l0])
        | succ k1 =>
         have H := HA.out
         clear HA
         simp only [impl_ThroughPipe.l0] at H
         by_cases q1 : i < (x.length : Int)
         ·rw [if_pos q1] at H
          by_cases p1 : 0 ≤ i
          ·rw [if_pos p1] at H
           obtain ⟨t, ht, H⟩ := Option.bind_eq_some_iff.mp H
           have HE := Aside0.mk ht
           have HN := Aside0.mk H
           clear ht H
           rw [hl] at HO ⊢
           obtain ⟨go, co', eo, gb, gl, cells, HG⟩ := Kd.R_form HO.out (by omega)
           injection eo with e1 e2 e3
           subst e1
           subst e3
           have GB := Aside0.mk gb
           have hng : gp ≠ go := blk_ne HP5.out HG (by decide)
           clear gb gl HG e2
           obtain ⟨ce, hcl, hM, hcc, hfr⟩ := Kd.R_elem HO.out z43 i p1 q1
           obtain rfl := k43_openM hM
           have hx0 : wr.cell? ⟨go, i.toNat * 2, none⟩ = some (.int .i64 (rd_T43 x i).f0) := hcc 0 _ rfl
           have hx1 : wr.cell? ⟨go, i.toNat * 2 + 1, none⟩ = some (.int .i64 (rd_T43 x i).f1) := hcc 1 _ rfl
           clear hcl hM hcc hfr
           have hcz5_0 : World.cell? _ ⟨gp, 0, none⟩ = some (.string a0_0) := (blk_cell HP5.out 0).trans rfl
           have hcz5_1 : World.cell? _ ⟨gp, 1, none⟩ = some (.int .i64 a0_1) := (blk_cell HP5.out 1).trans rfl
           have hcz5_2 : World.cell? _ ⟨gp, 2, none⟩ = some (.int .i64 a0_2) := (blk_cell HP5.out 2).trans rfl
           have hcz5_3 : World.cell? _ ⟨gp, 3, none⟩ = some (.int .i64 a0_3) := (blk_cell HP5.out 3).trans rfl
           have hcz5_4 : World.cell? _ ⟨gp, 4, none⟩ = some (.int .i64 a0_4) := (blk_cell HP5.out 4).trans rfl
           have hcz5_5 : World.cell? _ ⟨gp, 5, none⟩ = some (.int .i64 a0_5) := (blk_cell HP5.out 5).trans rfl
           have q1b : decide (i < (x.length : Int)) = true := decide_eq_true q1
           have p1b : decide (0 ≤ i) = true := decide_eq_true p1
           have p1t := eq_true p1
           have q1t := eq_true q1
           have HLN := Aside0.mk hl
           clear hl
           go_wp2_with (first
            | ((with_reducible refine gate_dst (N := 14) rfl ?_); refine box_event ?hg (N := 14) ?hd (cs := #[.int .i64 0, .int .i64 0]) (t := 43) ?hr ?_; (case hd => rfl); (case hg => rfl); (case hr => first | (go_simp; done) | (go_simp; rfl)); intro gx hgx w12 hbx hb; have HX := Aside0.mk hbx; replace HO := Aside0.mk (Kd.R_below (Kd.R_elderB HO.out gx (Nat.le_of_eq hgx.symm)) hb); have HBo := HB; have HP5o := HP5; have hb_ := hb; clear hcz5_0 hcz5_1 hcz5_2 hcz5_3 hcz5_4 hcz5_5; replace HP5 := Aside0.mk (blk_below HP5.out hb_); replace HB := Aside0.mk (below_step HB.out hb_); have hcz5_0 : World.cell? _ ⟨gp, 0, none⟩ = some (.string a0_0) := (blk_cell HP5.out 0).trans rfl; have hcz5_1 : World.cell? _ ⟨gp, 1, none⟩ = some (.int .i64 a0_1) := (blk_cell HP5.out 1).trans rfl; have hcz5_2 : World.cell? _ ⟨gp, 2, none⟩ = some (.int .i64 a0_2) := (blk_cell HP5.out 2).trans rfl; have hcz5_3 : World.cell? _ ⟨gp, 3, none⟩ = some (.int .i64 a0_3) := (blk_cell HP5.out 3).trans rfl; have hcz5_4 : World.cell? _ ⟨gp, 4, none⟩ = some (.int .i64 a0_4) := (blk_cell HP5.out 4).trans rfl; have hcz5_5 : World.cell? _ ⟨gp, 5, none⟩ = some (.int .i64 a0_5) := (blk_cell HP5.out 5).trans rfl; clear hb hb_; have hne : gp ≠ gx := (by rw [hgx]; exact Nat.ne_of_lt (by have h9_ := blk_lt HP5o.out; exact h9_)); have hcz14_0 : w12.cell? ⟨gx, 0, none⟩ = some (.int .i64 0) := (blk_cell HX.out 0).trans rfl; have hcz14_1 : w12.cell? ⟨gx, 1, none⟩ = some (.int .i64 0) := (blk_cell HX.out 1).trans rfl; have hfz14_0 := blk_frozen HX.out 0; have hfz14_1 := blk_frozen HX.out 1; have GX := Aside0.mk ((by rw [hgx]; exact HBo.out.size) : w.heap.size ≤ gx); clear hbx hgx hx0 hx1 HBo HP5o)
            | (go_at_call 25; go_loud (replace HO := Aside0.mk (Kd.R_far (p := ⟨gx, 1, none⟩) (Kd.R_far (p := ⟨gx, 0, none⟩) HO.out (fun _ h_ => h_.2) (.int .i64 (rd_T43 x i).f0)) (fun _ h_ => h_.2) (.int .i64 (rd_T43 x i).f1)); replace HP5 := Aside0.mk (blk_far (blk_far HP5.out (p := ⟨gx, 0, none⟩) hne (.int .i64 (rd_T43 x i).f0)) (p := ⟨gx, 1, none⟩) hne (.int .i64 (rd_T43 x i).f1)); replace HB := Aside0.mk (below_set (j := 1) (v := .int .i64 (rd_T43 x i).f1) (below_set (j := 0) (v := .int .i64 (rd_T43 x i).f0) HB.out GX.out) GX.out); (with_reducible refine (impl_Pipe_endTemperature.calls a0_0 a0_1 a0_2 a0_3 a0_4 a0_5 a1 (rd_T43 x i).f1 a3 t _ HE.out).mono ?_); rintro e w2 ⟨rfl, hb⟩; replace HO := Aside0.mk (Kd.R_mono (ok' := fun _ => True) (Kd.R_below HO.out hb) (fun _ _ => trivial)); have hb_ := hb; clear hcz5_0 hcz5_1 hcz5_2 hcz5_3 hcz5_4 hcz5_5; replace HP5 := Aside0.mk (blk_below HP5.out hb_); replace HB := Aside0.mk (below_step HB.out hb_); have hcz5_0 : World.cell? _ ⟨gp, 0, none⟩ = some (.string a0_0) := (blk_cell HP5.out 0).trans rfl; have hcz5_1 : World.cell? _ ⟨gp, 1, none⟩ = some (.int .i64 a0_1) := (blk_cell HP5.out 1).trans rfl; have hcz5_2 : World.cell? _ ⟨gp, 2, none⟩ = some (.int .i64 a0_2) := (blk_cell HP5.out 2).trans rfl; have hcz5_3 : World.cell? _ ⟨gp, 3, none⟩ = some (.int .i64 a0_3) := (blk_cell HP5.out 3).trans rfl; have hcz5_4 : World.cell? _ ⟨gp, 4, none⟩ = some (.int .i64 a0_4) := (blk_cell HP5.out 4).trans rfl; have hcz5_5 : World.cell? _ ⟨gp, 5, none⟩ = some (.int .i64 a0_5) := (blk_cell HP5.out 5).trans rfl; clear hb hb_; obtain ⟨ce, hcl, hM, hcc, hfr⟩ := Kd.R_elem HO.out z43 i p1 q1; obtain rfl := k43_openM hM; have hy1 : w2.cell? ⟨go, i.toNat * 2 + 1, none⟩ = some (.int .i64 (rd_T43 x i).f1) := hcc 1 _ rfl; have hf1 : w2.frozen? ⟨go, i.toNat * 2 + 1, none⟩ = false := hfr 1; have HSG := Aside0.mk (Kd.R_seg HO.out i p1 q1 (seg := [.int .i64 t]) (j := 1) hcl hcc (show 2 ≤ 2 from by decide) (x' := (⟨(rd_T43 x i).f0, t⟩ : S43)) (k43_mkM _ _ _ (⟨(rd_T43 x i).f0, t⟩ : S43)) (fun _ hk => hk)); clear hcl hM hcc hfr hcz14_0 hcz14_1)))
           have HO9 := Aside0.mk (show Kd.R k43 43 (w2.setCell ⟨go, i.toNat * 2 + 1, none⟩ (.int .i64 t)) w.heap.size (fun _ => True) (.slice (some ⟨go, 0, none⟩) x.length co) (x.set i.toNat ⟨(rd_T43 x i).f0, t⟩) from Kd.R_mono HSG.out.1 (fun _ _ => trivial))
           have HP9 := Aside0.mk (blk_far HP5.out (p := ⟨go, i.toNat * 2 + 1, none⟩) hng (.int .i64 t))
           have HB9 := Aside0.mk (below_set (j := i.toNat * 2 + 1) (v := .int .i64 t) HB.out GB.out)
           simp only [← HLN.out]
           go_roundg k1
           case measure => have := HK1.out; omega
           case rel => exact ⟨_, _, rfl, HN, ⟨by have := HK1.out; omega⟩, ⟨by rw [HLN.out]; exact HO9.out⟩, HP9, HB9⟩
          ·rw [if_neg p1] at H
           exact absurd H (by simp)
         ·rw [if_neg q1] at H
          have q1b : decide (i < (x.length : Int)) = false := decide_eq_false q1
          obtain rfl := Option.some.inj H
          have HLN := Aside0.mk hl
          rw [hl] at HO ⊢
          clear hl
          have hcz5_0 : World.cell? _ ⟨gp, 0, none⟩ = some (.string a0_0) := (blk_cell HP5.out 0).trans rfl
          have hcz5_1 : World.cell? _ ⟨gp, 1, none⟩ = some (.int .i64 a0_1) := (blk_cell HP5.out 1).trans rfl
          have hcz5_2 : World.cell? _ ⟨gp, 2, none⟩ = some (.int .i64 a0_2) := (blk_cell HP5.out 2).trans rfl
          have hcz5_3 : World.cell? _ ⟨gp, 3, none⟩ = some (.int .i64 a0_3) := (blk_cell HP5.out 3).trans rfl
          have hcz5_4 : World.cell? _ ⟨gp, 4, none⟩ = some (.int .i64 a0_4) := (blk_cell HP5.out 4).trans rfl
          have hcz5_5 : World.cell? _ ⟨gp, 5, none⟩ = some (.int .i64 a0_5) := (blk_cell HP5.out 5).trans rfl
          go_wp2_with (first
           | (go_at_call 28; go_loud ((with_reducible refine (impl_Pipe_delay.calls a0_0 a0_1 a0_2 a0_3 a0_4 a0_5 a1 d _ HDl.out).mono ?_); rintro e w2 ⟨rfl, hb⟩; replace HO := Aside0.mk (Kd.R_below HO.out hb); replace HB := Aside0.mk (below_step HB.out hb); clear hb))
           | (go_at_call 27; go_loud ((with_reducible refine (impl_delayed.calls k (fun _ => True) _ x d a4 y w _ HB.out HO.out HY.out).mono ?_); rintro e w2 ⟨v1, rfl, hrow, hb, hk⟩; have HO2 := Aside0.mk hrow; replace HB := Aside0.mk hb; clear hrow hb hk; obtain ⟨A5, c5, rfl⟩ := Kd.R_slice HO2.out))
           | (go_at_call 26; go_loud ((with_reducible refine (impl_trimmedWave.calls k A5 c5 y r1 r2 _ (Kd.R_reads' HO2.out).2.2 (Kd.R_reads' HO2.out).2.1 HT.out).mono ?_); rintro e w2 ⟨v2, rfl, hrow, hb⟩; have HO3 := Aside0.mk (Kd.R_lower hrow HB.out.size); replace HB := Aside0.mk (below_step HB.out hb); clear hrow hb)))
          go_ret2
          exact ⟨_, rfl, HO3.out, HB.out⟩
end Go.Proofs.Ytahadhldokhifaa.XP
end

section
namespace Go.Proofs.Ytahadhldokhifaa.XP
open Go.RowKit Go.Proofs.YtahadhldokhifaaW.PrintWords Go.Proofs.YtahadhldokhifaaW.PrintLast Go.Proofs.YtahadhldokhifaaW.PrintMore
attribute [local go_sem] run_eql_slice_nil binOp_string_gtr' binOp_string_leq' binOp_string_geq' max2_int min2_int max_two min_two max_three min_three max_four min_four   -- for this text's walks alone
set_option linter.unusedVariables false
set_option linter.unusedSimpArgs false
def laws_eqStep.f (a0_0 : Int) (a0_1 : Int) (a1_0 : Int) (a1_1 : Int) : Option (Bool) := if a0_0 = a1_0 then (if a0_1 = a1_1 then (some true) else (some false)) else (some false)
set_option maxHeartbeats 8000000 in
set_option maxRecDepth 100000 in
theorem laws_eqStep.calls (a0_0 : Int) (a0_1 : Int) (a1_0 : Int) (a1_1 : Int) (r : Bool) (w : World) (h : laws_eqStep.f a0_0 a0_1 a1_0 a1_1 = some r) :
  Calls Try.prog 29 #[.agg #[.int .i64 a0_0, .int .i64 a0_1], .agg #[.int .i64 a1_0, .int .i64 a1_1]] w fun e w' => e = .returned (.bool r) ∧ Below w.heap.size w w' := by
 have hu43 := Try.underlying43
 have HB := Aside0.mk (Below.refl w.heap.size w)
 have H : (if a0_0 = a1_0 then (if a0_1 = a1_1 then (some true) else (some false)) else (some false)) = some r := h
 clear h
 by_cases c3 : a0_0 = a1_0
 ·rw [if_pos c3] at H
  have c3b0 : (a0_0 == a1_0) = true := beq_iff_eq.mpr c3
  have c3b1 : (a0_0 != a1_0) = false := bne_eq_false_iff_eq.mpr c3
  clear c3
  by_cases c4 : a0_1 = a1_1
  ·rw [if_pos c4] at H
   have c4b0 : (a0_1 == a1_1) = true := beq_iff_eq.mpr c4
   have c4b1 : (a0_1 != a1_1) = false := bne_eq_false_iff_eq.mpr c4
   clear c4
   obtain rfl := Option.some.inj H
   go_enter Try.func29, Try.ntmps29
   go_wp2_with (first | ((with_reducible refine gate_dst (N := 2) rfl ?_); refine boxZ 2 #[.int .i64 a0_0, .int .i64 a0_1] 43 rfl rfl ?_; intro gb287 hg w5 hbox hb; have n0_ := Aside0.mk (below_step bZ hb); have n1_ := Aside0.mk (hbox); have n2_ := Aside0.mk ((by rw [hg]; exact bsZ : w.heap.size ≤ gb287)); have n3_ := Aside0.mk ((by rw [hg]; exact bsZ : w.heap.size ≤ gb287)); clear HB; have HB := n0_; have BK287 := n1_; have GW287 := n2_; have GE287 := n3_; clear n0_ n1_ n2_ n3_; clear hb hbox hg) | ((with_reducible refine gate_dst (N := 3) rfl ?_); refine boxZ 3 #[.int .i64 a1_0, .int .i64 a1_1] 43 rfl rfl ?_; intro gb288 hg w6 hbox hb; have n0_ := Aside0.mk (blk_below (g := gb287) (o := .cells #[.int .i64 a0_0, .int .i64 a0_1] 43 (0, 0)) (kZ BK287.out) hb); have n1_ := Aside0.mk (below_step bZ hb); have n2_ := Aside0.mk (hbox); have n3_ := Aside0.mk ((by rw [hg]; exact bsZ : w.heap.size ≤ gb288)); have n4_ := Aside0.mk ((by rw [hg]; exact bsZ : w.heap.size ≤ gb288)); have n5_ := Aside0.mk ((by rw [hg]; exact Nat.ne_of_lt (blk_lt (g := gb287) (o := .cells #[.int .i64 a0_0, .int .i64 a0_1] 43 (0, 0)) (kZ BK287.out)) : gb287 ≠ gb288)); have n6_ := Aside0.mk ((by rw [hg]; exact Nat.ne_of_gt (blk_lt (g := gb287) (o := .cells #[.int .i64 a0_0, .int .i64 a0_1] 43 (0, 0)) (kZ BK287.out)) : gb288 ≠ gb287)); clear BK287; clear HB; have BK287 := n0_; have HB := n1_; have BK288 := n2_; have GW288 := n3_; have GE288 := n4_; have NB287_288 := n5_; have NB288_287 := n6_; clear n0_ n1_ n2_ n3_ n4_ n5_ n6_; clear hb hbox hg; have hnb7 := NB287_288.out; have hnc7 := NB288_287.out; have hcz8_0 := bc0 BK287.out; have hcz8_1 := bc1 BK287.out; have hfz8_0 := blk_frozen BK287.out 0; have hfz8_1 := blk_frozen BK287.out 1; have hcz9_0 := bc0 BK288.out; have hcz9_1 := bc1 BK288.out; have hfz9_0 := blk_frozen BK288.out 0; have hfz9_1 := blk_frozen BK288.out 1))
   go_ret
   exact ⟨eZ, bZ⟩
  ·rw [if_neg c4] at H
   have c4b0 : (a0_1 == a1_1) = false := beq_eq_false_iff_ne.mpr c4
   have c4b1 : (a0_1 != a1_1) = true := bne_iff_ne.mpr c4
   obtain rfl := Option.some.inj H
   go_enter Try.func29, Try.ntmps29
   go_wp2_with (first | ((with_reducible refine gate_dst (N := 2) rfl ?_); refine boxZ 2 #[.int .i64 a0_0, .int .i64 a0_1] 43 rfl rfl ?_; intro gb287 hg w10 hbox hb; have n0_ := Aside0.mk (below_step bZ hb); have n1_ := Aside0.mk (hbox); have n2_ := Aside0.mk ((by rw [hg]; exact bsZ : w.heap.size ≤ gb287)); have n3_ := Aside0.mk ((by rw [hg]; exact bsZ : w.heap.size ≤ gb287)); clear HB; have HB := n0_; have BK287 := n1_; have GW287 := n2_; have GE287 := n3_; clear n0_ n1_ n2_ n3_; clear hb hbox hg) | ((with_reducible refine gate_dst (N := 3) rfl ?_); refine boxZ 3 #[.int .i64 a1_0, .int .i64 a1_1] 43 rfl rfl ?_; intro gb288 hg w11 hbox hb; have n0_ := Aside0.mk (blk_below (g := gb287) (o := .cells #[.int .i64 a0_0, .int .i64 a0_1] 43 (0, 0)) (kZ BK287.out) hb); have n1_ := Aside0.mk (below_step bZ hb); have n2_ := Aside0.mk (hbox); have n3_ := Aside0.mk ((by rw [hg]; exact bsZ : w.heap.size ≤ gb288)); have n4_ := Aside0.mk ((by rw [hg]; exact bsZ : w.heap.size ≤ gb288)); have n5_ := Aside0.mk ((by rw [hg]; exact Nat.ne_of_lt (blk_lt (g := gb287) (o := .cells #[.int .i64 a0_0, .int .i64 a0_1] 43 (0, 0)) (kZ BK287.out)) : gb287 ≠ gb288)); have n6_ := Aside0.mk ((by rw [hg]; exact Nat.ne_of_gt (blk_lt (g := gb287) (o := .cells #[.int .i64 a0_0, .int .i64 a0_1] 43 (0, 0)) (kZ BK287.out)) : gb288 ≠ gb287)); clear BK287; clear HB; have BK287 := n0_; have HB := n1_; have BK288 := n2_; have GW288 := n3_; have GE288 := n4_; have NB287_288 := n5_; have NB288_287 := n6_; clear n0_ n1_ n2_ n3_ n4_ n5_ n6_; clear hb hbox hg; have hnb12 := NB287_288.out; have hnc12 := NB288_287.out; have hcz13_0 := bc0 BK287.out; have hcz13_1 := bc1 BK287.out; have hfz13_0 := blk_frozen BK287.out 0; have hfz13_1 := blk_frozen BK287.out 1; have hcz14_0 := bc0 BK288.out; have hcz14_1 := bc1 BK288.out; have hfz14_0 := blk_frozen BK288.out 0; have hfz14_1 := blk_frozen BK288.out 1))
   go_ret
   exact ⟨eZ, bZ⟩
 ·rw [if_neg c3] at H
  have c3b0 : (a0_0 == a1_0) = false := beq_eq_false_iff_ne.mpr c3
  have c3b1 : (a0_0 != a1_0) = true := bne_iff_ne.mpr c3
  obtain rfl := Option.some.inj H
  go_enter Try.func29, Try.ntmps29
  go_wp2_with (first | ((with_reducible refine gate_dst (N := 2) rfl ?_); refine boxZ 2 #[.int .i64 a0_0, .int .i64 a0_1] 43 rfl rfl ?_; intro gb287 hg w15 hbox hb; have n0_ := Aside0.mk (below_step bZ hb); have n1_ := Aside0.mk (hbox); have n2_ := Aside0.mk ((by rw [hg]; exact bsZ : w.heap.size ≤ gb287)); have n3_ := Aside0.mk ((by rw [hg]; exact bsZ : w.heap.size ≤ gb287)); clear HB; have HB := n0_; have BK287 := n1_; have GW287 := n2_; have GE287 := n3_; clear n0_ n1_ n2_ n3_; clear hb hbox hg) | ((with_reducible refine gate_dst (N := 3) rfl ?_); refine boxZ 3 #[.int .i64 a1_0, .int .i64 a1_1] 43 rfl rfl ?_; intro gb288 hg w16 hbox hb; have n0_ := Aside0.mk (blk_below (g := gb287) (o := .cells #[.int .i64 a0_0, .int .i64 a0_1] 43 (0, 0)) (kZ BK287.out) hb); have n1_ := Aside0.mk (below_step bZ hb); have n2_ := Aside0.mk (hbox); have n3_ := Aside0.mk ((by rw [hg]; exact bsZ : w.heap.size ≤ gb288)); have n4_ := Aside0.mk ((by rw [hg]; exact bsZ : w.heap.size ≤ gb288)); have n5_ := Aside0.mk ((by rw [hg]; exact Nat.ne_of_lt (blk_lt (g := gb287) (o := .cells #[.int .i64 a0_0, .int .i64 a0_1] 43 (0, 0)) (kZ BK287.out)) : gb287 ≠ gb288)); have n6_ := Aside0.mk ((by rw [hg]; exact Nat.ne_of_gt (blk_lt (g := gb287) (o := .cells #[.int .i64 a0_0, .int .i64 a0_1] 43 (0, 0)) (kZ BK287.out)) : gb288 ≠ gb287)); clear BK287; clear HB; have BK287 := n0_; have HB := n1_; have BK288 := n2_; have GW288 := n3_; have GE288 := n4_; have NB287_288 := n5_; have NB288_287 := n6_; clear n0_ n1_ n2_ n3_ n4_ n5_ n6_; clear hb hbox hg; have hnb17 := NB287_288.out; have hnc17 := NB288_287.out; have hcz18_0 := bc0 BK287.out; have hcz18_1 := bc1 BK287.out; have hfz18_0 := blk_frozen BK287.out 0; have hfz18_1 := blk_frozen BK287.out 1; have hcz19_0 := bc0 BK288.out; have hcz19_1 := bc1 BK288.out; have hfz19_0 := blk_frozen BK288.out 0; have hfz19_1 := blk_frozen BK288.out 1))
  go_ret
  exact ⟨eZ, bZ⟩
end Go.Proofs.Ytahadhldokhifaa.XP
end

section
namespace Go.Proofs.Ytahadhldokhifaa.XP
open Go.RowKit Go.Proofs.YtahadhldokhifaaW.PrintWords Go.Proofs.YtahadhldokhifaaW.PrintLast Go.Proofs.YtahadhldokhifaaW.PrintMore
attribute [local go_sem] run_eql_slice_nil binOp_string_gtr' binOp_string_leq' binOp_string_geq' max2_int min2_int max_two min_two max_three min_three max_four min_four   -- for this text's walks alone
set_option linter.unusedVariables false
set_option linter.unusedSimpArgs false
def laws_eqStepS.l0 : Nat → List (S43) → List (S43) → Int → Option (Bool)
 | 0, _, _, _ => none
 | k + 1, x0, x1, x5 => if x5 < (x0.length : Int) then (if 0 ≤ x5 then (if x5 < (x1.length : Int) then ((laws_eqStep.f ((rd_T43 x0 x5).f0) ((rd_T43 x0 x5).f1) ((rd_T43 x1 x5).f0) ((rd_T43 x1 x5).f1)).bind fun t291 => (if t291 = true then (laws_eqStepS.l0 k x0 x1 (wrap64 (x5 + 1))) else (some false))) else (none)) else (none)) else (some true)
def laws_eqStepS.f (k : Nat) (l0 : List (S43)) (l1 : List (S43)) : Option (Bool) := if (l0.length : Int) = (l1.length : Int) then (laws_eqStepS.l0 k l0 l1 0) else (some false)
def laws_eqStepS.T6 : Bool × List (List Nat × List Nat) := (true, [([], []), ([], []), ([0, 1], [0, 1]), ([2], [2]), ([], []), ([], []), ([4, 5], [4, 5]), ([6], [6]), ([3, 7], [3, 7]), ([8], [8])])
def laws_eqStepS.B6 : List Nat := [0, 0, 3, 7, 0, 0, 48, 112, 255, 511]
theorem laws_eqStepS.tab6 : rtab .any (opsOf Try.f10 6) = laws_eqStepS.T6 := by kernel_rfl
theorem laws_eqStepS.bits6 : waitsOk laws_eqStepS.T6.2 laws_eqStepS.B6 = true := by kernel_rfl
set_option maxHeartbeats 8000000 in
set_option maxRecDepth 100000 in
theorem laws_eqStepS.calls (k : Nat) (A0 : Option Addr) (c0 : Nat) (l0 : List (S43)) (A1 : Option Addr) (c1 : Nat) (l1 : List (S43)) (r : Bool) (w : World) (hr0 : Kd.C k43 w A0 l0.length l0) (hc0 : l0.length ≤ c0) (hr1 : Kd.C k43 w A1 l1.length l1) (hc1 : l1.length ≤ c1) (h : laws_eqStepS.f k l0 l1 = some r) :
  Calls Try.prog 10 #[.slice A0 l0.length c0, .slice A1 l1.length c1] w fun e w' => e = .returned (.bool r) ∧ Below w.heap.size w w' := by
 have hu43 := Try.underlying43
 have HR0 := Aside0.mk hr0
 have HC0 := Aside0.mk hc0
 clear hr0 hc0
 have HR1 := Aside0.mk hr1
 have HC1 := Aside0.mk hc1
 clear hr1 hc1
 have HB := Aside0.mk (Below.refl w.heap.size w)
 have H : (if (l0.length : Int) = (l1.length : Int) then (laws_eqStepS.l0 k l0 l1 0) else (some false)) = some r := h
 clear h
 by_cases c3 : (l0.length : Int) = (l1.length : Int)
 ·rw [if_pos c3] at H
  have c3b0 : ((l0.length : Int) == (l1.length : Int)) = true := beq_iff_eq.mpr c3
  have c3b1 : ((l0.length : Int) != (l1.length : Int)) = false := bne_eq_false_iff_eq.mpr c3
  have c3b2 : (l0.length == l1.length) = true := by first | simpa using c3 | (simp at c3 ⊢; omega)
  clear c3
  have H' := Aside0.mk H
  clear H
  go_enter Try.func10, Try.ntmps10
  go_wp2
  go_loopg [5] k (fun kq v5 w' => ∃ (x5_1 : Int), v5 = .int .i64 x5_1 ∧ Aside0 (laws_eqStepS.l0 kq l0 l1 x5_1 = some r) ∧ Aside0 (kq ≤ k) ∧ Aside0 (Below w.heap.size w w'))
  case atStart => exact ⟨(0), sZ, H', ⟨Nat.le_refl _⟩, ⟨bZ⟩⟩
  case round =>
   clear H'; (try clear c1); (try clear p2); (try clear c3); (try clear c3b0); (try clear c3b1); (try clear c3b2)
   obtain ⟨x5_1, rfl, HA, HK1, HB⟩ := hrel
   cases gk with
   | zero => exact absurd HA.out (by simp [laws_eqStepS.l0])
   | succ k1 =>
    have H := HA.out
    clear HA
    simp only [laws_eqStepS.l0] at H
    by_cases c4 : x5_1 < (l0.length : Int)
    ·rw [if_pos c4] at H
     have c4b0 : decide (x5_1 < (l0.length : Int)) = true := decide_eq_true c4
     clear c4
     by_cases c5 : 0 ≤ x5_1
     ·rw [if_pos c5] at H
      have c5b0 : decide (0 ≤ x5_1) = true := decide_eq_true c5
      clear c5
      by_cases c6 : x5_1 < (l1.length : Int)
      ·rw [if_pos c6] at H
       have c6b0 : decide (x5_1 < (l1.length : Int)) = true := decide_eq_true c6
       clear c6
       replace H := Option.bind_eq_some_iff.mp H
       obtain ⟨t291, A70, H⟩ := H
       replace H : (if t291 = true then (laws_eqStepS.l0 k1 l0 l1 (wrap64 (x5_1 + 1))) else (some false)) = some r := H
       have A7 := Aside0.mk A70
       clear A70
       by_cases c8 : t291 = true
       ·subst c8
        have H1 : (laws_eqStepS.l0 k1 l0 l1 (wrap64 (x5_1 + 1))) = some r := by rw [if_pos rfl] at H; exact H
        clear H
        have H := H1
        clear H1
        have H' := Aside0.mk H
        clear H
        try go_wp2
        have n0_ := Aside0.mk (below_drew1 HB.out)
        clear HB
        have HB := n0_
        clear n0_
        have p289 : 0 ≤ (x5_1 : Int) := oZ
        have q289 : x5_1 < (l0.length : Int) := oZ
        obtain ⟨ad289, e289, hx289_0, hx289_1⟩ := at_T43 HR0.out x5_1 p289 q289
        have hw289_1 := hx289_1
        have hw289_0 := hx289_0
        cases e289
        replace hx289_0 := (HB.out.cell (World.block_lt_of_cell? w _ hx289_0)).trans hx289_0
        replace hx289_1 := (HB.out.cell (World.block_lt_of_cell? w _ hx289_1)).trans hx289_1
        replace p289 := eq_true p289
        replace q289 := eq_true q289
        have p290 : 0 ≤ (x5_1 : Int) := oZ
        have q290 : x5_1 < (l1.length : Int) := oZ
        obtain ⟨ad290, e290, hx290_0, hx290_1⟩ := at_T43 HR1.out x5_1 p290 q290
        have hw290_1 := hx290_1
        have hw290_0 := hx290_0
        cases e290
        replace hx290_0 := (HB.out.cell (World.block_lt_of_cell? w _ hx290_0)).trans hx290_0
        replace hx290_1 := (HB.out.cell (World.block_lt_of_cell? w _ hx290_1)).trans hx290_1
        replace p290 := eq_true p290
        replace q290 := eq_true q290
        refine start_ (n := 10) (S := fun w' => w'.cell? (ad289.add ((x5_1).toNat * 2)) = some (.int .i64 ((rd_T43 l0 x5_1).f0)) ∧ w'.cell? ⟨(ad289.add ((x5_1).toNat * 2)).block, (ad289.add ((x5_1).toNat * 2)).off + 1, none⟩ = some (.int .i64 ((rd_T43 l0 x5_1).f1)) ∧ w'.cell? (ad290.add ((x5_1).toNat * 2)) = some (.int .i64 ((rd_T43 l1 x5_1).f0)) ∧ w'.cell? ⟨(ad290.add ((x5_1).toNat * 2)).block, (ad290.add ((x5_1).toNat * 2)).off + 1, none⟩ = some (.int .i64 ((rd_T43 l1 x5_1).f1))) (ds := []) #[false, false, false, false, false, false, false, false, false, false] (by kernel_rfl) rfl rfl ⟨((HB.out.cell (World.block_lt_of_cell? w _ hw289_0)).trans hw289_0), ((HB.out.cell (World.block_lt_of_cell? w _ hw289_1)).trans hw289_1), ((HB.out.cell (World.block_lt_of_cell? w _ hw290_0)).trans hw290_0), ((HB.out.cell (World.block_lt_of_cell? w _ hw290_1)).trans hw290_1)⟩ (fun hHeld => ?_); refine with_tabW laws_eqStepS.tab6 laws_eqStepS.bits6 (fun HT_ HW_ => ?_)
        generalize wr.drew = w9 at HB hx289_0 hx289_1 hx290_0 hx290_1 hHeld ⊢
        refine puZ 0 (some 17) #[true, false, false, false, false, false, false, false, false, false] rfl rfl HT_.out ?_
        refine puZ 1 (some 18) #[true, true, false, false, false, false, false, false, false, false] rfl rfl HT_.out ?_
        refine puZ 2 (some 19) #[true, true, true, false, false, false, false, false, false, false] rfl rfl HT_.out ?_
        refine puZ 4 (some 21) #[true, true, true, false, true, false, false, false, false, false] rfl rfl HT_.out ?_
        refine puZ 5 (some 22) #[true, true, true, false, true, true, false, false, false, false] rfl rfl HT_.out ?_
        refine puZ 6 (some 23) #[true, true, true, false, true, true, true, false, false, false] rfl rfl HT_.out ?_
        refine take_ (i := 3) (N := some 20) (v := ?_) (a' := ?_) #[true, true, true, true, true, true, true, false, false, false] rfl rfl (take_ofW HT_.out HW_.out (by kernel_rfl)) (fun _ _ _ h => h) (Or.inl ⟨by rfl, ?_⟩) hHeld ?_ ?_
        rotate_left
        ·rintro w' ⟨s0, s1, s2, s3⟩
         go_simp
         with_reducible rfl
        rotate_left
        ·simp only [Act.put, List.setIfInBounds_toArray, List.set_cons_zero, List.set_cons_succ, i64_w, i32_w]
         rfl
        refine take_ (i := 7) (N := some 24) (v := ?_) (a' := ?_) #[true, true, true, true, true, true, true, true, false, false] rfl rfl (take_ofW HT_.out HW_.out (by kernel_rfl)) (fun _ _ _ h => h) (Or.inl ⟨by rfl, ?_⟩) hHeld ?_ ?_
        rotate_left
        ·rintro w' ⟨s0, s1, s2, s3⟩
         go_simp
         with_reducible rfl
        rotate_left
        ·simp only [Act.put, List.setIfInBounds_toArray, List.set_cons_zero, List.set_cons_succ, i64_w, i32_w]
         rfl
        refine one_ (i := 8) (N := some 25) #[true, true, true, true, true, true, true, true, true, false] rfl rfl (one_of HT_.out (by kernel_rfl)) (by decide) (fun K hK => ?_)
        refine goes_ Try.func29 (by kernel_rfl) rfl #[.agg #[.int .i64 ((rd_T43 l0 x5_1).f0), .int .i64 ((rd_T43 l0 x5_1).f1)], .agg #[.int .i64 ((rd_T43 l1 x5_1).f0), .int .i64 ((rd_T43 l1 x5_1).f1)]] (by rfl) rfl rfl gZ ?_
        with_reducible refine (laws_eqStep.calls ((rd_T43 l0 x5_1).f0) ((rd_T43 l0 x5_1).f1) ((rd_T43 l1 x5_1).f0) ((rd_T43 l1 x5_1).f1) true _ A7.out).mono ?_
        rintro e w10 ⟨rfl, hb⟩
        refine ⟨_, rfl, ?_⟩
        have n0_ := Aside0.mk (below_step bZ hb)
        clear HB
        have HB := n0_
        clear n0_
        (try clear hb)
        (try clear hb2)
        (try clear hk)
        (try clear hi)
        refine hK.out _ _ ⟨((HB.out.cell (World.block_lt_of_cell? w _ hw289_0)).trans hw289_0), ((HB.out.cell (World.block_lt_of_cell? w _ hw289_1)).trans hw289_1), ((HB.out.cell (World.block_lt_of_cell? w _ hw290_0)).trans hw290_0), ((HB.out.cell (World.block_lt_of_cell? w _ hw290_1)).trans hw290_1)⟩ (fun hHeld => ?_)
        clear hK K
        refine norm_ (a' := ?_) ?_ ?_
        rotate_left
        ·show Act.put _ (some 25) _ = _
         simp only [Act.put, List.setIfInBounds_toArray, List.set_cons_zero, List.set_cons_succ, i64_w, i32_w]
         rfl
        refine puZ 9 (some 26) #[true, true, true, true, true, true, true, true, true, true] rfl rfl HT_.out ?_
        refine done_ (done_of HT_.out (by kernel_rfl)) ?_
        try go_wp2
        go_roundg k1
        case measure => have := HK1.out; omega
        case rel => exact ⟨(wrap64 (x5_1 + 1)), sZ, H', ⟨by have := HK1.out; omega⟩, ⟨bZ⟩⟩
       ·replace c8 := Bool.eq_false_iff.mpr c8
        subst c8
        have H1 : (some false) = some r := by rw [if_neg (show ¬ (false = true) by decide)] at H; exact H
        clear H
        have H := H1
        clear H1
        obtain rfl := Option.some.inj H
        try go_wp2
        have n0_ := Aside0.mk (below_drew1 HB.out)
        clear HB
        have HB := n0_
        clear n0_
        have p289 : 0 ≤ (x5_1 : Int) := oZ
        have q289 : x5_1 < (l0.length : Int) := oZ
        obtain ⟨ad289, e289, hx289_0, hx289_1⟩ := at_T43 HR0.out x5_1 p289 q289
        have hw289_1 := hx289_1
        have hw289_0 := hx289_0
        cases e289
        replace hx289_0 := (HB.out.cell (World.block_lt_of_cell? w _ hx289_0)).trans hx289_0
        replace hx289_1 := (HB.out.cell (World.block_lt_of_cell? w _ hx289_1)).trans hx289_1
        replace p289 := eq_true p289
        replace q289 := eq_true q289
        have p290 : 0 ≤ (x5_1 : Int) := oZ
        have q290 : x5_1 < (l1.length : Int) := oZ
        obtain ⟨ad290, e290, hx290_0, hx290_1⟩ := at_T43 HR1.out x5_1 p290 q290
        have hw290_1 := hx290_1
        have hw290_0 := hx290_0
        cases e290
        replace hx290_0 := (HB.out.cell (World.block_lt_of_cell? w _ hx290_0)).trans hx290_0
        replace hx290_1 := (HB.out.cell (World.block_lt_of_cell? w _ hx290_1)).trans hx290_1
        replace p290 := eq_true p290
        replace q290 := eq_true q290
        refine start_ (n := 10) (S := fun w' => w'.cell? (ad289.add ((x5_1).toNat * 2)) = some (.int .i64 ((rd_T43 l0 x5_1).f0)) ∧ w'.cell? ⟨(ad289.add ((x5_1).toNat * 2)).block, (ad289.add ((x5_1).toNat * 2)).off + 1, none⟩ = some (.int .i64 ((rd_T43 l0 x5_1).f1)) ∧ w'.cell? (ad290.add ((x5_1).toNat * 2)) = some (.int .i64 ((rd_T43 l1 x5_1).f0)) ∧ w'.cell? ⟨(ad290.add ((x5_1).toNat * 2)).block, (ad290.add ((x5_1).toNat * 2)).off + 1, none⟩ = some (.int .i64 ((rd_T43 l1 x5_1).f1))) (ds := []) #[false, false, false, false, false, false, false, false, false, false] (by kernel_rfl) rfl rfl ⟨((HB.out.cell (World.block_lt_of_cell? w _ hw289_0)).trans hw289_0), ((HB.out.cell (World.block_lt_of_cell? w _ hw289_1)).trans hw289_1), ((HB.out.cell (World.block_lt_of_cell? w _ hw290_0)).trans hw290_0), ((HB.out.cell (World.block_lt_of_cell? w _ hw290_1)).trans hw290_1)⟩ (fun hHeld => ?_); refine with_tabW laws_eqStepS.tab6 laws_eqStepS.bits6 (fun HT_ HW_ => ?_)
        generalize wr.drew = w11 at HB hx289_0 hx289_1 hx290_0 hx290_1 hHeld ⊢
        refine puZ 0 (some 17) #[true, false, false, false, false, false, false, false, false, false] rfl rfl HT_.out ?_
        refine puZ 1 (some 18) #[true, true, false, false, false, false, false, false, false, false] rfl rfl HT_.out ?_
        refine puZ 2 (some 19) #[true, true, true, false, false, false, false, false, false, false] rfl rfl HT_.out ?_
        refine puZ 4 (some 21) #[true, true, true, false, true, false, false, false, false, false] rfl rfl HT_.out ?_
        refine puZ 5 (some 22) #[true, true, true, false, true, true, false, false, false, false] rfl rfl HT_.out ?_
        refine puZ 6 (some 23) #[true, true, true, false, true, true, true, false, false, false] rfl rfl HT_.out ?_
        refine take_ (i := 3) (N := some 20) (v := ?_) (a' := ?_) #[true, true, true, true, true, true, true, false, false, false] rfl rfl (take_ofW HT_.out HW_.out (by kernel_rfl)) (fun _ _ _ h => h) (Or.inl ⟨by rfl, ?_⟩) hHeld ?_ ?_
        rotate_left
        ·rintro w' ⟨s0, s1, s2, s3⟩
         go_simp
         with_reducible rfl
        rotate_left
        ·simp only [Act.put, List.setIfInBounds_toArray, List.set_cons_zero, List.set_cons_succ, i64_w, i32_w]
         rfl
        refine take_ (i := 7) (N := some 24) (v := ?_) (a' := ?_) #[true, true, true, true, true, true, true, true, false, false] rfl rfl (take_ofW HT_.out HW_.out (by kernel_rfl)) (fun _ _ _ h => h) (Or.inl ⟨by rfl, ?_⟩) hHeld ?_ ?_
        rotate_left
        ·rintro w' ⟨s0, s1, s2, s3⟩
         go_simp
         with_reducible rfl
        rotate_left
        ·simp only [Act.put, List.setIfInBounds_toArray, List.set_cons_zero, List.set_cons_succ, i64_w, i32_w]
         rfl
        refine one_ (i := 8) (N := some 25) #[true, true, true, true, true, true, true, true, true, false] rfl rfl (one_of HT_.out (by kernel_rfl)) (by decide) (fun K hK => ?_)
        refine goes_ Try.func29 (by kernel_rfl) rfl #[.agg #[.int .i64 ((rd_T43 l0 x5_1).f0), .int .i64 ((rd_T43 l0 x5_1).f1)], .agg #[.int .i64 ((rd_T43 l1 x5_1).f0), .int .i64 ((rd_T43 l1 x5_1).f1)]] (by rfl) rfl rfl gZ ?_
        with_reducible refine (laws_eqStep.calls ((rd_T43 l0 x5_1).f0) ((rd_T43 l0 x5_1).f1) ((rd_T43 l1 x5_1).f0) ((rd_T43 l1 x5_1).f1) false _ A7.out).mono ?_
        rintro e w12 ⟨rfl, hb⟩
        refine ⟨_, rfl, ?_⟩
        have n0_ := Aside0.mk (below_step bZ hb)
        clear HB
        have HB := n0_
        clear n0_
        (try clear hb)
        (try clear hb2)
        (try clear hk)
        (try clear hi)
        refine hK.out _ _ ⟨((HB.out.cell (World.block_lt_of_cell? w _ hw289_0)).trans hw289_0), ((HB.out.cell (World.block_lt_of_cell? w _ hw289_1)).trans hw289_1), ((HB.out.cell (World.block_lt_of_cell? w _ hw290_0)).trans hw290_0), ((HB.out.cell (World.block_lt_of_cell? w _ hw290_1)).trans hw290_1)⟩ (fun hHeld => ?_)
        clear hK K
        refine norm_ (a' := ?_) ?_ ?_
        rotate_left
        ·show Act.put _ (some 25) _ = _
         simp only [Act.put, List.setIfInBounds_toArray, List.set_cons_zero, List.set_cons_succ, i64_w, i32_w]
         rfl
        refine puZ 9 (some 26) #[true, true, true, true, true, true, true, true, true, true] rfl rfl HT_.out ?_
        refine done_ (done_of HT_.out (by kernel_rfl)) ?_
        try go_wp2
        go_ret
        exact ⟨eZ, bZ⟩
      ·rw [if_neg c6] at H
       exact absurd H (by simp)
     ·rw [if_neg c5] at H
      exact absurd H (by simp)
    ·rw [if_neg c4] at H
     have c4b0 : decide (x5_1 < (l0.length : Int)) = false := decide_eq_false c4
     clear c4
     obtain rfl := Option.some.inj H
     go_wp2
     go_ret
     exact ⟨eZ, bZ⟩
 ·rw [if_neg c3] at H
  have c3b0 : ((l0.length : Int) == (l1.length : Int)) = false := beq_eq_false_iff_ne.mpr c3
  have c3b1 : ((l0.length : Int) != (l1.length : Int)) = true := bne_iff_ne.mpr c3
  have c3b2 : (l0.length == l1.length) = false := by first | simpa using c3 | (simp at c3 ⊢; omega)
  obtain rfl := Option.some.inj H
  go_enter Try.func10, Try.ntmps10
  go_wp2
  go_ret
  exact ⟨eZ, bZ⟩
end Go.Proofs.Ytahadhldokhifaa.XP
end

section
namespace Go.Proofs.Ytahadhldokhifaa.XP
open Go.RowKit Go.Proofs.YtahadhldokhifaaW.PrintWords Go.Proofs.YtahadhldokhifaaW.PrintLast Go.Proofs.YtahadhldokhifaaW.PrintMore
attribute [local go_sem] run_eql_slice_nil binOp_string_gtr' binOp_string_leq' binOp_string_geq' max2_int min2_int max_two min_two max_three min_three max_four min_four   -- for this text's walks alone
set_option linter.unusedVariables false
set_option linter.unusedSimpArgs false
def laws_markStepS.l0 : Nat → List (S43) → Int → Int → Option (Int × (List (S43)))
 | 0, _, _, _ => none
 | k + 1, x0, x1, x5 => if x5 < (x0.length : Int) then (if 0 ≤ x5 then ((some (x0.set (x5 : Int).toNat (⟨x1, (rd_T43 x0 x5).f1⟩ : S43) : List (S43))).bind fun y292 => (laws_markStepS.l0 k (y292.set (x5 : Int).toNat (⟨(rd_T43 y292 x5).f0, wrap64 (x1 + 1)⟩ : S43)) (wrap64 ((wrap64 (x1 + 1)) + 1)) (wrap64 (x5 + 1)))) else (none)) else (some (x1, x0))
def laws_markStepS.f (k : Nat) (l0 : List (S43)) (a1 : Int) : Option (Int × (List (S43))) := laws_markStepS.l0 k l0 a1 0
set_option maxHeartbeats 8000000 in
set_option maxRecDepth 100000 in
theorem laws_markStepS.calls (k : Nat) (P0_ : Nat → Prop) (u9000_ : Value) (l0 : List (S43)) (a1 : Int) (r1 : Int) (r2 : List (S43)) (w0 w : World) (hB : Below w0.heap.size w0 w) (ho0 : Kd.R k43 43 w w0.heap.size P0_ u9000_ l0) (h : laws_markStepS.f k l0 a1 = some (r1, r2)) :
  Calls Try.prog 11 #[u9000_, .int .i64 a1] w fun e w' => e = .returned (.int .i64 r1) ∧ Kd.R k43 43 w' w0.heap.size (fun k_ => (P0_ k_ ∨ w.heap.size ≤ k_)) u9000_ r2 ∧ Below w0.heap.size w0 w' ∧ Kept w w' (fun k_ => P0_ k_) := by
 have HO0 := Aside0.mk (show Kd.R k43 43 w w0.heap.size (fun k_ => (P0_ k_ ∨ w.heap.size ≤ k_)) u9000_ l0 from Kd.R_mono ho0 (fun k_ hk => (.inl hk)))
 have HK := Aside0.mk (Kept.refl w (fun k_ => P0_ k_))
 have HW0 := Aside0.mk hB.size
 have HB := Aside0.mk hB
 clear hB
 have H : (laws_markStepS.l0 k l0 a1 0) = some (r1, r2) := h
 clear h
 have H' := Aside0.mk H
 clear H
 go_enter Try.func11, Try.ntmps11
 go_wp2
 go_loopg [1, 5] k (fun kq v1 v5 w' => ∃ (x0_1 : List (S43)) (x1_1 : Int) (x5_1 : Int), v1 = .int .i64 x1_1 ∧ v5 = .int .i64 x5_1 ∧ Aside0 (laws_markStepS.l0 kq x0_1 x1_1 x5_1 = some (r1, r2)) ∧ Aside0 (kq ≤ k) ∧ Aside0 (Kd.R k43 43 w' w0.heap.size (fun k_ => (P0_ k_ ∨ w.heap.size ≤ k_)) u9000_ x0_1) ∧ Aside0 (Kept w w' (fun k_ => P0_ k_)) ∧ Aside0 (Below w0.heap.size w0 w'))
 case atStart => exact ⟨(l0), (a1), (0), sZ, sZ, H', ⟨Nat.le_refl _⟩, ⟨Kd.rZ HO0.out⟩, ⟨by repeat (first | (with_reducible first | exact HK.out | apply Kept.alloc | apply Kept.drewN | apply Kept.drew) | exact HK.out)⟩, ⟨bZ⟩⟩
 case round =>
  clear H'; (try clear c1); (try clear p2)
  obtain ⟨x0_1, x1_1, x5_1, rfl, rfl, HA, HK1, HO_0, HK, HB⟩ := hrel
  cases gk with
  | zero => exact absurd HA.out (by simp [laws_markStepS.l0])
  | succ k1 =>
   have H := HA.out
   clear HA
   simp only [laws_markStepS.l0] at H
   by_cases c3 : x5_1 < (x0_1.length : Int)
   ·rw [if_pos c3] at H
    have c3b0 : decide (x5_1 < (x0_1.length : Int)) = true := decide_eq_true c3
    clear c3
    by_cases c4 : 0 ≤ x5_1
    ·rw [if_pos c4] at H
     have c4b0 : decide (0 ≤ x5_1) = true := decide_eq_true c4
     clear c4
     obtain ⟨y292, hy292⟩ : ∃ y_ : List (S43), y_ = (x0_1.set (x5_1 : Int).toNat (⟨x1_1, (rd_T43 x0_1 x5_1).f1⟩ : S43)) := ⟨_, rfl⟩
     replace H : (laws_markStepS.l0 k1 (y292.set (x5_1 : Int).toNat (⟨(rd_T43 y292 x5_1).f0, wrap64 (x1_1 + 1)⟩ : S43)) (wrap64 ((wrap64 (x1_1 + 1)) + 1)) (wrap64 (x5_1 + 1))) = some (r1, r2) := by first | (rw [hy292]; with_reducible exact H) | (have H2_ := (Option.bind_some _ _).symm.trans H; rw [hy292]; with_reducible exact H2_) | (have H2_ := (Option.bind_some _ _).symm.trans H; with_reducible exact H2_) | with_reducible exact H | (rw [hy292]; exact H) | exact H
     have Ny292 := Aside0.mk hy292
     clear hy292
     obtain ⟨y293, hy293⟩ : ∃ y_ : List (S43), y_ = (y292.set (x5_1 : Int).toNat (⟨(rd_T43 y292 x5_1).f0, wrap64 (x1_1 + 1)⟩ : S43)) := ⟨_, rfl⟩
     replace H : (laws_markStepS.l0 k1 y293 (wrap64 ((wrap64 (x1_1 + 1)) + 1)) (wrap64 (x5_1 + 1))) = some (r1, r2) := by first | (rw [hy293]; with_reducible exact H) | (have H2_ := (Option.bind_some _ _).symm.trans H; rw [hy293]; with_reducible exact H2_) | (have H2_ := (Option.bind_some _ _).symm.trans H; with_reducible exact H2_) | with_reducible exact H | (rw [hy293]; exact H) | exact H
     have Ny293 := Aside0.mk hy293
     clear hy293
     have H' := Aside0.mk H
     clear H
     obtain ⟨Ao7, co7, eo7⟩ := Kd.R_slice HO_0.out
     subst eo7
     have p5 : 0 ≤ (x5_1 : Int) := oZ
     have q5 : (x5_1 : Int) < ((x0_1.length : Int) : Int) := oZ
     obtain ⟨go5, co5, eo5, gb5, gl5, cl5, HG5⟩ := Kd.R_form HO_0.out (by omega)
     (first | cases eo5 | (injection eo5 with ea_ en_ ec_; (first | subst ea_ | (injection ea_ with ea_; subst ea_)); subst ec_; clear en_))
     have GB5 := Aside0.mk gb5
     have GG5 := Aside0.mk HG5
     clear gb5 gl5 HG5
     have HMgo5 := Aside0.mk (show (P0_ go5 ∨ w.heap.size ≤ go5) from (HO_0.out.1 _ rfl))
     obtain ⟨ce5, hcl5, hM5, hcc5, hfr5⟩ := Kd.R_elem HO_0.out z43 (x5_1 : Int) p5 q5
     obtain rfl := k43_openM hM5
     have hx5_0 : wr.cell? ⟨go5, (x5_1 : Int).toNat * 2, none⟩ = some (.int .i64 ((rd_T43 x0_1 x5_1).f0)) := hcc5 0 _ rfl
     have hx5_1 : wr.cell? ⟨go5, (x5_1 : Int).toNat * 2 + 1, none⟩ = some (.int .i64 ((rd_T43 x0_1 x5_1).f1)) := hcc5 1 _ rfl
     have hf5_0 : wr.frozen? ⟨go5, (x5_1 : Int).toNat * 2, none⟩ = false := hfr5 0
     have hf5_1 : wr.frozen? ⟨go5, (x5_1 : Int).toNat * 2 + 1, none⟩ = false := hfr5 1
     clear hcl5 hcc5 hfr5; (try clear hM5)
     replace p5 := eq_true p5
     replace q5 := eq_true q5
     have HX8 := Aside0.mk (show Kd.R k43 43 wr w0.heap.size (fun k_ => (P0_ k_ ∨ w.heap.size ≤ k_)) (.slice (some ⟨go5, 0, none⟩) x0_1.length co7) x0_1 from (Kd.rZ HO_0.out))
     obtain ⟨ce8, hcl8, hM8, hcc8, hfr8⟩ := Kd.R_elem HX8.out z43 (x5_1 : Int) oZ (by have h_ : (x5_1 : Int) < ((x0_1.length : Int) : Int) := oZ; first | exact h_ | (have e_ := (Kd.R_reads' HO_0.out).1; omega) | simpa using h_)
     obtain rfl := k43_openM hM8
     have HP8 := Kd.R_seg HX8.out (x5_1 : Int) oZ (by have h_ : (x5_1 : Int) < ((x0_1.length : Int) : Int) := oZ; first | exact h_ | (have e_ := (Kd.R_reads' HO_0.out).1; omega) | simpa using h_) (seg := [.int .i64 x1_1]) (j := 0) hcl8 hcc8 (show 1 ≤ 2 from by decide) (x' := (⟨x1_1, (rd_T43 x0_1 x5_1).f1⟩ : S43)) (k43_mkM _ _ _ (⟨x1_1, (rd_T43 x0_1 x5_1).f1⟩ : S43) ) (fun _ hk => hk)
     have hx8_0 := hcc8 0 _ rfl
     (try simp only [show (k43).sz = 2 from rfl, Nat.mul_one, Nat.add_zero] at hx8_0)
     have hf8_0 := hfr8 0
     (try simp only [show (k43).sz = 2 from rfl, Nat.mul_one, Nat.add_zero] at hf8_0)
     clear hcl8 hcc8 hfr8; (try clear hM8)
     go_wp2_with (first | ((with_reducible refine gate_store (t := 2) (p := 16) rfl ?_); refine store_event (t := 2) (p := 16) (v := ?vo_w9) (w1 := (wr.setCell ⟨go5, (x5_1 : Int).toNat * 2, none⟩ (.int .i64 x1_1))) ?hg ?ho ?hn ?hr ?_; (case ho => rfl); (case hg => rfl); (case hn => rfl); (case hr => first | (go_simp; done) | (go_simp; rfl)); intro w9 hw; have hg : wr.grownBy w9 (some go5) := (by rw [hw]; exact HP8.2); have hp_ : Kd.R k43 43 w9 w0.heap.size (fun k_ => (P0_ k_ ∨ w.heap.size ≤ k_)) (.slice (some ⟨go5, 0, none⟩) x0_1.length co7) y292 := (by rw [hw, Ny292.out]; exact HP8.1); clear HP8; have n0_ := Aside0.mk (hp_); have n1_ := Aside0.mk ((by rw [hw]; exact below_set (HB.out) GB5.out : Below w0.heap.size w0 w9)); have n2_ := Aside0.mk (Kept.of_grown (S := (fun k_ => P0_ k_)) hg (by repeat (first | (with_reducible first | exact HK.out | apply Kept.alloc | apply Kept.drewN | apply Kept.drew) | exact HK.out)) (fun k_ e_ => (HO_0.out.1 k_ e_))); clear HO_0; clear HB; clear HK; have HO_0 := n0_; have HB := n1_; have HK := n2_; clear n0_ n1_ n2_; clear hg hw hp_; have p6 : 0 ≤ (x5_1 : Int) := oZ; have q6 : (x5_1 : Int) < ((x0_1.length : Int) : Int) := oZ; obtain ⟨ce6, hcl6, hM6, hcc6, hfr6⟩ := Kd.R_elem HO_0.out z43 (x5_1 : Int) p6 q6; obtain rfl := k43_openM hM6; have hx6_0 : w9.cell? ⟨go5, (x5_1 : Int).toNat * 2, none⟩ = some (.int .i64 ((rd_T43 y292 x5_1).f0)) := hcc6 0 _ rfl; have hx6_1 : w9.cell? ⟨go5, (x5_1 : Int).toNat * 2 + 1, none⟩ = some (.int .i64 ((rd_T43 y292 x5_1).f1)) := hcc6 1 _ rfl; have hf6_0 : w9.frozen? ⟨go5, (x5_1 : Int).toNat * 2, none⟩ = false := hfr6 0; have hf6_1 : w9.frozen? ⟨go5, (x5_1 : Int).toNat * 2 + 1, none⟩ = false := hfr6 1; clear hcl6 hcc6 hfr6; (try clear hM6); replace p6 := eq_true p6; replace q6 := eq_true q6; have HX10 := Aside0.mk (show Kd.R k43 43 w9 w0.heap.size (fun k_ => (P0_ k_ ∨ w.heap.size ≤ k_)) (.slice (some ⟨go5, 0, none⟩) x0_1.length co7) y292 from (Kd.rZ HO_0.out)); obtain ⟨ce10, hcl10, hM10, hcc10, hfr10⟩ := Kd.R_elem HX10.out z43 (x5_1 : Int) oZ (by have h_ : (x5_1 : Int) < ((x0_1.length : Int) : Int) := oZ; first | exact h_ | (have e_ := (Kd.R_reads' HO_0.out).1; omega) | simpa using h_); obtain rfl := k43_openM hM10; have HP10 := Kd.R_seg HX10.out (x5_1 : Int) oZ (by have h_ : (x5_1 : Int) < ((x0_1.length : Int) : Int) := oZ; first | exact h_ | (have e_ := (Kd.R_reads' HO_0.out).1; omega) | simpa using h_) (seg := [.int .i64 (wrap64 (x1_1 + 1))]) (j := 1) hcl10 hcc10 (show 2 ≤ 2 from by decide) (x' := (⟨(rd_T43 y292 x5_1).f0, wrap64 (x1_1 + 1)⟩ : S43)) (k43_mkM _ _ _ (⟨(rd_T43 y292 x5_1).f0, wrap64 (x1_1 + 1)⟩ : S43) ) (fun _ hk => hk); have hx10_1 := hcc10 1 _ rfl; (try simp only [show (k43).sz = 2 from rfl, Nat.mul_one, Nat.add_zero] at hx10_1); have hf10_1 := hfr10 1; (try simp only [show (k43).sz = 2 from rfl, Nat.mul_one, Nat.add_zero] at hf10_1); clear hcl10 hcc10 hfr10; (try clear hM10)) | ((with_reducible refine gate_store (t := 2) (p := 23) rfl ?_); refine store_event (t := 2) (p := 23) (v := ?vo_w11) (w1 := (w9.setCell ⟨go5, (x5_1 : Int).toNat * 2 + 1, none⟩ (.int .i64 (wrap64 (x1_1 + 1))))) ?hg ?ho ?hn ?hr ?_; (case ho => rfl); (case hg => rfl); (case hn => rfl); (case hr => first | (go_simp; done) | (go_simp; rfl)); intro w11 hw; have hg : w9.grownBy w11 (some go5) := (by rw [hw]; exact HP10.2); have hp_ : Kd.R k43 43 w11 w0.heap.size (fun k_ => (P0_ k_ ∨ w.heap.size ≤ k_)) (.slice (some ⟨go5, 0, none⟩) x0_1.length co7) y293 := (by rw [hw, Ny293.out]; exact HP10.1); clear HP10; have n0_ := Aside0.mk (hp_); have n1_ := Aside0.mk ((by rw [hw]; exact below_set (HB.out) GB5.out : Below w0.heap.size w0 w11)); have n2_ := Aside0.mk (Kept.of_grown (S := (fun k_ => P0_ k_)) hg (by repeat (first | (with_reducible first | exact HK.out | apply Kept.alloc | apply Kept.drewN | apply Kept.drew) | exact HK.out)) (fun k_ e_ => (HO_0.out.1 k_ e_))); clear HO_0; clear HB; clear HK; have HO_0 := n0_; have HB := n1_; have HK := n2_; clear n0_ n1_ n2_; clear hg hw hp_))
     go_roundg k1
     case measure => have := HK1.out; omega
     case rel => exact ⟨(y293), (wrap64 ((wrap64 (x1_1 + 1)) + 1)), (wrap64 (x5_1 + 1)), sZ, sZ, H', ⟨by have := HK1.out; omega⟩, ⟨Kd.rZ HO_0.out⟩, ⟨by repeat (first | (with_reducible first | exact HK.out | apply Kept.alloc | apply Kept.drewN | apply Kept.drew) | exact HK.out)⟩, ⟨bZ⟩⟩
    ·rw [if_neg c4] at H
     exact absurd H (by simp)
   ·rw [if_neg c3] at H
    have c3b0 : decide (x5_1 < (x0_1.length : Int)) = false := decide_eq_false c3
    clear c3
    simp only [Option.some.injEq, Prod.mk.injEq] at H
    obtain ⟨rfl, rfl⟩ := H
    obtain ⟨Ao12, co12, eo12⟩ := Kd.R_slice HO_0.out
    subst eo12
    go_wp2
    go_ret
    exact ⟨eZ, Kd.rZ HO_0.out, bZ, by repeat (first | (with_reducible first | exact HK.out | apply Kept.alloc | apply Kept.drewN | apply Kept.drew) | exact HK.out)⟩
end Go.Proofs.Ytahadhldokhifaa.XP
end

section
namespace Go.Proofs.Ytahadhldokhifaa.XP
open Go.RowKit Go.Proofs.YtahadhldokhifaaW.PrintWords Go.Proofs.YtahadhldokhifaaW.PrintLast Go.Proofs.YtahadhldokhifaaW.PrintMore
attribute [local go_sem] run_eql_slice_nil binOp_string_gtr' binOp_string_leq' binOp_string_geq' max2_int min2_int max_two min_two max_three min_three max_four min_four   -- for this text's walks alone
set_option linter.unusedVariables false
set_option linter.unusedSimpArgs false
def laws_heldStepS.l0 : Nat → List (S43) → Int → Int → Option (Int)
 | 0, _, _, _ => none
 | k + 1, x0, x1, x5 => if x5 < (x0.length : Int) then (if 0 ≤ x5 then (if ((rd_T43 x0 x5).f0) = x1 then (if ((rd_T43 x0 x5).f1) = (wrap64 (x1 + 1)) then (laws_heldStepS.l0 k x0 (wrap64 ((wrap64 (x1 + 1)) + 1)) (wrap64 (x5 + 1))) else (some (-1))) else (some (-1))) else (none)) else (some x1)
def laws_heldStepS.f (k : Nat) (l0 : List (S43)) (a1 : Int) : Option (Int) := laws_heldStepS.l0 k l0 a1 0
set_option maxHeartbeats 8000000 in
set_option maxRecDepth 100000 in
theorem laws_heldStepS.calls (k : Nat) (A0 : Option Addr) (c0 : Nat) (l0 : List (S43)) (a1 : Int) (r : Int) (w : World) (hr0 : Kd.C k43 w A0 l0.length l0) (hc0 : l0.length ≤ c0) (h : laws_heldStepS.f k l0 a1 = some r) :
  Calls Try.prog 12 #[.slice A0 l0.length c0, .int .i64 a1] w fun e w' => e = .returned (.int .i64 r) ∧ Drawn0 w w' := by
 have HR0 := Aside0.mk hr0
 have HC0 := Aside0.mk hc0
 clear hr0 hc0
 have H : (laws_heldStepS.l0 k l0 a1 0) = some r := h
 clear h
 have H' := Aside0.mk H
 clear H
 go_enter Try.func12, Try.ntmps12
 go_wp2
 go_loopg [1, 5] k (fun kq v1 v5 w' => ∃ (x1_1 : Int) (x5_1 : Int), v1 = .int .i64 x1_1 ∧ v5 = .int .i64 x5_1 ∧ Aside0 (laws_heldStepS.l0 kq l0 x1_1 x5_1 = some r) ∧ Aside0 (kq ≤ k) ∧ Drawn0 w w')
 case atStart => exact ⟨(a1), (0), sZ, sZ, H', ⟨Nat.le_refl _⟩, dZ⟩
 case round =>
  clear H'; (try clear c1); (try clear p2)
  obtain ⟨x1_1, x5_1, rfl, rfl, HA, HK1, ⟨m1, rfl⟩⟩ := hrel
  cases gk with
  | zero => exact absurd HA.out (by simp [laws_heldStepS.l0])
  | succ k1 =>
   have H := HA.out
   clear HA
   simp only [laws_heldStepS.l0] at H
   by_cases c3 : x5_1 < (l0.length : Int)
   ·rw [if_pos c3] at H
    have c3b0 : decide (x5_1 < (l0.length : Int)) = true := decide_eq_true c3
    clear c3
    by_cases c4 : 0 ≤ x5_1
    ·rw [if_pos c4] at H
     have c4b0 : decide (0 ≤ x5_1) = true := decide_eq_true c4
     clear c4
     by_cases c5 : ((rd_T43 l0 x5_1).f0) = x1_1
     ·rw [if_pos c5] at H
      have c5b0 : (((rd_T43 l0 x5_1).f0) == x1_1) = true := beq_iff_eq.mpr c5
      have c5b1 : (((rd_T43 l0 x5_1).f0) != x1_1) = false := bne_eq_false_iff_eq.mpr c5
      clear c5
      by_cases c6 : ((rd_T43 l0 x5_1).f1) = (wrap64 (x1_1 + 1))
      ·rw [if_pos c6] at H
       have c6b0 : (((rd_T43 l0 x5_1).f1) == (wrap64 (x1_1 + 1))) = true := beq_iff_eq.mpr c6
       have c6b1 : (((rd_T43 l0 x5_1).f1) != (wrap64 (x1_1 + 1))) = false := bne_eq_false_iff_eq.mpr c6
       clear c6
       have H' := Aside0.mk H
       clear H
       have p294 : 0 ≤ (x5_1 : Int) := oZ
       have q294 : x5_1 < (l0.length : Int) := oZ
       obtain ⟨ad294, e294, hx294_0, hx294_1⟩ := at_T43 HR0.out x5_1 p294 q294
       cases e294
       replace p294 := eq_true p294
       replace q294 := eq_true q294
       have p295 : 0 ≤ (x5_1 : Int) := oZ
       have q295 : x5_1 < (l0.length : Int) := oZ
       obtain ⟨ad295, e295, hx295_0, hx295_1⟩ := at_T43 HR0.out x5_1 p295 q295
       obtain rfl : ad294 = ad295 := (by injection e295)
       replace p295 := eq_true p295
       replace q295 := eq_true q295
       go_wp2
       go_roundg k1
       case measure => have := HK1.out; omega
       case rel => exact ⟨(wrap64 ((wrap64 (x1_1 + 1)) + 1)), (wrap64 (x5_1 + 1)), sZ, sZ, H', ⟨by have := HK1.out; omega⟩, dZ⟩
      ·rw [if_neg c6] at H
       have c6b0 : (((rd_T43 l0 x5_1).f1) == (wrap64 (x1_1 + 1))) = false := beq_eq_false_iff_ne.mpr c6
       have c6b1 : (((rd_T43 l0 x5_1).f1) != (wrap64 (x1_1 + 1))) = true := bne_iff_ne.mpr c6
       obtain rfl := Option.some.inj H
       have p294 : 0 ≤ (x5_1 : Int) := oZ
       have q294 : x5_1 < (l0.length : Int) := oZ
       obtain ⟨ad294, e294, hx294_0, hx294_1⟩ := at_T43 HR0.out x5_1 p294 q294
       cases e294
       replace p294 := eq_true p294
       replace q294 := eq_true q294
       have p295 : 0 ≤ (x5_1 : Int) := oZ
       have q295 : x5_1 < (l0.length : Int) := oZ
       obtain ⟨ad295, e295, hx295_0, hx295_1⟩ := at_T43 HR0.out x5_1 p295 q295
       obtain rfl : ad294 = ad295 := (by injection e295)
       replace p295 := eq_true p295
       replace q295 := eq_true q295
       go_wp2
       go_ret
       exact ⟨sZ, dZ⟩
     ·rw [if_neg c5] at H
      have c5b0 : (((rd_T43 l0 x5_1).f0) == x1_1) = false := beq_eq_false_iff_ne.mpr c5
      have c5b1 : (((rd_T43 l0 x5_1).f0) != x1_1) = true := bne_iff_ne.mpr c5
      obtain rfl := Option.some.inj H
      have p294 : 0 ≤ (x5_1 : Int) := oZ
      have q294 : x5_1 < (l0.length : Int) := oZ
      obtain ⟨ad294, e294, hx294_0, hx294_1⟩ := at_T43 HR0.out x5_1 p294 q294
      cases e294
      replace p294 := eq_true p294
      replace q294 := eq_true q294
      go_wp2
      go_ret
      exact ⟨sZ, dZ⟩
    ·rw [if_neg c4] at H
     exact absurd H (by simp)
   ·rw [if_neg c3] at H
    have c3b0 : decide (x5_1 < (l0.length : Int)) = false := decide_eq_false c3
    clear c3
    obtain rfl := Option.some.inj H
    go_wp2
    go_ret
    exact ⟨sZ, dZ⟩
end Go.Proofs.Ytahadhldokhifaa.XP
end
