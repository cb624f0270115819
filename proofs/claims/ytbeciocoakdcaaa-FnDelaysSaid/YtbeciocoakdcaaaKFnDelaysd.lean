/- The law FnDelays: part 3 of its texts, joined (wip/pack.py). -/
import Derived.Test.YtbeciocoakdcaaaKFnDelaysa
import Derived.Test.YtbeciocoakdcaaaKFnDelaysb
import Derived.Test.YtbeciocoakdcaaaKFnDelaysc
import Derived.Deep.Slices
import Derived.SizedLaws
import Derived.ChangeArms
import Derived.WideShapes
import Derived.Lib.Strings
import Derived.Laws.BitsLemmas

section
namespace Go.Proofs.Ytbeciocoakdcaaa.XD
open Go.RowKit Go.Proofs.YtbeciocoakdcaaaW.PrintWords Go.Proofs.YtbeciocoakdcaaaW.PrintLast Go.Proofs.YtbeciocoakdcaaaW.PrintMore
attribute [local go_sem] run_eql_slice_nil binOp_string_gtr' binOp_string_leq' binOp_string_geq' max2_int min2_int max_two min_two max_three min_three max_four min_four   -- for this text's walks alone
set_option linter.unusedVariables false
set_option linter.unusedSimpArgs false
def impl_EndTemperature.f (k : Nat) (a0_0 : ByteArray) (a0_1 : Int) (a0_2 : Int) (a0_3 : Int) (a0_4 : Int) (a0_5 : Int) (a1 : Int) (a2 : Int) (a3 : Int) : Option (Int × Int) := (impl_Pipe_code.f k a0_0 a0_1 a0_2 a0_3 a0_4 a0_5 a1 (([a2, a3] : List Int))).bind fun t183 => (if t183 = 0 then ((impl_Pipe_endTemperature.f a0_0 a0_1 a0_2 a0_3 a0_4 a0_5 a1 a2 a3).bind fun t184 => (some (t184, 0))) else (some (0, t183)))
set_option maxHeartbeats 8000000 in
set_option maxRecDepth 100000 in
theorem impl_EndTemperature.calls (k : Nat) (a0_0 : ByteArray) (a0_1 : Int) (a0_2 : Int) (a0_3 : Int) (a0_4 : Int) (a0_5 : Int) (a1 : Int) (a2 : Int) (a3 : Int) (r1 : Int) (r2 : Int) (w : World) (h : impl_EndTemperature.f k a0_0 a0_1 a0_2 a0_3 a0_4 a0_5 a1 a2 a3 = some (r1, r2)) :
    Calls Try.prog 11 #[.agg #[.string a0_0, .int .i64 a0_1, .int .i64 a0_2, .int .i64 a0_3, .int .i64 a0_4, .int .i64 a0_5], .int .i64 a1, .int .i64 a2, .int .i64 a3] w fun e w' => e = .returned (.tuple #[.int .i64 r1, .int .i64 r2]) ∧ Below w.heap.size w w' := by
  have hu25 := Try.underlying25
  have HB := Aside0.mk (Below.refl w.heap.size w)
  have H : ((impl_Pipe_code.f k a0_0 a0_1 a0_2 a0_3 a0_4 a0_5 a1 (([a2, a3] : List Int))).bind fun t183 => (if t183 = 0 then ((impl_Pipe_endTemperature.f a0_0 a0_1 a0_2 a0_3 a0_4 a0_5 a1 a2 a3).bind fun t184 => (some (t184, 0))) else (some (0, t183)))) = some (r1, r2) := h
  clear h
  obtain ⟨y180, hy180⟩ : ∃ y_ : List Int, y_ = (([a2, a3] : List Int)) := ⟨_, rfl⟩
  replace H : ((impl_Pipe_code.f k a0_0 a0_1 a0_2 a0_3 a0_4 a0_5 a1 y180).bind fun t183 => (if t183 = 0 then ((impl_Pipe_endTemperature.f a0_0 a0_1 a0_2 a0_3 a0_4 a0_5 a1 a2 a3).bind fun t184 => (some (t184, 0))) else (some (0, t183)))) = some (r1, r2) := by first | (rw [hy180]; with_reducible exact H) | (have H2_ := (Option.bind_some _ _).symm.trans H; rw [hy180]; with_reducible exact H2_) | (have H2_ := (Option.bind_some _ _).symm.trans H; with_reducible exact H2_) | with_reducible exact H | (rw [hy180]; exact H) | exact H
  have Ny180 := Aside0.mk hy180
  clear hy180
  replace H := Option.bind_eq_some_iff.mp H
  obtain ⟨t183, A50, H⟩ := H
  replace H : (if t183 = 0 then ((impl_Pipe_endTemperature.f a0_0 a0_1 a0_2 a0_3 a0_4 a0_5 a1 a2 a3).bind fun t184 => (some (t184, 0))) else (some (0, t183))) = some (r1, r2) := H
  have A5 := Aside0.mk A50
  clear A50
  by_cases c6 : t183 = 0
  · rw [if_pos c6] at H
    have c6b0 : (t183 == 0) = true := beq_iff_eq.mpr c6
    have c6b1 : (t183 != 0) = false := bne_eq_false_iff_eq.mpr c6
    clear c6
    replace H := Option.bind_eq_some_iff.mp H
    obtain ⟨t184, A70, H⟩ := H
    replace H : (some (t184, 0)) = some (r1, r2) := H
    have A7 := Aside0.mk A70
    clear A70
    simp only [Option.some.injEq, Prod.mk.injEq] at H
    obtain ⟨rfl, rfl⟩ := H
    go_enter Try.func11, Try.ntmps11
    go_wp2_with (first | ((with_reducible refine gate_dst (N := 4) rfl ?_); refine box_event ?hg (N := 4) ?hd (cs := #[.string a0_0, .int .i64 a0_1, .int .i64 a0_2, .int .i64 a0_3, .int .i64 a0_4, .int .i64 a0_5]) (t := 25) ?hr ?_; (case hd => rfl); (case hg => rfl); (case hr => first | (go_simp; done) | (go_simp; rfl)); intro gb179 hg w8 hbox hb; have n0_ := Aside0.mk (below_step (by repeat (first | (with_reducible first | exact HB.out | apply below_alloc | apply pw_below_drewN | apply below_drew1) | exact HB.out)) hb); have n1_ := Aside0.mk (hbox); have n2_ := Aside0.mk ((by rw [hg]; exact (below_size (by repeat (first | (with_reducible first | exact HB.out | apply below_alloc | apply pw_below_drewN | apply below_drew1) | exact HB.out))) : w.heap.size ≤ gb179)); have n3_ := Aside0.mk ((by rw [hg]; exact (below_size (by repeat (first | (with_reducible first | exact HB.out | apply below_alloc | apply pw_below_drewN | apply below_drew1) | exact HB.out))) : w.heap.size ≤ gb179)); clear HB; have HB := n0_; have BK179 := n1_; have GW179 := n2_; have GE179 := n3_; clear n0_ n1_ n2_ n3_; clear hb hbox hg; have hcz9_0 : w8.cell? ⟨gb179, 0, none⟩ = some (.string a0_0) := (blk_cell BK179.out 0).trans rfl; have hcz9_1 : w8.cell? ⟨gb179, 1, none⟩ = some (.int .i64 a0_1) := (blk_cell BK179.out 1).trans rfl; have hcz9_2 : w8.cell? ⟨gb179, 2, none⟩ = some (.int .i64 a0_2) := (blk_cell BK179.out 2).trans rfl; have hcz9_3 : w8.cell? ⟨gb179, 3, none⟩ = some (.int .i64 a0_3) := (blk_cell BK179.out 3).trans rfl; have hcz9_4 : w8.cell? ⟨gb179, 4, none⟩ = some (.int .i64 a0_4) := (blk_cell BK179.out 4).trans rfl; have hcz9_5 : w8.cell? ⟨gb179, 5, none⟩ = some (.int .i64 a0_5) := (blk_cell BK179.out 5).trans rfl; have hfz9_0 := blk_frozen BK179.out 0; have hfz9_1 := blk_frozen BK179.out 1; have hfz9_2 := blk_frozen BK179.out 2; have hfz9_3 := blk_frozen BK179.out 3; have hfz9_4 := blk_frozen BK179.out 4; have hfz9_5 := blk_frozen BK179.out 5) | ((with_reducible refine gate_dst (N := 15) rfl ?_); refine Kd.R_lit (Kd.int .i64) _ 2 ?hg (N := 15) ?hd (xs := ([a2, a3] : List Int)) (inner := [.int .i64 a2, .int .i64 a3]) (ok := fun _ => True) (okp := fun _ => True) ?hr ?hp (fun _ hk => hk) trivial (Below.refl _ _) (Nat.le_refl _) (by simp) ?_; (case hd => rfl); (case hg => rfl); (case hr => first | (go_simp; done) | (go_simp; rfl)); (case hp => exact (Reps.one (show Kd.M (Kd.int .i64) _ _ _ a2 [.int .i64 a2] from rfl) (Reps.one (show Kd.M (Kd.int .i64) _ _ _ a3 [.int .i64 a3] from rfl) (Reps.none _ _)))); intro v181 w10 ho11 hb hg_ hnew_; clear hg_ hnew_; (first | rw [← Ny180.out] at ho11 | (simp only [Int.reduceToNat] at ho11; rw [← Ny180.out] at ho11)); have n0_ := Aside0.mk (Kd.R_lower ho11 (below_size (by repeat (first | (with_reducible first | exact HB.out | apply below_alloc | apply pw_below_drewN | apply below_drew1 | refine below_set ?_ GE179.out) | exact HB.out)))); have n1_ := Aside0.mk (blk_below (g := gb179) (o := .cells #[.string a0_0, .int .i64 a0_1, .int .i64 a0_2, .int .i64 a0_3, .int .i64 a0_4, .int .i64 a0_5] 25 (0, 0)) (by (with_reducible repeat (first | refine blk_drewN ?_ _ | refine blk_drew ?_ | refine blk_alloc ?_ _)); exact BK179.out) hb); have n2_ := Aside0.mk (below_step (by repeat (first | (with_reducible first | exact HB.out | apply below_alloc | apply pw_below_drewN | apply below_drew1 | refine below_set ?_ GE179.out) | exact HB.out)) hb); clear BK179; clear HB; have HO182 := n0_; have BK179 := n1_; have HB := n2_; clear n0_ n1_ n2_; clear hb ho11; obtain ⟨Ao12, co12, eo12⟩ := Kd.R_slice HO182.out; subst eo12) | ((with_reducible refine gate_callee (f := 18) rfl ?_); refine goesL_ (some 16) rfl rfl Try.func18 (by kernel_rfl) rfl #[.agg #[.string a0_0, .int .i64 a0_1, .int .i64 a0_2, .int .i64 a0_3, .int .i64 a0_4, .int .i64 a0_5], .int .i64 a1, .slice Ao12 y180.length co12] rfl (by (try simp only [List.map_toArray, List.map_cons, List.map_nil]); first | done | rfl | (simp only [List.length_drop, List.length_take]; rfl)) ?_; (with_reducible refine (impl_Pipe_code.calls k a0_0 a0_1 a0_2 a0_3 a0_4 a0_5 a1 _ _ y180 t183 _ ?side1 ?side2 A5.out).mono ?_); (case side1 => repeat (first | exact (Kd.R_reads' HO182.out).2.2 | (with_reducible refine Kd.C_alloc ?_ _) | (with_reducible refine Kd.C_drewN ?_ _) | (with_reducible refine Kd.C_drew ?_))); (case side2 => exact (Kd.R_reads' HO182.out).2.1); rintro e w13 ⟨rfl, hb⟩; refine ⟨_, rfl, ?_⟩; have n0_ := Aside0.mk (Kd.R_below (by (with_reducible repeat (first | apply Kd.R_alloc | apply Kd.R_drewN | apply Kd.R_drew)); exact HO182.out) hb); have n1_ := Aside0.mk (blk_below (g := gb179) (o := .cells #[.string a0_0, .int .i64 a0_1, .int .i64 a0_2, .int .i64 a0_3, .int .i64 a0_4, .int .i64 a0_5] 25 (0, 0)) (by (with_reducible repeat (first | refine blk_drewN ?_ _ | refine blk_drew ?_ | refine blk_alloc ?_ _)); exact BK179.out) hb); have n2_ := Aside0.mk (below_step (by repeat (first | (with_reducible first | exact HB.out | apply below_alloc | apply pw_below_drewN | apply below_drew1 | refine below_set ?_ GE179.out) | exact HB.out)) hb); clear HO182; clear BK179; clear HB; have HO182 := n0_; have BK179 := n1_; have HB := n2_; clear n0_ n1_ n2_; (try clear hb); (try clear hb2); (try clear hk); (try clear hi); have hcz14_0 : w13.cell? ⟨gb179, 0, none⟩ = some (.string a0_0) := (blk_cell BK179.out 0).trans rfl; have hcz14_1 : w13.cell? ⟨gb179, 1, none⟩ = some (.int .i64 a0_1) := (blk_cell BK179.out 1).trans rfl; have hcz14_2 : w13.cell? ⟨gb179, 2, none⟩ = some (.int .i64 a0_2) := (blk_cell BK179.out 2).trans rfl; have hcz14_3 : w13.cell? ⟨gb179, 3, none⟩ = some (.int .i64 a0_3) := (blk_cell BK179.out 3).trans rfl; have hcz14_4 : w13.cell? ⟨gb179, 4, none⟩ = some (.int .i64 a0_4) := (blk_cell BK179.out 4).trans rfl; have hcz14_5 : w13.cell? ⟨gb179, 5, none⟩ = some (.int .i64 a0_5) := (blk_cell BK179.out 5).trans rfl; have hfz14_0 := blk_frozen BK179.out 0; have hfz14_1 := blk_frozen BK179.out 1; have hfz14_2 := blk_frozen BK179.out 2; have hfz14_3 := blk_frozen BK179.out 3; have hfz14_4 := blk_frozen BK179.out 4; have hfz14_5 := blk_frozen BK179.out 5) | ((with_reducible refine gate_callee (f := 22) rfl ?_); refine goesL_ (some 24) rfl rfl Try.func22 (by kernel_rfl) rfl #[.agg #[.string a0_0, .int .i64 a0_1, .int .i64 a0_2, .int .i64 a0_3, .int .i64 a0_4, .int .i64 a0_5], .int .i64 a1, .int .i64 a2, .int .i64 a3] rfl (by (try simp only [List.map_toArray, List.map_cons, List.map_nil]); first | done | rfl | (simp only [List.length_drop, List.length_take]; rfl)) ?_; (with_reducible refine (impl_Pipe_endTemperature.calls a0_0 a0_1 a0_2 a0_3 a0_4 a0_5 a1 a2 a3 t184 _ A7.out).mono ?_); rintro e w15 ⟨rfl, hb⟩; refine ⟨_, rfl, ?_⟩; have n0_ := Aside0.mk (Kd.R_below (by (with_reducible repeat (first | apply Kd.R_alloc | apply Kd.R_drewN | apply Kd.R_drew)); exact HO182.out) hb); have n1_ := Aside0.mk (blk_below (g := gb179) (o := .cells #[.string a0_0, .int .i64 a0_1, .int .i64 a0_2, .int .i64 a0_3, .int .i64 a0_4, .int .i64 a0_5] 25 (0, 0)) (by (with_reducible repeat (first | refine blk_drewN ?_ _ | refine blk_drew ?_ | refine blk_alloc ?_ _)); exact BK179.out) hb); have n2_ := Aside0.mk (below_step (by repeat (first | (with_reducible first | exact HB.out | apply below_alloc | apply pw_below_drewN | apply below_drew1 | refine below_set ?_ GE179.out) | exact HB.out)) hb); clear HO182; clear BK179; clear HB; have HO182 := n0_; have BK179 := n1_; have HB := n2_; clear n0_ n1_ n2_; (try clear hb); (try clear hb2); (try clear hk); (try clear hi)))
    go_ret2
    exact ⟨by first | rfl | (simp [errW_none, errW_some] <;> rfl) | (simp [*, errW_none, errW_some] <;> rfl), by repeat (first | (with_reducible first | exact HB.out | apply below_alloc | apply pw_below_drewN | apply below_drew1 | refine below_set ?_ GE179.out) | exact HB.out)⟩
  · rw [if_neg c6] at H
    have c6b0 : (t183 == 0) = false := beq_eq_false_iff_ne.mpr c6
    have c6b1 : (t183 != 0) = true := bne_iff_ne.mpr c6
    simp only [Option.some.injEq, Prod.mk.injEq] at H
    obtain ⟨rfl, rfl⟩ := H
    go_enter Try.func11, Try.ntmps11
    go_wp2_with (first | ((with_reducible refine gate_dst (N := 4) rfl ?_); refine box_event ?hg (N := 4) ?hd (cs := #[.string a0_0, .int .i64 a0_1, .int .i64 a0_2, .int .i64 a0_3, .int .i64 a0_4, .int .i64 a0_5]) (t := 25) ?hr ?_; (case hd => rfl); (case hg => rfl); (case hr => first | (go_simp; done) | (go_simp; rfl)); intro gb179 hg w16 hbox hb; have n0_ := Aside0.mk (below_step (by repeat (first | (with_reducible first | exact HB.out | apply below_alloc | apply pw_below_drewN | apply below_drew1) | exact HB.out)) hb); have n1_ := Aside0.mk (hbox); have n2_ := Aside0.mk ((by rw [hg]; exact (below_size (by repeat (first | (with_reducible first | exact HB.out | apply below_alloc | apply pw_below_drewN | apply below_drew1) | exact HB.out))) : w.heap.size ≤ gb179)); have n3_ := Aside0.mk ((by rw [hg]; exact (below_size (by repeat (first | (with_reducible first | exact HB.out | apply below_alloc | apply pw_below_drewN | apply below_drew1) | exact HB.out))) : w.heap.size ≤ gb179)); clear HB; have HB := n0_; have BK179 := n1_; have GW179 := n2_; have GE179 := n3_; clear n0_ n1_ n2_ n3_; clear hb hbox hg; have hcz17_0 : w16.cell? ⟨gb179, 0, none⟩ = some (.string a0_0) := (blk_cell BK179.out 0).trans rfl; have hcz17_1 : w16.cell? ⟨gb179, 1, none⟩ = some (.int .i64 a0_1) := (blk_cell BK179.out 1).trans rfl; have hcz17_2 : w16.cell? ⟨gb179, 2, none⟩ = some (.int .i64 a0_2) := (blk_cell BK179.out 2).trans rfl; have hcz17_3 : w16.cell? ⟨gb179, 3, none⟩ = some (.int .i64 a0_3) := (blk_cell BK179.out 3).trans rfl; have hcz17_4 : w16.cell? ⟨gb179, 4, none⟩ = some (.int .i64 a0_4) := (blk_cell BK179.out 4).trans rfl; have hcz17_5 : w16.cell? ⟨gb179, 5, none⟩ = some (.int .i64 a0_5) := (blk_cell BK179.out 5).trans rfl; have hfz17_0 := blk_frozen BK179.out 0; have hfz17_1 := blk_frozen BK179.out 1; have hfz17_2 := blk_frozen BK179.out 2; have hfz17_3 := blk_frozen BK179.out 3; have hfz17_4 := blk_frozen BK179.out 4; have hfz17_5 := blk_frozen BK179.out 5) | ((with_reducible refine gate_dst (N := 15) rfl ?_); refine Kd.R_lit (Kd.int .i64) _ 2 ?hg (N := 15) ?hd (xs := ([a2, a3] : List Int)) (inner := [.int .i64 a2, .int .i64 a3]) (ok := fun _ => True) (okp := fun _ => True) ?hr ?hp (fun _ hk => hk) trivial (Below.refl _ _) (Nat.le_refl _) (by simp) ?_; (case hd => rfl); (case hg => rfl); (case hr => first | (go_simp; done) | (go_simp; rfl)); (case hp => exact (Reps.one (show Kd.M (Kd.int .i64) _ _ _ a2 [.int .i64 a2] from rfl) (Reps.one (show Kd.M (Kd.int .i64) _ _ _ a3 [.int .i64 a3] from rfl) (Reps.none _ _)))); intro v181 w18 ho19 hb hg_ hnew_; clear hg_ hnew_; (first | rw [← Ny180.out] at ho19 | (simp only [Int.reduceToNat] at ho19; rw [← Ny180.out] at ho19)); have n0_ := Aside0.mk (Kd.R_lower ho19 (below_size (by repeat (first | (with_reducible first | exact HB.out | apply below_alloc | apply pw_below_drewN | apply below_drew1 | refine below_set ?_ GE179.out) | exact HB.out)))); have n1_ := Aside0.mk (blk_below (g := gb179) (o := .cells #[.string a0_0, .int .i64 a0_1, .int .i64 a0_2, .int .i64 a0_3, .int .i64 a0_4, .int .i64 a0_5] 25 (0, 0)) (by (with_reducible repeat (first | refine blk_drewN ?_ _ | refine blk_drew ?_ | refine blk_alloc ?_ _)); exact BK179.out) hb); have n2_ := Aside0.mk (below_step (by repeat (first | (with_reducible first | exact HB.out | apply below_alloc | apply pw_below_drewN | apply below_drew1 | refine below_set ?_ GE179.out) | exact HB.out)) hb); clear BK179; clear HB; have HO182 := n0_; have BK179 := n1_; have HB := n2_; clear n0_ n1_ n2_; clear hb ho19; obtain ⟨Ao20, co20, eo20⟩ := Kd.R_slice HO182.out; subst eo20) | ((with_reducible refine gate_callee (f := 18) rfl ?_); refine goesL_ (some 16) rfl rfl Try.func18 (by kernel_rfl) rfl #[.agg #[.string a0_0, .int .i64 a0_1, .int .i64 a0_2, .int .i64 a0_3, .int .i64 a0_4, .int .i64 a0_5], .int .i64 a1, .slice Ao20 y180.length co20] rfl (by (try simp only [List.map_toArray, List.map_cons, List.map_nil]); first | done | rfl | (simp only [List.length_drop, List.length_take]; rfl)) ?_; (with_reducible refine (impl_Pipe_code.calls k a0_0 a0_1 a0_2 a0_3 a0_4 a0_5 a1 _ _ y180 t183 _ ?side1 ?side2 A5.out).mono ?_); (case side1 => repeat (first | exact (Kd.R_reads' HO182.out).2.2 | (with_reducible refine Kd.C_alloc ?_ _) | (with_reducible refine Kd.C_drewN ?_ _) | (with_reducible refine Kd.C_drew ?_))); (case side2 => exact (Kd.R_reads' HO182.out).2.1); rintro e w21 ⟨rfl, hb⟩; refine ⟨_, rfl, ?_⟩; have n0_ := Aside0.mk (Kd.R_below (by (with_reducible repeat (first | apply Kd.R_alloc | apply Kd.R_drewN | apply Kd.R_drew)); exact HO182.out) hb); have n1_ := Aside0.mk (blk_below (g := gb179) (o := .cells #[.string a0_0, .int .i64 a0_1, .int .i64 a0_2, .int .i64 a0_3, .int .i64 a0_4, .int .i64 a0_5] 25 (0, 0)) (by (with_reducible repeat (first | refine blk_drewN ?_ _ | refine blk_drew ?_ | refine blk_alloc ?_ _)); exact BK179.out) hb); have n2_ := Aside0.mk (below_step (by repeat (first | (with_reducible first | exact HB.out | apply below_alloc | apply pw_below_drewN | apply below_drew1 | refine below_set ?_ GE179.out) | exact HB.out)) hb); clear HO182; clear BK179; clear HB; have HO182 := n0_; have BK179 := n1_; have HB := n2_; clear n0_ n1_ n2_; (try clear hb); (try clear hb2); (try clear hk); (try clear hi)))
    go_ret2
    exact ⟨by first | rfl | (simp [errW_none, errW_some] <;> rfl) | (simp [*, errW_none, errW_some] <;> rfl), by repeat (first | (with_reducible first | exact HB.out | apply below_alloc | apply pw_below_drewN | apply below_drew1 | refine below_set ?_ GE179.out) | exact HB.out)⟩
def impl_degreesOk.f (a0 : Int) : Option (Bool) := (impl_within.f a0 (-5000) 20000).bind fun t185 => (some t185)
set_option maxHeartbeats 8000000 in
set_option maxRecDepth 100000 in
theorem impl_degreesOk.calls (a0 : Int) (r : Bool) (w : World) (h : impl_degreesOk.f a0 = some r) :
    Calls Try.prog 24 #[.int .i64 a0] w fun e w' => e = .returned (.bool r) ∧ Drawn0 w w' := by
  have H : ((impl_within.f a0 (-5000) 20000).bind fun t185 => (some t185)) = some r := h
  clear h
  replace H := Option.bind_eq_some_iff.mp H
  obtain ⟨t185, A20, H⟩ := H
  replace H : (some t185) = some r := H
  have A2 := Aside0.mk A20
  clear A20
  obtain rfl := Option.some.inj H
  go_enter Try.func24, Try.ntmps24
  go_wp2_with (first | ((with_reducible refine gate_callee (f := 28) rfl ?_); refine goesL_ (some 4) rfl rfl Try.func28 (by kernel_rfl) rfl #[.int .i64 a0, .int .i64 (-5000), .int .i64 20000] rfl (by (try simp only [List.map_toArray, List.map_cons, List.map_nil]); first | done | rfl | (simp only [List.length_drop, List.length_take]; rfl)) ?_; (with_reducible refine (impl_within.calls a0 (-5000) 20000 t185 _ A2.out).mono ?_); rintro e w' ⟨rfl, ⟨nd, rfl⟩⟩; refine ⟨_, rfl, ?_⟩))
  go_ret
  exact ⟨by first | rfl | (simp; done) | (simp [*]; done), by repeat (first | exact Drawn0.refl _ | apply Drawn0.step)⟩
def impl_HeatFlow.f (a0 : Int) (a1 : Int) (a2 : Int) : Option (Int × Int) := (impl_flowOk.f a0).bind fun t186 => (if t186 = true then ((impl_degreesOk.f a1).bind fun t187 => (if t187 = true then ((impl_degreesOk.f a2).bind fun t188 => (if t188 = true then ((impl_divRound.f (wrap64 ((wrap64 (4186 * a0)) * (wrap64 (a1 - a2)))) 100000).bind fun t189 => (some (t189, 0))) else (some (0, 2)))) else (some (0, 2)))) else (some (0, 2)))
set_option maxHeartbeats 8000000 in
set_option maxRecDepth 100000 in
theorem impl_HeatFlow.calls (a0 : Int) (a1 : Int) (a2 : Int) (r1 : Int) (r2 : Int) (w : World) (h : impl_HeatFlow.f a0 a1 a2 = some (r1, r2)) :
    Calls Try.prog 12 #[.int .i64 a0, .int .i64 a1, .int .i64 a2] w fun e w' => e = .returned (.tuple #[.int .i64 r1, .int .i64 r2]) ∧ Below w.heap.size w w' := by
  have HB := Aside0.mk (Below.refl w.heap.size w)
  have H : ((impl_flowOk.f a0).bind fun t186 => (if t186 = true then ((impl_degreesOk.f a1).bind fun t187 => (if t187 = true then ((impl_degreesOk.f a2).bind fun t188 => (if t188 = true then ((impl_divRound.f (wrap64 ((wrap64 (4186 * a0)) * (wrap64 (a1 - a2)))) 100000).bind fun t189 => (some (t189, 0))) else (some (0, 2)))) else (some (0, 2)))) else (some (0, 2)))) = some (r1, r2) := h
  clear h
  replace H := Option.bind_eq_some_iff.mp H
  obtain ⟨t186, A40, H⟩ := H
  replace H : (if t186 = true then ((impl_degreesOk.f a1).bind fun t187 => (if t187 = true then ((impl_degreesOk.f a2).bind fun t188 => (if t188 = true then ((impl_divRound.f (wrap64 ((wrap64 (4186 * a0)) * (wrap64 (a1 - a2)))) 100000).bind fun t189 => (some (t189, 0))) else (some (0, 2)))) else (some (0, 2)))) else (some (0, 2))) = some (r1, r2) := H
  have A4 := Aside0.mk A40
  clear A40
  by_cases c5 : t186 = true
  · subst c5
    have H1 : ((impl_degreesOk.f a1).bind fun t187 => (if t187 = true then ((impl_degreesOk.f a2).bind fun t188 => (if t188 = true then ((impl_divRound.f (wrap64 ((wrap64 (4186 * a0)) * (wrap64 (a1 - a2)))) 100000).bind fun t189 => (some (t189, 0))) else (some (0, 2)))) else (some (0, 2)))) = some (r1, r2) := by rw [if_pos rfl] at H; exact H
    clear H
    have H := H1
    clear H1
    replace H := Option.bind_eq_some_iff.mp H
    obtain ⟨t187, A60, H⟩ := H
    replace H : (if t187 = true then ((impl_degreesOk.f a2).bind fun t188 => (if t188 = true then ((impl_divRound.f (wrap64 ((wrap64 (4186 * a0)) * (wrap64 (a1 - a2)))) 100000).bind fun t189 => (some (t189, 0))) else (some (0, 2)))) else (some (0, 2))) = some (r1, r2) := H
    have A6 := Aside0.mk A60
    clear A60
    by_cases c7 : t187 = true
    · subst c7
      have H1 : ((impl_degreesOk.f a2).bind fun t188 => (if t188 = true then ((impl_divRound.f (wrap64 ((wrap64 (4186 * a0)) * (wrap64 (a1 - a2)))) 100000).bind fun t189 => (some (t189, 0))) else (some (0, 2)))) = some (r1, r2) := by rw [if_pos rfl] at H; exact H
      clear H
      have H := H1
      clear H1
      replace H := Option.bind_eq_some_iff.mp H
      obtain ⟨t188, A80, H⟩ := H
      replace H : (if t188 = true then ((impl_divRound.f (wrap64 ((wrap64 (4186 * a0)) * (wrap64 (a1 - a2)))) 100000).bind fun t189 => (some (t189, 0))) else (some (0, 2))) = some (r1, r2) := H
      have A8 := Aside0.mk A80
      clear A80
      by_cases c9 : t188 = true
      · subst c9
        have H1 : ((impl_divRound.f (wrap64 ((wrap64 (4186 * a0)) * (wrap64 (a1 - a2)))) 100000).bind fun t189 => (some (t189, 0))) = some (r1, r2) := by rw [if_pos rfl] at H; exact H
        clear H
        have H := H1
        clear H1
        replace H := Option.bind_eq_some_iff.mp H
        obtain ⟨t189, A100, H⟩ := H
        replace H : (some (t189, 0)) = some (r1, r2) := H
        have A10 := Aside0.mk A100
        clear A100
        simp only [Option.some.injEq, Prod.mk.injEq] at H
        obtain ⟨rfl, rfl⟩ := H
        go_enter Try.func12, Try.ntmps12
        go_wp2_with (first | ((with_reducible refine gate_callee (f := 23) rfl ?_); refine goesL_ (some 9) rfl rfl Try.func23 (by kernel_rfl) rfl #[.int .i64 a0] rfl (by (try simp only [List.map_toArray, List.map_cons, List.map_nil]); first | done | rfl | (simp only [List.length_drop, List.length_take]; rfl)) ?_; (with_reducible refine (impl_flowOk.calls a0 true _ A4.out).mono ?_); rintro e w' ⟨rfl, ⟨nd, rfl⟩⟩; refine ⟨_, rfl, ?_⟩) | (go_at_call 24; (with_reducible refine (impl_degreesOk.calls a1 true _ A6.out).mono ?_); rintro e w' ⟨rfl, ⟨nd, rfl⟩⟩) | (go_at_call 24; (with_reducible refine (impl_degreesOk.calls a2 true _ A8.out).mono ?_); rintro e w' ⟨rfl, ⟨nd, rfl⟩⟩) | ((with_reducible refine gate_callee (f := 20) rfl ?_); refine goesL_ (some 27) rfl rfl Try.func20 (by kernel_rfl) rfl #[.int .i64 (wrap64 ((wrap64 (4186 * a0)) * (wrap64 (a1 - a2)))), .int .i64 100000] rfl (by (try simp only [List.map_toArray, List.map_cons, List.map_nil]); first | done | rfl | (simp only [List.length_drop, List.length_take]; rfl)) ?_; (with_reducible refine (impl_divRound.calls (wrap64 ((wrap64 (4186 * a0)) * (wrap64 (a1 - a2)))) 100000 t189 _ A10.out).mono ?_); rintro e w11 ⟨rfl, hb⟩; refine ⟨_, rfl, ?_⟩; have n0_ := Aside0.mk (below_step (by repeat (first | (with_reducible first | exact HB.out | apply below_alloc | apply pw_below_drewN | apply below_drew1) | exact HB.out)) hb); clear HB; have HB := n0_; clear n0_; (try clear hb); (try clear hb2); (try clear hk); (try clear hi)))
        go_ret2
        exact ⟨by first | rfl | (simp [errW_none, errW_some] <;> rfl) | (simp [*, errW_none, errW_some] <;> rfl), by repeat (first | (with_reducible first | exact HB.out | apply below_alloc | apply pw_below_drewN | apply below_drew1) | exact HB.out)⟩
      · replace c9 := Bool.eq_false_iff.mpr c9
        subst c9
        have H1 : (some (0, 2)) = some (r1, r2) := by rw [if_neg (show ¬ (false = true) by decide)] at H; exact H
        clear H
        have H := H1
        clear H1
        simp only [Option.some.injEq, Prod.mk.injEq] at H
        obtain ⟨rfl, rfl⟩ := H
        go_enter Try.func12, Try.ntmps12
        go_wp2_with (first | ((with_reducible refine gate_callee (f := 23) rfl ?_); refine goesL_ (some 9) rfl rfl Try.func23 (by kernel_rfl) rfl #[.int .i64 a0] rfl (by (try simp only [List.map_toArray, List.map_cons, List.map_nil]); first | done | rfl | (simp only [List.length_drop, List.length_take]; rfl)) ?_; (with_reducible refine (impl_flowOk.calls a0 true _ A4.out).mono ?_); rintro e w' ⟨rfl, ⟨nd, rfl⟩⟩; refine ⟨_, rfl, ?_⟩) | (go_at_call 24; (with_reducible refine (impl_degreesOk.calls a1 true _ A6.out).mono ?_); rintro e w' ⟨rfl, ⟨nd, rfl⟩⟩) | (go_at_call 24; (with_reducible refine (impl_degreesOk.calls a2 false _ A8.out).mono ?_); rintro e w' ⟨rfl, ⟨nd, rfl⟩⟩))
        go_ret2
        exact ⟨by first | rfl | (simp [errW_none, errW_some] <;> rfl) | (simp [*, errW_none, errW_some] <;> rfl), by repeat (first | (with_reducible first | exact HB.out | apply below_alloc | apply pw_below_drewN | apply below_drew1) | exact HB.out)⟩
    · replace c7 := Bool.eq_false_iff.mpr c7
      subst c7
      have H1 : (some (0, 2)) = some (r1, r2) := by rw [if_neg (show ¬ (false = true) by decide)] at H; exact H
      clear H
      have H := H1
      clear H1
      simp only [Option.some.injEq, Prod.mk.injEq] at H
      obtain ⟨rfl, rfl⟩ := H
      go_enter Try.func12, Try.ntmps12
      go_wp2_with (first | ((with_reducible refine gate_callee (f := 23) rfl ?_); refine goesL_ (some 9) rfl rfl Try.func23 (by kernel_rfl) rfl #[.int .i64 a0] rfl (by (try simp only [List.map_toArray, List.map_cons, List.map_nil]); first | done | rfl | (simp only [List.length_drop, List.length_take]; rfl)) ?_; (with_reducible refine (impl_flowOk.calls a0 true _ A4.out).mono ?_); rintro e w' ⟨rfl, ⟨nd, rfl⟩⟩; refine ⟨_, rfl, ?_⟩) | (go_at_call 24; (with_reducible refine (impl_degreesOk.calls a1 false _ A6.out).mono ?_); rintro e w' ⟨rfl, ⟨nd, rfl⟩⟩))
      go_ret2
      exact ⟨by first | rfl | (simp [errW_none, errW_some] <;> rfl) | (simp [*, errW_none, errW_some] <;> rfl), by repeat (first | (with_reducible first | exact HB.out | apply below_alloc | apply pw_below_drewN | apply below_drew1) | exact HB.out)⟩
  · replace c5 := Bool.eq_false_iff.mpr c5
    subst c5
    have H1 : (some (0, 2)) = some (r1, r2) := by rw [if_neg (show ¬ (false = true) by decide)] at H; exact H
    clear H
    have H := H1
    clear H1
    simp only [Option.some.injEq, Prod.mk.injEq] at H
    obtain ⟨rfl, rfl⟩ := H
    go_enter Try.func12, Try.ntmps12
    go_wp2_with (first | ((with_reducible refine gate_callee (f := 23) rfl ?_); refine goesL_ (some 9) rfl rfl Try.func23 (by kernel_rfl) rfl #[.int .i64 a0] rfl (by (try simp only [List.map_toArray, List.map_cons, List.map_nil]); first | done | rfl | (simp only [List.length_drop, List.length_take]; rfl)) ?_; (with_reducible refine (impl_flowOk.calls a0 false _ A4.out).mono ?_); rintro e w' ⟨rfl, ⟨nd, rfl⟩⟩; refine ⟨_, rfl, ?_⟩))
    go_ret2
    exact ⟨by first | rfl | (simp [errW_none, errW_some] <;> rfl) | (simp [*, errW_none, errW_some] <;> rfl), by repeat (first | (with_reducible first | exact HB.out | apply below_alloc | apply pw_below_drewN | apply below_drew1) | exact HB.out)⟩
end Go.Proofs.Ytbeciocoakdcaaa.XD
end

section
namespace Go.Proofs.Ytbeciocoakdcaaa.XD
open Go.RowKit Go.Proofs.YtbeciocoakdcaaaW.PrintWords Go.Proofs.YtbeciocoakdcaaaW.PrintLast Go.Proofs.YtbeciocoakdcaaaW.PrintMore
attribute [local go_sem] run_eql_slice_nil binOp_string_gtr' binOp_string_leq' binOp_string_geq' max2_int min2_int max_two min_two max_three min_three max_four min_four   -- for this text's walks alone
set_option linter.unusedVariables false
set_option linter.unusedSimpArgs false
def laws_FnDelays.f (k : Nat) (l0 : List Int) (l1 : List Int) : Option (Bool) := (laws_r8Long.f l0 l1).bind fun t190 => (if t190 = true then (some true) else ((spec_R8Pipe.f l0).bind fun bt191 => ((laws_r8Wide.f l1 0 20000).bind fun t198 => ((impl_WaterIn.f k bt191.1 bt191.2.1 bt191.2.2.1 bt191.2.2.2.1 bt191.2.2.2.2.1 bt191.2.2.2.2.2).bind fun bt199 => ((impl_DelayOf.f k bt191.1 bt191.2.1 bt191.2.2.1 bt191.2.2.2.1 bt191.2.2.2.2.1 bt191.2.2.2.2.2 (wrap64 (1 + t198))).bind fun bt201 => ((impl_DelayOf.f k bt191.1 bt191.2.1 bt191.2.2.1 bt191.2.2.2.1 bt191.2.2.2.2.1 bt191.2.2.2.2.2 (wrap64 (-(wrap64 (1 + t198))))).bind fun bt203 => ((impl_SpeedOf.f k bt191.1 bt191.2.1 bt191.2.2.1 bt191.2.2.2.1 bt191.2.2.2.2.1 bt191.2.2.2.2.2 (wrap64 (1 + t198))).bind fun bt205 => (if bt199.2 = 0 then (if bt201.2 = 0 then (if bt203.2 = 0 then (if bt201.1 = bt203.1 then (if (wrap64 (bt201.1 * (wrap64 (1 + t198)))) < bt199.1 then (none) else (if (wrap64 ((wrap64 (bt201.1 - 1)) * (wrap64 (1 + t198)))) ≥ bt199.1 then (none) else (if bt205.2 = 0 then (if bt205.1 < 0 then (none) else ((laws_r8Wide.f l1 2 9000).bind fun t207 => ((laws_r8Wide.f l1 4 2000).bind fun t208 => ((impl_LossOf.f k bt191.1 bt191.2.1 bt191.2.2.1 bt191.2.2.2.1 bt191.2.2.2.2.1 bt191.2.2.2.2.2 (wrap64 (3000 + t207)) t208).bind fun bt209 => ((impl_LossOf.f k bt191.1 bt191.2.1 bt191.2.2.1 bt191.2.2.2.1 bt191.2.2.2.2.1 bt191.2.2.2.2.2 t208 (wrap64 (3000 + t207))).bind fun bt211 => ((impl_EndTemperature.f k bt191.1 bt191.2.1 bt191.2.2.1 bt191.2.2.2.1 bt191.2.2.2.2.1 bt191.2.2.2.2.2 (wrap64 (1 + t198)) (wrap64 (3000 + t207)) t208).bind fun bt213 => ((impl_EndTemperature.f k bt191.1 bt191.2.1 bt191.2.2.1 bt191.2.2.2.1 bt191.2.2.2.2.1 bt191.2.2.2.2.2 (wrap64 (1 + t198)) t208 t208).bind fun bt215 => ((impl_EndTemperature.f k bt191.1 bt191.2.1 bt191.2.2.1 bt191.2.2.2.1 bt191.2.2.2.2.1 bt191.2.2.2.2.2 0 (wrap64 (3000 + t207)) t208).bind fun bt217 => ((impl_EndTemperature.f k bt191.1 bt191.2.1 bt191.2.2.1 bt191.2.2.2.1 bt191.2.2.2.2.1 bt191.2.2.2.2.2 (wrap64 (2 * (wrap64 (1 + t198)))) (wrap64 (3000 + t207)) t208).bind fun bt219 => ((impl_HeatFlow.f (wrap64 (1 + t198)) (wrap64 (3000 + t207)) bt213.1).bind fun bt221 => (if bt209.2 = 0 then (if bt211.2 = 0 then (if bt211.1 = (wrap64 (-bt209.1)) then (if bt209.1 < 0 then (none) else (if bt213.2 = 0 then (if bt213.1 > (wrap64 (3000 + t207)) then (none) else (if bt213.1 < t208 then (none) else (if bt215.2 = 0 then (if bt215.1 = t208 then (if bt217.2 = 0 then (if bt217.1 = t208 then (if bt221.2 = 0 then (if bt221.1 < 0 then (none) else (if bt219.2 = 0 then (if bt219.1 ≥ bt213.1 then (some (decide (bt219.1 ≤ (wrap64 (3000 + t207))))) else (none)) else (none))) else (none)) else (none)) else (none)) else (none)) else (none)))) else (none))) else (none)) else (none)) else (none)))))))))))) else (none)))) else (none)) else (none)) else (none)) else (none)))))))))
set_option maxHeartbeats 8000000 in
set_option maxRecDepth 100000 in
theorem laws_FnDelays.calls (k : Nat) (A0 : Option Addr) (c0 : Nat) (l0 : List Int) (A1 : Option Addr) (c1 : Nat) (l1 : List Int) (r : Bool) (w : World) (hr0 : Kd.C (Kd.int .u8) w A0 l0.length l0) (hc0 : l0.length ≤ c0) (hr1 : Kd.C (Kd.int .u8) w A1 l1.length l1) (hc1 : l1.length ≤ c1) (h : laws_FnDelays.f k l0 l1 = some r) :
    Calls Try.prog 3 #[.slice A0 l0.length c0, .slice A1 l1.length c1] w fun e w' => e = .returned (.bool r) ∧ Below w.heap.size w w' := by
  have hu25 := Try.underlying25
  have HR0 := Aside0.mk hr0
  have HC0 := Aside0.mk hc0
  clear hr0 hc0
  have HR1 := Aside0.mk hr1
  have HC1 := Aside0.mk hc1
  clear hr1 hc1
  have HB := Aside0.mk (Below.refl w.heap.size w)
  have H : ((laws_r8Long.f l0 l1).bind fun t190 => (if t190 = true then (some true) else ((spec_R8Pipe.f l0).bind fun bt191 => ((laws_r8Wide.f l1 0 20000).bind fun t198 => ((impl_WaterIn.f k bt191.1 bt191.2.1 bt191.2.2.1 bt191.2.2.2.1 bt191.2.2.2.2.1 bt191.2.2.2.2.2).bind fun bt199 => ((impl_DelayOf.f k bt191.1 bt191.2.1 bt191.2.2.1 bt191.2.2.2.1 bt191.2.2.2.2.1 bt191.2.2.2.2.2 (wrap64 (1 + t198))).bind fun bt201 => ((impl_DelayOf.f k bt191.1 bt191.2.1 bt191.2.2.1 bt191.2.2.2.1 bt191.2.2.2.2.1 bt191.2.2.2.2.2 (wrap64 (-(wrap64 (1 + t198))))).bind fun bt203 => ((impl_SpeedOf.f k bt191.1 bt191.2.1 bt191.2.2.1 bt191.2.2.2.1 bt191.2.2.2.2.1 bt191.2.2.2.2.2 (wrap64 (1 + t198))).bind fun bt205 => (if bt199.2 = 0 then (if bt201.2 = 0 then (if bt203.2 = 0 then (if bt201.1 = bt203.1 then (if (wrap64 (bt201.1 * (wrap64 (1 + t198)))) < bt199.1 then (none) else (if (wrap64 ((wrap64 (bt201.1 - 1)) * (wrap64 (1 + t198)))) ≥ bt199.1 then (none) else (if bt205.2 = 0 then (if bt205.1 < 0 then (none) else ((laws_r8Wide.f l1 2 9000).bind fun t207 => ((laws_r8Wide.f l1 4 2000).bind fun t208 => ((impl_LossOf.f k bt191.1 bt191.2.1 bt191.2.2.1 bt191.2.2.2.1 bt191.2.2.2.2.1 bt191.2.2.2.2.2 (wrap64 (3000 + t207)) t208).bind fun bt209 => ((impl_LossOf.f k bt191.1 bt191.2.1 bt191.2.2.1 bt191.2.2.2.1 bt191.2.2.2.2.1 bt191.2.2.2.2.2 t208 (wrap64 (3000 + t207))).bind fun bt211 => ((impl_EndTemperature.f k bt191.1 bt191.2.1 bt191.2.2.1 bt191.2.2.2.1 bt191.2.2.2.2.1 bt191.2.2.2.2.2 (wrap64 (1 + t198)) (wrap64 (3000 + t207)) t208).bind fun bt213 => ((impl_EndTemperature.f k bt191.1 bt191.2.1 bt191.2.2.1 bt191.2.2.2.1 bt191.2.2.2.2.1 bt191.2.2.2.2.2 (wrap64 (1 + t198)) t208 t208).bind fun bt215 => ((impl_EndTemperature.f k bt191.1 bt191.2.1 bt191.2.2.1 bt191.2.2.2.1 bt191.2.2.2.2.1 bt191.2.2.2.2.2 0 (wrap64 (3000 + t207)) t208).bind fun bt217 => ((impl_EndTemperature.f k bt191.1 bt191.2.1 bt191.2.2.1 bt191.2.2.2.1 bt191.2.2.2.2.1 bt191.2.2.2.2.2 (wrap64 (2 * (wrap64 (1 + t198)))) (wrap64 (3000 + t207)) t208).bind fun bt219 => ((impl_HeatFlow.f (wrap64 (1 + t198)) (wrap64 (3000 + t207)) bt213.1).bind fun bt221 => (if bt209.2 = 0 then (if bt211.2 = 0 then (if bt211.1 = (wrap64 (-bt209.1)) then (if bt209.1 < 0 then (none) else (if bt213.2 = 0 then (if bt213.1 > (wrap64 (3000 + t207)) then (none) else (if bt213.1 < t208 then (none) else (if bt215.2 = 0 then (if bt215.1 = t208 then (if bt217.2 = 0 then (if bt217.1 = t208 then (if bt221.2 = 0 then (if bt221.1 < 0 then (none) else (if bt219.2 = 0 then (if bt219.1 ≥ bt213.1 then (some (decide (bt219.1 ≤ (wrap64 (3000 + t207))))) else (none)) else (none))) else (none)) else (none)) else (none)) else (none)) else (none)))) else (none))) else (none)) else (none)) else (none)))))))))))) else (none)))) else (none)) else (none)) else (none)) else (none)))))))))) = some r := h
  clear h
  replace H := Option.bind_eq_some_iff.mp H
  obtain ⟨t190, A30, H⟩ := H
  replace H : (if t190 = true then (some true) else ((spec_R8Pipe.f l0).bind fun bt191 => ((laws_r8Wide.f l1 0 20000).bind fun t198 => ((impl_WaterIn.f k bt191.1 bt191.2.1 bt191.2.2.1 bt191.2.2.2.1 bt191.2.2.2.2.1 bt191.2.2.2.2.2).bind fun bt199 => ((impl_DelayOf.f k bt191.1 bt191.2.1 bt191.2.2.1 bt191.2.2.2.1 bt191.2.2.2.2.1 bt191.2.2.2.2.2 (wrap64 (1 + t198))).bind fun bt201 => ((impl_DelayOf.f k bt191.1 bt191.2.1 bt191.2.2.1 bt191.2.2.2.1 bt191.2.2.2.2.1 bt191.2.2.2.2.2 (wrap64 (-(wrap64 (1 + t198))))).bind fun bt203 => ((impl_SpeedOf.f k bt191.1 bt191.2.1 bt191.2.2.1 bt191.2.2.2.1 bt191.2.2.2.2.1 bt191.2.2.2.2.2 (wrap64 (1 + t198))).bind fun bt205 => (if bt199.2 = 0 then (if bt201.2 = 0 then (if bt203.2 = 0 then (if bt201.1 = bt203.1 then (if (wrap64 (bt201.1 * (wrap64 (1 + t198)))) < bt199.1 then (none) else (if (wrap64 ((wrap64 (bt201.1 - 1)) * (wrap64 (1 + t198)))) ≥ bt199.1 then (none) else (if bt205.2 = 0 then (if bt205.1 < 0 then (none) else ((laws_r8Wide.f l1 2 9000).bind fun t207 => ((laws_r8Wide.f l1 4 2000).bind fun t208 => ((impl_LossOf.f k bt191.1 bt191.2.1 bt191.2.2.1 bt191.2.2.2.1 bt191.2.2.2.2.1 bt191.2.2.2.2.2 (wrap64 (3000 + t207)) t208).bind fun bt209 => ((impl_LossOf.f k bt191.1 bt191.2.1 bt191.2.2.1 bt191.2.2.2.1 bt191.2.2.2.2.1 bt191.2.2.2.2.2 t208 (wrap64 (3000 + t207))).bind fun bt211 => ((impl_EndTemperature.f k bt191.1 bt191.2.1 bt191.2.2.1 bt191.2.2.2.1 bt191.2.2.2.2.1 bt191.2.2.2.2.2 (wrap64 (1 + t198)) (wrap64 (3000 + t207)) t208).bind fun bt213 => ((impl_EndTemperature.f k bt191.1 bt191.2.1 bt191.2.2.1 bt191.2.2.2.1 bt191.2.2.2.2.1 bt191.2.2.2.2.2 (wrap64 (1 + t198)) t208 t208).bind fun bt215 => ((impl_EndTemperature.f k bt191.1 bt191.2.1 bt191.2.2.1 bt191.2.2.2.1 bt191.2.2.2.2.1 bt191.2.2.2.2.2 0 (wrap64 (3000 + t207)) t208).bind fun bt217 => ((impl_EndTemperature.f k bt191.1 bt191.2.1 bt191.2.2.1 bt191.2.2.2.1 bt191.2.2.2.2.1 bt191.2.2.2.2.2 (wrap64 (2 * (wrap64 (1 + t198)))) (wrap64 (3000 + t207)) t208).bind fun bt219 => ((impl_HeatFlow.f (wrap64 (1 + t198)) (wrap64 (3000 + t207)) bt213.1).bind fun bt221 => (if bt209.2 = 0 then (if bt211.2 = 0 then (if bt211.1 = (wrap64 (-bt209.1)) then (if bt209.1 < 0 then (none) else (if bt213.2 = 0 then (if bt213.1 > (wrap64 (3000 + t207)) then (none) else (if bt213.1 < t208 then (none) else (if bt215.2 = 0 then (if bt215.1 = t208 then (if bt217.2 = 0 then (if bt217.1 = t208 then (if bt221.2 = 0 then (if bt221.1 < 0 then (none) else (if bt219.2 = 0 then (if bt219.1 ≥ bt213.1 then (some (decide (bt219.1 ≤ (wrap64 (3000 + t207))))) else (none)) else (none))) else (none)) else (none)) else (none)) else (none)) else (none)))) else (none))) else (none)) else (none)) else (none)))))))))))) else (none)))) else (none)) else (none)) else (none)) else (none))))))))) = some r := H
  have A3 := Aside0.mk A30
  clear A30
  by_cases c4 : t190 = true
  · subst c4
    have H1 : (some true) = some r := by rw [if_pos rfl] at H; exact H
    clear H
    have H := H1
    clear H1
    obtain rfl := Option.some.inj H
    go_enter Try.func3, Try.ntmps3
    go_wp2_with (first | ((with_reducible refine gate_callee (f := 4) rfl ?_); refine goesL_ (some 33) rfl rfl Try.func4 (by kernel_rfl) rfl #[.slice A0 l0.length c0, .slice A1 l1.length c1] rfl (by (try simp only [List.map_toArray, List.map_cons, List.map_nil]); first | done | rfl | (simp only [List.length_drop, List.length_take]; rfl)) ?_; (with_reducible refine (laws_r8Long.calls _ _ l0 _ _ l1 true _ ?side1 ?side2 ?side3 ?side4 A3.out).mono ?_); (case side1 => repeat (first | exact HR0.out | (with_reducible refine Kd.C_alloc ?_ _) | (with_reducible refine Kd.C_drewN ?_ _) | (with_reducible refine Kd.C_drew ?_))); (case side2 => exact HC0.out); (case side3 => repeat (first | exact HR1.out | (with_reducible refine Kd.C_alloc ?_ _) | (with_reducible refine Kd.C_drewN ?_ _) | (with_reducible refine Kd.C_drew ?_))); (case side4 => exact HC1.out); rintro e w' ⟨rfl, ⟨nd, rfl⟩⟩; refine ⟨_, rfl, ?_⟩))
    go_ret
    exact ⟨by first | rfl | (simp [errW_none, errW_some] <;> rfl) | (simp [*, errW_none, errW_some] <;> rfl), by repeat (first | (with_reducible first | exact HB.out | apply below_alloc | apply pw_below_drewN | apply below_drew1) | exact HB.out)⟩
  · replace c4 := Bool.eq_false_iff.mpr c4
    subst c4
    have H1 : ((spec_R8Pipe.f l0).bind fun bt191 => ((laws_r8Wide.f l1 0 20000).bind fun t198 => ((impl_WaterIn.f k bt191.1 bt191.2.1 bt191.2.2.1 bt191.2.2.2.1 bt191.2.2.2.2.1 bt191.2.2.2.2.2).bind fun bt199 => ((impl_DelayOf.f k bt191.1 bt191.2.1 bt191.2.2.1 bt191.2.2.2.1 bt191.2.2.2.2.1 bt191.2.2.2.2.2 (wrap64 (1 + t198))).bind fun bt201 => ((impl_DelayOf.f k bt191.1 bt191.2.1 bt191.2.2.1 bt191.2.2.2.1 bt191.2.2.2.2.1 bt191.2.2.2.2.2 (wrap64 (-(wrap64 (1 + t198))))).bind fun bt203 => ((impl_SpeedOf.f k bt191.1 bt191.2.1 bt191.2.2.1 bt191.2.2.2.1 bt191.2.2.2.2.1 bt191.2.2.2.2.2 (wrap64 (1 + t198))).bind fun bt205 => (if bt199.2 = 0 then (if bt201.2 = 0 then (if bt203.2 = 0 then (if bt201.1 = bt203.1 then (if (wrap64 (bt201.1 * (wrap64 (1 + t198)))) < bt199.1 then (none) else (if (wrap64 ((wrap64 (bt201.1 - 1)) * (wrap64 (1 + t198)))) ≥ bt199.1 then (none) else (if bt205.2 = 0 then (if bt205.1 < 0 then (none) else ((laws_r8Wide.f l1 2 9000).bind fun t207 => ((laws_r8Wide.f l1 4 2000).bind fun t208 => ((impl_LossOf.f k bt191.1 bt191.2.1 bt191.2.2.1 bt191.2.2.2.1 bt191.2.2.2.2.1 bt191.2.2.2.2.2 (wrap64 (3000 + t207)) t208).bind fun bt209 => ((impl_LossOf.f k bt191.1 bt191.2.1 bt191.2.2.1 bt191.2.2.2.1 bt191.2.2.2.2.1 bt191.2.2.2.2.2 t208 (wrap64 (3000 + t207))).bind fun bt211 => ((impl_EndTemperature.f k bt191.1 bt191.2.1 bt191.2.2.1 bt191.2.2.2.1 bt191.2.2.2.2.1 bt191.2.2.2.2.2 (wrap64 (1 + t198)) (wrap64 (3000 + t207)) t208).bind fun bt213 => ((impl_EndTemperature.f k bt191.1 bt191.2.1 bt191.2.2.1 bt191.2.2.2.1 bt191.2.2.2.2.1 bt191.2.2.2.2.2 (wrap64 (1 + t198)) t208 t208).bind fun bt215 => ((impl_EndTemperature.f k bt191.1 bt191.2.1 bt191.2.2.1 bt191.2.2.2.1 bt191.2.2.2.2.1 bt191.2.2.2.2.2 0 (wrap64 (3000 + t207)) t208).bind fun bt217 => ((impl_EndTemperature.f k bt191.1 bt191.2.1 bt191.2.2.1 bt191.2.2.2.1 bt191.2.2.2.2.1 bt191.2.2.2.2.2 (wrap64 (2 * (wrap64 (1 + t198)))) (wrap64 (3000 + t207)) t208).bind fun bt219 => ((impl_HeatFlow.f (wrap64 (1 + t198)) (wrap64 (3000 + t207)) bt213.1).bind fun bt221 => (if bt209.2 = 0 then (if bt211.2 = 0 then (if bt211.1 = (wrap64 (-bt209.1)) then (if bt209.1 < 0 then (none) else (if bt213.2 = 0 then (if bt213.1 > (wrap64 (3000 + t207)) then (none) else (if bt213.1 < t208 then (none) else (if bt215.2 = 0 then (if bt215.1 = t208 then (if bt217.2 = 0 then (if bt217.1 = t208 then (if bt221.2 = 0 then (if bt221.1 < 0 then (none) else (if bt219.2 = 0 then (if bt219.1 ≥ bt213.1 then (some (decide (bt219.1 ≤ (wrap64 (3000 + t207))))) else (none)) else (none))) else (none)) else (none)) else (none)) else (none)) else (none)))) else (none))) else (none)) else (none)) else (none)))))))))))) else (none)))) else (none)) else (none)) else (none)) else (none)))))))) = some r := by rw [if_neg (show ¬ (false = true) by decide)] at H; exact H
    clear H
    have H := H1
    clear H1
    replace H := Option.bind_eq_some_iff.mp H
    obtain ⟨⟨t191, t192, t193, t194, t195, t196⟩, A50, H⟩ := H
    replace H : ((laws_r8Wide.f l1 0 20000).bind fun t198 => ((impl_WaterIn.f k t191 t192 t193 t194 t195 t196).bind fun bt199 => ((impl_DelayOf.f k t191 t192 t193 t194 t195 t196 (wrap64 (1 + t198))).bind fun bt201 => ((impl_DelayOf.f k t191 t192 t193 t194 t195 t196 (wrap64 (-(wrap64 (1 + t198))))).bind fun bt203 => ((impl_SpeedOf.f k t191 t192 t193 t194 t195 t196 (wrap64 (1 + t198))).bind fun bt205 => (if bt199.2 = 0 then (if bt201.2 = 0 then (if bt203.2 = 0 then (if bt201.1 = bt203.1 then (if (wrap64 (bt201.1 * (wrap64 (1 + t198)))) < bt199.1 then (none) else (if (wrap64 ((wrap64 (bt201.1 - 1)) * (wrap64 (1 + t198)))) ≥ bt199.1 then (none) else (if bt205.2 = 0 then (if bt205.1 < 0 then (none) else ((laws_r8Wide.f l1 2 9000).bind fun t207 => ((laws_r8Wide.f l1 4 2000).bind fun t208 => ((impl_LossOf.f k t191 t192 t193 t194 t195 t196 (wrap64 (3000 + t207)) t208).bind fun bt209 => ((impl_LossOf.f k t191 t192 t193 t194 t195 t196 t208 (wrap64 (3000 + t207))).bind fun bt211 => ((impl_EndTemperature.f k t191 t192 t193 t194 t195 t196 (wrap64 (1 + t198)) (wrap64 (3000 + t207)) t208).bind fun bt213 => ((impl_EndTemperature.f k t191 t192 t193 t194 t195 t196 (wrap64 (1 + t198)) t208 t208).bind fun bt215 => ((impl_EndTemperature.f k t191 t192 t193 t194 t195 t196 0 (wrap64 (3000 + t207)) t208).bind fun bt217 => ((impl_EndTemperature.f k t191 t192 t193 t194 t195 t196 (wrap64 (2 * (wrap64 (1 + t198)))) (wrap64 (3000 + t207)) t208).bind fun bt219 => ((impl_HeatFlow.f (wrap64 (1 + t198)) (wrap64 (3000 + t207)) bt213.1).bind fun bt221 => (if bt209.2 = 0 then (if bt211.2 = 0 then (if bt211.1 = (wrap64 (-bt209.1)) then (if bt209.1 < 0 then (none) else (if bt213.2 = 0 then (if bt213.1 > (wrap64 (3000 + t207)) then (none) else (if bt213.1 < t208 then (none) else (if bt215.2 = 0 then (if bt215.1 = t208 then (if bt217.2 = 0 then (if bt217.1 = t208 then (if bt221.2 = 0 then (if bt221.1 < 0 then (none) else (if bt219.2 = 0 then (if bt219.1 ≥ bt213.1 then (some (decide (bt219.1 ≤ (wrap64 (3000 + t207))))) else (none)) else (none))) else (none)) else (none)) else (none)) else (none)) else (none)))) else (none))) else (none)) else (none)) else (none)))))))))))) else (none)))) else (none)) else (none)) else (none)) else (none))))))) = some r := H
    have A5 := Aside0.mk A50
    clear A50
    replace H := Option.bind_eq_some_iff.mp H
    obtain ⟨t198, A60, H⟩ := H
    replace H : ((impl_WaterIn.f k t191 t192 t193 t194 t195 t196).bind fun bt199 => ((impl_DelayOf.f k t191 t192 t193 t194 t195 t196 (wrap64 (1 + t198))).bind fun bt201 => ((impl_DelayOf.f k t191 t192 t193 t194 t195 t196 (wrap64 (-(wrap64 (1 + t198))))).bind fun bt203 => ((impl_SpeedOf.f k t191 t192 t193 t194 t195 t196 (wrap64 (1 + t198))).bind fun bt205 => (if bt199.2 = 0 then (if bt201.2 = 0 then (if bt203.2 = 0 then (if bt201.1 = bt203.1 then (if (wrap64 (bt201.1 * (wrap64 (1 + t198)))) < bt199.1 then (none) else (if (wrap64 ((wrap64 (bt201.1 - 1)) * (wrap64 (1 + t198)))) ≥ bt199.1 then (none) else (if bt205.2 = 0 then (if bt205.1 < 0 then (none) else ((laws_r8Wide.f l1 2 9000).bind fun t207 => ((laws_r8Wide.f l1 4 2000).bind fun t208 => ((impl_LossOf.f k t191 t192 t193 t194 t195 t196 (wrap64 (3000 + t207)) t208).bind fun bt209 => ((impl_LossOf.f k t191 t192 t193 t194 t195 t196 t208 (wrap64 (3000 + t207))).bind fun bt211 => ((impl_EndTemperature.f k t191 t192 t193 t194 t195 t196 (wrap64 (1 + t198)) (wrap64 (3000 + t207)) t208).bind fun bt213 => ((impl_EndTemperature.f k t191 t192 t193 t194 t195 t196 (wrap64 (1 + t198)) t208 t208).bind fun bt215 => ((impl_EndTemperature.f k t191 t192 t193 t194 t195 t196 0 (wrap64 (3000 + t207)) t208).bind fun bt217 => ((impl_EndTemperature.f k t191 t192 t193 t194 t195 t196 (wrap64 (2 * (wrap64 (1 + t198)))) (wrap64 (3000 + t207)) t208).bind fun bt219 => ((impl_HeatFlow.f (wrap64 (1 + t198)) (wrap64 (3000 + t207)) bt213.1).bind fun bt221 => (if bt209.2 = 0 then (if bt211.2 = 0 then (if bt211.1 = (wrap64 (-bt209.1)) then (if bt209.1 < 0 then (none) else (if bt213.2 = 0 then (if bt213.1 > (wrap64 (3000 + t207)) then (none) else (if bt213.1 < t208 then (none) else (if bt215.2 = 0 then (if bt215.1 = t208 then (if bt217.2 = 0 then (if bt217.1 = t208 then (if bt221.2 = 0 then (if bt221.1 < 0 then (none) else (if bt219.2 = 0 then (if bt219.1 ≥ bt213.1 then (some (decide (bt219.1 ≤ (wrap64 (3000 + t207))))) else (none)) else (none))) else (none)) else (none)) else (none)) else (none)) else (none)))) else (none))) else (none)) else (none)) else (none)))))))))))) else (none)))) else (none)) else (none)) else (none)) else (none)))))) = some r := H
    have A6 := Aside0.mk A60
    clear A60
    replace H := Option.bind_eq_some_iff.mp H
    obtain ⟨⟨t199, t200⟩, A70, H⟩ := H
    replace H : ((impl_DelayOf.f k t191 t192 t193 t194 t195 t196 (wrap64 (1 + t198))).bind fun bt201 => ((impl_DelayOf.f k t191 t192 t193 t194 t195 t196 (wrap64 (-(wrap64 (1 + t198))))).bind fun bt203 => ((impl_SpeedOf.f k t191 t192 t193 t194 t195 t196 (wrap64 (1 + t198))).bind fun bt205 => (if t200 = 0 then (if bt201.2 = 0 then (if bt203.2 = 0 then (if bt201.1 = bt203.1 then (if (wrap64 (bt201.1 * (wrap64 (1 + t198)))) < t199 then (none) else (if (wrap64 ((wrap64 (bt201.1 - 1)) * (wrap64 (1 + t198)))) ≥ t199 then (none) else (if bt205.2 = 0 then (if bt205.1 < 0 then (none) else ((laws_r8Wide.f l1 2 9000).bind fun t207 => ((laws_r8Wide.f l1 4 2000).bind fun t208 => ((impl_LossOf.f k t191 t192 t193 t194 t195 t196 (wrap64 (3000 + t207)) t208).bind fun bt209 => ((impl_LossOf.f k t191 t192 t193 t194 t195 t196 t208 (wrap64 (3000 + t207))).bind fun bt211 => ((impl_EndTemperature.f k t191 t192 t193 t194 t195 t196 (wrap64 (1 + t198)) (wrap64 (3000 + t207)) t208).bind fun bt213 => ((impl_EndTemperature.f k t191 t192 t193 t194 t195 t196 (wrap64 (1 + t198)) t208 t208).bind fun bt215 => ((impl_EndTemperature.f k t191 t192 t193 t194 t195 t196 0 (wrap64 (3000 + t207)) t208).bind fun bt217 => ((impl_EndTemperature.f k t191 t192 t193 t194 t195 t196 (wrap64 (2 * (wrap64 (1 + t198)))) (wrap64 (3000 + t207)) t208).bind fun bt219 => ((impl_HeatFlow.f (wrap64 (1 + t198)) (wrap64 (3000 + t207)) bt213.1).bind fun bt221 => (if bt209.2 = 0 then (if bt211.2 = 0 then (if bt211.1 = (wrap64 (-bt209.1)) then (if bt209.1 < 0 then (none) else (if bt213.2 = 0 then (if bt213.1 > (wrap64 (3000 + t207)) then (none) else (if bt213.1 < t208 then (none) else (if bt215.2 = 0 then (if bt215.1 = t208 then (if bt217.2 = 0 then (if bt217.1 = t208 then (if bt221.2 = 0 then (if bt221.1 < 0 then (none) else (if bt219.2 = 0 then (if bt219.1 ≥ bt213.1 then (some (decide (bt219.1 ≤ (wrap64 (3000 + t207))))) else (none)) else (none))) else (none)) else (none)) else (none)) else (none)) else (none)))) else (none))) else (none)) else (none)) else (none)))))))))))) else (none)))) else (none)) else (none)) else (none)) else (none))))) = some r := H
    have A7 := Aside0.mk A70
    clear A70
    replace H := Option.bind_eq_some_iff.mp H
    obtain ⟨⟨t201, t202⟩, A80, H⟩ := H
    replace H : ((impl_DelayOf.f k t191 t192 t193 t194 t195 t196 (wrap64 (-(wrap64 (1 + t198))))).bind fun bt203 => ((impl_SpeedOf.f k t191 t192 t193 t194 t195 t196 (wrap64 (1 + t198))).bind fun bt205 => (if t200 = 0 then (if t202 = 0 then (if bt203.2 = 0 then (if t201 = bt203.1 then (if (wrap64 (t201 * (wrap64 (1 + t198)))) < t199 then (none) else (if (wrap64 ((wrap64 (t201 - 1)) * (wrap64 (1 + t198)))) ≥ t199 then (none) else (if bt205.2 = 0 then (if bt205.1 < 0 then (none) else ((laws_r8Wide.f l1 2 9000).bind fun t207 => ((laws_r8Wide.f l1 4 2000).bind fun t208 => ((impl_LossOf.f k t191 t192 t193 t194 t195 t196 (wrap64 (3000 + t207)) t208).bind fun bt209 => ((impl_LossOf.f k t191 t192 t193 t194 t195 t196 t208 (wrap64 (3000 + t207))).bind fun bt211 => ((impl_EndTemperature.f k t191 t192 t193 t194 t195 t196 (wrap64 (1 + t198)) (wrap64 (3000 + t207)) t208).bind fun bt213 => ((impl_EndTemperature.f k t191 t192 t193 t194 t195 t196 (wrap64 (1 + t198)) t208 t208).bind fun bt215 => ((impl_EndTemperature.f k t191 t192 t193 t194 t195 t196 0 (wrap64 (3000 + t207)) t208).bind fun bt217 => ((impl_EndTemperature.f k t191 t192 t193 t194 t195 t196 (wrap64 (2 * (wrap64 (1 + t198)))) (wrap64 (3000 + t207)) t208).bind fun bt219 => ((impl_HeatFlow.f (wrap64 (1 + t198)) (wrap64 (3000 + t207)) bt213.1).bind fun bt221 => (if bt209.2 = 0 then (if bt211.2 = 0 then (if bt211.1 = (wrap64 (-bt209.1)) then (if bt209.1 < 0 then (none) else (if bt213.2 = 0 then (if bt213.1 > (wrap64 (3000 + t207)) then (none) else (if bt213.1 < t208 then (none) else (if bt215.2 = 0 then (if bt215.1 = t208 then (if bt217.2 = 0 then (if bt217.1 = t208 then (if bt221.2 = 0 then (if bt221.1 < 0 then (none) else (if bt219.2 = 0 then (if bt219.1 ≥ bt213.1 then (some (decide (bt219.1 ≤ (wrap64 (3000 + t207))))) else (none)) else (none))) else (none)) else (none)) else (none)) else (none)) else (none)))) else (none))) else (none)) else (none)) else (none)))))))))))) else (none)))) else (none)) else (none)) else (none)) else (none)))) = some r := H
    have A8 := Aside0.mk A80
    clear A80
    replace H := Option.bind_eq_some_iff.mp H
    obtain ⟨⟨t203, t204⟩, A90, H⟩ := H
    replace H : ((impl_SpeedOf.f k t191 t192 t193 t194 t195 t196 (wrap64 (1 + t198))).bind fun bt205 => (if t200 = 0 then (if t202 = 0 then (if t204 = 0 then (if t201 = t203 then (if (wrap64 (t201 * (wrap64 (1 + t198)))) < t199 then (none) else (if (wrap64 ((wrap64 (t201 - 1)) * (wrap64 (1 + t198)))) ≥ t199 then (none) else (if bt205.2 = 0 then (if bt205.1 < 0 then (none) else ((laws_r8Wide.f l1 2 9000).bind fun t207 => ((laws_r8Wide.f l1 4 2000).bind fun t208 => ((impl_LossOf.f k t191 t192 t193 t194 t195 t196 (wrap64 (3000 + t207)) t208).bind fun bt209 => ((impl_LossOf.f k t191 t192 t193 t194 t195 t196 t208 (wrap64 (3000 + t207))).bind fun bt211 => ((impl_EndTemperature.f k t191 t192 t193 t194 t195 t196 (wrap64 (1 + t198)) (wrap64 (3000 + t207)) t208).bind fun bt213 => ((impl_EndTemperature.f k t191 t192 t193 t194 t195 t196 (wrap64 (1 + t198)) t208 t208).bind fun bt215 => ((impl_EndTemperature.f k t191 t192 t193 t194 t195 t196 0 (wrap64 (3000 + t207)) t208).bind fun bt217 => ((impl_EndTemperature.f k t191 t192 t193 t194 t195 t196 (wrap64 (2 * (wrap64 (1 + t198)))) (wrap64 (3000 + t207)) t208).bind fun bt219 => ((impl_HeatFlow.f (wrap64 (1 + t198)) (wrap64 (3000 + t207)) bt213.1).bind fun bt221 => (if bt209.2 = 0 then (if bt211.2 = 0 then (if bt211.1 = (wrap64 (-bt209.1)) then (if bt209.1 < 0 then (none) else (if bt213.2 = 0 then (if bt213.1 > (wrap64 (3000 + t207)) then (none) else (if bt213.1 < t208 then (none) else (if bt215.2 = 0 then (if bt215.1 = t208 then (if bt217.2 = 0 then (if bt217.1 = t208 then (if bt221.2 = 0 then (if bt221.1 < 0 then (none) else (if bt219.2 = 0 then (if bt219.1 ≥ bt213.1 then (some (decide (bt219.1 ≤ (wrap64 (3000 + t207))))) else (none)) else (none))) else (none)) else (none)) else (none)) else (none)) else (none)))) else (none))) else (none)) else (none)) else (none)))))))))))) else (none)))) else (none)) else (none)) else (none)) else (none))) = some r := H
    have A9 := Aside0.mk A90
    clear A90
    replace H := Option.bind_eq_some_iff.mp H
    obtain ⟨⟨t205, t206⟩, A100, H⟩ := H
    replace H : (if t200 = 0 then (if t202 = 0 then (if t204 = 0 then (if t201 = t203 then (if (wrap64 (t201 * (wrap64 (1 + t198)))) < t199 then (none) else (if (wrap64 ((wrap64 (t201 - 1)) * (wrap64 (1 + t198)))) ≥ t199 then (none) else (if t206 = 0 then (if t205 < 0 then (none) else ((laws_r8Wide.f l1 2 9000).bind fun t207 => ((laws_r8Wide.f l1 4 2000).bind fun t208 => ((impl_LossOf.f k t191 t192 t193 t194 t195 t196 (wrap64 (3000 + t207)) t208).bind fun bt209 => ((impl_LossOf.f k t191 t192 t193 t194 t195 t196 t208 (wrap64 (3000 + t207))).bind fun bt211 => ((impl_EndTemperature.f k t191 t192 t193 t194 t195 t196 (wrap64 (1 + t198)) (wrap64 (3000 + t207)) t208).bind fun bt213 => ((impl_EndTemperature.f k t191 t192 t193 t194 t195 t196 (wrap64 (1 + t198)) t208 t208).bind fun bt215 => ((impl_EndTemperature.f k t191 t192 t193 t194 t195 t196 0 (wrap64 (3000 + t207)) t208).bind fun bt217 => ((impl_EndTemperature.f k t191 t192 t193 t194 t195 t196 (wrap64 (2 * (wrap64 (1 + t198)))) (wrap64 (3000 + t207)) t208).bind fun bt219 => ((impl_HeatFlow.f (wrap64 (1 + t198)) (wrap64 (3000 + t207)) bt213.1).bind fun bt221 => (if bt209.2 = 0 then (if bt211.2 = 0 then (if bt211.1 = (wrap64 (-bt209.1)) then (if bt209.1 < 0 then (none) else (if bt213.2 = 0 then (if bt213.1 > (wrap64 (3000 + t207)) then (none) else (if bt213.1 < t208 then (none) else (if bt215.2 = 0 then (if bt215.1 = t208 then (if bt217.2 = 0 then (if bt217.1 = t208 then (if bt221.2 = 0 then (if bt221.1 < 0 then (none) else (if bt219.2 = 0 then (if bt219.1 ≥ bt213.1 then (some (decide (bt219.1 ≤ (wrap64 (3000 + t207))))) else (none)) else (none))) else (none)) else (none)) else (none)) else (none)) else (none)))) else (none))) else (none)) else (none)) else (none)))))))))))) else (none)))) else (none)) else (none)) else (none)) else (none)) = some r := H
    have A10 := Aside0.mk A100
    clear A100
    by_cases c11 : t200 = 0
    · rw [if_pos c11] at H
      have c11b0 : (t200 == 0) = true := beq_iff_eq.mpr c11
      have c11b1 : (t200 != 0) = false := bne_eq_false_iff_eq.mpr c11
      clear c11
      by_cases c12 : t202 = 0
      · rw [if_pos c12] at H
        have c12b0 : (t202 == 0) = true := beq_iff_eq.mpr c12
        have c12b1 : (t202 != 0) = false := bne_eq_false_iff_eq.mpr c12
        clear c12
        by_cases c13 : t204 = 0
        · rw [if_pos c13] at H
          have c13b0 : (t204 == 0) = true := beq_iff_eq.mpr c13
          have c13b1 : (t204 != 0) = false := bne_eq_false_iff_eq.mpr c13
          clear c13
          by_cases c14 : t201 = t203
          · rw [if_pos c14] at H
            have c14b0 : (t201 == t203) = true := beq_iff_eq.mpr c14
            have c14b1 : (t201 != t203) = false := bne_eq_false_iff_eq.mpr c14
            clear c14
            by_cases c15 : (wrap64 (t201 * (wrap64 (1 + t198)))) < t199
            · rw [if_pos c15] at H
              exact absurd H (by simp)
            · rw [if_neg c15] at H
              have c15b0 : decide ((wrap64 (t201 * (wrap64 (1 + t198)))) < t199) = false := decide_eq_false c15
              clear c15
              by_cases c16 : (wrap64 ((wrap64 (t201 - 1)) * (wrap64 (1 + t198)))) ≥ t199
              · rw [if_pos c16] at H
                exact absurd H (by simp)
              · rw [if_neg c16] at H
                have c16b0 : decide (t199 ≤ (wrap64 ((wrap64 (t201 - 1)) * (wrap64 (1 + t198))))) = false := decide_eq_false c16
                clear c16
                by_cases c17 : t206 = 0
                · rw [if_pos c17] at H
                  have c17b0 : (t206 == 0) = true := beq_iff_eq.mpr c17
                  have c17b1 : (t206 != 0) = false := bne_eq_false_iff_eq.mpr c17
                  clear c17
                  by_cases c18 : t205 < 0
                  · rw [if_pos c18] at H
                    exact absurd H (by simp)
                  · rw [if_neg c18] at H
                    have c18b0 : decide (t205 < 0) = false := decide_eq_false c18
                    clear c18
                    replace H := Option.bind_eq_some_iff.mp H
                    obtain ⟨t207, A190, H⟩ := H
                    replace H : ((laws_r8Wide.f l1 4 2000).bind fun t208 => ((impl_LossOf.f k t191 t192 t193 t194 t195 t196 (wrap64 (3000 + t207)) t208).bind fun bt209 => ((impl_LossOf.f k t191 t192 t193 t194 t195 t196 t208 (wrap64 (3000 + t207))).bind fun bt211 => ((impl_EndTemperature.f k t191 t192 t193 t194 t195 t196 (wrap64 (1 + t198)) (wrap64 (3000 + t207)) t208).bind fun bt213 => ((impl_EndTemperature.f k t191 t192 t193 t194 t195 t196 (wrap64 (1 + t198)) t208 t208).bind fun bt215 => ((impl_EndTemperature.f k t191 t192 t193 t194 t195 t196 0 (wrap64 (3000 + t207)) t208).bind fun bt217 => ((impl_EndTemperature.f k t191 t192 t193 t194 t195 t196 (wrap64 (2 * (wrap64 (1 + t198)))) (wrap64 (3000 + t207)) t208).bind fun bt219 => ((impl_HeatFlow.f (wrap64 (1 + t198)) (wrap64 (3000 + t207)) bt213.1).bind fun bt221 => (if bt209.2 = 0 then (if bt211.2 = 0 then (if bt211.1 = (wrap64 (-bt209.1)) then (if bt209.1 < 0 then (none) else (if bt213.2 = 0 then (if bt213.1 > (wrap64 (3000 + t207)) then (none) else (if bt213.1 < t208 then (none) else (if bt215.2 = 0 then (if bt215.1 = t208 then (if bt217.2 = 0 then (if bt217.1 = t208 then (if bt221.2 = 0 then (if bt221.1 < 0 then (none) else (if bt219.2 = 0 then (if bt219.1 ≥ bt213.1 then (some (decide (bt219.1 ≤ (wrap64 (3000 + t207))))) else (none)) else (none))) else (none)) else (none)) else (none)) else (none)) else (none)))) else (none))) else (none)) else (none)) else (none)))))))))) = some r := H
                    have A19 := Aside0.mk A190
                    clear A190
                    replace H := Option.bind_eq_some_iff.mp H
                    obtain ⟨t208, A200, H⟩ := H
                    replace H : ((impl_LossOf.f k t191 t192 t193 t194 t195 t196 (wrap64 (3000 + t207)) t208).bind fun bt209 => ((impl_LossOf.f k t191 t192 t193 t194 t195 t196 t208 (wrap64 (3000 + t207))).bind fun bt211 => ((impl_EndTemperature.f k t191 t192 t193 t194 t195 t196 (wrap64 (1 + t198)) (wrap64 (3000 + t207)) t208).bind fun bt213 => ((impl_EndTemperature.f k t191 t192 t193 t194 t195 t196 (wrap64 (1 + t198)) t208 t208).bind fun bt215 => ((impl_EndTemperature.f k t191 t192 t193 t194 t195 t196 0 (wrap64 (3000 + t207)) t208).bind fun bt217 => ((impl_EndTemperature.f k t191 t192 t193 t194 t195 t196 (wrap64 (2 * (wrap64 (1 + t198)))) (wrap64 (3000 + t207)) t208).bind fun bt219 => ((impl_HeatFlow.f (wrap64 (1 + t198)) (wrap64 (3000 + t207)) bt213.1).bind fun bt221 => (if bt209.2 = 0 then (if bt211.2 = 0 then (if bt211.1 = (wrap64 (-bt209.1)) then (if bt209.1 < 0 then (none) else (if bt213.2 = 0 then (if bt213.1 > (wrap64 (3000 + t207)) then (none) else (if bt213.1 < t208 then (none) else (if bt215.2 = 0 then (if bt215.1 = t208 then (if bt217.2 = 0 then (if bt217.1 = t208 then (if bt221.2 = 0 then (if bt221.1 < 0 then (none) else (if bt219.2 = 0 then (if bt219.1 ≥ bt213.1 then (some (decide (bt219.1 ≤ (wrap64 (3000 + t207))))) else (none)) else (none))) else (none)) else (none)) else (none)) else (none)) else (none)))) else (none))) else (none)) else (none)) else (none))))))))) = some r := H
                    have A20 := Aside0.mk A200
                    clear A200
                    replace H := Option.bind_eq_some_iff.mp H
                    obtain ⟨⟨t209, t210⟩, A210, H⟩ := H
                    replace H : ((impl_LossOf.f k t191 t192 t193 t194 t195 t196 t208 (wrap64 (3000 + t207))).bind fun bt211 => ((impl_EndTemperature.f k t191 t192 t193 t194 t195 t196 (wrap64 (1 + t198)) (wrap64 (3000 + t207)) t208).bind fun bt213 => ((impl_EndTemperature.f k t191 t192 t193 t194 t195 t196 (wrap64 (1 + t198)) t208 t208).bind fun bt215 => ((impl_EndTemperature.f k t191 t192 t193 t194 t195 t196 0 (wrap64 (3000 + t207)) t208).bind fun bt217 => ((impl_EndTemperature.f k t191 t192 t193 t194 t195 t196 (wrap64 (2 * (wrap64 (1 + t198)))) (wrap64 (3000 + t207)) t208).bind fun bt219 => ((impl_HeatFlow.f (wrap64 (1 + t198)) (wrap64 (3000 + t207)) bt213.1).bind fun bt221 => (if t210 = 0 then (if bt211.2 = 0 then (if bt211.1 = (wrap64 (-t209)) then (if t209 < 0 then (none) else (if bt213.2 = 0 then (if bt213.1 > (wrap64 (3000 + t207)) then (none) else (if bt213.1 < t208 then (none) else (if bt215.2 = 0 then (if bt215.1 = t208 then (if bt217.2 = 0 then (if bt217.1 = t208 then (if bt221.2 = 0 then (if bt221.1 < 0 then (none) else (if bt219.2 = 0 then (if bt219.1 ≥ bt213.1 then (some (decide (bt219.1 ≤ (wrap64 (3000 + t207))))) else (none)) else (none))) else (none)) else (none)) else (none)) else (none)) else (none)))) else (none))) else (none)) else (none)) else (none)))))))) = some r := H
                    have A21 := Aside0.mk A210
                    clear A210
                    replace H := Option.bind_eq_some_iff.mp H
                    obtain ⟨⟨t211, t212⟩, A220, H⟩ := H
                    replace H : ((impl_EndTemperature.f k t191 t192 t193 t194 t195 t196 (wrap64 (1 + t198)) (wrap64 (3000 + t207)) t208).bind fun bt213 => ((impl_EndTemperature.f k t191 t192 t193 t194 t195 t196 (wrap64 (1 + t198)) t208 t208).bind fun bt215 => ((impl_EndTemperature.f k t191 t192 t193 t194 t195 t196 0 (wrap64 (3000 + t207)) t208).bind fun bt217 => ((impl_EndTemperature.f k t191 t192 t193 t194 t195 t196 (wrap64 (2 * (wrap64 (1 + t198)))) (wrap64 (3000 + t207)) t208).bind fun bt219 => ((impl_HeatFlow.f (wrap64 (1 + t198)) (wrap64 (3000 + t207)) bt213.1).bind fun bt221 => (if t210 = 0 then (if t212 = 0 then (if t211 = (wrap64 (-t209)) then (if t209 < 0 then (none) else (if bt213.2 = 0 then (if bt213.1 > (wrap64 (3000 + t207)) then (none) else (if bt213.1 < t208 then (none) else (if bt215.2 = 0 then (if bt215.1 = t208 then (if bt217.2 = 0 then (if bt217.1 = t208 then (if bt221.2 = 0 then (if bt221.1 < 0 then (none) else (if bt219.2 = 0 then (if bt219.1 ≥ bt213.1 then (some (decide (bt219.1 ≤ (wrap64 (3000 + t207))))) else (none)) else (none))) else (none)) else (none)) else (none)) else (none)) else (none)))) else (none))) else (none)) else (none)) else (none))))))) = some r := H
                    have A22 := Aside0.mk A220
                    clear A220
                    replace H := Option.bind_eq_some_iff.mp H
                    obtain ⟨⟨t213, t214⟩, A230, H⟩ := H
                    replace H : ((impl_EndTemperature.f k t191 t192 t193 t194 t195 t196 (wrap64 (1 + t198)) t208 t208).bind fun bt215 => ((impl_EndTemperature.f k t191 t192 t193 t194 t195 t196 0 (wrap64 (3000 + t207)) t208).bind fun bt217 => ((impl_EndTemperature.f k t191 t192 t193 t194 t195 t196 (wrap64 (2 * (wrap64 (1 + t198)))) (wrap64 (3000 + t207)) t208).bind fun bt219 => ((impl_HeatFlow.f (wrap64 (1 + t198)) (wrap64 (3000 + t207)) t213).bind fun bt221 => (if t210 = 0 then (if t212 = 0 then (if t211 = (wrap64 (-t209)) then (if t209 < 0 then (none) else (if t214 = 0 then (if t213 > (wrap64 (3000 + t207)) then (none) else (if t213 < t208 then (none) else (if bt215.2 = 0 then (if bt215.1 = t208 then (if bt217.2 = 0 then (if bt217.1 = t208 then (if bt221.2 = 0 then (if bt221.1 < 0 then (none) else (if bt219.2 = 0 then (if bt219.1 ≥ t213 then (some (decide (bt219.1 ≤ (wrap64 (3000 + t207))))) else (none)) else (none))) else (none)) else (none)) else (none)) else (none)) else (none)))) else (none))) else (none)) else (none)) else (none)))))) = some r := H
                    have A23 := Aside0.mk A230
                    clear A230
                    replace H := Option.bind_eq_some_iff.mp H
                    obtain ⟨⟨t215, t216⟩, A240, H⟩ := H
                    replace H : ((impl_EndTemperature.f k t191 t192 t193 t194 t195 t196 0 (wrap64 (3000 + t207)) t208).bind fun bt217 => ((impl_EndTemperature.f k t191 t192 t193 t194 t195 t196 (wrap64 (2 * (wrap64 (1 + t198)))) (wrap64 (3000 + t207)) t208).bind fun bt219 => ((impl_HeatFlow.f (wrap64 (1 + t198)) (wrap64 (3000 + t207)) t213).bind fun bt221 => (if t210 = 0 then (if t212 = 0 then (if t211 = (wrap64 (-t209)) then (if t209 < 0 then (none) else (if t214 = 0 then (if t213 > (wrap64 (3000 + t207)) then (none) else (if t213 < t208 then (none) else (if t216 = 0 then (if t215 = t208 then (if bt217.2 = 0 then (if bt217.1 = t208 then (if bt221.2 = 0 then (if bt221.1 < 0 then (none) else (if bt219.2 = 0 then (if bt219.1 ≥ t213 then (some (decide (bt219.1 ≤ (wrap64 (3000 + t207))))) else (none)) else (none))) else (none)) else (none)) else (none)) else (none)) else (none)))) else (none))) else (none)) else (none)) else (none))))) = some r := H
                    have A24 := Aside0.mk A240
                    clear A240
                    replace H := Option.bind_eq_some_iff.mp H
                    obtain ⟨⟨t217, t218⟩, A250, H⟩ := H
                    replace H : ((impl_EndTemperature.f k t191 t192 t193 t194 t195 t196 (wrap64 (2 * (wrap64 (1 + t198)))) (wrap64 (3000 + t207)) t208).bind fun bt219 => ((impl_HeatFlow.f (wrap64 (1 + t198)) (wrap64 (3000 + t207)) t213).bind fun bt221 => (if t210 = 0 then (if t212 = 0 then (if t211 = (wrap64 (-t209)) then (if t209 < 0 then (none) else (if t214 = 0 then (if t213 > (wrap64 (3000 + t207)) then (none) else (if t213 < t208 then (none) else (if t216 = 0 then (if t215 = t208 then (if t218 = 0 then (if t217 = t208 then (if bt221.2 = 0 then (if bt221.1 < 0 then (none) else (if bt219.2 = 0 then (if bt219.1 ≥ t213 then (some (decide (bt219.1 ≤ (wrap64 (3000 + t207))))) else (none)) else (none))) else (none)) else (none)) else (none)) else (none)) else (none)))) else (none))) else (none)) else (none)) else (none)))) = some r := H
                    have A25 := Aside0.mk A250
                    clear A250
                    replace H := Option.bind_eq_some_iff.mp H
                    obtain ⟨⟨t219, t220⟩, A260, H⟩ := H
                    replace H : ((impl_HeatFlow.f (wrap64 (1 + t198)) (wrap64 (3000 + t207)) t213).bind fun bt221 => (if t210 = 0 then (if t212 = 0 then (if t211 = (wrap64 (-t209)) then (if t209 < 0 then (none) else (if t214 = 0 then (if t213 > (wrap64 (3000 + t207)) then (none) else (if t213 < t208 then (none) else (if t216 = 0 then (if t215 = t208 then (if t218 = 0 then (if t217 = t208 then (if bt221.2 = 0 then (if bt221.1 < 0 then (none) else (if t220 = 0 then (if t219 ≥ t213 then (some (decide (t219 ≤ (wrap64 (3000 + t207))))) else (none)) else (none))) else (none)) else (none)) else (none)) else (none)) else (none)))) else (none))) else (none)) else (none)) else (none))) = some r := H
                    have A26 := Aside0.mk A260
                    clear A260
                    replace H := Option.bind_eq_some_iff.mp H
                    obtain ⟨⟨t221, t222⟩, A270, H⟩ := H
                    replace H : (if t210 = 0 then (if t212 = 0 then (if t211 = (wrap64 (-t209)) then (if t209 < 0 then (none) else (if t214 = 0 then (if t213 > (wrap64 (3000 + t207)) then (none) else (if t213 < t208 then (none) else (if t216 = 0 then (if t215 = t208 then (if t218 = 0 then (if t217 = t208 then (if t222 = 0 then (if t221 < 0 then (none) else (if t220 = 0 then (if t219 ≥ t213 then (some (decide (t219 ≤ (wrap64 (3000 + t207))))) else (none)) else (none))) else (none)) else (none)) else (none)) else (none)) else (none)))) else (none))) else (none)) else (none)) else (none)) = some r := H
                    have A27 := Aside0.mk A270
                    clear A270
                    by_cases c28 : t210 = 0
                    · rw [if_pos c28] at H
                      have c28b0 : (t210 == 0) = true := beq_iff_eq.mpr c28
                      have c28b1 : (t210 != 0) = false := bne_eq_false_iff_eq.mpr c28
                      clear c28
                      by_cases c29 : t212 = 0
                      · rw [if_pos c29] at H
                        have c29b0 : (t212 == 0) = true := beq_iff_eq.mpr c29
                        have c29b1 : (t212 != 0) = false := bne_eq_false_iff_eq.mpr c29
                        clear c29
                        by_cases c30 : t211 = (wrap64 (-t209))
                        · rw [if_pos c30] at H
                          have c30b0 : (t211 == (wrap64 (-t209))) = true := beq_iff_eq.mpr c30
                          have c30b1 : (t211 != (wrap64 (-t209))) = false := bne_eq_false_iff_eq.mpr c30
                          clear c30
                          by_cases c31 : t209 < 0
                          · rw [if_pos c31] at H
                            exact absurd H (by simp)
                          · rw [if_neg c31] at H
                            have c31b0 : decide (t209 < 0) = false := decide_eq_false c31
                            clear c31
                            by_cases c32 : t214 = 0
                            · rw [if_pos c32] at H
                              have c32b0 : (t214 == 0) = true := beq_iff_eq.mpr c32
                              have c32b1 : (t214 != 0) = false := bne_eq_false_iff_eq.mpr c32
                              clear c32
                              by_cases c33 : t213 > (wrap64 (3000 + t207))
                              · rw [if_pos c33] at H
                                exact absurd H (by simp)
                              · rw [if_neg c33] at H
                                have c33b0 : decide ((wrap64 (3000 + t207)) < t213) = false := decide_eq_false c33
                                clear c33
                                by_cases c34 : t213 < t208
                                · rw [if_pos c34] at H
                                  exact absurd H (by simp)
                                · rw [if_neg c34] at H
                                  have c34b0 : decide (t213 < t208) = false := decide_eq_false c34
                                  clear c34
                                  by_cases c35 : t216 = 0
                                  · rw [if_pos c35] at H
                                    have c35b0 : (t216 == 0) = true := beq_iff_eq.mpr c35
                                    have c35b1 : (t216 != 0) = false := bne_eq_false_iff_eq.mpr c35
                                    clear c35
                                    by_cases c36 : t215 = t208
                                    · rw [if_pos c36] at H
                                      have c36b0 : (t215 == t208) = true := beq_iff_eq.mpr c36
                                      have c36b1 : (t215 != t208) = false := bne_eq_false_iff_eq.mpr c36
                                      clear c36
                                      by_cases c37 : t218 = 0
                                      · rw [if_pos c37] at H
                                        have c37b0 : (t218 == 0) = true := beq_iff_eq.mpr c37
                                        have c37b1 : (t218 != 0) = false := bne_eq_false_iff_eq.mpr c37
                                        clear c37
                                        by_cases c38 : t217 = t208
                                        · rw [if_pos c38] at H
                                          have c38b0 : (t217 == t208) = true := beq_iff_eq.mpr c38
                                          have c38b1 : (t217 != t208) = false := bne_eq_false_iff_eq.mpr c38
                                          clear c38
                                          by_cases c39 : t222 = 0
                                          · rw [if_pos c39] at H
                                            have c39b0 : (t222 == 0) = true := beq_iff_eq.mpr c39
                                            have c39b1 : (t222 != 0) = false := bne_eq_false_iff_eq.mpr c39
                                            clear c39
                                            by_cases c40 : t221 < 0
                                            · rw [if_pos c40] at H
                                              exact absurd H (by simp)
                                            · rw [if_neg c40] at H
                                              have c40b0 : decide (t221 < 0) = false := decide_eq_false c40
                                              clear c40
                                              by_cases c41 : t220 = 0
                                              · rw [if_pos c41] at H
                                                have c41b0 : (t220 == 0) = true := beq_iff_eq.mpr c41
                                                have c41b1 : (t220 != 0) = false := bne_eq_false_iff_eq.mpr c41
                                                clear c41
                                                by_cases c42 : t219 ≥ t213
                                                · rw [if_pos c42] at H
                                                  have c42b0 : decide (t213 ≤ t219) = true := decide_eq_true c42
                                                  clear c42
                                                  obtain rfl := Option.some.inj H
                                                  go_enter Try.func3, Try.ntmps3
                                                  go_wp2_with (first | ((with_reducible refine gate_callee (f := 4) rfl ?_); refine goesL_ (some 33) rfl rfl Try.func4 (by kernel_rfl) rfl #[.slice A0 l0.length c0, .slice A1 l1.length c1] rfl (by (try simp only [List.map_toArray, List.map_cons, List.map_nil]); first | done | rfl | (simp only [List.length_drop, List.length_take]; rfl)) ?_; (with_reducible refine (laws_r8Long.calls _ _ l0 _ _ l1 false _ ?side1 ?side2 ?side3 ?side4 A3.out).mono ?_); (case side1 => repeat (first | exact HR0.out | (with_reducible refine Kd.C_alloc ?_ _) | (with_reducible refine Kd.C_drewN ?_ _) | (with_reducible refine Kd.C_drew ?_))); (case side2 => exact HC0.out); (case side3 => repeat (first | exact HR1.out | (with_reducible refine Kd.C_alloc ?_ _) | (with_reducible refine Kd.C_drewN ?_ _) | (with_reducible refine Kd.C_drew ?_))); (case side4 => exact HC1.out); rintro e w' ⟨rfl, ⟨nd, rfl⟩⟩; refine ⟨_, rfl, ?_⟩) | ((with_reducible refine gate_callee (f := 5) rfl ?_); refine goesL_ (some 35) rfl rfl Try.func5 (by kernel_rfl) rfl #[.slice A0 l0.length c0] rfl (by (try simp only [List.map_toArray, List.map_cons, List.map_nil]); first | done | rfl | (simp only [List.length_drop, List.length_take]; rfl)) ?_; (with_reducible refine (spec_R8Pipe.calls _ _ l0 t191 t192 t193 t194 t195 t196 _ ?side1 ?side2 A5.out).mono ?_); (case side1 => repeat (first | exact HR0.out | (with_reducible refine Kd.C_alloc ?_ _) | (with_reducible refine Kd.C_drewN ?_ _) | (with_reducible refine Kd.C_drew ?_))); (case side2 => exact HC0.out); rintro e w43 ⟨rfl, hb⟩; refine ⟨_, rfl, ?_⟩; have n0_ := Aside0.mk (below_step (by repeat (first | (with_reducible first | exact HB.out | apply below_alloc | apply pw_below_drewN | apply below_drew1) | exact HB.out)) hb); clear HB; have HB := n0_; clear n0_; (try clear hb); (try clear hb2); (try clear hk); (try clear hi)) | ((with_reducible refine gate_dst (N := 5) rfl ?_); refine box_event ?hg (N := 5) ?hd (cs := #[.string (⟨#[]⟩ : ByteArray), .int .i64 0, .int .i64 0, .int .i64 0, .int .i64 0, .int .i64 0]) (t := 25) ?hr ?_; (case hd => rfl); (case hg => rfl); (case hr => first | (go_simp; done) | (go_simp; rfl)); intro gb197 hg w44 hbox hb; have n0_ := Aside0.mk (below_step (by repeat (first | (with_reducible first | exact HB.out | apply below_alloc | apply pw_below_drewN | apply below_drew1) | exact HB.out)) hb); have n1_ := Aside0.mk (hbox); have n2_ := Aside0.mk ((by rw [hg]; exact (below_size (by repeat (first | (with_reducible first | exact HB.out | apply below_alloc | apply pw_below_drewN | apply below_drew1) | exact HB.out))) : w.heap.size ≤ gb197)); have n3_ := Aside0.mk ((by rw [hg]; exact (below_size (by repeat (first | (with_reducible first | exact HB.out | apply below_alloc | apply pw_below_drewN | apply below_drew1) | exact HB.out))) : w.heap.size ≤ gb197)); clear HB; have HB := n0_; have BK197 := n1_; have GW197 := n2_; have GE197 := n3_; clear n0_ n1_ n2_ n3_; clear hb hbox hg; have hcz45_0 : w44.cell? ⟨gb197, 0, none⟩ = some (.string (⟨#[]⟩ : ByteArray)) := (blk_cell BK197.out 0).trans rfl; have hcz45_1 : w44.cell? ⟨gb197, 1, none⟩ = some (.int .i64 0) := (blk_cell BK197.out 1).trans rfl; have hcz45_2 : w44.cell? ⟨gb197, 2, none⟩ = some (.int .i64 0) := (blk_cell BK197.out 2).trans rfl; have hcz45_3 : w44.cell? ⟨gb197, 3, none⟩ = some (.int .i64 0) := (blk_cell BK197.out 3).trans rfl; have hcz45_4 : w44.cell? ⟨gb197, 4, none⟩ = some (.int .i64 0) := (blk_cell BK197.out 4).trans rfl; have hcz45_5 : w44.cell? ⟨gb197, 5, none⟩ = some (.int .i64 0) := (blk_cell BK197.out 5).trans rfl; have hfz45_0 := blk_frozen BK197.out 0; have hfz45_1 := blk_frozen BK197.out 1; have hfz45_2 := blk_frozen BK197.out 2; have hfz45_3 := blk_frozen BK197.out 3; have hfz45_4 := blk_frozen BK197.out 4; have hfz45_5 := blk_frozen BK197.out 5) | ((with_reducible refine gate_callee (f := 6) rfl ?_); refine goesL_ (some 37) rfl rfl Try.func6 (by kernel_rfl) rfl #[.slice A1 l1.length c1, .int .i64 0, .int .i64 20000] rfl (by (try simp only [List.map_toArray, List.map_cons, List.map_nil]); first | done | rfl | (simp only [List.length_drop, List.length_take]; rfl)) ?_; (with_reducible refine (laws_r8Wide.calls _ _ l1 0 20000 t198 _ ?side1 ?side2 A6.out).mono ?_); (case side1 => exact Kd.C_below HR1.out (by repeat (first | (with_reducible first | exact HB.out | apply below_alloc | apply pw_below_drewN | apply below_drew1 | refine below_set ?_ GE197.out) | exact HB.out))); (case side2 => exact HC1.out); rintro e w' ⟨rfl, ⟨nd, rfl⟩⟩; refine ⟨_, rfl, ?_⟩) | ((with_reducible refine gate_callee (f := 7) rfl ?_); refine goesL_ (some 41) rfl rfl Try.func7 (by kernel_rfl) rfl #[.agg #[.string t191, .int .i64 t192, .int .i64 t193, .int .i64 t194, .int .i64 t195, .int .i64 t196]] rfl (by (try simp only [List.map_toArray, List.map_cons, List.map_nil]); first | done | rfl | (simp only [List.length_drop, List.length_take]; rfl)) ?_; (with_reducible refine (impl_WaterIn.calls k t191 t192 t193 t194 t195 t196 t199 t200 _ A7.out).mono ?_); rintro e w46 ⟨rfl, hb⟩; refine ⟨_, rfl, ?_⟩; have n0_ := Aside0.mk (blk_below (g := gb197) (o := .cells #[.string t191, .int .i64 t192, .int .i64 t193, .int .i64 t194, .int .i64 t195, .int .i64 t196] 25 (0, 0)) (by (with_reducible repeat (first | refine blk_drewN ?_ _ | refine blk_drew ?_ | refine blk_alloc ?_ _)); refine blk_put (cs := #[.string t191, .int .i64 t192, .int .i64 t193, .int .i64 t194, .int .i64 t195, .int .i64 0]) ?_ 5 _ rfl; (with_reducible repeat (first | refine blk_drewN ?_ _ | refine blk_drew ?_ | refine blk_alloc ?_ _)); refine blk_put (cs := #[.string t191, .int .i64 t192, .int .i64 t193, .int .i64 t194, .int .i64 0, .int .i64 0]) ?_ 4 _ rfl; (with_reducible repeat (first | refine blk_drewN ?_ _ | refine blk_drew ?_ | refine blk_alloc ?_ _)); refine blk_put (cs := #[.string t191, .int .i64 t192, .int .i64 t193, .int .i64 0, .int .i64 0, .int .i64 0]) ?_ 3 _ rfl; (with_reducible repeat (first | refine blk_drewN ?_ _ | refine blk_drew ?_ | refine blk_alloc ?_ _)); refine blk_put (cs := #[.string t191, .int .i64 t192, .int .i64 0, .int .i64 0, .int .i64 0, .int .i64 0]) ?_ 2 _ rfl; (with_reducible repeat (first | refine blk_drewN ?_ _ | refine blk_drew ?_ | refine blk_alloc ?_ _)); refine blk_put (cs := #[.string t191, .int .i64 0, .int .i64 0, .int .i64 0, .int .i64 0, .int .i64 0]) ?_ 1 _ rfl; (with_reducible repeat (first | refine blk_drewN ?_ _ | refine blk_drew ?_ | refine blk_alloc ?_ _)); refine blk_put (cs := #[.string (⟨#[]⟩ : ByteArray), .int .i64 0, .int .i64 0, .int .i64 0, .int .i64 0, .int .i64 0]) ?_ 0 _ rfl; (with_reducible repeat (first | refine blk_drewN ?_ _ | refine blk_drew ?_ | refine blk_alloc ?_ _)); exact BK197.out) hb); have n1_ := Aside0.mk (below_step (by repeat (first | (with_reducible first | exact HB.out | apply below_alloc | apply pw_below_drewN | apply below_drew1 | refine below_set ?_ GE197.out) | exact HB.out)) hb); clear BK197; clear HB; have BK197 := n0_; have HB := n1_; clear n0_ n1_; (try clear hb); (try clear hb2); (try clear hk); (try clear hi); have hcz47_0 : w46.cell? ⟨gb197, 0, none⟩ = some (.string t191) := (blk_cell BK197.out 0).trans rfl; have hcz47_1 : w46.cell? ⟨gb197, 1, none⟩ = some (.int .i64 t192) := (blk_cell BK197.out 1).trans rfl; have hcz47_2 : w46.cell? ⟨gb197, 2, none⟩ = some (.int .i64 t193) := (blk_cell BK197.out 2).trans rfl; have hcz47_3 : w46.cell? ⟨gb197, 3, none⟩ = some (.int .i64 t194) := (blk_cell BK197.out 3).trans rfl; have hcz47_4 : w46.cell? ⟨gb197, 4, none⟩ = some (.int .i64 t195) := (blk_cell BK197.out 4).trans rfl; have hcz47_5 : w46.cell? ⟨gb197, 5, none⟩ = some (.int .i64 t196) := (blk_cell BK197.out 5).trans rfl; have hfz47_0 := blk_frozen BK197.out 0; have hfz47_1 := blk_frozen BK197.out 1; have hfz47_2 := blk_frozen BK197.out 2; have hfz47_3 := blk_frozen BK197.out 3; have hfz47_4 := blk_frozen BK197.out 4; have hfz47_5 := blk_frozen BK197.out 5) | ((with_reducible refine gate_callee (f := 8) rfl ?_); refine goesL_ (some 47) rfl rfl Try.func8 (by kernel_rfl) rfl #[.agg #[.string t191, .int .i64 t192, .int .i64 t193, .int .i64 t194, .int .i64 t195, .int .i64 t196], .int .i64 (wrap64 (1 + t198))] rfl (by (try simp only [List.map_toArray, List.map_cons, List.map_nil]); first | done | rfl | (simp only [List.length_drop, List.length_take]; rfl)) ?_; (with_reducible refine (impl_DelayOf.calls k t191 t192 t193 t194 t195 t196 (wrap64 (1 + t198)) t201 t202 _ A8.out).mono ?_); rintro e w48 ⟨rfl, hb⟩; refine ⟨_, rfl, ?_⟩; have n0_ := Aside0.mk (blk_below (g := gb197) (o := .cells #[.string t191, .int .i64 t192, .int .i64 t193, .int .i64 t194, .int .i64 t195, .int .i64 t196] 25 (0, 0)) (by (with_reducible repeat (first | refine blk_drewN ?_ _ | refine blk_drew ?_ | refine blk_alloc ?_ _)); exact BK197.out) hb); have n1_ := Aside0.mk (below_step (by repeat (first | (with_reducible first | exact HB.out | apply below_alloc | apply pw_below_drewN | apply below_drew1 | refine below_set ?_ GE197.out) | exact HB.out)) hb); clear BK197; clear HB; have BK197 := n0_; have HB := n1_; clear n0_ n1_; (try clear hb); (try clear hb2); (try clear hk); (try clear hi); have hcz49_0 : w48.cell? ⟨gb197, 0, none⟩ = some (.string t191) := (blk_cell BK197.out 0).trans rfl; have hcz49_1 : w48.cell? ⟨gb197, 1, none⟩ = some (.int .i64 t192) := (blk_cell BK197.out 1).trans rfl; have hcz49_2 : w48.cell? ⟨gb197, 2, none⟩ = some (.int .i64 t193) := (blk_cell BK197.out 2).trans rfl; have hcz49_3 : w48.cell? ⟨gb197, 3, none⟩ = some (.int .i64 t194) := (blk_cell BK197.out 3).trans rfl; have hcz49_4 : w48.cell? ⟨gb197, 4, none⟩ = some (.int .i64 t195) := (blk_cell BK197.out 4).trans rfl; have hcz49_5 : w48.cell? ⟨gb197, 5, none⟩ = some (.int .i64 t196) := (blk_cell BK197.out 5).trans rfl; have hfz49_0 := blk_frozen BK197.out 0; have hfz49_1 := blk_frozen BK197.out 1; have hfz49_2 := blk_frozen BK197.out 2; have hfz49_3 := blk_frozen BK197.out 3; have hfz49_4 := blk_frozen BK197.out 4; have hfz49_5 := blk_frozen BK197.out 5) | ((with_reducible refine gate_callee (f := 8) rfl ?_); refine goesL_ (some 54) rfl rfl Try.func8 (by kernel_rfl) rfl #[.agg #[.string t191, .int .i64 t192, .int .i64 t193, .int .i64 t194, .int .i64 t195, .int .i64 t196], .int .i64 (wrap64 (-(wrap64 (1 + t198))))] rfl (by (try simp only [List.map_toArray, List.map_cons, List.map_nil]); first | done | rfl | (simp only [List.length_drop, List.length_take]; rfl)) ?_; (with_reducible refine (impl_DelayOf.calls k t191 t192 t193 t194 t195 t196 (wrap64 (-(wrap64 (1 + t198)))) t203 t204 _ A9.out).mono ?_); rintro e w50 ⟨rfl, hb⟩; refine ⟨_, rfl, ?_⟩; have n0_ := Aside0.mk (blk_below (g := gb197) (o := .cells #[.string t191, .int .i64 t192, .int .i64 t193, .int .i64 t194, .int .i64 t195, .int .i64 t196] 25 (0, 0)) (by (with_reducible repeat (first | refine blk_drewN ?_ _ | refine blk_drew ?_ | refine blk_alloc ?_ _)); exact BK197.out) hb); have n1_ := Aside0.mk (below_step (by repeat (first | (with_reducible first | exact HB.out | apply below_alloc | apply pw_below_drewN | apply below_drew1 | refine below_set ?_ GE197.out) | exact HB.out)) hb); clear BK197; clear HB; have BK197 := n0_; have HB := n1_; clear n0_ n1_; (try clear hb); (try clear hb2); (try clear hk); (try clear hi); have hcz51_0 : w50.cell? ⟨gb197, 0, none⟩ = some (.string t191) := (blk_cell BK197.out 0).trans rfl; have hcz51_1 : w50.cell? ⟨gb197, 1, none⟩ = some (.int .i64 t192) := (blk_cell BK197.out 1).trans rfl; have hcz51_2 : w50.cell? ⟨gb197, 2, none⟩ = some (.int .i64 t193) := (blk_cell BK197.out 2).trans rfl; have hcz51_3 : w50.cell? ⟨gb197, 3, none⟩ = some (.int .i64 t194) := (blk_cell BK197.out 3).trans rfl; have hcz51_4 : w50.cell? ⟨gb197, 4, none⟩ = some (.int .i64 t195) := (blk_cell BK197.out 4).trans rfl; have hcz51_5 : w50.cell? ⟨gb197, 5, none⟩ = some (.int .i64 t196) := (blk_cell BK197.out 5).trans rfl; have hfz51_0 := blk_frozen BK197.out 0; have hfz51_1 := blk_frozen BK197.out 1; have hfz51_2 := blk_frozen BK197.out 2; have hfz51_3 := blk_frozen BK197.out 3; have hfz51_4 := blk_frozen BK197.out 4; have hfz51_5 := blk_frozen BK197.out 5) | ((with_reducible refine gate_callee (f := 9) rfl ?_); refine goesL_ (some 60) rfl rfl Try.func9 (by kernel_rfl) rfl #[.agg #[.string t191, .int .i64 t192, .int .i64 t193, .int .i64 t194, .int .i64 t195, .int .i64 t196], .int .i64 (wrap64 (1 + t198))] rfl (by (try simp only [List.map_toArray, List.map_cons, List.map_nil]); first | done | rfl | (simp only [List.length_drop, List.length_take]; rfl)) ?_; (with_reducible refine (impl_SpeedOf.calls k t191 t192 t193 t194 t195 t196 (wrap64 (1 + t198)) t205 t206 _ A10.out).mono ?_); rintro e w52 ⟨rfl, hb⟩; refine ⟨_, rfl, ?_⟩; have n0_ := Aside0.mk (blk_below (g := gb197) (o := .cells #[.string t191, .int .i64 t192, .int .i64 t193, .int .i64 t194, .int .i64 t195, .int .i64 t196] 25 (0, 0)) (by (with_reducible repeat (first | refine blk_drewN ?_ _ | refine blk_drew ?_ | refine blk_alloc ?_ _)); exact BK197.out) hb); have n1_ := Aside0.mk (below_step (by repeat (first | (with_reducible first | exact HB.out | apply below_alloc | apply pw_below_drewN | apply below_drew1 | refine below_set ?_ GE197.out) | exact HB.out)) hb); clear BK197; clear HB; have BK197 := n0_; have HB := n1_; clear n0_ n1_; (try clear hb); (try clear hb2); (try clear hk); (try clear hi)) | ((with_reducible refine gate_callee (f := 6) rfl ?_); refine goesL_ (some 102) rfl rfl Try.func6 (by kernel_rfl) rfl #[.slice A1 l1.length c1, .int .i64 2, .int .i64 9000] rfl (by (try simp only [List.map_toArray, List.map_cons, List.map_nil]); first | done | rfl | (simp only [List.length_drop, List.length_take]; rfl)) ?_; (with_reducible refine (laws_r8Wide.calls _ _ l1 2 9000 t207 _ ?side1 ?side2 A19.out).mono ?_); (case side1 => repeat (first | exact (Kd.C_below HR1.out HB.out) | (with_reducible refine Kd.C_alloc ?_ _) | (with_reducible refine Kd.C_drewN ?_ _) | (with_reducible refine Kd.C_drew ?_))); (case side2 => exact HC1.out); rintro e w' ⟨rfl, ⟨nd, rfl⟩⟩; refine ⟨_, rfl, ?_⟩) | ((with_reducible refine gate_callee (f := 6) rfl ?_); refine goesL_ (some 105) rfl rfl Try.func6 (by kernel_rfl) rfl #[.slice A1 l1.length c1, .int .i64 4, .int .i64 2000] rfl (by (try simp only [List.map_toArray, List.map_cons, List.map_nil]); first | done | rfl | (simp only [List.length_drop, List.length_take]; rfl)) ?_; (with_reducible refine (laws_r8Wide.calls _ _ l1 4 2000 t208 _ ?side1 ?side2 A20.out).mono ?_); (case side1 => repeat (first | exact (Kd.C_below HR1.out (by repeat (first | (with_reducible first | exact HB.out | apply below_alloc | apply pw_below_drewN | apply below_drew1 | refine below_set ?_ GE197.out) | exact HB.out))) | (with_reducible refine Kd.C_alloc ?_ _) | (with_reducible refine Kd.C_drewN ?_ _) | (with_reducible refine Kd.C_drew ?_))); (case side2 => exact HC1.out); rintro e w' ⟨rfl, ⟨nd, rfl⟩⟩; refine ⟨_, rfl, ?_⟩; have hcz53_0 : w52.cell? ⟨gb197, 0, none⟩ = some (.string t191) := (blk_cell BK197.out 0).trans rfl; have hcz53_1 : w52.cell? ⟨gb197, 1, none⟩ = some (.int .i64 t192) := (blk_cell BK197.out 1).trans rfl; have hcz53_2 : w52.cell? ⟨gb197, 2, none⟩ = some (.int .i64 t193) := (blk_cell BK197.out 2).trans rfl; have hcz53_3 : w52.cell? ⟨gb197, 3, none⟩ = some (.int .i64 t194) := (blk_cell BK197.out 3).trans rfl; have hcz53_4 : w52.cell? ⟨gb197, 4, none⟩ = some (.int .i64 t195) := (blk_cell BK197.out 4).trans rfl; have hcz53_5 : w52.cell? ⟨gb197, 5, none⟩ = some (.int .i64 t196) := (blk_cell BK197.out 5).trans rfl; have hfz53_0 := blk_frozen BK197.out 0; have hfz53_1 := blk_frozen BK197.out 1; have hfz53_2 := blk_frozen BK197.out 2; have hfz53_3 := blk_frozen BK197.out 3; have hfz53_4 := blk_frozen BK197.out 4; have hfz53_5 := blk_frozen BK197.out 5) | ((with_reducible refine gate_callee (f := 10) rfl ?_); refine goesL_ (some 110) rfl rfl Try.func10 (by kernel_rfl) rfl #[.agg #[.string t191, .int .i64 t192, .int .i64 t193, .int .i64 t194, .int .i64 t195, .int .i64 t196], .int .i64 (wrap64 (3000 + t207)), .int .i64 t208] rfl (by (try simp only [List.map_toArray, List.map_cons, List.map_nil]); first | done | rfl | (simp only [List.length_drop, List.length_take]; rfl)) ?_; (with_reducible refine (impl_LossOf.calls k t191 t192 t193 t194 t195 t196 (wrap64 (3000 + t207)) t208 t209 t210 _ A21.out).mono ?_); rintro e w54 ⟨rfl, hb⟩; refine ⟨_, rfl, ?_⟩; have n0_ := Aside0.mk (blk_below (g := gb197) (o := .cells #[.string t191, .int .i64 t192, .int .i64 t193, .int .i64 t194, .int .i64 t195, .int .i64 t196] 25 (0, 0)) (by (with_reducible repeat (first | refine blk_drewN ?_ _ | refine blk_drew ?_ | refine blk_alloc ?_ _)); exact BK197.out) hb); have n1_ := Aside0.mk (below_step (by repeat (first | (with_reducible first | exact HB.out | apply below_alloc | apply pw_below_drewN | apply below_drew1 | refine below_set ?_ GE197.out) | exact HB.out)) hb); clear BK197; clear HB; have BK197 := n0_; have HB := n1_; clear n0_ n1_; (try clear hb); (try clear hb2); (try clear hk); (try clear hi); have hcz55_0 : w54.cell? ⟨gb197, 0, none⟩ = some (.string t191) := (blk_cell BK197.out 0).trans rfl; have hcz55_1 : w54.cell? ⟨gb197, 1, none⟩ = some (.int .i64 t192) := (blk_cell BK197.out 1).trans rfl; have hcz55_2 : w54.cell? ⟨gb197, 2, none⟩ = some (.int .i64 t193) := (blk_cell BK197.out 2).trans rfl; have hcz55_3 : w54.cell? ⟨gb197, 3, none⟩ = some (.int .i64 t194) := (blk_cell BK197.out 3).trans rfl; have hcz55_4 : w54.cell? ⟨gb197, 4, none⟩ = some (.int .i64 t195) := (blk_cell BK197.out 4).trans rfl; have hcz55_5 : w54.cell? ⟨gb197, 5, none⟩ = some (.int .i64 t196) := (blk_cell BK197.out 5).trans rfl; have hfz55_0 := blk_frozen BK197.out 0; have hfz55_1 := blk_frozen BK197.out 1; have hfz55_2 := blk_frozen BK197.out 2; have hfz55_3 := blk_frozen BK197.out 3; have hfz55_4 := blk_frozen BK197.out 4; have hfz55_5 := blk_frozen BK197.out 5) | ((with_reducible refine gate_callee (f := 10) rfl ?_); refine goesL_ (some 117) rfl rfl Try.func10 (by kernel_rfl) rfl #[.agg #[.string t191, .int .i64 t192, .int .i64 t193, .int .i64 t194, .int .i64 t195, .int .i64 t196], .int .i64 t208, .int .i64 (wrap64 (3000 + t207))] rfl (by (try simp only [List.map_toArray, List.map_cons, List.map_nil]); first | done | rfl | (simp only [List.length_drop, List.length_take]; rfl)) ?_; (with_reducible refine (impl_LossOf.calls k t191 t192 t193 t194 t195 t196 t208 (wrap64 (3000 + t207)) t211 t212 _ A22.out).mono ?_); rintro e w56 ⟨rfl, hb⟩; refine ⟨_, rfl, ?_⟩; have n0_ := Aside0.mk (blk_below (g := gb197) (o := .cells #[.string t191, .int .i64 t192, .int .i64 t193, .int .i64 t194, .int .i64 t195, .int .i64 t196] 25 (0, 0)) (by (with_reducible repeat (first | refine blk_drewN ?_ _ | refine blk_drew ?_ | refine blk_alloc ?_ _)); exact BK197.out) hb); have n1_ := Aside0.mk (below_step (by repeat (first | (with_reducible first | exact HB.out | apply below_alloc | apply pw_below_drewN | apply below_drew1 | refine below_set ?_ GE197.out) | exact HB.out)) hb); clear BK197; clear HB; have BK197 := n0_; have HB := n1_; clear n0_ n1_; (try clear hb); (try clear hb2); (try clear hk); (try clear hi); have hcz57_0 : w56.cell? ⟨gb197, 0, none⟩ = some (.string t191) := (blk_cell BK197.out 0).trans rfl; have hcz57_1 : w56.cell? ⟨gb197, 1, none⟩ = some (.int .i64 t192) := (blk_cell BK197.out 1).trans rfl; have hcz57_2 : w56.cell? ⟨gb197, 2, none⟩ = some (.int .i64 t193) := (blk_cell BK197.out 2).trans rfl; have hcz57_3 : w56.cell? ⟨gb197, 3, none⟩ = some (.int .i64 t194) := (blk_cell BK197.out 3).trans rfl; have hcz57_4 : w56.cell? ⟨gb197, 4, none⟩ = some (.int .i64 t195) := (blk_cell BK197.out 4).trans rfl; have hcz57_5 : w56.cell? ⟨gb197, 5, none⟩ = some (.int .i64 t196) := (blk_cell BK197.out 5).trans rfl; have hfz57_0 := blk_frozen BK197.out 0; have hfz57_1 := blk_frozen BK197.out 1; have hfz57_2 := blk_frozen BK197.out 2; have hfz57_3 := blk_frozen BK197.out 3; have hfz57_4 := blk_frozen BK197.out 4; have hfz57_5 := blk_frozen BK197.out 5) | ((with_reducible refine gate_callee (f := 11) rfl ?_); refine goesL_ (some 125) rfl rfl Try.func11 (by kernel_rfl) rfl #[.agg #[.string t191, .int .i64 t192, .int .i64 t193, .int .i64 t194, .int .i64 t195, .int .i64 t196], .int .i64 (wrap64 (1 + t198)), .int .i64 (wrap64 (3000 + t207)), .int .i64 t208] rfl (by (try simp only [List.map_toArray, List.map_cons, List.map_nil]); first | done | rfl | (simp only [List.length_drop, List.length_take]; rfl)) ?_; (with_reducible refine (impl_EndTemperature.calls k t191 t192 t193 t194 t195 t196 (wrap64 (1 + t198)) (wrap64 (3000 + t207)) t208 t213 t214 _ A23.out).mono ?_); rintro e w58 ⟨rfl, hb⟩; refine ⟨_, rfl, ?_⟩; have n0_ := Aside0.mk (blk_below (g := gb197) (o := .cells #[.string t191, .int .i64 t192, .int .i64 t193, .int .i64 t194, .int .i64 t195, .int .i64 t196] 25 (0, 0)) (by (with_reducible repeat (first | refine blk_drewN ?_ _ | refine blk_drew ?_ | refine blk_alloc ?_ _)); exact BK197.out) hb); have n1_ := Aside0.mk (below_step (by repeat (first | (with_reducible first | exact HB.out | apply below_alloc | apply pw_below_drewN | apply below_drew1 | refine below_set ?_ GE197.out) | exact HB.out)) hb); clear BK197; clear HB; have BK197 := n0_; have HB := n1_; clear n0_ n1_; (try clear hb); (try clear hb2); (try clear hk); (try clear hi); have hcz59_0 : w58.cell? ⟨gb197, 0, none⟩ = some (.string t191) := (blk_cell BK197.out 0).trans rfl; have hcz59_1 : w58.cell? ⟨gb197, 1, none⟩ = some (.int .i64 t192) := (blk_cell BK197.out 1).trans rfl; have hcz59_2 : w58.cell? ⟨gb197, 2, none⟩ = some (.int .i64 t193) := (blk_cell BK197.out 2).trans rfl; have hcz59_3 : w58.cell? ⟨gb197, 3, none⟩ = some (.int .i64 t194) := (blk_cell BK197.out 3).trans rfl; have hcz59_4 : w58.cell? ⟨gb197, 4, none⟩ = some (.int .i64 t195) := (blk_cell BK197.out 4).trans rfl; have hcz59_5 : w58.cell? ⟨gb197, 5, none⟩ = some (.int .i64 t196) := (blk_cell BK197.out 5).trans rfl; have hfz59_0 := blk_frozen BK197.out 0; have hfz59_1 := blk_frozen BK197.out 1; have hfz59_2 := blk_frozen BK197.out 2; have hfz59_3 := blk_frozen BK197.out 3; have hfz59_4 := blk_frozen BK197.out 4; have hfz59_5 := blk_frozen BK197.out 5) | ((with_reducible refine gate_callee (f := 11) rfl ?_); refine goesL_ (some 133) rfl rfl Try.func11 (by kernel_rfl) rfl #[.agg #[.string t191, .int .i64 t192, .int .i64 t193, .int .i64 t194, .int .i64 t195, .int .i64 t196], .int .i64 (wrap64 (1 + t198)), .int .i64 t208, .int .i64 t208] rfl (by (try simp only [List.map_toArray, List.map_cons, List.map_nil]); first | done | rfl | (simp only [List.length_drop, List.length_take]; rfl)) ?_; (with_reducible refine (impl_EndTemperature.calls k t191 t192 t193 t194 t195 t196 (wrap64 (1 + t198)) t208 t208 t215 t216 _ A24.out).mono ?_); rintro e w60 ⟨rfl, hb⟩; refine ⟨_, rfl, ?_⟩; have n0_ := Aside0.mk (blk_below (g := gb197) (o := .cells #[.string t191, .int .i64 t192, .int .i64 t193, .int .i64 t194, .int .i64 t195, .int .i64 t196] 25 (0, 0)) (by (with_reducible repeat (first | refine blk_drewN ?_ _ | refine blk_drew ?_ | refine blk_alloc ?_ _)); exact BK197.out) hb); have n1_ := Aside0.mk (below_step (by repeat (first | (with_reducible first | exact HB.out | apply below_alloc | apply pw_below_drewN | apply below_drew1 | refine below_set ?_ GE197.out) | exact HB.out)) hb); clear BK197; clear HB; have BK197 := n0_; have HB := n1_; clear n0_ n1_; (try clear hb); (try clear hb2); (try clear hk); (try clear hi); have hcz61_0 : w60.cell? ⟨gb197, 0, none⟩ = some (.string t191) := (blk_cell BK197.out 0).trans rfl; have hcz61_1 : w60.cell? ⟨gb197, 1, none⟩ = some (.int .i64 t192) := (blk_cell BK197.out 1).trans rfl; have hcz61_2 : w60.cell? ⟨gb197, 2, none⟩ = some (.int .i64 t193) := (blk_cell BK197.out 2).trans rfl; have hcz61_3 : w60.cell? ⟨gb197, 3, none⟩ = some (.int .i64 t194) := (blk_cell BK197.out 3).trans rfl; have hcz61_4 : w60.cell? ⟨gb197, 4, none⟩ = some (.int .i64 t195) := (blk_cell BK197.out 4).trans rfl; have hcz61_5 : w60.cell? ⟨gb197, 5, none⟩ = some (.int .i64 t196) := (blk_cell BK197.out 5).trans rfl; have hfz61_0 := blk_frozen BK197.out 0; have hfz61_1 := blk_frozen BK197.out 1; have hfz61_2 := blk_frozen BK197.out 2; have hfz61_3 := blk_frozen BK197.out 3; have hfz61_4 := blk_frozen BK197.out 4; have hfz61_5 := blk_frozen BK197.out 5) | ((with_reducible refine gate_callee (f := 11) rfl ?_); refine goesL_ (some 140) rfl rfl Try.func11 (by kernel_rfl) rfl #[.agg #[.string t191, .int .i64 t192, .int .i64 t193, .int .i64 t194, .int .i64 t195, .int .i64 t196], .int .i64 0, .int .i64 (wrap64 (3000 + t207)), .int .i64 t208] rfl (by (try simp only [List.map_toArray, List.map_cons, List.map_nil]); first | done | rfl | (simp only [List.length_drop, List.length_take]; rfl)) ?_; (with_reducible refine (impl_EndTemperature.calls k t191 t192 t193 t194 t195 t196 0 (wrap64 (3000 + t207)) t208 t217 t218 _ A25.out).mono ?_); rintro e w62 ⟨rfl, hb⟩; refine ⟨_, rfl, ?_⟩; have n0_ := Aside0.mk (blk_below (g := gb197) (o := .cells #[.string t191, .int .i64 t192, .int .i64 t193, .int .i64 t194, .int .i64 t195, .int .i64 t196] 25 (0, 0)) (by (with_reducible repeat (first | refine blk_drewN ?_ _ | refine blk_drew ?_ | refine blk_alloc ?_ _)); exact BK197.out) hb); have n1_ := Aside0.mk (below_step (by repeat (first | (with_reducible first | exact HB.out | apply below_alloc | apply pw_below_drewN | apply below_drew1 | refine below_set ?_ GE197.out) | exact HB.out)) hb); clear BK197; clear HB; have BK197 := n0_; have HB := n1_; clear n0_ n1_; (try clear hb); (try clear hb2); (try clear hk); (try clear hi); have hcz63_0 : w62.cell? ⟨gb197, 0, none⟩ = some (.string t191) := (blk_cell BK197.out 0).trans rfl; have hcz63_1 : w62.cell? ⟨gb197, 1, none⟩ = some (.int .i64 t192) := (blk_cell BK197.out 1).trans rfl; have hcz63_2 : w62.cell? ⟨gb197, 2, none⟩ = some (.int .i64 t193) := (blk_cell BK197.out 2).trans rfl; have hcz63_3 : w62.cell? ⟨gb197, 3, none⟩ = some (.int .i64 t194) := (blk_cell BK197.out 3).trans rfl; have hcz63_4 : w62.cell? ⟨gb197, 4, none⟩ = some (.int .i64 t195) := (blk_cell BK197.out 4).trans rfl; have hcz63_5 : w62.cell? ⟨gb197, 5, none⟩ = some (.int .i64 t196) := (blk_cell BK197.out 5).trans rfl; have hfz63_0 := blk_frozen BK197.out 0; have hfz63_1 := blk_frozen BK197.out 1; have hfz63_2 := blk_frozen BK197.out 2; have hfz63_3 := blk_frozen BK197.out 3; have hfz63_4 := blk_frozen BK197.out 4; have hfz63_5 := blk_frozen BK197.out 5) | ((with_reducible refine gate_callee (f := 11) rfl ?_); refine goesL_ (some 149) rfl rfl Try.func11 (by kernel_rfl) rfl #[.agg #[.string t191, .int .i64 t192, .int .i64 t193, .int .i64 t194, .int .i64 t195, .int .i64 t196], .int .i64 (wrap64 (2 * (wrap64 (1 + t198)))), .int .i64 (wrap64 (3000 + t207)), .int .i64 t208] rfl (by (try simp only [List.map_toArray, List.map_cons, List.map_nil]); first | done | rfl | (simp only [List.length_drop, List.length_take]; rfl)) ?_; (with_reducible refine (impl_EndTemperature.calls k t191 t192 t193 t194 t195 t196 (wrap64 (2 * (wrap64 (1 + t198)))) (wrap64 (3000 + t207)) t208 t219 t220 _ A26.out).mono ?_); rintro e w64 ⟨rfl, hb⟩; refine ⟨_, rfl, ?_⟩; have n0_ := Aside0.mk (blk_below (g := gb197) (o := .cells #[.string t191, .int .i64 t192, .int .i64 t193, .int .i64 t194, .int .i64 t195, .int .i64 t196] 25 (0, 0)) (by (with_reducible repeat (first | refine blk_drewN ?_ _ | refine blk_drew ?_ | refine blk_alloc ?_ _)); exact BK197.out) hb); have n1_ := Aside0.mk (below_step (by repeat (first | (with_reducible first | exact HB.out | apply below_alloc | apply pw_below_drewN | apply below_drew1 | refine below_set ?_ GE197.out) | exact HB.out)) hb); clear BK197; clear HB; have BK197 := n0_; have HB := n1_; clear n0_ n1_; (try clear hb); (try clear hb2); (try clear hk); (try clear hi)) | ((with_reducible refine gate_callee (f := 12) rfl ?_); refine goesL_ (some 156) rfl rfl Try.func12 (by kernel_rfl) rfl #[.int .i64 (wrap64 (1 + t198)), .int .i64 (wrap64 (3000 + t207)), .int .i64 t213] rfl (by (try simp only [List.map_toArray, List.map_cons, List.map_nil]); first | done | rfl | (simp only [List.length_drop, List.length_take]; rfl)) ?_; (with_reducible refine (impl_HeatFlow.calls (wrap64 (1 + t198)) (wrap64 (3000 + t207)) t213 t221 t222 _ A27.out).mono ?_); rintro e w65 ⟨rfl, hb⟩; refine ⟨_, rfl, ?_⟩; have n0_ := Aside0.mk (blk_below (g := gb197) (o := .cells #[.string t191, .int .i64 t192, .int .i64 t193, .int .i64 t194, .int .i64 t195, .int .i64 t196] 25 (0, 0)) (by (with_reducible repeat (first | refine blk_drewN ?_ _ | refine blk_drew ?_ | refine blk_alloc ?_ _)); exact BK197.out) hb); have n1_ := Aside0.mk (below_step (by repeat (first | (with_reducible first | exact HB.out | apply below_alloc | apply pw_below_drewN | apply below_drew1 | refine below_set ?_ GE197.out) | exact HB.out)) hb); clear BK197; clear HB; have BK197 := n0_; have HB := n1_; clear n0_ n1_; (try clear hb); (try clear hb2); (try clear hk); (try clear hi)))
                                                  go_ret
                                                  exact ⟨by first | rfl | (simp [errW_none, errW_some] <;> rfl) | (simp [*, errW_none, errW_some] <;> rfl), by repeat (first | (with_reducible first | exact HB.out | apply below_alloc | apply pw_below_drewN | apply below_drew1 | refine below_set ?_ GE197.out) | exact HB.out)⟩
                                                · rw [if_neg c42] at H
                                                  exact absurd H (by simp)
                                              · rw [if_neg c41] at H
                                                exact absurd H (by simp)
                                          · rw [if_neg c39] at H
                                            exact absurd H (by simp)
                                        · rw [if_neg c38] at H
                                          exact absurd H (by simp)
                                      · rw [if_neg c37] at H
                                        exact absurd H (by simp)
                                    · rw [if_neg c36] at H
                                      exact absurd H (by simp)
                                  · rw [if_neg c35] at H
                                    exact absurd H (by simp)
                            · rw [if_neg c32] at H
                              exact absurd H (by simp)
                        · rw [if_neg c30] at H
                          exact absurd H (by simp)
                      · rw [if_neg c29] at H
                        exact absurd H (by simp)
                    · rw [if_neg c28] at H
                      exact absurd H (by simp)
                · rw [if_neg c17] at H
                  exact absurd H (by simp)
          · rw [if_neg c14] at H
            exact absurd H (by simp)
        · rw [if_neg c13] at H
          exact absurd H (by simp)
      · rw [if_neg c12] at H
        exact absurd H (by simp)
    · rw [if_neg c11] at H
      exact absurd H (by simp)
end Go.Proofs.Ytbeciocoakdcaaa.XD
end

section
namespace Go.Proofs.Ytbeciocoakdcaaa.Open
open Go.ChangeShapes Go.WideShapes Go.RowKit Go.Proofs.YtbeciocoakdcaaaW.PrintWords
set_option linter.unusedVariables false
def Opens (P : Program) (t : TypeId) {α : Type} (d : Kd α) (Q : α → Prop) : Prop :=
  P.cellsOf t = d.sz ∧ ∀ (H : Type) (enc : TypeId × Value → H) (w : World) (base : Nat) (spare : Nat → Bool) (held : Bool) (fuel : Nat) (cs : List Value) (x : DataW H × List MemPlace),
    DataW.trod enc P w base spare held fuel t cs = some x → ∃ a : α, d.K w a cs ∧ Q a
theorem Opens.int {P : Program} {t : TypeId} {k : IntKind} (hu : P.underlying t = some (.int k)) (hc : P.cellsOf t = 1) : Opens P t (Kd.int k) (fun n => (Lit.int k n).wf = true) := by
  refine ⟨hc, fun H enc w base spare held fuel cs x h => ?_⟩
  obtain ⟨n, rfl, _, hw⟩ := DataW.trod_int hu h
  exact ⟨n, rfl, hw⟩
theorem Opens.bool {P : Program} {t : TypeId} (hu : P.underlying t = some .bool) (hc : P.cellsOf t = 1) : Opens P t Kd.bool (fun _ => True) := by
  refine ⟨hc, fun H enc w base spare held fuel cs x h => ?_⟩
  obtain ⟨b, rfl, _⟩ := DataW.trod_bool hu h
  exact ⟨b, rfl, trivial⟩
theorem Opens.string {P : Program} {t : TypeId} (hu : P.underlying t = some .string) (hc : P.cellsOf t = 1) : Opens P t Kd.string (fun s => s.size ≤ maxLen) := by
  refine ⟨hc, fun H enc w base spare held fuel cs x h => ?_⟩
  obtain ⟨s, rfl, _, hs⟩ := DataW.trod_string hu h
  exact ⟨s, rfl, hs⟩
theorem choose_list {α : Type} {n : Nat} {p : Nat → α → Prop} (h : ∀ i, i < n → ∃ x, p i x) : ∃ l : List α, l.length = n ∧ ∀ i x, l[i]? = some x → p i x := by
  induction n with
  | zero => exact ⟨[], rfl, fun i x hx => by simp at hx⟩
  | succ n ih =>
    obtain ⟨l, hl, hp⟩ := ih (fun i hi => h i (by omega))
    obtain ⟨x, hx⟩ := h n (by omega)
    refine ⟨l ++ [x], by simp [hl], fun i y hy => ?_⟩
    rcases Nat.lt_or_ge i l.length with hi | hi
    · rw [List.getElem?_append_left hi] at hy
      exact hp i y hy
    · have : i = l.length := by
        have := (List.getElem?_eq_some_iff.1 hy).1
        simp at this
        omega
      subst this
      simp at hy
      subst hy
      rw [hl]
      exact hx
theorem cells?_get {w : World} {base : Nat} {a : Addr} {n : Nat} {cs : List Value} (h : w.cells? base a n = some cs) (i : Nat) (u : Value) (hu : cs[i]? = some u) : w.cell? (a.add i) = some u := by
  unfold World.cells? at h
  split at h
  · have hlen : cs.length = n := by simpa using mapM_some_length h
    have hi : i < n := by
      have := (List.getElem?_eq_some_iff.1 hu).1
      omega
    have := mapM_some_get h i i (by simp [hi])
    rw [hu] at this
    exact this
  · cases h
theorem Opens.slice {P : Program} {t e : TypeId} {α : Type} {d : Kd α} {Q : α → Prop} (hu : P.underlying t = some (.slice e)) (hc : P.cellsOf t = 1) (hd : Opens P e d Q) :
    Opens P t (Kd.slice e d) (fun xs => xs.length ≤ maxLen ∧ ∀ x ∈ xs, Q x) := by
  refine ⟨hc, fun H enc w base spare held fuel cs x h => ?_⟩
  rcases Go.Deep.open_slice hu h with ⟨rfl, _⟩ | ⟨a, len, cap, m, n, D, Pl, rfl, _, hl, hm, hmm, _, hx⟩
  · exact ⟨[], ⟨none, 0, rfl, Nat.le_refl _, rfl, by simp, fun h => absurd h (by simp)⟩, by simp, fun x hx => by simp at hx⟩
  · have hlm : len ≤ m := by rw [hmm]; split <;> omega
    obtain ⟨l, hl1, hp⟩ := choose_list (n := len) (p := fun i (x : α) => ∃ cs', w.cells? base (a.add (i * d.sz)) d.sz = some cs' ∧ d.K w x cs' ∧ Q x) (fun i hi => by
      obtain ⟨cs', h1, h2⟩ := hx i (by omega)
      rw [hd.1] at h1
      obtain ⟨y, hy, hq⟩ := hd.2 H enc w base spare held n cs' _ h2
      exact ⟨y, cs', h1, hy, hq⟩)
    have hmax : (maxLen : Nat) = 9223372036854775807 := by unfold maxLen; omega
    refine ⟨l, ⟨some a, cap, by rw [hl1], by omega, rfl, by omega, fun _ => ⟨a, rfl, fun j p hj => ?_⟩⟩, by omega, fun x hx => ?_⟩
    · obtain ⟨cs', h1, h2, _⟩ := hp j p hj
      refine ⟨cs', d.K_len h2, h2, fun i u hi => ?_⟩
      have := cells?_get h1 i u hi
      rwa [Go.Deep.add_add] at this
    · obtain ⟨i, hi, rfl⟩ := List.mem_iff_getElem.1 hx
      obtain ⟨cs', _, _, h3⟩ := hp i _ (List.getElem?_eq_getElem hi)
      exact h3
def OpensF (P : Program) (fs : List Field) (off : Nat) {α : Type} (d : Kd α) (Q : α → Prop) : Prop :=
  ∀ (H : Type) (enc : TypeId × Value → H) (w : World) (base : Nat) (spare : Nat → Bool) (held : Bool) (n : Nat) (cs : List Value), off + d.sz = cs.length →
    (∀ f ∈ fs, ∃ y, DataW.trod enc P w base spare held n f.type ((cs.drop f.offset).take (P.cellsOf f.type)) = some y) → ∃ a : α, d.K w a (cs.drop off) ∧ Q a
theorem OpensF.one {P : Program} {f : Field} {off : Nat} {α : Type} {d : Kd α} {Q : α → Prop} (ho : f.offset = off) (h : Opens P f.type d Q) : OpensF P [f] off d Q := by
  intro H enc w base spare held n cs hl hf
  obtain ⟨y, hy⟩ := hf f List.mem_cons_self
  rw [ho, h.1, List.take_of_length_le (by rw [List.length_drop]; omega)] at hy
  exact h.2 H enc w base spare held n _ y hy
theorem OpensF.cons {P : Program} {f : Field} {fs : List Field} {off : Nat} {α β : Type} {d1 : Kd α} {d2 : Kd β} {Q1 : α → Prop} {Q2 : β → Prop} (ho : f.offset = off) (h : Opens P f.type d1 Q1) (hs : OpensF P fs (off + d1.sz) d2 Q2) :
    OpensF P (f :: fs) off (Kd.pair d1 d2) (fun x => Q1 x.1 ∧ Q2 x.2) := by
  intro H enc w base spare held n cs hl hf
  have hl' : off + (d1.sz + d2.sz) = cs.length := hl
  obtain ⟨y, hy⟩ := hf f List.mem_cons_self
  rw [ho, h.1] at hy
  obtain ⟨a, ha, qa⟩ := h.2 H enc w base spare held n _ y hy
  obtain ⟨b, hb, qb⟩ := hs H enc w base spare held n cs (by omega) (fun g hg => hf g (List.mem_cons_of_mem _ hg))
  refine ⟨(a, b), ⟨_, _, ?_, ha, hb⟩, qa, qb⟩
  rw [← List.drop_drop, List.take_append_drop]
theorem open_sl {H : Type} {enc : TypeId × Value → H} {P : Program} {W : World} {base B : Nat} {spare : Nat → Bool} {held : Bool} {t e : TypeId} {v : Value} {dd : DataW H} {ps : List MemPlace} {α : Type} {d : Kd α} {Q : α → Prop}
    (hu : P.underlying t = some (.slice e)) (hc : P.cellsOf t = 1) (hd : Opens P e d Q) (hv : Value.okWide P W .any B t v) (h : DataW.Trod enc P W base spare held t v dd ps) :
    ∃ (A : Option Addr) (c : Nat) (l : List α), v = .slice A l.length c ∧ l.length ≤ c ∧ Kd.C d W A l.length l ∧ l.length ≤ maxLen ∧ ∀ x ∈ l, Q x := by
  obtain ⟨a0, len, cap, rfl⟩ := okWide_slice hu hv
  obtain ⟨fuel, hf⟩ := h
  obtain ⟨l, ⟨A, c, he, hl, hC⟩, hm, hq⟩ := (Opens.slice hu hc hd).2 H enc W base spare held fuel _ _ hf
  refine ⟨A, c, l, ?_, hl, hC, hm, hq⟩
  simpa [Value.cells] using he
end Go.Proofs.Ytbeciocoakdcaaa.Open
end

section
namespace Go.Proofs.Ytbeciocoakdcaaa.XD
open Go.RowKit Go.Proofs.YtbeciocoakdcaaaW.PrintWords
def laws_FnDelays.Pure : Prop := ∀ (a0 : List Int), ∀ (a1 : List Int), ((a0.length ≤ maxLen ∧ ∀ y2 ∈ a0, (Lit.int .u8 y2).wf = true)) → ((a1.length ≤ maxLen ∧ ∀ y2 ∈ a1, (Lit.int .u8 y2).wf = true)) → ∃ k, laws_FnDelays.f k a0 a1 = some true
end Go.Proofs.Ytbeciocoakdcaaa.XD
end

section
namespace Go.Proofs.Ytbeciocoakdcaaa.EvK
open Go.RowKit Go.Proofs.YtbeciocoakdcaaaW.PrintWords
set_option linter.unusedVariables false
theorem w64 {n : Int} (h : -9223372036854775808 ≤ n) (h' : n ≤ 9223372036854775807) : wrap64 n = n := by unfold wrap64; omega
theorem Ev.some {α : Type} {a r : α} (h : a = r) : Ev (fun _ => Option.some a) r := h ▸ Ev.now a
theorem Ev.bind_some {α β : Type} {g : Nat → Option α} {f : Nat → α → Option β} {a : α} {r : β} (h : Ev g a) (k : Ev (fun n => f n a) r) : Ev (fun n => (g n).bind (f n)) r := Ev.bind h k
def EvP {α : Type} (g : Nat → Option α) (P : α → Prop) : Prop := ∃ r, Ev g r ∧ P r
theorem EvP.now {α : Type} {r : α} {P : α → Prop} (h : P r) : EvP (fun _ => Option.some r) P := ⟨r, Ev.now r, h⟩
theorem EvP.of {α : Type} {g : Nat → Option α} {r : α} {P : α → Prop} (h : Ev g r) (hp : P r) : EvP g P := ⟨r, h, hp⟩
theorem EvP.mono {α : Type} {g : Nat → Option α} {P Q : α → Prop} (h : EvP g P) (hp : ∀ r, P r → Q r) : EvP g Q := by
  obtain ⟨r, h1, h2⟩ := h
  exact ⟨r, h1, hp _ h2⟩
theorem EvP.eq {α : Type} {g : Nat → Option α} {r : α} (h : EvP g (· = r)) : Ev g r := by
  obtain ⟨r', h, rfl⟩ := h
  exact h
theorem EvP.step {α : Type} {g f : Nat → Option α} {P : α → Prop} (h : ∀ k, g (k + 1) = f k) (k : EvP f P) : EvP g P := by
  obtain ⟨r, h1, h2⟩ := k
  exact ⟨r, Ev.step h h1, h2⟩
theorem EvP.bind {α β : Type} {g : Nat → Option α} {f : Nat → α → Option β} {a : α} {P : β → Prop} (h : Ev g a) (k : EvP (fun n => f n a) P) : EvP (fun n => (g n).bind (f n)) P := by
  obtain ⟨r, h1, h2⟩ := k
  exact ⟨r, Ev.bind h h1, h2⟩
theorem EvP.rounds {α : Type} {g : Nat → Option α} {r : α} (h : EvP g (· = r)) : ∃ k, g k = Option.some r := Ev.rounds (EvP.eq h)
theorem for_evp {σ ρ : Type} {L : Nat → σ → Int → Option ρ} {Post : ρ → Prop} (n : Nat) (inv : Nat → σ → Prop)
    (step : ∀ (i : Nat) (s : σ), i < n → inv i s → (∀ s', inv (i + 1) s' → EvP (fun k => L k s' ((i : Int) + 1)) Post) → EvP (fun k => L k s i) Post)
    (fin : ∀ s, inv n s → EvP (fun k => L k s n) Post) (s : σ) (h0 : inv 0 s) : EvP (fun k => L k s 0) Post := by
  have key : ∀ (d i : Nat) (s : σ), i + d = n → inv i s → EvP (fun k => L k s i) Post := by
    intro d
    induction d with
    | zero =>
      intro i s hi hs
      obtain rfl : i = n := by omega
      exact fin s hs
    | succ d ih =>
      intro i s hi hs
      refine step i s (by omega) hs (fun s' hs' => ?_)
      simpa using ih (i + 1) s' (by omega) hs'
  simpa using key n 0 s (by omega) h0
theorem take_all {α : Type} {p : α → Prop} {l : List α} {i : Nat} (h : i < l.length) (hs : ∀ x ∈ l.take i, p x) (hx : p l[i]) : ∀ x ∈ l.take (i + 1), p x := by
  rw [List.take_succ_eq_append_getElem h]
  intro x hm
  rcases List.mem_append.1 hm with hm | hm
  · exact hs x hm
  · rw [List.mem_singleton.1 hm]
    exact hx
theorem all_ev {α : Type} {L : Nat → Int → Option Bool} (l : List α) (p : α → Bool) (b : Bool)
    (step : ∀ (i : Nat) (h : i < l.length), p l[i] = true → ∀ P, EvP (fun k => L k ((i : Int) + 1)) P → EvP (fun k => L k i) P)
    (stop : ∀ (i : Nat) (h : i < l.length), p l[i] = false → Ev (fun k => L k i) false)
    (fin : Ev (fun k => L k l.length) b) : Ev (fun k => L k 0) (l.all p && b) := by
  apply EvP.eq
  refine for_evp (L := fun k (_ : Unit) i => L k i) l.length (fun i _ => ∀ x ∈ l.take i, p x = true) ?_ ?_ () (by simp)
  · intro i _ hi hs K
    cases hp : p l[i] with
    | true => exact step i hi hp _ (K () (take_all hi hs hp))
    | false =>
      have e : l.all p = false := by
        rw [List.all_eq_false]
        exact ⟨l[i], List.getElem_mem hi, by simp [hp]⟩
      rw [e]
      exact EvP.of (stop i hi hp) rfl
  · intro _ hs
    have e : l.all p = true := by
      rw [List.all_eq_true]
      simpa using hs
    rw [e]
    exact EvP.of fin rfl
theorem bytes_at_ (s : ByteArray) (i : Nat) (h : i < s.data.toList.length) : bt s (i : Int) = ((s.data.toList[i]).toNat : Int) := by
  have h' : i < s.size := by simpa using h
  unfold bt
  rw [dif_pos (by simpa using h')]
  simp
  rfl
theorem size_len (s : ByteArray) : (s.size : Int) = (s.data.toList.length : Int) := by simp
theorem size_len' (s : ByteArray) : s.size = s.data.toList.length := by simp
end Go.Proofs.Ytbeciocoakdcaaa.EvK
end

section
namespace Go.Proofs.Ytbeciocoakdcaaa.PBasics
open Go.RowKit Go.Proofs.YtbeciocoakdcaaaW.PrintWords Go.Proofs.Ytbeciocoakdcaaa.XD Go.Proofs.Ytbeciocoakdcaaa.EvK
set_option linter.unusedVariables false
set_option linter.unusedSimpArgs false
def smallB (c : UInt8) : Bool := decide (97 ≤ (c.toNat : Int)) && decide ((c.toNat : Int) ≤ 122)
def digB (c : UInt8) : Bool := decide (48 ≤ (c.toNat : Int)) && decide ((c.toNat : Int) ≤ 57)
def nameB (c : UInt8) : Bool := smallB c || digB c
def nameOk (s : ByteArray) : Bool := match s.data.toList with
  | [] => false
  | c :: l => decide ((s.size : Int) ≤ 10) && smallB c && (c :: l).all nameB
def inR (n a b : Int) : Bool := decide (a ≤ n) && decide (n ≤ b)
theorem within_eq (n a b : Int) : impl_within.f n a b = some (inR n a b) := by
  unfold impl_within.f inR
  by_cases h : n ≥ a
  · rw [if_pos h, decide_eq_true (show a ≤ n from h), Bool.true_and]
  · rw [if_neg h, decide_eq_false (show ¬ a ≤ n from h), Bool.false_and]
theorem onlyName_ev (s : ByteArray) (h : s.size ≤ 1048576) : Ev (fun k => impl_onlyNameBytes.f k s) (s.data.toList.all nameB) := by
  unfold impl_onlyNameBytes.f
  rw [size_len'] at h
  have := all_ev (L := fun k i => impl_onlyNameBytes.l0 k s (s.size : Int) i) s.data.toList nameB true ?_ ?_ ?_
  · simpa using this
  · intro i hi hp P K
    refine EvP.step (fun k => impl_onlyNameBytes.l0.eq_2 _ _ _ k) ?_
    simp only [size_len] at K
    simp only [size_len, if_pos (show (i : Int) < (s.data.toList.length : Int) by omega), if_pos (show (0 : Int) ≤ (i : Int) by omega), bytes_at_ s i hi, w64 (show -9223372036854775808 ≤ (i : Int) + 1 by omega) (by omega)]
    simp only [nameB, smallB, digB, Bool.or_eq_true, Bool.and_eq_true, decide_eq_true_eq] at hp
    by_cases h1 : ((s.data.toList[i]).toNat : Int) < 97
    · simp only [if_pos h1, if_neg (show ¬ ((s.data.toList[i]).toNat : Int) < 48 by omega), if_neg (show ¬ ((s.data.toList[i]).toNat : Int) > 57 by omega)]
      exact K
    · simp only [if_neg h1, if_neg (show ¬ ((s.data.toList[i]).toNat : Int) > 122 by omega)]
      exact K
  · intro i hi hp
    refine Ev.step (fun k => impl_onlyNameBytes.l0.eq_2 _ _ _ k) ?_
    simp only [size_len, if_pos (show (i : Int) < (s.data.toList.length : Int) by omega), if_pos (show (0 : Int) ≤ (i : Int) by omega), bytes_at_ s i hi, w64 (show -9223372036854775808 ≤ (i : Int) + 1 by omega) (by omega)]
    simp only [nameB, smallB, digB, Bool.or_eq_false_iff, Bool.and_eq_false_iff, decide_eq_false_iff_not] at hp
    by_cases h1 : ((s.data.toList[i]).toNat : Int) < 97
    · by_cases h2 : ((s.data.toList[i]).toNat : Int) < 48
      · simp only [if_pos h1, if_pos h2]; exact Ev.now _
      · simp only [if_pos h1, if_neg h2, if_pos (show ((s.data.toList[i]).toNat : Int) > 57 by omega)]; exact Ev.now _
    · simp only [if_neg h1, if_pos (show ((s.data.toList[i]).toNat : Int) > 122 by omega), if_neg (show ¬ ((s.data.toList[i]).toNat : Int) < 48 by omega), if_pos (show ((s.data.toList[i]).toNat : Int) > 57 by omega)]
      exact Ev.now _
  · refine Ev.step (fun k => impl_onlyNameBytes.l0.eq_2 _ _ _ k) ?_
    simp only [size_len, if_neg (show ¬ (s.data.toList.length : Int) < (s.data.toList.length : Int) by omega)]
    exact Ev.now _
theorem head_at (s : ByteArray) (c : UInt8) (l : List UInt8) (hl : s.data.toList = c :: l) : bt s 0 = (c.toNat : Int) := by
  have h : 0 < s.data.toList.length := by rw [hl]; simp
  have := bytes_at_ s 0 h
  rw [show ((0 : Nat) : Int) = 0 from rfl] at this
  rw [this]
  simp only [hl, List.getElem_cons_zero]
theorem isName_ev (s : ByteArray) (h : s.size ≤ 1048576) : Ev (fun k => impl_IsName.f k s) (nameOk s) := by
  unfold impl_IsName.f nameOk
  cases hl : s.data.toList with
  | nil =>
    have hz : s.size = 0 := by rw [size_len', hl]; rfl
    simp only [hz, Int.natCast_zero, if_pos (show (0 : Int) < 1 by omega)]
    exact Ev.now _
  | cons c l =>
    have hz : s.size = l.length + 1 := by rw [size_len', hl]; rfl
    have ho := onlyName_ev s h
    rw [hl] at ho
    simp only [if_neg (show ¬ (s.size : Int) < 1 by omega), if_pos (show (0 : Int) < (s.size : Int) by omega), head_at s c l hl]
    by_cases h1 : (s.size : Int) > 10
    · simp only [if_pos h1, decide_eq_false (show ¬ (s.size : Int) ≤ 10 by omega), Bool.false_and]
      exact Ev.now _
    · simp only [if_neg h1, decide_eq_true (show (s.size : Int) ≤ 10 by omega), Bool.true_and]
      by_cases h2 : (c.toNat : Int) < 97
      · simp only [if_pos h2, smallB, decide_eq_false (show ¬ (97 : Int) ≤ c.toNat by omega), Bool.false_and]
        exact Ev.now _
      · by_cases h3 : (c.toNat : Int) > 122
        · simp only [if_neg h2, if_pos h3, smallB, decide_eq_false (show ¬ (c.toNat : Int) ≤ 122 by omega), Bool.false_and, Bool.and_false]
          exact Ev.now _
        · simp only [if_neg h2, if_neg h3, smallB, decide_eq_true (show (97 : Int) ≤ c.toNat by omega), decide_eq_true (show (c.toNat : Int) ≤ 122 by omega), Bool.true_and]
          exact Ev.bind ho (Ev.now _)
end Go.Proofs.Ytbeciocoakdcaaa.PBasics
end

section
namespace Go.Proofs.Ytbeciocoakdcaaa.PPipes
open Go.RowKit Go.Proofs.YtbeciocoakdcaaaW.PrintWords Go.Proofs.YtbeciocoakdcaaaW.PrintMore Go.Proofs.Ytbeciocoakdcaaa.XD Go.Proofs.Ytbeciocoakdcaaa.EvK Go.Proofs.Ytbeciocoakdcaaa.PBasics
set_option linter.unusedVariables false
set_option linter.unusedSimpArgs false
def pipeOk (s : ByteArray) (f t l d q : Int) : Bool := nameOk s && (inR f 0 15 && (inR t 0 15 && (!(decide (f = t)) && (inR l 1 10000 && (inR d 20 1000 && inR q 0 5000)))))
theorem node_eq (n : Int) : impl_nodeOk.f n = some (inR n 0 15) := by unfold impl_nodeOk.f; rw [within_eq]; rfl
theorem validPipe_ev (s : ByteArray) (f t l d q : Int) (h : s.size ≤ 1048576) : Ev (fun k => impl_ValidPipe.f k s f t l d q) (pipeOk s f t l d q) := by
  unfold impl_ValidPipe.f pipeOk
  refine Ev.bind (isName_ev s h) ?_
  simp only [node_eq, within_eq, Option.bind_some]
  cases nameOk s <;> simp only [Bool.false_eq_true, if_false, if_true, Bool.false_and, Bool.true_and]
  · exact Ev.now _
  cases inR f 0 15 <;> simp only [Bool.false_eq_true, if_false, if_true, Bool.false_and, Bool.true_and]
  · exact Ev.now _
  cases inR t 0 15 <;> simp only [Bool.false_eq_true, if_false, if_true, Bool.false_and, Bool.true_and]
  · exact Ev.now _
  by_cases hft : f = t
  · simp only [if_pos hft, hft, decide_true, Bool.not_true, Bool.false_and]; exact Ev.now _
  simp only [if_neg hft, hft, decide_false, Bool.not_false, Bool.true_and]
  cases inR l 1 10000 <;> simp only [Bool.false_eq_true, if_false, if_true, Bool.false_and, Bool.true_and]
  · exact Ev.now _
  cases inR d 20 1000 <;> simp only [Bool.false_eq_true, if_false, if_true, Bool.false_and, Bool.true_and]
  · exact Ev.now _
  exact Ev.now _
def dr (a b : Int) : Int := if 0 ≤ a then (2 * a + b) / (2 * b) else -((b - 2 * a) / (2 * b))
theorem ediv_is {x b k : Int} (hb : 0 < b) (h1 : b * k ≤ x) (h2 : x < b * k + b) : x / b = k := by
  have e : x = (x - b * k) + b * k := by omega
  rw [e, Int.add_mul_ediv_left _ _ (by omega), Int.ediv_eq_zero_of_lt (by omega) (by omega)]
  omega
theorem divRound_eq (a b : Int) (hb : 0 < b) (hb2 : b ≤ 1152921504606846976) (h1 : -1152921504606846976 ≤ a) (h2 : a ≤ 1152921504606846976) : impl_divRound.f a b = some (dr a b) := by
  have two : ∀ x : Int, 2 * b * x = 2 * (b * x) := fun x => Int.mul_assoc 2 b x
  unfold impl_divRound.f dr impl_abs.f
  rw [if_neg (show ¬ b = 0 by omega)]
  simp only [Option.bind_some]
  have eb : mx b (wrap64 (-b)) = b := by rw [w64 (by omega) (by omega)]; unfold mx; rw [if_neg (by omega)]
  rw [eb, decide_eq_false (show ¬ b < 0 by omega)]
  by_cases ha : 0 ≤ a
  · have hq := Int.tdiv_eq_ediv_of_nonneg (b := b) ha
    have hr := Int.tmod_eq_emod_of_nonneg (b := b) ha
    rw [hq, hr, if_pos ha, decide_eq_false (show ¬ a < 0 by omega)]
    have hr0 := Int.emod_nonneg a (show b ≠ 0 by omega)
    have hr1 := Int.emod_lt_of_pos a hb
    have he := Int.mul_ediv_add_emod a b
    have hq0 : 0 ≤ a / b := Int.ediv_nonneg ha (by omega)
    have hqa : a / b ≤ a := Int.ediv_le_self b ha
    generalize a / b = q at *
    generalize a % b = r at *
    have er : mx r (wrap64 (-r)) = r := by rw [w64 (by omega) (by omega)]; unfold mx; rw [if_neg (by omega)]
    rw [er, w64 (show -9223372036854775808 ≤ b - r by omega) (by omega), w64 (show -9223372036854775808 ≤ q by omega) (by omega)]
    by_cases hc : r ≥ b - r
    · rw [if_pos hc, if_pos (by rfl), w64 (by omega) (by omega)]
      congr 1
      have h2_ : b * (q + 1) = b * q + b := by rw [Int.mul_add, Int.mul_one]
      have := two (q + 1)
      rw [h2_] at this
      exact (ediv_is (by omega) (by omega) (by omega)).symm
    · rw [if_neg hc]
      congr 1
      have := two q
      exact (ediv_is (by omega) (by omega) (by omega)).symm
  · obtain ⟨n, hn⟩ : ∃ n, a = -n := ⟨-a, by omega⟩
    subst hn
    have hn0 : 0 ≤ n := by omega
    have hq : Int.tdiv (-n) b = -(n / b) := by rw [Int.neg_tdiv, Int.tdiv_eq_ediv_of_nonneg hn0]
    have hr : Int.tmod (-n) b = -(n % b) := by rw [Int.neg_tmod, Int.tmod_eq_emod_of_nonneg hn0]
    rw [hq, hr, if_neg ha, decide_eq_true (show -n < 0 by omega)]
    have hr0 := Int.emod_nonneg n (show b ≠ 0 by omega)
    have hr1 := Int.emod_lt_of_pos n hb
    have he := Int.mul_ediv_add_emod n b
    have hq0 : 0 ≤ n / b := Int.ediv_nonneg hn0 (by omega)
    have hqa : n / b ≤ n := Int.ediv_le_self b hn0
    generalize n / b = q at *
    generalize n % b = r at *
    have er : mx (-r) (wrap64 (-(-r))) = r := by rw [w64 (by omega) (by omega)]; unfold mx; split <;> omega
    rw [er, w64 (show -9223372036854775808 ≤ b - r by omega) (by omega), w64 (show -9223372036854775808 ≤ -q by omega) (by omega)]
    by_cases hc : r ≥ b - r
    · rw [if_pos hc, if_neg (by decide), w64 (by omega) (by omega)]
      congr 1
      have h2_ : b * (q + 1) = b * q + b := by rw [Int.mul_add, Int.mul_one]
      have := two (q + 1)
      rw [h2_] at this
      rw [ediv_is (k := q + 1) (b := 2 * b) (by omega) (by omega) (by omega)]
      omega
    · rw [if_neg hc]
      congr 1
      have := two q
      rw [ediv_is (k := q) (b := 2 * b) (by omega) (by omega) (by omega)]
theorem inR_iff {n a b : Int} : inR n a b = true ↔ a ≤ n ∧ n ≤ b := by unfold inR; simp
theorem ok_bounds {s : ByteArray} {f t l d q : Int} (h : pipeOk s f t l d q = true) : (1 ≤ l ∧ l ≤ 10000) ∧ (20 ≤ d ∧ d ≤ 1000) ∧ (0 ≤ q ∧ q ≤ 5000) := by
  unfold pipeOk at h
  simp only [Bool.and_eq_true, inR_iff] at h
  exact ⟨h.2.2.2.2.1, h.2.2.2.2.2.1, h.2.2.2.2.2.2⟩
theorem water_bounds {l d : Int} (hl : 1 ≤ l ∧ l ≤ 10000) (hd : 20 ≤ d ∧ d ≤ 1000) : wrap64 ((wrap64 ((wrap64 (l * d)) * d)) * 7854) = l * d * d * 7854 ∧ 0 ≤ l * d * d * 7854 ∧ l * d * d * 7854 ≤ 78540000000000 := by
  have h1 : l * d ≤ 10000 * d := Int.mul_le_mul_of_nonneg_right hl.2 (by omega)
  have h0 : 0 ≤ l * d := Int.mul_nonneg (by omega) (by omega)
  have h2 : l * d * d ≤ 10000000 * d := Int.mul_le_mul_of_nonneg_right (by omega) (by omega)
  have h3 : 0 ≤ l * d * d := Int.mul_nonneg h0 (by omega)
  refine ⟨?_, by omega, by omega⟩
  rw [w64 (show -9223372036854775808 ≤ l * d by omega) (by omega), w64 (show -9223372036854775808 ≤ l * d * d by omega) (by omega), w64 (by omega) (by omega)]
def waterOf (l d : Int) : Int := dr (l * d * d * 7854) 10000
theorem water_eq {s : ByteArray} {f t l d q : Int} (h : pipeOk s f t l d q = true) : impl_Pipe_water.f s f t l d q = some (waterOf l d) := by
  obtain ⟨hl, hd, _⟩ := ok_bounds h
  obtain ⟨e, h0, h1⟩ := water_bounds hl hd
  unfold impl_Pipe_water.f waterOf
  rw [e, divRound_eq _ _ (by omega) (by omega) (by omega) (by omega)]
  rfl
end Go.Proofs.Ytbeciocoakdcaaa.PPipes
end

section
namespace Go.Proofs.Ytbeciocoakdcaaa.PSrc
open Go.RowKit Go.Proofs.YtbeciocoakdcaaaW.PrintWords Go.Proofs.Ytbeciocoakdcaaa.XD Go.Proofs.Ytbeciocoakdcaaa.EvK
set_option linter.unusedVariables false
set_option linter.unusedSimpArgs false
def Bytes (c : List Int) : Prop := ∀ x ∈ c, 0 ≤ x ∧ x ≤ 255
def On (a a' d : Int) : Prop := a ≤ a' ∧ a' ≤ a + d
theorem rd_mem (c : List Int) (a : Int) (h0 : 0 ≤ a) (h1 : a < (c.length : Int)) : rd c a ∈ c := by
  unfold rd
  rw [List.getD_eq_getElem?_getD, List.getElem?_eq_getElem (by omega)]
  exact List.getElem_mem (by omega)
theorem low_byte (y : Int) : 0 ≤ wrap64 (Go.bits .and .u64 (IntKind.u64.wrap y / 1099511627776) 255) ∧ wrap64 (Go.bits .and .u64 (IntKind.u64.wrap y / 1099511627776) 255) ≤ 255 := by
  have hw : 0 ≤ IntKind.u64.wrap y ∧ IntKind.u64.wrap y < 18446744073709551616 := by
    rw [IntKind.wrap_u64]; omega
  have hm : Go.bits .and .u64 (IntKind.u64.wrap y / 1099511627776) 255 = (IntKind.u64.wrap y / 1099511627776) % 256 := bits_mask .u64 64 (by decide) (fun n h0 h1 => by rw [IntKind.wrap_u64]; omega) 8 (by decide) _ (by omega) (by omega)
  rw [hm, w64 (by omega) (by omega)]
  omega
theorem next_eq {c : List Int} (hc : Bytes c) (a s : Int) (h0 : 0 ≤ a) (h1 : a ≤ 4611686018427387904) : ∃ x s', spec_l00Src_next.f c a s = some (x, a + 1, s') ∧ 0 ≤ x ∧ x ≤ 255 := by
  unfold spec_l00Src_next.f
  simp only [w64 (show -9223372036854775808 ≤ a + 1 by omega) (by omega)]
  by_cases h : a < (c.length : Int)
  · obtain ⟨r0, r1⟩ := hc _ (rd_mem c a h0 h)
    simp only [if_pos h, if_pos h0, if_pos (show a + 1 ≤ (c.length : Int) by omega), w64 (show -9223372036854775808 ≤ rd c a by omega) (by omega)]
    exact ⟨_, _, rfl, r0, r1⟩
  · simp only [if_neg h]
    by_cases h2 : a + 1 ≤ (c.length : Int)
    · omega
    · simp only [if_neg h2]
      obtain ⟨l0, l1⟩ := low_byte ((IntKind.u64.wrap (IntKind.u64.wrap (s * 6364136223846793005))) + 1442695040888963407)
      exact ⟨_, _, rfl, l0, l1⟩
theorem pick_eq {c : List Int} (hc : Bytes c) (a s n : Int) (h0 : 0 ≤ a) (h1 : a ≤ 4611686018427387000) : ∃ x a' s', spec_l00Src_pick.f c a s n = some (x, a', s') ∧ 0 ≤ x ∧ (1 ≤ n → x < n) ∧ On a a' 2 := by
  unfold spec_l00Src_pick.f
  by_cases hn : n ≤ 1
  · simp only [if_pos hn]
    exact ⟨0, a, s, rfl, by omega, by omega, by omega, by omega⟩
  · simp only [if_neg hn]
    obtain ⟨x, s1, e1, x0, x1⟩ := next_eq hc a s h0 (by omega)
    simp only [e1, Option.bind_some, if_neg (show ¬ n = 0 by omega)]
    by_cases hb : n > 200
    · obtain ⟨y, s2, e2, y0, y1⟩ := next_eq hc (a + 1) s1 (by omega) (by omega)
      simp only [if_pos hb, e2, Option.bind_some, w64 (show -9223372036854775808 ≤ x * 256 by omega) (by omega), w64 (show -9223372036854775808 ≤ x * 256 + y by omega) (by omega)]
      refine ⟨_, _, _, rfl, ?_, fun _ => ?_, by omega, by omega⟩
      · exact Int.tmod_nonneg _ (by omega)
      · exact Int.tmod_lt_of_pos _ (by omega)
    · simp only [if_neg hb]
      refine ⟨_, _, _, rfl, ?_, fun _ => ?_, by omega, by omega⟩
      · exact Int.tmod_nonneg _ (by omega)
      · exact Int.tmod_lt_of_pos _ (by omega)
end Go.Proofs.Ytbeciocoakdcaaa.PSrc
end
