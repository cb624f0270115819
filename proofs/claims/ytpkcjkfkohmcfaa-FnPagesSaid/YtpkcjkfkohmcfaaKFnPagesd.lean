/- The law FnPages: part 3 of its texts, joined (wip/pack.py). -/
import Derived.Test.YtpkcjkfkohmcfaaKFnPagesa
import Derived.Test.YtpkcjkfkohmcfaaKFnPagesb
import Derived.Test.YtpkcjkfkohmcfaaKFnPagesc
import Derived.Outline

section
namespace Go.Proofs.Ytpkcjkfkohmcfaa.XN
open Go.RowKit Go.Proofs.YtpkcjkfkohmcfaaW.PrintWords Go.Proofs.YtpkcjkfkohmcfaaW.PrintLast Go.Proofs.YtpkcjkfkohmcfaaW.PrintMore
attribute [local go_sem] run_eql_slice_nil binOp_string_gtr' binOp_string_leq' binOp_string_geq' max2_int min2_int max_two min_two max_three min_three max_four min_four   -- for this text's walks alone
set_option linter.unusedVariables false
set_option linter.unusedSimpArgs false
def spec_DrawBarLines.l0 : Nat → List Int → Int → List Int → Int → Int → Option (List Int × Int)
 | 0, _, _, _, _, _ => none
 | k + 1, x5, x6, x287000, x287001, x287002 => if x6 > 0 then ((spec_l00Src_among.f x287000 x287001 x287002 (([0, 1, 5, 20, 77, 1000] : List Int))).bind fun bt296 => (if x5.length < 17592186044416 then (spec_DrawBarLines.l0 k (x5 ++ [bt296.1]) (wrap64 (x6 - 1)) x287000 bt296.2.1 bt296.2.2) else (none))) else ((spec_l00Src_pick.f x287000 x287001 x287002 16).bind fun bt302 => (if bt302.1 = 0 then ((spec_l00Src_among.f x287000 bt302.2.1 bt302.2.2 (([(-1), 1000000000000, 1000000000001] : List Int))).bind fun bt308 => (if x5.length < 17592186044416 then ((spec_l00Src_among.f x287000 bt308.2.1 bt308.2.2 (([1, 10, 40, 100, 101, 0] : List Int))).bind fun bt317 => (some ((x5 ++ [bt308.1]), bt317.1))) else (none))) else (if bt302.1 = 1 then ((spec_l00Src_among.f x287000 bt302.2.1 bt302.2.2 (([200, 201] : List Int))).bind fun bt323 => (if 0 ≤ bt323.1 then (if (bt323.1 : Int).toNat ≤ 35184372088832 then ((spec_l00Src_among.f x287000 bt323.2.1 bt323.2.2 (([1, 10, 40, 100, 101, 0] : List Int))).bind fun bt332 => (some ((List.replicate (bt323.1 : Int).toNat 0), bt332.1))) else (none)) else (none))) else ((spec_l00Src_among.f x287000 bt302.2.1 bt302.2.2 (([1, 10, 40, 100, 101, 0] : List Int))).bind fun bt338 => (some (x5, bt338.1))))))
def spec_DrawBarLines.f (k : Nat) (l0 : List Int) : Option (List Int × Int) := (spec_l00From.f l0).bind fun bt283 => ((spec_l00Src_pick.f bt283.1 bt283.2.1 bt283.2.2 8).bind fun bt290 => (spec_DrawBarLines.l0 k (([] : List Int)) bt290.1 bt283.1 bt290.2.1 bt290.2.2))
set_option maxHeartbeats 8000000 in
set_option maxRecDepth 100000 in
theorem spec_DrawBarLines.calls (k : Nat) (A0 : Option Addr) (c0 : Nat) (l0 : List Int) (r1 : List Int) (r2 : Int) (w : World) (hr0 : Kd.C (Kd.int .u8) w A0 l0.length l0) (hc0 : l0.length ≤ c0) (h : spec_DrawBarLines.f k l0 = some (r1, r2)) :
  Calls Try.prog 20 #[.slice A0 l0.length c0] w fun e w' => ∃ v0_ : Value, e = .returned (.tuple #[v0_, .int .i64 r2]) ∧ Kd.R (Kd.int .i64) 2 w' w.heap.size (fun _ => True) v0_ r1 ∧ Below w.heap.size w w' := by
 have HR0 := Aside0.mk hr0
 have HC0 := Aside0.mk hc0
 clear hr0 hc0
 have HB := Aside0.mk (Below.refl w.heap.size w)
 have H : ((spec_l00From.f l0).bind fun bt283 => ((spec_l00Src_pick.f bt283.1 bt283.2.1 bt283.2.2 8).bind fun bt290 => (spec_DrawBarLines.l0 k (([] : List Int)) bt290.1 bt283.1 bt290.2.1 bt290.2.2))) = some (r1, r2) := h
 clear h
 replace H := Option.bind_eq_some_iff.mp H
 obtain ⟨⟨t283, t284, t285⟩, A20, H⟩ := H
 replace H : ((spec_l00Src_pick.f t283 t284 t285 8).bind fun bt290 => (spec_DrawBarLines.l0 k (([] : List Int)) bt290.1 t283 bt290.2.1 bt290.2.2)) = some (r1, r2) := H
 have A2 := Aside0.mk A20
 clear A20
 obtain ⟨y287, hy287⟩ : ∃ y_ : List Int, y_ = (([] : List Int)) := ⟨_, rfl⟩
 replace H : ((spec_l00Src_pick.f t283 t284 t285 8).bind fun bt290 => (spec_DrawBarLines.l0 k y287 bt290.1 t283 bt290.2.1 bt290.2.2)) = some (r1, r2) := by first | (rw [hy287]; with_reducible exact H) | (have H2_ := (Option.bind_some _ _).symm.trans H; rw [hy287]; with_reducible exact H2_) | (have H2_ := (Option.bind_some _ _).symm.trans H; with_reducible exact H2_) | with_reducible exact H | (rw [hy287]; exact H) | exact H
 have Ny287 := Aside0.mk hy287
 clear hy287
 replace H := Option.bind_eq_some_iff.mp H
 obtain ⟨⟨t290, t291, t292⟩, A30, H⟩ := H
 replace H : (spec_DrawBarLines.l0 k y287 t290 t283 t291 t292) = some (r1, r2) := H
 have A3 := Aside0.mk A30
 clear A30
 have H' := Aside0.mk H
 clear H
 go_enter Try.func20, Try.ntmps20
 go_wp2_with (first | ((with_reducible refine gate_callee (f := 31) rfl ?_); refine goesL_ (some 8) rfl rfl Try.func31 (by kernel_rfl) rfl #[.slice A0 l0.length c0] rfl gZ ?_; (with_reducible refine (spec_l00From.calls _ _ l0 t283 t284 t285 w _ ?side1 ?side2 ?side3 A2.out).mono ?_); (case side1 => repeat (first | (with_reducible first | exact HB.out | apply below_alloc | apply pw_below_drewN | apply below_drew1) | exact HB.out)); (case side2 => exact HR0.out); (case side3 => exact HC0.out); rintro e w4 ⟨g286, rfl, hi, hb, hb2⟩; refine ⟨_, rfl, ?_⟩; have n0_ := Aside0.mk (hb); have n1_ := Aside0.mk (hi); clear HB; have HB := n0_; have HI286 := n1_; clear n0_ n1_; (try clear hb); (try clear hb2); (try clear hk); (try clear hi)) | ((with_reducible refine gate_dst (N := 9) rfl ?_); refine Kd.R_lit (Kd.int .i64) _ 2 ?hg (N := 9) ?hd (xs := ([] : List Int)) (inner := []) (ok := fun _ => True) (okp := fun _ => True) ?hr ?hp (fun _ hk => hk) trivial (Below.refl _ _) (Nat.le_refl _) (by simp) ?_; (case hd => rfl); (case hg => rfl); (case hr => first | (go_simp; done) | (go_simp; rfl)); (case hp => exact (Reps.none _ _)); intro v288 w5 ho6 hb hg_ hnew_; clear hg_ hnew_; (first | rw [← Ny287.out] at ho6 | (simp only [Int.reduceToNat] at ho6; rw [← Ny287.out] at ho6)); have n0_ := Aside0.mk (Kd.R_lower ho6 (below_size (by repeat (first | (with_reducible first | exact HB.out | apply below_alloc | apply pw_below_drewN | apply below_drew1 | refine below_set ?_ (IsS67.ge HI286.out)) | exact HB.out)))); have n1_ := Aside0.mk (IsS67.below (by repeat (first | (with_reducible first | exact HI286.out | apply IsS67.alloc | apply IsS67.drewN | apply IsS67.drew | apply IsS67.set_1 | apply IsS67.set_2) | exact HI286.out)) hb); have n2_ := Aside0.mk (below_step (by repeat (first | (with_reducible first | exact HB.out | apply below_alloc | apply pw_below_drewN | apply below_drew1 | refine below_set ?_ (IsS67.ge HI286.out)) | exact HB.out)) hb); clear HI286; clear HB; have HO289 := n0_; have HI286 := n1_; have HB := n2_; clear n0_ n1_ n2_; clear hb ho6) | ((with_reducible refine gate_callee (f := 36) rfl ?_); refine goesL_ (some 11) rfl rfl Try.func36 (by kernel_rfl) rfl #[.pointer (some ⟨g286, 0, none⟩), .int .i64 8] rfl gZ ?_; (with_reducible refine (spec_l00Src_pick.calls g286 t283 t284 t285 8 t290 t291 t292 w _ ?side1 ?side2 A3.out).mono ?_); (case side1 => repeat (first | (with_reducible first | exact HI286.out | apply IsS67.alloc | apply IsS67.drewN | apply IsS67.drew | apply IsS67.set_1 | apply IsS67.set_2) | exact HI286.out)); (case side2 => repeat (first | (with_reducible first | exact HB.out | apply below_alloc | apply pw_below_drewN | apply below_drew1 | refine below_set ?_ (IsS67.ge HI286.out)) | exact HB.out)); rintro e w7 ⟨rfl, hi, hb, hk⟩; refine ⟨_, rfl, ?_⟩; have n0_ := Aside0.mk (Kd.R_mono (Kd.R_keep (IsS67.apart (show IsS67 w _ g286 t283 t284 t285 from by repeat (first | (with_reducible first | exact HI286.out | apply IsS67.alloc | apply IsS67.drewN | apply IsS67.drew | apply IsS67.set_1 | apply IsS67.set_2) | exact HI286.out)) (Kd.rZ HO289.out) (by decide)) hk (fun _ h => h.2)) (fun _ h => h.1)); have n1_ := Aside0.mk (hb); have n2_ := Aside0.mk (hi); clear HO289; clear HB; clear HI286; have HO289 := n0_; have HB := n1_; have HI286 := n2_; clear n0_ n1_ n2_; (try clear hb); (try clear hb2); (try clear hk); (try clear hi)))
 go_loopg [5, 6] k (fun kq v5 v6 w' => ∃ (x5_1 : List Int) (x6_1 : Int) (x287001_1 : Int) (x287002_1 : Int), v6 = .int .i64 x6_1 ∧ Aside0 (spec_DrawBarLines.l0 kq x5_1 x6_1 t283 x287001_1 x287002_1 = some (r1, r2)) ∧ Aside0 (kq ≤ k) ∧ Aside0 (Kd.R (Kd.int .i64) 2 w' w.heap.size (fun _ => True) v5 x5_1) ∧ Aside0 (IsS67 w w' g286 t283 x287001_1 x287002_1) ∧ Aside0 (Below w.heap.size w w'))
 case atStart => exact ⟨(y287), (t290), (t291), (t292), sZ, H', ⟨Nat.le_refl _⟩, ⟨Kd.rZ HO289.out⟩, ⟨by repeat (first | (with_reducible first | exact HI286.out | apply IsS67.alloc | apply IsS67.drewN | apply IsS67.drew | apply IsS67.set_1 | apply IsS67.set_2) | exact HI286.out)⟩, ⟨by repeat (first | (with_reducible first | exact HB.out | apply below_alloc | apply pw_below_drewN | apply below_drew1 | refine below_set ?_ (IsS67.ge HI286.out)) | exact HB.out)⟩⟩
 case round =>
  clear H'; (try clear c2); (try clear p2); (try clear c3)
  obtain ⟨x5_1, x6_1, x287001_1, x287002_1, rfl, HA, HK1, HO_5, HI286, HB⟩ := hrel
  cases gk with
  | zero => exact absurd HA.out (by simp [spec_DrawBarLines.l0])
  | succ k1 =>
   have H := HA.out
   clear HA
   simp only [spec_DrawBarLines.l0] at H
   by_cases c8 : x6_1 > 0
   ·rw [if_pos c8] at H
    have c8b0 : decide (0 < x6_1) = true := decide_eq_true c8
    clear c8
    obtain ⟨y293, hy293⟩ : ∃ y_ : List Int, y_ = (([0, 1, 5, 20, 77, 1000] : List Int)) := ⟨_, rfl⟩
    replace H : ((spec_l00Src_among.f t283 x287001_1 x287002_1 y293).bind fun bt296 => (if x5_1.length < 17592186044416 then (spec_DrawBarLines.l0 k1 (x5_1 ++ [bt296.1]) (wrap64 (x6_1 - 1)) t283 bt296.2.1 bt296.2.2) else (none))) = some (r1, r2) := by first | (rw [hy293]; with_reducible exact H) | (have H2_ := (Option.bind_some _ _).symm.trans H; rw [hy293]; with_reducible exact H2_) | (have H2_ := (Option.bind_some _ _).symm.trans H; with_reducible exact H2_) | with_reducible exact H | (rw [hy293]; exact H) | exact H
    have Ny293 := Aside0.mk hy293
    clear hy293
    replace H := Option.bind_eq_some_iff.mp H
    obtain ⟨⟨t296, t297, t298⟩, A90, H⟩ := H
    replace H : (if x5_1.length < 17592186044416 then (spec_DrawBarLines.l0 k1 (x5_1 ++ [t296]) (wrap64 (x6_1 - 1)) t283 t297 t298) else (none)) = some (r1, r2) := H
    have A9 := Aside0.mk A90
    clear A90
    by_cases c10 : x5_1.length < 17592186044416
    ·rw [if_pos c10] at H
     have LMc10 := Aside0.mk c10
     clear c10
     obtain ⟨y299, hy299⟩ : ∃ y_ : List Int, y_ = (x5_1 ++ [t296]) := ⟨_, rfl⟩
     replace H : (spec_DrawBarLines.l0 k1 y299 (wrap64 (x6_1 - 1)) t283 t297 t298) = some (r1, r2) := by first | (rw [hy299]; with_reducible exact H) | (have H2_ := (Option.bind_some _ _).symm.trans H; rw [hy299]; with_reducible exact H2_) | (have H2_ := (Option.bind_some _ _).symm.trans H; with_reducible exact H2_) | with_reducible exact H | (rw [hy299]; exact H) | exact H
     have Ny299 := Aside0.mk hy299
     clear hy299
     have H' := Aside0.mk H
     clear H
     go_wp2_with (first | ((with_reducible refine gate_dst (N := 18) rfl ?_); refine Kd.R_lit (Kd.int .i64) _ 2 ?hg (N := 18) ?hd (xs := ([0, 1, 5, 20, 77, 1000] : List Int)) (inner := [.int .i64 0, .int .i64 1, .int .i64 5, .int .i64 20, .int .i64 77, .int .i64 1000]) (ok := fun _ => True) (okp := fun _ => True) ?hr ?hp (fun _ hk => hk) trivial (Below.refl _ _) (Nat.le_refl _) (by simp) ?_; (case hd => rfl); (case hg => rfl); (case hr => first | (go_simp; done) | (go_simp; rfl)); (case hp => exact (Reps.one (show Kd.M (Kd.int .i64) _ _ _ 0 [.int .i64 0] from rfl) (Reps.one (show Kd.M (Kd.int .i64) _ _ _ 1 [.int .i64 1] from rfl) (Reps.one (show Kd.M (Kd.int .i64) _ _ _ 5 [.int .i64 5] from rfl) (Reps.one (show Kd.M (Kd.int .i64) _ _ _ 20 [.int .i64 20] from rfl) (Reps.one (show Kd.M (Kd.int .i64) _ _ _ 77 [.int .i64 77] from rfl) (Reps.one (show Kd.M (Kd.int .i64) _ _ _ 1000 [.int .i64 1000] from rfl) (Reps.none _ _)))))))); intro v294 w11 ho12 hb hg_ hnew_; clear hg_ hnew_; (first | rw [← Ny293.out] at ho12 | (simp only [Int.reduceToNat] at ho12; rw [← Ny293.out] at ho12)); have n0_ := Aside0.mk (Kd.R_elder' (Kd.rZ HO_5.out) (Kd.R_base ho12) hb); have n1_ := Aside0.mk (Kd.R_lower (Kd.R_new' ho12 (Kd.R_lt (Kd.rZ HO_5.out))) (below_size (by repeat (first | (with_reducible first | exact HB.out | apply below_alloc | apply pw_below_drewN | apply below_drew1 | refine below_set ?_ (IsS67.ge HI286.out)) | exact HB.out)))); have n2_ := Aside0.mk (IsS67.below (by repeat (first | (with_reducible first | exact HI286.out | apply IsS67.alloc | apply IsS67.drewN | apply IsS67.drew | apply IsS67.set_1 | apply IsS67.set_2) | exact HI286.out)) hb); have n3_ := Aside0.mk (below_step (by repeat (first | (with_reducible first | exact HB.out | apply below_alloc | apply pw_below_drewN | apply below_drew1 | refine below_set ?_ (IsS67.ge HI286.out)) | exact HB.out)) hb); clear HO_5; clear HI286; clear HB; have HO_5 := n0_; have HO295 := n1_; have HI286 := n2_; have HB := n3_; clear n0_ n1_ n2_ n3_; clear hb ho12; obtain ⟨Ao13, co13, eo13⟩ := Kd.R_slice HO295.out; subst eo13) | ((with_reducible refine gate_callee (f := 33) rfl ?_); refine goesL_ (some 19) rfl rfl Try.func33 (by kernel_rfl) rfl #[.pointer (some ⟨g286, 0, none⟩), .slice Ao13 y293.length co13] rfl gZ ?_; (with_reducible refine (spec_l00Src_among.calls g286 t283 x287001_1 x287002_1 _ _ y293 t296 t297 t298 w _ ?side1 ?side2 ?side3 ?side4 ?side5 A9.out).mono ?_); (case side1 => repeat (first | (with_reducible first | exact HI286.out | apply IsS67.alloc | apply IsS67.drewN | apply IsS67.drew | apply IsS67.set_1 | apply IsS67.set_2) | exact HI286.out)); (case side2 => repeat (first | (with_reducible first | exact HB.out | apply below_alloc | apply pw_below_drewN | apply below_drew1 | refine below_set ?_ (IsS67.ge HI286.out)) | exact HB.out)); (case side3 => exact Kd.cZ HO295.out); (case side4 => exact (Kd.R_reads' HO295.out).2.1); (case side5 => exact far_slice (IsS67.own_ne HI286.out HO295.out (by decide))); rintro e w14 ⟨rfl, hi, hb, hk⟩; refine ⟨_, rfl, ?_⟩; have n0_ := Aside0.mk (Kd.R_mono (Kd.R_keep (IsS67.apart (show IsS67 w _ g286 t283 x287001_1 x287002_1 from by repeat (first | (with_reducible first | exact HI286.out | apply IsS67.alloc | apply IsS67.drewN | apply IsS67.drew | apply IsS67.set_1 | apply IsS67.set_2) | exact HI286.out)) (Kd.rZ HO_5.out) (by decide)) hk (fun _ h => h.2)) (fun _ h => h.1)); have n1_ := Aside0.mk (Kd.R_mono (Kd.R_keep (IsS67.apart (show IsS67 w _ g286 t283 x287001_1 x287002_1 from by repeat (first | (with_reducible first | exact HI286.out | apply IsS67.alloc | apply IsS67.drewN | apply IsS67.drew | apply IsS67.set_1 | apply IsS67.set_2) | exact HI286.out)) (Kd.rZ HO295.out) (by decide)) hk (fun _ h => h.2)) (fun _ h => h.1)); have n2_ := Aside0.mk (hb); have n3_ := Aside0.mk (hi); clear HO_5; clear HO295; clear HB; clear HI286; have HO_5 := n0_; have HO295 := n1_; have HB := n2_; have HI286 := n3_; clear n0_ n1_ n2_ n3_; (try clear hb); (try clear hb2); (try clear hk); (try clear hi)) | ((with_reducible refine gate_builtin (b := .append) (xs := #[.tmp 16, .tmp 20]) rfl ?_); at_builtin; refine Kd.R_append (Kd.int .i64) (w0 := w) w.heap.size rfl (.tmp 16) (.tmp 20) 38 2 (.int .i64 0) 8 rfl Try.underlying38 info2 rfl (by decide) (by omega) u5 x5_1 t296 [.int .i64 t296] (fun k_ => some k_ ≠ (.slice Ao13 y293.length co13 : Value).ownBlock) (fun _ => False) rfl rfl ?aP (fun _ hk => hk.elim) ?aF ?aO ?aB ?aS ?aL ?_; (case aP => exact rfl); (case aB => exact (by repeat (first | (with_reducible first | exact HB.out | apply below_alloc | apply pw_below_drewN | apply below_drew1 | refine below_set ?_ (IsS67.ge HI286.out)) | exact HB.out))); (case aF => exact (fun k_ hk => Kd.fresh' (Kd.R_lt (Kd.rZ HO295.out)) k_ hk)); (case aO => exact (Kd.rZ (Kd.R_mono HO_5.out (fun _ hk => hk.2)))); (case aS => exact (below_size (by repeat (first | (with_reducible first | exact HB.out | apply below_alloc | apply pw_below_drewN | apply below_drew1 | refine below_set ?_ (IsS67.ge HI286.out)) | exact HB.out)))); (case aL => have := LMc10.out; omega); intro v300 w15 ho hb hg hat; rw [← Ny299.out] at ho; have n0_ := Aside0.mk (IsS67.grown (by repeat (first | (with_reducible first | exact HI286.out | apply IsS67.alloc | apply IsS67.drewN | apply IsS67.drew | apply IsS67.set_1 | apply IsS67.set_2) | exact HI286.out)) hg (IsS67.own_ne HI286.out HO_5.out (by decide))); have n1_ := Aside0.mk (Kd.R_after (ok := (fun _ => True)) (Kd.rZ HO295.out) hg hat); have n2_ := Aside0.mk (hb); have n3_ := Aside0.mk (ho); clear HI286; clear HO295; clear HB; clear HO_5; have HI286 := n0_; have HO295 := n1_; have HB := n2_; have HO301 := n3_; clear n0_ n1_ n2_ n3_; clear ho hb hg hat))
     go_roundg k1
     case measure => have := HK1.out; omega
     case rel => exact ⟨(y299), (wrap64 (x6_1 - 1)), (t297), (t298), sZ, H', ⟨by have := HK1.out; omega⟩, ⟨Kd.rZ (Kd.R_mono HO301.out (fun _ hk => trivial))⟩, ⟨by repeat (first | (with_reducible first | exact HI286.out | apply IsS67.alloc | apply IsS67.drewN | apply IsS67.drew | apply IsS67.set_1 | apply IsS67.set_2) | exact HI286.out)⟩, ⟨by repeat (first | (with_reducible first | exact HB.out | apply below_alloc | apply pw_below_drewN | apply below_drew1 | refine below_set ?_ (IsS67.ge HI286.out)) | exact HB.out)⟩⟩
    ·rw [if_neg c10] at H
     exact absurd H (by simp)
   ·rw [if_neg c8] at H
    have c8b0 : decide (0 < x6_1) = false := decide_eq_false c8
    clear c8
    replace H := Option.bind_eq_some_iff.mp H
    obtain ⟨⟨t302, t303, t304⟩, A160, H⟩ := H
    replace H : (if t302 = 0 then ((spec_l00Src_among.f t283 t303 t304 (([(-1), 1000000000000, 1000000000001] : List Int))).bind fun bt308 => (if x5_1.length < 17592186044416 then ((spec_l00Src_among.f t283 bt308.2.1 bt308.2.2 (([1, 10, 40, 100, 101, 0] : List Int))).bind fun bt317 => (some ((x5_1 ++ [bt308.1]), bt317.1))) else (none))) else (if t302 = 1 then ((spec_l00Src_among.f t283 t303 t304 (([200, 201] : List Int))).bind fun bt323 => (if 0 ≤ bt323.1 then (if (bt323.1 : Int).toNat ≤ 35184372088832 then ((spec_l00Src_among.f t283 bt323.2.1 bt323.2.2 (([1, 10, 40, 100, 101, 0] : List Int))).bind fun bt332 => (some ((List.replicate (bt323.1 : Int).toNat 0), bt332.1))) else (none)) else (none))) else ((spec_l00Src_among.f t283 t303 t304 (([1, 10, 40, 100, 101, 0] : List Int))).bind fun bt338 => (some (x5_1, bt338.1))))) = some (r1, r2) := H
    have A16 := Aside0.mk A160
    clear A160
    by_cases c17 : t302 = 0
    ·rw [if_pos c17] at H
     have c17b0 : (t302 == 0) = true := beq_iff_eq.mpr c17
     have c17b1 : (t302 != 0) = false := bne_eq_false_iff_eq.mpr c17
     clear c17
     obtain ⟨y305, hy305⟩ : ∃ y_ : List Int, y_ = (([(-1), 1000000000000, 1000000000001] : List Int)) := ⟨_, rfl⟩
     replace H : ((spec_l00Src_among.f t283 t303 t304 y305).bind fun bt308 => (if x5_1.length < 17592186044416 then ((spec_l00Src_among.f t283 bt308.2.1 bt308.2.2 (([1, 10, 40, 100, 101, 0] : List Int))).bind fun bt317 => (some ((x5_1 ++ [bt308.1]), bt317.1))) else (none))) = some (r1, r2) := by first | (rw [hy305]; with_reducible exact H) | (have H2_ := (Option.bind_some _ _).symm.trans H; rw [hy305]; with_reducible exact H2_) | (have H2_ := (Option.bind_some _ _).symm.trans H; with_reducible exact H2_) | with_reducible exact H | (rw [hy305]; exact H) | exact H
     have Ny305 := Aside0.mk hy305
     clear hy305
     replace H := Option.bind_eq_some_iff.mp H
     obtain ⟨⟨t308, t309, t310⟩, A180, H⟩ := H
     replace H : (if x5_1.length < 17592186044416 then ((spec_l00Src_among.f t283 t309 t310 (([1, 10, 40, 100, 101, 0] : List Int))).bind fun bt317 => (some ((x5_1 ++ [t308]), bt317.1))) else (none)) = some (r1, r2) := H
     have A18 := Aside0.mk A180
     clear A180
     by_cases c19 : x5_1.length < 17592186044416
     ·rw [if_pos c19] at H
      have LMc19 := Aside0.mk c19
      clear c19
      obtain ⟨y311, hy311⟩ : ∃ y_ : List Int, y_ = (x5_1 ++ [t308]) := ⟨_, rfl⟩
      replace H : ((spec_l00Src_among.f t283 t309 t310 (([1, 10, 40, 100, 101, 0] : List Int))).bind fun bt317 => (some (y311, bt317.1))) = some (r1, r2) := by first | (rw [hy311]; with_reducible exact H) | (have H2_ := (Option.bind_some _ _).symm.trans H; rw [hy311]; with_reducible exact H2_) | (have H2_ := (Option.bind_some _ _).symm.trans H; with_reducible exact H2_) | with_reducible exact H | (rw [hy311]; exact H) | exact H
      have Ny311 := Aside0.mk hy311
      clear hy311
      obtain ⟨y314, hy314⟩ : ∃ y_ : List Int, y_ = (([1, 10, 40, 100, 101, 0] : List Int)) := ⟨_, rfl⟩
      replace H : ((spec_l00Src_among.f t283 t309 t310 y314).bind fun bt317 => (some (y311, bt317.1))) = some (r1, r2) := by first | (rw [hy314]; with_reducible exact H) | (have H2_ := (Option.bind_some _ _).symm.trans H; rw [hy314]; with_reducible exact H2_) | (have H2_ := (Option.bind_some _ _).symm.trans H; with_reducible exact H2_) | with_reducible exact H | (rw [hy314]; exact H) | exact H
      have Ny314 := Aside0.mk hy314
      clear hy314
      replace H := Option.bind_eq_some_iff.mp H
      obtain ⟨⟨t317, t318, t319⟩, A200, H⟩ := H
      replace H : (some (y311, t317)) = some (r1, r2) := H
      have A20 := Aside0.mk A200
      clear A200
      simp only [Option.some.injEq, Prod.mk.injEq] at H
      obtain ⟨rfl, rfl⟩ := H
      go_wp2_with (first | ((with_reducible refine gate_callee (f := 36) rfl ?_); refine goesL_ (some 23) rfl rfl Try.func36 (by kernel_rfl) rfl #[.pointer (some ⟨g286, 0, none⟩), .int .i64 16] rfl gZ ?_; (with_reducible refine (spec_l00Src_pick.calls g286 t283 x287001_1 x287002_1 16 t302 t303 t304 w _ ?side1 ?side2 A16.out).mono ?_); (case side1 => repeat (first | (with_reducible first | exact HI286.out | apply IsS67.alloc | apply IsS67.drewN | apply IsS67.drew | apply IsS67.set_1 | apply IsS67.set_2) | exact HI286.out)); (case side2 => repeat (first | (with_reducible first | exact HB.out | apply below_alloc | apply pw_below_drewN | apply below_drew1 | refine below_set ?_ (IsS67.ge HI286.out)) | exact HB.out)); rintro e w21 ⟨rfl, hi, hb, hk⟩; refine ⟨_, rfl, ?_⟩; have n0_ := Aside0.mk (Kd.R_mono (Kd.R_keep (IsS67.apart (show IsS67 w _ g286 t283 x287001_1 x287002_1 from by repeat (first | (with_reducible first | exact HI286.out | apply IsS67.alloc | apply IsS67.drewN | apply IsS67.drew | apply IsS67.set_1 | apply IsS67.set_2) | exact HI286.out)) (Kd.rZ HO_5.out) (by decide)) hk (fun _ h => h.2)) (fun _ h => h.1)); have n1_ := Aside0.mk (hb); have n2_ := Aside0.mk (hi); clear HO_5; clear HB; clear HI286; have HO_5 := n0_; have HB := n1_; have HI286 := n2_; clear n0_ n1_ n2_; (try clear hb); (try clear hb2); (try clear hk); (try clear hi)) | ((with_reducible refine gate_dst (N := 28) rfl ?_); refine Kd.R_lit (Kd.int .i64) _ 2 ?hg (N := 28) ?hd (xs := ([(-1), 1000000000000, 1000000000001] : List Int)) (inner := [.int .i64 (-1), .int .i64 1000000000000, .int .i64 1000000000001]) (ok := fun _ => True) (okp := fun _ => True) ?hr ?hp (fun _ hk => hk) trivial (Below.refl _ _) (Nat.le_refl _) (by simp) ?_; (case hd => rfl); (case hg => rfl); (case hr => first | (go_simp; done) | (go_simp; rfl)); (case hp => exact (Reps.one (show Kd.M (Kd.int .i64) _ _ _ (-1) [.int .i64 (-1)] from rfl) (Reps.one (show Kd.M (Kd.int .i64) _ _ _ 1000000000000 [.int .i64 1000000000000] from rfl) (Reps.one (show Kd.M (Kd.int .i64) _ _ _ 1000000000001 [.int .i64 1000000000001] from rfl) (Reps.none _ _))))); intro v306 w22 ho23 hb hg_ hnew_; clear hg_ hnew_; (first | rw [← Ny305.out] at ho23 | (simp only [Int.reduceToNat] at ho23; rw [← Ny305.out] at ho23)); have n0_ := Aside0.mk (Kd.R_elder' (Kd.rZ HO_5.out) (Kd.R_base ho23) hb); have n1_ := Aside0.mk (Kd.R_lower (Kd.R_new' ho23 (Kd.R_lt (Kd.rZ HO_5.out))) (below_size (by repeat (first | (with_reducible first | exact HB.out | apply below_alloc | apply pw_below_drewN | apply below_drew1 | refine below_set ?_ (IsS67.ge HI286.out)) | exact HB.out)))); have n2_ := Aside0.mk (IsS67.below (by repeat (first | (with_reducible first | exact HI286.out | apply IsS67.alloc | apply IsS67.drewN | apply IsS67.drew | apply IsS67.set_1 | apply IsS67.set_2) | exact HI286.out)) hb); have n3_ := Aside0.mk (below_step (by repeat (first | (with_reducible first | exact HB.out | apply below_alloc | apply pw_below_drewN | apply below_drew1 | refine below_set ?_ (IsS67.ge HI286.out)) | exact HB.out)) hb); clear HO_5; clear HI286; clear HB; have HO_5 := n0_; have HO307 := n1_; have HI286 := n2_; have HB := n3_; clear n0_ n1_ n2_ n3_; clear hb ho23; obtain ⟨Ao24, co24, eo24⟩ := Kd.R_slice HO307.out; subst eo24) | ((with_reducible refine gate_callee (f := 33) rfl ?_); refine goesL_ (some 29) rfl rfl Try.func33 (by kernel_rfl) rfl #[.pointer (some ⟨g286, 0, none⟩), .slice Ao24 y305.length co24] rfl gZ ?_; (with_reducible refine (spec_l00Src_among.calls g286 t283 t303 t304 _ _ y305 t308 t309 t310 w _ ?side1 ?side2 ?side3 ?side4 ?side5 A18.out).mono ?_); (case side1 => repeat (first | (with_reducible first | exact HI286.out | apply IsS67.alloc | apply IsS67.drewN | apply IsS67.drew | apply IsS67.set_1 | apply IsS67.set_2) | exact HI286.out)); (case side2 => repeat (first | (with_reducible first | exact HB.out | apply below_alloc | apply pw_below_drewN | apply below_drew1 | refine below_set ?_ (IsS67.ge HI286.out)) | exact HB.out)); (case side3 => exact Kd.cZ HO307.out); (case side4 => exact (Kd.R_reads' HO307.out).2.1); (case side5 => exact far_slice (IsS67.own_ne HI286.out HO307.out (by decide))); rintro e w25 ⟨rfl, hi, hb, hk⟩; refine ⟨_, rfl, ?_⟩; have n0_ := Aside0.mk (Kd.R_mono (Kd.R_keep (IsS67.apart (show IsS67 w _ g286 t283 t303 t304 from by repeat (first | (with_reducible first | exact HI286.out | apply IsS67.alloc | apply IsS67.drewN | apply IsS67.drew | apply IsS67.set_1 | apply IsS67.set_2) | exact HI286.out)) (Kd.rZ HO_5.out) (by decide)) hk (fun _ h => h.2)) (fun _ h => h.1)); have n1_ := Aside0.mk (Kd.R_mono (Kd.R_keep (IsS67.apart (show IsS67 w _ g286 t283 t303 t304 from by repeat (first | (with_reducible first | exact HI286.out | apply IsS67.alloc | apply IsS67.drewN | apply IsS67.drew | apply IsS67.set_1 | apply IsS67.set_2) | exact HI286.out)) (Kd.rZ HO307.out) (by decide)) hk (fun _ h => h.2)) (fun _ h => h.1)); have n2_ := Aside0.mk (hb); have n3_ := Aside0.mk (hi); clear HO_5; clear HO307; clear HB; clear HI286; have HO_5 := n0_; have HO307 := n1_; have HB := n2_; have HI286 := n3_; clear n0_ n1_ n2_ n3_; (try clear hb); (try clear hb2); (try clear hk); (try clear hi)) | ((with_reducible refine gate_builtin (b := .append) (xs := #[.tmp 26, .tmp 30]) rfl ?_); at_builtin; refine Kd.R_append (Kd.int .i64) (w0 := w) w.heap.size rfl (.tmp 26) (.tmp 30) 38 2 (.int .i64 0) 8 rfl Try.underlying38 info2 rfl (by decide) (by omega) u5 x5_1 t308 [.int .i64 t308] (fun k_ => some k_ ≠ (.slice Ao24 y305.length co24 : Value).ownBlock) (fun _ => False) rfl rfl ?aP (fun _ hk => hk.elim) ?aF ?aO ?aB ?aS ?aL ?_; (case aP => exact rfl); (case aB => exact (by repeat (first | (with_reducible first | exact HB.out | apply below_alloc | apply pw_below_drewN | apply below_drew1 | refine below_set ?_ (IsS67.ge HI286.out)) | exact HB.out))); (case aF => exact (fun k_ hk => Kd.fresh' (Kd.R_lt (Kd.rZ HO307.out)) k_ hk)); (case aO => exact (Kd.rZ (Kd.R_mono HO_5.out (fun _ hk => hk.2)))); (case aS => exact (below_size (by repeat (first | (with_reducible first | exact HB.out | apply below_alloc | apply pw_below_drewN | apply below_drew1 | refine below_set ?_ (IsS67.ge HI286.out)) | exact HB.out)))); (case aL => have := LMc19.out; omega); intro v312 w26 ho hb hg hat; rw [← Ny311.out] at ho; have n0_ := Aside0.mk (IsS67.grown (by repeat (first | (with_reducible first | exact HI286.out | apply IsS67.alloc | apply IsS67.drewN | apply IsS67.drew | apply IsS67.set_1 | apply IsS67.set_2) | exact HI286.out)) hg (IsS67.own_ne HI286.out HO_5.out (by decide))); have n1_ := Aside0.mk (Kd.R_after (ok := (fun _ => True)) (Kd.rZ HO307.out) hg hat); have n2_ := Aside0.mk (hb); have n3_ := Aside0.mk (ho); clear HI286; clear HO307; clear HB; clear HO_5; have HI286 := n0_; have HO307 := n1_; have HB := n2_; have HO313 := n3_; clear n0_ n1_ n2_ n3_; clear ho hb hg hat) | ((with_reducible refine gate_dst (N := 40) rfl ?_); refine Kd.R_lit (Kd.int .i64) _ 2 ?hg (N := 40) ?hd (xs := ([1, 10, 40, 100, 101, 0] : List Int)) (inner := [.int .i64 1, .int .i64 10, .int .i64 40, .int .i64 100, .int .i64 101, .int .i64 0]) (ok := fun _ => True) (okp := fun _ => True) ?hr ?hp (fun _ hk => hk) trivial (Below.refl _ _) (Nat.le_refl _) (by simp) ?_; (case hd => rfl); (case hg => rfl); (case hr => first | (go_simp; done) | (go_simp; rfl)); (case hp => exact (Reps.one (show Kd.M (Kd.int .i64) _ _ _ 1 [.int .i64 1] from rfl) (Reps.one (show Kd.M (Kd.int .i64) _ _ _ 10 [.int .i64 10] from rfl) (Reps.one (show Kd.M (Kd.int .i64) _ _ _ 40 [.int .i64 40] from rfl) (Reps.one (show Kd.M (Kd.int .i64) _ _ _ 100 [.int .i64 100] from rfl) (Reps.one (show Kd.M (Kd.int .i64) _ _ _ 101 [.int .i64 101] from rfl) (Reps.one (show Kd.M (Kd.int .i64) _ _ _ 0 [.int .i64 0] from rfl) (Reps.none _ _)))))))); intro v315 w27 ho28 hb hg_ hnew_; clear hg_ hnew_; (first | rw [← Ny314.out] at ho28 | (simp only [Int.reduceToNat] at ho28; rw [← Ny314.out] at ho28)); have n0_ := Aside0.mk (Kd.R_elder' (Kd.rZ HO307.out) (Kd.R_base ho28) hb); have n1_ := Aside0.mk (Kd.R_elder' (Kd.rZ HO313.out) (Kd.R_base ho28) hb); have n2_ := Aside0.mk (Kd.R_lower (Kd.R_new' (Kd.R_new' ho28 (Kd.R_lt (Kd.rZ HO307.out))) (Kd.R_lt (Kd.rZ HO313.out))) (below_size (by repeat (first | (with_reducible first | exact HB.out | apply below_alloc | apply pw_below_drewN | apply below_drew1 | refine below_set ?_ (IsS67.ge HI286.out)) | exact HB.out)))); have n3_ := Aside0.mk (IsS67.below (by repeat (first | (with_reducible first | exact HI286.out | apply IsS67.alloc | apply IsS67.drewN | apply IsS67.drew | apply IsS67.set_1 | apply IsS67.set_2) | exact HI286.out)) hb); have n4_ := Aside0.mk (below_step (by repeat (first | (with_reducible first | exact HB.out | apply below_alloc | apply pw_below_drewN | apply below_drew1 | refine below_set ?_ (IsS67.ge HI286.out)) | exact HB.out)) hb); clear HO307; clear HO313; clear HI286; clear HB; have HO307 := n0_; have HO313 := n1_; have HO316 := n2_; have HI286 := n3_; have HB := n4_; clear n0_ n1_ n2_ n3_ n4_; clear hb ho28; obtain ⟨Ao29, co29, eo29⟩ := Kd.R_slice HO316.out; subst eo29) | ((with_reducible refine gate_callee (f := 33) rfl ?_); refine goesL_ (some 41) rfl rfl Try.func33 (by kernel_rfl) rfl #[.pointer (some ⟨g286, 0, none⟩), .slice Ao29 y314.length co29] rfl gZ ?_; (with_reducible refine (spec_l00Src_among.calls g286 t283 t309 t310 _ _ y314 t317 t318 t319 w _ ?side1 ?side2 ?side3 ?side4 ?side5 A20.out).mono ?_); (case side1 => repeat (first | (with_reducible first | exact HI286.out | apply IsS67.alloc | apply IsS67.drewN | apply IsS67.drew | apply IsS67.set_1 | apply IsS67.set_2) | exact HI286.out)); (case side2 => repeat (first | (with_reducible first | exact HB.out | apply below_alloc | apply pw_below_drewN | apply below_drew1 | refine below_set ?_ (IsS67.ge HI286.out)) | exact HB.out)); (case side3 => exact Kd.cZ HO316.out); (case side4 => exact (Kd.R_reads' HO316.out).2.1); (case side5 => exact far_slice (IsS67.own_ne HI286.out HO316.out (by decide))); rintro e w30 ⟨rfl, hi, hb, hk⟩; refine ⟨_, rfl, ?_⟩; have n0_ := Aside0.mk (Kd.R_mono (Kd.R_keep (IsS67.apart (show IsS67 w _ g286 t283 t309 t310 from by repeat (first | (with_reducible first | exact HI286.out | apply IsS67.alloc | apply IsS67.drewN | apply IsS67.drew | apply IsS67.set_1 | apply IsS67.set_2) | exact HI286.out)) (Kd.rZ HO307.out) (by decide)) hk (fun _ h => h.2)) (fun _ h => h.1)); have n1_ := Aside0.mk (Kd.R_mono (Kd.R_keep (IsS67.apart (show IsS67 w _ g286 t283 t309 t310 from by repeat (first | (with_reducible first | exact HI286.out | apply IsS67.alloc | apply IsS67.drewN | apply IsS67.drew | apply IsS67.set_1 | apply IsS67.set_2) | exact HI286.out)) (Kd.rZ HO313.out) (by decide)) hk (fun _ h => h.2)) (fun _ h => h.1)); have n2_ := Aside0.mk (Kd.R_mono (Kd.R_keep (IsS67.apart (show IsS67 w _ g286 t283 t309 t310 from by repeat (first | (with_reducible first | exact HI286.out | apply IsS67.alloc | apply IsS67.drewN | apply IsS67.drew | apply IsS67.set_1 | apply IsS67.set_2) | exact HI286.out)) (Kd.rZ HO316.out) (by decide)) hk (fun _ h => h.2)) (fun _ h => h.1)); have n3_ := Aside0.mk (hb); have n4_ := Aside0.mk (hi); clear HO307; clear HO313; clear HO316; clear HB; clear HI286; have HO307 := n0_; have HO313 := n1_; have HO316 := n2_; have HB := n3_; have HI286 := n4_; clear n0_ n1_ n2_ n3_ n4_; (try clear hb); (try clear hb2); (try clear hk); (try clear hi)))
      go_ret2
      exact ⟨_, eZ, Kd.rZ (Kd.R_mono HO313.out (fun _ hk => trivial)), by repeat (first | (with_reducible first | exact HB.out | apply below_alloc | apply pw_below_drewN | apply below_drew1 | refine below_set ?_ (IsS67.ge HI286.out)) | exact HB.out)⟩
     ·rw [if_neg c19] at H
      exact absurd H (by simp)
    ·rw [if_neg c17] at H
     have c17b0 : (t302 == 0) = false := beq_eq_false_iff_ne.mpr c17
     have c17b1 : (t302 != 0) = true := bne_iff_ne.mpr c17
     by_cases c31 : t302 = 1
     ·rw [if_pos c31] at H
      have c31b0 : (t302 == 1) = true := beq_iff_eq.mpr c31
      have c31b1 : (t302 != 1) = false := bne_eq_false_iff_eq.mpr c31
      clear c31
      obtain ⟨y320, hy320⟩ : ∃ y_ : List Int, y_ = (([200, 201] : List Int)) := ⟨_, rfl⟩
      replace H : ((spec_l00Src_among.f t283 t303 t304 y320).bind fun bt323 => (if 0 ≤ bt323.1 then (if (bt323.1 : Int).toNat ≤ 35184372088832 then ((spec_l00Src_among.f t283 bt323.2.1 bt323.2.2 (([1, 10, 40, 100, 101, 0] : List Int))).bind fun bt332 => (some ((List.replicate (bt323.1 : Int).toNat 0), bt332.1))) else (none)) else (none))) = some (r1, r2) := by first | (rw [hy320]; with_reducible exact H) | (have H2_ := (Option.bind_some _ _).symm.trans H; rw [hy320]; with_reducible exact H2_) | (have H2_ := (Option.bind_some _ _).symm.trans H; with_reducible exact H2_) | with_reducible exact H | (rw [hy320]; exact H) | exact H
      have Ny320 := Aside0.mk hy320
      clear hy320
      replace H := Option.bind_eq_some_iff.mp H
      obtain ⟨⟨t323, t324, t325⟩, A320, H⟩ := H
      replace H : (if 0 ≤ t323 then (if (t323 : Int).toNat ≤ 35184372088832 then ((spec_l00Src_among.f t283 t324 t325 (([1, 10, 40, 100, 101, 0] : List Int))).bind fun bt332 => (some ((List.replicate (t323 : Int).toNat 0), bt332.1))) else (none)) else (none)) = some (r1, r2) := H
      have A32 := Aside0.mk A320
      clear A320
      by_cases c33 : 0 ≤ t323
      ·rw [if_pos c33] at H
       have c33b0 := eq_true c33
       have c33b1 : decide (0 ≤ t323) = true := decide_eq_true c33
       clear c33
       by_cases c34 : (t323 : Int).toNat ≤ 35184372088832
       ·rw [if_pos c34] at H
        have c34b0 := eq_true c34
        have c34b1 : decide ((t323 : Int).toNat ≤ 35184372088832) = true := decide_eq_true c34
        clear c34
        obtain ⟨y326, hy326⟩ : ∃ y_ : List Int, y_ = (List.replicate (t323 : Int).toNat 0) := ⟨_, rfl⟩
        replace H : ((spec_l00Src_among.f t283 t324 t325 (([1, 10, 40, 100, 101, 0] : List Int))).bind fun bt332 => (some (y326, bt332.1))) = some (r1, r2) := by first | (rw [hy326]; with_reducible exact H) | (have H2_ := (Option.bind_some _ _).symm.trans H; rw [hy326]; with_reducible exact H2_) | (have H2_ := (Option.bind_some _ _).symm.trans H; with_reducible exact H2_) | with_reducible exact H | (rw [hy326]; exact H) | exact H
        have Ny326 := Aside0.mk hy326
        clear hy326
        obtain ⟨y329, hy329⟩ : ∃ y_ : List Int, y_ = (([1, 10, 40, 100, 101, 0] : List Int)) := ⟨_, rfl⟩
        replace H : ((spec_l00Src_among.f t283 t324 t325 y329).bind fun bt332 => (some (y326, bt332.1))) = some (r1, r2) := by first | (rw [hy329]; with_reducible exact H) | (have H2_ := (Option.bind_some _ _).symm.trans H; rw [hy329]; with_reducible exact H2_) | (have H2_ := (Option.bind_some _ _).symm.trans H; with_reducible exact H2_) | with_reducible exact H | (rw [hy329]; exact H) | exact H
        have Ny329 := Aside0.mk hy329
        clear hy329
        replace H := Option.bind_eq_some_iff.mp H
        obtain ⟨⟨t332, t333, t334⟩, A350, H⟩ := H
        replace H : (some (y326, t332)) = some (r1, r2) := H
        have A35 := Aside0.mk A350
        clear A350
        simp only [Option.some.injEq, Prod.mk.injEq] at H
        obtain ⟨rfl, rfl⟩ := H
        go_wp2_with (first | ((with_reducible refine gate_callee (f := 36) rfl ?_); refine goesL_ (some 23) rfl rfl Try.func36 (by kernel_rfl) rfl #[.pointer (some ⟨g286, 0, none⟩), .int .i64 16] rfl gZ ?_; (with_reducible refine (spec_l00Src_pick.calls g286 t283 x287001_1 x287002_1 16 t302 t303 t304 w _ ?side1 ?side2 A16.out).mono ?_); (case side1 => repeat (first | (with_reducible first | exact HI286.out | apply IsS67.alloc | apply IsS67.drewN | apply IsS67.drew | apply IsS67.set_1 | apply IsS67.set_2) | exact HI286.out)); (case side2 => repeat (first | (with_reducible first | exact HB.out | apply below_alloc | apply pw_below_drewN | apply below_drew1 | refine below_set ?_ (IsS67.ge HI286.out)) | exact HB.out)); rintro e w36 ⟨rfl, hi, hb, hk⟩; refine ⟨_, rfl, ?_⟩; have n0_ := Aside0.mk (Kd.R_mono (Kd.R_keep (IsS67.apart (show IsS67 w _ g286 t283 x287001_1 x287002_1 from by repeat (first | (with_reducible first | exact HI286.out | apply IsS67.alloc | apply IsS67.drewN | apply IsS67.drew | apply IsS67.set_1 | apply IsS67.set_2) | exact HI286.out)) (Kd.rZ HO_5.out) (by decide)) hk (fun _ h => h.2)) (fun _ h => h.1)); have n1_ := Aside0.mk (hb); have n2_ := Aside0.mk (hi); clear HO_5; clear HB; clear HI286; have HO_5 := n0_; have HB := n1_; have HI286 := n2_; clear n0_ n1_ n2_; (try clear hb); (try clear hb2); (try clear hk); (try clear hi)) | ((with_reducible refine gate_dst (N := 35) rfl ?_); refine Kd.R_lit (Kd.int .i64) _ 2 ?hg (N := 35) ?hd (xs := ([200, 201] : List Int)) (inner := [.int .i64 200, .int .i64 201]) (ok := fun _ => True) (okp := fun _ => True) ?hr ?hp (fun _ hk => hk) trivial (Below.refl _ _) (Nat.le_refl _) (by simp) ?_; (case hd => rfl); (case hg => rfl); (case hr => first | (go_simp; done) | (go_simp; rfl)); (case hp => exact (Reps.one (show Kd.M (Kd.int .i64) _ _ _ 200 [.int .i64 200] from rfl) (Reps.one (show Kd.M (Kd.int .i64) _ _ _ 201 [.int .i64 201] from rfl) (Reps.none _ _)))); intro v321 w37 ho38 hb hg_ hnew_; clear hg_ hnew_; (first | rw [← Ny320.out] at ho38 | (simp only [Int.reduceToNat] at ho38; rw [← Ny320.out] at ho38)); have n0_ := Aside0.mk (Kd.R_elder' (Kd.rZ HO_5.out) (Kd.R_base ho38) hb); have n1_ := Aside0.mk (Kd.R_lower (Kd.R_new' ho38 (Kd.R_lt (Kd.rZ HO_5.out))) (below_size (by repeat (first | (with_reducible first | exact HB.out | apply below_alloc | apply pw_below_drewN | apply below_drew1 | refine below_set ?_ (IsS67.ge HI286.out)) | exact HB.out)))); have n2_ := Aside0.mk (IsS67.below (by repeat (first | (with_reducible first | exact HI286.out | apply IsS67.alloc | apply IsS67.drewN | apply IsS67.drew | apply IsS67.set_1 | apply IsS67.set_2) | exact HI286.out)) hb); have n3_ := Aside0.mk (below_step (by repeat (first | (with_reducible first | exact HB.out | apply below_alloc | apply pw_below_drewN | apply below_drew1 | refine below_set ?_ (IsS67.ge HI286.out)) | exact HB.out)) hb); clear HO_5; clear HI286; clear HB; have HO_5 := n0_; have HO322 := n1_; have HI286 := n2_; have HB := n3_; clear n0_ n1_ n2_ n3_; clear hb ho38; obtain ⟨Ao39, co39, eo39⟩ := Kd.R_slice HO322.out; subst eo39) | ((with_reducible refine gate_callee (f := 33) rfl ?_); refine goesL_ (some 36) rfl rfl Try.func33 (by kernel_rfl) rfl #[.pointer (some ⟨g286, 0, none⟩), .slice Ao39 y320.length co39] rfl gZ ?_; (with_reducible refine (spec_l00Src_among.calls g286 t283 t303 t304 _ _ y320 t323 t324 t325 w _ ?side1 ?side2 ?side3 ?side4 ?side5 A32.out).mono ?_); (case side1 => repeat (first | (with_reducible first | exact HI286.out | apply IsS67.alloc | apply IsS67.drewN | apply IsS67.drew | apply IsS67.set_1 | apply IsS67.set_2) | exact HI286.out)); (case side2 => repeat (first | (with_reducible first | exact HB.out | apply below_alloc | apply pw_below_drewN | apply below_drew1 | refine below_set ?_ (IsS67.ge HI286.out)) | exact HB.out)); (case side3 => exact Kd.cZ HO322.out); (case side4 => exact (Kd.R_reads' HO322.out).2.1); (case side5 => exact far_slice (IsS67.own_ne HI286.out HO322.out (by decide))); rintro e w40 ⟨rfl, hi, hb, hk⟩; refine ⟨_, rfl, ?_⟩; have n0_ := Aside0.mk (Kd.R_mono (Kd.R_keep (IsS67.apart (show IsS67 w _ g286 t283 t303 t304 from by repeat (first | (with_reducible first | exact HI286.out | apply IsS67.alloc | apply IsS67.drewN | apply IsS67.drew | apply IsS67.set_1 | apply IsS67.set_2) | exact HI286.out)) (Kd.rZ HO_5.out) (by decide)) hk (fun _ h => h.2)) (fun _ h => h.1)); have n1_ := Aside0.mk (Kd.R_mono (Kd.R_keep (IsS67.apart (show IsS67 w _ g286 t283 t303 t304 from by repeat (first | (with_reducible first | exact HI286.out | apply IsS67.alloc | apply IsS67.drewN | apply IsS67.drew | apply IsS67.set_1 | apply IsS67.set_2) | exact HI286.out)) (Kd.rZ HO322.out) (by decide)) hk (fun _ h => h.2)) (fun _ h => h.1)); have n2_ := Aside0.mk (hb); have n3_ := Aside0.mk (hi); clear HO_5; clear HO322; clear HB; clear HI286; have HO_5 := n0_; have HO322 := n1_; have HB := n2_; have HI286 := n3_; clear n0_ n1_ n2_ n3_; (try clear hb); (try clear hb2); (try clear hk); (try clear hi)) | ((with_reducible refine gate_dst (N := 37) rfl ?_); refine Kd.R_make (Kd.int .i64) _ 2 rfl (N := 37) rfl 38 _ _ rfl t323 rfl rfl Try.underlying38 (.int .i64 0) 8 info2 rfl (by decide) (by omega) 0 (ok := fun _ => True) (okp := fun _ => True) rfl (fun _ hk => hk) trivial oZ (Nat.le_trans (Nat.mul_le_mul_right _ (oZ : t323.toNat ≤ 35184372088832)) (by omega)) (Below.refl _ _) (Nat.le_refl _) ?_; intro v327 w41 ho42 hb hg_ hnew_; clear hg_ hnew_; (first | rw [← Ny326.out] at ho42 | (simp only [Int.reduceToNat] at ho42; rw [← Ny326.out] at ho42)); have n0_ := Aside0.mk (Kd.R_elder' (Kd.rZ HO_5.out) (Kd.R_base ho42) hb); have n1_ := Aside0.mk (Kd.R_elder' (Kd.rZ HO322.out) (Kd.R_base ho42) hb); have n2_ := Aside0.mk (Kd.R_lower (Kd.R_new' (Kd.R_new' ho42 (Kd.R_lt (Kd.rZ HO_5.out))) (Kd.R_lt (Kd.rZ HO322.out))) (below_size (by repeat (first | (with_reducible first | exact HB.out | apply below_alloc | apply pw_below_drewN | apply below_drew1 | refine below_set ?_ (IsS67.ge HI286.out)) | exact HB.out)))); have n3_ := Aside0.mk (IsS67.below (by repeat (first | (with_reducible first | exact HI286.out | apply IsS67.alloc | apply IsS67.drewN | apply IsS67.drew | apply IsS67.set_1 | apply IsS67.set_2) | exact HI286.out)) hb); have n4_ := Aside0.mk (below_step (by repeat (first | (with_reducible first | exact HB.out | apply below_alloc | apply pw_below_drewN | apply below_drew1 | refine below_set ?_ (IsS67.ge HI286.out)) | exact HB.out)) hb); clear HO_5; clear HO322; clear HI286; clear HB; have HO_5 := n0_; have HO322 := n1_; have HO328 := n2_; have HI286 := n3_; have HB := n4_; clear n0_ n1_ n2_ n3_ n4_; clear hb ho42) | ((with_reducible refine gate_dst (N := 40) rfl ?_); refine Kd.R_lit (Kd.int .i64) _ 2 ?hg (N := 40) ?hd (xs := ([1, 10, 40, 100, 101, 0] : List Int)) (inner := [.int .i64 1, .int .i64 10, .int .i64 40, .int .i64 100, .int .i64 101, .int .i64 0]) (ok := fun _ => True) (okp := fun _ => True) ?hr ?hp (fun _ hk => hk) trivial (Below.refl _ _) (Nat.le_refl _) (by simp) ?_; (case hd => rfl); (case hg => rfl); (case hr => first | (go_simp; done) | (go_simp; rfl)); (case hp => exact (Reps.one (show Kd.M (Kd.int .i64) _ _ _ 1 [.int .i64 1] from rfl) (Reps.one (show Kd.M (Kd.int .i64) _ _ _ 10 [.int .i64 10] from rfl) (Reps.one (show Kd.M (Kd.int .i64) _ _ _ 40 [.int .i64 40] from rfl) (Reps.one (show Kd.M (Kd.int .i64) _ _ _ 100 [.int .i64 100] from rfl) (Reps.one (show Kd.M (Kd.int .i64) _ _ _ 101 [.int .i64 101] from rfl) (Reps.one (show Kd.M (Kd.int .i64) _ _ _ 0 [.int .i64 0] from rfl) (Reps.none _ _)))))))); intro v330 w43 ho44 hb hg_ hnew_; clear hg_ hnew_; (first | rw [← Ny329.out] at ho44 | (simp only [Int.reduceToNat] at ho44; rw [← Ny329.out] at ho44)); have n0_ := Aside0.mk (Kd.R_elder' (Kd.rZ HO_5.out) (Kd.R_base ho44) hb); have n1_ := Aside0.mk (Kd.R_elder' (Kd.rZ HO322.out) (Kd.R_base ho44) hb); have n2_ := Aside0.mk (Kd.R_elder' (Kd.rZ HO328.out) (Kd.R_base ho44) hb); have n3_ := Aside0.mk (Kd.R_lower (Kd.R_new' (Kd.R_new' (Kd.R_new' ho44 (Kd.R_lt (Kd.rZ HO_5.out))) (Kd.R_lt (Kd.rZ HO322.out))) (Kd.R_lt (Kd.rZ HO328.out))) (below_size (by repeat (first | (with_reducible first | exact HB.out | apply below_alloc | apply pw_below_drewN | apply below_drew1 | refine below_set ?_ (IsS67.ge HI286.out)) | exact HB.out)))); have n4_ := Aside0.mk (IsS67.below (by repeat (first | (with_reducible first | exact HI286.out | apply IsS67.alloc | apply IsS67.drewN | apply IsS67.drew | apply IsS67.set_1 | apply IsS67.set_2) | exact HI286.out)) hb); have n5_ := Aside0.mk (below_step (by repeat (first | (with_reducible first | exact HB.out | apply below_alloc | apply pw_below_drewN | apply below_drew1 | refine below_set ?_ (IsS67.ge HI286.out)) | exact HB.out)) hb); clear HO_5; clear HO322; clear HO328; clear HI286; clear HB; have HO_5 := n0_; have HO322 := n1_; have HO328 := n2_; have HO331 := n3_; have HI286 := n4_; have HB := n5_; clear n0_ n1_ n2_ n3_ n4_ n5_; clear hb ho44; obtain ⟨Ao45, co45, eo45⟩ := Kd.R_slice HO331.out; subst eo45) | ((with_reducible refine gate_callee (f := 33) rfl ?_); refine goesL_ (some 41) rfl rfl Try.func33 (by kernel_rfl) rfl #[.pointer (some ⟨g286, 0, none⟩), .slice Ao45 y329.length co45] rfl gZ ?_; (with_reducible refine (spec_l00Src_among.calls g286 t283 t324 t325 _ _ y329 t332 t333 t334 w _ ?side1 ?side2 ?side3 ?side4 ?side5 A35.out).mono ?_); (case side1 => repeat (first | (with_reducible first | exact HI286.out | apply IsS67.alloc | apply IsS67.drewN | apply IsS67.drew | apply IsS67.set_1 | apply IsS67.set_2) | exact HI286.out)); (case side2 => repeat (first | (with_reducible first | exact HB.out | apply below_alloc | apply pw_below_drewN | apply below_drew1 | refine below_set ?_ (IsS67.ge HI286.out)) | exact HB.out)); (case side3 => exact Kd.cZ HO331.out); (case side4 => exact (Kd.R_reads' HO331.out).2.1); (case side5 => exact far_slice (IsS67.own_ne HI286.out HO331.out (by decide))); rintro e w46 ⟨rfl, hi, hb, hk⟩; refine ⟨_, rfl, ?_⟩; have n0_ := Aside0.mk (Kd.R_mono (Kd.R_keep (IsS67.apart (show IsS67 w _ g286 t283 t324 t325 from by repeat (first | (with_reducible first | exact HI286.out | apply IsS67.alloc | apply IsS67.drewN | apply IsS67.drew | apply IsS67.set_1 | apply IsS67.set_2) | exact HI286.out)) (Kd.rZ HO_5.out) (by decide)) hk (fun _ h => h.2)) (fun _ h => h.1)); have n1_ := Aside0.mk (Kd.R_mono (Kd.R_keep (IsS67.apart (show IsS67 w _ g286 t283 t324 t325 from by repeat (first | (with_reducible first | exact HI286.out | apply IsS67.alloc | apply IsS67.drewN | apply IsS67.drew | apply IsS67.set_1 | apply IsS67.set_2) | exact HI286.out)) (Kd.rZ HO322.out) (by decide)) hk (fun _ h => h.2)) (fun _ h => h.1)); have n2_ := Aside0.mk (Kd.R_mono (Kd.R_keep (IsS67.apart (show IsS67 w _ g286 t283 t324 t325 from by repeat (first | (with_reducible first | exact HI286.out | apply IsS67.alloc | apply IsS67.drewN | apply IsS67.drew | apply IsS67.set_1 | apply IsS67.set_2) | exact HI286.out)) (Kd.rZ HO328.out) (by decide)) hk (fun _ h => h.2)) (fun _ h => h.1)); have n3_ := Aside0.mk (Kd.R_mono (Kd.R_keep (IsS67.apart (show IsS67 w _ g286 t283 t324 t325 from by repeat (first | (with_reducible first | exact HI286.out | apply IsS67.alloc | apply IsS67.drewN | apply IsS67.drew | apply IsS67.set_1 | apply IsS67.set_2) | exact HI286.out)) (Kd.rZ HO331.out) (by decide)) hk (fun _ h => h.2)) (fun _ h => h.1)); have n4_ := Aside0.mk (hb); have n5_ := Aside0.mk (hi); clear HO_5; clear HO322; clear HO328; clear HO331; clear HB; clear HI286; have HO_5 := n0_; have HO322 := n1_; have HO328 := n2_; have HO331 := n3_; have HB := n4_; have HI286 := n5_; clear n0_ n1_ n2_ n3_ n4_ n5_; (try clear hb); (try clear hb2); (try clear hk); (try clear hi)))
        go_ret2
        exact ⟨_, eZ, Kd.rZ (Kd.R_mono HO328.out (fun _ hk => trivial)), by repeat (first | (with_reducible first | exact HB.out | apply below_alloc | apply pw_below_drewN | apply below_drew1 | refine below_set ?_ (IsS67.ge HI286.out)) | exact HB.out)⟩
       ·rw [if_neg c34] at H
        exact absurd H (by simp)
      ·rw [if_neg c33] at H
       exact absurd H (by simp)
     ·rw [if_neg c31] at H
      have c31b0 : (t302 == 1) = false := beq_eq_false_iff_ne.mpr c31
      have c31b1 : (t302 != 1) = true := bne_iff_ne.mpr c31
      obtain ⟨y335, hy335⟩ : ∃ y_ : List Int, y_ = (([1, 10, 40, 100, 101, 0] : List Int)) := ⟨_, rfl⟩
      replace H : ((spec_l00Src_among.f t283 t303 t304 y335).bind fun bt338 => (some (x5_1, bt338.1))) = some (r1, r2) := by first | (rw [hy335]; with_reducible exact H) | (have H2_ := (Option.bind_some _ _).symm.trans H; rw [hy335]; with_reducible exact H2_) | (have H2_ := (Option.bind_some _ _).symm.trans H; with_reducible exact H2_) | with_reducible exact H | (rw [hy335]; exact H) | exact H
      have Ny335 := Aside0.mk hy335
      clear hy335
      replace H := Option.bind_eq_some_iff.mp H
      obtain ⟨⟨t338, t339, t340⟩, A470, H⟩ := H
      replace H : (some (x5_1, t338)) = some (r1, r2) := H
      have A47 := Aside0.mk A470
      clear A470
      simp only [Option.some.injEq, Prod.mk.injEq] at H
      obtain ⟨rfl, rfl⟩ := H
      go_wp2_with (first | ((with_reducible refine gate_callee (f := 36) rfl ?_); refine goesL_ (some 23) rfl rfl Try.func36 (by kernel_rfl) rfl #[.pointer (some ⟨g286, 0, none⟩), .int .i64 16] rfl gZ ?_; (with_reducible refine (spec_l00Src_pick.calls g286 t283 x287001_1 x287002_1 16 t302 t303 t304 w _ ?side1 ?side2 A16.out).mono ?_); (case side1 => repeat (first | (with_reducible first | exact HI286.out | apply IsS67.alloc | apply IsS67.drewN | apply IsS67.drew | apply IsS67.set_1 | apply IsS67.set_2) | exact HI286.out)); (case side2 => repeat (first | (with_reducible first | exact HB.out | apply below_alloc | apply pw_below_drewN | apply below_drew1 | refine below_set ?_ (IsS67.ge HI286.out)) | exact HB.out)); rintro e w48 ⟨rfl, hi, hb, hk⟩; refine ⟨_, rfl, ?_⟩; have n0_ := Aside0.mk (Kd.R_mono (Kd.R_keep (IsS67.apart (show IsS67 w _ g286 t283 x287001_1 x287002_1 from by repeat (first | (with_reducible first | exact HI286.out | apply IsS67.alloc | apply IsS67.drewN | apply IsS67.drew | apply IsS67.set_1 | apply IsS67.set_2) | exact HI286.out)) (Kd.rZ HO_5.out) (by decide)) hk (fun _ h => h.2)) (fun _ h => h.1)); have n1_ := Aside0.mk (hb); have n2_ := Aside0.mk (hi); clear HO_5; clear HB; clear HI286; have HO_5 := n0_; have HB := n1_; have HI286 := n2_; clear n0_ n1_ n2_; (try clear hb); (try clear hb2); (try clear hk); (try clear hi)) | ((with_reducible refine gate_dst (N := 40) rfl ?_); refine Kd.R_lit (Kd.int .i64) _ 2 ?hg (N := 40) ?hd (xs := ([1, 10, 40, 100, 101, 0] : List Int)) (inner := [.int .i64 1, .int .i64 10, .int .i64 40, .int .i64 100, .int .i64 101, .int .i64 0]) (ok := fun _ => True) (okp := fun _ => True) ?hr ?hp (fun _ hk => hk) trivial (Below.refl _ _) (Nat.le_refl _) (by simp) ?_; (case hd => rfl); (case hg => rfl); (case hr => first | (go_simp; done) | (go_simp; rfl)); (case hp => exact (Reps.one (show Kd.M (Kd.int .i64) _ _ _ 1 [.int .i64 1] from rfl) (Reps.one (show Kd.M (Kd.int .i64) _ _ _ 10 [.int .i64 10] from rfl) (Reps.one (show Kd.M (Kd.int .i64) _ _ _ 40 [.int .i64 40] from rfl) (Reps.one (show Kd.M (Kd.int .i64) _ _ _ 100 [.int .i64 100] from rfl) (Reps.one (show Kd.M (Kd.int .i64) _ _ _ 101 [.int .i64 101] from rfl) (Reps.one (show Kd.M (Kd.int .i64) _ _ _ 0 [.int .i64 0] from rfl) (Reps.none _ _)))))))); intro v336 w49 ho50 hb hg_ hnew_; clear hg_ hnew_; (first | rw [← Ny335.out] at ho50 | (simp only [Int.reduceToNat] at ho50; rw [← Ny335.out] at ho50)); have n0_ := Aside0.mk (Kd.R_elder' (Kd.rZ HO_5.out) (Kd.R_base ho50) hb); have n1_ := Aside0.mk (Kd.R_lower (Kd.R_new' ho50 (Kd.R_lt (Kd.rZ HO_5.out))) (below_size (by repeat (first | (with_reducible first | exact HB.out | apply below_alloc | apply pw_below_drewN | apply below_drew1 | refine below_set ?_ (IsS67.ge HI286.out)) | exact HB.out)))); have n2_ := Aside0.mk (IsS67.below (by repeat (first | (with_reducible first | exact HI286.out | apply IsS67.alloc | apply IsS67.drewN | apply IsS67.drew | apply IsS67.set_1 | apply IsS67.set_2) | exact HI286.out)) hb); have n3_ := Aside0.mk (below_step (by repeat (first | (with_reducible first | exact HB.out | apply below_alloc | apply pw_below_drewN | apply below_drew1 | refine below_set ?_ (IsS67.ge HI286.out)) | exact HB.out)) hb); clear HO_5; clear HI286; clear HB; have HO_5 := n0_; have HO337 := n1_; have HI286 := n2_; have HB := n3_; clear n0_ n1_ n2_ n3_; clear hb ho50; obtain ⟨Ao51, co51, eo51⟩ := Kd.R_slice HO337.out; subst eo51) | ((with_reducible refine gate_callee (f := 33) rfl ?_); refine goesL_ (some 41) rfl rfl Try.func33 (by kernel_rfl) rfl #[.pointer (some ⟨g286, 0, none⟩), .slice Ao51 y335.length co51] rfl gZ ?_; (with_reducible refine (spec_l00Src_among.calls g286 t283 t303 t304 _ _ y335 t338 t339 t340 w _ ?side1 ?side2 ?side3 ?side4 ?side5 A47.out).mono ?_); (case side1 => repeat (first | (with_reducible first | exact HI286.out | apply IsS67.alloc | apply IsS67.drewN | apply IsS67.drew | apply IsS67.set_1 | apply IsS67.set_2) | exact HI286.out)); (case side2 => repeat (first | (with_reducible first | exact HB.out | apply below_alloc | apply pw_below_drewN | apply below_drew1 | refine below_set ?_ (IsS67.ge HI286.out)) | exact HB.out)); (case side3 => exact Kd.cZ HO337.out); (case side4 => exact (Kd.R_reads' HO337.out).2.1); (case side5 => exact far_slice (IsS67.own_ne HI286.out HO337.out (by decide))); rintro e w52 ⟨rfl, hi, hb, hk⟩; refine ⟨_, rfl, ?_⟩; have n0_ := Aside0.mk (Kd.R_mono (Kd.R_keep (IsS67.apart (show IsS67 w _ g286 t283 t303 t304 from by repeat (first | (with_reducible first | exact HI286.out | apply IsS67.alloc | apply IsS67.drewN | apply IsS67.drew | apply IsS67.set_1 | apply IsS67.set_2) | exact HI286.out)) (Kd.rZ HO_5.out) (by decide)) hk (fun _ h => h.2)) (fun _ h => h.1)); have n1_ := Aside0.mk (Kd.R_mono (Kd.R_keep (IsS67.apart (show IsS67 w _ g286 t283 t303 t304 from by repeat (first | (with_reducible first | exact HI286.out | apply IsS67.alloc | apply IsS67.drewN | apply IsS67.drew | apply IsS67.set_1 | apply IsS67.set_2) | exact HI286.out)) (Kd.rZ HO337.out) (by decide)) hk (fun _ h => h.2)) (fun _ h => h.1)); have n2_ := Aside0.mk (hb); have n3_ := Aside0.mk (hi); clear HO_5; clear HO337; clear HB; clear HI286; have HO_5 := n0_; have HO337 := n1_; have HB := n2_; have HI286 := n3_; clear n0_ n1_ n2_ n3_; (try clear hb); (try clear hb2); (try clear hk); (try clear hi)))
      go_ret2
      exact ⟨_, eZ, Kd.rZ (Kd.R_mono HO_5.out (fun _ hk => trivial)), by repeat (first | (with_reducible first | exact HB.out | apply below_alloc | apply pw_below_drewN | apply below_drew1 | refine below_set ?_ (IsS67.ge HI286.out)) | exact HB.out)⟩
end Go.Proofs.Ytpkcjkfkohmcfaa.XN
end

section
namespace Go.Proofs.Ytpkcjkfkohmcfaa.XN
open Go.RowKit Go.Proofs.YtpkcjkfkohmcfaaW.PrintWords Go.Proofs.YtpkcjkfkohmcfaaW.PrintLast Go.Proofs.YtpkcjkfkohmcfaaW.PrintMore
attribute [local go_sem] run_eql_slice_nil binOp_string_gtr' binOp_string_leq' binOp_string_geq' max2_int min2_int max_two min_two max_three min_three max_four min_four   -- for this text's walks alone
set_option linter.unusedVariables false
set_option linter.unusedSimpArgs false
def impl_allWithin.ok (a1 a2 x : Int) : Bool := decide (a1 ≤ x) && decide (x ≤ a2)
def impl_allWithin.f (l0 : List Int) (a1 : Int) (a2 : Int) : Option (Bool) := some (l0.all (impl_allWithin.ok a1 a2))
theorem impl_allWithin.ok_t {a1 a2 x : Int} (h1 : a1 ≤ x) (h2 : x ≤ a2) : impl_allWithin.ok a1 a2 x = true := by simp [impl_allWithin.ok, h1, h2]
theorem impl_allWithin.ok_f {a1 a2 x : Int} (h : ¬ (a1 ≤ x ∧ x ≤ a2)) : impl_allWithin.ok a1 a2 x = false := by simp only [impl_allWithin.ok, Bool.and_eq_false_iff, decide_eq_false_iff_not]; omega
theorem impl_allWithin.take_t {a1 a2 : Int} {l : List Int} {k : Nat} (hk : k < l.length) (h : ∀ x ∈ l.take k, impl_allWithin.ok a1 a2 x = true) (hx : impl_allWithin.ok a1 a2 (rd l k) = true) : ∀ x ∈ l.take (k + 1), impl_allWithin.ok a1 a2 x = true := by
 rw [List.take_succ_eq_append_getElem hk]
 intro x hm
 rcases List.mem_append.1 hm with hm | hm
 ·exact h x hm
 ·rw [List.mem_singleton.1 hm]
  have : rd l (k : Int) = l[k] := by unfold rd; simp [List.getD_eq_getElem?_getD, List.getElem?_eq_getElem hk]
  rwa [this] at hx
theorem impl_allWithin.f_all {a1 a2 : Int} {l : List Int} {r : Bool} (h : impl_allWithin.f l a1 a2 = some r) (ha : ∀ x ∈ l.take l.length, impl_allWithin.ok a1 a2 x = true) : r = true := by
 have := Option.some.inj h
 rw [← this, List.all_eq_true]
 simpa using ha
theorem impl_allWithin.f_no {a1 a2 : Int} {l : List Int} {r : Bool} {k : Nat} (h : impl_allWithin.f l a1 a2 = some r) (hk : k < l.length) (hx : impl_allWithin.ok a1 a2 (rd l k) = false) : r = false := by
 have := Option.some.inj h
 rw [← this, List.all_eq_false]
 have e : rd l (k : Int) = l[k] := by unfold rd; simp [List.getD_eq_getElem?_getD, List.getElem?_eq_getElem hk]
 exact ⟨l[k], List.getElem_mem hk, by rw [← e, hx]; simp⟩
set_option maxHeartbeats 2000000 in
set_option maxRecDepth 100000 in
theorem impl_allWithin.calls (A0 : Option Addr) (c0 : Nat) (l0 : List Int) (a1 : Int) (a2 : Int) (r : Bool) (w : World) (hr0 : Kd.C (Kd.int .i64) w A0 l0.length l0) (hc0 : l0.length ≤ c0) (h : impl_allWithin.f l0 a1 a2 = some r) :
  Calls Try.prog 37 #[.slice A0 l0.length c0, .int .i64 a1, .int .i64 a2] w fun e w' => e = .returned (.bool r) ∧ Below w.heap.size w w' := by
 have HL := Aside0.mk hr0.2.1
 have HR0 := Aside0.mk (Kd.C_below hr0 ((Below.refl w.heap.size w).alloc (Nat.le_refl _) (.cells #[.int .i64 a1] 2) |>.alloc (by simp) (.cells #[.int .i64 a2] 2)))
 have HC0 := Aside0.mk hc0
 have H := Aside0.mk h
 clear hr0 hc0 h
 go_enter Try.func37, Try.ntmps37
 go_wp2
 go_loop [8] (fun v => ∃ k : Nat, k ≤ l0.length ∧ v = .int .i64 k ∧ Aside0 (∀ x ∈ l0.take k, impl_allWithin.ok a1 a2 x = true)) (fun v => l0.length - (intOf v).toNat)
 case atStart => exact ⟨0, Nat.zero_le _, rfl, ⟨by simp⟩⟩
 case round =>
  obtain ⟨k, hk, rfl, hall⟩ := hrel
  have hmax := HL.out
  by_cases hlt : k < l0.length
  ·obtain ⟨ad, e, hx⟩ := Kd.at_int HR0.out (k : Int) (by omega) (by omega)
   cases e
   rw [Int.toNat_natCast] at hx
   by_cases h1 : a1 ≤ rd l0 k
   ·by_cases h2 : rd l0 k ≤ a2
    ·have HT := Aside0.mk (impl_allWithin.take_t hlt hall.out (impl_allWithin.ok_t h1 h2))
     clear hall
     go_wp2
     go_round
     case rel => exact ⟨k + 1, by omega, by go_num, HT⟩
     case measure => simp [intOf]; omega
    ·have HT := Aside0.mk (impl_allWithin.f_no H.out hlt (impl_allWithin.ok_f (by omega)))
     clear hall
     go_wp2
     go_ret
     exact ⟨by rw [HT.out]; rfl, (Below.refl w.heap.size w).alloc (Nat.le_refl _) (.cells #[.int .i64 a1] 2) |>.alloc (by simp) (.cells #[.int .i64 a2] 2)⟩
   ·have HT := Aside0.mk (impl_allWithin.f_no H.out hlt (impl_allWithin.ok_f (by omega)))
    clear hall
    go_wp2
    go_ret
    exact ⟨by rw [HT.out]; rfl, (Below.refl w.heap.size w).alloc (Nat.le_refl _) (.cells #[.int .i64 a1] 2) |>.alloc (by simp) (.cells #[.int .i64 a2] 2)⟩
  ·have hkl : k = l0.length := by omega
   subst hkl
   have HT := Aside0.mk (impl_allWithin.f_all H.out hall.out)
   clear hall
   go_wp2
   go_ret
   exact ⟨by rw [HT.out]; rfl, (Below.refl w.heap.size w).alloc (Nat.le_refl _) (.cells #[.int .i64 a1] 2) |>.alloc (by simp) (.cells #[.int .i64 a2] 2)⟩
def strings_Repeat.f (a0 : ByteArray) (a1 : Int) : Option (ByteArray) := if 0 ≤ a1 ∧ a1 ≤ 9223372036854775807 ∧ (a0.size : Int) * a1 ≤ 140737488355328 then some ⟨(Lib.repeatL a0.data.toList a1.toNat).toArray⟩ else none
theorem strings_Repeat.calls (a0 : ByteArray) (a1 : Int) (r : ByteArray) (w : World) (h : strings_Repeat.f a0 a1 = some r) :
  Calls Try.prog 38 #[.string a0, .int .i64 a1] w fun e w' => e = .returned (.string r) ∧ Below w.heap.size w w' := by
 unfold strings_Repeat.f at h
 by_cases hc : 0 ≤ a1 ∧ a1 ≤ 9223372036854775807 ∧ (a0.size : Int) * a1 ≤ 140737488355328
 ·rw [if_pos hc] at h
  obtain rfl := Option.some.inj h
  obtain ⟨n, rfl⟩ : ∃ n : Nat, a1 = n := ⟨a1.toNat, by omega⟩
  have h2 : a0.size * n ≤ 140737488355328 := by
   have := hc.2.2
   rw [← Int.natCast_mul] at this
   omega
  rw [Int.toNat_natCast]
  exact Try.strings_Repeat a0 n w (by omega) h2
 ·rw [if_neg hc] at h
  exact absurd h (by simp)
def impl_reportOrFull.f (k : Nat) (l0 : List ByteArray) : Option (List ByteArray × Int) := (impl_ValidReport.f k l0).bind fun t341 => (if t341 = true then (some (l0, 0)) else (some (([] : List ByteArray), 5)))
set_option maxHeartbeats 8000000 in
set_option maxRecDepth 100000 in
theorem impl_reportOrFull.calls (k : Nat) (P0_ : Nat → Prop) (u9000_ : Value) (l0 : List ByteArray) (r1 : List ByteArray) (r2 : Int) (w0 w : World) (hB : Below w0.heap.size w0 w) (ho0 : Kd.R Kd.string 9 w w0.heap.size P0_ u9000_ l0) (h : impl_reportOrFull.f k l0 = some (r1, r2)) :
  Calls Try.prog 39 #[u9000_] w fun e w' => ∃ v0_ : Value, e = .returned (.tuple #[v0_, .int .i64 r2]) ∧ Kd.R Kd.string 9 w' w0.heap.size (fun k_ => (P0_ k_ ∨ w.heap.size ≤ k_)) v0_ r1 ∧ Below w0.heap.size w0 w' ∧ Kept w w' (fun k_ => P0_ k_) := by
 have HO0 := Aside0.mk (show Kd.R Kd.string 9 w w0.heap.size (fun k_ => (P0_ k_ ∨ w.heap.size ≤ k_)) u9000_ l0 from Kd.R_mono ho0 (fun k_ hk => (.inl hk)))
 have HK := Aside0.mk (Kept.refl w (fun k_ => P0_ k_))
 have HW0 := Aside0.mk hB.size
 have HB := Aside0.mk hB
 clear hB
 have H : ((impl_ValidReport.f k l0).bind fun t341 => (if t341 = true then (some (l0, 0)) else (some (([] : List ByteArray), 5)))) = some (r1, r2) := h
 clear h
 replace H := Option.bind_eq_some_iff.mp H
 obtain ⟨t341, A20, H⟩ := H
 replace H : (if t341 = true then (some (l0, 0)) else (some (([] : List ByteArray), 5))) = some (r1, r2) := H
 have A2 := Aside0.mk A20
 clear A20
 by_cases c3 : t341 = true
 ·subst c3
  have H1 : (some (l0, 0)) = some (r1, r2) := by rw [if_pos rfl] at H; exact H
  clear H
  have H := H1
  clear H1
  simp only [Option.some.injEq, Prod.mk.injEq] at H
  obtain ⟨rfl, rfl⟩ := H
  obtain ⟨Ao4, co4, eo4⟩ := Kd.R_slice HO0.out
  subst eo4
  go_enter Try.func39, Try.ntmps39
  go_wp2_with (first | ((with_reducible refine gate_callee (f := 25) rfl ?_); refine goesL_ (some 5) rfl rfl Try.func25 (by kernel_rfl) rfl #[.slice Ao4 l0.length co4] rfl gZ ?_; (with_reducible refine (impl_ValidReport.calls k _ _ l0 true _ ?side1 ?side2 A2.out).mono ?_); (case side1 => exact Kd.cZ HO0.out); (case side2 => exact (Kd.R_reads' HO0.out).2.1); rintro e w' ⟨rfl, ⟨nd, rfl⟩⟩; refine ⟨_, rfl, ?_⟩))
  go_ret2
  exact ⟨_, eZ, Kd.rZ HO0.out, bZ, by repeat (first | (with_reducible first | exact HK.out | apply Kept.alloc | apply Kept.drewN | apply Kept.drew) | exact HK.out)⟩
 ·replace c3 := Bool.eq_false_iff.mpr c3
  subst c3
  have H1 : (some (([] : List ByteArray), 5)) = some (r1, r2) := by rw [if_neg (show ¬ (false = true) by decide)] at H; exact H
  clear H
  have H := H1
  clear H1
  simp only [Option.some.injEq, Prod.mk.injEq] at H
  obtain ⟨rfl, rfl⟩ := H
  obtain ⟨Ao5, co5, eo5⟩ := Kd.R_slice HO0.out
  subst eo5
  go_enter Try.func39, Try.ntmps39
  go_wp2_with (first | ((with_reducible refine gate_callee (f := 25) rfl ?_); refine goesL_ (some 5) rfl rfl Try.func25 (by kernel_rfl) rfl #[.slice Ao5 l0.length co5] rfl gZ ?_; (with_reducible refine (impl_ValidReport.calls k _ _ l0 false _ ?side1 ?side2 A2.out).mono ?_); (case side1 => exact Kd.cZ HO0.out); (case side2 => exact (Kd.R_reads' HO0.out).2.1); rintro e w' ⟨rfl, ⟨nd, rfl⟩⟩; refine ⟨_, rfl, ?_⟩))
  go_ret2
  exact ⟨_, eZ, by first | exact Kd.R_nil _ _ _ _ _ | exact Kd.N_nil _ _ _ _ _ | exact Kd.V_nil _ _ _ _ _ | exact Kd.Q_nil _ _ _ _ _ | exact Kd.S_nil _ _ _ _ _, bZ, by repeat (first | (with_reducible first | exact HK.out | apply Kept.alloc | apply Kept.drewN | apply Kept.drew) | exact HK.out)⟩
end Go.Proofs.Ytpkcjkfkohmcfaa.XN
end

section
namespace Go.Proofs.Ytpkcjkfkohmcfaa.XN
open Go.RowKit Go.Proofs.YtpkcjkfkohmcfaaW.PrintWords Go.Proofs.YtpkcjkfkohmcfaaW.PrintLast Go.Proofs.YtpkcjkfkohmcfaaW.PrintMore
attribute [local go_sem] run_eql_slice_nil binOp_string_gtr' binOp_string_leq' binOp_string_geq' max2_int min2_int max_two min_two max_three min_three max_four min_four   -- for this text's walks alone
set_option linter.unusedVariables false
set_option linter.unusedSimpArgs false
mutual
def impl_BarLines.j0 : Nat → List Int → Int → Bool → Option (List ByteArray × Int)
 | 0, _, _, _ => none
 | k + 1, x0, x1, x19 => if x19 = true then (some (([] : List ByteArray), 2)) else (impl_BarLines.l0 k x0 x1 0 x0 (x0.length : Int) 0)
def impl_BarLines.l0 : Nat → List Int → Int → Int → List Int → Int → Int → Option (List ByteArray × Int)
 | 0, _, _, _, _, _, _ => none
 | k + 1, x0, x1, x6, x20, x21, x22 => if x22 < x21 then (if 0 ≤ x22 then (if x22 < (x20.length : Int) then (impl_BarLines.l0 k x0 x1 (mx x6 (rd x20 x22)) x20 x21 (wrap64 (x22 + 1))) else (none)) else (none)) else (impl_BarLines.l1 k x1 x6 ([] : List ByteArray) x0 (x0.length : Int) 0)
def impl_BarLines.l1 : Nat → Int → Int → List ByteArray → List Int → Int → Int → Option (List ByteArray × Int)
 | 0, _, _, _, _, _, _ => none
 | k + 1, x1, x6, x9, x30, x31, x32 => if x32 < x31 then (if 0 ≤ x32 then (if x32 < (x30.length : Int) then (if (mx x6 1) = 0 then (none) else ((strings_Repeat.f (⟨#[35]⟩ : ByteArray) (wrap64 (Int.tdiv (wrap64 ((rd x30 x32) * x1)) (mx x6 1)))).bind fun t346 => (if x9.length < 8796093022208 then (impl_BarLines.l1 k x1 x6 (x9 ++ [t346]) x30 x31 (wrap64 (x32 + 1))) else (none)))) else (none)) else (none)) else ((impl_reportOrFull.f k x9).bind fun bt350 => (some (bt350.1, bt350.2)))
end
def impl_BarLines.f (k : Nat) (l0 : List Int) (a1 : Int) : Option (List ByteArray × Int) := (impl_allWithin.f l0 0 1000000000000).bind fun t342 => (if t342 = true then ((impl_within.f a1 1 100).bind fun t343 => (impl_BarLines.j0 k l0 a1 (!t343))) else (impl_BarLines.j0 k l0 a1 true))
set_option maxHeartbeats 8000000 in
set_option maxRecDepth 100000 in
theorem impl_BarLines.calls (k : Nat) (A0 : Option Addr) (c0 : Nat) (l0 : List Int) (a1 : Int) (r1 : List ByteArray) (r2 : Int) (w : World) (hr0 : Kd.C (Kd.int .i64) w A0 l0.length l0) (hc0 : l0.length ≤ c0) (h : impl_BarLines.f k l0 a1 = some (r1, r2)) :
  Calls Try.prog 21 #[.slice A0 l0.length c0, .int .i64 a1] w fun e w' => ∃ v0_ : Value, e = .returned (.tuple #[v0_, .int .i64 r2]) ∧ Kd.R Kd.string 9 w' w.heap.size (fun _ => True) v0_ r1 ∧ Below w.heap.size w w' := by
 have HR0 := Aside0.mk hr0
 have HC0 := Aside0.mk hc0
 clear hr0 hc0
 have HB := Aside0.mk (Below.refl w.heap.size w)
 have H : ((impl_allWithin.f l0 0 1000000000000).bind fun t342 => (if t342 = true then ((impl_within.f a1 1 100).bind fun t343 => (impl_BarLines.j0 k l0 a1 (!t343))) else (impl_BarLines.j0 k l0 a1 true))) = some (r1, r2) := h
 clear h
 have HC3 := Aside0.mk H
 clear H
 go_enter Try.func21, Try.ntmps21
 go_upto_region 1 with (fail)
 go_cut [19] (fun v19 wc => ∃ (kq : Nat) (x19_2 : Bool), v19 = .bool x19_2 ∧ Aside0 (impl_BarLines.j0 kq l0 a1 x19_2 = some (r1, r2)) ∧ Aside0 (kq ≤ k) ∧ Aside0 (Below w.heap.size w wc))
 case first =>
  have H := HC3.out
  clear HC3
  replace H := Option.bind_eq_some_iff.mp H
  obtain ⟨t342, A40, H⟩ := H
  replace H : (if t342 = true then ((impl_within.f a1 1 100).bind fun t343 => (impl_BarLines.j0 k l0 a1 (!t343))) else (impl_BarLines.j0 k l0 a1 true)) = some (r1, r2) := H
  have A4 := Aside0.mk A40
  clear A40
  by_cases c5 : t342 = true
  ·subst c5
   have H1 : ((impl_within.f a1 1 100).bind fun t343 => (impl_BarLines.j0 k l0 a1 (!t343))) = some (r1, r2) := by rw [if_pos rfl] at H; exact H
   clear H
   have H := H1
   clear H1
   replace H := Option.bind_eq_some_iff.mp H
   obtain ⟨t343, A60, H⟩ := H
   replace H : (impl_BarLines.j0 k l0 a1 (!t343)) = some (r1, r2) := H
   have A6 := Aside0.mk A60
   clear A60
   have H' := Aside0.mk H
   clear H
   go_wp2_with (first | ((with_reducible refine gate_callee (f := 37) rfl ?_); refine goesL_ (some 13) rfl rfl Try.func37 (by kernel_rfl) rfl #[.slice A0 l0.length c0, .int .i64 0, .int .i64 1000000000000] rfl gZ ?_; (with_reducible refine (impl_allWithin.calls _ _ l0 0 1000000000000 true _ ?side1 ?side2 A4.out).mono ?_); (case side1 => repeat (first | exact (Kd.C_below HR0.out HB.out) | (with_reducible refine Kd.C_alloc ?_ _) | (with_reducible refine Kd.C_drewN ?_ _) | (with_reducible refine Kd.C_drew ?_))); (case side2 => exact HC0.out); rintro e w7 ⟨rfl, hb⟩; refine ⟨_, rfl, ?_⟩; have n0_ := Aside0.mk (below_step bZ hb); clear HB; have HB := n0_; clear n0_; (try clear hb); (try clear hb2); (try clear hk); (try clear hi)) | (go_at_call 26; (with_reducible refine (impl_within.calls a1 1 100 t343 _ A6.out).mono ?_); rintro e w' ⟨rfl, ⟨nd, rfl⟩⟩))
   go_meet
   case rel => exact ⟨_, (!t343), sZ, H', ⟨by first | omega | exact Nat.le_refl _⟩, ⟨bZ⟩⟩
  ·replace c5 := Bool.eq_false_iff.mpr c5
   subst c5
   have H1 : (impl_BarLines.j0 k l0 a1 true) = some (r1, r2) := by rw [if_neg (show ¬ (false = true) by decide)] at H; exact H
   clear H
   have H := H1
   clear H1
   have H' := Aside0.mk H
   clear H
   go_wp2_with (first | ((with_reducible refine gate_callee (f := 37) rfl ?_); refine goesL_ (some 13) rfl rfl Try.func37 (by kernel_rfl) rfl #[.slice A0 l0.length c0, .int .i64 0, .int .i64 1000000000000] rfl gZ ?_; (with_reducible refine (impl_allWithin.calls _ _ l0 0 1000000000000 false _ ?side1 ?side2 A4.out).mono ?_); (case side1 => repeat (first | exact (Kd.C_below HR0.out HB.out) | (with_reducible refine Kd.C_alloc ?_ _) | (with_reducible refine Kd.C_drewN ?_ _) | (with_reducible refine Kd.C_drew ?_))); (case side2 => exact HC0.out); rintro e w8 ⟨rfl, hb⟩; refine ⟨_, rfl, ?_⟩; have n0_ := Aside0.mk (below_step bZ hb); clear HB; have HB := n0_; clear n0_; (try clear hb); (try clear hb2); (try clear hk); (try clear hi)))
   go_meet
   case rel => exact ⟨_, (true), sZ, H', ⟨by first | omega | exact Nat.le_refl _⟩, ⟨bZ⟩⟩
 case rest =>
  clear HC3; (try clear c2); (try clear p2); (try clear c3); (try clear c5)
  obtain ⟨kq, x19_2, rfl, HA, HJ2, HB⟩ := hcut
  cases kq with
  | zero => exact absurd HA.out (by simp [impl_BarLines.j0])
  | succ kj2 =>
   have H := HA.out
   clear HA
   simp only [impl_BarLines.j0] at H
   by_cases c9 : x19_2 = true
   ·subst c9
    have H1 : (some (([] : List ByteArray), 2)) = some (r1, r2) := by rw [if_pos rfl] at H; exact H
    clear H
    have H := H1
    clear H1
    simp only [Option.some.injEq, Prod.mk.injEq] at H
    obtain ⟨rfl, rfl⟩ := H
    go_wp2
    go_ret2
    exact ⟨_, eZ, by first | exact Kd.R_nil _ _ _ _ _ | exact Kd.N_nil _ _ _ _ _ | exact Kd.V_nil _ _ _ _ _ | exact Kd.Q_nil _ _ _ _ _ | exact Kd.S_nil _ _ _ _ _, bZ⟩
   ·replace c9 := Bool.eq_false_iff.mpr c9
    subst c9
    have H1 : (impl_BarLines.l0 kj2 l0 a1 0 l0 (l0.length : Int) 0) = some (r1, r2) := by rw [if_neg (show ¬ (false = true) by decide)] at H; exact H
    clear H
    have H := H1
    clear H1
    have H' := Aside0.mk H
    clear H
    go_wp2
    go_loopg [6, 22] kj2 (fun kq v6 v22 w' => ∃ (x6_2 : Int) (x22_2 : Int), v6 = .int .i64 x6_2 ∧ v22 = .int .i64 x22_2 ∧ Aside0 (impl_BarLines.l0 kq l0 a1 x6_2 l0 (l0.length : Int) x22_2 = some (r1, r2)) ∧ Aside0 (kq ≤ kj2) ∧ Aside0 (Below w.heap.size w w'))
    case atStart => exact ⟨(0), (0), sZ, sZ, H', ⟨Nat.le_refl _⟩, ⟨bZ⟩⟩
    case round =>
     clear H'; (try clear c2); (try clear p2); (try clear c3); (try clear c5); (try clear c9); (try clear p2)
     obtain ⟨x6_2, x22_2, rfl, rfl, HA, HK2, HB⟩ := hrel
     cases gk with
     | zero => exact absurd HA.out (by simp [impl_BarLines.l0])
     | succ k2 =>
      have H := HA.out
      clear HA
      simp only [impl_BarLines.l0] at H
      by_cases c10 : x22_2 < (l0.length : Int)
      ·rw [if_pos c10] at H
       have c10b0 : decide (x22_2 < (l0.length : Int)) = true := decide_eq_true c10
       clear c10
       by_cases c11 : 0 ≤ x22_2
       ·rw [if_pos c11] at H
        have c11b0 : decide (0 ≤ x22_2) = true := decide_eq_true c11
        clear c11
        by_cases c12 : x22_2 < (l0.length : Int)
        ·rw [if_pos c12] at H
         have c12b0 : decide (x22_2 < (l0.length : Int)) = true := decide_eq_true c12
         clear c12
         obtain ⟨ji13, hji13⟩ : ∃ j_ : Int, (mx x6_2 (rd l0 x22_2)) = j_ := ⟨_, rfl⟩
         replace H : (impl_BarLines.l0 k2 l0 a1 ji13 l0 (l0.length : Int) (wrap64 (x22_2 + 1))) = some (r1, r2) := by first | (rw [hji13] at H; exact H) | (simp only [hji13] at H ⊢; exact H)
         have hji13_ : (if x6_2 < (rd l0 x22_2) then (rd l0 x22_2) else x6_2) = ji13 := hji13
         have H' := Aside0.mk H
         clear H
         have p344 : 0 ≤ (x22_2 : Int) := oZ
         have q344 : x22_2 < (l0.length : Int) := oZ
         obtain ⟨ad344, e344, hx344_0⟩ := Kd.at_int HR0.out x22_2 p344 q344
         cases e344
         replace hx344_0 := (HB.out.cell (World.block_lt_of_cell? w _ hx344_0)).trans hx344_0
         replace p344 := eq_true p344
         replace q344 := eq_true q344
         go_wp2
         go_roundg k2
         case measure => have := HJ2.out; have := HK2.out; omega
         case rel => exact ⟨(ji13), (wrap64 (x22_2 + 1)), (by first | rfl | (simp; done) | (simp only [← hji13] <;> (first | rfl | simp)) | (simp [*]; done)), sZ, H', ⟨by have := HJ2.out; have := HK2.out; omega⟩, ⟨bZ⟩⟩
        ·rw [if_neg c12] at H
         exact absurd H (by simp)
       ·rw [if_neg c11] at H
        exact absurd H (by simp)
      ·rw [if_neg c10] at H
       have c10b0 : decide (x22_2 < (l0.length : Int)) = false := decide_eq_false c10
       clear c10
       have H' := Aside0.mk H
       clear H
       go_wp2
       go_loopg [9, 32] k2 (fun kq v9 v32 w' => ∃ (x9_3 : List ByteArray) (x32_3 : Int), v32 = .int .i64 x32_3 ∧ Aside0 (impl_BarLines.l1 kq a1 x6_2 x9_3 l0 (l0.length : Int) x32_3 = some (r1, r2)) ∧ Aside0 (kq ≤ k2) ∧ Aside0 (Kd.R Kd.string 9 w' w.heap.size (fun _ => True) v9 x9_3) ∧ Aside0 (Below w.heap.size w w'))
       case atStart => exact ⟨(([] : List ByteArray)), (0), sZ, H', ⟨Nat.le_refl _⟩, ⟨by first | exact Kd.R_nil _ _ _ _ _ | exact Kd.N_nil _ _ _ _ _ | exact Kd.V_nil _ _ _ _ _ | exact Kd.Q_nil _ _ _ _ _ | exact Kd.S_nil _ _ _ _ _⟩, ⟨bZ⟩⟩
       case round =>
        clear H'; (try clear c1); (try clear c2); (try clear p2); (try clear c3); (try clear p3); (try clear q3); (try clear hx3); (try clear c5); (try clear p6); (try clear c9); (try clear c10); (try clear c10b0); (try clear c11); (try clear c11b0); (try clear c12); (try clear c12b0); (try clear hx344_0); (try clear p2); (try clear p344); (try clear q344)
        obtain ⟨x9_3, x32_3, rfl, HA, HK3, HO_9, HB⟩ := hrel
        cases gk with
        | zero => exact absurd HA.out (by simp [impl_BarLines.l1])
        | succ k3 =>
         have H := HA.out
         clear HA
         simp only [impl_BarLines.l1] at H
         by_cases c14 : x32_3 < (l0.length : Int)
         ·rw [if_pos c14] at H
          have c14b0 : decide (x32_3 < (l0.length : Int)) = true := decide_eq_true c14
          clear c14
          by_cases c15 : 0 ≤ x32_3
          ·rw [if_pos c15] at H
           have c15b0 : decide (0 ≤ x32_3) = true := decide_eq_true c15
           clear c15
           by_cases c16 : x32_3 < (l0.length : Int)
           ·rw [if_pos c16] at H
            have c16b0 : decide (x32_3 < (l0.length : Int)) = true := decide_eq_true c16
            clear c16
            obtain ⟨ji17, hji17⟩ : ∃ j_ : Int, (mx x6_2 1) = j_ := ⟨_, rfl⟩
            replace H : (if (ji17) = 0 then (none) else ((strings_Repeat.f (⟨#[35]⟩ : ByteArray) (wrap64 (Int.tdiv (wrap64 ((rd l0 x32_3) * a1)) (ji17)))).bind fun t346 => (if x9_3.length < 8796093022208 then (impl_BarLines.l1 k3 a1 x6_2 (x9_3 ++ [t346]) l0 (l0.length : Int) (wrap64 (x32_3 + 1))) else (none)))) = some (r1, r2) := by first | (rw [hji17] at H; exact H) | (simp only [hji17] at H ⊢; exact H)
            have hji17_ : (if x6_2 < 1 then 1 else x6_2) = ji17 := hji17
            by_cases c18 : (ji17) = 0
            ·rw [if_pos c18] at H
             exact absurd H (by simp)
            ·rw [if_neg c18] at H
             have c18b0 : ((ji17) == 0) = false := beq_eq_false_iff_ne.mpr c18
             have c18b1 : ((ji17) != 0) = true := bne_iff_ne.mpr c18
             replace H := Option.bind_eq_some_iff.mp H
             obtain ⟨t346, A190, H⟩ := H
             replace H : (if x9_3.length < 8796093022208 then (impl_BarLines.l1 k3 a1 x6_2 (x9_3 ++ [t346]) l0 (l0.length : Int) (wrap64 (x32_3 + 1))) else (none)) = some (r1, r2) := H
             have A19 := Aside0.mk A190
             clear A190
             by_cases c20 : x9_3.length < 8796093022208
             ·rw [if_pos c20] at H
              have LMc20 := Aside0.mk c20
              clear c20
              obtain ⟨y347, hy347⟩ : ∃ y_ : List ByteArray, y_ = (x9_3 ++ [t346]) := ⟨_, rfl⟩
              replace H : (impl_BarLines.l1 k3 a1 x6_2 y347 l0 (l0.length : Int) (wrap64 (x32_3 + 1))) = some (r1, r2) := by first | (rw [hy347]; with_reducible exact H) | (have H2_ := (Option.bind_some _ _).symm.trans H; rw [hy347]; with_reducible exact H2_) | (have H2_ := (Option.bind_some _ _).symm.trans H; with_reducible exact H2_) | with_reducible exact H | (rw [hy347]; exact H) | exact H
              have Ny347 := Aside0.mk hy347
              clear hy347
              have H' := Aside0.mk H
              clear H
              have p345 : 0 ≤ (x32_3 : Int) := oZ
              have q345 : x32_3 < (l0.length : Int) := oZ
              obtain ⟨ad345, e345, hx345_0⟩ := Kd.at_int HR0.out x32_3 p345 q345
              cases e345
              replace hx345_0 := (HB.out.cell (World.block_lt_of_cell? w _ hx345_0)).trans hx345_0
              replace p345 := eq_true p345
              replace q345 := eq_true q345
              go_wp2_with (first | ((with_reducible refine gate_callee (f := 38) rfl ?_); refine goesL_ (some 43) rfl rfl Try.func38 (by kernel_rfl) rfl #[.string (⟨#[35]⟩ : ByteArray), .int .i64 (wrap64 (Int.tdiv (wrap64 ((rd l0 x32_3) * a1)) (ji17)))] rfl (by (try simp only [List.map_toArray, List.map_cons, List.map_nil]); first | done | (simp only [hji17]; rfl) | rfl | (simp only [List.length_drop, List.length_take]; rfl)) ?_; (with_reducible refine (strings_Repeat.calls (⟨#[35]⟩ : ByteArray) (wrap64 (Int.tdiv (wrap64 ((rd l0 x32_3) * a1)) (ji17))) t346 _ A19.out).mono ?_); rintro e w21 ⟨rfl, hb⟩; refine ⟨_, rfl, ?_⟩; have n0_ := Aside0.mk (Kd.R_below (Kd.rZ HO_9.out) hb); have n1_ := Aside0.mk (below_step bZ hb); clear HO_9; clear HB; have HO_9 := n0_; have HB := n1_; clear n0_ n1_; (try clear hb); (try clear hb2); (try clear hk); (try clear hi)) | ((with_reducible refine gate_builtin (b := .append) (xs := #[.tmp 36, .tmp 44]) rfl ?_); at_builtin; refine Kd.R_append Kd.string (w0 := w) w.heap.size rfl (.tmp 36) (.tmp 44) 22 9 (.string ⟨#[]⟩) 16 rfl Try.underlying22 info9 rfl (by decide) (by omega) u9 x9_3 t346 [.string t346] (fun _ => True) (fun _ => False) rfl rfl ?aP (fun _ hk => hk.elim) ?aF ?aO ?aB ?aS ?aL ?_; (case aP => exact rfl); (case aB => exact bZ); (case aF => exact (fun _ _ => trivial)); (case aO => exact (Kd.rZ HO_9.out)); (case aS => exact bsZ); (case aL => have := LMc20.out; omega); intro v348 w22 ho hb hg hat; rw [← Ny347.out] at ho; have n0_ := Aside0.mk (hb); have n1_ := Aside0.mk (ho); clear HB; clear HO_9; have HB := n0_; have HO349 := n1_; clear n0_ n1_; clear ho hb hg hat))
              go_roundg k3
              case measure => have := HJ2.out; have := HK2.out; have := HK3.out; omega
              case rel => exact ⟨(y347), (wrap64 (x32_3 + 1)), sZ, H', ⟨by have := HJ2.out; have := HK2.out; have := HK3.out; omega⟩, ⟨Kd.rZ HO349.out⟩, ⟨bZ⟩⟩
             ·rw [if_neg c20] at H
              exact absurd H (by simp)
           ·rw [if_neg c16] at H
            exact absurd H (by simp)
          ·rw [if_neg c15] at H
           exact absurd H (by simp)
         ·rw [if_neg c14] at H
          have c14b0 : decide (x32_3 < (l0.length : Int)) = false := decide_eq_false c14
          clear c14
          replace H := Option.bind_eq_some_iff.mp H
          obtain ⟨⟨t350, t353⟩, A230, H⟩ := H
          replace H : (some (t350, t353)) = some (r1, r2) := H
          have A23 := Aside0.mk A230
          clear A230
          simp only [Option.some.injEq, Prod.mk.injEq] at H
          obtain ⟨rfl, rfl⟩ := H
          obtain ⟨Ao24, co24, eo24⟩ := Kd.R_slice HO_9.out
          subst eo24
          go_wp2_with (first | ((with_reducible refine gate_callee (f := 39) rfl ?_); refine goesL_ (some 48) rfl rfl Try.func39 (by kernel_rfl) rfl #[.slice Ao24 x9_3.length co24] rfl gZ ?_; (with_reducible refine (impl_reportOrFull.calls k3 (fun k_ => some k_ = (.slice Ao24 x9_3.length co24 : Value).ownBlock) (.slice Ao24 x9_3.length co24) x9_3 t350 t353 w _ ?side1 ?side2 A23.out).mono ?_); (case side1 => repeat (first | (with_reducible first | exact HB.out | apply below_alloc | apply pw_below_drewN | apply below_drew1) | exact HB.out)); (case side2 => exact Kd.R_tight rfl HO_9.out); rintro e w25 ⟨v351, rfl, ho0, hb, hkp⟩; refine ⟨_, rfl, ?_⟩; have n0_ := Aside0.mk (Kd.R_mono (ok' := fun k_ => True) ho0 (fun k_ hk_ => trivial)); have n1_ := Aside0.mk (hb); clear HB; clear HO_9; have HO352 := n0_; have HB := n1_; clear n0_ n1_; (try clear hb); (try clear hkp); (try clear ho0)))
          go_ret2
          exact ⟨_, eZ, Kd.rZ HO352.out, bZ⟩
end Go.Proofs.Ytpkcjkfkohmcfaa.XN
end
