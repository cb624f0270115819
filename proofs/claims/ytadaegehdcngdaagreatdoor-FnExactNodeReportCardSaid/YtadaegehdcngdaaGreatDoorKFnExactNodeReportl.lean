/- The law FnExactNodeReport: part 11 of its texts, joined (wip/pack.py). -/
import Derived.Test.YtadaegehdcngdaaGreatDoorKFnExactNodeReporta
import Derived.Test.YtadaegehdcngdaaGreatDoorKFnExactNodeReportb
import Derived.Test.YtadaegehdcngdaaGreatDoorKFnExactNodeReportc
import Derived.Test.YtadaegehdcngdaaGreatDoorKFnExactNodeReportd
import Derived.Test.YtadaegehdcngdaaGreatDoorKFnExactNodeReporte
import Derived.Test.YtadaegehdcngdaaGreatDoorKFnExactNodeReportf
import Derived.Test.YtadaegehdcngdaaGreatDoorKFnExactNodeReportg
import Derived.Test.YtadaegehdcngdaaGreatDoorKFnExactNodeReporth
import Derived.Test.YtadaegehdcngdaaGreatDoorKFnExactNodeReporti
import Derived.Test.YtadaegehdcngdaaGreatDoorKFnExactNodeReportj
import Derived.Test.YtadaegehdcngdaaGreatDoorKFnExactNodeReportk
import Derived.Test.YtadaegehdcngdaaGreatDoorRows
import Derived.WalkKit
import Derived.ProofKit
import Derived.OpenShut
import Derived.ShutString
import Derived.ChangeOld
import Derived.Below
import Derived.SizedLaws
import Derived.HandedShaped
import Derived.Lib.LaidTab
import Derived.Lib.ItoaNum
import Derived.LaidMore
import Derived.Lay
import Derived.SevenTiedAt
import Derived.Stop.Joined
import Derived.Test.YtadaegehdcngdaaGreatDoorTie
import Derived.Test.YtadaegehdcngdaaGreatDoorCards

section
namespace Go.Proofs.YtadaegehdcngdaaGreatDoor.RowFnExactNodeReport
open Go.ChangeShapes Go.WideShapes Go.ChangeAt Go.RowKit Go.Proofs.YtadaegehdcngdaaGreatDoorW.PrintWords Go.Proofs.YtadaegehdcngdaaGreatDoor.XV Go.Proofs.YtadaegehdcngdaaGreatDoor.Open
open Go.ChangeMaps (open_string shut_string)
set_option linter.unusedVariables false
theorem own : ownKnob Tryz.prog.godebug = none := by kernel_rfl
theorem laidOut : laidOutB Tryz.prog = true := by kernel_rfl
set_option maxRecDepth 100000 in
theorem lifted (os : Os) (started : os.Started) (H : Type) (enc : TypeId × Value → H) :
    ReturnsInHanded {} Tryz.checked os 3 .any (fun w args => (Rows.fnExactNodeReportSpec.pre enc Tryz.prog Tryz.f3 Rows.fnExactNodeReportRow.domain false w args ∧ laidMetH Tryz.prog Rows.fnExactNodeReportRow.laid w) ∧ sizedMet enc Tryz.prog Tryz.f3 (OpenSpec.ofChange Rows.fnExactNodeReportSpec) false w args) (Rows.fnExactNodeReportSpec.post enc Tryz.prog Tryz.f3 false true false false) := by
  refine LaidKit.returns_laid_shaped (C := Tryz.checked) (X := fun w _ => laidMetH Tryz.prog Rows.fnExactNodeReportRow.laid w) (fun _ _ _ hh h => h.of_heap hh) own started (by kernel_rfl) Tryz.func3
    (ChangeSpec.witness_shaped (enc := enc) (C := Tryz.checked) (os := os) (X := fun w _ => laidMetH Tryz.prog Rows.fnExactNodeReportRow.laid w) false (World.laidAll Tryz.prog os Rows.fnExactNodeReportRow.laid) #[(.agg #[(.slice none 0 0), (.slice none 0 0)]), (.slice none 0 0)] 8 (World.laidAll_os _ _ _)
      (World.shaped_of_ZipB (by kernel_rfl) (by kernel_rfl)) (by kernel_rfl) (by kernel_rfl) (by kernel_rfl)
      (by rw [MakeChecks.laidMetH_plain _ _ _ (by kernel_rfl)]; exact laidMet_laidAll _ (by kernel_rfl) (by kernel_rfl))) ?_
  intro W base args ds gs before hval0 hW hcnd hsz0 hLD hsh _
  have hsz : (DataW.weightsEach Tryz.prog (Tryz.f3.params.toList ++ Rows.fnExactNodeReportSpec.plain.varTypes Tryz.prog) (ds ++ gs)).all (· ≤ reachBytes) = true := hsz0
  have hval : ∀ (j : Nat) t v, Tryz.f3.params[j]? = some t → args[j]? = some v → Value.okWide Tryz.prog W .any base t v := hval0
  have hW' := hW
  obtain ⟨p, q, hA0, hV, rfl, hfz, hnd⟩ := hW
  have hA : DataW.TrodAll enc Tryz.prog W 0 (fun _ => true) true Tryz.f3.params.toList args.toList ds p := hA0
  rw [Tryz.params3] at hA hval hsz
  obtain ⟨v0, vs0, d0, ds0, p0, q0, hargs, rfl, rfl, h0, r0⟩ := trodAll_cons hA
  obtain ⟨v1, vs1, d1, ds1, p1, q1, rfl, rfl, rfl, h1, r1⟩ := trodAll_cons r0
  obtain ⟨rfl, rfl, rfl⟩ := trodAll_nil r1
  obtain rfl : args = #[v0, v1] := by cases args; simp_all
  obtain ⟨rfl, rfl⟩ := trodVars_none hV
  have kk0 := h0
  have lt0 : ∀ x ∈ p0, x.block < W.heap.size := by obtain ⟨m, hm⟩ := kk0; exact DataW.trod_lt m _ _ _ hm
  obtain ⟨cs0, a0, rfl, hK0, hq0⟩ := open_st Tryz.underlying25 opens25 (hval 0 25 v0 rfl rfl) h0
  obtain ⟨A0_0, c0_0, A0_1, c0_1, rfl, hc0_0, hr0_0, hc0_1, hr0_1⟩ := k25_open hK0
  have kk1 := h1
  have lt1 : ∀ x ∈ p1, x.block < W.heap.size := by obtain ⟨m, hm⟩ := kk1; exact DataW.trod_lt m _ _ _ hm
  obtain ⟨A1, c1, a1, rfl, hc1, hr1, hq1⟩ := open_sl Tryz.underlying22 (by kernel_rfl) (Opens.int Tryz.underlying2 (by kernel_rfl)) (hval 1 22 v1 rfl rfl) h1
  have hst : ShT Tryz.prog W := ⟨hsh, by
    have h_ : laidMetH Tryz.prog Rows.fnExactNodeReportRow.laid W := hLD
    rw [MakeChecks.laidMetH_plain _ _ _ (by kernel_rfl)] at h_
    have e_ : Rows.fnExactNodeReportRow.laid = Rows.fnExactNodeReportRow.laid.take 2 ++ ("internal/strconv.uint64pow10", Lib.tabData .u64 Lib.pow10Tab) :: Rows.fnExactNodeReportRow.laid.drop 3 := by kernel_rfl
    rw [e_] at h_
    exact Lib.tabIs_of_head (g := (Tryz.prog.globalNamed "internal/strconv.uint64pow10").getD 0) (t := ((Tryz.prog.globals[(Tryz.prog.globalNamed "internal/strconv.uint64pow10").getD 0]?).map (·.type)).getD 0) (e := 113) (n := 20) (by kernel_rfl) (by kernel_rfl) (by kernel_rfl) (by kernel_rfl) (by kernel_rfl) (by kernel_rfl) (LaidKit.laidMet_from h_)⟩
  obtain ⟨k, hp⟩ := PureFnExactNodeReport.pure a0 a1 hq0 hq1
  clear hA0 hval0 hsz0 hsz
  refine (laws_FnExactNodeReport.calls k A0_0 c0_0 a0.f0 A0_1 c0_1 a0.f1 A1 c1 a1 true W hr0_0 hc0_0 hr0_1 hc0_1 hr1 hc1 hst hp).mono fun e W' ⟨he, bel0⟩ => ?_
  have bel : Below W.heap.size W W' := bel0
  subst he
  exact ⟨_, rfl, _, _, _, [], _, [], hW', trodAll_mk1 (shut_bool Tryz.underlying4 _), (trodAll_cons_mk (Below.trod laidOut (by kernel_rfl) (of_decide_eq_true (by kernel_rfl)) kk0 bel lt0) (trodAll_cons_mk (Below.trod laidOut (by kernel_rfl) (of_decide_eq_true (by kernel_rfl)) kk1 bel lt1) trodAll_mk0)), rfl, bel.frame _, fun h => by cases h⟩
theorem over : Rows.fnExactNodeReportRow.holds Tryz.pinned (OpenSpec.ofChange Rows.fnExactNodeReportSpec) :=
  OpenClaim.holds_of_wide 3 Tryz.f3 rfl rfl rfl rfl rfl rfl rfl ⟨rfl, rfl, rfl, rfl, rfl⟩ rfl rfl rfl rfl rfl (by kernel_rfl) Tryz.func3 (by kernel_rfl)
    (of_decide_eq_true (by kernel_rfl)) (by unfold Func.isWrapper; first | (rw [if_pos (by decide +kernel)]; kernel_rfl) | (rw [if_neg (by decide +kernel)]; exact ⟨rfl, rfl⟩))
    (fun os started H enc _ => lifted os started H enc)
end Go.Proofs.YtadaegehdcngdaaGreatDoor.RowFnExactNodeReport
namespace Go.Proofs.YtadaegehdcngdaaGreatDoor
theorem fnExactNodeReport_holds : Rows.FnExactNodeReportSaid := RowFnExactNodeReport.over
theorem fnExactNodeReport_card_holds : Rows.FnExactNodeReportCardSaid :=
  Claim7.holds_tied_plain_at .later [] [.data, .data, .data, .data, .pinned] true (true, "a8a4fb448eedc8c5943b38041d64f9c13a3100edf626fc5433c87dec384f93dd") false fnExactNodeReport_holds (fun _ h => by cases h) (by kernel_rfl) (fun _ h => by cases h) fnExactNodeReport_row_tie rfl ⟨rfl, rfl⟩ (by kernel_rfl) rfl
    (fun f fn hf hfn => by
      obtain rfl : f = 3 := Option.some.inj ((show Tryz.prog.funcNamed "loop.example/g01011/laws.FnExactNodeReport" = some 3 by kernel_rfl).symm.trans hf) |>.symm
      obtain rfl : fn = Tryz.f3 := (Option.some.inj (Tryz.func3.symm.trans hfn)).symm
      exact ⟨by kernel_rfl, fun j t ht => by
        rw [Tryz.params3] at ht
        have hm : t ∈ [25, 22] := by simpa using Array.mem_of_getElem? ht
        have hall : ([25, 22].all fun u => !Tryz.prog.wantsStandIn u) = true := by kernel_rfl
        exact (show Tryz.prog.wantsStandIn t = false by simpa using List.all_eq_true.1 hall t hm)⟩)
    (by kernel_rfl)
end Go.Proofs.YtadaegehdcngdaaGreatDoor
end
