/- The law FnExactDamagedLines: part 6 of its texts, joined (wip/pack.py). -/
import Derived.Test.YtkllogmpaaeokaaDoorKFnExactDamagedLinesa
import Derived.Test.YtkllogmpaaeokaaDoorKFnExactDamagedLinesb
import Derived.Test.YtkllogmpaaeokaaDoorKFnExactDamagedLinesc
import Derived.Test.YtkllogmpaaeokaaDoorKFnExactDamagedLinesd
import Derived.Test.YtkllogmpaaeokaaDoorKFnExactDamagedLinese
import Derived.Test.YtkllogmpaaeokaaDoorKFnExactDamagedLinesf
import Derived.Handed
import Derived.HandedShaped
import Derived.SizedLaws
import Derived.Stop.LaidErr
import Derived.Test.YtkllogmpaaeokaaDoorRows
import Derived.WalkKit
import Derived.ProofKit
import Derived.OpenShut
import Derived.ShutString
import Derived.ChangeOld
import Derived.Below
import Derived.Lib.LaidTab
import Derived.Lib.ItoaNum
import Derived.LaidMore
import Derived.Lay
import Derived.SevenTiedAt
import Derived.Stop.Joined
import Derived.Test.YtkllogmpaaeokaaDoorTie
import Derived.Test.YtkllogmpaaeokaaDoorCards

section
namespace Go.Proofs.YtkllogmpaaeokaaDoor.PureFnExactDamagedLines
open Go.RowKit Go.Proofs.YtkllogmpaaeokaaDoorW.PrintWords Go.Proofs.YtkllogmpaaeokaaDoor.XS Go.Proofs.YtkllogmpaaeokaaDoor.EvK Go.Proofs.YtkllogmpaaeokaaDoor.PParse Go.Proofs.YtkllogmpaaeokaaDoor.PLinesS Go.Proofs.YtkllogmpaaeokaaDoor.SS
set_option linter.unusedVariables false
set_option linter.unusedSimpArgs false
theorem rd_take (x : List ByteArray) (n i : Nat) (h : i < n) : rdOf ByteArray.empty (x.take n) (i : Int) = rdOf ByteArray.empty x (i : Int) := by
  unfold rdOf
  simp [List.getD_eq_getElem?_getD, List.getElem?_take, h]
theorem rd_size (x : List ByteArray) (hx : ∀ y ∈ x, y.size ≤ 1048576) (i : Nat) (h : i < x.length) : (rdOf ByteArray.empty x (i : Int)).size ≤ 1048576 := by
  rw [rdOf_at x _ i h]
  exact hx _ (List.getElem_mem h)
theorem empty_iff (b : ByteArray) : b.toList.isEmpty = true ↔ b.toList = ([] : List UInt8) := List.isEmpty_iff
theorem tail_ev (x : List ByteArray) (hl : x.length ≤ 1048577) (hx : ∀ y ∈ x, y.size ≤ 1048576) (n : Nat) (hn : x.length = n + 1) (e : Bool) (he : e = (rdOf (⟨#[]⟩ : ByteArray) x (n : Int)).toList.isEmpty) :
    ∀ (d q : Nat) (a : List Int), q + d = n → 1 ≤ q → a.length + 1 ≤ q → ∃ r : List Int, r.length ≤ n ∧ Ev (fun k => spec_DamagedLines.l0 k (x.take n) e a (q : Int)) r ∧ Ev (fun k => impl_DamagedLines.l0 k x a x (x.length : Int) (q : Int)) r := by
  have hw : wrap64 ((x.length : Int) - 1) = (n : Int) := by rw [w64 (by omega) (by omega)]; omega
  have hln : (x.take n).length = n := by rw [List.length_take]; omega
  have fin : ∀ r : List Int, Ev (fun k => impl_DamagedLines.l0 k x r x (x.length : Int) ((n : Int) + 1)) r := by
    intro r
    refine Ev.step (fun k => impl_DamagedLines.l0.eq_2 _ _ _ _ _ k) ?_
    simp only [if_neg (show ¬ ((n : Int) + 1) < (x.length : Int) by omega)]
    exact Ev.now _
  intro d
  induction d with
  | zero =>
    intro q a hq h1 ha
    obtain rfl : q = n := by omega
    obtain ⟨p, _, _, hp⟩ := parse_ev _ (rd_size x hx q (by omega))
    have wq := w64 (show -9223372036854775808 ≤ (q : Int) + 1 by omega) (by omega)
    refine ⟨if e = true then a else a ++ [(q : Int) + 1], ?_, Ev.step (fun k => spec_DamagedLines.l0.eq_2 _ _ _ _ k) ?_, Ev.step (fun k => impl_DamagedLines.l0.eq_2 _ _ _ _ _ k) ?_⟩
    · split
      · omega
      · rw [List.length_append]; simp only [List.length_cons, List.length_nil]; omega
    · simp only [hln, if_neg (show ¬ (q : Int) < (q : Int) by omega), wq, if_pos (show a.length < 17592186044416 by omega)]
      split <;> exact Ev.now _
    · simp only [if_pos (show (q : Int) < (x.length : Int) by omega), if_pos (show (0 : Int) ≤ (q : Int) by omega), hw, if_true, if_pos (show a.length < 17592186044416 by omega), wq]
      refine Ev.bind hp ?_
      cases e with
      | true =>
        have h0 : (rdOf ByteArray.empty x (q : Int)).toList = ([] : List UInt8) := (empty_iff _).1 he.symm
        simp only [if_pos h0, if_true]
        exact fin _
      | false =>
        have h0 : ¬ (rdOf ByteArray.empty x (q : Int)).toList = ([] : List UInt8) := fun h => by
          have := (empty_iff (rdOf ByteArray.empty x (q : Int))).2 h
          exact absurd (he.trans this) (by decide)
        simp only [if_neg h0, Bool.false_eq_true, if_false]
        exact fin _
  | succ d ih =>
    intro q a hq h1 ha
    have hlt : q < n := by omega
    obtain ⟨p, _, hp1, hp2⟩ := parse_ev _ (rd_size x hx q (by omega))
    have wq := w64 (show -9223372036854775808 ≤ (q : Int) + 1 by omega) (by omega)
    have hne : ¬ (q : Int) = (n : Int) := by omega
    by_cases hc : p.2.2.2 = 0
    · obtain ⟨r, hr, g1, g2⟩ := ih (q + 1) a (by omega) (by omega) (by omega)
      refine ⟨r, hr, Ev.step (fun k => spec_DamagedLines.l0.eq_2 _ _ _ _ k) ?_, Ev.step (fun k => impl_DamagedLines.l0.eq_2 _ _ _ _ _ k) ?_⟩
      · simp only [hln, if_pos (show (q : Int) < (n : Int) by omega), if_pos (show (0 : Int) ≤ (q : Int) by omega), rd_take x n q hlt, wq]
        refine Ev.bind hp1 ?_
        simp only [if_pos hc]
        simpa using g1
      · simp only [if_pos (show (q : Int) < (x.length : Int) by omega), if_pos (show (0 : Int) ≤ (q : Int) by omega), hw, if_neg hne, wq, if_pos (show (q : Int) > 0 by omega)]
        refine Ev.bind hp2 ?_
        simp only [if_pos hc]
        simpa using g2
    · obtain ⟨r, hr, g1, g2⟩ := ih (q + 1) (a ++ [(q : Int) + 1]) (by omega) (by omega) (by rw [List.length_append]; simp only [List.length_cons, List.length_nil]; omega)
      refine ⟨r, hr, Ev.step (fun k => spec_DamagedLines.l0.eq_2 _ _ _ _ k) ?_, Ev.step (fun k => impl_DamagedLines.l0.eq_2 _ _ _ _ _ k) ?_⟩
      · simp only [hln, if_pos (show (q : Int) < (n : Int) by omega), if_pos (show (0 : Int) ≤ (q : Int) by omega), rd_take x n q hlt, wq]
        refine Ev.bind hp1 ?_
        simp only [if_neg hc, if_pos (show a.length < 17592186044416 by omega)]
        simpa using g1
      · simp only [if_pos (show (q : Int) < (x.length : Int) by omega), if_pos (show (0 : Int) ≤ (q : Int) by omega), hw, if_neg hne, wq, if_pos (show (q : Int) > 0 by omega)]
        refine Ev.bind hp2 ?_
        simp only [if_neg hc, if_pos (show a.length < 17592186044416 by omega)]
        simpa using g2
theorem both_ev (s : ByteArray) (hs : s.size ≤ 1048576) : ∃ r : List Int, r.length ≤ 1048576 ∧ Ev (fun k => spec_DamagedLines.f k s) r ∧ Ev (fun k => impl_DamagedLines.f k s) r := by
  obtain ⟨x, h0, h1, h2, h3, h4, h5⟩ := lines_ev s hs
  obtain ⟨n, hn⟩ : ∃ n, x.length = n + 1 := ⟨x.length - 1, by omega⟩
  rw [show x.length - 1 = n by omega, show ((x.length : Int) - 1) = (n : Int) by omega] at h5
  have hw : wrap64 ((x.length : Int) - 1) = (n : Int) := by rw [w64 (by omega) (by omega)]; omega
  obtain ⟨e, he⟩ : ∃ e, e = (rdOf (⟨#[]⟩ : ByteArray) x (n : Int)).toList.isEmpty := ⟨_, rfl⟩
  rw [← he] at h5
  obtain ⟨p, _, _, hp⟩ := parse_ev _ (rd_size x h2 0 h0)
  by_cases hz : n = 0
  · subst hz
    refine ⟨if e = true then [] else [1], by split <;> simp, ?_, ?_⟩
    · unfold spec_DamagedLines.f
      refine Ev.bind h5 ?_
      refine Ev.step (fun k => spec_DamagedLines.l0.eq_2 _ _ _ _ k) ?_
      simp only [List.take_zero, List.length_nil, if_neg (show ¬ (1 : Int) < ((0 : Nat) : Int) by omega), if_pos (show 0 < 17592186044416 by omega), List.nil_append]
      have : wrap64 (((0 : Nat) : Int) + 1) = 1 := by rw [w64 (by omega) (by omega)]; omega
      rw [this]
      split <;> exact Ev.now _
    · unfold impl_DamagedLines.f
      rw [h4]
      simp only [Option.bind_some]
      have fin : ∀ r : List Int, Ev (fun k => impl_DamagedLines.l0 k x r x (x.length : Int) 1) r := by
        intro r
        refine Ev.step (fun k => impl_DamagedLines.l0.eq_2 _ _ _ _ _ k) ?_
        simp only [if_neg (show ¬ (1 : Int) < (x.length : Int) by omega)]
        exact Ev.now _
      refine Ev.step (fun k => impl_DamagedLines.l0.eq_2 _ _ _ _ _ k) ?_
      have w1 : wrap64 ((0 : Int) + 1) = 1 := by rw [w64 (by omega) (by omega)]; omega
      have hw0 : (0 : Int) = wrap64 ((x.length : Int) - 1) := by rw [hw]; rfl
      simp only [if_pos (show (0 : Int) < (x.length : Int) by omega), if_pos (show (0 : Int) ≤ (0 : Int) by omega), if_pos hw0, w1, List.length_nil, if_pos (show 0 < 17592186044416 by omega), List.nil_append]
      refine Ev.bind (show Ev (fun k => impl_blockOf.f k (rdOf ByteArray.empty x 0)) p from hp) ?_
      cases e with
      | true =>
        have g0 : (rdOf ByteArray.empty x (0 : Int)).toList = ([] : List UInt8) := (empty_iff _).1 he.symm
        simp only [if_pos g0, if_true]
        exact fin _
      | false =>
        have g0 : ¬ (rdOf ByteArray.empty x (0 : Int)).toList = ([] : List UInt8) := fun h => by
          have := (empty_iff (rdOf ByteArray.empty x (0 : Int))).2 h
          exact absurd (he.trans this) (by decide)
        simp only [if_neg g0, Bool.false_eq_true, if_false]
        exact fin _
  · obtain ⟨r, hr, g1, g2⟩ := tail_ev x h1 h2 n hn e he (n - 1) 1 [] (by omega) (by omega) (by simp)
    refine ⟨r, by omega, ?_, ?_⟩
    · unfold spec_DamagedLines.f
      exact Ev.bind h5 g1
    · unfold impl_DamagedLines.f
      rw [h4]
      simp only [Option.bind_some]
      refine Ev.step (fun k => impl_DamagedLines.l0.eq_2 _ _ _ _ _ k) ?_
      have w1 : wrap64 ((0 : Int) + 1) = 1 := by rw [w64 (by omega) (by omega)]; omega
      simp only [if_pos (show (0 : Int) < (x.length : Int) by omega), if_pos (show (0 : Int) ≤ (0 : Int) by omega), hw, if_neg (show ¬ (0 : Int) = (n : Int) by omega), w1, if_neg (show ¬ (0 : Int) > 0 by omega)]
      exact Ev.bind (show Ev (fun k => impl_blockOf.f k (rdOf ByteArray.empty x 0)) p from hp) g2
theorem pure : laws_FnExactDamagedLines.Pure := by
  intro s hq
  apply EvP.rounds
  unfold laws_FnExactDamagedLines.f
  by_cases hw1 : (s.size : Int) > 1048576
  · simp only [if_pos hw1]
    exact EvP.now rfl
  simp only [if_neg hw1]
  obtain ⟨r, hr, e1, e2⟩ := both_ev s (by omega)
  have hei := eqInt64S_ev r (by omega)
  obtain ⟨y, hy1, hy2, hy3⟩ := markInt64S_ev r 1 (by omega) (by omega)
  refine EvP.bind e1 (EvP.bind e2 (EvP.bind hei ?_))
  simp only [if_true]
  refine EvP.bind hy1 (EvP.bind hy2 ?_)
  simp only [if_neg (show ¬ (1 + (r.length : Int) < 0) by omega), if_true]
  refine EvP.bind e2 (EvP.bind hei ?_)
  simp only [if_true]
  refine EvP.bind hy2 ?_
  simp only [if_neg (show ¬ (1 + (r.length : Int) < 0) by omega), if_true]
  exact EvP.now rfl
end Go.Proofs.YtkllogmpaaeokaaDoor.PureFnExactDamagedLines
end

section
namespace Go.Proofs.YtkllogmpaaeokaaDoor.LaidKit
open Go Go.RowKit
theorem returns_laid_shaped {H : Type} {enc : TypeId × Value → H} {a : Assume} {C : Checked} {os : Os} {f : FuncId} {fn : Func} {s : ChangeSpec} {conds : List PathCond} {apart fresh handsOn again : Bool} {X : World → Array Value → Prop}
    (hX : ∀ (w w' : World) (args : Array Value), w.heap = w'.heap → X w args → X w' args)
    (own : ownKnob C.prog.godebug = none) (started : os.Started) (noInit : C.prog.inits.idxOf? f = none) (hfn : C.prog.funcs[f]? = some fn)
    (witness : ∃ (w : World) (tape : Tape) (i : Input), w.os = os ∧ (w.forCall tape i).Shaped C.prog ∧ i.vars = [] ∧ Input.okWide C.prog (w.forCall tape i) .any w.heap.size f i ∧
      ((s.pre enc C.prog fn conds apart (w.forCall tape i).memory i.args ∧ X (w.forCall tape i).memory i.args) ∧ sizedMet enc C.prog fn (OpenSpec.ofChange s) apart (w.forCall tape i).memory i.args) ∧ a.holds C.prog (lone (Frame.enter C.prog f i.args .normal) [] (w.forCall tape i)))
    (contract : ∀ (W : World) (base : Nat) (args : Array Value) (ds gs : List (DataW H)) (before : List MemPlace),
      (∀ (j : Nat) t v, fn.params[j]? = some t → args[j]? = some v → Value.okWide C.prog W .any base t v) →
      DataW.Whole enc C.prog fn.params.toList s.vars apart W args.toList ds gs before →
      conds.all (PathCond.test C.prog ⟨fn.params.toList, ds, s.plain.varTypes C.prog, gs⟩) = true →
      (DataW.weightsEach C.prog (fn.params.toList ++ s.plain.varTypes C.prog) (ds ++ gs)).all (· ≤ reachBytes) = true → X W args →
      W.ShapedOpen C.prog →
      a.holds C.prog (lone (Frame.enter C.prog f args .normal) [] W) →
      Calls C.prog f args W fun e W' => ∃ v, e = .returned v ∧ s.post enc C.prog fn apart fresh handsOn again W args v W') :
    ReturnsInHanded a C os f .any (fun w args => (s.pre enc C.prog fn conds apart w args ∧ X w args) ∧ sizedMet enc C.prog fn (OpenSpec.ofChange s) apart w args) (s.post enc C.prog fn apart fresh handsOn again) := by
  refine returnsInHanded_of_calls own started noInit witness ?_
  intro w tape i _ hsh _ hok hpre hholds
  obtain ⟨_, _, _, fn', hfn', _, _, _, _, hval⟩ := hok
  have e : fn' = fn := Option.some.inj (hfn'.symm.trans hfn)
  subst e
  obtain ⟨⟨⟨ds, gs, before, hw, hc⟩, hx⟩, hz⟩ := hpre
  have hw' := DataW.Whole.of_heap (w' := w.forCall tape i) (by rfl) hw
  refine (contract (w.forCall tape i) w.heap.size i.args ds gs before hval hw' hc (hz.weights hw) (hX _ _ _ (by rfl) hx) hsh hholds).mono fun e W' ⟨v, he, hp⟩ => ?_
  subst he
  exact ChangeSpec.post_blind hp
theorem laidMet_from {P : Program} {l : List (String × DataW Unit)} {x : String × DataW Unit} {r : List (String × DataW Unit)} {w : World} (h : laidMet P (l ++ x :: r) w) : laidMet P (x :: r) w := by
  induction l with
  | nil => exact h
  | cons a l ih => exact ih h.tail
end Go.Proofs.YtkllogmpaaeokaaDoor.LaidKit
end

section
namespace Go.Proofs.YtkllogmpaaeokaaDoor.RowFnExactDamagedLines
open Go.ChangeShapes Go.WideShapes Go.ChangeAt Go.RowKit Go.Proofs.YtkllogmpaaeokaaDoorW.PrintWords Go.Proofs.YtkllogmpaaeokaaDoor.XS Go.Proofs.YtkllogmpaaeokaaDoor.Open
open Go.ChangeMaps (open_string shut_string)
set_option linter.unusedVariables false
theorem own : ownKnob Tryd.prog.godebug = none := by kernel_rfl
theorem laidOut : laidOutB Tryd.prog = true := by kernel_rfl
set_option maxRecDepth 100000 in
theorem lifted (os : Os) (started : os.Started) (H : Type) (enc : TypeId × Value → H) :
    ReturnsInHanded {} Tryd.checked os 4 .any (fun w args => (Rows.fnExactDamagedLinesSpec.pre enc Tryd.prog Tryd.f4 Rows.fnExactDamagedLinesRow.domain false w args ∧ laidMetH Tryd.prog Rows.fnExactDamagedLinesRow.laid w) ∧ sizedMet enc Tryd.prog Tryd.f4 (OpenSpec.ofChange Rows.fnExactDamagedLinesSpec) false w args) (Rows.fnExactDamagedLinesSpec.post enc Tryd.prog Tryd.f4 false true false false) := by
  refine LaidKit.returns_laid_shaped (C := Tryd.checked) (X := fun w _ => laidMetH Tryd.prog Rows.fnExactDamagedLinesRow.laid w) (fun _ _ _ hh h => h.of_heap hh) own started (by kernel_rfl) Tryd.func4
    (ChangeSpec.witness_shaped (enc := enc) (C := Tryd.checked) (os := os) (X := fun w _ => laidMetH Tryd.prog Rows.fnExactDamagedLinesRow.laid w) false (World.laidAll Tryd.prog os Rows.fnExactDamagedLinesRow.laid) #[(.string ⟨#[]⟩)] 8 (World.laidAll_os _ _ _)
      (World.shaped_of_ZipB (by kernel_rfl) (by kernel_rfl)) (by kernel_rfl) (by kernel_rfl) (by kernel_rfl)
      (by rw [MakeChecks.laidMetH_plain _ _ _ (by kernel_rfl)]; exact laidMet_laidAll _ (by kernel_rfl) (by kernel_rfl))) ?_
  intro W base args ds gs before hval0 hW hcnd hsz0 hLD hsh _
  have hsz : (DataW.weightsEach Tryd.prog (Tryd.f4.params.toList ++ Rows.fnExactDamagedLinesSpec.plain.varTypes Tryd.prog) (ds ++ gs)).all (· ≤ reachBytes) = true := hsz0
  have hval : ∀ (j : Nat) t v, Tryd.f4.params[j]? = some t → args[j]? = some v → Value.okWide Tryd.prog W .any base t v := hval0
  have hW' := hW
  obtain ⟨p, q, hA0, hV, rfl, hfz, hnd⟩ := hW
  have hA : DataW.TrodAll enc Tryd.prog W 0 (fun _ => true) true Tryd.f4.params.toList args.toList ds p := hA0
  rw [Tryd.params4] at hA hval hsz
  obtain ⟨v0, vs0, d0, ds0, p0, q0, hargs, rfl, rfl, h0, r0⟩ := trodAll_cons hA
  obtain ⟨rfl, rfl, rfl⟩ := trodAll_nil r0
  obtain rfl : args = #[v0] := by cases args; simp_all
  obtain ⟨rfl, rfl⟩ := trodVars_none hV
  obtain ⟨a0, rfl, rfl, rfl, y0⟩ := open_string Tryd.underlying9 (hval 0 9 v0 rfl rfl) h0
  have w0 : a0.size ≤ 140737488351232 := by
    have z := sized_string hsz (j := 0) (t := 9) rfl rfl
    rw [Array.length_toList] at z
    exact z
  have hst : ShT Tryd.prog W := ⟨hsh, by
    have h_ : laidMetH Tryd.prog Rows.fnExactDamagedLinesRow.laid W := hLD
    rw [MakeChecks.laidMetH_plain _ _ _ (by kernel_rfl)] at h_
    have e_ : Rows.fnExactDamagedLinesRow.laid = Rows.fnExactDamagedLinesRow.laid.take 2 ++ ("internal/strconv.uint64pow10", Lib.tabData .u64 Lib.pow10Tab) :: Rows.fnExactDamagedLinesRow.laid.drop 3 := by kernel_rfl
    rw [e_] at h_
    exact Lib.tabIs_of_head (g := (Tryd.prog.globalNamed "internal/strconv.uint64pow10").getD 0) (t := ((Tryd.prog.globals[(Tryd.prog.globalNamed "internal/strconv.uint64pow10").getD 0]?).map (·.type)).getD 0) (e := 92) (n := 20) (by kernel_rfl) (by kernel_rfl) (by kernel_rfl) (by kernel_rfl) (by kernel_rfl) (by kernel_rfl) (LaidKit.laidMet_from h_)⟩
  obtain ⟨k, hp⟩ := PureFnExactDamagedLines.pure a0 w0
  clear hA0 hval0 hsz0 hsz
  refine (laws_FnExactDamagedLines.calls k a0 true W hst hp).mono fun e W' ⟨he, bel0⟩ => ?_
  have bel : Below W.heap.size W W' := bel0
  subst he
  exact ⟨_, rfl, _, _, _, [], _, [], hW', trodAll_mk1 (shut_bool Tryd.underlying4 _), (trodAll_cons_mk (shut_string Tryd.underlying9 y0) trodAll_mk0), rfl, bel.frame _, fun h => by cases h⟩
theorem over : Rows.fnExactDamagedLinesRow.holds Tryd.pinned (OpenSpec.ofChange Rows.fnExactDamagedLinesSpec) :=
  OpenClaim.holds_of_wide 4 Tryd.f4 rfl rfl rfl rfl rfl rfl rfl ⟨rfl, rfl, rfl, rfl, rfl⟩ rfl rfl rfl rfl rfl (by kernel_rfl) Tryd.func4 (by kernel_rfl)
    (of_decide_eq_true (by kernel_rfl)) (by unfold Func.isWrapper; first | (rw [if_pos (by decide +kernel)]; kernel_rfl) | (rw [if_neg (by decide +kernel)]; exact ⟨rfl, rfl⟩))
    (fun os started H enc _ => lifted os started H enc)
end Go.Proofs.YtkllogmpaaeokaaDoor.RowFnExactDamagedLines
namespace Go.Proofs.YtkllogmpaaeokaaDoor
theorem fnExactDamagedLines_holds : Rows.FnExactDamagedLinesSaid := RowFnExactDamagedLines.over
theorem fnExactDamagedLines_card_holds : Rows.FnExactDamagedLinesCardSaid :=
  Claim7.holds_tied_plain_at .later [] [.data, .data, .data, .data, .pinned] true (true, "375661acce29c797fd0b3778813daec722af5c95c5c1a4a16928943ce302b11e") false fnExactDamagedLines_holds (fun _ h => by cases h) (by kernel_rfl) (fun _ h => by cases h) fnExactDamagedLines_row_tie rfl ⟨rfl, rfl⟩ (by kernel_rfl) rfl
    (fun f fn hf hfn => by
      obtain rfl : f = 4 := Option.some.inj ((show Tryd.prog.funcNamed "loop.example/g01011/laws.FnExactDamagedLines" = some 4 by kernel_rfl).symm.trans hf) |>.symm
      obtain rfl : fn = Tryd.f4 := (Option.some.inj (Tryd.func4.symm.trans hfn)).symm
      exact ⟨by kernel_rfl, fun j t ht => by
        rw [Tryd.params4] at ht
        have hm : t ∈ [9] := by simpa using Array.mem_of_getElem? ht
        have hall : ([9].all fun u => !Tryd.prog.wantsStandIn u) = true := by kernel_rfl
        exact (show Tryd.prog.wantsStandIn t = false by simpa using List.all_eq_true.1 hall t hm)⟩)
    (by kernel_rfl)
end Go.Proofs.YtkllogmpaaeokaaDoor
end
