/- The law FnExactNewDesk: part 6 of its texts, joined (wip/pack.py). -/
import Derived.Test.YtckhjpjcimjclaaKFnExactNewDeska
import Derived.Test.YtckhjpjcimjclaaKFnExactNewDeskb
import Derived.Test.YtckhjpjcimjclaaKFnExactNewDeskc
import Derived.Test.YtckhjpjcimjclaaKFnExactNewDeskd
import Derived.Test.YtckhjpjcimjclaaKFnExactNewDeske
import Derived.Test.YtckhjpjcimjclaaKFnExactNewDeskf
import Derived.Deep.Slices
import Derived.SizedLaws
import Derived.ChangeArms
import Derived.WideShapes
import Derived.Test.YtckhjpjcimjclaaRows
import Derived.WalkKit
import Derived.ProofKit
import Derived.OpenShut
import Derived.ShutString
import Derived.ChangeOld
import Derived.Below

section
namespace Go.Proofs.Ytckhjpjcimjclaa.Open
open Go.ChangeShapes Go.WideShapes Go.RowKit Go.Proofs.YtckhjpjcimjclaaW.PrintWords
set_option linter.unusedVariables false
def Opens (P : Program) (t : TypeId) {α : Type} (d : Kd α) (Q : α → Prop) : Prop :=
  P.cellsOf t = d.sz ∧ ∀ (H : Type) (enc : TypeId × Value → H) (w : World) (base : Nat) (spare : Nat → Bool) (held : Bool) (fuel : Nat) (cs : List Value) (x : DataW H × List MemPlace),
    DataW.trod enc P w base spare held fuel t cs = some x → ∃ a : α, d.K w a cs ∧ Q a
theorem Opens.int {P : Program} {t : TypeId} {k : IntKind} (hu : P.underlying t = some (.int k)) (hc : P.cellsOf t = 1) : Opens P t (Kd.int k) (fun n => (Lit.int k n).wf = true) := by
  refine ⟨hc, fun H enc w base spare held fuel cs x h => ?_⟩
  obtain ⟨n, rfl, _, hw⟩ := DataW.trod_int hu h
  exact ⟨n, rfl, hw⟩
theorem Opens.bool {P : Program} {t : TypeId} (hu : P.underlying t = some .bool) (hc : P.cellsOf t = 1) : Opens P t Kd.bool (fun _ => True) := by
  refine ⟨hc, fun H enc w base spare held fuel cs x h => ?_⟩
  obtain ⟨b, rfl, _⟩ := DataW.trod_bool hu h
  exact ⟨b, rfl, trivial⟩
theorem Opens.string {P : Program} {t : TypeId} (hu : P.underlying t = some .string) (hc : P.cellsOf t = 1) : Opens P t Kd.string (fun s => s.size ≤ maxLen) := by
  refine ⟨hc, fun H enc w base spare held fuel cs x h => ?_⟩
  obtain ⟨s, rfl, _, hs⟩ := DataW.trod_string hu h
  exact ⟨s, rfl, hs⟩
theorem choose_list {α : Type} {n : Nat} {p : Nat → α → Prop} (h : ∀ i, i < n → ∃ x, p i x) : ∃ l : List α, l.length = n ∧ ∀ i x, l[i]? = some x → p i x := by
  induction n with
  | zero => exact ⟨[], rfl, fun i x hx => by simp at hx⟩
  | succ n ih =>
    obtain ⟨l, hl, hp⟩ := ih (fun i hi => h i (by omega))
    obtain ⟨x, hx⟩ := h n (by omega)
    refine ⟨l ++ [x], by simp [hl], fun i y hy => ?_⟩
    rcases Nat.lt_or_ge i l.length with hi | hi
    · rw [List.getElem?_append_left hi] at hy
      exact hp i y hy
    · have : i = l.length := by
        have := (List.getElem?_eq_some_iff.1 hy).1
        simp at this
        omega
      subst this
      simp at hy
      subst hy
      rw [hl]
      exact hx
theorem cells?_get {w : World} {base : Nat} {a : Addr} {n : Nat} {cs : List Value} (h : w.cells? base a n = some cs) (i : Nat) (u : Value) (hu : cs[i]? = some u) : w.cell? (a.add i) = some u := by
  unfold World.cells? at h
  split at h
  · have hlen : cs.length = n := by simpa using mapM_some_length h
    have hi : i < n := by
      have := (List.getElem?_eq_some_iff.1 hu).1
      omega
    have := mapM_some_get h i i (by simp [hi])
    rw [hu] at this
    exact this
  · cases h
theorem Opens.slice {P : Program} {t e : TypeId} {α : Type} {d : Kd α} {Q : α → Prop} (hu : P.underlying t = some (.slice e)) (hc : P.cellsOf t = 1) (hd : Opens P e d Q) :
    Opens P t (Kd.slice e d) (fun xs => xs.length ≤ maxLen ∧ ∀ x ∈ xs, Q x) := by
  refine ⟨hc, fun H enc w base spare held fuel cs x h => ?_⟩
  rcases Go.Deep.open_slice hu h with ⟨rfl, _⟩ | ⟨a, len, cap, m, n, D, Pl, rfl, _, hl, hm, hmm, _, hx⟩
  · exact ⟨[], ⟨none, 0, rfl, Nat.le_refl _, rfl, by simp, fun h => absurd h (by simp)⟩, by simp, fun x hx => by simp at hx⟩
  · have hlm : len ≤ m := by rw [hmm]; split <;> omega
    obtain ⟨l, hl1, hp⟩ := choose_list (n := len) (p := fun i (x : α) => ∃ cs', w.cells? base (a.add (i * d.sz)) d.sz = some cs' ∧ d.K w x cs' ∧ Q x) (fun i hi => by
      obtain ⟨cs', h1, h2⟩ := hx i (by omega)
      rw [hd.1] at h1
      obtain ⟨y, hy, hq⟩ := hd.2 H enc w base spare held n cs' _ h2
      exact ⟨y, cs', h1, hy, hq⟩)
    have hmax : (maxLen : Nat) = 9223372036854775807 := by unfold maxLen; omega
    refine ⟨l, ⟨some a, cap, by rw [hl1], by omega, rfl, by omega, fun _ => ⟨a, rfl, fun j p hj => ?_⟩⟩, by omega, fun x hx => ?_⟩
    · obtain ⟨cs', h1, h2, _⟩ := hp j p hj
      refine ⟨cs', d.K_len h2, h2, fun i u hi => ?_⟩
      have := cells?_get h1 i u hi
      rwa [Go.Deep.add_add] at this
    · obtain ⟨i, hi, rfl⟩ := List.mem_iff_getElem.1 hx
      obtain ⟨cs', _, _, h3⟩ := hp i _ (List.getElem?_eq_getElem hi)
      exact h3
def OpensF (P : Program) (fs : List Field) (off : Nat) {α : Type} (d : Kd α) (Q : α → Prop) : Prop :=
  ∀ (H : Type) (enc : TypeId × Value → H) (w : World) (base : Nat) (spare : Nat → Bool) (held : Bool) (n : Nat) (cs : List Value), off + d.sz = cs.length →
    (∀ f ∈ fs, ∃ y, DataW.trod enc P w base spare held n f.type ((cs.drop f.offset).take (P.cellsOf f.type)) = some y) → ∃ a : α, d.K w a (cs.drop off) ∧ Q a
theorem OpensF.one {P : Program} {f : Field} {off : Nat} {α : Type} {d : Kd α} {Q : α → Prop} (ho : f.offset = off) (h : Opens P f.type d Q) : OpensF P [f] off d Q := by
  intro H enc w base spare held n cs hl hf
  obtain ⟨y, hy⟩ := hf f List.mem_cons_self
  rw [ho, h.1, List.take_of_length_le (by rw [List.length_drop]; omega)] at hy
  exact h.2 H enc w base spare held n _ y hy
theorem OpensF.cons {P : Program} {f : Field} {fs : List Field} {off : Nat} {α β : Type} {d1 : Kd α} {d2 : Kd β} {Q1 : α → Prop} {Q2 : β → Prop} (ho : f.offset = off) (h : Opens P f.type d1 Q1) (hs : OpensF P fs (off + d1.sz) d2 Q2) :
    OpensF P (f :: fs) off (Kd.pair d1 d2) (fun x => Q1 x.1 ∧ Q2 x.2) := by
  intro H enc w base spare held n cs hl hf
  have hl' : off + (d1.sz + d2.sz) = cs.length := hl
  obtain ⟨y, hy⟩ := hf f List.mem_cons_self
  rw [ho, h.1] at hy
  obtain ⟨a, ha, qa⟩ := h.2 H enc w base spare held n _ y hy
  obtain ⟨b, hb, qb⟩ := hs H enc w base spare held n cs (by omega) (fun g hg => hf g (List.mem_cons_of_mem _ hg))
  refine ⟨(a, b), ⟨_, _, ?_, ha, hb⟩, qa, qb⟩
  rw [← List.drop_drop, List.take_append_drop]
end Go.Proofs.Ytckhjpjcimjclaa.Open
end

section
namespace Go.Proofs.Ytckhjpjcimjclaa.XR
open Go.RowKit Go.Proofs.YtckhjpjcimjclaaW.PrintWords
def laws_FnExactNewDesk.Pure : Prop := ∃ k, laws_FnExactNewDesk.f k  = some true
end Go.Proofs.Ytckhjpjcimjclaa.XR
end

section
namespace Go.Proofs.Ytckhjpjcimjclaa.PureFnExactNewDesk
open Go.RowKit Go.Proofs.YtckhjpjcimjclaaW.PrintWords Go.Proofs.Ytckhjpjcimjclaa.XR
theorem w01 : wrap64 1 = 1 := by first | rfl | decide | (unfold wrap64; omega)
theorem w12 : wrap64 2 = 2 := by first | rfl | decide | (unfold wrap64; omega)
theorem z1 : laws_markInt64S.f 8 [0] 1 = some (2, [1]) := by simp [laws_markInt64S.f, laws_markInt64S.l0, w01, w12]
theorem z1e (a : Int) : laws_markInt64S.f 8 [] a = some (a, []) := by simp [laws_markInt64S.f, laws_markInt64S.l0]
theorem z3 : laws_eqInt64S.f 8 [0] [0] = some true := by simp [laws_eqInt64S.f, laws_eqInt64S.l0, w01]
theorem z3e : laws_eqInt64S.f 8 [] [] = some true := by simp [laws_eqInt64S.f, laws_eqInt64S.l0]
theorem z4 : laws_markDesk.f 8 [0] [] [] [] [] [] 10 2 0 [] [] [] [] 1 = some (2, [1], []) := by
  simp [laws_markDesk.f, laws_markNetwork.f, z1, z1e, laws_markPipeS.f, laws_markValveS.f, laws_markPumpS.f, laws_markSubstationS.f, laws_markFuelS.f, laws_markRepairS.f, laws_markTenantS.f, laws_markDutyS.f]
theorem z5 : laws_heldDesk.f 8 [1] [] [] [] [] [] 10 2 0 [] [] [] [] 1 = some 2 := by
  simp [laws_heldDesk.f, laws_heldNetwork.f, laws_heldInt64S.f, laws_heldInt64S.l0, w01, w12, rd, laws_heldPipeS.f, laws_heldValveS.f, laws_heldPumpS.f, laws_heldSubstationS.f, laws_heldFuelS.f, laws_heldRepairS.f, laws_heldTenantS.f, laws_heldDutyS.f]
theorem z6 : laws_eqDesk.f 8 [0] [] [] [] [] [] 10 2 0 [] [] [] [] [0] [] [] [] [] [] 10 2 0 [] [] [] [] = some true := by
  simp [laws_eqDesk.f, laws_eqNetwork.f, z3, z3e, laws_eqPipeS.f, laws_eqValveS.f, laws_eqPumpS.f, laws_eqSubstationS.f, laws_eqTank.f, laws_eqFuelS.f, laws_eqRepairS.f, laws_eqTenantS.f, laws_eqDutyS.f]
theorem zz : laws_FnExactNewDesk.f 8 = some true := by
  unfold laws_FnExactNewDesk.f
  have e1 : spec_NewDesk.f = some ([0], [], [], [], [], [], 10, 2, 0, [], [], [], []) := by rfl
  have e2 : impl_NewDesk.f = some ([0], [], [], [], [], [], 10, 2, 0, [], [], [], []) := by rfl
  rw [e1, e2]
  simp only [Option.bind_some, z6, z4, z5]
  rfl
theorem pure : laws_FnExactNewDesk.Pure := ⟨8, zz⟩
end Go.Proofs.Ytckhjpjcimjclaa.PureFnExactNewDesk
end

section
namespace Go.Proofs.Ytckhjpjcimjclaa.RowFnExactNewDesk
open Go.ChangeShapes Go.WideShapes Go.ChangeAt Go.RowKit Go.Proofs.YtckhjpjcimjclaaW.PrintWords Go.Proofs.Ytckhjpjcimjclaa.XR Go.Proofs.Ytckhjpjcimjclaa.Open
open Go.ChangeMaps (open_string shut_string)
set_option linter.unusedVariables false
theorem own : ownKnob Try.prog.godebug = none := by kernel_rfl
theorem laidOut : laidOutB Try.prog = true := by kernel_rfl
set_option maxRecDepth 100000 in
theorem lifted (os : Os) (started : os.Started) (H : Type) (enc : TypeId × Value → H) :
    ReturnsInHanded {} Try.checked os 3 .any (Rows.fnExactNewDeskSpec.pre6 enc Try.prog Try.f3 Rows.fnExactNewDeskRow.domain false) (Rows.fnExactNewDeskSpec.post enc Try.prog Try.f3 false true false false) := by
  refine returnsInHanded_of_change_sized (C := Try.checked) own started (by kernel_rfl) Try.func3
    (ChangeSpec.witness6 (enc := enc) (C := Try.checked) false ⟨#[], #[], []⟩ 8 (by kernel_rfl) (by kernel_rfl) (by kernel_rfl) (by kernel_rfl)) ?_
  intro W base args ds gs before hval0 hW hcnd hsz0 _
  have hsz : (DataW.weightsEach Try.prog (Try.f3.params.toList ++ Rows.fnExactNewDeskSpec.plain.varTypes Try.prog) (ds ++ gs)).all (· ≤ reachBytes) = true := hsz0
  have hval : ∀ (j : Nat) t v, Try.f3.params[j]? = some t → args[j]? = some v → Value.okWide Try.prog W .any base t v := hval0
  have hW' := hW
  obtain ⟨p, q, hA0, hV, rfl, hfz, hnd⟩ := hW
  have hA : DataW.TrodAll enc Try.prog W 0 (fun _ => true) true Try.f3.params.toList args.toList ds p := hA0
  rw [Try.params3] at hA hval hsz
  obtain ⟨rfl, rfl, rfl⟩ := trodAll_none hA
  first | (obtain rfl : args = #[] := by cases args; simp_all) | skip
  obtain ⟨rfl, rfl⟩ := trodVars_none hV
  obtain ⟨k, hp⟩ := PureFnExactNewDesk.pure 
  clear hA0 hval0 hsz0 hsz
  refine (laws_FnExactNewDesk.calls k  true W  hp).mono fun e W' ⟨he, bel0⟩ => ?_
  have bel : Below W.heap.size W W' := bel0
  subst he
  exact ⟨_, rfl, _, _, _, [], _, [], hW', trodAll_mk1 (shut_bool Try.underlying4 _), trodAll_mk0, rfl, bel.frame _, fun h => by cases h⟩
theorem over : Rows.fnExactNewDeskRow.holds Try.pinned (OpenSpec.ofChange Rows.fnExactNewDeskSpec) :=
  OpenClaim.holds_of_wide 3 Try.f3 rfl rfl rfl rfl rfl rfl rfl ⟨rfl, rfl, rfl, rfl, rfl⟩ rfl rfl rfl rfl rfl (by kernel_rfl) Try.func3 (by kernel_rfl)
    (of_decide_eq_true (by kernel_rfl)) (by unfold Func.isWrapper; first | (rw [if_pos (by decide +kernel)]; kernel_rfl) | (rw [if_neg (by decide +kernel)]; exact ⟨rfl, rfl⟩))
    (fun os started H enc _ => lifted os started H enc)
end Go.Proofs.Ytckhjpjcimjclaa.RowFnExactNewDesk
namespace Go.Proofs.Ytckhjpjcimjclaa
theorem fnExactNewDesk_holds : Rows.FnExactNewDeskSaid := RowFnExactNewDesk.over
end Go.Proofs.Ytckhjpjcimjclaa
end
