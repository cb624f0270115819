/- The law FnExactNodeReport: part 10 of its texts, joined (wip/pack.py). -/
import Derived.Test.YtadaegehdcngdaaGreatDoorKFnExactNodeReporta
import Derived.Test.YtadaegehdcngdaaGreatDoorKFnExactNodeReportb
import Derived.Test.YtadaegehdcngdaaGreatDoorKFnExactNodeReportc
import Derived.Test.YtadaegehdcngdaaGreatDoorKFnExactNodeReportd
import Derived.Test.YtadaegehdcngdaaGreatDoorKFnExactNodeReporte
import Derived.Test.YtadaegehdcngdaaGreatDoorKFnExactNodeReportf
import Derived.Test.YtadaegehdcngdaaGreatDoorKFnExactNodeReportg
import Derived.Test.YtadaegehdcngdaaGreatDoorKFnExactNodeReporth
import Derived.Test.YtadaegehdcngdaaGreatDoorKFnExactNodeReporti
import Derived.Test.YtadaegehdcngdaaGreatDoorKFnExactNodeReportj
import Derived.Lib.Strings
import Derived.Lib.IndexLaws
import Derived.Lib.IndexBytes
import Derived.Lib.IndexMore
import Derived.Lib.TrimByte
import Derived.Laws.BitsLemmas
import Derived.Lib.ParseIntBCases
import Derived.Lib.ItoaNum
import Derived.Lib.ItoaMem
import Derived.Handed
import Derived.HandedShaped
import Derived.SizedLaws
import Derived.Stop.LaidErr

section
namespace Go.Proofs.YtadaegehdcngdaaGreatDoor.EvK
open Go.RowKit Go.Proofs.YtadaegehdcngdaaGreatDoorW.PrintWords
set_option linter.unusedVariables false
theorem w64 {n : Int} (h : -9223372036854775808 ≤ n) (h' : n ≤ 9223372036854775807) : wrap64 n = n := by unfold wrap64; omega
theorem Ev.some {α : Type} {a r : α} (h : a = r) : Ev (fun _ => Option.some a) r := h ▸ Ev.now a
theorem Ev.bind_some {α β : Type} {g : Nat → Option α} {f : Nat → α → Option β} {a : α} {r : β} (h : Ev g a) (k : Ev (fun n => f n a) r) : Ev (fun n => (g n).bind (f n)) r := Ev.bind h k
theorem getD_at {α : Type} (l : List α) (d : α) (i : Nat) (h : i < l.length) : l.getD (i : Int).toNat d = l[i] := by
  simp [List.getD_eq_getElem?_getD, List.getElem?_eq_getElem h]
theorem rd_at (l : List Int) (i : Nat) (h : i < l.length) : rd l (i : Int) = l[i] := getD_at l 0 i h
theorem rdOf_at {α : Type} (l : List α) (d : α) (i : Nat) (h : i < l.length) : rdOf d l (i : Int) = l[i] := getD_at l d i h
theorem map_done {α β : Type} (f : α → β) (l : List α) (z : β) (i : Nat) (h : i < l.length) :
    ((l.take i).map f ++ List.replicate (l.length - i) z).set i (f l[i]) = (l.take (i + 1)).map f ++ List.replicate (l.length - (i + 1)) z := by
  have e : l.length - i = (l.length - (i + 1)) + 1 := by omega
  rw [List.set_append_right _ _ (by simp; omega), e, List.replicate_succ]
  have e2 : i - ((l.take i).map f).length = 0 := by simp; omega
  rw [e2, List.set_cons_zero, List.take_succ_eq_append_getElem h, List.map_append]
  simp
theorem done_len {α β : Type} (f : α → β) (l : List α) (z : β) (i : Nat) (h : i ≤ l.length) : ((l.take i).map f ++ List.replicate (l.length - i) z).length = l.length := by simp; omega
def EvP {α : Type} (g : Nat → Option α) (P : α → Prop) : Prop := ∃ r, Ev g r ∧ P r
theorem EvP.now {α : Type} {r : α} {P : α → Prop} (h : P r) : EvP (fun _ => Option.some r) P := ⟨r, Ev.now r, h⟩
theorem EvP.of {α : Type} {g : Nat → Option α} {r : α} {P : α → Prop} (h : Ev g r) (hp : P r) : EvP g P := ⟨r, h, hp⟩
theorem EvP.mono {α : Type} {g : Nat → Option α} {P Q : α → Prop} (h : EvP g P) (hp : ∀ r, P r → Q r) : EvP g Q := by
  obtain ⟨r, h1, h2⟩ := h
  exact ⟨r, h1, hp _ h2⟩
theorem EvP.eq {α : Type} {g : Nat → Option α} {r : α} (h : EvP g (· = r)) : Ev g r := by
  obtain ⟨r', h, rfl⟩ := h
  exact h
theorem EvP.step {α : Type} {g f : Nat → Option α} {P : α → Prop} (h : ∀ k, g (k + 1) = f k) (k : EvP f P) : EvP g P := by
  obtain ⟨r, h1, h2⟩ := k
  exact ⟨r, Ev.step h h1, h2⟩
theorem EvP.bind {α β : Type} {g : Nat → Option α} {f : Nat → α → Option β} {a : α} {P : β → Prop} (h : Ev g a) (k : EvP (fun n => f n a) P) : EvP (fun n => (g n).bind (f n)) P := by
  obtain ⟨r, h1, h2⟩ := k
  exact ⟨r, Ev.bind h h1, h2⟩
theorem EvP.bindP {α β : Type} {g : Nat → Option α} {f : Nat → α → Option β} {Q : α → Prop} {P : β → Prop} (h : EvP g Q) (k : ∀ a, Q a → EvP (fun n => f n a) P) : EvP (fun n => (g n).bind (f n)) P := by
  obtain ⟨a, ha, hq⟩ := h
  exact EvP.bind ha (k a hq)
theorem EvP.rounds {α : Type} {g : Nat → Option α} {r : α} (h : EvP g (· = r)) : ∃ k, g k = Option.some r := Ev.rounds (EvP.eq h)
theorem for_evp {σ ρ : Type} {L : Nat → σ → Int → Option ρ} {Post : ρ → Prop} (n : Nat) (inv : Nat → σ → Prop)
    (step : ∀ (i : Nat) (s : σ), i < n → inv i s → (∀ s', inv (i + 1) s' → EvP (fun k => L k s' ((i : Int) + 1)) Post) → EvP (fun k => L k s i) Post)
    (fin : ∀ s, inv n s → EvP (fun k => L k s n) Post) (s : σ) (h0 : inv 0 s) : EvP (fun k => L k s 0) Post := by
  have key : ∀ (d i : Nat) (s : σ), i + d = n → inv i s → EvP (fun k => L k s i) Post := by
    intro d
    induction d with
    | zero =>
      intro i s hi hs
      obtain rfl : i = n := by omega
      exact fin s hs
    | succ d ih =>
      intro i s hi hs
      refine step i s (by omega) hs (fun s' hs' => ?_)
      simpa using ih (i + 1) s' (by omega) hs'
  simpa using key n 0 s (by omega) h0
theorem take_all {α : Type} {p : α → Prop} {l : List α} {i : Nat} (h : i < l.length) (hs : ∀ x ∈ l.take i, p x) (hx : p l[i]) : ∀ x ∈ l.take (i + 1), p x := by
  rw [List.take_succ_eq_append_getElem h]
  intro x hm
  rcases List.mem_append.1 hm with hm | hm
  · exact hs x hm
  · rw [List.mem_singleton.1 hm]
    exact hx
theorem set_done {α : Type} (E : Nat → α) (l : List α) (i : Nat) (h : i < l.length) : ((List.range i).map E ++ l.drop i).set i (E i) = (List.range (i + 1)).map E ++ l.drop (i + 1) := by
  rw [List.set_append_right _ _ (by simp), List.range_succ, List.map_append, List.append_assoc]
  congr 1
  rw [List.length_map, List.length_range, Nat.sub_self, List.drop_eq_getElem_cons h]
  rfl
theorem getD_set_self {α : Type} (l : List α) (i : Nat) (v d : α) (h : i < l.length) : (l.set i v).getD i d = v := by
  simp [List.getD_eq_getElem?_getD, h]
theorem all_ev {α : Type} {L : Nat → Int → Option Bool} (l : List α) (p : α → Bool) (b : Bool)
    (step : ∀ (i : Nat) (h : i < l.length), p l[i] = true → ∀ P, EvP (fun k => L k ((i : Int) + 1)) P → EvP (fun k => L k i) P)
    (stop : ∀ (i : Nat) (h : i < l.length), p l[i] = false → Ev (fun k => L k i) false)
    (fin : Ev (fun k => L k l.length) b) : Ev (fun k => L k 0) (l.all p && b) := by
  apply EvP.eq
  refine for_evp (L := fun k (_ : Unit) i => L k i) l.length (fun i _ => ∀ x ∈ l.take i, p x = true) ?_ ?_ () (by simp)
  · intro i _ hi hs K
    cases hp : p l[i] with
    | true => exact step i hi hp _ (K () (take_all hi hs hp))
    | false =>
      have e : l.all p = false := by
        rw [List.all_eq_false]
        exact ⟨l[i], List.getElem_mem hi, by simp [hp]⟩
      rw [e]
      exact EvP.of (stop i hi hp) rfl
  · intro _ hs
    have e : l.all p = true := by
      rw [List.all_eq_true]
      simpa using hs
    rw [e]
    exact EvP.of fin rfl
theorem bytes_at_ (s : ByteArray) (i : Nat) (h : i < s.data.toList.length) : bt s (i : Int) = ((s.data.toList[i]).toNat : Int) := by
  have h' : i < s.size := by simpa using h
  unfold bt
  rw [dif_pos (by simpa using h')]
  simp
  rfl
theorem size_len (s : ByteArray) : (s.size : Int) = (s.data.toList.length : Int) := by simp
theorem size_len' (s : ByteArray) : s.size = s.data.toList.length := by simp
end Go.Proofs.YtadaegehdcngdaaGreatDoor.EvK
end

section
namespace Go.Proofs.YtadaegehdcngdaaGreatDoor.PBasics
open Go.RowKit Go.Proofs.YtadaegehdcngdaaGreatDoorW.PrintWords Go.Proofs.YtadaegehdcngdaaGreatDoor.XV Go.Proofs.YtadaegehdcngdaaGreatDoor.EvK
set_option linter.unusedVariables false
set_option linter.unusedSimpArgs false
def smallB (c : UInt8) : Bool := decide (97 ≤ (c.toNat : Int)) && decide ((c.toNat : Int) ≤ 122)
def digB (c : UInt8) : Bool := decide (48 ≤ (c.toNat : Int)) && decide ((c.toNat : Int) ≤ 57)
def nameB (c : UInt8) : Bool := smallB c || digB c
def nameOk (s : ByteArray) : Bool := match s.data.toList with
  | [] => false
  | c :: l => decide ((s.size : Int) ≤ 10) && smallB c && (c :: l).all nameB
def inR (n a b : Int) : Bool := decide (a ≤ n) && decide (n ≤ b)
theorem within_eq (n a b : Int) : impl_within.f n a b = some (inR n a b) := by
  unfold impl_within.f inR
  by_cases h : n ≥ a
  · rw [if_pos h, decide_eq_true (show a ≤ n from h), Bool.true_and]
  · rw [if_neg h, decide_eq_false (show ¬ a ≤ n from h), Bool.false_and]
theorem in_eq (n a b : Int) : spec_l00In.f n a b = some (inR n a b) := by
  unfold spec_l00In.f inR
  by_cases h : n ≥ a
  · rw [if_pos h, decide_eq_true (show a ≤ n from h), Bool.true_and]
  · rw [if_neg h, decide_eq_false (show ¬ a ≤ n from h), Bool.false_and]
theorem small_eq (c : UInt8) : spec_l01Small.f (c.toNat : Int) = some (smallB c) := by
  unfold spec_l01Small.f smallB
  by_cases h : (c.toNat : Int) ≥ 97
  · rw [if_pos h, decide_eq_true (show (97 : Int) ≤ c.toNat from h), Bool.true_and]
  · rw [if_neg h, decide_eq_false (show ¬ (97 : Int) ≤ c.toNat from h), Bool.false_and]
theorem dig_eq (c : UInt8) : spec_l01Digit.f (c.toNat : Int) = some (digB c) := by
  unfold spec_l01Digit.f digB
  by_cases h : (c.toNat : Int) ≥ 48
  · rw [if_pos h, decide_eq_true (show (48 : Int) ≤ c.toNat from h), Bool.true_and]
  · rw [if_neg h, decide_eq_false (show ¬ (48 : Int) ≤ c.toNat from h), Bool.false_and]
theorem onlyName_ev (s : ByteArray) (h : s.size ≤ 1048576) : Ev (fun k => impl_onlyNameBytes.f k s) (s.data.toList.all nameB) := by
  unfold impl_onlyNameBytes.f
  rw [size_len'] at h
  have := all_ev (L := fun k i => impl_onlyNameBytes.l0 k s (s.size : Int) i) s.data.toList nameB true ?_ ?_ ?_
  · simpa using this
  · intro i hi hp P K
    refine EvP.step (fun k => impl_onlyNameBytes.l0.eq_2 _ _ _ k) ?_
    simp only [size_len] at K
    simp only [size_len, if_pos (show (i : Int) < (s.data.toList.length : Int) by omega), if_pos (show (0 : Int) ≤ (i : Int) by omega), bytes_at_ s i hi, w64 (show -9223372036854775808 ≤ (i : Int) + 1 by omega) (by omega)]
    simp only [nameB, smallB, digB, Bool.or_eq_true, Bool.and_eq_true, decide_eq_true_eq] at hp
    by_cases h1 : ((s.data.toList[i]).toNat : Int) < 97
    · simp only [if_pos h1, if_neg (show ¬ ((s.data.toList[i]).toNat : Int) < 48 by omega), if_neg (show ¬ ((s.data.toList[i]).toNat : Int) > 57 by omega)]
      exact K
    · simp only [if_neg h1, if_neg (show ¬ ((s.data.toList[i]).toNat : Int) > 122 by omega)]
      exact K
  · intro i hi hp
    refine Ev.step (fun k => impl_onlyNameBytes.l0.eq_2 _ _ _ k) ?_
    simp only [size_len, if_pos (show (i : Int) < (s.data.toList.length : Int) by omega), if_pos (show (0 : Int) ≤ (i : Int) by omega), bytes_at_ s i hi, w64 (show -9223372036854775808 ≤ (i : Int) + 1 by omega) (by omega)]
    simp only [nameB, smallB, digB, Bool.or_eq_false_iff, Bool.and_eq_false_iff, decide_eq_false_iff_not] at hp
    by_cases h1 : ((s.data.toList[i]).toNat : Int) < 97
    · by_cases h2 : ((s.data.toList[i]).toNat : Int) < 48
      · simp only [if_pos h1, if_pos h2]; exact Ev.now _
      · simp only [if_pos h1, if_neg h2, if_pos (show ((s.data.toList[i]).toNat : Int) > 57 by omega)]; exact Ev.now _
    · simp only [if_neg h1, if_pos (show ((s.data.toList[i]).toNat : Int) > 122 by omega), if_neg (show ¬ ((s.data.toList[i]).toNat : Int) < 48 by omega), if_pos (show ((s.data.toList[i]).toNat : Int) > 57 by omega)]
      exact Ev.now _
  · refine Ev.step (fun k => impl_onlyNameBytes.l0.eq_2 _ _ _ k) ?_
    simp only [size_len, if_neg (show ¬ (s.data.toList.length : Int) < (s.data.toList.length : Int) by omega)]
    exact Ev.now _
theorem head_at (s : ByteArray) (c : UInt8) (l : List UInt8) (hl : s.data.toList = c :: l) : bt s 0 = (c.toNat : Int) := by
  have h : 0 < s.data.toList.length := by rw [hl]; simp
  have := bytes_at_ s 0 h
  rw [show ((0 : Nat) : Int) = 0 from rfl] at this
  rw [this]
  simp only [hl, List.getElem_cons_zero]
theorem isName_ev (s : ByteArray) (h : s.size ≤ 1048576) : Ev (fun k => impl_IsName.f k s) (nameOk s) := by
  unfold impl_IsName.f nameOk
  cases hl : s.data.toList with
  | nil =>
    have hz : s.size = 0 := by rw [size_len', hl]; rfl
    simp only [hz, Int.natCast_zero, if_pos (show (0 : Int) < 1 by omega)]
    exact Ev.now _
  | cons c l =>
    have hz : s.size = l.length + 1 := by rw [size_len', hl]; rfl
    have ho := onlyName_ev s h
    rw [hl] at ho
    simp only [if_neg (show ¬ (s.size : Int) < 1 by omega), if_pos (show (0 : Int) < (s.size : Int) by omega), head_at s c l hl]
    by_cases h1 : (s.size : Int) > 10
    · simp only [if_pos h1, decide_eq_false (show ¬ (s.size : Int) ≤ 10 by omega), Bool.false_and]
      exact Ev.now _
    · simp only [if_neg h1, decide_eq_true (show (s.size : Int) ≤ 10 by omega), Bool.true_and]
      by_cases h2 : (c.toNat : Int) < 97
      · simp only [if_pos h2, smallB, decide_eq_false (show ¬ (97 : Int) ≤ c.toNat by omega), Bool.false_and]
        exact Ev.now _
      · by_cases h3 : (c.toNat : Int) > 122
        · simp only [if_neg h2, if_pos h3, smallB, decide_eq_false (show ¬ (c.toNat : Int) ≤ 122 by omega), Bool.false_and, Bool.and_false]
          exact Ev.now _
        · simp only [if_neg h2, if_neg h3, smallB, decide_eq_true (show (97 : Int) ≤ c.toNat by omega), decide_eq_true (show (c.toNat : Int) ≤ 122 by omega), Bool.true_and]
          exact Ev.bind ho (Ev.now _)
theorem toList_eq (s : ByteArray) : s.toList = s.data.toList := by
  have := Lib.toList_data s
  first | exact this | exact this.symm
theorem specName_ev (s : ByteArray) (h : s.size ≤ 1048576) : Ev (fun k => spec_l01Name.f k s) (nameOk s) := by
  unfold spec_l01Name.f nameOk
  have hj : Ev (fun k => spec_l01Name.j0 k s true) false := by
    refine Ev.step (fun k => spec_l01Name.j0.eq_2 _ _ k) ?_
    simp only [if_true]
    exact Ev.now _
  cases hl : s.data.toList with
  | nil =>
    simp only [toList_eq, hl, if_true]
    exact hj
  | cons c l =>
    have hz : s.size = l.length + 1 := by rw [size_len', hl]; rfl
    simp only [toList_eq, hl, reduceCtorEq, if_false, if_pos (show (0 : Int) < (s.size : Int) by omega), head_at s c l hl, small_eq, Option.bind_some]
    by_cases h1 : (s.size : Int) > 10
    · simp only [if_pos h1, decide_eq_false (show ¬ (s.size : Int) ≤ 10 by omega), Bool.false_and]
      exact hj
    simp only [if_neg h1, decide_eq_true (show (s.size : Int) ≤ 10 by omega), Bool.true_and]
    cases hs : smallB c with
    | false =>
      simp only [Bool.not_false, Bool.false_and]
      exact hj
    | true =>
      simp only [Bool.not_true, Bool.true_and]
      refine Ev.step (fun k => spec_l01Name.j0.eq_2 _ _ k) ?_
      simp only [Bool.false_eq_true, if_false]
      rw [← hl]
      rw [size_len'] at h
      have := all_ev (L := fun k i => spec_l01Name.l0 k s i) s.data.toList nameB true ?_ ?_ ?_
      · simpa using this
      · intro i hi hp P K
        refine EvP.step (fun k => spec_l01Name.l0.eq_2 _ _ k) ?_
        simp only [size_len, if_pos (show (i : Int) < (s.data.toList.length : Int) by omega), if_pos (show (0 : Int) ≤ (i : Int) by omega), bytes_at_ s i hi, w64 (show -9223372036854775808 ≤ (i : Int) + 1 by omega) (by omega), small_eq, dig_eq, Option.bind_some]
        cases h2 : smallB s.data.toList[i] with
        | true => simp only [if_true]; exact K
        | false =>
          simp only [nameB, h2, Bool.false_or] at hp
          simp only [hp, Bool.false_eq_true, if_false, if_true]
          exact K
      · intro i hi hp
        refine Ev.step (fun k => spec_l01Name.l0.eq_2 _ _ k) ?_
        simp only [nameB, Bool.or_eq_false_iff] at hp
        simp only [size_len, if_pos (show (i : Int) < (s.data.toList.length : Int) by omega), if_pos (show (0 : Int) ≤ (i : Int) by omega), bytes_at_ s i hi, w64 (show -9223372036854775808 ≤ (i : Int) + 1 by omega) (by omega), small_eq, dig_eq, Option.bind_some, hp.1, hp.2, Bool.false_eq_true, if_false]
        exact Ev.now _
      · refine Ev.step (fun k => spec_l01Name.l0.eq_2 _ _ k) ?_
        simp only [size_len, if_neg (show ¬ (s.data.toList.length : Int) < (s.data.toList.length : Int) by omega)]
        exact Ev.now _
end Go.Proofs.YtadaegehdcngdaaGreatDoor.PBasics
end

section
namespace Go.Proofs.YtadaegehdcngdaaGreatDoor.EvK
open Go.RowKit Go.Proofs.YtadaegehdcngdaaGreatDoorW.PrintWords
set_option linter.unusedVariables false
theorem all_to {α ρ : Type} {L : Nat → Int → Option ρ} (l : List α) (p : α → Bool) (yes no : ρ)
    (step : ∀ (i : Nat) (h : i < l.length), p l[i] = true → ∀ P, EvP (fun k => L k ((i : Int) + 1)) P → EvP (fun k => L k i) P)
    (stop : ∀ (i : Nat) (h : i < l.length), p l[i] = false → Ev (fun k => L k i) no)
    (fin : l.all p = true → Ev (fun k => L k l.length) yes) : Ev (fun k => L k 0) (if l.all p = true then yes else no) := by
  apply EvP.eq
  refine for_evp (L := fun k (_ : Unit) i => L k i) l.length (fun i _ => ∀ x ∈ l.take i, p x = true) ?_ ?_ () (by simp)
  · intro i _ hi hs K
    cases hp : p l[i] with
    | true => exact step i hi hp _ (K () (take_all hi hs hp))
    | false =>
      have e : l.all p = false := by
        rw [List.all_eq_false]
        exact ⟨l[i], List.getElem_mem hi, by simp [hp]⟩
      rw [e]
      exact EvP.of (stop i hi hp) rfl
  · intro _ hs
    have e : l.all p = true := by
      rw [List.all_eq_true]
      simpa using hs
    rw [e]
    exact EvP.of (fin e) rfl
theorem all_n {ρ : Type} {L : Nat → Int → Option ρ} (n : Nat) (p : Nat → Bool) (yes no : ρ)
    (step : ∀ (i : Nat), i < n → p i = true → ∀ P, EvP (fun k => L k ((i : Int) + 1)) P → EvP (fun k => L k i) P)
    (stop : ∀ (i : Nat), i < n → p i = false → Ev (fun k => L k i) no)
    (fin : Ev (fun k => L k n) yes) : Ev (fun k => L k 0) (if (List.range n).all p = true then yes else no) := by
  have := all_to (L := L) (List.range n) p yes no ?_ ?_ ?_
  · exact this
  · intro i hi hp P K
    simp only [List.length_range, List.getElem_range] at hi hp
    exact step i hi hp P K
  · intro i hi hp
    simp only [List.length_range, List.getElem_range] at hi hp
    exact stop i hi hp
  · intro _
    simpa using fin
end Go.Proofs.YtadaegehdcngdaaGreatDoor.EvK
end

section
namespace Go.Proofs.YtadaegehdcngdaaGreatDoor.PNet
open Go.RowKit Go.Proofs.YtadaegehdcngdaaGreatDoorW.PrintWords Go.Proofs.YtadaegehdcngdaaGreatDoorW.PrintMore Go.Proofs.YtadaegehdcngdaaGreatDoor.XV Go.Proofs.YtadaegehdcngdaaGreatDoor.EvK Go.Proofs.YtadaegehdcngdaaGreatDoor.PBasics
set_option linter.unusedVariables false
set_option linter.unusedSimpArgs false
theorem inR_iff {n a b : Int} : inR n a b = true ↔ a ≤ n ∧ n ≤ b := by unfold inR; simp
def pipeOkV (s : ByteArray) (f t l d q : Int) : Bool := nameOk s && (inR f 0 15 && (inR t 0 15 && (!(decide (f = t)) && (inR l 1 10000 && (inR d 20 1000 && inR q 0 5000)))))
theorem nodeV_eq (n : Int) : impl_nodeOk.f n = some (inR n 0 15) := by unfold impl_nodeOk.f; rw [within_eq]; rfl
theorem validPipeV_ev (s : ByteArray) (f t l d q : Int) (h : s.size ≤ 1048576) : Ev (fun k => impl_ValidPipe.f k s f t l d q) (pipeOkV s f t l d q) := by
  unfold impl_ValidPipe.f pipeOkV
  refine Ev.bind (isName_ev s h) ?_
  simp only [nodeV_eq, within_eq, Option.bind_some]
  cases nameOk s <;> simp only [Bool.false_eq_true, if_false, if_true, Bool.false_and, Bool.true_and]
  · exact Ev.now _
  cases inR f 0 15 <;> simp only [Bool.false_eq_true, if_false, if_true, Bool.false_and, Bool.true_and]
  · exact Ev.now _
  cases inR t 0 15 <;> simp only [Bool.false_eq_true, if_false, if_true, Bool.false_and, Bool.true_and]
  · exact Ev.now _
  by_cases hft : f = t
  · simp only [if_pos hft, hft, decide_true, Bool.not_true, Bool.false_and]; exact Ev.now _
  simp only [if_neg hft, hft, decide_false, Bool.not_false, Bool.true_and]
  cases inR l 1 10000 <;> simp only [Bool.false_eq_true, if_false, if_true, Bool.false_and, Bool.true_and]
  · exact Ev.now _
  cases inR d 20 1000 <;> simp only [Bool.false_eq_true, if_false, if_true, Bool.false_and, Bool.true_and]
  · exact Ev.now _
  exact Ev.now _
theorem l03OkV_ev (s : ByteArray) (f t l d q : Int) (h : s.size ≤ 1048576) : Ev (fun k => spec_l03Ok.f k s f t l d q) (pipeOkV s f t l d q) := by
  unfold spec_l03Ok.f pipeOkV
  have hj : ∀ b : Bool, Ev (fun k => spec_l03Ok.j0 k b s f t l d q) (!b && (inR l 1 10000 && (inR d 20 1000 && inR q 0 5000))) := by
    intro b
    refine Ev.step (fun k => spec_l03Ok.j0.eq_2 _ _ _ _ _ _ _ k) ?_
    simp only [in_eq, Option.bind_some]
    cases b <;> simp only [Bool.false_eq_true, if_false, if_true, Bool.false_and, Bool.true_and, Bool.not_false, Bool.not_true]
    · cases inR l 1 10000 <;> simp only [Bool.false_eq_true, if_false, if_true, Bool.false_and, Bool.true_and]
      · exact Ev.now _
      cases inR d 20 1000 <;> simp only [Bool.false_eq_true, if_false, if_true, Bool.false_and, Bool.true_and]
      · exact Ev.now _
      exact Ev.now _
    · exact Ev.now _
  refine Ev.bind (specName_ev s h) ?_
  simp only [in_eq, Option.bind_some]
  cases nameOk s <;> simp only [Bool.false_eq_true, if_false, if_true, Bool.false_and, Bool.true_and]
  · exact hj true
  cases inR f 0 15 <;> simp only [Bool.false_eq_true, if_false, if_true, Bool.false_and, Bool.true_and]
  · exact hj true
  cases inR t 0 15 <;> simp only [Bool.false_eq_true, if_false, if_true, Bool.false_and, Bool.true_and]
  · exact hj true
  exact hj (f == t)
def elevB (x : Int) : Bool := inR x (-100000) 100000
def lessB (a b : ByteArray) : Bool := Op.bytesLess a.toList b.toList
def pipeAt (nodes : List Int) (l : List S58) (i : Nat) : Bool := let p := l.getD i z58; pipeOkV p.f0 p.f1 p.f2 p.f3 p.f4 p.f5 && ((inR p.f1 0 ((nodes.length : Int) - 1) && inR p.f2 0 ((nodes.length : Int) - 1)) && (decide (i = 0) || lessB (l.getD (i - 1) z58).f0 p.f0))
def netOk (nodes : List Int) (l : List S58) : Bool := nodes.all elevB && (decide (1 ≤ nodes.length ∧ nodes.length ≤ 16 ∧ l.length ≤ 20) && (List.range l.length).all (pipeAt nodes l))
def SmallN (l : List S58) : Prop := ∀ x ∈ l, x.f0.size ≤ 1048576
theorem rdp (l : List S58) (i : Nat) : rd_T58 l (i : Int) = l.getD i z58 := rfl
theorem getP_mem {l : List S58} {i : Nat} (h : i < l.length) : l.getD i z58 ∈ l := by
  rw [List.getD_eq_getElem?_getD, List.getElem?_eq_getElem h]
  exact List.getElem_mem h
theorem hasNode_eq (nodes : List Int) (l : List S58) (a : Int) (hn : nodes.length ≤ 1048576) : impl_Network_hasNode.f nodes l a = some (inR a 0 ((nodes.length : Int) - 1)) := by
  unfold impl_Network_hasNode.f
  rw [w64 (by omega) (by omega), within_eq]
  rfl
theorem implNet_ev (nodes : List Int) (l : List S58) (hn : nodes.length ≤ 1048576) (hl : l.length ≤ 1048576) (hs : SmallN l) : Ev (fun k => impl_ValidNetwork.f k nodes l) (netOk nodes l) := by
  have hj : ∀ b : Bool, Ev (fun k => impl_ValidNetwork.j0 k b nodes l) (!b && (List.range l.length).all (pipeAt nodes l)) := by
    intro b
    refine Ev.step (fun k => impl_ValidNetwork.j0.eq_2 _ _ _ k) ?_
    cases b with
    | true => simp only [if_true, Bool.not_true, Bool.false_and]; exact Ev.now _
    | false =>
      simp only [Bool.false_eq_true, if_false, Bool.not_false, Bool.true_and]
      have hj2 : ∀ i : Int, Ev (fun k => impl_ValidNetwork.j2 k l (l.length : Int) i true nodes l) false := fun i => Ev.step (fun k => impl_ValidNetwork.j2.eq_2 _ _ _ _ _ _ k) (by simp only [if_true]; exact Ev.now _)
      have := all_n (L := fun k i => impl_ValidNetwork.l0 k l (l.length : Int) i nodes l) l.length (pipeAt nodes l) true false ?_ ?_ ?_
      · cases hr : (List.range l.length).all (pipeAt nodes l) with
        | true => rw [hr] at this; exact this
        | false => rw [hr] at this; exact this
      · intro i hi hp P K
        unfold pipeAt at hp
        simp only [Bool.and_eq_true, Bool.or_eq_true, decide_eq_true_eq] at hp
        obtain ⟨h1, ⟨h2, h3⟩, h4⟩ := hp
        refine EvP.step (fun k => impl_ValidNetwork.l0.eq_2 _ _ _ _ _ k) ?_
        have wi := w64 (show -9223372036854775808 ≤ (i : Int) + 1 by omega) (by omega)
        simp only [if_pos (show (i : Int) < (l.length : Int) by omega), if_pos (show (0 : Int) ≤ (i : Int) by omega), rdp]
        refine EvP.bind (validPipeV_ev _ _ _ _ _ _ (hs _ (getP_mem hi))) ?_
        simp only [h1, if_true, impl_Network_hasEnds.f, hasNode_eq nodes l _ hn, Option.bind_some, h2, h3]
        by_cases h0 : i = 0
        · simp only [if_neg (show ¬ (i : Int) > 0 by omega)]
          refine EvP.step (fun k => impl_ValidNetwork.j2.eq_2 _ _ _ _ _ _ k) ?_
          simp only [Bool.false_eq_true, if_false, wi]
          exact K
        · have w1 : wrap64 ((i : Int) - 1) = ((i - 1 : Nat) : Int) := by rw [w64 (by omega) (by omega)]; omega
          have h5 : lessB (l.getD (i - 1) z58).f0 (l.getD i z58).f0 = true := by rcases h4 with h | h; exact absurd h h0; exact h
          unfold lessB at h5
          simp only [if_pos (show (i : Int) > 0 by omega), w1, if_pos (show (0 : Int) ≤ ((i - 1 : Nat) : Int) by omega), if_pos (show ((i - 1 : Nat) : Int) < (l.length : Int) by omega), rdp, h5, if_true, Bool.not_true]
          refine EvP.step (fun k => impl_ValidNetwork.j2.eq_2 _ _ _ _ _ _ k) ?_
          simp only [Bool.false_eq_true, if_false, wi]
          exact K
      · intro i hi hp
        refine Ev.step (fun k => impl_ValidNetwork.l0.eq_2 _ _ _ _ _ k) ?_
        simp only [if_pos (show (i : Int) < (l.length : Int) by omega), if_pos (show (0 : Int) ≤ (i : Int) by omega), rdp]
        refine Ev.bind (validPipeV_ev _ _ _ _ _ _ (hs _ (getP_mem hi))) ?_
        unfold pipeAt at hp
        simp only at hp
        cases h1 : pipeOkV (l.getD i z58).f0 (l.getD i z58).f1 (l.getD i z58).f2 (l.getD i z58).f3 (l.getD i z58).f4 (l.getD i z58).f5 with
        | false => simp only [Bool.false_eq_true, if_false]; exact hj2 _
        | true =>
          rw [h1, Bool.true_and] at hp
          simp only [if_true, impl_Network_hasEnds.f, hasNode_eq nodes l _ hn, Option.bind_some]
          cases h2 : inR (l.getD i z58).f1 0 ((nodes.length : Int) - 1) with
          | false => simp only [Bool.false_eq_true, if_false, Option.bind_some]; exact hj2 _
          | true =>
            simp only [if_true, Option.bind_some]
            cases h3 : inR (l.getD i z58).f2 0 ((nodes.length : Int) - 1) with
            | false => simp only [Bool.false_eq_true, if_false]; exact hj2 _
            | true =>
              rw [h2, h3, Bool.true_and, Bool.true_and, Bool.or_eq_false_iff, decide_eq_false_iff_not] at hp
              have w1 : wrap64 ((i : Int) - 1) = ((i - 1 : Nat) : Int) := by rw [w64 (by omega) (by omega)]; omega
              have h5 := hp.2
              unfold lessB at h5
              simp only [if_true, if_pos (show (i : Int) > 0 by omega), w1, if_pos (show (0 : Int) ≤ ((i - 1 : Nat) : Int) by omega), if_pos (show ((i - 1 : Nat) : Int) < (l.length : Int) by omega), rdp, h5, Bool.not_false]
              exact hj2 _
      · refine Ev.step (fun k => impl_ValidNetwork.l0.eq_2 _ _ _ _ _ k) ?_
        simp only [if_neg (show ¬ (l.length : Int) < (l.length : Int) by omega)]
        exact Ev.now _
  have hall : nodes.all (impl_allWithin.ok (-100000) 100000) = nodes.all elevB := rfl
  unfold impl_ValidNetwork.f netOk impl_allWithin.f
  simp only [hall, Option.bind_some]
  by_cases h1 : (nodes.length : Int) < 1
  · simp only [if_pos h1, decide_eq_false (show ¬ (1 ≤ nodes.length ∧ nodes.length ≤ 16 ∧ l.length ≤ 20) by omega), Bool.false_and, Bool.and_false]
    have := hj true
    simpa using this
  simp only [if_neg h1]
  by_cases h2 : (nodes.length : Int) > 16
  · simp only [if_pos h2, decide_eq_false (show ¬ (1 ≤ nodes.length ∧ nodes.length ≤ 16 ∧ l.length ≤ 20) by omega), Bool.false_and, Bool.and_false]
    have := hj true
    simpa using this
  simp only [if_neg h2]
  cases nodes.all elevB with
  | false =>
    simp only [Bool.false_eq_true, if_false, Bool.false_and]
    have := hj true
    simpa using this
  | true =>
    simp only [if_true, Bool.true_and]
    have := hj (decide ((l.length : Int) > 20))
    by_cases h3 : (l.length : Int) > 20
    · rw [decide_eq_true h3] at this ⊢
      rw [decide_eq_false (show ¬ (1 ≤ nodes.length ∧ nodes.length ≤ 16 ∧ l.length ≤ 20) by omega)]
      simpa using this
    · rw [decide_eq_false h3] at this ⊢
      rw [decide_eq_true (show 1 ≤ nodes.length ∧ nodes.length ≤ 16 ∧ l.length ≤ 20 by omega)]
      simpa using this
theorem specNet_ev (nodes : List Int) (l : List S58) (hn : nodes.length ≤ 1048576) (hl : l.length ≤ 1048576) (hs : SmallN l) : Ev (fun k => spec_l04Ok.f k nodes l) (netOk nodes l) := by
  have hloop : (1 ≤ nodes.length ∧ nodes.length ≤ 16) → Ev (fun k => spec_l04Ok.l1 k 0 nodes l) ((List.range l.length).all (pipeAt nodes l)) := by
    intro hnl
    have := all_n (L := fun k i => spec_l04Ok.l1 k i nodes l) l.length (pipeAt nodes l) true false ?_ ?_ ?_
    · cases hr : (List.range l.length).all (pipeAt nodes l) with
      | true => rw [hr] at this; exact this
      | false => rw [hr] at this; exact this
    · intro i hi hp P K
      unfold pipeAt at hp
      simp only [Bool.and_eq_true, Bool.or_eq_true, decide_eq_true_eq, inR_iff] at hp
      obtain ⟨h1, ⟨h2, h3⟩, h4⟩ := hp
      refine EvP.step (fun k => spec_l04Ok.l1.eq_2 _ _ _ k) ?_
      have wi := w64 (show -9223372036854775808 ≤ (i : Int) + 1 by omega) (by omega)
      simp only [if_pos (show (i : Int) < (l.length : Int) by omega), if_pos (show (0 : Int) ≤ (i : Int) by omega), rdp, spec_l04Fits.f]
      have hfit : Ev (fun k => (spec_l03Ok.f k (l.getD i z58).f0 (l.getD i z58).f1 (l.getD i z58).f2 (l.getD i z58).f3 (l.getD i z58).f4 (l.getD i z58).f5).bind fun t116 => (if t116 = true then (if (l.getD i z58).f1 < (nodes.length : Int) then (some (decide ((l.getD i z58).f2 < (nodes.length : Int)))) else (some false)) else (some false))) true := by
        refine Ev.bind (l03OkV_ev _ _ _ _ _ _ (hs _ (getP_mem hi))) ?_
        simp only [h1, if_true, if_pos (show (l.getD i z58).f1 < (nodes.length : Int) by omega), decide_eq_true (show (l.getD i z58).f2 < (nodes.length : Int) by omega)]
        exact Ev.now _
      refine EvP.bind hfit ?_
      simp only [if_true]
      by_cases h0 : i = 0
      · simp only [if_neg (show ¬ (i : Int) > 0 by omega), wi]
        exact K
      · have w1 : wrap64 ((i : Int) - 1) = ((i - 1 : Nat) : Int) := by rw [w64 (by omega) (by omega)]; omega
        have h5 : lessB (l.getD (i - 1) z58).f0 (l.getD i z58).f0 = true := by rcases h4 with h | h; exact absurd h h0; exact h
        unfold lessB at h5
        simp only [if_pos (show (i : Int) > 0 by omega), w1, if_pos (show (0 : Int) ≤ ((i - 1 : Nat) : Int) by omega), if_pos (show ((i - 1 : Nat) : Int) < (l.length : Int) by omega), rdp, h5, if_true, wi]
        exact K
    · intro i hi hp
      refine Ev.step (fun k => spec_l04Ok.l1.eq_2 _ _ _ k) ?_
      simp only [if_pos (show (i : Int) < (l.length : Int) by omega), if_pos (show (0 : Int) ≤ (i : Int) by omega), rdp, spec_l04Fits.f]
      unfold pipeAt at hp
      simp only at hp
      have h03 := l03OkV_ev (l.getD i z58).f0 (l.getD i z58).f1 (l.getD i z58).f2 (l.getD i z58).f3 (l.getD i z58).f4 (l.getD i z58).f5 (hs _ (getP_mem hi))
      have hfit : Ev (fun k => (spec_l03Ok.f k (l.getD i z58).f0 (l.getD i z58).f1 (l.getD i z58).f2 (l.getD i z58).f3 (l.getD i z58).f4 (l.getD i z58).f5).bind fun t116 => (if t116 = true then (if (l.getD i z58).f1 < (nodes.length : Int) then (some (decide ((l.getD i z58).f2 < (nodes.length : Int)))) else (some false)) else (some false))) (pipeOkV (l.getD i z58).f0 (l.getD i z58).f1 (l.getD i z58).f2 (l.getD i z58).f3 (l.getD i z58).f4 (l.getD i z58).f5 && (inR (l.getD i z58).f1 0 ((nodes.length : Int) - 1) && inR (l.getD i z58).f2 0 ((nodes.length : Int) - 1))) := by
        refine Ev.bind h03 ?_
        cases h1 : pipeOkV (l.getD i z58).f0 (l.getD i z58).f1 (l.getD i z58).f2 (l.getD i z58).f3 (l.getD i z58).f4 (l.getD i z58).f5 with
        | false => simp only [Bool.false_eq_true, if_false, Bool.false_and]; exact Ev.now _
        | true =>
          unfold pipeOkV at h1
          simp only [Bool.and_eq_true, inR_iff] at h1
          have g1 := h1.2.1
          have g2 := h1.2.2.1
          simp only [if_true, Bool.true_and]
          by_cases h2 : (l.getD i z58).f1 < (nodes.length : Int)
          · have e1 : inR (l.getD i z58).f1 0 ((nodes.length : Int) - 1) = true := inR_iff.2 ⟨by omega, by omega⟩
            have e2 : inR (l.getD i z58).f2 0 ((nodes.length : Int) - 1) = decide ((l.getD i z58).f2 < (nodes.length : Int)) := by
              unfold inR
              rw [decide_eq_true g2.1, Bool.true_and, decide_eq_decide]
              omega
            simp only [if_pos h2, e1, e2, Bool.true_and]
            exact Ev.now _
          · have e1 : inR (l.getD i z58).f1 0 ((nodes.length : Int) - 1) = false := by
              unfold inR
              rw [decide_eq_false (show ¬ (l.getD i z58).f1 ≤ (nodes.length : Int) - 1 by omega), Bool.and_false]
            simp only [if_neg h2, e1, Bool.false_and]
            exact Ev.now _
      refine Ev.bind hfit ?_
      cases hb : (pipeOkV (l.getD i z58).f0 (l.getD i z58).f1 (l.getD i z58).f2 (l.getD i z58).f3 (l.getD i z58).f4 (l.getD i z58).f5 && (inR (l.getD i z58).f1 0 ((nodes.length : Int) - 1) && inR (l.getD i z58).f2 0 ((nodes.length : Int) - 1))) with
      | false => simp only [Bool.false_eq_true, if_false]; exact Ev.now _
      | true =>
        rw [← Bool.and_assoc, hb, Bool.true_and, Bool.or_eq_false_iff, decide_eq_false_iff_not] at hp
        have w1 : wrap64 ((i : Int) - 1) = ((i - 1 : Nat) : Int) := by rw [w64 (by omega) (by omega)]; omega
        have h5 := hp.2
        unfold lessB at h5
        simp only [if_true, if_pos (show (i : Int) > 0 by omega), w1, if_pos (show (0 : Int) ≤ ((i - 1 : Nat) : Int) by omega), if_pos (show ((i - 1 : Nat) : Int) < (l.length : Int) by omega), rdp, h5, Bool.false_eq_true, if_false]
        exact Ev.now _
    · refine Ev.step (fun k => spec_l04Ok.l1.eq_2 _ _ _ k) ?_
      simp only [if_neg (show ¬ (l.length : Int) < (l.length : Int) by omega)]
      exact Ev.now _
  have hj : ∀ b : Bool, b = !(decide (1 ≤ nodes.length ∧ nodes.length ≤ 16 ∧ l.length ≤ 20)) → Ev (fun k => spec_l04Ok.j1 k b nodes l) (!b && (List.range l.length).all (pipeAt nodes l)) := by
    intro b hb
    refine Ev.step (fun k => spec_l04Ok.j1.eq_2 _ _ _ k) ?_
    cases b with
    | true => simp only [if_true, Bool.not_true, Bool.false_and]; exact Ev.now _
    | false =>
      have : decide (1 ≤ nodes.length ∧ nodes.length ≤ 16 ∧ l.length ≤ 20) = true := by
        cases hd : decide (1 ≤ nodes.length ∧ nodes.length ≤ 16 ∧ l.length ≤ 20) with
        | true => rfl
        | false => rw [hd] at hb; cases hb
      rw [decide_eq_true_eq] at this
      simp only [Bool.false_eq_true, if_false, Bool.not_false, Bool.true_and]
      exact hloop ⟨this.1, this.2.1⟩
  unfold spec_l04Ok.f netOk
  have hfin : Ev (fun k => spec_l04Ok.l0 k (nodes.length : Int) nodes l) (decide (1 ≤ nodes.length ∧ nodes.length ≤ 16 ∧ l.length ≤ 20) && (List.range l.length).all (pipeAt nodes l)) := by
    refine Ev.step (fun k => spec_l04Ok.l0.eq_2 _ _ _ k) ?_
    simp only [if_neg (show ¬ (nodes.length : Int) < (nodes.length : Int) by omega)]
    by_cases h1 : (nodes.length : Int) < 1
    · simp only [if_pos h1]
      have e := decide_eq_false (show ¬ (1 ≤ nodes.length ∧ nodes.length ≤ 16 ∧ l.length ≤ 20) by omega)
      have := hj true (by rw [e]; rfl)
      rw [e]
      simpa using this
    simp only [if_neg h1]
    by_cases h2 : (nodes.length : Int) > 16
    · simp only [if_pos h2]
      have e := decide_eq_false (show ¬ (1 ≤ nodes.length ∧ nodes.length ≤ 16 ∧ l.length ≤ 20) by omega)
      have := hj true (by rw [e]; rfl)
      rw [e]
      simpa using this
    simp only [if_neg h2]
    by_cases h3 : (l.length : Int) > 20
    · rw [decide_eq_true h3]
      have e := decide_eq_false (show ¬ (1 ≤ nodes.length ∧ nodes.length ≤ 16 ∧ l.length ≤ 20) by omega)
      have := hj true (by rw [e]; rfl)
      rw [e]
      simpa using this
    · rw [decide_eq_false h3]
      have e := decide_eq_true (show 1 ≤ nodes.length ∧ nodes.length ≤ 16 ∧ l.length ≤ 20 by omega)
      have := hj false (by rw [e]; rfl)
      rw [e]
      simpa using this
  have := all_to (L := fun k i => spec_l04Ok.l0 k i nodes l) nodes elevB (decide (1 ≤ nodes.length ∧ nodes.length ≤ 16 ∧ l.length ≤ 20) && (List.range l.length).all (pipeAt nodes l)) false ?_ ?_ (fun _ => hfin)
  · cases hr : nodes.all elevB with
    | true => rw [hr] at this; simpa using this
    | false => rw [hr] at this; simpa using this
  · intro i hi hp P K
    have e : rd nodes (i : Int) = nodes[i] := rd_at nodes i hi
    refine EvP.step (fun k => spec_l04Ok.l0.eq_2 _ _ _ k) ?_
    unfold elevB at hp
    simp only [if_pos (show (i : Int) < (nodes.length : Int) by omega), if_pos (show (0 : Int) ≤ (i : Int) by omega), e, in_eq, Option.bind_some, hp, if_true, w64 (show -9223372036854775808 ≤ (i : Int) + 1 by omega) (by omega)]
    exact K
  · intro i hi hp
    have e : rd nodes (i : Int) = nodes[i] := rd_at nodes i hi
    refine Ev.step (fun k => spec_l04Ok.l0.eq_2 _ _ _ k) ?_
    unfold elevB at hp
    simp only [if_pos (show (i : Int) < (nodes.length : Int) by omega), if_pos (show (0 : Int) ≤ (i : Int) by omega), e, in_eq, Option.bind_some, hp, Bool.false_eq_true, if_false]
    exact Ev.now _
def flowsOk (l : List S58) (fl : List Int) : Bool := decide (fl.length = l.length) && fl.all elevB
theorem implFlows_eq (nodes : List Int) (l : List S58) (fl : List Int) : impl_Network_flowsOk.f nodes l fl = some (flowsOk l fl) := by
  have hall : fl.all (impl_allWithin.ok (-100000) 100000) = fl.all elevB := rfl
  unfold impl_Network_flowsOk.f flowsOk impl_allWithin.f
  by_cases h : (fl.length : Int) = (l.length : Int)
  · rw [if_pos h, decide_eq_true (show fl.length = l.length by omega), Bool.true_and, hall]
    rfl
  · rw [if_neg h, decide_eq_false (show ¬ fl.length = l.length by omega), Bool.false_and]
theorem specFlows_ev (nodes : List Int) (l : List S58) (fl : List Int) (hf : fl.length ≤ 1048576) : Ev (fun k => spec_l30Flows.f k nodes l fl) (flowsOk l fl) := by
  unfold spec_l30Flows.f flowsOk
  have hfin : Ev (fun k => spec_l30Flows.l0 k fl (fl.length : Int) nodes l) (decide (fl.length = l.length)) := by
    refine Ev.step (fun k => spec_l30Flows.l0.eq_2 _ _ _ _ k) ?_
    simp only [if_neg (show ¬ (fl.length : Int) < (fl.length : Int) by omega)]
    have : ((fl.length : Int) == (l.length : Int)) = decide (fl.length = l.length) := by
      rw [Bool.eq_iff_iff, beq_iff_eq, decide_eq_true_eq]; omega
    rw [this]
    exact Ev.now _
  have := all_to (L := fun k i => spec_l30Flows.l0 k fl i nodes l) fl elevB (decide (fl.length = l.length)) false ?_ ?_ (fun _ => hfin)
  · cases hr : fl.all elevB with
    | true => rw [hr] at this; simpa using this
    | false => rw [hr] at this; simpa using this
  · intro i hi hp P K
    have e : rd fl (i : Int) = fl[i] := rd_at fl i hi
    refine EvP.step (fun k => spec_l30Flows.l0.eq_2 _ _ _ _ k) ?_
    unfold elevB at hp
    simp only [if_pos (show (i : Int) < (fl.length : Int) by omega), if_pos (show (0 : Int) ≤ (i : Int) by omega), e, spec_l03Flow.f, in_eq, Option.bind_some, hp, if_true, w64 (show -9223372036854775808 ≤ (i : Int) + 1 by omega) (by omega)]
    exact K
  · intro i hi hp
    have e : rd fl (i : Int) = fl[i] := rd_at fl i hi
    refine Ev.step (fun k => spec_l30Flows.l0.eq_2 _ _ _ _ k) ?_
    unfold elevB at hp
    simp only [if_pos (show (i : Int) < (fl.length : Int) by omega), if_pos (show (0 : Int) ≤ (i : Int) by omega), e, spec_l03Flow.f, in_eq, Option.bind_some, hp, Bool.false_eq_true, if_false]
    exact Ev.now _
end Go.Proofs.YtadaegehdcngdaaGreatDoor.PNet
end

section
namespace Go.Proofs.YtadaegehdcngdaaGreatDoor.LinesV
open Go.RowKit Go.Proofs.YtadaegehdcngdaaGreatDoorW.PrintWords Go.Proofs.YtadaegehdcngdaaGreatDoor.XV Go.Proofs.YtadaegehdcngdaaGreatDoor.EvK
set_option linter.unusedVariables false
set_option linter.unusedSimpArgs false
def okByte (a b : Int) (c : UInt8) : Bool := decide (a ≤ (c.toNat : Int)) && decide ((c.toNat : Int) ≤ b)
def within (s : ByteArray) (a b : Int) : Bool := s.data.toList.all (okByte a b)
def lineOk (s : ByteArray) : Bool := within s 32 126 && decide ((s.size : Int) ≤ 100)
def repOk (l : List ByteArray) : Bool := l.all lineOk && decide ((l.length : Int) ≤ 200)
theorem bytesWithin_ev (s : ByteArray) (a b : Int) (h : s.size ≤ 1048576) : Ev (fun k => impl_bytesWithin.f k s a b) (within s a b) := by
  unfold impl_bytesWithin.f within
  rw [size_len']  at h
  have := all_ev (L := fun k i => impl_bytesWithin.l0 k s a b (s.size : Int) i) s.data.toList (okByte a b) true ?_ ?_ ?_
  · simpa using this
  · intro i hi hp P K
    simp only [okByte, Bool.and_eq_true, decide_eq_true_eq] at hp
    refine EvP.step (fun k => impl_bytesWithin.l0.eq_2 _ _ _ _ _ k) ?_
    simp only [size_len, if_pos (show (i : Int) < (s.data.toList.length : Int) by omega), if_pos (show (0 : Int) ≤ (i : Int) by omega), bytes_at_ s i hi, if_neg (show ¬ ((s.data.toList[i].toNat : Int) < a) by omega), if_neg (show ¬ ((s.data.toList[i].toNat : Int) > b) by omega), w64 (show -9223372036854775808 ≤ (i : Int) + 1 by omega) (by omega)]
    simpa only [size_len] using K
  · intro i hi hp
    simp only [okByte, Bool.and_eq_false_iff, decide_eq_false_iff_not] at hp
    refine Ev.step (fun k => impl_bytesWithin.l0.eq_2 _ _ _ _ _ k) ?_
    simp only [size_len, if_pos (show (i : Int) < (s.data.toList.length : Int) by omega), if_pos (show (0 : Int) ≤ (i : Int) by omega), bytes_at_ s i hi]
    by_cases h1 : (s.data.toList[i].toNat : Int) < a
    · simp only [if_pos h1]; exact Ev.now _
    · simp only [if_neg h1, if_pos (show (s.data.toList[i].toNat : Int) > b by omega)]; exact Ev.now _
  · refine Ev.step (fun k => impl_bytesWithin.l0.eq_2 _ _ _ _ _ k) ?_
    simp only [size_len, if_neg (show ¬ (s.data.toList.length : Int) < (s.data.toList.length : Int) by omega)]
    exact Ev.now _
theorem impl_line_ev (s : ByteArray) (h : s.size ≤ 1048576) : Ev (fun k => impl_lineValid.f k s) (lineOk s) := by
  unfold impl_lineValid.f lineOk
  by_cases h1 : (s.size : Int) ≤ 100
  · simp only [if_pos h1, h1, decide_true, Bool.and_true]
    exact Ev.bind (bytesWithin_ev s 32 126 h) (Ev.now _)
  · simp only [if_neg h1, h1, decide_false, Bool.and_false]
    exact Ev.now _
theorem spec_line_ev (s : ByteArray) (h : s.size ≤ 1048576) : Ev (fun k => spec_l30Line.f k s) (lineOk s) := by
  unfold spec_l30Line.f lineOk within
  rw [size_len']  at h
  refine all_ev (L := fun k i => spec_l30Line.l0 k s i) s.data.toList (okByte 32 126) (decide ((s.size : Int) ≤ 100)) ?_ ?_ ?_
  · intro i hi hp P K
    simp only [okByte, Bool.and_eq_true, decide_eq_true_eq] at hp
    refine EvP.step (fun k => spec_l30Line.l0.eq_2 _ _ k) ?_
    simp only [size_len, if_pos (show (i : Int) < (s.data.toList.length : Int) by omega), if_pos (show (0 : Int) ≤ (i : Int) by omega), bytes_at_ s i hi, if_neg (show ¬ ((s.data.toList[i].toNat : Int) < 32) by omega), if_neg (show ¬ ((s.data.toList[i].toNat : Int) > 126) by omega), w64 (show -9223372036854775808 ≤ (i : Int) + 1 by omega) (by omega)]
    exact K
  · intro i hi hp
    simp only [okByte, Bool.and_eq_false_iff, decide_eq_false_iff_not] at hp
    refine Ev.step (fun k => spec_l30Line.l0.eq_2 _ _ k) ?_
    simp only [size_len, if_pos (show (i : Int) < (s.data.toList.length : Int) by omega), if_pos (show (0 : Int) ≤ (i : Int) by omega), bytes_at_ s i hi]
    by_cases h1 : (s.data.toList[i].toNat : Int) < 32
    · simp only [if_pos h1]; exact Ev.now _
    · simp only [if_neg h1, if_pos (show (s.data.toList[i].toNat : Int) > 126 by omega)]; exact Ev.now _
  · refine Ev.step (fun k => spec_l30Line.l0.eq_2 _ _ k) ?_
    simp only [size_len, if_neg (show ¬ (s.data.toList.length : Int) < (s.data.toList.length : Int) by omega)]
    exact Ev.now _
theorem spec_rep_ev (l : List ByteArray) (hl : l.length ≤ 1048576) (hs : ∀ x ∈ l, x.size ≤ 1048576) : Ev (fun k => spec_l30Ok.f k l) (repOk l) := by
  unfold spec_l30Ok.f repOk
  refine all_ev (L := fun k i => spec_l30Ok.l0 k l i) l lineOk _ ?_ ?_ ?_
  · intro i hi hp P K
    have e : rdOf ByteArray.empty l (i : Int) = l[i] := getD_at l ByteArray.empty i hi
    refine EvP.step (fun k => spec_l30Ok.l0.eq_2 _ _ k) ?_
    simp only [if_pos (show (i : Int) < (l.length : Int) by omega), if_pos (show (0 : Int) ≤ (i : Int) by omega), e, w64 (show -9223372036854775808 ≤ (i : Int) + 1 by omega) (by omega)]
    refine EvP.bind (spec_line_ev l[i] (hs _ (List.getElem_mem hi))) ?_
    simp only [hp, if_true]
    exact K
  · intro i hi hp
    have e : rdOf ByteArray.empty l (i : Int) = l[i] := getD_at l ByteArray.empty i hi
    refine Ev.step (fun k => spec_l30Ok.l0.eq_2 _ _ k) ?_
    simp only [if_pos (show (i : Int) < (l.length : Int) by omega), if_pos (show (0 : Int) ≤ (i : Int) by omega), e]
    refine Ev.bind (spec_line_ev l[i] (hs _ (List.getElem_mem hi))) ?_
    simp only [hp, Bool.false_eq_true, if_false]
    exact Ev.now _
  · refine Ev.step (fun k => spec_l30Ok.l0.eq_2 _ _ k) ?_
    simp only [if_neg (show ¬ (l.length : Int) < (l.length : Int) by omega)]
    exact Ev.now _
theorem impl_rep_ev (l : List ByteArray) (hl : l.length ≤ 1048576) (hs : ∀ x ∈ l, x.size ≤ 1048576) : Ev (fun k => impl_ValidReport.f k l) (repOk l) := by
  unfold impl_ValidReport.f repOk
  by_cases h1 : (l.length : Int) > 200
  · simp only [if_pos h1, show ¬ (l.length : Int) ≤ 200 by omega, decide_false, Bool.and_false]
    exact Ev.now _
  simp only [if_neg h1, show (l.length : Int) ≤ 200 by omega, decide_true]
  refine all_ev (L := fun k i => impl_ValidReport.l0 k l (l.length : Int) i) l lineOk true ?_ ?_ ?_
  · intro i hi hp P K
    have e : rdOf ByteArray.empty l (i : Int) = l[i] := getD_at l ByteArray.empty i hi
    refine EvP.step (fun k => impl_ValidReport.l0.eq_2 _ _ _ k) ?_
    simp only [if_pos (show (i : Int) < (l.length : Int) by omega), if_pos (show (0 : Int) ≤ (i : Int) by omega), e, w64 (show -9223372036854775808 ≤ (i : Int) + 1 by omega) (by omega)]
    refine EvP.bind (impl_line_ev l[i] (hs _ (List.getElem_mem hi))) ?_
    simp only [hp, if_true]
    exact K
  · intro i hi hp
    have e : rdOf ByteArray.empty l (i : Int) = l[i] := getD_at l ByteArray.empty i hi
    refine Ev.step (fun k => impl_ValidReport.l0.eq_2 _ _ _ k) ?_
    simp only [if_pos (show (i : Int) < (l.length : Int) by omega), if_pos (show (0 : Int) ≤ (i : Int) by omega), e]
    refine Ev.bind (impl_line_ev l[i] (hs _ (List.getElem_mem hi))) ?_
    simp only [hp, Bool.false_eq_true, if_false]
    exact Ev.now _
  · refine Ev.step (fun k => impl_ValidReport.l0.eq_2 _ _ _ k) ?_
    simp only [if_neg (show ¬ (l.length : Int) < (l.length : Int) by omega)]
    exact Ev.now _
end Go.Proofs.YtadaegehdcngdaaGreatDoor.LinesV
end

section
namespace Go.Proofs.YtadaegehdcngdaaGreatDoor.PTable
open Go.RowKit Go.Proofs.YtadaegehdcngdaaGreatDoorW.PrintWords Go.Proofs.YtadaegehdcngdaaGreatDoor.XV Go.Proofs.YtadaegehdcngdaaGreatDoor.EvK Go.Proofs.YtadaegehdcngdaaGreatDoor.LinesV
set_option linter.unusedVariables false
set_option linter.unusedSimpArgs false
def RowOk (M : Nat) (r : List ByteArray) : Prop := r.length ≤ 12 ∧ ∀ c ∈ r, within c 33 126 = true ∧ c.size ≤ M
def wN : List Int → List ByteArray → Nat → List Int
  | ws, [], _ => ws
  | ws, c :: l, i => wN (ws.set i (impl_TableLines.big ws i c)) l (i + 1)
def wAll (ws : List Int) (rows : List (List ByteArray)) : List Int := rows.foldl (fun ws r => wN ws r 0) ws
theorem wN_len : ∀ (l : List ByteArray) (ws : List Int) (i : Nat), (wN ws l i).length = ws.length
  | [], ws, i => rfl
  | c :: l, ws, i => by rw [wN, wN_len l, List.length_set]
theorem wAll_len : ∀ (rows : List (List ByteArray)) (ws : List Int), (wAll ws rows).length = ws.length
  | [], ws => rfl
  | r :: rows, ws => by
    show (wAll (wN ws r 0) rows).length = _
    rw [wAll_len rows, wN_len]
theorem rdOf_set (ws : List Int) (i j : Nat) (v : Int) (hi : i < ws.length) : rdOf 0 (ws.set i v) (j : Int) = if j = i then v else rdOf 0 ws (j : Int) := by
  unfold rdOf
  simp only [Int.toNat_natCast, List.getD_eq_getElem?_getD, List.getElem?_set]
  by_cases h : j = i
  · subst h; simp [hi]
  · rw [if_neg h, if_neg (fun e => h e.symm)]
theorem big_ge (ws : List Int) (i : Nat) (c : ByteArray) : rdOf 0 ws (i : Int) ≤ impl_TableLines.big ws i c ∧ (c.size : Int) ≤ impl_TableLines.big ws i c := by
  unfold impl_TableLines.big
  split <;> omega
theorem wN_ge : ∀ (l : List ByteArray) (ws : List Int) (i : Nat), i + l.length ≤ ws.length → ∀ j : Nat, rdOf 0 ws (j : Int) ≤ rdOf 0 (wN ws l i) (j : Int)
  | [], ws, i, _, j => Int.le_refl _
  | c :: l, ws, i, h, j => by
    rw [List.length_cons] at h
    refine Int.le_trans ?_ (wN_ge l _ (i + 1) (by rw [List.length_set]; omega) j)
    rw [rdOf_set _ _ _ _ (by omega)]
    split
    · rename_i e; rw [e]; exact (big_ge ws i c).1
    · exact Int.le_refl _
theorem wN_cell : ∀ (l : List ByteArray) (ws : List Int) (i : Nat), i + l.length ≤ ws.length → ∀ (t : Nat) (ht : t < l.length), ((l[t]).size : Int) ≤ rdOf 0 (wN ws l i) ((i + t : Nat) : Int)
  | [], ws, i, _, t, ht => by simp at ht
  | c :: l, ws, i, h, t, ht => by
    rw [List.length_cons] at h ht
    cases t with
    | zero =>
      refine Int.le_trans ?_ (wN_ge l _ (i + 1) (by rw [List.length_set]; omega) (i + 0))
      rw [rdOf_set _ _ _ _ (by omega), if_pos (by omega)]
      exact (big_ge ws i c).2
    | succ t =>
      have := wN_cell l (ws.set i (impl_TableLines.big ws i c)) (i + 1) (by rw [List.length_set]; omega) t (by omega)
      rw [show i + 1 + t = i + (t + 1) by omega] at this
      exact this
theorem wN_le (M : Nat) : ∀ (l : List ByteArray) (ws : List Int) (i : Nat), i + l.length ≤ ws.length → (∀ c ∈ l, c.size ≤ M) → (∀ j : Nat, 0 ≤ rdOf 0 ws (j : Int) ∧ rdOf 0 ws (j : Int) ≤ M) → ∀ j : Nat, 0 ≤ rdOf 0 (wN ws l i) (j : Int) ∧ rdOf 0 (wN ws l i) (j : Int) ≤ M
  | [], ws, i, _, _, hw, j => hw j
  | c :: l, ws, i, h, hc, hw, j => by
    rw [List.length_cons] at h
    refine wN_le M l _ (i + 1) (by rw [List.length_set]; omega) (fun c h => hc c (by simp [h])) (fun j => ?_) j
    rw [rdOf_set _ _ _ _ (by omega)]
    split
    · have := hc c (by simp)
      have := hw i
      unfold impl_TableLines.big
      split <;> omega
    · exact hw j
theorem wAll_ge : ∀ (rows : List (List ByteArray)) (ws : List Int), ws.length = 12 → (∀ r ∈ rows, r.length ≤ 12) → ∀ j : Nat, rdOf 0 ws (j : Int) ≤ rdOf 0 (wAll ws rows) (j : Int)
  | [], ws, _, _, j => Int.le_refl _
  | r :: rows, ws, hl, hr, j => by
    have h1 := hr r (by simp)
    exact Int.le_trans (wN_ge r ws 0 (by omega) j) (wAll_ge rows (wN ws r 0) (by rw [wN_len, hl]) (fun r h => hr r (by simp [h])) j)
theorem wAll_cell : ∀ (rows : List (List ByteArray)) (ws : List Int), ws.length = 12 → (∀ r ∈ rows, r.length ≤ 12) → ∀ r ∈ rows, ∀ (t : Nat) (ht : t < r.length), ((r[t]).size : Int) ≤ rdOf 0 (wAll ws rows) (t : Int)
  | [], ws, _, _, r, h => by cases h
  | q :: rows, ws, hl, hr, r, h => by
    intro t ht
    have h1 := hr q (by simp)
    rcases List.mem_cons.1 h with rfl | h
    · have := wN_cell r ws 0 (by omega) t ht
      rw [Nat.zero_add] at this
      exact Int.le_trans this (wAll_ge rows (wN ws r 0) (by rw [wN_len, hl]) (fun r h => hr r (by simp [h])) t)
    · exact wAll_cell rows (wN ws q 0) (by rw [wN_len, hl]) (fun r h => hr r (by simp [h])) r h t ht
theorem wAll_le (M : Nat) : ∀ (rows : List (List ByteArray)) (ws : List Int), ws.length = 12 → (∀ r ∈ rows, RowOk M r) → (∀ j : Nat, 0 ≤ rdOf 0 ws (j : Int) ∧ rdOf 0 ws (j : Int) ≤ M) → ∀ j : Nat, 0 ≤ rdOf 0 (wAll ws rows) (j : Int) ∧ rdOf 0 (wAll ws rows) (j : Int) ≤ M
  | [], ws, _, _, hw, j => hw j
  | r :: rows, ws, hl, hr, hw, j => by
    have h1 := hr r (by simp)
    have h2 := h1.1
    exact wAll_le M rows (wN ws r 0) (by rw [wN_len, hl]) (fun r h => hr r (by simp [h])) (wN_le M r ws 0 (by omega) (fun c hc => (h1.2 c hc).2) hw) j
theorem wrow_ev (M : Nat) (hM : M ≤ 1048576) : ∀ (l : List ByteArray) (i : Nat) (ws : List Int), (∀ c ∈ l, within c 33 126 = true ∧ c.size ≤ M) → Ev (fun k => impl_TableLines.wrow k l i ws) (some (wN ws l i))
  | [], i, ws, _ => Ev.now _
  | c :: l, i, ws, h => by
    obtain ⟨h1, h2⟩ := h c (by simp)
    show Ev (fun k => (impl_bytesWithin.f k c 33 126).bind fun b => if b = true then impl_TableLines.wrow k l (i + 1) (ws.set i (impl_TableLines.big ws i c)) else some none) _
    refine Ev.bind (bytesWithin_ev c 33 126 (by omega)) ?_
    simp only [h1, if_true]
    exact wrow_ev M hM l (i + 1) _ (fun c hc => h c (by simp [hc]))
theorem wrows_ev (M : Nat) (hM : M ≤ 1048576) : ∀ (rows : List (List ByteArray)) (ws : List Int), (∀ r ∈ rows, RowOk M r) → Ev (fun k => impl_TableLines.wrows k rows ws) (some (wAll ws rows))
  | [], ws, _ => Ev.now _
  | r :: rows, ws, h => by
    obtain ⟨h1, h2⟩ := h r (by simp)
    show Ev (fun k => if r.length ≤ 12 then (impl_TableLines.wrow k r 0 ws).bind fun o => match o with | none => some none | some ws' => impl_TableLines.wrows k rows ws' else some none) _
    simp only [if_pos h1]
    refine Ev.bind (wrow_ev M hM r 0 ws h2) ?_
    exact wrows_ev M hM rows _ (fun r hr => h r (by simp [hr]))
theorem rdL (rows : List (List ByteArray)) (q : Nat) (hq : q < rows.length) : rd_L5 rows (q : Int) = rows[q] := by
  unfold rd_L5
  simp [List.getD_eq_getElem?_getD, List.getElem?_eq_getElem hq]
theorem set_self (ws : List Int) (i : Nat) : ws.set i (rdOf 0 ws (i : Int)) = ws := by
  apply List.ext_getElem?
  intro j
  rw [List.getElem?_set]
  by_cases h : i = j
  · subst h
    by_cases h2 : i < ws.length
    · simp [rdOf, h2]
    · simp [h2]
  · rw [if_neg h]
theorem spec_row (rows : List (List ByteArray)) (hl : rows.length ≤ 1048576) (q : Nat) (hq : q < rows.length) (r : List ByteArray) (hr : rows[q] = r) (h12 : r.length ≤ 12) (hs : ∀ c ∈ r, c.size ≤ 1048576) {P : List ByteArray → Prop} :
    ∀ (d j : Nat) (ws : List Int), j + d = r.length → ws.length = 12 → EvP (fun k => spec_l30Table.l0 k rows (wN ws (r.drop j) j) ((q : Int) + 1)) P → EvP (fun k => spec_l30Table.l1 k rows ws (q : Int) (j : Int)) P := by
  have wq := w64 (show -9223372036854775808 ≤ (q : Int) + 1 by omega) (by omega)
  intro d
  induction d with
  | zero =>
    intro j ws hj hw K
    refine EvP.step (fun k => spec_l30Table.l1.eq_2 _ _ _ _ k) ?_
    simp only [if_pos (show (0 : Int) ≤ (q : Int) by omega), if_pos (show (q : Int) < (rows.length : Int) by omega), rdL rows q hq, hr, if_neg (show ¬ (j : Int) < (r.length : Int) by omega), wq]
    rw [List.drop_eq_nil_of_le (by omega)] at K
    exact K
  | succ d ih =>
    intro j ws hj hw K
    have hjl : j < r.length := by omega
    have hc : rdOf ByteArray.empty r (j : Int) = r[j] := rdOf_at r _ j hjl
    have wj := w64 (show -9223372036854775808 ≤ (j : Int) + 1 by omega) (by omega)
    refine EvP.step (fun k => spec_l30Table.l1.eq_2 _ _ _ _ k) ?_
    simp only [if_pos (show (0 : Int) ≤ (q : Int) by omega), if_pos (show (q : Int) < (rows.length : Int) by omega), rdL rows q hq, hr, if_pos (show (j : Int) < (r.length : Int) by omega), if_pos (show (0 : Int) ≤ (j : Int) by omega), if_pos (show (j : Int) < (ws.length : Int) by omega), hc, wj, Int.toNat_natCast]
    rw [List.drop_eq_getElem_cons hjl] at K
    have K2 := ih (j + 1) (ws.set j (impl_TableLines.big ws j r[j])) (by omega) (by rw [List.length_set, hw]) K
    have hc1 : ((j : Int) + 1) = ((j + 1 : Nat) : Int) := by omega
    rw [hc1]
    have hrd : rd ws (j : Int) = rdOf 0 ws (j : Int) := rfl
    by_cases hg : (r[j].size : Int) > rd ws (j : Int)
    · simp only [if_pos hg]
      have : impl_TableLines.big ws j r[j] = (r[j].size : Int) := by unfold impl_TableLines.big; rw [if_pos (by rw [← hrd]; exact hg)]
      rw [this] at K2
      exact K2
    · simp only [if_neg hg]
      have : impl_TableLines.big ws j r[j] = rdOf 0 ws (j : Int) := by unfold impl_TableLines.big; rw [if_neg (by rw [← hrd]; exact hg)]
      rw [this, set_self] at K2
      exact K2
theorem spec_rows (M : Nat) (hM : M ≤ 1048576) (rows : List (List ByteArray)) (hl : rows.length ≤ 1048576) (hr : ∀ r ∈ rows, RowOk M r) {P : List ByteArray → Prop} :
    ∀ (d q : Nat) (ws : List Int), q + d = rows.length → ws.length = 12 → EvP (fun k => spec_l30Table.l2 k rows (wAll ws (rows.drop q)) [] 0) P → EvP (fun k => spec_l30Table.l0 k rows ws (q : Int)) P := by
  intro d
  induction d with
  | zero =>
    intro q ws hq hw K
    refine EvP.step (fun k => spec_l30Table.l0.eq_2 _ _ _ k) ?_
    simp only [if_neg (show ¬ (q : Int) < (rows.length : Int) by omega)]
    rw [List.drop_eq_nil_of_le (by omega)] at K
    exact K
  | succ d ih =>
    intro q ws hq hw K
    have hql : q < rows.length := by omega
    refine EvP.step (fun k => spec_l30Table.l0.eq_2 _ _ _ k) ?_
    simp only [if_pos (show (q : Int) < (rows.length : Int) by omega)]
    have h1 := hr _ (List.getElem_mem hql)
    rw [List.drop_eq_getElem_cons hql] at K
    refine spec_row rows hl q hql _ rfl h1.1 (fun c hc => Nat.le_trans (h1.2 c hc).2 hM) rows[q].length 0 ws (by omega) hw ?_
    have := ih (q + 1) (wN ws rows[q] 0) (by omega) (by rw [wN_len, hw]) K
    simpa using this
def sps (n : Nat) : List UInt8 := List.replicate n 32
def txt (ws : List Int) : List ByteArray → Nat → List UInt8
  | [], _ => []
  | c :: l, i => c.data.toList ++ (sps ((impl_TableLines.gap ws i c).toNat) ++ txt ws l (i + 1))
def mk (l : List UInt8) : ByteArray := ⟨l.toArray⟩
theorem mk_list (l : List UInt8) : (mk l).data.toList = l := rfl
theorem data_inj {a b : ByteArray} (h : a.data.toList = b.data.toList) : a = b := ByteArray.ext (Array.ext' h)
theorem rep32 (n : Nat) : Lib.repeatL (⟨#[32]⟩ : ByteArray).data.toList n = sps n := by
  unfold sps
  induction n with
  | zero => rfl
  | succ n ih => first | (rw [Lib.repeatL, ih]; rfl) | (simp [Lib.repeatL, List.replicate_succ] at *; done)
theorem cellsT_eq (M : Nat) (hM : M ≤ 1048576) (ws : List Int) (hw : ∀ j : Nat, 0 ≤ rdOf 0 ws (j : Int) ∧ rdOf 0 ws (j : Int) ≤ M) : ∀ (l : List ByteArray) (i : Nat) (a : ByteArray), (∀ (t : Nat) (ht : t < l.length), ((l[t]).size : Int) ≤ rdOf 0 ws ((i + t : Nat) : Int)) → i + l.length ≤ 12 → a.size ≤ i * 4194304 →
    impl_TableLines.cellsT ws l i a = some (mk (a.data.toList ++ txt ws l i))
  | [], i, a, _, _, _ => by
    show some a = _
    congr 1
    apply data_inj
    rw [mk_list, txt, List.append_nil]
  | c :: l, i, a, h, h12, ha => by
    rw [List.length_cons] at h12
    have h0 := h 0 (by simp)
    rw [Nat.add_zero, List.getElem_cons_zero] at h0
    have hwi := hw i
    obtain ⟨g, hg⟩ : ∃ g : Nat, impl_TableLines.gap ws i c = (g : Int) := ⟨(impl_TableLines.gap ws i c).toNat, by unfold impl_TableLines.gap; omega⟩
    have hgv : (g : Int) = rdOf 0 ws (i : Int) - (c.size : Int) + 2 := by rw [← hg]; rfl
    have hrs : strings_Repeat.f (⟨#[32]⟩ : ByteArray) (g : Int) = some (mk (sps g)) := by
      unfold strings_Repeat.f
      rw [show ((⟨#[32]⟩ : ByteArray).size : Int) = 1 from rfl, if_pos ⟨by omega, by omega, by omega⟩, Int.toNat_natCast, rep32]
      rfl
    have hsz : (mk (sps g)).size = g := by simp [mk, sps, ByteArray.size]
    have hcs : (c ++ mk (sps g)).size = c.size + g := by rw [ByteArray.size_append, hsz]
    unfold impl_TableLines.cellsT
    rw [hg, if_pos ⟨by omega, by omega⟩, hrs]
    simp only [Option.bind_some, hsz, hcs]
    rw [if_pos ⟨by omega, by omega⟩, cellsT_eq M hM ws hw l (i + 1) (a ++ (c ++ mk (sps g))) (fun t ht => by
      have := h (t + 1) (by simp; omega)
      rw [List.getElem_cons_succ] at this
      rw [show i + 1 + t = i + (t + 1) by omega]
      exact this) (by omega) (by rw [ByteArray.size_append, hcs]; omega)]
    congr 2
    rw [txt, hg, Int.toNat_natCast]
    simp [ByteArray.data_append, mk]
theorem txt_len (M : Nat) (ws : List Int) (hw : ∀ j : Nat, 0 ≤ rdOf 0 ws (j : Int) ∧ rdOf 0 ws (j : Int) ≤ M) : ∀ (l : List ByteArray) (i : Nat), (∀ (t : Nat) (ht : t < l.length), ((l[t]).size : Int) ≤ rdOf 0 ws ((i + t : Nat) : Int)) → (txt ws l i).length ≤ l.length * (M + 2)
  | [], i, _ => by simp [txt]
  | c :: l, i, h => by
    have h0 := h 0 (by simp)
    rw [Nat.add_zero, List.getElem_cons_zero] at h0
    have hwi := hw i
    have := txt_len M ws hw l (i + 1) (fun t ht => by
      have := h (t + 1) (by simp; omega)
      rw [List.getElem_cons_succ] at this
      rw [show i + 1 + t = i + (t + 1) by omega]
      exact this)
    have hcs : c.data.toList.length = c.size := (size_len' c).symm
    rw [txt, List.length_append, List.length_append, List.length_cons, Nat.succ_mul, hcs]
    have : (sps (impl_TableLines.gap ws i c).toNat).length = (impl_TableLines.gap ws i c).toNat := by simp [sps]
    rw [this]
    unfold impl_TableLines.gap
    omega
def lineOf (ws : List Int) (r : List ByteArray) : ByteArray := mk (Lib.trimRightB (txt ws r 0) 32)
theorem trim_snoc (l : List UInt8) : Lib.trimRightB (l ++ [32]) 32 = Lib.trimRightB l 32 := by
  unfold Lib.trimRightB
  rw [List.reverse_append]
  rfl
theorem trim_snoc_ne (l : List UInt8) (c : UInt8) (hc : c ≠ 32) : Lib.trimRightB (l ++ [c]) 32 = l ++ [c] := by
  unfold Lib.trimRightB
  rw [List.reverse_append]
  simp [List.dropWhile, hc]
theorem trim_len (l : List UInt8) : (Lib.trimRightB l 32).length ≤ l.length := by
  unfold Lib.trimRightB
  rw [List.length_reverse]
  have := (List.dropWhile_sublist (fun x => x == (32 : UInt8)) (l := l.reverse)).length_le
  rw [List.length_reverse] at this
  exact this
theorem linesT_eq (M : Nat) (hM : M ≤ 1048576) (ws : List Int) (hw : ∀ j : Nat, 0 ≤ rdOf 0 ws (j : Int) ∧ rdOf 0 ws (j : Int) ≤ M) : ∀ (rows : List (List ByteArray)) (out : List ByteArray), (∀ r ∈ rows, r.length ≤ 12 ∧ ∀ (t : Nat) (ht : t < r.length), ((r[t]).size : Int) ≤ rdOf 0 ws (t : Int)) → out.length + rows.length ≤ 1048576 →
    impl_TableLines.linesT ws rows out = some (out ++ rows.map (lineOf ws))
  | [], out, _, _ => by simp [impl_TableLines.linesT]
  | r :: rows, out, h, hl => by
    obtain ⟨h12, hc⟩ := h r (by simp)
    rw [List.length_cons] at hl
    have e1 := cellsT_eq M hM ws hw r 0 ⟨#[]⟩ (fun t ht => by rw [Nat.zero_add]; exact hc t ht) (by omega) (Nat.zero_le _)
    have hlen := txt_len M ws hw r 0 (fun t ht => by rw [Nat.zero_add]; exact hc t ht)
    have hmul : r.length * (M + 2) ≤ 12 * (M + 2) := Nat.mul_le_mul_right _ h12
    have e2 : strings_TrimRight.f (mk ((⟨#[]⟩ : ByteArray).data.toList ++ txt ws r 0)) (⟨#[32]⟩ : ByteArray) = some (lineOf ws r) := by
      unfold strings_TrimRight.f
      rw [if_pos ⟨by
        rw [size_len', mk_list]
        show (txt ws r 0).length ≤ _
        omega, rfl⟩]
      rfl
    unfold impl_TableLines.linesT
    rw [if_pos h12, e1]
    simp only [Option.bind_some, e2]
    rw [if_pos (by omega), linesT_eq M hM ws hw rows _ (fun r hr => h r (by simp [hr])) (by rw [List.length_append, List.length_singleton]; omega)]
    simp
theorem strip_ev (rows : List (List ByteArray)) (ws : List Int) (out : List ByteArray) (hout : out.length < 1048577) (q : Nat) (hq : q < 1048576) {P : List ByteArray → Prop} : ∀ (n : Nat) (x : ByteArray), x.data.toList.length = n → n ≤ 100000000 →
    EvP (fun k => spec_l30Table.l2 k rows ws (out ++ [mk (Lib.trimRightB x.data.toList 32)]) ((q : Int) + 1)) P → EvP (fun k => spec_l30Table.l5 k rows ws out (q : Int) x) P := by
  have wq := w64 (show -9223372036854775808 ≤ (q : Int) + 1 by omega) (by omega)
  intro n
  induction n with
  | zero =>
    intro x hx _ K
    have hL := size_len' x
    have hnil : x.data.toList = [] := List.eq_nil_of_length_eq_zero hx
    refine EvP.step (fun k => spec_l30Table.l5.eq_2 _ _ _ _ _ k) ?_
    simp only [if_neg (show ¬ (x.size : Int) > 0 by omega), if_pos (show out.length < 8796093022208 by omega), wq]
    have : mk (Lib.trimRightB x.data.toList 32) = x := data_inj (by rw [mk_list, hnil]; rfl)
    rw [this] at K
    exact K
  | succ n ih =>
    intro x hx hn K
    have hL := size_len' x
    obtain ⟨l, c, hlc⟩ : ∃ l c, x.data.toList = l ++ [c] := by
      rcases List.eq_nil_or_concat x.data.toList with e | ⟨l, c, e⟩
      · rw [e] at hx; simp at hx
      · exact ⟨l, c, by rw [e, List.concat_eq_append]⟩
    have hll : l.length = n := by rw [hlc, List.length_append, List.length_singleton] at hx; omega
    have w1 : wrap64 ((x.size : Int) - 1) = ((n : Nat) : Int) := by rw [w64 (by omega) (by omega)]; omega
    have hb : bt x (n : Int) = (c.toNat : Int) := by
      rw [bytes_at_ x n (by omega)]
      simp only [hlc, ← hll]
      rw [List.getElem_append_right (Nat.le_refl _)]
      simp
    refine EvP.step (fun k => spec_l30Table.l5.eq_2 _ _ _ _ _ k) ?_
    simp only [if_pos (show (x.size : Int) > 0 by omega), w1, if_pos (show (0 : Int) ≤ (n : Int) by omega), if_pos (show (n : Int) < (x.size : Int) by omega), hb]
    by_cases hc : c = 32
    · subst hc
      simp only [show (((32 : UInt8).toNat : Int) = 32) from rfl, if_true, if_pos (show (n : Int) ≤ (x.size : Int) by omega), Int.toNat_natCast]
      have he : (x.extract 0 n).data.toList = l := by
        simp [ByteArray.data_extract, Array.toList_extract, List.extract_eq_take_drop, hlc, ← hll]
      refine ih (x.extract 0 n) (by rw [he, hll]) (by omega) ?_
      rw [he]
      rw [hlc, trim_snoc] at K
      exact K
    · have hn32 : ¬ (c.toNat : Int) = 32 := fun e => hc (UInt8.toNat_inj.1 (by rw [show (32 : UInt8).toNat = 32 from rfl]; omega))
      simp only [if_neg hn32, if_pos (show out.length < 8796093022208 by omega), wq]
      have : mk (Lib.trimRightB x.data.toList 32) = x := data_inj (by rw [mk_list, hlc, trim_snoc_ne l c hc])
      rw [this] at K
      exact K
theorem pad_ev (rows : List (List ByteArray)) (ws : List Int) (hw : ws.length = 12) (out : List ByteArray) (q : Nat) (j : Nat) (hj : j < 12) (W : Nat) (hW : rdOf 0 ws (j : Int) = (W : Int)) (hWM : W ≤ 1048576) {P : List ByteArray → Prop} : ∀ (d b : Nat) (x : ByteArray), b + d = W → x.size ≤ 100000000 + b →
    EvP (fun k => spec_l30Table.l3 k rows ws out (q : Int) (x ++ mk (sps d)) ((j : Int) + 1)) P → EvP (fun k => spec_l30Table.l4 k rows ws out (q : Int) x (j : Int) (b : Int)) P := by
  have wj := w64 (show -9223372036854775808 ≤ (j : Int) + 1 by omega) (by omega)
  have hrd : rd ws (j : Int) = (W : Int) := hW
  intro d
  induction d with
  | zero =>
    intro b x hb hx K
    refine EvP.step (fun k => spec_l30Table.l4.eq_2 _ _ _ _ _ _ _ k) ?_
    simp only [if_pos (show (0 : Int) ≤ (j : Int) by omega), if_pos (show (j : Int) < (ws.length : Int) by omega), hrd, if_neg (show ¬ (b : Int) < (W : Int) by omega), wj]
    have : x ++ mk (sps 0) = x := data_inj (by rw [ByteArray.data_append, Array.toList_append, mk_list]; simp [sps])
    rw [this] at K
    exact K
  | succ d ih =>
    intro b x hb hx K
    have wb := w64 (show -9223372036854775808 ≤ (b : Int) + 1 by omega) (by omega)
    refine EvP.step (fun k => spec_l30Table.l4.eq_2 _ _ _ _ _ _ _ k) ?_
    simp only [if_pos (show (0 : Int) ≤ (j : Int) by omega), if_pos (show (j : Int) < (ws.length : Int) by omega), hrd, if_pos (show (b : Int) < (W : Int) by omega), if_pos (show x.size + 1 ≤ 9223372036854775807 by omega), wb]
    have hs1 : (x ++ (⟨#[32]⟩ : ByteArray)).size = x.size + 1 := by rw [ByteArray.size_append]; rfl
    have hc1 : ((b : Int) + 1) = ((b + 1 : Nat) : Int) := by omega
    rw [hc1]
    refine ih (b + 1) (x ++ (⟨#[32]⟩ : ByteArray)) (by omega) (by rw [hs1]; omega) ?_
    have : x ++ mk (sps (d + 1)) = x ++ (⟨#[32]⟩ : ByteArray) ++ mk (sps d) := data_inj (by
      simp only [ByteArray.data_append, Array.toList_append, mk_list, sps, List.replicate_succ]
      simp)
    rw [this] at K
    exact K
theorem cells_ev (M : Nat) (hM : M ≤ 1048576) (rows : List (List ByteArray)) (ws : List Int) (hws : ws.length = 12) (hw : ∀ j : Nat, 0 ≤ rdOf 0 ws (j : Int) ∧ rdOf 0 ws (j : Int) ≤ M) (out : List ByteArray) (hout : out.length < 1048577) (q : Nat) (hq : q < rows.length) (hql : rows.length ≤ 1048576) (r : List ByteArray) (hr : rows[q] = r) (h12 : r.length ≤ 12)
    (hc : ∀ (t : Nat) (ht : t < r.length), ((r[t]).size : Int) ≤ rdOf 0 ws (t : Int)) {P : List ByteArray → Prop} (T : List UInt8) (K : EvP (fun k => spec_l30Table.l2 k rows ws (out ++ [mk (Lib.trimRightB T 32)]) ((q : Int) + 1)) P) :
    ∀ (d j : Nat) (x : ByteArray) (A : List UInt8), j + d = r.length → (j = 0 ∧ x.data.toList = A ∨ 0 < j ∧ x.data.toList ++ [32, 32] = A) → A.length ≤ j * 4194304 → A ++ txt ws (r.drop j) j = T → EvP (fun k => spec_l30Table.l3 k rows ws out (q : Int) x (j : Int)) P := by
  intro d
  induction d with
  | zero =>
    intro j x A hj hx hA hT
    have hL := size_len' x
    have hxA : x.data.toList.length ≤ A.length := by
      rcases hx with ⟨_, h⟩ | ⟨_, h⟩
      · rw [h]; exact Nat.le_refl _
      · rw [← h]; simp
    refine EvP.step (fun k => spec_l30Table.l3.eq_2 _ _ _ _ _ _ k) ?_
    simp only [if_pos (show (0 : Int) ≤ (q : Int) by omega), if_pos (show (q : Int) < (rows.length : Int) by omega), rdL rows q hq, hr, if_neg (show ¬ (j : Int) < (r.length : Int) by omega)]
    refine strip_ev rows ws out hout q (by omega) _ x rfl (by omega) ?_
    have : Lib.trimRightB x.data.toList 32 = Lib.trimRightB T 32 := by
      rw [← hT, List.drop_eq_nil_of_le (by omega), txt, List.append_nil]
      rcases hx with ⟨_, h⟩ | ⟨_, h⟩
      · rw [h]
      · rw [← h, show ([32, 32] : List UInt8) = [32] ++ [32] from rfl, ← List.append_assoc, trim_snoc, trim_snoc]
    rw [this]
    exact K
  | succ d ih =>
    intro j x A hj hx hA hT
    have hL := size_len' x
    have hjl : j < r.length := by omega
    have hxA : x.data.toList.length ≤ A.length := by
      rcases hx with ⟨_, h⟩ | ⟨_, h⟩
      · rw [h]; exact Nat.le_refl _
      · rw [← h]; simp
    have hcr : rdOf ByteArray.empty r (j : Int) = r[j] := rdOf_at r _ j hjl
    have hcj := hc j hjl
    obtain ⟨hw0, hw1⟩ := hw j
    obtain ⟨W, hW⟩ : ∃ W : Nat, rdOf 0 ws (j : Int) = (W : Int) := ⟨(rdOf 0 ws (j : Int)).toNat, by omega⟩
    have jstep : ∀ y : ByteArray, y.data.toList = A → EvP (fun k => spec_l30Table.j4 k rows ws out (q : Int) y (j : Int)) P := by
      intro y hy
      have hyL := size_len' y
      rw [hy] at hyL
      refine EvP.step (fun k => spec_l30Table.j4.eq_2 _ _ _ _ _ _ k) ?_
      simp only [if_pos (show (0 : Int) ≤ (q : Int) by omega), if_pos (show (q : Int) < (rows.length : Int) by omega), rdL rows q hq, hr, if_pos (show (0 : Int) ≤ (j : Int) by omega), if_pos (show (j : Int) < (r.length : Int) by omega), hcr, if_pos (show y.size + r[j].size ≤ 9223372036854775807 by omega)]
      refine pad_ev rows ws hws out q j (by omega) W hW (by omega) (W - r[j].size) r[j].size (y ++ r[j]) (by omega) (by rw [ByteArray.size_append]; omega) ?_
      have hc1 : ((j : Int) + 1) = ((j + 1 : Nat) : Int) := by omega
      rw [hc1]
      have hg : impl_TableLines.gap ws j r[j] = ((W - r[j].size + 2 : Nat) : Int) := by unfold impl_TableLines.gap; omega
      refine ih (j + 1) _ (A ++ (r[j].data.toList ++ sps (W - r[j].size + 2))) (by omega) (Or.inr ⟨by omega, ?_⟩) ?_ ?_
      · simp only [ByteArray.data_append, Array.toList_append, mk_list, hy, sps]
        rw [show W - r[j].size + 2 = W - r[j].size + 1 + 1 from rfl, List.replicate_succ', List.replicate_succ']
        simp
      · have hcs : r[j].data.toList.length = r[j].size := (size_len' _).symm
        rw [List.length_append, List.length_append, hcs]
        have : (sps (W - r[j].size + 2)).length = W - r[j].size + 2 := by simp [sps]
        rw [this]
        omega
      · rw [← hT, List.drop_eq_getElem_cons hjl, txt, hg, Int.toNat_natCast]
        simp
    refine EvP.step (fun k => spec_l30Table.l3.eq_2 _ _ _ _ _ _ k) ?_
    simp only [if_pos (show (0 : Int) ≤ (q : Int) by omega), if_pos (show (q : Int) < (rows.length : Int) by omega), rdL rows q hq, hr, if_pos (show (j : Int) < (r.length : Int) by omega)]
    rcases hx with ⟨hj0, h⟩ | ⟨hj0, h⟩
    · simp only [if_neg (show ¬ (j : Int) > 0 by omega)]
      exact jstep x h
    · simp only [if_pos (show (j : Int) > 0 by omega), if_pos (show x.size + 2 ≤ 9223372036854775807 by omega)]
      refine jstep _ ?_
      rw [ByteArray.data_append, Array.toList_append, ← h]
theorem lines_ev (M : Nat) (hM : M ≤ 1048576) (rows : List (List ByteArray)) (hl : rows.length ≤ 1048576) (ws : List Int) (hws : ws.length = 12) (hw : ∀ j : Nat, 0 ≤ rdOf 0 ws (j : Int) ∧ rdOf 0 ws (j : Int) ≤ M)
    (hc : ∀ r ∈ rows, r.length ≤ 12 ∧ ∀ (t : Nat) (ht : t < r.length), ((r[t]).size : Int) ≤ rdOf 0 ws (t : Int)) : ∀ (d q : Nat) (out : List ByteArray), q + d = rows.length → out.length = q → EvP (fun k => spec_l30Table.l2 k rows ws out (q : Int)) (· = out ++ (rows.drop q).map (lineOf ws)) := by
  intro d
  induction d with
  | zero =>
    intro q out hq ho
    refine EvP.step (fun k => spec_l30Table.l2.eq_2 _ _ _ _ k) ?_
    simp only [if_neg (show ¬ (q : Int) < (rows.length : Int) by omega)]
    rw [List.drop_eq_nil_of_le (by omega)]
    exact EvP.now (by simp)
  | succ d ih =>
    intro q out hq ho
    have hql : q < rows.length := by omega
    obtain ⟨h12, hcc⟩ := hc _ (List.getElem_mem hql)
    have h := ih (q + 1) (out ++ [lineOf ws rows[q]]) (by omega) (by rw [List.length_append, ho]; rfl)
    refine EvP.step (fun k => spec_l30Table.l2.eq_2 _ _ _ _ k) ?_
    simp only [if_pos (show (q : Int) < (rows.length : Int) by omega)]
    have e : out ++ (rows.drop q).map (lineOf ws) = out ++ [lineOf ws rows[q]] ++ (rows.drop (q + 1)).map (lineOf ws) := by
      rw [List.drop_eq_getElem_cons hql, List.map_cons, List.append_assoc, List.singleton_append]
    rw [e]
    exact cells_ev M hM rows ws hws hw out (by omega) q hql hl _ rfl h12 hcc (txt ws rows[q] 0) h rows[q].length 0 ⟨#[]⟩ [] (by omega) (Or.inl ⟨rfl, rfl⟩) (by simp) rfl
theorem table_ev (M : Nat) (hM : M ≤ 1048576) (rows : List (List ByteArray)) (hl : rows.length ≤ 1048576) (hr : ∀ r ∈ rows, RowOk M r) :
    ∃ ls : List ByteArray, ls.length = rows.length ∧ (∀ x ∈ ls, x.size ≤ 12 * (M + 2)) ∧ Ev (fun k => spec_l30Table.f k rows) ls ∧ ∀ r, Ev (fun k => impl_reportOrFull.f k ls) r → Ev (fun k => impl_TableLines.f k rows) r := by
  obtain ⟨w0, hw0⟩ : ∃ w0 : List Int, w0 = List.replicate 12 0 := ⟨_, rfl⟩
  have hl0 : w0.length = 12 := by rw [hw0]; rfl
  have hz : ∀ j : Nat, 0 ≤ rdOf 0 w0 (j : Int) ∧ rdOf 0 w0 (j : Int) ≤ M := by
    intro j
    have : rdOf 0 w0 (j : Int) = 0 := by
      rw [hw0]
      unfold rdOf
      simp only [Int.toNat_natCast, List.getD_eq_getElem?_getD, List.getElem?_replicate]
      split <;> rfl
    omega
  obtain ⟨ws, hws⟩ : ∃ ws, ws = wAll w0 rows := ⟨_, rfl⟩
  have hwl : ws.length = 12 := by rw [hws, wAll_len, hl0]
  have hw : ∀ j : Nat, 0 ≤ rdOf 0 ws (j : Int) ∧ rdOf 0 ws (j : Int) ≤ M := by rw [hws]; exact wAll_le M rows w0 hl0 hr hz
  have hc : ∀ r ∈ rows, r.length ≤ 12 ∧ ∀ (t : Nat) (ht : t < r.length), ((r[t]).size : Int) ≤ rdOf 0 ws (t : Int) := by
    intro r h
    refine ⟨(hr r h).1, ?_⟩
    rw [hws]
    exact wAll_cell rows w0 hl0 (fun r h => (hr r h).1) r h
  refine ⟨rows.map (lineOf ws), by simp, ?_, ?_, ?_⟩
  · intro x hx
    obtain ⟨r, h, rfl⟩ := List.mem_map.1 hx
    have h1 := txt_len M ws hw r 0 (fun t ht => by rw [Nat.zero_add]; exact (hc r h).2 t ht)
    have h2 := trim_len (txt ws r 0)
    have h3 : r.length * (M + 2) ≤ 12 * (M + 2) := Nat.mul_le_mul_right _ (hc r h).1
    rw [size_len']
    show (Lib.trimRightB (txt ws r 0) 32).length ≤ _
    omega
  · unfold spec_l30Table.f
    rw [← hw0]
    refine EvP.eq ?_
    refine spec_rows M hM rows hl hr rows.length 0 w0 (by omega) hl0 ?_
    rw [List.drop_zero, ← hws]
    have := lines_ev M hM rows hl ws hwl hw hc rows.length 0 [] (by omega) rfl
    simpa using this
  · intro r K
    unfold impl_TableLines.f
    rw [← hw0]
    refine Ev.bind (wrows_ev M hM rows w0 hr) ?_
    rw [← hws]
    simp only [linesT_eq M hM ws hw rows [] hc (by simpa using hl), Option.bind_some, List.nil_append]
    exact K
theorem done_ev (ls : List ByteArray) (hl : ls.length ≤ 1048576) (hs : ∀ x ∈ ls, x.size ≤ 1048576) : Ev (fun k => spec_l30Done.f k ls) (if repOk ls = true then (ls, 0) else ([], 5)) ∧ Ev (fun k => impl_reportOrFull.f k ls) (if repOk ls = true then (ls, 0) else ([], 5)) := by
  constructor
  · unfold spec_l30Done.f
    refine Ev.bind (spec_rep_ev ls hl hs) ?_
    split <;> exact Ev.now _
  · unfold impl_reportOrFull.f
    refine Ev.bind (impl_rep_ev ls hl hs) ?_
    split <;> exact Ev.now _
end Go.Proofs.YtadaegehdcngdaaGreatDoor.PTable
end

section
namespace Go.Proofs.YtadaegehdcngdaaGreatDoor.PCrc
open Go.RowKit Go.Proofs.YtadaegehdcngdaaGreatDoorW.PrintWords Go.Proofs.YtadaegehdcngdaaGreatDoor.XV Go.Proofs.YtadaegehdcngdaaGreatDoor.EvK
set_option linter.unusedVariables false
set_option linter.unusedSimpArgs false
def D (u : Nat) : List Int := (Lib.decDigits u).map fun b => (b.toNat : Int)
theorem D_small (u : Nat) (h : u < 10) : D u = [48 + (u : Int)] := by
  unfold D
  rw [Lib.decDigits_one h]
  simp
  omega
theorem D_big (u : Nat) (h : ¬ u < 10) : D u = D (u / 10) ++ [48 + ((u % 10 : Nat) : Int)] := by
  unfold D
  rw [Lib.decDigits, dif_neg h]
  simp
  omega
theorem D_text (u : Nat) : strOfNums (D u) = (⟨(Lib.decDigits u).toArray⟩ : ByteArray) := by
  unfold D
  simp [strOfNums]
  refine (List.map_congr_left (g := id) (fun b _ => ?_)).trans (List.map_id _)
  simp
theorem back_ev (x : List Int) (hx : x.length ≤ 1000) : ∀ (d : Nat) (y : List Int), d ≤ x.length → y.length + d ≤ 1000 → Ev (fun k => spec_l01Dec.l1 k x y ((d : Int) - 1)) (strOfNums (y ++ (x.take d).reverse)) := by
  intro d
  induction d with
  | zero =>
    intro y _ _
    refine Ev.step (fun k => spec_l01Dec.l1.eq_2 _ _ _ k) ?_
    simp only [if_neg (show ¬ ((0 : Nat) : Int) - 1 ≥ 0 by omega)]
    exact Ev.some (by simp)
  | succ d ih =>
    intro y hd hy
    have h1 := ih (y ++ [rd x (d : Int)]) (by omega) (by rw [List.length_append]; simp only [List.length_cons, List.length_nil]; omega)
    refine Ev.step (fun k => spec_l01Dec.l1.eq_2 _ _ _ k) ?_
    simp only [show ((d + 1 : Nat) : Int) - 1 = (d : Int) by omega, if_pos (show (d : Int) ≥ 0 by omega), if_pos (show (0 : Int) ≤ (d : Int) by omega), if_pos (show (d : Int) < (x.length : Int) by omega), if_pos (show y.length < 140737488355328 by omega), w64 (show -9223372036854775808 ≤ (d : Int) - 1 by omega) (by omega)]
    have e : y ++ (x.take (d + 1)).reverse = y ++ [rd x (d : Int)] ++ (x.take d).reverse := by
      rw [List.take_succ_eq_append_getElem (by omega), rd_at x d (by omega)]
      simp
    rw [e]
    exact h1
theorem go_ev (n : Int) (hn : ¬ n < 0) : ∀ (f u : Nat) (x : List Int), u < 10 ^ f → f ≤ 19 → 0 < u → x.length + f ≤ 40 → Ev (fun k => spec_l01Dec.l0 k n x (u : Int)) (strOfNums ((x ++ (D u).reverse).reverse)) := by
  have fin : ∀ x : List Int, x.length ≤ 60 → Ev (fun k => spec_l01Dec.l0 k n x 0) (strOfNums x.reverse) := by
    intro x hx
    have h := back_ev x (by omega) x.length [] (by omega) (by simp; omega)
    refine Ev.step (fun k => spec_l01Dec.l0.eq_2 _ _ _ k) ?_
    simp only [if_true, if_neg hn]
    refine Ev.step (fun k => spec_l01Dec.j1.eq_2 _ k) ?_
    simp only [w64 (show -9223372036854775808 ≤ (x.length : Int) - 1 by omega) (by omega)]
    simpa using h
  intro f
  induction f with
  | zero => intro u x hu _ h0 _; omega
  | succ f ih =>
    intro u x hu hf h0 hx
    have hp : (10 : Nat) ^ (f + 1) ≤ 10 ^ 19 := Nat.pow_le_pow_right (by decide) hf
    have hp2 : (10 : Nat) ^ (f + 1) = 10 ^ f * 10 := Nat.pow_succ 10 f
    obtain ⟨a, ha⟩ : ∃ a : Int, a = ((u % 10 : Nat) : Int) := ⟨_, rfl⟩
    obtain ⟨b, hb⟩ : ∃ b : Int, b = ((u / 10 : Nat) : Int) := ⟨_, rfl⟩
    have t1 : Int.tmod (u : Int) 10 = a := by rw [Int.tmod_eq_emod_of_nonneg (by omega)]; omega
    have t2 : Int.tdiv (u : Int) 10 = b := by rw [Int.tdiv_eq_ediv_of_nonneg (by omega)]; omega
    have w1 : wrap64 (48 + a) % 256 = 48 + a := by rw [w64 (by omega) (by omega)]; omega
    have w2 : wrap64 b = b := w64 (by omega) (by omega)
    have c1 : ¬ (u : Int) = 0 := by omega
    have c2 : ¬ a < 0 := by omega
    have c3 : x.length < 140737488355328 := by omega
    have E : ∀ k, spec_l01Dec.l0 (k + 1) n x (u : Int) = spec_l01Dec.l0 k n (x ++ [48 + a]) b := by
      intro k
      rw [spec_l01Dec.l0.eq_2, if_neg c1, t1, if_neg c2, if_pos c3, w1, t2, w2]
    refine Ev.step E ?_
    clear E t1 t2 w1 w2
    by_cases h10 : u < 10
    · have e0 : b = 0 := by omega
      have e1 : (u : Int) = a := by omega
      have h := fin (x ++ [48 + a]) (by rw [List.length_append]; simp only [List.length_cons, List.length_nil]; omega)
      rw [e0, D_small u h10, e1, List.reverse_singleton]
      exact h
    · have h := ih (u / 10) (x ++ [48 + a]) (by omega) (by omega) (by omega) (by rw [List.length_append]; simp only [List.length_cons, List.length_nil]; omega)
      have e : x ++ (D u).reverse = x ++ [48 + a] ++ (D (u / 10)).reverse := by rw [D_big u h10, ← ha]; simp
      rw [e, hb]
      exact h
theorem dec_ev (u : Nat) (hu : u ≤ 9223372036854775807) : Ev (fun k => spec_l01Dec.f k (u : Int)) (⟨(Lib.itoa (u : Int)).toArray⟩ : ByteArray) := by
  have ei : Lib.itoa (u : Int) = Lib.decDigits u := by unfold Lib.itoa; rw [if_neg (by omega)]; rfl
  rw [ei]
  unfold spec_l01Dec.f
  by_cases h0 : u = 0
  · subst h0
    simp only [Int.natCast_zero, if_true]
    refine Ev.some ?_
    rw [Lib.decDigits_one (by omega)]
    rfl
  · simp only [if_neg (show ¬ (u : Int) = 0 by omega)]
    have h := go_ev (u : Int) (by omega) 19 u [] (by omega) (by omega) (by omega) (by simp)
    rw [← D_text]
    simpa using h
theorem dec_eq (u : Nat) (hu : u ≤ 9223372036854775807) : impl_Decimal.f (u : Int) = some (⟨(Lib.itoa (u : Int)).toArray⟩ : ByteArray) := by
  unfold impl_Decimal.f strconv_FormatInt.f
  rw [if_pos ⟨rfl, by omega, by omega⟩]
  rfl
theorem itoa_size (u f : Nat) (h : u < 10 ^ f) (hf : 0 < f) : (⟨(Lib.itoa (u : Int)).toArray⟩ : ByteArray).size ≤ f := by
  have ei : Lib.itoa (u : Int) = Lib.decDigits u := by unfold Lib.itoa; rw [if_neg (by omega)]; rfl
  have hs : (⟨(Lib.itoa (u : Int)).toArray⟩ : ByteArray).size = (Lib.decDigits u).length := by rw [ei]; simp [ByteArray.size]
  rw [hs, Lib.decDigits_length]
  apply Nat.le_of_not_lt
  intro hc
  have key : ∀ (f u : Nat), u < 10 ^ f → 0 < f → Lib.nDigits u ≤ f := by
    intro f
    induction f with
    | zero => intro u _ h; omega
    | succ f ih =>
      intro u h _
      by_cases h10 : u < 10
      · rw [Lib.nDigits_small h10]; omega
      · rw [Lib.nDigits_big h10]
        rw [Nat.pow_succ] at h
        by_cases hf0 : f = 0
        · subst hf0; omega
        · have := ih (u / 10) (by omega) (by omega); omega
  have := key f u h hf
  omega
end Go.Proofs.YtadaegehdcngdaaGreatDoor.PCrc
end

section
namespace Go.Proofs.YtadaegehdcngdaaGreatDoor.PNum
open Go.RowKit Go.Proofs.YtadaegehdcngdaaGreatDoorW.PrintWords Go.Proofs.YtadaegehdcngdaaGreatDoor.EvK
set_option linter.unusedVariables false
set_option linter.unusedSimpArgs false
def dig (c : UInt8) : Bool := decide (48 ≤ c.toNat) && decide (c.toNat ≤ 57)
theorem dig_iff (c : UInt8) : dig c = true ↔ 48 ≤ c.toNat ∧ c.toNat ≤ 57 := by unfold dig; simp
theorem dec_all : ∀ (f u : Nat), u < 10 ^ f → 0 < f → (Lib.decDigits u).all dig = true ∧ ∃ c r, Lib.decDigits u = c :: r ∧ (c = 48 → u = 0 ∧ r = []) := by
  intro f
  induction f with
  | zero => intro u _ h; omega
  | succ f ih =>
    intro u h _
    have ho : ∀ d, d < 10 → dig (UInt8.ofNat (48 + d)) = true ∧ (UInt8.ofNat (48 + d) = 48 → d = 0) := by decide
    by_cases h10 : u < 10
    · rw [Lib.decDigits_one h10]
      refine ⟨by rw [List.all_cons, (ho u h10).1]; rfl, _, _, rfl, fun e => ⟨(ho u h10).2 e, rfl⟩⟩
    · rw [Nat.pow_succ] at h
      have hf0 : 0 < f := by
        apply Nat.pos_of_ne_zero
        rintro rfl
        omega
      obtain ⟨i1, c, r, i2, i3⟩ := ih (u / 10) (by omega) hf0
      rw [Lib.decDigits, dif_neg h10]
      refine ⟨by rw [List.all_append, i1, List.all_cons, (ho (u % 10) (by omega)).1]; rfl, c, r ++ [_], by rw [i2]; rfl, fun e => ?_⟩
      have := (i3 e).1
      omega
end Go.Proofs.YtadaegehdcngdaaGreatDoor.PNum
end

section
namespace Go.Proofs.YtadaegehdcngdaaGreatDoor.PNode
open Go.RowKit Go.Proofs.YtadaegehdcngdaaGreatDoorW.PrintWords Go.Proofs.YtadaegehdcngdaaGreatDoorW.PrintMore Go.Proofs.YtadaegehdcngdaaGreatDoor.XV Go.Proofs.YtadaegehdcngdaaGreatDoor.EvK Go.Proofs.YtadaegehdcngdaaGreatDoor.PBasics Go.Proofs.YtadaegehdcngdaaGreatDoor.PNet Go.Proofs.YtadaegehdcngdaaGreatDoor.PTable Go.Proofs.YtadaegehdcngdaaGreatDoor.LinesV
set_option linter.unusedVariables false
set_option linter.unusedSimpArgs false
def inEnd (p : S58) (f : Int) : Int := if f < 0 then p.f1 else p.f2
def outEnd (p : S58) (f : Int) : Int := if f < 0 then p.f2 else p.f1
def sumIn (l : List S58) (fl : List Int) (x : Int) : Nat → Nat
  | 0 => 0
  | i + 1 => sumIn l fl x i + (if inEnd (l.getD i z58) (fl.getD i 0) = x then (fl.getD i 0).natAbs else 0)
def sumOut (l : List S58) (fl : List Int) (x : Int) : Nat → Nat
  | 0 => 0
  | i + 1 => sumOut l fl x i + (if outEnd (l.getD i z58) (fl.getD i 0) = x then (fl.getD i 0).natAbs else 0)
def FlOk (fl : List Int) : Prop := ∀ i, (fl.getD i 0).natAbs ≤ 100000
theorem sumIn_succ (l : List S58) (fl : List Int) (x : Int) (i : Nat) : sumIn l fl x (i + 1) = sumIn l fl x i + (if inEnd (l.getD i z58) (fl.getD i 0) = x then (fl.getD i 0).natAbs else 0) := rfl
theorem sumIn_le (l : List S58) (fl : List Int) (x : Int) (hf : FlOk fl) : ∀ i, sumIn l fl x i ≤ i * 100000
  | 0 => by unfold sumIn; omega
  | i + 1 => by
    have h1 := sumIn_le l fl x hf i
    have h2 := hf i
    rw [sumIn_succ]
    obtain ⟨w, hw⟩ : ∃ w, w = (fl.getD i 0).natAbs := ⟨_, rfl⟩
    obtain ⟨z, hz⟩ : ∃ z, z = sumIn l fl x i := ⟨_, rfl⟩
    rw [← hw] at h2 ⊢
    rw [← hz] at h1 ⊢
    rw [Nat.succ_mul]
    split
    · exact Nat.add_le_add h1 h2
    · exact Nat.add_le_add h1 (Nat.zero_le _)
theorem sumOut_succ (l : List S58) (fl : List Int) (x : Int) (i : Nat) : sumOut l fl x (i + 1) = sumOut l fl x i + (if outEnd (l.getD i z58) (fl.getD i 0) = x then (fl.getD i 0).natAbs else 0) := rfl
theorem sumOut_le (l : List S58) (fl : List Int) (x : Int) (hf : FlOk fl) : ∀ i, sumOut l fl x i ≤ i * 100000
  | 0 => by unfold sumOut; omega
  | i + 1 => by
    have h1 := sumOut_le l fl x hf i
    have h2 := hf i
    rw [sumOut_succ]
    obtain ⟨w, hw⟩ : ∃ w, w = (fl.getD i 0).natAbs := ⟨_, rfl⟩
    obtain ⟨z, hz⟩ : ∃ z, z = sumOut l fl x i := ⟨_, rfl⟩
    rw [← hw] at h2 ⊢
    rw [← hz] at h1 ⊢
    rw [Nat.succ_mul]
    split
    · exact Nat.add_le_add h1 h2
    · exact Nat.add_le_add h1 (Nat.zero_le _)
theorem abs_eq (v : Int) (h : v.natAbs ≤ 100000) : impl_abs.f v = some (v.natAbs : Int) := by
  unfold impl_abs.f mx
  rw [w64 (by omega) (by omega)]
  congr 1
  split <;> omega
theorem specAbs_eq (v : Int) (h : v.natAbs ≤ 100000) : spec_l03Abs.f v = some (v.natAbs : Int) := by
  unfold spec_l03Abs.f spec_l00Max.f
  rw [w64 (by omega) (by omega)]
  split
  · simp only [Option.bind_some]; congr 1; omega
  · simp only [Option.bind_some]; congr 1; omega
def ints (n : Nat) (g : Nat → Nat) : List Int := (List.range n).map (fun x => (g x : Int))
theorem ints_len (n : Nat) (g : Nat → Nat) : (ints n g).length = n := by unfold ints; rw [List.length_map, List.length_range]
theorem rd_ints (n : Nat) (g : Nat → Nat) (j : Nat) (h : j < n) : rd (ints n g) (j : Int) = (g j : Int) := by
  rw [rd_at _ j (by rw [ints_len]; exact h)]
  unfold ints
  simp only [List.getElem_map, List.getElem_range]
theorem at_ints (n : Nat) (g : Nat → Nat) (j : Nat) (h : j < (ints n g).length) : (ints n g)[j] = (g j : Int) := by
  unfold ints at h ⊢
  rw [List.getElem_map, List.getElem_range]
theorem set_ints (n : Nat) (g g' : Nat → Nat) (e v : Nat) (h : ∀ x : Nat, x < n → g' x = g x + if e = x then v else 0) : (ints n g).set e ((g e : Int) + (v : Int)) = ints n g' := by
  apply List.ext_getElem (by rw [List.length_set, ints_len, ints_len])
  intro j h1 h2
  have hj := h j (by rw [ints_len] at h2; exact h2)
  rw [List.getElem_set, at_ints, at_ints, hj]
  by_cases he : e = j
  · subst he; rw [if_pos rfl, if_pos rfl]; omega
  · rw [if_neg he, if_neg he]; omega
theorem nat_of {e : Int} {n : Nat} (h0 : 0 ≤ e) (h1 : e < (n : Int)) : ∃ j : Nat, e = (j : Int) ∧ j < n := ⟨e.toNat, by omega, by omega⟩
def EndsOk (n : Nat) (l : List S58) : Prop := ∀ i, i < l.length → (0 ≤ (l.getD i z58).f1 ∧ (l.getD i z58).f1 < (n : Int)) ∧ (0 ≤ (l.getD i z58).f2 ∧ (l.getD i z58).f2 < (n : Int))
theorem net_facts {nodes : List Int} {l : List S58} (h : netOk nodes l = true) : 1 ≤ nodes.length ∧ nodes.length ≤ 16 ∧ l.length ≤ 20 ∧ EndsOk nodes.length l := by
  unfold netOk at h
  simp only [Bool.and_eq_true, decide_eq_true_eq, List.all_eq_true] at h
  obtain ⟨_, ⟨h1, h2, h3⟩, h4⟩ := h
  refine ⟨h1, h2, h3, fun i hi => ?_⟩
  have := h4 i (List.mem_range.2 hi)
  unfold pipeAt at this
  simp only [Bool.and_eq_true, inR_iff] at this
  have g := this.2.1
  omega
theorem flow_facts {l : List S58} {fl : List Int} (h : flowsOk l fl = true) : fl.length = l.length ∧ FlOk fl := by
  unfold flowsOk at h
  simp only [Bool.and_eq_true, decide_eq_true_eq, List.all_eq_true] at h
  refine ⟨h.1, fun i => ?_⟩
  by_cases hi : i < fl.length
  · rw [List.getD_eq_getElem?_getD, List.getElem?_eq_getElem hi]
    have := h.2 _ (List.getElem_mem hi)
    unfold elevB at this
    rw [inR_iff] at this
    simp only [Option.getD_some]
    omega
  · rw [List.getD_eq_getElem?_getD, List.getElem?_eq_none (by omega)]
    simp
def dec (u : Nat) : ByteArray := ⟨(Lib.itoa (u : Int)).toArray⟩
def rowAt (l : List S58) (fl : List Int) (x : Nat) : List ByteArray := [dec x, dec (sumIn l fl (x : Int) l.length), dec (sumOut l fl (x : Int) l.length)]
def head : List ByteArray := [(⟨#[110, 111, 100, 101]⟩ : ByteArray), (⟨#[105, 110]⟩ : ByteArray), (⟨#[111, 117, 116]⟩ : ByteArray)]
def rowsTo (l : List S58) (fl : List Int) (q : Nat) : List (List ByteArray) := head :: (List.range q).map (rowAt l fl)
theorem rowsTo_succ (l : List S58) (fl : List Int) (q : Nat) : rowsTo l fl (q + 1) = rowsTo l fl q ++ [rowAt l fl q] := by
  unfold rowsTo
  rw [List.range_succ, List.map_append]
  rfl
theorem rowsTo_len (l : List S58) (fl : List Int) (q : Nat) : (rowsTo l fl q).length = q + 1 := by unfold rowsTo; simp
theorem dec_within (u : Nat) (h : u < 10 ^ 8) : within (dec u) 33 126 = true ∧ (dec u).size ≤ 8 := by
  refine ⟨?_, PCrc.itoa_size u 8 h (by omega)⟩
  have ei : Lib.itoa (u : Int) = Lib.decDigits u := Lib.itoa_nonneg u
  unfold within dec
  rw [ei]
  have hd := (PNum.dec_all 8 u h (by omega)).1
  rw [List.all_eq_true] at hd ⊢
  intro c hc
  have h1 := hd c (by simpa using hc)
  rw [PNum.dig_iff] at h1
  unfold okByte
  simp only [Bool.and_eq_true, decide_eq_true_eq]
  omega
theorem rows_ok (l : List S58) (fl : List Int) (hf : FlOk fl) (hl : l.length ≤ 20) (n : Nat) (hn : n ≤ 16) : ∀ r ∈ rowsTo l fl n, RowOk 100 r := by
  intro r hr
  unfold rowsTo at hr
  rcases List.mem_cons.1 hr with h | h
  · subst h
    refine ⟨by decide, ?_⟩
    intro c hc
    unfold head at hc
    simp only [List.mem_cons, List.mem_nil_iff, or_false] at hc
    rcases hc with rfl | rfl | rfl <;> exact ⟨by rfl, by decide⟩
  · obtain ⟨x, hx, rfl⟩ := List.mem_map.1 h
    have hx := List.mem_range.1 hx
    have a1 := sumIn_le l fl (x : Int) hf l.length
    have a2 := sumOut_le l fl (x : Int) hf l.length
    refine ⟨by unfold rowAt; simp, ?_⟩
    intro c hc
    unfold rowAt at hc
    simp only [List.mem_cons, List.mem_nil_iff, or_false] at hc
    rcases hc with rfl | rfl | rfl
    · have := dec_within x (by omega); exact ⟨this.1, by omega⟩
    · have := dec_within (sumIn l fl (x : Int) l.length) (by omega); exact ⟨this.1, by omega⟩
    · have := dec_within (sumOut l fl (x : Int) l.length) (by omega); exact ⟨this.1, by omega⟩
theorem implPipe (nodes : List Int) (l : List S58) (fl : List Int) (n i ja jb v : Nat) (g1 g2 g1' g2' : Nat → Nat) (hi : i < 20) (hfl : i < fl.length) (ha : ja < n) (hb : jb < n) (hv : v = (fl.getD i 0).natAbs) (hva : v ≤ 100000) (h1 : ∀ x, g1 x ≤ 10000000) (h2 : ∀ x, g2 x ≤ 10000000)
    (k1 : ∀ x : Nat, x < n → g1' x = g1 x + if jb = x then v else 0) (k2 : ∀ x : Nat, x < n → g2' x = g2 x + if ja = x then v else 0) {P : List ByteArray × Int → Prop}
    (K : EvP (fun k => impl_NodeReport.l0 k fl (ints n g1') (ints n g2') l (l.length : Int) ((i : Int) + 1) nodes l) P) :
    EvP (fun k => impl_NodeReport.j1 k fl (ints n g1) (ints n g2) (i : Int) (ja : Int) (jb : Int) l (l.length : Int) (i : Int) nodes l) P := by
  refine EvP.step (fun k => impl_NodeReport.j1.eq_2 _ _ _ _ _ _ _ _ _ _ _ k) ?_
  have e : rd fl (i : Int) = fl.getD i 0 := rfl
  have hab := abs_eq (fl.getD i 0) (by omega)
  rw [← hv] at hab
  have b1 := h1 jb
  have b2 := h2 ja
  simp only [ints_len, if_pos (show (0 : Int) ≤ (ja : Int) by omega), if_pos (show (ja : Int) < (n : Int) by omega), if_pos (show (0 : Int) ≤ (jb : Int) by omega), if_pos (show (jb : Int) < (n : Int) by omega), if_pos (show (0 : Int) ≤ (i : Int) by omega), if_pos (show (i : Int) < (fl.length : Int) by omega), e, hab, Option.bind_some, rd_ints n _ ja ha, rd_ints n _ jb hb, Int.toNat_natCast, w64 (show -9223372036854775808 ≤ (i : Int) + 1 by omega) (by omega), w64 (show -9223372036854775808 ≤ (g1 jb : Int) + (v : Int) by omega) (by omega), w64 (show -9223372036854775808 ≤ (g2 ja : Int) + (v : Int) by omega) (by omega)]
  rw [set_ints n g1 g1' jb v k1, set_ints n g2 g2' ja v k2]
  exact K
theorem implSums (nodes : List Int) (l : List S58) (fl : List Int) (n : Nat) (hn : n ≤ 16) (hl : l.length ≤ 20) (hfl : fl.length = l.length) (hf : FlOk fl) (he : EndsOk n l) {P : List ByteArray × Int → Prop}
    (K : EvP (fun k => impl_NodeReport.l1 k (ints n (fun x => sumIn l fl (x : Int) l.length)) (ints n (fun x => sumOut l fl (x : Int) l.length)) [head] (n : Int) 0) P) (hN : nodes.length = n) :
    EvP (fun k => impl_NodeReport.l0 k fl (ints n (fun x => sumIn l fl (x : Int) 0)) (ints n (fun x => sumOut l fl (x : Int) 0)) l (l.length : Int) 0 nodes l) P := by
  have := for_evp (L := fun k (s : List Int × List Int) i => impl_NodeReport.l0 k fl s.1 s.2 l (l.length : Int) i nodes l) (Post := P) l.length (fun i s => s = (ints n (fun x => sumIn l fl (x : Int) i), ints n (fun x => sumOut l fl (x : Int) i))) ?_ ?_ (ints n (fun x => sumIn l fl (x : Int) 0), ints n (fun x => sumOut l fl (x : Int) 0)) rfl
  · exact this
  · intro i s hi hs K
    subst hs
    have K := K _ rfl
    refine EvP.step (fun k => impl_NodeReport.l0.eq_2 _ _ _ _ _ _ _ _ k) ?_
    have e : rd fl (i : Int) = fl.getD i 0 := rfl
    have e2 : rd_T58 l (i : Int) = l.getD i z58 := rdp l i
    obtain ⟨⟨g1, g2⟩, g3, g4⟩ := he i hi
    obtain ⟨p, hp⟩ : ∃ p, p = l.getD i z58 := ⟨_, rfl⟩
    obtain ⟨v, hv⟩ : ∃ v, v = fl.getD i 0 := ⟨_, rfl⟩
    have hva := hf i
    rw [← hp] at e2 g1 g2 g3 g4
    rw [← hv] at e hva
    obtain ⟨j1, ej1, hj1⟩ := nat_of g1 g2
    obtain ⟨j2, ej2, hj2⟩ := nat_of g3 g4
    have hab := abs_eq v hva
    have s1 := fun x : Int => sumIn_le l fl x hf i
    have s2 := fun x : Int => sumOut_le l fl x hf i
    simp only [if_pos (show (i : Int) < (l.length : Int) by omega), if_pos (show (0 : Int) ≤ (i : Int) by omega), if_pos (show (i : Int) < (fl.length : Int) by omega), e, e2, ej1, ej2]
    by_cases hneg : v < 0
    · simp only [if_pos hneg]
      refine implPipe nodes l fl n i j2 j1 v.natAbs _ _ _ _ (by omega) (by omega) hj2 hj1 (by rw [← hv]) hva (fun x => by have := s1 (x : Int); show sumIn l fl (x : Int) i ≤ _; omega) (fun x => by have := s2 (x : Int); show sumOut l fl (x : Int) i ≤ _; omega) (fun x hx => ?_) (fun x hx => ?_) K
      · show sumIn l fl (x : Int) (i + 1) = sumIn l fl (x : Int) i + _
        rw [sumIn_succ]
        unfold inEnd
        rw [← hp, ← hv, if_pos hneg, ej1]
        by_cases h : j1 = x
        · rw [if_pos h, if_pos (by omega)]
        · rw [if_neg h, if_neg (by omega)]
      · show sumOut l fl (x : Int) (i + 1) = sumOut l fl (x : Int) i + _
        rw [sumOut_succ]
        unfold outEnd
        rw [← hp, ← hv, if_pos hneg, ej2]
        by_cases h : j2 = x
        · rw [if_pos h, if_pos (by omega)]
        · rw [if_neg h, if_neg (by omega)]
    · simp only [if_neg hneg]
      refine implPipe nodes l fl n i j1 j2 v.natAbs _ _ _ _ (by omega) (by omega) hj1 hj2 (by rw [← hv]) hva (fun x => by have := s1 (x : Int); show sumIn l fl (x : Int) i ≤ _; omega) (fun x => by have := s2 (x : Int); show sumOut l fl (x : Int) i ≤ _; omega) (fun x hx => ?_) (fun x hx => ?_) K
      · show sumIn l fl (x : Int) (i + 1) = sumIn l fl (x : Int) i + _
        rw [sumIn_succ]
        unfold inEnd
        rw [← hp, ← hv, if_neg hneg, ej2]
        by_cases h : j2 = x
        · rw [if_pos h, if_pos (by omega)]
        · rw [if_neg h, if_neg (by omega)]
      · show sumOut l fl (x : Int) (i + 1) = sumOut l fl (x : Int) i + _
        rw [sumOut_succ]
        unfold outEnd
        rw [← hp, ← hv, if_neg hneg, ej1]
        by_cases h : j1 = x
        · rw [if_pos h, if_pos (by omega)]
        · rw [if_neg h, if_neg (by omega)]
  · intro s hs
    subst hs
    refine EvP.step (fun k => impl_NodeReport.l0.eq_2 _ _ _ _ _ _ _ _ k) ?_
    simp only [if_neg (show ¬ (l.length : Int) < (l.length : Int) by omega), hN]
    exact K
theorem implRows (l : List S58) (fl : List Int) (n : Nat) (hn : n ≤ 16) (hl : l.length ≤ 20) (hf : FlOk fl) {r : List ByteArray × Int} (hT : Ev (fun k => impl_TableLines.f k (rowsTo l fl n)) r) :
    EvP (fun k => impl_NodeReport.l1 k (ints n (fun x => sumIn l fl (x : Int) l.length)) (ints n (fun x => sumOut l fl (x : Int) l.length)) [head] (n : Int) 0) (· = r) := by
  have := for_evp (L := fun k (s : List (List ByteArray)) i => impl_NodeReport.l1 k (ints n (fun x => sumIn l fl (x : Int) l.length)) (ints n (fun x => sumOut l fl (x : Int) l.length)) s (n : Int) i) (Post := (· = r)) n (fun i s => s = rowsTo l fl i) ?_ ?_ [head] rfl
  · exact this
  · intro i s hi hs K
    subst hs
    have K := K _ rfl
    have a1 := sumIn_le l fl (i : Int) hf l.length
    have a2 := sumOut_le l fl (i : Int) hf l.length
    refine EvP.step (fun k => impl_NodeReport.l1.eq_2 _ _ _ _ _ k) ?_
    simp only [if_pos (show (i : Int) < (n : Int) by omega), if_pos (show (0 : Int) ≤ (i : Int) by omega), ints_len, rd_ints n _ i hi, PCrc.dec_eq i (by omega), PCrc.dec_eq _ (show sumIn l fl (i : Int) l.length ≤ 9223372036854775807 by omega), PCrc.dec_eq _ (show sumOut l fl (i : Int) l.length ≤ 9223372036854775807 by omega), Option.bind_some, rowsTo_len, if_pos (show i + 1 < 5864062014805 by omega), w64 (show -9223372036854775808 ≤ (i : Int) + 1 by omega) (by omega)]
    rw [rowsTo_succ] at K
    exact K
  · intro s hs
    subst hs
    refine EvP.step (fun k => impl_NodeReport.l1.eq_2 _ _ _ _ _ k) ?_
    simp only [if_neg (show ¬ (n : Int) < (n : Int) by omega)]
    refine EvP.bind hT ?_
    exact EvP.now rfl
theorem specPipe (nodes : List Int) (l : List S58) (fl : List Int) (rows : List (List ByteArray)) (x i a b v : Nat) (x11 x12 : Int) (hi : i < 20) (hfl : i < fl.length) (hv : v = (fl.getD i 0).natAbs) (hva : v ≤ 100000) (ha : a ≤ 10000000) (hb : b ≤ 10000000) {P : List ByteArray × Int → Prop}
    (K : EvP (fun k => spec_NodeReport.l1 k fl rows (x : Int) ((a + (if x12 = (x : Int) then v else 0) : Nat) : Int) ((b + (if x11 = (x : Int) then v else 0) : Nat) : Int) ((i : Int) + 1) nodes l) P) :
    EvP (fun k => spec_NodeReport.j2 k fl rows (x : Int) (a : Int) (b : Int) (i : Int) x11 x12 nodes l) P := by
  refine EvP.step (fun k => spec_NodeReport.j2.eq_2 _ _ _ _ _ _ _ _ _ _ k) ?_
  have e : rd fl (i : Int) = fl.getD i 0 := rfl
  have hab := specAbs_eq (fl.getD i 0) (by omega)
  rw [← hv] at hab
  simp only [if_pos (show (0 : Int) ≤ (i : Int) by omega), if_pos (show (i : Int) < (fl.length : Int) by omega), e, hab, Option.bind_some, w64 (show -9223372036854775808 ≤ (i : Int) + 1 by omega) (by omega), w64 (show -9223372036854775808 ≤ (a : Int) + (v : Int) by omega) (by omega), w64 (show -9223372036854775808 ≤ (b : Int) + (v : Int) by omega) (by omega)]
  by_cases h1 : x12 = (x : Int)
  · by_cases h2 : x11 = (x : Int)
    · simp only [if_pos h1, if_pos h2] at K ⊢
      simpa using K
    · simp only [if_pos h1, if_neg h2] at K ⊢
      simpa using K
  · by_cases h2 : x11 = (x : Int)
    · simp only [if_neg h1, if_pos h2] at K ⊢
      simpa using K
    · simp only [if_neg h1, if_neg h2] at K ⊢
      simpa using K
theorem specNode (nodes : List Int) (l : List S58) (fl : List Int) (rows : List (List ByteArray)) (hr : rows.length ≤ 1000) (x : Nat) (hx : x < 1000) (hl : l.length ≤ 20) (hfl : fl.length = l.length) (hf : FlOk fl) {P : List ByteArray × Int → Prop}
    (K : EvP (fun k => spec_NodeReport.l0 k fl (rows ++ [rowAt l fl x]) ((x : Int) + 1) nodes l) P) :
    EvP (fun k => spec_NodeReport.l1 k fl rows (x : Int) 0 0 0 nodes l) P := by
  have := for_evp (L := fun k (s : Nat × Nat) i => spec_NodeReport.l1 k fl rows (x : Int) (s.1 : Int) (s.2 : Int) i nodes l) (Post := P) l.length (fun i s => s = (sumIn l fl (x : Int) i, sumOut l fl (x : Int) i)) ?_ ?_ (0, 0) rfl
  · exact this
  · intro i s hi hs K
    subst hs
    have K := K _ rfl
    refine EvP.step (fun k => spec_NodeReport.l1.eq_2 _ _ _ _ _ _ _ _ k) ?_
    have e : rd fl (i : Int) = fl.getD i 0 := rfl
    have e2 : rd_T58 l (i : Int) = l.getD i z58 := rdp l i
    have s1 := sumIn_le l fl (x : Int) hf i
    have s2 := sumOut_le l fl (x : Int) hf i
    simp only [if_pos (show (i : Int) < (l.length : Int) by omega), if_pos (show (0 : Int) ≤ (i : Int) by omega), if_pos (show (i : Int) < (fl.length : Int) by omega), e, e2]
    have K' : EvP (fun k => spec_NodeReport.l1 k fl rows (x : Int) ((sumIn l fl (x : Int) i + (if inEnd (l.getD i z58) (fl.getD i 0) = (x : Int) then (fl.getD i 0).natAbs else 0) : Nat) : Int) ((sumOut l fl (x : Int) i + (if outEnd (l.getD i z58) (fl.getD i 0) = (x : Int) then (fl.getD i 0).natAbs else 0) : Nat) : Int) ((i : Int) + 1) nodes l) P := K
    by_cases hneg : fl.getD i 0 < 0
    · simp only [if_pos hneg]
      refine specPipe nodes l fl rows x i _ _ _ _ _ (by omega) (by omega) rfl (hf i) (by omega) (by omega) ?_
      simp only [inEnd, outEnd, if_pos hneg] at K'
      exact K'
    · simp only [if_neg hneg]
      refine specPipe nodes l fl rows x i _ _ _ _ _ (by omega) (by omega) rfl (hf i) (by omega) (by omega) ?_
      simp only [inEnd, outEnd, if_neg hneg] at K'
      exact K'
  · intro s hs
    subst hs
    have a1 := sumIn_le l fl (x : Int) hf l.length
    have a2 := sumOut_le l fl (x : Int) hf l.length
    refine EvP.step (fun k => spec_NodeReport.l1.eq_2 _ _ _ _ _ _ _ _ k) ?_
    simp only [if_neg (show ¬ (l.length : Int) < (l.length : Int) by omega)]
    refine EvP.bind (PCrc.dec_ev x (by omega)) (EvP.bind (PCrc.dec_ev _ (show sumIn l fl (x : Int) l.length ≤ 9223372036854775807 by omega)) (EvP.bind (PCrc.dec_ev _ (show sumOut l fl (x : Int) l.length ≤ 9223372036854775807 by omega)) ?_))
    simp only [if_pos (show rows.length < 5864062014805 by omega), w64 (show -9223372036854775808 ≤ (x : Int) + 1 by omega) (by omega)]
    exact K
theorem specRows (nodes : List Int) (l : List S58) (fl : List Int) (n : Nat) (hN : nodes.length = n) (hn : n ≤ 16) (hl : l.length ≤ 20) (hfl : fl.length = l.length) (hf : FlOk fl) {ls : List ByteArray} {r : List ByteArray × Int} (hT : Ev (fun k => spec_l30Table.f k (rowsTo l fl n)) ls) (hD : Ev (fun k => spec_l30Done.f k ls) r) :
    EvP (fun k => spec_NodeReport.l0 k fl [head] 0 nodes l) (· = r) := by
  have := for_evp (L := fun k (s : List (List ByteArray)) i => spec_NodeReport.l0 k fl s i nodes l) (Post := (· = r)) n (fun i s => s = rowsTo l fl i) ?_ ?_ [head] rfl
  · exact this
  · intro i s hi hs K
    subst hs
    have K := K _ rfl
    refine EvP.step (fun k => spec_NodeReport.l0.eq_2 _ _ _ _ _ k) ?_
    simp only [if_pos (show (i : Int) < (nodes.length : Int) by omega)]
    refine specNode nodes l fl _ (by rw [rowsTo_len]; omega) i (by omega) hl hfl hf ?_
    rw [rowsTo_succ] at K
    exact K
  · intro s hs
    subst hs
    refine EvP.step (fun k => spec_NodeReport.l0.eq_2 _ _ _ _ _ k) ?_
    simp only [if_neg (show ¬ (n : Int) < (nodes.length : Int) by omega)]
    refine EvP.bind hT (EvP.bind hD ?_)
    exact EvP.now rfl
theorem both_ev (nodes : List Int) (l : List S58) (fl : List Int) (hn : nodes.length ≤ 1048576) (hl : l.length ≤ 1048576) (hf : fl.length ≤ 1048576) (hs : SmallN l) :
    ∃ r : List ByteArray × Int, r.1.length ≤ 1000 ∧ (∀ x ∈ r.1, x.size ≤ 10000) ∧ Ev (fun k => spec_NodeReport.f k nodes l fl) r ∧ Ev (fun k => impl_NodeReport.f k nodes l fl) r := by
  have hi := implNet_ev nodes l hn hl hs
  have hp := specNet_ev nodes l hn hl hs
  unfold spec_NodeReport.f impl_NodeReport.f
  cases hno : netOk nodes l with
  | false =>
    rw [hno] at hi hp
    exact ⟨([], 1), by simp, by simp, Ev.bind hp (Ev.now _), Ev.bind hi (Ev.now _)⟩
  | true =>
    rw [hno] at hi hp
    have hpf := specFlows_ev nodes l fl hf
    have hif := implFlows_eq nodes l fl
    cases hfo : flowsOk l fl with
    | false =>
      rw [hfo] at hif hpf
      refine ⟨([], 2), by simp, by simp, Ev.bind hp ?_, Ev.bind hi ?_⟩
      · simp only [if_true]
        exact Ev.bind hpf (Ev.now _)
      · simp only [if_true, hif, Option.bind_some]
        exact Ev.now _
    | true =>
      rw [hfo] at hif hpf
      obtain ⟨h1, h2, h3, h4⟩ := net_facts hno
      obtain ⟨f1, f2⟩ := flow_facts hfo
      obtain ⟨ls, t1, t2, t3, t4⟩ := table_ev 100 (by omega) (rowsTo l fl nodes.length) (by rw [rowsTo_len]; omega) (rows_ok l fl f2 h3 nodes.length h2)
      rw [rowsTo_len] at t1
      obtain ⟨d1, d2⟩ := done_ev ls (by omega) (fun x hx => by have := t2 x hx; omega)
      refine ⟨if repOk ls = true then (ls, 0) else ([], 5), ?_, ?_, Ev.bind hp ?_, Ev.bind hi ?_⟩
      · split <;> simp <;> omega
      · split
        · intro x hx; have := t2 x hx; omega
        · simp
      · simp only [if_true]
        refine Ev.bind hpf ?_
        simp only [if_true]
        exact EvP.eq (specRows nodes l fl nodes.length rfl h2 h3 f1 f2 t3 d1)
      · simp only [if_true, hif, Option.bind_some, if_pos (show (0 : Int) ≤ (nodes.length : Int) by omega), Int.toNat_natCast, if_pos (show nodes.length ≤ 35184372088832 by omega)]
        have e0 : ∀ g : Nat → Nat, (∀ x, g x = 0) → List.replicate nodes.length (0 : Int) = ints nodes.length g := by
          intro g hg
          unfold ints
          apply List.ext_getElem (by simp)
          intro j _ _
          simp [hg]
        have := implSums nodes l fl nodes.length h2 h3 f1 f2 h4 (implRows l fl nodes.length h2 h3 f2 (t4 _ d2)) rfl
        rw [← e0 (fun x => sumIn l fl (x : Int) 0) (fun _ => rfl), ← e0 (fun x => sumOut l fl (x : Int) 0) (fun _ => rfl)] at this
        exact EvP.eq this
end Go.Proofs.YtadaegehdcngdaaGreatDoor.PNode
end

section
namespace Go.Proofs.YtadaegehdcngdaaGreatDoor.SV
open Go.RowKit Go.Proofs.YtadaegehdcngdaaGreatDoorW.PrintWords Go.Proofs.YtadaegehdcngdaaGreatDoor.XV Go.Proofs.YtadaegehdcngdaaGreatDoor.EvK
set_option linter.unusedVariables false
set_option linter.unusedSimpArgs false
theorem szInt64S_val (l : List Int) (left : Int) (h0 : 0 ≤ left) (h1 : left ≤ 1048576) (hq : l.length ≤ maxLen) : ∃ t, laws_szInt64S.f l left = some t ∧ t ≤ left ∧ (0 ≤ t → l.length ≤ 1048576) := by
  unfold maxLen at hq
  unfold laws_szInt64S.f
  repeat' split
  all_goals refine ⟨_, rfl, ?_, ?_⟩
  all_goals (simp only [wrap64] at *; omega)
end Go.Proofs.YtadaegehdcngdaaGreatDoor.SV
end

section
namespace Go.Proofs.YtadaegehdcngdaaGreatDoor.SV
open Go.RowKit Go.Proofs.YtadaegehdcngdaaGreatDoorW.PrintWords Go.Proofs.YtadaegehdcngdaaGreatDoor.XV Go.Proofs.YtadaegehdcngdaaGreatDoor.EvK
set_option linter.unusedVariables false
set_option linter.unusedSimpArgs false
theorem szPipe_val (x : S86) (left : Int) (h0 : 0 ≤ left) (h1 : left ≤ 1048576) (hq : Q86 x) : ∃ t, laws_szPipe.f x.f0 x.f1 x.f2 x.f3 x.f4 x.f5 left = some t ∧ t ≤ left ∧ (0 ≤ t → (x.f0.size ≤ 1048576)) := by
  unfold Q86 maxLen at hq
  unfold laws_szPipe.f
  repeat' split
  all_goals refine ⟨_, rfl, ?_, ?_⟩
  all_goals (simp only [wrap64] at *; omega)
end Go.Proofs.YtadaegehdcngdaaGreatDoor.SV
end

section
namespace Go.Proofs.YtadaegehdcngdaaGreatDoor.SV
open Go.RowKit Go.Proofs.YtadaegehdcngdaaGreatDoorW.PrintWords Go.Proofs.YtadaegehdcngdaaGreatDoor.XV Go.Proofs.YtadaegehdcngdaaGreatDoor.EvK
set_option linter.unusedVariables false
set_option linter.unusedSimpArgs false
theorem szPipeS_ev (l : List (S86)) (left : Int) (h0 : 0 ≤ left) (h1 : left ≤ 1048576) (hq : (l.length ≤ maxLen ∧ ∀ y1 ∈ l, Q86 y1)) : EvP (fun k => laws_szPipeS.f k l left) (fun t => t ≤ left ∧ (0 ≤ t → l.length ≤ 1048576 ∧ ∀ x ∈ l, (x.f0.size ≤ 1048576))) := by
  obtain ⟨hl, hq⟩ := hq
  unfold maxLen at hl
  unfold laws_szPipeS.f
  rw [w64 (by omega) (by omega)]
  by_cases hc : left - (l.length : Int) < 0
  · simp only [if_pos hc]
    exact EvP.now ⟨by omega, by omega⟩
  simp only [if_neg hc]
  refine for_evp (L := fun k (s : Int) i => laws_szPipeS.l0 k l s i) l.length (fun i s => 0 ≤ s ∧ s ≤ left - (l.length : Int) ∧ ∀ x ∈ l.take i, (x.f0.size ≤ 1048576)) ?_ ?_ _ ⟨by omega, by omega, by simp⟩
  · rintro i s hi ⟨hs0, hs1, hs⟩ K
    have e : rd_T86 l (i : Int) = l[i] := getD_at l z86 i hi
    refine EvP.step (fun k => laws_szPipeS.l0.eq_2 _ _ _ k) ?_
    obtain ⟨t, ht, ht1, ht2⟩ := szPipe_val l[i] s hs0 (by omega) (hq _ (List.getElem_mem hi))
    simp only [if_pos (show (i : Int) < (l.length : Int) by omega), if_pos (show (0 : Int) ≤ (i : Int) by omega), e, ht, Option.bind_some, w64 (show -9223372036854775808 ≤ (i : Int) + 1 by omega) (by omega)]
    by_cases hn : t < 0
    · simp only [if_pos hn]
      exact EvP.now ⟨by omega, by omega⟩
    · simp only [if_neg hn]
      exact K _ ⟨by omega, by omega, take_all hi hs (ht2 (by omega))⟩
  · rintro s ⟨hs0, hs1, hs⟩
    refine EvP.step (fun k => laws_szPipeS.l0.eq_2 _ _ _ k) ?_
    simp only [if_neg (show ¬ (l.length : Int) < (l.length : Int) by omega)]
    exact EvP.now ⟨by omega, fun _ => ⟨by omega, by simpa using hs⟩⟩
end Go.Proofs.YtadaegehdcngdaaGreatDoor.SV
end

section
namespace Go.Proofs.YtadaegehdcngdaaGreatDoor.SV
open Go.RowKit Go.Proofs.YtadaegehdcngdaaGreatDoorW.PrintWords Go.Proofs.YtadaegehdcngdaaGreatDoor.XV Go.Proofs.YtadaegehdcngdaaGreatDoor.EvK
set_option linter.unusedVariables false
set_option linter.unusedSimpArgs false
def toInt64S_el (x : Int) : Int := x
theorem toInt64S_ev (l : List Int) (hl : l.length ≤ 1048576) : Ev (fun k => laws_toInt64S.f k l) (l.map toInt64S_el) := by
  apply EvP.eq
  unfold laws_toInt64S.f
  simp only [if_pos (show (0 : Int) ≤ (l.length : Int) by omega), Int.toNat_natCast, if_pos (show l.length ≤ 35184372088832 by omega)]
  refine for_evp (L := fun k (s : List Int) i => laws_toInt64S.l0 k l s i) l.length (fun i s => s = (l.take i).map toInt64S_el ++ List.replicate (l.length - i) 0) ?_ ?_ (List.replicate l.length 0) (by simp)
  · rintro i s hi rfl K
    have e : rd l (i : Int) = l[i] := getD_at l 0 i hi
    have hlen := done_len toInt64S_el l 0 i (by omega)
    refine EvP.step (fun k => laws_toInt64S.l0.eq_2 _ _ _ k) ?_
    simp only [if_pos (show (i : Int) < (l.length : Int) by omega), if_pos (show (0 : Int) ≤ (i : Int) by omega), e, hlen, w64 (show -9223372036854775808 ≤ (i : Int) + 1 by omega) (by omega), Int.toNat_natCast]
    refine K _ ?_
    show List.set _ i (toInt64S_el l[i]) = _
    exact map_done toInt64S_el l _ i hi
  · rintro s rfl
    refine EvP.step (fun k => laws_toInt64S.l0.eq_2 _ _ _ k) ?_
    simp only [if_neg (show ¬ (l.length : Int) < (l.length : Int) by omega)]
    exact EvP.now (by simp)
end Go.Proofs.YtadaegehdcngdaaGreatDoor.SV
end

section
namespace Go.Proofs.YtadaegehdcngdaaGreatDoor.SV
open Go.RowKit Go.Proofs.YtadaegehdcngdaaGreatDoorW.PrintWords Go.Proofs.YtadaegehdcngdaaGreatDoor.XV Go.Proofs.YtadaegehdcngdaaGreatDoor.EvK
set_option linter.unusedVariables false
set_option linter.unusedSimpArgs false
def toPipeS_el (x : S86) : S58 := (⟨x.f0, x.f1, x.f2, x.f3, x.f4, x.f5⟩ : S58)
theorem toPipeS_ev (l : List (S86)) (hl : l.length ≤ 1048576) : Ev (fun k => laws_toPipeS.f k l) (l.map toPipeS_el) := by
  apply EvP.eq
  unfold laws_toPipeS.f
  simp only [if_pos (show (0 : Int) ≤ (l.length : Int) by omega), Int.toNat_natCast, if_pos (show l.length ≤ 5026338869833 by omega)]
  refine for_evp (L := fun k (s : List (S58)) i => laws_toPipeS.l0 k l s i) l.length (fun i s => s = (l.take i).map toPipeS_el ++ List.replicate (l.length - i) z58) ?_ ?_ (List.replicate l.length z58) (by simp)
  · rintro i s hi rfl K
    have e : rd_T86 l (i : Int) = l[i] := getD_at l z86 i hi
    have hlen := done_len toPipeS_el l z58 i (by omega)
    refine EvP.step (fun k => laws_toPipeS.l0.eq_2 _ _ _ k) ?_
    simp only [if_pos (show (i : Int) < (l.length : Int) by omega), if_pos (show (0 : Int) ≤ (i : Int) by omega), e, laws_toPipe.f, Option.bind_some, hlen, w64 (show -9223372036854775808 ≤ (i : Int) + 1 by omega) (by omega), Int.toNat_natCast]
    refine K _ ?_
    show List.set _ i (toPipeS_el l[i]) = _
    exact map_done toPipeS_el l _ i hi
  · rintro s rfl
    refine EvP.step (fun k => laws_toPipeS.l0.eq_2 _ _ _ k) ?_
    simp only [if_neg (show ¬ (l.length : Int) < (l.length : Int) by omega)]
    exact EvP.now (by simp)
end Go.Proofs.YtadaegehdcngdaaGreatDoor.SV
end

section
namespace Go.Proofs.YtadaegehdcngdaaGreatDoor.SV
open Go.RowKit Go.Proofs.YtadaegehdcngdaaGreatDoorW.PrintWords Go.Proofs.YtadaegehdcngdaaGreatDoor.XV Go.Proofs.YtadaegehdcngdaaGreatDoor.EvK
set_option linter.unusedVariables false
set_option linter.unusedSimpArgs false
theorem eqInt64S_ev (l : List Int) (hl : l.length ≤ 1048576) : Ev (fun k => laws_eqInt64S.f k l l) true := by
  apply EvP.eq
  unfold laws_eqInt64S.f
  simp only [if_true]
  refine for_evp (L := fun k (s : Unit) i => laws_eqInt64S.l0 k l l i) l.length (fun i s => True) ?_ ?_ () trivial
  · rintro i s hi - K
    refine EvP.step (fun k => laws_eqInt64S.l0.eq_2 _ _ _ k) ?_
    simp only [if_pos (show (i : Int) < (l.length : Int) by omega), if_pos (show (0 : Int) ≤ (i : Int) by omega), if_true, w64 (show -9223372036854775808 ≤ (i : Int) + 1 by omega) (by omega)]
    exact K () trivial
  · rintro s -
    refine EvP.step (fun k => laws_eqInt64S.l0.eq_2 _ _ _ k) ?_
    simp only [if_neg (show ¬ (l.length : Int) < (l.length : Int) by omega)]
    exact EvP.now rfl
end Go.Proofs.YtadaegehdcngdaaGreatDoor.SV
end

section
namespace Go.Proofs.YtadaegehdcngdaaGreatDoor.SV
open Go.RowKit Go.Proofs.YtadaegehdcngdaaGreatDoorW.PrintWords Go.Proofs.YtadaegehdcngdaaGreatDoor.XV Go.Proofs.YtadaegehdcngdaaGreatDoor.EvK
set_option linter.unusedVariables false
set_option linter.unusedSimpArgs false
theorem eqPipeS_ev (l : List (S58)) (hl : l.length ≤ 1048576) : Ev (fun k => laws_eqPipeS.f k l l) true := by
  apply EvP.eq
  unfold laws_eqPipeS.f
  simp only [if_true]
  refine for_evp (L := fun k (s : Unit) i => laws_eqPipeS.l0 k l l i) l.length (fun i s => True) ?_ ?_ () trivial
  · rintro i s hi - K
    refine EvP.step (fun k => laws_eqPipeS.l0.eq_2 _ _ _ k) ?_
    simp only [if_pos (show (i : Int) < (l.length : Int) by omega), if_pos (show (0 : Int) ≤ (i : Int) by omega), laws_eqPipe.f, Option.bind_some, if_true, w64 (show -9223372036854775808 ≤ (i : Int) + 1 by omega) (by omega)]
    exact K () trivial
  · rintro s -
    refine EvP.step (fun k => laws_eqPipeS.l0.eq_2 _ _ _ k) ?_
    simp only [if_neg (show ¬ (l.length : Int) < (l.length : Int) by omega)]
    exact EvP.now rfl
end Go.Proofs.YtadaegehdcngdaaGreatDoor.SV
end

section
namespace Go.Proofs.YtadaegehdcngdaaGreatDoor.SV
open Go.RowKit Go.Proofs.YtadaegehdcngdaaGreatDoorW.PrintWords Go.Proofs.YtadaegehdcngdaaGreatDoor.XV Go.Proofs.YtadaegehdcngdaaGreatDoor.EvK
set_option linter.unusedVariables false
set_option linter.unusedSimpArgs false
theorem eqStringS_ev (l : List ByteArray) (hl : l.length ≤ 1048576) : Ev (fun k => laws_eqStringS.f k l l) true := by
  apply EvP.eq
  unfold laws_eqStringS.f
  simp only [if_true]
  refine for_evp (L := fun k (s : Unit) i => laws_eqStringS.l0 k l l i) l.length (fun i s => True) ?_ ?_ () trivial
  · rintro i s hi - K
    refine EvP.step (fun k => laws_eqStringS.l0.eq_2 _ _ _ k) ?_
    simp only [if_pos (show (i : Int) < (l.length : Int) by omega), if_pos (show (0 : Int) ≤ (i : Int) by omega), if_true, w64 (show -9223372036854775808 ≤ (i : Int) + 1 by omega) (by omega)]
    exact K () trivial
  · rintro s -
    refine EvP.step (fun k => laws_eqStringS.l0.eq_2 _ _ _ k) ?_
    simp only [if_neg (show ¬ (l.length : Int) < (l.length : Int) by omega)]
    exact EvP.now rfl
end Go.Proofs.YtadaegehdcngdaaGreatDoor.SV
end

section
namespace Go.Proofs.YtadaegehdcngdaaGreatDoor.SV
open Go.RowKit Go.Proofs.YtadaegehdcngdaaGreatDoorW.PrintWords Go.Proofs.YtadaegehdcngdaaGreatDoor.XV Go.Proofs.YtadaegehdcngdaaGreatDoor.EvK
set_option linter.unusedVariables false
set_option linter.unusedSimpArgs false
theorem markInt64S_ev (l : List Int) (c : Int) (h0 : 0 ≤ c) (h1 : c + (l.length : Int) ≤ 4611686018427387904) :
    ∃ y : List Int, Ev (fun k => laws_markInt64S.f k l c) (c + (l.length : Int), y) ∧ y.length = l.length := by
  let E : Nat → Int := fun j => c + (j : Int)
  have hset : ∀ (i : Nat) (h : i < l.length), ((List.range i).map E ++ l.drop i).set i (E i) = (List.range (i + 1)).map E ++ l.drop (i + 1) := fun i h => set_done E l i h
  have hlen : ∀ (i : Nat), i ≤ l.length → ((List.range i).map E ++ l.drop i).length = l.length := by intro i h; simp; omega
  refine ⟨(List.range l.length).map E, EvP.eq ?_, by simp⟩
  · unfold laws_markInt64S.f
    refine for_evp (L := fun k (s : List Int × Int) i => laws_markInt64S.l0 k s.1 s.2 i) l.length (fun i s => s = ((List.range i).map E ++ l.drop i, c + (i : Int))) ?_ ?_ (l, c) (by simp)
    · rintro i s hi rfl K
      refine EvP.step (fun k => laws_markInt64S.l0.eq_2 _ _ _ k) ?_
      simp only [hlen i (by omega), if_pos (show (i : Int) < (l.length : Int) by omega), if_pos (show (0 : Int) ≤ (i : Int) by omega), Option.bind_some, w64 (show -9223372036854775808 ≤ (i : Int) + 1 by omega) (by omega), w64 (show -9223372036854775808 ≤ c + (i : Int) + 1 by omega) (by omega), Int.toNat_natCast]
      refine K (_, _) ?_
      rw [← hset i hi, Prod.mk.injEq]
      refine ⟨?_, by push_cast; omega⟩
      have g1 := hlen i (by omega)
      generalize (List.range i).map E ++ l.drop i = L at g1
      have g2 : i < L.length := by omega
      first | rfl | (simp [E, getD_set_self, g2])
    · rintro s rfl
      refine EvP.step (fun k => laws_markInt64S.l0.eq_2 _ _ _ k) ?_
      simp only [hlen l.length (Nat.le_refl _), if_neg (show ¬ (l.length : Int) < (l.length : Int) by omega)]
      exact EvP.now (by simp)
end Go.Proofs.YtadaegehdcngdaaGreatDoor.SV
end

section
namespace Go.Proofs.YtadaegehdcngdaaGreatDoor.SV
open Go.RowKit Go.Proofs.YtadaegehdcngdaaGreatDoorW.PrintWords Go.Proofs.YtadaegehdcngdaaGreatDoor.XV Go.Proofs.YtadaegehdcngdaaGreatDoor.EvK
set_option linter.unusedVariables false
set_option linter.unusedSimpArgs false
theorem markText_ev (c : Int) (h0 : 0 ≤ c) (h1 : c ≤ 4611686018427387904) : ∃ s : ByteArray, Ev (fun k => laws_markText.f k c) s := by
  unfold laws_markText.f
  by_cases hc : c ≤ 0
  · simp only [if_pos hc]
    exact ⟨_, Ev.now _⟩
  simp only [if_neg hc]
  have key : ∀ (d : Nat) (x : Int) (y : ByteArray), 0 ≤ x → x ≤ d → y.size + d ≤ 9223372036854775000 → ∃ s : ByteArray, Ev (fun k => laws_markText.l0 k x y) s := by
    intro d
    induction d using Nat.strongRecOn with
    | _ d ih =>
    intro x y hx hd hy
    by_cases hp : x > 0
    · have hz : (strOfNums [(wrap64 (48 + Int.tmod x 10)) % 256]).size = 1 := rfl
      have hd' : Int.tdiv x 10 = x / 10 := Int.tdiv_eq_ediv_of_nonneg hx
      have hw : wrap64 (Int.tdiv x 10) = x / 10 := by rw [hd', w64 (by omega) (by omega)]
      obtain ⟨s, hs⟩ := ih (d - 1) (by omega) (x / 10) (strOfNums [(wrap64 (48 + Int.tmod x 10)) % 256] ++ y) (by omega) (by omega) (by rw [ByteArray.size_append, hz]; omega)
      refine ⟨s, Ev.step (fun k => laws_markText.l0.eq_2 _ _ k) ?_⟩
      simp only [if_pos hp, Option.bind_some, hz, if_pos (show 1 + y.size ≤ 9223372036854775807 by omega), hw]
      exact hs
    · refine ⟨(⟨#[109]⟩ : ByteArray) ++ y, Ev.step (fun k => laws_markText.l0.eq_2 _ _ k) ?_⟩
      simp only [if_neg hp, if_pos (show 1 + y.size ≤ 9223372036854775807 by omega)]
      exact Ev.now _
  exact key c.toNat c ⟨#[]⟩ h0 (by omega) (by show 0 + _ ≤ _; omega)
end Go.Proofs.YtadaegehdcngdaaGreatDoor.SV
end

section
namespace Go.Proofs.YtadaegehdcngdaaGreatDoor.SV
open Go.RowKit Go.Proofs.YtadaegehdcngdaaGreatDoorW.PrintWords Go.Proofs.YtadaegehdcngdaaGreatDoor.XV Go.Proofs.YtadaegehdcngdaaGreatDoor.EvK
set_option linter.unusedVariables false
set_option linter.unusedSimpArgs false
theorem markPipeS_ev (l : List (S58)) (c : Int) (h0 : 0 ≤ c) (h1 : c + 6 * (l.length : Int) ≤ 4611686018427387904) :
    ∃ y : List (S58), Ev (fun k => laws_markPipeS.f k l c) (c + 6 * (l.length : Int), y) ∧ y.length = l.length := by
  obtain ⟨T, hT⟩ : ∃ T : Int → ByteArray, ∀ x : Int, 0 ≤ x → x ≤ 4611686018427387904 → Ev (fun k => laws_markText.f k x) (T x) := ⟨fun x => if h : 0 ≤ x ∧ x ≤ 4611686018427387904 then Classical.choose (markText_ev x h.1 h.2) else ByteArray.empty, fun x h h' => by simp only [h, h', and_self, dif_pos]; exact Classical.choose_spec (markText_ev x h h')⟩
  let E : Nat → S58 := fun j => ⟨T (c + 6 * (j : Int)), c + 6 * (j : Int) + 1, c + 6 * (j : Int) + 1 + 1, c + 6 * (j : Int) + 1 + 1 + 1, c + 6 * (j : Int) + 1 + 1 + 1 + 1, c + 6 * (j : Int) + 1 + 1 + 1 + 1 + 1⟩
  have hset : ∀ (i : Nat) (h : i < l.length), ((List.range i).map E ++ l.drop i).set i (E i) = (List.range (i + 1)).map E ++ l.drop (i + 1) := fun i h => set_done E l i h
  have hlen : ∀ (i : Nat), i ≤ l.length → ((List.range i).map E ++ l.drop i).length = l.length := by intro i h; simp; omega
  refine ⟨(List.range l.length).map E, EvP.eq ?_, by simp⟩
  · unfold laws_markPipeS.f
    refine for_evp (L := fun k (s : List (S58) × Int) i => laws_markPipeS.l0 k s.1 s.2 i) l.length (fun i s => s = ((List.range i).map E ++ l.drop i, c + 6 * (i : Int))) ?_ ?_ (l, c) (by simp)
    · rintro i s hi rfl K
      refine EvP.step (fun k => laws_markPipeS.l0.eq_2 _ _ _ k) ?_
      simp only [hlen i (by omega), if_pos (show (i : Int) < (l.length : Int) by omega), if_pos (show (0 : Int) ≤ (i : Int) by omega), Option.bind_some, w64 (show -9223372036854775808 ≤ (i : Int) + 1 by omega) (by omega), w64 (show -9223372036854775808 ≤ c + 6 * (i : Int) + 1 by omega) (by omega), w64 (show -9223372036854775808 ≤ c + 6 * (i : Int) + 1 + 1 by omega) (by omega), w64 (show -9223372036854775808 ≤ c + 6 * (i : Int) + 1 + 1 + 1 by omega) (by omega), w64 (show -9223372036854775808 ≤ c + 6 * (i : Int) + 1 + 1 + 1 + 1 by omega) (by omega), w64 (show -9223372036854775808 ≤ c + 6 * (i : Int) + 1 + 1 + 1 + 1 + 1 by omega) (by omega), w64 (show -9223372036854775808 ≤ c + 6 * (i : Int) + 1 + 1 + 1 + 1 + 1 + 1 by omega) (by omega), Int.toNat_natCast]
      refine EvP.bind (hT (c + 6 * (i : Int)) (by omega) (by omega)) ?_
      refine K (_, _) ?_
      rw [← hset i hi, Prod.mk.injEq]
      refine ⟨?_, by push_cast; omega⟩
      have g1 := hlen i (by omega)
      generalize (List.range i).map E ++ l.drop i = L at g1
      have g2 : i < L.length := by omega
      first | rfl | (simp [rd_T58, E, getD_set_self, g2])
    · rintro s rfl
      refine EvP.step (fun k => laws_markPipeS.l0.eq_2 _ _ _ k) ?_
      simp only [hlen l.length (Nat.le_refl _), if_neg (show ¬ (l.length : Int) < (l.length : Int) by omega)]
      exact EvP.now (by simp)
end Go.Proofs.YtadaegehdcngdaaGreatDoor.SV
end

section
namespace Go.Proofs.YtadaegehdcngdaaGreatDoor.SV
open Go.RowKit Go.Proofs.YtadaegehdcngdaaGreatDoorW.PrintWords Go.Proofs.YtadaegehdcngdaaGreatDoor.XV Go.Proofs.YtadaegehdcngdaaGreatDoor.EvK
set_option linter.unusedVariables false
set_option linter.unusedSimpArgs false
theorem markStringS_ev (l : List ByteArray) (c : Int) (h0 : 0 ≤ c) (h1 : c + (l.length : Int) ≤ 4611686018427387904) :
    ∃ y : List ByteArray, Ev (fun k => laws_markStringS.f k l c) (c + (l.length : Int), y) ∧ Ev (fun k => laws_heldStringS.f k y c) (c + (l.length : Int)) ∧ y.length = l.length := by
  obtain ⟨T, hT⟩ : ∃ T : Int → ByteArray, ∀ x : Int, 0 ≤ x → x ≤ 4611686018427387904 → Ev (fun k => laws_markText.f k x) (T x) := ⟨fun x => if h : 0 ≤ x ∧ x ≤ 4611686018427387904 then Classical.choose (markText_ev x h.1 h.2) else ByteArray.empty, fun x h h' => by simp only [h, h', and_self, dif_pos]; exact Classical.choose_spec (markText_ev x h h')⟩
  let E : Nat → ByteArray := fun j => T (c + (j : Int))
  have hset : ∀ (i : Nat) (h : i < l.length), ((List.range i).map E ++ l.drop i).set i (E i) = (List.range (i + 1)).map E ++ l.drop (i + 1) := fun i h => set_done E l i h
  have hlen : ∀ (i : Nat), i ≤ l.length → ((List.range i).map E ++ l.drop i).length = l.length := by intro i h; simp; omega
  refine ⟨(List.range l.length).map E, EvP.eq ?_, EvP.eq ?_, by simp⟩
  · unfold laws_markStringS.f
    refine for_evp (L := fun k (s : List ByteArray × Int) i => laws_markStringS.l0 k s.1 s.2 i) l.length (fun i s => s = ((List.range i).map E ++ l.drop i, c + (i : Int))) ?_ ?_ (l, c) (by simp)
    · rintro i s hi rfl K
      refine EvP.step (fun k => laws_markStringS.l0.eq_2 _ _ _ k) ?_
      simp only [hlen i (by omega), if_pos (show (i : Int) < (l.length : Int) by omega), if_pos (show (0 : Int) ≤ (i : Int) by omega), Option.bind_some, w64 (show -9223372036854775808 ≤ (i : Int) + 1 by omega) (by omega), w64 (show -9223372036854775808 ≤ c + (i : Int) + 1 by omega) (by omega), Int.toNat_natCast]
      refine EvP.bind (hT (c + (i : Int)) (by omega) (by omega)) ?_
      refine K (_, _) ?_
      rw [← hset i hi, Prod.mk.injEq]
      refine ⟨?_, by push_cast; omega⟩
      have g1 := hlen i (by omega)
      generalize (List.range i).map E ++ l.drop i = L at g1
      have g2 : i < L.length := by omega
      first | rfl | (simp [E, getD_set_self, g2])
    · rintro s rfl
      refine EvP.step (fun k => laws_markStringS.l0.eq_2 _ _ _ k) ?_
      simp only [hlen l.length (Nat.le_refl _), if_neg (show ¬ (l.length : Int) < (l.length : Int) by omega)]
      exact EvP.now (by simp)
  · unfold laws_heldStringS.f
    have hl2 : ((List.range l.length).map E).length = l.length := by simp
    refine for_evp (L := fun k (s : Int) i => laws_heldStringS.l0 k ((List.range l.length).map E) s i) l.length (fun i s => s = c + (i : Int)) ?_ ?_ c (by simp)
    · rintro i s hi rfl K
      have e : rdOf ByteArray.empty ((List.range l.length).map E) (i : Int) = E i := by
        rw [show rdOf ByteArray.empty ((List.range l.length).map E) (i : Int) = ((List.range l.length).map E)[i]'(by simpa using hi) from getD_at _ ByteArray.empty i (by simpa using hi)]; simp
      refine EvP.step (fun k => laws_heldStringS.l0.eq_2 _ _ _ k) ?_
      simp only [hl2, if_pos (show (i : Int) < (l.length : Int) by omega), if_pos (show (0 : Int) ≤ (i : Int) by omega), e, E, if_true, w64 (show -9223372036854775808 ≤ (i : Int) + 1 by omega) (by omega), w64 (show -9223372036854775808 ≤ c + (i : Int) + 1 by omega) (by omega)]
      refine EvP.bind (hT (c + (i : Int)) (by omega) (by omega)) ?_
      simp only [if_true]
      exact K _ (by push_cast; omega)
    · rintro s rfl
      refine EvP.step (fun k => laws_heldStringS.l0.eq_2 _ _ _ k) ?_
      simp only [hl2, if_neg (show ¬ (l.length : Int) < (l.length : Int) by omega)]
      exact EvP.now rfl
end Go.Proofs.YtadaegehdcngdaaGreatDoor.SV
end

section
namespace Go.Proofs.YtadaegehdcngdaaGreatDoor.PureFnExactNodeReport
open Go.RowKit Go.Proofs.YtadaegehdcngdaaGreatDoorW.PrintWords Go.Proofs.YtadaegehdcngdaaGreatDoor.XV Go.Proofs.YtadaegehdcngdaaGreatDoor.EvK Go.Proofs.YtadaegehdcngdaaGreatDoor.PNet Go.Proofs.YtadaegehdcngdaaGreatDoor.PNode Go.Proofs.YtadaegehdcngdaaGreatDoor.SV
set_option linter.unusedVariables false
set_option linter.unusedSimpArgs false
theorem pure : laws_FnExactNodeReport.Pure := by
  intro a fl hq hqf
  apply EvP.rounds
  unfold laws_FnExactNodeReport.f
  by_cases hw1 : (fl.length : Int) > 1048576
  · simp only [if_pos hw1]
    exact EvP.now rfl
  simp only [if_neg hw1]
  obtain ⟨nodes, hnodes⟩ : ∃ x, x = a.f0 := ⟨_, rfl⟩
  obtain ⟨ps, hps⟩ : ∃ x, x = a.f1 := ⟨_, rfl⟩
  rw [← hnodes, ← hps]
  have hqn : nodes.length ≤ maxLen := by rw [hnodes]; exact hq.1.1
  have hqp : ps.length ≤ maxLen ∧ ∀ y1 ∈ ps, Q86 y1 := by rw [hps]; exact hq.2
  have hsz : EvP (fun k => laws_szNetwork.f k nodes ps 1048576) (fun t => 0 ≤ t → nodes.length ≤ 1048576 ∧ ps.length ≤ 1048576 ∧ ∀ x ∈ ps, x.f0.size ≤ 1048576) := by
    obtain ⟨t, e1, e2, e3⟩ := szInt64S_val nodes 1048576 (by omega) (by omega) hqn
    unfold laws_szNetwork.f
    rw [e1]
    simp only [Option.bind_some]
    by_cases ht : t < 0
    · simp only [if_pos ht]
      exact EvP.now (fun h => absurd h (by decide))
    · simp only [if_neg ht]
      refine EvP.bindP (szPipeS_ev ps t (by omega) e2 hqp) (fun u hu => ?_)
      by_cases hu0 : u < 0
      · simp only [if_pos hu0]
        exact EvP.now (fun h => absurd h (by decide))
      · simp only [if_neg hu0]
        exact EvP.now (fun h => ⟨e3 (by omega), hu.2 h⟩)
  refine EvP.bindP hsz (fun t ht => ?_)
  by_cases ht0 : t < 0
  · simp only [if_pos ht0]
    exact EvP.now rfl
  simp only [if_neg ht0]
  obtain ⟨b1, b2, b3⟩ := ht (by omega)
  have hti := toInt64S_ev nodes b1
  have htp := toPipeS_ev ps b2
  have htf := toInt64S_ev fl (by omega)
  obtain ⟨N, hN⟩ : ∃ N, N = nodes.map toInt64S_el := ⟨_, rfl⟩
  obtain ⟨L, hL⟩ : ∃ L, L = ps.map toPipeS_el := ⟨_, rfl⟩
  obtain ⟨F, hF⟩ : ∃ F, F = fl.map toInt64S_el := ⟨_, rfl⟩
  have cN : N.length ≤ 1048576 := by rw [hN, List.length_map]; exact b1
  have cL : L.length ≤ 1048576 := by rw [hL, List.length_map]; exact b2
  have cF : F.length ≤ 1048576 := by rw [hF, List.length_map]; omega
  have hsm : SmallN L := by
    intro x hx
    rw [hL] at hx
    obtain ⟨y, hy, rfl⟩ := List.mem_map.1 hx
    exact b3 y hy
  rw [← hN] at hti
  rw [← hL] at htp
  rw [← hF] at htf
  have htn : Ev (fun k => laws_toNetwork.f k nodes ps) (N, L) := by
    unfold laws_toNetwork.f
    exact Ev.bind hti (Ev.bind htp (Ev.now _))
  have hen : Ev (fun k => laws_eqNetwork.f k N L N L) true := by
    unfold laws_eqNetwork.f
    refine Ev.bind (eqInt64S_ev N cN) ?_
    simp only [if_true]
    refine Ev.bind (eqPipeS_ev L cL) ?_
    simp only [if_true]
    exact Ev.now _
  obtain ⟨y1, hy1, _⟩ := markInt64S_ev N 1 (by omega) (by omega)
  obtain ⟨y2, hy2, _⟩ := markPipeS_ev L (1 + (N.length : Int)) (by omega) (by omega)
  have hmn : Ev (fun k => laws_markNetwork.f k N L 1) (1 + (N.length : Int) + 6 * (L.length : Int), y1, y2) := by
    unfold laws_markNetwork.f
    refine Ev.bind hy1 ?_
    exact Ev.bind hy2 (Ev.now _)
  obtain ⟨y3, hy3, _⟩ := markInt64S_ev F (1 + (N.length : Int) + 6 * (L.length : Int)) (by omega) (by omega)
  obtain ⟨r, r1, r2, r3, r4⟩ := both_ev N L F cN cL cF hsm
  have her := eqStringS_ev r.1 (by omega)
  obtain ⟨y4, hy4, hy5, hy6⟩ := markStringS_ev r.1 1 (by omega) (by omega)
  refine EvP.bind htn (EvP.bind htf (EvP.bind r3 (EvP.bind htn (EvP.bind htf (EvP.bind r4 (EvP.bind her ?_))))))
  simp only [if_true]
  have hne : (r.2 != r.2) = false := by simp
  rw [hne]
  refine EvP.step (fun k => laws_FnExactNodeReport.j0.eq_2 _ _ _ _ _ _ _ _ _ _ _ k) ?_
  simp only [Bool.false_eq_true, if_false]
  refine EvP.bind htn (EvP.bind hen ?_)
  simp only [if_true]
  refine EvP.bind htf (EvP.bind (eqInt64S_ev F cF) ?_)
  simp only [if_true]
  refine EvP.bind hmn (EvP.bind hy3 ?_)
  simp only [if_neg (show ¬ (1 + (N.length : Int) + 6 * (L.length : Int) + (F.length : Int) < 0) by omega)]
  refine EvP.bind her ?_
  simp only [if_true]
  rw [hne]
  refine EvP.step (fun k => laws_FnExactNodeReport.j1.eq_2 _ _ _ _ _ _ _ k) ?_
  simp only [Bool.false_eq_true, if_false]
  refine EvP.bind hy4 (EvP.bind hy5 ?_)
  simp only [if_neg (show ¬ (1 + (r.1.length : Int) < 0) by omega), if_true]
  refine EvP.bind htn (EvP.bind htf (EvP.bind r4 (EvP.bind her ?_)))
  simp only [if_true]
  rw [hne]
  refine EvP.step (fun k => laws_FnExactNodeReport.j2.eq_2 _ _ _ k) ?_
  simp only [Bool.false_eq_true, if_false]
  refine EvP.bind hy5 ?_
  simp only [if_neg (show ¬ (1 + (r.1.length : Int) < 0) by omega), if_true]
  exact EvP.now rfl
end Go.Proofs.YtadaegehdcngdaaGreatDoor.PureFnExactNodeReport
end

section
namespace Go.Proofs.YtadaegehdcngdaaGreatDoor.LaidKit
open Go Go.RowKit
theorem returns_laid_shaped {H : Type} {enc : TypeId × Value → H} {a : Assume} {C : Checked} {os : Os} {f : FuncId} {fn : Func} {s : ChangeSpec} {conds : List PathCond} {apart fresh handsOn again : Bool} {X : World → Array Value → Prop}
    (hX : ∀ (w w' : World) (args : Array Value), w.heap = w'.heap → X w args → X w' args)
    (own : ownKnob C.prog.godebug = none) (started : os.Started) (noInit : C.prog.inits.idxOf? f = none) (hfn : C.prog.funcs[f]? = some fn)
    (witness : ∃ (w : World) (tape : Tape) (i : Input), w.os = os ∧ (w.forCall tape i).Shaped C.prog ∧ i.vars = [] ∧ Input.okWide C.prog (w.forCall tape i) .any w.heap.size f i ∧
      ((s.pre enc C.prog fn conds apart (w.forCall tape i).memory i.args ∧ X (w.forCall tape i).memory i.args) ∧ sizedMet enc C.prog fn (OpenSpec.ofChange s) apart (w.forCall tape i).memory i.args) ∧ a.holds C.prog (lone (Frame.enter C.prog f i.args .normal) [] (w.forCall tape i)))
    (contract : ∀ (W : World) (base : Nat) (args : Array Value) (ds gs : List (DataW H)) (before : List MemPlace),
      (∀ (j : Nat) t v, fn.params[j]? = some t → args[j]? = some v → Value.okWide C.prog W .any base t v) →
      DataW.Whole enc C.prog fn.params.toList s.vars apart W args.toList ds gs before →
      conds.all (PathCond.test C.prog ⟨fn.params.toList, ds, s.plain.varTypes C.prog, gs⟩) = true →
      (DataW.weightsEach C.prog (fn.params.toList ++ s.plain.varTypes C.prog) (ds ++ gs)).all (· ≤ reachBytes) = true → X W args →
      W.ShapedOpen C.prog →
      a.holds C.prog (lone (Frame.enter C.prog f args .normal) [] W) →
      Calls C.prog f args W fun e W' => ∃ v, e = .returned v ∧ s.post enc C.prog fn apart fresh handsOn again W args v W') :
    ReturnsInHanded a C os f .any (fun w args => (s.pre enc C.prog fn conds apart w args ∧ X w args) ∧ sizedMet enc C.prog fn (OpenSpec.ofChange s) apart w args) (s.post enc C.prog fn apart fresh handsOn again) := by
  refine returnsInHanded_of_calls own started noInit witness ?_
  intro w tape i _ hsh _ hok hpre hholds
  obtain ⟨_, _, _, fn', hfn', _, _, _, _, hval⟩ := hok
  have e : fn' = fn := Option.some.inj (hfn'.symm.trans hfn)
  subst e
  obtain ⟨⟨⟨ds, gs, before, hw, hc⟩, hx⟩, hz⟩ := hpre
  have hw' := DataW.Whole.of_heap (w' := w.forCall tape i) (by rfl) hw
  refine (contract (w.forCall tape i) w.heap.size i.args ds gs before hval hw' hc (hz.weights hw) (hX _ _ _ (by rfl) hx) hsh hholds).mono fun e W' ⟨v, he, hp⟩ => ?_
  subst he
  exact ChangeSpec.post_blind hp
theorem laidMet_from {P : Program} {l : List (String × DataW Unit)} {x : String × DataW Unit} {r : List (String × DataW Unit)} {w : World} (h : laidMet P (l ++ x :: r) w) : laidMet P (x :: r) w := by
  induction l with
  | nil => exact h
  | cons a l ih => exact ih h.tail
end Go.Proofs.YtadaegehdcngdaaGreatDoor.LaidKit
end
