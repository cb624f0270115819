/- The law FnExactMergeBlocks: part 8 of its texts, joined (wip/pack.py). -/
import Derived.Test.YtnabckhhnknlaaaKFnExactMergeBlocksa
import Derived.Test.YtnabckhhnknlaaaKFnExactMergeBlocksb
import Derived.Test.YtnabckhhnknlaaaKFnExactMergeBlocksc
import Derived.Test.YtnabckhhnknlaaaKFnExactMergeBlocksd
import Derived.Test.YtnabckhhnknlaaaKFnExactMergeBlockse
import Derived.Test.YtnabckhhnknlaaaKFnExactMergeBlocksf
import Derived.Test.YtnabckhhnknlaaaKFnExactMergeBlocksg
import Derived.Test.YtnabckhhnknlaaaKFnExactMergeBlocksh
import Derived.Lib.Strings
import Derived.Lib.IndexLaws
import Derived.Lib.IndexBytes
import Derived.Lib.IndexMore
import Derived.Test.YtnabckhhnknlaaaRows
import Derived.WalkKit
import Derived.ProofKit
import Derived.OpenShut
import Derived.ShutString
import Derived.ChangeOld
import Derived.Below
import Derived.SizedLaws
import Derived.HandedShaped

section
namespace Go.Proofs.Ytnabckhhnknlaaa.EvK
open Go.RowKit Go.Proofs.YtnabckhhnknlaaaW.PrintWords
set_option linter.unusedVariables false
theorem w64 {n : Int} (h : -9223372036854775808 ≤ n) (h' : n ≤ 9223372036854775807) : wrap64 n = n := by unfold wrap64; omega
theorem Ev.some {α : Type} {a r : α} (h : a = r) : Ev (fun _ => Option.some a) r := h ▸ Ev.now a
theorem Ev.bind_some {α β : Type} {g : Nat → Option α} {f : Nat → α → Option β} {a : α} {r : β} (h : Ev g a) (k : Ev (fun n => f n a) r) : Ev (fun n => (g n).bind (f n)) r := Ev.bind h k
theorem getD_at {α : Type} (l : List α) (d : α) (i : Nat) (h : i < l.length) : l.getD (i : Int).toNat d = l[i] := by
  simp [List.getD_eq_getElem?_getD, List.getElem?_eq_getElem h]
theorem map_done {α β : Type} (f : α → β) (l : List α) (z : β) (i : Nat) (h : i < l.length) :
    ((l.take i).map f ++ List.replicate (l.length - i) z).set i (f l[i]) = (l.take (i + 1)).map f ++ List.replicate (l.length - (i + 1)) z := by
  have e : l.length - i = (l.length - (i + 1)) + 1 := by omega
  rw [List.set_append_right _ _ (by simp; omega), e, List.replicate_succ]
  have e2 : i - ((l.take i).map f).length = 0 := by simp; omega
  rw [e2, List.set_cons_zero, List.take_succ_eq_append_getElem h, List.map_append]
  simp
theorem done_len {α β : Type} (f : α → β) (l : List α) (z : β) (i : Nat) (h : i ≤ l.length) : ((l.take i).map f ++ List.replicate (l.length - i) z).length = l.length := by simp; omega
def EvP {α : Type} (g : Nat → Option α) (P : α → Prop) : Prop := ∃ r, Ev g r ∧ P r
theorem EvP.now {α : Type} {r : α} {P : α → Prop} (h : P r) : EvP (fun _ => Option.some r) P := ⟨r, Ev.now r, h⟩
theorem EvP.of {α : Type} {g : Nat → Option α} {r : α} {P : α → Prop} (h : Ev g r) (hp : P r) : EvP g P := ⟨r, h, hp⟩
theorem EvP.mono {α : Type} {g : Nat → Option α} {P Q : α → Prop} (h : EvP g P) (hp : ∀ r, P r → Q r) : EvP g Q := by
  obtain ⟨r, h1, h2⟩ := h
  exact ⟨r, h1, hp _ h2⟩
theorem EvP.eq {α : Type} {g : Nat → Option α} {r : α} (h : EvP g (· = r)) : Ev g r := by
  obtain ⟨r', h, rfl⟩ := h
  exact h
theorem EvP.step {α : Type} {g f : Nat → Option α} {P : α → Prop} (h : ∀ k, g (k + 1) = f k) (k : EvP f P) : EvP g P := by
  obtain ⟨r, h1, h2⟩ := k
  exact ⟨r, Ev.step h h1, h2⟩
theorem EvP.bind {α β : Type} {g : Nat → Option α} {f : Nat → α → Option β} {a : α} {P : β → Prop} (h : Ev g a) (k : EvP (fun n => f n a) P) : EvP (fun n => (g n).bind (f n)) P := by
  obtain ⟨r, h1, h2⟩ := k
  exact ⟨r, Ev.bind h h1, h2⟩
theorem EvP.bindP {α β : Type} {g : Nat → Option α} {f : Nat → α → Option β} {Q : α → Prop} {P : β → Prop} (h : EvP g Q) (k : ∀ a, Q a → EvP (fun n => f n a) P) : EvP (fun n => (g n).bind (f n)) P := by
  obtain ⟨a, ha, hq⟩ := h
  exact EvP.bind ha (k a hq)
theorem EvP.rounds {α : Type} {g : Nat → Option α} {r : α} (h : EvP g (· = r)) : ∃ k, g k = Option.some r := Ev.rounds (EvP.eq h)
theorem for_evp {σ ρ : Type} {L : Nat → σ → Int → Option ρ} {Post : ρ → Prop} (n : Nat) (inv : Nat → σ → Prop)
    (step : ∀ (i : Nat) (s : σ), i < n → inv i s → (∀ s', inv (i + 1) s' → EvP (fun k => L k s' ((i : Int) + 1)) Post) → EvP (fun k => L k s i) Post)
    (fin : ∀ s, inv n s → EvP (fun k => L k s n) Post) (s : σ) (h0 : inv 0 s) : EvP (fun k => L k s 0) Post := by
  have key : ∀ (d i : Nat) (s : σ), i + d = n → inv i s → EvP (fun k => L k s i) Post := by
    intro d
    induction d with
    | zero =>
      intro i s hi hs
      obtain rfl : i = n := by omega
      exact fin s hs
    | succ d ih =>
      intro i s hi hs
      refine step i s (by omega) hs (fun s' hs' => ?_)
      simpa using ih (i + 1) s' (by omega) hs'
  simpa using key n 0 s (by omega) h0
theorem take_all {α : Type} {p : α → Prop} {l : List α} {i : Nat} (h : i < l.length) (hs : ∀ x ∈ l.take i, p x) (hx : p l[i]) : ∀ x ∈ l.take (i + 1), p x := by
  rw [List.take_succ_eq_append_getElem h]
  intro x hm
  rcases List.mem_append.1 hm with hm | hm
  · exact hs x hm
  · rw [List.mem_singleton.1 hm]
    exact hx
theorem set_done {α : Type} (E : Nat → α) (l : List α) (i : Nat) (h : i < l.length) : ((List.range i).map E ++ l.drop i).set i (E i) = (List.range (i + 1)).map E ++ l.drop (i + 1) := by
  rw [List.set_append_right _ _ (by simp), List.range_succ, List.map_append, List.append_assoc]
  congr 1
  rw [List.length_map, List.length_range, Nat.sub_self, List.drop_eq_getElem_cons h]
  rfl
theorem getD_set_self {α : Type} (l : List α) (i : Nat) (v d : α) (h : i < l.length) : (l.set i v).getD i d = v := by
  simp [List.getD_eq_getElem?_getD, h]
theorem all_ev {α : Type} {L : Nat → Int → Option Bool} (l : List α) (p : α → Bool) (b : Bool)
    (step : ∀ (i : Nat) (h : i < l.length), p l[i] = true → ∀ P, EvP (fun k => L k ((i : Int) + 1)) P → EvP (fun k => L k i) P)
    (stop : ∀ (i : Nat) (h : i < l.length), p l[i] = false → Ev (fun k => L k i) false)
    (fin : Ev (fun k => L k l.length) b) : Ev (fun k => L k 0) (l.all p && b) := by
  apply EvP.eq
  refine for_evp (L := fun k (_ : Unit) i => L k i) l.length (fun i _ => ∀ x ∈ l.take i, p x = true) ?_ ?_ () (by simp)
  · intro i _ hi hs K
    cases hp : p l[i] with
    | true => exact step i hi hp _ (K () (take_all hi hs hp))
    | false =>
      have e : l.all p = false := by
        rw [List.all_eq_false]
        exact ⟨l[i], List.getElem_mem hi, by simp [hp]⟩
      rw [e]
      exact EvP.of (stop i hi hp) rfl
  · intro _ hs
    have e : l.all p = true := by
      rw [List.all_eq_true]
      simpa using hs
    rw [e]
    exact EvP.of fin rfl
theorem bytes_at_ (s : ByteArray) (i : Nat) (h : i < s.data.toList.length) : bt s (i : Int) = ((s.data.toList[i]).toNat : Int) := by
  have h' : i < s.size := by simpa using h
  unfold bt
  rw [dif_pos (by simpa using h')]
  simp
  rfl
theorem size_len (s : ByteArray) : (s.size : Int) = (s.data.toList.length : Int) := by simp
theorem size_len' (s : ByteArray) : s.size = s.data.toList.length := by simp
end Go.Proofs.Ytnabckhhnknlaaa.EvK
end

section
namespace Go.Proofs.Ytnabckhhnknlaaa.PBasics
open Go.RowKit Go.Proofs.YtnabckhhnknlaaaW.PrintWords Go.Proofs.Ytnabckhhnknlaaa.XD Go.Proofs.Ytnabckhhnknlaaa.EvK
set_option linter.unusedVariables false
set_option linter.unusedSimpArgs false
def smallB (c : UInt8) : Bool := decide (97 ≤ (c.toNat : Int)) && decide ((c.toNat : Int) ≤ 122)
def digB (c : UInt8) : Bool := decide (48 ≤ (c.toNat : Int)) && decide ((c.toNat : Int) ≤ 57)
def nameB (c : UInt8) : Bool := smallB c || digB c
def nameOk (s : ByteArray) : Bool := match s.data.toList with
  | [] => false
  | c :: l => decide ((s.size : Int) ≤ 10) && smallB c && (c :: l).all nameB
theorem small_eq (c : UInt8) : spec_l01Small.f (c.toNat : Int) = some (smallB c) := by
  unfold spec_l01Small.f smallB
  by_cases h : (c.toNat : Int) ≥ 97
  · rw [if_pos h, decide_eq_true (show (97 : Int) ≤ c.toNat from h), Bool.true_and]
  · rw [if_neg h, decide_eq_false (show ¬ (97 : Int) ≤ c.toNat from h), Bool.false_and]
theorem dig_eq (c : UInt8) : spec_l01Digit.f (c.toNat : Int) = some (digB c) := by
  unfold spec_l01Digit.f digB
  by_cases h : (c.toNat : Int) ≥ 48
  · rw [if_pos h, decide_eq_true (show (48 : Int) ≤ c.toNat from h), Bool.true_and]
  · rw [if_neg h, decide_eq_false (show ¬ (48 : Int) ≤ c.toNat from h), Bool.false_and]
theorem onlyName_ev (s : ByteArray) (h : s.size ≤ 1048576) : Ev (fun k => impl_onlyNameBytes.f k s) (s.data.toList.all nameB) := by
  unfold impl_onlyNameBytes.f
  rw [size_len'] at h
  have := all_ev (L := fun k i => impl_onlyNameBytes.l0 k s (s.size : Int) i) s.data.toList nameB true ?_ ?_ ?_
  · simpa using this
  · intro i hi hp P K
    refine EvP.step (fun k => impl_onlyNameBytes.l0.eq_2 _ _ _ k) ?_
    simp only [size_len] at K
    simp only [size_len, if_pos (show (i : Int) < (s.data.toList.length : Int) by omega), if_pos (show (0 : Int) ≤ (i : Int) by omega), bytes_at_ s i hi, w64 (show -9223372036854775808 ≤ (i : Int) + 1 by omega) (by omega)]
    simp only [nameB, smallB, digB, Bool.or_eq_true, Bool.and_eq_true, decide_eq_true_eq] at hp
    by_cases h1 : ((s.data.toList[i]).toNat : Int) < 97
    · simp only [if_pos h1, if_neg (show ¬ ((s.data.toList[i]).toNat : Int) < 48 by omega), if_neg (show ¬ ((s.data.toList[i]).toNat : Int) > 57 by omega)]
      exact K
    · simp only [if_neg h1, if_neg (show ¬ ((s.data.toList[i]).toNat : Int) > 122 by omega)]
      exact K
  · intro i hi hp
    refine Ev.step (fun k => impl_onlyNameBytes.l0.eq_2 _ _ _ k) ?_
    simp only [size_len, if_pos (show (i : Int) < (s.data.toList.length : Int) by omega), if_pos (show (0 : Int) ≤ (i : Int) by omega), bytes_at_ s i hi, w64 (show -9223372036854775808 ≤ (i : Int) + 1 by omega) (by omega)]
    simp only [nameB, smallB, digB, Bool.or_eq_false_iff, Bool.and_eq_false_iff, decide_eq_false_iff_not] at hp
    by_cases h1 : ((s.data.toList[i]).toNat : Int) < 97
    · by_cases h2 : ((s.data.toList[i]).toNat : Int) < 48
      · simp only [if_pos h1, if_pos h2]; exact Ev.now _
      · simp only [if_pos h1, if_neg h2, if_pos (show ((s.data.toList[i]).toNat : Int) > 57 by omega)]; exact Ev.now _
    · simp only [if_neg h1, if_pos (show ((s.data.toList[i]).toNat : Int) > 122 by omega), if_neg (show ¬ ((s.data.toList[i]).toNat : Int) < 48 by omega), if_pos (show ((s.data.toList[i]).toNat : Int) > 57 by omega)]
      exact Ev.now _
  · refine Ev.step (fun k => impl_onlyNameBytes.l0.eq_2 _ _ _ k) ?_
    simp only [size_len, if_neg (show ¬ (s.data.toList.length : Int) < (s.data.toList.length : Int) by omega)]
    exact Ev.now _
theorem head_at (s : ByteArray) (c : UInt8) (l : List UInt8) (hl : s.data.toList = c :: l) : bt s 0 = (c.toNat : Int) := by
  have h : 0 < s.data.toList.length := by rw [hl]; simp
  have := bytes_at_ s 0 h
  rw [show ((0 : Nat) : Int) = 0 from rfl] at this
  rw [this]
  simp only [hl, List.getElem_cons_zero]
theorem isName_ev (s : ByteArray) (h : s.size ≤ 1048576) : Ev (fun k => impl_IsName.f k s) (nameOk s) := by
  unfold impl_IsName.f nameOk
  cases hl : s.data.toList with
  | nil =>
    have hz : s.size = 0 := by rw [size_len', hl]; rfl
    simp only [hz, Int.natCast_zero, if_pos (show (0 : Int) < 1 by omega)]
    exact Ev.now _
  | cons c l =>
    have hz : s.size = l.length + 1 := by rw [size_len', hl]; rfl
    have ho := onlyName_ev s h
    rw [hl] at ho
    simp only [if_neg (show ¬ (s.size : Int) < 1 by omega), if_pos (show (0 : Int) < (s.size : Int) by omega), head_at s c l hl]
    by_cases h1 : (s.size : Int) > 10
    · simp only [if_pos h1, decide_eq_false (show ¬ (s.size : Int) ≤ 10 by omega), Bool.false_and]
      exact Ev.now _
    · simp only [if_neg h1, decide_eq_true (show (s.size : Int) ≤ 10 by omega), Bool.true_and]
      by_cases h2 : (c.toNat : Int) < 97
      · simp only [if_pos h2, smallB, decide_eq_false (show ¬ (97 : Int) ≤ c.toNat by omega), Bool.false_and]
        exact Ev.now _
      · by_cases h3 : (c.toNat : Int) > 122
        · simp only [if_neg h2, if_pos h3, smallB, decide_eq_false (show ¬ (c.toNat : Int) ≤ 122 by omega), Bool.false_and, Bool.and_false]
          exact Ev.now _
        · simp only [if_neg h2, if_neg h3, smallB, decide_eq_true (show (97 : Int) ≤ c.toNat by omega), decide_eq_true (show (c.toNat : Int) ≤ 122 by omega), Bool.true_and]
          exact Ev.bind ho (Ev.now _)
theorem toList_eq (s : ByteArray) : s.toList = s.data.toList := by
  have := Lib.toList_data s
  first | exact this | exact this.symm
theorem specName_ev (s : ByteArray) (h : s.size ≤ 1048576) : Ev (fun k => spec_l01Name.f k s) (nameOk s) := by
  unfold spec_l01Name.f nameOk
  have hj : Ev (fun k => spec_l01Name.j0 k s true) false := by
    refine Ev.step (fun k => spec_l01Name.j0.eq_2 _ _ k) ?_
    simp only [if_true]
    exact Ev.now _
  cases hl : s.data.toList with
  | nil =>
    simp only [toList_eq, hl, if_true]
    exact hj
  | cons c l =>
    have hz : s.size = l.length + 1 := by rw [size_len', hl]; rfl
    simp only [toList_eq, hl, reduceCtorEq, if_false, if_pos (show (0 : Int) < (s.size : Int) by omega), head_at s c l hl, small_eq, Option.bind_some]
    by_cases h1 : (s.size : Int) > 10
    · simp only [if_pos h1, decide_eq_false (show ¬ (s.size : Int) ≤ 10 by omega), Bool.false_and]
      exact hj
    simp only [if_neg h1, decide_eq_true (show (s.size : Int) ≤ 10 by omega), Bool.true_and]
    cases hs : smallB c with
    | false =>
      simp only [Bool.not_false, Bool.false_and]
      exact hj
    | true =>
      simp only [Bool.not_true, Bool.true_and]
      refine Ev.step (fun k => spec_l01Name.j0.eq_2 _ _ k) ?_
      simp only [Bool.false_eq_true, if_false]
      rw [← hl]
      rw [size_len'] at h
      have := all_ev (L := fun k i => spec_l01Name.l0 k s i) s.data.toList nameB true ?_ ?_ ?_
      · simpa using this
      · intro i hi hp P K
        refine EvP.step (fun k => spec_l01Name.l0.eq_2 _ _ k) ?_
        simp only [size_len, if_pos (show (i : Int) < (s.data.toList.length : Int) by omega), if_pos (show (0 : Int) ≤ (i : Int) by omega), bytes_at_ s i hi, w64 (show -9223372036854775808 ≤ (i : Int) + 1 by omega) (by omega), small_eq, dig_eq, Option.bind_some]
        cases h2 : smallB s.data.toList[i] with
        | true => simp only [if_true]; exact K
        | false =>
          simp only [nameB, h2, Bool.false_or] at hp
          simp only [hp, Bool.false_eq_true, if_false, if_true]
          exact K
      · intro i hi hp
        refine Ev.step (fun k => spec_l01Name.l0.eq_2 _ _ k) ?_
        simp only [nameB, Bool.or_eq_false_iff] at hp
        simp only [size_len, if_pos (show (i : Int) < (s.data.toList.length : Int) by omega), if_pos (show (0 : Int) ≤ (i : Int) by omega), bytes_at_ s i hi, w64 (show -9223372036854775808 ≤ (i : Int) + 1 by omega) (by omega), small_eq, dig_eq, Option.bind_some, hp.1, hp.2, Bool.false_eq_true, if_false]
        exact Ev.now _
      · refine Ev.step (fun k => spec_l01Name.l0.eq_2 _ _ k) ?_
        simp only [size_len, if_neg (show ¬ (s.data.toList.length : Int) < (s.data.toList.length : Int) by omega)]
        exact Ev.now _
end Go.Proofs.Ytnabckhhnknlaaa.PBasics
end

section
namespace Go.Proofs.Ytnabckhhnknlaaa.EvK
open Go.RowKit Go.Proofs.YtnabckhhnknlaaaW.PrintWords
set_option linter.unusedVariables false
theorem all_to {α ρ : Type} {L : Nat → Int → Option ρ} (l : List α) (p : α → Bool) (yes no : ρ)
    (step : ∀ (i : Nat) (h : i < l.length), p l[i] = true → ∀ P, EvP (fun k => L k ((i : Int) + 1)) P → EvP (fun k => L k i) P)
    (stop : ∀ (i : Nat) (h : i < l.length), p l[i] = false → Ev (fun k => L k i) no)
    (fin : l.all p = true → Ev (fun k => L k l.length) yes) : Ev (fun k => L k 0) (if l.all p = true then yes else no) := by
  apply EvP.eq
  refine for_evp (L := fun k (_ : Unit) i => L k i) l.length (fun i _ => ∀ x ∈ l.take i, p x = true) ?_ ?_ () (by simp)
  · intro i _ hi hs K
    cases hp : p l[i] with
    | true => exact step i hi hp _ (K () (take_all hi hs hp))
    | false =>
      have e : l.all p = false := by
        rw [List.all_eq_false]
        exact ⟨l[i], List.getElem_mem hi, by simp [hp]⟩
      rw [e]
      exact EvP.of (stop i hi hp) rfl
  · intro _ hs
    have e : l.all p = true := by
      rw [List.all_eq_true]
      simpa using hs
    rw [e]
    exact EvP.of (fin e) rfl
theorem all_n {ρ : Type} {L : Nat → Int → Option ρ} (n : Nat) (p : Nat → Bool) (yes no : ρ)
    (step : ∀ (i : Nat), i < n → p i = true → ∀ P, EvP (fun k => L k ((i : Int) + 1)) P → EvP (fun k => L k i) P)
    (stop : ∀ (i : Nat), i < n → p i = false → Ev (fun k => L k i) no)
    (fin : Ev (fun k => L k n) yes) : Ev (fun k => L k 0) (if (List.range n).all p = true then yes else no) := by
  have := all_to (L := L) (List.range n) p yes no ?_ ?_ ?_
  · exact this
  · intro i hi hp P K
    simp only [List.length_range, List.getElem_range] at hi hp
    exact step i hi hp P K
  · intro i hi hp
    simp only [List.length_range, List.getElem_range] at hi hp
    exact stop i hi hp
  · intro _
    simpa using fin
theorem contains_byte (l : List UInt8) (c : UInt8) : Lib.contains l [c] = !(l.all (fun x => !(x == c))) := by
  unfold Lib.contains
  rw [Lib.index_one]
  by_cases h : 0 ≤ Lib.indexByte l c
  · obtain ⟨h1, _⟩ := Lib.indexByte_some (l := l) (c := c) (o := (Lib.indexByte l c).toNat) (by omega)
    have e : l.all (fun x => !(x == c)) = false := by
      rw [List.all_eq_false]
      exact ⟨c, List.mem_of_getElem? h1, by simp⟩
    rw [decide_eq_true h, e]; rfl
  · have hm : Lib.indexByte l c = -1 := by have := Lib.indexByte_ge l c; omega
    have hn := Lib.indexByte_none hm
    have e : l.all (fun x => !(x == c)) = true := by
      rw [List.all_eq_true]
      intro x hx
      obtain ⟨k, hk⟩ := List.getElem?_of_mem hx
      have := hn k
      rw [hk] at this
      simpa using this
    rw [decide_eq_false h, e]; rfl
end Go.Proofs.Ytnabckhhnknlaaa.EvK
end

section
namespace Go.Proofs.Ytnabckhhnknlaaa.PBlocks
open Go.RowKit Go.Proofs.YtnabckhhnknlaaaW.PrintWords Go.Proofs.Ytnabckhhnknlaaa.XD Go.Proofs.Ytnabckhhnknlaaa.EvK Go.Proofs.Ytnabckhhnknlaaa.PBasics
set_option linter.unusedVariables false
set_option linter.unusedSimpArgs false
def noNl (t : ByteArray) : Bool := t.data.toList.all (fun x => !(x == 10))
def blockOk (a b t : ByteArray) : Bool := nameOk a && (nameOk b && (decide ((t.size : Int) ≤ 400) && noNl t))
theorem validBlock_ev (a b t : ByteArray) (ha : a.size ≤ 1048576) (hb : b.size ≤ 1048576) (ht : t.size ≤ 1048576) : Ev (fun k => impl_ValidBlock.f k a b t) (blockOk a b t) := by
  unfold impl_ValidBlock.f blockOk strings_Contains.f
  rw [if_pos (show t.size < 4294967281 by omega)]
  refine Ev.bind (isName_ev a ha) ?_
  cases nameOk a with
  | false => exact Ev.now _
  | true =>
    simp only [if_true, Bool.true_and]
    refine Ev.bind (isName_ev b hb) ?_
    cases nameOk b with
    | false => exact Ev.now _
    | true =>
      simp only [if_true, Bool.true_and]
      by_cases h : (t.size : Int) ≤ 400
      · simp only [if_pos h, Option.bind_some, decide_eq_true h, Bool.true_and, contains_byte t.data.toList 10, Bool.not_not]
        exact Ev.now _
      · simp only [if_neg h, decide_eq_false h, Bool.false_and]
        exact Ev.now _
theorem oneBlock_ev (a b t : ByteArray) (ha : a.size ≤ 1048576) (hb : b.size ≤ 1048576) (ht : t.size ≤ 1048576) : Ev (fun k => spec_l29One.f k a b t) (blockOk a b t) := by
  unfold spec_l29One.f
  rw [size_len'] at ht
  have e : blockOk a b t = if (t.data.toList.all fun x => !(x == 10)) = true then (nameOk a && (nameOk b && decide ((t.size : Int) ≤ 400))) else false := by
    unfold blockOk noNl
    cases (t.data.toList.all fun x => !(x == 10)) <;> simp
  rw [e]
  refine all_to (L := fun k i => spec_l29One.l0 k i a b t) t.data.toList _ _ _ ?_ ?_ ?_
  · intro i hi hp P K
    refine EvP.step (fun k => spec_l29One.l0.eq_2 _ _ _ _ k) ?_
    have hn : ¬ ((t.data.toList[i].toNat : Int) = 10) := by
      intro h
      have : t.data.toList[i] = 10 := UInt8.toNat_inj.1 (by rw [show ((10 : UInt8).toNat) = 10 from rfl]; omega)
      rw [this] at hp
      exact absurd hp (by decide)
    simp only [size_len, if_pos (show (i : Int) < (t.data.toList.length : Int) by omega), if_pos (show (0 : Int) ≤ (i : Int) by omega), bytes_at_ t i hi, if_neg hn, w64 (show -9223372036854775808 ≤ (i : Int) + 1 by omega) (by omega)]
    simpa only [size_len] using K
  · intro i hi hp
    refine Ev.step (fun k => spec_l29One.l0.eq_2 _ _ _ _ k) ?_
    have hn : ((t.data.toList[i].toNat : Int) = 10) := by
      have : t.data.toList[i] = 10 := by simpa using hp
      rw [this]; rfl
    simp only [size_len, if_pos (show (i : Int) < (t.data.toList.length : Int) by omega), if_pos (show (0 : Int) ≤ (i : Int) by omega), bytes_at_ t i hi, if_pos hn]
    exact Ev.now _
  · intro _
    refine Ev.step (fun k => spec_l29One.l0.eq_2 _ _ _ _ k) ?_
    simp only [size_len, if_neg (show ¬ (t.data.toList.length : Int) < (t.data.toList.length : Int) by omega)]
    refine Ev.bind (specName_ev a ha) ?_
    cases nameOk a with
    | false => exact Ev.now _
    | true =>
      simp only [if_true, Bool.true_and]
      refine Ev.bind (specName_ev b hb) ?_
      cases nameOk b with
      | false => exact Ev.now _
      | true =>
        simp only [if_true, Bool.true_and]
        exact Ev.now _
end Go.Proofs.Ytnabckhhnknlaaa.PBlocks
end

section
namespace Go.Proofs.Ytnabckhhnknlaaa.PBlockL
open Go.RowKit Go.Proofs.YtnabckhhnknlaaaW.PrintWords Go.Proofs.Ytnabckhhnknlaaa.XD Go.Proofs.Ytnabckhhnknlaaa.EvK Go.Proofs.Ytnabckhhnknlaaa.PBasics Go.Proofs.Ytnabckhhnknlaaa.PBlocks
set_option linter.unusedVariables false
set_option linter.unusedSimpArgs false
def lessS (a b : ByteArray) : Bool := Op.bytesLess a.data.toList b.data.toList
def before (a b : S45) : Bool := lessS a.f0 b.f0 || (decide (a.f0.data.toList = b.f0.data.toList) && lessS a.f1 b.f1)
def cmpS (a b : ByteArray) : Int := if lessS a b = true then -1 else if lessS b a = true then 1 else 0
def cmpB (a b : S45) : Int := if cmpS a.f0 b.f0 = 0 then cmpS a.f1 b.f1 else cmpS a.f0 b.f0
theorem less_ge' (a b : ByteArray) : (lessS a b || decide (a.data.toList = b.data.toList)) = !(lessS b a) := by
  have h := less_ge a.data.toList b.data.toList
  unfold lessS
  rw [← h]
  congr 1
  rw [Bool.eq_iff_iff]
  simp
theorem less_ge2 (a b : ByteArray) : (lessS b a || decide (a.data.toList = b.data.toList)) = !(lessS a b) := by
  rw [← less_ge' b a]
  congr 1
  rw [Bool.eq_iff_iff, decide_eq_true_eq, decide_eq_true_eq]
  exact eq_comm
theorem cmpB_ge (a b : S45) : 0 ≤ cmpB a b ↔ before a b = false := by
  have h := less_ge' a.f0 b.f0
  unfold cmpB before cmpS
  cases h1 : lessS a.f0 b.f0 <;> cases h2 : lessS b.f0 a.f0 <;> cases h3 : lessS a.f1 b.f1 <;> cases h4 : lessS b.f1 a.f1 <;> simp_all
theorem cmpB_zero (a b : S45) : cmpB a b = 0 ↔ a.f0.data.toList = b.f0.data.toList ∧ a.f1.data.toList = b.f1.data.toList := by
  have h := less_ge' a.f0 b.f0
  have g := less_ge' a.f1 b.f1
  have h' := less_ge2 a.f0 b.f0
  have g' := less_ge2 a.f1 b.f1
  unfold cmpB cmpS
  cases h1 : lessS a.f0 b.f0 <;> cases h2 : lessS b.f0 a.f0 <;> cases h3 : lessS a.f1 b.f1 <;> cases h4 : lessS b.f1 a.f1 <;> simp_all
theorem compare_eq (a b : ByteArray) : cmp_Compare_string.f a b = some (cmpS a b) := by
  unfold cmp_Compare_string.f cmp_isNaN_string.f cmpS lessS
  simp only [bne_self_eq_false, Option.bind_some, Bool.false_eq_true, if_false, toList_eq]
  by_cases h1 : Op.bytesLess a.data.toList b.data.toList = true
  · simp only [if_pos h1]
  · simp only [if_neg h1]
    by_cases h2 : Op.bytesLess b.data.toList a.data.toList = true
    · simp only [if_pos h2]
    · simp only [if_neg h2]
theorem or_ev (a b : Int) : Ev (fun k => cmp_Or_int.f k [a, b]) (if a = 0 then b else a) := by
  unfold cmp_Or_int.f
  have w1 : wrap64 (0 + 1) = 1 := by rw [w64 (by omega) (by omega)]; rfl
  have w2 : wrap64 (1 + 1) = 2 := by rw [w64 (by omega) (by omega)]; rfl
  have r0 : rd [a, b] 0 = a := rfl
  have r1 : rd [a, b] 1 = b := rfl
  have hl : (([a, b] : List Int).length : Int) = 2 := rfl
  refine Ev.step (fun k => cmp_Or_int.l0.eq_2 _ _ _ _ k) ?_
  simp only [hl, w1, r0, if_pos (show (0 : Int) < 2 by omega), if_pos (show (0 : Int) ≤ 0 by omega)]
  by_cases ha : a = 0
  · simp only [if_pos ha]
    refine Ev.step (fun k => cmp_Or_int.l0.eq_2 _ _ _ _ k) ?_
    simp only [hl, w2, r1, if_pos (show (1 : Int) < 2 by omega), if_pos (show (0 : Int) ≤ 1 by omega)]
    by_cases hb : b = 0
    · simp only [if_pos hb]
      refine Ev.step (fun k => cmp_Or_int.l0.eq_2 _ _ _ _ k) ?_
      simp only [hl, if_neg (show ¬ (2 : Int) < 2 by omega), hb]
      exact Ev.now _
    · simp only [if_neg hb]; exact Ev.now _
  · simp only [if_neg ha]; exact Ev.now _
theorem compareB_ev (a b : S45) : Ev (fun k => impl_compareBlocks.f k a.f0 a.f1 a.f2 b.f0 b.f1 b.f2) (cmpB a b) := by
  unfold impl_compareBlocks.f
  simp only [compare_eq, Option.bind_some]
  exact Ev.bind (or_ev _ _) (Ev.now _)
theorem before_eq (a b : S45) : spec_l29Before.f a.f0 a.f1 a.f2 b.f0 b.f1 b.f2 = some (before a b) := by
  unfold spec_l29Before.f before
  simp only [toList_eq]
  show (if lessS a.f0 b.f0 = true then some true else if a.f0.data.toList = b.f0.data.toList then some (lessS a.f1 b.f1) else some false) = _
  cases lessS a.f0 b.f0
  · by_cases h : a.f0.data.toList = b.f0.data.toList <;> simp [h]
  · simp
def okAt (l : List S45) (i : Nat) : Bool := let b := l.getD i z45; blockOk b.f0 b.f1 b.f2 && (decide (i = 0) || before (l.getD (i - 1) z45) b)
def listOk (l : List S45) : Bool := (List.range l.length).all (okAt l) && decide ((l.length : Int) ≤ 32)
def Small (l : List S45) : Prop := l.length ≤ 1048576 ∧ ∀ x ∈ l, x.f0.size ≤ 1048576 ∧ x.f1.size ≤ 1048576 ∧ x.f2.size ≤ 1048576
theorem rd_nat (l : List S45) (i : Nat) : rd_T45 l (i : Int) = l.getD i z45 := rfl
theorem getD_mem {l : List S45} {i : Nat} (h : i < l.length) : l.getD i z45 ∈ l := by
  rw [List.getD_eq_getElem?_getD, List.getElem?_eq_getElem h]
  exact List.getElem_mem h
theorem specOk_ev (l : List S45) (hs : Small l) : Ev (fun k => spec_l29Ok.f k l) (listOk l) := by
  have hl := hs.1
  unfold spec_l29Ok.f listOk
  have e : ((List.range l.length).all (okAt l) && decide ((l.length : Int) ≤ 32)) = if (List.range l.length).all (okAt l) = true then decide ((l.length : Int) ≤ 32) else false := by
    cases (List.range l.length).all (okAt l) <;> simp
  rw [e]
  refine all_n (L := fun k i => spec_l29Ok.l0 k l i) l.length (okAt l) _ _ ?_ ?_ ?_
  · intro i hi hp P K
    obtain ⟨z0, z1, z2⟩ := hs.2 _ (getD_mem hi)
    refine EvP.step (fun k => spec_l29Ok.l0.eq_2 _ _ k) ?_
    simp only [if_pos (show (i : Int) < (l.length : Int) by omega), if_pos (show (0 : Int) ≤ (i : Int) by omega), rd_nat, w64 (show -9223372036854775808 ≤ (i : Int) + 1 by omega) (by omega), w64 (show -9223372036854775808 ≤ (i : Int) - 1 by omega) (by omega)]
    simp only [okAt, Bool.and_eq_true, Bool.or_eq_true, decide_eq_true_eq] at hp
    refine EvP.bind (oneBlock_ev _ _ _ z0 z1 z2) ?_
    simp only [hp.1, if_true]
    by_cases h0 : i = 0
    · simp only [if_neg (show ¬ (i : Int) > 0 by omega)]
      exact K
    · have hb : before (l.getD (i - 1) z45) (l.getD i z45) = true := by rcases hp.2 with h | h; exact absurd h h0; exact h
      have ei : ((i : Int) - 1) = ((i - 1 : Nat) : Int) := by omega
      simp only [if_pos (show (i : Int) > 0 by omega), ei, rd_nat, if_pos (show (0 : Int) ≤ ((i - 1 : Nat) : Int) by omega), if_pos (show ((i - 1 : Nat) : Int) < (l.length : Int) by omega), before_eq, hb, Option.bind_some, if_true]
      exact K
  · intro i hi hp
    obtain ⟨z0, z1, z2⟩ := hs.2 _ (getD_mem hi)
    refine Ev.step (fun k => spec_l29Ok.l0.eq_2 _ _ k) ?_
    simp only [if_pos (show (i : Int) < (l.length : Int) by omega), if_pos (show (0 : Int) ≤ (i : Int) by omega), rd_nat, w64 (show -9223372036854775808 ≤ (i : Int) + 1 by omega) (by omega), w64 (show -9223372036854775808 ≤ (i : Int) - 1 by omega) (by omega)]
    refine Ev.bind (oneBlock_ev _ _ _ z0 z1 z2) ?_
    simp only [okAt, Bool.and_eq_false_iff, Bool.or_eq_false_iff, decide_eq_false_iff_not] at hp
    cases hk : blockOk (l.getD i z45).f0 (l.getD i z45).f1 (l.getD i z45).f2 with
    | false => simp only [Bool.false_eq_true, if_false]; exact Ev.now _
    | true =>
      obtain ⟨h0, hb⟩ : i ≠ 0 ∧ before (l.getD (i - 1) z45) (l.getD i z45) = false := by rcases hp with h | h; rw [hk] at h; exact absurd h (by decide); exact h
      have ei : ((i : Int) - 1) = ((i - 1 : Nat) : Int) := by omega
      simp only [if_pos (show (i : Int) > 0 by omega), ei, rd_nat, if_pos (show (0 : Int) ≤ ((i - 1 : Nat) : Int) by omega), if_pos (show ((i - 1 : Nat) : Int) < (l.length : Int) by omega), before_eq, hb, Option.bind_some, if_true, Bool.false_eq_true, if_false]
      exact Ev.now _
  · refine Ev.step (fun k => spec_l29Ok.l0.eq_2 _ _ k) ?_
    simp only [if_neg (show ¬ (l.length : Int) < (l.length : Int) by omega)]
    exact Ev.now _
theorem implOk_ev (l : List S45) (hs : Small l) : Ev (fun k => impl_ValidBlocks.f k l) (listOk l) := by
  have hl := hs.1
  unfold impl_ValidBlocks.f listOk
  by_cases h32 : (l.length : Int) > 32
  · simp only [if_pos h32, decide_eq_false (show ¬ (l.length : Int) ≤ 32 by omega), Bool.and_false]
    exact Ev.now _
  simp only [if_neg h32, decide_eq_true (show (l.length : Int) ≤ 32 by omega), Bool.and_true]
  have e : (List.range l.length).all (okAt l) = if (List.range l.length).all (okAt l) = true then true else false := by
    cases (List.range l.length).all (okAt l) <;> simp
  rw [e]
  refine all_n (L := fun k i => impl_ValidBlocks.l0 k l l (l.length : Int) i) l.length (okAt l) _ _ ?_ ?_ ?_
  · intro i hi hp P K
    obtain ⟨z0, z1, z2⟩ := hs.2 _ (getD_mem hi)
    refine EvP.step (fun k => impl_ValidBlocks.l0.eq_2 _ _ _ _ k) ?_
    simp only [if_pos (show (i : Int) < (l.length : Int) by omega), if_pos (show (0 : Int) ≤ (i : Int) by omega), rd_nat, w64 (show -9223372036854775808 ≤ (i : Int) + 1 by omega) (by omega), w64 (show -9223372036854775808 ≤ (i : Int) - 1 by omega) (by omega)]
    simp only [okAt, Bool.and_eq_true, Bool.or_eq_true, decide_eq_true_eq] at hp
    refine EvP.bind (validBlock_ev _ _ _ z0 z1 z2) ?_
    simp only [hp.1, if_true]
    by_cases h0 : i = 0
    · simp only [if_neg (show ¬ (i : Int) > 0 by omega)]
      exact K
    · have hb : before (l.getD (i - 1) z45) (l.getD i z45) = true := by rcases hp.2 with h | h; exact absurd h h0; exact h
      have ei : ((i : Int) - 1) = ((i - 1 : Nat) : Int) := by omega
      simp only [if_pos (show (i : Int) > 0 by omega), ei, rd_nat, if_pos (show (0 : Int) ≤ ((i - 1 : Nat) : Int) by omega), if_pos (show ((i - 1 : Nat) : Int) < (l.length : Int) by omega)]
      refine EvP.bind (compareB_ev _ _) ?_
      have hc := cmpB_ge (l.getD (i - 1) z45) (l.getD i z45)
      rw [hb] at hc
      simp only [if_neg (show ¬ (cmpB (l.getD (i - 1) z45) (l.getD i z45) ≥ 0) from fun h => absurd (hc.1 h) (by decide))]
      exact K
  · intro i hi hp
    obtain ⟨z0, z1, z2⟩ := hs.2 _ (getD_mem hi)
    refine Ev.step (fun k => impl_ValidBlocks.l0.eq_2 _ _ _ _ k) ?_
    simp only [if_pos (show (i : Int) < (l.length : Int) by omega), if_pos (show (0 : Int) ≤ (i : Int) by omega), rd_nat, w64 (show -9223372036854775808 ≤ (i : Int) + 1 by omega) (by omega), w64 (show -9223372036854775808 ≤ (i : Int) - 1 by omega) (by omega)]
    refine Ev.bind (validBlock_ev _ _ _ z0 z1 z2) ?_
    simp only [okAt, Bool.and_eq_false_iff, Bool.or_eq_false_iff, decide_eq_false_iff_not] at hp
    cases hk : blockOk (l.getD i z45).f0 (l.getD i z45).f1 (l.getD i z45).f2 with
    | false => simp only [Bool.false_eq_true, if_false]; exact Ev.now _
    | true =>
      obtain ⟨h0, hb⟩ : i ≠ 0 ∧ before (l.getD (i - 1) z45) (l.getD i z45) = false := by rcases hp with h | h; rw [hk] at h; exact absurd h (by decide); exact h
      have ei : ((i : Int) - 1) = ((i - 1 : Nat) : Int) := by omega
      simp only [if_true, if_pos (show (i : Int) > 0 by omega), ei, rd_nat, if_pos (show (0 : Int) ≤ ((i - 1 : Nat) : Int) by omega), if_pos (show ((i - 1 : Nat) : Int) < (l.length : Int) by omega)]
      refine Ev.bind (compareB_ev _ _) ?_
      have hc := cmpB_ge (l.getD (i - 1) z45) (l.getD i z45)
      simp only [if_pos (show cmpB (l.getD (i - 1) z45) (l.getD i z45) ≥ 0 from hc.2 hb)]
      exact Ev.now _
  · refine Ev.step (fun k => impl_ValidBlocks.l0.eq_2 _ _ _ _ k) ?_
    simp only [if_neg (show ¬ (l.length : Int) < (l.length : Int) by omega)]
    exact Ev.now _
end Go.Proofs.Ytnabckhhnknlaaa.PBlockL
end

section
namespace Go.Proofs.Ytnabckhhnknlaaa.PSearch
open Go.RowKit Go.Proofs.YtnabckhhnknlaaaW.PrintWords Go.Proofs.Ytnabckhhnknlaaa.XD Go.Proofs.Ytnabckhhnknlaaa.EvK Go.Proofs.Ytnabckhhnknlaaa.PBasics Go.Proofs.Ytnabckhhnknlaaa.PBlocks Go.Proofs.Ytnabckhhnknlaaa.PBlockL
set_option linter.unusedVariables false
set_option linter.unusedSimpArgs false
theorem less_trans : ∀ (x y z : List UInt8), Op.bytesLess x y = true → Op.bytesLess y z = true → Op.bytesLess x z = true
  | _, y, [], _, h => by cases y <;> simp [Op.bytesLess] at h
  | _, [], _ :: _, h, _ => by simp [Op.bytesLess] at h
  | [], b :: y, c :: z, _, _ => rfl
  | a :: x, b :: y, c :: z, h1, h2 => by
    simp only [Op.bytesLess, Bool.or_eq_true, Bool.and_eq_true, decide_eq_true_eq, beq_iff_eq] at h1 h2 ⊢
    rcases h1 with h1 | ⟨rfl, h1⟩ <;> rcases h2 with h2 | ⟨rfl, h2⟩
    · exact Or.inl (UInt8.lt_trans h1 h2)
    · exact Or.inl h1
    · exact Or.inl h2
    · exact Or.inr ⟨rfl, less_trans x y z h1 h2⟩
theorem before_trans {a b c : S45} (h1 : before a b = true) (h2 : before b c = true) : before a c = true := by
  simp only [before, lessS, Bool.or_eq_true, Bool.and_eq_true, decide_eq_true_eq] at h1 h2 ⊢
  rcases h1 with h1 | ⟨e1, h1⟩ <;> rcases h2 with h2 | ⟨e2, h2⟩
  · exact Or.inl (less_trans _ _ _ h1 h2)
  · rw [← e2]; exact Or.inl h1
  · rw [e1]; exact Or.inl h2
  · exact Or.inr ⟨e1.trans e2, less_trans _ _ _ h1 h2⟩
def Sorted (l : List S45) : Prop := ∀ q p, q < p → p < l.length → before (l.getD q z45) (l.getD p z45) = true
theorem sorted_of {l : List S45} (h : listOk l = true) : Sorted l := by
  unfold listOk at h
  rw [Bool.and_eq_true, List.all_eq_true] at h
  have adj : ∀ p, p + 1 < l.length → before (l.getD p z45) (l.getD (p + 1) z45) = true := by
    intro p hp
    have := h.1 (p + 1) (List.mem_range.2 hp)
    simp only [okAt, Bool.and_eq_true, Bool.or_eq_true, decide_eq_true_eq] at this
    rcases this.2 with h | h
    · omega
    · simpa using h
  intro q p hqp hp
  induction p with
  | zero => omega
  | succ p ih =>
    by_cases hq : q = p
    · subst hq; exact adj q hp
    · exact before_trans (ih (by omega) (by omega)) (adj p hp)
theorem mid_eq {n : Int} (h0 : 0 ≤ n) (h1 : n ≤ 4611686018427387904) : wrap64 ((IntKind.u64.wrap (wrap64 n)) / 2) = n / 2 := by
  rw [w64 (show -9223372036854775808 ≤ n by omega) (by omega)]
  have e : IntKind.u64.wrap n = n := by
    simp only [IntKind.wrap, IntKind.bits, IntKind.signed]
    first | omega | (simp; omega)
  rw [e, w64 (by omega) (by omega)]
def At (l : List S45) (t : S45) (i : Nat) : Prop := i ≤ l.length ∧ (∀ p, p < i → before (l.getD p z45) t = true) ∧ (∀ p, i ≤ p → p < l.length → before (l.getD p z45) t = false)
def hit (l : List S45) (t : S45) (i : Nat) : Bool := decide (i < l.length) && (cmpB (l.getD i z45) t == 0)
theorem search_loop (l : List S45) (t : S45) (hl : l.length ≤ 1048576) (hs : Sorted l) : ∀ (d i j : Nat), j - i ≤ d → i ≤ j → j ≤ l.length → (∀ p, p < i → before (l.getD p z45) t = true) → (∀ p, j ≤ p → p < l.length → before (l.getD p z45) t = false) →
    EvP (fun k => slices_BinarySearchFunc_BlockS.l0 k l (l.length : Int) (i : Int) (j : Int) t.f0 t.f1 t.f2) (fun x => ∃ i, At l t i ∧ x = ((i : Int), hit l t i)) := by
  intro d
  induction d with
  | zero =>
    intro i j hd hij hj h1 h2
    obtain rfl : i = j := by omega
    refine EvP.step (fun k => slices_BinarySearchFunc_BlockS.l0.eq_2 _ _ _ _ _ _ _ k) ?_
    simp only [if_neg (show ¬ (i : Int) < (i : Int) by omega)]
    by_cases hn : i < l.length
    · simp only [if_pos (show (i : Int) < (l.length : Int) by omega), if_pos (show (0 : Int) ≤ (i : Int) by omega), rd_nat]
      refine EvP.bind (compareB_ev _ _) ?_
      exact EvP.now ⟨i, ⟨hj, h1, h2⟩, by rw [hit, decide_eq_true hn, Bool.true_and]⟩
    · simp only [if_neg (show ¬ (i : Int) < (l.length : Int) by omega)]
      exact EvP.now ⟨i, ⟨hj, h1, h2⟩, by rw [hit, decide_eq_false hn, Bool.false_and]⟩
  | succ d ih =>
    intro i j hd hij hj h1 h2
    by_cases he : i = j
    · exact ih i j (by omega) hij hj h1 h2
    have em : wrap64 ((IntKind.u64.wrap (wrap64 ((i : Int) + (j : Int)))) / 2) = (((i + j) / 2 : Nat) : Int) := by
      rw [mid_eq (by omega) (by omega)]; omega
    refine EvP.step (fun k => slices_BinarySearchFunc_BlockS.l0.eq_2 _ _ _ _ _ _ _ k) ?_
    simp only [if_pos (show (i : Int) < (j : Int) by omega), em, if_pos (show (0 : Int) ≤ (((i + j) / 2 : Nat) : Int) by omega), if_pos (show (((i + j) / 2 : Nat) : Int) < (l.length : Int) by omega), rd_nat, w64 (show -9223372036854775808 ≤ (((i + j) / 2 : Nat) : Int) + 1 by omega) (by omega)]
    refine EvP.bind (compareB_ev _ _) ?_
    have hc := cmpB_ge (l.getD ((i + j) / 2) z45) t
    cases hb : before (l.getD ((i + j) / 2) z45) t with
    | true =>
      simp only [if_pos (show cmpB (l.getD ((i + j) / 2) z45) t < 0 by rw [hb] at hc; exact Int.not_le.1 (fun h => absurd (hc.1 h) (by decide)))]
      have := ih ((i + j) / 2 + 1) j (by omega) (by omega) hj (fun p hp => ?_) h2
      · simpa using this
      · by_cases hq : p = (i + j) / 2
        · rw [hq]; exact hb
        · exact before_trans (hs p ((i + j) / 2) (by omega) (by omega)) hb
    | false =>
      simp only [if_neg (show ¬ cmpB (l.getD ((i + j) / 2) z45) t < 0 from Int.not_lt.2 (hc.2 hb))]
      refine ih i ((i + j) / 2) (by omega) (by omega) (by omega) h1 (fun p hp hp2 => ?_)
      by_cases hq : p = (i + j) / 2
      · rw [hq]; exact hb
      · cases hpb : before (l.getD p z45) t with
        | false => rfl
        | true =>
          have := before_trans (hs ((i + j) / 2) p (by omega) hp2) hpb
          rw [hb] at this
          exact absurd this (by decide)
theorem search_ev (l : List S45) (t : S45) (hl : l.length ≤ 1048576) (hs : Sorted l) : ∃ i, At l t i ∧ Ev (fun k => slices_BinarySearchFunc_BlockS.f k l t.f0 t.f1 t.f2) ((i : Int), hit l t i) := by
  obtain ⟨r, hr, i, ha, rfl⟩ := search_loop l t hl hs l.length 0 l.length (by omega) (by omega) (by omega) (fun p hp => by omega) (fun p hp hp2 => by omega)
  exact ⟨i, ha, hr⟩
end Go.Proofs.Ytnabckhhnknlaaa.PSearch
end

section
namespace Go.Proofs.Ytnabckhhnknlaaa.PPut
open Go.RowKit Go.Proofs.YtnabckhhnknlaaaW.PrintWords Go.Proofs.Ytnabckhhnknlaaa.XD Go.Proofs.Ytnabckhhnknlaaa.EvK Go.Proofs.Ytnabckhhnknlaaa.PBasics Go.Proofs.Ytnabckhhnknlaaa.PBlocks Go.Proofs.Ytnabckhhnknlaaa.PBlockL Go.Proofs.Ytnabckhhnknlaaa.PSearch
set_option linter.unusedVariables false
set_option linter.unusedSimpArgs false
def Same (a b : S45) : Prop := a.f0.data.toList = b.f0.data.toList ∧ a.f1.data.toList = b.f1.data.toList
theorem before_turn {a b : S45} (h : before a b = false) (hn : ¬ Same a b) : before b a = true := by
  have hz : ¬ cmpB a b = 0 := fun h => hn ((cmpB_zero a b).1 h)
  have hg := (cmpB_ge a b).2 h
  unfold cmpB cmpS at hz hg
  unfold before
  have e1 := less_ge' a.f0 b.f0
  have e2 := less_ge' a.f1 b.f1
  have e3 := less_ge2 a.f0 b.f0
  have e4 := less_ge2 a.f1 b.f1
  cases h1 : lessS a.f0 b.f0 <;> cases h2 : lessS b.f0 a.f0 <;> cases h3 : lessS a.f1 b.f1 <;> cases h4 : lessS b.f1 a.f1 <;> simp_all
theorem before_congr1 {a b c : S45} (h : Same a b) : before a c = before b c := by
  simp only [before, lessS, h.1, h.2]
theorem not_before_same {a b : S45} (h : Same a b) : before a b = false := (cmpB_ge a b).1 (by rw [(cmpB_zero a b).2 h]; omega)
def skip (l : List S45) (t : S45) (i : Nat) : Nat := if hit l t i = true then 1 else 0
def putAt (l : List S45) (t : S45) (i : Nat) : List S45 := l.take i ++ [t] ++ l.drop (i + skip l t i)
theorem skip_le (l : List S45) (t : S45) (i : Nat) (hi : i ≤ l.length) : i + skip l t i ≤ l.length := by
  unfold skip
  split
  · rename_i h
    simp only [hit, Bool.and_eq_true, decide_eq_true_eq] at h
    omega
  · omega
theorem putAt_len (l : List S45) (t : S45) (i : Nat) (hi : i ≤ l.length) : (putAt l t i).length = l.length + 1 - skip l t i := by
  have := skip_le l t i hi
  unfold putAt
  rw [List.length_append, List.length_append, List.length_take, List.length_drop]
  simp only [List.length_cons, List.length_nil]
  omega
theorem putAt_get (l : List S45) (t : S45) (i q : Nat) (hi : i ≤ l.length) : (putAt l t i).getD q z45 = if q < i then l.getD q z45 else if q = i then t else l.getD (q - 1 + skip l t i) z45 := by
  unfold putAt
  simp only [List.getD_eq_getElem?_getD]
  by_cases h1 : q < i
  · rw [if_pos h1, List.append_assoc, List.getElem?_append_left (by rw [List.length_take]; omega), List.getElem?_take, if_pos h1]
  · rw [if_neg h1]
    by_cases h2 : q = i
    · subst h2
      rw [if_pos rfl, List.append_assoc, List.getElem?_append_right (by rw [List.length_take]; omega), List.length_take, Nat.min_eq_left hi, Nat.sub_self]
      rfl
    · rw [if_neg h2, List.getElem?_append_right (by rw [List.length_append, List.length_take]; simp only [List.length_cons, List.length_nil]; omega), List.length_append, List.length_take, Nat.min_eq_left hi, List.getElem?_drop]
      simp only [List.length_cons, List.length_nil]
      congr 2
      omega
theorem behind {l : List S45} {t : S45} {i : Nat} (hs : Sorted l) (ha : At l t i) (m : Nat) (h1 : i + skip l t i ≤ m) (h2 : m < l.length) : before t (l.getD m z45) = true := by
  cases hh : hit l t i with
  | true =>
    have e : skip l t i = 1 := by unfold skip; rw [if_pos hh]
    simp only [hit, Bool.and_eq_true, decide_eq_true_eq, beq_iff_eq] at hh
    have hz : Same (l.getD i z45) t := (cmpB_zero (l.getD i z45) t).1 hh.2
    have := hs i m (by omega) h2
    rwa [before_congr1 hz] at this
  | false =>
    have e : skip l t i = 0 := by unfold skip; rw [hh]; rfl
    have hn : ¬ Same (l.getD i z45) t := by
      intro h
      have := (cmpB_zero (l.getD i z45) t).2 h
      simp only [hit, decide_eq_true (show i < l.length by omega), Bool.true_and, beq_eq_false_iff_ne] at hh
      exact hh this
    have hb := before_turn (ha.2.2 i (Nat.le_refl _) (by omega)) hn
    by_cases hm : m = i
    · rw [hm]; exact hb
    · exact before_trans hb (hs i m (by omega) h2)
theorem not_same {l : List S45} {t : S45} {i : Nat} (hs : Sorted l) (ha : At l t i) (m : Nat) (h1 : m < i ∨ i + skip l t i ≤ m) (h2 : m < l.length) : ¬ Same (l.getD m z45) t := by
  intro h
  rcases h1 with h1 | h1
  · have := ha.2.1 m h1
    rw [not_before_same h] at this
    exact absurd this (by decide)
  · have := behind hs ha m h1 h2
    rw [not_before_same ⟨h.1.symm, h.2.symm⟩] at this
    exact absurd this (by decide)
theorem putAt_sorted {l : List S45} {t : S45} {i : Nat} (hs : Sorted l) (ha : At l t i) : Sorted (putAt l t i) := by
  have hsk := skip_le l t i ha.1
  intro q p hqp hp
  rw [putAt_len l t i ha.1] at hp
  rw [putAt_get l t i q ha.1, putAt_get l t i p ha.1]
  by_cases q1 : q < i
  · rw [if_pos q1]
    by_cases p1 : p < i
    · rw [if_pos p1]; exact hs q p hqp (by omega)
    · rw [if_neg p1]
      by_cases p2 : p = i
      · rw [if_pos p2]; exact ha.2.1 q q1
      · rw [if_neg p2]
        exact hs q _ (by omega) (by omega)
  · rw [if_neg q1, if_neg (show ¬ p < i by omega), if_neg (show ¬ p = i by omega)]
    by_cases q2 : q = i
    · rw [if_pos q2]; exact behind hs ha _ (by omega) (by omega)
    · rw [if_neg q2]; exact hs _ _ (by omega) (by omega)
theorem with_ev (l : List S45) (t : S45) (hl : l.length ≤ 1048576) (hs : Sorted l) : ∃ i, At l t i ∧ Ev (fun k => impl_withBlock.f k l t.f0 t.f1 t.f2) (putAt l t i) := by
  obtain ⟨i, ha, h1⟩ := search_ev l t hl hs
  refine ⟨i, ha, ?_⟩
  have hi := ha.1
  unfold impl_withBlock.f
  refine Ev.bind h1 ?_
  simp only [if_pos (show 0 ≤ (i : Int) ∧ (i : Int) ≤ (l.length : Int) ∧ l.length < 2932031007400 by omega), Int.toNat_natCast]
  cases hh : hit l t i with
  | true =>
    have hlt : i < l.length := by
      simp only [hit, Bool.and_eq_true, decide_eq_true_eq] at hh
      exact hh.1
    simp only [if_true, if_pos (show (i : Int) < (l.length : Int) by omega)]
    refine Ev.some ?_
    unfold putAt skip
    rw [if_pos hh, List.set_eq_take_append_cons_drop, if_pos hlt]
    simp
  | false =>
    simp only [Bool.false_eq_true, if_false]
    refine Ev.some ?_
    unfold putAt skip
    rw [hh]
    simp
theorem put_ev (l : List S45) (t : S45) (hl : l.length ≤ 1048576) (hs : Sorted l) (i : Nat) (ha : At l t i) : Ev (fun k => spec_l29Put.f k l t.f0 t.f1 t.f2) (putAt l t i) := by
  have hi := ha.1
  have hsk := skip_le l t i hi
  have hsk1 : skip l t i ≤ 1 := by unfold skip; split <;> omega
  unfold spec_l29Put.f
  apply EvP.eq
  refine for_evp (L := fun k (s : List S45 × Bool) q => spec_l29Put.l0 k l s.1 s.2 q t.f0 t.f1 t.f2) l.length
    (fun q s => if q ≤ i then s = (l.take q, false) else s = (l.take i ++ [t] ++ (l.drop (i + skip l t i)).take (q - i - skip l t i), true)) ?_ ?_ ([], false) (by simp)
  · intro q s hq hinv K
    have hbt : before_eq (l.getD q z45) t = before_eq (l.getD q z45) t := rfl
    refine EvP.step (fun k => spec_l29Put.l0.eq_2 _ _ _ _ _ _ _ k) ?_
    have w1 := w64 (show -9223372036854775808 ≤ (q : Int) + 1 by omega) (by omega)
    by_cases h1 : q < i
    · rw [if_pos (by omega)] at hinv
      subst hinv
      have hn := not_same hs ha q (.inl h1) hq
      have hle : (l.take q).length < 2932031007402 := by rw [List.length_take]; omega
      have e : l.getD q z45 = l[q] := by rw [List.getD_eq_getElem?_getD, List.getElem?_eq_getElem hq]; rfl
      have K1 := K (l.take (q + 1), false) (by rw [if_pos (by omega)])
      simp only [if_pos (show (q : Int) < (l.length : Int) by omega), Bool.false_eq_true, if_false, if_pos (show (0 : Int) ≤ (q : Int) by omega), rd_nat, before_eq, ha.2.1 q h1, Option.bind_some, Bool.not_true]
      refine EvP.step (fun k => spec_l29Put.j1.eq_2 _ _ _ _ _ _ _ _ k) ?_
      simp only [Bool.false_eq_true, if_false, if_pos (show (q : Int) < (l.length : Int) by omega), if_pos (show (0 : Int) ≤ (q : Int) by omega), rd_nat, toList_eq, w1, if_pos hle]
      rw [List.take_succ_eq_append_getElem hq, ← e] at K1
      by_cases h0 : (l.getD q z45).f0.data.toList = t.f0.data.toList
      · simp only [if_pos h0, if_neg (show ¬ (l.getD q z45).f1.data.toList = t.f1.data.toList from fun h => hn ⟨h0, h⟩)]
        exact K1
      · simp only [if_neg h0]
        exact K1
    · by_cases h2 : q = i
      · subst h2
        rw [if_pos (by omega)] at hinv
        subst hinv
        have K1 := K (l.take q ++ [t] ++ (l.drop (q + skip l t q)).take (q + 1 - q - skip l t q), true) (by rw [if_neg (by omega)])
        have hle : (l.take q).length < 2932031007402 := by rw [List.length_take]; omega
        have hle2 : (l.take q ++ [t]).length < 2932031007402 := by rw [List.length_append, List.length_take]; simp only [List.length_cons, List.length_nil]; omega
        simp only [if_pos (show (q : Int) < (l.length : Int) by omega), Bool.false_eq_true, if_false, if_pos (show (0 : Int) ≤ (q : Int) by omega), rd_nat, before_eq, ha.2.2 q (Nat.le_refl _) hq, Option.bind_some, Bool.not_false]
        refine EvP.step (fun k => spec_l29Put.j1.eq_2 _ _ _ _ _ _ _ _ k) ?_
        simp only [if_true, if_pos hle, Option.bind_some, if_pos (show (q : Int) < (l.length : Int) by omega), if_pos (show (0 : Int) ≤ (q : Int) by omega), rd_nat, toList_eq, w1, if_pos hle2]
        cases hh : hit l t q with
        | true =>
          have e : skip l t q = 1 := by unfold skip; rw [if_pos hh]
          simp only [hit, Bool.and_eq_true, decide_eq_true_eq, beq_iff_eq] at hh
          have hz := (cmpB_zero (l.getD q z45) t).1 hh.2
          simp only [if_pos hz.1, if_pos hz.2]
          rw [e, show q + 1 - q - 1 = 0 by omega, List.take_zero, List.append_nil] at K1
          exact K1
        | false =>
          have e : skip l t q = 0 := by unfold skip; rw [hh]; rfl
          have hn : ¬ Same (l.getD q z45) t := not_same hs ha q (.inr (by omega)) hq
          have e2 : (l.drop (q + 0)).take 1 = [l.getD q z45] := by
            rw [Nat.add_zero, List.drop_eq_getElem_cons hq, List.getD_eq_getElem?_getD, List.getElem?_eq_getElem hq]; rfl
          rw [e, show q + 1 - q - 0 = 1 by omega, e2] at K1
          by_cases h0 : (l.getD q z45).f0.data.toList = t.f0.data.toList
          · simp only [if_pos h0, if_neg (show ¬ (l.getD q z45).f1.data.toList = t.f1.data.toList from fun h => hn ⟨h0, h⟩)]
            exact K1
          · simp only [if_neg h0]
            exact K1
      · rw [if_neg (by omega)] at hinv
        subst hinv
        have hn := not_same hs ha q (.inr (by omega)) hq
        have hdl : q - i - skip l t i < (l.drop (i + skip l t i)).length := by rw [List.length_drop]; omega
        have hle : (l.take i ++ [t] ++ (l.drop (i + skip l t i)).take (q - i - skip l t i)).length < 2932031007402 := by
          rw [List.length_append, List.length_append, List.length_take, List.length_take, List.length_drop]; simp only [List.length_cons, List.length_nil]; omega
        have K1 := K (l.take i ++ [t] ++ (l.drop (i + skip l t i)).take (q + 1 - i - skip l t i), true) (by rw [if_neg (by omega)])
        have e : (l.drop (i + skip l t i))[q - i - skip l t i] = l.getD q z45 := by
          rw [List.getElem_drop, List.getD_eq_getElem?_getD, List.getElem?_eq_getElem hq]
          show _ = l[q]
          congr 1
          omega
        rw [show q + 1 - i - skip l t i = q - i - skip l t i + 1 by omega, List.take_succ_eq_append_getElem hdl, e, ← List.append_assoc] at K1
        simp only [if_pos (show (q : Int) < (l.length : Int) by omega), if_true]
        refine EvP.step (fun k => spec_l29Put.j1.eq_2 _ _ _ _ _ _ _ _ k) ?_
        simp only [Bool.false_eq_true, if_false, if_pos (show (q : Int) < (l.length : Int) by omega), if_pos (show (0 : Int) ≤ (q : Int) by omega), rd_nat, toList_eq, w1, if_pos hle]
        by_cases h0 : (l.getD q z45).f0.data.toList = t.f0.data.toList
        · simp only [if_pos h0, if_neg (show ¬ (l.getD q z45).f1.data.toList = t.f1.data.toList from fun h => hn ⟨h0, h⟩)]
          exact K1
        · simp only [if_neg h0]
          exact K1
  · intro s hinv
    refine EvP.step (fun k => spec_l29Put.l0.eq_2 _ _ _ _ _ _ _ k) ?_
    simp only [if_neg (show ¬ (l.length : Int) < (l.length : Int) by omega)]
    by_cases h : l.length ≤ i
    · obtain rfl : i = l.length := by omega
      rw [if_pos (Nat.le_refl _)] at hinv
      subst hinv
      have e : skip l t l.length = 0 := by omega
      simp only [Bool.false_eq_true, if_false, List.take_length, if_pos (show l.length < 2932031007402 by omega)]
      refine EvP.now ?_
      unfold putAt
      rw [e, Nat.add_zero, List.take_length, List.drop_length, List.append_nil]
    · rw [if_neg h] at hinv
      subst hinv
      simp only [if_true]
      refine EvP.now ?_
      have e : (l.drop (i + skip l t i)).take (l.length - i - skip l t i) = l.drop (i + skip l t i) := List.take_of_length_le (by rw [List.length_drop]; omega)
      rw [e]
      rfl
theorem both_put (l : List S45) (t : S45) (hl : l.length ≤ 1048576) (hs : Sorted l) : ∃ r, Ev (fun k => spec_l29Put.f k l t.f0 t.f1 t.f2) r ∧ Ev (fun k => impl_withBlock.f k l t.f0 t.f1 t.f2) r ∧ Sorted r ∧ r.length ≤ l.length + 1 := by
  obtain ⟨i, ha, h1⟩ := with_ev l t hl hs
  exact ⟨putAt l t i, put_ev l t hl hs i ha, h1, putAt_sorted hs ha, by rw [putAt_len l t i ha.1]; omega⟩
end Go.Proofs.Ytnabckhhnknlaaa.PPut
end

section
namespace Go.Proofs.Ytnabckhhnknlaaa.SD
open Go.RowKit Go.Proofs.YtnabckhhnknlaaaW.PrintWords Go.Proofs.Ytnabckhhnknlaaa.XD Go.Proofs.Ytnabckhhnknlaaa.EvK
set_option linter.unusedVariables false
set_option linter.unusedSimpArgs false
theorem szBlock_val (x : S42) (left : Int) (h0 : 0 ≤ left) (h1 : left ≤ 1048576) (hq : Q42 x) : ∃ t, laws_szBlock.f x.f0 x.f1 x.f2 left = some t ∧ t ≤ left ∧ (0 ≤ t → (x.f0.size ≤ 1048576) ∧ (x.f1.size ≤ 1048576) ∧ (x.f2.size ≤ 1048576)) := by
  unfold Q42 maxLen at hq
  unfold laws_szBlock.f
  repeat' split
  all_goals refine ⟨_, rfl, ?_, ?_⟩
  all_goals (simp only [wrap64] at *; omega)
end Go.Proofs.Ytnabckhhnknlaaa.SD
end

section
namespace Go.Proofs.Ytnabckhhnknlaaa.SD
open Go.RowKit Go.Proofs.YtnabckhhnknlaaaW.PrintWords Go.Proofs.Ytnabckhhnknlaaa.XD Go.Proofs.Ytnabckhhnknlaaa.EvK
set_option linter.unusedVariables false
set_option linter.unusedSimpArgs false
theorem szBlockS_ev (l : List (S42)) (left : Int) (h0 : 0 ≤ left) (h1 : left ≤ 1048576) (hq : (l.length ≤ maxLen ∧ ∀ y1 ∈ l, Q42 y1)) : EvP (fun k => laws_szBlockS.f k l left) (fun t => t ≤ left ∧ (0 ≤ t → l.length ≤ 1048576 ∧ ∀ x ∈ l, (x.f0.size ≤ 1048576) ∧ (x.f1.size ≤ 1048576) ∧ (x.f2.size ≤ 1048576))) := by
  obtain ⟨hl, hq⟩ := hq
  unfold maxLen at hl
  unfold laws_szBlockS.f
  rw [w64 (by omega) (by omega)]
  by_cases hc : left - (l.length : Int) < 0
  · simp only [if_pos hc]
    exact EvP.now ⟨by omega, by omega⟩
  simp only [if_neg hc]
  refine for_evp (L := fun k (s : Int) i => laws_szBlockS.l0 k l s i) l.length (fun i s => 0 ≤ s ∧ s ≤ left - (l.length : Int) ∧ ∀ x ∈ l.take i, (x.f0.size ≤ 1048576) ∧ (x.f1.size ≤ 1048576) ∧ (x.f2.size ≤ 1048576)) ?_ ?_ _ ⟨by omega, by omega, by simp⟩
  · rintro i s hi ⟨hs0, hs1, hs⟩ K
    have e : rd_T42 l (i : Int) = l[i] := getD_at l z42 i hi
    refine EvP.step (fun k => laws_szBlockS.l0.eq_2 _ _ _ k) ?_
    obtain ⟨t, ht, ht1, ht2⟩ := szBlock_val l[i] s hs0 (by omega) (hq _ (List.getElem_mem hi))
    simp only [if_pos (show (i : Int) < (l.length : Int) by omega), if_pos (show (0 : Int) ≤ (i : Int) by omega), e, ht, Option.bind_some, w64 (show -9223372036854775808 ≤ (i : Int) + 1 by omega) (by omega)]
    by_cases hn : t < 0
    · simp only [if_pos hn]
      exact EvP.now ⟨by omega, by omega⟩
    · simp only [if_neg hn]
      exact K _ ⟨by omega, by omega, take_all hi hs (ht2 (by omega))⟩
  · rintro s ⟨hs0, hs1, hs⟩
    refine EvP.step (fun k => laws_szBlockS.l0.eq_2 _ _ _ k) ?_
    simp only [if_neg (show ¬ (l.length : Int) < (l.length : Int) by omega)]
    exact EvP.now ⟨by omega, fun _ => ⟨by omega, by simpa using hs⟩⟩
end Go.Proofs.Ytnabckhhnknlaaa.SD
end

section
namespace Go.Proofs.Ytnabckhhnknlaaa.SD
open Go.RowKit Go.Proofs.YtnabckhhnknlaaaW.PrintWords Go.Proofs.Ytnabckhhnknlaaa.XD Go.Proofs.Ytnabckhhnknlaaa.EvK
set_option linter.unusedVariables false
set_option linter.unusedSimpArgs false
def toBlockS_el (x : S42) : S45 := (⟨x.f0, x.f1, x.f2⟩ : S45)
theorem toBlockS_ev (l : List (S42)) (hl : l.length ≤ 1048576) : Ev (fun k => laws_toBlockS.f k l) (l.map toBlockS_el) := by
  apply EvP.eq
  unfold laws_toBlockS.f
  simp only [if_pos (show (0 : Int) ≤ (l.length : Int) by omega), Int.toNat_natCast, if_pos (show l.length ≤ 5864062014805 by omega)]
  refine for_evp (L := fun k (s : List (S45)) i => laws_toBlockS.l0 k l s i) l.length (fun i s => s = (l.take i).map toBlockS_el ++ List.replicate (l.length - i) z45) ?_ ?_ (List.replicate l.length z45) (by simp)
  · rintro i s hi rfl K
    have e : rd_T42 l (i : Int) = l[i] := getD_at l z42 i hi
    have hlen := done_len toBlockS_el l z45 i (by omega)
    refine EvP.step (fun k => laws_toBlockS.l0.eq_2 _ _ _ k) ?_
    simp only [if_pos (show (i : Int) < (l.length : Int) by omega), if_pos (show (0 : Int) ≤ (i : Int) by omega), e, laws_toBlock.f, Option.bind_some, hlen, w64 (show -9223372036854775808 ≤ (i : Int) + 1 by omega) (by omega), Int.toNat_natCast]
    refine K _ ?_
    show List.set _ i (toBlockS_el l[i]) = _
    exact map_done toBlockS_el l _ i hi
  · rintro s rfl
    refine EvP.step (fun k => laws_toBlockS.l0.eq_2 _ _ _ k) ?_
    simp only [if_neg (show ¬ (l.length : Int) < (l.length : Int) by omega)]
    exact EvP.now (by simp)
end Go.Proofs.Ytnabckhhnknlaaa.SD
end

section
namespace Go.Proofs.Ytnabckhhnknlaaa.SD
open Go.RowKit Go.Proofs.YtnabckhhnknlaaaW.PrintWords Go.Proofs.Ytnabckhhnknlaaa.XD Go.Proofs.Ytnabckhhnknlaaa.EvK
set_option linter.unusedVariables false
set_option linter.unusedSimpArgs false
theorem eqBlockS_ev (l : List (S45)) (hl : l.length ≤ 1048576) : Ev (fun k => laws_eqBlockS.f k l l) true := by
  apply EvP.eq
  unfold laws_eqBlockS.f
  simp only [if_true]
  refine for_evp (L := fun k (s : Unit) i => laws_eqBlockS.l0 k l l i) l.length (fun i s => True) ?_ ?_ () trivial
  · rintro i s hi - K
    refine EvP.step (fun k => laws_eqBlockS.l0.eq_2 _ _ _ k) ?_
    simp only [if_pos (show (i : Int) < (l.length : Int) by omega), if_pos (show (0 : Int) ≤ (i : Int) by omega), laws_eqBlock.f, Option.bind_some, if_true, w64 (show -9223372036854775808 ≤ (i : Int) + 1 by omega) (by omega)]
    exact K () trivial
  · rintro s -
    refine EvP.step (fun k => laws_eqBlockS.l0.eq_2 _ _ _ k) ?_
    simp only [if_neg (show ¬ (l.length : Int) < (l.length : Int) by omega)]
    exact EvP.now rfl
end Go.Proofs.Ytnabckhhnknlaaa.SD
end

section
namespace Go.Proofs.Ytnabckhhnknlaaa.SD
open Go.RowKit Go.Proofs.YtnabckhhnknlaaaW.PrintWords Go.Proofs.Ytnabckhhnknlaaa.XD Go.Proofs.Ytnabckhhnknlaaa.EvK
set_option linter.unusedVariables false
set_option linter.unusedSimpArgs false
theorem markText_ev (c : Int) (h0 : 0 ≤ c) (h1 : c ≤ 4611686018427387904) : ∃ s : ByteArray, Ev (fun k => laws_markText.f k c) s := by
  unfold laws_markText.f
  by_cases hc : c ≤ 0
  · simp only [if_pos hc]
    exact ⟨_, Ev.now _⟩
  simp only [if_neg hc]
  have key : ∀ (d : Nat) (x : Int) (y : ByteArray), 0 ≤ x → x ≤ d → y.size + d ≤ 9223372036854775000 → ∃ s : ByteArray, Ev (fun k => laws_markText.l0 k x y) s := by
    intro d
    induction d using Nat.strongRecOn with
    | _ d ih =>
    intro x y hx hd hy
    by_cases hp : x > 0
    · have hz : (strOfNums [(wrap64 (48 + Int.tmod x 10)) % 256]).size = 1 := rfl
      have hd' : Int.tdiv x 10 = x / 10 := Int.tdiv_eq_ediv_of_nonneg hx
      have hw : wrap64 (Int.tdiv x 10) = x / 10 := by rw [hd', w64 (by omega) (by omega)]
      obtain ⟨s, hs⟩ := ih (d - 1) (by omega) (x / 10) (strOfNums [(wrap64 (48 + Int.tmod x 10)) % 256] ++ y) (by omega) (by omega) (by rw [ByteArray.size_append, hz]; omega)
      refine ⟨s, Ev.step (fun k => laws_markText.l0.eq_2 _ _ k) ?_⟩
      simp only [if_pos hp, Option.bind_some, hz, if_pos (show 1 + y.size ≤ 9223372036854775807 by omega), hw]
      exact hs
    · refine ⟨(⟨#[109]⟩ : ByteArray) ++ y, Ev.step (fun k => laws_markText.l0.eq_2 _ _ k) ?_⟩
      simp only [if_neg hp, if_pos (show 1 + y.size ≤ 9223372036854775807 by omega)]
      exact Ev.now _
  exact key c.toNat c ⟨#[]⟩ h0 (by omega) (by show 0 + _ ≤ _; omega)
end Go.Proofs.Ytnabckhhnknlaaa.SD
end

section
namespace Go.Proofs.Ytnabckhhnknlaaa.SD
open Go.RowKit Go.Proofs.YtnabckhhnknlaaaW.PrintWords Go.Proofs.Ytnabckhhnknlaaa.XD Go.Proofs.Ytnabckhhnknlaaa.EvK
set_option linter.unusedVariables false
set_option linter.unusedSimpArgs false
theorem markBlockS_ev (l : List (S45)) (c : Int) (h0 : 0 ≤ c) (h1 : c + 3 * (l.length : Int) ≤ 4611686018427387904) :
    ∃ y : List (S45), Ev (fun k => laws_markBlockS.f k l c) (c + 3 * (l.length : Int), y) ∧ Ev (fun k => laws_heldBlockS.f k y c) (c + 3 * (l.length : Int)) ∧ y.length = l.length := by
  obtain ⟨T, hT⟩ : ∃ T : Int → ByteArray, ∀ x : Int, 0 ≤ x → x ≤ 4611686018427387904 → Ev (fun k => laws_markText.f k x) (T x) := ⟨fun x => if h : 0 ≤ x ∧ x ≤ 4611686018427387904 then Classical.choose (markText_ev x h.1 h.2) else ByteArray.empty, fun x h h' => by simp only [h, h', and_self, dif_pos]; exact Classical.choose_spec (markText_ev x h h')⟩
  let E : Nat → S45 := fun j => ⟨T (c + 3 * (j : Int)), T (c + 3 * (j : Int) + 1), T (c + 3 * (j : Int) + 1 + 1)⟩
  have hset : ∀ (i : Nat) (h : i < l.length), ((List.range i).map E ++ l.drop i).set i (E i) = (List.range (i + 1)).map E ++ l.drop (i + 1) := fun i h => set_done E l i h
  have hlen : ∀ (i : Nat), i ≤ l.length → ((List.range i).map E ++ l.drop i).length = l.length := by intro i h; simp; omega
  refine ⟨(List.range l.length).map E, EvP.eq ?_, EvP.eq ?_, by simp⟩
  · unfold laws_markBlockS.f
    refine for_evp (L := fun k (s : List (S45) × Int) i => laws_markBlockS.l0 k s.1 s.2 i) l.length (fun i s => s = ((List.range i).map E ++ l.drop i, c + 3 * (i : Int))) ?_ ?_ (l, c) (by simp)
    · rintro i s hi rfl K
      refine EvP.step (fun k => laws_markBlockS.l0.eq_2 _ _ _ k) ?_
      simp only [hlen i (by omega), if_pos (show (i : Int) < (l.length : Int) by omega), if_pos (show (0 : Int) ≤ (i : Int) by omega), Option.bind_some, w64 (show -9223372036854775808 ≤ (i : Int) + 1 by omega) (by omega), w64 (show -9223372036854775808 ≤ c + 3 * (i : Int) + 1 by omega) (by omega), w64 (show -9223372036854775808 ≤ c + 3 * (i : Int) + 1 + 1 by omega) (by omega), w64 (show -9223372036854775808 ≤ c + 3 * (i : Int) + 1 + 1 + 1 by omega) (by omega), Int.toNat_natCast]
      refine EvP.bind (hT (c + 3 * (i : Int)) (by omega) (by omega)) ?_
      refine EvP.bind (hT (c + 3 * (i : Int) + 1) (by omega) (by omega)) ?_
      refine EvP.bind (hT (c + 3 * (i : Int) + 1 + 1) (by omega) (by omega)) ?_
      refine K (_, _) ?_
      rw [← hset i hi, Prod.mk.injEq]
      refine ⟨?_, by push_cast; omega⟩
      have g1 := hlen i (by omega)
      generalize (List.range i).map E ++ l.drop i = L at g1
      have g2 : i < L.length := by omega
      first | rfl | (simp [rd_T45, E, getD_set_self, g2])
    · rintro s rfl
      refine EvP.step (fun k => laws_markBlockS.l0.eq_2 _ _ _ k) ?_
      simp only [hlen l.length (Nat.le_refl _), if_neg (show ¬ (l.length : Int) < (l.length : Int) by omega)]
      exact EvP.now (by simp)
  · unfold laws_heldBlockS.f
    have hl2 : ((List.range l.length).map E).length = l.length := by simp
    refine for_evp (L := fun k (s : Int) i => laws_heldBlockS.l0 k ((List.range l.length).map E) s i) l.length (fun i s => s = c + 3 * (i : Int)) ?_ ?_ c (by simp)
    · rintro i s hi rfl K
      have e : rd_T45 ((List.range l.length).map E) (i : Int) = E i := by
        rw [show rd_T45 ((List.range l.length).map E) (i : Int) = ((List.range l.length).map E)[i]'(by simpa using hi) from getD_at _ z45 i (by simpa using hi)]; simp
      refine EvP.step (fun k => laws_heldBlockS.l0.eq_2 _ _ _ k) ?_
      simp only [hl2, if_pos (show (i : Int) < (l.length : Int) by omega), if_pos (show (0 : Int) ≤ (i : Int) by omega), e, E, if_true, w64 (show -9223372036854775808 ≤ (i : Int) + 1 by omega) (by omega), w64 (show -9223372036854775808 ≤ c + 3 * (i : Int) + 1 by omega) (by omega), w64 (show -9223372036854775808 ≤ c + 3 * (i : Int) + 1 + 1 by omega) (by omega), w64 (show -9223372036854775808 ≤ c + 3 * (i : Int) + 1 + 1 + 1 by omega) (by omega)]
      refine EvP.bind (hT (c + 3 * (i : Int)) (by omega) (by omega)) ?_
      simp only [if_true]
      refine EvP.bind (hT (c + 3 * (i : Int) + 1) (by omega) (by omega)) ?_
      simp only [if_true]
      refine EvP.bind (hT (c + 3 * (i : Int) + 1 + 1) (by omega) (by omega)) ?_
      simp only [if_true]
      exact K _ (by push_cast; omega)
    · rintro s rfl
      refine EvP.step (fun k => laws_heldBlockS.l0.eq_2 _ _ _ k) ?_
      simp only [hl2, if_neg (show ¬ (l.length : Int) < (l.length : Int) by omega)]
      exact EvP.now rfl
end Go.Proofs.Ytnabckhhnknlaaa.SD
end

section
namespace Go.Proofs.Ytnabckhhnknlaaa.PureFnExactMergeBlocks
open Go.RowKit Go.Proofs.YtnabckhhnknlaaaW.PrintWords Go.Proofs.Ytnabckhhnknlaaa.XD Go.Proofs.Ytnabckhhnknlaaa.EvK Go.Proofs.Ytnabckhhnknlaaa.PBlockL Go.Proofs.Ytnabckhhnknlaaa.PSearch Go.Proofs.Ytnabckhhnknlaaa.PBlocks Go.Proofs.Ytnabckhhnknlaaa.PPut Go.Proofs.Ytnabckhhnknlaaa.SD
set_option linter.unusedVariables false
set_option linter.unusedSimpArgs false
theorem merge_ev (b : List S45) (hb : b.length ≤ 32) (l : List S45) (hl : l.length ≤ 32) (hs : Sorted l) : ∃ r : List S45 × Int, Ev (fun k => spec_MergeBlocks.l0 k b l 0) r ∧ Ev (fun k => impl_MergeBlocks.l0 k l b (b.length : Int) 0) r ∧ r.1.length ≤ 1048576 := by
  have key : ∀ (d q : Nat) (l : List S45), q + d = b.length → l.length ≤ 32 + q → Sorted l → ∃ r : List S45 × Int, Ev (fun k => spec_MergeBlocks.l0 k b l (q : Int)) r ∧ Ev (fun k => impl_MergeBlocks.l0 k l b (b.length : Int) (q : Int)) r ∧ r.1.length ≤ 1048576 := by
    intro d
    induction d with
    | zero =>
      intro q l hq hl hs
      refine ⟨if (l.length : Int) > 32 then ([], 5) else (l, 0), ?_, ?_, ?_⟩
      · refine Ev.step (fun k => spec_MergeBlocks.l0.eq_2 _ _ _ k) ?_
        simp only [if_neg (show ¬ (q : Int) < (b.length : Int) by omega)]
        by_cases h : (l.length : Int) > 32
        · simp only [if_pos h]; exact Ev.now _
        · simp only [if_neg h]; exact Ev.now _
      · refine Ev.step (fun k => impl_MergeBlocks.l0.eq_2 _ _ _ _ k) ?_
        simp only [if_neg (show ¬ (q : Int) < (b.length : Int) by omega)]
        by_cases h : (l.length : Int) > 32
        · simp only [if_pos h]; exact Ev.now _
        · simp only [if_neg h]; exact Ev.now _
      · split
        · simp
        · show l.length ≤ _; omega
    | succ d ih =>
      intro q l hq hl hs
      obtain ⟨r, e1, e2, hs', hlen⟩ := both_put l (b.getD q z45) (by omega) hs
      obtain ⟨r2, g1, g2, g3⟩ := ih (q + 1) r (by omega) (by omega) hs'
      have w1 := w64 (show -9223372036854775808 ≤ (q : Int) + 1 by omega) (by omega)
      refine ⟨r2, ?_, ?_, g3⟩
      · refine Ev.step (fun k => spec_MergeBlocks.l0.eq_2 _ _ _ k) ?_
        simp only [if_pos (show (q : Int) < (b.length : Int) by omega), if_pos (show (0 : Int) ≤ (q : Int) by omega), rd_nat, w1]
        refine Ev.bind e1 ?_
        simpa using g1
      · refine Ev.step (fun k => impl_MergeBlocks.l0.eq_2 _ _ _ _ k) ?_
        simp only [if_pos (show (q : Int) < (b.length : Int) by omega), if_pos (show (0 : Int) ≤ (q : Int) by omega), rd_nat, w1]
        refine Ev.bind e2 ?_
        simpa using g2
  simpa using key b.length 0 l (by omega) (by omega) hs
theorem ok_len {l : List S45} (h : listOk l = true) : l.length ≤ 32 := by
  unfold listOk at h
  rw [Bool.and_eq_true, decide_eq_true_eq] at h
  omega
theorem both_ev (a b : List S45) (ha : Small a) (hb : Small b) : ∃ r : List S45 × Int, Ev (fun k => spec_MergeBlocks.f k a b) r ∧ Ev (fun k => impl_MergeBlocks.f k a b) r ∧ r.1.length ≤ 1048576 := by
  have no : ∀ x : Bool, x = true → Ev (fun k => spec_MergeBlocks.j0 k a b x) (([], 1) : List S45 × Int) ∧ Ev (fun k => impl_MergeBlocks.j0 k a b x) (([], 1) : List S45 × Int) := by
    rintro x rfl
    refine ⟨Ev.step (fun k => spec_MergeBlocks.j0.eq_2 _ _ _ k) ?_, Ev.step (fun k => impl_MergeBlocks.j0.eq_2 _ _ _ k) ?_⟩ <;> (simp only [if_true]; exact Ev.now _)
  cases hok : listOk a with
  | false =>
    refine ⟨([], 1), ?_, ?_, by simp⟩
    · unfold spec_MergeBlocks.f
      refine Ev.bind (specOk_ev a ha) ?_
      simp only [hok, Bool.false_eq_true, if_false]
      exact (no true rfl).1
    · unfold impl_MergeBlocks.f
      refine Ev.bind (implOk_ev a ha) ?_
      simp only [hok, Bool.false_eq_true, if_false]
      exact (no true rfl).2
  | true =>
    cases hok2 : listOk b with
    | false =>
      refine ⟨([], 1), ?_, ?_, by simp⟩
      · unfold spec_MergeBlocks.f
        refine Ev.bind (specOk_ev a ha) ?_
        simp only [hok, if_true]
        refine Ev.bind (specOk_ev b hb) ?_
        rw [hok2]
        exact (no _ rfl).1
      · unfold impl_MergeBlocks.f
        refine Ev.bind (implOk_ev a ha) ?_
        simp only [hok, if_true]
        refine Ev.bind (implOk_ev b hb) ?_
        rw [hok2]
        exact (no _ rfl).2
    | true =>
      obtain ⟨r, e1, e2, hlen⟩ := merge_ev b (ok_len hok2) a (ok_len hok) (sorted_of hok)
      have hal := ha.1
      refine ⟨r, ?_, ?_, hlen⟩
      · unfold spec_MergeBlocks.f
        refine Ev.bind (specOk_ev a ha) ?_
        simp only [hok, if_true]
        refine Ev.bind (specOk_ev b hb) ?_
        rw [hok2]
        refine Ev.step (fun k => spec_MergeBlocks.j0.eq_2 _ _ _ k) ?_
        simp only [Bool.not_true, Bool.false_eq_true, if_false, Option.bind_some, List.nil_append, List.length_nil, if_pos (show 0 + a.length < 2932031007402 by omega)]
        exact e1
      · unfold impl_MergeBlocks.f
        refine Ev.bind (implOk_ev a ha) ?_
        simp only [hok, if_true]
        refine Ev.bind (implOk_ev b hb) ?_
        rw [hok2]
        refine Ev.step (fun k => impl_MergeBlocks.j0.eq_2 _ _ _ k) ?_
        unfold slices_Clone_BlockS.f
        simp only [Bool.not_true, Bool.false_eq_true, if_false, Option.bind_some, List.nil_append, List.length_nil, if_pos (show 0 + a.length < 2932031007402 by omega)]
        exact e2
theorem small_to (l : List S42) (h1 : l.length ≤ 1048576) (h2 : ∀ x ∈ l, x.f0.size ≤ 1048576 ∧ x.f1.size ≤ 1048576 ∧ x.f2.size ≤ 1048576) : Small (l.map toBlockS_el) := by
  refine ⟨by simpa using h1, fun x hx => ?_⟩
  obtain ⟨y, hy, rfl⟩ := List.mem_map.1 hx
  exact h2 y hy
theorem pure : laws_FnExactMergeBlocks.Pure := by
  intro l m hq hqm
  apply EvP.rounds
  unfold laws_FnExactMergeBlocks.f
  refine EvP.bindP (szBlockS_ev l 1048576 (by omega) (by omega) hq) (fun t ⟨ht, hs⟩ => ?_)
  by_cases hn : t < 0
  · simp only [if_pos hn]
    exact EvP.now rfl
  simp only [if_neg hn]
  refine EvP.bindP (szBlockS_ev m t (by omega) (by omega) hqm) (fun t2 ⟨ht2, hs2⟩ => ?_)
  by_cases hn2 : t2 < 0
  · simp only [if_pos hn2]
    exact EvP.now rfl
  simp only [if_neg hn2]
  obtain ⟨h1, h2⟩ := hs (by omega)
  obtain ⟨h3, h4⟩ := hs2 (by omega)
  have hto := toBlockS_ev l h1
  have hsm := small_to l h1 h2
  have hto2 := toBlockS_ev m h3
  have hsm2 := small_to m h3 h4
  generalize l.map toBlockS_el = L at hto hsm
  generalize m.map toBlockS_el = M at hto2 hsm2
  obtain ⟨r, e1, e2, hlen⟩ := both_ev L M hsm hsm2
  have hL := hsm.1
  have hM := hsm2.1
  have hei := eqBlockS_ev r.1 (by omega)
  have hes := eqBlockS_ev L hsm.1
  have hes2 := eqBlockS_ev M hsm2.1
  obtain ⟨y, hy1, hy2, hy3⟩ := markBlockS_ev r.1 1 (by omega) (by omega)
  obtain ⟨z, hz1, _⟩ := markBlockS_ev L 1 (by omega) (by omega)
  obtain ⟨z2, hz3, _⟩ := markBlockS_ev M (1 + 3 * (L.length : Int)) (by omega) (by omega)
  refine EvP.bind hto (EvP.bind hto2 (EvP.bind e1 (EvP.bind hto (EvP.bind hto2 (EvP.bind e2 (EvP.bind hei ?_))))))
  simp only [if_true, bne_self_eq_false]
  refine EvP.step (fun k => laws_FnExactMergeBlocks.j0.eq_2 _ _ _ _ _ _ _ _ _ k) ?_
  simp only [Bool.false_eq_true, if_false]
  refine EvP.bind hto (EvP.bind hes ?_)
  simp only [if_true]
  refine EvP.bind hto2 (EvP.bind hes2 ?_)
  simp only [if_true]
  refine EvP.bind hz1 (EvP.bind hz3 ?_)
  simp only [if_neg (show ¬ (1 + 3 * (L.length : Int) + 3 * (M.length : Int) < 0) by omega)]
  refine EvP.bind hei ?_
  simp only [if_true, bne_self_eq_false]
  refine EvP.step (fun k => laws_FnExactMergeBlocks.j1.eq_2 _ _ _ _ _ _ k) ?_
  simp only [Bool.false_eq_true, if_false]
  refine EvP.bind hy1 (EvP.bind hy2 ?_)
  simp only [if_neg (show ¬ (1 + 3 * (r.1.length : Int) < 0) by omega), if_true]
  refine EvP.bind hto (EvP.bind hto2 (EvP.bind e2 (EvP.bind hei ?_)))
  simp only [if_true, bne_self_eq_false]
  refine EvP.step (fun k => laws_FnExactMergeBlocks.j2.eq_2 _ _ _ k) ?_
  simp only [Bool.false_eq_true, if_false]
  refine EvP.bind hy2 ?_
  simp only [if_neg (show ¬ (1 + 3 * (r.1.length : Int) < 0) by omega), if_true]
  exact EvP.now rfl
end Go.Proofs.Ytnabckhhnknlaaa.PureFnExactMergeBlocks
end

section
namespace Go.Proofs.Ytnabckhhnknlaaa.RowFnExactMergeBlocks
open Go.ChangeShapes Go.WideShapes Go.ChangeAt Go.RowKit Go.Proofs.YtnabckhhnknlaaaW.PrintWords Go.Proofs.Ytnabckhhnknlaaa.XD Go.Proofs.Ytnabckhhnknlaaa.Open
open Go.ChangeMaps (open_string shut_string)
set_option linter.unusedVariables false
theorem own : ownKnob Try.prog.godebug = none := by kernel_rfl
theorem laidOut : laidOutB Try.prog = true := by kernel_rfl
set_option maxRecDepth 100000 in
theorem lifted (os : Os) (started : os.Started) (H : Type) (enc : TypeId × Value → H) :
    ReturnsInHanded {} Try.checked os 8 .any (Rows.fnExactMergeBlocksSpec.pre6 enc Try.prog Try.f8 Rows.fnExactMergeBlocksRow.domain false) (Rows.fnExactMergeBlocksSpec.post enc Try.prog Try.f8 false true false false) := by
  refine returnsInHanded_of_change_shaped (C := Try.checked) own started (by kernel_rfl) Try.func8
    (ChangeSpec.witness6 (enc := enc) (C := Try.checked) false ⟨#[], #[(.slice none 0 0), (.slice none 0 0)], []⟩ 8 (by kernel_rfl) (by kernel_rfl) (by kernel_rfl) (by kernel_rfl)) ?_
  intro W base args ds gs before hval0 hW hcnd hsz0 hsh _
  have hsz : (DataW.weightsEach Try.prog (Try.f8.params.toList ++ Rows.fnExactMergeBlocksSpec.plain.varTypes Try.prog) (ds ++ gs)).all (· ≤ reachBytes) = true := hsz0
  have hval : ∀ (j : Nat) t v, Try.f8.params[j]? = some t → args[j]? = some v → Value.okWide Try.prog W .any base t v := hval0
  have hW' := hW
  obtain ⟨p, q, hA0, hV, rfl, hfz, hnd⟩ := hW
  have hA : DataW.TrodAll enc Try.prog W 0 (fun _ => true) true Try.f8.params.toList args.toList ds p := hA0
  rw [Try.params8] at hA hval hsz
  obtain ⟨v0, vs0, d0, ds0, p0, q0, hargs, rfl, rfl, h0, r0⟩ := trodAll_cons hA
  obtain ⟨v1, vs1, d1, ds1, p1, q1, rfl, rfl, rfl, h1, r1⟩ := trodAll_cons r0
  obtain ⟨rfl, rfl, rfl⟩ := trodAll_nil r1
  obtain rfl : args = #[v0, v1] := by cases args; simp_all
  obtain ⟨rfl, rfl⟩ := trodVars_none hV
  have kk0 := h0
  have lt0 : ∀ x ∈ p0, x.block < W.heap.size := by obtain ⟨m, hm⟩ := kk0; exact DataW.trod_lt m _ _ _ hm
  obtain ⟨A0, c0, a0, rfl, hc0, hr0, hq0⟩ := open_sl Try.underlying22 (by kernel_rfl) opens42 (hval 0 22 v0 rfl rfl) h0
  have kk1 := h1
  have lt1 : ∀ x ∈ p1, x.block < W.heap.size := by obtain ⟨m, hm⟩ := kk1; exact DataW.trod_lt m _ _ _ hm
  obtain ⟨A1, c1, a1, rfl, hc1, hr1, hq1⟩ := open_sl Try.underlying22 (by kernel_rfl) opens42 (hval 1 22 v1 rfl rfl) h1
  obtain ⟨k, hp⟩ := PureFnExactMergeBlocks.pure a0 a1 hq0 hq1
  clear hA0 hval0 hsz0 hsz
  refine (laws_FnExactMergeBlocks.calls k A0 c0 a0 A1 c1 a1 true W hr0 hc0 hr1 hc1 hsh hp).mono fun e W' ⟨he, bel0⟩ => ?_
  have bel : Below W.heap.size W W' := bel0
  subst he
  exact ⟨_, rfl, _, _, _, [], _, [], hW', trodAll_mk1 (shut_bool Try.underlying4 _), (trodAll_cons_mk (Below.trod laidOut (by kernel_rfl) (of_decide_eq_true (by kernel_rfl)) kk0 bel lt0) (trodAll_cons_mk (Below.trod laidOut (by kernel_rfl) (of_decide_eq_true (by kernel_rfl)) kk1 bel lt1) trodAll_mk0)), rfl, bel.frame _, fun h => by cases h⟩
theorem over : Rows.fnExactMergeBlocksRow.holds Try.pinned (OpenSpec.ofChange Rows.fnExactMergeBlocksSpec) :=
  OpenClaim.holds_of_wide 8 Try.f8 rfl rfl rfl rfl rfl rfl rfl ⟨rfl, rfl, rfl, rfl, rfl⟩ rfl rfl rfl rfl rfl (by kernel_rfl) Try.func8 (by kernel_rfl)
    (of_decide_eq_true (by kernel_rfl)) (by unfold Func.isWrapper; first | (rw [if_pos (by decide +kernel)]; kernel_rfl) | (rw [if_neg (by decide +kernel)]; exact ⟨rfl, rfl⟩))
    (fun os started H enc _ => lifted os started H enc)
end Go.Proofs.Ytnabckhhnknlaaa.RowFnExactMergeBlocks
namespace Go.Proofs.Ytnabckhhnknlaaa
theorem fnExactMergeBlocks_holds : Rows.FnExactMergeBlocksSaid := RowFnExactMergeBlocks.over
end Go.Proofs.Ytnabckhhnknlaaa
end
