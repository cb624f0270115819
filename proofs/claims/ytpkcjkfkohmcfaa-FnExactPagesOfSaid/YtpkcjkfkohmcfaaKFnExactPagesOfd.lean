/- The law FnExactPagesOf: part 3 of its texts, joined (wip/pack.py). -/
import Derived.Test.YtpkcjkfkohmcfaaKFnExactPagesOfa
import Derived.Test.YtpkcjkfkohmcfaaKFnExactPagesOfb
import Derived.Test.YtpkcjkfkohmcfaaKFnExactPagesOfc
import Derived.Test.YtpkcjkfkohmcfaaRows
import Derived.WalkKit
import Derived.ProofKit
import Derived.OpenShut
import Derived.ShutString
import Derived.ChangeOld
import Derived.Below
import Derived.SizedLaws

section
namespace Go.Proofs.Ytpkcjkfkohmcfaa.EvK
open Go.RowKit Go.Proofs.YtpkcjkfkohmcfaaW.PrintWords
set_option linter.unusedVariables false
theorem w64 {n : Int} (h : -9223372036854775808 ≤ n) (h' : n ≤ 9223372036854775807) : wrap64 n = n := by unfold wrap64; omega
theorem Ev.some {α : Type} {a r : α} (h : a = r) : Ev (fun _ => Option.some a) r := h ▸ Ev.now a
theorem Ev.bind_some {α β : Type} {g : Nat → Option α} {f : Nat → α → Option β} {a : α} {r : β} (h : Ev g a) (k : Ev (fun n => f n a) r) : Ev (fun n => (g n).bind (f n)) r := Ev.bind h k
theorem getD_at {α : Type} (l : List α) (d : α) (i : Nat) (h : i < l.length) : l.getD (i : Int).toNat d = l[i] := by
  simp [List.getD_eq_getElem?_getD, List.getElem?_eq_getElem h]
theorem rdOf_at {α : Type} (l : List α) (d : α) (i : Nat) (h : i < l.length) : rdOf d l (i : Int) = l[i] := getD_at l d i h
theorem map_done {α β : Type} (f : α → β) (l : List α) (z : β) (i : Nat) (h : i < l.length) :
    ((l.take i).map f ++ List.replicate (l.length - i) z).set i (f l[i]) = (l.take (i + 1)).map f ++ List.replicate (l.length - (i + 1)) z := by
  have e : l.length - i = (l.length - (i + 1)) + 1 := by omega
  rw [List.set_append_right _ _ (by simp; omega), e, List.replicate_succ]
  have e2 : i - ((l.take i).map f).length = 0 := by simp; omega
  rw [e2, List.set_cons_zero, List.take_succ_eq_append_getElem h, List.map_append]
  simp
theorem done_len {α β : Type} (f : α → β) (l : List α) (z : β) (i : Nat) (h : i ≤ l.length) : ((l.take i).map f ++ List.replicate (l.length - i) z).length = l.length := by simp; omega
def EvP {α : Type} (g : Nat → Option α) (P : α → Prop) : Prop := ∃ r, Ev g r ∧ P r
theorem EvP.now {α : Type} {r : α} {P : α → Prop} (h : P r) : EvP (fun _ => Option.some r) P := ⟨r, Ev.now r, h⟩
theorem EvP.of {α : Type} {g : Nat → Option α} {r : α} {P : α → Prop} (h : Ev g r) (hp : P r) : EvP g P := ⟨r, h, hp⟩
theorem EvP.mono {α : Type} {g : Nat → Option α} {P Q : α → Prop} (h : EvP g P) (hp : ∀ r, P r → Q r) : EvP g Q := by
  obtain ⟨r, h1, h2⟩ := h
  exact ⟨r, h1, hp _ h2⟩
theorem EvP.eq {α : Type} {g : Nat → Option α} {r : α} (h : EvP g (· = r)) : Ev g r := by
  obtain ⟨r', h, rfl⟩ := h
  exact h
theorem EvP.step {α : Type} {g f : Nat → Option α} {P : α → Prop} (h : ∀ k, g (k + 1) = f k) (k : EvP f P) : EvP g P := by
  obtain ⟨r, h1, h2⟩ := k
  exact ⟨r, Ev.step h h1, h2⟩
theorem EvP.bind {α β : Type} {g : Nat → Option α} {f : Nat → α → Option β} {a : α} {P : β → Prop} (h : Ev g a) (k : EvP (fun n => f n a) P) : EvP (fun n => (g n).bind (f n)) P := by
  obtain ⟨r, h1, h2⟩ := k
  exact ⟨r, Ev.bind h h1, h2⟩
theorem EvP.bindP {α β : Type} {g : Nat → Option α} {f : Nat → α → Option β} {Q : α → Prop} {P : β → Prop} (h : EvP g Q) (k : ∀ a, Q a → EvP (fun n => f n a) P) : EvP (fun n => (g n).bind (f n)) P := by
  obtain ⟨a, ha, hq⟩ := h
  exact EvP.bind ha (k a hq)
theorem EvP.rounds {α : Type} {g : Nat → Option α} {r : α} (h : EvP g (· = r)) : ∃ k, g k = Option.some r := Ev.rounds (EvP.eq h)
theorem for_evp {σ ρ : Type} {L : Nat → σ → Int → Option ρ} {Post : ρ → Prop} (n : Nat) (inv : Nat → σ → Prop)
    (step : ∀ (i : Nat) (s : σ), i < n → inv i s → (∀ s', inv (i + 1) s' → EvP (fun k => L k s' ((i : Int) + 1)) Post) → EvP (fun k => L k s i) Post)
    (fin : ∀ s, inv n s → EvP (fun k => L k s n) Post) (s : σ) (h0 : inv 0 s) : EvP (fun k => L k s 0) Post := by
  have key : ∀ (d i : Nat) (s : σ), i + d = n → inv i s → EvP (fun k => L k s i) Post := by
    intro d
    induction d with
    | zero =>
      intro i s hi hs
      obtain rfl : i = n := by omega
      exact fin s hs
    | succ d ih =>
      intro i s hi hs
      refine step i s (by omega) hs (fun s' hs' => ?_)
      simpa using ih (i + 1) s' (by omega) hs'
  simpa using key n 0 s (by omega) h0
theorem take_all {α : Type} {p : α → Prop} {l : List α} {i : Nat} (h : i < l.length) (hs : ∀ x ∈ l.take i, p x) (hx : p l[i]) : ∀ x ∈ l.take (i + 1), p x := by
  rw [List.take_succ_eq_append_getElem h]
  intro x hm
  rcases List.mem_append.1 hm with hm | hm
  · exact hs x hm
  · rw [List.mem_singleton.1 hm]
    exact hx
theorem set_done {α : Type} (E : Nat → α) (l : List α) (i : Nat) (h : i < l.length) : ((List.range i).map E ++ l.drop i).set i (E i) = (List.range (i + 1)).map E ++ l.drop (i + 1) := by
  rw [List.set_append_right _ _ (by simp), List.range_succ, List.map_append, List.append_assoc]
  congr 1
  rw [List.length_map, List.length_range, Nat.sub_self, List.drop_eq_getElem_cons h]
  rfl
theorem getD_set_self {α : Type} (l : List α) (i : Nat) (v d : α) (h : i < l.length) : (l.set i v).getD i d = v := by
  simp [List.getD_eq_getElem?_getD, h]
theorem all_ev {α : Type} {L : Nat → Int → Option Bool} (l : List α) (p : α → Bool) (b : Bool)
    (step : ∀ (i : Nat) (h : i < l.length), p l[i] = true → ∀ P, EvP (fun k => L k ((i : Int) + 1)) P → EvP (fun k => L k i) P)
    (stop : ∀ (i : Nat) (h : i < l.length), p l[i] = false → Ev (fun k => L k i) false)
    (fin : Ev (fun k => L k l.length) b) : Ev (fun k => L k 0) (l.all p && b) := by
  apply EvP.eq
  refine for_evp (L := fun k (_ : Unit) i => L k i) l.length (fun i _ => ∀ x ∈ l.take i, p x = true) ?_ ?_ () (by simp)
  · intro i _ hi hs K
    cases hp : p l[i] with
    | true => exact step i hi hp _ (K () (take_all hi hs hp))
    | false =>
      have e : l.all p = false := by
        rw [List.all_eq_false]
        exact ⟨l[i], List.getElem_mem hi, by simp [hp]⟩
      rw [e]
      exact EvP.of (stop i hi hp) rfl
  · intro _ hs
    have e : l.all p = true := by
      rw [List.all_eq_true]
      simpa using hs
    rw [e]
    exact EvP.of fin rfl
theorem bytes_at_ (s : ByteArray) (i : Nat) (h : i < s.data.toList.length) : bt s (i : Int) = ((s.data.toList[i]).toNat : Int) := by
  have h' : i < s.size := by simpa using h
  unfold bt
  rw [dif_pos (by simpa using h')]
  simp
  rfl
theorem size_len (s : ByteArray) : (s.size : Int) = (s.data.toList.length : Int) := by simp
theorem size_len' (s : ByteArray) : s.size = s.data.toList.length := by simp
end Go.Proofs.Ytpkcjkfkohmcfaa.EvK
end

section
namespace Go.Proofs.Ytpkcjkfkohmcfaa.LinesN
open Go.RowKit Go.Proofs.YtpkcjkfkohmcfaaW.PrintWords Go.Proofs.Ytpkcjkfkohmcfaa.XN Go.Proofs.Ytpkcjkfkohmcfaa.EvK
set_option linter.unusedVariables false
set_option linter.unusedSimpArgs false
def okByte (a b : Int) (c : UInt8) : Bool := decide (a ≤ (c.toNat : Int)) && decide ((c.toNat : Int) ≤ b)
def within (s : ByteArray) (a b : Int) : Bool := s.data.toList.all (okByte a b)
def lineOk (s : ByteArray) : Bool := within s 32 126 && decide ((s.size : Int) ≤ 100)
def repOk (l : List ByteArray) : Bool := l.all lineOk && decide ((l.length : Int) ≤ 200)
theorem bytesWithin_ev (s : ByteArray) (a b : Int) (h : s.size ≤ 1048576) : Ev (fun k => impl_bytesWithin.f k s a b) (within s a b) := by
  unfold impl_bytesWithin.f within
  rw [size_len']  at h
  have := all_ev (L := fun k i => impl_bytesWithin.l0 k s a b (s.size : Int) i) s.data.toList (okByte a b) true ?_ ?_ ?_
  · simpa using this
  · intro i hi hp P K
    simp only [okByte, Bool.and_eq_true, decide_eq_true_eq] at hp
    refine EvP.step (fun k => impl_bytesWithin.l0.eq_2 _ _ _ _ _ k) ?_
    simp only [size_len, if_pos (show (i : Int) < (s.data.toList.length : Int) by omega), if_pos (show (0 : Int) ≤ (i : Int) by omega), bytes_at_ s i hi, if_neg (show ¬ ((s.data.toList[i].toNat : Int) < a) by omega), if_neg (show ¬ ((s.data.toList[i].toNat : Int) > b) by omega), w64 (show -9223372036854775808 ≤ (i : Int) + 1 by omega) (by omega)]
    simpa only [size_len] using K
  · intro i hi hp
    simp only [okByte, Bool.and_eq_false_iff, decide_eq_false_iff_not] at hp
    refine Ev.step (fun k => impl_bytesWithin.l0.eq_2 _ _ _ _ _ k) ?_
    simp only [size_len, if_pos (show (i : Int) < (s.data.toList.length : Int) by omega), if_pos (show (0 : Int) ≤ (i : Int) by omega), bytes_at_ s i hi]
    by_cases h1 : (s.data.toList[i].toNat : Int) < a
    · simp only [if_pos h1]; exact Ev.now _
    · simp only [if_neg h1, if_pos (show (s.data.toList[i].toNat : Int) > b by omega)]; exact Ev.now _
  · refine Ev.step (fun k => impl_bytesWithin.l0.eq_2 _ _ _ _ _ k) ?_
    simp only [size_len, if_neg (show ¬ (s.data.toList.length : Int) < (s.data.toList.length : Int) by omega)]
    exact Ev.now _
theorem impl_line_ev (s : ByteArray) (h : s.size ≤ 1048576) : Ev (fun k => impl_lineValid.f k s) (lineOk s) := by
  unfold impl_lineValid.f lineOk
  by_cases h1 : (s.size : Int) ≤ 100
  · simp only [if_pos h1, h1, decide_true, Bool.and_true]
    exact Ev.bind (bytesWithin_ev s 32 126 h) (Ev.now _)
  · simp only [if_neg h1, h1, decide_false, Bool.and_false]
    exact Ev.now _
theorem spec_line_ev (s : ByteArray) (h : s.size ≤ 1048576) : Ev (fun k => spec_l30Line.f k s) (lineOk s) := by
  unfold spec_l30Line.f lineOk within
  rw [size_len']  at h
  refine all_ev (L := fun k i => spec_l30Line.l0 k s i) s.data.toList (okByte 32 126) (decide ((s.size : Int) ≤ 100)) ?_ ?_ ?_
  · intro i hi hp P K
    simp only [okByte, Bool.and_eq_true, decide_eq_true_eq] at hp
    refine EvP.step (fun k => spec_l30Line.l0.eq_2 _ _ k) ?_
    simp only [size_len, if_pos (show (i : Int) < (s.data.toList.length : Int) by omega), if_pos (show (0 : Int) ≤ (i : Int) by omega), bytes_at_ s i hi, if_neg (show ¬ ((s.data.toList[i].toNat : Int) < 32) by omega), if_neg (show ¬ ((s.data.toList[i].toNat : Int) > 126) by omega), w64 (show -9223372036854775808 ≤ (i : Int) + 1 by omega) (by omega)]
    exact K
  · intro i hi hp
    simp only [okByte, Bool.and_eq_false_iff, decide_eq_false_iff_not] at hp
    refine Ev.step (fun k => spec_l30Line.l0.eq_2 _ _ k) ?_
    simp only [size_len, if_pos (show (i : Int) < (s.data.toList.length : Int) by omega), if_pos (show (0 : Int) ≤ (i : Int) by omega), bytes_at_ s i hi]
    by_cases h1 : (s.data.toList[i].toNat : Int) < 32
    · simp only [if_pos h1]; exact Ev.now _
    · simp only [if_neg h1, if_pos (show (s.data.toList[i].toNat : Int) > 126 by omega)]; exact Ev.now _
  · refine Ev.step (fun k => spec_l30Line.l0.eq_2 _ _ k) ?_
    simp only [size_len, if_neg (show ¬ (s.data.toList.length : Int) < (s.data.toList.length : Int) by omega)]
    exact Ev.now _
theorem spec_rep_ev (l : List ByteArray) (hl : l.length ≤ 1048576) (hs : ∀ x ∈ l, x.size ≤ 1048576) : Ev (fun k => spec_l30Ok.f k l) (repOk l) := by
  unfold spec_l30Ok.f repOk
  refine all_ev (L := fun k i => spec_l30Ok.l0 k l i) l lineOk _ ?_ ?_ ?_
  · intro i hi hp P K
    have e : rdOf ByteArray.empty l (i : Int) = l[i] := getD_at l ByteArray.empty i hi
    refine EvP.step (fun k => spec_l30Ok.l0.eq_2 _ _ k) ?_
    simp only [if_pos (show (i : Int) < (l.length : Int) by omega), if_pos (show (0 : Int) ≤ (i : Int) by omega), e, w64 (show -9223372036854775808 ≤ (i : Int) + 1 by omega) (by omega)]
    refine EvP.bind (spec_line_ev l[i] (hs _ (List.getElem_mem hi))) ?_
    simp only [hp, if_true]
    exact K
  · intro i hi hp
    have e : rdOf ByteArray.empty l (i : Int) = l[i] := getD_at l ByteArray.empty i hi
    refine Ev.step (fun k => spec_l30Ok.l0.eq_2 _ _ k) ?_
    simp only [if_pos (show (i : Int) < (l.length : Int) by omega), if_pos (show (0 : Int) ≤ (i : Int) by omega), e]
    refine Ev.bind (spec_line_ev l[i] (hs _ (List.getElem_mem hi))) ?_
    simp only [hp, Bool.false_eq_true, if_false]
    exact Ev.now _
  · refine Ev.step (fun k => spec_l30Ok.l0.eq_2 _ _ k) ?_
    simp only [if_neg (show ¬ (l.length : Int) < (l.length : Int) by omega)]
    exact Ev.now _
theorem impl_rep_ev (l : List ByteArray) (hl : l.length ≤ 1048576) (hs : ∀ x ∈ l, x.size ≤ 1048576) : Ev (fun k => impl_ValidReport.f k l) (repOk l) := by
  unfold impl_ValidReport.f repOk
  by_cases h1 : (l.length : Int) > 200
  · simp only [if_pos h1, show ¬ (l.length : Int) ≤ 200 by omega, decide_false, Bool.and_false]
    exact Ev.now _
  simp only [if_neg h1, show (l.length : Int) ≤ 200 by omega, decide_true]
  refine all_ev (L := fun k i => impl_ValidReport.l0 k l (l.length : Int) i) l lineOk true ?_ ?_ ?_
  · intro i hi hp P K
    have e : rdOf ByteArray.empty l (i : Int) = l[i] := getD_at l ByteArray.empty i hi
    refine EvP.step (fun k => impl_ValidReport.l0.eq_2 _ _ _ k) ?_
    simp only [if_pos (show (i : Int) < (l.length : Int) by omega), if_pos (show (0 : Int) ≤ (i : Int) by omega), e, w64 (show -9223372036854775808 ≤ (i : Int) + 1 by omega) (by omega)]
    refine EvP.bind (impl_line_ev l[i] (hs _ (List.getElem_mem hi))) ?_
    simp only [hp, if_true]
    exact K
  · intro i hi hp
    have e : rdOf ByteArray.empty l (i : Int) = l[i] := getD_at l ByteArray.empty i hi
    refine Ev.step (fun k => impl_ValidReport.l0.eq_2 _ _ _ k) ?_
    simp only [if_pos (show (i : Int) < (l.length : Int) by omega), if_pos (show (0 : Int) ≤ (i : Int) by omega), e]
    refine Ev.bind (impl_line_ev l[i] (hs _ (List.getElem_mem hi))) ?_
    simp only [hp, Bool.false_eq_true, if_false]
    exact Ev.now _
  · refine Ev.step (fun k => impl_ValidReport.l0.eq_2 _ _ _ k) ?_
    simp only [if_neg (show ¬ (l.length : Int) < (l.length : Int) by omega)]
    exact Ev.now _
end Go.Proofs.Ytpkcjkfkohmcfaa.LinesN
end

section
namespace Go.Proofs.Ytpkcjkfkohmcfaa.SN
open Go.RowKit Go.Proofs.YtpkcjkfkohmcfaaW.PrintWords Go.Proofs.Ytpkcjkfkohmcfaa.XN Go.Proofs.Ytpkcjkfkohmcfaa.EvK
set_option linter.unusedVariables false
set_option linter.unusedSimpArgs false
theorem eqStringS_ev (l : List ByteArray) (hl : l.length ≤ 1048576) : Ev (fun k => laws_eqStringS.f k l l) true := by
  apply EvP.eq
  unfold laws_eqStringS.f
  simp only [if_true]
  refine for_evp (L := fun k (s : Unit) i => laws_eqStringS.l0 k l l i) l.length (fun i s => True) ?_ ?_ () trivial
  · rintro i s hi - K
    refine EvP.step (fun k => laws_eqStringS.l0.eq_2 _ _ _ k) ?_
    simp only [if_pos (show (i : Int) < (l.length : Int) by omega), if_pos (show (0 : Int) ≤ (i : Int) by omega), if_true, w64 (show -9223372036854775808 ≤ (i : Int) + 1 by omega) (by omega)]
    exact K () trivial
  · rintro s -
    refine EvP.step (fun k => laws_eqStringS.l0.eq_2 _ _ _ k) ?_
    simp only [if_neg (show ¬ (l.length : Int) < (l.length : Int) by omega)]
    exact EvP.now rfl
end Go.Proofs.Ytpkcjkfkohmcfaa.SN
end

section
namespace Go.Proofs.Ytpkcjkfkohmcfaa.SN
open Go.RowKit Go.Proofs.YtpkcjkfkohmcfaaW.PrintWords Go.Proofs.Ytpkcjkfkohmcfaa.XN Go.Proofs.Ytpkcjkfkohmcfaa.EvK
set_option linter.unusedVariables false
set_option linter.unusedSimpArgs false
theorem markText_ev (c : Int) (h0 : 0 ≤ c) (h1 : c ≤ 4611686018427387904) : ∃ s : ByteArray, Ev (fun k => laws_markText.f k c) s := by
  unfold laws_markText.f
  by_cases hc : c ≤ 0
  · simp only [if_pos hc]
    exact ⟨_, Ev.now _⟩
  simp only [if_neg hc]
  have key : ∀ (d : Nat) (x : Int) (y : ByteArray), 0 ≤ x → x ≤ d → y.size + d ≤ 9223372036854775000 → ∃ s : ByteArray, Ev (fun k => laws_markText.l0 k x y) s := by
    intro d
    induction d using Nat.strongRecOn with
    | _ d ih =>
    intro x y hx hd hy
    by_cases hp : x > 0
    · have hz : (strOfNums [(wrap64 (48 + Int.tmod x 10)) % 256]).size = 1 := rfl
      have hd' : Int.tdiv x 10 = x / 10 := Int.tdiv_eq_ediv_of_nonneg hx
      have hw : wrap64 (Int.tdiv x 10) = x / 10 := by rw [hd', w64 (by omega) (by omega)]
      obtain ⟨s, hs⟩ := ih (d - 1) (by omega) (x / 10) (strOfNums [(wrap64 (48 + Int.tmod x 10)) % 256] ++ y) (by omega) (by omega) (by rw [ByteArray.size_append, hz]; omega)
      refine ⟨s, Ev.step (fun k => laws_markText.l0.eq_2 _ _ k) ?_⟩
      simp only [if_pos hp, Option.bind_some, hz, if_pos (show 1 + y.size ≤ 9223372036854775807 by omega), hw]
      exact hs
    · refine ⟨(⟨#[109]⟩ : ByteArray) ++ y, Ev.step (fun k => laws_markText.l0.eq_2 _ _ k) ?_⟩
      simp only [if_neg hp, if_pos (show 1 + y.size ≤ 9223372036854775807 by omega)]
      exact Ev.now _
  exact key c.toNat c ⟨#[]⟩ h0 (by omega) (by show 0 + _ ≤ _; omega)
end Go.Proofs.Ytpkcjkfkohmcfaa.SN
end

section
namespace Go.Proofs.Ytpkcjkfkohmcfaa.SN
open Go.RowKit Go.Proofs.YtpkcjkfkohmcfaaW.PrintWords Go.Proofs.Ytpkcjkfkohmcfaa.XN Go.Proofs.Ytpkcjkfkohmcfaa.EvK
set_option linter.unusedVariables false
set_option linter.unusedSimpArgs false
theorem markStringS_ev (l : List ByteArray) (c : Int) (h0 : 0 ≤ c) (h1 : c + (l.length : Int) ≤ 4611686018427387904) :
    ∃ y : List ByteArray, Ev (fun k => laws_markStringS.f k l c) (c + (l.length : Int), y) ∧ Ev (fun k => laws_heldStringS.f k y c) (c + (l.length : Int)) ∧ y.length = l.length := by
  obtain ⟨T, hT⟩ : ∃ T : Int → ByteArray, ∀ x : Int, 0 ≤ x → x ≤ 4611686018427387904 → Ev (fun k => laws_markText.f k x) (T x) := ⟨fun x => if h : 0 ≤ x ∧ x ≤ 4611686018427387904 then Classical.choose (markText_ev x h.1 h.2) else ByteArray.empty, fun x h h' => by simp only [h, h', and_self, dif_pos]; exact Classical.choose_spec (markText_ev x h h')⟩
  let E : Nat → ByteArray := fun j => T (c + (j : Int))
  have hset : ∀ (i : Nat) (h : i < l.length), ((List.range i).map E ++ l.drop i).set i (E i) = (List.range (i + 1)).map E ++ l.drop (i + 1) := fun i h => set_done E l i h
  have hlen : ∀ (i : Nat), i ≤ l.length → ((List.range i).map E ++ l.drop i).length = l.length := by intro i h; simp; omega
  refine ⟨(List.range l.length).map E, EvP.eq ?_, EvP.eq ?_, by simp⟩
  · unfold laws_markStringS.f
    refine for_evp (L := fun k (s : List ByteArray × Int) i => laws_markStringS.l0 k s.1 s.2 i) l.length (fun i s => s = ((List.range i).map E ++ l.drop i, c + (i : Int))) ?_ ?_ (l, c) (by simp)
    · rintro i s hi rfl K
      refine EvP.step (fun k => laws_markStringS.l0.eq_2 _ _ _ k) ?_
      simp only [hlen i (by omega), if_pos (show (i : Int) < (l.length : Int) by omega), if_pos (show (0 : Int) ≤ (i : Int) by omega), Option.bind_some, w64 (show -9223372036854775808 ≤ (i : Int) + 1 by omega) (by omega), w64 (show -9223372036854775808 ≤ c + (i : Int) + 1 by omega) (by omega), Int.toNat_natCast]
      refine EvP.bind (hT (c + (i : Int)) (by omega) (by omega)) ?_
      refine K (_, _) ?_
      rw [← hset i hi, Prod.mk.injEq]
      refine ⟨?_, by push_cast; omega⟩
      have g1 := hlen i (by omega)
      generalize (List.range i).map E ++ l.drop i = L at g1
      have g2 : i < L.length := by omega
      first | rfl | (simp [E, getD_set_self, g2])
    · rintro s rfl
      refine EvP.step (fun k => laws_markStringS.l0.eq_2 _ _ _ k) ?_
      simp only [hlen l.length (Nat.le_refl _), if_neg (show ¬ (l.length : Int) < (l.length : Int) by omega)]
      exact EvP.now (by simp)
  · unfold laws_heldStringS.f
    have hl2 : ((List.range l.length).map E).length = l.length := by simp
    refine for_evp (L := fun k (s : Int) i => laws_heldStringS.l0 k ((List.range l.length).map E) s i) l.length (fun i s => s = c + (i : Int)) ?_ ?_ c (by simp)
    · rintro i s hi rfl K
      have e : rdOf ByteArray.empty ((List.range l.length).map E) (i : Int) = E i := by
        rw [show rdOf ByteArray.empty ((List.range l.length).map E) (i : Int) = ((List.range l.length).map E)[i]'(by simpa using hi) from getD_at _ ByteArray.empty i (by simpa using hi)]; simp
      refine EvP.step (fun k => laws_heldStringS.l0.eq_2 _ _ _ k) ?_
      simp only [hl2, if_pos (show (i : Int) < (l.length : Int) by omega), if_pos (show (0 : Int) ≤ (i : Int) by omega), e, E, if_true, w64 (show -9223372036854775808 ≤ (i : Int) + 1 by omega) (by omega), w64 (show -9223372036854775808 ≤ c + (i : Int) + 1 by omega) (by omega)]
      refine EvP.bind (hT (c + (i : Int)) (by omega) (by omega)) ?_
      simp only [if_true]
      exact K _ (by push_cast; omega)
    · rintro s rfl
      refine EvP.step (fun k => laws_heldStringS.l0.eq_2 _ _ _ k) ?_
      simp only [hl2, if_neg (show ¬ (l.length : Int) < (l.length : Int) by omega)]
      exact EvP.now rfl
end Go.Proofs.Ytpkcjkfkohmcfaa.SN
end

section
namespace Go.Proofs.Ytpkcjkfkohmcfaa.PPages
open Go.RowKit Go.Proofs.YtpkcjkfkohmcfaaW.PrintWords Go.Proofs.YtpkcjkfkohmcfaaW.PrintMore Go.Proofs.Ytpkcjkfkohmcfaa.XN Go.Proofs.Ytpkcjkfkohmcfaa.EvK Go.Proofs.Ytpkcjkfkohmcfaa.LinesN Go.Proofs.Ytpkcjkfkohmcfaa.SN
set_option linter.unusedVariables false
set_option linter.unusedSimpArgs false
theorem rdL (rows : List (List ByteArray)) (q : Nat) (hq : q < rows.length) : rd_L1 rows (q : Int) = rows[q] := by
  unfold rd_L1
  simp [List.getD_eq_getElem?_getD, List.getElem?_eq_getElem hq]
theorem eq_ev (l : List (List ByteArray)) (h1 : l.length ≤ 1048576) (h2 : ∀ r ∈ l, r.length ≤ 1048576) : Ev (fun k => laws_eqStringSS.f k l l) true := by
  unfold laws_eqStringSS.f
  simp only [if_true]
  have := all_ev (L := fun k i => laws_eqStringSS.l0 k l l i) l (fun _ => true) true ?_ ?_ ?_
  · rwa [show (l.all (fun _ => true) && true) = true by simp] at this
  · intro i hi _ P K
    refine EvP.step (fun k => laws_eqStringSS.l0.eq_2 _ _ _ k) ?_
    simp only [if_pos (show (i : Int) < (l.length : Int) by omega), if_pos (show (0 : Int) ≤ (i : Int) by omega), rdL l i hi]
    refine EvP.bind (eqStringS_ev l[i] (h2 _ (List.getElem_mem hi))) ?_
    simp only [if_true, w64 (show -9223372036854775808 ≤ (i : Int) + 1 by omega) (by omega)]
    exact K
  · intro i hi h
    exact absurd h (by simp)
  · refine Ev.step (fun k => laws_eqStringSS.l0.eq_2 _ _ _ k) ?_
    simp only [if_neg (show ¬ (l.length : Int) < (l.length : Int) by omega)]
    exact Ev.now _
theorem mark_held (rest : List (List ByteArray)) : ∀ (pre : List (List ByteArray)) (a : Int), (∀ r ∈ rest, r.length ≤ 1048576) → pre.length + rest.length ≤ 1048576 → 0 ≤ a → a + (rest.length : Int) * 1048576 ≤ 4611686018427387904 →
    ∃ (c2 : Int) (ys : List (List ByteArray)), Ev (fun k => laws_markStringSS.l0 k (pre ++ rest) a (pre.length : Int)) (c2, pre ++ ys) ∧ (∀ pre' : List (List ByteArray), pre'.length = pre.length → Ev (fun k => laws_heldStringSS.l0 k (pre' ++ ys) a (pre.length : Int)) c2) ∧ 0 ≤ c2 := by
  induction rest with
  | nil =>
    intro pre a _ _ ha _
    refine ⟨a, [], ?_, ?_, ha⟩
    · refine Ev.step (fun k => laws_markStringSS.l0.eq_2 _ _ _ k) ?_
      simp only [List.append_nil, if_neg (show ¬ (pre.length : Int) < (pre.length : Int) by omega)]
      exact Ev.now _
    · intro pre' hp
      refine Ev.step (fun k => laws_heldStringSS.l0.eq_2 _ _ _ k) ?_
      simp only [List.append_nil, hp, if_neg (show ¬ (pre.length : Int) < (pre.length : Int) by omega)]
      exact Ev.now _
  | cons r rest ih =>
    intro pre a hr hl ha hb
    simp only [List.length_cons] at hl hb
    have h3 := hr r (by simp)
    obtain ⟨y, hy, hy2, _⟩ := markStringS_ev r a ha (by omega)
    obtain ⟨c2, ys, z1, z2, z3⟩ := ih (pre ++ [y]) (a + (r.length : Int)) (fun x hx => hr x (by simp [hx])) (by simp; omega) (by omega) (by omega)
    have el : ((pre ++ [y]).length : Int) = (pre.length : Int) + 1 := by simp
    rw [el] at z1 z2
    refine ⟨c2, y :: ys, ?_, ?_, z3⟩
    · refine Ev.step (fun k => laws_markStringSS.l0.eq_2 _ _ _ k) ?_
      have hg : (pre ++ r :: rest).getD pre.length [] = r := by simp [List.getD_eq_getElem?_getD]
      simp only [if_pos (show (pre.length : Int) < ((pre ++ r :: rest).length : Int) by simp; omega), if_pos (show (0 : Int) ≤ (pre.length : Int) by omega), Int.toNat_natCast, hg]
      refine Ev.bind hy ?_
      simp only [w64 (show -9223372036854775808 ≤ (pre.length : Int) + 1 by omega) (by omega)]
      rw [show (pre ++ r :: rest).set pre.length y = (pre ++ [y]) ++ rest by simp]
      simpa using z1
    · intro pre' hp
      refine Ev.step (fun k => laws_heldStringSS.l0.eq_2 _ _ _ k) ?_
      have hg : rd_L1 (pre' ++ y :: ys) (pre.length : Int) = y := by rw [rdL _ _ (by simp; omega)]; simp [← hp]
      simp only [if_pos (show (pre.length : Int) < ((pre' ++ y :: ys).length : Int) by simp; omega), if_pos (show (0 : Int) ≤ (pre.length : Int) by omega), hg]
      refine Ev.bind hy2 ?_
      simp only [if_neg (show ¬ (a + (r.length : Int) < 0) by omega), w64 (show -9223372036854775808 ≤ (pre.length : Int) + 1 by omega) (by omega)]
      have := z2 (pre' ++ [y]) (by simp [hp])
      simpa using this
theorem marks (l : List (List ByteArray)) (h1 : l.length ≤ 1048576) (h2 : ∀ r ∈ l, r.length ≤ 1048576) : ∃ (c2 : Int) (ys : List (List ByteArray)), Ev (fun k => laws_markStringSS.f k l 1) (c2, ys) ∧ Ev (fun k => laws_heldStringSS.f k ys 1) c2 ∧ 0 ≤ c2 := by
  obtain ⟨c2, ys, z1, z2, z3⟩ := mark_held l [] 1 h2 (by simpa using h1) (by omega) (by omega)
  exact ⟨c2, ys, by simpa [laws_markStringSS.f] using z1, by simpa [laws_heldStringSS.f] using z2 [] rfl, z3⟩
abbrev page := impl_PagesOf.page
abbrev pages := impl_PagesOf.pages
theorem page_len (l : List ByteArray) (c : Nat) (hd : ByteArray) (j : Nat) : (page l c hd j).length ≤ l.length + 1 := by
  simp only [page, impl_PagesOf.page, List.length_cons, List.length_take, List.length_drop]; omega
theorem pages_len (l : List ByteArray) (c : Nat) (hd : ByteArray) (hc : 0 < c) : (pages l c hd).length ≤ l.length := by
  simp only [pages, impl_PagesOf.pages, List.length_map, List.length_range]
  cases hl : l.length with
  | zero => rw [Nat.zero_add, Nat.div_eq_of_lt (by omega)]; omega
  | succ n =>
    have : (n + 1 + (c - 1)) / c ≤ n + 1 := by
      refine Nat.div_le_of_le_mul ?_
      have h1 : n * 1 ≤ n * c := Nat.mul_le_mul_left _ hc
      have h2 : c * (n + 1) = n * c + c := by rw [Nat.mul_comm, Nat.succ_mul]
      omega
    exact this
theorem pages_rows (l : List ByteArray) (c : Nat) (hd : ByteArray) : ∀ r ∈ pages l c hd, r.length ≤ l.length + 1 := by
  intro r hr
  simp only [pages, impl_PagesOf.pages, List.mem_map] at hr
  obtain ⟨j, _, rfl⟩ := hr
  exact page_len l c hd j
def Made (l : List ByteArray) (c : Nat) (hd : ByteArray) (i : Nat) (s : List (List ByteArray)) : Prop :=
  ∃ q, (i = q * c ∧ s = (List.range q).map (page l c hd)) ∨ (q * c < i ∧ i < q * c + c ∧ s = (List.range q).map (page l c hd) ++ [hd :: (l.drop (q * c)).take (i - q * c)])
theorem made_end (l : List ByteArray) (c : Nat) (hd : ByteArray) (hc : 0 < c) (s : List (List ByteArray)) (h : Made l c hd l.length s) : s = pages l c hd := by
  obtain ⟨q, ⟨h1, rfl⟩ | ⟨h1, h2, rfl⟩⟩ := h
  · simp only [pages, impl_PagesOf.pages]
    congr 2
    refine (Nat.div_eq_of_lt_le ?_ ?_).symm
    · omega
    · rw [Nat.succ_mul]; omega
  · have e : (l.length + (c - 1)) / c = q + 1 := Nat.div_eq_of_lt_le (by rw [Nat.succ_mul]; omega) (by rw [Nat.succ_mul, Nat.succ_mul]; omega)
    simp only [pages, impl_PagesOf.pages]
    rw [e, List.range_succ, List.map_append]
    simp only [List.map_cons, List.map_nil, impl_PagesOf.page]
    congr 3
    rw [List.take_of_length_le (by simp), List.take_of_length_le (by simp; omega)]
theorem take_next (l : List ByteArray) (q n : Nat) (h : q + n < l.length) : (l.drop q).take (n + 1) = (l.drop q).take n ++ [l[q + n]] := by
  rw [List.take_succ_eq_append_getElem (by simp; omega), List.getElem_drop]
theorem made_next (l : List ByteArray) (c : Nat) (hd : ByteArray) (q n : Nat) (hn : n < c) (hl : q * c + n < l.length) :
    Made l c hd (q * c + n + 1) ((List.range q).map (page l c hd) ++ [(hd :: (l.drop (q * c)).take n) ++ [l[q * c + n]]]) := by
  have e : (hd :: (l.drop (q * c)).take n) ++ [l[q * c + n]] = hd :: (l.drop (q * c)).take (n + 1) := by rw [take_next l (q * c) n hl]; rfl
  rw [e]
  by_cases h : n + 1 = c
  · refine ⟨q + 1, .inl ⟨by rw [Nat.succ_mul]; omega, ?_⟩⟩
    rw [List.range_succ, List.map_append, h]
    rfl
  · exact ⟨q, .inr ⟨by omega, by omega, by rw [show q * c + n + 1 - q * c = n + 1 by omega]⟩⟩
theorem set_last (A : List (List ByteArray)) (x y : List ByteArray) (m : Nat) (hm : m = A.length) : (A ++ [x]).set m y = A ++ [y] := by
  subst hm
  simp
theorem loop_ev (l : List ByteArray) (h : Int) (hd : ByteArray) (c : Nat) (hc : 0 < c) (hh : h = (c : Int) + 1) (hl : l.length ≤ 200) : Ev (fun k => spec_PagesOf.l0 k l h hd [] 0) (pages l c hd, 0) := by
  apply EvP.eq
  refine for_evp (L := fun k (s : List (List ByteArray)) i => spec_PagesOf.l0 k l h hd s i) l.length (fun i s => s.length ≤ i ∧ Made l c hd i s) ?_ ?_ [] ⟨by simp, 0, .inl ⟨by simp, rfl⟩⟩
  · rintro i s hi ⟨hsl, q, hq⟩ K
    have e : rdOf ByteArray.empty l (i : Int) = l[i] := rdOf_at l ByteArray.empty i hi
    refine EvP.step (fun k => spec_PagesOf.l0.eq_2 _ _ _ _ _ k) ?_
    have wa : wrap64 ((s.length : Int) + 1) = (s.length : Int) + 1 := w64 (by omega) (by omega)
    have wb : wrap64 ((s.length : Int) + 1 - 1) = (s.length : Int) := by rw [w64 (by omega) (by omega)]; omega
    have wc : wrap64 ((i : Int) + 1) = ((i : Int) + 1) := w64 (by omega) (by omega)
    have fresh : i = q * c → s = (List.range q).map (page l c hd) → EvP (fun k => spec_PagesOf.l0 k l h hd ((s ++ [[hd]]).set s.length ([hd] ++ [l[i]])) ((i : Int) + 1)) (· = (pages l c hd, 0)) := by
      intro h1 h2
      rw [set_last s [hd] _ _ rfl]
      refine K _ ⟨by simp; omega, ?_⟩
      have := made_next l c hd q 0 hc (by omega)
      simp only [Nat.add_zero, List.take_zero, ← h1, ← h2] at this
      exact this
    rcases hq with ⟨h1, h2⟩ | ⟨h1, h2, h3⟩
    · have hsq : s.length = q := by rw [h2]; simp
      by_cases hz : s.length = 0
      · have g : rd_L1 (s ++ [[hd]]) (s.length : Int) = [hd] := by rw [rdL _ _ (by simp)]; simp
        simp only [if_pos (show (i : Int) < (l.length : Int) by omega), if_pos (show (s.length : Int) = 0 by omega), if_pos (show s.length < 5864062014805 by omega), Option.bind_some, wa, wb, wc, if_pos (show (0 : Int) ≤ (s.length : Int) by omega), if_pos (show (s.length : Int) < ((s ++ [[hd]]).length : Int) by simp; omega), if_pos (show (0 : Int) ≤ (i : Int) by omega), g, if_pos (show ([hd] : List ByteArray).length < 8796093022208 by simp), Int.toNat_natCast, e]
        exact fresh h1 h2
      · have wd : wrap64 ((s.length : Int) - 1) = ((s.length - 1 : Nat) : Int) := by rw [w64 (by omega) (by omega)]; omega
        have g1 : (rd_L1 s ((s.length - 1 : Nat) : Int)).length = c + 1 := by
          rw [rdL _ _ (by omega)]
          have : s[s.length - 1]'(by omega) = page l c hd (s.length - 1) := by simp [h2]
          rw [this]
          have h5 : (s.length - 1) * c + c = i := by
            rw [h1, hsq]
            cases q with
            | zero => omega
            | succ q => rw [Nat.add_sub_cancel, Nat.succ_mul]
          simp only [page, impl_PagesOf.page, List.length_cons, List.length_take, List.length_drop]
          omega
        have g : rd_L1 (s ++ [[hd]]) (s.length : Int) = [hd] := by rw [rdL _ _ (by simp)]; simp
        simp only [if_pos (show (i : Int) < (l.length : Int) by omega), if_neg (show ¬ (s.length : Int) = 0 by omega), wd, if_pos (show (0 : Int) ≤ ((s.length - 1 : Nat) : Int) by omega), if_pos (show ((s.length - 1 : Nat) : Int) < (s.length : Int) by omega), if_pos (show (((rd_L1 s ((s.length - 1 : Nat) : Int)).length : Nat) : Int) = h by rw [g1]; omega), if_pos (show s.length < 5864062014805 by omega), Option.bind_some, wa, wb, wc, if_pos (show (0 : Int) ≤ (s.length : Int) by omega), if_pos (show (s.length : Int) < ((s ++ [[hd]]).length : Int) by simp; omega), if_pos (show (0 : Int) ≤ (i : Int) by omega), g, if_pos (show ([hd] : List ByteArray).length < 8796093022208 by simp), Int.toNat_natCast, e]
        exact fresh h1 h2
    · have hsq : s.length = q + 1 := by rw [h3]; simp
      have wd : wrap64 ((s.length : Int) - 1) = (q : Int) := by rw [w64 (by omega) (by omega)]; omega
      have g1 : rd_L1 s (q : Int) = hd :: (l.drop (q * c)).take (i - q * c) := by
        rw [rdL _ _ (by omega)]
        simp [h3]
      have g2 : (hd :: (l.drop (q * c)).take (i - q * c)).length = i - q * c + 1 := by
        simp only [List.length_cons, List.length_take, List.length_drop]; omega
      simp only [if_pos (show (i : Int) < (l.length : Int) by omega), if_neg (show ¬ (s.length : Int) = 0 by omega), wd, if_pos (show (0 : Int) ≤ (q : Int) by omega), if_pos (show (q : Int) < (s.length : Int) by omega), g1, if_neg (show ¬ ((((hd :: (l.drop (q * c)).take (i - q * c)).length : Nat) : Int) = h) by rw [g2]; omega), if_pos (show (0 : Int) ≤ (i : Int) by omega), if_pos (show (hd :: (l.drop (q * c)).take (i - q * c)).length < 8796093022208 by rw [g2]; omega), Int.toNat_natCast, e, wc]
      refine K _ ⟨by rw [List.length_set]; omega, ?_⟩
      rw [h3, set_last _ _ _ q (by simp)]
      have := made_next l c hd q (i - q * c) (by omega) (by omega)
      have e2 : q * c + (i - q * c) = i := by omega
      simp only [e2] at this
      exact this
  · rintro s ⟨_, hs⟩
    refine EvP.step (fun k => spec_PagesOf.l0.eq_2 _ _ _ _ _ k) ?_
    simp only [if_neg (show ¬ (l.length : Int) < (l.length : Int) by omega)]
    rw [made_end l c hd hc s hs]
    exact EvP.now rfl
def pagesOf (l : List ByteArray) (h : Int) (hd : ByteArray) : List (List ByteArray) × Int :=
  if repOk l = true then (if 2 ≤ h ∧ h ≤ 200 then (if lineOk hd = true then (pages l (h - 1).toNat hd, 0) else ([], 2)) else ([], 2)) else ([], 1)
theorem impl_ev (l : List ByteArray) (h : Int) (hd : ByteArray) (hl : l.length ≤ 1048576) (hs : ∀ x ∈ l, x.size ≤ 1048576) (hh : hd.size ≤ 1048576) : Ev (fun k => impl_PagesOf.f k l h hd) (pagesOf l h hd) := by
  unfold impl_PagesOf.f pagesOf
  refine Ev.bind (impl_rep_ev l hl hs) ?_
  cases hr : repOk l with
  | false => exact Ev.now _
  | true =>
    have hl2 : l.length ≤ 200 := by
      simp only [repOk, Bool.and_eq_true, decide_eq_true_eq] at hr
      omega
    have hw : impl_within.f h 2 200 = some (decide (2 ≤ h ∧ h ≤ 200)) := by
      unfold impl_within.f
      by_cases h1 : h ≥ 2
      · rw [if_pos h1]; congr 1; simp; omega
      · rw [if_neg h1, decide_eq_false (by omega)]
    simp only [if_true, hw, Option.bind_some]
    by_cases hb : 2 ≤ h ∧ h ≤ 200
    · rw [decide_eq_true hb]
      simp only [if_true, if_pos hb]
      refine Ev.bind (impl_line_ev hd hh) ?_
      cases lineOk hd with
      | false => exact Ev.now _
      | true =>
        simp only [if_true]
        rw [if_pos (show l.length ≤ 100000 ∧ 2 ≤ h ∧ h ≤ 200 from ⟨by omega, hb⟩)]
        exact Ev.now _
    · rw [decide_eq_false hb]
      simp only [Bool.false_eq_true, if_false, if_neg hb]
      exact Ev.now _
theorem spec_ev (l : List ByteArray) (h : Int) (hd : ByteArray) (hl : l.length ≤ 1048576) (hs : ∀ x ∈ l, x.size ≤ 1048576) (hh : hd.size ≤ 1048576) : Ev (fun k => spec_PagesOf.f k l h hd) (pagesOf l h hd) := by
  unfold spec_PagesOf.f pagesOf
  refine Ev.bind (spec_rep_ev l hl hs) ?_
  cases hr : repOk l with
  | false => exact Ev.now _
  | true =>
    have hl2 : l.length ≤ 200 := by
      simp only [repOk, Bool.and_eq_true, decide_eq_true_eq] at hr
      omega
    have hw : spec_l00In.f h 2 200 = some (decide (2 ≤ h ∧ h ≤ 200)) := by
      unfold spec_l00In.f
      by_cases h1 : h ≥ 2
      · rw [if_pos h1]; congr 1; simp; omega
      · rw [if_neg h1, decide_eq_false (by omega)]
    simp only [if_true, hw, Option.bind_some]
    by_cases hb : 2 ≤ h ∧ h ≤ 200
    · rw [decide_eq_true hb]
      simp only [if_true, if_pos hb]
      refine Ev.bind (spec_line_ev hd hh) ?_
      refine Ev.step (fun k => spec_PagesOf.j0.eq_2 _ _ _ _ k) ?_
      cases lineOk hd with
      | false => exact Ev.now _
      | true =>
        simp only [Bool.not_true, Bool.false_eq_true, if_false, if_true]
        exact loop_ev l h hd (h - 1).toNat (by omega) (by omega) hl2
    · rw [decide_eq_false hb]
      simp only [Bool.false_eq_true, if_false, if_neg hb]
      refine Ev.step (fun k => spec_PagesOf.j0.eq_2 _ _ _ _ k) ?_
      simp only [if_true]
      exact Ev.now _
theorem of_small (l : List ByteArray) (h : Int) (hd : ByteArray) : (pagesOf l h hd).1.length ≤ 1048576 ∧ ∀ r ∈ (pagesOf l h hd).1, r.length ≤ 1048576 := by
  unfold pagesOf
  by_cases hr : repOk l = true
  · have hl2 : l.length ≤ 200 := by
      simp only [repOk, Bool.and_eq_true, decide_eq_true_eq] at hr
      omega
    rw [if_pos hr]
    split
    · split
      · have := pages_len l (h - 1).toNat hd (by omega)
        exact ⟨by show (pages _ _ _).length ≤ _; omega, fun r hr => by have := pages_rows l (h - 1).toNat hd r hr; omega⟩
      · simp
    · simp
  · rw [if_neg hr]
    simp
end Go.Proofs.Ytpkcjkfkohmcfaa.PPages
end

section
namespace Go.Proofs.Ytpkcjkfkohmcfaa.SN
open Go.RowKit Go.Proofs.YtpkcjkfkohmcfaaW.PrintWords Go.Proofs.Ytpkcjkfkohmcfaa.XN Go.Proofs.Ytpkcjkfkohmcfaa.EvK
set_option linter.unusedVariables false
set_option linter.unusedSimpArgs false
theorem szStringS_ev (l : List ByteArray) (left : Int) (h0 : 0 ≤ left) (h1 : left ≤ 1048576) (hq : (l.length ≤ maxLen ∧ ∀ y1 ∈ l, y1.size ≤ maxLen)) : EvP (fun k => laws_szStringS.f k l left) (fun t => t ≤ left ∧ (0 ≤ t → l.length ≤ 1048576 ∧ ∀ x ∈ l, x.size ≤ 1048576)) := by
  obtain ⟨hl, hq⟩ := hq
  unfold maxLen at hl
  unfold laws_szStringS.f
  rw [w64 (by omega) (by omega)]
  by_cases hc : left - (l.length : Int) < 0
  · simp only [if_pos hc]
    exact EvP.now ⟨by omega, by omega⟩
  simp only [if_neg hc]
  refine for_evp (L := fun k (s : Int) i => laws_szStringS.l0 k l s i) l.length (fun i s => 0 ≤ s ∧ s ≤ left - (l.length : Int) ∧ ∀ x ∈ l.take i, x.size ≤ 1048576) ?_ ?_ _ ⟨by omega, by omega, by simp⟩
  · rintro i s hi ⟨hs0, hs1, hs⟩ K
    have e : rdOf ByteArray.empty l (i : Int) = l[i] := getD_at l ByteArray.empty i hi
    refine EvP.step (fun k => laws_szStringS.l0.eq_2 _ _ _ k) ?_
    have hz := hq _ (List.getElem_mem hi)
    unfold maxLen at hz
    simp only [if_pos (show (i : Int) < (l.length : Int) by omega), if_pos (show (0 : Int) ≤ (i : Int) by omega), e, w64 (show -9223372036854775808 ≤ (i : Int) + 1 by omega) (by omega), w64 (show -9223372036854775808 ≤ s - (l[i].size : Int) by omega) (by omega)]
    by_cases hn : s - (l[i].size : Int) < 0
    · simp only [if_pos hn]
      exact EvP.now ⟨by omega, by omega⟩
    · simp only [if_neg hn]
      exact K _ ⟨by omega, by omega, take_all hi hs (by omega)⟩
  · rintro s ⟨hs0, hs1, hs⟩
    refine EvP.step (fun k => laws_szStringS.l0.eq_2 _ _ _ k) ?_
    simp only [if_neg (show ¬ (l.length : Int) < (l.length : Int) by omega)]
    exact EvP.now ⟨by omega, fun _ => ⟨by omega, by simpa using hs⟩⟩
end Go.Proofs.Ytpkcjkfkohmcfaa.SN
end

section
namespace Go.Proofs.Ytpkcjkfkohmcfaa.SN
open Go.RowKit Go.Proofs.YtpkcjkfkohmcfaaW.PrintWords Go.Proofs.Ytpkcjkfkohmcfaa.XN Go.Proofs.Ytpkcjkfkohmcfaa.EvK
set_option linter.unusedVariables false
set_option linter.unusedSimpArgs false
def toStringS_el (x : ByteArray) : ByteArray := x
theorem toStringS_ev (l : List ByteArray) (hl : l.length ≤ 1048576) : Ev (fun k => laws_toStringS.f k l) (l.map toStringS_el) := by
  apply EvP.eq
  unfold laws_toStringS.f
  simp only [if_pos (show (0 : Int) ≤ (l.length : Int) by omega), Int.toNat_natCast, if_pos (show l.length ≤ 17592186044416 by omega)]
  refine for_evp (L := fun k (s : List ByteArray) i => laws_toStringS.l0 k l s i) l.length (fun i s => s = (l.take i).map toStringS_el ++ List.replicate (l.length - i) (⟨#[]⟩ : ByteArray)) ?_ ?_ (List.replicate l.length (⟨#[]⟩ : ByteArray)) (by simp)
  · rintro i s hi rfl K
    have e : rdOf ByteArray.empty l (i : Int) = l[i] := getD_at l ByteArray.empty i hi
    have hlen := done_len toStringS_el l (⟨#[]⟩ : ByteArray) i (by omega)
    refine EvP.step (fun k => laws_toStringS.l0.eq_2 _ _ _ k) ?_
    simp only [if_pos (show (i : Int) < (l.length : Int) by omega), if_pos (show (0 : Int) ≤ (i : Int) by omega), e, hlen, w64 (show -9223372036854775808 ≤ (i : Int) + 1 by omega) (by omega), Int.toNat_natCast]
    refine K _ ?_
    show List.set _ i (toStringS_el l[i]) = _
    exact map_done toStringS_el l _ i hi
  · rintro s rfl
    refine EvP.step (fun k => laws_toStringS.l0.eq_2 _ _ _ k) ?_
    simp only [if_neg (show ¬ (l.length : Int) < (l.length : Int) by omega)]
    exact EvP.now (by simp)
end Go.Proofs.Ytpkcjkfkohmcfaa.SN
end

section
namespace Go.Proofs.Ytpkcjkfkohmcfaa.PureFnExactPagesOf
open Go.RowKit Go.Proofs.YtpkcjkfkohmcfaaW.PrintWords Go.Proofs.Ytpkcjkfkohmcfaa.XN Go.Proofs.Ytpkcjkfkohmcfaa.EvK Go.Proofs.Ytpkcjkfkohmcfaa.LinesN Go.Proofs.Ytpkcjkfkohmcfaa.SN Go.Proofs.Ytpkcjkfkohmcfaa.PPages
set_option linter.unusedVariables false
set_option linter.unusedSimpArgs false
theorem pure : laws_FnExactPagesOf.Pure := by
  intro l h w hq hh hw
  apply EvP.rounds
  unfold laws_FnExactPagesOf.f
  by_cases hw1 : (w.size : Int) > 1048576
  · simp only [if_pos hw1]
    exact EvP.now rfl
  simp only [if_neg hw1]
  refine EvP.bindP (szStringS_ev l 1048576 (by omega) (by omega) hq) (fun t ⟨_, hs⟩ => ?_)
  by_cases hn : t < 0
  · simp only [if_pos hn]
    exact EvP.now rfl
  simp only [if_neg hn]
  obtain ⟨hs1, hs2⟩ := hs (by omega)
  have e : l.map toStringS_el = l := List.map_id l
  have hto := toStringS_ev l hs1
  rw [e] at hto
  have hf1 := spec_ev l h w hs1 hs2 (by omega)
  have hf2 := impl_ev l h w hs1 hs2 (by omega)
  obtain ⟨q1, q2⟩ := of_small l h w
  have hei := eq_ev _ q1 q2
  have hes := eqStringS_ev l hs1
  obtain ⟨c2, ys, m1, m2, m3⟩ := marks _ q1 q2
  obtain ⟨z, hz1, _⟩ := markStringS_ev l 1 (by omega) (by omega)
  generalize pagesOf l h w = r at *
  refine EvP.bind hto (EvP.bind hf1 (EvP.bind hto (EvP.bind hf2 (EvP.bind hei ?_))))
  simp only [if_true]
  refine EvP.bind hto (EvP.bind hes ?_)
  simp only [if_true]
  refine EvP.bind hz1 ?_
  simp only [if_pos (show ¬ (1 + (l.length : Int) < 0) by omega)]
  refine EvP.bind hei ?_
  simp only [if_true]
  refine EvP.bind m1 (EvP.bind m2 ?_)
  simp only [if_pos (show ¬ (c2 < 0) by omega), if_true]
  refine EvP.bind hto (EvP.bind hf2 (EvP.bind hei ?_))
  simp only [if_true]
  refine EvP.bind m2 ?_
  simp only [if_pos (show ¬ (c2 < 0) by omega), if_true]
  exact EvP.now rfl
end Go.Proofs.Ytpkcjkfkohmcfaa.PureFnExactPagesOf
end

section
namespace Go.Proofs.Ytpkcjkfkohmcfaa.RowFnExactPagesOf
open Go.ChangeShapes Go.WideShapes Go.ChangeAt Go.RowKit Go.Proofs.YtpkcjkfkohmcfaaW.PrintWords Go.Proofs.Ytpkcjkfkohmcfaa.XN Go.Proofs.Ytpkcjkfkohmcfaa.Open
open Go.ChangeMaps (open_string shut_string)
set_option linter.unusedVariables false
theorem own : ownKnob Try.prog.godebug = none := by kernel_rfl
theorem laidOut : laidOutB Try.prog = true := by kernel_rfl
set_option maxRecDepth 100000 in
theorem lifted (os : Os) (started : os.Started) (H : Type) (enc : TypeId × Value → H) :
    ReturnsInHanded {} Try.checked os 3 .any (Rows.fnExactPagesOfSpec.pre6 enc Try.prog Try.f3 Rows.fnExactPagesOfRow.domain false) (Rows.fnExactPagesOfSpec.post enc Try.prog Try.f3 false true false false) := by
  refine returnsInHanded_of_change_sized (C := Try.checked) own started (by kernel_rfl) Try.func3
    (ChangeSpec.witness6 (enc := enc) (C := Try.checked) false ⟨#[], #[(.slice none 0 0), (.int .i64 0), (.string ⟨#[]⟩)], []⟩ 8 (by kernel_rfl) (by kernel_rfl) (by kernel_rfl) (by kernel_rfl)) ?_
  intro W base args ds gs before hval0 hW hcnd hsz0 _
  have hsz : (DataW.weightsEach Try.prog (Try.f3.params.toList ++ Rows.fnExactPagesOfSpec.plain.varTypes Try.prog) (ds ++ gs)).all (· ≤ reachBytes) = true := hsz0
  have hval : ∀ (j : Nat) t v, Try.f3.params[j]? = some t → args[j]? = some v → Value.okWide Try.prog W .any base t v := hval0
  have hW' := hW
  obtain ⟨p, q, hA0, hV, rfl, hfz, hnd⟩ := hW
  have hA : DataW.TrodAll enc Try.prog W 0 (fun _ => true) true Try.f3.params.toList args.toList ds p := hA0
  rw [Try.params3] at hA hval hsz
  obtain ⟨v0, vs0, d0, ds0, p0, q0, hargs, rfl, rfl, h0, r0⟩ := trodAll_cons hA
  obtain ⟨v1, vs1, d1, ds1, p1, q1, rfl, rfl, rfl, h1, r1⟩ := trodAll_cons r0
  obtain ⟨v2, vs2, d2, ds2, p2, q2, rfl, rfl, rfl, h2, r2⟩ := trodAll_cons r1
  obtain ⟨rfl, rfl, rfl⟩ := trodAll_nil r2
  obtain rfl : args = #[v0, v1, v2] := by cases args; simp_all
  obtain ⟨rfl, rfl⟩ := trodVars_none hV
  have kk0 := h0
  have lt0 : ∀ x ∈ p0, x.block < W.heap.size := by obtain ⟨m, hm⟩ := kk0; exact DataW.trod_lt m _ _ _ hm
  obtain ⟨A0, c0, a0, rfl, hc0, hr0, hq0⟩ := open_sl Try.underlying22 (by kernel_rfl) (Opens.string Try.underlying9 (by kernel_rfl)) (hval 0 22 v0 rfl rfl) h0
  obtain ⟨a1, rfl, rfl, rfl, w1⟩ := open_int Try.underlying2 (hval 1 2 v1 rfl rfl) h1
  obtain ⟨a2, rfl, rfl, rfl, y2⟩ := open_string Try.underlying9 (hval 2 9 v2 rfl rfl) h2
  have w2 : a2.size ≤ 140737488351232 := by
    have z := sized_string hsz (j := 2) (t := 9) rfl rfl
    rw [Array.length_toList] at z
    exact z
  obtain ⟨k, hp⟩ := PureFnExactPagesOf.pure a0 a1 a2 hq0 w1 w2
  clear hA0 hval0 hsz0 hsz
  refine (laws_FnExactPagesOf.calls k A0 c0 a0 a1 a2 true W hr0 hc0 hp).mono fun e W' ⟨he, bel0⟩ => ?_
  have bel : Below W.heap.size W W' := bel0
  subst he
  exact ⟨_, rfl, _, _, _, [], _, [], hW', trodAll_mk1 (shut_bool Try.underlying4 _), (trodAll_cons_mk (Below.trod laidOut (by kernel_rfl) (of_decide_eq_true (by kernel_rfl)) kk0 bel lt0) (trodAll_cons_mk (shut_int Try.underlying2 w1) (trodAll_cons_mk (shut_string Try.underlying9 y2) trodAll_mk0))), rfl, bel.frame _, fun h => by cases h⟩
theorem over : Rows.fnExactPagesOfRow.holds Try.pinned (OpenSpec.ofChange Rows.fnExactPagesOfSpec) :=
  OpenClaim.holds_of_wide 3 Try.f3 rfl rfl rfl rfl rfl rfl rfl ⟨rfl, rfl, rfl, rfl, rfl⟩ rfl rfl rfl rfl rfl (by kernel_rfl) Try.func3 (by kernel_rfl)
    (of_decide_eq_true (by kernel_rfl)) (by unfold Func.isWrapper; first | (rw [if_pos (by decide +kernel)]; kernel_rfl) | (rw [if_neg (by decide +kernel)]; exact ⟨rfl, rfl⟩))
    (fun os started H enc _ => lifted os started H enc)
end Go.Proofs.Ytpkcjkfkohmcfaa.RowFnExactPagesOf
namespace Go.Proofs.Ytpkcjkfkohmcfaa
theorem fnExactPagesOf_holds : Rows.FnExactPagesOfSaid := RowFnExactPagesOf.over
end Go.Proofs.Ytpkcjkfkohmcfaa
end
