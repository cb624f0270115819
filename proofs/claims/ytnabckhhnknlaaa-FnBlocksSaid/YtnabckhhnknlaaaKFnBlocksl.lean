/- The law FnBlocks: part 11 of its texts, joined (wip/pack.py). -/
import Derived.Test.YtnabckhhnknlaaaKFnBlocksa
import Derived.Test.YtnabckhhnknlaaaKFnBlocksb
import Derived.Test.YtnabckhhnknlaaaKFnBlocksc
import Derived.Test.YtnabckhhnknlaaaKFnBlocksd
import Derived.Test.YtnabckhhnknlaaaKFnBlockse
import Derived.Test.YtnabckhhnknlaaaKFnBlocksf
import Derived.Test.YtnabckhhnknlaaaKFnBlocksg
import Derived.Test.YtnabckhhnknlaaaKFnBlocksh
import Derived.Test.YtnabckhhnknlaaaKFnBlocksi
import Derived.Test.YtnabckhhnknlaaaKFnBlocksj
import Derived.Test.YtnabckhhnknlaaaKFnBlocksk
import Derived.Lib.IndexLaws
import Derived.Lib.IndexBytes
import Derived.Lib.IndexMore
import Derived.Lib.Strings
import Derived.Laws.BitsLemmas
import Derived.DataShut
import Derived.Test.YtnabckhhnknlaaaRows
import Derived.WalkKit
import Derived.ProofKit
import Derived.OpenShut
import Derived.ShutString
import Derived.ChangeOld
import Derived.Below
import Derived.SizedLaws
import Derived.HandedShaped

section
namespace Go.Proofs.Ytnabckhhnknlaaa.EvK
open Go.RowKit Go.Proofs.YtnabckhhnknlaaaW.PrintWords
set_option linter.unusedVariables false
theorem w64 {n : Int} (h : -9223372036854775808 ≤ n) (h' : n ≤ 9223372036854775807) : wrap64 n = n := by unfold wrap64; omega
theorem Ev.some {α : Type} {a r : α} (h : a = r) : Ev (fun _ => Option.some a) r := h ▸ Ev.now a
theorem Ev.bind_some {α β : Type} {g : Nat → Option α} {f : Nat → α → Option β} {a : α} {r : β} (h : Ev g a) (k : Ev (fun n => f n a) r) : Ev (fun n => (g n).bind (f n)) r := Ev.bind h k
def EvP {α : Type} (g : Nat → Option α) (P : α → Prop) : Prop := ∃ r, Ev g r ∧ P r
theorem EvP.now {α : Type} {r : α} {P : α → Prop} (h : P r) : EvP (fun _ => Option.some r) P := ⟨r, Ev.now r, h⟩
theorem EvP.of {α : Type} {g : Nat → Option α} {r : α} {P : α → Prop} (h : Ev g r) (hp : P r) : EvP g P := ⟨r, h, hp⟩
theorem EvP.mono {α : Type} {g : Nat → Option α} {P Q : α → Prop} (h : EvP g P) (hp : ∀ r, P r → Q r) : EvP g Q := by
  obtain ⟨r, h1, h2⟩ := h
  exact ⟨r, h1, hp _ h2⟩
theorem EvP.eq {α : Type} {g : Nat → Option α} {r : α} (h : EvP g (· = r)) : Ev g r := by
  obtain ⟨r', h, rfl⟩ := h
  exact h
theorem EvP.step {α : Type} {g f : Nat → Option α} {P : α → Prop} (h : ∀ k, g (k + 1) = f k) (k : EvP f P) : EvP g P := by
  obtain ⟨r, h1, h2⟩ := k
  exact ⟨r, Ev.step h h1, h2⟩
theorem EvP.bind {α β : Type} {g : Nat → Option α} {f : Nat → α → Option β} {a : α} {P : β → Prop} (h : Ev g a) (k : EvP (fun n => f n a) P) : EvP (fun n => (g n).bind (f n)) P := by
  obtain ⟨r, h1, h2⟩ := k
  exact ⟨r, Ev.bind h h1, h2⟩
theorem EvP.rounds {α : Type} {g : Nat → Option α} {r : α} (h : EvP g (· = r)) : ∃ k, g k = Option.some r := Ev.rounds (EvP.eq h)
theorem for_evp {σ ρ : Type} {L : Nat → σ → Int → Option ρ} {Post : ρ → Prop} (n : Nat) (inv : Nat → σ → Prop)
    (step : ∀ (i : Nat) (s : σ), i < n → inv i s → (∀ s', inv (i + 1) s' → EvP (fun k => L k s' ((i : Int) + 1)) Post) → EvP (fun k => L k s i) Post)
    (fin : ∀ s, inv n s → EvP (fun k => L k s n) Post) (s : σ) (h0 : inv 0 s) : EvP (fun k => L k s 0) Post := by
  have key : ∀ (d i : Nat) (s : σ), i + d = n → inv i s → EvP (fun k => L k s i) Post := by
    intro d
    induction d with
    | zero =>
      intro i s hi hs
      obtain rfl : i = n := by omega
      exact fin s hs
    | succ d ih =>
      intro i s hi hs
      refine step i s (by omega) hs (fun s' hs' => ?_)
      simpa using ih (i + 1) s' (by omega) hs'
  simpa using key n 0 s (by omega) h0
theorem take_all {α : Type} {p : α → Prop} {l : List α} {i : Nat} (h : i < l.length) (hs : ∀ x ∈ l.take i, p x) (hx : p l[i]) : ∀ x ∈ l.take (i + 1), p x := by
  rw [List.take_succ_eq_append_getElem h]
  intro x hm
  rcases List.mem_append.1 hm with hm | hm
  · exact hs x hm
  · rw [List.mem_singleton.1 hm]
    exact hx
theorem all_ev {α : Type} {L : Nat → Int → Option Bool} (l : List α) (p : α → Bool) (b : Bool)
    (step : ∀ (i : Nat) (h : i < l.length), p l[i] = true → ∀ P, EvP (fun k => L k ((i : Int) + 1)) P → EvP (fun k => L k i) P)
    (stop : ∀ (i : Nat) (h : i < l.length), p l[i] = false → Ev (fun k => L k i) false)
    (fin : Ev (fun k => L k l.length) b) : Ev (fun k => L k 0) (l.all p && b) := by
  apply EvP.eq
  refine for_evp (L := fun k (_ : Unit) i => L k i) l.length (fun i _ => ∀ x ∈ l.take i, p x = true) ?_ ?_ () (by simp)
  · intro i _ hi hs K
    cases hp : p l[i] with
    | true => exact step i hi hp _ (K () (take_all hi hs hp))
    | false =>
      have e : l.all p = false := by
        rw [List.all_eq_false]
        exact ⟨l[i], List.getElem_mem hi, by simp [hp]⟩
      rw [e]
      exact EvP.of (stop i hi hp) rfl
  · intro _ hs
    have e : l.all p = true := by
      rw [List.all_eq_true]
      simpa using hs
    rw [e]
    exact EvP.of fin rfl
theorem bytes_at_ (s : ByteArray) (i : Nat) (h : i < s.data.toList.length) : bt s (i : Int) = ((s.data.toList[i]).toNat : Int) := by
  have h' : i < s.size := by simpa using h
  unfold bt
  rw [dif_pos (by simpa using h')]
  simp
  rfl
theorem size_len (s : ByteArray) : (s.size : Int) = (s.data.toList.length : Int) := by simp
theorem size_len' (s : ByteArray) : s.size = s.data.toList.length := by simp
end Go.Proofs.Ytnabckhhnknlaaa.EvK
end

section
namespace Go.Proofs.Ytnabckhhnknlaaa.EvK
open Go.RowKit Go.Proofs.YtnabckhhnknlaaaW.PrintWords
set_option linter.unusedVariables false
theorem all_to {α ρ : Type} {L : Nat → Int → Option ρ} (l : List α) (p : α → Bool) (yes no : ρ)
    (step : ∀ (i : Nat) (h : i < l.length), p l[i] = true → ∀ P, EvP (fun k => L k ((i : Int) + 1)) P → EvP (fun k => L k i) P)
    (stop : ∀ (i : Nat) (h : i < l.length), p l[i] = false → Ev (fun k => L k i) no)
    (fin : l.all p = true → Ev (fun k => L k l.length) yes) : Ev (fun k => L k 0) (if l.all p = true then yes else no) := by
  apply EvP.eq
  refine for_evp (L := fun k (_ : Unit) i => L k i) l.length (fun i _ => ∀ x ∈ l.take i, p x = true) ?_ ?_ () (by simp)
  · intro i _ hi hs K
    cases hp : p l[i] with
    | true => exact step i hi hp _ (K () (take_all hi hs hp))
    | false =>
      have e : l.all p = false := by
        rw [List.all_eq_false]
        exact ⟨l[i], List.getElem_mem hi, by simp [hp]⟩
      rw [e]
      exact EvP.of (stop i hi hp) rfl
  · intro _ hs
    have e : l.all p = true := by
      rw [List.all_eq_true]
      simpa using hs
    rw [e]
    exact EvP.of (fin e) rfl
theorem all_n {ρ : Type} {L : Nat → Int → Option ρ} (n : Nat) (p : Nat → Bool) (yes no : ρ)
    (step : ∀ (i : Nat), i < n → p i = true → ∀ P, EvP (fun k => L k ((i : Int) + 1)) P → EvP (fun k => L k i) P)
    (stop : ∀ (i : Nat), i < n → p i = false → Ev (fun k => L k i) no)
    (fin : Ev (fun k => L k n) yes) : Ev (fun k => L k 0) (if (List.range n).all p = true then yes else no) := by
  have := all_to (L := L) (List.range n) p yes no ?_ ?_ ?_
  · exact this
  · intro i hi hp P K
    simp only [List.length_range, List.getElem_range] at hi hp
    exact step i hi hp P K
  · intro i hi hp
    simp only [List.length_range, List.getElem_range] at hi hp
    exact stop i hi hp
  · intro _
    simpa using fin
theorem contains_byte (l : List UInt8) (c : UInt8) : Lib.contains l [c] = !(l.all (fun x => !(x == c))) := by
  unfold Lib.contains
  rw [Lib.index_one]
  by_cases h : 0 ≤ Lib.indexByte l c
  · obtain ⟨h1, _⟩ := Lib.indexByte_some (l := l) (c := c) (o := (Lib.indexByte l c).toNat) (by omega)
    have e : l.all (fun x => !(x == c)) = false := by
      rw [List.all_eq_false]
      exact ⟨c, List.mem_of_getElem? h1, by simp⟩
    rw [decide_eq_true h, e]; rfl
  · have hm : Lib.indexByte l c = -1 := by have := Lib.indexByte_ge l c; omega
    have hn := Lib.indexByte_none hm
    have e : l.all (fun x => !(x == c)) = true := by
      rw [List.all_eq_true]
      intro x hx
      obtain ⟨k, hk⟩ := List.getElem?_of_mem hx
      have := hn k
      rw [hk] at this
      simpa using this
    rw [decide_eq_false h, e]; rfl
end Go.Proofs.Ytnabckhhnknlaaa.EvK
end

section
namespace Go.Proofs.Ytnabckhhnknlaaa.PSrc
open Go.RowKit Go.Proofs.YtnabckhhnknlaaaW.PrintWords Go.Proofs.Ytnabckhhnknlaaa.XV Go.Proofs.Ytnabckhhnknlaaa.EvK
set_option linter.unusedVariables false
set_option linter.unusedSimpArgs false
def Bytes (c : List Int) : Prop := ∀ x ∈ c, 0 ≤ x ∧ x ≤ 255
def On (a a' d : Int) : Prop := a ≤ a' ∧ a' ≤ a + d
theorem rd_mem (c : List Int) (a : Int) (h0 : 0 ≤ a) (h1 : a < (c.length : Int)) : rd c a ∈ c := by
  unfold rd
  rw [List.getD_eq_getElem?_getD, List.getElem?_eq_getElem (by omega)]
  exact List.getElem_mem (by omega)
theorem low_byte (y : Int) : 0 ≤ wrap64 (Go.bits .and .u64 (IntKind.u64.wrap y / 1099511627776) 255) ∧ wrap64 (Go.bits .and .u64 (IntKind.u64.wrap y / 1099511627776) 255) ≤ 255 := by
  have hw : 0 ≤ IntKind.u64.wrap y ∧ IntKind.u64.wrap y < 18446744073709551616 := by
    rw [IntKind.wrap_u64]; omega
  have hm : Go.bits .and .u64 (IntKind.u64.wrap y / 1099511627776) 255 = (IntKind.u64.wrap y / 1099511627776) % 256 := bits_mask .u64 64 (by decide) (fun n h0 h1 => by rw [IntKind.wrap_u64]; omega) 8 (by decide) _ (by omega) (by omega)
  rw [hm, w64 (by omega) (by omega)]
  omega
theorem next_eq {c : List Int} (hc : Bytes c) (a s : Int) (h0 : 0 ≤ a) (h1 : a ≤ 4611686018427387904) : ∃ x s', spec_l00Src_next.f c a s = some (x, a + 1, s') ∧ 0 ≤ x ∧ x ≤ 255 := by
  unfold spec_l00Src_next.f
  simp only [w64 (show -9223372036854775808 ≤ a + 1 by omega) (by omega)]
  by_cases h : a < (c.length : Int)
  · obtain ⟨r0, r1⟩ := hc _ (rd_mem c a h0 h)
    simp only [if_pos h, if_pos h0, if_pos (show a + 1 ≤ (c.length : Int) by omega), w64 (show -9223372036854775808 ≤ rd c a by omega) (by omega)]
    exact ⟨_, _, rfl, r0, r1⟩
  · simp only [if_neg h]
    by_cases h2 : a + 1 ≤ (c.length : Int)
    · omega
    · simp only [if_neg h2]
      obtain ⟨l0, l1⟩ := low_byte ((IntKind.u64.wrap (IntKind.u64.wrap (s * 6364136223846793005))) + 1442695040888963407)
      exact ⟨_, _, rfl, l0, l1⟩
theorem pick_eq {c : List Int} (hc : Bytes c) (a s n : Int) (h0 : 0 ≤ a) (h1 : a ≤ 4611686018427387000) : ∃ x a' s', spec_l00Src_pick.f c a s n = some (x, a', s') ∧ 0 ≤ x ∧ (1 ≤ n → x < n) ∧ On a a' 2 := by
  unfold spec_l00Src_pick.f
  by_cases hn : n ≤ 1
  · simp only [if_pos hn]
    exact ⟨0, a, s, rfl, by omega, by omega, by omega, by omega⟩
  · simp only [if_neg hn]
    obtain ⟨x, s1, e1, x0, x1⟩ := next_eq hc a s h0 (by omega)
    simp only [e1, Option.bind_some, if_neg (show ¬ n = 0 by omega)]
    by_cases hb : n > 200
    · obtain ⟨y, s2, e2, y0, y1⟩ := next_eq hc (a + 1) s1 (by omega) (by omega)
      simp only [if_pos hb, e2, Option.bind_some, w64 (show -9223372036854775808 ≤ x * 256 by omega) (by omega), w64 (show -9223372036854775808 ≤ x * 256 + y by omega) (by omega)]
      refine ⟨_, _, _, rfl, ?_, fun _ => ?_, by omega, by omega⟩
      · exact Int.tmod_nonneg _ (by omega)
      · exact Int.tmod_lt_of_pos _ (by omega)
    · simp only [if_neg hb]
      refine ⟨_, _, _, rfl, ?_, fun _ => ?_, by omega, by omega⟩
      · exact Int.tmod_nonneg _ (by omega)
      · exact Int.tmod_lt_of_pos _ (by omega)
theorem one_eq {c : List Int} (hc : Bytes c) (a s n : Int) (h0 : 0 ≤ a) (h1 : a ≤ 4611686018427387000) : ∃ x a' s', spec_l00Src_one.f c a s n = some (x, a', s') ∧ On a a' 2 := by
  obtain ⟨x, a', s', e, _, _, h⟩ := pick_eq hc a s n h0 h1
  exact ⟨_, _, _, by unfold spec_l00Src_one.f; rw [e]; rfl, h⟩
theorem text_eq {c : List Int} (hc : Bytes c) (a s : Int) (l : List ByteArray) (hl : l ≠ []) (h0 : 0 ≤ a) (h1 : a ≤ 4611686018427387000) : ∃ x a' s', spec_l00Src_text.f c a s l = some (x, a', s') ∧ x ∈ l ∧ On a a' 2 := by
  have hp : 1 ≤ l.length := by
    cases l with
    | nil => exact absurd rfl hl
    | cons x l => simp
  obtain ⟨x, a', s', e, x0, x1, h⟩ := pick_eq hc a s (l.length : Int) h0 h1
  have hx := x1 (by omega)
  refine ⟨rdOf ByteArray.empty l x, a', s', by unfold spec_l00Src_text.f; rw [e]; simp only [Option.bind_some, if_pos x0, if_pos hx], ?_, h⟩
  unfold rdOf
  rw [List.getD_eq_getElem?_getD, List.getElem?_eq_getElem (by omega)]
  exact List.getElem_mem (by omega)
theorem among_eq {c : List Int} (hc : Bytes c) (a s : Int) (l : List Int) (hl : l ≠ []) (h0 : 0 ≤ a) (h1 : a ≤ 4611686018427387000) : ∃ x a' s', spec_l00Src_among.f c a s l = some (x, a', s') ∧ x ∈ l ∧ On a a' 2 := by
  have hp : 1 ≤ l.length := by
    cases l with
    | nil => exact absurd rfl hl
    | cons x l => simp
  obtain ⟨x, a', s', e, x0, x1, h⟩ := pick_eq hc a s (l.length : Int) h0 h1
  have hx := x1 (by omega)
  exact ⟨rd l x, a', s', by unfold spec_l00Src_among.f; rw [e]; simp only [Option.bind_some, if_pos x0, if_pos hx], rd_mem l x x0 hx, h⟩
theorem word_ev {c : List Int} (hc : Bytes c) (a s n : Int) (hn : n ≤ 1000) (h0 : 0 ≤ a) (h1 : a ≤ 4611686018427380000) : ∃ (x : ByteArray) (a' s' : Int), Ev (fun k => spec_l00Src_word.f k c a s n) (x, a', s') ∧ x.size ≤ 1000 ∧ On a a' 1100 := by
  obtain ⟨p, a1, s1, e, p0, p1, hon⟩ := pick_eq hc a s n h0 (by omega)
  unfold On at hon
  have hp : p ≤ 1000 := by
    by_cases h : 1 ≤ n
    · have := p1 h; omega
    · unfold spec_l00Src_pick.f at e
      rw [if_pos (by omega)] at e
      injection e with e
      injection e with e
      omega
  have key : ∀ (d : Nat) (l : List Int) (a s : Int), 0 ≤ a → a ≤ 4611686018427387000 - d → l.length + d ≤ 1000 → ∃ (x : ByteArray) (a' s' : Int), Ev (fun k => spec_l00Src_word.l0 k l (d : Int) c a s) (x, a', s') ∧ x.size ≤ 1000 ∧ On a a' d := by
    intro d
    induction d with
    | zero =>
      intro l a s ha1 ha2 hl
      refine ⟨strOfNums l, a, s, Ev.step (fun k => spec_l00Src_word.l0.eq_2 _ _ _ _ _ k) ?_, ?_, by omega, by omega⟩
      · simp only [if_neg (show ¬ ((0 : Nat) : Int) > 0 by omega)]
        exact Ev.now _
      · have : (strOfNums l).size = l.length := by simp [strOfNums, ByteArray.size]
        omega
    | succ d ih =>
      intro l a s ha1 ha2 hl
      obtain ⟨y, s2, e2, y0, y1⟩ := next_eq hc a s ha1 (by omega)
      obtain ⟨x, a', s', g1, g2, g3⟩ := ih (l ++ [y % 256]) (a + 1) s2 (by omega) (by omega) (by rw [List.length_append]; simp only [List.length_cons, List.length_nil]; omega)
      unfold On at g3
      refine ⟨x, a', s', Ev.step (fun k => spec_l00Src_word.l0.eq_2 _ _ _ _ _ k) ?_, g2, by omega, by omega⟩
      simp only [if_pos (show ((d + 1 : Nat) : Int) > 0 by omega), e2, Option.bind_some, if_pos (show l.length < 140737488355328 by omega), show ((d + 1 : Nat) : Int) - 1 = (d : Int) by omega, w64 (show -9223372036854775808 ≤ (d : Int) by omega) (by omega)]
      exact g1
  obtain ⟨x, a', s', g1, g2, g3⟩ := key p.toNat [] a1 s1 (by omega) (by omega) (by simp; omega)
  rw [show ((p.toNat : Nat) : Int) = p by omega] at g1
  unfold On at g3
  refine ⟨x, a', s', ?_, g2, by omega, by omega⟩
  unfold spec_l00Src_word.f
  simp only [e, Option.bind_some]
  exact g1
end Go.Proofs.Ytnabckhhnknlaaa.PSrc
end

section
namespace Go.Proofs.Ytnabckhhnknlaaa.PDec
open Go.RowKit Go.Proofs.YtnabckhhnknlaaaW.PrintWords Go.Proofs.Ytnabckhhnknlaaa.XV Go.Proofs.Ytnabckhhnknlaaa.EvK
set_option linter.unusedVariables false
set_option linter.unusedSimpArgs false
theorem nums_size (l : List Int) : (strOfNums l).size = l.length := by simp [strOfNums, ByteArray.size]
theorem dec_back (x : List Int) (hx : x.length ≤ 1000) : ∀ (d : Nat) (y : List Int), d ≤ x.length → y.length + d ≤ 1000 → ∃ t : ByteArray, Ev (fun k => spec_l01Dec.l1 k x y ((d : Int) - 1)) t ∧ t.size = y.length + d := by
  intro d
  induction d with
  | zero =>
    intro y _ _
    refine ⟨strOfNums y, Ev.step (fun k => spec_l01Dec.l1.eq_2 _ _ _ k) ?_, by rw [nums_size]; rfl⟩
    simp only [if_neg (show ¬ ((0 : Nat) : Int) - 1 ≥ 0 by omega)]
    exact Ev.now _
  | succ d ih =>
    intro y hd hy
    obtain ⟨t, h1, h2⟩ := ih (y ++ [rd x (d : Int)]) (by omega) (by rw [List.length_append]; simp only [List.length_cons, List.length_nil]; omega)
    refine ⟨t, Ev.step (fun k => spec_l01Dec.l1.eq_2 _ _ _ k) ?_, by rw [h2, List.length_append]; simp only [List.length_cons, List.length_nil]; omega⟩
    simp only [show ((d + 1 : Nat) : Int) - 1 = (d : Int) by omega, if_pos (show (d : Int) ≥ 0 by omega), if_pos (show (0 : Int) ≤ (d : Int) by omega), if_pos (show (d : Int) < (x.length : Int) by omega), if_pos (show y.length < 140737488355328 by omega), w64 (show -9223372036854775808 ≤ (d : Int) - 1 by omega) (by omega)]
    exact h1
theorem dec_go (n : Int) : ∀ (d : Nat) (m : Int) (x : List Int), m.natAbs < 10 ^ d → d ≤ 19 → x.length + d ≤ 30 → ∃ t : ByteArray, Ev (fun k => spec_l01Dec.l0 k n x m) t ∧ t.size ≤ 31 := by
  intro d
  induction d with
  | zero =>
    intro m x hm _ hx
    obtain rfl : m = 0 := by omega
    have fin : ∀ y : List Int, y.length ≤ 31 → ∃ t : ByteArray, Ev (fun k => spec_l01Dec.j1 k y) t ∧ t.size ≤ 31 := by
      intro y hy
      obtain ⟨t, h1, h2⟩ := dec_back y (by omega) y.length [] (by omega) (by simp; omega)
      refine ⟨t, Ev.step (fun k => spec_l01Dec.j1.eq_2 _ k) ?_, by rw [h2]; simpa using hy⟩
      simp only [w64 (show -9223372036854775808 ≤ (y.length : Int) - 1 by omega) (by omega)]
      exact h1
    by_cases hn : n < 0
    · obtain ⟨t, h1, h2⟩ := fin (x ++ [45]) (by rw [List.length_append]; simp only [List.length_cons, List.length_nil]; omega)
      refine ⟨t, Ev.step (fun k => spec_l01Dec.l0.eq_2 _ _ _ k) ?_, h2⟩
      simp only [if_true, if_pos hn, if_pos (show x.length < 140737488355328 by omega)]
      exact h1
    · obtain ⟨t, h1, h2⟩ := fin x (by omega)
      refine ⟨t, Ev.step (fun k => spec_l01Dec.l0.eq_2 _ _ _ k) ?_, h2⟩
      simp only [if_true, if_neg hn]
      exact h1
  | succ d ih =>
    intro m x hm hd hx
    by_cases h0 : m = 0
    · exact ih m x (by rw [h0]; have h := Nat.pow_le_pow_right (n := 10) (by decide) (Nat.zero_le d); exact h) (by omega) (by omega)
    have hp : (10 : Nat) ^ (d + 1) ≤ 10 ^ 19 := Nat.pow_le_pow_right (by decide) hd
    have hp2 : (10 : Nat) ^ (d + 1) = 10 ^ d * 10 := Nat.pow_succ 10 d
    have hb : m.natAbs < 10000000000000000000 := Nat.lt_of_lt_of_le hm hp
    have e1 : (Int.tdiv m 10).natAbs = m.natAbs / 10 := Int.natAbs_tdiv m 10
    have e2 : wrap64 (Int.tdiv m 10) = Int.tdiv m 10 := w64 (by omega) (by omega)
    have e3 : (Int.tdiv m 10).natAbs < 10 ^ d := by rw [e1, Nat.div_lt_iff_lt_mul (by decide), ← hp2]; exact hm
    have go : ∀ v : Int, ∃ t : ByteArray, Ev (fun k => spec_l01Dec.l0 k n (x ++ [v]) (Int.tdiv m 10)) t ∧ t.size ≤ 31 := fun v => ih _ _ e3 (by omega) (by rw [List.length_append]; simp only [List.length_cons, List.length_nil]; omega)
    by_cases hneg : Int.tmod m 10 < 0
    · obtain ⟨t, g1, g2⟩ := go ((wrap64 (48 + (wrap64 (-(Int.tmod m 10))))) % 256)
      refine ⟨t, Ev.step (fun k => spec_l01Dec.l0.eq_2 _ _ _ k) ?_, g2⟩
      simp only [if_neg h0, if_pos hneg, if_pos (show x.length < 140737488355328 by omega), e2]
      exact g1
    · obtain ⟨t, g1, g2⟩ := go ((wrap64 (48 + (Int.tmod m 10))) % 256)
      refine ⟨t, Ev.step (fun k => spec_l01Dec.l0.eq_2 _ _ _ k) ?_, g2⟩
      simp only [if_neg h0, if_neg hneg, if_pos (show x.length < 140737488355328 by omega), e2]
      exact g1
theorem dec_short (n : Int) (h1 : -9223372036854775808 ≤ n) (h2 : n ≤ 9223372036854775807) : ∃ t : ByteArray, Ev (fun k => spec_l01Dec.f k n) t ∧ t.size ≤ 31 := by
  unfold spec_l01Dec.f
  by_cases h0 : n = 0
  · simp only [if_pos h0]
    exact ⟨_, Ev.now _, by decide⟩
  · simp only [if_neg h0]
    exact dec_go n 19 n [] (by omega) (by omega) (by simp)
theorem list_short (l : List Int) (hl : l.length ≤ 1000) (h : ∀ x ∈ l, -9223372036854775808 ≤ x ∧ x ≤ 9223372036854775807) : ∃ t : ByteArray, Ev (fun k => spec_l01List.f k l) t ∧ t.size ≤ 1 + 32 * l.length := by
  unfold spec_l01List.f
  by_cases h0 : l = []
  · subst h0
    simp only [List.length_nil, if_pos (show ((0 : Nat) : Int) = 0 from rfl)]
    exact ⟨_, Ev.now _, by decide⟩
  have hp : l.length ≠ 0 := fun h => h0 (List.eq_nil_of_length_eq_zero h)
  simp only [if_neg (show ¬ (l.length : Int) = 0 by omega)]
  have key : ∀ (d q : Nat) (x : ByteArray), q + d = l.length → x.size ≤ 32 * q → ∃ t : ByteArray, Ev (fun k => spec_l01List.l0 k l x (q : Int)) t ∧ t.size ≤ 32 * l.length := by
    intro d
    induction d with
    | zero =>
      intro q x hq hx
      refine ⟨x, Ev.step (fun k => spec_l01List.l0.eq_2 _ _ _ k) ?_, by omega⟩
      simp only [if_neg (show ¬ (q : Int) < (l.length : Int) by omega)]
      exact Ev.now _
    | succ d ih =>
      intro q x hq hx
      have hm := h _ (by unfold rd; rw [List.getD_eq_getElem?_getD, List.getElem?_eq_getElem (by omega)]; exact List.getElem_mem (by omega) : rd l (q : Int) ∈ l)
      obtain ⟨t, t1, t2⟩ := dec_short _ hm.1 hm.2
      have w1 := w64 (show -9223372036854775808 ≤ (q : Int) + 1 by omega) (by omega)
      by_cases hq0 : (q : Int) > 0
      · have s1 : (x ++ (⟨#[44]⟩ : ByteArray)).size = x.size + 1 := by rw [ByteArray.size_append]; rfl
        have s2 : (x ++ (⟨#[44]⟩ : ByteArray) ++ t).size = x.size + 1 + t.size := by rw [ByteArray.size_append, s1]
        obtain ⟨r, r1, r2⟩ := ih (q + 1) (x ++ (⟨#[44]⟩ : ByteArray) ++ t) (by omega) (by omega)
        refine ⟨r, Ev.step (fun k => spec_l01List.l0.eq_2 _ _ _ k) ?_, r2⟩
        simp only [if_pos (show (q : Int) < (l.length : Int) by omega), if_pos hq0, if_pos (show x.size + 1 ≤ 9223372036854775807 by omega), if_pos (show (0 : Int) ≤ (q : Int) by omega)]
        refine Ev.bind t1 ?_
        simp only [if_pos (show (x ++ (⟨#[44]⟩ : ByteArray)).size + t.size ≤ 9223372036854775807 by omega), w1]
        simpa using r1
      · have s2 : (x ++ t).size = x.size + t.size := by rw [ByteArray.size_append]
        obtain ⟨r, r1, r2⟩ := ih (q + 1) (x ++ t) (by omega) (by omega)
        refine ⟨r, Ev.step (fun k => spec_l01List.l0.eq_2 _ _ _ k) ?_, r2⟩
        simp only [if_pos (show (q : Int) < (l.length : Int) by omega), if_neg hq0, if_pos (show (0 : Int) ≤ (q : Int) by omega)]
        refine Ev.bind t1 ?_
        simp only [if_pos (show x.size + t.size ≤ 9223372036854775807 by omega), w1]
        simpa using r1
  obtain ⟨t, t1, t2⟩ := key l.length 0 ⟨#[]⟩ (by omega) (by decide)
  exact ⟨t, by simpa using t1, by omega⟩
end Go.Proofs.Ytnabckhhnknlaaa.PDec
end

section
namespace Go.Proofs.Ytnabckhhnknlaaa.PBasics
open Go.RowKit Go.Proofs.YtnabckhhnknlaaaW.PrintWords Go.Proofs.Ytnabckhhnknlaaa.XV Go.Proofs.Ytnabckhhnknlaaa.EvK
set_option linter.unusedVariables false
set_option linter.unusedSimpArgs false
def smallB (c : UInt8) : Bool := decide (97 ≤ (c.toNat : Int)) && decide ((c.toNat : Int) ≤ 122)
def digB (c : UInt8) : Bool := decide (48 ≤ (c.toNat : Int)) && decide ((c.toNat : Int) ≤ 57)
def nameB (c : UInt8) : Bool := smallB c || digB c
def nameOk (s : ByteArray) : Bool := match s.data.toList with
  | [] => false
  | c :: l => decide ((s.size : Int) ≤ 10) && smallB c && (c :: l).all nameB
theorem small_eq (c : UInt8) : spec_l01Small.f (c.toNat : Int) = some (smallB c) := by
  unfold spec_l01Small.f smallB
  by_cases h : (c.toNat : Int) ≥ 97
  · rw [if_pos h, decide_eq_true (show (97 : Int) ≤ c.toNat from h), Bool.true_and]
  · rw [if_neg h, decide_eq_false (show ¬ (97 : Int) ≤ c.toNat from h), Bool.false_and]
theorem dig_eq (c : UInt8) : spec_l01Digit.f (c.toNat : Int) = some (digB c) := by
  unfold spec_l01Digit.f digB
  by_cases h : (c.toNat : Int) ≥ 48
  · rw [if_pos h, decide_eq_true (show (48 : Int) ≤ c.toNat from h), Bool.true_and]
  · rw [if_neg h, decide_eq_false (show ¬ (48 : Int) ≤ c.toNat from h), Bool.false_and]
theorem onlyName_ev (s : ByteArray) (h : s.size ≤ 1048576) : Ev (fun k => impl_onlyNameBytes.f k s) (s.data.toList.all nameB) := by
  unfold impl_onlyNameBytes.f
  rw [size_len'] at h
  have := all_ev (L := fun k i => impl_onlyNameBytes.l0 k s (s.size : Int) i) s.data.toList nameB true ?_ ?_ ?_
  · simpa using this
  · intro i hi hp P K
    refine EvP.step (fun k => impl_onlyNameBytes.l0.eq_2 _ _ _ k) ?_
    simp only [size_len] at K
    simp only [size_len, if_pos (show (i : Int) < (s.data.toList.length : Int) by omega), if_pos (show (0 : Int) ≤ (i : Int) by omega), bytes_at_ s i hi, w64 (show -9223372036854775808 ≤ (i : Int) + 1 by omega) (by omega)]
    simp only [nameB, smallB, digB, Bool.or_eq_true, Bool.and_eq_true, decide_eq_true_eq] at hp
    by_cases h1 : ((s.data.toList[i]).toNat : Int) < 97
    · simp only [if_pos h1, if_neg (show ¬ ((s.data.toList[i]).toNat : Int) < 48 by omega), if_neg (show ¬ ((s.data.toList[i]).toNat : Int) > 57 by omega)]
      exact K
    · simp only [if_neg h1, if_neg (show ¬ ((s.data.toList[i]).toNat : Int) > 122 by omega)]
      exact K
  · intro i hi hp
    refine Ev.step (fun k => impl_onlyNameBytes.l0.eq_2 _ _ _ k) ?_
    simp only [size_len, if_pos (show (i : Int) < (s.data.toList.length : Int) by omega), if_pos (show (0 : Int) ≤ (i : Int) by omega), bytes_at_ s i hi, w64 (show -9223372036854775808 ≤ (i : Int) + 1 by omega) (by omega)]
    simp only [nameB, smallB, digB, Bool.or_eq_false_iff, Bool.and_eq_false_iff, decide_eq_false_iff_not] at hp
    by_cases h1 : ((s.data.toList[i]).toNat : Int) < 97
    · by_cases h2 : ((s.data.toList[i]).toNat : Int) < 48
      · simp only [if_pos h1, if_pos h2]; exact Ev.now _
      · simp only [if_pos h1, if_neg h2, if_pos (show ((s.data.toList[i]).toNat : Int) > 57 by omega)]; exact Ev.now _
    · simp only [if_neg h1, if_pos (show ((s.data.toList[i]).toNat : Int) > 122 by omega), if_neg (show ¬ ((s.data.toList[i]).toNat : Int) < 48 by omega), if_pos (show ((s.data.toList[i]).toNat : Int) > 57 by omega)]
      exact Ev.now _
  · refine Ev.step (fun k => impl_onlyNameBytes.l0.eq_2 _ _ _ k) ?_
    simp only [size_len, if_neg (show ¬ (s.data.toList.length : Int) < (s.data.toList.length : Int) by omega)]
    exact Ev.now _
theorem head_at (s : ByteArray) (c : UInt8) (l : List UInt8) (hl : s.data.toList = c :: l) : bt s 0 = (c.toNat : Int) := by
  have h : 0 < s.data.toList.length := by rw [hl]; simp
  have := bytes_at_ s 0 h
  rw [show ((0 : Nat) : Int) = 0 from rfl] at this
  rw [this]
  simp only [hl, List.getElem_cons_zero]
theorem isName_ev (s : ByteArray) (h : s.size ≤ 1048576) : Ev (fun k => impl_IsName.f k s) (nameOk s) := by
  unfold impl_IsName.f nameOk
  cases hl : s.data.toList with
  | nil =>
    have hz : s.size = 0 := by rw [size_len', hl]; rfl
    simp only [hz, Int.natCast_zero, if_pos (show (0 : Int) < 1 by omega)]
    exact Ev.now _
  | cons c l =>
    have hz : s.size = l.length + 1 := by rw [size_len', hl]; rfl
    have ho := onlyName_ev s h
    rw [hl] at ho
    simp only [if_neg (show ¬ (s.size : Int) < 1 by omega), if_pos (show (0 : Int) < (s.size : Int) by omega), head_at s c l hl]
    by_cases h1 : (s.size : Int) > 10
    · simp only [if_pos h1, decide_eq_false (show ¬ (s.size : Int) ≤ 10 by omega), Bool.false_and]
      exact Ev.now _
    · simp only [if_neg h1, decide_eq_true (show (s.size : Int) ≤ 10 by omega), Bool.true_and]
      by_cases h2 : (c.toNat : Int) < 97
      · simp only [if_pos h2, smallB, decide_eq_false (show ¬ (97 : Int) ≤ c.toNat by omega), Bool.false_and]
        exact Ev.now _
      · by_cases h3 : (c.toNat : Int) > 122
        · simp only [if_neg h2, if_pos h3, smallB, decide_eq_false (show ¬ (c.toNat : Int) ≤ 122 by omega), Bool.false_and, Bool.and_false]
          exact Ev.now _
        · simp only [if_neg h2, if_neg h3, smallB, decide_eq_true (show (97 : Int) ≤ c.toNat by omega), decide_eq_true (show (c.toNat : Int) ≤ 122 by omega), Bool.true_and]
          exact Ev.bind ho (Ev.now _)
theorem toList_eq (s : ByteArray) : s.toList = s.data.toList := by
  have := Lib.toList_data s
  first | exact this | exact this.symm
theorem specName_ev (s : ByteArray) (h : s.size ≤ 1048576) : Ev (fun k => spec_l01Name.f k s) (nameOk s) := by
  unfold spec_l01Name.f nameOk
  have hj : Ev (fun k => spec_l01Name.j0 k s true) false := by
    refine Ev.step (fun k => spec_l01Name.j0.eq_2 _ _ k) ?_
    simp only [if_true]
    exact Ev.now _
  cases hl : s.data.toList with
  | nil =>
    simp only [toList_eq, hl, if_true]
    exact hj
  | cons c l =>
    have hz : s.size = l.length + 1 := by rw [size_len', hl]; rfl
    simp only [toList_eq, hl, reduceCtorEq, if_false, if_pos (show (0 : Int) < (s.size : Int) by omega), head_at s c l hl, small_eq, Option.bind_some]
    by_cases h1 : (s.size : Int) > 10
    · simp only [if_pos h1, decide_eq_false (show ¬ (s.size : Int) ≤ 10 by omega), Bool.false_and]
      exact hj
    simp only [if_neg h1, decide_eq_true (show (s.size : Int) ≤ 10 by omega), Bool.true_and]
    cases hs : smallB c with
    | false =>
      simp only [Bool.not_false, Bool.false_and]
      exact hj
    | true =>
      simp only [Bool.not_true, Bool.true_and]
      refine Ev.step (fun k => spec_l01Name.j0.eq_2 _ _ k) ?_
      simp only [Bool.false_eq_true, if_false]
      rw [← hl]
      rw [size_len'] at h
      have := all_ev (L := fun k i => spec_l01Name.l0 k s i) s.data.toList nameB true ?_ ?_ ?_
      · simpa using this
      · intro i hi hp P K
        refine EvP.step (fun k => spec_l01Name.l0.eq_2 _ _ k) ?_
        simp only [size_len, if_pos (show (i : Int) < (s.data.toList.length : Int) by omega), if_pos (show (0 : Int) ≤ (i : Int) by omega), bytes_at_ s i hi, w64 (show -9223372036854775808 ≤ (i : Int) + 1 by omega) (by omega), small_eq, dig_eq, Option.bind_some]
        cases h2 : smallB s.data.toList[i] with
        | true => simp only [if_true]; exact K
        | false =>
          simp only [nameB, h2, Bool.false_or] at hp
          simp only [hp, Bool.false_eq_true, if_false, if_true]
          exact K
      · intro i hi hp
        refine Ev.step (fun k => spec_l01Name.l0.eq_2 _ _ k) ?_
        simp only [nameB, Bool.or_eq_false_iff] at hp
        simp only [size_len, if_pos (show (i : Int) < (s.data.toList.length : Int) by omega), if_pos (show (0 : Int) ≤ (i : Int) by omega), bytes_at_ s i hi, w64 (show -9223372036854775808 ≤ (i : Int) + 1 by omega) (by omega), small_eq, dig_eq, Option.bind_some, hp.1, hp.2, Bool.false_eq_true, if_false]
        exact Ev.now _
      · refine Ev.step (fun k => spec_l01Name.l0.eq_2 _ _ k) ?_
        simp only [size_len, if_neg (show ¬ (s.data.toList.length : Int) < (s.data.toList.length : Int) by omega)]
        exact Ev.now _
end Go.Proofs.Ytnabckhhnknlaaa.PBasics
end

section
namespace Go.Proofs.Ytnabckhhnknlaaa.PBlocks
open Go.RowKit Go.Proofs.YtnabckhhnknlaaaW.PrintWords Go.Proofs.Ytnabckhhnknlaaa.XV Go.Proofs.Ytnabckhhnknlaaa.EvK Go.Proofs.Ytnabckhhnknlaaa.PBasics
set_option linter.unusedVariables false
set_option linter.unusedSimpArgs false
def noNl (t : ByteArray) : Bool := t.data.toList.all (fun x => !(x == 10))
def blockOk (a b t : ByteArray) : Bool := nameOk a && (nameOk b && (decide ((t.size : Int) ≤ 400) && noNl t))
theorem validBlock_ev (a b t : ByteArray) (ha : a.size ≤ 1048576) (hb : b.size ≤ 1048576) (ht : t.size ≤ 1048576) : Ev (fun k => impl_ValidBlock.f k a b t) (blockOk a b t) := by
  unfold impl_ValidBlock.f blockOk strings_Contains.f
  rw [if_pos (show t.size < 4294967281 by omega)]
  refine Ev.bind (isName_ev a ha) ?_
  cases nameOk a with
  | false => exact Ev.now _
  | true =>
    simp only [if_true, Bool.true_and]
    refine Ev.bind (isName_ev b hb) ?_
    cases nameOk b with
    | false => exact Ev.now _
    | true =>
      simp only [if_true, Bool.true_and]
      by_cases h : (t.size : Int) ≤ 400
      · simp only [if_pos h, Option.bind_some, decide_eq_true h, Bool.true_and, contains_byte t.data.toList 10, Bool.not_not]
        exact Ev.now _
      · simp only [if_neg h, decide_eq_false h, Bool.false_and]
        exact Ev.now _
theorem oneBlock_ev (a b t : ByteArray) (ha : a.size ≤ 1048576) (hb : b.size ≤ 1048576) (ht : t.size ≤ 1048576) : Ev (fun k => spec_l29One.f k a b t) (blockOk a b t) := by
  unfold spec_l29One.f
  rw [size_len'] at ht
  have e : blockOk a b t = if (t.data.toList.all fun x => !(x == 10)) = true then (nameOk a && (nameOk b && decide ((t.size : Int) ≤ 400))) else false := by
    unfold blockOk noNl
    cases (t.data.toList.all fun x => !(x == 10)) <;> simp
  rw [e]
  refine all_to (L := fun k i => spec_l29One.l0 k i a b t) t.data.toList _ _ _ ?_ ?_ ?_
  · intro i hi hp P K
    refine EvP.step (fun k => spec_l29One.l0.eq_2 _ _ _ _ k) ?_
    have hn : ¬ ((t.data.toList[i].toNat : Int) = 10) := by
      intro h
      have : t.data.toList[i] = 10 := UInt8.toNat_inj.1 (by rw [show ((10 : UInt8).toNat) = 10 from rfl]; omega)
      rw [this] at hp
      exact absurd hp (by decide)
    simp only [size_len, if_pos (show (i : Int) < (t.data.toList.length : Int) by omega), if_pos (show (0 : Int) ≤ (i : Int) by omega), bytes_at_ t i hi, if_neg hn, w64 (show -9223372036854775808 ≤ (i : Int) + 1 by omega) (by omega)]
    simpa only [size_len] using K
  · intro i hi hp
    refine Ev.step (fun k => spec_l29One.l0.eq_2 _ _ _ _ k) ?_
    have hn : ((t.data.toList[i].toNat : Int) = 10) := by
      have : t.data.toList[i] = 10 := by simpa using hp
      rw [this]; rfl
    simp only [size_len, if_pos (show (i : Int) < (t.data.toList.length : Int) by omega), if_pos (show (0 : Int) ≤ (i : Int) by omega), bytes_at_ t i hi, if_pos hn]
    exact Ev.now _
  · intro _
    refine Ev.step (fun k => spec_l29One.l0.eq_2 _ _ _ _ k) ?_
    simp only [size_len, if_neg (show ¬ (t.data.toList.length : Int) < (t.data.toList.length : Int) by omega)]
    refine Ev.bind (specName_ev a ha) ?_
    cases nameOk a with
    | false => exact Ev.now _
    | true =>
      simp only [if_true, Bool.true_and]
      refine Ev.bind (specName_ev b hb) ?_
      cases nameOk b with
      | false => exact Ev.now _
      | true =>
        simp only [if_true, Bool.true_and]
        exact Ev.now _
end Go.Proofs.Ytnabckhhnknlaaa.PBlocks
end

section
namespace Go.Proofs.Ytnabckhhnknlaaa.PBlockL
open Go.RowKit Go.Proofs.YtnabckhhnknlaaaW.PrintWords Go.Proofs.Ytnabckhhnknlaaa.XV Go.Proofs.Ytnabckhhnknlaaa.EvK Go.Proofs.Ytnabckhhnknlaaa.PBasics Go.Proofs.Ytnabckhhnknlaaa.PBlocks
set_option linter.unusedVariables false
set_option linter.unusedSimpArgs false
def lessS (a b : ByteArray) : Bool := Op.bytesLess a.data.toList b.data.toList
def before (a b : S45) : Bool := lessS a.f0 b.f0 || (decide (a.f0.data.toList = b.f0.data.toList) && lessS a.f1 b.f1)
def cmpS (a b : ByteArray) : Int := if lessS a b = true then -1 else if lessS b a = true then 1 else 0
def cmpB (a b : S45) : Int := if cmpS a.f0 b.f0 = 0 then cmpS a.f1 b.f1 else cmpS a.f0 b.f0
theorem less_ge' (a b : ByteArray) : (lessS a b || decide (a.data.toList = b.data.toList)) = !(lessS b a) := by
  have h := less_ge a.data.toList b.data.toList
  unfold lessS
  rw [← h]
  congr 1
  rw [Bool.eq_iff_iff]
  simp
theorem less_ge2 (a b : ByteArray) : (lessS b a || decide (a.data.toList = b.data.toList)) = !(lessS a b) := by
  rw [← less_ge' b a]
  congr 1
  rw [Bool.eq_iff_iff, decide_eq_true_eq, decide_eq_true_eq]
  exact eq_comm
theorem cmpB_ge (a b : S45) : 0 ≤ cmpB a b ↔ before a b = false := by
  have h := less_ge' a.f0 b.f0
  unfold cmpB before cmpS
  cases h1 : lessS a.f0 b.f0 <;> cases h2 : lessS b.f0 a.f0 <;> cases h3 : lessS a.f1 b.f1 <;> cases h4 : lessS b.f1 a.f1 <;> simp_all
theorem cmpB_zero (a b : S45) : cmpB a b = 0 ↔ a.f0.data.toList = b.f0.data.toList ∧ a.f1.data.toList = b.f1.data.toList := by
  have h := less_ge' a.f0 b.f0
  have g := less_ge' a.f1 b.f1
  have h' := less_ge2 a.f0 b.f0
  have g' := less_ge2 a.f1 b.f1
  unfold cmpB cmpS
  cases h1 : lessS a.f0 b.f0 <;> cases h2 : lessS b.f0 a.f0 <;> cases h3 : lessS a.f1 b.f1 <;> cases h4 : lessS b.f1 a.f1 <;> simp_all
theorem compare_eq (a b : ByteArray) : cmp_Compare_string.f a b = some (cmpS a b) := by
  unfold cmp_Compare_string.f cmp_isNaN_string.f cmpS lessS
  simp only [bne_self_eq_false, Option.bind_some, Bool.false_eq_true, if_false, toList_eq]
  by_cases h1 : Op.bytesLess a.data.toList b.data.toList = true
  · simp only [if_pos h1]
  · simp only [if_neg h1]
    by_cases h2 : Op.bytesLess b.data.toList a.data.toList = true
    · simp only [if_pos h2]
    · simp only [if_neg h2]
theorem or_ev (a b : Int) : Ev (fun k => cmp_Or_int.f k [a, b]) (if a = 0 then b else a) := by
  unfold cmp_Or_int.f
  have w1 : wrap64 (0 + 1) = 1 := by rw [w64 (by omega) (by omega)]; rfl
  have w2 : wrap64 (1 + 1) = 2 := by rw [w64 (by omega) (by omega)]; rfl
  have r0 : rd [a, b] 0 = a := rfl
  have r1 : rd [a, b] 1 = b := rfl
  have hl : (([a, b] : List Int).length : Int) = 2 := rfl
  refine Ev.step (fun k => cmp_Or_int.l0.eq_2 _ _ _ _ k) ?_
  simp only [hl, w1, r0, if_pos (show (0 : Int) < 2 by omega), if_pos (show (0 : Int) ≤ 0 by omega)]
  by_cases ha : a = 0
  · simp only [if_pos ha]
    refine Ev.step (fun k => cmp_Or_int.l0.eq_2 _ _ _ _ k) ?_
    simp only [hl, w2, r1, if_pos (show (1 : Int) < 2 by omega), if_pos (show (0 : Int) ≤ 1 by omega)]
    by_cases hb : b = 0
    · simp only [if_pos hb]
      refine Ev.step (fun k => cmp_Or_int.l0.eq_2 _ _ _ _ k) ?_
      simp only [hl, if_neg (show ¬ (2 : Int) < 2 by omega), hb]
      exact Ev.now _
    · simp only [if_neg hb]; exact Ev.now _
  · simp only [if_neg ha]; exact Ev.now _
theorem compareB_ev (a b : S45) : Ev (fun k => impl_compareBlocks.f k a.f0 a.f1 a.f2 b.f0 b.f1 b.f2) (cmpB a b) := by
  unfold impl_compareBlocks.f
  simp only [compare_eq, Option.bind_some]
  exact Ev.bind (or_ev _ _) (Ev.now _)
theorem before_eq (a b : S45) : spec_l29Before.f a.f0 a.f1 a.f2 b.f0 b.f1 b.f2 = some (before a b) := by
  unfold spec_l29Before.f before
  simp only [toList_eq]
  show (if lessS a.f0 b.f0 = true then some true else if a.f0.data.toList = b.f0.data.toList then some (lessS a.f1 b.f1) else some false) = _
  cases lessS a.f0 b.f0
  · by_cases h : a.f0.data.toList = b.f0.data.toList <;> simp [h]
  · simp
def okAt (l : List S45) (i : Nat) : Bool := let b := l.getD i z45; blockOk b.f0 b.f1 b.f2 && (decide (i = 0) || before (l.getD (i - 1) z45) b)
def listOk (l : List S45) : Bool := (List.range l.length).all (okAt l) && decide ((l.length : Int) ≤ 32)
def Small (l : List S45) : Prop := l.length ≤ 1048576 ∧ ∀ x ∈ l, x.f0.size ≤ 1048576 ∧ x.f1.size ≤ 1048576 ∧ x.f2.size ≤ 1048576
theorem rd_nat (l : List S45) (i : Nat) : rd_T45 l (i : Int) = l.getD i z45 := rfl
theorem getD_mem {l : List S45} {i : Nat} (h : i < l.length) : l.getD i z45 ∈ l := by
  rw [List.getD_eq_getElem?_getD, List.getElem?_eq_getElem h]
  exact List.getElem_mem h
theorem specOk_ev (l : List S45) (hs : Small l) : Ev (fun k => spec_l29Ok.f k l) (listOk l) := by
  have hl := hs.1
  unfold spec_l29Ok.f listOk
  have e : ((List.range l.length).all (okAt l) && decide ((l.length : Int) ≤ 32)) = if (List.range l.length).all (okAt l) = true then decide ((l.length : Int) ≤ 32) else false := by
    cases (List.range l.length).all (okAt l) <;> simp
  rw [e]
  refine all_n (L := fun k i => spec_l29Ok.l0 k l i) l.length (okAt l) _ _ ?_ ?_ ?_
  · intro i hi hp P K
    obtain ⟨z0, z1, z2⟩ := hs.2 _ (getD_mem hi)
    refine EvP.step (fun k => spec_l29Ok.l0.eq_2 _ _ k) ?_
    simp only [if_pos (show (i : Int) < (l.length : Int) by omega), if_pos (show (0 : Int) ≤ (i : Int) by omega), rd_nat, w64 (show -9223372036854775808 ≤ (i : Int) + 1 by omega) (by omega), w64 (show -9223372036854775808 ≤ (i : Int) - 1 by omega) (by omega)]
    simp only [okAt, Bool.and_eq_true, Bool.or_eq_true, decide_eq_true_eq] at hp
    refine EvP.bind (oneBlock_ev _ _ _ z0 z1 z2) ?_
    simp only [hp.1, if_true]
    by_cases h0 : i = 0
    · simp only [if_neg (show ¬ (i : Int) > 0 by omega)]
      exact K
    · have hb : before (l.getD (i - 1) z45) (l.getD i z45) = true := by rcases hp.2 with h | h; exact absurd h h0; exact h
      have ei : ((i : Int) - 1) = ((i - 1 : Nat) : Int) := by omega
      simp only [if_pos (show (i : Int) > 0 by omega), ei, rd_nat, if_pos (show (0 : Int) ≤ ((i - 1 : Nat) : Int) by omega), if_pos (show ((i - 1 : Nat) : Int) < (l.length : Int) by omega), before_eq, hb, Option.bind_some, if_true]
      exact K
  · intro i hi hp
    obtain ⟨z0, z1, z2⟩ := hs.2 _ (getD_mem hi)
    refine Ev.step (fun k => spec_l29Ok.l0.eq_2 _ _ k) ?_
    simp only [if_pos (show (i : Int) < (l.length : Int) by omega), if_pos (show (0 : Int) ≤ (i : Int) by omega), rd_nat, w64 (show -9223372036854775808 ≤ (i : Int) + 1 by omega) (by omega), w64 (show -9223372036854775808 ≤ (i : Int) - 1 by omega) (by omega)]
    refine Ev.bind (oneBlock_ev _ _ _ z0 z1 z2) ?_
    simp only [okAt, Bool.and_eq_false_iff, Bool.or_eq_false_iff, decide_eq_false_iff_not] at hp
    cases hk : blockOk (l.getD i z45).f0 (l.getD i z45).f1 (l.getD i z45).f2 with
    | false => simp only [Bool.false_eq_true, if_false]; exact Ev.now _
    | true =>
      obtain ⟨h0, hb⟩ : i ≠ 0 ∧ before (l.getD (i - 1) z45) (l.getD i z45) = false := by rcases hp with h | h; rw [hk] at h; exact absurd h (by decide); exact h
      have ei : ((i : Int) - 1) = ((i - 1 : Nat) : Int) := by omega
      simp only [if_pos (show (i : Int) > 0 by omega), ei, rd_nat, if_pos (show (0 : Int) ≤ ((i - 1 : Nat) : Int) by omega), if_pos (show ((i - 1 : Nat) : Int) < (l.length : Int) by omega), before_eq, hb, Option.bind_some, if_true, Bool.false_eq_true, if_false]
      exact Ev.now _
  · refine Ev.step (fun k => spec_l29Ok.l0.eq_2 _ _ k) ?_
    simp only [if_neg (show ¬ (l.length : Int) < (l.length : Int) by omega)]
    exact Ev.now _
theorem implOk_ev (l : List S45) (hs : Small l) : Ev (fun k => impl_ValidBlocks.f k l) (listOk l) := by
  have hl := hs.1
  unfold impl_ValidBlocks.f listOk
  by_cases h32 : (l.length : Int) > 32
  · simp only [if_pos h32, decide_eq_false (show ¬ (l.length : Int) ≤ 32 by omega), Bool.and_false]
    exact Ev.now _
  simp only [if_neg h32, decide_eq_true (show (l.length : Int) ≤ 32 by omega), Bool.and_true]
  have e : (List.range l.length).all (okAt l) = if (List.range l.length).all (okAt l) = true then true else false := by
    cases (List.range l.length).all (okAt l) <;> simp
  rw [e]
  refine all_n (L := fun k i => impl_ValidBlocks.l0 k l l (l.length : Int) i) l.length (okAt l) _ _ ?_ ?_ ?_
  · intro i hi hp P K
    obtain ⟨z0, z1, z2⟩ := hs.2 _ (getD_mem hi)
    refine EvP.step (fun k => impl_ValidBlocks.l0.eq_2 _ _ _ _ k) ?_
    simp only [if_pos (show (i : Int) < (l.length : Int) by omega), if_pos (show (0 : Int) ≤ (i : Int) by omega), rd_nat, w64 (show -9223372036854775808 ≤ (i : Int) + 1 by omega) (by omega), w64 (show -9223372036854775808 ≤ (i : Int) - 1 by omega) (by omega)]
    simp only [okAt, Bool.and_eq_true, Bool.or_eq_true, decide_eq_true_eq] at hp
    refine EvP.bind (validBlock_ev _ _ _ z0 z1 z2) ?_
    simp only [hp.1, if_true]
    by_cases h0 : i = 0
    · simp only [if_neg (show ¬ (i : Int) > 0 by omega)]
      exact K
    · have hb : before (l.getD (i - 1) z45) (l.getD i z45) = true := by rcases hp.2 with h | h; exact absurd h h0; exact h
      have ei : ((i : Int) - 1) = ((i - 1 : Nat) : Int) := by omega
      simp only [if_pos (show (i : Int) > 0 by omega), ei, rd_nat, if_pos (show (0 : Int) ≤ ((i - 1 : Nat) : Int) by omega), if_pos (show ((i - 1 : Nat) : Int) < (l.length : Int) by omega)]
      refine EvP.bind (compareB_ev _ _) ?_
      have hc := cmpB_ge (l.getD (i - 1) z45) (l.getD i z45)
      rw [hb] at hc
      simp only [if_neg (show ¬ (cmpB (l.getD (i - 1) z45) (l.getD i z45) ≥ 0) from fun h => absurd (hc.1 h) (by decide))]
      exact K
  · intro i hi hp
    obtain ⟨z0, z1, z2⟩ := hs.2 _ (getD_mem hi)
    refine Ev.step (fun k => impl_ValidBlocks.l0.eq_2 _ _ _ _ k) ?_
    simp only [if_pos (show (i : Int) < (l.length : Int) by omega), if_pos (show (0 : Int) ≤ (i : Int) by omega), rd_nat, w64 (show -9223372036854775808 ≤ (i : Int) + 1 by omega) (by omega), w64 (show -9223372036854775808 ≤ (i : Int) - 1 by omega) (by omega)]
    refine Ev.bind (validBlock_ev _ _ _ z0 z1 z2) ?_
    simp only [okAt, Bool.and_eq_false_iff, Bool.or_eq_false_iff, decide_eq_false_iff_not] at hp
    cases hk : blockOk (l.getD i z45).f0 (l.getD i z45).f1 (l.getD i z45).f2 with
    | false => simp only [Bool.false_eq_true, if_false]; exact Ev.now _
    | true =>
      obtain ⟨h0, hb⟩ : i ≠ 0 ∧ before (l.getD (i - 1) z45) (l.getD i z45) = false := by rcases hp with h | h; rw [hk] at h; exact absurd h (by decide); exact h
      have ei : ((i : Int) - 1) = ((i - 1 : Nat) : Int) := by omega
      simp only [if_true, if_pos (show (i : Int) > 0 by omega), ei, rd_nat, if_pos (show (0 : Int) ≤ ((i - 1 : Nat) : Int) by omega), if_pos (show ((i - 1 : Nat) : Int) < (l.length : Int) by omega)]
      refine Ev.bind (compareB_ev _ _) ?_
      have hc := cmpB_ge (l.getD (i - 1) z45) (l.getD i z45)
      simp only [if_pos (show cmpB (l.getD (i - 1) z45) (l.getD i z45) ≥ 0 from hc.2 hb)]
      exact Ev.now _
  · refine Ev.step (fun k => impl_ValidBlocks.l0.eq_2 _ _ _ _ k) ?_
    simp only [if_neg (show ¬ (l.length : Int) < (l.length : Int) by omega)]
    exact Ev.now _
end Go.Proofs.Ytnabckhhnknlaaa.PBlockL
end

section
namespace Go.Proofs.Ytnabckhhnknlaaa.PSearch
open Go.RowKit Go.Proofs.YtnabckhhnknlaaaW.PrintWords Go.Proofs.Ytnabckhhnknlaaa.XV Go.Proofs.Ytnabckhhnknlaaa.EvK Go.Proofs.Ytnabckhhnknlaaa.PBasics Go.Proofs.Ytnabckhhnknlaaa.PBlocks Go.Proofs.Ytnabckhhnknlaaa.PBlockL
set_option linter.unusedVariables false
set_option linter.unusedSimpArgs false
theorem less_trans : ∀ (x y z : List UInt8), Op.bytesLess x y = true → Op.bytesLess y z = true → Op.bytesLess x z = true
  | _, y, [], _, h => by cases y <;> simp [Op.bytesLess] at h
  | _, [], _ :: _, h, _ => by simp [Op.bytesLess] at h
  | [], b :: y, c :: z, _, _ => rfl
  | a :: x, b :: y, c :: z, h1, h2 => by
    simp only [Op.bytesLess, Bool.or_eq_true, Bool.and_eq_true, decide_eq_true_eq, beq_iff_eq] at h1 h2 ⊢
    rcases h1 with h1 | ⟨rfl, h1⟩ <;> rcases h2 with h2 | ⟨rfl, h2⟩
    · exact Or.inl (UInt8.lt_trans h1 h2)
    · exact Or.inl h1
    · exact Or.inl h2
    · exact Or.inr ⟨rfl, less_trans x y z h1 h2⟩
theorem before_trans {a b c : S45} (h1 : before a b = true) (h2 : before b c = true) : before a c = true := by
  simp only [before, lessS, Bool.or_eq_true, Bool.and_eq_true, decide_eq_true_eq] at h1 h2 ⊢
  rcases h1 with h1 | ⟨e1, h1⟩ <;> rcases h2 with h2 | ⟨e2, h2⟩
  · exact Or.inl (less_trans _ _ _ h1 h2)
  · rw [← e2]; exact Or.inl h1
  · rw [e1]; exact Or.inl h2
  · exact Or.inr ⟨e1.trans e2, less_trans _ _ _ h1 h2⟩
theorem before_congr {a b c : S45} (e0 : b.f0.data.toList = c.f0.data.toList) (e1 : b.f1.data.toList = c.f1.data.toList) : before a b = before a c := by
  simp only [before, lessS, e0, e1]
def Sorted (l : List S45) : Prop := ∀ q p, q < p → p < l.length → before (l.getD q z45) (l.getD p z45) = true
theorem sorted_of {l : List S45} (h : listOk l = true) : Sorted l := by
  unfold listOk at h
  rw [Bool.and_eq_true, List.all_eq_true] at h
  have adj : ∀ p, p + 1 < l.length → before (l.getD p z45) (l.getD (p + 1) z45) = true := by
    intro p hp
    have := h.1 (p + 1) (List.mem_range.2 hp)
    simp only [okAt, Bool.and_eq_true, Bool.or_eq_true, decide_eq_true_eq] at this
    rcases this.2 with h | h
    · omega
    · simpa using h
  intro q p hqp hp
  induction p with
  | zero => omega
  | succ p ih =>
    by_cases hq : q = p
    · subst hq; exact adj q hp
    · exact before_trans (ih (by omega) (by omega)) (adj p hp)
theorem mid_eq {n : Int} (h0 : 0 ≤ n) (h1 : n ≤ 4611686018427387904) : wrap64 ((IntKind.u64.wrap (wrap64 n)) / 2) = n / 2 := by
  rw [w64 (show -9223372036854775808 ≤ n by omega) (by omega)]
  have e : IntKind.u64.wrap n = n := by
    simp only [IntKind.wrap, IntKind.bits, IntKind.signed]
    first | omega | (simp; omega)
  rw [e, w64 (by omega) (by omega)]
def At (l : List S45) (t : S45) (i : Nat) : Prop := i ≤ l.length ∧ (∀ p, p < i → before (l.getD p z45) t = true) ∧ (∀ p, i ≤ p → p < l.length → before (l.getD p z45) t = false)
def hit (l : List S45) (t : S45) (i : Nat) : Bool := decide (i < l.length) && (cmpB (l.getD i z45) t == 0)
theorem search_loop (l : List S45) (t : S45) (hl : l.length ≤ 1048576) (hs : Sorted l) : ∀ (d i j : Nat), j - i ≤ d → i ≤ j → j ≤ l.length → (∀ p, p < i → before (l.getD p z45) t = true) → (∀ p, j ≤ p → p < l.length → before (l.getD p z45) t = false) →
    EvP (fun k => slices_BinarySearchFunc_BlockS.l0 k l (l.length : Int) (i : Int) (j : Int) t.f0 t.f1 t.f2) (fun x => ∃ i, At l t i ∧ x = ((i : Int), hit l t i)) := by
  intro d
  induction d with
  | zero =>
    intro i j hd hij hj h1 h2
    obtain rfl : i = j := by omega
    refine EvP.step (fun k => slices_BinarySearchFunc_BlockS.l0.eq_2 _ _ _ _ _ _ _ k) ?_
    simp only [if_neg (show ¬ (i : Int) < (i : Int) by omega)]
    by_cases hn : i < l.length
    · simp only [if_pos (show (i : Int) < (l.length : Int) by omega), if_pos (show (0 : Int) ≤ (i : Int) by omega), rd_nat]
      refine EvP.bind (compareB_ev _ _) ?_
      exact EvP.now ⟨i, ⟨hj, h1, h2⟩, by rw [hit, decide_eq_true hn, Bool.true_and]⟩
    · simp only [if_neg (show ¬ (i : Int) < (l.length : Int) by omega)]
      exact EvP.now ⟨i, ⟨hj, h1, h2⟩, by rw [hit, decide_eq_false hn, Bool.false_and]⟩
  | succ d ih =>
    intro i j hd hij hj h1 h2
    by_cases he : i = j
    · exact ih i j (by omega) hij hj h1 h2
    have em : wrap64 ((IntKind.u64.wrap (wrap64 ((i : Int) + (j : Int)))) / 2) = (((i + j) / 2 : Nat) : Int) := by
      rw [mid_eq (by omega) (by omega)]; omega
    refine EvP.step (fun k => slices_BinarySearchFunc_BlockS.l0.eq_2 _ _ _ _ _ _ _ k) ?_
    simp only [if_pos (show (i : Int) < (j : Int) by omega), em, if_pos (show (0 : Int) ≤ (((i + j) / 2 : Nat) : Int) by omega), if_pos (show (((i + j) / 2 : Nat) : Int) < (l.length : Int) by omega), rd_nat, w64 (show -9223372036854775808 ≤ (((i + j) / 2 : Nat) : Int) + 1 by omega) (by omega)]
    refine EvP.bind (compareB_ev _ _) ?_
    have hc := cmpB_ge (l.getD ((i + j) / 2) z45) t
    cases hb : before (l.getD ((i + j) / 2) z45) t with
    | true =>
      simp only [if_pos (show cmpB (l.getD ((i + j) / 2) z45) t < 0 by rw [hb] at hc; exact Int.not_le.1 (fun h => absurd (hc.1 h) (by decide)))]
      have := ih ((i + j) / 2 + 1) j (by omega) (by omega) hj (fun p hp => ?_) h2
      · simpa using this
      · by_cases hq : p = (i + j) / 2
        · rw [hq]; exact hb
        · exact before_trans (hs p ((i + j) / 2) (by omega) (by omega)) hb
    | false =>
      simp only [if_neg (show ¬ cmpB (l.getD ((i + j) / 2) z45) t < 0 from Int.not_lt.2 (hc.2 hb))]
      refine ih i ((i + j) / 2) (by omega) (by omega) (by omega) h1 (fun p hp hp2 => ?_)
      by_cases hq : p = (i + j) / 2
      · rw [hq]; exact hb
      · cases hpb : before (l.getD p z45) t with
        | false => rfl
        | true =>
          have := before_trans (hs ((i + j) / 2) p (by omega) hp2) hpb
          rw [hb] at this
          exact absurd this (by decide)
theorem search_ev (l : List S45) (t : S45) (hl : l.length ≤ 1048576) (hs : Sorted l) : ∃ i, At l t i ∧ Ev (fun k => slices_BinarySearchFunc_BlockS.f k l t.f0 t.f1 t.f2) ((i : Int), hit l t i) := by
  obtain ⟨r, hr, i, ha, rfl⟩ := search_loop l t hl hs l.length 0 l.length (by omega) (by omega) (by omega) (fun p hp => by omega) (fun p hp hp2 => by omega)
  exact ⟨i, ha, hr⟩
end Go.Proofs.Ytnabckhhnknlaaa.PSearch
end

section
namespace Go.Proofs.Ytnabckhhnknlaaa.PPut
open Go.RowKit Go.Proofs.YtnabckhhnknlaaaW.PrintWords Go.Proofs.Ytnabckhhnknlaaa.XV Go.Proofs.Ytnabckhhnknlaaa.EvK Go.Proofs.Ytnabckhhnknlaaa.PBasics Go.Proofs.Ytnabckhhnknlaaa.PBlocks Go.Proofs.Ytnabckhhnknlaaa.PBlockL Go.Proofs.Ytnabckhhnknlaaa.PSearch
set_option linter.unusedVariables false
set_option linter.unusedSimpArgs false
def Same (a b : S45) : Prop := a.f0.data.toList = b.f0.data.toList ∧ a.f1.data.toList = b.f1.data.toList
theorem before_turn {a b : S45} (h : before a b = false) (hn : ¬ Same a b) : before b a = true := by
  have hz : ¬ cmpB a b = 0 := fun h => hn ((cmpB_zero a b).1 h)
  have hg := (cmpB_ge a b).2 h
  unfold cmpB cmpS at hz hg
  unfold before
  have e1 := less_ge' a.f0 b.f0
  have e2 := less_ge' a.f1 b.f1
  have e3 := less_ge2 a.f0 b.f0
  have e4 := less_ge2 a.f1 b.f1
  cases h1 : lessS a.f0 b.f0 <;> cases h2 : lessS b.f0 a.f0 <;> cases h3 : lessS a.f1 b.f1 <;> cases h4 : lessS b.f1 a.f1 <;> simp_all
theorem before_congr1 {a b c : S45} (h : Same a b) : before a c = before b c := by
  simp only [before, lessS, h.1, h.2]
theorem not_before_same {a b : S45} (h : Same a b) : before a b = false := (cmpB_ge a b).1 (by rw [(cmpB_zero a b).2 h]; omega)
def skip (l : List S45) (t : S45) (i : Nat) : Nat := if hit l t i = true then 1 else 0
def putAt (l : List S45) (t : S45) (i : Nat) : List S45 := l.take i ++ [t] ++ l.drop (i + skip l t i)
theorem skip_le (l : List S45) (t : S45) (i : Nat) (hi : i ≤ l.length) : i + skip l t i ≤ l.length := by
  unfold skip
  split
  · rename_i h
    simp only [hit, Bool.and_eq_true, decide_eq_true_eq] at h
    omega
  · omega
theorem putAt_len (l : List S45) (t : S45) (i : Nat) (hi : i ≤ l.length) : (putAt l t i).length = l.length + 1 - skip l t i := by
  have := skip_le l t i hi
  unfold putAt
  rw [List.length_append, List.length_append, List.length_take, List.length_drop]
  simp only [List.length_cons, List.length_nil]
  omega
theorem putAt_get (l : List S45) (t : S45) (i q : Nat) (hi : i ≤ l.length) : (putAt l t i).getD q z45 = if q < i then l.getD q z45 else if q = i then t else l.getD (q - 1 + skip l t i) z45 := by
  unfold putAt
  simp only [List.getD_eq_getElem?_getD]
  by_cases h1 : q < i
  · rw [if_pos h1, List.append_assoc, List.getElem?_append_left (by rw [List.length_take]; omega), List.getElem?_take, if_pos h1]
  · rw [if_neg h1]
    by_cases h2 : q = i
    · subst h2
      rw [if_pos rfl, List.append_assoc, List.getElem?_append_right (by rw [List.length_take]; omega), List.length_take, Nat.min_eq_left hi, Nat.sub_self]
      rfl
    · rw [if_neg h2, List.getElem?_append_right (by rw [List.length_append, List.length_take]; simp only [List.length_cons, List.length_nil]; omega), List.length_append, List.length_take, Nat.min_eq_left hi, List.getElem?_drop]
      simp only [List.length_cons, List.length_nil]
      congr 2
      omega
theorem behind {l : List S45} {t : S45} {i : Nat} (hs : Sorted l) (ha : At l t i) (m : Nat) (h1 : i + skip l t i ≤ m) (h2 : m < l.length) : before t (l.getD m z45) = true := by
  cases hh : hit l t i with
  | true =>
    have e : skip l t i = 1 := by unfold skip; rw [if_pos hh]
    simp only [hit, Bool.and_eq_true, decide_eq_true_eq, beq_iff_eq] at hh
    have hz : Same (l.getD i z45) t := (cmpB_zero (l.getD i z45) t).1 hh.2
    have := hs i m (by omega) h2
    rwa [before_congr1 hz] at this
  | false =>
    have e : skip l t i = 0 := by unfold skip; rw [hh]; rfl
    have hn : ¬ Same (l.getD i z45) t := by
      intro h
      have := (cmpB_zero (l.getD i z45) t).2 h
      simp only [hit, decide_eq_true (show i < l.length by omega), Bool.true_and, beq_eq_false_iff_ne] at hh
      exact hh this
    have hb := before_turn (ha.2.2 i (Nat.le_refl _) (by omega)) hn
    by_cases hm : m = i
    · rw [hm]; exact hb
    · exact before_trans hb (hs i m (by omega) h2)
theorem not_same {l : List S45} {t : S45} {i : Nat} (hs : Sorted l) (ha : At l t i) (m : Nat) (h1 : m < i ∨ i + skip l t i ≤ m) (h2 : m < l.length) : ¬ Same (l.getD m z45) t := by
  intro h
  rcases h1 with h1 | h1
  · have := ha.2.1 m h1
    rw [not_before_same h] at this
    exact absurd this (by decide)
  · have := behind hs ha m h1 h2
    rw [not_before_same ⟨h.1.symm, h.2.symm⟩] at this
    exact absurd this (by decide)
theorem putAt_sorted {l : List S45} {t : S45} {i : Nat} (hs : Sorted l) (ha : At l t i) : Sorted (putAt l t i) := by
  have hsk := skip_le l t i ha.1
  intro q p hqp hp
  rw [putAt_len l t i ha.1] at hp
  rw [putAt_get l t i q ha.1, putAt_get l t i p ha.1]
  by_cases q1 : q < i
  · rw [if_pos q1]
    by_cases p1 : p < i
    · rw [if_pos p1]; exact hs q p hqp (by omega)
    · rw [if_neg p1]
      by_cases p2 : p = i
      · rw [if_pos p2]; exact ha.2.1 q q1
      · rw [if_neg p2]
        exact hs q _ (by omega) (by omega)
  · rw [if_neg q1, if_neg (show ¬ p < i by omega), if_neg (show ¬ p = i by omega)]
    by_cases q2 : q = i
    · rw [if_pos q2]; exact behind hs ha _ (by omega) (by omega)
    · rw [if_neg q2]; exact hs _ _ (by omega) (by omega)
theorem with_ev (l : List S45) (t : S45) (hl : l.length ≤ 1048576) (hs : Sorted l) : ∃ i, At l t i ∧ Ev (fun k => impl_withBlock.f k l t.f0 t.f1 t.f2) (putAt l t i) := by
  obtain ⟨i, ha, h1⟩ := search_ev l t hl hs
  refine ⟨i, ha, ?_⟩
  have hi := ha.1
  unfold impl_withBlock.f
  refine Ev.bind h1 ?_
  simp only [if_pos (show 0 ≤ (i : Int) ∧ (i : Int) ≤ (l.length : Int) ∧ l.length < 2932031007400 by omega), Int.toNat_natCast]
  cases hh : hit l t i with
  | true =>
    have hlt : i < l.length := by
      simp only [hit, Bool.and_eq_true, decide_eq_true_eq] at hh
      exact hh.1
    simp only [if_true, if_pos (show (i : Int) < (l.length : Int) by omega)]
    refine Ev.some ?_
    unfold putAt skip
    rw [if_pos hh, List.set_eq_take_append_cons_drop, if_pos hlt]
    simp
  | false =>
    simp only [Bool.false_eq_true, if_false]
    refine Ev.some ?_
    unfold putAt skip
    rw [hh]
    simp
theorem put_ev (l : List S45) (t : S45) (hl : l.length ≤ 1048576) (hs : Sorted l) (i : Nat) (ha : At l t i) : Ev (fun k => spec_l29Put.f k l t.f0 t.f1 t.f2) (putAt l t i) := by
  have hi := ha.1
  have hsk := skip_le l t i hi
  have hsk1 : skip l t i ≤ 1 := by unfold skip; split <;> omega
  unfold spec_l29Put.f
  apply EvP.eq
  refine for_evp (L := fun k (s : List S45 × Bool) q => spec_l29Put.l0 k l s.1 s.2 q t.f0 t.f1 t.f2) l.length
    (fun q s => if q ≤ i then s = (l.take q, false) else s = (l.take i ++ [t] ++ (l.drop (i + skip l t i)).take (q - i - skip l t i), true)) ?_ ?_ ([], false) (by simp)
  · intro q s hq hinv K
    have hbt : before_eq (l.getD q z45) t = before_eq (l.getD q z45) t := rfl
    refine EvP.step (fun k => spec_l29Put.l0.eq_2 _ _ _ _ _ _ _ k) ?_
    have w1 := w64 (show -9223372036854775808 ≤ (q : Int) + 1 by omega) (by omega)
    by_cases h1 : q < i
    · rw [if_pos (by omega)] at hinv
      subst hinv
      have hn := not_same hs ha q (.inl h1) hq
      have hle : (l.take q).length < 2932031007402 := by rw [List.length_take]; omega
      have e : l.getD q z45 = l[q] := by rw [List.getD_eq_getElem?_getD, List.getElem?_eq_getElem hq]; rfl
      have K1 := K (l.take (q + 1), false) (by rw [if_pos (by omega)])
      simp only [if_pos (show (q : Int) < (l.length : Int) by omega), Bool.false_eq_true, if_false, if_pos (show (0 : Int) ≤ (q : Int) by omega), rd_nat, before_eq, ha.2.1 q h1, Option.bind_some, Bool.not_true]
      refine EvP.step (fun k => spec_l29Put.j1.eq_2 _ _ _ _ _ _ _ _ k) ?_
      simp only [Bool.false_eq_true, if_false, if_pos (show (q : Int) < (l.length : Int) by omega), if_pos (show (0 : Int) ≤ (q : Int) by omega), rd_nat, toList_eq, w1, if_pos hle]
      rw [List.take_succ_eq_append_getElem hq, ← e] at K1
      by_cases h0 : (l.getD q z45).f0.data.toList = t.f0.data.toList
      · simp only [if_pos h0, if_neg (show ¬ (l.getD q z45).f1.data.toList = t.f1.data.toList from fun h => hn ⟨h0, h⟩)]
        exact K1
      · simp only [if_neg h0]
        exact K1
    · by_cases h2 : q = i
      · subst h2
        rw [if_pos (by omega)] at hinv
        subst hinv
        have K1 := K (l.take q ++ [t] ++ (l.drop (q + skip l t q)).take (q + 1 - q - skip l t q), true) (by rw [if_neg (by omega)])
        have hle : (l.take q).length < 2932031007402 := by rw [List.length_take]; omega
        have hle2 : (l.take q ++ [t]).length < 2932031007402 := by rw [List.length_append, List.length_take]; simp only [List.length_cons, List.length_nil]; omega
        simp only [if_pos (show (q : Int) < (l.length : Int) by omega), Bool.false_eq_true, if_false, if_pos (show (0 : Int) ≤ (q : Int) by omega), rd_nat, before_eq, ha.2.2 q (Nat.le_refl _) hq, Option.bind_some, Bool.not_false]
        refine EvP.step (fun k => spec_l29Put.j1.eq_2 _ _ _ _ _ _ _ _ k) ?_
        simp only [if_true, if_pos hle, Option.bind_some, if_pos (show (q : Int) < (l.length : Int) by omega), if_pos (show (0 : Int) ≤ (q : Int) by omega), rd_nat, toList_eq, w1, if_pos hle2]
        cases hh : hit l t q with
        | true =>
          have e : skip l t q = 1 := by unfold skip; rw [if_pos hh]
          simp only [hit, Bool.and_eq_true, decide_eq_true_eq, beq_iff_eq] at hh
          have hz := (cmpB_zero (l.getD q z45) t).1 hh.2
          simp only [if_pos hz.1, if_pos hz.2]
          rw [e, show q + 1 - q - 1 = 0 by omega, List.take_zero, List.append_nil] at K1
          exact K1
        | false =>
          have e : skip l t q = 0 := by unfold skip; rw [hh]; rfl
          have hn : ¬ Same (l.getD q z45) t := not_same hs ha q (.inr (by omega)) hq
          have e2 : (l.drop (q + 0)).take 1 = [l.getD q z45] := by
            rw [Nat.add_zero, List.drop_eq_getElem_cons hq, List.getD_eq_getElem?_getD, List.getElem?_eq_getElem hq]; rfl
          rw [e, show q + 1 - q - 0 = 1 by omega, e2] at K1
          by_cases h0 : (l.getD q z45).f0.data.toList = t.f0.data.toList
          · simp only [if_pos h0, if_neg (show ¬ (l.getD q z45).f1.data.toList = t.f1.data.toList from fun h => hn ⟨h0, h⟩)]
            exact K1
          · simp only [if_neg h0]
            exact K1
      · rw [if_neg (by omega)] at hinv
        subst hinv
        have hn := not_same hs ha q (.inr (by omega)) hq
        have hdl : q - i - skip l t i < (l.drop (i + skip l t i)).length := by rw [List.length_drop]; omega
        have hle : (l.take i ++ [t] ++ (l.drop (i + skip l t i)).take (q - i - skip l t i)).length < 2932031007402 := by
          rw [List.length_append, List.length_append, List.length_take, List.length_take, List.length_drop]; simp only [List.length_cons, List.length_nil]; omega
        have K1 := K (l.take i ++ [t] ++ (l.drop (i + skip l t i)).take (q + 1 - i - skip l t i), true) (by rw [if_neg (by omega)])
        have e : (l.drop (i + skip l t i))[q - i - skip l t i] = l.getD q z45 := by
          rw [List.getElem_drop, List.getD_eq_getElem?_getD, List.getElem?_eq_getElem hq]
          show _ = l[q]
          congr 1
          omega
        rw [show q + 1 - i - skip l t i = q - i - skip l t i + 1 by omega, List.take_succ_eq_append_getElem hdl, e, ← List.append_assoc] at K1
        simp only [if_pos (show (q : Int) < (l.length : Int) by omega), if_true]
        refine EvP.step (fun k => spec_l29Put.j1.eq_2 _ _ _ _ _ _ _ _ k) ?_
        simp only [Bool.false_eq_true, if_false, if_pos (show (q : Int) < (l.length : Int) by omega), if_pos (show (0 : Int) ≤ (q : Int) by omega), rd_nat, toList_eq, w1, if_pos hle]
        by_cases h0 : (l.getD q z45).f0.data.toList = t.f0.data.toList
        · simp only [if_pos h0, if_neg (show ¬ (l.getD q z45).f1.data.toList = t.f1.data.toList from fun h => hn ⟨h0, h⟩)]
          exact K1
        · simp only [if_neg h0]
          exact K1
  · intro s hinv
    refine EvP.step (fun k => spec_l29Put.l0.eq_2 _ _ _ _ _ _ _ k) ?_
    simp only [if_neg (show ¬ (l.length : Int) < (l.length : Int) by omega)]
    by_cases h : l.length ≤ i
    · obtain rfl : i = l.length := by omega
      rw [if_pos (Nat.le_refl _)] at hinv
      subst hinv
      have e : skip l t l.length = 0 := by omega
      simp only [Bool.false_eq_true, if_false, List.take_length, if_pos (show l.length < 2932031007402 by omega)]
      refine EvP.now ?_
      unfold putAt
      rw [e, Nat.add_zero, List.take_length, List.drop_length, List.append_nil]
    · rw [if_neg h] at hinv
      subst hinv
      simp only [if_true]
      refine EvP.now ?_
      have e : (l.drop (i + skip l t i)).take (l.length - i - skip l t i) = l.drop (i + skip l t i) := List.take_of_length_le (by rw [List.length_drop]; omega)
      rw [e]
      rfl
end Go.Proofs.Ytnabckhhnknlaaa.PPut
end

section
namespace Go.Proofs.Ytnabckhhnknlaaa.PDraw29
open Go.RowKit Go.Proofs.YtnabckhhnknlaaaW.PrintWords Go.Proofs.Ytnabckhhnknlaaa.XV Go.Proofs.Ytnabckhhnknlaaa.EvK Go.Proofs.Ytnabckhhnknlaaa.PBasics Go.Proofs.Ytnabckhhnknlaaa.PBlocks Go.Proofs.Ytnabckhhnknlaaa.PBlockL Go.Proofs.Ytnabckhhnknlaaa.PSearch Go.Proofs.Ytnabckhhnknlaaa.PPut Go.Proofs.Ytnabckhhnknlaaa.PSrc Go.Proofs.Ytnabckhhnknlaaa.PDec
set_option linter.unusedVariables false
set_option linter.unusedSimpArgs false
theorem draw05_ev {c : List Int} (hc : Bytes c) (a s : Int) (id : ByteArray) (h0 : 0 ≤ a) (h1 : a + 100 ≤ 4611686018427387000) :
    ∃ (n1 n2 n3 n4 : Int) (l : List Int) (a' s' : Int), Ev (fun k => spec_l05DrawOne.f k c a s id) (id, n1, n2, n3, n4, l, a', s') ∧ On a a' 100 ∧ l.length ≤ 24 ∧
      (∀ x ∈ l, -9223372036854775808 ≤ x ∧ x ≤ 9223372036854775807) ∧ (∀ x ∈ [n1, n2, n3, n4], -9223372036854775808 ≤ x ∧ x ≤ 9223372036854775807) := by
  obtain ⟨x1, a1, s1, e1, p1, q1, o1⟩ := pick_eq hc a s 6 h0 (by omega)
  unfold On at o1
  obtain ⟨x2, a2, s2, e2, p2, q2, o2⟩ := pick_eq hc a1 s1 200 (by omega) (by omega)
  unfold On at o2
  obtain ⟨x3, a3, s3, e3, p3, q3, o3⟩ := pick_eq hc a2 s2 40 (by omega) (by omega)
  unfold On at o3
  obtain ⟨x4, a4, s4, e4, p4, q4, o4⟩ := pick_eq hc a3 s3 8 (by omega) (by omega)
  unfold On at o4
  have w2 := q2 (by omega); have w3 := q3 (by omega); have w4 := q4 (by omega); have w1 := q1 (by omega)
  have key : ∀ (d : Nat) (q : Nat) (l : List Int) (a s : Int), q + d = 24 → l.length = q → 0 ≤ a → a + 2 * (d : Int) ≤ 4611686018427387000 → (∀ x ∈ l, 0 ≤ x ∧ x ≤ 2200) → ∃ (l' : List Int) (a' s' : Int),
      Ev (fun k => spec_l05DrawOne.l0 k (q : Int) c a s id x1 (wrap64 (100 * x2)) (wrap64 (50 * x3)) (wrap64 (1200 + wrap64 (100 * x4))) l) (id, x1, wrap64 (100 * x2), wrap64 (50 * x3), wrap64 (1200 + wrap64 (100 * x4)), l', a', s') ∧ On a a' (2 * d) ∧ l'.length ≤ 24 ∧ (∀ x ∈ l', 0 ≤ x ∧ x ≤ 2200) := by
    intro d
    induction d with
    | zero =>
      intro q l a s hq hl ha1 ha2 hx
      refine ⟨l, a, s, Ev.step (fun k => spec_l05DrawOne.l0.eq_2 _ _ _ _ _ _ _ _ _ _ k) ?_, ⟨by omega, by omega⟩, by omega, hx⟩
      simp only [if_neg (show ¬ (q : Int) < 24 by omega)]
      exact Ev.now _
    | succ d ih =>
      intro q l a s hq hl ha1 ha2 hx
      obtain ⟨y, a1, s1, e, hy, o⟩ := among_eq hc a s [400, 1000, 1000, 1500, 2200] (by simp) ha1 (by omega)
      unfold On at o
      have hy2 : 0 ≤ y ∧ y ≤ 2200 := by
        simp only [List.mem_cons, List.not_mem_nil, or_false] at hy
        omega
      obtain ⟨l', a', s', g1, g2, g3, g4⟩ := ih (q + 1) (l ++ [y]) a1 s1 (by omega) (by rw [List.length_append, hl]; rfl) (by omega) (by omega) (by
        intro x hm
        rcases List.mem_append.1 hm with hm | hm
        · exact hx x hm
        · rw [List.mem_singleton.1 hm]; exact hy2)
      unfold On at g2
      refine ⟨l', a', s', Ev.step (fun k => spec_l05DrawOne.l0.eq_2 _ _ _ _ _ _ _ _ _ _ k) ?_, ⟨by omega, by omega⟩, g3, g4⟩
      simp only [if_pos (show (q : Int) < 24 by omega), e, Option.bind_some, if_pos (show l.length < 17592186044416 by omega), w64 (show -9223372036854775808 ≤ (q : Int) + 1 by omega) (by omega)]
      simpa using g1
  obtain ⟨l', a', s', g1, g2, g3, g4⟩ := key 24 0 [] a4 s4 (by omega) rfl (by omega) (by omega) (by simp)
  unfold On at g2
  refine ⟨x1, wrap64 (100 * x2), wrap64 (50 * x3), wrap64 (1200 + wrap64 (100 * x4)), l', a', s', ?_, ⟨by omega, by omega⟩, g3, fun x hx => by have := g4 x hx; omega, ?_⟩
  · unfold spec_l05DrawOne.f
    simp only [e1, e2, e3, e4, Option.bind_some]
    simpa using g1
  · have v2 := w64 (show -9223372036854775808 ≤ 100 * x2 by omega) (by omega)
    have v3 := w64 (show -9223372036854775808 ≤ 50 * x3 by omega) (by omega)
    have v4 := w64 (show -9223372036854775808 ≤ 100 * x4 by omega) (by omega)
    have v5 := w64 (show -9223372036854775808 ≤ 1200 + 100 * x4 by omega) (by omega)
    intro x hx
    simp only [List.mem_cons, List.not_mem_nil, or_false, v2, v3, v4, v5] at hx
    omega
theorem text05_ev (id : ByteArray) (n1 n2 n3 n4 : Int) (l : List Int) (hid : id.size ≤ 1000) (hl : l.length ≤ 24) (h : ∀ x ∈ l, -9223372036854775808 ≤ x ∧ x ≤ 9223372036854775807) (hn : ∀ x ∈ [n1, n2, n3, n4], -9223372036854775808 ≤ x ∧ x ≤ 9223372036854775807) :
    ∃ t : ByteArray, Ev (fun k => spec_l05Text.f k id n1 n2 n3 n4 l) t ∧ t.size ≤ 4000 := by
  obtain ⟨t1, e1, z1⟩ := list_short [n1, n2, n3, n4] (by simp) hn
  obtain ⟨t2, e2, z2⟩ := list_short l (by omega) h
  simp only [List.length_cons, List.length_nil] at z1
  have s1 : (id ++ (⟨#[32]⟩ : ByteArray)).size = id.size + 1 := by rw [ByteArray.size_append]; rfl
  have s2 : (id ++ (⟨#[32]⟩ : ByteArray) ++ t1).size = id.size + 1 + t1.size := by rw [ByteArray.size_append, s1]
  have s3 : (id ++ (⟨#[32]⟩ : ByteArray) ++ t1 ++ (⟨#[32]⟩ : ByteArray)).size = id.size + 1 + t1.size + 1 := by rw [ByteArray.size_append, s2]; rfl
  have s4 : (id ++ (⟨#[32]⟩ : ByteArray) ++ t1 ++ (⟨#[32]⟩ : ByteArray) ++ t2).size = id.size + 1 + t1.size + 1 + t2.size := by rw [ByteArray.size_append, s3]
  refine ⟨_, ?_, by rw [s4]; omega⟩
  unfold spec_l05Text.f
  simp only [if_pos (show id.size + 1 ≤ 9223372036854775807 by omega)]
  refine Ev.bind e1 ?_
  simp only [if_pos (show (id ++ (⟨#[32]⟩ : ByteArray)).size + t1.size ≤ 9223372036854775807 by omega), if_pos (show (id ++ (⟨#[32]⟩ : ByteArray) ++ t1).size + 1 ≤ 9223372036854775807 by omega)]
  refine Ev.bind e2 ?_
  simp only [if_pos (show (id ++ (⟨#[32]⟩ : ByteArray) ++ t1 ++ (⟨#[32]⟩ : ByteArray)).size + t2.size ≤ 9223372036854775807 by omega)]
  exact Ev.now _
def Three (k : ByteArray) : Prop := k ∈ [(⟨#[98, 117, 105, 108, 100, 105, 110, 103]⟩ : ByteArray), ⟨#[110, 111, 116, 101]⟩, ⟨#[102, 97, 99, 101]⟩]
theorem drawOne_ev {c : List Int} (hc : Bytes c) (a s : Int) (h0 : 0 ≤ a) (h1 : a + 2000 ≤ 4611686018427380000) :
    ∃ (k n t : ByteArray) (a' s' : Int), Ev (fun q => spec_l29DrawOne.f q c a s) (k, n, t, a', s') ∧ On a a' 2000 ∧ Three k ∧ n.size ≤ 10 ∧ t.size ≤ 10000 := by
  obtain ⟨k, a1, s1, e1, m1, o1⟩ := text_eq hc a s [(⟨#[98, 117, 105, 108, 100, 105, 110, 103]⟩ : ByteArray), ⟨#[110, 111, 116, 101]⟩, ⟨#[102, 97, 99, 101]⟩] (by simp) h0 (by omega)
  unfold On at o1
  obtain ⟨n, a2, s2, e2, m2, o2⟩ := text_eq hc a1 s1 [(⟨#[97]⟩ : ByteArray), ⟨#[98]⟩, ⟨#[99]⟩, ⟨#[100]⟩] (by simp) (by omega) (by omega)
  unfold On at o2
  obtain ⟨t, a3, s3, e3, m3, o3⟩ := text_eq hc a2 s2 [(⟨#[]⟩ : ByteArray), ⟨#[120]⟩, ⟨#[97, 32, 98, 32, 99]⟩, ⟨#[49, 50, 32, 51, 52]⟩, ⟨#[111, 97, 107, 47, 52, 48]⟩] (by simp) (by omega) (by omega)
  unfold On at o3
  obtain ⟨b4, a4, s4, e4, o4⟩ := one_eq hc a3 s3 4 (by omega) (by omega)
  unfold On at o4
  have hn : n.size ≤ 10 := by
    simp only [List.mem_cons, List.not_mem_nil, or_false] at m2
    rcases m2 with rfl | rfl | rfl | rfl <;> decide
  have ht : t.size ≤ 10 := by
    simp only [List.mem_cons, List.not_mem_nil, or_false] at m3
    rcases m3 with rfl | rfl | rfl | rfl | rfl <;> decide
  have last : ∀ (a s : Int) (t : ByteArray), 0 ≤ a → a + 4 ≤ 4611686018427387000 → t.size ≤ 10000 → ∃ (t' : ByteArray) (a' s' : Int), Ev (fun q => spec_l29DrawOne.j2 q c a s k n t) (k, n, t', a', s') ∧ On a a' 4 ∧ t'.size ≤ 10000 := by
    intro a s t ha hb ht
    obtain ⟨b, a1, s1, e, o⟩ := one_eq hc a s 24 ha (by omega)
    unfold On at o
    cases b with
    | false =>
      refine ⟨t, a1, s1, Ev.step (fun q => spec_l29DrawOne.j2.eq_2 _ _ _ _ _ _ q) ?_, ⟨by omega, by omega⟩, ht⟩
      simp only [e, Option.bind_some, Bool.false_eq_true, if_false]
      exact Ev.now _
    | true =>
      obtain ⟨x, a2, s2, e2, x0, x1, o2⟩ := pick_eq hc a1 s1 3 (by omega) (by omega)
      unfold On at o2
      have x2 := x1 (by omega)
      refine ⟨strOfNums (List.replicate (399 + x).toNat 0), a2, s2, Ev.step (fun q => spec_l29DrawOne.j2.eq_2 _ _ _ _ _ _ q) ?_, ⟨by omega, by omega⟩, by rw [nums_size, List.length_replicate]; omega⟩
      simp only [e, Option.bind_some, if_true, e2, w64 (show -9223372036854775808 ≤ 399 + x by omega) (by omega), if_pos (show 0 ≤ 399 + x by omega), if_pos (show (399 + x).toNat ≤ 281474976710656 by omega)]
      exact Ev.now _
  have mid : ∀ (a s : Int) (t : ByteArray), 0 ≤ a → a + 200 ≤ 4611686018427387000 → t.size ≤ 10000 → ∃ (t' : ByteArray) (a' s' : Int), Ev (fun q => spec_l29DrawOne.j0 q c a s k n t) (k, n, t', a', s') ∧ On a a' 200 ∧ t'.size ≤ 10000 := by
    intro a s t ha hb ht
    have skip : ∀ (a s : Int), 0 ≤ a → a + 4 ≤ 4611686018427387000 → ∃ (t' : ByteArray) (a' s' : Int), Ev (fun q => spec_l29DrawOne.j1 q false c a s k n t) (k, n, t', a', s') ∧ On a a' 4 ∧ t'.size ≤ 10000 := by
      intro a s ha hb
      obtain ⟨t', a', s', g1, g2, g3⟩ := last a s t ha hb ht
      refine ⟨t', a', s', Ev.step (fun q => spec_l29DrawOne.j1.eq_2 _ _ _ _ _ _ _ q) ?_, g2, g3⟩
      simp only [Bool.false_eq_true, if_false]
      exact g1
    by_cases hk : k.toList = ([98, 117, 105, 108, 100, 105, 110, 103] : List UInt8)
    · obtain ⟨b, a1, s1, e, o⟩ := one_eq hc a s 2 ha (by omega)
      unfold On at o
      cases b with
      | false =>
        obtain ⟨t', a', s', g1, g2, g3⟩ := skip a1 s1 (by omega) (by omega)
        unfold On at g2
        refine ⟨t', a', s', Ev.step (fun q => spec_l29DrawOne.j0.eq_2 _ _ _ _ _ _ q) ?_, ⟨by omega, by omega⟩, g3⟩
        simp only [if_pos hk, e, Option.bind_some]
        exact g1
      | true =>
        obtain ⟨n1, n2, n3, n4, l, a2, s2, d1, d2, d3, d4, d5⟩ := draw05_ev hc a1 s1 n (by omega) (by omega)
        unfold On at d2
        obtain ⟨x, x1, x2⟩ := text05_ev n n1 n2 n3 n4 l (by omega) d3 d4 d5
        obtain ⟨t', a', s', g1, g2, g3⟩ := last a2 s2 x (by omega) (by omega) (by omega)
        unfold On at g2
        refine ⟨t', a', s', Ev.step (fun q => spec_l29DrawOne.j0.eq_2 _ _ _ _ _ _ q) ?_, ⟨by omega, by omega⟩, g3⟩
        simp only [if_pos hk, e, Option.bind_some]
        refine Ev.step (fun q => spec_l29DrawOne.j1.eq_2 _ _ _ _ _ _ _ q) ?_
        simp only [if_true]
        refine Ev.bind d1 ?_
        refine Ev.bind x1 ?_
        exact g1
    · obtain ⟨t', a', s', g1, g2, g3⟩ := skip a s (by omega) (by omega)
      unfold On at g2
      refine ⟨t', a', s', Ev.step (fun q => spec_l29DrawOne.j0.eq_2 _ _ _ _ _ _ q) ?_, ⟨by omega, by omega⟩, g3⟩
      simp only [if_neg hk]
      exact g1
  have all : ∃ (t' : ByteArray) (a' s' : Int), Ev (fun q => spec_l29DrawOne.f q c a s) (k, n, t', a', s') ∧ On a a' 2000 ∧ t'.size ≤ 10000 := by
    cases b4 with
    | false =>
      obtain ⟨t', a', s', g1, g2, g3⟩ := mid a4 s4 t (by omega) (by omega) (by omega)
      unfold On at g2
      refine ⟨t', a', s', ?_, ⟨by omega, by omega⟩, g3⟩
      unfold spec_l29DrawOne.f
      simp only [e1, e2, e3, e4, Option.bind_some, Bool.false_eq_true, if_false]
      exact g1
    | true =>
      obtain ⟨x, a5, s5, x1, x2, x3⟩ := word_ev hc a4 s4 9 (by omega) (by omega) (by omega)
      unfold On at x3
      have hs : (t ++ x).size = t.size + x.size := ByteArray.size_append
      obtain ⟨t', a', s', g1, g2, g3⟩ := mid a5 s5 (t ++ x) (by omega) (by omega) (by omega)
      unfold On at g2
      refine ⟨t', a', s', ?_, ⟨by omega, by omega⟩, g3⟩
      unfold spec_l29DrawOne.f
      simp only [e1, e2, e3, e4, Option.bind_some, if_true]
      refine Ev.bind x1 ?_
      simp only [if_pos (show t.size + x.size ≤ 9223372036854775807 by omega)]
      exact g1
  obtain ⟨t', a', s', g1, g2, g3⟩ := all
  exact ⟨k, n, t', a', s', g1, g2, m1, hn, g3⟩
def Good (l : List S45) : Prop := listOk l = true ∧ l.length ≤ 5 ∧ ∀ x ∈ l, Three x.f0 ∧ x.f1.size ≤ 1048576 ∧ x.f2.size ≤ 1048576
theorem three_size {k : ByteArray} (h : Three k) : k.size ≤ 1048576 := by
  unfold Three at h
  simp only [List.mem_cons, List.not_mem_nil, or_false] at h
  rcases h with rfl | rfl | rfl <;> decide
theorem Good.small {l : List S45} (h : Good l) : Small l := ⟨by have := h.2.1; omega, fun x hx => ⟨three_size (h.2.2 x hx).1, (h.2.2 x hx).2⟩⟩
theorem listOk_iff (l : List S45) : listOk l = true ↔ (∀ x ∈ l, blockOk x.f0 x.f1 x.f2 = true) ∧ Sorted l ∧ l.length ≤ 32 := by
  constructor
  · intro h
    refine ⟨fun x hx => ?_, sorted_of h, ?_⟩
    · obtain ⟨i, hi, rfl⟩ := List.mem_iff_getElem.1 hx
      unfold listOk at h
      rw [Bool.and_eq_true, List.all_eq_true] at h
      have := h.1 i (List.mem_range.2 hi)
      simp only [okAt, Bool.and_eq_true] at this
      have e : l.getD i z45 = l[i] := by rw [List.getD_eq_getElem?_getD, List.getElem?_eq_getElem hi]; rfl
      rw [e] at this
      exact this.1
    · unfold listOk at h
      rw [Bool.and_eq_true, decide_eq_true_eq] at h
      omega
  · rintro ⟨h1, h2, h3⟩
    unfold listOk
    rw [Bool.and_eq_true, List.all_eq_true, decide_eq_true_eq]
    refine ⟨fun i hi => ?_, by omega⟩
    have hi' := List.mem_range.1 hi
    simp only [okAt, Bool.and_eq_true, Bool.or_eq_true, decide_eq_true_eq]
    refine ⟨h1 _ (getD_mem hi'), ?_⟩
    by_cases h0 : i = 0
    · exact .inl h0
    · exact .inr (h2 (i - 1) i (by omega) hi')
theorem putAt_mem {l : List S45} {t x : S45} {i : Nat} (h : x ∈ putAt l t i) : x = t ∨ x ∈ l := by
  unfold putAt at h
  rcases List.mem_append.1 h with h | h
  · rcases List.mem_append.1 h with h | h
    · exact .inr (List.mem_of_mem_take h)
    · exact .inl (List.mem_singleton.1 h)
  · exact .inr (List.mem_of_mem_drop h)
theorem putAt_ok {l : List S45} {t : S45} {i : Nat} (hl : listOk l = true) (ht : blockOk t.f0 t.f1 t.f2 = true) (ha : At l t i) (hn : (putAt l t i).length ≤ 32) : listOk (putAt l t i) = true := by
  obtain ⟨h1, h2, h3⟩ := (listOk_iff l).1 hl
  refine (listOk_iff _).2 ⟨fun x hx => ?_, putAt_sorted h2 ha, hn⟩
  rcases putAt_mem hx with rfl | hx
  · exact ht
  · exact h1 x hx
theorem specPut_ev (l : List S45) (b : S45) (hg : Good l) (hb : Three b.f0 ∧ b.f1.size ≤ 1048576 ∧ b.f2.size ≤ 1048576) : ∃ r : List S45 × Int, Ev (fun k => spec_PutBlock.f k l b.f0 b.f1 b.f2) r ∧ (r.2 = 0 → listOk r.1 = true ∧ r.1.length ≤ l.length + 1 ∧ ∀ x ∈ r.1, Three x.f0 ∧ x.f1.size ≤ 1048576 ∧ x.f2.size ≤ 1048576) := by
  have hs := hg.small
  have hok := hg.1
  cases hbk : blockOk b.f0 b.f1 b.f2 with
  | false =>
    refine ⟨([], 1), ?_, fun h => absurd h (by decide)⟩
    unfold spec_PutBlock.f
    refine Ev.bind (specOk_ev l hs) ?_
    simp only [hok, if_true]
    refine Ev.bind (oneBlock_ev _ _ _ (three_size hb.1) hb.2.1 hb.2.2) ?_
    rw [hbk]
    refine Ev.step (fun k => spec_PutBlock.j0.eq_2 _ _ _ _ _ k) ?_
    simp only [Bool.not_false, if_true]
    exact Ev.now _
  | true =>
    obtain ⟨i, ha, _⟩ := with_ev l b hs.1 (sorted_of hok)
    have e := put_ev l b hs.1 (sorted_of hok) i ha
    have hlen := putAt_len l b i ha.1
    refine ⟨if ((putAt l b i).length : Int) > 32 then ([], 5) else (putAt l b i, 0), ?_, ?_⟩
    · unfold spec_PutBlock.f
      refine Ev.bind (specOk_ev l hs) ?_
      simp only [hok, if_true]
      refine Ev.bind (oneBlock_ev _ _ _ (three_size hb.1) hb.2.1 hb.2.2) ?_
      rw [hbk]
      refine Ev.step (fun k => spec_PutBlock.j0.eq_2 _ _ _ _ _ k) ?_
      simp only [Bool.not_true, Bool.false_eq_true, if_false]
      refine Ev.bind e ?_
      by_cases h : ((putAt l b i).length : Int) > 32
      · simp only [if_pos h]; exact Ev.now _
      · simp only [if_neg h]; exact Ev.now _
    · have h5 := hg.2.1
      rw [if_neg (by omega)]
      intro _
      refine ⟨putAt_ok hok hbk ha (by omega), by show (putAt l b i).length ≤ _; omega, fun x hx => ?_⟩
      rcases putAt_mem hx with rfl | hx
      · exact hb
      · exact hg.2.2 x hx
theorem draw_ev {c : List Int} (hc : Bytes c) : ∃ r, Ev (fun k => spec_R8Blocks.f k c) r ∧ Good r := by
  obtain ⟨m, a1, s1, e1, m0, m1, o1⟩ := pick_eq hc 0 0 6 (by omega) (by omega)
  unfold On at o1
  have m2 := m1 (by omega)
  have key : ∀ (d : Nat) (l : List S45) (a s : Int), 0 ≤ a → a + 3000 * (d : Int) ≤ 4611686018427380000 → l.length + d ≤ 5 → Good l → ∃ (r : List S45) (a' s' : Int), Ev (fun k => spec_l29Draw.l0 k l (d : Int) c a s) (r, a', s') ∧ Good r := by
    intro d
    induction d with
    | zero =>
      intro l a s ha hb hl hg
      refine ⟨l, a, s, Ev.step (fun k => spec_l29Draw.l0.eq_2 _ _ _ _ _ k) ?_, hg⟩
      simp only [if_neg (show ¬ ((0 : Nat) : Int) > 0 by omega)]
      exact Ev.now _
    | succ d ih =>
      intro l a s ha hb hl hg
      obtain ⟨k, n, t, a1, s1, g1, g2, g3, g4, g5⟩ := drawOne_ev hc a s ha (by omega)
      unfold On at g2
      obtain ⟨r, p1, p2⟩ := specPut_ev l ⟨k, n, t⟩ hg ⟨g3, by show n.size ≤ _; omega, by show t.size ≤ _; omega⟩
      have w1 := w64 (show -9223372036854775808 ≤ (d : Int) by omega) (by omega)
      have w2 : ((d + 1 : Nat) : Int) - 1 = (d : Int) := by omega
      by_cases hr : r.2 = 0
      · obtain ⟨q1, q2, q3⟩ := p2 hr
        obtain ⟨r', a', s', f1, f2⟩ := ih r.1 a1 s1 (by omega) (by omega) (by omega) ⟨q1, by omega, q3⟩
        refine ⟨r', a', s', Ev.step (fun k => spec_l29Draw.l0.eq_2 _ _ _ _ _ k) ?_, f2⟩
        simp only [if_pos (show ((d + 1 : Nat) : Int) > 0 by omega), w1, w2]
        refine Ev.bind g1 (Ev.bind p1 ?_)
        simp only [if_pos hr]
        exact f1
      · obtain ⟨r', a', s', f1, f2⟩ := ih l a1 s1 (by omega) (by omega) (by omega) hg
        refine ⟨r', a', s', Ev.step (fun k => spec_l29Draw.l0.eq_2 _ _ _ _ _ k) ?_, f2⟩
        simp only [if_pos (show ((d + 1 : Nat) : Int) > 0 by omega), w1, w2]
        refine Ev.bind g1 (Ev.bind p1 ?_)
        simp only [if_neg hr]
        exact f1
  obtain ⟨r, a', s', f1, f2⟩ := key m.toNat [] a1 s1 (by omega) (by omega) (by simp; omega) ⟨by decide, by simp, by simp⟩
  rw [show ((m.toNat : Nat) : Int) = m by omega] at f1
  refine ⟨r, ?_, f2⟩
  unfold spec_R8Blocks.f spec_l00From.f spec_l29Draw.f
  simp only [Option.bind_some, e1]
  refine Ev.bind f1 ?_
  exact Ev.now _
end Go.Proofs.Ytnabckhhnknlaaa.PDraw29
end

section
namespace Go.Proofs.Ytnabckhhnknlaaa.PKind
open Go.RowKit Go.Proofs.YtnabckhhnknlaaaW.PrintWords Go.Proofs.Ytnabckhhnknlaaa.XV Go.Proofs.Ytnabckhhnknlaaa.EvK Go.Proofs.Ytnabckhhnknlaaa.PBlockL Go.Proofs.Ytnabckhhnknlaaa.PBasics
set_option linter.unusedVariables false
set_option linter.unusedSimpArgs false
def names (l : List S45) (kind : ByteArray) : List ByteArray := (l.filter (fun b => decide (b.f0.data.toList = kind.data.toList))).map (·.f1)
theorem names_len (l : List S45) (kind : ByteArray) : (names l kind).length ≤ l.length := by
  unfold names
  rw [List.length_map]
  exact List.length_filter_le _ _
theorem names_take (l : List S45) (kind : ByteArray) (i : Nat) (h : i < l.length) :
    names (l.take (i + 1)) kind = names (l.take i) kind ++ (if (l.getD i z45).f0.data.toList = kind.data.toList then [(l.getD i z45).f1] else []) := by
  have e : l.getD i z45 = l[i] := by rw [List.getD_eq_getElem?_getD, List.getElem?_eq_getElem h]; rfl
  unfold names
  rw [List.take_succ_eq_append_getElem h, List.filter_append, List.map_append, e]
  by_cases hk : l[i].f0.data.toList = kind.data.toList
  · simp only [if_pos hk, List.filter_cons, List.filter_nil, decide_eq_true hk, if_true, List.map_cons, List.map_nil]
  · simp only [if_neg hk, List.filter_cons, List.filter_nil, decide_eq_false hk, Bool.false_eq_true, if_false, List.map_nil]
def ans (l : List S45) (kind : ByteArray) : List ByteArray × Int := if listOk l = true then (names l kind, 0) else ([], 1)
theorem impl_ev (l : List S45) (kind : ByteArray) (hs : Small l) : Ev (fun k => impl_BlocksOfKind.f k l kind) (ans l kind) := by
  have hl := hs.1
  unfold impl_BlocksOfKind.f ans
  refine Ev.bind (implOk_ev l hs) ?_
  cases listOk l with
  | false => exact Ev.now _
  | true =>
    simp only [if_true]
    apply EvP.eq
    refine for_evp (L := fun k (a : List ByteArray) i => impl_BlocksOfKind.l0 k kind a l (l.length : Int) i) l.length (fun i a => a = names (l.take i) kind) ?_ ?_ [] (by simp [names])
    · rintro i a hi rfl K
      have hlen := names_len (l.take i) kind
      rw [List.length_take] at hlen
      have ht := names_take l kind i hi
      refine EvP.step (fun k => impl_BlocksOfKind.l0.eq_2 _ _ _ _ _ k) ?_
      simp only [if_pos (show (i : Int) < (l.length : Int) by omega), if_pos (show (0 : Int) ≤ (i : Int) by omega), rd_nat, toList_eq, w64 (show -9223372036854775808 ≤ (i : Int) + 1 by omega) (by omega), if_pos (show (names (l.take i) kind).length < 8796093022208 by omega)]
      by_cases hk : (l.getD i z45).f0.data.toList = kind.data.toList
      · rw [if_pos hk] at ht
        simp only [if_pos hk]
        exact K _ ht.symm
      · rw [if_neg hk, List.append_nil] at ht
        simp only [if_neg hk]
        exact K _ ht.symm
    · rintro a rfl
      refine EvP.step (fun k => impl_BlocksOfKind.l0.eq_2 _ _ _ _ _ k) ?_
      simp only [if_neg (show ¬ (l.length : Int) < (l.length : Int) by omega), List.take_length]
      exact EvP.now rfl
end Go.Proofs.Ytnabckhhnknlaaa.PKind
end

section
namespace Go.Proofs.Ytnabckhhnknlaaa.PureFnBlocks
open Go.RowKit Go.Proofs.YtnabckhhnknlaaaW.PrintWords Go.Proofs.Ytnabckhhnknlaaa.XV Go.Proofs.Ytnabckhhnknlaaa.EvK Go.Proofs.Ytnabckhhnknlaaa.PBasics Go.Proofs.Ytnabckhhnknlaaa.PBlocks Go.Proofs.Ytnabckhhnknlaaa.PBlockL Go.Proofs.Ytnabckhhnknlaaa.PSearch Go.Proofs.Ytnabckhhnknlaaa.PPut Go.Proofs.Ytnabckhhnknlaaa.PSrc Go.Proofs.Ytnabckhhnknlaaa.PDraw29 Go.Proofs.Ytnabckhhnknlaaa.PKind
set_option linter.unusedVariables false
set_option linter.unusedSimpArgs false
theorem implPut_ev (l : List S45) (b : S45) (hs : Small l) (hok : listOk l = true) (h0 : b.f0.size ≤ 1048576) (h1 : b.f1.size ≤ 1048576) (h2 : b.f2.size ≤ 1048576) (hb : blockOk b.f0 b.f1 b.f2 = true) (hl : l.length ≤ 31) :
    ∃ i, At l b i ∧ Ev (fun k => impl_PutBlock.f k l b.f0 b.f1 b.f2) (putAt l b i, 0) := by
  obtain ⟨i, ha, e⟩ := with_ev l b hs.1 (sorted_of hok)
  have hlen := putAt_len l b i ha.1
  refine ⟨i, ha, ?_⟩
  unfold impl_PutBlock.f
  refine Ev.bind (implOk_ev l hs) ?_
  simp only [hok, if_true]
  refine Ev.bind (validBlock_ev _ _ _ h0 h1 h2) ?_
  rw [hb]
  refine Ev.step (fun k => impl_PutBlock.j0.eq_2 _ _ _ _ _ k) ?_
  simp only [Bool.not_true, Bool.false_eq_true, if_false]
  refine Ev.bind e ?_
  simp only [if_neg (show ¬ ((putAt l b i).length : Int) > 32 by omega)]
  exact Ev.now _
theorem at_found {l : List S45} (hs : Sorted l) (i : Nat) (hi : i < l.length) (t : S45) (he : Same (l.getD i z45) t) (j : Nat) (ha : At l t j) : j = i ∧ hit l t j = true := by
  have h1 : ¬ i < j := fun h => by
    have := ha.2.1 i h
    rw [not_before_same he] at this
    exact absurd this (by decide)
  have h2 : ¬ j < i := fun h => by
    have h3 := hs j i h hi
    rw [before_congr he.1 he.2, ha.2.2 j (Nat.le_refl _) (by omega)] at h3
    exact absurd h3 (by decide)
  obtain rfl : j = i := by omega
  refine ⟨rfl, ?_⟩
  simp only [hit, decide_eq_true hi, Bool.true_and, beq_iff_eq]
  exact (cmpB_zero _ _).2 he
theorem named_ev (l : List S45) (hs : Small l) (hok : listOk l = true) (i : Nat) (hi : i < l.length) (a b : ByteArray) (he : Same (l.getD i z45) ⟨a, b, ⟨#[]⟩⟩) : Ev (fun k => impl_BlockNamed.f k l a b) ((l.getD i z45).f2, 0) := by
  obtain ⟨j, ha, h1⟩ := search_ev l ⟨a, b, ⟨#[]⟩⟩ hs.1 (sorted_of hok)
  obtain ⟨rfl, hh⟩ := at_found (sorted_of hok) i hi _ he j ha
  rw [hh] at h1
  unfold impl_BlockNamed.f
  refine Ev.bind (implOk_ev l hs) ?_
  simp only [hok, if_true]
  refine Ev.bind h1 ?_
  simp only [if_true, if_pos (show (0 : Int) ≤ (j : Int) by omega), if_pos (show (j : Int) < (l.length : Int) by omega), rd_nat]
  exact Ev.now _
theorem dropped_ev (l : List S45) (hs : Small l) (hok : listOk l = true) (i : Nat) (hi : i < l.length) (a b : ByteArray) (he : Same (l.getD i z45) ⟨a, b, ⟨#[]⟩⟩) : Ev (fun k => impl_DropBlock.f k l a b) (l.take i ++ l.drop (i + 1), 0) := by
  have hl := hs.1
  obtain ⟨j, ha, h1⟩ := search_ev l ⟨a, b, ⟨#[]⟩⟩ hs.1 (sorted_of hok)
  obtain ⟨rfl, hh⟩ := at_found (sorted_of hok) i hi _ he j ha
  rw [hh] at h1
  have e1 : wrap64 ((j : Int) + 1) = (j : Int) + 1 := w64 (by omega) (by omega)
  have hd : slices_Delete_BlockS.f l (j : Int) ((j : Int) + 1) = some (l.take j ++ l.drop (j + 1)) := by
    unfold slices_Delete_BlockS.f
    rw [if_pos ⟨by omega, rfl, by omega⟩, Int.toNat_natCast, List.eraseIdx_eq_take_drop_succ]
  unfold impl_DropBlock.f slices_Clone_BlockS.f
  refine Ev.bind (implOk_ev l hs) ?_
  simp only [hok, if_true]
  refine Ev.bind h1 ?_
  simp only [if_true, Option.bind_some, List.nil_append, if_pos (show ([] : List S45).length + l.length < 2932031007402 by simp; omega), e1, hd]
  exact Ev.now _
theorem same_ev (l : List S45) (hl : l.length ≤ 1048576) : Ev (fun k => spec_SameBlocks.f k l l) true := by
  unfold spec_SameBlocks.f spec_l29Same.f
  simp only [if_true]
  refine Ev.bind ?_ (Ev.now _)
  apply EvP.eq
  refine for_evp (L := fun k (_ : Unit) q => spec_l29Same.l0 k l l q) l.length (fun _ _ => True) ?_ ?_ () trivial
  · intro q _ hq _ K
    refine EvP.step (fun k => spec_l29Same.l0.eq_2 _ _ _ k) ?_
    simp only [if_pos (show (q : Int) < (l.length : Int) by omega), if_pos (show (0 : Int) ≤ (q : Int) by omega), beq_self_eq_true, Bool.not_true, Bool.or_self, Bool.false_eq_true, if_false, w64 (show -9223372036854775808 ≤ (q : Int) + 1 by omega) (by omega)]
    exact K () trivial
  · intro _ _
    refine EvP.step (fun k => spec_l29Same.l0.eq_2 _ _ _ k) ?_
    simp only [if_neg (show ¬ (l.length : Int) < (l.length : Int) by omega)]
    exact EvP.now rfl
theorem putAt_keeps {l : List S45} {t y : S45} {i : Nat} (ha : At l t i) (hy : y ∈ l) (hn : ¬ Same y t) : y ∈ putAt l t i := by
  obtain ⟨j, hj, rfl⟩ := List.mem_iff_getElem.1 hy
  unfold putAt
  by_cases h1 : j < i
  · exact List.mem_append_left _ (List.mem_append_left _ (List.mem_iff_getElem.2 ⟨j, by rw [List.length_take]; omega, by rw [List.getElem_take]⟩))
  · by_cases h2 : i + skip l t i ≤ j
    · exact List.mem_append_right _ (List.mem_iff_getElem.2 ⟨j - (i + skip l t i), by rw [List.length_drop]; omega, by rw [List.getElem_drop]; congr 1; omega⟩)
    · exfalso
      cases hh : hit l t i with
      | false =>
        have : skip l t i = 0 := by unfold skip; rw [hh]; rfl
        omega
      | true =>
        have e : skip l t i = 1 := by unfold skip; rw [if_pos hh]
        obtain rfl : j = i := by omega
        simp only [hit, Bool.and_eq_true, decide_eq_true_eq, beq_iff_eq] at hh
        have hz : Same (l.getD j z45) t := (cmpB_zero _ _).1 hh.2
        rw [List.getD_eq_getElem?_getD, List.getElem?_eq_getElem hj] at hz
        exact hn hz
theorem putAt_has (l : List S45) (t : S45) (i : Nat) : t ∈ putAt l t i := by
  unfold putAt
  simp
theorem merge_good (l m : List S45) (hl : PDraw29.Good l) (hm : PDraw29.Good m) : ∃ r : List S45, Ev (fun k => impl_MergeBlocks.f k l m) (r, 0) ∧ listOk r = true ∧ Small r ∧ r.length ≤ l.length + m.length ∧ ∀ y ∈ m, y ∈ r := by
  obtain ⟨m1, m2, m3⟩ := (listOk_iff m).1 hm.1
  have hml := hm.2.1
  have hll := hl.2.1
  have key : ∀ (d q : Nat) (r : List S45), q + d = m.length → r.length ≤ l.length + q → listOk r = true → Small r → (∀ p, p < q → m.getD p z45 ∈ r) → ∃ r' : List S45, Ev (fun k => impl_MergeBlocks.l0 k r m (m.length : Int) (q : Int)) (r', 0) ∧ listOk r' = true ∧ Small r' ∧ r'.length ≤ l.length + m.length ∧ ∀ p, p < m.length → m.getD p z45 ∈ r' := by
    intro d
    induction d with
    | zero =>
      intro q r hq hr hok hs hp
      refine ⟨r, Ev.step (fun k => impl_MergeBlocks.l0.eq_2 _ _ _ _ k) ?_, hok, hs, by omega, fun p h => hp p (by omega)⟩
      simp only [if_neg (show ¬ (q : Int) < (m.length : Int) by omega), if_neg (show ¬ (r.length : Int) > 32 by omega)]
      exact Ev.now _
    | succ d ih =>
      intro q r hq hr hok hs hp
      have hqm : m.getD q z45 ∈ m := getD_mem (by omega)
      obtain ⟨i, ha, e⟩ := with_ev r (m.getD q z45) hs.1 (sorted_of hok)
      have hlen := putAt_len r (m.getD q z45) i ha.1
      obtain ⟨r', g1, g2, g3, g4, g5⟩ := ih (q + 1) (putAt r (m.getD q z45) i) (by omega) (by omega) (putAt_ok hok (m1 _ hqm) ha (by omega)) ⟨by omega, fun x hx => by
          rcases putAt_mem hx with rfl | hx
          · exact ⟨three_size (hm.2.2 _ hqm).1, (hm.2.2 _ hqm).2⟩
          · exact hs.2 x hx⟩ (fun p hpq => by
          by_cases hpe : p = q
          · rw [hpe]; exact putAt_has _ _ _
          · refine putAt_keeps ha (hp p (by omega)) (fun h => ?_)
            have := m2 p q (by omega) (by omega)
            rw [not_before_same h] at this
            exact absurd this (by decide))
      refine ⟨r', Ev.step (fun k => impl_MergeBlocks.l0.eq_2 _ _ _ _ k) ?_, g2, g3, g4, g5⟩
      simp only [if_pos (show (q : Int) < (m.length : Int) by omega), if_pos (show (0 : Int) ≤ (q : Int) by omega), rd_nat, w64 (show -9223372036854775808 ≤ (q : Int) + 1 by omega) (by omega)]
      refine Ev.bind e ?_
      simpa using g1
  obtain ⟨r, g1, g2, g3, g4, g5⟩ := key m.length 0 l (by omega) (by omega) hl.1 hl.small (by intro p h; omega)
  refine ⟨r, ?_, g2, g3, g4, fun y hy => ?_⟩
  · unfold impl_MergeBlocks.f
    refine Ev.bind (implOk_ev l hl.small) ?_
    simp only [hl.1, if_true]
    refine Ev.bind (implOk_ev m hm.small) ?_
    rw [hm.1]
    refine Ev.step (fun k => impl_MergeBlocks.j0.eq_2 _ _ _ k) ?_
    unfold slices_Clone_BlockS.f
    simp only [Bool.not_true, Bool.false_eq_true, if_false, Option.bind_some, List.nil_append, List.length_nil, if_pos (show 0 + l.length < 2932031007402 by omega)]
    exact g1
  · obtain ⟨p, hp, rfl⟩ := List.mem_iff_getElem.1 hy
    have := g5 p hp
    rw [List.getD_eq_getElem?_getD, List.getElem?_eq_getElem hp] at this
    exact this
def theNew : S45 := ⟨⟨#[110, 101, 119]⟩, ⟨#[120]⟩, ⟨#[116]⟩⟩
theorem new_kind {k : ByteArray} (h : Three k) : ¬ k.data.toList = [110, 101, 119] := by
  unfold Three at h
  simp only [List.mem_cons, List.not_mem_nil, or_false] at h
  rcases h with rfl | rfl | rfl <;> decide
theorem new_names (l : List S45) (h : ∀ x ∈ l, Three x.f0) : names l ⟨#[110, 101, 119]⟩ = [] := by
  unfold names
  rw [List.filter_eq_nil_iff.2, List.map_nil]
  intro x hx
  rw [decide_eq_true_eq]
  exact new_kind (h x hx)
theorem names_app (a b : List S45) (k : ByteArray) : names (a ++ b) k = names a k ++ names b k := by
  unfold names
  rw [List.filter_append, List.map_append]
theorem bytes_of {c : List Int} (h : ∀ y ∈ c, (Lit.int .u8 y).wf = true) : Bytes c := by
  intro x hx
  have := (Lit.wf_int_iff .u8 x).1 (h x hx)
  have e1 : IntKind.u8.min = 0 := by decide
  have e2 : IntKind.u8.max = 255 := by decide
  rw [e1, e2] at this
  exact this
theorem pure : laws_FnBlocks.Pure := by
  intro c d hc hd
  apply EvP.rounds
  unfold laws_FnBlocks.f laws_r8Long.f
  by_cases c1 : (c.length : Int) > 1048576
  · simp only [if_pos c1, Option.bind_some, if_true]
    exact EvP.now rfl
  by_cases c2 : (d.length : Int) > 1048576
  · simp only [if_neg c1, decide_eq_true c2, Option.bind_some, if_true]
    exact EvP.now rfl
  simp only [if_neg c1, decide_eq_false c2, Option.bind_some, Bool.false_eq_true, if_false]
  obtain ⟨l, l1, hl⟩ := draw_ev (bytes_of hc.2)
  obtain ⟨m, m1, hm⟩ := draw_ev (bytes_of hd.2)
  have hll := hl.2.1
  have hml := hm.2.1
  have hb : blockOk theNew.f0 theNew.f1 theNew.f2 = true := by decide
  obtain ⟨i, ha, p1⟩ := implPut_ev l theNew hl.small hl.1 (by decide) (by decide) (by decide) hb (by omega)
  have hsk : skip l theNew i = 0 := by
    unfold skip
    split
    · rename_i h
      exfalso
      simp only [hit, Bool.and_eq_true, decide_eq_true_eq, beq_iff_eq] at h
      have hz := (cmpB_zero _ _).1 h.2
      exact new_kind (hl.2.2 _ (getD_mem h.1)).1 hz.1
    · rfl
  have hnx : putAt l theNew i = l.take i ++ [theNew] ++ l.drop i := by unfold putAt; rw [hsk, Nat.add_zero]
  have hnl : (putAt l theNew i).length = l.length + 1 := by rw [putAt_len l theNew i ha.1, hsk]; rfl
  have hnok : listOk (putAt l theNew i) = true := putAt_ok hl.1 hb ha (by omega)
  have hget : (putAt l theNew i).getD i z45 = theNew := by rw [putAt_get l theNew i i ha.1, if_neg (by omega), if_pos rfl]
  have hsm : Small (putAt l theNew i) := ⟨by omega, fun x hx => by
    rcases putAt_mem hx with rfl | hx
    · exact ⟨by decide, by decide, by decide⟩
    · exact hl.small.2 x hx⟩
  have hil := ha.1
  have n1 := named_ev (putAt l theNew i) hsm hnok i (by omega) ⟨#[110, 101, 119]⟩ ⟨#[120]⟩ (by rw [hget]; exact ⟨rfl, rfl⟩)
  rw [hget] at n1
  have d1 := dropped_ev (putAt l theNew i) hsm hnok i (by omega) ⟨#[110, 101, 119]⟩ ⟨#[120]⟩ (by rw [hget]; exact ⟨rfl, rfl⟩)
  have hdrop : (putAt l theNew i).take i ++ (putAt l theNew i).drop (i + 1) = l := by
    rw [hnx, List.append_assoc, List.take_left' (by rw [List.length_take]; omega), ← List.append_assoc, List.drop_left' (by rw [List.length_append, List.length_take]; simp only [List.length_cons, List.length_nil]; omega)]
    exact List.take_append_drop i l
  rw [hdrop] at d1
  obtain ⟨r, r1, r2, r3, r4, r5⟩ := merge_good l m hl hm
  have k1 := PKind.impl_ev (putAt l theNew i) ⟨#[110, 101, 119]⟩ hsm
  have hnames : names (putAt l theNew i) ⟨#[110, 101, 119]⟩ = [⟨#[120]⟩] := by
    rw [hnx, names_app, names_app, new_names _ (fun x hx => (hl.2.2 x (List.mem_of_mem_take hx)).1), new_names _ (fun x hx => (hl.2.2 x (List.mem_of_mem_drop hx)).1)]
    rfl
  have hans : ans (putAt l theNew i) ⟨#[110, 101, 119]⟩ = ([⟨#[120]⟩], 0) := by unfold ans; rw [if_pos hnok, hnames]
  rw [hans] at k1
  have v1 : Ev (fun k => spec_ValidBlocks.f k r) true := by
    unfold spec_ValidBlocks.f
    refine Ev.bind (specOk_ev r r3) ?_
    rw [r2]
    exact Ev.now _
  refine EvP.bind l1 (EvP.bind m1 (EvP.bind p1 (EvP.bind n1 (EvP.bind d1 (EvP.bind r1 (EvP.bind k1 ?_))))))
  have ht : theNew.f2.toList = ([116] : List UInt8) := by rw [toList_eq]; rfl
  simp only [if_true, ht]
  refine EvP.bind (same_ev l (by omega)) ?_
  simp only [if_true]
  refine EvP.bind v1 ?_
  simp only [if_true, List.length_cons, List.length_nil]
  refine EvP.step (fun k => laws_FnBlocks.j0.eq_2 _ _ _ _ k) ?_
  have hone : (((0 + 1 : Nat) : Int) != 1) = false := by decide
  simp only [hone, Bool.false_eq_true, if_false]
  refine for_evp (L := fun k (_ : Unit) q => laws_FnBlocks.l0 k l m r q) m.length (fun _ _ => True) ?_ ?_ () trivial
  · intro q _ hq _ K
    refine EvP.step (fun k => laws_FnBlocks.l0.eq_2 _ _ _ _ k) ?_
    have hmem := r5 _ (getD_mem hq)
    obtain ⟨j, hj, hje⟩ := List.mem_iff_getElem.1 hmem
    have hje2 : r.getD j z45 = m.getD q z45 := by rw [← hje, List.getD_eq_getElem?_getD, List.getElem?_eq_getElem hj]; rfl
    have g := named_ev r r3 r2 j hj (m.getD q z45).f0 (m.getD q z45).f1 (by rw [hje2]; exact ⟨rfl, rfl⟩)
    rw [hje2] at g
    simp only [if_pos (show (q : Int) < (m.length : Int) by omega), if_pos (show (0 : Int) ≤ (q : Int) by omega), rd_nat, w64 (show -9223372036854775808 ≤ (q : Int) + 1 by omega) (by omega)]
    refine EvP.bind g ?_
    simp only [if_true]
    exact K () trivial
  · intro _ _
    refine EvP.step (fun k => laws_FnBlocks.l0.eq_2 _ _ _ _ k) ?_
    simp only [if_neg (show ¬ (m.length : Int) < (m.length : Int) by omega), w64 (show -9223372036854775808 ≤ (l.length : Int) + (m.length : Int) by omega) (by omega), decide_eq_true (show (r.length : Int) ≤ (l.length : Int) + (m.length : Int) by omega)]
    exact EvP.now rfl
end Go.Proofs.Ytnabckhhnknlaaa.PureFnBlocks
end

section
namespace Go.Proofs.Ytnabckhhnknlaaa.RowFnBlocks
open Go.ChangeShapes Go.WideShapes Go.ChangeAt Go.RowKit Go.Proofs.YtnabckhhnknlaaaW.PrintWords Go.Proofs.Ytnabckhhnknlaaa.XV Go.Proofs.Ytnabckhhnknlaaa.Open
open Go.ChangeMaps (open_string shut_string)
set_option linter.unusedVariables false
theorem own : ownKnob Try.prog.godebug = none := by kernel_rfl
theorem laidOut : laidOutB Try.prog = true := by kernel_rfl
set_option maxRecDepth 100000 in
theorem lifted (os : Os) (started : os.Started) (H : Type) (enc : TypeId × Value → H) :
    ReturnsInHanded {} Try.checked os 9 .any (Rows.fnBlocksSpec.pre6 enc Try.prog Try.f9 Rows.fnBlocksRow.domain false) (Rows.fnBlocksSpec.post enc Try.prog Try.f9 false true false false) := by
  refine returnsInHanded_of_change_shaped (C := Try.checked) own started (by kernel_rfl) Try.func9
    (ChangeSpec.witness6 (enc := enc) (C := Try.checked) false ⟨#[], #[(.slice none 0 0), (.slice none 0 0)], []⟩ 8 (by kernel_rfl) (by kernel_rfl) (by kernel_rfl) (by kernel_rfl)) ?_
  intro W base args ds gs before hval0 hW hcnd hsz0 hsh _
  have hsz : (DataW.weightsEach Try.prog (Try.f9.params.toList ++ Rows.fnBlocksSpec.plain.varTypes Try.prog) (ds ++ gs)).all (· ≤ reachBytes) = true := hsz0
  have hval : ∀ (j : Nat) t v, Try.f9.params[j]? = some t → args[j]? = some v → Value.okWide Try.prog W .any base t v := hval0
  have hW' := hW
  obtain ⟨p, q, hA0, hV, rfl, hfz, hnd⟩ := hW
  have hA : DataW.TrodAll enc Try.prog W 0 (fun _ => true) true Try.f9.params.toList args.toList ds p := hA0
  rw [Try.params9] at hA hval hsz
  obtain ⟨v0, vs0, d0, ds0, p0, q0, hargs, rfl, rfl, h0, r0⟩ := trodAll_cons hA
  obtain ⟨v1, vs1, d1, ds1, p1, q1, rfl, rfl, rfl, h1, r1⟩ := trodAll_cons r0
  obtain ⟨rfl, rfl, rfl⟩ := trodAll_nil r1
  obtain rfl : args = #[v0, v1] := by cases args; simp_all
  obtain ⟨rfl, rfl⟩ := trodVars_none hV
  have kk0 := h0
  have lt0 : ∀ x ∈ p0, x.block < W.heap.size := by obtain ⟨m, hm⟩ := kk0; exact DataW.trod_lt m _ _ _ hm
  obtain ⟨A0, c0, a0, rfl, hc0, hr0, hq0⟩ := open_sl Try.underlying50 (by kernel_rfl) (Opens.int Try.underlying5 (by kernel_rfl)) (hval 0 50 v0 rfl rfl) h0
  have kk1 := h1
  have lt1 : ∀ x ∈ p1, x.block < W.heap.size := by obtain ⟨m, hm⟩ := kk1; exact DataW.trod_lt m _ _ _ hm
  obtain ⟨A1, c1, a1, rfl, hc1, hr1, hq1⟩ := open_sl Try.underlying50 (by kernel_rfl) (Opens.int Try.underlying5 (by kernel_rfl)) (hval 1 50 v1 rfl rfl) h1
  obtain ⟨k, hp⟩ := PureFnBlocks.pure a0 a1 hq0 hq1
  clear hA0 hval0 hsz0 hsz
  refine (laws_FnBlocks.calls k A0 c0 a0 A1 c1 a1 true W hr0 hc0 hr1 hc1 hsh hp).mono fun e W' ⟨he, bel0⟩ => ?_
  have bel : Below W.heap.size W W' := bel0
  subst he
  exact ⟨_, rfl, _, _, _, [], _, [], hW', trodAll_mk1 (shut_bool Try.underlying4 _), (trodAll_cons_mk (Below.trod laidOut (by kernel_rfl) (of_decide_eq_true (by kernel_rfl)) kk0 bel lt0) (trodAll_cons_mk (Below.trod laidOut (by kernel_rfl) (of_decide_eq_true (by kernel_rfl)) kk1 bel lt1) trodAll_mk0)), rfl, bel.frame _, fun h => by cases h⟩
theorem over : Rows.fnBlocksRow.holds Try.pinned (OpenSpec.ofChange Rows.fnBlocksSpec) :=
  OpenClaim.holds_of_wide 9 Try.f9 rfl rfl rfl rfl rfl rfl rfl ⟨rfl, rfl, rfl, rfl, rfl⟩ rfl rfl rfl rfl rfl (by kernel_rfl) Try.func9 (by kernel_rfl)
    (of_decide_eq_true (by kernel_rfl)) (by unfold Func.isWrapper; first | (rw [if_pos (by decide +kernel)]; kernel_rfl) | (rw [if_neg (by decide +kernel)]; exact ⟨rfl, rfl⟩))
    (fun os started H enc _ => lifted os started H enc)
end Go.Proofs.Ytnabckhhnknlaaa.RowFnBlocks
namespace Go.Proofs.Ytnabckhhnknlaaa
theorem fnBlocks_holds : Rows.FnBlocksSaid := RowFnBlocks.over
end Go.Proofs.Ytnabckhhnknlaaa
end
