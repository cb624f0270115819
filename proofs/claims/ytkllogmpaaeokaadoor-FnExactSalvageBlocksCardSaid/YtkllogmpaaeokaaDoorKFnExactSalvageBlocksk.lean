/- The law FnExactSalvageBlocks: part 10 of its texts, joined (wip/pack.py). -/
import Derived.Test.YtkllogmpaaeokaaDoorKFnExactSalvageBlocksa
import Derived.Test.YtkllogmpaaeokaaDoorKFnExactSalvageBlocksb
import Derived.Test.YtkllogmpaaeokaaDoorKFnExactSalvageBlocksc
import Derived.Test.YtkllogmpaaeokaaDoorKFnExactSalvageBlocksd
import Derived.Test.YtkllogmpaaeokaaDoorKFnExactSalvageBlockse
import Derived.Test.YtkllogmpaaeokaaDoorKFnExactSalvageBlocksf
import Derived.Test.YtkllogmpaaeokaaDoorKFnExactSalvageBlocksg
import Derived.Test.YtkllogmpaaeokaaDoorKFnExactSalvageBlocksh
import Derived.Test.YtkllogmpaaeokaaDoorKFnExactSalvageBlocksi
import Derived.Test.YtkllogmpaaeokaaDoorKFnExactSalvageBlocksj
import Derived.Lib.CutLaws
import Derived.Handed
import Derived.HandedShaped
import Derived.SizedLaws
import Derived.Stop.LaidErr
import Derived.Test.YtkllogmpaaeokaaDoorRows
import Derived.WalkKit
import Derived.ProofKit
import Derived.OpenShut
import Derived.ShutString
import Derived.ChangeOld
import Derived.Below
import Derived.Lib.LaidTab
import Derived.Lib.ItoaNum
import Derived.LaidMore
import Derived.Lay
import Derived.SevenTiedAt
import Derived.Stop.Joined
import Derived.Test.YtkllogmpaaeokaaDoorTie
import Derived.Test.YtkllogmpaaeokaaDoorCards

section
namespace Go.Proofs.YtkllogmpaaeokaaDoor.PParse
open Go.RowKit Go.Proofs.YtkllogmpaaeokaaDoorW.PrintWords Go.Proofs.YtkllogmpaaeokaaDoor.XS Go.Proofs.YtkllogmpaaeokaaDoor.EvK Go.Proofs.YtkllogmpaaeokaaDoor.PBasics Go.Proofs.YtkllogmpaaeokaaDoor.PBlocks Go.Proofs.YtkllogmpaaeokaaDoor.PCrc Go.Proofs.YtkllogmpaaeokaaDoor.PSplit
set_option linter.unusedVariables false
set_option linter.unusedSimpArgs false
theorem first_at (R : List UInt8) (c : UInt8) : ∀ (d p : Nat), p + d = R.length → ∃ q, p ≤ q ∧ q ≤ R.length ∧ (∀ j, p ≤ j → j < q → R[j]? ≠ some c) ∧ (q < R.length → R[q]? = some c) := by
  intro d
  induction d with
  | zero => intro p hp; exact ⟨p, Nat.le_refl _, by omega, fun j h1 h2 => by omega, fun h => by omega⟩
  | succ d ih =>
    intro p hp
    by_cases h : R[p]? = some c
    · exact ⟨p, Nat.le_refl _, by omega, fun j h1 h2 => by omega, fun _ => h⟩
    · obtain ⟨q, h1, h2, h3, h4⟩ := ih (p + 1) (by omega)
      refine ⟨q, by omega, h2, fun j g1 g2 => ?_, h4⟩
      by_cases e : j = p
      · rw [e]; exact h
      · exact h3 j (by omega) g2
theorem bt_eq (s : ByteArray) (j : Nat) (hj : j < s.size) (c : UInt8) : bt s (j : Int) = (c.toNat : Int) ↔ s.data.toList[j]? = some c := by
  have hl : j < s.data.toList.length := by rw [size_len'] at hj; exact hj
  rw [bytes_at_ s j hl, List.getElem?_eq_getElem hl, Option.some.injEq]
  constructor
  · intro h; exact UInt8.toNat_inj.1 (by omega)
  · intro h; rw [h]
theorem indexB_none (s : ByteArray) (c : UInt8) (h : ∀ j, j < s.size → s.data.toList[j]? ≠ some c) : Lib.indexB s ⟨#[c]⟩ = -1 := by
  rcases Lib.indexB_cases s ⟨#[c]⟩ with h' | ⟨i, h', hi⟩
  · exact h'
  · rw [index_at] at h'
    obtain ⟨g1, _⟩ := Lib.indexByte_some h'
    exact absurd g1 (h i (by have := (List.getElem?_eq_some_iff.1 g1).1; rw [size_len']; exact this))
theorem indexB_some (s : ByteArray) (c : UInt8) (i : Nat) (hi : s.data.toList[i]? = some c) (h : ∀ j, j < i → s.data.toList[j]? ≠ some c) : Lib.indexB s ⟨#[c]⟩ = i := by
  rcases Lib.indexB_cases s ⟨#[c]⟩ with h' | ⟨q, h', hq⟩
  · rw [index_at] at h'
    exact absurd hi (Lib.indexByte_none h' i)
  · rw [index_at] at h' ⊢
    obtain ⟨g1, g2⟩ := Lib.indexByte_some h'
    rw [h']
    rcases Nat.lt_trichotomy q i with hl | hl | hl
    · exact absurd g1 (h q hl)
    · rw [hl]
    · exact absurd hi (g2 i hl)
theorem cut_miss (s : ByteArray) (c : UInt8) (hs : s.size ≤ 1048576) (h : ∀ j, j < s.size → s.data.toList[j]? ≠ some c) : strings_Cut.f s ⟨#[c]⟩ = some (s, ByteArray.empty, false) := by
  obtain ⟨e1, e2, e3⟩ := Lib.cutB_miss s ⟨#[c]⟩ (indexB_none s c h)
  unfold strings_Cut.f
  rw [if_pos (by omega), e1, e2, e3]
theorem cut_hit (s : ByteArray) (c : UInt8) (hs : s.size ≤ 1048576) (i : Nat) (hi : s.data.toList[i]? = some c) (h : ∀ j, j < i → s.data.toList[j]? ≠ some c) : strings_Cut.f s ⟨#[c]⟩ = some (s.extract 0 i, s.extract (i + 1) s.size, true) := by
  obtain ⟨e1, e2, e3⟩ := Lib.cutB_hit s ⟨#[c]⟩ i (indexB_some s c i hi h)
  unfold strings_Cut.f
  rw [if_pos (by omega), e1, e2, e3]
  rfl
abbrev none4 : ByteArray × ByteArray × ByteArray × Int := ((⟨#[]⟩ : ByteArray), (⟨#[]⟩ : ByteArray), (⟨#[]⟩ : ByteArray), 9)
theorem loop1 (R : ByteArray) (hR : R.size ≤ 1048576) (i : Nat) (q : Nat) (hq : q ≤ R.size + 1) {P : ByteArray × ByteArray × ByteArray × Int → Prop} : ∀ (d p : Nat), p + d = q → (∀ j, p ≤ j → j < q → R.data.toList[j]? ≠ some 32) → (q < R.size → R.data.toList[q]? = some 32) →
    (q = R.size + 1 → p = q) →
    EvP (fun k => spec_l29Parse.j4 k R (i : Int) (q : Int)) P → EvP (fun k => spec_l29Parse.l1 k R (i : Int) (p : Int)) P := by
  intro d
  induction d with
  | zero =>
    intro p hp hn hs hz K
    obtain rfl : p = q := by omega
    refine EvP.step (fun k => spec_l29Parse.l1.eq_2 _ _ _ k) ?_
    by_cases hlt : (p : Int) < (R.size : Int)
    · simp only [if_pos hlt, if_pos (show (0 : Int) ≤ (p : Int) by omega), if_pos (show bt R (p : Int) = 32 from (bt_eq R p (by omega) 32).2 (hs (by omega)))]
      exact K
    · simp only [if_neg hlt]
      exact K
  | succ d ih =>
    intro p hp hn hs hz K
    refine EvP.step (fun k => spec_l29Parse.l1.eq_2 _ _ _ k) ?_
    have hlt : (p : Int) < (R.size : Int) := by omega
    have hne : ¬ bt R (p : Int) = 32 := fun e => hn p (Nat.le_refl _) (by omega) ((bt_eq R p (by omega) 32).1 e)
    simp only [if_pos hlt, if_pos (show (0 : Int) ≤ (p : Int) by omega), if_neg hne, w64 (show -9223372036854775808 ≤ (p : Int) + 1 by omega) (by omega)]
    have := ih (p + 1) (by omega) (fun j h1 h2 => hn j (by omega) h2) hs (by omega) K
    simpa using this
theorem loop0 (R : ByteArray) (hR : R.size ≤ 1048576) (q : Nat) (hq : q ≤ R.size) {P : ByteArray × ByteArray × ByteArray × Int → Prop} : ∀ (d p : Nat), p + d = q → (∀ j, p ≤ j → j < q → R.data.toList[j]? ≠ some 32) → (q < R.size → R.data.toList[q]? = some 32) →
    EvP (fun k => spec_l29Parse.l1 k R (q : Int) ((q : Int) + 1)) P → EvP (fun k => spec_l29Parse.l0 k R (p : Int)) P := by
  have fin : ∀ P : ByteArray × ByteArray × ByteArray × Int → Prop, EvP (fun k => spec_l29Parse.l1 k R (q : Int) ((q : Int) + 1)) P → EvP (fun k => spec_l29Parse.j2 k R (q : Int)) P := by
    intro P K
    refine EvP.step (fun k => spec_l29Parse.j2.eq_2 _ _ k) ?_
    simp only [w64 (show -9223372036854775808 ≤ (q : Int) + 1 by omega) (by omega)]
    exact K
  intro d
  induction d with
  | zero =>
    intro p hp hn hs K
    obtain rfl : p = q := by omega
    refine EvP.step (fun k => spec_l29Parse.l0.eq_2 _ _ k) ?_
    by_cases hlt : (p : Int) < (R.size : Int)
    · simp only [if_pos hlt, if_pos (show (0 : Int) ≤ (p : Int) by omega), if_pos (show bt R (p : Int) = 32 from (bt_eq R p (by omega) 32).2 (hs (by omega)))]
      exact fin _ K
    · simp only [if_neg hlt]
      exact fin _ K
  | succ d ih =>
    intro p hp hn hs K
    refine EvP.step (fun k => spec_l29Parse.l0.eq_2 _ _ k) ?_
    have hlt : (p : Int) < (R.size : Int) := by omega
    have hne : ¬ bt R (p : Int) = 32 := fun e => hn p (Nat.le_refl _) (by omega) ((bt_eq R p (by omega) 32).1 e)
    simp only [if_pos hlt, if_pos (show (0 : Int) ≤ (p : Int) by omega), if_neg hne, w64 (show -9223372036854775808 ≤ (p : Int) + 1 by omega) (by omega)]
    have := ih (p + 1) (by omega) (fun j h1 h2 => hn j (by omega) h2) hs K
    simpa using this
theorem ex_size (s : ByteArray) (a b : Nat) (hb : b ≤ s.size) : (s.extract a b).size = b - a := by
  rw [ByteArray.size_extract]
  omega
def Good4 (r : ByteArray × ByteArray × ByteArray × Int) : Prop := r.1.size ≤ 1048576 ∧ r.2.1.size ≤ 1048576 ∧ r.2.2.1.size ≤ 1048576 ∧ (r.2.2.2 = 0 → blockOk r.1 r.2.1 r.2.2.1 = true) ∧ 0 ≤ r.2.2.2 ∧ r.2.2.2 ≤ 10
theorem good_none (c : Int) (h : c = 9 ∨ c = 10) : Good4 ((⟨#[]⟩ : ByteArray), (⟨#[]⟩ : ByteArray), (⟨#[]⟩ : ByteArray), c) := ⟨Nat.zero_le _, Nat.zero_le _, Nat.zero_le _, fun e => by simp only at e; omega, by simp only; omega, by simp only; omega⟩
theorem parse_ev (s : ByteArray) (hs : s.size ≤ 1048576) : ∃ r, Good4 r ∧ Ev (fun k => spec_l29Parse.f k s) r ∧ Ev (fun k => impl_blockOf.f k s) r := by
  have short : ∀ x : Bool, x = true → Ev (fun k => spec_l29Parse.j0 k s x) none4 ∧ Ev (fun k => impl_blockOf.j0 k s x) none4 := by
    rintro x rfl
    refine ⟨Ev.step (fun k => spec_l29Parse.j0.eq_2 _ _ k) ?_, Ev.step (fun k => impl_blockOf.j0.eq_2 _ _ k) ?_⟩ <;> (simp only [if_true]; exact Ev.now _)
  by_cases h6 : (s.size : Int) < 6
  · refine ⟨none4, good_none 9 (Or.inl rfl), ?_, ?_⟩
    · unfold spec_l29Parse.f
      simp only [if_pos h6]
      exact (short true rfl).1
    · unfold impl_blockOf.f
      simp only [if_pos h6]
      exact (short true rfl).2
  have h5 : (5 : Int) < (s.size : Int) := by omega
  cases hb : (bt s 5 != 32) with
  | true =>
    refine ⟨none4, good_none 9 (Or.inl rfl), ?_, ?_⟩
    · unfold spec_l29Parse.f
      simp only [if_neg h6, if_pos h5, hb]
      exact (short true rfl).1
    · unfold impl_blockOf.f
      simp only [if_neg h6, if_pos h5, hb]
      exact (short true rfl).2
  | false =>
    obtain ⟨R, hRe⟩ : ∃ R, R = s.extract 6 s.size := ⟨_, rfl⟩
    have hR : R.size ≤ 1048576 := by rw [hRe, ex_size _ _ _ (Nat.le_refl _)]; omega
    obtain ⟨v, c, hc, e1, e2, e3⟩ := check_ev R (by omega)
    have toSpec : ∀ r, Ev (fun k => if (s.extract 0 5).toList = c.toList then spec_l29Parse.l0 k R 0 else some ((⟨#[]⟩ : ByteArray), (⟨#[]⟩ : ByteArray), (⟨#[]⟩ : ByteArray), 10)) r → Ev (fun k => spec_l29Parse.f k s) r := by
      intro r K
      unfold spec_l29Parse.f
      simp only [if_neg h6, if_pos h5, hb]
      refine Ev.step (fun k => spec_l29Parse.j0.eq_2 _ _ k) ?_
      simp only [Bool.false_eq_true, if_false, if_pos (show (6 : Int) ≤ (s.size : Int) by omega), if_pos (show (0 : Int) ≤ 5 by omega), if_pos (show (5 : Int) ≤ (s.size : Int) by omega), ← hRe]
      exact Ev.bind e2 (Ev.bind e3 K)
    have toImpl : ∀ r, Ev (fun k => if (s.extract 0 5).toList = c.toList then ((strings_Cut.f R (⟨#[32]⟩ : ByteArray)).bind fun bt168 => ((strings_Cut.f bt168.2.1 (⟨#[32]⟩ : ByteArray)).bind fun bt171 => (if bt171.2.2 = true then ((impl_ValidBlock.f k bt168.1 bt171.1 bt171.2.1).bind fun t175 => (if t175 = true then (some (bt168.1, bt171.1, bt171.2.1, 0)) else (some none4))) else (some none4)))) else some ((⟨#[]⟩ : ByteArray), (⟨#[]⟩ : ByteArray), (⟨#[]⟩ : ByteArray), 10)) r → Ev (fun k => impl_blockOf.f k s) r := by
      intro r K
      unfold impl_blockOf.f
      simp only [if_neg h6, if_pos h5, hb]
      refine Ev.step (fun k => impl_blockOf.j0.eq_2 _ _ k) ?_
      simp only [Bool.false_eq_true, if_false, if_pos (show (6 : Int) ≤ (s.size : Int) by omega), if_pos (show (0 : Int) ≤ 5 by omega), if_pos (show (5 : Int) ≤ (s.size : Int) by omega), ← hRe]
      exact Ev.bind e1 K
    by_cases hcs : (s.extract 0 5).toList = c.toList
    rotate_left
    · refine ⟨_, good_none 10 (Or.inr rfl), toSpec _ ?_, toImpl _ ?_⟩ <;> (simp only [if_neg hcs]; exact Ev.now _)
    have hL := size_len' R
    obtain ⟨i, _, hi1, hi2, hi3⟩ := first_at R.data.toList 32 R.data.toList.length 0 (by omega)
    by_cases hi : i = R.size
    · refine ⟨none4, good_none 9 (Or.inl rfl), toSpec _ ?_, toImpl _ ?_⟩
      · simp only [if_pos hcs]
        refine EvP.eq ?_
        refine loop0 R hR i (by omega) i 0 (by omega) (fun j h1 h2 => hi2 j h1 h2) (fun h => by omega) ?_
        have hc1 : ((i : Int) + 1) = ((i + 1 : Nat) : Int) := by omega
        rw [hc1]
        refine loop1 R hR i (i + 1) (by omega) 0 (i + 1) (by omega) (fun j h1 h2 => by omega) (fun h => by omega) (fun _ => rfl) ?_
        refine EvP.step (fun k => spec_l29Parse.j4.eq_2 _ _ _ k) ?_
        simp only [if_pos (show ((i + 1 : Nat) : Int) ≥ (R.size : Int) by omega)]
        exact EvP.now rfl
      · simp only [if_pos hcs, cut_miss R 32 hR (fun j hj => hi2 j (by omega) (by omega)), Option.bind_some, cut_miss ByteArray.empty 32 (by decide) (fun j hj => by simp), Bool.false_eq_true, if_false]
        exact Ev.now _
    have hi4 := hi3 (by omega)
    obtain ⟨m, hm0, hm1, hm2, hm3⟩ := first_at R.data.toList 32 (R.data.toList.length - (i + 1)) (i + 1) (by omega)
    obtain ⟨T, hT⟩ : ∃ T, T = R.extract (i + 1) R.size := ⟨_, rfl⟩
    have hTs : T.size = R.size - (i + 1) := by rw [hT, ex_size _ _ _ (Nat.le_refl _)]
    have hTl : T.data.toList = R.data.toList.drop (i + 1) := by
      rw [hT, extract_list]
      exact List.take_of_length_le (by rw [List.length_drop]; omega)
    have hTg : ∀ j, T.data.toList[j]? = R.data.toList[i + 1 + j]? := by
      intro j
      rw [hTl, List.getElem?_drop]
    have hcut1 := cut_hit R 32 hR i hi4 (fun j hj => hi2 j (by omega) hj)
    rw [← hT] at hcut1
    have hc1 : ((i : Int) + 1) = ((i + 1 : Nat) : Int) := by omega
    by_cases hm : m = R.size
    · refine ⟨none4, good_none 9 (Or.inl rfl), toSpec _ ?_, toImpl _ ?_⟩
      · simp only [if_pos hcs]
        refine EvP.eq ?_
        refine loop0 R hR i (by omega) i 0 (by omega) (fun j h1 h2 => hi2 j h1 h2) (fun _ => hi4) ?_
        rw [hc1]
        refine loop1 R hR i m (by omega) (m - (i + 1)) (i + 1) (by omega) hm2 (fun h => by omega) (fun h => by omega) ?_
        refine EvP.step (fun k => spec_l29Parse.j4.eq_2 _ _ _ k) ?_
        simp only [if_pos (show (m : Int) ≥ (R.size : Int) by omega)]
        exact EvP.now rfl
      · simp only [if_pos hcs, hcut1, Option.bind_some, cut_miss T 32 (by omega) (fun j hj => by rw [hTg]; exact hm2 _ (by omega) (by omega)), Bool.false_eq_true, if_false]
        exact Ev.now _
    have hm4 := hm3 (by omega)
    have hcut2 := cut_hit T 32 (by omega) (m - (i + 1)) (by rw [hTg, show i + 1 + (m - (i + 1)) = m by omega]; exact hm4) (fun j hj => by rw [hTg]; exact hm2 _ (by omega) (by omega))
    have x1 : T.extract 0 (m - (i + 1)) = R.extract (i + 1) m := by
      apply data_inj
      rw [extract_list, extract_list, hTl]
      simp
    have x2 : T.extract (m - (i + 1) + 1) T.size = R.extract (m + 1) R.size := by
      apply data_inj
      rw [extract_list, extract_list, hTl, List.drop_drop, hTs]
      congr 1
      · omega
      · congr 1; omega
    rw [x1, x2] at hcut2
    have y0 := ex_size R 0 i (by omega)
    have y1 := ex_size R (i + 1) m (by omega)
    have y2 := ex_size R (m + 1) R.size (Nat.le_refl _)
    have b1 := oneBlock_ev (R.extract 0 i) (R.extract (i + 1) m) (R.extract (m + 1) R.size) (by omega) (by omega) (by omega)
    have b2 := validBlock_ev (R.extract 0 i) (R.extract (i + 1) m) (R.extract (m + 1) R.size) (by omega) (by omega) (by omega)
    refine ⟨if blockOk (R.extract 0 i) (R.extract (i + 1) m) (R.extract (m + 1) R.size) = true then (R.extract 0 i, R.extract (i + 1) m, R.extract (m + 1) R.size, 0) else none4, ?_, toSpec _ ?_, toImpl _ ?_⟩
    · split
      · rename_i hok
        exact ⟨by simp only; omega, by simp only; omega, by simp only; omega, fun _ => hok, by simp only; omega, by simp only; omega⟩
      · exact good_none 9 (Or.inl rfl)
    · simp only [if_pos hcs]
      refine EvP.eq ?_
      refine loop0 R hR i (by omega) i 0 (by omega) (fun j h1 h2 => hi2 j h1 h2) (fun _ => hi4) ?_
      rw [hc1]
      refine loop1 R hR i m (by omega) (m - (i + 1)) (i + 1) (by omega) hm2 (fun _ => hm4) (fun h => by omega) ?_
      refine EvP.step (fun k => spec_l29Parse.j4.eq_2 _ _ _ k) ?_
      simp only [if_neg (show ¬ (m : Int) ≥ (R.size : Int) by omega), w64 (show -9223372036854775808 ≤ (i : Int) + 1 by omega) (by omega), w64 (show -9223372036854775808 ≤ (m : Int) + 1 by omega) (by omega), if_pos (show (0 : Int) ≤ (i : Int) by omega), if_pos (show (i : Int) ≤ (R.size : Int) by omega), if_pos (show (0 : Int) ≤ (i : Int) + 1 by omega), if_pos (show (i : Int) + 1 ≤ (m : Int) by omega), if_pos (show (m : Int) ≤ (R.size : Int) by omega), if_pos (show (0 : Int) ≤ (m : Int) + 1 by omega), if_pos (show (m : Int) + 1 ≤ (R.size : Int) by omega), Int.toNat_natCast, show ((i : Int) + 1).toNat = i + 1 by omega, show ((m : Int) + 1).toNat = m + 1 by omega]
      refine EvP.bind b1 ?_
      split <;> exact EvP.now rfl
    · simp only [if_pos hcs, hcut1, hcut2, Option.bind_some, if_true]
      refine Ev.bind b2 ?_
      split <;> exact Ev.now _
end Go.Proofs.YtkllogmpaaeokaaDoor.PParse
end

section
namespace Go.Proofs.YtkllogmpaaeokaaDoor.PLinesS
open Go.RowKit Go.Proofs.YtkllogmpaaeokaaDoorW.PrintWords Go.Proofs.YtkllogmpaaeokaaDoor.XS Go.Proofs.YtkllogmpaaeokaaDoor.EvK Go.Proofs.YtkllogmpaaeokaaDoor.PSplit
set_option linter.unusedVariables false
set_option linter.unusedSimpArgs false
theorem sp_pos (c : UInt8) (acc l : List UInt8) : 0 < (sp c acc l).length := by
  obtain ⟨i, z, h1, _⟩ := sp_join c l acc
  rw [h1]
  simp
theorem sp_len (c : UInt8) : ∀ (l acc : List UInt8), (sp c acc l).length ≤ l.length + 1
  | [], acc => by simp [sp]
  | b :: l, acc => by
    rw [sp]
    split
    · have := sp_len c l []; simp only [List.length_cons]; omega
    · have := sp_len c l (acc ++ [b]); simp only [List.length_cons]; omega
theorem sp_part (c : UInt8) : ∀ (l acc : List UInt8), ∀ x ∈ sp c acc l, x.length ≤ acc.length + l.length
  | [], acc, x, h => by
    rw [sp, List.mem_singleton] at h
    rw [h]; simp
  | b :: l, acc, x, h => by
    rw [sp] at h
    split at h
    · rcases List.mem_cons.1 h with h | h
      · rw [h]; simp
      · have := sp_part c l [] x h
        simp only [List.length_nil, List.length_cons] at this ⊢
        omega
    · have := sp_part c l (acc ++ [b]) x h
      simp only [List.length_append, List.length_cons, List.length_nil] at this ⊢
      omega
theorem pieces_ev (s : ByteArray) (c : UInt8) (hs : s.size ≤ 1048576) : ∃ x : List ByteArray, 0 < x.length ∧ x.length ≤ 1048577 ∧ (∀ y ∈ x, y.size ≤ 1048576) ∧ x.map (·.data.toList) = sp c [] s.data.toList ∧ strings_Split.f s ⟨#[c]⟩ = some x ∧ Ev (fun k => spec_l01Split.f k s (c.toNat : Int)) x := by
  obtain ⟨r, h1, h2⟩ := split_ev s c hs
  have hsp := splitB_sp c (Lib.countB s ⟨#[c]⟩) s rfl
  have e : Lib.splitB ⟨#[c]⟩ 0 (Lib.countB s ⟨#[c]⟩) s = r := lists_eq (hsp.trans h2.symm)
  have hl : r.length = (sp c [] s.data.toList).length := by rw [← h2, List.length_map]
  have h3 := sp_pos c [] s.data.toList
  have h4 := sp_len c s.data.toList []
  have h5 := size_len' s
  refine ⟨r, by omega, by omega, fun y hy => ?_, h2, ?_, h1⟩
  · have hm : y.data.toList ∈ sp c [] s.data.toList := by rw [← h2]; exact List.mem_map.2 ⟨y, hy, rfl⟩
    have := sp_part c _ _ _ hm
    rw [size_len']
    simp only [List.length_nil] at this
    omega
  · unfold strings_Split.f
    rw [if_pos ⟨by omega, Nat.le_refl 1⟩, e]
theorem lines_ev (s : ByteArray) (hs : s.size ≤ 1048576) : ∃ x : List ByteArray, 0 < x.length ∧ x.length ≤ 1048577 ∧ (∀ y ∈ x, y.size ≤ 1048576) ∧ x.map (·.data.toList) = sp 10 [] s.data.toList ∧ strings_Split.f s ⟨#[10]⟩ = some x ∧ Ev (fun k => spec_l29Lines.f k s) (x.take (x.length - 1), (rdOf (⟨#[]⟩ : ByteArray) x ((x.length : Int) - 1)).toList.isEmpty) := by
  obtain ⟨x, h0, h1, h2, h3, h4, h5⟩ := pieces_ev s 10 hs
  refine ⟨x, h0, h1, h2, h3, h4, ?_⟩
  unfold spec_l29Lines.f
  refine Ev.bind h5 ?_
  simp only [if_pos (show 1 ≤ x.length by omega)]
  exact Ev.now _
end Go.Proofs.YtkllogmpaaeokaaDoor.PLinesS
end

section
namespace Go.Proofs.YtkllogmpaaeokaaDoor.PBlockL
open Go.RowKit Go.Proofs.YtkllogmpaaeokaaDoorW.PrintWords Go.Proofs.YtkllogmpaaeokaaDoor.XS Go.Proofs.YtkllogmpaaeokaaDoor.EvK Go.Proofs.YtkllogmpaaeokaaDoor.PBasics Go.Proofs.YtkllogmpaaeokaaDoor.PBlocks
set_option linter.unusedVariables false
set_option linter.unusedSimpArgs false
def lessS (a b : ByteArray) : Bool := Op.bytesLess a.data.toList b.data.toList
def before (a b : S35) : Bool := lessS a.f0 b.f0 || (decide (a.f0.data.toList = b.f0.data.toList) && lessS a.f1 b.f1)
def cmpS (a b : ByteArray) : Int := if lessS a b = true then -1 else if lessS b a = true then 1 else 0
def cmpB (a b : S35) : Int := if cmpS a.f0 b.f0 = 0 then cmpS a.f1 b.f1 else cmpS a.f0 b.f0
theorem less_ge' (a b : ByteArray) : (lessS a b || decide (a.data.toList = b.data.toList)) = !(lessS b a) := by
  have h := less_ge a.data.toList b.data.toList
  unfold lessS
  rw [← h]
  congr 1
  rw [Bool.eq_iff_iff]
  simp
theorem less_ge2 (a b : ByteArray) : (lessS b a || decide (a.data.toList = b.data.toList)) = !(lessS a b) := by
  rw [← less_ge' b a]
  congr 1
  rw [Bool.eq_iff_iff, decide_eq_true_eq, decide_eq_true_eq]
  exact eq_comm
theorem cmpB_ge (a b : S35) : 0 ≤ cmpB a b ↔ before a b = false := by
  have h := less_ge' a.f0 b.f0
  unfold cmpB before cmpS
  cases h1 : lessS a.f0 b.f0 <;> cases h2 : lessS b.f0 a.f0 <;> cases h3 : lessS a.f1 b.f1 <;> cases h4 : lessS b.f1 a.f1 <;> simp_all
theorem cmpB_zero (a b : S35) : cmpB a b = 0 ↔ a.f0.data.toList = b.f0.data.toList ∧ a.f1.data.toList = b.f1.data.toList := by
  have h := less_ge' a.f0 b.f0
  have g := less_ge' a.f1 b.f1
  have h' := less_ge2 a.f0 b.f0
  have g' := less_ge2 a.f1 b.f1
  unfold cmpB cmpS
  cases h1 : lessS a.f0 b.f0 <;> cases h2 : lessS b.f0 a.f0 <;> cases h3 : lessS a.f1 b.f1 <;> cases h4 : lessS b.f1 a.f1 <;> simp_all
theorem compare_eq (a b : ByteArray) : cmp_Compare_string.f a b = some (cmpS a b) := by
  unfold cmp_Compare_string.f cmp_isNaN_string.f cmpS lessS
  simp only [bne_self_eq_false, Option.bind_some, Bool.false_eq_true, if_false, toList_eq]
  by_cases h1 : Op.bytesLess a.data.toList b.data.toList = true
  · simp only [if_pos h1]
  · simp only [if_neg h1]
    by_cases h2 : Op.bytesLess b.data.toList a.data.toList = true
    · simp only [if_pos h2]
    · simp only [if_neg h2]
theorem or_ev (a b : Int) : Ev (fun k => cmp_Or_int.f k [a, b]) (if a = 0 then b else a) := by
  unfold cmp_Or_int.f
  have w1 : wrap64 (0 + 1) = 1 := by rw [w64 (by omega) (by omega)]; rfl
  have w2 : wrap64 (1 + 1) = 2 := by rw [w64 (by omega) (by omega)]; rfl
  have r0 : rd [a, b] 0 = a := rfl
  have r1 : rd [a, b] 1 = b := rfl
  have hl : (([a, b] : List Int).length : Int) = 2 := rfl
  refine Ev.step (fun k => cmp_Or_int.l0.eq_2 _ _ _ _ k) ?_
  simp only [hl, w1, r0, if_pos (show (0 : Int) < 2 by omega), if_pos (show (0 : Int) ≤ 0 by omega)]
  by_cases ha : a = 0
  · simp only [if_pos ha]
    refine Ev.step (fun k => cmp_Or_int.l0.eq_2 _ _ _ _ k) ?_
    simp only [hl, w2, r1, if_pos (show (1 : Int) < 2 by omega), if_pos (show (0 : Int) ≤ 1 by omega)]
    by_cases hb : b = 0
    · simp only [if_pos hb]
      refine Ev.step (fun k => cmp_Or_int.l0.eq_2 _ _ _ _ k) ?_
      simp only [hl, if_neg (show ¬ (2 : Int) < 2 by omega), hb]
      exact Ev.now _
    · simp only [if_neg hb]; exact Ev.now _
  · simp only [if_neg ha]; exact Ev.now _
theorem compareB_ev (a b : S35) : Ev (fun k => impl_compareBlocks.f k a.f0 a.f1 a.f2 b.f0 b.f1 b.f2) (cmpB a b) := by
  unfold impl_compareBlocks.f
  simp only [compare_eq, Option.bind_some]
  exact Ev.bind (or_ev _ _) (Ev.now _)
theorem before_eq (a b : S35) : spec_l29Before.f a.f0 a.f1 a.f2 b.f0 b.f1 b.f2 = some (before a b) := by
  unfold spec_l29Before.f before
  simp only [toList_eq]
  show (if lessS a.f0 b.f0 = true then some true else if a.f0.data.toList = b.f0.data.toList then some (lessS a.f1 b.f1) else some false) = _
  cases lessS a.f0 b.f0
  · by_cases h : a.f0.data.toList = b.f0.data.toList <;> simp [h]
  · simp
def okAt (l : List S35) (i : Nat) : Bool := let b := l.getD i z35; blockOk b.f0 b.f1 b.f2 && (decide (i = 0) || before (l.getD (i - 1) z35) b)
def listOk (l : List S35) : Bool := (List.range l.length).all (okAt l) && decide ((l.length : Int) ≤ 32)
def Small (l : List S35) : Prop := l.length ≤ 1048576 ∧ ∀ x ∈ l, x.f0.size ≤ 1048576 ∧ x.f1.size ≤ 1048576 ∧ x.f2.size ≤ 1048576
theorem rd_nat (l : List S35) (i : Nat) : rd_T35 l (i : Int) = l.getD i z35 := rfl
theorem getD_mem {l : List S35} {i : Nat} (h : i < l.length) : l.getD i z35 ∈ l := by
  rw [List.getD_eq_getElem?_getD, List.getElem?_eq_getElem h]
  exact List.getElem_mem h
theorem implOk_ev (l : List S35) (hs : Small l) : Ev (fun k => impl_ValidBlocks.f k l) (listOk l) := by
  have hl := hs.1
  unfold impl_ValidBlocks.f listOk
  by_cases h32 : (l.length : Int) > 32
  · simp only [if_pos h32, decide_eq_false (show ¬ (l.length : Int) ≤ 32 by omega), Bool.and_false]
    exact Ev.now _
  simp only [if_neg h32, decide_eq_true (show (l.length : Int) ≤ 32 by omega), Bool.and_true]
  have e : (List.range l.length).all (okAt l) = if (List.range l.length).all (okAt l) = true then true else false := by
    cases (List.range l.length).all (okAt l) <;> simp
  rw [e]
  refine all_n (L := fun k i => impl_ValidBlocks.l0 k l l (l.length : Int) i) l.length (okAt l) _ _ ?_ ?_ ?_
  · intro i hi hp P K
    obtain ⟨z0, z1, z2⟩ := hs.2 _ (getD_mem hi)
    refine EvP.step (fun k => impl_ValidBlocks.l0.eq_2 _ _ _ _ k) ?_
    simp only [if_pos (show (i : Int) < (l.length : Int) by omega), if_pos (show (0 : Int) ≤ (i : Int) by omega), rd_nat, w64 (show -9223372036854775808 ≤ (i : Int) + 1 by omega) (by omega), w64 (show -9223372036854775808 ≤ (i : Int) - 1 by omega) (by omega)]
    simp only [okAt, Bool.and_eq_true, Bool.or_eq_true, decide_eq_true_eq] at hp
    refine EvP.bind (validBlock_ev _ _ _ z0 z1 z2) ?_
    simp only [hp.1, if_true]
    by_cases h0 : i = 0
    · simp only [if_neg (show ¬ (i : Int) > 0 by omega)]
      exact K
    · have hb : before (l.getD (i - 1) z35) (l.getD i z35) = true := by rcases hp.2 with h | h; exact absurd h h0; exact h
      have ei : ((i : Int) - 1) = ((i - 1 : Nat) : Int) := by omega
      simp only [if_pos (show (i : Int) > 0 by omega), ei, rd_nat, if_pos (show (0 : Int) ≤ ((i - 1 : Nat) : Int) by omega), if_pos (show ((i - 1 : Nat) : Int) < (l.length : Int) by omega)]
      refine EvP.bind (compareB_ev _ _) ?_
      have hc := cmpB_ge (l.getD (i - 1) z35) (l.getD i z35)
      rw [hb] at hc
      simp only [if_neg (show ¬ (cmpB (l.getD (i - 1) z35) (l.getD i z35) ≥ 0) from fun h => absurd (hc.1 h) (by decide))]
      exact K
  · intro i hi hp
    obtain ⟨z0, z1, z2⟩ := hs.2 _ (getD_mem hi)
    refine Ev.step (fun k => impl_ValidBlocks.l0.eq_2 _ _ _ _ k) ?_
    simp only [if_pos (show (i : Int) < (l.length : Int) by omega), if_pos (show (0 : Int) ≤ (i : Int) by omega), rd_nat, w64 (show -9223372036854775808 ≤ (i : Int) + 1 by omega) (by omega), w64 (show -9223372036854775808 ≤ (i : Int) - 1 by omega) (by omega)]
    refine Ev.bind (validBlock_ev _ _ _ z0 z1 z2) ?_
    simp only [okAt, Bool.and_eq_false_iff, Bool.or_eq_false_iff, decide_eq_false_iff_not] at hp
    cases hk : blockOk (l.getD i z35).f0 (l.getD i z35).f1 (l.getD i z35).f2 with
    | false => simp only [Bool.false_eq_true, if_false]; exact Ev.now _
    | true =>
      obtain ⟨h0, hb⟩ : i ≠ 0 ∧ before (l.getD (i - 1) z35) (l.getD i z35) = false := by rcases hp with h | h; rw [hk] at h; exact absurd h (by decide); exact h
      have ei : ((i : Int) - 1) = ((i - 1 : Nat) : Int) := by omega
      simp only [if_true, if_pos (show (i : Int) > 0 by omega), ei, rd_nat, if_pos (show (0 : Int) ≤ ((i - 1 : Nat) : Int) by omega), if_pos (show ((i - 1 : Nat) : Int) < (l.length : Int) by omega)]
      refine Ev.bind (compareB_ev _ _) ?_
      have hc := cmpB_ge (l.getD (i - 1) z35) (l.getD i z35)
      simp only [if_pos (show cmpB (l.getD (i - 1) z35) (l.getD i z35) ≥ 0 from hc.2 hb)]
      exact Ev.now _
  · refine Ev.step (fun k => impl_ValidBlocks.l0.eq_2 _ _ _ _ k) ?_
    simp only [if_neg (show ¬ (l.length : Int) < (l.length : Int) by omega)]
    exact Ev.now _
end Go.Proofs.YtkllogmpaaeokaaDoor.PBlockL
end

section
namespace Go.Proofs.YtkllogmpaaeokaaDoor.PSearch
open Go.RowKit Go.Proofs.YtkllogmpaaeokaaDoorW.PrintWords Go.Proofs.YtkllogmpaaeokaaDoor.XS Go.Proofs.YtkllogmpaaeokaaDoor.EvK Go.Proofs.YtkllogmpaaeokaaDoor.PBasics Go.Proofs.YtkllogmpaaeokaaDoor.PBlocks Go.Proofs.YtkllogmpaaeokaaDoor.PBlockL
set_option linter.unusedVariables false
set_option linter.unusedSimpArgs false
theorem less_trans : ∀ (x y z : List UInt8), Op.bytesLess x y = true → Op.bytesLess y z = true → Op.bytesLess x z = true
  | _, y, [], _, h => by cases y <;> simp [Op.bytesLess] at h
  | _, [], _ :: _, h, _ => by simp [Op.bytesLess] at h
  | [], b :: y, c :: z, _, _ => rfl
  | a :: x, b :: y, c :: z, h1, h2 => by
    simp only [Op.bytesLess, Bool.or_eq_true, Bool.and_eq_true, decide_eq_true_eq, beq_iff_eq] at h1 h2 ⊢
    rcases h1 with h1 | ⟨rfl, h1⟩ <;> rcases h2 with h2 | ⟨rfl, h2⟩
    · exact Or.inl (UInt8.lt_trans h1 h2)
    · exact Or.inl h1
    · exact Or.inl h2
    · exact Or.inr ⟨rfl, less_trans x y z h1 h2⟩
theorem before_trans {a b c : S35} (h1 : before a b = true) (h2 : before b c = true) : before a c = true := by
  simp only [before, lessS, Bool.or_eq_true, Bool.and_eq_true, decide_eq_true_eq] at h1 h2 ⊢
  rcases h1 with h1 | ⟨e1, h1⟩ <;> rcases h2 with h2 | ⟨e2, h2⟩
  · exact Or.inl (less_trans _ _ _ h1 h2)
  · rw [← e2]; exact Or.inl h1
  · rw [e1]; exact Or.inl h2
  · exact Or.inr ⟨e1.trans e2, less_trans _ _ _ h1 h2⟩
def Sorted (l : List S35) : Prop := ∀ q p, q < p → p < l.length → before (l.getD q z35) (l.getD p z35) = true
theorem mid_eq {n : Int} (h0 : 0 ≤ n) (h1 : n ≤ 4611686018427387904) : wrap64 ((IntKind.u64.wrap (wrap64 n)) / 2) = n / 2 := by
  rw [w64 (show -9223372036854775808 ≤ n by omega) (by omega)]
  have e : IntKind.u64.wrap n = n := by
    simp only [IntKind.wrap, IntKind.bits, IntKind.signed]
    first | omega | (simp; omega)
  rw [e, w64 (by omega) (by omega)]
def At (l : List S35) (t : S35) (i : Nat) : Prop := i ≤ l.length ∧ (∀ p, p < i → before (l.getD p z35) t = true) ∧ (∀ p, i ≤ p → p < l.length → before (l.getD p z35) t = false)
def hit (l : List S35) (t : S35) (i : Nat) : Bool := decide (i < l.length) && (cmpB (l.getD i z35) t == 0)
theorem search_loop (l : List S35) (t : S35) (hl : l.length ≤ 1048576) (hs : Sorted l) : ∀ (d i j : Nat), j - i ≤ d → i ≤ j → j ≤ l.length → (∀ p, p < i → before (l.getD p z35) t = true) → (∀ p, j ≤ p → p < l.length → before (l.getD p z35) t = false) →
    EvP (fun k => slices_BinarySearchFunc_BlockS.l0 k l (l.length : Int) (i : Int) (j : Int) t.f0 t.f1 t.f2) (fun x => ∃ i, At l t i ∧ x = ((i : Int), hit l t i)) := by
  intro d
  induction d with
  | zero =>
    intro i j hd hij hj h1 h2
    obtain rfl : i = j := by omega
    refine EvP.step (fun k => slices_BinarySearchFunc_BlockS.l0.eq_2 _ _ _ _ _ _ _ k) ?_
    simp only [if_neg (show ¬ (i : Int) < (i : Int) by omega)]
    by_cases hn : i < l.length
    · simp only [if_pos (show (i : Int) < (l.length : Int) by omega), if_pos (show (0 : Int) ≤ (i : Int) by omega), rd_nat]
      refine EvP.bind (compareB_ev _ _) ?_
      exact EvP.now ⟨i, ⟨hj, h1, h2⟩, by rw [hit, decide_eq_true hn, Bool.true_and]⟩
    · simp only [if_neg (show ¬ (i : Int) < (l.length : Int) by omega)]
      exact EvP.now ⟨i, ⟨hj, h1, h2⟩, by rw [hit, decide_eq_false hn, Bool.false_and]⟩
  | succ d ih =>
    intro i j hd hij hj h1 h2
    by_cases he : i = j
    · exact ih i j (by omega) hij hj h1 h2
    have em : wrap64 ((IntKind.u64.wrap (wrap64 ((i : Int) + (j : Int)))) / 2) = (((i + j) / 2 : Nat) : Int) := by
      rw [mid_eq (by omega) (by omega)]; omega
    refine EvP.step (fun k => slices_BinarySearchFunc_BlockS.l0.eq_2 _ _ _ _ _ _ _ k) ?_
    simp only [if_pos (show (i : Int) < (j : Int) by omega), em, if_pos (show (0 : Int) ≤ (((i + j) / 2 : Nat) : Int) by omega), if_pos (show (((i + j) / 2 : Nat) : Int) < (l.length : Int) by omega), rd_nat, w64 (show -9223372036854775808 ≤ (((i + j) / 2 : Nat) : Int) + 1 by omega) (by omega)]
    refine EvP.bind (compareB_ev _ _) ?_
    have hc := cmpB_ge (l.getD ((i + j) / 2) z35) t
    cases hb : before (l.getD ((i + j) / 2) z35) t with
    | true =>
      simp only [if_pos (show cmpB (l.getD ((i + j) / 2) z35) t < 0 by rw [hb] at hc; exact Int.not_le.1 (fun h => absurd (hc.1 h) (by decide)))]
      have := ih ((i + j) / 2 + 1) j (by omega) (by omega) hj (fun p hp => ?_) h2
      · simpa using this
      · by_cases hq : p = (i + j) / 2
        · rw [hq]; exact hb
        · exact before_trans (hs p ((i + j) / 2) (by omega) (by omega)) hb
    | false =>
      simp only [if_neg (show ¬ cmpB (l.getD ((i + j) / 2) z35) t < 0 from Int.not_lt.2 (hc.2 hb))]
      refine ih i ((i + j) / 2) (by omega) (by omega) (by omega) h1 (fun p hp hp2 => ?_)
      by_cases hq : p = (i + j) / 2
      · rw [hq]; exact hb
      · cases hpb : before (l.getD p z35) t with
        | false => rfl
        | true =>
          have := before_trans (hs ((i + j) / 2) p (by omega) hp2) hpb
          rw [hb] at this
          exact absurd this (by decide)
theorem search_ev (l : List S35) (t : S35) (hl : l.length ≤ 1048576) (hs : Sorted l) : ∃ i, At l t i ∧ Ev (fun k => slices_BinarySearchFunc_BlockS.f k l t.f0 t.f1 t.f2) ((i : Int), hit l t i) := by
  obtain ⟨r, hr, i, ha, rfl⟩ := search_loop l t hl hs l.length 0 l.length (by omega) (by omega) (by omega) (fun p hp => by omega) (fun p hp hp2 => by omega)
  exact ⟨i, ha, hr⟩
end Go.Proofs.YtkllogmpaaeokaaDoor.PSearch
end

section
namespace Go.Proofs.YtkllogmpaaeokaaDoor.PPut
open Go.RowKit Go.Proofs.YtkllogmpaaeokaaDoorW.PrintWords Go.Proofs.YtkllogmpaaeokaaDoor.XS Go.Proofs.YtkllogmpaaeokaaDoor.EvK Go.Proofs.YtkllogmpaaeokaaDoor.PBasics Go.Proofs.YtkllogmpaaeokaaDoor.PBlocks Go.Proofs.YtkllogmpaaeokaaDoor.PBlockL Go.Proofs.YtkllogmpaaeokaaDoor.PSearch
set_option linter.unusedVariables false
set_option linter.unusedSimpArgs false
def Same (a b : S35) : Prop := a.f0.data.toList = b.f0.data.toList ∧ a.f1.data.toList = b.f1.data.toList
theorem before_turn {a b : S35} (h : before a b = false) (hn : ¬ Same a b) : before b a = true := by
  have hz : ¬ cmpB a b = 0 := fun h => hn ((cmpB_zero a b).1 h)
  have hg := (cmpB_ge a b).2 h
  unfold cmpB cmpS at hz hg
  unfold before
  have e1 := less_ge' a.f0 b.f0
  have e2 := less_ge' a.f1 b.f1
  have e3 := less_ge2 a.f0 b.f0
  have e4 := less_ge2 a.f1 b.f1
  cases h1 : lessS a.f0 b.f0 <;> cases h2 : lessS b.f0 a.f0 <;> cases h3 : lessS a.f1 b.f1 <;> cases h4 : lessS b.f1 a.f1 <;> simp_all
theorem before_congr1 {a b c : S35} (h : Same a b) : before a c = before b c := by
  simp only [before, lessS, h.1, h.2]
theorem not_before_same {a b : S35} (h : Same a b) : before a b = false := (cmpB_ge a b).1 (by rw [(cmpB_zero a b).2 h]; omega)
def skip (l : List S35) (t : S35) (i : Nat) : Nat := if hit l t i = true then 1 else 0
def putAt (l : List S35) (t : S35) (i : Nat) : List S35 := l.take i ++ [t] ++ l.drop (i + skip l t i)
theorem skip_le (l : List S35) (t : S35) (i : Nat) (hi : i ≤ l.length) : i + skip l t i ≤ l.length := by
  unfold skip
  split
  · rename_i h
    simp only [hit, Bool.and_eq_true, decide_eq_true_eq] at h
    omega
  · omega
theorem putAt_len (l : List S35) (t : S35) (i : Nat) (hi : i ≤ l.length) : (putAt l t i).length = l.length + 1 - skip l t i := by
  have := skip_le l t i hi
  unfold putAt
  rw [List.length_append, List.length_append, List.length_take, List.length_drop]
  simp only [List.length_cons, List.length_nil]
  omega
theorem putAt_get (l : List S35) (t : S35) (i q : Nat) (hi : i ≤ l.length) : (putAt l t i).getD q z35 = if q < i then l.getD q z35 else if q = i then t else l.getD (q - 1 + skip l t i) z35 := by
  unfold putAt
  simp only [List.getD_eq_getElem?_getD]
  by_cases h1 : q < i
  · rw [if_pos h1, List.append_assoc, List.getElem?_append_left (by rw [List.length_take]; omega), List.getElem?_take, if_pos h1]
  · rw [if_neg h1]
    by_cases h2 : q = i
    · subst h2
      rw [if_pos rfl, List.append_assoc, List.getElem?_append_right (by rw [List.length_take]; omega), List.length_take, Nat.min_eq_left hi, Nat.sub_self]
      rfl
    · rw [if_neg h2, List.getElem?_append_right (by rw [List.length_append, List.length_take]; simp only [List.length_cons, List.length_nil]; omega), List.length_append, List.length_take, Nat.min_eq_left hi, List.getElem?_drop]
      simp only [List.length_cons, List.length_nil]
      congr 2
      omega
theorem behind {l : List S35} {t : S35} {i : Nat} (hs : Sorted l) (ha : At l t i) (m : Nat) (h1 : i + skip l t i ≤ m) (h2 : m < l.length) : before t (l.getD m z35) = true := by
  cases hh : hit l t i with
  | true =>
    have e : skip l t i = 1 := by unfold skip; rw [if_pos hh]
    simp only [hit, Bool.and_eq_true, decide_eq_true_eq, beq_iff_eq] at hh
    have hz : Same (l.getD i z35) t := (cmpB_zero (l.getD i z35) t).1 hh.2
    have := hs i m (by omega) h2
    rwa [before_congr1 hz] at this
  | false =>
    have e : skip l t i = 0 := by unfold skip; rw [hh]; rfl
    have hn : ¬ Same (l.getD i z35) t := by
      intro h
      have := (cmpB_zero (l.getD i z35) t).2 h
      simp only [hit, decide_eq_true (show i < l.length by omega), Bool.true_and, beq_eq_false_iff_ne] at hh
      exact hh this
    have hb := before_turn (ha.2.2 i (Nat.le_refl _) (by omega)) hn
    by_cases hm : m = i
    · rw [hm]; exact hb
    · exact before_trans hb (hs i m (by omega) h2)
theorem not_same {l : List S35} {t : S35} {i : Nat} (hs : Sorted l) (ha : At l t i) (m : Nat) (h1 : m < i ∨ i + skip l t i ≤ m) (h2 : m < l.length) : ¬ Same (l.getD m z35) t := by
  intro h
  rcases h1 with h1 | h1
  · have := ha.2.1 m h1
    rw [not_before_same h] at this
    exact absurd this (by decide)
  · have := behind hs ha m h1 h2
    rw [not_before_same ⟨h.1.symm, h.2.symm⟩] at this
    exact absurd this (by decide)
theorem putAt_sorted {l : List S35} {t : S35} {i : Nat} (hs : Sorted l) (ha : At l t i) : Sorted (putAt l t i) := by
  have hsk := skip_le l t i ha.1
  intro q p hqp hp
  rw [putAt_len l t i ha.1] at hp
  rw [putAt_get l t i q ha.1, putAt_get l t i p ha.1]
  by_cases q1 : q < i
  · rw [if_pos q1]
    by_cases p1 : p < i
    · rw [if_pos p1]; exact hs q p hqp (by omega)
    · rw [if_neg p1]
      by_cases p2 : p = i
      · rw [if_pos p2]; exact ha.2.1 q q1
      · rw [if_neg p2]
        exact hs q _ (by omega) (by omega)
  · rw [if_neg q1, if_neg (show ¬ p < i by omega), if_neg (show ¬ p = i by omega)]
    by_cases q2 : q = i
    · rw [if_pos q2]; exact behind hs ha _ (by omega) (by omega)
    · rw [if_neg q2]; exact hs _ _ (by omega) (by omega)
theorem with_ev (l : List S35) (t : S35) (hl : l.length ≤ 1048576) (hs : Sorted l) : ∃ i, At l t i ∧ Ev (fun k => impl_withBlock.f k l t.f0 t.f1 t.f2) (putAt l t i) := by
  obtain ⟨i, ha, h1⟩ := search_ev l t hl hs
  refine ⟨i, ha, ?_⟩
  have hi := ha.1
  unfold impl_withBlock.f
  refine Ev.bind h1 ?_
  simp only [if_pos (show 0 ≤ (i : Int) ∧ (i : Int) ≤ (l.length : Int) ∧ l.length < 2932031007400 by omega), Int.toNat_natCast]
  cases hh : hit l t i with
  | true =>
    have hlt : i < l.length := by
      simp only [hit, Bool.and_eq_true, decide_eq_true_eq] at hh
      exact hh.1
    simp only [if_true, if_pos (show (i : Int) < (l.length : Int) by omega)]
    refine Ev.some ?_
    unfold putAt skip
    rw [if_pos hh, List.set_eq_take_append_cons_drop, if_pos hlt]
    simp
  | false =>
    simp only [Bool.false_eq_true, if_false]
    refine Ev.some ?_
    unfold putAt skip
    rw [hh]
    simp
theorem put_ev (l : List S35) (t : S35) (hl : l.length ≤ 1048576) (hs : Sorted l) (i : Nat) (ha : At l t i) : Ev (fun k => spec_l29Put.f k l t.f0 t.f1 t.f2) (putAt l t i) := by
  have hi := ha.1
  have hsk := skip_le l t i hi
  have hsk1 : skip l t i ≤ 1 := by unfold skip; split <;> omega
  unfold spec_l29Put.f
  apply EvP.eq
  refine for_evp (L := fun k (s : List S35 × Bool) q => spec_l29Put.l0 k l s.1 s.2 q t.f0 t.f1 t.f2) l.length
    (fun q s => if q ≤ i then s = (l.take q, false) else s = (l.take i ++ [t] ++ (l.drop (i + skip l t i)).take (q - i - skip l t i), true)) ?_ ?_ ([], false) (by simp)
  · intro q s hq hinv K
    have hbt : before_eq (l.getD q z35) t = before_eq (l.getD q z35) t := rfl
    refine EvP.step (fun k => spec_l29Put.l0.eq_2 _ _ _ _ _ _ _ k) ?_
    have w1 := w64 (show -9223372036854775808 ≤ (q : Int) + 1 by omega) (by omega)
    by_cases h1 : q < i
    · rw [if_pos (by omega)] at hinv
      subst hinv
      have hn := not_same hs ha q (.inl h1) hq
      have hle : (l.take q).length < 2932031007402 := by rw [List.length_take]; omega
      have e : l.getD q z35 = l[q] := by rw [List.getD_eq_getElem?_getD, List.getElem?_eq_getElem hq]; rfl
      have K1 := K (l.take (q + 1), false) (by rw [if_pos (by omega)])
      simp only [if_pos (show (q : Int) < (l.length : Int) by omega), Bool.false_eq_true, if_false, if_pos (show (0 : Int) ≤ (q : Int) by omega), rd_nat, before_eq, ha.2.1 q h1, Option.bind_some, Bool.not_true]
      refine EvP.step (fun k => spec_l29Put.j1.eq_2 _ _ _ _ _ _ _ _ k) ?_
      simp only [Bool.false_eq_true, if_false, if_pos (show (q : Int) < (l.length : Int) by omega), if_pos (show (0 : Int) ≤ (q : Int) by omega), rd_nat, toList_eq, w1, if_pos hle]
      rw [List.take_succ_eq_append_getElem hq, ← e] at K1
      by_cases h0 : (l.getD q z35).f0.data.toList = t.f0.data.toList
      · simp only [if_pos h0, if_neg (show ¬ (l.getD q z35).f1.data.toList = t.f1.data.toList from fun h => hn ⟨h0, h⟩)]
        exact K1
      · simp only [if_neg h0]
        exact K1
    · by_cases h2 : q = i
      · subst h2
        rw [if_pos (by omega)] at hinv
        subst hinv
        have K1 := K (l.take q ++ [t] ++ (l.drop (q + skip l t q)).take (q + 1 - q - skip l t q), true) (by rw [if_neg (by omega)])
        have hle : (l.take q).length < 2932031007402 := by rw [List.length_take]; omega
        have hle2 : (l.take q ++ [t]).length < 2932031007402 := by rw [List.length_append, List.length_take]; simp only [List.length_cons, List.length_nil]; omega
        simp only [if_pos (show (q : Int) < (l.length : Int) by omega), Bool.false_eq_true, if_false, if_pos (show (0 : Int) ≤ (q : Int) by omega), rd_nat, before_eq, ha.2.2 q (Nat.le_refl _) hq, Option.bind_some, Bool.not_false]
        refine EvP.step (fun k => spec_l29Put.j1.eq_2 _ _ _ _ _ _ _ _ k) ?_
        simp only [if_true, if_pos hle, Option.bind_some, if_pos (show (q : Int) < (l.length : Int) by omega), if_pos (show (0 : Int) ≤ (q : Int) by omega), rd_nat, toList_eq, w1, if_pos hle2]
        cases hh : hit l t q with
        | true =>
          have e : skip l t q = 1 := by unfold skip; rw [if_pos hh]
          simp only [hit, Bool.and_eq_true, decide_eq_true_eq, beq_iff_eq] at hh
          have hz := (cmpB_zero (l.getD q z35) t).1 hh.2
          simp only [if_pos hz.1, if_pos hz.2]
          rw [e, show q + 1 - q - 1 = 0 by omega, List.take_zero, List.append_nil] at K1
          exact K1
        | false =>
          have e : skip l t q = 0 := by unfold skip; rw [hh]; rfl
          have hn : ¬ Same (l.getD q z35) t := not_same hs ha q (.inr (by omega)) hq
          have e2 : (l.drop (q + 0)).take 1 = [l.getD q z35] := by
            rw [Nat.add_zero, List.drop_eq_getElem_cons hq, List.getD_eq_getElem?_getD, List.getElem?_eq_getElem hq]; rfl
          rw [e, show q + 1 - q - 0 = 1 by omega, e2] at K1
          by_cases h0 : (l.getD q z35).f0.data.toList = t.f0.data.toList
          · simp only [if_pos h0, if_neg (show ¬ (l.getD q z35).f1.data.toList = t.f1.data.toList from fun h => hn ⟨h0, h⟩)]
            exact K1
          · simp only [if_neg h0]
            exact K1
      · rw [if_neg (by omega)] at hinv
        subst hinv
        have hn := not_same hs ha q (.inr (by omega)) hq
        have hdl : q - i - skip l t i < (l.drop (i + skip l t i)).length := by rw [List.length_drop]; omega
        have hle : (l.take i ++ [t] ++ (l.drop (i + skip l t i)).take (q - i - skip l t i)).length < 2932031007402 := by
          rw [List.length_append, List.length_append, List.length_take, List.length_take, List.length_drop]; simp only [List.length_cons, List.length_nil]; omega
        have K1 := K (l.take i ++ [t] ++ (l.drop (i + skip l t i)).take (q + 1 - i - skip l t i), true) (by rw [if_neg (by omega)])
        have e : (l.drop (i + skip l t i))[q - i - skip l t i] = l.getD q z35 := by
          rw [List.getElem_drop, List.getD_eq_getElem?_getD, List.getElem?_eq_getElem hq]
          show _ = l[q]
          congr 1
          omega
        rw [show q + 1 - i - skip l t i = q - i - skip l t i + 1 by omega, List.take_succ_eq_append_getElem hdl, e, ← List.append_assoc] at K1
        simp only [if_pos (show (q : Int) < (l.length : Int) by omega), if_true]
        refine EvP.step (fun k => spec_l29Put.j1.eq_2 _ _ _ _ _ _ _ _ k) ?_
        simp only [Bool.false_eq_true, if_false, if_pos (show (q : Int) < (l.length : Int) by omega), if_pos (show (0 : Int) ≤ (q : Int) by omega), rd_nat, toList_eq, w1, if_pos hle]
        by_cases h0 : (l.getD q z35).f0.data.toList = t.f0.data.toList
        · simp only [if_pos h0, if_neg (show ¬ (l.getD q z35).f1.data.toList = t.f1.data.toList from fun h => hn ⟨h0, h⟩)]
          exact K1
        · simp only [if_neg h0]
          exact K1
  · intro s hinv
    refine EvP.step (fun k => spec_l29Put.l0.eq_2 _ _ _ _ _ _ _ k) ?_
    simp only [if_neg (show ¬ (l.length : Int) < (l.length : Int) by omega)]
    by_cases h : l.length ≤ i
    · obtain rfl : i = l.length := by omega
      rw [if_pos (Nat.le_refl _)] at hinv
      subst hinv
      have e : skip l t l.length = 0 := by omega
      simp only [Bool.false_eq_true, if_false, List.take_length, if_pos (show l.length < 2932031007402 by omega)]
      refine EvP.now ?_
      unfold putAt
      rw [e, Nat.add_zero, List.take_length, List.drop_length, List.append_nil]
    · rw [if_neg h] at hinv
      subst hinv
      simp only [if_true]
      refine EvP.now ?_
      have e : (l.drop (i + skip l t i)).take (l.length - i - skip l t i) = l.drop (i + skip l t i) := List.take_of_length_le (by rw [List.length_drop]; omega)
      rw [e]
      rfl
end Go.Proofs.YtkllogmpaaeokaaDoor.PPut
end

section
namespace Go.Proofs.YtkllogmpaaeokaaDoor.SS
open Go.RowKit Go.Proofs.YtkllogmpaaeokaaDoorW.PrintWords Go.Proofs.YtkllogmpaaeokaaDoor.XS Go.Proofs.YtkllogmpaaeokaaDoor.EvK
set_option linter.unusedVariables false
set_option linter.unusedSimpArgs false
theorem eqBlockS_ev (l : List (S35)) (hl : l.length ≤ 1048576) : Ev (fun k => laws_eqBlockS.f k l l) true := by
  apply EvP.eq
  unfold laws_eqBlockS.f
  simp only [if_true]
  refine for_evp (L := fun k (s : Unit) i => laws_eqBlockS.l0 k l l i) l.length (fun i s => True) ?_ ?_ () trivial
  · rintro i s hi - K
    refine EvP.step (fun k => laws_eqBlockS.l0.eq_2 _ _ _ k) ?_
    simp only [if_pos (show (i : Int) < (l.length : Int) by omega), if_pos (show (0 : Int) ≤ (i : Int) by omega), laws_eqBlock.f, Option.bind_some, if_true, w64 (show -9223372036854775808 ≤ (i : Int) + 1 by omega) (by omega)]
    exact K () trivial
  · rintro s -
    refine EvP.step (fun k => laws_eqBlockS.l0.eq_2 _ _ _ k) ?_
    simp only [if_neg (show ¬ (l.length : Int) < (l.length : Int) by omega)]
    exact EvP.now rfl
end Go.Proofs.YtkllogmpaaeokaaDoor.SS
end

section
namespace Go.Proofs.YtkllogmpaaeokaaDoor.SS
open Go.RowKit Go.Proofs.YtkllogmpaaeokaaDoorW.PrintWords Go.Proofs.YtkllogmpaaeokaaDoor.XS Go.Proofs.YtkllogmpaaeokaaDoor.EvK
set_option linter.unusedVariables false
set_option linter.unusedSimpArgs false
theorem markText_ev (c : Int) (h0 : 0 ≤ c) (h1 : c ≤ 4611686018427387904) : ∃ s : ByteArray, Ev (fun k => laws_markText.f k c) s := by
  unfold laws_markText.f
  by_cases hc : c ≤ 0
  · simp only [if_pos hc]
    exact ⟨_, Ev.now _⟩
  simp only [if_neg hc]
  have key : ∀ (d : Nat) (x : Int) (y : ByteArray), 0 ≤ x → x ≤ d → y.size + d ≤ 9223372036854775000 → ∃ s : ByteArray, Ev (fun k => laws_markText.l0 k x y) s := by
    intro d
    induction d using Nat.strongRecOn with
    | _ d ih =>
    intro x y hx hd hy
    by_cases hp : x > 0
    · have hz : (strOfNums [(wrap64 (48 + Int.tmod x 10)) % 256]).size = 1 := rfl
      have hd' : Int.tdiv x 10 = x / 10 := Int.tdiv_eq_ediv_of_nonneg hx
      have hw : wrap64 (Int.tdiv x 10) = x / 10 := by rw [hd', w64 (by omega) (by omega)]
      obtain ⟨s, hs⟩ := ih (d - 1) (by omega) (x / 10) (strOfNums [(wrap64 (48 + Int.tmod x 10)) % 256] ++ y) (by omega) (by omega) (by rw [ByteArray.size_append, hz]; omega)
      refine ⟨s, Ev.step (fun k => laws_markText.l0.eq_2 _ _ k) ?_⟩
      simp only [if_pos hp, Option.bind_some, hz, if_pos (show 1 + y.size ≤ 9223372036854775807 by omega), hw]
      exact hs
    · refine ⟨(⟨#[109]⟩ : ByteArray) ++ y, Ev.step (fun k => laws_markText.l0.eq_2 _ _ k) ?_⟩
      simp only [if_neg hp, if_pos (show 1 + y.size ≤ 9223372036854775807 by omega)]
      exact Ev.now _
  exact key c.toNat c ⟨#[]⟩ h0 (by omega) (by show 0 + _ ≤ _; omega)
end Go.Proofs.YtkllogmpaaeokaaDoor.SS
end

section
namespace Go.Proofs.YtkllogmpaaeokaaDoor.SS
open Go.RowKit Go.Proofs.YtkllogmpaaeokaaDoorW.PrintWords Go.Proofs.YtkllogmpaaeokaaDoor.XS Go.Proofs.YtkllogmpaaeokaaDoor.EvK
set_option linter.unusedVariables false
set_option linter.unusedSimpArgs false
theorem markBlockS_ev (l : List (S35)) (c : Int) (h0 : 0 ≤ c) (h1 : c + 3 * (l.length : Int) ≤ 4611686018427387904) :
    ∃ y : List (S35), Ev (fun k => laws_markBlockS.f k l c) (c + 3 * (l.length : Int), y) ∧ Ev (fun k => laws_heldBlockS.f k y c) (c + 3 * (l.length : Int)) ∧ y.length = l.length := by
  obtain ⟨T, hT⟩ : ∃ T : Int → ByteArray, ∀ x : Int, 0 ≤ x → x ≤ 4611686018427387904 → Ev (fun k => laws_markText.f k x) (T x) := ⟨fun x => if h : 0 ≤ x ∧ x ≤ 4611686018427387904 then Classical.choose (markText_ev x h.1 h.2) else ByteArray.empty, fun x h h' => by simp only [h, h', and_self, dif_pos]; exact Classical.choose_spec (markText_ev x h h')⟩
  let E : Nat → S35 := fun j => ⟨T (c + 3 * (j : Int)), T (c + 3 * (j : Int) + 1), T (c + 3 * (j : Int) + 1 + 1)⟩
  have hset : ∀ (i : Nat) (h : i < l.length), ((List.range i).map E ++ l.drop i).set i (E i) = (List.range (i + 1)).map E ++ l.drop (i + 1) := fun i h => set_done E l i h
  have hlen : ∀ (i : Nat), i ≤ l.length → ((List.range i).map E ++ l.drop i).length = l.length := by intro i h; simp; omega
  refine ⟨(List.range l.length).map E, EvP.eq ?_, EvP.eq ?_, by simp⟩
  · unfold laws_markBlockS.f
    refine for_evp (L := fun k (s : List (S35) × Int) i => laws_markBlockS.l0 k s.1 s.2 i) l.length (fun i s => s = ((List.range i).map E ++ l.drop i, c + 3 * (i : Int))) ?_ ?_ (l, c) (by simp)
    · rintro i s hi rfl K
      refine EvP.step (fun k => laws_markBlockS.l0.eq_2 _ _ _ k) ?_
      simp only [hlen i (by omega), if_pos (show (i : Int) < (l.length : Int) by omega), if_pos (show (0 : Int) ≤ (i : Int) by omega), Option.bind_some, w64 (show -9223372036854775808 ≤ (i : Int) + 1 by omega) (by omega), w64 (show -9223372036854775808 ≤ c + 3 * (i : Int) + 1 by omega) (by omega), w64 (show -9223372036854775808 ≤ c + 3 * (i : Int) + 1 + 1 by omega) (by omega), w64 (show -9223372036854775808 ≤ c + 3 * (i : Int) + 1 + 1 + 1 by omega) (by omega), Int.toNat_natCast]
      refine EvP.bind (hT (c + 3 * (i : Int)) (by omega) (by omega)) ?_
      refine EvP.bind (hT (c + 3 * (i : Int) + 1) (by omega) (by omega)) ?_
      refine EvP.bind (hT (c + 3 * (i : Int) + 1 + 1) (by omega) (by omega)) ?_
      refine K (_, _) ?_
      rw [← hset i hi, Prod.mk.injEq]
      refine ⟨?_, by push_cast; omega⟩
      have g1 := hlen i (by omega)
      generalize (List.range i).map E ++ l.drop i = L at g1
      have g2 : i < L.length := by omega
      first | rfl | (simp [rd_T35, E, getD_set_self, g2])
    · rintro s rfl
      refine EvP.step (fun k => laws_markBlockS.l0.eq_2 _ _ _ k) ?_
      simp only [hlen l.length (Nat.le_refl _), if_neg (show ¬ (l.length : Int) < (l.length : Int) by omega)]
      exact EvP.now (by simp)
  · unfold laws_heldBlockS.f
    have hl2 : ((List.range l.length).map E).length = l.length := by simp
    refine for_evp (L := fun k (s : Int) i => laws_heldBlockS.l0 k ((List.range l.length).map E) s i) l.length (fun i s => s = c + 3 * (i : Int)) ?_ ?_ c (by simp)
    · rintro i s hi rfl K
      have e : rd_T35 ((List.range l.length).map E) (i : Int) = E i := by
        rw [show rd_T35 ((List.range l.length).map E) (i : Int) = ((List.range l.length).map E)[i]'(by simpa using hi) from getD_at _ z35 i (by simpa using hi)]; simp
      refine EvP.step (fun k => laws_heldBlockS.l0.eq_2 _ _ _ k) ?_
      simp only [hl2, if_pos (show (i : Int) < (l.length : Int) by omega), if_pos (show (0 : Int) ≤ (i : Int) by omega), e, E, if_true, w64 (show -9223372036854775808 ≤ (i : Int) + 1 by omega) (by omega), w64 (show -9223372036854775808 ≤ c + 3 * (i : Int) + 1 by omega) (by omega), w64 (show -9223372036854775808 ≤ c + 3 * (i : Int) + 1 + 1 by omega) (by omega), w64 (show -9223372036854775808 ≤ c + 3 * (i : Int) + 1 + 1 + 1 by omega) (by omega)]
      refine EvP.bind (hT (c + 3 * (i : Int)) (by omega) (by omega)) ?_
      simp only [if_true]
      refine EvP.bind (hT (c + 3 * (i : Int) + 1) (by omega) (by omega)) ?_
      simp only [if_true]
      refine EvP.bind (hT (c + 3 * (i : Int) + 1 + 1) (by omega) (by omega)) ?_
      simp only [if_true]
      exact K _ (by push_cast; omega)
    · rintro s rfl
      refine EvP.step (fun k => laws_heldBlockS.l0.eq_2 _ _ _ k) ?_
      simp only [hl2, if_neg (show ¬ (l.length : Int) < (l.length : Int) by omega)]
      exact EvP.now rfl
end Go.Proofs.YtkllogmpaaeokaaDoor.SS
end

section
namespace Go.Proofs.YtkllogmpaaeokaaDoor.PureFnExactSalvageBlocks
open Go.RowKit Go.Proofs.YtkllogmpaaeokaaDoorW.PrintWords Go.Proofs.YtkllogmpaaeokaaDoor.XS Go.Proofs.YtkllogmpaaeokaaDoor.EvK Go.Proofs.YtkllogmpaaeokaaDoor.PBlocks Go.Proofs.YtkllogmpaaeokaaDoor.PBlockL Go.Proofs.YtkllogmpaaeokaaDoor.PSearch Go.Proofs.YtkllogmpaaeokaaDoor.PPut Go.Proofs.YtkllogmpaaeokaaDoor.PParse Go.Proofs.YtkllogmpaaeokaaDoor.PLinesS Go.Proofs.YtkllogmpaaeokaaDoor.SS
set_option linter.unusedVariables false
set_option linter.unusedSimpArgs false
theorem rd_size (x : List ByteArray) (hx : ∀ y ∈ x, y.size ≤ 1048576) (i : Nat) (h : i < x.length) : (rdOf ByteArray.empty x (i : Int)).size ≤ 1048576 := by
  rw [rdOf_at x _ i h]
  exact hx _ (List.getElem_mem h)
def Fine (l : List S35) : Prop := Small l ∧ Sorted l ∧ l.length ≤ 32 ∧ ∀ x ∈ l, blockOk x.f0 x.f1 x.f2 = true
theorem fine_ok {l : List S35} (h : Fine l) : listOk l = true := by
  obtain ⟨h1, h2, h3, h4⟩ := h
  unfold listOk
  rw [Bool.and_eq_true, List.all_eq_true]
  refine ⟨fun i hi => ?_, decide_eq_true (by omega)⟩
  rw [List.mem_range] at hi
  unfold okAt
  simp only [Bool.and_eq_true, Bool.or_eq_true, decide_eq_true_eq]
  refine ⟨h4 _ (getD_mem hi), ?_⟩
  by_cases h0 : i = 0
  · exact Or.inl h0
  · exact Or.inr (h2 (i - 1) i (by omega) hi)
theorem put_step (l : List S35) (t : S35) (hf : Fine l) (h0 : t.f0.size ≤ 1048576) (h1 : t.f1.size ≤ 1048576) (h2 : t.f2.size ≤ 1048576) (hb : blockOk t.f0 t.f1 t.f2 = true) :
    ∃ r, Ev (fun k => spec_l29Put.f k l t.f0 t.f1 t.f2) r ∧ Ev (fun k => impl_PutBlock.f k l t.f0 t.f1 t.f2) (if (r.length : Int) > 32 then ([], 5) else (r, 0)) ∧ (r.length ≤ 32 → Fine r) := by
  have hok := fine_ok hf
  obtain ⟨hs, hso, hl, ha⟩ := hf
  obtain ⟨i, hat, w1⟩ := with_ev l t hs.1 hso
  have w2 := put_ev l t hs.1 hso i hat
  have hmem : ∀ x ∈ putAt l t i, x ∈ l ∨ x = t := by
    intro x hx
    unfold putAt at hx
    rw [List.mem_append, List.mem_append] at hx
    rcases hx with (hx | hx) | hx
    · exact Or.inl (List.mem_of_mem_take hx)
    · exact Or.inr (List.mem_singleton.1 hx)
    · exact Or.inl (List.mem_of_mem_drop hx)
  refine ⟨putAt l t i, w2, ?_, fun hr => ⟨⟨by omega, fun x hx => ?_⟩, putAt_sorted hso hat, hr, fun x hx => ?_⟩⟩
  · unfold impl_PutBlock.f
    refine Ev.bind (implOk_ev l hs) ?_
    simp only [hok, if_true]
    refine Ev.bind (validBlock_ev _ _ _ h0 h1 h2) ?_
    rw [hb]
    refine Ev.step (fun k => impl_PutBlock.j0.eq_2 _ _ _ _ _ k) ?_
    simp only [Bool.not_true, Bool.false_eq_true, if_false]
    refine Ev.bind w1 ?_
    split <;> exact Ev.now _
  · rcases hmem x hx with h | rfl
    · exact hs.2 x h
    · exact ⟨h0, h1, h2⟩
  · rcases hmem x hx with h | rfl
    · exact ha x h
    · exact hb
theorem loop_ev (x : List ByteArray) (hl : x.length ≤ 1048577) (hx : ∀ y ∈ x, y.size ≤ 1048576) :
    ∀ (d q : Nat) (a : List S35), q + d = x.length → 1 ≤ q → Fine a → ∃ r, Fine r ∧ Ev (fun k => spec_SalvageBlocks.l0 k x a (q : Int)) r ∧ Ev (fun k => impl_SalvageBlocks.l0 k a x (x.length : Int) (q : Int)) r := by
  intro d
  induction d with
  | zero =>
    intro q a hq h1 ha
    refine ⟨a, ha, Ev.step (fun k => spec_SalvageBlocks.l0.eq_2 _ _ _ k) ?_, Ev.step (fun k => impl_SalvageBlocks.l0.eq_2 _ _ _ _ k) ?_⟩
    · simp only [if_neg (show ¬ (q : Int) < (x.length : Int) by omega)]; exact Ev.now _
    · simp only [if_neg (show ¬ (q : Int) < (x.length : Int) by omega)]; exact Ev.now _
  | succ d ih =>
    intro q a hq h1 ha
    obtain ⟨p, hp0, hp1, hp2⟩ := parse_ev _ (rd_size x hx q (by omega))
    have wq := w64 (show -9223372036854775808 ≤ (q : Int) + 1 by omega) (by omega)
    have hc1 : ((q : Int) + 1) = ((q + 1 : Nat) : Int) := by omega
    by_cases hc : p.2.2.2 = 0
    · obtain ⟨z0, z1, z2, zb, _, _⟩ := hp0
      obtain ⟨r, e1, e2, hr⟩ := put_step a ⟨p.1, p.2.1, p.2.2.1⟩ ha z0 z1 z2 (zb hc)
      have hf : Fine (if (r.length : Int) ≤ 32 then r else a) := by
        split
        · exact hr (by omega)
        · exact ha
      obtain ⟨v, hv, g1, g2⟩ := ih (q + 1) _ (by omega) (by omega) hf
      rw [← hc1] at g1 g2
      refine ⟨v, hv, Ev.step (fun k => spec_SalvageBlocks.l0.eq_2 _ _ _ k) ?_, Ev.step (fun k => impl_SalvageBlocks.l0.eq_2 _ _ _ _ k) ?_⟩
      · simp only [if_pos (show (q : Int) < (x.length : Int) by omega), if_pos (show (0 : Int) ≤ (q : Int) by omega), wq]
        refine Ev.bind hp1 ?_
        simp only [if_pos hc]
        refine Ev.bind e1 ?_
        by_cases h32 : (r.length : Int) ≤ 32
        · simp only [if_pos h32] at g1 ⊢; exact g1
        · simp only [if_neg h32] at g1 ⊢; exact g1
      · simp only [if_pos (show (q : Int) < (x.length : Int) by omega), if_pos (show (0 : Int) ≤ (q : Int) by omega)]
        refine Ev.bind hp2 ?_
        simp only [if_neg (show ¬ (q : Int) = 0 by omega), hc, bne_self_eq_false]
        refine Ev.step (fun k => impl_SalvageBlocks.j1.eq_2 _ _ _ _ _ _ _ _ k) ?_
        simp only [Bool.false_eq_true, if_false, wq]
        refine Ev.bind e2 ?_
        by_cases h32 : (r.length : Int) ≤ 32
        · simp only [if_pos h32] at g2; simp only [if_neg (show ¬ (r.length : Int) > 32 by omega), if_true]; exact g2
        · simp only [if_neg h32] at g2; simp only [if_pos (show (r.length : Int) > 32 by omega), if_neg (show ¬ (5 : Int) = 0 by omega)]; exact g2
    · obtain ⟨v, hv, g1, g2⟩ := ih (q + 1) a (by omega) (by omega) ha
      rw [← hc1] at g1 g2
      refine ⟨v, hv, Ev.step (fun k => spec_SalvageBlocks.l0.eq_2 _ _ _ k) ?_, Ev.step (fun k => impl_SalvageBlocks.l0.eq_2 _ _ _ _ k) ?_⟩
      · simp only [if_pos (show (q : Int) < (x.length : Int) by omega), if_pos (show (0 : Int) ≤ (q : Int) by omega), wq]
        refine Ev.bind hp1 ?_
        simp only [if_neg hc]
        exact g1
      · simp only [if_pos (show (q : Int) < (x.length : Int) by omega), if_pos (show (0 : Int) ≤ (q : Int) by omega)]
        refine Ev.bind hp2 ?_
        simp only [if_neg (show ¬ (q : Int) = 0 by omega), show (p.2.2.2 != 0) = true from bne_iff_ne.2 hc]
        refine Ev.step (fun k => impl_SalvageBlocks.j1.eq_2 _ _ _ _ _ _ _ _ k) ?_
        simp only [if_true, wq]
        exact g2
theorem fine_nil : Fine [] := ⟨⟨by simp, fun x hx => by cases hx⟩, fun q p _ h => by simp at h, by simp, fun x hx => by cases hx⟩
theorem both_ev (s : ByteArray) (hs : s.size ≤ 1048576) : ∃ r : List S35, Fine r ∧ Ev (fun k => spec_SalvageBlocks.f k s) r ∧ Ev (fun k => impl_SalvageBlocks.f k s) r := by
  obtain ⟨x, h0, h1, h2, h3, h4, h5⟩ := lines_ev s hs
  have hw : wrap64 ((x.length : Int) - 1) = ((x.length - 1 : Nat) : Int) := by rw [w64 (by omega) (by omega)]; omega
  obtain ⟨y, hy⟩ : ∃ y, y = x.take (x.length - 1) := ⟨_, rfl⟩
  have hyl : y.length = x.length - 1 := by rw [hy, List.length_take]; omega
  have hym : ∀ z ∈ y, z.size ≤ 1048576 := fun z hz => h2 z (List.mem_of_mem_take (by rw [← hy]; exact hz))
  rw [← hy] at h5
  have toImpl : ∀ r, Ev (fun k => impl_SalvageBlocks.l0 k [] y (y.length : Int) 0) r → Ev (fun k => impl_SalvageBlocks.f k s) r := by
    intro r K
    unfold impl_SalvageBlocks.f
    rw [h4]
    simp only [Option.bind_some, hw, if_pos (show (0 : Int) ≤ ((x.length - 1 : Nat) : Int) by omega), if_pos (show ((x.length - 1 : Nat) : Int) ≤ (x.length : Int) by omega), Int.toNat_natCast, ← hy]
    exact K
  by_cases hz : y.length = 0
  · refine ⟨[], fine_nil, ?_, toImpl _ ?_⟩
    · unfold spec_SalvageBlocks.f
      refine Ev.bind h5 (Ev.step (fun k => spec_SalvageBlocks.l0.eq_2 _ _ _ k) ?_)
      simp only [if_neg (show ¬ (1 : Int) < (y.length : Int) by omega)]
      exact Ev.now _
    · refine Ev.step (fun k => impl_SalvageBlocks.l0.eq_2 _ _ _ _ k) ?_
      simp only [if_neg (show ¬ (0 : Int) < (y.length : Int) by omega)]
      exact Ev.now _
  · obtain ⟨r, hr, g1, g2⟩ := loop_ev y (by omega) hym (y.length - 1) 1 [] (by omega) (by omega) fine_nil
    obtain ⟨p, _, _, hp⟩ := parse_ev _ (rd_size y hym 0 (by omega))
    refine ⟨r, hr, ?_, toImpl _ ?_⟩
    · unfold spec_SalvageBlocks.f
      exact Ev.bind h5 g1
    · refine Ev.step (fun k => impl_SalvageBlocks.l0.eq_2 _ _ _ _ k) ?_
      simp only [if_pos (show (0 : Int) < (y.length : Int) by omega), if_pos (show (0 : Int) ≤ (0 : Int) by omega), if_true]
      refine Ev.bind (show Ev (fun k => impl_blockOf.f k (rdOf ByteArray.empty y 0)) p from hp) ?_
      refine Ev.step (fun k => impl_SalvageBlocks.j1.eq_2 _ _ _ _ _ _ _ _ k) ?_
      have w1 : wrap64 ((0 : Int) + 1) = 1 := by rw [w64 (by omega) (by omega)]; omega
      simp only [if_true, w1]
      exact g2
theorem pure : laws_FnExactSalvageBlocks.Pure := by
  intro s hq
  apply EvP.rounds
  unfold laws_FnExactSalvageBlocks.f
  by_cases hw1 : (s.size : Int) > 1048576
  · simp only [if_pos hw1]
    exact EvP.now rfl
  simp only [if_neg hw1]
  obtain ⟨r, hr, e1, e2⟩ := both_ev s (by omega)
  have hrl := hr.2.2.1
  have hei := eqBlockS_ev r (by omega)
  obtain ⟨y, hy1, hy2, hy3⟩ := markBlockS_ev r 1 (by omega) (by omega)
  refine EvP.bind e1 (EvP.bind e2 (EvP.bind hei ?_))
  simp only [if_true]
  refine EvP.bind hy1 (EvP.bind hy2 ?_)
  simp only [if_neg (show ¬ (1 + 3 * (r.length : Int) < 0) by omega), if_true]
  refine EvP.bind e2 (EvP.bind hei ?_)
  simp only [if_true]
  refine EvP.bind hy2 ?_
  simp only [if_neg (show ¬ (1 + 3 * (r.length : Int) < 0) by omega), if_true]
  exact EvP.now rfl
end Go.Proofs.YtkllogmpaaeokaaDoor.PureFnExactSalvageBlocks
end

section
namespace Go.Proofs.YtkllogmpaaeokaaDoor.LaidKit
open Go Go.RowKit
theorem returns_laid_shaped {H : Type} {enc : TypeId × Value → H} {a : Assume} {C : Checked} {os : Os} {f : FuncId} {fn : Func} {s : ChangeSpec} {conds : List PathCond} {apart fresh handsOn again : Bool} {X : World → Array Value → Prop}
    (hX : ∀ (w w' : World) (args : Array Value), w.heap = w'.heap → X w args → X w' args)
    (own : ownKnob C.prog.godebug = none) (started : os.Started) (noInit : C.prog.inits.idxOf? f = none) (hfn : C.prog.funcs[f]? = some fn)
    (witness : ∃ (w : World) (tape : Tape) (i : Input), w.os = os ∧ (w.forCall tape i).Shaped C.prog ∧ i.vars = [] ∧ Input.okWide C.prog (w.forCall tape i) .any w.heap.size f i ∧
      ((s.pre enc C.prog fn conds apart (w.forCall tape i).memory i.args ∧ X (w.forCall tape i).memory i.args) ∧ sizedMet enc C.prog fn (OpenSpec.ofChange s) apart (w.forCall tape i).memory i.args) ∧ a.holds C.prog (lone (Frame.enter C.prog f i.args .normal) [] (w.forCall tape i)))
    (contract : ∀ (W : World) (base : Nat) (args : Array Value) (ds gs : List (DataW H)) (before : List MemPlace),
      (∀ (j : Nat) t v, fn.params[j]? = some t → args[j]? = some v → Value.okWide C.prog W .any base t v) →
      DataW.Whole enc C.prog fn.params.toList s.vars apart W args.toList ds gs before →
      conds.all (PathCond.test C.prog ⟨fn.params.toList, ds, s.plain.varTypes C.prog, gs⟩) = true →
      (DataW.weightsEach C.prog (fn.params.toList ++ s.plain.varTypes C.prog) (ds ++ gs)).all (· ≤ reachBytes) = true → X W args →
      W.ShapedOpen C.prog →
      a.holds C.prog (lone (Frame.enter C.prog f args .normal) [] W) →
      Calls C.prog f args W fun e W' => ∃ v, e = .returned v ∧ s.post enc C.prog fn apart fresh handsOn again W args v W') :
    ReturnsInHanded a C os f .any (fun w args => (s.pre enc C.prog fn conds apart w args ∧ X w args) ∧ sizedMet enc C.prog fn (OpenSpec.ofChange s) apart w args) (s.post enc C.prog fn apart fresh handsOn again) := by
  refine returnsInHanded_of_calls own started noInit witness ?_
  intro w tape i _ hsh _ hok hpre hholds
  obtain ⟨_, _, _, fn', hfn', _, _, _, _, hval⟩ := hok
  have e : fn' = fn := Option.some.inj (hfn'.symm.trans hfn)
  subst e
  obtain ⟨⟨⟨ds, gs, before, hw, hc⟩, hx⟩, hz⟩ := hpre
  have hw' := DataW.Whole.of_heap (w' := w.forCall tape i) (by rfl) hw
  refine (contract (w.forCall tape i) w.heap.size i.args ds gs before hval hw' hc (hz.weights hw) (hX _ _ _ (by rfl) hx) hsh hholds).mono fun e W' ⟨v, he, hp⟩ => ?_
  subst he
  exact ChangeSpec.post_blind hp
theorem laidMet_from {P : Program} {l : List (String × DataW Unit)} {x : String × DataW Unit} {r : List (String × DataW Unit)} {w : World} (h : laidMet P (l ++ x :: r) w) : laidMet P (x :: r) w := by
  induction l with
  | nil => exact h
  | cons a l ih => exact ih h.tail
end Go.Proofs.YtkllogmpaaeokaaDoor.LaidKit
end

section
namespace Go.Proofs.YtkllogmpaaeokaaDoor.RowFnExactSalvageBlocks
open Go.ChangeShapes Go.WideShapes Go.ChangeAt Go.RowKit Go.Proofs.YtkllogmpaaeokaaDoorW.PrintWords Go.Proofs.YtkllogmpaaeokaaDoor.XS Go.Proofs.YtkllogmpaaeokaaDoor.Open
open Go.ChangeMaps (open_string shut_string)
set_option linter.unusedVariables false
theorem own : ownKnob Tryd.prog.godebug = none := by kernel_rfl
theorem laidOut : laidOutB Tryd.prog = true := by kernel_rfl
set_option maxRecDepth 100000 in
theorem lifted (os : Os) (started : os.Started) (H : Type) (enc : TypeId × Value → H) :
    ReturnsInHanded {} Tryd.checked os 3 .any (fun w args => (Rows.fnExactSalvageBlocksSpec.pre enc Tryd.prog Tryd.f3 Rows.fnExactSalvageBlocksRow.domain false w args ∧ laidMetH Tryd.prog Rows.fnExactSalvageBlocksRow.laid w) ∧ sizedMet enc Tryd.prog Tryd.f3 (OpenSpec.ofChange Rows.fnExactSalvageBlocksSpec) false w args) (Rows.fnExactSalvageBlocksSpec.post enc Tryd.prog Tryd.f3 false true false false) := by
  refine LaidKit.returns_laid_shaped (C := Tryd.checked) (X := fun w _ => laidMetH Tryd.prog Rows.fnExactSalvageBlocksRow.laid w) (fun _ _ _ hh h => h.of_heap hh) own started (by kernel_rfl) Tryd.func3
    (ChangeSpec.witness_shaped (enc := enc) (C := Tryd.checked) (os := os) (X := fun w _ => laidMetH Tryd.prog Rows.fnExactSalvageBlocksRow.laid w) false (World.laidAll Tryd.prog os Rows.fnExactSalvageBlocksRow.laid) #[(.string ⟨#[]⟩)] 8 (World.laidAll_os _ _ _)
      (World.shaped_of_ZipB (by kernel_rfl) (by kernel_rfl)) (by kernel_rfl) (by kernel_rfl) (by kernel_rfl)
      (by rw [MakeChecks.laidMetH_plain _ _ _ (by kernel_rfl)]; exact laidMet_laidAll _ (by kernel_rfl) (by kernel_rfl))) ?_
  intro W base args ds gs before hval0 hW hcnd hsz0 hLD hsh _
  have hsz : (DataW.weightsEach Tryd.prog (Tryd.f3.params.toList ++ Rows.fnExactSalvageBlocksSpec.plain.varTypes Tryd.prog) (ds ++ gs)).all (· ≤ reachBytes) = true := hsz0
  have hval : ∀ (j : Nat) t v, Tryd.f3.params[j]? = some t → args[j]? = some v → Value.okWide Tryd.prog W .any base t v := hval0
  have hW' := hW
  obtain ⟨p, q, hA0, hV, rfl, hfz, hnd⟩ := hW
  have hA : DataW.TrodAll enc Tryd.prog W 0 (fun _ => true) true Tryd.f3.params.toList args.toList ds p := hA0
  rw [Tryd.params3] at hA hval hsz
  obtain ⟨v0, vs0, d0, ds0, p0, q0, hargs, rfl, rfl, h0, r0⟩ := trodAll_cons hA
  obtain ⟨rfl, rfl, rfl⟩ := trodAll_nil r0
  obtain rfl : args = #[v0] := by cases args; simp_all
  obtain ⟨rfl, rfl⟩ := trodVars_none hV
  obtain ⟨a0, rfl, rfl, rfl, y0⟩ := open_string Tryd.underlying9 (hval 0 9 v0 rfl rfl) h0
  have w0 : a0.size ≤ 140737488351232 := by
    have z := sized_string hsz (j := 0) (t := 9) rfl rfl
    rw [Array.length_toList] at z
    exact z
  have hst : ShT Tryd.prog W := ⟨hsh, by
    have h_ : laidMetH Tryd.prog Rows.fnExactSalvageBlocksRow.laid W := hLD
    rw [MakeChecks.laidMetH_plain _ _ _ (by kernel_rfl)] at h_
    have e_ : Rows.fnExactSalvageBlocksRow.laid = Rows.fnExactSalvageBlocksRow.laid.take 2 ++ ("internal/strconv.uint64pow10", Lib.tabData .u64 Lib.pow10Tab) :: Rows.fnExactSalvageBlocksRow.laid.drop 3 := by kernel_rfl
    rw [e_] at h_
    exact Lib.tabIs_of_head (g := (Tryd.prog.globalNamed "internal/strconv.uint64pow10").getD 0) (t := ((Tryd.prog.globals[(Tryd.prog.globalNamed "internal/strconv.uint64pow10").getD 0]?).map (·.type)).getD 0) (e := 92) (n := 20) (by kernel_rfl) (by kernel_rfl) (by kernel_rfl) (by kernel_rfl) (by kernel_rfl) (by kernel_rfl) (LaidKit.laidMet_from h_)⟩
  obtain ⟨k, hp⟩ := PureFnExactSalvageBlocks.pure a0 w0
  clear hA0 hval0 hsz0 hsz
  refine (laws_FnExactSalvageBlocks.calls k a0 true W hst hp).mono fun e W' ⟨he, bel0⟩ => ?_
  have bel : Below W.heap.size W W' := bel0
  subst he
  exact ⟨_, rfl, _, _, _, [], _, [], hW', trodAll_mk1 (shut_bool Tryd.underlying4 _), (trodAll_cons_mk (shut_string Tryd.underlying9 y0) trodAll_mk0), rfl, bel.frame _, fun h => by cases h⟩
theorem over : Rows.fnExactSalvageBlocksRow.holds Tryd.pinned (OpenSpec.ofChange Rows.fnExactSalvageBlocksSpec) :=
  OpenClaim.holds_of_wide 3 Tryd.f3 rfl rfl rfl rfl rfl rfl rfl ⟨rfl, rfl, rfl, rfl, rfl⟩ rfl rfl rfl rfl rfl (by kernel_rfl) Tryd.func3 (by kernel_rfl)
    (of_decide_eq_true (by kernel_rfl)) (by unfold Func.isWrapper; first | (rw [if_pos (by decide +kernel)]; kernel_rfl) | (rw [if_neg (by decide +kernel)]; exact ⟨rfl, rfl⟩))
    (fun os started H enc _ => lifted os started H enc)
end Go.Proofs.YtkllogmpaaeokaaDoor.RowFnExactSalvageBlocks
namespace Go.Proofs.YtkllogmpaaeokaaDoor
theorem fnExactSalvageBlocks_holds : Rows.FnExactSalvageBlocksSaid := RowFnExactSalvageBlocks.over
theorem fnExactSalvageBlocks_card_holds : Rows.FnExactSalvageBlocksCardSaid :=
  Claim7.holds_tied_plain_at .later [] [.data, .data, .data, .data, .pinned] true (true, "375661acce29c797fd0b3778813daec722af5c95c5c1a4a16928943ce302b11e") false fnExactSalvageBlocks_holds (fun _ h => by cases h) (by kernel_rfl) (fun _ h => by cases h) fnExactSalvageBlocks_row_tie rfl ⟨rfl, rfl⟩ (by kernel_rfl) rfl
    (fun f fn hf hfn => by
      obtain rfl : f = 3 := Option.some.inj ((show Tryd.prog.funcNamed "loop.example/g01011/laws.FnExactSalvageBlocks" = some 3 by kernel_rfl).symm.trans hf) |>.symm
      obtain rfl : fn = Tryd.f3 := (Option.some.inj (Tryd.func3.symm.trans hfn)).symm
      exact ⟨by kernel_rfl, fun j t ht => by
        rw [Tryd.params3] at ht
        have hm : t ∈ [9] := by simpa using Array.mem_of_getElem? ht
        have hall : ([9].all fun u => !Tryd.prog.wantsStandIn u) = true := by kernel_rfl
        exact (show Tryd.prog.wantsStandIn t = false by simpa using List.all_eq_true.1 hall t hm)⟩)
    (by kernel_rfl)
end Go.Proofs.YtkllogmpaaeokaaDoor
end
