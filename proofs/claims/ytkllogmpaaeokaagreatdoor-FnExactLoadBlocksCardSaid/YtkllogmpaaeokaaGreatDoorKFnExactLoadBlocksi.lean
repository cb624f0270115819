/- The law FnExactLoadBlocks: part 8 of its texts, joined (wip/pack.py). -/
import Derived.Test.YtkllogmpaaeokaaGreatDoorKFnExactLoadBlocksa
import Derived.Test.YtkllogmpaaeokaaGreatDoorKFnExactLoadBlocksb
import Derived.Test.YtkllogmpaaeokaaGreatDoorKFnExactLoadBlocksc
import Derived.Test.YtkllogmpaaeokaaGreatDoorKFnExactLoadBlocksd
import Derived.Test.YtkllogmpaaeokaaGreatDoorKFnExactLoadBlockse
import Derived.Test.YtkllogmpaaeokaaGreatDoorKFnExactLoadBlocksf
import Derived.Test.YtkllogmpaaeokaaGreatDoorKFnExactLoadBlocksg
import Derived.Test.YtkllogmpaaeokaaGreatDoorKFnExactLoadBlocksh
import Derived.Handed
import Derived.HandedShaped
import Derived.SizedLaws
import Derived.Stop.LaidErr
import Derived.LaidLaws
import Derived.Test.YtkllogmpaaeokaaGreatDoorProg
import Derived.Test.YtkllogmpaaeokaaGreatDoorRows
import Derived.WalkKit
import Derived.ProofKit
import Derived.OpenShut
import Derived.ShutString
import Derived.ChangeOld
import Derived.Below
import Derived.Lib.LaidTab
import Derived.Lib.ItoaNum
import Derived.LaidMore
import Derived.Lay
import Derived.SevenTiedAt
import Derived.Stop.Joined
import Derived.Test.YtkllogmpaaeokaaGreatDoorTie
import Derived.Test.YtkllogmpaaeokaaGreatDoorCards

section
namespace Go.Proofs.YtkllogmpaaeokaaGreatDoor.PNumEv
open Go.RowKit Go.Proofs.YtkllogmpaaeokaaGreatDoorW.PrintWords Go.Proofs.YtkllogmpaaeokaaGreatDoor.XT Go.Proofs.YtkllogmpaaeokaaGreatDoor.EvK Go.Proofs.YtkllogmpaaeokaaGreatDoor.PBasics Go.Proofs.YtkllogmpaaeokaaGreatDoor.PNum
set_option linter.unusedVariables false
set_option linter.unusedSimpArgs false
def res : Option Int → Int × Bool
  | none => (0, false)
  | some v => (v, true)
theorem canon_len {l : List UInt8} {v : Int} (h : canon l = some v) : (less1 l).length ≤ 18 := by
  have hp : ∀ l, plainOk l = true → l.length ≤ 18 := by
    intro l h
    unfold plainOk at h
    rw [Bool.and_eq_true, Bool.and_eq_true, decide_eq_true_eq] at h
    exact h.2.1
  unfold canon at h
  cases l with
  | nil => cases h
  | cons c r =>
    simp only at h
    unfold less1
    by_cases hc : c = 45
    · rw [if_pos hc] at h
      rw [if_pos (by rw [hc]; rfl)]
      split at h
      · rename_i hq
        rw [Bool.and_eq_true] at hq
        exact hp _ hq.1
      · cases h
    · rw [if_neg hc] at h
      rw [if_neg (by simpa using hc)]
      split at h
      · rename_i hq
        exact hp _ hq
      · cases h
theorem trim_less (l : List UInt8) : Lib.trimPrefix l [45] = less1 l := by
  unfold Lib.trimPrefix less1
  cases l with
  | nil => rfl
  | cons c r =>
    by_cases hc : c = 45
    · subst hc
      have : Lib.hasPrefix (45 :: r) [45] = true := by first | rfl | simp [Lib.hasPrefix]
      rw [this]
      simp
    · have : Lib.hasPrefix (c :: r) [45] = false := by
        unfold Lib.hasPrefix
        rw [List.isPrefixOf, beq_eq_false_iff_ne.2 (fun e => hc e.symm), Bool.false_and]
      rw [this]
      simp [hc]
theorem dec_res (l : List UInt8) : impl_ReadDecimal.dec l = res (canon l) := by
  unfold impl_ReadDecimal.dec
  rw [trim_less]
  cases hp : Lib.parseIntB 64 l
  · rename_i v
    obtain ⟨v0, v1⟩ := impl_ReadDecimal.ok_range hp
    simp only
    by_cases h18 : 18 < (less1 l).length
    · rw [if_pos h18]
      cases hc : canon l with
      | none => rfl
      | some u => have := canon_len hc; omega
    · rw [if_neg h18]
      by_cases hi : Lib.itoa v = l
      · rw [if_pos hi, parse_canon l v v0 v1 hi (by omega)]
        rfl
      · rw [if_neg hi]
        cases hc : canon l with
        | none => rfl
        | some u =>
          obtain ⟨h1, h2, _⟩ := canon_parse l u hc
          rw [hp] at h1
          have e : v = u := Lib.NumEnd.ok.inj h1
          rw [← e] at h2
          exact absurd h2 hi
  · cases hc : canon l with
    | none => rfl
    | some v => have := (canon_parse l v hc).1; rw [hp] at this; cases this
  · cases hc : canon l with
    | none => rfl
    | some v => have := (canon_parse l v hc).1; rw [hp] at this; cases this
theorem read_eq (s : ByteArray) (hs : s.size ≤ 1048576) : impl_ReadDecimal.f s = some (res (canon s.data.toList)) := by
  unfold impl_ReadDecimal.f
  rw [if_pos (by omega), dec_res]
theorem digB_dig (c : UInt8) : digB c = dig c := by
  unfold digB dig
  congr 1
  · rw [decide_eq_decide]; omega
  · rw [decide_eq_decide]; omega
theorem digits_ev (s : ByteArray) (hs : s.size ≤ 1048576) (at_ : Int) (hat : at_ = 0 ∨ at_ = 1) : ∀ (D : List UInt8) (i n : Nat), i + D.length = s.size → s.data.toList.drop i = D → (n + 1) * 10 ^ D.length ≤ 1000000000000000000 →
    Ev (fun k => spec_l01Number.l0 k s at_ (n : Int) (i : Int)) (if D.all dig = true then ((if at_ = 1 then -(vall n D : Int) else (vall n D : Int)), true) else (0, false)) := by
  intro D
  induction D with
  | nil =>
    intro i n hi hd hn
    rw [List.length_nil] at hi hn
    refine Ev.step (fun k => spec_l01Number.l0.eq_2 _ _ _ _ k) ?_
    simp only [if_neg (show ¬ (i : Int) < (s.size : Int) by omega), List.all_nil, if_true, vall_nil]
    rcases hat with rfl | rfl
    · simp only [if_neg (show ¬ (0 : Int) = 1 by omega)]
      exact Ev.now _
    · simp only [if_true, w64 (show -9223372036854775808 ≤ -(n : Int) by omega) (by omega)]
      exact Ev.now _
  | cons c r ih =>
    intro i n hi hd hn
    rw [List.length_cons] at hi hn
    have hL := size_len' s
    have hil : i < s.data.toList.length := by omega
    have hc : s.data.toList[i] = c := by
      have := List.drop_eq_getElem_cons hil
      rw [hd] at this
      injection this with h1 h2
      exact h1.symm
    have hr : s.data.toList.drop (i + 1) = r := by
      have := List.drop_eq_getElem_cons hil
      rw [hd] at this
      injection this with h1 h2
      exact h2.symm
    have hb : bt s (i : Int) = (c.toNat : Int) := by rw [bytes_at_ s i hil, hc]
    refine Ev.step (fun k => spec_l01Number.l0.eq_2 _ _ _ _ k) ?_
    simp only [if_pos (show (i : Int) < (s.size : Int) by omega), if_pos (show (0 : Int) ≤ (i : Int) by omega), hb, dig_eq, Option.bind_some, digB_dig]
    cases hdg : dig c with
    | false =>
      simp only [List.all_cons, hdg, Bool.false_and, Bool.false_eq_true, if_false]
      exact Ev.now _
    | true =>
      have hc2 := (dig_iff c).1 hdg
      have hp : 0 < 10 ^ r.length := Nat.pow_pos (by omega)
      rw [Nat.pow_succ] at hn
      have h1 : (n + 1) * 10 ≤ (n + 1) * (10 ^ r.length * 10) := Nat.mul_le_mul_left _ (by omega)
      have h2 : (n * 10 + (c.toNat - 48) + 1) * 10 ^ r.length ≤ (n + 1) * 10 * 10 ^ r.length := Nat.mul_le_mul_right _ (by omega)
      have h3 : (n + 1) * 10 * 10 ^ r.length = (n + 1) * (10 ^ r.length * 10) := by rw [Nat.mul_assoc, Nat.mul_comm 10]
      have h := ih (i + 1) (n * 10 + (c.toNat - 48)) (by omega) hr (by omega)
      have e1 : wrap64 (wrap64 (10 * (n : Int)) + ((c.toNat : Int) - 48) % 256) = ((n * 10 + (c.toNat - 48) : Nat) : Int) := by
        rw [w64 (show -9223372036854775808 ≤ 10 * (n : Int) by omega) (by omega), w64 (by omega) (by omega)]
        omega
      have e2 : wrap64 ((i : Int) + 1) = ((i + 1 : Nat) : Int) := by rw [w64 (by omega) (by omega)]; omega
      simp only [if_true, e1, e2, List.all_cons, hdg, Bool.true_and, vall_cons]
      exact h
theorem num_ev (s : ByteArray) (hs : s.size ≤ 1048576) : Ev (fun k => spec_l01Number.f k s) (res (canon s.data.toList)) := by
  have hL := size_len' s
  have no : ∀ a : Int, Ev (fun k => spec_l01Number.j2 k s a true) (0, false) := by
    intro a
    refine Ev.step (fun k => spec_l01Number.j2.eq_2 _ _ _ k) ?_
    simp only [if_true]
    exact Ev.now _
  have p18 : (10 : Nat) ^ 18 = 1000000000000000000 := by decide
  have go : ∀ (a : Nat) (D : List UInt8), (a = 0 ∨ a = 1) → s.data.toList.drop a = D → a + D.length = s.size → 0 < D.length → (D.length ≤ 18 → (D.head? = some 48 → ¬ 1 < s.size) →
      Ev (fun k => spec_l01Number.l0 k s (a : Int) 0 (a : Int)) (if D.all dig = true then ((if (a : Int) = 1 then -(vall 0 D : Int) else (vall 0 D : Int)), true) else (0, false))) := by
    intro a D ha hd hl h0 h18 _
    have hp : 10 ^ D.length ≤ 10 ^ 18 := Nat.pow_le_pow_right (by omega) h18
    exact digits_ev s hs (a : Int) (by rcases ha with rfl | rfl; exact Or.inl rfl; exact Or.inr rfl) D a 0 hl hd (by omega)
  cases hl : s.data.toList with
  | nil =>
    have hz : s.size = 0 := by rw [hL, hl]; rfl
    unfold spec_l01Number.f
    simp only [if_neg (show ¬ (s.size : Int) > 0 by omega)]
    refine Ev.step (fun k => spec_l01Number.j0.eq_2 _ _ _ k) ?_
    simp only [Bool.false_eq_true, if_false]
    refine Ev.step (fun k => spec_l01Number.j1.eq_2 _ _ k) ?_
    simp only [if_pos (show (s.size : Int) = 0 by omega)]
    exact no 0
  | cons c r =>
    have hz : s.size = r.length + 1 := by rw [hL, hl]; rfl
    have hb0 : bt s 0 = (c.toNat : Int) := head_at s c r hl
    unfold spec_l01Number.f
    simp only [if_pos (show (s.size : Int) > 0 by omega), if_pos (show (0 : Int) < (s.size : Int) by omega), hb0]
    refine Ev.step (fun k => spec_l01Number.j0.eq_2 _ _ _ k) ?_
    by_cases hc : c = 45
    · subst hc
      simp only [show ((((45 : UInt8).toNat : Int)) == 45) = true from rfl, if_true]
      refine Ev.step (fun k => spec_l01Number.j1.eq_2 _ _ k) ?_
      unfold canon
      simp only [if_true]
      cases r with
      | nil =>
        rw [List.length_nil] at hz
        simp only [if_pos (show (s.size : Int) = 1 by omega)]
        have : (plainOk [] && !(([] : List UInt8).head? == some 48)) = false := by decide
        rw [this]
        exact no 1
      | cons d r2 =>
        rw [List.length_cons] at hz
        simp only [if_neg (show ¬ (s.size : Int) = 1 by omega), w64 (show -9223372036854775808 ≤ (s.size : Int) - 1 by omega) (by omega)]
        by_cases h18 : (s.size : Int) - 1 > 18
        · simp only [if_pos h18]
          have : plainOk (d :: r2) = false := by
            unfold plainOk
            rw [decide_eq_false (show ¬ (d :: r2).length ≤ 18 by rw [List.length_cons]; omega)]
            simp
          rw [this]
          exact no 1
        · have hb1 : bt s 1 = (d.toNat : Int) := by
            have := bytes_at_ s 1 (by rw [hl]; simp)
            rw [show ((1 : Nat) : Int) = 1 from rfl] at this
            rw [this]
            simp only [hl, List.getElem_cons_succ, List.getElem_cons_zero]
          simp only [if_neg h18, if_pos (show (0 : Int) ≤ 1 by omega), if_pos (show (1 : Int) < (s.size : Int) by omega), hb1]
          by_cases hd : d = 48
          · subst hd
            simp only [show (((48 : UInt8).toNat : Int) = 48) from rfl, if_true, decide_eq_true (show (s.size : Int) > 1 by omega)]
            have : (plainOk (48 :: r2) && !(((48 :: r2) : List UInt8).head? == some 48)) = false := by simp
            rw [this]
            exact no 1
          · have hdn : ¬ (d.toNat : Int) = 48 := fun e => hd (UInt8.toNat_inj.1 (by rw [show (48 : UInt8).toNat = 48 from rfl]; omega))
            simp only [if_neg hdn]
            refine Ev.step (fun k => spec_l01Number.j2.eq_2 _ _ _ k) ?_
            simp only [Bool.false_eq_true, if_false]
            have h := go 1 (d :: r2) (Or.inr rfl) (by rw [hl]; rfl) (by rw [List.length_cons]; omega) (by simp) (by rw [List.length_cons]; omega) (fun h => absurd (by simpa using h) hd)
            have e : (if (plainOk (d :: r2) && !(((d :: r2) : List UInt8).head? == some 48)) = true then some (-(vall 0 (d :: r2) : Int)) else none) = if (d :: r2).all dig = true then some (-(vall 0 (d :: r2) : Int)) else none := by
              unfold plainOk
              rw [decide_eq_true (show (d :: r2).length ≤ 18 by rw [List.length_cons]; omega)]
              simp [hd]
            rw [e]
            cases hall : (d :: r2).all dig with
            | true => rw [hall] at h; simpa [res] using h
            | false => rw [hall] at h; simpa [res] using h
    · have hcn : ((c.toNat : Int) == 45) = false := by
        rw [beq_eq_false_iff_ne]
        exact fun e => hc (UInt8.toNat_inj.1 (by rw [show (45 : UInt8).toNat = 45 from rfl]; omega))
      simp only [hcn, Bool.false_eq_true, if_false]
      refine Ev.step (fun k => spec_l01Number.j1.eq_2 _ _ k) ?_
      unfold canon
      simp only [if_neg hc, if_neg (show ¬ (s.size : Int) = 0 by omega), w64 (show -9223372036854775808 ≤ (s.size : Int) - 0 by omega) (by omega)]
      by_cases h18 : (s.size : Int) - 0 > 18
      · simp only [if_pos h18]
        have : plainOk (c :: r) = false := by
          unfold plainOk
          rw [decide_eq_false (show ¬ (c :: r).length ≤ 18 by rw [List.length_cons]; omega)]
          simp
        rw [this]
        exact no 0
      · simp only [if_neg h18, if_pos (show (0 : Int) ≤ 0 by omega), if_pos (show (0 : Int) < (s.size : Int) by omega), hb0]
        have hlen : (c :: r).length ≤ 18 := by rw [List.length_cons]; omega
        by_cases hd : c = 48 ∧ r ≠ []
        · obtain ⟨rfl, hr⟩ := hd
          have hrl : 0 < r.length := List.length_pos_iff.2 hr
          simp only [show (((48 : UInt8).toNat : Int) = 48) from rfl, if_true, decide_eq_true (show (s.size : Int) > 1 by omega)]
          have : plainOk (48 :: r) = false := by
            unfold plainOk
            have : r.isEmpty = false := by cases r with
              | nil => exact absurd rfl hr
              | cons _ _ => rfl
            simp [this]
          rw [this]
          exact no 0
        · have hj : Ev (fun k => if (c.toNat : Int) = 48 then spec_l01Number.j2 k s 0 (decide ((s.size : Int) > 1)) else spec_l01Number.j2 k s 0 false) (res (if plainOk (c :: r) = true then some (vall 0 (c :: r) : Int) else none)) := by
            have e : plainOk (c :: r) = (c :: r).all dig := by
              unfold plainOk
              rw [decide_eq_true hlen]
              by_cases h48 : c = 48
              · have : r = [] := Classical.byContradiction fun hr => hd ⟨h48, hr⟩
                rw [this]; simp
              · simp [h48]
            have h := go 0 (c :: r) (Or.inl rfl) (by rw [hl]; rfl) (by rw [List.length_cons]; omega) (by simp) hlen (by
              intro h
              have h48 : c = 48 := by simpa using h
              have : r = [] := Classical.byContradiction fun hr => hd ⟨h48, hr⟩
              rw [this] at hz
              simp at hz
              omega)
            have hj2 : Ev (fun k => spec_l01Number.j2 k s 0 false) (res (if plainOk (c :: r) = true then some (vall 0 (c :: r) : Int) else none)) := by
              refine Ev.step (fun k => spec_l01Number.j2.eq_2 _ _ _ k) ?_
              simp only [Bool.false_eq_true, if_false]
              rw [e]
              cases hall : (c :: r).all dig with
              | true => rw [hall] at h; simpa [res] using h
              | false => rw [hall] at h; simpa [res] using h
            by_cases h48 : (c.toNat : Int) = 48
            · have hc48 : c = 48 := UInt8.toNat_inj.1 (by rw [show (48 : UInt8).toNat = 48 from rfl]; omega)
              have hr : r = [] := Classical.byContradiction fun hr => hd ⟨hc48, hr⟩
              have hz1 : s.size = 1 := by rw [hz, hr]; rfl
              simp only [if_pos h48, decide_eq_false (show ¬ (s.size : Int) > 1 by omega)]
              exact hj2
            · simp only [if_neg h48]
              exact hj2
          exact hj
end Go.Proofs.YtkllogmpaaeokaaGreatDoor.PNumEv
end

section
namespace Go.Proofs.YtkllogmpaaeokaaGreatDoor.ST
open Go.RowKit Go.Proofs.YtkllogmpaaeokaaGreatDoorW.PrintWords Go.Proofs.YtkllogmpaaeokaaGreatDoor.XT Go.Proofs.YtkllogmpaaeokaaGreatDoor.EvK
set_option linter.unusedVariables false
set_option linter.unusedSimpArgs false
theorem eqBlockS_ev (l : List (S43)) (hl : l.length ≤ 1048576) : Ev (fun k => laws_eqBlockS.f k l l) true := by
  apply EvP.eq
  unfold laws_eqBlockS.f
  simp only [if_true]
  refine for_evp (L := fun k (s : Unit) i => laws_eqBlockS.l0 k l l i) l.length (fun i s => True) ?_ ?_ () trivial
  · rintro i s hi - K
    refine EvP.step (fun k => laws_eqBlockS.l0.eq_2 _ _ _ k) ?_
    simp only [if_pos (show (i : Int) < (l.length : Int) by omega), if_pos (show (0 : Int) ≤ (i : Int) by omega), laws_eqBlock.f, Option.bind_some, if_true, w64 (show -9223372036854775808 ≤ (i : Int) + 1 by omega) (by omega)]
    exact K () trivial
  · rintro s -
    refine EvP.step (fun k => laws_eqBlockS.l0.eq_2 _ _ _ k) ?_
    simp only [if_neg (show ¬ (l.length : Int) < (l.length : Int) by omega)]
    exact EvP.now rfl
end Go.Proofs.YtkllogmpaaeokaaGreatDoor.ST
end

section
namespace Go.Proofs.YtkllogmpaaeokaaGreatDoor.ST
open Go.RowKit Go.Proofs.YtkllogmpaaeokaaGreatDoorW.PrintWords Go.Proofs.YtkllogmpaaeokaaGreatDoor.XT Go.Proofs.YtkllogmpaaeokaaGreatDoor.EvK
set_option linter.unusedVariables false
set_option linter.unusedSimpArgs false
theorem markText_ev (c : Int) (h0 : 0 ≤ c) (h1 : c ≤ 4611686018427387904) : ∃ s : ByteArray, Ev (fun k => laws_markText.f k c) s := by
  unfold laws_markText.f
  by_cases hc : c ≤ 0
  · simp only [if_pos hc]
    exact ⟨_, Ev.now _⟩
  simp only [if_neg hc]
  have key : ∀ (d : Nat) (x : Int) (y : ByteArray), 0 ≤ x → x ≤ d → y.size + d ≤ 9223372036854775000 → ∃ s : ByteArray, Ev (fun k => laws_markText.l0 k x y) s := by
    intro d
    induction d using Nat.strongRecOn with
    | _ d ih =>
    intro x y hx hd hy
    by_cases hp : x > 0
    · have hz : (strOfNums [(wrap64 (48 + Int.tmod x 10)) % 256]).size = 1 := rfl
      have hd' : Int.tdiv x 10 = x / 10 := Int.tdiv_eq_ediv_of_nonneg hx
      have hw : wrap64 (Int.tdiv x 10) = x / 10 := by rw [hd', w64 (by omega) (by omega)]
      obtain ⟨s, hs⟩ := ih (d - 1) (by omega) (x / 10) (strOfNums [(wrap64 (48 + Int.tmod x 10)) % 256] ++ y) (by omega) (by omega) (by rw [ByteArray.size_append, hz]; omega)
      refine ⟨s, Ev.step (fun k => laws_markText.l0.eq_2 _ _ k) ?_⟩
      simp only [if_pos hp, Option.bind_some, hz, if_pos (show 1 + y.size ≤ 9223372036854775807 by omega), hw]
      exact hs
    · refine ⟨(⟨#[109]⟩ : ByteArray) ++ y, Ev.step (fun k => laws_markText.l0.eq_2 _ _ k) ?_⟩
      simp only [if_neg hp, if_pos (show 1 + y.size ≤ 9223372036854775807 by omega)]
      exact Ev.now _
  exact key c.toNat c ⟨#[]⟩ h0 (by omega) (by show 0 + _ ≤ _; omega)
end Go.Proofs.YtkllogmpaaeokaaGreatDoor.ST
end

section
namespace Go.Proofs.YtkllogmpaaeokaaGreatDoor.ST
open Go.RowKit Go.Proofs.YtkllogmpaaeokaaGreatDoorW.PrintWords Go.Proofs.YtkllogmpaaeokaaGreatDoor.XT Go.Proofs.YtkllogmpaaeokaaGreatDoor.EvK
set_option linter.unusedVariables false
set_option linter.unusedSimpArgs false
theorem markBlockS_ev (l : List (S43)) (c : Int) (h0 : 0 ≤ c) (h1 : c + 3 * (l.length : Int) ≤ 4611686018427387904) :
    ∃ y : List (S43), Ev (fun k => laws_markBlockS.f k l c) (c + 3 * (l.length : Int), y) ∧ Ev (fun k => laws_heldBlockS.f k y c) (c + 3 * (l.length : Int)) ∧ y.length = l.length := by
  obtain ⟨T, hT⟩ : ∃ T : Int → ByteArray, ∀ x : Int, 0 ≤ x → x ≤ 4611686018427387904 → Ev (fun k => laws_markText.f k x) (T x) := ⟨fun x => if h : 0 ≤ x ∧ x ≤ 4611686018427387904 then Classical.choose (markText_ev x h.1 h.2) else ByteArray.empty, fun x h h' => by simp only [h, h', and_self, dif_pos]; exact Classical.choose_spec (markText_ev x h h')⟩
  let E : Nat → S43 := fun j => ⟨T (c + 3 * (j : Int)), T (c + 3 * (j : Int) + 1), T (c + 3 * (j : Int) + 1 + 1)⟩
  have hset : ∀ (i : Nat) (h : i < l.length), ((List.range i).map E ++ l.drop i).set i (E i) = (List.range (i + 1)).map E ++ l.drop (i + 1) := fun i h => set_done E l i h
  have hlen : ∀ (i : Nat), i ≤ l.length → ((List.range i).map E ++ l.drop i).length = l.length := by intro i h; simp; omega
  refine ⟨(List.range l.length).map E, EvP.eq ?_, EvP.eq ?_, by simp⟩
  · unfold laws_markBlockS.f
    refine for_evp (L := fun k (s : List (S43) × Int) i => laws_markBlockS.l0 k s.1 s.2 i) l.length (fun i s => s = ((List.range i).map E ++ l.drop i, c + 3 * (i : Int))) ?_ ?_ (l, c) (by simp)
    · rintro i s hi rfl K
      refine EvP.step (fun k => laws_markBlockS.l0.eq_2 _ _ _ k) ?_
      simp only [hlen i (by omega), if_pos (show (i : Int) < (l.length : Int) by omega), if_pos (show (0 : Int) ≤ (i : Int) by omega), Option.bind_some, w64 (show -9223372036854775808 ≤ (i : Int) + 1 by omega) (by omega), w64 (show -9223372036854775808 ≤ c + 3 * (i : Int) + 1 by omega) (by omega), w64 (show -9223372036854775808 ≤ c + 3 * (i : Int) + 1 + 1 by omega) (by omega), w64 (show -9223372036854775808 ≤ c + 3 * (i : Int) + 1 + 1 + 1 by omega) (by omega), Int.toNat_natCast]
      refine EvP.bind (hT (c + 3 * (i : Int)) (by omega) (by omega)) ?_
      refine EvP.bind (hT (c + 3 * (i : Int) + 1) (by omega) (by omega)) ?_
      refine EvP.bind (hT (c + 3 * (i : Int) + 1 + 1) (by omega) (by omega)) ?_
      refine K (_, _) ?_
      rw [← hset i hi, Prod.mk.injEq]
      refine ⟨?_, by push_cast; omega⟩
      have g1 := hlen i (by omega)
      generalize (List.range i).map E ++ l.drop i = L at g1
      have g2 : i < L.length := by omega
      first | rfl | (simp [rd_T43, E, getD_set_self, g2])
    · rintro s rfl
      refine EvP.step (fun k => laws_markBlockS.l0.eq_2 _ _ _ k) ?_
      simp only [hlen l.length (Nat.le_refl _), if_neg (show ¬ (l.length : Int) < (l.length : Int) by omega)]
      exact EvP.now (by simp)
  · unfold laws_heldBlockS.f
    have hl2 : ((List.range l.length).map E).length = l.length := by simp
    refine for_evp (L := fun k (s : Int) i => laws_heldBlockS.l0 k ((List.range l.length).map E) s i) l.length (fun i s => s = c + 3 * (i : Int)) ?_ ?_ c (by simp)
    · rintro i s hi rfl K
      have e : rd_T43 ((List.range l.length).map E) (i : Int) = E i := by
        rw [show rd_T43 ((List.range l.length).map E) (i : Int) = ((List.range l.length).map E)[i]'(by simpa using hi) from getD_at _ z43 i (by simpa using hi)]; simp
      refine EvP.step (fun k => laws_heldBlockS.l0.eq_2 _ _ _ k) ?_
      simp only [hl2, if_pos (show (i : Int) < (l.length : Int) by omega), if_pos (show (0 : Int) ≤ (i : Int) by omega), e, E, if_true, w64 (show -9223372036854775808 ≤ (i : Int) + 1 by omega) (by omega), w64 (show -9223372036854775808 ≤ c + 3 * (i : Int) + 1 by omega) (by omega), w64 (show -9223372036854775808 ≤ c + 3 * (i : Int) + 1 + 1 by omega) (by omega), w64 (show -9223372036854775808 ≤ c + 3 * (i : Int) + 1 + 1 + 1 by omega) (by omega)]
      refine EvP.bind (hT (c + 3 * (i : Int)) (by omega) (by omega)) ?_
      simp only [if_true]
      refine EvP.bind (hT (c + 3 * (i : Int) + 1) (by omega) (by omega)) ?_
      simp only [if_true]
      refine EvP.bind (hT (c + 3 * (i : Int) + 1 + 1) (by omega) (by omega)) ?_
      simp only [if_true]
      exact K _ (by push_cast; omega)
    · rintro s rfl
      refine EvP.step (fun k => laws_heldBlockS.l0.eq_2 _ _ _ k) ?_
      simp only [hl2, if_neg (show ¬ (l.length : Int) < (l.length : Int) by omega)]
      exact EvP.now rfl
end Go.Proofs.YtkllogmpaaeokaaGreatDoor.ST
end

section
namespace Go.Proofs.YtkllogmpaaeokaaGreatDoor.PureFnExactLoadBlocks
open Go.RowKit Go.Proofs.YtkllogmpaaeokaaGreatDoorW.PrintWords Go.Proofs.YtkllogmpaaeokaaGreatDoor.XT Go.Proofs.YtkllogmpaaeokaaGreatDoor.EvK Go.Proofs.YtkllogmpaaeokaaGreatDoor.PBasics Go.Proofs.YtkllogmpaaeokaaGreatDoor.PBlocks Go.Proofs.YtkllogmpaaeokaaGreatDoor.PBlockL Go.Proofs.YtkllogmpaaeokaaGreatDoor.PParse Go.Proofs.YtkllogmpaaeokaaGreatDoor.PSplit Go.Proofs.YtkllogmpaaeokaaGreatDoor.PLinesS Go.Proofs.YtkllogmpaaeokaaGreatDoor.PNum Go.Proofs.YtkllogmpaaeokaaGreatDoor.PNumEv Go.Proofs.YtkllogmpaaeokaaGreatDoor.ST
set_option linter.unusedVariables false
set_option linter.unusedSimpArgs false
theorem rd_size (x : List ByteArray) (hx : ∀ y ∈ x, y.size ≤ 1048576) (i : Nat) (h : i < x.length) : (rdOf ByteArray.empty x (i : Int)).size ≤ 1048576 := by
  rw [rdOf_at x _ i h]
  exact hx _ (List.getElem_mem h)
theorem rd_cons (y : ByteArray) (x : List ByteArray) (i : Nat) : rdOf ByteArray.empty (y :: x) ((i + 1 : Nat) : Int) = rdOf ByteArray.empty x (i : Int) := rfl
theorem tail_ev (h : ByteArray) (x : List ByteArray) (hl : x.length ≤ 1048577) (hx : ∀ y ∈ x, y.size ≤ 1048576) (m : Int) (hm : m ≤ 32) :
    ∀ (d q : Nat) (a : List S43), q + d = x.length → a.length = q → ∃ r : List S43 × Int × Int, r.1.length ≤ 32 ∧ Ev (fun k => spec_LoadBlocks.l0 k (h :: x) m a ((q : Int) + 1)) r ∧ Ev (fun k => impl_LoadBlocks.l0 k m a x (x.length : Int) (q : Int)) r := by
  intro d
  induction d with
  | zero =>
    intro q a hq ha
    refine ⟨if (a.length : Int) = m then (a, 0, 0) else ([], 0, 11), ?_, Ev.step (fun k => spec_LoadBlocks.l0.eq_2 _ _ _ _ k) ?_, Ev.step (fun k => impl_LoadBlocks.l0.eq_2 _ _ _ _ _ k) ?_⟩
    · split
      · show a.length ≤ 32; omega
      · simp
    · simp only [List.length_cons, if_neg (show ¬ (q : Int) + 1 < ((x.length + 1 : Nat) : Int) by omega)]
      split <;> exact Ev.now _
    · simp only [if_neg (show ¬ (q : Int) < (x.length : Int) by omega)]
      split <;> exact Ev.now _
  | succ d ih =>
    intro q a hq ha
    obtain ⟨p, hp0, hp1, hp2⟩ := parse_ev _ (rd_size x hx q (by omega))
    have e1 : rdOf ByteArray.empty (h :: x) ((q : Int) + 1) = rdOf ByteArray.empty x (q : Int) := rd_cons h x q
    have w1 := w64 (show -9223372036854775808 ≤ (q : Int) + 1 + 1 by omega) (by omega)
    have w2 := w64 (show -9223372036854775808 ≤ (q : Int) + 1 by omega) (by omega)
    have w3 := w64 (show -9223372036854775808 ≤ (q : Int) + 2 by omega) (by omega)
    have hc1 : ((q : Int) + 1) = ((q + 1 : Nat) : Int) := by omega
    by_cases hc : p.2.2.2 = 0
    rotate_left
    · refine ⟨([], (q : Int) + 2, p.2.2.2), by simp, Ev.step (fun k => spec_LoadBlocks.l0.eq_2 _ _ _ _ k) ?_, Ev.step (fun k => impl_LoadBlocks.l0.eq_2 _ _ _ _ _ k) ?_⟩
      · simp only [List.length_cons, if_pos (show (q : Int) + 1 < ((x.length + 1 : Nat) : Int) by omega), if_pos (show (0 : Int) ≤ (q : Int) + 1 by omega), e1, w1]
        refine Ev.bind hp1 ?_
        simp only [if_neg hc]
        exact Ev.some (by rw [show (q : Int) + 1 + 1 = (q : Int) + 2 by omega])
      · simp only [if_pos (show (q : Int) < (x.length : Int) by omega), if_pos (show (0 : Int) ≤ (q : Int) by omega)]
        refine Ev.bind hp2 ?_
        simp only [if_neg hc]
        refine Ev.step (fun k => impl_LoadBlocks.j2.eq_2 _ _ _ _ _ _ _ _ _ _ _ k) ?_
        simp only [Bool.false_eq_true, if_false, if_neg hc, w3]
        exact Ev.now _
    have good : ∀ (r : List S43 × Int × Int), Ev (fun k => spec_LoadBlocks.l0 k (h :: x) m (a ++ [(⟨p.1, p.2.1, p.2.2.1⟩ : S43)]) ((q : Int) + 1 + 1)) r → Ev (fun k => impl_LoadBlocks.l0 k m (a ++ [(⟨p.1, p.2.1, p.2.2.1⟩ : S43)]) x (x.length : Int) ((q : Int) + 1)) r → (0 < q → before (a.getD (q - 1) z43) ⟨p.1, p.2.1, p.2.2.1⟩ = true) →
        Ev (fun k => spec_LoadBlocks.l0 k (h :: x) m a ((q : Int) + 1)) r ∧ Ev (fun k => impl_LoadBlocks.l0 k m a x (x.length : Int) (q : Int)) r := by
      intro r g1 g2 hb
      have j2 : Ev (fun k => impl_LoadBlocks.j2 k m a (q : Int) 0 x (x.length : Int) (q : Int) false p.1 p.2.1 p.2.2.1) r := by
        refine Ev.step (fun k => impl_LoadBlocks.j2.eq_2 _ _ _ _ _ _ _ _ _ _ _ k) ?_
        simp only [Bool.false_eq_true, if_false, if_true, if_pos (show a.length < 2932031007402 by omega), w2]
        exact g2
      refine ⟨Ev.step (fun k => spec_LoadBlocks.l0.eq_2 _ _ _ _ k) ?_, Ev.step (fun k => impl_LoadBlocks.l0.eq_2 _ _ _ _ _ k) ?_⟩
      · simp only [List.length_cons, if_pos (show (q : Int) + 1 < ((x.length + 1 : Nat) : Int) by omega), if_pos (show (0 : Int) ≤ (q : Int) + 1 by omega), e1, w1]
        refine Ev.bind hp1 ?_
        simp only [if_pos hc, if_pos (show a.length < 2932031007402 by omega)]
        by_cases hz : q = 0
        · simp only [if_neg (show ¬ (a.length : Int) > 0 by omega)]
          exact g1
        · have w4 : wrap64 ((a.length : Int) - 1) = ((q - 1 : Nat) : Int) := by rw [w64 (by omega) (by omega)]; omega
          simp only [if_pos (show (a.length : Int) > 0 by omega), w4, if_pos (show (0 : Int) ≤ ((q - 1 : Nat) : Int) by omega), if_pos (show ((q - 1 : Nat) : Int) < (a.length : Int) by omega), rd_nat]
          have hbe := before_eq (a.getD (q - 1) z43) ⟨p.1, p.2.1, p.2.2.1⟩
          rw [hb (by omega)] at hbe
          simp only at hbe
          simp only [hbe, Option.bind_some, if_true]
          exact g1
      · simp only [if_pos (show (q : Int) < (x.length : Int) by omega), if_pos (show (0 : Int) ≤ (q : Int) by omega)]
        refine Ev.bind hp2 ?_
        simp only [if_pos hc]
        rw [hc]
        by_cases hz : q = 0
        · simp only [if_neg (show ¬ (q : Int) > 0 by omega)]
          exact j2
        · have w4 : wrap64 ((q : Int) - 1) = ((q - 1 : Nat) : Int) := by rw [w64 (by omega) (by omega)]; omega
          simp only [if_pos (show (q : Int) > 0 by omega), w4, if_pos (show (0 : Int) ≤ ((q - 1 : Nat) : Int) by omega), if_pos (show ((q - 1 : Nat) : Int) < (a.length : Int) by omega), rd_nat]
          refine Ev.bind (compareB_ev (a.getD (q - 1) z43) ⟨p.1, p.2.1, p.2.2.1⟩) ?_
          have hng : ¬ (cmpB (a.getD (q - 1) z43) ⟨p.1, p.2.1, p.2.2.1⟩ ≥ 0) := fun hge => by
            have := (cmpB_ge _ _).1 hge
            rw [hb (by omega)] at this
            cases this
          simp only [decide_eq_false hng]
          exact j2
    by_cases hb : 0 < q → before (a.getD (q - 1) z43) ⟨p.1, p.2.1, p.2.2.1⟩ = true
    · obtain ⟨r, hr, g1, g2⟩ := ih (q + 1) (a ++ [⟨p.1, p.2.1, p.2.2.1⟩]) (by omega) (by rw [List.length_append, ha]; rfl)
      rw [← hc1] at g1 g2
      obtain ⟨f1, f2⟩ := good r g1 g2 hb
      exact ⟨r, hr, f1, f2⟩
    · have hq0 : 0 < q := Classical.byContradiction fun hn => hb (fun h => absurd h hn)
      have hbf : before (a.getD (q - 1) z43) ⟨p.1, p.2.1, p.2.2.1⟩ = false := by
        cases hv : before (a.getD (q - 1) z43) ⟨p.1, p.2.1, p.2.2.1⟩ with
        | false => rfl
        | true => exact absurd (fun _ => hv) hb
      have w4 : wrap64 ((a.length : Int) - 1) = ((q - 1 : Nat) : Int) := by rw [w64 (by omega) (by omega)]; omega
      have w5 : wrap64 ((q : Int) - 1) = ((q - 1 : Nat) : Int) := by rw [w64 (by omega) (by omega)]; omega
      refine ⟨([], (q : Int) + 2, 7), by simp, Ev.step (fun k => spec_LoadBlocks.l0.eq_2 _ _ _ _ k) ?_, Ev.step (fun k => impl_LoadBlocks.l0.eq_2 _ _ _ _ _ k) ?_⟩
      · simp only [List.length_cons, if_pos (show (q : Int) + 1 < ((x.length + 1 : Nat) : Int) by omega), if_pos (show (0 : Int) ≤ (q : Int) + 1 by omega), e1, w1]
        refine Ev.bind hp1 ?_
        simp only [if_pos hc, if_pos (show (a.length : Int) > 0 by omega), w4, if_pos (show (0 : Int) ≤ ((q - 1 : Nat) : Int) by omega), if_pos (show ((q - 1 : Nat) : Int) < (a.length : Int) by omega), rd_nat]
        have hbe := before_eq (a.getD (q - 1) z43) ⟨p.1, p.2.1, p.2.2.1⟩
        rw [hbf] at hbe
        simp only at hbe
        simp only [hbe, Option.bind_some, Bool.false_eq_true, if_false]
        exact Ev.some (by rw [show (q : Int) + 1 + 1 = (q : Int) + 2 by omega])
      · simp only [if_pos (show (q : Int) < (x.length : Int) by omega), if_pos (show (0 : Int) ≤ (q : Int) by omega)]
        refine Ev.bind hp2 ?_
        simp only [if_pos hc, if_pos (show (q : Int) > 0 by omega), w5, if_pos (show (0 : Int) ≤ ((q - 1 : Nat) : Int) by omega), if_pos (show ((q - 1 : Nat) : Int) < (a.length : Int) by omega), rd_nat]
        refine Ev.bind (compareB_ev (a.getD (q - 1) z43) ⟨p.1, p.2.1, p.2.2.1⟩) ?_
        have hge := (cmpB_ge _ _).2 hbf
        simp only [decide_eq_true (show cmpB (a.getD (q - 1) z43) ⟨p.1, p.2.1, p.2.2.1⟩ ≥ 0 from hge)]
        refine Ev.step (fun k => impl_LoadBlocks.j2.eq_2 _ _ _ _ _ _ _ _ _ _ _ k) ?_
        simp only [if_true, if_neg (show ¬ (7 : Int) = 0 by omega), w3]
        exact Ev.now _
def arch : List UInt8 := [97, 114, 99, 104, 105, 118, 101]
def headOf (L : List UInt8) : Option Int := if (arch ++ [32]).isPrefixOf L = true then (match canon (L.drop 8) with
  | some v => if inR v 0 32 = true then some v else none
  | none => none) else none
theorem canon_no32 {l : List UInt8} {v : Int} (h : canon l = some v) : (32 : UInt8) ∉ l := by
  have hp : ∀ l : List UInt8, plainOk l = true → (32 : UInt8) ∉ l := by
    intro l h hm
    unfold plainOk at h
    rw [Bool.and_eq_true, List.all_eq_true] at h
    exact absurd (h.1 32 hm) (by decide)
  unfold canon at h
  cases l with
  | nil => cases h
  | cons c r =>
    simp only at h
    by_cases hc : c = 45
    · rw [if_pos hc] at h
      split at h
      · rename_i hq
        rw [Bool.and_eq_true] at hq
        intro hm
        rcases List.mem_cons.1 hm with e | e
        · rw [hc] at e; exact absurd e (by decide)
        · exact hp _ hq.1 e
      · cases h
    · rw [if_neg hc] at h
      split at h
      · rename_i hq
        exact hp _ hq
      · cases h
theorem first32 : ∀ L : List UInt8, (32 : UInt8) ∈ L → ∃ A B, L = A ++ 32 :: B ∧ (32 : UInt8) ∉ A := by
  intro L
  induction L with
  | nil => intro h; cases h
  | cons c r ih =>
    intro h
    by_cases hc : c = 32
    · exact ⟨[], r, by rw [hc]; rfl, by simp⟩
    · rcases List.mem_cons.1 h with e | e
      · exact absurd e.symm hc
      · obtain ⟨A, B, h1, h2⟩ := ih e
        exact ⟨c :: A, B, by rw [h1]; rfl, by rw [List.mem_cons, not_or]; exact ⟨fun e => hc e.symm, h2⟩⟩
theorem head_ev (s : ByteArray) (hs : s.size ≤ 1048576) : ∃ n : Int, Ev (fun k => spec_l29Head.f k s) (n, (headOf s.data.toList).isSome) ∧ ∀ v, headOf s.data.toList = some v → n = v := by
  obtain ⟨x, h0, h1, h2, h3, h4, h5⟩ := pieces_ev s 32 hs
  obtain ⟨L, hL⟩ : ∃ L, L = s.data.toList := ⟨_, rfl⟩
  rw [← hL] at h3 ⊢
  have no : ∀ t : Bool, t = true → Ev (fun k => spec_l29Head.j0 k x t) (0, false) := by
    rintro t rfl
    refine Ev.step (fun k => spec_l29Head.j0.eq_2 _ _ k) ?_
    simp only [if_true]
    exact Ev.now _
  have start : ∀ r, Ev (fun k => if (x.length : Int) = 2 then (if 0 < (x.length : Int) then (spec_l29Head.j0 k x ((rdOf ByteArray.empty x 0).toList != ([97, 114, 99, 104, 105, 118, 101] : List UInt8))) else (none)) else (spec_l29Head.j0 k x true)) r → Ev (fun k => spec_l29Head.f k s) r := by
    intro r K
    unfold spec_l29Head.f
    exact Ev.bind h5 K
  by_cases h32 : (32 : UInt8) ∈ L
  · obtain ⟨A, B, hAB, hA⟩ := first32 L h32
    have hsp : sp 32 [] L = A :: sp 32 [] B := by
      rw [hAB, sp_some 32 A B [] hA, List.nil_append]
    rw [hsp] at h3
    have hlen : x.length = 1 + (sp 32 [] B).length := by
      have := congrArg List.length h3
      rw [List.length_map, List.length_cons] at this
      omega
    have hx0 : (rdOf ByteArray.empty x 0).data.toList = A := by
      cases x with
      | nil => simp at h0
      | cons y ys => simp only [List.map_cons, List.cons.injEq] at h3; exact h3.1
    by_cases hB : (32 : UInt8) ∈ B
    · have hB2 : 2 ≤ (sp 32 [] B).length := by
        have key : ∀ (B acc : List UInt8), (32 : UInt8) ∈ B → 2 ≤ (sp 32 acc B).length := by
          intro B
          induction B with
          | nil => intro _ h; cases h
          | cons c r ih =>
            intro acc h
            rw [sp]
            by_cases hc : c = 32
            · rw [if_pos hc, List.length_cons]
              have := sp_pos 32 [] r
              omega
            · rw [if_neg hc]
              rcases List.mem_cons.1 h with e | e
              · exact absurd e.symm hc
              · exact ih _ e
        exact key B [] hB
      have hnone : headOf L = none := by
        unfold headOf
        split
        · rename_i hpre
          have h8 : ∃ t, arch ++ [32] ++ t = L := List.isPrefixOf_iff_prefix.1 hpre
          obtain ⟨t, ht⟩ := h8
          have hd : L.drop 8 = t := by rw [← ht]; rfl
          have hAt : A = arch ∧ B = t := by
            have e : A ++ 32 :: B = arch ++ 32 :: t := by rw [← hAB, ← ht]; simp
            have key : ∀ (A C : List UInt8), (32 : UInt8) ∉ A → (32 : UInt8) ∉ C → A ++ 32 :: B = C ++ 32 :: t → A = C ∧ B = t := by
              intro A
              induction A with
              | nil =>
                intro C _ hC e
                cases C with
                | nil => simp at e; exact ⟨rfl, e⟩
                | cons c r => simp at e; exact absurd (by rw [e.1]; simp) hC
              | cons a r ih =>
                intro C hA hC e
                cases C with
                | nil => simp at e; exact absurd (by rw [e.1]; simp) hA
                | cons c q =>
                  simp only [List.cons_append, List.cons.injEq] at e
                  obtain ⟨h1, h2⟩ := ih q (fun h => hA (List.mem_cons_of_mem _ h)) (fun h => hC (List.mem_cons_of_mem _ h)) e.2
                  exact ⟨by rw [e.1, h1], h2⟩
            exact key A arch hA (by decide) e
          rw [hd, ← hAt.2]
          cases hc : canon B with
          | none => rfl
          | some v => exact absurd hB (canon_no32 hc)
        · rfl
      refine ⟨0, start _ ?_, fun v hv => by rw [hnone] at hv; cases hv⟩
      rw [hnone]
      simp only [if_neg (show ¬ (x.length : Int) = 2 by omega)]
      exact no true rfl
    · have hspB : sp 32 [] B = [B] := by rw [sp_none 32 B [] hB, List.nil_append]
      rw [hspB] at h3 hlen
      have hlen : x.length = 2 := hlen
      have hx1 : (rdOf ByteArray.empty x 1).data.toList = B := by
        cases x with
        | nil => simp at h0
        | cons y ys =>
          cases ys with
          | nil => simp at hlen
          | cons z zs => simp only [List.map_cons, List.cons.injEq] at h3; exact h3.2.1
      have hxs1 : (rdOf ByteArray.empty x 1).size ≤ 1048576 := by
        have := rdOf_at x ByteArray.empty 1 (by omega)
        rw [show ((1 : Nat) : Int) = 1 from rfl] at this
        rw [this]
        exact h2 _ (List.getElem_mem _)
      by_cases hAa : A = arch
      · have hhead : headOf L = match canon B with | some v => if inR v 0 32 = true then some v else none | none => none := by
          unfold headOf
          have hpre : (arch ++ [32]).isPrefixOf L = true := List.isPrefixOf_iff_prefix.2 ⟨B, by rw [hAB, hAa]; simp⟩
          have hd : L.drop 8 = B := by rw [hAB, hAa]; rfl
          rw [if_pos hpre, hd]
        have hn := num_ev _ hxs1
        rw [hx1] at hn
        have hj : ((rdOf ByteArray.empty x 0).toList != ([97, 114, 99, 104, 105, 118, 101] : List UInt8)) = false := by
          rw [toList_eq, hx0, hAa]; rfl
        cases hc : canon B with
        | none =>
          rw [hc] at hhead hn
          refine ⟨0, start _ ?_, fun v hv => by rw [hhead] at hv; cases hv⟩
          rw [hhead]
          simp only [if_pos (show (x.length : Int) = 2 by omega), if_pos (show (0 : Int) < (x.length : Int) by omega), hj]
          refine Ev.step (fun k => spec_l29Head.j0.eq_2 _ _ k) ?_
          simp only [Bool.false_eq_true, if_false, if_pos (show (1 : Int) < (x.length : Int) by omega)]
          refine Ev.bind hn ?_
          simp only [res, Bool.false_eq_true, if_false]
          exact Ev.now _
        | some v =>
          rw [hc] at hhead hn
          refine ⟨v, start _ ?_, fun u hu => ?_⟩
          · rw [hhead]
            simp only [if_pos (show (x.length : Int) = 2 by omega), if_pos (show (0 : Int) < (x.length : Int) by omega), hj]
            refine Ev.step (fun k => spec_l29Head.j0.eq_2 _ _ k) ?_
            simp only [Bool.false_eq_true, if_false, if_pos (show (1 : Int) < (x.length : Int) by omega)]
            refine Ev.bind hn ?_
            simp only [res, if_true, in_eq, Option.bind_some]
            cases inR v 0 32 <;> exact Ev.now _
          · rw [hhead] at hu
            simp only at hu
            split at hu
            · exact Option.some.inj hu
            · cases hu
      · have hnone : headOf L = none := by
          unfold headOf
          rw [if_neg]
          intro hpre
          obtain ⟨t, ht⟩ := List.isPrefixOf_iff_prefix.1 hpre
          have e : sp 32 [] L = arch :: sp 32 [] t := by
            rw [← ht, List.append_assoc, List.singleton_append, sp_some 32 arch t [] (by decide), List.nil_append]
          rw [hsp] at e
          exact hAa (List.cons.inj e).1
        have hj : ((rdOf ByteArray.empty x 0).toList != ([97, 114, 99, 104, 105, 118, 101] : List UInt8)) = true := by
          rw [toList_eq, hx0]
          exact bne_iff_ne.2 hAa
        refine ⟨0, start _ ?_, fun v hv => by rw [hnone] at hv; cases hv⟩
        rw [hnone]
        simp only [if_pos (show (x.length : Int) = 2 by omega), if_pos (show (0 : Int) < (x.length : Int) by omega)]
        exact no _ hj
  · have hsp : sp 32 [] L = [L] := by rw [sp_none 32 L [] h32, List.nil_append]
    rw [hsp] at h3
    have hlen : x.length = 1 := by
      have := congrArg List.length h3
      rw [List.length_map] at this
      exact this
    have hnone : headOf L = none := by
      unfold headOf
      rw [if_neg]
      intro hpre
      obtain ⟨t, ht⟩ := List.isPrefixOf_iff_prefix.1 hpre
      exact h32 (by rw [← ht]; simp)
    refine ⟨0, start _ ?_, fun v hv => by rw [hnone] at hv; cases hv⟩
    rw [hnone]
    simp only [if_neg (show ¬ (x.length : Int) = 2 by omega)]
    exact no true rfl
theorem prefix_eq (s : ByteArray) (hs : s.size ≤ 1048576) : stringslite_HasPrefix.f s (⟨#[97, 114, 99, 104, 105, 118, 101, 32]⟩ : ByteArray) = some ((arch ++ [32]).isPrefixOf s.data.toList) := by
  have hL := size_len' s
  have h8 : (⟨#[97, 114, 99, 104, 105, 118, 101, 32]⟩ : ByteArray).size = 8 := rfl
  have hl : (⟨#[97, 114, 99, 104, 105, 118, 101, 32]⟩ : ByteArray).toList = arch ++ [32] := by rw [toList_eq]; rfl
  unfold stringslite_HasPrefix.f
  rw [h8, hl]
  by_cases h : (s.size : Int) ≥ ((8 : Nat) : Int)
  · simp only [if_pos h, if_pos (show (0 : Int) ≤ ((8 : Nat) : Int) by omega), if_pos (show ((8 : Nat) : Int) ≤ (s.size : Int) by omega), Int.toNat_natCast, toList_eq, extract_list, List.drop_zero]
    congr 1
    rw [Bool.eq_iff_iff, beq_iff_eq, List.isPrefixOf_iff_prefix]
    constructor
    · intro e
      exact ⟨s.data.toList.drop 8, by rw [← e, Nat.sub_zero]; exact List.take_append_drop 8 _⟩
    · rintro ⟨t, ht⟩
      rw [← ht]
      rfl
  · simp only [if_neg h]
    congr 1
    symm
    rw [Bool.eq_false_iff]
    intro hp
    obtain ⟨t, ht⟩ := List.isPrefixOf_iff_prefix.1 hp
    have := congrArg List.length ht
    rw [List.length_append] at this
    have h9 : (arch ++ [32]).length = 8 := rfl
    omega
theorem sp_snoc (c : UInt8) : ∀ (l acc : List UInt8), sp c acc (l ++ [c]) = sp c acc l ++ [[]]
  | [], acc => by simp [sp]
  | b :: l, acc => by
    rw [List.cons_append, sp, sp]
    split
    · rw [sp_snoc c l []]; rfl
    · rw [sp_snoc c l (acc ++ [b])]
theorem sp_last (c d : UInt8) (hd : d ≠ c) : ∀ (l acc : List UInt8), ∃ i z, sp c acc (l ++ [d]) = i ++ [z] ∧ z ≠ []
  | [], acc => ⟨[], acc ++ [d], by simp [sp, hd], by simp⟩
  | b :: l, acc => by
    rw [List.cons_append, sp]
    split
    · obtain ⟨i, z, h1, h2⟩ := sp_last c d hd l []
      exact ⟨acc :: i, z, by rw [h1]; rfl, h2⟩
    · exact sp_last c d hd l (acc ++ [b])
theorem suffix_eq (s : ByteArray) (hs : s.size ≤ 1048576) : stringslite_HasSuffix.f s (⟨#[10]⟩ : ByteArray) = some (decide (s.data.toList.getLast? = some 10)) := by
  have hL := size_len' s
  have h1 : (⟨#[10]⟩ : ByteArray).size = 1 := rfl
  have hl : (⟨#[10]⟩ : ByteArray).toList = [10] := by rw [toList_eq]
  unfold stringslite_HasSuffix.f
  rw [h1, hl]
  by_cases h : (s.size : Int) ≥ ((1 : Nat) : Int)
  · have w1 : wrap64 ((s.size : Int) - ((1 : Nat) : Int)) = ((s.size - 1 : Nat) : Int) := by rw [w64 (by omega) (by omega)]; omega
    simp only [if_pos h, w1, if_pos (show (0 : Int) ≤ ((s.size - 1 : Nat) : Int) by omega), if_pos (show ((s.size - 1 : Nat) : Int) ≤ (s.size : Int) by omega), Int.toNat_natCast, toList_eq, extract_list]
    congr 1
    rw [Bool.eq_iff_iff, beq_iff_eq, decide_eq_true_eq]
    obtain ⟨n, hn⟩ : ∃ n, n = s.size := ⟨_, rfl⟩
    rw [← hn] at hL h ⊢
    generalize s.data.toList = L at hL
    rcases List.eq_nil_or_concat L with rfl | ⟨M, d, rfl⟩
    · rw [List.length_nil] at hL; omega
    · rw [List.concat_eq_append, List.length_append, List.length_singleton] at hL
      rw [hL, List.concat_eq_append]
      simp
  · simp only [if_neg h]
    congr 1
    have : s.data.toList = [] := List.eq_nil_of_length_eq_zero (by omega)
    rw [this]
    rfl
theorem both_ev (s : ByteArray) (hs : s.size ≤ 1048576) : ∃ r : List S43 × Int × Int, r.1.length ≤ 32 ∧ Ev (fun k => spec_LoadBlocks.f k s) r ∧ Ev (fun k => impl_LoadBlocks.f k s) r := by
  obtain ⟨x, h0, h1, h2, h3, h4, h5⟩ := lines_ev s hs
  have hL := size_len' s
  have hsuf := suffix_eq s hs
  have trunc : ∀ t : Bool, t = true → Ev (fun k => spec_LoadBlocks.j0 k (x.take (x.length - 1)) t) ([], 0, 11) := by
    rintro t rfl
    refine Ev.step (fun k => spec_LoadBlocks.j0.eq_2 _ _ k) ?_
    simp only [if_true]
    exact Ev.now _
  by_cases hlast : s.data.toList.getLast? = some 10
  rotate_left
  · refine ⟨([], 0, 11), by simp, ?_, ?_⟩
    · unfold spec_LoadBlocks.f
      refine Ev.bind h5 ?_
      rcases List.eq_nil_or_concat s.data.toList with hn | ⟨M, d, hMd⟩
      · rw [hn] at h3
        have hx1 : x.length = 1 := by
          have := congrArg List.length h3
          rw [List.length_map] at this
          simpa [sp] using this
        have : ((x.take (x.length - 1)).length : Int) == 0 := by rw [hx1]; rfl
        split
        · exact trunc _ this
        · exact trunc true rfl
      · have hd : d ≠ 10 := fun e => hlast (by rw [hMd, e]; simp)
        rw [hMd, List.concat_eq_append] at h3
        obtain ⟨i, z, hz1, hz2⟩ := sp_last 10 d hd M []
        rw [hz1] at h3
        have hxe : (rdOf (⟨#[]⟩ : ByteArray) x ((x.length : Int) - 1)).toList.isEmpty = false := by
          have hxl : x.length = i.length + 1 := by
            have := congrArg List.length h3
            rw [List.length_map, List.length_append] at this
            exact this
          rw [show ((x.length : Int) - 1) = (i.length : Int) by omega, rdOf_at x _ i.length (by omega), toList_eq]
          have e : (x.map (·.data.toList))[i.length]? = some z := by rw [h3]; simp
          rw [List.getElem?_map, List.getElem?_eq_getElem (by omega)] at e
          have e2 := Option.some.inj e
          simp only at e2
          rw [e2]
          cases z with
          | nil => exact absurd rfl hz2
          | cons _ _ => rfl
        simp only [hxe, Bool.false_eq_true, if_false]
        exact trunc true rfl
    · unfold impl_LoadBlocks.f strings_HasSuffix.f
      simp only [hsuf, Option.bind_some, decide_eq_false hlast, Bool.false_eq_true, if_false]
      exact Ev.now _
  obtain ⟨M, hM⟩ : ∃ M, s.data.toList = M ++ [10] := by
    rcases List.eq_nil_or_concat s.data.toList with hn | ⟨M, d, hMd⟩
    · rw [hn] at hlast; cases hlast
    · rw [List.concat_eq_append] at hMd
      rw [hMd] at hlast
      have : d = 10 := by simpa using hlast
      exact ⟨M, by rw [hMd, this]⟩
  have hMl : s.size = M.length + 1 := by rw [hL, hM]; simp
  rw [hM, sp_snoc] at h3
  obtain ⟨u, hu⟩ : ∃ u, u = s.extract 0 (s.size - 1) := ⟨_, rfl⟩
  have huL : u.data.toList = M := by
    rw [hu, extract_list, hM]
    rw [hMl]
    simp
  have hus : u.size = M.length := by rw [size_len', huL]
  obtain ⟨y, g0, g1, g2, g3, g4, g5⟩ := pieces_ev u 10 (by omega)
  rw [huL] at g3
  have hxl : x.length = y.length + 1 := by
    have e1 := congrArg List.length h3
    have e2 := congrArg List.length g3
    rw [List.length_map] at e1 e2
    rw [List.length_append] at e1
    simp only [List.length_cons, List.length_nil] at e1
    omega
  have hxy : x.take (x.length - 1) = y := by
    apply lists_eq
    rw [List.map_take, h3, g3, hxl]
    have e2 := congrArg List.length g3
    rw [List.length_map] at e2
    rw [Nat.add_sub_cancel, e2]
    simp
  have hxe : (rdOf (⟨#[]⟩ : ByteArray) x ((x.length : Int) - 1)).toList.isEmpty = true := by
    rw [show ((x.length : Int) - 1) = (y.length : Int) by omega, rdOf_at x _ y.length (by omega), toList_eq]
    have e : (x.map (·.data.toList))[y.length]? = some [] := by
      rw [h3, ← g3]
      simp
    rw [List.getElem?_map, List.getElem?_eq_getElem (by omega)] at e
    have e2 := Option.some.inj e
    simp only at e2
    rw [e2]
    rfl
  rw [hxy, hxe] at h5
  obtain ⟨a, x2, rfl⟩ : ∃ a x2, y = a :: x2 := by
    cases y with
    | nil => simp at g0
    | cons a x2 => exact ⟨a, x2, rfl⟩
  have ha : a.size ≤ 1048576 := g2 a (by simp)
  have hx2 : ∀ z ∈ x2, z.size ≤ 1048576 := fun z hz => g2 z (by simp [hz])
  rw [List.length_cons] at g1
  obtain ⟨n, hn1, hn2⟩ := head_ev a ha
  have toSpec : ∀ r, Ev (fun k => if (headOf a.data.toList).isSome = true then spec_LoadBlocks.l0 k (a :: x2) n [] 1 else some ([], 1, 9)) r → Ev (fun k => spec_LoadBlocks.f k s) r := by
    intro r K
    unfold spec_LoadBlocks.f
    refine Ev.bind h5 ?_
    simp only [if_true]
    refine Ev.step (fun k => spec_LoadBlocks.j0.eq_2 _ _ k) ?_
    have hne : (((a :: x2).length : Int) == 0) = false := by rw [beq_eq_false_iff_ne, List.length_cons]; omega
    simp only [hne, Bool.false_eq_true, if_false, if_pos (show (0 : Int) < ((a :: x2).length : Int) by rw [List.length_cons]; omega)]
    refine Ev.bind (show Ev (fun k => spec_l29Head.f k (rdOf ByteArray.empty (a :: x2) 0)) _ from hn1) ?_
    exact K
  have bad : Ev (fun k => impl_LoadBlocks.j0 k (a :: x2) 0 true) ([], 1, 9) := by
    refine Ev.step (fun k => impl_LoadBlocks.j0.eq_2 _ _ _ k) ?_
    simp only [if_true]
    exact Ev.now _
  have bad' : ∀ v, Ev (fun k => impl_LoadBlocks.j0 k (a :: x2) v true) ([], 1, 9) := by
    intro v
    refine Ev.step (fun k => impl_LoadBlocks.j0.eq_2 _ _ _ k) ?_
    simp only [if_true]
    exact Ev.now _
  have htrim : strings_TrimSuffix.f s (⟨#[10]⟩ : ByteArray) = some u := by
    unfold strings_TrimSuffix.f stringslite_TrimSuffix.f
    have w1 : wrap64 ((s.size : Int) - (((⟨#[10]⟩ : ByteArray).size : Nat) : Int)) = ((s.size - 1 : Nat) : Int) := by
      rw [show ((⟨#[10]⟩ : ByteArray).size) = 1 from rfl, w64 (by omega) (by omega)]; omega
    simp only [hsuf, Option.bind_some, decide_eq_true hlast, if_true, w1, if_pos (show (0 : Int) ≤ ((s.size - 1 : Nat) : Int) by omega), if_pos (show ((s.size - 1 : Nat) : Int) ≤ (s.size : Int) by omega), Int.toNat_natCast, ← hu]
  have toImpl : ∀ r, Ev (fun k => (strings_CutPrefix.f a (⟨#[97, 114, 99, 104, 105, 118, 101, 32]⟩ : ByteArray)).bind fun bt213 => ((impl_ReadDecimal.f bt213.1).bind fun bt215 => (if bt213.2 = true then (if bt215.2 = true then ((impl_within.f bt215.1 0 32).bind fun t217 => (impl_LoadBlocks.j0 k (a :: x2) bt215.1 (!t217))) else (impl_LoadBlocks.j0 k (a :: x2) bt215.1 true)) else (impl_LoadBlocks.j0 k (a :: x2) bt215.1 true)))) r → Ev (fun k => impl_LoadBlocks.f k s) r := by
    intro r K
    unfold impl_LoadBlocks.f strings_HasSuffix.f
    simp only [hsuf, Option.bind_some, decide_eq_true hlast, if_true, htrim, g4, if_pos (show (0 : Int) < ((a :: x2).length : Int) by rw [List.length_cons]; omega)]
    exact K
  have hcp : strings_CutPrefix.f a (⟨#[97, 114, 99, 104, 105, 118, 101, 32]⟩ : ByteArray) = some (if (arch ++ [32]).isPrefixOf a.data.toList = true then (a.extract 8 a.size, true) else (a, false)) := by
    unfold strings_CutPrefix.f stringslite_CutPrefix.f
    have h8 : (⟨#[97, 114, 99, 104, 105, 118, 101, 32]⟩ : ByteArray).size = 8 := rfl
    rw [prefix_eq a ha, h8]
    simp only [Option.bind_some]
    split
    · rename_i hpre
      have hlen : 8 ≤ a.size := by
        obtain ⟨t, ht⟩ := List.isPrefixOf_iff_prefix.1 hpre
        have := congrArg List.length ht
        rw [List.length_append] at this
        have h9 : (arch ++ [32]).length = 8 := rfl
        have := size_len' a
        omega
      simp only [if_pos (show (0 : Int) ≤ ((8 : Nat) : Int) by omega), if_pos (show ((8 : Nat) : Int) ≤ (a.size : Int) by omega), Int.toNat_natCast, Option.bind_some]
    · rfl
  by_cases hpre : (arch ++ [32]).isPrefixOf a.data.toList = true
  · rw [if_pos hpre] at hcp
    have hal := size_len' a
    have hlen : 8 ≤ a.size := by
      obtain ⟨t, ht⟩ := List.isPrefixOf_iff_prefix.1 hpre
      have := congrArg List.length ht
      rw [List.length_append] at this
      have h9 : (arch ++ [32]).length = 8 := rfl
      omega
    have hel : (a.extract 8 a.size).data.toList = a.data.toList.drop 8 := by
      rw [extract_list]
      exact List.take_of_length_le (by rw [List.length_drop]; omega)
    have hes := ex_size a 8 a.size (Nat.le_refl _)
    have hread := read_eq (a.extract 8 a.size) (by omega)
    rw [hel] at hread
    have hh : headOf a.data.toList = match canon (a.data.toList.drop 8) with | some v => if inR v 0 32 = true then some v else none | none => none := by
      unfold headOf
      rw [if_pos hpre]
    cases hc : canon (a.data.toList.drop 8) with
    | none =>
      rw [hc] at hh hread
      refine ⟨([], 1, 9), by simp, toSpec _ ?_, toImpl _ ?_⟩
      · simp only [hh, Option.isSome_none, Bool.false_eq_true, if_false]
        exact Ev.now _
      · simp only [hcp, hread, Option.bind_some, res, Bool.false_eq_true, if_false, if_true]
        exact bad
    | some v =>
      rw [hc] at hh hread
      simp only at hh
      by_cases hin : inR v 0 32 = true
      · rw [if_pos hin] at hh
        have hnv := hn2 v hh
        subst hnv
        unfold inR at hin
        rw [Bool.and_eq_true, decide_eq_true_eq, decide_eq_true_eq] at hin
        obtain ⟨r, hr, f1, f2⟩ := tail_ev a x2 (by omega) hx2 n hin.2 x2.length 0 [] (by omega) rfl
        refine ⟨r, hr, toSpec _ ?_, toImpl _ ?_⟩
        · simp only [hh, Option.isSome_some, if_true]
          simpa using f1
        · have hw : impl_within.f n 0 32 = some true := by rw [within_eq]; unfold inR; rw [decide_eq_true hin.1, decide_eq_true hin.2]; rfl
          simp only [hcp, hread, Option.bind_some, res, if_true, hw, Bool.not_true]
          refine Ev.step (fun k => impl_LoadBlocks.j0.eq_2 _ _ _ k) ?_
          simp only [Bool.false_eq_true, if_false, if_pos (show (1 : Int) ≤ ((a :: x2).length : Int) by rw [List.length_cons]; omega), Option.bind_some]
          have hdrop : (a :: x2).drop (1 : Int).toNat = x2 := rfl
          rw [hdrop]
          exact f2
      · rw [if_neg hin] at hh
        have hin' : inR v 0 32 = false := by simpa using hin
        refine ⟨([], 1, 9), by simp, toSpec _ ?_, toImpl _ ?_⟩
        · simp only [hh, Option.isSome_none, Bool.false_eq_true, if_false]
          exact Ev.now _
        · have hw : impl_within.f v 0 32 = some false := by rw [within_eq, hin']
          simp only [hcp, hread, Option.bind_some, res, if_true, hw, Bool.not_false]
          exact bad' v
  · have hpre' : (arch ++ [32]).isPrefixOf a.data.toList = false := Bool.eq_false_iff.2 hpre
    rw [if_neg hpre] at hcp
    have hread := read_eq a ha
    have hh : headOf a.data.toList = none := by
      unfold headOf
      rw [if_neg hpre]
    refine ⟨([], 1, 9), by simp, toSpec _ ?_, toImpl _ ?_⟩
    · simp only [hh, Option.isSome_none, Bool.false_eq_true, if_false]
      exact Ev.now _
    · simp only [hcp, hread, Option.bind_some, Bool.false_eq_true, if_false]
      exact bad' _
theorem pure : laws_FnExactLoadBlocks.Pure := by
  intro s hq
  apply EvP.rounds
  unfold laws_FnExactLoadBlocks.f
  by_cases hw1 : (s.size : Int) > 1048576
  · simp only [if_pos hw1]
    exact EvP.now rfl
  simp only [if_neg hw1]
  obtain ⟨r, hr, e1, e2⟩ := both_ev s (by omega)
  have hei := eqBlockS_ev r.1 (by omega)
  obtain ⟨y, hy1, hy2, hy3⟩ := markBlockS_ev r.1 1 (by omega) (by omega)
  refine EvP.bind e1 (EvP.bind e2 (EvP.bind hei ?_))
  simp only [if_true, bne_self_eq_false]
  refine EvP.step (fun k => laws_FnExactLoadBlocks.j0.eq_2 _ _ _ _ _ _ k) ?_
  simp only [Bool.false_eq_true, if_false]
  refine EvP.bind hy1 (EvP.bind hy2 ?_)
  simp only [if_neg (show ¬ (1 + 3 * (r.1.length : Int) < 0) by omega), if_true]
  refine EvP.bind e2 (EvP.bind hei ?_)
  simp only [if_true, bne_self_eq_false]
  refine EvP.step (fun k => laws_FnExactLoadBlocks.j1.eq_2 _ _ _ k) ?_
  simp only [Bool.false_eq_true, if_false]
  refine EvP.bind hy2 ?_
  simp only [if_neg (show ¬ (1 + 3 * (r.1.length : Int) < 0) by omega), if_true]
  exact EvP.now rfl
end Go.Proofs.YtkllogmpaaeokaaGreatDoor.PureFnExactLoadBlocks
end

section
namespace Go.Proofs.YtkllogmpaaeokaaGreatDoor.LaidKit
open Go Go.RowKit
theorem returns_laid_shaped {H : Type} {enc : TypeId × Value → H} {a : Assume} {C : Checked} {os : Os} {f : FuncId} {fn : Func} {s : ChangeSpec} {conds : List PathCond} {apart fresh handsOn again : Bool} {X : World → Array Value → Prop}
    (hX : ∀ (w w' : World) (args : Array Value), w.heap = w'.heap → X w args → X w' args)
    (own : ownKnob C.prog.godebug = none) (started : os.Started) (noInit : C.prog.inits.idxOf? f = none) (hfn : C.prog.funcs[f]? = some fn)
    (witness : ∃ (w : World) (tape : Tape) (i : Input), w.os = os ∧ (w.forCall tape i).Shaped C.prog ∧ i.vars = [] ∧ Input.okWide C.prog (w.forCall tape i) .any w.heap.size f i ∧
      ((s.pre enc C.prog fn conds apart (w.forCall tape i).memory i.args ∧ X (w.forCall tape i).memory i.args) ∧ sizedMet enc C.prog fn (OpenSpec.ofChange s) apart (w.forCall tape i).memory i.args) ∧ a.holds C.prog (lone (Frame.enter C.prog f i.args .normal) [] (w.forCall tape i)))
    (contract : ∀ (W : World) (base : Nat) (args : Array Value) (ds gs : List (DataW H)) (before : List MemPlace),
      (∀ (j : Nat) t v, fn.params[j]? = some t → args[j]? = some v → Value.okWide C.prog W .any base t v) →
      DataW.Whole enc C.prog fn.params.toList s.vars apart W args.toList ds gs before →
      conds.all (PathCond.test C.prog ⟨fn.params.toList, ds, s.plain.varTypes C.prog, gs⟩) = true →
      (DataW.weightsEach C.prog (fn.params.toList ++ s.plain.varTypes C.prog) (ds ++ gs)).all (· ≤ reachBytes) = true → X W args →
      W.ShapedOpen C.prog →
      a.holds C.prog (lone (Frame.enter C.prog f args .normal) [] W) →
      Calls C.prog f args W fun e W' => ∃ v, e = .returned v ∧ s.post enc C.prog fn apart fresh handsOn again W args v W') :
    ReturnsInHanded a C os f .any (fun w args => (s.pre enc C.prog fn conds apart w args ∧ X w args) ∧ sizedMet enc C.prog fn (OpenSpec.ofChange s) apart w args) (s.post enc C.prog fn apart fresh handsOn again) := by
  refine returnsInHanded_of_calls own started noInit witness ?_
  intro w tape i _ hsh _ hok hpre hholds
  obtain ⟨_, _, _, fn', hfn', _, _, _, _, hval⟩ := hok
  have e : fn' = fn := Option.some.inj (hfn'.symm.trans hfn)
  subst e
  obtain ⟨⟨⟨ds, gs, before, hw, hc⟩, hx⟩, hz⟩ := hpre
  have hw' := DataW.Whole.of_heap (w' := w.forCall tape i) (by rfl) hw
  refine (contract (w.forCall tape i) w.heap.size i.args ds gs before hval hw' hc (hz.weights hw) (hX _ _ _ (by rfl) hx) hsh hholds).mono fun e W' ⟨v, he, hp⟩ => ?_
  subst he
  exact ChangeSpec.post_blind hp
theorem laidMet_from {P : Program} {l : List (String × DataW Unit)} {x : String × DataW Unit} {r : List (String × DataW Unit)} {w : World} (h : laidMet P (l ++ x :: r) w) : laidMet P (x :: r) w := by
  induction l with
  | nil => exact h
  | cons a l ih => exact ih h.tail
theorem star : "*" ++ "errors.errorString" = "*errors.errorString" := by decide
theorem rowErr (u : TypeId) (h : Tryz.prog.typeName? 3 u = some "*errors.errorString") : u = 148 :=
  typeName_ptr_named (nm := "errors.errorString") (by rw [star]; kernel_rfl) (by kernel_rfl) (by decide) u (by rw [star]; exact h)
theorem errVar {n : String} {text : List UInt8} {r : List (String × DataW Unit)} {w : World} {g : Nat} (h : laidMet Tryz.prog ((n, .iface "*errors.errorString" (.ptr (.agg [.lit (.string text)]))) :: r) w)
    (hg : Tryz.prog.globalNamed n = some g) (ht : (Tryz.prog.globals[g]?).map (·.type) = some 74) : ∃ tp p, w.var? Tryz.prog n = some #[.iface tp p] := by
  obtain ⟨a_, s_, hv_, -⟩ := laid_sentinel h hg ht Tryz.underlying74 rowErr Tryz.underlying148 Tryz.underlying150 rfl rfl Tryz.underlying9 (by kernel_rfl) (by kernel_rfl)
  exact ⟨_, _, hv_⟩
end Go.Proofs.YtkllogmpaaeokaaGreatDoor.LaidKit
end

section
namespace Go.Proofs.YtkllogmpaaeokaaGreatDoor.RowFnExactLoadBlocks
open Go.ChangeShapes Go.WideShapes Go.ChangeAt Go.RowKit Go.Proofs.YtkllogmpaaeokaaGreatDoorW.PrintWords Go.Proofs.YtkllogmpaaeokaaGreatDoor.XT Go.Proofs.YtkllogmpaaeokaaGreatDoor.Open
open Go.ChangeMaps (open_string shut_string)
set_option linter.unusedVariables false
theorem own : ownKnob Tryz.prog.godebug = none := by kernel_rfl
theorem laidOut : laidOutB Tryz.prog = true := by kernel_rfl
set_option maxRecDepth 100000 in
theorem lifted (os : Os) (started : os.Started) (H : Type) (enc : TypeId × Value → H) :
    ReturnsInHanded {} Tryz.checked os 3 .any (fun w args => (Rows.fnExactLoadBlocksSpec.pre enc Tryz.prog Tryz.f3 Rows.fnExactLoadBlocksRow.domain false w args ∧ laidMetH Tryz.prog Rows.fnExactLoadBlocksRow.laid w) ∧ sizedMet enc Tryz.prog Tryz.f3 (OpenSpec.ofChange Rows.fnExactLoadBlocksSpec) false w args) (Rows.fnExactLoadBlocksSpec.post enc Tryz.prog Tryz.f3 false true false false) := by
  refine LaidKit.returns_laid_shaped (C := Tryz.checked) (X := fun w _ => laidMetH Tryz.prog Rows.fnExactLoadBlocksRow.laid w) (fun _ _ _ hh h => h.of_heap hh) own started (by kernel_rfl) Tryz.func3
    (ChangeSpec.witness_shaped (enc := enc) (C := Tryz.checked) (os := os) (X := fun w _ => laidMetH Tryz.prog Rows.fnExactLoadBlocksRow.laid w) false (World.laidAll Tryz.prog os Rows.fnExactLoadBlocksRow.laid) #[(.string ⟨#[]⟩)] 8 (World.laidAll_os _ _ _)
      (World.shaped_of_ZipB (by kernel_rfl) (by kernel_rfl)) (by kernel_rfl) (by kernel_rfl) (by kernel_rfl)
      (by rw [MakeChecks.laidMetH_plain _ _ _ (by kernel_rfl)]; exact laidMet_laidAll _ (by kernel_rfl) (by kernel_rfl))) ?_
  intro W base args ds gs before hval0 hW hcnd hsz0 hLD hsh _
  have hsz : (DataW.weightsEach Tryz.prog (Tryz.f3.params.toList ++ Rows.fnExactLoadBlocksSpec.plain.varTypes Tryz.prog) (ds ++ gs)).all (· ≤ reachBytes) = true := hsz0
  have hval : ∀ (j : Nat) t v, Tryz.f3.params[j]? = some t → args[j]? = some v → Value.okWide Tryz.prog W .any base t v := hval0
  have hW' := hW
  obtain ⟨p, q, hA0, hV, rfl, hfz, hnd⟩ := hW
  have hA : DataW.TrodAll enc Tryz.prog W 0 (fun _ => true) true Tryz.f3.params.toList args.toList ds p := hA0
  rw [Tryz.params3] at hA hval hsz
  obtain ⟨v0, vs0, d0, ds0, p0, q0, hargs, rfl, rfl, h0, r0⟩ := trodAll_cons hA
  obtain ⟨rfl, rfl, rfl⟩ := trodAll_nil r0
  obtain rfl : args = #[v0] := by cases args; simp_all
  obtain ⟨rfl, rfl⟩ := trodVars_none hV
  obtain ⟨a0, rfl, rfl, rfl, y0⟩ := open_string Tryz.underlying9 (hval 0 9 v0 rfl rfl) h0
  have w0 : a0.size ≤ 140737488351232 := by
    have z := sized_string hsz (j := 0) (t := 9) rfl rfl
    rw [Array.length_toList] at z
    exact z
  have hst : ShT Tryz.prog W := ⟨hsh, by
    have h_ : laidMetH Tryz.prog Rows.fnExactLoadBlocksRow.laid W := hLD
    rw [MakeChecks.laidMetH_plain _ _ _ (by kernel_rfl)] at h_
    have e_ : Rows.fnExactLoadBlocksRow.laid = Rows.fnExactLoadBlocksRow.laid.take 2 ++ ("internal/strconv.uint64pow10", Lib.tabData .u64 Lib.pow10Tab) :: Rows.fnExactLoadBlocksRow.laid.drop 3 := by kernel_rfl
    rw [e_] at h_
    exact Lib.tabIs_of_head (g := (Tryz.prog.globalNamed "internal/strconv.uint64pow10").getD 0) (t := ((Tryz.prog.globals[(Tryz.prog.globalNamed "internal/strconv.uint64pow10").getD 0]?).map (·.type)).getD 0) (e := 108) (n := 20) (by kernel_rfl) (by kernel_rfl) (by kernel_rfl) (by kernel_rfl) (by kernel_rfl) (by kernel_rfl) (LaidKit.laidMet_from h_), by
    have h_ : laidMetH Tryz.prog Rows.fnExactLoadBlocksRow.laid W := hLD
    rw [MakeChecks.laidMetH_plain _ _ _ (by kernel_rfl)] at h_
    have e_ : Rows.fnExactLoadBlocksRow.laid = Rows.fnExactLoadBlocksRow.laid.take 5 ++ ("strconv.ErrSyntax", .iface "*errors.errorString" (.ptr (.agg [.lit (.string [105, 110, 118, 97, 108, 105, 100, 32, 115, 121, 110, 116, 97, 120])]))) :: Rows.fnExactLoadBlocksRow.laid.drop 6 := by kernel_rfl
    rw [e_] at h_
    exact LaidKit.errVar (g := (Tryz.prog.globalNamed "strconv.ErrSyntax").getD 0) (LaidKit.laidMet_from h_) (by kernel_rfl) (by kernel_rfl), by
    have h_ : laidMetH Tryz.prog Rows.fnExactLoadBlocksRow.laid W := hLD
    rw [MakeChecks.laidMetH_plain _ _ _ (by kernel_rfl)] at h_
    have e_ : Rows.fnExactLoadBlocksRow.laid = Rows.fnExactLoadBlocksRow.laid.take 4 ++ ("strconv.ErrRange", .iface "*errors.errorString" (.ptr (.agg [.lit (.string [118, 97, 108, 117, 101, 32, 111, 117, 116, 32, 111, 102, 32, 114, 97, 110, 103, 101])]))) :: Rows.fnExactLoadBlocksRow.laid.drop 5 := by kernel_rfl
    rw [e_] at h_
    exact LaidKit.errVar (g := (Tryz.prog.globalNamed "strconv.ErrRange").getD 0) (LaidKit.laidMet_from h_) (by kernel_rfl) (by kernel_rfl)⟩
  obtain ⟨k, hp⟩ := PureFnExactLoadBlocks.pure a0 w0
  clear hA0 hval0 hsz0 hsz
  refine (laws_FnExactLoadBlocks.calls k a0 true W hst hp).mono fun e W' ⟨he, bel0⟩ => ?_
  have bel : Below W.heap.size W W' := bel0
  subst he
  exact ⟨_, rfl, _, _, _, [], _, [], hW', trodAll_mk1 (shut_bool Tryz.underlying4 _), (trodAll_cons_mk (shut_string Tryz.underlying9 y0) trodAll_mk0), rfl, bel.frame _, fun h => by cases h⟩
theorem over : Rows.fnExactLoadBlocksRow.holds Tryz.pinned (OpenSpec.ofChange Rows.fnExactLoadBlocksSpec) :=
  OpenClaim.holds_of_wide 3 Tryz.f3 rfl rfl rfl rfl rfl rfl rfl ⟨rfl, rfl, rfl, rfl, rfl⟩ rfl rfl rfl rfl rfl (by kernel_rfl) Tryz.func3 (by kernel_rfl)
    (of_decide_eq_true (by kernel_rfl)) (by unfold Func.isWrapper; first | (rw [if_pos (by decide +kernel)]; kernel_rfl) | (rw [if_neg (by decide +kernel)]; exact ⟨rfl, rfl⟩))
    (fun os started H enc _ => lifted os started H enc)
end Go.Proofs.YtkllogmpaaeokaaGreatDoor.RowFnExactLoadBlocks
namespace Go.Proofs.YtkllogmpaaeokaaGreatDoor
theorem fnExactLoadBlocks_holds : Rows.FnExactLoadBlocksSaid := RowFnExactLoadBlocks.over
theorem fnExactLoadBlocks_card_holds : Rows.FnExactLoadBlocksCardSaid :=
  Claim7.holds_tied_plain_at .later [] [.data, .data, .data, .data, .sentinel, .sentinel, .pinned] true (true, "b9c2c2653cfd89249de2b808311f88eb6f51bd99b42ffb9acf98bd4b0c730774") true fnExactLoadBlocks_holds (fun _ h => by cases h) (by kernel_rfl) (fun _ h => by cases h) fnExactLoadBlocks_row_tie rfl ⟨rfl, rfl⟩ (by kernel_rfl) rfl
    (fun f fn hf hfn => by
      obtain rfl : f = 3 := Option.some.inj ((show Tryz.prog.funcNamed "loop.example/g01011/laws.FnExactLoadBlocks" = some 3 by kernel_rfl).symm.trans hf) |>.symm
      obtain rfl : fn = Tryz.f3 := (Option.some.inj (Tryz.func3.symm.trans hfn)).symm
      exact ⟨by kernel_rfl, fun j t ht => by
        rw [Tryz.params3] at ht
        have hm : t ∈ [9] := by simpa using Array.mem_of_getElem? ht
        have hall : ([9].all fun u => !Tryz.prog.wantsStandIn u) = true := by kernel_rfl
        exact (show Tryz.prog.wantsStandIn t = false by simpa using List.all_eq_true.1 hall t hm)⟩)
    (by kernel_rfl)
end Go.Proofs.YtkllogmpaaeokaaGreatDoor
end
