/- Pipes: what the program's and the reference's tests and quotients come to. -/
import Derived.Test.YtdphbanfheejoaaXB3
import Derived.Test.YtdphbanfheejoaaXB4
import Derived.Test.YtdphbanfheejoaaXB7
import Derived.Test.YtdphbanfheejoaaXB8
import Derived.Test.YtdphbanfheejoaaXB9
import Derived.Test.YtdphbanfheejoaaXB10
import Derived.Test.YtdphbanfheejoaaPBasics
namespace Go.Proofs.Ytdphbanfheejoaa.PPipes
open Go.RowKit Go.Proofs.YtdphbanfheejoaaW.PrintWords Go.Proofs.YtdphbanfheejoaaW.PrintMore Go.Proofs.Ytdphbanfheejoaa.XB Go.Proofs.Ytdphbanfheejoaa.EvK Go.Proofs.Ytdphbanfheejoaa.PBasics
set_option linter.unusedVariables false
set_option linter.unusedSimpArgs false

def pipeOk (s : ByteArray) (f t l d q : Int) : Bool := nameOk s && (inR f 0 15 && (inR t 0 15 && (!(decide (f = t)) && (inR l 1 10000 && (inR d 20 1000 && inR q 0 5000)))))

theorem node_eq (n : Int) : impl_nodeOk.f n = some (inR n 0 15) := by unfold impl_nodeOk.f; rw [within_eq]; rfl

theorem validPipe_ev (s : ByteArray) (f t l d q : Int) (h : s.size ≤ 1048576) : Ev (fun k => impl_ValidPipe.f k s f t l d q) (pipeOk s f t l d q) := by
  unfold impl_ValidPipe.f pipeOk
  refine Ev.bind (isName_ev s h) ?_
  simp only [node_eq, within_eq, Option.bind_some]
  cases nameOk s <;> simp only [Bool.false_eq_true, if_false, if_true, Bool.false_and, Bool.true_and]
  · exact Ev.now _
  cases inR f 0 15 <;> simp only [Bool.false_eq_true, if_false, if_true, Bool.false_and, Bool.true_and]
  · exact Ev.now _
  cases inR t 0 15 <;> simp only [Bool.false_eq_true, if_false, if_true, Bool.false_and, Bool.true_and]
  · exact Ev.now _
  by_cases hft : f = t
  · simp only [if_pos hft, hft, decide_true, Bool.not_true, Bool.false_and]; exact Ev.now _
  simp only [if_neg hft, hft, decide_false, Bool.not_false, Bool.true_and]
  cases inR l 1 10000 <;> simp only [Bool.false_eq_true, if_false, if_true, Bool.false_and, Bool.true_and]
  · exact Ev.now _
  cases inR d 20 1000 <;> simp only [Bool.false_eq_true, if_false, if_true, Bool.false_and, Bool.true_and]
  · exact Ev.now _
  exact Ev.now _

theorem l03Ok_ev (s : ByteArray) (f t l d q : Int) (h : s.size ≤ 1048576) : Ev (fun k => spec_l03Ok.f k s f t l d q) (pipeOk s f t l d q, s, f, t, l, d, q) := by
  unfold spec_l03Ok.f pipeOk
  have hj : ∀ b : Bool, Ev (fun k => spec_l03Ok.j0 k b s f t l d q) (!b && (inR l 1 10000 && (inR d 20 1000 && inR q 0 5000)), s, f, t, l, d, q) := by
    intro b
    refine Ev.step (fun k => spec_l03Ok.j0.eq_2 _ _ _ _ _ _ _ k) ?_
    simp only [in_eq, Option.bind_some]
    cases b <;> simp only [Bool.false_eq_true, if_false, if_true, Bool.false_and, Bool.true_and, Bool.not_false, Bool.not_true]
    · cases inR l 1 10000 <;> simp only [Bool.false_eq_true, if_false, if_true, Bool.false_and, Bool.true_and]
      · exact Ev.now _
      cases inR d 20 1000 <;> simp only [Bool.false_eq_true, if_false, if_true, Bool.false_and, Bool.true_and]
      · exact Ev.now _
      exact Ev.now _
    · exact Ev.now _
  refine Ev.bind (specName_ev s h) ?_
  simp only [in_eq, Option.bind_some]
  cases nameOk s <;> simp only [Bool.false_eq_true, if_false, if_true, Bool.false_and, Bool.true_and]
  · exact hj true
  cases inR f 0 15 <;> simp only [Bool.false_eq_true, if_false, if_true, Bool.false_and, Bool.true_and]
  · exact hj true
  cases inR t 0 15 <;> simp only [Bool.false_eq_true, if_false, if_true, Bool.false_and, Bool.true_and]
  · exact hj true
  exact hj (f == t)

/-- The nearest quotient of a number and a positive one, halves away from 0. -/
def dr (a b : Int) : Int := if 0 ≤ a then (2 * a + b) / (2 * b) else -((b - 2 * a) / (2 * b))

theorem ediv_is {x b k : Int} (hb : 0 < b) (h1 : b * k ≤ x) (h2 : x < b * k + b) : x / b = k := by
  have e : x = (x - b * k) + b * k := by omega
  rw [e, Int.add_mul_ediv_left _ _ (by omega), Int.ediv_eq_zero_of_lt (by omega) (by omega)]
  omega

theorem divRound_eq (a b : Int) (hb : 0 < b) (hb2 : b ≤ 1152921504606846976) (h1 : -1152921504606846976 ≤ a) (h2 : a ≤ 1152921504606846976) : impl_divRound.f a b = some (dr a b) := by
  have two : ∀ x : Int, 2 * b * x = 2 * (b * x) := fun x => Int.mul_assoc 2 b x
  unfold impl_divRound.f dr impl_abs.f
  rw [if_neg (show ¬ b = 0 by omega)]
  simp only [Option.bind_some]
  have eb : mx b (wrap64 (-b)) = b := by rw [w64 (by omega) (by omega)]; unfold mx; rw [if_neg (by omega)]
  rw [eb, decide_eq_false (show ¬ b < 0 by omega)]
  by_cases ha : 0 ≤ a
  · have hq := Int.tdiv_eq_ediv_of_nonneg (b := b) ha
    have hr := Int.tmod_eq_emod_of_nonneg (b := b) ha
    rw [hq, hr, if_pos ha, decide_eq_false (show ¬ a < 0 by omega)]
    have hr0 := Int.emod_nonneg a (show b ≠ 0 by omega)
    have hr1 := Int.emod_lt_of_pos a hb
    have he := Int.mul_ediv_add_emod a b
    have hq0 : 0 ≤ a / b := Int.ediv_nonneg ha (by omega)
    have hqa : a / b ≤ a := Int.ediv_le_self b ha
    generalize a / b = q at *
    generalize a % b = r at *
    have er : mx r (wrap64 (-r)) = r := by rw [w64 (by omega) (by omega)]; unfold mx; rw [if_neg (by omega)]
    rw [er, w64 (show -9223372036854775808 ≤ b - r by omega) (by omega), w64 (show -9223372036854775808 ≤ q by omega) (by omega)]
    by_cases hc : r ≥ b - r
    · rw [if_pos hc, if_pos (by rfl), w64 (by omega) (by omega)]
      congr 1
      have h2_ : b * (q + 1) = b * q + b := by rw [Int.mul_add, Int.mul_one]
      have := two (q + 1)
      rw [h2_] at this
      exact (ediv_is (by omega) (by omega) (by omega)).symm
    · rw [if_neg hc]
      congr 1
      have := two q
      exact (ediv_is (by omega) (by omega) (by omega)).symm
  · obtain ⟨n, hn⟩ : ∃ n, a = -n := ⟨-a, by omega⟩
    subst hn
    have hn0 : 0 ≤ n := by omega
    have hq : Int.tdiv (-n) b = -(n / b) := by rw [Int.neg_tdiv, Int.tdiv_eq_ediv_of_nonneg hn0]
    have hr : Int.tmod (-n) b = -(n % b) := by rw [Int.neg_tmod, Int.tmod_eq_emod_of_nonneg hn0]
    rw [hq, hr, if_neg ha, decide_eq_true (show -n < 0 by omega)]
    have hr0 := Int.emod_nonneg n (show b ≠ 0 by omega)
    have hr1 := Int.emod_lt_of_pos n hb
    have he := Int.mul_ediv_add_emod n b
    have hq0 : 0 ≤ n / b := Int.ediv_nonneg hn0 (by omega)
    have hqa : n / b ≤ n := Int.ediv_le_self b hn0
    generalize n / b = q at *
    generalize n % b = r at *
    have er : mx (-r) (wrap64 (-(-r))) = r := by rw [w64 (by omega) (by omega)]; unfold mx; split <;> omega
    rw [er, w64 (show -9223372036854775808 ≤ b - r by omega) (by omega), w64 (show -9223372036854775808 ≤ -q by omega) (by omega)]
    by_cases hc : r ≥ b - r
    · rw [if_pos hc, if_neg (by decide), w64 (by omega) (by omega)]
      congr 1
      have h2_ : b * (q + 1) = b * q + b := by rw [Int.mul_add, Int.mul_one]
      have := two (q + 1)
      rw [h2_] at this
      rw [ediv_is (k := q + 1) (b := 2 * b) (by omega) (by omega) (by omega)]
      omega
    · rw [if_neg hc]
      congr 1
      have := two q
      rw [ediv_is (k := q) (b := 2 * b) (by omega) (by omega) (by omega)]

theorem div_eq (a b : Int) (hb : 0 < b) (hb2 : b ≤ 1152921504606846976) (h1 : -1152921504606846976 ≤ a) (h2 : a ≤ 1152921504606846976) : spec_l01Div.f a b = some (dr a b) := by
  unfold spec_l01Div.f dr
  rw [if_neg (show ¬ b < 0 by omega)]
  by_cases ha : 0 ≤ a
  · rw [if_neg (show ¬ a < 0 by omega), if_pos ha, w64 (show -9223372036854775808 ≤ 2 * b by omega) (by omega), if_neg (show ¬ 2 * b = 0 by omega), w64 (show -9223372036854775808 ≤ 2 * a by omega) (by omega), w64 (show -9223372036854775808 ≤ 2 * a + b by omega) (by omega), Int.tdiv_eq_ediv_of_nonneg (by omega)]
    have h0 : 0 ≤ (2 * a + b) / (2 * b) := Int.ediv_nonneg (by omega) (by omega)
    have h3 : (2 * a + b) / (2 * b) ≤ 2 * a + b := Int.ediv_le_self _ (by omega)
    rw [w64 (by omega) (by omega)]
  · rw [if_pos (show a < 0 by omega), if_neg ha, w64 (show -9223372036854775808 ≤ 2 * b by omega) (by omega), if_neg (show ¬ 2 * b = 0 by omega), w64 (show -9223372036854775808 ≤ 2 * a by omega) (by omega), w64 (show -9223372036854775808 ≤ b - 2 * a by omega) (by omega), Int.tdiv_eq_ediv_of_nonneg (by omega)]
    have h0 : 0 ≤ (b - 2 * a) / (2 * b) := Int.ediv_nonneg (by omega) (by omega)
    have h3 : (b - 2 * a) / (2 * b) ≤ b - 2 * a := Int.ediv_le_self _ (by omega)
    rw [w64 (show -9223372036854775808 ≤ (b - 2 * a) / (2 * b) by omega) (by omega), w64 (by omega) (by omega)]

theorem inR_iff {n a b : Int} : inR n a b = true ↔ a ≤ n ∧ n ≤ b := by unfold inR; simp

theorem ok_bounds {s : ByteArray} {f t l d q : Int} (h : pipeOk s f t l d q = true) : (1 ≤ l ∧ l ≤ 10000) ∧ (20 ≤ d ∧ d ≤ 1000) ∧ (0 ≤ q ∧ q ≤ 5000) := by
  unfold pipeOk at h
  simp only [Bool.and_eq_true, inR_iff] at h
  exact ⟨h.2.2.2.2.1, h.2.2.2.2.2.1, h.2.2.2.2.2.2⟩

/-- What both divide for the water of a valid pipe. -/
theorem water_bounds {l d : Int} (hl : 1 ≤ l ∧ l ≤ 10000) (hd : 20 ≤ d ∧ d ≤ 1000) : wrap64 ((wrap64 ((wrap64 (l * d)) * d)) * 7854) = l * d * d * 7854 ∧ 0 ≤ l * d * d * 7854 ∧ l * d * d * 7854 ≤ 78540000000000 := by
  have h1 : l * d ≤ 10000 * d := Int.mul_le_mul_of_nonneg_right hl.2 (by omega)
  have h0 : 0 ≤ l * d := Int.mul_nonneg (by omega) (by omega)
  have h2 : l * d * d ≤ 10000000 * d := Int.mul_le_mul_of_nonneg_right (by omega) (by omega)
  have h3 : 0 ≤ l * d * d := Int.mul_nonneg h0 (by omega)
  refine ⟨?_, by omega, by omega⟩
  rw [w64 (show -9223372036854775808 ≤ l * d by omega) (by omega), w64 (show -9223372036854775808 ≤ l * d * d by omega) (by omega), w64 (by omega) (by omega)]

def waterOf (l d : Int) : Int := dr (l * d * d * 7854) 10000

theorem water_eq {s : ByteArray} {f t l d q : Int} (h : pipeOk s f t l d q = true) : impl_Pipe_water.f s f t l d q = some (waterOf l d) := by
  obtain ⟨hl, hd, _⟩ := ok_bounds h
  obtain ⟨e, h0, h1⟩ := water_bounds hl hd
  unfold impl_Pipe_water.f waterOf
  rw [e, divRound_eq _ _ (by omega) (by omega) (by omega) (by omega)]
  rfl
theorem l03Water_eq {s : ByteArray} {f t l d q : Int} (h : pipeOk s f t l d q = true) : spec_l03Water.f s f t l d q = some (waterOf l d, s, f, t, l, d, q) := by
  obtain ⟨hl, hd, _⟩ := ok_bounds h
  obtain ⟨e, h0, h1⟩ := water_bounds hl hd
  unfold spec_l03Water.f waterOf
  rw [e, div_eq _ _ (by omega) (by omega) (by omega) (by omega)]
  rfl
end Go.Proofs.Ytdphbanfheejoaa.PPipes
