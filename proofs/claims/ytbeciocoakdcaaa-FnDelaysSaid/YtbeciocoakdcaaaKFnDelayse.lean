/- The law FnDelays: part 4 of its texts, joined (wip/pack.py). -/
import Derived.Test.YtbeciocoakdcaaaKFnDelaysa
import Derived.Test.YtbeciocoakdcaaaKFnDelaysb
import Derived.Test.YtbeciocoakdcaaaKFnDelaysc
import Derived.Test.YtbeciocoakdcaaaKFnDelaysd
import Derived.DataShut
import Derived.Test.YtbeciocoakdcaaaRows
import Derived.WalkKit
import Derived.ProofKit
import Derived.OpenShut
import Derived.ShutString
import Derived.ChangeOld
import Derived.Below
import Derived.SizedLaws

section
namespace Go.Proofs.Ytbeciocoakdcaaa.PureFnDelays
open Go.RowKit Go.Proofs.YtbeciocoakdcaaaW.PrintWords Go.Proofs.YtbeciocoakdcaaaW.PrintMore Go.Proofs.Ytbeciocoakdcaaa.XD Go.Proofs.Ytbeciocoakdcaaa.EvK Go.Proofs.Ytbeciocoakdcaaa.PBasics Go.Proofs.Ytbeciocoakdcaaa.PPipes Go.Proofs.Ytbeciocoakdcaaa.PSrc
set_option linter.unusedVariables false
set_option linter.unusedSimpArgs false
theorem bytes_of {c : List Int} (h : ∀ y ∈ c, (Lit.int .u8 y).wf = true) : Bytes c := by
  intro x hx
  have := (Lit.wf_int_iff .u8 x).1 (h x hx)
  have e1 : IntKind.u8.min = 0 := by decide
  have e2 : IntKind.u8.max = 255 := by decide
  rw [e1, e2] at this
  exact this
theorem at_eq (c : List Int) (hc : Bytes c) (hl : c.length ≤ 1048576) (j : Int) (hj : 0 ≤ j) : ∃ x, laws_r8At.f c j 256 = some x ∧ 0 ≤ x ∧ x ≤ 255 := by
  unfold laws_r8At.f
  rw [if_neg (by omega)]
  by_cases h : j ≥ (c.length : Int)
  · rw [if_pos h]
    exact ⟨0, rfl, by omega, by omega⟩
  · rw [if_neg h, if_pos hj, if_pos (by omega), if_neg (by omega)]
    have hm := rd_mem c j hj (by omega)
    have hb := hc _ hm
    refine ⟨_, rfl, ?_⟩
    rw [w64 (by omega) (by omega), Int.tmod_eq_emod_of_nonneg hb.1]
    omega
theorem wide_eq (c : List Int) (hc : Bytes c) (hl : c.length ≤ 1048576) (j n : Int) (hj : 0 ≤ j) (hj2 : j ≤ 1000) (hn : 1 ≤ n) : ∃ x, laws_r8Wide.f c j n = some x ∧ 0 ≤ x ∧ x < n := by
  obtain ⟨x, hx, x0, x1⟩ := at_eq c hc hl j hj
  obtain ⟨y, hy, y0, y1⟩ := at_eq c hc hl (j + 1) (by omega)
  unfold laws_r8Wide.f
  rw [hx, w64 (show -9223372036854775808 ≤ j + 1 by omega) (by omega), hy]
  simp only [Option.bind_some, if_neg (show ¬ n = 0 by omega)]
  refine ⟨_, rfl, ?_⟩
  rw [w64 (show -9223372036854775808 ≤ 256 * x by omega) (by omega), w64 (show -9223372036854775808 ≤ 256 * x + y by omega) (by omega), Int.tmod_eq_emod_of_nonneg (by omega)]
  exact ⟨Int.emod_nonneg _ (by omega), Int.emod_lt_of_pos _ (by omega)⟩
theorem dr_nonneg {a b : Int} (ha : 0 ≤ a) (hb : 0 < b) : 0 ≤ dr a b := by
  unfold dr
  rw [if_pos ha]
  exact Int.ediv_nonneg (by omega) (by omega)
theorem dr_le {a b : Int} (ha : 0 ≤ a) (hb : 1 ≤ b) : dr a b ≤ a + 1 := by
  unfold dr
  rw [if_pos ha]
  have h1 : (2 * a + b) / (2 * b) < a + 2 := Int.ediv_lt_of_lt_mul (by omega) (by
    have : (a + 2) * (2 * b) = 2 * (a * b) + 4 * b := by rw [Int.add_mul, Int.mul_left_comm, show (2 : Int) * (2 * b) = 4 * b by omega]
    have h2 : a * 1 ≤ a * b := Int.mul_le_mul_of_nonneg_left hb ha
    omega)
  omega
theorem dr_neg {a b : Int} (ha : 0 ≤ a) (hb : 0 < b) : dr (-a) b = -dr a b := by
  unfold dr
  by_cases h0 : a = 0
  · subst h0
    rw [if_pos (by omega), if_pos (by omega)]
    have : (2 * (0 : Int) + b) / (2 * b) = 0 := Int.ediv_eq_zero_of_lt (by omega) (by omega)
    rw [show (2 * (-0 : Int) + b) = 2 * 0 + b by omega, this]
    rfl
  · rw [if_neg (by omega), if_pos ha]
    rw [show b - 2 * -a = 2 * a + b by omega]
theorem dr_zero {b : Int} (hb : 0 < b) : dr 0 b = 0 := by
  unfold dr
  rw [if_pos (by omega)]
  exact Int.ediv_eq_zero_of_lt (by omega) (by omega)
theorem dr_half {a b : Int} (ha : 0 ≤ a) (hb : 0 < b) : dr a (2 * b) ≤ dr a b := by
  unfold dr
  rw [if_pos ha, if_pos ha]
  have e : (2 * a + 2 * b) / (2 * (2 * b)) = (a + b) / (2 * b) := by
    rw [show 2 * a + 2 * b = 2 * (a + b) by omega]
    exact Int.mul_ediv_mul_of_pos _ _ (by omega)
  rw [e]
  exact Int.ediv_le_ediv (by omega) (by omega)
theorem mx_ge (a b : Int) : a ≤ mx a b ∧ b ≤ mx a b ∧ (mx a b = a ∨ mx a b = b) := by
  unfold mx
  split <;> omega
theorem abs_q {q : Int} (h0 : 0 ≤ q) (h1 : q ≤ 100000) : impl_abs.f q = some q ∧ impl_abs.f (-q) = some q := by
  unfold impl_abs.f mx
  constructor
  · rw [w64 (by omega) (by omega)]
    split
    · congr 1; omega
    · rfl
  · rw [w64 (by omega) (by omega)]
    split
    · congr 1; omega
    · congr 1; omega
structure Drawn (L D Q : Int) : Prop where
  l0 : 20 ≤ L
  l1 : L ≤ 919
  d0 : 60 ≤ D
  d1 : D ≤ 440
  q0 : 100 ≤ Q
  q1 : Q ≤ 699
abbrev nm : ByteArray := ⟨#[109, 97, 105, 110]⟩
theorem ok_drawn {L D Q : Int} (h : Drawn L D Q) : pipeOk nm 0 1 L D Q = true := by
  obtain ⟨l0, l1, d0, d1, q0, q1⟩ := h
  unfold pipeOk
  have e1 : nameOk nm = true := by decide
  have e2 : inR 0 0 15 = true := by decide
  have e3 : inR 1 0 15 = true := by decide
  have e4 : inR L 1 10000 = true := inR_iff.2 ⟨by omega, by omega⟩
  have e5 : inR D 20 1000 = true := inR_iff.2 ⟨by omega, by omega⟩
  have e6 : inR Q 0 5000 = true := inR_iff.2 ⟨by omega, by omega⟩
  rw [e1, e2, e3, e4, e5, e6]
  rfl
theorem pipe_eq (c : List Int) (hc : Bytes c) : ∃ L D Q, Drawn L D Q ∧ spec_R8Pipe.f c = some (nm, 0, 1, L, D, Q) := by
  unfold spec_R8Pipe.f spec_l00From.f spec_l03DrawOk.f
  obtain ⟨x, a1, s1, e1, x0, x1, g1⟩ := pick_eq hc 0 0 900 (by omega) (by omega)
  obtain ⟨g1a, g1b⟩ := g1
  obtain ⟨y, a2, s2, e2, y0, y1, g2⟩ := pick_eq hc a1 s1 20 (by omega) (by omega)
  obtain ⟨g2a, g2b⟩ := g2
  obtain ⟨z, a3, s3, e3, z0, z1, g3⟩ := pick_eq hc a2 s2 600 (by omega) (by omega)
  have hx := x1 (by omega)
  have hy := y1 (by omega)
  have hz := z1 (by omega)
  simp only [Option.bind_some, e1, e2, e3]
  refine ⟨_, _, _, ?_, rfl⟩
  rw [w64 (show -9223372036854775808 ≤ 20 + x by omega) (by omega), w64 (show -9223372036854775808 ≤ 20 * y by omega) (by omega), w64 (show -9223372036854775808 ≤ 60 + 20 * y by omega) (by omega), w64 (show -9223372036854775808 ≤ 100 + z by omega) (by omega)]
  exact ⟨by omega, by omega, by omega, by omega, by omega, by omega⟩
theorem code_ev {L D Q : Int} (h : Drawn L D Q) (q : Int) (l : List Int) (h0 : -100000 ≤ q) (h1 : q ≤ 100000) (hl : ∀ x ∈ l, -5000 ≤ x ∧ x ≤ 20000) : Ev (fun k => impl_Pipe_code.f k nm 0 1 L D Q q l) 0 := by
  unfold impl_Pipe_code.f impl_flowOk.f impl_allWithin.f
  have hv := validPipe_ev nm 0 1 L D Q (by decide)
  rw [ok_drawn h] at hv
  refine Ev.bind hv ?_
  have e1 : inR q (-100000) 100000 = true := inR_iff.2 ⟨h0, h1⟩
  have e2 : l.all (impl_allWithin.ok (-5000) 20000) = true := by
    rw [List.all_eq_true]
    intro x hx
    exact impl_allWithin.ok_t (hl x hx).1 (hl x hx).2
  simp only [if_true, within_eq, e1, Option.bind_some, e2]
  exact Ev.now _
theorem prod_bounds {L Q x : Int} (l0 : 20 ≤ L) (l1 : L ≤ 919) (q0 : 100 ≤ Q) (q1 : Q ≤ 699) (x0 : 0 ≤ x) (x1 : x ≤ 12000) : 0 ≤ Q * L ∧ Q * L ≤ 642381 ∧ 0 ≤ Q * L * x ∧ Q * L * x ≤ 7708572000 := by
  have h1 : Q * L ≤ 699 * L := Int.mul_le_mul_of_nonneg_right q1 (by omega)
  have h0 : 0 ≤ Q * L := Int.mul_nonneg (by omega) (by omega)
  have h2 : 0 ≤ Q * L * x := Int.mul_nonneg h0 x0
  have h3 : Q * L * x ≤ 642381 * x := Int.mul_le_mul_of_nonneg_right (by omega) x0
  omega
theorem loss_eq {L D Q : Int} (h : Drawn L D Q) (a b : Int) (hab : b ≤ a) (hd : a - b ≤ 12000) (hb : 0 ≤ b) : ∃ s, 0 ≤ s ∧ s ≤ 77087 ∧ (a = b → s = 0) ∧ impl_Pipe_loss.f nm 0 1 L D Q a b = some s ∧ impl_Pipe_loss.f nm 0 1 L D Q b a = some (-s) := by
  obtain ⟨l0, l1, d0, d1, q0, q1⟩ := h
  obtain ⟨p0, p1, p2, p3⟩ := prod_bounds l0 l1 q0 q1 (show 0 ≤ a - b by omega) hd
  have hs := dr_nonneg p2 (show (0 : Int) < 100000 by omega)
  have hs2 : dr (Q * L * (a - b)) 100000 ≤ 77087 := by
    unfold dr
    rw [if_pos p2]
    omega
  refine ⟨dr (Q * L * (a - b)) 100000, hs, hs2, ?_, ?_, ?_⟩
  · rintro rfl
    rw [Int.sub_self, Int.mul_zero]
    exact dr_zero (by omega)
  · unfold impl_Pipe_loss.f
    rw [w64 (show -9223372036854775808 ≤ Q * L by omega) (by omega), w64 (show -9223372036854775808 ≤ a - b by omega) (by omega), w64 (show -9223372036854775808 ≤ Q * L * (a - b) by omega) (by omega), divRound_eq _ _ (by omega) (by omega) (by omega) (by omega)]
    rfl
  · unfold impl_Pipe_loss.f
    have e : Q * L * (b - a) = -(Q * L * (a - b)) := by rw [← Int.mul_neg]; congr 1; omega
    rw [w64 (show -9223372036854775808 ≤ Q * L by omega) (by omega), w64 (show -9223372036854775808 ≤ b - a by omega) (by omega), e, w64 (show -9223372036854775808 ≤ -(Q * L * (a - b)) by omega) (by omega), divRound_eq _ _ (by omega) (by omega) (by omega) (by omega), dr_neg p2 (by omega)]
    rfl
theorem end_eq {L D Q : Int} (h : Drawn L D Q) (q a b s : Int) (q0 : 1 ≤ q) (q1 : q ≤ 40000) (hab : b ≤ a) (ha : a ≤ 12000) (hb : 0 ≤ b) (s0 : 0 ≤ s) (s1 : s ≤ 77087) (hs : impl_Pipe_loss.f nm 0 1 L D Q a b = some s) :
    impl_Pipe_endTemperature.f nm 0 1 L D Q q a b = some (mx (a - dr (100000 * s) (4186 * q)) b) ∧ 0 ≤ dr (100000 * s) (4186 * q) := by
  have h1 := dr_nonneg (show 0 ≤ 100000 * s by omega) (show 0 < 4186 * q by omega)
  have h2 := dr_le (show 0 ≤ 100000 * s by omega) (show 1 ≤ 4186 * q by omega)
  refine ⟨?_, h1⟩
  unfold impl_Pipe_endTemperature.f
  rw [if_neg (by omega), hs, (abs_q (by omega) (by omega)).1]
  simp only [Option.bind_some]
  rw [w64 (show -9223372036854775808 ≤ 100000 * s by omega) (by omega), w64 (show -9223372036854775808 ≤ 4186 * q by omega) (by omega), divRound_eq _ _ (by omega) (by omega) (by omega) (by omega)]
  simp only [Option.bind_some, if_pos (show a ≥ b by omega)]
  rw [w64 (by omega) (by omega)]
theorem endT_ev {L D Q : Int} (h : Drawn L D Q) (q a b r : Int) (h0 : -100000 ≤ q) (h1 : q ≤ 100000) (ha0 : -5000 ≤ a) (ha1 : a ≤ 20000) (hb0 : -5000 ≤ b) (hb1 : b ≤ 20000) (e : impl_Pipe_endTemperature.f nm 0 1 L D Q q a b = some r) : Ev (fun k => impl_EndTemperature.f k nm 0 1 L D Q q a b) (r, 0) := by
  unfold impl_EndTemperature.f
  refine Ev.bind (code_ev h q [a, b] h0 h1 (by
    intro x hx
    simp only [List.mem_cons, List.not_mem_nil, or_false] at hx
    rcases hx with rfl | rfl
    · exact ⟨ha0, ha1⟩
    · exact ⟨hb0, hb1⟩)) ?_
  simp only [if_true, e, Option.bind_some]
  exact Ev.now _
theorem lossT_ev {L D Q : Int} (h : Drawn L D Q) (a b r : Int) (ha0 : -5000 ≤ a) (ha1 : a ≤ 20000) (hb0 : -5000 ≤ b) (hb1 : b ≤ 20000) (e : impl_Pipe_loss.f nm 0 1 L D Q a b = some r) : Ev (fun k => impl_LossOf.f k nm 0 1 L D Q a b) (r, 0) := by
  unfold impl_LossOf.f
  refine Ev.bind (code_ev h 0 [a, b] (by omega) (by omega) (by
    intro x hx
    simp only [List.mem_cons, List.not_mem_nil, or_false] at hx
    rcases hx with rfl | rfl
    · exact ⟨ha0, ha1⟩
    · exact ⟨hb0, hb1⟩)) ?_
  simp only [if_true, e, Option.bind_some]
  exact Ev.now _
theorem delay_ev {L D Q : Int} (h : Drawn L D Q) (q : Int) (q0 : 1 ≤ q) (q1 : q ≤ 20000) : ∃ W t : Int, 0 ≤ W ∧ W ≤ 140000000 ∧ 0 ≤ t ∧ t ≤ 150000000 ∧ W ≤ t * q ∧ (t - 1) * q < W ∧ Ev (fun k => impl_WaterIn.f k nm 0 1 L D Q) (W, 0) ∧ Ev (fun k => impl_DelayOf.f k nm 0 1 L D Q q) (t, 0) ∧ Ev (fun k => impl_DelayOf.f k nm 0 1 L D Q (-q)) (t, 0) := by
  have hok := ok_drawn h
  have hwat := water_eq hok
  obtain ⟨l0, l1, d0, d1, p0, p1⟩ := h
  have hw0 : 0 ≤ waterOf L D ∧ waterOf L D ≤ 140000000 := by
    have h1 : L * D ≤ 919 * D := Int.mul_le_mul_of_nonneg_right l1 (by omega)
    have h0 : 0 ≤ L * D := Int.mul_nonneg (by omega) (by omega)
    have h2 : L * D * D ≤ 404360 * D := Int.mul_le_mul_of_nonneg_right (by omega) (by omega)
    have h3 : 0 ≤ L * D * D := Int.mul_nonneg h0 (by omega)
    unfold waterOf dr
    rw [if_pos (by omega)]
    omega
  generalize waterOf L D = W at hwat hw0
  obtain ⟨w0, w1⟩ := hw0
  have hdiv := Int.mul_ediv_add_emod (W + q - 1) q
  have hm0 := Int.emod_nonneg (W + q - 1) (show q ≠ 0 by omega)
  have hm1 := Int.emod_lt_of_pos (W + q - 1) (show 0 < q by omega)
  have ht0 : 0 ≤ (W + q - 1) / q := Int.ediv_nonneg (by omega) (by omega)
  have ht1 : (W + q - 1) / q ≤ W + q - 1 := Int.ediv_le_self _ (by omega)
  have hdl : ∀ r, impl_abs.f r = some q → impl_Pipe_delay.f nm 0 1 L D Q r = some ((W + q - 1) / q) := by
    intro r hr
    unfold impl_Pipe_delay.f impl_divUp.f
    rw [hwat, hr]
    simp only [Option.bind_some, if_neg (show ¬ q = 0 by omega)]
    rw [w64 (show -9223372036854775808 ≤ W + q by omega) (by omega), w64 (show -9223372036854775808 ≤ W + q - 1 by omega) (by omega), Int.tdiv_eq_ediv_of_nonneg (by omega), w64 (by omega) (by omega)]
  have hd : ∀ r, r ≠ 0 → -100000 ≤ r → r ≤ 100000 → impl_abs.f r = some q → Ev (fun k => impl_DelayOf.f k nm 0 1 L D Q r) ((W + q - 1) / q, 0) := by
    intro r hr0 hr1 hr2 hr
    unfold impl_DelayOf.f
    refine Ev.bind (code_ev ⟨l0, l1, d0, d1, p0, p1⟩ r [] hr1 hr2 (by simp)) ?_
    simp only [if_true, if_neg hr0, hdl r hr, Option.bind_some]
    exact Ev.now _
  obtain ⟨ab1, ab2⟩ := abs_q (show 0 ≤ q by omega) (by omega)
  have e1 : ((W + q - 1) / q) * q = q * ((W + q - 1) / q) := Int.mul_comm _ _
  have e2 : ((W + q - 1) / q - 1) * q = q * ((W + q - 1) / q) - q := by rw [Int.sub_mul, Int.one_mul, Int.mul_comm]
  refine ⟨W, (W + q - 1) / q, w0, w1, ht0, by omega, by omega, by omega, ?_, hd q (by omega) (by omega) (by omega) ab1, hd (-q) (by omega) (by omega) (by omega) ab2⟩
  unfold impl_WaterIn.f
  have hv := validPipe_ev nm 0 1 L D Q (by decide)
  rw [hok] at hv
  refine Ev.bind hv ?_
  simp only [if_true, hwat, Option.bind_some]
  exact Ev.now _
theorem speed_ev {L D Q : Int} (h : Drawn L D Q) (q : Int) (q0 : 1 ≤ q) (q1 : q ≤ 20000) : ∃ v : Int, 0 ≤ v ∧ Ev (fun k => impl_SpeedOf.f k nm 0 1 L D Q q) (v, 0) := by
  have hcode := code_ev h q [] (by omega) (by omega) (by simp)
  obtain ⟨l0, l1, d0, d1, p0, p1⟩ := h
  have h1 : 7854 * D * D ≤ 3455760 * D := Int.mul_le_mul_of_nonneg_right (by omega) (by omega)
  have h2 : 471240 * D ≤ 7854 * D * D := Int.mul_le_mul_of_nonneg_right (by omega) (by omega)
  refine ⟨dr (1000000 * q) (7854 * D * D), dr_nonneg (by omega) (by omega), ?_⟩
  unfold impl_SpeedOf.f
  refine Ev.bind hcode ?_
  simp only [if_true]
  rw [w64 (show -9223372036854775808 ≤ 1000000 * q by omega) (by omega), w64 (show -9223372036854775808 ≤ 7854 * D by omega) (by omega), w64 (show -9223372036854775808 ≤ 7854 * D * D by omega) (by omega), divRound_eq _ _ (by omega) (by omega) (by omega) (by omega)]
  exact Ev.now _
theorem heat_eq (q a e : Int) (q0 : 1 ≤ q) (q1 : q ≤ 20000) (he : e ≤ a) (ha : a ≤ 12000) (he0 : 0 ≤ e) : ∃ v : Int, 0 ≤ v ∧ impl_HeatFlow.f q a e = some (v, 0) := by
  have h1 : 4186 * q * (a - e) ≤ 83720000 * (a - e) := Int.mul_le_mul_of_nonneg_right (by omega) (by omega)
  have h0 : 0 ≤ 4186 * q * (a - e) := Int.mul_nonneg (by omega) (by omega)
  refine ⟨dr (4186 * q * (a - e)) 100000, dr_nonneg h0 (by omega), ?_⟩
  unfold impl_HeatFlow.f impl_flowOk.f impl_degreesOk.f
  have e1 : inR q (-100000) 100000 = true := inR_iff.2 ⟨by omega, by omega⟩
  have e2 : inR a (-5000) 20000 = true := inR_iff.2 ⟨by omega, by omega⟩
  have e3 : inR e (-5000) 20000 = true := inR_iff.2 ⟨by omega, by omega⟩
  simp only [within_eq, e1, e2, e3, Option.bind_some, if_true]
  rw [w64 (show -9223372036854775808 ≤ 4186 * q by omega) (by omega), w64 (show -9223372036854775808 ≤ a - e by omega) (by omega), w64 (show -9223372036854775808 ≤ 4186 * q * (a - e) by omega) (by omega), divRound_eq _ _ (by omega) (by omega) (by omega) (by omega)]
  rfl
theorem pure : laws_FnDelays.Pure := by
  intro c d hc hd
  apply EvP.rounds
  unfold laws_FnDelays.f laws_r8Long.f
  by_cases c1 : (c.length : Int) > 1048576
  · simp only [if_pos c1, Option.bind_some, if_true]
    exact EvP.now rfl
  by_cases c2 : (d.length : Int) > 1048576
  · simp only [if_neg c1, decide_eq_true c2, Option.bind_some, if_true]
    exact EvP.now rfl
  simp only [if_neg c1, decide_eq_false c2, Option.bind_some, Bool.false_eq_true, if_false]
  obtain ⟨L, D, Q, hdr, hp⟩ := pipe_eq c (bytes_of hc.2)
  obtain ⟨x, hx, x0, x1⟩ := wide_eq d (bytes_of hd.2) (by omega) 0 20000 (by omega) (by omega) (by omega)
  obtain ⟨y, hy, y0, y1⟩ := wide_eq d (bytes_of hd.2) (by omega) 2 9000 (by omega) (by omega) (by omega)
  obtain ⟨z, hz, z0, z1⟩ := wide_eq d (bytes_of hd.2) (by omega) 4 2000 (by omega) (by omega) (by omega)
  have wq : wrap64 (1 + x) = 1 + x := w64 (by omega) (by omega)
  have wn : wrap64 (-(1 + x)) = -(1 + x) := w64 (by omega) (by omega)
  have ww : wrap64 (3000 + y) = 3000 + y := w64 (by omega) (by omega)
  have w2 : wrap64 (2 * (1 + x)) = 2 * (1 + x) := w64 (by omega) (by omega)
  simp only [hp, hx, hy, hz, Option.bind_some, wq, wn, ww, w2]
  obtain ⟨q, hq⟩ : ∃ q, q = 1 + x := ⟨_, rfl⟩
  obtain ⟨a, ha⟩ : ∃ a, a = 3000 + y := ⟨_, rfl⟩
  rw [← hq, ← ha]
  obtain ⟨W, t, W0, W1, t0, t1, tw, tw2, e1, e2, e3⟩ := delay_ev hdr q (by omega) (by omega)
  obtain ⟨v, v0, e4⟩ := speed_ev hdr q (by omega) (by omega)
  obtain ⟨s, s0, s1, _, l1, l2⟩ := loss_eq hdr a z (by omega) (by omega) (by omega)
  obtain ⟨s', _, _, sz, l3, _⟩ := loss_eq hdr z z (by omega) (by omega) (by omega)
  have hs' := sz rfl
  subst hs'
  obtain ⟨n1, r1⟩ := end_eq hdr q a z s (by omega) (by omega) (by omega) (by omega) (by omega) s0 s1 l1
  obtain ⟨n2, r2⟩ := end_eq hdr q z z 0 (by omega) (by omega) (by omega) (by omega) (by omega) (by omega) (by omega) l3
  obtain ⟨n3, r3⟩ := end_eq hdr (2 * q) a z s (by omega) (by omega) (by omega) (by omega) (by omega) s0 s1 l1
  have n4 : impl_Pipe_endTemperature.f nm 0 1 L D Q 0 a z = some z := by unfold impl_Pipe_endTemperature.f; rw [if_pos rfl]
  have hz2 : dr (100000 * 0) (4186 * q) = 0 := by rw [Int.mul_zero]; exact dr_zero (by omega)
  rw [hz2] at n2
  have hhalf : dr (100000 * s) (4186 * (2 * q)) ≤ dr (100000 * s) (4186 * q) := by
    rw [show 4186 * (2 * q) = 2 * (4186 * q) by omega]
    exact dr_half (by omega) (by omega)
  generalize dr (100000 * s) (4186 * q) = u1 at *
  generalize dr (100000 * s) (4186 * (2 * q)) = u3 at *
  have m1 := mx_ge (a - u1) z
  have m2 := mx_ge (z - 0) z
  have m3 := mx_ge (a - u3) z
  generalize mx (a - u1) z = E1 at *
  generalize mx (z - 0) z = E2 at *
  generalize mx (a - u3) z = E3 at *
  obtain ⟨h, h0, g5⟩ := heat_eq q a E1 (by omega) (by omega) (by omega) (by omega) (by omega)
  have f1 := lossT_ev hdr a z s (by omega) (by omega) (by omega) (by omega) l1
  have f2 := lossT_ev hdr z a (-s) (by omega) (by omega) (by omega) (by omega) l2
  have f3 := endT_ev hdr q a z E1 (by omega) (by omega) (by omega) (by omega) (by omega) (by omega) n1
  have f4 := endT_ev hdr q z z E2 (by omega) (by omega) (by omega) (by omega) (by omega) (by omega) n2
  have f5 := endT_ev hdr 0 a z z (by omega) (by omega) (by omega) (by omega) (by omega) (by omega) n4
  have f6 := endT_ev hdr (2 * q) a z E3 (by omega) (by omega) (by omega) (by omega) (by omega) (by omega) n3
  have htq : t * q ≤ 150000000 * q := Int.mul_le_mul_of_nonneg_right t1 (by omega)
  have htq0 : 0 ≤ t * q := Int.mul_nonneg t0 (by omega)
  have e5 : (t - 1) * q = t * q - q := by rw [Int.sub_mul, Int.one_mul]
  have wa : wrap64 (t * q) = t * q := w64 (by omega) (by omega)
  have wb : wrap64 (t - 1) = t - 1 := w64 (by omega) (by omega)
  have wc : wrap64 ((t - 1) * q) = (t - 1) * q := w64 (by omega) (by omega)
  have wd : wrap64 (-s) = -s := w64 (by omega) (by omega)
  refine EvP.bind e1 (EvP.bind e2 (EvP.bind e3 (EvP.bind e4 ?_)))
  simp only [if_true, wa, wb, wc, if_neg (show ¬ t * q < W by omega), if_neg (show ¬ (t - 1) * q ≥ W by omega), if_neg (show ¬ v < 0 by omega)]
  refine EvP.bind f1 (EvP.bind f2 (EvP.bind f3 (EvP.bind f4 (EvP.bind f5 (EvP.bind f6 ?_)))))
  have hE2 : E2 = z := by omega
  subst hE2
  simp only [g5, Option.bind_some, if_true, wd, if_neg (show ¬ s < 0 by omega), if_neg (show ¬ E1 > a by omega), if_neg (show ¬ E1 < E2 by omega), if_neg (show ¬ h < 0 by omega), if_pos (show E3 ≥ E1 by omega), decide_eq_true (show E3 ≤ a by omega)]
  exact EvP.now rfl
end Go.Proofs.Ytbeciocoakdcaaa.PureFnDelays
end

section
namespace Go.Proofs.Ytbeciocoakdcaaa.RowFnDelays
open Go.ChangeShapes Go.WideShapes Go.ChangeAt Go.RowKit Go.Proofs.YtbeciocoakdcaaaW.PrintWords Go.Proofs.Ytbeciocoakdcaaa.XD Go.Proofs.Ytbeciocoakdcaaa.Open
open Go.ChangeMaps (open_string shut_string)
set_option linter.unusedVariables false
theorem own : ownKnob Try.prog.godebug = none := by kernel_rfl
theorem laidOut : laidOutB Try.prog = true := by kernel_rfl
set_option maxRecDepth 100000 in
theorem lifted (os : Os) (started : os.Started) (H : Type) (enc : TypeId × Value → H) :
    ReturnsInHanded {} Try.checked os 3 .any (Rows.fnDelaysSpec.pre6 enc Try.prog Try.f3 Rows.fnDelaysRow.domain false) (Rows.fnDelaysSpec.post enc Try.prog Try.f3 false true false false) := by
  refine returnsInHanded_of_change_sized (C := Try.checked) own started (by kernel_rfl) Try.func3
    (ChangeSpec.witness6 (enc := enc) (C := Try.checked) false ⟨#[], #[(.slice none 0 0), (.slice none 0 0)], []⟩ 8 (by kernel_rfl) (by kernel_rfl) (by kernel_rfl) (by kernel_rfl)) ?_
  intro W base args ds gs before hval0 hW hcnd hsz0 _
  have hsz : (DataW.weightsEach Try.prog (Try.f3.params.toList ++ Rows.fnDelaysSpec.plain.varTypes Try.prog) (ds ++ gs)).all (· ≤ reachBytes) = true := hsz0
  have hval : ∀ (j : Nat) t v, Try.f3.params[j]? = some t → args[j]? = some v → Value.okWide Try.prog W .any base t v := hval0
  have hW' := hW
  obtain ⟨p, q, hA0, hV, rfl, hfz, hnd⟩ := hW
  have hA : DataW.TrodAll enc Try.prog W 0 (fun _ => true) true Try.f3.params.toList args.toList ds p := hA0
  rw [Try.params3] at hA hval hsz
  obtain ⟨v0, vs0, d0, ds0, p0, q0, hargs, rfl, rfl, h0, r0⟩ := trodAll_cons hA
  obtain ⟨v1, vs1, d1, ds1, p1, q1, rfl, rfl, rfl, h1, r1⟩ := trodAll_cons r0
  obtain ⟨rfl, rfl, rfl⟩ := trodAll_nil r1
  obtain rfl : args = #[v0, v1] := by cases args; simp_all
  obtain ⟨rfl, rfl⟩ := trodVars_none hV
  have kk0 := h0
  have lt0 : ∀ x ∈ p0, x.block < W.heap.size := by obtain ⟨m, hm⟩ := kk0; exact DataW.trod_lt m _ _ _ hm
  obtain ⟨A0, c0, a0, rfl, hc0, hr0, hq0⟩ := open_sl Try.underlying22 (by kernel_rfl) (Opens.int Try.underlying5 (by kernel_rfl)) (hval 0 22 v0 rfl rfl) h0
  have kk1 := h1
  have lt1 : ∀ x ∈ p1, x.block < W.heap.size := by obtain ⟨m, hm⟩ := kk1; exact DataW.trod_lt m _ _ _ hm
  obtain ⟨A1, c1, a1, rfl, hc1, hr1, hq1⟩ := open_sl Try.underlying22 (by kernel_rfl) (Opens.int Try.underlying5 (by kernel_rfl)) (hval 1 22 v1 rfl rfl) h1
  obtain ⟨k, hp⟩ := PureFnDelays.pure a0 a1 hq0 hq1
  clear hA0 hval0 hsz0 hsz
  refine (laws_FnDelays.calls k A0 c0 a0 A1 c1 a1 true W hr0 hc0 hr1 hc1 hp).mono fun e W' ⟨he, bel0⟩ => ?_
  have bel : Below W.heap.size W W' := bel0
  subst he
  exact ⟨_, rfl, _, _, _, [], _, [], hW', trodAll_mk1 (shut_bool Try.underlying4 _), (trodAll_cons_mk (Below.trod laidOut (by kernel_rfl) (of_decide_eq_true (by kernel_rfl)) kk0 bel lt0) (trodAll_cons_mk (Below.trod laidOut (by kernel_rfl) (of_decide_eq_true (by kernel_rfl)) kk1 bel lt1) trodAll_mk0)), rfl, bel.frame _, fun h => by cases h⟩
theorem over : Rows.fnDelaysRow.holds Try.pinned (OpenSpec.ofChange Rows.fnDelaysSpec) :=
  OpenClaim.holds_of_wide 3 Try.f3 rfl rfl rfl rfl rfl rfl rfl ⟨rfl, rfl, rfl, rfl, rfl⟩ rfl rfl rfl rfl rfl (by kernel_rfl) Try.func3 (by kernel_rfl)
    (of_decide_eq_true (by kernel_rfl)) (by unfold Func.isWrapper; first | (rw [if_pos (by decide +kernel)]; kernel_rfl) | (rw [if_neg (by decide +kernel)]; exact ⟨rfl, rfl⟩))
    (fun os started H enc _ => lifted os started H enc)
end Go.Proofs.Ytbeciocoakdcaaa.RowFnDelays
namespace Go.Proofs.Ytbeciocoakdcaaa
theorem fnDelays_holds : Rows.FnDelaysSaid := RowFnDelays.over
end Go.Proofs.Ytbeciocoakdcaaa
end
