/- The law FnExactPipeReport: part 11 of its texts, joined (wip/pack.py). -/
import Derived.Test.YtadaegehdcngdaaGreatDoorKFnExactPipeReporta
import Derived.Test.YtadaegehdcngdaaGreatDoorKFnExactPipeReportb
import Derived.Test.YtadaegehdcngdaaGreatDoorKFnExactPipeReportc
import Derived.Test.YtadaegehdcngdaaGreatDoorKFnExactPipeReportd
import Derived.Test.YtadaegehdcngdaaGreatDoorKFnExactPipeReporte
import Derived.Test.YtadaegehdcngdaaGreatDoorKFnExactPipeReportf
import Derived.Test.YtadaegehdcngdaaGreatDoorKFnExactPipeReportg
import Derived.Test.YtadaegehdcngdaaGreatDoorKFnExactPipeReporth
import Derived.Test.YtadaegehdcngdaaGreatDoorKFnExactPipeReporti
import Derived.Test.YtadaegehdcngdaaGreatDoorKFnExactPipeReportj
import Derived.Test.YtadaegehdcngdaaGreatDoorKFnExactPipeReportk
import Derived.Lib.ItoaLen
import Derived.Handed
import Derived.HandedShaped
import Derived.SizedLaws
import Derived.Stop.LaidErr
import Derived.Test.YtadaegehdcngdaaGreatDoorRows
import Derived.WalkKit
import Derived.ProofKit
import Derived.OpenShut
import Derived.ShutString
import Derived.ChangeOld
import Derived.Below
import Derived.Lib.LaidTab
import Derived.Lib.ItoaNum
import Derived.LaidMore
import Derived.Lay
import Derived.SevenTiedAt
import Derived.Stop.Joined
import Derived.Test.YtadaegehdcngdaaGreatDoorTie
import Derived.Test.YtadaegehdcngdaaGreatDoorCards

section
namespace Go.Proofs.YtadaegehdcngdaaGreatDoor.PPipe
open Go.RowKit Go.Proofs.YtadaegehdcngdaaGreatDoorW.PrintWords Go.Proofs.YtadaegehdcngdaaGreatDoorW.PrintMore Go.Proofs.YtadaegehdcngdaaGreatDoor.XV Go.Proofs.YtadaegehdcngdaaGreatDoor.EvK Go.Proofs.YtadaegehdcngdaaGreatDoor.PBasics Go.Proofs.YtadaegehdcngdaaGreatDoor.PNet Go.Proofs.YtadaegehdcngdaaGreatDoor.PTable Go.Proofs.YtadaegehdcngdaaGreatDoor.PDivR Go.Proofs.YtadaegehdcngdaaGreatDoor.PDecNeg Go.Proofs.YtadaegehdcngdaaGreatDoor.LinesV
set_option linter.unusedVariables false
set_option linter.unusedSimpArgs false
def ab (q : Int) : Int := mx q (wrap64 (-q))
theorem abI_eq (q : Int) : impl_abs.f q = some (ab q) := rfl
theorem abS_eq (q : Int) : spec_l03Abs.f q = some (ab q) := by
  unfold spec_l03Abs.f spec_l00Max.f ab mx
  by_cases h : q > wrap64 (-q)
  · rw [if_pos h, if_neg (show ¬ q < wrap64 (-q) by omega)]; rfl
  · rw [if_neg h]
    by_cases h2 : q < wrap64 (-q)
    · rw [if_pos h2]; rfl
    · rw [if_neg h2, show wrap64 (-q) = q by omega]; rfl
theorem ab_is {q : Int} (h : -9223372036854775807 ≤ q) (h' : q ≤ 9223372036854775807) : ab q = (q.natAbs : Int) := by
  unfold ab mx
  rw [w64 (by omega) (by omega)]
  split <;> omega
theorem mulB {x y : Int} {A B : Nat} (h1 : x.natAbs ≤ A) (h2 : y.natAbs ≤ B) : (x * y).natAbs ≤ A * B := by
  rw [Int.natAbs_mul]
  exact Nat.mul_le_mul h1 h2
theorem ok_b {s : ByteArray} {f t l d q : Int} (h : pipeOkV s f t l d q = true) : nameOk s = true ∧ (1 ≤ l ∧ l ≤ 10000) ∧ (20 ≤ d ∧ d ≤ 1000) := by
  unfold pipeOkV at h
  simp only [Bool.and_eq_true, inR_iff] at h
  exact ⟨h.1, h.2.2.2.2.1, h.2.2.2.2.2.1⟩
def waterOf (l d : Int) : Int := dr (l * d * d * 7854) 10000
theorem water_b {l d : Int} (hl : 1 ≤ l ∧ l ≤ 10000) (hd : 20 ≤ d ∧ d ≤ 1000) : wrap64 ((wrap64 ((wrap64 (l * d)) * d)) * 7854) = l * d * d * 7854 ∧ 0 ≤ l * d * d * 7854 ∧ l * d * d * 7854 ≤ 78540000000000 := by
  have h1 : l * d ≤ 10000 * d := Int.mul_le_mul_of_nonneg_right hl.2 (by omega)
  have h0 : 0 ≤ l * d := Int.mul_nonneg (by omega) (by omega)
  have h2 : l * d * d ≤ 10000000 * d := Int.mul_le_mul_of_nonneg_right (by omega) (by omega)
  have h3 : 0 ≤ l * d * d := Int.mul_nonneg h0 (by omega)
  refine ⟨?_, by omega, by omega⟩
  rw [w64 (show -9223372036854775808 ≤ l * d by omega) (by omega), w64 (show -9223372036854775808 ≤ l * d * d by omega) (by omega), w64 (by omega) (by omega)]
theorem dr_b {a b : Int} (h0 : 0 ≤ a) (hb : 0 < b) : 0 ≤ dr a b ∧ dr a b ≤ 2 * a + b := by
  unfold dr
  rw [if_pos h0]
  exact ⟨Int.ediv_nonneg (by omega) (by omega), Int.ediv_le_self _ (by omega)⟩
theorem dr_n {a b : Int} (h0 : ¬ 0 ≤ a) (hb : 0 < b) : dr a b ≤ 0 ∧ -(b - 2 * a) ≤ dr a b := by
  unfold dr
  rw [if_neg h0]
  have h1 := Int.ediv_nonneg (show 0 ≤ b - 2 * a by omega) (show 0 ≤ 2 * b by omega)
  have h2 := Int.ediv_le_self (a := b - 2 * a) (2 * b) (by omega)
  omega
theorem waterI {l d : Int} (hl : 1 ≤ l ∧ l ≤ 10000) (hd : 20 ≤ d ∧ d ≤ 1000) (s : ByteArray) (f t q : Int) : impl_Pipe_water.f s f t l d q = some (waterOf l d) := by
  obtain ⟨e, h0, h1⟩ := water_b hl hd
  unfold impl_Pipe_water.f waterOf
  rw [e, divRound_eq _ _ (by omega) (by omega) (by omega) (by omega)]
  rfl
theorem waterS {l d : Int} (hl : 1 ≤ l ∧ l ≤ 10000) (hd : 20 ≤ d ∧ d ≤ 1000) (s : ByteArray) (f t q : Int) : spec_l03Water.f s f t l d q = some (waterOf l d) := by
  obtain ⟨e, h0, h1⟩ := water_b hl hd
  unfold spec_l03Water.f waterOf
  rw [e, div_eq _ _ (by omega) (by omega) (by omega) (by omega)]
  rfl
def dly (l d q : Int) : Int := wrap64 (Int.tdiv (wrap64 ((wrap64 (waterOf l d + ab q)) - 1)) (ab q))
theorem dly_b {l d q : Int} (hl : 1 ≤ l ∧ l ≤ 10000) (hd : 20 ≤ d ∧ d ≤ 1000) (hq : q.natAbs ≤ 100000) (h0 : q ≠ 0) : 0 ≤ dly l d q ∧ dly l d q ≤ 10000000000000000 := by
  obtain ⟨_, g0, g1⟩ := water_b hl hd
  obtain ⟨w0, w1⟩ := dr_b g0 (show (0 : Int) < 10000 by omega)
  have ha := ab_is (q := q) (by omega) (by omega)
  unfold dly
  have hw : dr (l * d * d * 7854) 10000 = waterOf l d := rfl
  rw [hw] at w0 w1
  rw [ha, w64 (show -9223372036854775808 ≤ waterOf l d + (q.natAbs : Int) by omega) (by omega), w64 (show -9223372036854775808 ≤ waterOf l d + (q.natAbs : Int) - 1 by omega) (by omega), Int.tdiv_eq_ediv_of_nonneg (by omega)]
  have h1 := Int.ediv_nonneg (show 0 ≤ waterOf l d + (q.natAbs : Int) - 1 by omega) (show 0 ≤ (q.natAbs : Int) by omega)
  have h2 := Int.ediv_le_self (a := waterOf l d + (q.natAbs : Int) - 1) (q.natAbs : Int) (by omega)
  rw [w64 (by omega) (by omega)]
  omega
def dlyAns (l d q : Int) : Int × Int := if q = 0 then (0, 6) else (dly l d q, 0)
def top (l q : Int) : Int := l * 16200 * q * (q.natAbs : Int)
def low (d : Int) : Int := d * d * d * d * d
theorem top_b {l q : Int} (hl : 1 ≤ l ∧ l ≤ 10000) (hq : q.natAbs ≤ 100000) : (top l q).natAbs ≤ 1620000000000000000 ∧ wrap64 ((wrap64 ((wrap64 (l * 16200)) * q)) * ab q) = top l q := by
  have e1 : (l * 16200).natAbs ≤ 162000000 := by omega
  have e2 : (l * 16200 * q).natAbs ≤ 162000000 * 100000 := mulB e1 hq
  have e3 : (l * 16200 * q * (q.natAbs : Int)).natAbs ≤ 162000000 * 100000 * 100000 := mulB e2 (by omega)
  have ha := ab_is (q := q) (by omega) (by omega)
  refine ⟨e3, ?_⟩
  unfold top
  rw [ha, w64 (show -9223372036854775808 ≤ l * 16200 by omega) (by omega), w64 (show -9223372036854775808 ≤ l * 16200 * q by omega) (by omega), w64 (show -9223372036854775808 ≤ l * 16200 * q * (q.natAbs : Int) by omega) (by omega)]
theorem low_b {d : Int} (hd : 20 ≤ d ∧ d ≤ 1000) : 0 < low d ∧ low d ≤ 1000000000000000 ∧ wrap64 ((wrap64 ((wrap64 ((wrap64 (d * d)) * d)) * d)) * d) = low d := by
  have p2 : 0 < d * d := Int.mul_pos (by omega) (by omega)
  have p3 : 0 < d * d * d := Int.mul_pos p2 (by omega)
  have p4 : 0 < d * d * d * d := Int.mul_pos p3 (by omega)
  have p5 : 0 < d * d * d * d * d := Int.mul_pos p4 (by omega)
  have b1 : d.natAbs ≤ 1000 := by omega
  have b2 : (d * d).natAbs ≤ 1000 * 1000 := mulB b1 b1
  have b3 : (d * d * d).natAbs ≤ 1000 * 1000 * 1000 := mulB b2 b1
  have b4 : (d * d * d * d).natAbs ≤ 1000 * 1000 * 1000 * 1000 := mulB b3 b1
  have b5 : (d * d * d * d * d).natAbs ≤ 1000 * 1000 * 1000 * 1000 * 1000 := mulB b4 b1
  unfold low
  refine ⟨p5, by omega, ?_⟩
  rw [w64 (show -9223372036854775808 ≤ d * d by omega) (by omega), w64 (show -9223372036854775808 ≤ d * d * d by omega) (by omega), w64 (show -9223372036854775808 ≤ d * d * d * d by omega) (by omega), w64 (show -9223372036854775808 ≤ d * d * d * d * d by omega) (by omega)]
def drp (l d q : Int) : Int := dr (top l q) (low d)
def drpAns (l d q : Int) : Int × Int := if ab (drp l d q) > 100000000 then (0, 6) else (drp l d q, 0)
theorem drp_b {l d q : Int} (hl : 1 ≤ l ∧ l ≤ 10000) (hd : 20 ≤ d ∧ d ≤ 1000) (hq : q.natAbs ≤ 100000) (h : ¬ ab (drp l d q) > 100000000) : -100000000 ≤ drp l d q ∧ drp l d q ≤ 100000000 := by
  obtain ⟨t1, _⟩ := top_b hl hq
  obtain ⟨l1, l2, _⟩ := low_b hd
  have hb : -9223372036854775807 ≤ drp l d q ∧ drp l d q ≤ 9223372036854775807 := by
    unfold drp
    by_cases h0 : 0 ≤ top l q
    · have := dr_b h0 l1; omega
    · have := dr_n h0 l1; omega
  rw [ab_is hb.1 hb.2] at h
  omega
theorem dropI {s : ByteArray} {f t l d w q : Int} (hs : s.size ≤ 1048576) (hp : pipeOkV s f t l d w = true) (hq : q.natAbs ≤ 100000) : Ev (fun k => impl_DropOf.f k s f t l d w q) (drpAns l d q) := by
  obtain ⟨_, hl, hd⟩ := ok_b hp
  have e := (top_b hl hq)
  have e' := low_b hd
  have hqi : inR q (-100000) 100000 = true := inR_iff.2 ⟨by omega, by omega⟩
  unfold impl_DropOf.f impl_Pipe_code.f impl_flowOk.f impl_allWithin.f drpAns
  simp only [within_eq, Option.bind_some, Option.bind_assoc, List.all_nil, if_true]
  refine Ev.bind (validPipeV_ev _ _ _ _ _ _ hs) ?_
  simp only [hp, hqi, if_true, Option.bind_some, impl_Pipe_drop.f, abI_eq, e.2, e'.2.2, divRound_eq (top l q) (low d) e'.1 (by omega) (by omega) (by omega)]
  unfold drp
  split <;> exact Ev.now _
theorem dropS {s : ByteArray} {f t l d w q : Int} (hs : s.size ≤ 1048576) (hp : pipeOkV s f t l d w = true) (hq : q.natAbs ≤ 100000) : Ev (fun k => spec_DropOf.f k s f t l d w q) (drpAns l d q) := by
  obtain ⟨_, hl, hd⟩ := ok_b hp
  have e := (top_b hl hq)
  have e' := low_b hd
  have hqi : inR q (-100000) 100000 = true := inR_iff.2 ⟨by omega, by omega⟩
  unfold spec_DropOf.f spec_l03Ask.f spec_l03Flow.f drpAns
  simp only [in_eq, Option.bind_some, Option.bind_assoc]
  refine Ev.bind (l03OkV_ev _ _ _ _ _ _ hs) ?_
  simp only [hp, hqi, if_true, Option.bind_some, spec_l03Drop.f, spec_l03Raw.f, abS_eq, e.2, e'.2.2, div_eq (top l q) (low d) e'.1 (by omega) (by omega) (by omega)]
  unfold drp
  split <;> exact Ev.now _
theorem ab_ne {q : Int} (hq : q.natAbs ≤ 100000) (h : q ≠ 0) : ab q ≠ 0 := by rw [ab_is (by omega) (by omega)]; omega
theorem delayI {s : ByteArray} {f t l d w q : Int} (hs : s.size ≤ 1048576) (hp : pipeOkV s f t l d w = true) (hq : q.natAbs ≤ 100000) : Ev (fun k => impl_DelayOf.f k s f t l d w q) (dlyAns l d q) := by
  obtain ⟨_, hl, hd⟩ := ok_b hp
  have hqi : inR q (-100000) 100000 = true := inR_iff.2 ⟨by omega, by omega⟩
  unfold impl_DelayOf.f impl_Pipe_code.f impl_flowOk.f impl_allWithin.f dlyAns
  simp only [within_eq, Option.bind_some, Option.bind_assoc, List.all_nil, if_true]
  refine Ev.bind (validPipeV_ev _ _ _ _ _ _ hs) ?_
  simp only [hp, hqi, if_true, Option.bind_some]
  by_cases h0 : q = 0
  · simp only [if_pos h0]; exact Ev.now _
  · simp only [if_neg h0, impl_Pipe_delay.f, waterI hl hd, abI_eq, impl_divUp.f, Option.bind_some, if_neg (ab_ne hq h0)]; exact Ev.now _
theorem delayS {s : ByteArray} {f t l d w q : Int} (hs : s.size ≤ 1048576) (hp : pipeOkV s f t l d w = true) (hq : q.natAbs ≤ 100000) : Ev (fun k => spec_DelayOf.f k s f t l d w q) (dlyAns l d q) := by
  obtain ⟨_, hl, hd⟩ := ok_b hp
  have hqi : inR q (-100000) 100000 = true := inR_iff.2 ⟨by omega, by omega⟩
  unfold spec_DelayOf.f spec_l03Ask.f spec_l03Flow.f dlyAns
  simp only [in_eq, Option.bind_some, Option.bind_assoc]
  refine Ev.bind (l03OkV_ev _ _ _ _ _ _ hs) ?_
  simp only [hp, hqi, if_true, Option.bind_some]
  by_cases h0 : q = 0
  · simp only [if_pos h0]; exact Ev.now _
  · simp only [if_neg h0, spec_l03Delay.f, waterS hl hd, abS_eq, Option.bind_some, if_neg (ab_ne hq h0)]; exact Ev.now _
def dec (v : Int) : ByteArray := ⟨(Lib.itoa v).toArray⟩
def cell (p : Int × Int) : ByteArray := if p.2 = 0 then dec p.1 else (⟨#[45]⟩ : ByteArray)
def Sml (p : Int × Int) : Prop := p.2 = 0 → -100000000000000000 ≤ p.1 ∧ p.1 ≤ 100000000000000000
theorem cellI {p : Int × Int} (h : Sml p) : impl_numberCell.f p.1 p.2 = some (cell p) := by
  unfold impl_numberCell.f cell
  by_cases h0 : p.2 = 0
  · rw [if_pos h0, if_pos h0, decI_eq _ (h h0).1 (h h0).2]; rfl
  · rw [if_neg h0, if_neg h0]
theorem cellS {p : Int × Int} (h : Sml p) : Ev (fun k => spec_l30Cell.f k p.1 p.2) (cell p) := by
  unfold spec_l30Cell.f cell
  by_cases h0 : p.2 = 0
  · simp only [if_pos h0]
    exact Ev.bind (decI_ev _ (h h0).1 (h h0).2) (Ev.now _)
  · simp only [if_neg h0]; exact Ev.now _
theorem drp_s {l d q : Int} (hl : 1 ≤ l ∧ l ≤ 10000) (hd : 20 ≤ d ∧ d ≤ 1000) (hq : q.natAbs ≤ 100000) : Sml (drpAns l d q) := by
  unfold Sml drpAns
  by_cases h : ab (drp l d q) > 100000000
  · rw [if_pos h]; intro h6; exact absurd h6 (by decide)
  · rw [if_neg h]; intro _; have := drp_b hl hd hq h; show -100000000000000000 ≤ drp l d q ∧ drp l d q ≤ 100000000000000000; omega
theorem dly_s {l d q : Int} (hl : 1 ≤ l ∧ l ≤ 10000) (hd : 20 ≤ d ∧ d ≤ 1000) (hq : q.natAbs ≤ 100000) : Sml (dlyAns l d q) := by
  unfold Sml dlyAns
  by_cases h : q = 0
  · rw [if_pos h]; intro h6; exact absurd h6 (by decide)
  · rw [if_neg h]; intro _; have := dly_b hl hd hq h; show -100000000000000000 ≤ dly l d q ∧ dly l d q ≤ 100000000000000000; omega
def rowAt (p : S58) (q : Int) : List ByteArray := [p.f0, dec q, cell (drpAns p.f3 p.f4 q), cell (dlyAns p.f3 p.f4 q)]
def head : List ByteArray := [(⟨#[112, 105, 112, 101]⟩ : ByteArray), (⟨#[102, 108, 111, 119]⟩ : ByteArray), (⟨#[100, 114, 111, 112]⟩ : ByteArray), (⟨#[100, 101, 108, 97, 121]⟩ : ByteArray)]
def rowsTo (l : List S58) (fl : List Int) (n : Nat) : List (List ByteArray) := head :: (List.range n).map (fun i => rowAt (l.getD i z58) (fl.getD i 0))
theorem rowsTo_succ (l : List S58) (fl : List Int) (q : Nat) : rowsTo l fl (q + 1) = rowsTo l fl q ++ [rowAt (l.getD q z58) (fl.getD q 0)] := by
  unfold rowsTo
  rw [List.range_succ, List.map_append]
  rfl
theorem rowsTo_len (l : List S58) (fl : List Int) (q : Nat) : (rowsTo l fl q).length = q + 1 := by unfold rowsTo; simp
theorem pipe_ok {nodes : List Int} {l : List S58} (h : netOk nodes l = true) (i : Nat) (hi : i < l.length) : pipeOkV (l.getD i z58).f0 (l.getD i z58).f1 (l.getD i z58).f2 (l.getD i z58).f3 (l.getD i z58).f4 (l.getD i z58).f5 = true := by
  unfold netOk at h
  simp only [Bool.and_eq_true, decide_eq_true_eq, List.all_eq_true] at h
  have := h.2.2 i (List.mem_range.2 hi)
  unfold pipeAt at this
  simp only [Bool.and_eq_true] at this
  exact this.1
theorem implRows (nodes : List Int) (l : List S58) (fl : List Int) (hl : l.length ≤ 20) (hs : SmallN l) (hfl : fl.length = l.length) (hf : PNode.FlOk fl) (hno : netOk nodes l = true) {r : List ByteArray × Int} (hT : Ev (fun k => impl_TableLines.f k (rowsTo l fl l.length)) r) :
    EvP (fun k => impl_PipeReport.l0 k fl [head] l (l.length : Int) 0) (· = r) := by
  have := for_evp (L := fun k (s : List (List ByteArray)) i => impl_PipeReport.l0 k fl s l (l.length : Int) i) (Post := (· = r)) l.length (fun i s => s = rowsTo l fl i) ?_ ?_ [head] rfl
  · exact this
  · intro i s hi hs' K
    subst hs'
    have K := K _ rfl
    have hp := pipe_ok hno i hi
    obtain ⟨_, bl, bd⟩ := ok_b hp
    have hsz := hs _ (getP_mem hi)
    have e : rd fl (i : Int) = fl.getD i 0 := rfl
    have e2 : rd_T58 l (i : Int) = l.getD i z58 := rdp l i
    have hq := hf i
    refine EvP.step (fun k => impl_PipeReport.l0.eq_2 _ _ _ _ _ k) ?_
    simp only [if_pos (show (i : Int) < (l.length : Int) by omega), if_pos (show (0 : Int) ≤ (i : Int) by omega), if_pos (show (i : Int) < (fl.length : Int) by omega), e, e2, decI_eq (fl.getD i 0) (by omega) (by omega), Option.bind_some]
    refine EvP.bind (dropI hsz hp hq) ?_
    simp only [cellI (drp_s bl bd hq), Option.bind_some]
    refine EvP.bind (delayI hsz hp hq) ?_
    simp only [cellI (dly_s bl bd hq), Option.bind_some, rowsTo_len, if_pos (show i + 1 < 5864062014805 by omega), w64 (show -9223372036854775808 ≤ (i : Int) + 1 by omega) (by omega)]
    rw [rowsTo_succ] at K
    exact K
  · intro s hs'
    subst hs'
    refine EvP.step (fun k => impl_PipeReport.l0.eq_2 _ _ _ _ _ k) ?_
    simp only [if_neg (show ¬ (l.length : Int) < (l.length : Int) by omega)]
    refine EvP.bind hT ?_
    exact EvP.now rfl
theorem specRows (nodes : List Int) (l : List S58) (fl : List Int) (hl : l.length ≤ 20) (hs : SmallN l) (hfl : fl.length = l.length) (hf : PNode.FlOk fl) (hno : netOk nodes l = true) {ls : List ByteArray} {r : List ByteArray × Int} (hT : Ev (fun k => spec_l30Table.f k (rowsTo l fl l.length)) ls) (hD : Ev (fun k => spec_l30Done.f k ls) r) :
    EvP (fun k => spec_PipeReport.l0 k fl [head] 0 nodes l) (· = r) := by
  have := for_evp (L := fun k (s : List (List ByteArray)) i => spec_PipeReport.l0 k fl s i nodes l) (Post := (· = r)) l.length (fun i s => s = rowsTo l fl i) ?_ ?_ [head] rfl
  · exact this
  · intro i s hi hs' K
    subst hs'
    have K := K _ rfl
    have hp := pipe_ok hno i hi
    obtain ⟨_, bl, bd⟩ := ok_b hp
    have hsz := hs _ (getP_mem hi)
    have e : rd fl (i : Int) = fl.getD i 0 := rfl
    have e2 : rd_T58 l (i : Int) = l.getD i z58 := rdp l i
    have hq := hf i
    refine EvP.step (fun k => spec_PipeReport.l0.eq_2 _ _ _ _ _ k) ?_
    simp only [if_pos (show (i : Int) < (l.length : Int) by omega), if_pos (show (0 : Int) ≤ (i : Int) by omega), if_pos (show (i : Int) < (fl.length : Int) by omega), e, e2]
    refine EvP.bind (dropS hsz hp hq) (EvP.bind (delayS hsz hp hq) (EvP.bind (decI_ev (fl.getD i 0) (by omega) (by omega)) (EvP.bind (cellS (drp_s bl bd hq)) (EvP.bind (cellS (dly_s bl bd hq)) ?_))))
    simp only [rowsTo_len, if_pos (show i + 1 < 5864062014805 by omega), w64 (show -9223372036854775808 ≤ (i : Int) + 1 by omega) (by omega)]
    rw [rowsTo_succ] at K
    exact K
  · intro s hs'
    subst hs'
    refine EvP.step (fun k => spec_PipeReport.l0.eq_2 _ _ _ _ _ k) ?_
    simp only [if_neg (show ¬ (l.length : Int) < (l.length : Int) by omega)]
    refine EvP.bind hT (EvP.bind hD ?_)
    exact EvP.now rfl
theorem dec_within (v : Int) (h1 : -100000000000000000 ≤ v) (h2 : v ≤ 100000000000000000) : within (dec v) 33 126 = true ∧ (dec v).size ≤ 21 := by
  have hd : ∀ u : Nat, u ≤ 100000000000000000 → (Lib.decDigits u).all (okByte 33 126) = true := by
    intro u hu
    have h := (PNum.dec_all 18 u (by omega) (by omega)).1
    rw [List.all_eq_true] at h ⊢
    intro c hc
    have := h c hc
    rw [PNum.dig_iff] at this
    unfold okByte
    simp only [Bool.and_eq_true, decide_eq_true_eq]
    omega
  have hlen := Lib.itoa_length_le v (by omega) (by omega)
  refine ⟨?_, by unfold dec; simpa [ByteArray.size] using hlen⟩
  unfold within dec
  by_cases hv : 0 ≤ v
  · obtain ⟨u, rfl⟩ : ∃ u : Nat, v = (u : Int) := ⟨v.toNat, by omega⟩
    rw [Lib.itoa_nonneg u]
    simpa using hd u (by omega)
  · obtain ⟨u, hu, rfl⟩ : ∃ u : Nat, 1 ≤ u ∧ v = -(u : Int) := ⟨(-v).toNat, by omega, by omega⟩
    rw [Lib.itoa_neg u hu]
    have := hd u (by omega)
    simp only [List.all_cons, this, Bool.and_true]
    rfl
theorem cell_within {p : Int × Int} (h : Sml p) : within (cell p) 33 126 = true ∧ (cell p).size ≤ 21 := by
  unfold cell
  by_cases h0 : p.2 = 0
  · rw [if_pos h0]; exact dec_within _ (h h0).1 (h h0).2
  · rw [if_neg h0]; exact ⟨by rfl, by decide⟩
theorem name_within {s : ByteArray} (h : nameOk s = true) : within s 33 126 = true ∧ s.size ≤ 10 := by
  unfold nameOk at h
  split at h
  · exact absurd h (by decide)
  · rename_i c l hl
    simp only [Bool.and_eq_true, decide_eq_true_eq] at h
    refine ⟨?_, by omega⟩
    unfold within
    rw [hl]
    have h3 := h.2
    rw [List.all_eq_true] at h3 ⊢
    intro x hx
    have := h3 x hx
    unfold nameB smallB digB at this
    unfold okByte
    simp only [Bool.or_eq_true, Bool.and_eq_true, decide_eq_true_eq] at this ⊢
    omega
theorem rows_ok {nodes : List Int} (l : List S58) (fl : List Int) (hf : PNode.FlOk fl) (hno : netOk nodes l = true) : ∀ r ∈ rowsTo l fl l.length, RowOk 100 r := by
  intro r hr
  unfold rowsTo at hr
  rcases List.mem_cons.1 hr with h | h
  · subst h
    refine ⟨by decide, ?_⟩
    intro c hc
    unfold head at hc
    simp only [List.mem_cons, List.mem_nil_iff, or_false] at hc
    rcases hc with rfl | rfl | rfl | rfl <;> exact ⟨by rfl, by decide⟩
  · obtain ⟨i, hi, rfl⟩ := List.mem_map.1 h
    have hi := List.mem_range.1 hi
    have hp := pipe_ok hno i hi
    obtain ⟨hn, bl, bd⟩ := ok_b hp
    have hq := hf i
    refine ⟨by unfold rowAt; simp, ?_⟩
    intro c hc
    unfold rowAt at hc
    simp only [List.mem_cons, List.mem_nil_iff, or_false] at hc
    rcases hc with rfl | rfl | rfl | rfl
    · have := name_within hn; exact ⟨this.1, by omega⟩
    · have := dec_within (fl.getD i 0) (by omega) (by omega); exact ⟨this.1, by omega⟩
    · have := cell_within (drp_s bl bd hq); exact ⟨this.1, by omega⟩
    · have := cell_within (dly_s bl bd hq); exact ⟨this.1, by omega⟩
theorem both_ev (nodes : List Int) (l : List S58) (fl : List Int) (hn : nodes.length ≤ 1048576) (hl : l.length ≤ 1048576) (hf : fl.length ≤ 1048576) (hs : SmallN l) :
    ∃ r : List ByteArray × Int, r.1.length ≤ 1000 ∧ (∀ x ∈ r.1, x.size ≤ 10000) ∧ Ev (fun k => spec_PipeReport.f k nodes l fl) r ∧ Ev (fun k => impl_PipeReport.f k nodes l fl) r := by
  have hi := implNet_ev nodes l hn hl hs
  have hp := specNet_ev nodes l hn hl hs
  unfold spec_PipeReport.f impl_PipeReport.f
  cases hno : netOk nodes l with
  | false =>
    rw [hno] at hi hp
    exact ⟨([], 1), by simp, by simp, Ev.bind hp (Ev.now _), Ev.bind hi (Ev.now _)⟩
  | true =>
    rw [hno] at hi hp
    have hpf := specFlows_ev nodes l fl hf
    have hif := implFlows_eq nodes l fl
    cases hfo : flowsOk l fl with
    | false =>
      rw [hfo] at hif hpf
      refine ⟨([], 2), by simp, by simp, Ev.bind hp ?_, Ev.bind hi ?_⟩
      · simp only [if_true]
        exact Ev.bind hpf (Ev.now _)
      · simp only [if_true, hif, Option.bind_some]
        exact Ev.now _
    | true =>
      rw [hfo] at hif hpf
      obtain ⟨h1, h2, h3, h4⟩ := PNode.net_facts hno
      obtain ⟨f1, f2⟩ := PNode.flow_facts hfo
      obtain ⟨ls, t1, t2, t3, t4⟩ := table_ev 100 (by omega) (rowsTo l fl l.length) (by rw [rowsTo_len]; omega) (rows_ok l fl f2 hno)
      rw [rowsTo_len] at t1
      obtain ⟨d1, d2⟩ := done_ev ls (by omega) (fun x hx => by have := t2 x hx; omega)
      refine ⟨if repOk ls = true then (ls, 0) else ([], 5), ?_, ?_, Ev.bind hp ?_, Ev.bind hi ?_⟩
      · split <;> simp <;> omega
      · split
        · intro x hx; have := t2 x hx; omega
        · simp
      · simp only [if_true]
        refine Ev.bind hpf ?_
        simp only [if_true]
        exact EvP.eq (specRows nodes l fl h3 hs f1 f2 hno t3 d1)
      · simp only [if_true, hif, Option.bind_some]
        exact EvP.eq (implRows nodes l fl h3 hs f1 f2 hno (t4 _ d2))
end Go.Proofs.YtadaegehdcngdaaGreatDoor.PPipe
end

section
namespace Go.Proofs.YtadaegehdcngdaaGreatDoor.SV
open Go.RowKit Go.Proofs.YtadaegehdcngdaaGreatDoorW.PrintWords Go.Proofs.YtadaegehdcngdaaGreatDoor.XV Go.Proofs.YtadaegehdcngdaaGreatDoor.EvK
set_option linter.unusedVariables false
set_option linter.unusedSimpArgs false
theorem szInt64S_val (l : List Int) (left : Int) (h0 : 0 ≤ left) (h1 : left ≤ 1048576) (hq : l.length ≤ maxLen) : ∃ t, laws_szInt64S.f l left = some t ∧ t ≤ left ∧ (0 ≤ t → l.length ≤ 1048576) := by
  unfold maxLen at hq
  unfold laws_szInt64S.f
  repeat' split
  all_goals refine ⟨_, rfl, ?_, ?_⟩
  all_goals (simp only [wrap64] at *; omega)
end Go.Proofs.YtadaegehdcngdaaGreatDoor.SV
end

section
namespace Go.Proofs.YtadaegehdcngdaaGreatDoor.SV
open Go.RowKit Go.Proofs.YtadaegehdcngdaaGreatDoorW.PrintWords Go.Proofs.YtadaegehdcngdaaGreatDoor.XV Go.Proofs.YtadaegehdcngdaaGreatDoor.EvK
set_option linter.unusedVariables false
set_option linter.unusedSimpArgs false
theorem szPipe_val (x : S86) (left : Int) (h0 : 0 ≤ left) (h1 : left ≤ 1048576) (hq : Q86 x) : ∃ t, laws_szPipe.f x.f0 x.f1 x.f2 x.f3 x.f4 x.f5 left = some t ∧ t ≤ left ∧ (0 ≤ t → (x.f0.size ≤ 1048576)) := by
  unfold Q86 maxLen at hq
  unfold laws_szPipe.f
  repeat' split
  all_goals refine ⟨_, rfl, ?_, ?_⟩
  all_goals (simp only [wrap64] at *; omega)
end Go.Proofs.YtadaegehdcngdaaGreatDoor.SV
end

section
namespace Go.Proofs.YtadaegehdcngdaaGreatDoor.SV
open Go.RowKit Go.Proofs.YtadaegehdcngdaaGreatDoorW.PrintWords Go.Proofs.YtadaegehdcngdaaGreatDoor.XV Go.Proofs.YtadaegehdcngdaaGreatDoor.EvK
set_option linter.unusedVariables false
set_option linter.unusedSimpArgs false
theorem szPipeS_ev (l : List (S86)) (left : Int) (h0 : 0 ≤ left) (h1 : left ≤ 1048576) (hq : (l.length ≤ maxLen ∧ ∀ y1 ∈ l, Q86 y1)) : EvP (fun k => laws_szPipeS.f k l left) (fun t => t ≤ left ∧ (0 ≤ t → l.length ≤ 1048576 ∧ ∀ x ∈ l, (x.f0.size ≤ 1048576))) := by
  obtain ⟨hl, hq⟩ := hq
  unfold maxLen at hl
  unfold laws_szPipeS.f
  rw [w64 (by omega) (by omega)]
  by_cases hc : left - (l.length : Int) < 0
  · simp only [if_pos hc]
    exact EvP.now ⟨by omega, by omega⟩
  simp only [if_neg hc]
  refine for_evp (L := fun k (s : Int) i => laws_szPipeS.l0 k l s i) l.length (fun i s => 0 ≤ s ∧ s ≤ left - (l.length : Int) ∧ ∀ x ∈ l.take i, (x.f0.size ≤ 1048576)) ?_ ?_ _ ⟨by omega, by omega, by simp⟩
  · rintro i s hi ⟨hs0, hs1, hs⟩ K
    have e : rd_T86 l (i : Int) = l[i] := getD_at l z86 i hi
    refine EvP.step (fun k => laws_szPipeS.l0.eq_2 _ _ _ k) ?_
    obtain ⟨t, ht, ht1, ht2⟩ := szPipe_val l[i] s hs0 (by omega) (hq _ (List.getElem_mem hi))
    simp only [if_pos (show (i : Int) < (l.length : Int) by omega), if_pos (show (0 : Int) ≤ (i : Int) by omega), e, ht, Option.bind_some, w64 (show -9223372036854775808 ≤ (i : Int) + 1 by omega) (by omega)]
    by_cases hn : t < 0
    · simp only [if_pos hn]
      exact EvP.now ⟨by omega, by omega⟩
    · simp only [if_neg hn]
      exact K _ ⟨by omega, by omega, take_all hi hs (ht2 (by omega))⟩
  · rintro s ⟨hs0, hs1, hs⟩
    refine EvP.step (fun k => laws_szPipeS.l0.eq_2 _ _ _ k) ?_
    simp only [if_neg (show ¬ (l.length : Int) < (l.length : Int) by omega)]
    exact EvP.now ⟨by omega, fun _ => ⟨by omega, by simpa using hs⟩⟩
end Go.Proofs.YtadaegehdcngdaaGreatDoor.SV
end

section
namespace Go.Proofs.YtadaegehdcngdaaGreatDoor.SV
open Go.RowKit Go.Proofs.YtadaegehdcngdaaGreatDoorW.PrintWords Go.Proofs.YtadaegehdcngdaaGreatDoor.XV Go.Proofs.YtadaegehdcngdaaGreatDoor.EvK
set_option linter.unusedVariables false
set_option linter.unusedSimpArgs false
def toInt64S_el (x : Int) : Int := x
theorem toInt64S_ev (l : List Int) (hl : l.length ≤ 1048576) : Ev (fun k => laws_toInt64S.f k l) (l.map toInt64S_el) := by
  apply EvP.eq
  unfold laws_toInt64S.f
  simp only [if_pos (show (0 : Int) ≤ (l.length : Int) by omega), Int.toNat_natCast, if_pos (show l.length ≤ 35184372088832 by omega)]
  refine for_evp (L := fun k (s : List Int) i => laws_toInt64S.l0 k l s i) l.length (fun i s => s = (l.take i).map toInt64S_el ++ List.replicate (l.length - i) 0) ?_ ?_ (List.replicate l.length 0) (by simp)
  · rintro i s hi rfl K
    have e : rd l (i : Int) = l[i] := getD_at l 0 i hi
    have hlen := done_len toInt64S_el l 0 i (by omega)
    refine EvP.step (fun k => laws_toInt64S.l0.eq_2 _ _ _ k) ?_
    simp only [if_pos (show (i : Int) < (l.length : Int) by omega), if_pos (show (0 : Int) ≤ (i : Int) by omega), e, hlen, w64 (show -9223372036854775808 ≤ (i : Int) + 1 by omega) (by omega), Int.toNat_natCast]
    refine K _ ?_
    show List.set _ i (toInt64S_el l[i]) = _
    exact map_done toInt64S_el l _ i hi
  · rintro s rfl
    refine EvP.step (fun k => laws_toInt64S.l0.eq_2 _ _ _ k) ?_
    simp only [if_neg (show ¬ (l.length : Int) < (l.length : Int) by omega)]
    exact EvP.now (by simp)
end Go.Proofs.YtadaegehdcngdaaGreatDoor.SV
end

section
namespace Go.Proofs.YtadaegehdcngdaaGreatDoor.SV
open Go.RowKit Go.Proofs.YtadaegehdcngdaaGreatDoorW.PrintWords Go.Proofs.YtadaegehdcngdaaGreatDoor.XV Go.Proofs.YtadaegehdcngdaaGreatDoor.EvK
set_option linter.unusedVariables false
set_option linter.unusedSimpArgs false
def toPipeS_el (x : S86) : S58 := (⟨x.f0, x.f1, x.f2, x.f3, x.f4, x.f5⟩ : S58)
theorem toPipeS_ev (l : List (S86)) (hl : l.length ≤ 1048576) : Ev (fun k => laws_toPipeS.f k l) (l.map toPipeS_el) := by
  apply EvP.eq
  unfold laws_toPipeS.f
  simp only [if_pos (show (0 : Int) ≤ (l.length : Int) by omega), Int.toNat_natCast, if_pos (show l.length ≤ 5026338869833 by omega)]
  refine for_evp (L := fun k (s : List (S58)) i => laws_toPipeS.l0 k l s i) l.length (fun i s => s = (l.take i).map toPipeS_el ++ List.replicate (l.length - i) z58) ?_ ?_ (List.replicate l.length z58) (by simp)
  · rintro i s hi rfl K
    have e : rd_T86 l (i : Int) = l[i] := getD_at l z86 i hi
    have hlen := done_len toPipeS_el l z58 i (by omega)
    refine EvP.step (fun k => laws_toPipeS.l0.eq_2 _ _ _ k) ?_
    simp only [if_pos (show (i : Int) < (l.length : Int) by omega), if_pos (show (0 : Int) ≤ (i : Int) by omega), e, laws_toPipe.f, Option.bind_some, hlen, w64 (show -9223372036854775808 ≤ (i : Int) + 1 by omega) (by omega), Int.toNat_natCast]
    refine K _ ?_
    show List.set _ i (toPipeS_el l[i]) = _
    exact map_done toPipeS_el l _ i hi
  · rintro s rfl
    refine EvP.step (fun k => laws_toPipeS.l0.eq_2 _ _ _ k) ?_
    simp only [if_neg (show ¬ (l.length : Int) < (l.length : Int) by omega)]
    exact EvP.now (by simp)
end Go.Proofs.YtadaegehdcngdaaGreatDoor.SV
end

section
namespace Go.Proofs.YtadaegehdcngdaaGreatDoor.SV
open Go.RowKit Go.Proofs.YtadaegehdcngdaaGreatDoorW.PrintWords Go.Proofs.YtadaegehdcngdaaGreatDoor.XV Go.Proofs.YtadaegehdcngdaaGreatDoor.EvK
set_option linter.unusedVariables false
set_option linter.unusedSimpArgs false
theorem eqInt64S_ev (l : List Int) (hl : l.length ≤ 1048576) : Ev (fun k => laws_eqInt64S.f k l l) true := by
  apply EvP.eq
  unfold laws_eqInt64S.f
  simp only [if_true]
  refine for_evp (L := fun k (s : Unit) i => laws_eqInt64S.l0 k l l i) l.length (fun i s => True) ?_ ?_ () trivial
  · rintro i s hi - K
    refine EvP.step (fun k => laws_eqInt64S.l0.eq_2 _ _ _ k) ?_
    simp only [if_pos (show (i : Int) < (l.length : Int) by omega), if_pos (show (0 : Int) ≤ (i : Int) by omega), if_true, w64 (show -9223372036854775808 ≤ (i : Int) + 1 by omega) (by omega)]
    exact K () trivial
  · rintro s -
    refine EvP.step (fun k => laws_eqInt64S.l0.eq_2 _ _ _ k) ?_
    simp only [if_neg (show ¬ (l.length : Int) < (l.length : Int) by omega)]
    exact EvP.now rfl
end Go.Proofs.YtadaegehdcngdaaGreatDoor.SV
end

section
namespace Go.Proofs.YtadaegehdcngdaaGreatDoor.SV
open Go.RowKit Go.Proofs.YtadaegehdcngdaaGreatDoorW.PrintWords Go.Proofs.YtadaegehdcngdaaGreatDoor.XV Go.Proofs.YtadaegehdcngdaaGreatDoor.EvK
set_option linter.unusedVariables false
set_option linter.unusedSimpArgs false
theorem eqPipeS_ev (l : List (S58)) (hl : l.length ≤ 1048576) : Ev (fun k => laws_eqPipeS.f k l l) true := by
  apply EvP.eq
  unfold laws_eqPipeS.f
  simp only [if_true]
  refine for_evp (L := fun k (s : Unit) i => laws_eqPipeS.l0 k l l i) l.length (fun i s => True) ?_ ?_ () trivial
  · rintro i s hi - K
    refine EvP.step (fun k => laws_eqPipeS.l0.eq_2 _ _ _ k) ?_
    simp only [if_pos (show (i : Int) < (l.length : Int) by omega), if_pos (show (0 : Int) ≤ (i : Int) by omega), laws_eqPipe.f, Option.bind_some, if_true, w64 (show -9223372036854775808 ≤ (i : Int) + 1 by omega) (by omega)]
    exact K () trivial
  · rintro s -
    refine EvP.step (fun k => laws_eqPipeS.l0.eq_2 _ _ _ k) ?_
    simp only [if_neg (show ¬ (l.length : Int) < (l.length : Int) by omega)]
    exact EvP.now rfl
end Go.Proofs.YtadaegehdcngdaaGreatDoor.SV
end

section
namespace Go.Proofs.YtadaegehdcngdaaGreatDoor.SV
open Go.RowKit Go.Proofs.YtadaegehdcngdaaGreatDoorW.PrintWords Go.Proofs.YtadaegehdcngdaaGreatDoor.XV Go.Proofs.YtadaegehdcngdaaGreatDoor.EvK
set_option linter.unusedVariables false
set_option linter.unusedSimpArgs false
theorem eqStringS_ev (l : List ByteArray) (hl : l.length ≤ 1048576) : Ev (fun k => laws_eqStringS.f k l l) true := by
  apply EvP.eq
  unfold laws_eqStringS.f
  simp only [if_true]
  refine for_evp (L := fun k (s : Unit) i => laws_eqStringS.l0 k l l i) l.length (fun i s => True) ?_ ?_ () trivial
  · rintro i s hi - K
    refine EvP.step (fun k => laws_eqStringS.l0.eq_2 _ _ _ k) ?_
    simp only [if_pos (show (i : Int) < (l.length : Int) by omega), if_pos (show (0 : Int) ≤ (i : Int) by omega), if_true, w64 (show -9223372036854775808 ≤ (i : Int) + 1 by omega) (by omega)]
    exact K () trivial
  · rintro s -
    refine EvP.step (fun k => laws_eqStringS.l0.eq_2 _ _ _ k) ?_
    simp only [if_neg (show ¬ (l.length : Int) < (l.length : Int) by omega)]
    exact EvP.now rfl
end Go.Proofs.YtadaegehdcngdaaGreatDoor.SV
end

section
namespace Go.Proofs.YtadaegehdcngdaaGreatDoor.SV
open Go.RowKit Go.Proofs.YtadaegehdcngdaaGreatDoorW.PrintWords Go.Proofs.YtadaegehdcngdaaGreatDoor.XV Go.Proofs.YtadaegehdcngdaaGreatDoor.EvK
set_option linter.unusedVariables false
set_option linter.unusedSimpArgs false
theorem markInt64S_ev (l : List Int) (c : Int) (h0 : 0 ≤ c) (h1 : c + (l.length : Int) ≤ 4611686018427387904) :
    ∃ y : List Int, Ev (fun k => laws_markInt64S.f k l c) (c + (l.length : Int), y) ∧ y.length = l.length := by
  let E : Nat → Int := fun j => c + (j : Int)
  have hset : ∀ (i : Nat) (h : i < l.length), ((List.range i).map E ++ l.drop i).set i (E i) = (List.range (i + 1)).map E ++ l.drop (i + 1) := fun i h => set_done E l i h
  have hlen : ∀ (i : Nat), i ≤ l.length → ((List.range i).map E ++ l.drop i).length = l.length := by intro i h; simp; omega
  refine ⟨(List.range l.length).map E, EvP.eq ?_, by simp⟩
  · unfold laws_markInt64S.f
    refine for_evp (L := fun k (s : List Int × Int) i => laws_markInt64S.l0 k s.1 s.2 i) l.length (fun i s => s = ((List.range i).map E ++ l.drop i, c + (i : Int))) ?_ ?_ (l, c) (by simp)
    · rintro i s hi rfl K
      refine EvP.step (fun k => laws_markInt64S.l0.eq_2 _ _ _ k) ?_
      simp only [hlen i (by omega), if_pos (show (i : Int) < (l.length : Int) by omega), if_pos (show (0 : Int) ≤ (i : Int) by omega), Option.bind_some, w64 (show -9223372036854775808 ≤ (i : Int) + 1 by omega) (by omega), w64 (show -9223372036854775808 ≤ c + (i : Int) + 1 by omega) (by omega), Int.toNat_natCast]
      refine K (_, _) ?_
      rw [← hset i hi, Prod.mk.injEq]
      refine ⟨?_, by push_cast; omega⟩
      have g1 := hlen i (by omega)
      generalize (List.range i).map E ++ l.drop i = L at g1
      have g2 : i < L.length := by omega
      first | rfl | (simp [E, getD_set_self, g2])
    · rintro s rfl
      refine EvP.step (fun k => laws_markInt64S.l0.eq_2 _ _ _ k) ?_
      simp only [hlen l.length (Nat.le_refl _), if_neg (show ¬ (l.length : Int) < (l.length : Int) by omega)]
      exact EvP.now (by simp)
end Go.Proofs.YtadaegehdcngdaaGreatDoor.SV
end

section
namespace Go.Proofs.YtadaegehdcngdaaGreatDoor.SV
open Go.RowKit Go.Proofs.YtadaegehdcngdaaGreatDoorW.PrintWords Go.Proofs.YtadaegehdcngdaaGreatDoor.XV Go.Proofs.YtadaegehdcngdaaGreatDoor.EvK
set_option linter.unusedVariables false
set_option linter.unusedSimpArgs false
theorem markText_ev (c : Int) (h0 : 0 ≤ c) (h1 : c ≤ 4611686018427387904) : ∃ s : ByteArray, Ev (fun k => laws_markText.f k c) s := by
  unfold laws_markText.f
  by_cases hc : c ≤ 0
  · simp only [if_pos hc]
    exact ⟨_, Ev.now _⟩
  simp only [if_neg hc]
  have key : ∀ (d : Nat) (x : Int) (y : ByteArray), 0 ≤ x → x ≤ d → y.size + d ≤ 9223372036854775000 → ∃ s : ByteArray, Ev (fun k => laws_markText.l0 k x y) s := by
    intro d
    induction d using Nat.strongRecOn with
    | _ d ih =>
    intro x y hx hd hy
    by_cases hp : x > 0
    · have hz : (strOfNums [(wrap64 (48 + Int.tmod x 10)) % 256]).size = 1 := rfl
      have hd' : Int.tdiv x 10 = x / 10 := Int.tdiv_eq_ediv_of_nonneg hx
      have hw : wrap64 (Int.tdiv x 10) = x / 10 := by rw [hd', w64 (by omega) (by omega)]
      obtain ⟨s, hs⟩ := ih (d - 1) (by omega) (x / 10) (strOfNums [(wrap64 (48 + Int.tmod x 10)) % 256] ++ y) (by omega) (by omega) (by rw [ByteArray.size_append, hz]; omega)
      refine ⟨s, Ev.step (fun k => laws_markText.l0.eq_2 _ _ k) ?_⟩
      simp only [if_pos hp, Option.bind_some, hz, if_pos (show 1 + y.size ≤ 9223372036854775807 by omega), hw]
      exact hs
    · refine ⟨(⟨#[109]⟩ : ByteArray) ++ y, Ev.step (fun k => laws_markText.l0.eq_2 _ _ k) ?_⟩
      simp only [if_neg hp, if_pos (show 1 + y.size ≤ 9223372036854775807 by omega)]
      exact Ev.now _
  exact key c.toNat c ⟨#[]⟩ h0 (by omega) (by show 0 + _ ≤ _; omega)
end Go.Proofs.YtadaegehdcngdaaGreatDoor.SV
end

section
namespace Go.Proofs.YtadaegehdcngdaaGreatDoor.SV
open Go.RowKit Go.Proofs.YtadaegehdcngdaaGreatDoorW.PrintWords Go.Proofs.YtadaegehdcngdaaGreatDoor.XV Go.Proofs.YtadaegehdcngdaaGreatDoor.EvK
set_option linter.unusedVariables false
set_option linter.unusedSimpArgs false
theorem markPipeS_ev (l : List (S58)) (c : Int) (h0 : 0 ≤ c) (h1 : c + 6 * (l.length : Int) ≤ 4611686018427387904) :
    ∃ y : List (S58), Ev (fun k => laws_markPipeS.f k l c) (c + 6 * (l.length : Int), y) ∧ y.length = l.length := by
  obtain ⟨T, hT⟩ : ∃ T : Int → ByteArray, ∀ x : Int, 0 ≤ x → x ≤ 4611686018427387904 → Ev (fun k => laws_markText.f k x) (T x) := ⟨fun x => if h : 0 ≤ x ∧ x ≤ 4611686018427387904 then Classical.choose (markText_ev x h.1 h.2) else ByteArray.empty, fun x h h' => by simp only [h, h', and_self, dif_pos]; exact Classical.choose_spec (markText_ev x h h')⟩
  let E : Nat → S58 := fun j => ⟨T (c + 6 * (j : Int)), c + 6 * (j : Int) + 1, c + 6 * (j : Int) + 1 + 1, c + 6 * (j : Int) + 1 + 1 + 1, c + 6 * (j : Int) + 1 + 1 + 1 + 1, c + 6 * (j : Int) + 1 + 1 + 1 + 1 + 1⟩
  have hset : ∀ (i : Nat) (h : i < l.length), ((List.range i).map E ++ l.drop i).set i (E i) = (List.range (i + 1)).map E ++ l.drop (i + 1) := fun i h => set_done E l i h
  have hlen : ∀ (i : Nat), i ≤ l.length → ((List.range i).map E ++ l.drop i).length = l.length := by intro i h; simp; omega
  refine ⟨(List.range l.length).map E, EvP.eq ?_, by simp⟩
  · unfold laws_markPipeS.f
    refine for_evp (L := fun k (s : List (S58) × Int) i => laws_markPipeS.l0 k s.1 s.2 i) l.length (fun i s => s = ((List.range i).map E ++ l.drop i, c + 6 * (i : Int))) ?_ ?_ (l, c) (by simp)
    · rintro i s hi rfl K
      refine EvP.step (fun k => laws_markPipeS.l0.eq_2 _ _ _ k) ?_
      simp only [hlen i (by omega), if_pos (show (i : Int) < (l.length : Int) by omega), if_pos (show (0 : Int) ≤ (i : Int) by omega), Option.bind_some, w64 (show -9223372036854775808 ≤ (i : Int) + 1 by omega) (by omega), w64 (show -9223372036854775808 ≤ c + 6 * (i : Int) + 1 by omega) (by omega), w64 (show -9223372036854775808 ≤ c + 6 * (i : Int) + 1 + 1 by omega) (by omega), w64 (show -9223372036854775808 ≤ c + 6 * (i : Int) + 1 + 1 + 1 by omega) (by omega), w64 (show -9223372036854775808 ≤ c + 6 * (i : Int) + 1 + 1 + 1 + 1 by omega) (by omega), w64 (show -9223372036854775808 ≤ c + 6 * (i : Int) + 1 + 1 + 1 + 1 + 1 by omega) (by omega), w64 (show -9223372036854775808 ≤ c + 6 * (i : Int) + 1 + 1 + 1 + 1 + 1 + 1 by omega) (by omega), Int.toNat_natCast]
      refine EvP.bind (hT (c + 6 * (i : Int)) (by omega) (by omega)) ?_
      refine K (_, _) ?_
      rw [← hset i hi, Prod.mk.injEq]
      refine ⟨?_, by push_cast; omega⟩
      have g1 := hlen i (by omega)
      generalize (List.range i).map E ++ l.drop i = L at g1
      have g2 : i < L.length := by omega
      first | rfl | (simp [rd_T58, E, getD_set_self, g2])
    · rintro s rfl
      refine EvP.step (fun k => laws_markPipeS.l0.eq_2 _ _ _ k) ?_
      simp only [hlen l.length (Nat.le_refl _), if_neg (show ¬ (l.length : Int) < (l.length : Int) by omega)]
      exact EvP.now (by simp)
end Go.Proofs.YtadaegehdcngdaaGreatDoor.SV
end

section
namespace Go.Proofs.YtadaegehdcngdaaGreatDoor.SV
open Go.RowKit Go.Proofs.YtadaegehdcngdaaGreatDoorW.PrintWords Go.Proofs.YtadaegehdcngdaaGreatDoor.XV Go.Proofs.YtadaegehdcngdaaGreatDoor.EvK
set_option linter.unusedVariables false
set_option linter.unusedSimpArgs false
theorem markStringS_ev (l : List ByteArray) (c : Int) (h0 : 0 ≤ c) (h1 : c + (l.length : Int) ≤ 4611686018427387904) :
    ∃ y : List ByteArray, Ev (fun k => laws_markStringS.f k l c) (c + (l.length : Int), y) ∧ Ev (fun k => laws_heldStringS.f k y c) (c + (l.length : Int)) ∧ y.length = l.length := by
  obtain ⟨T, hT⟩ : ∃ T : Int → ByteArray, ∀ x : Int, 0 ≤ x → x ≤ 4611686018427387904 → Ev (fun k => laws_markText.f k x) (T x) := ⟨fun x => if h : 0 ≤ x ∧ x ≤ 4611686018427387904 then Classical.choose (markText_ev x h.1 h.2) else ByteArray.empty, fun x h h' => by simp only [h, h', and_self, dif_pos]; exact Classical.choose_spec (markText_ev x h h')⟩
  let E : Nat → ByteArray := fun j => T (c + (j : Int))
  have hset : ∀ (i : Nat) (h : i < l.length), ((List.range i).map E ++ l.drop i).set i (E i) = (List.range (i + 1)).map E ++ l.drop (i + 1) := fun i h => set_done E l i h
  have hlen : ∀ (i : Nat), i ≤ l.length → ((List.range i).map E ++ l.drop i).length = l.length := by intro i h; simp; omega
  refine ⟨(List.range l.length).map E, EvP.eq ?_, EvP.eq ?_, by simp⟩
  · unfold laws_markStringS.f
    refine for_evp (L := fun k (s : List ByteArray × Int) i => laws_markStringS.l0 k s.1 s.2 i) l.length (fun i s => s = ((List.range i).map E ++ l.drop i, c + (i : Int))) ?_ ?_ (l, c) (by simp)
    · rintro i s hi rfl K
      refine EvP.step (fun k => laws_markStringS.l0.eq_2 _ _ _ k) ?_
      simp only [hlen i (by omega), if_pos (show (i : Int) < (l.length : Int) by omega), if_pos (show (0 : Int) ≤ (i : Int) by omega), Option.bind_some, w64 (show -9223372036854775808 ≤ (i : Int) + 1 by omega) (by omega), w64 (show -9223372036854775808 ≤ c + (i : Int) + 1 by omega) (by omega), Int.toNat_natCast]
      refine EvP.bind (hT (c + (i : Int)) (by omega) (by omega)) ?_
      refine K (_, _) ?_
      rw [← hset i hi, Prod.mk.injEq]
      refine ⟨?_, by push_cast; omega⟩
      have g1 := hlen i (by omega)
      generalize (List.range i).map E ++ l.drop i = L at g1
      have g2 : i < L.length := by omega
      first | rfl | (simp [E, getD_set_self, g2])
    · rintro s rfl
      refine EvP.step (fun k => laws_markStringS.l0.eq_2 _ _ _ k) ?_
      simp only [hlen l.length (Nat.le_refl _), if_neg (show ¬ (l.length : Int) < (l.length : Int) by omega)]
      exact EvP.now (by simp)
  · unfold laws_heldStringS.f
    have hl2 : ((List.range l.length).map E).length = l.length := by simp
    refine for_evp (L := fun k (s : Int) i => laws_heldStringS.l0 k ((List.range l.length).map E) s i) l.length (fun i s => s = c + (i : Int)) ?_ ?_ c (by simp)
    · rintro i s hi rfl K
      have e : rdOf ByteArray.empty ((List.range l.length).map E) (i : Int) = E i := by
        rw [show rdOf ByteArray.empty ((List.range l.length).map E) (i : Int) = ((List.range l.length).map E)[i]'(by simpa using hi) from getD_at _ ByteArray.empty i (by simpa using hi)]; simp
      refine EvP.step (fun k => laws_heldStringS.l0.eq_2 _ _ _ k) ?_
      simp only [hl2, if_pos (show (i : Int) < (l.length : Int) by omega), if_pos (show (0 : Int) ≤ (i : Int) by omega), e, E, if_true, w64 (show -9223372036854775808 ≤ (i : Int) + 1 by omega) (by omega), w64 (show -9223372036854775808 ≤ c + (i : Int) + 1 by omega) (by omega)]
      refine EvP.bind (hT (c + (i : Int)) (by omega) (by omega)) ?_
      simp only [if_true]
      exact K _ (by push_cast; omega)
    · rintro s rfl
      refine EvP.step (fun k => laws_heldStringS.l0.eq_2 _ _ _ k) ?_
      simp only [hl2, if_neg (show ¬ (l.length : Int) < (l.length : Int) by omega)]
      exact EvP.now rfl
end Go.Proofs.YtadaegehdcngdaaGreatDoor.SV
end

section
namespace Go.Proofs.YtadaegehdcngdaaGreatDoor.PureFnExactPipeReport
open Go.RowKit Go.Proofs.YtadaegehdcngdaaGreatDoorW.PrintWords Go.Proofs.YtadaegehdcngdaaGreatDoor.XV Go.Proofs.YtadaegehdcngdaaGreatDoor.EvK Go.Proofs.YtadaegehdcngdaaGreatDoor.PNet Go.Proofs.YtadaegehdcngdaaGreatDoor.PPipe Go.Proofs.YtadaegehdcngdaaGreatDoor.SV
set_option linter.unusedVariables false
set_option linter.unusedSimpArgs false
theorem pure : laws_FnExactPipeReport.Pure := by
  intro a fl hq hqf
  apply EvP.rounds
  unfold laws_FnExactPipeReport.f
  by_cases hw1 : (fl.length : Int) > 1048576
  · simp only [if_pos hw1]
    exact EvP.now rfl
  simp only [if_neg hw1]
  obtain ⟨nodes, hnodes⟩ : ∃ x, x = a.f0 := ⟨_, rfl⟩
  obtain ⟨ps, hps⟩ : ∃ x, x = a.f1 := ⟨_, rfl⟩
  rw [← hnodes, ← hps]
  have hqn : nodes.length ≤ maxLen := by rw [hnodes]; exact hq.1.1
  have hqp : ps.length ≤ maxLen ∧ ∀ y1 ∈ ps, Q86 y1 := by rw [hps]; exact hq.2
  have hsz : EvP (fun k => laws_szNetwork.f k nodes ps 1048576) (fun t => 0 ≤ t → nodes.length ≤ 1048576 ∧ ps.length ≤ 1048576 ∧ ∀ x ∈ ps, x.f0.size ≤ 1048576) := by
    obtain ⟨t, e1, e2, e3⟩ := szInt64S_val nodes 1048576 (by omega) (by omega) hqn
    unfold laws_szNetwork.f
    rw [e1]
    simp only [Option.bind_some]
    by_cases ht : t < 0
    · simp only [if_pos ht]
      exact EvP.now (fun h => absurd h (by decide))
    · simp only [if_neg ht]
      refine EvP.bindP (szPipeS_ev ps t (by omega) e2 hqp) (fun u hu => ?_)
      by_cases hu0 : u < 0
      · simp only [if_pos hu0]
        exact EvP.now (fun h => absurd h (by decide))
      · simp only [if_neg hu0]
        exact EvP.now (fun h => ⟨e3 (by omega), hu.2 h⟩)
  refine EvP.bindP hsz (fun t ht => ?_)
  by_cases ht0 : t < 0
  · simp only [if_pos ht0]
    exact EvP.now rfl
  simp only [if_neg ht0]
  obtain ⟨b1, b2, b3⟩ := ht (by omega)
  have hti := toInt64S_ev nodes b1
  have htp := toPipeS_ev ps b2
  have htf := toInt64S_ev fl (by omega)
  obtain ⟨N, hN⟩ : ∃ N, N = nodes.map toInt64S_el := ⟨_, rfl⟩
  obtain ⟨L, hL⟩ : ∃ L, L = ps.map toPipeS_el := ⟨_, rfl⟩
  obtain ⟨F, hF⟩ : ∃ F, F = fl.map toInt64S_el := ⟨_, rfl⟩
  have cN : N.length ≤ 1048576 := by rw [hN, List.length_map]; exact b1
  have cL : L.length ≤ 1048576 := by rw [hL, List.length_map]; exact b2
  have cF : F.length ≤ 1048576 := by rw [hF, List.length_map]; omega
  have hsm : SmallN L := by
    intro x hx
    rw [hL] at hx
    obtain ⟨y, hy, rfl⟩ := List.mem_map.1 hx
    exact b3 y hy
  rw [← hN] at hti
  rw [← hL] at htp
  rw [← hF] at htf
  have htn : Ev (fun k => laws_toNetwork.f k nodes ps) (N, L) := by
    unfold laws_toNetwork.f
    exact Ev.bind hti (Ev.bind htp (Ev.now _))
  have hen : Ev (fun k => laws_eqNetwork.f k N L N L) true := by
    unfold laws_eqNetwork.f
    refine Ev.bind (eqInt64S_ev N cN) ?_
    simp only [if_true]
    refine Ev.bind (eqPipeS_ev L cL) ?_
    simp only [if_true]
    exact Ev.now _
  obtain ⟨y1, hy1, _⟩ := markInt64S_ev N 1 (by omega) (by omega)
  obtain ⟨y2, hy2, _⟩ := markPipeS_ev L (1 + (N.length : Int)) (by omega) (by omega)
  have hmn : Ev (fun k => laws_markNetwork.f k N L 1) (1 + (N.length : Int) + 6 * (L.length : Int), y1, y2) := by
    unfold laws_markNetwork.f
    refine Ev.bind hy1 ?_
    exact Ev.bind hy2 (Ev.now _)
  obtain ⟨y3, hy3, _⟩ := markInt64S_ev F (1 + (N.length : Int) + 6 * (L.length : Int)) (by omega) (by omega)
  obtain ⟨r, r1, r2, r3, r4⟩ := both_ev N L F cN cL cF hsm
  have her := eqStringS_ev r.1 (by omega)
  obtain ⟨y4, hy4, hy5, hy6⟩ := markStringS_ev r.1 1 (by omega) (by omega)
  refine EvP.bind htn (EvP.bind htf (EvP.bind r3 (EvP.bind htn (EvP.bind htf (EvP.bind r4 (EvP.bind her ?_))))))
  simp only [if_true]
  have hne : (r.2 != r.2) = false := by simp
  rw [hne]
  refine EvP.step (fun k => laws_FnExactPipeReport.j0.eq_2 _ _ _ _ _ _ _ _ _ _ _ k) ?_
  simp only [Bool.false_eq_true, if_false]
  refine EvP.bind htn (EvP.bind hen ?_)
  simp only [if_true]
  refine EvP.bind htf (EvP.bind (eqInt64S_ev F cF) ?_)
  simp only [if_true]
  refine EvP.bind hmn (EvP.bind hy3 ?_)
  simp only [if_neg (show ¬ (1 + (N.length : Int) + 6 * (L.length : Int) + (F.length : Int) < 0) by omega)]
  refine EvP.bind her ?_
  simp only [if_true]
  rw [hne]
  refine EvP.step (fun k => laws_FnExactPipeReport.j1.eq_2 _ _ _ _ _ _ _ k) ?_
  simp only [Bool.false_eq_true, if_false]
  refine EvP.bind hy4 (EvP.bind hy5 ?_)
  simp only [if_neg (show ¬ (1 + (r.1.length : Int) < 0) by omega), if_true]
  refine EvP.bind htn (EvP.bind htf (EvP.bind r4 (EvP.bind her ?_)))
  simp only [if_true]
  rw [hne]
  refine EvP.step (fun k => laws_FnExactPipeReport.j2.eq_2 _ _ _ k) ?_
  simp only [Bool.false_eq_true, if_false]
  refine EvP.bind hy5 ?_
  simp only [if_neg (show ¬ (1 + (r.1.length : Int) < 0) by omega), if_true]
  exact EvP.now rfl
end Go.Proofs.YtadaegehdcngdaaGreatDoor.PureFnExactPipeReport
end

section
namespace Go.Proofs.YtadaegehdcngdaaGreatDoor.LaidKit
open Go Go.RowKit
theorem returns_laid_shaped {H : Type} {enc : TypeId × Value → H} {a : Assume} {C : Checked} {os : Os} {f : FuncId} {fn : Func} {s : ChangeSpec} {conds : List PathCond} {apart fresh handsOn again : Bool} {X : World → Array Value → Prop}
    (hX : ∀ (w w' : World) (args : Array Value), w.heap = w'.heap → X w args → X w' args)
    (own : ownKnob C.prog.godebug = none) (started : os.Started) (noInit : C.prog.inits.idxOf? f = none) (hfn : C.prog.funcs[f]? = some fn)
    (witness : ∃ (w : World) (tape : Tape) (i : Input), w.os = os ∧ (w.forCall tape i).Shaped C.prog ∧ i.vars = [] ∧ Input.okWide C.prog (w.forCall tape i) .any w.heap.size f i ∧
      ((s.pre enc C.prog fn conds apart (w.forCall tape i).memory i.args ∧ X (w.forCall tape i).memory i.args) ∧ sizedMet enc C.prog fn (OpenSpec.ofChange s) apart (w.forCall tape i).memory i.args) ∧ a.holds C.prog (lone (Frame.enter C.prog f i.args .normal) [] (w.forCall tape i)))
    (contract : ∀ (W : World) (base : Nat) (args : Array Value) (ds gs : List (DataW H)) (before : List MemPlace),
      (∀ (j : Nat) t v, fn.params[j]? = some t → args[j]? = some v → Value.okWide C.prog W .any base t v) →
      DataW.Whole enc C.prog fn.params.toList s.vars apart W args.toList ds gs before →
      conds.all (PathCond.test C.prog ⟨fn.params.toList, ds, s.plain.varTypes C.prog, gs⟩) = true →
      (DataW.weightsEach C.prog (fn.params.toList ++ s.plain.varTypes C.prog) (ds ++ gs)).all (· ≤ reachBytes) = true → X W args →
      W.ShapedOpen C.prog →
      a.holds C.prog (lone (Frame.enter C.prog f args .normal) [] W) →
      Calls C.prog f args W fun e W' => ∃ v, e = .returned v ∧ s.post enc C.prog fn apart fresh handsOn again W args v W') :
    ReturnsInHanded a C os f .any (fun w args => (s.pre enc C.prog fn conds apart w args ∧ X w args) ∧ sizedMet enc C.prog fn (OpenSpec.ofChange s) apart w args) (s.post enc C.prog fn apart fresh handsOn again) := by
  refine returnsInHanded_of_calls own started noInit witness ?_
  intro w tape i _ hsh _ hok hpre hholds
  obtain ⟨_, _, _, fn', hfn', _, _, _, _, hval⟩ := hok
  have e : fn' = fn := Option.some.inj (hfn'.symm.trans hfn)
  subst e
  obtain ⟨⟨⟨ds, gs, before, hw, hc⟩, hx⟩, hz⟩ := hpre
  have hw' := DataW.Whole.of_heap (w' := w.forCall tape i) (by rfl) hw
  refine (contract (w.forCall tape i) w.heap.size i.args ds gs before hval hw' hc (hz.weights hw) (hX _ _ _ (by rfl) hx) hsh hholds).mono fun e W' ⟨v, he, hp⟩ => ?_
  subst he
  exact ChangeSpec.post_blind hp
theorem laidMet_from {P : Program} {l : List (String × DataW Unit)} {x : String × DataW Unit} {r : List (String × DataW Unit)} {w : World} (h : laidMet P (l ++ x :: r) w) : laidMet P (x :: r) w := by
  induction l with
  | nil => exact h
  | cons a l ih => exact ih h.tail
end Go.Proofs.YtadaegehdcngdaaGreatDoor.LaidKit
end

section
namespace Go.Proofs.YtadaegehdcngdaaGreatDoor.RowFnExactPipeReport
open Go.ChangeShapes Go.WideShapes Go.ChangeAt Go.RowKit Go.Proofs.YtadaegehdcngdaaGreatDoorW.PrintWords Go.Proofs.YtadaegehdcngdaaGreatDoor.XV Go.Proofs.YtadaegehdcngdaaGreatDoor.Open
open Go.ChangeMaps (open_string shut_string)
set_option linter.unusedVariables false
theorem own : ownKnob Tryz.prog.godebug = none := by kernel_rfl
theorem laidOut : laidOutB Tryz.prog = true := by kernel_rfl
set_option maxRecDepth 100000 in
theorem lifted (os : Os) (started : os.Started) (H : Type) (enc : TypeId × Value → H) :
    ReturnsInHanded {} Tryz.checked os 4 .any (fun w args => (Rows.fnExactPipeReportSpec.pre enc Tryz.prog Tryz.f4 Rows.fnExactPipeReportRow.domain false w args ∧ laidMetH Tryz.prog Rows.fnExactPipeReportRow.laid w) ∧ sizedMet enc Tryz.prog Tryz.f4 (OpenSpec.ofChange Rows.fnExactPipeReportSpec) false w args) (Rows.fnExactPipeReportSpec.post enc Tryz.prog Tryz.f4 false true false false) := by
  refine LaidKit.returns_laid_shaped (C := Tryz.checked) (X := fun w _ => laidMetH Tryz.prog Rows.fnExactPipeReportRow.laid w) (fun _ _ _ hh h => h.of_heap hh) own started (by kernel_rfl) Tryz.func4
    (ChangeSpec.witness_shaped (enc := enc) (C := Tryz.checked) (os := os) (X := fun w _ => laidMetH Tryz.prog Rows.fnExactPipeReportRow.laid w) false (World.laidAll Tryz.prog os Rows.fnExactPipeReportRow.laid) #[(.agg #[(.slice none 0 0), (.slice none 0 0)]), (.slice none 0 0)] 8 (World.laidAll_os _ _ _)
      (World.shaped_of_ZipB (by kernel_rfl) (by kernel_rfl)) (by kernel_rfl) (by kernel_rfl) (by kernel_rfl)
      (by rw [MakeChecks.laidMetH_plain _ _ _ (by kernel_rfl)]; exact laidMet_laidAll _ (by kernel_rfl) (by kernel_rfl))) ?_
  intro W base args ds gs before hval0 hW hcnd hsz0 hLD hsh _
  have hsz : (DataW.weightsEach Tryz.prog (Tryz.f4.params.toList ++ Rows.fnExactPipeReportSpec.plain.varTypes Tryz.prog) (ds ++ gs)).all (· ≤ reachBytes) = true := hsz0
  have hval : ∀ (j : Nat) t v, Tryz.f4.params[j]? = some t → args[j]? = some v → Value.okWide Tryz.prog W .any base t v := hval0
  have hW' := hW
  obtain ⟨p, q, hA0, hV, rfl, hfz, hnd⟩ := hW
  have hA : DataW.TrodAll enc Tryz.prog W 0 (fun _ => true) true Tryz.f4.params.toList args.toList ds p := hA0
  rw [Tryz.params4] at hA hval hsz
  obtain ⟨v0, vs0, d0, ds0, p0, q0, hargs, rfl, rfl, h0, r0⟩ := trodAll_cons hA
  obtain ⟨v1, vs1, d1, ds1, p1, q1, rfl, rfl, rfl, h1, r1⟩ := trodAll_cons r0
  obtain ⟨rfl, rfl, rfl⟩ := trodAll_nil r1
  obtain rfl : args = #[v0, v1] := by cases args; simp_all
  obtain ⟨rfl, rfl⟩ := trodVars_none hV
  have kk0 := h0
  have lt0 : ∀ x ∈ p0, x.block < W.heap.size := by obtain ⟨m, hm⟩ := kk0; exact DataW.trod_lt m _ _ _ hm
  obtain ⟨cs0, a0, rfl, hK0, hq0⟩ := open_st Tryz.underlying25 opens25 (hval 0 25 v0 rfl rfl) h0
  obtain ⟨A0_0, c0_0, A0_1, c0_1, rfl, hc0_0, hr0_0, hc0_1, hr0_1⟩ := k25_open hK0
  have kk1 := h1
  have lt1 : ∀ x ∈ p1, x.block < W.heap.size := by obtain ⟨m, hm⟩ := kk1; exact DataW.trod_lt m _ _ _ hm
  obtain ⟨A1, c1, a1, rfl, hc1, hr1, hq1⟩ := open_sl Tryz.underlying22 (by kernel_rfl) (Opens.int Tryz.underlying2 (by kernel_rfl)) (hval 1 22 v1 rfl rfl) h1
  have hst : ShT Tryz.prog W := ⟨hsh, by
    have h_ : laidMetH Tryz.prog Rows.fnExactPipeReportRow.laid W := hLD
    rw [MakeChecks.laidMetH_plain _ _ _ (by kernel_rfl)] at h_
    have e_ : Rows.fnExactPipeReportRow.laid = Rows.fnExactPipeReportRow.laid.take 2 ++ ("internal/strconv.uint64pow10", Lib.tabData .u64 Lib.pow10Tab) :: Rows.fnExactPipeReportRow.laid.drop 3 := by kernel_rfl
    rw [e_] at h_
    exact Lib.tabIs_of_head (g := (Tryz.prog.globalNamed "internal/strconv.uint64pow10").getD 0) (t := ((Tryz.prog.globals[(Tryz.prog.globalNamed "internal/strconv.uint64pow10").getD 0]?).map (·.type)).getD 0) (e := 113) (n := 20) (by kernel_rfl) (by kernel_rfl) (by kernel_rfl) (by kernel_rfl) (by kernel_rfl) (by kernel_rfl) (LaidKit.laidMet_from h_)⟩
  obtain ⟨k, hp⟩ := PureFnExactPipeReport.pure a0 a1 hq0 hq1
  clear hA0 hval0 hsz0 hsz
  refine (laws_FnExactPipeReport.calls k A0_0 c0_0 a0.f0 A0_1 c0_1 a0.f1 A1 c1 a1 true W hr0_0 hc0_0 hr0_1 hc0_1 hr1 hc1 hst hp).mono fun e W' ⟨he, bel0⟩ => ?_
  have bel : Below W.heap.size W W' := bel0
  subst he
  exact ⟨_, rfl, _, _, _, [], _, [], hW', trodAll_mk1 (shut_bool Tryz.underlying4 _), (trodAll_cons_mk (Below.trod laidOut (by kernel_rfl) (of_decide_eq_true (by kernel_rfl)) kk0 bel lt0) (trodAll_cons_mk (Below.trod laidOut (by kernel_rfl) (of_decide_eq_true (by kernel_rfl)) kk1 bel lt1) trodAll_mk0)), rfl, bel.frame _, fun h => by cases h⟩
theorem over : Rows.fnExactPipeReportRow.holds Tryz.pinned (OpenSpec.ofChange Rows.fnExactPipeReportSpec) :=
  OpenClaim.holds_of_wide 4 Tryz.f4 rfl rfl rfl rfl rfl rfl rfl ⟨rfl, rfl, rfl, rfl, rfl⟩ rfl rfl rfl rfl rfl (by kernel_rfl) Tryz.func4 (by kernel_rfl)
    (of_decide_eq_true (by kernel_rfl)) (by unfold Func.isWrapper; first | (rw [if_pos (by decide +kernel)]; kernel_rfl) | (rw [if_neg (by decide +kernel)]; exact ⟨rfl, rfl⟩))
    (fun os started H enc _ => lifted os started H enc)
end Go.Proofs.YtadaegehdcngdaaGreatDoor.RowFnExactPipeReport
namespace Go.Proofs.YtadaegehdcngdaaGreatDoor
theorem fnExactPipeReport_holds : Rows.FnExactPipeReportSaid := RowFnExactPipeReport.over
theorem fnExactPipeReport_card_holds : Rows.FnExactPipeReportCardSaid :=
  Claim7.holds_tied_plain_at .later [] [.data, .data, .data, .data, .pinned] true (true, "a8a4fb448eedc8c5943b38041d64f9c13a3100edf626fc5433c87dec384f93dd") false fnExactPipeReport_holds (fun _ h => by cases h) (by kernel_rfl) (fun _ h => by cases h) fnExactPipeReport_row_tie rfl ⟨rfl, rfl⟩ (by kernel_rfl) rfl
    (fun f fn hf hfn => by
      obtain rfl : f = 4 := Option.some.inj ((show Tryz.prog.funcNamed "loop.example/g01011/laws.FnExactPipeReport" = some 4 by kernel_rfl).symm.trans hf) |>.symm
      obtain rfl : fn = Tryz.f4 := (Option.some.inj (Tryz.func4.symm.trans hfn)).symm
      exact ⟨by kernel_rfl, fun j t ht => by
        rw [Tryz.params4] at ht
        have hm : t ∈ [25, 22] := by simpa using Array.mem_of_getElem? ht
        have hall : ([25, 22].all fun u => !Tryz.prog.wantsStandIn u) = true := by kernel_rfl
        exact (show Tryz.prog.wantsStandIn t = false by simpa using List.all_eq_true.1 hall t hm)⟩)
    (by kernel_rfl)
end Go.Proofs.YtadaegehdcngdaaGreatDoor
end
