/- The law FnPages: part 5 of its texts, joined (wip/pack.py). -/
import Derived.Test.YtpkcjkfkohmcfaaKFnPagesa
import Derived.Test.YtpkcjkfkohmcfaaKFnPagesb
import Derived.Test.YtpkcjkfkohmcfaaKFnPagesc
import Derived.Test.YtpkcjkfkohmcfaaKFnPagesd
import Derived.Test.YtpkcjkfkohmcfaaKFnPagese
import Derived.Lib.Strings
import Derived.Laws.BitsLemmas
import Derived.DataShut
import Derived.Test.YtpkcjkfkohmcfaaRows
import Derived.WalkKit
import Derived.ProofKit
import Derived.OpenShut
import Derived.ShutString
import Derived.ChangeOld
import Derived.Below
import Derived.SizedLaws
import Derived.HandedShaped

section
namespace Go.Proofs.Ytpkcjkfkohmcfaa.PPages
open Go.RowKit Go.Proofs.YtpkcjkfkohmcfaaW.PrintWords Go.Proofs.YtpkcjkfkohmcfaaW.PrintMore Go.Proofs.Ytpkcjkfkohmcfaa.XN Go.Proofs.Ytpkcjkfkohmcfaa.EvK Go.Proofs.Ytpkcjkfkohmcfaa.LinesN
set_option linter.unusedVariables false
set_option linter.unusedSimpArgs false
theorem rdL (rows : List (List ByteArray)) (q : Nat) (hq : q < rows.length) : rd_L1 rows (q : Int) = rows[q] := by
  unfold rd_L1
  simp [List.getD_eq_getElem?_getD, List.getElem?_eq_getElem hq]
abbrev page := impl_PagesOf.page
abbrev pages := impl_PagesOf.pages
theorem pages_len (l : List ByteArray) (c : Nat) (hd : ByteArray) (hc : 0 < c) : (pages l c hd).length ≤ l.length := by
  simp only [pages, impl_PagesOf.pages, List.length_map, List.length_range]
  cases hl : l.length with
  | zero => rw [Nat.zero_add, Nat.div_eq_of_lt (by omega)]; omega
  | succ n =>
    have : (n + 1 + (c - 1)) / c ≤ n + 1 := by
      refine Nat.div_le_of_le_mul ?_
      have h1 : n * 1 ≤ n * c := Nat.mul_le_mul_left _ hc
      have h2 : c * (n + 1) = n * c + c := by rw [Nat.mul_comm, Nat.succ_mul]
      omega
    exact this
def pagesOf (l : List ByteArray) (h : Int) (hd : ByteArray) : List (List ByteArray) × Int :=
  if repOk l = true then (if 2 ≤ h ∧ h ≤ 200 then (if lineOk hd = true then (pages l (h - 1).toNat hd, 0) else ([], 2)) else ([], 2)) else ([], 1)
theorem impl_ev (l : List ByteArray) (h : Int) (hd : ByteArray) (hl : l.length ≤ 1048576) (hs : ∀ x ∈ l, x.size ≤ 1048576) (hh : hd.size ≤ 1048576) : Ev (fun k => impl_PagesOf.f k l h hd) (pagesOf l h hd) := by
  unfold impl_PagesOf.f pagesOf
  refine Ev.bind (impl_rep_ev l hl hs) ?_
  cases hr : repOk l with
  | false => exact Ev.now _
  | true =>
    have hl2 : l.length ≤ 200 := by
      simp only [repOk, Bool.and_eq_true, decide_eq_true_eq] at hr
      omega
    have hw : impl_within.f h 2 200 = some (decide (2 ≤ h ∧ h ≤ 200)) := by
      unfold impl_within.f
      by_cases h1 : h ≥ 2
      · rw [if_pos h1]; congr 1; simp; omega
      · rw [if_neg h1, decide_eq_false (by omega)]
    simp only [if_true, hw, Option.bind_some]
    by_cases hb : 2 ≤ h ∧ h ≤ 200
    · rw [decide_eq_true hb]
      simp only [if_true, if_pos hb]
      refine Ev.bind (impl_line_ev hd hh) ?_
      cases lineOk hd with
      | false => exact Ev.now _
      | true =>
        simp only [if_true]
        rw [if_pos (show l.length ≤ 100000 ∧ 2 ≤ h ∧ h ≤ 200 from ⟨by omega, hb⟩)]
        exact Ev.now _
    · rw [decide_eq_false hb]
      simp only [Bool.false_eq_true, if_false, if_neg hb]
      exact Ev.now _
end Go.Proofs.Ytpkcjkfkohmcfaa.PPages
end

section
namespace Go.Proofs.Ytpkcjkfkohmcfaa.PFindI
open Go.RowKit Go.Proofs.YtpkcjkfkohmcfaaW.PrintWords Go.Proofs.Ytpkcjkfkohmcfaa.XN Go.Proofs.Ytpkcjkfkohmcfaa.EvK Go.Proofs.Ytpkcjkfkohmcfaa.LinesN
set_option linter.unusedVariables false
set_option linter.unusedSimpArgs false
theorem toList_eq (s : ByteArray) : s.toList = s.data.toList := by
  have := Lib.toList_data s
  first | exact this | exact this.symm
def has (s w : ByteArray) : Bool := Lib.contains s.data.toList w.data.toList
theorem implHas_eq (s w : ByteArray) (hs : s.size ≤ 1048576) : strings_Contains.f s w = some (has s w) := by
  unfold strings_Contains.f has
  rw [if_pos (by omega)]
def found (w : ByteArray) : Nat → List ByteArray → List Int
  | _, [] => []
  | i, s :: l => if has s w = true then (i : Int) :: found w (i + 1) l else found w (i + 1) l
theorem found_len (w : ByteArray) : ∀ (l : List ByteArray) (i : Nat), (found w i l).length ≤ l.length
  | [], _ => by simp [found]
  | s :: l, i => by
    unfold found
    have := found_len w l (i + 1)
    split <;> simp <;> omega
theorem found_mem (w : ByteArray) : ∀ (l : List ByteArray) (i : Nat), ∀ x ∈ found w i l, (i : Int) ≤ x ∧ x < (i : Int) + l.length
  | [], _ => by simp [found]
  | s :: l, i => by
    unfold found
    intro x hx
    have ih := found_mem w l (i + 1)
    have h : x = (i : Int) ∨ x ∈ found w (i + 1) l := by
      split at hx
      · simpa using hx
      · exact Or.inr hx
    rcases h with rfl | h
    · simp; omega
    · have := ih x h
      simp; omega
theorem found_take (w : ByteArray) (l : List ByteArray) (i : Nat) (h : i < l.length) : ∀ j, found w j (l.take (i + 1)) = found w j (l.take i) ++ (if has l[i] w = true then [((j + i : Nat) : Int)] else []) := by
  induction l generalizing i with
  | nil => simp at h
  | cons s l ih =>
    intro j
    cases i with
    | zero => simp [found]
    | succ i =>
      have := ih i (by simpa using h) (j + 1)
      simp only [List.take_succ_cons, found, List.getElem_cons_succ]
      rw [this, show j + 1 + i = j + (i + 1) by omega]
      split <;> simp
def findOf (l : List ByteArray) (w : ByteArray) : List Int × Int := if repOk l = true then (if w.data.toList = [] then ([], 2) else (found w 0 l, 0)) else ([], 1)
theorem implFind_ev (l : List ByteArray) (w : ByteArray) (hl : l.length ≤ 1048576) (hs : ∀ x ∈ l, x.size ≤ 1048576) (hw : w.size ≤ 1048576) : Ev (fun k => impl_FindLines.f k l w) (findOf l w) := by
  unfold impl_FindLines.f findOf
  refine Ev.bind (impl_rep_ev l hl hs) ?_
  cases repOk l with
  | false => exact Ev.now _
  | true =>
    simp only [if_true, toList_eq]
    by_cases he : w.data.toList = []
    · simp only [if_pos he]; exact Ev.now _
    simp only [if_neg he]
    apply EvP.eq
    refine for_evp (L := fun k (a : List Int) i => impl_FindLines.l0 k w a l (l.length : Int) i) l.length (fun i a => a = found w 0 (l.take i)) ?_ ?_ [] (by simp [found])
    · intro i a hi ha K
      subst ha
      have e : rdOf ByteArray.empty l (i : Int) = l[i] := rdOf_at l ByteArray.empty i hi
      have hlen := found_len w (l.take i) 0
      rw [List.length_take] at hlen
      refine EvP.step (fun k => impl_FindLines.l0.eq_2 _ _ _ _ _ k) ?_
      simp only [if_pos (show (i : Int) < (l.length : Int) by omega), if_pos (show (0 : Int) ≤ (i : Int) by omega), e, w64 (show -9223372036854775808 ≤ (i : Int) + 1 by omega) (by omega), if_pos (show (found w 0 (l.take i)).length < 17592186044416 by omega), implHas_eq l[i] w (hs _ (List.getElem_mem hi)), Option.bind_some]
      have ht := found_take w l i hi 0
      cases hh : has l[i] w with
      | true =>
        simp only [hh, if_true, Nat.zero_add] at ht ⊢
        exact K _ ht.symm
      | false =>
        simp only [hh, Bool.false_eq_true, if_false, List.append_nil] at ht ⊢
        exact K _ ht.symm
    · intro a ha
      refine EvP.step (fun k => impl_FindLines.l0.eq_2 _ _ _ _ _ k) ?_
      simp only [if_neg (show ¬ (l.length : Int) < (l.length : Int) by omega)]
      rw [ha, List.take_length]
      exact EvP.now rfl
end Go.Proofs.Ytpkcjkfkohmcfaa.PFindI
end

section
namespace Go.Proofs.Ytpkcjkfkohmcfaa.PBars
open Go.RowKit Go.Proofs.YtpkcjkfkohmcfaaW.PrintWords Go.Proofs.YtpkcjkfkohmcfaaW.PrintMore Go.Proofs.Ytpkcjkfkohmcfaa.XN Go.Proofs.Ytpkcjkfkohmcfaa.EvK Go.Proofs.Ytpkcjkfkohmcfaa.LinesN
set_option linter.unusedVariables false
set_option linter.unusedSimpArgs false
def bar (k : Nat) : ByteArray := ⟨(List.replicate k 35).toArray⟩
theorem rep_eq (k : Nat) : Lib.repeatL [35] k = List.replicate k 35 := by
  induction k with
  | zero => rfl
  | succ k ih => simp [Lib.repeatL, ih, List.replicate_succ]
theorem bar_size (k : Nat) : (bar k).size = k := by
  rw [size_len']
  simp [bar]
def gr (l : List Int) : Int := l.foldl mx 0
theorem fold_le (l : List Int) : ∀ a : Int, a ≤ l.foldl mx a ∧ ∀ x ∈ l, x ≤ l.foldl mx a := by
  induction l with
  | nil => intro a; simp
  | cons y l ih =>
    intro a
    obtain ⟨h1, h2⟩ := ih (mx a y)
    have h3 : a ≤ mx a y ∧ y ≤ mx a y := by unfold mx; split <;> omega
    simp only [List.foldl_cons, List.mem_cons]
    exact ⟨by omega, fun x hx => by rcases hx with rfl | hx; omega; exact h2 x hx⟩
theorem gr_take (l : List Int) (i : Nat) (h : i < l.length) : gr (l.take (i + 1)) = mx (gr (l.take i)) l[i] := by
  unfold gr
  rw [List.take_succ_eq_append_getElem h, List.foldl_append]
  rfl
theorem gr_nonneg (l : List Int) : 0 ≤ gr l := (fold_le l 0).1
def cnt (w g n : Int) : Nat := (n * w / mx g 1).toNat
def bars (l : List Int) (w g : Int) : List ByteArray := l.map (fun n => bar (cnt w g n))
def inR (n a b : Int) : Bool := decide (a ≤ n) && decide (n ≤ b)
theorem within_eq (n a b : Int) : impl_within.f n a b = some (inR n a b) := by
  unfold impl_within.f inR
  by_cases h : n ≥ a
  · rw [if_pos h, decide_eq_true (show a ≤ n from h), Bool.true_and]
  · rw [if_neg h, decide_eq_false (show ¬ a ≤ n from h), Bool.false_and]
def okAll (l : List Int) (w : Int) : Bool := l.all (impl_allWithin.ok 0 1000000000000) && inR w 1 100
def done (x : List ByteArray) : List ByteArray × Int := if repOk x = true then (x, 0) else ([], 5)
def ans (l : List Int) (w : Int) : List ByteArray × Int := if okAll l w = true then done (bars l w (gr l)) else ([], 2)
theorem inR_ok {n a b : Int} : inR n a b = true ↔ a ≤ n ∧ n ≤ b := by unfold inR; simp
theorem quot {w g n : Int} (hw : 1 ≤ w ∧ w ≤ 100) (hn : 0 ≤ n ∧ n ≤ 1000000000000) (hg : 0 ≤ g) :
    wrap64 (n * w) = n * w ∧ wrap64 (Int.tdiv (n * w) (mx g 1)) = (cnt w g n : Int) ∧ (cnt w g n : Int) ≤ 100000000000000 ∧ (n ≤ g → (cnt w g n : Int) ≤ 100) := by
  have h1 : n * w ≤ n * 100 := Int.mul_le_mul_of_nonneg_left hw.2 hn.1
  have h0 : 0 ≤ n * w := Int.mul_nonneg hn.1 (by omega)
  have hm : 1 ≤ mx g 1 ∧ g ≤ mx g 1 := by unfold mx; split <;> omega
  have hq0 : 0 ≤ n * w / mx g 1 := Int.ediv_nonneg h0 (by omega)
  have hq1 : n * w / mx g 1 ≤ n * w := Int.ediv_le_self _ h0
  have hc : (cnt w g n : Int) = n * w / mx g 1 := by unfold cnt; omega
  refine ⟨w64 (by omega) (by omega), ?_, by omega, ?_⟩
  · rw [hc, Int.tdiv_eq_ediv_of_nonneg h0, w64 (by omega) (by omega)]
  · intro hng
    rw [hc]
    have : n * w ≤ 100 * mx g 1 := by
      have h3 : n * w ≤ mx g 1 * w := Int.mul_le_mul_of_nonneg_right (by omega) (by omega)
      have h4 : mx g 1 * w ≤ mx g 1 * 100 := Int.mul_le_mul_of_nonneg_left hw.2 (by omega)
      omega
    exact Int.le_of_lt_add_one (Int.ediv_lt_of_lt_mul (by omega) (by rw [Int.add_mul]; omega))
theorem bars_take (l : List Int) (w g : Int) (i : Nat) (h : i < l.length) : bars (l.take (i + 1)) w g = bars (l.take i) w g ++ [bar (cnt w g l[i])] := by
  unfold bars
  rw [List.take_succ_eq_append_getElem h, List.map_append]
  rfl
theorem bars_len (l : List Int) (w g : Int) (i : Nat) : (bars (l.take i) w g).length ≤ l.length := by
  unfold bars
  rw [List.length_map, List.length_take]
  omega
theorem okAll_mem {l : List Int} {w : Int} (h : okAll l w = true) : (∀ n ∈ l, 0 ≤ n ∧ n ≤ 1000000000000) ∧ 1 ≤ w ∧ w ≤ 100 := by
  unfold okAll at h
  rw [Bool.and_eq_true, List.all_eq_true, inR_ok] at h
  exact ⟨fun n hn => inR_ok.1 (h.1 n hn), h.2⟩
theorem bars_small {l : List Int} {w : Int} (h : okAll l w = true) : ∀ x ∈ bars l w (gr l), x.size ≤ 1048576 := by
  obtain ⟨h1, h2⟩ := okAll_mem h
  intro x hx
  obtain ⟨n, hn, rfl⟩ := List.mem_map.1 hx
  have := (quot h2 (h1 n hn) (gr_nonneg l)).2.2.2 ((fold_le l 0).2 n hn)
  rw [bar_size]
  omega
theorem impl_ev (l : List Int) (w : Int) (hl : l.length ≤ 1048576) : Ev (fun k => impl_BarLines.f k l w) (ans l w) := by
  unfold impl_BarLines.f impl_allWithin.f ans
  simp only [within_eq, Option.bind_some]
  have hj : ∀ b : Bool, (b = false → okAll l w = true) → Ev (fun k => impl_BarLines.j0 k l w b) (if b = false then done (bars l w (gr l)) else ([], 2)) := by
    intro b hb
    refine Ev.step (fun k => impl_BarLines.j0.eq_2 _ _ _ k) ?_
    cases b with
    | true => simp only [if_true]; exact Ev.now _
    | false =>
      obtain ⟨h1, h2⟩ := okAll_mem (hb rfl)
      simp only [Bool.false_eq_true, if_false, if_true]
      apply EvP.eq
      refine for_evp (L := fun k (g : Int) i => impl_BarLines.l0 k l w g l (l.length : Int) i) l.length (fun i g => g = gr (l.take i)) ?_ ?_ 0 (by simp [gr])
      · rintro i g hi rfl K
        refine EvP.step (fun k => impl_BarLines.l0.eq_2 _ _ _ _ _ _ k) ?_
        simp only [if_pos (show (i : Int) < (l.length : Int) by omega), if_pos (show (0 : Int) ≤ (i : Int) by omega), rd_at l i hi, w64 (show -9223372036854775808 ≤ (i : Int) + 1 by omega) (by omega)]
        exact K _ (gr_take l i hi).symm
      · rintro g rfl
        rw [List.take_length]
        refine EvP.step (fun k => impl_BarLines.l0.eq_2 _ _ _ _ _ _ k) ?_
        simp only [if_neg (show ¬ (l.length : Int) < (l.length : Int) by omega)]
        refine for_evp (L := fun k (x : List ByteArray) i => impl_BarLines.l1 k w (gr l) x l (l.length : Int) i) l.length (fun i x => x = bars (l.take i) w (gr l)) ?_ ?_ [] (by simp [bars])
        · rintro i x hi rfl K
          obtain ⟨q1, q2, q3, _⟩ := quot h2 (h1 _ (List.getElem_mem hi)) (gr_nonneg l)
          have hlen := bars_len l w (gr l) i
          have hm : ¬ mx (gr l) 1 = 0 := by unfold mx; split <;> omega
          have hr : strings_Repeat.f (⟨#[35]⟩ : ByteArray) (cnt w (gr l) l[i] : Int) = some (bar (cnt w (gr l) l[i])) := by
            unfold strings_Repeat.f bar
            rw [if_pos ⟨by omega, by omega, by rw [show (((⟨#[35]⟩ : ByteArray).size : Nat) : Int) = 1 from rfl, Int.one_mul]; omega⟩, Int.toNat_natCast]
            rw [show (⟨#[35]⟩ : ByteArray).data.toList = [35] from rfl, rep_eq]
          refine EvP.step (fun k => impl_BarLines.l1.eq_2 _ _ _ _ _ _ k) ?_
          simp only [if_pos (show (i : Int) < (l.length : Int) by omega), if_pos (show (0 : Int) ≤ (i : Int) by omega), rd_at l i hi, w64 (show -9223372036854775808 ≤ (i : Int) + 1 by omega) (by omega), if_neg hm, q1, q2, hr, Option.bind_some, if_pos (show (bars (l.take i) w (gr l)).length < 8796093022208 by omega)]
          exact K _ (bars_take l w (gr l) i hi).symm
        · rintro x rfl
          rw [List.take_length]
          refine EvP.step (fun k => impl_BarLines.l1.eq_2 _ _ _ _ _ _ k) ?_
          simp only [if_neg (show ¬ (l.length : Int) < (l.length : Int) by omega)]
          have hrep := impl_rep_ev (bars l w (gr l)) (by unfold bars; simpa using hl) (bars_small (hb rfl))
          unfold impl_reportOrFull.f done
          simp only [Option.bind_assoc]
          refine EvP.bind hrep ?_
          cases repOk (bars l w (gr l)) with
          | false => exact EvP.now rfl
          | true => exact EvP.now rfl
  cases h1 : l.all (impl_allWithin.ok 0 1000000000000) with
  | false =>
    have e : okAll l w = false := by unfold okAll; rw [h1, Bool.false_and]
    simp only [e, Bool.false_eq_true, if_false]
    exact hj true (fun h => absurd h (by decide))
  | true =>
    have e : okAll l w = inR w 1 100 := by unfold okAll; rw [h1, Bool.true_and]
    simp only [e, if_true]
    cases h2 : inR w 1 100 with
    | false => exact hj true (fun h => absurd h (by decide))
    | true => exact hj false (fun _ => by rw [e, h2])
end Go.Proofs.Ytpkcjkfkohmcfaa.PBars
end

section
namespace Go.Proofs.Ytpkcjkfkohmcfaa.PSrc
open Go.RowKit Go.Proofs.YtpkcjkfkohmcfaaW.PrintWords Go.Proofs.Ytpkcjkfkohmcfaa.XN Go.Proofs.Ytpkcjkfkohmcfaa.EvK
set_option linter.unusedVariables false
set_option linter.unusedSimpArgs false
def Bytes (c : List Int) : Prop := ∀ x ∈ c, 0 ≤ x ∧ x ≤ 255
def On (a a' d : Int) : Prop := a ≤ a' ∧ a' ≤ a + d
theorem rd_mem (c : List Int) (a : Int) (h0 : 0 ≤ a) (h1 : a < (c.length : Int)) : rd c a ∈ c := by
  unfold rd
  rw [List.getD_eq_getElem?_getD, List.getElem?_eq_getElem (by omega)]
  exact List.getElem_mem (by omega)
theorem low_byte (y : Int) : 0 ≤ wrap64 (Go.bits .and .u64 (IntKind.u64.wrap y / 1099511627776) 255) ∧ wrap64 (Go.bits .and .u64 (IntKind.u64.wrap y / 1099511627776) 255) ≤ 255 := by
  have hw : 0 ≤ IntKind.u64.wrap y ∧ IntKind.u64.wrap y < 18446744073709551616 := by
    rw [IntKind.wrap_u64]; omega
  have hm : Go.bits .and .u64 (IntKind.u64.wrap y / 1099511627776) 255 = (IntKind.u64.wrap y / 1099511627776) % 256 := bits_mask .u64 64 (by decide) (fun n h0 h1 => by rw [IntKind.wrap_u64]; omega) 8 (by decide) _ (by omega) (by omega)
  rw [hm, w64 (by omega) (by omega)]
  omega
theorem next_eq {c : List Int} (hc : Bytes c) (a s : Int) (h0 : 0 ≤ a) (h1 : a ≤ 4611686018427387904) : ∃ x s', spec_l00Src_next.f c a s = some (x, a + 1, s') ∧ 0 ≤ x ∧ x ≤ 255 := by
  unfold spec_l00Src_next.f
  simp only [w64 (show -9223372036854775808 ≤ a + 1 by omega) (by omega)]
  by_cases h : a < (c.length : Int)
  · obtain ⟨r0, r1⟩ := hc _ (rd_mem c a h0 h)
    simp only [if_pos h, if_pos h0, if_pos (show a + 1 ≤ (c.length : Int) by omega), w64 (show -9223372036854775808 ≤ rd c a by omega) (by omega)]
    exact ⟨_, _, rfl, r0, r1⟩
  · simp only [if_neg h]
    by_cases h2 : a + 1 ≤ (c.length : Int)
    · omega
    · simp only [if_neg h2]
      obtain ⟨l0, l1⟩ := low_byte ((IntKind.u64.wrap (IntKind.u64.wrap (s * 6364136223846793005))) + 1442695040888963407)
      exact ⟨_, _, rfl, l0, l1⟩
theorem pick_eq {c : List Int} (hc : Bytes c) (a s n : Int) (h0 : 0 ≤ a) (h1 : a ≤ 4611686018427387000) : ∃ x a' s', spec_l00Src_pick.f c a s n = some (x, a', s') ∧ 0 ≤ x ∧ (1 ≤ n → x < n) ∧ On a a' 2 := by
  unfold spec_l00Src_pick.f
  by_cases hn : n ≤ 1
  · simp only [if_pos hn]
    exact ⟨0, a, s, rfl, by omega, by omega, by omega, by omega⟩
  · simp only [if_neg hn]
    obtain ⟨x, s1, e1, x0, x1⟩ := next_eq hc a s h0 (by omega)
    simp only [e1, Option.bind_some, if_neg (show ¬ n = 0 by omega)]
    by_cases hb : n > 200
    · obtain ⟨y, s2, e2, y0, y1⟩ := next_eq hc (a + 1) s1 (by omega) (by omega)
      simp only [if_pos hb, e2, Option.bind_some, w64 (show -9223372036854775808 ≤ x * 256 by omega) (by omega), w64 (show -9223372036854775808 ≤ x * 256 + y by omega) (by omega)]
      refine ⟨_, _, _, rfl, ?_, fun _ => ?_, by omega, by omega⟩
      · exact Int.tmod_nonneg _ (by omega)
      · exact Int.tmod_lt_of_pos _ (by omega)
    · simp only [if_neg hb]
      refine ⟨_, _, _, rfl, ?_, fun _ => ?_, by omega, by omega⟩
      · exact Int.tmod_nonneg _ (by omega)
      · exact Int.tmod_lt_of_pos _ (by omega)
theorem text_eq {c : List Int} (hc : Bytes c) (a s : Int) (l : List ByteArray) (hl : l ≠ []) (h0 : 0 ≤ a) (h1 : a ≤ 4611686018427387000) : ∃ x a' s', spec_l00Src_text.f c a s l = some (x, a', s') ∧ x ∈ l ∧ On a a' 2 := by
  have hp : 1 ≤ l.length := by
    cases l with
    | nil => exact absurd rfl hl
    | cons x l => simp
  obtain ⟨x, a', s', e, x0, x1, h⟩ := pick_eq hc a s (l.length : Int) h0 h1
  have hx := x1 (by omega)
  refine ⟨rdOf ByteArray.empty l x, a', s', by unfold spec_l00Src_text.f; rw [e]; simp only [Option.bind_some, if_pos x0, if_pos hx], ?_, h⟩
  unfold rdOf
  rw [List.getD_eq_getElem?_getD, List.getElem?_eq_getElem (by omega)]
  exact List.getElem_mem (by omega)
theorem among_eq {c : List Int} (hc : Bytes c) (a s : Int) (l : List Int) (hl : l ≠ []) (h0 : 0 ≤ a) (h1 : a ≤ 4611686018427387000) : ∃ x a' s', spec_l00Src_among.f c a s l = some (x, a', s') ∧ x ∈ l ∧ On a a' 2 := by
  have hp : 1 ≤ l.length := by
    cases l with
    | nil => exact absurd rfl hl
    | cons x l => simp
  obtain ⟨x, a', s', e, x0, x1, h⟩ := pick_eq hc a s (l.length : Int) h0 h1
  have hx := x1 (by omega)
  exact ⟨rd l x, a', s', by unfold spec_l00Src_among.f; rw [e]; simp only [Option.bind_some, if_pos x0, if_pos hx], rd_mem l x x0 hx, h⟩
end Go.Proofs.Ytpkcjkfkohmcfaa.PSrc
end

section
namespace Go.Proofs.Ytpkcjkfkohmcfaa.PDraw30
open Go.RowKit Go.Proofs.YtpkcjkfkohmcfaaW.PrintWords Go.Proofs.YtpkcjkfkohmcfaaW.PrintMore Go.Proofs.Ytpkcjkfkohmcfaa.XN Go.Proofs.Ytpkcjkfkohmcfaa.EvK Go.Proofs.Ytpkcjkfkohmcfaa.PSrc
set_option linter.unusedVariables false
set_option linter.unusedSimpArgs false
theorem bytes_of {c : List Int} (h : ∀ y ∈ c, (Lit.int .u8 y).wf = true) : Bytes c := by
  intro x hx
  have := (Lit.wf_int_iff .u8 x).1 (h x hx)
  have e1 : IntKind.u8.min = 0 := by decide
  have e2 : IntKind.u8.max = 255 := by decide
  rw [e1, e2] at this
  exact this
theorem text_small {c : List Int} (hc : Bytes c) (a s : Int) (l : List ByteArray) (hl : l ≠ []) (hs : ∀ x ∈ l, x.size ≤ 100) (h0 : 0 ≤ a) (h1 : a ≤ 1000000) : ∃ x a' s', spec_l00Src_text.f c a s l = some (x, a', s') ∧ x.size ≤ 100 ∧ On a a' 2 := by
  obtain ⟨x, a', s', e, hm, ho⟩ := text_eq hc a s l hl h0 (by omega)
  exact ⟨x, a', s', e, hs x hm, ho⟩
theorem word30 {c : List Int} (hc : Bytes c) (a s : Int) (h0 : 0 ≤ a) (h1 : a ≤ 1000000) : ∃ x a' s', spec_l30DrawWord.f c a s = some (x, a', s') ∧ x.size ≤ 100 ∧ On a a' 2 := by
  obtain ⟨x, a', s', e, hs, ho⟩ := text_small hc a s [(⟨#[97]⟩ : ByteArray), (⟨#[99, 99, 99]⟩ : ByteArray), (⟨#[49, 50]⟩ : ByteArray), (⟨#[45, 53]⟩ : ByteArray), (⟨#[97, 105, 114, 119, 97, 121]⟩ : ByteArray), (⟨#[]⟩ : ByteArray), (⟨#[120, 44, 121]⟩ : ByteArray), (⟨#[126]⟩ : ByteArray)] (by simp) (by decide) h0 h1
  refine ⟨x, a', s', ?_, hs, ho⟩
  unfold spec_l30DrawWord.f
  rw [e]
  rfl
theorem sz_app (x y : ByteArray) : (x ++ y).size = x.size + y.size := ByteArray.size_append
def Lns (r : List ByteArray) : Prop := r.length ≤ 300 ∧ ∀ x ∈ r, x.size ≤ 1000
theorem lns_snoc {r : List ByteArray} {x : ByteArray} (h : r.length ≤ 200 ∧ ∀ x ∈ r, x.size ≤ 1000) (hx : x.size ≤ 1000) : Lns (r ++ [x]) := by
  refine ⟨by simp; omega, fun y hy => ?_⟩
  rw [List.mem_append, List.mem_singleton] at hy
  rcases hy with hy | rfl
  · exact h.2 y hy
  · exact hx
theorem long_ev {c : List Int} (x3 : List ByteArray) (h3 : x3.length ≤ 200 ∧ ∀ x ∈ x3, x.size ≤ 1000) (n a s : Int) (hn : n ≤ 101) : ∀ (d : Nat) (y : ByteArray), (y.size : Int) + d = 101 ∨ y.size ≥ 101 → y.size ≤ 200 → EvP (fun k => spec_l30Draw.l1 k x3 n y c a s) (fun r => Lns r.1 ∧ r.2.1 = a) := by
  intro d
  induction d with
  | zero =>
    intro y hy hs
    refine EvP.step (fun k => spec_l30Draw.l1.eq_2 _ _ _ _ _ _ k) ?_
    simp only [if_neg (show ¬ (y.size : Int) < n by omega), if_pos (show x3.length < 8796093022208 by omega)]
    exact EvP.now ⟨lns_snoc h3 (by omega), rfl⟩
  | succ d ih =>
    intro y hy hs
    refine EvP.step (fun k => spec_l30Draw.l1.eq_2 _ _ _ _ _ _ k) ?_
    by_cases h : (y.size : Int) < n
    · simp only [if_pos h, if_pos (show y.size + 1 ≤ 9223372036854775807 by omega)]
      have e : (y ++ (⟨#[121]⟩ : ByteArray)).size = y.size + 1 := by rw [sz_app]; rfl
      exact ih _ (by rw [e]; omega) (by rw [e]; omega)
    · simp only [if_neg h, if_pos (show x3.length < 8796093022208 by omega)]
      exact EvP.now ⟨lns_snoc h3 (by omega), rfl⟩
theorem draw_loop {c : List Int} (hc : Bytes c) : ∀ (n : Nat) (x3 : List ByteArray) (a s : Int), x3.length + n ≤ 100 → (∀ x ∈ x3, x.size ≤ 1000) → 0 ≤ a → a + 10 * n ≤ 10000 → EvP (fun k => spec_l30Draw.l0 k x3 (n : Int) c a s) (fun r => Lns r.1 ∧ 0 ≤ r.2.1 ∧ r.2.1 ≤ a + 10 * n + 10) := by
  intro n
  induction n with
  | zero =>
    intro x3 a s h1 h2 h3 h4
    refine EvP.step (fun k => spec_l30Draw.l0.eq_2 _ _ _ _ _ k) ?_
    obtain ⟨p, a1, s1, e1, p0, p1, q0, q1⟩ := pick_eq hc a s 20 h3 (by omega)
    simp only [if_neg (show ¬ ((0 : Nat) : Int) > 0 by omega), e1, Option.bind_some]
    by_cases z0 : p = 0
    · obtain ⟨x, a2, s2, e2, hx, r0, r1⟩ := text_small hc a1 s1 [(⟨#[10]⟩ : ByteArray), (⟨#[97, 127]⟩ : ByteArray), (⟨#[9]⟩ : ByteArray)] (by simp) (by decide) (by omega) (by omega)
      simp only [if_pos z0, e2, Option.bind_some, if_pos (show x3.length < 8796093022208 by omega)]
      exact EvP.now ⟨lns_snoc ⟨by omega, h2⟩ (by omega), by show 0 ≤ a2; omega, by show a2 ≤ _; omega⟩
    simp only [if_neg z0]
    by_cases z1 : p = 1
    · obtain ⟨x, a2, s2, e2, hx, r0, r1⟩ := among_eq hc a1 s1 [200, 201] (by simp) (by omega) (by omega)
      have hx2 : x = 200 ∨ x = 201 := by simpa using hx
      simp only [if_pos z1, e2, Option.bind_some, if_pos (show 0 ≤ x by omega), if_pos (show x.toNat ≤ 17592186044416 by omega)]
      refine EvP.now ⟨⟨by simp; omega, fun y hy => ?_⟩, by show 0 ≤ a2; omega, by show a2 ≤ _; omega⟩
      rw [(List.mem_replicate.1 hy).2]
      decide
    simp only [if_neg z1]
    by_cases z2 : p = 2
    · obtain ⟨x, a2, s2, e2, hx, r0, r1⟩ := among_eq hc a1 s1 [100, 101] (by simp) (by omega) (by omega)
      have hx2 : x = 100 ∨ x = 101 := by simpa using hx
      simp only [if_pos z2, e2, Option.bind_some]
      refine (long_ev x3 ⟨by omega, h2⟩ x a2 s2 (by omega) 101 (⟨#[]⟩ : ByteArray) (.inl (by decide)) (by decide)).mono ?_
      rintro r ⟨hr, e⟩
      exact ⟨hr, by omega, by omega⟩
    · simp only [if_neg z2]
      exact EvP.now ⟨⟨by show x3.length ≤ 300; omega, h2⟩, by show 0 ≤ a1; omega, by show a1 ≤ _; omega⟩
  | succ n ih =>
    intro x3 a s h1 h2 h3 h4
    refine EvP.step (fun k => spec_l30Draw.l0.eq_2 _ _ _ _ _ k) ?_
    obtain ⟨x, a1, s1, e1, hx, q0, q1⟩ := word30 hc a s h3 (by omega)
    obtain ⟨y, a2, s2, e2, hy, r0, r1⟩ := text_small hc a1 s1 [(⟨#[]⟩ : ByteArray), (⟨#[32]⟩ : ByteArray), (⟨#[32, 32]⟩ : ByteArray)] (by simp) (by decide) (by omega) (by omega)
    obtain ⟨z, a3, s3, e3, hz, t0, t1⟩ := word30 hc a2 s2 (by omega) (by omega)
    have e4 := sz_app x y
    have e5 := sz_app (x ++ y) z
    simp only [if_pos (show ((n + 1 : Nat) : Int) > 0 by omega), e1, Option.bind_some, e2, if_pos (show x.size + y.size ≤ 9223372036854775807 by omega), e3, if_pos (show (x ++ y).size + z.size ≤ 9223372036854775807 by omega), if_pos (show x3.length < 8796093022208 by omega), w64 (show -9223372036854775808 ≤ ((n + 1 : Nat) : Int) - 1 by omega) (by omega)]
    rw [show ((n + 1 : Nat) : Int) - 1 = (n : Int) by omega]
    refine (ih (x3 ++ [x ++ y ++ z]) a3 s3 (by simp; omega) (lns_snoc ⟨by omega, h2⟩ (by omega)).2 (by omega) (by omega)).mono ?_
    rintro r ⟨hr, g0, g1⟩
    exact ⟨hr, g0, by omega⟩
theorem draw_ev {c : List Int} (hc : Bytes c) (a s : Int) (h0 : 0 ≤ a) (h1 : a ≤ 1000) : EvP (fun k => spec_l30Draw.f k c a s) (fun r => Lns r.1 ∧ 0 ≤ r.2.1 ∧ r.2.1 ≤ 5000) := by
  unfold spec_l30Draw.f
  obtain ⟨p, a1, s1, e1, p0, p1, q0, q1⟩ := pick_eq hc a s 8 h0 (by omega)
  simp only [e1, Option.bind_some]
  have hp := p1 (by omega)
  obtain ⟨n, rfl⟩ := Int.eq_ofNat_of_zero_le p0
  refine (draw_loop hc n [] a1 s1 (by simp; omega) (by simp) (by omega) (by omega)).mono ?_
  rintro r ⟨hr, g0, g1⟩
  exact ⟨hr, g0, by omega⟩
theorem pages_ev {c : List Int} (hc : Bytes c) : EvP (fun k => spec_DrawPagesOf.f k c) (fun r => r.1.length ≤ 1048576 ∧ (∀ x ∈ r.1, x.size ≤ 1048576) ∧ r.2.2.size ≤ 1048576) := by
  unfold spec_DrawPagesOf.f spec_l00From.f
  simp only [Option.bind_some]
  refine EvP.bindP (draw_ev hc 0 0 (by omega) (by omega)) ?_
  rintro ⟨l, a, s⟩ ⟨⟨h1, h2⟩, h3, h4⟩
  obtain ⟨x, a1, s1, e1, hx, q0, q1⟩ := among_eq hc a s [2, 3, 5, 200, 201, 1] (by simp) h3 (by simp only at h4; omega)
  obtain ⟨y, a2, s2, e2, hy, r0, r1⟩ := text_small hc a1 s1 [(⟨#[104, 101, 97, 100]⟩ : ByteArray), (⟨#[]⟩ : ByteArray), (⟨#[10]⟩ : ByteArray), (⟨#[80, 97, 103, 101]⟩ : ByteArray)] (by simp) (by decide) (by simp only at h3; omega) (by simp only at h4; omega)
  simp only [e1, e2, Option.bind_some]
  exact EvP.now ⟨by simp only at h1; show l.length ≤ _; omega, fun z hz => by have := h2 z hz; omega, by show y.size ≤ _; omega⟩
theorem find_ev {c : List Int} (hc : Bytes c) : EvP (fun k => spec_DrawFindLines.f k c) (fun r => r.1.length ≤ 1048576 ∧ (∀ x ∈ r.1, x.size ≤ 1048576) ∧ r.2.size ≤ 1048576) := by
  unfold spec_DrawFindLines.f spec_l00From.f
  simp only [Option.bind_some]
  refine EvP.bindP (draw_ev hc 0 0 (by omega) (by omega)) ?_
  rintro ⟨l, a, s⟩ ⟨⟨h1, h2⟩, h3, h4⟩
  obtain ⟨y, a2, s2, e2, hy, r0, r1⟩ := text_small hc a s [(⟨#[97]⟩ : ByteArray), (⟨#[99]⟩ : ByteArray), (⟨#[49, 50]⟩ : ByteArray), (⟨#[99, 99]⟩ : ByteArray), (⟨#[]⟩ : ByteArray), (⟨#[32]⟩ : ByteArray), (⟨#[97, 105, 114, 119, 97, 121]⟩ : ByteArray), (⟨#[113]⟩ : ByteArray)] (by simp) (by decide) h3 (by simp only at h4; omega)
  simp only [e2, Option.bind_some]
  exact EvP.now ⟨by simp only at h1; show l.length ≤ _; omega, fun z hz => by have := h2 z hz; omega, by show y.size ≤ _; omega⟩
theorem bar_loop {c : List Int} (hc : Bytes c) : ∀ (n : Nat) (x5 : List Int) (a s : Int), x5.length + n ≤ 100 → 0 ≤ a → a + 10 * n ≤ 10000 → EvP (fun k => spec_DrawBarLines.l0 k x5 (n : Int) c a s) (fun r => r.1.length ≤ 1048576) := by
  intro n
  induction n with
  | zero =>
    intro x5 a s h1 h3 h4
    refine EvP.step (fun k => spec_DrawBarLines.l0.eq_2 _ _ _ _ _ k) ?_
    obtain ⟨p, a1, s1, e1, p0, p1, q0, q1⟩ := pick_eq hc a s 16 h3 (by omega)
    simp only [if_neg (show ¬ ((0 : Nat) : Int) > 0 by omega), e1, Option.bind_some]
    by_cases z0 : p = 0
    · obtain ⟨x, a2, s2, e2, hx, r0, r1⟩ := among_eq hc a1 s1 [(-1), 1000000000000, 1000000000001] (by simp) (by omega) (by omega)
      obtain ⟨y, a3, s3, e3, hy, t0, t1⟩ := among_eq hc a2 s2 [1, 10, 40, 100, 101, 0] (by simp) (by omega) (by omega)
      simp only [if_pos z0, e2, e3, Option.bind_some, if_pos (show x5.length < 17592186044416 by omega)]
      exact EvP.now (by show (x5 ++ [x]).length ≤ _; simp; omega)
    simp only [if_neg z0]
    by_cases z1 : p = 1
    · obtain ⟨x, a2, s2, e2, hx, r0, r1⟩ := among_eq hc a1 s1 [200, 201] (by simp) (by omega) (by omega)
      have hx2 : x = 200 ∨ x = 201 := by simpa using hx
      obtain ⟨y, a3, s3, e3, hy, t0, t1⟩ := among_eq hc a2 s2 [1, 10, 40, 100, 101, 0] (by simp) (by omega) (by omega)
      simp only [if_pos z1, e2, Option.bind_some, if_pos (show 0 ≤ x by omega), if_pos (show x.toNat ≤ 35184372088832 by omega), e3]
      exact EvP.now (by show (List.replicate x.toNat (0 : Int)).length ≤ _; simp; omega)
    · obtain ⟨y, a3, s3, e3, hy, t0, t1⟩ := among_eq hc a1 s1 [1, 10, 40, 100, 101, 0] (by simp) (by omega) (by omega)
      simp only [if_neg z1, e3, Option.bind_some]
      exact EvP.now (by show x5.length ≤ _; omega)
  | succ n ih =>
    intro x5 a s h1 h3 h4
    refine EvP.step (fun k => spec_DrawBarLines.l0.eq_2 _ _ _ _ _ k) ?_
    obtain ⟨x, a1, s1, e1, hx, q0, q1⟩ := among_eq hc a s [0, 1, 5, 20, 77, 1000] (by simp) h3 (by omega)
    simp only [if_pos (show ((n + 1 : Nat) : Int) > 0 by omega), e1, Option.bind_some, if_pos (show x5.length < 17592186044416 by omega), w64 (show -9223372036854775808 ≤ ((n + 1 : Nat) : Int) - 1 by omega) (by omega)]
    rw [show ((n + 1 : Nat) : Int) - 1 = (n : Int) by omega]
    exact ih (x5 ++ [x]) a1 s1 (by simp; omega) (by omega) (by omega)
theorem bar_ev {c : List Int} (hc : Bytes c) : EvP (fun k => spec_DrawBarLines.f k c) (fun r => r.1.length ≤ 1048576) := by
  unfold spec_DrawBarLines.f spec_l00From.f
  simp only [Option.bind_some]
  obtain ⟨p, a1, s1, e1, p0, p1, q0, q1⟩ := pick_eq hc 0 0 8 (by omega) (by omega)
  simp only [e1, Option.bind_some]
  have hp := p1 (by omega)
  obtain ⟨n, rfl⟩ := Int.eq_ofNat_of_zero_le p0
  exact bar_loop hc n [] a1 s1 (by simp; omega) (by omega) (by omega)
end Go.Proofs.Ytpkcjkfkohmcfaa.PDraw30
end

section
namespace Go.Proofs.Ytpkcjkfkohmcfaa.PureFnPages
open Go.RowKit Go.Proofs.YtpkcjkfkohmcfaaW.PrintWords Go.Proofs.YtpkcjkfkohmcfaaW.PrintMore Go.Proofs.Ytpkcjkfkohmcfaa.XN Go.Proofs.Ytpkcjkfkohmcfaa.EvK Go.Proofs.Ytpkcjkfkohmcfaa.LinesN Go.Proofs.Ytpkcjkfkohmcfaa.PPages
open Go.Proofs.Ytpkcjkfkohmcfaa.PFindI (has found findOf implFind_ev found_len found_mem)
set_option linter.unusedVariables false
set_option linter.unusedSimpArgs false
theorem cnt_mono {w g a b : Int} (hw : 1 ≤ w) (h : a ≤ b) : PBars.cnt w g a ≤ PBars.cnt w g b := by
  unfold PBars.cnt
  have h1 : a * w ≤ b * w := Int.mul_le_mul_of_nonneg_right h (by omega)
  have hm : 0 < mx g 1 := by unfold mx; split <;> omega
  have := Int.ediv_le_ediv hm h1
  omega
theorem cnt_le {w g a : Int} (hw : 1 ≤ w) (ha : 0 ≤ a) (h : a ≤ g) : (PBars.cnt w g a : Int) ≤ w := by
  unfold PBars.cnt
  have hm : 0 < mx g 1 ∧ a ≤ mx g 1 := by unfold mx; split <;> omega
  have h1 : a * w ≤ w * mx g 1 := by
    rw [Int.mul_comm w]
    exact Int.mul_le_mul_of_nonneg_right hm.2 (by omega)
  have h2 : a * w / mx g 1 ≤ w := Int.ediv_le_of_le_mul hm.1 h1
  omega
theorem bars_ev (vs : List Int) (w : Int) (hl : vs.length ≤ 1048576) (hok : PBars.okAll vs w = true) : EvP (fun k => laws_FnPages.l3 k vs w (PBars.bars vs w (PBars.gr vs)) 0) (· = true) := by
  obtain ⟨hv, hw⟩ := PBars.okAll_mem hok
  have hlen : (PBars.bars vs w (PBars.gr vs)).length = vs.length := by simp [PBars.bars]
  have hsz : ∀ (i : Nat) (hi : i < vs.length), ((rdOf ByteArray.empty (PBars.bars vs w (PBars.gr vs)) (i : Int)).size : Int) = (PBars.cnt w (PBars.gr vs) vs[i] : Int) := by
    intro i hi
    rw [rdOf_at _ _ i (by omega)]
    simp only [PBars.bars, List.getElem_map, PBars.bar_size]
  refine for_evp (L := fun k (_ : Unit) i => laws_FnPages.l3 k vs w (PBars.bars vs w (PBars.gr vs)) i) vs.length (fun _ _ => True) ?_ ?_ () trivial
  · intro i _ hi _ K
    refine EvP.step (fun k => laws_FnPages.l3.eq_2 _ _ _ _ k) ?_
    simp only [if_pos (show (i : Int) < (vs.length : Int) by omega)]
    refine for_evp (L := fun k (_ : Unit) j => laws_FnPages.l4 k vs w (PBars.bars vs w (PBars.gr vs)) i j) vs.length (fun _ _ => True) ?_ ?_ () trivial
    · intro j _ hj _ K2
      have e1 := hsz i hi
      have e2 := hsz j hj
      have r1 := rd_at vs i hi
      have r2 := rd_at vs j hj
      refine EvP.step (fun k => laws_FnPages.l4.eq_2 _ _ _ _ _ k) ?_
      simp only [hlen, r1, r2, e1, e2, if_pos (show (i : Int) < (vs.length : Int) by omega), if_pos (show (j : Int) < (vs.length : Int) by omega), if_pos (show (0 : Int) ≤ (i : Int) by omega), if_pos (show (0 : Int) ≤ (j : Int) by omega), w64 (show -9223372036854775808 ≤ (j : Int) + 1 by omega) (by omega)]
      by_cases h : vs[i] ≤ vs[j]
      · have := cnt_mono (g := PBars.gr vs) hw.1 h
        simp only [if_pos h, if_neg (show ¬ (PBars.cnt w (PBars.gr vs) vs[i] : Int) > (PBars.cnt w (PBars.gr vs) vs[j] : Int) by omega)]
        exact K2 () trivial
      · simp only [if_neg h]
        exact K2 () trivial
    · intro _ _
      have e1 := hsz i hi
      have h2 := cnt_le (g := PBars.gr vs) hw.1 (hv _ (List.getElem_mem hi)).1 ((PBars.fold_le vs 0).2 _ (List.getElem_mem hi))
      refine EvP.step (fun k => laws_FnPages.l4.eq_2 _ _ _ _ _ k) ?_
      simp only [hlen, e1, if_neg (show ¬ (vs.length : Int) < (vs.length : Int) by omega), if_pos (show (0 : Int) ≤ (i : Int) by omega), if_pos (show (i : Int) < (vs.length : Int) by omega), if_neg (show ¬ (PBars.cnt w (PBars.gr vs) vs[i] : Int) > w by omega), w64 (show -9223372036854775808 ≤ (i : Int) + 1 by omega) (by omega)]
      exact K () trivial
  · intro _ _
    refine EvP.step (fun k => laws_FnPages.l3.eq_2 _ _ _ _ k) ?_
    simp only [if_neg (show ¬ (vs.length : Int) < (vs.length : Int) by omega)]
    exact EvP.now rfl
theorem j6_ev (c : List Int) (hc : PSrc.Bytes c) : EvP (fun k => laws_FnPages.j6 k c) (· = true) := by
  refine EvP.step (fun k => laws_FnPages.j6.eq_2 _ k) ?_
  refine EvP.bindP (PDraw30.bar_ev hc) ?_
  rintro ⟨vs, w⟩ hl
  simp only at hl
  refine EvP.bind (PBars.impl_ev vs w hl) ?_
  unfold PBars.ans PBars.done
  by_cases hok : PBars.okAll vs w = true
  · rw [if_pos hok]
    by_cases hr : repOk (PBars.bars vs w (PBars.gr vs)) = true
    · rw [if_pos hr]
      simp only [if_true, if_pos (show ((PBars.bars vs w (PBars.gr vs)).length : Int) = (vs.length : Int) by simp [PBars.bars])]
      exact bars_ev vs w hl hok
    · rw [if_neg hr]
      exact EvP.now (by decide)
  · rw [if_neg hok]
    exact EvP.now (by decide)
theorem found_pair (w : ByteArray) : ∀ (l : List ByteArray) (i : Nat), (found w i l).Pairwise (· < ·)
  | [], _ => by simp [found]
  | s :: l, i => by
    have ih := found_pair w l (i + 1)
    unfold found
    split
    · refine List.Pairwise.cons ?_ ih
      intro y hy
      have := found_mem w l (i + 1) y hy
      omega
    · exact ih
theorem found_has (w : ByteArray) : ∀ (l : List ByteArray) (j i : Nat) (h : i < l.length), has l[i] w = true → ((j + i : Nat) : Int) ∈ found w j l
  | [], _, _, h, _ => by simp at h
  | s :: l, j, 0, h, hh => by
    unfold found
    rw [if_pos (by simpa using hh)]
    simp
  | s :: l, j, i + 1, h, hh => by
    have ih := found_has w l (j + 1) i (by simpa using h) (by simpa using hh)
    rw [show j + 1 + i = j + (i + 1) by omega] at ih
    unfold found
    split
    · exact List.mem_cons_of_mem _ ih
    · exact ih
theorem rises_ev (f : List Int) (n : Int) (hf : f.length ≤ 1048576) (h1 : ∀ x ∈ f, 0 ≤ x ∧ x < n) (h2 : f.Pairwise (· < ·)) : Ev (fun k => laws_b10Rises.f k f n) true := by
  unfold laws_b10Rises.f
  apply EvP.eq
  refine for_evp (L := fun k (_ : Unit) i => laws_b10Rises.l0 k f n i) f.length (fun _ _ => True) ?_ ?_ () trivial
  · intro i _ hi _ K
    obtain ⟨b1, b2⟩ := h1 _ (List.getElem_mem hi)
    refine EvP.step (fun k => laws_b10Rises.l0.eq_2 _ _ _ k) ?_
    simp only [rd_at f i hi, if_pos (show (i : Int) < (f.length : Int) by omega), if_pos (show (0 : Int) ≤ (i : Int) by omega), if_neg (show ¬ f[i] < 0 by omega), if_neg (show ¬ f[i] ≥ n by omega), w64 (show -9223372036854775808 ≤ (i : Int) + 1 by omega) (by omega)]
    by_cases hz : (i : Int) > 0
    · have hp : f[i - 1]'(by omega) < f[i] := List.pairwise_iff_getElem.1 h2 (i - 1) i (by omega) hi (by omega)
      have wd : wrap64 ((i : Int) - 1) = ((i - 1 : Nat) : Int) := by rw [w64 (by omega) (by omega)]; omega
      simp only [if_pos hz, wd, if_pos (show (0 : Int) ≤ ((i - 1 : Nat) : Int) by omega), if_pos (show ((i - 1 : Nat) : Int) < (f.length : Int) by omega), rd_at f (i - 1) (by omega), if_neg (show ¬ f[i - 1]'(by omega) ≥ f[i] by omega)]
      exact K () trivial
    · simp only [if_neg hz]
      exact K () trivial
  · intro _ _
    refine EvP.step (fun k => laws_b10Rises.l0.eq_2 _ _ _ k) ?_
    simp only [if_neg (show ¬ (f.length : Int) < (f.length : Int) by omega)]
    exact EvP.now rfl
theorem has_ev (f : List Int) (n : Int) (hf : f.length ≤ 1048576) (h : n ∈ f) : Ev (fun k => laws_b10Has.f k f n) true := by
  unfold laws_b10Has.f
  apply EvP.eq
  refine for_evp (L := fun k (_ : Unit) i => laws_b10Has.l0 k f n i) f.length (fun i _ => ∀ x ∈ f.take i, x ≠ n) ?_ ?_ () (by simp)
  · intro i _ hi hs K
    refine EvP.step (fun k => laws_b10Has.l0.eq_2 _ _ _ k) ?_
    simp only [rd_at f i hi, if_pos (show (i : Int) < (f.length : Int) by omega), if_pos (show (0 : Int) ≤ (i : Int) by omega), w64 (show -9223372036854775808 ≤ (i : Int) + 1 by omega) (by omega)]
    by_cases e : f[i] = n
    · simp only [if_pos e]
      exact EvP.now rfl
    · simp only [if_neg e]
      refine K () ?_
      intro x hx
      rw [List.take_succ_eq_append_getElem hi, List.mem_append, List.mem_singleton] at hx
      rcases hx with hx | rfl
      · exact hs x hx
      · exact e
  · intro _ hs
    rw [List.take_length] at hs
    exact absurd rfl (hs n h)
theorem self_has (s w : ByteArray) (h : s.toList = w.toList) : has s w = true := by
  have e : s.data.toList = w.data.toList := by
    rw [PFindI.toList_eq, PFindI.toList_eq] at h
    exact h
  unfold has Lib.contains
  rw [e]
  rcases Lib.index_spec w.data.toList w.data.toList with ⟨h1, h2⟩ | ⟨i, h1, _⟩
  · have := h2 0 (by omega)
    have h3 : Lib.occAt w.data.toList w.data.toList 0 = true := by
      unfold Lib.occAt
      rw [List.drop_zero, List.isPrefixOf_iff_prefix]
      exact List.prefix_refl _
    rw [h3] at this
    cases this
  · rw [h1]
    exact decide_eq_true (by omega)
theorem j4_ev (c m : List Int) (hc : PSrc.Bytes c) (hm : PSrc.Bytes m) : EvP (fun k => laws_FnPages.j4 k c m) (· = true) := by
  refine EvP.step (fun k => laws_FnPages.j4.eq_2 _ _ k) ?_
  refine EvP.bindP (PDraw30.find_ev hm) ?_
  rintro ⟨l, w⟩ ⟨hl, hs, hw⟩
  simp only at hl hs hw
  refine EvP.bind (implFind_ev l w hl hs hw) ?_
  have h6 := j6_ev c hc
  unfold findOf
  by_cases hr : repOk l = true
  · rw [if_pos hr]
    by_cases he : w.data.toList = []
    · rw [if_pos he]
      exact h6
    rw [if_neg he]
    have hfl := found_len w l 0
    have hfm : ∀ x ∈ found w 0 l, 0 ≤ x ∧ x < (l.length : Int) := fun x hx => by have := found_mem w l 0 x hx; omega
    simp only [if_true]
    refine EvP.bind (rises_ev _ _ (by omega) hfm (found_pair w l 0)) ?_
    simp only [if_true]
    refine for_evp (L := fun k (_ : Unit) i => laws_FnPages.l2 k c l w (found w 0 l) i) l.length (fun _ _ => True) ?_ ?_ () trivial
    · intro i _ hi _ K
      refine EvP.step (fun k => laws_FnPages.l2.eq_2 _ _ _ _ _ k) ?_
      simp only [rdOf_at l ByteArray.empty i hi, if_pos (show (i : Int) < (l.length : Int) by omega), if_pos (show (0 : Int) ≤ (i : Int) by omega), w64 (show -9223372036854775808 ≤ (i : Int) + 1 by omega) (by omega)]
      by_cases e : l[i].toList = w.toList
      · simp only [if_pos e]
        have hin := found_has w l 0 i hi (self_has _ _ e)
        rw [Nat.zero_add] at hin
        refine EvP.bind (has_ev _ (i : Int) (by omega) hin) ?_
        simp only [if_true]
        exact K () trivial
      · simp only [if_neg e]
        exact K () trivial
    · intro _ _
      refine EvP.step (fun k => laws_FnPages.l2.eq_2 _ _ _ _ _ k) ?_
      simp only [if_neg (show ¬ (l.length : Int) < (l.length : Int) by omega)]
      exact h6
  · rw [if_neg hr]
    exact h6
theorem pages_ev (c m : List Int) (hc : PSrc.Bytes c) (hm : PSrc.Bytes m) (l : List ByteArray) (h : Int) (hd : ByteArray) (n : Nat) (hn : 0 < n) (hh : h = (n : Int) + 1) (hl : l.length ≤ 200) : EvP (fun k => laws_FnPages.l0 k c m l h hd (pages l n hd) 0 0) (· = true) := by
  have h4 := j4_ev c m hc hm
  obtain ⟨q, hq⟩ : ∃ q, q = (l.length + (n - 1)) / n := ⟨_, rfl⟩
  have hpl : (pages l n hd).length = q := by simp [pages, impl_PagesOf.pages, hq]
  have hqb : q ≤ l.length := by rw [← hpl]; exact pages_len l n hd hn
  have hq1 : l.length ≤ q * n := by
    have h2 := Nat.div_add_mod (l.length + (n - 1)) n
    have h3 := Nat.mod_lt (l.length + (n - 1)) hn
    rw [hq, Nat.mul_comm]
    omega
  have hq2 : ∀ j, j < q → j * n < l.length := by
    intro j hj
    have h1 : (j + 1) * n ≤ q * n := Nat.mul_le_mul_right _ hj
    have h2 : q * n ≤ l.length + (n - 1) := by rw [hq]; exact Nat.div_mul_le_self _ _
    rw [Nat.succ_mul] at h1
    omega
  have hrow : ∀ j, j < q → rd_L1 (pages l n hd) (j : Int) = hd :: (l.drop (j * n)).take n := by
    intro j hj
    rw [rdL _ j (by omega)]
    simp [pages, impl_PagesOf.pages, impl_PagesOf.page]
  refine for_evp (L := fun k (s : Int) i => laws_FnPages.l0 k c m l h hd (pages l n hd) s i) q (fun j s => s = ((min (j * n) l.length : Nat) : Int)) ?_ ?_ 0 (by simp)
  · rintro j s hj rfl K
    have hjl := hq2 j hj
    have hr := hrow j hj
    obtain ⟨ys, hys⟩ : ∃ ys, ys = (l.drop (j * n)).take n := ⟨_, rfl⟩
    rw [← hys] at hr
    have hyl : ys.length = min n (l.length - j * n) := by rw [hys]; simp
    have hmul : j * n ≤ 200 := by omega
    rw [show min (j * n) l.length = j * n by omega]
    have inner : EvP (fun k => laws_FnPages.l1 k c m l h hd (pages l n hd) ((j * n : Nat) : Int) (j : Int) 1) (· = true) := by
      refine for_evp (L := fun k (s : Int) i => laws_FnPages.l1 k c m l h hd (pages l n hd) s (j : Int) (i + 1)) ys.length (fun i s => s = ((j * n + i : Nat) : Int)) ?_ ?_ ((j * n : Nat) : Int) rfl
      · rintro i s hi rfl K2
        have e1 : rdOf ByteArray.empty (hd :: ys) ((i : Int) + 1) = ys[i] := by
          rw [show (i : Int) + 1 = ((i + 1 : Nat) : Int) by omega, rdOf_at _ _ (i + 1) (by simp; omega)]
          simp
        have e2 : rdOf ByteArray.empty l ((j * n + i : Nat) : Int) = ys[i] := by
          rw [rdOf_at _ _ (j * n + i) (by omega)]
          simp [hys]
        refine EvP.step (fun k => laws_FnPages.l1.eq_2 _ _ _ _ _ _ _ _ _ k) ?_
        simp only [hpl, hr, e1, e2, if_pos (show (0 : Int) ≤ (j : Int) by omega), if_pos (show (j : Int) < (q : Int) by omega), if_pos (show (i : Int) + 1 < ((hd :: ys).length : Int) by simp; omega), if_neg (show ¬ ((j * n + i : Nat) : Int) ≥ (l.length : Int) by omega), if_pos (show (0 : Int) ≤ (i : Int) + 1 by omega), if_pos (show (0 : Int) ≤ ((j * n + i : Nat) : Int) by omega), if_pos (show ((j * n + i : Nat) : Int) < (l.length : Int) by omega), if_true, w64 (show -9223372036854775808 ≤ ((j * n + i : Nat) : Int) + 1 by omega) (by omega), w64 (show -9223372036854775808 ≤ (i : Int) + 1 + 1 by omega) (by omega)]
        exact K2 _ (by omega)
      · rintro s rfl
        refine EvP.step (fun k => laws_FnPages.l1.eq_2 _ _ _ _ _ _ _ _ _ k) ?_
        simp only [hpl, hr, if_pos (show (0 : Int) ≤ (j : Int) by omega), if_pos (show (j : Int) < (q : Int) by omega), if_neg (show ¬ (ys.length : Int) + 1 < ((hd :: ys).length : Int) by simp), w64 (show -9223372036854775808 ≤ (j : Int) + 1 by omega) (by omega)]
        refine K _ ?_
        rw [Nat.succ_mul]
        omega
    have jf : ∀ b : Bool, b = false → EvP (fun k => laws_FnPages.j2 k c m l h hd (pages l n hd) ((j * n : Nat) : Int) (j : Int) b) (· = true) := by
      rintro b rfl
      refine EvP.step (fun k => laws_FnPages.j2.eq_2 _ _ _ _ _ _ _ _ _ k) ?_
      simp only [Bool.false_eq_true, if_false]
      exact inner
    have e0 : rdOf ByteArray.empty (hd :: ys) 0 = hd := rfl
    refine EvP.step (fun k => laws_FnPages.l0.eq_2 _ _ _ _ _ _ _ _ k) ?_
    simp only [hpl, hr, e0, if_pos (show (j : Int) < (q : Int) by omega), if_pos (show (0 : Int) ≤ (j : Int) by omega), if_neg (show ¬ ((hd :: ys).length : Int) < 2 by simp only [List.length_cons]; omega), if_neg (show ¬ ((hd :: ys).length : Int) > h by simp only [List.length_cons]; omega), if_pos (show (0 : Int) < ((hd :: ys).length : Int) by simp only [List.length_cons]; omega), if_true, w64 (show -9223372036854775808 ≤ (j : Int) + 1 by omega) (by omega)]
    by_cases hlast : (j : Int) + 1 < (q : Int)
    · simp only [if_pos hlast]
      have h5 := hq2 (j + 1) (by omega)
      rw [Nat.succ_mul] at h5
      refine jf _ ?_
      rw [bne_eq_false_iff_eq]
      simp only [List.length_cons]
      omega
    · simp only [if_neg hlast]
      exact jf false rfl
  · rintro s rfl
    refine EvP.step (fun k => laws_FnPages.l0.eq_2 _ _ _ _ _ _ _ _ k) ?_
    simp only [hpl, if_neg (show ¬ (q : Int) < (q : Int) by omega), if_pos (show ((min (q * n) l.length : Nat) : Int) = (l.length : Int) by omega)]
    exact h4
theorem pure : laws_FnPages.Pure := by
  intro c m hqc hqm
  apply EvP.rounds
  unfold laws_FnPages.f laws_b10Long.f
  have hc := PDraw30.bytes_of hqc.2
  have hm := PDraw30.bytes_of hqm.2
  have j0 : ∀ b : Bool, EvP (fun k => laws_FnPages.j0 k c m b) (· = true) := by
    intro b
    refine EvP.step (fun k => laws_FnPages.j0.eq_2 _ _ _ k) ?_
    cases b with
    | true => exact EvP.now rfl
    | false =>
      simp only [Bool.false_eq_true, if_false]
      refine EvP.bindP (PDraw30.pages_ev hc) ?_
      rintro ⟨l, h, hd⟩ ⟨hl, hs, hw⟩
      simp only at hl hs hw
      refine EvP.bind (impl_ev l h hd hl hs hw) ?_
      have h4 := j4_ev c m hc hm
      unfold pagesOf
      by_cases hr : repOk l = true
      · have hl2 : l.length ≤ 200 := by
          simp only [repOk, Bool.and_eq_true, decide_eq_true_eq] at hr
          omega
        rw [if_pos hr]
        by_cases hb : 2 ≤ h ∧ h ≤ 200
        · rw [if_pos hb]
          by_cases ho : lineOk hd = true
          · rw [if_pos ho]
            simp only [if_true]
            exact pages_ev c m hc hm l h hd (h - 1).toNat (by omega) (by omega) hl2
          · rw [if_neg ho]
            exact h4
        · rw [if_neg hb]
          exact h4
      · rw [if_neg hr]
        exact h4
  simp only [Option.bind_some]
  by_cases h : decide ((c.length : Int) > 1048576) = true
  · simp only [if_pos h]
    exact j0 true
  · simp only [if_neg h]
    exact j0 _
end Go.Proofs.Ytpkcjkfkohmcfaa.PureFnPages
end

section
namespace Go.Proofs.Ytpkcjkfkohmcfaa.RowFnPages
open Go.ChangeShapes Go.WideShapes Go.ChangeAt Go.RowKit Go.Proofs.YtpkcjkfkohmcfaaW.PrintWords Go.Proofs.Ytpkcjkfkohmcfaa.XN Go.Proofs.Ytpkcjkfkohmcfaa.Open
open Go.ChangeMaps (open_string shut_string)
set_option linter.unusedVariables false
theorem own : ownKnob Try.prog.godebug = none := by kernel_rfl
theorem laidOut : laidOutB Try.prog = true := by kernel_rfl
set_option maxRecDepth 100000 in
theorem lifted (os : Os) (started : os.Started) (H : Type) (enc : TypeId × Value → H) :
    ReturnsInHanded {} Try.checked os 4 .any (Rows.fnPagesSpec.pre6 enc Try.prog Try.f4 Rows.fnPagesRow.domain false) (Rows.fnPagesSpec.post enc Try.prog Try.f4 false true false false) := by
  refine returnsInHanded_of_change_shaped (C := Try.checked) own started (by kernel_rfl) Try.func4
    (ChangeSpec.witness6 (enc := enc) (C := Try.checked) false ⟨#[], #[(.slice none 0 0), (.slice none 0 0)], []⟩ 8 (by kernel_rfl) (by kernel_rfl) (by kernel_rfl) (by kernel_rfl)) ?_
  intro W base args ds gs before hval0 hW hcnd hsz0 hsh _
  have hsz : (DataW.weightsEach Try.prog (Try.f4.params.toList ++ Rows.fnPagesSpec.plain.varTypes Try.prog) (ds ++ gs)).all (· ≤ reachBytes) = true := hsz0
  have hval : ∀ (j : Nat) t v, Try.f4.params[j]? = some t → args[j]? = some v → Value.okWide Try.prog W .any base t v := hval0
  have hW' := hW
  obtain ⟨p, q, hA0, hV, rfl, hfz, hnd⟩ := hW
  have hA : DataW.TrodAll enc Try.prog W 0 (fun _ => true) true Try.f4.params.toList args.toList ds p := hA0
  rw [Try.params4] at hA hval hsz
  obtain ⟨v0, vs0, d0, ds0, p0, q0, hargs, rfl, rfl, h0, r0⟩ := trodAll_cons hA
  obtain ⟨v1, vs1, d1, ds1, p1, q1, rfl, rfl, rfl, h1, r1⟩ := trodAll_cons r0
  obtain ⟨rfl, rfl, rfl⟩ := trodAll_nil r1
  obtain rfl : args = #[v0, v1] := by cases args; simp_all
  obtain ⟨rfl, rfl⟩ := trodVars_none hV
  have kk0 := h0
  have lt0 : ∀ x ∈ p0, x.block < W.heap.size := by obtain ⟨m, hm⟩ := kk0; exact DataW.trod_lt m _ _ _ hm
  obtain ⟨A0, c0, a0, rfl, hc0, hr0, hq0⟩ := open_sl Try.underlying32 (by kernel_rfl) (Opens.int Try.underlying5 (by kernel_rfl)) (hval 0 32 v0 rfl rfl) h0
  have kk1 := h1
  have lt1 : ∀ x ∈ p1, x.block < W.heap.size := by obtain ⟨m, hm⟩ := kk1; exact DataW.trod_lt m _ _ _ hm
  obtain ⟨A1, c1, a1, rfl, hc1, hr1, hq1⟩ := open_sl Try.underlying32 (by kernel_rfl) (Opens.int Try.underlying5 (by kernel_rfl)) (hval 1 32 v1 rfl rfl) h1
  have hst : ShT Try.prog W := ⟨hsh⟩
  obtain ⟨k, hp⟩ := PureFnPages.pure a0 a1 hq0 hq1
  clear hA0 hval0 hsz0 hsz
  refine (laws_FnPages.calls k A0 c0 a0 A1 c1 a1 true W hr0 hc0 hr1 hc1 hst hp).mono fun e W' ⟨he, bel0⟩ => ?_
  have bel : Below W.heap.size W W' := bel0
  subst he
  exact ⟨_, rfl, _, _, _, [], _, [], hW', trodAll_mk1 (shut_bool Try.underlying4 _), (trodAll_cons_mk (Below.trod laidOut (by kernel_rfl) (of_decide_eq_true (by kernel_rfl)) kk0 bel lt0) (trodAll_cons_mk (Below.trod laidOut (by kernel_rfl) (of_decide_eq_true (by kernel_rfl)) kk1 bel lt1) trodAll_mk0)), rfl, bel.frame _, fun h => by cases h⟩
theorem over : Rows.fnPagesRow.holds Try.pinned (OpenSpec.ofChange Rows.fnPagesSpec) :=
  OpenClaim.holds_of_wide 4 Try.f4 rfl rfl rfl rfl rfl rfl rfl ⟨rfl, rfl, rfl, rfl, rfl⟩ rfl rfl rfl rfl rfl (by kernel_rfl) Try.func4 (by kernel_rfl)
    (of_decide_eq_true (by kernel_rfl)) (by unfold Func.isWrapper; first | (rw [if_pos (by decide +kernel)]; kernel_rfl) | (rw [if_neg (by decide +kernel)]; exact ⟨rfl, rfl⟩))
    (fun os started H enc _ => lifted os started H enc)
end Go.Proofs.Ytpkcjkfkohmcfaa.RowFnPages
namespace Go.Proofs.Ytpkcjkfkohmcfaa
theorem fnPages_holds : Rows.FnPagesSaid := RowFnPages.over
end Go.Proofs.Ytpkcjkfkohmcfaa
end
