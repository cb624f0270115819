/- The law FnExactBlocksOfBuildings: part 6 of its texts, joined (wip/pack.py). -/
import Derived.Test.YtlhhigkmcidekaaDoorKFnExactBlocksOfBuildingsa
import Derived.Test.YtlhhigkmcidekaaDoorKFnExactBlocksOfBuildingsb
import Derived.Test.YtlhhigkmcidekaaDoorKFnExactBlocksOfBuildingsc
import Derived.Test.YtlhhigkmcidekaaDoorKFnExactBlocksOfBuildingsd
import Derived.Test.YtlhhigkmcidekaaDoorKFnExactBlocksOfBuildingse
import Derived.Test.YtlhhigkmcidekaaDoorKFnExactBlocksOfBuildingsf
import Derived.Lib.Join
import Derived.Handed
import Derived.HandedShaped
import Derived.SizedLaws
import Derived.Stop.LaidErr
import Derived.Test.YtlhhigkmcidekaaDoorRows
import Derived.WalkKit
import Derived.ProofKit
import Derived.OpenShut
import Derived.ShutString
import Derived.ChangeOld
import Derived.Below
import Derived.Lib.LaidTab
import Derived.Lib.ItoaNum
import Derived.LaidMore
import Derived.Lay
import Derived.SevenTiedAt
import Derived.Stop.Joined
import Derived.Test.YtlhhigkmcidekaaDoorTie
import Derived.Test.YtlhhigkmcidekaaDoorCards

section
namespace Go.Proofs.YtlhhigkmcidekaaDoor.SB
open Go.RowKit Go.Proofs.YtlhhigkmcidekaaDoorW.PrintWords Go.Proofs.YtlhhigkmcidekaaDoor.XB Go.Proofs.YtlhhigkmcidekaaDoor.EvK
set_option linter.unusedVariables false
set_option linter.unusedSimpArgs false
theorem markText_ev (c : Int) (h0 : 0 ≤ c) (h1 : c ≤ 4611686018427387904) : ∃ s : ByteArray, Ev (fun k => laws_markText.f k c) s := by
  unfold laws_markText.f
  by_cases hc : c ≤ 0
  · simp only [if_pos hc]
    exact ⟨_, Ev.now _⟩
  simp only [if_neg hc]
  have key : ∀ (d : Nat) (x : Int) (y : ByteArray), 0 ≤ x → x ≤ d → y.size + d ≤ 9223372036854775000 → ∃ s : ByteArray, Ev (fun k => laws_markText.l0 k x y) s := by
    intro d
    induction d using Nat.strongRecOn with
    | _ d ih =>
    intro x y hx hd hy
    by_cases hp : x > 0
    · have hz : (strOfNums [(wrap64 (48 + Int.tmod x 10)) % 256]).size = 1 := rfl
      have hd' : Int.tdiv x 10 = x / 10 := Int.tdiv_eq_ediv_of_nonneg hx
      have hw : wrap64 (Int.tdiv x 10) = x / 10 := by rw [hd', w64 (by omega) (by omega)]
      obtain ⟨s, hs⟩ := ih (d - 1) (by omega) (x / 10) (strOfNums [(wrap64 (48 + Int.tmod x 10)) % 256] ++ y) (by omega) (by omega) (by rw [ByteArray.size_append, hz]; omega)
      refine ⟨s, Ev.step (fun k => laws_markText.l0.eq_2 _ _ k) ?_⟩
      simp only [if_pos hp, Option.bind_some, hz, if_pos (show 1 + y.size ≤ 9223372036854775807 by omega), hw]
      exact hs
    · refine ⟨(⟨#[109]⟩ : ByteArray) ++ y, Ev.step (fun k => laws_markText.l0.eq_2 _ _ k) ?_⟩
      simp only [if_neg hp, if_pos (show 1 + y.size ≤ 9223372036854775807 by omega)]
      exact Ev.now _
  exact key c.toNat c ⟨#[]⟩ h0 (by omega) (by show 0 + _ ≤ _; omega)
end Go.Proofs.YtlhhigkmcidekaaDoor.SB
end

section
namespace Go.Proofs.YtlhhigkmcidekaaDoor.PBld
open Go.RowKit Go.Proofs.YtlhhigkmcidekaaDoorW.PrintWords Go.Proofs.YtlhhigkmcidekaaDoorW.PrintMore Go.Proofs.YtlhhigkmcidekaaDoor.XB Go.Proofs.YtlhhigkmcidekaaDoor.EvK Go.Proofs.YtlhhigkmcidekaaDoor.SB Go.Proofs.YtlhhigkmcidekaaDoor.PBasics Go.Proofs.YtlhhigkmcidekaaDoor.PDecNeg Go.Proofs.YtlhhigkmcidekaaDoor.PCrc
set_option linter.unusedVariables false
set_option linter.unusedSimpArgs false
theorem join_snoc (xs : List (List UInt8)) (hne : xs ≠ []) (y sep : List UInt8) : Lib.join (xs ++ [y]) sep = Lib.join xs sep ++ sep ++ y := by
  cases xs with
  | nil => exact absurd rfl hne
  | cons x r => rw [List.cons_append, Lib.join_cons, Lib.join_cons]; simp [Lib.joinTail]
def T (l : List Int) : List UInt8 := Lib.join (l.map Lib.itoa) [44]
def tx (l : List Int) : ByteArray := if l.length = 0 then ⟨#[45]⟩ else ⟨(T l).toArray⟩
def Rg (l : List Int) : Prop := l.length ≤ 64 ∧ ∀ x ∈ l, -1000000000000 ≤ x ∧ x ≤ 1000000000000
theorem itoa_len (v : Int) (h1 : -1000000000000 ≤ v) (h2 : v ≤ 1000000000000) : (Lib.itoa v).length ≤ 20 := by
  by_cases hv : 0 ≤ v
  · obtain ⟨u, rfl⟩ : ∃ u : Nat, v = (u : Int) := ⟨v.toNat, by omega⟩
    have := itoa_size u 19 (by omega) (by omega)
    simp [ByteArray.size] at this
    omega
  · obtain ⟨u, hu, rfl⟩ : ∃ u : Nat, 1 ≤ u ∧ v = -(u : Int) := ⟨(-v).toNat, by omega, by omega⟩
    rw [Lib.itoa_neg u hu]
    have := itoa_size u 19 (by omega) (by omega)
    have ei : Lib.itoa (u : Int) = Lib.decDigits u := by unfold Lib.itoa; rw [if_neg (by omega)]; rfl
    simp [ByteArray.size, ei] at this
    simp
    omega
theorem T_snoc (l : List Int) (hl : l ≠ []) (x : Int) : T (l ++ [x]) = T l ++ [44] ++ Lib.itoa x := by
  unfold T
  rw [List.map_append, List.map_cons, List.map_nil, join_snoc _ (by simpa using hl)]
theorem tail_len : ∀ (l : List Int), (∀ x ∈ l, -1000000000000 ≤ x ∧ x ≤ 1000000000000) → (Lib.joinTail [44] (l.map Lib.itoa)).length ≤ 21 * l.length
  | [], _ => by simp [Lib.joinTail]
  | x :: l, h => by
    have hx := h x (by simp)
    have hi := itoa_len x hx.1 hx.2
    have := tail_len l (fun y hy => h y (by simp [hy]))
    unfold Lib.joinTail at this ⊢
    simp only [List.map_cons, List.flatten_cons, List.length_append, List.length_cons, List.length_nil] at this ⊢
    omega
theorem T_len (l : List Int) (h : ∀ x ∈ l, -1000000000000 ≤ x ∧ x ≤ 1000000000000) : (T l).length ≤ 21 * l.length := by
  unfold T
  cases l with
  | nil => simp [Lib.join_nil]
  | cons x l =>
    have hx := h x (by simp)
    have hi := itoa_len x hx.1 hx.2
    have := tail_len l (fun y hy => h y (by simp [hy]))
    rw [List.map_cons, Lib.join_cons, List.length_append, List.length_cons]
    omega
theorem rd_int (l : List Int) (i : Nat) (h : i < l.length) : rd l (i : Int) = l[i] := rd_at l i h
theorem ba (a b : List UInt8) : (⟨a.toArray⟩ : ByteArray) ++ (⟨b.toArray⟩ : ByteArray) = ⟨(a ++ b).toArray⟩ := by
  apply ByteArray.ext
  simp [ByteArray.data_append]
theorem ba_size (a : List UInt8) : (⟨a.toArray⟩ : ByteArray).size = a.length := by simp [ByteArray.size]
theorem take_map (l : List Int) (i : Nat) (h : i < l.length) : (l.take i).map (fun n => (⟨(Lib.itoa n).toArray⟩ : ByteArray)) ++ [⟨(Lib.itoa l[i]).toArray⟩] = (l.take (i + 1)).map (fun n => (⟨(Lib.itoa n).toArray⟩ : ByteArray)) := by
  rw [List.take_succ_eq_append_getElem h, List.map_append]
  rfl
theorem listText_ev (l : List Int) (h : Rg l) : Ev (fun k => impl_ListText.f k l) (tx l) := by
  obtain ⟨hl, hr⟩ := h
  unfold impl_ListText.f tx
  simp only [if_neg (show ¬ (l.length : Int) > 64 by omega)]
  by_cases h0 : l.length = 0
  · simp only [if_pos (show (l.length : Int) = 0 by omega), if_pos h0]
    exact Ev.now _
  simp only [if_neg (show ¬ (l.length : Int) = 0 by omega), if_neg h0, if_pos (show (0 : Int) ≤ (l.length : Int) by omega), Int.toNat_natCast, if_pos (show l.length ≤ 17592186044416 by omega)]
  apply EvP.eq
  refine for_evp (L := fun k (s : List ByteArray) i => impl_ListText.l0 k s l (l.length : Int) i) l.length (fun i s => s = (l.take i).map (fun n => (⟨(Lib.itoa n).toArray⟩ : ByteArray))) ?_ ?_ [] (by simp)
  · rintro i s hi rfl K
    refine EvP.step (fun k => impl_ListText.l0.eq_2 _ _ _ _ k) ?_
    have hx := hr _ (List.getElem_mem hi)
    simp only [if_pos (show (i : Int) < (l.length : Int) by omega), if_pos (show (0 : Int) ≤ (i : Int) by omega), rd_int l i hi, within_eq, inR, decide_eq_true hx.1, decide_eq_true hx.2, Bool.and_self, Option.bind_some, if_true, decI_eq l[i] (by omega) (by omega), if_pos (show ((l.take i).map (fun n => (⟨(Lib.itoa n).toArray⟩ : ByteArray))).length < 8796093022208 by simp; omega), take_map l i hi, w64 (show -9223372036854775808 ≤ (i : Int) + 1 by omega) (by omega)]
    exact K _ rfl
  · rintro s rfl
    refine EvP.step (fun k => impl_ListText.l0.eq_2 _ _ _ _ k) ?_
    simp only [if_neg (show ¬ (l.length : Int) < (l.length : Int) by omega), List.take_length]
    have e : strings_Join.j (l.map (fun n => (⟨(Lib.itoa n).toArray⟩ : ByteArray))) (⟨#[44]⟩ : ByteArray) = T l := by
      unfold strings_Join.j T
      simp [Function.comp_def]
    unfold strings_Join.f
    have := T_len l hr
    simp only [e, if_pos (show (l.map (fun n => (⟨(Lib.itoa n).toArray⟩ : ByteArray))).length ≤ 140737488355328 ∧ (T l).length ≤ 140737488355328 from ⟨by simp; omega, by omega⟩), Option.bind_some]
    exact EvP.now rfl
theorem specList_ev (l : List Int) (h : Rg l) : Ev (fun k => spec_l01List.f k l) (tx l) := by
  obtain ⟨hl, hr⟩ := h
  unfold spec_l01List.f tx
  by_cases h0 : l.length = 0
  · simp only [if_pos (show (l.length : Int) = 0 by omega), if_pos h0]
    exact Ev.now _
  simp only [if_neg (show ¬ (l.length : Int) = 0 by omega), if_neg h0]
  apply EvP.eq
  refine for_evp (L := fun k (s : ByteArray) i => spec_l01List.l0 k l s i) l.length (fun i s => s = (⟨(T (l.take i)).toArray⟩ : ByteArray)) ?_ ?_ _ (by simp [T, Lib.join_nil])
  · rintro i s hi rfl K
    refine EvP.step (fun k => spec_l01List.l0.eq_2 _ _ _ k) ?_
    have hx := hr _ (List.getElem_mem hi)
    have ht := T_len (l.take i) (fun x hx => hr x (List.mem_of_mem_take hx))
    have hil := itoa_len l[i] hx.1 hx.2
    rw [List.length_take] at ht
    have wi := w64 (show -9223372036854775808 ≤ (i : Int) + 1 by omega) (by omega)
    have hd := decI_ev l[i] (by omega) (by omega)
    by_cases hi0 : i = 0
    · subst hi0
      have hi' : 0 < l.length := hi
      simp only [if_pos (show ((0 : Nat) : Int) < (l.length : Int) by omega), if_neg (show ¬ ((0 : Nat) : Int) > 0 by omega), if_pos (show (0 : Int) ≤ ((0 : Nat) : Int) by omega), rd_int l 0 hi']
      refine EvP.bind hd ?_
      have e0 : (⟨(T (l.take 0)).toArray⟩ : ByteArray) = ⟨([] : List UInt8).toArray⟩ := rfl
      have e1 : T (l.take (0 + 1)) = Lib.itoa l[0] := by
        rw [List.take_succ_eq_append_getElem hi']
        simp [T, Lib.join_one]
      simp only [e0, ba, ba_size, List.nil_append, if_pos (show ([] : List UInt8).length + (Lib.itoa l[0]).length ≤ 9223372036854775807 by simp; omega), wi]
      exact K _ (by rw [e1])
    · have hne : l.take i ≠ [] := by
        intro h
        have := congrArg List.length h
        simp only [List.length_take, List.length_nil] at this
        omega
      have e1 : T (l.take (i + 1)) = T (l.take i) ++ [44] ++ Lib.itoa l[i] := by
        rw [List.take_succ_eq_append_getElem hi, T_snoc _ hne]
      have e44 : (⟨#[44]⟩ : ByteArray) = ⟨([44] : List UInt8).toArray⟩ := rfl
      simp only [if_pos (show (i : Int) < (l.length : Int) by omega), if_pos (show (i : Int) > 0 by omega), if_pos (show (0 : Int) ≤ (i : Int) by omega), rd_int l i hi, ba_size, if_pos (show (T (l.take i)).length + 1 ≤ 9223372036854775807 by omega)]
      refine EvP.bind hd ?_
      simp only [e44, ba, ba_size, if_pos (show (T (l.take i) ++ [44]).length + (Lib.itoa l[i]).length ≤ 9223372036854775807 by simp; omega), wi]
      exact K _ (by rw [e1])
  · rintro s rfl
    refine EvP.step (fun k => spec_l01List.l0.eq_2 _ _ _ k) ?_
    simp only [if_neg (show ¬ (l.length : Int) < (l.length : Int) by omega), List.take_length]
    exact EvP.now rfl
end Go.Proofs.YtlhhigkmcidekaaDoor.PBld
end

section
namespace Go.Proofs.YtlhhigkmcidekaaDoor.PBld2
open Go.RowKit Go.Proofs.YtlhhigkmcidekaaDoorW.PrintWords Go.Proofs.YtlhhigkmcidekaaDoorW.PrintMore Go.Proofs.YtlhhigkmcidekaaDoor.XB Go.Proofs.YtlhhigkmcidekaaDoor.EvK Go.Proofs.YtlhhigkmcidekaaDoor.SB Go.Proofs.YtlhhigkmcidekaaDoor.PBasics Go.Proofs.YtlhhigkmcidekaaDoor.PBld
set_option linter.unusedVariables false
set_option linter.unusedSimpArgs false
def okB (b : S39) : Bool := nameOk b.f0 && (inR b.f1 0 15 && (inR b.f2 0 1000000 && (inR b.f3 0 100000 && (inR b.f4 (-4000) 4500 && (decide (b.f5.length = 24) && b.f5.all (fun x => inR x 0 3000))))))
theorem implOne_ev (b : S39) (h : b.f0.size ≤ 1048576) : Ev (fun k => impl_Building_valid.f k b.f0 b.f1 b.f2 b.f3 b.f4 b.f5) (okB b) := by
  unfold impl_Building_valid.f okB impl_nodeOk.f impl_outdoorOk.f impl_allWithin.f
  simp only [within_eq, Option.bind_some]
  refine Ev.bind (isName_ev _ h) ?_
  cases nameOk b.f0 with
  | false => simp only [Bool.false_eq_true, if_false, Bool.false_and]; exact Ev.now _
  | true =>
    cases inR b.f1 0 15 with
    | false => simp only [if_true, Bool.false_eq_true, if_false, Bool.false_and, Bool.and_false]; exact Ev.now _
    | true =>
      cases inR b.f2 0 1000000 with
      | false => simp only [if_true, Bool.false_eq_true, if_false, Bool.false_and, Bool.and_false]; exact Ev.now _
      | true =>
        cases inR b.f3 0 100000 with
        | false => simp only [if_true, Bool.false_eq_true, if_false, Bool.false_and, Bool.and_false]; exact Ev.now _
        | true =>
          cases inR b.f4 (-4000) 4500 with
          | false => simp only [if_true, Bool.false_eq_true, if_false, Bool.false_and, Bool.and_false]; exact Ev.now _
          | true =>
            by_cases hl : b.f5.length = 24
            · simp only [if_true, Bool.true_and, if_pos (show (b.f5.length : Int) = 24 by omega), decide_eq_true hl]
              exact Ev.now _
            · simp only [if_true, Bool.true_and, if_neg (show ¬ (b.f5.length : Int) = 24 by omega), decide_eq_false hl, Bool.false_and]
              exact Ev.now _
theorem specOne_ev (b : S39) (h : b.f0.size ≤ 1048576) (h5 : b.f5.length ≤ 1048576) : Ev (fun k => spec_l05One.f k b.f0 b.f1 b.f2 b.f3 b.f4 b.f5) (okB b) := by
  have hj : Ev (fun k => spec_l05One.j0 k true b.f0 b.f1 b.f2 b.f3 b.f4 b.f5) false := Ev.step (fun k => spec_l05One.j0.eq_2 _ _ _ _ _ _ _ k) (by simp only [if_true]; exact Ev.now _)
  unfold spec_l05One.f okB spec_l05Outdoor.f
  simp only [in_eq, Option.bind_some]
  refine Ev.bind (specName_ev _ h) ?_
  cases nameOk b.f0 with
  | false => simp only [Bool.false_eq_true, if_false, Bool.false_and]; exact hj
  | true =>
    cases inR b.f1 0 15 with
    | false => simp only [if_true, Bool.false_eq_true, if_false, Bool.false_and, Bool.and_false]; exact hj
    | true =>
      cases inR b.f2 0 1000000 with
      | false => simp only [if_true, Bool.false_eq_true, if_false, Bool.false_and, Bool.and_false]; exact hj
      | true =>
        cases inR b.f3 0 100000 with
        | false => simp only [if_true, Bool.false_eq_true, if_false, Bool.false_and, Bool.and_false]; exact hj
        | true =>
          cases inR b.f4 (-4000) 4500 with
          | false => simp only [if_true, Bool.false_eq_true, if_false, Bool.false_and, Bool.and_false]; exact hj
          | true =>
            simp only [if_true, Bool.true_and]
            refine Ev.step (fun k => spec_l05One.j0.eq_2 _ _ _ _ _ _ _ k) ?_
            by_cases hl : b.f5.length = 24
            · simp only [show ((b.f5.length : Int) != 24) = false by rw [hl]; rfl, Bool.false_eq_true, if_false, decide_eq_true hl, Bool.true_and]
              have := all_to (L := fun k i => spec_l05One.l0 k i b.f0 b.f1 b.f2 b.f3 b.f4 b.f5) b.f5 (fun x => inR x 0 3000) true false ?_ ?_ ?_
              · cases hr : b.f5.all (fun x => inR x 0 3000) with
                | true => rw [hr] at this; exact this
                | false => rw [hr] at this; exact this
              · intro i hi hp P K
                refine EvP.step (fun k => spec_l05One.l0.eq_2 _ _ _ _ _ _ _ k) ?_
                simp only [if_pos (show (i : Int) < (b.f5.length : Int) by omega), if_pos (show (0 : Int) ≤ (i : Int) by omega), rd_int _ i hi, in_eq, hp, Option.bind_some, if_true, w64 (show -9223372036854775808 ≤ (i : Int) + 1 by omega) (by omega)]
                exact K
              · intro i hi hp
                refine Ev.step (fun k => spec_l05One.l0.eq_2 _ _ _ _ _ _ _ k) ?_
                simp only [if_pos (show (i : Int) < (b.f5.length : Int) by omega), if_pos (show (0 : Int) ≤ (i : Int) by omega), rd_int _ i hi, in_eq, hp, Option.bind_some, Bool.false_eq_true, if_false]
                exact Ev.now _
              · intro _
                refine Ev.step (fun k => spec_l05One.l0.eq_2 _ _ _ _ _ _ _ k) ?_
                simp only [if_neg (show ¬ (b.f5.length : Int) < (b.f5.length : Int) by omega)]
                exact Ev.now _
            · simp only [show ((b.f5.length : Int) != 24) = true by simp; omega, if_true, decide_eq_false hl, Bool.false_and]
              exact Ev.now _
def lessB (a b : ByteArray) : Bool := Op.bytesLess a.toList b.toList
def bAt (l : List S39) (i : Nat) : Bool := okB (l.getD i z39) && (decide (i = 0) || lessB (l.getD (i - 1) z39).f0 (l.getD i z39).f0)
def Sm (l : List S39) : Prop := l.length ≤ 1048576 ∧ ∀ x ∈ l, x.f0.size ≤ 1048576 ∧ x.f5.length ≤ 1048576
theorem rdb (l : List S39) (i : Nat) : rd_T39 l (i : Int) = l.getD i z39 := rfl
theorem getB_mem {l : List S39} {i : Nat} (h : i < l.length) : l.getD i z39 ∈ l := by
  rw [List.getD_eq_getElem?_getD, List.getElem?_eq_getElem h]
  exact List.getElem_mem h
def listOk (l : List S39) : Bool := decide (l.length ≤ 12) && (List.range l.length).all (bAt l)
theorem implOk_ev (l : List S39) (hs : Sm l) : Ev (fun k => impl_ValidBuildings.f k l) (listOk l) := by
  obtain ⟨hl, hs⟩ := hs
  unfold impl_ValidBuildings.f listOk
  by_cases h12 : (l.length : Int) > 12
  · simp only [if_pos h12, decide_eq_false (show ¬ l.length ≤ 12 by omega), Bool.false_and]
    exact Ev.now _
  simp only [if_neg h12, decide_eq_true (show l.length ≤ 12 by omega), Bool.true_and]
  have := all_n (L := fun k i => impl_ValidBuildings.l0 k l l (l.length : Int) i) l.length (bAt l) true false ?_ ?_ ?_
  · cases hr : (List.range l.length).all (bAt l) with
    | true => rw [hr] at this; exact this
    | false => rw [hr] at this; exact this
  · intro i hi hp P K
    unfold bAt at hp
    simp only [Bool.and_eq_true, Bool.or_eq_true, decide_eq_true_eq] at hp
    obtain ⟨h1, h4⟩ := hp
    refine EvP.step (fun k => impl_ValidBuildings.l0.eq_2 _ _ _ _ k) ?_
    have wi := w64 (show -9223372036854775808 ≤ (i : Int) + 1 by omega) (by omega)
    simp only [if_pos (show (i : Int) < (l.length : Int) by omega), if_pos (show (0 : Int) ≤ (i : Int) by omega), rdb]
    refine EvP.bind (implOne_ev _ (hs _ (getB_mem hi)).1) ?_
    simp only [h1, if_true]
    by_cases h0 : i = 0
    · simp only [if_neg (show ¬ (i : Int) > 0 by omega), wi]
      exact K
    · have w1 : wrap64 ((i : Int) - 1) = ((i - 1 : Nat) : Int) := by rw [w64 (by omega) (by omega)]; omega
      have h5 : lessB (l.getD (i - 1) z39).f0 (l.getD i z39).f0 = true := by rcases h4 with h | h; exact absurd h h0; exact h
      unfold lessB at h5
      simp only [if_pos (show (i : Int) > 0 by omega), w1, if_pos (show (0 : Int) ≤ ((i - 1 : Nat) : Int) by omega), if_pos (show ((i - 1 : Nat) : Int) < (l.length : Int) by omega), rdb, h5, if_true, wi]
      exact K
  · intro i hi hp
    refine Ev.step (fun k => impl_ValidBuildings.l0.eq_2 _ _ _ _ k) ?_
    simp only [if_pos (show (i : Int) < (l.length : Int) by omega), if_pos (show (0 : Int) ≤ (i : Int) by omega), rdb]
    refine Ev.bind (implOne_ev _ (hs _ (getB_mem hi)).1) ?_
    unfold bAt at hp
    cases h1 : okB (l.getD i z39) with
    | false => simp only [Bool.false_eq_true, if_false]; exact Ev.now _
    | true =>
      rw [h1, Bool.true_and, Bool.or_eq_false_iff, decide_eq_false_iff_not] at hp
      have w1 : wrap64 ((i : Int) - 1) = ((i - 1 : Nat) : Int) := by rw [w64 (by omega) (by omega)]; omega
      have h5 := hp.2
      unfold lessB at h5
      simp only [if_true, if_pos (show (i : Int) > 0 by omega), w1, if_pos (show (0 : Int) ≤ ((i - 1 : Nat) : Int) by omega), if_pos (show ((i - 1 : Nat) : Int) < (l.length : Int) by omega), rdb, h5, Bool.false_eq_true, if_false]
      exact Ev.now _
  · refine Ev.step (fun k => impl_ValidBuildings.l0.eq_2 _ _ _ _ k) ?_
    simp only [if_neg (show ¬ (l.length : Int) < (l.length : Int) by omega)]
    exact Ev.now _
theorem specOk_ev (l : List S39) (hs : Sm l) : Ev (fun k => spec_l05Ok.f k l) (listOk l) := by
  obtain ⟨hl, hs⟩ := hs
  unfold spec_l05Ok.f listOk
  have := all_n (L := fun k i => spec_l05Ok.l0 k l i) l.length (bAt l) (decide (l.length ≤ 12)) false ?_ ?_ ?_
  · cases hr : (List.range l.length).all (bAt l) with
    | true => rw [hr, if_pos rfl] at this; rw [Bool.and_true]; exact this
    | false => rw [hr] at this; rw [Bool.and_false]; exact this
  · intro i hi hp P K
    unfold bAt at hp
    simp only [Bool.and_eq_true, Bool.or_eq_true, decide_eq_true_eq] at hp
    obtain ⟨h1, h4⟩ := hp
    refine EvP.step (fun k => spec_l05Ok.l0.eq_2 _ _ k) ?_
    have wi := w64 (show -9223372036854775808 ≤ (i : Int) + 1 by omega) (by omega)
    simp only [if_pos (show (i : Int) < (l.length : Int) by omega), if_pos (show (0 : Int) ≤ (i : Int) by omega), rdb]
    refine EvP.bind (specOne_ev _ (hs _ (getB_mem hi)).1 (hs _ (getB_mem hi)).2) ?_
    simp only [h1, if_true]
    by_cases h0 : i = 0
    · simp only [if_neg (show ¬ (i : Int) > 0 by omega), wi]
      exact K
    · have w1 : wrap64 ((i : Int) - 1) = ((i - 1 : Nat) : Int) := by rw [w64 (by omega) (by omega)]; omega
      have h5 : lessB (l.getD (i - 1) z39).f0 (l.getD i z39).f0 = true := by rcases h4 with h | h; exact absurd h h0; exact h
      unfold lessB at h5
      simp only [if_pos (show (i : Int) > 0 by omega), w1, if_pos (show (0 : Int) ≤ ((i - 1 : Nat) : Int) by omega), if_pos (show ((i - 1 : Nat) : Int) < (l.length : Int) by omega), rdb, h5, if_true, wi]
      exact K
  · intro i hi hp
    refine Ev.step (fun k => spec_l05Ok.l0.eq_2 _ _ k) ?_
    simp only [if_pos (show (i : Int) < (l.length : Int) by omega), if_pos (show (0 : Int) ≤ (i : Int) by omega), rdb]
    refine Ev.bind (specOne_ev _ (hs _ (getB_mem hi)).1 (hs _ (getB_mem hi)).2) ?_
    unfold bAt at hp
    cases h1 : okB (l.getD i z39) with
    | false => simp only [Bool.false_eq_true, if_false]; exact Ev.now _
    | true =>
      rw [h1, Bool.true_and, Bool.or_eq_false_iff, decide_eq_false_iff_not] at hp
      have w1 : wrap64 ((i : Int) - 1) = ((i - 1 : Nat) : Int) := by rw [w64 (by omega) (by omega)]; omega
      have h5 := hp.2
      unfold lessB at h5
      simp only [if_true, if_pos (show (i : Int) > 0 by omega), w1, if_pos (show (0 : Int) ≤ ((i - 1 : Nat) : Int) by omega), if_pos (show ((i - 1 : Nat) : Int) < (l.length : Int) by omega), rdb, h5, Bool.false_eq_true, if_false]
      exact Ev.now _
  · refine Ev.step (fun k => spec_l05Ok.l0.eq_2 _ _ k) ?_
    simp only [if_neg (show ¬ (l.length : Int) < (l.length : Int) by omega)]
    rw [show decide ((l.length : Int) ≤ 12) = decide (l.length ≤ 12) from decide_eq_decide.2 (by omega)]
    exact Ev.now _
def bt (b : S39) : ByteArray := b.f0 ++ (⟨#[32]⟩ : ByteArray) ++ tx [b.f1, b.f2, b.f3, b.f4] ++ (⟨#[32]⟩ : ByteArray) ++ tx b.f5
theorem tx_size (l : List Int) (h : Rg l) : (tx l).size ≤ 1344 + 1 := by
  have := T_len l h.2
  have hl := h.1
  unfold tx
  split
  · decide
  · rw [ba_size]; omega
theorem rg4 (b : S39) (h : okB b = true) : Rg [b.f1, b.f2, b.f3, b.f4] := by
  unfold okB inR at h
  simp only [Bool.and_eq_true, decide_eq_true_eq] at h
  refine ⟨by simp, fun x hx => ?_⟩
  simp only [List.mem_cons, List.not_mem_nil, or_false] at hx
  rcases hx with rfl | rfl | rfl | rfl <;> omega
theorem rg5 (b : S39) (h : okB b = true) : Rg b.f5 := by
  unfold okB inR at h
  simp only [Bool.and_eq_true, decide_eq_true_eq, List.all_eq_true] at h
  refine ⟨by omega, fun x hx => ?_⟩
  have := h.2.2.2.2.2.2 x hx
  omega
theorem one32 : (⟨#[32]⟩ : ByteArray).size = 1 := rfl
theorem implText_ev (b : S39) (hs : b.f0.size ≤ 1048576) (h : okB b = true) : Ev (fun k => impl_BuildingText.f k b.f0 b.f1 b.f2 b.f3 b.f4 b.f5) (bt b) := by
  have z1 := tx_size _ (rg4 b h)
  have z2 := tx_size _ (rg5 b h)
  unfold impl_BuildingText.f
  refine Ev.bind (implOne_ev b hs) ?_
  simp only [h, if_true]
  have hw : Ev (fun k => impl_withId.f k b.f0 [b.f1, b.f2, b.f3, b.f4]) (b.f0 ++ (⟨#[32]⟩ : ByteArray) ++ tx [b.f1, b.f2, b.f3, b.f4]) := by
    unfold impl_withId.f
    simp only [if_pos (show b.f0.size + 1 ≤ 9223372036854775807 by omega)]
    refine Ev.bind (listText_ev _ (rg4 b h)) ?_
    simp only [ByteArray.size_append, one32, if_pos (show b.f0.size + 1 + (tx [b.f1, b.f2, b.f3, b.f4]).size ≤ 9223372036854775807 by omega)]
    exact Ev.now _
  refine Ev.bind hw ?_
  simp only [ByteArray.size_append, one32, if_pos (show b.f0.size + 1 + (tx [b.f1, b.f2, b.f3, b.f4]).size + 1 ≤ 9223372036854775807 by omega)]
  refine Ev.bind (listText_ev _ (rg5 b h)) ?_
  simp only [if_pos (show b.f0.size + 1 + (tx [b.f1, b.f2, b.f3, b.f4]).size + 1 + (tx b.f5).size ≤ 9223372036854775807 by omega)]
  exact Ev.now _
theorem specText_ev (b : S39) (hs : b.f0.size ≤ 1048576) (h : okB b = true) : Ev (fun k => spec_l05Text.f k b.f0 b.f1 b.f2 b.f3 b.f4 b.f5) (bt b) := by
  have z1 := tx_size _ (rg4 b h)
  have z2 := tx_size _ (rg5 b h)
  unfold spec_l05Text.f
  simp only [if_pos (show b.f0.size + 1 ≤ 9223372036854775807 by omega)]
  refine Ev.bind (specList_ev _ (rg4 b h)) ?_
  simp only [ByteArray.size_append, one32, if_pos (show b.f0.size + 1 + (tx [b.f1, b.f2, b.f3, b.f4]).size ≤ 9223372036854775807 by omega), if_pos (show b.f0.size + 1 + (tx [b.f1, b.f2, b.f3, b.f4]).size + 1 ≤ 9223372036854775807 by omega)]
  refine Ev.bind (specList_ev _ (rg5 b h)) ?_
  simp only [if_pos (show b.f0.size + 1 + (tx [b.f1, b.f2, b.f3, b.f4]).size + 1 + (tx b.f5).size ≤ 9223372036854775807 by omega)]
  exact Ev.now _
def mk (b : S39) : S43 := ⟨(⟨#[98, 117, 105, 108, 100, 105, 110, 103]⟩ : ByteArray), b.f0, bt b⟩
theorem ok_at (l : List S39) (h : listOk l = true) (i : Nat) (hi : i < l.length) : okB l[i] = true := by
  unfold listOk at h
  simp only [Bool.and_eq_true, List.all_eq_true, List.mem_range] at h
  have := h.2 i hi
  unfold bAt at this
  simp only [Bool.and_eq_true] at this
  have e : l.getD i z39 = l[i] := by rw [List.getD_eq_getElem?_getD, List.getElem?_eq_getElem hi]; rfl
  rw [e] at this
  exact this.1
theorem rdB (l : List S39) (i : Nat) (h : i < l.length) : rd_T39 l (i : Int) = l[i] := getD_at l z39 i h
theorem take_mk (l : List S39) (i : Nat) (h : i < l.length) : (l.take i).map mk ++ [mk l[i]] = (l.take (i + 1)).map mk := by
  rw [List.take_succ_eq_append_getElem h, List.map_append]
  rfl
def ans (l : List S39) : List S43 × Int := if listOk l = true then (l.map mk, 0) else ([], 1)
theorem impl_ev (l : List S39) (hs : Sm l) : Ev (fun k => impl_BlocksOfBuildings.f k l) (ans l) := by
  unfold impl_BlocksOfBuildings.f ans
  refine Ev.bind (implOk_ev l hs) ?_
  cases hr : listOk l with
  | false => simp only [Bool.false_eq_true, if_false]; exact Ev.now _
  | true =>
    obtain ⟨hl, hs⟩ := hs
    simp only [if_true]
    apply EvP.eq
    refine for_evp (L := fun k (s : List S43) i => impl_BlocksOfBuildings.l0 k s l (l.length : Int) i) l.length (fun i s => s = (l.take i).map mk) ?_ ?_ [] (by simp)
    · rintro i s hi rfl K
      refine EvP.step (fun k => impl_BlocksOfBuildings.l0.eq_2 _ _ _ _ k) ?_
      simp only [if_pos (show (i : Int) < (l.length : Int) by omega), if_pos (show (0 : Int) ≤ (i : Int) by omega), rdB l i hi]
      refine EvP.bind (implText_ev l[i] (hs _ (List.getElem_mem hi)).1 (ok_at l hr i hi)) ?_
      simp only [if_pos (show ((l.take i).map mk).length < 2932031007402 by simp; omega), w64 (show -9223372036854775808 ≤ (i : Int) + 1 by omega) (by omega)]
      exact K _ (take_mk l i hi)
    · rintro s rfl
      refine EvP.step (fun k => impl_BlocksOfBuildings.l0.eq_2 _ _ _ _ k) ?_
      simp only [if_neg (show ¬ (l.length : Int) < (l.length : Int) by omega), List.take_length]
      exact EvP.now rfl
theorem spec_ev (l : List S39) (hs : Sm l) : Ev (fun k => spec_BlocksOfBuildings.f k l) (ans l) := by
  unfold spec_BlocksOfBuildings.f ans
  refine Ev.bind (specOk_ev l hs) ?_
  cases hr : listOk l with
  | false => simp only [Bool.false_eq_true, if_false]; exact Ev.now _
  | true =>
    obtain ⟨hl, hs⟩ := hs
    simp only [if_true]
    apply EvP.eq
    refine for_evp (L := fun k (s : List S43) i => spec_BlocksOfBuildings.l0 k l s i) l.length (fun i s => s = (l.take i).map mk) ?_ ?_ [] (by simp)
    · rintro i s hi rfl K
      refine EvP.step (fun k => spec_BlocksOfBuildings.l0.eq_2 _ _ _ k) ?_
      simp only [if_pos (show (i : Int) < (l.length : Int) by omega), if_pos (show (0 : Int) ≤ (i : Int) by omega), rdB l i hi]
      refine EvP.bind (specText_ev l[i] (hs _ (List.getElem_mem hi)).1 (ok_at l hr i hi)) ?_
      simp only [if_pos (show ((l.take i).map mk).length < 2932031007402 by simp; omega), w64 (show -9223372036854775808 ≤ (i : Int) + 1 by omega) (by omega)]
      exact K _ (take_mk l i hi)
    · rintro s rfl
      refine EvP.step (fun k => spec_BlocksOfBuildings.l0.eq_2 _ _ _ k) ?_
      simp only [if_neg (show ¬ (l.length : Int) < (l.length : Int) by omega), List.take_length]
      exact EvP.now rfl
theorem ans_len (l : List S39) (hl : l.length ≤ 1048576) : (ans l).1.length ≤ 1048576 := by
  unfold ans
  split
  · simpa using hl
  · simp
end Go.Proofs.YtlhhigkmcidekaaDoor.PBld2
end

section
namespace Go.Proofs.YtlhhigkmcidekaaDoor.SB
open Go.RowKit Go.Proofs.YtlhhigkmcidekaaDoorW.PrintWords Go.Proofs.YtlhhigkmcidekaaDoor.XB Go.Proofs.YtlhhigkmcidekaaDoor.EvK
set_option linter.unusedVariables false
set_option linter.unusedSimpArgs false
theorem eqBlockS_ev (l : List (S43)) (hl : l.length ≤ 1048576) : Ev (fun k => laws_eqBlockS.f k l l) true := by
  apply EvP.eq
  unfold laws_eqBlockS.f
  simp only [if_true]
  refine for_evp (L := fun k (s : Unit) i => laws_eqBlockS.l0 k l l i) l.length (fun i s => True) ?_ ?_ () trivial
  · rintro i s hi - K
    refine EvP.step (fun k => laws_eqBlockS.l0.eq_2 _ _ _ k) ?_
    simp only [if_pos (show (i : Int) < (l.length : Int) by omega), if_pos (show (0 : Int) ≤ (i : Int) by omega), laws_eqBlock.f, Option.bind_some, if_true, w64 (show -9223372036854775808 ≤ (i : Int) + 1 by omega) (by omega)]
    exact K () trivial
  · rintro s -
    refine EvP.step (fun k => laws_eqBlockS.l0.eq_2 _ _ _ k) ?_
    simp only [if_neg (show ¬ (l.length : Int) < (l.length : Int) by omega)]
    exact EvP.now rfl
end Go.Proofs.YtlhhigkmcidekaaDoor.SB
end

section
namespace Go.Proofs.YtlhhigkmcidekaaDoor.SB
open Go.RowKit Go.Proofs.YtlhhigkmcidekaaDoorW.PrintWords Go.Proofs.YtlhhigkmcidekaaDoor.XB Go.Proofs.YtlhhigkmcidekaaDoor.EvK
set_option linter.unusedVariables false
set_option linter.unusedSimpArgs false
theorem markBlockS_ev (l : List (S43)) (c : Int) (h0 : 0 ≤ c) (h1 : c + 3 * (l.length : Int) ≤ 4611686018427387904) :
    ∃ y : List (S43), Ev (fun k => laws_markBlockS.f k l c) (c + 3 * (l.length : Int), y) ∧ Ev (fun k => laws_heldBlockS.f k y c) (c + 3 * (l.length : Int)) ∧ y.length = l.length := by
  obtain ⟨T, hT⟩ : ∃ T : Int → ByteArray, ∀ x : Int, 0 ≤ x → x ≤ 4611686018427387904 → Ev (fun k => laws_markText.f k x) (T x) := ⟨fun x => if h : 0 ≤ x ∧ x ≤ 4611686018427387904 then Classical.choose (markText_ev x h.1 h.2) else ByteArray.empty, fun x h h' => by simp only [h, h', and_self, dif_pos]; exact Classical.choose_spec (markText_ev x h h')⟩
  let E : Nat → S43 := fun j => ⟨T (c + 3 * (j : Int)), T (c + 3 * (j : Int) + 1), T (c + 3 * (j : Int) + 1 + 1)⟩
  have hset : ∀ (i : Nat) (h : i < l.length), ((List.range i).map E ++ l.drop i).set i (E i) = (List.range (i + 1)).map E ++ l.drop (i + 1) := fun i h => set_done E l i h
  have hlen : ∀ (i : Nat), i ≤ l.length → ((List.range i).map E ++ l.drop i).length = l.length := by intro i h; simp; omega
  refine ⟨(List.range l.length).map E, EvP.eq ?_, EvP.eq ?_, by simp⟩
  · unfold laws_markBlockS.f
    refine for_evp (L := fun k (s : List (S43) × Int) i => laws_markBlockS.l0 k s.1 s.2 i) l.length (fun i s => s = ((List.range i).map E ++ l.drop i, c + 3 * (i : Int))) ?_ ?_ (l, c) (by simp)
    · rintro i s hi rfl K
      refine EvP.step (fun k => laws_markBlockS.l0.eq_2 _ _ _ k) ?_
      simp only [hlen i (by omega), if_pos (show (i : Int) < (l.length : Int) by omega), if_pos (show (0 : Int) ≤ (i : Int) by omega), Option.bind_some, w64 (show -9223372036854775808 ≤ (i : Int) + 1 by omega) (by omega), w64 (show -9223372036854775808 ≤ c + 3 * (i : Int) + 1 by omega) (by omega), w64 (show -9223372036854775808 ≤ c + 3 * (i : Int) + 1 + 1 by omega) (by omega), w64 (show -9223372036854775808 ≤ c + 3 * (i : Int) + 1 + 1 + 1 by omega) (by omega), Int.toNat_natCast]
      refine EvP.bind (hT (c + 3 * (i : Int)) (by omega) (by omega)) ?_
      refine EvP.bind (hT (c + 3 * (i : Int) + 1) (by omega) (by omega)) ?_
      refine EvP.bind (hT (c + 3 * (i : Int) + 1 + 1) (by omega) (by omega)) ?_
      refine K (_, _) ?_
      rw [← hset i hi, Prod.mk.injEq]
      refine ⟨?_, by push_cast; omega⟩
      have g1 := hlen i (by omega)
      generalize (List.range i).map E ++ l.drop i = L at g1
      have g2 : i < L.length := by omega
      first | rfl | (simp [rd_T43, E, getD_set_self, g2])
    · rintro s rfl
      refine EvP.step (fun k => laws_markBlockS.l0.eq_2 _ _ _ k) ?_
      simp only [hlen l.length (Nat.le_refl _), if_neg (show ¬ (l.length : Int) < (l.length : Int) by omega)]
      exact EvP.now (by simp)
  · unfold laws_heldBlockS.f
    have hl2 : ((List.range l.length).map E).length = l.length := by simp
    refine for_evp (L := fun k (s : Int) i => laws_heldBlockS.l0 k ((List.range l.length).map E) s i) l.length (fun i s => s = c + 3 * (i : Int)) ?_ ?_ c (by simp)
    · rintro i s hi rfl K
      have e : rd_T43 ((List.range l.length).map E) (i : Int) = E i := by
        rw [show rd_T43 ((List.range l.length).map E) (i : Int) = ((List.range l.length).map E)[i]'(by simpa using hi) from getD_at _ z43 i (by simpa using hi)]; simp
      refine EvP.step (fun k => laws_heldBlockS.l0.eq_2 _ _ _ k) ?_
      simp only [hl2, if_pos (show (i : Int) < (l.length : Int) by omega), if_pos (show (0 : Int) ≤ (i : Int) by omega), e, E, if_true, w64 (show -9223372036854775808 ≤ (i : Int) + 1 by omega) (by omega), w64 (show -9223372036854775808 ≤ c + 3 * (i : Int) + 1 by omega) (by omega), w64 (show -9223372036854775808 ≤ c + 3 * (i : Int) + 1 + 1 by omega) (by omega), w64 (show -9223372036854775808 ≤ c + 3 * (i : Int) + 1 + 1 + 1 by omega) (by omega)]
      refine EvP.bind (hT (c + 3 * (i : Int)) (by omega) (by omega)) ?_
      simp only [if_true]
      refine EvP.bind (hT (c + 3 * (i : Int) + 1) (by omega) (by omega)) ?_
      simp only [if_true]
      refine EvP.bind (hT (c + 3 * (i : Int) + 1 + 1) (by omega) (by omega)) ?_
      simp only [if_true]
      exact K _ (by push_cast; omega)
    · rintro s rfl
      refine EvP.step (fun k => laws_heldBlockS.l0.eq_2 _ _ _ k) ?_
      simp only [hl2, if_neg (show ¬ (l.length : Int) < (l.length : Int) by omega)]
      exact EvP.now rfl
end Go.Proofs.YtlhhigkmcidekaaDoor.SB
end

section
namespace Go.Proofs.YtlhhigkmcidekaaDoor.PureFnExactBlocksOfBuildings
open Go.RowKit Go.Proofs.YtlhhigkmcidekaaDoorW.PrintWords Go.Proofs.YtlhhigkmcidekaaDoorW.PrintMore Go.Proofs.YtlhhigkmcidekaaDoor.XB Go.Proofs.YtlhhigkmcidekaaDoor.EvK Go.Proofs.YtlhhigkmcidekaaDoor.SB Go.Proofs.YtlhhigkmcidekaaDoor.PBld Go.Proofs.YtlhhigkmcidekaaDoor.PBld2
set_option linter.unusedVariables false
set_option linter.unusedSimpArgs false
theorem rdl (l : List S37) (i : Nat) (h : i < l.length) : rd_T37 l (i : Int) = l[i] := getD_at l z37 i h
theorem szOne (x : S37) (left : Int) (h0 : 0 ≤ left) (h1 : left ≤ 1048576) (hq : Q37 x) : ∃ t, laws_szBuilding.f x.f0 x.f1 x.f2 x.f3 x.f4 x.f5 left = some t ∧ t ≤ left ∧ (0 ≤ t → x.f0.size ≤ 1048576 ∧ x.f5.length ≤ 1048576) := by
  obtain ⟨ha, _, _, _, _, hb, _⟩ := hq
  unfold maxLen at ha
  unfold laws_szBuilding.f
  rw [w64 (by omega) (by omega)]
  by_cases hc : left - (x.f0.size : Int) < 0
  · simp only [if_pos hc]
    exact ⟨_, rfl, by omega, by omega⟩
  simp only [if_neg hc]
  obtain ⟨t, e, ht, hs⟩ := szInt64S_val x.f5 (left - (x.f0.size : Int)) (by omega) (by omega) hb
  simp only [e, Option.bind_some]
  by_cases hn : t < 0
  · simp only [if_pos hn]
    exact ⟨_, rfl, by omega, by omega⟩
  · simp only [if_neg hn]
    exact ⟨_, rfl, by omega, fun h => ⟨by omega, hs h⟩⟩
theorem sz_ev (l : List S37) (left : Int) (h0 : 0 ≤ left) (h1 : left ≤ 1048576) (hq : l.length ≤ maxLen ∧ ∀ y ∈ l, Q37 y) : EvP (fun k => laws_szBuildingS.f k l left) (fun t => t ≤ left ∧ (0 ≤ t → l.length ≤ 1048576 ∧ ∀ x ∈ l, x.f0.size ≤ 1048576 ∧ x.f5.length ≤ 1048576)) := by
  obtain ⟨hl, hq⟩ := hq
  unfold maxLen at hl
  unfold laws_szBuildingS.f
  rw [w64 (by omega) (by omega)]
  by_cases hc : left - (l.length : Int) < 0
  · simp only [if_pos hc]
    exact EvP.now ⟨by omega, by omega⟩
  simp only [if_neg hc]
  refine for_evp (L := fun k (s : Int) i => laws_szBuildingS.l0 k l s i) l.length (fun i s => 0 ≤ s ∧ s ≤ left - (l.length : Int) ∧ ∀ x ∈ l.take i, x.f0.size ≤ 1048576 ∧ x.f5.length ≤ 1048576) ?_ ?_ _ ⟨by omega, by omega, by simp⟩
  · rintro i s hi ⟨hs0, hs1, hs⟩ K
    refine EvP.step (fun k => laws_szBuildingS.l0.eq_2 _ _ _ k) ?_
    obtain ⟨t, e, ht1, ht2⟩ := szOne l[i] s hs0 (by omega) (hq _ (List.getElem_mem hi))
    simp only [if_pos (show (i : Int) < (l.length : Int) by omega), if_pos (show (0 : Int) ≤ (i : Int) by omega), rdl l i hi, e, Option.bind_some]
    by_cases hn : t < 0
    · simp only [if_pos hn]
      exact EvP.now ⟨by omega, by omega⟩
    · simp only [if_neg hn, w64 (show -9223372036854775808 ≤ (i : Int) + 1 by omega) (by omega)]
      exact K _ ⟨by omega, by omega, take_all hi hs (ht2 (by omega))⟩
  · rintro s ⟨hs0, hs1, hs⟩
    refine EvP.step (fun k => laws_szBuildingS.l0.eq_2 _ _ _ k) ?_
    simp only [if_neg (show ¬ (l.length : Int) < (l.length : Int) by omega)]
    exact EvP.now ⟨by omega, fun _ => ⟨by omega, by simpa using hs⟩⟩
def el (x : S37) : S39 := ⟨x.f0, x.f1, x.f2, x.f3, x.f4, x.f5⟩
theorem to_ev (l : List S37) (hl : l.length ≤ 1048576) (hr : ∀ x ∈ l, x.f0.size ≤ 1048576 ∧ x.f5.length ≤ 1048576) : Ev (fun k => laws_toBuildingS.f k l) (l.map el) := by
  apply EvP.eq
  unfold laws_toBuildingS.f
  simp only [if_pos (show (0 : Int) ≤ (l.length : Int) by omega), Int.toNat_natCast, if_pos (show l.length ≤ 3909374676536 by omega)]
  refine for_evp (L := fun k (s : List S39) i => laws_toBuildingS.l0 k l s i) l.length (fun i s => s = (l.take i).map el ++ List.replicate (l.length - i) z39) ?_ ?_ (List.replicate l.length z39) (by simp)
  · rintro i s hi rfl K
    have hlen := done_len el l z39 i (by omega)
    refine EvP.step (fun k => laws_toBuildingS.l0.eq_2 _ _ _ k) ?_
    simp only [if_pos (show (i : Int) < (l.length : Int) by omega), if_pos (show (0 : Int) ≤ (i : Int) by omega), rdl l i hi]
    have ht : Ev (fun k => laws_toBuilding.f k l[i].f0 l[i].f1 l[i].f2 l[i].f3 l[i].f4 l[i].f5) (l[i].f0, l[i].f1, l[i].f2, l[i].f3, l[i].f4, l[i].f5) := by
      unfold laws_toBuilding.f
      have h := toInt64S_ev l[i].f5 (hr _ (List.getElem_mem hi)).2
      rw [show l[i].f5.map toInt64S_el = l[i].f5 from List.map_id _] at h
      exact Ev.bind h (Ev.now _)
    refine EvP.bind ht ?_
    simp only [hlen, if_pos (show (i : Int) < (l.length : Int) by omega), w64 (show -9223372036854775808 ≤ (i : Int) + 1 by omega) (by omega), Int.toNat_natCast]
    refine K _ ?_
    show List.set _ i (el l[i]) = _
    exact map_done el l _ i hi
  · rintro s rfl
    refine EvP.step (fun k => laws_toBuildingS.l0.eq_2 _ _ _ k) ?_
    simp only [if_neg (show ¬ (l.length : Int) < (l.length : Int) by omega)]
    exact EvP.now (by simp)
theorem eq_ev (l : List S39) (hs : Sm l) : Ev (fun k => laws_eqBuildingS.f k l l) true := by
  obtain ⟨h1, h2⟩ := hs
  unfold laws_eqBuildingS.f
  simp only [if_true]
  have := all_ev (L := fun k i => laws_eqBuildingS.l0 k l l i) l (fun _ => true) true ?_ ?_ ?_
  · rwa [show (l.all (fun _ => true) && true) = true by simp] at this
  · intro i hi _ P K
    refine EvP.step (fun k => laws_eqBuildingS.l0.eq_2 _ _ _ k) ?_
    simp only [if_pos (show (i : Int) < (l.length : Int) by omega), if_pos (show (0 : Int) ≤ (i : Int) by omega), rdB l i hi]
    have he : Ev (fun k => laws_eqBuilding.f k l[i].f0 l[i].f1 l[i].f2 l[i].f3 l[i].f4 l[i].f5 l[i].f0 l[i].f1 l[i].f2 l[i].f3 l[i].f4 l[i].f5) true := by
      unfold laws_eqBuilding.f
      simp only [if_true]
      refine Ev.bind (eqInt64S_ev _ (h2 _ (List.getElem_mem hi)).2) ?_
      simp only [if_true]
      exact Ev.now _
    refine EvP.bind he ?_
    simp only [if_true, w64 (show -9223372036854775808 ≤ (i : Int) + 1 by omega) (by omega)]
    exact K
  · intro i hi h
    exact absurd h (by simp)
  · refine Ev.step (fun k => laws_eqBuildingS.l0.eq_2 _ _ _ k) ?_
    simp only [if_neg (show ¬ (l.length : Int) < (l.length : Int) by omega)]
    exact Ev.now _
theorem mark_ev (l : List S39) (hs : Sm l) : ∃ (c2 : Int) (y : List S39), Ev (fun k => laws_markBuildingS.f k l 1) (c2, y) ∧ 0 ≤ c2 := by
  obtain ⟨h1, h2⟩ := hs
  have K : ∀ d i : Nat, i + d = l.length → ∀ (x : List S39) (a : Int), x.length = l.length → (∀ j, i ≤ j → x.getD j z39 = l.getD j z39) → 0 ≤ a → a + (d : Int) * 1048581 ≤ 4611686018427387904 → ∃ (c2 : Int) (y : List S39), Ev (fun k => laws_markBuildingS.l0 k x a (i : Int)) (c2, y) ∧ 0 ≤ c2 := by
    intro d
    induction d with
    | zero =>
      intro i hi x a hx _ ha _
      refine ⟨a, x, ?_, ha⟩
      refine Ev.step (fun k => laws_markBuildingS.l0.eq_2 _ _ _ k) ?_
      simp only [if_neg (show ¬ (i : Int) < (x.length : Int) by omega)]
      exact Ev.now _
    | succ d ih =>
      intro i hi x a hx he ha hb
      have hil : i < l.length := by omega
      have hxi : x.getD i z39 = l[i] := by rw [he i (Nat.le_refl _)]; simp [hil]
      have h3 := (h2 l[i] (List.getElem_mem hil)).2
      obtain ⟨t, ht⟩ := markText_ev a ha (by omega)
      obtain ⟨y, hy, hy2⟩ := markInt64S_ev l[i].f5 (a + 1 + 1 + 1 + 1 + 1) (by omega) (by omega)
      have hel : Ev (fun k => laws_markBuildingS.el k l[i] a) (a + 1 + 1 + 1 + 1 + 1 + (l[i].f5.length : Int), ⟨t, a + 1, a + 1 + 1, a + 1 + 1 + 1, a + 1 + 1 + 1 + 1, y⟩) := by
        unfold laws_markBuildingS.el
        rw [w64 (show -9223372036854775808 ≤ a + 1 by omega) (by omega), w64 (show -9223372036854775808 ≤ a + 1 + 1 by omega) (by omega), w64 (show -9223372036854775808 ≤ a + 1 + 1 + 1 by omega) (by omega), w64 (show -9223372036854775808 ≤ a + 1 + 1 + 1 + 1 by omega) (by omega), w64 (show -9223372036854775808 ≤ a + 1 + 1 + 1 + 1 + 1 by omega) (by omega)]
        exact Ev.bind ht (Ev.bind hy (Ev.now _))
      obtain ⟨c2, z, hz, hz0⟩ := ih (i + 1) (by omega) (x.set i ⟨t, a + 1, a + 1 + 1, a + 1 + 1 + 1, a + 1 + 1 + 1 + 1, y⟩) (a + 1 + 1 + 1 + 1 + 1 + (l[i].f5.length : Int)) (by simpa using hx) (fun j hj => by
        rw [← he j (by omega)]
        simp only [List.getD_eq_getElem?_getD, List.getElem?_set]
        rw [if_neg (by omega)]) (by omega) (by omega)
      refine ⟨c2, z, ?_, hz0⟩
      refine Ev.step (fun k => laws_markBuildingS.l0.eq_2 _ _ _ k) ?_
      simp only [if_pos (show (i : Int) < (x.length : Int) by omega), if_pos (show (0 : Int) ≤ (i : Int) by omega), Int.toNat_natCast, hxi]
      refine Ev.bind hel ?_
      simp only [w64 (show -9223372036854775808 ≤ (i : Int) + 1 by omega) (by omega)]
      exact hz
  obtain ⟨c2, y, h, h0'⟩ := K l.length 0 (by omega) l 1 rfl (fun _ _ => rfl) (by omega) (by omega)
  exact ⟨c2, y, h, h0'⟩
theorem pure : laws_FnExactBlocksOfBuildings.Pure := by
  intro l hq
  apply EvP.rounds
  unfold laws_FnExactBlocksOfBuildings.f
  refine EvP.bindP (sz_ev l 1048576 (by omega) (by omega) hq) (fun t ⟨ht, hs⟩ => ?_)
  by_cases hn : t < 0
  · simp only [if_pos hn]
    exact EvP.now rfl
  simp only [if_neg hn]
  obtain ⟨h1, h2⟩ := hs (by omega)
  have hto := to_ev l h1 h2
  have hsm : Sm (l.map el) := by
    refine ⟨by simpa using h1, fun x hx => ?_⟩
    obtain ⟨y, hy, rfl⟩ := List.mem_map.1 hx
    exact h2 y hy
  generalize l.map el = L at hto hsm
  have e1 := spec_ev L hsm
  have e2 := impl_ev L hsm
  have hal := ans_len L hsm.1
  have he := eqBlockS_ev (ans L).1 hal
  obtain ⟨c2, y, hm, hm0⟩ := mark_ev L hsm
  obtain ⟨z, hz, hh, hzl⟩ := markBlockS_ev (ans L).1 1 (by omega) (by omega)
  refine EvP.bind hto (EvP.bind e1 (EvP.bind hto (EvP.bind e2 (EvP.bind he ?_))))
  simp only [if_true]
  refine EvP.bind hto (EvP.bind (eq_ev L hsm) ?_)
  simp only [if_true]
  refine EvP.bind hm ?_
  simp only [if_pos (show ¬ c2 < 0 by omega)]
  refine EvP.bind he ?_
  simp only [if_true]
  refine EvP.bind hz (EvP.bind hh ?_)
  simp only [if_pos (show ¬ (1 + 3 * ((ans L).1.length : Int)) < 0 by omega), if_true]
  refine EvP.bind hto (EvP.bind e2 (EvP.bind he ?_))
  simp only [if_true]
  refine EvP.bind hh ?_
  simp only [if_pos (show ¬ (1 + 3 * ((ans L).1.length : Int)) < 0 by omega), if_true]
  exact EvP.now rfl
end Go.Proofs.YtlhhigkmcidekaaDoor.PureFnExactBlocksOfBuildings
end

section
namespace Go.Proofs.YtlhhigkmcidekaaDoor.LaidKit
open Go Go.RowKit
theorem returns_laid_shaped {H : Type} {enc : TypeId × Value → H} {a : Assume} {C : Checked} {os : Os} {f : FuncId} {fn : Func} {s : ChangeSpec} {conds : List PathCond} {apart fresh handsOn again : Bool} {X : World → Array Value → Prop}
    (hX : ∀ (w w' : World) (args : Array Value), w.heap = w'.heap → X w args → X w' args)
    (own : ownKnob C.prog.godebug = none) (started : os.Started) (noInit : C.prog.inits.idxOf? f = none) (hfn : C.prog.funcs[f]? = some fn)
    (witness : ∃ (w : World) (tape : Tape) (i : Input), w.os = os ∧ (w.forCall tape i).Shaped C.prog ∧ i.vars = [] ∧ Input.okWide C.prog (w.forCall tape i) .any w.heap.size f i ∧
      ((s.pre enc C.prog fn conds apart (w.forCall tape i).memory i.args ∧ X (w.forCall tape i).memory i.args) ∧ sizedMet enc C.prog fn (OpenSpec.ofChange s) apart (w.forCall tape i).memory i.args) ∧ a.holds C.prog (lone (Frame.enter C.prog f i.args .normal) [] (w.forCall tape i)))
    (contract : ∀ (W : World) (base : Nat) (args : Array Value) (ds gs : List (DataW H)) (before : List MemPlace),
      (∀ (j : Nat) t v, fn.params[j]? = some t → args[j]? = some v → Value.okWide C.prog W .any base t v) →
      DataW.Whole enc C.prog fn.params.toList s.vars apart W args.toList ds gs before →
      conds.all (PathCond.test C.prog ⟨fn.params.toList, ds, s.plain.varTypes C.prog, gs⟩) = true →
      (DataW.weightsEach C.prog (fn.params.toList ++ s.plain.varTypes C.prog) (ds ++ gs)).all (· ≤ reachBytes) = true → X W args →
      W.ShapedOpen C.prog →
      a.holds C.prog (lone (Frame.enter C.prog f args .normal) [] W) →
      Calls C.prog f args W fun e W' => ∃ v, e = .returned v ∧ s.post enc C.prog fn apart fresh handsOn again W args v W') :
    ReturnsInHanded a C os f .any (fun w args => (s.pre enc C.prog fn conds apart w args ∧ X w args) ∧ sizedMet enc C.prog fn (OpenSpec.ofChange s) apart w args) (s.post enc C.prog fn apart fresh handsOn again) := by
  refine returnsInHanded_of_calls own started noInit witness ?_
  intro w tape i _ hsh _ hok hpre hholds
  obtain ⟨_, _, _, fn', hfn', _, _, _, _, hval⟩ := hok
  have e : fn' = fn := Option.some.inj (hfn'.symm.trans hfn)
  subst e
  obtain ⟨⟨⟨ds, gs, before, hw, hc⟩, hx⟩, hz⟩ := hpre
  have hw' := DataW.Whole.of_heap (w' := w.forCall tape i) (by rfl) hw
  refine (contract (w.forCall tape i) w.heap.size i.args ds gs before hval hw' hc (hz.weights hw) (hX _ _ _ (by rfl) hx) hsh hholds).mono fun e W' ⟨v, he, hp⟩ => ?_
  subst he
  exact ChangeSpec.post_blind hp
theorem laidMet_from {P : Program} {l : List (String × DataW Unit)} {x : String × DataW Unit} {r : List (String × DataW Unit)} {w : World} (h : laidMet P (l ++ x :: r) w) : laidMet P (x :: r) w := by
  induction l with
  | nil => exact h
  | cons a l ih => exact ih h.tail
end Go.Proofs.YtlhhigkmcidekaaDoor.LaidKit
end

section
namespace Go.Proofs.YtlhhigkmcidekaaDoor.RowFnExactBlocksOfBuildings
open Go.ChangeShapes Go.WideShapes Go.ChangeAt Go.RowKit Go.Proofs.YtlhhigkmcidekaaDoorW.PrintWords Go.Proofs.YtlhhigkmcidekaaDoor.XB Go.Proofs.YtlhhigkmcidekaaDoor.Open
open Go.ChangeMaps (open_string shut_string)
set_option linter.unusedVariables false
theorem own : ownKnob Tryd.prog.godebug = none := by kernel_rfl
theorem laidOut : laidOutB Tryd.prog = true := by kernel_rfl
set_option maxRecDepth 100000 in
theorem lifted (os : Os) (started : os.Started) (H : Type) (enc : TypeId × Value → H) :
    ReturnsInHanded {} Tryd.checked os 3 .any (fun w args => (Rows.fnExactBlocksOfBuildingsSpec.pre enc Tryd.prog Tryd.f3 Rows.fnExactBlocksOfBuildingsRow.domain false w args ∧ laidMetH Tryd.prog Rows.fnExactBlocksOfBuildingsRow.laid w) ∧ sizedMet enc Tryd.prog Tryd.f3 (OpenSpec.ofChange Rows.fnExactBlocksOfBuildingsSpec) false w args) (Rows.fnExactBlocksOfBuildingsSpec.post enc Tryd.prog Tryd.f3 false true false false) := by
  refine LaidKit.returns_laid_shaped (C := Tryd.checked) (X := fun w _ => laidMetH Tryd.prog Rows.fnExactBlocksOfBuildingsRow.laid w) (fun _ _ _ hh h => h.of_heap hh) own started (by kernel_rfl) Tryd.func3
    (ChangeSpec.witness_shaped (enc := enc) (C := Tryd.checked) (os := os) (X := fun w _ => laidMetH Tryd.prog Rows.fnExactBlocksOfBuildingsRow.laid w) false (World.laidAll Tryd.prog os Rows.fnExactBlocksOfBuildingsRow.laid) #[(.slice none 0 0)] 8 (World.laidAll_os _ _ _)
      (World.shaped_of_ZipB (by kernel_rfl) (by kernel_rfl)) (by kernel_rfl) (by kernel_rfl) (by kernel_rfl)
      (by rw [MakeChecks.laidMetH_plain _ _ _ (by kernel_rfl)]; exact laidMet_laidAll _ (by kernel_rfl) (by kernel_rfl))) ?_
  intro W base args ds gs before hval0 hW hcnd hsz0 hLD hsh _
  have hsz : (DataW.weightsEach Tryd.prog (Tryd.f3.params.toList ++ Rows.fnExactBlocksOfBuildingsSpec.plain.varTypes Tryd.prog) (ds ++ gs)).all (· ≤ reachBytes) = true := hsz0
  have hval : ∀ (j : Nat) t v, Tryd.f3.params[j]? = some t → args[j]? = some v → Value.okWide Tryd.prog W .any base t v := hval0
  have hW' := hW
  obtain ⟨p, q, hA0, hV, rfl, hfz, hnd⟩ := hW
  have hA : DataW.TrodAll enc Tryd.prog W 0 (fun _ => true) true Tryd.f3.params.toList args.toList ds p := hA0
  rw [Tryd.params3] at hA hval hsz
  obtain ⟨v0, vs0, d0, ds0, p0, q0, hargs, rfl, rfl, h0, r0⟩ := trodAll_cons hA
  obtain ⟨rfl, rfl, rfl⟩ := trodAll_nil r0
  obtain rfl : args = #[v0] := by cases args; simp_all
  obtain ⟨rfl, rfl⟩ := trodVars_none hV
  have kk0 := h0
  have lt0 : ∀ x ∈ p0, x.block < W.heap.size := by obtain ⟨m, hm⟩ := kk0; exact DataW.trod_lt m _ _ _ hm
  obtain ⟨A0, c0, a0, rfl, hc0, hr0, hq0⟩ := open_sl Tryd.underlying22 (by kernel_rfl) opens37 (hval 0 22 v0 rfl rfl) h0
  have hst : ShT Tryd.prog W := ⟨hsh, by
    have h_ : laidMetH Tryd.prog Rows.fnExactBlocksOfBuildingsRow.laid W := hLD
    rw [MakeChecks.laidMetH_plain _ _ _ (by kernel_rfl)] at h_
    have e_ : Rows.fnExactBlocksOfBuildingsRow.laid = Rows.fnExactBlocksOfBuildingsRow.laid.take 2 ++ ("internal/strconv.uint64pow10", Lib.tabData .u64 Lib.pow10Tab) :: Rows.fnExactBlocksOfBuildingsRow.laid.drop 3 := by kernel_rfl
    rw [e_] at h_
    exact Lib.tabIs_of_head (g := (Tryd.prog.globalNamed "internal/strconv.uint64pow10").getD 0) (t := ((Tryd.prog.globals[(Tryd.prog.globalNamed "internal/strconv.uint64pow10").getD 0]?).map (·.type)).getD 0) (e := 79) (n := 20) (by kernel_rfl) (by kernel_rfl) (by kernel_rfl) (by kernel_rfl) (by kernel_rfl) (by kernel_rfl) (LaidKit.laidMet_from h_)⟩
  obtain ⟨k, hp⟩ := PureFnExactBlocksOfBuildings.pure a0 hq0
  clear hA0 hval0 hsz0 hsz
  refine (laws_FnExactBlocksOfBuildings.calls k A0 c0 a0 true W hr0 hc0 hst hp).mono fun e W' ⟨he, bel0⟩ => ?_
  have bel : Below W.heap.size W W' := bel0
  subst he
  exact ⟨_, rfl, _, _, _, [], _, [], hW', trodAll_mk1 (shut_bool Tryd.underlying4 _), (trodAll_cons_mk (Below.trod laidOut (by kernel_rfl) (of_decide_eq_true (by kernel_rfl)) kk0 bel lt0) trodAll_mk0), rfl, bel.frame _, fun h => by cases h⟩
theorem over : Rows.fnExactBlocksOfBuildingsRow.holds Tryd.pinned (OpenSpec.ofChange Rows.fnExactBlocksOfBuildingsSpec) :=
  OpenClaim.holds_of_wide 3 Tryd.f3 rfl rfl rfl rfl rfl rfl rfl ⟨rfl, rfl, rfl, rfl, rfl⟩ rfl rfl rfl rfl rfl (by kernel_rfl) Tryd.func3 (by kernel_rfl)
    (of_decide_eq_true (by kernel_rfl)) (by unfold Func.isWrapper; first | (rw [if_pos (by decide +kernel)]; kernel_rfl) | (rw [if_neg (by decide +kernel)]; exact ⟨rfl, rfl⟩))
    (fun os started H enc _ => lifted os started H enc)
end Go.Proofs.YtlhhigkmcidekaaDoor.RowFnExactBlocksOfBuildings
namespace Go.Proofs.YtlhhigkmcidekaaDoor
theorem fnExactBlocksOfBuildings_holds : Rows.FnExactBlocksOfBuildingsSaid := RowFnExactBlocksOfBuildings.over
theorem fnExactBlocksOfBuildings_card_holds : Rows.FnExactBlocksOfBuildingsCardSaid :=
  Claim7.holds_tied_plain_at .later [] [.data, .data, .data] true (true, "abf0cae99431e61895e9625e5045777f2651215726917cf0e7672f28ea7d2d63") false fnExactBlocksOfBuildings_holds (fun _ h => by cases h) (by kernel_rfl) (fun _ h => by cases h) fnExactBlocksOfBuildings_row_tie rfl ⟨rfl, rfl⟩ (by kernel_rfl) rfl
    (fun f fn hf hfn => by
      obtain rfl : f = 3 := Option.some.inj ((show Tryd.prog.funcNamed "loop.example/g01011/laws.FnExactBlocksOfBuildings" = some 3 by kernel_rfl).symm.trans hf) |>.symm
      obtain rfl : fn = Tryd.f3 := (Option.some.inj (Tryd.func3.symm.trans hfn)).symm
      exact ⟨by kernel_rfl, fun j t ht => by
        rw [Tryd.params3] at ht
        have hm : t ∈ [22] := by simpa using Array.mem_of_getElem? ht
        have hall : ([22].all fun u => !Tryd.prog.wantsStandIn u) = true := by kernel_rfl
        exact (show Tryd.prog.wantsStandIn t = false by simpa using List.all_eq_true.1 hall t hm)⟩)
    (by kernel_rfl)
end Go.Proofs.YtlhhigkmcidekaaDoor
end
