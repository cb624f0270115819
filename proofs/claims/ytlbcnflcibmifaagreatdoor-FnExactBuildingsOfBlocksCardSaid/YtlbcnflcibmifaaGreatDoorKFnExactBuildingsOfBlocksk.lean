/- The law FnExactBuildingsOfBlocks: part 10 of its texts, joined (wip/pack.py). -/
import Derived.Test.YtlbcnflcibmifaaGreatDoorKFnExactBuildingsOfBlocksa
import Derived.Test.YtlbcnflcibmifaaGreatDoorKFnExactBuildingsOfBlocksb
import Derived.Test.YtlbcnflcibmifaaGreatDoorKFnExactBuildingsOfBlocksc
import Derived.Test.YtlbcnflcibmifaaGreatDoorKFnExactBuildingsOfBlocksd
import Derived.Test.YtlbcnflcibmifaaGreatDoorKFnExactBuildingsOfBlockse
import Derived.Test.YtlbcnflcibmifaaGreatDoorKFnExactBuildingsOfBlocksf
import Derived.Test.YtlbcnflcibmifaaGreatDoorKFnExactBuildingsOfBlocksg
import Derived.Test.YtlbcnflcibmifaaGreatDoorKFnExactBuildingsOfBlocksh
import Derived.Test.YtlbcnflcibmifaaGreatDoorKFnExactBuildingsOfBlocksi
import Derived.Test.YtlbcnflcibmifaaGreatDoorKFnExactBuildingsOfBlocksj
import Derived.Handed
import Derived.HandedShaped
import Derived.SizedLaws
import Derived.Stop.LaidErr
import Derived.LaidLaws
import Derived.Test.YtlbcnflcibmifaaGreatDoorProg
import Derived.Test.YtlbcnflcibmifaaGreatDoorRows
import Derived.WalkKit
import Derived.ProofKit
import Derived.OpenShut
import Derived.ShutString
import Derived.ChangeOld
import Derived.Below
import Derived.Lib.LaidTab
import Derived.Lib.ItoaNum
import Derived.LaidMore
import Derived.Lay
import Derived.SevenTiedAt
import Derived.Stop.Joined
import Derived.Test.YtlbcnflcibmifaaGreatDoorTie
import Derived.Test.YtlbcnflcibmifaaGreatDoorCards

section
namespace Go.Proofs.YtlbcnflcibmifaaGreatDoor.PRead3
open Go.RowKit Go.Proofs.YtlbcnflcibmifaaGreatDoorW.PrintWords Go.Proofs.YtlbcnflcibmifaaGreatDoor.XT Go.Proofs.YtlbcnflcibmifaaGreatDoor.EvK Go.Proofs.YtlbcnflcibmifaaGreatDoor.PBasics Go.Proofs.YtlbcnflcibmifaaGreatDoor.PSplit Go.Proofs.YtlbcnflcibmifaaGreatDoor.PRead Go.Proofs.YtlbcnflcibmifaaGreatDoor.PRead2
set_option linter.unusedVariables false
set_option linter.unusedSimpArgs false
abbrev B := S41
def rb3 (x y z : ByteArray) : Option B := (readL y.data.toList).bind fun ns => if ns.length = 4 then (readL z.data.toList).bind fun pr => if PBld2.okB ⟨x, rd ns 0, rd ns 1, rd ns 2, rd ns 3, pr⟩ = true then some ⟨x, rd ns 0, rd ns 1, rd ns 2, rd ns 3, pr⟩ else none else none
def rb (t : List ByteArray) : Option B := match t with | [x, y, z] => rb3 x y z | _ => none
def tup : Option B → ByteArray × Int × Int × Int × Int × List Int × Bool
  | none => ((⟨#[]⟩ : ByteArray), 0, 0, 0, 0, ([] : List Int), false)
  | some b => (b.f0, b.f1, b.f2, b.f3, b.f4, b.f5, true)
def parts (s : ByteArray) : List ByteArray := Lib.splitB ⟨#[32]⟩ 0 (Lib.countB s ⟨#[32]⟩) s
theorem parts_sp (s : ByteArray) : (parts s).map (·.data.toList) = sp 32 [] s.data.toList := splitB_sp 32 _ s rfl
theorem len3 {t : List ByteArray} (h : t.length = 3) : ∃ x y z, t = [x, y, z] := by
  match t, h with
  | [x, y, z], _ => exact ⟨x, y, z, rfl⟩
theorem rb_not {t : List ByteArray} (h : ¬ t.length = 3) : rb t = none := by
  unfold rb
  split
  · exact absurd rfl h
  · rfl
theorem four_cases (l : List Int) (h : l.length = 4) : l = [rd l 0, rd l 1, rd l 2, rd l 3] := by
  match l, h with
  | [a, b, c, d], _ => rfl
theorem text_s (s x y z : ByteArray) (h : parts s = [x, y, z]) : s.data.toList = x.data.toList ++ 32 :: (y.data.toList ++ 32 :: z.data.toList) := by
  have h1 := parts_sp s
  rw [h] at h1
  have h2 := join_sp 32 s.data.toList []
  rw [← h1, List.nil_append] at h2
  rw [← h2]
  simp only [List.map_cons, List.map_nil, join_cons2, Lib.join_one]
  simp
theorem notText_ev (b : B) (hs : b.f0.size ≤ 1048576) (h : PBld2.okB b = false) : Ev (fun k => impl_BuildingText.f k b.f0 b.f1 b.f2 b.f3 b.f4 b.f5) (⟨#[]⟩ : ByteArray) := by
  unfold impl_BuildingText.f
  refine Ev.bind (PBld2.implOne_ev b hs) ?_
  simp only [h, Bool.false_eq_true, if_false]
  exact Ev.now _
theorem bt_data (b : B) : (PBld2.bt b).data.toList = b.f0.data.toList ++ 32 :: ((PBld.tx [b.f1, b.f2, b.f3, b.f4]).data.toList ++ 32 :: (PBld.tx b.f5).data.toList) := by
  unfold PBld2.bt
  simp [ByteArray.data_append]
theorem implB_ev (s : ByteArray) (hs : s.size ≤ 1048576) : Ev (fun k => impl_ReadBuilding.f k s) (tup (rb (parts s))) := by
  unfold impl_ReadBuilding.f strings_Split.f
  have h32 : (⟨#[32]⟩ : ByteArray).size = 1 := rfl
  simp only [if_pos (show s.size < 4294967281 ∧ 1 ≤ (⟨#[32]⟩ : ByteArray).size by rw [h32]; omega), Option.bind_some]
  show Ev (fun k => _) _
  have hp := parts_sp s
  have hsm := parts_small hs hp
  rw [show Lib.splitB ⟨#[32]⟩ 0 (Lib.countB s ⟨#[32]⟩) s = parts s from rfl]
  by_cases h3 : (parts s).length = 3
  · obtain ⟨x, y, z, e⟩ := len3 h3
    have hts := text_s s x y z e
    rw [e] at hsm ⊢
    have hx := hsm x (by simp)
    have hy := hsm y (by simp)
    have hz := hsm z (by simp)
    have e0 : rdOf ByteArray.empty [x, y, z] 0 = x := rfl
    have e1 : rdOf ByteArray.empty [x, y, z] 1 = y := rfl
    have e2 : rdOf ByteArray.empty [x, y, z] 2 = z := rfl
    have el : (([x, y, z] : List ByteArray).length : Int) = 3 := rfl
    simp only [el, if_true, e0, e1, e2, if_pos (show (0 : Int) < 3 by omega), if_pos (show (1 : Int) < 3 by omega), if_pos (show (2 : Int) < 3 by omega)]
    refine Ev.bind (numbers_ev y hy) (Ev.bind (implRead_ev z hz) ?_)
    show Ev _ (tup (rb3 x y z))
    unfold rb3
    have zz : (([0, 0, 0, 0] : List Int).length : Int) = 4 := rfl
    have pos4 : ∀ {α : Type} (ns : List Int) (u v : α), (ns.length : Int) = 4 → (if 0 < (ns.length : Int) then (if 1 < (ns.length : Int) then (if 2 < (ns.length : Int) then (if 3 < (ns.length : Int) then u else v) else v) else v) else v) = u := by
      intro α ns u v h
      rw [h]
      rfl
    cases h1 : readL y.data.toList with
    | none =>
      simp only [four, Option.bind_none, pos4 [0, 0, 0, 0] _ _ zz, Bool.false_eq_true, if_false]
      exact Ev.now _
    | some ns =>
      simp only [four, Option.bind_some]
      by_cases h4 : ns.length = 4
      · simp only [if_pos h4, pos4 ns _ _ (show (ns.length : Int) = 4 by omega), if_true]
        cases h2 : readL z.data.toList with
        | none =>
          simp only [rlr, Option.bind_none, Bool.false_eq_true, if_false]
          exact Ev.now _
        | some pr =>
          simp only [rlr, Option.bind_some, if_true]
          obtain ⟨b, hb⟩ : ∃ b : B, b = ⟨x, rd ns 0, rd ns 1, rd ns 2, rd ns 3, pr⟩ := ⟨_, rfl⟩
          cases hok : PBld2.okB b with
          | true =>
            have ht := PBld2.implText_ev b (by rw [hb]; exact hx) hok
            have hd := bt_data b
            rw [hb] at ht hd hok
            simp only at ht hd
            rw [if_pos hok]
            refine Ev.bind ht ?_
            rw [← four_cases ns h4, (readL_text y ns h1).1, (readL_text z pr h2).1] at hd
            simp only [toList_eq, if_pos (show (PBld2.bt (⟨x, rd ns 0, rd ns 1, rd ns 2, rd ns 3, pr⟩ : B)).data.toList = s.data.toList from hd.trans hts.symm)]
            exact Ev.now _
          | false =>
            have ht := notText_ev b (by rw [hb]; exact hx) hok
            rw [hb] at ht hok
            rw [if_neg (by rw [hok]; decide)]
            refine Ev.bind ht ?_
            simp only [toList_eq]
            rw [if_neg (show ¬ (⟨#[]⟩ : ByteArray).data.toList = s.data.toList from fun h => by
              have h' : s.data.toList = [] := h.symm
              rw [h'] at hts
              simp at hts)]
            exact Ev.now _
      · simp only [if_neg h4, pos4 [0, 0, 0, 0] _ _ zz, Bool.false_eq_true, if_false]
        exact Ev.now _
  · rw [rb_not h3]
    simp only [if_neg (show ¬ ((parts s).length : Int) = 3 by omega)]
    exact Ev.now _
theorem specB_ev (s : ByteArray) (hs : s.size ≤ 1048576) : Ev (fun k => spec_ReadBuilding.f k s) (tup (rb (parts s))) := by
  unfold spec_ReadBuilding.f
  obtain ⟨t, h2, h3⟩ := split_ev s 32 hs
  have e32 : ((32 : UInt8).toNat : Int) = 32 := rfl
  rw [e32] at h2
  have hp := parts_sp s
  have hsm := parts_small hs hp
  obtain rfl : t = parts s := lists_eq (h3.trans hp.symm)
  refine Ev.bind h2 ?_
  by_cases h3 : (parts s).length = 3
  · obtain ⟨x, y, z, e⟩ := len3 h3
    rw [e] at hsm ⊢
    have hx := hsm x (by simp)
    have hy := hsm y (by simp)
    have hz := hsm z (by simp)
    have e0 : rdOf ByteArray.empty [x, y, z] 0 = x := rfl
    have e1 : rdOf ByteArray.empty [x, y, z] 1 = y := rfl
    have e2 : rdOf ByteArray.empty [x, y, z] 2 = z := rfl
    have el : (([x, y, z] : List ByteArray).length : Int) = 3 := rfl
    simp only [el, if_true, e0, e1, e2, if_pos (show (0 : Int) < 3 by omega), if_pos (show (1 : Int) < 3 by omega), if_pos (show (2 : Int) < 3 by omega)]
    refine Ev.bind (specRead_ev y hy) (Ev.bind (specRead_ev z hz) ?_)
    show Ev _ (tup (rb3 x y z))
    unfold rb3
    have no : ∀ ns pr : List Int, Ev (fun k => spec_ReadBuilding.j0 k [x, y, z] ns pr true) (tup none) := fun ns pr => Ev.step (fun k => spec_ReadBuilding.j0.eq_2 _ _ _ _ k) (by simp only [if_true]; exact Ev.now _)
    have pos4 : ∀ {α : Type} (ns : List Int) (u v : α), (ns.length : Int) = 4 → (if 0 < (ns.length : Int) then (if 1 < (ns.length : Int) then (if 2 < (ns.length : Int) then (if 3 < (ns.length : Int) then u else v) else v) else v) else v) = u := by
      intro α ns u v h
      rw [h]
      rfl
    cases h1 : readL y.data.toList with
    | none =>
      simp only [rlr, Bool.false_eq_true, if_false]
      exact no _ _
    | some ns =>
      simp only [rlr, Option.bind_some, if_true]
      cases h2 : readL z.data.toList with
      | none =>
        simp only [rlr, Bool.false_eq_true, if_false, Option.bind_none]
        rw [show (if ns.length = 4 then (none : Option B) else none) = none by split <;> rfl]
        exact no _ _
      | some pr =>
        simp only [rlr, Option.bind_some, if_true]
        by_cases h4 : ns.length = 4
        · rw [if_pos h4, show ((ns.length : Int) != 4) = false by rw [h4]; rfl]
          refine Ev.step (fun k => spec_ReadBuilding.j0.eq_2 _ _ _ _ k) ?_
          simp only [el, e0, Bool.false_eq_true, if_false, if_pos (show (0 : Int) < 3 by omega), pos4 ns _ _ (show (ns.length : Int) = 4 by omega)]
          obtain ⟨b, hb⟩ : ∃ b : B, b = ⟨x, rd ns 0, rd ns 1, rd ns 2, rd ns 3, pr⟩ := ⟨_, rfl⟩
          have hpl : pr.length ≤ 64 := (readL_text z pr h2).2.1
          have ho := PBld2.specOne_ev b (by rw [hb]; exact hx) (by rw [hb]; show pr.length ≤ _; omega)
          rw [hb] at ho
          refine Ev.bind ho ?_
          cases hok : PBld2.okB ⟨x, rd ns 0, rd ns 1, rd ns 2, rd ns 3, pr⟩ with
          | true => simp only [if_true]; exact Ev.now _
          | false => simp only [Bool.false_eq_true, if_false]; exact Ev.now _
        · rw [if_neg h4, show ((ns.length : Int) != 4) = true by simp; omega]
          exact no _ _
  · rw [rb_not h3]
    simp only [if_neg (show ¬ ((parts s).length : Int) = 3 by omega)]
    exact Ev.now _
abbrev K := S38
def kind : List UInt8 := [98, 117, 105, 108, 100, 105, 110, 103]
def goB : List B → List K → List B × Int
  | acc, [] => if (acc.length : Int) > 12 then ([], 5) else (acc, 0)
  | acc, b :: r => if b.f0.data.toList = kind then (match rb (parts b.f2) with | none => ([], 9) | some x => if x.f0.data.toList = b.f1.data.toList then goB (acc ++ [x]) r else ([], 6)) else goB acc r
def ans (l : List K) : List B × Int := if PBlockL.listOk l = true then goB [] l else ([], 1)
theorem rdK (l : List K) (i : Nat) (h : i < l.length) : rd_T38 l (i : Int) = l[i] := getD_at l z38 i h
theorem implGo (l : List K) (hs : PBlockL.Small l) : ∀ (rest : List K) (i : Nat) (acc : List B), i ≤ l.length → l.drop i = rest → acc.length ≤ i → Ev (fun k => impl_BuildingsOfBlocks.l0 k acc l (l.length : Int) (i : Int)) (goB acc rest) := by
  intro rest
  induction rest with
  | nil =>
    intro i acc hi hd hn
    have := drop_nil hi hd
    refine Ev.step (fun k => impl_BuildingsOfBlocks.l0.eq_2 _ _ _ _ k) ?_
    simp only [if_neg (show ¬ (i : Int) < (l.length : Int) by omega), goB]
    split
    · exact Ev.now _
    · exact Ev.now _
  | cons y rest ih =>
    intro i acc hi hd hn
    obtain ⟨hil, hy, hr⟩ := drop_at hd
    have hz := (hs.2 y (by rw [← hy]; exact List.getElem_mem hil)).2.2
    have hll := hs.1
    refine Ev.step (fun k => impl_BuildingsOfBlocks.l0.eq_2 _ _ _ _ k) ?_
    simp only [if_pos (show (i : Int) < (l.length : Int) by omega), if_pos (show (0 : Int) ≤ (i : Int) by omega), rdK l i hil, hy, toList_eq, w64 (show -9223372036854775808 ≤ (i : Int) + 1 by omega) (by omega)]
    unfold goB
    by_cases hk : y.f0.data.toList = kind
    · rw [if_pos hk]
      simp only [kind] at hk
      simp only [if_pos hk]
      refine Ev.bind (implB_ev y.f2 hz) ?_
      cases rb (parts y.f2) with
      | none => simp only [tup, Bool.false_eq_true, if_false]; exact Ev.now _
      | some x =>
        simp only [tup, if_true]
        by_cases hn : x.f0.data.toList = y.f1.data.toList
        · simp only [if_pos hn, if_pos (show acc.length < 1954687338268 by omega)]
          exact ih (i + 1) (acc ++ [x]) (by omega) hr (by rw [List.length_append, List.length_singleton]; omega)
        · simp only [hn, if_false]
          exact Ev.now _
    · rw [if_neg hk]
      simp only [kind] at hk
      simp only [if_neg hk]
      exact ih (i + 1) acc (by omega) hr (by omega)
theorem specGo (l : List K) (hs : PBlockL.Small l) : ∀ (rest : List K) (i : Nat) (acc : List B), i ≤ l.length → l.drop i = rest → acc.length ≤ i → Ev (fun k => spec_BuildingsOfBlocks.l0 k l acc (i : Int)) (goB acc rest) := by
  intro rest
  induction rest with
  | nil =>
    intro i acc hi hd hn
    have := drop_nil hi hd
    refine Ev.step (fun k => spec_BuildingsOfBlocks.l0.eq_2 _ _ _ k) ?_
    simp only [if_neg (show ¬ (i : Int) < (l.length : Int) by omega), goB]
    split
    · exact Ev.now _
    · exact Ev.now _
  | cons y rest ih =>
    intro i acc hi hd hn
    obtain ⟨hil, hy, hr⟩ := drop_at hd
    have hz := (hs.2 y (by rw [← hy]; exact List.getElem_mem hil)).2.2
    have hll := hs.1
    refine Ev.step (fun k => spec_BuildingsOfBlocks.l0.eq_2 _ _ _ k) ?_
    simp only [if_pos (show (i : Int) < (l.length : Int) by omega), if_pos (show (0 : Int) ≤ (i : Int) by omega), rdK l i hil, hy, toList_eq, w64 (show -9223372036854775808 ≤ (i : Int) + 1 by omega) (by omega)]
    unfold goB
    by_cases hk : y.f0.data.toList = kind
    · rw [if_pos hk]
      simp only [kind] at hk
      simp only [if_pos hk]
      refine Ev.bind (specB_ev y.f2 hz) ?_
      cases rb (parts y.f2) with
      | none => simp only [tup, Bool.false_eq_true, if_false]; exact Ev.now _
      | some x =>
        simp only [tup, if_true]
        by_cases hn : x.f0.data.toList = y.f1.data.toList
        · simp only [if_pos hn, if_pos (show acc.length < 1954687338268 by omega)]
          exact ih (i + 1) (acc ++ [x]) (by omega) hr (by rw [List.length_append, List.length_singleton]; omega)
        · simp only [hn, if_false]
          exact Ev.now _
    · rw [if_neg hk]
      simp only [kind] at hk
      simp only [if_neg hk]
      exact ih (i + 1) acc (by omega) hr (by omega)
theorem impl_ev (l : List K) (hs : PBlockL.Small l) : Ev (fun k => impl_BuildingsOfBlocks.f k l) (ans l) := by
  unfold impl_BuildingsOfBlocks.f ans
  refine Ev.bind (PBlockL.implOk_ev l hs) ?_
  cases PBlockL.listOk l with
  | false => simp only [Bool.false_eq_true, if_false]; exact Ev.now _
  | true => simp only [if_true]; exact implGo l hs l 0 [] (by omega) rfl (by simp)
theorem spec_ev (l : List K) (hs : PBlockL.Small l) : Ev (fun k => spec_BuildingsOfBlocks.f k l) (ans l) := by
  unfold spec_BuildingsOfBlocks.f ans
  refine Ev.bind (PBlockL.specOk_ev l hs) ?_
  cases PBlockL.listOk l with
  | false => simp only [Bool.false_eq_true, if_false]; exact Ev.now _
  | true => simp only [if_true]; exact specGo l hs l 0 [] (by omega) rfl (by simp)
def Few (l : List B) : Prop := l.length ≤ 1048576 ∧ ∀ x ∈ l, x.f5.length ≤ 64
theorem rb_few (t : List ByteArray) (x : B) (h : rb t = some x) : x.f5.length ≤ 64 := by
  unfold rb at h
  split at h
  · rename_i x0 y z
    unfold rb3 at h
    obtain ⟨ns, h1, h⟩ := Option.bind_eq_some_iff.mp h
    split at h
    · obtain ⟨pr, h2, h⟩ := Option.bind_eq_some_iff.mp h
      split at h
      · obtain rfl := Option.some.inj h
        exact (readL_text z pr h2).2.1
      · cases h
    · cases h
  · cases h
theorem goB_few : ∀ (r : List K) (acc : List B), (∀ x ∈ acc, x.f5.length ≤ 64) → acc.length + r.length ≤ 1048576 → Few (goB acc r).1
  | [], acc, h, hn => by
    unfold goB
    split
    · exact ⟨by simp, by simp⟩
    · exact ⟨by simpa using hn, h⟩
  | b :: r, acc, h, hn => by
    rw [List.length_cons] at hn
    unfold goB
    split
    · split
      · exact ⟨by simp, by simp⟩
      · rename_i x hx
        split
        · refine goB_few r _ ?_ (by rw [List.length_append, List.length_singleton]; omega)
          intro y hy
          rcases List.mem_append.1 hy with hy | hy
          · exact h y hy
          · rw [List.mem_singleton.1 hy]; exact rb_few _ _ hx
        · exact ⟨by simp, by simp⟩
    · exact goB_few r acc h (by omega)
theorem ans_few (l : List K) (hs : PBlockL.Small l) : Few (ans l).1 := by
  unfold ans
  split
  · exact goB_few l [] (by simp) (by simpa using hs.1)
  · exact ⟨by simp, by simp⟩
end Go.Proofs.YtlbcnflcibmifaaGreatDoor.PRead3
end

section
namespace Go.Proofs.YtlbcnflcibmifaaGreatDoor.ST
open Go.RowKit Go.Proofs.YtlbcnflcibmifaaGreatDoorW.PrintWords Go.Proofs.YtlbcnflcibmifaaGreatDoor.XT Go.Proofs.YtlbcnflcibmifaaGreatDoor.EvK
set_option linter.unusedVariables false
set_option linter.unusedSimpArgs false
theorem szBlock_val (x : S36) (left : Int) (h0 : 0 ≤ left) (h1 : left ≤ 1048576) (hq : Q36 x) : ∃ t, laws_szBlock.f x.f0 x.f1 x.f2 left = some t ∧ t ≤ left ∧ (0 ≤ t → (x.f0.size ≤ 1048576) ∧ (x.f1.size ≤ 1048576) ∧ (x.f2.size ≤ 1048576)) := by
  unfold Q36 maxLen at hq
  unfold laws_szBlock.f
  repeat' split
  all_goals refine ⟨_, rfl, ?_, ?_⟩
  all_goals (simp only [wrap64] at *; omega)
end Go.Proofs.YtlbcnflcibmifaaGreatDoor.ST
end

section
namespace Go.Proofs.YtlbcnflcibmifaaGreatDoor.ST
open Go.RowKit Go.Proofs.YtlbcnflcibmifaaGreatDoorW.PrintWords Go.Proofs.YtlbcnflcibmifaaGreatDoor.XT Go.Proofs.YtlbcnflcibmifaaGreatDoor.EvK
set_option linter.unusedVariables false
set_option linter.unusedSimpArgs false
theorem szBlockS_ev (l : List (S36)) (left : Int) (h0 : 0 ≤ left) (h1 : left ≤ 1048576) (hq : (l.length ≤ maxLen ∧ ∀ y1 ∈ l, Q36 y1)) : EvP (fun k => laws_szBlockS.f k l left) (fun t => t ≤ left ∧ (0 ≤ t → l.length ≤ 1048576 ∧ ∀ x ∈ l, (x.f0.size ≤ 1048576) ∧ (x.f1.size ≤ 1048576) ∧ (x.f2.size ≤ 1048576))) := by
  obtain ⟨hl, hq⟩ := hq
  unfold maxLen at hl
  unfold laws_szBlockS.f
  rw [w64 (by omega) (by omega)]
  by_cases hc : left - (l.length : Int) < 0
  · simp only [if_pos hc]
    exact EvP.now ⟨by omega, by omega⟩
  simp only [if_neg hc]
  refine for_evp (L := fun k (s : Int) i => laws_szBlockS.l0 k l s i) l.length (fun i s => 0 ≤ s ∧ s ≤ left - (l.length : Int) ∧ ∀ x ∈ l.take i, (x.f0.size ≤ 1048576) ∧ (x.f1.size ≤ 1048576) ∧ (x.f2.size ≤ 1048576)) ?_ ?_ _ ⟨by omega, by omega, by simp⟩
  · rintro i s hi ⟨hs0, hs1, hs⟩ K
    have e : rd_T36 l (i : Int) = l[i] := getD_at l z36 i hi
    refine EvP.step (fun k => laws_szBlockS.l0.eq_2 _ _ _ k) ?_
    obtain ⟨t, ht, ht1, ht2⟩ := szBlock_val l[i] s hs0 (by omega) (hq _ (List.getElem_mem hi))
    simp only [if_pos (show (i : Int) < (l.length : Int) by omega), if_pos (show (0 : Int) ≤ (i : Int) by omega), e, ht, Option.bind_some, w64 (show -9223372036854775808 ≤ (i : Int) + 1 by omega) (by omega)]
    by_cases hn : t < 0
    · simp only [if_pos hn]
      exact EvP.now ⟨by omega, by omega⟩
    · simp only [if_neg hn]
      exact K _ ⟨by omega, by omega, take_all hi hs (ht2 (by omega))⟩
  · rintro s ⟨hs0, hs1, hs⟩
    refine EvP.step (fun k => laws_szBlockS.l0.eq_2 _ _ _ k) ?_
    simp only [if_neg (show ¬ (l.length : Int) < (l.length : Int) by omega)]
    exact EvP.now ⟨by omega, fun _ => ⟨by omega, by simpa using hs⟩⟩
end Go.Proofs.YtlbcnflcibmifaaGreatDoor.ST
end

section
namespace Go.Proofs.YtlbcnflcibmifaaGreatDoor.ST
open Go.RowKit Go.Proofs.YtlbcnflcibmifaaGreatDoorW.PrintWords Go.Proofs.YtlbcnflcibmifaaGreatDoor.XT Go.Proofs.YtlbcnflcibmifaaGreatDoor.EvK
set_option linter.unusedVariables false
set_option linter.unusedSimpArgs false
def toBlockS_el (x : S36) : S38 := (⟨x.f0, x.f1, x.f2⟩ : S38)
theorem toBlockS_ev (l : List (S36)) (hl : l.length ≤ 1048576) : Ev (fun k => laws_toBlockS.f k l) (l.map toBlockS_el) := by
  apply EvP.eq
  unfold laws_toBlockS.f
  simp only [if_pos (show (0 : Int) ≤ (l.length : Int) by omega), Int.toNat_natCast, if_pos (show l.length ≤ 5864062014805 by omega)]
  refine for_evp (L := fun k (s : List (S38)) i => laws_toBlockS.l0 k l s i) l.length (fun i s => s = (l.take i).map toBlockS_el ++ List.replicate (l.length - i) z38) ?_ ?_ (List.replicate l.length z38) (by simp)
  · rintro i s hi rfl K
    have e : rd_T36 l (i : Int) = l[i] := getD_at l z36 i hi
    have hlen := done_len toBlockS_el l z38 i (by omega)
    refine EvP.step (fun k => laws_toBlockS.l0.eq_2 _ _ _ k) ?_
    simp only [if_pos (show (i : Int) < (l.length : Int) by omega), if_pos (show (0 : Int) ≤ (i : Int) by omega), e, laws_toBlock.f, Option.bind_some, hlen, w64 (show -9223372036854775808 ≤ (i : Int) + 1 by omega) (by omega), Int.toNat_natCast]
    refine K _ ?_
    show List.set _ i (toBlockS_el l[i]) = _
    exact map_done toBlockS_el l _ i hi
  · rintro s rfl
    refine EvP.step (fun k => laws_toBlockS.l0.eq_2 _ _ _ k) ?_
    simp only [if_neg (show ¬ (l.length : Int) < (l.length : Int) by omega)]
    exact EvP.now (by simp)
end Go.Proofs.YtlbcnflcibmifaaGreatDoor.ST
end

section
namespace Go.Proofs.YtlbcnflcibmifaaGreatDoor.ST
open Go.RowKit Go.Proofs.YtlbcnflcibmifaaGreatDoorW.PrintWords Go.Proofs.YtlbcnflcibmifaaGreatDoor.XT Go.Proofs.YtlbcnflcibmifaaGreatDoor.EvK
set_option linter.unusedVariables false
set_option linter.unusedSimpArgs false
theorem eqBlockS_ev (l : List (S38)) (hl : l.length ≤ 1048576) : Ev (fun k => laws_eqBlockS.f k l l) true := by
  apply EvP.eq
  unfold laws_eqBlockS.f
  simp only [if_true]
  refine for_evp (L := fun k (s : Unit) i => laws_eqBlockS.l0 k l l i) l.length (fun i s => True) ?_ ?_ () trivial
  · rintro i s hi - K
    refine EvP.step (fun k => laws_eqBlockS.l0.eq_2 _ _ _ k) ?_
    simp only [if_pos (show (i : Int) < (l.length : Int) by omega), if_pos (show (0 : Int) ≤ (i : Int) by omega), laws_eqBlock.f, Option.bind_some, if_true, w64 (show -9223372036854775808 ≤ (i : Int) + 1 by omega) (by omega)]
    exact K () trivial
  · rintro s -
    refine EvP.step (fun k => laws_eqBlockS.l0.eq_2 _ _ _ k) ?_
    simp only [if_neg (show ¬ (l.length : Int) < (l.length : Int) by omega)]
    exact EvP.now rfl
end Go.Proofs.YtlbcnflcibmifaaGreatDoor.ST
end

section
namespace Go.Proofs.YtlbcnflcibmifaaGreatDoor.ST
open Go.RowKit Go.Proofs.YtlbcnflcibmifaaGreatDoorW.PrintWords Go.Proofs.YtlbcnflcibmifaaGreatDoor.XT Go.Proofs.YtlbcnflcibmifaaGreatDoor.EvK
set_option linter.unusedVariables false
set_option linter.unusedSimpArgs false
theorem markBlockS_ev (l : List (S38)) (c : Int) (h0 : 0 ≤ c) (h1 : c + 3 * (l.length : Int) ≤ 4611686018427387904) :
    ∃ y : List (S38), Ev (fun k => laws_markBlockS.f k l c) (c + 3 * (l.length : Int), y) ∧ y.length = l.length := by
  obtain ⟨T, hT⟩ : ∃ T : Int → ByteArray, ∀ x : Int, 0 ≤ x → x ≤ 4611686018427387904 → Ev (fun k => laws_markText.f k x) (T x) := ⟨fun x => if h : 0 ≤ x ∧ x ≤ 4611686018427387904 then Classical.choose (markText_ev x h.1 h.2) else ByteArray.empty, fun x h h' => by simp only [h, h', and_self, dif_pos]; exact Classical.choose_spec (markText_ev x h h')⟩
  let E : Nat → S38 := fun j => ⟨T (c + 3 * (j : Int)), T (c + 3 * (j : Int) + 1), T (c + 3 * (j : Int) + 1 + 1)⟩
  have hset : ∀ (i : Nat) (h : i < l.length), ((List.range i).map E ++ l.drop i).set i (E i) = (List.range (i + 1)).map E ++ l.drop (i + 1) := fun i h => set_done E l i h
  have hlen : ∀ (i : Nat), i ≤ l.length → ((List.range i).map E ++ l.drop i).length = l.length := by intro i h; simp; omega
  refine ⟨(List.range l.length).map E, EvP.eq ?_, by simp⟩
  · unfold laws_markBlockS.f
    refine for_evp (L := fun k (s : List (S38) × Int) i => laws_markBlockS.l0 k s.1 s.2 i) l.length (fun i s => s = ((List.range i).map E ++ l.drop i, c + 3 * (i : Int))) ?_ ?_ (l, c) (by simp)
    · rintro i s hi rfl K
      refine EvP.step (fun k => laws_markBlockS.l0.eq_2 _ _ _ k) ?_
      simp only [hlen i (by omega), if_pos (show (i : Int) < (l.length : Int) by omega), if_pos (show (0 : Int) ≤ (i : Int) by omega), Option.bind_some, w64 (show -9223372036854775808 ≤ (i : Int) + 1 by omega) (by omega), w64 (show -9223372036854775808 ≤ c + 3 * (i : Int) + 1 by omega) (by omega), w64 (show -9223372036854775808 ≤ c + 3 * (i : Int) + 1 + 1 by omega) (by omega), w64 (show -9223372036854775808 ≤ c + 3 * (i : Int) + 1 + 1 + 1 by omega) (by omega), Int.toNat_natCast]
      refine EvP.bind (hT (c + 3 * (i : Int)) (by omega) (by omega)) ?_
      refine EvP.bind (hT (c + 3 * (i : Int) + 1) (by omega) (by omega)) ?_
      refine EvP.bind (hT (c + 3 * (i : Int) + 1 + 1) (by omega) (by omega)) ?_
      refine K (_, _) ?_
      rw [← hset i hi, Prod.mk.injEq]
      refine ⟨?_, by push_cast; omega⟩
      have g1 := hlen i (by omega)
      generalize (List.range i).map E ++ l.drop i = L at g1
      have g2 : i < L.length := by omega
      first | rfl | (simp [rd_T38, E, getD_set_self, g2])
    · rintro s rfl
      refine EvP.step (fun k => laws_markBlockS.l0.eq_2 _ _ _ k) ?_
      simp only [hlen l.length (Nat.le_refl _), if_neg (show ¬ (l.length : Int) < (l.length : Int) by omega)]
      exact EvP.now (by simp)
end Go.Proofs.YtlbcnflcibmifaaGreatDoor.ST
end

section
namespace Go.Proofs.YtlbcnflcibmifaaGreatDoor.PureFnExactBuildingsOfBlocks
open Go.RowKit Go.Proofs.YtlbcnflcibmifaaGreatDoorW.PrintWords Go.Proofs.YtlbcnflcibmifaaGreatDoorW.PrintMore Go.Proofs.YtlbcnflcibmifaaGreatDoor.XT Go.Proofs.YtlbcnflcibmifaaGreatDoor.EvK Go.Proofs.YtlbcnflcibmifaaGreatDoor.ST Go.Proofs.YtlbcnflcibmifaaGreatDoor.PRead2 Go.Proofs.YtlbcnflcibmifaaGreatDoor.PRead3
set_option linter.unusedVariables false
set_option linter.unusedSimpArgs false
theorem rdB (l : List B) (i : Nat) (h : i < l.length) : rd_T41 l (i : Int) = l[i] := getD_at l z41 i h
theorem eq_ev (l : List B) (hs : Few l) : Ev (fun k => laws_eqBuildingS.f k l l) true := by
  obtain ⟨h1, h2⟩ := hs
  unfold laws_eqBuildingS.f
  simp only [if_true]
  have := all_ev (L := fun k i => laws_eqBuildingS.l0 k l l i) l (fun _ => true) true ?_ ?_ ?_
  · rwa [show (l.all (fun _ => true) && true) = true by simp] at this
  · intro i hi _ P K
    refine EvP.step (fun k => laws_eqBuildingS.l0.eq_2 _ _ _ k) ?_
    simp only [if_pos (show (i : Int) < (l.length : Int) by omega), if_pos (show (0 : Int) ≤ (i : Int) by omega), rdB l i hi]
    have he : Ev (fun k => laws_eqBuilding.f k l[i].f0 l[i].f1 l[i].f2 l[i].f3 l[i].f4 l[i].f5 l[i].f0 l[i].f1 l[i].f2 l[i].f3 l[i].f4 l[i].f5) true := by
      unfold laws_eqBuilding.f
      simp only [if_true]
      have := h2 _ (List.getElem_mem hi)
      refine Ev.bind (eqInt64S_ev _ (by omega)) ?_
      simp only [if_true]
      exact Ev.now _
    refine EvP.bind he ?_
    simp only [if_true, w64 (show -9223372036854775808 ≤ (i : Int) + 1 by omega) (by omega)]
    exact K
  · intro i hi h
    exact absurd h (by simp)
  · refine Ev.step (fun k => laws_eqBuildingS.l0.eq_2 _ _ _ k) ?_
    simp only [if_neg (show ¬ (l.length : Int) < (l.length : Int) by omega)]
    exact Ev.now _
def Chain : List B → Int → Int → Prop
  | [], a, b => a = b
  | e :: r, a, b => Ev (fun k => laws_markText.f k a) e.f0 ∧ e.f1 = a + 1 ∧ e.f2 = a + 1 + 1 ∧ e.f3 = a + 1 + 1 + 1 ∧ e.f4 = a + 1 + 1 + 1 + 1 ∧ 0 ≤ a ∧ a ≤ 4611686018427387904 ∧
      ∃ a', Ev (fun k => laws_heldInt64S.f k e.f5 (a + 1 + 1 + 1 + 1 + 1)) a' ∧ 0 ≤ a' ∧ Chain r a' b
theorem mark_from : ∀ (rest pre : List B) (a : Int), 0 ≤ a → (∀ x ∈ rest, x.f5.length ≤ 64) → (pre.length : Int) + (rest.length : Int) ≤ 1048576 → a + (rest.length : Int) * 69 ≤ 4611686018427387904 →
    ∃ (b : Int) (y : List B), Ev (fun k => laws_markBuildingS.l0 k (pre ++ rest) a (pre.length : Int)) (b, pre ++ y) ∧ Chain y a b ∧ y.length = rest.length ∧ 0 ≤ b := by
  intro rest
  induction rest with
  | nil =>
    intro pre a ha _ hn hb
    refine ⟨a, [], ?_, rfl, rfl, ha⟩
    refine Ev.step (fun k => laws_markBuildingS.l0.eq_2 _ _ _ k) ?_
    rw [List.append_nil]
    simp only [if_neg (show ¬ (pre.length : Int) < (pre.length : Int) by omega)]
    exact Ev.now _
  | cons x rest ih =>
    intro pre a ha hx hn hb
    rw [List.length_cons] at hn hb
    have h3 := hx x (by simp)
    obtain ⟨t, ht⟩ := markText_ev a ha (by omega)
    obtain ⟨y, hy, hheld, hy2⟩ := markInt64S_ev x.f5 (a + 1 + 1 + 1 + 1 + 1) (by omega) (by omega)
    have hel : Ev (fun k => laws_markBuildingS.el k x a) (a + 1 + 1 + 1 + 1 + 1 + (x.f5.length : Int), ⟨t, a + 1, a + 1 + 1, a + 1 + 1 + 1, a + 1 + 1 + 1 + 1, y⟩) := by
      unfold laws_markBuildingS.el
      rw [w64 (show -9223372036854775808 ≤ a + 1 by omega) (by omega), w64 (show -9223372036854775808 ≤ a + 1 + 1 by omega) (by omega), w64 (show -9223372036854775808 ≤ a + 1 + 1 + 1 by omega) (by omega), w64 (show -9223372036854775808 ≤ a + 1 + 1 + 1 + 1 by omega) (by omega), w64 (show -9223372036854775808 ≤ a + 1 + 1 + 1 + 1 + 1 by omega) (by omega)]
      exact Ev.bind ht (Ev.bind hy (Ev.now _))
    obtain ⟨b, z, hz, hc, hzl, hb0⟩ := ih (pre ++ [⟨t, a + 1, a + 1 + 1, a + 1 + 1 + 1, a + 1 + 1 + 1 + 1, y⟩]) (a + 1 + 1 + 1 + 1 + 1 + (x.f5.length : Int)) (by omega) (fun q hq => hx q (by simp [hq])) (by rw [List.length_append, List.length_singleton]; omega) (by omega)
    refine ⟨b, ⟨t, a + 1, a + 1 + 1, a + 1 + 1 + 1, a + 1 + 1 + 1 + 1, y⟩ :: z, ?_, ⟨ht, rfl, rfl, rfl, rfl, ha, by omega, _, hheld, by omega, hc⟩, by simp [hzl], hb0⟩
    refine Ev.step (fun k => laws_markBuildingS.l0.eq_2 _ _ _ k) ?_
    have hget : (pre ++ x :: rest).getD pre.length z41 = x := by simp [List.getD_eq_getElem?_getD]
    have hset : ∀ v : B, (pre ++ x :: rest).set pre.length v = (pre ++ [v]) ++ rest := by intro v; simp
    simp only [if_pos (show (pre.length : Int) < ((pre ++ x :: rest).length : Int) by simp; omega), if_pos (show (0 : Int) ≤ (pre.length : Int) by omega), Int.toNat_natCast, hget]
    refine Ev.bind hel ?_
    simp only [hset, w64 (show -9223372036854775808 ≤ (pre.length : Int) + 1 by omega) (by omega)]
    rw [List.length_append, List.length_singleton] at hz
    have e : pre ++ (⟨t, a + 1, a + 1 + 1, a + 1 + 1 + 1, a + 1 + 1 + 1 + 1, y⟩ : B) :: z = pre ++ [⟨t, a + 1, a + 1 + 1, a + 1 + 1 + 1, a + 1 + 1 + 1 + 1, y⟩] ++ z := by simp
    rw [e]
    exact hz
theorem held_from : ∀ (rest pre : List B) (a b : Int), Chain rest a b → (pre.length : Int) + (rest.length : Int) ≤ 1048576 → Ev (fun k => laws_heldBuildingS.l0 k (pre ++ rest) a (pre.length : Int)) b := by
  intro rest
  induction rest with
  | nil =>
    intro pre a b h hn
    obtain rfl : a = b := h
    refine Ev.step (fun k => laws_heldBuildingS.l0.eq_2 _ _ _ k) ?_
    rw [List.append_nil]
    simp only [if_neg (show ¬ (pre.length : Int) < (pre.length : Int) by omega)]
    exact Ev.now _
  | cons x rest ih =>
    intro pre a b h hn
    rw [List.length_cons] at hn
    obtain ⟨h0, h1, h2, h3, h4, ha, hb, a', h5, ha', hc⟩ := h
    have hz := ih (pre ++ [x]) a' b hc (by rw [List.length_append, List.length_singleton]; omega)
    have hil : pre.length < (pre ++ x :: rest).length := by simp
    have hget : rd_T41 (pre ++ x :: rest) (pre.length : Int) = x := by rw [rdB _ _ hil]; simp
    refine Ev.step (fun k => laws_heldBuildingS.l0.eq_2 _ _ _ k) ?_
    simp only [if_pos (show (pre.length : Int) < ((pre ++ x :: rest).length : Int) by simp; omega), if_pos (show (0 : Int) ≤ (pre.length : Int) by omega), hget, w64 (show -9223372036854775808 ≤ a + 1 by omega) (by omega), w64 (show -9223372036854775808 ≤ a + 1 + 1 by omega) (by omega), w64 (show -9223372036854775808 ≤ a + 1 + 1 + 1 by omega) (by omega), w64 (show -9223372036854775808 ≤ a + 1 + 1 + 1 + 1 by omega) (by omega), w64 (show -9223372036854775808 ≤ a + 1 + 1 + 1 + 1 + 1 by omega) (by omega), w64 (show -9223372036854775808 ≤ (pre.length : Int) + 1 by omega) (by omega)]
    refine Ev.bind h0 ?_
    simp only [if_pos h1, if_pos h2, if_pos h3, if_pos h4, if_true]
    refine Ev.bind h5 ?_
    simp only [if_neg (show ¬ a' < 0 by omega)]
    rw [List.length_append, List.length_singleton, List.append_assoc] at hz
    exact hz
theorem mark_ev (l : List B) (hs : Few l) : ∃ (c : Int) (y : List B), Ev (fun k => laws_markBuildingS.f k l 1) (c, y) ∧ Ev (fun k => laws_heldBuildingS.f k y 1) c ∧ 0 ≤ c := by
  obtain ⟨h1, h2⟩ := hs
  obtain ⟨b, y, hm, hc, hl, hb⟩ := mark_from l [] 1 (by omega) h2 (by simp; omega) (by omega)
  exact ⟨b, y, hm, held_from y [] 1 b hc (by rw [hl]; simp; omega), hb⟩
theorem small_to (l : List S36) (hl : l.length ≤ 1048576) (hr : ∀ x ∈ l, (x.f0.size ≤ 1048576) ∧ (x.f1.size ≤ 1048576) ∧ (x.f2.size ≤ 1048576)) : PBlockL.Small (l.map toBlockS_el) := by
  refine ⟨by simpa using hl, fun x hx => ?_⟩
  obtain ⟨y, hy, rfl⟩ := List.mem_map.1 hx
  exact hr y hy
theorem pure : laws_FnExactBuildingsOfBlocks.Pure := by
  intro l hq
  apply EvP.rounds
  unfold laws_FnExactBuildingsOfBlocks.f
  refine EvP.bindP (szBlockS_ev l 1048576 (by omega) (by omega) hq) (fun t ⟨ht, hs⟩ => ?_)
  by_cases hn : t < 0
  · simp only [if_pos hn]
    exact EvP.now rfl
  simp only [if_neg hn]
  obtain ⟨h1, h2⟩ := hs (by omega)
  have hto := toBlockS_ev l h1
  have hsm := small_to l h1 h2
  generalize l.map toBlockS_el = L at hto hsm
  have e1 := spec_ev L hsm
  have e2 := impl_ev L hsm
  have hfew := ans_few L hsm
  have he := eq_ev _ hfew
  obtain ⟨z, hz, hzl⟩ := markBlockS_ev L 1 (by omega) (by have := hsm.1; omega)
  obtain ⟨c2, y, hm, hh, hm0⟩ := mark_ev _ hfew
  refine EvP.bind hto (EvP.bind e1 (EvP.bind hto (EvP.bind e2 (EvP.bind he ?_))))
  simp only [if_true]
  refine EvP.bind hto (EvP.bind (eqBlockS_ev L hsm.1) ?_)
  simp only [if_true]
  refine EvP.bind hz ?_
  simp only [if_pos (show ¬ (1 + 3 * (L.length : Int)) < 0 by omega)]
  refine EvP.bind he ?_
  simp only [if_true]
  refine EvP.bind hm (EvP.bind hh ?_)
  simp only [if_pos (show ¬ c2 < 0 by omega), if_true]
  refine EvP.bind hto (EvP.bind e2 (EvP.bind he ?_))
  simp only [if_true]
  refine EvP.bind hh ?_
  simp only [if_pos (show ¬ c2 < 0 by omega), if_true]
  exact EvP.now rfl
end Go.Proofs.YtlbcnflcibmifaaGreatDoor.PureFnExactBuildingsOfBlocks
end

section
namespace Go.Proofs.YtlbcnflcibmifaaGreatDoor.LaidKit
open Go Go.RowKit
theorem returns_laid_shaped {H : Type} {enc : TypeId × Value → H} {a : Assume} {C : Checked} {os : Os} {f : FuncId} {fn : Func} {s : ChangeSpec} {conds : List PathCond} {apart fresh handsOn again : Bool} {X : World → Array Value → Prop}
    (hX : ∀ (w w' : World) (args : Array Value), w.heap = w'.heap → X w args → X w' args)
    (own : ownKnob C.prog.godebug = none) (started : os.Started) (noInit : C.prog.inits.idxOf? f = none) (hfn : C.prog.funcs[f]? = some fn)
    (witness : ∃ (w : World) (tape : Tape) (i : Input), w.os = os ∧ (w.forCall tape i).Shaped C.prog ∧ i.vars = [] ∧ Input.okWide C.prog (w.forCall tape i) .any w.heap.size f i ∧
      ((s.pre enc C.prog fn conds apart (w.forCall tape i).memory i.args ∧ X (w.forCall tape i).memory i.args) ∧ sizedMet enc C.prog fn (OpenSpec.ofChange s) apart (w.forCall tape i).memory i.args) ∧ a.holds C.prog (lone (Frame.enter C.prog f i.args .normal) [] (w.forCall tape i)))
    (contract : ∀ (W : World) (base : Nat) (args : Array Value) (ds gs : List (DataW H)) (before : List MemPlace),
      (∀ (j : Nat) t v, fn.params[j]? = some t → args[j]? = some v → Value.okWide C.prog W .any base t v) →
      DataW.Whole enc C.prog fn.params.toList s.vars apart W args.toList ds gs before →
      conds.all (PathCond.test C.prog ⟨fn.params.toList, ds, s.plain.varTypes C.prog, gs⟩) = true →
      (DataW.weightsEach C.prog (fn.params.toList ++ s.plain.varTypes C.prog) (ds ++ gs)).all (· ≤ reachBytes) = true → X W args →
      W.ShapedOpen C.prog →
      a.holds C.prog (lone (Frame.enter C.prog f args .normal) [] W) →
      Calls C.prog f args W fun e W' => ∃ v, e = .returned v ∧ s.post enc C.prog fn apart fresh handsOn again W args v W') :
    ReturnsInHanded a C os f .any (fun w args => (s.pre enc C.prog fn conds apart w args ∧ X w args) ∧ sizedMet enc C.prog fn (OpenSpec.ofChange s) apart w args) (s.post enc C.prog fn apart fresh handsOn again) := by
  refine returnsInHanded_of_calls own started noInit witness ?_
  intro w tape i _ hsh _ hok hpre hholds
  obtain ⟨_, _, _, fn', hfn', _, _, _, _, hval⟩ := hok
  have e : fn' = fn := Option.some.inj (hfn'.symm.trans hfn)
  subst e
  obtain ⟨⟨⟨ds, gs, before, hw, hc⟩, hx⟩, hz⟩ := hpre
  have hw' := DataW.Whole.of_heap (w' := w.forCall tape i) (by rfl) hw
  refine (contract (w.forCall tape i) w.heap.size i.args ds gs before hval hw' hc (hz.weights hw) (hX _ _ _ (by rfl) hx) hsh hholds).mono fun e W' ⟨v, he, hp⟩ => ?_
  subst he
  exact ChangeSpec.post_blind hp
theorem laidMet_from {P : Program} {l : List (String × DataW Unit)} {x : String × DataW Unit} {r : List (String × DataW Unit)} {w : World} (h : laidMet P (l ++ x :: r) w) : laidMet P (x :: r) w := by
  induction l with
  | nil => exact h
  | cons a l ih => exact ih h.tail
theorem star : "*" ++ "errors.errorString" = "*errors.errorString" := by decide
theorem rowErr (u : TypeId) (h : Tryz.prog.typeName? 3 u = some "*errors.errorString") : u = 134 :=
  typeName_ptr_named (nm := "errors.errorString") (by rw [star]; kernel_rfl) (by kernel_rfl) (by decide) u (by rw [star]; exact h)
theorem errVar {n : String} {text : List UInt8} {r : List (String × DataW Unit)} {w : World} {g : Nat} (h : laidMet Tryz.prog ((n, .iface "*errors.errorString" (.ptr (.agg [.lit (.string text)]))) :: r) w)
    (hg : Tryz.prog.globalNamed n = some g) (ht : (Tryz.prog.globals[g]?).map (·.type) = some 82) : ∃ tp p, w.var? Tryz.prog n = some #[.iface tp p] := by
  obtain ⟨a_, s_, hv_, -⟩ := laid_sentinel h hg ht Tryz.underlying82 rowErr Tryz.underlying134 Tryz.underlying136 rfl rfl Tryz.underlying9 (by kernel_rfl) (by kernel_rfl)
  exact ⟨_, _, hv_⟩
end Go.Proofs.YtlbcnflcibmifaaGreatDoor.LaidKit
end

section
namespace Go.Proofs.YtlbcnflcibmifaaGreatDoor.RowFnExactBuildingsOfBlocks
open Go.ChangeShapes Go.WideShapes Go.ChangeAt Go.RowKit Go.Proofs.YtlbcnflcibmifaaGreatDoorW.PrintWords Go.Proofs.YtlbcnflcibmifaaGreatDoor.XT Go.Proofs.YtlbcnflcibmifaaGreatDoor.Open
open Go.ChangeMaps (open_string shut_string)
set_option linter.unusedVariables false
theorem own : ownKnob Tryz.prog.godebug = none := by kernel_rfl
theorem laidOut : laidOutB Tryz.prog = true := by kernel_rfl
set_option maxRecDepth 100000 in
theorem lifted (os : Os) (started : os.Started) (H : Type) (enc : TypeId × Value → H) :
    ReturnsInHanded {} Tryz.checked os 3 .any (fun w args => (Rows.fnExactBuildingsOfBlocksSpec.pre enc Tryz.prog Tryz.f3 Rows.fnExactBuildingsOfBlocksRow.domain false w args ∧ laidMetH Tryz.prog Rows.fnExactBuildingsOfBlocksRow.laid w) ∧ sizedMet enc Tryz.prog Tryz.f3 (OpenSpec.ofChange Rows.fnExactBuildingsOfBlocksSpec) false w args) (Rows.fnExactBuildingsOfBlocksSpec.post enc Tryz.prog Tryz.f3 false true false false) := by
  refine LaidKit.returns_laid_shaped (C := Tryz.checked) (X := fun w _ => laidMetH Tryz.prog Rows.fnExactBuildingsOfBlocksRow.laid w) (fun _ _ _ hh h => h.of_heap hh) own started (by kernel_rfl) Tryz.func3
    (ChangeSpec.witness_shaped (enc := enc) (C := Tryz.checked) (os := os) (X := fun w _ => laidMetH Tryz.prog Rows.fnExactBuildingsOfBlocksRow.laid w) false (World.laidAll Tryz.prog os Rows.fnExactBuildingsOfBlocksRow.laid) #[(.slice none 0 0)] 8 (World.laidAll_os _ _ _)
      (World.shaped_of_ZipB (by kernel_rfl) (by kernel_rfl)) (by kernel_rfl) (by kernel_rfl) (by kernel_rfl)
      (by rw [MakeChecks.laidMetH_plain _ _ _ (by kernel_rfl)]; exact laidMet_laidAll _ (by kernel_rfl) (by kernel_rfl))) ?_
  intro W base args ds gs before hval0 hW hcnd hsz0 hLD hsh _
  have hsz : (DataW.weightsEach Tryz.prog (Tryz.f3.params.toList ++ Rows.fnExactBuildingsOfBlocksSpec.plain.varTypes Tryz.prog) (ds ++ gs)).all (· ≤ reachBytes) = true := hsz0
  have hval : ∀ (j : Nat) t v, Tryz.f3.params[j]? = some t → args[j]? = some v → Value.okWide Tryz.prog W .any base t v := hval0
  have hW' := hW
  obtain ⟨p, q, hA0, hV, rfl, hfz, hnd⟩ := hW
  have hA : DataW.TrodAll enc Tryz.prog W 0 (fun _ => true) true Tryz.f3.params.toList args.toList ds p := hA0
  rw [Tryz.params3] at hA hval hsz
  obtain ⟨v0, vs0, d0, ds0, p0, q0, hargs, rfl, rfl, h0, r0⟩ := trodAll_cons hA
  obtain ⟨rfl, rfl, rfl⟩ := trodAll_nil r0
  obtain rfl : args = #[v0] := by cases args; simp_all
  obtain ⟨rfl, rfl⟩ := trodVars_none hV
  have kk0 := h0
  have lt0 : ∀ x ∈ p0, x.block < W.heap.size := by obtain ⟨m, hm⟩ := kk0; exact DataW.trod_lt m _ _ _ hm
  obtain ⟨A0, c0, a0, rfl, hc0, hr0, hq0⟩ := open_sl Tryz.underlying22 (by kernel_rfl) opens36 (hval 0 22 v0 rfl rfl) h0
  have hst : ShT Tryz.prog W := ⟨hsh, by
    have h_ : laidMetH Tryz.prog Rows.fnExactBuildingsOfBlocksRow.laid W := hLD
    rw [MakeChecks.laidMetH_plain _ _ _ (by kernel_rfl)] at h_
    have e_ : Rows.fnExactBuildingsOfBlocksRow.laid = Rows.fnExactBuildingsOfBlocksRow.laid.take 2 ++ ("internal/strconv.uint64pow10", Lib.tabData .u64 Lib.pow10Tab) :: Rows.fnExactBuildingsOfBlocksRow.laid.drop 3 := by kernel_rfl
    rw [e_] at h_
    exact Lib.tabIs_of_head (g := (Tryz.prog.globalNamed "internal/strconv.uint64pow10").getD 0) (t := ((Tryz.prog.globals[(Tryz.prog.globalNamed "internal/strconv.uint64pow10").getD 0]?).map (·.type)).getD 0) (e := 106) (n := 20) (by kernel_rfl) (by kernel_rfl) (by kernel_rfl) (by kernel_rfl) (by kernel_rfl) (by kernel_rfl) (LaidKit.laidMet_from h_), by
    have h_ : laidMetH Tryz.prog Rows.fnExactBuildingsOfBlocksRow.laid W := hLD
    rw [MakeChecks.laidMetH_plain _ _ _ (by kernel_rfl)] at h_
    have e_ : Rows.fnExactBuildingsOfBlocksRow.laid = Rows.fnExactBuildingsOfBlocksRow.laid.take 5 ++ ("strconv.ErrSyntax", .iface "*errors.errorString" (.ptr (.agg [.lit (.string [105, 110, 118, 97, 108, 105, 100, 32, 115, 121, 110, 116, 97, 120])]))) :: Rows.fnExactBuildingsOfBlocksRow.laid.drop 6 := by kernel_rfl
    rw [e_] at h_
    exact LaidKit.errVar (g := (Tryz.prog.globalNamed "strconv.ErrSyntax").getD 0) (LaidKit.laidMet_from h_) (by kernel_rfl) (by kernel_rfl), by
    have h_ : laidMetH Tryz.prog Rows.fnExactBuildingsOfBlocksRow.laid W := hLD
    rw [MakeChecks.laidMetH_plain _ _ _ (by kernel_rfl)] at h_
    have e_ : Rows.fnExactBuildingsOfBlocksRow.laid = Rows.fnExactBuildingsOfBlocksRow.laid.take 4 ++ ("strconv.ErrRange", .iface "*errors.errorString" (.ptr (.agg [.lit (.string [118, 97, 108, 117, 101, 32, 111, 117, 116, 32, 111, 102, 32, 114, 97, 110, 103, 101])]))) :: Rows.fnExactBuildingsOfBlocksRow.laid.drop 5 := by kernel_rfl
    rw [e_] at h_
    exact LaidKit.errVar (g := (Tryz.prog.globalNamed "strconv.ErrRange").getD 0) (LaidKit.laidMet_from h_) (by kernel_rfl) (by kernel_rfl)⟩
  obtain ⟨k, hp⟩ := PureFnExactBuildingsOfBlocks.pure a0 hq0
  clear hA0 hval0 hsz0 hsz
  refine (laws_FnExactBuildingsOfBlocks.calls k A0 c0 a0 true W hr0 hc0 hst hp).mono fun e W' ⟨he, bel0⟩ => ?_
  have bel : Below W.heap.size W W' := bel0
  subst he
  exact ⟨_, rfl, _, _, _, [], _, [], hW', trodAll_mk1 (shut_bool Tryz.underlying4 _), (trodAll_cons_mk (Below.trod laidOut (by kernel_rfl) (of_decide_eq_true (by kernel_rfl)) kk0 bel lt0) trodAll_mk0), rfl, bel.frame _, fun h => by cases h⟩
theorem over : Rows.fnExactBuildingsOfBlocksRow.holds Tryz.pinned (OpenSpec.ofChange Rows.fnExactBuildingsOfBlocksSpec) :=
  OpenClaim.holds_of_wide 3 Tryz.f3 rfl rfl rfl rfl rfl rfl rfl ⟨rfl, rfl, rfl, rfl, rfl⟩ rfl rfl rfl rfl rfl (by kernel_rfl) Tryz.func3 (by kernel_rfl)
    (of_decide_eq_true (by kernel_rfl)) (by unfold Func.isWrapper; first | (rw [if_pos (by decide +kernel)]; kernel_rfl) | (rw [if_neg (by decide +kernel)]; exact ⟨rfl, rfl⟩))
    (fun os started H enc _ => lifted os started H enc)
end Go.Proofs.YtlbcnflcibmifaaGreatDoor.RowFnExactBuildingsOfBlocks
namespace Go.Proofs.YtlbcnflcibmifaaGreatDoor
theorem fnExactBuildingsOfBlocks_holds : Rows.FnExactBuildingsOfBlocksSaid := RowFnExactBuildingsOfBlocks.over
theorem fnExactBuildingsOfBlocks_card_holds : Rows.FnExactBuildingsOfBlocksCardSaid :=
  Claim7.holds_tied_plain_at .later [] [.data, .data, .data, .data, .sentinel, .sentinel, .pinned] true (true, "7130bb3e7c563a9c7152f640417cb03ea866737088b024166975d6351c1c28db") true fnExactBuildingsOfBlocks_holds (fun _ h => by cases h) (by kernel_rfl) (fun _ h => by cases h) fnExactBuildingsOfBlocks_row_tie rfl ⟨rfl, rfl⟩ (by kernel_rfl) rfl
    (fun f fn hf hfn => by
      obtain rfl : f = 3 := Option.some.inj ((show Tryz.prog.funcNamed "loop.example/g01011/laws.FnExactBuildingsOfBlocks" = some 3 by kernel_rfl).symm.trans hf) |>.symm
      obtain rfl : fn = Tryz.f3 := (Option.some.inj (Tryz.func3.symm.trans hfn)).symm
      exact ⟨by kernel_rfl, fun j t ht => by
        rw [Tryz.params3] at ht
        have hm : t ∈ [22] := by simpa using Array.mem_of_getElem? ht
        have hall : ([22].all fun u => !Tryz.prog.wantsStandIn u) = true := by kernel_rfl
        exact (show Tryz.prog.wantsStandIn t = false by simpa using List.all_eq_true.1 hall t hm)⟩)
    (by kernel_rfl)
end Go.Proofs.YtlbcnflcibmifaaGreatDoor
end
