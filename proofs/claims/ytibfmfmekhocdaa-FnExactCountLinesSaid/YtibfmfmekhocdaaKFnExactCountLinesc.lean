/- The law FnExactCountLines: part 2 of its texts, joined (wip/pack.py). -/
import Derived.Test.YtibfmfmekhocdaaKFnExactCountLinesa
import Derived.Test.YtibfmfmekhocdaaKFnExactCountLinesb
import Derived.Shelf.SlIter.Nil
import Derived.Shelf.SortM.Plain
import Derived.Shelf.SortM.SortNone
import Derived.Ground.GgzProg
import Derived.Ground.SlgmProg
import Derived.Test.YtibfmfmekhocdaaProg
import Derived.Maps.Own
import Derived.Maps.OwnOps
import Derived.OwnWalk
import Derived.StringKeys
import Derived.Deep.Slices
import Derived.SizedLaws
import Derived.ChangeArms
import Derived.WideShapes
import Derived.Sort.Walk0
import Derived.Maps.Views
import Derived.Sort.KeysCollected

section
namespace Go.Proofs
open Go.Shelf
def Try.keys18_ren : Go.Shelf.Ren := ⟨fun | 7 => 18 | 10 => 24 | n => n, fun | 23 => 32 | 26 => 9 | 3 => 2 | 28 => 35 | 0 => 0 | 27 => 34 | 33 => 38 | 4 => 4 | n => n, fun | n => n⟩
set_option maxRecDepth 100000 in
theorem Try.keys18 : Go.Proofs.SlLaysZ.n7 Try.prog Try.keys18_ren := {
  mixed := by kernel_rfl
  f7 := ⟨Try.f18.name, by decide, Try.func18.trans (congrArg some (by kernel_rfl))⟩
  f10 := ⟨Try.f24.name, by decide, Try.func24.trans (congrArg some (by kernel_rfl))⟩
  t0 := Try.underlying0
  a0 := Try.isAgg0
  z0 := Try.sizeOf0
  v0 := Try.zeroValue0
  t4 := Try.underlying4
  a4 := Try.isAgg4
  z4 := Try.sizeOf4
  v4 := Try.zeroValue4
  t23 := Try.underlying32
  a23 := Try.isAgg32
  z23 := Try.sizeOf32
  v23 := Try.zeroValue32
  t26 := Try.underlying9
  a26 := Try.isAgg9
  z26 := Try.sizeOf9
  v26 := Try.zeroValue9
  t27 := Try.underlying34
  a27 := Try.isAgg34
  z27 := Try.sizeOf34
  v27 := Try.zeroValue34
  t28 := Try.underlying35
  a28 := Try.isAgg35
  z28 := Try.sizeOf35
  v28 := Try.zeroValue35
  t33 := Try.underlying38
  a33 := Try.isAgg38
  z33 := Try.sizeOf38
  v33 := Try.zeroValue38 }
def Try.sorted17_ren : Go.Shelf.Ren := ⟨fun | 6 => 17 | 8 => 22 | 9 => 23 | 11 => 26 | 13 => 28 | 12 => 27 | 23 => 38 | 24 => 39 | 14 => 29 | 15 => 30 | 16 => 31 | 17 => 32 | 18 => 33 | 19 => 34 | 20 => 35 | 21 => 36 | 22 => 37 | 25 => 40 | 26 => 41 | 27 => 42 | 28 => 43 | 29 => 44 | 30 => 45 | 31 => 46 | n => n, fun | 26 => 9 | 28 => 35 | 24 => 22 | 0 => 0 | 3 => 3 | 37 => 45 | 48 => 56 | 50 => 58 | 4 => 4 | 40 => 48 | 39 => 47 | 45 => 53 | 5 => 5 | 9 => 9 | 51 => 59 | 55 => 63 | 57 => 65 | 58 => 66 | 33 => 38 | n => n, fun | n => n⟩
set_option maxRecDepth 100000 in
theorem Try.sorted17 : Go.Proofs.SlLaysZ.n6 Try.prog Try.sorted17_ren := {
  mixed := by kernel_rfl
  f6 := ⟨Try.f17.name, by decide, Try.func17.trans (congrArg some (by kernel_rfl))⟩
  f8 := ⟨Try.f22.name, by decide, Try.func22.trans (congrArg some (by kernel_rfl))⟩
  f11 := ⟨Try.f26.name, by decide, Try.func26.trans (congrArg some (by kernel_rfl))⟩
  t0 := Try.underlying0
  a0 := Try.isAgg0
  z0 := Try.sizeOf0
  v0 := Try.zeroValue0
  t24 := Try.underlying22
  a24 := Try.isAgg22
  z24 := Try.sizeOf22
  v24 := Try.zeroValue22
  t26 := Try.underlying9
  a26 := Try.isAgg9
  z26 := Try.sizeOf9
  v26 := Try.zeroValue9
  t28 := Try.underlying35
  a28 := Try.isAgg35
  z28 := Try.sizeOf35
  v28 := Try.zeroValue35
  i26 := by kernel_rfl }
def Try.sort23_ren : Go.Shelf.Ren := ⟨fun | 6 => 23 | 8 => 28 | 9 => 27 | 19 => 38 | 20 => 39 | 21 => 29 | 22 => 30 | 23 => 31 | 24 => 32 | 25 => 33 | 26 => 34 | 27 => 35 | 28 => 36 | 29 => 37 | 36 => 40 | 31 => 41 | 32 => 42 | 37 => 43 | 38 => 44 | 39 => 45 | 41 => 46 | n => n, fun | 27 => 22 | 29 => 9 | 3 => 3 | 32 => 45 | 26 => 22 | 0 => 0 | 44 => 56 | 46 => 58 | 4 => 4 | 36 => 48 | 35 => 47 | 41 => 53 | 5 => 5 | 9 => 9 | 53 => 59 | 57 => 63 | 63 => 65 | 64 => 66 | n => n, fun | n => n⟩
set_option maxRecDepth 100000 in
theorem Try.sort23 : Go.Proofs.SlLaysM.n6 Try.prog Try.sort23_ren := {
  mixed := by kernel_rfl
  f6 := ⟨Try.f23.name, by decide, Try.func23.trans (congrArg some (by kernel_rfl))⟩
  f8 := Try.func28.trans (congrArg some (by kernel_rfl))
  f9 := ⟨Try.f27.name, by decide, Try.func27.trans (congrArg some (by kernel_rfl))⟩
  f19 := Try.func38.trans (congrArg some (by kernel_rfl))
  f20 := Try.func39.trans (congrArg some (by kernel_rfl))
  f21 := ⟨Try.f29.name, by decide, Try.func29.trans (congrArg some (by kernel_rfl))⟩
  f22 := ⟨Try.f30.name, by decide, Try.func30.trans (congrArg some (by kernel_rfl))⟩
  f23 := ⟨Try.f31.name, by decide, Try.func31.trans (congrArg some (by kernel_rfl))⟩
  f24 := ⟨Try.f32.name, by decide, Try.func32.trans (congrArg some (by kernel_rfl))⟩
  f25 := ⟨Try.f33.name, by decide, Try.func33.trans (congrArg some (by kernel_rfl))⟩
  f26 := ⟨Try.f34.name, by decide, Try.func34.trans (congrArg some (by kernel_rfl))⟩
  f27 := ⟨Try.f35.name, by decide, Try.func35.trans (congrArg some (by kernel_rfl))⟩
  f28 := ⟨Try.f36.name, by decide, Try.func36.trans (congrArg some (by kernel_rfl))⟩
  f29 := ⟨Try.f37.name, by decide, Try.func37.trans (congrArg some (by kernel_rfl))⟩
  f31 := Try.func41.trans (congrArg some (by kernel_rfl))
  f32 := Try.func42.trans (congrArg some (by kernel_rfl))
  f36 := ⟨Try.f40.name, by decide, Try.func40.trans (congrArg some (by kernel_rfl))⟩
  f37 := ⟨Try.f43.name, by decide, Try.func43.trans (congrArg some (by kernel_rfl))⟩
  f38 := ⟨Try.f44.name, by decide, Try.func44.trans (congrArg some (by kernel_rfl))⟩
  f39 := ⟨Try.f45.name, by decide, Try.func45.trans (congrArg some (by kernel_rfl))⟩
  f41 := ⟨Try.f46.name, by decide, Try.func46.trans (congrArg some (by kernel_rfl))⟩
  t0 := Try.underlying0
  a0 := Try.isAgg0
  z0 := Try.sizeOf0
  v0 := Try.zeroValue0
  t3 := Try.underlying3
  a3 := Try.isAgg3
  z3 := Try.sizeOf3
  v3 := Try.zeroValue3
  t4 := Try.underlying4
  a4 := Try.isAgg4
  z4 := Try.sizeOf4
  v4 := Try.zeroValue4
  t5 := Try.underlying5
  a5 := Try.isAgg5
  z5 := Try.sizeOf5
  v5 := Try.zeroValue5
  t9 := Try.underlying9
  a9 := Try.isAgg9
  z9 := Try.sizeOf9
  v9 := Try.zeroValue9
  t26 := Try.underlying22
  a26 := Try.isAgg22
  z26 := Try.sizeOf22
  v26 := Try.zeroValue22
  t27 := Try.underlying22
  a27 := Try.isAgg22
  z27 := Try.sizeOf22
  v27 := Try.zeroValue22
  t29 := Try.underlying9
  a29 := Try.isAgg9
  z29 := Try.sizeOf9
  v29 := Try.zeroValue9
  t32 := Try.underlying45
  a32 := Try.isAgg45
  z32 := Try.sizeOf45
  v32 := Try.zeroValue45
  t35 := Try.underlying47
  a35 := Try.isAgg47
  z35 := Try.sizeOf47
  v35 := Try.zeroValue47
  t36 := Try.underlying48
  a36 := Try.isAgg48
  z36 := Try.sizeOf48
  v36 := Try.zeroValue48
  t41 := Try.underlying53
  a41 := Try.isAgg53
  z41 := Try.sizeOf53
  v41 := Try.zeroValue53
  t44 := Try.underlying56
  a44 := Try.isAgg56
  z44 := Try.sizeOf56
  v44 := Try.zeroValue56
  t46 := Try.underlying58
  a46 := Try.isAgg58
  z46 := Try.sizeOf58
  v46 := Try.zeroValue58
  t53 := Try.underlying59
  a53 := Try.isAgg59
  z53 := Try.sizeOf59
  v53 := Try.zeroValue59
  t57 := Try.underlying63
  a57 := Try.isAgg63
  z57 := Try.sizeOf63
  v57 := Try.zeroValue63
  t63 := Try.underlying65
  a63 := Try.isAgg65
  z63 := Try.sizeOf65
  v63 := Try.zeroValue65
  t64 := Try.underlying66
  a64 := Try.isAgg66
  z64 := Try.sizeOf66
  v64 := Try.zeroValue66 }
end Go.Proofs
namespace Go.Proofs
open Go.RowKit Go.Maps Go.Sort Go.Shelf
theorem Try.sorts17 (m : Nat) : AnyZ.SortsIn Try.prog Try.sorted17_ren Fence.wide m :=
  ⟨fun blk off cap ss W hH hblk hsz => callsIn_wide.2 (AnyM.slices_Sort_string Try.sort23 blk off cap ss W hH hblk hsz),
   fun p cap W => callsIn_wide.2 (AnyM.slices_Sort_string_none Try.sort23 p cap W)⟩
theorem Try.maps_Keys_18 (mb : Option Nat) (W : World) : CallsIn Fence.wide 5 Try.prog 18 #[.map mb] W fun e w' => e = .returned (.func (.func 24) #[] #[.pointer (some ⟨W.heap.size, 0, none⟩)]) ∧ w' = W.alloc (.cells #[.map mb] 32) :=
  AnyZ.keys_in Try.keys18 Fence.wide 5 trivial rfl mb W
set_option maxHeartbeats 1000000 in
theorem Try.slices_Sorted_keys_17_18 {H : Type} (b nn : Nat) (D0 : DataW H) (R : Value → Option (DataW H × List MemPlace)) (w : World) (hown : w.ownsMap Try.prog 9 R b nn D0) (hmax : Maps.size D0 ≤ maxLen) (hbytes : Maps.size D0 * 16 ≤ 140737488355328) :
    CallsIn Fence.wide 5 Try.prog 17 #[.func (.func 24) #[] #[.pointer (some ⟨w.heap.size, 0, none⟩)]] (w.alloc (.cells #[.map (some b)] 32)) fun e w' => ∃ (v : Value) (ss : List (List UInt8)), e = .returned v ∧ ss.Perm (strKeys D0) ∧
      w'.ownsRow (w.alloc (.cells #[.map (some b)] 32)).heap.size 9 1 v ss.length ((ss.mergeSort (fun x y => decide (x ≤ y))).map encStr) ∧ (v = .slice none 0 0 ↔ ss = []) ∧ Below (w.alloc (.cells #[.map (some b)] 32)).heap.size (w.alloc (.cells #[.map (some b)] 32)) w' := by
  have hbl := hown.lt
  have hseq : SeqGives Fence.wide 2 Try.prog 24 #[.pointer (some ⟨w.heap.size, 0, none⟩)] encStr (fun ss => ss.Perm (strKeys D0)) (Maps.size D0) (w.alloc (.cells #[.map (some b)] 32)) :=
    AnyZ.keys_gives (ρ := Try.keys18_ren) { Try.keys18 with } Fence.wide _ trivial rfl (by omega) w.heap.size b nn D0 _ (by simp) (by simp) (by
      obtain ⟨es, clock, hb, Ft, hs, hD⟩ := hown
      exact ⟨es, clock, (Below.heap_alloc _ _ b hbl).trans hb, Ft, hs, hD⟩)
  exact AnyZ.sorted_in Try.sorted17 Fence.wide 5 trivial trivial trivial trivial rfl (by omega) (Try.sorts17 _) (enters_of Try.func23 (by kernel_rfl) rfl) 24 #[.pointer (some ⟨w.heap.size, 0, none⟩)] trivial (enters_of Try.func24 (by kernel_rfl) rfl) _ _ hmax hbytes _ hseq
end Go.Proofs
end

section
namespace Go.Proofs.Ytibfmfmekhocdaa.XL
open Go.RowKit Go.Proofs.YtibfmfmekhocdaaW.PrintWords Go.Proofs.YtibfmfmekhocdaaW.PrintLast Go.Proofs.YtibfmfmekhocdaaW.PrintMore
attribute [local go_sem] run_eql_slice_nil binOp_string_gtr' binOp_string_leq' binOp_string_geq' max2_int min2_int max_two min_two max_three min_three max_four min_four   -- for this text's walks alone
set_option linter.unusedVariables false
set_option linter.unusedSimpArgs false
def impl_CountLines.keys (l : List ByteArray) : List ByteArray := ((Go.strKeys (Ytibfmfmekhocdaa.CntMap.cntD l)).mergeSort fun x y => decide (x ≤ y)).map fun b => (⟨b.toArray⟩ : ByteArray)
def impl_CountLines.ok (l : List ByteArray) : Bool := decide (l.length ≤ 1048576) && l.all fun x => decide (x.size ≤ 1048576)
def impl_CountLines.f (k : Nat) (l0 : List ByteArray) : Option (List ByteArray × List Int × Int) := (impl_ValidReport.f k l0).bind fun b => if b = true then (if impl_CountLines.ok l0 = true then some (impl_CountLines.keys l0, (impl_CountLines.keys l0).map (Ytibfmfmekhocdaa.CntMap.cntOf (Ytibfmfmekhocdaa.CntMap.cntD l0)), 0) else none) else some ([], [], 1)
theorem impl_CountLines.num {D : DataW Unit} {x : ByteArray} {c : Int} (h : D.atKey (.string x.data.toList) (.lit (.int .i64 0)) = .lit (.int .i64 c)) : Ytibfmfmekhocdaa.CntMap.cntOf D x = c := by
 show Ytibfmfmekhocdaa.CntMap.numOf (D.atKey (.string x.data.toList) (.lit (.int .i64 0))) = c
 rw [h]
 rfl
theorem impl_CountLines.sizeD (l : List ByteArray) : Go.Maps.size (Ytibfmfmekhocdaa.CntMap.cntD l) ≤ l.length := by
 induction l using Ytibfmfmekhocdaa.CntMap.snoc_ind with
 | h0 => exact Nat.le_refl 0
 | h1 l x ih =>
  rw [Ytibfmfmekhocdaa.CntMap.cntD_snoc]
  unfold Ytibfmfmekhocdaa.CntMap.step
  rw [Go.Maps.size_put (Ytibfmfmekhocdaa.CntMap.tidyD l)]
  simp only [List.length_append, List.length_cons, List.length_nil]
  split <;> omega
theorem impl_CountLines.nkeys (l : List ByteArray) : (Go.strKeys (Ytibfmfmekhocdaa.CntMap.cntD l)).length ≤ l.length := by
 obtain ⟨es, he, hk⟩ := Ytibfmfmekhocdaa.CntMap.keysD l
 refine Nat.le_trans ?_ (impl_CountLines.sizeD l)
 rw [he]
 show (es.map _).length ≤ es.length
 rw [List.length_map]
 exact Nat.le_refl _
theorem impl_CountLines.len (l : List ByteArray) : (impl_CountLines.keys l).length ≤ l.length := by
 unfold impl_CountLines.keys
 rw [List.length_map, List.length_mergeSort]
 exact impl_CountLines.nkeys l
theorem impl_CountLines.sorted (D : DataW Unit) (ss : List (List UInt8)) (h : ss.Perm (Go.strKeys D)) : ss.mergeSort (fun x y => decide (x ≤ y)) = (Go.strKeys D).mergeSort (fun x y => decide (x ≤ y)) := by
 have K : ∀ s : List (List UInt8), (s.mergeSort (fun x y => decide (x ≤ y))).Pairwise (fun x y => x ≤ y) := fun s => by
  have := List.pairwise_mergeSort (le := fun x y : List UInt8 => decide (x ≤ y)) (fun a b c h k => by simp only [decide_eq_true_eq] at h k ⊢; exact List.le_trans h k) (fun a b => by simp only [Bool.or_eq_true, decide_eq_true_eq]; exact List.le_total a b) s
  simpa using this
 exact List.Perm.eq_of_pairwise (le := fun a b : List UInt8 => a ≤ b) (fun a b _ _ hab hba => List.le_antisymm hab hba) (K _) (K _) ((List.mergeSort_perm _ _).trans (h.trans (List.mergeSort_perm _ _).symm))
theorem impl_CountLines.carry {P : Program} {k : TypeId} {R : Value → Option (DataW Unit × List MemPlace)} {b n : Nat} {D : DataW Unit} {w w' : World} {m : Nat} (h : w.ownsMap P k R b n D) (hW : Below m w w') (hb : b < m) : w'.ownsMap P k R b n D := by
 obtain ⟨es, clock, hbk, Ft, hs, hD⟩ := h
 exact ⟨es, clock, (hW.block b hb).trans hbk, Ft, hs, hD⟩
set_option maxHeartbeats 1000000 in
theorem impl_CountLines.srt (l0 : List ByteArray) (hl : l0.length ≤ 1048576) (b : Nat) (W : World) (HO : W.ownsMap Try.prog 9 (plainElem (H := Unit) Try.prog 2) b l0.length (Ytibfmfmekhocdaa.CntMap.cntD l0)) :
  Calls Try.prog 17 #[.func (.func 24) #[] #[.pointer (some ⟨W.heap.size, 0, none⟩)]] (W.alloc (.cells #[.map (some b)] 32)) fun e w3 => ∃ (A3 : Option Addr) (c3 : Nat), e = .returned (.slice A3 (impl_CountLines.keys l0).length c3) ∧ Kd.R Kd.string 9 w3 W.heap.size (fun _ => True) (.slice A3 (impl_CountLines.keys l0).length c3) (impl_CountLines.keys l0) ∧ w3.ownsMap Try.prog 9 (plainElem (H := Unit) Try.prog 2) b l0.length (Ytibfmfmekhocdaa.CntMap.cntD l0) ∧ Below W.heap.size W w3 ∧ ∀ x ∈ impl_CountLines.keys l0, x.size < maxLen + 1 := by
 refine (callsIn_wide.1 (Try.slices_Sorted_keys_17_18 b l0.length (Ytibfmfmekhocdaa.CntMap.cntD l0) (plainElem (H := Unit) Try.prog 2) W HO (by have := impl_CountLines.sizeD l0; unfold maxLen; omega) (by have := impl_CountLines.sizeD l0; omega))).mono ?_
 rintro e w3 ⟨v, ss, rfl, hS, hrow, hnil, hb3⟩
 have e1 := impl_CountLines.sorted _ ss hS
 have hel : ((impl_CountLines.keys l0).map Value.string) = ((ss.mergeSort fun x y => decide (x ≤ y)).map encStr) := by rw [e1]; unfold impl_CountLines.keys; rw [List.map_map]; rfl
 have hln : ss.length = (impl_CountLines.keys l0).length := by rw [← List.length_mergeSort (le := fun x y : List UInt8 => decide (x ≤ y)) ss, e1]; unfold impl_CountLines.keys; rw [List.length_map]
 rw [← hel, hln] at hrow
 have hB := below_alloc (Below.refl W.heap.size W) (.cells #[.map (some b)] 32)
 have hB3 := below_step hB hb3
 have hO3 := impl_CountLines.carry HO hB3 HO.lt
 have hK0 : Kd.R Kd.string 9 w3 W.heap.size (fun _ => True) v (impl_CountLines.keys l0) := ⟨fun _ _ => trivial, _, own_weaken hrow hB.size, Kd.reps_scalar _⟩
 obtain ⟨A3, c3, rfl⟩ := Kd.R_slice hK0
 refine ⟨A3, c3, rfl, hK0, hO3, hB3, ?_⟩
 intro x hx
 unfold impl_CountLines.keys at hx
 obtain ⟨y, hy, rfl⟩ := List.mem_map.1 hx
 have := Go.strKeys_le hO3 Try.underlying9 y ((List.mergeSort_perm _ _).mem_iff.1 hy)
 show y.toArray.size < _
 simp only [List.size_toArray]
 omega
set_option maxHeartbeats 4000000 in
set_option maxRecDepth 100000 in
theorem impl_CountLines.calls (k : Nat) (A0 : Option Addr) (c0 : Nat) (l0 : List ByteArray) (r1 : List ByteArray) (r2 : List Int) (r3 : Int) (w : World) (hr0 : Kd.C Kd.string w A0 l0.length l0) (hc0 : l0.length ≤ c0) (h : impl_CountLines.f k l0 = some (r1, r2, r3)) :
  Calls Try.prog 7 #[.slice A0 l0.length c0] w fun e w' => ∃ v0_ v1_ : Value, e = .returned (.tuple #[v0_, v1_, .int .i64 r3]) ∧ Kd.R Kd.string 9 w' w.heap.size (fun _ => True) v0_ r1 ∧ Kd.R (Kd.int .i64) 2 w' w.heap.size (fun _ => True) v1_ r2 ∧ Below w.heap.size w w' := by
 unfold impl_CountLines.f at h
 obtain ⟨b, hb, h⟩ := Option.bind_eq_some_iff.mp h
 have HV := Aside0.mk hb
 have HR := Aside0.mk hr0
 have HC := Aside0.mk hc0
 clear hb hr0 hc0
 cases b with
 | false =>
  simp only [Bool.false_eq_true, if_false, Option.some.injEq, Prod.mk.injEq] at h
  obtain ⟨rfl, rfl, rfl⟩ := h
  go_enter Try.func7, Try.ntmps7
  go_wp2_with (go_at_call 16; go_loud ((with_reducible refine (impl_ValidReport.calls k A0 c0 l0 false _ HR.out HC.out HV.out).mono ?_); rintro e w2 ⟨rfl, ⟨nd, rfl⟩⟩))
  go_ret3
  exact ⟨_, _, rfl, Kd.R_nil _ _ _ _ _, Kd.R_nil _ _ _ _ _, pw_below_drewN (Below.refl _ _) _⟩
 | true =>
  simp only [if_true] at h
  by_cases hl : impl_CountLines.ok l0 = true
  ·rw [if_pos hl] at h
   simp only [Option.some.injEq, Prod.mk.injEq] at h
   obtain ⟨rfl, rfl, rfl⟩ := h
   simp only [impl_CountLines.ok, Bool.and_eq_true, decide_eq_true_eq, List.all_eq_true] at hl
   have HL := Aside0.mk hl.1
   have HS := Aside0.mk hl.2
   clear hl
   have hmm := @run_makeMap Try.prog
   go_enter Try.func7, Try.ntmps7
   go_wp2_with (go_at_call 16; go_loud ((with_reducible refine (impl_ValidReport.calls k A0 c0 l0 true _ HR.out HC.out HV.out).mono ?_); rintro e w2 ⟨rfl, ⟨nd, rfl⟩⟩))
   have hsz : (w.drewN nd).heap.size = w.heap.size := rfl
   have HO := Aside0.mk (World.ownsMap_made (w.drewN nd) Try.prog 9 (plainElem (H := Unit) Try.prog 2))
   have HB := Aside0.mk (below_alloc (pw_below_drewN (Below.refl w.heap.size w) nd) (.map #[] 0))
   have hll : l0.length ≤ 1048576 := HL.out
   have hz2 : ∀ W : World, (zeroValue 2).run Try.prog W = .ok (.int .i64 0) W := fun W => by kernel_rfl
   go_loopw [18] (fun v18 wr => ∃ q : Nat, q ≤ l0.length ∧ v18 = .int .i64 q ∧ Aside0 (wr.ownsMap Try.prog 9 (plainElem (H := Unit) Try.prog 2) w.heap.size q (Ytibfmfmekhocdaa.CntMap.cntD (l0.take q))) ∧ Aside0 (Below w.heap.size w wr)) (fun v18 _ => l0.length - (intOf v18).toNat)
   case atStart => exact ⟨0, Nat.zero_le _, rfl, HO, HB⟩
   case round =>
    clear HO HB
    obtain ⟨q, hq, rfl, HO, HB⟩ := hrel
    by_cases hlt : q < l0.length
    ·obtain ⟨ad, e0, hx⟩ := Kd.at_string (Kd.C_below HR.out HB.out) (q : Int) (by omega) (by omega)
     cases e0
     obtain ⟨x, hxe⟩ : ∃ x, x = l0[q] := ⟨_, rfl⟩
     have hxr : rdOf ByteArray.empty l0 (q : Int) = x := by rw [hxe]; unfold rdOf; simp [List.getD_eq_getElem?_getD, hlt]
     rw [hxr, Int.toNat_natCast] at hx
     have hkey : keyOf Try.prog 9 (.string x) = some (.string x.data.toList) := Go.WideMaps.keyOf_string_mk Try.underlying9 (by have := HS.out x (by rw [hxe]; exact List.getElem_mem hlt); unfold maxLen; omega)
     have HK := Aside0.mk hkey
     have HX := Aside0.mk hxe
     clear hkey hxe hxr
     go_wp2_with (first
      | (at_lookup; go_loud (refine wpList_lookup_own_int _ rfl _ _ 32 rfl 9 2 .i64 (Go.Maps.string_keyed Try.underlying9) Try.underlying32 Try.underlying2 (hz2 _) w.heap.size q _ rfl HO.out _ _ rfl HK.out ?_; intro c hat hwc; have HAT := Aside0.mk hat; clear hat))
      | (at_mapUpdate; go_loud (refine wpList_mapUpdate_own _ rfl _ _ _ 32 rfl 9 2 (Go.Maps.string_keyed Try.underlying9) Try.underlying32 _ w.heap.size q _ rfl HO.out (by unfold maxLen; omega) _ _ _ rfl rfl HK.out _ [] (plainElem_int Try.underlying2 (wrap64_wf _)) ?_; intro w1 hown1 hgrow1; have HO1 := Aside0.mk hown1; have HB1 := Aside0.mk (HB.out.grown hgrow1 HB.out.size (fun k e => by cases e; exact Nat.le_refl _)); clear hown1 hgrow1)))
     go_roundw
     case rel =>
      refine ⟨q + 1, by omega, by simp, ⟨?_⟩, HB1⟩
      have e1 : l0.take (q + 1) = l0.take q ++ [x] := by rw [HX.out]; exact List.take_succ_eq_append_getElem hlt
      rw [e1, Ytibfmfmekhocdaa.CntMap.cntD_snoc]
      unfold Ytibfmfmekhocdaa.CntMap.step
      rw [impl_CountLines.num HAT.out]
      exact HO1.out
     case measure => simp [intOf]; omega
    ·obtain rfl : q = l0.length := by omega
     rw [List.take_length] at HO
     go_wp2_with (first
      | (go_at_call 18; go_loud (refine (callsIn_wide.1 (Try.maps_Keys_18 (some w.heap.size) _)).mono ?_; rintro e w2 ⟨rfl, rfl⟩))
      | (go_at_call 17; go_loud (refine (impl_CountLines.srt l0 HL.out w.heap.size _ HO.out).mono ?_; rintro e w3 ⟨A3, c3, rfl, hK0, hO3, hb3, hkl⟩; have HK0 := Aside0.mk (Kd.R_lower hK0 HB.out.size); have HC3 := Aside0.mk (Kd.R_reads' hK0).2.2; have HO3 := Aside0.mk hO3; have HB4 := Aside0.mk (below_step HB.out hb3); have HKL := Aside0.mk hkl; clear hK0 hO3 hb3 hkl)))
     have hll2 : (impl_CountLines.keys l0).length ≤ 1048576 := by have := impl_CountLines.len l0; omega
     go_loopw [9, 32] (fun v9 v32 wc => ∃ q : Nat, q ≤ (impl_CountLines.keys l0).length ∧ v32 = .int .i64 q ∧ Aside0 (Kd.R (Kd.int .i64) 2 wc w3.heap.size (fun _ => True) v9 (((impl_CountLines.keys l0).take q).map (Ytibfmfmekhocdaa.CntMap.cntOf (Ytibfmfmekhocdaa.CntMap.cntD l0)))) ∧ Aside0 (Below w3.heap.size w3 wc)) (fun _ v32 _ => (impl_CountLines.keys l0).length - (intOf v32).toNat)
     case atStart => exact ⟨0, Nat.zero_le _, rfl, ⟨Kd.R_nil _ _ _ _ _⟩, ⟨Below.refl _ _⟩⟩
     case round =>
      obtain ⟨q, hq, rfl, HM, HBc⟩ := hrel
      by_cases hlt : q < (impl_CountLines.keys l0).length
      ·obtain ⟨ad, e0, hx⟩ := Kd.at_string (Kd.C_below HC3.out HBc.out) (q : Int) (by omega) (by omega)
       cases e0
       obtain ⟨x, hxe⟩ : ∃ x, x = (impl_CountLines.keys l0)[q] := ⟨_, rfl⟩
       have hxr : rdOf ByteArray.empty (impl_CountLines.keys l0) (q : Int) = x := by rw [hxe]; unfold rdOf; simp [List.getD_eq_getElem?_getD, hlt]
       rw [hxr, Int.toNat_natCast] at hx
       have hkey : keyOf Try.prog 9 (.string x) = some (.string x.data.toList) := Go.WideMaps.keyOf_string_mk Try.underlying9 (by have := HKL.out x (by rw [hxe]; exact List.getElem_mem hlt); omega)
       have HK := Aside0.mk hkey
       have HX := Aside0.mk hxe
       have HOr := Aside0.mk (impl_CountLines.carry HO3.out HBc.out HO3.out.lt)
       have htl : (((impl_CountLines.keys l0).take q).map (Ytibfmfmekhocdaa.CntMap.cntOf (Ytibfmfmekhocdaa.CntMap.cntD l0))).length ≤ 1048576 := by simp only [List.length_map, List.length_take]; omega
       have HTL := Aside0.mk htl
       clear hkey hxe hxr htl
       go_wp2_with (first
        | (at_lookup; go_loud (refine wpList_lookup_own_int _ rfl _ _ 32 rfl 9 2 .i64 (Go.Maps.string_keyed Try.underlying9) Try.underlying32 Try.underlying2 (hz2 _) w.heap.size l0.length _ rfl HOr.out _ _ rfl HK.out ?_; intro c hat hwc; have HAT := Aside0.mk hat; clear hat))
        | ((with_reducible refine gate_builtin (b := .append) (xs := #[.tmp 36, .tmp 40]) rfl ?_); at_builtin; go_loud (refine Kd.R_append (Kd.int .i64) (w0 := w3) w3.heap.size rfl (.tmp 36) (.tmp 40) 24 2 (.int .i64 0) 8 rfl Try.underlying24 info2 rfl (by decide) (by omega) u9 (((impl_CountLines.keys l0).take q).map (Ytibfmfmekhocdaa.CntMap.cntOf (Ytibfmfmekhocdaa.CntMap.cntD l0))) c [.int .i64 c] (fun _ => True) (fun _ => False) rfl rfl ?aP (fun _ hk => hk.elim) ?aF ?aO ?aB ?aS ?aL ?_; (case aP => exact rfl); (case aF => exact (fun _ _ => trivial)); (case aO => exact HM.out); (case aB => exact HBc.out); (case aS => exact HBc.out.size); (case aL => have := HTL.out; omega); intro v1 w4 ho hb hg hat; have HM1 := Aside0.mk ho; have HB1 := Aside0.mk hb; clear ho hb hg hat)))
       go_roundw
       case rel =>
        refine ⟨q + 1, by omega, by simp, ⟨?_⟩, HB1⟩
        have e1 : (impl_CountLines.keys l0).take (q + 1) = (impl_CountLines.keys l0).take q ++ [x] := by rw [HX.out]; exact List.take_succ_eq_append_getElem hlt
        rw [e1, List.map_append, List.map_cons, List.map_nil, impl_CountLines.num HAT.out]
        exact HM1.out
       case measure => simp [intOf]; omega
      ·obtain rfl : q = (impl_CountLines.keys l0).length := by omega
       rw [List.take_length] at HM
       go_wp2_with fail
       go_ret3
       exact ⟨_, _, rfl, Kd.R_below HK0.out HBc.out, Kd.R_lower HM.out HB4.out.size, below_step HB4.out HBc.out⟩
  ·rw [if_neg hl] at h
   exact absurd h (by simp)
end Go.Proofs.Ytibfmfmekhocdaa.XL
end

section
namespace Go.Proofs.Ytibfmfmekhocdaa.XL
open Go.RowKit Go.Proofs.YtibfmfmekhocdaaW.PrintWords Go.Proofs.YtibfmfmekhocdaaW.PrintLast Go.Proofs.YtibfmfmekhocdaaW.PrintMore
attribute [local go_sem] run_eql_slice_nil binOp_string_gtr' binOp_string_leq' binOp_string_geq' max2_int min2_int max_two min_two max_three min_three max_four min_four   -- for this text's walks alone
set_option linter.unusedVariables false
set_option linter.unusedSimpArgs false
def laws_eqStringS.l0 : Nat → List ByteArray → List ByteArray → Int → Option (Bool)
 | 0, _, _, _ => none
 | k + 1, x0, x1, x5 => if x5 < (x0.length : Int) then (if 0 ≤ x5 then (if x5 < (x1.length : Int) then (if (rdOf ByteArray.empty x0 x5).toList = (rdOf ByteArray.empty x1 x5).toList then (laws_eqStringS.l0 k x0 x1 (wrap64 (x5 + 1))) else (some false)) else (none)) else (none)) else (some true)
def laws_eqStringS.f (k : Nat) (l0 : List ByteArray) (l1 : List ByteArray) : Option (Bool) := if (l0.length : Int) = (l1.length : Int) then (laws_eqStringS.l0 k l0 l1 0) else (some false)
set_option maxHeartbeats 8000000 in
set_option maxRecDepth 100000 in
theorem laws_eqStringS.calls (k : Nat) (A0 : Option Addr) (c0 : Nat) (l0 : List ByteArray) (A1 : Option Addr) (c1 : Nat) (l1 : List ByteArray) (r : Bool) (w : World) (hr0 : Kd.C Kd.string w A0 l0.length l0) (hc0 : l0.length ≤ c0) (hr1 : Kd.C Kd.string w A1 l1.length l1) (hc1 : l1.length ≤ c1) (h : laws_eqStringS.f k l0 l1 = some r) :
  Calls Try.prog 8 #[.slice A0 l0.length c0, .slice A1 l1.length c1] w fun e w' => e = .returned (.bool r) ∧ Drawn0 w w' := by
 have HR0 := Aside0.mk hr0
 have HC0 := Aside0.mk hc0
 clear hr0 hc0
 have HR1 := Aside0.mk hr1
 have HC1 := Aside0.mk hc1
 clear hr1 hc1
 have H : (if (l0.length : Int) = (l1.length : Int) then (laws_eqStringS.l0 k l0 l1 0) else (some false)) = some r := h
 clear h
 by_cases c3 : (l0.length : Int) = (l1.length : Int)
 ·rw [if_pos c3] at H
  have c3b0 : ((l0.length : Int) == (l1.length : Int)) = true := beq_iff_eq.mpr c3
  have c3b1 : ((l0.length : Int) != (l1.length : Int)) = false := bne_eq_false_iff_eq.mpr c3
  have c3b2 : (l0.length == l1.length) = true := by first | simpa using c3 | (simp at c3 ⊢; omega)
  clear c3
  have H' := Aside0.mk H
  clear H
  go_enter Try.func8, Try.ntmps8
  go_wp2
  repeat (go_quiet (fail); try go_wp2)
  go_loopg [5] k (fun kq v5 w' => ∃ (x5_1 : Int), v5 = .int .i64 x5_1 ∧ Aside0 (laws_eqStringS.l0 kq l0 l1 x5_1 = some r) ∧ Aside0 (kq ≤ k) ∧ Drawn0 w w')
  case atStart => exact ⟨(0), sZ, H', ⟨Nat.le_refl _⟩, dZ⟩
  case round =>
   clear H'; (try clear c1); (try clear p2); (try clear c3); (try clear c3b0); (try clear c3b1); (try clear c3b2)
   obtain ⟨x5_1, rfl, HA, HK1, ⟨m1, rfl⟩⟩ := hrel
   cases gk with
   | zero => exact absurd HA.out (by simp [laws_eqStringS.l0])
   | succ k1 =>
    have H := HA.out
    clear HA
    simp only [laws_eqStringS.l0] at H
    by_cases c4 : x5_1 < (l0.length : Int)
    ·rw [if_pos c4] at H
     have c4b0 : decide (x5_1 < (l0.length : Int)) = true := decide_eq_true c4
     clear c4
     by_cases c5 : 0 ≤ x5_1
     ·rw [if_pos c5] at H
      have c5b0 : decide (0 ≤ x5_1) = true := decide_eq_true c5
      clear c5
      by_cases c6 : x5_1 < (l1.length : Int)
      ·rw [if_pos c6] at H
       have c6b0 : decide (x5_1 < (l1.length : Int)) = true := decide_eq_true c6
       clear c6
       by_cases c7 : (rdOf ByteArray.empty l0 x5_1).toList = (rdOf ByteArray.empty l1 x5_1).toList
       ·rw [if_pos c7] at H
        have c7b0 : ((rdOf ByteArray.empty l0 x5_1).toList == (rdOf ByteArray.empty l1 x5_1).toList) = true := beq_iff_eq.mpr c7
        have c7b1 : ((rdOf ByteArray.empty l0 x5_1).toList != (rdOf ByteArray.empty l1 x5_1).toList) = false := bne_eq_false_iff_eq.mpr c7
        clear c7
        have H' := Aside0.mk H
        clear H
        have p156 : 0 ≤ (x5_1 : Int) := oZ
        have q156 : x5_1 < (l0.length : Int) := oZ
        obtain ⟨ad156, e156, hx156_0⟩ := Kd.at_string HR0.out x5_1 p156 q156
        cases e156
        replace p156 := eq_true p156
        replace q156 := eq_true q156
        have p157 : 0 ≤ (x5_1 : Int) := oZ
        have q157 : x5_1 < (l1.length : Int) := oZ
        obtain ⟨ad157, e157, hx157_0⟩ := Kd.at_string HR1.out x5_1 p157 q157
        cases e157
        replace p157 := eq_true p157
        replace q157 := eq_true q157
        go_wp2
        repeat (go_quiet (fail); try go_wp2)
        go_roundg k1
        case measure => have := HK1.out; omega
        case rel => exact ⟨(wrap64 (x5_1 + 1)), sZ, H', ⟨by have := HK1.out; omega⟩, dZ⟩
       ·rw [if_neg c7] at H
        have c7b0 : ((rdOf ByteArray.empty l0 x5_1).toList == (rdOf ByteArray.empty l1 x5_1).toList) = false := beq_eq_false_iff_ne.mpr c7
        have c7b1 : ((rdOf ByteArray.empty l0 x5_1).toList != (rdOf ByteArray.empty l1 x5_1).toList) = true := bne_iff_ne.mpr c7
        obtain rfl := Option.some.inj H
        have p156 : 0 ≤ (x5_1 : Int) := oZ
        have q156 : x5_1 < (l0.length : Int) := oZ
        obtain ⟨ad156, e156, hx156_0⟩ := Kd.at_string HR0.out x5_1 p156 q156
        cases e156
        replace p156 := eq_true p156
        replace q156 := eq_true q156
        have p157 : 0 ≤ (x5_1 : Int) := oZ
        have q157 : x5_1 < (l1.length : Int) := oZ
        obtain ⟨ad157, e157, hx157_0⟩ := Kd.at_string HR1.out x5_1 p157 q157
        cases e157
        replace p157 := eq_true p157
        replace q157 := eq_true q157
        go_wp2
        repeat (go_quiet (fail); try go_wp2)
        go_ret
        exact ⟨sZ, dZ⟩
      ·rw [if_neg c6] at H
       exact absurd H (by simp)
     ·rw [if_neg c5] at H
      exact absurd H (by simp)
    ·rw [if_neg c4] at H
     have c4b0 : decide (x5_1 < (l0.length : Int)) = false := decide_eq_false c4
     clear c4
     obtain rfl := Option.some.inj H
     go_wp2
     repeat (go_quiet (fail); try go_wp2)
     go_ret
     exact ⟨sZ, dZ⟩
 ·rw [if_neg c3] at H
  have c3b0 : ((l0.length : Int) == (l1.length : Int)) = false := beq_eq_false_iff_ne.mpr c3
  have c3b1 : ((l0.length : Int) != (l1.length : Int)) = true := bne_iff_ne.mpr c3
  have c3b2 : (l0.length == l1.length) = false := by first | simpa using c3 | (simp at c3 ⊢; omega)
  obtain rfl := Option.some.inj H
  go_enter Try.func8, Try.ntmps8
  go_wp2
  repeat (go_quiet (fail); try go_wp2)
  go_ret
  exact ⟨sZ, dZ⟩
end Go.Proofs.Ytibfmfmekhocdaa.XL
end

section
namespace Go.Proofs.Ytibfmfmekhocdaa.XL
open Go.RowKit Go.Proofs.YtibfmfmekhocdaaW.PrintWords Go.Proofs.YtibfmfmekhocdaaW.PrintLast Go.Proofs.YtibfmfmekhocdaaW.PrintMore
attribute [local go_sem] run_eql_slice_nil binOp_string_gtr' binOp_string_leq' binOp_string_geq' max2_int min2_int max_two min_two max_three min_three max_four min_four   -- for this text's walks alone
set_option linter.unusedVariables false
set_option linter.unusedSimpArgs false
def laws_eqInt64S.l0 : Nat → List Int → List Int → Int → Option (Bool)
 | 0, _, _, _ => none
 | k + 1, x0, x1, x5 => if x5 < (x0.length : Int) then (if 0 ≤ x5 then (if x5 < (x1.length : Int) then (if (rd x0 x5) = (rd x1 x5) then (laws_eqInt64S.l0 k x0 x1 (wrap64 (x5 + 1))) else (some false)) else (none)) else (none)) else (some true)
def laws_eqInt64S.f (k : Nat) (l0 : List Int) (l1 : List Int) : Option (Bool) := if (l0.length : Int) = (l1.length : Int) then (laws_eqInt64S.l0 k l0 l1 0) else (some false)
set_option maxHeartbeats 8000000 in
set_option maxRecDepth 100000 in
theorem laws_eqInt64S.calls (k : Nat) (A0 : Option Addr) (c0 : Nat) (l0 : List Int) (A1 : Option Addr) (c1 : Nat) (l1 : List Int) (r : Bool) (w : World) (hr0 : Kd.C (Kd.int .i64) w A0 l0.length l0) (hc0 : l0.length ≤ c0) (hr1 : Kd.C (Kd.int .i64) w A1 l1.length l1) (hc1 : l1.length ≤ c1) (h : laws_eqInt64S.f k l0 l1 = some r) :
  Calls Try.prog 9 #[.slice A0 l0.length c0, .slice A1 l1.length c1] w fun e w' => e = .returned (.bool r) ∧ Drawn0 w w' := by
 have HR0 := Aside0.mk hr0
 have HC0 := Aside0.mk hc0
 clear hr0 hc0
 have HR1 := Aside0.mk hr1
 have HC1 := Aside0.mk hc1
 clear hr1 hc1
 have H : (if (l0.length : Int) = (l1.length : Int) then (laws_eqInt64S.l0 k l0 l1 0) else (some false)) = some r := h
 clear h
 by_cases c3 : (l0.length : Int) = (l1.length : Int)
 ·rw [if_pos c3] at H
  have c3b0 : ((l0.length : Int) == (l1.length : Int)) = true := beq_iff_eq.mpr c3
  have c3b1 : ((l0.length : Int) != (l1.length : Int)) = false := bne_eq_false_iff_eq.mpr c3
  have c3b2 : (l0.length == l1.length) = true := by first | simpa using c3 | (simp at c3 ⊢; omega)
  clear c3
  have H' := Aside0.mk H
  clear H
  go_enter Try.func9, Try.ntmps9
  go_wp2
  repeat (go_quiet (fail); try go_wp2)
  go_loopg [5] k (fun kq v5 w' => ∃ (x5_1 : Int), v5 = .int .i64 x5_1 ∧ Aside0 (laws_eqInt64S.l0 kq l0 l1 x5_1 = some r) ∧ Aside0 (kq ≤ k) ∧ Drawn0 w w')
  case atStart => exact ⟨(0), sZ, H', ⟨Nat.le_refl _⟩, dZ⟩
  case round =>
   clear H'; (try clear c1); (try clear p2); (try clear c3); (try clear c3b0); (try clear c3b1); (try clear c3b2)
   obtain ⟨x5_1, rfl, HA, HK1, ⟨m1, rfl⟩⟩ := hrel
   cases gk with
   | zero => exact absurd HA.out (by simp [laws_eqInt64S.l0])
   | succ k1 =>
    have H := HA.out
    clear HA
    simp only [laws_eqInt64S.l0] at H
    by_cases c4 : x5_1 < (l0.length : Int)
    ·rw [if_pos c4] at H
     have c4b0 : decide (x5_1 < (l0.length : Int)) = true := decide_eq_true c4
     clear c4
     by_cases c5 : 0 ≤ x5_1
     ·rw [if_pos c5] at H
      have c5b0 : decide (0 ≤ x5_1) = true := decide_eq_true c5
      clear c5
      by_cases c6 : x5_1 < (l1.length : Int)
      ·rw [if_pos c6] at H
       have c6b0 : decide (x5_1 < (l1.length : Int)) = true := decide_eq_true c6
       clear c6
       by_cases c7 : (rd l0 x5_1) = (rd l1 x5_1)
       ·rw [if_pos c7] at H
        have c7b0 : ((rd l0 x5_1) == (rd l1 x5_1)) = true := beq_iff_eq.mpr c7
        have c7b1 : ((rd l0 x5_1) != (rd l1 x5_1)) = false := bne_eq_false_iff_eq.mpr c7
        clear c7
        have H' := Aside0.mk H
        clear H
        have p158 : 0 ≤ (x5_1 : Int) := oZ
        have q158 : x5_1 < (l0.length : Int) := oZ
        obtain ⟨ad158, e158, hx158_0⟩ := Kd.at_int HR0.out x5_1 p158 q158
        cases e158
        replace p158 := eq_true p158
        replace q158 := eq_true q158
        have p159 : 0 ≤ (x5_1 : Int) := oZ
        have q159 : x5_1 < (l1.length : Int) := oZ
        obtain ⟨ad159, e159, hx159_0⟩ := Kd.at_int HR1.out x5_1 p159 q159
        cases e159
        replace p159 := eq_true p159
        replace q159 := eq_true q159
        go_wp2
        repeat (go_quiet (fail); try go_wp2)
        go_roundg k1
        case measure => have := HK1.out; omega
        case rel => exact ⟨(wrap64 (x5_1 + 1)), sZ, H', ⟨by have := HK1.out; omega⟩, dZ⟩
       ·rw [if_neg c7] at H
        have c7b0 : ((rd l0 x5_1) == (rd l1 x5_1)) = false := beq_eq_false_iff_ne.mpr c7
        have c7b1 : ((rd l0 x5_1) != (rd l1 x5_1)) = true := bne_iff_ne.mpr c7
        obtain rfl := Option.some.inj H
        have p158 : 0 ≤ (x5_1 : Int) := oZ
        have q158 : x5_1 < (l0.length : Int) := oZ
        obtain ⟨ad158, e158, hx158_0⟩ := Kd.at_int HR0.out x5_1 p158 q158
        cases e158
        replace p158 := eq_true p158
        replace q158 := eq_true q158
        have p159 : 0 ≤ (x5_1 : Int) := oZ
        have q159 : x5_1 < (l1.length : Int) := oZ
        obtain ⟨ad159, e159, hx159_0⟩ := Kd.at_int HR1.out x5_1 p159 q159
        cases e159
        replace p159 := eq_true p159
        replace q159 := eq_true q159
        go_wp2
        repeat (go_quiet (fail); try go_wp2)
        go_ret
        exact ⟨sZ, dZ⟩
      ·rw [if_neg c6] at H
       exact absurd H (by simp)
     ·rw [if_neg c5] at H
      exact absurd H (by simp)
    ·rw [if_neg c4] at H
     have c4b0 : decide (x5_1 < (l0.length : Int)) = false := decide_eq_false c4
     clear c4
     obtain rfl := Option.some.inj H
     go_wp2
     repeat (go_quiet (fail); try go_wp2)
     go_ret
     exact ⟨sZ, dZ⟩
 ·rw [if_neg c3] at H
  have c3b0 : ((l0.length : Int) == (l1.length : Int)) = false := beq_eq_false_iff_ne.mpr c3
  have c3b1 : ((l0.length : Int) != (l1.length : Int)) = true := bne_iff_ne.mpr c3
  have c3b2 : (l0.length == l1.length) = false := by first | simpa using c3 | (simp at c3 ⊢; omega)
  obtain rfl := Option.some.inj H
  go_enter Try.func9, Try.ntmps9
  go_wp2
  repeat (go_quiet (fail); try go_wp2)
  go_ret
  exact ⟨sZ, dZ⟩
end Go.Proofs.Ytibfmfmekhocdaa.XL
end

section
namespace Go.Proofs.Ytibfmfmekhocdaa.XL
open Go.RowKit Go.Proofs.YtibfmfmekhocdaaW.PrintWords Go.Proofs.YtibfmfmekhocdaaW.PrintLast Go.Proofs.YtibfmfmekhocdaaW.PrintMore
attribute [local go_sem] run_eql_slice_nil binOp_string_gtr' binOp_string_leq' binOp_string_geq' max2_int min2_int max_two min_two max_three min_three max_four min_four   -- for this text's walks alone
set_option linter.unusedVariables false
set_option linter.unusedSimpArgs false
def laws_markText.l0 : Nat → Int → ByteArray → Option (ByteArray)
 | 0, _, _ => none
 | k + 1, x0, x3 => if x0 > 0 then ((some (([(wrap64 (48 + (Int.tmod x0 10))) % 256] : List Int) : List Int)).bind fun y160 => (if (strOfNums y160).size + x3.size ≤ 9223372036854775807 then (laws_markText.l0 k (wrap64 (Int.tdiv x0 10)) ((strOfNums y160) ++ x3)) else (none))) else (if 1 + x3.size ≤ 9223372036854775807 then (some ((⟨#[109]⟩ : ByteArray) ++ x3)) else (none))
def laws_markText.f (k : Nat) (a0 : Int) : Option (ByteArray) := if a0 ≤ 0 then (some (⟨#[109, 48]⟩ : ByteArray)) else (laws_markText.l0 k a0 (⟨#[]⟩ : ByteArray))
set_option maxHeartbeats 8000000 in
set_option maxRecDepth 100000 in
theorem laws_markText.calls (k : Nat) (a0 : Int) (r : ByteArray) (w : World) (h : laws_markText.f k a0 = some r) :
  Calls Try.prog 19 #[.int .i64 a0] w fun e w' => e = .returned (.string r) ∧ Below w.heap.size w w' := by
 have HB := Aside0.mk (Below.refl w.heap.size w)
 have H : (if a0 ≤ 0 then (some (⟨#[109, 48]⟩ : ByteArray)) else (laws_markText.l0 k a0 (⟨#[]⟩ : ByteArray))) = some r := h
 clear h
 by_cases c2 : a0 ≤ 0
 ·rw [if_pos c2] at H
  have c2b0 : decide (a0 ≤ 0) = true := decide_eq_true c2
  clear c2
  obtain rfl := Option.some.inj H
  go_enter Try.func19, Try.ntmps19
  go_wp2
  go_ret
  exact ⟨eZ, bZ⟩
 ·rw [if_neg c2] at H
  have c2b0 : decide (a0 ≤ 0) = false := decide_eq_false c2
  clear c2
  have H' := Aside0.mk H
  clear H
  go_enter Try.func19, Try.ntmps19
  go_wp2
  go_loopg [0, 3] k (fun kq v0 v3 w' => ∃ (x0_1 : Int) (x3_1 : ByteArray), v0 = .int .i64 x0_1 ∧ v3 = .string x3_1 ∧ Aside0 (laws_markText.l0 kq x0_1 x3_1 = some r) ∧ Aside0 (kq ≤ k) ∧ Aside0 (Below w.heap.size w w'))
  case atStart => exact ⟨(a0), ((⟨#[]⟩ : ByteArray)), sZ, sZ, H', ⟨Nat.le_refl _⟩, ⟨bZ⟩⟩
  case round =>
   clear H'; (try clear c1); (try clear c2); (try clear c2b0); (try clear p2)
   obtain ⟨x0_1, x3_1, rfl, rfl, HA, HK1, HB⟩ := hrel
   cases gk with
   | zero => exact absurd HA.out (by simp [laws_markText.l0])
   | succ k1 =>
    have H := HA.out
    clear HA
    simp only [laws_markText.l0] at H
    by_cases c3 : x0_1 > 0
    ·rw [if_pos c3] at H
     have c3b0 : decide (0 < x0_1) = true := decide_eq_true c3
     clear c3
     obtain ⟨y160, hy160⟩ : ∃ y_ : List Int, y_ = (([(wrap64 (48 + (Int.tmod x0_1 10))) % 256] : List Int)) := ⟨_, rfl⟩
     replace H : (if (strOfNums y160).size + x3_1.size ≤ 9223372036854775807 then (laws_markText.l0 k1 (wrap64 (Int.tdiv x0_1 10)) ((strOfNums y160) ++ x3_1)) else (none)) = some r := by first | (rw [hy160]; with_reducible exact H) | (have H2_ := (Option.bind_some _ _).symm.trans H; rw [hy160]; with_reducible exact H2_) | (have H2_ := (Option.bind_some _ _).symm.trans H; with_reducible exact H2_) | with_reducible exact H | (rw [hy160]; exact H) | exact H
     have Ny160 := Aside0.mk hy160
     clear hy160
     by_cases c4 : (strOfNums y160).size + x3_1.size ≤ 9223372036854775807
     ·rw [if_pos c4] at H
      have c4b0 := eq_true c4
      have c4b1 : decide ((strOfNums y160).size + x3_1.size ≤ 9223372036854775807) = true := decide_eq_true c4
      try have c4b2 : (9223372036854775807 < (strOfNums y160).size + x3_1.size) = False := eq_false (Nat.not_lt.2 c4)
      have H' := Aside0.mk H
      clear H
      go_wp2_with (first | ((with_reducible refine gate_dst (N := 12) rfl ?_); refine Kd.R_lit (Kd.int .u8) _ 5 ?hg (N := 12) ?hd (xs := ([(wrap64 (48 + (Int.tmod x0_1 10))) % 256] : List Int)) (inner := [.int .u8 ((wrap64 (48 + (Int.tmod x0_1 10))) % 256)]) (ok := fun _ => True) (okp := fun _ => True) ?hr ?hp (fun _ hk => hk) trivial (Below.refl _ _) (Nat.le_refl _) (by simp) ?_; (case hd => rfl); (case hg => rfl); (case hr => first | (go_simp; done) | (go_simp; rfl)); (case hp => exact (Reps.one (show Kd.M (Kd.int .u8) _ _ _ ((wrap64 (48 + (Int.tmod x0_1 10))) % 256) [.int .u8 ((wrap64 (48 + (Int.tmod x0_1 10))) % 256)] from rfl) (Reps.none _ _))); intro v161 w5 ho6 hb hg_ hnew_; clear hg_ hnew_; (first | rw [← Ny160.out] at ho6 | (simp only [Int.reduceToNat] at ho6; rw [← Ny160.out] at ho6)); have n0_ := Aside0.mk (Kd.R_lower ho6 bsZ); have n1_ := Aside0.mk (below_step bZ hb); clear HB; have HO162 := n0_; have HB := n1_; clear n0_ n1_; clear hb ho6; have hcv7 := own_string (P := Try.prog) Try.underlying40 Try.underlying5 Try.underlying9 (Kd.own_of_R HO162.out)))
      go_roundg k1
      case measure => have := HK1.out; omega
      case rel => exact ⟨(wrap64 (Int.tdiv x0_1 10)), ((strOfNums y160) ++ x3_1), sZ, sZ, H', ⟨by have := HK1.out; omega⟩, ⟨bZ⟩⟩
     ·rw [if_neg c4] at H
      exact absurd H (by simp)
    ·rw [if_neg c3] at H
     have c3b0 : decide (0 < x0_1) = false := decide_eq_false c3
     clear c3
     by_cases c8 : 1 + x3_1.size ≤ 9223372036854775807
     ·rw [if_pos c8] at H
      have c8b0 := eq_true c8
      have c8b1 : decide (1 + x3_1.size ≤ 9223372036854775807) = true := decide_eq_true c8
      try have c8b2 : (9223372036854775807 < 1 + x3_1.size) = False := eq_false (Nat.not_lt.2 c8)
      obtain rfl := Option.some.inj H
      go_wp2
      go_ret
      exact ⟨eZ, bZ⟩
     ·rw [if_neg c8] at H
      exact absurd H (by simp)
def laws_markStringS.l0 : Nat → List ByteArray → Int → Int → Option (Int × List ByteArray)
 | 0, _, _, _ => none
 | k + 1, x0, x1, x5 => if x5 < (x0.length : Int) then ((laws_markText.f k x1).bind fun t163 => (if 0 ≤ x5 then (laws_markStringS.l0 k (x0.set (x5 : Int).toNat t163) (wrap64 (x1 + 1)) (wrap64 (x5 + 1))) else (none))) else (some (x1, x0))
def laws_markStringS.f (k : Nat) (l0 : List ByteArray) (a1 : Int) : Option (Int × List ByteArray) := laws_markStringS.l0 k l0 a1 0
set_option maxHeartbeats 8000000 in
set_option maxRecDepth 100000 in
theorem laws_markStringS.calls (k : Nat) (P0_ : Nat → Prop) (u9000_ : Value) (l0 : List ByteArray) (a1 : Int) (r1 : Int) (r2 : List ByteArray) (w0 w : World) (hB : Below w0.heap.size w0 w) (ho0 : Kd.R Kd.string 9 w w0.heap.size P0_ u9000_ l0) (h : laws_markStringS.f k l0 a1 = some (r1, r2)) :
  Calls Try.prog 10 #[u9000_, .int .i64 a1] w fun e w' => e = .returned (.int .i64 r1) ∧ Kd.R Kd.string 9 w' w0.heap.size (fun k_ => (P0_ k_ ∨ w.heap.size ≤ k_)) u9000_ r2 ∧ Below w0.heap.size w0 w' ∧ Kept w w' (fun k_ => P0_ k_) := by
 have HO0 := Aside0.mk (show Kd.R Kd.string 9 w w0.heap.size (fun k_ => (P0_ k_ ∨ w.heap.size ≤ k_)) u9000_ l0 from Kd.R_mono ho0 (fun k_ hk => (.inl hk)))
 have HK := Aside0.mk (Kept.refl w (fun k_ => P0_ k_))
 have HW0 := Aside0.mk hB.size
 have HB := Aside0.mk hB
 clear hB
 have H : (laws_markStringS.l0 k l0 a1 0) = some (r1, r2) := h
 clear h
 have H' := Aside0.mk H
 clear H
 go_enter Try.func10, Try.ntmps10
 go_wp2
 go_loopg [1, 5] k (fun kq v1 v5 w' => ∃ (x0_1 : List ByteArray) (x1_1 : Int) (x5_1 : Int), v1 = .int .i64 x1_1 ∧ v5 = .int .i64 x5_1 ∧ Aside0 (laws_markStringS.l0 kq x0_1 x1_1 x5_1 = some (r1, r2)) ∧ Aside0 (kq ≤ k) ∧ Aside0 (Kd.R Kd.string 9 w' w0.heap.size (fun k_ => (P0_ k_ ∨ w.heap.size ≤ k_)) u9000_ x0_1) ∧ Aside0 (Kept w w' (fun k_ => P0_ k_)) ∧ Aside0 (Below w0.heap.size w0 w'))
 case atStart => exact ⟨(l0), (a1), (0), sZ, sZ, H', ⟨Nat.le_refl _⟩, ⟨Kd.rZ HO0.out⟩, ⟨by repeat (first | (with_reducible first | exact HK.out | apply Kept.alloc | apply Kept.drewN | apply Kept.drew) | exact HK.out)⟩, ⟨bZ⟩⟩
 case round =>
  clear H'; (try clear c1); (try clear p2)
  obtain ⟨x0_1, x1_1, x5_1, rfl, rfl, HA, HK1, HO_0, HK, HB⟩ := hrel
  cases gk with
  | zero => exact absurd HA.out (by simp [laws_markStringS.l0])
  | succ k1 =>
   have H := HA.out
   clear HA
   simp only [laws_markStringS.l0] at H
   by_cases c3 : x5_1 < (x0_1.length : Int)
   ·rw [if_pos c3] at H
    have c3b0 : decide (x5_1 < (x0_1.length : Int)) = true := decide_eq_true c3
    clear c3
    replace H := Option.bind_eq_some_iff.mp H
    obtain ⟨t163, A40, H⟩ := H
    replace H : (if 0 ≤ x5_1 then (laws_markStringS.l0 k1 (x0_1.set (x5_1 : Int).toNat t163) (wrap64 (x1_1 + 1)) (wrap64 (x5_1 + 1))) else (none)) = some (r1, r2) := H
    have A4 := Aside0.mk A40
    clear A40
    by_cases c5 : 0 ≤ x5_1
    ·rw [if_pos c5] at H
     have c5b0 : decide (0 ≤ x5_1) = true := decide_eq_true c5
     clear c5
     obtain ⟨y164, hy164⟩ : ∃ y_ : List ByteArray, y_ = (x0_1.set (x5_1 : Int).toNat t163) := ⟨_, rfl⟩
     replace H : (laws_markStringS.l0 k1 y164 (wrap64 (x1_1 + 1)) (wrap64 (x5_1 + 1))) = some (r1, r2) := by first | (rw [hy164]; with_reducible exact H) | (have H2_ := (Option.bind_some _ _).symm.trans H; rw [hy164]; with_reducible exact H2_) | (have H2_ := (Option.bind_some _ _).symm.trans H; with_reducible exact H2_) | with_reducible exact H | (rw [hy164]; exact H) | exact H
     have Ny164 := Aside0.mk hy164
     clear hy164
     have H' := Aside0.mk H
     clear H
     obtain ⟨Ao7, co7, eo7⟩ := Kd.R_slice HO_0.out
     subst eo7
     go_wp2_with (first | ((with_reducible refine gate_callee (f := 19) rfl ?_); refine goesL_ (some 15) rfl rfl Try.func19 (by kernel_rfl) rfl #[.int .i64 x1_1] rfl gZ ?_; (with_reducible refine (laws_markText.calls k1 x1_1 t163 _ A4.out).mono ?_); rintro e w8 ⟨rfl, hb⟩; refine ⟨_, rfl, ?_⟩; have n0_ := Aside0.mk (Kd.R_below (Kd.rZ HO_0.out) hb); have n1_ := Aside0.mk (Kept.below (S := (fun k_ => P0_ k_)) (by repeat (first | (with_reducible first | exact HK.out | apply Kept.alloc | apply Kept.drewN | apply Kept.drew) | exact HK.out)) hb); have n2_ := Aside0.mk (below_step bZ hb); clear HO_0; clear HK; clear HB; have HO_0 := n0_; have HK := n1_; have HB := n2_; clear n0_ n1_ n2_; (try clear hb); (try clear hb2); (try clear hk); (try clear hi); have p6 : 0 ≤ (x5_1 : Int) := oZ; have q6 : (x5_1 : Int) < ((x0_1.length : Int) : Int) := oZ; obtain ⟨go6, co6, eo6, gb6, gl6, cl6, HG6⟩ := Kd.R_form HO_0.out (by omega); (first | cases eo6 | (injection eo6 with ea_ en_ ec_; (first | subst ea_ | (injection ea_ with ea_; subst ea_)); subst ec_; clear en_)); have GB6 := Aside0.mk gb6; have GG6 := Aside0.mk HG6; clear gb6 gl6 HG6; have HMgo6 := Aside0.mk (show (P0_ go6 ∨ w.heap.size ≤ go6) from (HO_0.out.1 _ rfl)); obtain ⟨hx6_0, hf6_0⟩ := Kd.R_celln (⟨#[]⟩ : ByteArray) HO_0.out (x5_1 : Int) p6 q6; replace p6 := eq_true p6; replace q6 := eq_true q6; obtain ⟨hy9_, hz9_⟩ := Kd.R_celln (⟨#[]⟩ : ByteArray) HO_0.out (x5_1 : Int) oZ oZ; have HP9 := Kd.R_putg HO_0.out (x5_1 : Int) t163) | ((with_reducible refine gate_store (t := 9) (p := 16) rfl ?_); refine store_event (t := 9) (p := 16) (v := ?vo_w10) (w1 := (w8.setCell ⟨go6, (x5_1 : Int).toNat, none⟩ (.string t163))) ?hg ?ho ?hn ?hr ?_; (case ho => rfl); (case hg => rfl); (case hn => rfl); (case hr => first | (go_simp; done) | (go_simp; rfl)); intro w10 hw; have hg : w8.grownBy w10 (some go6) := (by rw [hw]; exact HP9.2); have hp_ : Kd.R Kd.string 9 w10 w0.heap.size (fun k_ => (P0_ k_ ∨ w.heap.size ≤ k_)) (.slice (some ⟨go6, 0, none⟩) x0_1.length co7) y164 := (by rw [hw, Ny164.out]; exact HP9.1); clear HP9; have n0_ := Aside0.mk (hp_); have n1_ := Aside0.mk ((by rw [hw]; exact below_set (HB.out) GB6.out : Below w0.heap.size w0 w10)); have n2_ := Aside0.mk (Kept.of_grown (S := (fun k_ => P0_ k_)) hg (by repeat (first | (with_reducible first | exact HK.out | apply Kept.alloc | apply Kept.drewN | apply Kept.drew) | exact HK.out)) (fun k_ e_ => (HO_0.out.1 k_ e_))); clear HO_0; clear HB; clear HK; have HO_0 := n0_; have HB := n1_; have HK := n2_; clear n0_ n1_ n2_; clear hg hw hp_))
     go_roundg k1
     case measure => have := HK1.out; omega
     case rel => exact ⟨(y164), (wrap64 (x1_1 + 1)), (wrap64 (x5_1 + 1)), sZ, sZ, H', ⟨by have := HK1.out; omega⟩, ⟨Kd.rZ HO_0.out⟩, ⟨by repeat (first | (with_reducible first | exact HK.out | apply Kept.alloc | apply Kept.drewN | apply Kept.drew) | exact HK.out)⟩, ⟨bZ⟩⟩
    ·rw [if_neg c5] at H
     exact absurd H (by simp)
   ·rw [if_neg c3] at H
    have c3b0 : decide (x5_1 < (x0_1.length : Int)) = false := decide_eq_false c3
    clear c3
    simp only [Option.some.injEq, Prod.mk.injEq] at H
    obtain ⟨rfl, rfl⟩ := H
    obtain ⟨Ao11, co11, eo11⟩ := Kd.R_slice HO_0.out
    subst eo11
    go_wp2
    go_ret
    exact ⟨eZ, Kd.rZ HO_0.out, bZ, by repeat (first | (with_reducible first | exact HK.out | apply Kept.alloc | apply Kept.drewN | apply Kept.drew) | exact HK.out)⟩
end Go.Proofs.Ytibfmfmekhocdaa.XL
end

section
namespace Go.Proofs.Ytibfmfmekhocdaa.XL
open Go.RowKit Go.Proofs.YtibfmfmekhocdaaW.PrintWords Go.Proofs.YtibfmfmekhocdaaW.PrintLast Go.Proofs.YtibfmfmekhocdaaW.PrintMore
attribute [local go_sem] run_eql_slice_nil binOp_string_gtr' binOp_string_leq' binOp_string_geq' max2_int min2_int max_two min_two max_three min_three max_four min_four   -- for this text's walks alone
set_option linter.unusedVariables false
set_option linter.unusedSimpArgs false
def laws_markInt64S.l0 : Nat → List Int → Int → Int → Option (Int × List Int)
 | 0, _, _, _ => none
 | k + 1, x0, x1, x5 => if x5 < (x0.length : Int) then (if 0 ≤ x5 then (laws_markInt64S.l0 k (x0.set (x5 : Int).toNat x1) (wrap64 (x1 + 1)) (wrap64 (x5 + 1))) else (none)) else (some (x1, x0))
def laws_markInt64S.f (k : Nat) (l0 : List Int) (a1 : Int) : Option (Int × List Int) := laws_markInt64S.l0 k l0 a1 0
set_option maxHeartbeats 8000000 in
set_option maxRecDepth 100000 in
theorem laws_markInt64S.calls (k : Nat) (P0_ : Nat → Prop) (u9000_ : Value) (l0 : List Int) (a1 : Int) (r1 : Int) (r2 : List Int) (w0 w : World) (hB : Below w0.heap.size w0 w) (ho0 : Kd.R (Kd.int .i64) 2 w w0.heap.size P0_ u9000_ l0) (h : laws_markInt64S.f k l0 a1 = some (r1, r2)) :
  Calls Try.prog 11 #[u9000_, .int .i64 a1] w fun e w' => e = .returned (.int .i64 r1) ∧ Kd.R (Kd.int .i64) 2 w' w0.heap.size (fun k_ => (P0_ k_ ∨ w.heap.size ≤ k_)) u9000_ r2 ∧ Below w0.heap.size w0 w' ∧ Kept w w' (fun k_ => P0_ k_) := by
 have HO0 := Aside0.mk (show Kd.R (Kd.int .i64) 2 w w0.heap.size (fun k_ => (P0_ k_ ∨ w.heap.size ≤ k_)) u9000_ l0 from Kd.R_mono ho0 (fun k_ hk => (.inl hk)))
 have HK := Aside0.mk (Kept.refl w (fun k_ => P0_ k_))
 have HW0 := Aside0.mk hB.size
 have HB := Aside0.mk hB
 clear hB
 have H : (laws_markInt64S.l0 k l0 a1 0) = some (r1, r2) := h
 clear h
 have H' := Aside0.mk H
 clear H
 go_enter Try.func11, Try.ntmps11
 go_wp2
 go_loopg [1, 5] k (fun kq v1 v5 w' => ∃ (x0_1 : List Int) (x1_1 : Int) (x5_1 : Int), v1 = .int .i64 x1_1 ∧ v5 = .int .i64 x5_1 ∧ Aside0 (laws_markInt64S.l0 kq x0_1 x1_1 x5_1 = some (r1, r2)) ∧ Aside0 (kq ≤ k) ∧ Aside0 (Kd.R (Kd.int .i64) 2 w' w0.heap.size (fun k_ => (P0_ k_ ∨ w.heap.size ≤ k_)) u9000_ x0_1) ∧ Aside0 (Kept w w' (fun k_ => P0_ k_)) ∧ Aside0 (Below w0.heap.size w0 w'))
 case atStart => exact ⟨(l0), (a1), (0), sZ, sZ, H', ⟨Nat.le_refl _⟩, ⟨Kd.rZ HO0.out⟩, ⟨by repeat (first | (with_reducible first | exact HK.out | apply Kept.alloc | apply Kept.drewN | apply Kept.drew) | exact HK.out)⟩, ⟨bZ⟩⟩
 case round =>
  clear H'; (try clear c1); (try clear p2)
  obtain ⟨x0_1, x1_1, x5_1, rfl, rfl, HA, HK1, HO_0, HK, HB⟩ := hrel
  cases gk with
  | zero => exact absurd HA.out (by simp [laws_markInt64S.l0])
  | succ k1 =>
   have H := HA.out
   clear HA
   simp only [laws_markInt64S.l0] at H
   by_cases c3 : x5_1 < (x0_1.length : Int)
   ·rw [if_pos c3] at H
    have c3b0 : decide (x5_1 < (x0_1.length : Int)) = true := decide_eq_true c3
    clear c3
    by_cases c4 : 0 ≤ x5_1
    ·rw [if_pos c4] at H
     have c4b0 : decide (0 ≤ x5_1) = true := decide_eq_true c4
     clear c4
     obtain ⟨y165, hy165⟩ : ∃ y_ : List Int, y_ = (x0_1.set (x5_1 : Int).toNat x1_1) := ⟨_, rfl⟩
     replace H : (laws_markInt64S.l0 k1 y165 (wrap64 (x1_1 + 1)) (wrap64 (x5_1 + 1))) = some (r1, r2) := by first | (rw [hy165]; with_reducible exact H) | (have H2_ := (Option.bind_some _ _).symm.trans H; rw [hy165]; with_reducible exact H2_) | (have H2_ := (Option.bind_some _ _).symm.trans H; with_reducible exact H2_) | with_reducible exact H | (rw [hy165]; exact H) | exact H
     have Ny165 := Aside0.mk hy165
     clear hy165
     have H' := Aside0.mk H
     clear H
     obtain ⟨Ao6, co6, eo6⟩ := Kd.R_slice HO_0.out
     subst eo6
     have p5 : 0 ≤ (x5_1 : Int) := oZ
     have q5 : (x5_1 : Int) < ((x0_1.length : Int) : Int) := oZ
     obtain ⟨go5, co5, eo5, gb5, gl5, cl5, HG5⟩ := Kd.R_form HO_0.out (by omega)
     (first | cases eo5 | (injection eo5 with ea_ en_ ec_; (first | subst ea_ | (injection ea_ with ea_; subst ea_)); subst ec_; clear en_))
     have GB5 := Aside0.mk gb5
     have GG5 := Aside0.mk HG5
     clear gb5 gl5 HG5
     have HMgo5 := Aside0.mk (show (P0_ go5 ∨ w.heap.size ≤ go5) from (HO_0.out.1 _ rfl))
     obtain ⟨hx5_0, hf5_0⟩ := Kd.R_celln 0 HO_0.out (x5_1 : Int) p5 q5
     replace p5 := eq_true p5
     replace q5 := eq_true q5
     have HP7 := Kd.R_putg HO_0.out (x5_1 : Int) x1_1
     go_wp2_with (first | ((with_reducible refine gate_store (t := 2) (p := 15) rfl ?_); refine store_event (t := 2) (p := 15) (v := ?vo_w8) (w1 := (wr.setCell ⟨go5, (x5_1 : Int).toNat, none⟩ (.int .i64 x1_1))) ?hg ?ho ?hn ?hr ?_; (case ho => rfl); (case hg => rfl); (case hn => rfl); (case hr => first | (go_simp; done) | (go_simp; rfl)); intro w8 hw; have hg : wr.grownBy w8 (some go5) := (by rw [hw]; exact HP7.2); have hp_ : Kd.R (Kd.int .i64) 2 w8 w0.heap.size (fun k_ => (P0_ k_ ∨ w.heap.size ≤ k_)) (.slice (some ⟨go5, 0, none⟩) x0_1.length co6) y165 := (by rw [hw, Ny165.out]; exact HP7.1); clear HP7; have n0_ := Aside0.mk (hp_); have n1_ := Aside0.mk ((by rw [hw]; exact below_set (HB.out) GB5.out : Below w0.heap.size w0 w8)); have n2_ := Aside0.mk (Kept.of_grown (S := (fun k_ => P0_ k_)) hg (by repeat (first | (with_reducible first | exact HK.out | apply Kept.alloc | apply Kept.drewN | apply Kept.drew) | exact HK.out)) (fun k_ e_ => (HO_0.out.1 k_ e_))); clear HO_0; clear HB; clear HK; have HO_0 := n0_; have HB := n1_; have HK := n2_; clear n0_ n1_ n2_; clear hg hw hp_))
     go_roundg k1
     case measure => have := HK1.out; omega
     case rel => exact ⟨(y165), (wrap64 (x1_1 + 1)), (wrap64 (x5_1 + 1)), sZ, sZ, H', ⟨by have := HK1.out; omega⟩, ⟨Kd.rZ HO_0.out⟩, ⟨by repeat (first | (with_reducible first | exact HK.out | apply Kept.alloc | apply Kept.drewN | apply Kept.drew) | exact HK.out)⟩, ⟨bZ⟩⟩
    ·rw [if_neg c4] at H
     exact absurd H (by simp)
   ·rw [if_neg c3] at H
    have c3b0 : decide (x5_1 < (x0_1.length : Int)) = false := decide_eq_false c3
    clear c3
    simp only [Option.some.injEq, Prod.mk.injEq] at H
    obtain ⟨rfl, rfl⟩ := H
    obtain ⟨Ao9, co9, eo9⟩ := Kd.R_slice HO_0.out
    subst eo9
    go_wp2
    go_ret
    exact ⟨eZ, Kd.rZ HO_0.out, bZ, by repeat (first | (with_reducible first | exact HK.out | apply Kept.alloc | apply Kept.drewN | apply Kept.drew) | exact HK.out)⟩
end Go.Proofs.Ytibfmfmekhocdaa.XL
end

section
namespace Go.Proofs.Ytibfmfmekhocdaa.XL
open Go.RowKit Go.Proofs.YtibfmfmekhocdaaW.PrintWords Go.Proofs.YtibfmfmekhocdaaW.PrintLast Go.Proofs.YtibfmfmekhocdaaW.PrintMore
attribute [local go_sem] run_eql_slice_nil binOp_string_gtr' binOp_string_leq' binOp_string_geq' max2_int min2_int max_two min_two max_three min_three max_four min_four   -- for this text's walks alone
set_option linter.unusedVariables false
set_option linter.unusedSimpArgs false
def laws_heldStringS.l0 : Nat → List ByteArray → Int → Int → Option (Int)
 | 0, _, _, _ => none
 | k + 1, x0, x1, x5 => if x5 < (x0.length : Int) then (if 0 ≤ x5 then ((laws_markText.f k x1).bind fun t167 => (if (rdOf ByteArray.empty x0 x5).toList = t167.toList then (laws_heldStringS.l0 k x0 (wrap64 (x1 + 1)) (wrap64 (x5 + 1))) else (some (-1)))) else (none)) else (some x1)
def laws_heldStringS.f (k : Nat) (l0 : List ByteArray) (a1 : Int) : Option (Int) := laws_heldStringS.l0 k l0 a1 0
set_option maxHeartbeats 8000000 in
set_option maxRecDepth 100000 in
theorem laws_heldStringS.calls (k : Nat) (A0 : Option Addr) (c0 : Nat) (l0 : List ByteArray) (a1 : Int) (r : Int) (w : World) (hr0 : Kd.C Kd.string w A0 l0.length l0) (hc0 : l0.length ≤ c0) (h : laws_heldStringS.f k l0 a1 = some r) :
  Calls Try.prog 12 #[.slice A0 l0.length c0, .int .i64 a1] w fun e w' => e = .returned (.int .i64 r) ∧ Below w.heap.size w w' := by
 have HR0 := Aside0.mk hr0
 have HC0 := Aside0.mk hc0
 clear hr0 hc0
 have HB := Aside0.mk (Below.refl w.heap.size w)
 have H : (laws_heldStringS.l0 k l0 a1 0) = some r := h
 clear h
 have H' := Aside0.mk H
 clear H
 go_enter Try.func12, Try.ntmps12
 go_wp2
 go_loopg [1, 5] k (fun kq v1 v5 w' => ∃ (x1_1 : Int) (x5_1 : Int), v1 = .int .i64 x1_1 ∧ v5 = .int .i64 x5_1 ∧ Aside0 (laws_heldStringS.l0 kq l0 x1_1 x5_1 = some r) ∧ Aside0 (kq ≤ k) ∧ Aside0 (Below w.heap.size w w'))
 case atStart => exact ⟨(a1), (0), sZ, sZ, H', ⟨Nat.le_refl _⟩, ⟨bZ⟩⟩
 case round =>
  clear H'; (try clear c1); (try clear p2)
  obtain ⟨x1_1, x5_1, rfl, rfl, HA, HK1, HB⟩ := hrel
  cases gk with
  | zero => exact absurd HA.out (by simp [laws_heldStringS.l0])
  | succ k1 =>
   have H := HA.out
   clear HA
   simp only [laws_heldStringS.l0] at H
   by_cases c3 : x5_1 < (l0.length : Int)
   ·rw [if_pos c3] at H
    have c3b0 : decide (x5_1 < (l0.length : Int)) = true := decide_eq_true c3
    clear c3
    by_cases c4 : 0 ≤ x5_1
    ·rw [if_pos c4] at H
     have c4b0 : decide (0 ≤ x5_1) = true := decide_eq_true c4
     clear c4
     replace H := Option.bind_eq_some_iff.mp H
     obtain ⟨t167, A50, H⟩ := H
     replace H : (if (rdOf ByteArray.empty l0 x5_1).toList = t167.toList then (laws_heldStringS.l0 k1 l0 (wrap64 (x1_1 + 1)) (wrap64 (x5_1 + 1))) else (some (-1))) = some r := H
     have A5 := Aside0.mk A50
     clear A50
     by_cases c6 : (rdOf ByteArray.empty l0 x5_1).toList = t167.toList
     ·rw [if_pos c6] at H
      have c6b0 : ((rdOf ByteArray.empty l0 x5_1).toList == t167.toList) = true := beq_iff_eq.mpr c6
      have c6b1 : ((rdOf ByteArray.empty l0 x5_1).toList != t167.toList) = false := bne_eq_false_iff_eq.mpr c6
      clear c6
      have H' := Aside0.mk H
      clear H
      try go_wp2
      have n0_ := Aside0.mk (below_drew1 HB.out)
      clear HB
      have HB := n0_
      clear n0_
      have p166 : 0 ≤ (x5_1 : Int) := oZ
      have q166 : x5_1 < (l0.length : Int) := oZ
      obtain ⟨ad166, e166, hx166_0⟩ := Kd.at_string HR0.out x5_1 p166 q166
      have hw166_0 := hx166_0
      cases e166
      replace hx166_0 := (HB.out.cell (World.block_lt_of_cell? w _ hx166_0)).trans hx166_0
      replace p166 := eq_true p166
      replace q166 := eq_true q166
      refine start_ (n := 7) (S := fun w' => w'.cell? (ad166.add (x5_1).toNat) = some (.string (rdOf ByteArray.empty l0 x5_1))) (ds := []) #[false, false, false, false, false, false, false] (by kernel_rfl) rfl rfl (((HB.out.cell (World.block_lt_of_cell? w _ hw166_0)).trans hw166_0)) (fun hHeld => ?_)
      generalize wr.drew = w7 at HB hx166_0 hHeld ⊢
      refine puY 0 (some 12) #[true, false, false, false, false, false, false] rfl rfl ?_
      refine puY 1 (some 13) #[true, true, false, false, false, false, false] rfl rfl ?_
      refine puY 2 (some 14) #[true, true, true, false, false, false, false] rfl rfl ?_
      refine puY 4 (some 16) #[true, true, true, false, true, false, false] rfl rfl ?_
      refine take_ (i := 3) (N := some 15) (v := ?_) (a' := ?_) #[true, true, true, true, true, false, false] rfl rfl (by kernel_rfl) (fun _ _ _ h => h) (Or.inl ⟨by rfl, ?_⟩) hHeld ?_ ?_
      rotate_left
      ·intro w' s0
       go_simp
       with_reducible rfl
      rotate_left
      ·simp only [Act.put, List.setIfInBounds_toArray, List.set_cons_zero, List.set_cons_succ, i64_w, i32_w]
       rfl
      refine one_ (i := 5) (N := some 17) #[true, true, true, true, true, true, false] rfl rfl (by kernel_rfl) (by decide) (fun K hK => ?_)
      refine goes_ Try.func19 (by kernel_rfl) rfl #[.int .i64 x1_1] (by rfl) rfl rfl gZ ?_
      with_reducible refine (laws_markText.calls k1 x1_1 t167 _ A5.out).mono ?_
      rintro e w8 ⟨rfl, hb⟩
      refine ⟨_, rfl, ?_⟩
      have n0_ := Aside0.mk (below_step bZ hb)
      clear HB
      have HB := n0_
      clear n0_
      (try clear hb)
      (try clear hb2)
      (try clear hk)
      (try clear hi)
      refine hK.out _ _ (((HB.out.cell (World.block_lt_of_cell? w _ hw166_0)).trans hw166_0)) (fun hHeld => ?_)
      clear hK K
      refine norm_ (a' := ?_) ?_ ?_
      rotate_left
      ·show Act.put _ (some 17) _ = _
       simp only [Act.put, List.setIfInBounds_toArray, List.set_cons_zero, List.set_cons_succ, i64_w, i32_w]
       rfl
      refine puY 6 (some 18) #[true, true, true, true, true, true, true] rfl rfl ?_
      refine done_ (by kernel_rfl) ?_
      try go_wp2
      go_roundg k1
      case measure => have := HK1.out; omega
      case rel => exact ⟨(wrap64 (x1_1 + 1)), (wrap64 (x5_1 + 1)), sZ, sZ, H', ⟨by have := HK1.out; omega⟩, ⟨bZ⟩⟩
     ·rw [if_neg c6] at H
      have c6b0 : ((rdOf ByteArray.empty l0 x5_1).toList == t167.toList) = false := beq_eq_false_iff_ne.mpr c6
      have c6b1 : ((rdOf ByteArray.empty l0 x5_1).toList != t167.toList) = true := bne_iff_ne.mpr c6
      obtain rfl := Option.some.inj H
      try go_wp2
      have n0_ := Aside0.mk (below_drew1 HB.out)
      clear HB
      have HB := n0_
      clear n0_
      have p166 : 0 ≤ (x5_1 : Int) := oZ
      have q166 : x5_1 < (l0.length : Int) := oZ
      obtain ⟨ad166, e166, hx166_0⟩ := Kd.at_string HR0.out x5_1 p166 q166
      have hw166_0 := hx166_0
      cases e166
      replace hx166_0 := (HB.out.cell (World.block_lt_of_cell? w _ hx166_0)).trans hx166_0
      replace p166 := eq_true p166
      replace q166 := eq_true q166
      refine start_ (n := 7) (S := fun w' => w'.cell? (ad166.add (x5_1).toNat) = some (.string (rdOf ByteArray.empty l0 x5_1))) (ds := []) #[false, false, false, false, false, false, false] (by kernel_rfl) rfl rfl (((HB.out.cell (World.block_lt_of_cell? w _ hw166_0)).trans hw166_0)) (fun hHeld => ?_)
      generalize wr.drew = w9 at HB hx166_0 hHeld ⊢
      refine puY 0 (some 12) #[true, false, false, false, false, false, false] rfl rfl ?_
      refine puY 1 (some 13) #[true, true, false, false, false, false, false] rfl rfl ?_
      refine puY 2 (some 14) #[true, true, true, false, false, false, false] rfl rfl ?_
      refine puY 4 (some 16) #[true, true, true, false, true, false, false] rfl rfl ?_
      refine take_ (i := 3) (N := some 15) (v := ?_) (a' := ?_) #[true, true, true, true, true, false, false] rfl rfl (by kernel_rfl) (fun _ _ _ h => h) (Or.inl ⟨by rfl, ?_⟩) hHeld ?_ ?_
      rotate_left
      ·intro w' s0
       go_simp
       with_reducible rfl
      rotate_left
      ·simp only [Act.put, List.setIfInBounds_toArray, List.set_cons_zero, List.set_cons_succ, i64_w, i32_w]
       rfl
      refine one_ (i := 5) (N := some 17) #[true, true, true, true, true, true, false] rfl rfl (by kernel_rfl) (by decide) (fun K hK => ?_)
      refine goes_ Try.func19 (by kernel_rfl) rfl #[.int .i64 x1_1] (by rfl) rfl rfl gZ ?_
      with_reducible refine (laws_markText.calls k1 x1_1 t167 _ A5.out).mono ?_
      rintro e w10 ⟨rfl, hb⟩
      refine ⟨_, rfl, ?_⟩
      have n0_ := Aside0.mk (below_step bZ hb)
      clear HB
      have HB := n0_
      clear n0_
      (try clear hb)
      (try clear hb2)
      (try clear hk)
      (try clear hi)
      refine hK.out _ _ (((HB.out.cell (World.block_lt_of_cell? w _ hw166_0)).trans hw166_0)) (fun hHeld => ?_)
      clear hK K
      refine norm_ (a' := ?_) ?_ ?_
      rotate_left
      ·show Act.put _ (some 17) _ = _
       simp only [Act.put, List.setIfInBounds_toArray, List.set_cons_zero, List.set_cons_succ, i64_w, i32_w]
       rfl
      refine puY 6 (some 18) #[true, true, true, true, true, true, true] rfl rfl ?_
      refine done_ (by kernel_rfl) ?_
      try go_wp2
      go_ret
      exact ⟨eZ, bZ⟩
    ·rw [if_neg c4] at H
     exact absurd H (by simp)
   ·rw [if_neg c3] at H
    have c3b0 : decide (x5_1 < (l0.length : Int)) = false := decide_eq_false c3
    clear c3
    obtain rfl := Option.some.inj H
    go_wp2
    go_ret
    exact ⟨eZ, bZ⟩
end Go.Proofs.Ytibfmfmekhocdaa.XL
end

section
namespace Go.Proofs.Ytibfmfmekhocdaa.XL
open Go.RowKit Go.Proofs.YtibfmfmekhocdaaW.PrintWords Go.Proofs.YtibfmfmekhocdaaW.PrintLast Go.Proofs.YtibfmfmekhocdaaW.PrintMore
attribute [local go_sem] run_eql_slice_nil binOp_string_gtr' binOp_string_leq' binOp_string_geq' max2_int min2_int max_two min_two max_three min_three max_four min_four   -- for this text's walks alone
set_option linter.unusedVariables false
set_option linter.unusedSimpArgs false
def laws_heldInt64S.l0 : Nat → List Int → Int → Int → Option (Int)
 | 0, _, _, _ => none
 | k + 1, x0, x1, x5 => if x5 < (x0.length : Int) then (if 0 ≤ x5 then (if (rd x0 x5) = x1 then (laws_heldInt64S.l0 k x0 (wrap64 (x1 + 1)) (wrap64 (x5 + 1))) else (some (-1))) else (none)) else (some x1)
def laws_heldInt64S.f (k : Nat) (l0 : List Int) (a1 : Int) : Option (Int) := laws_heldInt64S.l0 k l0 a1 0
set_option maxHeartbeats 8000000 in
set_option maxRecDepth 100000 in
theorem laws_heldInt64S.calls (k : Nat) (A0 : Option Addr) (c0 : Nat) (l0 : List Int) (a1 : Int) (r : Int) (w : World) (hr0 : Kd.C (Kd.int .i64) w A0 l0.length l0) (hc0 : l0.length ≤ c0) (h : laws_heldInt64S.f k l0 a1 = some r) :
  Calls Try.prog 13 #[.slice A0 l0.length c0, .int .i64 a1] w fun e w' => e = .returned (.int .i64 r) ∧ Drawn0 w w' := by
 have HR0 := Aside0.mk hr0
 have HC0 := Aside0.mk hc0
 clear hr0 hc0
 have H : (laws_heldInt64S.l0 k l0 a1 0) = some r := h
 clear h
 have H' := Aside0.mk H
 clear H
 go_enter Try.func13, Try.ntmps13
 go_wp2
 go_loopg [1, 5] k (fun kq v1 v5 w' => ∃ (x1_1 : Int) (x5_1 : Int), v1 = .int .i64 x1_1 ∧ v5 = .int .i64 x5_1 ∧ Aside0 (laws_heldInt64S.l0 kq l0 x1_1 x5_1 = some r) ∧ Aside0 (kq ≤ k) ∧ Drawn0 w w')
 case atStart => exact ⟨(a1), (0), sZ, sZ, H', ⟨Nat.le_refl _⟩, dZ⟩
 case round =>
  clear H'; (try clear c1); (try clear p2)
  obtain ⟨x1_1, x5_1, rfl, rfl, HA, HK1, ⟨m1, rfl⟩⟩ := hrel
  cases gk with
  | zero => exact absurd HA.out (by simp [laws_heldInt64S.l0])
  | succ k1 =>
   have H := HA.out
   clear HA
   simp only [laws_heldInt64S.l0] at H
   by_cases c3 : x5_1 < (l0.length : Int)
   ·rw [if_pos c3] at H
    have c3b0 : decide (x5_1 < (l0.length : Int)) = true := decide_eq_true c3
    clear c3
    by_cases c4 : 0 ≤ x5_1
    ·rw [if_pos c4] at H
     have c4b0 : decide (0 ≤ x5_1) = true := decide_eq_true c4
     clear c4
     by_cases c5 : (rd l0 x5_1) = x1_1
     ·rw [if_pos c5] at H
      have c5b0 : ((rd l0 x5_1) == x1_1) = true := beq_iff_eq.mpr c5
      have c5b1 : ((rd l0 x5_1) != x1_1) = false := bne_eq_false_iff_eq.mpr c5
      clear c5
      have H' := Aside0.mk H
      clear H
      have p168 : 0 ≤ (x5_1 : Int) := oZ
      have q168 : x5_1 < (l0.length : Int) := oZ
      obtain ⟨ad168, e168, hx168_0⟩ := Kd.at_int HR0.out x5_1 p168 q168
      cases e168
      replace p168 := eq_true p168
      replace q168 := eq_true q168
      go_wp2
      go_roundg k1
      case measure => have := HK1.out; omega
      case rel => exact ⟨(wrap64 (x1_1 + 1)), (wrap64 (x5_1 + 1)), sZ, sZ, H', ⟨by have := HK1.out; omega⟩, dZ⟩
     ·rw [if_neg c5] at H
      have c5b0 : ((rd l0 x5_1) == x1_1) = false := beq_eq_false_iff_ne.mpr c5
      have c5b1 : ((rd l0 x5_1) != x1_1) = true := bne_iff_ne.mpr c5
      obtain rfl := Option.some.inj H
      have p168 : 0 ≤ (x5_1 : Int) := oZ
      have q168 : x5_1 < (l0.length : Int) := oZ
      obtain ⟨ad168, e168, hx168_0⟩ := Kd.at_int HR0.out x5_1 p168 q168
      cases e168
      replace p168 := eq_true p168
      replace q168 := eq_true q168
      go_wp2
      go_ret
      exact ⟨sZ, dZ⟩
    ·rw [if_neg c4] at H
     exact absurd H (by simp)
   ·rw [if_neg c3] at H
    have c3b0 : decide (x5_1 < (l0.length : Int)) = false := decide_eq_false c3
    clear c3
    obtain rfl := Option.some.inj H
    go_wp2
    go_ret
    exact ⟨sZ, dZ⟩
end Go.Proofs.Ytibfmfmekhocdaa.XL
end

section
namespace Go.Proofs.Ytibfmfmekhocdaa.XL
open Go.RowKit Go.Proofs.YtibfmfmekhocdaaW.PrintWords Go.Proofs.YtibfmfmekhocdaaW.PrintLast Go.Proofs.YtibfmfmekhocdaaW.PrintMore
attribute [local go_sem] run_eql_slice_nil binOp_string_gtr' binOp_string_leq' binOp_string_geq' max2_int min2_int max_two min_two max_three min_three max_four min_four   -- for this text's walks alone
set_option linter.unusedVariables false
set_option linter.unusedSimpArgs false
def laws_FnExactCountLines.f (k : Nat) (l0 : List ByteArray) : Option Bool := (laws_szStringS.f k l0 1048576).bind fun t3 => (if t3 < 0 then some true else ((laws_toStringS.f k l0).bind fun t8 => ((spec_CountLines.f k t8).bind fun bt17 => ((laws_toStringS.f k l0).bind fun t34 => ((impl_CountLines.f k t34).bind fun bt43 => ((laws_eqStringS.f k bt43.1 bt17.1).bind fun t60 => (if t60 = true then ((laws_eqInt64S.f k bt43.2.1 bt17.2.1).bind fun t65 => (if t65 = true then (if bt43.2.2 = bt17.2.2 then ((laws_toStringS.f k l0).bind fun t70 => ((laws_eqStringS.f k t34 t70).bind fun t80 => (if t80 = true then ((laws_markStringS.f k t34 1).bind fun bt84 => (if ¬ bt84.1 < 0 then ((laws_eqStringS.f k bt43.1 bt17.1).bind fun t91 => (if t91 = true then ((laws_eqInt64S.f k bt43.2.1 bt17.2.1).bind fun t96 => (if t96 = true then (if bt43.2.2 = bt17.2.2 then ((laws_markStringS.f k bt43.1 1).bind fun bt100 => ((laws_markInt64S.f k bt43.2.1 bt100.1).bind fun bt106 => ((laws_heldStringS.f k bt100.2 1).bind fun t112 => (if ¬ t112 < 0 then ((laws_heldInt64S.f k bt106.2 t112).bind fun t116 => (if ¬ t116 < 0 then (if t116 = bt106.1 then ((laws_toStringS.f k l0).bind fun t121 => ((impl_CountLines.f k t121).bind fun bt130 => ((laws_eqStringS.f k bt130.1 bt17.1).bind fun t147 => (if t147 = true then ((laws_eqInt64S.f k bt130.2.1 bt17.2.1).bind fun t152 => (if t152 = true then (if bt130.2.2 = bt17.2.2 then ((laws_heldStringS.f k bt100.2 1).bind fun t156 => (if ¬ t156 < 0 then ((laws_heldInt64S.f k bt106.2 t156).bind fun t160 => (if ¬ t160 < 0 then (if t160 = bt106.1 then (some true) else none) else none)) else none)) else none) else none)) else none)))) else none) else none)) else none)))) else none) else none)) else none)) else none)) else none))) else none) else none)) else none)))))))
set_option maxHeartbeats 4000000 in
set_option maxRecDepth 100000 in
theorem laws_FnExactCountLines.calls (k : Nat) (A0 : Option Addr) (c0 : Nat) (l0 : List ByteArray) (r : Bool) (w : World) (hr0 : Kd.C Kd.string w A0 l0.length l0) (hc0 : l0.length ≤ c0) (h : laws_FnExactCountLines.f k l0 = some r) :
  Calls Try.prog 3 #[.slice A0 l0.length c0] w fun e w' => e = .returned (.bool r) ∧ Below w.heap.size w w' := by
 have HR0 := Aside0.mk hr0
 have HC0 := Aside0.mk hc0
 clear hr0 hc0
 have HB := Aside0.mk (Below.refl w.heap.size w)
 unfold laws_FnExactCountLines.f at h
 replace h := Option.bind_eq_some_iff.mp h
 obtain ⟨t3, A1_, h⟩ := h
 try dsimp only at h
 have A1 := Aside0.mk A1_
 clear A1_
 by_cases c162 : t3 < 0
 ·rw [if_pos c162] at h
  have c162b : decide (t3 < 0) = true := decide_eq_true (by omega)
  clear c162
  obtain rfl := Option.some.inj h
  go_enter Try.func3, Try.ntmps3
  go_wp2_with fail
  refine (laws_szStringS.calls k _ _ l0 1048576 _ _ (Kd.C_below HR0.out HB.out) HC0.out A1.out).mono ?_
  rintro e w2 ⟨rfl, hd⟩
  have hb := hd.below
  have SZ4 := Aside0.mk hb.size
  replace HB := Aside0.mk (below_step HB.out hb)
  clear hb hd
  go_wp2
  go_ret
  exact ⟨eZ, bZ⟩
 rw [if_neg c162] at h
 have c162b : decide (t3 < 0) = false := decide_eq_false (by omega)
 clear c162
 replace h := Option.bind_eq_some_iff.mp h
 obtain ⟨t8, A6_, h⟩ := h
 try dsimp only at h
 have A6 := Aside0.mk A6_
 clear A6_
 replace h := Option.bind_eq_some_iff.mp h
 obtain ⟨⟨t17, t18, t19⟩, A15_, h⟩ := h
 try dsimp only at h
 have A15 := Aside0.mk A15_
 clear A15_
 replace h := Option.bind_eq_some_iff.mp h
 obtain ⟨t34, A32_, h⟩ := h
 try dsimp only at h
 have A32 := Aside0.mk A32_
 clear A32_
 replace h := Option.bind_eq_some_iff.mp h
 obtain ⟨⟨t43, t44, t45⟩, A41_, h⟩ := h
 try dsimp only at h
 have A41 := Aside0.mk A41_
 clear A41_
 replace h := Option.bind_eq_some_iff.mp h
 obtain ⟨t60, A58_, h⟩ := h
 try dsimp only at h
 have A58 := Aside0.mk A58_
 clear A58_
 by_cases c163 : t60 = true
 rotate_left
 ·rw [if_neg c163] at h; exact absurd h (by simp)
 rw [if_pos c163] at h
 subst c163
 replace h := Option.bind_eq_some_iff.mp h
 obtain ⟨t65, A63_, h⟩ := h
 try dsimp only at h
 have A63 := Aside0.mk A63_
 clear A63_
 by_cases c164 : t65 = true
 rotate_left
 ·rw [if_neg c164] at h; exact absurd h (by simp)
 rw [if_pos c164] at h
 subst c164
 by_cases c165 : t45 = t19
 rotate_left
 ·rw [if_neg c165] at h; exact absurd h (by simp)
 rw [if_pos c165] at h
 have c165b : (t45 != t19) = false := by rw [c165]; simp
 clear c165
 replace h := Option.bind_eq_some_iff.mp h
 obtain ⟨t70, A68_, h⟩ := h
 try dsimp only at h
 have A68 := Aside0.mk A68_
 clear A68_
 replace h := Option.bind_eq_some_iff.mp h
 obtain ⟨t80, A78_, h⟩ := h
 try dsimp only at h
 have A78 := Aside0.mk A78_
 clear A78_
 by_cases c166 : t80 = true
 rotate_left
 ·rw [if_neg c166] at h; exact absurd h (by simp)
 rw [if_pos c166] at h
 subst c166
 replace h := Option.bind_eq_some_iff.mp h
 obtain ⟨⟨t84, t85⟩, A82_, h⟩ := h
 try dsimp only at h
 have A82 := Aside0.mk A82_
 clear A82_
 by_cases c167 : ¬ t84 < 0
 rotate_left
 ·rw [if_neg c167] at h; exact absurd h (by simp)
 rw [if_pos c167] at h
 have c167b : decide (t84 < 0) = false := decide_eq_false c167
 clear c167
 replace h := Option.bind_eq_some_iff.mp h
 obtain ⟨t91, A89_, h⟩ := h
 try dsimp only at h
 have A89 := Aside0.mk A89_
 clear A89_
 by_cases c168 : t91 = true
 rotate_left
 ·rw [if_neg c168] at h; exact absurd h (by simp)
 rw [if_pos c168] at h
 subst c168
 replace h := Option.bind_eq_some_iff.mp h
 obtain ⟨t96, A94_, h⟩ := h
 try dsimp only at h
 have A94 := Aside0.mk A94_
 clear A94_
 by_cases c169 : t96 = true
 rotate_left
 ·rw [if_neg c169] at h; exact absurd h (by simp)
 rw [if_pos c169] at h
 subst c169
 by_cases c170 : t45 = t19
 rotate_left
 ·rw [if_neg c170] at h; exact absurd h (by simp)
 rw [if_pos c170] at h
 have c170b : (t45 != t19) = false := by rw [c170]; simp
 clear c170
 replace h := Option.bind_eq_some_iff.mp h
 obtain ⟨⟨t100, t101⟩, A98_, h⟩ := h
 try dsimp only at h
 have A98 := Aside0.mk A98_
 clear A98_
 replace h := Option.bind_eq_some_iff.mp h
 obtain ⟨⟨t106, t107⟩, A104_, h⟩ := h
 try dsimp only at h
 have A104 := Aside0.mk A104_
 clear A104_
 replace h := Option.bind_eq_some_iff.mp h
 obtain ⟨t112, A110_, h⟩ := h
 try dsimp only at h
 have A110 := Aside0.mk A110_
 clear A110_
 by_cases c171 : ¬ t112 < 0
 rotate_left
 ·rw [if_neg c171] at h; exact absurd h (by simp)
 rw [if_pos c171] at h
 have c171b : decide (t112 < 0) = false := decide_eq_false c171
 clear c171
 replace h := Option.bind_eq_some_iff.mp h
 obtain ⟨t116, A114_, h⟩ := h
 try dsimp only at h
 have A114 := Aside0.mk A114_
 clear A114_
 by_cases c172 : ¬ t116 < 0
 rotate_left
 ·rw [if_neg c172] at h; exact absurd h (by simp)
 rw [if_pos c172] at h
 have c172b : decide (t116 < 0) = false := decide_eq_false c172
 clear c172
 by_cases c173 : t116 = t106
 rotate_left
 ·rw [if_neg c173] at h; exact absurd h (by simp)
 rw [if_pos c173] at h
 have c173b : (t116 != t106) = false := by rw [c173]; simp
 clear c173
 replace h := Option.bind_eq_some_iff.mp h
 obtain ⟨t121, A119_, h⟩ := h
 try dsimp only at h
 have A119 := Aside0.mk A119_
 clear A119_
 replace h := Option.bind_eq_some_iff.mp h
 obtain ⟨⟨t130, t131, t132⟩, A128_, h⟩ := h
 try dsimp only at h
 have A128 := Aside0.mk A128_
 clear A128_
 replace h := Option.bind_eq_some_iff.mp h
 obtain ⟨t147, A145_, h⟩ := h
 try dsimp only at h
 have A145 := Aside0.mk A145_
 clear A145_
 by_cases c174 : t147 = true
 rotate_left
 ·rw [if_neg c174] at h; exact absurd h (by simp)
 rw [if_pos c174] at h
 subst c174
 replace h := Option.bind_eq_some_iff.mp h
 obtain ⟨t152, A150_, h⟩ := h
 try dsimp only at h
 have A150 := Aside0.mk A150_
 clear A150_
 by_cases c175 : t152 = true
 rotate_left
 ·rw [if_neg c175] at h; exact absurd h (by simp)
 rw [if_pos c175] at h
 subst c175
 by_cases c176 : t132 = t19
 rotate_left
 ·rw [if_neg c176] at h; exact absurd h (by simp)
 rw [if_pos c176] at h
 have c176b : (t132 != t19) = false := by rw [c176]; simp
 clear c176
 replace h := Option.bind_eq_some_iff.mp h
 obtain ⟨t156, A154_, h⟩ := h
 try dsimp only at h
 have A154 := Aside0.mk A154_
 clear A154_
 by_cases c177 : ¬ t156 < 0
 rotate_left
 ·rw [if_neg c177] at h; exact absurd h (by simp)
 rw [if_pos c177] at h
 have c177b : decide (t156 < 0) = false := decide_eq_false c177
 clear c177
 replace h := Option.bind_eq_some_iff.mp h
 obtain ⟨t160, A158_, h⟩ := h
 try dsimp only at h
 have A158 := Aside0.mk A158_
 clear A158_
 by_cases c178 : ¬ t160 < 0
 rotate_left
 ·rw [if_neg c178] at h; exact absurd h (by simp)
 rw [if_pos c178] at h
 have c178b : decide (t160 < 0) = false := decide_eq_false c178
 clear c178
 by_cases c179 : t160 = t106
 rotate_left
 ·rw [if_neg c179] at h; exact absurd h (by simp)
 rw [if_pos c179] at h
 have c179b : (t160 != t106) = false := by rw [c179]; simp
 clear c179
 obtain rfl := Option.some.inj h
 go_enter Try.func3, Try.ntmps3
 go_wp2_with fail
 refine (laws_szStringS.calls k _ _ l0 1048576 _ _ (Kd.C_below HR0.out HB.out) HC0.out A1.out).mono ?_
 rintro e w2 ⟨rfl, hd⟩
 have hb := hd.below
 have SZ4 := Aside0.mk hb.size
 replace HB := Aside0.mk (below_step HB.out hb)
 clear hb hd
 go_wp2_with fail
 refine (laws_toStringS.calls k _ _ l0 _ _ (Kd.C_below HR0.out HB.out) HC0.out A6.out).mono ?_
 rintro e w7 ⟨v9, rfl, ho10, hb⟩
 have SZ11 := Aside0.mk hb.size
 obtain ⟨Ao13, co14, rfl⟩ := Kd.R_slice ho10
 have F12 := Aside0.mk (Kd.R_lower (Kd.R_mono (ok' := fun k_ => w2.heap.size ≤ k_ ∧ k_ < w7.heap.size) (Kd.R_bound ho10) (fun k_ hk_ => ⟨hk_.2.1, hk_.2.2.1⟩)) HB.out.size)
 clear ho10
 replace HB := Aside0.mk (below_step HB.out hb)
 clear hb
 go_wp2_with fail
 refine (spec_CountLines.calls k _ _ t8 _ _ _ _ (Kd.R_reads' F12.out).2.2 (by rw [← (Kd.R_reads' F12.out).1]; exact (Kd.R_reads' F12.out).2.1) A15.out).mono ?_
 rintro e w16 ⟨v20, v21, rfl, ho22, ho23, hb⟩
 have SZ24 := Aside0.mk hb.size
 replace F12 := Aside0.mk (Kd.R_below F12.out hb)
 obtain ⟨Ao26, co27, rfl⟩ := Kd.R_slice ho22
 have F25 := Aside0.mk (Kd.R_lower (Kd.R_mono (ok' := fun k_ => w7.heap.size ≤ k_ ∧ k_ < w16.heap.size ∧ ∃ cl_, w16.heap[k_]? = some (.cells cl_ 9 (0, 0))) (Kd.R_bound ho22) (fun k_ hk_ => ⟨hk_.2.1, hk_.2.2.1, by obtain ⟨_, _, _, q_, hq_, cells_, hc_⟩ := hk_; rw [List.mem_singleton.1 hq_] at hc_; exact ⟨cells_, hc_⟩⟩)) HB.out.size)
 clear ho22
 obtain ⟨Ao29, co30, rfl⟩ := Kd.R_slice ho23
 have F28 := Aside0.mk (Kd.R_lower (Kd.R_mono (ok' := fun k_ => w7.heap.size ≤ k_ ∧ k_ < w16.heap.size ∧ ∃ cl_, w16.heap[k_]? = some (.cells cl_ 2 (0, 0))) (Kd.R_bound ho23) (fun k_ hk_ => ⟨hk_.2.1, hk_.2.2.1, by obtain ⟨_, _, _, q_, hq_, cells_, hc_⟩ := hk_; rw [List.mem_singleton.1 hq_] at hc_; exact ⟨cells_, hc_⟩⟩)) HB.out.size)
 clear ho23
 replace HB := Aside0.mk (below_step HB.out hb)
 clear hb
 go_wp2_with fail
 refine (laws_toStringS.calls k _ _ l0 _ _ (Kd.C_below HR0.out HB.out) HC0.out A32.out).mono ?_
 rintro e w33 ⟨v35, rfl, ho36, hb⟩
 have SZ37 := Aside0.mk hb.size
 replace F12 := Aside0.mk (Kd.R_below F12.out hb)
 replace F25 := Aside0.mk (Kd.R_below F25.out hb)
 replace F28 := Aside0.mk (Kd.R_below F28.out hb)
 obtain ⟨Ao39, co40, rfl⟩ := Kd.R_slice ho36
 have F38 := Aside0.mk (Kd.R_lower (Kd.R_mono (ok' := fun k_ => w16.heap.size ≤ k_ ∧ k_ < w33.heap.size) (Kd.R_bound ho36) (fun k_ hk_ => ⟨hk_.2.1, hk_.2.2.1⟩)) HB.out.size)
 clear ho36
 replace HB := Aside0.mk (below_step HB.out hb)
 clear hb
 go_wp2_with fail
 refine (impl_CountLines.calls k _ _ t34 _ _ _ _ (Kd.R_reads' F38.out).2.2 (by rw [← (Kd.R_reads' F38.out).1]; exact (Kd.R_reads' F38.out).2.1) A41.out).mono ?_
 rintro e w42 ⟨v46, v47, rfl, ho48, ho49, hb⟩
 have SZ50 := Aside0.mk hb.size
 replace F12 := Aside0.mk (Kd.R_below F12.out hb)
 replace F25 := Aside0.mk (Kd.R_below F25.out hb)
 replace F28 := Aside0.mk (Kd.R_below F28.out hb)
 replace F38 := Aside0.mk (Kd.R_below F38.out hb)
 obtain ⟨Ao52, co53, rfl⟩ := Kd.R_slice ho48
 have F51 := Aside0.mk (Kd.R_lower (Kd.R_mono (ok' := fun k_ => w33.heap.size ≤ k_ ∧ k_ < w42.heap.size ∧ ∃ cl_, w42.heap[k_]? = some (.cells cl_ 9 (0, 0))) (Kd.R_bound ho48) (fun k_ hk_ => ⟨hk_.2.1, hk_.2.2.1, by obtain ⟨_, _, _, q_, hq_, cells_, hc_⟩ := hk_; rw [List.mem_singleton.1 hq_] at hc_; exact ⟨cells_, hc_⟩⟩)) HB.out.size)
 clear ho48
 obtain ⟨Ao55, co56, rfl⟩ := Kd.R_slice ho49
 have F54 := Aside0.mk (Kd.R_lower (Kd.R_mono (ok' := fun k_ => w33.heap.size ≤ k_ ∧ k_ < w42.heap.size ∧ ∃ cl_, w42.heap[k_]? = some (.cells cl_ 2 (0, 0))) (Kd.R_bound ho49) (fun k_ hk_ => ⟨hk_.2.1, hk_.2.2.1, by obtain ⟨_, _, _, q_, hq_, cells_, hc_⟩ := hk_; rw [List.mem_singleton.1 hq_] at hc_; exact ⟨cells_, hc_⟩⟩)) HB.out.size)
 clear ho49
 replace HB := Aside0.mk (below_step HB.out hb)
 clear hb
 go_wp2_with fail
 refine (laws_eqStringS.calls k _ _ t43 _ _ t17 _ _ (Kd.R_reads' F51.out).2.2 (by rw [← (Kd.R_reads' F51.out).1]; exact (Kd.R_reads' F51.out).2.1) (Kd.R_reads' F25.out).2.2 (by rw [← (Kd.R_reads' F25.out).1]; exact (Kd.R_reads' F25.out).2.1) A58.out).mono ?_
 rintro e w59 ⟨rfl, hd⟩
 have hb := hd.below
 have SZ61 := Aside0.mk hb.size
 replace F12 := Aside0.mk (Kd.R_below F12.out hb)
 replace F25 := Aside0.mk (Kd.R_below F25.out hb)
 replace F28 := Aside0.mk (Kd.R_below F28.out hb)
 replace F38 := Aside0.mk (Kd.R_below F38.out hb)
 replace F51 := Aside0.mk (Kd.R_below F51.out hb)
 replace F54 := Aside0.mk (Kd.R_below F54.out hb)
 replace HB := Aside0.mk (below_step HB.out hb)
 clear hb hd
 go_wp2_with fail
 refine (laws_eqInt64S.calls k _ _ t44 _ _ t18 _ _ (Kd.R_reads' F54.out).2.2 (by rw [← (Kd.R_reads' F54.out).1]; exact (Kd.R_reads' F54.out).2.1) (Kd.R_reads' F28.out).2.2 (by rw [← (Kd.R_reads' F28.out).1]; exact (Kd.R_reads' F28.out).2.1) A63.out).mono ?_
 rintro e w64 ⟨rfl, hd⟩
 have hb := hd.below
 have SZ66 := Aside0.mk hb.size
 replace F12 := Aside0.mk (Kd.R_below F12.out hb)
 replace F25 := Aside0.mk (Kd.R_below F25.out hb)
 replace F28 := Aside0.mk (Kd.R_below F28.out hb)
 replace F38 := Aside0.mk (Kd.R_below F38.out hb)
 replace F51 := Aside0.mk (Kd.R_below F51.out hb)
 replace F54 := Aside0.mk (Kd.R_below F54.out hb)
 replace HB := Aside0.mk (below_step HB.out hb)
 clear hb hd
 go_wp2_with fail
 refine (laws_toStringS.calls k _ _ l0 _ _ (Kd.C_below HR0.out HB.out) HC0.out A68.out).mono ?_
 rintro e w69 ⟨v71, rfl, ho72, hb⟩
 have SZ73 := Aside0.mk hb.size
 replace F12 := Aside0.mk (Kd.R_below F12.out hb)
 replace F25 := Aside0.mk (Kd.R_below F25.out hb)
 replace F28 := Aside0.mk (Kd.R_below F28.out hb)
 replace F38 := Aside0.mk (Kd.R_below F38.out hb)
 replace F51 := Aside0.mk (Kd.R_below F51.out hb)
 replace F54 := Aside0.mk (Kd.R_below F54.out hb)
 obtain ⟨Ao75, co76, rfl⟩ := Kd.R_slice ho72
 have F74 := Aside0.mk (Kd.R_lower (Kd.R_mono (ok' := fun k_ => w64.heap.size ≤ k_ ∧ k_ < w69.heap.size) (Kd.R_bound ho72) (fun k_ hk_ => ⟨hk_.2.1, hk_.2.2.1⟩)) HB.out.size)
 clear ho72
 replace HB := Aside0.mk (below_step HB.out hb)
 clear hb
 go_wp2_with fail
 refine (laws_eqStringS.calls k _ _ t34 _ _ t70 _ _ (Kd.R_reads' F38.out).2.2 (by rw [← (Kd.R_reads' F38.out).1]; exact (Kd.R_reads' F38.out).2.1) (Kd.R_reads' F74.out).2.2 (by rw [← (Kd.R_reads' F74.out).1]; exact (Kd.R_reads' F74.out).2.1) A78.out).mono ?_
 rintro e w79 ⟨rfl, hd⟩
 have hb := hd.below
 have SZ81 := Aside0.mk hb.size
 replace F12 := Aside0.mk (Kd.R_below F12.out hb)
 replace F25 := Aside0.mk (Kd.R_below F25.out hb)
 replace F28 := Aside0.mk (Kd.R_below F28.out hb)
 replace F38 := Aside0.mk (Kd.R_below F38.out hb)
 replace F51 := Aside0.mk (Kd.R_below F51.out hb)
 replace F54 := Aside0.mk (Kd.R_below F54.out hb)
 replace F74 := Aside0.mk (Kd.R_below F74.out hb)
 replace HB := Aside0.mk (below_step HB.out hb)
 clear hb hd
 go_wp2_with fail
 refine (laws_markStringS.calls k (fun k_ => w16.heap.size ≤ k_ ∧ k_ < w33.heap.size) _ t34 1 _ _ w _ HB.out F38.out A82.out).mono ?_
 rintro e w83 ⟨rfl, ho86, hb, hk⟩
 have SZ87 := Aside0.mk hk.1
 replace F12 := Aside0.mk (Kd.R_step F12.out (fun k_ ho_ hlt_ => hk.2 k_ hlt_ (by have := SZ4.out; have := SZ11.out; have := SZ24.out; have := SZ37.out; have := SZ50.out; have := SZ61.out; have := SZ66.out; have := SZ73.out; have := SZ81.out; have := SZ87.out; omega)))
 replace F25 := Aside0.mk (Kd.R_step F25.out (fun k_ ho_ hlt_ => hk.2 k_ hlt_ (by have := SZ4.out; have := SZ11.out; have := SZ24.out; have := SZ37.out; have := SZ50.out; have := SZ61.out; have := SZ66.out; have := SZ73.out; have := SZ81.out; have := SZ87.out; omega)))
 replace F28 := Aside0.mk (Kd.R_step F28.out (fun k_ ho_ hlt_ => hk.2 k_ hlt_ (by have := SZ4.out; have := SZ11.out; have := SZ24.out; have := SZ37.out; have := SZ50.out; have := SZ61.out; have := SZ66.out; have := SZ73.out; have := SZ81.out; have := SZ87.out; omega)))
 replace F51 := Aside0.mk (Kd.R_step F51.out (fun k_ ho_ hlt_ => hk.2 k_ hlt_ (by have := SZ4.out; have := SZ11.out; have := SZ24.out; have := SZ37.out; have := SZ50.out; have := SZ61.out; have := SZ66.out; have := SZ73.out; have := SZ81.out; have := SZ87.out; omega)))
 replace F54 := Aside0.mk (Kd.R_step F54.out (fun k_ ho_ hlt_ => hk.2 k_ hlt_ (by have := SZ4.out; have := SZ11.out; have := SZ24.out; have := SZ37.out; have := SZ50.out; have := SZ61.out; have := SZ66.out; have := SZ73.out; have := SZ81.out; have := SZ87.out; omega)))
 replace F74 := Aside0.mk (Kd.R_step F74.out (fun k_ ho_ hlt_ => hk.2 k_ hlt_ (by have := SZ4.out; have := SZ11.out; have := SZ24.out; have := SZ37.out; have := SZ50.out; have := SZ61.out; have := SZ66.out; have := SZ73.out; have := SZ81.out; have := SZ87.out; omega)))
 replace F38 := Aside0.mk (Kd.R_mono (Kd.R_tight rfl ho86) (fun k_ hk_ => F38.out.1 k_ hk_.symm))
 replace HB := Aside0.mk hb
 clear hb hk ho86
 go_wp2_with fail
 refine (laws_eqStringS.calls k _ _ t43 _ _ t17 _ _ (Kd.R_reads' F51.out).2.2 (by rw [← (Kd.R_reads' F51.out).1]; exact (Kd.R_reads' F51.out).2.1) (Kd.R_reads' F25.out).2.2 (by rw [← (Kd.R_reads' F25.out).1]; exact (Kd.R_reads' F25.out).2.1) A89.out).mono ?_
 rintro e w90 ⟨rfl, hd⟩
 have hb := hd.below
 have SZ92 := Aside0.mk hb.size
 replace F12 := Aside0.mk (Kd.R_below F12.out hb)
 replace F25 := Aside0.mk (Kd.R_below F25.out hb)
 replace F28 := Aside0.mk (Kd.R_below F28.out hb)
 replace F38 := Aside0.mk (Kd.R_below F38.out hb)
 replace F51 := Aside0.mk (Kd.R_below F51.out hb)
 replace F54 := Aside0.mk (Kd.R_below F54.out hb)
 replace F74 := Aside0.mk (Kd.R_below F74.out hb)
 replace HB := Aside0.mk (below_step HB.out hb)
 clear hb hd
 go_wp2_with fail
 refine (laws_eqInt64S.calls k _ _ t44 _ _ t18 _ _ (Kd.R_reads' F54.out).2.2 (by rw [← (Kd.R_reads' F54.out).1]; exact (Kd.R_reads' F54.out).2.1) (Kd.R_reads' F28.out).2.2 (by rw [← (Kd.R_reads' F28.out).1]; exact (Kd.R_reads' F28.out).2.1) A94.out).mono ?_
 rintro e w95 ⟨rfl, hd⟩
 have hb := hd.below
 have SZ97 := Aside0.mk hb.size
 replace F12 := Aside0.mk (Kd.R_below F12.out hb)
 replace F25 := Aside0.mk (Kd.R_below F25.out hb)
 replace F28 := Aside0.mk (Kd.R_below F28.out hb)
 replace F38 := Aside0.mk (Kd.R_below F38.out hb)
 replace F51 := Aside0.mk (Kd.R_below F51.out hb)
 replace F54 := Aside0.mk (Kd.R_below F54.out hb)
 replace F74 := Aside0.mk (Kd.R_below F74.out hb)
 replace HB := Aside0.mk (below_step HB.out hb)
 clear hb hd
 go_wp2_with fail
 refine (laws_markStringS.calls k (fun k_ => w33.heap.size ≤ k_ ∧ k_ < w42.heap.size ∧ ∃ cl_, w42.heap[k_]? = some (.cells cl_ 9 (0, 0))) _ t43 1 _ _ w _ HB.out F51.out A98.out).mono ?_
 rintro e w99 ⟨rfl, ho102, hb, hk⟩
 have SZ103 := Aside0.mk hk.1
 replace F12 := Aside0.mk (Kd.R_step F12.out (fun k_ ho_ hlt_ => hk.2 k_ hlt_ (by have := SZ4.out; have := SZ11.out; have := SZ24.out; have := SZ37.out; have := SZ50.out; have := SZ61.out; have := SZ66.out; have := SZ73.out; have := SZ81.out; have := SZ87.out; have := SZ92.out; have := SZ97.out; have := SZ103.out; omega)))
 replace F25 := Aside0.mk (Kd.R_step F25.out (fun k_ ho_ hlt_ => hk.2 k_ hlt_ (by have := SZ4.out; have := SZ11.out; have := SZ24.out; have := SZ37.out; have := SZ50.out; have := SZ61.out; have := SZ66.out; have := SZ73.out; have := SZ81.out; have := SZ87.out; have := SZ92.out; have := SZ97.out; have := SZ103.out; omega)))
 replace F28 := Aside0.mk (Kd.R_step F28.out (fun k_ ho_ hlt_ => hk.2 k_ hlt_ (by have := SZ4.out; have := SZ11.out; have := SZ24.out; have := SZ37.out; have := SZ50.out; have := SZ61.out; have := SZ66.out; have := SZ73.out; have := SZ81.out; have := SZ87.out; have := SZ92.out; have := SZ97.out; have := SZ103.out; omega)))
 replace F38 := Aside0.mk (Kd.R_step F38.out (fun k_ ho_ hlt_ => hk.2 k_ hlt_ (by have := SZ4.out; have := SZ11.out; have := SZ24.out; have := SZ37.out; have := SZ50.out; have := SZ61.out; have := SZ66.out; have := SZ73.out; have := SZ81.out; have := SZ87.out; have := SZ92.out; have := SZ97.out; have := SZ103.out; omega)))
 replace F54 := Aside0.mk (Kd.R_step F54.out (fun k_ ho_ hlt_ => hk.2 k_ hlt_ (by rintro ⟨_, _, c1_, e1_⟩; obtain ⟨_, _, c2_, e2_⟩ := ho_; rw [e1_] at e2_; simp at e2_)))
 replace F74 := Aside0.mk (Kd.R_step F74.out (fun k_ ho_ hlt_ => hk.2 k_ hlt_ (by have := SZ4.out; have := SZ11.out; have := SZ24.out; have := SZ37.out; have := SZ50.out; have := SZ61.out; have := SZ66.out; have := SZ73.out; have := SZ81.out; have := SZ87.out; have := SZ92.out; have := SZ97.out; have := SZ103.out; omega)))
 replace F51 := Aside0.mk (Kd.R_mono (Kd.R_tight rfl ho102) (fun k_ hk_ => F51.out.1 k_ hk_.symm))
 replace HB := Aside0.mk hb
 clear hb hk ho102
 go_wp2_with fail
 refine (laws_markInt64S.calls k (fun k_ => w33.heap.size ≤ k_ ∧ k_ < w42.heap.size ∧ ∃ cl_, w42.heap[k_]? = some (.cells cl_ 2 (0, 0))) _ t44 t100 _ _ w _ HB.out F54.out A104.out).mono ?_
 rintro e w105 ⟨rfl, ho108, hb, hk⟩
 have SZ109 := Aside0.mk hk.1
 replace F12 := Aside0.mk (Kd.R_step F12.out (fun k_ ho_ hlt_ => hk.2 k_ hlt_ (by have := SZ4.out; have := SZ11.out; have := SZ24.out; have := SZ37.out; have := SZ50.out; have := SZ61.out; have := SZ66.out; have := SZ73.out; have := SZ81.out; have := SZ87.out; have := SZ92.out; have := SZ97.out; have := SZ103.out; have := SZ109.out; omega)))
 replace F25 := Aside0.mk (Kd.R_step F25.out (fun k_ ho_ hlt_ => hk.2 k_ hlt_ (by have := SZ4.out; have := SZ11.out; have := SZ24.out; have := SZ37.out; have := SZ50.out; have := SZ61.out; have := SZ66.out; have := SZ73.out; have := SZ81.out; have := SZ87.out; have := SZ92.out; have := SZ97.out; have := SZ103.out; have := SZ109.out; omega)))
 replace F28 := Aside0.mk (Kd.R_step F28.out (fun k_ ho_ hlt_ => hk.2 k_ hlt_ (by have := SZ4.out; have := SZ11.out; have := SZ24.out; have := SZ37.out; have := SZ50.out; have := SZ61.out; have := SZ66.out; have := SZ73.out; have := SZ81.out; have := SZ87.out; have := SZ92.out; have := SZ97.out; have := SZ103.out; have := SZ109.out; omega)))
 replace F38 := Aside0.mk (Kd.R_step F38.out (fun k_ ho_ hlt_ => hk.2 k_ hlt_ (by have := SZ4.out; have := SZ11.out; have := SZ24.out; have := SZ37.out; have := SZ50.out; have := SZ61.out; have := SZ66.out; have := SZ73.out; have := SZ81.out; have := SZ87.out; have := SZ92.out; have := SZ97.out; have := SZ103.out; have := SZ109.out; omega)))
 replace F51 := Aside0.mk (Kd.R_step F51.out (fun k_ ho_ hlt_ => hk.2 k_ hlt_ (by rintro ⟨_, _, c1_, e1_⟩; obtain ⟨_, _, c2_, e2_⟩ := ho_; rw [e1_] at e2_; simp at e2_)))
 replace F74 := Aside0.mk (Kd.R_step F74.out (fun k_ ho_ hlt_ => hk.2 k_ hlt_ (by have := SZ4.out; have := SZ11.out; have := SZ24.out; have := SZ37.out; have := SZ50.out; have := SZ61.out; have := SZ66.out; have := SZ73.out; have := SZ81.out; have := SZ87.out; have := SZ92.out; have := SZ97.out; have := SZ103.out; have := SZ109.out; omega)))
 replace F54 := Aside0.mk (Kd.R_mono (Kd.R_tight rfl ho108) (fun k_ hk_ => F54.out.1 k_ hk_.symm))
 replace HB := Aside0.mk hb
 clear hb hk ho108
 go_wp2_with fail
 refine calls_of_args (args' := #[.slice Ao52 t101.length co53, .int .i64 (1)]) (by rw [show t43.length = t101.length from (Kd.R_reads' F51.out).1]) ?_
 refine (laws_heldStringS.calls k _ _ t101 1 _ _ (Kd.R_reads' F51.out).2.2 (by rw [← (Kd.R_reads' F51.out).1]; exact (Kd.R_reads' F51.out).2.1) A110.out).mono ?_
 rintro e w111 ⟨rfl, hb⟩
 have SZ113 := Aside0.mk hb.size
 replace F12 := Aside0.mk (Kd.R_below F12.out hb)
 replace F25 := Aside0.mk (Kd.R_below F25.out hb)
 replace F28 := Aside0.mk (Kd.R_below F28.out hb)
 replace F38 := Aside0.mk (Kd.R_below F38.out hb)
 replace F51 := Aside0.mk (Kd.R_below F51.out hb)
 replace F54 := Aside0.mk (Kd.R_below F54.out hb)
 replace F74 := Aside0.mk (Kd.R_below F74.out hb)
 replace HB := Aside0.mk (below_step HB.out hb)
 clear hb
 go_wp2_with fail
 refine calls_of_args (args' := #[.slice Ao55 t107.length co56, .int .i64 (t112)]) (by rw [show t44.length = t107.length from (Kd.R_reads' F54.out).1]) ?_
 refine (laws_heldInt64S.calls k _ _ t107 t112 _ _ (Kd.R_reads' F54.out).2.2 (by rw [← (Kd.R_reads' F54.out).1]; exact (Kd.R_reads' F54.out).2.1) A114.out).mono ?_
 rintro e w115 ⟨rfl, hd⟩
 have hb := hd.below
 have SZ117 := Aside0.mk hb.size
 replace F12 := Aside0.mk (Kd.R_below F12.out hb)
 replace F25 := Aside0.mk (Kd.R_below F25.out hb)
 replace F28 := Aside0.mk (Kd.R_below F28.out hb)
 replace F38 := Aside0.mk (Kd.R_below F38.out hb)
 replace F51 := Aside0.mk (Kd.R_below F51.out hb)
 replace F54 := Aside0.mk (Kd.R_below F54.out hb)
 replace F74 := Aside0.mk (Kd.R_below F74.out hb)
 replace HB := Aside0.mk (below_step HB.out hb)
 clear hb hd
 go_wp2_with fail
 refine (laws_toStringS.calls k _ _ l0 _ _ (Kd.C_below HR0.out HB.out) HC0.out A119.out).mono ?_
 rintro e w120 ⟨v122, rfl, ho123, hb⟩
 have SZ124 := Aside0.mk hb.size
 replace F12 := Aside0.mk (Kd.R_below F12.out hb)
 replace F25 := Aside0.mk (Kd.R_below F25.out hb)
 replace F28 := Aside0.mk (Kd.R_below F28.out hb)
 replace F38 := Aside0.mk (Kd.R_below F38.out hb)
 replace F51 := Aside0.mk (Kd.R_below F51.out hb)
 replace F54 := Aside0.mk (Kd.R_below F54.out hb)
 replace F74 := Aside0.mk (Kd.R_below F74.out hb)
 obtain ⟨Ao126, co127, rfl⟩ := Kd.R_slice ho123
 have F125 := Aside0.mk (Kd.R_lower (Kd.R_mono (ok' := fun k_ => w115.heap.size ≤ k_ ∧ k_ < w120.heap.size) (Kd.R_bound ho123) (fun k_ hk_ => ⟨hk_.2.1, hk_.2.2.1⟩)) HB.out.size)
 clear ho123
 replace HB := Aside0.mk (below_step HB.out hb)
 clear hb
 go_wp2_with fail
 refine (impl_CountLines.calls k _ _ t121 _ _ _ _ (Kd.R_reads' F125.out).2.2 (by rw [← (Kd.R_reads' F125.out).1]; exact (Kd.R_reads' F125.out).2.1) A128.out).mono ?_
 rintro e w129 ⟨v133, v134, rfl, ho135, ho136, hb⟩
 have SZ137 := Aside0.mk hb.size
 replace F12 := Aside0.mk (Kd.R_below F12.out hb)
 replace F25 := Aside0.mk (Kd.R_below F25.out hb)
 replace F28 := Aside0.mk (Kd.R_below F28.out hb)
 replace F38 := Aside0.mk (Kd.R_below F38.out hb)
 replace F51 := Aside0.mk (Kd.R_below F51.out hb)
 replace F54 := Aside0.mk (Kd.R_below F54.out hb)
 replace F74 := Aside0.mk (Kd.R_below F74.out hb)
 replace F125 := Aside0.mk (Kd.R_below F125.out hb)
 obtain ⟨Ao139, co140, rfl⟩ := Kd.R_slice ho135
 have F138 := Aside0.mk (Kd.R_lower (Kd.R_mono (ok' := fun k_ => w120.heap.size ≤ k_ ∧ k_ < w129.heap.size ∧ ∃ cl_, w129.heap[k_]? = some (.cells cl_ 9 (0, 0))) (Kd.R_bound ho135) (fun k_ hk_ => ⟨hk_.2.1, hk_.2.2.1, by obtain ⟨_, _, _, q_, hq_, cells_, hc_⟩ := hk_; rw [List.mem_singleton.1 hq_] at hc_; exact ⟨cells_, hc_⟩⟩)) HB.out.size)
 clear ho135
 obtain ⟨Ao142, co143, rfl⟩ := Kd.R_slice ho136
 have F141 := Aside0.mk (Kd.R_lower (Kd.R_mono (ok' := fun k_ => w120.heap.size ≤ k_ ∧ k_ < w129.heap.size ∧ ∃ cl_, w129.heap[k_]? = some (.cells cl_ 2 (0, 0))) (Kd.R_bound ho136) (fun k_ hk_ => ⟨hk_.2.1, hk_.2.2.1, by obtain ⟨_, _, _, q_, hq_, cells_, hc_⟩ := hk_; rw [List.mem_singleton.1 hq_] at hc_; exact ⟨cells_, hc_⟩⟩)) HB.out.size)
 clear ho136
 replace HB := Aside0.mk (below_step HB.out hb)
 clear hb
 go_wp2_with fail
 refine (laws_eqStringS.calls k _ _ t130 _ _ t17 _ _ (Kd.R_reads' F138.out).2.2 (by rw [← (Kd.R_reads' F138.out).1]; exact (Kd.R_reads' F138.out).2.1) (Kd.R_reads' F25.out).2.2 (by rw [← (Kd.R_reads' F25.out).1]; exact (Kd.R_reads' F25.out).2.1) A145.out).mono ?_
 rintro e w146 ⟨rfl, hd⟩
 have hb := hd.below
 have SZ148 := Aside0.mk hb.size
 replace F12 := Aside0.mk (Kd.R_below F12.out hb)
 replace F25 := Aside0.mk (Kd.R_below F25.out hb)
 replace F28 := Aside0.mk (Kd.R_below F28.out hb)
 replace F38 := Aside0.mk (Kd.R_below F38.out hb)
 replace F51 := Aside0.mk (Kd.R_below F51.out hb)
 replace F54 := Aside0.mk (Kd.R_below F54.out hb)
 replace F74 := Aside0.mk (Kd.R_below F74.out hb)
 replace F125 := Aside0.mk (Kd.R_below F125.out hb)
 replace F138 := Aside0.mk (Kd.R_below F138.out hb)
 replace F141 := Aside0.mk (Kd.R_below F141.out hb)
 replace HB := Aside0.mk (below_step HB.out hb)
 clear hb hd
 go_wp2_with fail
 refine (laws_eqInt64S.calls k _ _ t131 _ _ t18 _ _ (Kd.R_reads' F141.out).2.2 (by rw [← (Kd.R_reads' F141.out).1]; exact (Kd.R_reads' F141.out).2.1) (Kd.R_reads' F28.out).2.2 (by rw [← (Kd.R_reads' F28.out).1]; exact (Kd.R_reads' F28.out).2.1) A150.out).mono ?_
 rintro e w151 ⟨rfl, hd⟩
 have hb := hd.below
 have SZ153 := Aside0.mk hb.size
 replace F12 := Aside0.mk (Kd.R_below F12.out hb)
 replace F25 := Aside0.mk (Kd.R_below F25.out hb)
 replace F28 := Aside0.mk (Kd.R_below F28.out hb)
 replace F38 := Aside0.mk (Kd.R_below F38.out hb)
 replace F51 := Aside0.mk (Kd.R_below F51.out hb)
 replace F54 := Aside0.mk (Kd.R_below F54.out hb)
 replace F74 := Aside0.mk (Kd.R_below F74.out hb)
 replace F125 := Aside0.mk (Kd.R_below F125.out hb)
 replace F138 := Aside0.mk (Kd.R_below F138.out hb)
 replace F141 := Aside0.mk (Kd.R_below F141.out hb)
 replace HB := Aside0.mk (below_step HB.out hb)
 clear hb hd
 go_wp2_with fail
 refine calls_of_args (args' := #[.slice Ao52 t101.length co53, .int .i64 (1)]) (by rw [show t43.length = t101.length from (Kd.R_reads' F51.out).1]) ?_
 refine (laws_heldStringS.calls k _ _ t101 1 _ _ (Kd.R_reads' F51.out).2.2 (by rw [← (Kd.R_reads' F51.out).1]; exact (Kd.R_reads' F51.out).2.1) A154.out).mono ?_
 rintro e w155 ⟨rfl, hb⟩
 have SZ157 := Aside0.mk hb.size
 replace F12 := Aside0.mk (Kd.R_below F12.out hb)
 replace F25 := Aside0.mk (Kd.R_below F25.out hb)
 replace F28 := Aside0.mk (Kd.R_below F28.out hb)
 replace F38 := Aside0.mk (Kd.R_below F38.out hb)
 replace F51 := Aside0.mk (Kd.R_below F51.out hb)
 replace F54 := Aside0.mk (Kd.R_below F54.out hb)
 replace F74 := Aside0.mk (Kd.R_below F74.out hb)
 replace F125 := Aside0.mk (Kd.R_below F125.out hb)
 replace F138 := Aside0.mk (Kd.R_below F138.out hb)
 replace F141 := Aside0.mk (Kd.R_below F141.out hb)
 replace HB := Aside0.mk (below_step HB.out hb)
 clear hb
 go_wp2_with fail
 refine calls_of_args (args' := #[.slice Ao55 t107.length co56, .int .i64 (t156)]) (by rw [show t44.length = t107.length from (Kd.R_reads' F54.out).1]) ?_
 refine (laws_heldInt64S.calls k _ _ t107 t156 _ _ (Kd.R_reads' F54.out).2.2 (by rw [← (Kd.R_reads' F54.out).1]; exact (Kd.R_reads' F54.out).2.1) A158.out).mono ?_
 rintro e w159 ⟨rfl, hd⟩
 have hb := hd.below
 have SZ161 := Aside0.mk hb.size
 replace F12 := Aside0.mk (Kd.R_below F12.out hb)
 replace F25 := Aside0.mk (Kd.R_below F25.out hb)
 replace F28 := Aside0.mk (Kd.R_below F28.out hb)
 replace F38 := Aside0.mk (Kd.R_below F38.out hb)
 replace F51 := Aside0.mk (Kd.R_below F51.out hb)
 replace F54 := Aside0.mk (Kd.R_below F54.out hb)
 replace F74 := Aside0.mk (Kd.R_below F74.out hb)
 replace F125 := Aside0.mk (Kd.R_below F125.out hb)
 replace F138 := Aside0.mk (Kd.R_below F138.out hb)
 replace F141 := Aside0.mk (Kd.R_below F141.out hb)
 replace HB := Aside0.mk (below_step HB.out hb)
 clear hb hd
 go_wp2
 go_ret
 exact ⟨eZ, bZ⟩
end Go.Proofs.Ytibfmfmekhocdaa.XL
end

section
namespace Go.Proofs.Ytibfmfmekhocdaa.Open
open Go.ChangeShapes Go.WideShapes Go.RowKit Go.Proofs.YtibfmfmekhocdaaW.PrintWords
set_option linter.unusedVariables false
def Opens (P : Program) (t : TypeId) {α : Type} (d : Kd α) (Q : α → Prop) : Prop :=
  P.cellsOf t = d.sz ∧ ∀ (H : Type) (enc : TypeId × Value → H) (w : World) (base : Nat) (spare : Nat → Bool) (held : Bool) (fuel : Nat) (cs : List Value) (x : DataW H × List MemPlace),
    DataW.trod enc P w base spare held fuel t cs = some x → ∃ a : α, d.K w a cs ∧ Q a
theorem Opens.int {P : Program} {t : TypeId} {k : IntKind} (hu : P.underlying t = some (.int k)) (hc : P.cellsOf t = 1) : Opens P t (Kd.int k) (fun n => (Lit.int k n).wf = true) := by
  refine ⟨hc, fun H enc w base spare held fuel cs x h => ?_⟩
  obtain ⟨n, rfl, _, hw⟩ := DataW.trod_int hu h
  exact ⟨n, rfl, hw⟩
theorem Opens.bool {P : Program} {t : TypeId} (hu : P.underlying t = some .bool) (hc : P.cellsOf t = 1) : Opens P t Kd.bool (fun _ => True) := by
  refine ⟨hc, fun H enc w base spare held fuel cs x h => ?_⟩
  obtain ⟨b, rfl, _⟩ := DataW.trod_bool hu h
  exact ⟨b, rfl, trivial⟩
theorem Opens.string {P : Program} {t : TypeId} (hu : P.underlying t = some .string) (hc : P.cellsOf t = 1) : Opens P t Kd.string (fun s => s.size ≤ maxLen) := by
  refine ⟨hc, fun H enc w base spare held fuel cs x h => ?_⟩
  obtain ⟨s, rfl, _, hs⟩ := DataW.trod_string hu h
  exact ⟨s, rfl, hs⟩
theorem choose_list {α : Type} {n : Nat} {p : Nat → α → Prop} (h : ∀ i, i < n → ∃ x, p i x) : ∃ l : List α, l.length = n ∧ ∀ i x, l[i]? = some x → p i x := by
  induction n with
  | zero => exact ⟨[], rfl, fun i x hx => by simp at hx⟩
  | succ n ih =>
    obtain ⟨l, hl, hp⟩ := ih (fun i hi => h i (by omega))
    obtain ⟨x, hx⟩ := h n (by omega)
    refine ⟨l ++ [x], by simp [hl], fun i y hy => ?_⟩
    rcases Nat.lt_or_ge i l.length with hi | hi
    · rw [List.getElem?_append_left hi] at hy
      exact hp i y hy
    · have : i = l.length := by
        have := (List.getElem?_eq_some_iff.1 hy).1
        simp at this
        omega
      subst this
      simp at hy
      subst hy
      rw [hl]
      exact hx
theorem cells?_get {w : World} {base : Nat} {a : Addr} {n : Nat} {cs : List Value} (h : w.cells? base a n = some cs) (i : Nat) (u : Value) (hu : cs[i]? = some u) : w.cell? (a.add i) = some u := by
  unfold World.cells? at h
  split at h
  · have hlen : cs.length = n := by simpa using mapM_some_length h
    have hi : i < n := by
      have := (List.getElem?_eq_some_iff.1 hu).1
      omega
    have := mapM_some_get h i i (by simp [hi])
    rw [hu] at this
    exact this
  · cases h
theorem Opens.slice {P : Program} {t e : TypeId} {α : Type} {d : Kd α} {Q : α → Prop} (hu : P.underlying t = some (.slice e)) (hc : P.cellsOf t = 1) (hd : Opens P e d Q) :
    Opens P t (Kd.slice e d) (fun xs => xs.length ≤ maxLen ∧ ∀ x ∈ xs, Q x) := by
  refine ⟨hc, fun H enc w base spare held fuel cs x h => ?_⟩
  rcases Go.Deep.open_slice hu h with ⟨rfl, _⟩ | ⟨a, len, cap, m, n, D, Pl, rfl, _, hl, hm, hmm, _, hx⟩
  · exact ⟨[], ⟨none, 0, rfl, Nat.le_refl _, rfl, by simp, fun h => absurd h (by simp)⟩, by simp, fun x hx => by simp at hx⟩
  · have hlm : len ≤ m := by rw [hmm]; split <;> omega
    obtain ⟨l, hl1, hp⟩ := choose_list (n := len) (p := fun i (x : α) => ∃ cs', w.cells? base (a.add (i * d.sz)) d.sz = some cs' ∧ d.K w x cs' ∧ Q x) (fun i hi => by
      obtain ⟨cs', h1, h2⟩ := hx i (by omega)
      rw [hd.1] at h1
      obtain ⟨y, hy, hq⟩ := hd.2 H enc w base spare held n cs' _ h2
      exact ⟨y, cs', h1, hy, hq⟩)
    have hmax : (maxLen : Nat) = 9223372036854775807 := by unfold maxLen; omega
    refine ⟨l, ⟨some a, cap, by rw [hl1], by omega, rfl, by omega, fun _ => ⟨a, rfl, fun j p hj => ?_⟩⟩, by omega, fun x hx => ?_⟩
    · obtain ⟨cs', h1, h2, _⟩ := hp j p hj
      refine ⟨cs', d.K_len h2, h2, fun i u hi => ?_⟩
      have := cells?_get h1 i u hi
      rwa [Go.Deep.add_add] at this
    · obtain ⟨i, hi, rfl⟩ := List.mem_iff_getElem.1 hx
      obtain ⟨cs', _, _, h3⟩ := hp i _ (List.getElem?_eq_getElem hi)
      exact h3
def OpensF (P : Program) (fs : List Field) (off : Nat) {α : Type} (d : Kd α) (Q : α → Prop) : Prop :=
  ∀ (H : Type) (enc : TypeId × Value → H) (w : World) (base : Nat) (spare : Nat → Bool) (held : Bool) (n : Nat) (cs : List Value), off + d.sz = cs.length →
    (∀ f ∈ fs, ∃ y, DataW.trod enc P w base spare held n f.type ((cs.drop f.offset).take (P.cellsOf f.type)) = some y) → ∃ a : α, d.K w a (cs.drop off) ∧ Q a
theorem OpensF.one {P : Program} {f : Field} {off : Nat} {α : Type} {d : Kd α} {Q : α → Prop} (ho : f.offset = off) (h : Opens P f.type d Q) : OpensF P [f] off d Q := by
  intro H enc w base spare held n cs hl hf
  obtain ⟨y, hy⟩ := hf f List.mem_cons_self
  rw [ho, h.1, List.take_of_length_le (by rw [List.length_drop]; omega)] at hy
  exact h.2 H enc w base spare held n _ y hy
theorem OpensF.cons {P : Program} {f : Field} {fs : List Field} {off : Nat} {α β : Type} {d1 : Kd α} {d2 : Kd β} {Q1 : α → Prop} {Q2 : β → Prop} (ho : f.offset = off) (h : Opens P f.type d1 Q1) (hs : OpensF P fs (off + d1.sz) d2 Q2) :
    OpensF P (f :: fs) off (Kd.pair d1 d2) (fun x => Q1 x.1 ∧ Q2 x.2) := by
  intro H enc w base spare held n cs hl hf
  have hl' : off + (d1.sz + d2.sz) = cs.length := hl
  obtain ⟨y, hy⟩ := hf f List.mem_cons_self
  rw [ho, h.1] at hy
  obtain ⟨a, ha, qa⟩ := h.2 H enc w base spare held n _ y hy
  obtain ⟨b, hb, qb⟩ := hs H enc w base spare held n cs (by omega) (fun g hg => hf g (List.mem_cons_of_mem _ hg))
  refine ⟨(a, b), ⟨_, _, ?_, ha, hb⟩, qa, qb⟩
  rw [← List.drop_drop, List.take_append_drop]
theorem open_sl {H : Type} {enc : TypeId × Value → H} {P : Program} {W : World} {base B : Nat} {spare : Nat → Bool} {held : Bool} {t e : TypeId} {v : Value} {dd : DataW H} {ps : List MemPlace} {α : Type} {d : Kd α} {Q : α → Prop}
    (hu : P.underlying t = some (.slice e)) (hc : P.cellsOf t = 1) (hd : Opens P e d Q) (hv : Value.okWide P W .any B t v) (h : DataW.Trod enc P W base spare held t v dd ps) :
    ∃ (A : Option Addr) (c : Nat) (l : List α), v = .slice A l.length c ∧ l.length ≤ c ∧ Kd.C d W A l.length l ∧ l.length ≤ maxLen ∧ ∀ x ∈ l, Q x := by
  obtain ⟨a0, len, cap, rfl⟩ := okWide_slice hu hv
  obtain ⟨fuel, hf⟩ := h
  obtain ⟨l, ⟨A, c, he, hl, hC⟩, hm, hq⟩ := (Opens.slice hu hc hd).2 H enc W base spare held fuel _ _ hf
  refine ⟨A, c, l, ?_, hl, hC, hm, hq⟩
  simpa [Value.cells] using he
end Go.Proofs.Ytibfmfmekhocdaa.Open
end

section
namespace Go.Proofs.Ytibfmfmekhocdaa.XL
open Go.RowKit Go.Proofs.YtibfmfmekhocdaaW.PrintWords
def laws_FnExactCountLines.Pure : Prop := ∀ (a0 : List ByteArray), ((a0.length ≤ maxLen ∧ ∀ y2 ∈ a0, y2.size ≤ maxLen)) → ∃ k, laws_FnExactCountLines.f k a0 = some true
end Go.Proofs.Ytibfmfmekhocdaa.XL
end

section
namespace Go.Proofs.Ytibfmfmekhocdaa.LinesL
open Go.RowKit Go.Proofs.YtibfmfmekhocdaaW.PrintWords Go.Proofs.Ytibfmfmekhocdaa.XL Go.Proofs.Ytibfmfmekhocdaa.EvK
set_option linter.unusedVariables false
set_option linter.unusedSimpArgs false
def okByte (a b : Int) (c : UInt8) : Bool := decide (a ≤ (c.toNat : Int)) && decide ((c.toNat : Int) ≤ b)
def within (s : ByteArray) (a b : Int) : Bool := s.data.toList.all (okByte a b)
def lineOk (s : ByteArray) : Bool := within s 32 126 && decide ((s.size : Int) ≤ 100)
def repOk (l : List ByteArray) : Bool := l.all lineOk && decide ((l.length : Int) ≤ 200)
theorem bytesWithin_ev (s : ByteArray) (a b : Int) (h : s.size ≤ 1048576) : Ev (fun k => impl_bytesWithin.f k s a b) (within s a b) := by
  unfold impl_bytesWithin.f within
  rw [size_len']  at h
  have := all_ev (L := fun k i => impl_bytesWithin.l0 k s a b (s.size : Int) i) s.data.toList (okByte a b) true ?_ ?_ ?_
  · simpa using this
  · intro i hi hp P K
    simp only [okByte, Bool.and_eq_true, decide_eq_true_eq] at hp
    refine EvP.step (fun k => impl_bytesWithin.l0.eq_2 _ _ _ _ _ k) ?_
    simp only [size_len, if_pos (show (i : Int) < (s.data.toList.length : Int) by omega), if_pos (show (0 : Int) ≤ (i : Int) by omega), bytes_at_ s i hi, if_neg (show ¬ ((s.data.toList[i].toNat : Int) < a) by omega), if_neg (show ¬ ((s.data.toList[i].toNat : Int) > b) by omega), w64 (show -9223372036854775808 ≤ (i : Int) + 1 by omega) (by omega)]
    simpa only [size_len] using K
  · intro i hi hp
    simp only [okByte, Bool.and_eq_false_iff, decide_eq_false_iff_not] at hp
    refine Ev.step (fun k => impl_bytesWithin.l0.eq_2 _ _ _ _ _ k) ?_
    simp only [size_len, if_pos (show (i : Int) < (s.data.toList.length : Int) by omega), if_pos (show (0 : Int) ≤ (i : Int) by omega), bytes_at_ s i hi]
    by_cases h1 : (s.data.toList[i].toNat : Int) < a
    · simp only [if_pos h1]; exact Ev.now _
    · simp only [if_neg h1, if_pos (show (s.data.toList[i].toNat : Int) > b by omega)]; exact Ev.now _
  · refine Ev.step (fun k => impl_bytesWithin.l0.eq_2 _ _ _ _ _ k) ?_
    simp only [size_len, if_neg (show ¬ (s.data.toList.length : Int) < (s.data.toList.length : Int) by omega)]
    exact Ev.now _
theorem impl_line_ev (s : ByteArray) (h : s.size ≤ 1048576) : Ev (fun k => impl_lineValid.f k s) (lineOk s) := by
  unfold impl_lineValid.f lineOk
  by_cases h1 : (s.size : Int) ≤ 100
  · simp only [if_pos h1, h1, decide_true, Bool.and_true]
    exact Ev.bind (bytesWithin_ev s 32 126 h) (Ev.now _)
  · simp only [if_neg h1, h1, decide_false, Bool.and_false]
    exact Ev.now _
theorem spec_line_ev (s : ByteArray) (h : s.size ≤ 1048576) : Ev (fun k => spec_l30Line.f k s) (lineOk s) := by
  unfold spec_l30Line.f lineOk within
  rw [size_len']  at h
  refine all_ev (L := fun k i => spec_l30Line.l0 k s i) s.data.toList (okByte 32 126) (decide ((s.size : Int) ≤ 100)) ?_ ?_ ?_
  · intro i hi hp P K
    simp only [okByte, Bool.and_eq_true, decide_eq_true_eq] at hp
    refine EvP.step (fun k => spec_l30Line.l0.eq_2 _ _ k) ?_
    simp only [size_len, if_pos (show (i : Int) < (s.data.toList.length : Int) by omega), if_pos (show (0 : Int) ≤ (i : Int) by omega), bytes_at_ s i hi, if_neg (show ¬ ((s.data.toList[i].toNat : Int) < 32) by omega), if_neg (show ¬ ((s.data.toList[i].toNat : Int) > 126) by omega), w64 (show -9223372036854775808 ≤ (i : Int) + 1 by omega) (by omega)]
    exact K
  · intro i hi hp
    simp only [okByte, Bool.and_eq_false_iff, decide_eq_false_iff_not] at hp
    refine Ev.step (fun k => spec_l30Line.l0.eq_2 _ _ k) ?_
    simp only [size_len, if_pos (show (i : Int) < (s.data.toList.length : Int) by omega), if_pos (show (0 : Int) ≤ (i : Int) by omega), bytes_at_ s i hi]
    by_cases h1 : (s.data.toList[i].toNat : Int) < 32
    · simp only [if_pos h1]; exact Ev.now _
    · simp only [if_neg h1, if_pos (show (s.data.toList[i].toNat : Int) > 126 by omega)]; exact Ev.now _
  · refine Ev.step (fun k => spec_l30Line.l0.eq_2 _ _ k) ?_
    simp only [size_len, if_neg (show ¬ (s.data.toList.length : Int) < (s.data.toList.length : Int) by omega)]
    exact Ev.now _
theorem spec_rep_ev (l : List ByteArray) (hl : l.length ≤ 1048576) (hs : ∀ x ∈ l, x.size ≤ 1048576) : Ev (fun k => spec_l30Ok.f k l) (repOk l) := by
  unfold spec_l30Ok.f repOk
  refine all_ev (L := fun k i => spec_l30Ok.l0 k l i) l lineOk _ ?_ ?_ ?_
  · intro i hi hp P K
    have e : rdOf ByteArray.empty l (i : Int) = l[i] := getD_at l ByteArray.empty i hi
    refine EvP.step (fun k => spec_l30Ok.l0.eq_2 _ _ k) ?_
    simp only [if_pos (show (i : Int) < (l.length : Int) by omega), if_pos (show (0 : Int) ≤ (i : Int) by omega), e, w64 (show -9223372036854775808 ≤ (i : Int) + 1 by omega) (by omega)]
    refine EvP.bind (spec_line_ev l[i] (hs _ (List.getElem_mem hi))) ?_
    simp only [hp, if_true]
    exact K
  · intro i hi hp
    have e : rdOf ByteArray.empty l (i : Int) = l[i] := getD_at l ByteArray.empty i hi
    refine Ev.step (fun k => spec_l30Ok.l0.eq_2 _ _ k) ?_
    simp only [if_pos (show (i : Int) < (l.length : Int) by omega), if_pos (show (0 : Int) ≤ (i : Int) by omega), e]
    refine Ev.bind (spec_line_ev l[i] (hs _ (List.getElem_mem hi))) ?_
    simp only [hp, Bool.false_eq_true, if_false]
    exact Ev.now _
  · refine Ev.step (fun k => spec_l30Ok.l0.eq_2 _ _ k) ?_
    simp only [if_neg (show ¬ (l.length : Int) < (l.length : Int) by omega)]
    exact Ev.now _
theorem impl_rep_ev (l : List ByteArray) (hl : l.length ≤ 1048576) (hs : ∀ x ∈ l, x.size ≤ 1048576) : Ev (fun k => impl_ValidReport.f k l) (repOk l) := by
  unfold impl_ValidReport.f repOk
  by_cases h1 : (l.length : Int) > 200
  · simp only [if_pos h1, show ¬ (l.length : Int) ≤ 200 by omega, decide_false, Bool.and_false]
    exact Ev.now _
  simp only [if_neg h1, show (l.length : Int) ≤ 200 by omega, decide_true]
  refine all_ev (L := fun k i => impl_ValidReport.l0 k l (l.length : Int) i) l lineOk true ?_ ?_ ?_
  · intro i hi hp P K
    have e : rdOf ByteArray.empty l (i : Int) = l[i] := getD_at l ByteArray.empty i hi
    refine EvP.step (fun k => impl_ValidReport.l0.eq_2 _ _ _ k) ?_
    simp only [if_pos (show (i : Int) < (l.length : Int) by omega), if_pos (show (0 : Int) ≤ (i : Int) by omega), e, w64 (show -9223372036854775808 ≤ (i : Int) + 1 by omega) (by omega)]
    refine EvP.bind (impl_line_ev l[i] (hs _ (List.getElem_mem hi))) ?_
    simp only [hp, if_true]
    exact K
  · intro i hi hp
    have e : rdOf ByteArray.empty l (i : Int) = l[i] := getD_at l ByteArray.empty i hi
    refine Ev.step (fun k => impl_ValidReport.l0.eq_2 _ _ _ k) ?_
    simp only [if_pos (show (i : Int) < (l.length : Int) by omega), if_pos (show (0 : Int) ≤ (i : Int) by omega), e]
    refine Ev.bind (impl_line_ev l[i] (hs _ (List.getElem_mem hi))) ?_
    simp only [hp, Bool.false_eq_true, if_false]
    exact Ev.now _
  · refine Ev.step (fun k => impl_ValidReport.l0.eq_2 _ _ _ k) ?_
    simp only [if_neg (show ¬ (l.length : Int) < (l.length : Int) by omega)]
    exact Ev.now _
end Go.Proofs.Ytibfmfmekhocdaa.LinesL
end

section
namespace Go.Proofs.Ytibfmfmekhocdaa.PSort
open Go.RowKit Go.Proofs.YtibfmfmekhocdaaW.PrintWords Go.Proofs.YtibfmfmekhocdaaW.PrintMore Go.Proofs.Ytibfmfmekhocdaa.XL Go.Proofs.Ytibfmfmekhocdaa.EvK Go.Proofs.Ytibfmfmekhocdaa.SortT
set_option linter.unusedVariables false
set_option linter.unusedSimpArgs false
def insR (x : ByteArray) : List ByteArray → List ByteArray → List ByteArray
  | [], B => x :: B
  | a :: A, B => if key x < key a then insR x A (a :: B) else A.reverse ++ a :: x :: B
theorem insR_perm (x : ByteArray) : ∀ A B, (insR x A B).Perm (A.reverse ++ x :: B)
  | [], B => List.Perm.refl _
  | a :: A, B => by
    unfold insR
    split
    · refine (insR_perm x A (a :: B)).trans ?_
      simp only [List.reverse_cons, List.append_assoc, List.singleton_append]
      exact List.Perm.append_left _ (List.Perm.swap _ _ _)
    · simp
def leK (a b : ByteArray) : Prop := key a ≤ key b
theorem le_tr {a b c : List UInt8} (h : a ≤ b) (k : b ≤ c) : a ≤ c := List.le_trans h k
theorem le_of_lt {a b : List UInt8} (h : a < b) : a ≤ b := List.le_of_lt h
theorem le_of_not {a b : List UInt8} (h : ¬ a < b) : b ≤ a := List.not_lt.1 h
theorem insR_sorted (x : ByteArray) : ∀ A B, (A.reverse ++ B).Pairwise leK → (∀ b ∈ B, key x < key b) → (insR x A B).Pairwise leK
  | [], B => fun h hb => by
    unfold insR
    exact List.pairwise_cons.2 ⟨fun b hm => le_of_lt (hb b hm), h⟩
  | a :: A, B => fun h hb => by
    unfold insR
    simp only [List.reverse_cons, List.append_assoc, List.singleton_append] at h
    split
    · rename_i hlt
      refine insR_sorted x A (a :: B) h (fun b hm => ?_)
      rcases List.mem_cons.1 hm with rfl | hm
      · exact hlt
      · exact hb b hm
    · rename_i hge
      have hax : leK a x := le_of_not hge
      rw [List.pairwise_append] at h ⊢
      obtain ⟨h1, h2, h3⟩ := h
      rw [List.pairwise_cons] at h2
      refine ⟨h1, List.pairwise_cons.2 ⟨fun b hm => ?_, List.pairwise_cons.2 ⟨fun b hm => le_of_lt (hb b hm), h2.2⟩⟩, fun c hc b hm => ?_⟩
      · rcases List.mem_cons.1 hm with rfl | hm
        · exact hax
        · exact h2.1 b hm
      · rcases List.mem_cons.1 hm with rfl | hm
        · exact h3 c hc _ List.mem_cons_self
        · rcases List.mem_cons.1 hm with rfl | hm
          · exact le_tr (h3 c hc a List.mem_cons_self) hax
          · exact h3 c hc b (List.mem_cons_of_mem _ hm)
theorem getD_mid {α : Type} (L M : List α) (a d : α) : (L ++ a :: M).getD L.length d = a := by simp
theorem getD_mid2 {α : Type} (L M : List α) (a x d : α) : (L ++ a :: x :: M).getD (L.length + 1) d = x := by
  simp
theorem swap_mid {α : Type} (L M : List α) (a x : α) : ((L ++ a :: x :: M).set (L.length + 1) a).set L.length x = L ++ x :: a :: M := by
  apply List.ext_getElem?
  intro i
  simp only [List.getElem?_set, List.length_set, List.length_append, List.length_cons, List.getElem?_append]
  by_cases h1 : L.length = i
  · subst h1
    simp
  · by_cases h2 : L.length + 1 = i
    · subst h2
      simp
    · simp only [h1, h2, if_false]
      by_cases h3 : i < L.length
      · simp [h3]
      · obtain ⟨j, rfl⟩ : ∃ j, i = L.length + 2 + j := ⟨i - L.length - 2, by omega⟩
        simp [show L.length + 2 + j - L.length = j + 2 by omega]
theorem inner (x : ByteArray) (x4 : Int) (r : List ByteArray) : ∀ (A B R : List ByteArray), A.length + B.length + R.length + 1 ≤ 1048576 →
    Ev (fun k => spec_l30Sorted.l0 k (insR x A B ++ R) (wrap64 (x4 + 1))) r → Ev (fun k => spec_l30Sorted.l1 k (A.reverse ++ x :: (B ++ R)) x4 (A.length : Int)) r
  | [], B, R, hl, h => by
    refine Ev.step (fun k => spec_l30Sorted.l1.eq_2 _ _ _ k) ?_
    simp only [List.length_nil, Int.natCast_zero, gt_iff_lt, Int.lt_irrefl, if_false, List.reverse_nil, List.nil_append]
    exact h
  | a :: A, B, R, hl, h => by
    simp only [List.length_cons] at hl
    have e1 : wrap64 (((a :: A).length : Int) - 1) = (A.length : Int) := by rw [List.length_cons, w64 (by omega) (by omega)]; omega
    have e2 : (a :: A).reverse ++ x :: (B ++ R) = A.reverse ++ a :: x :: (B ++ R) := by simp
    have e3 : ((a :: A).length : Int) = ((A.length + 1 : Nat) : Int) := by rw [List.length_cons]
    have hlen : (A.reverse ++ a :: x :: (B ++ R)).length = A.length + B.length + R.length + 2 := by simp; omega
    refine Ev.step (fun k => spec_l30Sorted.l1.eq_2 _ _ _ k) ?_
    rw [e1, e2, e3]
    have g1 : rdOf ByteArray.empty (A.reverse ++ a :: x :: (B ++ R)) ((A.length + 1 : Nat) : Int) = x := by
      unfold rdOf
      rw [Int.toNat_natCast]
      have := getD_mid2 A.reverse (B ++ R) a x ByteArray.empty
      rwa [List.length_reverse] at this
    have g2 : rdOf ByteArray.empty (A.reverse ++ a :: x :: (B ++ R)) (A.length : Int) = a := by
      unfold rdOf
      rw [Int.toNat_natCast]
      have := getD_mid A.reverse (x :: (B ++ R)) a ByteArray.empty
      rwa [List.length_reverse] at this
    simp only [g1, g2, if_pos (show ((A.length + 1 : Nat) : Int) > 0 by omega), if_pos (show (0 : Int) ≤ (A.length : Int) by omega), if_pos (show (A.length : Int) < ((A.reverse ++ a :: x :: (B ++ R)).length : Int) by rw [hlen]; omega), if_pos (show (0 : Int) ≤ ((A.length + 1 : Nat) : Int) by omega), if_pos (show ((A.length + 1 : Nat) : Int) < ((A.reverse ++ a :: x :: (B ++ R)).length : Int) by rw [hlen]; omega), key_toList, Go.Proofs.bytesLess_eq, decide_eq_true_eq, Int.toNat_natCast]
    by_cases hlt : key x < key a
    · simp only [if_pos hlt]
      have hs := swap_mid A.reverse (B ++ R) a x
      rw [List.length_reverse] at hs
      rw [hs]
      have hi : insR x (a :: A) B = insR x A (a :: B) := by show (if key x < key a then _ else _) = _; rw [if_pos hlt]
      rw [hi] at h
      have := inner x x4 r A (a :: B) R (by simp only [List.length_cons]; omega) h
      simpa using this
    · simp only [if_neg hlt]
      have hi : insR x (a :: A) B = A.reverse ++ a :: x :: B := by show (if key x < key a then _ else _) = _; rw [if_neg hlt]
      rw [hi] at h
      simpa using h
theorem outer : ∀ (R S : List ByteArray), S.length + R.length ≤ 1048576 → S.Pairwise leK → ∃ out, Ev (fun k => spec_l30Sorted.l0 k (S ++ R) (S.length : Int)) out ∧ out.Pairwise leK ∧ out.Perm (S ++ R)
  | [], S, hl, hs => by
    refine ⟨S, ?_, hs, by simp⟩
    refine Ev.step (fun k => spec_l30Sorted.l0.eq_2 _ _ k) ?_
    simp only [List.append_nil, if_neg (show ¬ (S.length : Int) < (S.length : Int) by omega)]
    exact Ev.now _
  | x :: R, S, hl, hs => by
    simp only [List.length_cons] at hl
    have hp : (insR x S.reverse []).Perm (S ++ [x]) := by have := insR_perm x S.reverse []; rwa [List.reverse_reverse] at this
    have hlen : (insR x S.reverse []).length = S.length + 1 := by rw [hp.length_eq]; simp
    obtain ⟨out, h1, h2, h3⟩ := outer R (insR x S.reverse []) (by rw [hlen]; omega) (insR_sorted x S.reverse [] (by rw [List.reverse_reverse, List.append_nil]; exact hs) (by simp))
    refine ⟨out, ?_, h2, h3.trans ?_⟩
    · refine Ev.step (fun k => spec_l30Sorted.l0.eq_2 _ _ k) ?_
      simp only [if_pos (show (S.length : Int) < ((S ++ x :: R).length : Int) by simp; omega)]
      have := inner x (S.length : Int) out S.reverse [] R (by simp; omega) (by rw [hlen] at h1; rw [w64 (by omega) (by omega)]; exact h1)
      rw [List.reverse_reverse, List.length_reverse, List.nil_append] at this
      exact this
    · refine (List.Perm.append_right R hp).trans ?_
      simp
theorem sortT_eq (l out : List ByteArray) (h1 : out.Pairwise leK) (h2 : out.Perm l) : out = sortT l := by
  have e : out.map key = (l.map key).mergeSort fun x y => decide (x ≤ y) := by
    refine List.Perm.eq_of_pairwise (le := fun a b : List UInt8 => a ≤ b) (fun a b _ _ hab hba => List.le_antisymm hab hba) (List.pairwise_map.2 h1) ?_ ((h2.map key).trans (List.mergeSort_perm _ _).symm)
    have := List.pairwise_mergeSort (le := fun x y : List UInt8 => decide (x ≤ y)) (fun a b c h k => by simp only [decide_eq_true_eq] at h k ⊢; exact le_tr h k) (fun a b => by simp only [Bool.or_eq_true, decide_eq_true_eq]; exact List.le_total a b) (l.map key)
    simpa using this
  unfold sortT
  rw [show (l.map fun b => b.data.toList) = l.map key from rfl, ← e, List.map_map]
  exact (List.map_id'' (f := (fun l => (⟨l.toArray⟩ : ByteArray)) ∘ key) (fun b => rfl) out).symm
theorem sorted_ev (l : List ByteArray) (hl : l.length ≤ 1048576) : Ev (fun k => spec_l30Sorted.f k l) (sortT l) := by
  unfold spec_l30Sorted.f
  refine Ev.bind (Ev.now _) ?_
  simp only [if_pos (show ([] : List ByteArray).length + l.length < 8796093022208 by simp; omega), List.nil_append]
  cases l with
  | nil =>
    refine Ev.step (fun k => spec_l30Sorted.l0.eq_2 _ _ k) ?_
    simp only [List.length_nil, if_neg (show ¬ (1 : Int) < ((0 : Nat) : Int) by omega)]
    have := sortT_eq [] [] List.Pairwise.nil (List.Perm.refl _)
    rw [← this]
    exact Ev.now _
  | cons x R =>
    obtain ⟨out, h1, h2, h3⟩ := outer R [x] (by simp only [List.length_cons] at hl ⊢; simp; omega) (List.pairwise_singleton _ _)
    rw [sortT_eq (x :: R) out h2 h3] at h1
    exact h1
end Go.Proofs.Ytibfmfmekhocdaa.PSort
end

section
namespace Go.Proofs.Ytibfmfmekhocdaa.PCount
open Go.RowKit Go.Proofs.YtibfmfmekhocdaaW.PrintWords Go.Proofs.YtibfmfmekhocdaaW.PrintMore Go.Proofs.Ytibfmfmekhocdaa.EvK Go.Proofs.Ytibfmfmekhocdaa.SortT Go.Proofs.Ytibfmfmekhocdaa.PSort Go.Proofs.Ytibfmfmekhocdaa.CntMap Go.Maps
set_option linter.unusedVariables false
set_option linter.unusedSimpArgs false
def add (acc : List (ByteArray × Nat)) (x : ByteArray) : List (ByteArray × Nat) := match acc.getLast? with
  | none => [(x, 1)]
  | some (y, c) => if key y = key x then acc.dropLast ++ [(y, c + 1)] else acc ++ [(x, 1)]
def runs (s : List ByteArray) : List (ByteArray × Nat) := s.foldl add []
theorem runs_snoc (s : List ByteArray) (x : ByteArray) : runs (s ++ [x]) = add (runs s) x := by simp [runs, List.foldl_append]
structure Good (s : List ByteArray) (r : List (ByteArray × Nat)) : Prop where
  last : r.getLast?.map (fun p => key p.1) = s.getLast?.map key
  rise : r.Pairwise (fun p q => key p.1 < key q.1)
  cnt : ∀ p ∈ r, p.2 = times s p.1
  mem : ∀ k, k ∈ s.map key ↔ k ∈ r.map (fun p => key p.1)
theorem good_runs (s : List ByteArray) : s.Pairwise leK → Good s (runs s) := by
  induction s using snoc_ind with
  | h0 => intro _; exact ⟨rfl, List.Pairwise.nil, by simp [runs], by simp [runs]⟩
  | h1 s x ih =>
    intro hp
    rw [List.pairwise_append] at hp
    obtain ⟨hp1, _, hp3⟩ := hp
    obtain ⟨g1, g2, g3, g4⟩ := ih hp1
    rw [runs_snoc]
    unfold add
    cases hr : (runs s).getLast? with
    | none =>
      rw [hr] at g1
      have hs : s = [] := by
        cases hs : s.getLast? with
        | none => exact List.getLast?_eq_none_iff.1 hs
        | some z => rw [hs] at g1; simp at g1
      subst hs
      exact ⟨by simp, by simp, by simp [times], by simp⟩
    | some p =>
      obtain ⟨y, c⟩ := p
      obtain ⟨r0, hr0⟩ : ∃ r0, runs s = r0 ++ [(y, c)] := by
        obtain ⟨ys, hy⟩ := List.getLast?_eq_some_iff.1 hr
        exact ⟨ys, hy⟩
      rw [hr] at g1
      simp only [Option.map_some] at g1
      rw [hr0] at g2 g3 g4 ⊢
      have hyx : key y ≤ key x := by
        cases hs : s.getLast? with
        | none => rw [hs] at g1; simp at g1
        | some z =>
          rw [hs] at g1
          simp only [Option.map_some, Option.some.injEq] at g1
          rw [g1]
          exact hp3 z (List.mem_of_getLast? hs) x (by simp)
      rw [List.pairwise_append] at g2
      obtain ⟨g21, _, g23⟩ := g2
      by_cases h : key y = key x
      · simp only [if_pos h]
        refine ⟨by simp [h], ?_, ?_, ?_⟩
        · rw [List.dropLast_concat, List.pairwise_append]
          exact ⟨g21, List.pairwise_singleton _ _, fun p hp q hq => by
            rw [List.mem_singleton.1 hq]
            exact g23 p hp (y, c) (by simp)⟩
        · intro p hp
          rw [List.dropLast_concat] at hp
          rcases List.mem_append.1 hp with hp | hp
          · have h1 := g3 p (List.mem_append_left _ hp)
            have h2 := g23 p hp (y, c) (by simp)
            have h3 : ¬ key x = key p.1 := by
              intro e
              rw [← h] at e
              have h2' : key p.1 < key y := h2
              rw [e] at h2'
              exact List.lt_irrefl _ h2'
            rw [h1]
            simp [times, List.countP_append, h3]
          · rw [List.mem_singleton.1 hp]
            have h1 := g3 (y, c) (by simp)
            show c + 1 = _
            have h1' : c = times s y := h1
            rw [h1']
            simp [times, List.countP_append, h]
        · intro k
          rw [List.dropLast_concat]
          have := g4 k
          simp only [List.map_append, List.mem_append, List.map_cons, List.map_nil, List.mem_singleton] at this ⊢
          rw [this]
          constructor
          · rintro (h1 | h1)
            · exact h1
            · exact .inr (h1.trans h.symm)
          · intro h1
            exact .inl h1
      · simp only [if_neg h]
        have hlt : key y < key x := by
          rcases List.le_iff_lt_or_eq.1 hyx with h1 | h1
          · exact h1
          · exact absurd h1 h
        have hall : ∀ p ∈ r0 ++ [(y, c)], key p.1 < key x := by
          intro p hp
          rcases List.mem_append.1 hp with hp | hp
          · exact List.lt_trans (g23 p hp (y, c) (by simp)) hlt
          · rw [List.mem_singleton.1 hp]; exact hlt
        refine ⟨by simp, ?_, ?_, ?_⟩
        · rw [List.pairwise_append]
          refine ⟨List.pairwise_append.2 ⟨g21, List.pairwise_singleton _ _, g23⟩, List.pairwise_singleton _ _, fun p hp q hq => ?_⟩
          rw [List.mem_singleton.1 hq]
          exact hall p hp
        · intro p hp
          rcases List.mem_append.1 hp with hp | hp
          · have h3 : ¬ key x = key p.1 := by
              intro e
              have := hall p hp
              rw [e] at this
              exact List.lt_irrefl _ this
            rw [g3 p hp]
            simp [times, List.countP_append, h3]
          · rw [List.mem_singleton.1 hp]
            show 1 = _
            have h0 : times s x = 0 := by
              unfold times
              rw [List.countP_eq_zero]
              intro b hb
              have hm : key b ∈ (r0 ++ [(y, c)]).map (fun p => key p.1) := (g4 _).1 (List.mem_map.2 ⟨b, hb, rfl⟩)
              obtain ⟨p, hp, he⟩ := List.mem_map.1 hm
              have h3 := hall p hp
              rw [he] at h3
              simp only [beq_iff_eq]
              intro e
              rw [e] at h3
              exact List.lt_irrefl _ h3
            have : times (s ++ [x]) x = times s x + 1 := by simp [times, List.countP_append]
            rw [this, h0]
        · intro k
          have := g4 k
          simp only [List.map_append, List.mem_append, List.map_cons, List.map_nil, List.mem_singleton] at this ⊢
          rw [this]
theorem keys_runs (l : List ByteArray) : (Go.strKeys (cntD l)).mergeSort (fun x y => decide (x ≤ y)) = (runs (sortT l)).map (fun p => key p.1) := by
  have hs : (sortT l).map key = (l.map key).mergeSort fun x y => decide (x ≤ y) := by unfold sortT; rw [List.map_map]; exact List.map_id'' (fun b => rfl) _
  have hsorted : (sortT l).Pairwise leK := by
    have := List.pairwise_mergeSort (le := fun x y : List UInt8 => decide (x ≤ y)) (fun a b c h k => by simp only [decide_eq_true_eq] at h k ⊢; exact le_tr h k) (fun a b => by simp only [Bool.or_eq_true, decide_eq_true_eq]; exact List.le_total a b) (l.map key)
    rw [← hs] at this
    have h2 := List.pairwise_map.1 this
    exact h2.imp (fun h => by simpa [leK] using h)
  obtain ⟨_, g2, _, g4⟩ := good_runs (sortT l) hsorted
  obtain ⟨es, he, hk⟩ := keysD l
  have ht : es.Pairwise (fun p q => p.1 ≠ q.1) := by
    obtain ⟨es2, e2, h2⟩ := tidyD l
    rw [he] at e2
    injection e2 with e2
    rw [e2]
    exact h2
  have hnd : ((runs (sortT l)).map (fun p => key p.1)).Pairwise (fun a b => a < b) := List.pairwise_map.2 g2
  have hperm : ((runs (sortT l)).map (fun p => key p.1)).Perm (Go.strKeys (cntD l)) := by
    rw [he]
    refine Go.perm_strKeys ht hk (hnd.imp (fun h => fun e => by rw [e] at h; exact List.lt_irrefl _ h)) (fun x => ?_)
    rw [← he, has_mem, ← g4 x, hs]
    exact ((List.mergeSort_perm _ _).mem_iff)
  refine List.Perm.eq_of_pairwise (le := fun a b : List UInt8 => a ≤ b) (fun a b _ _ hab hba => List.le_antisymm hab hba) ?_ (hnd.imp (fun h => le_of_lt h)) ((List.mergeSort_perm _ _).trans hperm.symm)
  have := List.pairwise_mergeSort (le := fun x y : List UInt8 => decide (x ≤ y)) (fun a b c h k => by simp only [decide_eq_true_eq] at h k ⊢; exact le_tr h k) (fun a b => by simp only [Bool.or_eq_true, decide_eq_true_eq]; exact List.le_total a b) (Go.strKeys (cntD l))
  simpa using this
theorem counts_runs (l : List ByteArray) (hl : l.length ≤ 1048576) : ∀ p ∈ runs (sortT l), cntOf (cntD l) p.1 = (p.2 : Int) := by
  have hs : (sortT l).map key = (l.map key).mergeSort fun x y => decide (x ≤ y) := by unfold sortT; rw [List.map_map]; exact List.map_id'' (fun b => rfl) _
  have hsorted : (sortT l).Pairwise leK := by
    have := List.pairwise_mergeSort (le := fun x y : List UInt8 => decide (x ≤ y)) (fun a b c h k => by simp only [decide_eq_true_eq] at h k ⊢; exact le_tr h k) (fun a b => by simp only [Bool.or_eq_true, decide_eq_true_eq]; exact List.le_total a b) (l.map key)
    rw [← hs] at this
    have h2 := List.pairwise_map.1 this
    exact h2.imp (fun h => by simpa [leK] using h)
  obtain ⟨_, _, g3, _⟩ := good_runs (sortT l) hsorted
  intro p hp
  rw [cnt_eq l p.1 hl, g3 p hp]
  congr 1
  unfold times
  have e1 : ∀ (s : List ByteArray), s.countP (fun b => key b == key p.1) = (s.map key).count (key p.1) := by
    intro s
    rw [List.count, List.countP_map]
    rfl
  rw [e1, e1, hs]
  exact ((List.mergeSort_perm _ _).count_eq _).symm
end Go.Proofs.Ytibfmfmekhocdaa.PCount
end

section
namespace Go.Proofs.Ytibfmfmekhocdaa.PCntSpec
open Go.RowKit Go.Proofs.YtibfmfmekhocdaaW.PrintWords Go.Proofs.YtibfmfmekhocdaaW.PrintMore Go.Proofs.Ytibfmfmekhocdaa.XL Go.Proofs.Ytibfmfmekhocdaa.EvK Go.Proofs.Ytibfmfmekhocdaa.SortT Go.Proofs.Ytibfmfmekhocdaa.PSort Go.Proofs.Ytibfmfmekhocdaa.CntMap Go.Proofs.Ytibfmfmekhocdaa.PCount
set_option linter.unusedVariables false
set_option linter.unusedSimpArgs false
theorem shape (S : List ByteArray) : (S = [] ∧ runs S = []) ∨ ∃ (S0 : List ByteArray) (z : ByteArray) (r0 : List (ByteArray × Nat)) (y : ByteArray) (c : Nat), S = S0 ++ [z] ∧ runs S = r0 ++ [(y, c)] ∧ key y = key z ∧ c ≤ S.length ∧ r0.length + 1 ≤ S.length := by
  induction S using snoc_ind with
  | h0 => exact .inl ⟨rfl, rfl⟩
  | h1 l x ih =>
    refine .inr ?_
    rw [runs_snoc]
    rcases ih with ⟨rfl, hr⟩ | ⟨S0, z, r0, y, c, hS, hr, hk, hc, hn⟩
    · rw [hr]
      exact ⟨[], x, [], x, 1, rfl, rfl, rfl, by simp, by simp⟩
    · rw [hr]
      unfold add
      rw [List.getLast?_concat]
      by_cases h : key y = key x
      · simp only [if_pos h, List.dropLast_concat]
        exact ⟨l, x, r0, y, c + 1, rfl, rfl, h, by simp; omega, by simp; omega⟩
      · simp only [if_neg h]
        exact ⟨l, x, r0 ++ [(y, c)], x, 1, rfl, rfl, rfl, by simp, by simp; omega⟩
theorem runs_len (S : List ByteArray) : (runs S).length ≤ S.length := by
  rcases shape S with ⟨h, hr⟩ | ⟨S0, z, r0, y, c, hS, hr, hk, hc, hn⟩
  · rw [hr]; simp
  · rw [hr]; simp; omega
theorem last_ix (L : List Int) (v : Int) (hl : L.length ≤ 1048576) : wrap64 (((L ++ [v]).length : Int) - 1) = (L.length : Int) := by
  simp only [List.length_append, List.length_cons, List.length_nil]
  rw [w64 (by omega) (by omega)]
  omega
theorem bump (L : List Int) (v : Int) (h0 : 0 ≤ v) (h1 : v ≤ 1048576) : (L ++ [v]).set ((L.length : Int)).toNat (wrap64 (rd (L ++ [v]) (L.length : Int) + 1)) = L ++ [v + 1] := by
  have e : rd (L ++ [v]) (L.length : Int) = v := by rw [rd_at _ _ (by simp)]; simp
  rw [e, w64 (by omega) (by omega), Int.toNat_natCast]
  simp
theorem spec_loop : ∀ (R S : List ByteArray), (S ++ R).length ≤ 1048576 → Ev (fun k => spec_CountLines.l0 k (S ++ R) ((runs S).map (fun p => p.1)) ((runs S).map fun p => (p.2 : Int)) (S.length : Int)) ((runs (S ++ R)).map (fun p => p.1), (runs (S ++ R)).map (fun p => (p.2 : Int)), 0)
  | [], S, hl => by
    refine Ev.step (fun k => spec_CountLines.l0.eq_2 _ _ _ _ k) ?_
    simp only [List.append_nil, if_neg (show ¬ (S.length : Int) < (S.length : Int) by omega)]
    exact Ev.now _
  | x :: R, S, hl => by
    have hl' := hl
    simp only [List.length_append, List.length_cons] at hl'
    have ih := spec_loop R (S ++ [x]) (by simp; omega)
    rw [List.append_assoc, List.singleton_append, runs_snoc] at ih
    have hi : wrap64 ((S.length : Int) + 1) = ((S ++ [x]).length : Int) := by rw [w64 (by omega) (by omega)]; simp
    have hx : rdOf ByteArray.empty (S ++ x :: R) (S.length : Int) = x := by unfold rdOf; rw [Int.toNat_natCast]; exact getD_mid S R x _
    refine Ev.step (fun k => spec_CountLines.l0.eq_2 _ _ _ _ k) ?_
    simp only [if_pos (show (S.length : Int) < ((S ++ x :: R).length : Int) by simp; omega), hx, hi, if_pos (show (0 : Int) ≤ (S.length : Int) by omega)]
    rcases shape S with ⟨hS, hr⟩ | ⟨S0, z, r0, y, c, hS, hr, hk, hc, hn⟩
    · rw [hr] at ih ⊢
      simp only [add, List.getLast?_nil, List.map_nil, List.map_cons] at ih
      have e0 := last_ix [] 0 (by simp)
      have e1 := bump [] 0 (by omega) (by omega)
      simp only [List.map_nil, if_pos (show (S.length : Int) = 0 by rw [hS]; rfl), List.length_nil, if_pos (show (0 : Nat) < 8796093022208 by omega), if_pos (show (0 : Nat) < 17592186044416 by omega)]
      refine Ev.bind (Ev.now _) ?_
      simp only [e0, e1, if_pos (show (0 : Int) ≤ (([] : List Int).length : Int) by simp), if_pos (show (([] : List Int).length : Int) < ((([] : List Int) ++ [0]).length : Int) by simp)]
      exact ih
    · have hpos : 0 < S.length := by rw [hS]; simp
      have hz : rdOf ByteArray.empty (S ++ x :: R) (wrap64 ((S.length : Int) - 1)) = z := by
        rw [w64 (by omega) (by omega), show (S.length : Int) - 1 = (S0.length : Int) by rw [hS]; simp]
        unfold rdOf
        rw [Int.toNat_natCast, hS, List.append_assoc]
        exact getD_mid S0 (x :: R) z _
      have hw : wrap64 ((S.length : Int) - 1) = (S.length : Int) - 1 := w64 (by omega) (by omega)
      have hlen : (r0.map fun p : ByteArray × Nat => (p.2 : Int)).length = r0.length := by simp
      rw [hr] at ih ⊢
      simp only [if_neg (show ¬ (S.length : Int) = 0 by omega), hz, key_toList]
      simp only [hw, if_pos (show (0 : Int) ≤ (S.length : Int) - 1 by omega), if_pos (show (S.length : Int) - 1 < ((S ++ x :: R).length : Int) by simp; omega)]
      simp only [add, List.getLast?_concat, List.dropLast_concat] at ih
      simp only [List.map_append, List.map_cons, List.map_nil]
      by_cases h : key y = key x
      · have h' : key x = key z := h.symm.trans hk
        have e0 := last_ix (r0.map fun p : ByteArray × Nat => (p.2 : Int)) (c : Int) (by omega)
        have e1 := bump (r0.map fun p : ByteArray × Nat => (p.2 : Int)) (c : Int) (by omega) (by omega)
        simp only [if_pos h, List.map_append, List.map_cons, List.map_nil] at ih
        simp only [if_pos h', e0, e1, if_pos (show (0 : Int) ≤ ((r0.map fun p : ByteArray × Nat => (p.2 : Int)).length : Int) by omega), if_pos (show ((r0.map fun p : ByteArray × Nat => (p.2 : Int)).length : Int) < (((r0.map fun p : ByteArray × Nat => (p.2 : Int)) ++ [(c : Int)]).length : Int) by rw [List.length_append, List.length_singleton]; omega)]
        exact ih
      · have h' : ¬ key x = key z := fun e => h (hk.trans e.symm)
        have e0 := last_ix ((r0.map fun p : ByteArray × Nat => (p.2 : Int)) ++ [(c : Int)]) 0 (by simp; omega)
        have e1 := bump ((r0.map fun p : ByteArray × Nat => (p.2 : Int)) ++ [(c : Int)]) 0 (by omega) (by omega)
        simp only [if_neg h, List.map_append, List.map_cons, List.map_nil] at ih
        simp only [if_neg h', if_pos (show ((r0.map fun p : ByteArray × Nat => p.1) ++ [y]).length < 8796093022208 by simp; omega), if_pos (show ((r0.map fun p : ByteArray × Nat => (p.2 : Int)) ++ [(c : Int)]).length < 17592186044416 by simp; omega)]
        refine Ev.bind (Ev.now _) ?_
        simp only [e0, e1, if_pos (show (0 : Int) ≤ (((r0.map fun p : ByteArray × Nat => (p.2 : Int)) ++ [(c : Int)]).length : Int) by omega), if_pos (show (((r0.map fun p : ByteArray × Nat => (p.2 : Int)) ++ [(c : Int)]).length : Int) < (((r0.map fun p : ByteArray × Nat => (p.2 : Int)) ++ [(c : Int)] ++ [0]).length : Int) by rw [List.length_append, List.length_append, List.length_append, List.length_singleton, List.length_singleton]; omega)]
        exact ih
end Go.Proofs.Ytibfmfmekhocdaa.PCntSpec
end
