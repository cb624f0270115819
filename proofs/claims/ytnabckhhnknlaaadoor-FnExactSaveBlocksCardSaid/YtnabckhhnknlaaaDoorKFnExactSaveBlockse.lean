/- The law FnExactSaveBlocks: part 4 of its texts, joined (wip/pack.py). -/
import Derived.Test.YtnabckhhnknlaaaDoorKFnExactSaveBlocksa
import Derived.Test.YtnabckhhnknlaaaDoorKFnExactSaveBlocksb
import Derived.Test.YtnabckhhnknlaaaDoorKFnExactSaveBlocksc
import Derived.Test.YtnabckhhnknlaaaDoorKFnExactSaveBlocksd
import Derived.Test.YtnabckhhnknlaaaDoorProg
import Derived.Lib.Builder
import Derived.Lib.Strings
import Derived.Lib.Slices
import Derived.Lib.Walk
import Derived.Lib.AppendStr
import Derived.Lib.UnsafeStr
import Derived.WalkKit
import Derived.Laws.Externs
import Derived.Laws.IdiomCopy
import Derived.Laws.BitsLemmas
import Derived.KernelRfl
import Derived.Deep.Slices
import Derived.SizedLaws
import Derived.ChangeArms
import Derived.WideShapes
import Derived.Lib.IndexLaws
import Derived.Lib.IndexBytes
import Derived.Lib.IndexMore
import Derived.Handed
import Derived.HandedShaped
import Derived.Stop.LaidErr
import Derived.Test.YtnabckhhnknlaaaDoorRows
import Derived.ProofKit
import Derived.OpenShut
import Derived.ShutString
import Derived.ChangeOld
import Derived.Below
import Derived.Lib.LaidTab
import Derived.Lib.ItoaNum
import Derived.LaidMore
import Derived.Lay
import Derived.SevenTiedAt
import Derived.Stop.Joined
import Derived.Test.YtnabckhhnknlaaaDoorTie
import Derived.Test.YtnabckhhnknlaaaDoorCards

section
namespace Go.Proofs.YtnabckhhnknlaaaDoor.Bld
open Go.RowKit
set_option linter.unusedVariables false
set_option linter.unusedSimpArgs false
theorem infoByte : (Tryd.prog.info? 5).map (fun i => (i.zero, i.size, i.bytes)) = some (some (.int .u8 0), 1, 1) := by kernel_rfl
theorem sizeBuilder : (Tryd.prog.info? 64).map (·.size) = some 2 := by kernel_rfl
theorem liesBuilder : liesAt Tryd.prog Tryd.prog.depth 64 (2 / Tryd.prog.cellsOf 64) 0 64 1 = true := by kernel_rfl
set_option maxHeartbeats 1000000 in
set_option maxRecDepth 100000 in
theorem copyCheck_used (b : Nat) (w : World) (h0 : w.cell? ⟨b, 0, none⟩ = some (.pointer (some ⟨b, 0, none⟩))) :
    Calls Tryd.prog 51 #[.pointer (some ⟨b, 0, none⟩)] w fun e w' => e = .returned (.tuple #[]) ∧ w' = w := by
  obtain ⟨j, hj, _⟩ := Option.map_eq_some_iff.1 sizeBuilder
  go_enter Tryd.func51, Tryd.ntmps51
  go_wp2
  rw [Lib.run_neq_ptr_same w _ Tryd.underlying61 hj]
  go_wp2
  go_end0
  exact ⟨rfl, rfl⟩
set_option maxHeartbeats 1000000 in
set_option maxRecDepth 100000 in
theorem copyCheck_fresh (b : Nat) (w : World) (h0 : w.cell? ⟨b, 0, none⟩ = some (.pointer none)) (hsh : w.shape? b = some (64, 2)) (hfz : w.frozen? ⟨b, 0, none⟩ = false) :
    Calls Tryd.prog 51 #[.pointer (some ⟨b, 0, none⟩)] w fun e w' => e = .returned (.tuple #[]) ∧ w' = w.setCell ⟨b, 0, none⟩ (.pointer (some ⟨b, 0, none⟩)) := by
  obtain ⟨j, hj, hjs⟩ := Option.map_eq_some_iff.1 sizeBuilder
  go_enter Tryd.func51, Tryd.ntmps51
  go_wp2
  rw [Lib.run_to_unsafe w ⟨b, 0, none⟩ Tryd.underlying61 Tryd.underlying97 hj (by rw [hjs]; decide) hsh (Nat.zero_lt_succ 1)]
  simp only [Result.andThen]
  rw [Oper.upon_value]
  go_wp2
  rw [run_callFunc_extern Tryd.func69 (by kernel_rfl) (by kernel_rfl) (by kernel_rfl) (e := Extern.AbiNoEscape.same) (by kernel_rfl)]
  rw [Lib.run_noEscape]
  simp only [Result.andThen]
  rw [Oper.upon_value]
  go_wp2
  rw [Lib.run_from_unsafe w ⟨b, 0, none⟩ Tryd.underlying97 Tryd.underlying61 hj hsh liesBuilder]
  simp only [Result.andThen]
  rw [Oper.upon_value]
  go_wp2
  go_end0
  exact ⟨rfl, rfl⟩
theorem copyCheck (B b : Nat) (bs : List Value) (w : World) (h : Lib.IsBuilder 64 5 B b bs w) :
    Calls Tryd.prog 51 #[.pointer (some ⟨b, 0, none⟩)] w fun e w' => e = .returned (.tuple #[]) ∧ (Lib.BuilderAt 64 5 B b (.pointer (some ⟨b, 0, none⟩)) bs w' ∧ Below B w w') := by
  rcases h with h | h
  · refine (copyCheck_fresh b w h.cell0 h.shape h.frozen0).mono ?_
    rintro e w' ⟨rfl, rfl⟩
    exact ⟨rfl, h.used _, (Below.refl B w).setCell (p := ⟨b, 0, none⟩) h.1 _⟩
  · refine (copyCheck_used b w h.cell0).mono ?_
    rintro e w' ⟨rfl, rfl⟩
    exact ⟨rfl, h, Below.refl B _⟩
set_option maxHeartbeats 2000000 in
set_option maxRecDepth 100000 in
theorem writeString (B b : Nat) (bs : List Value) (s : ByteArray) (w : World) (h : Lib.IsBuilder 64 5 B b bs w) (hlen : bs.length + s.size ≤ 140737488355328) (hBw : B ≤ w.heap.size) :
    Calls Tryd.prog 33 #[.pointer (some ⟨b, 0, none⟩), .string s] w fun e w' => e = .returned (.tuple #[.int .i64 s.size, .nilIface]) ∧ (Lib.BuilderAt 64 5 B b (.pointer (some ⟨b, 0, none⟩)) (bs ++ Lib.strCells s) w' ∧ Below B w w') := by
  obtain ⟨i0, hi, hz0, hz1, hz2⟩ := info_parts infoByte
  go_enter Tryd.func33, Tryd.ntmps33
  go_wp2_with (go_at_call 51; refine (copyCheck B b bs _ h).mono ?_)
  rintro e w1 ⟨rfl, h1, hb1⟩
  obtain ⟨hB, v, hbk, hown, hne⟩ := h1
  have c0 : w1.cell? ⟨b, 0, none⟩ = some (.pointer (some ⟨b, 0, none⟩)) := by rw [Lib.cell_of_heap hbk]; rfl
  have c1 : w1.cell? ⟨b, 1, none⟩ = some v := by rw [Lib.cell_of_heap hbk]; rfl
  go_wp2_with (at_builtin; refine Lib.wpList_append_own_string _ rfl _ _ 62 9 rfl B 5 i0 Tryd.underlying62 Tryd.underlying9 hi hz0 hz1 hz2 _ _ _ rfl hown s rfl ?c3 ?c4 ?c5 ?_)
  case c3 => unfold maxLen; omega
  case c4 => omega
  case c5 => have := hb1.size; omega
  intro v' w2 hown' hgrow _
  have hlt : b < w1.heap.size := by
    rcases Nat.lt_or_ge b w1.heap.size with h' | h'
    · exact h'
    · simp [Array.getElem?_eq_none h'] at hbk
  have hb2 : w2.heap[b]? = some (.cells #[.pointer (some ⟨b, 0, none⟩), v] 64 (0, 0)) := by
    rw [hgrow.block b hlt (fun e => hne e.symm)]
    exact hbk
  have d0 : w2.cell? ⟨b, 0, none⟩ = some (.pointer (some ⟨b, 0, none⟩)) := by rw [Lib.cell_of_heap hb2]; rfl
  have d1 : w2.cell? ⟨b, 1, none⟩ = some v := by rw [Lib.cell_of_heap hb2]; rfl
  have f1 : w2.frozen? ⟨b, 1, none⟩ = false := Lib.frozen_of_heap hb2 1
  obtain ⟨ao, n', cap, rfl⟩ : ∃ ao n' cap, v' = .slice ao n' cap := by
    rcases hown'.2 with ⟨hv, _⟩ | ⟨g, cap, cur, hv, _⟩
    · exact ⟨_, _, _, hv⟩
    · exact ⟨_, _, _, hv⟩
  go_wp2
  go_ret2
  refine ⟨rfl, ?_, ?_⟩
  · exact Lib.BuilderAt.put (T := 64) (e := 5) hB hb2 (bs' := bs ++ Lib.strCells s) (by simpa [Lib.strCells_length] using hown') (by decide)
  · exact (hb1.grown hgrow (by have := hb1.size; omega) (fun k hk => (hown.lt k hk).1)).setCell (p := ⟨b, 1, none⟩) hB _
end Go.Proofs.YtnabckhhnknlaaaDoor.Bld
end

section
namespace Go.Proofs.YtnabckhhnknlaaaDoor.XJ
open Go.RowKit Go.Proofs.YtnabckhhnknlaaaDoorW.PrintWords Go.Proofs.YtnabckhhnknlaaaDoorW.PrintLast Go.Proofs.YtnabckhhnknlaaaDoorW.PrintMore
attribute [local go_sem] run_eql_slice_nil binOp_string_gtr' binOp_string_leq' binOp_string_geq' max2_int min2_int max_two min_two max_three min_three max_four min_four   -- for this text's walks alone
set_option linter.unusedVariables false
set_option linter.unusedSimpArgs false
def impl_checkText.zeros (n : Nat) : ByteArray := ⟨(Lib.repeatL (⟨#[48]⟩ : ByteArray).data.toList n).toArray⟩
def impl_checkText.f (k : Nat) (a0 : ByteArray) : Option (ByteArray) := (impl_Crc16.f k a0 65535).bind fun t => (impl_Decimal.f t).bind fun d => if d.size ≤ 5 then some (impl_checkText.zeros (5 - d.size) ++ d) else none
set_option maxHeartbeats 1000000 in
set_option maxRecDepth 100000 in
theorem impl_checkText.calls (k : Nat) (a0 : ByteArray) (r : ByteArray) (w : World) (hSH : ShT Tryd.prog w) (h : impl_checkText.f k a0 = some r) :
    Calls Tryd.prog 35 #[.string a0] w fun e w' => e = .returned (.string r) ∧ Below w.heap.size w w' := by
  obtain ⟨t, ht, h⟩ := Option.bind_eq_some_iff.mp h
  obtain ⟨d, hd, h⟩ := Option.bind_eq_some_iff.mp h
  by_cases h5 : d.size ≤ 5
  rotate_left
  · rw [if_neg h5] at h; cases h
  rw [if_pos h5] at h
  obtain rfl := Option.some.inj h
  have hrep : strings_Repeat.f (⟨#[48]⟩ : ByteArray) (5 - (d.size : Int)) = some (impl_checkText.zeros (5 - d.size)) := by
    unfold strings_Repeat.f impl_checkText.zeros
    have e : (5 - (d.size : Int)).toNat = 5 - d.size := by omega
    have e1 : (((⟨#[48]⟩ : ByteArray).size : Nat) : Int) = 1 := rfl
    rw [if_pos (by rw [e1]; omega), e]
  have hz : (impl_checkText.zeros (5 - d.size)).size + d.size ≤ 9223372036854775807 := by
    have : (impl_checkText.zeros (5 - d.size)).size = 5 - d.size := by
      unfold impl_checkText.zeros
      have e : ∀ n, (Lib.repeatL (⟨#[48]⟩ : ByteArray).data.toList n).length = n := by
        intro n
        rw [Lib.repeatL_length]
        exact Nat.mul_one n
      rw [ByteArray.size]
      simpa using e (5 - d.size)
    omega
  have HT := Aside0.mk ht
  have HD := Aside0.mk hd
  have HP := Aside0.mk hrep
  have HSH := Aside0.mk hSH
  have hd0 : (0 : Int) ≤ 5 - (d.size : Int) := by omega
  clear h ht hd hrep hSH
  generalize impl_checkText.zeros (5 - d.size) = z at HP hz ⊢
  go_enter Tryd.func35, Tryd.ntmps35
  go_wp2_with (first
    | (go_at_call 53; (with_reducible refine (impl_Crc16.calls k a0 65535 t _ HT.out).mono ?_); rintro e w1 ⟨rfl, ⟨nd, hw1⟩⟩; have HB1 := Aside0.mk (show Below w.heap.size w w1 by rw [hw1]; exact pw_below_drewN (Below.refl _ _) _); clear hw1)
    | (go_at_call 34; (with_reducible refine (impl_Decimal.calls t d _ (HSH.out.below ?sB) HD.out).mono ?_); (case sB => exact HB1.out); rintro e w2 ⟨rfl, hb2⟩; have HB2 := Aside0.mk (below_step HB1.out hb2); clear hb2)
    | (go_at_call 54; (with_reducible refine (strings_Repeat.calls (⟨#[48]⟩ : ByteArray) (5 - (d.size : Int)) z _ HP.out).mono ?_); rintro e w3 ⟨rfl, hb3⟩; have HB3 := Aside0.mk (below_step HB2.out hb3); clear hb3))
  go_ret
  exact ⟨rfl, HB3.out⟩
def impl_SaveBlocks.rest (b : S49) : ByteArray := b.f0 ++ (⟨#[32]⟩ : ByteArray) ++ b.f1 ++ (⟨#[32]⟩ : ByteArray) ++ b.f2
def impl_SaveBlocks.line (k : Nat) (b : S49) : Option ByteArray := if (impl_SaveBlocks.rest b).size ≤ 140737488355328 then (impl_checkText.f k (impl_SaveBlocks.rest b)).bind fun c => some (c ++ (⟨#[32]⟩ : ByteArray) ++ impl_SaveBlocks.rest b ++ (⟨#[10]⟩ : ByteArray)) else none
def impl_SaveBlocks.go (k : Nat) : List (S49) → ByteArray → Option ByteArray
  | [], a => some a
  | b :: l, a => (impl_SaveBlocks.line k b).bind fun x => if (a ++ x).size ≤ 140737488355328 then impl_SaveBlocks.go k l (a ++ x) else none
def impl_SaveBlocks.head (d : ByteArray) : ByteArray := (⟨#[97, 114, 99, 104, 105, 118, 101, 32]⟩ : ByteArray) ++ d ++ (⟨#[10]⟩ : ByteArray)
def impl_SaveBlocks.f (k : Nat) (l0 : List (S49)) : Option (ByteArray × Int) := (impl_ValidBlocks.f k l0).bind fun t => if t = true then ((impl_Decimal.f (l0.length : Int)).bind fun d => if (impl_SaveBlocks.head d).size ≤ 140737488355328 then ((impl_SaveBlocks.go k l0 (impl_SaveBlocks.head d)).bind fun s => some (s, 0)) else none) else some (⟨#[]⟩, 1)
theorem impl_SaveBlocks.builder_below {T e B b : Nat} {bs : List Value} {w w' : World} (h : Lib.IsBuilder T e B b bs w) (hb : Below w.heap.size w w') : Lib.IsBuilder T e B b bs w' := by
  rcases h with ⟨h1, v, h2, h3, h4⟩ | ⟨h1, v, h2, h3, h4⟩
  · exact .inl ⟨h1, v, blk_below h2 hb, pw_own_below h3 hb, h4⟩
  · exact .inr ⟨h1, v, blk_below h2 hb, pw_own_below h3 hb, h4⟩
theorem impl_SaveBlocks.builder0 (w1 : World) : Lib.IsBuilder 64 5 w1.heap.size w1.heap.size (Lib.byteCells (⟨#[]⟩ : ByteArray).data.toList) (w1.alloc (Obj.cells #[Value.pointer none, Value.slice none 0 0] 64)) :=
  .inl ⟨Nat.le_refl _, .slice none 0 0, by simpa using heap_alloc_new w1 _, by simp [Lib.byteCells]; exact World.ownsRow_nil _ _ _ _, by simp [Value.ownBlock]⟩
theorem impl_SaveBlocks.app (a x : ByteArray) : Lib.byteCells (a ++ x).data.toList = Lib.byteCells a.data.toList ++ Lib.strCells x := by
  rw [Lib.strCells_eq, ← Lib.byteCells_append]
  first | (congr 1; done) | (congr 1; simp [ByteArray.data_append])
set_option maxHeartbeats 1000000 in
set_option maxRecDepth 100000 in
theorem impl_SaveBlocks.calls (k : Nat) (A0 : Option Addr) (c0 : Nat) (l0 : List (S49)) (r1 : ByteArray) (r2 : Int) (w : World) (hr0 : Kd.C k49 w A0 l0.length l0) (hc0 : l0.length ≤ c0) (hSH : ShT Tryd.prog w) (h : impl_SaveBlocks.f k l0 = some (r1, r2)) :
    Calls Tryd.prog 17 #[.slice A0 l0.length c0] w fun e w' => e = .returned (.tuple #[.string r1, .int .i64 r2]) ∧ Below w.heap.size w w' := by
  obtain ⟨t, ht, h⟩ := Option.bind_eq_some_iff.mp h
  have HV := Aside0.mk ht
  have HM := Aside0.mk hr0.2.1
  have HR := Aside0.mk hr0
  have HC := Aside0.mk hc0
  have HSH := Aside0.mk hSH
  clear ht hr0 hc0 hSH
  cases t with
  | false =>
    simp only [Bool.false_eq_true, if_false, Option.some.injEq, Prod.mk.injEq] at h
    obtain ⟨rfl, rfl⟩ := h
    go_enter Tryd.func17, Tryd.ntmps17
    go_wp2_with (go_at_call 32; (with_reducible refine (impl_ValidBlocks.calls k A0 c0 l0 false _ HR.out HC.out HSH.out HV.out).mono ?_); rintro e w1 ⟨rfl, hb1⟩; have HB1 := Aside0.mk hb1; clear hb1)
    go_ret2
    exact ⟨rfl, HB1.out⟩
  | true =>
    simp only [if_true] at h
    obtain ⟨d, hd, h⟩ := Option.bind_eq_some_iff.mp h
    by_cases hh : (impl_SaveBlocks.head d).size ≤ 140737488355328
    rotate_left
    · rw [if_neg hh] at h; cases h
    rw [if_pos hh] at h
    obtain ⟨s, hs, h⟩ := Option.bind_eq_some_iff.mp h
    simp only [Option.some.injEq, Prod.mk.injEq] at h
    obtain ⟨rfl, rfl⟩ := h
    have hsz : (impl_SaveBlocks.head d).size = 8 + d.size + 1 := by
      unfold impl_SaveBlocks.head
      rw [ByteArray.size_append, ByteArray.size_append]
      rfl
    have h8 : 8 + d.size ≤ 9223372036854775807 := by omega
    have h9 : 8 + d.size + 1 ≤ 9223372036854775807 := by omega
    have HD := Aside0.mk hd
    have HG := Aside0.mk hs
    have HH := Aside0.mk hh
    clear hd hs hh hsz
    go_enter Tryd.func17, Tryd.ntmps17
    go_wp2_with (first
      | (go_at_call 32; (with_reducible refine (impl_ValidBlocks.calls k A0 c0 l0 true _ HR.out HC.out HSH.out HV.out).mono ?_); rintro e w1 ⟨rfl, hb1⟩; have HB1 := Aside0.mk hb1; have H0 := Aside0.mk (impl_SaveBlocks.builder0 w1); clear hb1)
      | (go_at_call 34; (with_reducible refine (impl_Decimal.calls _ d _ (HSH.out.below ?sB) HD.out).mono ?_); (case sB => exact below_alloc HB1.out _); rintro e w2 ⟨rfl, hb2⟩; have HI2 := Aside0.mk (impl_SaveBlocks.builder_below H0.out hb2); have HB2 := Aside0.mk (below_step (below_alloc HB1.out _) hb2); have HS2 := Aside0.mk (show w1.heap.size ≤ w2.heap.size from Nat.le_trans (by simp) hb2.size); clear hb2)
      | (go_at_call 33; go_loud (refine (Bld.writeString w1.heap.size w1.heap.size _ (impl_SaveBlocks.head d) _ HI2.out ?sC HS2.out).mono ?_); (case sC => rw [Lib.byteCells_length]; have := HH.out; simpa using this); rintro e w3 ⟨rfl, hI3, hb3⟩; have HI3 := Aside0.mk hI3; have HB3 := Aside0.mk hb3; clear hI3 hb3))
    have HI0 : Aside0 (Lib.IsBuilder 64 5 w1.heap.size w1.heap.size (Lib.byteCells (impl_SaveBlocks.head d).data.toList) w3) := ⟨.inr (by
      have e : Lib.byteCells (⟨#[]⟩ : ByteArray).data.toList ++ Lib.strCells (impl_SaveBlocks.head d) = Lib.byteCells (impl_SaveBlocks.head d).data.toList := by rw [Lib.strCells_eq]; rfl
      rw [← e]
      exact HI3.out)⟩
    have HBW := Aside0.mk (HB2.out.trans (HB3.out.mono (Nat.le_trans HB1.out.size (by exact Nat.le_refl _))))
    have HSW := Aside0.mk (Nat.le_trans HS2.out HB3.out.size)
    clear HI3 HB3 HI2 HB2 HS2 H0 h8 h9
    go_loopw [19] (fun v wr => ∃ (i : Nat) (acc : ByteArray), i ≤ l0.length ∧ v = .int .i64 i ∧ Aside0 (Lib.IsBuilder 64 5 w1.heap.size w1.heap.size (Lib.byteCells acc.data.toList) wr) ∧ Aside0 (impl_SaveBlocks.go k (l0.drop i) acc = some s) ∧ Aside0 (Below w.heap.size w wr) ∧ Aside0 (w1.heap.size ≤ wr.heap.size)) (fun v _ => l0.length - (intOf v).toNat)
    case atStart => exact ⟨0, _, Nat.zero_le _, rfl, HI0, HG, HBW, HSW⟩
    case round =>
      obtain ⟨i, acc, hi, rfl, hI, hG, hBW, hSW⟩ := hrel
      have hmax := HM.out
      by_cases hlt : i < l0.length
      · obtain ⟨ad, e, hx0, hx1, hx2⟩ := at_T49 (Kd.C_below HR.out hBW.out) (i : Int) (by omega) (by omega)
        cases e
        rw [Int.toNat_natCast] at hx0 hx1 hx2
        have e1 : rd_T49 l0 (i : Int) = l0[i] := by unfold rd_T49; simp [List.getD_eq_getElem?_getD, List.getElem?_eq_getElem hlt]
        rw [e1] at hx0 hx1 hx2
        have hg := hG.out
        rw [List.drop_eq_getElem_cons hlt] at hg
        generalize l0[i] = b at hx0 hx1 hx2 hg
        clear e1
        unfold impl_SaveBlocks.go at hg
        obtain ⟨x, hx, hg⟩ := Option.bind_eq_some_iff.mp hg
        by_cases hax : (acc ++ x).size ≤ 140737488355328
        rotate_left
        · rw [if_neg hax] at hg; cases hg
        rw [if_pos hax] at hg
        unfold impl_SaveBlocks.line at hx
        by_cases hrs : (impl_SaveBlocks.rest b).size ≤ 140737488355328
        rotate_left
        · rw [if_neg hrs] at hx; cases hx
        rw [if_pos hrs] at hx
        obtain ⟨c, hc, hx⟩ := Option.bind_eq_some_iff.mp hx
        obtain rfl := Option.some.inj hx
        have hsr : (impl_SaveBlocks.rest b).size = b.f0.size + 1 + b.f1.size + 1 + b.f2.size := by
          unfold impl_SaveBlocks.rest
          simp only [ByteArray.size_append]
          rfl
        have hsx : (c ++ (⟨#[32]⟩ : ByteArray) ++ impl_SaveBlocks.rest b ++ (⟨#[10]⟩ : ByteArray)).size = c.size + 1 + (impl_SaveBlocks.rest b).size + 1 := by
          simp only [ByteArray.size_append]
          rfl
        rw [ByteArray.size_append, hsx] at hax
        have hAX := Aside0.mk (show (Lib.byteCells acc.data.toList).length + (c ++ (⟨#[32]⟩ : ByteArray) ++ impl_SaveBlocks.rest b ++ (⟨#[10]⟩ : ByteArray)).size ≤ 140737488355328 by
          rw [Lib.byteCells_length, hsx]
          have : acc.data.toList.length = acc.size := by simp
          omega)
        have z1 : b.f0.size + 1 ≤ 9223372036854775807 := by omega
        have z2 : b.f0.size + 1 + b.f1.size ≤ 9223372036854775807 := by omega
        have z3 : b.f0.size + 1 + b.f1.size + 1 ≤ 9223372036854775807 := by omega
        have z4 : b.f0.size + 1 + b.f1.size + 1 + b.f2.size ≤ 9223372036854775807 := by omega
        have z5 : c.size + 1 ≤ 9223372036854775807 := by omega
        have z6 : c.size + 1 + (b.f0.size + 1 + b.f1.size + 1 + b.f2.size) ≤ 9223372036854775807 := by omega
        have z7 : c.size + 1 + (b.f0.size + 1 + b.f1.size + 1 + b.f2.size) + 1 ≤ 9223372036854775807 := by omega
        have HX : Aside0 (impl_checkText.f k (b.f0 ++ (⟨#[32]⟩ : ByteArray) ++ b.f1 ++ (⟨#[32]⟩ : ByteArray) ++ b.f2) = some c) := ⟨hc⟩
        have HGN := Aside0.mk hg
        have HLT := Aside0.mk hlt
        clear hc hg hx hax hrs hsr hsx
        go_wp2_with (first
          | (go_at_call 35; go_loud (with_reducible refine (impl_checkText.calls k _ c _ (HSH.out.below ?sB) HX.out).mono ?_); (case sB => repeat (first | exact hBW.out | exact hBW.out.size | apply below_alloc | refine below_set ?_ ?_)); rintro e w4 ⟨rfl, hb4⟩; have HB4 := Aside0.mk (below_step (show Below wr.heap.size wr _ by repeat (first | exact Below.refl _ _ | exact Nat.le_refl _ | apply below_alloc | refine below_set ?_ ?_)) hb4); have HI4 := Aside0.mk (impl_SaveBlocks.builder_below hI.out HB4.out); have HS4 := Aside0.mk (Nat.le_trans hSW.out HB4.out.size); clear hb4)
          | (go_at_call 33; go_loud (refine (Bld.writeString w1.heap.size w1.heap.size _ (c ++ (⟨#[32]⟩ : ByteArray) ++ impl_SaveBlocks.rest b ++ (⟨#[10]⟩ : ByteArray)) _ HI4.out hAX.out HS4.out).mono ?_); rintro e w5 ⟨rfl, hI5, hb5⟩; have HI5 := Aside0.mk hI5; have HB5 := Aside0.mk hb5; clear hI5 hb5))
        have HI6 : Aside0 (Lib.IsBuilder 64 5 w1.heap.size w1.heap.size (Lib.byteCells (acc ++ (c ++ (⟨#[32]⟩ : ByteArray) ++ impl_SaveBlocks.rest b ++ (⟨#[10]⟩ : ByteArray))).data.toList) w5) := ⟨.inr (by rw [impl_SaveBlocks.app]; exact HI5.out)⟩
        have HB6 := Aside0.mk ((hBW.out.trans (HB4.out.mono hBW.out.size)).trans (HB5.out.mono HB1.out.size))
        have HS6 := Aside0.mk (Nat.le_trans HS4.out HB5.out.size)
        go_roundw
        case rel => exact ⟨i + 1, _, by have := HLT.out; omega, by go_num, HI6, HGN, HB6, HS6⟩
        case measure => have := HLT.out; simp [intOf]; omega
      · have hil : i = l0.length := by omega
        subst hil
        have hg := hG.out
        rw [List.drop_length] at hg
        have hg2 : acc = s := Option.some.inj hg
        have HG2 := Aside0.mk hg2
        clear hg hg2
        go_wp2_with (go_at_call 36; (with_reducible refine (Tryd.Builder_String_any w1.heap.size w1.heap.size _ _ hI.out hSW.out).mono ?_); rintro e w4 ⟨rfl, hb4⟩; have HB4 := Aside0.mk hb4; clear hb4)
        go_ret2
        refine ⟨?_, ?_⟩
        · rw [← HG2.out]
          first | (simp; done) | rfl
        · exact hBW.out.trans (HB4.out.mono HB1.out.size)
end Go.Proofs.YtnabckhhnknlaaaDoor.XJ
end

section
namespace Go.Proofs.YtnabckhhnknlaaaDoor.XJ
open Go.RowKit Go.Proofs.YtnabckhhnknlaaaDoorW.PrintWords Go.Proofs.YtnabckhhnknlaaaDoorW.PrintLast Go.Proofs.YtnabckhhnknlaaaDoorW.PrintMore
attribute [local go_sem] run_eql_slice_nil binOp_string_gtr' binOp_string_leq' binOp_string_geq' max2_int min2_int max_two min_two max_three min_three max_four min_four   -- for this text's walks alone
set_option linter.unusedVariables false
set_option linter.unusedSimpArgs false
def laws_FnExactSaveBlocks.j0 : Nat → List (S57) → List (S49) → Bool → Option (Bool)
  | 0, _, _, _ => none
  | k + 1, x0, x6, x34 => if x34 = true then (some false) else ((laws_toBlockS.f k x0).bind fun t191 => ((laws_eqBlockS.f k x6 t191).bind fun t194 => (if t194 = true then (some true) else (some false))))
def laws_FnExactSaveBlocks.f (k : Nat) (l0 : List (S57)) : Option (Bool) := (laws_szBlockS.f k l0 1048576).bind fun t180 => (if t180 < 0 then (some true) else ((laws_toBlockS.f k l0).bind fun t181 => ((spec_SaveBlocks.f k t181).bind fun bt184 => ((laws_toBlockS.f k l0).bind fun t186 => ((impl_SaveBlocks.f k t186).bind fun bt189 => (if bt189.1.toList = bt184.1.toList then (laws_FnExactSaveBlocks.j0 k l0 t186 (bt189.2 != bt184.2)) else (laws_FnExactSaveBlocks.j0 k l0 t186 true)))))))
set_option maxHeartbeats 8000000 in
set_option maxRecDepth 100000 in
theorem laws_FnExactSaveBlocks.calls (k : Nat) (A0 : Option Addr) (c0 : Nat) (l0 : List (S57)) (r : Bool) (w : World) (hr0 : Kd.C k57 w A0 l0.length l0) (hc0 : l0.length ≤ c0) (hSH : ShT Tryd.prog w) (h : laws_FnExactSaveBlocks.f k l0 = some r) :
    Calls Tryd.prog 4 #[.slice A0 l0.length c0] w fun e w' => e = .returned (.bool r) ∧ Below w.heap.size w w' := by
  have HR0 := Aside0.mk hr0
  have HC0 := Aside0.mk hc0
  clear hr0 hc0
  have HB := Aside0.mk (Below.refl w.heap.size w)
  have HSH := Aside0.mk hSH
  clear hSH
  have H : ((laws_szBlockS.f k l0 1048576).bind fun t180 => (if t180 < 0 then (some true) else ((laws_toBlockS.f k l0).bind fun t181 => ((spec_SaveBlocks.f k t181).bind fun bt184 => ((laws_toBlockS.f k l0).bind fun t186 => ((impl_SaveBlocks.f k t186).bind fun bt189 => (if bt189.1.toList = bt184.1.toList then (laws_FnExactSaveBlocks.j0 k l0 t186 (bt189.2 != bt184.2)) else (laws_FnExactSaveBlocks.j0 k l0 t186 true)))))))) = some r := h
  clear h
  replace H := Option.bind_eq_some_iff.mp H
  obtain ⟨t180, A20, H⟩ := H
  replace H : (if t180 < 0 then (some true) else ((laws_toBlockS.f k l0).bind fun t181 => ((spec_SaveBlocks.f k t181).bind fun bt184 => ((laws_toBlockS.f k l0).bind fun t186 => ((impl_SaveBlocks.f k t186).bind fun bt189 => (if bt189.1.toList = bt184.1.toList then (laws_FnExactSaveBlocks.j0 k l0 t186 (bt189.2 != bt184.2)) else (laws_FnExactSaveBlocks.j0 k l0 t186 true))))))) = some r := H
  have A2 := Aside0.mk A20
  clear A20
  by_cases c3 : t180 < 0
  · rw [if_pos c3] at H
    have c3b0 : decide (t180 < 0) = true := decide_eq_true c3
    clear c3
    obtain rfl := Option.some.inj H
    go_enter Tryd.func4, Tryd.ntmps4
    go_wp2_with (first | ((with_reducible refine gate_callee (f := 14) rfl ?_); refine goesL_ (some 11) rfl rfl Tryd.func14 (by kernel_rfl) rfl #[.slice A0 l0.length c0, .int .i64 1048576] rfl (by (try simp only [List.map_toArray, List.map_cons, List.map_nil]); first | done | rfl | (simp only [List.length_drop, List.length_take]; rfl)) ?_; (with_reducible refine (laws_szBlockS.calls k _ _ l0 1048576 t180 _ ?side1 ?side2 A2.out).mono ?_); (case side1 => repeat (first | exact HR0.out | (with_reducible refine Kd.C_alloc ?_ _) | (with_reducible refine Kd.C_drewN ?_ _) | (with_reducible refine Kd.C_drew ?_))); (case side2 => exact HC0.out); rintro e w4 ⟨rfl, hb⟩; refine ⟨_, rfl, ?_⟩; have n0_ := Aside0.mk (below_step (by repeat (first | (with_reducible first | exact HB.out | apply below_alloc | apply pw_below_drewN | apply below_drew1) | exact HB.out)) hb); clear HB; have HB := n0_; clear n0_; (try clear hb); (try clear hb2); (try clear hk); (try clear hi)))
    go_ret
    exact ⟨by first | rfl | (simp [errW_none, errW_some] <;> rfl) | (simp [*, errW_none, errW_some] <;> rfl), by repeat (first | (with_reducible first | exact HB.out | apply below_alloc | apply pw_below_drewN | apply below_drew1) | exact HB.out)⟩
  · rw [if_neg c3] at H
    have c3b0 : decide (t180 < 0) = false := decide_eq_false c3
    clear c3
    replace H := Option.bind_eq_some_iff.mp H
    obtain ⟨t181, A50, H⟩ := H
    replace H : ((spec_SaveBlocks.f k t181).bind fun bt184 => ((laws_toBlockS.f k l0).bind fun t186 => ((impl_SaveBlocks.f k t186).bind fun bt189 => (if bt189.1.toList = bt184.1.toList then (laws_FnExactSaveBlocks.j0 k l0 t186 (bt189.2 != bt184.2)) else (laws_FnExactSaveBlocks.j0 k l0 t186 true))))) = some r := H
    have A5 := Aside0.mk A50
    clear A50
    replace H := Option.bind_eq_some_iff.mp H
    obtain ⟨⟨t184, t185⟩, A60, H⟩ := H
    replace H : ((laws_toBlockS.f k l0).bind fun t186 => ((impl_SaveBlocks.f k t186).bind fun bt189 => (if bt189.1.toList = t184.toList then (laws_FnExactSaveBlocks.j0 k l0 t186 (bt189.2 != t185)) else (laws_FnExactSaveBlocks.j0 k l0 t186 true)))) = some r := H
    have A6 := Aside0.mk A60
    clear A60
    replace H := Option.bind_eq_some_iff.mp H
    obtain ⟨t186, A70, H⟩ := H
    replace H : ((impl_SaveBlocks.f k t186).bind fun bt189 => (if bt189.1.toList = t184.toList then (laws_FnExactSaveBlocks.j0 k l0 t186 (bt189.2 != t185)) else (laws_FnExactSaveBlocks.j0 k l0 t186 true))) = some r := H
    have A7 := Aside0.mk A70
    clear A70
    replace H := Option.bind_eq_some_iff.mp H
    obtain ⟨⟨t189, t190⟩, A80, H⟩ := H
    replace H : (if t189.toList = t184.toList then (laws_FnExactSaveBlocks.j0 k l0 t186 (t190 != t185)) else (laws_FnExactSaveBlocks.j0 k l0 t186 true)) = some r := H
    have A8 := Aside0.mk A80
    clear A80
    have HC9 := Aside0.mk H
    clear H
    go_enter Tryd.func4, Tryd.ntmps4
    go_upto_region 8 with (first | ((with_reducible refine gate_callee (f := 14) rfl ?_); refine goesL_ (some 11) rfl rfl Tryd.func14 (by kernel_rfl) rfl #[.slice A0 l0.length c0, .int .i64 1048576] rfl (by (try simp only [List.map_toArray, List.map_cons, List.map_nil]); first | done | rfl | (simp only [List.length_drop, List.length_take]; rfl)) ?_; (with_reducible refine (laws_szBlockS.calls k _ _ l0 1048576 t180 _ ?side1 ?side2 A2.out).mono ?_); (case side1 => repeat (first | exact HR0.out | (with_reducible refine Kd.C_alloc ?_ _) | (with_reducible refine Kd.C_drewN ?_ _) | (with_reducible refine Kd.C_drew ?_))); (case side2 => exact HC0.out); rintro e w10 ⟨rfl, hb⟩; refine ⟨_, rfl, ?_⟩; have n0_ := Aside0.mk (below_step (by repeat (first | (with_reducible first | exact HB.out | apply below_alloc | apply pw_below_drewN | apply below_drew1) | exact HB.out)) hb); clear HB; have HB := n0_; clear n0_; (try clear hb); (try clear hb2); (try clear hk); (try clear hi)) | ((with_reducible refine gate_callee (f := 16) rfl ?_); refine goesL_ (some 16) rfl rfl Tryd.func16 (by kernel_rfl) rfl #[.slice A0 l0.length c0] rfl (by (try simp only [List.map_toArray, List.map_cons, List.map_nil]); first | done | rfl | (simp only [List.length_drop, List.length_take]; rfl)) ?_; (with_reducible refine (laws_toBlockS.calls k _ _ l0 t181 _ ?side1 ?side2 A5.out).mono ?_); (case side1 => repeat (first | exact (Kd.C_below HR0.out HB.out) | (with_reducible refine Kd.C_alloc ?_ _) | (with_reducible refine Kd.C_drewN ?_ _) | (with_reducible refine Kd.C_drew ?_))); (case side2 => exact HC0.out); rintro e w11 ⟨v182, rfl, ho0, hb⟩; refine ⟨_, rfl, ?_⟩; have n0_ := Aside0.mk (Kd.R_lower ho0 (below_size (by repeat (first | (with_reducible first | exact HB.out | apply below_alloc | apply pw_below_drewN | apply below_drew1) | exact HB.out)))); have n1_ := Aside0.mk (below_step (by repeat (first | (with_reducible first | exact HB.out | apply below_alloc | apply pw_below_drewN | apply below_drew1) | exact HB.out)) hb); clear HB; have HO183 := n0_; have HB := n1_; clear n0_ n1_; (try clear hb); (try clear hb2); (try clear hk); (try clear hi); (try clear ho0); obtain ⟨Ao12, co12, eo12⟩ := Kd.R_slice HO183.out; subst eo12) | ((with_reducible refine gate_callee (f := 15) rfl ?_); refine goesL_ (some 17) rfl rfl Tryd.func15 (by kernel_rfl) rfl #[.slice Ao12 t181.length co12] rfl (by (try simp only [List.map_toArray, List.map_cons, List.map_nil]); first | done | rfl | (simp only [List.length_drop, List.length_take]; rfl)) ?_; (with_reducible refine (spec_SaveBlocks.calls k _ _ t181 t184 t185 _ ?side1 ?side2 A6.out).mono ?_); (case side1 => repeat (first | exact (Kd.R_reads' HO183.out).2.2 | (with_reducible refine Kd.C_alloc ?_ _) | (with_reducible refine Kd.C_drewN ?_ _) | (with_reducible refine Kd.C_drew ?_))); (case side2 => exact (Kd.R_reads' HO183.out).2.1); rintro e w13 ⟨rfl, hb⟩; refine ⟨_, rfl, ?_⟩; have n0_ := Aside0.mk (Kd.R_below (by (with_reducible repeat (first | apply Kd.R_alloc | apply Kd.R_drewN | apply Kd.R_drew)); exact HO183.out) hb); have n1_ := Aside0.mk (below_step (by repeat (first | (with_reducible first | exact HB.out | apply below_alloc | apply pw_below_drewN | apply below_drew1) | exact HB.out)) hb); clear HO183; clear HB; have HO183 := n0_; have HB := n1_; clear n0_ n1_; (try clear hb); (try clear hb2); (try clear hk); (try clear hi)) | ((with_reducible refine gate_callee (f := 16) rfl ?_); refine goesL_ (some 21) rfl rfl Tryd.func16 (by kernel_rfl) rfl #[.slice A0 l0.length c0] rfl (by (try simp only [List.map_toArray, List.map_cons, List.map_nil]); first | done | rfl | (simp only [List.length_drop, List.length_take]; rfl)) ?_; (with_reducible refine (laws_toBlockS.calls k _ _ l0 t186 _ ?side1 ?side2 A7.out).mono ?_); (case side1 => repeat (first | exact (Kd.C_below HR0.out HB.out) | (with_reducible refine Kd.C_alloc ?_ _) | (with_reducible refine Kd.C_drewN ?_ _) | (with_reducible refine Kd.C_drew ?_))); (case side2 => exact HC0.out); rintro e w14 ⟨v187, rfl, ho0, hb⟩; refine ⟨_, rfl, ?_⟩; have n0_ := Aside0.mk (Kd.R_elder' (by (with_reducible repeat (first | apply Kd.R_alloc | apply Kd.R_drewN | apply Kd.R_drew)); exact HO183.out) (Kd.R_base ho0) hb); have n1_ := Aside0.mk (Kd.R_lower (Kd.R_new' ho0 (Kd.R_lt (by (with_reducible repeat (first | apply Kd.R_alloc | apply Kd.R_drewN | apply Kd.R_drew)); exact HO183.out))) (below_size (by repeat (first | (with_reducible first | exact HB.out | apply below_alloc | apply pw_below_drewN | apply below_drew1) | exact HB.out)))); have n2_ := Aside0.mk (below_step (by repeat (first | (with_reducible first | exact HB.out | apply below_alloc | apply pw_below_drewN | apply below_drew1) | exact HB.out)) hb); clear HO183; clear HB; have HO183 := n0_; have HO188 := n1_; have HB := n2_; clear n0_ n1_ n2_; (try clear hb); (try clear hb2); (try clear hk); (try clear hi); (try clear ho0); obtain ⟨Ao15, co15, eo15⟩ := Kd.R_slice HO188.out; subst eo15) | ((with_reducible refine gate_callee (f := 17) rfl ?_); refine goesL_ (some 24) rfl rfl Tryd.func17 (by kernel_rfl) rfl #[.slice Ao15 t186.length co15] rfl (by (try simp only [List.map_toArray, List.map_cons, List.map_nil]); first | done | rfl | (simp only [List.length_drop, List.length_take]; rfl)) ?_; (with_reducible refine (impl_SaveBlocks.calls k _ _ t186 t189 t190 _ ?side1 ?side2 ?side3 A8.out).mono ?_); (case side1 => repeat (first | exact (Kd.R_reads' HO188.out).2.2 | (with_reducible refine Kd.C_alloc ?_ _) | (with_reducible refine Kd.C_drewN ?_ _) | (with_reducible refine Kd.C_drew ?_))); (case side2 => exact (Kd.R_reads' HO188.out).2.1); (case side3 => exact HSH.out.below (show Below w.heap.size w _ from by repeat (first | (with_reducible first | exact HB.out | apply below_alloc | apply pw_below_drewN | apply below_drew1) | exact HB.out))); rintro e w16 ⟨rfl, hb⟩; refine ⟨_, rfl, ?_⟩; have n0_ := Aside0.mk (Kd.R_below (by (with_reducible repeat (first | apply Kd.R_alloc | apply Kd.R_drewN | apply Kd.R_drew)); exact HO183.out) hb); have n1_ := Aside0.mk (Kd.R_below (by (with_reducible repeat (first | apply Kd.R_alloc | apply Kd.R_drewN | apply Kd.R_drew)); exact HO188.out) hb); have n2_ := Aside0.mk (below_step (by repeat (first | (with_reducible first | exact HB.out | apply below_alloc | apply pw_below_drewN | apply below_drew1) | exact HB.out)) hb); clear HO183; clear HO188; clear HB; have HO183 := n0_; have HO188 := n1_; have HB := n2_; clear n0_ n1_ n2_; (try clear hb); (try clear hb2); (try clear hk); (try clear hi)))
    (try simp only [Act.put, List.setIfInBounds_toArray, List.set_cons_zero, List.set_cons_succ])
    go_cut [34] (fun v34 wc => ∃ (kq : Nat) (x34_8 : Bool), v34 = .bool x34_8 ∧ Aside0 (laws_FnExactSaveBlocks.j0 kq l0 t186 x34_8 = some r) ∧ Aside0 (kq ≤ k) ∧ Aside0 (Kd.R k49 49 wc w.heap.size (fun _ => True) (.slice Ao15 t186.length co15) t186) ∧ Aside0 (Below w.heap.size w wc))
    case first =>
      have H := HC9.out
      clear HC9
      by_cases c17 : t189.toList = t184.toList
      · rw [if_pos c17] at H
        have c17b0 : (t189.toList == t184.toList) = true := beq_iff_eq.mpr c17
        have c17b1 : (t189.toList != t184.toList) = false := bne_eq_false_iff_eq.mpr c17
        clear c17
        (first | rw [c17b0] | (simp only [i64_w, i32_w]; rw [c17b0]) | skip)
        have H' := Aside0.mk H
        clear H
        go_wp2
        go_meet
        case rel => exact ⟨_, ((t190 != t185)), (by first | rfl | (simp; done) | (simp [*]; done)), H', ⟨by first | omega | exact Nat.le_refl _⟩, ⟨by (with_reducible repeat (first | apply Kd.R_alloc | apply Kd.R_drewN | apply Kd.R_drew)); exact Kd.R_mono HO188.out (fun _ hk => trivial)⟩, ⟨by repeat (first | (with_reducible first | exact HB.out | apply below_alloc | apply pw_below_drewN | apply below_drew1) | exact HB.out)⟩⟩
      · rw [if_neg c17] at H
        have c17b0 : (t189.toList == t184.toList) = false := beq_eq_false_iff_ne.mpr c17
        have c17b1 : (t189.toList != t184.toList) = true := bne_iff_ne.mpr c17
        (first | rw [c17b0] | (simp only [i64_w, i32_w]; rw [c17b0]) | skip)
        have H' := Aside0.mk H
        clear H
        go_wp2
        go_meet
        case rel => exact ⟨_, (true), (by first | rfl | (simp; done) | (simp [*]; done)), H', ⟨by first | omega | exact Nat.le_refl _⟩, ⟨by (with_reducible repeat (first | apply Kd.R_alloc | apply Kd.R_drewN | apply Kd.R_drew)); exact Kd.R_mono HO188.out (fun _ hk => trivial)⟩, ⟨by repeat (first | (with_reducible first | exact HB.out | apply below_alloc | apply pw_below_drewN | apply below_drew1) | exact HB.out)⟩⟩
    case rest =>
      clear HC9
      try clear c1
      try clear p2
      try clear c3
      try clear c3b0
      try clear c4
      try clear c14
      try clear c15
      try clear c16
      try clear c17
      try clear c17b0
      try clear c17b1
      obtain ⟨kq, x34_8, rfl, HA, HJ8, HO_6, HB⟩ := hcut
      cases kq with
      | zero => exact absurd HA.out (by simp [laws_FnExactSaveBlocks.j0])
      | succ kj8 =>
        have H := HA.out
        clear HA
        simp only [laws_FnExactSaveBlocks.j0] at H
        by_cases c18 : x34_8 = true
        · subst c18
          have H1 : (some false) = some r := by rw [if_pos rfl] at H; exact H
          clear H
          have H := H1
          clear H1
          obtain rfl := Option.some.inj H
          go_wp2
          go_ret
          exact ⟨by first | rfl | (simp [errW_none, errW_some] <;> rfl) | (simp [*, errW_none, errW_some] <;> rfl), by repeat (first | (with_reducible first | exact HB.out | apply below_alloc | apply pw_below_drewN | apply below_drew1) | exact HB.out)⟩
        · replace c18 := Bool.eq_false_iff.mpr c18
          subst c18
          have H1 : ((laws_toBlockS.f kj8 l0).bind fun t191 => ((laws_eqBlockS.f kj8 t186 t191).bind fun t194 => (if t194 = true then (some true) else (some false)))) = some r := by rw [if_neg (show ¬ (false = true) by decide)] at H; exact H
          clear H
          have H := H1
          clear H1
          replace H := Option.bind_eq_some_iff.mp H
          obtain ⟨t191, A190, H⟩ := H
          replace H : ((laws_eqBlockS.f kj8 t186 t191).bind fun t194 => (if t194 = true then (some true) else (some false))) = some r := H
          have A19 := Aside0.mk A190
          clear A190
          replace H := Option.bind_eq_some_iff.mp H
          obtain ⟨t194, A200, H⟩ := H
          replace H : (if t194 = true then (some true) else (some false)) = some r := H
          have A20 := Aside0.mk A200
          clear A200
          by_cases c21 : t194 = true
          · subst c21
            have H1 : (some true) = some r := by rw [if_pos rfl] at H; exact H
            clear H
            have H := H1
            clear H1
            obtain rfl := Option.some.inj H
            go_wp2_with (first | ((with_reducible refine gate_callee (f := 16) rfl ?_); refine goesL_ (some 37) rfl rfl Tryd.func16 (by kernel_rfl) rfl #[.slice A0 l0.length c0] rfl (by (try simp only [List.map_toArray, List.map_cons, List.map_nil]); first | done | rfl | (simp only [List.length_drop, List.length_take]; rfl)) ?_; (with_reducible refine (laws_toBlockS.calls kj8 _ _ l0 t191 _ ?side1 ?side2 A19.out).mono ?_); (case side1 => repeat (first | exact (Kd.C_below HR0.out HB.out) | (with_reducible refine Kd.C_alloc ?_ _) | (with_reducible refine Kd.C_drewN ?_ _) | (with_reducible refine Kd.C_drew ?_))); (case side2 => exact HC0.out); rintro e w22 ⟨v192, rfl, ho0, hb⟩; refine ⟨_, rfl, ?_⟩; have n0_ := Aside0.mk (Kd.R_elder' (by (with_reducible repeat (first | apply Kd.R_alloc | apply Kd.R_drewN | apply Kd.R_drew)); exact HO_6.out) (Kd.R_base ho0) hb); have n1_ := Aside0.mk (Kd.R_lower (Kd.R_new' ho0 (Kd.R_lt (by (with_reducible repeat (first | apply Kd.R_alloc | apply Kd.R_drewN | apply Kd.R_drew)); exact HO_6.out))) (below_size (by repeat (first | (with_reducible first | exact HB.out | apply below_alloc | apply pw_below_drewN | apply below_drew1) | exact HB.out)))); have n2_ := Aside0.mk (below_step (by repeat (first | (with_reducible first | exact HB.out | apply below_alloc | apply pw_below_drewN | apply below_drew1) | exact HB.out)) hb); clear HO_6; clear HB; have HO_6 := n0_; have HO193 := n1_; have HB := n2_; clear n0_ n1_ n2_; (try clear hb); (try clear hb2); (try clear hk); (try clear hi); (try clear ho0); obtain ⟨Ao23, co23, eo23⟩ := Kd.R_slice HO193.out; subst eo23) | ((with_reducible refine gate_callee (f := 9) rfl ?_); refine goesL_ (some 38) rfl rfl Tryd.func9 (by kernel_rfl) rfl #[.slice Ao15 t186.length co15, .slice Ao23 t191.length co23] rfl (by (try simp only [List.map_toArray, List.map_cons, List.map_nil]); first | done | rfl | (simp only [List.length_drop, List.length_take]; rfl)) ?_; (with_reducible refine (laws_eqBlockS.calls kj8 _ _ t186 _ _ t191 true _ ?side1 ?side2 ?side3 ?side4 A20.out).mono ?_); (case side1 => repeat (first | exact (Kd.R_reads' HO_6.out).2.2 | (with_reducible refine Kd.C_alloc ?_ _) | (with_reducible refine Kd.C_drewN ?_ _) | (with_reducible refine Kd.C_drew ?_))); (case side2 => exact (Kd.R_reads' HO_6.out).2.1); (case side3 => repeat (first | exact (Kd.R_reads' HO193.out).2.2 | (with_reducible refine Kd.C_alloc ?_ _) | (with_reducible refine Kd.C_drewN ?_ _) | (with_reducible refine Kd.C_drew ?_))); (case side4 => exact (Kd.R_reads' HO193.out).2.1); rintro e w24 ⟨rfl, hb⟩; refine ⟨_, rfl, ?_⟩; have n0_ := Aside0.mk (Kd.R_below (by (with_reducible repeat (first | apply Kd.R_alloc | apply Kd.R_drewN | apply Kd.R_drew)); exact HO_6.out) hb); have n1_ := Aside0.mk (Kd.R_below (by (with_reducible repeat (first | apply Kd.R_alloc | apply Kd.R_drewN | apply Kd.R_drew)); exact HO193.out) hb); have n2_ := Aside0.mk (below_step (by repeat (first | (with_reducible first | exact HB.out | apply below_alloc | apply pw_below_drewN | apply below_drew1) | exact HB.out)) hb); clear HO_6; clear HO193; clear HB; have HO_6 := n0_; have HO193 := n1_; have HB := n2_; clear n0_ n1_ n2_; (try clear hb); (try clear hb2); (try clear hk); (try clear hi)))
            go_ret
            exact ⟨by first | rfl | (simp [errW_none, errW_some] <;> rfl) | (simp [*, errW_none, errW_some] <;> rfl), by repeat (first | (with_reducible first | exact HB.out | apply below_alloc | apply pw_below_drewN | apply below_drew1) | exact HB.out)⟩
          · replace c21 := Bool.eq_false_iff.mpr c21
            subst c21
            have H1 : (some false) = some r := by rw [if_neg (show ¬ (false = true) by decide)] at H; exact H
            clear H
            have H := H1
            clear H1
            obtain rfl := Option.some.inj H
            go_wp2_with (first | ((with_reducible refine gate_callee (f := 16) rfl ?_); refine goesL_ (some 37) rfl rfl Tryd.func16 (by kernel_rfl) rfl #[.slice A0 l0.length c0] rfl (by (try simp only [List.map_toArray, List.map_cons, List.map_nil]); first | done | rfl | (simp only [List.length_drop, List.length_take]; rfl)) ?_; (with_reducible refine (laws_toBlockS.calls kj8 _ _ l0 t191 _ ?side1 ?side2 A19.out).mono ?_); (case side1 => repeat (first | exact (Kd.C_below HR0.out HB.out) | (with_reducible refine Kd.C_alloc ?_ _) | (with_reducible refine Kd.C_drewN ?_ _) | (with_reducible refine Kd.C_drew ?_))); (case side2 => exact HC0.out); rintro e w25 ⟨v192, rfl, ho0, hb⟩; refine ⟨_, rfl, ?_⟩; have n0_ := Aside0.mk (Kd.R_elder' (by (with_reducible repeat (first | apply Kd.R_alloc | apply Kd.R_drewN | apply Kd.R_drew)); exact HO_6.out) (Kd.R_base ho0) hb); have n1_ := Aside0.mk (Kd.R_lower (Kd.R_new' ho0 (Kd.R_lt (by (with_reducible repeat (first | apply Kd.R_alloc | apply Kd.R_drewN | apply Kd.R_drew)); exact HO_6.out))) (below_size (by repeat (first | (with_reducible first | exact HB.out | apply below_alloc | apply pw_below_drewN | apply below_drew1) | exact HB.out)))); have n2_ := Aside0.mk (below_step (by repeat (first | (with_reducible first | exact HB.out | apply below_alloc | apply pw_below_drewN | apply below_drew1) | exact HB.out)) hb); clear HO_6; clear HB; have HO_6 := n0_; have HO193 := n1_; have HB := n2_; clear n0_ n1_ n2_; (try clear hb); (try clear hb2); (try clear hk); (try clear hi); (try clear ho0); obtain ⟨Ao26, co26, eo26⟩ := Kd.R_slice HO193.out; subst eo26) | ((with_reducible refine gate_callee (f := 9) rfl ?_); refine goesL_ (some 38) rfl rfl Tryd.func9 (by kernel_rfl) rfl #[.slice Ao15 t186.length co15, .slice Ao26 t191.length co26] rfl (by (try simp only [List.map_toArray, List.map_cons, List.map_nil]); first | done | rfl | (simp only [List.length_drop, List.length_take]; rfl)) ?_; (with_reducible refine (laws_eqBlockS.calls kj8 _ _ t186 _ _ t191 false _ ?side1 ?side2 ?side3 ?side4 A20.out).mono ?_); (case side1 => repeat (first | exact (Kd.R_reads' HO_6.out).2.2 | (with_reducible refine Kd.C_alloc ?_ _) | (with_reducible refine Kd.C_drewN ?_ _) | (with_reducible refine Kd.C_drew ?_))); (case side2 => exact (Kd.R_reads' HO_6.out).2.1); (case side3 => repeat (first | exact (Kd.R_reads' HO193.out).2.2 | (with_reducible refine Kd.C_alloc ?_ _) | (with_reducible refine Kd.C_drewN ?_ _) | (with_reducible refine Kd.C_drew ?_))); (case side4 => exact (Kd.R_reads' HO193.out).2.1); rintro e w27 ⟨rfl, hb⟩; refine ⟨_, rfl, ?_⟩; have n0_ := Aside0.mk (Kd.R_below (by (with_reducible repeat (first | apply Kd.R_alloc | apply Kd.R_drewN | apply Kd.R_drew)); exact HO_6.out) hb); have n1_ := Aside0.mk (Kd.R_below (by (with_reducible repeat (first | apply Kd.R_alloc | apply Kd.R_drewN | apply Kd.R_drew)); exact HO193.out) hb); have n2_ := Aside0.mk (below_step (by repeat (first | (with_reducible first | exact HB.out | apply below_alloc | apply pw_below_drewN | apply below_drew1) | exact HB.out)) hb); clear HO_6; clear HO193; clear HB; have HO_6 := n0_; have HO193 := n1_; have HB := n2_; clear n0_ n1_ n2_; (try clear hb); (try clear hb2); (try clear hk); (try clear hi)))
            go_ret
            exact ⟨by first | rfl | (simp [errW_none, errW_some] <;> rfl) | (simp [*, errW_none, errW_some] <;> rfl), by repeat (first | (with_reducible first | exact HB.out | apply below_alloc | apply pw_below_drewN | apply below_drew1) | exact HB.out)⟩
end Go.Proofs.YtnabckhhnknlaaaDoor.XJ
end

section
namespace Go.Proofs.YtnabckhhnknlaaaDoor.Open
open Go.ChangeShapes Go.WideShapes Go.RowKit Go.Proofs.YtnabckhhnknlaaaDoorW.PrintWords
set_option linter.unusedVariables false
def Opens (P : Program) (t : TypeId) {α : Type} (d : Kd α) (Q : α → Prop) : Prop :=
  P.cellsOf t = d.sz ∧ ∀ (H : Type) (enc : TypeId × Value → H) (w : World) (base : Nat) (spare : Nat → Bool) (held : Bool) (fuel : Nat) (cs : List Value) (x : DataW H × List MemPlace),
    DataW.trod enc P w base spare held fuel t cs = some x → ∃ a : α, d.K w a cs ∧ Q a
theorem Opens.int {P : Program} {t : TypeId} {k : IntKind} (hu : P.underlying t = some (.int k)) (hc : P.cellsOf t = 1) : Opens P t (Kd.int k) (fun n => (Lit.int k n).wf = true) := by
  refine ⟨hc, fun H enc w base spare held fuel cs x h => ?_⟩
  obtain ⟨n, rfl, _, hw⟩ := DataW.trod_int hu h
  exact ⟨n, rfl, hw⟩
theorem Opens.bool {P : Program} {t : TypeId} (hu : P.underlying t = some .bool) (hc : P.cellsOf t = 1) : Opens P t Kd.bool (fun _ => True) := by
  refine ⟨hc, fun H enc w base spare held fuel cs x h => ?_⟩
  obtain ⟨b, rfl, _⟩ := DataW.trod_bool hu h
  exact ⟨b, rfl, trivial⟩
theorem Opens.string {P : Program} {t : TypeId} (hu : P.underlying t = some .string) (hc : P.cellsOf t = 1) : Opens P t Kd.string (fun s => s.size ≤ maxLen) := by
  refine ⟨hc, fun H enc w base spare held fuel cs x h => ?_⟩
  obtain ⟨s, rfl, _, hs⟩ := DataW.trod_string hu h
  exact ⟨s, rfl, hs⟩
theorem choose_list {α : Type} {n : Nat} {p : Nat → α → Prop} (h : ∀ i, i < n → ∃ x, p i x) : ∃ l : List α, l.length = n ∧ ∀ i x, l[i]? = some x → p i x := by
  induction n with
  | zero => exact ⟨[], rfl, fun i x hx => by simp at hx⟩
  | succ n ih =>
    obtain ⟨l, hl, hp⟩ := ih (fun i hi => h i (by omega))
    obtain ⟨x, hx⟩ := h n (by omega)
    refine ⟨l ++ [x], by simp [hl], fun i y hy => ?_⟩
    rcases Nat.lt_or_ge i l.length with hi | hi
    · rw [List.getElem?_append_left hi] at hy
      exact hp i y hy
    · have : i = l.length := by
        have := (List.getElem?_eq_some_iff.1 hy).1
        simp at this
        omega
      subst this
      simp at hy
      subst hy
      rw [hl]
      exact hx
theorem cells?_get {w : World} {base : Nat} {a : Addr} {n : Nat} {cs : List Value} (h : w.cells? base a n = some cs) (i : Nat) (u : Value) (hu : cs[i]? = some u) : w.cell? (a.add i) = some u := by
  unfold World.cells? at h
  split at h
  · have hlen : cs.length = n := by simpa using mapM_some_length h
    have hi : i < n := by
      have := (List.getElem?_eq_some_iff.1 hu).1
      omega
    have := mapM_some_get h i i (by simp [hi])
    rw [hu] at this
    exact this
  · cases h
theorem Opens.slice {P : Program} {t e : TypeId} {α : Type} {d : Kd α} {Q : α → Prop} (hu : P.underlying t = some (.slice e)) (hc : P.cellsOf t = 1) (hd : Opens P e d Q) :
    Opens P t (Kd.slice e d) (fun xs => xs.length ≤ maxLen ∧ ∀ x ∈ xs, Q x) := by
  refine ⟨hc, fun H enc w base spare held fuel cs x h => ?_⟩
  rcases Go.Deep.open_slice hu h with ⟨rfl, _⟩ | ⟨a, len, cap, m, n, D, Pl, rfl, _, hl, hm, hmm, _, hx⟩
  · exact ⟨[], ⟨none, 0, rfl, Nat.le_refl _, rfl, by simp, fun h => absurd h (by simp)⟩, by simp, fun x hx => by simp at hx⟩
  · have hlm : len ≤ m := by rw [hmm]; split <;> omega
    obtain ⟨l, hl1, hp⟩ := choose_list (n := len) (p := fun i (x : α) => ∃ cs', w.cells? base (a.add (i * d.sz)) d.sz = some cs' ∧ d.K w x cs' ∧ Q x) (fun i hi => by
      obtain ⟨cs', h1, h2⟩ := hx i (by omega)
      rw [hd.1] at h1
      obtain ⟨y, hy, hq⟩ := hd.2 H enc w base spare held n cs' _ h2
      exact ⟨y, cs', h1, hy, hq⟩)
    have hmax : (maxLen : Nat) = 9223372036854775807 := by unfold maxLen; omega
    refine ⟨l, ⟨some a, cap, by rw [hl1], by omega, rfl, by omega, fun _ => ⟨a, rfl, fun j p hj => ?_⟩⟩, by omega, fun x hx => ?_⟩
    · obtain ⟨cs', h1, h2, _⟩ := hp j p hj
      refine ⟨cs', d.K_len h2, h2, fun i u hi => ?_⟩
      have := cells?_get h1 i u hi
      rwa [Go.Deep.add_add] at this
    · obtain ⟨i, hi, rfl⟩ := List.mem_iff_getElem.1 hx
      obtain ⟨cs', _, _, h3⟩ := hp i _ (List.getElem?_eq_getElem hi)
      exact h3
def OpensF (P : Program) (fs : List Field) (off : Nat) {α : Type} (d : Kd α) (Q : α → Prop) : Prop :=
  ∀ (H : Type) (enc : TypeId × Value → H) (w : World) (base : Nat) (spare : Nat → Bool) (held : Bool) (n : Nat) (cs : List Value), off + d.sz = cs.length →
    (∀ f ∈ fs, ∃ y, DataW.trod enc P w base spare held n f.type ((cs.drop f.offset).take (P.cellsOf f.type)) = some y) → ∃ a : α, d.K w a (cs.drop off) ∧ Q a
theorem OpensF.one {P : Program} {f : Field} {off : Nat} {α : Type} {d : Kd α} {Q : α → Prop} (ho : f.offset = off) (h : Opens P f.type d Q) : OpensF P [f] off d Q := by
  intro H enc w base spare held n cs hl hf
  obtain ⟨y, hy⟩ := hf f List.mem_cons_self
  rw [ho, h.1, List.take_of_length_le (by rw [List.length_drop]; omega)] at hy
  exact h.2 H enc w base spare held n _ y hy
theorem OpensF.cons {P : Program} {f : Field} {fs : List Field} {off : Nat} {α β : Type} {d1 : Kd α} {d2 : Kd β} {Q1 : α → Prop} {Q2 : β → Prop} (ho : f.offset = off) (h : Opens P f.type d1 Q1) (hs : OpensF P fs (off + d1.sz) d2 Q2) :
    OpensF P (f :: fs) off (Kd.pair d1 d2) (fun x => Q1 x.1 ∧ Q2 x.2) := by
  intro H enc w base spare held n cs hl hf
  have hl' : off + (d1.sz + d2.sz) = cs.length := hl
  obtain ⟨y, hy⟩ := hf f List.mem_cons_self
  rw [ho, h.1] at hy
  obtain ⟨a, ha, qa⟩ := h.2 H enc w base spare held n _ y hy
  obtain ⟨b, hb, qb⟩ := hs H enc w base spare held n cs (by omega) (fun g hg => hf g (List.mem_cons_of_mem _ hg))
  refine ⟨(a, b), ⟨_, _, ?_, ha, hb⟩, qa, qb⟩
  rw [← List.drop_drop, List.take_append_drop]
theorem Opens.struct {P : Program} {t : TypeId} {fs : Array Field} {α β : Type} {d : Kd α} {Q : α → Prop} (f : β → α) (g : α → β) (hfg : ∀ x, f (g x) = x) (hu : P.underlying t = some (.struct fs)) (hc : P.cellsOf t = d.sz) (h : OpensF P fs.toList 0 d Q) :
    Opens P t (Kd.iso d f) (fun x => Q (f x)) := by
  refine ⟨hc, fun H enc w base spare held fuel cs x hx => ?_⟩
  obtain ⟨xs, n, rfl, _, hl, hxs, hf⟩ := DataW.trod_struct hu hx
  obtain ⟨a, ha, qa⟩ := h H enc w base spare held n cs (by omega) (fun f hf0 => by
    obtain ⟨i, hi, rfl⟩ := List.mem_iff_getElem.1 hf0
    have hi' : i < fs.size := by simpa using hi
    have := hf i fs[i] (Array.getElem?_eq_getElem hi')
    rw [List.getElem?_eq_getElem (by omega)] at this
    exact ⟨_, by simpa using this⟩)
  refine ⟨g a, ?_, ?_⟩
  · show d.K w (f (g a)) cs
    rw [hfg]
    simpa using ha
  · show Q (f (g a))
    rw [hfg]
    exact qa
theorem open_sl {H : Type} {enc : TypeId × Value → H} {P : Program} {W : World} {base B : Nat} {spare : Nat → Bool} {held : Bool} {t e : TypeId} {v : Value} {dd : DataW H} {ps : List MemPlace} {α : Type} {d : Kd α} {Q : α → Prop}
    (hu : P.underlying t = some (.slice e)) (hc : P.cellsOf t = 1) (hd : Opens P e d Q) (hv : Value.okWide P W .any B t v) (h : DataW.Trod enc P W base spare held t v dd ps) :
    ∃ (A : Option Addr) (c : Nat) (l : List α), v = .slice A l.length c ∧ l.length ≤ c ∧ Kd.C d W A l.length l ∧ l.length ≤ maxLen ∧ ∀ x ∈ l, Q x := by
  obtain ⟨a0, len, cap, rfl⟩ := okWide_slice hu hv
  obtain ⟨fuel, hf⟩ := h
  obtain ⟨l, ⟨A, c, he, hl, hC⟩, hm, hq⟩ := (Opens.slice hu hc hd).2 H enc W base spare held fuel _ _ hf
  refine ⟨A, c, l, ?_, hl, hC, hm, hq⟩
  simpa [Value.cells] using he
end Go.Proofs.YtnabckhhnknlaaaDoor.Open
end

section
namespace Go.Proofs.YtnabckhhnknlaaaDoor.XJ
open Go.RowKit Go.Proofs.YtnabckhhnknlaaaDoorW.PrintWords Go.Proofs.YtnabckhhnknlaaaDoor.Open
set_option linter.unusedVariables false
def Q57 (x : S57) : Prop := (x.f0.size ≤ maxLen) ∧ (x.f1.size ≤ maxLen) ∧ (x.f2.size ≤ maxLen)
theorem opens57 : Opens Tryd.prog 57 k57 Q57 := Opens.struct (fun x : S57 => (x.f0, x.f1, x.f2)) (fun p => (⟨p.1, p.2.1, p.2.2⟩ : S57)) (fun _ => rfl) Tryd.underlying57 (by kernel_rfl) (OpensF.cons rfl (Opens.string Tryd.underlying9 (by kernel_rfl)) (OpensF.cons rfl (Opens.string Tryd.underlying9 (by kernel_rfl)) (OpensF.one rfl (Opens.string Tryd.underlying9 (by kernel_rfl)))))
end Go.Proofs.YtnabckhhnknlaaaDoor.XJ
end

section
namespace Go.Proofs.YtnabckhhnknlaaaDoor.XJ
open Go.RowKit Go.Proofs.YtnabckhhnknlaaaDoorW.PrintWords
def laws_FnExactSaveBlocks.Pure : Prop := ∀ (a0 : List (S57)), ((a0.length ≤ maxLen ∧ ∀ y2 ∈ a0, Q57 y2)) → ∃ k, laws_FnExactSaveBlocks.f k a0 = some true
end Go.Proofs.YtnabckhhnknlaaaDoor.XJ
end

section
namespace Go.Proofs.YtnabckhhnknlaaaDoor.EvK
open Go.RowKit Go.Proofs.YtnabckhhnknlaaaDoorW.PrintWords
set_option linter.unusedVariables false
theorem w64 {n : Int} (h : -9223372036854775808 ≤ n) (h' : n ≤ 9223372036854775807) : wrap64 n = n := by unfold wrap64; omega
theorem Ev.some {α : Type} {a r : α} (h : a = r) : Ev (fun _ => Option.some a) r := h ▸ Ev.now a
theorem Ev.bind_some {α β : Type} {g : Nat → Option α} {f : Nat → α → Option β} {a : α} {r : β} (h : Ev g a) (k : Ev (fun n => f n a) r) : Ev (fun n => (g n).bind (f n)) r := Ev.bind h k
theorem getD_at {α : Type} (l : List α) (d : α) (i : Nat) (h : i < l.length) : l.getD (i : Int).toNat d = l[i] := by
  simp [List.getD_eq_getElem?_getD, List.getElem?_eq_getElem h]
theorem rd_at (l : List Int) (i : Nat) (h : i < l.length) : rd l (i : Int) = l[i] := getD_at l 0 i h
theorem map_done {α β : Type} (f : α → β) (l : List α) (z : β) (i : Nat) (h : i < l.length) :
    ((l.take i).map f ++ List.replicate (l.length - i) z).set i (f l[i]) = (l.take (i + 1)).map f ++ List.replicate (l.length - (i + 1)) z := by
  have e : l.length - i = (l.length - (i + 1)) + 1 := by omega
  rw [List.set_append_right _ _ (by simp; omega), e, List.replicate_succ]
  have e2 : i - ((l.take i).map f).length = 0 := by simp; omega
  rw [e2, List.set_cons_zero, List.take_succ_eq_append_getElem h, List.map_append]
  simp
theorem done_len {α β : Type} (f : α → β) (l : List α) (z : β) (i : Nat) (h : i ≤ l.length) : ((l.take i).map f ++ List.replicate (l.length - i) z).length = l.length := by simp; omega
def EvP {α : Type} (g : Nat → Option α) (P : α → Prop) : Prop := ∃ r, Ev g r ∧ P r
theorem EvP.now {α : Type} {r : α} {P : α → Prop} (h : P r) : EvP (fun _ => Option.some r) P := ⟨r, Ev.now r, h⟩
theorem EvP.of {α : Type} {g : Nat → Option α} {r : α} {P : α → Prop} (h : Ev g r) (hp : P r) : EvP g P := ⟨r, h, hp⟩
theorem EvP.mono {α : Type} {g : Nat → Option α} {P Q : α → Prop} (h : EvP g P) (hp : ∀ r, P r → Q r) : EvP g Q := by
  obtain ⟨r, h1, h2⟩ := h
  exact ⟨r, h1, hp _ h2⟩
theorem EvP.eq {α : Type} {g : Nat → Option α} {r : α} (h : EvP g (· = r)) : Ev g r := by
  obtain ⟨r', h, rfl⟩ := h
  exact h
theorem EvP.step {α : Type} {g f : Nat → Option α} {P : α → Prop} (h : ∀ k, g (k + 1) = f k) (k : EvP f P) : EvP g P := by
  obtain ⟨r, h1, h2⟩ := k
  exact ⟨r, Ev.step h h1, h2⟩
theorem EvP.bind {α β : Type} {g : Nat → Option α} {f : Nat → α → Option β} {a : α} {P : β → Prop} (h : Ev g a) (k : EvP (fun n => f n a) P) : EvP (fun n => (g n).bind (f n)) P := by
  obtain ⟨r, h1, h2⟩ := k
  exact ⟨r, Ev.bind h h1, h2⟩
theorem EvP.bindP {α β : Type} {g : Nat → Option α} {f : Nat → α → Option β} {Q : α → Prop} {P : β → Prop} (h : EvP g Q) (k : ∀ a, Q a → EvP (fun n => f n a) P) : EvP (fun n => (g n).bind (f n)) P := by
  obtain ⟨a, ha, hq⟩ := h
  exact EvP.bind ha (k a hq)
theorem EvP.rounds {α : Type} {g : Nat → Option α} {r : α} (h : EvP g (· = r)) : ∃ k, g k = Option.some r := Ev.rounds (EvP.eq h)
theorem for_evp {σ ρ : Type} {L : Nat → σ → Int → Option ρ} {Post : ρ → Prop} (n : Nat) (inv : Nat → σ → Prop)
    (step : ∀ (i : Nat) (s : σ), i < n → inv i s → (∀ s', inv (i + 1) s' → EvP (fun k => L k s' ((i : Int) + 1)) Post) → EvP (fun k => L k s i) Post)
    (fin : ∀ s, inv n s → EvP (fun k => L k s n) Post) (s : σ) (h0 : inv 0 s) : EvP (fun k => L k s 0) Post := by
  have key : ∀ (d i : Nat) (s : σ), i + d = n → inv i s → EvP (fun k => L k s i) Post := by
    intro d
    induction d with
    | zero =>
      intro i s hi hs
      obtain rfl : i = n := by omega
      exact fin s hs
    | succ d ih =>
      intro i s hi hs
      refine step i s (by omega) hs (fun s' hs' => ?_)
      simpa using ih (i + 1) s' (by omega) hs'
  simpa using key n 0 s (by omega) h0
theorem take_all {α : Type} {p : α → Prop} {l : List α} {i : Nat} (h : i < l.length) (hs : ∀ x ∈ l.take i, p x) (hx : p l[i]) : ∀ x ∈ l.take (i + 1), p x := by
  rw [List.take_succ_eq_append_getElem h]
  intro x hm
  rcases List.mem_append.1 hm with hm | hm
  · exact hs x hm
  · rw [List.mem_singleton.1 hm]
    exact hx
theorem all_ev {α : Type} {L : Nat → Int → Option Bool} (l : List α) (p : α → Bool) (b : Bool)
    (step : ∀ (i : Nat) (h : i < l.length), p l[i] = true → ∀ P, EvP (fun k => L k ((i : Int) + 1)) P → EvP (fun k => L k i) P)
    (stop : ∀ (i : Nat) (h : i < l.length), p l[i] = false → Ev (fun k => L k i) false)
    (fin : Ev (fun k => L k l.length) b) : Ev (fun k => L k 0) (l.all p && b) := by
  apply EvP.eq
  refine for_evp (L := fun k (_ : Unit) i => L k i) l.length (fun i _ => ∀ x ∈ l.take i, p x = true) ?_ ?_ () (by simp)
  · intro i _ hi hs K
    cases hp : p l[i] with
    | true => exact step i hi hp _ (K () (take_all hi hs hp))
    | false =>
      have e : l.all p = false := by
        rw [List.all_eq_false]
        exact ⟨l[i], List.getElem_mem hi, by simp [hp]⟩
      rw [e]
      exact EvP.of (stop i hi hp) rfl
  · intro _ hs
    have e : l.all p = true := by
      rw [List.all_eq_true]
      simpa using hs
    rw [e]
    exact EvP.of fin rfl
theorem bytes_at_ (s : ByteArray) (i : Nat) (h : i < s.data.toList.length) : bt s (i : Int) = ((s.data.toList[i]).toNat : Int) := by
  have h' : i < s.size := by simpa using h
  unfold bt
  rw [dif_pos (by simpa using h')]
  simp
  rfl
theorem size_len (s : ByteArray) : (s.size : Int) = (s.data.toList.length : Int) := by simp
theorem size_len' (s : ByteArray) : s.size = s.data.toList.length := by simp
end Go.Proofs.YtnabckhhnknlaaaDoor.EvK
end

section
namespace Go.Proofs.YtnabckhhnknlaaaDoor.PBasics
open Go.RowKit Go.Proofs.YtnabckhhnknlaaaDoorW.PrintWords Go.Proofs.YtnabckhhnknlaaaDoor.XJ Go.Proofs.YtnabckhhnknlaaaDoor.EvK
set_option linter.unusedVariables false
set_option linter.unusedSimpArgs false
def smallB (c : UInt8) : Bool := decide (97 ≤ (c.toNat : Int)) && decide ((c.toNat : Int) ≤ 122)
def digB (c : UInt8) : Bool := decide (48 ≤ (c.toNat : Int)) && decide ((c.toNat : Int) ≤ 57)
def nameB (c : UInt8) : Bool := smallB c || digB c
def nameOk (s : ByteArray) : Bool := match s.data.toList with
  | [] => false
  | c :: l => decide ((s.size : Int) ≤ 10) && smallB c && (c :: l).all nameB
theorem small_eq (c : UInt8) : spec_l01Small.f (c.toNat : Int) = some (smallB c) := by
  unfold spec_l01Small.f smallB
  by_cases h : (c.toNat : Int) ≥ 97
  · rw [if_pos h, decide_eq_true (show (97 : Int) ≤ c.toNat from h), Bool.true_and]
  · rw [if_neg h, decide_eq_false (show ¬ (97 : Int) ≤ c.toNat from h), Bool.false_and]
theorem dig_eq (c : UInt8) : spec_l01Digit.f (c.toNat : Int) = some (digB c) := by
  unfold spec_l01Digit.f digB
  by_cases h : (c.toNat : Int) ≥ 48
  · rw [if_pos h, decide_eq_true (show (48 : Int) ≤ c.toNat from h), Bool.true_and]
  · rw [if_neg h, decide_eq_false (show ¬ (48 : Int) ≤ c.toNat from h), Bool.false_and]
theorem onlyName_ev (s : ByteArray) (h : s.size ≤ 1048576) : Ev (fun k => impl_onlyNameBytes.f k s) (s.data.toList.all nameB) := by
  unfold impl_onlyNameBytes.f
  rw [size_len'] at h
  have := all_ev (L := fun k i => impl_onlyNameBytes.l0 k s (s.size : Int) i) s.data.toList nameB true ?_ ?_ ?_
  · simpa using this
  · intro i hi hp P K
    refine EvP.step (fun k => impl_onlyNameBytes.l0.eq_2 _ _ _ k) ?_
    simp only [size_len] at K
    simp only [size_len, if_pos (show (i : Int) < (s.data.toList.length : Int) by omega), if_pos (show (0 : Int) ≤ (i : Int) by omega), bytes_at_ s i hi, w64 (show -9223372036854775808 ≤ (i : Int) + 1 by omega) (by omega)]
    simp only [nameB, smallB, digB, Bool.or_eq_true, Bool.and_eq_true, decide_eq_true_eq] at hp
    by_cases h1 : ((s.data.toList[i]).toNat : Int) < 97
    · simp only [if_pos h1, if_neg (show ¬ ((s.data.toList[i]).toNat : Int) < 48 by omega), if_neg (show ¬ ((s.data.toList[i]).toNat : Int) > 57 by omega)]
      exact K
    · simp only [if_neg h1, if_neg (show ¬ ((s.data.toList[i]).toNat : Int) > 122 by omega)]
      exact K
  · intro i hi hp
    refine Ev.step (fun k => impl_onlyNameBytes.l0.eq_2 _ _ _ k) ?_
    simp only [size_len, if_pos (show (i : Int) < (s.data.toList.length : Int) by omega), if_pos (show (0 : Int) ≤ (i : Int) by omega), bytes_at_ s i hi, w64 (show -9223372036854775808 ≤ (i : Int) + 1 by omega) (by omega)]
    simp only [nameB, smallB, digB, Bool.or_eq_false_iff, Bool.and_eq_false_iff, decide_eq_false_iff_not] at hp
    by_cases h1 : ((s.data.toList[i]).toNat : Int) < 97
    · by_cases h2 : ((s.data.toList[i]).toNat : Int) < 48
      · simp only [if_pos h1, if_pos h2]; exact Ev.now _
      · simp only [if_pos h1, if_neg h2, if_pos (show ((s.data.toList[i]).toNat : Int) > 57 by omega)]; exact Ev.now _
    · simp only [if_neg h1, if_pos (show ((s.data.toList[i]).toNat : Int) > 122 by omega), if_neg (show ¬ ((s.data.toList[i]).toNat : Int) < 48 by omega), if_pos (show ((s.data.toList[i]).toNat : Int) > 57 by omega)]
      exact Ev.now _
  · refine Ev.step (fun k => impl_onlyNameBytes.l0.eq_2 _ _ _ k) ?_
    simp only [size_len, if_neg (show ¬ (s.data.toList.length : Int) < (s.data.toList.length : Int) by omega)]
    exact Ev.now _
theorem head_at (s : ByteArray) (c : UInt8) (l : List UInt8) (hl : s.data.toList = c :: l) : bt s 0 = (c.toNat : Int) := by
  have h : 0 < s.data.toList.length := by rw [hl]; simp
  have := bytes_at_ s 0 h
  rw [show ((0 : Nat) : Int) = 0 from rfl] at this
  rw [this]
  simp only [hl, List.getElem_cons_zero]
theorem isName_ev (s : ByteArray) (h : s.size ≤ 1048576) : Ev (fun k => impl_IsName.f k s) (nameOk s) := by
  unfold impl_IsName.f nameOk
  cases hl : s.data.toList with
  | nil =>
    have hz : s.size = 0 := by rw [size_len', hl]; rfl
    simp only [hz, Int.natCast_zero, if_pos (show (0 : Int) < 1 by omega)]
    exact Ev.now _
  | cons c l =>
    have hz : s.size = l.length + 1 := by rw [size_len', hl]; rfl
    have ho := onlyName_ev s h
    rw [hl] at ho
    simp only [if_neg (show ¬ (s.size : Int) < 1 by omega), if_pos (show (0 : Int) < (s.size : Int) by omega), head_at s c l hl]
    by_cases h1 : (s.size : Int) > 10
    · simp only [if_pos h1, decide_eq_false (show ¬ (s.size : Int) ≤ 10 by omega), Bool.false_and]
      exact Ev.now _
    · simp only [if_neg h1, decide_eq_true (show (s.size : Int) ≤ 10 by omega), Bool.true_and]
      by_cases h2 : (c.toNat : Int) < 97
      · simp only [if_pos h2, smallB, decide_eq_false (show ¬ (97 : Int) ≤ c.toNat by omega), Bool.false_and]
        exact Ev.now _
      · by_cases h3 : (c.toNat : Int) > 122
        · simp only [if_neg h2, if_pos h3, smallB, decide_eq_false (show ¬ (c.toNat : Int) ≤ 122 by omega), Bool.false_and, Bool.and_false]
          exact Ev.now _
        · simp only [if_neg h2, if_neg h3, smallB, decide_eq_true (show (97 : Int) ≤ c.toNat by omega), decide_eq_true (show (c.toNat : Int) ≤ 122 by omega), Bool.true_and]
          exact Ev.bind ho (Ev.now _)
theorem toList_eq (s : ByteArray) : s.toList = s.data.toList := by
  have := Lib.toList_data s
  first | exact this | exact this.symm
theorem specName_ev (s : ByteArray) (h : s.size ≤ 1048576) : Ev (fun k => spec_l01Name.f k s) (nameOk s) := by
  unfold spec_l01Name.f nameOk
  have hj : Ev (fun k => spec_l01Name.j0 k s true) false := by
    refine Ev.step (fun k => spec_l01Name.j0.eq_2 _ _ k) ?_
    simp only [if_true]
    exact Ev.now _
  cases hl : s.data.toList with
  | nil =>
    simp only [toList_eq, hl, if_true]
    exact hj
  | cons c l =>
    have hz : s.size = l.length + 1 := by rw [size_len', hl]; rfl
    simp only [toList_eq, hl, reduceCtorEq, if_false, if_pos (show (0 : Int) < (s.size : Int) by omega), head_at s c l hl, small_eq, Option.bind_some]
    by_cases h1 : (s.size : Int) > 10
    · simp only [if_pos h1, decide_eq_false (show ¬ (s.size : Int) ≤ 10 by omega), Bool.false_and]
      exact hj
    simp only [if_neg h1, decide_eq_true (show (s.size : Int) ≤ 10 by omega), Bool.true_and]
    cases hs : smallB c with
    | false =>
      simp only [Bool.not_false, Bool.false_and]
      exact hj
    | true =>
      simp only [Bool.not_true, Bool.true_and]
      refine Ev.step (fun k => spec_l01Name.j0.eq_2 _ _ k) ?_
      simp only [Bool.false_eq_true, if_false]
      rw [← hl]
      rw [size_len'] at h
      have := all_ev (L := fun k i => spec_l01Name.l0 k s i) s.data.toList nameB true ?_ ?_ ?_
      · simpa using this
      · intro i hi hp P K
        refine EvP.step (fun k => spec_l01Name.l0.eq_2 _ _ k) ?_
        simp only [size_len, if_pos (show (i : Int) < (s.data.toList.length : Int) by omega), if_pos (show (0 : Int) ≤ (i : Int) by omega), bytes_at_ s i hi, w64 (show -9223372036854775808 ≤ (i : Int) + 1 by omega) (by omega), small_eq, dig_eq, Option.bind_some]
        cases h2 : smallB s.data.toList[i] with
        | true => simp only [if_true]; exact K
        | false =>
          simp only [nameB, h2, Bool.false_or] at hp
          simp only [hp, Bool.false_eq_true, if_false, if_true]
          exact K
      · intro i hi hp
        refine Ev.step (fun k => spec_l01Name.l0.eq_2 _ _ k) ?_
        simp only [nameB, Bool.or_eq_false_iff] at hp
        simp only [size_len, if_pos (show (i : Int) < (s.data.toList.length : Int) by omega), if_pos (show (0 : Int) ≤ (i : Int) by omega), bytes_at_ s i hi, w64 (show -9223372036854775808 ≤ (i : Int) + 1 by omega) (by omega), small_eq, dig_eq, Option.bind_some, hp.1, hp.2, Bool.false_eq_true, if_false]
        exact Ev.now _
      · refine Ev.step (fun k => spec_l01Name.l0.eq_2 _ _ k) ?_
        simp only [size_len, if_neg (show ¬ (s.data.toList.length : Int) < (s.data.toList.length : Int) by omega)]
        exact Ev.now _
end Go.Proofs.YtnabckhhnknlaaaDoor.PBasics
end

section
namespace Go.Proofs.YtnabckhhnknlaaaDoor.EvK
open Go.RowKit Go.Proofs.YtnabckhhnknlaaaDoorW.PrintWords
set_option linter.unusedVariables false
theorem all_to {α ρ : Type} {L : Nat → Int → Option ρ} (l : List α) (p : α → Bool) (yes no : ρ)
    (step : ∀ (i : Nat) (h : i < l.length), p l[i] = true → ∀ P, EvP (fun k => L k ((i : Int) + 1)) P → EvP (fun k => L k i) P)
    (stop : ∀ (i : Nat) (h : i < l.length), p l[i] = false → Ev (fun k => L k i) no)
    (fin : l.all p = true → Ev (fun k => L k l.length) yes) : Ev (fun k => L k 0) (if l.all p = true then yes else no) := by
  apply EvP.eq
  refine for_evp (L := fun k (_ : Unit) i => L k i) l.length (fun i _ => ∀ x ∈ l.take i, p x = true) ?_ ?_ () (by simp)
  · intro i _ hi hs K
    cases hp : p l[i] with
    | true => exact step i hi hp _ (K () (take_all hi hs hp))
    | false =>
      have e : l.all p = false := by
        rw [List.all_eq_false]
        exact ⟨l[i], List.getElem_mem hi, by simp [hp]⟩
      rw [e]
      exact EvP.of (stop i hi hp) rfl
  · intro _ hs
    have e : l.all p = true := by
      rw [List.all_eq_true]
      simpa using hs
    rw [e]
    exact EvP.of (fin e) rfl
theorem all_n {ρ : Type} {L : Nat → Int → Option ρ} (n : Nat) (p : Nat → Bool) (yes no : ρ)
    (step : ∀ (i : Nat), i < n → p i = true → ∀ P, EvP (fun k => L k ((i : Int) + 1)) P → EvP (fun k => L k i) P)
    (stop : ∀ (i : Nat), i < n → p i = false → Ev (fun k => L k i) no)
    (fin : Ev (fun k => L k n) yes) : Ev (fun k => L k 0) (if (List.range n).all p = true then yes else no) := by
  have := all_to (L := L) (List.range n) p yes no ?_ ?_ ?_
  · exact this
  · intro i hi hp P K
    simp only [List.length_range, List.getElem_range] at hi hp
    exact step i hi hp P K
  · intro i hi hp
    simp only [List.length_range, List.getElem_range] at hi hp
    exact stop i hi hp
  · intro _
    simpa using fin
theorem contains_byte (l : List UInt8) (c : UInt8) : Lib.contains l [c] = !(l.all (fun x => !(x == c))) := by
  unfold Lib.contains
  rw [Lib.index_one]
  by_cases h : 0 ≤ Lib.indexByte l c
  · obtain ⟨h1, _⟩ := Lib.indexByte_some (l := l) (c := c) (o := (Lib.indexByte l c).toNat) (by omega)
    have e : l.all (fun x => !(x == c)) = false := by
      rw [List.all_eq_false]
      exact ⟨c, List.mem_of_getElem? h1, by simp⟩
    rw [decide_eq_true h, e]; rfl
  · have hm : Lib.indexByte l c = -1 := by have := Lib.indexByte_ge l c; omega
    have hn := Lib.indexByte_none hm
    have e : l.all (fun x => !(x == c)) = true := by
      rw [List.all_eq_true]
      intro x hx
      obtain ⟨k, hk⟩ := List.getElem?_of_mem hx
      have := hn k
      rw [hk] at this
      simpa using this
    rw [decide_eq_false h, e]; rfl
end Go.Proofs.YtnabckhhnknlaaaDoor.EvK
end

section
namespace Go.Proofs.YtnabckhhnknlaaaDoor.PBlocks
open Go.RowKit Go.Proofs.YtnabckhhnknlaaaDoorW.PrintWords Go.Proofs.YtnabckhhnknlaaaDoor.XJ Go.Proofs.YtnabckhhnknlaaaDoor.EvK Go.Proofs.YtnabckhhnknlaaaDoor.PBasics
set_option linter.unusedVariables false
set_option linter.unusedSimpArgs false
def noNl (t : ByteArray) : Bool := t.data.toList.all (fun x => !(x == 10))
def blockOk (a b t : ByteArray) : Bool := nameOk a && (nameOk b && (decide ((t.size : Int) ≤ 400) && noNl t))
theorem validBlock_ev (a b t : ByteArray) (ha : a.size ≤ 1048576) (hb : b.size ≤ 1048576) (ht : t.size ≤ 1048576) : Ev (fun k => impl_ValidBlock.f k a b t) (blockOk a b t) := by
  unfold impl_ValidBlock.f blockOk strings_Contains.f
  rw [if_pos (show t.size < 4294967281 by omega)]
  refine Ev.bind (isName_ev a ha) ?_
  cases nameOk a with
  | false => exact Ev.now _
  | true =>
    simp only [if_true, Bool.true_and]
    refine Ev.bind (isName_ev b hb) ?_
    cases nameOk b with
    | false => exact Ev.now _
    | true =>
      simp only [if_true, Bool.true_and]
      by_cases h : (t.size : Int) ≤ 400
      · simp only [if_pos h, Option.bind_some, decide_eq_true h, Bool.true_and, contains_byte t.data.toList 10, Bool.not_not]
        exact Ev.now _
      · simp only [if_neg h, decide_eq_false h, Bool.false_and]
        exact Ev.now _
theorem oneBlock_ev (a b t : ByteArray) (ha : a.size ≤ 1048576) (hb : b.size ≤ 1048576) (ht : t.size ≤ 1048576) : Ev (fun k => spec_l29One.f k a b t) (blockOk a b t) := by
  unfold spec_l29One.f
  rw [size_len'] at ht
  have e : blockOk a b t = if (t.data.toList.all fun x => !(x == 10)) = true then (nameOk a && (nameOk b && decide ((t.size : Int) ≤ 400))) else false := by
    unfold blockOk noNl
    cases (t.data.toList.all fun x => !(x == 10)) <;> simp
  rw [e]
  refine all_to (L := fun k i => spec_l29One.l0 k i a b t) t.data.toList _ _ _ ?_ ?_ ?_
  · intro i hi hp P K
    refine EvP.step (fun k => spec_l29One.l0.eq_2 _ _ _ _ k) ?_
    have hn : ¬ ((t.data.toList[i].toNat : Int) = 10) := by
      intro h
      have : t.data.toList[i] = 10 := UInt8.toNat_inj.1 (by rw [show ((10 : UInt8).toNat) = 10 from rfl]; omega)
      rw [this] at hp
      exact absurd hp (by decide)
    simp only [size_len, if_pos (show (i : Int) < (t.data.toList.length : Int) by omega), if_pos (show (0 : Int) ≤ (i : Int) by omega), bytes_at_ t i hi, if_neg hn, w64 (show -9223372036854775808 ≤ (i : Int) + 1 by omega) (by omega)]
    simpa only [size_len] using K
  · intro i hi hp
    refine Ev.step (fun k => spec_l29One.l0.eq_2 _ _ _ _ k) ?_
    have hn : ((t.data.toList[i].toNat : Int) = 10) := by
      have : t.data.toList[i] = 10 := by simpa using hp
      rw [this]; rfl
    simp only [size_len, if_pos (show (i : Int) < (t.data.toList.length : Int) by omega), if_pos (show (0 : Int) ≤ (i : Int) by omega), bytes_at_ t i hi, if_pos hn]
    exact Ev.now _
  · intro _
    refine Ev.step (fun k => spec_l29One.l0.eq_2 _ _ _ _ k) ?_
    simp only [size_len, if_neg (show ¬ (t.data.toList.length : Int) < (t.data.toList.length : Int) by omega)]
    refine Ev.bind (specName_ev a ha) ?_
    cases nameOk a with
    | false => exact Ev.now _
    | true =>
      simp only [if_true, Bool.true_and]
      refine Ev.bind (specName_ev b hb) ?_
      cases nameOk b with
      | false => exact Ev.now _
      | true =>
        simp only [if_true, Bool.true_and]
        exact Ev.now _
end Go.Proofs.YtnabckhhnknlaaaDoor.PBlocks
end

section
namespace Go.Proofs.YtnabckhhnknlaaaDoor.PBlockL
open Go.RowKit Go.Proofs.YtnabckhhnknlaaaDoorW.PrintWords Go.Proofs.YtnabckhhnknlaaaDoor.XJ Go.Proofs.YtnabckhhnknlaaaDoor.EvK Go.Proofs.YtnabckhhnknlaaaDoor.PBasics Go.Proofs.YtnabckhhnknlaaaDoor.PBlocks
set_option linter.unusedVariables false
set_option linter.unusedSimpArgs false
def lessS (a b : ByteArray) : Bool := Op.bytesLess a.data.toList b.data.toList
def before (a b : S49) : Bool := lessS a.f0 b.f0 || (decide (a.f0.data.toList = b.f0.data.toList) && lessS a.f1 b.f1)
def cmpS (a b : ByteArray) : Int := if lessS a b = true then -1 else if lessS b a = true then 1 else 0
def cmpB (a b : S49) : Int := if cmpS a.f0 b.f0 = 0 then cmpS a.f1 b.f1 else cmpS a.f0 b.f0
theorem less_ge' (a b : ByteArray) : (lessS a b || decide (a.data.toList = b.data.toList)) = !(lessS b a) := by
  have h := less_ge a.data.toList b.data.toList
  unfold lessS
  rw [← h]
  congr 1
  rw [Bool.eq_iff_iff]
  simp
theorem cmpB_ge (a b : S49) : 0 ≤ cmpB a b ↔ before a b = false := by
  have h := less_ge' a.f0 b.f0
  unfold cmpB before cmpS
  cases h1 : lessS a.f0 b.f0 <;> cases h2 : lessS b.f0 a.f0 <;> cases h3 : lessS a.f1 b.f1 <;> cases h4 : lessS b.f1 a.f1 <;> simp_all
theorem compare_eq (a b : ByteArray) : cmp_Compare_string.f a b = some (cmpS a b) := by
  unfold cmp_Compare_string.f cmp_isNaN_string.f cmpS lessS
  simp only [bne_self_eq_false, Option.bind_some, Bool.false_eq_true, if_false, toList_eq]
  by_cases h1 : Op.bytesLess a.data.toList b.data.toList = true
  · simp only [if_pos h1]
  · simp only [if_neg h1]
    by_cases h2 : Op.bytesLess b.data.toList a.data.toList = true
    · simp only [if_pos h2]
    · simp only [if_neg h2]
theorem or_ev (a b : Int) : Ev (fun k => cmp_Or_int.f k [a, b]) (if a = 0 then b else a) := by
  unfold cmp_Or_int.f
  have w1 : wrap64 (0 + 1) = 1 := by rw [w64 (by omega) (by omega)]; rfl
  have w2 : wrap64 (1 + 1) = 2 := by rw [w64 (by omega) (by omega)]; rfl
  have r0 : rd [a, b] 0 = a := rfl
  have r1 : rd [a, b] 1 = b := rfl
  have hl : (([a, b] : List Int).length : Int) = 2 := rfl
  refine Ev.step (fun k => cmp_Or_int.l0.eq_2 _ _ _ _ k) ?_
  simp only [hl, w1, r0, if_pos (show (0 : Int) < 2 by omega), if_pos (show (0 : Int) ≤ 0 by omega)]
  by_cases ha : a = 0
  · simp only [if_pos ha]
    refine Ev.step (fun k => cmp_Or_int.l0.eq_2 _ _ _ _ k) ?_
    simp only [hl, w2, r1, if_pos (show (1 : Int) < 2 by omega), if_pos (show (0 : Int) ≤ 1 by omega)]
    by_cases hb : b = 0
    · simp only [if_pos hb]
      refine Ev.step (fun k => cmp_Or_int.l0.eq_2 _ _ _ _ k) ?_
      simp only [hl, if_neg (show ¬ (2 : Int) < 2 by omega), hb]
      exact Ev.now _
    · simp only [if_neg hb]; exact Ev.now _
  · simp only [if_neg ha]; exact Ev.now _
theorem compareB_ev (a b : S49) : Ev (fun k => impl_compareBlocks.f k a.f0 a.f1 a.f2 b.f0 b.f1 b.f2) (cmpB a b) := by
  unfold impl_compareBlocks.f
  simp only [compare_eq, Option.bind_some]
  exact Ev.bind (or_ev _ _) (Ev.now _)
theorem before_eq (a b : S49) : spec_l29Before.f a.f0 a.f1 a.f2 b.f0 b.f1 b.f2 = some (before a b) := by
  unfold spec_l29Before.f before
  simp only [toList_eq]
  show (if lessS a.f0 b.f0 = true then some true else if a.f0.data.toList = b.f0.data.toList then some (lessS a.f1 b.f1) else some false) = _
  cases lessS a.f0 b.f0
  · by_cases h : a.f0.data.toList = b.f0.data.toList <;> simp [h]
  · simp
def okAt (l : List S49) (i : Nat) : Bool := let b := l.getD i z49; blockOk b.f0 b.f1 b.f2 && (decide (i = 0) || before (l.getD (i - 1) z49) b)
def listOk (l : List S49) : Bool := (List.range l.length).all (okAt l) && decide ((l.length : Int) ≤ 32)
def Small (l : List S49) : Prop := l.length ≤ 1048576 ∧ ∀ x ∈ l, x.f0.size ≤ 1048576 ∧ x.f1.size ≤ 1048576 ∧ x.f2.size ≤ 1048576
theorem rd_nat (l : List S49) (i : Nat) : rd_T49 l (i : Int) = l.getD i z49 := rfl
theorem getD_mem {l : List S49} {i : Nat} (h : i < l.length) : l.getD i z49 ∈ l := by
  rw [List.getD_eq_getElem?_getD, List.getElem?_eq_getElem h]
  exact List.getElem_mem h
theorem specOk_ev (l : List S49) (hs : Small l) : Ev (fun k => spec_l29Ok.f k l) (listOk l) := by
  have hl := hs.1
  unfold spec_l29Ok.f listOk
  have e : ((List.range l.length).all (okAt l) && decide ((l.length : Int) ≤ 32)) = if (List.range l.length).all (okAt l) = true then decide ((l.length : Int) ≤ 32) else false := by
    cases (List.range l.length).all (okAt l) <;> simp
  rw [e]
  refine all_n (L := fun k i => spec_l29Ok.l0 k l i) l.length (okAt l) _ _ ?_ ?_ ?_
  · intro i hi hp P K
    obtain ⟨z0, z1, z2⟩ := hs.2 _ (getD_mem hi)
    refine EvP.step (fun k => spec_l29Ok.l0.eq_2 _ _ k) ?_
    simp only [if_pos (show (i : Int) < (l.length : Int) by omega), if_pos (show (0 : Int) ≤ (i : Int) by omega), rd_nat, w64 (show -9223372036854775808 ≤ (i : Int) + 1 by omega) (by omega), w64 (show -9223372036854775808 ≤ (i : Int) - 1 by omega) (by omega)]
    simp only [okAt, Bool.and_eq_true, Bool.or_eq_true, decide_eq_true_eq] at hp
    refine EvP.bind (oneBlock_ev _ _ _ z0 z1 z2) ?_
    simp only [hp.1, if_true]
    by_cases h0 : i = 0
    · simp only [if_neg (show ¬ (i : Int) > 0 by omega)]
      exact K
    · have hb : before (l.getD (i - 1) z49) (l.getD i z49) = true := by rcases hp.2 with h | h; exact absurd h h0; exact h
      have ei : ((i : Int) - 1) = ((i - 1 : Nat) : Int) := by omega
      simp only [if_pos (show (i : Int) > 0 by omega), ei, rd_nat, if_pos (show (0 : Int) ≤ ((i - 1 : Nat) : Int) by omega), if_pos (show ((i - 1 : Nat) : Int) < (l.length : Int) by omega), before_eq, hb, Option.bind_some, if_true]
      exact K
  · intro i hi hp
    obtain ⟨z0, z1, z2⟩ := hs.2 _ (getD_mem hi)
    refine Ev.step (fun k => spec_l29Ok.l0.eq_2 _ _ k) ?_
    simp only [if_pos (show (i : Int) < (l.length : Int) by omega), if_pos (show (0 : Int) ≤ (i : Int) by omega), rd_nat, w64 (show -9223372036854775808 ≤ (i : Int) + 1 by omega) (by omega), w64 (show -9223372036854775808 ≤ (i : Int) - 1 by omega) (by omega)]
    refine Ev.bind (oneBlock_ev _ _ _ z0 z1 z2) ?_
    simp only [okAt, Bool.and_eq_false_iff, Bool.or_eq_false_iff, decide_eq_false_iff_not] at hp
    cases hk : blockOk (l.getD i z49).f0 (l.getD i z49).f1 (l.getD i z49).f2 with
    | false => simp only [Bool.false_eq_true, if_false]; exact Ev.now _
    | true =>
      obtain ⟨h0, hb⟩ : i ≠ 0 ∧ before (l.getD (i - 1) z49) (l.getD i z49) = false := by rcases hp with h | h; rw [hk] at h; exact absurd h (by decide); exact h
      have ei : ((i : Int) - 1) = ((i - 1 : Nat) : Int) := by omega
      simp only [if_pos (show (i : Int) > 0 by omega), ei, rd_nat, if_pos (show (0 : Int) ≤ ((i - 1 : Nat) : Int) by omega), if_pos (show ((i - 1 : Nat) : Int) < (l.length : Int) by omega), before_eq, hb, Option.bind_some, if_true, Bool.false_eq_true, if_false]
      exact Ev.now _
  · refine Ev.step (fun k => spec_l29Ok.l0.eq_2 _ _ k) ?_
    simp only [if_neg (show ¬ (l.length : Int) < (l.length : Int) by omega)]
    exact Ev.now _
theorem implOk_ev (l : List S49) (hs : Small l) : Ev (fun k => impl_ValidBlocks.f k l) (listOk l) := by
  have hl := hs.1
  unfold impl_ValidBlocks.f listOk
  by_cases h32 : (l.length : Int) > 32
  · simp only [if_pos h32, decide_eq_false (show ¬ (l.length : Int) ≤ 32 by omega), Bool.and_false]
    exact Ev.now _
  simp only [if_neg h32, decide_eq_true (show (l.length : Int) ≤ 32 by omega), Bool.and_true]
  have e : (List.range l.length).all (okAt l) = if (List.range l.length).all (okAt l) = true then true else false := by
    cases (List.range l.length).all (okAt l) <;> simp
  rw [e]
  refine all_n (L := fun k i => impl_ValidBlocks.l0 k l l (l.length : Int) i) l.length (okAt l) _ _ ?_ ?_ ?_
  · intro i hi hp P K
    obtain ⟨z0, z1, z2⟩ := hs.2 _ (getD_mem hi)
    refine EvP.step (fun k => impl_ValidBlocks.l0.eq_2 _ _ _ _ k) ?_
    simp only [if_pos (show (i : Int) < (l.length : Int) by omega), if_pos (show (0 : Int) ≤ (i : Int) by omega), rd_nat, w64 (show -9223372036854775808 ≤ (i : Int) + 1 by omega) (by omega), w64 (show -9223372036854775808 ≤ (i : Int) - 1 by omega) (by omega)]
    simp only [okAt, Bool.and_eq_true, Bool.or_eq_true, decide_eq_true_eq] at hp
    refine EvP.bind (validBlock_ev _ _ _ z0 z1 z2) ?_
    simp only [hp.1, if_true]
    by_cases h0 : i = 0
    · simp only [if_neg (show ¬ (i : Int) > 0 by omega)]
      exact K
    · have hb : before (l.getD (i - 1) z49) (l.getD i z49) = true := by rcases hp.2 with h | h; exact absurd h h0; exact h
      have ei : ((i : Int) - 1) = ((i - 1 : Nat) : Int) := by omega
      simp only [if_pos (show (i : Int) > 0 by omega), ei, rd_nat, if_pos (show (0 : Int) ≤ ((i - 1 : Nat) : Int) by omega), if_pos (show ((i - 1 : Nat) : Int) < (l.length : Int) by omega)]
      refine EvP.bind (compareB_ev _ _) ?_
      have hc := cmpB_ge (l.getD (i - 1) z49) (l.getD i z49)
      rw [hb] at hc
      simp only [if_neg (show ¬ (cmpB (l.getD (i - 1) z49) (l.getD i z49) ≥ 0) from fun h => absurd (hc.1 h) (by decide))]
      exact K
  · intro i hi hp
    obtain ⟨z0, z1, z2⟩ := hs.2 _ (getD_mem hi)
    refine Ev.step (fun k => impl_ValidBlocks.l0.eq_2 _ _ _ _ k) ?_
    simp only [if_pos (show (i : Int) < (l.length : Int) by omega), if_pos (show (0 : Int) ≤ (i : Int) by omega), rd_nat, w64 (show -9223372036854775808 ≤ (i : Int) + 1 by omega) (by omega), w64 (show -9223372036854775808 ≤ (i : Int) - 1 by omega) (by omega)]
    refine Ev.bind (validBlock_ev _ _ _ z0 z1 z2) ?_
    simp only [okAt, Bool.and_eq_false_iff, Bool.or_eq_false_iff, decide_eq_false_iff_not] at hp
    cases hk : blockOk (l.getD i z49).f0 (l.getD i z49).f1 (l.getD i z49).f2 with
    | false => simp only [Bool.false_eq_true, if_false]; exact Ev.now _
    | true =>
      obtain ⟨h0, hb⟩ : i ≠ 0 ∧ before (l.getD (i - 1) z49) (l.getD i z49) = false := by rcases hp with h | h; rw [hk] at h; exact absurd h (by decide); exact h
      have ei : ((i : Int) - 1) = ((i - 1 : Nat) : Int) := by omega
      simp only [if_true, if_pos (show (i : Int) > 0 by omega), ei, rd_nat, if_pos (show (0 : Int) ≤ ((i - 1 : Nat) : Int) by omega), if_pos (show ((i - 1 : Nat) : Int) < (l.length : Int) by omega)]
      refine Ev.bind (compareB_ev _ _) ?_
      have hc := cmpB_ge (l.getD (i - 1) z49) (l.getD i z49)
      simp only [if_pos (show cmpB (l.getD (i - 1) z49) (l.getD i z49) ≥ 0 from hc.2 hb)]
      exact Ev.now _
  · refine Ev.step (fun k => impl_ValidBlocks.l0.eq_2 _ _ _ _ k) ?_
    simp only [if_neg (show ¬ (l.length : Int) < (l.length : Int) by omega)]
    exact Ev.now _
end Go.Proofs.YtnabckhhnknlaaaDoor.PBlockL
end

section
namespace Go.Proofs.YtnabckhhnknlaaaDoor.PCrc
open Go.RowKit Go.Proofs.YtnabckhhnknlaaaDoorW.PrintWords Go.Proofs.YtnabckhhnknlaaaDoor.XJ Go.Proofs.YtnabckhhnknlaaaDoor.EvK
set_option linter.unusedVariables false
set_option linter.unusedSimpArgs false
theorem xor16n (a b : Nat) (ha : a < 65536) (hb : b < 65536) : Go.bits .xor .i64 (a : Int) (b : Int) = ((a ^^^ b : Nat) : Int) := by
  have hx : a ^^^ b < 2 ^ 16 := Nat.xor_lt_two_pow (by omega) (by omega)
  have h1 : (BitVec.ofInt 64 (a : Int)).toNat = a := by
    rw [BitVec.ofInt_natCast, BitVec.toNat_ofNat]; exact Nat.mod_eq_of_lt (by omega)
  have h2 : (BitVec.ofInt 64 (b : Int)).toNat = b := by
    rw [BitVec.ofInt_natCast, BitVec.toNat_ofNat]; exact Nat.mod_eq_of_lt (by omega)
  show IntKind.i64.wrap ((BitVec.ofInt 64 (a : Int) ^^^ BitVec.ofInt 64 (b : Int)).toNat : Int) = _
  rw [BitVec.toNat_xor, h1, h2, IntKind.wrap_i64]
  omega
theorem xor16 (x y : Int) (hx0 : 0 ≤ x) (hx : x ≤ 65535) (hy0 : 0 ≤ y) (hy : y ≤ 65535) : 0 ≤ Go.bits .xor .i64 x y ∧ Go.bits .xor .i64 x y ≤ 65535 := by
  obtain ⟨a, rfl⟩ := Int.eq_ofNat_of_zero_le hx0
  obtain ⟨b, rfl⟩ := Int.eq_ofNat_of_zero_le hy0
  have h : a ^^^ b < 2 ^ 16 := Nat.xor_lt_two_pow (by omega) (by omega)
  rw [xor16n a b (by omega) (by omega)]
  omega
theorem and16 (x : Int) (hx0 : 0 ≤ x) (hx : x ≤ 131070) : 0 ≤ Go.bits .and .i64 x 65535 ∧ Go.bits .and .i64 x 65535 ≤ 65535 := by
  have h := bits_mask .i64 63 (by decide) (fun n h1 h2 => by rw [IntKind.wrap_i64]; omega) 16 (by decide) x hx0 (by omega)
  have e : ((2 : Int) ^ 16 - 1) = 65535 := by decide
  have e2 : ((2 : Int) ^ 16) = 65536 := by decide
  rw [e, e2] at h
  rw [h]
  omega
theorem both_crc (s : ByteArray) (hs : s.size ≤ 140737488355328) : ∀ (d q : Nat) (x : Int), q + d = s.size → 0 ≤ x → x ≤ 65535 → ∃ v : Int, 0 ≤ v ∧ v ≤ 65535 ∧ Ev (fun k => spec_l01Crc.l0 k s x (q : Int)) v ∧ Ev (fun k => impl_Crc16.l0 k s x (s.size : Int) (q : Int)) v := by
  intro d
  induction d with
  | zero =>
    intro q x hq h0 h1
    refine ⟨x, h0, h1, Ev.step (fun k => spec_l01Crc.l0.eq_2 _ _ _ k) ?_, Ev.step (fun k => impl_Crc16.l0.eq_2 _ _ _ _ k) ?_⟩
    · simp only [if_neg (show ¬ (q : Int) < (s.size : Int) by omega)]; exact Ev.now _
    · simp only [if_neg (show ¬ (q : Int) < (s.size : Int) by omega)]; exact Ev.now _
  | succ d ih =>
    intro q x hq h0 h1
    have hw := w64 (show -9223372036854775808 ≤ (q : Int) + 1 by omega) (by omega)
    have inner : ∀ (e j : Nat) (y : Int), j + e = 8 → 0 ≤ y → y ≤ 65535 → ∃ v : Int, 0 ≤ v ∧ v ≤ 65535 ∧ Ev (fun k => spec_l01Crc.l1 k s y (q : Int) (j : Int)) v ∧ Ev (fun k => impl_Crc16.l1 k s y (s.size : Int) (q : Int) (j : Int)) v := by
      intro e
      induction e with
      | zero =>
        intro j y hj y0 y1
        obtain ⟨v, v0, v1, e1, e2⟩ := ih (q + 1) y (by omega) y0 y1
        refine ⟨v, v0, v1, Ev.step (fun k => spec_l01Crc.l1.eq_2 _ _ _ _ k) ?_, Ev.step (fun k => impl_Crc16.l1.eq_2 _ _ _ _ _ k) ?_⟩
        · simp only [if_neg (show ¬ (j : Int) < 8 by omega), hw]; simpa using e1
        · simp only [if_neg (show ¬ (j : Int) < 8 by omega), hw]; simpa using e2
      | succ e ie =>
        intro j y hj y0 y1
        have wj := w64 (show -9223372036854775808 ≤ (j : Int) + 1 by omega) (by omega)
        have wy := w64 (show -9223372036854775808 ≤ y * 2 by omega) (by omega)
        by_cases hb : y * 2 > 65535
        · obtain ⟨a0, a1⟩ := and16 (y * 2) (by omega) (by omega)
          obtain ⟨b0, b1⟩ := xor16 _ 4129 a0 a1 (by omega) (by omega)
          obtain ⟨v, v0, v1, e1, e2⟩ := ie (j + 1) _ (by omega) b0 b1
          refine ⟨v, v0, v1, Ev.step (fun k => spec_l01Crc.l1.eq_2 _ _ _ _ k) ?_, Ev.step (fun k => impl_Crc16.l1.eq_2 _ _ _ _ _ k) ?_⟩
          · simp only [if_pos (show (j : Int) < 8 by omega), wj, wy, if_pos hb]; simpa using e1
          · simp only [if_pos (show (j : Int) < 8 by omega), wj, wy, if_pos hb]; simpa using e2
        · obtain ⟨v, v0, v1, e1, e2⟩ := ie (j + 1) (y * 2) (by omega) (by omega) (by omega)
          refine ⟨v, v0, v1, Ev.step (fun k => spec_l01Crc.l1.eq_2 _ _ _ _ k) ?_, Ev.step (fun k => impl_Crc16.l1.eq_2 _ _ _ _ _ k) ?_⟩
          · simp only [if_pos (show (j : Int) < 8 by omega), wj, wy, if_neg hb]; simpa using e1
          · simp only [if_pos (show (j : Int) < 8 by omega), wj, wy, if_neg hb]; simpa using e2
    have hr := bt_range s (q : Int)
    have w1 := w64 (show -9223372036854775808 ≤ bt s (q : Int) by omega) (by omega)
    have w2 := w64 (show -9223372036854775808 ≤ bt s (q : Int) * 256 by omega) (by omega)
    obtain ⟨b0, b1⟩ := xor16 x (bt s (q : Int) * 256) h0 h1 (by omega) (by omega)
    obtain ⟨v, v0, v1, e1, e2⟩ := inner 8 0 _ (by omega) b0 b1
    refine ⟨v, v0, v1, Ev.step (fun k => spec_l01Crc.l0.eq_2 _ _ _ k) ?_, Ev.step (fun k => impl_Crc16.l0.eq_2 _ _ _ _ k) ?_⟩
    · simp only [if_pos (show (q : Int) < (s.size : Int) by omega), if_pos (show (0 : Int) ≤ (q : Int) by omega), w1, w2]; simpa using e1
    · simp only [if_pos (show (q : Int) < (s.size : Int) by omega), if_pos (show (0 : Int) ≤ (q : Int) by omega), w1, w2]; simpa using e2
theorem crc_ev (s : ByteArray) (hs : s.size ≤ 140737488355328) : ∃ v : Int, 0 ≤ v ∧ v ≤ 65535 ∧ Ev (fun k => spec_l01Crc.f k s 65535) v ∧ Ev (fun k => impl_Crc16.f k s 65535) v := by
  obtain ⟨v, v0, v1, e1, e2⟩ := both_crc s hs s.size 0 65535 (by omega) (by omega) (by omega)
  refine ⟨v, v0, v1, ?_, ?_⟩
  · unfold spec_l01Crc.f; simpa using e1
  · unfold impl_Crc16.f impl_within.f
    simpa using e2
def D (u : Nat) : List Int := (Lib.decDigits u).map fun b => (b.toNat : Int)
theorem D_small (u : Nat) (h : u < 10) : D u = [48 + (u : Int)] := by
  unfold D
  rw [Lib.decDigits_one h]
  simp
  omega
theorem D_big (u : Nat) (h : ¬ u < 10) : D u = D (u / 10) ++ [48 + ((u % 10 : Nat) : Int)] := by
  unfold D
  rw [Lib.decDigits, dif_neg h]
  simp
  omega
theorem D_text (u : Nat) : strOfNums (D u) = (⟨(Lib.decDigits u).toArray⟩ : ByteArray) := by
  unfold D
  simp [strOfNums]
  refine (List.map_congr_left (g := id) (fun b _ => ?_)).trans (List.map_id _)
  simp
theorem back_ev (x : List Int) (hx : x.length ≤ 1000) : ∀ (d : Nat) (y : List Int), d ≤ x.length → y.length + d ≤ 1000 → Ev (fun k => spec_l01Dec.l1 k x y ((d : Int) - 1)) (strOfNums (y ++ (x.take d).reverse)) := by
  intro d
  induction d with
  | zero =>
    intro y _ _
    refine Ev.step (fun k => spec_l01Dec.l1.eq_2 _ _ _ k) ?_
    simp only [if_neg (show ¬ ((0 : Nat) : Int) - 1 ≥ 0 by omega)]
    exact Ev.some (by simp)
  | succ d ih =>
    intro y hd hy
    have h1 := ih (y ++ [rd x (d : Int)]) (by omega) (by rw [List.length_append]; simp only [List.length_cons, List.length_nil]; omega)
    refine Ev.step (fun k => spec_l01Dec.l1.eq_2 _ _ _ k) ?_
    simp only [show ((d + 1 : Nat) : Int) - 1 = (d : Int) by omega, if_pos (show (d : Int) ≥ 0 by omega), if_pos (show (0 : Int) ≤ (d : Int) by omega), if_pos (show (d : Int) < (x.length : Int) by omega), if_pos (show y.length < 140737488355328 by omega), w64 (show -9223372036854775808 ≤ (d : Int) - 1 by omega) (by omega)]
    have e : y ++ (x.take (d + 1)).reverse = y ++ [rd x (d : Int)] ++ (x.take d).reverse := by
      rw [List.take_succ_eq_append_getElem (by omega), rd_at x d (by omega)]
      simp
    rw [e]
    exact h1
theorem go_ev (n : Int) (hn : ¬ n < 0) : ∀ (f u : Nat) (x : List Int), u < 10 ^ f → f ≤ 19 → 0 < u → x.length + f ≤ 40 → Ev (fun k => spec_l01Dec.l0 k n x (u : Int)) (strOfNums ((x ++ (D u).reverse).reverse)) := by
  have fin : ∀ x : List Int, x.length ≤ 60 → Ev (fun k => spec_l01Dec.l0 k n x 0) (strOfNums x.reverse) := by
    intro x hx
    have h := back_ev x (by omega) x.length [] (by omega) (by simp; omega)
    refine Ev.step (fun k => spec_l01Dec.l0.eq_2 _ _ _ k) ?_
    simp only [if_true, if_neg hn]
    refine Ev.step (fun k => spec_l01Dec.j1.eq_2 _ k) ?_
    simp only [w64 (show -9223372036854775808 ≤ (x.length : Int) - 1 by omega) (by omega)]
    simpa using h
  intro f
  induction f with
  | zero => intro u x hu _ h0 _; omega
  | succ f ih =>
    intro u x hu hf h0 hx
    have hp : (10 : Nat) ^ (f + 1) ≤ 10 ^ 19 := Nat.pow_le_pow_right (by decide) hf
    have hp2 : (10 : Nat) ^ (f + 1) = 10 ^ f * 10 := Nat.pow_succ 10 f
    obtain ⟨a, ha⟩ : ∃ a : Int, a = ((u % 10 : Nat) : Int) := ⟨_, rfl⟩
    obtain ⟨b, hb⟩ : ∃ b : Int, b = ((u / 10 : Nat) : Int) := ⟨_, rfl⟩
    have t1 : Int.tmod (u : Int) 10 = a := by rw [Int.tmod_eq_emod_of_nonneg (by omega)]; omega
    have t2 : Int.tdiv (u : Int) 10 = b := by rw [Int.tdiv_eq_ediv_of_nonneg (by omega)]; omega
    have w1 : wrap64 (48 + a) % 256 = 48 + a := by rw [w64 (by omega) (by omega)]; omega
    have w2 : wrap64 b = b := w64 (by omega) (by omega)
    have c1 : ¬ (u : Int) = 0 := by omega
    have c2 : ¬ a < 0 := by omega
    have c3 : x.length < 140737488355328 := by omega
    have E : ∀ k, spec_l01Dec.l0 (k + 1) n x (u : Int) = spec_l01Dec.l0 k n (x ++ [48 + a]) b := by
      intro k
      rw [spec_l01Dec.l0.eq_2, if_neg c1, t1, if_neg c2, if_pos c3, w1, t2, w2]
    refine Ev.step E ?_
    clear E t1 t2 w1 w2
    by_cases h10 : u < 10
    · have e0 : b = 0 := by omega
      have e1 : (u : Int) = a := by omega
      have h := fin (x ++ [48 + a]) (by rw [List.length_append]; simp only [List.length_cons, List.length_nil]; omega)
      rw [e0, D_small u h10, e1, List.reverse_singleton]
      exact h
    · have h := ih (u / 10) (x ++ [48 + a]) (by omega) (by omega) (by omega) (by rw [List.length_append]; simp only [List.length_cons, List.length_nil]; omega)
      have e : x ++ (D u).reverse = x ++ [48 + a] ++ (D (u / 10)).reverse := by rw [D_big u h10, ← ha]; simp
      rw [e, hb]
      exact h
theorem dec_ev (u : Nat) (hu : u ≤ 9223372036854775807) : Ev (fun k => spec_l01Dec.f k (u : Int)) (⟨(Lib.itoa (u : Int)).toArray⟩ : ByteArray) := by
  have ei : Lib.itoa (u : Int) = Lib.decDigits u := by unfold Lib.itoa; rw [if_neg (by omega)]; rfl
  rw [ei]
  unfold spec_l01Dec.f
  by_cases h0 : u = 0
  · subst h0
    simp only [Int.natCast_zero, if_true]
    refine Ev.some ?_
    rw [Lib.decDigits_one (by omega)]
    rfl
  · simp only [if_neg (show ¬ (u : Int) = 0 by omega)]
    have h := go_ev (u : Int) (by omega) 19 u [] (by omega) (by omega) (by omega) (by simp)
    rw [← D_text]
    simpa using h
theorem dec_eq (u : Nat) (hu : u ≤ 9223372036854775807) : impl_Decimal.f (u : Int) = some (⟨(Lib.itoa (u : Int)).toArray⟩ : ByteArray) := by
  unfold impl_Decimal.f strconv_FormatInt.f
  rw [if_pos ⟨rfl, by omega, by omega⟩]
  rfl
theorem itoa_size (u f : Nat) (h : u < 10 ^ f) (hf : 0 < f) : (⟨(Lib.itoa (u : Int)).toArray⟩ : ByteArray).size ≤ f := by
  have ei : Lib.itoa (u : Int) = Lib.decDigits u := by unfold Lib.itoa; rw [if_neg (by omega)]; rfl
  have hs : (⟨(Lib.itoa (u : Int)).toArray⟩ : ByteArray).size = (Lib.decDigits u).length := by rw [ei]; simp [ByteArray.size]
  rw [hs, Lib.decDigits_length]
  apply Nat.le_of_not_lt
  intro hc
  have key : ∀ (f u : Nat), u < 10 ^ f → 0 < f → Lib.nDigits u ≤ f := by
    intro f
    induction f with
    | zero => intro u _ h; omega
    | succ f ih =>
      intro u h _
      by_cases h10 : u < 10
      · rw [Lib.nDigits_small h10]; omega
      · rw [Lib.nDigits_big h10]
        rw [Nat.pow_succ] at h
        by_cases hf0 : f = 0
        · subst hf0; omega
        · have := ih (u / 10) (by omega) (by omega); omega
  have := key f u h hf
  omega
theorem zeros_succ (n : Nat) (t : ByteArray) : impl_checkText.zeros n ++ ((⟨#[48]⟩ : ByteArray) ++ t) = impl_checkText.zeros (n + 1) ++ t := by
  have e : ∀ n, Lib.repeatL (⟨#[48]⟩ : ByteArray).data.toList n = List.replicate n 48 := by
    intro n
    induction n with
    | zero => rfl
    | succ n ih => first | (rw [Lib.repeatL, ih]; rfl) | (simp [Lib.repeatL, List.replicate_succ] at *; done)
  apply ByteArray.ext
  apply Array.toList_inj.1
  unfold impl_checkText.zeros
  rw [e, e]
  simp [List.replicate_succ', ByteArray.data_append]
theorem five_ev : ∀ (n : Nat) (t : ByteArray), n + t.size = 5 → Ev (fun k => spec_l29Five.l0 k t) (impl_checkText.zeros n ++ t) := by
  intro n
  induction n with
  | zero =>
    intro t h
    refine Ev.step (fun k => spec_l29Five.l0.eq_2 _ k) ?_
    simp only [if_neg (show ¬ (t.size : Int) < 5 by omega)]
    refine Ev.some ?_
    apply ByteArray.ext
    apply Array.toList_inj.1
    simp [impl_checkText.zeros, Lib.repeatL, ByteArray.data_append]
  | succ n ih =>
    intro t h
    have hz : ((⟨#[48]⟩ : ByteArray) ++ t).size = 1 + t.size := by rw [ByteArray.size_append]; rfl
    have h1 := ih ((⟨#[48]⟩ : ByteArray) ++ t) (by omega)
    rw [zeros_succ] at h1
    refine Ev.step (fun k => spec_l29Five.l0.eq_2 _ k) ?_
    simp only [if_pos (show (t.size : Int) < 5 by omega), if_pos (show 1 + t.size ≤ 9223372036854775807 by omega)]
    exact h1
theorem zeros_size (n : Nat) : (impl_checkText.zeros n).size = n := by
  unfold impl_checkText.zeros
  have e : ∀ n, (Lib.repeatL (⟨#[48]⟩ : ByteArray).data.toList n).length = n := by
    intro n
    rw [Lib.repeatL_length]
    exact Nat.mul_one n
  rw [ByteArray.size]
  simpa using e n
theorem check_ev (s : ByteArray) (hs : s.size ≤ 140737488355328) : ∃ (v : Int) (c : ByteArray), c.size = 5 ∧ Ev (fun k => impl_checkText.f k s) c ∧ Ev (fun k => spec_l01Crc.f k s 65535) v ∧ Ev (fun k => spec_l29Five.f k v) c := by
  obtain ⟨v, v0, v1, e1, e2⟩ := crc_ev s hs
  obtain ⟨u, rfl⟩ := Int.eq_ofNat_of_zero_le v0
  have h5 := itoa_size u 5 (by omega) (by omega)
  have hd := dec_ev u (by omega)
  have he := dec_eq u (by omega)
  generalize (⟨(Lib.itoa (u : Int)).toArray⟩ : ByteArray) = d at h5 hd he
  refine ⟨u, impl_checkText.zeros (5 - d.size) ++ d, by rw [ByteArray.size_append, zeros_size]; omega, ?_, e1, ?_⟩
  · unfold impl_checkText.f
    refine Ev.bind e2 ?_
    simp only [he, Option.bind_some, if_pos h5]
    exact Ev.now _
  · unfold spec_l29Five.f
    exact Ev.bind hd (five_ev (5 - d.size) d (by omega))
end Go.Proofs.YtnabckhhnknlaaaDoor.PCrc
end

section
namespace Go.Proofs.YtnabckhhnknlaaaDoor.SJ
open Go.RowKit Go.Proofs.YtnabckhhnknlaaaDoorW.PrintWords Go.Proofs.YtnabckhhnknlaaaDoor.XJ Go.Proofs.YtnabckhhnknlaaaDoor.EvK
set_option linter.unusedVariables false
set_option linter.unusedSimpArgs false
theorem szBlock_val (x : S57) (left : Int) (h0 : 0 ≤ left) (h1 : left ≤ 1048576) (hq : Q57 x) : ∃ t, laws_szBlock.f x.f0 x.f1 x.f2 left = some t ∧ t ≤ left ∧ (0 ≤ t → (x.f0.size ≤ 1048576) ∧ (x.f1.size ≤ 1048576) ∧ (x.f2.size ≤ 1048576)) := by
  unfold Q57 maxLen at hq
  unfold laws_szBlock.f
  repeat' split
  all_goals refine ⟨_, rfl, ?_, ?_⟩
  all_goals (simp only [wrap64] at *; omega)
end Go.Proofs.YtnabckhhnknlaaaDoor.SJ
end

section
namespace Go.Proofs.YtnabckhhnknlaaaDoor.SJ
open Go.RowKit Go.Proofs.YtnabckhhnknlaaaDoorW.PrintWords Go.Proofs.YtnabckhhnknlaaaDoor.XJ Go.Proofs.YtnabckhhnknlaaaDoor.EvK
set_option linter.unusedVariables false
set_option linter.unusedSimpArgs false
theorem szBlockS_ev (l : List (S57)) (left : Int) (h0 : 0 ≤ left) (h1 : left ≤ 1048576) (hq : (l.length ≤ maxLen ∧ ∀ y1 ∈ l, Q57 y1)) : EvP (fun k => laws_szBlockS.f k l left) (fun t => t ≤ left ∧ (0 ≤ t → l.length ≤ 1048576 ∧ ∀ x ∈ l, (x.f0.size ≤ 1048576) ∧ (x.f1.size ≤ 1048576) ∧ (x.f2.size ≤ 1048576))) := by
  obtain ⟨hl, hq⟩ := hq
  unfold maxLen at hl
  unfold laws_szBlockS.f
  rw [w64 (by omega) (by omega)]
  by_cases hc : left - (l.length : Int) < 0
  · simp only [if_pos hc]
    exact EvP.now ⟨by omega, by omega⟩
  simp only [if_neg hc]
  refine for_evp (L := fun k (s : Int) i => laws_szBlockS.l0 k l s i) l.length (fun i s => 0 ≤ s ∧ s ≤ left - (l.length : Int) ∧ ∀ x ∈ l.take i, (x.f0.size ≤ 1048576) ∧ (x.f1.size ≤ 1048576) ∧ (x.f2.size ≤ 1048576)) ?_ ?_ _ ⟨by omega, by omega, by simp⟩
  · rintro i s hi ⟨hs0, hs1, hs⟩ K
    have e : rd_T57 l (i : Int) = l[i] := getD_at l z57 i hi
    refine EvP.step (fun k => laws_szBlockS.l0.eq_2 _ _ _ k) ?_
    obtain ⟨t, ht, ht1, ht2⟩ := szBlock_val l[i] s hs0 (by omega) (hq _ (List.getElem_mem hi))
    simp only [if_pos (show (i : Int) < (l.length : Int) by omega), if_pos (show (0 : Int) ≤ (i : Int) by omega), e, ht, Option.bind_some, w64 (show -9223372036854775808 ≤ (i : Int) + 1 by omega) (by omega)]
    by_cases hn : t < 0
    · simp only [if_pos hn]
      exact EvP.now ⟨by omega, by omega⟩
    · simp only [if_neg hn]
      exact K _ ⟨by omega, by omega, take_all hi hs (ht2 (by omega))⟩
  · rintro s ⟨hs0, hs1, hs⟩
    refine EvP.step (fun k => laws_szBlockS.l0.eq_2 _ _ _ k) ?_
    simp only [if_neg (show ¬ (l.length : Int) < (l.length : Int) by omega)]
    exact EvP.now ⟨by omega, fun _ => ⟨by omega, by simpa using hs⟩⟩
end Go.Proofs.YtnabckhhnknlaaaDoor.SJ
end

section
namespace Go.Proofs.YtnabckhhnknlaaaDoor.SJ
open Go.RowKit Go.Proofs.YtnabckhhnknlaaaDoorW.PrintWords Go.Proofs.YtnabckhhnknlaaaDoor.XJ Go.Proofs.YtnabckhhnknlaaaDoor.EvK
set_option linter.unusedVariables false
set_option linter.unusedSimpArgs false
def toBlockS_el (x : S57) : S49 := (⟨x.f0, x.f1, x.f2⟩ : S49)
theorem toBlockS_ev (l : List (S57)) (hl : l.length ≤ 1048576) : Ev (fun k => laws_toBlockS.f k l) (l.map toBlockS_el) := by
  apply EvP.eq
  unfold laws_toBlockS.f
  simp only [if_pos (show (0 : Int) ≤ (l.length : Int) by omega), Int.toNat_natCast, if_pos (show l.length ≤ 5864062014805 by omega)]
  refine for_evp (L := fun k (s : List (S49)) i => laws_toBlockS.l0 k l s i) l.length (fun i s => s = (l.take i).map toBlockS_el ++ List.replicate (l.length - i) z49) ?_ ?_ (List.replicate l.length z49) (by simp)
  · rintro i s hi rfl K
    have e : rd_T57 l (i : Int) = l[i] := getD_at l z57 i hi
    have hlen := done_len toBlockS_el l z49 i (by omega)
    refine EvP.step (fun k => laws_toBlockS.l0.eq_2 _ _ _ k) ?_
    simp only [if_pos (show (i : Int) < (l.length : Int) by omega), if_pos (show (0 : Int) ≤ (i : Int) by omega), e, laws_toBlock.f, Option.bind_some, hlen, w64 (show -9223372036854775808 ≤ (i : Int) + 1 by omega) (by omega), Int.toNat_natCast]
    refine K _ ?_
    show List.set _ i (toBlockS_el l[i]) = _
    exact map_done toBlockS_el l _ i hi
  · rintro s rfl
    refine EvP.step (fun k => laws_toBlockS.l0.eq_2 _ _ _ k) ?_
    simp only [if_neg (show ¬ (l.length : Int) < (l.length : Int) by omega)]
    exact EvP.now (by simp)
end Go.Proofs.YtnabckhhnknlaaaDoor.SJ
end

section
namespace Go.Proofs.YtnabckhhnknlaaaDoor.SJ
open Go.RowKit Go.Proofs.YtnabckhhnknlaaaDoorW.PrintWords Go.Proofs.YtnabckhhnknlaaaDoor.XJ Go.Proofs.YtnabckhhnknlaaaDoor.EvK
set_option linter.unusedVariables false
set_option linter.unusedSimpArgs false
theorem eqBlockS_ev (l : List (S49)) (hl : l.length ≤ 1048576) : Ev (fun k => laws_eqBlockS.f k l l) true := by
  apply EvP.eq
  unfold laws_eqBlockS.f
  simp only [if_true]
  refine for_evp (L := fun k (s : Unit) i => laws_eqBlockS.l0 k l l i) l.length (fun i s => True) ?_ ?_ () trivial
  · rintro i s hi - K
    refine EvP.step (fun k => laws_eqBlockS.l0.eq_2 _ _ _ k) ?_
    simp only [if_pos (show (i : Int) < (l.length : Int) by omega), if_pos (show (0 : Int) ≤ (i : Int) by omega), laws_eqBlock.f, Option.bind_some, if_true, w64 (show -9223372036854775808 ≤ (i : Int) + 1 by omega) (by omega)]
    exact K () trivial
  · rintro s -
    refine EvP.step (fun k => laws_eqBlockS.l0.eq_2 _ _ _ k) ?_
    simp only [if_neg (show ¬ (l.length : Int) < (l.length : Int) by omega)]
    exact EvP.now rfl
end Go.Proofs.YtnabckhhnknlaaaDoor.SJ
end

section
namespace Go.Proofs.YtnabckhhnknlaaaDoor.PureFnExactSaveBlocks
open Go.RowKit Go.Proofs.YtnabckhhnknlaaaDoorW.PrintWords Go.Proofs.YtnabckhhnknlaaaDoor.XJ Go.Proofs.YtnabckhhnknlaaaDoor.EvK Go.Proofs.YtnabckhhnknlaaaDoor.PBlockL Go.Proofs.YtnabckhhnknlaaaDoor.PBlocks Go.Proofs.YtnabckhhnknlaaaDoor.PCrc Go.Proofs.YtnabckhhnknlaaaDoor.SJ
set_option linter.unusedVariables false
set_option linter.unusedSimpArgs false
theorem line_ev (b : S49) (h0 : b.f0.size ≤ 1048576) (h1 : b.f1.size ≤ 1048576) (h2 : b.f2.size ≤ 1048576) : ∃ x : ByteArray, x.size ≤ 3145800 ∧ Ev (fun k => impl_SaveBlocks.line k b) x ∧ Ev (fun k => spec_l29Line.f k b.f0 b.f1 b.f2) x := by
  have hr : (impl_SaveBlocks.rest b).size = b.f0.size + 1 + b.f1.size + 1 + b.f2.size := by
    unfold impl_SaveBlocks.rest
    simp only [ByteArray.size_append]
    rfl
  obtain ⟨v, c, hc, e1, e2, e3⟩ := check_ev (impl_SaveBlocks.rest b) (by omega)
  have hx : (c ++ (⟨#[32]⟩ : ByteArray) ++ impl_SaveBlocks.rest b ++ (⟨#[10]⟩ : ByteArray)).size = c.size + 1 + (impl_SaveBlocks.rest b).size + 1 := by
    simp only [ByteArray.size_append]
    rfl
  refine ⟨c ++ (⟨#[32]⟩ : ByteArray) ++ impl_SaveBlocks.rest b ++ (⟨#[10]⟩ : ByteArray), by omega, ?_, ?_⟩
  · unfold impl_SaveBlocks.line
    simp only [if_pos (show (impl_SaveBlocks.rest b).size ≤ 140737488355328 by omega)]
    exact Ev.bind e1 (Ev.now _)
  · unfold spec_l29Line.f
    have s1 : (b.f0 ++ (⟨#[32]⟩ : ByteArray)).size = b.f0.size + 1 := by rw [ByteArray.size_append]; rfl
    have s2 : (b.f0 ++ (⟨#[32]⟩ : ByteArray) ++ b.f1).size = b.f0.size + 1 + b.f1.size := by rw [ByteArray.size_append, s1]
    have s3 : (b.f0 ++ (⟨#[32]⟩ : ByteArray) ++ b.f1 ++ (⟨#[32]⟩ : ByteArray)).size = b.f0.size + 1 + b.f1.size + 1 := by rw [ByteArray.size_append, s2]; rfl
    have t1 : (c ++ (⟨#[32]⟩ : ByteArray)).size = c.size + 1 := by rw [ByteArray.size_append]; rfl
    have t2 : (c ++ (⟨#[32]⟩ : ByteArray) ++ impl_SaveBlocks.rest b).size = c.size + 1 + (impl_SaveBlocks.rest b).size := by rw [ByteArray.size_append, t1]
    simp only [if_pos (show b.f0.size + 1 ≤ 9223372036854775807 by omega), if_pos (show (b.f0 ++ (⟨#[32]⟩ : ByteArray)).size + b.f1.size ≤ 9223372036854775807 by omega), if_pos (show (b.f0 ++ (⟨#[32]⟩ : ByteArray) ++ b.f1).size + 1 ≤ 9223372036854775807 by omega), if_pos (show (b.f0 ++ (⟨#[32]⟩ : ByteArray) ++ b.f1 ++ (⟨#[32]⟩ : ByteArray)).size + b.f2.size ≤ 9223372036854775807 by omega)]
    refine Ev.bind e2 (Ev.bind e3 ?_)
    have er : b.f0 ++ (⟨#[32]⟩ : ByteArray) ++ b.f1 ++ (⟨#[32]⟩ : ByteArray) ++ b.f2 = impl_SaveBlocks.rest b := rfl
    simp only [er, if_pos (show c.size + 1 ≤ 9223372036854775807 by omega), if_pos (show (c ++ (⟨#[32]⟩ : ByteArray)).size + (impl_SaveBlocks.rest b).size ≤ 9223372036854775807 by omega), if_pos (show (c ++ (⟨#[32]⟩ : ByteArray) ++ impl_SaveBlocks.rest b).size + 1 ≤ 9223372036854775807 by omega)]
    exact Ev.now _
theorem save_ev (l : List S49) (hs : Small l) : ∀ (d q : Nat) (a : ByteArray), q + d = l.length → a.size ≤ 1000 + 3145800 * q → ∃ s : ByteArray, Ev (fun k => spec_l29Save.l0 k l a (q : Int)) s ∧ Ev (fun k => impl_SaveBlocks.go k (l.drop q) a) s := by
  have hl := hs.1
  intro d
  induction d with
  | zero =>
    intro q a hq ha
    refine ⟨a, Ev.step (fun k => spec_l29Save.l0.eq_2 _ _ _ k) ?_, ?_⟩
    · simp only [if_neg (show ¬ (q : Int) < (l.length : Int) by omega)]
      exact Ev.now _
    · rw [List.drop_eq_nil_of_le (by omega)]
      exact Ev.now _
  | succ d ih =>
    intro q a hq ha
    have hlt : q < l.length := by omega
    obtain ⟨z0, z1, z2⟩ := hs.2 _ (getD_mem hlt)
    obtain ⟨x, hx, e1, e2⟩ := line_ev _ z0 z1 z2
    have hax : (a ++ x).size = a.size + x.size := ByteArray.size_append
    obtain ⟨s, i1, i2⟩ := ih (q + 1) (a ++ x) (by omega) (by omega)
    have w1 := w64 (show -9223372036854775808 ≤ (q : Int) + 1 by omega) (by omega)
    refine ⟨s, Ev.step (fun k => spec_l29Save.l0.eq_2 _ _ _ k) ?_, ?_⟩
    · simp only [if_pos (show (q : Int) < (l.length : Int) by omega), if_pos (show (0 : Int) ≤ (q : Int) by omega), rd_nat]
      refine Ev.bind e2 ?_
      simp only [if_pos (show a.size + x.size ≤ 9223372036854775807 by omega), w1]
      simpa using i1
    · have ed : l.drop q = l.getD q z49 :: l.drop (q + 1) := by
        rw [List.drop_eq_getElem_cons hlt, List.getD_eq_getElem?_getD, List.getElem?_eq_getElem hlt]
        rfl
      rw [ed]
      show Ev (fun k => (impl_SaveBlocks.line k (l.getD q z49)).bind fun x => if (a ++ x).size ≤ 140737488355328 then impl_SaveBlocks.go k (l.drop (q + 1)) (a ++ x) else none) s
      refine Ev.bind e1 ?_
      simp only [if_pos (show (a ++ x).size ≤ 140737488355328 by omega)]
      exact i2
theorem both_ev (l : List S49) (hs : Small l) : ∃ r : ByteArray × Int, Ev (fun k => spec_SaveBlocks.f k l) r ∧ Ev (fun k => impl_SaveBlocks.f k l) r := by
  have hl := hs.1
  cases hok : listOk l with
  | false =>
    refine ⟨(⟨#[]⟩, 1), ?_, ?_⟩
    · unfold spec_SaveBlocks.f
      refine Ev.bind (specOk_ev l hs) ?_
      simp only [hok, Bool.false_eq_true, if_false]
      exact Ev.now _
    · unfold impl_SaveBlocks.f
      refine Ev.bind (implOk_ev l hs) ?_
      simp only [hok, Bool.false_eq_true, if_false]
      exact Ev.now _
  | true =>
    have hd := dec_ev l.length (by omega)
    have he := dec_eq l.length (by omega)
    have h7 := itoa_size l.length 7 (by omega) (by omega)
    generalize (⟨(Lib.itoa (l.length : Int)).toArray⟩ : ByteArray) = dd at hd he h7
    have s1 : ((⟨#[97, 114, 99, 104, 105, 118, 101, 32]⟩ : ByteArray) ++ dd).size = 8 + dd.size := by rw [ByteArray.size_append]; rfl
    have s2 : (impl_SaveBlocks.head dd).size = 8 + dd.size + 1 := by
      unfold impl_SaveBlocks.head
      rw [ByteArray.size_append, s1]
      rfl
    obtain ⟨s, e1, e2⟩ := save_ev l hs l.length 0 (impl_SaveBlocks.head dd) (by omega) (by omega)
    refine ⟨(s, 0), ?_, ?_⟩
    · unfold spec_SaveBlocks.f
      refine Ev.bind (specOk_ev l hs) ?_
      simp only [hok, if_true]
      unfold spec_l29Save.f
      refine Ev.bind (a := s) ?_ (Ev.now _)
      refine Ev.bind hd ?_
      simp only [if_pos (show 8 + dd.size ≤ 9223372036854775807 by omega), if_pos (show ((⟨#[97, 114, 99, 104, 105, 118, 101, 32]⟩ : ByteArray) ++ dd).size + 1 ≤ 9223372036854775807 by omega)]
      exact e1
    · unfold impl_SaveBlocks.f
      refine Ev.bind (implOk_ev l hs) ?_
      simp only [hok, if_true, he, Option.bind_some, if_pos (show (impl_SaveBlocks.head dd).size ≤ 140737488355328 by omega)]
      exact Ev.bind e2 (Ev.now _)
theorem small_to (l : List S57) (h1 : l.length ≤ 1048576) (h2 : ∀ x ∈ l, x.f0.size ≤ 1048576 ∧ x.f1.size ≤ 1048576 ∧ x.f2.size ≤ 1048576) : Small (l.map toBlockS_el) := by
  refine ⟨by simpa using h1, fun x hx => ?_⟩
  obtain ⟨y, hy, rfl⟩ := List.mem_map.1 hx
  exact h2 y hy
theorem pure : laws_FnExactSaveBlocks.Pure := by
  intro l hq
  apply EvP.rounds
  unfold laws_FnExactSaveBlocks.f
  refine EvP.bindP (szBlockS_ev l 1048576 (by omega) (by omega) hq) (fun t ⟨ht, hs⟩ => ?_)
  by_cases hn : t < 0
  · simp only [if_pos hn]
    exact EvP.now rfl
  simp only [if_neg hn]
  obtain ⟨h1, h2⟩ := hs (by omega)
  have hto := toBlockS_ev l h1
  have hsm := small_to l h1 h2
  generalize l.map toBlockS_el = L at hto hsm
  obtain ⟨r, e1, e2⟩ := both_ev L hsm
  have hes := eqBlockS_ev L hsm.1
  refine EvP.bind hto (EvP.bind e1 (EvP.bind hto (EvP.bind e2 ?_)))
  simp only [if_true, bne_self_eq_false]
  refine EvP.step (fun k => laws_FnExactSaveBlocks.j0.eq_2 _ _ _ k) ?_
  simp only [Bool.false_eq_true, if_false]
  refine EvP.bind hto (EvP.bind hes ?_)
  simp only [if_true]
  exact EvP.now rfl
end Go.Proofs.YtnabckhhnknlaaaDoor.PureFnExactSaveBlocks
end

section
namespace Go.Proofs.YtnabckhhnknlaaaDoor.LaidKit
open Go Go.RowKit
theorem returns_laid_shaped {H : Type} {enc : TypeId × Value → H} {a : Assume} {C : Checked} {os : Os} {f : FuncId} {fn : Func} {s : ChangeSpec} {conds : List PathCond} {apart fresh handsOn again : Bool} {X : World → Array Value → Prop}
    (hX : ∀ (w w' : World) (args : Array Value), w.heap = w'.heap → X w args → X w' args)
    (own : ownKnob C.prog.godebug = none) (started : os.Started) (noInit : C.prog.inits.idxOf? f = none) (hfn : C.prog.funcs[f]? = some fn)
    (witness : ∃ (w : World) (tape : Tape) (i : Input), w.os = os ∧ (w.forCall tape i).Shaped C.prog ∧ i.vars = [] ∧ Input.okWide C.prog (w.forCall tape i) .any w.heap.size f i ∧
      ((s.pre enc C.prog fn conds apart (w.forCall tape i).memory i.args ∧ X (w.forCall tape i).memory i.args) ∧ sizedMet enc C.prog fn (OpenSpec.ofChange s) apart (w.forCall tape i).memory i.args) ∧ a.holds C.prog (lone (Frame.enter C.prog f i.args .normal) [] (w.forCall tape i)))
    (contract : ∀ (W : World) (base : Nat) (args : Array Value) (ds gs : List (DataW H)) (before : List MemPlace),
      (∀ (j : Nat) t v, fn.params[j]? = some t → args[j]? = some v → Value.okWide C.prog W .any base t v) →
      DataW.Whole enc C.prog fn.params.toList s.vars apart W args.toList ds gs before →
      conds.all (PathCond.test C.prog ⟨fn.params.toList, ds, s.plain.varTypes C.prog, gs⟩) = true →
      (DataW.weightsEach C.prog (fn.params.toList ++ s.plain.varTypes C.prog) (ds ++ gs)).all (· ≤ reachBytes) = true → X W args →
      W.ShapedOpen C.prog →
      a.holds C.prog (lone (Frame.enter C.prog f args .normal) [] W) →
      Calls C.prog f args W fun e W' => ∃ v, e = .returned v ∧ s.post enc C.prog fn apart fresh handsOn again W args v W') :
    ReturnsInHanded a C os f .any (fun w args => (s.pre enc C.prog fn conds apart w args ∧ X w args) ∧ sizedMet enc C.prog fn (OpenSpec.ofChange s) apart w args) (s.post enc C.prog fn apart fresh handsOn again) := by
  refine returnsInHanded_of_calls own started noInit witness ?_
  intro w tape i _ hsh _ hok hpre hholds
  obtain ⟨_, _, _, fn', hfn', _, _, _, _, hval⟩ := hok
  have e : fn' = fn := Option.some.inj (hfn'.symm.trans hfn)
  subst e
  obtain ⟨⟨⟨ds, gs, before, hw, hc⟩, hx⟩, hz⟩ := hpre
  have hw' := DataW.Whole.of_heap (w' := w.forCall tape i) (by rfl) hw
  refine (contract (w.forCall tape i) w.heap.size i.args ds gs before hval hw' hc (hz.weights hw) (hX _ _ _ (by rfl) hx) hsh hholds).mono fun e W' ⟨v, he, hp⟩ => ?_
  subst he
  exact ChangeSpec.post_blind hp
theorem laidMet_from {P : Program} {l : List (String × DataW Unit)} {x : String × DataW Unit} {r : List (String × DataW Unit)} {w : World} (h : laidMet P (l ++ x :: r) w) : laidMet P (x :: r) w := by
  induction l with
  | nil => exact h
  | cons a l ih => exact ih h.tail
end Go.Proofs.YtnabckhhnknlaaaDoor.LaidKit
end

section
namespace Go.Proofs.YtnabckhhnknlaaaDoor.RowFnExactSaveBlocks
open Go.ChangeShapes Go.WideShapes Go.ChangeAt Go.RowKit Go.Proofs.YtnabckhhnknlaaaDoorW.PrintWords Go.Proofs.YtnabckhhnknlaaaDoor.XJ Go.Proofs.YtnabckhhnknlaaaDoor.Open
open Go.ChangeMaps (open_string shut_string)
set_option linter.unusedVariables false
theorem own : ownKnob Tryd.prog.godebug = none := by kernel_rfl
theorem laidOut : laidOutB Tryd.prog = true := by kernel_rfl
set_option maxRecDepth 100000 in
theorem lifted (os : Os) (started : os.Started) (H : Type) (enc : TypeId × Value → H) :
    ReturnsInHanded {} Tryd.checked os 4 .any (fun w args => (Rows.fnExactSaveBlocksSpec.pre enc Tryd.prog Tryd.f4 Rows.fnExactSaveBlocksRow.domain false w args ∧ laidMetH Tryd.prog Rows.fnExactSaveBlocksRow.laid w) ∧ sizedMet enc Tryd.prog Tryd.f4 (OpenSpec.ofChange Rows.fnExactSaveBlocksSpec) false w args) (Rows.fnExactSaveBlocksSpec.post enc Tryd.prog Tryd.f4 false true false false) := by
  refine LaidKit.returns_laid_shaped (C := Tryd.checked) (X := fun w _ => laidMetH Tryd.prog Rows.fnExactSaveBlocksRow.laid w) (fun _ _ _ hh h => h.of_heap hh) own started (by kernel_rfl) Tryd.func4
    (ChangeSpec.witness_shaped (enc := enc) (C := Tryd.checked) (os := os) (X := fun w _ => laidMetH Tryd.prog Rows.fnExactSaveBlocksRow.laid w) false (World.laidAll Tryd.prog os Rows.fnExactSaveBlocksRow.laid) #[(.slice none 0 0)] 8 (World.laidAll_os _ _ _)
      (World.shaped_of_ZipB (by kernel_rfl) (by kernel_rfl)) (by kernel_rfl) (by kernel_rfl) (by kernel_rfl)
      (by rw [MakeChecks.laidMetH_plain _ _ _ (by kernel_rfl)]; exact laidMet_laidAll _ (by kernel_rfl) (by kernel_rfl))) ?_
  intro W base args ds gs before hval0 hW hcnd hsz0 hLD hsh _
  have hsz : (DataW.weightsEach Tryd.prog (Tryd.f4.params.toList ++ Rows.fnExactSaveBlocksSpec.plain.varTypes Tryd.prog) (ds ++ gs)).all (· ≤ reachBytes) = true := hsz0
  have hval : ∀ (j : Nat) t v, Tryd.f4.params[j]? = some t → args[j]? = some v → Value.okWide Tryd.prog W .any base t v := hval0
  have hW' := hW
  obtain ⟨p, q, hA0, hV, rfl, hfz, hnd⟩ := hW
  have hA : DataW.TrodAll enc Tryd.prog W 0 (fun _ => true) true Tryd.f4.params.toList args.toList ds p := hA0
  rw [Tryd.params4] at hA hval hsz
  obtain ⟨v0, vs0, d0, ds0, p0, q0, hargs, rfl, rfl, h0, r0⟩ := trodAll_cons hA
  obtain ⟨rfl, rfl, rfl⟩ := trodAll_nil r0
  obtain rfl : args = #[v0] := by cases args; simp_all
  obtain ⟨rfl, rfl⟩ := trodVars_none hV
  have kk0 := h0
  have lt0 : ∀ x ∈ p0, x.block < W.heap.size := by obtain ⟨m, hm⟩ := kk0; exact DataW.trod_lt m _ _ _ hm
  obtain ⟨A0, c0, a0, rfl, hc0, hr0, hq0⟩ := open_sl Tryd.underlying34 (by kernel_rfl) opens57 (hval 0 34 v0 rfl rfl) h0
  have hst : ShT Tryd.prog W := ⟨hsh, by
    have h_ : laidMetH Tryd.prog Rows.fnExactSaveBlocksRow.laid W := hLD
    rw [MakeChecks.laidMetH_plain _ _ _ (by kernel_rfl)] at h_
    have e_ : Rows.fnExactSaveBlocksRow.laid = Rows.fnExactSaveBlocksRow.laid.take 2 ++ ("internal/strconv.uint64pow10", Lib.tabData .u64 Lib.pow10Tab) :: Rows.fnExactSaveBlocksRow.laid.drop 3 := by kernel_rfl
    rw [e_] at h_
    exact Lib.tabIs_of_head (g := (Tryd.prog.globalNamed "internal/strconv.uint64pow10").getD 0) (t := ((Tryd.prog.globals[(Tryd.prog.globalNamed "internal/strconv.uint64pow10").getD 0]?).map (·.type)).getD 0) (e := 108) (n := 20) (by kernel_rfl) (by kernel_rfl) (by kernel_rfl) (by kernel_rfl) (by kernel_rfl) (by kernel_rfl) (LaidKit.laidMet_from h_)⟩
  obtain ⟨k, hp⟩ := PureFnExactSaveBlocks.pure a0 hq0
  clear hA0 hval0 hsz0 hsz
  refine (laws_FnExactSaveBlocks.calls k A0 c0 a0 true W hr0 hc0 hst hp).mono fun e W' ⟨he, bel0⟩ => ?_
  have bel : Below W.heap.size W W' := bel0
  subst he
  exact ⟨_, rfl, _, _, _, [], _, [], hW', trodAll_mk1 (shut_bool Tryd.underlying4 _), (trodAll_cons_mk (Below.trod laidOut (by kernel_rfl) (of_decide_eq_true (by kernel_rfl)) kk0 bel lt0) trodAll_mk0), rfl, bel.frame _, fun h => by cases h⟩
theorem over : Rows.fnExactSaveBlocksRow.holds Tryd.pinned (OpenSpec.ofChange Rows.fnExactSaveBlocksSpec) :=
  OpenClaim.holds_of_wide 4 Tryd.f4 rfl rfl rfl rfl rfl rfl rfl ⟨rfl, rfl, rfl, rfl, rfl⟩ rfl rfl rfl rfl rfl (by kernel_rfl) Tryd.func4 (by kernel_rfl)
    (of_decide_eq_true (by kernel_rfl)) (by unfold Func.isWrapper; first | (rw [if_pos (by decide +kernel)]; kernel_rfl) | (rw [if_neg (by decide +kernel)]; exact ⟨rfl, rfl⟩))
    (fun os started H enc _ => lifted os started H enc)
end Go.Proofs.YtnabckhhnknlaaaDoor.RowFnExactSaveBlocks
namespace Go.Proofs.YtnabckhhnknlaaaDoor
theorem fnExactSaveBlocks_holds : Rows.FnExactSaveBlocksSaid := RowFnExactSaveBlocks.over
theorem fnExactSaveBlocks_card_holds : Rows.FnExactSaveBlocksCardSaid :=
  Claim7.holds_tied_plain_at .later [] [.data, .data, .data] true (true, "c5de6c8ba9b854acaa57451ab07ba0673fc9c3069f92e061da9cac9fe0d7914c") false fnExactSaveBlocks_holds (fun _ h => by cases h) (by kernel_rfl) (fun _ h => by cases h) fnExactSaveBlocks_row_tie rfl ⟨rfl, rfl⟩ (by kernel_rfl) rfl
    (fun f fn hf hfn => by
      obtain rfl : f = 4 := Option.some.inj ((show Tryd.prog.funcNamed "loop.example/g01011/laws.FnExactSaveBlocks" = some 4 by kernel_rfl).symm.trans hf) |>.symm
      obtain rfl : fn = Tryd.f4 := (Option.some.inj (Tryd.func4.symm.trans hfn)).symm
      exact ⟨by kernel_rfl, fun j t ht => by
        rw [Tryd.params4] at ht
        have hm : t ∈ [34] := by simpa using Array.mem_of_getElem? ht
        have hall : ([34].all fun u => !Tryd.prog.wantsStandIn u) = true := by kernel_rfl
        exact (show Tryd.prog.wantsStandIn t = false by simpa using List.all_eq_true.1 hall t hm)⟩)
    (by kernel_rfl)
end Go.Proofs.YtnabckhhnknlaaaDoor
end
