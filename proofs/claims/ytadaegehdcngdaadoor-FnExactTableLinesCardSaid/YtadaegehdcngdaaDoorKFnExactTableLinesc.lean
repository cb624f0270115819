/- The law FnExactTableLines: part 2 of its texts, joined (wip/pack.py). -/
import Derived.Test.YtadaegehdcngdaaDoorKFnExactTableLinesa
import Derived.Test.YtadaegehdcngdaaDoorKFnExactTableLinesb
import Derived.Shelf.Strings.Builder1
import Derived.Shelf.Strings.Builder2
import Derived.Shelf.Strings.Trim
import Derived.Shelf.Small.Utf8
import Derived.Shelf.Small.Strs
import Derived.Shelf.Strings.BuilderF
import Derived.Shelf.Strings.BuilderK
import Derived.Shelf.Strings.Search1
import Derived.Shelf.Strings.Prefix
import Derived.Shelf.Strings.Runes
import Derived.Shelf.Strings.AsciiSet
import Derived.Shelf.Bits.Mul64
import Derived.Shelf.Strings.Repeat
import Derived.Shelf.Unicode.DecodeSlow
import Derived.Test.YtadaegehdcngdaaDoorProg
import Derived.Lib.Builder
import Derived.Lib.Strings
import Derived.Lib.Slices
import Derived.Lib.Walk
import Derived.Lib.AppendStr
import Derived.Lib.UnsafeStr
import Derived.WalkKit
import Derived.Laws.Externs
import Derived.Laws.IdiomCopy
import Derived.Laws.BitsLemmas
import Derived.KernelRfl
import Derived.Deep.Slices
import Derived.SizedLaws
import Derived.ChangeArms
import Derived.WideShapes

section
namespace Go.Proofs
open Go.Shelf
def Tryd.lays169_ren : Go.Shelf.Ren := ⟨fun | 169 => 22 | n => n, fun | 70 => 37 | 9 => 9 | 0 => 0 | 72 => 40 | 37 => 38 | 127 => 63 | 3 => 3 | 5 => 5 | n => n, fun | n => n⟩
theorem Tryd.lays169 : Go.Proofs.Lays.n169 Tryd.prog Tryd.lays169_ren := {
  mixed := by kernel_rfl
  f169 := Tryd.func22.trans (congrArg some (by kernel_rfl))
  t0 := Tryd.underlying0
  a0 := Tryd.isAgg0
  z0 := Tryd.sizeOf0
  v0 := Tryd.zeroValue0
  t3 := Tryd.underlying3
  a3 := Tryd.isAgg3
  z3 := Tryd.sizeOf3
  v3 := Tryd.zeroValue3
  t9 := Tryd.underlying9
  a9 := Tryd.isAgg9
  z9 := Tryd.sizeOf9
  v9 := Tryd.zeroValue9
  t37 := Tryd.underlying38
  a37 := Tryd.isAgg38
  z37 := Tryd.sizeOf38
  v37 := Tryd.zeroValue38
  t70 := Tryd.underlying37
  a70 := Tryd.isAgg37
  z70 := Tryd.sizeOf37
  v70 := Tryd.zeroValue37
  t72 := Tryd.underlying40
  a72 := Tryd.isAgg40
  z72 := Tryd.sizeOf40
  v72 := Tryd.zeroValue40
  t127 := Tryd.underlying63
  a127 := Tryd.isAgg63
  z127 := Tryd.sizeOf63
  v127 := Tryd.zeroValue63 }
theorem Tryd.Builder_Extra_169 : Builder.Extra Tryd.prog Tryd.lays169_ren := {
  sizeBuilder := by kernel_rfl
  liesBuilder := by kernel_rfl
  t5 := Tryd.underlying5
  a5 := Tryd.isAgg5
  z5 := Tryd.sizeOf5
  v5 := Tryd.zeroValue5
  infoByte := by kernel_rfl
  cellsByte := by kernel_rfl
  sizeByte := by kernel_rfl
  neB5 := by decide }
open Go.RowKit in
theorem Tryd.Builder_String_any (B b : Nat) (l : List UInt8) (w : World) (h : Lib.IsBuilder 40 5 B b (Lib.byteCells l) w) (hBw : B ≤ w.heap.size) :
    Calls Tryd.prog 22 #[.pointer (some ⟨b, 0, none⟩)] w fun e w' => e = .returned (.string ⟨l.toArray⟩) ∧ Below B w w' := Any.Builder_String_any Tryd.lays169 Tryd.Builder_Extra_169 B b l w h hBw
def Tryd.lays162_ren : Go.Shelf.Ren := ⟨fun | 162 => 21 | 232 => 31 | 227 => 32 | 234 => 33 | 236 => 34 | 228 => 42 | 271 => 43 | 151 => 44 | 120 => 47 | 197 => 48 | 152 => 49 | 260 => 50 | 137 => 51 | 119 => 52 | 224 => 53 | 225 => 54 | 217 => 55 | 266 => 56 | n => n, fun | 9 => 9 | 4 => 4 | 3 => 3 | 5 => 5 | 117 => 59 | 116 => 58 | 0 => 0 | 124 => 62 | 21 => 21 | 105 => 74 | 46 => 50 | 119 => 83 | 139 => 86 | 138 => 85 | n => n, fun | 3 => 1 | 4 => 2 | n => n⟩
theorem Tryd.lays162 : Go.Proofs.Lays.n162 Tryd.prog Tryd.lays162_ren := {
  mixed := by kernel_rfl
  f119 := Tryd.func52.trans (congrArg some (by kernel_rfl))
  f120 := Tryd.func47.trans (congrArg some (by kernel_rfl))
  f137 := Tryd.func51.trans (congrArg some (by kernel_rfl))
  f151 := Tryd.func44.trans (congrArg some (by kernel_rfl))
  f152 := Tryd.func49.trans (congrArg some (by kernel_rfl))
  f162 := Tryd.func21.trans (congrArg some (by kernel_rfl))
  f197 := Tryd.func48.trans (congrArg some (by kernel_rfl))
  f217 := Tryd.func55.trans (congrArg some (by kernel_rfl))
  f224 := Tryd.func53.trans (congrArg some (by kernel_rfl))
  f225 := Tryd.func54.trans (congrArg some (by kernel_rfl))
  f227 := Tryd.func32.trans (congrArg some (by kernel_rfl))
  f228 := Tryd.func42.trans (congrArg some (by kernel_rfl))
  f232 := Tryd.func31.trans (congrArg some (by kernel_rfl))
  f234 := Tryd.func33.trans (congrArg some (by kernel_rfl))
  f236 := Tryd.func34.trans (congrArg some (by kernel_rfl))
  f260 := Tryd.func50.trans (congrArg some (by kernel_rfl))
  f266 := Tryd.func56.trans (congrArg some (by kernel_rfl))
  f271 := Tryd.func43.trans (congrArg some (by kernel_rfl))
  t0 := Tryd.underlying0
  a0 := Tryd.isAgg0
  z0 := Tryd.sizeOf0
  v0 := Tryd.zeroValue0
  t3 := Tryd.underlying3
  a3 := Tryd.isAgg3
  z3 := Tryd.sizeOf3
  v3 := Tryd.zeroValue3
  t4 := Tryd.underlying4
  a4 := Tryd.isAgg4
  z4 := Tryd.sizeOf4
  v4 := Tryd.zeroValue4
  t5 := Tryd.underlying5
  a5 := Tryd.isAgg5
  z5 := Tryd.sizeOf5
  v5 := Tryd.zeroValue5
  t9 := Tryd.underlying9
  a9 := Tryd.isAgg9
  z9 := Tryd.sizeOf9
  v9 := Tryd.zeroValue9
  t21 := Tryd.underlying21
  a21 := Tryd.isAgg21
  z21 := Tryd.sizeOf21
  v21 := Tryd.zeroValue21
  t46 := Tryd.underlying50
  a46 := Tryd.isAgg50
  z46 := Tryd.sizeOf50
  v46 := Tryd.zeroValue50
  t105 := Tryd.underlying74
  a105 := Tryd.isAgg74
  z105 := Tryd.sizeOf74
  v105 := Tryd.zeroValue74
  t116 := Tryd.underlying58
  a116 := Tryd.isAgg58
  z116 := Tryd.sizeOf58
  t117 := Tryd.underlying59
  a117 := Tryd.isAgg59
  z117 := Tryd.sizeOf59
  v117 := Tryd.zeroValue59
  t119 := Tryd.underlying83
  a119 := Tryd.isAgg83
  z119 := Tryd.sizeOf83
  t124 := Tryd.underlying62
  a124 := Tryd.isAgg62
  z124 := Tryd.sizeOf62
  v124 := Tryd.zeroValue62
  t138 := Tryd.underlying85
  a138 := Tryd.isAgg85
  z138 := Tryd.sizeOf85
  v138 := Tryd.zeroValue85
  t139 := Tryd.underlying86
  a139 := Tryd.isAgg86
  z139 := Tryd.sizeOf86
  v139 := Tryd.zeroValue86
  g3 := by kernel_rfl
  g4 := by kernel_rfl }
open Go.RowKit in
theorem Tryd.strings_TrimRight_one (s : ByteArray) (c : UInt8) (hc : c.toNat < 128) (w : World) (hs : s.size ≤ 9223372036854775807) :
    Calls Tryd.prog 21 #[.string s, .string ⟨#[c]⟩] w fun e w' => e = .returned (.string ⟨(Lib.trimRightB s.data.toList c).toArray⟩) ∧ w' = w := Any.strings_TrimRight_one Tryd.lays162 s c hc w hs
def Tryd.lays105_ren : Go.Shelf.Ren := ⟨fun | 105 => 20 | 212 => 27 | 99 => 28 | 165 => 29 | 166 => 19 | 170 => 30 | 169 => 22 | 263 => 38 | 264 => 39 | 206 => 40 | 240 => 26 | 241 => 41 | 276 => 37 | 277 => 46 | n => n, fun | 9 => 9 | 3 => 3 | 4 => 4 | 20 => 20 | 0 => 0 | 46 => 50 | 109 => 51 | 5 => 5 | 72 => 40 | 76 => 43 | 51 => 67 | 146 => 68 | 53 => 70 | 148 => 71 | 70 => 37 | 37 => 38 | 75 => 42 | 127 => 63 | 164 => 65 | 80 => 47 | n => n, fun | n => n⟩
theorem Tryd.lays105 : Go.Proofs.Lays.n105 Tryd.prog Tryd.lays105_ren := {
  mixed := by kernel_rfl
  f99 := Tryd.func28.trans (congrArg some (by kernel_rfl))
  f105 := Tryd.func20.trans (congrArg some (by kernel_rfl))
  f165 := Tryd.func29.trans (congrArg some (by kernel_rfl))
  f166 := Tryd.func19.trans (congrArg some (by kernel_rfl))
  f169 := Tryd.func22.trans (congrArg some (by kernel_rfl))
  f170 := Tryd.func30.trans (congrArg some (by kernel_rfl))
  f206 := Tryd.func40.trans (congrArg some (by kernel_rfl))
  f212 := Tryd.func27.trans (congrArg some (by kernel_rfl))
  f240 := Tryd.func26.trans (congrArg some (by kernel_rfl))
  f241 := Tryd.func41.trans (congrArg some (by kernel_rfl))
  f263 := Tryd.func38.trans (congrArg some (by kernel_rfl))
  f264 := Tryd.func39.trans (congrArg some (by kernel_rfl))
  f276 := Tryd.func37.trans (congrArg some (by kernel_rfl))
  f277 := Tryd.func46.trans (congrArg some (by kernel_rfl))
  t0 := Tryd.underlying0
  a0 := Tryd.isAgg0
  z0 := Tryd.sizeOf0
  v0 := Tryd.zeroValue0
  t3 := Tryd.underlying3
  a3 := Tryd.isAgg3
  z3 := Tryd.sizeOf3
  v3 := Tryd.zeroValue3
  t4 := Tryd.underlying4
  a4 := Tryd.isAgg4
  z4 := Tryd.sizeOf4
  v4 := Tryd.zeroValue4
  t5 := Tryd.underlying5
  a5 := Tryd.isAgg5
  z5 := Tryd.sizeOf5
  v5 := Tryd.zeroValue5
  t9 := Tryd.underlying9
  a9 := Tryd.isAgg9
  z9 := Tryd.sizeOf9
  v9 := Tryd.zeroValue9
  t20 := Tryd.underlying20
  a20 := Tryd.isAgg20
  z20 := Tryd.sizeOf20
  v20 := Tryd.zeroValue20
  t37 := Tryd.underlying38
  a37 := Tryd.isAgg38
  z37 := Tryd.sizeOf38
  v37 := Tryd.zeroValue38
  t46 := Tryd.underlying50
  a46 := Tryd.isAgg50
  z46 := Tryd.sizeOf50
  v46 := Tryd.zeroValue50
  t51 := Tryd.underlying67
  a51 := Tryd.isAgg67
  z51 := Tryd.sizeOf67
  v51 := Tryd.zeroValue67
  t53 := Tryd.underlying70
  a53 := Tryd.isAgg70
  z53 := Tryd.sizeOf70
  v53 := Tryd.zeroValue70
  t70 := Tryd.underlying37
  a70 := Tryd.isAgg37
  z70 := Tryd.sizeOf37
  v70 := Tryd.zeroValue37
  t72 := Tryd.underlying40
  a72 := Tryd.isAgg40
  z72 := Tryd.sizeOf40
  v72 := Tryd.zeroValue40
  t75 := Tryd.underlying42
  a75 := Tryd.isAgg42
  z75 := Tryd.sizeOf42
  v75 := Tryd.zeroValue42
  t76 := Tryd.underlying43
  a76 := Tryd.isAgg43
  z76 := Tryd.sizeOf43
  v76 := Tryd.zeroValue43
  t109 := Tryd.underlying51
  a109 := Tryd.isAgg51
  z109 := Tryd.sizeOf51
  v109 := Tryd.zeroValue51
  t127 := Tryd.underlying63
  a127 := Tryd.isAgg63
  z127 := Tryd.sizeOf63
  v127 := Tryd.zeroValue63
  t146 := Tryd.underlying68
  a146 := Tryd.isAgg68
  z146 := Tryd.sizeOf68
  v146 := Tryd.zeroValue68
  t148 := Tryd.underlying71
  a148 := Tryd.isAgg71
  z148 := Tryd.sizeOf71
  v148 := Tryd.zeroValue71
  t164 := Tryd.underlying65
  a164 := Tryd.isAgg65
  z164 := Tryd.sizeOf65
  v164 := Tryd.zeroValue65 }
theorem Tryd.Builder_Extra_105 : Builder.Extra Tryd.prog Tryd.lays105_ren := {
  sizeBuilder := by kernel_rfl
  liesBuilder := by kernel_rfl
  t5 := Tryd.underlying5
  a5 := Tryd.isAgg5
  z5 := Tryd.sizeOf5
  v5 := Tryd.zeroValue5
  infoByte := by kernel_rfl
  cellsByte := by kernel_rfl
  sizeByte := by kernel_rfl
  neB5 := by decide }
open Go.RowKit Go.Lib in
theorem Tryd.strings_Repeat (s : ByteArray) (c : Nat) (w : World) (hc : c ≤ 9223372036854775807) (hlen : s.size * c ≤ 140737488355328) :
    Calls Tryd.prog 20 #[.string s, .int .i64 c] w fun e w' => e = .returned (.string ⟨(Lib.repeatL s.data.toList c).toArray⟩) ∧ Below w.heap.size w w' := Any.strings_Repeat Tryd.lays105 Tryd.Builder_Extra_105 s c w hc hlen
end Go.Proofs
end

section
namespace Go.Proofs.YtadaegehdcngdaaDoor.XU
open Go.RowKit Go.Proofs.YtadaegehdcngdaaDoorW.PrintWords Go.Proofs.YtadaegehdcngdaaDoorW.PrintLast Go.Proofs.YtadaegehdcngdaaDoorW.PrintMore
attribute [local go_sem] run_eql_slice_nil binOp_string_gtr' binOp_string_leq' binOp_string_geq' max2_int min2_int max_two min_two max_three min_three max_four min_four   -- for this text's walks alone
set_option linter.unusedVariables false
set_option linter.unusedSimpArgs false
def impl_bytesWithin.l0 : Nat → ByteArray → Int → Int → Int → Int → Option (Bool)
 | 0, _, _, _, _, _ => none
 | k + 1, x0, x1, x2, x9, x10 => if x10 < x9 then (if 0 ≤ x10 then (if x10 < (x0.size : Int) then (if (bt x0 x10) < x1 then (some false) else (if (bt x0 x10) > x2 then (some false) else (impl_bytesWithin.l0 k x0 x1 x2 x9 (wrap64 (x10 + 1))))) else (none)) else (none)) else (some true)
def impl_bytesWithin.f (k : Nat) (a0 : ByteArray) (a1 : Int) (a2 : Int) : Option (Bool) := impl_bytesWithin.l0 k a0 a1 a2 (a0.size : Int) 0
set_option maxHeartbeats 8000000 in
set_option maxRecDepth 100000 in
theorem impl_bytesWithin.calls (k : Nat) (a0 : ByteArray) (a1 : Int) (a2 : Int) (r : Bool) (w : World) (h : impl_bytesWithin.f k a0 a1 a2 = some r) :
  Calls Tryd.prog 18 #[.string a0, .int .u8 a1, .int .u8 a2] w fun e w' => e = .returned (.bool r) ∧ Drawn0 w w' := by
 have H : (impl_bytesWithin.l0 k a0 a1 a2 (a0.size : Int) 0) = some r := h
 clear h
 have H' := Aside0.mk H
 clear H
 go_enter Tryd.func18, Tryd.ntmps18
 go_wp2
 go_loopg [10] k (fun kq v10 w' => ∃ (x10_1 : Int), v10 = .int .i64 x10_1 ∧ Aside0 (impl_bytesWithin.l0 kq a0 a1 a2 (a0.size : Int) x10_1 = some r) ∧ Aside0 (kq ≤ k) ∧ Drawn0 w w')
 case atStart => exact ⟨(0), sZ, H', ⟨Nat.le_refl _⟩, dZ⟩
 case round =>
  clear H'; (try clear c1); (try clear p2)
  obtain ⟨x10_1, rfl, HA, HK1, ⟨m1, rfl⟩⟩ := hrel
  cases gk with
  | zero => exact absurd HA.out (by simp [impl_bytesWithin.l0])
  | succ k1 =>
   have H := HA.out
   clear HA
   simp only [impl_bytesWithin.l0] at H
   by_cases c4 : x10_1 < (a0.size : Int)
   ·rw [if_pos c4] at H
    have c4b0 : decide (x10_1 < (a0.size : Int)) = true := decide_eq_true c4
    clear c4
    by_cases c5 : 0 ≤ x10_1
    ·rw [if_pos c5] at H
     have c5b0 : decide (0 ≤ x10_1) = true := decide_eq_true c5
     clear c5
     by_cases c6 : x10_1 < (a0.size : Int)
     ·rw [if_pos c6] at H
      have c6b0 : decide (x10_1 < (a0.size : Int)) = true := decide_eq_true c6
      clear c6
      by_cases c8 : (bt a0 x10_1) < a1
      ·rw [if_pos c8] at H
       have c8b0 : decide ((bt a0 x10_1) < a1) = true := decide_eq_true c8
       clear c8
       obtain rfl := Option.some.inj H
       have p7 : 0 ≤ (x10_1 : Int) := oZ
       have q7 : x10_1 < (a0.size : Int) := oZ
       have hx7 := bt_at a0 x10_1
       replace p7 := eq_true p7
       replace q7 := eq_true q7
       go_wp2
       go_ret
       exact ⟨sZ, dZ⟩
      ·rw [if_neg c8] at H
       have c8b0 : decide ((bt a0 x10_1) < a1) = false := decide_eq_false c8
       clear c8
       by_cases c10 : (bt a0 x10_1) > a2
       ·rw [if_pos c10] at H
        have c10b0 : decide (a2 < (bt a0 x10_1)) = true := decide_eq_true c10
        clear c10
        obtain rfl := Option.some.inj H
        have p7 : 0 ≤ (x10_1 : Int) := oZ
        have q7 : x10_1 < (a0.size : Int) := oZ
        have hx7 := bt_at a0 x10_1
        replace p7 := eq_true p7
        replace q7 := eq_true q7
        have p9 : 0 ≤ (x10_1 : Int) := oZ
        have q9 : x10_1 < (a0.size : Int) := oZ
        have hx9 := bt_at a0 x10_1
        replace p9 := eq_true p9
        replace q9 := eq_true q9
        go_wp2
        go_ret
        exact ⟨sZ, dZ⟩
       ·rw [if_neg c10] at H
        have c10b0 : decide (a2 < (bt a0 x10_1)) = false := decide_eq_false c10
        clear c10
        have H' := Aside0.mk H
        clear H
        have p7 : 0 ≤ (x10_1 : Int) := oZ
        have q7 : x10_1 < (a0.size : Int) := oZ
        have hx7 := bt_at a0 x10_1
        replace p7 := eq_true p7
        replace q7 := eq_true q7
        have p9 : 0 ≤ (x10_1 : Int) := oZ
        have q9 : x10_1 < (a0.size : Int) := oZ
        have hx9 := bt_at a0 x10_1
        replace p9 := eq_true p9
        replace q9 := eq_true q9
        go_wp2
        go_roundg k1
        case measure => have := HK1.out; omega
        case rel => exact ⟨(wrap64 (x10_1 + 1)), sZ, H', ⟨by have := HK1.out; omega⟩, dZ⟩
     ·rw [if_neg c6] at H
      exact absurd H (by simp)
    ·rw [if_neg c5] at H
     exact absurd H (by simp)
   ·rw [if_neg c4] at H
    have c4b0 : decide (x10_1 < (a0.size : Int)) = false := decide_eq_false c4
    clear c4
    obtain rfl := Option.some.inj H
    go_wp2
    go_ret
    exact ⟨sZ, dZ⟩
def strings_Repeat.f (a0 : ByteArray) (a1 : Int) : Option (ByteArray) := if 0 ≤ a1 ∧ a1 ≤ 9223372036854775807 ∧ (a0.size : Int) * a1 ≤ 140737488355328 then some ⟨(Lib.repeatL a0.data.toList a1.toNat).toArray⟩ else none
theorem strings_Repeat.calls (a0 : ByteArray) (a1 : Int) (r : ByteArray) (w : World) (h : strings_Repeat.f a0 a1 = some r) :
  Calls Tryd.prog 20 #[.string a0, .int .i64 a1] w fun e w' => e = .returned (.string r) ∧ Below w.heap.size w w' := by
 unfold strings_Repeat.f at h
 by_cases hc : 0 ≤ a1 ∧ a1 ≤ 9223372036854775807 ∧ (a0.size : Int) * a1 ≤ 140737488355328
 ·rw [if_pos hc] at h
  obtain rfl := Option.some.inj h
  obtain ⟨n, rfl⟩ : ∃ n : Nat, a1 = n := ⟨a1.toNat, by omega⟩
  have h2 : a0.size * n ≤ 140737488355328 := by
   have := hc.2.2
   rw [← Int.natCast_mul] at this
   omega
  rw [Int.toNat_natCast]
  exact Tryd.strings_Repeat a0 n w (by omega) h2
 ·rw [if_neg hc] at h
  exact absurd h (by simp)
def strings_TrimRight.f (a0 : ByteArray) (a1 : ByteArray) : Option (ByteArray) := if a0.size ≤ 9223372036854775807 ∧ a1.data.toList = [32] then some ⟨(Lib.trimRightB a0.data.toList 32).toArray⟩ else none
theorem strings_TrimRight.calls (a0 : ByteArray) (a1 : ByteArray) (r : ByteArray) (w : World) (h : strings_TrimRight.f a0 a1 = some r) :
  Calls Tryd.prog 21 #[.string a0, .string a1] w fun e w' => e = .returned (.string r) ∧ Below w.heap.size w w' := by
 unfold strings_TrimRight.f at h
 by_cases hc : a0.size ≤ 9223372036854775807 ∧ a1.data.toList = [32]
 ·rw [if_pos hc] at h
  obtain rfl := Option.some.inj h
  have e : a1 = ⟨#[32]⟩ := ByteArray.ext (Array.ext' hc.2)
  subst e
  refine (Tryd.strings_TrimRight_one a0 32 (by decide) w hc.1).mono ?_
  rintro e w' ⟨rfl, rfl⟩
  exact ⟨rfl, Below.refl _ _⟩
 ·rw [if_neg hc] at h
  exact absurd h (by simp)
def impl_lineValid.f (k : Nat) (a0 : ByteArray) : Option (Bool) := if (a0.size : Int) ≤ 100 then ((impl_bytesWithin.f k a0 32 126).bind fun t161 => (some t161)) else (some false)
set_option maxHeartbeats 8000000 in
set_option maxRecDepth 100000 in
theorem impl_lineValid.calls (k : Nat) (a0 : ByteArray) (r : Bool) (w : World) (h : impl_lineValid.f k a0 = some r) :
  Calls Tryd.prog 45 #[.string a0] w fun e w' => e = .returned (.bool r) ∧ Drawn0 w w' := by
 have H : (if (a0.size : Int) ≤ 100 then ((impl_bytesWithin.f k a0 32 126).bind fun t161 => (some t161)) else (some false)) = some r := h
 clear h
 by_cases c2 : (a0.size : Int) ≤ 100
 ·rw [if_pos c2] at H
  have c2b0 : decide ((a0.size : Int) ≤ 100) = true := decide_eq_true c2
  have c2b1 : decide (a0.size ≤ 100) = true := decide_eq_true (by omega)
  clear c2
  replace H := Option.bind_eq_some_iff.mp H
  obtain ⟨t161, A30, H⟩ := H
  replace H : (some t161) = some r := H
  have A3 := Aside0.mk A30
  clear A30
  obtain rfl := Option.some.inj H
  go_enter Tryd.func45, Tryd.ntmps45
  go_wp2_with (first | (go_at_call 18; (with_reducible refine (impl_bytesWithin.calls k a0 32 126 t161 _ A3.out).mono ?_); rintro e w' ⟨rfl, ⟨nd, rfl⟩⟩))
  go_ret
  exact ⟨sZ, dZ⟩
 ·rw [if_neg c2] at H
  have c2b0 : decide ((a0.size : Int) ≤ 100) = false := decide_eq_false c2
  have c2b1 : decide (a0.size ≤ 100) = false := decide_eq_false (by omega)
  clear c2
  obtain rfl := Option.some.inj H
  go_enter Tryd.func45, Tryd.ntmps45
  go_wp2
  go_ret
  exact ⟨sZ, dZ⟩
end Go.Proofs.YtadaegehdcngdaaDoor.XU
end

section
namespace Go.Proofs.YtadaegehdcngdaaDoor.XU
open Go.RowKit Go.Proofs.YtadaegehdcngdaaDoorW.PrintWords Go.Proofs.YtadaegehdcngdaaDoorW.PrintLast Go.Proofs.YtadaegehdcngdaaDoorW.PrintMore
attribute [local go_sem] run_eql_slice_nil binOp_string_gtr' binOp_string_leq' binOp_string_geq' max2_int min2_int max_two min_two max_three min_three max_four min_four   -- for this text's walks alone
set_option linter.unusedVariables false
set_option linter.unusedSimpArgs false
def impl_ValidReport.l0 : Nat → List ByteArray → Int → Int → Option (Bool)
 | 0, _, _, _ => none
 | k + 1, x8, x9, x10 => if x10 < x9 then (if 0 ≤ x10 then (if x10 < (x8.length : Int) then ((impl_lineValid.f k (rdOf ByteArray.empty x8 x10)).bind fun t163 => (if t163 = true then (impl_ValidReport.l0 k x8 x9 (wrap64 (x10 + 1))) else (some false))) else (none)) else (none)) else (some true)
def impl_ValidReport.f (k : Nat) (l0 : List ByteArray) : Option (Bool) := if (l0.length : Int) > 200 then (some false) else (impl_ValidReport.l0 k l0 (l0.length : Int) 0)
set_option maxHeartbeats 8000000 in
set_option maxRecDepth 100000 in
theorem impl_ValidReport.calls (k : Nat) (A0 : Option Addr) (c0 : Nat) (l0 : List ByteArray) (r : Bool) (w : World) (hr0 : Kd.C Kd.string w A0 l0.length l0) (hc0 : l0.length ≤ c0) (h : impl_ValidReport.f k l0 = some r) :
  Calls Tryd.prog 35 #[.slice A0 l0.length c0] w fun e w' => e = .returned (.bool r) ∧ Drawn0 w w' := by
 have HR0 := Aside0.mk hr0
 have HC0 := Aside0.mk hc0
 clear hr0 hc0
 have H : (if (l0.length : Int) > 200 then (some false) else (impl_ValidReport.l0 k l0 (l0.length : Int) 0)) = some r := h
 clear h
 by_cases c2 : (l0.length : Int) > 200
 ·rw [if_pos c2] at H
  have c2b0 : decide (200 < (l0.length : Int)) = true := decide_eq_true c2
  have c2b1 : decide (200 < l0.length) = true := decide_eq_true (by omega)
  clear c2
  obtain rfl := Option.some.inj H
  go_enter Tryd.func35, Tryd.ntmps35
  go_wp2
  go_ret
  exact ⟨sZ, dZ⟩
 ·rw [if_neg c2] at H
  have c2b0 : decide (200 < (l0.length : Int)) = false := decide_eq_false c2
  have c2b1 : decide (200 < l0.length) = false := decide_eq_false (by omega)
  clear c2
  have H' := Aside0.mk H
  clear H
  go_enter Tryd.func35, Tryd.ntmps35
  go_wp2
  go_loopg [10] k (fun kq v10 w' => ∃ (x10_1 : Int), v10 = .int .i64 x10_1 ∧ Aside0 (impl_ValidReport.l0 kq l0 (l0.length : Int) x10_1 = some r) ∧ Aside0 (kq ≤ k) ∧ Drawn0 w w')
  case atStart => exact ⟨(0), sZ, H', ⟨Nat.le_refl _⟩, dZ⟩
  case round =>
   clear H'; (try clear c2); (try clear c2b0); (try clear c2b1); (try clear p2)
   obtain ⟨x10_1, rfl, HA, HK1, ⟨m1, rfl⟩⟩ := hrel
   cases gk with
   | zero => exact absurd HA.out (by simp [impl_ValidReport.l0])
   | succ k1 =>
    have H := HA.out
    clear HA
    simp only [impl_ValidReport.l0] at H
    by_cases c3 : x10_1 < (l0.length : Int)
    ·rw [if_pos c3] at H
     have c3b0 : decide (x10_1 < (l0.length : Int)) = true := decide_eq_true c3
     clear c3
     by_cases c4 : 0 ≤ x10_1
     ·rw [if_pos c4] at H
      have c4b0 : decide (0 ≤ x10_1) = true := decide_eq_true c4
      clear c4
      by_cases c5 : x10_1 < (l0.length : Int)
      ·rw [if_pos c5] at H
       have c5b0 : decide (x10_1 < (l0.length : Int)) = true := decide_eq_true c5
       clear c5
       replace H := Option.bind_eq_some_iff.mp H
       obtain ⟨t163, A60, H⟩ := H
       replace H : (if t163 = true then (impl_ValidReport.l0 k1 l0 (l0.length : Int) (wrap64 (x10_1 + 1))) else (some false)) = some r := H
       have A6 := Aside0.mk A60
       clear A60
       by_cases c7 : t163 = true
       ·subst c7
        have H1 : (impl_ValidReport.l0 k1 l0 (l0.length : Int) (wrap64 (x10_1 + 1))) = some r := by rw [if_pos rfl] at H; exact H
        clear H
        have H := H1
        clear H1
        have H' := Aside0.mk H
        clear H
        have p162 : 0 ≤ (x10_1 : Int) := oZ
        have q162 : x10_1 < (l0.length : Int) := oZ
        obtain ⟨ad162, e162, hx162_0⟩ := Kd.at_string HR0.out x10_1 p162 q162
        cases e162
        replace p162 := eq_true p162
        replace q162 := eq_true q162
        go_wp2_with (first | ((with_reducible refine gate_callee (f := 45) rfl ?_); refine goesL_ (some 15) rfl rfl Tryd.func45 (by kernel_rfl) rfl #[.string (rdOf ByteArray.empty l0 x10_1)] rfl gZ ?_; (with_reducible refine (impl_lineValid.calls k1 (rdOf ByteArray.empty l0 x10_1) true _ A6.out).mono ?_); rintro e w' ⟨rfl, ⟨nd, rfl⟩⟩; refine ⟨_, rfl, ?_⟩))
        go_roundg k1
        case measure => have := HK1.out; omega
        case rel => exact ⟨(wrap64 (x10_1 + 1)), sZ, H', ⟨by have := HK1.out; omega⟩, dZ⟩
       ·replace c7 := Bool.eq_false_iff.mpr c7
        subst c7
        have H1 : (some false) = some r := by rw [if_neg (show ¬ (false = true) by decide)] at H; exact H
        clear H
        have H := H1
        clear H1
        obtain rfl := Option.some.inj H
        have p162 : 0 ≤ (x10_1 : Int) := oZ
        have q162 : x10_1 < (l0.length : Int) := oZ
        obtain ⟨ad162, e162, hx162_0⟩ := Kd.at_string HR0.out x10_1 p162 q162
        cases e162
        replace p162 := eq_true p162
        replace q162 := eq_true q162
        go_wp2_with (first | ((with_reducible refine gate_callee (f := 45) rfl ?_); refine goesL_ (some 15) rfl rfl Tryd.func45 (by kernel_rfl) rfl #[.string (rdOf ByteArray.empty l0 x10_1)] rfl gZ ?_; (with_reducible refine (impl_lineValid.calls k1 (rdOf ByteArray.empty l0 x10_1) false _ A6.out).mono ?_); rintro e w' ⟨rfl, ⟨nd, rfl⟩⟩; refine ⟨_, rfl, ?_⟩))
        go_ret
        exact ⟨sZ, dZ⟩
      ·rw [if_neg c5] at H
       exact absurd H (by simp)
     ·rw [if_neg c4] at H
      exact absurd H (by simp)
    ·rw [if_neg c3] at H
     have c3b0 : decide (x10_1 < (l0.length : Int)) = false := decide_eq_false c3
     clear c3
     obtain rfl := Option.some.inj H
     go_wp2
     go_ret
     exact ⟨sZ, dZ⟩
def impl_reportOrFull.f (k : Nat) (l0 : List ByteArray) : Option (List ByteArray × Int) := (impl_ValidReport.f k l0).bind fun t164 => (if t164 = true then (some (l0, 0)) else (some (([] : List ByteArray), 5)))
set_option maxHeartbeats 8000000 in
set_option maxRecDepth 100000 in
theorem impl_reportOrFull.calls (k : Nat) (P0_ : Nat → Prop) (u9000_ : Value) (l0 : List ByteArray) (r1 : List ByteArray) (r2 : Int) (w0 w : World) (hB : Below w0.heap.size w0 w) (ho0 : Kd.R Kd.string 9 w w0.heap.size P0_ u9000_ l0) (h : impl_reportOrFull.f k l0 = some (r1, r2)) :
  Calls Tryd.prog 23 #[u9000_] w fun e w' => ∃ v0_ : Value, e = .returned (.tuple #[v0_, .int .i64 r2]) ∧ Kd.R Kd.string 9 w' w0.heap.size (fun k_ => (P0_ k_ ∨ w.heap.size ≤ k_)) v0_ r1 ∧ Below w0.heap.size w0 w' ∧ Kept w w' (fun k_ => P0_ k_) := by
 have HO0 := Aside0.mk (show Kd.R Kd.string 9 w w0.heap.size (fun k_ => (P0_ k_ ∨ w.heap.size ≤ k_)) u9000_ l0 from Kd.R_mono ho0 (fun k_ hk => (.inl hk)))
 have HK := Aside0.mk (Kept.refl w (fun k_ => P0_ k_))
 have HW0 := Aside0.mk hB.size
 have HB := Aside0.mk hB
 clear hB
 have H : ((impl_ValidReport.f k l0).bind fun t164 => (if t164 = true then (some (l0, 0)) else (some (([] : List ByteArray), 5)))) = some (r1, r2) := h
 clear h
 replace H := Option.bind_eq_some_iff.mp H
 obtain ⟨t164, A20, H⟩ := H
 replace H : (if t164 = true then (some (l0, 0)) else (some (([] : List ByteArray), 5))) = some (r1, r2) := H
 have A2 := Aside0.mk A20
 clear A20
 by_cases c3 : t164 = true
 ·subst c3
  have H1 : (some (l0, 0)) = some (r1, r2) := by rw [if_pos rfl] at H; exact H
  clear H
  have H := H1
  clear H1
  simp only [Option.some.injEq, Prod.mk.injEq] at H
  obtain ⟨rfl, rfl⟩ := H
  obtain ⟨Ao4, co4, eo4⟩ := Kd.R_slice HO0.out
  subst eo4
  go_enter Tryd.func23, Tryd.ntmps23
  go_wp2_with (first | ((with_reducible refine gate_callee (f := 35) rfl ?_); refine goesL_ (some 5) rfl rfl Tryd.func35 (by kernel_rfl) rfl #[.slice Ao4 l0.length co4] rfl gZ ?_; (with_reducible refine (impl_ValidReport.calls k _ _ l0 true _ ?side1 ?side2 A2.out).mono ?_); (case side1 => exact Kd.cZ HO0.out); (case side2 => exact (Kd.R_reads' HO0.out).2.1); rintro e w' ⟨rfl, ⟨nd, rfl⟩⟩; refine ⟨_, rfl, ?_⟩))
  go_ret2
  exact ⟨_, eZ, Kd.rZ HO0.out, bZ, by repeat (first | (with_reducible first | exact HK.out | apply Kept.alloc | apply Kept.drewN | apply Kept.drew) | exact HK.out)⟩
 ·replace c3 := Bool.eq_false_iff.mpr c3
  subst c3
  have H1 : (some (([] : List ByteArray), 5)) = some (r1, r2) := by rw [if_neg (show ¬ (false = true) by decide)] at H; exact H
  clear H
  have H := H1
  clear H1
  simp only [Option.some.injEq, Prod.mk.injEq] at H
  obtain ⟨rfl, rfl⟩ := H
  obtain ⟨Ao5, co5, eo5⟩ := Kd.R_slice HO0.out
  subst eo5
  go_enter Tryd.func23, Tryd.ntmps23
  go_wp2_with (first | ((with_reducible refine gate_callee (f := 35) rfl ?_); refine goesL_ (some 5) rfl rfl Tryd.func35 (by kernel_rfl) rfl #[.slice Ao5 l0.length co5] rfl gZ ?_; (with_reducible refine (impl_ValidReport.calls k _ _ l0 false _ ?side1 ?side2 A2.out).mono ?_); (case side1 => exact Kd.cZ HO0.out); (case side2 => exact (Kd.R_reads' HO0.out).2.1); rintro e w' ⟨rfl, ⟨nd, rfl⟩⟩; refine ⟨_, rfl, ?_⟩))
  go_ret2
  exact ⟨_, eZ, by first | exact Kd.R_nil _ _ _ _ _ | exact Kd.N_nil _ _ _ _ _ | exact Kd.V_nil _ _ _ _ _ | exact Kd.Q_nil _ _ _ _ _ | exact Kd.S_nil _ _ _ _ _, bZ, by repeat (first | (with_reducible first | exact HK.out | apply Kept.alloc | apply Kept.drewN | apply Kept.drew) | exact HK.out)⟩
end Go.Proofs.YtadaegehdcngdaaDoor.XU
end

section
namespace Go.Proofs.YtadaegehdcngdaaDoor.Bld
open Go.RowKit
set_option linter.unusedVariables false
set_option linter.unusedSimpArgs false
theorem infoByte : (Tryd.prog.info? 5).map (fun i => (i.zero, i.size, i.bytes)) = some (some (.int .u8 0), 1, 1) := by kernel_rfl
theorem sizeBuilder : (Tryd.prog.info? 40).map (·.size) = some 2 := by kernel_rfl
theorem liesBuilder : liesAt Tryd.prog Tryd.prog.depth 40 (2 / Tryd.prog.cellsOf 40) 0 40 1 = true := by kernel_rfl
set_option maxHeartbeats 1000000 in
set_option maxRecDepth 100000 in
theorem copyCheck_used (b : Nat) (w : World) (h0 : w.cell? ⟨b, 0, none⟩ = some (.pointer (some ⟨b, 0, none⟩))) :
    Calls Tryd.prog 26 #[.pointer (some ⟨b, 0, none⟩)] w fun e w' => e = .returned (.tuple #[]) ∧ w' = w := by
  obtain ⟨j, hj, _⟩ := Option.map_eq_some_iff.1 sizeBuilder
  go_enter Tryd.func26, Tryd.ntmps26
  go_wp2
  rw [Lib.run_neq_ptr_same w _ Tryd.underlying37 hj]
  go_wp2
  go_end0
  exact ⟨rfl, rfl⟩
set_option maxHeartbeats 1000000 in
set_option maxRecDepth 100000 in
theorem copyCheck_fresh (b : Nat) (w : World) (h0 : w.cell? ⟨b, 0, none⟩ = some (.pointer none)) (hsh : w.shape? b = some (40, 2)) (hfz : w.frozen? ⟨b, 0, none⟩ = false) :
    Calls Tryd.prog 26 #[.pointer (some ⟨b, 0, none⟩)] w fun e w' => e = .returned (.tuple #[]) ∧ w' = w.setCell ⟨b, 0, none⟩ (.pointer (some ⟨b, 0, none⟩)) := by
  obtain ⟨j, hj, hjs⟩ := Option.map_eq_some_iff.1 sizeBuilder
  go_enter Tryd.func26, Tryd.ntmps26
  go_wp2
  rw [Lib.run_to_unsafe w ⟨b, 0, none⟩ Tryd.underlying37 Tryd.underlying65 hj (by rw [hjs]; decide) hsh (Nat.zero_lt_succ 1)]
  simp only [Result.andThen]
  rw [Oper.upon_value]
  go_wp2
  rw [run_callFunc_extern Tryd.func37 (by kernel_rfl) (by kernel_rfl) (by kernel_rfl) (e := Extern.AbiNoEscape.same) (by kernel_rfl)]
  rw [Lib.run_noEscape]
  simp only [Result.andThen]
  rw [Oper.upon_value]
  go_wp2
  rw [Lib.run_from_unsafe w ⟨b, 0, none⟩ Tryd.underlying65 Tryd.underlying37 hj hsh liesBuilder]
  simp only [Result.andThen]
  rw [Oper.upon_value]
  go_wp2
  go_end0
  exact ⟨rfl, rfl⟩
theorem copyCheck (B b : Nat) (bs : List Value) (w : World) (h : Lib.IsBuilder 40 5 B b bs w) :
    Calls Tryd.prog 26 #[.pointer (some ⟨b, 0, none⟩)] w fun e w' => e = .returned (.tuple #[]) ∧ (Lib.BuilderAt 40 5 B b (.pointer (some ⟨b, 0, none⟩)) bs w' ∧ Below B w w') := by
  rcases h with h | h
  · refine (copyCheck_fresh b w h.cell0 h.shape h.frozen0).mono ?_
    rintro e w' ⟨rfl, rfl⟩
    exact ⟨rfl, h.used _, (Below.refl B w).setCell (p := ⟨b, 0, none⟩) h.1 _⟩
  · refine (copyCheck_used b w h.cell0).mono ?_
    rintro e w' ⟨rfl, rfl⟩
    exact ⟨rfl, h, Below.refl B _⟩
set_option maxHeartbeats 2000000 in
set_option maxRecDepth 100000 in
theorem writeString (B b : Nat) (bs : List Value) (s : ByteArray) (w : World) (h : Lib.IsBuilder 40 5 B b bs w) (hlen : bs.length + s.size ≤ 140737488355328) (hBw : B ≤ w.heap.size) :
    Calls Tryd.prog 19 #[.pointer (some ⟨b, 0, none⟩), .string s] w fun e w' => e = .returned (.tuple #[.int .i64 s.size, .nilIface]) ∧ (Lib.BuilderAt 40 5 B b (.pointer (some ⟨b, 0, none⟩)) (bs ++ Lib.strCells s) w' ∧ Below B w w') := by
  obtain ⟨i0, hi, hz0, hz1, hz2⟩ := info_parts infoByte
  go_enter Tryd.func19, Tryd.ntmps19
  go_wp2_with (go_at_call 26; refine (copyCheck B b bs _ h).mono ?_)
  rintro e w1 ⟨rfl, h1, hb1⟩
  obtain ⟨hB, v, hbk, hown, hne⟩ := h1
  have c0 : w1.cell? ⟨b, 0, none⟩ = some (.pointer (some ⟨b, 0, none⟩)) := by rw [Lib.cell_of_heap hbk]; rfl
  have c1 : w1.cell? ⟨b, 1, none⟩ = some v := by rw [Lib.cell_of_heap hbk]; rfl
  go_wp2_with (at_builtin; refine Lib.wpList_append_own_string _ rfl _ _ 38 9 rfl B 5 i0 Tryd.underlying38 Tryd.underlying9 hi hz0 hz1 hz2 _ _ _ rfl hown s rfl ?c3 ?c4 ?c5 ?_)
  case c3 => unfold maxLen; omega
  case c4 => omega
  case c5 => have := hb1.size; omega
  intro v' w2 hown' hgrow _
  have hlt : b < w1.heap.size := by
    rcases Nat.lt_or_ge b w1.heap.size with h' | h'
    · exact h'
    · simp [Array.getElem?_eq_none h'] at hbk
  have hb2 : w2.heap[b]? = some (.cells #[.pointer (some ⟨b, 0, none⟩), v] 40 (0, 0)) := by
    rw [hgrow.block b hlt (fun e => hne e.symm)]
    exact hbk
  have d0 : w2.cell? ⟨b, 0, none⟩ = some (.pointer (some ⟨b, 0, none⟩)) := by rw [Lib.cell_of_heap hb2]; rfl
  have d1 : w2.cell? ⟨b, 1, none⟩ = some v := by rw [Lib.cell_of_heap hb2]; rfl
  have f1 : w2.frozen? ⟨b, 1, none⟩ = false := Lib.frozen_of_heap hb2 1
  obtain ⟨ao, n', cap, rfl⟩ : ∃ ao n' cap, v' = .slice ao n' cap := by
    rcases hown'.2 with ⟨hv, _⟩ | ⟨g, cap, cur, hv, _⟩
    · exact ⟨_, _, _, hv⟩
    · exact ⟨_, _, _, hv⟩
  go_wp2
  go_ret2
  refine ⟨rfl, ?_, ?_⟩
  · exact Lib.BuilderAt.put (T := 40) (e := 5) hB hb2 (bs' := bs ++ Lib.strCells s) (by simpa [Lib.strCells_length] using hown') (by decide)
  · exact (hb1.grown hgrow (by have := hb1.size; omega) (fun k hk => (hown.lt k hk).1)).setCell (p := ⟨b, 1, none⟩) hB _
end Go.Proofs.YtadaegehdcngdaaDoor.Bld
end

section
namespace Go.Proofs.YtadaegehdcngdaaDoor.XU
open Go.RowKit Go.Proofs.YtadaegehdcngdaaDoorW.PrintWords Go.Proofs.YtadaegehdcngdaaDoorW.PrintLast Go.Proofs.YtadaegehdcngdaaDoorW.PrintMore
attribute [local go_sem] run_eql_slice_nil binOp_string_gtr' binOp_string_leq' binOp_string_geq' max2_int min2_int max_two min_two max_three min_three max_four min_four   -- for this text's walks alone
set_option linter.unusedVariables false
set_option linter.unusedSimpArgs false
def impl_TableLines.big (ws : List Int) (i : Nat) (c : ByteArray) : Int := if rdOf 0 ws (i : Int) < (c.size : Int) then (c.size : Int) else rdOf 0 ws (i : Int)
def impl_TableLines.wrow (k : Nat) : List ByteArray → Nat → List Int → Option (Option (List Int))
 | [], _, ws => some (some ws)
 | c :: l, i, ws => (impl_bytesWithin.f k c 33 126).bind fun b => if b = true then impl_TableLines.wrow k l (i + 1) (ws.set i (impl_TableLines.big ws i c)) else some none
def impl_TableLines.wrows (k : Nat) : List (List ByteArray) → List Int → Option (Option (List Int))
 | [], ws => some (some ws)
 | r :: l, ws => if r.length ≤ 12 then (impl_TableLines.wrow k r 0 ws).bind fun o => match o with
   | none => some none
   | some ws' => impl_TableLines.wrows k l ws'
  else some none
def impl_TableLines.gap (ws : List Int) (i : Nat) (c : ByteArray) : Int := rdOf 0 ws (i : Int) - (c.size : Int) + 2
def impl_TableLines.cellsT (ws : List Int) : List ByteArray → Nat → ByteArray → Option ByteArray
 | [], _, a => some a
 | c :: l, i, a => if 0 ≤ impl_TableLines.gap ws i c ∧ impl_TableLines.gap ws i c ≤ 1099511627776 then (strings_Repeat.f (⟨#[32]⟩ : ByteArray) (impl_TableLines.gap ws i c)).bind fun sp => if c.size + sp.size ≤ 9223372036854775807 ∧ a.size + (c ++ sp).size ≤ 140737488355328 then impl_TableLines.cellsT ws l (i + 1) (a ++ (c ++ sp)) else none else none
def impl_TableLines.linesT (ws : List Int) : List (List ByteArray) → List ByteArray → Option (List ByteArray)
 | [], out => some out
 | r :: l, out => if r.length ≤ 12 then (impl_TableLines.cellsT ws r 0 ⟨#[]⟩).bind fun t => (strings_TrimRight.f t (⟨#[32]⟩ : ByteArray)).bind fun u => if out.length < 8796093022208 then impl_TableLines.linesT ws l (out ++ [u]) else none else none
def impl_TableLines.f (k : Nat) (l0 : List (List ByteArray)) : Option (List ByteArray × Int) := (impl_TableLines.wrows k l0 (List.replicate 12 0)).bind fun o => match o with
 | none => some ([], 2)
 | some ws => (impl_TableLines.linesT ws l0 []).bind fun ls => impl_reportOrFull.f k ls
theorem impl_TableLines.builder_below {T e B b : Nat} {bs : List Value} {w w' : World} (h : Lib.IsBuilder T e B b bs w) (hb : Below w.heap.size w w') : Lib.IsBuilder T e B b bs w' := by
 rcases h with ⟨h1, v, h2, h3, h4⟩ | ⟨h1, v, h2, h3, h4⟩
 ·exact .inl ⟨h1, v, blk_below h2 hb, pw_own_below h3 hb, h4⟩
 ·exact .inr ⟨h1, v, blk_below h2 hb, pw_own_below h3 hb, h4⟩
theorem impl_TableLines.builder0 (w1 : World) : Lib.IsBuilder 40 5 w1.heap.size w1.heap.size (Lib.byteCells (⟨#[]⟩ : ByteArray).data.toList) (w1.alloc (Obj.cells #[Value.pointer none, Value.slice none 0 0] 40)) :=
 .inl ⟨Nat.le_refl _, .slice none 0 0, by simpa using heap_alloc_new w1 _, by simp [Lib.byteCells]; exact World.ownsRow_nil _ _ _ _, by simp [Value.ownBlock]⟩
theorem impl_TableLines.app (a x : ByteArray) : Lib.byteCells (a ++ x).data.toList = Lib.byteCells a.data.toList ++ Lib.strCells x := by
 rw [Lib.strCells_eq, ← Lib.byteCells_append]
 first | (congr 1; done) | (congr 1; simp [ByteArray.data_append])
theorem impl_TableLines.row_at {w wr : World} {A0 : Option Addr} {l0 : List (List ByteArray)} (hr : Kd.C (Kd.slice 9 Kd.string) w A0 l0.length l0) (hb : Below w.heap.size w wr) (i : Nat) (hi : i < l0.length) :
  ∃ ad A1 c1, A0 = some ad ∧ wr.cell? (ad.add i) = some (.slice A1 l0[i].length c1) ∧ l0[i].length ≤ c1 ∧ Kd.string.C w A1 l0[i].length l0[i] := by
 obtain ⟨ad, c, e, _, hK, hc⟩ := Kd.C_get hr ([] : List ByteArray) (i : Int) (by omega) (by omega)
 rw [Int.toNat_natCast] at hc hK
 have e1 : l0.getD i [] = l0[i] := by simp [List.getD_eq_getElem?_getD, List.getElem?_eq_getElem hi]
 obtain ⟨A1, c1, rfl, hl, hC⟩ := hK
 have e2 : rdOf ([] : List ByteArray) l0 (i : Int) = l0[i] := e1
 have h0 := hc 0 _ rfl
 have h1 : w.cell? (ad.add i) = some (.slice A1 l0[i].length c1) := by
  have : i * (Kd.slice 9 Kd.string).sz + 0 = i := Nat.mul_one i
  rw [this] at h0
  first | (rw [e1] at h0; exact h0) | (rw [e2] at h0; exact h0)
 refine ⟨ad, A1, c1, e, (hb.cell (World.block_lt_of_cell? w _ h1)).trans h1, ?_, ?_⟩
 ·first | (rw [e1] at hl; exact hl) | (rw [e2] at hl; exact hl)
 ·first | (rw [e1] at hC; exact hC) | (rw [e2] at hC; exact hC)
theorem impl_TableLines.cell_at {w wr : World} {A1 : Option Addr} {r : List ByteArray} (hr : Kd.string.C w A1 r.length r) (hb : Below w.heap.size w wr) (j : Nat) (hj : j < r.length) : ∃ ad, A1 = some ad ∧ wr.cell? (ad.add j) = some (.string r[j]) := by
 obtain ⟨ad, e, h⟩ := Kd.at_string hr (j : Int) (by omega) (by omega)
 rw [Int.toNat_natCast] at h
 have e1 : rdOf ByteArray.empty r (j : Int) = r[j] := by unfold rdOf; simp [List.getD_eq_getElem?_getD, List.getElem?_eq_getElem hj]
 rw [e1] at h
 exact ⟨ad, e, (hb.cell (World.block_lt_of_cell? w _ h)).trans h⟩
theorem impl_TableLines.put {W : World} {base g cw : Nat} {ws : List Int} (hl : ws.length = 12) (h : Kd.R (Kd.int .i64) 3 W base (fun _ => True) (.slice (some ⟨g, 0, none⟩) 12 cw) ws) (j : Nat) (x : Int) : Kd.R (Kd.int .i64) 3 (W.setCell ⟨g, j, none⟩ (.int .i64 x)) base (fun _ => True) (.slice (some ⟨g, 0, none⟩) 12 cw) (ws.set j x) := by
 have h1 : Kd.R (Kd.int .i64) 3 W base (fun _ => True) (.slice (some ⟨g, 0, none⟩) ws.length cw) ws := by rw [hl]; exact h
 have h2 := (Kd.R_put h1 (j : Int) x).1
 rw [hl] at h2
 exact h2
theorem impl_TableLines.wr1 {i n : Nat} (h : i < n) (hn : n ≤ 9223372036854775807) : wrap64 ((i : Int) + 1) = (i : Int) + 1 := by unfold wrap64; omega
theorem impl_TableLines.meas {i n : Nat} (h : i < n) (hn : n ≤ 9223372036854775807) : n - (intOf (Value.int .i64 (wrap64 ((i : Int) + 1)))).toNat < n - (intOf (Value.int .i64 (i : Int))).toNat := by
 rw [impl_TableLines.wr1 h hn]
 show n - ((i : Int) + 1).toNat < n - ((i : Int)).toNat
 omega
theorem impl_TableLines.wr2 {x : Int} (h : 0 ≤ x + 2 ∧ x + 2 ≤ 1099511627776) : wrap64 x = x ∧ wrap64 (x + 2) = x + 2 := by unfold wrap64; omega
set_option maxHeartbeats 4000000 in
set_option maxRecDepth 100000 in
theorem impl_TableLines.calls (k : Nat) (A0 : Option Addr) (c0 : Nat) (l0 : List (List ByteArray)) (r1 : List ByteArray) (r2 : Int) (w : World) (hr0 : Kd.C (Kd.slice 9 Kd.string) w A0 l0.length l0) (hc0 : l0.length ≤ c0) (h : impl_TableLines.f k l0 = some (r1, r2)) :
  Calls Tryd.prog 7 #[.slice A0 l0.length c0] w fun e w' => ∃ v0_ : Value, e = .returned (.tuple #[v0_, .int .i64 r2]) ∧ Kd.R Kd.string 9 w' w.heap.size (fun _ => True) v0_ r1 ∧ Below w.heap.size w w' := by
 obtain ⟨o, ho, h⟩ := Option.bind_eq_some_iff.mp h
 have HM := Aside0.mk hr0.2.1
 have HR := Aside0.mk hr0
 have HC := Aside0.mk hc0
 have HO := Aside0.mk ho
 have HN := Aside0.mk h
 clear hr0 hc0 ho h
 go_enter Tryd.func7, Tryd.ntmps7
 go_wp2_with ((with_reducible refine gate_dst (N := 15) rfl ?_); go_loud (refine Kd.R_make (Kd.int .i64) w.heap.size 3 rfl (N := 15) rfl 35 _ _ rfl 12 rfl rfl Tryd.underlying35 (.int .i64 0) 8 info3 rfl (by decide) (by omega) (0 : Int) (ok := fun _ => True) (okp := fun _ => True) rfl (fun _ hk => hk) trivial (by omega) (by omega) (Below.refl _ _) (Nat.le_refl _) ?_; intro vw w1 hw hb hg_ hnew_; have HW := Aside0.mk hw; have HB := Aside0.mk hb; clear hw hb hg_ hnew_))
 obtain ⟨gw, cw, rfl⟩ : ∃ gw cw, vw = Value.slice (some ⟨gw, 0, none⟩) 12 cw := by
  obtain ⟨g, cap, e, _⟩ := Kd.R_form HW.out (by simp)
  exact ⟨g, cap, by simpa using e⟩
 have HW0 : Aside0 (Kd.R (Kd.int .i64) 3 w1 w.heap.size (fun _ => True) (.slice (some ⟨gw, 0, none⟩) 12 cw) (List.replicate 12 0)) := ⟨HW.out⟩
 clear HW
 go_loopw [18] (fun v wr => ∃ (i : Nat) (ws : List Int), i ≤ l0.length ∧ v = .int .i64 i ∧ ws.length = 12 ∧ Aside0 (Kd.R (Kd.int .i64) 3 wr w.heap.size (fun _ => True) (.slice (some ⟨gw, 0, none⟩) 12 cw) ws) ∧ Aside0 (impl_TableLines.wrows k (l0.drop i) ws = some o) ∧ Aside0 (Below w.heap.size w wr)) (fun v _ => l0.length - (intOf v).toNat)
 case atStart => exact ⟨0, _, Nat.zero_le _, rfl, by simp, HW0, HO, HB⟩
 case round =>
  as_aux_lemma =>
   obtain ⟨i, ws, hi, rfl, hwl, hW, hO, hB⟩ := hrel
   clear HW0 HB HO
   have hmax := HM.out
   by_cases hlt : i < l0.length
   ·obtain ⟨ad, A1, c1, e, hx, hl1, hC1⟩ := impl_TableLines.row_at HR.out hB.out i hlt
    subst e
    have ho := hO.out
    rw [List.drop_eq_getElem_cons hlt] at ho
    generalize l0[i] = r at hx hl1 hC1 ho
    unfold impl_TableLines.wrows at ho
    by_cases h12 : r.length ≤ 12
    ·rw [if_pos h12] at ho
     obtain ⟨o1, ho1, ho2⟩ := Option.bind_eq_some_iff.mp ho
     have HO1 := Aside0.mk ho1
     have HO2 := Aside0.mk ho2
     have HC1 := Aside0.mk hC1
     have H12 := Aside0.mk h12
     have HLT := Aside0.mk hlt
     have HWL := Aside0.mk hwl
     have c12 : decide ((12 : Int) < (r.length : Int)) = false := decide_eq_false (by omega)
     clear ho ho1 ho2 hC1
     go_wp2
     clear hx hl1 c12 hlt hwl h12
     go_loopw [27] (fun v wr2 => ∃ (j : Nat) (ws2 : List Int), j ≤ r.length ∧ v = .int .i64 j ∧ ws2.length = 12 ∧ Aside0 (Kd.R (Kd.int .i64) 3 wr2 w.heap.size (fun _ => True) (.slice (some ⟨gw, 0, none⟩) 12 cw) ws2) ∧ Aside0 (impl_TableLines.wrow k (r.drop j) j ws2 = some o1) ∧ Aside0 (Below w.heap.size w wr2)) (fun v _ => r.length - (intOf v).toNat)
     case atStart => exact ⟨0, ws, Nat.zero_le _, rfl, HWL.out, hW, HO1, hB⟩
     case round =>
      as_aux_lemma =>
       obtain ⟨j, ws2, hj, rfl, hwl2, hW2, hO1, hB2⟩ := hrel
       clear hW hB HO1
       have h12 := H12.out
       by_cases hlt2 : j < r.length
       ·as_aux_lemma =>
         obtain ⟨ad2, e2, hx2⟩ := impl_TableLines.cell_at HC1.out hB2.out j hlt2
         subst e2
         have ho := hO1.out
         rw [List.drop_eq_getElem_cons hlt2] at ho
         generalize r[j] = c at hx2 ho
         unfold impl_TableLines.wrow at ho
         obtain ⟨b, hb, ho⟩ := Option.bind_eq_some_iff.mp ho
         have HBW := Aside0.mk hb
         have HLT2 := Aside0.mk hlt2
         have HWL2 := Aside0.mk hwl2
         cases b with
         | false =>
          as_aux_lemma =>
           simp only [Bool.false_eq_true, if_false] at ho
           obtain rfl := Option.some.inj ho
           clear ho hb
           have hn := HO2.out
           simp only at hn
           obtain rfl := Option.some.inj hn
           have hn2 := HN.out
           simp only [Option.some.injEq, Prod.mk.injEq] at hn2
           obtain ⟨rfl, rfl⟩ := hn2
           clear hn
           go_wp2_with (go_at_call 18; go_loud ((with_reducible refine (impl_bytesWithin.calls k c 33 126 false _ HBW.out).mono ?_); rintro e w2 ⟨rfl, ⟨nd, rfl⟩⟩))
           go_ret2
           exact ⟨_, rfl, Kd.R_nil _ _ _ _ _, pw_below_drewN hB2.out _⟩
         | true =>
          as_aux_lemma =>
           simp only [if_true] at ho
           have HO3 := Aside0.mk ho
           clear ho hb
           have hcl : ∀ nd, (wr.drewN nd).cell? ⟨gw, j, none⟩ = some (.int .i64 (rdOf 0 ws2 (j : Int))) := fun nd => by
            have h1 := (Kd.R_celln (0 : Int) hW2.out (j : Int) (by omega) (by omega)).1
            exact h1
           have hfz : ∀ nd, (wr.drewN nd).frozen? ⟨gw, j, none⟩ = false := fun nd => by
            have h1 := (Kd.R_celln (0 : Int) hW2.out (j : Int) (by omega) (by omega)).2
            exact h1
           have hj12 : (j : Int) < 12 := by omega
           have hj12n : j < 12 := by omega
           have hgw : w.heap.size ≤ gw := Kd.R_base hW2.out gw (by simp [Value.ownBlock])
           have HGW := Aside0.mk hgw
           clear hwl2 hgw
           go_wp2_with (go_at_call 18; go_loud ((with_reducible refine (impl_bytesWithin.calls k c 33 126 true _ HBW.out).mono ?_); rintro e w2 ⟨rfl, ⟨nd, rfl⟩⟩; have hcl2 := hcl nd; have hfz2 := hfz nd; have HND := Aside0.mk (Kd.R_drewN hW2.out nd); have HBD := Aside0.mk (pw_below_drewN hB2.out nd); clear hcl hfz))
           go_roundw
           case rel => exact ⟨j + 1, _, by have := HLT2.out; omega, by go_num, by rw [List.length_set]; exact HWL2.out, ⟨impl_TableLines.put HWL2.out HND.out j _⟩, HO3, ⟨below_set HBD.out HGW.out⟩⟩
           case measure => have := HLT2.out; simp [intOf]; omega
       ·as_aux_lemma =>
         have hjl : j = r.length := by omega
         have ho := hO1.out
         rw [hjl, List.drop_length] at ho
         have ho1 : some ws2 = o1 := Option.some.inj ho
         have hn := HO2.out
         rw [← ho1] at hn
         have HO4 : Aside0 (impl_TableLines.wrows k (l0.drop (i + 1)) ws2 = some o) := ⟨hn⟩
         clear ho ho1 hn
         have c28 : ¬ ((j : Int) < (r.length : Int)) := by omega
         have hwi : wrap64 ((i : Int) + 1) = (i : Int) + 1 := impl_TableLines.wr1 HLT.out HM.out
         go_wp2
         go_roundw
         case rel => exact ⟨i + 1, ws2, by have := HLT.out; omega, by go_num, hwl2, hW2, HO4, hB2⟩
         case measure => exact impl_TableLines.meas HLT.out HM.out
    ·rw [if_neg h12] at ho
     obtain rfl := Option.some.inj ho
     have hn2 := HN.out
     simp only [Option.some.injEq, Prod.mk.injEq] at hn2
     obtain ⟨rfl, rfl⟩ := hn2
     have c12 : decide ((12 : Int) < (r.length : Int)) = true := decide_eq_true (by omega)
     clear ho
     go_wp2
     go_ret2
     exact ⟨_, rfl, Kd.R_nil _ _ _ _ _, hB.out⟩
   ·have hil : i = l0.length := by omega
    have ho := hO.out
    rw [hil, List.drop_length] at ho
    have ho1 : some ws = o := Option.some.inj ho
    have hn := HN.out
    rw [← ho1] at hn
    obtain ⟨ls, hls, hn⟩ := Option.bind_eq_some_iff.mp hn
    have HLS := Aside0.mk hls
    have HRF := Aside0.mk hn
    have HWL := Aside0.mk hwl
    clear ho ho1 hn hls hwl
    go_wp2
    go_loopw [49, 9] (fun v v9 wr3 => ∃ (i : Nat) (out : List ByteArray), i ≤ l0.length ∧ v = .int .i64 i ∧ Aside0 (Kd.R Kd.string 9 wr3 w.heap.size (fun _ => True) v9 out) ∧ Aside0 (Kd.R (Kd.int .i64) 3 wr3 w.heap.size (fun _ => True) (.slice (some ⟨gw, 0, none⟩) 12 cw) ws) ∧ Aside0 (impl_TableLines.linesT ws (l0.drop i) out = some ls) ∧ Aside0 (Below w.heap.size w wr3)) (fun v _ _ => l0.length - (intOf v).toNat)
    case atStart => exact ⟨0, [], Nat.zero_le _, rfl, ⟨Kd.R_nil _ _ _ _ _⟩, hW, HLS, hB⟩
    case round =>
     as_aux_lemma =>
      obtain ⟨i2, out, hi2, rfl, hOut, hW3, hO3, hB3⟩ := hrel
      clear hW hB HLS
      by_cases hlt : i2 < l0.length
      ·obtain ⟨ad, A1, c1, e, hx, hl1, hC1⟩ := impl_TableLines.row_at HR.out hB3.out i2 hlt
       subst e
       have ho := hO3.out
       rw [List.drop_eq_getElem_cons hlt] at ho
       generalize l0[i2] = r at hx hl1 hC1 ho
       unfold impl_TableLines.linesT at ho
       by_cases h12 : r.length ≤ 12
       rotate_left
       ·rw [if_neg h12] at ho; cases ho
       rw [if_pos h12] at ho
       obtain ⟨t, ht, ho⟩ := Option.bind_eq_some_iff.mp ho
       obtain ⟨u, hu, ho⟩ := Option.bind_eq_some_iff.mp ho
       by_cases hol : out.length < 8796093022208
       rotate_left
       ·rw [if_neg hol] at ho; cases ho
       rw [if_pos hol] at ho
       have HT := Aside0.mk ht
       have HU := Aside0.mk hu
       have HNX := Aside0.mk ho
       have HOL := Aside0.mk hol
       have HC1 := Aside0.mk hC1
       have H12 := Aside0.mk h12
       have HLT := Aside0.mk hlt
       clear ht hu ho hol hC1
       obtain ⟨wo, hwo⟩ : ∃ wo : World, wo = wr := ⟨_, rfl⟩
       subst hwo
       have HI0 := Aside0.mk (impl_TableLines.builder0 wo)
       go_wp2
       clear hx hl1 hlt h12
       go_loopw [55] (fun v wr4 => ∃ (j : Nat) (acc : ByteArray), j ≤ r.length ∧ v = .int .i64 j ∧ Aside0 (Lib.IsBuilder 40 5 wo.heap.size wo.heap.size (Lib.byteCells acc.data.toList) wr4) ∧ Aside0 (impl_TableLines.cellsT ws (r.drop j) j acc = some t) ∧ Aside0 (Below wo.heap.size wo wr4) ∧ Aside0 (wo.heap.size ≤ wr4.heap.size)) (fun v _ => r.length - (intOf v).toNat)
       case atStart => exact ⟨0, _, Nat.zero_le _, rfl, HI0, HT, ⟨(Below.refl _ _).alloc (Nat.le_refl _) _⟩, ⟨by simp⟩⟩
       case round =>
        as_aux_lemma =>
         obtain ⟨j, acc, hj, rfl, hI, hT, hBb, hSz⟩ := hrel
         clear HI0 HT
         have h12 := H12.out
         have HBA := Aside0.mk (hB3.out.trans (hBb.out.mono hB3.out.size))
         have HWA := Aside0.mk (Kd.R_below hW3.out hBb.out)
         by_cases hlt2 : j < r.length
         ·as_aux_lemma =>
           obtain ⟨ad2, e2, hx2⟩ := impl_TableLines.cell_at HC1.out HBA.out j hlt2
           subst e2
           have ho := hT.out
           rw [List.drop_eq_getElem_cons hlt2] at ho
           generalize r[j] = c at hx2 ho
           unfold impl_TableLines.cellsT impl_TableLines.gap at ho
           by_cases hgp : 0 ≤ rdOf 0 ws (j : Int) - (c.size : Int) + 2 ∧ rdOf 0 ws (j : Int) - (c.size : Int) + 2 ≤ 1099511627776
           rotate_left
           ·rw [if_neg hgp] at ho; cases ho
           rw [if_pos hgp] at ho
           obtain ⟨sp, hsp, ho⟩ := Option.bind_eq_some_iff.mp ho
           by_cases hsz : c.size + sp.size ≤ 9223372036854775807 ∧ acc.size + (c ++ sp).size ≤ 140737488355328
           rotate_left
           ·rw [if_neg hsz] at ho; cases ho
           rw [if_pos hsz] at ho
           have HSP := Aside0.mk hsp
           have HNX2 := Aside0.mk ho
           have HLT2 := Aside0.mk hlt2
           have HAX := Aside0.mk (show (Lib.byteCells acc.data.toList).length + (c ++ sp).size ≤ 140737488355328 by
            rw [Lib.byteCells_length]
            have : acc.data.toList.length = acc.size := by simp
            omega)
           have z1 := hsz.1
           have hw1 : wrap64 (rdOf 0 ws (j : Int) - (c.size : Int)) = rdOf 0 ws (j : Int) - (c.size : Int) := (impl_TableLines.wr2 hgp).1
           have hw2 : wrap64 (rdOf 0 ws (j : Int) - (c.size : Int) + 2) = rdOf 0 ws (j : Int) - (c.size : Int) + 2 := (impl_TableLines.wr2 hgp).2
           have hcl : wr.cell? ⟨gw, j, none⟩ = some (.int .i64 (rdOf 0 ws (j : Int))) := (Kd.R_celln (0 : Int) HWA.out (j : Int) (by omega) (by omega)).1
           have hj12 : (j : Int) < 12 := by omega
           have hj12n : j < 12 := by omega
           clear ho hsp hgp hsz
           go_wp2_with (first
            | (go_at_call 20; go_loud ((with_reducible refine (strings_Repeat.calls (⟨#[32]⟩ : ByteArray) _ sp _ HSP.out).mono ?_); rintro e w4 ⟨rfl, hb4⟩; have HI4 := Aside0.mk (impl_TableLines.builder_below hI.out hb4); have HB4 := Aside0.mk (hBb.out.trans (hb4.mono hSz.out)); have HS4 := Aside0.mk (Nat.le_trans hSz.out hb4.size); clear hb4))
            | (go_at_call 19; go_loud (refine (Bld.writeString wo.heap.size wo.heap.size _ (c ++ sp) _ HI4.out HAX.out HS4.out).mono ?_; rintro e w5 ⟨rfl, hI5, hb5⟩; have HI5 := Aside0.mk hI5; have HB5 := Aside0.mk hb5; clear hI5 hb5)))
           have HI6 : Aside0 (Lib.IsBuilder 40 5 wo.heap.size wo.heap.size (Lib.byteCells (acc ++ (c ++ sp)).data.toList) w5) := ⟨.inr (by rw [impl_TableLines.app]; exact HI5.out)⟩
           have HB6 := Aside0.mk (HB4.out.trans HB5.out)
           have HS6 := Aside0.mk (Nat.le_trans HS4.out HB5.out.size)
           go_roundw
           case rel => exact ⟨j + 1, _, by have := HLT2.out; omega, by go_num, HI6, HNX2, HB6, HS6⟩
           case measure => have := HLT2.out; simp [intOf]; omega
         ·as_aux_lemma =>
           have hjl : j = r.length := by omega
           have ho := hT.out
           rw [hjl, List.drop_length] at ho
           have ho1 : acc = t := Option.some.inj ho
           have HU2 : Aside0 (strings_TrimRight.f acc (⟨#[32]⟩ : ByteArray) = some u) := ⟨by rw [ho1]; exact HU.out⟩
           have HBK : Aside0 ((⟨acc.data.toList.toArray⟩ : ByteArray) = acc) := ⟨by apply ByteArray.ext; simp⟩
           have HOA := Aside0.mk (Kd.R_below hOut.out hBb.out)
           have c56 : ¬ ((j : Int) < (r.length : Int)) := by omega
           have hmax := HM.out
           have hwi : wrap64 ((i2 : Int) + 1) = (i2 : Int) + 1 := impl_TableLines.wr1 HLT.out HM.out
           clear ho ho1
           go_wp2_with (first
            | (go_at_call 22; go_loud ((with_reducible refine (Tryd.Builder_String_any wo.heap.size wo.heap.size _ _ hI.out hSz.out).mono ?_); rintro e w4 ⟨rfl, hb4⟩; rw [HBK.out]; have HB4 := Aside0.mk (hBb.out.trans hb4); have HS4 := Aside0.mk (Nat.le_trans hSz.out hb4.size); clear hb4))
            | (go_at_call 21; go_loud ((with_reducible refine (strings_TrimRight.calls acc (⟨#[32]⟩ : ByteArray) u _ HU2.out).mono ?_); rintro e w5 ⟨rfl, hb5⟩; have HB5 := Aside0.mk (HB4.out.trans (hb5.mono HS4.out)); clear hb5; have HW5 := Aside0.mk (Kd.R_below hW3.out HB5.out); have HO5 := Aside0.mk (Kd.R_below hOut.out HB5.out); have HA5 := Aside0.mk (hB3.out.trans (HB5.out.mono hB3.out.size))))
            | ((with_reducible refine gate_builtin (b := .append) (xs := #[.tmp 73, .tmp 76]) rfl ?_); at_builtin; go_loud (refine Kd.R_append Kd.string (w0 := w) w.heap.size rfl (.tmp 73) (.tmp 76) 24 9 (.string ⟨#[]⟩) 16 rfl Tryd.underlying24 info9 rfl (by decide) (by omega) u9 out u [.string u] (fun _ => True) (fun _ => False) rfl rfl ?aP (fun _ hk => hk.elim) (fun _ _ => trivial) HO5.out HA5.out HA5.out.size ?aL ?_; (case aP => exact rfl); (case aL => have := HOL.out; omega); intro v7 w7 ho7 hb7 hg7 hat7; have HO7 := Aside0.mk ho7; have HB7 := Aside0.mk hb7; have HW7 := Aside0.mk (Kd.R_over' HW5.out (Kd.R_typed HO5.out) (by decide) hg7); clear ho7 hb7 hg7 hat7)))
           go_roundw
           case rel => exact ⟨i2 + 1, _, by have := HLT.out; omega, by go_num, HO7, HW7, HNX, HB7⟩
           case measure => exact impl_TableLines.meas HLT.out HM.out
      ·have hil2 : i2 = l0.length := by omega
       have ho := hO3.out
       rw [hil2, List.drop_length] at ho
       have ho1 : out = ls := Option.some.inj ho
       have HR2 : Aside0 (impl_reportOrFull.f k out = some (r1, r2)) := ⟨by rw [ho1]; exact HRF.out⟩
       have c50 : ¬ ((i2 : Int) < (l0.length : Int)) := by omega
       clear ho ho1
       go_wp2_with (go_at_call 23; go_loud ((with_reducible refine (impl_reportOrFull.calls k (fun _ => True) _ out r1 r2 w _ hB3.out hOut.out HR2.out).mono ?_); rintro e w4 ⟨v4, rfl, hr4, hb4, -⟩; have HR4 := Aside0.mk hr4; have HB4 := Aside0.mk hb4; clear hr4 hb4))
       go_ret2
       exact ⟨_, rfl, Kd.R_mono HR4.out (fun _ _ => trivial), HB4.out⟩
end Go.Proofs.YtadaegehdcngdaaDoor.XU
end

section
namespace Go.Proofs.YtadaegehdcngdaaDoor.XU
open Go.RowKit Go.Proofs.YtadaegehdcngdaaDoorW.PrintWords Go.Proofs.YtadaegehdcngdaaDoorW.PrintLast Go.Proofs.YtadaegehdcngdaaDoorW.PrintMore
attribute [local go_sem] run_eql_slice_nil binOp_string_gtr' binOp_string_leq' binOp_string_geq' max2_int min2_int max_two min_two max_three min_three max_four min_four   -- for this text's walks alone
set_option linter.unusedVariables false
set_option linter.unusedSimpArgs false
def laws_eqStringS.l0 : Nat → List ByteArray → List ByteArray → Int → Option (Bool)
 | 0, _, _, _ => none
 | k + 1, x0, x1, x5 => if x5 < (x0.length : Int) then (if 0 ≤ x5 then (if x5 < (x1.length : Int) then (if (rdOf ByteArray.empty x0 x5).toList = (rdOf ByteArray.empty x1 x5).toList then (laws_eqStringS.l0 k x0 x1 (wrap64 (x5 + 1))) else (some false)) else (none)) else (none)) else (some true)
def laws_eqStringS.f (k : Nat) (l0 : List ByteArray) (l1 : List ByteArray) : Option (Bool) := if (l0.length : Int) = (l1.length : Int) then (laws_eqStringS.l0 k l0 l1 0) else (some false)
set_option maxHeartbeats 8000000 in
set_option maxRecDepth 100000 in
theorem laws_eqStringS.calls (k : Nat) (A0 : Option Addr) (c0 : Nat) (l0 : List ByteArray) (A1 : Option Addr) (c1 : Nat) (l1 : List ByteArray) (r : Bool) (w : World) (hr0 : Kd.C Kd.string w A0 l0.length l0) (hc0 : l0.length ≤ c0) (hr1 : Kd.C Kd.string w A1 l1.length l1) (hc1 : l1.length ≤ c1) (h : laws_eqStringS.f k l0 l1 = some r) :
  Calls Tryd.prog 8 #[.slice A0 l0.length c0, .slice A1 l1.length c1] w fun e w' => e = .returned (.bool r) ∧ Drawn0 w w' := by
 have HR0 := Aside0.mk hr0
 have HC0 := Aside0.mk hc0
 clear hr0 hc0
 have HR1 := Aside0.mk hr1
 have HC1 := Aside0.mk hc1
 clear hr1 hc1
 have H : (if (l0.length : Int) = (l1.length : Int) then (laws_eqStringS.l0 k l0 l1 0) else (some false)) = some r := h
 clear h
 by_cases c3 : (l0.length : Int) = (l1.length : Int)
 ·rw [if_pos c3] at H
  have c3b0 : ((l0.length : Int) == (l1.length : Int)) = true := beq_iff_eq.mpr c3
  have c3b1 : ((l0.length : Int) != (l1.length : Int)) = false := bne_eq_false_iff_eq.mpr c3
  have c3b2 : (l0.length == l1.length) = true := by first | simpa using c3 | (simp at c3 ⊢; omega)
  clear c3
  have H' := Aside0.mk H
  clear H
  go_enter Tryd.func8, Tryd.ntmps8
  go_wp2
  repeat (go_quiet (fail); try go_wp2)
  go_loopg [5] k (fun kq v5 w' => ∃ (x5_1 : Int), v5 = .int .i64 x5_1 ∧ Aside0 (laws_eqStringS.l0 kq l0 l1 x5_1 = some r) ∧ Aside0 (kq ≤ k) ∧ Drawn0 w w')
  case atStart => exact ⟨(0), sZ, H', ⟨Nat.le_refl _⟩, dZ⟩
  case round =>
   clear H'; (try clear c1); (try clear p2); (try clear c3); (try clear c3b0); (try clear c3b1); (try clear c3b2)
   obtain ⟨x5_1, rfl, HA, HK1, ⟨m1, rfl⟩⟩ := hrel
   cases gk with
   | zero => exact absurd HA.out (by simp [laws_eqStringS.l0])
   | succ k1 =>
    have H := HA.out
    clear HA
    simp only [laws_eqStringS.l0] at H
    by_cases c4 : x5_1 < (l0.length : Int)
    ·rw [if_pos c4] at H
     have c4b0 : decide (x5_1 < (l0.length : Int)) = true := decide_eq_true c4
     clear c4
     by_cases c5 : 0 ≤ x5_1
     ·rw [if_pos c5] at H
      have c5b0 : decide (0 ≤ x5_1) = true := decide_eq_true c5
      clear c5
      by_cases c6 : x5_1 < (l1.length : Int)
      ·rw [if_pos c6] at H
       have c6b0 : decide (x5_1 < (l1.length : Int)) = true := decide_eq_true c6
       clear c6
       by_cases c7 : (rdOf ByteArray.empty l0 x5_1).toList = (rdOf ByteArray.empty l1 x5_1).toList
       ·rw [if_pos c7] at H
        have c7b0 : ((rdOf ByteArray.empty l0 x5_1).toList == (rdOf ByteArray.empty l1 x5_1).toList) = true := beq_iff_eq.mpr c7
        have c7b1 : ((rdOf ByteArray.empty l0 x5_1).toList != (rdOf ByteArray.empty l1 x5_1).toList) = false := bne_eq_false_iff_eq.mpr c7
        clear c7
        have H' := Aside0.mk H
        clear H
        have p165 : 0 ≤ (x5_1 : Int) := oZ
        have q165 : x5_1 < (l0.length : Int) := oZ
        obtain ⟨ad165, e165, hx165_0⟩ := Kd.at_string HR0.out x5_1 p165 q165
        cases e165
        replace p165 := eq_true p165
        replace q165 := eq_true q165
        have p166 : 0 ≤ (x5_1 : Int) := oZ
        have q166 : x5_1 < (l1.length : Int) := oZ
        obtain ⟨ad166, e166, hx166_0⟩ := Kd.at_string HR1.out x5_1 p166 q166
        cases e166
        replace p166 := eq_true p166
        replace q166 := eq_true q166
        go_wp2
        repeat (go_quiet (fail); try go_wp2)
        go_roundg k1
        case measure => have := HK1.out; omega
        case rel => exact ⟨(wrap64 (x5_1 + 1)), sZ, H', ⟨by have := HK1.out; omega⟩, dZ⟩
       ·rw [if_neg c7] at H
        have c7b0 : ((rdOf ByteArray.empty l0 x5_1).toList == (rdOf ByteArray.empty l1 x5_1).toList) = false := beq_eq_false_iff_ne.mpr c7
        have c7b1 : ((rdOf ByteArray.empty l0 x5_1).toList != (rdOf ByteArray.empty l1 x5_1).toList) = true := bne_iff_ne.mpr c7
        obtain rfl := Option.some.inj H
        have p165 : 0 ≤ (x5_1 : Int) := oZ
        have q165 : x5_1 < (l0.length : Int) := oZ
        obtain ⟨ad165, e165, hx165_0⟩ := Kd.at_string HR0.out x5_1 p165 q165
        cases e165
        replace p165 := eq_true p165
        replace q165 := eq_true q165
        have p166 : 0 ≤ (x5_1 : Int) := oZ
        have q166 : x5_1 < (l1.length : Int) := oZ
        obtain ⟨ad166, e166, hx166_0⟩ := Kd.at_string HR1.out x5_1 p166 q166
        cases e166
        replace p166 := eq_true p166
        replace q166 := eq_true q166
        go_wp2
        repeat (go_quiet (fail); try go_wp2)
        go_ret
        exact ⟨sZ, dZ⟩
      ·rw [if_neg c6] at H
       exact absurd H (by simp)
     ·rw [if_neg c5] at H
      exact absurd H (by simp)
    ·rw [if_neg c4] at H
     have c4b0 : decide (x5_1 < (l0.length : Int)) = false := decide_eq_false c4
     clear c4
     obtain rfl := Option.some.inj H
     go_wp2
     repeat (go_quiet (fail); try go_wp2)
     go_ret
     exact ⟨sZ, dZ⟩
 ·rw [if_neg c3] at H
  have c3b0 : ((l0.length : Int) == (l1.length : Int)) = false := beq_eq_false_iff_ne.mpr c3
  have c3b1 : ((l0.length : Int) != (l1.length : Int)) = true := bne_iff_ne.mpr c3
  have c3b2 : (l0.length == l1.length) = false := by first | simpa using c3 | (simp at c3 ⊢; omega)
  obtain rfl := Option.some.inj H
  go_enter Tryd.func8, Tryd.ntmps8
  go_wp2
  repeat (go_quiet (fail); try go_wp2)
  go_ret
  exact ⟨sZ, dZ⟩
end Go.Proofs.YtadaegehdcngdaaDoor.XU
end

section
namespace Go.Proofs.YtadaegehdcngdaaDoor.XU
open Go.RowKit Go.Proofs.YtadaegehdcngdaaDoorW.PrintWords Go.Proofs.YtadaegehdcngdaaDoorW.PrintLast Go.Proofs.YtadaegehdcngdaaDoorW.PrintMore
attribute [local go_sem] run_eql_slice_nil binOp_string_gtr' binOp_string_leq' binOp_string_geq' max2_int min2_int max_two min_two max_three min_three max_four min_four   -- for this text's walks alone
set_option linter.unusedVariables false
set_option linter.unusedSimpArgs false
def laws_eqStringSS.l0 : Nat → List (List ByteArray) → List (List ByteArray) → Int → Option (Bool)
 | 0, _, _, _ => none
 | k + 1, x0, x1, x5 => if x5 < (x0.length : Int) then (if 0 ≤ x5 then (if x5 < (x1.length : Int) then ((laws_eqStringS.f k (rd_L1 x0 x5) (rd_L1 x1 x5)).bind fun t169 => (if t169 = true then (laws_eqStringSS.l0 k x0 x1 (wrap64 (x5 + 1))) else (some false))) else (none)) else (none)) else (some true)
def laws_eqStringSS.f (k : Nat) (l0 : List (List ByteArray)) (l1 : List (List ByteArray)) : Option (Bool) := if (l0.length : Int) = (l1.length : Int) then (laws_eqStringSS.l0 k l0 l1 0) else (some false)
set_option maxHeartbeats 8000000 in
set_option maxRecDepth 100000 in
theorem laws_eqStringSS.calls (k : Nat) (A0 : Option Addr) (c0 : Nat) (l0 : List (List ByteArray)) (A1 : Option Addr) (c1 : Nat) (l1 : List (List ByteArray)) (r : Bool) (w : World) (hr0 : Kd.C (Kd.slice 9 Kd.string) w A0 l0.length l0) (hc0 : l0.length ≤ c0) (hr1 : Kd.C (Kd.slice 9 Kd.string) w A1 l1.length l1) (hc1 : l1.length ≤ c1) (h : laws_eqStringSS.f k l0 l1 = some r) :
  Calls Tryd.prog 9 #[.slice A0 l0.length c0, .slice A1 l1.length c1] w fun e w' => e = .returned (.bool r) ∧ Drawn0 w w' := by
 have HR0 := Aside0.mk hr0
 have HC0 := Aside0.mk hc0
 clear hr0 hc0
 have HR1 := Aside0.mk hr1
 have HC1 := Aside0.mk hc1
 clear hr1 hc1
 have H : (if (l0.length : Int) = (l1.length : Int) then (laws_eqStringSS.l0 k l0 l1 0) else (some false)) = some r := h
 clear h
 by_cases c3 : (l0.length : Int) = (l1.length : Int)
 ·rw [if_pos c3] at H
  have c3b0 : ((l0.length : Int) == (l1.length : Int)) = true := beq_iff_eq.mpr c3
  have c3b1 : ((l0.length : Int) != (l1.length : Int)) = false := bne_eq_false_iff_eq.mpr c3
  have c3b2 : (l0.length == l1.length) = true := by first | simpa using c3 | (simp at c3 ⊢; omega)
  clear c3
  have H' := Aside0.mk H
  clear H
  go_enter Tryd.func9, Tryd.ntmps9
  go_wp2
  repeat (go_quiet (fail); try go_wp2)
  go_loopg [5] k (fun kq v5 w' => ∃ (x5_1 : Int), v5 = .int .i64 x5_1 ∧ Aside0 (laws_eqStringSS.l0 kq l0 l1 x5_1 = some r) ∧ Aside0 (kq ≤ k) ∧ Drawn0 w w')
  case atStart => exact ⟨(0), sZ, H', ⟨Nat.le_refl _⟩, dZ⟩
  case round =>
   clear H'; (try clear c1); (try clear p2); (try clear c3); (try clear c3b0); (try clear c3b1); (try clear c3b2)
   obtain ⟨x5_1, rfl, HA, HK1, ⟨m1, rfl⟩⟩ := hrel
   cases gk with
   | zero => exact absurd HA.out (by simp [laws_eqStringSS.l0])
   | succ k1 =>
    have H := HA.out
    clear HA
    simp only [laws_eqStringSS.l0] at H
    by_cases c4 : x5_1 < (l0.length : Int)
    ·rw [if_pos c4] at H
     have c4b0 : decide (x5_1 < (l0.length : Int)) = true := decide_eq_true c4
     clear c4
     by_cases c5 : 0 ≤ x5_1
     ·rw [if_pos c5] at H
      have c5b0 : decide (0 ≤ x5_1) = true := decide_eq_true c5
      clear c5
      by_cases c6 : x5_1 < (l1.length : Int)
      ·rw [if_pos c6] at H
       have c6b0 : decide (x5_1 < (l1.length : Int)) = true := decide_eq_true c6
       clear c6
       replace H := Option.bind_eq_some_iff.mp H
       obtain ⟨t169, A70, H⟩ := H
       replace H : (if t169 = true then (laws_eqStringSS.l0 k1 l0 l1 (wrap64 (x5_1 + 1))) else (some false)) = some r := H
       have A7 := Aside0.mk A70
       clear A70
       by_cases c8 : t169 = true
       ·subst c8
        have H1 : (laws_eqStringSS.l0 k1 l0 l1 (wrap64 (x5_1 + 1))) = some r := by rw [if_pos rfl] at H; exact H
        clear H
        have H := H1
        clear H1
        have H' := Aside0.mk H
        clear H
        have p167 : 0 ≤ (x5_1 : Int) := oZ
        have q167 : x5_1 < (l0.length : Int) := oZ
        obtain ⟨ad167, A167_0, c167_0, e167, hx167_0, hl167_0, hi167_0⟩ := at_L1 HR0.out x5_1 p167 q167
        cases e167
        have HR167_0 := Aside0.mk hi167_0
        have HC167_0 := Aside0.mk hl167_0
        clear hi167_0 hl167_0
        replace p167 := eq_true p167
        replace q167 := eq_true q167
        have p168 : 0 ≤ (x5_1 : Int) := oZ
        have q168 : x5_1 < (l1.length : Int) := oZ
        obtain ⟨ad168, A168_0, c168_0, e168, hx168_0, hl168_0, hi168_0⟩ := at_L1 HR1.out x5_1 p168 q168
        cases e168
        have HR168_0 := Aside0.mk hi168_0
        have HC168_0 := Aside0.mk hl168_0
        clear hi168_0 hl168_0
        replace p168 := eq_true p168
        replace q168 := eq_true q168
        go_wp2_with (first | (go_at_call 8; (with_reducible refine (laws_eqStringS.calls k1 _ _ (rd_L1 l0 x5_1) _ _ (rd_L1 l1 x5_1) true _ ?side1 ?side2 ?side3 ?side4 A7.out).mono ?_); (case side1 => repeat (first | exact HR167_0.out | (with_reducible refine Kd.C_alloc ?_ _) | (with_reducible refine Kd.C_drewN ?_ _) | (with_reducible refine Kd.C_drew ?_))); (case side2 => exact HC167_0.out); (case side3 => repeat (first | exact HR168_0.out | (with_reducible refine Kd.C_alloc ?_ _) | (with_reducible refine Kd.C_drewN ?_ _) | (with_reducible refine Kd.C_drew ?_))); (case side4 => exact HC168_0.out); rintro e w' ⟨rfl, ⟨nd, rfl⟩⟩; (try first | exact ⟨rfl, _, World.drewN_drewN _ _ _⟩ | exact ⟨rfl, _, Eq.trans (World.drewN_drewN _ _ _) (congrArg (World.drewN _) (Nat.add_assoc _ _ _))⟩)))
        repeat (go_quiet (first | (go_at_call 8; (with_reducible refine (laws_eqStringS.calls k1 _ _ (rd_L1 l0 x5_1) _ _ (rd_L1 l1 x5_1) true _ ?side1 ?side2 ?side3 ?side4 A7.out).mono ?_); (case side1 => repeat (first | exact HR167_0.out | (with_reducible refine Kd.C_alloc ?_ _) | (with_reducible refine Kd.C_drewN ?_ _) | (with_reducible refine Kd.C_drew ?_))); (case side2 => exact HC167_0.out); (case side3 => repeat (first | exact HR168_0.out | (with_reducible refine Kd.C_alloc ?_ _) | (with_reducible refine Kd.C_drewN ?_ _) | (with_reducible refine Kd.C_drew ?_))); (case side4 => exact HC168_0.out); rintro e w' ⟨rfl, ⟨nd, rfl⟩⟩; (try first | exact ⟨rfl, _, World.drewN_drewN _ _ _⟩ | exact ⟨rfl, _, Eq.trans (World.drewN_drewN _ _ _) (congrArg (World.drewN _) (Nat.add_assoc _ _ _))⟩))); try go_wp2_with (first | (go_at_call 8; (with_reducible refine (laws_eqStringS.calls k1 _ _ (rd_L1 l0 x5_1) _ _ (rd_L1 l1 x5_1) true _ ?side1 ?side2 ?side3 ?side4 A7.out).mono ?_); (case side1 => repeat (first | exact HR167_0.out | (with_reducible refine Kd.C_alloc ?_ _) | (with_reducible refine Kd.C_drewN ?_ _) | (with_reducible refine Kd.C_drew ?_))); (case side2 => exact HC167_0.out); (case side3 => repeat (first | exact HR168_0.out | (with_reducible refine Kd.C_alloc ?_ _) | (with_reducible refine Kd.C_drewN ?_ _) | (with_reducible refine Kd.C_drew ?_))); (case side4 => exact HC168_0.out); rintro e w' ⟨rfl, ⟨nd, rfl⟩⟩; (try first | exact ⟨rfl, _, World.drewN_drewN _ _ _⟩ | exact ⟨rfl, _, Eq.trans (World.drewN_drewN _ _ _) (congrArg (World.drewN _) (Nat.add_assoc _ _ _))⟩))))
        go_roundg k1
        case measure => have := HK1.out; omega
        case rel => exact ⟨(wrap64 (x5_1 + 1)), sZ, H', ⟨by have := HK1.out; omega⟩, dZ⟩
       ·replace c8 := Bool.eq_false_iff.mpr c8
        subst c8
        have H1 : (some false) = some r := by rw [if_neg (show ¬ (false = true) by decide)] at H; exact H
        clear H
        have H := H1
        clear H1
        obtain rfl := Option.some.inj H
        have p167 : 0 ≤ (x5_1 : Int) := oZ
        have q167 : x5_1 < (l0.length : Int) := oZ
        obtain ⟨ad167, A167_0, c167_0, e167, hx167_0, hl167_0, hi167_0⟩ := at_L1 HR0.out x5_1 p167 q167
        cases e167
        have HR167_0 := Aside0.mk hi167_0
        have HC167_0 := Aside0.mk hl167_0
        clear hi167_0 hl167_0
        replace p167 := eq_true p167
        replace q167 := eq_true q167
        have p168 : 0 ≤ (x5_1 : Int) := oZ
        have q168 : x5_1 < (l1.length : Int) := oZ
        obtain ⟨ad168, A168_0, c168_0, e168, hx168_0, hl168_0, hi168_0⟩ := at_L1 HR1.out x5_1 p168 q168
        cases e168
        have HR168_0 := Aside0.mk hi168_0
        have HC168_0 := Aside0.mk hl168_0
        clear hi168_0 hl168_0
        replace p168 := eq_true p168
        replace q168 := eq_true q168
        go_wp2_with (first | (go_at_call 8; (with_reducible refine (laws_eqStringS.calls k1 _ _ (rd_L1 l0 x5_1) _ _ (rd_L1 l1 x5_1) false _ ?side1 ?side2 ?side3 ?side4 A7.out).mono ?_); (case side1 => repeat (first | exact HR167_0.out | (with_reducible refine Kd.C_alloc ?_ _) | (with_reducible refine Kd.C_drewN ?_ _) | (with_reducible refine Kd.C_drew ?_))); (case side2 => exact HC167_0.out); (case side3 => repeat (first | exact HR168_0.out | (with_reducible refine Kd.C_alloc ?_ _) | (with_reducible refine Kd.C_drewN ?_ _) | (with_reducible refine Kd.C_drew ?_))); (case side4 => exact HC168_0.out); rintro e w' ⟨rfl, ⟨nd, rfl⟩⟩; (try first | exact ⟨rfl, _, World.drewN_drewN _ _ _⟩ | exact ⟨rfl, _, Eq.trans (World.drewN_drewN _ _ _) (congrArg (World.drewN _) (Nat.add_assoc _ _ _))⟩)))
        repeat (go_quiet (first | (go_at_call 8; (with_reducible refine (laws_eqStringS.calls k1 _ _ (rd_L1 l0 x5_1) _ _ (rd_L1 l1 x5_1) false _ ?side1 ?side2 ?side3 ?side4 A7.out).mono ?_); (case side1 => repeat (first | exact HR167_0.out | (with_reducible refine Kd.C_alloc ?_ _) | (with_reducible refine Kd.C_drewN ?_ _) | (with_reducible refine Kd.C_drew ?_))); (case side2 => exact HC167_0.out); (case side3 => repeat (first | exact HR168_0.out | (with_reducible refine Kd.C_alloc ?_ _) | (with_reducible refine Kd.C_drewN ?_ _) | (with_reducible refine Kd.C_drew ?_))); (case side4 => exact HC168_0.out); rintro e w' ⟨rfl, ⟨nd, rfl⟩⟩; (try first | exact ⟨rfl, _, World.drewN_drewN _ _ _⟩ | exact ⟨rfl, _, Eq.trans (World.drewN_drewN _ _ _) (congrArg (World.drewN _) (Nat.add_assoc _ _ _))⟩))); try go_wp2_with (first | (go_at_call 8; (with_reducible refine (laws_eqStringS.calls k1 _ _ (rd_L1 l0 x5_1) _ _ (rd_L1 l1 x5_1) false _ ?side1 ?side2 ?side3 ?side4 A7.out).mono ?_); (case side1 => repeat (first | exact HR167_0.out | (with_reducible refine Kd.C_alloc ?_ _) | (with_reducible refine Kd.C_drewN ?_ _) | (with_reducible refine Kd.C_drew ?_))); (case side2 => exact HC167_0.out); (case side3 => repeat (first | exact HR168_0.out | (with_reducible refine Kd.C_alloc ?_ _) | (with_reducible refine Kd.C_drewN ?_ _) | (with_reducible refine Kd.C_drew ?_))); (case side4 => exact HC168_0.out); rintro e w' ⟨rfl, ⟨nd, rfl⟩⟩; (try first | exact ⟨rfl, _, World.drewN_drewN _ _ _⟩ | exact ⟨rfl, _, Eq.trans (World.drewN_drewN _ _ _) (congrArg (World.drewN _) (Nat.add_assoc _ _ _))⟩))))
        go_ret
        exact ⟨sZ, dZ⟩
      ·rw [if_neg c6] at H
       exact absurd H (by simp)
     ·rw [if_neg c5] at H
      exact absurd H (by simp)
    ·rw [if_neg c4] at H
     have c4b0 : decide (x5_1 < (l0.length : Int)) = false := decide_eq_false c4
     clear c4
     obtain rfl := Option.some.inj H
     go_wp2
     repeat (go_quiet (fail); try go_wp2)
     go_ret
     exact ⟨sZ, dZ⟩
 ·rw [if_neg c3] at H
  have c3b0 : ((l0.length : Int) == (l1.length : Int)) = false := beq_eq_false_iff_ne.mpr c3
  have c3b1 : ((l0.length : Int) != (l1.length : Int)) = true := bne_iff_ne.mpr c3
  have c3b2 : (l0.length == l1.length) = false := by first | simpa using c3 | (simp at c3 ⊢; omega)
  obtain rfl := Option.some.inj H
  go_enter Tryd.func9, Tryd.ntmps9
  go_wp2
  repeat (go_quiet (fail); try go_wp2)
  go_ret
  exact ⟨sZ, dZ⟩
end Go.Proofs.YtadaegehdcngdaaDoor.XU
end

section
namespace Go.Proofs.YtadaegehdcngdaaDoor.XU
open Go.RowKit Go.Proofs.YtadaegehdcngdaaDoorW.PrintWords Go.Proofs.YtadaegehdcngdaaDoorW.PrintLast Go.Proofs.YtadaegehdcngdaaDoorW.PrintMore
attribute [local go_sem] run_eql_slice_nil binOp_string_gtr' binOp_string_leq' binOp_string_geq' max2_int min2_int max_two min_two max_three min_three max_four min_four   -- for this text's walks alone
set_option linter.unusedVariables false
set_option linter.unusedSimpArgs false
def laws_markText.l0 : Nat → Int → ByteArray → Option (ByteArray)
 | 0, _, _ => none
 | k + 1, x0, x3 => if x0 > 0 then ((some (([(wrap64 (48 + (Int.tmod x0 10))) % 256] : List Int) : List Int)).bind fun y170 => (if (strOfNums y170).size + x3.size ≤ 9223372036854775807 then (laws_markText.l0 k (wrap64 (Int.tdiv x0 10)) ((strOfNums y170) ++ x3)) else (none))) else (if 1 + x3.size ≤ 9223372036854775807 then (some ((⟨#[109]⟩ : ByteArray) ++ x3)) else (none))
def laws_markText.f (k : Nat) (a0 : Int) : Option (ByteArray) := if a0 ≤ 0 then (some (⟨#[109, 48]⟩ : ByteArray)) else (laws_markText.l0 k a0 (⟨#[]⟩ : ByteArray))
set_option maxHeartbeats 8000000 in
set_option maxRecDepth 100000 in
theorem laws_markText.calls (k : Nat) (a0 : Int) (r : ByteArray) (w : World) (h : laws_markText.f k a0 = some r) :
  Calls Tryd.prog 24 #[.int .i64 a0] w fun e w' => e = .returned (.string r) ∧ Below w.heap.size w w' := by
 have HB := Aside0.mk (Below.refl w.heap.size w)
 have H : (if a0 ≤ 0 then (some (⟨#[109, 48]⟩ : ByteArray)) else (laws_markText.l0 k a0 (⟨#[]⟩ : ByteArray))) = some r := h
 clear h
 by_cases c2 : a0 ≤ 0
 ·rw [if_pos c2] at H
  have c2b0 : decide (a0 ≤ 0) = true := decide_eq_true c2
  clear c2
  obtain rfl := Option.some.inj H
  go_enter Tryd.func24, Tryd.ntmps24
  go_wp2
  go_ret
  exact ⟨eZ, bZ⟩
 ·rw [if_neg c2] at H
  have c2b0 : decide (a0 ≤ 0) = false := decide_eq_false c2
  clear c2
  have H' := Aside0.mk H
  clear H
  go_enter Tryd.func24, Tryd.ntmps24
  go_wp2
  go_loopg [0, 3] k (fun kq v0 v3 w' => ∃ (x0_1 : Int) (x3_1 : ByteArray), v0 = .int .i64 x0_1 ∧ v3 = .string x3_1 ∧ Aside0 (laws_markText.l0 kq x0_1 x3_1 = some r) ∧ Aside0 (kq ≤ k) ∧ Aside0 (Below w.heap.size w w'))
  case atStart => exact ⟨(a0), ((⟨#[]⟩ : ByteArray)), sZ, sZ, H', ⟨Nat.le_refl _⟩, ⟨bZ⟩⟩
  case round =>
   clear H'; (try clear c2); (try clear c2b0); (try clear p2)
   obtain ⟨x0_1, x3_1, rfl, rfl, HA, HK1, HB⟩ := hrel
   cases gk with
   | zero => exact absurd HA.out (by simp [laws_markText.l0])
   | succ k1 =>
    have H := HA.out
    clear HA
    simp only [laws_markText.l0] at H
    by_cases c3 : x0_1 > 0
    ·rw [if_pos c3] at H
     have c3b0 : decide (0 < x0_1) = true := decide_eq_true c3
     clear c3
     obtain ⟨y170, hy170⟩ : ∃ y_ : List Int, y_ = (([(wrap64 (48 + (Int.tmod x0_1 10))) % 256] : List Int)) := ⟨_, rfl⟩
     replace H : (if (strOfNums y170).size + x3_1.size ≤ 9223372036854775807 then (laws_markText.l0 k1 (wrap64 (Int.tdiv x0_1 10)) ((strOfNums y170) ++ x3_1)) else (none)) = some r := by first | (rw [hy170]; with_reducible exact H) | (have H2_ := (Option.bind_some _ _).symm.trans H; rw [hy170]; with_reducible exact H2_) | (have H2_ := (Option.bind_some _ _).symm.trans H; with_reducible exact H2_) | with_reducible exact H | (rw [hy170]; exact H) | exact H
     have Ny170 := Aside0.mk hy170
     clear hy170
     by_cases c4 : (strOfNums y170).size + x3_1.size ≤ 9223372036854775807
     ·rw [if_pos c4] at H
      have c4b0 := eq_true c4
      have c4b1 : decide ((strOfNums y170).size + x3_1.size ≤ 9223372036854775807) = true := decide_eq_true c4
      try have c4b2 : (9223372036854775807 < (strOfNums y170).size + x3_1.size) = False := eq_false (Nat.not_lt.2 c4)
      have H' := Aside0.mk H
      clear H
      go_wp2_with (first | ((with_reducible refine gate_dst (N := 12) rfl ?_); refine Kd.R_lit (Kd.int .u8) _ 5 ?hg (N := 12) ?hd (xs := ([(wrap64 (48 + (Int.tmod x0_1 10))) % 256] : List Int)) (inner := [.int .u8 ((wrap64 (48 + (Int.tmod x0_1 10))) % 256)]) (ok := fun _ => True) (okp := fun _ => True) ?hr ?hp (fun _ hk => hk) trivial (Below.refl _ _) (Nat.le_refl _) (by simp) ?_; (case hd => rfl); (case hg => rfl); (case hr => first | (go_simp; done) | (go_simp; rfl)); (case hp => exact (Reps.one (show Kd.M (Kd.int .u8) _ _ _ ((wrap64 (48 + (Int.tmod x0_1 10))) % 256) [.int .u8 ((wrap64 (48 + (Int.tmod x0_1 10))) % 256)] from rfl) (Reps.none _ _))); intro v171 w5 ho6 hb hg_ hnew_; clear hg_ hnew_; (first | rw [← Ny170.out] at ho6 | (simp only [Int.reduceToNat] at ho6; rw [← Ny170.out] at ho6)); have n0_ := Aside0.mk (Kd.R_lower ho6 bsZ); have n1_ := Aside0.mk (below_step bZ hb); clear HB; have HO172 := n0_; have HB := n1_; clear n0_ n1_; clear hb ho6; have hcv7 := own_string (P := Tryd.prog) Tryd.underlying38 Tryd.underlying5 Tryd.underlying9 (Kd.own_of_R HO172.out)))
      go_roundg k1
      case measure => have := HK1.out; omega
      case rel => exact ⟨(wrap64 (Int.tdiv x0_1 10)), ((strOfNums y170) ++ x3_1), sZ, sZ, H', ⟨by have := HK1.out; omega⟩, ⟨bZ⟩⟩
     ·rw [if_neg c4] at H
      exact absurd H (by simp)
    ·rw [if_neg c3] at H
     have c3b0 : decide (0 < x0_1) = false := decide_eq_false c3
     clear c3
     by_cases c8 : 1 + x3_1.size ≤ 9223372036854775807
     ·rw [if_pos c8] at H
      have c8b0 := eq_true c8
      have c8b1 : decide (1 + x3_1.size ≤ 9223372036854775807) = true := decide_eq_true c8
      try have c8b2 : (9223372036854775807 < 1 + x3_1.size) = False := eq_false (Nat.not_lt.2 c8)
      obtain rfl := Option.some.inj H
      go_wp2
      go_ret
      exact ⟨eZ, bZ⟩
     ·rw [if_neg c8] at H
      exact absurd H (by simp)
def laws_markStringS.l0 : Nat → List ByteArray → Int → Int → Option (Int × List ByteArray)
 | 0, _, _, _ => none
 | k + 1, x0, x1, x5 => if x5 < (x0.length : Int) then ((laws_markText.f k x1).bind fun t173 => (if 0 ≤ x5 then (laws_markStringS.l0 k (x0.set (x5 : Int).toNat t173) (wrap64 (x1 + 1)) (wrap64 (x5 + 1))) else (none))) else (some (x1, x0))
def laws_markStringS.f (k : Nat) (l0 : List ByteArray) (a1 : Int) : Option (Int × List ByteArray) := laws_markStringS.l0 k l0 a1 0
set_option maxHeartbeats 8000000 in
set_option maxRecDepth 100000 in
theorem laws_markStringS.calls (k : Nat) (P0_ : Nat → Prop) (u9000_ : Value) (l0 : List ByteArray) (a1 : Int) (r1 : Int) (r2 : List ByteArray) (w0 w : World) (hB : Below w0.heap.size w0 w) (ho0 : Kd.R Kd.string 9 w w0.heap.size P0_ u9000_ l0) (h : laws_markStringS.f k l0 a1 = some (r1, r2)) :
  Calls Tryd.prog 11 #[u9000_, .int .i64 a1] w fun e w' => e = .returned (.int .i64 r1) ∧ Kd.R Kd.string 9 w' w0.heap.size (fun k_ => (P0_ k_ ∨ w.heap.size ≤ k_)) u9000_ r2 ∧ Below w0.heap.size w0 w' ∧ Kept w w' (fun k_ => P0_ k_) := by
 have HO0 := Aside0.mk (show Kd.R Kd.string 9 w w0.heap.size (fun k_ => (P0_ k_ ∨ w.heap.size ≤ k_)) u9000_ l0 from Kd.R_mono ho0 (fun k_ hk => (.inl hk)))
 have HK := Aside0.mk (Kept.refl w (fun k_ => P0_ k_))
 have HW0 := Aside0.mk hB.size
 have HB := Aside0.mk hB
 clear hB
 have H : (laws_markStringS.l0 k l0 a1 0) = some (r1, r2) := h
 clear h
 have H' := Aside0.mk H
 clear H
 go_enter Tryd.func11, Tryd.ntmps11
 go_wp2
 go_loopg [1, 5] k (fun kq v1 v5 w' => ∃ (x0_1 : List ByteArray) (x1_1 : Int) (x5_1 : Int), v1 = .int .i64 x1_1 ∧ v5 = .int .i64 x5_1 ∧ Aside0 (laws_markStringS.l0 kq x0_1 x1_1 x5_1 = some (r1, r2)) ∧ Aside0 (kq ≤ k) ∧ Aside0 (Kd.R Kd.string 9 w' w0.heap.size (fun k_ => (P0_ k_ ∨ w.heap.size ≤ k_)) u9000_ x0_1) ∧ Aside0 (Kept w w' (fun k_ => P0_ k_)) ∧ Aside0 (Below w0.heap.size w0 w'))
 case atStart => exact ⟨(l0), (a1), (0), sZ, sZ, H', ⟨Nat.le_refl _⟩, ⟨Kd.rZ HO0.out⟩, ⟨by repeat (first | (with_reducible first | exact HK.out | apply Kept.alloc | apply Kept.drewN | apply Kept.drew) | exact HK.out)⟩, ⟨bZ⟩⟩
 case round =>
  clear H'; (try clear c1); (try clear p2)
  obtain ⟨x0_1, x1_1, x5_1, rfl, rfl, HA, HK1, HO_0, HK, HB⟩ := hrel
  cases gk with
  | zero => exact absurd HA.out (by simp [laws_markStringS.l0])
  | succ k1 =>
   have H := HA.out
   clear HA
   simp only [laws_markStringS.l0] at H
   by_cases c3 : x5_1 < (x0_1.length : Int)
   ·rw [if_pos c3] at H
    have c3b0 : decide (x5_1 < (x0_1.length : Int)) = true := decide_eq_true c3
    clear c3
    replace H := Option.bind_eq_some_iff.mp H
    obtain ⟨t173, A40, H⟩ := H
    replace H : (if 0 ≤ x5_1 then (laws_markStringS.l0 k1 (x0_1.set (x5_1 : Int).toNat t173) (wrap64 (x1_1 + 1)) (wrap64 (x5_1 + 1))) else (none)) = some (r1, r2) := H
    have A4 := Aside0.mk A40
    clear A40
    by_cases c5 : 0 ≤ x5_1
    ·rw [if_pos c5] at H
     have c5b0 : decide (0 ≤ x5_1) = true := decide_eq_true c5
     clear c5
     obtain ⟨y174, hy174⟩ : ∃ y_ : List ByteArray, y_ = (x0_1.set (x5_1 : Int).toNat t173) := ⟨_, rfl⟩
     replace H : (laws_markStringS.l0 k1 y174 (wrap64 (x1_1 + 1)) (wrap64 (x5_1 + 1))) = some (r1, r2) := by first | (rw [hy174]; with_reducible exact H) | (have H2_ := (Option.bind_some _ _).symm.trans H; rw [hy174]; with_reducible exact H2_) | (have H2_ := (Option.bind_some _ _).symm.trans H; with_reducible exact H2_) | with_reducible exact H | (rw [hy174]; exact H) | exact H
     have Ny174 := Aside0.mk hy174
     clear hy174
     have H' := Aside0.mk H
     clear H
     obtain ⟨Ao7, co7, eo7⟩ := Kd.R_slice HO_0.out
     subst eo7
     go_wp2_with (first | ((with_reducible refine gate_callee (f := 24) rfl ?_); refine goesL_ (some 15) rfl rfl Tryd.func24 (by kernel_rfl) rfl #[.int .i64 x1_1] rfl gZ ?_; (with_reducible refine (laws_markText.calls k1 x1_1 t173 _ A4.out).mono ?_); rintro e w8 ⟨rfl, hb⟩; refine ⟨_, rfl, ?_⟩; have n0_ := Aside0.mk (Kd.R_below (Kd.rZ HO_0.out) hb); have n1_ := Aside0.mk (Kept.below (S := (fun k_ => P0_ k_)) (by repeat (first | (with_reducible first | exact HK.out | apply Kept.alloc | apply Kept.drewN | apply Kept.drew) | exact HK.out)) hb); have n2_ := Aside0.mk (below_step bZ hb); clear HO_0; clear HK; clear HB; have HO_0 := n0_; have HK := n1_; have HB := n2_; clear n0_ n1_ n2_; (try clear hb); (try clear hb2); (try clear hk); (try clear hi); have p6 : 0 ≤ (x5_1 : Int) := oZ; have q6 : (x5_1 : Int) < ((x0_1.length : Int) : Int) := oZ; obtain ⟨go6, co6, eo6, gb6, gl6, cl6, HG6⟩ := Kd.R_form HO_0.out (by omega); (first | cases eo6 | (injection eo6 with ea_ en_ ec_; (first | subst ea_ | (injection ea_ with ea_; subst ea_)); subst ec_; clear en_)); have GB6 := Aside0.mk gb6; have GG6 := Aside0.mk HG6; clear gb6 gl6 HG6; have HMgo6 := Aside0.mk (show (P0_ go6 ∨ w.heap.size ≤ go6) from (HO_0.out.1 _ rfl)); obtain ⟨hx6_0, hf6_0⟩ := Kd.R_celln (⟨#[]⟩ : ByteArray) HO_0.out (x5_1 : Int) p6 q6; replace p6 := eq_true p6; replace q6 := eq_true q6; obtain ⟨hy9_, hz9_⟩ := Kd.R_celln (⟨#[]⟩ : ByteArray) HO_0.out (x5_1 : Int) oZ oZ; have HP9 := Kd.R_putg HO_0.out (x5_1 : Int) t173) | ((with_reducible refine gate_store (t := 9) (p := 16) rfl ?_); refine store_event (t := 9) (p := 16) (v := ?vo_w10) (w1 := (w8.setCell ⟨go6, (x5_1 : Int).toNat, none⟩ (.string t173))) ?hg ?ho ?hn ?hr ?_; (case ho => rfl); (case hg => rfl); (case hn => rfl); (case hr => first | (go_simp; done) | (go_simp; rfl)); intro w10 hw; have hg : w8.grownBy w10 (some go6) := (by rw [hw]; exact HP9.2); have hp_ : Kd.R Kd.string 9 w10 w0.heap.size (fun k_ => (P0_ k_ ∨ w.heap.size ≤ k_)) (.slice (some ⟨go6, 0, none⟩) x0_1.length co7) y174 := (by rw [hw, Ny174.out]; exact HP9.1); clear HP9; have n0_ := Aside0.mk (hp_); have n1_ := Aside0.mk ((by rw [hw]; exact below_set (HB.out) GB6.out : Below w0.heap.size w0 w10)); have n2_ := Aside0.mk (Kept.of_grown (S := (fun k_ => P0_ k_)) hg (by repeat (first | (with_reducible first | exact HK.out | apply Kept.alloc | apply Kept.drewN | apply Kept.drew) | exact HK.out)) (fun k_ e_ => (HO_0.out.1 k_ e_))); clear HO_0; clear HB; clear HK; have HO_0 := n0_; have HB := n1_; have HK := n2_; clear n0_ n1_ n2_; clear hg hw hp_))
     go_roundg k1
     case measure => have := HK1.out; omega
     case rel => exact ⟨(y174), (wrap64 (x1_1 + 1)), (wrap64 (x5_1 + 1)), sZ, sZ, H', ⟨by have := HK1.out; omega⟩, ⟨Kd.rZ HO_0.out⟩, ⟨by repeat (first | (with_reducible first | exact HK.out | apply Kept.alloc | apply Kept.drewN | apply Kept.drew) | exact HK.out)⟩, ⟨bZ⟩⟩
    ·rw [if_neg c5] at H
     exact absurd H (by simp)
   ·rw [if_neg c3] at H
    have c3b0 : decide (x5_1 < (x0_1.length : Int)) = false := decide_eq_false c3
    clear c3
    simp only [Option.some.injEq, Prod.mk.injEq] at H
    obtain ⟨rfl, rfl⟩ := H
    obtain ⟨Ao11, co11, eo11⟩ := Kd.R_slice HO_0.out
    subst eo11
    go_wp2
    go_ret
    exact ⟨eZ, Kd.rZ HO_0.out, bZ, by repeat (first | (with_reducible first | exact HK.out | apply Kept.alloc | apply Kept.drewN | apply Kept.drew) | exact HK.out)⟩
end Go.Proofs.YtadaegehdcngdaaDoor.XU
end

section
namespace Go.Proofs.YtadaegehdcngdaaDoor.XU
open Go.RowKit Go.Proofs.YtadaegehdcngdaaDoorW.PrintWords Go.Proofs.YtadaegehdcngdaaDoorW.PrintLast Go.Proofs.YtadaegehdcngdaaDoorW.PrintMore
attribute [local go_sem] run_eql_slice_nil binOp_string_gtr' binOp_string_leq' binOp_string_geq' max2_int min2_int max_two min_two max_three min_three max_four min_four   -- for this text's walks alone
set_option linter.unusedVariables false
set_option linter.unusedSimpArgs false
def laws_markStringSS.l0 : Nat → List (List ByteArray) → Int → Int → Option (Int × List (List ByteArray))
 | 0, _, _, _ => none
 | k + 1, x0, x1, x5 => if x5 < (x0.length : Int) then (if 0 ≤ x5 then ((laws_markStringS.f k (x0.getD x5.toNat []) x1).bind fun b => laws_markStringSS.l0 k (x0.set x5.toNat b.2) b.1 (wrap64 (x5 + 1))) else none) else some (x1, x0)
def laws_markStringSS.f (k : Nat) (l0 : List (List ByteArray)) (a1 : Int) : Option (Int × List (List ByteArray)) := laws_markStringSS.l0 k l0 a1 0
set_option maxHeartbeats 1000000 in
theorem laws_markStringSS.calls (k : Nat) (P0_ : Nat → Prop) (u9000_ : Value) (l0 : List (List ByteArray)) (a1 : Int) (r1 : Int) (r2 : List (List ByteArray)) (w0 w : World) (hB : Below w0.heap.size w0 w) (ho0 : Kd.S (Kd.slice 9 Kd.string) 24 w w0.heap.size P0_ u9000_ l0) (h : laws_markStringSS.f k l0 a1 = some (r1, r2)) :
  Calls Tryd.prog 10 #[u9000_, .int .i64 a1] w fun e w' => e = .returned (.int .i64 r1) ∧ Kd.S (Kd.slice 9 Kd.string) 24 w' w0.heap.size P0_ u9000_ r2 ∧ Below w0.heap.size w0 w' ∧ Kept w w' (fun k_ => P0_ k_) := by
 obtain ⟨A, c, rfl⟩ := Kd.S_slice ho0
 have HO0 := Aside0.mk ho0
 have HK := Aside0.mk (Kept.refl w (fun k_ => P0_ k_))
 have HB := Aside0.mk hB
 have H' := Aside0.mk (show laws_markStringSS.l0 k l0 a1 0 = some (r1, r2) from h)
 clear hB ho0 h
 go_enter Tryd.func10, Tryd.ntmps10
 go_wp2
 go_loopg [1, 5] k (fun kq v1 v5 w' => ∃ (x0 : List (List ByteArray)) (x1 x5 : Int), v1 = .int .i64 x1 ∧ v5 = .int .i64 x5 ∧ Aside0 (laws_markStringSS.l0 kq x0 x1 x5 = some (r1, r2)) ∧ Aside0 (kq ≤ k) ∧ Aside0 (Kd.S (Kd.slice 9 Kd.string) 24 w' w0.heap.size P0_ (.slice A l0.length c) x0) ∧ Aside0 (Kept w w' (fun k_ => P0_ k_)) ∧ Aside0 (Below w0.heap.size w0 w'))
 case atStart => exact ⟨l0, a1, 0, rfl, rfl, H', ⟨Nat.le_refl _⟩, ⟨by (with_reducible repeat (first | apply Kd.S_alloc | apply Kd.S_drewN | apply Kd.S_drew)); exact HO0.out⟩, ⟨by repeat (first | (with_reducible first | exact HK.out | apply Kept.alloc | apply Kept.drewN | apply Kept.drew) | exact HK.out)⟩, ⟨bZ⟩⟩
 case round =>
  clear H'
  obtain ⟨x0, x1, x5, rfl, rfl, HA, HK1, HS, HK, HB⟩ := hrel
  cases gk with
  | zero => exact absurd HA.out (by simp [laws_markStringSS.l0])
  | succ k1 =>
   have H := HA.out
   clear HA
   simp only [laws_markStringSS.l0] at H
   have hlen : l0.length = x0.length := (Kd.S_reads' HS.out).1
   by_cases c3 : x5 < (x0.length : Int)
   ·rw [if_pos c3] at H
    by_cases c5 : 0 ≤ x5
    ·rw [if_pos c5] at H
     obtain ⟨b, hb, H⟩ := Option.bind_eq_some_iff.mp H
     have HH := Aside0.mk H
     have HM := Aside0.mk hb
     clear H hb
     obtain ⟨g, cap, e0, _, _, _⟩ := Kd.S_form HS.out (by omega)
     injection e0 with e1 e2 e3
     subst e1
     subst e3
     obtain ⟨oki, cc, hcl, hMM, hcells, hoki, hH⟩ := Kd.S_lend HS.out [] x5 c5 (by rw [hlen]; exact c3)
     obtain ⟨el, hel⟩ : ∃ el, el = x0.getD x5.toNat [] := ⟨_, rfl⟩
     rw [← hel] at hMM
     replace HM := Aside0.mk (by rw [hel]; exact HM.out : laws_markStringS.f k1 el x1 = some b)
     clear hel
     obtain ⟨v, rfl, hR⟩ := hMM
     have hx : wr.cell? ⟨g, x5.toNat, none⟩ = some v := by
      have := hcells 0 v rfl
      simpa [Kd.slice] using this
     obtain ⟨A2, c2, rfl⟩ := Kd.R_slice hR
     have c3b0 : decide (x5 < (l0.length : Int)) = true := decide_eq_true (by rw [hlen]; exact c3)
     have c5b0 : decide (0 ≤ x5) = true := decide_eq_true c5
     have p1_ : (0 ≤ x5) = True := eq_true c5
     have q1_ : (x5 < (l0.length : Int)) = True := eq_true (by rw [hlen]; exact c3)
     have HR := Aside0.mk hR
     have HHH := Aside0.mk hH
     have HOK := Aside0.mk hoki
     have HLEN := Aside0.mk hlen
     clear hR hH hoki hcells hcl e2 hlen c3 c5
     go_wp2_with (go_at_call 11; go_loud ((with_reducible refine (laws_markStringS.calls k1 oki _ el x1 b.1 b.2 w0 _ HB.out HR.out HM.out).mono ?_); rintro e w2 ⟨rfl, hy, hb2, hk2⟩; have HY := Aside0.mk hy; have HB2 := Aside0.mk hb2; have HK2 := Aside0.mk hk2; clear hy hb2 hk2 hx))
     go_roundg k1
     case measure => have := HK1.out; omega
     case rel =>
      refine ⟨_, _, _, rfl, rfl, HH, ⟨by have := HK1.out; omega⟩, ⟨?_⟩, ⟨Kept.then_ HK.out HK2.out (fun k_ hk => .inl (HOK.out k_ hk).1)⟩, HB2⟩
      have h2 := Kd.H_step HHH.out (w1 := w2) (fun k_ _ hn hlt => HK2.out.2 k_ hlt hn)
      refine Kd.H_back h2 (okp := oki) ⟨_, rfl, Kd.R_mono (Kd.R_tight rfl HY.out) (fun k_ hk => HR.out.1 k_ hk.symm)⟩ (fun _ h => h)
    ·rw [if_neg c5] at H
     exact absurd H (by simp)
   ·rw [if_neg c3] at H
    have c3b0 : decide (x5 < (l0.length : Int)) = false := decide_eq_false (by rw [hlen]; exact c3)
    simp only [Option.some.injEq, Prod.mk.injEq] at H
    obtain ⟨rfl, rfl⟩ := H
    clear c3 hlen
    go_wp2
    go_ret
    exact ⟨rfl, HS.out, HB.out, HK.out⟩
end Go.Proofs.YtadaegehdcngdaaDoor.XU
end

section
namespace Go.Proofs.YtadaegehdcngdaaDoor.XU
open Go.RowKit Go.Proofs.YtadaegehdcngdaaDoorW.PrintWords Go.Proofs.YtadaegehdcngdaaDoorW.PrintLast Go.Proofs.YtadaegehdcngdaaDoorW.PrintMore
attribute [local go_sem] run_eql_slice_nil binOp_string_gtr' binOp_string_leq' binOp_string_geq' max2_int min2_int max_two min_two max_three min_three max_four min_four   -- for this text's walks alone
set_option linter.unusedVariables false
set_option linter.unusedSimpArgs false
def laws_heldStringS.l0 : Nat → List ByteArray → Int → Int → Option (Int)
 | 0, _, _, _ => none
 | k + 1, x0, x1, x5 => if x5 < (x0.length : Int) then (if 0 ≤ x5 then ((laws_markText.f k x1).bind fun t176 => (if (rdOf ByteArray.empty x0 x5).toList = t176.toList then (laws_heldStringS.l0 k x0 (wrap64 (x1 + 1)) (wrap64 (x5 + 1))) else (some (-1)))) else (none)) else (some x1)
def laws_heldStringS.f (k : Nat) (l0 : List ByteArray) (a1 : Int) : Option (Int) := laws_heldStringS.l0 k l0 a1 0
set_option maxHeartbeats 8000000 in
set_option maxRecDepth 100000 in
theorem laws_heldStringS.calls (k : Nat) (A0 : Option Addr) (c0 : Nat) (l0 : List ByteArray) (a1 : Int) (r : Int) (w : World) (hr0 : Kd.C Kd.string w A0 l0.length l0) (hc0 : l0.length ≤ c0) (h : laws_heldStringS.f k l0 a1 = some r) :
  Calls Tryd.prog 12 #[.slice A0 l0.length c0, .int .i64 a1] w fun e w' => e = .returned (.int .i64 r) ∧ Below w.heap.size w w' := by
 have HR0 := Aside0.mk hr0
 have HC0 := Aside0.mk hc0
 clear hr0 hc0
 have HB := Aside0.mk (Below.refl w.heap.size w)
 have H : (laws_heldStringS.l0 k l0 a1 0) = some r := h
 clear h
 have H' := Aside0.mk H
 clear H
 go_enter Tryd.func12, Tryd.ntmps12
 go_wp2
 go_loopg [1, 5] k (fun kq v1 v5 w' => ∃ (x1_1 : Int) (x5_1 : Int), v1 = .int .i64 x1_1 ∧ v5 = .int .i64 x5_1 ∧ Aside0 (laws_heldStringS.l0 kq l0 x1_1 x5_1 = some r) ∧ Aside0 (kq ≤ k) ∧ Aside0 (Below w.heap.size w w'))
 case atStart => exact ⟨(a1), (0), sZ, sZ, H', ⟨Nat.le_refl _⟩, ⟨bZ⟩⟩
 case round =>
  clear H'; (try clear c1); (try clear p2)
  obtain ⟨x1_1, x5_1, rfl, rfl, HA, HK1, HB⟩ := hrel
  cases gk with
  | zero => exact absurd HA.out (by simp [laws_heldStringS.l0])
  | succ k1 =>
   have H := HA.out
   clear HA
   simp only [laws_heldStringS.l0] at H
   by_cases c3 : x5_1 < (l0.length : Int)
   ·rw [if_pos c3] at H
    have c3b0 : decide (x5_1 < (l0.length : Int)) = true := decide_eq_true c3
    clear c3
    by_cases c4 : 0 ≤ x5_1
    ·rw [if_pos c4] at H
     have c4b0 : decide (0 ≤ x5_1) = true := decide_eq_true c4
     clear c4
     replace H := Option.bind_eq_some_iff.mp H
     obtain ⟨t176, A50, H⟩ := H
     replace H : (if (rdOf ByteArray.empty l0 x5_1).toList = t176.toList then (laws_heldStringS.l0 k1 l0 (wrap64 (x1_1 + 1)) (wrap64 (x5_1 + 1))) else (some (-1))) = some r := H
     have A5 := Aside0.mk A50
     clear A50
     by_cases c6 : (rdOf ByteArray.empty l0 x5_1).toList = t176.toList
     ·rw [if_pos c6] at H
      have c6b0 : ((rdOf ByteArray.empty l0 x5_1).toList == t176.toList) = true := beq_iff_eq.mpr c6
      have c6b1 : ((rdOf ByteArray.empty l0 x5_1).toList != t176.toList) = false := bne_eq_false_iff_eq.mpr c6
      clear c6
      have H' := Aside0.mk H
      clear H
      try go_wp2
      have n0_ := Aside0.mk (below_drew1 HB.out)
      clear HB
      have HB := n0_
      clear n0_
      have p175 : 0 ≤ (x5_1 : Int) := oZ
      have q175 : x5_1 < (l0.length : Int) := oZ
      obtain ⟨ad175, e175, hx175_0⟩ := Kd.at_string HR0.out x5_1 p175 q175
      have hw175_0 := hx175_0
      cases e175
      replace hx175_0 := (HB.out.cell (World.block_lt_of_cell? w _ hx175_0)).trans hx175_0
      replace p175 := eq_true p175
      replace q175 := eq_true q175
      refine start_ (n := 7) (S := fun w' => w'.cell? (ad175.add (x5_1).toNat) = some (.string (rdOf ByteArray.empty l0 x5_1))) (ds := []) #[false, false, false, false, false, false, false] (by kernel_rfl) rfl rfl (((HB.out.cell (World.block_lt_of_cell? w _ hw175_0)).trans hw175_0)) (fun hHeld => ?_)
      generalize wr.drew = w7 at HB hx175_0 hHeld ⊢
      refine puY 0 (some 12) #[true, false, false, false, false, false, false] rfl rfl ?_
      refine puY 1 (some 13) #[true, true, false, false, false, false, false] rfl rfl ?_
      refine puY 2 (some 14) #[true, true, true, false, false, false, false] rfl rfl ?_
      refine puY 4 (some 16) #[true, true, true, false, true, false, false] rfl rfl ?_
      refine take_ (i := 3) (N := some 15) (v := ?_) (a' := ?_) #[true, true, true, true, true, false, false] rfl rfl (by kernel_rfl) (fun _ _ _ h => h) (Or.inl ⟨by rfl, ?_⟩) hHeld ?_ ?_
      rotate_left
      ·intro w' s0
       go_simp
       with_reducible rfl
      rotate_left
      ·simp only [Act.put, List.setIfInBounds_toArray, List.set_cons_zero, List.set_cons_succ, i64_w, i32_w]
       rfl
      refine one_ (i := 5) (N := some 17) #[true, true, true, true, true, true, false] rfl rfl (by kernel_rfl) (by decide) (fun K hK => ?_)
      refine goes_ Tryd.func24 (by kernel_rfl) rfl #[.int .i64 x1_1] (by rfl) rfl rfl gZ ?_
      with_reducible refine (laws_markText.calls k1 x1_1 t176 _ A5.out).mono ?_
      rintro e w8 ⟨rfl, hb⟩
      refine ⟨_, rfl, ?_⟩
      have n0_ := Aside0.mk (below_step bZ hb)
      clear HB
      have HB := n0_
      clear n0_
      (try clear hb)
      (try clear hb2)
      (try clear hk)
      (try clear hi)
      refine hK.out _ _ (((HB.out.cell (World.block_lt_of_cell? w _ hw175_0)).trans hw175_0)) (fun hHeld => ?_)
      clear hK K
      refine norm_ (a' := ?_) ?_ ?_
      rotate_left
      ·show Act.put _ (some 17) _ = _
       simp only [Act.put, List.setIfInBounds_toArray, List.set_cons_zero, List.set_cons_succ, i64_w, i32_w]
       rfl
      refine puY 6 (some 18) #[true, true, true, true, true, true, true] rfl rfl ?_
      refine done_ (by kernel_rfl) ?_
      try go_wp2
      go_roundg k1
      case measure => have := HK1.out; omega
      case rel => exact ⟨(wrap64 (x1_1 + 1)), (wrap64 (x5_1 + 1)), sZ, sZ, H', ⟨by have := HK1.out; omega⟩, ⟨bZ⟩⟩
     ·rw [if_neg c6] at H
      have c6b0 : ((rdOf ByteArray.empty l0 x5_1).toList == t176.toList) = false := beq_eq_false_iff_ne.mpr c6
      have c6b1 : ((rdOf ByteArray.empty l0 x5_1).toList != t176.toList) = true := bne_iff_ne.mpr c6
      obtain rfl := Option.some.inj H
      try go_wp2
      have n0_ := Aside0.mk (below_drew1 HB.out)
      clear HB
      have HB := n0_
      clear n0_
      have p175 : 0 ≤ (x5_1 : Int) := oZ
      have q175 : x5_1 < (l0.length : Int) := oZ
      obtain ⟨ad175, e175, hx175_0⟩ := Kd.at_string HR0.out x5_1 p175 q175
      have hw175_0 := hx175_0
      cases e175
      replace hx175_0 := (HB.out.cell (World.block_lt_of_cell? w _ hx175_0)).trans hx175_0
      replace p175 := eq_true p175
      replace q175 := eq_true q175
      refine start_ (n := 7) (S := fun w' => w'.cell? (ad175.add (x5_1).toNat) = some (.string (rdOf ByteArray.empty l0 x5_1))) (ds := []) #[false, false, false, false, false, false, false] (by kernel_rfl) rfl rfl (((HB.out.cell (World.block_lt_of_cell? w _ hw175_0)).trans hw175_0)) (fun hHeld => ?_)
      generalize wr.drew = w9 at HB hx175_0 hHeld ⊢
      refine puY 0 (some 12) #[true, false, false, false, false, false, false] rfl rfl ?_
      refine puY 1 (some 13) #[true, true, false, false, false, false, false] rfl rfl ?_
      refine puY 2 (some 14) #[true, true, true, false, false, false, false] rfl rfl ?_
      refine puY 4 (some 16) #[true, true, true, false, true, false, false] rfl rfl ?_
      refine take_ (i := 3) (N := some 15) (v := ?_) (a' := ?_) #[true, true, true, true, true, false, false] rfl rfl (by kernel_rfl) (fun _ _ _ h => h) (Or.inl ⟨by rfl, ?_⟩) hHeld ?_ ?_
      rotate_left
      ·intro w' s0
       go_simp
       with_reducible rfl
      rotate_left
      ·simp only [Act.put, List.setIfInBounds_toArray, List.set_cons_zero, List.set_cons_succ, i64_w, i32_w]
       rfl
      refine one_ (i := 5) (N := some 17) #[true, true, true, true, true, true, false] rfl rfl (by kernel_rfl) (by decide) (fun K hK => ?_)
      refine goes_ Tryd.func24 (by kernel_rfl) rfl #[.int .i64 x1_1] (by rfl) rfl rfl gZ ?_
      with_reducible refine (laws_markText.calls k1 x1_1 t176 _ A5.out).mono ?_
      rintro e w10 ⟨rfl, hb⟩
      refine ⟨_, rfl, ?_⟩
      have n0_ := Aside0.mk (below_step bZ hb)
      clear HB
      have HB := n0_
      clear n0_
      (try clear hb)
      (try clear hb2)
      (try clear hk)
      (try clear hi)
      refine hK.out _ _ (((HB.out.cell (World.block_lt_of_cell? w _ hw175_0)).trans hw175_0)) (fun hHeld => ?_)
      clear hK K
      refine norm_ (a' := ?_) ?_ ?_
      rotate_left
      ·show Act.put _ (some 17) _ = _
       simp only [Act.put, List.setIfInBounds_toArray, List.set_cons_zero, List.set_cons_succ, i64_w, i32_w]
       rfl
      refine puY 6 (some 18) #[true, true, true, true, true, true, true] rfl rfl ?_
      refine done_ (by kernel_rfl) ?_
      try go_wp2
      go_ret
      exact ⟨eZ, bZ⟩
    ·rw [if_neg c4] at H
     exact absurd H (by simp)
   ·rw [if_neg c3] at H
    have c3b0 : decide (x5_1 < (l0.length : Int)) = false := decide_eq_false c3
    clear c3
    obtain rfl := Option.some.inj H
    go_wp2
    go_ret
    exact ⟨eZ, bZ⟩
end Go.Proofs.YtadaegehdcngdaaDoor.XU
end

section
namespace Go.Proofs.YtadaegehdcngdaaDoor.XU
open Go.RowKit Go.Proofs.YtadaegehdcngdaaDoorW.PrintWords Go.Proofs.YtadaegehdcngdaaDoorW.PrintLast Go.Proofs.YtadaegehdcngdaaDoorW.PrintMore
attribute [local go_sem] run_eql_slice_nil binOp_string_gtr' binOp_string_leq' binOp_string_geq' max2_int min2_int max_two min_two max_three min_three max_four min_four   -- for this text's walks alone
set_option linter.unusedVariables false
set_option linter.unusedSimpArgs false
def laws_FnExactTableLines.f (k : Nat) (l0 : List (List ByteArray)) : Option Bool := (laws_szStringSS.f k l0 1048576).bind fun t3 => (if t3 < 0 then some true else ((laws_toStringSS.f k l0).bind fun t8 => ((spec_TableLines.f k t8).bind fun bt17 => ((laws_toStringSS.f k l0).bind fun t28 => ((impl_TableLines.f k t28).bind fun bt37 => ((laws_eqStringS.f k bt37.1 bt17.1).bind fun t48 => (if t48 = true then (if bt37.2 = bt17.2 then ((laws_toStringSS.f k l0).bind fun t53 => ((laws_eqStringSS.f k t28 t53).bind fun t63 => (if t63 = true then ((laws_markStringSS.f k t28 1).bind fun bt67 => (if ¬ bt67.1 < 0 then ((laws_eqStringS.f k bt37.1 bt17.1).bind fun t74 => (if t74 = true then (if bt37.2 = bt17.2 then ((laws_markStringS.f k bt37.1 1).bind fun bt78 => ((laws_heldStringS.f k bt78.2 1).bind fun t84 => (if ¬ t84 < 0 then (if t84 = bt78.1 then ((laws_toStringSS.f k l0).bind fun t89 => ((impl_TableLines.f k t89).bind fun bt98 => ((laws_eqStringS.f k bt98.1 bt17.1).bind fun t109 => (if t109 = true then (if bt98.2 = bt17.2 then ((laws_heldStringS.f k bt78.2 1).bind fun t113 => (if ¬ t113 < 0 then (if t113 = bt78.1 then (some true) else none) else none)) else none) else none)))) else none) else none))) else none) else none)) else none)) else none))) else none) else none)))))))
set_option maxHeartbeats 4000000 in
set_option maxRecDepth 100000 in
theorem laws_FnExactTableLines.calls (k : Nat) (A0 : Option Addr) (c0 : Nat) (l0 : List (List ByteArray)) (r : Bool) (w : World) (hr0 : Kd.C (Kd.slice 9 Kd.string) w A0 l0.length l0) (hc0 : l0.length ≤ c0) (hSH : ShT Tryd.prog w) (h : laws_FnExactTableLines.f k l0 = some r) :
  Calls Tryd.prog 3 #[.slice A0 l0.length c0] w fun e w' => e = .returned (.bool r) ∧ Below w.heap.size w w' := by
 have HR0 := Aside0.mk hr0
 have HC0 := Aside0.mk hc0
 clear hr0 hc0
 have HB := Aside0.mk (Below.refl w.heap.size w)
 have HSH := Aside0.mk hSH
 clear hSH
 unfold laws_FnExactTableLines.f at h
 replace h := Option.bind_eq_some_iff.mp h
 obtain ⟨t3, A1_, h⟩ := h
 try dsimp only at h
 have A1 := Aside0.mk A1_
 clear A1_
 by_cases c115 : t3 < 0
 ·rw [if_pos c115] at h
  have c115b : decide (t3 < 0) = true := decide_eq_true (by omega)
  clear c115
  obtain rfl := Option.some.inj h
  go_enter Tryd.func3, Tryd.ntmps3
  go_wp2_with fail
  refine (laws_szStringSS.calls k _ _ l0 1048576 _ _ (Kd.C_below HR0.out HB.out) HC0.out A1.out).mono ?_
  rintro e w2 ⟨rfl, hd⟩
  have hb := hd.below
  have SZ4 := Aside0.mk hb.size
  replace HB := Aside0.mk (below_step HB.out hb)
  clear hb hd
  go_wp2
  go_ret
  exact ⟨eZ, bZ⟩
 rw [if_neg c115] at h
 have c115b : decide (t3 < 0) = false := decide_eq_false (by omega)
 clear c115
 replace h := Option.bind_eq_some_iff.mp h
 obtain ⟨t8, A6_, h⟩ := h
 try dsimp only at h
 have A6 := Aside0.mk A6_
 clear A6_
 replace h := Option.bind_eq_some_iff.mp h
 obtain ⟨⟨t17, t18⟩, A15_, h⟩ := h
 try dsimp only at h
 have A15 := Aside0.mk A15_
 clear A15_
 replace h := Option.bind_eq_some_iff.mp h
 obtain ⟨t28, A26_, h⟩ := h
 try dsimp only at h
 have A26 := Aside0.mk A26_
 clear A26_
 replace h := Option.bind_eq_some_iff.mp h
 obtain ⟨⟨t37, t38⟩, A35_, h⟩ := h
 try dsimp only at h
 have A35 := Aside0.mk A35_
 clear A35_
 replace h := Option.bind_eq_some_iff.mp h
 obtain ⟨t48, A46_, h⟩ := h
 try dsimp only at h
 have A46 := Aside0.mk A46_
 clear A46_
 by_cases c116 : t48 = true
 rotate_left
 ·rw [if_neg c116] at h; exact absurd h (by simp)
 rw [if_pos c116] at h
 subst c116
 by_cases c117 : t38 = t18
 rotate_left
 ·rw [if_neg c117] at h; exact absurd h (by simp)
 rw [if_pos c117] at h
 have c117b : (t38 != t18) = false := by rw [c117]; simp
 clear c117
 replace h := Option.bind_eq_some_iff.mp h
 obtain ⟨t53, A51_, h⟩ := h
 try dsimp only at h
 have A51 := Aside0.mk A51_
 clear A51_
 replace h := Option.bind_eq_some_iff.mp h
 obtain ⟨t63, A61_, h⟩ := h
 try dsimp only at h
 have A61 := Aside0.mk A61_
 clear A61_
 by_cases c118 : t63 = true
 rotate_left
 ·rw [if_neg c118] at h; exact absurd h (by simp)
 rw [if_pos c118] at h
 subst c118
 replace h := Option.bind_eq_some_iff.mp h
 obtain ⟨⟨t67, t68⟩, A65_, h⟩ := h
 try dsimp only at h
 have A65 := Aside0.mk A65_
 clear A65_
 by_cases c119 : ¬ t67 < 0
 rotate_left
 ·rw [if_neg c119] at h; exact absurd h (by simp)
 rw [if_pos c119] at h
 have c119b : decide (t67 < 0) = false := decide_eq_false c119
 clear c119
 replace h := Option.bind_eq_some_iff.mp h
 obtain ⟨t74, A72_, h⟩ := h
 try dsimp only at h
 have A72 := Aside0.mk A72_
 clear A72_
 by_cases c120 : t74 = true
 rotate_left
 ·rw [if_neg c120] at h; exact absurd h (by simp)
 rw [if_pos c120] at h
 subst c120
 by_cases c121 : t38 = t18
 rotate_left
 ·rw [if_neg c121] at h; exact absurd h (by simp)
 rw [if_pos c121] at h
 have c121b : (t38 != t18) = false := by rw [c121]; simp
 clear c121
 replace h := Option.bind_eq_some_iff.mp h
 obtain ⟨⟨t78, t79⟩, A76_, h⟩ := h
 try dsimp only at h
 have A76 := Aside0.mk A76_
 clear A76_
 replace h := Option.bind_eq_some_iff.mp h
 obtain ⟨t84, A82_, h⟩ := h
 try dsimp only at h
 have A82 := Aside0.mk A82_
 clear A82_
 by_cases c122 : ¬ t84 < 0
 rotate_left
 ·rw [if_neg c122] at h; exact absurd h (by simp)
 rw [if_pos c122] at h
 have c122b : decide (t84 < 0) = false := decide_eq_false c122
 clear c122
 by_cases c123 : t84 = t78
 rotate_left
 ·rw [if_neg c123] at h; exact absurd h (by simp)
 rw [if_pos c123] at h
 have c123b : (t84 != t78) = false := by rw [c123]; simp
 clear c123
 replace h := Option.bind_eq_some_iff.mp h
 obtain ⟨t89, A87_, h⟩ := h
 try dsimp only at h
 have A87 := Aside0.mk A87_
 clear A87_
 replace h := Option.bind_eq_some_iff.mp h
 obtain ⟨⟨t98, t99⟩, A96_, h⟩ := h
 try dsimp only at h
 have A96 := Aside0.mk A96_
 clear A96_
 replace h := Option.bind_eq_some_iff.mp h
 obtain ⟨t109, A107_, h⟩ := h
 try dsimp only at h
 have A107 := Aside0.mk A107_
 clear A107_
 by_cases c124 : t109 = true
 rotate_left
 ·rw [if_neg c124] at h; exact absurd h (by simp)
 rw [if_pos c124] at h
 subst c124
 by_cases c125 : t99 = t18
 rotate_left
 ·rw [if_neg c125] at h; exact absurd h (by simp)
 rw [if_pos c125] at h
 have c125b : (t99 != t18) = false := by rw [c125]; simp
 clear c125
 replace h := Option.bind_eq_some_iff.mp h
 obtain ⟨t113, A111_, h⟩ := h
 try dsimp only at h
 have A111 := Aside0.mk A111_
 clear A111_
 by_cases c126 : ¬ t113 < 0
 rotate_left
 ·rw [if_neg c126] at h; exact absurd h (by simp)
 rw [if_pos c126] at h
 have c126b : decide (t113 < 0) = false := decide_eq_false c126
 clear c126
 by_cases c127 : t113 = t78
 rotate_left
 ·rw [if_neg c127] at h; exact absurd h (by simp)
 rw [if_pos c127] at h
 have c127b : (t113 != t78) = false := by rw [c127]; simp
 clear c127
 obtain rfl := Option.some.inj h
 go_enter Tryd.func3, Tryd.ntmps3
 go_wp2_with fail
 refine (laws_szStringSS.calls k _ _ l0 1048576 _ _ (Kd.C_below HR0.out HB.out) HC0.out A1.out).mono ?_
 rintro e w2 ⟨rfl, hd⟩
 have hb := hd.below
 have SZ4 := Aside0.mk hb.size
 replace HB := Aside0.mk (below_step HB.out hb)
 clear hb hd
 go_wp2_with fail
 refine (laws_toStringSS.calls k _ _ l0 _ _ (Kd.C_below HR0.out HB.out) HC0.out A6.out).mono ?_
 rintro e w7 ⟨v9, rfl, ho10, hb⟩
 have SZ11 := Aside0.mk hb.size
 obtain ⟨Ao13, co14, rfl⟩ := Kd.S_slice ho10
 have F12 := Aside0.mk (Kd.S_lower (Kd.S_mono (ok' := fun k_ => w2.heap.size ≤ k_ ∧ k_ < w7.heap.size) (Kd.S_bound ho10) (fun k_ hk_ => ⟨hk_.2.1, hk_.2.2.1⟩)) HB.out.size)
 clear ho10
 replace HB := Aside0.mk (below_step HB.out hb)
 clear hb
 go_wp2_with fail
 refine (spec_TableLines.calls k _ _ t8 _ _ _ (Kd.S_reads' F12.out).2.2 (by rw [← (Kd.S_reads' F12.out).1]; exact (Kd.S_reads' F12.out).2.1) A15.out).mono ?_
 rintro e w16 ⟨v19, rfl, ho20, hb⟩
 have SZ21 := Aside0.mk hb.size
 replace F12 := Aside0.mk (Kd.S_below F12.out hb)
 obtain ⟨Ao23, co24, rfl⟩ := Kd.R_slice ho20
 have F22 := Aside0.mk (Kd.R_lower (Kd.R_mono (ok' := fun k_ => w7.heap.size ≤ k_ ∧ k_ < w16.heap.size) (Kd.R_bound ho20) (fun k_ hk_ => ⟨hk_.2.1, hk_.2.2.1⟩)) HB.out.size)
 clear ho20
 replace HB := Aside0.mk (below_step HB.out hb)
 clear hb
 go_wp2_with fail
 refine (laws_toStringSS.calls k _ _ l0 _ _ (Kd.C_below HR0.out HB.out) HC0.out A26.out).mono ?_
 rintro e w27 ⟨v29, rfl, ho30, hb⟩
 have SZ31 := Aside0.mk hb.size
 replace F12 := Aside0.mk (Kd.S_below F12.out hb)
 replace F22 := Aside0.mk (Kd.R_below F22.out hb)
 obtain ⟨Ao33, co34, rfl⟩ := Kd.S_slice ho30
 have F32 := Aside0.mk (Kd.S_lower (Kd.S_mono (ok' := fun k_ => w16.heap.size ≤ k_ ∧ k_ < w27.heap.size) (Kd.S_bound ho30) (fun k_ hk_ => ⟨hk_.2.1, hk_.2.2.1⟩)) HB.out.size)
 clear ho30
 replace HB := Aside0.mk (below_step HB.out hb)
 clear hb
 go_wp2_with fail
 refine (impl_TableLines.calls k _ _ t28 _ _ _ (Kd.S_reads' F32.out).2.2 (by rw [← (Kd.S_reads' F32.out).1]; exact (Kd.S_reads' F32.out).2.1) A35.out).mono ?_
 rintro e w36 ⟨v39, rfl, ho40, hb⟩
 have SZ41 := Aside0.mk hb.size
 replace F12 := Aside0.mk (Kd.S_below F12.out hb)
 replace F22 := Aside0.mk (Kd.R_below F22.out hb)
 replace F32 := Aside0.mk (Kd.S_below F32.out hb)
 obtain ⟨Ao43, co44, rfl⟩ := Kd.R_slice ho40
 have F42 := Aside0.mk (Kd.R_lower (Kd.R_mono (ok' := fun k_ => w27.heap.size ≤ k_ ∧ k_ < w36.heap.size) (Kd.R_bound ho40) (fun k_ hk_ => ⟨hk_.2.1, hk_.2.2.1⟩)) HB.out.size)
 clear ho40
 replace HB := Aside0.mk (below_step HB.out hb)
 clear hb
 go_wp2_with fail
 refine (laws_eqStringS.calls k _ _ t37 _ _ t17 _ _ (Kd.R_reads' F42.out).2.2 (by rw [← (Kd.R_reads' F42.out).1]; exact (Kd.R_reads' F42.out).2.1) (Kd.R_reads' F22.out).2.2 (by rw [← (Kd.R_reads' F22.out).1]; exact (Kd.R_reads' F22.out).2.1) A46.out).mono ?_
 rintro e w47 ⟨rfl, hd⟩
 have hb := hd.below
 have SZ49 := Aside0.mk hb.size
 replace F12 := Aside0.mk (Kd.S_below F12.out hb)
 replace F22 := Aside0.mk (Kd.R_below F22.out hb)
 replace F32 := Aside0.mk (Kd.S_below F32.out hb)
 replace F42 := Aside0.mk (Kd.R_below F42.out hb)
 replace HB := Aside0.mk (below_step HB.out hb)
 clear hb hd
 go_wp2_with fail
 refine (laws_toStringSS.calls k _ _ l0 _ _ (Kd.C_below HR0.out HB.out) HC0.out A51.out).mono ?_
 rintro e w52 ⟨v54, rfl, ho55, hb⟩
 have SZ56 := Aside0.mk hb.size
 replace F12 := Aside0.mk (Kd.S_below F12.out hb)
 replace F22 := Aside0.mk (Kd.R_below F22.out hb)
 replace F32 := Aside0.mk (Kd.S_below F32.out hb)
 replace F42 := Aside0.mk (Kd.R_below F42.out hb)
 obtain ⟨Ao58, co59, rfl⟩ := Kd.S_slice ho55
 have F57 := Aside0.mk (Kd.S_lower (Kd.S_mono (ok' := fun k_ => w47.heap.size ≤ k_ ∧ k_ < w52.heap.size) (Kd.S_bound ho55) (fun k_ hk_ => ⟨hk_.2.1, hk_.2.2.1⟩)) HB.out.size)
 clear ho55
 replace HB := Aside0.mk (below_step HB.out hb)
 clear hb
 go_wp2_with fail
 refine (laws_eqStringSS.calls k _ _ t28 _ _ t53 _ _ (Kd.S_reads' F32.out).2.2 (by rw [← (Kd.S_reads' F32.out).1]; exact (Kd.S_reads' F32.out).2.1) (Kd.S_reads' F57.out).2.2 (by rw [← (Kd.S_reads' F57.out).1]; exact (Kd.S_reads' F57.out).2.1) A61.out).mono ?_
 rintro e w62 ⟨rfl, hd⟩
 have hb := hd.below
 have SZ64 := Aside0.mk hb.size
 replace F12 := Aside0.mk (Kd.S_below F12.out hb)
 replace F22 := Aside0.mk (Kd.R_below F22.out hb)
 replace F32 := Aside0.mk (Kd.S_below F32.out hb)
 replace F42 := Aside0.mk (Kd.R_below F42.out hb)
 replace F57 := Aside0.mk (Kd.S_below F57.out hb)
 replace HB := Aside0.mk (below_step HB.out hb)
 clear hb hd
 go_wp2_with fail
 refine (laws_markStringSS.calls k (fun k_ => w16.heap.size ≤ k_ ∧ k_ < w27.heap.size) _ t28 1 _ _ w _ HB.out F32.out A65.out).mono ?_
 rintro e w66 ⟨rfl, ho69, hb, hk⟩
 have SZ70 := Aside0.mk hk.1
 replace F12 := Aside0.mk (Kd.S_step F12.out (fun k_ ho_ hlt_ => hk.2 k_ hlt_ (by have := SZ4.out; have := SZ11.out; have := SZ21.out; have := SZ31.out; have := SZ41.out; have := SZ49.out; have := SZ56.out; have := SZ64.out; have := SZ70.out; omega)))
 replace F22 := Aside0.mk (Kd.R_step F22.out (fun k_ ho_ hlt_ => hk.2 k_ hlt_ (by have := SZ4.out; have := SZ11.out; have := SZ21.out; have := SZ31.out; have := SZ41.out; have := SZ49.out; have := SZ56.out; have := SZ64.out; have := SZ70.out; omega)))
 replace F42 := Aside0.mk (Kd.R_step F42.out (fun k_ ho_ hlt_ => hk.2 k_ hlt_ (by have := SZ4.out; have := SZ11.out; have := SZ21.out; have := SZ31.out; have := SZ41.out; have := SZ49.out; have := SZ56.out; have := SZ64.out; have := SZ70.out; omega)))
 replace F57 := Aside0.mk (Kd.S_step F57.out (fun k_ ho_ hlt_ => hk.2 k_ hlt_ (by have := SZ4.out; have := SZ11.out; have := SZ21.out; have := SZ31.out; have := SZ41.out; have := SZ49.out; have := SZ56.out; have := SZ64.out; have := SZ70.out; omega)))
 replace F32 := Aside0.mk ho69
 replace HB := Aside0.mk hb
 clear hb hk ho69
 go_wp2_with fail
 refine (laws_eqStringS.calls k _ _ t37 _ _ t17 _ _ (Kd.R_reads' F42.out).2.2 (by rw [← (Kd.R_reads' F42.out).1]; exact (Kd.R_reads' F42.out).2.1) (Kd.R_reads' F22.out).2.2 (by rw [← (Kd.R_reads' F22.out).1]; exact (Kd.R_reads' F22.out).2.1) A72.out).mono ?_
 rintro e w73 ⟨rfl, hd⟩
 have hb := hd.below
 have SZ75 := Aside0.mk hb.size
 replace F12 := Aside0.mk (Kd.S_below F12.out hb)
 replace F22 := Aside0.mk (Kd.R_below F22.out hb)
 replace F32 := Aside0.mk (Kd.S_below F32.out hb)
 replace F42 := Aside0.mk (Kd.R_below F42.out hb)
 replace F57 := Aside0.mk (Kd.S_below F57.out hb)
 replace HB := Aside0.mk (below_step HB.out hb)
 clear hb hd
 go_wp2_with fail
 refine (laws_markStringS.calls k (fun k_ => w27.heap.size ≤ k_ ∧ k_ < w36.heap.size) _ t37 1 _ _ w _ HB.out F42.out A76.out).mono ?_
 rintro e w77 ⟨rfl, ho80, hb, hk⟩
 have SZ81 := Aside0.mk hk.1
 replace F12 := Aside0.mk (Kd.S_step F12.out (fun k_ ho_ hlt_ => hk.2 k_ hlt_ (by have := SZ4.out; have := SZ11.out; have := SZ21.out; have := SZ31.out; have := SZ41.out; have := SZ49.out; have := SZ56.out; have := SZ64.out; have := SZ70.out; have := SZ75.out; have := SZ81.out; omega)))
 replace F22 := Aside0.mk (Kd.R_step F22.out (fun k_ ho_ hlt_ => hk.2 k_ hlt_ (by have := SZ4.out; have := SZ11.out; have := SZ21.out; have := SZ31.out; have := SZ41.out; have := SZ49.out; have := SZ56.out; have := SZ64.out; have := SZ70.out; have := SZ75.out; have := SZ81.out; omega)))
 replace F32 := Aside0.mk (Kd.S_step F32.out (fun k_ ho_ hlt_ => hk.2 k_ hlt_ (by have := SZ4.out; have := SZ11.out; have := SZ21.out; have := SZ31.out; have := SZ41.out; have := SZ49.out; have := SZ56.out; have := SZ64.out; have := SZ70.out; have := SZ75.out; have := SZ81.out; omega)))
 replace F57 := Aside0.mk (Kd.S_step F57.out (fun k_ ho_ hlt_ => hk.2 k_ hlt_ (by have := SZ4.out; have := SZ11.out; have := SZ21.out; have := SZ31.out; have := SZ41.out; have := SZ49.out; have := SZ56.out; have := SZ64.out; have := SZ70.out; have := SZ75.out; have := SZ81.out; omega)))
 replace F42 := Aside0.mk (Kd.R_mono (Kd.R_tight rfl ho80) (fun k_ hk_ => F42.out.1 k_ hk_.symm))
 replace HB := Aside0.mk hb
 clear hb hk ho80
 go_wp2_with fail
 refine calls_of_args (args' := #[.slice Ao43 t79.length co44, .int .i64 (1)]) (by rw [show t37.length = t79.length from (Kd.R_reads' F42.out).1]) ?_
 refine (laws_heldStringS.calls k _ _ t79 1 _ _ (Kd.R_reads' F42.out).2.2 (by rw [← (Kd.R_reads' F42.out).1]; exact (Kd.R_reads' F42.out).2.1) A82.out).mono ?_
 rintro e w83 ⟨rfl, hb⟩
 have SZ85 := Aside0.mk hb.size
 replace F12 := Aside0.mk (Kd.S_below F12.out hb)
 replace F22 := Aside0.mk (Kd.R_below F22.out hb)
 replace F32 := Aside0.mk (Kd.S_below F32.out hb)
 replace F42 := Aside0.mk (Kd.R_below F42.out hb)
 replace F57 := Aside0.mk (Kd.S_below F57.out hb)
 replace HB := Aside0.mk (below_step HB.out hb)
 clear hb
 go_wp2_with fail
 refine (laws_toStringSS.calls k _ _ l0 _ _ (Kd.C_below HR0.out HB.out) HC0.out A87.out).mono ?_
 rintro e w88 ⟨v90, rfl, ho91, hb⟩
 have SZ92 := Aside0.mk hb.size
 replace F12 := Aside0.mk (Kd.S_below F12.out hb)
 replace F22 := Aside0.mk (Kd.R_below F22.out hb)
 replace F32 := Aside0.mk (Kd.S_below F32.out hb)
 replace F42 := Aside0.mk (Kd.R_below F42.out hb)
 replace F57 := Aside0.mk (Kd.S_below F57.out hb)
 obtain ⟨Ao94, co95, rfl⟩ := Kd.S_slice ho91
 have F93 := Aside0.mk (Kd.S_lower (Kd.S_mono (ok' := fun k_ => w83.heap.size ≤ k_ ∧ k_ < w88.heap.size) (Kd.S_bound ho91) (fun k_ hk_ => ⟨hk_.2.1, hk_.2.2.1⟩)) HB.out.size)
 clear ho91
 replace HB := Aside0.mk (below_step HB.out hb)
 clear hb
 go_wp2_with fail
 refine (impl_TableLines.calls k _ _ t89 _ _ _ (Kd.S_reads' F93.out).2.2 (by rw [← (Kd.S_reads' F93.out).1]; exact (Kd.S_reads' F93.out).2.1) A96.out).mono ?_
 rintro e w97 ⟨v100, rfl, ho101, hb⟩
 have SZ102 := Aside0.mk hb.size
 replace F12 := Aside0.mk (Kd.S_below F12.out hb)
 replace F22 := Aside0.mk (Kd.R_below F22.out hb)
 replace F32 := Aside0.mk (Kd.S_below F32.out hb)
 replace F42 := Aside0.mk (Kd.R_below F42.out hb)
 replace F57 := Aside0.mk (Kd.S_below F57.out hb)
 replace F93 := Aside0.mk (Kd.S_below F93.out hb)
 obtain ⟨Ao104, co105, rfl⟩ := Kd.R_slice ho101
 have F103 := Aside0.mk (Kd.R_lower (Kd.R_mono (ok' := fun k_ => w88.heap.size ≤ k_ ∧ k_ < w97.heap.size) (Kd.R_bound ho101) (fun k_ hk_ => ⟨hk_.2.1, hk_.2.2.1⟩)) HB.out.size)
 clear ho101
 replace HB := Aside0.mk (below_step HB.out hb)
 clear hb
 go_wp2_with fail
 refine (laws_eqStringS.calls k _ _ t98 _ _ t17 _ _ (Kd.R_reads' F103.out).2.2 (by rw [← (Kd.R_reads' F103.out).1]; exact (Kd.R_reads' F103.out).2.1) (Kd.R_reads' F22.out).2.2 (by rw [← (Kd.R_reads' F22.out).1]; exact (Kd.R_reads' F22.out).2.1) A107.out).mono ?_
 rintro e w108 ⟨rfl, hd⟩
 have hb := hd.below
 have SZ110 := Aside0.mk hb.size
 replace F12 := Aside0.mk (Kd.S_below F12.out hb)
 replace F22 := Aside0.mk (Kd.R_below F22.out hb)
 replace F32 := Aside0.mk (Kd.S_below F32.out hb)
 replace F42 := Aside0.mk (Kd.R_below F42.out hb)
 replace F57 := Aside0.mk (Kd.S_below F57.out hb)
 replace F93 := Aside0.mk (Kd.S_below F93.out hb)
 replace F103 := Aside0.mk (Kd.R_below F103.out hb)
 replace HB := Aside0.mk (below_step HB.out hb)
 clear hb hd
 go_wp2_with fail
 refine calls_of_args (args' := #[.slice Ao43 t79.length co44, .int .i64 (1)]) (by rw [show t37.length = t79.length from (Kd.R_reads' F42.out).1]) ?_
 refine (laws_heldStringS.calls k _ _ t79 1 _ _ (Kd.R_reads' F42.out).2.2 (by rw [← (Kd.R_reads' F42.out).1]; exact (Kd.R_reads' F42.out).2.1) A111.out).mono ?_
 rintro e w112 ⟨rfl, hb⟩
 have SZ114 := Aside0.mk hb.size
 replace F12 := Aside0.mk (Kd.S_below F12.out hb)
 replace F22 := Aside0.mk (Kd.R_below F22.out hb)
 replace F32 := Aside0.mk (Kd.S_below F32.out hb)
 replace F42 := Aside0.mk (Kd.R_below F42.out hb)
 replace F57 := Aside0.mk (Kd.S_below F57.out hb)
 replace F93 := Aside0.mk (Kd.S_below F93.out hb)
 replace F103 := Aside0.mk (Kd.R_below F103.out hb)
 replace HB := Aside0.mk (below_step HB.out hb)
 clear hb
 go_wp2
 go_ret
 exact ⟨eZ, bZ⟩
end Go.Proofs.YtadaegehdcngdaaDoor.XU
end

section
namespace Go.Proofs.YtadaegehdcngdaaDoor.Open
open Go.ChangeShapes Go.WideShapes Go.RowKit Go.Proofs.YtadaegehdcngdaaDoorW.PrintWords
set_option linter.unusedVariables false
def Opens (P : Program) (t : TypeId) {α : Type} (d : Kd α) (Q : α → Prop) : Prop :=
  P.cellsOf t = d.sz ∧ ∀ (H : Type) (enc : TypeId × Value → H) (w : World) (base : Nat) (spare : Nat → Bool) (held : Bool) (fuel : Nat) (cs : List Value) (x : DataW H × List MemPlace),
    DataW.trod enc P w base spare held fuel t cs = some x → ∃ a : α, d.K w a cs ∧ Q a
theorem Opens.int {P : Program} {t : TypeId} {k : IntKind} (hu : P.underlying t = some (.int k)) (hc : P.cellsOf t = 1) : Opens P t (Kd.int k) (fun n => (Lit.int k n).wf = true) := by
  refine ⟨hc, fun H enc w base spare held fuel cs x h => ?_⟩
  obtain ⟨n, rfl, _, hw⟩ := DataW.trod_int hu h
  exact ⟨n, rfl, hw⟩
theorem Opens.bool {P : Program} {t : TypeId} (hu : P.underlying t = some .bool) (hc : P.cellsOf t = 1) : Opens P t Kd.bool (fun _ => True) := by
  refine ⟨hc, fun H enc w base spare held fuel cs x h => ?_⟩
  obtain ⟨b, rfl, _⟩ := DataW.trod_bool hu h
  exact ⟨b, rfl, trivial⟩
theorem Opens.string {P : Program} {t : TypeId} (hu : P.underlying t = some .string) (hc : P.cellsOf t = 1) : Opens P t Kd.string (fun s => s.size ≤ maxLen) := by
  refine ⟨hc, fun H enc w base spare held fuel cs x h => ?_⟩
  obtain ⟨s, rfl, _, hs⟩ := DataW.trod_string hu h
  exact ⟨s, rfl, hs⟩
theorem choose_list {α : Type} {n : Nat} {p : Nat → α → Prop} (h : ∀ i, i < n → ∃ x, p i x) : ∃ l : List α, l.length = n ∧ ∀ i x, l[i]? = some x → p i x := by
  induction n with
  | zero => exact ⟨[], rfl, fun i x hx => by simp at hx⟩
  | succ n ih =>
    obtain ⟨l, hl, hp⟩ := ih (fun i hi => h i (by omega))
    obtain ⟨x, hx⟩ := h n (by omega)
    refine ⟨l ++ [x], by simp [hl], fun i y hy => ?_⟩
    rcases Nat.lt_or_ge i l.length with hi | hi
    · rw [List.getElem?_append_left hi] at hy
      exact hp i y hy
    · have : i = l.length := by
        have := (List.getElem?_eq_some_iff.1 hy).1
        simp at this
        omega
      subst this
      simp at hy
      subst hy
      rw [hl]
      exact hx
theorem cells?_get {w : World} {base : Nat} {a : Addr} {n : Nat} {cs : List Value} (h : w.cells? base a n = some cs) (i : Nat) (u : Value) (hu : cs[i]? = some u) : w.cell? (a.add i) = some u := by
  unfold World.cells? at h
  split at h
  · have hlen : cs.length = n := by simpa using mapM_some_length h
    have hi : i < n := by
      have := (List.getElem?_eq_some_iff.1 hu).1
      omega
    have := mapM_some_get h i i (by simp [hi])
    rw [hu] at this
    exact this
  · cases h
theorem Opens.slice {P : Program} {t e : TypeId} {α : Type} {d : Kd α} {Q : α → Prop} (hu : P.underlying t = some (.slice e)) (hc : P.cellsOf t = 1) (hd : Opens P e d Q) :
    Opens P t (Kd.slice e d) (fun xs => xs.length ≤ maxLen ∧ ∀ x ∈ xs, Q x) := by
  refine ⟨hc, fun H enc w base spare held fuel cs x h => ?_⟩
  rcases Go.Deep.open_slice hu h with ⟨rfl, _⟩ | ⟨a, len, cap, m, n, D, Pl, rfl, _, hl, hm, hmm, _, hx⟩
  · exact ⟨[], ⟨none, 0, rfl, Nat.le_refl _, rfl, by simp, fun h => absurd h (by simp)⟩, by simp, fun x hx => by simp at hx⟩
  · have hlm : len ≤ m := by rw [hmm]; split <;> omega
    obtain ⟨l, hl1, hp⟩ := choose_list (n := len) (p := fun i (x : α) => ∃ cs', w.cells? base (a.add (i * d.sz)) d.sz = some cs' ∧ d.K w x cs' ∧ Q x) (fun i hi => by
      obtain ⟨cs', h1, h2⟩ := hx i (by omega)
      rw [hd.1] at h1
      obtain ⟨y, hy, hq⟩ := hd.2 H enc w base spare held n cs' _ h2
      exact ⟨y, cs', h1, hy, hq⟩)
    have hmax : (maxLen : Nat) = 9223372036854775807 := by unfold maxLen; omega
    refine ⟨l, ⟨some a, cap, by rw [hl1], by omega, rfl, by omega, fun _ => ⟨a, rfl, fun j p hj => ?_⟩⟩, by omega, fun x hx => ?_⟩
    · obtain ⟨cs', h1, h2, _⟩ := hp j p hj
      refine ⟨cs', d.K_len h2, h2, fun i u hi => ?_⟩
      have := cells?_get h1 i u hi
      rwa [Go.Deep.add_add] at this
    · obtain ⟨i, hi, rfl⟩ := List.mem_iff_getElem.1 hx
      obtain ⟨cs', _, _, h3⟩ := hp i _ (List.getElem?_eq_getElem hi)
      exact h3
def OpensF (P : Program) (fs : List Field) (off : Nat) {α : Type} (d : Kd α) (Q : α → Prop) : Prop :=
  ∀ (H : Type) (enc : TypeId × Value → H) (w : World) (base : Nat) (spare : Nat → Bool) (held : Bool) (n : Nat) (cs : List Value), off + d.sz = cs.length →
    (∀ f ∈ fs, ∃ y, DataW.trod enc P w base spare held n f.type ((cs.drop f.offset).take (P.cellsOf f.type)) = some y) → ∃ a : α, d.K w a (cs.drop off) ∧ Q a
theorem OpensF.one {P : Program} {f : Field} {off : Nat} {α : Type} {d : Kd α} {Q : α → Prop} (ho : f.offset = off) (h : Opens P f.type d Q) : OpensF P [f] off d Q := by
  intro H enc w base spare held n cs hl hf
  obtain ⟨y, hy⟩ := hf f List.mem_cons_self
  rw [ho, h.1, List.take_of_length_le (by rw [List.length_drop]; omega)] at hy
  exact h.2 H enc w base spare held n _ y hy
theorem OpensF.cons {P : Program} {f : Field} {fs : List Field} {off : Nat} {α β : Type} {d1 : Kd α} {d2 : Kd β} {Q1 : α → Prop} {Q2 : β → Prop} (ho : f.offset = off) (h : Opens P f.type d1 Q1) (hs : OpensF P fs (off + d1.sz) d2 Q2) :
    OpensF P (f :: fs) off (Kd.pair d1 d2) (fun x => Q1 x.1 ∧ Q2 x.2) := by
  intro H enc w base spare held n cs hl hf
  have hl' : off + (d1.sz + d2.sz) = cs.length := hl
  obtain ⟨y, hy⟩ := hf f List.mem_cons_self
  rw [ho, h.1] at hy
  obtain ⟨a, ha, qa⟩ := h.2 H enc w base spare held n _ y hy
  obtain ⟨b, hb, qb⟩ := hs H enc w base spare held n cs (by omega) (fun g hg => hf g (List.mem_cons_of_mem _ hg))
  refine ⟨(a, b), ⟨_, _, ?_, ha, hb⟩, qa, qb⟩
  rw [← List.drop_drop, List.take_append_drop]
theorem open_sl {H : Type} {enc : TypeId × Value → H} {P : Program} {W : World} {base B : Nat} {spare : Nat → Bool} {held : Bool} {t e : TypeId} {v : Value} {dd : DataW H} {ps : List MemPlace} {α : Type} {d : Kd α} {Q : α → Prop}
    (hu : P.underlying t = some (.slice e)) (hc : P.cellsOf t = 1) (hd : Opens P e d Q) (hv : Value.okWide P W .any B t v) (h : DataW.Trod enc P W base spare held t v dd ps) :
    ∃ (A : Option Addr) (c : Nat) (l : List α), v = .slice A l.length c ∧ l.length ≤ c ∧ Kd.C d W A l.length l ∧ l.length ≤ maxLen ∧ ∀ x ∈ l, Q x := by
  obtain ⟨a0, len, cap, rfl⟩ := okWide_slice hu hv
  obtain ⟨fuel, hf⟩ := h
  obtain ⟨l, ⟨A, c, he, hl, hC⟩, hm, hq⟩ := (Opens.slice hu hc hd).2 H enc W base spare held fuel _ _ hf
  refine ⟨A, c, l, ?_, hl, hC, hm, hq⟩
  simpa [Value.cells] using he
end Go.Proofs.YtadaegehdcngdaaDoor.Open
end

section
namespace Go.Proofs.YtadaegehdcngdaaDoor.XU
open Go.RowKit Go.Proofs.YtadaegehdcngdaaDoorW.PrintWords
def laws_FnExactTableLines.Pure : Prop := ∀ (a0 : List (List ByteArray)), ((a0.length ≤ maxLen ∧ ∀ y2 ∈ a0, (y2.length ≤ maxLen ∧ ∀ y2y ∈ y2, y2y.size ≤ maxLen))) → ∃ k, laws_FnExactTableLines.f k a0 = some true
end Go.Proofs.YtadaegehdcngdaaDoor.XU
end

section
namespace Go.Proofs.YtadaegehdcngdaaDoor.EvK
open Go.RowKit Go.Proofs.YtadaegehdcngdaaDoorW.PrintWords
set_option linter.unusedVariables false
theorem w64 {n : Int} (h : -9223372036854775808 ≤ n) (h' : n ≤ 9223372036854775807) : wrap64 n = n := by unfold wrap64; omega
theorem Ev.some {α : Type} {a r : α} (h : a = r) : Ev (fun _ => Option.some a) r := h ▸ Ev.now a
theorem Ev.bind_some {α β : Type} {g : Nat → Option α} {f : Nat → α → Option β} {a : α} {r : β} (h : Ev g a) (k : Ev (fun n => f n a) r) : Ev (fun n => (g n).bind (f n)) r := Ev.bind h k
theorem getD_at {α : Type} (l : List α) (d : α) (i : Nat) (h : i < l.length) : l.getD (i : Int).toNat d = l[i] := by
  simp [List.getD_eq_getElem?_getD, List.getElem?_eq_getElem h]
theorem rdOf_at {α : Type} (l : List α) (d : α) (i : Nat) (h : i < l.length) : rdOf d l (i : Int) = l[i] := getD_at l d i h
theorem map_done {α β : Type} (f : α → β) (l : List α) (z : β) (i : Nat) (h : i < l.length) :
    ((l.take i).map f ++ List.replicate (l.length - i) z).set i (f l[i]) = (l.take (i + 1)).map f ++ List.replicate (l.length - (i + 1)) z := by
  have e : l.length - i = (l.length - (i + 1)) + 1 := by omega
  rw [List.set_append_right _ _ (by simp; omega), e, List.replicate_succ]
  have e2 : i - ((l.take i).map f).length = 0 := by simp; omega
  rw [e2, List.set_cons_zero, List.take_succ_eq_append_getElem h, List.map_append]
  simp
theorem done_len {α β : Type} (f : α → β) (l : List α) (z : β) (i : Nat) (h : i ≤ l.length) : ((l.take i).map f ++ List.replicate (l.length - i) z).length = l.length := by simp; omega
def EvP {α : Type} (g : Nat → Option α) (P : α → Prop) : Prop := ∃ r, Ev g r ∧ P r
theorem EvP.now {α : Type} {r : α} {P : α → Prop} (h : P r) : EvP (fun _ => Option.some r) P := ⟨r, Ev.now r, h⟩
theorem EvP.of {α : Type} {g : Nat → Option α} {r : α} {P : α → Prop} (h : Ev g r) (hp : P r) : EvP g P := ⟨r, h, hp⟩
theorem EvP.mono {α : Type} {g : Nat → Option α} {P Q : α → Prop} (h : EvP g P) (hp : ∀ r, P r → Q r) : EvP g Q := by
  obtain ⟨r, h1, h2⟩ := h
  exact ⟨r, h1, hp _ h2⟩
theorem EvP.eq {α : Type} {g : Nat → Option α} {r : α} (h : EvP g (· = r)) : Ev g r := by
  obtain ⟨r', h, rfl⟩ := h
  exact h
theorem EvP.step {α : Type} {g f : Nat → Option α} {P : α → Prop} (h : ∀ k, g (k + 1) = f k) (k : EvP f P) : EvP g P := by
  obtain ⟨r, h1, h2⟩ := k
  exact ⟨r, Ev.step h h1, h2⟩
theorem EvP.bind {α β : Type} {g : Nat → Option α} {f : Nat → α → Option β} {a : α} {P : β → Prop} (h : Ev g a) (k : EvP (fun n => f n a) P) : EvP (fun n => (g n).bind (f n)) P := by
  obtain ⟨r, h1, h2⟩ := k
  exact ⟨r, Ev.bind h h1, h2⟩
theorem EvP.bindP {α β : Type} {g : Nat → Option α} {f : Nat → α → Option β} {Q : α → Prop} {P : β → Prop} (h : EvP g Q) (k : ∀ a, Q a → EvP (fun n => f n a) P) : EvP (fun n => (g n).bind (f n)) P := by
  obtain ⟨a, ha, hq⟩ := h
  exact EvP.bind ha (k a hq)
theorem EvP.rounds {α : Type} {g : Nat → Option α} {r : α} (h : EvP g (· = r)) : ∃ k, g k = Option.some r := Ev.rounds (EvP.eq h)
theorem for_evp {σ ρ : Type} {L : Nat → σ → Int → Option ρ} {Post : ρ → Prop} (n : Nat) (inv : Nat → σ → Prop)
    (step : ∀ (i : Nat) (s : σ), i < n → inv i s → (∀ s', inv (i + 1) s' → EvP (fun k => L k s' ((i : Int) + 1)) Post) → EvP (fun k => L k s i) Post)
    (fin : ∀ s, inv n s → EvP (fun k => L k s n) Post) (s : σ) (h0 : inv 0 s) : EvP (fun k => L k s 0) Post := by
  have key : ∀ (d i : Nat) (s : σ), i + d = n → inv i s → EvP (fun k => L k s i) Post := by
    intro d
    induction d with
    | zero =>
      intro i s hi hs
      obtain rfl : i = n := by omega
      exact fin s hs
    | succ d ih =>
      intro i s hi hs
      refine step i s (by omega) hs (fun s' hs' => ?_)
      simpa using ih (i + 1) s' (by omega) hs'
  simpa using key n 0 s (by omega) h0
theorem take_all {α : Type} {p : α → Prop} {l : List α} {i : Nat} (h : i < l.length) (hs : ∀ x ∈ l.take i, p x) (hx : p l[i]) : ∀ x ∈ l.take (i + 1), p x := by
  rw [List.take_succ_eq_append_getElem h]
  intro x hm
  rcases List.mem_append.1 hm with hm | hm
  · exact hs x hm
  · rw [List.mem_singleton.1 hm]
    exact hx
theorem set_done {α : Type} (E : Nat → α) (l : List α) (i : Nat) (h : i < l.length) : ((List.range i).map E ++ l.drop i).set i (E i) = (List.range (i + 1)).map E ++ l.drop (i + 1) := by
  rw [List.set_append_right _ _ (by simp), List.range_succ, List.map_append, List.append_assoc]
  congr 1
  rw [List.length_map, List.length_range, Nat.sub_self, List.drop_eq_getElem_cons h]
  rfl
theorem getD_set_self {α : Type} (l : List α) (i : Nat) (v d : α) (h : i < l.length) : (l.set i v).getD i d = v := by
  simp [List.getD_eq_getElem?_getD, h]
theorem all_ev {α : Type} {L : Nat → Int → Option Bool} (l : List α) (p : α → Bool) (b : Bool)
    (step : ∀ (i : Nat) (h : i < l.length), p l[i] = true → ∀ P, EvP (fun k => L k ((i : Int) + 1)) P → EvP (fun k => L k i) P)
    (stop : ∀ (i : Nat) (h : i < l.length), p l[i] = false → Ev (fun k => L k i) false)
    (fin : Ev (fun k => L k l.length) b) : Ev (fun k => L k 0) (l.all p && b) := by
  apply EvP.eq
  refine for_evp (L := fun k (_ : Unit) i => L k i) l.length (fun i _ => ∀ x ∈ l.take i, p x = true) ?_ ?_ () (by simp)
  · intro i _ hi hs K
    cases hp : p l[i] with
    | true => exact step i hi hp _ (K () (take_all hi hs hp))
    | false =>
      have e : l.all p = false := by
        rw [List.all_eq_false]
        exact ⟨l[i], List.getElem_mem hi, by simp [hp]⟩
      rw [e]
      exact EvP.of (stop i hi hp) rfl
  · intro _ hs
    have e : l.all p = true := by
      rw [List.all_eq_true]
      simpa using hs
    rw [e]
    exact EvP.of fin rfl
theorem bytes_at_ (s : ByteArray) (i : Nat) (h : i < s.data.toList.length) : bt s (i : Int) = ((s.data.toList[i]).toNat : Int) := by
  have h' : i < s.size := by simpa using h
  unfold bt
  rw [dif_pos (by simpa using h')]
  simp
  rfl
theorem size_len (s : ByteArray) : (s.size : Int) = (s.data.toList.length : Int) := by simp
theorem size_len' (s : ByteArray) : s.size = s.data.toList.length := by simp
end Go.Proofs.YtadaegehdcngdaaDoor.EvK
end
