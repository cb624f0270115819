/- The law FnExactSameDesk: part 10 of its texts, joined (wip/pack.py). -/
import Derived.Test.YtmfhncjkfhdlcaaKFnExactSameDeska
import Derived.Test.YtmfhncjkfhdlcaaKFnExactSameDeskb
import Derived.Test.YtmfhncjkfhdlcaaKFnExactSameDeskc
import Derived.Test.YtmfhncjkfhdlcaaKFnExactSameDeskd
import Derived.Test.YtmfhncjkfhdlcaaKFnExactSameDeske
import Derived.Test.YtmfhncjkfhdlcaaKFnExactSameDeskf
import Derived.Test.YtmfhncjkfhdlcaaKFnExactSameDeskg
import Derived.Test.YtmfhncjkfhdlcaaKFnExactSameDeskh
import Derived.Test.YtmfhncjkfhdlcaaKFnExactSameDeski
import Derived.Test.YtmfhncjkfhdlcaaKFnExactSameDeskj
import Derived.Deep.MidRow
import Derived.Deep.Slices
import Derived.SizedLaws
import Derived.ChangeArms
import Derived.WideShapes
import Derived.KernelRfl
import Derived.Lib.IndexLaws
import Derived.Lib.IndexBytes
import Derived.Lib.IndexMore
import Derived.Lib.Strings

section
namespace Go.Proofs.Ytmfhncjkfhdlcaa.XM
open Go.RowKit Go.Proofs.YtmfhncjkfhdlcaaW.PrintWords Go.Proofs.YtmfhncjkfhdlcaaW.PrintLast Go.Proofs.YtmfhncjkfhdlcaaW.PrintMore
attribute [local go_sem] run_eql_slice_nil binOp_string_gtr' binOp_string_leq' binOp_string_geq' max2_int min2_int max_two min_two max_three min_three max_four min_four   -- for this text's walks alone
set_option linter.unusedVariables false
set_option linter.unusedSimpArgs false
structure laws_FnExactSameDesk.DA where
 l0 : List Int
 l1 : List (S136)
 l2 : List Int
 l3 : List (S104)
 l4 : List (S106)
 l5 : List (S108)
 a6 : Int
 a7 : Int
 a8 : Int
 l9 : List (S110)
 l10 : List (S112)
 l11 : List (S114)
 l12 : List (S116)
def laws_FnExactSameDesk.CA (w : World) (cs : Array Value) (d : laws_FnExactSameDesk.DA) : Prop := ∃ (A0 : Option Addr) (c0 : Nat) (A1 : Option Addr) (c1 : Nat) (A2 : Option Addr) (c2 : Nat) (A3 : Option Addr) (c3 : Nat) (A4 : Option Addr) (c4 : Nat) (A5 : Option Addr) (c5 : Nat) (A9 : Option Addr) (c9 : Nat) (A10 : Option Addr) (c10 : Nat) (A11 : Option Addr) (c11 : Nat) (A12 : Option Addr) (c12 : Nat), cs = #[.slice A0 d.l0.length c0, .slice A1 d.l1.length c1, .slice A2 d.l2.length c2, .slice A3 d.l3.length c3, .slice A4 d.l4.length c4, .slice A5 d.l5.length c5, .int .i64 d.a6, .int .i64 d.a7, .int .i64 d.a8, .slice A9 d.l9.length c9, .slice A10 d.l10.length c10, .slice A11 d.l11.length c11, .slice A12 d.l12.length c12] ∧ (Kd.C (Kd.int .i64) w A0 d.l0.length d.l0 ∧ d.l0.length ≤ c0) ∧ (Kd.C k136 w A1 d.l1.length d.l1 ∧ d.l1.length ≤ c1) ∧ (Kd.C (Kd.int .i64) w A2 d.l2.length d.l2 ∧ d.l2.length ≤ c2) ∧ (Kd.C k104 w A3 d.l3.length d.l3 ∧ d.l3.length ≤ c3) ∧ (Kd.C k106 w A4 d.l4.length d.l4 ∧ d.l4.length ≤ c4) ∧ (Kd.C k108 w A5 d.l5.length d.l5 ∧ d.l5.length ≤ c5) ∧ (Kd.C k110 w A9 d.l9.length d.l9 ∧ d.l9.length ≤ c9) ∧ (Kd.C k112 w A10 d.l10.length d.l10 ∧ d.l10.length ≤ c10) ∧ (Kd.C k114 w A11 d.l11.length d.l11 ∧ d.l11.length ≤ c11) ∧ (Kd.C k116 w A12 d.l12.length d.l12 ∧ d.l12.length ≤ c12)
theorem laws_FnExactSameDesk.CA.below {w w' : World} {cs : Array Value} {d : laws_FnExactSameDesk.DA} (h : laws_FnExactSameDesk.CA w cs d) (hb : Below w.heap.size w w') : laws_FnExactSameDesk.CA w' cs d := by
 obtain ⟨A0, c0, A1, c1, A2, c2, A3, c3, A4, c4, A5, c5, A9, c9, A10, c10, A11, c11, A12, c12, rfl, ⟨h0, g0⟩, ⟨h1, g1⟩, ⟨h2, g2⟩, ⟨h3, g3⟩, ⟨h4, g4⟩, ⟨h5, g5⟩, ⟨h9, g9⟩, ⟨h10, g10⟩, ⟨h11, g11⟩, ⟨h12, g12⟩⟩ := h
 exact ⟨_, _, _, _, _, _, _, _, _, _, _, _, _, _, _, _, _, _, _, _, rfl, ⟨Kd.C_below h0 hb, g0⟩, ⟨Kd.C_below h1 hb, g1⟩, ⟨Kd.C_below h2 hb, g2⟩, ⟨Kd.C_below h3 hb, g3⟩, ⟨Kd.C_below h4 hb, g4⟩, ⟨Kd.C_below h5 hb, g5⟩, ⟨Kd.C_below h9 hb, g9⟩, ⟨Kd.C_below h10 hb, g10⟩, ⟨Kd.C_below h11 hb, g11⟩, ⟨Kd.C_below h12 hb, g12⟩⟩
theorem laws_FnExactSameDesk.CA.one {w : World} {cs : Array Value} {d : laws_FnExactSameDesk.DA} (h : laws_FnExactSameDesk.CA w cs d) : cs.size = 13 ∧ cs.all (·.oneCell') = true := by
 obtain ⟨A0, c0, A1, c1, A2, c2, A3, c3, A4, c4, A5, c5, A9, c9, A10, c10, A11, c11, A12, c12, rfl, ⟨h0, g0⟩, ⟨h1, g1⟩, ⟨h2, g2⟩, ⟨h3, g3⟩, ⟨h4, g4⟩, ⟨h5, g5⟩, ⟨h9, g9⟩, ⟨h10, g10⟩, ⟨h11, g11⟩, ⟨h12, g12⟩⟩ := h
 exact ⟨rfl, by first | rfl | simp [Value.oneCell']⟩
structure laws_FnExactSameDesk.DI where
 l0 : List Int
 l1 : List (S118)
 l2 : List Int
 l3 : List (S66)
 l4 : List (S71)
 l5 : List (S73)
 a6 : Int
 a7 : Int
 a8 : Int
 l9 : List (S75)
 l10 : List (S77)
 l11 : List (S79)
 l12 : List (S81)
def laws_FnExactSameDesk.CI (w : World) (cs : Array Value) (d : laws_FnExactSameDesk.DI) : Prop := ∃ (A0 : Option Addr) (c0 : Nat) (A1 : Option Addr) (c1 : Nat) (A2 : Option Addr) (c2 : Nat) (A3 : Option Addr) (c3 : Nat) (A4 : Option Addr) (c4 : Nat) (A5 : Option Addr) (c5 : Nat) (A9 : Option Addr) (c9 : Nat) (A10 : Option Addr) (c10 : Nat) (A11 : Option Addr) (c11 : Nat) (A12 : Option Addr) (c12 : Nat), cs = #[.slice A0 d.l0.length c0, .slice A1 d.l1.length c1, .slice A2 d.l2.length c2, .slice A3 d.l3.length c3, .slice A4 d.l4.length c4, .slice A5 d.l5.length c5, .int .i64 d.a6, .int .i64 d.a7, .int .i64 d.a8, .slice A9 d.l9.length c9, .slice A10 d.l10.length c10, .slice A11 d.l11.length c11, .slice A12 d.l12.length c12] ∧ (Kd.C (Kd.int .i64) w A0 d.l0.length d.l0 ∧ d.l0.length ≤ c0) ∧ (Kd.C k118 w A1 d.l1.length d.l1 ∧ d.l1.length ≤ c1) ∧ (Kd.C (Kd.int .i64) w A2 d.l2.length d.l2 ∧ d.l2.length ≤ c2) ∧ (Kd.C k66 w A3 d.l3.length d.l3 ∧ d.l3.length ≤ c3) ∧ (Kd.C k71 w A4 d.l4.length d.l4 ∧ d.l4.length ≤ c4) ∧ (Kd.C k73 w A5 d.l5.length d.l5 ∧ d.l5.length ≤ c5) ∧ (Kd.C k75 w A9 d.l9.length d.l9 ∧ d.l9.length ≤ c9) ∧ (Kd.C k77 w A10 d.l10.length d.l10 ∧ d.l10.length ≤ c10) ∧ (Kd.C k79 w A11 d.l11.length d.l11 ∧ d.l11.length ≤ c11) ∧ (Kd.C k81 w A12 d.l12.length d.l12 ∧ d.l12.length ≤ c12)
theorem laws_FnExactSameDesk.CI.below {w w' : World} {cs : Array Value} {d : laws_FnExactSameDesk.DI} (h : laws_FnExactSameDesk.CI w cs d) (hb : Below w.heap.size w w') : laws_FnExactSameDesk.CI w' cs d := by
 obtain ⟨A0, c0, A1, c1, A2, c2, A3, c3, A4, c4, A5, c5, A9, c9, A10, c10, A11, c11, A12, c12, rfl, ⟨h0, g0⟩, ⟨h1, g1⟩, ⟨h2, g2⟩, ⟨h3, g3⟩, ⟨h4, g4⟩, ⟨h5, g5⟩, ⟨h9, g9⟩, ⟨h10, g10⟩, ⟨h11, g11⟩, ⟨h12, g12⟩⟩ := h
 exact ⟨_, _, _, _, _, _, _, _, _, _, _, _, _, _, _, _, _, _, _, _, rfl, ⟨Kd.C_below h0 hb, g0⟩, ⟨Kd.C_below h1 hb, g1⟩, ⟨Kd.C_below h2 hb, g2⟩, ⟨Kd.C_below h3 hb, g3⟩, ⟨Kd.C_below h4 hb, g4⟩, ⟨Kd.C_below h5 hb, g5⟩, ⟨Kd.C_below h9 hb, g9⟩, ⟨Kd.C_below h10 hb, g10⟩, ⟨Kd.C_below h11 hb, g11⟩, ⟨Kd.C_below h12 hb, g12⟩⟩
theorem laws_FnExactSameDesk.CI.one {w : World} {cs : Array Value} {d : laws_FnExactSameDesk.DI} (h : laws_FnExactSameDesk.CI w cs d) : cs.size = 13 ∧ cs.all (·.oneCell') = true := by
 obtain ⟨A0, c0, A1, c1, A2, c2, A3, c3, A4, c4, A5, c5, A9, c9, A10, c10, A11, c11, A12, c12, rfl, ⟨h0, g0⟩, ⟨h1, g1⟩, ⟨h2, g2⟩, ⟨h3, g3⟩, ⟨h4, g4⟩, ⟨h5, g5⟩, ⟨h9, g9⟩, ⟨h10, g10⟩, ⟨h11, g11⟩, ⟨h12, g12⟩⟩ := h
 exact ⟨rfl, by first | rfl | simp [Value.oneCell']⟩
def laws_FnExactSameDesk.szf (k : Nat) (d : laws_FnExactSameDesk.DA) (a : Int) : Option Int := laws_szDesk.f k d.l0 d.l1 d.l2 d.l3 d.l4 d.l5 d.a6 d.a7 d.a8 d.l9 d.l10 d.l11 d.l12 a
def laws_FnExactSameDesk.tof (k : Nat) (d : laws_FnExactSameDesk.DA) : Option laws_FnExactSameDesk.DI := (laws_toDesk.f k d.l0 d.l1 d.l2 d.l3 d.l4 d.l5 d.a6 d.a7 d.a8 d.l9 d.l10 d.l11 d.l12).map fun t => ⟨t.1, t.2.1, t.2.2.1, t.2.2.2.1, t.2.2.2.2.1, t.2.2.2.2.2.1, t.2.2.2.2.2.2.1, t.2.2.2.2.2.2.2.1, t.2.2.2.2.2.2.2.2.1, t.2.2.2.2.2.2.2.2.2.1, t.2.2.2.2.2.2.2.2.2.2.1, t.2.2.2.2.2.2.2.2.2.2.2.1, t.2.2.2.2.2.2.2.2.2.2.2.2⟩
def laws_FnExactSameDesk.spf (k : Nat) (d e : laws_FnExactSameDesk.DI) : Option Bool := spec_SameDesk.f k d.l0 d.l1 d.l2 d.l3 d.l4 d.l5 d.a6 d.a7 d.a8 d.l9 d.l10 d.l11 d.l12 e.l0 e.l1 e.l2 e.l3 e.l4 e.l5 e.a6 e.a7 e.a8 e.l9 e.l10 e.l11 e.l12
def laws_FnExactSameDesk.imf (k : Nat) (d e : laws_FnExactSameDesk.DI) : Option Bool := impl_SameDesk.f k d.l0 d.l1 d.l2 d.l3 d.l4 d.l5 d.a6 d.a7 d.a8 d.l9 d.l10 d.l11 d.l12 e.l0 e.l1 e.l2 e.l3 e.l4 e.l5 e.a6 e.a7 e.a8 e.l9 e.l10 e.l11 e.l12
def laws_FnExactSameDesk.eqf (k : Nat) (d e : laws_FnExactSameDesk.DI) : Option Bool := laws_eqDesk.f k d.l0 d.l1 d.l2 d.l3 d.l4 d.l5 d.a6 d.a7 d.a8 d.l9 d.l10 d.l11 d.l12 e.l0 e.l1 e.l2 e.l3 e.l4 e.l5 e.a6 e.a7 e.a8 e.l9 e.l10 e.l11 e.l12
theorem laws_FnExactSameDesk.szc (k : Nat) {d : laws_FnExactSameDesk.DA} {a r : Int} {w : World} {cs : Array Value} (h : laws_FnExactSameDesk.CA w cs d) (hf : laws_FnExactSameDesk.szf k d a = some r) : Calls Try.prog 4 #[.agg cs, .int .i64 a] w fun e w' => e = .returned (.int .i64 r) ∧ Below w.heap.size w w' := by
 obtain ⟨A0, c0, A1, c1, A2, c2, A3, c3, A4, c4, A5, c5, A9, c9, A10, c10, A11, c11, A12, c12, rfl, ⟨h0, g0⟩, ⟨h1, g1⟩, ⟨h2, g2⟩, ⟨h3, g3⟩, ⟨h4, g4⟩, ⟨h5, g5⟩, ⟨h9, g9⟩, ⟨h10, g10⟩, ⟨h11, g11⟩, ⟨h12, g12⟩⟩ := h
 exact laws_szDesk.calls k A0 c0 d.l0 A1 c1 d.l1 A2 c2 d.l2 A3 c3 d.l3 A4 c4 d.l4 A5 c5 d.l5 d.a6 d.a7 d.a8 A9 c9 d.l9 A10 c10 d.l10 A11 c11 d.l11 A12 c12 d.l12 a r w h0 g0 h1 g1 h2 g2 h3 g3 h4 g4 h5 g5 h9 g9 h10 g10 h11 g11 h12 g12 hf
theorem laws_FnExactSameDesk.toc (k : Nat) {d : laws_FnExactSameDesk.DA} {r : laws_FnExactSameDesk.DI} {w : World} {cs : Array Value} (h : laws_FnExactSameDesk.CA w cs d) (hf : laws_FnExactSameDesk.tof k d = some r) : Calls Try.prog 6 #[.agg cs] w fun e w' => ∃ cs' : Array Value, e = .returned (.agg cs') ∧ laws_FnExactSameDesk.CI w' cs' r ∧ Below w.heap.size w w' := by
 obtain ⟨A0, c0, A1, c1, A2, c2, A3, c3, A4, c4, A5, c5, A9, c9, A10, c10, A11, c11, A12, c12, rfl, ⟨h0, g0⟩, ⟨h1, g1⟩, ⟨h2, g2⟩, ⟨h3, g3⟩, ⟨h4, g4⟩, ⟨h5, g5⟩, ⟨h9, g9⟩, ⟨h10, g10⟩, ⟨h11, g11⟩, ⟨h12, g12⟩⟩ := h
 unfold laws_FnExactSameDesk.tof at hf
 replace hf := Option.map_eq_some_iff.mp hf
 obtain ⟨⟨r1, r2, r3, r4, r5, r6, r7, r8, r9, r10, r11, r12, r13⟩, hf', rfl⟩ := hf
 refine (laws_toDesk.calls k A0 c0 d.l0 A1 c1 d.l1 A2 c2 d.l2 A3 c3 d.l3 A4 c4 d.l4 A5 c5 d.l5 d.a6 d.a7 d.a8 A9 c9 d.l9 A10 c10 d.l10 A11 c11 d.l11 A12 c12 d.l12 r1 r2 r3 r4 r5 r6 r7 r8 r9 r10 r11 r12 r13 w h0 g0 h1 g1 h2 g2 h3 g3 h4 g4 h5 g5 h9 g9 h10 g10 h11 g11 h12 g12 hf').mono ?_
 rintro e w' ⟨v0, v1, v2, v3, v4, v5, v9, v10, v11, v12, rfl, o0, o1, o2, o3, o4, o5, o9, o10, o11, o12, hb⟩
 obtain ⟨B0, b0, rfl⟩ := Kd.R_slice o0
 obtain ⟨B1, b1, rfl⟩ := Kd.R_slice o1
 obtain ⟨B2, b2, rfl⟩ := Kd.R_slice o2
 obtain ⟨B3, b3, rfl⟩ := Kd.R_slice o3
 obtain ⟨B4, b4, rfl⟩ := Kd.R_slice o4
 obtain ⟨B5, b5, rfl⟩ := Kd.R_slice o5
 obtain ⟨B9, b9, rfl⟩ := Kd.R_slice o9
 obtain ⟨B10, b10, rfl⟩ := Kd.R_slice o10
 obtain ⟨B11, b11, rfl⟩ := Kd.R_slice o11
 obtain ⟨B12, b12, rfl⟩ := Kd.R_slice o12
 have q0 := Kd.R_reads' o0
 have q1 := Kd.R_reads' o1
 have q2 := Kd.R_reads' o2
 have q3 := Kd.R_reads' o3
 have q4 := Kd.R_reads' o4
 have q5 := Kd.R_reads' o5
 have q9 := Kd.R_reads' o9
 have q10 := Kd.R_reads' o10
 have q11 := Kd.R_reads' o11
 have q12 := Kd.R_reads' o12
 exact ⟨_, rfl, ⟨_, _, _, _, _, _, _, _, _, _, _, _, _, _, _, _, _, _, _, _, rfl, ⟨q0.2.2, q0.2.1⟩, ⟨q1.2.2, q1.2.1⟩, ⟨q2.2.2, q2.2.1⟩, ⟨q3.2.2, q3.2.1⟩, ⟨q4.2.2, q4.2.1⟩, ⟨q5.2.2, q5.2.1⟩, ⟨q9.2.2, q9.2.1⟩, ⟨q10.2.2, q10.2.1⟩, ⟨q11.2.2, q11.2.1⟩, ⟨q12.2.2, q12.2.1⟩⟩, hb⟩
theorem laws_FnExactSameDesk.spc (k : Nat) {d e : laws_FnExactSameDesk.DI} {r : Bool} {w : World} {cs ct : Array Value} (h : laws_FnExactSameDesk.CI w cs d) (h' : laws_FnExactSameDesk.CI w ct e) (hf : laws_FnExactSameDesk.spf k d e = some r) : Calls Try.prog 5 #[.agg cs, .agg ct] w fun e w' => e = .returned (.bool r) ∧ Below w.heap.size w w' := by
 obtain ⟨A0, c0, A1, c1, A2, c2, A3, c3, A4, c4, A5, c5, A9, c9, A10, c10, A11, c11, A12, c12, rfl, ⟨h0, g0⟩, ⟨h1, g1⟩, ⟨h2, g2⟩, ⟨h3, g3⟩, ⟨h4, g4⟩, ⟨h5, g5⟩, ⟨h9, g9⟩, ⟨h10, g10⟩, ⟨h11, g11⟩, ⟨h12, g12⟩⟩ := h
 obtain ⟨A'0, c'0, A'1, c'1, A'2, c'2, A'3, c'3, A'4, c'4, A'5, c'5, A'9, c'9, A'10, c'10, A'11, c'11, A'12, c'12, rfl, ⟨h'0, g'0⟩, ⟨h'1, g'1⟩, ⟨h'2, g'2⟩, ⟨h'3, g'3⟩, ⟨h'4, g'4⟩, ⟨h'5, g'5⟩, ⟨h'9, g'9⟩, ⟨h'10, g'10⟩, ⟨h'11, g'11⟩, ⟨h'12, g'12⟩⟩ := h'
 exact spec_SameDesk.calls k A0 c0 d.l0 A1 c1 d.l1 A2 c2 d.l2 A3 c3 d.l3 A4 c4 d.l4 A5 c5 d.l5 d.a6 d.a7 d.a8 A9 c9 d.l9 A10 c10 d.l10 A11 c11 d.l11 A12 c12 d.l12 A'0 c'0 e.l0 A'1 c'1 e.l1 A'2 c'2 e.l2 A'3 c'3 e.l3 A'4 c'4 e.l4 A'5 c'5 e.l5 e.a6 e.a7 e.a8 A'9 c'9 e.l9 A'10 c'10 e.l10 A'11 c'11 e.l11 A'12 c'12 e.l12 r w h0 g0 h1 g1 h2 g2 h3 g3 h4 g4 h5 g5 h9 g9 h10 g10 h11 g11 h12 g12 h'0 g'0 h'1 g'1 h'2 g'2 h'3 g'3 h'4 g'4 h'5 g'5 h'9 g'9 h'10 g'10 h'11 g'11 h'12 g'12 hf
theorem laws_FnExactSameDesk.imc (k : Nat) {d e : laws_FnExactSameDesk.DI} {r : Bool} {w : World} {cs ct : Array Value} (h : laws_FnExactSameDesk.CI w cs d) (h' : laws_FnExactSameDesk.CI w ct e) (hf : laws_FnExactSameDesk.imf k d e = some r) : Calls Try.prog 7 #[.agg cs, .agg ct] w fun e w' => e = .returned (.bool r) ∧ Below w.heap.size w w' := by
 obtain ⟨A0, c0, A1, c1, A2, c2, A3, c3, A4, c4, A5, c5, A9, c9, A10, c10, A11, c11, A12, c12, rfl, ⟨h0, g0⟩, ⟨h1, g1⟩, ⟨h2, g2⟩, ⟨h3, g3⟩, ⟨h4, g4⟩, ⟨h5, g5⟩, ⟨h9, g9⟩, ⟨h10, g10⟩, ⟨h11, g11⟩, ⟨h12, g12⟩⟩ := h
 obtain ⟨A'0, c'0, A'1, c'1, A'2, c'2, A'3, c'3, A'4, c'4, A'5, c'5, A'9, c'9, A'10, c'10, A'11, c'11, A'12, c'12, rfl, ⟨h'0, g'0⟩, ⟨h'1, g'1⟩, ⟨h'2, g'2⟩, ⟨h'3, g'3⟩, ⟨h'4, g'4⟩, ⟨h'5, g'5⟩, ⟨h'9, g'9⟩, ⟨h'10, g'10⟩, ⟨h'11, g'11⟩, ⟨h'12, g'12⟩⟩ := h'
 exact impl_SameDesk.calls k A0 c0 d.l0 A1 c1 d.l1 A2 c2 d.l2 A3 c3 d.l3 A4 c4 d.l4 A5 c5 d.l5 d.a6 d.a7 d.a8 A9 c9 d.l9 A10 c10 d.l10 A11 c11 d.l11 A12 c12 d.l12 A'0 c'0 e.l0 A'1 c'1 e.l1 A'2 c'2 e.l2 A'3 c'3 e.l3 A'4 c'4 e.l4 A'5 c'5 e.l5 e.a6 e.a7 e.a8 A'9 c'9 e.l9 A'10 c'10 e.l10 A'11 c'11 e.l11 A'12 c'12 e.l12 r w h0 g0 h1 g1 h2 g2 h3 g3 h4 g4 h5 g5 h9 g9 h10 g10 h11 g11 h12 g12 h'0 g'0 h'1 g'1 h'2 g'2 h'3 g'3 h'4 g'4 h'5 g'5 h'9 g'9 h'10 g'10 h'11 g'11 h'12 g'12 hf
theorem laws_FnExactSameDesk.eqc (k : Nat) {d e : laws_FnExactSameDesk.DI} {r : Bool} {w : World} {cs ct : Array Value} (h : laws_FnExactSameDesk.CI w cs d) (h' : laws_FnExactSameDesk.CI w ct e) (hf : laws_FnExactSameDesk.eqf k d e = some r) : Calls Try.prog 8 #[.agg cs, .agg ct] w fun e w' => e = .returned (.bool r) ∧ Below w.heap.size w w' := by
 obtain ⟨A0, c0, A1, c1, A2, c2, A3, c3, A4, c4, A5, c5, A9, c9, A10, c10, A11, c11, A12, c12, rfl, ⟨h0, g0⟩, ⟨h1, g1⟩, ⟨h2, g2⟩, ⟨h3, g3⟩, ⟨h4, g4⟩, ⟨h5, g5⟩, ⟨h9, g9⟩, ⟨h10, g10⟩, ⟨h11, g11⟩, ⟨h12, g12⟩⟩ := h
 obtain ⟨A'0, c'0, A'1, c'1, A'2, c'2, A'3, c'3, A'4, c'4, A'5, c'5, A'9, c'9, A'10, c'10, A'11, c'11, A'12, c'12, rfl, ⟨h'0, g'0⟩, ⟨h'1, g'1⟩, ⟨h'2, g'2⟩, ⟨h'3, g'3⟩, ⟨h'4, g'4⟩, ⟨h'5, g'5⟩, ⟨h'9, g'9⟩, ⟨h'10, g'10⟩, ⟨h'11, g'11⟩, ⟨h'12, g'12⟩⟩ := h'
 exact laws_eqDesk.calls k A0 c0 d.l0 A1 c1 d.l1 A2 c2 d.l2 A3 c3 d.l3 A4 c4 d.l4 A5 c5 d.l5 d.a6 d.a7 d.a8 A9 c9 d.l9 A10 c10 d.l10 A11 c11 d.l11 A12 c12 d.l12 A'0 c'0 e.l0 A'1 c'1 e.l1 A'2 c'2 e.l2 A'3 c'3 e.l3 A'4 c'4 e.l4 A'5 c'5 e.l5 e.a6 e.a7 e.a8 A'9 c'9 e.l9 A'10 c'10 e.l10 A'11 c'11 e.l11 A'12 c'12 e.l12 r w h0 g0 h1 g1 h2 g2 h3 g3 h4 g4 h5 g5 h9 g9 h10 g10 h11 g11 h12 g12 h'0 g'0 h'1 g'1 h'2 g'2 h'3 g'3 h'4 g'4 h'5 g'5 h'9 g'9 h'10 g'10 h'11 g'11 h'12 g'12 hf
theorem laws_FnExactSameDesk.range {w : World} {g t : Nat} {cs : Array Value} (hb : w.heap[g]? = some (.cells cs t (0, 0))) : w.rangeAt g 0 cs.toList := by
 intro j v hv
 rw [Nat.zero_add, blk_cell hb, ← hv, Array.getElem?_toList]
section
variable {P : Program} {ops : Array Oper} {rest : List Oper} {o : Oper} {a : Act} {Q : Exit → Act → World → Prop} {W : World}
theorem laws_FnExactSameDesk.ld (t : TypeId) (x : Operand) (g : Nat) {cs : Array Value} {d : TypeDesc} (hgd : o.guard = none) (ho : o.op = .load t x) (hx : a.eval x = .pointer (some ⟨g, 0, none⟩)) (hb : W.heap[g]? = some (.cells cs t (0, 0)))
  (hu : P.underlying t = some d) (hd : d.isRow = true) (hi : (P.info? t).map (·.size) = some cs.size) (h : wpList P ops Q rest (a.put o.dst (.agg cs)) W) : wpList P ops Q (o :: rest) a W :=
 wpList_load_mid hgd t x ho g 0 hx cs.toList d (laws_FnExactSameDesk.range hb) hu hd (by simpa using hi) (by simpa using h)
theorem laws_FnExactSameDesk.run {w : World} {g t : Nat} {cs : Array Value} {d : TypeDesc} (hb : w.heap[g]? = some (.cells cs t (0, 0))) (hu : P.underlying t = some d) (hd : d.isRow = true) (hi : (P.info? t).map (·.size) = some cs.size) :
  (Instr.loadAt t (.pointer (some ⟨g, 0, none⟩))).run P w = .ok (.agg cs) w := by
 have := run_loadAt_mid (P := P) w g 0 t cs.toList d (laws_FnExactSameDesk.range hb) hu hd (by simpa using hi)
 simpa using this
theorem laws_FnExactSameDesk.runs {a : Act} {t : TypeId} {x : Operand} {g : Nat} {w : World} {cs : Array Value} {d : TypeDesc} (hb : w.heap[g]? = some (.cells cs t (0, 0))) (ho : o.op = .load t x) (hx : a.eval x = .pointer (some ⟨g, 0, none⟩)) (hu : P.underlying t = some d) (hd : d.isRow = true) (hi : (P.info? t).map (·.size) = some cs.size) : (execOp a.eval o).run P w = .ok (.value (.agg cs)) w := by
 unfold execOp
 simp only [ho, hx, Sem.run_bind, laws_FnExactSameDesk.run hb hu hd hi, Result.andThen_ok]
 rfl
theorem laws_FnExactSameDesk.boxes (w : World) (cs0 cs1 : Array Value) (t : TypeId) : ∃ g0 g1 w2, w.heap.size = g0 ∧ w.heap.size + 1 = g1 ∧ (w.alloc (.cells cs0 t (0, 0))).alloc (.cells cs1 t (0, 0)) = w2 ∧ w2.heap[g0]? = some (.cells cs0 t (0, 0)) ∧ w2.heap[g1]? = some (.cells cs1 t (0, 0)) ∧ Below w.heap.size w w2 := by
 refine ⟨_, _, _, rfl, rfl, rfl, ?_, ?_, below_alloc (below_alloc (Below.refl _ _) _) _⟩
 ·exact blk_below (blk_new w _) (below_alloc (Below.refl _ _) _)
 ·have := blk_new (w.alloc (.cells cs0 t (0, 0))) (.cells cs1 t (0, 0))
  rw [show (w.alloc (.cells cs0 t (0, 0))).heap.size = w.heap.size + 1 from Array.size_push ..] at this
  exact this
theorem laws_FnExactSameDesk.setAll (g t : Nat) : ∀ (vs pre suf : List Value) (w : World), w.heap[g]? = some (.cells (pre ++ suf).toArray t (0, 0)) → suf.length = vs.length → (w.setCells g pre.length vs).heap[g]? = some (.cells (pre ++ vs).toArray t (0, 0))
 | [], pre, suf, w, h, hl => by
  obtain rfl := List.length_eq_zero_iff.mp hl
  exact h
 | v :: vs, pre, [], w, h, hl => by simp at hl
 | v :: vs, pre, s :: suf, w, h, hl => by
  have h1 := blk_put h pre.length v (cs' := ((pre ++ [v]) ++ suf).toArray) (by simp)
  have := laws_FnExactSameDesk.setAll g t vs (pre ++ [v]) suf _ h1 (by simpa using hl)
  simpa [World.setCells] using this
theorem laws_FnExactSameDesk.setBelow (B g : Nat) (hg : B ≤ g) {w0 : World} : ∀ (vs : List Value) (i : Nat) (w : World), Below B w0 w → Below B w0 (w.setCells g i vs)
 | [], _, _, h => h
 | v :: vs, i, w, h => laws_FnExactSameDesk.setBelow B g hg vs (i + 1) _ (h.setCell hg _)
theorem laws_FnExactSameDesk.st (t : TypeId) (x y : Operand) (g : Nat) {cs zs : Array Value} (hgd : o.guard = none) (hdst : o.dst = none) (ho : o.op = .store t x y) (hx : a.eval x = .pointer (some ⟨g, 0, none⟩)) (hy : a.eval y = .agg cs)
  (hb : W.heap[g]? = some (.cells zs t (0, 0))) (hz : zs.size = cs.size) (hi : (P.info? t).map (·.size) = some cs.size) (h1 : cs.all (·.oneCell') = true)
  (h : ∀ w1, w1.heap[g]? = some (.cells cs t (0, 0)) → Below g W w1 → wpList P ops Q rest a w1) : wpList P ops Q (o :: rest) a W := by
 refine wpList_store_mid hgd t x y ho g 0 cs hx hy (fun j hj => ⟨by rw [Nat.zero_add, blk_cell hb]; simp [hz, hj], by rw [Nat.zero_add]; exact blk_frozen hb j⟩) hi h1 ?_
 rw [hdst]
 refine h _ ?_ (laws_FnExactSameDesk.setBelow g g (Nat.le_refl _) _ _ _ (Below.refl _ _))
 have := laws_FnExactSameDesk.setAll g t cs.toList [] zs.toList W (by simpa using hb) (by simpa using hz)
 simpa using this
end
def laws_FnExactSameDesk.F (k : Nat) (d e : laws_FnExactSameDesk.DA) : Option Bool := (laws_FnExactSameDesk.szf k d 1048576).bind fun t => if t < 0 then some true else (laws_FnExactSameDesk.szf k e t).bind fun u => if u < 0 then some true else (laws_FnExactSameDesk.tof k d).bind fun x => (laws_FnExactSameDesk.tof k e).bind fun y => (laws_FnExactSameDesk.spf k x y).bind fun s => (laws_FnExactSameDesk.imf k x y).bind fun g => if g = s then (laws_FnExactSameDesk.eqf k x x).bind fun e0 => if e0 = true then (laws_FnExactSameDesk.eqf k y y).bind fun e1 => if e1 = true then some true else none else none else none
def laws_FnExactSameDesk.f (k : Nat) (l0_0 : List Int) (l0_1 : List (S136)) (l0_2 : List Int) (l0_3 : List (S104)) (l0_4 : List (S106)) (l0_5 : List (S108)) (a0_6 : Int) (a0_7 : Int) (a0_8 : Int) (l0_9 : List (S110)) (l0_10 : List (S112)) (l0_11 : List (S114)) (l0_12 : List (S116)) (l1_0 : List Int) (l1_1 : List (S136)) (l1_2 : List Int) (l1_3 : List (S104)) (l1_4 : List (S106)) (l1_5 : List (S108)) (a1_6 : Int) (a1_7 : Int) (a1_8 : Int) (l1_9 : List (S110)) (l1_10 : List (S112)) (l1_11 : List (S114)) (l1_12 : List (S116)) : Option Bool := laws_FnExactSameDesk.F k ⟨l0_0, l0_1, l0_2, l0_3, l0_4, l0_5, a0_6, a0_7, a0_8, l0_9, l0_10, l0_11, l0_12⟩ ⟨l1_0, l1_1, l1_2, l1_3, l1_4, l1_5, a1_6, a1_7, a1_8, l1_9, l1_10, l1_11, l1_12⟩
set_option maxHeartbeats 4000000 in
set_option maxRecDepth 100000 in
theorem laws_FnExactSameDesk.walk (k : Nat) (cs0 cs1 : Array Value) (d0 d1 : laws_FnExactSameDesk.DA) (r : Bool) (w : World) (h0 : laws_FnExactSameDesk.CA w cs0 d0) (h1 : laws_FnExactSameDesk.CA w cs1 d1) (h : laws_FnExactSameDesk.F k d0 d1 = some r) :
  Calls Try.prog 3 #[.agg cs0, .agg cs1] w fun e w' => e = .returned (.bool r) ∧ Below w.heap.size w w' := by
 have HU0 := Aside0.mk Try.underlying36
 have HU1 := Aside0.mk Try.underlying51
 have HI0 := Aside0.mk (show (Try.prog.info? 36).map (·.size) = some 13 by kernel_rfl)
 have HI1 := Aside0.mk (show (Try.prog.info? 51).map (·.size) = some 13 by kernel_rfl)
 have HS0 := Aside0.mk h0.one
 have HS1 := Aside0.mk h1.one
 have HD0 := Aside0.mk h0
 have HD1 := Aside0.mk h1
 have HB := Aside0.mk (Below.refl w.heap.size w)
 clear h0 h1
 unfold laws_FnExactSameDesk.F at h
 replace h := Option.bind_eq_some_iff.mp h
 obtain ⟨t, A1_, h⟩ := h
 have A1 := Aside0.mk A1_
 clear A1_
 by_cases c1 : t < 0
 ·rw [if_pos c1] at h
  have c1b : decide (t < 0) = true := decide_eq_true c1
  clear c1
  obtain rfl := Option.some.inj h
  go_enter Try.func3, Try.ntmps3
  go_upto_region 1 with (fail)
  obtain ⟨g0, g1, w2, q0, q1, q2, k0, k1, hb⟩ := laws_FnExactSameDesk.boxes w cs0 cs1 36
  rw [q1, q0, q2]
  clear q0 q1 q2
  have BK0 := Aside0.mk k0
  have BK1 := Aside0.mk k1
  replace HB := Aside0.mk hb
  clear k0 k1 hb
  go_wp2_with (first | ((with_reducible refine gate_dst (N := 10) rfl ?_); refine laws_FnExactSameDesk.ld 36 (.tmp 2) g0 rfl rfl rfl BK0.out HU0.out rfl (by rw [HS0.out.1]; exact HI0.out) ?_))
  refine (laws_FnExactSameDesk.szc k (HD0.out.below HB.out) A1.out).mono ?_
  rintro e w3 ⟨rfl, hb⟩
  replace BK0 := Aside0.mk (blk_below BK0.out hb)
  replace BK1 := Aside0.mk (blk_below BK1.out hb)
  replace HB := Aside0.mk (below_step HB.out hb)
  clear hb
  go_wp2
  go_ret
  exact ⟨eZ, HB.out⟩
 rw [if_neg c1] at h
 have c1b : decide (t < 0) = false := decide_eq_false c1
 clear c1
 replace h := Option.bind_eq_some_iff.mp h
 obtain ⟨u, A2_, h⟩ := h
 have A2 := Aside0.mk A2_
 clear A2_
 by_cases c2 : u < 0
 ·rw [if_pos c2] at h
  have c2b : decide (u < 0) = true := decide_eq_true c2
  clear c2
  obtain rfl := Option.some.inj h
  go_enter Try.func3, Try.ntmps3
  go_upto_region 1 with (fail)
  obtain ⟨g0, g1, w2, q0, q1, q2, k0, k1, hb⟩ := laws_FnExactSameDesk.boxes w cs0 cs1 36
  rw [q1, q0, q2]
  clear q0 q1 q2
  have BK0 := Aside0.mk k0
  have BK1 := Aside0.mk k1
  replace HB := Aside0.mk hb
  clear k0 k1 hb
  go_wp2_with (first | ((with_reducible refine gate_dst (N := 10) rfl ?_); refine laws_FnExactSameDesk.ld 36 (.tmp 2) g0 rfl rfl rfl BK0.out HU0.out rfl (by rw [HS0.out.1]; exact HI0.out) ?_))
  refine (laws_FnExactSameDesk.szc k (HD0.out.below HB.out) A1.out).mono ?_
  rintro e w3 ⟨rfl, hb⟩
  replace BK0 := Aside0.mk (blk_below BK0.out hb)
  replace BK1 := Aside0.mk (blk_below BK1.out hb)
  replace HB := Aside0.mk (below_step HB.out hb)
  clear hb
  go_wp2_with (first | ((with_reducible refine gate_dst (N := 15) rfl ?_); refine laws_FnExactSameDesk.ld 36 (.tmp 3) g1 rfl rfl rfl BK1.out HU0.out rfl (by rw [HS1.out.1]; exact HI0.out) ?_))
  refine (laws_FnExactSameDesk.szc k (HD1.out.below HB.out) A2.out).mono ?_
  rintro e w4 ⟨rfl, hb⟩
  replace BK0 := Aside0.mk (blk_below BK0.out hb)
  replace BK1 := Aside0.mk (blk_below BK1.out hb)
  replace HB := Aside0.mk (below_step HB.out hb)
  clear hb
  go_wp2
  go_ret
  exact ⟨eZ, HB.out⟩
 rw [if_neg c2] at h
 have c2b : decide (u < 0) = false := decide_eq_false c2
 clear c2
 replace h := Option.bind_eq_some_iff.mp h
 obtain ⟨x, A3_, h⟩ := h
 have A3 := Aside0.mk A3_
 clear A3_
 replace h := Option.bind_eq_some_iff.mp h
 obtain ⟨y, A4_, h⟩ := h
 have A4 := Aside0.mk A4_
 clear A4_
 replace h := Option.bind_eq_some_iff.mp h
 obtain ⟨s, A5_, h⟩ := h
 have A5 := Aside0.mk A5_
 clear A5_
 replace h := Option.bind_eq_some_iff.mp h
 obtain ⟨g, A6_, h⟩ := h
 have A6 := Aside0.mk A6_
 clear A6_
 by_cases cc : g = s
 rotate_left
 ·rw [if_neg cc] at h; exact absurd h (by simp)
 rw [if_pos cc] at h
 subst cc
 replace h := Option.bind_eq_some_iff.mp h
 obtain ⟨e0, A7_, h⟩ := h
 have A7 := Aside0.mk A7_
 clear A7_
 by_cases cc : e0 = true
 rotate_left
 ·rw [if_neg cc] at h; exact absurd h (by simp)
 rw [if_pos cc] at h
 subst cc
 replace h := Option.bind_eq_some_iff.mp h
 obtain ⟨e1, A8_, h⟩ := h
 have A8 := Aside0.mk A8_
 clear A8_
 by_cases cc : e1 = true
 rotate_left
 ·rw [if_neg cc] at h; exact absurd h (by simp)
 rw [if_pos cc] at h
 subst cc
 obtain rfl := Option.some.inj h
 go_enter Try.func3, Try.ntmps3
 go_upto_region 1 with (fail)
 obtain ⟨g0, g1, w2, q0, q1, q2, k0, k1, hb⟩ := laws_FnExactSameDesk.boxes w cs0 cs1 36
 rw [q1, q0, q2]
 clear q0 q1 q2
 have BK0 := Aside0.mk k0
 have BK1 := Aside0.mk k1
 replace HB := Aside0.mk hb
 clear k0 k1 hb
 go_wp2_with (first | ((with_reducible refine gate_dst (N := 10) rfl ?_); refine laws_FnExactSameDesk.ld 36 (.tmp 2) g0 rfl rfl rfl BK0.out HU0.out rfl (by rw [HS0.out.1]; exact HI0.out) ?_))
 refine (laws_FnExactSameDesk.szc k (HD0.out.below HB.out) A1.out).mono ?_
 rintro e w3 ⟨rfl, hb⟩
 replace BK0 := Aside0.mk (blk_below BK0.out hb)
 replace BK1 := Aside0.mk (blk_below BK1.out hb)
 replace HB := Aside0.mk (below_step HB.out hb)
 clear hb
 go_wp2_with (first | ((with_reducible refine gate_dst (N := 15) rfl ?_); refine laws_FnExactSameDesk.ld 36 (.tmp 3) g1 rfl rfl rfl BK1.out HU0.out rfl (by rw [HS1.out.1]; exact HI0.out) ?_))
 refine (laws_FnExactSameDesk.szc k (HD1.out.below HB.out) A2.out).mono ?_
 rintro e w4 ⟨rfl, hb⟩
 replace BK0 := Aside0.mk (blk_below BK0.out hb)
 replace BK1 := Aside0.mk (blk_below BK1.out hb)
 replace HB := Aside0.mk (below_step HB.out hb)
 clear hb
 try go_wp2_with fail
 replace BK0 := Aside0.mk (blk_drew BK0.out)
 replace BK1 := Aside0.mk (blk_drew BK1.out)
 replace HB := Aside0.mk (below_drew1 HB.out)
 refine start_ (n := 6) (S := fun w' => w'.heap[g0]? = some (.cells cs0 36 (0, 0)) ∧ w'.heap[g1]? = some (.cells cs1 36 (0, 0))) (ds := []) #[false, false, false, false, false, false] (by kernel_rfl) rfl rfl ⟨BK0.out, BK1.out⟩ (fun hHeld => ?_)
 generalize w4.drew = w5 at BK0 BK1 HB hHeld ⊢
 refine take_ (i := 0) (N := some 20) (v := ?_) (a' := ?_) #[true, false, false, false, false, false] rfl rfl (by kernel_rfl) (fun _ _ _ h => h) (Or.inl ⟨by rfl, ?_⟩) hHeld ?_ ?_
 rotate_left
 ·rintro w' ⟨s0, s1⟩
  refine laws_FnExactSameDesk.runs (x := .tmp 2) s0 ?_ ?_ HU0.out rfl (by rw [HS0.out.1]; exact HI0.out)
  ·rfl
  ·rfl
 rotate_left
 ·simp only [Act.put, List.setIfInBounds_toArray, List.set_cons_zero, List.set_cons_succ, i64_w, i32_w]
  rfl
 refine take_ (i := 2) (N := some 22) (v := ?_) (a' := ?_) #[true, false, true, false, false, false] rfl rfl (by kernel_rfl) (fun _ _ _ h => h) (Or.inl ⟨by rfl, ?_⟩) hHeld ?_ ?_
 rotate_left
 ·rintro w' ⟨s0, s1⟩
  refine laws_FnExactSameDesk.runs (x := .tmp 3) s1 ?_ ?_ HU0.out rfl (by rw [HS1.out.1]; exact HI0.out)
  ·rfl
  ·rfl
 rotate_left
 ·simp only [Act.put, List.setIfInBounds_toArray, List.set_cons_zero, List.set_cons_succ, i64_w, i32_w]
  rfl
 refine one_ (i := 1) (N := some 21) #[true, true, true, false, false, false] rfl rfl (by kernel_rfl) (by decide) (fun K hK => ?_)
 refine goes_ Try.func6 (by kernel_rfl) rfl #[.agg cs0] (by rfl) rfl rfl gZ ?_
 refine (laws_FnExactSameDesk.toc k (HD0.out.below HB.out) A3.out).mono ?_
 rintro e w6 ⟨cx, rfl, hc, hb⟩
 refine ⟨_, rfl, ?_⟩
 replace BK0 := Aside0.mk (blk_below BK0.out hb)
 replace BK1 := Aside0.mk (blk_below BK1.out hb)
 replace HB := Aside0.mk (below_step HB.out hb)
 clear hb
 have RX := Aside0.mk hc
 clear hc
 refine hK.out _ _ ⟨BK0.out, BK1.out⟩ (fun hHeld => ?_)
 clear hK K
 refine norm_ (a' := ?_) ?_ ?_
 rotate_left
 ·show Act.put _ (some 21) _ = _
  simp only [Act.put, List.setIfInBounds_toArray, List.set_cons_zero, List.set_cons_succ, i64_w, i32_w]
  rfl
 refine one_ (i := 3) (N := some 23) #[true, true, true, true, false, false] rfl rfl (by kernel_rfl) (by decide) (fun K hK => ?_)
 refine goes_ Try.func6 (by kernel_rfl) rfl #[.agg cs1] (by rfl) rfl rfl gZ ?_
 refine (laws_FnExactSameDesk.toc k (HD1.out.below HB.out) A4.out).mono ?_
 rintro e w7 ⟨cy, rfl, hc, hb⟩
 refine ⟨_, rfl, ?_⟩
 replace RX := Aside0.mk (RX.out.below hb)
 replace BK0 := Aside0.mk (blk_below BK0.out hb)
 replace BK1 := Aside0.mk (blk_below BK1.out hb)
 replace HB := Aside0.mk (below_step HB.out hb)
 clear hb
 have RY := Aside0.mk hc
 clear hc
 refine hK.out _ _ ⟨BK0.out, BK1.out⟩ (fun hHeld => ?_)
 clear hK K
 refine norm_ (a' := ?_) ?_ ?_
 rotate_left
 ·show Act.put _ (some 23) _ = _
  simp only [Act.put, List.setIfInBounds_toArray, List.set_cons_zero, List.set_cons_succ, i64_w, i32_w]
  rfl
 refine one_ (i := 4) (N := some 24) #[true, true, true, true, true, false] rfl rfl (by kernel_rfl) (by decide) (fun K hK => ?_)
 refine goes_ Try.func5 (by kernel_rfl) rfl #[.agg cx, .agg cy] (by rfl) rfl rfl gZ ?_
 refine (laws_FnExactSameDesk.spc k RX.out RY.out A5.out).mono ?_
 rintro e w8 ⟨rfl, hb⟩
 refine ⟨_, rfl, ?_⟩
 replace RX := Aside0.mk (RX.out.below hb)
 replace RY := Aside0.mk (RY.out.below hb)
 replace BK0 := Aside0.mk (blk_below BK0.out hb)
 replace BK1 := Aside0.mk (blk_below BK1.out hb)
 replace HB := Aside0.mk (below_step HB.out hb)
 clear hb
 refine hK.out _ _ ⟨BK0.out, BK1.out⟩ (fun hHeld => ?_)
 clear hK K
 refine norm_ (a' := ?_) ?_ ?_
 rotate_left
 ·show Act.put _ (some 24) _ = _
  simp only [Act.put, List.setIfInBounds_toArray, List.set_cons_zero, List.set_cons_succ, i64_w, i32_w]
  rfl
 refine pure_ (i := 5) (N := some 6) (v := ?_) (a' := ?_) #[true, true, true, true, true, true] rfl rfl (by kernel_rfl) (fun _ _ _ h => h) (Or.inl ⟨by rfl, ?_⟩) ?_ ?_
 rotate_left
 ·intro w'
  go_simp
  with_reducible rfl
 rotate_left
 ·simp only [Act.put, List.setIfInBounds_toArray, List.set_cons_zero, List.set_cons_succ, i64_w, i32_w]
  rfl
 refine done_ (by kernel_rfl) ?_
 clear RX RY hHeld
 go_wp2_with (first | ((with_reducible refine gate_dst (N := 25) rfl ?_); refine laws_FnExactSameDesk.ld 36 (.tmp 2) g0 rfl rfl rfl BK0.out HU0.out rfl (by rw [HS0.out.1]; exact HI0.out) ?_))
 refine (laws_FnExactSameDesk.toc k (HD0.out.below HB.out) A3.out).mono ?_
 rintro e w9 ⟨cx, rfl, hc, hb⟩
 replace BK0 := Aside0.mk (blk_below BK0.out hb)
 replace BK1 := Aside0.mk (blk_below BK1.out hb)
 replace HB := Aside0.mk (below_step HB.out hb)
 clear hb
 have RX := Aside0.mk hc
 clear hc
 have HSX := Aside0.mk RX.out.one
 go_wp2_with (first | ((with_reducible refine gate_dst (N := 7) rfl ?_); refine boxZ 7 #[.slice none 0 0, .slice none 0 0, .slice none 0 0, .slice none 0 0, .slice none 0 0, .slice none 0 0, .int .i64 0, .int .i64 0, .int .i64 0, .slice none 0 0, .slice none 0 0, .slice none 0 0, .slice none 0 0] 51 rfl rfl ?_; intro g2 hg w10 hk hb; have GZ := Aside0.mk hg; have hk0 := Aside0.mk hk; have hb0 := Aside0.mk hb; clear hg hk hb) | ((with_reducible refine gate_store (t := 51) (p := 7) rfl ?_); refine laws_FnExactSameDesk.st 51 (.tmp 7) (.tmp 26) g2 rfl rfl rfl rfl rfl hk0.out (by rw [HSX.out.1]; rfl) (by rw [HSX.out.1]; exact HI1.out) HSX.out.2 ?_; intro w11 hk hb; have BK2 := Aside0.mk hk; have hb := hb0.out.trans (GZ.out ▸ hb); clear hk hk0 hb0 GZ; replace RX := Aside0.mk (RX.out.below hb); replace BK0 := Aside0.mk (blk_below BK0.out hb); replace BK1 := Aside0.mk (blk_below BK1.out hb); replace HB := Aside0.mk (below_step HB.out hb); clear hb) | ((with_reducible refine gate_dst (N := 27) rfl ?_); refine laws_FnExactSameDesk.ld 36 (.tmp 3) g1 rfl rfl rfl BK1.out HU0.out rfl (by rw [HS1.out.1]; exact HI0.out) ?_))
 refine (laws_FnExactSameDesk.toc k (HD1.out.below HB.out) A4.out).mono ?_
 rintro e w12 ⟨cy, rfl, hc, hb⟩
 replace RX := Aside0.mk (RX.out.below hb)
 replace BK0 := Aside0.mk (blk_below BK0.out hb)
 replace BK1 := Aside0.mk (blk_below BK1.out hb)
 replace BK2 := Aside0.mk (blk_below BK2.out hb)
 replace HB := Aside0.mk (below_step HB.out hb)
 clear hb
 have RY := Aside0.mk hc
 clear hc
 have HSY := Aside0.mk RY.out.one
 go_wp2_with (first | ((with_reducible refine gate_dst (N := 8) rfl ?_); refine boxZ 8 #[.slice none 0 0, .slice none 0 0, .slice none 0 0, .slice none 0 0, .slice none 0 0, .slice none 0 0, .int .i64 0, .int .i64 0, .int .i64 0, .slice none 0 0, .slice none 0 0, .slice none 0 0, .slice none 0 0] 51 rfl rfl ?_; intro g3 hg w13 hk hb; have GZ := Aside0.mk hg; have hk0 := Aside0.mk hk; have hb0 := Aside0.mk hb; clear hg hk hb) | ((with_reducible refine gate_store (t := 51) (p := 8) rfl ?_); refine laws_FnExactSameDesk.st 51 (.tmp 8) (.tmp 28) g3 rfl rfl rfl rfl rfl hk0.out (by rw [HSY.out.1]; rfl) (by rw [HSY.out.1]; exact HI1.out) HSY.out.2 ?_; intro w14 hk hb; have BK3 := Aside0.mk hk; have hb := hb0.out.trans (GZ.out ▸ hb); clear hk hk0 hb0 GZ; replace RX := Aside0.mk (RX.out.below hb); replace RY := Aside0.mk (RY.out.below hb); replace BK0 := Aside0.mk (blk_below BK0.out hb); replace BK1 := Aside0.mk (blk_below BK1.out hb); replace BK2 := Aside0.mk (blk_below BK2.out hb); replace HB := Aside0.mk (below_step HB.out hb); clear hb) | ((with_reducible refine gate_dst (N := 29) rfl ?_); refine laws_FnExactSameDesk.ld 51 (.tmp 7) g2 rfl rfl rfl BK2.out HU1.out rfl (by rw [HSX.out.1]; exact HI1.out) ?_) | ((with_reducible refine gate_dst (N := 30) rfl ?_); refine laws_FnExactSameDesk.ld 51 (.tmp 8) g3 rfl rfl rfl BK3.out HU1.out rfl (by rw [HSY.out.1]; exact HI1.out) ?_))
 refine (laws_FnExactSameDesk.imc k RX.out RY.out A6.out).mono ?_
 rintro e w15 ⟨rfl, hb⟩
 replace RX := Aside0.mk (RX.out.below hb)
 replace RY := Aside0.mk (RY.out.below hb)
 replace BK0 := Aside0.mk (blk_below BK0.out hb)
 replace BK1 := Aside0.mk (blk_below BK1.out hb)
 replace BK2 := Aside0.mk (blk_below BK2.out hb)
 replace BK3 := Aside0.mk (blk_below BK3.out hb)
 replace HB := Aside0.mk (below_step HB.out hb)
 clear hb
 try go_wp2_with fail
 replace BK0 := Aside0.mk (blk_drew BK0.out)
 replace BK1 := Aside0.mk (blk_drew BK1.out)
 replace BK2 := Aside0.mk (blk_drew BK2.out)
 replace BK3 := Aside0.mk (blk_drew BK3.out)
 replace RX := Aside0.mk (RX.out.below (below_drew1 (Below.refl _ _)))
 replace RY := Aside0.mk (RY.out.below (below_drew1 (Below.refl _ _)))
 replace HB := Aside0.mk (below_drew1 HB.out)
 refine start_ (n := 5) (S := fun w' => w'.heap[g2]? = some (.cells cx 51 (0, 0)) ∧ w'.heap[g0]? = some (.cells cs0 36 (0, 0))) (ds := []) #[false, false, false, false, false] (by kernel_rfl) rfl rfl ⟨BK2.out, BK0.out⟩ (fun hHeld => ?_)
 generalize w15.drew = w16 at BK0 BK1 BK2 BK3 RX RY HB hHeld ⊢
 refine take_ (i := 0) (N := some 35) (v := ?_) (a' := ?_) #[true, false, false, false, false] rfl rfl (by kernel_rfl) (fun _ _ _ h => h) (Or.inl ⟨by rfl, ?_⟩) hHeld ?_ ?_
 rotate_left
 ·rintro w' ⟨s0, s1⟩
  refine laws_FnExactSameDesk.runs (x := .tmp 7) s0 ?_ ?_ HU1.out rfl (by rw [HSX.out.1]; exact HI1.out)
  ·rfl
  ·rfl
 rotate_left
 ·simp only [Act.put, List.setIfInBounds_toArray, List.set_cons_zero, List.set_cons_succ, i64_w, i32_w]
  rfl
 refine take_ (i := 1) (N := some 36) (v := ?_) (a' := ?_) #[true, true, false, false, false] rfl rfl (by kernel_rfl) (fun _ _ _ h => h) (Or.inl ⟨by rfl, ?_⟩) hHeld ?_ ?_
 rotate_left
 ·rintro w' ⟨s0, s1⟩
  refine laws_FnExactSameDesk.runs (x := .tmp 2) s1 ?_ ?_ HU0.out rfl (by rw [HS0.out.1]; exact HI0.out)
  ·rfl
  ·rfl
 rotate_left
 ·simp only [Act.put, List.setIfInBounds_toArray, List.set_cons_zero, List.set_cons_succ, i64_w, i32_w]
  rfl
 refine one_ (i := 2) (N := some 37) #[true, true, true, false, false] rfl rfl (by kernel_rfl) (by decide) (fun K hK => ?_)
 refine goes_ Try.func6 (by kernel_rfl) rfl #[.agg cs0] (by rfl) rfl rfl gZ ?_
 refine (laws_FnExactSameDesk.toc k (HD0.out.below HB.out) A3.out).mono ?_
 rintro e w17 ⟨cz, rfl, hc, hb⟩
 refine ⟨_, rfl, ?_⟩
 replace RX := Aside0.mk (RX.out.below hb)
 replace RY := Aside0.mk (RY.out.below hb)
 replace BK0 := Aside0.mk (blk_below BK0.out hb)
 replace BK1 := Aside0.mk (blk_below BK1.out hb)
 replace BK2 := Aside0.mk (blk_below BK2.out hb)
 replace BK3 := Aside0.mk (blk_below BK3.out hb)
 replace HB := Aside0.mk (below_step HB.out hb)
 clear hb
 have RZ := Aside0.mk hc
 clear hc
 refine hK.out _ _ ⟨BK2.out, BK0.out⟩ (fun hHeld => ?_)
 clear hK K
 refine norm_ (a' := ?_) ?_ ?_
 rotate_left
 ·show Act.put _ (some 37) _ = _
  simp only [Act.put, List.setIfInBounds_toArray, List.set_cons_zero, List.set_cons_succ, i64_w, i32_w]
  rfl
 refine one_ (i := 3) (N := some 38) #[true, true, true, true, false] rfl rfl (by kernel_rfl) (by decide) (fun K hK => ?_)
 refine goes_ Try.func8 (by kernel_rfl) rfl #[.agg cx, .agg cz] (by rfl) rfl rfl gZ ?_
 refine (laws_FnExactSameDesk.eqc k RX.out RZ.out A7.out).mono ?_
 rintro e w18 ⟨rfl, hb⟩
 refine ⟨_, rfl, ?_⟩
 replace RX := Aside0.mk (RX.out.below hb)
 replace RY := Aside0.mk (RY.out.below hb)
 replace RZ := Aside0.mk (RZ.out.below hb)
 replace BK0 := Aside0.mk (blk_below BK0.out hb)
 replace BK1 := Aside0.mk (blk_below BK1.out hb)
 replace BK2 := Aside0.mk (blk_below BK2.out hb)
 replace BK3 := Aside0.mk (blk_below BK3.out hb)
 replace HB := Aside0.mk (below_step HB.out hb)
 clear hb
 refine hK.out _ _ ⟨BK2.out, BK0.out⟩ (fun hHeld => ?_)
 clear hK K
 refine norm_ (a' := ?_) ?_ ?_
 rotate_left
 ·show Act.put _ (some 38) _ = _
  simp only [Act.put, List.setIfInBounds_toArray, List.set_cons_zero, List.set_cons_succ, i64_w, i32_w]
  rfl
 refine pure_ (i := 4) (N := some 39) (v := ?_) (a' := ?_) #[true, true, true, true, true] rfl rfl (by kernel_rfl) (fun _ _ _ h => h) (Or.inl ⟨by rfl, ?_⟩) ?_ ?_
 rotate_left
 ·intro w'
  go_simp
  with_reducible rfl
 rotate_left
 ·simp only [Act.put, List.setIfInBounds_toArray, List.set_cons_zero, List.set_cons_succ, i64_w, i32_w]
  rfl
 refine done_ (by kernel_rfl) ?_
 clear RZ hHeld
 try go_wp2_with fail
 replace BK0 := Aside0.mk (blk_drew BK0.out)
 replace BK1 := Aside0.mk (blk_drew BK1.out)
 replace BK2 := Aside0.mk (blk_drew BK2.out)
 replace BK3 := Aside0.mk (blk_drew BK3.out)
 replace RX := Aside0.mk (RX.out.below (below_drew1 (Below.refl _ _)))
 replace RY := Aside0.mk (RY.out.below (below_drew1 (Below.refl _ _)))
 replace HB := Aside0.mk (below_drew1 HB.out)
 refine start_ (n := 5) (S := fun w' => w'.heap[g3]? = some (.cells cy 51 (0, 0)) ∧ w'.heap[g1]? = some (.cells cs1 36 (0, 0))) (ds := []) #[false, false, false, false, false] (by kernel_rfl) rfl rfl ⟨BK3.out, BK1.out⟩ (fun hHeld => ?_)
 generalize w18.drew = w19 at BK0 BK1 BK2 BK3 RX RY HB hHeld ⊢
 refine take_ (i := 0) (N := some 40) (v := ?_) (a' := ?_) #[true, false, false, false, false] rfl rfl (by kernel_rfl) (fun _ _ _ h => h) (Or.inl ⟨by rfl, ?_⟩) hHeld ?_ ?_
 rotate_left
 ·rintro w' ⟨s0, s1⟩
  refine laws_FnExactSameDesk.runs (x := .tmp 8) s0 ?_ ?_ HU1.out rfl (by rw [HSY.out.1]; exact HI1.out)
  ·rfl
  ·rfl
 rotate_left
 ·simp only [Act.put, List.setIfInBounds_toArray, List.set_cons_zero, List.set_cons_succ, i64_w, i32_w]
  rfl
 refine take_ (i := 1) (N := some 41) (v := ?_) (a' := ?_) #[true, true, false, false, false] rfl rfl (by kernel_rfl) (fun _ _ _ h => h) (Or.inl ⟨by rfl, ?_⟩) hHeld ?_ ?_
 rotate_left
 ·rintro w' ⟨s0, s1⟩
  refine laws_FnExactSameDesk.runs (x := .tmp 3) s1 ?_ ?_ HU0.out rfl (by rw [HS1.out.1]; exact HI0.out)
  ·rfl
  ·rfl
 rotate_left
 ·simp only [Act.put, List.setIfInBounds_toArray, List.set_cons_zero, List.set_cons_succ, i64_w, i32_w]
  rfl
 refine one_ (i := 2) (N := some 42) #[true, true, true, false, false] rfl rfl (by kernel_rfl) (by decide) (fun K hK => ?_)
 refine goes_ Try.func6 (by kernel_rfl) rfl #[.agg cs1] (by rfl) rfl rfl gZ ?_
 refine (laws_FnExactSameDesk.toc k (HD1.out.below HB.out) A4.out).mono ?_
 rintro e w20 ⟨cu, rfl, hc, hb⟩
 refine ⟨_, rfl, ?_⟩
 replace RX := Aside0.mk (RX.out.below hb)
 replace RY := Aside0.mk (RY.out.below hb)
 replace BK0 := Aside0.mk (blk_below BK0.out hb)
 replace BK1 := Aside0.mk (blk_below BK1.out hb)
 replace BK2 := Aside0.mk (blk_below BK2.out hb)
 replace BK3 := Aside0.mk (blk_below BK3.out hb)
 replace HB := Aside0.mk (below_step HB.out hb)
 clear hb
 have RZ := Aside0.mk hc
 clear hc
 refine hK.out _ _ ⟨BK3.out, BK1.out⟩ (fun hHeld => ?_)
 clear hK K
 refine norm_ (a' := ?_) ?_ ?_
 rotate_left
 ·show Act.put _ (some 42) _ = _
  simp only [Act.put, List.setIfInBounds_toArray, List.set_cons_zero, List.set_cons_succ, i64_w, i32_w]
  rfl
 refine one_ (i := 3) (N := some 43) #[true, true, true, true, false] rfl rfl (by kernel_rfl) (by decide) (fun K hK => ?_)
 refine goes_ Try.func8 (by kernel_rfl) rfl #[.agg cy, .agg cu] (by rfl) rfl rfl gZ ?_
 refine (laws_FnExactSameDesk.eqc k RY.out RZ.out A8.out).mono ?_
 rintro e w21 ⟨rfl, hb⟩
 refine ⟨_, rfl, ?_⟩
 replace RX := Aside0.mk (RX.out.below hb)
 replace RY := Aside0.mk (RY.out.below hb)
 replace RZ := Aside0.mk (RZ.out.below hb)
 replace BK0 := Aside0.mk (blk_below BK0.out hb)
 replace BK1 := Aside0.mk (blk_below BK1.out hb)
 replace BK2 := Aside0.mk (blk_below BK2.out hb)
 replace BK3 := Aside0.mk (blk_below BK3.out hb)
 replace HB := Aside0.mk (below_step HB.out hb)
 clear hb
 refine hK.out _ _ ⟨BK3.out, BK1.out⟩ (fun hHeld => ?_)
 clear hK K
 refine norm_ (a' := ?_) ?_ ?_
 rotate_left
 ·show Act.put _ (some 43) _ = _
  simp only [Act.put, List.setIfInBounds_toArray, List.set_cons_zero, List.set_cons_succ, i64_w, i32_w]
  rfl
 refine pure_ (i := 4) (N := some 44) (v := ?_) (a' := ?_) #[true, true, true, true, true] rfl rfl (by kernel_rfl) (fun _ _ _ h => h) (Or.inl ⟨by rfl, ?_⟩) ?_ ?_
 rotate_left
 ·intro w'
  go_simp
  with_reducible rfl
 rotate_left
 ·simp only [Act.put, List.setIfInBounds_toArray, List.set_cons_zero, List.set_cons_succ, i64_w, i32_w]
  rfl
 refine done_ (by kernel_rfl) ?_
 clear RZ hHeld
 go_wp2
 go_ret
 exact ⟨eZ, HB.out⟩
theorem laws_FnExactSameDesk.calls (k : Nat) (A0_0 : Option Addr) (c0_0 : Nat) (l0_0 : List Int) (A0_1 : Option Addr) (c0_1 : Nat) (l0_1 : List (S136)) (A0_2 : Option Addr) (c0_2 : Nat) (l0_2 : List Int) (A0_3 : Option Addr) (c0_3 : Nat) (l0_3 : List (S104)) (A0_4 : Option Addr) (c0_4 : Nat) (l0_4 : List (S106)) (A0_5 : Option Addr) (c0_5 : Nat) (l0_5 : List (S108)) (a0_6 : Int) (a0_7 : Int) (a0_8 : Int) (A0_9 : Option Addr) (c0_9 : Nat) (l0_9 : List (S110)) (A0_10 : Option Addr) (c0_10 : Nat) (l0_10 : List (S112)) (A0_11 : Option Addr) (c0_11 : Nat) (l0_11 : List (S114)) (A0_12 : Option Addr) (c0_12 : Nat) (l0_12 : List (S116)) (A1_0 : Option Addr) (c1_0 : Nat) (l1_0 : List Int) (A1_1 : Option Addr) (c1_1 : Nat) (l1_1 : List (S136)) (A1_2 : Option Addr) (c1_2 : Nat) (l1_2 : List Int) (A1_3 : Option Addr) (c1_3 : Nat) (l1_3 : List (S104)) (A1_4 : Option Addr) (c1_4 : Nat) (l1_4 : List (S106)) (A1_5 : Option Addr) (c1_5 : Nat) (l1_5 : List (S108)) (a1_6 : Int) (a1_7 : Int) (a1_8 : Int) (A1_9 : Option Addr) (c1_9 : Nat) (l1_9 : List (S110)) (A1_10 : Option Addr) (c1_10 : Nat) (l1_10 : List (S112)) (A1_11 : Option Addr) (c1_11 : Nat) (l1_11 : List (S114)) (A1_12 : Option Addr) (c1_12 : Nat) (l1_12 : List (S116)) (r : Bool) (w : World) (hr0_0 : Kd.C (Kd.int .i64) w A0_0 l0_0.length l0_0) (hc0_0 : l0_0.length ≤ c0_0) (hr0_1 : Kd.C k136 w A0_1 l0_1.length l0_1) (hc0_1 : l0_1.length ≤ c0_1) (hr0_2 : Kd.C (Kd.int .i64) w A0_2 l0_2.length l0_2) (hc0_2 : l0_2.length ≤ c0_2) (hr0_3 : Kd.C k104 w A0_3 l0_3.length l0_3) (hc0_3 : l0_3.length ≤ c0_3) (hr0_4 : Kd.C k106 w A0_4 l0_4.length l0_4) (hc0_4 : l0_4.length ≤ c0_4) (hr0_5 : Kd.C k108 w A0_5 l0_5.length l0_5) (hc0_5 : l0_5.length ≤ c0_5) (hr0_9 : Kd.C k110 w A0_9 l0_9.length l0_9) (hc0_9 : l0_9.length ≤ c0_9) (hr0_10 : Kd.C k112 w A0_10 l0_10.length l0_10) (hc0_10 : l0_10.length ≤ c0_10) (hr0_11 : Kd.C k114 w A0_11 l0_11.length l0_11) (hc0_11 : l0_11.length ≤ c0_11) (hr0_12 : Kd.C k116 w A0_12 l0_12.length l0_12) (hc0_12 : l0_12.length ≤ c0_12) (hr1_0 : Kd.C (Kd.int .i64) w A1_0 l1_0.length l1_0) (hc1_0 : l1_0.length ≤ c1_0) (hr1_1 : Kd.C k136 w A1_1 l1_1.length l1_1) (hc1_1 : l1_1.length ≤ c1_1) (hr1_2 : Kd.C (Kd.int .i64) w A1_2 l1_2.length l1_2) (hc1_2 : l1_2.length ≤ c1_2) (hr1_3 : Kd.C k104 w A1_3 l1_3.length l1_3) (hc1_3 : l1_3.length ≤ c1_3) (hr1_4 : Kd.C k106 w A1_4 l1_4.length l1_4) (hc1_4 : l1_4.length ≤ c1_4) (hr1_5 : Kd.C k108 w A1_5 l1_5.length l1_5) (hc1_5 : l1_5.length ≤ c1_5) (hr1_9 : Kd.C k110 w A1_9 l1_9.length l1_9) (hc1_9 : l1_9.length ≤ c1_9) (hr1_10 : Kd.C k112 w A1_10 l1_10.length l1_10) (hc1_10 : l1_10.length ≤ c1_10) (hr1_11 : Kd.C k114 w A1_11 l1_11.length l1_11) (hc1_11 : l1_11.length ≤ c1_11) (hr1_12 : Kd.C k116 w A1_12 l1_12.length l1_12) (hc1_12 : l1_12.length ≤ c1_12) (h : laws_FnExactSameDesk.f k l0_0 l0_1 l0_2 l0_3 l0_4 l0_5 a0_6 a0_7 a0_8 l0_9 l0_10 l0_11 l0_12 l1_0 l1_1 l1_2 l1_3 l1_4 l1_5 a1_6 a1_7 a1_8 l1_9 l1_10 l1_11 l1_12 = some r) :
  Calls Try.prog 3 #[.agg #[.slice A0_0 l0_0.length c0_0, .slice A0_1 l0_1.length c0_1, .slice A0_2 l0_2.length c0_2, .slice A0_3 l0_3.length c0_3, .slice A0_4 l0_4.length c0_4, .slice A0_5 l0_5.length c0_5, .int .i64 a0_6, .int .i64 a0_7, .int .i64 a0_8, .slice A0_9 l0_9.length c0_9, .slice A0_10 l0_10.length c0_10, .slice A0_11 l0_11.length c0_11, .slice A0_12 l0_12.length c0_12], .agg #[.slice A1_0 l1_0.length c1_0, .slice A1_1 l1_1.length c1_1, .slice A1_2 l1_2.length c1_2, .slice A1_3 l1_3.length c1_3, .slice A1_4 l1_4.length c1_4, .slice A1_5 l1_5.length c1_5, .int .i64 a1_6, .int .i64 a1_7, .int .i64 a1_8, .slice A1_9 l1_9.length c1_9, .slice A1_10 l1_10.length c1_10, .slice A1_11 l1_11.length c1_11, .slice A1_12 l1_12.length c1_12]] w fun e w' => e = .returned (.bool r) ∧ Below w.heap.size w w' := by
 exact laws_FnExactSameDesk.walk k _ _ ⟨l0_0, l0_1, l0_2, l0_3, l0_4, l0_5, a0_6, a0_7, a0_8, l0_9, l0_10, l0_11, l0_12⟩ ⟨l1_0, l1_1, l1_2, l1_3, l1_4, l1_5, a1_6, a1_7, a1_8, l1_9, l1_10, l1_11, l1_12⟩ r w ⟨_, _, _, _, _, _, _, _, _, _, _, _, _, _, _, _, _, _, _, _, rfl, ⟨hr0_0, hc0_0⟩, ⟨hr0_1, hc0_1⟩, ⟨hr0_2, hc0_2⟩, ⟨hr0_3, hc0_3⟩, ⟨hr0_4, hc0_4⟩, ⟨hr0_5, hc0_5⟩, ⟨hr0_9, hc0_9⟩, ⟨hr0_10, hc0_10⟩, ⟨hr0_11, hc0_11⟩, ⟨hr0_12, hc0_12⟩⟩ ⟨_, _, _, _, _, _, _, _, _, _, _, _, _, _, _, _, _, _, _, _, rfl, ⟨hr1_0, hc1_0⟩, ⟨hr1_1, hc1_1⟩, ⟨hr1_2, hc1_2⟩, ⟨hr1_3, hc1_3⟩, ⟨hr1_4, hc1_4⟩, ⟨hr1_5, hc1_5⟩, ⟨hr1_9, hc1_9⟩, ⟨hr1_10, hc1_10⟩, ⟨hr1_11, hc1_11⟩, ⟨hr1_12, hc1_12⟩⟩ h
end Go.Proofs.Ytmfhncjkfhdlcaa.XM
end

section
namespace Go.Proofs.Ytmfhncjkfhdlcaa.Open
open Go.ChangeShapes Go.WideShapes Go.RowKit Go.Proofs.YtmfhncjkfhdlcaaW.PrintWords
set_option linter.unusedVariables false
def Opens (P : Program) (t : TypeId) {α : Type} (d : Kd α) (Q : α → Prop) : Prop :=
  P.cellsOf t = d.sz ∧ ∀ (H : Type) (enc : TypeId × Value → H) (w : World) (base : Nat) (spare : Nat → Bool) (held : Bool) (fuel : Nat) (cs : List Value) (x : DataW H × List MemPlace),
    DataW.trod enc P w base spare held fuel t cs = some x → ∃ a : α, d.K w a cs ∧ Q a
theorem Opens.int {P : Program} {t : TypeId} {k : IntKind} (hu : P.underlying t = some (.int k)) (hc : P.cellsOf t = 1) : Opens P t (Kd.int k) (fun n => (Lit.int k n).wf = true) := by
  refine ⟨hc, fun H enc w base spare held fuel cs x h => ?_⟩
  obtain ⟨n, rfl, _, hw⟩ := DataW.trod_int hu h
  exact ⟨n, rfl, hw⟩
theorem Opens.bool {P : Program} {t : TypeId} (hu : P.underlying t = some .bool) (hc : P.cellsOf t = 1) : Opens P t Kd.bool (fun _ => True) := by
  refine ⟨hc, fun H enc w base spare held fuel cs x h => ?_⟩
  obtain ⟨b, rfl, _⟩ := DataW.trod_bool hu h
  exact ⟨b, rfl, trivial⟩
theorem Opens.string {P : Program} {t : TypeId} (hu : P.underlying t = some .string) (hc : P.cellsOf t = 1) : Opens P t Kd.string (fun s => s.size ≤ maxLen) := by
  refine ⟨hc, fun H enc w base spare held fuel cs x h => ?_⟩
  obtain ⟨s, rfl, _, hs⟩ := DataW.trod_string hu h
  exact ⟨s, rfl, hs⟩
theorem choose_list {α : Type} {n : Nat} {p : Nat → α → Prop} (h : ∀ i, i < n → ∃ x, p i x) : ∃ l : List α, l.length = n ∧ ∀ i x, l[i]? = some x → p i x := by
  induction n with
  | zero => exact ⟨[], rfl, fun i x hx => by simp at hx⟩
  | succ n ih =>
    obtain ⟨l, hl, hp⟩ := ih (fun i hi => h i (by omega))
    obtain ⟨x, hx⟩ := h n (by omega)
    refine ⟨l ++ [x], by simp [hl], fun i y hy => ?_⟩
    rcases Nat.lt_or_ge i l.length with hi | hi
    · rw [List.getElem?_append_left hi] at hy
      exact hp i y hy
    · have : i = l.length := by
        have := (List.getElem?_eq_some_iff.1 hy).1
        simp at this
        omega
      subst this
      simp at hy
      subst hy
      rw [hl]
      exact hx
theorem cells?_get {w : World} {base : Nat} {a : Addr} {n : Nat} {cs : List Value} (h : w.cells? base a n = some cs) (i : Nat) (u : Value) (hu : cs[i]? = some u) : w.cell? (a.add i) = some u := by
  unfold World.cells? at h
  split at h
  · have hlen : cs.length = n := by simpa using mapM_some_length h
    have hi : i < n := by
      have := (List.getElem?_eq_some_iff.1 hu).1
      omega
    have := mapM_some_get h i i (by simp [hi])
    rw [hu] at this
    exact this
  · cases h
theorem Opens.slice {P : Program} {t e : TypeId} {α : Type} {d : Kd α} {Q : α → Prop} (hu : P.underlying t = some (.slice e)) (hc : P.cellsOf t = 1) (hd : Opens P e d Q) :
    Opens P t (Kd.slice e d) (fun xs => xs.length ≤ maxLen ∧ ∀ x ∈ xs, Q x) := by
  refine ⟨hc, fun H enc w base spare held fuel cs x h => ?_⟩
  rcases Go.Deep.open_slice hu h with ⟨rfl, _⟩ | ⟨a, len, cap, m, n, D, Pl, rfl, _, hl, hm, hmm, _, hx⟩
  · exact ⟨[], ⟨none, 0, rfl, Nat.le_refl _, rfl, by simp, fun h => absurd h (by simp)⟩, by simp, fun x hx => by simp at hx⟩
  · have hlm : len ≤ m := by rw [hmm]; split <;> omega
    obtain ⟨l, hl1, hp⟩ := choose_list (n := len) (p := fun i (x : α) => ∃ cs', w.cells? base (a.add (i * d.sz)) d.sz = some cs' ∧ d.K w x cs' ∧ Q x) (fun i hi => by
      obtain ⟨cs', h1, h2⟩ := hx i (by omega)
      rw [hd.1] at h1
      obtain ⟨y, hy, hq⟩ := hd.2 H enc w base spare held n cs' _ h2
      exact ⟨y, cs', h1, hy, hq⟩)
    have hmax : (maxLen : Nat) = 9223372036854775807 := by unfold maxLen; omega
    refine ⟨l, ⟨some a, cap, by rw [hl1], by omega, rfl, by omega, fun _ => ⟨a, rfl, fun j p hj => ?_⟩⟩, by omega, fun x hx => ?_⟩
    · obtain ⟨cs', h1, h2, _⟩ := hp j p hj
      refine ⟨cs', d.K_len h2, h2, fun i u hi => ?_⟩
      have := cells?_get h1 i u hi
      rwa [Go.Deep.add_add] at this
    · obtain ⟨i, hi, rfl⟩ := List.mem_iff_getElem.1 hx
      obtain ⟨cs', _, _, h3⟩ := hp i _ (List.getElem?_eq_getElem hi)
      exact h3
def OpensF (P : Program) (fs : List Field) (off : Nat) {α : Type} (d : Kd α) (Q : α → Prop) : Prop :=
  ∀ (H : Type) (enc : TypeId × Value → H) (w : World) (base : Nat) (spare : Nat → Bool) (held : Bool) (n : Nat) (cs : List Value), off + d.sz = cs.length →
    (∀ f ∈ fs, ∃ y, DataW.trod enc P w base spare held n f.type ((cs.drop f.offset).take (P.cellsOf f.type)) = some y) → ∃ a : α, d.K w a (cs.drop off) ∧ Q a
theorem OpensF.one {P : Program} {f : Field} {off : Nat} {α : Type} {d : Kd α} {Q : α → Prop} (ho : f.offset = off) (h : Opens P f.type d Q) : OpensF P [f] off d Q := by
  intro H enc w base spare held n cs hl hf
  obtain ⟨y, hy⟩ := hf f List.mem_cons_self
  rw [ho, h.1, List.take_of_length_le (by rw [List.length_drop]; omega)] at hy
  exact h.2 H enc w base spare held n _ y hy
theorem OpensF.cons {P : Program} {f : Field} {fs : List Field} {off : Nat} {α β : Type} {d1 : Kd α} {d2 : Kd β} {Q1 : α → Prop} {Q2 : β → Prop} (ho : f.offset = off) (h : Opens P f.type d1 Q1) (hs : OpensF P fs (off + d1.sz) d2 Q2) :
    OpensF P (f :: fs) off (Kd.pair d1 d2) (fun x => Q1 x.1 ∧ Q2 x.2) := by
  intro H enc w base spare held n cs hl hf
  have hl' : off + (d1.sz + d2.sz) = cs.length := hl
  obtain ⟨y, hy⟩ := hf f List.mem_cons_self
  rw [ho, h.1] at hy
  obtain ⟨a, ha, qa⟩ := h.2 H enc w base spare held n _ y hy
  obtain ⟨b, hb, qb⟩ := hs H enc w base spare held n cs (by omega) (fun g hg => hf g (List.mem_cons_of_mem _ hg))
  refine ⟨(a, b), ⟨_, _, ?_, ha, hb⟩, qa, qb⟩
  rw [← List.drop_drop, List.take_append_drop]
theorem Opens.struct {P : Program} {t : TypeId} {fs : Array Field} {α β : Type} {d : Kd α} {Q : α → Prop} (f : β → α) (g : α → β) (hfg : ∀ x, f (g x) = x) (hu : P.underlying t = some (.struct fs)) (hc : P.cellsOf t = d.sz) (h : OpensF P fs.toList 0 d Q) :
    Opens P t (Kd.iso d f) (fun x => Q (f x)) := by
  refine ⟨hc, fun H enc w base spare held fuel cs x hx => ?_⟩
  obtain ⟨xs, n, rfl, _, hl, hxs, hf⟩ := DataW.trod_struct hu hx
  obtain ⟨a, ha, qa⟩ := h H enc w base spare held n cs (by omega) (fun f hf0 => by
    obtain ⟨i, hi, rfl⟩ := List.mem_iff_getElem.1 hf0
    have hi' : i < fs.size := by simpa using hi
    have := hf i fs[i] (Array.getElem?_eq_getElem hi')
    rw [List.getElem?_eq_getElem (by omega)] at this
    exact ⟨_, by simpa using this⟩)
  refine ⟨g a, ?_, ?_⟩
  · show d.K w (f (g a)) cs
    rw [hfg]
    simpa using ha
  · show Q (f (g a))
    rw [hfg]
    exact qa
theorem open_st {H : Type} {enc : TypeId × Value → H} {P : Program} {W : World} {base B : Nat} {spare : Nat → Bool} {held : Bool} {t : TypeId} {fs : Array Field} {v : Value} {dd : DataW H} {ps : List MemPlace} {α : Type} {d : Kd α} {Q : α → Prop}
    (hu : P.underlying t = some (.struct fs)) (hd : Opens P t d Q) (hv : Value.okWide P W .any B t v) (h : DataW.Trod enc P W base spare held t v dd ps) :
    ∃ (cs : List Value) (x : α), v = .agg cs.toArray ∧ d.K W x cs ∧ Q x := by
  obtain ⟨cs, rfl, _⟩ := okWide_struct hu hv
  obtain ⟨fuel, hf⟩ := h
  obtain ⟨x, hK, hq⟩ := hd.2 H enc W base spare held fuel _ _ hf
  exact ⟨cs.toList, x, by simp, by simpa [Value.cells] using hK, hq⟩
end Go.Proofs.Ytmfhncjkfhdlcaa.Open
end

section
namespace Go.Proofs.Ytmfhncjkfhdlcaa.XM
open Go.RowKit Go.Proofs.YtmfhncjkfhdlcaaW.PrintWords Go.Proofs.Ytmfhncjkfhdlcaa.Open
set_option linter.unusedVariables false
def Q136 (x : S136) : Prop := (x.f0.size ≤ maxLen) ∧ ((Lit.int .i64 x.f1).wf = true) ∧ ((Lit.int .i64 x.f2).wf = true) ∧ ((Lit.int .i64 x.f3).wf = true) ∧ ((Lit.int .i64 x.f4).wf = true) ∧ ((Lit.int .i64 x.f5).wf = true)
theorem opens136 : Opens Try.prog 136 k136 Q136 := Opens.struct (fun x : S136 => (x.f0, x.f1, x.f2, x.f3, x.f4, x.f5)) (fun p => (⟨p.1, p.2.1, p.2.2.1, p.2.2.2.1, p.2.2.2.2.1, p.2.2.2.2.2⟩ : S136)) (fun _ => rfl) Try.underlying136 (by kernel_rfl) (OpensF.cons rfl (Opens.string Try.underlying9 (by kernel_rfl)) (OpensF.cons rfl (Opens.int Try.underlying2 (by kernel_rfl)) (OpensF.cons rfl (Opens.int Try.underlying2 (by kernel_rfl)) (OpensF.cons rfl (Opens.int Try.underlying2 (by kernel_rfl)) (OpensF.cons rfl (Opens.int Try.underlying2 (by kernel_rfl)) (OpensF.one rfl (Opens.int Try.underlying2 (by kernel_rfl))))))))
def Q25 (x : S25) : Prop := ((x.f0.length ≤ maxLen ∧ ∀ y4 ∈ x.f0, (Lit.int .i64 y4).wf = true)) ∧ ((x.f1.length ≤ maxLen ∧ ∀ y4 ∈ x.f1, Q136 y4))
theorem opens25 : Opens Try.prog 25 k25 Q25 := Opens.struct (fun x : S25 => (x.f0, x.f1)) (fun p => (⟨p.1, p.2⟩ : S25)) (fun _ => rfl) Try.underlying25 (by kernel_rfl) (OpensF.cons rfl (Opens.slice Try.underlying22 (by kernel_rfl) (Opens.int Try.underlying2 (by kernel_rfl))) (OpensF.one rfl (Opens.slice Try.underlying23 (by kernel_rfl) opens136)))
def Q104 (x : S104) : Prop := (x.f0.size ≤ maxLen) ∧ (x.f1.size ≤ maxLen) ∧ (True)
theorem opens104 : Opens Try.prog 104 k104 Q104 := Opens.struct (fun x : S104 => (x.f0, x.f1, x.f2)) (fun p => (⟨p.1, p.2.1, p.2.2⟩ : S104)) (fun _ => rfl) Try.underlying104 (by kernel_rfl) (OpensF.cons rfl (Opens.string Try.underlying9 (by kernel_rfl)) (OpensF.cons rfl (Opens.string Try.underlying9 (by kernel_rfl)) (OpensF.one rfl (Opens.bool Try.underlying4 (by kernel_rfl)))))
def Q106 (x : S106) : Prop := (x.f0.size ≤ maxLen) ∧ ((x.f1.length ≤ maxLen ∧ ∀ y4 ∈ x.f1, (y4.length ≤ maxLen ∧ ∀ y4y ∈ y4, (Lit.int .i64 y4y).wf = true)))
theorem opens106 : Opens Try.prog 106 k106 Q106 := Opens.struct (fun x : S106 => (x.f0, x.f1)) (fun p => (⟨p.1, p.2⟩ : S106)) (fun _ => rfl) Try.underlying106 (by kernel_rfl) (OpensF.cons rfl (Opens.string Try.underlying9 (by kernel_rfl)) (OpensF.one rfl (Opens.slice Try.underlying69 (by kernel_rfl) (Opens.slice Try.underlying22 (by kernel_rfl) (Opens.int Try.underlying2 (by kernel_rfl))))))
def Q108 (x : S108) : Prop := (x.f0.size ≤ maxLen) ∧ ((Lit.int .i64 x.f1).wf = true) ∧ ((Lit.int .i64 x.f2).wf = true) ∧ ((Lit.int .i64 x.f3).wf = true) ∧ ((Lit.int .i64 x.f4).wf = true)
theorem opens108 : Opens Try.prog 108 k108 Q108 := Opens.struct (fun x : S108 => (x.f0, x.f1, x.f2, x.f3, x.f4)) (fun p => (⟨p.1, p.2.1, p.2.2.1, p.2.2.2.1, p.2.2.2.2⟩ : S108)) (fun _ => rfl) Try.underlying108 (by kernel_rfl) (OpensF.cons rfl (Opens.string Try.underlying9 (by kernel_rfl)) (OpensF.cons rfl (Opens.int Try.underlying2 (by kernel_rfl)) (OpensF.cons rfl (Opens.int Try.underlying2 (by kernel_rfl)) (OpensF.cons rfl (Opens.int Try.underlying2 (by kernel_rfl)) (OpensF.one rfl (Opens.int Try.underlying2 (by kernel_rfl)))))))
def Q30 (x : S30) : Prop := ((Lit.int .i64 x.f0).wf = true) ∧ ((Lit.int .i64 x.f1).wf = true) ∧ ((Lit.int .i64 x.f2).wf = true)
theorem opens30 : Opens Try.prog 30 k30 Q30 := Opens.struct (fun x : S30 => (x.f0, x.f1, x.f2)) (fun p => (⟨p.1, p.2.1, p.2.2⟩ : S30)) (fun _ => rfl) Try.underlying30 (by kernel_rfl) (OpensF.cons rfl (Opens.int Try.underlying2 (by kernel_rfl)) (OpensF.cons rfl (Opens.int Try.underlying2 (by kernel_rfl)) (OpensF.one rfl (Opens.int Try.underlying2 (by kernel_rfl)))))
def Q110 (x : S110) : Prop := (x.f0.size ≤ maxLen) ∧ ((Lit.int .i64 x.f1).wf = true) ∧ ((Lit.int .i64 x.f2).wf = true) ∧ ((Lit.int .i64 x.f3).wf = true)
theorem opens110 : Opens Try.prog 110 k110 Q110 := Opens.struct (fun x : S110 => (x.f0, x.f1, x.f2, x.f3)) (fun p => (⟨p.1, p.2.1, p.2.2.1, p.2.2.2⟩ : S110)) (fun _ => rfl) Try.underlying110 (by kernel_rfl) (OpensF.cons rfl (Opens.string Try.underlying9 (by kernel_rfl)) (OpensF.cons rfl (Opens.int Try.underlying2 (by kernel_rfl)) (OpensF.cons rfl (Opens.int Try.underlying2 (by kernel_rfl)) (OpensF.one rfl (Opens.int Try.underlying2 (by kernel_rfl))))))
def Q112 (x : S112) : Prop := (x.f0.size ≤ maxLen) ∧ ((Lit.int .i64 x.f1).wf = true) ∧ ((Lit.int .i64 x.f2).wf = true) ∧ ((Lit.int .i64 x.f3).wf = true)
theorem opens112 : Opens Try.prog 112 k112 Q112 := Opens.struct (fun x : S112 => (x.f0, x.f1, x.f2, x.f3)) (fun p => (⟨p.1, p.2.1, p.2.2.1, p.2.2.2⟩ : S112)) (fun _ => rfl) Try.underlying112 (by kernel_rfl) (OpensF.cons rfl (Opens.string Try.underlying9 (by kernel_rfl)) (OpensF.cons rfl (Opens.int Try.underlying2 (by kernel_rfl)) (OpensF.cons rfl (Opens.int Try.underlying2 (by kernel_rfl)) (OpensF.one rfl (Opens.int Try.underlying2 (by kernel_rfl))))))
def Q114 (x : S114) : Prop := (x.f0.size ≤ maxLen) ∧ ((Lit.int .i64 x.f1).wf = true) ∧ ((Lit.int .i64 x.f2).wf = true)
theorem opens114 : Opens Try.prog 114 k114 Q114 := Opens.struct (fun x : S114 => (x.f0, x.f1, x.f2)) (fun p => (⟨p.1, p.2.1, p.2.2⟩ : S114)) (fun _ => rfl) Try.underlying114 (by kernel_rfl) (OpensF.cons rfl (Opens.string Try.underlying9 (by kernel_rfl)) (OpensF.cons rfl (Opens.int Try.underlying2 (by kernel_rfl)) (OpensF.one rfl (Opens.int Try.underlying2 (by kernel_rfl)))))
def Q116 (x : S116) : Prop := (x.f0.size ≤ maxLen) ∧ ((Lit.int .i64 x.f1).wf = true) ∧ ((Lit.int .i64 x.f2).wf = true) ∧ (True)
theorem opens116 : Opens Try.prog 116 k116 Q116 := Opens.struct (fun x : S116 => (x.f0, x.f1, x.f2, x.f3)) (fun p => (⟨p.1, p.2.1, p.2.2.1, p.2.2.2⟩ : S116)) (fun _ => rfl) Try.underlying116 (by kernel_rfl) (OpensF.cons rfl (Opens.string Try.underlying9 (by kernel_rfl)) (OpensF.cons rfl (Opens.int Try.underlying2 (by kernel_rfl)) (OpensF.cons rfl (Opens.int Try.underlying2 (by kernel_rfl)) (OpensF.one rfl (Opens.bool Try.underlying4 (by kernel_rfl))))))
def Q36 (x : S36) : Prop := (Q25 x.f0) ∧ ((x.f1.length ≤ maxLen ∧ ∀ y4 ∈ x.f1, (Lit.int .i64 y4).wf = true)) ∧ ((x.f2.length ≤ maxLen ∧ ∀ y4 ∈ x.f2, Q104 y4)) ∧ ((x.f3.length ≤ maxLen ∧ ∀ y4 ∈ x.f3, Q106 y4)) ∧ ((x.f4.length ≤ maxLen ∧ ∀ y4 ∈ x.f4, Q108 y4)) ∧ (Q30 x.f5) ∧ ((x.f6.length ≤ maxLen ∧ ∀ y4 ∈ x.f6, Q110 y4)) ∧ ((x.f7.length ≤ maxLen ∧ ∀ y4 ∈ x.f7, Q112 y4)) ∧ ((x.f8.length ≤ maxLen ∧ ∀ y4 ∈ x.f8, Q114 y4)) ∧ ((x.f9.length ≤ maxLen ∧ ∀ y4 ∈ x.f9, Q116 y4))
theorem opens36 : Opens Try.prog 36 k36 Q36 := Opens.struct (fun x : S36 => (x.f0, x.f1, x.f2, x.f3, x.f4, x.f5, x.f6, x.f7, x.f8, x.f9)) (fun p => (⟨p.1, p.2.1, p.2.2.1, p.2.2.2.1, p.2.2.2.2.1, p.2.2.2.2.2.1, p.2.2.2.2.2.2.1, p.2.2.2.2.2.2.2.1, p.2.2.2.2.2.2.2.2.1, p.2.2.2.2.2.2.2.2.2⟩ : S36)) (fun _ => rfl) Try.underlying36 (by kernel_rfl) (OpensF.cons rfl opens25 (OpensF.cons rfl (Opens.slice Try.underlying22 (by kernel_rfl) (Opens.int Try.underlying2 (by kernel_rfl))) (OpensF.cons rfl (Opens.slice Try.underlying26 (by kernel_rfl) opens104) (OpensF.cons rfl (Opens.slice Try.underlying27 (by kernel_rfl) opens106) (OpensF.cons rfl (Opens.slice Try.underlying28 (by kernel_rfl) opens108) (OpensF.cons rfl opens30 (OpensF.cons rfl (Opens.slice Try.underlying31 (by kernel_rfl) opens110) (OpensF.cons rfl (Opens.slice Try.underlying32 (by kernel_rfl) opens112) (OpensF.cons rfl (Opens.slice Try.underlying33 (by kernel_rfl) opens114) (OpensF.one rfl (Opens.slice Try.underlying34 (by kernel_rfl) opens116)))))))))))
end Go.Proofs.Ytmfhncjkfhdlcaa.XM
end

section
namespace Go.Proofs.Ytmfhncjkfhdlcaa.XM
open Go.RowKit Go.Proofs.YtmfhncjkfhdlcaaW.PrintWords
def laws_FnExactSameDesk.Pure : Prop := ∀ (a0 : S36), ∀ (a1 : S36), (Q36 a0) → (Q36 a1) → ∃ k, laws_FnExactSameDesk.f k a0.f0.f0 a0.f0.f1 a0.f1 a0.f2 a0.f3 a0.f4 a0.f5.f0 a0.f5.f1 a0.f5.f2 a0.f6 a0.f7 a0.f8 a0.f9 a1.f0.f0 a1.f0.f1 a1.f1 a1.f2 a1.f3 a1.f4 a1.f5.f0 a1.f5.f1 a1.f5.f2 a1.f6 a1.f7 a1.f8 a1.f9 = some true
end Go.Proofs.Ytmfhncjkfhdlcaa.XM
end

section
namespace Go.Proofs.Ytmfhncjkfhdlcaa.EvK
open Go.RowKit Go.Proofs.YtmfhncjkfhdlcaaW.PrintWords
set_option linter.unusedVariables false
theorem w64 {n : Int} (h : -9223372036854775808 ≤ n) (h' : n ≤ 9223372036854775807) : wrap64 n = n := by unfold wrap64; omega
theorem Ev.some {α : Type} {a r : α} (h : a = r) : Ev (fun _ => Option.some a) r := h ▸ Ev.now a
theorem Ev.bind_some {α β : Type} {g : Nat → Option α} {f : Nat → α → Option β} {a : α} {r : β} (h : Ev g a) (k : Ev (fun n => f n a) r) : Ev (fun n => (g n).bind (f n)) r := Ev.bind h k
theorem getD_at {α : Type} (l : List α) (d : α) (i : Nat) (h : i < l.length) : l.getD (i : Int).toNat d = l[i] := by
  simp [List.getD_eq_getElem?_getD, List.getElem?_eq_getElem h]
theorem rd_at (l : List Int) (i : Nat) (h : i < l.length) : rd l (i : Int) = l[i] := getD_at l 0 i h
theorem map_done {α β : Type} (f : α → β) (l : List α) (z : β) (i : Nat) (h : i < l.length) :
    ((l.take i).map f ++ List.replicate (l.length - i) z).set i (f l[i]) = (l.take (i + 1)).map f ++ List.replicate (l.length - (i + 1)) z := by
  have e : l.length - i = (l.length - (i + 1)) + 1 := by omega
  rw [List.set_append_right _ _ (by simp; omega), e, List.replicate_succ]
  have e2 : i - ((l.take i).map f).length = 0 := by simp; omega
  rw [e2, List.set_cons_zero, List.take_succ_eq_append_getElem h, List.map_append]
  simp
theorem done_len {α β : Type} (f : α → β) (l : List α) (z : β) (i : Nat) (h : i ≤ l.length) : ((l.take i).map f ++ List.replicate (l.length - i) z).length = l.length := by simp; omega
def EvP {α : Type} (g : Nat → Option α) (P : α → Prop) : Prop := ∃ r, Ev g r ∧ P r
theorem EvP.now {α : Type} {r : α} {P : α → Prop} (h : P r) : EvP (fun _ => Option.some r) P := ⟨r, Ev.now r, h⟩
theorem EvP.of {α : Type} {g : Nat → Option α} {r : α} {P : α → Prop} (h : Ev g r) (hp : P r) : EvP g P := ⟨r, h, hp⟩
theorem EvP.mono {α : Type} {g : Nat → Option α} {P Q : α → Prop} (h : EvP g P) (hp : ∀ r, P r → Q r) : EvP g Q := by
  obtain ⟨r, h1, h2⟩ := h
  exact ⟨r, h1, hp _ h2⟩
theorem EvP.eq {α : Type} {g : Nat → Option α} {r : α} (h : EvP g (· = r)) : Ev g r := by
  obtain ⟨r', h, rfl⟩ := h
  exact h
theorem EvP.step {α : Type} {g f : Nat → Option α} {P : α → Prop} (h : ∀ k, g (k + 1) = f k) (k : EvP f P) : EvP g P := by
  obtain ⟨r, h1, h2⟩ := k
  exact ⟨r, Ev.step h h1, h2⟩
theorem EvP.bind {α β : Type} {g : Nat → Option α} {f : Nat → α → Option β} {a : α} {P : β → Prop} (h : Ev g a) (k : EvP (fun n => f n a) P) : EvP (fun n => (g n).bind (f n)) P := by
  obtain ⟨r, h1, h2⟩ := k
  exact ⟨r, Ev.bind h h1, h2⟩
theorem EvP.bindP {α β : Type} {g : Nat → Option α} {f : Nat → α → Option β} {Q : α → Prop} {P : β → Prop} (h : EvP g Q) (k : ∀ a, Q a → EvP (fun n => f n a) P) : EvP (fun n => (g n).bind (f n)) P := by
  obtain ⟨a, ha, hq⟩ := h
  exact EvP.bind ha (k a hq)
theorem EvP.rounds {α : Type} {g : Nat → Option α} {r : α} (h : EvP g (· = r)) : ∃ k, g k = Option.some r := Ev.rounds (EvP.eq h)
theorem for_evp {σ ρ : Type} {L : Nat → σ → Int → Option ρ} {Post : ρ → Prop} (n : Nat) (inv : Nat → σ → Prop)
    (step : ∀ (i : Nat) (s : σ), i < n → inv i s → (∀ s', inv (i + 1) s' → EvP (fun k => L k s' ((i : Int) + 1)) Post) → EvP (fun k => L k s i) Post)
    (fin : ∀ s, inv n s → EvP (fun k => L k s n) Post) (s : σ) (h0 : inv 0 s) : EvP (fun k => L k s 0) Post := by
  have key : ∀ (d i : Nat) (s : σ), i + d = n → inv i s → EvP (fun k => L k s i) Post := by
    intro d
    induction d with
    | zero =>
      intro i s hi hs
      obtain rfl : i = n := by omega
      exact fin s hs
    | succ d ih =>
      intro i s hi hs
      refine step i s (by omega) hs (fun s' hs' => ?_)
      simpa using ih (i + 1) s' (by omega) hs'
  simpa using key n 0 s (by omega) h0
theorem take_all {α : Type} {p : α → Prop} {l : List α} {i : Nat} (h : i < l.length) (hs : ∀ x ∈ l.take i, p x) (hx : p l[i]) : ∀ x ∈ l.take (i + 1), p x := by
  rw [List.take_succ_eq_append_getElem h]
  intro x hm
  rcases List.mem_append.1 hm with hm | hm
  · exact hs x hm
  · rw [List.mem_singleton.1 hm]
    exact hx
theorem all_ev {α : Type} {L : Nat → Int → Option Bool} (l : List α) (p : α → Bool) (b : Bool)
    (step : ∀ (i : Nat) (h : i < l.length), p l[i] = true → ∀ P, EvP (fun k => L k ((i : Int) + 1)) P → EvP (fun k => L k i) P)
    (stop : ∀ (i : Nat) (h : i < l.length), p l[i] = false → Ev (fun k => L k i) false)
    (fin : Ev (fun k => L k l.length) b) : Ev (fun k => L k 0) (l.all p && b) := by
  apply EvP.eq
  refine for_evp (L := fun k (_ : Unit) i => L k i) l.length (fun i _ => ∀ x ∈ l.take i, p x = true) ?_ ?_ () (by simp)
  · intro i _ hi hs K
    cases hp : p l[i] with
    | true => exact step i hi hp _ (K () (take_all hi hs hp))
    | false =>
      have e : l.all p = false := by
        rw [List.all_eq_false]
        exact ⟨l[i], List.getElem_mem hi, by simp [hp]⟩
      rw [e]
      exact EvP.of (stop i hi hp) rfl
  · intro _ hs
    have e : l.all p = true := by
      rw [List.all_eq_true]
      simpa using hs
    rw [e]
    exact EvP.of fin rfl
end Go.Proofs.Ytmfhncjkfhdlcaa.EvK
end

section
namespace Go.Proofs.Ytmfhncjkfhdlcaa.EvK
open Go.RowKit Go.Proofs.YtmfhncjkfhdlcaaW.PrintWords
set_option linter.unusedVariables false
theorem all_to {α ρ : Type} {L : Nat → Int → Option ρ} (l : List α) (p : α → Bool) (yes no : ρ)
    (step : ∀ (i : Nat) (h : i < l.length), p l[i] = true → ∀ P, EvP (fun k => L k ((i : Int) + 1)) P → EvP (fun k => L k i) P)
    (stop : ∀ (i : Nat) (h : i < l.length), p l[i] = false → Ev (fun k => L k i) no)
    (fin : l.all p = true → Ev (fun k => L k l.length) yes) : Ev (fun k => L k 0) (if l.all p = true then yes else no) := by
  apply EvP.eq
  refine for_evp (L := fun k (_ : Unit) i => L k i) l.length (fun i _ => ∀ x ∈ l.take i, p x = true) ?_ ?_ () (by simp)
  · intro i _ hi hs K
    cases hp : p l[i] with
    | true => exact step i hi hp _ (K () (take_all hi hs hp))
    | false =>
      have e : l.all p = false := by
        rw [List.all_eq_false]
        exact ⟨l[i], List.getElem_mem hi, by simp [hp]⟩
      rw [e]
      exact EvP.of (stop i hi hp) rfl
  · intro _ hs
    have e : l.all p = true := by
      rw [List.all_eq_true]
      simpa using hs
    rw [e]
    exact EvP.of (fin e) rfl
theorem all_n {ρ : Type} {L : Nat → Int → Option ρ} (n : Nat) (p : Nat → Bool) (yes no : ρ)
    (step : ∀ (i : Nat), i < n → p i = true → ∀ P, EvP (fun k => L k ((i : Int) + 1)) P → EvP (fun k => L k i) P)
    (stop : ∀ (i : Nat), i < n → p i = false → Ev (fun k => L k i) no)
    (fin : Ev (fun k => L k n) yes) : Ev (fun k => L k 0) (if (List.range n).all p = true then yes else no) := by
  have := all_to (L := L) (List.range n) p yes no ?_ ?_ ?_
  · exact this
  · intro i hi hp P K
    simp only [List.length_range, List.getElem_range] at hi hp
    exact step i hi hp P K
  · intro i hi hp
    simp only [List.length_range, List.getElem_range] at hi hp
    exact stop i hi hp
  · intro _
    simpa using fin
end Go.Proofs.Ytmfhncjkfhdlcaa.EvK
end

section
namespace Go.Proofs.Ytmfhncjkfhdlcaa.SM
open Go.RowKit Go.Proofs.YtmfhncjkfhdlcaaW.PrintWords Go.Proofs.Ytmfhncjkfhdlcaa.XM Go.Proofs.Ytmfhncjkfhdlcaa.EvK
set_option linter.unusedVariables false
set_option linter.unusedSimpArgs false
theorem szInt64S_val (l : List Int) (left : Int) (h0 : 0 ≤ left) (h1 : left ≤ 1048576) (hq : l.length ≤ maxLen) : ∃ t, laws_szInt64S.f l left = some t ∧ t ≤ left ∧ (0 ≤ t → l.length ≤ 1048576) := by
  unfold maxLen at hq
  unfold laws_szInt64S.f
  repeat' split
  all_goals refine ⟨_, rfl, ?_, ?_⟩
  all_goals (simp only [wrap64] at *; omega)
end Go.Proofs.Ytmfhncjkfhdlcaa.SM
end

section
namespace Go.Proofs.Ytmfhncjkfhdlcaa.SM
open Go.RowKit Go.Proofs.YtmfhncjkfhdlcaaW.PrintWords Go.Proofs.Ytmfhncjkfhdlcaa.XM Go.Proofs.Ytmfhncjkfhdlcaa.EvK
set_option linter.unusedVariables false
set_option linter.unusedSimpArgs false
def toInt64S_el (x : Int) : Int := x
theorem toInt64S_ev (l : List Int) (hl : l.length ≤ 1048576) : Ev (fun k => laws_toInt64S.f k l) (l.map toInt64S_el) := by
  apply EvP.eq
  unfold laws_toInt64S.f
  simp only [if_pos (show (0 : Int) ≤ (l.length : Int) by omega), Int.toNat_natCast, if_pos (show l.length ≤ 35184372088832 by omega)]
  refine for_evp (L := fun k (s : List Int) i => laws_toInt64S.l0 k l s i) l.length (fun i s => s = (l.take i).map toInt64S_el ++ List.replicate (l.length - i) 0) ?_ ?_ (List.replicate l.length 0) (by simp)
  · rintro i s hi rfl K
    have e : rd l (i : Int) = l[i] := getD_at l 0 i hi
    have hlen := done_len toInt64S_el l 0 i (by omega)
    refine EvP.step (fun k => laws_toInt64S.l0.eq_2 _ _ _ k) ?_
    simp only [if_pos (show (i : Int) < (l.length : Int) by omega), if_pos (show (0 : Int) ≤ (i : Int) by omega), e, hlen, w64 (show -9223372036854775808 ≤ (i : Int) + 1 by omega) (by omega), Int.toNat_natCast]
    refine K _ ?_
    show List.set _ i (toInt64S_el l[i]) = _
    exact map_done toInt64S_el l _ i hi
  · rintro s rfl
    refine EvP.step (fun k => laws_toInt64S.l0.eq_2 _ _ _ k) ?_
    simp only [if_neg (show ¬ (l.length : Int) < (l.length : Int) by omega)]
    exact EvP.now (by simp)
end Go.Proofs.Ytmfhncjkfhdlcaa.SM
end

section
namespace Go.Proofs.Ytmfhncjkfhdlcaa.SM
open Go.RowKit Go.Proofs.YtmfhncjkfhdlcaaW.PrintWords Go.Proofs.Ytmfhncjkfhdlcaa.XM Go.Proofs.Ytmfhncjkfhdlcaa.EvK
set_option linter.unusedVariables false
set_option linter.unusedSimpArgs false
theorem eqInt64S_ev (l : List Int) (hl : l.length ≤ 1048576) : Ev (fun k => laws_eqInt64S.f k l l) true := by
  apply EvP.eq
  unfold laws_eqInt64S.f
  simp only [if_true]
  refine for_evp (L := fun k (s : Unit) i => laws_eqInt64S.l0 k l l i) l.length (fun i s => True) ?_ ?_ () trivial
  · rintro i s hi - K
    refine EvP.step (fun k => laws_eqInt64S.l0.eq_2 _ _ _ k) ?_
    simp only [if_pos (show (i : Int) < (l.length : Int) by omega), if_pos (show (0 : Int) ≤ (i : Int) by omega), if_true, w64 (show -9223372036854775808 ≤ (i : Int) + 1 by omega) (by omega)]
    exact K () trivial
  · rintro s -
    refine EvP.step (fun k => laws_eqInt64S.l0.eq_2 _ _ _ k) ?_
    simp only [if_neg (show ¬ (l.length : Int) < (l.length : Int) by omega)]
    exact EvP.now rfl
end Go.Proofs.Ytmfhncjkfhdlcaa.SM
end

section
namespace Go.Proofs.Ytmfhncjkfhdlcaa.SM
open Go.RowKit Go.Proofs.YtmfhncjkfhdlcaaW.PrintWords Go.Proofs.Ytmfhncjkfhdlcaa.XM Go.Proofs.Ytmfhncjkfhdlcaa.EvK
set_option linter.unusedVariables false
set_option linter.unusedSimpArgs false
theorem szPipe_val (x : S136) (left : Int) (h0 : 0 ≤ left) (h1 : left ≤ 1048576) (hq : Q136 x) : ∃ t, laws_szPipe.f x.f0 x.f1 x.f2 x.f3 x.f4 x.f5 left = some t ∧ t ≤ left ∧ (0 ≤ t → (x.f0.size ≤ 1048576)) := by
  unfold Q136 maxLen at hq
  unfold laws_szPipe.f
  repeat' split
  all_goals refine ⟨_, rfl, ?_, ?_⟩
  all_goals (simp only [wrap64] at *; omega)
end Go.Proofs.Ytmfhncjkfhdlcaa.SM
end

section
namespace Go.Proofs.Ytmfhncjkfhdlcaa.SM
open Go.RowKit Go.Proofs.YtmfhncjkfhdlcaaW.PrintWords Go.Proofs.Ytmfhncjkfhdlcaa.XM Go.Proofs.Ytmfhncjkfhdlcaa.EvK
set_option linter.unusedVariables false
set_option linter.unusedSimpArgs false
theorem szPipeS_ev (l : List (S136)) (left : Int) (h0 : 0 ≤ left) (h1 : left ≤ 1048576) (hq : (l.length ≤ maxLen ∧ ∀ y1 ∈ l, Q136 y1)) : EvP (fun k => laws_szPipeS.f k l left) (fun t => t ≤ left ∧ (0 ≤ t → l.length ≤ 1048576 ∧ ∀ x ∈ l, (x.f0.size ≤ 1048576))) := by
  obtain ⟨hl, hq⟩ := hq
  unfold maxLen at hl
  unfold laws_szPipeS.f
  rw [w64 (by omega) (by omega)]
  by_cases hc : left - (l.length : Int) < 0
  · simp only [if_pos hc]
    exact EvP.now ⟨by omega, by omega⟩
  simp only [if_neg hc]
  refine for_evp (L := fun k (s : Int) i => laws_szPipeS.l0 k l s i) l.length (fun i s => 0 ≤ s ∧ s ≤ left - (l.length : Int) ∧ ∀ x ∈ l.take i, (x.f0.size ≤ 1048576)) ?_ ?_ _ ⟨by omega, by omega, by simp⟩
  · rintro i s hi ⟨hs0, hs1, hs⟩ K
    have e : rd_T136 l (i : Int) = l[i] := getD_at l z136 i hi
    refine EvP.step (fun k => laws_szPipeS.l0.eq_2 _ _ _ k) ?_
    obtain ⟨t, ht, ht1, ht2⟩ := szPipe_val l[i] s hs0 (by omega) (hq _ (List.getElem_mem hi))
    simp only [if_pos (show (i : Int) < (l.length : Int) by omega), if_pos (show (0 : Int) ≤ (i : Int) by omega), e, ht, Option.bind_some, w64 (show -9223372036854775808 ≤ (i : Int) + 1 by omega) (by omega)]
    by_cases hn : t < 0
    · simp only [if_pos hn]
      exact EvP.now ⟨by omega, by omega⟩
    · simp only [if_neg hn]
      exact K _ ⟨by omega, by omega, take_all hi hs (ht2 (by omega))⟩
  · rintro s ⟨hs0, hs1, hs⟩
    refine EvP.step (fun k => laws_szPipeS.l0.eq_2 _ _ _ k) ?_
    simp only [if_neg (show ¬ (l.length : Int) < (l.length : Int) by omega)]
    exact EvP.now ⟨by omega, fun _ => ⟨by omega, by simpa using hs⟩⟩
end Go.Proofs.Ytmfhncjkfhdlcaa.SM
end

section
namespace Go.Proofs.Ytmfhncjkfhdlcaa.SM
open Go.RowKit Go.Proofs.YtmfhncjkfhdlcaaW.PrintWords Go.Proofs.Ytmfhncjkfhdlcaa.XM Go.Proofs.Ytmfhncjkfhdlcaa.EvK
set_option linter.unusedVariables false
set_option linter.unusedSimpArgs false
def toPipeS_el (x : S136) : S118 := (⟨x.f0, x.f1, x.f2, x.f3, x.f4, x.f5⟩ : S118)
theorem toPipeS_ev (l : List (S136)) (hl : l.length ≤ 1048576) : Ev (fun k => laws_toPipeS.f k l) (l.map toPipeS_el) := by
  apply EvP.eq
  unfold laws_toPipeS.f
  simp only [if_pos (show (0 : Int) ≤ (l.length : Int) by omega), Int.toNat_natCast, if_pos (show l.length ≤ 5026338869833 by omega)]
  refine for_evp (L := fun k (s : List (S118)) i => laws_toPipeS.l0 k l s i) l.length (fun i s => s = (l.take i).map toPipeS_el ++ List.replicate (l.length - i) z118) ?_ ?_ (List.replicate l.length z118) (by simp)
  · rintro i s hi rfl K
    have e : rd_T136 l (i : Int) = l[i] := getD_at l z136 i hi
    have hlen := done_len toPipeS_el l z118 i (by omega)
    refine EvP.step (fun k => laws_toPipeS.l0.eq_2 _ _ _ k) ?_
    simp only [if_pos (show (i : Int) < (l.length : Int) by omega), if_pos (show (0 : Int) ≤ (i : Int) by omega), e, laws_toPipe.f, Option.bind_some, hlen, w64 (show -9223372036854775808 ≤ (i : Int) + 1 by omega) (by omega), Int.toNat_natCast]
    refine K _ ?_
    show List.set _ i (toPipeS_el l[i]) = _
    exact map_done toPipeS_el l _ i hi
  · rintro s rfl
    refine EvP.step (fun k => laws_toPipeS.l0.eq_2 _ _ _ k) ?_
    simp only [if_neg (show ¬ (l.length : Int) < (l.length : Int) by omega)]
    exact EvP.now (by simp)
end Go.Proofs.Ytmfhncjkfhdlcaa.SM
end

section
namespace Go.Proofs.Ytmfhncjkfhdlcaa.SM
open Go.RowKit Go.Proofs.YtmfhncjkfhdlcaaW.PrintWords Go.Proofs.Ytmfhncjkfhdlcaa.XM Go.Proofs.Ytmfhncjkfhdlcaa.EvK
set_option linter.unusedVariables false
set_option linter.unusedSimpArgs false
theorem eqPipeS_ev (l : List (S118)) (hl : l.length ≤ 1048576) : Ev (fun k => laws_eqPipeS.f k l l) true := by
  apply EvP.eq
  unfold laws_eqPipeS.f
  simp only [if_true]
  refine for_evp (L := fun k (s : Unit) i => laws_eqPipeS.l0 k l l i) l.length (fun i s => True) ?_ ?_ () trivial
  · rintro i s hi - K
    refine EvP.step (fun k => laws_eqPipeS.l0.eq_2 _ _ _ k) ?_
    simp only [if_pos (show (i : Int) < (l.length : Int) by omega), if_pos (show (0 : Int) ≤ (i : Int) by omega), laws_eqPipe.f, Option.bind_some, if_true, w64 (show -9223372036854775808 ≤ (i : Int) + 1 by omega) (by omega)]
    exact K () trivial
  · rintro s -
    refine EvP.step (fun k => laws_eqPipeS.l0.eq_2 _ _ _ k) ?_
    simp only [if_neg (show ¬ (l.length : Int) < (l.length : Int) by omega)]
    exact EvP.now rfl
end Go.Proofs.Ytmfhncjkfhdlcaa.SM
end

section
namespace Go.Proofs.Ytmfhncjkfhdlcaa.SM
open Go.RowKit Go.Proofs.YtmfhncjkfhdlcaaW.PrintWords Go.Proofs.Ytmfhncjkfhdlcaa.XM Go.Proofs.Ytmfhncjkfhdlcaa.EvK
set_option linter.unusedVariables false
set_option linter.unusedSimpArgs false
theorem szValve_val (x : S104) (left : Int) (h0 : 0 ≤ left) (h1 : left ≤ 1048576) (hq : Q104 x) : ∃ t, laws_szValve.f x.f0 x.f1 x.f2 left = some t ∧ t ≤ left ∧ (0 ≤ t → (x.f0.size ≤ 1048576) ∧ (x.f1.size ≤ 1048576)) := by
  unfold Q104 maxLen at hq
  unfold laws_szValve.f
  repeat' split
  all_goals refine ⟨_, rfl, ?_, ?_⟩
  all_goals (simp only [wrap64] at *; omega)
end Go.Proofs.Ytmfhncjkfhdlcaa.SM
end

section
namespace Go.Proofs.Ytmfhncjkfhdlcaa.SM
open Go.RowKit Go.Proofs.YtmfhncjkfhdlcaaW.PrintWords Go.Proofs.Ytmfhncjkfhdlcaa.XM Go.Proofs.Ytmfhncjkfhdlcaa.EvK
set_option linter.unusedVariables false
set_option linter.unusedSimpArgs false
theorem szValveS_ev (l : List (S104)) (left : Int) (h0 : 0 ≤ left) (h1 : left ≤ 1048576) (hq : (l.length ≤ maxLen ∧ ∀ y1 ∈ l, Q104 y1)) : EvP (fun k => laws_szValveS.f k l left) (fun t => t ≤ left ∧ (0 ≤ t → l.length ≤ 1048576 ∧ ∀ x ∈ l, (x.f0.size ≤ 1048576) ∧ (x.f1.size ≤ 1048576))) := by
  obtain ⟨hl, hq⟩ := hq
  unfold maxLen at hl
  unfold laws_szValveS.f
  rw [w64 (by omega) (by omega)]
  by_cases hc : left - (l.length : Int) < 0
  · simp only [if_pos hc]
    exact EvP.now ⟨by omega, by omega⟩
  simp only [if_neg hc]
  refine for_evp (L := fun k (s : Int) i => laws_szValveS.l0 k l s i) l.length (fun i s => 0 ≤ s ∧ s ≤ left - (l.length : Int) ∧ ∀ x ∈ l.take i, (x.f0.size ≤ 1048576) ∧ (x.f1.size ≤ 1048576)) ?_ ?_ _ ⟨by omega, by omega, by simp⟩
  · rintro i s hi ⟨hs0, hs1, hs⟩ K
    have e : rd_T104 l (i : Int) = l[i] := getD_at l z104 i hi
    refine EvP.step (fun k => laws_szValveS.l0.eq_2 _ _ _ k) ?_
    obtain ⟨t, ht, ht1, ht2⟩ := szValve_val l[i] s hs0 (by omega) (hq _ (List.getElem_mem hi))
    simp only [if_pos (show (i : Int) < (l.length : Int) by omega), if_pos (show (0 : Int) ≤ (i : Int) by omega), e, ht, Option.bind_some, w64 (show -9223372036854775808 ≤ (i : Int) + 1 by omega) (by omega)]
    by_cases hn : t < 0
    · simp only [if_pos hn]
      exact EvP.now ⟨by omega, by omega⟩
    · simp only [if_neg hn]
      exact K _ ⟨by omega, by omega, take_all hi hs (ht2 (by omega))⟩
  · rintro s ⟨hs0, hs1, hs⟩
    refine EvP.step (fun k => laws_szValveS.l0.eq_2 _ _ _ k) ?_
    simp only [if_neg (show ¬ (l.length : Int) < (l.length : Int) by omega)]
    exact EvP.now ⟨by omega, fun _ => ⟨by omega, by simpa using hs⟩⟩
end Go.Proofs.Ytmfhncjkfhdlcaa.SM
end

section
namespace Go.Proofs.Ytmfhncjkfhdlcaa.SM
open Go.RowKit Go.Proofs.YtmfhncjkfhdlcaaW.PrintWords Go.Proofs.Ytmfhncjkfhdlcaa.XM Go.Proofs.Ytmfhncjkfhdlcaa.EvK
set_option linter.unusedVariables false
set_option linter.unusedSimpArgs false
def toValveS_el (x : S104) : S66 := (⟨x.f0, x.f1, x.f2⟩ : S66)
theorem toValveS_ev (l : List (S104)) (hl : l.length ≤ 1048576) : Ev (fun k => laws_toValveS.f k l) (l.map toValveS_el) := by
  apply EvP.eq
  unfold laws_toValveS.f
  simp only [if_pos (show (0 : Int) ≤ (l.length : Int) by omega), Int.toNat_natCast, if_pos (show l.length ≤ 7036874417766 by omega)]
  refine for_evp (L := fun k (s : List (S66)) i => laws_toValveS.l0 k l s i) l.length (fun i s => s = (l.take i).map toValveS_el ++ List.replicate (l.length - i) z66) ?_ ?_ (List.replicate l.length z66) (by simp)
  · rintro i s hi rfl K
    have e : rd_T104 l (i : Int) = l[i] := getD_at l z104 i hi
    have hlen := done_len toValveS_el l z66 i (by omega)
    refine EvP.step (fun k => laws_toValveS.l0.eq_2 _ _ _ k) ?_
    simp only [if_pos (show (i : Int) < (l.length : Int) by omega), if_pos (show (0 : Int) ≤ (i : Int) by omega), e, laws_toValve.f, Option.bind_some, hlen, w64 (show -9223372036854775808 ≤ (i : Int) + 1 by omega) (by omega), Int.toNat_natCast]
    refine K _ ?_
    show List.set _ i (toValveS_el l[i]) = _
    exact map_done toValveS_el l _ i hi
  · rintro s rfl
    refine EvP.step (fun k => laws_toValveS.l0.eq_2 _ _ _ k) ?_
    simp only [if_neg (show ¬ (l.length : Int) < (l.length : Int) by omega)]
    exact EvP.now (by simp)
end Go.Proofs.Ytmfhncjkfhdlcaa.SM
end

section
namespace Go.Proofs.Ytmfhncjkfhdlcaa.SM
open Go.RowKit Go.Proofs.YtmfhncjkfhdlcaaW.PrintWords Go.Proofs.Ytmfhncjkfhdlcaa.XM Go.Proofs.Ytmfhncjkfhdlcaa.EvK
set_option linter.unusedVariables false
set_option linter.unusedSimpArgs false
theorem eqValveS_ev (l : List (S66)) (hl : l.length ≤ 1048576) : Ev (fun k => laws_eqValveS.f k l l) true := by
  apply EvP.eq
  unfold laws_eqValveS.f
  simp only [if_true]
  refine for_evp (L := fun k (s : Unit) i => laws_eqValveS.l0 k l l i) l.length (fun i s => True) ?_ ?_ () trivial
  · rintro i s hi - K
    refine EvP.step (fun k => laws_eqValveS.l0.eq_2 _ _ _ k) ?_
    simp only [if_pos (show (i : Int) < (l.length : Int) by omega), if_pos (show (0 : Int) ≤ (i : Int) by omega), laws_eqValve.f, Option.bind_some, bne_self_eq_false, Bool.false_eq_true, if_false, if_true, w64 (show -9223372036854775808 ≤ (i : Int) + 1 by omega) (by omega)]
    exact K () trivial
  · rintro s -
    refine EvP.step (fun k => laws_eqValveS.l0.eq_2 _ _ _ k) ?_
    simp only [if_neg (show ¬ (l.length : Int) < (l.length : Int) by omega)]
    exact EvP.now rfl
end Go.Proofs.Ytmfhncjkfhdlcaa.SM
end

section
namespace Go.Proofs.Ytmfhncjkfhdlcaa.SM
open Go.RowKit Go.Proofs.YtmfhncjkfhdlcaaW.PrintWords Go.Proofs.Ytmfhncjkfhdlcaa.XM Go.Proofs.Ytmfhncjkfhdlcaa.EvK
set_option linter.unusedVariables false
set_option linter.unusedSimpArgs false
theorem szSubstation_val (x : S108) (left : Int) (h0 : 0 ≤ left) (h1 : left ≤ 1048576) (hq : Q108 x) : ∃ t, laws_szSubstation.f x.f0 x.f1 x.f2 x.f3 x.f4 left = some t ∧ t ≤ left ∧ (0 ≤ t → (x.f0.size ≤ 1048576)) := by
  unfold Q108 maxLen at hq
  unfold laws_szSubstation.f
  repeat' split
  all_goals refine ⟨_, rfl, ?_, ?_⟩
  all_goals (simp only [wrap64] at *; omega)
end Go.Proofs.Ytmfhncjkfhdlcaa.SM
end

section
namespace Go.Proofs.Ytmfhncjkfhdlcaa.SM
open Go.RowKit Go.Proofs.YtmfhncjkfhdlcaaW.PrintWords Go.Proofs.Ytmfhncjkfhdlcaa.XM Go.Proofs.Ytmfhncjkfhdlcaa.EvK
set_option linter.unusedVariables false
set_option linter.unusedSimpArgs false
theorem szSubstationS_ev (l : List (S108)) (left : Int) (h0 : 0 ≤ left) (h1 : left ≤ 1048576) (hq : (l.length ≤ maxLen ∧ ∀ y1 ∈ l, Q108 y1)) : EvP (fun k => laws_szSubstationS.f k l left) (fun t => t ≤ left ∧ (0 ≤ t → l.length ≤ 1048576 ∧ ∀ x ∈ l, (x.f0.size ≤ 1048576))) := by
  obtain ⟨hl, hq⟩ := hq
  unfold maxLen at hl
  unfold laws_szSubstationS.f
  rw [w64 (by omega) (by omega)]
  by_cases hc : left - (l.length : Int) < 0
  · simp only [if_pos hc]
    exact EvP.now ⟨by omega, by omega⟩
  simp only [if_neg hc]
  refine for_evp (L := fun k (s : Int) i => laws_szSubstationS.l0 k l s i) l.length (fun i s => 0 ≤ s ∧ s ≤ left - (l.length : Int) ∧ ∀ x ∈ l.take i, (x.f0.size ≤ 1048576)) ?_ ?_ _ ⟨by omega, by omega, by simp⟩
  · rintro i s hi ⟨hs0, hs1, hs⟩ K
    have e : rd_T108 l (i : Int) = l[i] := getD_at l z108 i hi
    refine EvP.step (fun k => laws_szSubstationS.l0.eq_2 _ _ _ k) ?_
    obtain ⟨t, ht, ht1, ht2⟩ := szSubstation_val l[i] s hs0 (by omega) (hq _ (List.getElem_mem hi))
    simp only [if_pos (show (i : Int) < (l.length : Int) by omega), if_pos (show (0 : Int) ≤ (i : Int) by omega), e, ht, Option.bind_some, w64 (show -9223372036854775808 ≤ (i : Int) + 1 by omega) (by omega)]
    by_cases hn : t < 0
    · simp only [if_pos hn]
      exact EvP.now ⟨by omega, by omega⟩
    · simp only [if_neg hn]
      exact K _ ⟨by omega, by omega, take_all hi hs (ht2 (by omega))⟩
  · rintro s ⟨hs0, hs1, hs⟩
    refine EvP.step (fun k => laws_szSubstationS.l0.eq_2 _ _ _ k) ?_
    simp only [if_neg (show ¬ (l.length : Int) < (l.length : Int) by omega)]
    exact EvP.now ⟨by omega, fun _ => ⟨by omega, by simpa using hs⟩⟩
end Go.Proofs.Ytmfhncjkfhdlcaa.SM
end

section
namespace Go.Proofs.Ytmfhncjkfhdlcaa.SM
open Go.RowKit Go.Proofs.YtmfhncjkfhdlcaaW.PrintWords Go.Proofs.Ytmfhncjkfhdlcaa.XM Go.Proofs.Ytmfhncjkfhdlcaa.EvK
set_option linter.unusedVariables false
set_option linter.unusedSimpArgs false
def toSubstationS_el (x : S108) : S73 := (⟨x.f0, x.f1, x.f2, x.f3, x.f4⟩ : S73)
theorem toSubstationS_ev (l : List (S108)) (hl : l.length ≤ 1048576) : Ev (fun k => laws_toSubstationS.f k l) (l.map toSubstationS_el) := by
  apply EvP.eq
  unfold laws_toSubstationS.f
  simp only [if_pos (show (0 : Int) ≤ (l.length : Int) by omega), Int.toNat_natCast, if_pos (show l.length ≤ 5864062014805 by omega)]
  refine for_evp (L := fun k (s : List (S73)) i => laws_toSubstationS.l0 k l s i) l.length (fun i s => s = (l.take i).map toSubstationS_el ++ List.replicate (l.length - i) z73) ?_ ?_ (List.replicate l.length z73) (by simp)
  · rintro i s hi rfl K
    have e : rd_T108 l (i : Int) = l[i] := getD_at l z108 i hi
    have hlen := done_len toSubstationS_el l z73 i (by omega)
    refine EvP.step (fun k => laws_toSubstationS.l0.eq_2 _ _ _ k) ?_
    simp only [if_pos (show (i : Int) < (l.length : Int) by omega), if_pos (show (0 : Int) ≤ (i : Int) by omega), e, laws_toSubstation.f, Option.bind_some, hlen, w64 (show -9223372036854775808 ≤ (i : Int) + 1 by omega) (by omega), Int.toNat_natCast]
    refine K _ ?_
    show List.set _ i (toSubstationS_el l[i]) = _
    exact map_done toSubstationS_el l _ i hi
  · rintro s rfl
    refine EvP.step (fun k => laws_toSubstationS.l0.eq_2 _ _ _ k) ?_
    simp only [if_neg (show ¬ (l.length : Int) < (l.length : Int) by omega)]
    exact EvP.now (by simp)
end Go.Proofs.Ytmfhncjkfhdlcaa.SM
end

section
namespace Go.Proofs.Ytmfhncjkfhdlcaa.SM
open Go.RowKit Go.Proofs.YtmfhncjkfhdlcaaW.PrintWords Go.Proofs.Ytmfhncjkfhdlcaa.XM Go.Proofs.Ytmfhncjkfhdlcaa.EvK
set_option linter.unusedVariables false
set_option linter.unusedSimpArgs false
theorem eqSubstationS_ev (l : List (S73)) (hl : l.length ≤ 1048576) : Ev (fun k => laws_eqSubstationS.f k l l) true := by
  apply EvP.eq
  unfold laws_eqSubstationS.f
  simp only [if_true]
  refine for_evp (L := fun k (s : Unit) i => laws_eqSubstationS.l0 k l l i) l.length (fun i s => True) ?_ ?_ () trivial
  · rintro i s hi - K
    refine EvP.step (fun k => laws_eqSubstationS.l0.eq_2 _ _ _ k) ?_
    simp only [if_pos (show (i : Int) < (l.length : Int) by omega), if_pos (show (0 : Int) ≤ (i : Int) by omega), laws_eqSubstation.f, Option.bind_some, if_true, w64 (show -9223372036854775808 ≤ (i : Int) + 1 by omega) (by omega)]
    exact K () trivial
  · rintro s -
    refine EvP.step (fun k => laws_eqSubstationS.l0.eq_2 _ _ _ k) ?_
    simp only [if_neg (show ¬ (l.length : Int) < (l.length : Int) by omega)]
    exact EvP.now rfl
end Go.Proofs.Ytmfhncjkfhdlcaa.SM
end

section
namespace Go.Proofs.Ytmfhncjkfhdlcaa.SM
open Go.RowKit Go.Proofs.YtmfhncjkfhdlcaaW.PrintWords Go.Proofs.Ytmfhncjkfhdlcaa.XM Go.Proofs.Ytmfhncjkfhdlcaa.EvK
set_option linter.unusedVariables false
set_option linter.unusedSimpArgs false
theorem szFuel_val (x : S110) (left : Int) (h0 : 0 ≤ left) (h1 : left ≤ 1048576) (hq : Q110 x) : ∃ t, laws_szFuel.f x.f0 x.f1 x.f2 x.f3 left = some t ∧ t ≤ left ∧ (0 ≤ t → (x.f0.size ≤ 1048576)) := by
  unfold Q110 maxLen at hq
  unfold laws_szFuel.f
  repeat' split
  all_goals refine ⟨_, rfl, ?_, ?_⟩
  all_goals (simp only [wrap64] at *; omega)
end Go.Proofs.Ytmfhncjkfhdlcaa.SM
end

section
namespace Go.Proofs.Ytmfhncjkfhdlcaa.SM
open Go.RowKit Go.Proofs.YtmfhncjkfhdlcaaW.PrintWords Go.Proofs.Ytmfhncjkfhdlcaa.XM Go.Proofs.Ytmfhncjkfhdlcaa.EvK
set_option linter.unusedVariables false
set_option linter.unusedSimpArgs false
theorem szFuelS_ev (l : List (S110)) (left : Int) (h0 : 0 ≤ left) (h1 : left ≤ 1048576) (hq : (l.length ≤ maxLen ∧ ∀ y1 ∈ l, Q110 y1)) : EvP (fun k => laws_szFuelS.f k l left) (fun t => t ≤ left ∧ (0 ≤ t → l.length ≤ 1048576 ∧ ∀ x ∈ l, (x.f0.size ≤ 1048576))) := by
  obtain ⟨hl, hq⟩ := hq
  unfold maxLen at hl
  unfold laws_szFuelS.f
  rw [w64 (by omega) (by omega)]
  by_cases hc : left - (l.length : Int) < 0
  · simp only [if_pos hc]
    exact EvP.now ⟨by omega, by omega⟩
  simp only [if_neg hc]
  refine for_evp (L := fun k (s : Int) i => laws_szFuelS.l0 k l s i) l.length (fun i s => 0 ≤ s ∧ s ≤ left - (l.length : Int) ∧ ∀ x ∈ l.take i, (x.f0.size ≤ 1048576)) ?_ ?_ _ ⟨by omega, by omega, by simp⟩
  · rintro i s hi ⟨hs0, hs1, hs⟩ K
    have e : rd_T110 l (i : Int) = l[i] := getD_at l z110 i hi
    refine EvP.step (fun k => laws_szFuelS.l0.eq_2 _ _ _ k) ?_
    obtain ⟨t, ht, ht1, ht2⟩ := szFuel_val l[i] s hs0 (by omega) (hq _ (List.getElem_mem hi))
    simp only [if_pos (show (i : Int) < (l.length : Int) by omega), if_pos (show (0 : Int) ≤ (i : Int) by omega), e, ht, Option.bind_some, w64 (show -9223372036854775808 ≤ (i : Int) + 1 by omega) (by omega)]
    by_cases hn : t < 0
    · simp only [if_pos hn]
      exact EvP.now ⟨by omega, by omega⟩
    · simp only [if_neg hn]
      exact K _ ⟨by omega, by omega, take_all hi hs (ht2 (by omega))⟩
  · rintro s ⟨hs0, hs1, hs⟩
    refine EvP.step (fun k => laws_szFuelS.l0.eq_2 _ _ _ k) ?_
    simp only [if_neg (show ¬ (l.length : Int) < (l.length : Int) by omega)]
    exact EvP.now ⟨by omega, fun _ => ⟨by omega, by simpa using hs⟩⟩
end Go.Proofs.Ytmfhncjkfhdlcaa.SM
end

section
namespace Go.Proofs.Ytmfhncjkfhdlcaa.SM
open Go.RowKit Go.Proofs.YtmfhncjkfhdlcaaW.PrintWords Go.Proofs.Ytmfhncjkfhdlcaa.XM Go.Proofs.Ytmfhncjkfhdlcaa.EvK
set_option linter.unusedVariables false
set_option linter.unusedSimpArgs false
def toFuelS_el (x : S110) : S75 := (⟨x.f0, x.f1, x.f2, x.f3⟩ : S75)
theorem toFuelS_ev (l : List (S110)) (hl : l.length ≤ 1048576) : Ev (fun k => laws_toFuelS.f k l) (l.map toFuelS_el) := by
  apply EvP.eq
  unfold laws_toFuelS.f
  simp only [if_pos (show (0 : Int) ≤ (l.length : Int) by omega), Int.toNat_natCast, if_pos (show l.length ≤ 7036874417766 by omega)]
  refine for_evp (L := fun k (s : List (S75)) i => laws_toFuelS.l0 k l s i) l.length (fun i s => s = (l.take i).map toFuelS_el ++ List.replicate (l.length - i) z75) ?_ ?_ (List.replicate l.length z75) (by simp)
  · rintro i s hi rfl K
    have e : rd_T110 l (i : Int) = l[i] := getD_at l z110 i hi
    have hlen := done_len toFuelS_el l z75 i (by omega)
    refine EvP.step (fun k => laws_toFuelS.l0.eq_2 _ _ _ k) ?_
    simp only [if_pos (show (i : Int) < (l.length : Int) by omega), if_pos (show (0 : Int) ≤ (i : Int) by omega), e, laws_toFuel.f, Option.bind_some, hlen, w64 (show -9223372036854775808 ≤ (i : Int) + 1 by omega) (by omega), Int.toNat_natCast]
    refine K _ ?_
    show List.set _ i (toFuelS_el l[i]) = _
    exact map_done toFuelS_el l _ i hi
  · rintro s rfl
    refine EvP.step (fun k => laws_toFuelS.l0.eq_2 _ _ _ k) ?_
    simp only [if_neg (show ¬ (l.length : Int) < (l.length : Int) by omega)]
    exact EvP.now (by simp)
end Go.Proofs.Ytmfhncjkfhdlcaa.SM
end

section
namespace Go.Proofs.Ytmfhncjkfhdlcaa.SM
open Go.RowKit Go.Proofs.YtmfhncjkfhdlcaaW.PrintWords Go.Proofs.Ytmfhncjkfhdlcaa.XM Go.Proofs.Ytmfhncjkfhdlcaa.EvK
set_option linter.unusedVariables false
set_option linter.unusedSimpArgs false
theorem eqFuelS_ev (l : List (S75)) (hl : l.length ≤ 1048576) : Ev (fun k => laws_eqFuelS.f k l l) true := by
  apply EvP.eq
  unfold laws_eqFuelS.f
  simp only [if_true]
  refine for_evp (L := fun k (s : Unit) i => laws_eqFuelS.l0 k l l i) l.length (fun i s => True) ?_ ?_ () trivial
  · rintro i s hi - K
    refine EvP.step (fun k => laws_eqFuelS.l0.eq_2 _ _ _ k) ?_
    simp only [if_pos (show (i : Int) < (l.length : Int) by omega), if_pos (show (0 : Int) ≤ (i : Int) by omega), laws_eqFuel.f, Option.bind_some, if_true, w64 (show -9223372036854775808 ≤ (i : Int) + 1 by omega) (by omega)]
    exact K () trivial
  · rintro s -
    refine EvP.step (fun k => laws_eqFuelS.l0.eq_2 _ _ _ k) ?_
    simp only [if_neg (show ¬ (l.length : Int) < (l.length : Int) by omega)]
    exact EvP.now rfl
end Go.Proofs.Ytmfhncjkfhdlcaa.SM
end

section
namespace Go.Proofs.Ytmfhncjkfhdlcaa.SM
open Go.RowKit Go.Proofs.YtmfhncjkfhdlcaaW.PrintWords Go.Proofs.Ytmfhncjkfhdlcaa.XM Go.Proofs.Ytmfhncjkfhdlcaa.EvK
set_option linter.unusedVariables false
set_option linter.unusedSimpArgs false
theorem szRepair_val (x : S112) (left : Int) (h0 : 0 ≤ left) (h1 : left ≤ 1048576) (hq : Q112 x) : ∃ t, laws_szRepair.f x.f0 x.f1 x.f2 x.f3 left = some t ∧ t ≤ left ∧ (0 ≤ t → (x.f0.size ≤ 1048576)) := by
  unfold Q112 maxLen at hq
  unfold laws_szRepair.f
  repeat' split
  all_goals refine ⟨_, rfl, ?_, ?_⟩
  all_goals (simp only [wrap64] at *; omega)
end Go.Proofs.Ytmfhncjkfhdlcaa.SM
end

section
namespace Go.Proofs.Ytmfhncjkfhdlcaa.SM
open Go.RowKit Go.Proofs.YtmfhncjkfhdlcaaW.PrintWords Go.Proofs.Ytmfhncjkfhdlcaa.XM Go.Proofs.Ytmfhncjkfhdlcaa.EvK
set_option linter.unusedVariables false
set_option linter.unusedSimpArgs false
theorem szRepairS_ev (l : List (S112)) (left : Int) (h0 : 0 ≤ left) (h1 : left ≤ 1048576) (hq : (l.length ≤ maxLen ∧ ∀ y1 ∈ l, Q112 y1)) : EvP (fun k => laws_szRepairS.f k l left) (fun t => t ≤ left ∧ (0 ≤ t → l.length ≤ 1048576 ∧ ∀ x ∈ l, (x.f0.size ≤ 1048576))) := by
  obtain ⟨hl, hq⟩ := hq
  unfold maxLen at hl
  unfold laws_szRepairS.f
  rw [w64 (by omega) (by omega)]
  by_cases hc : left - (l.length : Int) < 0
  · simp only [if_pos hc]
    exact EvP.now ⟨by omega, by omega⟩
  simp only [if_neg hc]
  refine for_evp (L := fun k (s : Int) i => laws_szRepairS.l0 k l s i) l.length (fun i s => 0 ≤ s ∧ s ≤ left - (l.length : Int) ∧ ∀ x ∈ l.take i, (x.f0.size ≤ 1048576)) ?_ ?_ _ ⟨by omega, by omega, by simp⟩
  · rintro i s hi ⟨hs0, hs1, hs⟩ K
    have e : rd_T112 l (i : Int) = l[i] := getD_at l z112 i hi
    refine EvP.step (fun k => laws_szRepairS.l0.eq_2 _ _ _ k) ?_
    obtain ⟨t, ht, ht1, ht2⟩ := szRepair_val l[i] s hs0 (by omega) (hq _ (List.getElem_mem hi))
    simp only [if_pos (show (i : Int) < (l.length : Int) by omega), if_pos (show (0 : Int) ≤ (i : Int) by omega), e, ht, Option.bind_some, w64 (show -9223372036854775808 ≤ (i : Int) + 1 by omega) (by omega)]
    by_cases hn : t < 0
    · simp only [if_pos hn]
      exact EvP.now ⟨by omega, by omega⟩
    · simp only [if_neg hn]
      exact K _ ⟨by omega, by omega, take_all hi hs (ht2 (by omega))⟩
  · rintro s ⟨hs0, hs1, hs⟩
    refine EvP.step (fun k => laws_szRepairS.l0.eq_2 _ _ _ k) ?_
    simp only [if_neg (show ¬ (l.length : Int) < (l.length : Int) by omega)]
    exact EvP.now ⟨by omega, fun _ => ⟨by omega, by simpa using hs⟩⟩
end Go.Proofs.Ytmfhncjkfhdlcaa.SM
end

section
namespace Go.Proofs.Ytmfhncjkfhdlcaa.SM
open Go.RowKit Go.Proofs.YtmfhncjkfhdlcaaW.PrintWords Go.Proofs.Ytmfhncjkfhdlcaa.XM Go.Proofs.Ytmfhncjkfhdlcaa.EvK
set_option linter.unusedVariables false
set_option linter.unusedSimpArgs false
def toRepairS_el (x : S112) : S77 := (⟨x.f0, x.f1, x.f2, x.f3⟩ : S77)
theorem toRepairS_ev (l : List (S112)) (hl : l.length ≤ 1048576) : Ev (fun k => laws_toRepairS.f k l) (l.map toRepairS_el) := by
  apply EvP.eq
  unfold laws_toRepairS.f
  simp only [if_pos (show (0 : Int) ≤ (l.length : Int) by omega), Int.toNat_natCast, if_pos (show l.length ≤ 7036874417766 by omega)]
  refine for_evp (L := fun k (s : List (S77)) i => laws_toRepairS.l0 k l s i) l.length (fun i s => s = (l.take i).map toRepairS_el ++ List.replicate (l.length - i) z77) ?_ ?_ (List.replicate l.length z77) (by simp)
  · rintro i s hi rfl K
    have e : rd_T112 l (i : Int) = l[i] := getD_at l z112 i hi
    have hlen := done_len toRepairS_el l z77 i (by omega)
    refine EvP.step (fun k => laws_toRepairS.l0.eq_2 _ _ _ k) ?_
    simp only [if_pos (show (i : Int) < (l.length : Int) by omega), if_pos (show (0 : Int) ≤ (i : Int) by omega), e, laws_toRepair.f, Option.bind_some, hlen, w64 (show -9223372036854775808 ≤ (i : Int) + 1 by omega) (by omega), Int.toNat_natCast]
    refine K _ ?_
    show List.set _ i (toRepairS_el l[i]) = _
    exact map_done toRepairS_el l _ i hi
  · rintro s rfl
    refine EvP.step (fun k => laws_toRepairS.l0.eq_2 _ _ _ k) ?_
    simp only [if_neg (show ¬ (l.length : Int) < (l.length : Int) by omega)]
    exact EvP.now (by simp)
end Go.Proofs.Ytmfhncjkfhdlcaa.SM
end

section
namespace Go.Proofs.Ytmfhncjkfhdlcaa.SM
open Go.RowKit Go.Proofs.YtmfhncjkfhdlcaaW.PrintWords Go.Proofs.Ytmfhncjkfhdlcaa.XM Go.Proofs.Ytmfhncjkfhdlcaa.EvK
set_option linter.unusedVariables false
set_option linter.unusedSimpArgs false
theorem eqRepairS_ev (l : List (S77)) (hl : l.length ≤ 1048576) : Ev (fun k => laws_eqRepairS.f k l l) true := by
  apply EvP.eq
  unfold laws_eqRepairS.f
  simp only [if_true]
  refine for_evp (L := fun k (s : Unit) i => laws_eqRepairS.l0 k l l i) l.length (fun i s => True) ?_ ?_ () trivial
  · rintro i s hi - K
    refine EvP.step (fun k => laws_eqRepairS.l0.eq_2 _ _ _ k) ?_
    simp only [if_pos (show (i : Int) < (l.length : Int) by omega), if_pos (show (0 : Int) ≤ (i : Int) by omega), laws_eqRepair.f, Option.bind_some, if_true, w64 (show -9223372036854775808 ≤ (i : Int) + 1 by omega) (by omega)]
    exact K () trivial
  · rintro s -
    refine EvP.step (fun k => laws_eqRepairS.l0.eq_2 _ _ _ k) ?_
    simp only [if_neg (show ¬ (l.length : Int) < (l.length : Int) by omega)]
    exact EvP.now rfl
end Go.Proofs.Ytmfhncjkfhdlcaa.SM
end

section
namespace Go.Proofs.Ytmfhncjkfhdlcaa.SM
open Go.RowKit Go.Proofs.YtmfhncjkfhdlcaaW.PrintWords Go.Proofs.Ytmfhncjkfhdlcaa.XM Go.Proofs.Ytmfhncjkfhdlcaa.EvK
set_option linter.unusedVariables false
set_option linter.unusedSimpArgs false
theorem szTenant_val (x : S114) (left : Int) (h0 : 0 ≤ left) (h1 : left ≤ 1048576) (hq : Q114 x) : ∃ t, laws_szTenant.f x.f0 x.f1 x.f2 left = some t ∧ t ≤ left ∧ (0 ≤ t → (x.f0.size ≤ 1048576)) := by
  unfold Q114 maxLen at hq
  unfold laws_szTenant.f
  repeat' split
  all_goals refine ⟨_, rfl, ?_, ?_⟩
  all_goals (simp only [wrap64] at *; omega)
end Go.Proofs.Ytmfhncjkfhdlcaa.SM
end

section
namespace Go.Proofs.Ytmfhncjkfhdlcaa.SM
open Go.RowKit Go.Proofs.YtmfhncjkfhdlcaaW.PrintWords Go.Proofs.Ytmfhncjkfhdlcaa.XM Go.Proofs.Ytmfhncjkfhdlcaa.EvK
set_option linter.unusedVariables false
set_option linter.unusedSimpArgs false
theorem szTenantS_ev (l : List (S114)) (left : Int) (h0 : 0 ≤ left) (h1 : left ≤ 1048576) (hq : (l.length ≤ maxLen ∧ ∀ y1 ∈ l, Q114 y1)) : EvP (fun k => laws_szTenantS.f k l left) (fun t => t ≤ left ∧ (0 ≤ t → l.length ≤ 1048576 ∧ ∀ x ∈ l, (x.f0.size ≤ 1048576))) := by
  obtain ⟨hl, hq⟩ := hq
  unfold maxLen at hl
  unfold laws_szTenantS.f
  rw [w64 (by omega) (by omega)]
  by_cases hc : left - (l.length : Int) < 0
  · simp only [if_pos hc]
    exact EvP.now ⟨by omega, by omega⟩
  simp only [if_neg hc]
  refine for_evp (L := fun k (s : Int) i => laws_szTenantS.l0 k l s i) l.length (fun i s => 0 ≤ s ∧ s ≤ left - (l.length : Int) ∧ ∀ x ∈ l.take i, (x.f0.size ≤ 1048576)) ?_ ?_ _ ⟨by omega, by omega, by simp⟩
  · rintro i s hi ⟨hs0, hs1, hs⟩ K
    have e : rd_T114 l (i : Int) = l[i] := getD_at l z114 i hi
    refine EvP.step (fun k => laws_szTenantS.l0.eq_2 _ _ _ k) ?_
    obtain ⟨t, ht, ht1, ht2⟩ := szTenant_val l[i] s hs0 (by omega) (hq _ (List.getElem_mem hi))
    simp only [if_pos (show (i : Int) < (l.length : Int) by omega), if_pos (show (0 : Int) ≤ (i : Int) by omega), e, ht, Option.bind_some, w64 (show -9223372036854775808 ≤ (i : Int) + 1 by omega) (by omega)]
    by_cases hn : t < 0
    · simp only [if_pos hn]
      exact EvP.now ⟨by omega, by omega⟩
    · simp only [if_neg hn]
      exact K _ ⟨by omega, by omega, take_all hi hs (ht2 (by omega))⟩
  · rintro s ⟨hs0, hs1, hs⟩
    refine EvP.step (fun k => laws_szTenantS.l0.eq_2 _ _ _ k) ?_
    simp only [if_neg (show ¬ (l.length : Int) < (l.length : Int) by omega)]
    exact EvP.now ⟨by omega, fun _ => ⟨by omega, by simpa using hs⟩⟩
end Go.Proofs.Ytmfhncjkfhdlcaa.SM
end

section
namespace Go.Proofs.Ytmfhncjkfhdlcaa.SM
open Go.RowKit Go.Proofs.YtmfhncjkfhdlcaaW.PrintWords Go.Proofs.Ytmfhncjkfhdlcaa.XM Go.Proofs.Ytmfhncjkfhdlcaa.EvK
set_option linter.unusedVariables false
set_option linter.unusedSimpArgs false
def toTenantS_el (x : S114) : S79 := (⟨x.f0, x.f1, x.f2⟩ : S79)
theorem toTenantS_ev (l : List (S114)) (hl : l.length ≤ 1048576) : Ev (fun k => laws_toTenantS.f k l) (l.map toTenantS_el) := by
  apply EvP.eq
  unfold laws_toTenantS.f
  simp only [if_pos (show (0 : Int) ≤ (l.length : Int) by omega), Int.toNat_natCast, if_pos (show l.length ≤ 8796093022208 by omega)]
  refine for_evp (L := fun k (s : List (S79)) i => laws_toTenantS.l0 k l s i) l.length (fun i s => s = (l.take i).map toTenantS_el ++ List.replicate (l.length - i) z79) ?_ ?_ (List.replicate l.length z79) (by simp)
  · rintro i s hi rfl K
    have e : rd_T114 l (i : Int) = l[i] := getD_at l z114 i hi
    have hlen := done_len toTenantS_el l z79 i (by omega)
    refine EvP.step (fun k => laws_toTenantS.l0.eq_2 _ _ _ k) ?_
    simp only [if_pos (show (i : Int) < (l.length : Int) by omega), if_pos (show (0 : Int) ≤ (i : Int) by omega), e, laws_toTenant.f, Option.bind_some, hlen, w64 (show -9223372036854775808 ≤ (i : Int) + 1 by omega) (by omega), Int.toNat_natCast]
    refine K _ ?_
    show List.set _ i (toTenantS_el l[i]) = _
    exact map_done toTenantS_el l _ i hi
  · rintro s rfl
    refine EvP.step (fun k => laws_toTenantS.l0.eq_2 _ _ _ k) ?_
    simp only [if_neg (show ¬ (l.length : Int) < (l.length : Int) by omega)]
    exact EvP.now (by simp)
end Go.Proofs.Ytmfhncjkfhdlcaa.SM
end

section
namespace Go.Proofs.Ytmfhncjkfhdlcaa.SM
open Go.RowKit Go.Proofs.YtmfhncjkfhdlcaaW.PrintWords Go.Proofs.Ytmfhncjkfhdlcaa.XM Go.Proofs.Ytmfhncjkfhdlcaa.EvK
set_option linter.unusedVariables false
set_option linter.unusedSimpArgs false
theorem eqTenantS_ev (l : List (S79)) (hl : l.length ≤ 1048576) : Ev (fun k => laws_eqTenantS.f k l l) true := by
  apply EvP.eq
  unfold laws_eqTenantS.f
  simp only [if_true]
  refine for_evp (L := fun k (s : Unit) i => laws_eqTenantS.l0 k l l i) l.length (fun i s => True) ?_ ?_ () trivial
  · rintro i s hi - K
    refine EvP.step (fun k => laws_eqTenantS.l0.eq_2 _ _ _ k) ?_
    simp only [if_pos (show (i : Int) < (l.length : Int) by omega), if_pos (show (0 : Int) ≤ (i : Int) by omega), laws_eqTenant.f, Option.bind_some, if_true, w64 (show -9223372036854775808 ≤ (i : Int) + 1 by omega) (by omega)]
    exact K () trivial
  · rintro s -
    refine EvP.step (fun k => laws_eqTenantS.l0.eq_2 _ _ _ k) ?_
    simp only [if_neg (show ¬ (l.length : Int) < (l.length : Int) by omega)]
    exact EvP.now rfl
end Go.Proofs.Ytmfhncjkfhdlcaa.SM
end

section
namespace Go.Proofs.Ytmfhncjkfhdlcaa.SM
open Go.RowKit Go.Proofs.YtmfhncjkfhdlcaaW.PrintWords Go.Proofs.Ytmfhncjkfhdlcaa.XM Go.Proofs.Ytmfhncjkfhdlcaa.EvK
set_option linter.unusedVariables false
set_option linter.unusedSimpArgs false
theorem szDuty_val (x : S116) (left : Int) (h0 : 0 ≤ left) (h1 : left ≤ 1048576) (hq : Q116 x) : ∃ t, laws_szDuty.f x.f0 x.f1 x.f2 x.f3 left = some t ∧ t ≤ left ∧ (0 ≤ t → (x.f0.size ≤ 1048576)) := by
  unfold Q116 maxLen at hq
  unfold laws_szDuty.f
  repeat' split
  all_goals refine ⟨_, rfl, ?_, ?_⟩
  all_goals (simp only [wrap64] at *; omega)
end Go.Proofs.Ytmfhncjkfhdlcaa.SM
end

section
namespace Go.Proofs.Ytmfhncjkfhdlcaa.SM
open Go.RowKit Go.Proofs.YtmfhncjkfhdlcaaW.PrintWords Go.Proofs.Ytmfhncjkfhdlcaa.XM Go.Proofs.Ytmfhncjkfhdlcaa.EvK
set_option linter.unusedVariables false
set_option linter.unusedSimpArgs false
theorem szDutyS_ev (l : List (S116)) (left : Int) (h0 : 0 ≤ left) (h1 : left ≤ 1048576) (hq : (l.length ≤ maxLen ∧ ∀ y1 ∈ l, Q116 y1)) : EvP (fun k => laws_szDutyS.f k l left) (fun t => t ≤ left ∧ (0 ≤ t → l.length ≤ 1048576 ∧ ∀ x ∈ l, (x.f0.size ≤ 1048576))) := by
  obtain ⟨hl, hq⟩ := hq
  unfold maxLen at hl
  unfold laws_szDutyS.f
  rw [w64 (by omega) (by omega)]
  by_cases hc : left - (l.length : Int) < 0
  · simp only [if_pos hc]
    exact EvP.now ⟨by omega, by omega⟩
  simp only [if_neg hc]
  refine for_evp (L := fun k (s : Int) i => laws_szDutyS.l0 k l s i) l.length (fun i s => 0 ≤ s ∧ s ≤ left - (l.length : Int) ∧ ∀ x ∈ l.take i, (x.f0.size ≤ 1048576)) ?_ ?_ _ ⟨by omega, by omega, by simp⟩
  · rintro i s hi ⟨hs0, hs1, hs⟩ K
    have e : rd_T116 l (i : Int) = l[i] := getD_at l z116 i hi
    refine EvP.step (fun k => laws_szDutyS.l0.eq_2 _ _ _ k) ?_
    obtain ⟨t, ht, ht1, ht2⟩ := szDuty_val l[i] s hs0 (by omega) (hq _ (List.getElem_mem hi))
    simp only [if_pos (show (i : Int) < (l.length : Int) by omega), if_pos (show (0 : Int) ≤ (i : Int) by omega), e, ht, Option.bind_some, w64 (show -9223372036854775808 ≤ (i : Int) + 1 by omega) (by omega)]
    by_cases hn : t < 0
    · simp only [if_pos hn]
      exact EvP.now ⟨by omega, by omega⟩
    · simp only [if_neg hn]
      exact K _ ⟨by omega, by omega, take_all hi hs (ht2 (by omega))⟩
  · rintro s ⟨hs0, hs1, hs⟩
    refine EvP.step (fun k => laws_szDutyS.l0.eq_2 _ _ _ k) ?_
    simp only [if_neg (show ¬ (l.length : Int) < (l.length : Int) by omega)]
    exact EvP.now ⟨by omega, fun _ => ⟨by omega, by simpa using hs⟩⟩
end Go.Proofs.Ytmfhncjkfhdlcaa.SM
end

section
namespace Go.Proofs.Ytmfhncjkfhdlcaa.SM
open Go.RowKit Go.Proofs.YtmfhncjkfhdlcaaW.PrintWords Go.Proofs.Ytmfhncjkfhdlcaa.XM Go.Proofs.Ytmfhncjkfhdlcaa.EvK
set_option linter.unusedVariables false
set_option linter.unusedSimpArgs false
def toDutyS_el (x : S116) : S81 := (⟨x.f0, x.f1, x.f2, x.f3⟩ : S81)
theorem toDutyS_ev (l : List (S116)) (hl : l.length ≤ 1048576) : Ev (fun k => laws_toDutyS.f k l) (l.map toDutyS_el) := by
  apply EvP.eq
  unfold laws_toDutyS.f
  simp only [if_pos (show (0 : Int) ≤ (l.length : Int) by omega), Int.toNat_natCast, if_pos (show l.length ≤ 7036874417766 by omega)]
  refine for_evp (L := fun k (s : List (S81)) i => laws_toDutyS.l0 k l s i) l.length (fun i s => s = (l.take i).map toDutyS_el ++ List.replicate (l.length - i) z81) ?_ ?_ (List.replicate l.length z81) (by simp)
  · rintro i s hi rfl K
    have e : rd_T116 l (i : Int) = l[i] := getD_at l z116 i hi
    have hlen := done_len toDutyS_el l z81 i (by omega)
    refine EvP.step (fun k => laws_toDutyS.l0.eq_2 _ _ _ k) ?_
    simp only [if_pos (show (i : Int) < (l.length : Int) by omega), if_pos (show (0 : Int) ≤ (i : Int) by omega), e, laws_toDuty.f, Option.bind_some, hlen, w64 (show -9223372036854775808 ≤ (i : Int) + 1 by omega) (by omega), Int.toNat_natCast]
    refine K _ ?_
    show List.set _ i (toDutyS_el l[i]) = _
    exact map_done toDutyS_el l _ i hi
  · rintro s rfl
    refine EvP.step (fun k => laws_toDutyS.l0.eq_2 _ _ _ k) ?_
    simp only [if_neg (show ¬ (l.length : Int) < (l.length : Int) by omega)]
    exact EvP.now (by simp)
end Go.Proofs.Ytmfhncjkfhdlcaa.SM
end

section
namespace Go.Proofs.Ytmfhncjkfhdlcaa.SM
open Go.RowKit Go.Proofs.YtmfhncjkfhdlcaaW.PrintWords Go.Proofs.Ytmfhncjkfhdlcaa.XM Go.Proofs.Ytmfhncjkfhdlcaa.EvK
set_option linter.unusedVariables false
set_option linter.unusedSimpArgs false
theorem eqDutyS_ev (l : List (S81)) (hl : l.length ≤ 1048576) : Ev (fun k => laws_eqDutyS.f k l l) true := by
  apply EvP.eq
  unfold laws_eqDutyS.f
  simp only [if_true]
  refine for_evp (L := fun k (s : Unit) i => laws_eqDutyS.l0 k l l i) l.length (fun i s => True) ?_ ?_ () trivial
  · rintro i s hi - K
    refine EvP.step (fun k => laws_eqDutyS.l0.eq_2 _ _ _ k) ?_
    simp only [if_pos (show (i : Int) < (l.length : Int) by omega), if_pos (show (0 : Int) ≤ (i : Int) by omega), laws_eqDuty.f, Option.bind_some, bne_self_eq_false, Bool.false_eq_true, if_false, if_true, w64 (show -9223372036854775808 ≤ (i : Int) + 1 by omega) (by omega)]
    exact K () trivial
  · rintro s -
    refine EvP.step (fun k => laws_eqDutyS.l0.eq_2 _ _ _ k) ?_
    simp only [if_neg (show ¬ (l.length : Int) < (l.length : Int) by omega)]
    exact EvP.now rfl
end Go.Proofs.Ytmfhncjkfhdlcaa.SM
end
