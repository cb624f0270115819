/-
  No cell of these rows narrows 'for every input' (looked for: loops, veiled, ifaces, maps, wideKeys, modest, calm, conditions, laid).
  DERIVED. THE GIVEN ROWS OF THIS SEAT. 5 by the template 'for every input the law returns true; each argument reads behind the call as it read before'; 0 by the template 'total and deterministic' (their statements: YtgolnakbcmjodaaTotals.lean).
  GIVEN WITH THE SEED: the statements are not yours to turn. If you find one false, say at which input.
  Laid BY PROGRAM, IN A SANDBOX (cutbox-rows.mjs): the forced cells as the released guide's own fill.sh prints them over the translation 6c16c974de8167a5… (all of the seat's roots in one cut). By AI agents, Wed Nov 11 2026. No macro, syntax, notation, axiom, sorry.
-/
import Derived.Test.YtgolnakbcmjodaaChecked
import GoSem.Claim
import GoSem.ClaimJoined
import GoSem.ClaimMapViews
import Derived.JoinedTies
import Derived.KernelRfl
namespace Go.Proofs.Ytgolnakbcmjodaa
/- THE CELL 'sum', in the pinned program and in every row, IS THE sha256 OF THE DUMP (.gsa) THAT YtgolnakbcmjodaaProg.lean LOADS. Nothing in Lean hashes anything: it is a label: what it is worth is what the hold of that sum in a sandbox is worth. -/
noncomputable def Try.pinned : Pinned := { name := "ytgolnakbcmjodaa", sum := "6c16c974de8167a5bad5c88a6f7fb92fb9646785ac3fccf250de7836f2e67c83", checked := Try.checked }
namespace Rows
def none {H : Type} : Left H := { results := [], args := [] }

/-- 'laws.FnExactBarLines': WHATEVER THE INPUT: true; the input reads as it did. -/
def fnExactBarLinesSpec : ChangeSpec := { name := "fnExactBarLines", fn := fun _ => fun
  | [d1, d2] => { results := [.lit (.bool true)], args := [d1, d2] }
  | _ => none }
def fnExactBarLinesRow : OpenClaim := { program := "ytgolnakbcmjodaa", sum := "6c16c974de8167a5bad5c88a6f7fb92fb9646785ac3fccf250de7836f2e67c83", func := "loop.example/g01011/laws.FnExactBarLines", spec := "fnExactBarLines", inPlace := ["internal/abi.NoEscape", "internal/bytealg.MakeNoZero"], unfollowed := true, recurses := true, apart := false }
def FnExactBarLinesSaid : Prop := fnExactBarLinesRow.holds Try.pinned (OpenSpec.ofChange fnExactBarLinesSpec)

/-- ITS FALSE NEIGHBOUR: 'it returns false'. Refute it at one input. -/
def fnExactBarLinesWrong : ChangeSpec := { name := "fnExactBarLines", fn := fun _ => fun
  | [d1, d2] => { results := [.lit (.bool false)], args := [d1, d2] }
  | _ => none }
def FnExactBarLinesWrongFalsely : Prop := fnExactBarLinesRow.holds Try.pinned (OpenSpec.ofChange fnExactBarLinesWrong)

/-- 'laws.FnExactSortLines': WHATEVER THE INPUT: true; the input reads as it did. -/
def fnExactSortLinesSpec : ChangeSpec := { name := "fnExactSortLines", fn := fun _ => fun
  | [d] => { results := [.lit (.bool true)], args := [d] }
  | _ => none }
def fnExactSortLinesRow : OpenClaim := { program := "ytgolnakbcmjodaa", sum := "6c16c974de8167a5bad5c88a6f7fb92fb9646785ac3fccf250de7836f2e67c83", func := "loop.example/g01011/laws.FnExactSortLines", spec := "fnExactSortLines", unfollowed := true, recurses := true, apart := false }
def FnExactSortLinesSaid : Prop := fnExactSortLinesRow.holds Try.pinned (OpenSpec.ofChange fnExactSortLinesSpec)

/-- ITS FALSE NEIGHBOUR: 'it returns false'. Refute it at one input. -/
def fnExactSortLinesWrong : ChangeSpec := { name := "fnExactSortLines", fn := fun _ => fun
  | [d] => { results := [.lit (.bool false)], args := [d] }
  | _ => none }
def FnExactSortLinesWrongFalsely : Prop := fnExactSortLinesRow.holds Try.pinned (OpenSpec.ofChange fnExactSortLinesWrong)

/-- 'laws.FnExactCountLines': WHATEVER THE INPUT: true; the input reads as it did. -/
def fnExactCountLinesSpec : ChangeSpec := { name := "fnExactCountLines", fn := fun _ => fun
  | [d] => { results := [.lit (.bool true)], args := [d] }
  | _ => none }
def fnExactCountLinesRow : OpenClaim := { program := "ytgolnakbcmjodaa", sum := "6c16c974de8167a5bad5c88a6f7fb92fb9646785ac3fccf250de7836f2e67c83", func := "loop.example/g01011/laws.FnExactCountLines", spec := "fnExactCountLines", unfollowed := true, recurses := true, apart := false }
def FnExactCountLinesSaid : Prop := fnExactCountLinesRow.holds Try.pinned (OpenSpec.ofChange fnExactCountLinesSpec)

/-- ITS FALSE NEIGHBOUR: 'it returns false'. Refute it at one input. -/
def fnExactCountLinesWrong : ChangeSpec := { name := "fnExactCountLines", fn := fun _ => fun
  | [d] => { results := [.lit (.bool false)], args := [d] }
  | _ => none }
def FnExactCountLinesWrongFalsely : Prop := fnExactCountLinesRow.holds Try.pinned (OpenSpec.ofChange fnExactCountLinesWrong)

/-- 'laws.FnPages': WHATEVER THE INPUT: true; the input reads as it did. -/
def fnPagesSpec : ChangeSpec := { name := "fnPages", fn := fun _ => fun
  | [d1, d2] => { results := [.lit (.bool true)], args := [d1, d2] }
  | _ => none }
def fnPagesRow : OpenClaim := { program := "ytgolnakbcmjodaa", sum := "6c16c974de8167a5bad5c88a6f7fb92fb9646785ac3fccf250de7836f2e67c83", func := "loop.example/g01011/laws.FnPages", spec := "fnPages", inPlace := ["internal/bytealg.IndexByteString", "internal/bytealg.IndexString", "internal/abi.NoEscape", "internal/bytealg.MakeNoZero"], unfollowed := true, recurses := true, named := ["internal/bytealg.MaxLen"], apart := false }
def FnPagesSaid : Prop := fnPagesRow.holds Try.pinned (OpenSpec.ofChange fnPagesSpec)

/-- ITS FALSE NEIGHBOUR: 'it returns false'. Refute it at one input. -/
def fnPagesWrong : ChangeSpec := { name := "fnPages", fn := fun _ => fun
  | [d1, d2] => { results := [.lit (.bool false)], args := [d1, d2] }
  | _ => none }
def FnPagesWrongFalsely : Prop := fnPagesRow.holds Try.pinned (OpenSpec.ofChange fnPagesWrong)

/-- 'laws.FnExactPagesOf': WHATEVER THE INPUT: true; the input reads as it did. -/
def fnExactPagesOfSpec : ChangeSpec := { name := "fnExactPagesOf", fn := fun _ => fun
  | [d1, d2, d3] => { results := [.lit (.bool true)], args := [d1, d2, d3] }
  | _ => none }
def fnExactPagesOfRow : OpenClaim := { program := "ytgolnakbcmjodaa", sum := "6c16c974de8167a5bad5c88a6f7fb92fb9646785ac3fccf250de7836f2e67c83", func := "loop.example/g01011/laws.FnExactPagesOf", spec := "fnExactPagesOf", unfollowed := true, recurses := true, apart := false }
def FnExactPagesOfSaid : Prop := fnExactPagesOfRow.holds Try.pinned (OpenSpec.ofChange fnExactPagesOfSpec)

/-- ITS FALSE NEIGHBOUR: 'it returns false'. Refute it at one input. -/
def fnExactPagesOfWrong : ChangeSpec := { name := "fnExactPagesOf", fn := fun _ => fun
  | [d1, d2, d3] => { results := [.lit (.bool false)], args := [d1, d2, d3] }
  | _ => none }
def FnExactPagesOfWrongFalsely : Prop := fnExactPagesOfRow.holds Try.pinned (OpenSpec.ofChange fnExactPagesOfWrong)

/- THE SECOND FORM. 'bulk': how many values and letters a reading holds, each counted each time it is reached (what is shared counts as often as it is met; a slice's spare places count too). A statement '..UptoSaid' is the law's where the arguments, and the package variables that the reading takes, are together of bulk at most 1048576: NARROWER than '..Said'. Prove '..Said' where nothing that the law and all that it calls make is longer than what came in: it says more and counts as full. Else prove '..UptoSaid'. A law counts once. -/
mutual
def uptoBulk {H : Type} : DataW H → Nat
  | .lit (.string bytes) => bytes.length + 1
  | .lit _ => 1
  | .nil => 1
  | .ptr d => uptoBulk d + 1
  | .slice elems spare => uptoBulkAll elems + uptoBulkAll spare + 1
  | .agg parts => uptoBulkAll parts + 1
  | .iface _ d => uptoBulk d + 1
  | .map entries => uptoBulkEntries entries + 1
  | .held _ => 1
def uptoBulkAll {H : Type} : List (DataW H) → Nat
  | [] => 0
  | d :: r => uptoBulk d + uptoBulkAll r
def uptoBulkEntries {H : Type} : List (Lit × DataW H) → Nat
  | [] => 0
  | x :: r => uptoBulkEntry x + uptoBulkEntries r
def uptoBulkEntry {H : Type} : Lit × DataW H → Nat
  | (.string bytes, d) => bytes.length + uptoBulk d + 1
  | (_, d) => uptoBulk d + 1
 end
def uptoSmall : (H : Type) → List (DataW H) → Bool := fun _ ds => decide (uptoBulkAll ds ≤ 1048576)
def OpenSpec.upto (s : _root_.Go.ChangeSpec) : _root_.Go.OpenSpec := { _root_.Go.OpenSpec.ofChange s with cond := some uptoSmall }

/-- 'laws.FnExactBarLines', WHERE WHAT IT READS IS OF BULK AT MOST 1048576: true; the input reads as it did. -/
def fnExactBarLinesUptoRow : OpenClaim := { program := "ytgolnakbcmjodaa", sum := "6c16c974de8167a5bad5c88a6f7fb92fb9646785ac3fccf250de7836f2e67c83", func := "loop.example/g01011/laws.FnExactBarLines", spec := "fnExactBarLines", inPlace := ["internal/abi.NoEscape", "internal/bytealg.MakeNoZero"], unfollowed := true, recurses := true, apart := false, narrowed := true }
def FnExactBarLinesUptoSaid : Prop := fnExactBarLinesUptoRow.holds Try.pinned (OpenSpec.upto fnExactBarLinesSpec)

/-- 'laws.FnExactSortLines', WHERE WHAT IT READS IS OF BULK AT MOST 1048576: true; the input reads as it did. -/
def fnExactSortLinesUptoRow : OpenClaim := { program := "ytgolnakbcmjodaa", sum := "6c16c974de8167a5bad5c88a6f7fb92fb9646785ac3fccf250de7836f2e67c83", func := "loop.example/g01011/laws.FnExactSortLines", spec := "fnExactSortLines", unfollowed := true, recurses := true, apart := false, narrowed := true }
def FnExactSortLinesUptoSaid : Prop := fnExactSortLinesUptoRow.holds Try.pinned (OpenSpec.upto fnExactSortLinesSpec)

/-- 'laws.FnExactCountLines', WHERE WHAT IT READS IS OF BULK AT MOST 1048576: true; the input reads as it did. -/
def fnExactCountLinesUptoRow : OpenClaim := { program := "ytgolnakbcmjodaa", sum := "6c16c974de8167a5bad5c88a6f7fb92fb9646785ac3fccf250de7836f2e67c83", func := "loop.example/g01011/laws.FnExactCountLines", spec := "fnExactCountLines", unfollowed := true, recurses := true, apart := false, narrowed := true }
def FnExactCountLinesUptoSaid : Prop := fnExactCountLinesUptoRow.holds Try.pinned (OpenSpec.upto fnExactCountLinesSpec)

/-- 'laws.FnPages', WHERE WHAT IT READS IS OF BULK AT MOST 1048576: true; the input reads as it did. -/
def fnPagesUptoRow : OpenClaim := { program := "ytgolnakbcmjodaa", sum := "6c16c974de8167a5bad5c88a6f7fb92fb9646785ac3fccf250de7836f2e67c83", func := "loop.example/g01011/laws.FnPages", spec := "fnPages", inPlace := ["internal/bytealg.IndexByteString", "internal/bytealg.IndexString", "internal/abi.NoEscape", "internal/bytealg.MakeNoZero"], unfollowed := true, recurses := true, named := ["internal/bytealg.MaxLen"], apart := false, narrowed := true }
def FnPagesUptoSaid : Prop := fnPagesUptoRow.holds Try.pinned (OpenSpec.upto fnPagesSpec)

/-- 'laws.FnExactPagesOf', WHERE WHAT IT READS IS OF BULK AT MOST 1048576: true; the input reads as it did. -/
def fnExactPagesOfUptoRow : OpenClaim := { program := "ytgolnakbcmjodaa", sum := "6c16c974de8167a5bad5c88a6f7fb92fb9646785ac3fccf250de7836f2e67c83", func := "loop.example/g01011/laws.FnExactPagesOf", spec := "fnExactPagesOf", unfollowed := true, recurses := true, apart := false, narrowed := true }
def FnExactPagesOfUptoSaid : Prop := fnExactPagesOfUptoRow.holds Try.pinned (OpenSpec.upto fnExactPagesOfSpec)

end Rows
end Go.Proofs.Ytgolnakbcmjodaa
