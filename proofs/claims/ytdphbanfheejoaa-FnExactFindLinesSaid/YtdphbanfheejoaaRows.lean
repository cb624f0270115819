/-
  No cell of these rows narrows 'for every input' (looked for: loops, veiled, ifaces, maps, wideKeys, modest, calm, conditions, laid).
  DERIVED. THE GIVEN ROWS OF THIS SEAT. 12 by the template 'for every input the law returns true; each argument reads behind the call as it read before'; 0 by the template 'total and deterministic' (their statements: YtdphbanfheejoaaTotals.lean).
  GIVEN WITH THE SEED: the statements are not yours to turn. If you find one false, say at which input.
  Laid BY PROGRAM, IN A SANDBOX (cutbox-rows.mjs): the forced cells as the released guide's own fill.sh prints them over the translation 6d46781ccd3242e1… (all of the seat's roots in one cut). By AI agents, Wed Nov 11 2026. No macro, syntax, notation, axiom, sorry.
-/
import Derived.Test.YtdphbanfheejoaaChecked
import GoSem.Claim
import GoSem.ClaimJoined
import GoSem.ClaimMapViews
import Derived.JoinedTies
import Derived.KernelRfl
namespace Go.Proofs.Ytdphbanfheejoaa
/- THE CELL 'sum', in the pinned program and in every row, IS THE sha256 OF THE DUMP (.gsa) THAT YtdphbanfheejoaaProg.lean LOADS. Nothing in Lean hashes anything: it is a label: what it is worth is what the hold of that sum in a sandbox is worth. -/
noncomputable def Try.pinned : Pinned := { name := "ytdphbanfheejoaa", sum := "6d46781ccd3242e1fed07231d3a02adaa6f5000881dea4c03515aa1094c356e4", checked := Try.checked }
namespace Rows
def none {H : Type} : Left H := { results := [], args := [] }

/-- 'laws.FnExactProblemName': WHATEVER THE INPUT: true; the input reads as it did. -/
def fnExactProblemNameSpec : ChangeSpec := { name := "fnExactProblemName", fn := fun _ => fun
  | [d] => { results := [.lit (.bool true)], args := [d] }
  | _ => none }
def fnExactProblemNameRow : OpenClaim := { program := "ytdphbanfheejoaa", sum := "6d46781ccd3242e1fed07231d3a02adaa6f5000881dea4c03515aa1094c356e4", func := "loop.example/g01011/laws.FnExactProblemName", spec := "fnExactProblemName", apart := false }
def FnExactProblemNameSaid : Prop := fnExactProblemNameRow.holds Try.pinned (OpenSpec.ofChange fnExactProblemNameSpec)

/-- ITS FALSE NEIGHBOUR: 'it returns false'. Refute it at one input. -/
def fnExactProblemNameWrong : ChangeSpec := { name := "fnExactProblemName", fn := fun _ => fun
  | [d] => { results := [.lit (.bool false)], args := [d] }
  | _ => none }
def FnExactProblemNameWrongFalsely : Prop := fnExactProblemNameRow.holds Try.pinned (OpenSpec.ofChange fnExactProblemNameWrong)

/-- 'laws.FnExactProblemText': WHATEVER THE INPUT: true; the input reads as it did. -/
def fnExactProblemTextSpec : ChangeSpec := { name := "fnExactProblemText", fn := fun _ => fun
  | [d] => { results := [.lit (.bool true)], args := [d] }
  | _ => none }
def fnExactProblemTextRow : OpenClaim := { program := "ytdphbanfheejoaa", sum := "6d46781ccd3242e1fed07231d3a02adaa6f5000881dea4c03515aa1094c356e4", func := "loop.example/g01011/laws.FnExactProblemText", spec := "fnExactProblemText", apart := false }
def FnExactProblemTextSaid : Prop := fnExactProblemTextRow.holds Try.pinned (OpenSpec.ofChange fnExactProblemTextSpec)

/-- ITS FALSE NEIGHBOUR: 'it returns false'. Refute it at one input. -/
def fnExactProblemTextWrong : ChangeSpec := { name := "fnExactProblemText", fn := fun _ => fun
  | [d] => { results := [.lit (.bool false)], args := [d] }
  | _ => none }
def FnExactProblemTextWrongFalsely : Prop := fnExactProblemTextRow.holds Try.pinned (OpenSpec.ofChange fnExactProblemTextWrong)

/-- 'laws.FnExactValidReport': WHATEVER THE INPUT: true; the input reads as it did. -/
def fnExactValidReportSpec : ChangeSpec := { name := "fnExactValidReport", fn := fun _ => fun
  | [d] => { results := [.lit (.bool true)], args := [d] }
  | _ => none }
def fnExactValidReportRow : OpenClaim := { program := "ytdphbanfheejoaa", sum := "6d46781ccd3242e1fed07231d3a02adaa6f5000881dea4c03515aa1094c356e4", func := "loop.example/g01011/laws.FnExactValidReport", spec := "fnExactValidReport", apart := false }
def FnExactValidReportSaid : Prop := fnExactValidReportRow.holds Try.pinned (OpenSpec.ofChange fnExactValidReportSpec)

/-- ITS FALSE NEIGHBOUR: 'it returns false'. Refute it at one input. -/
def fnExactValidReportWrong : ChangeSpec := { name := "fnExactValidReport", fn := fun _ => fun
  | [d] => { results := [.lit (.bool false)], args := [d] }
  | _ => none }
def FnExactValidReportWrongFalsely : Prop := fnExactValidReportRow.holds Try.pinned (OpenSpec.ofChange fnExactValidReportWrong)

/-- 'laws.FnExactSameBlocks': WHATEVER THE INPUT: true; the input reads as it did. -/
def fnExactSameBlocksSpec : ChangeSpec := { name := "fnExactSameBlocks", fn := fun _ => fun
  | [d1, d2] => { results := [.lit (.bool true)], args := [d1, d2] }
  | _ => none }
def fnExactSameBlocksRow : OpenClaim := { program := "ytdphbanfheejoaa", sum := "6d46781ccd3242e1fed07231d3a02adaa6f5000881dea4c03515aa1094c356e4", func := "loop.example/g01011/laws.FnExactSameBlocks", spec := "fnExactSameBlocks", apart := false }
def FnExactSameBlocksSaid : Prop := fnExactSameBlocksRow.holds Try.pinned (OpenSpec.ofChange fnExactSameBlocksSpec)

/-- ITS FALSE NEIGHBOUR: 'it returns false'. Refute it at one input. -/
def fnExactSameBlocksWrong : ChangeSpec := { name := "fnExactSameBlocks", fn := fun _ => fun
  | [d1, d2] => { results := [.lit (.bool false)], args := [d1, d2] }
  | _ => none }
def FnExactSameBlocksWrongFalsely : Prop := fnExactSameBlocksRow.holds Try.pinned (OpenSpec.ofChange fnExactSameBlocksWrong)

/-- 'laws.FnExactWaterIn': WHATEVER THE INPUT: true; the input reads as it did. -/
def fnExactWaterInSpec : ChangeSpec := { name := "fnExactWaterIn", fn := fun _ => fun
  | [d] => { results := [.lit (.bool true)], args := [d] }
  | _ => none }
def fnExactWaterInRow : OpenClaim := { program := "ytdphbanfheejoaa", sum := "6d46781ccd3242e1fed07231d3a02adaa6f5000881dea4c03515aa1094c356e4", func := "loop.example/g01011/laws.FnExactWaterIn", spec := "fnExactWaterIn", apart := false }
def FnExactWaterInSaid : Prop := fnExactWaterInRow.holds Try.pinned (OpenSpec.ofChange fnExactWaterInSpec)

/-- ITS FALSE NEIGHBOUR: 'it returns false'. Refute it at one input. -/
def fnExactWaterInWrong : ChangeSpec := { name := "fnExactWaterIn", fn := fun _ => fun
  | [d] => { results := [.lit (.bool false)], args := [d] }
  | _ => none }
def FnExactWaterInWrongFalsely : Prop := fnExactWaterInRow.holds Try.pinned (OpenSpec.ofChange fnExactWaterInWrong)

/-- 'laws.FnExactReportText': WHATEVER THE INPUT: true; the input reads as it did. -/
def fnExactReportTextSpec : ChangeSpec := { name := "fnExactReportText", fn := fun _ => fun
  | [d] => { results := [.lit (.bool true)], args := [d] }
  | _ => none }
def fnExactReportTextRow : OpenClaim := { program := "ytdphbanfheejoaa", sum := "6d46781ccd3242e1fed07231d3a02adaa6f5000881dea4c03515aa1094c356e4", func := "loop.example/g01011/laws.FnExactReportText", spec := "fnExactReportText", inPlace := ["internal/abi.NoEscape"], apart := false }
def FnExactReportTextSaid : Prop := fnExactReportTextRow.holds Try.pinned (OpenSpec.ofChange fnExactReportTextSpec)

/-- ITS FALSE NEIGHBOUR: 'it returns false'. Refute it at one input. -/
def fnExactReportTextWrong : ChangeSpec := { name := "fnExactReportText", fn := fun _ => fun
  | [d] => { results := [.lit (.bool false)], args := [d] }
  | _ => none }
def FnExactReportTextWrongFalsely : Prop := fnExactReportTextRow.holds Try.pinned (OpenSpec.ofChange fnExactReportTextWrong)

/-- 'laws.FnExactCountProblems': WHATEVER THE INPUT: true; the input reads as it did. -/
def fnExactCountProblemsSpec : ChangeSpec := { name := "fnExactCountProblems", fn := fun _ => fun
  | [d] => { results := [.lit (.bool true)], args := [d] }
  | _ => none }
def fnExactCountProblemsRow : OpenClaim := { program := "ytdphbanfheejoaa", sum := "6d46781ccd3242e1fed07231d3a02adaa6f5000881dea4c03515aa1094c356e4", func := "loop.example/g01011/laws.FnExactCountProblems", spec := "fnExactCountProblems", apart := false }
def FnExactCountProblemsSaid : Prop := fnExactCountProblemsRow.holds Try.pinned (OpenSpec.ofChange fnExactCountProblemsSpec)

/-- ITS FALSE NEIGHBOUR: 'it returns false'. Refute it at one input. -/
def fnExactCountProblemsWrong : ChangeSpec := { name := "fnExactCountProblems", fn := fun _ => fun
  | [d] => { results := [.lit (.bool false)], args := [d] }
  | _ => none }
def FnExactCountProblemsWrongFalsely : Prop := fnExactCountProblemsRow.holds Try.pinned (OpenSpec.ofChange fnExactCountProblemsWrong)

/-- 'laws.FnExactDelayOf': WHATEVER THE INPUT: true; the input reads as it did. -/
def fnExactDelayOfSpec : ChangeSpec := { name := "fnExactDelayOf", fn := fun _ => fun
  | [d1, d2] => { results := [.lit (.bool true)], args := [d1, d2] }
  | _ => none }
def fnExactDelayOfRow : OpenClaim := { program := "ytdphbanfheejoaa", sum := "6d46781ccd3242e1fed07231d3a02adaa6f5000881dea4c03515aa1094c356e4", func := "loop.example/g01011/laws.FnExactDelayOf", spec := "fnExactDelayOf", unfollowed := true, recurses := true, apart := false }
def FnExactDelayOfSaid : Prop := fnExactDelayOfRow.holds Try.pinned (OpenSpec.ofChange fnExactDelayOfSpec)

/-- ITS FALSE NEIGHBOUR: 'it returns false'. Refute it at one input. -/
def fnExactDelayOfWrong : ChangeSpec := { name := "fnExactDelayOf", fn := fun _ => fun
  | [d1, d2] => { results := [.lit (.bool false)], args := [d1, d2] }
  | _ => none }
def FnExactDelayOfWrongFalsely : Prop := fnExactDelayOfRow.holds Try.pinned (OpenSpec.ofChange fnExactDelayOfWrong)

/-- 'laws.FnExactValidBlock': WHATEVER THE INPUT: true; the input reads as it did. -/
def fnExactValidBlockSpec : ChangeSpec := { name := "fnExactValidBlock", fn := fun _ => fun
  | [d] => { results := [.lit (.bool true)], args := [d] }
  | _ => none }
def fnExactValidBlockRow : OpenClaim := { program := "ytdphbanfheejoaa", sum := "6d46781ccd3242e1fed07231d3a02adaa6f5000881dea4c03515aa1094c356e4", func := "loop.example/g01011/laws.FnExactValidBlock", spec := "fnExactValidBlock", inPlace := ["internal/bytealg.IndexByteString", "internal/bytealg.IndexString"], named := ["internal/bytealg.MaxLen"], apart := false }
def FnExactValidBlockSaid : Prop := fnExactValidBlockRow.holds Try.pinned (OpenSpec.ofChange fnExactValidBlockSpec)

/-- ITS FALSE NEIGHBOUR: 'it returns false'. Refute it at one input. -/
def fnExactValidBlockWrong : ChangeSpec := { name := "fnExactValidBlock", fn := fun _ => fun
  | [d] => { results := [.lit (.bool false)], args := [d] }
  | _ => none }
def FnExactValidBlockWrongFalsely : Prop := fnExactValidBlockRow.holds Try.pinned (OpenSpec.ofChange fnExactValidBlockWrong)

/-- 'laws.FnDelays': WHATEVER THE INPUT: true; the input reads as it did. -/
def fnDelaysSpec : ChangeSpec := { name := "fnDelays", fn := fun _ => fun
  | [d1, d2] => { results := [.lit (.bool true)], args := [d1, d2] }
  | _ => none }
def fnDelaysRow : OpenClaim := { program := "ytdphbanfheejoaa", sum := "6d46781ccd3242e1fed07231d3a02adaa6f5000881dea4c03515aa1094c356e4", func := "loop.example/g01011/laws.FnDelays", spec := "fnDelays", unfollowed := true, recurses := true, apart := false }
def FnDelaysSaid : Prop := fnDelaysRow.holds Try.pinned (OpenSpec.ofChange fnDelaysSpec)

/-- ITS FALSE NEIGHBOUR: 'it returns false'. Refute it at one input. -/
def fnDelaysWrong : ChangeSpec := { name := "fnDelays", fn := fun _ => fun
  | [d1, d2] => { results := [.lit (.bool false)], args := [d1, d2] }
  | _ => none }
def FnDelaysWrongFalsely : Prop := fnDelaysRow.holds Try.pinned (OpenSpec.ofChange fnDelaysWrong)

/-- 'laws.FnExactPagesOf': WHATEVER THE INPUT: true; the input reads as it did. -/
def fnExactPagesOfSpec : ChangeSpec := { name := "fnExactPagesOf", fn := fun _ => fun
  | [d1, d2, d3] => { results := [.lit (.bool true)], args := [d1, d2, d3] }
  | _ => none }
def fnExactPagesOfRow : OpenClaim := { program := "ytdphbanfheejoaa", sum := "6d46781ccd3242e1fed07231d3a02adaa6f5000881dea4c03515aa1094c356e4", func := "loop.example/g01011/laws.FnExactPagesOf", spec := "fnExactPagesOf", unfollowed := true, recurses := true, apart := false }
def FnExactPagesOfSaid : Prop := fnExactPagesOfRow.holds Try.pinned (OpenSpec.ofChange fnExactPagesOfSpec)

/-- ITS FALSE NEIGHBOUR: 'it returns false'. Refute it at one input. -/
def fnExactPagesOfWrong : ChangeSpec := { name := "fnExactPagesOf", fn := fun _ => fun
  | [d1, d2, d3] => { results := [.lit (.bool false)], args := [d1, d2, d3] }
  | _ => none }
def FnExactPagesOfWrongFalsely : Prop := fnExactPagesOfRow.holds Try.pinned (OpenSpec.ofChange fnExactPagesOfWrong)

/-- 'laws.FnExactFindLines': WHATEVER THE INPUT: true; the input reads as it did. -/
def fnExactFindLinesSpec : ChangeSpec := { name := "fnExactFindLines", fn := fun _ => fun
  | [d1, d2] => { results := [.lit (.bool true)], args := [d1, d2] }
  | _ => none }
def fnExactFindLinesRow : OpenClaim := { program := "ytdphbanfheejoaa", sum := "6d46781ccd3242e1fed07231d3a02adaa6f5000881dea4c03515aa1094c356e4", func := "loop.example/g01011/laws.FnExactFindLines", spec := "fnExactFindLines", inPlace := ["internal/bytealg.IndexByteString", "internal/bytealg.IndexString"], named := ["internal/bytealg.MaxLen"], apart := false }
def FnExactFindLinesSaid : Prop := fnExactFindLinesRow.holds Try.pinned (OpenSpec.ofChange fnExactFindLinesSpec)

/-- ITS FALSE NEIGHBOUR: 'it returns false'. Refute it at one input. -/
def fnExactFindLinesWrong : ChangeSpec := { name := "fnExactFindLines", fn := fun _ => fun
  | [d1, d2] => { results := [.lit (.bool false)], args := [d1, d2] }
  | _ => none }
def FnExactFindLinesWrongFalsely : Prop := fnExactFindLinesRow.holds Try.pinned (OpenSpec.ofChange fnExactFindLinesWrong)

/- THE SECOND FORM. 'bulk': how many values and letters a reading holds, each counted each time it is reached (what is shared counts as often as it is met; a slice's spare places count too). A statement '..UptoSaid' is the law's where the arguments, and the package variables that the reading takes, are together of bulk at most 1048576: NARROWER than '..Said'. Prove '..Said' where nothing that the law and all that it calls make is longer than what came in: it says more and counts as full. Else prove '..UptoSaid'. A law counts once. -/
mutual
def uptoBulk {H : Type} : DataW H → Nat
  | .lit (.string bytes) => bytes.length + 1
  | .lit _ => 1
  | .nil => 1
  | .ptr d => uptoBulk d + 1
  | .slice elems spare => uptoBulkAll elems + uptoBulkAll spare + 1
  | .agg parts => uptoBulkAll parts + 1
  | .iface _ d => uptoBulk d + 1
  | .map entries => uptoBulkEntries entries + 1
  | .held _ => 1
def uptoBulkAll {H : Type} : List (DataW H) → Nat
  | [] => 0
  | d :: r => uptoBulk d + uptoBulkAll r
def uptoBulkEntries {H : Type} : List (Lit × DataW H) → Nat
  | [] => 0
  | x :: r => uptoBulkEntry x + uptoBulkEntries r
def uptoBulkEntry {H : Type} : Lit × DataW H → Nat
  | (.string bytes, d) => bytes.length + uptoBulk d + 1
  | (_, d) => uptoBulk d + 1
 end
def uptoSmall : (H : Type) → List (DataW H) → Bool := fun _ ds => decide (uptoBulkAll ds ≤ 1048576)
def OpenSpec.upto (s : _root_.Go.ChangeSpec) : _root_.Go.OpenSpec := { _root_.Go.OpenSpec.ofChange s with cond := some uptoSmall }

/-- 'laws.FnExactProblemName', WHERE WHAT IT READS IS OF BULK AT MOST 1048576: true; the input reads as it did. -/
def fnExactProblemNameUptoRow : OpenClaim := { program := "ytdphbanfheejoaa", sum := "6d46781ccd3242e1fed07231d3a02adaa6f5000881dea4c03515aa1094c356e4", func := "loop.example/g01011/laws.FnExactProblemName", spec := "fnExactProblemName", apart := false, narrowed := true }
def FnExactProblemNameUptoSaid : Prop := fnExactProblemNameUptoRow.holds Try.pinned (OpenSpec.upto fnExactProblemNameSpec)

/-- 'laws.FnExactProblemText', WHERE WHAT IT READS IS OF BULK AT MOST 1048576: true; the input reads as it did. -/
def fnExactProblemTextUptoRow : OpenClaim := { program := "ytdphbanfheejoaa", sum := "6d46781ccd3242e1fed07231d3a02adaa6f5000881dea4c03515aa1094c356e4", func := "loop.example/g01011/laws.FnExactProblemText", spec := "fnExactProblemText", apart := false, narrowed := true }
def FnExactProblemTextUptoSaid : Prop := fnExactProblemTextUptoRow.holds Try.pinned (OpenSpec.upto fnExactProblemTextSpec)

/-- 'laws.FnExactValidReport', WHERE WHAT IT READS IS OF BULK AT MOST 1048576: true; the input reads as it did. -/
def fnExactValidReportUptoRow : OpenClaim := { program := "ytdphbanfheejoaa", sum := "6d46781ccd3242e1fed07231d3a02adaa6f5000881dea4c03515aa1094c356e4", func := "loop.example/g01011/laws.FnExactValidReport", spec := "fnExactValidReport", apart := false, narrowed := true }
def FnExactValidReportUptoSaid : Prop := fnExactValidReportUptoRow.holds Try.pinned (OpenSpec.upto fnExactValidReportSpec)

/-- 'laws.FnExactSameBlocks', WHERE WHAT IT READS IS OF BULK AT MOST 1048576: true; the input reads as it did. -/
def fnExactSameBlocksUptoRow : OpenClaim := { program := "ytdphbanfheejoaa", sum := "6d46781ccd3242e1fed07231d3a02adaa6f5000881dea4c03515aa1094c356e4", func := "loop.example/g01011/laws.FnExactSameBlocks", spec := "fnExactSameBlocks", apart := false, narrowed := true }
def FnExactSameBlocksUptoSaid : Prop := fnExactSameBlocksUptoRow.holds Try.pinned (OpenSpec.upto fnExactSameBlocksSpec)

/-- 'laws.FnExactWaterIn', WHERE WHAT IT READS IS OF BULK AT MOST 1048576: true; the input reads as it did. -/
def fnExactWaterInUptoRow : OpenClaim := { program := "ytdphbanfheejoaa", sum := "6d46781ccd3242e1fed07231d3a02adaa6f5000881dea4c03515aa1094c356e4", func := "loop.example/g01011/laws.FnExactWaterIn", spec := "fnExactWaterIn", apart := false, narrowed := true }
def FnExactWaterInUptoSaid : Prop := fnExactWaterInUptoRow.holds Try.pinned (OpenSpec.upto fnExactWaterInSpec)

/-- 'laws.FnExactReportText', WHERE WHAT IT READS IS OF BULK AT MOST 1048576: true; the input reads as it did. -/
def fnExactReportTextUptoRow : OpenClaim := { program := "ytdphbanfheejoaa", sum := "6d46781ccd3242e1fed07231d3a02adaa6f5000881dea4c03515aa1094c356e4", func := "loop.example/g01011/laws.FnExactReportText", spec := "fnExactReportText", inPlace := ["internal/abi.NoEscape"], apart := false, narrowed := true }
def FnExactReportTextUptoSaid : Prop := fnExactReportTextUptoRow.holds Try.pinned (OpenSpec.upto fnExactReportTextSpec)

/-- 'laws.FnExactCountProblems', WHERE WHAT IT READS IS OF BULK AT MOST 1048576: true; the input reads as it did. -/
def fnExactCountProblemsUptoRow : OpenClaim := { program := "ytdphbanfheejoaa", sum := "6d46781ccd3242e1fed07231d3a02adaa6f5000881dea4c03515aa1094c356e4", func := "loop.example/g01011/laws.FnExactCountProblems", spec := "fnExactCountProblems", apart := false, narrowed := true }
def FnExactCountProblemsUptoSaid : Prop := fnExactCountProblemsUptoRow.holds Try.pinned (OpenSpec.upto fnExactCountProblemsSpec)

/-- 'laws.FnExactDelayOf', WHERE WHAT IT READS IS OF BULK AT MOST 1048576: true; the input reads as it did. -/
def fnExactDelayOfUptoRow : OpenClaim := { program := "ytdphbanfheejoaa", sum := "6d46781ccd3242e1fed07231d3a02adaa6f5000881dea4c03515aa1094c356e4", func := "loop.example/g01011/laws.FnExactDelayOf", spec := "fnExactDelayOf", unfollowed := true, recurses := true, apart := false, narrowed := true }
def FnExactDelayOfUptoSaid : Prop := fnExactDelayOfUptoRow.holds Try.pinned (OpenSpec.upto fnExactDelayOfSpec)

/-- 'laws.FnExactValidBlock', WHERE WHAT IT READS IS OF BULK AT MOST 1048576: true; the input reads as it did. -/
def fnExactValidBlockUptoRow : OpenClaim := { program := "ytdphbanfheejoaa", sum := "6d46781ccd3242e1fed07231d3a02adaa6f5000881dea4c03515aa1094c356e4", func := "loop.example/g01011/laws.FnExactValidBlock", spec := "fnExactValidBlock", inPlace := ["internal/bytealg.IndexByteString", "internal/bytealg.IndexString"], named := ["internal/bytealg.MaxLen"], apart := false, narrowed := true }
def FnExactValidBlockUptoSaid : Prop := fnExactValidBlockUptoRow.holds Try.pinned (OpenSpec.upto fnExactValidBlockSpec)

/-- 'laws.FnDelays', WHERE WHAT IT READS IS OF BULK AT MOST 1048576: true; the input reads as it did. -/
def fnDelaysUptoRow : OpenClaim := { program := "ytdphbanfheejoaa", sum := "6d46781ccd3242e1fed07231d3a02adaa6f5000881dea4c03515aa1094c356e4", func := "loop.example/g01011/laws.FnDelays", spec := "fnDelays", unfollowed := true, recurses := true, apart := false, narrowed := true }
def FnDelaysUptoSaid : Prop := fnDelaysUptoRow.holds Try.pinned (OpenSpec.upto fnDelaysSpec)

/-- 'laws.FnExactPagesOf', WHERE WHAT IT READS IS OF BULK AT MOST 1048576: true; the input reads as it did. -/
def fnExactPagesOfUptoRow : OpenClaim := { program := "ytdphbanfheejoaa", sum := "6d46781ccd3242e1fed07231d3a02adaa6f5000881dea4c03515aa1094c356e4", func := "loop.example/g01011/laws.FnExactPagesOf", spec := "fnExactPagesOf", unfollowed := true, recurses := true, apart := false, narrowed := true }
def FnExactPagesOfUptoSaid : Prop := fnExactPagesOfUptoRow.holds Try.pinned (OpenSpec.upto fnExactPagesOfSpec)

/-- 'laws.FnExactFindLines', WHERE WHAT IT READS IS OF BULK AT MOST 1048576: true; the input reads as it did. -/
def fnExactFindLinesUptoRow : OpenClaim := { program := "ytdphbanfheejoaa", sum := "6d46781ccd3242e1fed07231d3a02adaa6f5000881dea4c03515aa1094c356e4", func := "loop.example/g01011/laws.FnExactFindLines", spec := "fnExactFindLines", inPlace := ["internal/bytealg.IndexByteString", "internal/bytealg.IndexString"], named := ["internal/bytealg.MaxLen"], apart := false, narrowed := true }
def FnExactFindLinesUptoSaid : Prop := fnExactFindLinesUptoRow.holds Try.pinned (OpenSpec.upto fnExactFindLinesSpec)

end Rows
end Go.Proofs.Ytdphbanfheejoaa
