/- The law FnExactCommandNames: part 2 of its texts, joined (wip/pack.py). -/
import Derived.Test.YteleifbjaecfhaaGreatDoorKFnExactCommandNamesa
import Derived.Test.YteleifbjaecfhaaGreatDoorKFnExactCommandNamesb
import Derived.Test.YteleifbjaecfhaaGreatDoorRows
import Derived.WalkKit
import Derived.ProofKit
import Derived.OpenShut
import Derived.ShutString
import Derived.ChangeOld
import Derived.Below
import Derived.SizedLaws
import Derived.HandedShaped
import Derived.Lib.LaidTab
import Derived.Lib.ItoaNum
import Derived.LaidMore
import Derived.Lay
import Derived.Stop.Joined

section
namespace Go.Proofs.YteleifbjaecfhaaGreatDoor.RowJ
open Go.ChangeShapes Go.WideShapes Go.ChangeAt Go.RowKit
open Go.ChangeMaps (open_string shut_string)
set_option linter.unusedVariables false
theorem and_mk {a b : Bool} (ha : a = true) (hb : b = true) : (a && b) = true := by rw [ha, hb]; rfl
set_option maxHeartbeats 4000000 in
set_option maxRecDepth 100000 in
theorem joined : joinedFacts Tryz.pinned.checked.prog 3 Tryz.f3 Rows.fnExactCommandNamesSpec Rows.fnExactCommandNamesRow = true := by
  unfold joinedFacts
  repeat' refine and_mk ?_ ?_
  all_goals as_aux_lemma => kernel_rfl
end Go.Proofs.YteleifbjaecfhaaGreatDoor.RowJ
end
