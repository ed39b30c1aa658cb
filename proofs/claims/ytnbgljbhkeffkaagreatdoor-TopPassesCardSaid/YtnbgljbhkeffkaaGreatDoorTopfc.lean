/-
  Closed facts of the row, a theorem each.
-/
import Derived.Test.YtnbgljbhkeffkaaGreatDoorRows
import Derived.JoinedOf
import Derived.KernelRfl
set_option linter.unusedSimpArgs false
set_option linter.unusedVariables false
namespace Go.Proofs.YtnbgljbhkeffkaaGreatDoor.topFacts
open Go
theorem k12 : ((Rows.topPassesRow.recurses == Tryz.prog.recurses 3)) = true := by kernel_rfl
end Go.Proofs.YtnbgljbhkeffkaaGreatDoor.topFacts
