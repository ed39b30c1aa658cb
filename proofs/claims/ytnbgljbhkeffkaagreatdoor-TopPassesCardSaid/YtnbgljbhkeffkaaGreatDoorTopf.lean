/-
  The closed facts of the row, together.
-/
import Derived.Test.YtnbgljbhkeffkaaGreatDoorRows
import Derived.JoinedOf
import Derived.KernelRfl
import Derived.Test.YtnbgljbhkeffkaaGreatDoorTopfa
import Derived.Test.YtnbgljbhkeffkaaGreatDoorTopfb
import Derived.Test.YtnbgljbhkeffkaaGreatDoorTopfc
import Derived.Test.YtnbgljbhkeffkaaGreatDoorTopfd
import Derived.Test.YtnbgljbhkeffkaaGreatDoorTopfe
set_option linter.unusedSimpArgs false
set_option linter.unusedVariables false
namespace Go.Proofs.YtnbgljbhkeffkaaGreatDoor.topFacts
open Go
theorem andT {a b : Bool} (h : a = true) (k : b = true) : (a && b) = true := by rw [h, k]; rfl
set_option maxRecDepth 100000 in
theorem closed : joinedFacts Tryz.prog 3 Tryz.f3 Rows.topPassesSpec Rows.topPassesRow = true := by
  unfold joinedFacts
  exact (andT (andT (andT (andT (andT (andT (andT (andT (andT (andT (andT (andT (andT (andT (andT (andT (andT (andT (andT (andT (andT (andT (andT (andT (andT (andT (andT (andT (andT (andT (andT k1 k2) k3) k4) k5) k6) k7) k8) k9) k10) k11) k12) k13) k14) k15) k16) k17) k17b) k18) k19) k20) k21) k22) k23) k23b) k24) k24b) k24c) (by kernel_rfl)) k26) k27) k28)
end Go.Proofs.YtnbgljbhkeffkaaGreatDoor.topFacts
