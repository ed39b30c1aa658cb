/-
  The law 'TopPasses' as a tied card: for every input the law returns true, and each argument reads afterwards as it read before. No condition.
-/
import Derived.Test.YtnbgljbhkeffkaaGreatDoorTopcard
import Derived.Test.YtnbgljbhkeffkaaGreatDoorQ36
namespace Go.Proofs.YtnbgljbhkeffkaaGreatDoor
theorem topPassesLaw.card : Rows.TopPassesCardSaid := card_of topPassesLaw.proved
end Go.Proofs.YtnbgljbhkeffkaaGreatDoor
