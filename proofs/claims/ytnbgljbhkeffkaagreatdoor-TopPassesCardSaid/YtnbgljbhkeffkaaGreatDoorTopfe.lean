/-
  Closed facts of the row, a theorem each.
-/
import Derived.Test.YtnbgljbhkeffkaaGreatDoorRows
import Derived.JoinedOf
import Derived.KernelRfl
set_option linter.unusedSimpArgs false
set_option linter.unusedVariables false
namespace Go.Proofs.YtnbgljbhkeffkaaGreatDoor.topFacts
open Go
theorem k1 : (Rows.topPassesRow.wf (OpenSpec.ofChange Rows.topPassesSpec)) = true := by kernel_rfl
theorem k2 : (laidOutB Tryz.prog) = true := by kernel_rfl
theorem k3 : (mapsRowed Tryz.prog) = true := by kernel_rfl
theorem k4 : (Tryz.f3.params.all (Tryz.prog.readableRec ·)) = true := by kernel_rfl
theorem k5 : (namedTie Tryz.prog Rows.topPassesRow.named Rows.topPassesSpec.vars) = true := by kernel_rfl
theorem k6 : ((Rows.topPassesRow.stops == [])) = true := by kernel_rfl
theorem k7 : ((Tryz.prog.stops == [])) = true := by kernel_rfl
theorem k8 : ((Rows.topPassesRow.knobs == [])) = true := by kernel_rfl
theorem k9 : ((Tryz.prog.stopKnobs == [])) = true := by kernel_rfl
theorem k14 : ((Rows.topPassesRow.maps == (Tryz.f3.params.toList ++ Rows.topPassesSpec.plain.varTypes Tryz.prog).any (Tryz.prog.mapsRec ·))) = true := by kernel_rfl
theorem k15 : ((Rows.topPassesRow.ifaces == (Tryz.f3.params.toList ++ Rows.topPassesSpec.plain.varTypes Tryz.prog).any (Tryz.prog.ifacesRec ·))) = true := by kernel_rfl
theorem k16 : ((Rows.topPassesRow.mapsOut == Tryz.prog.mapsAmong Tryz.f3.resultTypes.toList)) = true := by kernel_rfl
theorem k17 : ((Rows.topPassesRow.loops == (Tryz.f3.params.toList ++ Rows.topPassesSpec.plain.varTypes Tryz.prog).any (Tryz.prog.loopsFrom ·))) = true := by kernel_rfl
theorem k17b : ((Rows.topPassesRow.wideKeys == (Tryz.f3.params.toList ++ Rows.topPassesSpec.plain.varTypes Tryz.prog ++ Tryz.f3.resultTypes.toList).any (Tryz.prog.wideKeysFrom ·))) = true := by kernel_rfl
theorem k18 : (Rows.topPassesSpec.vars.all (Tryz.prog.varReadable ·)) = true := by kernel_rfl
theorem k19 : (Tryz.f3.resultTypes.all (fun t => Tryz.prog.readableRec t && decide (t < Tryz.prog.types.size))) = true := by kernel_rfl
theorem k20 : ((Rows.topPassesRow.ifacesOut == Tryz.f3.resultTypes.toList.any (Tryz.prog.ifacesRec ·))) = true := by kernel_rfl
theorem k21 : ((Rows.topPassesRow.loopsOut == Tryz.f3.resultTypes.toList.any (Tryz.prog.loopsFrom ·))) = true := by kernel_rfl
theorem k22 : ((Rows.topPassesRow.plainKeys == Tryz.prog.plainKeys)) = true := by kernel_rfl
theorem k23 : (Rows.topPassesRow.shortTexts.isNone) = true := by kernel_rfl
theorem k23b : (Tryz.prog.stopsHeard) = true := by kernel_rfl
theorem k24 : (Tryz.prog.mayEnter) = true := by kernel_rfl
theorem k24b : ((Rows.topPassesRow.lifted == Tryz.prog.liftsFinal)) = true := by kernel_rfl
theorem k24c : ((Tryz.prog.make == some Rows.topPassesRow.make)) = true := by kernel_rfl
theorem k25 : ((Rows.topPassesRow.kinds == (if Rows.topPassesRow.domain.isEmpty then [] else Tryz.f3.params.toList.map fun t => match Tryz.prog.underlying t with | some (.int k) => some k | _ => none))) = true := by kernel_rfl
theorem k26 : ((Rows.topPassesRow.pinned == Rows.topPassesRow.pinnedBy)) = true := by kernel_rfl
theorem k27 : ((Rows.topPassesRow.veiled == (Tryz.f3.params.toList ++ Rows.topPassesSpec.plain.varTypes Tryz.prog ++ Tryz.f3.resultTypes.toList).any (Tryz.prog.veiledRec ·))) = true := by kernel_rfl
theorem k28 : (Rows.topPassesRow.veiledFits Tryz.prog Tryz.f3.params.toList (Tryz.f3.params.toList ++ Rows.topPassesSpec.plain.varTypes Tryz.prog ++ Tryz.f3.resultTypes.toList)) = true := by kernel_rfl
end Go.Proofs.YtnbgljbhkeffkaaGreatDoor.topFacts
