/- Texts of the proof: an interpreter over trees, proved to follow the model. No conditions of its own. -/
import Derived.Test.YtgenoggafhhgfaaGreatDoorP9
set_option linter.unusedVariables false
set_option linter.unusedSimpArgs false
namespace Go.Proofs.YtgenoggafhhgfaaGreatDoor
open Go
namespace declParts
set_option maxRecDepth 100000
theorem k1 : (Rows.declPartsRow.inPlace == Tryz.pinned.checked.prog.inPlace 11) = true := by kernel_rfl
theorem k2 : (Rows.declPartsRow.unfollowed == Tryz.pinned.checked.prog.unfollowed 11) = true := by kernel_rfl
theorem k3 : (Rows.declPartsRow.recurses == Tryz.pinned.checked.prog.recurses 11) = true := by kernel_rfl
theorem k4 : (Rows.declPartsRow.named == Tryz.pinned.checked.prog.varsNamed 11) = true := by kernel_rfl
theorem facts : joinedFacts Tryz.pinned.checked.prog 11 Tryz.f11 Rows.declPartsSpec Rows.declPartsRow = true := by
  unfold joinedFacts
  rw [k1, k2, k3, k4]
  kernel_rfl
end declParts
end Go.Proofs.YtgenoggafhhgfaaGreatDoor
