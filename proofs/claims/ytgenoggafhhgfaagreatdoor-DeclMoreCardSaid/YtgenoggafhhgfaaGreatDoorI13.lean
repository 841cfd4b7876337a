/- Texts of the proof: an interpreter over trees, proved to follow the model. No conditions of its own. -/
import Derived.Test.YtgenoggafhhgfaaGreatDoorI8
set_option linter.unusedVariables false
set_option linter.unusedSimpArgs false
namespace Go.Proofs.YtgenoggafhhgfaaGreatDoor
open Go
namespace declMore
set_option maxRecDepth 100000
theorem k1: (Rows.declMoreRow.inPlace==Tryz.pinned.checked.prog.inPlace 13)=true:=by kernel_rfl
theorem k2: (Rows.declMoreRow.unfollowed==Tryz.pinned.checked.prog.unfollowed 13)=true:=by kernel_rfl
theorem k3: (Rows.declMoreRow.recurses==Tryz.pinned.checked.prog.recurses 13)=true:=by kernel_rfl
theorem k4: (Rows.declMoreRow.named==Tryz.pinned.checked.prog.varsNamed 13)=true:=by kernel_rfl
theorem facts:joinedFacts Tryz.pinned.checked.prog 13 Tryz.f13 Rows.declMoreSpec Rows.declMoreRow=true:=by
 unfold joinedFacts
 rw [k1,k2,k3,k4]
 kernel_rfl
end declMore
end Go.Proofs.YtgenoggafhhgfaaGreatDoor
