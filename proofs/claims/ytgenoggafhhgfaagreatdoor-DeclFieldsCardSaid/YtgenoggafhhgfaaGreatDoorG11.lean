/- Texts of the proof: an interpreter over trees, proved to follow the model. No conditions of its own. -/
import Derived.Test.YtgenoggafhhgfaaGreatDoorG8
set_option linter.unusedVariables false
set_option linter.unusedSimpArgs false
namespace Go.Proofs.YtgenoggafhhgfaaGreatDoor
open Go
namespace declFields
set_option maxRecDepth 100000
theorem k1: (Rows.declFieldsRow.inPlace==Tryz.pinned.checked.prog.inPlace 3)=true:=by kernel_rfl
theorem k2: (Rows.declFieldsRow.unfollowed==Tryz.pinned.checked.prog.unfollowed 3)=true:=by kernel_rfl
theorem k3: (Rows.declFieldsRow.recurses==Tryz.pinned.checked.prog.recurses 3)=true:=by kernel_rfl
theorem k4: (Rows.declFieldsRow.named==Tryz.pinned.checked.prog.varsNamed 3)=true:=by kernel_rfl
theorem facts:joinedFacts Tryz.pinned.checked.prog 3 Tryz.f3 Rows.declFieldsSpec Rows.declFieldsRow=true:=by
 unfold joinedFacts
 rw [k1,k2,k3,k4]
 kernel_rfl
end declFields
end Go.Proofs.YtgenoggafhhgfaaGreatDoor
