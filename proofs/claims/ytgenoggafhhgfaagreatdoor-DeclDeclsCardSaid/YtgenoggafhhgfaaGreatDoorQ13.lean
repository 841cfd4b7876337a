/- Texts of the proof: an interpreter over trees, proved to follow the model. No conditions of its own. -/
import Derived.Test.YtgenoggafhhgfaaGreatDoorQ10
set_option linter.unusedVariables false
set_option linter.unusedSimpArgs false
namespace Go.Proofs.YtgenoggafhhgfaaGreatDoor
open Go
namespace declDecls
set_option maxRecDepth 100000
theorem k1: (Rows.declDeclsRow.inPlace==Tryz.pinned.checked.prog.inPlace 5)=true:=by kernel_rfl
theorem k2: (Rows.declDeclsRow.unfollowed==Tryz.pinned.checked.prog.unfollowed 5)=true:=by kernel_rfl
theorem k3: (Rows.declDeclsRow.recurses==Tryz.pinned.checked.prog.recurses 5)=true:=by kernel_rfl
theorem k4: (Rows.declDeclsRow.named==Tryz.pinned.checked.prog.varsNamed 5)=true:=by kernel_rfl
theorem facts:joinedFacts Tryz.pinned.checked.prog 5 Tryz.f5 Rows.declDeclsSpec Rows.declDeclsRow=true:=by
 unfold joinedFacts
 rw [k1,k2,k3,k4]
 kernel_rfl
end declDecls
end Go.Proofs.YtgenoggafhhgfaaGreatDoor
