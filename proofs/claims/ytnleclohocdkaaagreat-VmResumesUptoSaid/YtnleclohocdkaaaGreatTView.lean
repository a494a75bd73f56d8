/-
 The view is the program. By program.
-/
import Derived.Test.YtnleclohocdkaaaGreatTGHr
set_option maxRecDepth 100000
namespace Go.Proofs.YtnleclohocdkaaaGreat
open Go.V
theorem IE:Fits (Gm Tryz.prog) Na 0 273:=by repeat' first|exact⟨rfl,by unfold Gm;kernel_rfl⟩|refine⟨?_,?_⟩
theorem IF:Fits (Gn gF Tryz.prog) Oe 0 208:=by repeat' first|exact⟨rfl,.inl ⟨by kernel_rfl,rfl,by kernel_rfl⟩⟩|exact⟨rfl,.inr rfl⟩|refine⟨?_,?_⟩
theorem jJ:gF.Ok Tryz.prog∧gF.fP∧e_ Tryz.prog gF (cQ gF):=CK IE IF (by kernel_rfl) (by kernel_rfl) rfl
end Go.Proofs.YtnleclohocdkaaaGreat
