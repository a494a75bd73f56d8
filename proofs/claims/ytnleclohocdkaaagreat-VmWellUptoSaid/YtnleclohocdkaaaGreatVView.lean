/-
 The view is the program. By program.
-/
import Derived.Test.YtnleclohocdkaaaGreatVGHr
set_option maxRecDepth 100000
namespace Go.Proofs.YtnleclohocdkaaaGreat
open Go.V
theorem KM:Fits (It Tryz.prog) PI 0 273:=by repeat' first|exact⟨rfl,by unfold It;kernel_rfl⟩|refine⟨?_,?_⟩
theorem KN:Fits (Iu iu Tryz.prog) QT 0 208:=by repeat' first|exact⟨rfl,.inl ⟨by kernel_rfl,rfl,by kernel_rfl⟩⟩|exact⟨rfl,.inr rfl⟩|refine⟨?_,?_⟩
theorem kT:iu.Ok Tryz.prog∧iu.gL∧gg Tryz.prog iu (dx iu):=En KM KN (by kernel_rfl) (by kernel_rfl) rfl
end Go.Proofs.YtnleclohocdkaaaGreat
