/-
 The view is the program. By program.
-/
import Derived.Test.YtnleclohocdkaaaGreatSGHr
set_option maxRecDepth 100000
namespace Go.Proofs.YtnleclohocdkaaaGreat
open Go.V
theorem KL:Fits (Iy Tryz.prog) P3 0 273:=by repeat' first|exact⟨rfl,by unfold Iy;kernel_rfl⟩|refine⟨?_,?_⟩
theorem KM:Fits (Iz lp Tryz.prog) QS 0 208:=by repeat' first|exact⟨rfl,.inl ⟨by kernel_rfl,rfl,by kernel_rfl⟩⟩|exact⟨rfl,.inr rfl⟩|refine⟨?_,?_⟩
theorem kY:lp.Ok Tryz.prog∧lp.gS∧gf Tryz.prog lp (dt lp):=Ew KL KM (by kernel_rfl) (by kernel_rfl) rfl
end Go.Proofs.YtnleclohocdkaaaGreat
