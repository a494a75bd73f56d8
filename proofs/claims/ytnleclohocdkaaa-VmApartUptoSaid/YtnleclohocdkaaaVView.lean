/-
 The view is the program. By program.
-/
import Derived.Test.YtnleclohocdkaaaVGHr
set_option maxRecDepth 100000
namespace Go.Proofs.Ytnleclohocdkaaa
open Go.V
theorem KQ:Fits (Iq Try.prog) PD 0 239:=by repeat' first|exact⟨rfl,by unfold Iq;kernel_rfl⟩|refine⟨?_,?_⟩
theorem KR:Fits (Ir iZ Try.prog) QE 0 174:=by repeat' first|exact⟨rfl,.inl ⟨by kernel_rfl,rfl,by kernel_rfl⟩⟩|exact⟨rfl,.inr rfl⟩|refine⟨?_,?_⟩
theorem lE:iZ.Ok Try.prog∧iZ.ig∧gE Try.prog iZ (dL iZ):=E4 KQ KR (by kernel_rfl) (by kernel_rfl) rfl
end Go.Proofs.Ytnleclohocdkaaa
