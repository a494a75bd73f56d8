/-
 The view is the program. By program.
-/
import Derived.Test.YtnleclohocdkaaaWPv
set_option maxRecDepth 100000
namespace Go.Proofs.Ytnleclohocdkaaa
open Go.V
theorem I4:Fits (G5 Try.prog) M4 0 239:=by repeat' first|exact⟨rfl,by unfold G5;kernel_rfl⟩|refine⟨?_,?_⟩
theorem I5:Fits (G6 eY Try.prog) NU 0 174:=by repeat' first|exact⟨rfl,.inl ⟨by kernel_rfl,rfl,by kernel_rfl⟩⟩|exact⟨rfl,.inr rfl⟩|refine⟨?_,?_⟩
theorem iM:eY.Ok Try.prog∧eY.gf∧f_ Try.prog eY (dt eY):=DM I4 I5 (by kernel_rfl) (by kernel_rfl) rfl
end Go.Proofs.Ytnleclohocdkaaa
