/-
 The view is the program. By program.
-/
import Derived.Test.YtajblankjjmonaaGreatWGHr
set_option maxRecDepth 100000
namespace Go.Proofs.YtajblankjjmonaaGreat
open Go.V
theorem Jj:Fits (GR Tryz.prog) N2 0 175:=by repeat' first|exact⟨rfl,by unfold GR;kernel_rfl⟩|refine⟨?_,?_⟩
theorem Jk:Fits (GS zO Tryz.prog) O1 0 137:=by repeat' first|exact⟨rfl,.inl ⟨by kernel_rfl,rfl,by kernel_rfl⟩⟩|exact⟨rfl,.inr rfl⟩|refine⟨?_,?_⟩
theorem A5:zO.Ok Tryz.prog∧zO.jm∧gO Tryz.prog zO (eF zO):=Dw Jj Jk (by kernel_rfl) (by kernel_rfl) rfl
end Go.Proofs.YtajblankjjmonaaGreat
