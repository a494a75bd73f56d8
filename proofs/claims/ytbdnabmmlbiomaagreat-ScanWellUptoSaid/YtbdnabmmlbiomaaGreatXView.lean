/-
 The view is the program. By program.
-/
import Derived.Test.YtbdnabmmlbiomaaGreatXGKa
set_option maxRecDepth 100000
namespace Go.Proofs.YtbdnabmmlbiomaaGreat
open Go.V
theorem Vw:Fits (af Tryz.prog) tyT 0 294:=by repeat' first|exact⟨rfl,by unfold af;kernel_rfl⟩|refine⟨?_,?_⟩
theorem Vx:Fits (aE a_ Tryz.prog) fsT 0 224:=by repeat' first|exact⟨rfl,.inl ⟨by kernel_rfl,rfl,by kernel_rfl⟩⟩|exact⟨rfl,.inr rfl⟩|refine⟨?_,?_⟩
theorem mD:a_.Ok Tryz.prog∧a_.jA∧iP Tryz.prog a_ (eZ a_):=Ge Vw Vx (by kernel_rfl) (by kernel_rfl) rfl
end Go.Proofs.YtbdnabmmlbiomaaGreat
