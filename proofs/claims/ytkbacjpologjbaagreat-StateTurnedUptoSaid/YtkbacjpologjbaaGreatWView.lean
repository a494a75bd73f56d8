/-
 The view is the program. By program.
-/
import Derived.Test.YtkbacjpologjbaaGreatWGHr
set_option maxRecDepth 100000
namespace Go.Proofs.YtkbacjpologjbaaGreat
open Go.V
theorem Sd:Fits (Pt Tryz.prog) Yn 0 271:=by repeat' first|exact⟨rfl,by unfold Pt;kernel_rfl⟩|refine⟨?_,?_⟩
theorem Se:Fits (Pu nQ Tryz.prog) ZA 0 208:=by repeat' first|exact⟨rfl,.inl ⟨by kernel_rfl,rfl,by kernel_rfl⟩⟩|exact⟨rfl,.inr rfl⟩|refine⟨?_,?_⟩
theorem ov:nQ.Ok Tryz.prog∧nQ.ka∧ju Tryz.prog nQ (fv nQ):=KD Sd Se (by kernel_rfl) (by kernel_rfl) rfl
end Go.Proofs.YtkbacjpologjbaaGreat
