/-
 The view is the program. By program.
-/
import Derived.Test.YtecjacicdpejaaaGreatXGHr
set_option maxRecDepth 100000
namespace Go.Proofs.YtecjacicdpejaaaGreat
open Go.V
theorem Ng:Fits (KO Tryz.prog) SD 0 385:=by repeat' first|exact⟨rfl,by unfold KO;kernel_rfl⟩|refine⟨?_,?_⟩
theorem Nh:Fits (KP l5 Tryz.prog) TR 0 334:=by repeat' first|exact⟨rfl,.inl ⟨by kernel_rfl,rfl,by kernel_rfl⟩⟩|exact⟨rfl,.inr rfl⟩|refine⟨?_,?_⟩
theorem mD:l5.Ok Tryz.prog∧l5.i_∧iu Tryz.prog l5 (ek l5):=GO Ng Nh (by kernel_rfl) (by kernel_rfl) rfl
end Go.Proofs.YtecjacicdpejaaaGreat
