/-
 The view is the program. By program.
-/
import Derived.Test.YtecjacicdpejaaaGreatWGHr
set_option maxRecDepth 100000
namespace Go.Proofs.YtecjacicdpejaaaGreat
open Go.V
theorem Wo:Fits (Tw Tryz.prog) tyT 0 385:=by repeat' first|exact⟨rfl,by unfold Tw;kernel_rfl⟩|refine⟨?_,?_⟩
theorem Wp:Fits (Tx pZ Tryz.prog) fsT 0 334:=by repeat' first|exact⟨rfl,.inl ⟨by kernel_rfl,rfl,by kernel_rfl⟩⟩|exact⟨rfl,.inr rfl⟩|refine⟨?_,?_⟩
theorem rp:pZ.Ok Tryz.prog∧pZ.l_∧lb Tryz.prog pZ (gK pZ):=Oi Wo Wp (by kernel_rfl) (by kernel_rfl) rfl
end Go.Proofs.YtecjacicdpejaaaGreat
