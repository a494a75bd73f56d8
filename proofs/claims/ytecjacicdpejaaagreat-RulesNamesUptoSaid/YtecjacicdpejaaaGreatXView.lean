/-
 The view is the program. By program.
-/
import Derived.Test.YtecjacicdpejaaaGreatXPv
set_option maxRecDepth 100000
namespace Go.Proofs.YtecjacicdpejaaaGreat
open Go.V
theorem Lp:Fits (Ja Tryz.prog) Qj 0 385:=by repeat' first|exact⟨rfl,by unfold Ja;kernel_rfl⟩|refine⟨?_,?_⟩
theorem Lq:Fits (Jb dY Tryz.prog) Q5 0 334:=by repeat' first|exact⟨rfl,.inl ⟨by kernel_rfl,rfl,by kernel_rfl⟩⟩|exact⟨rfl,.inr rfl⟩|refine⟨?_,?_⟩
theorem mc:dY.Ok Tryz.prog∧dY.fL∧fR Tryz.prog dY (du dY):=E6 Lp Lq (by kernel_rfl) (by kernel_rfl) rfl
end Go.Proofs.YtecjacicdpejaaaGreat
