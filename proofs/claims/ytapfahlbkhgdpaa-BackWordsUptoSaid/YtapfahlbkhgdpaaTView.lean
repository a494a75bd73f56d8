/- own -/
import Derived.Test.YtapfahlbkhgdpaaTGHr
set_option maxRecDepth 100000
namespace Go.Proofs.Ytapfahlbkhgdpaa
open Go.V
theorem fitsT : Fits (RowT Try.prog) tyT 0 163 := by repeat' first | exact ⟨rfl,by unfold RowT; kernel_rfl⟩ | refine ⟨?_,?_⟩
theorem fitsF : Fits (RowF pv0 Try.prog) fsT 0 110 := by repeat' first | exact ⟨rfl, .inl ⟨by kernel_rfl,rfl,by kernel_rfl⟩⟩ | exact ⟨rfl, .inr rfl⟩ | refine ⟨?_,?_⟩
theorem view0 : pv0.Ok Try.prog /\ pv0.codes /\ CfOk Try.prog pv0 (primF pv0) := view_ok fitsT fitsF (by kernel_rfl) (by kernel_rfl) rfl
end Go.Proofs.Ytapfahlbkhgdpaa
