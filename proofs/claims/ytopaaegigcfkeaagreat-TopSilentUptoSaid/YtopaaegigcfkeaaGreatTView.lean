/- own -/
import Derived.Test.YtopaaegigcfkeaaGreatTPv
set_option maxRecDepth 100000
namespace Go.Proofs.YtopaaegigcfkeaaGreat
open Go.V
theorem fitsT : Fits (RowT Tryz.prog) tyT 0 535 := by repeat' first | exact ⟨rfl,by unfold RowT; kernel_rfl⟩ | refine ⟨?_,?_⟩
theorem fitsF : Fits (RowF pv0 Tryz.prog) fsT 0 384 := by repeat' first | exact ⟨rfl, .inl ⟨by kernel_rfl,rfl,by kernel_rfl⟩⟩ | exact ⟨rfl, .inr rfl⟩ | refine ⟨?_,?_⟩
theorem view0 : pv0.Ok Tryz.prog /\ pv0.codes /\ CfOk Tryz.prog pv0 (primF pv0) := view_ok fitsT fitsF (by kernel_rfl) (by kernel_rfl) rfl
end Go.Proofs.YtopaaegigcfkeaaGreat
