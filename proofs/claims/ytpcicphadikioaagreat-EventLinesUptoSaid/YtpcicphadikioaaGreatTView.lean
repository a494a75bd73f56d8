/-
 The view is the program. By program.
-/
import Derived.Test.YtpcicphadikioaaGreatTGHr
set_option maxRecDepth 100000
namespace Go.Proofs.YtpcicphadikioaaGreat
open Go.V
theorem K3:Fits (IW Tryz.prog) PL 0 225:=by repeat' first|exact⟨rfl,by unfold IW;kernel_rfl⟩|refine⟨?_,?_⟩
theorem K4:Fits (IX dN Tryz.prog) QC 0 148:=by repeat' first|exact⟨rfl,.inl ⟨by kernel_rfl,rfl,by kernel_rfl⟩⟩|exact⟨rfl,.inr rfl⟩|refine⟨?_,?_⟩
theorem k_:dN.Ok Tryz.prog∧dN.fc∧fk Tryz.prog dN (cW dN):=E3 K3 K4 (by kernel_rfl) (by kernel_rfl) rfl
end Go.Proofs.YtpcicphadikioaaGreat
