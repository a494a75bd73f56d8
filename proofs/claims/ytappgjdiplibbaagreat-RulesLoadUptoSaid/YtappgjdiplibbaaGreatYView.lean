/-
 The view is the program. By program.
-/
import Derived.Test.YtappgjdiplibbaaGreatYPv
set_option maxRecDepth 100000
namespace Go.Proofs.YtappgjdiplibbaaGreat
open Go.V
theorem Mw:Fits (Tu Tryz.prog) tyT 0 245:=by repeat' first|exact⟨rfl,by unfold Tu;kernel_rfl⟩|refine⟨?_,?_⟩
theorem DD:Fits (Nh dE Tryz.prog) NG 0 208:=by repeat' first|exact⟨rfl,.inl ⟨by kernel_rfl,rfl,by kernel_rfl⟩⟩|exact⟨rfl,.inr rfl⟩|refine⟨?_,?_⟩
theorem jS:dE.Ok Tryz.prog/\dE.fu/\gh Tryz.prog dE (dj dE):=zJ Mw DD (by kernel_rfl) (by kernel_rfl) rfl
end Go.Proofs.YtappgjdiplibbaaGreat
