/-
 The view is the program. By program.
-/
import Derived.Test.YthahmilhpmfkfaaGreatVPv
set_option maxRecDepth 100000
namespace Go.Proofs.YthahmilhpmfkfaaGreat
open Go.V
theorem Ot:Fits (L' Tryz.prog) TK 0 207:=by repeat' first|exact⟨rfl,by unfold L';kernel_rfl⟩|refine⟨?_,?_⟩
theorem Ou:Fits (Ma eQ Tryz.prog) UA 0 157:=by repeat' first|exact⟨rfl,.inl ⟨by kernel_rfl,rfl,by kernel_rfl⟩⟩|exact⟨rfl,.inr rfl⟩|refine⟨?_,?_⟩
theorem rC:eQ.Ok Tryz.prog∧eQ.gC∧gx Tryz.prog eQ (dJ eQ):=HO Ot Ou (by kernel_rfl) (by kernel_rfl) rfl
end Go.Proofs.YthahmilhpmfkfaaGreat
