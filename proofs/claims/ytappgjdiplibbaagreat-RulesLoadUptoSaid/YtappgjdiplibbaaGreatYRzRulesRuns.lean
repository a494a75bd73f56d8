/- A closed sentence is reckoned by V: RulesRuns. No conditions. -/
import Derived.Test.YtappgjdiplibbaaGreatYRzMRulesRuns
import Derived.KernelRfl
set_option maxRecDepth 1000000
namespace Go.Proofs.YtappgjdiplibbaaGreat.rulesRuns
open Go.V
theorem KC:C' (.bool true) (cA TH 400 7 [] ⟨[],0,0⟩)=true:=by kernel_rfl
end Go.Proofs.YtappgjdiplibbaaGreat.rulesRuns
namespace Go.Proofs.YtappgjdiplibbaaGreat
open Go.V
theorem Ce:∃U,cA rulesRuns.TH 400 7 [] ⟨[],0,0⟩=some (.bool true,U)/\U.bs=[]:=rulesRuns.dn rulesRuns.KC
end Go.Proofs.YtappgjdiplibbaaGreat
namespace Go.Proofs.YtappgjdiplibbaaGreat
open Go.V
theorem mq:dx Tryz.prog dE 7 (tR (.bool true)):=by
 obtain⟨U,h1,X⟩:=Ce;have h:=Ll rulesRuns.UE h1 X;exact⟨h.fn,h.calls,h.ro,h.len⟩
end Go.Proofs.YtappgjdiplibbaaGreat
