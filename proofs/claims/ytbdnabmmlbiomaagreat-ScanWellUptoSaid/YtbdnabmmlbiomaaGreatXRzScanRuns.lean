/- A closed sentence is reckoned by V: ScanRuns. No conditions. -/
import Derived.Test.YtbdnabmmlbiomaaGreatXRzMScanRuns
import Derived.KernelRfl
set_option maxRecDepth 1000000
namespace Go.Proofs.YtbdnabmmlbiomaaGreat.scanRuns
open Go.V
theorem DT:F4 (.bool true) (c9 S0 400 29 [] ⟨[],0,0⟩)=true:=by kernel_rfl
end Go.Proofs.YtbdnabmmlbiomaaGreat.scanRuns
namespace Go.Proofs.YtbdnabmmlbiomaaGreat
open Go.V
theorem zc:∃st,c9 scanRuns.S0 400 29 [] ⟨[],0,0⟩=some (.bool true,st)∧st.bs=[]:=scanRuns.gA scanRuns.DT
end Go.Proofs.YtbdnabmmlbiomaaGreat
namespace Go.Proofs.YtbdnabmmlbiomaaGreat
open Go.V
theorem w8:gf Tryz.prog a_ 29 (mE (.bool true)):=by
 obtain⟨st,h1,h2⟩:=zc;have h:=nJ scanRuns.Ty h1 h2;exact⟨h.fn,h.calls,h.ro,h.len⟩
end Go.Proofs.YtbdnabmmlbiomaaGreat
