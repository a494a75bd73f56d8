import Derived.Test.YtbdnabmmlbiomaaGreatWRzMScanRuns
import Derived.KernelRfl
set_option maxRecDepth 1000000
namespace Go.Proofs.YtbdnabmmlbiomaaGreat.scanRuns
open Go.V
theorem CO:E1 (.bool true) (cW Rw 400 29 [] ⟨[],0,0⟩)=true:=by kernel_rfl
end Go.Proofs.YtbdnabmmlbiomaaGreat.scanRuns
namespace Go.Proofs.YtbdnabmmlbiomaaGreat
open Go.V
theorem x5:∃st,cW scanRuns.Rw 400 29 [] ⟨[],0,0⟩=some (.bool true,st)∧st.bs=[]:=scanRuns.gf scanRuns.CO
end Go.Proofs.YtbdnabmmlbiomaaGreat
namespace Go.Proofs.YtbdnabmmlbiomaaGreat
open Go.V
theorem vS:fQ Tryz.prog aU 29 (mf (.bool true)):=by
 obtain⟨st,h1,h2⟩:=x5;have h:=mV scanRuns.RM h1 h2;exact⟨h.fn,h.calls,h.ro,h.len⟩
end Go.Proofs.YtbdnabmmlbiomaaGreat
