import Derived.Test.YtbdnabmmlbiomaaGreatXRzMScanRuns
import Derived.KernelRfl
set_option maxRecDepth 1000000
namespace Go.Proofs.YtbdnabmmlbiomaaGreat.scanRuns
open Go.V
theorem Cx:EO (.bool true) (cJ Rk 400 29 [] ⟨[],0,0⟩)=true:=by kernel_rfl
end Go.Proofs.YtbdnabmmlbiomaaGreat.scanRuns
namespace Go.Proofs.YtbdnabmmlbiomaaGreat
open Go.V
theorem xQ:∃st,cJ scanRuns.Rk 400 29 [] ⟨[],0,0⟩=some (.bool true,st)∧st.bs=[]:=scanRuns.fW scanRuns.Cx
end Go.Proofs.YtbdnabmmlbiomaaGreat
namespace Go.Proofs.YtbdnabmmlbiomaaGreat
open Go.V
theorem vu:fG Tryz.prog aW 29 (lY (.bool true)):=by
 obtain⟨st,h1,h2⟩:=xQ;have h:=mG scanRuns.RK h1 h2;exact⟨h.fn,h.calls,h.ro,h.len⟩
end Go.Proofs.YtbdnabmmlbiomaaGreat
