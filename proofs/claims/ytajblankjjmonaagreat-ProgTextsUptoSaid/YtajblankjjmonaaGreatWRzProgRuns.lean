/- A closed sentence is reckoned by V: ProgRuns. No conditions. -/
import Derived.Test.YtajblankjjmonaaGreatWRzMProgRuns
import Derived.KernelRfl
set_option maxRecDepth 1000000
namespace Go.Proofs.YtajblankjjmonaaGreat.progRuns
open Go.V
theorem Bs:Oe (.bool true) (eJ G2 400 8 [] ⟨[],0,0⟩)=true:=by kernel_rfl
end Go.Proofs.YtajblankjjmonaaGreat.progRuns
namespace Go.Proofs.YtajblankjjmonaaGreat
open Go.V
theorem w7:∃st,eJ progRuns.G2 400 8 [] ⟨[],0,0⟩=some (.bool true,st)∧st.bs=[]:=progRuns.B' progRuns.Bs
end Go.Proofs.YtajblankjjmonaaGreat
namespace Go.Proofs.YtajblankjjmonaaGreat
open Go.V
theorem uQ:je Tryz.prog zO 8 (yF (.bool true)):=by
 obtain⟨st,h1,h2⟩:=w7;have h:=B0 progRuns.Hp h1 h2;exact⟨h.fn,h.calls,h.ro,h.len⟩
end Go.Proofs.YtajblankjjmonaaGreat
