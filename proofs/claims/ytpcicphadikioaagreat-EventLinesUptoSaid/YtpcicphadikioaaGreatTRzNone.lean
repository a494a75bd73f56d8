/-
 Functions that answer no places are reckoned. By program.
-/
import Derived.Test.YtpcicphadikioaaGreatTView
import Derived.Test.YtpcicphadikioaaGreatTM2
import Derived.KernelRfl
set_option maxRecDepth 1000000
namespace Go.Proofs.YtpcicphadikioaaGreat
open Go.V
def wG:Option (D×St)→Bool
 |some (d,⟨[],_,_⟩)=>ez (.agg [.int .i64 (-1),.int .i64 (-1),.int .i64 (-1),.int .i64 (-1),.int .i64 (-1),.int .i64 (-1),.int .i64 (-1),.int .i64 (-1),.int .i64 (-1),.int .i64 (-1)]) d
 |_=>false
theorem rG {r:Option (D×St)} (h:wG r=true):∃st,r=some (.agg [.int .i64 (-1),.int .i64 (-1),.int .i64 (-1),.int .i64 (-1),.int .i64 (-1),.int .i64 (-1),.int .i64 (-1),.int .i64 (-1),.int .i64 (-1),.int .i64 (-1)],st)∧st.bs=[]:=by
 match r,h with
 |some (d,⟨[],a,b⟩),h=>exact⟨⟨[],a,b⟩,by rw[pj _ _ h],rfl⟩
theorem FE:wG (bI dN 100 73 [] ⟨[],0,0⟩)=true:=by kernel_rfl
theorem A9:eA Tryz.prog dN 73 (sK (.agg [.int .i64 (-1),.int .i64 (-1),.int .i64 (-1),.int .i64 (-1),.int .i64 (-1),.int .i64 (-1),.int .i64 (-1),.int .i64 (-1),.int .i64 (-1),.int .i64 (-1)])):=by
 obtain⟨st,h1,h2⟩:=rG FE;exact wm k_ h1 h2
end Go.Proofs.YtpcicphadikioaaGreat
