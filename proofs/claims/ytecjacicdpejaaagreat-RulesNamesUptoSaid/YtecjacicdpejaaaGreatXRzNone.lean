/-
 Functions that answer no places are reckoned. By program.
-/
import Derived.Test.YtecjacicdpejaaaGreatXView
import Derived.Test.YtecjacicdpejaaaGreatXM2
import Derived.KernelRfl
set_option maxRecDepth 1000000
namespace Go.Proofs.YtecjacicdpejaaaGreat
open Go.V
def qO:Option (D×St)→Bool
 |some (d,⟨[],_,_⟩)=>eK (.agg [.int .i64 (-1),.int .i64 (-1),.int .i64 (-1),.int .i64 (-1),.int .i64 (-1),.int .i64 (-1),.int .i64 (-1),.int .i64 (-1),.int .i64 (-1),.int .i64 (-1)]) d
 |_=>false
theorem lB {r:Option (D×St)} (h:qO r=true):∃st,r=some (.agg [.int .i64 (-1),.int .i64 (-1),.int .i64 (-1),.int .i64 (-1),.int .i64 (-1),.int .i64 (-1),.int .i64 (-1),.int .i64 (-1),.int .i64 (-1),.int .i64 (-1)],st)∧st.bs=[]:=by
 match r,h with
 |some (d,⟨[],a,b⟩),h=>exact⟨⟨[],a,b⟩,by rw[po _ _ h],rfl⟩
theorem Dd:qO (cg dY 100 193 [] ⟨[],0,0⟩)=true:=by kernel_rfl
theorem yp:fQ Tryz.prog dY 193 (oB (.agg [.int .i64 (-1),.int .i64 (-1),.int .i64 (-1),.int .i64 (-1),.int .i64 (-1),.int .i64 (-1),.int .i64 (-1),.int .i64 (-1),.int .i64 (-1),.int .i64 (-1)])):=by
 obtain⟨st,h1,h2⟩:=lB Dd;exact qz mc h1 h2
theorem De:qO (cg dY 100 149 [] ⟨[],0,0⟩)=true:=by kernel_rfl
theorem yq:fQ Tryz.prog dY 149 (oB (.agg [.int .i64 (-1),.int .i64 (-1),.int .i64 (-1),.int .i64 (-1),.int .i64 (-1),.int .i64 (-1),.int .i64 (-1),.int .i64 (-1),.int .i64 (-1),.int .i64 (-1)])):=by
 obtain⟨st,h1,h2⟩:=lB De;exact qz mc h1 h2
end Go.Proofs.YtecjacicdpejaaaGreat
