/-
 Functions that answer no places are reckoned. By program.
-/
import Derived.Test.YtnleclohocdkaaaGreatTView
import Derived.Test.YtnleclohocdkaaaGreatTM2
import Derived.KernelRfl
set_option maxRecDepth 1000000
namespace Go.Proofs.YtnleclohocdkaaaGreat
open Go.V
def ou:Option (D×St)→Bool
 |some (d,⟨[],_,_⟩)=>dw (.agg [.int .i64 (-1),.int .i64 (-1),.int .i64 (-1),.int .i64 (-1),.int .i64 (-1),.int .i64 (-1),.int .i64 (-1),.int .i64 (-1),.int .i64 (-1),.int .i64 (-1)]) d
 |_=>false
theorem jK {r:Option (D×St)} (h:ou r=true):∃st,r=some (.agg [.int .i64 (-1),.int .i64 (-1),.int .i64 (-1),.int .i64 (-1),.int .i64 (-1),.int .i64 (-1),.int .i64 (-1),.int .i64 (-1),.int .i64 (-1),.int .i64 (-1)],st)∧st.bs=[]:=by
 match r,h with
 |some (d,⟨[],a,b⟩),h=>exact⟨⟨[],a,b⟩,by rw[np _ _ h],rfl⟩
theorem C9:ou (aZ gF 100 71 [] ⟨[],0,0⟩)=true:=by kernel_rfl
theorem y4:dU Tryz.prog gF 71 (ml (.agg [.int .i64 (-1),.int .i64 (-1),.int .i64 (-1),.int .i64 (-1),.int .i64 (-1),.int .i64 (-1),.int .i64 (-1),.int .i64 (-1),.int .i64 (-1),.int .i64 (-1)])):=by
 obtain⟨st,h1,h2⟩:=jK C9;exact oc jJ h1 h2
theorem C_:ou (aZ gF 100 63 [] ⟨[],0,0⟩)=true:=by kernel_rfl
theorem y5:dU Tryz.prog gF 63 (ml (.agg [.int .i64 (-1),.int .i64 (-1),.int .i64 (-1),.int .i64 (-1),.int .i64 (-1),.int .i64 (-1),.int .i64 (-1),.int .i64 (-1),.int .i64 (-1),.int .i64 (-1)])):=by
 obtain⟨st,h1,h2⟩:=jK C_;exact oc jJ h1 h2
end Go.Proofs.YtnleclohocdkaaaGreat
