/-
 Functions that answer no places are reckoned. By program.
-/
import Derived.Test.YtnleclohocdkaaaGreatSView
import Derived.Test.YtnleclohocdkaaaGreatSM2
import Derived.KernelRfl
set_option maxRecDepth 1000000
namespace Go.Proofs.YtnleclohocdkaaaGreat
open Go.V
def pD:Option (D×St)→Bool
 |some (d,⟨[],_,_⟩)=>dM (.agg [.int .i64 (-1),.int .i64 (-1),.int .i64 (-1),.int .i64 (-1),.int .i64 (-1),.int .i64 (-1),.int .i64 (-1),.int .i64 (-1),.int .i64 (-1),.int .i64 (-1)]) d
 |_=>false
theorem kj {r:Option (D×St)} (h:pD r=true):∃st,r=some (.agg [.int .i64 (-1),.int .i64 (-1),.int .i64 (-1),.int .i64 (-1),.int .i64 (-1),.int .i64 (-1),.int .i64 (-1),.int .i64 (-1),.int .i64 (-1),.int .i64 (-1)],st)∧st.bs=[]:=by
 match r,h with
 |some (d,⟨[],a,b⟩),h=>exact⟨⟨[],a,b⟩,by rw[oD _ _ h],rfl⟩
theorem E4:pD (bZ lp 100 71 [] ⟨[],0,0⟩)=true:=by kernel_rfl
theorem Az:eQ Tryz.prog lp 71 (nH (.agg [.int .i64 (-1),.int .i64 (-1),.int .i64 (-1),.int .i64 (-1),.int .i64 (-1),.int .i64 (-1),.int .i64 (-1),.int .i64 (-1),.int .i64 (-1),.int .i64 (-1)])):=by
 obtain⟨st,h1,h2⟩:=kj E4;exact pj kY h1 h2
theorem E7:pD (bZ lp 100 63 [] ⟨[],0,0⟩)=true:=by kernel_rfl
theorem AA:eQ Tryz.prog lp 63 (nH (.agg [.int .i64 (-1),.int .i64 (-1),.int .i64 (-1),.int .i64 (-1),.int .i64 (-1),.int .i64 (-1),.int .i64 (-1),.int .i64 (-1),.int .i64 (-1),.int .i64 (-1)])):=by
 obtain⟨st,h1,h2⟩:=kj E7;exact pj kY h1 h2
end Go.Proofs.YtnleclohocdkaaaGreat
