/-
 Functions that answer no places are reckoned. By program.
-/
import Derived.Test.YtbdnabmmlbiomaaXView
import Derived.Test.YtbdnabmmlbiomaaXM2
import Derived.KernelRfl
set_option maxRecDepth 1000000
namespace Go.Proofs.Ytbdnabmmlbiomaa
open Go.V
def oo:Option (D×St)→Bool
 |some (d,⟨[],_,_⟩)=>dZ (.agg [.int .i64 (-1),.int .i64 (-1),.int .i64 (-1),.int .i64 (-1),.int .i64 (-1),.int .i64 (-1),.int .i64 (-1),.int .i64 (-1),.int .i64 (-1),.int .i64 (-1)]) d
 |_=>false
theorem kc {r:Option (D×St)} (h:oo r=true):∃st,r=some (.agg [.int .i64 (-1),.int .i64 (-1),.int .i64 (-1),.int .i64 (-1),.int .i64 (-1),.int .i64 (-1),.int .i64 (-1),.int .i64 (-1),.int .i64 (-1),.int .i64 (-1)],st)∧st.bs=[]:=by
 match r,h with
 |some (d,⟨[],a,b⟩),h=>exact⟨⟨[],a,b⟩,by rw[nr _ _ h],rfl⟩
theorem EK:oo (aZ aV 100 55 [] ⟨[],0,0⟩)=true:=by kernel_rfl
theorem yy:dL Try.prog aV 55 (kb (.agg [.int .i64 (-1),.int .i64 (-1),.int .i64 (-1),.int .i64 (-1),.int .i64 (-1),.int .i64 (-1),.int .i64 (-1),.int .i64 (-1),.int .i64 (-1),.int .i64 (-1)])):=by
 obtain⟨st,h1,h2⟩:=kc EK;exact kO iT h1 h2
theorem EL:oo (aZ aV 100 46 [] ⟨[],0,0⟩)=true:=by kernel_rfl
theorem yz:dL Try.prog aV 46 (kb (.agg [.int .i64 (-1),.int .i64 (-1),.int .i64 (-1),.int .i64 (-1),.int .i64 (-1),.int .i64 (-1),.int .i64 (-1),.int .i64 (-1),.int .i64 (-1),.int .i64 (-1)])):=by
 obtain⟨st,h1,h2⟩:=kc EL;exact kO iT h1 h2
end Go.Proofs.Ytbdnabmmlbiomaa
