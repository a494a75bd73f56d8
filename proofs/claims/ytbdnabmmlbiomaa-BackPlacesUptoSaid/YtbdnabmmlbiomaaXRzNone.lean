/-
 Functions that answer no places are reckoned. By program.
-/
import Derived.Test.YtbdnabmmlbiomaaXView
import Derived.Test.YtbdnabmmlbiomaaXM2
import Derived.KernelRfl
set_option maxRecDepth 1000000
namespace Go.Proofs.Ytbdnabmmlbiomaa
open Go.V
def nb:Option (D×St)→Bool
 |some (d,⟨[],_,_⟩)=>dN (.agg [.int .i64 (-1),.int .i64 (-1),.int .i64 (-1),.int .i64 (-1),.int .i64 (-1),.int .i64 (-1),.int .i64 (-1),.int .i64 (-1),.int .i64 (-1),.int .i64 (-1)]) d
 |_=>false
theorem jG {r:Option (D×St)} (h:nb r=true):∃st,r=some (.agg [.int .i64 (-1),.int .i64 (-1),.int .i64 (-1),.int .i64 (-1),.int .i64 (-1),.int .i64 (-1),.int .i64 (-1),.int .i64 (-1),.int .i64 (-1),.int .i64 (-1)],st)∧st.bs=[]:=by
 match r,h with
 |some (d,⟨[],a,b⟩),h=>exact⟨⟨[],a,b⟩,by rw[qO _ _ h],rfl⟩
theorem Ct:nb (b8 bf 100 55 [] ⟨[],0,0⟩)=true:=by kernel_rfl
theorem wh:fX Try.prog bf 55 (lL (.agg [.int .i64 (-1),.int .i64 (-1),.int .i64 (-1),.int .i64 (-1),.int .i64 (-1),.int .i64 (-1),.int .i64 (-1),.int .i64 (-1),.int .i64 (-1),.int .i64 (-1)])):=by
 obtain⟨st,h1,h2⟩:=jG Ct;exact mU om h1 h2
theorem Cu:nb (b8 bf 100 46 [] ⟨[],0,0⟩)=true:=by kernel_rfl
theorem wj:fX Try.prog bf 46 (lL (.agg [.int .i64 (-1),.int .i64 (-1),.int .i64 (-1),.int .i64 (-1),.int .i64 (-1),.int .i64 (-1),.int .i64 (-1),.int .i64 (-1),.int .i64 (-1),.int .i64 (-1)])):=by
 obtain⟨st,h1,h2⟩:=jG Cu;exact mU om h1 h2
end Go.Proofs.Ytbdnabmmlbiomaa
