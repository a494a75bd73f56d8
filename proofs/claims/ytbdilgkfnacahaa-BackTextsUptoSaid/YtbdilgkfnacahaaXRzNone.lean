/-
 Functions that answer no places are reckoned. By program.
-/
import Derived.Test.YtbdilgkfnacahaaXView
import Derived.Test.YtbdilgkfnacahaaXM2
import Derived.KernelRfl
set_option maxRecDepth 1000000
namespace Go.Proofs.Ytbdilgkfnacahaa
open Go.V
def oq:Option (D×St)→Bool
 |some (d,⟨[],_,_⟩)=>ey (.agg [.int .i64 (-1),.int .i64 (-1),.int .i64 (-1),.int .i64 (-1),.int .i64 (-1),.int .i64 (-1),.int .i64 (-1),.int .i64 (-1),.int .i64 (-1),.int .i64 (-1)]) d
 |_=>false
theorem kr {r:Option (D×St)} (h:oq r=true):∃st,r=some (.agg [.int .i64 (-1),.int .i64 (-1),.int .i64 (-1),.int .i64 (-1),.int .i64 (-1),.int .i64 (-1),.int .i64 (-1),.int .i64 (-1),.int .i64 (-1),.int .i64 (-1)],st)∧st.bs=[]:=by
 match r,h with
 |some (d,⟨[],a,b⟩),h=>exact⟨⟨[],a,b⟩,by rw[rX _ _ h],rfl⟩
theorem DV:oq (b9 bf 100 73 [] ⟨[],0,0⟩)=true:=by kernel_rfl
theorem xO:e_ Try.prog bf 73 (jC (.agg [.int .i64 (-1),.int .i64 (-1),.int .i64 (-1),.int .i64 (-1),.int .i64 (-1),.int .i64 (-1),.int .i64 (-1),.int .i64 (-1),.int .i64 (-1),.int .i64 (-1)])):=by
 obtain⟨st,h1,h2⟩:=kr DV;exact jB mI h1 h2
theorem DW:oq (b9 bf 100 59 [] ⟨[],0,0⟩)=true:=by kernel_rfl
theorem xP:e_ Try.prog bf 59 (jC (.agg [.int .i64 (-1),.int .i64 (-1),.int .i64 (-1),.int .i64 (-1),.int .i64 (-1),.int .i64 (-1),.int .i64 (-1),.int .i64 (-1),.int .i64 (-1),.int .i64 (-1)])):=by
 obtain⟨st,h1,h2⟩:=kr DW;exact jB mI h1 h2
end Go.Proofs.Ytbdilgkfnacahaa
