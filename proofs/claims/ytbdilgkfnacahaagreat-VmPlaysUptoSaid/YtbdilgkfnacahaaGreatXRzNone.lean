/-
 Functions that answer no places are reckoned. By program.
-/
import Derived.Test.YtbdilgkfnacahaaGreatXView
import Derived.Test.YtbdilgkfnacahaaGreatXM2
import Derived.KernelRfl
set_option maxRecDepth 1000000
namespace Go.Proofs.YtbdilgkfnacahaaGreat
open Go.V
def lg:Option (D×St)→Bool
 |some (d,⟨[],_,_⟩)=>cX (.agg [.int .i64 (-1),.int .i64 (-1),.int .i64 (-1),.int .i64 (-1),.int .i64 (-1),.int .i64 (-1),.int .i64 (-1),.int .i64 (-1),.int .i64 (-1),.int .i64 (-1)]) d
 |_=>false
theorem gX {r:Option (D×St)} (h:lg r=true):∃st,r=some (.agg [.int .i64 (-1),.int .i64 (-1),.int .i64 (-1),.int .i64 (-1),.int .i64 (-1),.int .i64 (-1),.int .i64 (-1),.int .i64 (-1),.int .i64 (-1),.int .i64 (-1)],st)∧st.bs=[]:=by
 match r,h with
 |some (d,⟨[],a,b⟩),h=>exact⟨⟨[],a,b⟩,by rw[kB _ _ h],rfl⟩
theorem zQ:lg (aV aK 100 57 [] ⟨[],0,0⟩)=true:=by kernel_rfl
theorem sW:dj Tryz.prog aK 57 (jY (.agg [.int .i64 (-1),.int .i64 (-1),.int .i64 (-1),.int .i64 (-1),.int .i64 (-1),.int .i64 (-1),.int .i64 (-1),.int .i64 (-1),.int .i64 (-1),.int .i64 (-1)])):=by
 obtain⟨st,h1,h2⟩:=gX zQ;exact kW gW h1 h2
theorem zR:lg (aV aK 100 30 [] ⟨[],0,0⟩)=true:=by kernel_rfl
theorem sX:dj Tryz.prog aK 30 (jY (.agg [.int .i64 (-1),.int .i64 (-1),.int .i64 (-1),.int .i64 (-1),.int .i64 (-1),.int .i64 (-1),.int .i64 (-1),.int .i64 (-1),.int .i64 (-1),.int .i64 (-1)])):=by
 obtain⟨st,h1,h2⟩:=gX zR;exact kW gW h1 h2
end Go.Proofs.YtbdilgkfnacahaaGreat
