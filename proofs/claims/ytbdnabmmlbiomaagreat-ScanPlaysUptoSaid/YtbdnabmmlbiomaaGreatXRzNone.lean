import Derived.Test.YtbdnabmmlbiomaaGreatXView
import Derived.Test.YtbdnabmmlbiomaaGreatXM2
import Derived.KernelRfl
set_option maxRecDepth 1000000
namespace Go.Proofs.YtbdnabmmlbiomaaGreat
open Go.V
def mN:Option (D×St)→Bool
 |some (d,⟨[],_,_⟩)=>eZ (.agg [.int .i64 (-1),.int .i64 (-1),.int .i64 (-1),.int .i64 (-1),.int .i64 (-1),.int .i64 (-1),.int .i64 (-1),.int .i64 (-1),.int .i64 (-1),.int .i64 (-1)]) d
 |_=>false
theorem jm {r:Option (D×St)} (h:mN r=true):∃st,r=some (.agg [.int .i64 (-1),.int .i64 (-1),.int .i64 (-1),.int .i64 (-1),.int .i64 (-1),.int .i64 (-1),.int .i64 (-1),.int .i64 (-1),.int .i64 (-1),.int .i64 (-1)],st)∧st.bs=[]:=by
 match r,h with
 |some (d,⟨[],a,b⟩),h=>exact⟨⟨[],a,b⟩,by rw[pA _ _ h],rfl⟩
theorem C7:mN (cJ aW 100 118 [] ⟨[],0,0⟩)=true:=by kernel_rfl
theorem yk:fG Tryz.prog aW 118 (lY (.agg [.int .i64 (-1),.int .i64 (-1),.int .i64 (-1),.int .i64 (-1),.int .i64 (-1),.int .i64 (-1),.int .i64 (-1),.int .i64 (-1),.int .i64 (-1),.int .i64 (-1)])):=by
 obtain⟨st,h1,h2⟩:=jm C7;exact mG lV h1 h2
theorem KI:mN (cJ aW 100 67 [] ⟨[],0,0⟩)=true:=by kernel_rfl
theorem A4:fG Tryz.prog aW 67 (lY (.agg [.int .i64 (-1),.int .i64 (-1),.int .i64 (-1),.int .i64 (-1),.int .i64 (-1),.int .i64 (-1),.int .i64 (-1),.int .i64 (-1),.int .i64 (-1),.int .i64 (-1)])):=by
 obtain⟨st,h1,h2⟩:=jm KI;exact mG lV h1 h2
theorem KJ:mN (cJ aW 100 59 [] ⟨[],0,0⟩)=true:=by kernel_rfl
theorem A5:fG Tryz.prog aW 59 (lY (.agg [.int .i64 (-1),.int .i64 (-1),.int .i64 (-1),.int .i64 (-1),.int .i64 (-1),.int .i64 (-1),.int .i64 (-1),.int .i64 (-1),.int .i64 (-1),.int .i64 (-1)])):=by
 obtain⟨st,h1,h2⟩:=jm KJ;exact mG lV h1 h2
end Go.Proofs.YtbdnabmmlbiomaaGreat
