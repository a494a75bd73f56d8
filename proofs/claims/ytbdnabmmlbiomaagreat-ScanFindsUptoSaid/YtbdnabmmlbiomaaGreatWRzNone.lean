import Derived.Test.YtbdnabmmlbiomaaGreatWView
import Derived.Test.YtbdnabmmlbiomaaGreatWM2
import Derived.KernelRfl
set_option maxRecDepth 1000000
namespace Go.Proofs.YtbdnabmmlbiomaaGreat
open Go.V
def nb:Option (D×St)→Bool
 |some (d,⟨[],_,_⟩)=>fp (.agg [.int .i64 (-1),.int .i64 (-1),.int .i64 (-1),.int .i64 (-1),.int .i64 (-1),.int .i64 (-1),.int .i64 (-1),.int .i64 (-1),.int .i64 (-1),.int .i64 (-1)]) d
 |_=>false
theorem jx {r:Option (D×St)} (h:nb r=true):∃st,r=some (.agg [.int .i64 (-1),.int .i64 (-1),.int .i64 (-1),.int .i64 (-1),.int .i64 (-1),.int .i64 (-1),.int .i64 (-1),.int .i64 (-1),.int .i64 (-1),.int .i64 (-1)],st)∧st.bs=[]:=by
 match r,h with
 |some (d,⟨[],a,b⟩),h=>exact⟨⟨[],a,b⟩,by rw[pW _ _ h],rfl⟩
theorem Di:nb (cW aU 100 118 [] ⟨[],0,0⟩)=true:=by kernel_rfl
theorem yp:fQ Tryz.prog aU 118 (mf (.agg [.int .i64 (-1),.int .i64 (-1),.int .i64 (-1),.int .i64 (-1),.int .i64 (-1),.int .i64 (-1),.int .i64 (-1),.int .i64 (-1),.int .i64 (-1),.int .i64 (-1)])):=by
 obtain⟨st,h1,h2⟩:=jx Di;exact mV mc h1 h2
theorem KV:nb (cW aU 100 67 [] ⟨[],0,0⟩)=true:=by kernel_rfl
theorem Bd:fQ Tryz.prog aU 67 (mf (.agg [.int .i64 (-1),.int .i64 (-1),.int .i64 (-1),.int .i64 (-1),.int .i64 (-1),.int .i64 (-1),.int .i64 (-1),.int .i64 (-1),.int .i64 (-1),.int .i64 (-1)])):=by
 obtain⟨st,h1,h2⟩:=jx KV;exact mV mc h1 h2
theorem KW:nb (cW aU 100 59 [] ⟨[],0,0⟩)=true:=by kernel_rfl
theorem Be:fQ Tryz.prog aU 59 (mf (.agg [.int .i64 (-1),.int .i64 (-1),.int .i64 (-1),.int .i64 (-1),.int .i64 (-1),.int .i64 (-1),.int .i64 (-1),.int .i64 (-1),.int .i64 (-1),.int .i64 (-1)])):=by
 obtain⟨st,h1,h2⟩:=jx KW;exact mV mc h1 h2
end Go.Proofs.YtbdnabmmlbiomaaGreat
