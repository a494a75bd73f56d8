/-
 Functions that answer no places are reckoned. By program.
-/
import Derived.Test.YtecjacicdpejaaaGreatWView
import Derived.Test.YtecjacicdpejaaaGreatWM2
import Derived.KernelRfl
set_option maxRecDepth 1000000
namespace Go.Proofs.YtecjacicdpejaaaGreat
open Go.V
def x6:Option (D×St)→Bool
 |some (d,⟨[],_,_⟩)=>iD (.agg [.int .i64 (-1),.int .i64 (-1),.int .i64 (-1),.int .i64 (-1),.int .i64 (-1),.int .i64 (-1),.int .i64 (-1),.int .i64 (-1),.int .i64 (-1),.int .i64 (-1)]) d
 |_=>false
theorem rr {r:Option (D×St)} (h:x6 r=true):∃st,r=some (.agg [.int .i64 (-1),.int .i64 (-1),.int .i64 (-1),.int .i64 (-1),.int .i64 (-1),.int .i64 (-1),.int .i64 (-1),.int .i64 (-1),.int .i64 (-1),.int .i64 (-1)],st)∧st.bs=[]:=by
 match r,h with
 |some (d,⟨[],a,b⟩),h=>exact⟨⟨[],a,b⟩,by rw[wC _ _ h],rfl⟩
theorem Lz:x6 (dQ pZ 100 193 [] ⟨[],0,0⟩)=true:=by kernel_rfl
theorem FL:iE Tryz.prog pZ 193 (vp (.agg [.int .i64 (-1),.int .i64 (-1),.int .i64 (-1),.int .i64 (-1),.int .i64 (-1),.int .i64 (-1),.int .i64 (-1),.int .i64 (-1),.int .i64 (-1),.int .i64 (-1)])):=by
 obtain⟨st,h1,h2⟩:=rr Lz;exact xH rp h1 h2
theorem LA:x6 (dQ pZ 100 149 [] ⟨[],0,0⟩)=true:=by kernel_rfl
theorem FM:iE Tryz.prog pZ 149 (vp (.agg [.int .i64 (-1),.int .i64 (-1),.int .i64 (-1),.int .i64 (-1),.int .i64 (-1),.int .i64 (-1),.int .i64 (-1),.int .i64 (-1),.int .i64 (-1),.int .i64 (-1)])):=by
 obtain⟨st,h1,h2⟩:=rr LA;exact xH rp h1 h2
end Go.Proofs.YtecjacicdpejaaaGreat
