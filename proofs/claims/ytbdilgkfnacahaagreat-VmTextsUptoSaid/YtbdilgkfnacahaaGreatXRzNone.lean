/-
 Functions that answer no places are reckoned. By program.
-/
import Derived.Test.YtbdilgkfnacahaaGreatXView
import Derived.Test.YtbdilgkfnacahaaGreatXM2
import Derived.KernelRfl
set_option maxRecDepth 1000000
namespace Go.Proofs.YtbdilgkfnacahaaGreat
open Go.V
def oL:Option (D×St)→Bool
 |some (d,⟨[],_,_⟩)=>eo (.agg [.int .i64 (-1),.int .i64 (-1),.int .i64 (-1),.int .i64 (-1),.int .i64 (-1),.int .i64 (-1),.int .i64 (-1),.int .i64 (-1),.int .i64 (-1),.int .i64 (-1)]) d
 |_=>false
theorem kD {r:Option (D×St)} (h:oL r=true):∃st,r=some (.agg [.int .i64 (-1),.int .i64 (-1),.int .i64 (-1),.int .i64 (-1),.int .i64 (-1),.int .i64 (-1),.int .i64 (-1),.int .i64 (-1),.int .i64 (-1),.int .i64 (-1)],st)∧st.bs=[]:=by
 match r,h with
 |some (d,⟨[],a,b⟩),h=>exact⟨⟨[],a,b⟩,by rw[nU _ _ h],rfl⟩
theorem FK:oL (bD a8 100 57 [] ⟨[],0,0⟩)=true:=by kernel_rfl
theorem yL:eM Tryz.prog a8 57 (mZ (.agg [.int .i64 (-1),.int .i64 (-1),.int .i64 (-1),.int .i64 (-1),.int .i64 (-1),.int .i64 (-1),.int .i64 (-1),.int .i64 (-1),.int .i64 (-1),.int .i64 (-1)])):=by
 obtain⟨st,h1,h2⟩:=kD FK;exact oD kC h1 h2
theorem FL:oL (bD a8 100 30 [] ⟨[],0,0⟩)=true:=by kernel_rfl
theorem yM:eM Tryz.prog a8 30 (mZ (.agg [.int .i64 (-1),.int .i64 (-1),.int .i64 (-1),.int .i64 (-1),.int .i64 (-1),.int .i64 (-1),.int .i64 (-1),.int .i64 (-1),.int .i64 (-1),.int .i64 (-1)])):=by
 obtain⟨st,h1,h2⟩:=kD FL;exact oD kC h1 h2
end Go.Proofs.YtbdilgkfnacahaaGreat
