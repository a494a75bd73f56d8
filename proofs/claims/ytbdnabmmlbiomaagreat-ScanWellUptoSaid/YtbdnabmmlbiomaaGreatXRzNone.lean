/-
 Functions that answer no places are reckoned. By program.
-/
import Derived.Test.YtbdnabmmlbiomaaGreatXView
import Derived.Test.YtbdnabmmlbiomaaGreatXM2
import Derived.KernelRfl
set_option maxRecDepth 1000000
namespace Go.Proofs.YtbdnabmmlbiomaaGreat
open Go.V
def nQ:Option (D×St)→Bool
 |some (d,⟨[],_,_⟩)=>fH (.agg [.int .i64 (-1),.int .i64 (-1),.int .i64 (-1),.int .i64 (-1),.int .i64 (-1),.int .i64 (-1),.int .i64 (-1),.int .i64 (-1),.int .i64 (-1),.int .i64 (-1)]) d
 |_=>false
theorem jG {r:Option (D×St)} (h:nQ r=true):∃st,r=some (.agg [.int .i64 (-1),.int .i64 (-1),.int .i64 (-1),.int .i64 (-1),.int .i64 (-1),.int .i64 (-1),.int .i64 (-1),.int .i64 (-1),.int .i64 (-1),.int .i64 (-1)],st)∧st.bs=[]:=by
 match r,h with
 |some (d,⟨[],a,b⟩),h=>exact⟨⟨[],a,b⟩,by rw[re _ _ h],rfl⟩
theorem Ek:nQ (c9 a_ 100 118 [] ⟨[],0,0⟩)=true:=by kernel_rfl
theorem zx:gf Tryz.prog a_ 118 (mE (.agg [.int .i64 (-1),.int .i64 (-1),.int .i64 (-1),.int .i64 (-1),.int .i64 (-1),.int .i64 (-1),.int .i64 (-1),.int .i64 (-1),.int .i64 (-1),.int .i64 (-1)])):=by
 obtain⟨st,h1,h2⟩:=jG Ek;exact nJ mD h1 h2
theorem LU:nQ (c9 a_ 100 67 [] ⟨[],0,0⟩)=true:=by kernel_rfl
theorem Ch:gf Tryz.prog a_ 67 (mE (.agg [.int .i64 (-1),.int .i64 (-1),.int .i64 (-1),.int .i64 (-1),.int .i64 (-1),.int .i64 (-1),.int .i64 (-1),.int .i64 (-1),.int .i64 (-1),.int .i64 (-1)])):=by
 obtain⟨st,h1,h2⟩:=jG LU;exact nJ mD h1 h2
theorem LV:nQ (c9 a_ 100 59 [] ⟨[],0,0⟩)=true:=by kernel_rfl
theorem Ci:gf Tryz.prog a_ 59 (mE (.agg [.int .i64 (-1),.int .i64 (-1),.int .i64 (-1),.int .i64 (-1),.int .i64 (-1),.int .i64 (-1),.int .i64 (-1),.int .i64 (-1),.int .i64 (-1),.int .i64 (-1)])):=by
 obtain⟨st,h1,h2⟩:=jG LV;exact nJ mD h1 h2
end Go.Proofs.YtbdnabmmlbiomaaGreat
