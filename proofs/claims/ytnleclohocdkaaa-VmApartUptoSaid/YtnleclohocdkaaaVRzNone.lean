/-
 Functions that answer no places are reckoned. By program.
-/
import Derived.Test.YtnleclohocdkaaaVView
import Derived.Test.YtnleclohocdkaaaVM2
import Derived.KernelRfl
set_option maxRecDepth 1000000
namespace Go.Proofs.Ytnleclohocdkaaa
open Go.V
def qN:Option (D×St)→Bool
 |some (d,⟨[],_,_⟩)=>eG (.agg [.int .i64 (-1),.int .i64 (-1),.int .i64 (-1),.int .i64 (-1),.int .i64 (-1),.int .i64 (-1),.int .i64 (-1),.int .i64 (-1),.int .i64 (-1),.int .i64 (-1)]) d
 |_=>false
theorem lG {r:Option (D×St)} (h:qN r=true):∃st,r=some (.agg [.int .i64 (-1),.int .i64 (-1),.int .i64 (-1),.int .i64 (-1),.int .i64 (-1),.int .i64 (-1),.int .i64 (-1),.int .i64 (-1),.int .i64 (-1),.int .i64 (-1)],st)∧st.bs=[]:=by
 match r,h with
 |some (d,⟨[],a,b⟩),h=>exact⟨⟨[],a,b⟩,by rw[pj _ _ h],rfl⟩
theorem Fu:qN (br iZ 100 83 [] ⟨[],0,0⟩)=true:=by kernel_rfl
theorem Bk:fk Try.prog iZ 83 (ox (.agg [.int .i64 (-1),.int .i64 (-1),.int .i64 (-1),.int .i64 (-1),.int .i64 (-1),.int .i64 (-1),.int .i64 (-1),.int .i64 (-1),.int .i64 (-1),.int .i64 (-1)])):=by
 obtain⟨st,h1,h2⟩:=lG Fu;exact qk lE h1 h2
theorem Ft:qN (br iZ 100 93 [] ⟨[],0,0⟩)=true:=by kernel_rfl
theorem Bj:fk Try.prog iZ 93 (ox (.agg [.int .i64 (-1),.int .i64 (-1),.int .i64 (-1),.int .i64 (-1),.int .i64 (-1),.int .i64 (-1),.int .i64 (-1),.int .i64 (-1),.int .i64 (-1),.int .i64 (-1)])):=by
 obtain⟨st,h1,h2⟩:=lG Ft;exact qk lE h1 h2
end Go.Proofs.Ytnleclohocdkaaa
