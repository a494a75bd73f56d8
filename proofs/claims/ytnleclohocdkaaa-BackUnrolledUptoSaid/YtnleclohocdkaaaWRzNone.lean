/-
 Functions that answer no places are reckoned. By program.
-/
import Derived.Test.YtnleclohocdkaaaWView
import Derived.Test.YtnleclohocdkaaaWM2
import Derived.KernelRfl
set_option maxRecDepth 1000000
namespace Go.Proofs.Ytnleclohocdkaaa
open Go.V
def pV:Option (D×St)→Bool
 |some (d,⟨[],_,_⟩)=>eJ (.agg [.int .i64 (-1),.int .i64 (-1),.int .i64 (-1),.int .i64 (-1),.int .i64 (-1),.int .i64 (-1),.int .i64 (-1),.int .i64 (-1),.int .i64 (-1),.int .i64 (-1)]) d
 |_=>false
theorem lH {r:Option (D×St)} (h:pV r=true):∃st,r=some (.agg [.int .i64 (-1),.int .i64 (-1),.int .i64 (-1),.int .i64 (-1),.int .i64 (-1),.int .i64 (-1),.int .i64 (-1),.int .i64 (-1),.int .i64 (-1),.int .i64 (-1)],st)∧st.bs=[]:=by
 match r,h with
 |some (d,⟨[],a,b⟩),h=>exact⟨⟨[],a,b⟩,by rw[mO _ _ h],rfl⟩
theorem D8:pV (aZ eY 100 83 [] ⟨[],0,0⟩)=true:=by kernel_rfl
theorem AE:dg Try.prog eY 83 (jt (.agg [.int .i64 (-1),.int .i64 (-1),.int .i64 (-1),.int .i64 (-1),.int .i64 (-1),.int .i64 (-1),.int .i64 (-1),.int .i64 (-1),.int .i64 (-1),.int .i64 (-1)])):=by
 obtain⟨st,h1,h2⟩:=lH D8;exact jr iM h1 h2
theorem D7:pV (aZ eY 100 93 [] ⟨[],0,0⟩)=true:=by kernel_rfl
theorem AD:dg Try.prog eY 93 (jt (.agg [.int .i64 (-1),.int .i64 (-1),.int .i64 (-1),.int .i64 (-1),.int .i64 (-1),.int .i64 (-1),.int .i64 (-1),.int .i64 (-1),.int .i64 (-1),.int .i64 (-1)])):=by
 obtain⟨st,h1,h2⟩:=lH D7;exact jr iM h1 h2
end Go.Proofs.Ytnleclohocdkaaa
