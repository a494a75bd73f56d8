/-
 Functions that answer no places are reckoned. By program.
-/
import Derived.Test.YtnleclohocdkaaaGreatVView
import Derived.Test.YtnleclohocdkaaaGreatVM2
import Derived.KernelRfl
set_option maxRecDepth 1000000
namespace Go.Proofs.YtnleclohocdkaaaGreat
open Go.V
def pO:Option (D×St)→Bool
 |some (d,⟨[],_,_⟩)=>ej (.agg [.int .i64 (-1),.int .i64 (-1),.int .i64 (-1),.int .i64 (-1),.int .i64 (-1),.int .i64 (-1),.int .i64 (-1),.int .i64 (-1),.int .i64 (-1),.int .i64 (-1)]) d
 |_=>false
theorem kV {r:Option (D×St)} (h:pO r=true):∃st,r=some (.agg [.int .i64 (-1),.int .i64 (-1),.int .i64 (-1),.int .i64 (-1),.int .i64 (-1),.int .i64 (-1),.int .i64 (-1),.int .i64 (-1),.int .i64 (-1),.int .i64 (-1)],st)∧st.bs=[]:=by
 match r,h with
 |some (d,⟨[],a,b⟩),h=>exact⟨⟨[],a,b⟩,by rw[oS _ _ h],rfl⟩
theorem EK:pO (bd iu 100 71 [] ⟨[],0,0⟩)=true:=by kernel_rfl
theorem AU:eO Tryz.prog iu 71 (nV (.agg [.int .i64 (-1),.int .i64 (-1),.int .i64 (-1),.int .i64 (-1),.int .i64 (-1),.int .i64 (-1),.int .i64 (-1),.int .i64 (-1),.int .i64 (-1),.int .i64 (-1)])):=by
 obtain⟨st,h1,h2⟩:=kV EK;exact pC kT h1 h2
theorem EL:pO (bd iu 100 63 [] ⟨[],0,0⟩)=true:=by kernel_rfl
theorem AV:eO Tryz.prog iu 63 (nV (.agg [.int .i64 (-1),.int .i64 (-1),.int .i64 (-1),.int .i64 (-1),.int .i64 (-1),.int .i64 (-1),.int .i64 (-1),.int .i64 (-1),.int .i64 (-1),.int .i64 (-1)])):=by
 obtain⟨st,h1,h2⟩:=kV EL;exact pC kT h1 h2
end Go.Proofs.YtnleclohocdkaaaGreat
