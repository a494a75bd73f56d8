/-
 Functions that answer no places are reckoned. By program.
-/
import Derived.Test.YtecjacicdpejaaaGreatXView
import Derived.Test.YtecjacicdpejaaaGreatXM2
import Derived.KernelRfl
set_option maxRecDepth 1000000
namespace Go.Proofs.YtecjacicdpejaaaGreat
open Go.V
def sv:Option (D×St)→Bool
 |some (d,⟨[],_,_⟩)=>fk (.agg [.int .i64 (-1),.int .i64 (-1),.int .i64 (-1),.int .i64 (-1),.int .i64 (-1),.int .i64 (-1),.int .i64 (-1),.int .i64 (-1),.int .i64 (-1),.int .i64 (-1)]) d
 |_=>false
theorem mG {r:Option (D×St)} (h:sv r=true):∃st,r=some (.agg [.int .i64 (-1),.int .i64 (-1),.int .i64 (-1),.int .i64 (-1),.int .i64 (-1),.int .i64 (-1),.int .i64 (-1),.int .i64 (-1),.int .i64 (-1),.int .i64 (-1)],st)∧st.bs=[]:=by
 match r,h with
 |some (d,⟨[],a,b⟩),h=>exact⟨⟨[],a,b⟩,by rw[re _ _ h],rfl⟩
theorem EF:sv (cz l5 100 193 [] ⟨[],0,0⟩)=true:=by kernel_rfl
theorem zA:fp Tryz.prog l5 193 (pB (.agg [.int .i64 (-1),.int .i64 (-1),.int .i64 (-1),.int .i64 (-1),.int .i64 (-1),.int .i64 (-1),.int .i64 (-1),.int .i64 (-1),.int .i64 (-1),.int .i64 (-1)])):=by
 obtain⟨st,h1,h2⟩:=mG EF;exact rX mD h1 h2
theorem EG:sv (cz l5 100 149 [] ⟨[],0,0⟩)=true:=by kernel_rfl
theorem zB:fp Tryz.prog l5 149 (pB (.agg [.int .i64 (-1),.int .i64 (-1),.int .i64 (-1),.int .i64 (-1),.int .i64 (-1),.int .i64 (-1),.int .i64 (-1),.int .i64 (-1),.int .i64 (-1),.int .i64 (-1)])):=by
 obtain⟨st,h1,h2⟩:=mG EG;exact rX mD h1 h2
end Go.Proofs.YtecjacicdpejaaaGreat
