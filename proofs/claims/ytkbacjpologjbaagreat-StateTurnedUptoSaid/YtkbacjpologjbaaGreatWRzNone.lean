/-
 Functions that answer no places are reckoned. By program.
-/
import Derived.Test.YtkbacjpologjbaaGreatWView
import Derived.Test.YtkbacjpologjbaaGreatWM2
import Derived.KernelRfl
set_option maxRecDepth 1000000
namespace Go.Proofs.YtkbacjpologjbaaGreat
open Go.V
def vi:Option (D×St)→Bool
 |some (d,⟨[],_,_⟩)=>gq (.agg [.int .i64 (-1),.int .i64 (-1),.int .i64 (-1),.int .i64 (-1),.int .i64 (-1),.int .i64 (-1),.int .i64 (-1),.int .i64 (-1),.int .i64 (-1),.int .i64 (-1)]) d
 |_=>false
theorem oz {r:Option (D×St)} (h:vi r=true):∃st,r=some (.agg [.int .i64 (-1),.int .i64 (-1),.int .i64 (-1),.int .i64 (-1),.int .i64 (-1),.int .i64 (-1),.int .i64 (-1),.int .i64 (-1),.int .i64 (-1),.int .i64 (-1)],st)∧st.bs=[]:=by
 match r,h with
 |some (d,⟨[],a,b⟩),h=>exact⟨⟨[],a,b⟩,by rw[tW _ _ h],rfl⟩
theorem K':vi (cQ nQ 100 95 [] ⟨[],0,0⟩)=true:=by kernel_rfl
theorem FY:gr Tryz.prog nQ 95 (sU (.agg [.int .i64 (-1),.int .i64 (-1),.int .i64 (-1),.int .i64 (-1),.int .i64 (-1),.int .i64 (-1),.int .i64 (-1),.int .i64 (-1),.int .i64 (-1),.int .i64 (-1)])):=by
 obtain⟨st,h1,h2⟩:=oz K';exact uY ov h1 h2
theorem H8:vi (cQ nQ 100 107 [] ⟨[],0,0⟩)=true:=by kernel_rfl
theorem CI:gr Tryz.prog nQ 107 (sU (.agg [.int .i64 (-1),.int .i64 (-1),.int .i64 (-1),.int .i64 (-1),.int .i64 (-1),.int .i64 (-1),.int .i64 (-1),.int .i64 (-1),.int .i64 (-1),.int .i64 (-1)])):=by
 obtain⟨st,h1,h2⟩:=oz H8;exact uY ov h1 h2
end Go.Proofs.YtkbacjpologjbaaGreat
