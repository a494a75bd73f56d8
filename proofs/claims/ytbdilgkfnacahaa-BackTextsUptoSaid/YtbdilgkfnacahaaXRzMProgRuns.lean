/-
 What ProgRuns asks of some functions is reckoned, one call a theorem. By program.
-/
import Derived.Test.YtbdilgkfnacahaaXView
import Derived.Test.YtbdilgkfnacahaaXM2
import Derived.Test.YtbdilgkfnacahaaXDgp
import Derived.KernelRfl
set_option maxRecDepth 1000000
namespace Go.Proofs.Ytbdilgkfnacahaa.progRuns
open Go.V Go
def Rc (d:D):Option (D×St)→Bool
 |some (e,⟨[],_,_⟩)=>ey e d
 |_=>false
theorem zA {d:D} {r:Option (D×St)} (h:Rc d r=true):∃st,r=some (d,st)∧st.bs=[]:=by
 match r,h with
 |some (e,⟨[],a,b⟩),h=>exact⟨⟨[],a,b⟩,by rw[rX e d h],rfl⟩
theorem e_.of {pv uW:Pv} {P:Program} {f:Nat} {p:List D→St→Option (D×St)} (h:e_ P uW f p) (fg:iu uW f=iu pv f):e_ P pv f p:=
 ⟨h.fn,fun ds st d ai hp w β Z us h1 h2 h3=>by rw[←fg];exact h.calls ds st d ai hp w β Z us h1 h2 h3,fun ds st d ai hp hr=>h.ro ds st d ai hp (by rw[fg];exact hr),h.len⟩
noncomputable def J8:Pv:=bf.over [(106,vM)]
theorem Kv:J8.Ok Try.prog∧J8.gE∧f' Try.prog J8 (dK J8):=by
 refine lW mI rfl fun q hq=>?_;simp only[List.mem_cons,List.not_mem_nil,or_false] at hq;subst hq
 ·exact xg (by kernel_rfl)
end Go.Proofs.Ytbdilgkfnacahaa.progRuns
