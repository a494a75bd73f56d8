/-
 What ProgRuns asks of some functions is reckoned, one call a theorem. By program.
-/
import Derived.Test.YtajblankjjmonaaGreatWView
import Derived.Test.YtajblankjjmonaaGreatWM2
import Derived.Test.YtajblankjjmonaaGreatWDgp
import Derived.KernelRfl
set_option maxRecDepth 1000000
namespace Go.Proofs.YtajblankjjmonaaGreat.progRuns
open Go.V Go
def Oe (d:D):Option (D×St)→Bool
 |some (e,⟨[],_,_⟩)=>eK e d
 |_=>false
theorem B' {d:D} {r:Option (D×St)} (h:Oe d r=true):∃st,r=some (d,st)∧st.bs=[]:=by
 match r,h with
 |some (e,⟨[],a,b⟩),h=>exact⟨⟨[],a,b⟩,by rw[zo e d h],rfl⟩
theorem je.of {pv wZ:Pv} {P:Program} {f:Nat} {p:List D→St→Option (D×St)} (h:je P wZ f p) (ft:iA wZ f=iA pv f):je P pv f p:=
 ⟨h.fn,fun ds st d ae hp w β Z us h1 h2 h3=>by rw[←ft];exact h.calls ds st d ae hp w β Z us h1 h2 h3,fun ds st d ae hp hr=>h.ro ds st d ae hp (by rw[ft];exact hr),h.len⟩
noncomputable def G2:Pv:=zO.over [(91,xK)]
theorem Hp:G2.Ok Tryz.prog∧G2.jm∧gO Tryz.prog G2 (eF G2):=by
 refine rk A5 rfl fun q hq=>?_;simp only[List.mem_cons,List.not_mem_nil,or_false] at hq;subst hq
 ·exact zg (by kernel_rfl)
end Go.Proofs.YtajblankjjmonaaGreat.progRuns
