/- own -/
import Derived.Test.YtnleclohocdkaaaPView
import Derived.Test.YtnleclohocdkaaaPM2
import Derived.Test.YtnleclohocdkaaaPDgp
import Derived.KernelRfl
set_option maxRecDepth 1000000
namespace Go.Proofs.Ytnleclohocdkaaa.progRuns
open Go.V Go
def isD (d : D) : Option (D × St) -> Bool
 | some (e,⟨[],_,_⟩) => beqD e d
 | _ => false
theorem isD_some {d : D} {r : Option (D × St)} (h : isD d r = true) : ∃ st,r = some (d,st) /\ st.bs = [] := by
 match r,h with
 | some (e,⟨[],a,b⟩),h => exact ⟨⟨[],a,b⟩,by rw [beqD_eq e d h],rfl⟩
theorem PrimOk.of {pv pv' : Pv} {P : Program} {f : Nat} {p : List D -> St -> Option (D × St)} (h : PrimOk P pv' f p) (hro : isRo pv' f = isRo pv f) : PrimOk P pv f p :=
 ⟨h.fn,fun ds st d st' hp w β Z us h1 h2 h3 => by rw [<- hro]; exact h.calls ds st d st' hp w β Z us h1 h2 h3,fun ds st d st' hp hr => h.ro ds st d st' hp (by rw [hro]; exact hr),h.len⟩
noncomputable def pvM : Pv := pv0.over [(126,digP)]
theorem viewM : pvM.Ok Try.prog /\ pvM.codes /\ CfOk Try.prog pvM (primF pvM) := by
 refine view_over view0 rfl fun q hq => ?_
 simp only [List.mem_cons,List.not_mem_nil,or_false] at hq
 subst hq
 ·exact digP_ok (by kernel_rfl)
end Go.Proofs.Ytnleclohocdkaaa.progRuns
