/-
 The program's reader: numbers.
-/
import Derived.Test.YtecjacicdpejaaaGreatWGHr
import Derived.Test.YtecjacicdpejaaaGreatWGJp
import Derived.Test.YtecjacicdpejaaaGreatWGUo
import Derived.Test.YtecjacicdpejaaaGreatWGYv
import Derived.Test.YtecjacicdpejaaaGreatWGSg
set_option maxRecDepth 100000
set_option maxHeartbeats 4000000
set_option linter.unusedSimpArgs false
set_option linter.unusedVariables false
open List renaming length_cons→γ,length_nil→δ,length_append→ε,length_reverse→ζ,length_map→η,length_set→θ,foldl→μ,not_mem_nil→ξ,mem_map→ο,getElem?_eq_getElem→π,mem_cons→ρ,drop_eq_getElem_cons→Zn,map_cons→Zt,length_eq_zero_iff→Y',append_assoc→xw,getElem?_map→v8,drop_length→VQ,length_drop→VM,length_take→VT,append_nil→GB,foldl_cons→Bv,map_append→BY,drop_take→IN,foldl_nil→IS,map_take→IT,map_map→LL,drop→Pe
open Nat renaming reduceAdd→ι,le_of_ble_eq_true→κ,le_refl→ψ,mod_eq_of_lt→ω,pow_le_pow_right→Δ,shiftLeft_add_eq_or_of_lt→Wh,add_sub_cancel_left→YH,eq_zero_or_pos→ki,shiftLeft_eq→Cf,add_comm→P8,le_trans→PR,pow_succ→Pd
open Go.V.D renaming cells→ν,int→ZD
open Go.V.Ev renaming eN→ς
open BitVec renaming ofInt_natCast→τ,toNat_ofNat→φ,ofInt→Ω,toNat_or→wt
open Go.V.ab renaming e_→υ,nil→χ,go→Γ,bB→Φ,re→Ψ,two→YQ,gd→JS,gE→Cr,prt→OF,av→AT,bQ→AI,kW→bU
open Go.V.Fr renaming put→Θ,get→R2,ev→AN
open Option renaming map→Ξ,some→Q5,map_some→Ut
open Go.V renaming Rows→Z5,look→R3
namespace Go.Proofs.YtecjacicdpejaaaGreat
open Go.V Go
variable{N k:Nat}{S s0:St}{H:List bo}{x:D}{s:df}
variable{st:St}{b:List UInt8}
variable{l:List UInt8}
theorem En (l:List GT):∀e∈l.map dA,∀d∈e,dh d=true:=by
 intro e he d hd;obtain⟨q,_,rfl⟩:=ο.1 he;simp only[dA,ρ,ξ,or_false] at hd
 rcases hd with rfl|rfl|rfl|rfl|rfl|rfl|rfl|rfl|rfl|rfl|rfl<;>rfl
theorem S8 (l:List GT):∀e∈l.map dA,e.length=11:=by
 intro e he;obtain⟨q,_,rfl⟩:=ο.1 he;rfl
def qI (l:List GT):D:=.sl ((l.map dA).map (ml 11))
theorem QX (l:List GT):dg (qI l) 11 (l.map dA):=dg.frozen (S8 l) (En l)
theorem MT (L:List GV):∀e∈L.map eo,e.length=12:=by
 intro e he;obtain⟨q,_,rfl⟩:=ο.1 he;rfl
variable{L:List GV}
variable{m:Int}
def oL (L:List GV):D:=.sl ((L.map eo).map (ml 12))
end Go.Proofs.YtecjacicdpejaaaGreat
