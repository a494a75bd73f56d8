/- own -/
import Derived.Shelf.Strings.Shaped
import Derived.Ground.NamesProg
import Derived.Test.YtapfahlbkhgdpaaProg
import Derived.Test.YtapfahlbkhgdpaaTView
import Derived.Test.YtapfahlbkhgdpaaTM2
import Derived.KernelRfl
set_option linter.unusedSimpArgs false
set_option linter.unusedVariables false
namespace Go.Proofs
open Go.Shelf
def Ytapfahlbkhgdpaa.idxL_ren : Go.Shelf.Ren := ⟨fun | 143 => 7 | 219 => 14 | 217 => 29 | 225 => 30 | 224 => 31 | 267 => 32 | 266 => 42 | 314 => 43 | n => n,fun | 9 => 9 | 3 => 3 | 4 => 4 | 5 => 5 | 46 => 83 | 146 => 97 | 51 => 96 | n => n,fun | 1 => 0 | n => n⟩
theorem Ytapfahlbkhgdpaa.idxL : Go.Proofs.LaysM.n143 Try.prog Ytapfahlbkhgdpaa.idxL_ren := {
 mixed := by kernel_rfl
 f143 := Try.func7.trans (congrArg some (by kernel_rfl))
 f217 := Try.func29.trans (congrArg some (by kernel_rfl))
 f219 := Try.func14.trans (congrArg some (by kernel_rfl))
 f224 := Try.func31.trans (congrArg some (by kernel_rfl))
 f225 := Try.func30.trans (congrArg some (by kernel_rfl))
 f266 := Try.func42.trans (congrArg some (by kernel_rfl))
 f267 := Try.func32.trans (congrArg some (by kernel_rfl))
 f314 := Try.func43.trans (congrArg some (by kernel_rfl))
 t3 := Try.underlying3
 a3 := Try.isAgg3
 z3 := Try.sizeOf3
 v3 := Try.zeroValue3
 t4 := Try.underlying4
 a4 := Try.isAgg4
 z4 := Try.sizeOf4
 v4 := Try.zeroValue4
 t5 := Try.underlying5
 a5 := Try.isAgg5
 z5 := Try.sizeOf5
 v5 := Try.zeroValue5
 t9 := Try.underlying9
 a9 := Try.isAgg9
 z9 := Try.sizeOf9
 v9 := Try.zeroValue9
 t46 := Try.underlying83
 a46 := Try.isAgg83
 z46 := Try.sizeOf83
 v46 := Try.zeroValue83
 t51 := Try.underlying96
 a51 := Try.isAgg96
 z51 := Try.sizeOf96
 v51 := Try.zeroValue96
 t146 := Try.underlying97
 a146 := Try.isAgg97
 z146 := Try.sizeOf97
 v146 := Try.zeroValue97
 g1 := by kernel_rfl
 i3 := by kernel_rfl
 i4 := by kernel_rfl
 i5 := by kernel_rfl
 i9 := by kernel_rfl
 i46 := by kernel_rfl
 i51 := by kernel_rfl
 i146 := by kernel_rfl
 m1 := by kernel_rfl
 s1_3 := fun w h => Go.Proofs.cell_of_shapedOpen_int (zero := #[.int .i64 0]) (t := 3) h (of_decide_eq_true (by kernel_rfl)) (by kernel_rfl) rfl (by kernel_rfl) (by kernel_rfl) Try.underlying3 }
end Go.Proofs
namespace Go.Proofs.Ytapfahlbkhgdpaa
open Go.V Go Go.RowKit
def sidxP : List D -> St -> Option (D × St)
 | [.str s, .str t],st => if s.length < 4294967281 then some (.int .i64 (Lib.index s t),st) else none
 | _,_ => none
theorem sidxP_some {ds : List D} {st : St} {r : D × St} (h : sidxP ds st = some r) : ∃ s t,ds = [.str s, .str t] /\ s.length < 4294967281 /\ r = (.int .i64 (Lib.index s t),st) := by
 unfold sidxP at h
 split at h
 ·split at h
  ·cases h; exact ⟨_,_,rfl,by assumption,rfl⟩
  ·cases h
 ·cases h
theorem sidxP_ok {pv : Pv} : PrimOk Try.prog pv 7 sidxP := by
 refine ⟨fun ds st r hp => ⟨Try.f7,_,Try.func7,rfl,by decide⟩,fun ds st d st' hp w β Z us hsim hle ha => ?_,fun ds st d st' hp _ => ?_,fun ds st d st' hp => ?_⟩
 ·obtain ⟨s,t,rfl,hs,hr⟩ := sidxP_some hp
  cases hr
  obtain ⟨u,v,rfl⟩ : ∃ u v,us = [u,v] := by
   match us,hle with
   | [u,v],_ => exact ⟨u,v,rfl⟩
  have h0 := vr_str (ha 0 _ u rfl rfl)
  have h1 := vr_str (ha 1 _ v rfl rfl)
  subst h0 h1
  obtain ⟨m,hm⟩ := (hsim.gl 0 (by decide)).2
  refine (Any.strings_Index { Ytapfahlbkhgdpaa.idxL with } ⟨s.toArray⟩ ⟨t.toArray⟩ m w (by show s.toArray.size < 4294967281; rw [List.size_toArray]; exact hs) hm).mono fun e w' ⟨he,hw⟩ => ?_
  subst hw
  exact ⟨_,β,Z,he,Nx.same hsim, .im _ _ (.int _ _),fun _ b _ => rfl⟩
 ·obtain ⟨s,t,rfl,_,hr⟩ := sidxP_some hp
  cases hr; exact Adds.rfl _
 ·obtain ⟨s,t,rfl,_,hr⟩ := sidxP_some hp
  cases hr; exact Goes.refl _
end Go.Proofs.Ytapfahlbkhgdpaa
