/- own -/
import Derived.Test.YtopaaegigcfkeaaGreatTView
import Derived.Test.YtopaaegigcfkeaaGreatTM2
import Derived.Test.YtopaaegigcfkeaaGreatTGMlw
import Derived.Test.YtopaaegigcfkeaaGreatTRzAwake
import Derived.Test.YtopaaegigcfkeaaGreatTGM3
set_option maxRecDepth 100000
namespace Go.Proofs.YtopaaegigcfkeaaGreat
open Go.V
noncomputable def pv : Pv := pv0.over [(64,mailP),(15,memo0 (.bool true)),(47,fsetP),(74,delP)]
theorem view : pv.Ok Tryz.prog /\ pv.codes /\ CfOk Tryz.prog pv (primF pv) := by
 refine view_over view0 rfl fun q hq => ?_
 simp only [List.mem_cons,List.not_mem_nil,or_false] at hq
 rcases hq with rfl | rfl | rfl | rfl
 ·exact mailP_ok
 ·exact awake_ok
 ·exact fsetP_ok view0 (fun _ _ _ _ _ _ _ _ _ h1 h2 h3 => find0_ev h1 h2 h3) (by kernel_rfl)
 ·exact delP_ok (by kernel_rfl)
theorem fi3 : pv.fi 3 = some ⟨Tryz.f3,9, .ro,false,none, []⟩ := by kernel_rfl
theorem fi4 : pv.fi 4 = some ⟨Tryz.f4,2, .keep,false,none, []⟩ := by kernel_rfl
theorem fi5 : pv.fi 5 = some ⟨Tryz.f5,7, .ro,false,none, []⟩ := by kernel_rfl
theorem fi6 : pv.fi 6 = some ⟨Tryz.f6,24, .keep,false,none, []⟩ := by kernel_rfl
theorem fi7 : pv.fi 7 = some ⟨Tryz.f7,3, .ro,false,none, []⟩ := by kernel_rfl
theorem fi8 : pv.fi 8 = some ⟨Tryz.f8,3, .ro,false,none, []⟩ := by kernel_rfl
theorem fi9 : pv.fi 9 = some ⟨Tryz.f9,3, .ro,false,none, []⟩ := by kernel_rfl
theorem fi10 : pv.fi 10 = some ⟨Tryz.f10,6, .ro,false,none, []⟩ := by kernel_rfl
theorem fi11 : pv.fi 11 = some ⟨Tryz.f11,6, .ro,false,none, []⟩ := by kernel_rfl
theorem fi12 : pv.fi 12 = some ⟨Tryz.f12,14, .ro,false,none, []⟩ := by kernel_rfl
theorem fi13 : pv.fi 13 = some ⟨Tryz.f13,3, .keep,false,none, []⟩ := by kernel_rfl
theorem fi14 : pv.fi 14 = some ⟨Tryz.f14,14, .ro,false,none, []⟩ := by kernel_rfl
theorem fi16 : pv.fi 16 = some ⟨Tryz.f16,1, .keep,false,none, []⟩ := by kernel_rfl
theorem fi17 : pv.fi 17 = some ⟨Tryz.f17,1, .keep,false,none, []⟩ := by kernel_rfl
theorem fi18 : pv.fi 18 = some ⟨Tryz.f18,5, .keep,false,none, []⟩ := by kernel_rfl
theorem fi19 : pv.fi 19 = some ⟨Tryz.f19,3, .ro,false,none, []⟩ := by kernel_rfl
theorem fi21 : pv.fi 21 = some ⟨Tryz.f21,1, .keep,false,none, []⟩ := by kernel_rfl
theorem fi22 : pv.fi 22 = some ⟨Tryz.f22,10, .keep,false,none, []⟩ := by kernel_rfl
theorem fi23 : pv.fi 23 = some ⟨Tryz.f23,9, .keep,false,none, []⟩ := by kernel_rfl
theorem fi24 : pv.fi 24 = some ⟨Tryz.f24,10, .keep,false,none, []⟩ := by kernel_rfl
theorem fi25 : pv.fi 25 = some ⟨Tryz.f25,9, .keep,false,none, []⟩ := by kernel_rfl
theorem fi26 : pv.fi 26 = some ⟨Tryz.f26,6, .keep,false,none, []⟩ := by kernel_rfl
theorem fi27 : pv.fi 27 = some ⟨Tryz.f27,15, .keep,false,none, []⟩ := by kernel_rfl
theorem fi28 : pv.fi 28 = some ⟨Tryz.f28,9, .ro,true,none, []⟩ := by kernel_rfl
theorem fi29 : pv.fi 29 = some ⟨Tryz.f29,9, .ro,true,none, []⟩ := by kernel_rfl
theorem fi30 : pv.fi 30 = some ⟨Tryz.f30,3, .ro,true,none, []⟩ := by kernel_rfl
theorem fi32 : pv.fi 32 = some ⟨Tryz.f32,14, .ro,false,none, []⟩ := by kernel_rfl
theorem fi36 : pv.fi 36 = some ⟨Tryz.f36,1, .keep,false,none, []⟩ := by kernel_rfl
theorem fi37 : pv.fi 37 = some ⟨Tryz.f37,1, .keep,false,none, []⟩ := by kernel_rfl
theorem fi38 : pv.fi 38 = some ⟨Tryz.f38,1, .keep,false,none, []⟩ := by kernel_rfl
theorem fi39 : pv.fi 39 = some ⟨Tryz.f39,14, .keep,false,none, []⟩ := by kernel_rfl
theorem fi40 : pv.fi 40 = some ⟨Tryz.f40,3, .ro,false,none, []⟩ := by kernel_rfl
theorem fi42 : pv.fi 42 = some ⟨Tryz.f42,12, .keep,false,none, []⟩ := by kernel_rfl
theorem fi43 : pv.fi 43 = some ⟨Tryz.f43,15, .ro,false,none, []⟩ := by kernel_rfl
theorem fi44 : pv.fi 44 = some ⟨Tryz.f44,16, .ro,true,none, []⟩ := by kernel_rfl
theorem fi45 : pv.fi 45 = some ⟨Tryz.f45,3, .ro,true,none, []⟩ := by kernel_rfl
theorem fi46 : pv.fi 46 = some ⟨Tryz.f46,9, .ro,true,none, []⟩ := by kernel_rfl
theorem fi48 : pv.fi 48 = some ⟨Tryz.f48,7, .keep,false,none, []⟩ := by kernel_rfl
theorem fi49 : pv.fi 49 = some ⟨Tryz.f49,53, .keep,false,none, []⟩ := by kernel_rfl
theorem fi51 : pv.fi 51 = some ⟨Tryz.f51,5, .ro,false,none, []⟩ := by kernel_rfl
theorem fi52 : pv.fi 52 = some ⟨Tryz.f52,9, .ro,true,none, []⟩ := by kernel_rfl
theorem fi53 : pv.fi 53 = some ⟨Tryz.f53,9, .ro,true,none, []⟩ := by kernel_rfl
theorem fi54 : pv.fi 54 = some ⟨Tryz.f54,3, .ro,true,none, []⟩ := by kernel_rfl
theorem fi61 : pv.fi 61 = some ⟨Tryz.f61,13, .keep,false,none, []⟩ := by kernel_rfl
theorem fi62 : pv.fi 62 = some ⟨Tryz.f62,15, .keep,false,none, []⟩ := by kernel_rfl
theorem fi63 : pv.fi 63 = some ⟨Tryz.f63,1, .keep,false,none, []⟩ := by kernel_rfl
theorem fi65 : pv.fi 65 = some ⟨Tryz.f65,6, .ro,false,none, []⟩ := by kernel_rfl
theorem fi67 : pv.fi 67 = some ⟨Tryz.f67,7, .keep,false,none, []⟩ := by kernel_rfl
theorem fi68 : pv.fi 68 = some ⟨Tryz.f68,9, .ro,true,none, []⟩ := by kernel_rfl
theorem fi71 : pv.fi 71 = some ⟨Tryz.f71,8, .ro,true,none, []⟩ := by kernel_rfl
theorem fi72 : pv.fi 72 = some ⟨Tryz.f72,9, .ro,true,none, []⟩ := by kernel_rfl
theorem fi88 : pv.fi 88 = some ⟨Tryz.f88,5, .ro,false,none, []⟩ := by kernel_rfl
theorem fi99 : pv.fi 99 = some ⟨Tryz.f99,8, .ro,false,none, []⟩ := by kernel_rfl
theorem fi100 : pv.fi 100 = some ⟨Tryz.f100,10, .ro,false,none, []⟩ := by kernel_rfl
theorem fi106 : pv.fi 106 = some ⟨Tryz.f106,1, .keep,false,none, []⟩ := by kernel_rfl
theorem fi109 : pv.fi 109 = some ⟨Tryz.f109,9, .ro,true,none, []⟩ := by kernel_rfl
theorem fi114 : pv.fi 114 = some ⟨Tryz.f114,9, .ro,true,none, []⟩ := by kernel_rfl
theorem fi167 : pv.fi 167 = some ⟨Tryz.f167,9, .ro,true,none, []⟩ := by kernel_rfl
end Go.Proofs.YtopaaegigcfkeaaGreat
