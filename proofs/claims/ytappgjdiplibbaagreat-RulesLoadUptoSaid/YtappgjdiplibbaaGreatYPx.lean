/-
 The view with what was reckoned once laid over it. By program.
-/
import Derived.Test.YtappgjdiplibbaaGreatYView
import Derived.Test.YtappgjdiplibbaaGreatYM2
import Derived.Test.YtappgjdiplibbaaGreatYRzRulesRuns
import Derived.Test.YtappgjdiplibbaaGreatYDgp
import Derived.Test.YtappgjdiplibbaaGreatYSrp
import Derived.Test.YtappgjdiplibbaaGreatYSrf
set_option maxRecDepth 100000
set_option linter.all false
namespace Go.Proofs.YtappgjdiplibbaaGreat
open Go.V
noncomputable def pv:Pv:=dE.over [(7,tR (.bool true)),(139,xM),(144,xw),(40,oZ)]
def view:pv.Ok Tryz.prog/\pv.fu/\gh Tryz.prog pv (dj pv):=by
 refine oe jS rfl λq hq=>?_;simp only[List.mem_cons,List.not_mem_nil,or_false] at hq
 rcases hq with rfl|rfl|rfl|rfl
 .exact mq
 .exact Bo (by kernel_rfl)
 .exact Ab jS (by kernel_rfl)
 .exact vm jS (λ_ _ _ _ _ _ _ _ _ h1 X h3=>wW h1 X h3) (by kernel_rfl)
def fz (n:Nat) (hb:Func) (k:Nat) (m:V.Mode) (y:List (Nat×List (Nat×Nat)):=[]) (h:pv.fi n=some ⟨hb,k,m,false,none,y⟩:=by kernel_rfl):pv.fi n=some ⟨hb,k,m,false,none,y⟩:=h
def fi3:=fz 3 Tryz.f3 13 .ro [(2,[(1,5)])]
def fi4:=fz 4 Tryz.f4 3 .ro
def fi5:=fz 5 Tryz.f5 11 .bW
def fi6:=fz 6 Tryz.f6 21 .bW
def fi8:=fz 8 Tryz.f8 4 .ro [(1,[(9,11)])]
def fi9:=fz 9 Tryz.f9 5 .ro
def acK:=fz 10 Tryz.f10 3 .ro
def acJ:=fz 11 Tryz.f11 8 .ro [(6,[(6,12),(8,12),(9,12)])]
def acI:=fz 12 Tryz.f12 3 .ro
def acH:=fz 13 Tryz.f13 3 .ro
def acG:=fz 14 Tryz.f14 4 .ro
def acF:=fz 15 Tryz.f15 4 .ro
def acE:=fz 16 Tryz.f16 18 .bW
def acD:=fz 17 Tryz.f17 3 .ro
def acC:=fz 18 Tryz.f18 24 .ro
def acB:=fz 19 Tryz.f19 18 .ro
def acA:=fz 20 Tryz.f20 4 .ro
def acz:=fz 21 Tryz.f21 5 .ro
def acy:=fz 22 Tryz.f22 10 .ro
def acv:=fz 29 Tryz.f29 14 .ro
def acu:=fz 30 Tryz.f30 6 .ro
def acs:=fz 31 Tryz.f31 6 .ro
def W8:=fz 32 Tryz.f32 6 .ro
def acr:=fz 33 Tryz.f33 5 .ro
def acq:=fz 34 Tryz.f34 9 .ro
def acp:=fz 35 Tryz.f35 22 .ro
def aco:=fz 36 Tryz.f36 6 .ro
def acn:=fz 37 Tryz.f37 8 .ro
def acm:=fz 38 Tryz.f38 1 .bW
def ack:=fz 39 Tryz.f39 16 .ro
def acj:=fz 41 Tryz.f41 6 .ro
def aci:=fz 42 Tryz.f42 4 .rw
def ach:=fz 43 Tryz.f43 7 .rw
def acg:=fz 44 Tryz.f44 4 .ro
def acf:=fz 45 Tryz.f45 36 .rw
def ace:=fz 46 Tryz.f46 16 .rw
def acd:=fz 47 Tryz.f47 5 .bW
def acb:=fz 48 Tryz.f48 40 .bW
def aca:=fz 49 Tryz.f49 16 .ro
def ab9:=fz 50 Tryz.f50 28 .ro
def ab8:=fz 51 Tryz.f51 23 .ro
def ab7:=fz 52 Tryz.f52 5 .ro
def ab6:=fz 53 Tryz.f53 6 .rw
def ab5:=fz 54 Tryz.f54 3 .rw
def ab4:=fz 55 Tryz.f55 3 .rw
def ab3:=fz 56 Tryz.f56 5 .ro
def ab2:=fz 58 Tryz.f58 5 .ro
def ab1:=fz 59 Tryz.f59 24 .bW [(4,[(1,8)])]
def ab0:=fz 60 Tryz.f60 5 .bW
def abZ:=fz 61 Tryz.f61 12 .bW
def abY:=fz 63 Tryz.f63 17 .ro
def abX:=fz 64 Tryz.f64 5 .ro
def abW:=fz 65 Tryz.f65 6 .ro
def abV:=fz 66 Tryz.f66 9 .nw
def abU:=fz 67 Tryz.f67 5 .ro
def abT:=fz 70 Tryz.f70 9 .ro
def abS:=fz 71 Tryz.f71 4 .rw
def abR:=fz 72 Tryz.f72 5 .rw
def abQ:=fz 73 Tryz.f73 27 .ro
def W7:=fz 74 Tryz.f74 8 .rw
def abP:=fz 75 Tryz.f75 68 .bW
def abO:=fz 76 Tryz.f76 78 .bW
def abN:=fz 77 Tryz.f77 4 .ro
def abM:=fz 78 Tryz.f78 5 .ro
def abL:=fz 79 Tryz.f79 4 .ro
def abK:=fz 80 Tryz.f80 24 .ro
def abJ:=fz 81 Tryz.f81 6 .rw
def abI:=fz 82 Tryz.f82 5 .rw
def abH:=fz 83 Tryz.f83 7 .ro
def abG:=fz 84 Tryz.f84 5 .ro
def abF:=fz 85 Tryz.f85 19 .bW
def abE:=fz 86 Tryz.f86 6 .bW
def abD:=fz 87 Tryz.f87 4 .bW
def abC:=fz 88 Tryz.f88 8 .bW
def abB:=fz 89 Tryz.f89 12 .bW
def abA:=fz 90 Tryz.f90 9 .nw
def abz:=fz 91 Tryz.f91 6 .nw
def aby:=fz 94 Tryz.f94 5 .ro
def abx:=fz 95 Tryz.f95 5 .rw
def abw:=fz 96 Tryz.f96 5 .rw
def abv:=fz 97 Tryz.f97 11 .ro
def abu:=fz 98 Tryz.f98 4 .rw
def abt:=fz 99 Tryz.f99 11 .bW
def X6:=fz 100 Tryz.f100 8 .rw
def X5:=fz 101 Tryz.f101 3 .ro
def X4:=fz 102 Tryz.f102 7 .ro
def X3:=fz 103 Tryz.f103 11 .ro [(7,[(6,9)])]
def X2:=fz 104 Tryz.f104 9 .ro
def X1:=fz 105 Tryz.f105 3 .ro
def X0:=fz 106 Tryz.f106 3 .ro
def XZ:=fz 107 Tryz.f107 6 .ro
def XY:=fz 108 Tryz.f108 39 .rw
def QJ:=fz 109 Tryz.f109 30 .ro [(22,[(3,7),(5,7),(5,9)])]
def XX:=fz 110 Tryz.f110 6 .bW [(7,[(11,14),(11,17)])]
def XW:=fz 111 Tryz.f111 7 .bW
def XV:=fz 112 Tryz.f112 4 .ro
def XU:=fz 113 Tryz.f113 7 .ro
def XT:=fz 114 Tryz.f114 4 .rw
def XS:=fz 116 Tryz.f116 26 .rw
def XR:=fz 117 Tryz.f117 14 .rw
def XQ:=fz 118 Tryz.f118 4 .ro
def XP:=fz 119 Tryz.f119 3 .ro
def XO:=fz 120 Tryz.f120 9 .ro
def XN:=fz 121 Tryz.f121 26 .ro
def XM:=fz 122 Tryz.f122 5 .ro
def XL:=fz 123 Tryz.f123 4 .ro
def XK:=fz 124 Tryz.f124 7 .ro [(1,[(3,6)])]
def XJ:=fz 125 Tryz.f125 3 .ro
def XI:=fz 126 Tryz.f126 6 .ro
def XH:=fz 127 Tryz.f127 27 .rw
def XG:=fz 128 Tryz.f128 15 .rw
def XF:=fz 129 Tryz.f129 5 .ro
def XE:=fz 130 Tryz.f130 6 .ro
def XD:=fz 131 Tryz.f131 9 .ro
def XC:=fz 133 Tryz.f133 5 .rw
def XB:=fz 134 Tryz.f134 7 .rw
def XA:=fz 135 Tryz.f135 7 .rw
def Xz:pv.fi 136=some ⟨Tryz.f136,61,.rw,true,none,[]⟩:=by kernel_rfl
def Xy:=fz 137 Tryz.f137 1 .ro
def Xx:=fz 138 Tryz.f138 3 .ro
def Xw:=fz 140 Tryz.f140 5 .ro
def Xv:=fz 141 Tryz.f141 12 .ro
def Xu:=fz 142 Tryz.f142 14 .ro
def Xt:=fz 143 Tryz.f143 20 .ro
def Xs:=fz 146 Tryz.f146 18 .ro
def Xr:=fz 147 Tryz.f147 11 .rw
def Xq:=fz 148 Tryz.f148 3 .bW
def Xp:=fz 149 Tryz.f149 11 .rw
def Xo:=fz 150 Tryz.f150 6 .ro
def Xn:=fz 151 Tryz.f151 43 .rw
def Xl:=fz 152 Tryz.f152 6 .rw
def Xk:=fz 153 Tryz.f153 5 .ro
def Xj:=fz 154 Tryz.f154 6 .ro
def Xi:=fz 155 Tryz.f155 7 .ro
def Xh:=fz 156 Tryz.f156 6 .ro
def Xg:=fz 157 Tryz.f157 7 .bW
def Xf:=fz 158 Tryz.f158 8 .rw
def Xe:=fz 159 Tryz.f159 11 .ro
def Xd:=fz 160 Tryz.f160 3 .ro
def Xc:=fz 166 Tryz.f166 2 .rw
def Xb:=fz 167 Tryz.f167 26 .rw
def Xa:=fz 168 Tryz.f168 3 .ro
def W_:=fz 169 Tryz.f169 3 .ro
def W9:pv.fi 170=some ⟨Tryz.f170,29,.rw,true,none,[]⟩:=by kernel_rfl
end Go.Proofs.YtappgjdiplibbaaGreat
