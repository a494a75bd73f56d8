/-
 Functions that write what was there before, and forget what they made: entering, leaving. Lists that grow, and where they lie.
-/
import Derived.Test.YtbdnabmmlbiomaaXM2
import Derived.Test.YtbdnabmmlbiomaaChecked
import Derived.Test.YtbdnabmmlbiomaaXM4
set_option linter.unusedSimpArgs false
set_option linter.unusedVariables false
set_option linter.unusedSectionVars false
set_option maxRecDepth 100000
namespace Go.V
variable{N:Nat} {S st:St} {H:List bC}
theorem Has.cn {s0:St} (h:Has N S s0 H):Has N (ai .rw s0) (ai .rw s0) H:=
 ⟨Ex.refl _ _,Nat.le_trans h.hN h.ex.len,by show s0.ro≤N;rw[h.ex.ro];exact h.eT,fun i e hi=>⟨e.loc (st:=s0) (ah:=ai .rw s0) (fun k _=>rfl) (h.ok i e hi).1,(h.ok i e hi).2⟩,h.dis⟩
theorem aj {kn:Bool} {s0 st:St} {d d':D} (hd:bo st s0.bs.length kn 16 d=some d'):cD .rw kn s0 st d=some (d',⟨st.bs.take s0.bs.length,s0.flr,s0.ro⟩):=by
 simp only[cD,hd]
theorem Has.rZ {s0 S2 st2:St} {H2:List bC} (h:Has N S s0 H) (hS:S2.bs=s0.bs) (h2:Has N S2 st2 H2) (hk:∀(i:Nat) e,H2[i]?=some e→∃e',H[i]?=some e'∧∀k,e.K k→e'.K k):Has N S ⟨st2.bs.take s0.bs.length,s0.flr,s0.ro⟩ H2:=by
 have hL:s0.bs.length≤st2.bs.length:=by have:=h2.ex.len;rw[hS] at this;exact this
 have W0:=h.ex.len;have W3:=h.hN;refine⟨⟨fun k iN=>?_,?_,h.ex.flr,h.ex.ro⟩,h.hN,h.eT,fun i e hi=>?_,h2.dis⟩
 ·show(st2.bs.take s0.bs.length)[k]?=_;rw[List.getElem?_take,if_pos (by omega),h2.ex.low k iN,hS];exact h.ex.low k iN
 ·show _≤(st2.bs.take s0.bs.length).length;rw[List.length_take];omega
 ·obtain⟨e',ni,hkk⟩:=hk i e hi;have h3:=(h.ok i e' ni).2;refine⟨e.loc (fun k iN=>?_) (h2.ok i e hi).1,fun k iN=>⟨(h3 k (hkk k iN)).1,?_⟩⟩
  ·show(st2.bs.take s0.bs.length)[k]?=_;rw[List.getElem?_take,if_pos (h3 k (hkk k iN)).2]
  ·show k<(st2.bs.take s0.bs.length).length;rw[List.length_take];have:=(h3 k (hkk k iN)).2;omega
theorem Has.av {s0 S2 st2:St} {k:Nat} {b b':gH} (h:Has N S s0 (.box k b::H)) (hS:S2.bs=s0.bs) (h2:Has N S2 st2 (.box k b'::H)):Has N S ⟨st2.bs.take s0.bs.length,s0.flr,s0.ro⟩ (.box k b'::H):=by
 refine h.rZ hS h2 fun i e hi=>?_
 cases i with
 |zero=>simp only[List.getElem?_cons_zero,Option.some.injEq] at hi;subst hi;exact⟨_,rfl,fun k hk=>hk⟩
 |succ i=>exact⟨e,hi,fun k hk=>hk⟩
theorem Has.FN {P:Pv} {j:Nat} {x y x':D} {s:Nat} {es ys:List (List D)} {ah:St} (hH:Has N S st H) (hj:H[j]?=some (.aJ x s es)) (hy:Rows st s y ys) {t1 t2 e:TypeId} {td:TypeDesc} {inf:TypeInfo} {z:List D}
  (h1:P.cq t1=some (.slice e)) (h2:P.cq t2=some td) (h3:fq td=false) (h4:P.info e=some inf) (h5:cO P e=some z)
  (q1:bk P .append [t1,t2] [x,y] st=some (x',ah)):∀k,x'.ref=k+1→x.ref=k+1∨S.bs.length≤k:=by
 have hl:=hH.ex.len;have i7:=hy.row
 have AF:∀e∈ys,e.length=s:=fun e he=>by
  obtain⟨i,hi⟩:=List.getElem?_of_mem he;exact hy.sI i e hi
 have hown:=hH.own hj;simp only[bk,f',h1,h2,h3,Bool.false_eq_true,if_false,h4,h5,i7,Option.bind_some] at q1
 split at q1
 ·cases q1
 ·cases hown with
  |nul=>
   simp only at q1
   split at q1
   ·cases q1;exact fun k hk=>.inl hk
   ·split at q1
    ·cases q1;exact fun k hk=>.inr (by simp only[D.ref] at hk;omega)
    ·cases q1
  |win k ax off es c hm hl hc he=>
   simp only[St.mem_of hm] at q1
   split at q1
   ·cases q1
   ·split at q1
    ·cases q1;exact fun k hk=>.inl hk
    ·split at q1
     ·cases q1;exact fun n hn=>.inl (by simp only[D.ref] at hn⊢;exact hn)
     ·cases q1
theorem ab.oD {P:Pv} {ops:Array Oper} {rest:List Oper} {fr:Fr} {Q:Fr→St→Prop} {ty:TypeId} {pp:String} {a:Array Edge} {g:Option (Nat×Bool)} {dst:Nat} {j:Nat} {x y:D} {s:Nat} {es ys:List (List D)} {t1 t2 e:TypeId} {td:TypeDesc} {inf:TypeInfo} {z:List D} {xo yo:Operand} {aE:D→Fr} (hH:Has N S st H) (hg:aA ops fr ⟨some dst,.call ⟨.builtin .append,#[xo,yo],#[t1,t2]⟩,ty,pp,a,g⟩=some true)
  (hx:fr.ev xo=x) (hy:fr.ev yo=y) (hj:H[j]?=some (.aJ x s es)) (jc:Rows st s y ys)
  (h1:P.cq t1=some (.slice e)) (h2:P.cq t2=some td) (h3:fq td=false) (h4:P.info e=some inf) (h5:cO P e=some z) (h6:inf.size=s) (h7:z.length=s) (h8:0<inf.bytes∧inf.bytes≤1024)
  (hp:∀x',fr.put dst x'=aE x') (hb:es.length+ys.length≤1073741824) (hw:S.flr≤N∨refs ys.flatten=0) (h0:∀k,x.ref=k+1→S.bs.length≤k)
  (h:∀x' ah,(∀k,x'.ref=k+1→S.bs.length≤k)→Has N S ah (H.set j (.aJ x' s (es++ys)))→ab P ops rest (aE x') ah Q):
  ab P ops (⟨some dst,.call ⟨.builtin .append,#[xo,yo],#[t1,t2]⟩,ty,pp,a,g⟩::rest) fr st Q:=by
 obtain⟨x',ah,q1,q2,q3⟩:=hH.append hj jc h1 h2 h3 h4 h5 h6 h7 h8 hb hw;have VW:=hH.FN hj jc h1 h2 h3 h4 h5 q1;refine ab.go hg rfl (d:=x') (st1:=ah) ?_ (hp _) (h x' ah (fun k hk=>?_) q2)
 ·simp only[di,List.map_cons,List.map_nil,hx,hy];exact q1
 ·rcases VW k hk with h|h
  ·exact h0 k h
  ·exact h
def mU:D→D
 | .nul=>.sl []
 |d=>d
def mo (d:D):Bool:=match d with| .nul=>true|d=>bX d
theorem x7 {st:St} {N n:Nat} {d:D} (h:mo d=true):dR st N (n+1) d=some (mU d):=by
 cases d<;>simp[mo,bX] at h<;>rfl
theorem pW {st:St} {N n:Nat}:∀{l:List D},(∀d∈l,mo d=true)→fZ (dR st N (n+1)) l=some (l.map mU)
 |[],_=>rfl
 |d::l,h=>by simp only[fZ,x7 (h d (List.mem_cons_self ..)),pW (fun d hd=>h d (List.mem_cons_of_mem _ hd)),List.map_cons]
theorem Has.xH {L j:Nat} {x:D} {s:Nat} {es:List (List D)} (hH:Has N S st H) (hj:H[j]?=some (.aJ x s es)) (hx:∀k,x.ref=k+1→L≤k) (hp:∀e∈es,∀d∈e,mo d=true) {n:Nat} (hn:3≤n):bo st L false n x=some (.sl ((es.map (·.map mU)).map (ja s))):=by
 obtain⟨n,rfl⟩:∃m,n=m+3:=⟨n-3,by omega⟩
 have hown:=hH.own hj
 cases hown with
 |nul=>rfl
 |win k ax off es c hm hl hc he=>
  have hk:=hx k (by simp only[D.ref]);show(if k<L then some (D.win k ax off es.length s) else dR st L (n+2) (.win k ax off es.length s))=_;rw[if_neg (show¬k<L by omega),dR];simp only[if_neg (show¬k<L by omega),St.mem_of hm,Option.bind_some]
  rw[if_pos hl,hc,pW (fun d hd=>by
   obtain⟨e,ni,xA⟩:=List.mem_flatten.1 hd
   exact hp e ni d xA)]
  have h1:(es.map (·.map mU)).flatten=es.flatten.map mU:=by rw[List.map_flatten]
  have h2:(es.map (·.map mU)).length=es.length:=List.length_map _
  have h3:∀e∈es.map (·.map mU),e.length=s:=by
   intro e ni;obtain⟨e0,h0,rfl⟩:=List.mem_map.1 ni;rw[List.length_map];exact he e0 h0
  simp only[Option.map_some];rw[←h1,←h2,fv h3]
theorem ab.Od {P:Pv} {ops:Array Oper} {rest:List Oper} {fr aE:Fr} {Q:Fr→St→Prop} {ty:TypeId} {pp:String} {a:Array Edge} {g:Option (Nat×Bool)} {dst:Nat} {t:TypeId} {xo io:Operand} {b:List UInt8} {kk:IntKind} {i:Nat} {c:UInt8} (hg:aA ops fr ⟨some dst,.index t xo io,ty,pp,a,g⟩=some true) (hx:fr.ev xo=.str b) (hi:fr.ev io=.int kk (i:Nat)) (ht:P.cq t=some .string) (hc:b[i]?=some c) (hp:fr.put dst (.int .u8 (c.toNat:Nat))=aE)
  (h:ab P ops rest aE st Q):ab P ops (⟨some dst,.index t xo io,ty,pp,a,g⟩::rest) fr st Q:=by
 refine ab.go hg rfl (d:=.int .u8 (c.toNat:Nat)) (st1:=st) ?_ hp h;simp only[di,hx,hi,r_,ht];rw[if_pos (by omega),Int.toNat_natCast,hc];rfl
end Go.V
namespace Go.Proofs.Ytbdnabmmlbiomaa
open Go.V
noncomputable def RI : Tr TypeInfo := (.node 103 (.node 51 (.node 25 (.node 12 (.node 6 (.node 3 (.node 1 (.leaf Try.t0) (.node 2 (.leaf Try.t1) (.leaf Try.t2))) (.node 4 (.leaf Try.t3) (.node 5 (.leaf Try.t4) (.leaf Try.t5)))) (.node 9 (.node 7 (.leaf Try.t6) (.node 8 (.leaf Try.t7) (.leaf Try.t8))) (.node 10 (.leaf Try.t9) (.node 11 (.leaf Try.t10) (.leaf Try.t11))))) (.node 18 (.node 15 (.node 13 (.leaf Try.t12) (.node 14 (.leaf Try.t13) (.leaf Try.t14))) (.node 16 (.leaf Try.t15) (.node 17 (.leaf Try.t16) (.leaf Try.t17)))) (.node 21 (.node 19 (.leaf Try.t18) (.node 20 (.leaf Try.t19) (.leaf Try.t20))) (.node 23 (.node 22 (.leaf Try.t21) (.leaf Try.t22)) (.node 24 (.leaf Try.t23) (.leaf Try.t24)))))) (.node 38 (.node 31 (.node 28 (.node 26 (.leaf Try.t25) (.node 27 (.leaf Try.t26) (.leaf Try.t27))) (.node 29 (.leaf Try.t28) (.node 30 (.leaf Try.t29) (.leaf Try.t30)))) (.node 34 (.node 32 (.leaf Try.t31) (.node 33 (.leaf Try.t32) (.leaf Try.t33))) (.node 36 (.node 35 (.leaf Try.t34) (.leaf Try.t35)) (.node 37 (.leaf Try.t36) (.leaf Try.t37))))) (.node 44 (.node 41 (.node 39 (.leaf Try.t38) (.node 40 (.leaf Try.t39) (.leaf Try.t40))) (.node 42 (.leaf Try.t41) (.node 43 (.leaf Try.t42) (.leaf Try.t43)))) (.node 47 (.node 45 (.leaf Try.t44) (.node 46 (.leaf Try.t45) (.leaf Try.t46))) (.node 49 (.node 48 (.leaf Try.t47) (.leaf Try.t48)) (.node 50 (.leaf Try.t49) (.leaf Try.t50))))))) (.node 77 (.node 64 (.node 57 (.node 54 (.node 52 (.leaf Try.t51) (.node 53 (.leaf Try.t52) (.leaf Try.t53))) (.node 55 (.leaf Try.t54) (.node 56 (.leaf Try.t55) (.leaf Try.t56)))) (.node 60 (.node 58 (.leaf Try.t57) (.node 59 (.leaf Try.t58) (.leaf Try.t59))) (.node 62 (.node 61 (.leaf Try.t60) (.leaf Try.t61)) (.node 63 (.leaf Try.t62) (.leaf Try.t63))))) (.node 70 (.node 67 (.node 65 (.leaf Try.t64) (.node 66 (.leaf Try.t65) (.leaf Try.t66))) (.node 68 (.leaf Try.t67) (.node 69 (.leaf Try.t68) (.leaf Try.t69)))) (.node 73 (.node 71 (.leaf Try.t70) (.node 72 (.leaf Try.t71) (.leaf Try.t72))) (.node 75 (.node 74 (.leaf Try.t73) (.leaf Try.t74)) (.node 76 (.leaf Try.t75) (.leaf Try.t76)))))) (.node 90 (.node 83 (.node 80 (.node 78 (.leaf Try.t77) (.node 79 (.leaf Try.t78) (.leaf Try.t79))) (.node 81 (.leaf Try.t80) (.node 82 (.leaf Try.t81) (.leaf Try.t82)))) (.node 86 (.node 84 (.leaf Try.t83) (.node 85 (.leaf Try.t84) (.leaf Try.t85))) (.node 88 (.node 87 (.leaf Try.t86) (.leaf Try.t87)) (.node 89 (.leaf Try.t88) (.leaf Try.t89))))) (.node 96 (.node 93 (.node 91 (.leaf Try.t90) (.node 92 (.leaf Try.t91) (.leaf Try.t92))) (.node 94 (.leaf Try.t93) (.node 95 (.leaf Try.t94) (.leaf Try.t95)))) (.node 99 (.node 97 (.leaf Try.t96) (.node 98 (.leaf Try.t97) (.leaf Try.t98))) (.node 101 (.node 100 (.leaf Try.t99) (.leaf Try.t100)) (.node 102 (.leaf Try.t101) (.leaf Try.t102)))))))) (.node 154 (.node 128 (.node 115 (.node 109 (.node 106 (.node 104 (.leaf Try.t103) (.node 105 (.leaf Try.t104) (.leaf Try.t105))) (.node 107 (.leaf Try.t106) (.node 108 (.leaf Try.t107) (.leaf Try.t108)))) (.node 112 (.node 110 (.leaf Try.t109) (.node 111 (.leaf Try.t110) (.leaf Try.t111))) (.node 113 (.leaf Try.t112) (.node 114 (.leaf Try.t113) (.leaf Try.t114))))) (.node 121 (.node 118 (.node 116 (.leaf Try.t115) (.node 117 (.leaf Try.t116) (.leaf Try.t117))) (.node 119 (.leaf Try.t118) (.node 120 (.leaf Try.t119) (.leaf Try.t120)))) (.node 124 (.node 122 (.leaf Try.t121) (.node 123 (.leaf Try.t122) (.leaf Try.t123))) (.node 126 (.node 125 (.leaf Try.t124) (.leaf Try.t125)) (.node 127 (.leaf Try.t126) (.leaf Try.t127)))))) (.node 141 (.node 134 (.node 131 (.node 129 (.leaf Try.t128) (.node 130 (.leaf Try.t129) (.leaf Try.t130))) (.node 132 (.leaf Try.t131) (.node 133 (.leaf Try.t132) (.leaf Try.t133)))) (.node 137 (.node 135 (.leaf Try.t134) (.node 136 (.leaf Try.t135) (.leaf Try.t136))) (.node 139 (.node 138 (.leaf Try.t137) (.leaf Try.t138)) (.node 140 (.leaf Try.t139) (.leaf Try.t140))))) (.node 147 (.node 144 (.node 142 (.leaf Try.t141) (.node 143 (.leaf Try.t142) (.leaf Try.t143))) (.node 145 (.leaf Try.t144) (.node 146 (.leaf Try.t145) (.leaf Try.t146)))) (.node 150 (.node 148 (.leaf Try.t147) (.node 149 (.leaf Try.t148) (.leaf Try.t149))) (.node 152 (.node 151 (.leaf Try.t150) (.leaf Try.t151)) (.node 153 (.leaf Try.t152) (.leaf Try.t153))))))) (.node 180 (.node 167 (.node 160 (.node 157 (.node 155 (.leaf Try.t154) (.node 156 (.leaf Try.t155) (.leaf Try.t156))) (.node 158 (.leaf Try.t157) (.node 159 (.leaf Try.t158) (.leaf Try.t159)))) (.node 163 (.node 161 (.leaf Try.t160) (.node 162 (.leaf Try.t161) (.leaf Try.t162))) (.node 165 (.node 164 (.leaf Try.t163) (.leaf Try.t164)) (.node 166 (.leaf Try.t165) (.leaf Try.t166))))) (.node 173 (.node 170 (.node 168 (.leaf Try.t167) (.node 169 (.leaf Try.t168) (.leaf Try.t169))) (.node 171 (.leaf Try.t170) (.node 172 (.leaf Try.t171) (.leaf Try.t172)))) (.node 176 (.node 174 (.leaf Try.t173) (.node 175 (.leaf Try.t174) (.leaf Try.t175))) (.node 178 (.node 177 (.leaf Try.t176) (.leaf Try.t177)) (.node 179 (.leaf Try.t178) (.leaf Try.t179)))))) (.node 193 (.node 186 (.node 183 (.node 181 (.leaf Try.t180) (.node 182 (.leaf Try.t181) (.leaf Try.t182))) (.node 184 (.leaf Try.t183) (.node 185 (.leaf Try.t184) (.leaf Try.t185)))) (.node 189 (.node 187 (.leaf Try.t186) (.node 188 (.leaf Try.t187) (.leaf Try.t188))) (.node 191 (.node 190 (.leaf Try.t189) (.leaf Try.t190)) (.node 192 (.leaf Try.t191) (.leaf Try.t192))))) (.node 199 (.node 196 (.node 194 (.leaf Try.t193) (.node 195 (.leaf Try.t194) (.leaf Try.t195))) (.node 197 (.leaf Try.t196) (.node 198 (.leaf Try.t197) (.leaf Try.t198)))) (.node 202 (.node 200 (.leaf Try.t199) (.node 201 (.leaf Try.t200) (.leaf Try.t201))) (.node 204 (.node 203 (.leaf Try.t202) (.leaf Try.t203)) (.node 205 (.leaf Try.t204) (.leaf Try.t205)))))))))
noncomputable def SL:Tr Fi:=(.node 68 (.node 34 (.node 17 (.node 8 (.node 4 (.node 2 (.node 1 (.leaf ⟨Try.f0,0,.rw,false,none,[]⟩) (.leaf ⟨Try.f1,0,.rw,false,none,[]⟩)) (.node 3 (.leaf ⟨Try.f2,0,.rw,false,none,[]⟩) (.leaf ⟨Try.f3,15,.ro,false,none,[]⟩))) (.node 6 (.node 5 (.leaf ⟨Try.f4,15,.ro,false,none,[]⟩) (.leaf ⟨Try.f5,27,.ro,false,none,[]⟩)) (.node 7 (.leaf ⟨Try.f6,14,.ro,false,none,[]⟩) (.leaf ⟨Try.f7,12,.ro,false,none,[]⟩)))) (.node 12 (.node 10 (.node 9 (.leaf ⟨Try.f8,11,.ro,false,none,[]⟩) (.leaf ⟨Try.f9,6,.br,false,none,[]⟩)) (.node 11 (.leaf ⟨Try.f10,26,.ro,false,none,[]⟩) (.leaf ⟨Try.f11,6,.ro,false,none,[]⟩))) (.node 14 (.node 13 (.leaf ⟨Try.f12,13,.br,false,none,[]⟩) (.leaf ⟨Try.f13,6,.ro,false,none,[]⟩)) (.node 15 (.leaf ⟨Try.f14,13,.br,false,none,[(3,[(3,8)])]⟩) (.node 16 (.leaf ⟨Try.f15,5,.ro,false,none,[]⟩) (.leaf ⟨Try.f16,3,.rw,false,none,[(1,[(3,8)])]⟩)))))) (.node 25 (.node 21 (.node 19 (.node 18 (.leaf ⟨Try.f17,89,.ro,false,none,[]⟩) (.leaf ⟨Try.f18,24,.ro,false,none,[]⟩)) (.node 20 (.leaf ⟨Try.f19,5,.ro,false,none,[]⟩) (.leaf ⟨Try.f20,11,.ro,false,none,[]⟩))) (.node 23 (.node 22 (.leaf ⟨Try.f21,7,.ro,false,none,[]⟩) (.leaf ⟨Try.f22,5,.ro,false,none,[]⟩)) (.node 24 (.leaf ⟨Try.f23,18,.ro,false,none,[]⟩) (.leaf ⟨Try.f24,6,.br,false,none,[]⟩)))) (.node 29 (.node 27 (.node 26 (.leaf ⟨Try.f25,11,.br,false,none,[]⟩) (.leaf ⟨Try.f26,10,.br,false,none,[]⟩)) (.node 28 (.leaf ⟨Try.f27,4,.ro,false,none,[]⟩) (.leaf ⟨Try.f28,9,.ro,false,none,[]⟩))) (.node 31 (.node 30 (.leaf ⟨Try.f29,37,.br,false,none,[(10,[(4,5)])]⟩) (.leaf ⟨Try.f30,6,.ro,false,none,[]⟩)) (.node 32 (.leaf ⟨Try.f31,25,.br,false,none,[]⟩) (.node 33 (.leaf ⟨Try.f32,9,.br,false,none,[]⟩) (.leaf ⟨Try.f33,49,.ro,false,none,[]⟩))))))) (.node 51 (.node 42 (.node 38 (.node 36 (.node 35 (.leaf ⟨Try.f34,12,.br,false,none,[]⟩) (.leaf ⟨Try.f35,4,.rw,false,none,[]⟩)) (.node 37 (.leaf ⟨Try.f36,7,.rw,false,none,[]⟩) (.leaf ⟨Try.f37,13,.ro,false,none,[]⟩))) (.node 40 (.node 39 (.leaf ⟨Try.f38,14,.rw,false,none,[]⟩) (.leaf ⟨Try.f39,4,.ro,false,none,[]⟩)) (.node 41 (.leaf ⟨Try.f40,36,.rw,false,none,[]⟩) (.leaf ⟨Try.f41,16,.rw,false,none,[]⟩)))) (.node 46 (.node 44 (.node 43 (.leaf ⟨Try.f42,5,.br,false,none,[]⟩) (.leaf ⟨Try.f43,40,.br,false,none,[]⟩)) (.node 45 (.leaf ⟨Try.f44,4,.br,false,none,[]⟩) (.leaf ⟨Try.f45,14,.ro,false,none,[]⟩))) (.node 48 (.node 47 (.leaf ⟨Try.f46,4,.ro,false,none,[]⟩) (.leaf ⟨Try.f47,5,.ro,false,none,[]⟩)) (.node 49 (.leaf ⟨Try.f48,1,.br,false,none,[]⟩) (.node 50 (.leaf ⟨Try.f49,33,.br,false,none,[(8,[(9,12)])]⟩) (.leaf ⟨Try.f50,10,.ro,false,none,[]⟩)))))) (.node 59 (.node 55 (.node 53 (.node 52 (.leaf ⟨Try.f51,7,.br,false,none,[]⟩) (.leaf ⟨Try.f52,39,.ro,false,none,[]⟩)) (.node 54 (.leaf ⟨Try.f53,5,.ro,false,none,[]⟩) (.leaf ⟨Try.f54,41,.ro,false,none,[]⟩))) (.node 57 (.node 56 (.leaf ⟨Try.f55,4,.ro,false,none,[]⟩) (.leaf ⟨Try.f56,24,.br,false,none,[]⟩)) (.node 58 (.leaf ⟨Try.f57,4,.rw,false,none,[]⟩) (.leaf ⟨Try.f58,5,.rw,false,none,[]⟩)))) (.node 63 (.node 61 (.node 60 (.leaf ⟨Try.f59,27,.ro,false,none,[]⟩) (.leaf ⟨Try.f60,5,.rw,false,none,[]⟩)) (.node 62 (.leaf ⟨Try.f61,2,.rw,false,none,[]⟩) (.leaf ⟨Try.f62,3,.rw,false,none,[]⟩))) (.node 65 (.node 64 (.leaf ⟨Try.f63,11,.rw,false,none,[]⟩) (.leaf ⟨Try.f64,8,.rw,false,none,[]⟩)) (.node 66 (.leaf ⟨Try.f65,68,.br,false,none,[]⟩) (.node 67 (.leaf ⟨Try.f66,78,.br,false,none,[]⟩) (.leaf ⟨Try.f67,6,.rw,false,none,[]⟩)))))))) (.node 102 (.node 85 (.node 76 (.node 72 (.node 70 (.node 69 (.leaf ⟨Try.f68,3,.ro,false,none,[]⟩) (.leaf ⟨Try.f69,5,.rw,false,none,[]⟩)) (.node 71 (.leaf ⟨Try.f70,5,.rw,false,none,[]⟩) (.leaf ⟨Try.f71,2,.rw,false,none,[]⟩))) (.node 74 (.node 73 (.leaf ⟨Try.f72,9,.rw,false,none,[]⟩) (.leaf ⟨Try.f73,11,.ro,false,none,[]⟩)) (.node 75 (.leaf ⟨Try.f74,4,.rw,false,none,[]⟩) (.leaf ⟨Try.f75,14,.ro,false,none,[]⟩)))) (.node 80 (.node 78 (.node 77 (.leaf ⟨Try.f76,26,.ro,false,none,[]⟩) (.leaf ⟨Try.f77,26,.rw,false,none,[]⟩)) (.node 79 (.leaf ⟨Try.f78,14,.rw,false,none,[]⟩) (.leaf ⟨Try.f79,4,.ro,false,none,[]⟩))) (.node 82 (.node 81 (.leaf ⟨Try.f80,20,.ro,false,none,[]⟩) (.leaf ⟨Try.f81,5,.rw,false,none,[]⟩)) (.node 83 (.leaf ⟨Try.f82,5,.ro,false,none,[]⟩) (.node 84 (.leaf ⟨Try.f83,5,.rw,false,none,[]⟩) (.leaf ⟨Try.f84,7,.rw,false,none,[]⟩)))))) (.node 93 (.node 89 (.node 87 (.node 86 (.leaf ⟨Try.f85,7,.rw,false,none,[]⟩) (.leaf ⟨Try.f86,61,.rw,true,none,[]⟩)) (.node 88 (.leaf ⟨Try.f87,1,.ro,false,none,[]⟩) (.leaf ⟨Try.f88,3,.ro,false,none,[]⟩))) (.node 91 (.node 90 (.leaf ⟨Try.f89,6,.rw,false,none,[(7,[(0,4)])]⟩) (.leaf ⟨Try.f90,5,.ro,false,none,[]⟩)) (.node 92 (.leaf ⟨Try.f91,12,.ro,false,none,[]⟩) (.leaf ⟨Try.f92,21,.rw,false,none,[]⟩)))) (.node 97 (.node 95 (.node 94 (.leaf ⟨Try.f93,3,.rw,false,none,[]⟩) (.leaf ⟨Try.f94,8,.rw,false,none,[]⟩)) (.node 96 (.leaf ⟨Try.f95,11,.ro,false,none,[]⟩) (.leaf ⟨Try.f96,3,.ro,false,none,[]⟩))) (.node 99 (.node 98 (.leaf ⟨Try.f97,3,.rw,false,none,[]⟩) (.leaf ⟨Try.f98,5,.rw,false,none,[]⟩)) (.node 100 (.leaf ⟨Try.f99,3,.rw,false,none,[(1,[(4,8)])]⟩) (.node 101 (.leaf ⟨Try.f100,10,.rw,false,none,[]⟩) (.leaf ⟨Try.f101,13,.rw,false,none,[]⟩))))))) (.node 119 (.node 110 (.node 106 (.node 104 (.node 103 (.leaf ⟨Try.f102,13,.rw,false,none,[]⟩) (.leaf ⟨Try.f103,56,.rw,false,none,[]⟩)) (.node 105 (.leaf ⟨Try.f104,10,.rw,false,none,[]⟩) (.leaf ⟨Try.f105,13,.rw,false,none,[]⟩))) (.node 108 (.node 107 (.leaf ⟨Try.f106,13,.rw,false,none,[]⟩) (.leaf ⟨Try.f107,14,.rw,false,none,[]⟩)) (.node 109 (.leaf ⟨Try.f108,3,.rw,false,none,[]⟩) (.leaf ⟨Try.f109,3,.rw,false,none,[]⟩)))) (.node 114 (.node 112 (.node 111 (.leaf ⟨Try.f110,29,.rw,true,none,[]⟩) (.leaf ⟨Try.f111,1,.rw,false,none,[]⟩)) (.node 113 (.leaf ⟨Try.f112,12,.rw,false,none,[]⟩) (.leaf ⟨Try.f113,3,.rw,false,none,[]⟩))) (.node 116 (.node 115 (.leaf ⟨Try.f114,3,.rw,false,none,[]⟩) (.leaf ⟨Try.f115,9,.rw,false,none,[]⟩)) (.node 117 (.leaf ⟨Try.f116,13,.rw,false,none,[]⟩) (.node 118 (.leaf ⟨Try.f117,1,.rw,false,none,[]⟩) (.leaf ⟨Try.f118,12,.rw,false,none,[]⟩)))))) (.node 128 (.node 123 (.node 121 (.node 120 (.leaf ⟨Try.f119,1,.rw,false,none,[]⟩) (.leaf ⟨Try.f120,1,.rw,false,none,[]⟩)) (.node 122 (.leaf ⟨Try.f121,1,.rw,false,none,[]⟩) (.leaf ⟨Try.f122,1,.rw,false,none,[]⟩))) (.node 125 (.node 124 (.leaf ⟨Try.f123,1,.rw,false,none,[]⟩) (.leaf ⟨Try.f124,1,.rw,false,none,[]⟩)) (.node 126 (.leaf ⟨Try.f125,1,.rw,false,none,[]⟩) (.node 127 (.leaf ⟨Try.f126,1,.rw,false,none,[]⟩) (.leaf ⟨Try.f127,1,.rw,false,none,[]⟩))))) (.node 132 (.node 130 (.node 129 (.leaf ⟨Try.f128,1,.rw,false,none,[]⟩) (.leaf ⟨Try.f129,1,.rw,false,none,[]⟩)) (.node 131 (.leaf ⟨Try.f130,1,.rw,false,none,[]⟩) (.leaf ⟨Try.f131,1,.rw,false,none,[]⟩))) (.node 134 (.node 133 (.leaf ⟨Try.f132,1,.rw,false,none,[]⟩) (.leaf ⟨Try.f133,1,.rw,false,none,[]⟩)) (.node 135 (.leaf ⟨Try.f134,1,.rw,false,none,[]⟩) (.node 136 (.leaf ⟨Try.f135,1,.rw,false,none,[]⟩) (.leaf ⟨Try.f136,1,.rw,false,none,[]⟩)))))))))
noncomputable def aV:Pv:=⟨RI,206,SL,137,[7,8,25,26,41,42,44,45,48,49,53,54,69,70,74,75,84,85,88,89,94,95,100,101,112,113,120,121,128,129,131,132,134,135,136,137,138,139,166,167,196],[]⟩
end Go.Proofs.Ytbdnabmmlbiomaa
