/-
 Functions that write what was there before, and forget what they made: entering, leaving. Lists that grow, and where they lie.
-/
import Derived.Test.YtbdilgkfnacahaaGreatXM2
import Derived.Test.YtbdilgkfnacahaaGreatChecked
import Derived.Test.YtbdilgkfnacahaaGreatXM4
set_option linter.unusedSimpArgs false
set_option linter.unusedVariables false
set_option linter.unusedSectionVars false
set_option maxRecDepth 100000
namespace Go.V
variable{N:Nat} {S st:St} {H:List bB}
theorem Has.Av {s0:St} (h:Has N S s0 H):Has N (aw .rw s0) (aw .rw s0) H:=
 ⟨Ex.refl _ _,Nat.le_trans h.hN h.ex.len,by show s0.ro≤N;rw[h.ex.ro];exact h.dF,fun i e hi=>⟨e.loc (st:=s0) (ae:=aw .rw s0) (fun k _=>rfl) (h.ok i e hi).1,(h.ok i e hi).2⟩,h.dis⟩
theorem jw {kn:Bool} {s0 st:St} {d d':D} (hd:aT st s0.bs.length kn 16 d=some d'):b7 .rw kn s0 st d=some (d',⟨st.bs.take s0.bs.length,s0.flr,s0.ro⟩):=by
 simp only[b7,hd]
def pt:D→D
 | .nul=>.sl []
 |d=>d
def oc (d:D):Bool:=match d with| .nul=>true|d=>bQ d
theorem sF {st:St} {N n:Nat} {d:D} (h:oc d=true):cR st N (n+1) d=some (pt d):=by
 cases d<;>simp[oc,bQ] at h<;>rfl
theorem mr {st:St} {N n:Nat}:∀{l:List D},(∀d∈l,oc d=true)→dM (cR st N (n+1)) l=some (l.map pt)
 |[],_=>rfl
 |d::l,h=>by simp only[dM,sF (h d (List.mem_cons_self ..)),mr (fun d hd=>h d (List.mem_cons_of_mem _ hd)),List.map_cons]
theorem Has.As {L j:Nat} {x:D} {s:Nat} {es:List (List D)} (hH:Has N S st H) (hj:H[j]?=some (.aO x s es)) (hx:∀k,x.ref=k+1→L≤k) (hp:∀e∈es,∀d∈e,oc d=true) {n:Nat} (hn:3≤n):aT st L false n x=some (.sl ((es.map (·.map pt)).map (ir s))):=by
 obtain⟨n,rfl⟩:∃m,n=m+3:=⟨n-3,by omega⟩
 have hown:=hH.own hj
 cases hown with
 |nul=>rfl
 |win k aj off es c hm hl hc he=>
  have hk:=hx k (by simp only[D.ref]);show(if k<L then some (D.win k aj off es.length s) else cR st L (n+2) (.win k aj off es.length s))=_;rw[if_neg (show¬k<L by omega),cR];simp only[if_neg (show¬k<L by omega),St.mem_of hm,Option.bind_some]
  rw[if_pos hl,hc,mr (fun d hd=>by
   obtain⟨e,lQ,tC⟩:=List.mem_flatten.1 hd
   exact hp e lQ d tC)]
  have h1:(es.map (·.map pt)).flatten=es.flatten.map pt:=by rw[List.map_flatten]
  have h2:(es.map (·.map pt)).length=es.length:=List.length_map _
  have h3:∀e∈es.map (·.map pt),e.length=s:=by
   intro e lQ;obtain⟨e0,h0,rfl⟩:=List.mem_map.1 lQ;rw[List.length_map];exact he e0 h0
  simp only[Option.map_some];rw[←h1,←h2,dH h3]
end Go.V
namespace Go.V
variable{N:Nat} {S st:St} {H:List bB}
theorem bN.at_ {α β:Type} {R:α→β→Prop}:∀{l:List α} {m:List β} {i:Nat} {b:β},bN R l m→m[i]?=some b→∃a,l[i]?=some a∧R a b
 |_,_,_,_,.nil,h=>by simp at h
 |_,_,0,_,.cons a t,h=>by simp only[List.getElem?_cons_zero,Option.some.injEq] at h;subst h;exact⟨_,rfl,a⟩
 |_,_,i+1,_,.cons a t,h=>by simp only[List.getElem?_cons_succ] at h⊢;exact t.at_ h
theorem bN.set {α β:Type} {R:α→β→Prop} {a:α} {b:β} (r:R a b):∀{l:List α} {m:List β} (i:Nat),bN R l m→bN R (l.set i a) (m.set i b)
 |_,_,_,.nil=>.nil
 |_,_,0,.cons _ t=>.cons r t
 |_,_,i+1,.cons h t=>.cons h (t.set r i)
theorem bN.setMany {R:D→D→Prop}:∀{xs ys:List D} {c d:List D} (o:Nat),bN R xs ys→bN R c d→bN R (setMany c o xs) (setMany d o ys)
 |_,_,_,_,_,.nil,h=>h
 |_,_,_,_,o,.cons r t,h=>by simp only[Go.V.setMany];exact t.setMany (o+1) (h.set r o)
theorem bN.same {R:D→D→Prop}:∀{l:List D},(∀d∈l,R d d)→bN R l l
 |[],_=>.nil
 |d::l,h=>.cons (h d (List.mem_cons_self ..)) (bN.same fun x hx=>h x (List.mem_cons_of_mem _ hx))
variable{P:Pv} {ops:Array Oper} {rest:List Oper} {fr az:Fr} {Q:Fr→St→Prop} {ty:TypeId} {pp:String} {a:Array Edge} {g:Option (Nat×Bool)} {dst:Nat}
theorem af.nk {dy:Dy} {c1 c2:Code} {fr:Fr} {st:St} {Q:Out→Fr→St→Prop} (M:Fr→St→Prop) (h1:af P dy c1 fr st (iZ P dy c2 (vC M Q))) (h2:∀az ae,M az ae→Q .next az ae):af P dy c1 fr st (iZ P dy c2 Q):=
 h1.mono fun o az ae h=>by
  cases o with
  |next=>exact af.merge M h h2
  |exit i=>exact h
  |ret=>exact h
end Go.V
namespace Go.V
variable{N:Nat} {S st:St} {H:List bB}
theorem Has.jW (A B:List bB) (h:Has N S st (A++(B++H))):Has N S st (B++(A++H)):=by
 refine h.sub (fun i=>if i<B.length then i+A.length else if i<B.length+A.length then i-B.length else i) (fun a b e=>?_) fun i e hi=>?_
 ·have e':(if a<B.length then a+A.length else if a<B.length+A.length then a-B.length else a)=(if b<B.length then b+A.length else if b<B.length+A.length then b-B.length else b):=e
  repeat' split at e'
  all_goals omega
 ·show(A++(B++H))[if i<B.length then i+A.length else if i<B.length+A.length then i-B.length else i]?=some e
  by_cases h1:i<B.length
  ·rw[if_pos h1,List.getElem?_append_right (by omega),Nat.add_sub_cancel,List.getElem?_append_left h1]
   rwa [List.getElem?_append_left h1] at hi
  ·rw[List.getElem?_append_right (by omega)] at hi
   by_cases h2:i<B.length+A.length
   ·rw[if_neg h1,if_pos h2,List.getElem?_append_left (by omega)]
    rwa [List.getElem?_append_left (by omega)] at hi
   ·rw[if_neg h1,if_neg h2,List.getElem?_append_right (by omega),List.getElem?_append_right (by omega)];rw[List.getElem?_append_right (by omega)] at hi;rw[←hi];congr 1;omega
theorem Has.cO {j:Nat} {e:bB} (h:Has N S st (e::H)) (hj:j<H.length):Has N S st (H.set j e):=
 Has.back (h.erase (j+1)) hj
theorem Has.lb {j k:Nat} {e:bB} (h:Has N S st H) (hj:H[j]?=some e) (hk:e.K k):k+1≤st.bs.length:=((h.ok j e hj).2 k hk).2
theorem eC {x y:Oper} {fi fj:Fr} {si kg sj vG:St} {a:Operand} {k aj off v:Nat} {ar:Bool} {c:List D} (hy:dL y.op=none) (hx:dL x.op=some a) (ha:fi.ev a=.ptr k aj off) (h1:sj.bs[k]?=some (.mem v ar c)) (h2:vG.bs[k]?=some (.mem v ar c)) (h3:si.bs[k]?=some (.mem v ar c)) (hr:refs c≤si.bs.length):eE x fi si kg y fj sj vG=true:=by
 unfold eE;simp only[hy,hx,ha,D.iv,Bool.and_eq_true];refine⟨jh h1 h2,?_⟩;unfold hC;simp only[h3]
 split
 ·rfl
 ·simpa using hr
theorem Has.clear {P:Pv} {j:Nat} {x:D} {s:Nat} {es:List (List D)} {t e:TypeId} {z:List D} (h:Has N S st H) (hj:H[j]?=some (.aO x s es)) (ht:P.bX t=some (.slice e)) (hz:b_ P e=some z) (gL:z.length=s) (hr:refs z=0):
  ∃ae,gw P [t] x st=some (.tup [],ae)∧Has N S ae (H.set j (.aO x s (List.replicate es.length z))):=by
 have te:=(h.ok j _ hj).2;have hown:=h.own hj
 have gp:j<H.length:=by
  rcases Nat.lt_or_ge j H.length with h'|h'
  ·exact h'
  ·rw[List.getElem?_eq_none h'] at hj;cases hj
 cases hown with
 |nul=>
  refine⟨st,by simp only[gw,ht],?_⟩
  have:H.set j (.aO .nul s (List.replicate ([]:List (List D)).length z))=H:=by
   refine List.ext_getElem? fun i=>?_
   by_cases hi:i=j
   ·subst hi;rw[List.getElem?_set_self gp,hj];rfl
   ·rw[List.getElem?_set_ne (fun e=>hi e.symm)]
  rw[this];exact h
 |win k aj off es c hm hle hc he=>
  have hk:=te k (by simp only[bB.aO,D.ref])
  have HO:∀n,refs (Go.V.cO n z)=0:=by
   intro n;unfold Go.V.cO
   induction n with
   |zero=>rfl
   |succ n ih=>
    rw[List.replicate_succ,List.flatten_cons]
    have JN:∀(a b:List D),refs a=0→refs b=0→refs (a++b)=0:=by
     intro a
     induction a with
     |nil=>intro b _ hb;exact hb
     |cons d a vI=>
      intro b ha hb;simp only[refs,List.cons_append] at ha⊢;have:=vI b (by omega) hb;omega
    exact JN _ _ hr ih
  have pO:(Go.V.cO es.length z).length=es.length*s:=by
   unfold Go.V.cO;rw[bJ (s:=s) (fun e he=>by rw[(List.mem_replicate.1 he).2];exact gL),List.length_replicate]
  have hw:st.wr k aj off (Go.V.cO es.length z)=some ⟨st.bs.set k (.mem aj true (c.take off++Go.V.cO es.length z++c.drop (off+(Go.V.cO es.length z).length))),st.flr,st.ro⟩:=jd hm (by omega) (gx h hk.1 (.inr (HO _)));refine⟨_,by simp only[gw,ht,hz,Option.bind_some];rw[if_pos gL,hw];rfl,?_⟩;refine h.vF hj (fun n hn hne=>?_) (by simp) rfl rfl ?_ (fun n hn=>.inl hn) fun n hn=>?_
  ·simp only;rw[List.getElem?_set_ne (fun e=>hne (by simp only[bB.aO,D.ref];omega))]
  ·have uQ:∀e'∈List.replicate es.length z,e'.length=s:=fun e' lQ=>by rw[(List.mem_replicate.1 lQ).2];exact gL
   have:=ei.win (st:=⟨st.bs.set k (.mem aj true (c.take off++Go.V.cO es.length z++c.drop (off+(Go.V.cO es.length z).length))),st.flr,st.ro⟩) (s:=s) k aj off (List.replicate es.length z) (c.take off++Go.V.cO es.length z++c.drop (off+(Go.V.cO es.length z).length))
    (by simp only;rw[List.getElem?_set_self hk.2]) (by rw[List.length_replicate];simp;omega) ?_ uQ
   ·rw[List.length_replicate] at this;exact this
   ·rw[List.length_replicate,List.append_assoc,List.drop_append_of_le_length (by simp;omega),List.drop_take,Nat.sub_self,List.take_zero,List.nil_append,←pO,List.take_left']
    ·rfl
    ·rfl
  ·simp only[bB.aO,D.ref] at hn;have:n=k:=by omega
   subst this
   simpa using hk.2
variable{P:Pv} {ops:Array Oper} {rest:List Oper} {fr az:Fr} {Q:Fr→St→Prop} {ty:TypeId} {pp:String} {a:Array Edge} {g:Option (Nat×Bool)} {dst:Nat}
theorem ab.El {j:Nat} {x:D} {s:Nat} {es:List (List D)} {t e:TypeId} {z:List D} {xo:Operand} (hH:Has N S st H) (hg:ax ops fr ⟨none,.call ⟨.builtin .clear,#[xo],#[t]⟩,ty,pp,a,g⟩=some true) (hx:fr.ev xo=x) (hj:H[j]?=some (.aO x s es)) (ht:P.bX t=some (.slice e)) (hz:b_ P e=some z) (gL:z.length=s) (hr:refs z=0)
  (h:∀ae,Has N S ae (H.set j (.aO x s (List.replicate es.length z)))→ab P ops rest fr ae Q):ab P ops (⟨none,.call ⟨.builtin .clear,#[xo],#[t]⟩,ty,pp,a,g⟩::rest) fr st Q:=by
 obtain⟨ae,h1,h2⟩:=hH.clear hj ht hz gL hr;refine ab.N hg rfl (d:=.tup []) (st1:=ae) ?_ (h _ h2);simp only[cU,List.map_cons,List.map_nil,hx,aU,List.toList_toArray];exact h1
end Go.V
namespace Go.Proofs.YtbdilgkfnacahaaGreat
open Go.V
noncomputable def KU:Tr TypeInfo:=(.node 113 (.node 56 (.node 28 (.node 14 (.node 7 (.node 3 (.node 1 (.leaf Tryz.t0) (.node 2 (.leaf Tryz.t1) (.leaf Tryz.t2))) (.node 5 (.node 4 (.leaf Tryz.t3) (.leaf Tryz.t4)) (.node 6 (.leaf Tryz.t5) (.leaf Tryz.t6)))) (.node 10 (.node 8 (.leaf Tryz.t7) (.node 9 (.leaf Tryz.t8) (.leaf Tryz.t9))) (.node 12 (.node 11 (.leaf Tryz.t10) (.leaf Tryz.t11)) (.node 13 (.leaf Tryz.t12) (.leaf Tryz.t13))))) (.node 21 (.node 17 (.node 15 (.leaf Tryz.t14) (.node 16 (.leaf Tryz.t15) (.leaf Tryz.t16))) (.node 19 (.node 18 (.leaf Tryz.t17) (.leaf Tryz.t18)) (.node 20 (.leaf Tryz.t19) (.leaf Tryz.t20)))) (.node 24 (.node 22 (.leaf Tryz.t21) (.node 23 (.leaf Tryz.t22) (.leaf Tryz.t23))) (.node 26 (.node 25 (.leaf Tryz.t24) (.leaf Tryz.t25)) (.node 27 (.leaf Tryz.t26) (.leaf Tryz.t27)))))) (.node 42 (.node 35 (.node 31 (.node 29 (.leaf Tryz.t28) (.node 30 (.leaf Tryz.t29) (.leaf Tryz.t30))) (.node 33 (.node 32 (.leaf Tryz.t31) (.leaf Tryz.t32)) (.node 34 (.leaf Tryz.t33) (.leaf Tryz.t34)))) (.node 38 (.node 36 (.leaf Tryz.t35) (.node 37 (.leaf Tryz.t36) (.leaf Tryz.t37))) (.node 40 (.node 39 (.leaf Tryz.t38) (.leaf Tryz.t39)) (.node 41 (.leaf Tryz.t40) (.leaf Tryz.t41))))) (.node 49 (.node 45 (.node 43 (.leaf Tryz.t42) (.node 44 (.leaf Tryz.t43) (.leaf Tryz.t44))) (.node 47 (.node 46 (.leaf Tryz.t45) (.leaf Tryz.t46)) (.node 48 (.leaf Tryz.t47) (.leaf Tryz.t48)))) (.node 52 (.node 50 (.leaf Tryz.t49) (.node 51 (.leaf Tryz.t50) (.leaf Tryz.t51))) (.node 54 (.node 53 (.leaf Tryz.t52) (.leaf Tryz.t53)) (.node 55 (.leaf Tryz.t54) (.leaf Tryz.t55))))))) (.node 84 (.node 70 (.node 63 (.node 59 (.node 57 (.leaf Tryz.t56) (.node 58 (.leaf Tryz.t57) (.leaf Tryz.t58))) (.node 61 (.node 60 (.leaf Tryz.t59) (.leaf Tryz.t60)) (.node 62 (.leaf Tryz.t61) (.leaf Tryz.t62)))) (.node 66 (.node 64 (.leaf Tryz.t63) (.node 65 (.leaf Tryz.t64) (.leaf Tryz.t65))) (.node 68 (.node 67 (.leaf Tryz.t66) (.leaf Tryz.t67)) (.node 69 (.leaf Tryz.t68) (.leaf Tryz.t69))))) (.node 77 (.node 73 (.node 71 (.leaf Tryz.t70) (.node 72 (.leaf Tryz.t71) (.leaf Tryz.t72))) (.node 75 (.node 74 (.leaf Tryz.t73) (.leaf Tryz.t74)) (.node 76 (.leaf Tryz.t75) (.leaf Tryz.t76)))) (.node 80 (.node 78 (.leaf Tryz.t77) (.node 79 (.leaf Tryz.t78) (.leaf Tryz.t79))) (.node 82 (.node 81 (.leaf Tryz.t80) (.leaf Tryz.t81)) (.node 83 (.leaf Tryz.t82) (.leaf Tryz.t83)))))) (.node 98 (.node 91 (.node 87 (.node 85 (.leaf Tryz.t84) (.node 86 (.leaf Tryz.t85) (.leaf Tryz.t86))) (.node 89 (.node 88 (.leaf Tryz.t87) (.leaf Tryz.t88)) (.node 90 (.leaf Tryz.t89) (.leaf Tryz.t90)))) (.node 94 (.node 92 (.leaf Tryz.t91) (.node 93 (.leaf Tryz.t92) (.leaf Tryz.t93))) (.node 96 (.node 95 (.leaf Tryz.t94) (.leaf Tryz.t95)) (.node 97 (.leaf Tryz.t96) (.leaf Tryz.t97))))) (.node 105 (.node 101 (.node 99 (.leaf Tryz.t98) (.node 100 (.leaf Tryz.t99) (.leaf Tryz.t100))) (.node 103 (.node 102 (.leaf Tryz.t101) (.leaf Tryz.t102)) (.node 104 (.leaf Tryz.t103) (.leaf Tryz.t104)))) (.node 109 (.node 107 (.node 106 (.leaf Tryz.t105) (.leaf Tryz.t106)) (.node 108 (.leaf Tryz.t107) (.leaf Tryz.t108))) (.node 111 (.node 110 (.leaf Tryz.t109) (.leaf Tryz.t110)) (.node 112 (.leaf Tryz.t111) (.leaf Tryz.t112)))))))) (.node 170 (.node 141 (.node 127 (.node 120 (.node 116 (.node 114 (.leaf Tryz.t113) (.node 115 (.leaf Tryz.t114) (.leaf Tryz.t115))) (.node 118 (.node 117 (.leaf Tryz.t116) (.leaf Tryz.t117)) (.node 119 (.leaf Tryz.t118) (.leaf Tryz.t119)))) (.node 123 (.node 121 (.leaf Tryz.t120) (.node 122 (.leaf Tryz.t121) (.leaf Tryz.t122))) (.node 125 (.node 124 (.leaf Tryz.t123) (.leaf Tryz.t124)) (.node 126 (.leaf Tryz.t125) (.leaf Tryz.t126))))) (.node 134 (.node 130 (.node 128 (.leaf Tryz.t127) (.node 129 (.leaf Tryz.t128) (.leaf Tryz.t129))) (.node 132 (.node 131 (.leaf Tryz.t130) (.leaf Tryz.t131)) (.node 133 (.leaf Tryz.t132) (.leaf Tryz.t133)))) (.node 137 (.node 135 (.leaf Tryz.t134) (.node 136 (.leaf Tryz.t135) (.leaf Tryz.t136))) (.node 139 (.node 138 (.leaf Tryz.t137) (.leaf Tryz.t138)) (.node 140 (.leaf Tryz.t139) (.leaf Tryz.t140)))))) (.node 155 (.node 148 (.node 144 (.node 142 (.leaf Tryz.t141) (.node 143 (.leaf Tryz.t142) (.leaf Tryz.t143))) (.node 146 (.node 145 (.leaf Tryz.t144) (.leaf Tryz.t145)) (.node 147 (.leaf Tryz.t146) (.leaf Tryz.t147)))) (.node 151 (.node 149 (.leaf Tryz.t148) (.node 150 (.leaf Tryz.t149) (.leaf Tryz.t150))) (.node 153 (.node 152 (.leaf Tryz.t151) (.leaf Tryz.t152)) (.node 154 (.leaf Tryz.t153) (.leaf Tryz.t154))))) (.node 162 (.node 158 (.node 156 (.leaf Tryz.t155) (.node 157 (.leaf Tryz.t156) (.leaf Tryz.t157))) (.node 160 (.node 159 (.leaf Tryz.t158) (.leaf Tryz.t159)) (.node 161 (.leaf Tryz.t160) (.leaf Tryz.t161)))) (.node 166 (.node 164 (.node 163 (.leaf Tryz.t162) (.leaf Tryz.t163)) (.node 165 (.leaf Tryz.t164) (.leaf Tryz.t165))) (.node 168 (.node 167 (.leaf Tryz.t166) (.leaf Tryz.t167)) (.node 169 (.leaf Tryz.t168) (.leaf Tryz.t169))))))) (.node 198 (.node 184 (.node 177 (.node 173 (.node 171 (.leaf Tryz.t170) (.node 172 (.leaf Tryz.t171) (.leaf Tryz.t172))) (.node 175 (.node 174 (.leaf Tryz.t173) (.leaf Tryz.t174)) (.node 176 (.leaf Tryz.t175) (.leaf Tryz.t176)))) (.node 180 (.node 178 (.leaf Tryz.t177) (.node 179 (.leaf Tryz.t178) (.leaf Tryz.t179))) (.node 182 (.node 181 (.leaf Tryz.t180) (.leaf Tryz.t181)) (.node 183 (.leaf Tryz.t182) (.leaf Tryz.t183))))) (.node 191 (.node 187 (.node 185 (.leaf Tryz.t184) (.node 186 (.leaf Tryz.t185) (.leaf Tryz.t186))) (.node 189 (.node 188 (.leaf Tryz.t187) (.leaf Tryz.t188)) (.node 190 (.leaf Tryz.t189) (.leaf Tryz.t190)))) (.node 194 (.node 192 (.leaf Tryz.t191) (.node 193 (.leaf Tryz.t192) (.leaf Tryz.t193))) (.node 196 (.node 195 (.leaf Tryz.t194) (.leaf Tryz.t195)) (.node 197 (.leaf Tryz.t196) (.leaf Tryz.t197)))))) (.node 212 (.node 205 (.node 201 (.node 199 (.leaf Tryz.t198) (.node 200 (.leaf Tryz.t199) (.leaf Tryz.t200))) (.node 203 (.node 202 (.leaf Tryz.t201) (.leaf Tryz.t202)) (.node 204 (.leaf Tryz.t203) (.leaf Tryz.t204)))) (.node 208 (.node 206 (.leaf Tryz.t205) (.node 207 (.leaf Tryz.t206) (.leaf Tryz.t207))) (.node 210 (.node 209 (.leaf Tryz.t208) (.leaf Tryz.t209)) (.node 211 (.leaf Tryz.t210) (.leaf Tryz.t211))))) (.node 219 (.node 215 (.node 213 (.leaf Tryz.t212) (.node 214 (.leaf Tryz.t213) (.leaf Tryz.t214))) (.node 217 (.node 216 (.leaf Tryz.t215) (.leaf Tryz.t216)) (.node 218 (.leaf Tryz.t217) (.leaf Tryz.t218)))) (.node 223 (.node 221 (.node 220 (.leaf Tryz.t219) (.leaf Tryz.t220)) (.node 222 (.leaf Tryz.t221) (.leaf Tryz.t222))) (.node 225 (.node 224 (.leaf Tryz.t223) (.leaf Tryz.t224)) (.node 226 (.leaf Tryz.t225) (.leaf Tryz.t226)))))))))
noncomputable def LX:Tr Fi:=(.node 76 (.node 38 (.node 19 (.node 9 (.node 4 (.node 2 (.node 1 (.leaf ⟨Tryz.f0,0,.rw,false,none,[]⟩) (.leaf ⟨Tryz.f1,0,.rw,false,none,[]⟩)) (.node 3 (.leaf ⟨Tryz.f2,0,.rw,false,none,[]⟩) (.leaf ⟨Tryz.f3,12,.ro,false,none,[]⟩))) (.node 6 (.node 5 (.leaf ⟨Tryz.f4,9,.ro,false,none,[(10,[(1,2),(7,8),(7,9)]),(14,[(1,2),(6,7),(6,8)])]⟩) (.leaf ⟨Tryz.f5,12,.ro,false,none,[(14,[(1,2)]),(16,[(1,2),(1,3)])]⟩)) (.node 7 (.leaf ⟨Tryz.f6,5,.ro,false,none,[]⟩) (.node 8 (.leaf ⟨Tryz.f7,7,.ro,false,none,[]⟩) (.leaf ⟨Tryz.f8,6,.ro,false,none,[]⟩))))) (.node 14 (.node 11 (.node 10 (.leaf ⟨Tryz.f9,89,.ro,false,none,[]⟩) (.leaf ⟨Tryz.f10,126,.ro,false,none,[]⟩)) (.node 12 (.leaf ⟨Tryz.f11,8,.ro,false,none,[(6,[(6,12),(8,12),(9,12)])]⟩) (.node 13 (.leaf ⟨Tryz.f12,6,.aP,false,none,[]⟩) (.leaf ⟨Tryz.f13,8,.ro,false,none,[]⟩)))) (.node 16 (.node 15 (.leaf ⟨Tryz.f14,26,.ro,false,none,[]⟩) (.leaf ⟨Tryz.f15,5,.ro,false,none,[]⟩)) (.node 17 (.leaf ⟨Tryz.f16,5,.ro,false,none,[]⟩) (.node 18 (.leaf ⟨Tryz.f17,3,.rw,false,none,[(1,[(3,8)])]⟩) (.leaf ⟨Tryz.f18,6,.ro,false,none,[]⟩)))))) (.node 28 (.node 23 (.node 21 (.node 20 (.leaf ⟨Tryz.f19,13,.aP,false,none,[]⟩) (.leaf ⟨Tryz.f20,8,.ro,false,none,[]⟩)) (.node 22 (.leaf ⟨Tryz.f21,13,.aP,false,none,[(3,[(3,8)])]⟩) (.leaf ⟨Tryz.f22,14,.ro,false,none,[]⟩))) (.node 25 (.node 24 (.leaf ⟨Tryz.f23,11,.ro,false,none,[]⟩) (.leaf ⟨Tryz.f24,6,.ro,false,none,[]⟩)) (.node 26 (.leaf ⟨Tryz.f25,11,.ro,false,none,[]⟩) (.node 27 (.leaf ⟨Tryz.f26,13,.ro,false,none,[]⟩) (.leaf ⟨Tryz.f27,49,.ro,false,none,[]⟩))))) (.node 33 (.node 30 (.node 29 (.leaf ⟨Tryz.f28,12,.aP,false,none,[]⟩) (.leaf ⟨Tryz.f29,5,.ro,false,none,[]⟩)) (.node 31 (.leaf ⟨Tryz.f30,3,.ro,false,none,[]⟩) (.node 32 (.leaf ⟨Tryz.f31,6,.ro,false,none,[]⟩) (.leaf ⟨Tryz.f32,6,.ro,false,none,[]⟩)))) (.node 35 (.node 34 (.leaf ⟨Tryz.f33,6,.ro,false,none,[]⟩) (.leaf ⟨Tryz.f34,6,.aP,false,none,[]⟩)) (.node 36 (.leaf ⟨Tryz.f35,11,.aP,false,none,[]⟩) (.node 37 (.leaf ⟨Tryz.f36,22,.ro,false,none,[(13,[(3,5)])]⟩) (.leaf ⟨Tryz.f37,8,.ro,false,none,[]⟩))))))) (.node 57 (.node 47 (.node 42 (.node 40 (.node 39 (.leaf ⟨Tryz.f38,10,.aP,false,none,[]⟩) (.leaf ⟨Tryz.f39,4,.ro,false,none,[]⟩)) (.node 41 (.leaf ⟨Tryz.f40,9,.aP,false,none,[]⟩) (.leaf ⟨Tryz.f41,6,.ro,false,none,[]⟩))) (.node 44 (.node 43 (.leaf ⟨Tryz.f42,37,.aP,false,none,[(10,[(4,5)])]⟩) (.leaf ⟨Tryz.f43,13,.ro,true,none,[(7,[(4,5)])]⟩)) (.node 45 (.leaf ⟨Tryz.f44,25,.aP,false,none,[]⟩) (.node 46 (.leaf ⟨Tryz.f45,6,.aP,false,none,[]⟩) (.leaf ⟨Tryz.f46,24,.ro,false,none,[]⟩))))) (.node 52 (.node 49 (.node 48 (.leaf ⟨Tryz.f47,18,.ro,false,none,[]⟩) (.leaf ⟨Tryz.f48,9,.ro,false,none,[]⟩)) (.node 50 (.leaf ⟨Tryz.f49,39,.ro,false,none,[]⟩) (.node 51 (.leaf ⟨Tryz.f50,5,.ro,false,none,[]⟩) (.leaf ⟨Tryz.f51,41,.ro,false,none,[]⟩)))) (.node 54 (.node 53 (.leaf ⟨Tryz.f52,4,.ro,false,none,[]⟩) (.leaf ⟨Tryz.f53,24,.aP,false,none,[]⟩)) (.node 55 (.leaf ⟨Tryz.f54,24,.ro,false,none,[]⟩) (.node 56 (.leaf ⟨Tryz.f55,4,.aP,false,none,[]⟩) (.leaf ⟨Tryz.f56,14,.ro,false,none,[]⟩)))))) (.node 66 (.node 61 (.node 59 (.node 58 (.leaf ⟨Tryz.f57,4,.ro,false,none,[]⟩) (.leaf ⟨Tryz.f58,5,.ro,false,none,[]⟩)) (.node 60 (.leaf ⟨Tryz.f59,13,.ro,false,none,[]⟩) (.leaf ⟨Tryz.f60,1,.aP,false,none,[]⟩))) (.node 63 (.node 62 (.leaf ⟨Tryz.f61,33,.aP,false,none,[(8,[(9,12)])]⟩) (.leaf ⟨Tryz.f62,31,.aP,false,none,[]⟩)) (.node 64 (.leaf ⟨Tryz.f63,10,.ro,false,none,[]⟩) (.node 65 (.leaf ⟨Tryz.f64,7,.aP,false,none,[]⟩) (.leaf ⟨Tryz.f65,4,.rw,false,none,[]⟩))))) (.node 71 (.node 68 (.node 67 (.leaf ⟨Tryz.f66,7,.rw,false,none,[]⟩) (.leaf ⟨Tryz.f67,4,.ro,false,none,[]⟩)) (.node 69 (.leaf ⟨Tryz.f68,36,.rw,false,none,[]⟩) (.node 70 (.leaf ⟨Tryz.f69,16,.rw,false,none,[]⟩) (.leaf ⟨Tryz.f70,5,.aP,false,none,[]⟩)))) (.node 73 (.node 72 (.leaf ⟨Tryz.f71,40,.aP,false,none,[]⟩) (.leaf ⟨Tryz.f72,5,.ro,false,none,[]⟩)) (.node 74 (.leaf ⟨Tryz.f73,3,.ro,false,none,[]⟩) (.node 75 (.leaf ⟨Tryz.f74,6,.ro,false,none,[]⟩) (.leaf ⟨Tryz.f75,6,.ro,false,none,[]⟩)))))))) (.node 114 (.node 95 (.node 85 (.node 80 (.node 78 (.node 77 (.leaf ⟨Tryz.f76,6,.rw,false,none,[]⟩) (.leaf ⟨Tryz.f77,4,.rw,false,none,[]⟩)) (.node 79 (.leaf ⟨Tryz.f78,5,.rw,false,none,[]⟩) (.leaf ⟨Tryz.f79,27,.ro,false,none,[]⟩))) (.node 82 (.node 81 (.leaf ⟨Tryz.f80,8,.rw,false,none,[]⟩) (.leaf ⟨Tryz.f81,68,.aP,false,none,[]⟩)) (.node 83 (.leaf ⟨Tryz.f82,78,.aP,false,none,[]⟩) (.node 84 (.leaf ⟨Tryz.f83,14,.ro,false,none,[]⟩) (.leaf ⟨Tryz.f84,26,.ro,false,none,[]⟩))))) (.node 90 (.node 87 (.node 86 (.leaf ⟨Tryz.f85,3,.ro,false,none,[]⟩) (.leaf ⟨Tryz.f86,6,.ro,false,none,[]⟩)) (.node 88 (.leaf ⟨Tryz.f87,7,.ro,false,none,[]⟩) (.node 89 (.leaf ⟨Tryz.f88,7,.aP,false,none,[]⟩) (.leaf ⟨Tryz.f89,5,.rw,false,none,[]⟩)))) (.node 92 (.node 91 (.leaf ⟨Tryz.f90,5,.rw,false,none,[]⟩) (.leaf ⟨Tryz.f91,11,.ro,false,none,[]⟩)) (.node 93 (.leaf ⟨Tryz.f92,4,.rw,false,none,[]⟩) (.node 94 (.leaf ⟨Tryz.f93,20,.ro,false,none,[]⟩) (.leaf ⟨Tryz.f94,5,.rw,false,none,[]⟩)))))) (.node 104 (.node 99 (.node 97 (.node 96 (.leaf ⟨Tryz.f95,5,.ro,false,none,[]⟩) (.leaf ⟨Tryz.f96,26,.rw,false,none,[]⟩)) (.node 98 (.leaf ⟨Tryz.f97,14,.rw,false,none,[]⟩) (.leaf ⟨Tryz.f98,4,.ro,false,none,[]⟩))) (.node 101 (.node 100 (.leaf ⟨Tryz.f99,21,.rw,false,none,[]⟩) (.leaf ⟨Tryz.f100,3,.rw,false,none,[]⟩)) (.node 102 (.leaf ⟨Tryz.f101,5,.rw,false,none,[]⟩) (.node 103 (.leaf ⟨Tryz.f102,7,.rw,false,none,[]⟩) (.leaf ⟨Tryz.f103,7,.rw,false,none,[]⟩))))) (.node 109 (.node 106 (.node 105 (.leaf ⟨Tryz.f104,61,.rw,true,none,[]⟩) (.leaf ⟨Tryz.f105,1,.ro,false,none,[]⟩)) (.node 107 (.leaf ⟨Tryz.f106,3,.ro,false,none,[]⟩) (.node 108 (.leaf ⟨Tryz.f107,6,.rw,false,none,[(7,[(0,4)])]⟩) (.leaf ⟨Tryz.f108,5,.ro,false,none,[]⟩)))) (.node 111 (.node 110 (.leaf ⟨Tryz.f109,12,.ro,false,none,[]⟩) (.leaf ⟨Tryz.f110,10,.rw,false,none,[]⟩)) (.node 112 (.leaf ⟨Tryz.f111,13,.rw,false,none,[]⟩) (.node 113 (.leaf ⟨Tryz.f112,13,.rw,false,none,[]⟩) (.leaf ⟨Tryz.f113,56,.rw,false,none,[]⟩))))))) (.node 133 (.node 123 (.node 118 (.node 116 (.node 115 (.leaf ⟨Tryz.f114,10,.rw,false,none,[]⟩) (.leaf ⟨Tryz.f115,13,.rw,false,none,[]⟩)) (.node 117 (.leaf ⟨Tryz.f116,13,.rw,false,none,[]⟩) (.leaf ⟨Tryz.f117,14,.rw,false,none,[]⟩))) (.node 120 (.node 119 (.leaf ⟨Tryz.f118,3,.rw,false,none,[]⟩) (.leaf ⟨Tryz.f119,3,.rw,false,none,[]⟩)) (.node 121 (.leaf ⟨Tryz.f120,8,.rw,false,none,[]⟩) (.node 122 (.leaf ⟨Tryz.f121,11,.ro,false,none,[]⟩) (.leaf ⟨Tryz.f122,3,.ro,false,none,[]⟩))))) (.node 128 (.node 125 (.node 124 (.leaf ⟨Tryz.f123,3,.rw,false,none,[]⟩) (.leaf ⟨Tryz.f124,5,.rw,false,none,[]⟩)) (.node 126 (.leaf ⟨Tryz.f125,3,.rw,false,none,[(1,[(4,8)])]⟩) (.node 127 (.leaf ⟨Tryz.f126,12,.rw,false,none,[]⟩) (.leaf ⟨Tryz.f127,3,.rw,false,none,[]⟩)))) (.node 130 (.node 129 (.leaf ⟨Tryz.f128,3,.rw,false,none,[]⟩) (.leaf ⟨Tryz.f129,9,.rw,false,none,[]⟩)) (.node 131 (.leaf ⟨Tryz.f130,13,.rw,false,none,[]⟩) (.node 132 (.leaf ⟨Tryz.f131,29,.rw,true,none,[]⟩) (.leaf ⟨Tryz.f132,1,.rw,false,none,[]⟩)))))) (.node 143 (.node 138 (.node 135 (.node 134 (.leaf ⟨Tryz.f133,12,.rw,false,none,[]⟩) (.leaf ⟨Tryz.f134,1,.rw,false,none,[]⟩)) (.node 136 (.leaf ⟨Tryz.f135,1,.rw,false,none,[]⟩) (.node 137 (.leaf ⟨Tryz.f136,1,.rw,false,none,[]⟩) (.leaf ⟨Tryz.f137,1,.rw,false,none,[]⟩)))) (.node 140 (.node 139 (.leaf ⟨Tryz.f138,1,.rw,false,none,[]⟩) (.leaf ⟨Tryz.f139,1,.rw,false,none,[]⟩)) (.node 141 (.leaf ⟨Tryz.f140,1,.rw,false,none,[]⟩) (.node 142 (.leaf ⟨Tryz.f141,1,.rw,false,none,[]⟩) (.leaf ⟨Tryz.f142,1,.rw,false,none,[]⟩))))) (.node 148 (.node 145 (.node 144 (.leaf ⟨Tryz.f143,1,.rw,false,none,[]⟩) (.leaf ⟨Tryz.f144,1,.rw,false,none,[]⟩)) (.node 146 (.leaf ⟨Tryz.f145,1,.rw,false,none,[]⟩) (.node 147 (.leaf ⟨Tryz.f146,1,.rw,false,none,[]⟩) (.leaf ⟨Tryz.f147,1,.rw,false,none,[]⟩)))) (.node 150 (.node 149 (.leaf ⟨Tryz.f148,1,.rw,false,none,[]⟩) (.leaf ⟨Tryz.f149,1,.rw,false,none,[]⟩)) (.node 151 (.leaf ⟨Tryz.f150,1,.rw,false,none,[]⟩) (.node 152 (.leaf ⟨Tryz.f151,1,.rw,false,none,[]⟩) (.leaf ⟨Tryz.f152,1,.rw,false,none,[]⟩)))))))))
noncomputable def aK:Pv:=⟨KU,227,LX,153,[7,8,24,25,29,30,42,43,51,52,61,65,66,70,71,74,75,80,81,86,87,90,91,93,94,112,113,122,123,126,127,131,132,136,137,148,149,152,153,157,158,159,160,197,198,217],[]⟩
end Go.Proofs.YtbdilgkfnacahaaGreat
