/-
 Is a program right? The document's text; what a rule reaches, as a list.
-/
import Derived.Test.YtbdilgkfnacahaaGreatXGJf
import Derived.Test.YtbdilgkfnacahaaGreatXM2
import Derived.Test.YtbdilgkfnacahaaGreatXPx
import Derived.KernelRfl
set_option maxRecDepth 100000
set_option maxHeartbeats 4000000
set_option linter.unusedSimpArgs false
set_option linter.unusedVariables false
namespace Go.Proofs.YtbdilgkfnacahaaGreat
open Go.V Go
def bT (fr:Go.V.Fr) (k:Nat):Go.V.D:=Go.V.nth .aZ fr.loc k
theorem m_ {s0:St} {p:Pg} (hp:p.ok):Ev pv 13 [p.d] s0 (.bool (dec (bf p))) s0:=by
 refine Ev.km rfl KB rfl rfl rfl ?_;dsimp only[u3,u4,List.length,Nat.reduceSub,Nat.reduceAdd,w1,w2];obtain⟨bE,hF,hH⟩:=ri s0;generalize aw .ro s0=S at*;have hc:=hp.c.arg s0.bs.length S;have hs:=hp.s.arg s0.bs.length S;have nY:=hp.c;have hlen:=hp.cl;have Ac:=hp.sl;unfold Pg.d;refine qq ?_;refine qj fun K hK=>?_;refine qb hH fun k1 st nG hH=>?_;dsimp only[u2,u1,u3,u4,setMany,u5,u6,D.cells,Nat.reduceAdd,Pg.cs,aq,aG,aL] at hH;refine qm ?_;refine qe hK ?_;refine qq ?_;refine qq ?_;refine af.dh 17 (.bool (decide ((p.code.length:Int)>400)||decide ((p.starts.length:Int)>8))) [] ?_ (fun ff tmp dg=>?_)
 ·refine qp (o:=0) ?_;refine ql hH aC ?_;refine qn ?_;simp only[List.length_map];refine qg ?_;refine qm ?_;refine ab.two 12 rfl (fun bc=>?_) (fun bc=>?_)
  ·refine qs ?_ (hg:=wn bc);refine qs ?_ (hg:=wn bc);refine qs ?_ (hg:=wn bc);refine qs ?_ (hg:=wn bc);refine qt bc ?_;refine ab.nil (aR ?_ ?_)
   ·dsimp only[aD,List.foldl,nth,u2,u1]
    all_goals(first|rfl|simp)
   ·dsimp only[Fr.aH,Fr.put,Fr.clean,Fr.ev,Fr.get,nth,V.look,u1,u2,v1,v2,v3,v4,v5,v6,v7,List.length,u3,u4,Nat.reduceSub,Nat.reduceAdd,List.map]
    all_goals(simp[bc];done)
  ·refine qp (o:=1) ?_ (hg:=wi bc);refine ql hH aC ?_ (hg:=wi bc);refine qn ?_ (hg:=wi bc);simp only[List.length_map];refine qg ?_ (hg:=wi bc);refine qu bc ?_;refine ab.nil (aR ?_ ?_)
   ·dsimp only[aD,List.foldl,nth,u2,u1]
    all_goals(first|rfl|simp)
   ·dsimp only[Fr.aH,Fr.put,Fr.clean,Fr.ev,Fr.get,nth,V.look,u1,u2,v1,v2,v3,v4,v5,v6,v7,List.length,u3,u4,Nat.reduceSub,Nat.reduceAdd,List.map]
    all_goals(simp[bc];done)
 dsimp only[aD,List.foldl,nth,u2,u1];refine qc (fun h0=>?_) (fun h0=>?_)<;>try simp only[cs] at h0
 ·rw[eY (fun h=>by have:=h.cl;have:=h.sl;simp at h0;omega)];refine qq ?_;refine qj fun K hK=>?_;refine qm ?_;refine qe hK ?_;refine af.ret ⟨rx,_,rfl,rl bE hH (rfl)⟩
 ·have h0:p.code.length≤400∧p.starts.length≤8:=by simp at h0;omega
  refine af.skip ?_;refine qq ?_;refine qq ?_;refine qj fun K hK=>?_;refine qm ?_;refine qe hK ?_;refine af.block ?_;refine af.loop (fun mm fr st=>∃(i:Nat),fr.clean=⟨8,[bT fr 0,.ptr k1 0 0,.bool false,.int .i64 (i:Nat),bT fr 4,bT fr 5,bT fr 6,bT fr 7],[]⟩∧Has s0.bs.length S st [.box k1 (.mem 0 false [p.cd,p.sd])]∧(i+mm=p.code.length)∧(∀pc q,pc<i→p.code[pc]?=some q→bL p.code.length p.starts.length pc q=true)) (p.code.length) ?_ ?_
  ·exact⟨0,rfl,hH,by omega,by intro pc q h;omega⟩
  rintro mm fr st ⟨i,hfr,hH,hi,hsh⟩;rw[hfr];clear hfr;generalize bT fr=ee;clear fr;refine qq ?_;refine qq ?_;refine qj fun K hK=>?_;refine qm ?_;refine qp (o:=0) ?_;refine ql hH aC ?_;refine qn ?_;simp only[List.length_map];refine qg ?_;refine qe hK ?_;refine af.cond (by rfl) (fun h1=>?_) (fun h1=>?_)<;>try simp only[decide_eq_true_eq,decide_eq_false_iff_not] at h1
  ·refine af.skip ?_
   obtain⟨q,hq⟩:∃q,p.code[i]?=some q:=⟨p.code[i]'(by omega),List.getElem?_eq_getElem _⟩
   refine qq ?_;refine af.block ?_;refine qq ?_;refine qj fun K hK=>?_;refine ab.aE (m:=2) hH rfl (ev rfl) (by exact aC) (by dsimp only[List.drop_succ_cons,List.drop_zero,List.take_succ_cons,List.take_zero,Pg.cs,aq,aG,aL]<;>rfl) rfl rfl (ag rfl _) ?_;refine qm ?_;refine qv (Ep (p:=p) hp hq) ?_;refine qg ?_;refine qe hK ?_;refine af.cond (by rfl) (fun h2=>?_) (fun h2=>?_)<;>try simp only[Bool.not_eq_true',Bool.not_eq_false'] at h2
   ·rw[eY (fun h=>by have:=h.sh i q hq;rw[this] at h2;cases h2)];refine qq ?_;refine qj fun K hK=>?_;refine qm ?_;refine qe hK ?_;refine af.ret ⟨rx,_,rfl,rl bE hH (rfl)⟩
   ·refine af.skip ?_;refine qj fun K hK=>?_;refine qm ?_;refine qA ?_;refine qm ?_;refine qe hK ?_;refine⟨mm-1,by omega,⟨i+1,rfl,hH,by omega,?_⟩⟩;intro pc q' tb iM
    by_cases he:pc=i
    ·subst he;rw[hq] at iM;cases iM;simpa using h2
    ·exact hsh pc q' (by omega) iM
  ·refine af.exit ?_;have hsh:∀pc q,p.code[pc]?=some q→bL p.code.length p.starts.length pc q=true:=fun pc q hq=>hsh pc q (by have:=bR hq;omega) hq;have hcl:=jK hsh;refine qq ?_;refine qq ?_;refine qj fun K hK=>?_;refine qm ?_;refine qe hK ?_;refine af.block ?_;refine af.loop (fun mm fr st=>∃(r:Nat),fr.clean=⟨8,[bT fr 0,.ptr k1 0 0,.bool false,bT fr 3,.int .i64 (r:Nat),bT fr 5,bT fr 6,bT fr 7],[]⟩∧Has s0.bs.length S st [.box k1 (.mem 0 false [p.cd,p.sd])]∧(r+mm=p.starts.length)∧(∀r' s,r'<r→p.starts[r']?=some s→0≤s∧s<(p.code.length:Int))) (p.starts.length) ?_ ?_
   ·exact⟨0,rfl,hH,by omega,by intro pc q h;omega⟩
   rintro mm fr st ⟨r,hfr,hH,hi,bC⟩;rw[hfr];clear hfr;generalize bT fr=ee;clear fr;refine qq ?_;refine qq ?_;refine qj fun K hK=>?_;refine qm ?_;refine qp (o:=1) ?_;refine ql hH aC ?_;refine qn ?_;simp only[List.length_map];refine qg ?_;refine qe hK ?_;refine af.cond (by rfl) (fun h3=>?_) (fun h3=>?_)<;>try simp only[decide_eq_true_eq,decide_eq_false_iff_not] at h3
   ·refine af.skip ?_
    obtain⟨s,lO⟩:∃s,p.starts[r]?=some s:=⟨p.starts[r]'(by omega),List.getElem?_eq_getElem _⟩
    have IK:=fJ lO;refine qq ?_;refine af.block ?_;refine qq ?_;refine af.dh 52 (.bool (decide (s<0)||decide (s≥p.code.length))) [] ?_ (fun ff tmp dg=>?_)
    ·refine qp (o:=1) ?_;refine ql hH aC ?_;refine qm ?_;refine qr fun K7 GM=>?_;refine qR ?_;refine qg ?_;refine qm ?_;refine ab.two 42 rfl (fun dQ=>?_) (fun dQ=>?_)
     ·refine qs ?_ (hg:=wn dQ);refine qs ?_ (hg:=wn dQ);refine qs ?_ (hg:=wn dQ);refine qs ?_ (hg:=wn dQ);refine qs ?_ (hg:=wn dQ);refine qs ?_ (hg:=wn dQ);refine qs ?_ (hg:=wn dQ);refine qs ?_ (hg:=wn dQ);refine qs ?_ (hg:=wn dQ);refine qt dQ ?_;refine ab.nil (aR ?_ ?_)
      ·dsimp only[aD,List.foldl,nth,u2,u1]
       all_goals(first|rfl|simp)
      ·dsimp only[Fr.aH,Fr.put,Fr.clean,Fr.ev,Fr.get,nth,V.look,u1,u2,v1,v2,v3,v4,v5,v6,v7,List.length,u3,u4,Nat.reduceSub,Nat.reduceAdd,List.map]
       all_goals(simp[dQ];done)
     ·refine qp (o:=1) ?_ (hg:=wi dQ);refine ql hH aC ?_ (hg:=wi dQ);refine qm ?_ (hg:=wi dQ);refine qr (fun PG NB=>?_) (hg:=wi dQ);refine qR ?_ (hg:=wi dQ);refine qp (o:=0) ?_ (hg:=wi dQ);refine ql hH aC ?_ (hg:=wi dQ);refine qn ?_ (hg:=wi dQ);simp only[List.length_map];refine qg ?_ (hg:=wi dQ);refine qu dQ ?_;refine ab.nil (aR ?_ ?_)
      ·dsimp only[aD,List.foldl,nth,u2,u1]
       all_goals(first|rfl|simp)
      ·dsimp only[Fr.aH,Fr.put,Fr.clean,Fr.ev,Fr.get,nth,V.look,u1,u2,v1,v2,v3,v4,v5,v6,v7,List.length,u3,u4,Nat.reduceSub,Nat.reduceAdd,List.map]
       all_goals(simp[dQ];done)
    dsimp only[aD,List.foldl,nth,u2,u1];dsimp only[Fr.aH,Fr.put,Fr.clean,Fr.ev,Fr.get,nth,V.look,u1,u2,v1,v2,v3,v4,v5,v6,v7,List.length,u3,u4,Nat.reduceSub,Nat.reduceAdd,List.map];refine qc (fun h4=>?_) (fun h4=>?_)<;>try simp only[cs] at h4
    ·rw[eY (fun h=>by have:=h.st s (List.mem_of_getElem? lO);simp at h4;omega)];refine qq ?_;refine qj fun K hK=>?_;refine qm ?_;refine qe hK ?_;refine af.ret ⟨rx,_,rfl,rl bE hH (rfl)⟩
    ·have Ad:0≤s∧s<(p.code.length:Int):=by simp at h4;omega
     refine af.skip ?_;refine qj fun K hK=>?_;refine qm ?_;refine qA ?_;refine qm ?_;refine qe hK ?_;refine⟨mm-1,by omega,⟨r+1,rfl,hH,by omega,?_⟩⟩;intro r' s' rX jD
     by_cases he:r'=r
     ·subst he;rw[lO] at jD;cases jD;exact Ad
     ·exact bC r' s' (by omega) jD
   ·refine af.exit ?_
    have bC:∀v∈p.starts,0≤v∧v<(p.code.length:Int):=fun v hv=>by
     obtain⟨r',rX⟩:=List.getElem?_of_mem hv;exact bC r' v (by have:=bR rX;omega) rX
    refine qq ?_;refine qq ?_;refine qj fun K hK=>?_;refine qm ?_;refine qe hK ?_;refine af.block ?_;refine af.loop (fun mm fr st=>∃(r:Nat),fr.clean=⟨8,[bT fr 0,.ptr k1 0 0,.bool false,bT fr 3,bT fr 4,.int .i64 (r:Nat),bT fr 6,bT fr 7],[]⟩∧Has s0.bs.length S st [.box k1 (.mem 0 false [p.cd,p.sd])]∧(r+mm=p.starts.length)∧(∀r' s,r'<r→p.starts[r']?=some s→gg p r' s p.code.length)) (p.starts.length) ?_ ?_
    ·exact⟨0,rfl,hH,by omega,by intro pc q h;omega⟩
    rintro mm fr st ⟨r,hfr,hH,hi,hfo⟩;rw[hfr];clear hfr;generalize bT fr=ee;clear fr;refine qq ?_;refine qq ?_;refine qj fun K hK=>?_;refine qm ?_;refine qp (o:=1) ?_;refine ql hH aC ?_;refine qn ?_;simp only[List.length_map];refine qg ?_;refine qe hK ?_;refine af.cond (by rfl) (fun h5=>?_) (fun h5=>?_)<;>try simp only[decide_eq_true_eq,decide_eq_false_iff_not] at h5
    ·refine af.skip ?_
     obtain⟨s,lO⟩:∃s,p.starts[r]?=some s:=⟨p.starts[r]'(by omega),List.getElem?_eq_getElem _⟩
     have hR:hO p (r:Nat)=bP p.code s:=by
      unfold hO;rw[if_pos (dw.2 ⟨by omega,by omega⟩),Int.toNat_natCast,List.getD_eq_getElem?_getD,lO];rfl
     have pN:=kO p.code s;have Lm:=(mS (bP p.code s)).arg s0.bs.length S;refine qq ?_;refine af.block ?_;refine qq ?_;refine qj fun K hK=>?_;refine ab.aE (m:=2) hH rfl (ev rfl) (by exact aC) (by dsimp only[List.drop_succ_cons,List.drop_zero,List.take_succ_cons,List.take_zero,Pg.cs,aq,aG,aL]<;>rfl) rfl rfl (ag rfl _) ?_;refine qm ?_;refine qv ((hR▸oF (p:=p) (hD:=(r:Nat)) hp hcl bC)) ?_;refine qm ?_;refine qe hK ?_;refine qq ?_;refine qj fun K hK=>?_;refine qm ?_;refine qe hK ?_;refine af.block ?_;refine af.loop (fun mm fr st=>∃(i:Nat),fr.clean=⟨8,[bT fr 0,.ptr k1 0 0,.bool false,bT fr 3,bT fr 4,.int .i64 (r:Nat),lK (bP p.code s),.int .i64 (i:Nat)],[]⟩∧Has s0.bs.length S st [.box k1 (.mem 0 false [p.cd,p.sd])]∧(i+mm=p.code.length)∧(gg p r s i)) (p.code.length) ?_ ?_
     ·exact⟨0,rfl,hH,by omega,by intro pc q h;omega⟩
     rintro mm fr st ⟨i,hfr,hH,hj,hom⟩;rw[hfr];clear hfr;generalize bT fr=ee;clear fr;refine qq ?_;refine qq ?_;refine qj fun K hK=>?_;refine qm ?_;refine qp (o:=0) ?_;refine ql hH aC ?_;refine qn ?_;simp only[List.length_map];refine qg ?_;refine qe hK ?_;refine af.cond (by rfl) (fun h7=>?_) (fun h7=>?_)<;>try simp only[decide_eq_true_eq,decide_eq_false_iff_not] at h7
     ·refine af.skip ?_
      obtain⟨b,hb⟩:∃b,(bP p.code s)[i]?=some b:=⟨(bP p.code s)[i]'(by omega),List.getElem?_eq_getElem _⟩
      obtain⟨q,hq⟩:∃q,p.code[i]?=some q:=⟨p.code[i]'(by omega),List.getElem?_eq_getElem _⟩
      have ie:=gy hb;have lp:=dv hq;refine qq ?_;refine af.block ?_;refine qq ?_;refine af.dh 92 (.bool ((b &&(q.op==7)) &&(q.x !=(r:Int)))) [] ?_ (fun ff tmp dg=>?_)
      ·refine qm ?_;refine qm ?_;refine qr fun K1 GG=>?_;refine qR ?_;refine qm ?_;refine ab.two 74 rfl (fun bc=>?_) (fun bc=>?_)
       ·refine qp (o:=0) ?_ (hg:=wi bc);refine ql hH aC ?_ (hg:=wi bc);refine qm ?_ (hg:=wi bc);refine qr (fun Pr Nk=>?_) (hg:=wi bc);refine qf (fo:=0) (fun Mk IY=>?_) (hg:=wi bc);refine qR ?_ (hg:=wi bc);refine qg ?_ (hg:=wi bc);refine qt bc ?_;refine qm ?_;refine ab.two 83 rfl (fun bY=>?_) (fun bY=>?_)
        ·refine qp (o:=0) ?_ (hg:=wi bY);refine ql hH aC ?_ (hg:=wi bY);refine qm ?_ (hg:=wi bY);refine qr (fun Mi IW=>?_) (hg:=wi bY);refine qf (fo:=1) (fun Po Nh=>?_) (hg:=wi bY);refine qR ?_ (hg:=wi bY);refine qm ?_ (hg:=wi bY);refine qg ?_ (hg:=wi bY);refine qt bY ?_;refine ab.nil (aR ?_ ?_)
         ·dsimp only[aD,List.foldl,nth,u2,u1]
          all_goals(first|rfl|simp)
         ·dsimp only[Fr.aH,Fr.put,Fr.clean,Fr.ev,Fr.get,nth,V.look,u1,u2,v1,v2,v3,v4,v5,v6,v7,List.length,u3,u4,Nat.reduceSub,Nat.reduceAdd,List.map]
          all_goals(simp[bc,bY];done)
        ·refine qs ?_ (hg:=wn bY);refine qs ?_ (hg:=wn bY);refine qs ?_ (hg:=wn bY);refine qs ?_ (hg:=wn bY);refine qs ?_ (hg:=wn bY);refine qs ?_ (hg:=wn bY);refine qs ?_ (hg:=wn bY);refine qs ?_ (hg:=wn bY);refine qu bY ?_;refine ab.nil (aR ?_ ?_)
         ·dsimp only[aD,List.foldl,nth,u2,u1]
          all_goals(first|rfl|simp)
         ·dsimp only[Fr.aH,Fr.put,Fr.clean,Fr.ev,Fr.get,nth,V.look,u1,u2,v1,v2,v3,v4,v5,v6,v7,List.length,u3,u4,Nat.reduceSub,Nat.reduceAdd,List.map]
          all_goals(simp[bc,bY];done)
       ·refine qs ?_ (hg:=wn bc);refine qs ?_ (hg:=wn bc);refine qs ?_ (hg:=wn bc);refine qs ?_ (hg:=wn bc);refine qs ?_ (hg:=wn bc);refine qs ?_ (hg:=wn bc);refine qs ?_ (hg:=wn bc);refine qu bc ?_;refine qm ?_;refine qs ?_;refine qs ?_;refine qs ?_;refine qs ?_;refine qs ?_;refine qs ?_;refine qs ?_;refine qs ?_;refine qg ?_;refine ab.nil (aR ?_ ?_)
        ·dsimp only[aD,List.foldl,nth,u2,u1]
         all_goals(first|rfl|simp)
        ·dsimp only[Fr.aH,Fr.put,Fr.clean,Fr.ev,Fr.get,nth,V.look,u1,u2,v1,v2,v3,v4,v5,v6,v7,List.length,u3,u4,Nat.reduceSub,Nat.reduceAdd,List.map]
         all_goals(simp[bc];done)
      dsimp only[aD,List.foldl,nth,u2,u1];dsimp only[Fr.aH,Fr.put,Fr.clean,Fr.ev,Fr.get,nth,V.look,u1,u2,v1,v2,v3,v4,v5,v6,v7,List.length,u3,u4,Nat.reduceSub,Nat.reduceAdd,List.map];refine qc (fun h6=>?_) (fun h6=>?_)<;>try simp only[cs] at h6
      ·rw[eY (fun h=>by
        have h7:=h.fo r s lO i q (by omega);simp only[Bool.and_eq_true,beq_iff_eq,bne_iff_ne,ne_eq] at h6;obtain⟨⟨rfl,h8⟩,h9⟩:=h6
        exact h9 (h7 hb hq h8))]
       refine qq ?_;refine qj fun K hK=>?_;refine qm ?_;refine qe hK ?_;refine af.ret ⟨rx,_,rfl,rl bE hH (rfl)⟩
      ·refine af.skip ?_;refine qj fun K hK=>?_;refine qm ?_;refine qA ?_;refine qm ?_;refine qe hK ?_;refine⟨mm-1,by omega,⟨i+1,rfl,hH,by omega,?_⟩⟩;intro pc q' tb o8 iM dG
       by_cases he:pc=i
       ·subst he;rw[hq] at iM;cases iM;rw[hb] at o8;cases o8;simp[dG] at h6;exact h6
       ·exact hom pc q' (by omega) o8 iM dG
     ·refine af.exit ?_;refine qj fun K hK=>?_;refine qm ?_;refine qA ?_;refine qm ?_;refine qe hK ?_;refine⟨p.starts.length-(r+1),by omega,⟨r+1,rfl,hH,by omega,?_⟩⟩;intro r' s' rX jD
      by_cases he:r'=r
      ·subst he;rw[lO] at jD;cases jD;exact fun pc q tb=>hom pc q (by omega)
      ·exact hfo r' s' (by omega) jD
    ·refine af.exit ?_;rw[kz ⟨h0.1,h0.2,hsh,bC,fun r' s' jD=>hfo r' s' (by have:=bR jD;omega) jD⟩];refine qq ?_;refine qj fun K hK=>?_;refine qm ?_;refine qe hK ?_;refine af.ret ⟨rx,_,rfl,rl bE hH (rfl)⟩
def cM (i:bo):bo:=⟨i.op,i.x,i.y,.sl ((i.rs.map av).map (ir 2)),i.rs⟩
theorem vf {i:bo} (h:i.ok):(cM i).ok:=⟨dV.frozen (jo _) (dp _),h.2⟩
def lI (q:bo):List D:=aq (cM q)
theorem pC {code:List bo} {pc:Nat} {i:bo} (h:(code.map cM)[pc]?=some i):∃q,code[pc]?=some q∧i=cM q:=by
 rw[List.getElem?_map] at h;obtain⟨q,hq,rfl⟩:=Option.map_eq_some_iff.1 h;exact⟨q,hq,rfl⟩
theorem get_copy {code:List bo} {pc:Nat} {i:bo} (h:code[pc]?=some i):(code.map cM)[pc]?=some (cM i):=by
 rw[List.getElem?_map,h];rfl
theorem pB (code:List bo):∀(f:Nat) (seen:List Bool) (eN:List Int),sk (code.map cM) f seen eN=sk code f seen eN
 |0,_,_=>rfl
 |_+1,_,[]=>rfl
 |f+1,seen,v::eN=>by
  have ih:=pB code f;unfold sk;rw[List.getElem?_map]
  cases h1:seen[v.toNat]? with
  |none=>exact ih _ _
  |some b=>
   cases b with
   |true=>exact ih _ _
   |false=>
    cases h2:code[v.toNat]? with
    |none=>rfl
    |some i=>exact ih _ _
theorem kN (code:List bo) (s:Int):bP (code.map cM) s=bP code s:=by
 unfold bP;rw[List.length_map,pB]
theorem p6 {p q:Pg} (h1:q.code=p.code.map cM) (h2:q.starts=p.starts):bf q↔bf p:=by
 have hl:q.code.length=p.code.length:=by rw[h1];simp
 constructor
 ·intro h;refine⟨by rw[←hl];exact h.cl,by rw[←h2];exact h.sl,fun pc i hi=>?_,fun v hv=>?_,fun r s hs pc i tb o8 hi dG=>?_⟩
  ·have:=h.sh pc (cM i) (by rw[h1];exact get_copy hi);rw[hl,h2] at this;exact this
  ·have:=h.st v (by rw[h2];exact hv);rw[hl] at this;exact this
  ·exact h.fo r s (by rw[h2];exact hs) pc (cM i) (by rw[hl];exact tb) (by rw[h1,kN];exact o8) (by rw[h1];exact get_copy hi) dG
 ·intro h;refine⟨by rw[hl];exact h.cl,by rw[h2];exact h.sl,fun pc i hi=>?_,fun v hv=>?_,fun r s hs pc i tb o8 hi dG=>?_⟩
  ·rw[h1] at hi;obtain⟨j,hj,rfl⟩:=pC hi;rw[hl,h2];exact h.sh pc j hj
  ·rw[hl];exact h.st v (by rw[←h2];exact hv)
  ·rw[h1] at hi o8;rw[kN] at o8;obtain⟨j,hj,rfl⟩:=pC hi;exact h.fo r s (by rw[←h2];exact hs) pc j (by rw[←hl];exact tb) o8 hj dG
theorem AH {w a j:Nat} (ha:a<2^w) (hj:2^j-1<2^w):(BitVec.ofInt w (a:Int) &&&BitVec.ofInt w ((2^j-1:Nat):Int)).toNat=a %2^j:=by
 rw[bv_and ha hj,Nat.and_two_pow_sub_one_eq_mod]
/-- the loop's number: six bits more -/
theorem H9 {r y:Nat} (hr:r<33554432) (hy:y<256):b2 .i32 ((BitVec.ofInt 32 (b2 .i32 ((r:Int)*2^(min (Int.toNat 6) 32)))|||BitVec.ofInt 32 (b2 .i32 (b2 .u8 ((BitVec.ofInt 8 (y:Int) &&&BitVec.ofInt 8 63).toNat:Nat)))).toNat:Nat)=((r*64+y %64:Nat):Int):=by
 have h1:(BitVec.ofInt 8 (y:Int) &&&BitVec.ofInt 8 63).toNat=y %64:=AH (w:=8) (j:=6) hy (by decide);rw[h1]
 have h2:((r:Int)*2^(min (Int.toNat 6) 32))=((r*64:Nat):Int):=by
  have:(2:Int)^(min (Int.toNat 6) 32)=64:=by decide
  rw[this];simp
 rw[h2,dK (k:=.i32) (m:=r*64) (by simp only[jt];omega),dK (k:=.u8) (m:=y %64) (by simp only[jt];omega),dK (k:=.i32) (m:=y %64) (by simp only[jt];omega)];rw[HB (by omega) (by omega)]
 have h3:(r*64)|||(y %64)=r*64+y %64:=by
  have:=Nat.two_pow_add_eq_or_of_lt (i:=6) (b:=y %64) (by omega) r;have e:(2:Nat)^6=64:=by decide
  rw[e] at this;rw[Nat.mul_comm r 64,this]
 rw[h3,dK (k:=.i32) (m:=r*64+y %64) (by simp only[jt];omega)]
theorem Pk {r y:Nat} (hr:r<33554432) (hy:y<256):b2 .i32 ((BitVec.ofInt IntKind.i32.bits (b2 .i32 ((r:Int)*2^(min (Int.toNat 6) IntKind.i32.bits)))|||BitVec.ofInt IntKind.i32.bits (b2 .i32 (b2 .u8 ((BitVec.ofInt IntKind.u8.bits (y:Int) &&&BitVec.ofInt IntKind.u8.bits 63).toNat:Nat)))).toNat:Nat)=((r*64+y %64:Nat):Int):=H9 hr hy
/- the plain law: the two ways to look at the first rune -/
abbrev n_:=Nat→Int
def ai (f:n_):List D:=[.int .i64 (f 0),.int .i64 (f 1),.int .i64 (f 2),.int .i64 (f 3),.int .i64 (f 4),.int .i64 (f 5),.int .i64 (f 6),.int .i64 (f 7),.int .i64 (f 8),.int .i64 (f 9)]
def bw:n_:=fun _=>-1
def iz:n_:=fun _=>0
def tS (f:n_) (x:Nat) (v:Int):n_:=fun j=>if j=x then v else f j
theorem fq {n ns pc:Nat} {i:bo} (h:bL n ns pc i=true):
  i.op=7∨(i.op=2∧(0≤i.x∧i.x<(n:Int))∧0≤i.y∧i.y<(n:Int))∨(i.op=3∧0≤i.x∧i.x<(n:Int))∨(i.op=4∧pc+1<n∧0≤i.x∧i.x<10)∨(i.op=5∧pc+1<n)∨(i.op=6∧pc+1<n)∨(i.op=1∧pc+1<n):=by
 unfold bL at h
 split at h
 ·rename_i h1;simp only[Bool.and_eq_true,decide_eq_true_eq] at h;refine .inr (.inr (.inr (.inr (.inr (.inr ⟨h1,?_⟩)))));omega
 ·simp only[Bool.and_eq_true] at h;obtain⟨_,h⟩:=h
  split at h
  ·rename_i h2;simp only[Bool.and_eq_true] at h;exact .inr (.inl ⟨h2,dw.1 h.1,dw.1 h.2⟩)
  ·simp only[Bool.and_eq_true] at h;obtain⟨_,h⟩:=h
   split at h
   ·rename_i h3;exact .inr (.inr (.inl ⟨h3,dw.1 h⟩))
   ·split at h
    ·rename_i h4;simp only[Bool.and_eq_true,decide_eq_true_eq] at h;exact .inr (.inr (.inr (.inl ⟨h4,by omega,dw.1 h.2⟩)))
    ·split at h
     ·rename_i h5;simp only[Bool.and_eq_true,decide_eq_true_eq] at h
      rcases h5 with h5|h5
      ·exact .inr (.inr (.inr (.inr (.inl ⟨h5,by omega⟩))))
      ·exact .inr (.inr (.inr (.inr (.inr (.inl ⟨h5,by omega⟩)))))
     ·split at h
      ·rename_i h7;exact .inl h7
      ·cases h
def bm (fr:Go.V.Fr) (k:Nat):Go.V.D:=Go.V.nth .aZ fr.loc k
structure eL where
 pc:Nat
 c:n_
def ak (t:eL):List D:=[.int .i64 (t.pc:Nat),.int .i64 (t.c 0),.int .i64 (t.c 1),.int .i64 (t.c 2),.int .i64 (t.c 3),.int .i64 (t.c 4),.int .i64 (t.c 5),.int .i64 (t.c 6),.int .i64 (t.c 7),.int .i64 (t.c 8),.int .i64 (t.c 9)]
def ay (dn:Bool) (f:n_) (d:D):List D:=[.bool dn,.int .i64 (f 0),.int .i64 (f 1),.int .i64 (f 2),.int .i64 (f 3),.int .i64 (f 4),.int .i64 (f 5),.int .i64 (f 6),.int .i64 (f 7),.int .i64 (f 8),.int .i64 (f 9),d]
theorem v8 {a:D} {f:n_} {x:Nat} {v:Int} (hx:x<10):setMany (a::ai f) (1+x) [.int .i64 v]=a::ai (tS f x v):=by
 match x,hx with
 |0,_=>rfl
 |1,_=>rfl
 |2,_=>rfl
 |3,_=>rfl
 |4,_=>rfl
 |5,_=>rfl
 |6,_=>rfl
 |7,_=>rfl
 |8,_=>rfl
 |9,_=>rfl
structure Wk where
 seen:List Bool
 dn:Bool
 aF:n_
 rdy:List eL
def aW (code:List bo) (pl:Nat) (e:Bool):Nat→Wk→eL→Wk×Bool
 |0,w,_=>(w,false)
 |f+1,w,t=>
  if w.seen.getD t.pc true=true then(w,false) else
  match code[t.pc]? with
  |none=>(w,false)
  |some i=>
   if i.op=7 then(⟨w.seen.set t.pc true,true,t.c,w.rdy⟩,true)
   else if i.op=2 then
    if(aW code pl e f ⟨w.seen.set t.pc true,w.dn,w.aF,w.rdy⟩ ⟨i.x.toNat,t.c⟩).2=true then aW code pl e f ⟨w.seen.set t.pc true,w.dn,w.aF,w.rdy⟩ ⟨i.x.toNat,t.c⟩
    else aW code pl e f (aW code pl e f ⟨w.seen.set t.pc true,w.dn,w.aF,w.rdy⟩ ⟨i.x.toNat,t.c⟩).1 ⟨i.y.toNat,t.c⟩
   else if i.op=1 then(⟨w.seen.set t.pc true,w.dn,w.aF,w.rdy++[t]⟩,false)
   else if i.op=3 then aW code pl e f ⟨w.seen.set t.pc true,w.dn,w.aF,w.rdy⟩ ⟨i.x.toNat,t.c⟩
   else if i.op=4 then aW code pl e f ⟨w.seen.set t.pc true,w.dn,w.aF,w.rdy⟩ ⟨t.pc+1,tS t.c i.x.toNat (pl:Nat)⟩
   else if i.op=5 then if pl=0 then aW code pl e f ⟨w.seen.set t.pc true,w.dn,w.aF,w.rdy⟩ ⟨t.pc+1,t.c⟩ else(⟨w.seen.set t.pc true,w.dn,w.aF,w.rdy⟩,false)
   else if e=true then aW code pl e f ⟨w.seen.set t.pc true,w.dn,w.aF,w.rdy⟩ ⟨t.pc+1,t.c⟩ else(⟨w.seen.set t.pc true,w.dn,w.aF,w.rdy⟩,false)
def Good (code:List bo) (w w':Wk):Prop:=
 w'.seen.length=w.seen.length∧w'.seen.count false≤w.seen.count false∧w'.rdy.length+w'.seen.count false≤w.rdy.length+w.seen.count false∧∀t∈w'.rdy,t∈w.rdy∨∃i,code[t.pc]?=some i∧i.op=1
theorem Good.refl {code:List bo} {w:Wk}:Good code w w:=⟨rfl,Nat.le_refl _,Nat.le_refl _,fun t h=>.inl h⟩
theorem Good.trans {code:List bo} {a b c:Wk} (h:Good code a b) (k:Good code b c):Good code a c:=
 ⟨k.1.trans h.1,Nat.le_trans k.2.1 h.2.1,Nat.le_trans k.2.2.1 h.2.2.1,fun t ht=>by
  rcases k.2.2.2 t ht with q|q
  ·exact h.2.2.2 t q
  ·exact .inr q⟩
theorem Good.step {code:List bo} {w w':Wk} {j:Nat} (hj:w.seen[j]?=some false) (k:Good code ⟨w.seen.set j true,w.dn,w.aF,w.rdy⟩ w'):Good code w w':=by
 have hc:=count_set hj;refine Good.trans (b:=⟨w.seen.set j true,w.dn,w.aF,w.rdy⟩) ⟨?_,?_,?_,fun t h=>.inl h⟩ k
 ·simp
 ·show(w.seen.set j true).count false≤_;omega
 ·show w.rdy.length+(w.seen.set j true).count false≤_;omega
theorem pY {l:List Bool} {j:Nat} (h:¬l.getD j true=true):l[j]?=some false:=by
 rw[List.getD_eq_getElem?_getD] at h
 cases hq:l[j]? with
 |none=>rw[hq] at h;exact absurd rfl h
 |some b=>rw[hq] at h;cases b with
  |false=>rfl
  |true=>exact absurd rfl h
theorem l8 {l:List Bool} {j:Nat} {b:Bool} (h:l[j]?=some b):l.getD j true=b:=by
 rw[List.getD_eq_getElem?_getD,h];rfl
theorem br (code:List bo) (pl:Nat) (e:Bool):∀(f:Nat) (w:Wk) (t:eL),Good code w (aW code pl e f w t).1
 |0,w,t=>.refl
 |f+1,w,t=>by
  unfold aW
  split
  ·exact .refl
  ·rename_i hs;have hs:=pY hs;have hc:=count_set hs
   split
   ·exact .refl
   ·rename_i i hi
    split
    ·exact Good.step hs ⟨rfl,Nat.le_refl _,Nat.le_refl _,fun t h=>.inl h⟩
    ·split
     ·split
      ·exact Good.step hs (br code pl e f _ _)
      ·exact Good.step hs ((br code pl e f _ _).trans (br code pl e f _ _))
     ·split
      ·rename_i h1;refine⟨by simp,by show(w.seen.set t.pc true).count false≤_;omega,by show(w.rdy++[t]).length+(w.seen.set t.pc true).count false≤_;rw[List.length_append];simp only[List.length_cons,List.length_nil];omega,fun t' h=>?_⟩
       rcases List.mem_append.1 h with h|h
       ·exact .inl h
       ·simp only[List.mem_cons,List.not_mem_nil,or_false] at h;subst h;exact .inr ⟨i,hi,h1⟩
      ·split
       ·exact Good.step hs (br code pl e f _ _)
       ·split
        ·exact Good.step hs (br code pl e f _ _)
        ·split
         ·split
          ·exact Good.step hs (br code pl e f _ _)
          ·exact Good.step hs .refl
         ·split
          ·exact Good.step hs (br code pl e f _ _)
          ·exact Good.step hs .refl
theorem vW (l:List eL):∀e∈l.map ak,e.length=11:=by
 intro e he;obtain⟨x,_,rfl⟩:=List.mem_map.1 he;rfl
theorem jj (A:List bB) {N ks:Nat} {S s0:St} {H:List bB} {seen:List Bool} {i:Nat} {b:Bool} {pd qd:D} {P Q:List Nat} (hF:S.flr≤N) (hi:seen[i]?=some b) (bC:cC P Q seen) (hH:Has N S s0 (A++(.box ks (.mem 0 false [pd,qd])::.aO pd 1 (P.map dD)::.aO qd 2 (Q.map jz)::H))):
  ∃r ae,Ev pv 64 [.ptr ks 0 0,.int .i64 (i:Nat),.bool true] s0 r ae∧r=.bool (!b)∧∃pd qd P Q,Has N S ae (A++(.box ks (.mem 0 false [pd,qd])::.aO pd 1 (P.map dD)::.aO qd 2 (Q.map jz)::H))∧cC P Q (seen.set i true):=by
 obtain⟨r,ae,h1,h2,Ie,Ib,P',Q',h3,h4⟩:=sM (H:=A++H) hF hi ⟨pd,qd,P,Q,Has.jW A [_,_,_] hH,bC⟩;exact⟨r,ae,h1,h2,Ie,Ib,P',Q',Has.jW [_,_,_] A h3,h4⟩
theorem jT (A:List bB) {N ks:Nat} {S s0:St} {H:List bB} {seen:List Bool} {pd qd:D} {P Q:List Nat} (hF:S.flr≤N) (bC:cC P Q seen) (hH:Has N S s0 (A++(.box ks (.mem 0 false [pd,qd])::.aO pd 1 (P.map dD)::.aO qd 2 (Q.map jz)::H))):
  ∃r ae,Ev pv 60 [.ptr ks 0 0] s0 r ae∧r=.tup []∧∃pd qd P Q,Has N S ae (A++(.box ks (.mem 0 false [pd,qd])::.aO pd 1 (P.map dD)::.aO qd 2 (Q.map jz)::H))∧cC P Q (List.replicate seen.length false):=by
 obtain⟨r,ae,h1,h2,Ie,Ib,P',Q',h3,h4⟩:=oq (H:=A++H) hF ⟨pd,qd,P,Q,Has.jW A [_,_,_] hH,bC⟩;exact⟨r,ae,h1,h2,Ie,Ib,P',Q',Has.jW [_,_,_] A h3,h4⟩
def L4 (N:Nat) (S st:St) (ks kv kw kl:Nat) (p:Pg) (pl:Nat) (ld:D) (e:Bool) (w:Wk) (H:List bB):Prop:=
 ∃rd pd qd P Q,Has N S st (.box kv (.mem 0 false [p.cd,p.sd,.int .i64 (pl:Nat),ld,.ptr ks 0 0])::.box kw (.mem 0 false [.ptr kl 0 0,rd,.bool e])::.box kl (.mem 0 false (ay w.dn w.aF .nul))::.aO rd 11 (w.rdy.map ak)::.box ks (.mem 0 false [pd,qd])::.aO pd 1 (P.map dD)::.aO qd 2 (Q.map jz)::H)∧cC P Q w.seen
theorem AL {N ks kv kw kl:Nat} {S:St} {H:List bB} {p:Pg} {pl:Nat} {ld:D} {e:Bool} (hF:S.flr≤N) (hp:p.ok) (hR:bf p) (kr:pl≤1099511627776):∀(f:Nat) (w:Wk) (t:eL) (s0:St) (H:List bB),t.pc<p.code.length→w.seen.length=p.code.length→w.seen.count false<f→w.rdy.length+w.seen.count false≤1048576→L4 N S s0 ks kv kw kl p pl ld e w H→
  ∃r ae,Ev pv 61 [.ptr kv 0 0,.ptr kw 0 0,.agg (ak t)] s0 r ae∧r=.bool (aW p.code pl e f w t).2∧L4 N S ae ks kv kw kl p pl ld e (aW p.code pl e f w t).1 H
 |0,_,_,_,_,_,_,h,_,_=>absurd h (Nat.not_lt_zero _)
 |f+1,w,t,s0,H,tb,j2,cy,pN,hT=>by
  have ih:=AL (ks:=ks) (kv:=kv) (kw:=kw) (kl:=kl) (S:=S) (H:=H) (ld:=ld) (e:=e) hF hp hR kr f;obtain⟨rd,pd,qd,P,Q,hH,bC⟩:=hT;have hc:=hp.c.arg N S;have hlen:=hp.cl
  obtain⟨i,hi⟩:∃i,p.code[t.pc]?=some i:=⟨p.code[t.pc]'tb,List.getElem?_eq_getElem _⟩
  obtain⟨b,hb⟩:∃b,w.seen[t.pc]?=some b:=⟨w.seen[t.pc]'(by omega),List.getElem?_eq_getElem _⟩
  have hr:=dv hi;have qW:=(hp.i i (List.mem_of_getElem? hi)).1;have ij:=fq (hR.sh t.pc i hi);have Hc:=l8 hb;have cF:aW p.code pl e (f+1) w t=aW p.code pl e (f+1) w t:=rfl
  conv at cF=>rhs;unfold aW
  rw[Hc] at cF;simp only[hi] at cF;generalize aW p.code pl e (f+1) w t=R at*;obtain⟨op,x,y,KW,rs⟩:=i;obtain⟨pc,c⟩:=t;simp only at*;refine Ev.ni rfl J' rfl rfl rfl ?_;dsimp only[u3,u4,List.length,Nat.reduceSub,Nat.reduceAdd,w1,w2];change af _ _ _ _ s0 _;refine qq ?_;refine qj fun K hK=>?_;refine qb hH fun k5 st vN hH=>?_;dsimp only[u2,u1,u3,u4,setMany,u5,u6,D.cells,Nat.reduceAdd,aq,ak,ay,ai] at hH;refine qm ?_;refine qe hK ?_;refine qq ?_;refine qq ?_;refine qj fun K hK=>?_;refine qm ?_;refine qg ?_;refine qp (o:=4) ?_;refine ql hH a6 ?_;refine qp (o:=0) ?_;refine ql hH aC ?_;obtain⟨_,st,b4,rfl,pd,qd,P,Q,hH,bC⟩:=jj [_,_,_,_,_] hF hb bC hH;dsimp only[u3,u4] at hH;refine qv b4 ?_;refine qg ?_;refine qe hK ?_
  cases b with
  |true=>
   rw[if_pos rfl] at cF;subst cF;refine qB ?_;refine qq ?_;refine qj fun K hK=>?_;refine qm ?_;refine qe hK ?_;refine af.ret ⟨rx,_,_,_,rfl,rfl,?_⟩;refine⟨rfl,rd,pd,qd,P,Q,hH.drop 1,?_⟩
   have:w.seen.set pc true=w.seen:=by
    refine List.ext_getElem? fun j=>?_
    by_cases hj:j=pc
    ·subst hj;rw[List.getElem?_set_self (by omega),hb]
    ·rw[List.getElem?_set_ne (fun e=>hj e.symm)]
   rw[←this];exact bC
  |false=>
   rw[if_neg (by decide)] at cF;have pg:=count_set hb;have jC:(w.seen.set pc true).length=p.code.length:=by rw[List.length_set];exact j2
   have pk:(w.seen.set pc true).count false<f:=by omega
   have o5:w.rdy.length+(w.seen.set pc true).count false≤1048576:=by omega
   generalize w.seen.set pc true=sn at*;clear hb Hc pg j2 cy pN;refine qC ?_;refine af.skip ?_;refine qq ?_;refine qj fun K hK=>?_;refine qm ?_;refine qg ?_;refine qp (o:=0) ?_;refine qp (o:=0) ?_;refine ql hH a6 ?_;refine qp (o:=0) ?_;refine ql hH aC ?_;refine qr fun HH Ai=>?_;refine ab.cx rfl (ev rfl) (by assumption) rfl (by dsimp only[Fr.put,u1,u2]<;>rfl) ?_;refine qa hH fun k7 st FK hH=>?_;refine qS hH aC fun st hH=>?_;dsimp only[u2,u1,u3,u4,setMany,u5,u6,D.cells,Nat.reduceAdd,aq,ak,ay,ai] at hH;refine qe hK ?_;refine qq ?_;refine qj fun K hK=>?_;refine ab.aE (m:=11) hH rfl (ev rfl) (by exact a6) (by dsimp only[List.drop_succ_cons,List.drop_zero,List.take_succ_cons,List.take_zero,aq,ak,ay,ai]<;>rfl) rfl rfl (by dsimp only[Fr.put,u1,u2]<;>rfl) ?_;refine qa hH fun k8 st G7 hH=>?_;refine qS hH aC fun st hH=>?_;dsimp only[u2,u1,u3,u4,setMany,u5,u6,D.cells,Nat.reduceAdd,aq,ak,ay,ai] at hH;refine qe hK ?_;refine qq ?_;refine qj fun K hK=>?_;refine qp (o:=0) ?_;refine ql hH aC ?_;refine qA ?_;refine qp (o:=0) ?_;refine qT hH aC fun st hH=>?_;dsimp only[u2,u1,u3,u4,setMany,u5,u6,D.cells,Nat.reduceAdd,aq,ak,ay,ai] at hH;refine qe hK ?_;refine qq ?_;refine qq ?_;refine qj fun K hK=>?_;refine qp (o:=0) ?_;refine ql hH a6 ?_;refine qe hK ?_;refine af.merge (fun fr st=>∃(t':eL) (tmp:List (Nat×D)),fr=⟨33,[.ptr kv 0 0,.ptr kw 0 0,bm fr 2,bm fr 3,bm fr 4,.ptr k5 0 0,.bool false,.ptr k7 0 0,.ptr k8 0 0,bm fr 9,bm fr 10,bm fr 11,bm fr 12,bm fr 13,bm fr 14,bm fr 15,bm fr 16,bm fr 17,bm fr 18,bm fr 19,bm fr 20,bm fr 21,bm fr 22,bm fr 23,bm fr 24,bm fr 25,bm fr 26,bm fr 27,bm fr 28,bm fr 29,bm fr 30,bm fr 31,bm fr 32],tmp⟩∧Has N S st (.box k8 (.mem 0 false (ak t'))::.box k7 (.mem 0 false [.int .i64 op,.int .i64 x,.int .i64 y,KW])::.box k5 (.mem 0 false (ak ⟨pc,c⟩))::.box kv (.mem 0 false [p.cd,p.sd,.int .i64 (pl:Nat),ld,.ptr ks 0 0])::.box kw (.mem 0 false [.ptr kl 0 0,rd,.bool e])::.box kl (.mem 0 false (ay w.dn w.aF .nul))::.aO rd 11 (w.rdy.map ak)::.box ks (.mem 0 false [pd,qd])::.aO pd 1 (P.map dD)::.aO qd 2 (Q.map jz)::H)∧(R=aW p.code pl e f ⟨sn,w.dn,w.aF,w.rdy⟩ t')∧(t'.pc<p.code.length)) ?_ ?_
   ·refine af.block ?_;refine qq ?_;refine qj fun K hK=>?_;refine qg ?_;refine qm ?_;refine qe hK ?_;refine af.cond (by rfl) (fun h7=>?_) (fun h7=>?_)<;>try simp only[beq_iff_eq,beq_eq_false_iff_ne,ne_eq] at h7
    ·rw[if_pos h7] at cF;subst cF;have pR:=hH;refine qq ?_;generalize hK:iZ _ _ _ _=K;refine af.lT rfl ?_;refine bh.cons ?_;refine qm ?_;refine ab.nil ⟨rfl,?_⟩;refine bh.cons ?_;refine qg ?_;refine ab.nil ⟨rfl,?_⟩;refine bh.cons ?_;refine qp (o:=0) ?_;refine ab.nil ⟨rfl,?_⟩;refine bh.cons ?_;refine ql hH j8 ?_;refine ab.nil ⟨rfl,?_⟩;refine bh.cons ?_;refine qm ?_;refine ab.nil ⟨rfl,?_⟩;refine bh.cons ?_;refine qg ?_;refine ab.nil ⟨rfl,?_⟩;refine bh.cons ?_;refine qp (o:=0) ?_;refine ab.nil ⟨rfl,?_⟩;refine bh.cons ?_;refine ql hH j8 ?_;refine ab.nil ⟨rfl,?_⟩;refine bh.cons ?_;refine qp (o:=1) ?_;refine ab.nil ⟨rfl,?_⟩;refine bh.cons ?_;refine ab.aE (m:=10) hH rfl (ev rfl) (by exact dI) (by dsimp only[List.drop_succ_cons,List.drop_zero,List.take_succ_cons,List.take_zero,aq,ak,ay,ai]<;>rfl) rfl rfl (ag rfl _) ?_;refine ab.nil ⟨rfl,?_⟩;refine bh.cons ?_;refine qg ?_;refine ab.nil ⟨rfl,?_⟩;refine bh.cons ?_;refine qp (o:=0) ?_;refine ab.nil ⟨rfl,?_⟩;refine bh.cons ?_;refine qT hH rq fun st hH=>?_;dsimp only[u2,u1,u3,u4,setMany,u5,u6,D.cells,Nat.reduceAdd,aq,ak,ay,ai] at hH;refine ab.nil ⟨by exact Bool.and_eq_true_iff.2 ⟨mQ rfl rfl rfl (pR.at dI) (hH.at dI) (pR.at dI) rfl,rfl⟩,?_⟩;refine bh.cons ?_;refine qg ?_;refine ab.nil ⟨rfl,?_⟩;refine bh.cons ?_;refine qp (o:=1) ?_;refine ab.nil ⟨rfl,?_⟩;refine bh.cons ?_;refine qT hH rq fun st hH=>?_;dsimp only[u2,u1,u3,u4,setMany,u5,u6,D.cells,Nat.reduceAdd,aq,ak,ay,ai] at hH;refine ab.nil ⟨rfl,?_⟩;refine bh.nil ?_;subst hK;refine qq ?_;refine qj fun K hK=>?_;refine qm ?_;refine qe hK ?_;refine af.ret ⟨rx,_,_,_,rfl,rfl,?_⟩;exact⟨rfl,rd,pd,qd,P,Q,hH.drop 3,bC⟩
    ·rw[if_neg h7] at cF;refine qq ?_;refine qj fun K hK=>?_;refine qg ?_;refine qm ?_;refine qe hK ?_;refine af.cond (by rfl) (fun h2=>?_) (fun h2=>?_)<;>try simp only[beq_iff_eq,beq_eq_false_iff_ne,ne_eq] at h2
     ·rw[if_pos h2] at cF;obtain⟨_,⟨hx0,hx1⟩,hy0,hy1⟩:=(ij.resolve_left h7).resolve_right (by omega);obtain⟨xn,rfl⟩:=Int.eq_ofNat_of_zero_le hx0;obtain⟨yn,rfl⟩:=Int.eq_ofNat_of_zero_le hy0;have E6:=br p.code pl e f ⟨sn,w.dn,w.aF,w.rdy⟩ ⟨xn,c⟩;have pq:=Has.jW [_,_,_] [_,_,_,_,_,_,_] hH;obtain⟨_,st1,b4,rfl,hT⟩:=ih ⟨sn,w.dn,w.aF,w.rdy⟩ ⟨xn,c⟩ _ _ (by show xn<_;omega) jC pk o5 ⟨rd,pd,qd,P,Q,pq,bC⟩;clear pq;have cF:R=if(aW p.code pl e f ⟨sn,w.dn,w.aF,w.rdy⟩ ⟨xn,c⟩).2=true then aW p.code pl e f ⟨sn,w.dn,w.aF,w.rdy⟩ ⟨xn,c⟩ else aW p.code pl e f (aW p.code pl e f ⟨sn,w.dn,w.aF,w.rdy⟩ ⟨xn,c⟩).1 ⟨yn,c⟩:=cF;generalize aW p.code pl e f ⟨sn,w.dn,w.aF,w.rdy⟩ ⟨xn,c⟩=R1 at*;obtain⟨w1,b1⟩:=R1;obtain⟨cm,ba,a_,bc⟩:=E6;simp only at cm ba a_ bc b4 hT cF;obtain⟨KY,K0,KZ,P1,Q1,pq,GU⟩:=hT;have pq:=Has.jW [_,_,_,_,_,_,_] [_,_,_] pq;dsimp only[u3,u4] at pq
      cases b1 with
      |true=>
       rw[if_pos rfl] at cF;subst cF;have nI:true=true:=rfl;refine qq ?_;refine qj fun K hK=>?_;refine qm ?_;refine qm ?_;refine qp (o:=1) ?_;refine ql hH a6 ?_;refine qp (o:=1) ?_;refine ab.aE (m:=10) hH rfl (ev rfl) (by exact dI) (by dsimp only[List.drop_succ_cons,List.drop_zero,List.take_succ_cons,List.take_zero,aq,ak,ay,ai]<;>rfl) rfl rfl (ag rfl _) ?_;refine ab.go (d:=.agg (ak ⟨xn,c⟩)) (st1:=_) rfl rfl rfl (ag rfl _) ?_;refine qv b4 ?_;refine qm ?_;refine qs ?_ (hg:=wn nI);refine qs ?_ (hg:=wn nI);refine qs ?_ (hg:=wn nI);refine qs ?_ (hg:=wn nI);refine qs ?_ (hg:=wn nI);refine qs ?_ (hg:=wn nI);refine qs ?_ (hg:=wn nI);refine qs ?_ (hg:=wn nI);refine qt nI ?_;refine qm ?_;refine qe hK ?_;refine af.ret ⟨rx,_,_,_,rfl,rfl,?_⟩;exact⟨rfl,KY,K0,KZ,P1,Q1,pq.drop 3,GU⟩
      |false=>
       rw[if_neg (by decide)] at cF;have nI:false=false:=rfl;refine qq ?_;refine qj fun K hK=>?_;refine qm ?_;refine qm ?_;refine qp (o:=1) ?_;refine ql hH a6 ?_;refine qp (o:=1) ?_;refine ab.aE (m:=10) hH rfl (ev rfl) (by exact dI) (by dsimp only[List.drop_succ_cons,List.drop_zero,List.take_succ_cons,List.take_zero,aq,ak,ay,ai]<;>rfl) rfl rfl (ag rfl _) ?_;refine ab.go (d:=.agg (ak ⟨xn,c⟩)) (st1:=_) rfl rfl rfl (ag rfl _) ?_;have hH:=pq;refine qv b4 ?_;refine qm ?_;refine qm ?_ (hg:=wi nI);refine qm ?_ (hg:=wi nI);refine qp (o:=2) ?_ (hg:=wi nI);refine ql hH a6 ?_ (hg:=wi nI);refine qp (o:=1) ?_ (hg:=wi nI);refine ab.aE (m:=10) hH (aM rfl rfl rfl nI) (ev rfl) (by exact dI) (by dsimp only[List.drop_succ_cons,List.drop_zero,List.take_succ_cons,List.take_zero,aq,ak,ay,ai]<;>rfl) rfl rfl (ag rfl _) ?_;refine ab.go (d:=.agg (ak ⟨yn,c⟩)) (st1:=_) (aM rfl rfl rfl nI) rfl rfl (ag rfl _) ?_;obtain⟨_,st,b4,rfl,hT⟩:=ih w1 ⟨yn,c⟩ _ _ (by show yn<_;omega) (by omega) (by omega) (by omega) ⟨KY,K0,KZ,P1,Q1,hH.drop 3,GU⟩;refine qv b4 ?_ (hg:=wi nI);refine qu nI ?_;refine qm ?_;refine qe hK ?_;refine af.ret ⟨rx,_,_,_,rfl,rfl,?_⟩;rw[cF];exact⟨rfl,hT⟩
     ·rw[if_neg h2] at cF;refine qq ?_;refine qj fun K hK=>?_;refine qg ?_;refine qm ?_;refine qe hK ?_;refine af.cond (by rfl) (fun h1=>?_) (fun h1=>?_)<;>try simp only[beq_iff_eq,beq_eq_false_iff_ne,ne_eq] at h1
      ·rw[if_pos h1] at cF;subst cF;refine qq ?_;refine qj fun K hK=>?_;refine qm ?_;refine qm ?_;refine qg ?_;refine qp (o:=1) ?_;refine ql hH j8 ?_;refine ab.aE (m:=11) hH rfl (ev rfl) (by exact dI) (by dsimp only[List.drop_succ_cons,List.drop_zero,List.take_succ_cons,List.take_zero,aq,ak,ay,ai]<;>rfl) rfl rfl (ag rfl _) ?_;refine qh (s:=11) (vs:=[_]) hH fun PX st NZ hH=>?_;refine ab.bk (s:=11) hH rfl (ev rfl) (ev rfl) (by exact KL) (by exact hH.rows (by exact aC)) rfl rfl rfl rfl rfl rfl rfl ⟨(Nat.le_of_ble_eq_true rfl),(Nat.le_of_ble_eq_true rfl)⟩ (fun _=>(ag rfl _)) (by simp only[List.length_cons,List.length_nil,List.length_map]<;>omega) (by exact .inl hF) (fun L8 st hH=>?_);dsimp only[u2,u1,u3,u4,setMany,u5,u6,D.cells,Nat.reduceAdd,aq,ak,ay,ai] at hH;refine qg ?_;refine qp (o:=1) ?_;refine qT hH rq (fun st hH=>?_) (fM:=hH.dY KL);dsimp only[u2,u1,u3,u4,setMany,u5,u6,D.cells,Nat.reduceAdd,aq,ak,ay,ai] at hH;refine qe hK ?_;refine qq ?_;refine qj fun K hK=>?_;refine qm ?_;refine qe hK ?_;refine af.ret ⟨rx,_,_,_,rfl,rfl,?_⟩;refine⟨rfl,L8,pd,qd,P,Q,?_,bC⟩;rw[List.map_append];exact hH.drop 4
      ·rw[if_neg h1] at cF;refine qq ?_;refine qj fun K hK=>?_;refine qg ?_;refine qm ?_;refine qe hK ?_;refine af.cond (by rfl) (fun h3=>?_) (fun h3=>?_)<;>try simp only[beq_iff_eq,beq_eq_false_iff_ne,ne_eq] at h3
       ·rw[if_pos h3] at cF;obtain⟨_,hx0,hx1⟩:=((ij.resolve_left h7).resolve_left (by omega)).resolve_right (by omega);obtain⟨xn,rfl⟩:=Int.eq_ofNat_of_zero_le hx0;refine qj fun K hK=>?_;refine qp (o:=1) ?_;refine ql hH a6 ?_;refine qp (o:=0) ?_;refine qT hH aC fun st hH=>?_;dsimp only[u2,u1,u3,u4,setMany,u5,u6,D.cells,Nat.reduceAdd,aq,ak,ay,ai] at hH;refine qe hK ?_;exact⟨⟨xn,c⟩,_,rfl,hH,cF,by show xn<_;omega⟩
       ·rw[if_neg h3] at cF;refine qq ?_;refine qj fun K hK=>?_;refine qg ?_;refine qm ?_;refine qe hK ?_;refine af.cond (by rfl) (fun h4=>?_) (fun h4=>?_)<;>try simp only[beq_iff_eq,beq_eq_false_iff_ne,ne_eq] at h4
        ·rw[if_pos h4] at cF;obtain⟨_,lq,hx0,hx1⟩:=(((ij.resolve_left h7).resolve_left (by omega)).resolve_left (by omega)).resolve_right (by omega);obtain⟨xn,rfl⟩:=Int.eq_ofNat_of_zero_le hx0;refine qj fun K hK=>?_;refine qp (o:=1) ?_;refine ql hH a6 ?_;refine qm ?_;refine qg ?_;refine qp (o:=2) ?_;refine ql hH ef ?_;refine qp (o:=1) ?_;refine ab.An (m:=10) (s:=1) (i:=xn) (o:=1+xn) rfl (ev rfl) (ev rfl) rfl rfl (by omega) (by omega) (ag rfl _) ?_;refine ab.ib hH rfl (ev rfl) (ev rfl) rfl (by exact rfl) aC (by show 1+xn+1≤11;omega) (.inl hF) (fun st hH=>?_);change Has _ _ _ (.box k8 (.mem 0 false (setMany (_::ai c) (1+xn) [.int .i64 (pl:Nat)]))::_) at hH;rw[v8 (by omega)] at hH;refine qe hK ?_;exact⟨⟨pc+1,tS c xn (pl:Nat)⟩,_,rfl,hH,cF,lq⟩
        ·rw[if_neg h4] at cF;refine qq ?_;refine qj fun K hK=>?_;refine qg ?_;refine qm ?_;refine qe hK ?_;refine af.cond (by rfl) (fun h5=>?_) (fun h5=>?_)<;>try simp only[beq_iff_eq,beq_eq_false_iff_ne,ne_eq] at h5
         ·rw[if_pos h5] at cF;have lq:pc+1<p.code.length:=by omega
          refine qq ?_;refine qj fun K hK=>?_;refine qm ?_;refine qg ?_;refine qp (o:=2) ?_;refine ql hH ef ?_;refine qg ?_;refine qe hK ?_
          by_cases ha:pl=0
          ·rw[if_pos ha] at cF;subst ha;refine af.cond (v:=false) (by dsimp only[Fr.ev,Fr.get,nth,V.look];rfl) (fun h=>by cases h) (fun _=>?_);refine af.skip ?_;exact⟨⟨pc+1,c⟩,_,rfl,hH,cF,lq⟩
          ·rw[if_neg ha] at cF;subst cF;refine qD rfl (by simp;omega) ?_;refine qq ?_;refine qj fun K hK=>?_;refine qm ?_;refine qe hK ?_;refine af.ret ⟨rx,_,_,_,rfl,rfl,?_⟩;exact⟨rfl,rd,pd,qd,P,Q,hH.drop 3,bC⟩
         ·rw[if_neg h5] at cF;have h6:op=6:=by omega
          have lq:pc+1<p.code.length:=by omega
          refine qq ?_;refine qj fun K hK=>?_;refine qg ?_;refine qm ?_;refine qe hK ?_;refine qD rfl (by simp[h6]) ?_;refine qq ?_;refine qj fun K hK=>?_;refine qm ?_;refine qg ?_;refine qp (o:=2) ?_;refine ql hH j8 ?_;refine qg ?_;refine qe hK ?_
          cases e with
          |true=>
           rw[if_pos rfl] at cF;refine qC ?_;refine af.skip ?_;exact⟨⟨pc+1,c⟩,_,rfl,hH,cF,lq⟩
          |false=>
           rw[if_neg (by decide)] at cF;subst cF;refine qB ?_;refine qq ?_;refine qj fun K hK=>?_;refine qm ?_;refine qe hK ?_;refine af.ret ⟨rx,_,_,_,rfl,rfl,?_⟩;exact⟨rfl,rd,pd,qd,P,Q,hH.drop 3,bC⟩
   ·rintro fr st ⟨t',tmp,hfr,hH,OU,IV⟩;rw[hfr];clear hfr;generalize bm fr=ee;clear fr;obtain⟨Mh,c'⟩:=t';dsimp only[ak] at hH;refine qq ?_;refine qj fun K hK=>?_;refine qm ?_;refine qm ?_;refine ab.aE (m:=11) hH rfl (ev rfl) (by exact aC) (by dsimp only[List.drop_succ_cons,List.drop_zero,List.take_succ_cons,List.take_zero,aq,ak,ay,ai]<;>rfl) rfl rfl (ag rfl _) ?_;have hH:=hH.drop 3;obtain⟨_,st,b4,rfl,hT⟩:=ih ⟨sn,w.dn,w.aF,w.rdy⟩ ⟨Mh,c'⟩ _ _ IV jC pk o5 ⟨rd,pd,qd,P,Q,hH,bC⟩;refine qv b4 ?_;refine qm ?_;refine qe hK ?_;refine af.ret ⟨rx,_,_,_,rfl,rfl,?_⟩;rw[OU];exact⟨rfl,hT⟩
def bA (fr:Go.V.Fr) (k:Nat):Go.V.D:=Go.V.nth .aZ fr.loc k
structure VL where
 dn:Bool
 aF:n_
 td:D
 bS:List eL
def dS (l:VL):List D:=ay l.dn l.aF l.td
def lN (l:VL):bB:=.aO l.td 11 (l.bS.map ak)
theorem tJ (A:List bB) {n:Nat} (hn:A.length=n) {L:List VL} {i:Nat} {l:VL} (h:L[i]?=some l) {H:List bB}:(A++(L.map lN++H))[n+i]?=some (lN l):=by
 have hi:=bR h;rw[List.getElem?_append_right (by omega),List.getElem?_append_left (by simp;omega),hn,Nat.add_sub_cancel_left,List.getElem?_map,h];rfl
theorem pS {L:List VL} {i:Nat} {l:VL} (h:L[i]?=some l):(L.map dS)[i]?=some (dS l):=by rw[List.getElem?_map,h];rfl
theorem gC {l:List eL} {i:Nat} {q:eL} (h:l[i]?=some q):(l.map ak)[i]?=some (ak q):=by rw[List.getElem?_map,h];rfl
theorem gj {N:Nat} {S st:St} {H:List bB} {j:Nat} {x:D} {s:Nat} {es:List (List D)} (h:Has N S st H) (hj:H[j]?=some (.aO x s es)):x.ref≤st.bs.length:=by
 rcases Nat.eq_zero_or_pos x.ref with h0|h0
 ·omega
 ·have:=h.lb hj (k:=x.ref-1) (by show x.ref=x.ref-1+1;omega);omega
def MH (A:List bB) (N:Nat) (S st:St) (ks kv:Nat) (p:Pg) (pl:Nat) (ld:D) (L:List VL) (H:List bB):Prop:=
 ∃pd qd P Q sn,Has N S st (A++(.box kv (.mem 0 false [p.cd,p.sd,.int .i64 (pl:Nat),ld,.ptr ks 0 0])::.box ks (.mem 0 false [pd,qd])::.aO pd 1 (P.map dD)::.aO qd 2 (Q.map jz)::.aO ld 12 (L.map dS)::(L.map lN++H)))∧cC P Q sn∧sn.length=p.code.length
theorem MH.push (A B:List bB) {N:Nat} {S st:St} {ks kv:Nat} {p:Pg} {pl:Nat} {ld:D} {L:List VL} {H:List bB} (h:MH (A++B) N S st ks kv p pl ld L H):MH B N S st ks kv p pl ld L (A++H):=by
 obtain⟨pd,qd,P,Q,sn,hH,bC,dO⟩:=h;refine⟨pd,qd,P,Q,sn,?_,bC,dO⟩;have:=Has.jW (H:=H) A (B++(.box kv (.mem 0 false [p.cd,p.sd,.int .i64 (pl:Nat),ld,.ptr ks 0 0])::.box ks (.mem 0 false [pd,qd])::.aO pd 1 (P.map dD)::.aO qd 2 (Q.map jz)::.aO ld 12 (L.map dS)::L.map lN)) (by simpa only[List.append_assoc,List.cons_append] using hH)
 simpa only[List.append_assoc,List.cons_append] using this
theorem MH.pull (A B:List bB) {N:Nat} {S st:St} {ks kv:Nat} {p:Pg} {pl:Nat} {ld:D} {L:List VL} {H:List bB} (h:MH B N S st ks kv p pl ld L (A++H)):MH (A++B) N S st ks kv p pl ld L H:=by
 obtain⟨pd,qd,P,Q,sn,hH,bC,dO⟩:=h;refine⟨pd,qd,P,Q,sn,?_,bC,dO⟩;have:=Has.jW (H:=H) (B++(.box kv (.mem 0 false [p.cd,p.sd,.int .i64 (pl:Nat),ld,.ptr ks 0 0])::.box ks (.mem 0 false [pd,qd])::.aO pd 1 (P.map dD)::.aO qd 2 (Q.map jz)::.aO ld 12 (L.map dS)::L.map lN)) A (by simpa only[List.append_assoc,List.cons_append] using hH)
 simpa only[List.append_assoc,List.cons_append] using this
def fZ (code:List bo) (pl:Nat) (e:Bool):List eL→Wk→Wk
 |[],w=>w
 |t::ts,w=>if(aW code pl e (code.length+1) w t).2=true then(aW code pl e (code.length+1) w t).1 else fZ code pl e ts (aW code pl e (code.length+1) w t).1
def e4 (n:Nat) (dn:Bool) (aF:n_):Wk:=⟨List.replicate n false,dn,aF,[]⟩
theorem lC (code:List bo) (pl:Nat) (e:Bool):∀(l:List eL) (w:Wk),Good code w (fZ code pl e l w)
 |[],w=>.refl
 |t::ts,w=>by
  unfold fZ
  split
  ·exact br ..
  ·exact(br ..).trans (lC code pl e ts _)
theorem mI {N ks kv:Nat} {S s0:St} {H:List bB} {p:Pg} {pl:Nat} {ld:D} {L:List VL} {i:Nat} {l:VL} {e:Bool} (hF:S.flr≤N) (hp:p.ok) (hR:bf p) (kr:pl≤1099511627776) (hl:L[i]?=some l) (vK:∀t∈l.bS,t.pc<p.code.length) (ko:l.bS.length≤1048576) (hM:MH [] N S s0 ks kv p pl ld L H):
  ∃r ae,Ev pv 42 [.ptr kv 0 0,.int .i64 (i:Nat),.bool e] s0 r ae∧∃rd,r=.tup [.agg (ay (fZ p.code pl e l.bS (e4 p.code.length l.dn l.aF)).dn (fZ p.code pl e l.bS (e4 p.code.length l.dn l.aF)).aF .nul),rd]∧MH [.aO rd 11 ((fZ p.code pl e l.bS (e4 p.code.length l.dn l.aF)).rdy.map ak)] N S ae ks kv p pl ld L H:=by
 obtain⟨pd,qd,P,Q,sn,hH,bC,dO⟩:=hM;have hcl:=hR.cl;have ie:=pS hl;have hil:=bR hl;generalize hW:fZ p.code pl e l.bS (e4 p.code.length l.dn l.aF)=W at*;obtain⟨dn,aF,td,bS⟩:=l;simp only at hW vK ko;dsimp only[u4] at hH;refine Ev.ni rfl Kl rfl rfl rfl ?_;dsimp only[u3,u4,List.length,Nat.reduceSub,Nat.reduceAdd,w1,w2];change af _ _ _ _ s0 _;refine qq ?_;refine qj fun K hK=>?_;refine qa hH fun k6 st HR hH=>?_;refine qm ?_;refine qe hK ?_;refine qq ?_;refine qj fun K hK=>?_;refine qm ?_;refine qg ?_;refine qp (o:=3) ?_;refine ql hH a6 ?_;refine qm ?_;refine qi hH rq fun La GR=>?_;refine ab.nd hH rfl (ev rfl) (by assumption) (by exact rq) (by assumption) rfl (by dsimp only[Fr.put,u1,u2]<;>rfl) ?_;refine qa hH fun k8 st G7 hH=>?_;refine qS hH aC fun st hH=>?_;dsimp only[u2,u1,u3,u4,setMany,u5,u6,D.cells,Nat.reduceAdd,aq,ak,ay,ai,dS] at hH;refine qe hK ?_;refine qq ?_;refine qj fun K hK=>?_;refine qp (o:=0) ?_;refine ql hH aC ?_;refine qp (o:=1) ?_;refine ab.aE (m:=10) hH rfl (ev rfl) (by exact aC) (by dsimp only[List.drop_succ_cons,List.drop_zero,List.take_succ_cons,List.take_zero,aq,ak,ay,ai,dS]<;>rfl) rfl rfl (by dsimp only[Fr.put,u1,u2]<;>rfl) ?_;refine ab.go (d:=.agg (ay dn aF .nul)) (st1:=_) rfl rfl rfl (by dsimp only[Fr.put,u1,u2]<;>rfl) ?_;refine qa hH fun k9 st NX hH=>?_;refine qS hH aC fun st hH=>?_;dsimp only[u2,u1,u3,u4,setMany,u5,u6,D.cells,Nat.reduceAdd,aq,ak,ay,ai,dS] at hH;refine qe hK ?_;refine qq ?_;refine qj fun K hK=>?_;refine qm ?_;refine ab.zK (qs:=[(0,_),(2,_)]) rfl rfl rfl rfl ⟨rfl,(ev rfl),(by rfl),rfl,(ev rfl),(by rfl),trivial⟩ (by intro q hq;simp only[List.mem_cons,List.not_mem_nil,or_false] at hq;rcases hq with rfl|rfl<;>exact⟨rfl,by exact Nat.le_of_ble_eq_true rfl⟩) (by show List.foldl _ [_,_,_] _=_;dsimp only[List.foldl_cons,List.foldl_nil,u2,u1]<;>rfl) (by dsimp only[Fr.put,u1,u2]<;>rfl) ?_;refine qb hH fun HJ st Jp hH=>?_;refine qm ?_;refine qe hK ?_;have A':=hH;refine qq ?_;refine qj fun K hK=>?_;refine qm ?_;refine qg ?_;refine qp (o:=4) ?_;refine ql hH j8 ?_;obtain⟨_,st,b4,rfl,pd,qd,P,Q,hH,bC⟩:=jT [_,_,_,_,_] hF bC hH;dsimp only[u3,u4] at hH;refine qv b4 ?_;refine qe hK ?_;clear A';rw[dO] at bC;have hH:=Has.jW [_,_,_,_] [_] hH;have hH:=Has.jW [_,_,_,_,_] [_,_,_] hH;have hH:=Has.jW [_,_,_] [_,_,_] hH;have hH:=Has.jW [_] [_,_,_] (hH.hQ 11);dsimp only[u3,u4] at hH;have IH:=hH.rows (tJ [_,_,_,_,_,_,_,_,_,_] rfl hl);have LG:=lC p.code pl e bS (e4 p.code.length dn aF);refine qq ?_;refine qq ?_;refine qj fun K hK=>?_;refine qp (o:=11) ?_;refine ql hH KL ?_;refine ab.Gh rfl (ev rfl) IH rfl (by dsimp only[Fr.put,u1,u2]<;>rfl) ?_;simp only[List.length_map];refine qm ?_;refine qe hK ?_;refine af.block ?_;refine af.loop (fun mm fr st=>∃(j:Nat) (w:Wk) (rest:List eL) (rd pd qd:D) (P Q:List Nat),fr.clean=⟨37,[.ptr kv 0 0,.int .i64 (i:Nat),.bool e,bA fr 3,bA fr 4,bA fr 5,.ptr k6 0 0,.nul,.ptr k8 0 0,.ptr k9 0 0,.ptr HJ 0 0,bA fr 11,bA fr 12,bA fr 13,bA fr 14,bA fr 15,bA fr 16,bA fr 17,bA fr 18,bA fr 19,bA fr 20,bA fr 21,bA fr 22,bA fr 23,bA fr 24,bA fr 25,bA fr 26,bA fr 27,bA fr 28,bA fr 29,bA fr 30,bA fr 31,bA fr 32,bA fr 33,td,.int .i64 (bS.length:Nat),.int .i64 (j:Nat)],[]⟩∧Has N S st (.box kv (.mem 0 false [p.cd,p.sd,.int .i64 (pl:Nat),ld,.ptr ks 0 0])::.box HJ (.mem 0 false [.ptr k9 0 0,rd,.bool e])::.box k9 (.mem 0 false (ay w.dn w.aF .nul))::.aO rd 11 (w.rdy.map ak)::.box ks (.mem 0 false [pd,qd])::.aO pd 1 (P.map dD)::.aO qd 2 (Q.map jz)::.box k8 (.mem 0 false (ay dn aF td))::.box k6 (.mem 0 false (ay false iz .nul))::.aO ld 12 (L.map dS)::(L.map lN++H))∧(j+mm=bS.length)∧(rest=bS.drop j)∧(fZ p.code pl e rest w=W)∧(w.seen.length=p.code.length)∧(w.rdy.length+w.seen.count false≤1048576)∧(cC P Q w.seen)) (bS.length) ?_ ?_
 ·exact⟨0,e4 p.code.length dn aF,bS,.nul,_,_,_,_,rfl,hH,by omega,rfl,hW,by simp[e4],by(have:=List.count_le_length (a:=false) (l:=(e4 p.code.length dn aF).seen);simp[e4] at this⊢;omega),bC⟩
 rintro mm fr st ⟨j,w,rest,rd,pd,qd,P,Q,hfr,hH,hj,kq,hex,j2,pN,bC⟩;rw[hfr];clear hfr;generalize bA fr=ee;clear fr;refine qq ?_;refine qj fun K hK=>?_;refine qg ?_;refine qe hK ?_;have IH:=hH.rows (tJ [_,_,_,_,_,_,_,_,_,_] rfl hl);refine qq ?_;refine af.cond (by rfl) (fun hlt=>?_) (fun hlt=>?_)<;>try simp only[decide_eq_true_eq,decide_eq_false_iff_not] at hlt
 ·refine af.skip ?_;have gp:j<bS.length:=by omega
  obtain⟨t,ht⟩:∃t,bS[j]?=some t:=⟨bS[j]'gp,List.getElem?_eq_getElem _⟩
  have Af:=gC ht;have IE:=vK t (List.mem_of_getElem? ht)
  have uU:rest=t::bS.drop (j+1):=by
   rw[kq,List.drop_eq_getElem_cons gp]
   congr 1
   exact Option.some.inj ((List.getElem?_eq_getElem _).symm.trans ht)
  have pg:=List.count_le_length (a:=false) (l:=w.seen);have E6:=br p.code pl e (p.code.length+1) w t;rw[uU] at hex;have hex:(if(aW p.code pl e (p.code.length+1) w t).2=true then(aW p.code pl e (p.code.length+1) w t).1 else fZ p.code pl e (bS.drop (j+1)) (aW p.code pl e (p.code.length+1) w t).1)=W:=hex;refine qq ?_;refine af.block ?_;refine qq ?_;refine qj fun K hK=>?_;refine ab.Gi rfl (ev rfl) (ev rfl) IH rfl rfl Af (fun _=>(ag rfl _)) (fun K8 GN=>?_);refine qR ?_;refine qa hH fun Qa st Oe hH=>?_;dsimp only[u2,u1,u3,u4,setMany,u5,u6,D.cells,Nat.reduceAdd,aq,ak,ay,ai,dS] at hH;refine qS hH aC fun st hH=>?_;dsimp only[u2,u1,u3,u4,setMany,u5,u6,D.cells,Nat.reduceAdd,aq,ak,ay,ai,dS] at hH;refine qe hK ?_;refine qq ?_;refine qj fun K hK=>?_;refine qm ?_;refine qm ?_;refine ab.aE (m:=11) hH rfl (ev rfl) (by exact aC) (by dsimp only[List.drop_succ_cons,List.drop_zero,List.take_succ_cons,List.take_zero,aq,ak,ay,ai,dS]<;>rfl) rfl rfl (ag rfl _) ?_;have hH:=hH.drop 1;obtain⟨_,st,b4,rfl,hT⟩:=AL (ks:=ks) (kv:=kv) (kw:=HJ) (kl:=k9) (S:=S) (H:=H) (ld:=ld) (e:=e) hF hp hR kr (p.code.length+1) w t _ _ IE j2 (by omega) pN ⟨rd,pd,qd,P,Q,hH,bC⟩;refine qv b4 ?_;refine qe hK ?_;generalize aW p.code pl e (p.code.length+1) w t=R1 at*;obtain⟨w1,b1⟩:=R1;obtain⟨cm,ba,a_,bc⟩:=E6;simp only at cm ba a_ bc hT hex;obtain⟨rd,pd,qd,P,Q,hH,bC⟩:=hT;have jC:w1.seen.length=p.code.length:=cm.trans j2
  cases b1 with
  |true=>
   rw[if_pos rfl] at hex;subst hex;refine qB ?_;refine af.exit ?_;have hH:=Has.jW [_,_,_,_,_,_,_] [_,_] hH;dsimp only[u3,u4] at hH;have pR:=hH;have o7:=gj hH rq;have ta:=hH.lb j8 (k:=k9) rfl;refine qq ?_;generalize hK:iZ _ _ _ _=K;refine af.lT rfl ?_;refine bh.cons ?_;refine ab.aE (m:=12) hH rfl (ev rfl) (by exact j8) (by dsimp only[List.drop_succ_cons,List.drop_zero,List.take_succ_cons,List.take_zero,aq,ak,ay,ai,dS]<;>rfl) rfl rfl (ag rfl _) ?_;refine ab.nil ⟨rfl,?_⟩;refine bh.cons ?_;refine qm ?_;refine ab.nil ⟨rfl,?_⟩;refine bh.cons ?_;refine qg ?_;refine ab.nil ⟨rfl,?_⟩;refine bh.cons ?_;refine qp (o:=1) ?_;refine ab.nil ⟨rfl,?_⟩;refine bh.cons ?_;refine ql hH ef ?_;refine ab.nil ⟨rfl,?_⟩;refine bh.cons ?_;refine qS hH a6 fun st hH=>?_;dsimp only[u2,u1,u3,u4,setMany,u5,u6,D.cells,Nat.reduceAdd,aq,ak,ay,ai,dS] at hH;refine ab.nil ⟨by exact Bool.and_eq_true_iff.2 ⟨eC rfl rfl rfl (pR.at ef) (hH.at ef) (pR.at ef) (by simp only[refs,D.ref];omega),rfl⟩,?_⟩;refine bh.cons ?_;refine qm ?_;refine ab.nil ⟨rfl,?_⟩;refine bh.nil ?_;subst hK;refine af.ret ⟨rx,_,_,_,hH.iE rfl a6 rfl rfl,rfl,rd,rfl,pd,qd,P,Q,_,?_,bC,jC⟩;exact((Has.jW [_,_,_] [_] (hH.drop 2)).erase 2).erase 2
  |false=>
   rw[if_neg (by decide)] at hex;refine qC ?_;refine af.skip ?_;refine qj fun K hK=>?_;refine qA ?_;refine qm ?_;refine qe hK ?_;exact⟨mm-1,by omega,⟨j+1,w1,bS.drop (j+1),rd,pd,qd,P,Q,rfl,hH,by omega,rfl,hex,jC,by omega,bC⟩⟩
 ·refine af.exit ?_;have nF:rest=[]:=by rw[kq,List.drop_eq_nil_iff];omega
  subst nF;have hex:w=W:=hex;subst hex;have hH:=Has.jW [_,_,_,_,_,_,_] [_,_] hH;dsimp only[u3,u4] at hH;have pR:=hH;have o7:=gj hH rq;have ta:=hH.lb j8 (k:=k9) rfl;refine qq ?_;generalize hK:iZ _ _ _ _=K;refine af.lT rfl ?_;refine bh.cons ?_;refine ab.aE (m:=12) hH rfl (ev rfl) (by exact j8) (by dsimp only[List.drop_succ_cons,List.drop_zero,List.take_succ_cons,List.take_zero,aq,ak,ay,ai,dS]<;>rfl) rfl rfl (ag rfl _) ?_;refine ab.nil ⟨rfl,?_⟩;refine bh.cons ?_;refine qm ?_;refine ab.nil ⟨rfl,?_⟩;refine bh.cons ?_;refine qg ?_;refine ab.nil ⟨rfl,?_⟩;refine bh.cons ?_;refine qp (o:=1) ?_;refine ab.nil ⟨rfl,?_⟩;refine bh.cons ?_;refine ql hH ef ?_;refine ab.nil ⟨rfl,?_⟩;refine bh.cons ?_;refine qS hH a6 fun st hH=>?_;dsimp only[u2,u1,u3,u4,setMany,u5,u6,D.cells,Nat.reduceAdd,aq,ak,ay,ai,dS] at hH;refine ab.nil ⟨by exact Bool.and_eq_true_iff.2 ⟨eC rfl rfl rfl (pR.at ef) (hH.at ef) (pR.at ef) (by simp only[refs,D.ref];omega),rfl⟩,?_⟩;refine bh.cons ?_;refine qm ?_;refine ab.nil ⟨rfl,?_⟩;refine bh.nil ?_;subst hK;refine af.ret ⟨rx,_,_,_,hH.iE rfl a6 rfl rfl,rfl,rd,rfl,pd,qd,P,Q,_,?_,bC,j2⟩;exact((Has.jW [_,_,_] [_] (hH.drop 2)).erase 2).erase 2
def aS (fr:Go.V.Fr) (k:Nat):Go.V.D:=Go.V.nth .aZ fr.loc k
def d_ (l:List eL) (k:Nat):Bool:=l.any fun x=>x.pc==k
def fX (l:List eL) (t:eL):List eL:=if d_ l t.pc=true then l else l++[t]
def oz (code:List bo) (pc:Nat):List Rg:=match code[pc]? with
 |some i=>i.rs
 |none=>[]
def du (code:List bo) (r:Int):List eL→List eL→List eL
 |[],a=>a
 |t::ts,a=>du code r ts (if ec (oz code t.pc) r=true then fX a ⟨t.pc+1,t.c⟩ else a)
structure PL where
 dn:Bool
 aF:n_
 bS:List eL
def dt (code:List bo) (pl start:Nat) (r:Int) (l:PL):PL:=
 ⟨(fZ code pl false l.bS (e4 code.length l.dn l.aF)).dn,(fZ code pl false l.bS (e4 code.length l.dn l.aF)).aF,
  if(fZ code pl false l.bS (e4 code.length l.dn l.aF)).dn=true then du code r (fZ code pl false l.bS (e4 code.length l.dn l.aF)).rdy []
  else fX (du code r (fZ code pl false l.bS (e4 code.length l.dn l.aF)).rdy []) ⟨start,bw⟩⟩
theorem ly (l:List eL) (t:eL) (k:Nat):d_ (l++[t]) k=(d_ l k||t.pc==k):=by
 unfold d_;rw[List.any_append];simp
theorem lM (l:List eL) (t:eL):(fX l t).length≤l.length+1:=by
 unfold fX;split
 ·omega
 ·simp
theorem pL {l:List eL} {t x:eL} (h:x∈fX l t):x∈l∨x=t:=by
 unfold fX at h;split at h
 ·exact .inl h
 ·rcases List.mem_append.1 h with h|h
  ·exact .inl h
  ·exact .inr (by simpa using h)
theorem kU {code:List bo} {r:Int}:∀(l a:List eL),(du code r l a).length≤l.length+a.length∧∀x∈du code r l a,x∈a∨∃t∈l,x.pc=t.pc+1
 |[],a=>⟨by simp[du],fun x h=>.inl h⟩
 |t::ts,a=>by
  unfold du
  split
  ·obtain⟨h1,h2⟩:=kU (code:=code) (r:=r) ts (fX a ⟨t.pc+1,t.c⟩);have:=lM a ⟨t.pc+1,t.c⟩;refine⟨by simp only[List.length_cons];omega,fun x hx=>?_⟩
   rcases h2 x hx with h|⟨y,hy,he⟩
   ·rcases pL h with h|h
    ·exact .inl h
    ·exact .inr ⟨t,List.mem_cons_self ..,by rw[h]⟩
   ·exact .inr ⟨y,List.mem_cons_of_mem _ hy,he⟩
  ·obtain⟨h1,h2⟩:=kU (code:=code) (r:=r) ts a;refine⟨by simp only[List.length_cons];omega,fun x hx=>?_⟩
   rcases h2 x hx with h|⟨y,hy,he⟩
   ·exact .inl h
   ·exact .inr ⟨y,List.mem_cons_of_mem _ hy,he⟩
def PL.ok (n:Nat) (l:PL):Prop:=(∀t∈l.bS,t.pc<n)∧l.bS.length≤1000
theorem je {code:List bo} {pl:Nat} {e:Bool} {l:List eL} {dn:Bool} {aF:n_}:(fZ code pl e l (e4 code.length dn aF)).rdy.length≤code.length∧∀t∈(fZ code pl e l (e4 code.length dn aF)).rdy,∃i,code[t.pc]?=some i∧i.op=1:=by
 obtain⟨_,_,h3,h4⟩:=lC code pl e l (e4 code.length dn aF);have:=List.count_le_length (a:=false) (l:=(e4 code.length dn aF).seen);simp only[e4,List.length_replicate,List.length_nil] at h3 this;refine⟨by simp only[e4];omega,fun t ht=>?_⟩
 rcases h4 t ht with h|h
 ·simp[e4] at h
 ·exact h
theorem kP {p:Pg} (hR:bf p) {t:eL} (h:∃i,p.code[t.pc]?=some i∧i.op=1):t.pc+1<p.code.length:=by
 obtain⟨i,hi,h1⟩:=h;have:=fq (hR.sh t.pc i hi);omega
theorem tQ {p:Pg} (hR:bf p) {pl start:Nat} {r:Int} {l:PL} (hs:start<p.code.length):(dt p.code pl start r l).ok p.code.length:=by
 obtain⟨h1,h2⟩:=je (code:=p.code) (pl:=pl) (e:=false) (l:=l.bS) (dn:=l.dn) (aF:=l.aF);have hcl:=hR.cl;unfold dt PL.ok;generalize fZ p.code pl false l.bS (e4 p.code.length l.dn l.aF)=w at*;obtain⟨h3,h4⟩:=kU (code:=p.code) (r:=r) w.rdy []
 have h5:∀x∈du p.code r w.rdy [],x.pc<p.code.length:=fun x hx=>by
  rcases h4 x hx with h|⟨t,ht,he⟩
  ·cases h
  ·have:=kP hR (h2 t ht);omega
 simp only[List.length_nil] at h3;simp only
 split
 ·exact⟨h5,by omega⟩
 ·refine⟨fun x hx=>?_,?_⟩
  ·rcases pL hx with h|h
   ·exact h5 x h
   ·rw[h];exact hs
  ·have:=lM (du p.code r w.rdy []) ⟨start,bw⟩;omega
theorem tP (fh:∀st,Ev pv 57 [] st (.agg (ai bw)) st) {N ks kv:Nat} {S s0:St} {H:List bB} {p:Pg} {pl:Nat} {ld:D} {L:List VL} {i start:Nat} {l:VL} {r:Int} (hF:S.flr≤N) (hp:p.ok) (hR:bf p) (kr:pl≤1099511627776) (hl:L[i]?=some l) (AW:p.starts[i]?=some ((start:Nat):Int)) (vK:(⟨l.dn,l.aF,l.bS⟩:PL).ok p.code.length) (hM:MH [] N S s0 ks kv p pl ld L H):
  ∃d ae,Ev pv 44 [.ptr kv 0 0,.int .i64 (i:Nat),.int .i32 r] s0 d ae∧∃td,d=.agg (ay (dt p.code pl start r ⟨l.dn,l.aF,l.bS⟩).dn (dt p.code pl start r ⟨l.dn,l.aF,l.bS⟩).aF td)∧MH [.aO td 11 ((dt p.code pl start r ⟨l.dn,l.aF,l.bS⟩).bS.map ak)] N S ae ks kv p pl ld L H:=by
 have hcl:=hR.cl;have hc:=hp.c.arg N S;have hs:=hp.s.arg N S;have hlen:=hp.cl;have EE:start<p.code.length:=by have:=(hR.st _ (List.mem_of_getElem? AW)).2;omega
 have IK:=fJ AW;obtain⟨Gy,IF⟩:=vK;simp only at Gy IF;obtain⟨hb1,hb2⟩:=je (code:=p.code) (pl:=pl) (e:=false) (l:=l.bS) (dn:=l.dn) (aF:=l.aF);obtain⟨pd,qd,P,Q,sn,hH,bC,dO⟩:=hM;dsimp only[u4] at hH;unfold dt;simp only;refine Ev.ni rfl Kj rfl rfl rfl ?_;dsimp only[u3,u4,List.length,Nat.reduceSub,Nat.reduceAdd,w1,w2];change af _ _ _ _ s0 _;refine qq ?_;refine qj fun K hK=>?_;refine qa hH fun k6 st HR hH=>?_;refine qe hK ?_;obtain⟨_,st1,b4,rd,rfl,hM⟩:=mI (e:=false) hF hp hR kr hl Gy (by omega) (MH.push [_] [] ⟨pd,qd,P,Q,sn,hH,bC,dO⟩);clear bC dO;have hM:=MH.pull [_] [_] hM;generalize fZ p.code pl false l.bS (e4 p.code.length l.dn l.aF)=W at*;obtain⟨pd,qd,P,Q,sn,n9,bC,dO⟩:=hM;dsimp only[u3,u4] at n9;refine qq ?_;refine qj fun K hK=>?_;refine qm ?_;refine qm ?_;have hH:=n9;refine qv b4 ?_;refine qm ?_;refine qg ?_;refine qg ?_;refine qa hH fun k7 st FK hH=>?_;refine qS hH aC fun st hH=>?_;dsimp only[u2,u1,u3,u4,setMany,u5,u6,D.cells,Nat.reduceAdd,aq,ak,ay,ai,dS] at hH;refine qm ?_;refine qe hK ?_;clear n9;refine qq ?_;refine qj fun K hK=>?_;refine qm ?_;refine qg ?_;refine qp (o:=4) ?_;refine ql hH ef ?_;obtain⟨_,st,b4,rfl,pd,qd,P,Q,hH,bC⟩:=jT [_,_,_,_] hF bC hH;dsimp only[u3,u4] at hH;refine qv b4 ?_;refine qe hK ?_;rw[dO] at bC;refine qq ?_;refine qq ?_;refine qj fun K hK=>?_;refine qm ?_;refine qn ?_ (hR:=hH.rows dI);simp only[List.length_map];refine qm ?_;refine qe hK ?_;have hH:=Has.jW [_] [_] (hH.hQ 11);dsimp only[u3,u4] at hH
 obtain⟨A,hA⟩:∃A,du p.code r W.rdy []=A:=⟨_,rfl⟩
 rw[hA];refine af.block ?_;refine af.loop (fun mm fr st=>∃(j:Nat) (acc rest:List eL) (td pd qd:D) (P Q:List Nat) (sn:List Bool),fr.clean=⟨25,[.ptr kv 0 0,.int .i64 (i:Nat),.int .i32 r,aS fr 3,aS fr 4,aS fr 5,.ptr k6 0 0,.ptr k7 0 0,rd,aS fr 9,aS fr 10,aS fr 11,aS fr 12,aS fr 13,aS fr 14,aS fr 15,aS fr 16,aS fr 17,aS fr 18,aS fr 19,aS fr 20,aS fr 21,rd,.int .i64 (W.rdy.length:Nat),.int .i64 (j:Nat)],[]⟩∧Has N S st (.box k7 (.mem 0 false (ay W.dn W.aF td))::.aO td 11 (acc.map ak)::.box k6 (.mem 0 false (ay false iz .nul))::.aO rd 11 (W.rdy.map ak)::.box kv (.mem 0 false [p.cd,p.sd,.int .i64 (pl:Nat),ld,.ptr ks 0 0])::.box ks (.mem 0 false [pd,qd])::.aO pd 1 (P.map dD)::.aO qd 2 (Q.map jz)::.aO ld 12 (L.map dS)::(L.map lN++H))∧(j+mm=W.rdy.length)∧(rest=W.rdy.drop j)∧(du p.code r rest acc=A)∧(acc.length≤j)∧(cC P Q sn)∧(sn.length=p.code.length)∧(∀k,k<p.code.length→sn[k]?=some (d_ acc k))) (W.rdy.length) ?_ ?_
 ·refine⟨0,[],W.rdy,.nul,_,_,_,_,_,rfl,hH,by omega,rfl,hA,by simp,bC,by simp,(fun k hk=>by rw[List.getElem?_replicate,if_pos hk];rfl)⟩
 rintro mm fr st ⟨j,acc,rest,td,pd,qd,P,Q,sn,hfr,hH,hj,kq,hex,hal,bC,dO,Gz⟩;rw[hfr];clear hfr;generalize aS fr=ee;clear fr;refine qq ?_;refine qj fun K hK=>?_;refine qg ?_;refine qe hK ?_;refine qq ?_;refine af.cond (by rfl) (fun hlt=>?_) (fun hlt=>?_)<;>try simp only[decide_eq_true_eq,decide_eq_false_iff_not] at hlt
 ·refine af.skip ?_;have gp:j<W.rdy.length:=by omega
  obtain⟨t,ht⟩:∃t,W.rdy[j]?=some t:=⟨W.rdy[j]'gp,List.getElem?_eq_getElem _⟩
  have Af:=gC ht;obtain⟨ii,hii,Jx⟩:=hb2 t (List.mem_of_getElem? ht);have Ll:=kP hR ⟨ii,hii,Jx⟩;have lp:=dv hii;have tB:=hp.i ii (List.mem_of_getElem? hii);have uM:=tB.1;have Ag:=uM.arg N S;have II:=tB.2
  have uU:rest=t::W.rdy.drop (j+1):=by
   rw[kq,List.drop_eq_getElem_cons gp]
   congr 1
   exact Option.some.inj ((List.getElem?_eq_getElem _).symm.trans ht)
  rw[uU] at hex;have EJ:oz p.code t.pc=ii.rs:=by unfold oz;rw[hii]
  unfold du at hex;rw[EJ] at hex;have IU:d_ acc (t.pc+1)=d_ acc (t.pc+1):=rfl;generalize JM:d_ acc (t.pc+1)=bq at IU;have Ae:=Gz (t.pc+1) Ll;rw[JM] at Ae;refine qq ?_;refine af.block ?_;refine qq ?_;refine qj fun K hK=>?_;refine qi hH ef fun PO NJ=>?_;refine ab.nd hH rfl (ev rfl) (by assumption) (by exact ef) (by assumption) rfl (ag rfl _) ?_;refine qa hH fun AR st Js hH=>?_;dsimp only[u2,u1,u3,u4,setMany,u5,u6,D.cells,Nat.reduceAdd,aq,ak,ay,ai,dS] at hH;refine qS hH aC fun st hH=>?_;dsimp only[u2,u1,u3,u4,setMany,u5,u6,D.cells,Nat.reduceAdd,aq,ak,ay,ai,dS] at hH;refine qe hK ?_
  cases bV:ec ii.rs r with
  |false=>
   rw[bV,if_neg (by decide)] at hex;refine qq ?_;refine qj fun K hK=>?_;refine qm ?_;refine qg ?_;refine qp (o:=0) ?_;refine qp (o:=0) ?_;refine ql hH rq ?_;refine qp (o:=0) ?_;refine ql hH aC ?_;refine qr fun HG Ah=>?_;refine qf (fo:=3) fun Ii ES=>?_;refine qR ?_;refine qm ?_;refine qv (uY (Ag.rows hH) (by omega)) ?_;refine qm ?_;refine qs ?_ (hg:=wn bV);refine qs ?_ (hg:=wn bV);refine qs ?_ (hg:=wn bV);refine qs ?_ (hg:=wn bV);refine qs ?_ (hg:=wn bV);refine qs ?_ (hg:=wn bV);refine qs ?_ (hg:=wn bV);refine qs ?_ (hg:=wn bV);refine qu bV ?_;refine qe hK ?_;refine qC ?_;refine af.skip ?_;refine qj fun K hK=>?_;refine qA ?_;refine qm ?_;refine qe hK ?_;exact⟨mm-1,by omega,⟨j+1,acc,W.rdy.drop (j+1),td,pd,qd,P,Q,sn,rfl,(hH.drop 1),by omega,rfl,hex,by omega,bC,dO,Gz⟩⟩
  |true=>
   rw[bV,if_pos rfl] at hex;have hex:du p.code r (W.rdy.drop (j+1)) (if d_ acc (t.pc+1)=true then acc else acc++[⟨t.pc+1,t.c⟩])=A:=hex;rw[JM] at hex;have ko:t.pc+1<sn.length:=by omega
   refine qq ?_;refine qj fun K hK=>?_;refine qm ?_;refine qg ?_;refine qp (o:=0) ?_;refine qp (o:=0) ?_;refine ql hH rq ?_;refine qp (o:=0) ?_;refine ql hH aC ?_;refine qr fun HG Ah=>?_;refine qf (fo:=3) fun Ii ES=>?_;refine qR ?_;refine qm ?_;refine qv (uY (Ag.rows hH) (by omega)) ?_;refine qm ?_;refine qm ?_ (hg:=wi bV);refine qg ?_ (hg:=wi bV);refine qp (o:=4) ?_ (hg:=wi bV);refine ql hH rq ?_ (hg:=wi bV);refine qp (o:=0) ?_ (hg:=wi bV);refine ql hH aC ?_ (hg:=wi bV);refine qA ?_ (hg:=wi bV);obtain⟨_,st,b4,rfl,pd,qd,P,Q,hH,bC⟩:=jj [_,_,_,_,_,_] hF Ae bC hH;dsimp only[u3,u4] at hH;refine qv b4 ?_ (hg:=wi bV);refine qt bV ?_;refine qe hK ?_
   cases bq with
   |true=>
    rw[if_pos rfl] at hex;refine qC ?_;refine af.skip ?_;refine qj fun K hK=>?_;refine qA ?_;refine qm ?_;refine qe hK ?_;refine⟨mm-1,by omega,⟨j+1,acc,W.rdy.drop (j+1),td,pd,qd,P,Q,sn.set (t.pc+1) true,rfl,(hH.drop 1),by omega,rfl,hex,by omega,bC,by rw[List.length_set];exact dO,?_⟩⟩;intro k hk
    by_cases hkk:k=t.pc+1
    ·subst hkk;rw[List.getElem?_set_self ko,JM]
    ·rw[List.getElem?_set_ne (fun e=>hkk e.symm)];exact Gz k hk
   |false=>
    rw[if_neg (by decide)] at hex;refine qB ?_;refine qq ?_;refine qj fun K hK=>?_;refine qp (o:=0) ?_;refine ql hH aC ?_;refine qA ?_;refine qp (o:=0) ?_;refine qT hH aC fun st hH=>?_;dsimp only[u2,u1,u3,u4,setMany,u5,u6,D.cells,Nat.reduceAdd,aq,ak,ay,ai,dS] at hH;refine qe hK ?_;refine qj fun K hK=>?_;refine qp (o:=11) ?_;refine ql hH a6 ?_;refine ab.aE (m:=11) hH rfl (ev rfl) (by exact aC) (by dsimp only[List.drop_succ_cons,List.drop_zero,List.take_succ_cons,List.take_zero,aq,ak,ay,ai,dS]<;>rfl) rfl rfl (ag rfl _) ?_;refine qh (s:=11) (vs:=[_]) hH fun PZ st N1 hH=>?_;refine ab.bk (s:=11) hH rfl (ev rfl) (ev rfl) (by exact ef) (by exact hH.rows (by exact aC)) rfl rfl rfl rfl rfl rfl rfl ⟨(Nat.le_of_ble_eq_true rfl),(Nat.le_of_ble_eq_true rfl)⟩ (fun _=>(ag rfl _)) (by simp only[List.length_cons,List.length_nil,List.length_map]<;>omega) (by exact .inl hF) (fun L9 st hH=>?_);dsimp only[u2,u1,u3,u4,setMany,u5,u6,D.cells,Nat.reduceAdd,aq,ak,ay,ai,dS] at hH;refine qp (o:=11) ?_;refine qT hH dI (fun st hH=>?_) (fM:=hH.dY ef);dsimp only[u2,u1,u3,u4,setMany,u5,u6,D.cells,Nat.reduceAdd,aq,ak,ay,ai,dS] at hH;refine qe hK ?_;refine qj fun K hK=>?_;refine qA ?_;refine qm ?_;refine qe hK ?_;refine⟨mm-1,by omega,⟨j+1,acc++[⟨t.pc+1,t.c⟩],W.rdy.drop (j+1),L9,pd,qd,P,Q,sn.set (t.pc+1) true,rfl,(by rw[List.map_append];exact hH.drop 2),by omega,rfl,hex,by simp;omega,bC,by rw[List.length_set];exact dO,?_⟩⟩;intro k hk;rw[ly]
    by_cases hkk:k=t.pc+1
    ·subst hkk;rw[List.getElem?_set_self ko];simp
    ·rw[List.getElem?_set_ne (fun e=>hkk e.symm),Gz k hk];have:(t.pc+1==k)=false:=by rw[beq_eq_false_iff_ne];omega
     simp only[this,Bool.or_false]
 ·refine af.exit ?_;have nF:rest=[]:=by rw[kq,List.drop_eq_nil_iff];omega
  subst nF;have hex:acc=A:=hex;subst hex;clear hA kq;have Ae:=Gz start EE;refine qq ?_;refine qq ?_;refine af.nk (fun fr st=>∃(bS:List eL) (td pd qd:D) (P Q:List Nat) (sn:List Bool) (tmp:List (Nat×D)),fr=⟨25,[aS fr 0,aS fr 1,aS fr 2,aS fr 3,aS fr 4,aS fr 5,.ptr k6 0 0,.ptr k7 0 0,aS fr 8,aS fr 9,aS fr 10,aS fr 11,aS fr 12,aS fr 13,aS fr 14,aS fr 15,aS fr 16,aS fr 17,aS fr 18,aS fr 19,aS fr 20,aS fr 21,aS fr 22,aS fr 23,aS fr 24],tmp⟩∧Has N S st (.box k7 (.mem 0 false (ay W.dn W.aF td))::.aO td 11 (bS.map ak)::.box k6 (.mem 0 false (ay false iz .nul))::.aO rd 11 (W.rdy.map ak)::.box kv (.mem 0 false [p.cd,p.sd,.int .i64 (pl:Nat),ld,.ptr ks 0 0])::.box ks (.mem 0 false [pd,qd])::.aO pd 1 (P.map dD)::.aO qd 2 (Q.map jz)::.aO ld 12 (L.map dS)::(L.map lN++H))∧(bS=(if W.dn=true then acc else fX acc ⟨start,bw⟩))∧(cC P Q sn)∧(sn.length=p.code.length)) ?_ ?_
  ·cases Hi:W.dn with
   |true=>
    rw[Hi] at hH;have a_:(!true)=false:=rfl;refine qj fun K hK=>?_;refine qp (o:=0) ?_;refine ql hH aC ?_;refine qg ?_;refine qm ?_;refine qs ?_ (hg:=wn a_);refine qs ?_ (hg:=wn a_);refine qs ?_ (hg:=wn a_);refine qs ?_ (hg:=wn a_);refine qs ?_ (hg:=wn a_);refine qs ?_ (hg:=wn a_);refine qs ?_ (hg:=wn a_);refine qs ?_ (hg:=wn a_);refine qs ?_ (hg:=wn a_);refine qs ?_ (hg:=wn a_);refine qs ?_ (hg:=wn a_);refine qs ?_ (hg:=wn a_);refine qs ?_ (hg:=wn a_);refine qu a_ ?_;refine qe hK ?_;refine qC ?_;refine af.skip ?_;exact⟨acc,td,pd,qd,P,Q,sn,_,rfl,hH,rfl,bC,dO⟩
   |false=>
    rw[Hi] at hH;have a_:(!false)=true:=rfl;refine qj fun K hK=>?_;refine qp (o:=0) ?_;refine ql hH aC ?_;refine qg ?_;refine qm ?_;refine qm ?_ (hg:=wi a_);refine qg ?_ (hg:=wi a_);refine qp (o:=4) ?_ (hg:=wi a_);refine ql hH j8 ?_ (hg:=wi a_);refine qm ?_ (hg:=wi a_);refine qg ?_ (hg:=wi a_);refine qp (o:=0) ?_ (hg:=wi a_);refine qp (o:=1) ?_ (hg:=wi a_);refine ql hH j8 ?_ (hg:=wi a_);refine qm ?_ (hg:=wi a_);refine qr (fun Pu Np=>?_) (hg:=wi a_);refine qR ?_ (hg:=wi a_);obtain⟨_,st,b4,rfl,pd,qd,P,Q,hH,bC⟩:=jj [_,_,_,_,_] hF Ae bC hH;dsimp only[u3,u4] at hH;refine qv b4 ?_ (hg:=wi a_);refine qt a_ ?_;refine qe hK ?_
    by_cases AX:d_ acc start=true
    ·refine qE rfl (by rw[AX];rfl) ?_;refine af.skip ?_;exact⟨acc,td,pd,qd,P,Q,sn.set start true,_,rfl,hH,by unfold fX;rw[if_neg (by decide),if_pos AX],bC,by rw[List.length_set];exact dO⟩
    ·refine qD rfl (by rw[Bool.eq_false_iff.2 AX];rfl) ?_;refine qj fun K hK=>?_;refine qp (o:=11) ?_;refine ql hH aC ?_;refine qm ?_;refine qg ?_;refine qp (o:=0) ?_;refine qp (o:=1) ?_;refine ql hH j8 ?_;refine qm ?_;refine qr fun Mi IW=>?_;refine qR ?_;refine qv (fh _) ?_;refine ab.go (d:=.agg (ak ⟨start,bw⟩)) (st1:=_) rfl rfl rfl (ag rfl _) ?_;refine qh (s:=11) (vs:=[_]) hH fun PV st NW hH=>?_;dsimp only[u2,u1,u3,u4,setMany,u5,u6,D.cells,Nat.reduceAdd,aq,ak,ay,ai,dS] at hH;refine ab.bk (s:=11) hH rfl (ev rfl) (ev rfl) (by exact dI) (by exact hH.rows (by exact aC)) rfl rfl rfl rfl rfl rfl rfl ⟨(Nat.le_of_ble_eq_true rfl),(Nat.le_of_ble_eq_true rfl)⟩ (fun _=>(ag rfl _)) (by simp only[List.length_cons,List.length_nil,List.length_map]<;>omega) (by exact .inl hF) (fun L6 st hH=>?_);dsimp only[u2,u1,u3,u4,setMany,u5,u6,D.cells,Nat.reduceAdd,aq,ak,ay,ai,dS] at hH;refine qp (o:=11) ?_;refine qT hH a6 (fun st hH=>?_) (fM:=hH.dY dI);dsimp only[u2,u1,u3,u4,setMany,u5,u6,D.cells,Nat.reduceAdd,aq,ak,ay,ai,dS] at hH;refine qe hK ?_;exact⟨acc++[⟨start,bw⟩],L6,pd,qd,P,Q,sn.set start true,_,rfl,(by rw[List.map_append];exact hH.drop 1),by unfold fX;rw[if_neg (by decide),if_neg AX],bC,by rw[List.length_set];exact dO⟩
  ·rintro fr st ⟨bS,td,pd,qd,P,Q,sn,tmp,hfr,hH,EC,bC,dO⟩;rw[hfr];clear hfr;generalize aS fr=ee;clear fr;refine qq ?_;refine qj fun K hK=>?_;refine ab.aE (m:=12) hH rfl (ev rfl) (by exact aC) (by dsimp only[List.drop_succ_cons,List.drop_zero,List.take_succ_cons,List.take_zero,aq,ak,ay,ai,dS]<;>rfl) rfl rfl (ag rfl _) ?_;refine qS hH dI fun st hH=>?_;dsimp only[u2,u1,u3,u4,setMany,u5,u6,D.cells,Nat.reduceAdd,aq,ak,ay,ai,dS] at hH;refine qe hK ?_;refine af.ret ⟨rx,_,_,_,hH.iF rfl dI rfl,rfl,td,rfl,pd,qd,P,Q,sn,?_,bC,dO⟩;rw[←EC];exact((hH.drop 1).erase 1).erase 1
def nA (fr:Go.V.Fr) (k:Nat):Go.V.D:=Go.V.nth .aZ fr.loc k
theorem sJ {f:n_} {x:Nat} {v:Int} (hx:x<10):setMany (ai f) x [.int .i64 v]=ai (tS f x v):=by
 match x,hx with
 |0,_=>rfl
 |1,_=>rfl
 |2,_=>rfl
 |3,_=>rfl
 |4,_=>rfl
 |5,_=>rfl
 |6,_=>rfl
 |7,_=>rfl
 |8,_=>rfl
 |9,_=>rfl
theorem ub {N:Nat} {S s0:St} {H:List bB} {x:D} {l:List eL} {t:eL} (hF:S.flr≤N) (hl:l.length≤1000000) (hH:Has N S s0 (.aO x 11 (l.map ak)::H)):
  ∃d ae,Ev pv 45 [x,.agg (ak t)] s0 d ae∧Has N S ae (.aO d 11 ((fX l t).map ak)::H):=by
 refine Ev.ni rfl Ki rfl rfl rfl ?_;dsimp only[u3,u4,List.length,Nat.reduceSub,Nat.reduceAdd,w1,w2];change af _ _ _ _ s0 _;refine qq ?_;refine qj fun K hK=>?_;refine qb hH fun k3 st G8 hH=>?_;dsimp only[u2,u1,u3,u4,setMany,u5,u6,D.cells,Nat.reduceAdd,ak] at hH;refine qm ?_;refine qe hK ?_;refine qq ?_;refine qq ?_;refine qj fun K hK=>?_;refine qm ?_;refine qe hK ?_;refine af.block ?_;refine af.loop (fun mm fr st=>∃(i:Nat),fr.clean=⟨6,[x,nA fr 1,nA fr 2,.ptr k3 0 0,nA fr 4,.int .i64 (i:Nat)],[]⟩∧Has N S st (.box k3 (.mem 0 false (ak t))::.aO x 11 (l.map ak)::H)∧(i+mm=l.length)∧(d_ (l.take i) t.pc=false)) (l.length) ?_ ?_
 ·exact⟨0,rfl,hH,by omega,rfl⟩
 rintro mm fr st ⟨i,hfr,hH,hi,hno⟩;rw[hfr];clear hfr;generalize nA fr=ee;clear fr;refine qq ?_;refine qq ?_;refine qj fun K hK=>?_;refine qm ?_;refine qm ?_;refine qn ?_ (hR:=hH.rows a6);simp only[List.length_map];refine qg ?_;refine qe hK ?_;refine af.cond (by rfl) (fun h1=>?_) (fun h1=>?_)<;>try simp only[decide_eq_true_eq,decide_eq_false_iff_not] at h1
 ·refine af.skip ?_
  obtain⟨q,hq⟩:∃q,l[i]?=some q:=⟨l[i]'(by omega),List.getElem?_eq_getElem _⟩
  have ie:=gC hq;have MW:l.take (i+1)=l.take i++[q]:=by rw[List.take_add_one,hq];rfl
  refine qq ?_;refine af.block ?_;refine qq ?_;refine qj fun K hK=>?_;refine qm ?_;refine qm ?_;refine qi hH a6 fun Mv I9=>?_;refine ab.fF (fo:=0) (m:=0) (o2:=0) rfl (ev rfl) (by assumption) rfl rfl rfl (fun _=>(ag rfl _)) (fun Il EV=>?_);refine qo hH a6 ?_;refine qp (o:=0) ?_;refine ql hH aC ?_;refine qg ?_;refine qe hK ?_
  by_cases he:q.pc=t.pc
  ·refine qD rfl (by rw[he];simp) ?_;refine qq ?_;refine qj fun K hK=>?_;refine qm ?_;refine qm ?_;refine qe hK ?_;refine af.ret ⟨rx,_,_,_,rfl,rfl,?_⟩
   have:fX l t=l:=by
    unfold fX;rw[if_pos];unfold d_;rw[List.any_eq_true];exact⟨q,List.mem_of_getElem? hq,by simp[he]⟩
   rw[this];exact hH.drop 1
  ·refine qE rfl (by simp;omega) ?_;refine af.skip ?_;refine qj fun K hK=>?_;refine qm ?_;refine qA ?_;refine qm ?_;refine qe hK ?_;exact⟨mm-1,by omega,⟨i+1,rfl,hH,by omega,by(rw[MW,ly,hno];simp[he])⟩⟩
 ·refine af.exit ?_;refine qq ?_;refine qj fun K hK=>?_;refine qm ?_;refine ab.aE (m:=11) hH rfl (ev rfl) (by exact aC) (by dsimp only[List.drop_succ_cons,List.drop_zero,List.take_succ_cons,List.take_zero,ak]<;>rfl) rfl rfl (ag rfl _) ?_;refine qh (s:=11) (vs:=[_]) hH fun HK st G_ hH=>?_;dsimp only[u2,u1,u3,u4,setMany,u5,u6,D.cells,Nat.reduceAdd,ak] at hH;refine ab.bk (s:=11) hH rfl (ev rfl) (ev rfl) (by exact dI) (by exact hH.rows (by exact aC)) rfl rfl rfl rfl rfl rfl rfl ⟨(Nat.le_of_ble_eq_true rfl),(Nat.le_of_ble_eq_true rfl)⟩ (fun _=>(ag rfl _)) (by simp only[List.length_cons,List.length_nil,List.length_map]<;>omega) (by exact .inl hF) (fun KO st hH=>?_);dsimp only[u2,u1,u3,u4,setMany,u5,u6,D.cells,Nat.reduceAdd,ak] at hH;refine qm ?_;refine qe hK ?_;refine af.ret ⟨rx,_,_,_,rfl,rfl,?_⟩;have hil:i=l.length:=by omega
  rw[hil,List.take_length] at hno;have:fX l t=l++[t]:=by unfold fX;rw[if_neg (by rw[hno];decide)]
  rw[this,List.map_append];exact hH.drop 2
def L3 (N:Nat) (S st:St) (ka kl:Nat) (p:Pg) (sd:D) (pl:Nat) (e:Bool) (w:Wk) (H:List bB):Prop:=
 ∃od,Has N S st (.box ka (.mem 0 false [p.cd,p.sd,.ptr kl 0 0,sd,.int .i64 (pl:Nat),.bool e,od])::.box kl (.mem 0 false (ay w.dn w.aF .nul))::.aO sd 1 (w.seen.map aL)::.aO od 11 (w.rdy.map ak)::H)
theorem ov {N ka kl:Nat} {S:St} {p:Pg} {sd:D} {pl:Nat} {e:Bool} (hF:S.flr≤N) (hp:p.ok) (hR:bf p) (kr:pl≤1099511627776):∀(f:Nat) (w:Wk) (t:eL) (s0:St) (H:List bB),t.pc<p.code.length→w.seen.length=p.code.length→w.seen.count false<f→w.rdy.length+w.seen.count false≤1048576→L3 N S s0 ka kl p sd pl e w H→
  ∃r ae,Ev pv 62 [.ptr ka 0 0,.int .i64 (t.pc:Nat),.agg (ai t.c)] s0 r ae∧r=.bool (aW p.code pl e f w t).2∧L3 N S ae ka kl p sd pl e (aW p.code pl e f w t).1 H
 |0,_,_,_,_,_,_,h,_,_=>absurd h (Nat.not_lt_zero _)
 |f+1,w,t,s0,H,tb,j2,cy,pN,hT=>by
  have ih:=ov (ka:=ka) (kl:=kl) (S:=S) (sd:=sd) (e:=e) hF hp hR kr f;obtain⟨od,hH⟩:=hT;have hc:=hp.c.arg N S;have hlen:=hp.cl
  obtain⟨i,hi⟩:∃i,p.code[t.pc]?=some i:=⟨p.code[t.pc]'tb,List.getElem?_eq_getElem _⟩
  obtain⟨b,hb⟩:∃b,w.seen[t.pc]?=some b:=⟨w.seen[t.pc]'(by omega),List.getElem?_eq_getElem _⟩
  have hr:=dv hi;have kq:=gy hb;have qW:=(hp.i i (List.mem_of_getElem? hi)).1;have ij:=fq (hR.sh t.pc i hi);have Hc:=l8 hb;have cF:aW p.code pl e (f+1) w t=aW p.code pl e (f+1) w t:=rfl
  conv at cF=>rhs;unfold aW
  rw[Hc] at cF;simp only[hi] at cF;generalize aW p.code pl e (f+1) w t=R at*;obtain⟨op,x,y,KW,rs⟩:=i;obtain⟨pc,c⟩:=t;simp only at*;refine Ev.ni rfl J_ rfl rfl rfl ?_;dsimp only[u3,u4,List.length,Nat.reduceSub,Nat.reduceAdd,w1,w2];change af _ _ _ _ s0 _;refine qq ?_;refine qj fun K hK=>?_;refine qb hH fun k5 st vN hH=>?_;dsimp only[u2,u1,u3,u4,setMany,u5,u6,D.cells,Nat.reduceAdd,aq,ak,ay,ai,aL] at hH;refine qm ?_;refine qe hK ?_;refine qq ?_;refine qq ?_;refine qj fun K hK=>?_;refine qm ?_;refine qg ?_;refine qp (o:=3) ?_;refine ql hH a6 ?_;refine qm ?_;refine qi hH ef fun PQ NK=>?_;refine qo hH ef ?_;refine qe hK ?_
  cases b with
  |true=>
   rw[if_pos rfl] at cF;subst cF;refine qB ?_;refine qq ?_;refine qj fun K hK=>?_;refine qm ?_;refine qe hK ?_;refine af.ret ⟨rx,_,_,_,rfl,rfl,?_⟩;exact⟨rfl,od,hH.drop 1⟩
  |false=>
   rw[if_neg (by decide)] at cF;have pg:=count_set hb;have jC:(w.seen.set pc true).length=p.code.length:=by rw[List.length_set];exact j2
   have pk:(w.seen.set pc true).count false<f:=by omega
   have o5:w.rdy.length+(w.seen.set pc true).count false≤1048576:=by omega
   have ic:(w.seen.map aL).set pc [.bool true]=(w.seen.set pc true).map aL:=by rw[List.map_set];rfl
   refine qC ?_;refine af.skip ?_;refine qq ?_;refine qj fun K hK=>?_;refine qm ?_;refine qg ?_;refine qp (o:=3) ?_;refine ql hH a6 ?_;refine qm ?_;refine qi hH ef fun K' GQ=>?_;refine ab.fz hH rfl (ev rfl) (ev rfl) (by assumption) rfl rfl (by exact ef) (by assumption) (Nat.le_of_ble_eq_true rfl) (by exact .inl hF) (fun st hH=>?_);dsimp only[u2,u1,u3,u4,setMany,u5,u6,D.cells,Nat.reduceAdd,aq,ak,ay,ai,aL] at hH;refine qe hK ?_;rw[ic] at hH;generalize w.seen.set pc true=sn at*;clear hb Hc pg j2 cy pN ic kq;refine qq ?_;refine qj fun K hK=>?_;refine qm ?_;refine qg ?_;refine qp (o:=0) ?_;refine qp (o:=0) ?_;refine ql hH a6 ?_;refine qm ?_;refine qr fun K_ GP=>?_;refine ab.cx rfl (ev rfl) (by assumption) rfl (by dsimp only[Fr.put,u1,u2]<;>rfl) ?_;refine qa hH fun k7 st FK hH=>?_;refine qS hH aC fun st hH=>?_;dsimp only[u2,u1,u3,u4,setMany,u5,u6,D.cells,Nat.reduceAdd,aq,ak,ay,ai,aL] at hH;refine qe hK ?_;refine qq ?_;refine qq ?_;refine qj fun K hK=>?_;refine qp (o:=0) ?_;refine ql hH aC ?_;refine qe hK ?_;refine af.block ?_;refine qq ?_;refine qj fun K hK=>?_;refine qg ?_;refine qm ?_;refine qe hK ?_;refine af.cond (by rfl) (fun h7=>?_) (fun h7=>?_)<;>try simp only[beq_iff_eq,beq_eq_false_iff_ne,ne_eq] at h7
   ·rw[if_pos h7] at cF;subst cF;refine qq ?_;refine qj fun K hK=>?_;refine qm ?_;refine qg ?_;refine qp (o:=2) ?_;refine ql hH dI ?_;refine qg ?_;refine qp (o:=0) ?_;refine qT hH ef fun st hH=>?_;dsimp only[u2,u1,u3,u4,setMany,u5,u6,D.cells,Nat.reduceAdd,aq,ak,ay,ai,aL] at hH;refine qe hK ?_;refine qq ?_;refine qj fun K hK=>?_;refine qm ?_;refine qg ?_;refine qp (o:=2) ?_;refine ql hH dI ?_;refine ab.aE (m:=10) hH rfl (ev rfl) (by exact a6) (by dsimp only[List.drop_succ_cons,List.drop_zero,List.take_succ_cons,List.take_zero,aq,ak,ay,ai,aL]<;>rfl) rfl rfl (ag rfl _) ?_;refine qg ?_;refine qp (o:=1) ?_;refine qT hH ef fun st hH=>?_;dsimp only[u2,u1,u3,u4,setMany,u5,u6,D.cells,Nat.reduceAdd,aq,ak,ay,ai,aL] at hH;refine qe hK ?_;refine qq ?_;refine qj fun K hK=>?_;refine qm ?_;refine qe hK ?_;refine af.ret ⟨rx,_,_,_,rfl,rfl,?_⟩;exact⟨rfl,od,hH.drop 2⟩
   ·rw[if_neg h7] at cF;refine qq ?_;refine qj fun K hK=>?_;refine qg ?_;refine qm ?_;refine qe hK ?_;refine af.cond (by rfl) (fun h2=>?_) (fun h2=>?_)<;>try simp only[beq_iff_eq,beq_eq_false_iff_ne,ne_eq] at h2
    ·rw[if_pos h2] at cF;obtain⟨_,⟨hx0,hx1⟩,hy0,hy1⟩:=(ij.resolve_left h7).resolve_right (by omega);obtain⟨xn,rfl⟩:=Int.eq_ofNat_of_zero_le hx0;obtain⟨yn,rfl⟩:=Int.eq_ofNat_of_zero_le hy0;have E6:=br p.code pl e f ⟨sn,w.dn,w.aF,w.rdy⟩ ⟨xn,c⟩;have pq:=Has.jW [_,_] [_,_,_,_] hH;obtain⟨_,st1,b4,rfl,hT⟩:=ih ⟨sn,w.dn,w.aF,w.rdy⟩ ⟨xn,c⟩ _ _ (by show xn<_;omega) jC pk o5 ⟨od,pq⟩;clear pq;have cF:R=if(aW p.code pl e f ⟨sn,w.dn,w.aF,w.rdy⟩ ⟨xn,c⟩).2=true then aW p.code pl e f ⟨sn,w.dn,w.aF,w.rdy⟩ ⟨xn,c⟩ else aW p.code pl e f (aW p.code pl e f ⟨sn,w.dn,w.aF,w.rdy⟩ ⟨xn,c⟩).1 ⟨yn,c⟩:=cF;generalize aW p.code pl e f ⟨sn,w.dn,w.aF,w.rdy⟩ ⟨xn,c⟩=R1 at*;obtain⟨w1,b1⟩:=R1;obtain⟨cm,ba,a_,bc⟩:=E6;simp only at cm ba a_ bc b4 hT cF;obtain⟨FA,pq⟩:=hT;have pq:=Has.jW [_,_,_,_] [_,_] pq;dsimp only[u3,u4] at pq
     cases b1 with
     |true=>
      rw[if_pos rfl] at cF;subst cF;have cT:true=true:=rfl;refine qq ?_;refine qj fun K hK=>?_;refine qm ?_;refine qp (o:=1) ?_;refine ql hH aC ?_;refine ab.aE (m:=10) hH rfl (ev rfl) (by exact a6) (by dsimp only[List.drop_succ_cons,List.drop_zero,List.take_succ_cons,List.take_zero,aq,ak,ay,ai,aL]<;>rfl) rfl rfl (ag rfl _) ?_;refine qv b4 ?_;refine qm ?_;refine qs ?_ (hg:=wn cT);refine qs ?_ (hg:=wn cT);refine qs ?_ (hg:=wn cT);refine qs ?_ (hg:=wn cT);refine qs ?_ (hg:=wn cT);refine qt cT ?_;refine qm ?_;refine qe hK ?_;refine af.ret ⟨rx,_,_,_,rfl,rfl,?_⟩;exact⟨rfl,FA,pq.drop 2⟩
     |false=>
      rw[if_neg (by decide)] at cF;have cT:false=false:=rfl;refine qq ?_;refine qj fun K hK=>?_;refine qm ?_;refine qp (o:=1) ?_;refine ql hH aC ?_;refine ab.aE (m:=10) hH rfl (ev rfl) (by exact a6) (by dsimp only[List.drop_succ_cons,List.drop_zero,List.take_succ_cons,List.take_zero,aq,ak,ay,ai,aL]<;>rfl) rfl rfl (ag rfl _) ?_;have hH:=pq;refine qv b4 ?_;refine qm ?_;refine qm ?_ (hg:=wi cT);refine qp (o:=2) ?_ (hg:=wi cT);refine ql hH aC ?_ (hg:=wi cT);refine ab.aE (m:=10) hH (aM rfl rfl rfl cT) (ev rfl) (by exact a6) (by dsimp only[List.drop_succ_cons,List.drop_zero,List.take_succ_cons,List.take_zero,aq,ak,ay,ai,aL]<;>rfl) rfl rfl (ag rfl _) ?_;obtain⟨_,st,b4,rfl,hT⟩:=ih w1 ⟨yn,c⟩ _ _ (by show yn<_;omega) (by omega) (by omega) (by omega) ⟨FA,hH.drop 2⟩;refine qv b4 ?_ (hg:=wi cT);refine qu cT ?_;refine qm ?_;refine qe hK ?_;refine af.ret ⟨rx,_,_,_,rfl,rfl,?_⟩;rw[cF];exact⟨rfl,hT⟩
    ·rw[if_neg h2] at cF;refine qq ?_;refine qj fun K hK=>?_;refine qg ?_;refine qm ?_;refine qe hK ?_;refine af.cond (by rfl) (fun h3=>?_) (fun h3=>?_)<;>try simp only[beq_iff_eq,beq_eq_false_iff_ne,ne_eq] at h3
     ·rw[if_neg (by omega),if_pos h3] at cF;obtain⟨_,hx0,hx1⟩:=((ij.resolve_left h7).resolve_left (by omega)).resolve_right (by omega);obtain⟨xn,rfl⟩:=Int.eq_ofNat_of_zero_le hx0;refine qq ?_;refine qj fun K hK=>?_;refine qm ?_;refine qp (o:=1) ?_;refine ql hH aC ?_;refine ab.aE (m:=10) hH rfl (ev rfl) (by exact a6) (by dsimp only[List.drop_succ_cons,List.drop_zero,List.take_succ_cons,List.take_zero,aq,ak,ay,ai,aL]<;>rfl) rfl rfl (ag rfl _) ?_;obtain⟨_,st,b4,rfl,hT⟩:=ih ⟨sn,w.dn,w.aF,w.rdy⟩ ⟨xn,c⟩ _ _ (by show xn<_;omega) jC pk o5 ⟨od,hH.drop 2⟩;refine qv b4 ?_;refine qm ?_;refine qe hK ?_;refine af.ret ⟨rx,_,_,_,rfl,rfl,?_⟩;rw[cF];exact⟨rfl,hT⟩
     ·refine qq ?_;refine qj fun K hK=>?_;refine qg ?_;refine qm ?_;refine qe hK ?_;refine af.cond (by rfl) (fun h4=>?_) (fun h4=>?_)<;>try simp only[beq_iff_eq,beq_eq_false_iff_ne,ne_eq] at h4
      ·rw[if_neg (by omega),if_neg h3,if_pos h4] at cF;obtain⟨_,lq,hx0,hx1⟩:=(((ij.resolve_left h7).resolve_left (by omega)).resolve_left (by omega)).resolve_right (by omega);obtain⟨xn,rfl⟩:=Int.eq_ofNat_of_zero_le hx0;refine qq ?_;refine qj fun K hK=>?_;refine qp (o:=1) ?_;refine ql hH aC ?_;refine qm ?_;refine qg ?_;refine qp (o:=4) ?_;refine ql hH dI ?_;refine ab.An (m:=10) (s:=1) (i:=xn) (o:=xn) rfl (ev rfl) (ev rfl) rfl rfl (by omega) (by omega) (ag rfl _) ?_;refine ab.ib hH rfl (ev rfl) (ev rfl) rfl (by exact rfl) a6 (by show xn+1≤10;omega) (.inl hF) (fun st hH=>?_);change Has _ _ _ (_::.box k5 (.mem 0 false (setMany (ai c) xn [.int .i64 (pl:Nat)]))::_) at hH;rw[sJ (by omega)] at hH;refine qe hK ?_;dsimp only[ai] at hH;refine qq ?_;refine qj fun K hK=>?_;refine qm ?_;refine qm ?_;refine qA ?_;refine ab.aE (m:=10) hH rfl (ev rfl) (by exact a6) (by dsimp only[List.drop_succ_cons,List.drop_zero,List.take_succ_cons,List.take_zero,aq,ak,ay,ai,aL]<;>rfl) rfl rfl (ag rfl _) ?_;obtain⟨_,st,b4,rfl,hT⟩:=ih ⟨sn,w.dn,w.aF,w.rdy⟩ ⟨pc+1,tS c xn (pl:Nat)⟩ _ _ lq jC pk o5 ⟨od,hH.drop 2⟩;refine qv b4 ?_;refine qm ?_;refine qe hK ?_;refine af.ret ⟨rx,_,_,_,rfl,rfl,?_⟩;rw[cF];exact⟨rfl,hT⟩
      ·refine qq ?_;refine qj fun K hK=>?_;refine qg ?_;refine qm ?_;refine qe hK ?_;refine af.cond (by rfl) (fun h5=>?_) (fun h5=>?_)<;>try simp only[beq_iff_eq,beq_eq_false_iff_ne,ne_eq] at h5
       ·rw[if_neg (by omega),if_neg h3,if_neg h4,if_pos h5] at cF;have lq:pc+1<p.code.length:=by omega
        by_cases ha:pl=0
        ·rw[if_pos ha] at cF;subst ha;have cT:(((0:Nat):Int)==0)=true:=rfl;refine qq ?_;refine qj fun K hK=>?_;refine qm ?_;refine qg ?_;refine qp (o:=4) ?_;refine ql hH dI ?_;refine qg ?_;refine qm ?_;refine qm ?_ (hg:=wi cT);refine qm ?_ (hg:=wi cT);refine qA ?_ (hg:=wi cT);refine ab.aE (m:=10) hH (aM rfl rfl rfl cT) (ev rfl) (by exact a6) (by dsimp only[List.drop_succ_cons,List.drop_zero,List.take_succ_cons,List.take_zero,aq,ak,ay,ai,aL]<;>rfl) rfl rfl (ag rfl _) ?_;obtain⟨_,st,b4,rfl,hT⟩:=ih ⟨sn,w.dn,w.aF,w.rdy⟩ ⟨pc+1,c⟩ _ _ lq jC pk o5 ⟨od,hH.drop 2⟩;refine qv b4 ?_ (hg:=wi cT);refine qt cT ?_;refine qm ?_;refine qe hK ?_;refine af.ret ⟨rx,_,_,_,rfl,rfl,?_⟩;rw[cF];exact⟨rfl,hT⟩
        ·rw[if_neg ha] at cF;subst cF;have cT:(((pl:Nat):Int)==0)=false:=by rw[beq_eq_false_iff_ne];omega
         refine qq ?_;refine qj fun K hK=>?_;refine qm ?_;refine qg ?_;refine qp (o:=4) ?_;refine ql hH dI ?_;refine qg ?_;refine qm ?_;refine qs ?_ (hg:=wn cT);refine qs ?_ (hg:=wn cT);refine qs ?_ (hg:=wn cT);refine qs ?_ (hg:=wn cT);refine qs ?_ (hg:=wn cT);refine qu cT ?_;refine qm ?_;refine qe hK ?_;refine af.ret ⟨rx,_,_,_,rfl,rfl,?_⟩;exact⟨rfl,od,hH.drop 2⟩
       ·refine qq ?_;refine qj fun K hK=>?_;refine qg ?_;refine qm ?_;refine qe hK ?_;refine af.cond (by rfl) (fun h6=>?_) (fun h6=>?_)<;>try simp only[beq_iff_eq,beq_eq_false_iff_ne,ne_eq] at h6
        ·rw[if_neg (by omega),if_neg h3,if_neg h4,if_neg h5] at cF;have lq:pc+1<p.code.length:=by omega
         cases e with
         |true=>
          rw[if_pos rfl] at cF;have bc:true=true:=rfl;refine qq ?_;refine qj fun K hK=>?_;refine qm ?_;refine qg ?_;refine qp (o:=5) ?_;refine ql hH dI ?_;refine qm ?_;refine qm ?_ (hg:=wi bc);refine qm ?_ (hg:=wi bc);refine qA ?_ (hg:=wi bc);refine ab.aE (m:=10) hH (aM rfl rfl rfl bc) (ev rfl) (by exact a6) (by dsimp only[List.drop_succ_cons,List.drop_zero,List.take_succ_cons,List.take_zero,aq,ak,ay,ai,aL]<;>rfl) rfl rfl (ag rfl _) ?_;obtain⟨_,st,b4,rfl,hT⟩:=ih ⟨sn,w.dn,w.aF,w.rdy⟩ ⟨pc+1,c⟩ _ _ lq jC pk o5 ⟨od,hH.drop 2⟩;refine qv b4 ?_ (hg:=wi bc);refine qt bc ?_;refine qm ?_;refine qe hK ?_;refine af.ret ⟨rx,_,_,_,rfl,rfl,?_⟩;rw[cF];exact⟨rfl,hT⟩
         |false=>
          rw[if_neg (by decide)] at cF;subst cF;have bc:false=false:=rfl;refine qq ?_;refine qj fun K hK=>?_;refine qm ?_;refine qg ?_;refine qp (o:=5) ?_;refine ql hH dI ?_;refine qm ?_;refine qs ?_ (hg:=wn bc);refine qs ?_ (hg:=wn bc);refine qs ?_ (hg:=wn bc);refine qs ?_ (hg:=wn bc);refine qs ?_ (hg:=wn bc);refine qu bc ?_;refine qm ?_;refine qe hK ?_;refine af.ret ⟨rx,_,_,_,rfl,rfl,?_⟩;exact⟨rfl,od,hH.drop 2⟩
        ·have h1:op=1:=by omega
         rw[if_pos h1] at cF;subst cF;refine qq ?_;refine qj fun K hK=>?_;refine qg ?_;refine qm ?_;refine qe hK ?_;refine qD rfl (by simp[h1]) ?_;refine qj fun K hK=>?_;refine qm ?_;refine qm ?_;refine qg ?_;refine qp (o:=6) ?_;refine ql hH dI ?_;refine qm ?_;refine ab.aE (m:=10) hH rfl (ev rfl) (by exact a6) (by dsimp only[List.drop_succ_cons,List.drop_zero,List.take_succ_cons,List.take_zero,aq,ak,ay,ai,aL]<;>rfl) rfl rfl (ag rfl _) ?_;refine ab.go (d:=.agg (ak ⟨pc,c⟩)) (st1:=_) rfl rfl rfl (ag rfl _) ?_;refine qh (s:=11) (vs:=[_]) hH fun ML st LC hH=>?_;dsimp only[u2,u1,u3,u4,setMany,u5,u6,D.cells,Nat.reduceAdd,aq,ak,ay,ai,aL] at hH;refine ab.bk (s:=11) hH rfl (ev rfl) (ev rfl) (by exact FN) (by exact hH.rows (by exact aC)) rfl rfl rfl rfl rfl rfl rfl ⟨(Nat.le_of_ble_eq_true rfl),(Nat.le_of_ble_eq_true rfl)⟩ (fun _=>(ag rfl _)) (by simp only[List.length_cons,List.length_nil,List.length_map]<;>omega) (by exact .inl hF) (fun H5 st hH=>?_);dsimp only[u2,u1,u3,u4,setMany,u5,u6,D.cells,Nat.reduceAdd,aq,ak,ay,ai,aL] at hH;refine qg ?_;refine qp (o:=6) ?_;refine qT hH ef (fun st hH=>?_) (fM:=hH.dY FN);dsimp only[u2,u1,u3,u4,setMany,u5,u6,D.cells,Nat.reduceAdd,aq,ak,ay,ai,aL] at hH;refine qe hK ?_;refine qq ?_;refine qj fun K hK=>?_;refine qm ?_;refine qe hK ?_;refine af.ret ⟨rx,_,_,_,rfl,rfl,?_⟩;refine⟨rfl,H5,?_⟩;rw[List.map_append];exact hH.drop 3
end Go.Proofs.YtbdilgkfnacahaaGreat
