/-
 The scanner: a decoder ahead of a machine.
-/
import Derived.Test.YtecjacicdpejaaaGreatXGHr
import Derived.Test.YtecjacicdpejaaaGreatXGUo
import Derived.Test.YtecjacicdpejaaaGreatXGYv
set_option maxRecDepth 100000
set_option maxHeartbeats 4000000
set_option linter.unusedSimpArgs false
set_option linter.unusedVariables false
namespace Go.Proofs.YtecjacicdpejaaaGreat
open Go.V Go
def dw (h j:List UInt8):List D:=(h++j).map gH++[.int .i64 (h.length:Nat)]
theorem FN (st:St):Ev pv 103 [] st (.ptr st.bs.length 0 0) (st.push (.mem 0 false (dw [] [0,0,0,0]))):=by
 refine Ev.gP rfl X2 rfl rfl rfl ?_;refine zE ?_;refine zR ?_;refine zR ?_;exact ag.ret ⟨rx,_,rfl,rfl⟩
theorem Qz {st:St} {x:D} {h:List UInt8} (hb:Bytes st x h) (ba:bO h=true∨h=[]) (h3:h.length≤3) (du:st.ro≤st.bs.length):
  Ev pv 95 [x] st (.tup [.ptr st.bs.length 0 0,.int .i64 0]) (st.push (.mem 0 false (dw h (([0,0,0,0]:List UInt8).drop h.length)))):=by
 have hx:=hb.ref;have hbl:=au h;refine Ev.gP rfl Wq rfl rfl rfl ?_;refine zE ?_;refine zR ?_;refine zU ?_
 refine zW ?_
 refine ab.oF rfl rfl rfl (tg hb) ?_;refine zX ?_;refine zN ?_;have PN:(ef h).2.2=bO h:=rfl;rw[PN];generalize(ef h).1=r0;generalize(ef h).2.1=n0
 cases hbg:bO h with
 |true=>
  refine zR ?_;(repeat refine qq ?_);refine ag.cond (v:=false) rfl (fun h=>by cases h) fun _=>?_;(try refine qy ?_);refine ag.skip ?_;(try refine qy ?_);have lC:(st.push (.mem 0 false (dw [] [0,0,0,0]))).bs[st.bs.length]?=some (.mem 0 false (dw [] [0,0,0,0])):=iS st _;have hb1:Bytes (st.push (.mem 0 false (dw [] [0,0,0,0]))) x h:=hb.ex (Ex.push (Nat.le_refl _) _) hx;have uM:∀S:St,S.ro=st.ro→S.ku st.bs.length 0=true:=fun S hS=>nH (by omega);refine zU ?_;refine ab.oF rfl rfl rfl (FN st) ?_;refine zX ?_;refine zN ?_;refine zU ?_
  refine zW ?_
  refine zW ?_
  refine zW ?_
  refine zW ?_
  refine ab.nb (k:=st.bs.length) (v:=0) (off:=0) (l:=0) (r:=4) rfl rfl rfl rfl rfl lC (by decide) rfl ?_
  refine zW ?_
  refine ab.copy (k:=st.bs.length) (aE:=0) (off:=0) (len:=4) (s:=1) (ys:=byteCells h) (ar:=false) (c:=dw [] [0,0,0,0]) rfl rfl rfl rfl hb1 rfl rfl lC (by decide) ?_ ?_
  ·rw[dK]
   have:∀(b:List UInt8) m,refs ((b.map gH).take m)=0:=by
    intro b m
    induction b generalizing m with
    |nil=>simp[refs]
    |cons y b ih=>cases m with
     |zero=>simp[refs]
     |succ m=>simp only[List.map_cons,List.take_succ_cons,refs,ih];rfl
   rw[this];exact uM _ rfl
  have D8:min (byteCells h).length 4=h.length:=by omega
  rw[D8,dK]
  have PM:(dw [] [0,0,0,0]).take 0++(h.map gH).take (h.length*1)++(dw [] [0,0,0,0]).drop (0+h.length*1)=(h++([0,0,0,0]:List UInt8).drop h.length).map gH++[.int .i64 0]:=by
   rw[List.take_zero,List.nil_append,Nat.mul_one,Nat.zero_add];have e1:(h.map gH).take h.length=h.map gH:=List.take_of_length_le (by simp);rw[e1,List.map_append,List.append_assoc]
   congr 1
   show([0,0,0,0].map gH++[D.int .i64 0]).drop h.length=_;rw[List.drop_append_of_le_length (by simp;omega),List.map_drop]
  rw[PM];have hlt:((h++([0,0,0,0]:List UInt8).drop h.length).map gH).length=4:=by simp;omega
  have hT:∃T:List D,T=(h++([0,0,0,0]:List UInt8).drop h.length).map gH:=⟨_,rfl⟩
  obtain⟨T,hT⟩:=hT;rw[←hT] at hlt⊢;have Cz:∀b b':lu,(⟨(st.push b).bs.set st.bs.length b',(st.push b).flr,(st.push b).ro⟩:St)=st.push b':=fun b b'=>sB rfl
  refine zW ?_
  refine zW ?_
  rw[Cz];refine ab.store (k:=st.bs.length) (aE:=0) (off:=4) (cs:=[.int .i64 (h.length:Nat)]) rfl rfl rfl rfl rfl (iS st _) (by rw[List.length_append,hlt];exact Nat.le_refl _) (uM _ rfl) ?_;rw[Cz]
  have oK:(T++[D.int .i64 0]).take 4++[.int .i64 (h.length:Nat)]++(T++[D.int .i64 0]).drop (4+[D.int .i64 (h.length:Nat)].length)=dw h (([0,0,0,0]:List UInt8).drop h.length):=by
   rw[List.take_left' hlt,List.drop_eq_nil_of_le (by rw[List.length_append,hlt];exact Nat.le_refl _),List.append_nil,hT]
   rfl
  rw[oK];refine zN ?_;refine zR ?_;exact ag.ret ⟨rx,_,rfl,rfl⟩
 |false=>
  have Fa:h.length=0:=by
   rcases ba with h'|h'
   ·rw[hbg] at h';cases h'
   ·rw[h'];rfl
  refine zU ?_
  refine zW ?_
  refine zW ?_
  refine zW ?_
  refine zW ?_
  refine ab.len rfl rfl rfl hb rfl ?_;rw[hbl];refine zY ?_;refine zN ?_;(repeat refine qq ?_);refine ag.cond (v:=false) rfl (fun h=>by cases h) fun _=>?_;(try refine qy ?_);refine ag.skip ?_;(try refine qy ?_);have lC:(st.push (.mem 0 false (dw [] [0,0,0,0]))).bs[st.bs.length]?=some (.mem 0 false (dw [] [0,0,0,0])):=iS st _;have hb1:Bytes (st.push (.mem 0 false (dw [] [0,0,0,0]))) x h:=hb.ex (Ex.push (Nat.le_refl _) _) hx;have uM:∀S:St,S.ro=st.ro→S.ku st.bs.length 0=true:=fun S hS=>nH (by omega);refine zU ?_;refine ab.oF rfl rfl rfl (FN st) ?_;refine zX ?_;refine zN ?_;refine zU ?_
  refine zW ?_
  refine zW ?_
  refine zW ?_
  refine zW ?_
  refine ab.nb (k:=st.bs.length) (v:=0) (off:=0) (l:=0) (r:=4) rfl rfl rfl rfl rfl lC (by decide) rfl ?_
  refine zW ?_
  refine ab.copy (k:=st.bs.length) (aE:=0) (off:=0) (len:=4) (s:=1) (ys:=byteCells h) (ar:=false) (c:=dw [] [0,0,0,0]) rfl rfl rfl rfl hb1 rfl rfl lC (by decide) ?_ ?_
  ·rw[dK]
   have:∀(b:List UInt8) m,refs ((b.map gH).take m)=0:=by
    intro b m
    induction b generalizing m with
    |nil=>simp[refs]
    |cons y b ih=>cases m with
     |zero=>simp[refs]
     |succ m=>simp only[List.map_cons,List.take_succ_cons,refs,ih];rfl
   rw[this];exact uM _ rfl
  have D8:min (byteCells h).length 4=h.length:=by omega
  rw[D8,dK]
  have PM:(dw [] [0,0,0,0]).take 0++(h.map gH).take (h.length*1)++(dw [] [0,0,0,0]).drop (0+h.length*1)=(h++([0,0,0,0]:List UInt8).drop h.length).map gH++[.int .i64 0]:=by
   rw[List.take_zero,List.nil_append,Nat.mul_one,Nat.zero_add];have e1:(h.map gH).take h.length=h.map gH:=List.take_of_length_le (by simp);rw[e1,List.map_append,List.append_assoc]
   congr 1
   show([0,0,0,0].map gH++[D.int .i64 0]).drop h.length=_;rw[List.drop_append_of_le_length (by simp;omega),List.map_drop]
  rw[PM];have hlt:((h++([0,0,0,0]:List UInt8).drop h.length).map gH).length=4:=by simp;omega
  have hT:∃T:List D,T=(h++([0,0,0,0]:List UInt8).drop h.length).map gH:=⟨_,rfl⟩
  obtain⟨T,hT⟩:=hT;rw[←hT] at hlt⊢;have Cz:∀b b':lu,(⟨(st.push b).bs.set st.bs.length b',(st.push b).flr,(st.push b).ro⟩:St)=st.push b':=fun b b'=>sB rfl
  refine zW ?_
  refine zW ?_
  rw[Cz];refine ab.store (k:=st.bs.length) (aE:=0) (off:=4) (cs:=[.int .i64 (h.length:Nat)]) rfl rfl rfl rfl rfl (iS st _) (by rw[List.length_append,hlt];exact Nat.le_refl _) (uM _ rfl) ?_;rw[Cz]
  have oK:(T++[D.int .i64 0]).take 4++[.int .i64 (h.length:Nat)]++(T++[D.int .i64 0]).drop (4+[D.int .i64 (h.length:Nat)].length)=dw h (([0,0,0,0]:List UInt8).drop h.length):=by
   rw[List.take_left' hlt,List.drop_eq_nil_of_le (by rw[List.length_append,hlt];exact Nat.le_refl _),List.append_nil,hT]
   rfl
  rw[oK];refine zN ?_;refine zR ?_;exact ag.ret ⟨rx,_,rfl,rfl⟩
theorem NF {st:St} {x:D} {b:List UInt8} (hb:Bytes st x b) (hlen:b.length≤1048576):Ev pv 142 [x] st (.bool (bO b)) st:=by
 refine Ev.gP rfl XI rfl rfl rfl ?_;refine zE ?_;have hb:=hb.enter .ro;have hbl:=au b;have hf:=(yx b).1;refine zR ?_;refine zU ?_
 refine zW ?_
 refine ab.oF rfl rfl rfl (P5 hb hlen) ?_;refine zX ?_;refine zN ?_;generalize(eE b).1=k at*;generalize(eE b).2=n at*
 by_cases h1:0<k
 ·by_cases h2:k<n
  ·by_cases h3:k=b.length
   ·rw[hf.2 ⟨h1,h2,h3⟩];refine zU ?_;refine zY ?_;refine ab.len rfl rfl rfl hb rfl ?_;rw[hbl];refine zY ?_;refine zN ?_;refine ag.ret ⟨rx,_,rfl,aU (by simp) (by simp[ae]) ?_⟩
    rfl
   ·have:bO b=false:=by
     cases h:bO b with
     |false=>rfl
     |true=>have:=hf.1 h;omega
    rw[this];refine zU ?_;refine zY ?_;refine ab.len rfl rfl rfl hb rfl ?_;rw[hbl];refine zY ?_;refine zN ?_;refine ag.ret ⟨rx,_,rfl,aU (by simp) (by simp[ae]) ?_⟩
    rfl
  ·have:bO b=false:=by
    cases h:bO b with
    |false=>rfl
    |true=>have:=hf.1 h;omega
   rw[this];refine zV ?_;refine ag.ret ⟨rx,_,rfl,aU (by simp) (by simp[ae]) ?_⟩
   rfl
 ·have:bO b=false:=by
   cases h:bO b with
   |false=>rfl
   |true=>have:=hf.1 h;omega
  rw[this];refine zV ?_;refine ag.ret ⟨rx,_,rfl,aU (by simp) (by simp[ae]) ?_⟩
  rfl
theorem ES {l:List UInt8} (h:bO l=true):l.length≤3:=by
 obtain⟨h1,h2,h3⟩:=(yx l).1.1 h
 cases l with
 |nil=>simp
 |cons c xs=>
  have:=xG c.toNat;simp only[eE] at h2 h3
  split at h2
  ·simp at h2
  ·split at h2
   ·split at h2
    ·rw[←h3];rename_i a1 a2 a3;rw[if_neg a1,if_pos a2,if_pos a3];simp only;omega
    ·simp at h2
   ·simp at h2
def SH (A:List bo) (N:Nat) (S st:St) (kS kd kv ks:Nat) (p:Pg) (pl:Nat) (ld:D) (L:List VL) (h:List UInt8) (H:List bo):Prop:=
 ∃pd qd P Q sn js,Has N S st (A++(.box kS (.mem 0 false [.ptr kd 0 0,.ptr kv 0 0])::.box kd (.mem 0 false (dw h js))::(iu ks kv p pl ld pd qd P Q L++H)))∧eQ P Q sn∧sn.length=p.code.length∧(h++js).length=4
structure AS (st:St) (kS kd kv ks:Nat) (p:Pg) (pl:Nat) (ld:D) (L:List VL) (h js:List UInt8):Prop where
 s:st.bs[kS]?=some (.mem 0 false [.ptr kd 0 0,.ptr kv 0 0])
 sl:kS<st.bs.length
 d:st.bs[kd]?=some (.mem 0 false (dw h js))
 dl:kd<st.bs.length
 hl:(h++js).length=4
 m:AM st.bs.length st kv ks p pl ld L
 ro:st.ro≤st.bs.length
theorem SH.as {N kS kd kv ks:Nat} {S s0:St} {H:List bo} {p:Pg} {pl:Nat} {ld:D} {L:List VL} {h:List UInt8} (hM:SH [] N S s0 kS kd kv ks p pl ld L h H):∃js,AS s0 kS kd kv ks p pl ld L h js:=by
 obtain⟨pd,qd,P,Q,sn,js,hH,ba,ej,hl⟩:=hM;dsimp only[u4] at hH;have hM:MH [] N S s0 ks kv p pl ld L ([_,_]++H):=MH.push [_,_] [] (H:=H) (DG hH ba ej);exact⟨js,hH.at aB,(hH.ge aB).2,hH.at aO,(hH.ge aO).2,hl,hM.am,hM.ro⟩
theorem AM.bs {N:Nat} {S S2:St} {kv ks:Nat} {p:Pg} {pl:Nat} {ld:D} {L:List VL} (h:AM N S kv ks p pl ld L) (hS:S2.bs=S.bs):AM N S2 kv ks p pl ld L:=
 ⟨h.lt,by rw[hS];exact h.le,by rw[hS];exact h.at_,⟨h.ld.1.bs hS,h.ld.2⟩,fun l hl=>⟨(h.td l hl).1.bs hS,(h.td l hl).2⟩,h.ksl⟩
section
variable{A:List bo} {N kS kd kv ks:Nat} {S s0:St} {p:Pg} {pl:Nat} {ld:D} {L:List VL} {h:List UInt8} {H:List bo}
theorem SH.push (hM:SH A N S s0 kS kd kv ks p pl ld L h H):SH [] N S s0 kS kd kv ks p pl ld L h (A++H):=by
 obtain⟨pd,qd,P,Q,sn,js,hH,h1,h2,h3⟩:=hM;refine⟨pd,qd,P,Q,sn,js,?_,h1,h2,h3⟩;have:=Has.jA A (_::_::iu ks kv p pl ld pd qd P Q L) (H:=H) (by simpa only[List.cons_append,List.append_assoc] using hH)
 simpa only[List.nil_append,List.cons_append,List.append_assoc] using this
theorem SH.has (hM:SH A N S s0 kS kd kv ks p pl ld L h H):Has N S s0 A:=by
 obtain⟨pd,qd,P,Q,sn,js,hH,h1,h2,h3⟩:=hM;have:=hH.take A.length
 rwa [List.take_left] at this
end
end Go.Proofs.YtecjacicdpejaaaGreat
namespace Go.Proofs.YtecjacicdpejaaaGreat
open Go.V Go
def jK (fr:Go.V.Fr) (k:Nat):Go.V.D:=Go.V.nth .bI fr.loc k
theorem Ck {q:Prop} (h:dec q=true):q:=@of_decide_eq_true _ (Classical.propDecidable _) h
theorem yt {p:Pg} (hR:bm p) {s:Int} (hs:0≤s∧s<(p.code.length:Int)) {m:Nat} {n:Int} (h:mF p s m n):0≤n∧n<(p.code.length:Int):=by
 rcases h with rfl|⟨i,q,h1,rfl,h3,h4,h5⟩
 ·exact hs
 ·have h6:=hR.sh i q h4;unfold dv at h6;rw[if_pos h5] at h6;simp only[Bool.and_eq_true,decide_eq_true_eq] at h6;exact⟨by omega,h6.2.1.1⟩
def y4 (bn:List GT) (j:Nat) (seen:List Bool):Prop:=∀(k:Nat) b,seen[k]?=some b→(b=true↔∃j' t,j'<j∧bn[j']?=some t∧t.pc=(k:Int))
theorem y4.nil (bn:List GT) (n:Nat):y4 bn 0 (List.replicate n false):=by
 intro k b h;rw[List.getElem?_replicate] at h
 split at h
 ·cases h;simp
 ·cases h
theorem y4.set {bn:List GT} {j k:Nat} {seen:List Bool} {t:GT} (h:y4 bn j seen) (ht:bn[j]?=some t) (hk:t.pc=(k:Int)):y4 bn (j+1) (seen.set k true):=by
 intro k' b hb;rw[List.getElem?_set] at hb
 by_cases he:k=k'
 ·subst he;rw[if_pos rfl] at hb
  split at hb
  ·cases hb;exact⟨fun _=>⟨j,t,by omega,ht,hk⟩,fun _=>rfl⟩
  ·cases hb
 ·rw[if_neg he] at hb;rw[h k' b hb];constructor
  ·rintro⟨j',t',h1,h2,h3⟩;exact⟨j',t',by omega,h2,h3⟩
  ·rintro⟨j',t',h1,h2,h3⟩
   by_cases hj:j'=j
   ·subst hj;rw[ht] at h2;cases h2;omega
   ·exact⟨j',t',by omega,h2,h3⟩
theorem K4 (dE:∀st,Ev pv 193 [] st (.agg (aA bK)) st) {s0:St} {p:Pg} (hp:p.ok) {x:D} {L:List GV} (hx:G8 s0 x L) (place:Int):
  Ev pv 141 [p.d,.agg [.int .i64 place,x]] s0 (.bool (dec (dr p place L))) s0:=by
 obtain⟨hx,zq,LY⟩:=hx;have kX:=hp.sl;have JC:=hp.cl;refine Ev.gP rfl XJ rfl rfl rfl ?_;refine zE ?_;obtain⟨aN,hF,hH⟩:=ri s0;generalize ae .ro s0=S at*;have hc:=hp.c.arg s0.bs.length S;have hs:=hp.s.arg s0.bs.length S;have hla:=Arg.of hx aN;have hcr:=fun st=>sv (s0:=st) hp
 have ZY:=fun(hR:bm p) {r:Nat} {s:Int} (hr:p.ak[r]?=some s) (st:St)=>(show nV p (r:Nat)=bR p.code s by
      unfold nV
      rw[if_pos (fK.2 ⟨by omega,by have:=bp hr;omega⟩),Int.toNat_natCast,List.getD_eq_getElem?_getD,hr];rfl)▸vi (s0:=st) (p:=p) (nS:=(r:Nat)) hp hR.closed hR.st
 unfold Pg.d at*;refine zQ 2 ?_;refine qb hH fun k2 st hk2 hH=>?_;dsimp only[u2,u1,u3,u4,setMany,u5,u6,D.cells,Nat.reduceAdd,aJ,aX,aA,az,Pg.cs,dA,eo,cQ] at hH;refine qb hH fun k3 st oC hH=>?_;refine zQ 4 ?_;refine ag.dM 32 (.bool (((!dec (bm p)||decide (place<0))||decide (place>1099511627776))||(((L.length:Nat):Int) !=((p.ak.length:Nat):Int)))) [] ?_ (fun ff tmp dj=>?_)
 ·refine ab.av (m:=2) hH rfl (ev rfl) (by exact aO) (by dsimp only[List.drop_succ_cons,List.drop_zero,List.take_succ_cons,List.take_zero,aJ,aX,aA,az,Pg.cs,dA,eo,cQ]<;>rfl) rfl rfl (aa rfl _) ?_;refine qv ((hcr _)) ?_;refine zQ 2 ?_;refine ab.two 14 rfl (fun bZ=>?_) (fun bZ=>?_)
  ·refine zQ 18 ?_;refine ab.nil (aR ?_ ?_)
   ·dsimp only[aK,List.foldl,nth,u2,u1]
    all_goals(first|rfl|simp)
   ·refine zF ?_
    all_goals(simp[bZ];done)
  ·refine zQ 5 ?_;refine ab.two 19 rfl (fun dL=>?_) (fun dL=>?_)
   ·refine zQ 13 ?_;refine ab.nil (aR ?_ ?_)
    ·dsimp only[aK,List.foldl,nth,u2,u1]
     all_goals(first|rfl|simp)
    ·refine zF ?_
     all_goals(simp[bZ,dL];done)
   ·refine zQ 5 ?_;refine ab.two 24 rfl (fun gA=>?_) (fun gA=>?_)
    ·refine zQ 8 ?_;refine ab.nil (aR ?_ ?_)
     ·dsimp only[aK,List.foldl,nth,u2,u1]
      all_goals(first|rfl|simp)
     ·refine zF ?_
      all_goals(simp[bZ,dL,gA];done)
    ·refine zQ 2 ?_;refine qn ?_ (hg:=wi gA);simp only[List.length_map];refine zQ 2 ?_;refine qn ?_ (hg:=wi gA);simp only[List.length_map];refine zQ 2 ?_;refine ab.nil (aR ?_ ?_)
     ·dsimp only[aK,List.foldl,nth,u2,u1]
      all_goals(first|rfl|simp)
     ·refine zF ?_
      all_goals(simp[bZ,dL,gA];done)
 dsimp only[aK,List.foldl,nth,u2,u1];refine qc (fun h0=>?_) (fun h0=>?_)<;>try simp only[cs] at h0
 ·rw[dp (q:=dr p place L) (fun h=>by
   rw[b_ h.right] at h0;have h1:=h.ge;have h2:=h.le;have h3:=h.len
   simp at h0;omega)]
  refine zQ 4 ?_;refine ag.ret ⟨rx,_,rfl,rl aN hH (rfl)⟩
 ·refine zQ 1 ?_
  have h0:bm p∧0≤place∧place≤1099511627776∧L.length=p.ak.length:=by
   simp only[Bool.or_eq_false_iff,decide_eq_false_iff_not,Bool.not_eq_false'] at h0;obtain⟨⟨⟨h1,h2⟩,h3⟩,h4⟩:=h0;refine⟨Ck h1,by omega,by omega,?_⟩;simp at h4;omega
  obtain⟨hR,hge,hle,hLs⟩:=h0;refine zQ 6 ?_;refine ag.loop (fun mm fr st=>∃(r:Nat),fr.clean=⟨11,[jK fr 0,jK fr 1,.ptr k2 0 0,.ptr k3 0 0,jK fr 4,.int .i64 (r:Nat),jK fr 6,jK fr 7,jK fr 8,jK fr 9,jK fr 10],[]⟩∧Has s0.bs.length S st [.box k3 (.mem 0 false [.int .i64 place,x]),.box k2 (.mem 0 false [p.cd,p.sd])]∧(r+mm=L.length)∧(A' p place L r)) (L.length) ?_ ?_
  ·exact⟨0,rfl,hH,by omega,by intro r l s h;omega⟩
  rintro mm fr st ⟨r,hfr,hH,hi,hw⟩;rw[hfr];clear hfr;generalize jK fr=ee;clear fr;refine zQ 6 ?_;refine qn ?_;simp only[List.length_map];refine zQ 2 ?_;refine zP (fun h1=>?_) fun h1=>?_
  ·refine zQ 1 ?_
   obtain⟨l,hl⟩:∃l,L[r]?=some l:=⟨L[r]'(by omega),List.getElem?_eq_getElem _⟩
   obtain⟨s,nA⟩:∃s,p.ak[r]?=some s:=⟨p.ak[r]'(by omega),List.getElem?_eq_getElem _⟩
   obtain⟨Au,mO⟩:=LY l (List.mem_of_getElem? hl);have N6:=Arg.of Au aN;have gw:=yp hl;have nB:=fJ nA;have jO:=hR.st s (List.mem_of_getElem? nA);refine zQ 7 ?_;refine qr fun Ze Sh=>?_;refine ab.c_ rfl (ev rfl) (by assumption) rfl (aa rfl _) ?_;refine qa hH fun k6 st Gj hH=>?_;refine qS hH aB fun st hH=>?_;dsimp only[u2,u1,u3,u4,setMany,u5,u6,D.cells,Nat.reduceAdd,aJ,aX,aA,az,Pg.cs,dA,eo,cQ] at hH;refine zQ 3 ?_;refine ag.dM 61 (.bool (!dec (cz l.bf place)||(!l.dn &&!dec (rq l.bf)))) [] ?_ (fun ff tmp dj=>?_)
   ·refine zQ 1 ?_;refine ab.av (m:=10) hH rfl (ev rfl) (by exact aB) (by dsimp only[List.drop_succ_cons,List.drop_zero,List.take_succ_cons,List.take_zero,aJ,aX,aA,az,Pg.cs,dA,eo,cQ]<;>rfl) rfl rfl (aa rfl _) ?_;refine zQ 2 ?_;refine qv (xb l.bf place) ?_;refine zQ 2 ?_;refine ab.two 51 rfl (fun gR=>?_) (fun gR=>?_)
    ·refine zQ 10 ?_;refine ab.nil (aR ?_ ?_)
     ·dsimp only[aK,List.foldl,nth,u2,u1]
      all_goals(first|rfl|simp)
     ·refine zF ?_
      all_goals(simp[gR];done)
    ·refine zQ 4 ?_;refine ab.two 55 rfl (fun ek=>?_) (fun ek=>?_)
     ·refine zQ 1 ?_;refine ab.av (m:=10) hH (af rfl rfl rfl ek) (ev rfl) (by exact aB) (by dsimp only[List.drop_succ_cons,List.drop_zero,List.take_succ_cons,List.take_zero,aJ,aX,aA,az,Pg.cs,dA,eo,cQ]<;>rfl) rfl rfl (aa rfl _) ?_;refine qv (dE _) ?_ (hg:=wi ek);refine ab.QA (af rfl rfl rfl ek) (ev rfl) (ev rfl) (DB l.bf) (aa rfl _) ?_;refine ab.bN (af rfl rfl rfl gR) rfl ek (aa rfl _) ?_;refine zQ 1 ?_;refine ab.nil (aR ?_ ?_)
      ·dsimp only[aK,List.foldl,nth,u2,u1]
       all_goals(first|rfl|simp)
      ·refine zF ?_
       all_goals(simp[gR,ek];done)
     ·refine zQ 4 ?_;refine ab.cA (af rfl rfl rfl gR) rfl ek (aa rfl _) ?_;refine zQ 1 ?_;refine ab.nil (aR ?_ ?_)
      ·dsimp only[aK,List.foldl,nth,u2,u1]
       all_goals(first|rfl|simp)
      ·refine zF ?_
       all_goals(simp[gR,ek];done)
   refine zG ?_;refine qc (fun h2=>?_) (fun h2=>?_)<;>try simp only[cs] at h2
   ·rw[dp (q:=dr p place L) (fun h=>by
     obtain⟨h3,h4,h5⟩:=h.each r l s (by omega) hl nA;rw[b_ h4] at h2
     rcases h3 with h3|h3
     ·simp[h3] at h2
     ·simp[b_ h3] at h2)]
    refine zQ 4 ?_;refine ag.ret ⟨rx,_,rfl,rl aN hH (rfl)⟩
   ·refine zQ 1 ?_
    have h2:cz l.bf place∧(l.dn=true∨rq l.bf):=by
     simp only[Bool.or_eq_false_iff,Bool.and_eq_false_iff,Bool.not_eq_false'] at h2;obtain⟨h3,h4⟩:=h2;refine⟨Ck h3,?_⟩
     rcases h4 with h4|h4
     ·exact .inl h4
     ·exact .inr (Ck h4)
    have sQ:=nU p.code s;have L9:=(qX (bR p.code s)).arg s0.bs.length S;refine zQ 2 ?_;refine ab.av (m:=2) hH rfl (ev rfl) (by exact a_) (by dsimp only[List.drop_succ_cons,List.drop_zero,List.take_succ_cons,List.take_zero,aJ,aX,aA,az,Pg.cs,dA,eo,cQ]<;>rfl) rfl rfl (aa rfl _) ?_;refine qm ?_;refine qv ((ZY hR nA _)) ?_;refine zQ 6 ?_;refine qn ?_;simp only[List.length_map];refine ab.Az (s:=1) hH rfl rfl rfl rfl rfl rfl rfl rfl (Nat.le_of_ble_eq_true rfl) (by omega) (fun _=>(aa rfl _)) (fun k68 st adp hH=>?_);refine zQ 7 ?_;refine ag.loop (fun mm fr st=>∃(j:Nat) (y:D) (seen:List Bool),fr.clean=⟨11,[jK fr 0,jK fr 1,.ptr k2 0 0,.ptr k3 0 0,jK fr 4,.int .i64 (r:Nat),.ptr k6 0 0,rV (bR p.code s),y,.int .i64 (j:Nat),jK fr 10],[]⟩∧Has s0.bs.length S st [.aF y 1 (seen.map cQ),.box k6 (.mem 0 false (aX l.dn l.bf l.td)),.box k3 (.mem 0 false [.int .i64 place,x]),.box k2 (.mem 0 false [p.cd,p.sd])]∧(j+mm=l.bn.length)∧(seen.length=p.code.length)∧(y4 l.bn j seen)∧(lP p s l.bn place j)) (l.bn.length) ?_ ?_
    ·exact⟨0,_,List.replicate p.code.length false,rfl,(by rw[List.map_replicate];exact hH),by omega,by simp,y4.nil _ _,(by intro j t h;omega)⟩
    rintro mm fr st ⟨j,y,seen,hfr,hH,hj,ej,sP,UN⟩;rw[hfr];clear hfr;generalize jK fr=ee;clear fr;refine zQ 6 ?_;refine qn ?_;simp only[List.length_map];refine zQ 2 ?_;refine zP (fun h3=>?_) fun h3=>?_
    ·refine zQ 1 ?_
     obtain⟨⟨pc,tc⟩,ht⟩:∃t,l.bn[j]?=some t:=⟨l.bn[j]'(by omega),List.getElem?_eq_getElem _⟩
     have Gc:=Ca ht;have oQ:¬(oE p s l.bn j pc∧cz tc place)→¬dr p place L:=fun h2 h=>h2 ((h.each r l s (by omega) hl nA).2.2 j _ (by omega) ht);have UG:oE p s l.bn j pc→cz tc place→lP p s l.bn place (j+1):=fun h1 h2=>u_ ht UN h1 h2;refine zQ 7 ?_;refine qr fun Ym Pm=>?_;refine ab.c_ rfl (ev rfl) (by assumption) rfl (aa rfl _) ?_;refine qa hH fun k10 st VI hH=>?_;dsimp only[u2,u1,u3,u4,setMany,u5,u6,D.cells,Nat.reduceAdd,aJ,aX,aA,az,Pg.cs,dA,eo,cQ] at hH;refine qS hH aB fun st hH=>?_;dsimp only[u2,u1,u3,u4,setMany,u5,u6,D.cells,Nat.reduceAdd,aJ,aX,aA,az,Pg.cs,dA,eo,cQ] at hH;refine zQ 1 ?_
     by_cases Gg:pc<0
     ·have bZ:decide (pc<0)=true:=decide_eq_true Gg;refine zQ 2 ?_;refine ag.dM 106 (.bool true) [] ?_ (fun ff tmp dj=>?_)
      ·refine zQ 26 ?_;refine ab.nil (aR ?_ ?_)
       ·dsimp only[aK,List.foldl,nth,u2,u1]
        all_goals(first|rfl|simp)
       ·exact zS
        all_goals(first|rfl|(simp[bZ];done)|(simp_all;done)|(simp[bZ];omega)|(simp_all;omega))
      refine zG ?_;refine qB ?_;rw[dp (oQ fun h=>by have:=yt hR jO h.1.1;omega)];refine zQ 4 ?_;refine ag.ret ⟨rx,_,rfl,rl aN hH (rfl)⟩
     ·have bZ:decide (pc<0)=false:=decide_eq_false Gg
      by_cases D4:pc≥(p.code.length:Int)
      ·have ck:decide (pc≥(p.code.length:Int))=true:=decide_eq_true D4;refine zQ 2 ?_;refine ag.dM 106 (.bool true) [] ?_ (fun ff tmp dj=>?_)
       ·refine zQ 8 ?_;refine qn ?_ (hg:=wi bZ);simp only[List.length_map];refine zQ 17 ?_;refine ab.nil (aR ?_ ?_)
        ·dsimp only[aK,List.foldl,nth,u2,u1]
         all_goals(first|rfl|simp)
        ·exact zS
         all_goals(first|rfl|(simp[bZ,ck];done)|(simp_all;done)|(simp[bZ,ck];omega)|(simp_all;omega))
       refine zG ?_;refine qB ?_;rw[dp (oQ fun h=>by have:=yt hR jO h.1.1;omega)];refine zQ 4 ?_;refine ag.ret ⟨rx,_,rfl,rl aN hH (rfl)⟩
      ·have ck:decide (pc≥(p.code.length:Int))=false:=decide_eq_false D4;obtain⟨k,rfl⟩:=Int.eq_ofNat_of_zero_le (show 0≤pc by omega)
       obtain⟨b,hb⟩:∃b,seen[k]?=some b:=⟨seen[k]'(by omega),List.getElem?_eq_getElem _⟩
       have hr4:=mb hb;have iM:(seen.set k true).map cQ=(seen.map cQ).set k [.bool true]:=by rw[List.map_set];rfl
       refine zQ 2 ?_;refine ag.dM 106 (.bool (b||!dec (cz tc place))) [] ?_ (fun ff tmp dj=>?_)
       ·refine zQ 8 ?_;refine qn ?_ (hg:=wi bZ);simp only[List.length_map];refine zQ 6 ?_;refine qi hH aO (fun p96 acW=>?_) (hg:=wi ck);refine zQ 3 ?_;refine ab.two 99 rfl (fun zo=>?_) (fun zo=>?_)
        ·refine zQ 7 ?_;refine ab.nil (aR ?_ ?_)
         ·dsimp only[aK,List.foldl,nth,u2,u1]
          all_goals(first|rfl|simp)
         ·refine zF ?_
          all_goals(simp[bZ,ck,zo];done)
        ·refine zQ 1 ?_;refine ab.av (m:=10) hH (af rfl rfl rfl zo) (ev rfl) (by exact aB) (by dsimp only[List.drop_succ_cons,List.drop_zero,List.take_succ_cons,List.take_zero,aJ,aX,aA,az,Pg.cs,dA,eo,cQ]<;>rfl) rfl rfl (aa rfl _) ?_;refine zQ 2 ?_;refine qv (xb tc place) ?_ (hg:=wi zo);refine zQ 2 ?_;refine ab.nil (aR ?_ ?_)
         ·dsimp only[aK,List.foldl,nth,u2,u1]
          all_goals(first|rfl|simp)
         ·refine zF ?_
          all_goals(simp[bZ,ck,zo];done)
       refine zG ?_;refine qc (fun h4=>?_) (fun h4=>?_)<;>try simp only[cs] at h4
       ·rw[dp (oQ fun h=>by
         rw[b_ h.2] at h4;simp at h4;obtain⟨j',t',h5,h6,h7⟩:=(sP k b hb).1 h4
         exact h.1.2 j' t' h5 h6 h7)]
        refine zQ 4 ?_;refine ag.ret ⟨rx,_,rfl,rl aN hH (rfl)⟩
       ·refine zQ 1 ?_;simp only[Bool.or_eq_false_iff,Bool.not_eq_false'] at h4;obtain⟨rfl,h4⟩:=h4;have fT:=Ck h4;have Ml:∀j' t',j'<j→l.bn[j']?=some t'→t'.pc≠(k:Int):=fun j' t' h5 h6 h7=>by have:=(sP k false hb).2 ⟨j',t',h5,h6,h7⟩;cases this
        by_cases mA:(k:Int)=s
        ·have dL:((k:Int) !=s)=false:=by simp[mA]
         refine zQ 2 ?_;refine ag.dM 139 (.bool false) [] ?_ (fun ff tmp dj=>?_)
         ·refine zQ 5 ?_;refine qr fun Uk QK=>?_;refine zQ 27 ?_;refine ab.nil (aR ?_ ?_)
          ·dsimp only[aK,List.foldl,nth,u2,u1]
           all_goals(first|rfl|simp)
          ·exact zS
           all_goals(first|rfl|(simp[dL];done)|(simp_all;done)|(simp[dL];omega)|(simp_all;omega))
         dsimp only[aK,List.foldl,nth,u2,u1];refine zQ 6 ?_;refine qi hH aO fun Zk Vo=>?_;refine ab.jb hH rfl (ev rfl) (ev rfl) (by assumption) rfl rfl (by exact aO) (by assumption) (Nat.le_of_ble_eq_true rfl) (by exact .inl hF) (fun st hH=>?_);dsimp only[u2,u1,u3,u4,setMany,u5,u6,D.cells,Nat.reduceAdd,aJ,aX,aA,az,Pg.cs,dA,eo,cQ] at hH;refine zQ 6 ?_;exact⟨mm-1,by omega,⟨j+1,y,seen.set k true,rfl,(by rw[iM];exact hH.drop 1),by omega,by simpa using ej,sP.set ht rfl,UG ⟨.inl mA,Ml⟩ fT⟩⟩
        ·have dL:((k:Int) !=s)=true:=by simp[mA]
         by_cases D_:k=0
         ·subst D_;have eV:(((0:Nat):Int)==0)=true:=rfl;refine zQ 2 ?_;refine ag.dM 139 (.bool true) [] ?_ (fun ff tmp dj=>?_)
          ·refine zQ 5 ?_;refine qr fun Uk QK=>?_;refine zQ 14 ?_;refine ab.bN (af rfl rfl rfl dL) rfl eV (aa rfl _) ?_;refine zQ 12 ?_;refine ab.nil (aR ?_ ?_)
           ·dsimp only[aK,List.foldl,nth,u2,u1]
            all_goals(first|rfl|simp)
           ·exact zS
            all_goals(first|rfl|(simp[dL,eV];done)|(simp_all;done)|(simp[dL,eV];omega)|(simp_all;omega))
          dsimp only[aK,List.foldl,nth,u2,u1];refine qB ?_
          rw[dp (oQ fun h=>by
           rcases h.1.1 with h|⟨i,q,h5,h6,_⟩
           ·exact mA h
           ·omega)]
          refine zQ 4 ?_;refine ag.ret ⟨rx,_,rfl,rl aN hH (rfl)⟩
         ·obtain⟨k',rfl⟩:∃k',k=k'+1:=⟨k-1,by omega⟩
          have eV:(((k'+1:Nat):Int)==0)=false:=by simp;omega
          obtain⟨b2,hb2⟩:∃b,(bR p.code s)[k']?=some b:=⟨(bR p.code s)[k']'(by omega),List.getElem?_eq_getElem _⟩
          obtain⟨q,hq⟩:∃q,p.code[k']?=some q:=⟨p.code[k']'(by omega),List.getElem?_eq_getElem _⟩
          have hr5:=mb hb2;have hr6:=gM hq;refine zQ 2 ?_;refine ag.dM 139 (.bool (!b2||(q.op !=1))) [] ?_ (fun ff tmp dj=>?_)
          ·refine zQ 5 ?_;refine qr fun Uk QK=>?_;refine zQ 10 ?_;refine ab.gd (z:=((k':Nat):Int)) (af rfl rfl rfl eV) (ev rfl) (ev rfl) (by(try simp only[List.length_reverse,List.length_cons,List.length_nil,List.length_append,List.length_map,List.length_set]);rw[wrap_i64 (by omega) (by omega)]<;>omega) (aa rfl _) ?_;refine qr (fun acB acm=>?_) (hg:=wi eV);refine zQ 2 ?_;refine ab.cA (af rfl rfl rfl dL) rfl eV (aa rfl _) ?_;refine zQ 1 ?_;refine ab.two 128 rfl (fun kY=>?_) (fun kY=>?_)
           ·refine zQ 9 ?_;refine ab.bN (af rfl rfl rfl dL) rfl kY (aa rfl _) ?_;refine zQ 1 ?_;refine ab.nil (aR ?_ ?_)
            ·dsimp only[aK,List.foldl,nth,u2,u1]
             all_goals(first|rfl|simp)
            ·refine zF ?_
             all_goals(simp[dL,eV,kY];done)
           ·refine zQ 4 ?_;refine ab.gd (z:=((k':Nat):Int)) (af rfl rfl rfl kY) (ev rfl) (ev rfl) (by(try simp only[List.length_reverse,List.length_cons,List.length_nil,List.length_append,List.length_map,List.length_set]);rw[wrap_i64 (by omega) (by omega)]<;>omega) (aa rfl _) ?_;refine qr (fun acA ack=>?_) (hg:=wi kY);refine qf (fo:=0) (fun acz acj=>?_) (hg:=wi kY);refine zQ 2 ?_;refine ab.cA (af rfl rfl rfl dL) rfl kY (aa rfl _) ?_;refine zQ 1 ?_;refine ab.nil (aR ?_ ?_)
            ·dsimp only[aK,List.foldl,nth,u2,u1]
             all_goals(first|rfl|simp)
            ·refine zF ?_
             all_goals(simp[dL,eV,kY];done)
          dsimp only[aK,List.foldl,nth,u2,u1];refine qc (fun h5=>?_) (fun h5=>?_)<;>try simp only[cs] at h5
          ·rw[dp (oQ fun h=>by
            rcases h.1.1 with h|⟨i,q',h6,h7,h8,h9,h10⟩
            ·exact mA h
            ·have:i=k':=by omega
             subst this;rw[hb2] at h8;cases h8;rw[hq] at h9;cases h9
             simp[h10] at h5)]
           refine zQ 4 ?_;refine ag.ret ⟨rx,_,rfl,rl aN hH (rfl)⟩
          ·refine zQ 1 ?_;simp only[Bool.or_eq_false_iff,Bool.not_eq_false',bne_eq_false_iff_eq] at h5;obtain⟨rfl,h5⟩:=h5;refine zQ 4 ?_;refine qi hH aO fun Zk Vo=>?_;refine ab.jb hH rfl (ev rfl) (ev rfl) (by assumption) rfl rfl (by exact aO) (by assumption) (Nat.le_of_ble_eq_true rfl) (by exact .inl hF) (fun st hH=>?_);dsimp only[u2,u1,u3,u4,setMany,u5,u6,D.cells,Nat.reduceAdd,aJ,aX,aA,az,Pg.cs,dA,eo,cQ] at hH;refine zQ 6 ?_;exact⟨mm-1,by omega,⟨j+1,y,seen.set (k'+1) true,rfl,(by rw[iM];exact hH.drop 1),by omega,by simpa using ej,sP.set ht rfl,UG ⟨.inr ⟨k',q,by omega,rfl,hb2,hq,h5⟩,Ml⟩ fT⟩⟩
    ·refine zQ 6 ?_;exact⟨L.length-(r+1),by omega,⟨r+1,rfl,hH.drop 2,by omega,hw.succ hl nA ⟨h2.2,h2.1,by rw[show l.bn.length=j by omega];exact UN⟩⟩⟩
  ·refine zQ 1 ?_;rw[b_ (q:=dr p place L) ⟨hR,hge,hle,hLs,by rw[show L.length=r by omega];exact hw⟩];refine zQ 4 ?_;refine ag.ret ⟨rx,_,rfl,rl aN hH (rfl)⟩
end Go.Proofs.YtecjacicdpejaaaGreat
