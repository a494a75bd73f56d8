/-
 The document's: may a machine of a program have these lists?
-/
import Derived.Test.YtecjacicdpejaaaGreatXGHr
import Derived.Test.YtecjacicdpejaaaGreatXGYv
set_option maxRecDepth 100000
set_option maxHeartbeats 4000000
set_option linter.unusedSimpArgs false
set_option linter.unusedVariables false
namespace Go.Proofs.YtecjacicdpejaaaGreat
open Go.V Go
def gh (fr:Go.V.Fr) (k:Nat):Go.V.D:=Go.V.nth .bj fr.loc k
theorem wG {q:Prop} (h:dec q=true):q:=@of_decide_eq_true _ (Classical.propDecidable _) h
theorem sN {p:Pg} (hR:cL p) {s:Int} (hs:0≤s∧s<(p.code.length:Int)) {m:Nat} {n:Int} (h:pM p s m n):0≤n∧n<(p.code.length:Int):=by
 rcases h with rfl|⟨i,q,h1,rfl,h3,h4,h5⟩
 ·exact hs
 ·have h6:=hR.sh i q h4;unfold cv at h6;rw[if_pos h5] at h6;simp only[Bool.and_eq_true,decide_eq_true_eq] at h6;exact⟨by omega,h6.2.1.1⟩
def ti (ct:List GT) (j:Nat) (seen:List Bool):Prop:=∀(k:Nat) b,seen[k]?=some b→(b=true↔∃j' t,j'<j∧ct[j']?=some t∧t.pc=(k:Int))
theorem ti.nil (ct:List GT) (n:Nat):ti ct 0 (List.replicate n false):=by
 intro k b h;rw[List.getElem?_replicate] at h
 split at h
 ·cases h;simp
 ·cases h
theorem ti.set {ct:List GT} {j k:Nat} {seen:List Bool} {t:GT} (h:ti ct j seen) (ht:ct[j]?=some t) (hk:t.pc=(k:Int)):ti ct (j+1) (seen.set k true):=by
 intro k' b hb;rw[List.getElem?_set] at hb
 by_cases he:k=k'
 ·subst he;rw[if_pos rfl] at hb
  split at hb
  ·cases hb;exact⟨fun _=>⟨j,t,by omega,ht,hk⟩,fun _=>rfl⟩
  ·cases hb
 ·rw[if_neg he] at hb;rw[h k' b hb];constructor
  ·rintro⟨j',t',h1,h2,h3⟩;exact⟨j',t',by omega,h2,h3⟩
  ·rintro⟨j',t',h1,h2,h3⟩
   by_cases hj:j'=j
   ·subst hj;rw[ht] at h2;cases h2;omega
   ·exact⟨j',t',by omega,h2,h3⟩
theorem D9 (lK:∀st,Ev pv 193 [] st (.agg (aY dP)) st) {s0:St} {p:Pg} (hp:p.ok) {x:D} {L:List GV} (hx:Dn s0 x L) (place:Int):
  Ev pv 141 [p.d,.agg [.int .i64 place,x]] s0 (.bool (dec (dH p place L))) s0:=by
 obtain⟨hx,WN,JK⟩:=hx;have ka:=hp.sl;have HX:=hp.cl;refine Ev.ia rfl Oj rfl rfl rfl ?_;refine zE ?_;obtain⟨aP,hF,hH⟩:=ri s0;generalize ae .ro s0=S at*;have hc:=hp.c.arg s0.bs.length S;have hs:=hp.s.arg s0.bs.length S;have hla:=Arg.of hx aP;have hcr:=fun st=>nA (s0:=st) hp
 have Qd:=fun(hR:cL p) {r:Nat} {s:Int} (hr:p.aq[r]?=some s) (st:St)=>(show kl p (r:Nat)=ba p.code s by
      unfold kl
      rw[if_pos (fH.2 ⟨by omega,by have:=bo hr;omega⟩),Int.toNat_natCast,List.getD_eq_getElem?_getD,hr];rfl)▸px (s0:=st) (p:=p) (kh:=(r:Nat)) hp hR.closed hR.st
 unfold Pg.d at*;refine zQ 2 ?_;refine qb hH fun k2 st hk2 hH=>?_;dsimp only[u2,u1,u3,u4,setMany,u5,u6,D.cells,Nat.reduceAdd,aT,cA,aY,ax,Pg.cs,eN,f',bE] at hH;refine qb hH fun k3 st tG hH=>?_;refine zQ 4 ?_;refine ak.cY 32 (.bool (((!dec (cL p)||decide (place<0))||decide (place>1099511627776))||(((L.length:Nat):Int) !=((p.aq.length:Nat):Int)))) [] ?_ (fun ff tmp cx=>?_)
 ·refine aa.aL (m:=2) hH rfl (ev rfl) (by exact bV) (by dsimp only[List.drop_succ_cons,List.drop_zero,List.take_succ_cons,List.take_zero,aT,cA,aY,ax,Pg.cs,eN,f',bE]<;>rfl) rfl rfl (ab rfl _) ?_;refine qv ((hcr _)) ?_;refine zQ 2 ?_;refine aa.two 14 rfl (fun bk=>?_) (fun bk=>?_)
  ·refine zQ 18 ?_;refine aa.nil (aJ ?_ ?_)
   ·dsimp only[aF,List.foldl,nth,u2,u1]
    all_goals(first|rfl|simp)
   ·refine zF ?_
    all_goals(simp[bk];done)
  ·refine zQ 5 ?_;refine aa.two 19 rfl (fun gW=>?_) (fun gW=>?_)
   ·refine zQ 13 ?_;refine aa.nil (aJ ?_ ?_)
    ·dsimp only[aF,List.foldl,nth,u2,u1]
     all_goals(first|rfl|simp)
    ·refine zF ?_
     all_goals(simp[bk,gW];done)
   ·refine zQ 5 ?_;refine aa.two 24 rfl (fun d_=>?_) (fun d_=>?_)
    ·refine zQ 8 ?_;refine aa.nil (aJ ?_ ?_)
     ·dsimp only[aF,List.foldl,nth,u2,u1]
      all_goals(first|rfl|simp)
     ·refine zF ?_
      all_goals(simp[bk,gW,d_];done)
    ·refine zQ 2 ?_;refine qn ?_ (hg:=wi d_);simp only[List.length_map];refine zQ 2 ?_;refine qn ?_ (hg:=wi d_);simp only[List.length_map];refine zQ 2 ?_;refine aa.nil (aJ ?_ ?_)
     ·dsimp only[aF,List.foldl,nth,u2,u1]
      all_goals(first|rfl|simp)
     ·refine zF ?_
      all_goals(simp[bk,gW,d_];done)
 dsimp only[aF,List.foldl,nth,u2,u1];refine qc (fun h0=>?_) (fun h0=>?_)<;>try simp only[cs] at h0
 ·rw[cq (q:=dH p place L) (fun h=>by
   rw[bK h.right] at h0;have h1:=h.ge;have h2:=h.le;have h3:=h.len
   simp at h0;omega)]
  refine zQ 4 ?_;refine ak.ret ⟨rx,_,rfl,rl aP hH (rfl)⟩
 ·refine zQ 1 ?_
  have h0:cL p∧0≤place∧place≤1099511627776∧L.length=p.aq.length:=by
   simp only[Bool.or_eq_false_iff,decide_eq_false_iff_not,Bool.not_eq_false'] at h0;obtain⟨⟨⟨h1,h2⟩,h3⟩,h4⟩:=h0;refine⟨wG h1,by omega,by omega,?_⟩;simp at h4;omega
  obtain⟨hR,hge,hle,Rt⟩:=h0;refine zQ 6 ?_;refine ak.loop (fun mm fr st=>∃(r:Nat),fr.clean=⟨11,[gh fr 0,gh fr 1,.ptr k2 0 0,.ptr k3 0 0,gh fr 4,.int .i64 (r:Nat),gh fr 6,gh fr 7,gh fr 8,gh fr 9,gh fr 10],[]⟩∧Has s0.bs.length S st [.box k3 (.mem 0 false [.int .i64 place,x]),.box k2 (.mem 0 false [p.cd,p.sd])]∧(r+mm=L.length)∧(vh p place L r)) (L.length) ?_ ?_
  ·exact⟨0,rfl,hH,by omega,by intro r l s h;omega⟩
  rintro mm fr st ⟨r,hfr,hH,hi,hw⟩;rw[hfr];clear hfr;generalize gh fr=ee;clear fr;refine zQ 6 ?_;refine qn ?_;simp only[List.length_map];refine zQ 2 ?_;refine zP (fun h1=>?_) fun h1=>?_
  ·refine zQ 1 ?_
   obtain⟨l,hl⟩:∃l,L[r]?=some l:=⟨L[r]'(by omega),List.getElem?_eq_getElem _⟩
   obtain⟨s,kR⟩:∃s,p.aq[r]?=some s:=⟨p.aq[r]'(by omega),List.getElem?_eq_getElem _⟩
   obtain⟨y4,nM⟩:=JK l (List.mem_of_getElem? hl);have K5:=Arg.of y4 aP;have gm:=Ap hl;have mA:=er kR;have gC:=hR.st s (List.mem_of_getElem? kR);refine zQ 7 ?_;refine qr fun PD JW=>?_;refine aa.cV rfl (ev rfl) (by assumption) rfl (ab rfl _) ?_;refine qa hH fun k6 st Dx hH=>?_;refine qS hH aN fun st hH=>?_;dsimp only[u2,u1,u3,u4,setMany,u5,u6,D.cells,Nat.reduceAdd,aT,cA,aY,ax,Pg.cs,eN,f',bE] at hH;refine zQ 3 ?_;refine ak.cY 61 (.bool (!dec (cI l.best place)||(!l.dn &&!dec (mF l.best)))) [] ?_ (fun ff tmp cx=>?_)
   ·refine zQ 1 ?_;refine aa.aL (m:=10) hH rfl (ev rfl) (by exact aN) (by dsimp only[List.drop_succ_cons,List.drop_zero,List.take_succ_cons,List.take_zero,aT,cA,aY,ax,Pg.cs,eN,f',bE]<;>rfl) rfl rfl (ab rfl _) ?_;refine zQ 2 ?_;refine qv (rH l.best place) ?_;refine zQ 2 ?_;refine aa.two 51 rfl (fun ju=>?_) (fun ju=>?_)
    ·refine zQ 10 ?_;refine aa.nil (aJ ?_ ?_)
     ·dsimp only[aF,List.foldl,nth,u2,u1]
      all_goals(first|rfl|simp)
     ·refine zF ?_
      all_goals(simp[ju];done)
    ·refine zQ 4 ?_;refine aa.two 55 rfl (fun c7=>?_) (fun c7=>?_)
     ·refine zQ 1 ?_;refine aa.aL (m:=10) hH (ai rfl rfl rfl c7) (ev rfl) (by exact aN) (by dsimp only[List.drop_succ_cons,List.drop_zero,List.take_succ_cons,List.take_zero,aT,cA,aY,ax,Pg.cs,eN,f',bE]<;>rfl) rfl rfl (ab rfl _) ?_;refine qv (lK _) ?_ (hg:=wi c7);refine aa.KZ (ai rfl rfl rfl c7) (ev rfl) (ev rfl) (xW l.best) (ab rfl _) ?_;refine aa.cQ (ai rfl rfl rfl ju) rfl c7 (ab rfl _) ?_;refine zQ 1 ?_;refine aa.nil (aJ ?_ ?_)
      ·dsimp only[aF,List.foldl,nth,u2,u1]
       all_goals(first|rfl|simp)
      ·refine zF ?_
       all_goals(simp[ju,c7];done)
     ·refine zQ 4 ?_;refine aa.cH (ai rfl rfl rfl ju) rfl c7 (ab rfl _) ?_;refine zQ 1 ?_;refine aa.nil (aJ ?_ ?_)
      ·dsimp only[aF,List.foldl,nth,u2,u1]
       all_goals(first|rfl|simp)
      ·refine zF ?_
       all_goals(simp[ju,c7];done)
   refine zG ?_;refine qc (fun h2=>?_) (fun h2=>?_)<;>try simp only[cs] at h2
   ·rw[cq (q:=dH p place L) (fun h=>by
     obtain⟨h3,h4,h5⟩:=h.each r l s (by omega) hl kR;rw[bK h4] at h2
     rcases h3 with h3|h3
     ·simp[h3] at h2
     ·simp[bK h3] at h2)]
    refine zQ 4 ?_;refine ak.ret ⟨rx,_,rfl,rl aP hH (rfl)⟩
   ·refine zQ 1 ?_
    have h2:cI l.best place∧(l.dn=true∨mF l.best):=by
     simp only[Bool.or_eq_false_iff,Bool.and_eq_false_iff,Bool.not_eq_false'] at h2;obtain⟨h3,h4⟩:=h2;refine⟨wG h3,?_⟩
     rcases h4 with h4|h4
     ·exact .inl h4
     ·exact .inr (wG h4)
    have Ac:=kj p.code s;have IQ:=(mq (ba p.code s)).arg s0.bs.length S;refine zQ 2 ?_;refine aa.aL (m:=2) hH rfl (ev rfl) (by exact fm) (by dsimp only[List.drop_succ_cons,List.drop_zero,List.take_succ_cons,List.take_zero,aT,cA,aY,ax,Pg.cs,eN,f',bE]<;>rfl) rfl rfl (ab rfl _) ?_;refine qm ?_;refine qv ((Qd hR kR _)) ?_;refine zQ 6 ?_;refine qn ?_;simp only[List.length_map];refine aa.yp (s:=1) hH rfl rfl rfl rfl rfl rfl rfl rfl (Nat.le_of_ble_eq_true rfl) (by omega) (fun _=>(ab rfl _)) (fun k68 st VZ hH=>?_);refine zQ 7 ?_;refine ak.loop (fun mm fr st=>∃(j:Nat) (y:D) (seen:List Bool),fr.clean=⟨11,[gh fr 0,gh fr 1,.ptr k2 0 0,.ptr k3 0 0,gh fr 4,.int .i64 (r:Nat),.ptr k6 0 0,na (ba p.code s),y,.int .i64 (j:Nat),gh fr 10],[]⟩∧Has s0.bs.length S st [.aC y 1 (seen.map bE),.box k6 (.mem 0 false (cA l.dn l.best l.td)),.box k3 (.mem 0 false [.int .i64 place,x]),.box k2 (.mem 0 false [p.cd,p.sd])]∧(j+mm=l.ct.length)∧(seen.length=p.code.length)∧(ti l.ct j seen)∧(kb p s l.ct place j)) (l.ct.length) ?_ ?_
    ·exact⟨0,_,List.replicate p.code.length false,rfl,(by rw[List.map_replicate];exact hH),by omega,by simp,ti.nil _ _,(by intro j t h;omega)⟩
    rintro mm fr st ⟨j,y,seen,hfr,hH,hj,uG,sC,LX⟩;rw[hfr];clear hfr;generalize gh fr=ee;clear fr;refine zQ 6 ?_;refine qn ?_;simp only[List.length_map];refine zQ 2 ?_;refine zP (fun h3=>?_) fun h3=>?_
    ·refine zQ 1 ?_
     obtain⟨⟨pc,tc⟩,ht⟩:∃t,l.ct[j]?=some t:=⟨l.ct[j]'(by omega),List.getElem?_eq_getElem _⟩
     have Ae:=Aq ht;have lb:¬(mJ p s l.ct j pc∧cI tc place)→¬dH p place L:=fun h2 h=>h2 ((h.each r l s (by omega) hl kR).2.2 j _ (by omega) ht);have LV:mJ p s l.ct j pc→cI tc place→kb p s l.ct place (j+1):=fun h1 h2=>pk ht LX h1 h2;refine zQ 7 ?_;refine qr fun OS HE=>?_;refine aa.cV rfl (ev rfl) (by assumption) rfl (ab rfl _) ?_;refine qa hH fun k10 st QZ hH=>?_;dsimp only[u2,u1,u3,u4,setMany,u5,u6,D.cells,Nat.reduceAdd,aT,cA,aY,ax,Pg.cs,eN,f',bE] at hH;refine qS hH aN fun st hH=>?_;dsimp only[u2,u1,u3,u4,setMany,u5,u6,D.cells,Nat.reduceAdd,aT,cA,aY,ax,Pg.cs,eN,f',bE] at hH;refine zQ 1 ?_
     by_cases Du:pc<0
     ·have bk:decide (pc<0)=true:=decide_eq_true Du;refine zQ 2 ?_;refine ak.cY 106 (.bool true) [] ?_ (fun ff tmp cx=>?_)
      ·refine zQ 26 ?_;refine aa.nil (aJ ?_ ?_)
       ·dsimp only[aF,List.foldl,nth,u2,u1]
        all_goals(first|rfl|simp)
       ·exact zS
        all_goals(first|rfl|(simp[bk];done)|(simp_all;done)|(simp[bk];omega)|(simp_all;omega))
      refine zG ?_;refine qB ?_;rw[cq (lb fun h=>by have:=sN hR gC h.1.1;omega)];refine zQ 4 ?_;refine ak.ret ⟨rx,_,rfl,rl aP hH (rfl)⟩
     ·have bk:decide (pc<0)=false:=decide_eq_false Du
      by_cases GI:pc≥(p.code.length:Int)
      ·have bR:decide (pc≥(p.code.length:Int))=true:=decide_eq_true GI;refine zQ 2 ?_;refine ak.cY 106 (.bool true) [] ?_ (fun ff tmp cx=>?_)
       ·refine zQ 8 ?_;refine qn ?_ (hg:=wi bk);simp only[List.length_map];refine zQ 17 ?_;refine aa.nil (aJ ?_ ?_)
        ·dsimp only[aF,List.foldl,nth,u2,u1]
         all_goals(first|rfl|simp)
        ·exact zS
         all_goals(first|rfl|(simp[bk,bR];done)|(simp_all;done)|(simp[bk,bR];omega)|(simp_all;omega))
       refine zG ?_;refine qB ?_;rw[cq (lb fun h=>by have:=sN hR gC h.1.1;omega)];refine zQ 4 ?_;refine ak.ret ⟨rx,_,rfl,rl aP hH (rfl)⟩
      ·have bR:decide (pc≥(p.code.length:Int))=false:=decide_eq_false GI;obtain⟨k,rfl⟩:=Int.eq_ofNat_of_zero_le (show 0≤pc by omega)
       obtain⟨b,hb⟩:∃b,seen[k]?=some b:=⟨seen[k]'(by omega),List.getElem?_eq_getElem _⟩
       have XX:=jb hb;have fy:(seen.set k true).map bE=(seen.map bE).set k [.bool true]:=by rw[List.map_set];rfl
       refine zQ 2 ?_;refine ak.cY 106 (.bool (b||!dec (cI tc place))) [] ?_ (fun ff tmp cx=>?_)
       ·refine zQ 8 ?_;refine qn ?_ (hg:=wi bk);simp only[List.length_map];refine zQ 6 ?_;refine qi hH bV (fun Xs Vj=>?_) (hg:=wi bR);refine zQ 3 ?_;refine aa.two 99 rfl (fun Fl=>?_) (fun Fl=>?_)
        ·refine zQ 7 ?_;refine aa.nil (aJ ?_ ?_)
         ·dsimp only[aF,List.foldl,nth,u2,u1]
          all_goals(first|rfl|simp)
         ·refine zF ?_
          all_goals(simp[bk,bR,Fl];done)
        ·refine zQ 1 ?_;refine aa.aL (m:=10) hH (ai rfl rfl rfl Fl) (ev rfl) (by exact aN) (by dsimp only[List.drop_succ_cons,List.drop_zero,List.take_succ_cons,List.take_zero,aT,cA,aY,ax,Pg.cs,eN,f',bE]<;>rfl) rfl rfl (ab rfl _) ?_;refine zQ 2 ?_;refine qv (rH tc place) ?_ (hg:=wi Fl);refine zQ 2 ?_;refine aa.nil (aJ ?_ ?_)
         ·dsimp only[aF,List.foldl,nth,u2,u1]
          all_goals(first|rfl|simp)
         ·refine zF ?_
          all_goals(simp[bk,bR,Fl];done)
       refine zG ?_;refine qc (fun h4=>?_) (fun h4=>?_)<;>try simp only[cs] at h4
       ·rw[cq (lb fun h=>by
         rw[bK h.2] at h4;simp at h4;obtain⟨j',t',h5,h6,h7⟩:=(sC k b hb).1 h4
         exact h.1.2 j' t' h5 h6 h7)]
        refine zQ 4 ?_;refine ak.ret ⟨rx,_,rfl,rl aP hH (rfl)⟩
       ·refine zQ 1 ?_;simp only[Bool.or_eq_false_iff,Bool.not_eq_false'] at h4;obtain⟨rfl,h4⟩:=h4;have jL:=wG h4;have E_:∀j' t',j'<j→l.ct[j']?=some t'→t'.pc≠(k:Int):=fun j' t' h5 h6 h7=>by have:=(sC k false hb).2 ⟨j',t',h5,h6,h7⟩;cases this
        by_cases jt:(k:Int)=s
        ·have gW:((k:Int) !=s)=false:=by simp[jt]
         refine zQ 2 ?_;refine ak.cY 139 (.bool false) [] ?_ (fun ff tmp cx=>?_)
         ·refine zQ 5 ?_;refine qr fun Lx IU=>?_;refine zQ 27 ?_;refine aa.nil (aJ ?_ ?_)
          ·dsimp only[aF,List.foldl,nth,u2,u1]
           all_goals(first|rfl|simp)
          ·exact zS
           all_goals(first|rfl|(simp[gW];done)|(simp_all;done)|(simp[gW];omega)|(simp_all;omega))
         dsimp only[aF,List.foldl,nth,u2,u1];refine zQ 6 ?_;refine qi hH bV fun PI Ms=>?_;refine aa.jE hH rfl (ev rfl) (ev rfl) (by assumption) rfl rfl (by exact bV) (by assumption) (Nat.le_of_ble_eq_true rfl) (by exact .inl hF) (fun st hH=>?_);dsimp only[u2,u1,u3,u4,setMany,u5,u6,D.cells,Nat.reduceAdd,aT,cA,aY,ax,Pg.cs,eN,f',bE] at hH;refine zQ 6 ?_;exact⟨mm-1,by omega,⟨j+1,y,seen.set k true,rfl,(by rw[fy];exact hH.drop 1),by omega,by simpa using uG,sC.set ht rfl,LV ⟨.inl jt,E_⟩ jL⟩⟩
        ·have gW:((k:Int) !=s)=true:=by simp[jt]
         by_cases yr:k=0
         ·subst yr;have dR:(((0:Nat):Int)==0)=true:=rfl;refine zQ 2 ?_;refine ak.cY 139 (.bool true) [] ?_ (fun ff tmp cx=>?_)
          ·refine zQ 5 ?_;refine qr fun Lx IU=>?_;refine zQ 14 ?_;refine aa.cQ (ai rfl rfl rfl gW) rfl dR (ab rfl _) ?_;refine zQ 12 ?_;refine aa.nil (aJ ?_ ?_)
           ·dsimp only[aF,List.foldl,nth,u2,u1]
            all_goals(first|rfl|simp)
           ·exact zS
            all_goals(first|rfl|(simp[gW,dR];done)|(simp_all;done)|(simp[gW,dR];omega)|(simp_all;omega))
          dsimp only[aF,List.foldl,nth,u2,u1];refine qB ?_
          rw[cq (lb fun h=>by
           rcases h.1.1 with h|⟨i,q,h5,h6,_⟩
           ·exact jt h
           ·omega)]
          refine zQ 4 ?_;refine ak.ret ⟨rx,_,rfl,rl aP hH (rfl)⟩
         ·obtain⟨k',rfl⟩:∃k',k=k'+1:=⟨k-1,by omega⟩
          have dR:(((k'+1:Nat):Int)==0)=false:=by simp;omega
          obtain⟨b2,hb2⟩:∃b,(ba p.code s)[k']?=some b:=⟨(ba p.code s)[k']'(by omega),List.getElem?_eq_getElem _⟩
          obtain⟨q,hq⟩:∃q,p.code[k']?=some q:=⟨p.code[k']'(by omega),List.getElem?_eq_getElem _⟩
          have XW:=jb hb2;have XV:=gk hq;refine zQ 2 ?_;refine ak.cY 139 (.bool (!b2||(q.op !=1))) [] ?_ (fun ff tmp cx=>?_)
          ·refine zQ 5 ?_;refine qr fun Lx IU=>?_;refine zQ 10 ?_;refine aa.eY (z:=((k':Nat):Int)) (ai rfl rfl rfl dR) (ev rfl) (ev rfl) (by rw[wrap_i64 (by omega) (by omega)]<;>omega) (ab rfl _) ?_;refine qr (fun Ux Th=>?_) (hg:=wi dR);refine zQ 2 ?_;refine aa.cH (ai rfl rfl rfl gW) rfl dR (ab rfl _) ?_;refine zQ 1 ?_;refine aa.two 128 rfl (fun iq=>?_) (fun iq=>?_)
           ·refine zQ 9 ?_;refine aa.cQ (ai rfl rfl rfl gW) rfl iq (ab rfl _) ?_;refine zQ 1 ?_;refine aa.nil (aJ ?_ ?_)
            ·dsimp only[aF,List.foldl,nth,u2,u1]
             all_goals(first|rfl|simp)
            ·refine zF ?_
             all_goals(simp[gW,dR,iq];done)
           ·refine zQ 4 ?_;refine aa.eY (z:=((k':Nat):Int)) (ai rfl rfl rfl iq) (ev rfl) (ev rfl) (by rw[wrap_i64 (by omega) (by omega)]<;>omega) (ab rfl _) ?_;refine qr (fun Uv Tf=>?_) (hg:=wi iq);refine qf (fo:=0) (fun Uu Te=>?_) (hg:=wi iq);refine zQ 2 ?_;refine aa.cH (ai rfl rfl rfl gW) rfl iq (ab rfl _) ?_;refine zQ 1 ?_;refine aa.nil (aJ ?_ ?_)
            ·dsimp only[aF,List.foldl,nth,u2,u1]
             all_goals(first|rfl|simp)
            ·refine zF ?_
             all_goals(simp[gW,dR,iq];done)
          dsimp only[aF,List.foldl,nth,u2,u1];refine qc (fun h5=>?_) (fun h5=>?_)<;>try simp only[cs] at h5
          ·rw[cq (lb fun h=>by
            rcases h.1.1 with h|⟨i,q',h6,h7,h8,h9,WT⟩
            ·exact jt h
            ·have:i=k':=by omega
             subst this;rw[hb2] at h8;cases h8;rw[hq] at h9;cases h9
             simp[WT] at h5)]
           refine zQ 4 ?_;refine ak.ret ⟨rx,_,rfl,rl aP hH (rfl)⟩
          ·refine zQ 1 ?_;simp only[Bool.or_eq_false_iff,Bool.not_eq_false',bne_eq_false_iff_eq] at h5;obtain⟨rfl,h5⟩:=h5;refine zQ 4 ?_;refine qi hH bV fun PI Ms=>?_;refine aa.jE hH rfl (ev rfl) (ev rfl) (by assumption) rfl rfl (by exact bV) (by assumption) (Nat.le_of_ble_eq_true rfl) (by exact .inl hF) (fun st hH=>?_);dsimp only[u2,u1,u3,u4,setMany,u5,u6,D.cells,Nat.reduceAdd,aT,cA,aY,ax,Pg.cs,eN,f',bE] at hH;refine zQ 6 ?_;exact⟨mm-1,by omega,⟨j+1,y,seen.set (k'+1) true,rfl,(by rw[fy];exact hH.drop 1),by omega,by simpa using uG,sC.set ht rfl,LV ⟨.inr ⟨k',q,by omega,rfl,hb2,hq,h5⟩,E_⟩ jL⟩⟩
    ·refine zQ 6 ?_;exact⟨L.length-(r+1),by omega,⟨r+1,rfl,hH.drop 2,by omega,hw.succ hl kR ⟨h2.2,h2.1,by rw[show l.ct.length=j by omega];exact LX⟩⟩⟩
  ·refine zQ 1 ?_;rw[bK (q:=dH p place L) ⟨hR,hge,hle,Rt,by rw[show L.length=r by omega];exact hw⟩];refine zQ 4 ?_;refine ak.ret ⟨rx,_,rfl,rl aP hH (rfl)⟩
def GT.Jd (t:GT):GM:=⟨t.pc.toNat,t.c⟩
def GV.v (l:GV):VL:=⟨l.dn,l.best,l.td,l.ct.map GT.Jd⟩
theorem Ci {l:List GT} (h:∀t∈l,0≤t.pc):(l.map GT.Jd).map y9=l.map eN:=by
 rw[List.map_map];refine List.map_congr_left fun t ht=>?_;obtain⟨k,hk⟩:=Int.eq_ofNat_of_zero_le (h t ht);obtain⟨pc,c⟩:=t;simp only at hk;subst hk
 rfl
theorem dH.Jd {p:Pg} {place:Int} {L:List GV} (h:dH p place L) {l:GV} (hl:l∈L) {t:GT} (ht:t∈l.ct):0≤t.pc∧t.pc<(p.code.length:Int):=by
 obtain⟨r,hr⟩:=List.getElem?_of_mem hl;obtain⟨j,hj⟩:=List.getElem?_of_mem ht;have Ac:=bo hr;have hlen:=h.len
 obtain⟨s,hs⟩:∃s,p.aq[r]?=some s:=⟨p.aq[r]'(by omega),List.getElem?_eq_getElem _⟩
 exact sN h.right (h.right.st s (List.mem_of_getElem? hs)) ((h.each r l s Ac hr hs).2.2 j t (bo hj) hj).1.1
theorem dH.cells {p:Pg} {place:Int} {L:List GV} (h:dH p place L) {l:GV} (hl:l∈L):l.v.ct.map y9=l.ct.map eN:=Ci fun t ht=>(h.Jd hl ht).1
theorem dH.ok {p:Pg} {place:Int} {L:List GV} (h:dH p place L) (ht:∀l∈L,l.ct.length≤1000):∀l∈(L.map GV.v).map VL.pl,l.ok p.code.length:=by
 intro q hq;obtain⟨v,hv,rfl⟩:=List.mem_map.1 hq;obtain⟨l,hl,rfl⟩:=List.mem_map.1 hv;refine⟨fun t h'=>?_,by show(l.ct.map GT.Jd).length≤1000;rw[List.length_map];exact ht l hl⟩;obtain⟨u,hu,rfl⟩:=List.mem_map.1 (show t∈l.ct.map GT.Jd from h');have:=h.Jd hl hu;show u.pc.toNat<_;omega
theorem DK {N:Nat} {S s0:St} {H:List a_} {x:D} {h:List UInt8} (hx:Arg N S 1 x (byteCells h)) (O7:h.length≤1048576) (hb:cm h=false) (hne:h≠[]) (hH:Has N S s0 H):
  ∃d ah,Ev pv 95 [x] s0 d ah∧d=.tup [.pnil,.int .i64 4]∧Has N S ah H:=by
 have uJ:=ay h
 have CV:0<h.length:=by cases h with
  |nil=>exact absurd rfl hne
  |cons a b=>simp
 have dW:(dt h).2.2=false:=hb;have hfi:=fun{st:St} (hb:Bytes st x h)=>sR hb;rw[dW] at hfi;generalize(dt h).1=r0 at*;generalize(dt h).2.1=n0 at*;refine Ev.gA rfl Ni rfl rfl rfl ?_;refine zE ?_;change ak _ _ _ _ s0 _;refine zQ 8 ?_;refine qv ((hfi (hx.rows hH))) ?_;refine zQ 8 ?_;have cu:(!false)=true:=rfl;refine zQ 2 ?_;refine ak.cY 20 (.bool (decide (((byteCells h).length:Int)>0))) [] ?_ (fun ff tmp cx=>?_)
 ·refine zQ 4 ?_;refine qn ?_ (hg:=wi cu);refine zQ 2 ?_;refine aa.nil (aJ ?_ ?_)
  ·dsimp only[aF,List.foldl,nth,u2,u1]
   all_goals(first|rfl|simp)
  ·dsimp only[Fr.e5,Fr.put,Fr.clean,Fr.ev,Fr.get,nth,look,u1,u2,v1,v2,v4]
   all_goals(rfl)
 dsimp only[aF,List.foldl,nth,u2,u1];refine ak.cond (v:=true) (by dsimp only[Fr.ev,Fr.get,nth,V.look];exact cx.trans (congrArg D.bool (decide_eq_true (by omega)))) (fun _=>?_) (fun h=>by cases h);refine zQ 5 ?_;refine ak.ret ⟨rx,_,_,_,rfl,rfl,?_⟩;exact⟨rfl,hH⟩
theorem Jb {N:Nat} {S s0:St} {H:List a_} {x:D} {h:List UInt8} (hx:Arg N S 1 x (byteCells h)) (hb:cm h=true∨h=[]) (h3:h.length≤3) (hH:Has N S s0 H):
  ∃kd ah,Ev pv 95 [x] s0 (.tup [.ptr kd 0 0,.int .i64 0]) ah∧Has N S ah (.box kd (.mem 0 false (kI h (([0,0,0,0]:List UInt8).drop h.length)))::H):=
 ⟨_,_,LA (hx.rows hH) hb h3 (by rw[hH.ex.ro];exact Nat.le_trans hH.di (Nat.le_trans hH.hN hH.len)),hH.qX _⟩
theorem F2 {p q:Prop} (h:p↔q):dec p=dec q:=by rw[show p=q from propext h]
structure IA (x:D) (L:List GV):Prop where
 sl:gd x 12 (L.map f')
 ln:L.length≤12
 th:∀l∈L,gd l.td 11 (l.ct.map eN)∧l.ct.length≤500
theorem IA.arg {x:D} {L:List GV} (h:IA x L) (st:St):Dn st x L:=⟨h.sl.rows st,by have:=h.ln;omega,fun l hl=>⟨(h.th l hl).1.rows st,by have:=(h.th l hl).2;omega⟩⟩
theorem xn (lK:∀st,Ev pv 149 [] st (.agg (aY dP)) st) {s0:St} {p:Pg} {x y:D} {h:List UInt8} {L:List GV} {place:Int} (hp:p.ok) (hx:IA x L) (hy:gd y 1 (byteCells h)) (O7:h.length≤1048576):
  Ev pv 32 [p.d,.agg [y,.int .i64 place,x]] s0 (.bool (dec (dH p place L∧(cm h=true∨h=[])))) s0:=by
 have JG:=fun(st:St)=>DJ lK hp (hx.arg st) place;have hcl:=hx.sl.cells;have mW:=hy.cells
 by_cases hb:cm h=true∨h=[]
 ·have h3:h.length≤3:=by
   rcases hb with hb|rfl
   ·exact Gk hb
   ·simp
  rw[F2 (q:=dH p place L) ⟨fun h=>h.1,fun h=>⟨h,hb⟩⟩];unfold Pg.d at*;refine Ev.ia rfl Nj rfl rfl rfl ?_;refine zE ?_;obtain⟨aP,hF,hH⟩:=ri s0;generalize ae .ro s0=S at*;have JE:=hy.arg s0.bs.length S;refine zQ 2 ?_;refine qb hH fun k2 st hk2 hH=>?_;dsimp only[u2,u1,u3,u4,setMany,u5,u6,D.cells,Nat.reduceAdd,Pg.cs] at hH;refine qb hH fun k3 st tG hH=>?_;refine zQ 6 ?_;obtain⟨kd,st,aB,hH⟩:=Jb JE hb h3 hH;refine qv aB ?_;refine zQ 6 ?_;have cu:true=true:=rfl;refine zQ 5 ?_;refine aa.aL (m:=2) hH (ai rfl rfl rfl cu) (ev rfl) (by exact fm) (by dsimp only[List.drop_succ_cons,List.drop_zero,List.take_succ_cons,List.take_zero,Pg.cs]<;>rfl) rfl rfl (ab rfl _) ?_;refine zQ 1 ?_;refine aa.aL (m:=2) hH (ai rfl rfl rfl cu) (ev rfl) (by exact bV) (by dsimp only[List.drop_succ_cons,List.drop_zero,List.take_succ_cons,List.take_zero,Pg.cs]<;>rfl) rfl rfl (ab rfl _) ?_;refine qv ((JG _)) ?_ (hg:=wi cu);refine zQ 3 ?_;refine ak.ret ⟨rx,_,rfl,rl aP hH (rfl)⟩
 ·rw[cq (fun h=>hb h.2)]
  have hb1:cm h=false:=by
   cases hb1:cm h with
   |false=>rfl
   |true=>exact absurd (.inl hb1) hb
  have hne:h≠[]:=fun e=>hb (.inr e);unfold Pg.d at*;refine Ev.ia rfl Nj rfl rfl rfl ?_;refine zE ?_;obtain⟨aP,hF,hH⟩:=ri s0;generalize ae .ro s0=S at*;have JE:=hy.arg s0.bs.length S;refine zQ 2 ?_;refine qb hH fun k2 st hk2 hH=>?_;dsimp only[u2,u1,u3,u4,setMany,u5,u6,D.cells,Nat.reduceAdd,Pg.cs] at hH;refine qb hH fun k3 st tG hH=>?_;refine zQ 6 ?_;obtain⟨_,st,aB,rfl,hH⟩:=DK JE O7 hb1 hne hH;refine qv aB ?_;refine zQ 6 ?_;have cu:false=false:=rfl;refine zQ 12 ?_;refine ak.ret ⟨rx,_,rfl,rl aP hH (rfl)⟩
theorem vD (lK:∀st,Ev pv 193 [] st (.agg (aY dP)) st) {s0:St} {p:Pg} {x y:D} {h:List UInt8} {L:List GV} {place:Int} (hp:p.ok) (hx:IA x L) (hy:gd y 1 (byteCells h)) (O7:h.length≤1048576):
  Ev pv 80 [p.d,.agg [y,.int .i64 place,x]] s0 (.bool (dec (dH p place L∧(cm h=true∨h=[])))) s0:=by
 have JG:=fun(st:St)=>D9 lK hp (hx.arg st) place;have Rl:=fun{st:St} (hb:Bytes st y h)=>Gl hb O7;have hcl:=hx.sl.cells;have mW:=hy.cells;have uJ:=ay h
 by_cases hW:dH p place L
 ·rw[bK hW] at JG;have ng:true=true:=rfl
  by_cases hh:h=[]
  ·rw[bK ⟨hW,.inr hh⟩];subst hh;have ec:((((byteCells []).length:Nat):Int)==0)=true:=rfl;unfold Pg.d at*;refine Ev.ia rfl Kx rfl rfl rfl ?_;refine zE ?_;obtain⟨aP,hF,hH⟩:=ri s0;generalize ae .ro s0=S at*;have JE:=hy.arg s0.bs.length S;refine zQ 2 ?_;refine qb hH fun k2 st hk2 hH=>?_;dsimp only[u2,u1,u3,u4,setMany,u5,u6,D.cells,Nat.reduceAdd,Pg.cs] at hH;refine qb hH fun k3 st tG hH=>?_;refine zQ 4 ?_;refine aa.aL (m:=2) hH rfl (ev rfl) (by exact bV) (by dsimp only[List.drop_succ_cons,List.drop_zero,List.take_succ_cons,List.take_zero,Pg.cs]<;>rfl) rfl rfl (ab rfl _) ?_;refine zQ 1 ?_;refine aa.aL (m:=2) hH rfl (ev rfl) (by exact aN) (by dsimp only[List.drop_succ_cons,List.drop_zero,List.take_succ_cons,List.take_zero,Pg.cs]<;>rfl) rfl rfl (ab rfl _) ?_;refine qv ((JG _)) ?_;refine zQ 3 ?_;refine qn ?_ (hg:=wi ng);refine zQ 5 ?_;refine aa.cQ (ai rfl rfl rfl ng) rfl ec (ab rfl _) ?_;refine zQ 3 ?_;refine ak.ret ⟨rx,_,rfl,rl aP hH (rfl)⟩
  ·have CV:h.length≠0:=fun e=>hh (List.eq_nil_of_length_eq_zero e);have ec:((((byteCells h).length:Nat):Int)==0)=false:=by rw[uJ];simp;exact hh
   rw[show dec (dH p place L∧(cm h=true∨h=[]))=cm h by
    cases hb:cm h with
    |true=>exact bK ⟨hW,.inl rfl⟩
    |false=>exact cq (fun h=>by rcases h.2 with h|h;cases h;exact hh h)]
   unfold Pg.d at*;refine Ev.ia rfl Kx rfl rfl rfl ?_;refine zE ?_;obtain⟨aP,hF,hH⟩:=ri s0;generalize ae .ro s0=S at*;have JE:=hy.arg s0.bs.length S;refine zQ 2 ?_;refine qb hH fun k2 st hk2 hH=>?_;dsimp only[u2,u1,u3,u4,setMany,u5,u6,D.cells,Nat.reduceAdd,Pg.cs] at hH;refine qb hH fun k3 st tG hH=>?_;refine zQ 4 ?_;refine aa.aL (m:=2) hH rfl (ev rfl) (by exact bV) (by dsimp only[List.drop_succ_cons,List.drop_zero,List.take_succ_cons,List.take_zero,Pg.cs]<;>rfl) rfl rfl (ab rfl _) ?_;refine zQ 1 ?_;refine aa.aL (m:=2) hH rfl (ev rfl) (by exact aN) (by dsimp only[List.drop_succ_cons,List.drop_zero,List.take_succ_cons,List.take_zero,Pg.cs]<;>rfl) rfl rfl (ab rfl _) ?_;refine qv ((JG _)) ?_;refine zQ 3 ?_;refine qn ?_ (hg:=wi ng);refine zQ 4 ?_;refine qv ((Rl (JE.rows hH))) ?_ (hg:=wi ec);refine aa.cH (ai rfl rfl rfl ng) rfl ec (ab rfl _) ?_;refine zQ 3 ?_;refine ak.ret ⟨rx,_,rfl,rl aP hH (rfl)⟩
 ·rw[cq hW] at JG;rw[cq (fun h=>hW h.1)];have ng:false=false:=rfl;unfold Pg.d at*;refine Ev.ia rfl Kx rfl rfl rfl ?_;refine zE ?_;obtain⟨aP,hF,hH⟩:=ri s0;generalize ae .ro s0=S at*;refine zQ 2 ?_;refine qb hH fun k2 st hk2 hH=>?_;dsimp only[u2,u1,u3,u4,setMany,u5,u6,D.cells,Nat.reduceAdd,Pg.cs] at hH;refine qb hH fun k3 st tG hH=>?_;refine zQ 4 ?_;refine aa.aL (m:=2) hH rfl (ev rfl) (by exact bV) (by dsimp only[List.drop_succ_cons,List.drop_zero,List.take_succ_cons,List.take_zero,Pg.cs]<;>rfl) rfl rfl (ab rfl _) ?_;refine zQ 1 ?_;refine aa.aL (m:=2) hH rfl (ev rfl) (by exact aN) (by dsimp only[List.drop_succ_cons,List.drop_zero,List.take_succ_cons,List.take_zero,Pg.cs]<;>rfl) rfl rfl (ab rfl _) ?_;refine qv ((JG _)) ?_;refine zQ 13 ?_;refine ak.ret ⟨rx,_,rfl,rl aP hH (rfl)⟩
theorem tX {p:Pg} (h:cL p):p.fit:=by
 have hcl:=h.cl;have ka:=h.sl;refine⟨fun i hi=>?_,fun v hv=>by have:=(h.st v hv).2;omega,by omega⟩;obtain⟨pc,BJ⟩:=List.getElem?_of_mem hi;have hs:=h.sh pc i BJ
 have nf:∀{v n:Int},jq v n=true→n≤1000→v<9223372036854775808:=fun{v n} h1 h2=>by
  unfold jq at h1;simp only[Bool.and_eq_true,decide_eq_true_eq] at h1;omega
 unfold cv at hs
 by_cases h1:i.op=1
 ·rw[if_pos h1] at hs;simp only[Bool.and_eq_true,decide_eq_true_eq,beq_iff_eq] at hs;obtain⟨hy,⟨_,hx⟩,hr⟩:=hs;refine⟨by omega,by omega,by omega,fun g hg=>?_⟩
  have hm:fq i.rs i.rs:=by
   unfold dO at hr;exact(@decide_eq_true_iff _ (Classical.propDecidable _)).1 hr
  have hle:=hm.1.1 g hg;have a1:=((hm.2 g.1).1 ⟨g,hg,Int.le_refl _,hle⟩).1;have a2:=((hm.2 g.2).1 ⟨g,hg,hle,Int.le_refl _⟩).1;unfold gR at a1 a2;omega
 ·rw[if_neg h1,Bool.and_eq_true] at hs;obtain⟨he,hs⟩:=hs
  have wb:∀g∈i.rs,-2147483648≤g.1∧g.1≤2147483647∧-2147483648≤g.2∧g.2≤2147483647:=fun g hg=>by
   rw[List.isEmpty_iff.1 he] at hg;cases hg
  by_cases h2:i.op=2
  ·rw[if_pos h2,Bool.and_eq_true] at hs;exact⟨by omega,nf hs.1 (by omega),nf hs.2 (by omega),wb⟩
  ·rw[if_neg h2,Bool.and_eq_true,beq_iff_eq] at hs;obtain⟨hy,hs⟩:=hs
   by_cases h3:i.op=3
   ·rw[if_pos h3] at hs;exact⟨by omega,nf hs (by omega),by omega,wb⟩
   ·rw[if_neg h3] at hs
    by_cases h4:i.op=4
    ·rw[if_pos h4,Bool.and_eq_true] at hs;exact⟨by omega,nf hs.2 (by omega),by omega,wb⟩
    ·rw[if_neg h4] at hs
     by_cases h5:i.op=5∨i.op=6
     ·rw[if_pos h5] at hs;simp only[Bool.and_eq_true,beq_iff_eq] at hs;exact⟨by omega,by omega,by omega,wb⟩
     ·rw[if_neg h5] at hs
      by_cases h7:i.op=7
      ·rw[if_pos h7] at hs;exact⟨by omega,nf hs (by omega),by omega,wb⟩
      ·rw[if_neg h7] at hs;cases hs
theorem yy (l:List GT):∀e∈l.map eN,∀d∈e,ck d=true:=by
 intro e he d hd;obtain⟨q,_,rfl⟩:=List.mem_map.1 he;simp only[eN,List.mem_cons,List.not_mem_nil,or_false] at hd
 rcases hd with rfl|rfl|rfl|rfl|rfl|rfl|rfl|rfl|rfl|rfl|rfl<;>rfl
theorem Kt (l:List GT):∀e∈l.map eN,e.length=11:=by
 intro e he;obtain⟨q,_,rfl⟩:=List.mem_map.1 he;rfl
def tv (l:List GT):D:=.sl ((l.map eN).map (j7 11))
theorem I5 (l:List GT):gd (tv l) 11 (l.map eN):=gd.frozen (Kt l) (yy l)
def GV.told (l:GV):GV:=⟨l.dn,l.best,tv l.ct,l.ct⟩
def Jy (L:List GV):D:=.sl (((L.map GV.told).map f').map (j7 12))
theorem FI (L:List GV):∀e∈L.map f',e.length=12:=by
 intro e he;obtain⟨q,_,rfl⟩:=List.mem_map.1 he;rfl
theorem told_plain (L:List GV):∀e∈(L.map GV.told).map f',∀d∈e,ck d=true:=by
 intro e he d hd;obtain⟨q,hq,rfl⟩:=List.mem_map.1 he;obtain⟨g,_,rfl⟩:=List.mem_map.1 hq;simp only[f',cA,GV.told,tv,List.mem_cons,List.not_mem_nil,or_false] at hd
 rcases hd with rfl|rfl|rfl|rfl|rfl|rfl|rfl|rfl|rfl|rfl|rfl|rfl<;>rfl
theorem IA.told {x:D} {L:List GV} (h:IA x L):IA (Jy L) (L.map GV.told):=by
 refine⟨gd.frozen (FI _) (told_plain L),by rw[List.length_map];exact h.ln,fun l hl=>?_⟩;obtain⟨g,hg,rfl⟩:=List.mem_map.1 hl;exact⟨I5 _,(h.th g hg).2⟩
def bP (fr:Go.V.Fr) (k:Nat):Go.V.D:=Go.V.nth .bj fr.loc k
def iJ (b:List UInt8):Nat→c8→c8
 |0,s=>s
 |n+1,s=>(aX b (iJ b n s)).2
def mC (b:List UInt8) (s:c8):mr:=fun i=>(aX b (iJ b i s)).1-1
def dX (b:List UInt8) (s:c8):GT×c8:=(⟨(aX b s).1,mC b (aX b s).2⟩,iJ b 10 (aX b s).2)
def aZ {α:Type} (one:c8→α×c8):Nat→c8→List α×c8
 |0,s=>([],s)
 |n+1,s=>if s.e≠0 then([],s) else((one s).1::(aZ one n (one s).2).1,(aZ one n (one s).2).2)
def np (b:List UInt8) (s:c8):List GT×c8:=aZ (dX b) (bF b 400 s).1.toNat (bF b 400 s).2
def cD (b:List UInt8) (s:c8):GV×c8:=(⟨(db b s).1,mC b (db b s).2,tv (np b (iJ b 10 (db b s).2)).1,(np b (iJ b 10 (db b s).2)).1⟩,(np b (iJ b 10 (db b s).2)).2)
def c_ (b:List UInt8) (s:c8):List GV×c8:=aZ (cD b) (bF b 8 s).1.toNat (bF b 8 s).2
theorem dQ {α:Type} (one:c8→α×c8) {s:c8} (h:s.e≠0):∀n,aZ one n s=([],s)
 |0=>rfl
 |n+1=>by unfold aZ;rw[if_pos h]
theorem jA {b:List UInt8} {s:c8} (h:s.at_≤b.length):∀n,(iJ b n s).at_≤b.length
 |0=>h
 |n+1=>(dc (jA h n)).1
theorem lj {b:List UInt8} {m:Int} {s:c8} (h:s.at_≤b.length):(br b m s).2.at_≤b.length∧0≤(br b m s).1∧(br b m s).1<9223372036854775808∧((br b m s).2.e=0→(br b m s).1≤max m 0):=by
 obtain⟨o1,o2,o3,o4,o5⟩:=dc (b:=b) (s:=s) h;unfold br
 split
 ·exact⟨h,by simp,by simp,fun h=>by simp at h⟩
 ·rename_i hn
  exact⟨o1,o3,o4,fun h=>by
   by_cases h':m<(aX b s).1
   ·exact absurd ⟨h,h'⟩ hn
   ·omega⟩
theorem eQ {b:List UInt8} {m:Int} {s:c8} (h:s.at_≤b.length):(bF b m s).2.at_≤b.length∧0≤(bF b m s).1∧(bF b m s).1<9223372036854775808∧((bF b m s).2.e=0→(bF b m s).1≤max m 0):=by
 obtain⟨o1,o2,o3,o4⟩:=lj (m:=m) h;unfold bF
 split
 ·exact⟨h,o2,o3,fun h=>by simp at h⟩
 ·exact⟨o1,o2,o3,o4⟩
theorem nU {b:List UInt8} {s:c8} (h:s.at_≤b.length):(db b s).2.at_≤b.length:=by
 unfold db
 split
 ·exact h
 ·exact(dc h).1
theorem oX {α:Type} {b:List UInt8} {one:c8→α×c8} (ho:∀s:c8,s.at_≤b.length→(one s).2.at_≤b.length):∀n (s:c8),s.at_≤b.length→(aZ one n s).2.at_≤b.length
 |0,s,h=>h
 |n+1,s,h=>by
  unfold aZ
  split
  ·exact h
  ·exact oX ho n _ (ho s h)
theorem vt {b:List UInt8} {s:c8} (h:s.at_≤b.length):(dX b s).2.at_≤b.length:=jA (dc h).1 10
theorem GR {b:List UInt8} {s:c8} (h:s.at_≤b.length):(np b s).2.at_≤b.length:=oX (fun _ h=>vt h) _ _ (eQ h).1
theorem nJ {b:List UInt8} {s:c8} (h:s.at_≤b.length):(cD b s).2.at_≤b.length:=GR (jA (nU h) 10)
theorem CJ {b:List UInt8} {s:c8} (h:s.at_≤b.length):(c_ b s).2.at_≤b.length:=oX (fun _ h=>nJ h) _ _ (eQ h).1
theorem yQ {f g:mr} (h:∀j,j<10→f j=g j):aY f=aY g:=by
 unfold aY;rw[h 0 (by decide),h 1 (by decide),h 2 (by decide),h 3 (by decide),h 4 (by decide),h 5 (by decide),h 6 (by decide),h 7 (by decide),h 8 (by decide),h 9 (by decide)]
theorem H8 {L:List GV} (h:∀g∈L,g.td=tv g.ct):(∀e∈L.map f',∀d∈e,lp d=true)∧(L.map f').map (·.map mY)=L.map f':=by
 constructor
 ·intro e he d hd;obtain⟨q,hq,rfl⟩:=List.mem_map.1 he;have:=h q hq;simp only[f',cA,this,tv,List.mem_cons,List.not_mem_nil,or_false] at hd
  rcases hd with rfl|rfl|rfl|rfl|rfl|rfl|rfl|rfl|rfl|rfl|rfl|rfl<;>rfl
 ·rw[List.map_map];refine List.map_congr_left fun q hq=>?_;have:=h q hq;simp only[Function.comp,f',cA,this,tv];rfl
theorem H9 (l:List GT):(∀e∈l.map eN,∀d∈e,lp d=true)∧(l.map eN).map (·.map mY)=l.map eN:=by
 constructor
 ·intro e he d hd;obtain⟨q,hq,rfl⟩:=List.mem_map.1 he;simp only[eN,List.mem_cons,List.not_mem_nil,or_false] at hd
  rcases hd with rfl|rfl|rfl|rfl|rfl|rfl|rfl|rfl|rfl|rfl|rfl<;>rfl
 ·rw[List.map_map];rfl
def uM (L:List GV):D:=.sl ((L.map f').map (j7 12))
theorem yB {N k:Nat} {S s0:St} {H:List a_} {x:D} {b:List UInt8} {s:c8} (hbl:b.length≤1099511627776) (bq:s.at_≤b.length) (hH:Has N S s0 (.box k (.mem 0 false (bG x s))::.aC x 1 (byteCells b)::H)):
  ∃d ah,Ev pv 156 [.ptr k 0 0] s0 d ah∧d=.agg (aY (mC b s))∧Has N S ah (.box k (.mem 0 false (bG x (iJ b 10 s)))::.aC x 1 (byteCells b)::H):=by
 refine Ev.gA rfl N7 rfl rfl rfl ?_;refine zE ?_;have bn:=hH;have hH:=hH.aW;have bh:(ae .rw s0).bs=s0.bs:=rfl;generalize ae .rw s0=S2 at*;refine zQ 2 ?_;refine qa hH fun k2 st hk2 hH=>?_;dsimp only[u2,u1,u3,u4,setMany,u5,u6,D.cells,Nat.reduceAdd,bG] at hH;refine zQ 3 ?_;refine qa hH fun k3 st tG hH=>?_;refine zQ 6 ?_;have hH:Has N S2 st (.box k (.mem 0 false (bG x s))::.aC x 1 (byteCells b)::.box k3 (.mem 0 false (aY bL))::.box k2 (.mem 0 false (aY bL))::H):=Has.rD [_,_] [_,_] hH;refine zQ 1 ?_;refine ak.loop (fun mm fr st=>∃(i:Nat) (f:mr),fr.clean=⟨6,[.ptr k 0 0,bP fr 1,.ptr k2 0 0,.ptr k3 0 0,bP fr 4,.int .i64 (i:Nat)],[]⟩∧Has N S2 st (.box k (.mem 0 false (bG x (iJ b i s)))::.aC x 1 (byteCells b)::.box k3 (.mem 0 false (aY f))::.box k2 (.mem 0 false (aY bL))::H)∧(i+mm=10)∧(∀j,j<i→f j=mC b s j)) (10) ?_ ?_
 ·exact⟨0,bL,rfl,hH,by omega,fun j h=>by omega⟩
 rintro mm fr st ⟨i,f,hfr,hH,hi,hf⟩;rw[hfr];clear hfr;generalize bP fr=ee;clear fr;have E9:=jA bq i;obtain⟨_,_,o3,o4,_⟩:=dc (b:=b) (s:=iJ b i s) E9;refine zQ 5 ?_;refine zP (fun h1=>?_) fun h1=>?_
 ·refine zQ 1 ?_;have Ai:i<10:=by omega
  refine zQ 10 ?_;obtain⟨_,st,aB,rfl,hH⟩:=me hbl E9 hH;refine qv aB ?_;refine aa.eY (z:=((aX b (iJ b i s)).1-1)) rfl (ev rfl) (ev rfl) (by rw[wrap_i64 (by omega) (by omega)]<;>omega) (ab rfl _) ?_;refine aa.H0 (m:=10) (s:=1) (i:=i) (o:=i) rfl (ev rfl) (ev rfl) rfl rfl (by omega) (by omega) (ab rfl _) ?_;refine aa.fe hH rfl (ev rfl) (ev rfl) rfl (by exact rfl) fm (by show i+1≤10;omega) (.inr rfl) (fun st hH=>?_);change Has _ _ _ (_::_::.box k3 (.mem 0 false (setMany (aY f) i [.int .i64 ((aX b (iJ b i s)).1-1)]))::_) at hH;rw[tV Ai] at hH;refine zQ 5 ?_;refine⟨mm-1,by omega,⟨i+1,DZ f i ((aX b (iJ b i s)).1-1),rfl,hH,by omega,?_⟩⟩;intro j hj;unfold DZ
  split
  ·rename_i h;subst h;rfl
  ·exact hf j (by omega)
 ·refine zQ 1 ?_;have Ai:i=10:=by omega
  subst Ai;have HS:=yQ hf;rw[HS] at hH;refine zQ 2 ?_;refine aa.aL (m:=10) (r:=aY (mC b s)) hH rfl (ev rfl) fm rfl rfl rfl (ab rfl _) ?_;refine aa.cM hH rfl (ev rfl) (ev rfl) rfl (by exact rfl) gX (by exact rfl) (.inr rfl) (fun st hH=>?_);dsimp only[u1,u2] at hH;refine zQ 1 ?_;refine ak.ret ⟨rx,_,_,_,hH.l4 rfl gX rfl,ag (show bd st s0.bs.length false 16 (.agg (aY (mC b s)))=some (.agg (aY (mC b s))) from rfl),?_⟩;exact⟨rfl,bn.aj bh ((hH.erase 2).erase 2)⟩
theorem Ia {N k:Nat} {S s0:St} {H:List a_} {x:D} {b:List UInt8} {s:c8} (hbl:b.length≤1099511627776) (bq:s.at_≤b.length) (hH:Has N S s0 (.box k (.mem 0 false (bG x s))::.aC x 1 (byteCells b)::H)):
  ∃d ah,Ev pv 158 [.ptr k 0 0] s0 d ah∧d=.agg (eN (dX b s).1)∧Has N S ah (.box k (.mem 0 false (bG x (dX b s).2))::.aC x 1 (byteCells b)::H):=by
 refine Ev.gA rfl N5 rfl rfl rfl ?_;refine zE ?_;have bn:=hH;have hH:=hH.aW;have bh:(ae .rw s0).bs=s0.bs:=rfl;generalize ae .rw s0=S2 at*;refine zQ 2 ?_;refine qa hH fun k2 st hk2 hH=>?_;dsimp only[u2,u1,u3,u4,setMany,u5,u6,D.cells,Nat.reduceAdd,bG] at hH;refine zQ 3 ?_;refine qa hH fun k3 st tG hH=>?_;refine zQ 1 ?_;have hH:Has N S2 st (.box k (.mem 0 false (bG x s))::.aC x 1 (byteCells b)::.box k3 (.mem 0 false (eN ⟨0,bL⟩))::.box k2 (.mem 0 false (eN ⟨0,bL⟩))::H):=Has.rD [_,_] [_,_] hH;refine zQ 3 ?_;obtain⟨_,st,aB,rfl,hH⟩:=me hbl bq hH;refine qv aB ?_;refine zQ 1 ?_;refine aa.fe hH rfl (ev rfl) (ev rfl) rfl (by exact rfl) fm (by exact Nat.le_of_ble_eq_true rfl) (.inr rfl) (fun st hH=>?_);dsimp only[u1,u2] at hH;refine zQ 1 ?_;have hH:Has N S2 st (.box k (.mem 0 false (bG x (aX b s).2))::.aC x 1 (byteCells b)::.box k3 (.mem 0 false (eN ⟨(aX b s).1,bL⟩))::.box k2 (.mem 0 false (eN ⟨0,bL⟩))::H):=hH;have sD:=(dc (b:=b) bq).1;refine zQ 3 ?_;obtain⟨_,st,aB,rfl,hH⟩:=yB hbl sD hH;refine qv aB ?_;refine zQ 1 ?_;refine aa.fe hH rfl (ev rfl) (ev rfl) rfl (by exact rfl) fm (by exact Nat.le_of_ble_eq_true rfl) (.inr rfl) (fun st hH=>?_);dsimp only[u1,u2] at hH;refine zQ 1 ?_;have hH:Has N S2 st (.box k (.mem 0 false (bG x (dX b s).2))::.aC x 1 (byteCells b)::.box k3 (.mem 0 false (eN (dX b s).1))::.box k2 (.mem 0 false (eN ⟨0,bL⟩))::H):=hH;generalize(dX b s).1=t at*;refine zQ 2 ?_;refine aa.aL (m:=11) (r:=eN t) hH rfl (ev rfl) fm rfl rfl rfl (ab rfl _) ?_;refine aa.cM hH rfl (ev rfl) (ev rfl) rfl (by exact rfl) gX (by exact rfl) (.inr rfl) (fun st hH=>?_);dsimp only[u1,u2] at hH;refine zQ 1 ?_;refine ak.ret ⟨rx,_,_,_,hH.l4 rfl gX rfl,ag (show bd st s0.bs.length false 16 (.agg (eN t))=some (.agg (eN t)) from rfl),?_⟩;exact⟨rfl,bn.aj bh ((hH.erase 2).erase 2)⟩
theorem H_ {N k:Nat} {S s0:St} {H:List a_} {x:D} {b:List UInt8} {s:c8} (hbl:b.length≤1099511627776) (bq:s.at_≤b.length) (hH:Has N S s0 (.box k (.mem 0 false (bG x s))::.aC x 1 (byteCells b)::H)):
  ∃d ah,Ev pv 157 [.ptr k 0 0,.int .i64 400,.fn 158 []] s0 d ah∧(∃L:List GT,d=tv L∧L.length≤400∧True∧((np b s).2.e=0→L=(np b s).1))∧Has N S ah (.box k (.mem 0 false (bG x (np b s).2))::.aC x 1 (byteCells b)::H):=by
 have uJ:=ay b;obtain⟨u1,u2,u3,u4⟩:=lj (m:=400) bq;obtain⟨i1,i2,i3,i4⟩:=eQ (m:=400) bq;have o7:bF b 400 s=if(br b 400 s).2.e=0∧(br b 400 s).1>(b.length:Int)-(br b 400 s).2.at_ then((br b 400 s).1,⟨s.at_,3⟩) else br b 400 s:=rfl;unfold np;refine Ev.gA rfl N6 rfl rfl rfl ?_;refine zE ?_;have bn:=hH;have hH:=hH.aW;have bh:(ae .rw s0).bs=s0.bs:=rfl;generalize ae .rw s0=S2 at*;refine zQ 16 ?_;obtain⟨_,st,aB,rfl,hH⟩:=sL hbl bq 400 hH;refine qv aB ?_;refine zQ 2 ?_;generalize br b 400 s=R at*;obtain⟨n,s1⟩:=R;dsimp only at u1 u2 u3 u4 o7 hH⊢;refine zQ 2 ?_;refine ak.ky (fun fr st=>∃(tmp:List (Nat×D)),fr=⟨11,[.ptr k 0 0,bP fr 1,.fn 158 [],bP fr 3,bP fr 4,bP fr 5,bP fr 6,bP fr 7,.int .i64 (bF b 400 s).1,bP fr 9,bP fr 10],tmp⟩∧Has N S2 st (.box k (.mem 0 false (bG x (bF b 400 s).2))::.aC x 1 (byteCells b)::H)∧(True)) ?_ ?_
 ·by_cases he:s1.e=0
  ·have cK:(s1.e==0)=true:=by simpa using he
   refine zQ 12 ?_;refine qn ?_ (hR:=hH.rows bV) (hg:=wi cK);refine zQ 4 ?_;refine aa.eY (z:=(((b.length:Nat):Int)-(s1.at_:Nat))) (ai rfl rfl rfl cK) (ev rfl) (ev rfl) (by rw[wrap_i64 (by omega) (by omega)]<;>omega) (ab rfl _) ?_;refine zQ 3 ?_
   by_cases hlt:n>(b.length:Int)-s1.at_
   ·rw[if_pos ⟨he,hlt⟩] at o7;rw[o7];have hc:decide (n>(b.length:Int)-s1.at_)=true:=by rw[decide_eq_true_eq];exact hlt
    refine qD rfl (by rw[hc]) ?_;refine zQ 3 ?_;obtain⟨_,st,aB,rfl,hH⟩:=eS s.at_ 3 hH;refine qv aB ?_;refine zQ 1 ?_;exact⟨_,rfl,hH,trivial⟩
   ·rw[if_neg (fun h=>hlt h.2)] at o7;rw[o7];have hc:decide (n>(b.length:Int)-s1.at_)=false:=by rw[decide_eq_false_iff_not];exact hlt
    refine qE rfl (by rw[hc]) ?_;refine zQ 1 ?_;exact⟨_,rfl,hH,trivial⟩
  ·rw[if_neg (fun h=>he h.1)] at o7;rw[o7];have cK:(s1.e==0)=false:=by simpa using he
   refine zQ 23 ?_;exact⟨_,rfl,hH,trivial⟩
 rintro fr st ⟨tmp,hfr,hH,ht⟩;rw[hfr];clear hfr;generalize bP fr=ee;clear fr;clear o7 u1 u2 u3 u4;generalize bF b 400 s=R at*;obtain⟨n,s2⟩:=R;dsimp only at i1 i2 i3 i4 hH⊢
 obtain⟨m,rfl⟩:∃m:Nat,n=(m:Nat):=⟨n.toNat,by omega⟩
 rw[Int.toNat_natCast];refine zQ 9 ?_;have hH:Has N S2 st (.box k (.mem 0 false (bG x s2))::.aC x 1 (byteCells b)::.aC .nul 11 (([]:List GT).map eN)::H):=Has.rD [_] [_,_] (hH.gf 11);refine zQ 1 ?_;refine ak.loop (fun mm fr st=>∃(i:Nat) (sr:c8) (od:D) (acc:List GT),fr.clean=⟨11,[.ptr k 0 0,bP fr 1,.fn 158 [],bP fr 3,bP fr 4,bP fr 5,bP fr 6,bP fr 7,.int .i64 (m:Nat),od,.int .i64 (i:Nat)],[]⟩∧Has N S2 st (.box k (.mem 0 false (bG x sr))::.aC x 1 (byteCells b)::.aC od 11 (acc.map eN)::H)∧(i+mm=m)∧(acc.length=i)∧(sr.at_≤b.length)∧(sr.e=0→s2.e=0)∧(∀k,od.ref=k+1→S2.bs.length≤k)∧((aZ (dX b) m s2).2=(aZ (dX b) mm sr).2)∧((aZ (dX b) mm sr).2.e=0→(aZ (dX b) m s2).1=acc++(aZ (dX b) mm sr).1)∧(acc.length≤400)∧(True)) (m) ?_ ?_
 ·exact⟨0,s2,.nul,[],rfl,hH,by omega,rfl,i1,fun h=>h,fun k hk=>by simp only[D.ref] at hk;omega,rfl,fun _=>rfl,by simp,trivial⟩
 rintro mm fr st ⟨i,sr,od,acc,hfr,hH,hi,hal,Hx,sC,sE,H6,FF,hab,hval⟩;rw[hfr];clear hfr;generalize bP fr=ee;clear fr;refine zQ 2 ?_;refine ak.cY 49 (.bool (decide (((i:Nat):Int)<(m:Nat)) &&(sr.e==0))) [] ?_ (fun ff tmp cx=>?_)
 ·refine zQ 4 ?_;refine aa.two 43 rfl (fun bk=>?_) (fun bk=>?_)
  ·refine zQ 6 ?_;refine aa.nil (aJ ?_ ?_)
   ·dsimp only[aF,List.foldl,nth,u2,u1]
    all_goals(first|rfl|simp)
   ·refine zF ?_
    all_goals(simp_all;done)
  ·refine zQ 6 ?_;refine aa.nil (aJ ?_ ?_)
   ·dsimp only[aF,List.foldl,nth,u2,u1]
    all_goals(first|rfl|simp)
   ·refine zF ?_
    all_goals(simp_all;omega)
 refine zG ?_;refine qc (fun hc=>?_) (fun hc=>?_)<;>try simp only[cs] at hc
 ·have hc:i<m∧sr.e=0:=by
   rw[Bool.and_eq_true,decide_eq_true_eq] at hc;exact⟨by omega,by simpa using hc.2⟩
  obtain⟨hlt,he⟩:=hc
  obtain⟨mm,rfl⟩:∃q,mm=q+1:=⟨mm-1,by omega⟩
  have O5:=i4 (sC he)
  have yj:aZ (dX b) (mm+1) sr=((dX b sr).1::(aZ (dX b) mm (dX b sr).2).1,(aZ (dX b) mm (dX b sr).2).2):=by
   conv=>lhs;unfold aZ
   rw[if_neg (by simpa using he)]
  rw[yj] at FF H6;have sD:(dX b sr).2.at_≤b.length:=vt Hx;refine zQ 7 ?_;obtain⟨_,st,aB,rfl,hH⟩:=Ia hbl Hx hH;refine qv aB ?_;refine qh (s:=11) (vs:=[_]) hH fun k56 st QP hH=>?_;dsimp only[u2,u1,u3,u4,setMany,u5,u6,D.cells,Nat.reduceAdd,bG] at hH;refine aa.j6 (s:=11) hH rfl (ev rfl) (ev rfl) gX (hH.rows aN) rfl rfl rfl rfl rfl rfl rfl ⟨(Nat.le_of_ble_eq_true rfl),(Nat.le_of_ble_eq_true rfl)⟩ (fun _=>(ab rfl _)) (by simp only[List.length_map,List.length_cons,List.length_nil];omega) (.inr rfl) sE (fun Pr st sE hH=>?_);dsimp only[u1,u2] at hH;refine zQ 2 ?_;have hH:=hH.drop 1;refine zQ 5 ?_;refine⟨mm,by omega,⟨i+1,(dX b sr).2,Pr,acc++[(dX b sr).1],rfl,(by rw[List.map_append];exact hH),by omega,(by rw[List.length_append];simp only[List.length_cons,List.length_nil];omega),sD,fun _=>sC he,sE,H6,?_,(by rw[List.length_append];simp only[List.length_cons,List.length_nil];omega),trivial⟩⟩;intro h0;rw[FF h0];rw[List.append_assoc];rfl
 ·refine zQ 1 ?_
  have tI:aZ (dX b) mm sr=([],sr):=by
   by_cases he:sr.e=0
   ·have:mm=0:=by
     rcases Nat.eq_zero_or_pos mm with h|h
     ·exact h
     ·exfalso
      have h1:decide (((i:Nat):Int)<(m:Nat))=true:=by rw[decide_eq_true_eq];omega
      rw[h1,he] at hc;simp at hc
    rw[this];rfl
   ·exact dQ _ he mm
  rw[tI] at FF H6;simp only[List.append_nil] at FF;rw[H6];refine zQ 9 ?_;refine ak.cond (by rfl) (fun hne=>?_) (fun hne=>?_)<;>try simp only[bne_iff_ne,bne_eq_false_iff_eq,ne_eq] at hne
  ·refine zQ 4 ?_;refine ak.ret ⟨rx,_,_,_,rfl,ag (rfl),?_⟩;exact⟨⟨[],rfl,by simp,trivial,fun h=>absurd h (by simpa using hne)⟩,bn.aj bh (hH.erase 2)⟩
  ·refine zQ 6 ?_;have nM:=H9 acc;have hfz:=hH.mf (L:=s0.bs.length) (n:=16) fm (fun k hk=>by rw[←bh];exact sE k hk) nM.1 (by decide);rw[nM.2] at hfz;refine ak.ret ⟨rx,_,_,_,rfl,ag hfz,?_⟩;exact⟨⟨acc,rfl,hab,hval,fun h=>(FF h).symm⟩,bn.aj bh (hH.erase 2)⟩
theorem FO {N k:Nat} {S s0:St} {H:List a_} {x:D} {b:List UInt8} {s:c8} (hbl:b.length≤1099511627776) (bq:s.at_≤b.length) (hH:Has N S s0 (.box k (.mem 0 false (bG x s))::.aC x 1 (byteCells b)::H)):
  ∃d ah,Ev pv 154 [.ptr k 0 0] s0 d ah∧(∃g:GV,d=.agg (f' g)∧(g.td=tv g.ct∧g.ct.length≤400)∧((cD b s).2.e=0→g=(cD b s).1))∧Has N S ah (.box k (.mem 0 false (bG x (cD b s).2))::.aC x 1 (byteCells b)::H):=by
 refine Ev.gA rfl N9 rfl rfl rfl ?_;refine zE ?_;have bn:=hH;have hH:=hH.aW;have bh:(ae .rw s0).bs=s0.bs:=rfl;generalize ae .rw s0=S2 at*;refine zQ 2 ?_;refine qa hH fun k2 st hk2 hH=>?_;dsimp only[u2,u1,u3,u4,setMany,u5,u6,D.cells,Nat.reduceAdd,bG] at hH;refine zQ 3 ?_;refine qa hH fun k3 st tG hH=>?_;refine zQ 1 ?_;have hH:Has N S2 st (.box k (.mem 0 false (bG x s))::.aC x 1 (byteCells b)::.box k3 (.mem 0 false (cA false bL .nul))::.box k2 (.mem 0 false (cA false bL .nul))::H):=Has.rD [_,_] [_,_] hH;refine zQ 3 ?_;obtain⟨_,st,aB,rfl,hH⟩:=FP hbl bq hH;refine qv aB ?_;refine zQ 1 ?_;refine aa.fe hH rfl (ev rfl) (ev rfl) rfl (by exact rfl) fm (by exact Nat.le_of_ble_eq_true rfl) (.inr rfl) (fun st hH=>?_);dsimp only[u1,u2] at hH;refine zQ 1 ?_;have hH:Has N S2 st (.box k (.mem 0 false (bG x (db b s).2))::.aC x 1 (byteCells b)::.box k3 (.mem 0 false (cA (db b s).1 bL .nul))::.box k2 (.mem 0 false (cA false bL .nul))::H):=hH;have sD:=nU bq;refine zQ 3 ?_;obtain⟨_,st,aB,rfl,hH⟩:=yB hbl sD hH;refine qv aB ?_;refine zQ 1 ?_;refine aa.fe hH rfl (ev rfl) (ev rfl) rfl (by exact rfl) fm (by exact Nat.le_of_ble_eq_true rfl) (.inr rfl) (fun st hH=>?_);dsimp only[u1,u2] at hH;refine zQ 1 ?_;have hH:Has N S2 st (.box k (.mem 0 false (bG x (iJ b 10 (db b s).2)))::.aC x 1 (byteCells b)::.box k3 (.mem 0 false (cA (db b s).1 (mC b (db b s).2) .nul))::.box k2 (.mem 0 false (cA false bL .nul))::H):=hH;have Af:=jA sD 10;refine zQ 3 ?_;obtain⟨_,st,aB,⟨ts,rfl,UZ,_,Ta⟩,hH⟩:=H_ hbl Af hH;refine qv aB ?_;refine zQ 1 ?_;refine aa.fe hH rfl (ev rfl) (ev rfl) rfl (by exact rfl) fm (by exact Nat.le_of_ble_eq_true rfl) (.inr rfl) (fun st hH=>?_);dsimp only[u1,u2] at hH;refine zQ 1 ?_
 obtain⟨g,hg⟩:∃g:GV,g=⟨(db b s).1,mC b (db b s).2,tv ts,ts⟩:=⟨_,rfl⟩
 have hH:Has N S2 st (.box k (.mem 0 false (bG x (cD b s).2))::.aC x 1 (byteCells b)::.box k3 (.mem 0 false (f' g))::.box k2 (.mem 0 false (cA false bL .nul))::H):=by rw[hg];exact hH
 have y4:g.td=tv g.ct:=by rw[hg]
 have tq:g.ct.length≤400:=by rw[hg];exact UZ
 have Q5:(cD b s).2.e=0→g=(cD b s).1:=fun h=>by
  rw[hg,Ta h];rfl
 clear hg Ta;have IP:refs (f' g)=0:=by unfold f';rw[y4];rfl
 refine zQ 2 ?_;refine aa.aL (m:=12) (r:=f' g) hH rfl (ev rfl) fm rfl rfl rfl (ab rfl _) ?_;refine aa.cM hH rfl (ev rfl) (ev rfl) rfl (by exact rfl) gX (by exact rfl) (.inr IP) (fun st hH=>?_);dsimp only[u1,u2] at hH;refine zQ 1 ?_;refine ak.ret ⟨rx,_,_,_,hH.l4 rfl gX rfl,ag (show bd st s0.bs.length false 16 (.agg (f' g))=some (.agg (f' g)) by unfold f';rw[y4];rfl),?_⟩;exact⟨⟨g,rfl,⟨y4,tq⟩,Q5⟩,bn.aj bh ((hH.erase 2).erase 2)⟩
theorem C6 {N k:Nat} {S s0:St} {H:List a_} {x:D} {b:List UInt8} {s:c8} (hbl:b.length≤1099511627776) (bq:s.at_≤b.length) (hH:Has N S s0 (.box k (.mem 0 false (bG x s))::.aC x 1 (byteCells b)::H)):
  ∃d ah,Ev pv 153 [.ptr k 0 0,.int .i64 8,.fn 154 []] s0 d ah∧(∃L:List GV,d=uM L∧L.length≤8∧(∀g∈L,g.td=tv g.ct∧g.ct.length≤400)∧((c_ b s).2.e=0→L=(c_ b s).1))∧Has N S ah (.box k (.mem 0 false (bG x (c_ b s).2))::.aC x 1 (byteCells b)::H):=by
 have uJ:=ay b;obtain⟨u1,u2,u3,u4⟩:=lj (m:=8) bq;obtain⟨i1,i2,i3,i4⟩:=eQ (m:=8) bq;have o7:bF b 8 s=if(br b 8 s).2.e=0∧(br b 8 s).1>(b.length:Int)-(br b 8 s).2.at_ then((br b 8 s).1,⟨s.at_,3⟩) else br b 8 s:=rfl;unfold c_;refine Ev.gA rfl N_ rfl rfl rfl ?_;refine zE ?_;have bn:=hH;have hH:=hH.aW;have bh:(ae .rw s0).bs=s0.bs:=rfl;generalize ae .rw s0=S2 at*;refine zQ 16 ?_;obtain⟨_,st,aB,rfl,hH⟩:=sL hbl bq 8 hH;refine qv aB ?_;refine zQ 2 ?_;generalize br b 8 s=R at*;obtain⟨n,s1⟩:=R;dsimp only at u1 u2 u3 u4 o7 hH⊢;refine zQ 2 ?_;refine ak.ky (fun fr st=>∃(tmp:List (Nat×D)),fr=⟨11,[.ptr k 0 0,bP fr 1,.fn 154 [],bP fr 3,bP fr 4,bP fr 5,bP fr 6,bP fr 7,.int .i64 (bF b 8 s).1,bP fr 9,bP fr 10],tmp⟩∧Has N S2 st (.box k (.mem 0 false (bG x (bF b 8 s).2))::.aC x 1 (byteCells b)::H)∧(True)) ?_ ?_
 ·by_cases he:s1.e=0
  ·have cK:(s1.e==0)=true:=by simpa using he
   refine zQ 12 ?_;refine qn ?_ (hR:=hH.rows bV) (hg:=wi cK);refine zQ 4 ?_;refine aa.eY (z:=(((b.length:Nat):Int)-(s1.at_:Nat))) (ai rfl rfl rfl cK) (ev rfl) (ev rfl) (by rw[wrap_i64 (by omega) (by omega)]<;>omega) (ab rfl _) ?_;refine zQ 3 ?_
   by_cases hlt:n>(b.length:Int)-s1.at_
   ·rw[if_pos ⟨he,hlt⟩] at o7;rw[o7];have hc:decide (n>(b.length:Int)-s1.at_)=true:=by rw[decide_eq_true_eq];exact hlt
    refine qD rfl (by rw[hc]) ?_;refine zQ 3 ?_;obtain⟨_,st,aB,rfl,hH⟩:=eS s.at_ 3 hH;refine qv aB ?_;refine zQ 1 ?_;exact⟨_,rfl,hH,trivial⟩
   ·rw[if_neg (fun h=>hlt h.2)] at o7;rw[o7];have hc:decide (n>(b.length:Int)-s1.at_)=false:=by rw[decide_eq_false_iff_not];exact hlt
    refine qE rfl (by rw[hc]) ?_;refine zQ 1 ?_;exact⟨_,rfl,hH,trivial⟩
  ·rw[if_neg (fun h=>he h.1)] at o7;rw[o7];have cK:(s1.e==0)=false:=by simpa using he
   refine zQ 23 ?_;exact⟨_,rfl,hH,trivial⟩
 rintro fr st ⟨tmp,hfr,hH,ht⟩;rw[hfr];clear hfr;generalize bP fr=ee;clear fr;clear o7 u1 u2 u3 u4;generalize bF b 8 s=R at*;obtain⟨n,s2⟩:=R;dsimp only at i1 i2 i3 i4 hH⊢
 obtain⟨m,rfl⟩:∃m:Nat,n=(m:Nat):=⟨n.toNat,by omega⟩
 rw[Int.toNat_natCast];refine zQ 9 ?_;have hH:Has N S2 st (.box k (.mem 0 false (bG x s2))::.aC x 1 (byteCells b)::.aC .nul 12 (([]:List GV).map f')::H):=Has.rD [_] [_,_] (hH.gf 12);refine zQ 1 ?_;refine ak.loop (fun mm fr st=>∃(i:Nat) (sr:c8) (od:D) (acc:List GV),fr.clean=⟨11,[.ptr k 0 0,bP fr 1,.fn 154 [],bP fr 3,bP fr 4,bP fr 5,bP fr 6,bP fr 7,.int .i64 (m:Nat),od,.int .i64 (i:Nat)],[]⟩∧Has N S2 st (.box k (.mem 0 false (bG x sr))::.aC x 1 (byteCells b)::.aC od 12 (acc.map f')::H)∧(i+mm=m)∧(acc.length=i)∧(sr.at_≤b.length)∧(sr.e=0→s2.e=0)∧(∀k,od.ref=k+1→S2.bs.length≤k)∧((aZ (cD b) m s2).2=(aZ (cD b) mm sr).2)∧((aZ (cD b) mm sr).2.e=0→(aZ (cD b) m s2).1=acc++(aZ (cD b) mm sr).1)∧(acc.length≤8)∧(∀g∈acc,g.td=tv g.ct∧g.ct.length≤400)) (m) ?_ ?_
 ·exact⟨0,s2,.nul,[],rfl,hH,by omega,rfl,i1,fun h=>h,fun k hk=>by simp only[D.ref] at hk;omega,rfl,fun _=>rfl,by simp,(fun g hg=>by cases hg)⟩
 rintro mm fr st ⟨i,sr,od,acc,hfr,hH,hi,hal,Hx,sC,sE,H6,FF,hab,hval⟩;rw[hfr];clear hfr;generalize bP fr=ee;clear fr;refine zQ 2 ?_;refine ak.cY 49 (.bool (decide (((i:Nat):Int)<(m:Nat)) &&(sr.e==0))) [] ?_ (fun ff tmp cx=>?_)
 ·refine zQ 4 ?_;refine aa.two 43 rfl (fun bk=>?_) (fun bk=>?_)
  ·refine zQ 6 ?_;refine aa.nil (aJ ?_ ?_)
   ·dsimp only[aF,List.foldl,nth,u2,u1]
    all_goals(first|rfl|simp)
   ·refine zF ?_
    all_goals(simp_all;done)
  ·refine zQ 6 ?_;refine aa.nil (aJ ?_ ?_)
   ·dsimp only[aF,List.foldl,nth,u2,u1]
    all_goals(first|rfl|simp)
   ·refine zF ?_
    all_goals(simp_all;omega)
 refine zG ?_;refine qc (fun hc=>?_) (fun hc=>?_)<;>try simp only[cs] at hc
 ·have hc:i<m∧sr.e=0:=by
   rw[Bool.and_eq_true,decide_eq_true_eq] at hc;exact⟨by omega,by simpa using hc.2⟩
  obtain⟨hlt,he⟩:=hc
  obtain⟨mm,rfl⟩:∃q,mm=q+1:=⟨mm-1,by omega⟩
  have O5:=i4 (sC he)
  have yj:aZ (cD b) (mm+1) sr=((cD b sr).1::(aZ (cD b) mm (cD b sr).2).1,(aZ (cD b) mm (cD b sr).2).2):=by
   conv=>lhs;unfold aZ
   rw[if_neg (by simpa using he)]
  rw[yj] at FF H6;have sD:(cD b sr).2.at_≤b.length:=nJ Hx;refine zQ 7 ?_;obtain⟨_,st,aB,⟨g,rfl,TC,Q5⟩,hH⟩:=FO hbl Hx hH
  have IP:refs ([f' g]:List (List D)).flatten=0:=(by unfold f';rw[TC.1];rfl)
  refine qv aB ?_;refine qh (s:=12) (vs:=[_]) hH fun k56 st QP hH=>?_;dsimp only[u2,u1,u3,u4,setMany,u5,u6,D.cells,Nat.reduceAdd,bG] at hH;refine aa.j6 (s:=12) hH rfl (ev rfl) (ev rfl) gX (hH.rows aN) rfl rfl rfl rfl rfl rfl rfl ⟨(Nat.le_of_ble_eq_true rfl),(Nat.le_of_ble_eq_true rfl)⟩ (fun _=>(ab rfl _)) (by simp only[List.length_map,List.length_cons,List.length_nil];omega) (.inr IP) sE (fun Pr st sE hH=>?_);dsimp only[u1,u2] at hH;refine zQ 2 ?_;have hH:=hH.drop 1;refine zQ 5 ?_;refine⟨mm,by omega,⟨i+1,(cD b sr).2,Pr,acc++[g],rfl,(by rw[List.map_append];exact hH),by omega,(by rw[List.length_append];simp only[List.length_cons,List.length_nil];omega),sD,fun _=>sC he,sE,H6,?_,(by rw[List.length_append];simp only[List.length_cons,List.length_nil];omega),(fun g2 cu=>by rcases List.mem_append.1 cu with h|h;exact hval g2 h;simp only[List.mem_cons,List.not_mem_nil,or_false] at h;rw[h];exact TC)⟩⟩;intro h0;rw[FF h0]
  have gB:(cD b sr).2.e=0:=by
   rcases Classical.em ((cD b sr).2.e=0) with h|h
   ·exact h
   ·rw[dQ _ h] at h0;exact absurd h0 h
  rw[Q5 gB,List.append_assoc];rfl
 ·refine zQ 1 ?_
  have tI:aZ (cD b) mm sr=([],sr):=by
   by_cases he:sr.e=0
   ·have:mm=0:=by
     rcases Nat.eq_zero_or_pos mm with h|h
     ·exact h
     ·exfalso
      have h1:decide (((i:Nat):Int)<(m:Nat))=true:=by rw[decide_eq_true_eq];omega
      rw[h1,he] at hc;simp at hc
    rw[this];rfl
   ·exact dQ _ he mm
  rw[tI] at FF H6;simp only[List.append_nil] at FF;rw[H6];refine zQ 9 ?_;refine ak.cond (by rfl) (fun hne=>?_) (fun hne=>?_)<;>try simp only[bne_iff_ne,bne_eq_false_iff_eq,ne_eq] at hne
  ·refine zQ 4 ?_;refine ak.ret ⟨rx,_,_,_,rfl,ag (rfl),?_⟩;exact⟨⟨[],rfl,by simp,(fun g hg=>by cases hg),fun h=>absurd h (by simpa using hne)⟩,bn.aj bh (hH.erase 2)⟩
  ·refine zQ 6 ?_;have nM:=H8 fun g hg=>(hval g hg).1;have hfz:=hH.mf (L:=s0.bs.length) (n:=16) fm (fun k hk=>by rw[←bh];exact sE k hk) nM.1 (by decide);rw[nM.2] at hfz;refine ak.ret ⟨rx,_,_,_,rfl,ag hfz,?_⟩;exact⟨⟨acc,rfl,hab,hval,fun h=>(FF h).symm⟩,bn.aj bh (hH.erase 2)⟩
theorem C5 {N k:Nat} {S s0:St} {H:List a_} {x:D} {b:List UInt8} {s:c8} (hbl:b.length≤1099511627776) (bq:s.at_≤b.length) (hH:Has N S s0 (.box k (.mem 0 false (bG x s))::.aC x 1 (byteCells b)::H)):
  ∃d ah,Ev pv 99 [.ptr k 0 0] s0 d ah∧(∃L:List GV,d=uM L∧L.length≤8∧(∀g∈L,g.td=tv g.ct∧g.ct.length≤400)∧((c_ b s).2.e=0→L=(c_ b s).1))∧Has N S ah (.box k (.mem 0 false (bG x (c_ b s).2))::.aC x 1 (byteCells b)::H):=by
 refine Ev.gA rfl RC rfl rfl rfl ?_;refine zE ?_;have bn:=hH;have hH:=hH.aW;have bh:(ae .rw s0).bs=s0.bs:=rfl;generalize ae .rw s0=S2 at*;refine zQ 7 ?_;obtain⟨_,st,aB,⟨L,rfl,h1,h2,h3⟩,hH⟩:=C6 hbl bq hH;refine qv aB ?_;refine zQ 2 ?_;refine ak.ret ⟨rx,_,_,_,rfl,ag (rfl),?_⟩;exact⟨⟨L,rfl,h1,h2,h3⟩,bn.aj bh hH⟩
def gQ (fr:Go.V.Fr) (k:Nat):Go.V.D:=Go.V.nth .bj fr.loc k
theorem Fz {N:Nat} {S st:St} {H:List a_} {j:Nat} {x:D} {s:Nat} {ks:Nat→Prop} {vs:List (List D)} (hH:Has N S st H) (hj:H[j]?=some (.deep ks x s vs)):∃es,Has N S st [.aC x s es]:=by
 obtain⟨⟨es,gB,tu⟩,he3⟩:=(hH.ok j _ hj).1;have hK:=(hH.ok j _ hj).2;refine⟨es,hH.ex,hH.hN,hH.di,fun i e hi=>?_,fun i i' a b hii ha hb k nP ib=>?_⟩
 ·cases i with
  |zero=>simp only[List.getElem?_cons_zero,Option.some.injEq] at hi;subst hi;exact⟨gB,fun k hk=>hK k (.inl hk)⟩
  |succ i=>simp at hi
 ·cases i with
  |zero=>cases i' with
   |zero=>exact hii rfl
   |succ i'=>simp at hb
  |succ i=>simp at ha
theorem wu {N:Nat} {S st:St} {H:List a_} {P:Pv} {j:Nat} {x y:D} {s:Nat} {ks:Nat→Prop} {vs ys DF:List (List D)} (hH:Has N S st H) (hj:H[j]?=some (.deep ks x s vs)) (hy:V.Rows st s y ys) (hd:cy (cy (dL st ks)) ys DF) {t1 t2 e:TypeId} {td:TypeDesc} {inf:TypeInfo} {z:List D}
  (h1:P.ch t1=some (.slice e)) (h2:P.ch t2=some td) (h3:eJ td=false) (h4:P.info e=some inf) (h5:cO P e=some z) (h6:inf.size=s) (h7:z.length=s) (h8:0<inf.bytes∧inf.bytes≤1024)
  (oq:vs.length+ys.length≤1073741824) (hw:S.flr≤S.bs.length∨refs ys.flatten=0) (h0:∀k,x.ref=k+1→S.bs.length≤k):
  ∃x' ah,bc P .append [t1,t2] [x,y] st=some (x',ah)∧Has N S ah (H.set j (.deep ks x' s (vs++DF))):=by
 obtain⟨⟨es,gB,tu⟩,he3⟩:=(hH.ok j _ hj).1;have hK:=(hH.ok j _ hj).2;have hlen:=tu.len
 have Kr:Has S.bs.length st st [.aC x s es]:=by
  refine⟨Ex.refl _ _,hH.ex.len,by rw[hH.ex.ro];exact Nat.le_trans hH.di hH.hN,fun i e hi=>?_,fun i i' a b hii ha hb k nP ib=>?_⟩
  ·cases i with
   |zero=>simp only[List.getElem?_cons_zero,Option.some.injEq] at hi;subst hi;exact⟨gB,fun k hk=>⟨h0 k hk,(hK k (.inl hk)).2⟩⟩
   |succ i=>simp at hi
  ·cases i with
   |zero=>cases i' with
    |zero=>exact hii rfl
    |succ i'=>simp at hb
   |succ i=>simp at ha
 obtain⟨x',ah,q1,q2,q3⟩:=Kr.append (j:=0) aN hy h1 h2 h3 h4 h5 h6 h7 h8 (by omega) (by rw[hH.ex.flr];exact hw);refine⟨x',ah,q1,?_⟩;have hown:=q2.own (j:=0) aN
 have MW:(∀k,k<st.bs.length→x.ref≠k+1→ah.bs[k]?=st.bs[k]?)∧st.bs.length≤ah.bs.length∧ah.flr=st.flr∧ah.ro=st.ro∧(∀k,x'.ref=k+1→x.ref=k+1∨st.bs.length≤k):=by
  have jj:=hy.row
  have y3:∀e∈ys,e.length=s:=fun e he=>by
   obtain⟨i,hi⟩:=List.getElem?_of_mem he;exact hy.sW i e hi
  simp only[bc,gy,h1,h2,h3,Bool.false_eq_true,if_false,h4,h5,jj,Option.bind_some] at q1
  split at q1
  ·cases q1
  ·cases gB with
   |nul=>
    simp only at q1
    split at q1
    ·cases q1;exact⟨fun _ _ _=>rfl,Nat.le_refl _,rfl,rfl,fun k hk=>.inl hk⟩
    ·split at q1
     ·cases q1;exact⟨fun k hk _=>by simp only[St.push];rw[List.getElem?_append_left hk],by simp[St.push],rfl,rfl,fun k hk=>.inr (by simp only[D.ref] at hk;omega)⟩
     ·cases q1
   |win k az off es c hm hl hc he=>
    simp only[St.mem_of hm] at q1
    split at q1
    ·cases q1
    ·split at q1
     ·cases q1;exact⟨fun _ _ _=>rfl,Nat.le_refl _,rfl,rfl,fun k hk=>.inl hk⟩
     ·split at q1
      ·cases q1;exact⟨fun n hn hne=>by simp only;rw[List.getElem?_set_ne (fun e=>hne (by simp only[D.ref];omega))],by simp,rfl,rfl,fun n hn=>.inl (by simp only[D.ref] at hn⊢;exact hn)⟩
      ·cases q1
 obtain⟨c1,c2,c3,c4,c5⟩:=MW;have L1:=(q2.ok 0 _ aN).2;have pH:∀k,ks k→ah.bs[k]?=st.bs[k]?:=fun k hk=>c1 k (hK k (.inr hk)).2 fun e=>he3 k e hk;refine hH.A2 hj (fun k hk hne=>c1 k hk fun e=>hne (.inl e)) c2 c3 c4 ⟨⟨es++ys,hown,?_⟩,fun k hk jt=>?_⟩ (fun k hk=>?_) fun k hk=>?_
 ·exact(tu.mono fun a b=>cy.mono fun c d=>dL.move pH).append (hd.mono fun a b=>cy.mono fun c d=>dL.move pH)
 ·rcases c5 k hk with h|h
  ·exact he3 k h jt
  ·have:=(hK k (.inr jt)).2;omega
 ·rcases hk with hk|hk
  ·rcases c5 k hk with h|h
   ·exact .inl (.inl h)
   ·exact .inr h
  ·exact .inl (.inr hk)
 ·rcases hk with hk|hk
  ·exact(L1 k hk).2
  ·exact Nat.lt_of_lt_of_le (hK k (.inr hk)).2 c2
theorem hD {N:Nat} {S st:St} {H:List a_} {P:Pv} {ops:Array Oper} {rest:List Oper} {fr:Fr} {Q:Fr→St→Prop} {ty:TypeId} {pp:String} {a:Array Edge} {g:Option (Nat×Bool)} {j k az off:Nat} {ar:Bool} {c cs:List D} {v:D} {t:TypeId} {ao vo:Operand} (hH:Has N S st H) (hg:aA ops fr ⟨none,.store t ao vo,ty,pp,a,g⟩=some true) (ha:fr.ev ao=.ptr k az off) (hv:fr.ev vo=v) (lf:v.cells?=some cs) (hs:cg P t=some cs.length) (hj:H[j]?=some (.box k (.mem az ar c))) (hl:off+cs.length≤c.length) (hw:S.flr≤k)
  (h:∀ah,Has N S ah (H.set j (.box k (.mem az ar (setMany c off cs))))→aa P ops rest fr ah Q):aa P ops (⟨none,.store t ao vo,ty,pp,a,g⟩::rest) fr st Q:=by
 have h1:=hH.ex.flr;have h2:=hH.ex.ro;have h3:=hH.di;have h4:=(hH.ge hj).1;refine aa.N hg rfl (d:=.tup []) (st1:=⟨st.bs.set k (.mem az ar (setMany c off cs)),st.flr,st.ro⟩) ?_ (h _ (hH.ry (az:=az) hj));simp only[dq,ha,hv,kc,lf,hs,if_pos trivial];rw[lg (hH.at hj) hl (Gf (N:=k) (Nat.le_refl _) (by omega) (by omega)),fN _ _ _ hl];rfl
theorem wv {N:Nat} {S st:St} {H:List a_} {P:Pv} {ops:Array Oper} {rest:List Oper} {fr:Fr} {Q:Fr→St→Prop} {ty:TypeId} {pp:String} {a:Array Edge} {g:Option (Nat×Bool)} {dst:Nat} {j:Nat} {x y:D} {s:Nat} {ks:Nat→Prop} {vs ys DF:List (List D)} {t1 t2 e:TypeId} {td:TypeDesc} {inf:TypeInfo} {z:List D} {xo yo:Operand} {aE:D→Fr} (hH:Has N S st H) (hg:aA ops fr ⟨some dst,.call ⟨.builtin .append,#[xo,yo],#[t1,t2]⟩,ty,pp,a,g⟩=some true)
  (hx:fr.ev xo=x) (hy:fr.ev yo=y) (hj:H[j]?=some (.deep ks x s vs)) (jr:V.Rows st s y ys) (hd:cy (cy (dL st ks)) ys DF)
  (h1:P.ch t1=some (.slice e)) (h2:P.ch t2=some td) (h3:eJ td=false) (h4:P.info e=some inf) (h5:cO P e=some z) (h6:inf.size=s) (h7:z.length=s) (h8:0<inf.bytes∧inf.bytes≤1024)
  (hp:∀x',fr.put dst x'=aE x') (hb:vs.length+ys.length≤1073741824) (hw:S.flr≤S.bs.length∨refs ys.flatten=0) (h0:∀k,x.ref=k+1→S.bs.length≤k)
  (h:∀x' ah,(∀k,x'.ref=k+1→S.bs.length≤k)→Has N S ah (H.set j (.deep ks x' s (vs++DF)))→aa P ops rest (aE x') ah Q):
  aa P ops (⟨some dst,.call ⟨.builtin .append,#[xo,yo],#[t1,t2]⟩,ty,pp,a,g⟩::rest) fr st Q:=by
 obtain⟨x',ah,q1,q2⟩:=wu hH hj jr hd h1 h2 h3 h4 h5 h6 h7 h8 hb hw h0;obtain⟨es,Kr⟩:=Fz hH hj;have Ry:=Kr.Ca (j:=0) aN jr h1 h2 h3 h4 h5 q1;refine aa.go hg rfl (d:=x') (st1:=ah) ?_ (hp _) (h x' ah (fun k hk=>?_) q2)
 ·simp only[dq,List.map_cons,List.map_nil,hx,hy];exact q1
 ·rcases Ry k hk with h|h
  ·exact h0 k h
  ·exact h
theorem wo {N:Nat} {S st:St} {H:List a_} {L j:Nat} {x:D} {s:Nat} {ks:Nat→Prop} {vs:List (List D)} (hH:Has N S st H) (hj:H[j]?=some (.deep ks x s vs)) (hx:∀k,x.ref=k+1→L≤k) (jt:∀k,ks k→L≤k) {n:Nat} (hn:4≤n):bd st L false (n+1) x=some (.sl (vs.map (j7 s))):=by
 obtain⟨n,rfl⟩:∃m,n=m+4:=⟨n-4,by omega⟩
 obtain⟨⟨es,h1,h2⟩,h3⟩:=(hH.ok j _ hj).1
 cases h1 with
 |nul=>cases h2;rfl
 |win k az off es c hm hl hc he=>
  have hk:=hx k (by simp only[D.ref]);show(if k<L then some (D.win k az off es.length s) else ej st L (n+4) (.win k az off es.length s))=_;rw[if_neg (show¬k<L by omega),ej];simp only[if_neg (show¬k<L by omega),St.mem_of hm,Option.bind_some];rw[if_pos hl,hc,oQ (fun a b hab=>hab.pure (fun k hk=>jt k hk) (n+1)) h2.flat];simp only[Option.map_some];rw[h2.len,fW (h2.each he)]
def iU (b:List UInt8) (most:Int) (s:c8):Int:=if(bF b most s).2.e≠0 then 0 else(bF b most s).1
theorem uF {b:List UInt8} {m:Int} {s:c8} (h:s.at_≤b.length):0≤iU b m s∧iU b m s≤max m 0:=by
 obtain⟨o1,o2,o3,o4⟩:=eQ (m:=m) h;unfold iU
 split
 ·exact⟨by simp,by omega⟩
 ·rename_i hn;exact⟨o2,o4 (by simpa using hn)⟩
theorem yf {α:Type} (one:c8→α×c8) (b:List UInt8) (m:Int) (s:c8):aZ one (iU b m s).toNat (bF b m s).2=aZ one (bF b m s).1.toNat (bF b m s).2:=by
 unfold iU
 split
 ·rename_i h;rw[dQ _ h,dQ _ h]
 ·rfl
theorem yx {N k:Nat} {S s0:St} {H:List a_} {x:D} {b:List UInt8} {s:c8} (hbl:b.length≤1099511627776) (bq:s.at_≤b.length) (hH:Has N S s0 (.box k (.mem 0 false (bG x s))::.aC x 1 (byteCells b)::H)):
  ∃d ah,Ev pv 161 [.ptr k 0 0] s0 d ah∧d=.agg (aY (mC b s))∧Has N S ah (.box k (.mem 0 false (bG x (iJ b 10 s)))::.aC x 1 (byteCells b)::H):=by
 refine Ev.gA rfl N2 rfl rfl rfl ?_;refine zE ?_;have bn:=hH;have hH:=hH.aW;have bh:(ae .rw s0).bs=s0.bs:=rfl;generalize ae .rw s0=S2 at*;refine zQ 2 ?_;refine qa hH fun k2 st hk2 hH=>?_;dsimp only[u2,u1,u3,u4,setMany,u5,u6,D.cells,Nat.reduceAdd,bG] at hH;refine zQ 3 ?_;refine qa hH fun k3 st tG hH=>?_;refine zQ 6 ?_;have hH:Has N S2 st (.box k (.mem 0 false (bG x s))::.aC x 1 (byteCells b)::.box k3 (.mem 0 false (aY bL))::.box k2 (.mem 0 false (aY bL))::H):=Has.rD [_,_] [_,_] hH;refine zQ 1 ?_;refine ak.loop (fun mm fr st=>∃(i:Nat) (f:mr),fr.clean=⟨5,[.ptr k 0 0,gQ fr 1,.ptr k2 0 0,.ptr k3 0 0,.int .i64 (i:Nat)],[]⟩∧Has N S2 st (.box k (.mem 0 false (bG x (iJ b i s)))::.aC x 1 (byteCells b)::.box k3 (.mem 0 false (aY f))::.box k2 (.mem 0 false (aY bL))::H)∧(i+mm=10)∧(∀j,j<i→f j=mC b s j)) (10) ?_ ?_
 ·exact⟨0,bL,rfl,hH,by omega,fun j h=>by omega⟩
 rintro mm fr st ⟨i,f,hfr,hH,hi,hf⟩;rw[hfr];clear hfr;generalize gQ fr=ee;clear fr;have E9:=jA bq i;obtain⟨_,_,o3,o4,_⟩:=dc (b:=b) (s:=iJ b i s) E9;refine zQ 6 ?_;refine zP (fun h1=>?_) fun h1=>?_
 ·refine zQ 1 ?_;have Ai:i<10:=by omega
  refine zQ 5 ?_;obtain⟨_,st,aB,rfl,hH⟩:=mc hbl E9 hH;refine qv aB ?_;refine aa.eY (z:=((aX b (iJ b i s)).1-1)) rfl (ev rfl) (ev rfl) (by rw[wrap_i64 (by omega) (by omega)]<;>omega) (ab rfl _) ?_;refine aa.H0 (m:=10) (s:=1) (i:=i) (o:=i) rfl (ev rfl) (ev rfl) rfl rfl (by omega) (by omega) (ab rfl _) ?_;refine aa.fe hH rfl (ev rfl) (ev rfl) rfl (by exact rfl) fm (by show i+1≤10;omega) (.inr rfl) (fun st hH=>?_);change Has _ _ _ (_::_::.box k3 (.mem 0 false (setMany (aY f) i [.int .i64 ((aX b (iJ b i s)).1-1)]))::_) at hH;rw[tV Ai] at hH;refine zQ 6 ?_;refine⟨mm-1,by omega,⟨i+1,DZ f i ((aX b (iJ b i s)).1-1),rfl,hH,by omega,?_⟩⟩;intro j hj;unfold DZ
  split
  ·rename_i h;subst h;rfl
  ·exact hf j (by omega)
 ·refine zQ 1 ?_;have Ai:i=10:=by omega
  subst Ai;have HS:=yQ hf;rw[HS] at hH;refine zQ 2 ?_;refine aa.aL (m:=10) (r:=aY (mC b s)) hH rfl (ev rfl) fm rfl rfl rfl (ab rfl _) ?_;refine aa.cM hH rfl (ev rfl) (ev rfl) rfl (by exact rfl) gX (by exact rfl) (.inr rfl) (fun st hH=>?_);dsimp only[u1,u2] at hH;refine zQ 1 ?_;refine ak.ret ⟨rx,_,_,_,hH.l4 rfl gX rfl,ag (show bd st s0.bs.length false 16 (.agg (aY (mC b s)))=some (.agg (aY (mC b s))) from rfl),?_⟩;exact⟨rfl,bn.aj bh ((hH.erase 2).erase 2)⟩
theorem uL {N k:Nat} {S s0:St} {H:List a_} {x:D} {b:List UInt8} {s:c8} (hbl:b.length≤1099511627776) (bq:s.at_≤b.length) (most:Int) (hH:Has N S s0 (.box k (.mem 0 false (bG x s))::.aC x 1 (byteCells b)::H)):
  ∃d ah,Ev pv 159 [.ptr k 0 0,.int .i64 most] s0 d ah∧d=.int .i64 (iU b most s)∧Has N S ah (.box k (.mem 0 false (bG x (bF b most s).2))::.aC x 1 (byteCells b)::H):=by
 have uJ:=ay b;obtain⟨u1,u2,u3,u4⟩:=lj (m:=most) bq;have o7:bF b most s=if(br b most s).2.e=0∧(br b most s).1>(b.length:Int)-(br b most s).2.at_ then((br b most s).1,⟨s.at_,3⟩) else br b most s:=rfl;unfold iU;refine Ev.gA rfl N4 rfl rfl rfl ?_;refine zE ?_;have bn:=hH;have hH:=hH.aW;have bh:(ae .rw s0).bs=s0.bs:=rfl;generalize ae .rw s0=S2 at*;refine zQ 16 ?_;obtain⟨_,st,aB,rfl,hH⟩:=yw hbl bq most hH;refine qv aB ?_;refine zQ 2 ?_;generalize br b most s=R at*;obtain⟨n,s1⟩:=R;dsimp only at u1 u2 u3 u4 o7 hH⊢
 by_cases he:s1.e=0
 ·have cK:(s1.e==0)=true:=by simpa using he
  refine zQ 14 ?_;refine qn ?_ (hR:=hH.rows bV) (hg:=wi cK);refine zQ 4 ?_;refine aa.eY (z:=(((b.length:Nat):Int)-(s1.at_:Nat))) (ai rfl rfl rfl cK) (ev rfl) (ev rfl) (by rw[wrap_i64 (by omega) (by omega)]<;>omega) (ab rfl _) ?_;refine zQ 3 ?_
  by_cases hlt:n>(b.length:Int)-s1.at_
  ·rw[if_pos ⟨he,hlt⟩] at o7;rw[o7];have hc:decide (n>(b.length:Int)-s1.at_)=true:=by rw[decide_eq_true_eq];exact hlt
   refine qD rfl (by rw[hc]) ?_;refine zQ 5 ?_;refine qT hH aN fun st hH=>?_;dsimp only[u2,u1,u3,u4,setMany,u5,u6,D.cells,Nat.reduceAdd,bG] at hH;refine zQ 6 ?_;refine qT hH aN fun st hH=>?_;dsimp only[u2,u1,u3,u4,setMany,u5,u6,D.cells,Nat.reduceAdd,bG] at hH;refine zQ 15 ?_;refine ak.ret ⟨rx,_,_,_,rfl,ag (rfl),?_⟩;exact⟨rfl,bn.aj bh hH⟩
  ·rw[if_neg (fun h=>hlt h.2)] at o7;rw[o7];have hc:decide (n>(b.length:Int)-s1.at_)=false:=by rw[decide_eq_false_iff_not];exact hlt
   refine qE rfl (by rw[hc]) ?_;refine zQ 10 ?_;refine qE rfl (by simp[he]) ?_;refine zQ 6 ?_;refine ak.ret ⟨rx,_,_,_,rfl,ag (rfl),?_⟩;exact⟨by dsimp only;rw[if_neg (by simpa using he)];rfl,bn.aj bh hH⟩
 ·rw[if_neg (fun h=>he h.1)] at o7;rw[o7];have cK:(s1.e==0)=false:=by simpa using he
  refine zQ 34 ?_;refine qD rfl (by simp[he]) ?_;refine zQ 4 ?_;refine ak.ret ⟨rx,_,_,_,rfl,ag (rfl),?_⟩;exact⟨by dsimp only;rw[if_pos he];rfl,bn.aj bh hH⟩
theorem C3 {N k:Nat} {S s0:St} {H:List a_} {x:D} {b:List UInt8} {s:c8} (hbl:b.length≤1099511627776) (bq:s.at_≤b.length) (hH:Has N S s0 (.box k (.mem 0 false (bG x s))::.aC x 1 (byteCells b)::H)):
  ∃d ah,Ev pv 101 [.ptr k 0 0] s0 d ah∧(∃L:List GV,d=uM L∧L.length≤8∧(∀g∈L,g.td=tv g.ct∧g.ct.length≤400)∧((c_ b s).2.e=0→L=(c_ b s).1))∧Has N S ah (.box k (.mem 0 false (bG x (c_ b s).2))::.aC x 1 (byteCells b)::H):=by
 obtain⟨i1,i2,i3,i4⟩:=eQ (m:=8) bq;obtain⟨n1,n2⟩:=uF (m:=8) bq;have Fb:c_ b s=aZ (cD b) (iU b 8 s).toNat (bF b 8 s).2:=(yf _ _ _ _).symm;rw[Fb];clear Fb;have Rv:(ae .rw s0).flr=(ae .rw s0).bs.length:=rfl;refine Ev.gA rfl OA rfl rfl rfl ?_;refine zE ?_;have bn:=hH;have hH:=hH.aW;have bh:(ae .rw s0).bs=s0.bs:=rfl;generalize ae .rw s0=S2 at*;refine zQ 11 ?_;obtain⟨_,st,aB,rfl,hH⟩:=uL hbl bq 8 hH;refine qv aB ?_;refine zQ 2 ?_;generalize iU b 8 s=n at*;generalize(bF b 8 s).2=s2 at*
 obtain⟨m,rfl⟩:∃m:Nat,n=(m:Nat):=⟨n.toNat,by omega⟩
 rw[Int.toNat_natCast];refine zQ 5 ?_;have hH:Has N S2 st (.box k (.mem 0 false (bG x s2))::.aC x 1 (byteCells b)::.deep (fun _=>False) .nul 12 (([]:List GV).map f')::H):=Has.rD [_] [_,_] (hH.LB 12);refine zQ 1 ?_;refine ak.loop (fun mm fr st=>∃(i:Nat) (sr:c8) (y:D) (ks:Nat→Prop) (acc:List GV),fr.clean=⟨10,[.ptr k 0 0,gQ fr 1,gQ fr 2,y,.int .i64 (m:Nat),.int .i64 (i:Nat),gQ fr 6,gQ fr 7,gQ fr 8,gQ fr 9],[]⟩∧Has N S2 st (.box k (.mem 0 false (bG x sr))::.aC x 1 (byteCells b)::.deep ks y 12 (acc.map f')::H)∧(i+mm=m)∧(acc.length=i)∧(sr.at_≤b.length)∧(∀k,y.ref=k+1→S2.bs.length≤k)∧(∀k,ks k→S2.bs.length≤k)∧(aZ (cD b) m s2=(acc++(aZ (cD b) mm sr).1,(aZ (cD b) mm sr).2))∧(∀g∈acc,g.td=tv g.ct∧g.ct.length≤400)) (m) ?_ ?_
 ·exact⟨0,s2,.nul,(fun _=>False),[],rfl,hH,by omega,rfl,i1,(fun k hk=>by simp only[D.ref] at hk;omega),(fun k hk=>hk.elim),rfl,(fun g hg=>by cases hg)⟩
 rintro mm fr st ⟨i,sr,y,ks,acc,hfr,hH,hi,hal,Hx,sE,jt,hI,hval⟩;rw[hfr];clear hfr;generalize gQ fr=ee;clear fr;refine zQ 2 ?_;refine ak.cY 21 (.bool (decide (((i:Nat):Int)<(m:Nat)) &&(sr.e==0))) [] ?_ (fun ff tmp cx=>?_)
 ·refine zQ 4 ?_;refine aa.two 15 rfl (fun bk=>?_) (fun bk=>?_)
  ·refine zQ 6 ?_;refine aa.nil (aJ ?_ ?_)
   ·dsimp only[aF,List.foldl,nth,u2,u1]
    all_goals(first|rfl|simp)
   ·refine zF ?_
    all_goals(simp_all;done)
  ·refine zQ 6 ?_;refine aa.nil (aJ ?_ ?_)
   ·dsimp only[aF,List.foldl,nth,u2,u1]
    all_goals(first|rfl|simp)
   ·refine zF ?_
    all_goals(simp_all;omega)
 refine zG ?_;refine qc (fun hc=>?_) (fun hc=>?_)<;>try simp only[cs] at hc
 ·have hc:i<m∧sr.e=0:=by
   rw[Bool.and_eq_true,decide_eq_true_eq] at hc;exact⟨by omega,by simpa using hc.2⟩
  obtain⟨hlt,he⟩:=hc
  obtain⟨OX,rfl⟩:∃q,mm=q+1:=⟨mm-1,by omega⟩
  have yj:aZ (cD b) (OX+1) sr=((cD b sr).1::(aZ (cD b) OX (cD b sr).2).1,(aZ (cD b) OX (cD b sr).2).2):=by
   conv=>lhs;unfold aZ
   rw[if_neg (by simpa using he)]
  rw[yj] at hI;have sD:=nU (b:=b) Hx;have Af:=jA sD 10;have J2:=nJ (b:=b) Hx;refine zQ 6 ?_;obtain⟨_,st,aB,rfl,hH⟩:=FG hbl Hx hH;refine qv aB ?_;refine aa.go (d:=.agg (cA (db b sr).1 bL .nul)) (st1:=_) rfl rfl rfl (ab rfl _) ?_;refine qa hH fun k6 st Dx hH=>?_;dsimp only[u2,u1,u3,u4,setMany,u5,u6,D.cells,Nat.reduceAdd,bG] at hH;refine qS hH aN fun st hH=>?_;dsimp only[u2,u1,u3,u4,setMany,u5,u6,D.cells,Nat.reduceAdd,bG] at hH;refine zQ 1 ?_;have hH:Has N S2 st (.box k (.mem 0 false (bG x (db b sr).2))::.aC x 1 (byteCells b)::.deep ks y 12 (acc.map f')::.box k6 (.mem 0 false (cA (db b sr).1 bL .nul))::H):=Has.rD [_] [_,_,_] hH;refine zQ 3 ?_;obtain⟨_,st,aB,rfl,hH⟩:=yx hbl sD hH;refine qv aB ?_;refine zQ 1 ?_;refine aa.fe hH rfl (ev rfl) (ev rfl) rfl (by exact rfl) gX (by exact Nat.le_of_ble_eq_true rfl) (.inr rfl) (fun st hH=>?_);dsimp only[u1,u2] at hH;refine zQ 1 ?_;have pI:cD b sr=(⟨(db b sr).1,mC b (db b sr).2,tv (np b (iJ b 10 (db b sr).2)).1,(np b (iJ b 10 (db b sr).2)).1⟩,(np b (iJ b 10 (db b sr).2)).2):=rfl;generalize mb:(db b sr).1=fl at*;generalize X8:mC b (db b sr).2=cp at*;generalize L9:iJ b 10 (db b sr).2=sc at*;have hH:Has N S2 st (.box k (.mem 0 false (bG x sc))::.aC x 1 (byteCells b)::.deep ks y 12 (acc.map f')::.box k6 (.mem 0 false (cA fl cp .nul))::H):=hH;obtain⟨q1,q2,q3,q4⟩:=eQ (m:=400) Af;obtain⟨p1,p2⟩:=uF (m:=400) Af;have S':np b sc=aZ (dX b) (iU b 400 sc).toNat (bF b 400 sc).2:=(yf _ _ _ _).symm;rw[S'] at pI;refine zQ 3 ?_;obtain⟨_,st,aB,rfl,hH⟩:=uL hbl Af 400 hH;refine qv aB ?_;refine zQ 2 ?_;generalize iU b 400 sc=n at*;generalize(bF b 400 sc).2=s3 at*
  obtain⟨m2,rfl⟩:∃m:Nat,n=(m:Nat):=⟨n.toNat,by omega⟩
  rw[Int.toNat_natCast] at pI;clear S';refine zQ 5 ?_;have hH:Has N S2 st (.box k (.mem 0 false (bG x s3))::.aC x 1 (byteCells b)::.deep ks y 12 (acc.map f')::.box k6 (.mem 0 false (cA fl cp .nul))::.aC .nul 11 (([]:List GT).map eN)::H):=Has.rD [_] [_,_,_,_] (hH.gf 11);refine zQ 1 ?_;refine ak.loop (fun mm fr st=>∃(j:Nat) (lq:c8) (td:D) (ct:List GT),fr.clean=⟨10,[.ptr k 0 0,gQ fr 1,gQ fr 2,y,.int .i64 (m:Nat),.int .i64 (i:Nat),.ptr k6 0 0,.int .i64 (m2:Nat),.int .i64 (j:Nat),gQ fr 9],[]⟩∧Has N S2 st (.box k (.mem 0 false (bG x lq))::.aC x 1 (byteCells b)::.deep ks y 12 (acc.map f')::.box k6 (.mem 0 false (cA fl cp td))::.aC td 11 (ct.map eN)::H)∧(j+mm=m2)∧(ct.length=j)∧(lq.at_≤b.length)∧(∀k,td.ref=k+1→S2.bs.length≤k)∧(aZ (dX b) m2 s3=(ct++(aZ (dX b) mm lq).1,(aZ (dX b) mm lq).2))) (m2) ?_ ?_
  ·exact⟨0,s3,.nul,[],rfl,hH,by omega,rfl,q1,(fun k hk=>by simp only[D.ref] at hk;omega),rfl⟩
  rintro mm fr st ⟨j,lq,td,ct,hfr,hH,hj,nM,L_,y4,hT⟩;rw[hfr];clear hfr;generalize gQ fr=ee;clear fr;refine zQ 2 ?_;refine ak.cY 41 (.bool (decide (((j:Nat):Int)<(m2:Nat)) &&(lq.e==0))) [] ?_ (fun ff tmp cx=>?_)
  ·refine zQ 4 ?_;refine aa.two 35 rfl (fun bk=>?_) (fun bk=>?_)
   ·refine zQ 6 ?_;refine aa.nil (aJ ?_ ?_)
    ·dsimp only[aF,List.foldl,nth,u2,u1]
     all_goals(first|rfl|simp)
    ·refine zF ?_
     all_goals(simp_all;done)
   ·refine zQ 6 ?_;refine aa.nil (aJ ?_ ?_)
    ·dsimp only[aF,List.foldl,nth,u2,u1]
     all_goals(first|rfl|simp)
    ·refine zF ?_
     all_goals(simp_all;omega)
  refine zG ?_;refine qc (fun hd=>?_) (fun hd=>?_)<;>try simp only[cs] at hd
  ·have hd:j<m2∧lq.e=0:=by
    rw[Bool.and_eq_true,decide_eq_true_eq] at hd;exact⟨by omega,by simpa using hd.2⟩
   obtain⟨Wa,he3⟩:=hd
   obtain⟨mm,rfl⟩:∃q,mm=q+1:=⟨mm-1,by omega⟩
   have JM:aZ (dX b) (mm+1) lq=((dX b lq).1::(aZ (dX b) mm (dX b lq).2).1,(aZ (dX b) mm (dX b lq).2).2):=by
    conv=>lhs;unfold aZ
    rw[if_neg (by simpa using he3)]
   rw[JM] at hT;have QC:=(dc (b:=b) L_).1;have QB:=vt (b:=b) L_;refine zQ 6 ?_;obtain⟨_,st,aB,rfl,hH⟩:=mc hbl L_ hH;refine qv aB ?_;refine aa.go (d:=.agg (eN ⟨(aX b lq).1,bL⟩)) (st1:=_) rfl rfl rfl (ab rfl _) ?_;refine qa hH fun k9 st ME hH=>?_;dsimp only[u2,u1,u3,u4,setMany,u5,u6,D.cells,Nat.reduceAdd,bG] at hH;refine qS hH aN fun st hH=>?_;dsimp only[u2,u1,u3,u4,setMany,u5,u6,D.cells,Nat.reduceAdd,bG] at hH;refine zQ 1 ?_;have hH:Has N S2 st (.box k (.mem 0 false (bG x (aX b lq).2))::.aC x 1 (byteCells b)::.deep ks y 12 (acc.map f')::.box k6 (.mem 0 false (cA fl cp td))::.aC td 11 (ct.map eN)::.box k9 (.mem 0 false (eN ⟨(aX b lq).1,bL⟩))::H):=Has.rD [_] [_,_,_,_,_] hH;refine zQ 3 ?_;obtain⟨_,st,aB,rfl,hH⟩:=yx hbl QC hH;refine qv aB ?_;refine zQ 1 ?_;refine aa.fe hH rfl (ev rfl) (ev rfl) rfl (by exact rfl) Dz (by exact Nat.le_of_ble_eq_true rfl) (.inr rfl) (fun st hH=>?_);dsimp only[u1,u2] at hH;refine zQ 1 ?_;have hH:Has N S2 st (.box k (.mem 0 false (bG x (dX b lq).2))::.aC x 1 (byteCells b)::.deep ks y 12 (acc.map f')::.box k6 (.mem 0 false (cA fl cp td))::.aC td 11 (ct.map eN)::.box k9 (.mem 0 false (eN (dX b lq).1))::H):=hH;generalize(dX b lq).1=t at*;generalize(dX b lq).2=s5 at*;refine zQ 2 ?_;refine aa.uH hH rfl (ev rfl) gX rfl (ab rfl _) ?_;refine aa.aL (m:=11) (r:=eN t) hH rfl (ev rfl) Dz rfl rfl rfl (ab rfl _) ?_;refine qh (s:=11) (vs:=[_]) hH fun k53 st QQ hH=>?_;dsimp only[u2,u1,u3,u4,setMany,u5,u6,D.cells,Nat.reduceAdd,bG] at hH;refine aa.j6 (s:=11) hH rfl (ev rfl) (ev rfl) Dz (hH.rows aN) rfl rfl rfl rfl rfl rfl rfl ⟨(Nat.le_of_ble_eq_true rfl),(Nat.le_of_ble_eq_true rfl)⟩ (fun _=>(ab rfl _)) (by simp only[List.length_map,List.length_cons,List.length_nil];omega) (.inr rfl) y4 (fun OQ st y4 hH=>?_);dsimp only[u1,u2] at hH;refine zQ 1 ?_;refine hD hH rfl (ev rfl) (ev rfl) (hH.oM Dz) (by exact rfl) tw (by exact Nat.le_of_ble_eq_true rfl) (by omega) (fun st hH=>?_);dsimp only[u1,u2] at hH;refine zQ 1 ?_
   have hH:Has N S2 st (.box k (.mem 0 false (bG x s5))::.aC x 1 (byteCells b)::.deep ks y 12 (acc.map f')::.box k6 (.mem 0 false (cA fl cp OQ))::.aC OQ 11 ((ct++[t]).map eN)::H):=by
    rw[List.map_append];exact(hH.drop 1).erase 5
   refine zQ 5 ?_;exact⟨mm,by omega,⟨j+1,s5,OQ,ct++[t],rfl,hH,by omega,(by rw[List.length_append];simp only[List.length_cons,List.length_nil];omega),QB,y4,(by rw[hT,List.append_assoc];rfl)⟩⟩
  ·refine zQ 1 ?_
   have tI:aZ (dX b) mm lq=([],lq):=by
    by_cases he:lq.e=0
    ·have:mm=0:=by
      rcases Nat.eq_zero_or_pos mm with h|h
      ·exact h
      ·exfalso
       have h1:decide (((j:Nat):Int)<(m2:Nat))=true:=by rw[decide_eq_true_eq];omega
       rw[h1,he] at hd;simp at hd
     rw[this];rfl
    ·exact dQ _ he mm
   rw[tI,List.append_nil] at hT;rw[hT] at pI;dsimp only at pI;have TJ:acc.length≤8:=by omega
   refine zQ 2 ?_;refine aa.aL (m:=12) (r:=cA fl cp td) hH rfl (ev rfl) gX rfl rfl rfl (ab rfl _) ?_;refine qh (s:=12) (vs:=[_]) hH fun k58 st V1 hH=>?_;dsimp only[u2,u1,u3,u4,setMany,u5,u6,D.cells,Nat.reduceAdd,bG] at hH;obtain⟨hH,Rj⟩:=hH.Gr (i:=5) (j:=3) (by decide) Dz gX (yy _);dsimp only[u1,u2] at hH;refine wv hH rfl rfl rfl gX (hH.rows aN) (.cons (Kz (dn:=fl) (f:=cp) Rj) .nil) rfl rfl rfl rfl rfl rfl rfl ⟨(Nat.le_of_ble_eq_true rfl),(Nat.le_of_ble_eq_true rfl)⟩ (fun _=>(ab rfl _)) (by rw[List.length_map];show _+1≤_;omega) (.inl (Nat.le_of_eq Rv)) sE (fun Sx st sE hH=>?_);dsimp only[u1,u2] at hH;refine zQ 2 ?_
   have hH:Has N S2 st (.box k (.mem 0 false (bG x lq))::.aC x 1 (byteCells b)::.deep (fun k=>ks k∨td.ref=k+1) Sx 12 ((acc++[(⟨fl,cp,tv ct,ct⟩:GV)]).map f')::H):=by
    rw[List.map_append];exact((hH.drop 1).erase 3).erase 3
   refine zQ 5 ?_;rw[pI] at hI J2;dsimp only at hI J2;refine⟨OX,by omega,⟨i+1,lq,Sx,(fun k=>ks k∨td.ref=k+1),acc++[(⟨fl,cp,tv ct,ct⟩:GV)],rfl,hH,by omega,(by rw[List.length_append];simp only[List.length_cons,List.length_nil];omega),J2,sE,(fun k hk=>by rcases hk with h|h;exact jt k h;exact y4 k h),(by rw[hI,List.append_assoc];rfl),?_⟩⟩;intro g2 cu
   rcases List.mem_append.1 cu with h|h
   ·exact hval g2 h
   ·simp only[List.mem_cons,List.not_mem_nil,or_false] at h;rw[h];exact⟨rfl,by show ct.length≤400;omega⟩
 ·refine zQ 1 ?_
  have tI:aZ (cD b) mm sr=([],sr):=by
   by_cases he:sr.e=0
   ·have:mm=0:=by
     rcases Nat.eq_zero_or_pos mm with h|h
     ·exact h
     ·exfalso
      have h1:decide (((i:Nat):Int)<(m:Nat))=true:=by rw[decide_eq_true_eq];omega
      rw[h1,he] at hc;simp at hc
    rw[this];rfl
   ·exact dQ _ he mm
  rw[tI,List.append_nil] at hI;rw[hI];refine zQ 5 ?_;have hfz:=wo hH (L:=s0.bs.length) (n:=15) fm (fun k hk=>by rw[←bh];exact sE k hk) (fun k hk=>by rw[←bh];exact jt k hk) (by decide);refine ak.ret ⟨rx,_,_,_,rfl,ag hfz,?_⟩;exact⟨⟨acc,rfl,by omega,hval,fun _=>rfl⟩,bn.aj bh (hH.erase 2)⟩
end Go.Proofs.YtecjacicdpejaaaGreat
