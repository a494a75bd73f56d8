/-
 A machine's list is expanded.
-/
import Derived.Test.YtbdnabmmlbiomaaXGQp
import Derived.Test.YtbdnabmmlbiomaaXGQh
import Derived.Test.YtbdnabmmlbiomaaXGUb
set_option maxRecDepth 100000
set_option maxHeartbeats 4000000
set_option linter.unusedSimpArgs false
set_option linter.unusedVariables false
namespace Go.Proofs.Ytbdnabmmlbiomaa
open Go.V Go
def b8 (fr:Go.V.Fr) (k:Nat):Go.V.D:=Go.V.nth .bp fr.loc k
structure VL where
 dn:Bool
 bB:wR
 td:D
 eH:List iB
def fI (l:VL):List D:=bz l.dn l.bB l.td
def o4 (l:VL):bC:=.aJ l.td 11 (l.eH.map a7)
theorem zu (A:List bC) {n:Nat} (hn:A.length=n) {L:List VL} {i:Nat} {l:VL} (h:L[i]?=some l) {H:List bC}:(A++(L.map o4++H))[n+i]?=some (o4 l):=by
 have hi:=bt h;rw[List.getElem?_append_right (by omega),List.getElem?_append_left (by simp;omega),hn,Nat.add_sub_cancel_left,List.getElem?_map,h];rfl
theorem ve {L:List VL} {i:Nat} {l:VL} (h:L[i]?=some l):(L.map fI)[i]?=some (fI l):=by rw[List.getElem?_map,h];rfl
theorem rp {l:List iB} {i:Nat} {q:iB} (h:l[i]?=some q):(l.map a7)[i]?=some (a7 q):=by rw[List.getElem?_map,h];rfl
theorem rX {N:Nat} {S st:St} {H:List bC} {j:Nat} {x:D} {s:Nat} {es:List (List D)} (h:Has N S st H) (hj:H[j]?=some (.aJ x s es)):x.ref≤st.bs.length:=by
 rcases Nat.eq_zero_or_pos x.ref with h0|h0
 ·omega
 ·have:=h.uf hj (k:=x.ref-1) (by show x.ref=x.ref-1+1;omega);omega
def MH (A:List bC) (N:Nat) (S st:St) (ks kv:Nat) (p:Pg) (pl:Nat) (ld:D) (L:List VL) (H:List bC):Prop:=
 ∃pd qd P Q sn,Has N S st (A++(.box kv (.mem 0 false [p.cd,p.sd,.int .i64 (pl:Nat),ld,.ptr ks 0 0])::.box ks (.mem 0 false [pd,qd])::.aJ pd 1 (P.map fg)::.aJ qd 2 (Q.map lY)::.aJ ld 12 (L.map fI)::(L.map o4++H)))∧cQ P Q sn∧sn.length=p.code.length
theorem MH.push (A B:List bC) {N:Nat} {S st:St} {ks kv:Nat} {p:Pg} {pl:Nat} {ld:D} {L:List VL} {H:List bC} (h:MH (A++B) N S st ks kv p pl ld L H):MH B N S st ks kv p pl ld L (A++H):=by
 obtain⟨pd,qd,P,Q,sn,hH,a_,gY⟩:=h;refine⟨pd,qd,P,Q,sn,?_,a_,gY⟩;have:=Has.kK (H:=H) A (B++(.box kv (.mem 0 false [p.cd,p.sd,.int .i64 (pl:Nat),ld,.ptr ks 0 0])::.box ks (.mem 0 false [pd,qd])::.aJ pd 1 (P.map fg)::.aJ qd 2 (Q.map lY)::.aJ ld 12 (L.map fI)::L.map o4)) (by simpa only[List.append_assoc,List.cons_append] using hH)
 simpa only[List.append_assoc,List.cons_append] using this
theorem MH.pull (A B:List bC) {N:Nat} {S st:St} {ks kv:Nat} {p:Pg} {pl:Nat} {ld:D} {L:List VL} {H:List bC} (h:MH B N S st ks kv p pl ld L (A++H)):MH (A++B) N S st ks kv p pl ld L H:=by
 obtain⟨pd,qd,P,Q,sn,hH,a_,gY⟩:=h;refine⟨pd,qd,P,Q,sn,?_,a_,gY⟩;have:=Has.kK (H:=H) (B++(.box kv (.mem 0 false [p.cd,p.sd,.int .i64 (pl:Nat),ld,.ptr ks 0 0])::.box ks (.mem 0 false [pd,qd])::.aJ pd 1 (P.map fg)::.aJ qd 2 (Q.map lY)::.aJ ld 12 (L.map fI)::L.map o4)) A (by simpa only[List.append_assoc,List.cons_append] using hH)
 simpa only[List.append_assoc,List.cons_append] using this
def oK (code:List aG) (pl:Nat) (e:Bool):List iB→Wk→Wk
 |[],w=>w
 |t::ts,w=>if(cA code pl e (code.length+1) w t).2=true then(cA code pl e (code.length+1) w t).1 else oK code pl e ts (cA code pl e (code.length+1) w t).1
def mM (n:Nat) (dn:Bool) (bB:wR):Wk:=⟨List.replicate n false,dn,bB,[]⟩
theorem oI (code:List aG) (pl:Nat) (e:Bool):∀(l:List iB) (w:Wk),Good code w (oK code pl e l w)
 |[],w=>.refl
 |t::ts,w=>by
  unfold oK
  split
  ·exact cC ..
  ·exact(cC ..).trans (oI code pl e ts _)
theorem qL {N ks kv:Nat} {S s0:St} {H:List bC} {p:Pg} {pl:Nat} {ld:D} {L:List VL} {i:Nat} {l:VL} {e:Bool} (hF:S.flr≤N) (hp:p.ok) (hR:cj p) (jf:pl≤1099511627776) (hl:L[i]?=some l) (F1:∀t∈l.eH,t.pc<p.code.length) (pg:l.eH.length≤1048576) (hM:MH [] N S s0 ks kv p pl ld L H):
  ∃r ah,Ev pv 29 [.ptr kv 0 0,.int .i64 (i:Nat),.bool e] s0 r ah∧∃rd,r=.tup [.agg (bz (oK p.code pl e l.eH (mM p.code.length l.dn l.bB)).dn (oK p.code pl e l.eH (mM p.code.length l.dn l.bB)).bB .nul),rd]∧MH [.aJ rd 11 ((oK p.code pl e l.eH (mM p.code.length l.dn l.bB)).rdy.map a7)] N S ah ks kv p pl ld L H:=by
 obtain⟨pd,qd,P,Q,sn,hH,a_,gY⟩:=hM;have hcl:=hR.cl;have gD:=ve hl;have hil:=bt hl;generalize hW:oK p.code pl e l.eH (mM p.code.length l.dn l.bB)=W at*;obtain⟨dn,bB,td,eH⟩:=l;simp only at hW F1 pg;dsimp only[u4] at hH;refine Ev.iY rfl Q8 rfl rfl rfl ?_;dsimp only[u3,u4,List.length,Nat.reduceSub,Nat.reduceAdd,w1,w2];change af _ _ _ _ s0 _;refine qq<|qj fun K hK=>qa hH fun k6 st Ke hH=>?_;refine qm ?_;refine qe hK<|qq<|qj fun K hK=>qm ?_;refine qg ?_;refine qp (o:=3) ?_;refine ql hH b5 ?_;refine qm ?_;refine qi hH sR fun R4 MG=>?_;refine ab.rH hH rfl (ev rfl) (by assumption) (by exact sR) (by assumption) rfl (by dsimp only[Fr.put,u1,u2]<;>rfl) ?_;refine qa hH fun k8 st NY hH=>?_;refine qS hH ay fun st hH=>?_;dsimp only[u2,u1,u3,u4,setMany,u5,u6,D.cells,Nat.reduceAdd,aM,a7,bz,aT,fI] at hH;refine qe hK<|qq<|qj fun K hK=>qp (o:=0) ?_;refine ql hH ay ?_;refine qp (o:=1) ?_;refine ab.bN (m:=10) hH rfl (ev rfl) (by exact ay) (by dsimp only[List.drop_succ_cons,List.drop_zero,List.take_succ_cons,List.take_zero,aM,a7,bz,aT,fI]<;>rfl) rfl rfl (by dsimp only[Fr.put,u1,u2]<;>rfl) ?_;refine ab.go (d:=.agg (bz dn bB .nul)) (st1:=_) rfl rfl rfl (by dsimp only[Fr.put,u1,u2]<;>rfl) ?_;refine qa hH fun k9 st UM hH=>?_;refine qS hH ay fun st hH=>?_;dsimp only[u2,u1,u3,u4,setMany,u5,u6,D.cells,Nat.reduceAdd,aM,a7,bz,aT,fI] at hH;refine qe hK<|qq<|qj fun K hK=>qm ?_;refine ab.fe (qs:=[(0,_),(2,_)]) rfl rfl rfl rfl ⟨rfl,(ev rfl),(by rfl),rfl,(ev rfl),(by rfl),trivial⟩ (by intro q hq;simp only[List.mem_cons,List.not_mem_nil,or_false] at hq;rcases hq with rfl|rfl<;>exact⟨rfl,by exact Nat.le_of_ble_eq_true rfl⟩) (by show List.foldl _ [_,_,_] _=_;dsimp only[List.foldl_cons,List.foldl_nil,u2,u1]<;>rfl) (by dsimp only[Fr.put,u1,u2]<;>rfl) ?_;refine qb hH fun k27 st U5 hH=>?_;refine qm ?_;refine qe hK ?_;have ck:=hH;refine qq<|qj fun K hK=>qm ?_;refine qg ?_;refine qp (o:=4) ?_;refine ql hH gw ?_;obtain⟨_,st,aH,rfl,pd,qd,P,Q,hH,a_⟩:=mq [_,_,_,_,_] hF a_ hH;dsimp only[u3,u4] at hH;refine qv aH ?_;refine qe hK ?_;clear ck;rw[gY] at a_;have hH:=Has.kK [_,_,_,_] [_] hH;have hH:=Has.kK [_,_,_,_,_] [_,_,_] hH;have hH:=Has.kK [_,_,_] [_,_,_] hH;have hH:=Has.kK [_] [_,_,_] (hH.eo 11);dsimp only[u3,u4] at hH;have OY:=hH.rows (zu [_,_,_,_,_,_,_,_,_,_] rfl hl);have Sv:=oI p.code pl e eH (mM p.code.length dn bB);refine qq<|qq<|qj fun K hK=>qp (o:=11) ?_;refine ql hH RB ?_;refine ab.Jv rfl (ev rfl) OY rfl (by dsimp only[Fr.put,u1,u2]<;>rfl) ?_;simp only[List.length_map];refine qm ?_;refine qe hK<|af.block<|af.loop (fun mm fr st=>∃(j:Nat) (w:Wk) (rest:List iB) (rd pd qd:D) (P Q:List Nat),fr.clean=⟨37,[.ptr kv 0 0,.int .i64 (i:Nat),.bool e,b8 fr 3,b8 fr 4,b8 fr 5,.ptr k6 0 0,.nul,.ptr k8 0 0,.ptr k9 0 0,.ptr k27 0 0,b8 fr 11,b8 fr 12,b8 fr 13,b8 fr 14,b8 fr 15,b8 fr 16,b8 fr 17,b8 fr 18,b8 fr 19,b8 fr 20,b8 fr 21,b8 fr 22,b8 fr 23,b8 fr 24,b8 fr 25,b8 fr 26,b8 fr 27,b8 fr 28,b8 fr 29,b8 fr 30,b8 fr 31,b8 fr 32,b8 fr 33,td,.int .i64 (eH.length:Nat),.int .i64 (j:Nat)],[]⟩∧Has N S st (.box kv (.mem 0 false [p.cd,p.sd,.int .i64 (pl:Nat),ld,.ptr ks 0 0])::.box k27 (.mem 0 false [.ptr k9 0 0,rd,.bool e])::.box k9 (.mem 0 false (bz w.dn w.bB .nul))::.aJ rd 11 (w.rdy.map a7)::.box ks (.mem 0 false [pd,qd])::.aJ pd 1 (P.map fg)::.aJ qd 2 (Q.map lY)::.box k8 (.mem 0 false (bz dn bB td))::.box k6 (.mem 0 false (bz false ny .nul))::.aJ ld 12 (L.map fI)::(L.map o4++H))∧(j+mm=eH.length)∧(rest=eH.drop j)∧(oK p.code pl e rest w=W)∧(w.seen.length=p.code.length)∧(w.rdy.length+w.seen.count false≤1048576)∧(cQ P Q w.seen)) (eH.length) ?_ ?_
 ·exact⟨0,mM p.code.length dn bB,eH,.nul,_,_,_,_,rfl,hH,by omega,rfl,hW,by simp[mM],by(have:=List.count_le_length (a:=false) (l:=(mM p.code.length dn bB).seen);simp[mM] at this⊢;omega),a_⟩
 rintro mm fr st ⟨j,w,rest,rd,pd,qd,P,Q,hfr,hH,hj,kT,hex,iV,va,a_⟩;rw[hfr];clear hfr;generalize b8 fr=ee;clear fr;refine qq<|qj fun K hK=>qg ?_;refine qe hK ?_;have OY:=hH.rows (zu [_,_,_,_,_,_,_,_,_,_] rfl hl);refine qq ?_;refine af.cond (by rfl) (fun hlt=>?_) (fun hlt=>?_)<;>try simp only[decide_eq_true_eq,decide_eq_false_iff_not] at hlt
 ·refine af.skip ?_;have jW:j<eH.length:=by omega
  obtain⟨t,ht⟩:∃t,eH[j]?=some t:=⟨eH[j]'jW,List.getElem?_eq_getElem _⟩
  have Mq:=rp ht;have OM:=F1 t (List.mem_of_getElem? ht)
  have A4:rest=t::eH.drop (j+1):=by
   rw[kT,List.drop_eq_getElem_cons jW]
   congr 1
   exact Option.some.inj ((List.getElem?_eq_getElem _).symm.trans ht)
  have A5:=List.count_le_length (a:=false) (l:=w.seen);have PG:=cC p.code pl e (p.code.length+1) w t;rw[A4] at hex;have hex:(if(cA p.code pl e (p.code.length+1) w t).2=true then(cA p.code pl e (p.code.length+1) w t).1 else oK p.code pl e (eH.drop (j+1)) (cA p.code pl e (p.code.length+1) w t).1)=W:=hex;refine qq<|af.block<|qq<|qj fun K hK=>ab.LQ rfl (ev rfl) (ev rfl) OY rfl rfl Mq (fun _=>(ag rfl _)) (fun Tk Pc=>?_);refine qR ?_;refine qa hH fun k12 st U_ hH=>?_;dsimp only[u2,u1,u3,u4,setMany,u5,u6,D.cells,Nat.reduceAdd,aM,a7,bz,aT,fI] at hH;refine qS hH ay fun st hH=>?_;dsimp only[u2,u1,u3,u4,setMany,u5,u6,D.cells,Nat.reduceAdd,aM,a7,bz,aT,fI] at hH;refine qe hK<|qq<|qj fun K hK=>qm ?_;refine qm ?_;refine ab.bN (m:=11) hH rfl (ev rfl) (by exact ay) (by dsimp only[List.drop_succ_cons,List.drop_zero,List.take_succ_cons,List.take_zero,aM,a7,bz,aT,fI]<;>rfl) rfl rfl (ag rfl _) ?_;have hH:=hH.drop 1;obtain⟨_,st,aH,rfl,hT⟩:=FR (ks:=ks) (kv:=kv) (kw:=k27) (kl:=k9) (S:=S) (H:=H) (ld:=ld) (e:=e) hF hp hR jf (p.code.length+1) w t _ _ OM iV (by omega) va ⟨rd,pd,qd,P,Q,hH,a_⟩;refine qv aH ?_;refine qe hK ?_;generalize cA p.code pl e (p.code.length+1) w t=R1 at*;obtain⟨w1,b1⟩:=R1;obtain⟨cS,bf,bF,iP⟩:=PG;simp only at cS bf bF iP hT hex;obtain⟨rd,pd,qd,P,Q,hH,a_⟩:=hT;have AJ:w1.seen.length=p.code.length:=cS.trans iV
  cases b1 with
  |true=>
   rw[if_pos rfl] at hex;subst hex;refine qB ?_;refine af.exit ?_;have hH:=Has.kK [_,_,_,_,_,_,_] [_,_] hH;dsimp only[u3,u4] at hH;have zn:=hH;have Fg:=rX hH sR;have Ff:=hH.uf gw (k:=k9) rfl;change af _ _ _ _ _ _;refine qq ?_;generalize hK:bW _ _ _ _=K;refine af.zQ rfl ?_;refine et.cons ?_;refine ab.bN (m:=12) hH rfl (ev rfl) (by exact gw) (by dsimp only[List.drop_succ_cons,List.drop_zero,List.take_succ_cons,List.take_zero,aM,a7,bz,aT,fI]<;>rfl) rfl rfl (ag rfl _) ?_;refine ab.nil ⟨rfl,?_⟩;refine et.cons ?_;refine qm ?_;refine ab.nil ⟨rfl,?_⟩;refine et.cons ?_;refine qg ?_;refine ab.nil ⟨rfl,?_⟩;refine et.cons ?_;refine qp (o:=1) ?_;refine ab.nil ⟨rfl,?_⟩;refine et.cons ?_;refine ql hH gG ?_;refine ab.nil ⟨rfl,?_⟩;refine et.cons ?_;refine qS hH b5 fun st hH=>?_;dsimp only[u2,u1,u3,u4,setMany,u5,u6,D.cells,Nat.reduceAdd,aM,a7,bz,aT,fI] at hH;refine ab.nil ⟨by exact Bool.and_eq_true_iff.2 ⟨j0 rfl rfl rfl (zn.at gG) (hH.at gG) (zn.at gG) (by simp only[refs,D.ref];omega),rfl⟩,?_⟩;refine et.cons ?_;refine qm ?_;refine ab.nil ⟨rfl,?_⟩;refine et.nil ?_;subst hK;refine af.ret ⟨rx,_,_,_,hH.nL rfl b5 rfl rfl,rfl,rd,rfl,pd,qd,P,Q,_,?_,a_,AJ⟩;exact((Has.kK [_,_,_] [_] (hH.drop 2)).erase 2).erase 2
  |false=>
   rw[if_neg (by decide)] at hex;refine qC ?_;refine af.skip<|qj fun K hK=>qA ?_;refine qm ?_;refine qe hK ?_;exact⟨mm-1,by omega,⟨j+1,w1,eH.drop (j+1),rd,pd,qd,P,Q,rfl,hH,by omega,rfl,hex,AJ,by omega,a_⟩⟩
 ·refine af.exit ?_;have AU:rest=[]:=by rw[kT,List.drop_eq_nil_iff];omega
  subst AU;have hex:w=W:=hex;subst hex;have hH:=Has.kK [_,_,_,_,_,_,_] [_,_] hH;dsimp only[u3,u4] at hH;have zn:=hH;have Fg:=rX hH sR;have Ff:=hH.uf gw (k:=k9) rfl;change af _ _ _ _ _ _;refine qq ?_;generalize hK:bW _ _ _ _=K;refine af.zQ rfl ?_;refine et.cons ?_;refine ab.bN (m:=12) hH rfl (ev rfl) (by exact gw) (by dsimp only[List.drop_succ_cons,List.drop_zero,List.take_succ_cons,List.take_zero,aM,a7,bz,aT,fI]<;>rfl) rfl rfl (ag rfl _) ?_;refine ab.nil ⟨rfl,?_⟩;refine et.cons ?_;refine qm ?_;refine ab.nil ⟨rfl,?_⟩;refine et.cons ?_;refine qg ?_;refine ab.nil ⟨rfl,?_⟩;refine et.cons ?_;refine qp (o:=1) ?_;refine ab.nil ⟨rfl,?_⟩;refine et.cons ?_;refine ql hH gG ?_;refine ab.nil ⟨rfl,?_⟩;refine et.cons ?_;refine qS hH b5 fun st hH=>?_;dsimp only[u2,u1,u3,u4,setMany,u5,u6,D.cells,Nat.reduceAdd,aM,a7,bz,aT,fI] at hH;refine ab.nil ⟨by exact Bool.and_eq_true_iff.2 ⟨j0 rfl rfl rfl (zn.at gG) (hH.at gG) (zn.at gG) (by simp only[refs,D.ref];omega),rfl⟩,?_⟩;refine et.cons ?_;refine qm ?_;refine ab.nil ⟨rfl,?_⟩;refine et.nil ?_;subst hK;refine af.ret ⟨rx,_,_,_,hH.nL rfl b5 rfl rfl,rfl,rd,rfl,pd,qd,P,Q,_,?_,a_,iV⟩;exact((Has.kK [_,_,_] [_] (hH.drop 2)).erase 2).erase 2
def bn (fr:Go.V.Fr) (k:Nat):Go.V.D:=Go.V.nth .bp fr.loc k
def gZ (l:List iB) (k:Nat):Bool:=l.any fun x=>x.pc==k
def px (l:List iB) (t:iB):List iB:=if gZ l t.pc=true then l else l++[t]
def yk (code:List aG) (pc:Nat):List Rg:=match code[pc]? with
 |some i=>i.rs
 |none=>[]
def fS (code:List aG) (r:Int):List iB→List iB→List iB
 |[],a=>a
 |t::ts,a=>fS code r ts (if ku (yk code t.pc) r=true then px a ⟨t.pc+1,t.c⟩ else a)
structure PL where
 dn:Bool
 bB:wR
 eH:List iB
def eW (code:List aG) (pl start:Nat) (r:Int) (l:PL):PL:=
 ⟨(oK code pl false l.eH (mM code.length l.dn l.bB)).dn,(oK code pl false l.eH (mM code.length l.dn l.bB)).bB,
  if(oK code pl false l.eH (mM code.length l.dn l.bB)).dn=true then fS code r (oK code pl false l.eH (mM code.length l.dn l.bB)).rdy []
  else px (fS code r (oK code pl false l.eH (mM code.length l.dn l.bB)).rdy []) ⟨start,dW⟩⟩
theorem we (l:List iB) (t:iB) (k:Nat):gZ (l++[t]) k=(gZ l k||t.pc==k):=by
 unfold gZ;rw[List.any_append];simp
theorem u9 (l:List iB) (t:iB):(px l t).length≤l.length+1:=by
 unfold px;split
 ·omega
 ·simp
theorem u7 {l:List iB} {t x:iB} (h:x∈px l t):x∈l∨x=t:=by
 unfold px at h;split at h
 ·exact .inl h
 ·rcases List.mem_append.1 h with h|h
  ·exact .inl h
  ·exact .inr (by simpa using h)
theorem nX {code:List aG} {r:Int}:∀(l a:List iB),(fS code r l a).length≤l.length+a.length∧∀x∈fS code r l a,x∈a∨∃t∈l,x.pc=t.pc+1
 |[],a=>⟨by simp[fS],fun x h=>.inl h⟩
 |t::ts,a=>by
  unfold fS
  split
  ·obtain⟨h1,h2⟩:=nX (code:=code) (r:=r) ts (px a ⟨t.pc+1,t.c⟩);have:=u9 a ⟨t.pc+1,t.c⟩;refine⟨by simp only[List.length_cons];omega,fun x hx=>?_⟩
   rcases h2 x hx with h|⟨y,hy,he⟩
   ·rcases u7 h with h|h
    ·exact .inl h
    ·exact .inr ⟨t,List.mem_cons_self ..,by rw[h]⟩
   ·exact .inr ⟨y,List.mem_cons_of_mem _ hy,he⟩
  ·obtain⟨h1,h2⟩:=nX (code:=code) (r:=r) ts a;refine⟨by simp only[List.length_cons];omega,fun x hx=>?_⟩
   rcases h2 x hx with h|⟨y,hy,he⟩
   ·exact .inl h
   ·exact .inr ⟨y,List.mem_cons_of_mem _ hy,he⟩
def PL.ok (n:Nat) (l:PL):Prop:=(∀t∈l.eH,t.pc<n)∧l.eH.length≤1000
theorem py {code:List aG} {pl:Nat} {e:Bool} {l:List iB} {dn:Bool} {bB:wR}:(oK code pl e l (mM code.length dn bB)).rdy.length≤code.length∧∀t∈(oK code pl e l (mM code.length dn bB)).rdy,∃i,code[t.pc]?=some i∧i.op=1:=by
 obtain⟨_,_,h3,h4⟩:=oI code pl e l (mM code.length dn bB);have:=List.count_le_length (a:=false) (l:=(mM code.length dn bB).seen);simp only[mM,List.length_replicate,List.length_nil] at h3 this;refine⟨by simp only[mM];omega,fun t ht=>?_⟩
 rcases h4 t ht with h|h
 ·simp[mM] at h
 ·exact h
theorem tA {p:Pg} (hR:cj p) {t:iB} (h:∃i,p.code[t.pc]?=some i∧i.op=1):t.pc+1<p.code.length:=by
 obtain⟨i,hi,h1⟩:=h;have:=kI (hR.sh t.pc i hi);omega
theorem zD {p:Pg} (hR:cj p) {pl start:Nat} {r:Int} {l:PL} (hs:start<p.code.length):(eW p.code pl start r l).ok p.code.length:=by
 obtain⟨h1,h2⟩:=py (code:=p.code) (pl:=pl) (e:=false) (l:=l.eH) (dn:=l.dn) (bB:=l.bB);have hcl:=hR.cl;unfold eW PL.ok;generalize oK p.code pl false l.eH (mM p.code.length l.dn l.bB)=w at*;obtain⟨h3,h4⟩:=nX (code:=p.code) (r:=r) w.rdy []
 have h5:∀x∈fS p.code r w.rdy [],x.pc<p.code.length:=fun x hx=>by
  rcases h4 x hx with h|⟨t,ht,he⟩
  ·cases h
  ·have:=tA hR (h2 t ht);omega
 simp only[List.length_nil] at h3;simp only
 split
 ·exact⟨h5,by omega⟩
 ·refine⟨fun x hx=>?_,?_⟩
  ·rcases u7 hx with h|h
   ·exact h5 x h
   ·rw[h];exact hs
  ·have:=u9 (fS p.code r w.rdy []) ⟨start,dW⟩;omega
theorem zC (mF:∀st,Ev pv 46 [] st (.agg (aT dW)) st) {N ks kv:Nat} {S s0:St} {H:List bC} {p:Pg} {pl:Nat} {ld:D} {L:List VL} {i start:Nat} {l:VL} {r:Int} (hF:S.flr≤N) (hp:p.ok) (hR:cj p) (jf:pl≤1099511627776) (hl:L[i]?=some l) (JX:p.az[i]?=some ((start:Nat):Int)) (F1:(⟨l.dn,l.bB,l.eH⟩:PL).ok p.code.length) (hM:MH [] N S s0 ks kv p pl ld L H):
  ∃d ah,Ev pv 31 [.ptr kv 0 0,.int .i64 (i:Nat),.int .i32 r] s0 d ah∧∃td,d=.agg (bz (eW p.code pl start r ⟨l.dn,l.bB,l.eH⟩).dn (eW p.code pl start r ⟨l.dn,l.bB,l.eH⟩).bB td)∧MH [.aJ td 11 ((eW p.code pl start r ⟨l.dn,l.bB,l.eH⟩).eH.map a7)] N S ah ks kv p pl ld L H:=by
 have hcl:=hR.cl;have hc:=hp.c.arg N S;have hs:=hp.s.arg N S;have hlen:=hp.cl;have JU:start<p.code.length:=by have:=(hR.st _ (List.mem_of_getElem? JX)).2;omega
 have NS:=eO JX;obtain⟨Mk,OO⟩:=F1;simp only at Mk OO;obtain⟨hb1,hb2⟩:=py (code:=p.code) (pl:=pl) (e:=false) (l:=l.eH) (dn:=l.dn) (bB:=l.bB);obtain⟨pd,qd,P,Q,sn,hH,a_,gY⟩:=hM;dsimp only[u4] at hH;unfold eW;simp only;refine Ev.iY rfl Q6 rfl rfl rfl ?_;dsimp only[u3,u4,List.length,Nat.reduceSub,Nat.reduceAdd,w1,w2];change af _ _ _ _ s0 _;refine qq<|qj fun K hK=>qa hH fun k6 st Ke hH=>?_;refine qe hK ?_;obtain⟨_,st1,aH,rd,rfl,hM⟩:=qL (e:=false) hF hp hR jf hl Mk (by omega) (MH.push [_] [] ⟨pd,qd,P,Q,sn,hH,a_,gY⟩);clear a_ gY;have hM:=MH.pull [_] [_] hM;generalize oK p.code pl false l.eH (mM p.code.length l.dn l.bB)=W at*;obtain⟨pd,qd,P,Q,sn,Ky,a_,gY⟩:=hM;dsimp only[u3,u4] at Ky;refine qq<|qj fun K hK=>qm ?_;refine qm ?_;have hH:=Ky;refine qv aH ?_;refine qm ?_;refine qg ?_;refine qg ?_;refine qa hH fun k7 st Sq hH=>?_;refine qS hH ay fun st hH=>?_;dsimp only[u2,u1,u3,u4,setMany,u5,u6,D.cells,Nat.reduceAdd,aM,a7,bz,aT,fI] at hH;refine qm ?_;refine qe hK ?_;clear Ky;refine qq<|qj fun K hK=>qm ?_;refine qg ?_;refine qp (o:=4) ?_;refine ql hH gG ?_;obtain⟨_,st,aH,rfl,pd,qd,P,Q,hH,a_⟩:=mq [_,_,_,_] hF a_ hH;dsimp only[u3,u4] at hH;refine qv aH ?_;refine qe hK ?_;rw[gY] at a_;refine qq<|qq<|qj fun K hK=>qm ?_;refine qn ?_ (hR:=hH.rows eV);simp only[List.length_map];refine qm ?_;refine qe hK ?_;have hH:=Has.kK [_] [_] (hH.eo 11);dsimp only[u3,u4] at hH
 obtain⟨A,hA⟩:∃A,fS p.code r W.rdy []=A:=⟨_,rfl⟩
 rw[hA];refine af.block<|af.loop (fun mm fr st=>∃(j:Nat) (acc rest:List iB) (td pd qd:D) (P Q:List Nat) (sn:List Bool),fr.clean=⟨25,[.ptr kv 0 0,.int .i64 (i:Nat),.int .i32 r,bn fr 3,bn fr 4,bn fr 5,.ptr k6 0 0,.ptr k7 0 0,rd,bn fr 9,bn fr 10,bn fr 11,bn fr 12,bn fr 13,bn fr 14,bn fr 15,bn fr 16,bn fr 17,bn fr 18,bn fr 19,bn fr 20,bn fr 21,rd,.int .i64 (W.rdy.length:Nat),.int .i64 (j:Nat)],[]⟩∧Has N S st (.box k7 (.mem 0 false (bz W.dn W.bB td))::.aJ td 11 (acc.map a7)::.box k6 (.mem 0 false (bz false ny .nul))::.aJ rd 11 (W.rdy.map a7)::.box kv (.mem 0 false [p.cd,p.sd,.int .i64 (pl:Nat),ld,.ptr ks 0 0])::.box ks (.mem 0 false [pd,qd])::.aJ pd 1 (P.map fg)::.aJ qd 2 (Q.map lY)::.aJ ld 12 (L.map fI)::(L.map o4++H))∧(j+mm=W.rdy.length)∧(rest=W.rdy.drop j)∧(fS p.code r rest acc=A)∧(acc.length≤j)∧(cQ P Q sn)∧(sn.length=p.code.length)∧(∀k,k<p.code.length→sn[k]?=some (gZ acc k))) (W.rdy.length) ?_ ?_
 ·refine⟨0,[],W.rdy,.nul,_,_,_,_,_,rfl,hH,by omega,rfl,hA,by simp,a_,by simp,(fun k hk=>by rw[List.getElem?_replicate,if_pos hk];rfl)⟩
 rintro mm fr st ⟨j,acc,rest,td,pd,qd,P,Q,sn,hfr,hH,hj,kT,hex,hal,a_,gY,sX⟩;rw[hfr];clear hfr;generalize bn fr=ee;clear fr;refine qq<|qj fun K hK=>qg ?_;refine qe hK<|qq ?_;refine af.cond (by rfl) (fun hlt=>?_) (fun hlt=>?_)<;>try simp only[decide_eq_true_eq,decide_eq_false_iff_not] at hlt
 ·refine af.skip ?_;have jW:j<W.rdy.length:=by omega
  obtain⟨t,ht⟩:∃t,W.rdy[j]?=some t:=⟨W.rdy[j]'jW,List.getElem?_eq_getElem _⟩
  have Mq:=rp ht;obtain⟨ii,hii,Su⟩:=hb2 t (List.mem_of_getElem? ht);have JS:=tA hR ⟨ii,hii,Su⟩;have o6:=gK hii;have M5:=hp.i ii (List.mem_of_getElem? hii);have J2:=M5.1;have J3:=J2.arg N S;have TX:=M5.2
  have A4:rest=t::W.rdy.drop (j+1):=by
   rw[kT,List.drop_eq_getElem_cons jW]
   congr 1
   exact Option.some.inj ((List.getElem?_eq_getElem _).symm.trans ht)
  rw[A4] at hex;have OZ:yk p.code t.pc=ii.rs:=by unfold yk;rw[hii]
  unfold fS at hex;rw[OZ] at hex;have O5:gZ acc (t.pc+1)=gZ acc (t.pc+1):=rfl;generalize P0:gZ acc (t.pc+1)=bq at O5;have E_:=sX (t.pc+1) JS;rw[P0] at E_;refine qq<|af.block<|qq<|qj fun K hK=>qi hH gG fun Tn Ph=>?_;refine ab.rH hH rfl (ev rfl) (by assumption) (by exact gG) (by assumption) rfl (ag rfl _) ?_;refine qa hH fun k10 st U' hH=>?_;dsimp only[u2,u1,u3,u4,setMany,u5,u6,D.cells,Nat.reduceAdd,aM,a7,bz,aT,fI] at hH;refine qS hH ay fun st hH=>?_;dsimp only[u2,u1,u3,u4,setMany,u5,u6,D.cells,Nat.reduceAdd,aM,a7,bz,aT,fI] at hH;refine qe hK ?_
  cases cJ:ku ii.rs r with
  |false=>
   rw[cJ,if_neg (by decide)] at hex;refine qq<|qj fun K hK=>qm ?_;refine qg ?_;refine qp (o:=0) ?_;refine qp (o:=0) ?_;refine ql hH sR ?_;refine qp (o:=0) ?_;refine ql hH ay ?_;refine qr fun R0 MD=>?_;refine qf (fo:=3) fun RZ MC=>?_;refine qR ?_;refine qm ?_;refine qv (A' (J3.rows hH) (by omega)) ?_;refine qm ?_;refine qs ?_ (hg:=wn cJ);refine qs ?_ (hg:=wn cJ);refine qs ?_ (hg:=wn cJ);refine qs ?_ (hg:=wn cJ);refine qs ?_ (hg:=wn cJ);refine qs ?_ (hg:=wn cJ);refine qs ?_ (hg:=wn cJ);refine qs ?_ (hg:=wn cJ);refine qu cJ ?_;refine qe hK<|qC ?_;refine af.skip<|qj fun K hK=>qA ?_;refine qm ?_;refine qe hK ?_;exact⟨mm-1,by omega,⟨j+1,acc,W.rdy.drop (j+1),td,pd,qd,P,Q,sn,rfl,(hH.drop 1),by omega,rfl,hex,by omega,a_,gY,sX⟩⟩
  |true=>
   rw[cJ,if_pos rfl] at hex;have hex:fS p.code r (W.rdy.drop (j+1)) (if gZ acc (t.pc+1)=true then acc else acc++[⟨t.pc+1,t.c⟩])=A:=hex;rw[P0] at hex;have pg:t.pc+1<sn.length:=by omega
   refine qq<|qj fun K hK=>qm ?_;refine qg ?_;refine qp (o:=0) ?_;refine qp (o:=0) ?_;refine ql hH sR ?_;refine qp (o:=0) ?_;refine ql hH ay ?_;refine qr fun R0 MD=>?_;refine qf (fo:=3) fun RZ MC=>?_;refine qR ?_;refine qm ?_;refine qv (A' (J3.rows hH) (by omega)) ?_;refine qm ?_;refine qm ?_ (hg:=wi cJ);refine qg ?_ (hg:=wi cJ);refine qp (o:=4) ?_ (hg:=wi cJ);refine ql hH sR ?_ (hg:=wi cJ);refine qp (o:=0) ?_ (hg:=wi cJ);refine ql hH ay ?_ (hg:=wi cJ);refine qA ?_ (hg:=wi cJ);obtain⟨_,st,aH,rfl,pd,qd,P,Q,hH,a_⟩:=lH [_,_,_,_,_,_] hF E_ a_ hH;dsimp only[u3,u4] at hH;refine qv aH ?_ (hg:=wi cJ);refine qt cJ ?_;refine qe hK ?_
   cases bq with
   |true=>
    rw[if_pos rfl] at hex;refine qC ?_;refine af.skip<|qj fun K hK=>qA ?_;refine qm ?_;refine qe hK ?_;refine⟨mm-1,by omega,⟨j+1,acc,W.rdy.drop (j+1),td,pd,qd,P,Q,sn.set (t.pc+1) true,rfl,(hH.drop 1),by omega,rfl,hex,by omega,a_,by rw[List.length_set];exact gY,?_⟩⟩;intro k hk
    by_cases hkk:k=t.pc+1
    ·subst hkk;rw[List.getElem?_set_self pg,P0]
    ·rw[List.getElem?_set_ne (fun e=>hkk e.symm)];exact sX k hk
   |false=>
    rw[if_neg (by decide)] at hex;refine qB ?_;refine qq<|qj fun K hK=>qp (o:=0) ?_;refine ql hH ay ?_;refine qA ?_;refine qp (o:=0) ?_;refine qT hH ay fun st hH=>?_;dsimp only[u2,u1,u3,u4,setMany,u5,u6,D.cells,Nat.reduceAdd,aM,a7,bz,aT,fI] at hH;refine qe hK<|qj fun K hK=>qp (o:=11) ?_;refine ql hH b5 ?_;refine ab.bN (m:=11) hH rfl (ev rfl) (by exact ay) (by dsimp only[List.drop_succ_cons,List.drop_zero,List.take_succ_cons,List.take_zero,aM,a7,bz,aT,fI]<;>rfl) rfl rfl (ag rfl _) ?_;refine qh (s:=11) (vs:=[_]) hH fun k57 st UU hH=>?_;refine ab.bR (s:=11) hH rfl (ev rfl) (ev rfl) (by exact gG) (by exact hH.rows (by exact ay)) rfl rfl rfl rfl rfl rfl rfl ⟨(Nat.le_of_ble_eq_true rfl),(Nat.le_of_ble_eq_true rfl)⟩ (fun _=>(ag rfl _)) (by simp only[List.length_cons,List.length_nil,List.length_map]<;>omega) (by exact .inl hF) (fun SZ st hH=>?_);dsimp only[u2,u1,u3,u4,setMany,u5,u6,D.cells,Nat.reduceAdd,aM,a7,bz,aT,fI] at hH;refine qp (o:=11) ?_;refine qT hH eV (fun st hH=>?_) (hY:=hH.fP gG);dsimp only[u2,u1,u3,u4,setMany,u5,u6,D.cells,Nat.reduceAdd,aM,a7,bz,aT,fI] at hH;refine qe hK<|qj fun K hK=>qA ?_;refine qm ?_;refine qe hK ?_;refine⟨mm-1,by omega,⟨j+1,acc++[⟨t.pc+1,t.c⟩],W.rdy.drop (j+1),SZ,pd,qd,P,Q,sn.set (t.pc+1) true,rfl,(by rw[List.map_append];exact hH.drop 2),by omega,rfl,hex,by simp;omega,a_,by rw[List.length_set];exact gY,?_⟩⟩;intro k hk;rw[we]
    by_cases hkk:k=t.pc+1
    ·subst hkk;rw[List.getElem?_set_self pg];simp
    ·rw[List.getElem?_set_ne (fun e=>hkk e.symm),sX k hk];have:(t.pc+1==k)=false:=by rw[beq_eq_false_iff_ne];omega
     simp only[this,Bool.or_false]
 ·refine af.exit ?_;have AU:rest=[]:=by rw[kT,List.drop_eq_nil_iff];omega
  subst AU;have hex:acc=A:=hex;subst hex;clear hA kT;have E_:=sX start JU;refine qq<|qq<|af.ki (fun fr st=>∃(eH:List iB) (td pd qd:D) (P Q:List Nat) (sn:List Bool) (tmp:List (Nat×D)),fr=⟨25,[bn fr 0,bn fr 1,bn fr 2,bn fr 3,bn fr 4,bn fr 5,.ptr k6 0 0,.ptr k7 0 0,bn fr 8,bn fr 9,bn fr 10,bn fr 11,bn fr 12,bn fr 13,bn fr 14,bn fr 15,bn fr 16,bn fr 17,bn fr 18,bn fr 19,bn fr 20,bn fr 21,bn fr 22,bn fr 23,bn fr 24],tmp⟩∧Has N S st (.box k7 (.mem 0 false (bz W.dn W.bB td))::.aJ td 11 (eH.map a7)::.box k6 (.mem 0 false (bz false ny .nul))::.aJ rd 11 (W.rdy.map a7)::.box kv (.mem 0 false [p.cd,p.sd,.int .i64 (pl:Nat),ld,.ptr ks 0 0])::.box ks (.mem 0 false [pd,qd])::.aJ pd 1 (P.map fg)::.aJ qd 2 (Q.map lY)::.aJ ld 12 (L.map fI)::(L.map o4++H))∧(eH=(if W.dn=true then acc else px acc ⟨start,dW⟩))∧(cQ P Q sn)∧(sn.length=p.code.length)) ?_ ?_
  ·cases Sz:W.dn with
   |true=>
    rw[Sz] at hH;have bF:(!true)=false:=rfl;refine qj fun K hK=>qp (o:=0) ?_;refine ql hH ay ?_;refine qg ?_;refine qm ?_;refine qs ?_ (hg:=wn bF);refine qs ?_ (hg:=wn bF);refine qs ?_ (hg:=wn bF);refine qs ?_ (hg:=wn bF);refine qs ?_ (hg:=wn bF);refine qs ?_ (hg:=wn bF);refine qs ?_ (hg:=wn bF);refine qs ?_ (hg:=wn bF);refine qs ?_ (hg:=wn bF);refine qs ?_ (hg:=wn bF);refine qs ?_ (hg:=wn bF);refine qs ?_ (hg:=wn bF);refine qs ?_ (hg:=wn bF);refine qu bF ?_;refine qe hK<|qC ?_;refine af.skip ?_;exact⟨acc,td,pd,qd,P,Q,sn,_,rfl,hH,rfl,a_,gY⟩
   |false=>
    rw[Sz] at hH;have bF:(!false)=true:=rfl;refine qj fun K hK=>qp (o:=0) ?_;refine ql hH ay ?_;refine qg ?_;refine qm ?_;refine qm ?_ (hg:=wi bF);refine qg ?_ (hg:=wi bF);refine qp (o:=4) ?_ (hg:=wi bF);refine ql hH gw ?_ (hg:=wi bF);refine qm ?_ (hg:=wi bF);refine qg ?_ (hg:=wi bF);refine qp (o:=0) ?_ (hg:=wi bF);refine qp (o:=1) ?_ (hg:=wi bF);refine ql hH gw ?_ (hg:=wi bF);refine qm ?_ (hg:=wi bF);refine qr (fun Wn Ub=>?_) (hg:=wi bF);refine qR ?_ (hg:=wi bF);obtain⟨_,st,aH,rfl,pd,qd,P,Q,hH,a_⟩:=lH [_,_,_,_,_] hF E_ a_ hH;dsimp only[u3,u4] at hH;refine qv aH ?_ (hg:=wi bF);refine qt bF ?_;refine qe hK ?_
    by_cases F4:gZ acc start=true
    ·refine qE rfl (by rw[F4];rfl) ?_;refine af.skip ?_;exact⟨acc,td,pd,qd,P,Q,sn.set start true,_,rfl,hH,by unfold px;rw[if_neg (by decide),if_pos F4],a_,by rw[List.length_set];exact gY⟩
    ·refine qD rfl (by rw[Bool.eq_false_iff.2 F4];rfl) ?_;refine qj fun K hK=>qp (o:=11) ?_;refine ql hH ay ?_;refine qm ?_;refine qg ?_;refine qp (o:=0) ?_;refine qp (o:=1) ?_;refine ql hH gw ?_;refine qm ?_;refine qr fun Wi T8=>?_;refine qR ?_;refine qv (mF _) ?_;refine ab.go (d:=.agg (a7 ⟨start,dW⟩)) (st1:=_) rfl rfl rfl (ag rfl _) ?_;refine qh (s:=11) (vs:=[_]) hH fun k91 st UL hH=>?_;dsimp only[u2,u1,u3,u4,setMany,u5,u6,D.cells,Nat.reduceAdd,aM,a7,bz,aT,fI] at hH;refine ab.bR (s:=11) hH rfl (ev rfl) (ev rfl) (by exact eV) (by exact hH.rows (by exact ay)) rfl rfl rfl rfl rfl rfl rfl ⟨(Nat.le_of_ble_eq_true rfl),(Nat.le_of_ble_eq_true rfl)⟩ (fun _=>(ag rfl _)) (by simp only[List.length_cons,List.length_nil,List.length_map]<;>omega) (by exact .inl hF) (fun SS st hH=>?_);dsimp only[u2,u1,u3,u4,setMany,u5,u6,D.cells,Nat.reduceAdd,aM,a7,bz,aT,fI] at hH;refine qp (o:=11) ?_;refine qT hH b5 (fun st hH=>?_) (hY:=hH.fP eV);dsimp only[u2,u1,u3,u4,setMany,u5,u6,D.cells,Nat.reduceAdd,aM,a7,bz,aT,fI] at hH;refine qe hK ?_;exact⟨acc++[⟨start,dW⟩],SS,pd,qd,P,Q,sn.set start true,_,rfl,(by rw[List.map_append];exact hH.drop 1),by unfold px;rw[if_neg (by decide),if_neg F4],a_,by rw[List.length_set];exact gY⟩
  ·rintro fr st ⟨eH,td,pd,qd,P,Q,sn,tmp,hfr,hH,ON,a_,gY⟩;rw[hfr];clear hfr;generalize bn fr=ee;clear fr;refine qq<|qj fun K hK=>?_;refine ab.bN (m:=12) hH rfl (ev rfl) (by exact ay) (by dsimp only[List.drop_succ_cons,List.drop_zero,List.take_succ_cons,List.take_zero,aM,a7,bz,aT,fI]<;>rfl) rfl rfl (ag rfl _) ?_;refine qS hH eV fun st hH=>?_;dsimp only[u2,u1,u3,u4,setMany,u5,u6,D.cells,Nat.reduceAdd,aM,a7,bz,aT,fI] at hH;refine qe hK<|af.ret ⟨rx,_,_,_,hH.rv rfl eV rfl,rfl,td,rfl,pd,qd,P,Q,sn,?_,a_,gY⟩;rw[←ON];exact((hH.drop 1).erase 1).erase 1
def de (fr:Go.V.Fr) (k:Nat):Go.V.D:=Go.V.nth .bp fr.loc k
def VL.pl (l:VL):PL:=⟨l.dn,l.bB,l.eH⟩
def bZ (p:Pg):List Nat:=p.az.map Int.toNat
def gf (code:List aG) (pl:Nat) (r:Int):List Nat→List PL→List PL
 |s::ss,l::ls=>eW code pl s r l::gf code pl r ss ls
 |_,_=>[]
def kA (n:Int):Nat:=(min (max n 0) 4).toNat
theorem qY (n:Int):kA n≤4:=by unfold kA;omega
theorem kf (code:List aG) (pl:Nat) (r:Int):∀(ss:List Nat) (ls:List PL),ss.length=ls.length→(gf code pl r ss ls).length=ls.length
 |[],[],_=>rfl
 |s::ss,l::ls,h=>by simp only[gf,List.length_cons];rw[kf code pl r ss ls (by simpa using h)]
theorem nB (code:List aG) (pl:Nat) (r:Int):∀(ss:List Nat) (ls:List PL) (i:Nat) (s:Nat) (l:PL),ss[i]?=some s→ls[i]?=some l→(gf code pl r ss ls)[i]?=some (eW code pl s r l)
 |[],_,_,_,_,h,_=>by simp at h
 |_::_,[],_,_,_,_,h=>by simp at h
 |s::ss,l::ls,0,_,_,h1,h2=>by simp only[List.getElem?_cons_zero,Option.some.injEq] at h1 h2;subst h1;subst h2;rfl
 |s::ss,l::ls,i+1,_,_,h1,h2=>by simp only[List.getElem?_cons_succ] at h1 h2;simp only[gf,List.getElem?_cons_succ];exact nB code pl r ss ls i _ _ h1 h2
theorem MH.mono {A:List bC} {N:Nat} {S st:St} {ks kv:Nat} {p:Pg} {pl:Nat} {ld:D} {L:List VL} {H:List bC} (n:Nat) (h:MH A N S st ks kv p pl ld L H):MH (A.drop n) N S st ks kv p pl ld L H:=by
 obtain⟨pd,qd,P,Q,sn,hH,a_,gY⟩:=h;refine⟨pd,qd,P,Q,sn,?_,a_,gY⟩
 rcases Nat.le_total n A.length with hn|hn
 ·have:=hH.drop n
  rwa [List.drop_append_of_le_length hn] at this
 ·have:=hH.drop A.length;rw[List.drop_append_of_le_length (Nat.le_refl _),List.drop_length] at this;rw[List.drop_eq_nil_of_le hn];exact this
theorem B0 (L:List VL) (i:Nat) (l:VL):(L.set i l).map o4=(L.map o4).set i (o4 l):=List.map_set ..
theorem MH.B' {N:Nat} {S st:St} {ks kv:Nat} {p:Pg} {pl:Nat} {ld:D} {L:List VL} {H:List bC} {i:Nat} {l:VL} {pd qd:D} {P Q:List Nat} (hi:i<L.length)
  (h:Has N S st (.aJ l.td 11 (l.eH.map a7)::.box kv (.mem 0 false [p.cd,p.sd,.int .i64 (pl:Nat),ld,.ptr ks 0 0])::.box ks (.mem 0 false [pd,qd])::.aJ pd 1 (P.map fg)::.aJ qd 2 (Q.map lY)::.aJ ld 12 ((L.map fI).set i (fI l))::(L.map o4++H))):
  Has N S st (.box kv (.mem 0 false [p.cd,p.sd,.int .i64 (pl:Nat),ld,.ptr ks 0 0])::.box ks (.mem 0 false [pd,qd])::.aJ pd 1 (P.map fg)::.aJ qd 2 (Q.map lY)::.aJ ld 12 ((L.set i l).map fI)::((L.set i l).map o4++H)):=by
 have h1:=h.dN (j:=5+i) (by simp;omega);rw[List.map_set,B0]
 have h2:∀(a b c d e:bC),(a::b::c::d::e::(L.map o4++H)).set (5+i) (.aJ l.td 11 (l.eH.map a7))=a::b::c::d::e::((L.map o4).set i (o4 l)++H):=by
  intro a b c d e;rw[Nat.add_comm 5 i];simp only[List.set_cons_succ];rw[List.set_append_left _ _ (by simpa using hi)];rfl
 rw[h2] at h1;exact h1
theorem xZ (mF:∀st,Ev pv 46 [] st (.agg (aT dW)) st) {N ks kv:Nat} {S s0:St} {H:List bC} {p:Pg} {pl:Nat} {ld:D} {L:List VL} {r n:Int} (hF:S.flr≤N) (hp:p.ok) (hR:cj p) (jf:pl≤1000000000000) (Nv:L.length=p.az.length) (a_:∀l∈L,l.pl.ok p.code.length) (hM:MH [] N S s0 ks kv p pl ld L H):
  ∃d ah,Ev pv 14 [.ptr kv 0 0,.int .i32 r,.int .i64 n] s0 d ah∧d=.tup []∧∃L',L'.map VL.pl=gf p.code pl r (bZ p) (L.map VL.pl)∧MH [] N S ah ks kv p (pl+kA n) ld L' H:=by
 have OU:=hR.sl;refine Ev.iY rfl Rh rfl rfl rfl ?_;dsimp only[u3,u4,List.length,Nat.reduceSub,Nat.reduceAdd,w1,w2];change af _ _ _ _ s0 _;obtain⟨pd,qd,P,Q,sn,hH,jz,gY⟩:=hM;dsimp only[u4] at hH;refine qq<|qq<|qj fun K hK=>qm ?_;refine qg ?_;refine qp (o:=3) ?_;refine ql hH ay ?_;refine qn ?_ (hR:=hH.rows gw);simp only[List.length_map];refine qm ?_;refine qe hK<|af.block<|af.loop (fun mm fr st=>∃(i:Nat) (L2:List VL) (pd qd:D) (P Q:List Nat) (sn:List Bool),fr.clean=⟨13,[.ptr kv 0 0,.int .i32 r,.int .i64 n,de fr 3,de fr 4,de fr 5,de fr 6,de fr 7,de fr 8,de fr 9,de fr 10,.int .i64 (L.length:Nat),.int .i64 (i:Nat)],[]⟩∧Has N S st (.box kv (.mem 0 false [p.cd,p.sd,.int .i64 (pl:Nat),ld,.ptr ks 0 0])::.box ks (.mem 0 false [pd,qd])::.aJ pd 1 (P.map fg)::.aJ qd 2 (Q.map lY)::.aJ ld 12 (L2.map fI)::(L2.map o4++H))∧(i+mm=L.length)∧(L2.length=L.length)∧(∀j l s,j<i→L[j]?=some l→p.az[j]?=some s→(L2.map VL.pl)[j]?=some (eW p.code pl s.toNat r l.pl))∧(∀j,i≤j→L2[j]?=L[j]?)∧(cQ P Q sn)∧(sn.length=p.code.length)) (L.length) ?_ ?_
 ·exact⟨0,L,_,_,_,_,_,rfl,hH,by omega,rfl,(by intro j l s h;omega),(fun j _=>rfl),jz,gY⟩
 rintro mm fr st ⟨i,L2,pd,qd,P,Q,sn,hfr,hH,hi,vc,Sy,Se,jz,gY⟩;rw[hfr];clear hfr;generalize de fr=ee;clear fr;refine qq<|qj fun K hK=>qg ?_;refine qe hK<|qq ?_;refine af.cond (by rfl) (fun hlt=>?_) (fun hlt=>?_)<;>try simp only[decide_eq_true_eq,decide_eq_false_iff_not] at hlt
 ·refine af.skip ?_;have hil:i<L.length:=by omega
  obtain⟨l,hl⟩:∃l,L[i]?=some l:=⟨L[i]'hil,List.getElem?_eq_getElem _⟩
  have o7:L2[i]?=some l:=by rw[Se i (Nat.le_refl _)];exact hl
  obtain⟨s,hs⟩:∃s,p.az[i]?=some s:=⟨p.az[i]'(by omega),List.getElem?_eq_getElem _⟩
  obtain⟨sk,Mp⟩:=hR.st s (List.mem_of_getElem? hs);obtain⟨K4,rfl⟩:=Int.eq_ofNat_of_zero_le sk;have gD:=ve o7;refine qq<|af.block<|qq<|qj fun K hK=>qm ?_;refine qm ?_;refine qe hK ?_;have ck:=hH;have Fg:=rX hH gw;have Ff:=hH.uf b5 (k:=ks) rfl;have Fe:=hp.c.ref;have Fc:=hp.s.ref;have J0:refs [p.cd,p.sd,.int .i64 (pl:Nat),ld,.ptr ks 0 0]≤st.bs.length:=by simp only[refs,D.ref,Fe,Fc];omega
  change af _ _ _ _ _ _;generalize hK:bW _ _ _ _=K;refine af.zQ rfl ?_;refine et.cons ?_;refine qm ?_;refine ab.nil ⟨rfl,?_⟩;refine et.cons ?_;refine qg ?_;refine ab.nil ⟨rfl,?_⟩;refine et.cons ?_;refine qp (o:=3) ?_;refine ab.nil ⟨rfl,?_⟩;refine et.cons ?_;refine ql hH ay ?_;refine ab.nil ⟨rfl,?_⟩;refine et.cons ?_;refine qm ?_;refine ab.nil ⟨rfl,?_⟩;refine et.cons ?_;refine qm ?_;refine ab.nil ⟨rfl,?_⟩;refine et.cons ?_;refine qm ?_;refine ab.nil ⟨rfl,?_⟩;refine et.cons ?_;refine qm ?_;refine ab.nil ⟨rfl,?_⟩;refine et.cons ?_;obtain⟨_,st,aH,td,rfl,hM⟩:=zC mF hF hp hR (by omega) o7 hs (a_ l (List.mem_of_getElem? hl)) ⟨pd,qd,P,Q,sn,hH,jz,gY⟩;obtain⟨pd,qd,P,Q,sn,hH,jz,gY⟩:=hM;dsimp only[u3,u4] at hH;refine qv aH ?_;refine ab.nil ⟨by exact Bool.and_eq_true_iff.2 ⟨j0 rfl rfl rfl (ck.at ay) (hH.at b5) (ck.at ay) J0,rfl⟩,?_⟩;refine et.cons ?_;refine qi hH sR fun LX AS=>?_;refine ab.nil ⟨rfl,?_⟩;refine et.cons ?_;refine ab.lO hH rfl (ev rfl) (ev rfl) (by assumption) rfl rfl (by exact sR) (by assumption) (Nat.le_of_ble_eq_true rfl) (by exact .inl hF) (fun st hH=>?_);dsimp only[u2,u1,u3,u4,setMany,u5,u6,D.cells,Nat.reduceAdd,aM,a7,bz,aT,fI] at hH;refine ab.nil ⟨rfl,?_⟩;refine et.nil ?_;subst hK;have hH:=MH.B' (l:=⟨(eW p.code pl K4 r l.pl).dn,(eW p.code pl K4 r l.pl).bB,td,(eW p.code pl K4 r l.pl).eH⟩) (by omega) hH;refine qj fun K hK=>qA ?_;refine qm ?_;refine qe hK ?_;refine⟨mm-1,by omega,⟨i+1,L2.set i ⟨(eW p.code pl K4 r l.pl).dn,(eW p.code pl K4 r l.pl).bB,td,(eW p.code pl K4 r l.pl).eH⟩,pd,qd,P,Q,sn,rfl,hH,by omega,by rw[List.length_set];exact vc,?_,(fun j hj=>by rw[List.getElem?_set_ne (by omega)];exact Se j (by omega)),jz,gY⟩⟩;intro j l' s' hj gb sm;rw[List.map_set]
  by_cases hji:j=i
  ·subst hji;rw[hl] at gb;rw[hs] at sm;cases gb;cases sm;rw[List.getElem?_set_self (by rw[List.length_map];omega)];rfl
  ·rw[List.getElem?_set_ne (fun e=>hji e.symm)];exact Sy j l' s' (by omega) gb sm
 ·refine af.exit ?_;have hil:i=L.length:=by omega
  have Vu:=qY n;have Vs:((pl:Nat):Int)+min (max n 0) 4=((pl+kA n:Nat):Int):=by unfold kA;omega
  refine qj fun K hK=>qm ?_;refine qg ?_;refine qp (o:=2) ?_;refine ql hH ay ?_;refine qm ?_;refine ab.EV (t1:=0) (t2:=0) rfl (ev rfl) (ev rfl) (ag rfl _) ?_;refine ab.EU (t1:=0) (t2:=0) rfl (ev rfl) (ev rfl) (ag rfl _) ?_;refine ab.ka (z:=((pl+kA n:Nat):Int)) rfl (ev rfl) (ev rfl) (by rw[Vs];exact d_ (by simp only[ko];omega)) (ag rfl _) ?_;refine qg ?_;refine qp (o:=2) ?_;refine qT hH ay fun st hH=>?_;dsimp only[u2,u1,u3,u4,setMany,u5,u6,D.cells,Nat.reduceAdd,aM,a7,bz,aT,fI] at hH;refine qe hK ?_;refine⟨fun i h=>(by cases h),_,_,_,rfl,rfl,?_⟩;refine⟨rfl,L2,?_,pd,qd,P,Q,sn,hH,jz,gY⟩;refine List.ext_getElem? fun j=>?_
  by_cases hj:j<L.length
  ·obtain⟨l,hl⟩:∃l,L[j]?=some l:=⟨L[j]'hj,List.getElem?_eq_getElem _⟩
   obtain⟨s,hs⟩:∃s,p.az[j]?=some s:=⟨p.az[j]'(by omega),List.getElem?_eq_getElem _⟩
   rw[Sy j l s (by omega) hl hs,nB (s:=s.toNat) (l:=l.pl)]
   ·unfold bZ;rw[List.getElem?_map,hs];rfl
   ·rw[List.getElem?_map,hl];rfl
  ·rw[List.getElem?_eq_none (by simp;omega),List.getElem?_eq_none];rw[kf]
   ·simp;omega
   ·unfold bZ;simp;omega
def j7 (code:List aG) (pl:Nat) (l:PL):PL:=⟨(oK code pl true l.eH (mM code.length l.dn l.bB)).dn,(oK code pl true l.eH (mM code.length l.dn l.bB)).bB,[]⟩
def uF (l:PL):List D:=bz l.dn l.bB .nul
theorem nu {N ks kv:Nat} {S s0:St} {H:List bC} {p:Pg} {pl:Nat} {ld:D} {L:List VL} (hF:S.flr≤N) (hp:p.ok) (hR:cj p) (jf:pl≤1099511627776) (Nv:L.length=p.az.length) (a_:∀l∈L,l.pl.ok p.code.length) (hM:MH [] N S s0 ks kv p pl ld L H):
  ∃d ah,Ev pv 12 [.ptr kv 0 0] s0 d ah∧MH [.aJ d 12 ((L.map fun l=>j7 p.code pl l.pl).map uF)] N S ah ks kv p pl ld L H:=by
 have OU:=hR.sl;refine Ev.iY rfl Rj rfl rfl rfl ?_;dsimp only[u3,u4,List.length,Nat.reduceSub,Nat.reduceAdd,w1,w2];change af _ _ _ _ s0 _;obtain⟨pd,qd,P,Q,sn,hH,jz,gY⟩:=hM;dsimp only[u4] at hH;refine qq<|qj fun K hK=>qm ?_;refine qe hK<|qq<|qj fun K hK=>qm ?_;refine qe hK<|qq<|qq<|qj fun K hK=>qm ?_;refine qg ?_;refine qp (o:=3) ?_;refine ql hH ay ?_;refine qn ?_ (hR:=hH.rows gw);simp only[List.length_map];refine qm ?_;refine qe hK<|af.block<|af.loop (fun mm fr st=>∃(i:Nat) (od pd qd:D) (P Q:List Nat) (sn:List Bool),fr.clean=⟨13,[.ptr kv 0 0,de fr 1,de fr 2,od,de fr 4,de fr 5,de fr 6,de fr 7,de fr 8,de fr 9,de fr 10,.int .i64 (L.length:Nat),.int .i64 (i:Nat)],[]⟩∧Has N S st (.aJ od 12 (((L.map fun l=>j7 p.code pl l.pl).take i).map uF)::.box kv (.mem 0 false [p.cd,p.sd,.int .i64 (pl:Nat),ld,.ptr ks 0 0])::.box ks (.mem 0 false [pd,qd])::.aJ pd 1 (P.map fg)::.aJ qd 2 (Q.map lY)::.aJ ld 12 (L.map fI)::(L.map o4++H))∧(i+mm=L.length)∧(cQ P Q sn)∧(sn.length=p.code.length)) (L.length) ?_ ?_
 ·exact⟨0,.nul,_,_,_,_,_,rfl,(hH.eo 12),by omega,jz,gY⟩
 rintro mm fr st ⟨i,od,pd,qd,P,Q,sn,hfr,hH,hi,jz,gY⟩;rw[hfr];clear hfr;generalize de fr=ee;clear fr;refine qq<|qj fun K hK=>qg ?_;refine qe hK<|qq ?_;refine af.cond (by rfl) (fun hlt=>?_) (fun hlt=>?_)<;>try simp only[decide_eq_true_eq,decide_eq_false_iff_not] at hlt
 ·refine af.skip ?_;have hil:i<L.length:=by omega
  obtain⟨l,hl⟩:∃l,L[i]?=some l:=⟨L[i]'hil,List.getElem?_eq_getElem _⟩
  obtain⟨ur,qG⟩:=a_ l (List.mem_of_getElem? hl);simp only[VL.pl] at ur qG;have hge:(L.map fun l=>j7 p.code pl l.pl)[i]?=some (j7 p.code pl l.pl):=by rw[List.getElem?_map,hl];rfl
  have va:(((L.map fun l=>j7 p.code pl l.pl).take i).map uF).length=i:=by simp;omega
  refine qq<|af.block<|qq<|qj fun K hK=>qm ?_;refine qm ?_;refine qe hK ?_;obtain⟨_,st1,aH,rd,rfl,hM⟩:=qL (e:=true) hF hp hR jf hl ur (by omega) (MH.push [_] [] ⟨pd,qd,P,Q,sn,hH,jz,gY⟩);clear jz gY;have hM:=MH.pull [_] [] (MH.mono 1 hM);obtain⟨pd,qd,P,Q,sn,Ky,jz,gY⟩:=hM;dsimp only[u3,u4] at Ky;generalize hB:((L.map fun l=>j7 p.code pl l.pl).take i).map uF=B at*;refine qq<|qj fun K hK=>qm ?_;refine qm ?_;have hH:=Ky;refine qv aH ?_;refine qm ?_;refine qg ?_;refine qg ?_;refine qa hH fun k5 st Ga hH=>?_;refine qS hH ay fun st hH=>?_;dsimp only[u2,u1,u3,u4,setMany,u5,u6,D.cells,Nat.reduceAdd,aM,a7,bz,aT,fI,uF] at hH;refine qm ?_;refine qe hK ?_;clear Ky;refine qj fun K hK=>qm ?_;refine ab.bN (m:=12) hH rfl (ev rfl) (by exact ay) (by dsimp only[List.drop_succ_cons,List.drop_zero,List.take_succ_cons,List.take_zero,aM,a7,bz,aT,fI,uF]<;>rfl) rfl rfl (ag rfl _) ?_;refine qh (s:=12) (vs:=[_]) hH fun k23 st M0 hH=>?_;refine ab.bR (s:=12) hH rfl (ev rfl) (ev rfl) (by exact eV) (by exact hH.rows (by exact ay)) rfl rfl rfl rfl rfl rfl rfl ⟨(Nat.le_of_ble_eq_true rfl),(Nat.le_of_ble_eq_true rfl)⟩ (fun _=>(ag rfl _)) (by simp only[List.length_cons,List.length_nil,List.length_map]<;>omega) (by exact .inl hF) (fun S8 st hH=>?_);dsimp only[u2,u1,u3,u4,setMany,u5,u6,D.cells,Nat.reduceAdd,aM,a7,bz,aT,fI,uF] at hH;refine qm ?_;refine qe hK<|qj fun K hK=>qA ?_;refine qm ?_;refine qe hK ?_;exact⟨mm-1,by omega,⟨i+1,S8,pd,qd,P,Q,sn,rfl,(by rw[List.take_add_one,hge,Option.toList_some,List.map_append,hB];exact hH.drop 2),by omega,jz,gY⟩⟩
 ·refine af.exit ?_;have hil:i=L.length:=by omega
  refine qq<|qj fun K hK=>qm ?_;refine qm ?_;refine qe hK<|af.ret ⟨rx,_,_,_,rfl,rfl,?_⟩;rw[List.take_of_length_le (by simp;omega)] at hH;exact⟨pd,qd,P,Q,sn,hH,jz,gY⟩
def dI (fr:Go.V.Fr) (k:Nat):Go.V.D:=Go.V.nth .bp fr.loc k
structure sS (p q:Pg):Prop where
 ok:q.ok
 code:q.code=p.code.map dK
 az:q.az=p.az
theorem z_ {s0:St} {p:Pg} (hp:p.ok):∃d,Ev pv 45 [p.d] s0 d s0∧∃q:Pg,d=q.d∧sS p q:=by
 refine Ev.ET rfl QT rfl rfl rfl ?_;dsimp only[u3,u4,List.length,Nat.reduceSub,Nat.reduceAdd,w1,w2];obtain⟨b_,hF,hH⟩:=ri s0;generalize ai .ro s0=S at*;have hc:=hp.c.arg s0.bs.length S;have hs:=hp.s.arg s0.bs.length S;have hlen:=hp.cl;have Mm:=hp.sl;unfold Pg.d;refine qq<|qj fun K hK=>qb hH fun k1 st ox hH=>?_;dsimp only[u2,u1,u3,u4,setMany,u5,u6,D.cells,Nat.reduceAdd,Pg.cs,aM,aw] at hH;refine qa hH fun k2 st hk2 hH=>?_;refine qe hK ?_;have hH:=hH.eo 1;refine qq<|qj fun K hK=>qp (o:=1) ?_;refine ql hH eV ?_;refine qP hH ay (Arg.rows (by assumption) hH) fun x8 st hH=>?_;dsimp only[u2,u1,u3,u4,setMany,u5,u6,D.cells,Nat.reduceAdd,Pg.cs,aM,aw] at hH;refine ab.fe (qs:=[(1,_)]) rfl rfl rfl rfl ⟨rfl,(ev rfl),(by exact hH.fP (by exact ay)),trivial⟩ (by intro q hq;simp only[List.mem_cons,List.not_mem_nil,or_false] at hq;rcases hq with rfl<;>exact⟨rfl,by exact Nat.le_of_ble_eq_true rfl⟩) (by show List.foldl _ [_,_] _=_;dsimp only[List.foldl_cons,List.foldl_nil,u2,u1]<;>rfl) (by dsimp only[Fr.put,u1,u2]<;>rfl) ?_;refine qa hH fun k3 st NZ hH=>?_;refine qS hH ay fun st hH=>?_;dsimp only[u2,u1,u3,u4,setMany,u5,u6,D.cells,Nat.reduceAdd,Pg.cs,aM,aw] at hH;refine qe hK ?_;have hH:=hH.JG 4;refine qq<|qq<|qj fun K hK=>qp (o:=0) ?_;refine ql hH gw ?_;refine qn ?_;simp only[List.length_map];refine qm ?_;refine qe hK<|af.block<|af.loop (fun mm fr st=>∃(i:Nat) (y:D) (ks:Nat→Prop),fr.clean=⟨14,[dI fr 0,.ptr k1 0 0,.ptr k2 0 0,.ptr k3 0 0,dI fr 4,dI fr 5,dI fr 6,dI fr 7,dI fr 8,dI fr 9,dI fr 10,p.cd,.int .i64 (p.code.length:Nat),.int .i64 (i:Nat)],[]⟩∧Has s0.bs.length S st [.deep ks y 4 ((p.code.take i).map oP),.box k3 (.mem 0 false [y,x8]),.aJ x8 1 (p.az.map aw),.box k2 (.mem 0 false [.nul,.nul]),.box k1 (.mem 0 false [p.cd,p.sd])]∧(i+mm=p.code.length)) (p.code.length) ?_ ?_
 ·exact⟨0,.nul,_,rfl,hH,by omega⟩
 rintro mm fr st ⟨i,y,ks,hfr,hH,hi⟩;rw[hfr];clear hfr;generalize dI fr=ee;clear fr;refine qq<|qj fun K hK=>qg ?_;refine qe hK<|qq ?_;refine af.cond (by rfl) (fun h1=>?_) (fun h1=>?_)<;>try simp only[decide_eq_true_eq,decide_eq_false_iff_not] at h1
 ·refine af.skip ?_
  obtain⟨q,hq⟩:∃q,p.code[i]?=some q:=⟨p.code[i]'(by omega),List.getElem?_eq_getElem _⟩
  have hr:=gK hq;have uo:=hp.i q (List.mem_of_getElem? hq);have AM:=uo.1;have O1:=uo.1.arg s0.bs.length S;have va:=uo.2;have pg:((p.code.take i).map oP).length≤1048576:=by rw[List.length_map,List.length_take];omega
  refine qq<|af.block<|qq<|qj fun K hK=>qr fun Tq Pl=>?_;refine ab.dE rfl (ev rfl) (by assumption) rfl (ag rfl _) ?_;refine qa hH fun k5 st Ga hH=>?_;refine qS hH ay fun st hH=>?_;dsimp only[u2,u1,u3,u4,setMany,u5,u6,D.cells,Nat.reduceAdd,Pg.cs,aM,aw] at hH;refine qe hK ?_;have hH:=hH.eo 2;refine qq<|qj fun K hK=>qp (o:=3) ?_;refine ql hH b5 ?_;refine ab.bR (s:=2) hH rfl (ev rfl) (ev rfl) (by exact ay) (by exact Arg.rows (by assumption) hH) rfl rfl rfl rfl rfl rfl rfl ⟨(Nat.le_of_ble_eq_true rfl),(Nat.le_of_ble_eq_true rfl)⟩ (fun _=>(ag rfl _)) (by simp only[List.length_nil,List.length_map]<;>omega) (by exact .inl hF) (fun NN st hH=>?_);dsimp only[u2,u1,u3,u4,setMany,u5,u6,D.cells,Nat.reduceAdd,Pg.cs,aM,aw] at hH;refine qp (o:=3) ?_;refine qT hH b5 (fun st hH=>?_) (hY:=hH.fP ay);dsimp only[u2,u1,u3,u4,setMany,u5,u6,D.cells,Nat.reduceAdd,Pg.cs,aM,aw] at hH;refine qe hK<|qj fun K hK=>qp (o:=0) ?_;refine ql hH gG ?_;refine ab.bN (m:=4) hH rfl (ev rfl) (by exact b5) (by dsimp only[List.drop_succ_cons,List.drop_zero,List.take_succ_cons,List.take_zero,Pg.cs,aM,aw]<;>rfl) rfl rfl (ag rfl _) ?_;refine qh (s:=4) (vs:=[_]) hH fun k24 st U7 hH=>?_;obtain⟨hH,Ng⟩:=hH.wO (i:=1) (j:=3) (by decide) b5 gG (dF _);dsimp only[u1,u2] at hH;refine ab.kZ hH rfl rfl rfl gG (hH.rows ay) (.cons (.cons (.plain _ rfl) (.cons (.plain _ rfl) (.cons (.plain _ rfl) (.cons Ng .nil)))) .nil) rfl rfl rfl rfl rfl rfl rfl ⟨(Nat.le_of_ble_eq_true rfl),(Nat.le_of_ble_eq_true rfl)⟩ (fun _=>(ag rfl _)) (by show _+1≤_;omega) (.inl hF) (fun S7 st hH=>?_);dsimp only[u1,u2] at hH;refine qp (o:=0) ?_;refine ab.ow hH rfl (ev rfl) (ev rfl) (by exact hH.sO (by exact gG)) (by exact rfl) (by exact gw) (by exact Nat.le_of_ble_eq_true rfl) (by exact .inl hF) (fun st hH=>?_);dsimp only[u2,u1,u3,u4,setMany,u5,u6,D.cells,Nat.reduceAdd,Pg.cs,aM,aw] at hH;refine qe hK<|qj fun K hK=>qA ?_;refine qm ?_;refine qe hK ?_;exact⟨mm-1,by omega,⟨i+1,S7,_,rfl,(by rw[List.take_add_one,hq,Option.toList_some,List.map_append];exact hH.drop 3),by omega⟩⟩
 ·refine af.exit<|qq<|qj fun K hK=>?_;refine ab.bN (m:=2) hH rfl (ev rfl) (by exact b5) (by dsimp only[List.drop_succ_cons,List.drop_zero,List.take_succ_cons,List.take_zero,Pg.cs,aM,aw]<;>rfl) rfl rfl (ag rfl _) ?_;refine qS hH gG fun st hH=>?_;dsimp only[u2,u1,u3,u4,setMany,u5,u6,D.cells,Nat.reduceAdd,Pg.cs,aM,aw] at hH;refine qe hK ?_;rw[List.take_of_length_le (by omega)] at hH;have h1:=hH.oG ay (n:=14) (by decide);have h2:=hH.xI eV (l3 _) (n:=15) (by decide)
  have h3:bo st s0.bs.length false 16 (.agg [y,x8])=some (.agg [.sl ((p.code.map oP).map (ja 4)),.sl ((p.az.map aw).map (ja 1))]):=by
   show(fZ (bo st s0.bs.length false 15) [y,x8]).map D.agg=_;simp only[fZ,h1,h2,Option.map_some]
  refine af.ret ⟨rx,_,_,hH.rv rfl gG rfl,rl b_ hH h3,⟨_,p.code.map dK,AD p.az,p.az⟩,rfl,⟨?_,ug _,?_,by simpa using hlen,Mm⟩,rfl,rfl⟩
  ·have h0:(p.code.map dK).map aM=p.code.map oP:=by rw[List.map_map];rfl
   show fK _ 4 ((p.code.map dK).map aM);rw[h0]
   have h4:∀e∈(p.code.map oP),e.length=4:=by
    intro e he;obtain⟨q,_,rfl⟩:=List.mem_map.1 he;rfl
   have:=fK.frozen (s:=4) (es:=p.code.map oP) h4 (by
    intro e he d hd;obtain⟨q,_,rfl⟩:=List.mem_map.1 he;simp only[oP,aM,dK,List.mem_cons,List.not_mem_nil,or_false] at hd
    rcases hd with rfl|rfl|rfl|rfl<;>rfl)
   exact this
  ·intro i hi;obtain⟨q,hq,rfl⟩:=List.mem_map.1 hi;exact Bm (hp.i q hq)
theorem sS.right {p q:Pg} (h:sS p q) (hR:cj p):cj q:=(vw h.code h.az).2 hR
theorem zr {N:Nat} {S s0:St} {H:List bC} {p:Pg} (hF:S.flr≤N) (hp:p.ok) (hR:cj p) (hH:Has N S s0 H):
  ∃r ah,Ev pv 24 [p.d] s0 r ah∧∃kv ks q,r=.tup [.ptr kv 0 0,.int .i64 0]∧sS p q∧MH [] N S ah ks kv q 0 .nul [] H:=by
 have hc:=hp.c.arg N S;have hcl:=hR.cl;obtain⟨_,PN,q,rfl,hq⟩:=z_ (s0:=s0) hp;have hown:∀st,∃d,Ev pv 45 [p.d] st d st∧∃q:Pg,d=q.d∧sS p q:=fun st=>z_ hp;unfold Pg.d at hown;unfold Pg.d;clear PN hq q;refine Ev.iY rfl Ra rfl rfl rfl ?_;dsimp only[u3,u4,List.length,Nat.reduceSub,Nat.reduceAdd,w1,w2];change af _ _ _ _ s0 _;refine qq<|qj fun K hK=>qb hH fun k1 st ox hH=>?_;dsimp only[u2,u1,u3,u4,setMany,u5,u6,D.cells,Nat.reduceAdd,Pg.cs,aM,aw] at hH;refine qm ?_;refine qm ?_;refine qe hK<|qq<|qq<|qj fun K hK=>?_;refine ab.bN (m:=2) hH rfl (ev rfl) (by exact ay) (by dsimp only[List.drop_succ_cons,List.drop_zero,List.take_succ_cons,List.take_zero,Pg.cs,aM,aw]<;>rfl) rfl rfl (ag rfl _) ?_;refine qv (pr (p:=p) hp) ?_;refine qg ?_;refine qe hK<|qE rfl (by rw[sM hR];rfl) ?_;refine af.skip<|qq<|qj fun K hK=>qp (o:=0) ?_;refine ql hH ay ?_;refine qn ?_;simp only[List.length_map];obtain⟨_,st,aH,ks,rfl,pd,qd,P,Q,hH,a_⟩:=ye (n:=p.code.length) hF (by omega) hH;refine qv aH ?_;refine qm ?_;refine qg ?_;refine qg ?_;refine qm ?_;refine qm ?_;refine qe hK ?_;obtain⟨_,aH,q,rfl,hq⟩:=hown st;refine qq<|qj fun K hK=>?_;refine ab.bN (m:=2) hH rfl (ev rfl) (by exact gG) (by dsimp only[List.drop_succ_cons,List.drop_zero,List.take_succ_cons,List.take_zero,Pg.cs,aM,aw]<;>rfl) rfl rfl (ag rfl _) ?_;refine qv aH ?_;refine qm ?_;refine ab.go (d:=.agg [q.cd,q.sd,.int .i64 0,.nul,.ptr ks 0 0]) (st1:=_) rfl rfl rfl (ag rfl _) ?_;refine qb hH fun k20 st Pz hH=>?_;refine qm ?_;refine qm ?_;refine qm ?_;refine qe hK<|af.ret ⟨rx,_,_,_,rfl,rfl,?_⟩;have hl:(List.replicate p.code.length false).length=q.code.length:=by rw[List.length_replicate,hq.code,List.length_map]
 exact⟨k20,ks,q,rfl,hq,pd,qd,P,Q,_,Has.kK [_] [_,_,_,_] ((hH.erase 4).eo 12),a_,hl⟩
def qF (s:Nat):PL:=⟨false,dW,[⟨s,dW⟩]⟩
theorem BC (mF:∀st,Ev pv 46 [] st (.agg (aT dW)) st) {N ks kv:Nat} {S s0:St} {H:List bC} {p:Pg} (hF:S.flr≤N) (hp:p.ok) (hR:cj p) (hM:MH [] N S s0 ks kv p 0 .nul [] H):
  ∃d ah,Ev pv 25 [.ptr kv 0 0] s0 d ah∧d=.tup []∧∃ld L,L.map VL.pl=(bZ p).map qF∧MH [] N S ah ks kv p 0 ld L H:=by
 have hs:=hp.s.arg N S;have OU:=hR.sl;obtain⟨pd,qd,P,Q,sn,hH,a_,gY⟩:=hM;dsimp only[u4] at hH;refine Ev.iY rfl Q_ rfl rfl rfl ?_;dsimp only[u3,u4,List.length,Nat.reduceSub,Nat.reduceAdd,w1,w2];change af _ _ _ _ s0 _;refine qq<|qj fun K hK=>qm ?_;refine qg ?_;refine qp (o:=0) ?_;refine qp (o:=1) ?_;refine ql hH ay ?_;refine qn ?_;simp only[List.length_map];refine qm ?_;refine qe hK<|af.block<|af.loop (fun mm fr st=>∃(i:Nat) (ld:D) (L:List VL),fr.clean=⟨11,[.ptr kv 0 0,dI fr 1,dI fr 2,dI fr 3,dI fr 4,dI fr 5,dI fr 6,dI fr 7,p.sd,.int .i64 (p.az.length:Nat),.int .i64 (i:Nat)],[]⟩∧Has N S st (.box kv (.mem 0 false [p.cd,p.sd,.int .i64 ((0:Nat):Nat),ld,.ptr ks 0 0])::.box ks (.mem 0 false [pd,qd])::.aJ pd 1 (P.map fg)::.aJ qd 2 (Q.map lY)::.aJ ld 12 (L.map fI)::(L.map o4++H))∧(i+mm=p.az.length)∧(L.length=i)∧(L.map VL.pl=((bZ p).take i).map qF)) (p.az.length) ?_ ?_
 ·exact⟨0,.nul,[],rfl,hH,by omega,rfl,rfl⟩
 rintro mm fr st ⟨i,ld,L,hfr,hH,hi,Nv,SG⟩;rw[hfr];clear hfr;generalize dI fr=ee;clear fr;refine qq<|qj fun K hK=>qg ?_;refine qe hK<|qq ?_;refine af.cond (by rfl) (fun hlt=>?_) (fun hlt=>?_)<;>try simp only[decide_eq_true_eq,decide_eq_false_iff_not] at hlt
 ·refine af.skip ?_;have hil:i<p.az.length:=by omega
  obtain⟨s,OT⟩:∃s,p.az[i]?=some s:=⟨p.az[i]'(by omega),List.getElem?_eq_getElem _⟩
  obtain⟨sk,Mp⟩:=hR.st s (List.mem_of_getElem? OT);obtain⟨s1,rfl⟩:=Int.eq_ofNat_of_zero_le sk;have gD:=eO OT;have gp:(bZ p)[i]?=some s1:=by unfold bZ;rw[List.getElem?_map,OT];rfl
  refine qq<|af.block<|qq<|qj fun K hK=>qr fun R5 MI=>?_;refine qR ?_;refine qm ?_;refine qe hK<|qj fun K hK=>qm ?_;refine qm ?_;refine qg ?_;refine qp (o:=3) ?_;refine ql hH ay ?_;refine qv (mF _) ?_;refine qm ?_;refine qv (mF _) ?_;refine ab.go (d:=.agg (a7 ⟨s1,dW⟩)) (st1:=_) rfl rfl rfl (ag rfl _) ?_;refine qh (s:=11) (vs:=[_]) hH fun k23 st M0 hH=>?_;dsimp only[u2,u1,u3,u4,setMany,u5,u6,D.cells,Nat.reduceAdd,aM,a7,bz,aT,fI,aw] at hH;refine ab.go (d:=.agg (bz false dW (.win k23 0 0 1 11))) (st1:=_) rfl rfl rfl (ag rfl _) ?_;refine qh (s:=12) (vs:=[_]) hH fun k25 st U6 hH=>?_;dsimp only[u2,u1,u3,u4,setMany,u5,u6,D.cells,Nat.reduceAdd,aM,a7,bz,aT,fI,aw] at hH;refine ab.bR (s:=12) hH rfl (ev rfl) (ev rfl) (by exact SO) (by exact hH.rows (by exact ay)) rfl rfl rfl rfl rfl rfl rfl ⟨(Nat.le_of_ble_eq_true rfl),(Nat.le_of_ble_eq_true rfl)⟩ (fun _=>(ag rfl _)) (by simp only[List.length_cons,List.length_nil,List.length_map]<;>omega) (by exact .inl hF) (fun S6 st hH=>?_);dsimp only[u2,u1,u3,u4,setMany,u5,u6,D.cells,Nat.reduceAdd,aM,a7,bz,aT,fI,aw] at hH;refine qg ?_;refine qp (o:=3) ?_;refine qT hH eV (fun st hH=>?_) (hY:=hH.fP SO);dsimp only[u2,u1,u3,u4,setMany,u5,u6,D.cells,Nat.reduceAdd,aM,a7,bz,aT,fI,aw] at hH;refine qe hK<|qj fun K hK=>qA ?_;refine qm ?_;refine qe hK ?_;have hH:=hH.drop 1;have hH:=Has.kK [_] (_::_::_::_::_::L.map o4) hH;refine⟨mm-1,by omega,⟨i+1,S6,L++[⟨false,dW,.win k23 0 0 1 11,[⟨s1,dW⟩]⟩],rfl,?_,by omega,by simp;omega,?_⟩⟩
  ·rw[List.map_append,List.map_append,List.append_assoc];exact hH
  ·rw[List.map_append,SG,List.take_add_one,gp,Option.toList_some,List.map_append];rfl
 ·refine af.exit ?_;refine⟨fun i h=>(by cases h),_,_,_,rfl,rfl,?_⟩;refine⟨rfl,ld,L,?_,pd,qd,P,Q,sn,hH,a_,gY⟩;rw[SG,List.take_of_length_le];unfold bZ;rw[List.length_map];omega
theorem yt {p:Pg} (hR:cj p):∀l∈(bZ p).map qF,l.ok p.code.length:=by
 intro l hl;obtain⟨s,hs,rfl⟩:=List.mem_map.1 hl;obtain⟨v,hv,rfl⟩:=List.mem_map.1 hs;have:=hR.st v hv;refine⟨fun t ht=>?_,by simp[qF]⟩;simp only[qF,List.mem_cons,List.not_mem_nil,or_false] at ht;subst ht;show v.toNat<_;omega
theorem B2 (mF:∀st,Ev pv 46 [] st (.agg (aT dW)) st) {N:Nat} {S s0:St} {H:List bC} {p:Pg} (hF:S.flr≤N) (hp:p.ok) (hR:cj p) (hH:Has N S s0 H):
  ∃r ah,Ev pv 9 [p.d] s0 r ah∧∃kv ks q ld L,r=.tup [.ptr kv 0 0,.int .i64 0]∧sS p q∧L.map VL.pl=(bZ p).map qF∧MH [] N S ah ks kv q 0 ld L H:=by
 have F8:∀st H,Has N S st H→∃r ah,Ev pv 24 [p.d] st r ah∧∃kv ks q,r=.tup [.ptr kv 0 0,.int .i64 0]∧sS p q∧MH [] N S ah ks kv q 0 .nul [] H:=fun st H h=>zr hF hp hR h;unfold Pg.d at*;refine Ev.iY rfl VX rfl rfl rfl ?_;dsimp only[u3,u4,List.length,Nat.reduceSub,Nat.reduceAdd,w1,w2];change af _ _ _ _ s0 _;refine qq<|qj fun K hK=>qb hH fun k1 st ox hH=>?_;dsimp only[u2,u1,u3,u4,setMany,u5,u6,D.cells,Nat.reduceAdd,Pg.cs,aM,aw] at hH;refine qm ?_;refine qm ?_;refine qe hK<|qq<|qj fun K hK=>?_;refine ab.bN (m:=2) hH rfl (ev rfl) (by exact ay) (by dsimp only[List.drop_succ_cons,List.drop_zero,List.take_succ_cons,List.take_zero,Pg.cs,aM,aw]<;>rfl) rfl rfl (ag rfl _) ?_;obtain⟨_,st,aH,kv,ks,q,rfl,hq,hM⟩:=F8 _ _ hH;refine qv aH ?_;refine qm ?_;refine qg ?_;refine qg ?_;refine qm ?_;refine qm ?_;refine qe hK<|qq<|qq<|qj fun K hK=>qm ?_;refine qg ?_;refine qe hK<|af.cond (v:=false) (by dsimp only[Fr.ev,Fr.get,nth,V.look];rfl) (fun h=>by cases h) (fun _=>?_);refine af.skip ?_;obtain⟨_,st1,aH,rfl,ld,L,hL,hM⟩:=BC mF hF hq.ok (hq.right hR) hM;refine qq<|qj fun K hK=>qm ?_;refine qv aH ?_;refine qe hK<|qq<|qj fun K hK=>qm ?_;refine qm ?_;refine qm ?_;refine qe hK<|af.ret ⟨rx,_,_,_,rfl,rfl,?_⟩;have TS:bZ q=bZ p:=by unfold bZ;rw[hq.az]
 obtain⟨pd,qd,P,Q,sn,hH,a_,gY⟩:=hM;refine⟨kv,ks,q,ld,L,rfl,hq,by rw[←TS];exact hL,pd,qd,P,Q,sn,?_,a_,gY⟩;have hH:=Has.kK (_::_::_::_::_::L.map o4) [_] (H:=H) hH;exact hH.drop 1
def lV (fr:Go.V.Fr) (k:Nat):Go.V.D:=Go.V.nth .bp fr.loc k
def Oa (l:List iB):D:=.sl ((l.map a7).map (ja 11))
def rG (l:PL):List D:=bz l.dn l.bB (Oa l.eH)
def Ax (L:List PL):D:=.sl ((L.map rG).map (ja 12))
def t_ (pl:Nat) (L:List PL):D:=.agg [.int .i64 (pl:Nat),Ax L]
theorem pA (l:List iB):∀e∈l.map a7,∀d∈e,bX d=true:=by
 intro e he d hd;obtain⟨q,_,rfl⟩:=List.mem_map.1 he;simp only[a7,List.mem_cons,List.not_mem_nil,or_false] at hd
 rcases hd with rfl|rfl|rfl|rfl|rfl|rfl|rfl|rfl|rfl|rfl|rfl<;>rfl
theorem Lq (l:List iB):fK (Oa l) 11 (l.map a7):=fK.frozen (B3 l) (pA l)
theorem Jy (L:List PL):∀e∈L.map rG,e.length=12:=by
 intro e he;obtain⟨q,_,rfl⟩:=List.mem_map.1 he;rfl
theorem zZ (L:List PL):∀e∈L.map rG,∀d∈e,bX d=true:=by
 intro e he d hd;obtain⟨q,_,rfl⟩:=List.mem_map.1 he;simp only[rG,bz,List.mem_cons,List.not_mem_nil,or_false] at hd
 rcases hd with rfl|rfl|rfl|rfl|rfl|rfl|rfl|rfl|rfl|rfl|rfl|rfl<;>rfl
theorem ub (L:List PL):fK (Ax L) 12 (L.map rG):=fK.frozen (Jy L) (zZ L)
theorem Jz {L:List PL} {i:Nat} {l:PL} (h:L[i]?=some l):(L.map rG)[i]?=some (rG l):=by rw[List.getElem?_map,h];rfl
theorem KN {st:St} {ks:Nat→Prop} {dn:Bool} {f:wR} {x y:D} (h:dV st ks x y):cm (dV st ks) (bz dn f x) (bz dn f y):=
 .cons (.plain _ rfl) (.cons (.plain _ rfl) (.cons (.plain _ rfl) (.cons (.plain _ rfl) (.cons (.plain _ rfl) (.cons (.plain _ rfl) (.cons (.plain _ rfl) (.cons (.plain _ rfl) (.cons (.plain _ rfl) (.cons (.plain _ rfl) (.cons (.plain _ rfl) (.cons h .nil)))))))))))
theorem y8 {N:Nat} {S s0:St} {H:List bC} {x:D} {L:List VL} (hF:S.flr≤N) (Nv:L.length≤1000) (hx:Arg N S 12 x (L.map fI)) (ht:∀l∈L,Arg N S 11 l.td (l.eH.map a7)∧l.eH.length≤1000) (hH:Has N S s0 H):
  ∃d ah,Ev pv 32 [x] s0 d ah∧∃ks,Has N S ah (.deep ks d 12 ((L.map VL.pl).map rG)::H):=by
 refine Ev.iY rfl Q5 rfl rfl rfl ?_;dsimp only[u3,u4,List.length,Nat.reduceSub,Nat.reduceAdd,w1,w2];change af _ _ _ _ s0 _;refine qq<|qj fun K hK=>qm ?_;refine qe hK<|qq<|qj fun K hK=>qm ?_;refine qe hK<|qq<|qq<|qj fun K hK=>qm ?_;refine qn ?_;simp only[List.length_map];refine qm ?_;refine qe hK<|af.block<|af.loop (fun mm fr st=>∃(i:Nat) (y:D) (ks:Nat→Prop),fr.clean=⟨9,[lV fr 0,lV fr 1,lV fr 2,y,lV fr 4,lV fr 5,x,.int .i64 (L.length:Nat),.int .i64 (i:Nat)],[]⟩∧Has N S st (.deep ks y 12 (((L.map VL.pl).take i).map rG)::H)∧(i+mm=L.length)) (L.length) ?_ ?_
 ·exact⟨0,.nul,_,rfl,(hH.JG 12),by omega⟩
 rintro mm fr st ⟨i,y,ks,hfr,hH,hi⟩;rw[hfr];clear hfr;generalize lV fr=ee;clear fr;refine qq<|qj fun K hK=>qg ?_;refine qe hK<|qq ?_;refine af.cond (by rfl) (fun hlt=>?_) (fun hlt=>?_)<;>try simp only[decide_eq_true_eq,decide_eq_false_iff_not] at hlt
 ·refine af.skip ?_;have hil:i<L.length:=by omega
  obtain⟨l,hl⟩:∃l,L[i]?=some l:=⟨L[i]'hil,List.getElem?_eq_getElem _⟩
  obtain⟨Sf,pg⟩:=ht l (List.mem_of_getElem? hl);have gD:=ve hl;have UH:(L.map VL.pl)[i]?=some l.pl:=by rw[List.getElem?_map,hl];rfl
  have TL:(((L.map VL.pl).take i).map rG).length≤1048576:=by rw[List.length_map,List.length_take,List.length_map];omega
  refine qq<|af.block<|qq<|qj fun K hK=>qr fun R7 MK=>?_;refine ab.dE rfl (ev rfl) (by assumption) rfl (ag rfl _) ?_;refine qa hH fun k5 st Ga hH=>?_;refine qS hH ay fun st hH=>?_;dsimp only[u2,u1,u3,u4,setMany,u5,u6,D.cells,Nat.reduceAdd,aM,a7,bz,aT,fI,rG] at hH;refine qe hK ?_;have hH:=hH.eo 11;refine qq<|qj fun K hK=>qp (o:=11) ?_;refine ql hH b5 ?_;refine ab.bR (s:=11) hH rfl (ev rfl) (ev rfl) (by exact ay) (by exact Arg.rows (by assumption) hH) rfl rfl rfl rfl rfl rfl rfl ⟨(Nat.le_of_ble_eq_true rfl),(Nat.le_of_ble_eq_true rfl)⟩ (fun _=>(ag rfl _)) (by simp only[List.length_nil,List.length_map]<;>omega) (by exact .inl hF) (fun V_ st hH=>?_);dsimp only[u2,u1,u3,u4,setMany,u5,u6,D.cells,Nat.reduceAdd,aM,a7,bz,aT,fI,rG] at hH;refine qp (o:=11) ?_;refine qT hH b5 (fun st hH=>?_) (hY:=hH.fP ay);dsimp only[u2,u1,u3,u4,setMany,u5,u6,D.cells,Nat.reduceAdd,aM,a7,bz,aT,fI,rG] at hH;refine qe hK<|qj fun K hK=>qm ?_;refine ab.bN (m:=12) hH rfl (ev rfl) (by exact b5) (by dsimp only[List.drop_succ_cons,List.drop_zero,List.take_succ_cons,List.take_zero,aM,a7,bz,aT,fI,rG]<;>rfl) rfl rfl (ag rfl _) ?_;refine qh (s:=12) (vs:=[_]) hH fun k18 st U9 hH=>?_;obtain⟨hH,Ng⟩:=hH.wO (i:=1) (j:=3) (by decide) b5 gG (pA _);dsimp only[u1,u2] at hH;refine ab.kZ hH rfl rfl rfl gG (hH.rows ay) (.cons (KN (dn:=l.dn) (f:=l.bB) Ng) .nil) rfl rfl rfl rfl rfl rfl rfl ⟨(Nat.le_of_ble_eq_true rfl),(Nat.le_of_ble_eq_true rfl)⟩ (fun _=>(ag rfl _)) (by show _+1≤_;omega) (.inl hF) (fun NN st hH=>?_);dsimp only[u1,u2] at hH;refine qm ?_;refine qe hK<|qj fun K hK=>qA ?_;refine qm ?_;refine qe hK ?_;exact⟨mm-1,by omega,⟨i+1,NN,_,rfl,(by rw[List.take_add_one,UH,Option.toList_some,List.map_append];exact hH.drop 3),by omega⟩⟩
 ·refine af.exit ?_;have hil:i=L.length:=by omega
  refine qq<|qj fun K hK=>qm ?_;refine qm ?_;refine qe hK<|af.ret ⟨rx,_,_,_,rfl,rfl,?_⟩;rw[List.take_of_length_le (by simp;omega)] at hH;exact⟨_,hH⟩
theorem o3 {N ks kv:Nat} {S s0:St} {H:List bC} {p:Pg} {pl:Nat} {ld:D} {L:List VL} (hp:p.ok) (Nv:L.length≤1000) (a_:∀l∈L,l.eH.length≤1000) (hM:MH [] N S s0 ks kv p pl ld L H):
  ∃d ah,Ev pv 16 [.ptr kv 0 0] s0 d ah∧d=t_ pl (L.map VL.pl)∧ah=s0:=by
 obtain⟨pd,qd,P,Q,sn,hH,jz,gY⟩:=hM;dsimp only[u4] at hH;have Sn:=hH.at ay;have gM:=(hH.ge ay).2;have sy:=hH.rows gw;have TN:∀(i:Nat) (l:VL),L[i]?=some l→V.Rows s0 11 l.td (l.eH.map a7):=fun i l hl=>hH.rows (zu [_,_,_,_,_] rfl hl);have Fg:=rX hH gw;have Ff:=hH.uf b5 (k:=ks) rfl;have Fe:=hp.c.ref;have Fc:=hp.s.ref;have J0:refs [p.cd,p.sd,.int .i64 (pl:Nat),ld,.ptr ks 0 0]≤s0.bs.length:=by simp only[refs,D.ref,Fe,Fc];omega
 have eT:s0.ro≤s0.bs.length:=by rw[hH.ex.ro];exact Nat.le_trans hH.eT (Nat.le_trans hH.hN hH.ex.len)
 clear hH Fg Ff Fe Fc;refine Ev.iY rfl Re rfl rfl rfl ?_;dsimp only[u3,u4,List.length,Nat.reduceSub,Nat.reduceAdd,w1,w2];have b_:(ai .rw s0).bs=s0.bs:=rfl;have hF:(ai .rw s0).flr≤s0.bs.length:=Nat.le_refl _;have hH:Has s0.bs.length (ai .rw s0) (ai .rw s0) []:=Has.start (Nat.le_refl _) eT;generalize ai .rw s0=S2 at*;have hx:=Arg.of sy b_;refine qq<|qj fun K hK=>qa hH fun k2 st hk2 hH=>qe hK ?_;have Fs:st.bs[kv]?=some (.mem 0 false [p.cd,p.sd,.int .i64 (pl:Nat),ld,.ptr ks 0 0]):=by rw[hH.ex.low kv gM,b_];exact Sn
 have BU:iS st (.ptr kv 0 2) [.int .i64 (pl:Nat)]:=.inl ⟨kv,0,2,false,_,rfl,St.mem_of Fs,rfl⟩;have F5:iS st (.ptr kv 0 3) [ld]:=.inl ⟨kv,0,3,false,_,rfl,St.mem_of Fs,rfl⟩;have hlen:=hH.ex.len;rw[b_] at hlen;change af _ _ _ _ _ _;refine qq ?_;generalize hK:bW _ _ _ _=K;refine af.zQ rfl<|et.cons<|qm<|ab.nil ⟨rfl,?_⟩;refine et.cons<|qg<|ab.nil ⟨rfl,?_⟩;refine et.cons<|qp (o:=2)<|ab.nil ⟨rfl,?_⟩;refine et.cons<|qR<|ab.nil ⟨rfl,?_⟩;refine et.cons<|qm<|ab.nil ⟨rfl,?_⟩;refine et.cons<|qg<|ab.nil ⟨rfl,?_⟩;refine et.cons<|qp (o:=3)<|ab.nil ⟨rfl,?_⟩;refine et.cons<|qR<|ab.nil ⟨rfl,?_⟩;refine et.cons ?_;obtain⟨yd,st,aH,WL,hH⟩:=y8 hF Nv hx (fun l hl=>⟨by obtain⟨i,hi⟩:=List.getElem?_of_mem hl;exact Arg.of (TN i l hi) b_,a_ l hl⟩) hH;refine qv aH<|ab.nil ⟨by exact Bool.and_eq_true_iff.2 ⟨j0 rfl rfl rfl Fs (by rw[hH.ex.low kv gM,b_];exact Sn) Fs (by omega),rfl⟩,?_⟩;refine et.cons ?_;refine ab.fe (qs:=[(0,_),(1,_)]) rfl rfl rfl rfl ⟨rfl,(ev rfl),(by rfl),rfl,(ev rfl),(by exact hH.sO (by exact ay)),trivial⟩ (by intro q hq;simp only[List.mem_cons,List.not_mem_nil,or_false] at hq;rcases hq with rfl|rfl<;>exact⟨rfl,by exact Nat.le_of_ble_eq_true rfl⟩) (by show List.foldl _ [_,_] _=_;dsimp only[List.foldl_cons,List.foldl_nil,u2,u1]<;>rfl) (ag rfl _) ?_;refine ab.nil ⟨rfl,?_⟩;refine et.cons<|qS hH b5 fun st hH=>?_;dsimp only[u2,u1,u3,u4,setMany,u5,u6,D.cells,Nat.reduceAdd,aM,a7,bz,aT,fI,rG] at hH;refine ab.nil ⟨rfl,?_⟩;refine et.nil ?_;subst hK;have h1:=hH.oG ay (n:=14) (by decide)
 have h3:bo st s0.bs.length false 16 (.agg [.int .i64 (pl:Nat),yd])=some (t_ pl (L.map VL.pl)):=by
  show(fZ (bo st s0.bs.length false 15) [.int .i64 (pl:Nat),yd]).map D.agg=_;simp only[fZ,h1]
  rfl
 refine af.ret ⟨rx,_,_,_,hH.rv rfl b5 rfl,aj h3,rfl,?_⟩
 have Vy:st.bs.take s0.bs.length=s0.bs:=by
  refine List.ext_getElem? fun j=>?_;rw[List.getElem?_take]
  by_cases hj:j<s0.bs.length
  ·rw[if_pos hj,hH.ex.low j hj,b_]
  ·rw[if_neg hj,List.getElem?_eq_none (by omega)]
 rw[Vy]
def lU (fr:Go.V.Fr) (k:Nat):Go.V.D:=Go.V.nth .bp fr.loc k
theorem Ao (f:wR):kC pv .neq 49 (.agg (aT f)) (.agg (aT f))=some (.bool false):=by
 have h:∀b c d e g i j k l m:Int,kC pv .neq 49 (.agg [.int .i64 b,.int .i64 c,.int .i64 d,.int .i64 e,.int .i64 g,.int .i64 i,.int .i64 j,.int .i64 k,.int .i64 l,.int .i64 m]) (.agg [.int .i64 b,.int .i64 c,.int .i64 d,.int .i64 e,.int .i64 g,.int .i64 i,.int .i64 j,.int .i64 k,.int .i64 l,.int .i64 m])=Option.map (fun b=>D.bool !b) (match some (b==b) with|some true=>(match some (c==c) with|some true=>(match some (d==d) with|some true=>(match some (e==e) with|some true=>(match some (g==g) with|some true=>(match some (i==i) with|some true=>(match some (j==j) with|some true=>(match some (k==k) with|some true=>(match some (l==l) with|some true=>(match some (m==m) with|some true=>some true|some false=>some false|none=>none)|some false=>some false|none=>none)|some false=>some false|none=>none)|some false=>some false|none=>none)|some false=>some false|none=>none)|some false=>some false|none=>none)|some false=>some false|none=>none)|some false=>some false|none=>none)|some false=>some false|none=>none)|some false=>some false|none=>none):=fun _ _ _ _ _ _ _ _ _ _=>rfl;unfold aT;rw[h];simp only[beq_self_eq_true,Option.map_some,Bool.not_true]
theorem ER (t:iB):kC pv .neq 70 (.agg (a7 t)) (.agg (a7 t))=some (.bool false):=by
 have h:∀a b c d e g i j k l m:Int,kC pv .neq 70 (.agg [.int .i64 a,.int .i64 b,.int .i64 c,.int .i64 d,.int .i64 e,.int .i64 g,.int .i64 i,.int .i64 j,.int .i64 k,.int .i64 l,.int .i64 m]) (.agg [.int .i64 a,.int .i64 b,.int .i64 c,.int .i64 d,.int .i64 e,.int .i64 g,.int .i64 i,.int .i64 j,.int .i64 k,.int .i64 l,.int .i64 m])=Option.map (fun b=>D.bool !b) (match some (a==a) with|some true=>(match(match some (b==b) with|some true=>(match some (c==c) with|some true=>(match some (d==d) with|some true=>(match some (e==e) with|some true=>(match some (g==g) with|some true=>(match some (i==i) with|some true=>(match some (j==j) with|some true=>(match some (k==k) with|some true=>(match some (l==l) with|some true=>(match some (m==m) with|some true=>some true|some false=>some false|none=>none)|some false=>some false|none=>none)|some false=>some false|none=>none)|some false=>some false|none=>none)|some false=>some false|none=>none)|some false=>some false|none=>none)|some false=>some false|none=>none)|some false=>some false|none=>none)|some false=>some false|none=>none)|some false=>some false|none=>none) with|some true=>some true|some false=>some false|none=>none)|some false=>some false|none=>none):=fun _ _ _ _ _ _ _ _ _ _ _=>rfl;unfold a7;rw[h];simp only[beq_self_eq_true,Option.map_some,Bool.not_true]
theorem vt {s0:St} {x y:D} {l:List iB} (hx:V.Rows s0 11 x (l.map a7)) (hy:V.Rows s0 11 y (l.map a7)) (hl:l.length≤1073741824):Ev pv 30 [x,y] s0 (.bool true) s0:=by
 refine Ev.nZ rfl Q7 rfl rfl rfl ?_;dsimp only[u3,u4,List.length,Nat.reduceSub,Nat.reduceAdd,w1,w2];obtain⟨b_,hF,hH⟩:=ri s0;generalize ai .ro s0=S at*;have hx:=Arg.of hx b_;have hy:=Arg.of hy b_;refine qq<|qj fun K hK=>qm ?_;refine qe hK<|qq<|qq<|qj fun K hK=>qm ?_;refine qn ?_;simp only[List.length_map];refine qm ?_;refine qn ?_;simp only[List.length_map];refine qg ?_;refine qe hK<|qE rfl (by simp) ?_;refine af.skip<|qq<|qq<|qj fun K hK=>qm ?_;refine qe hK<|af.block<|af.loop (fun mm fr st=>∃(i:Nat),fr.clean=⟨6,[x,y,lU fr 2,lU fr 3,.bool false,.int .i64 (i:Nat)],[]⟩∧Has s0.bs.length S st []∧(i+mm=l.length)) (l.length) ?_ ?_
 ·exact⟨0,rfl,hH,by omega⟩
 rintro mm fr st ⟨i,hfr,hH,hi⟩;rw[hfr];clear hfr;generalize lU fr=ee;clear fr;refine qq<|qq<|qj fun K hK=>qm ?_;refine qm ?_;refine qn ?_;simp only[List.length_map];refine qg ?_;refine qe hK ?_;refine af.cond (by rfl) (fun h1=>?_) (fun h1=>?_)<;>try simp only[decide_eq_true_eq,decide_eq_false_iff_not] at h1
 ·refine af.skip ?_
  obtain⟨p,hp⟩:∃p,l[i]?=some p:=⟨l[i]'(by omega),List.getElem?_eq_getElem _⟩
  have gD:=rp hp;refine qq<|af.block<|qq<|qj fun K hK=>qm ?_;refine qm ?_;refine qr fun To Pj=>?_;refine ab.dE rfl (ev rfl) (by assumption) rfl (ag rfl _) ?_;refine qm ?_;refine qm ?_;refine qr fun R3 MF=>?_;refine ab.dE rfl (ev rfl) (by assumption) rfl (ag rfl _) ?_;refine ab.Ou rfl (ev rfl) (ev rfl) (ER p) (ag rfl _) ?_;refine qe hK<|qC ?_;refine af.skip<|qj fun K hK=>qm ?_;refine qA ?_;refine qm ?_;refine qe hK ?_;exact⟨mm-1,by omega,⟨i+1,rfl,hH,by omega⟩⟩
 ·refine af.exit<|qq<|qj fun K hK=>qm ?_;refine qe hK<|af.ret ⟨rx,_,rfl,rl b_ hH (rfl)⟩
def x0 (es:List (List D)) (L:List PL):Prop:=es.length=L.length∧∀(i:Nat) l,L[i]?=some l→∃d,fK d 11 (l.eH.map a7)∧es[i]?=some (bz l.dn l.bB d)
theorem n_ (L:List PL):x0 (L.map rG) L:=⟨List.length_map _,fun i l h=>⟨Oa l.eH,Lq _,Jz h⟩⟩
theorem jU {L:List PL} (h:∀l∈L,l.eH=[]):x0 (L.map uF) L:=⟨List.length_map _,fun i l hl=>⟨.nul,by rw[h l (List.mem_of_getElem? hl)];exact .inl ⟨rfl,rfl⟩,by rw[List.getElem?_map,hl];rfl⟩⟩
theorem oc {s0:St} {x y:D} {es fs:List (List D)} {L:List PL} (hx:V.Rows s0 12 x es) (hy:V.Rows s0 12 y fs) (uy:x0 es L) (Vm:x0 fs L) (hl:L.length≤1073741824) (F1:∀l∈L,l.eH.length≤1000):Ev pv 13 [x,y] s0 (.bool true) s0:=by
 obtain⟨oz,Vr⟩:=uy;obtain⟨mT,Vo⟩:=Vm;refine Ev.nZ rfl Ri rfl rfl rfl ?_;dsimp only[u3,u4,List.length,Nat.reduceSub,Nat.reduceAdd,w1,w2];obtain⟨b_,hF,hH⟩:=ri s0;generalize ai .ro s0=S at*;have hx:=Arg.of hx b_;have hy:=Arg.of hy b_;refine qq<|qj fun K hK=>qm ?_;refine qe hK<|qq<|qq<|qj fun K hK=>qm ?_;refine qn ?_;refine qm ?_;refine qn ?_;refine qg ?_;refine qe hK<|qE rfl (by rw[oz,mT];simp) ?_;refine af.skip<|qq<|qq<|qj fun K hK=>qm ?_;refine qe hK<|af.block<|af.loop (fun mm fr st=>∃(i:Nat),fr.clean=⟨6,[x,y,lU fr 2,lU fr 3,.bool false,.int .i64 (i:Nat)],[]⟩∧Has s0.bs.length S st []∧(i+mm=es.length)) (es.length) ?_ ?_
 ·exact⟨0,rfl,hH,by omega⟩
 rintro mm fr st ⟨i,hfr,hH,hi⟩;rw[hfr];clear hfr;generalize lU fr=ee;clear fr;refine qq<|qq<|qj fun K hK=>qm ?_;refine qm ?_;refine qn ?_;refine qg ?_;refine qe hK ?_;refine af.cond (by rfl) (fun h1=>?_) (fun h1=>?_)<;>try simp only[decide_eq_true_eq,decide_eq_false_iff_not] at h1
 ·refine af.skip ?_
  obtain⟨l,vc⟩:∃l,L[i]?=some l:=⟨L[i]'(by omega),List.getElem?_eq_getElem _⟩
  obtain⟨d1,yR,gD⟩:=Vr i l vc;obtain⟨d2,vd,o6⟩:=Vo i l vc;have pg:=F1 l (List.mem_of_getElem? vc);have a8:(l.dn !=l.dn)=false:=by simp
  have l6:false=false:=rfl;refine qq<|af.block<|qq<|af.j8 54 (.bool false) [] ?_ (fun ff tmp gB=>?_)
  ·refine qm ?_;refine qm ?_;refine qr fun To Pj=>?_;refine qf (fo:=0) fun Ol J6=>?_;refine qR ?_;refine qm ?_;refine qm ?_;refine qr fun LX AS=>?_;refine qf (fo:=0) fun LW AR=>?_;refine qR ?_;refine qg ?_;refine qm ?_;refine qm ?_ (hg:=wi a8);refine qm ?_ (hg:=wi a8);refine qr (fun WH Uu=>?_) (hg:=wi a8);refine qf (fo:=1) (fun WG Ut=>?_) (hg:=wi a8);refine qR ?_ (hg:=wi a8);refine qm ?_ (hg:=wi a8);refine qm ?_ (hg:=wi a8);refine qr (fun RZ MC=>?_) (hg:=wi a8);refine qf (fo:=1) (fun RY MB=>?_) (hg:=wi a8);refine qR ?_ (hg:=wi a8);refine ab.Ou (aB rfl rfl rfl a8) (ev rfl) (ev rfl) (Ao l.bB) (ag rfl _) ?_;refine qu a8 ?_;refine qm ?_;refine qm ?_ (hg:=wi l6);refine qm ?_ (hg:=wi l6);refine qr (fun WA Uo=>?_) (hg:=wi l6);refine qf (fo:=11) (fun Wz Un=>?_) (hg:=wi l6);refine qR ?_ (hg:=wi l6);refine qm ?_ (hg:=wi l6);refine qm ?_ (hg:=wi l6);refine qr (fun RX MA=>?_) (hg:=wi l6);refine qf (fo:=11) (fun RW Mz=>?_) (hg:=wi l6);refine qR ?_ (hg:=wi l6);refine qv (vt (yR.rows _) (vd.rows _) (by omega)) ?_ (hg:=wi l6);refine qg ?_ (hg:=wi l6);refine qu l6 ?_;refine ab.nil (cP ?_ ?_)
   ·dsimp only[aI,List.foldl,nth,u2,u1]
    all_goals(first|rfl|simp)
   ·dsimp only[Fr.aC,Fr.put,Fr.clean,Fr.ev,Fr.get,nth,look,u1,u2,v1,v2,v4]
    all_goals(rfl)
  dsimp only[aI,List.foldl,nth,u2,u1];dsimp only[Fr.aC,Fr.put,Fr.clean,Fr.ev,Fr.get,nth,look,u1,u2,v1,v2,v4];refine qC ?_;refine af.skip<|qj fun K hK=>qm ?_;refine qA ?_;refine qm ?_;refine qe hK ?_;exact⟨mm-1,by omega,⟨i+1,rfl,hH,by omega⟩⟩
 ·refine af.exit<|qq<|qj fun K hK=>qm ?_;refine qe hK<|af.ret ⟨rx,_,rfl,rl b_ hH (rfl)⟩
theorem tZ {s0:St} {pl:Nat} {L:List PL} (hl:L.length≤1000) (F1:∀l∈L,l.eH.length≤1000):Ev pv 15 [t_ pl L,t_ pl L] s0 (.bool true) s0:=by
 unfold t_;refine Ev.nZ rfl Rf rfl rfl rfl ?_;dsimp only[u3,u4,List.length,Nat.reduceSub,Nat.reduceAdd,w1,w2];obtain⟨b_,hF,hH⟩:=ri s0;generalize ai .ro s0=S at*;have bc:(((pl:Nat):Int)==((pl:Nat):Int))=true:=by simp
 refine qq<|qj fun K hK=>qb hH fun k2 st hk2 hH=>?_;refine qb hH fun k3 st NZ hH=>?_;refine qm ?_;refine qe hK<|qq<|qj fun K hK=>qp (o:=0) ?_;refine ql hH b5 ?_;refine qp (o:=0) ?_;refine ql hH ay ?_;refine qg ?_;refine qm ?_;refine qp (o:=1) ?_ (hg:=wi bc);refine ql hH b5 ?_ (hg:=wi bc);refine qp (o:=1) ?_ (hg:=wi bc);refine ql hH ay ?_ (hg:=wi bc);refine qv (oc ((ub L).rows _) ((ub L).rows _) (n_ L) (n_ L) (by omega) F1) ?_ (hg:=wi bc);refine qt bc ?_;refine qm ?_;refine qe hK<|af.ret ⟨rx,_,rfl,rl b_ hH (rfl)⟩
open Go.V Go Go.RowKit
theorem nz (code:List aG) (pl:Nat) (e:Bool):∀(f:Nat) (w:Wk) (t:iB),cA (code.map dK) pl e f w t=cA code pl e f w t
 |0,_,_=>rfl
 |f+1,w,t=>by
  unfold cA;simp only[nz code pl e f,List.getElem?_map]
  cases code[t.pc]? with
  |none=>rfl
  |some i=>rfl
theorem oJ (code:List aG) (pl:Nat) (e:Bool):∀(l:List iB) (w:Wk),oK (code.map dK) pl e l w=oK code pl e l w
 |[],_=>rfl
 |t::ts,w=>by
  unfold oK;simp only[nz,List.length_map,oJ code pl e ts]
theorem yj (code:List aG) (k:Nat):yk (code.map dK) k=yk code k:=by
 unfold yk;rw[List.getElem?_map];cases code[k]?<;>rfl
theorem nY (code:List aG) (r:Int):∀(l a:List iB),fS (code.map dK) r l a=fS code r l a
 |[],_=>rfl
 |t::ts,a=>by unfold fS;simp only[yj,nY code r ts]
theorem vj (code:List aG) (pl s:Nat) (r:Int) (l:PL):eW (code.map dK) pl s r l=eW code pl s r l:=by
 unfold eW;simp only[oJ,nY,List.length_map]
theorem ji (code:List aG) (pl:Nat) (r:Int):∀(ss:List Nat) (ls:List PL),gf (code.map dK) pl r ss ls=gf code pl r ss ls
 |[],_=>rfl
 |_::_,[]=>rfl
 |s::ss,l::ls=>by simp only[gf,vj,ji code pl r ss ls]
theorem qN (code:List aG) (pl:Nat):j7 (code.map dK) pl=j7 code pl:=by
 funext l;unfold j7;simp only[oJ,List.length_map]
theorem sS.bZ {p q:Pg} (h:sS p q):bZ q=bZ p:=by unfold Go.Proofs.Ytbdnabmmlbiomaa.bZ;rw[h.az]
theorem pD {p:Pg} (hR:cj p) {pl:Nat} {r:Int}:∀{ss:List Nat} {ls:List PL},(∀s∈ss,s<p.code.length)→∀l∈gf p.code pl r ss ls,l.ok p.code.length
 |[],_,_,l,hl=>by cases hl
 |_::_,[],_,l,hl=>by cases hl
 |s::ss,x::ls,hs,l,hl=>by
  simp only[gf,List.mem_cons] at hl
  rcases hl with rfl|hl
  ·exact zD hR (hs s (List.mem_cons_self ..))
  ·exact pD hR (fun s h=>hs s (List.mem_cons_of_mem _ h)) l hl
theorem vl {p:Pg} (hR:cj p):∀s∈bZ p,s<p.code.length:=by
 intro s hs;obtain⟨v,hv,rfl⟩:=List.mem_map.1 hs;have:=hR.st v hv;omega
def dH (ks kv:Nat) (p:Pg) (pl:Nat) (ld pd qd:D) (P Q:List Nat) (L:List VL):List bC:=
 .box kv (.mem 0 false [p.cd,p.sd,.int .i64 (pl:Nat),ld,.ptr ks 0 0])::.box ks (.mem 0 false [pd,qd])::.aJ pd 1 (P.map fg)::.aJ qd 2 (Q.map lY)::.aJ ld 12 (L.map fI)::L.map o4
theorem Ar {A:List bC} {N:Nat} {S st:St} {ks kv:Nat} {p:Pg} {pl:Nat} {ld:D} {L:List VL} {H:List bC} (h:MH A N S st ks kv p pl ld L H):∃pd qd P Q sn,Has N S st (A++(dH ks kv p pl ld pd qd P Q L++H))∧cQ P Q sn∧sn.length=p.code.length:=by
 obtain⟨pd,qd,P,Q,sn,hH,h1,h2⟩:=h;exact⟨pd,qd,P,Q,sn,by simpa only[dH,List.cons_append] using hH,h1,h2⟩
theorem L6 {A:List bC} {N:Nat} {S st:St} {ks kv:Nat} {p:Pg} {pl:Nat} {ld:D} {L:List VL} {H:List bC} {pd qd:D} {P Q:List Nat} {sn:List Bool} (hH:Has N S st (A++(dH ks kv p pl ld pd qd P Q L++H))) (h1:cQ P Q sn) (h2:sn.length=p.code.length):MH A N S st ks kv p pl ld L H:=
 ⟨pd,qd,P,Q,sn,by simpa only[dH,List.cons_append] using hH,h1,h2⟩
def MM (A:List bC) (N:Nat) (S st:St) (ks kv:Nat) (p:Pg) (pl:Nat) (ld:D) (L:List VL) (o5 oh:Nat) (p2:Pg) (tD:Nat) (mP:D) (L2:List VL):Prop:=
 ∃pd qd P Q sn tE tC P2 Q2 zG,Has N S st (A++(dH ks kv p pl ld pd qd P Q L++dH o5 oh p2 tD mP tE tC P2 Q2 L2))∧cQ P Q sn∧sn.length=p.code.length∧cQ P2 Q2 zG∧zG.length=p2.code.length
section
variable{A:List bC} {N:Nat} {S st:St} {ks kv o5 oh:Nat} {p p2:Pg} {pl tD:Nat} {ld mP:D} {L L2:List VL}
theorem MM.flip (h:MM A N S st ks kv p pl ld L o5 oh p2 tD mP L2):MM A N S st o5 oh p2 tD mP L2 ks kv p pl ld L:=by
 obtain⟨pd,qd,P,Q,sn,tE,tC,P2,Q2,zG,hH,h1,h2,h3,h4⟩:=h;refine⟨tE,tC,P2,Q2,zG,pd,qd,P,Q,sn,?_,h3,h4,h1,h2⟩;have a:=Has.kK A (dH ks kv p pl ld pd qd P Q L++dH o5 oh p2 tD mP tE tC P2 Q2 L2) (H:=[]) (by rw[List.append_nil];exact hH);rw[List.append_assoc] at a;have b:=Has.kK _ _ a;rw[←List.append_assoc] at b;have c:=Has.kK _ _ b;rw[List.append_nil] at c;exact c
theorem MM.one (h:MM A N S st ks kv p pl ld L o5 oh p2 tD mP L2):∃H,MH [] N S st ks kv p pl ld L H∧∀(B:List bC) (ah:St) (LV:Nat) (Mb:D) (L':List VL),MH B N S ah ks kv p LV Mb L' H→MM (B++A) N S ah ks kv p LV Mb L' o5 oh p2 tD mP L2:=by
 obtain⟨pd,qd,P,Q,sn,tE,tC,P2,Q2,zG,hH,h1,h2,h3,h4⟩:=h
 refine⟨dH o5 oh p2 tD mP tE tC P2 Q2 L2++A,L6 (by
  have a:=Has.kK A (dH ks kv p pl ld pd qd P Q L++dH o5 oh p2 tD mP tE tC P2 Q2 L2) (H:=[]) (by rw[List.append_nil];exact hH);rw[List.append_nil,List.append_assoc] at a
  exact a) h1 h2,fun B ah LV Mb L' hM=>?_⟩
 obtain⟨BR,BQ,P',Q',Ob,VT,Nz,Qf⟩:=Ar hM;refine⟨BR,BQ,P',Q',Ob,tE,tC,P2,Q2,zG,?_,Nz,Qf,h3,h4⟩
 have a:=Has.kK (B++(dH ks kv p LV Mb BR BQ P' Q' L'++dH o5 oh p2 tD mP tE tC P2 Q2 L2)) A (H:=[]) (by rw[List.append_nil];simpa only[List.append_assoc] using VT);have b:Has N S ah (A++(B++((dH ks kv p LV Mb BR BQ P' Q' L'++dH o5 oh p2 tD mP tE tC P2 Q2 L2)++[]))):=by simpa only[List.append_assoc] using a
 have c:=Has.kK _ _ b;rw[List.append_nil] at c
 simpa only[List.append_assoc] using c
theorem MM.drop (n:Nat) (h:MM A N S st ks kv p pl ld L o5 oh p2 tD mP L2) (hn:n≤A.length):MM (A.drop n) N S st ks kv p pl ld L o5 oh p2 tD mP L2:=by
 obtain⟨pd,qd,P,Q,sn,tE,tC,P2,Q2,zG,hH,h1,h2,h3,h4⟩:=h;refine⟨pd,qd,P,Q,sn,tE,tC,P2,Q2,zG,?_,h1,h2,h3,h4⟩;have:=hH.drop n
 rwa [List.drop_append_of_le_length hn] at this
theorem MM.has (h:MM A N S st ks kv p pl ld L o5 oh p2 tD mP L2):Has N S st A:=by
 obtain⟨pd,qd,P,Q,sn,tE,tC,P2,Q2,zG,hH,_⟩:=h;have:=hH.take A.length
 rwa [List.take_left] at this
theorem MM.made {pd qd:D} {P Q:List Nat} {sn:List Bool} (h:MH [] N S st ks kv p pl ld L (dH o5 oh p2 tD mP pd qd P Q L2++A)) (h1:cQ P Q sn) (h2:sn.length=p2.code.length):MM A N S st ks kv p pl ld L o5 oh p2 tD mP L2:=by
 obtain⟨BR,BQ,P',Q',Ob,hH,h3,h4⟩:=Ar h;refine⟨BR,BQ,P',Q',Ob,pd,qd,P,Q,sn,?_,h3,h4,h1,h2⟩;have a:=Has.kK (dH ks kv p pl ld BR BQ P' Q' L++dH o5 oh p2 tD mP pd qd P Q L2) A (H:=[]) (by rw[List.append_nil];simpa only[List.nil_append,List.append_assoc] using hH)
 rwa [List.append_nil] at a
end
end Go.Proofs.Ytbdnabmmlbiomaa
