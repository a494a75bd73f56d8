/-
 A machine's list is expanded.
-/
import Derived.Test.YtbdilgkfnacahaaGreatXGQp
import Derived.Test.YtbdilgkfnacahaaGreatXGQh
set_option maxRecDepth 100000
set_option maxHeartbeats 4000000
set_option linter.unusedSimpArgs false
set_option linter.unusedVariables false
namespace Go.Proofs.YtbdilgkfnacahaaGreat
open Go.V Go
def cj (fr:Go.V.Fr) (k:Nat):Go.V.D:=Go.V.nth .bu fr.loc k
structure VL where
 dn:Bool
 aR:tp
 td:D
 cI:List gM
def fK (l:VL):List D:=aN l.dn l.aR l.td
def py (l:VL):bF:=.aM l.td 11 (l.cI.map aH)
theorem zL (A:List bF) {n:Nat} (hn:A.length=n) {L:List VL} {i:Nat} {l:VL} (h:L[i]?=some l) {H:List bF}:(A++(L.map py++H))[n+i]?=some (py l):=by
 have hi:=bz h;rw[List.getElem?_append_right (by omega),List.getElem?_append_left (by simp;omega),hn,Nat.add_sub_cancel_left,List.getElem?_map,h];rfl
theorem vw {L:List VL} {i:Nat} {l:VL} (h:L[i]?=some l):(L.map fK)[i]?=some (fK l):=by rw[List.getElem?_map,h];rfl
theorem j4 {l:List gM} {i:Nat} {q:gM} (h:l[i]?=some q):(l.map aH)[i]?=some (aH q):=by rw[List.getElem?_map,h];rfl
theorem ja {N:Nat} {S st:St} {H:List bF} {j:Nat} {x:D} {s:Nat} {es:List (List D)} (h:Has N S st H) (hj:H[j]?=some (.aM x s es)):x.ref≤st.bs.length:=by
 rcases Nat.eq_zero_or_pos x.ref with h0|h0
 ·omega
 ·have:=h.oI hj (k:=x.ref-1) (by show x.ref=x.ref-1+1;omega);omega
def MH (A:List bF) (N:Nat) (S st:St) (ks kv:Nat) (p:Pg) (pl:Nat) (ld:D) (L:List VL) (H:List bF):Prop:=
 ∃pd qd P Q sn,Has N S st (A++(.box kv (.mem 0 false [p.cd,p.sd,.int .i64 (pl:Nat),ld,.ptr ks 0 0])::.box ks (.mem 0 false [pd,qd])::.aM pd 1 (P.map fc)::.aM qd 2 (Q.map lU)::.aM ld 12 (L.map fK)::(L.map py++H)))∧dF P Q sn∧sn.length=p.code.length
theorem MH.push (A B:List bF) {N:Nat} {S st:St} {ks kv:Nat} {p:Pg} {pl:Nat} {ld:D} {L:List VL} {H:List bF} (h:MH (A++B) N S st ks kv p pl ld L H):MH B N S st ks kv p pl ld L (A++H):=by
 obtain⟨pd,qd,P,Q,sn,hH,ba,fQ⟩:=h;refine⟨pd,qd,P,Q,sn,?_,ba,fQ⟩;have:=Has.mX (H:=H) A (B++(.box kv (.mem 0 false [p.cd,p.sd,.int .i64 (pl:Nat),ld,.ptr ks 0 0])::.box ks (.mem 0 false [pd,qd])::.aM pd 1 (P.map fc)::.aM qd 2 (Q.map lU)::.aM ld 12 (L.map fK)::L.map py)) (by simpa only[List.append_assoc,List.cons_append] using hH)
 simpa only[List.append_assoc,List.cons_append] using this
theorem MH.pull (A B:List bF) {N:Nat} {S st:St} {ks kv:Nat} {p:Pg} {pl:Nat} {ld:D} {L:List VL} {H:List bF} (h:MH B N S st ks kv p pl ld L (A++H)):MH (A++B) N S st ks kv p pl ld L H:=by
 obtain⟨pd,qd,P,Q,sn,hH,ba,fQ⟩:=h;refine⟨pd,qd,P,Q,sn,?_,ba,fQ⟩;have:=Has.mX (H:=H) (B++(.box kv (.mem 0 false [p.cd,p.sd,.int .i64 (pl:Nat),ld,.ptr ks 0 0])::.box ks (.mem 0 false [pd,qd])::.aM pd 1 (P.map fc)::.aM qd 2 (Q.map lU)::.aM ld 12 (L.map fK)::L.map py)) A (by simpa only[List.append_assoc,List.cons_append] using hH)
 simpa only[List.append_assoc,List.cons_append] using this
def jx (code:List aL) (pl:Nat) (e:Bool):List gM→Wk→Wk
 |[],w=>w
 |t::ts,w=>if(bK code pl e (code.length+1) w t).2=true then(bK code pl e (code.length+1) w t).1 else jx code pl e ts (bK code pl e (code.length+1) w t).1
def iv (n:Nat) (dn:Bool) (aR:tp):Wk:=⟨List.replicate n false,dn,aR,[]⟩
theorem o3 (code:List aL) (pl:Nat) (e:Bool):∀(l:List gM) (w:Wk),Good code w (jx code pl e l w)
 |[],w=>.refl
 |t::ts,w=>by
  unfold jx
  split
  ·exact b_ ..
  ·exact(b_ ..).trans (o3 code pl e ts _)
theorem rm {N ks kv:Nat} {S s0:St} {H:List bF} {p:Pg} {pl:Nat} {ld:D} {L:List VL} {i:Nat} {l:VL} {e:Bool} (hF:S.flr≤N) (hp:p.ok) (hR:bU p) (ij:pl≤1099511627776) (hl:L[i]?=some l) (Ca:∀t∈l.cI,t.pc<p.code.length) (nP:l.cI.length≤1048576) (hM:MH [] N S s0 ks kv p pl ld L H):
  ∃r ah,Ev pv 42 [.ptr kv 0 0,.int .i64 (i:Nat),.bool e] s0 r ah∧∃rd,r=.tup [.agg (aN (jx p.code pl e l.cI (iv p.code.length l.dn l.aR)).dn (jx p.code pl e l.cI (iv p.code.length l.dn l.aR)).aR .nul),rd]∧MH [.aM rd 11 ((jx p.code pl e l.cI (iv p.code.length l.dn l.aR)).rdy.map aH)] N S ah ks kv p pl ld L H:=by
 obtain⟨pd,qd,P,Q,sn,hH,ba,fQ⟩:=hM;have hcl:=hR.cl;have gk:=vw hl;have hil:=bz hl;generalize hW:jx p.code pl e l.cI (iv p.code.length l.dn l.aR)=W at*;obtain⟨dn,aR,td,cI⟩:=l;simp only at hW Ca nP;dsimp only[u4] at hH;refine Ev.i7 rfl RT rfl rfl rfl ?_;dsimp only[u3,u4,List.length,Nat.reduceSub,Nat.reduceAdd,w1,w2];change af _ _ _ _ s0 _;refine qq<|qj fun K hK=>qa hH fun k6 st K' hH=>?_;refine qm ?_;refine qe hK<|qq<|qj fun K hK=>qm ?_;refine qg ?_;refine qp (o:=3) ?_;refine ql hH bC ?_;refine qm ?_;refine qi hH pC fun Pj KZ=>?_;refine ab.rW hH rfl (ev rfl) (by assumption) (by exact pC) (by assumption) rfl (by dsimp only[Fr.put,u1,u2]<;>rfl) ?_;refine qa hH fun k8 st L6 hH=>?_;refine qS hH ax fun st hH=>?_;dsimp only[u2,u1,u3,u4,setMany,u5,u6,D.cells,Nat.reduceAdd,aB,aH,aN,aA,fK] at hH;refine qe hK<|qq<|qj fun K hK=>qp (o:=0) ?_;refine ql hH ax ?_;refine qp (o:=1) ?_;refine ab.aT (m:=10) hH rfl (ev rfl) (by exact ax) (by dsimp only[List.drop_succ_cons,List.drop_zero,List.take_succ_cons,List.take_zero,aB,aH,aN,aA,fK]<;>rfl) rfl rfl (by dsimp only[Fr.put,u1,u2]<;>rfl) ?_;refine ab.go (d:=.agg (aN dn aR .nul)) (st1:=_) rfl rfl rfl (by dsimp only[Fr.put,u1,u2]<;>rfl) ?_;refine qa hH fun k9 st Qs hH=>?_;refine qS hH ax fun st hH=>?_;dsimp only[u2,u1,u3,u4,setMany,u5,u6,D.cells,Nat.reduceAdd,aB,aH,aN,aA,fK] at hH;refine qe hK<|qq<|qj fun K hK=>qm ?_;refine ab.fu (qs:=[(0,_),(2,_)]) rfl rfl rfl rfl ⟨rfl,(ev rfl),(by rfl),rfl,(ev rfl),(by rfl),trivial⟩ (by intro q hq;simp only[List.mem_cons,List.not_mem_nil,or_false] at hq;rcases hq with rfl|rfl<;>exact⟨rfl,by exact Nat.le_of_ble_eq_true rfl⟩) (by show List.foldl _ [_,_,_] _=_;dsimp only[List.foldl_cons,List.foldl_nil,u2,u1]<;>rfl) (by dsimp only[Fr.put,u1,u2]<;>rfl) ?_;refine qb hH fun k27 st VX hH=>?_;refine qm ?_;refine qe hK ?_;have cp:=hH;refine qq<|qj fun K hK=>qm ?_;refine qg ?_;refine qp (o:=4) ?_;refine ql hH fT ?_;obtain⟨_,st,aI,rfl,pd,qd,P,Q,hH,ba⟩:=mT [_,_,_,_,_] hF ba hH;dsimp only[u3,u4] at hH;refine qv aI ?_;refine qe hK ?_;clear cp;rw[fQ] at ba;have hH:=Has.mX [_,_,_,_] [_] hH;have hH:=Has.mX [_,_,_,_,_] [_,_,_] hH;have hH:=Has.mX [_,_,_] [_,_,_] hH;have hH:=Has.mX [_] [_,_,_] (hH.dP 11);dsimp only[u3,u4] at hH;have PS:=hH.rows (zL [_,_,_,_,_,_,_,_,_,_] rfl hl);have Tq:=o3 p.code pl e cI (iv p.code.length dn aR);refine qq<|qq<|qj fun K hK=>qp (o:=11) ?_;refine ql hH Sr ?_;refine ab.Kl rfl (ev rfl) PS rfl (by dsimp only[Fr.put,u1,u2]<;>rfl) ?_;simp only[List.length_map];refine qm ?_;refine qe hK<|af.block<|af.loop (fun mm fr st=>∃(j:Nat) (w:Wk) (rest:List gM) (rd pd qd:D) (P Q:List Nat),fr.clean=⟨37,[.ptr kv 0 0,.int .i64 (i:Nat),.bool e,cj fr 3,cj fr 4,cj fr 5,.ptr k6 0 0,.nul,.ptr k8 0 0,.ptr k9 0 0,.ptr k27 0 0,cj fr 11,cj fr 12,cj fr 13,cj fr 14,cj fr 15,cj fr 16,cj fr 17,cj fr 18,cj fr 19,cj fr 20,cj fr 21,cj fr 22,cj fr 23,cj fr 24,cj fr 25,cj fr 26,cj fr 27,cj fr 28,cj fr 29,cj fr 30,cj fr 31,cj fr 32,cj fr 33,td,.int .i64 (cI.length:Nat),.int .i64 (j:Nat)],[]⟩∧Has N S st (.box kv (.mem 0 false [p.cd,p.sd,.int .i64 (pl:Nat),ld,.ptr ks 0 0])::.box k27 (.mem 0 false [.ptr k9 0 0,rd,.bool e])::.box k9 (.mem 0 false (aN w.dn w.aR .nul))::.aM rd 11 (w.rdy.map aH)::.box ks (.mem 0 false [pd,qd])::.aM pd 1 (P.map fc)::.aM qd 2 (Q.map lU)::.box k8 (.mem 0 false (aN dn aR td))::.box k6 (.mem 0 false (aN false kY .nul))::.aM ld 12 (L.map fK)::(L.map py++H))∧(j+mm=cI.length)∧(rest=cI.drop j)∧(jx p.code pl e rest w=W)∧(w.seen.length=p.code.length)∧(w.rdy.length+w.seen.count false≤1048576)∧(dF P Q w.seen)) (cI.length) ?_ ?_
 ·exact⟨0,iv p.code.length dn aR,cI,.nul,_,_,_,_,rfl,hH,by omega,rfl,hW,by simp[iv],by(have:=List.count_le_length (a:=false) (l:=(iv p.code.length dn aR).seen);simp[iv] at this⊢;omega),ba⟩
 rintro mm fr st ⟨j,w,rest,rd,pd,qd,P,Q,hfr,hH,hj,iP,hex,gQ,pJ,ba⟩;rw[hfr];clear hfr;generalize cj fr=ee;clear fr;refine qq<|qj fun K hK=>qg ?_;refine qe hK ?_;have PS:=hH.rows (zL [_,_,_,_,_,_,_,_,_,_] rfl hl);refine qq ?_;refine af.cond (by rfl) (fun hlt=>?_) (fun hlt=>?_)<;>try simp only[decide_eq_true_eq,decide_eq_false_iff_not] at hlt
 ·refine af.skip ?_;have iR:j<cI.length:=by omega
  obtain⟨t,ht⟩:∃t,cI[j]?=some t:=⟨cI[j]'iR,List.getElem?_eq_getElem _⟩
  have Ga:=j4 ht;have M5:=Ca t (List.mem_of_getElem? ht)
  have wA:rest=t::cI.drop (j+1):=by
   rw[iP,List.drop_eq_getElem_cons iR]
   congr 1
   exact Option.some.inj ((List.getElem?_eq_getElem _).symm.trans ht)
  have uM:=List.count_le_length (a:=false) (l:=w.seen);have Lf:=b_ p.code pl e (p.code.length+1) w t;rw[wA] at hex;have hex:(if(bK p.code pl e (p.code.length+1) w t).2=true then(bK p.code pl e (p.code.length+1) w t).1 else jx p.code pl e (cI.drop (j+1)) (bK p.code pl e (p.code.length+1) w t).1)=W:=hex;refine qq<|af.block<|qq<|qj fun K hK=>ab.MI rfl (ev rfl) (ev rfl) PS rfl rfl Ga (fun _=>(ag rfl _)) (fun SV Nn=>?_);refine qR ?_;refine qa hH fun k12 st V2 hH=>?_;dsimp only[u2,u1,u3,u4,setMany,u5,u6,D.cells,Nat.reduceAdd,aB,aH,aN,aA,fK] at hH;refine qS hH ax fun st hH=>?_;dsimp only[u2,u1,u3,u4,setMany,u5,u6,D.cells,Nat.reduceAdd,aB,aH,aN,aA,fK] at hH;refine qe hK<|qq<|qj fun K hK=>qm ?_;refine qm ?_;refine ab.aT (m:=11) hH rfl (ev rfl) (by exact ax) (by dsimp only[List.drop_succ_cons,List.drop_zero,List.take_succ_cons,List.take_zero,aB,aH,aN,aA,fK]<;>rfl) rfl rfl (ag rfl _) ?_;have hH:=hH.drop 1;obtain⟨_,st,aI,rfl,hT⟩:=GQ (ks:=ks) (kv:=kv) (kw:=k27) (kl:=k9) (S:=S) (H:=H) (ld:=ld) (e:=e) hF hp hR ij (p.code.length+1) w t _ _ M5 gQ (by omega) pJ ⟨rd,pd,qd,P,Q,hH,ba⟩;refine qv aI ?_;refine qe hK ?_;generalize bK p.code pl e (p.code.length+1) w t=R1 at*;obtain⟨w1,b1⟩:=R1;obtain⟨cM,bk,bG,fg⟩:=Lf;simp only at cM bk bG fg hT hex;obtain⟨rd,pd,qd,P,Q,hH,ba⟩:=hT;have mz:w1.seen.length=p.code.length:=cM.trans gQ
  cases b1 with
  |true=>
   rw[if_pos rfl] at hex;subst hex;refine qB ?_;refine af.exit ?_;have hH:=Has.mX [_,_,_,_,_,_,_] [_,_] hH;dsimp only[u3,u4] at hH;have tl:=hH;have yZ:=ja hH pC;have Gb:=hH.oI fT (k:=k9) rfl;change af _ _ _ _ _ _;refine qq ?_;generalize hK:bX _ _ _ _=K;refine af.rP rfl ?_;refine cE.cons ?_;refine ab.aT (m:=12) hH rfl (ev rfl) (by exact fT) (by dsimp only[List.drop_succ_cons,List.drop_zero,List.take_succ_cons,List.take_zero,aB,aH,aN,aA,fK]<;>rfl) rfl rfl (ag rfl _) ?_;refine ab.nil ⟨rfl,?_⟩;refine cE.cons ?_;refine qm ?_;refine ab.nil ⟨rfl,?_⟩;refine cE.cons ?_;refine qg ?_;refine ab.nil ⟨rfl,?_⟩;refine cE.cons ?_;refine qp (o:=1) ?_;refine ab.nil ⟨rfl,?_⟩;refine cE.cons ?_;refine ql hH ef ?_;refine ab.nil ⟨rfl,?_⟩;refine cE.cons ?_;refine qS hH bC fun st hH=>?_;dsimp only[u2,u1,u3,u4,setMany,u5,u6,D.cells,Nat.reduceAdd,aB,aH,aN,aA,fK] at hH;refine ab.nil ⟨by exact Bool.and_eq_true_iff.2 ⟨gv rfl rfl rfl (tl.at ef) (hH.at ef) (tl.at ef) (by simp only[refs,D.ref];omega),rfl⟩,?_⟩;refine cE.cons ?_;refine qm ?_;refine ab.nil ⟨rfl,?_⟩;refine cE.nil ?_;subst hK;refine af.ret ⟨rx,_,_,_,hH.jB rfl bC rfl rfl,rfl,rd,rfl,pd,qd,P,Q,_,?_,ba,mz⟩;exact((Has.mX [_,_,_] [_] (hH.drop 2)).erase 2).erase 2
  |false=>
   rw[if_neg (by decide)] at hex;refine qC ?_;refine af.skip<|qj fun K hK=>qA ?_;refine qm ?_;refine qe hK ?_;exact⟨mm-1,by omega,⟨j+1,w1,cI.drop (j+1),rd,pd,qd,P,Q,rfl,hH,by omega,rfl,hex,mz,by omega,ba⟩⟩
 ·refine af.exit ?_;have sM:rest=[]:=by rw[iP,List.drop_eq_nil_iff];omega
  subst sM;have hex:w=W:=hex;subst hex;have hH:=Has.mX [_,_,_,_,_,_,_] [_,_] hH;dsimp only[u3,u4] at hH;have tl:=hH;have yZ:=ja hH pC;have Gb:=hH.oI fT (k:=k9) rfl;change af _ _ _ _ _ _;refine qq ?_;generalize hK:bX _ _ _ _=K;refine af.rP rfl ?_;refine cE.cons ?_;refine ab.aT (m:=12) hH rfl (ev rfl) (by exact fT) (by dsimp only[List.drop_succ_cons,List.drop_zero,List.take_succ_cons,List.take_zero,aB,aH,aN,aA,fK]<;>rfl) rfl rfl (ag rfl _) ?_;refine ab.nil ⟨rfl,?_⟩;refine cE.cons ?_;refine qm ?_;refine ab.nil ⟨rfl,?_⟩;refine cE.cons ?_;refine qg ?_;refine ab.nil ⟨rfl,?_⟩;refine cE.cons ?_;refine qp (o:=1) ?_;refine ab.nil ⟨rfl,?_⟩;refine cE.cons ?_;refine ql hH ef ?_;refine ab.nil ⟨rfl,?_⟩;refine cE.cons ?_;refine qS hH bC fun st hH=>?_;dsimp only[u2,u1,u3,u4,setMany,u5,u6,D.cells,Nat.reduceAdd,aB,aH,aN,aA,fK] at hH;refine ab.nil ⟨by exact Bool.and_eq_true_iff.2 ⟨gv rfl rfl rfl (tl.at ef) (hH.at ef) (tl.at ef) (by simp only[refs,D.ref];omega),rfl⟩,?_⟩;refine cE.cons ?_;refine qm ?_;refine ab.nil ⟨rfl,?_⟩;refine cE.nil ?_;subst hK;refine af.ret ⟨rx,_,_,_,hH.jB rfl bC rfl rfl,rfl,rd,rfl,pd,qd,P,Q,_,?_,ba,gQ⟩;exact((Has.mX [_,_,_] [_] (hH.drop 2)).erase 2).erase 2
def bw (fr:Go.V.Fr) (k:Nat):Go.V.D:=Go.V.nth .bu fr.loc k
def f' (l:List gM) (k:Nat):Bool:=l.any fun x=>x.pc==k
def ju (l:List gM) (t:gM):List gM:=if f' l t.pc=true then l else l++[t]
def tI (code:List aL) (pc:Nat):List Rg:=match code[pc]? with
 |some i=>i.rs
 |none=>[]
def eV (code:List aL) (r:Int):List gM→List gM→List gM
 |[],a=>a
 |t::ts,a=>eV code r ts (if iK (tI code t.pc) r=true then ju a ⟨t.pc+1,t.c⟩ else a)
structure PL where
 dn:Bool
 aR:tp
 cI:List gM
def eT (code:List aL) (pl start:Nat) (r:Int) (l:PL):PL:=
 ⟨(jx code pl false l.cI (iv code.length l.dn l.aR)).dn,(jx code pl false l.cI (iv code.length l.dn l.aR)).aR,
  if(jx code pl false l.cI (iv code.length l.dn l.aR)).dn=true then eV code r (jx code pl false l.cI (iv code.length l.dn l.aR)).rdy []
  else ju (eV code r (jx code pl false l.cI (iv code.length l.dn l.aR)).rdy []) ⟨start,ch⟩⟩
theorem oW (l:List gM) (t:gM) (k:Nat):f' (l++[t]) k=(f' l k||t.pc==k):=by
 unfold f';rw[List.any_append];simp
theorem pr (l:List gM) (t:gM):(ju l t).length≤l.length+1:=by
 unfold ju;split
 ·omega
 ·simp
theorem vm {l:List gM} {t x:gM} (h:x∈ju l t):x∈l∨x=t:=by
 unfold ju at h;split at h
 ·exact .inl h
 ·rcases List.mem_append.1 h with h|h
  ·exact .inl h
  ·exact .inr (by simpa using h)
theorem oB {code:List aL} {r:Int}:∀(l a:List gM),(eV code r l a).length≤l.length+a.length∧∀x∈eV code r l a,x∈a∨∃t∈l,x.pc=t.pc+1
 |[],a=>⟨by simp[eV],fun x h=>.inl h⟩
 |t::ts,a=>by
  unfold eV
  split
  ·obtain⟨h1,h2⟩:=oB (code:=code) (r:=r) ts (ju a ⟨t.pc+1,t.c⟩);have:=pr a ⟨t.pc+1,t.c⟩;refine⟨by simp only[List.length_cons];omega,fun x hx=>?_⟩
   rcases h2 x hx with h|⟨y,hy,he⟩
   ·rcases vm h with h|h
    ·exact .inl h
    ·exact .inr ⟨t,List.mem_cons_self ..,by rw[h]⟩
   ·exact .inr ⟨y,List.mem_cons_of_mem _ hy,he⟩
  ·obtain⟨h1,h2⟩:=oB (code:=code) (r:=r) ts a;refine⟨by simp only[List.length_cons];omega,fun x hx=>?_⟩
   rcases h2 x hx with h|⟨y,hy,he⟩
   ·exact .inl h
   ·exact .inr ⟨y,List.mem_cons_of_mem _ hy,he⟩
def PL.ok (n:Nat) (l:PL):Prop:=(∀t∈l.cI,t.pc<n)∧l.cI.length≤1000
theorem lW {code:List aL} {pl:Nat} {e:Bool} {l:List gM} {dn:Bool} {aR:tp}:(jx code pl e l (iv code.length dn aR)).rdy.length≤code.length∧∀t∈(jx code pl e l (iv code.length dn aR)).rdy,∃i,code[t.pc]?=some i∧i.op=1:=by
 obtain⟨_,_,h3,h4⟩:=o3 code pl e l (iv code.length dn aR);have:=List.count_le_length (a:=false) (l:=(iv code.length dn aR).seen);simp only[iv,List.length_replicate,List.length_nil] at h3 this;refine⟨by simp only[iv];omega,fun t ht=>?_⟩
 rcases h4 t ht with h|h
 ·simp[iv] at h
 ·exact h
theorem oq {p:Pg} (hR:bU p) {t:gM} (h:∃i,p.code[t.pc]?=some i∧i.op=1):t.pc+1<p.code.length:=by
 obtain⟨i,hi,h1⟩:=h;have:=iU (hR.sh t.pc i hi);omega
theorem zU {p:Pg} (hR:bU p) {pl start:Nat} {r:Int} {l:PL} (hs:start<p.code.length):(eT p.code pl start r l).ok p.code.length:=by
 obtain⟨h1,h2⟩:=lW (code:=p.code) (pl:=pl) (e:=false) (l:=l.cI) (dn:=l.dn) (aR:=l.aR);have hcl:=hR.cl;unfold eT PL.ok;generalize jx p.code pl false l.cI (iv p.code.length l.dn l.aR)=w at*;obtain⟨h3,h4⟩:=oB (code:=p.code) (r:=r) w.rdy []
 have h5:∀x∈eV p.code r w.rdy [],x.pc<p.code.length:=fun x hx=>by
  rcases h4 x hx with h|⟨t,ht,he⟩
  ·cases h
  ·have:=oq hR (h2 t ht);omega
 simp only[List.length_nil] at h3;simp only
 split
 ·exact⟨h5,by omega⟩
 ·refine⟨fun x hx=>?_,?_⟩
  ·rcases vm hx with h|h
   ·exact h5 x h
   ·rw[h];exact hs
  ·have:=pr (eV p.code r w.rdy []) ⟨start,ch⟩;omega
theorem zT (iJ:∀st,Ev pv 57 [] st (.agg (aA ch)) st) {N ks kv:Nat} {S s0:St} {H:List bF} {p:Pg} {pl:Nat} {ld:D} {L:List VL} {i start:Nat} {l:VL} {r:Int} (hF:S.flr≤N) (hp:p.ok) (hR:bU p) (ij:pl≤1099511627776) (hl:L[i]?=some l) (KM:p.az[i]?=some ((start:Nat):Int)) (Ca:(⟨l.dn,l.aR,l.cI⟩:PL).ok p.code.length) (hM:MH [] N S s0 ks kv p pl ld L H):
  ∃d ah,Ev pv 44 [.ptr kv 0 0,.int .i64 (i:Nat),.int .i32 r] s0 d ah∧∃td,d=.agg (aN (eT p.code pl start r ⟨l.dn,l.aR,l.cI⟩).dn (eT p.code pl start r ⟨l.dn,l.aR,l.cI⟩).aR td)∧MH [.aM td 11 ((eT p.code pl start r ⟨l.dn,l.aR,l.cI⟩).cI.map aH)] N S ah ks kv p pl ld L H:=by
 have hcl:=hR.cl;have hc:=hp.c.arg N S;have hs:=hp.s.arg N S;have hlen:=hp.cl;have KI:start<p.code.length:=by have:=(hR.st _ (List.mem_of_getElem? KM)).2;omega
 have OL:=dW KM;obtain⟨M6,PJ⟩:=Ca;simp only at M6 PJ;obtain⟨hb1,hb2⟩:=lW (code:=p.code) (pl:=pl) (e:=false) (l:=l.cI) (dn:=l.dn) (aR:=l.aR);obtain⟨pd,qd,P,Q,sn,hH,ba,fQ⟩:=hM;dsimp only[u4] at hH;unfold eT;simp only;refine Ev.i7 rfl RR rfl rfl rfl ?_;dsimp only[u3,u4,List.length,Nat.reduceSub,Nat.reduceAdd,w1,w2];change af _ _ _ _ s0 _;refine qq<|qj fun K hK=>qa hH fun k6 st K' hH=>?_;refine qe hK ?_;obtain⟨_,st1,aI,rd,rfl,hM⟩:=rm (e:=false) hF hp hR ij hl M6 (by omega) (MH.push [_] [] ⟨pd,qd,P,Q,sn,hH,ba,fQ⟩);clear ba fQ;have hM:=MH.pull [_] [_] hM;generalize jx p.code pl false l.cI (iv p.code.length l.dn l.aR)=W at*;obtain⟨pd,qd,P,Q,sn,zF,ba,fQ⟩:=hM;dsimp only[u3,u4] at zF;refine qq<|qj fun K hK=>qm ?_;refine qm ?_;have hH:=zF;refine qv aI ?_;refine qm ?_;refine qg ?_;refine qg ?_;refine qa hH fun k7 st OP hH=>?_;refine qS hH ax fun st hH=>?_;dsimp only[u2,u1,u3,u4,setMany,u5,u6,D.cells,Nat.reduceAdd,aB,aH,aN,aA,fK] at hH;refine qm ?_;refine qe hK ?_;clear zF;refine qq<|qj fun K hK=>qm ?_;refine qg ?_;refine qp (o:=4) ?_;refine ql hH ef ?_;obtain⟨_,st,aI,rfl,pd,qd,P,Q,hH,ba⟩:=mT [_,_,_,_] hF ba hH;dsimp only[u3,u4] at hH;refine qv aI ?_;refine qe hK ?_;rw[fQ] at ba;refine qq<|qq<|qj fun K hK=>qm ?_;refine qn ?_ (hR:=hH.rows dp);simp only[List.length_map];refine qm ?_;refine qe hK ?_;have hH:=Has.mX [_] [_] (hH.dP 11);dsimp only[u3,u4] at hH
 obtain⟨A,hA⟩:∃A,eV p.code r W.rdy []=A:=⟨_,rfl⟩
 rw[hA];refine af.block<|af.loop (fun mm fr st=>∃(j:Nat) (acc rest:List gM) (td pd qd:D) (P Q:List Nat) (sn:List Bool),fr.clean=⟨25,[.ptr kv 0 0,.int .i64 (i:Nat),.int .i32 r,bw fr 3,bw fr 4,bw fr 5,.ptr k6 0 0,.ptr k7 0 0,rd,bw fr 9,bw fr 10,bw fr 11,bw fr 12,bw fr 13,bw fr 14,bw fr 15,bw fr 16,bw fr 17,bw fr 18,bw fr 19,bw fr 20,bw fr 21,rd,.int .i64 (W.rdy.length:Nat),.int .i64 (j:Nat)],[]⟩∧Has N S st (.box k7 (.mem 0 false (aN W.dn W.aR td))::.aM td 11 (acc.map aH)::.box k6 (.mem 0 false (aN false kY .nul))::.aM rd 11 (W.rdy.map aH)::.box kv (.mem 0 false [p.cd,p.sd,.int .i64 (pl:Nat),ld,.ptr ks 0 0])::.box ks (.mem 0 false [pd,qd])::.aM pd 1 (P.map fc)::.aM qd 2 (Q.map lU)::.aM ld 12 (L.map fK)::(L.map py++H))∧(j+mm=W.rdy.length)∧(rest=W.rdy.drop j)∧(eV p.code r rest acc=A)∧(acc.length≤j)∧(dF P Q sn)∧(sn.length=p.code.length)∧(∀k,k<p.code.length→sn[k]?=some (f' acc k))) (W.rdy.length) ?_ ?_
 ·refine⟨0,[],W.rdy,.nul,_,_,_,_,_,rfl,hH,by omega,rfl,hA,by simp,ba,by simp,(fun k hk=>by rw[List.getElem?_replicate,if_pos hk];rfl)⟩
 rintro mm fr st ⟨j,acc,rest,td,pd,qd,P,Q,sn,hfr,hH,hj,iP,hex,hal,ba,fQ,th⟩;rw[hfr];clear hfr;generalize bw fr=ee;clear fr;refine qq<|qj fun K hK=>qg ?_;refine qe hK<|qq ?_;refine af.cond (by rfl) (fun hlt=>?_) (fun hlt=>?_)<;>try simp only[decide_eq_true_eq,decide_eq_false_iff_not] at hlt
 ·refine af.skip ?_;have iR:j<W.rdy.length:=by omega
  obtain⟨t,ht⟩:∃t,W.rdy[j]?=some t:=⟨W.rdy[j]'iR,List.getElem?_eq_getElem _⟩
  have Ga:=j4 ht;obtain⟨ii,hii,OQ⟩:=hb2 t (List.mem_of_getElem? ht);have G0:=oq hR ⟨ii,hii,OQ⟩;have oQ:=fM hii;have G':=hp.i ii (List.mem_of_getElem? hii);have A9:=G'.1;have A_:=A9.arg N S;have PT:=G'.2
  have wA:rest=t::W.rdy.drop (j+1):=by
   rw[iP,List.drop_eq_getElem_cons iR]
   congr 1
   exact Option.some.inj ((List.getElem?_eq_getElem _).symm.trans ht)
  rw[wA] at hex;have KN:tI p.code t.pc=ii.rs:=by unfold tI;rw[hii]
  unfold eV at hex;rw[KN] at hex;have PZ:f' acc (t.pc+1)=f' acc (t.pc+1):=rfl;generalize QZ:f' acc (t.pc+1)=bq at PZ;have F9:=th (t.pc+1) G0;rw[QZ] at F9;refine qq<|af.block<|qq<|qj fun K hK=>qi hH ef fun Uo Qh=>?_;refine ab.rW hH rfl (ev rfl) (by assumption) (by exact ef) (by assumption) rfl (ag rfl _) ?_;refine qa hH fun k10 st QA hH=>?_;dsimp only[u2,u1,u3,u4,setMany,u5,u6,D.cells,Nat.reduceAdd,aB,aH,aN,aA,fK] at hH;refine qS hH ax fun st hH=>?_;dsimp only[u2,u1,u3,u4,setMany,u5,u6,D.cells,Nat.reduceAdd,aB,aH,aN,aA,fK] at hH;refine qe hK ?_
  cases cT:iK ii.rs r with
  |false=>
   rw[cT,if_neg (by decide)] at hex;refine qq<|qj fun K hK=>qm ?_;refine qg ?_;refine qp (o:=0) ?_;refine qp (o:=0) ?_;refine ql hH pC ?_;refine qp (o:=0) ?_;refine ql hH ax ?_;refine qr fun Pc KV=>?_;refine qf (fo:=3) fun SY Nq=>?_;refine qR ?_;refine qm ?_;refine qv (Bs (A_.rows hH) (by omega)) ?_;refine qm ?_;refine qs ?_ (hg:=wn cT);refine qs ?_ (hg:=wn cT);refine qs ?_ (hg:=wn cT);refine qs ?_ (hg:=wn cT);refine qs ?_ (hg:=wn cT);refine qs ?_ (hg:=wn cT);refine qs ?_ (hg:=wn cT);refine qs ?_ (hg:=wn cT);refine qu cT ?_;refine qe hK<|qC ?_;refine af.skip<|qj fun K hK=>qA ?_;refine qm ?_;refine qe hK ?_;exact⟨mm-1,by omega,⟨j+1,acc,W.rdy.drop (j+1),td,pd,qd,P,Q,sn,rfl,(hH.drop 1),by omega,rfl,hex,by omega,ba,fQ,th⟩⟩
  |true=>
   rw[cT,if_pos rfl] at hex;have hex:eV p.code r (W.rdy.drop (j+1)) (if f' acc (t.pc+1)=true then acc else acc++[⟨t.pc+1,t.c⟩])=A:=hex;rw[QZ] at hex;have nP:t.pc+1<sn.length:=by omega
   refine qq<|qj fun K hK=>qm ?_;refine qg ?_;refine qp (o:=0) ?_;refine qp (o:=0) ?_;refine ql hH pC ?_;refine qp (o:=0) ?_;refine ql hH ax ?_;refine qr fun Pc KV=>?_;refine qf (fo:=3) fun SY Nq=>?_;refine qR ?_;refine qm ?_;refine qv (Bs (A_.rows hH) (by omega)) ?_;refine qm ?_;refine qm ?_ (hg:=wi cT);refine qg ?_ (hg:=wi cT);refine qp (o:=4) ?_ (hg:=wi cT);refine ql hH pC ?_ (hg:=wi cT);refine qp (o:=0) ?_ (hg:=wi cT);refine ql hH ax ?_ (hg:=wi cT);refine qA ?_ (hg:=wi cT);obtain⟨_,st,aI,rfl,pd,qd,P,Q,hH,ba⟩:=l4 [_,_,_,_,_,_] hF F9 ba hH;dsimp only[u3,u4] at hH;refine qv aI ?_ (hg:=wi cT);refine qt cT ?_;refine qe hK ?_
   cases bq with
   |true=>
    rw[if_pos rfl] at hex;refine qC ?_;refine af.skip<|qj fun K hK=>qA ?_;refine qm ?_;refine qe hK ?_;refine⟨mm-1,by omega,⟨j+1,acc,W.rdy.drop (j+1),td,pd,qd,P,Q,sn.set (t.pc+1) true,rfl,(hH.drop 1),by omega,rfl,hex,by omega,ba,by rw[List.length_set];exact fQ,?_⟩⟩;intro k hk
    by_cases hkk:k=t.pc+1
    ·subst hkk;rw[List.getElem?_set_self nP,QZ]
    ·rw[List.getElem?_set_ne (fun e=>hkk e.symm)];exact th k hk
   |false=>
    rw[if_neg (by decide)] at hex;refine qB ?_;refine qq<|qj fun K hK=>qp (o:=0) ?_;refine ql hH ax ?_;refine qA ?_;refine qp (o:=0) ?_;refine qT hH ax fun st hH=>?_;dsimp only[u2,u1,u3,u4,setMany,u5,u6,D.cells,Nat.reduceAdd,aB,aH,aN,aA,fK] at hH;refine qe hK<|qj fun K hK=>qp (o:=11) ?_;refine ql hH bC ?_;refine ab.aT (m:=11) hH rfl (ev rfl) (by exact ax) (by dsimp only[List.drop_succ_cons,List.drop_zero,List.take_succ_cons,List.take_zero,aB,aH,aN,aA,fK]<;>rfl) rfl rfl (ag rfl _) ?_;refine qh (s:=11) (vs:=[_]) hH fun k57 st VK hH=>?_;refine ab.bQ (s:=11) hH rfl (ev rfl) (ev rfl) (by exact ef) (by exact hH.rows (by exact ax)) rfl rfl rfl rfl rfl rfl rfl ⟨(Nat.le_of_ble_eq_true rfl),(Nat.le_of_ble_eq_true rfl)⟩ (fun _=>(ag rfl _)) (by simp only[List.length_cons,List.length_nil,List.length_map]<;>omega) (by exact .inl hF) (fun TX st hH=>?_);dsimp only[u2,u1,u3,u4,setMany,u5,u6,D.cells,Nat.reduceAdd,aB,aH,aN,aA,fK] at hH;refine qp (o:=11) ?_;refine qT hH dp (fun st hH=>?_) (gR:=hH.eI ef);dsimp only[u2,u1,u3,u4,setMany,u5,u6,D.cells,Nat.reduceAdd,aB,aH,aN,aA,fK] at hH;refine qe hK<|qj fun K hK=>qA ?_;refine qm ?_;refine qe hK ?_;refine⟨mm-1,by omega,⟨j+1,acc++[⟨t.pc+1,t.c⟩],W.rdy.drop (j+1),TX,pd,qd,P,Q,sn.set (t.pc+1) true,rfl,(by rw[List.map_append];exact hH.drop 2),by omega,rfl,hex,by simp;omega,ba,by rw[List.length_set];exact fQ,?_⟩⟩;intro k hk;rw[oW]
    by_cases hkk:k=t.pc+1
    ·subst hkk;rw[List.getElem?_set_self nP];simp
    ·rw[List.getElem?_set_ne (fun e=>hkk e.symm),th k hk];have:(t.pc+1==k)=false:=by rw[beq_eq_false_iff_ne];omega
     simp only[this,Bool.or_false]
 ·refine af.exit ?_;have sM:rest=[]:=by rw[iP,List.drop_eq_nil_iff];omega
  subst sM;have hex:acc=A:=hex;subst hex;clear hA iP;have F9:=th start KI;refine qq<|qq<|af.ib (fun fr st=>∃(cI:List gM) (td pd qd:D) (P Q:List Nat) (sn:List Bool) (tmp:List (Nat×D)),fr=⟨25,[bw fr 0,bw fr 1,bw fr 2,bw fr 3,bw fr 4,bw fr 5,.ptr k6 0 0,.ptr k7 0 0,bw fr 8,bw fr 9,bw fr 10,bw fr 11,bw fr 12,bw fr 13,bw fr 14,bw fr 15,bw fr 16,bw fr 17,bw fr 18,bw fr 19,bw fr 20,bw fr 21,bw fr 22,bw fr 23,bw fr 24],tmp⟩∧Has N S st (.box k7 (.mem 0 false (aN W.dn W.aR td))::.aM td 11 (cI.map aH)::.box k6 (.mem 0 false (aN false kY .nul))::.aM rd 11 (W.rdy.map aH)::.box kv (.mem 0 false [p.cd,p.sd,.int .i64 (pl:Nat),ld,.ptr ks 0 0])::.box ks (.mem 0 false [pd,qd])::.aM pd 1 (P.map fc)::.aM qd 2 (Q.map lU)::.aM ld 12 (L.map fK)::(L.map py++H))∧(cI=(if W.dn=true then acc else ju acc ⟨start,ch⟩))∧(dF P Q sn)∧(sn.length=p.code.length)) ?_ ?_
  ·cases NX:W.dn with
   |true=>
    rw[NX] at hH;have bG:(!true)=false:=rfl;refine qj fun K hK=>qp (o:=0) ?_;refine ql hH ax ?_;refine qg ?_;refine qm ?_;refine qs ?_ (hg:=wn bG);refine qs ?_ (hg:=wn bG);refine qs ?_ (hg:=wn bG);refine qs ?_ (hg:=wn bG);refine qs ?_ (hg:=wn bG);refine qs ?_ (hg:=wn bG);refine qs ?_ (hg:=wn bG);refine qs ?_ (hg:=wn bG);refine qs ?_ (hg:=wn bG);refine qs ?_ (hg:=wn bG);refine qs ?_ (hg:=wn bG);refine qs ?_ (hg:=wn bG);refine qs ?_ (hg:=wn bG);refine qu bG ?_;refine qe hK<|qC ?_;refine af.skip ?_;exact⟨acc,td,pd,qd,P,Q,sn,_,rfl,hH,rfl,ba,fQ⟩
   |false=>
    rw[NX] at hH;have bG:(!false)=true:=rfl;refine qj fun K hK=>qp (o:=0) ?_;refine ql hH ax ?_;refine qg ?_;refine qm ?_;refine qm ?_ (hg:=wi bG);refine qg ?_ (hg:=wi bG);refine qp (o:=4) ?_ (hg:=wi bG);refine ql hH fT ?_ (hg:=wi bG);refine qm ?_ (hg:=wi bG);refine qg ?_ (hg:=wi bG);refine qp (o:=0) ?_ (hg:=wi bG);refine qp (o:=1) ?_ (hg:=wi bG);refine ql hH fT ?_ (hg:=wi bG);refine qm ?_ (hg:=wi bG);refine qr (fun Ub P5=>?_) (hg:=wi bG);refine qR ?_ (hg:=wi bG);obtain⟨_,st,aI,rfl,pd,qd,P,Q,hH,ba⟩:=l4 [_,_,_,_,_] hF F9 ba hH;dsimp only[u3,u4] at hH;refine qv aI ?_ (hg:=wi bG);refine qt bG ?_;refine qe hK ?_
    by_cases G3:f' acc start=true
    ·refine qE rfl (by rw[G3];rfl) ?_;refine af.skip ?_;exact⟨acc,td,pd,qd,P,Q,sn.set start true,_,rfl,hH,by unfold ju;rw[if_neg (by decide),if_pos G3],ba,by rw[List.length_set];exact fQ⟩
    ·refine qD rfl (by rw[Bool.eq_false_iff.2 G3];rfl) ?_;refine qj fun K hK=>qp (o:=11) ?_;refine ql hH ax ?_;refine qm ?_;refine qg ?_;refine qp (o:=0) ?_;refine qp (o:=1) ?_;refine ql hH fT ?_;refine qm ?_;refine qr fun W3 U3=>?_;refine qR ?_;refine qv (iJ _) ?_;refine ab.go (d:=.agg (aH ⟨start,ch⟩)) (st1:=_) rfl rfl rfl (ag rfl _) ?_;refine qh (s:=11) (vs:=[_]) hH fun k91 st VC hH=>?_;dsimp only[u2,u1,u3,u4,setMany,u5,u6,D.cells,Nat.reduceAdd,aB,aH,aN,aA,fK] at hH;refine ab.bQ (s:=11) hH rfl (ev rfl) (ev rfl) (by exact dp) (by exact hH.rows (by exact ax)) rfl rfl rfl rfl rfl rfl rfl ⟨(Nat.le_of_ble_eq_true rfl),(Nat.le_of_ble_eq_true rfl)⟩ (fun _=>(ag rfl _)) (by simp only[List.length_cons,List.length_nil,List.length_map]<;>omega) (by exact .inl hF) (fun TS st hH=>?_);dsimp only[u2,u1,u3,u4,setMany,u5,u6,D.cells,Nat.reduceAdd,aB,aH,aN,aA,fK] at hH;refine qp (o:=11) ?_;refine qT hH bC (fun st hH=>?_) (gR:=hH.eI dp);dsimp only[u2,u1,u3,u4,setMany,u5,u6,D.cells,Nat.reduceAdd,aB,aH,aN,aA,fK] at hH;refine qe hK ?_;exact⟨acc++[⟨start,ch⟩],TS,pd,qd,P,Q,sn.set start true,_,rfl,(by rw[List.map_append];exact hH.drop 1),by unfold ju;rw[if_neg (by decide),if_neg G3],ba,by rw[List.length_set];exact fQ⟩
  ·rintro fr st ⟨cI,td,pd,qd,P,Q,sn,tmp,hfr,hH,KG,ba,fQ⟩;rw[hfr];clear hfr;generalize bw fr=ee;clear fr;refine qq<|qj fun K hK=>?_;refine ab.aT (m:=12) hH rfl (ev rfl) (by exact ax) (by dsimp only[List.drop_succ_cons,List.drop_zero,List.take_succ_cons,List.take_zero,aB,aH,aN,aA,fK]<;>rfl) rfl rfl (ag rfl _) ?_;refine qS hH dp fun st hH=>?_;dsimp only[u2,u1,u3,u4,setMany,u5,u6,D.cells,Nat.reduceAdd,aB,aH,aN,aA,fK] at hH;refine qe hK<|af.ret ⟨rx,_,_,_,hH.lj rfl dp rfl,rfl,td,rfl,pd,qd,P,Q,sn,?_,ba,fQ⟩;rw[←KG];exact((hH.drop 1).erase 1).erase 1
def sC (fr:Go.V.Fr) (k:Nat):Go.V.D:=Go.V.nth .bu fr.loc k
theorem yu {f:tp} {x:Nat} {v:Int} (hx:x<10):setMany (aA f) x [.int .i64 v]=aA (z7 f x v):=by
 match x,hx with
 |0,_=>rfl
 |1,_=>rfl
 |2,_=>rfl
 |3,_=>rfl
 |4,_=>rfl
 |5,_=>rfl
 |6,_=>rfl
 |7,_=>rfl
 |8,_=>rfl
 |9,_=>rfl
theorem Ak {N:Nat} {S s0:St} {H:List bF} {x:D} {l:List gM} {t:gM} (hF:S.flr≤N) (hl:l.length≤1000000) (hH:Has N S s0 (.aM x 11 (l.map aH)::H)):
  ∃d ah,Ev pv 45 [x,.agg (aH t)] s0 d ah∧Has N S ah (.aM d 11 ((ju l t).map aH)::H):=by
 refine Ev.i7 rfl RQ rfl rfl rfl ?_;dsimp only[u3,u4,List.length,Nat.reduceSub,Nat.reduceAdd,w1,w2];change af _ _ _ _ s0 _;refine qq<|qj fun K hK=>qb hH fun k3 st Lb hH=>?_;dsimp only[u2,u1,u3,u4,setMany,u5,u6,D.cells,Nat.reduceAdd,aH] at hH;refine qm ?_;refine qe hK<|qq<|qq<|qj fun K hK=>qm ?_;refine qe hK<|af.block<|af.loop (fun mm fr st=>∃(i:Nat),fr.clean=⟨6,[x,sC fr 1,sC fr 2,.ptr k3 0 0,sC fr 4,.int .i64 (i:Nat)],[]⟩∧Has N S st (.box k3 (.mem 0 false (aH t))::.aM x 11 (l.map aH)::H)∧(i+mm=l.length)∧(f' (l.take i) t.pc=false)) (l.length) ?_ ?_
 ·exact⟨0,rfl,hH,by omega,rfl⟩
 rintro mm fr st ⟨i,hfr,hH,hi,kP⟩;rw[hfr];clear hfr;generalize sC fr=ee;clear fr;refine qq<|qq<|qj fun K hK=>qm ?_;refine qm ?_;refine qn ?_ (hR:=hH.rows bC);simp only[List.length_map];refine qg ?_;refine qe hK ?_;refine af.cond (by rfl) (fun h1=>?_) (fun h1=>?_)<;>try simp only[decide_eq_true_eq,decide_eq_false_iff_not] at h1
 ·refine af.skip ?_
  obtain⟨q,hq⟩:∃q,l[i]?=some q:=⟨l[i]'(by omega),List.getElem?_eq_getElem _⟩
  have gk:=j4 hq;have PI:l.take (i+1)=l.take i++[q]:=by rw[List.take_add_one,hq];rfl
  refine qq<|af.block<|qq<|qj fun K hK=>qm ?_;refine qm ?_;refine qi hH bC fun Ur Qk=>?_;refine ab.fL (fo:=0) (m:=0) (o2:=0) rfl (ev rfl) (by assumption) rfl rfl rfl (fun _=>(ag rfl _)) (fun Pk K0=>?_);refine qo hH bC ?_;refine qp (o:=0) ?_;refine ql hH ax ?_;refine qg ?_;refine qe hK ?_
  by_cases he:q.pc=t.pc
  ·refine qD rfl (by rw[he];simp) ?_;refine qq<|qj fun K hK=>qm ?_;refine qm ?_;refine qe hK<|af.ret ⟨rx,_,_,_,rfl,rfl,?_⟩
   have:ju l t=l:=by
    unfold ju;rw[if_pos];unfold f';rw[List.any_eq_true];exact⟨q,List.mem_of_getElem? hq,by simp[he]⟩
   rw[this];exact hH.drop 1
  ·refine qE rfl (by simp;omega) ?_;refine af.skip<|qj fun K hK=>qm ?_;refine qA ?_;refine qm ?_;refine qe hK ?_;exact⟨mm-1,by omega,⟨i+1,rfl,hH,by omega,by(rw[PI,oW,kP];simp[he])⟩⟩
 ·refine af.exit<|qq<|qj fun K hK=>qm ?_;refine ab.aT (m:=11) hH rfl (ev rfl) (by exact ax) (by dsimp only[List.drop_succ_cons,List.drop_zero,List.take_succ_cons,List.take_zero,aH]<;>rfl) rfl rfl (ag rfl _) ?_;refine qh (s:=11) (vs:=[_]) hH fun k23 st Lc hH=>?_;dsimp only[u2,u1,u3,u4,setMany,u5,u6,D.cells,Nat.reduceAdd,aH] at hH;refine ab.bQ (s:=11) hH rfl (ev rfl) (ev rfl) (by exact dp) (by exact hH.rows (by exact ax)) rfl rfl rfl rfl rfl rfl rfl ⟨(Nat.le_of_ble_eq_true rfl),(Nat.le_of_ble_eq_true rfl)⟩ (fun _=>(ag rfl _)) (by simp only[List.length_cons,List.length_nil,List.length_map]<;>omega) (by exact .inl hF) (fun Sw st hH=>?_);dsimp only[u2,u1,u3,u4,setMany,u5,u6,D.cells,Nat.reduceAdd,aH] at hH;refine qm ?_;refine qe hK<|af.ret ⟨rx,_,_,_,rfl,rfl,?_⟩;have hil:i=l.length:=by omega
  rw[hil,List.take_length] at kP;have:ju l t=l++[t]:=by unfold ju;rw[if_neg (by rw[kP];decide)]
  rw[this,List.map_append];exact hH.drop 2
def TP (N:Nat) (S st:St) (ka kl:Nat) (p:Pg) (sd:D) (pl:Nat) (e:Bool) (w:Wk) (H:List bF):Prop:=
 ∃od,Has N S st (.box ka (.mem 0 false [p.cd,p.sd,.ptr kl 0 0,sd,.int .i64 (pl:Nat),.bool e,od])::.box kl (.mem 0 false (aN w.dn w.aR .nul))::.aM sd 1 (w.seen.map bI)::.aM od 11 (w.rdy.map aH)::H)
theorem tG {N ka kl:Nat} {S:St} {p:Pg} {sd:D} {pl:Nat} {e:Bool} (hF:S.flr≤N) (hp:p.ok) (hR:bU p) (ij:pl≤1099511627776):∀(f:Nat) (w:Wk) (t:gM) (s0:St) (H:List bF),t.pc<p.code.length→w.seen.length=p.code.length→w.seen.count false<f→w.rdy.length+w.seen.count false≤1048576→TP N S s0 ka kl p sd pl e w H→
  ∃r ah,Ev pv 62 [.ptr ka 0 0,.int .i64 (t.pc:Nat),.agg (aA t.c)] s0 r ah∧r=.bool (bK p.code pl e f w t).2∧TP N S ah ka kl p sd pl e (bK p.code pl e f w t).1 H
 |0,_,_,_,_,_,_,h,_,_=>absurd h (Nat.not_lt_zero _)
 |f+1,w,t,s0,H,Ba,gQ,dv,pJ,hT=>by
  have ih:=tG (ka:=ka) (kl:=kl) (S:=S) (sd:=sd) (e:=e) hF hp hR ij f;obtain⟨od,hH⟩:=hT;have hc:=hp.c.arg N S;have hlen:=hp.cl
  obtain⟨i,hi⟩:∃i,p.code[t.pc]?=some i:=⟨p.code[t.pc]'Ba,List.getElem?_eq_getElem _⟩
  obtain⟨b,hb⟩:∃b,w.seen[t.pc]?=some b:=⟨w.seen[t.pc]'(by omega),List.getElem?_eq_getElem _⟩
  have hr:=fM hi;have iP:=pg hb;have wo:=(hp.i i (List.mem_of_getElem? hi)).1;have kR:=iU (hR.sh t.pc i hi);have Gn:=pW hb;have dI:bK p.code pl e (f+1) w t=bK p.code pl e (f+1) w t:=rfl
  conv at dI=>rhs;unfold bK
  rw[Gn] at dI;simp only[hi] at dI;generalize bK p.code pl e (f+1) w t=R at*;obtain⟨op,x,y,SF,rs⟩:=i;obtain⟨pc,c⟩:=t;simp only at*;refine Ev.i7 rfl RF rfl rfl rfl ?_;dsimp only[u3,u4,List.length,Nat.reduceSub,Nat.reduceAdd,w1,w2];change af _ _ _ _ s0 _;refine qq<|qj fun K hK=>qb hH fun k5 st Bg hH=>?_;dsimp only[u2,u1,u3,u4,setMany,u5,u6,D.cells,Nat.reduceAdd,aB,aH,aN,aA,bI] at hH;refine qm ?_;refine qe hK<|qq<|qq<|qj fun K hK=>qm ?_;refine qg ?_;refine qp (o:=3) ?_;refine ql hH bC ?_;refine qm ?_;refine qi hH ef fun S0 Ns=>?_;refine qo hH ef ?_;refine qe hK ?_
  cases b with
  |true=>
   rw[if_pos rfl] at dI;subst dI;refine qB ?_;refine qq<|qj fun K hK=>qm ?_;refine qe hK<|af.ret ⟨rx,_,_,_,rfl,rfl,?_⟩;exact⟨rfl,od,hH.drop 1⟩
  |false=>
   rw[if_neg (by decide)] at dI;have uM:=count_set hb;have mz:(w.seen.set pc true).length=p.code.length:=by rw[List.length_set];exact gQ
   have uO:(w.seen.set pc true).count false<f:=by omega
   have uC:w.rdy.length+(w.seen.set pc true).count false≤1048576:=by omega
   have f_:(w.seen.map bI).set pc [.bool true]=(w.seen.set pc true).map bI:=by rw[List.map_set];rfl
   refine qC ?_;refine af.skip<|qq<|qj fun K hK=>qm ?_;refine qg ?_;refine qp (o:=3) ?_;refine ql hH bC ?_;refine qm ?_;refine qi hH ef fun OE Gf=>?_;refine ab.kI hH rfl (ev rfl) (ev rfl) (by assumption) rfl rfl (by exact ef) (by assumption) (Nat.le_of_ble_eq_true rfl) (by exact .inl hF) (fun st hH=>?_);dsimp only[u2,u1,u3,u4,setMany,u5,u6,D.cells,Nat.reduceAdd,aB,aH,aN,aA,bI] at hH;refine qe hK ?_;rw[f_] at hH;generalize w.seen.set pc true=sn at*;clear hb Gn uM gQ dv pJ f_ iP;refine qq<|qj fun K hK=>qm ?_;refine qg ?_;refine qp (o:=0) ?_;refine qp (o:=0) ?_;refine ql hH bC ?_;refine qm ?_;refine qr fun Un Qg=>?_;refine ab.cY rfl (ev rfl) (by assumption) rfl (by dsimp only[Fr.put,u1,u2]<;>rfl) ?_;refine qa hH fun k7 st OP hH=>?_;refine qS hH ax fun st hH=>?_;dsimp only[u2,u1,u3,u4,setMany,u5,u6,D.cells,Nat.reduceAdd,aB,aH,aN,aA,bI] at hH;refine qe hK<|qq<|qq<|qj fun K hK=>qp (o:=0) ?_;refine ql hH ax ?_;refine qe hK<|af.block<|qq<|qj fun K hK=>qg ?_;refine qm ?_;refine qe hK ?_;refine af.cond (by rfl) (fun h7=>?_) (fun h7=>?_)<;>try simp only[beq_iff_eq,beq_eq_false_iff_ne,ne_eq] at h7
   ·rw[if_pos h7] at dI;subst dI;refine qq<|qj fun K hK=>qm ?_;refine qg ?_;refine qp (o:=2) ?_;refine ql hH dp ?_;refine qg ?_;refine qp (o:=0) ?_;refine qT hH ef fun st hH=>?_;dsimp only[u2,u1,u3,u4,setMany,u5,u6,D.cells,Nat.reduceAdd,aB,aH,aN,aA,bI] at hH;refine qe hK<|qq<|qj fun K hK=>qm ?_;refine qg ?_;refine qp (o:=2) ?_;refine ql hH dp ?_;refine ab.aT (m:=10) hH rfl (ev rfl) (by exact bC) (by dsimp only[List.drop_succ_cons,List.drop_zero,List.take_succ_cons,List.take_zero,aB,aH,aN,aA,bI]<;>rfl) rfl rfl (ag rfl _) ?_;refine qg ?_;refine qp (o:=1) ?_;refine qT hH ef fun st hH=>?_;dsimp only[u2,u1,u3,u4,setMany,u5,u6,D.cells,Nat.reduceAdd,aB,aH,aN,aA,bI] at hH;refine qe hK<|qq<|qj fun K hK=>qm ?_;refine qe hK<|af.ret ⟨rx,_,_,_,rfl,rfl,?_⟩;exact⟨rfl,od,hH.drop 2⟩
   ·rw[if_neg h7] at dI;refine qq<|qj fun K hK=>qg ?_;refine qm ?_;refine qe hK ?_;refine af.cond (by rfl) (fun h2=>?_) (fun h2=>?_)<;>try simp only[beq_iff_eq,beq_eq_false_iff_ne,ne_eq] at h2
    ·rw[if_pos h2] at dI;obtain⟨_,⟨hx0,hx1⟩,hy0,hy1⟩:=(kR.resolve_left h7).resolve_right (by omega);obtain⟨xn,rfl⟩:=Int.eq_ofNat_of_zero_le hx0;obtain⟨yn,rfl⟩:=Int.eq_ofNat_of_zero_le hy0;have Lf:=b_ p.code pl e f ⟨sn,w.dn,w.aR,w.rdy⟩ ⟨xn,c⟩;have uR:=Has.mX [_,_] [_,_,_,_] hH;obtain⟨_,st1,aI,rfl,hT⟩:=ih ⟨sn,w.dn,w.aR,w.rdy⟩ ⟨xn,c⟩ _ _ (by show xn<_;omega) mz uO uC ⟨od,uR⟩;clear uR;have dI:R=if(bK p.code pl e f ⟨sn,w.dn,w.aR,w.rdy⟩ ⟨xn,c⟩).2=true then bK p.code pl e f ⟨sn,w.dn,w.aR,w.rdy⟩ ⟨xn,c⟩ else bK p.code pl e f (bK p.code pl e f ⟨sn,w.dn,w.aR,w.rdy⟩ ⟨xn,c⟩).1 ⟨yn,c⟩:=dI;generalize bK p.code pl e f ⟨sn,w.dn,w.aR,w.rdy⟩ ⟨xn,c⟩=R1 at*;obtain⟨w1,b1⟩:=R1;obtain⟨cM,bk,bG,fg⟩:=Lf;simp only at cM bk bG fg aI hT dI;obtain⟨LU,uR⟩:=hT;have uR:=Has.mX [_,_,_,_] [_,_] uR;dsimp only[u3,u4] at uR
     cases b1 with
     |true=>
      rw[if_pos rfl] at dI;subst dI;have a7:true=true:=rfl;refine qq<|qj fun K hK=>qm ?_;refine qp (o:=1) ?_;refine ql hH ax ?_;refine ab.aT (m:=10) hH rfl (ev rfl) (by exact bC) (by dsimp only[List.drop_succ_cons,List.drop_zero,List.take_succ_cons,List.take_zero,aB,aH,aN,aA,bI]<;>rfl) rfl rfl (ag rfl _) ?_;refine qv aI ?_;refine qm ?_;refine qs ?_ (hg:=wn a7);refine qs ?_ (hg:=wn a7);refine qs ?_ (hg:=wn a7);refine qs ?_ (hg:=wn a7);refine qs ?_ (hg:=wn a7);refine qt a7 ?_;refine qm ?_;refine qe hK<|af.ret ⟨rx,_,_,_,rfl,rfl,?_⟩;exact⟨rfl,LU,uR.drop 2⟩
     |false=>
      rw[if_neg (by decide)] at dI;have a7:false=false:=rfl;refine qq<|qj fun K hK=>qm ?_;refine qp (o:=1) ?_;refine ql hH ax ?_;refine ab.aT (m:=10) hH rfl (ev rfl) (by exact bC) (by dsimp only[List.drop_succ_cons,List.drop_zero,List.take_succ_cons,List.take_zero,aB,aH,aN,aA,bI]<;>rfl) rfl rfl (ag rfl _) ?_;have hH:=uR;refine qv aI ?_;refine qm ?_;refine qm ?_ (hg:=wi a7);refine qp (o:=2) ?_ (hg:=wi a7);refine ql hH ax ?_ (hg:=wi a7);refine ab.aT (m:=10) hH (aC rfl rfl rfl a7) (ev rfl) (by exact bC) (by dsimp only[List.drop_succ_cons,List.drop_zero,List.take_succ_cons,List.take_zero,aB,aH,aN,aA,bI]<;>rfl) rfl rfl (ag rfl _) ?_;obtain⟨_,st,aI,rfl,hT⟩:=ih w1 ⟨yn,c⟩ _ _ (by show yn<_;omega) (by omega) (by omega) (by omega) ⟨LU,hH.drop 2⟩;refine qv aI ?_ (hg:=wi a7);refine qu a7 ?_;refine qm ?_;refine qe hK<|af.ret ⟨rx,_,_,_,rfl,rfl,?_⟩;rw[dI];exact⟨rfl,hT⟩
    ·rw[if_neg h2] at dI;refine qq<|qj fun K hK=>qg ?_;refine qm ?_;refine qe hK ?_;refine af.cond (by rfl) (fun h3=>?_) (fun h3=>?_)<;>try simp only[beq_iff_eq,beq_eq_false_iff_ne,ne_eq] at h3
     ·rw[if_neg (by omega),if_pos h3] at dI;obtain⟨_,hx0,hx1⟩:=((kR.resolve_left h7).resolve_left (by omega)).resolve_right (by omega);obtain⟨xn,rfl⟩:=Int.eq_ofNat_of_zero_le hx0;refine qq<|qj fun K hK=>qm ?_;refine qp (o:=1) ?_;refine ql hH ax ?_;refine ab.aT (m:=10) hH rfl (ev rfl) (by exact bC) (by dsimp only[List.drop_succ_cons,List.drop_zero,List.take_succ_cons,List.take_zero,aB,aH,aN,aA,bI]<;>rfl) rfl rfl (ag rfl _) ?_;obtain⟨_,st,aI,rfl,hT⟩:=ih ⟨sn,w.dn,w.aR,w.rdy⟩ ⟨xn,c⟩ _ _ (by show xn<_;omega) mz uO uC ⟨od,hH.drop 2⟩;refine qv aI ?_;refine qm ?_;refine qe hK<|af.ret ⟨rx,_,_,_,rfl,rfl,?_⟩;rw[dI];exact⟨rfl,hT⟩
     ·refine qq<|qj fun K hK=>qg ?_;refine qm ?_;refine qe hK ?_;refine af.cond (by rfl) (fun h4=>?_) (fun h4=>?_)<;>try simp only[beq_iff_eq,beq_eq_false_iff_ne,ne_eq] at h4
      ·rw[if_neg (by omega),if_neg h3,if_pos h4] at dI;obtain⟨_,oR,hx0,hx1⟩:=(((kR.resolve_left h7).resolve_left (by omega)).resolve_left (by omega)).resolve_right (by omega);obtain⟨xn,rfl⟩:=Int.eq_ofNat_of_zero_le hx0;refine qq<|qj fun K hK=>qp (o:=1) ?_;refine ql hH ax ?_;refine qm ?_;refine qg ?_;refine qp (o:=4) ?_;refine ql hH dp ?_;refine ab.Gs (m:=10) (s:=1) (i:=xn) (o:=xn) rfl (ev rfl) (ev rfl) rfl rfl (by omega) (by omega) (ag rfl _) ?_;refine ab.jP hH rfl (ev rfl) (ev rfl) rfl (by exact rfl) bC (by show xn+1≤10;omega) (.inl hF) (fun st hH=>?_);change Has _ _ _ (_::.box k5 (.mem 0 false (setMany (aA c) xn [.int .i64 (pl:Nat)]))::_) at hH;rw[yu (by omega)] at hH;refine qe hK ?_;dsimp only[aA] at hH;refine qq<|qj fun K hK=>qm ?_;refine qm ?_;refine qA ?_;refine ab.aT (m:=10) hH rfl (ev rfl) (by exact bC) (by dsimp only[List.drop_succ_cons,List.drop_zero,List.take_succ_cons,List.take_zero,aB,aH,aN,aA,bI]<;>rfl) rfl rfl (ag rfl _) ?_;obtain⟨_,st,aI,rfl,hT⟩:=ih ⟨sn,w.dn,w.aR,w.rdy⟩ ⟨pc+1,z7 c xn (pl:Nat)⟩ _ _ oR mz uO uC ⟨od,hH.drop 2⟩;refine qv aI ?_;refine qm ?_;refine qe hK<|af.ret ⟨rx,_,_,_,rfl,rfl,?_⟩;rw[dI];exact⟨rfl,hT⟩
      ·refine qq<|qj fun K hK=>qg ?_;refine qm ?_;refine qe hK ?_;refine af.cond (by rfl) (fun h5=>?_) (fun h5=>?_)<;>try simp only[beq_iff_eq,beq_eq_false_iff_ne,ne_eq] at h5
       ·rw[if_neg (by omega),if_neg h3,if_neg h4,if_pos h5] at dI;have oR:pc+1<p.code.length:=by omega
        by_cases ha:pl=0
        ·rw[if_pos ha] at dI;subst ha;have a7:(((0:Nat):Int)==0)=true:=rfl;refine qq<|qj fun K hK=>qm ?_;refine qg ?_;refine qp (o:=4) ?_;refine ql hH dp ?_;refine qg ?_;refine qm ?_;refine qm ?_ (hg:=wi a7);refine qm ?_ (hg:=wi a7);refine qA ?_ (hg:=wi a7);refine ab.aT (m:=10) hH (aC rfl rfl rfl a7) (ev rfl) (by exact bC) (by dsimp only[List.drop_succ_cons,List.drop_zero,List.take_succ_cons,List.take_zero,aB,aH,aN,aA,bI]<;>rfl) rfl rfl (ag rfl _) ?_;obtain⟨_,st,aI,rfl,hT⟩:=ih ⟨sn,w.dn,w.aR,w.rdy⟩ ⟨pc+1,c⟩ _ _ oR mz uO uC ⟨od,hH.drop 2⟩;refine qv aI ?_ (hg:=wi a7);refine qt a7 ?_;refine qm ?_;refine qe hK<|af.ret ⟨rx,_,_,_,rfl,rfl,?_⟩;rw[dI];exact⟨rfl,hT⟩
        ·rw[if_neg ha] at dI;subst dI;have a7:(((pl:Nat):Int)==0)=false:=by rw[beq_eq_false_iff_ne];omega
         refine qq<|qj fun K hK=>qm ?_;refine qg ?_;refine qp (o:=4) ?_;refine ql hH dp ?_;refine qg ?_;refine qm ?_;refine qs ?_ (hg:=wn a7);refine qs ?_ (hg:=wn a7);refine qs ?_ (hg:=wn a7);refine qs ?_ (hg:=wn a7);refine qs ?_ (hg:=wn a7);refine qu a7 ?_;refine qm ?_;refine qe hK<|af.ret ⟨rx,_,_,_,rfl,rfl,?_⟩;exact⟨rfl,od,hH.drop 2⟩
       ·refine qq<|qj fun K hK=>qg ?_;refine qm ?_;refine qe hK ?_;refine af.cond (by rfl) (fun h6=>?_) (fun h6=>?_)<;>try simp only[beq_iff_eq,beq_eq_false_iff_ne,ne_eq] at h6
        ·rw[if_neg (by omega),if_neg h3,if_neg h4,if_neg h5] at dI;have oR:pc+1<p.code.length:=by omega
         cases e with
         |true=>
          rw[if_pos rfl] at dI;have fg:true=true:=rfl;refine qq<|qj fun K hK=>qm ?_;refine qg ?_;refine qp (o:=5) ?_;refine ql hH dp ?_;refine qm ?_;refine qm ?_ (hg:=wi fg);refine qm ?_ (hg:=wi fg);refine qA ?_ (hg:=wi fg);refine ab.aT (m:=10) hH (aC rfl rfl rfl fg) (ev rfl) (by exact bC) (by dsimp only[List.drop_succ_cons,List.drop_zero,List.take_succ_cons,List.take_zero,aB,aH,aN,aA,bI]<;>rfl) rfl rfl (ag rfl _) ?_;obtain⟨_,st,aI,rfl,hT⟩:=ih ⟨sn,w.dn,w.aR,w.rdy⟩ ⟨pc+1,c⟩ _ _ oR mz uO uC ⟨od,hH.drop 2⟩;refine qv aI ?_ (hg:=wi fg);refine qt fg ?_;refine qm ?_;refine qe hK<|af.ret ⟨rx,_,_,_,rfl,rfl,?_⟩;rw[dI];exact⟨rfl,hT⟩
         |false=>
          rw[if_neg (by decide)] at dI;subst dI;have fg:false=false:=rfl;refine qq<|qj fun K hK=>qm ?_;refine qg ?_;refine qp (o:=5) ?_;refine ql hH dp ?_;refine qm ?_;refine qs ?_ (hg:=wn fg);refine qs ?_ (hg:=wn fg);refine qs ?_ (hg:=wn fg);refine qs ?_ (hg:=wn fg);refine qs ?_ (hg:=wn fg);refine qu fg ?_;refine qm ?_;refine qe hK<|af.ret ⟨rx,_,_,_,rfl,rfl,?_⟩;exact⟨rfl,od,hH.drop 2⟩
        ·have h1:op=1:=by omega
         rw[if_pos h1] at dI;subst dI;refine qq<|qj fun K hK=>qg ?_;refine qm ?_;refine qe hK<|qD rfl (by simp[h1]) ?_;refine qj fun K hK=>qm ?_;refine qm ?_;refine qg ?_;refine qp (o:=6) ?_;refine ql hH dp ?_;refine qm ?_;refine ab.aT (m:=10) hH rfl (ev rfl) (by exact bC) (by dsimp only[List.drop_succ_cons,List.drop_zero,List.take_succ_cons,List.take_zero,aB,aH,aN,aA,bI]<;>rfl) rfl rfl (ag rfl _) ?_;refine ab.go (d:=.agg (aH ⟨pc,c⟩)) (st1:=_) rfl rfl rfl (ag rfl _) ?_;refine qh (s:=11) (vs:=[_]) hH fun k118 st Tn hH=>?_;dsimp only[u2,u1,u3,u4,setMany,u5,u6,D.cells,Nat.reduceAdd,aB,aH,aN,aA,bI] at hH;refine ab.bQ (s:=11) hH rfl (ev rfl) (ev rfl) (by exact L9) (by exact hH.rows (by exact ax)) rfl rfl rfl rfl rfl rfl rfl ⟨(Nat.le_of_ble_eq_true rfl),(Nat.le_of_ble_eq_true rfl)⟩ (fun _=>(ag rfl _)) (by simp only[List.length_cons,List.length_nil,List.length_map]<;>omega) (by exact .inl hF) (fun O2 st hH=>?_);dsimp only[u2,u1,u3,u4,setMany,u5,u6,D.cells,Nat.reduceAdd,aB,aH,aN,aA,bI] at hH;refine qg ?_;refine qp (o:=6) ?_;refine qT hH ef (fun st hH=>?_) (gR:=hH.eI L9);dsimp only[u2,u1,u3,u4,setMany,u5,u6,D.cells,Nat.reduceAdd,aB,aH,aN,aA,bI] at hH;refine qe hK<|qq<|qj fun K hK=>qm ?_;refine qe hK<|af.ret ⟨rx,_,_,_,rfl,rfl,?_⟩;refine⟨rfl,O2,?_⟩;rw[List.map_append];exact hH.drop 3
def df (fr:Go.V.Fr) (k:Nat):Go.V.D:=Go.V.nth .bu fr.loc k
def VL.pl (l:VL):PL:=⟨l.dn,l.aR,l.cI⟩
def aX (p:Pg):List Nat:=p.az.map Int.toNat
def dt (code:List aL) (pl:Nat) (r:Int):List Nat→List PL→List PL
 |s::ss,l::ls=>eT code pl s r l::dt code pl r ss ls
 |_,_=>[]
def dw (n:Int):Nat:=(min (max n 0) 4).toNat
theorem mJ (n:Int):dw n≤4:=by unfold dw;omega
theorem iS (code:List aL) (pl:Nat) (r:Int):∀(ss:List Nat) (ls:List PL),ss.length=ls.length→(dt code pl r ss ls).length=ls.length
 |[],[],_=>rfl
 |s::ss,l::ls,h=>by simp only[dt,List.length_cons];rw[iS code pl r ss ls (by simpa using h)]
theorem kF (code:List aL) (pl:Nat) (r:Int):∀(ss:List Nat) (ls:List PL) (i:Nat) (s:Nat) (l:PL),ss[i]?=some s→ls[i]?=some l→(dt code pl r ss ls)[i]?=some (eT code pl s r l)
 |[],_,_,_,_,h,_=>by simp at h
 |_::_,[],_,_,_,_,h=>by simp at h
 |s::ss,l::ls,0,_,_,h1,h2=>by simp only[List.getElem?_cons_zero,Option.some.injEq] at h1 h2;subst h1;subst h2;rfl
 |s::ss,l::ls,i+1,_,_,h1,h2=>by simp only[List.getElem?_cons_succ] at h1 h2;simp only[dt,List.getElem?_cons_succ];exact kF code pl r ss ls i _ _ h1 h2
theorem MH.mono {A:List bF} {N:Nat} {S st:St} {ks kv:Nat} {p:Pg} {pl:Nat} {ld:D} {L:List VL} {H:List bF} (n:Nat) (h:MH A N S st ks kv p pl ld L H):MH (A.drop n) N S st ks kv p pl ld L H:=by
 obtain⟨pd,qd,P,Q,sn,hH,ba,fQ⟩:=h;refine⟨pd,qd,P,Q,sn,?_,ba,fQ⟩
 rcases Nat.le_total n A.length with hn|hn
 ·have:=hH.drop n
  rwa [List.drop_append_of_le_length hn] at this
 ·have:=hH.drop A.length;rw[List.drop_append_of_le_length (Nat.le_refl _),List.drop_length] at this;rw[List.drop_eq_nil_of_le hn];exact this
theorem Ci (L:List VL) (i:Nat) (l:VL):(L.set i l).map py=(L.map py).set i (py l):=List.map_set ..
theorem MH.Ct {N:Nat} {S st:St} {ks kv:Nat} {p:Pg} {pl:Nat} {ld:D} {L:List VL} {H:List bF} {i:Nat} {l:VL} {pd qd:D} {P Q:List Nat} (hi:i<L.length)
  (h:Has N S st (.aM l.td 11 (l.cI.map aH)::.box kv (.mem 0 false [p.cd,p.sd,.int .i64 (pl:Nat),ld,.ptr ks 0 0])::.box ks (.mem 0 false [pd,qd])::.aM pd 1 (P.map fc)::.aM qd 2 (Q.map lU)::.aM ld 12 ((L.map fK).set i (fK l))::(L.map py++H))):
  Has N S st (.box kv (.mem 0 false [p.cd,p.sd,.int .i64 (pl:Nat),ld,.ptr ks 0 0])::.box ks (.mem 0 false [pd,qd])::.aM pd 1 (P.map fc)::.aM qd 2 (Q.map lU)::.aM ld 12 ((L.set i l).map fK)::((L.set i l).map py++H)):=by
 have h1:=h.dU (j:=5+i) (by simp;omega);rw[List.map_set,Ci]
 have h2:∀(a b c d e:bF),(a::b::c::d::e::(L.map py++H)).set (5+i) (.aM l.td 11 (l.cI.map aH))=a::b::c::d::e::((L.map py).set i (py l)++H):=by
  intro a b c d e;rw[Nat.add_comm 5 i];simp only[List.set_cons_succ];rw[List.set_append_left _ _ (by simpa using hi)];rfl
 rw[h2] at h1;exact h1
theorem GN (iJ:∀st,Ev pv 57 [] st (.agg (aA ch)) st) {N ks kv:Nat} {S s0:St} {H:List bF} {p:Pg} {pl:Nat} {ld:D} {L:List VL} {r n:Int} (hF:S.flr≤N) (hp:p.ok) (hR:bU p) (ij:pl≤1000000000000) (Cf:L.length=p.az.length) (ba:∀l∈L,l.pl.ok p.code.length) (hM:MH [] N S s0 ks kv p pl ld L H):
  ∃d ah,Ev pv 21 [.ptr kv 0 0,.int .i32 r,.int .i64 n] s0 d ah∧d=.tup []∧∃L',L'.map VL.pl=dt p.code pl r (aX p) (L.map VL.pl)∧MH [] N S ah ks kv p (pl+dw n) ld L' H:=by
 have LW:=hR.sl;refine Ev.i7 rfl R4 rfl rfl rfl ?_;dsimp only[u3,u4,List.length,Nat.reduceSub,Nat.reduceAdd,w1,w2];change af _ _ _ _ s0 _;obtain⟨pd,qd,P,Q,sn,hH,ky,fQ⟩:=hM;dsimp only[u4] at hH;refine qq<|qq<|qj fun K hK=>qm ?_;refine qg ?_;refine qp (o:=3) ?_;refine ql hH ax ?_;refine qn ?_ (hR:=hH.rows fT);simp only[List.length_map];refine qm ?_;refine qe hK<|af.block<|af.loop (fun mm fr st=>∃(i:Nat) (L2:List VL) (pd qd:D) (P Q:List Nat) (sn:List Bool),fr.clean=⟨13,[.ptr kv 0 0,.int .i32 r,.int .i64 n,df fr 3,df fr 4,df fr 5,df fr 6,df fr 7,df fr 8,df fr 9,df fr 10,.int .i64 (L.length:Nat),.int .i64 (i:Nat)],[]⟩∧Has N S st (.box kv (.mem 0 false [p.cd,p.sd,.int .i64 (pl:Nat),ld,.ptr ks 0 0])::.box ks (.mem 0 false [pd,qd])::.aM pd 1 (P.map fc)::.aM qd 2 (Q.map lU)::.aM ld 12 (L2.map fK)::(L2.map py++H))∧(i+mm=L.length)∧(L2.length=L.length)∧(∀j l s,j<i→L[j]?=some l→p.az[j]?=some s→(L2.map VL.pl)[j]?=some (eT p.code pl s.toNat r l.pl))∧(∀j,i≤j→L2[j]?=L[j]?)∧(dF P Q sn)∧(sn.length=p.code.length)) (L.length) ?_ ?_
 ·exact⟨0,L,_,_,_,_,_,rfl,hH,by omega,rfl,(by intro j l s h;omega),(fun j _=>rfl),ky,fQ⟩
 rintro mm fr st ⟨i,L2,pd,qd,P,Q,sn,hfr,hH,hi,vt,Tx,Ta,ky,fQ⟩;rw[hfr];clear hfr;generalize df fr=ee;clear fr;refine qq<|qj fun K hK=>qg ?_;refine qe hK<|qq ?_;refine af.cond (by rfl) (fun hlt=>?_) (fun hlt=>?_)<;>try simp only[decide_eq_true_eq,decide_eq_false_iff_not] at hlt
 ·refine af.skip ?_;have hil:i<L.length:=by omega
  obtain⟨l,hl⟩:∃l,L[i]?=some l:=⟨L[i]'hil,List.getElem?_eq_getElem _⟩
  have pz:L2[i]?=some l:=by rw[Ta i (Nat.le_refl _)];exact hl
  obtain⟨s,hs⟩:∃s,p.az[i]?=some s:=⟨p.az[i]'(by omega),List.getElem?_eq_getElem _⟩
  obtain⟨pI,LX⟩:=hR.st s (List.mem_of_getElem? hs);obtain⟨LO,rfl⟩:=Int.eq_ofNat_of_zero_le pI;have gk:=vw pz;refine qq<|af.block<|qq<|qj fun K hK=>qm ?_;refine qm ?_;refine qe hK ?_;have cp:=hH;have yZ:=ja hH fT;have Gb:=hH.oI bC (k:=ks) rfl;have KR:=hp.c.ref;have A8:=hp.s.ref;have KS:refs [p.cd,p.sd,.int .i64 (pl:Nat),ld,.ptr ks 0 0]≤st.bs.length:=by simp only[refs,D.ref,KR,A8];omega
  change af _ _ _ _ _ _;generalize hK:bX _ _ _ _=K;refine af.rP rfl ?_;refine cE.cons ?_;refine qm ?_;refine ab.nil ⟨rfl,?_⟩;refine cE.cons ?_;refine qg ?_;refine ab.nil ⟨rfl,?_⟩;refine cE.cons ?_;refine qp (o:=3) ?_;refine ab.nil ⟨rfl,?_⟩;refine cE.cons ?_;refine ql hH ax ?_;refine ab.nil ⟨rfl,?_⟩;refine cE.cons ?_;refine qm ?_;refine ab.nil ⟨rfl,?_⟩;refine cE.cons ?_;refine qm ?_;refine ab.nil ⟨rfl,?_⟩;refine cE.cons ?_;refine qm ?_;refine ab.nil ⟨rfl,?_⟩;refine cE.cons ?_;refine qm ?_;refine ab.nil ⟨rfl,?_⟩;refine cE.cons ?_;obtain⟨_,st,aI,td,rfl,hM⟩:=zT iJ hF hp hR (by omega) pz hs (ba l (List.mem_of_getElem? hl)) ⟨pd,qd,P,Q,sn,hH,ky,fQ⟩;obtain⟨pd,qd,P,Q,sn,hH,ky,fQ⟩:=hM;dsimp only[u3,u4] at hH;refine qv aI ?_;refine ab.nil ⟨by exact Bool.and_eq_true_iff.2 ⟨gv rfl rfl rfl (cp.at ax) (hH.at bC) (cp.at ax) KS,rfl⟩,?_⟩;refine cE.cons ?_;refine qi hH pC fun LS y3=>?_;refine ab.nil ⟨rfl,?_⟩;refine cE.cons ?_;refine ab.kI hH rfl (ev rfl) (ev rfl) (by assumption) rfl rfl (by exact pC) (by assumption) (Nat.le_of_ble_eq_true rfl) (by exact .inl hF) (fun st hH=>?_);dsimp only[u2,u1,u3,u4,setMany,u5,u6,D.cells,Nat.reduceAdd,aB,aH,aN,aA,fK] at hH;refine ab.nil ⟨rfl,?_⟩;refine cE.nil ?_;subst hK;have hH:=MH.Ct (l:=⟨(eT p.code pl LO r l.pl).dn,(eT p.code pl LO r l.pl).aR,td,(eT p.code pl LO r l.pl).cI⟩) (by omega) hH;refine qj fun K hK=>qA ?_;refine qm ?_;refine qe hK ?_;refine⟨mm-1,by omega,⟨i+1,L2.set i ⟨(eT p.code pl LO r l.pl).dn,(eT p.code pl LO r l.pl).aR,td,(eT p.code pl LO r l.pl).cI⟩,pd,qd,P,Q,sn,rfl,hH,by omega,by rw[List.length_set];exact vt,?_,(fun j hj=>by rw[List.getElem?_set_ne (by omega)];exact Ta j (by omega)),ky,fQ⟩⟩;intro j l' s' hj gu sH;rw[List.map_set]
  by_cases hji:j=i
  ·subst hji;rw[hl] at gu;rw[hs] at sH;cases gu;cases sH;rw[List.getElem?_set_self (by rw[List.length_map];omega)];rfl
  ·rw[List.getElem?_set_ne (fun e=>hji e.symm)];exact Tx j l' s' (by omega) gu sH
 ·refine af.exit ?_;have hil:i=L.length:=by omega
  have TB:=mJ n;have QU:((pl:Nat):Int)+min (max n 0) 4=((pl+dw n:Nat):Int):=by unfold dw;omega
  refine qj fun K hK=>qm ?_;refine qg ?_;refine qp (o:=2) ?_;refine ql hH ax ?_;refine qm ?_;refine ab.FU (t1:=0) (t2:=0) rfl (ev rfl) (ev rfl) (ag rfl _) ?_;refine ab.FT (t1:=0) (t2:=0) rfl (ev rfl) (ev rfl) (ag rfl _) ?_;refine ab.jY (z:=((pl+dw n:Nat):Int)) rfl (ev rfl) (ev rfl) (by rw[QU];exact dK (by simp only[ku];omega)) (ag rfl _) ?_;refine qg ?_;refine qp (o:=2) ?_;refine qT hH ax fun st hH=>?_;dsimp only[u2,u1,u3,u4,setMany,u5,u6,D.cells,Nat.reduceAdd,aB,aH,aN,aA,fK] at hH;refine qe hK ?_;refine⟨fun i h=>(by cases h),_,_,_,rfl,rfl,?_⟩;refine⟨rfl,L2,?_,pd,qd,P,Q,sn,hH,ky,fQ⟩;refine List.ext_getElem? fun j=>?_
  by_cases hj:j<L.length
  ·obtain⟨l,hl⟩:∃l,L[j]?=some l:=⟨L[j]'hj,List.getElem?_eq_getElem _⟩
   obtain⟨s,hs⟩:∃s,p.az[j]?=some s:=⟨p.az[j]'(by omega),List.getElem?_eq_getElem _⟩
   rw[Tx j l s (by omega) hl hs,kF (s:=s.toNat) (l:=l.pl)]
   ·unfold aX;rw[List.getElem?_map,hs];rfl
   ·rw[List.getElem?_map,hl];rfl
  ·rw[List.getElem?_eq_none (by simp;omega),List.getElem?_eq_none];rw[iS]
   ·simp;omega
   ·unfold aX;simp;omega
def jh (code:List aL) (pl:Nat) (l:PL):PL:=⟨(jx code pl true l.cI (iv code.length l.dn l.aR)).dn,(jx code pl true l.cI (iv code.length l.dn l.aR)).aR,[]⟩
def ji (l:PL):List D:=aN l.dn l.aR .nul
theorem GO {N ks kv:Nat} {S s0:St} {H:List bF} {p:Pg} {pl:Nat} {ld:D} {L:List VL} (hF:S.flr≤N) (hp:p.ok) (hR:bU p) (ij:pl≤1099511627776) (Cf:L.length=p.az.length) (ba:∀l∈L,l.pl.ok p.code.length) (hM:MH [] N S s0 ks kv p pl ld L H):
  ∃d ah,Ev pv 19 [.ptr kv 0 0] s0 d ah∧MH [.aM d 12 ((L.map fun l=>jh p.code pl l.pl).map ji)] N S ah ks kv p pl ld L H:=by
 have LW:=hR.sl;refine Ev.i7 rfl R6 rfl rfl rfl ?_;dsimp only[u3,u4,List.length,Nat.reduceSub,Nat.reduceAdd,w1,w2];change af _ _ _ _ s0 _;obtain⟨pd,qd,P,Q,sn,hH,ky,fQ⟩:=hM;dsimp only[u4] at hH;refine qq<|qj fun K hK=>qm ?_;refine qe hK<|qq<|qj fun K hK=>qm ?_;refine qe hK<|qq<|qq<|qj fun K hK=>qm ?_;refine qg ?_;refine qp (o:=3) ?_;refine ql hH ax ?_;refine qn ?_ (hR:=hH.rows fT);simp only[List.length_map];refine qm ?_;refine qe hK<|af.block<|af.loop (fun mm fr st=>∃(i:Nat) (od pd qd:D) (P Q:List Nat) (sn:List Bool),fr.clean=⟨13,[.ptr kv 0 0,df fr 1,df fr 2,od,df fr 4,df fr 5,df fr 6,df fr 7,df fr 8,df fr 9,df fr 10,.int .i64 (L.length:Nat),.int .i64 (i:Nat)],[]⟩∧Has N S st (.aM od 12 (((L.map fun l=>jh p.code pl l.pl).take i).map ji)::.box kv (.mem 0 false [p.cd,p.sd,.int .i64 (pl:Nat),ld,.ptr ks 0 0])::.box ks (.mem 0 false [pd,qd])::.aM pd 1 (P.map fc)::.aM qd 2 (Q.map lU)::.aM ld 12 (L.map fK)::(L.map py++H))∧(i+mm=L.length)∧(dF P Q sn)∧(sn.length=p.code.length)) (L.length) ?_ ?_
 ·exact⟨0,.nul,_,_,_,_,_,rfl,(hH.dP 12),by omega,ky,fQ⟩
 rintro mm fr st ⟨i,od,pd,qd,P,Q,sn,hfr,hH,hi,ky,fQ⟩;rw[hfr];clear hfr;generalize df fr=ee;clear fr;refine qq<|qj fun K hK=>qg ?_;refine qe hK<|qq ?_;refine af.cond (by rfl) (fun hlt=>?_) (fun hlt=>?_)<;>try simp only[decide_eq_true_eq,decide_eq_false_iff_not] at hlt
 ·refine af.skip ?_;have hil:i<L.length:=by omega
  obtain⟨l,hl⟩:∃l,L[i]?=some l:=⟨L[i]'hil,List.getElem?_eq_getElem _⟩
  obtain⟨uF,ra⟩:=ba l (List.mem_of_getElem? hl);simp only[VL.pl] at uF ra;have hge:(L.map fun l=>jh p.code pl l.pl)[i]?=some (jh p.code pl l.pl):=by rw[List.getElem?_map,hl];rfl
  have pJ:(((L.map fun l=>jh p.code pl l.pl).take i).map ji).length=i:=by simp;omega
  refine qq<|af.block<|qq<|qj fun K hK=>qm ?_;refine qm ?_;refine qe hK ?_;obtain⟨_,st1,aI,rd,rfl,hM⟩:=rm (e:=true) hF hp hR ij hl uF (by omega) (MH.push [_] [] ⟨pd,qd,P,Q,sn,hH,ky,fQ⟩);clear ky fQ;have hM:=MH.pull [_] [] (MH.mono 1 hM);obtain⟨pd,qd,P,Q,sn,zF,ky,fQ⟩:=hM;dsimp only[u3,u4] at zF;generalize hB:((L.map fun l=>jh p.code pl l.pl).take i).map ji=B at*;refine qq<|qj fun K hK=>qm ?_;refine qm ?_;have hH:=zF;refine qv aI ?_;refine qm ?_;refine qg ?_;refine qg ?_;refine qa hH fun k5 st Bg hH=>?_;refine qS hH ax fun st hH=>?_;dsimp only[u2,u1,u3,u4,setMany,u5,u6,D.cells,Nat.reduceAdd,aB,aH,aN,aA,fK,ji] at hH;refine qm ?_;refine qe hK ?_;clear zF;refine qj fun K hK=>qm ?_;refine ab.aT (m:=12) hH rfl (ev rfl) (by exact ax) (by dsimp only[List.drop_succ_cons,List.drop_zero,List.take_succ_cons,List.take_zero,aB,aH,aN,aA,fK,ji]<;>rfl) rfl rfl (ag rfl _) ?_;refine qh (s:=12) (vs:=[_]) hH fun k23 st Lc hH=>?_;refine ab.bQ (s:=12) hH rfl (ev rfl) (ev rfl) (by exact dp) (by exact hH.rows (by exact ax)) rfl rfl rfl rfl rfl rfl rfl ⟨(Nat.le_of_ble_eq_true rfl),(Nat.le_of_ble_eq_true rfl)⟩ (fun _=>(ag rfl _)) (by simp only[List.length_cons,List.length_nil,List.length_map]<;>omega) (by exact .inl hF) (fun Sw st hH=>?_);dsimp only[u2,u1,u3,u4,setMany,u5,u6,D.cells,Nat.reduceAdd,aB,aH,aN,aA,fK,ji] at hH;refine qm ?_;refine qe hK<|qj fun K hK=>qA ?_;refine qm ?_;refine qe hK ?_;exact⟨mm-1,by omega,⟨i+1,Sw,pd,qd,P,Q,sn,rfl,(by rw[List.take_add_one,hge,Option.toList_some,List.map_append,hB];exact hH.drop 2),by omega,ky,fQ⟩⟩
 ·refine af.exit ?_;have hil:i=L.length:=by omega
  refine qq<|qj fun K hK=>qm ?_;refine qm ?_;refine qe hK<|af.ret ⟨rx,_,_,_,rfl,rfl,?_⟩;rw[List.take_of_length_le (by simp;omega)] at hH;exact⟨pd,qd,P,Q,sn,hH,ky,fQ⟩
def dQ (fr:Go.V.Fr) (k:Nat):Go.V.D:=Go.V.nth .bu fr.loc k
structure tc (p q:Pg):Prop where
 ok:q.ok
 code:q.code=p.code.map dS
 az:q.az=p.az
theorem As {s0:St} {p:Pg} (hp:p.ok):∃d,Ev pv 56 [p.d] s0 d s0∧∃q:Pg,d=q.d∧tc p q:=by
 refine Ev.B_ rfl RI rfl rfl rfl ?_;dsimp only[u3,u4,List.length,Nat.reduceSub,Nat.reduceAdd,w1,w2];obtain⟨bZ,hF,hH⟩:=ri s0;generalize ai .ro s0=S at*;have hc:=hp.c.arg s0.bs.length S;have hs:=hp.s.arg s0.bs.length S;have hlen:=hp.cl;have M8:=hp.sl;unfold Pg.d;refine qq<|qj fun K hK=>qb hH fun k1 st nQ hH=>?_;dsimp only[u2,u1,u3,u4,setMany,u5,u6,D.cells,Nat.reduceAdd,Pg.cs,aB,av] at hH;refine qa hH fun k2 st hk2 hH=>?_;refine qe hK ?_;have hH:=hH.dP 1;refine qq<|qj fun K hK=>qp (o:=1) ?_;refine ql hH dp ?_;refine qP hH ax (Arg.rows (by assumption) hH) fun x8 st hH=>?_;dsimp only[u2,u1,u3,u4,setMany,u5,u6,D.cells,Nat.reduceAdd,Pg.cs,aB,av] at hH;refine ab.fu (qs:=[(1,_)]) rfl rfl rfl rfl ⟨rfl,(ev rfl),(by exact hH.eI (by exact ax)),trivial⟩ (by intro q hq;simp only[List.mem_cons,List.not_mem_nil,or_false] at hq;rcases hq with rfl<;>exact⟨rfl,by exact Nat.le_of_ble_eq_true rfl⟩) (by show List.foldl _ [_,_] _=_;dsimp only[List.foldl_cons,List.foldl_nil,u2,u1]<;>rfl) (by dsimp only[Fr.put,u1,u2]<;>rfl) ?_;refine qa hH fun k3 st Lb hH=>?_;refine qS hH ax fun st hH=>?_;dsimp only[u2,u1,u3,u4,setMany,u5,u6,D.cells,Nat.reduceAdd,Pg.cs,aB,av] at hH;refine qe hK ?_;have hH:=hH.AF 4;refine qq<|qq<|qj fun K hK=>qp (o:=0) ?_;refine ql hH fT ?_;refine qn ?_;simp only[List.length_map];refine qm ?_;refine qe hK<|af.block<|af.loop (fun mm fr st=>∃(i:Nat) (y:D) (ks:Nat→Prop),fr.clean=⟨14,[dQ fr 0,.ptr k1 0 0,.ptr k2 0 0,.ptr k3 0 0,dQ fr 4,dQ fr 5,dQ fr 6,dQ fr 7,dQ fr 8,dQ fr 9,dQ fr 10,p.cd,.int .i64 (p.code.length:Nat),.int .i64 (i:Nat)],[]⟩∧Has s0.bs.length S st [.deep ks y 4 ((p.code.take i).map o9),.box k3 (.mem 0 false [y,x8]),.aM x8 1 (p.az.map av),.box k2 (.mem 0 false [.nul,.nul]),.box k1 (.mem 0 false [p.cd,p.sd])]∧(i+mm=p.code.length)) (p.code.length) ?_ ?_
 ·exact⟨0,.nul,_,rfl,hH,by omega⟩
 rintro mm fr st ⟨i,y,ks,hfr,hH,hi⟩;rw[hfr];clear hfr;generalize dQ fr=ee;clear fr;refine qq<|qj fun K hK=>qg ?_;refine qe hK<|qq ?_;refine af.cond (by rfl) (fun h1=>?_) (fun h1=>?_)<;>try simp only[decide_eq_true_eq,decide_eq_false_iff_not] at h1
 ·refine af.skip ?_
  obtain⟨q,hq⟩:∃q,p.code[i]?=some q:=⟨p.code[i]'(by omega),List.getElem?_eq_getElem _⟩
  have hr:=fM hq;have uD:=hp.i q (List.mem_of_getElem? hq);have wo:=uD.1;have PV:=uD.1.arg s0.bs.length S;have pJ:=uD.2;have nP:((p.code.take i).map o9).length≤1048576:=by rw[List.length_map,List.length_take];omega
  refine qq<|af.block<|qq<|qj fun K hK=>qr fun Pk K0=>?_;refine ab.cY rfl (ev rfl) (by assumption) rfl (ag rfl _) ?_;refine qa hH fun k5 st Bg hH=>?_;refine qS hH ax fun st hH=>?_;dsimp only[u2,u1,u3,u4,setMany,u5,u6,D.cells,Nat.reduceAdd,Pg.cs,aB,av] at hH;refine qe hK ?_;have hH:=hH.dP 2;refine qq<|qj fun K hK=>qp (o:=3) ?_;refine ql hH bC ?_;refine ab.bQ (s:=2) hH rfl (ev rfl) (ev rfl) (by exact ax) (by exact Arg.rows (by assumption) hH) rfl rfl rfl rfl rfl rfl rfl ⟨(Nat.le_of_ble_eq_true rfl),(Nat.le_of_ble_eq_true rfl)⟩ (fun _=>(ag rfl _)) (by simp only[List.length_nil,List.length_map]<;>omega) (by exact .inl hF) (fun OC st hH=>?_);dsimp only[u2,u1,u3,u4,setMany,u5,u6,D.cells,Nat.reduceAdd,Pg.cs,aB,av] at hH;refine qp (o:=3) ?_;refine qT hH bC (fun st hH=>?_) (gR:=hH.eI ax);dsimp only[u2,u1,u3,u4,setMany,u5,u6,D.cells,Nat.reduceAdd,Pg.cs,aB,av] at hH;refine qe hK<|qj fun K hK=>qp (o:=0) ?_;refine ql hH ef ?_;refine ab.aT (m:=4) hH rfl (ev rfl) (by exact bC) (by dsimp only[List.drop_succ_cons,List.drop_zero,List.take_succ_cons,List.take_zero,Pg.cs,aB,av]<;>rfl) rfl rfl (ag rfl _) ?_;refine qh (s:=4) (vs:=[_]) hH fun k24 st Qw hH=>?_;obtain⟨hH,Gr⟩:=hH.pt (i:=1) (j:=3) (by decide) bC ef (dN _);dsimp only[u1,u2] at hH;refine ab.jj hH rfl rfl rfl ef (hH.rows ax) (.cons (.cons (.plain _ rfl) (.cons (.plain _ rfl) (.cons (.plain _ rfl) (.cons Gr .nil)))) .nil) rfl rfl rfl rfl rfl rfl rfl ⟨(Nat.le_of_ble_eq_true rfl),(Nat.le_of_ble_eq_true rfl)⟩ (fun _=>(ag rfl _)) (by show _+1≤_;omega) (.inl hF) (fun O1 st hH=>?_);dsimp only[u1,u2] at hH;refine qp (o:=0) ?_;refine ab.jP hH rfl (ev rfl) (ev rfl) (by exact hH.mF (by exact ef)) (by exact rfl) (by exact fT) (by exact Nat.le_of_ble_eq_true rfl) (by exact .inl hF) (fun st hH=>?_);dsimp only[u2,u1,u3,u4,setMany,u5,u6,D.cells,Nat.reduceAdd,Pg.cs,aB,av] at hH;refine qe hK<|qj fun K hK=>qA ?_;refine qm ?_;refine qe hK ?_;exact⟨mm-1,by omega,⟨i+1,O1,_,rfl,(by rw[List.take_add_one,hq,Option.toList_some,List.map_append];exact hH.drop 3),by omega⟩⟩
 ·refine af.exit<|qq<|qj fun K hK=>?_;refine ab.aT (m:=2) hH rfl (ev rfl) (by exact bC) (by dsimp only[List.drop_succ_cons,List.drop_zero,List.take_succ_cons,List.take_zero,Pg.cs,aB,av]<;>rfl) rfl rfl (ag rfl _) ?_;refine qS hH ef fun st hH=>?_;dsimp only[u2,u1,u3,u4,setMany,u5,u6,D.cells,Nat.reduceAdd,Pg.cs,aB,av] at hH;refine qe hK ?_;rw[List.take_of_length_le (by omega)] at hH;have h1:=hH.jR ax (n:=14) (by decide);have h2:=hH.sU dp (mw _) (n:=15) (by decide)
  have h3:aV st s0.bs.length false 16 (.agg [y,x8])=some (.agg [.sl ((p.code.map o9).map (jr 4)),.sl ((p.az.map av).map (jr 1))]):=by
   show(eA (aV st s0.bs.length false 15) [y,x8]).map D.agg=_;simp only[eA,h1,h2,Option.map_some]
  refine af.ret ⟨rx,_,_,hH.lj rfl ef rfl,rl bZ hH h3,⟨_,p.code.map dS,AZ p.az,p.az⟩,rfl,⟨?_,uy _,?_,by simpa using hlen,M8⟩,rfl,rfl⟩
  ·have h0:(p.code.map dS).map aB=p.code.map o9:=by rw[List.map_map];rfl
   show e_ _ 4 ((p.code.map dS).map aB);rw[h0]
   have h4:∀e∈(p.code.map o9),e.length=4:=by
    intro e he;obtain⟨q,_,rfl⟩:=List.mem_map.1 he;rfl
   have:=e_.frozen (s:=4) (es:=p.code.map o9) h4 (by
    intro e he d hd;obtain⟨q,_,rfl⟩:=List.mem_map.1 he;simp only[o9,aB,dS,List.mem_cons,List.not_mem_nil,or_false] at hd
    rcases hd with rfl|rfl|rfl|rfl<;>rfl)
   exact this
  ·intro i hi;obtain⟨q,hq,rfl⟩:=List.mem_map.1 hi;exact BG (hp.i q hq)
theorem tc.right {p q:Pg} (h:tc p q) (hR:bU p):bU q:=(vJ h.code h.az).2 hR
theorem zJ {N:Nat} {S s0:St} {H:List bF} {p:Pg} (hF:S.flr≤N) (hp:p.ok) (hR:bU p) (hH:Has N S s0 H):
  ∃r ah,Ev pv 34 [p.d] s0 r ah∧∃kv ks q,r=.tup [.ptr kv 0 0,.int .i64 0]∧tc p q∧MH [] N S ah ks kv q 0 .nul [] H:=by
 have hc:=hp.c.arg N S;have hcl:=hR.cl;obtain⟨_,QL,q,rfl,hq⟩:=As (s0:=s0) hp;have hown:∀st,∃d,Ev pv 56 [p.d] st d st∧∃q:Pg,d=q.d∧tc p q:=fun st=>As hp;unfold Pg.d at hown;unfold Pg.d;clear QL hq q;refine Ev.i7 rfl RX rfl rfl rfl ?_;dsimp only[u3,u4,List.length,Nat.reduceSub,Nat.reduceAdd,w1,w2];change af _ _ _ _ s0 _;refine qq<|qj fun K hK=>qb hH fun k1 st nQ hH=>?_;dsimp only[u2,u1,u3,u4,setMany,u5,u6,D.cells,Nat.reduceAdd,Pg.cs,aB,av] at hH;refine qm ?_;refine qm ?_;refine qe hK<|qq<|qq<|qj fun K hK=>?_;refine ab.aT (m:=2) hH rfl (ev rfl) (by exact ax) (by dsimp only[List.drop_succ_cons,List.drop_zero,List.take_succ_cons,List.take_zero,Pg.cs,aB,av]<;>rfl) rfl rfl (ag rfl _) ?_;refine qv (pP (p:=p) hp) ?_;refine qg ?_;refine qe hK<|qE rfl (by rw[s9 hR];rfl) ?_;refine af.skip<|qq<|qj fun K hK=>qp (o:=0) ?_;refine ql hH ax ?_;refine qn ?_;simp only[List.length_map];obtain⟨_,st,aI,ks,rfl,pd,qd,P,Q,hH,ba⟩:=yv (n:=p.code.length) hF (by omega) hH;refine qv aI ?_;refine qm ?_;refine qg ?_;refine qg ?_;refine qm ?_;refine qm ?_;refine qe hK ?_;obtain⟨_,aI,q,rfl,hq⟩:=hown st;refine qq<|qj fun K hK=>?_;refine ab.aT (m:=2) hH rfl (ev rfl) (by exact ef) (by dsimp only[List.drop_succ_cons,List.drop_zero,List.take_succ_cons,List.take_zero,Pg.cs,aB,av]<;>rfl) rfl rfl (ag rfl _) ?_;refine qv aI ?_;refine qm ?_;refine ab.go (d:=.agg [q.cd,q.sd,.int .i64 0,.nul,.ptr ks 0 0]) (st1:=_) rfl rfl rfl (ag rfl _) ?_;refine qb hH fun k20 st Qy hH=>?_;refine qm ?_;refine qm ?_;refine qm ?_;refine qe hK<|af.ret ⟨rx,_,_,_,rfl,rfl,?_⟩;have hl:(List.replicate p.code.length false).length=q.code.length:=by rw[List.length_replicate,hq.code,List.length_map]
 exact⟨k20,ks,q,rfl,hq,pd,qd,P,Q,_,Has.mX [_] [_,_,_,_] ((hH.erase 4).dP 12),ba,hl⟩
def jn (s:Nat):PL:=⟨false,ch,[⟨s,ch⟩]⟩
theorem BV (iJ:∀st,Ev pv 57 [] st (.agg (aA ch)) st) {N ks kv:Nat} {S s0:St} {H:List bF} {p:Pg} (hF:S.flr≤N) (hp:p.ok) (hR:bU p) (hM:MH [] N S s0 ks kv p 0 .nul [] H):
  ∃d ah,Ev pv 35 [.ptr kv 0 0] s0 d ah∧d=.tup []∧∃ld L,L.map VL.pl=(aX p).map jn∧MH [] N S ah ks kv p 0 ld L H:=by
 have hs:=hp.s.arg N S;have LW:=hR.sl;obtain⟨pd,qd,P,Q,sn,hH,ba,fQ⟩:=hM;dsimp only[u4] at hH;refine Ev.i7 rfl RW rfl rfl rfl ?_;dsimp only[u3,u4,List.length,Nat.reduceSub,Nat.reduceAdd,w1,w2];change af _ _ _ _ s0 _;refine qq<|qj fun K hK=>qm ?_;refine qg ?_;refine qp (o:=0) ?_;refine qp (o:=1) ?_;refine ql hH ax ?_;refine qn ?_;simp only[List.length_map];refine qm ?_;refine qe hK<|af.block<|af.loop (fun mm fr st=>∃(i:Nat) (ld:D) (L:List VL),fr.clean=⟨11,[.ptr kv 0 0,dQ fr 1,dQ fr 2,dQ fr 3,dQ fr 4,dQ fr 5,dQ fr 6,dQ fr 7,p.sd,.int .i64 (p.az.length:Nat),.int .i64 (i:Nat)],[]⟩∧Has N S st (.box kv (.mem 0 false [p.cd,p.sd,.int .i64 ((0:Nat):Nat),ld,.ptr ks 0 0])::.box ks (.mem 0 false [pd,qd])::.aM pd 1 (P.map fc)::.aM qd 2 (Q.map lU)::.aM ld 12 (L.map fK)::(L.map py++H))∧(i+mm=p.az.length)∧(L.length=i)∧(L.map VL.pl=((aX p).take i).map jn)) (p.az.length) ?_ ?_
 ·exact⟨0,.nul,[],rfl,hH,by omega,rfl,rfl⟩
 rintro mm fr st ⟨i,ld,L,hfr,hH,hi,Cf,TF⟩;rw[hfr];clear hfr;generalize dQ fr=ee;clear fr;refine qq<|qj fun K hK=>qg ?_;refine qe hK<|qq ?_;refine af.cond (by rfl) (fun hlt=>?_) (fun hlt=>?_)<;>try simp only[decide_eq_true_eq,decide_eq_false_iff_not] at hlt
 ·refine af.skip ?_;have hil:i<p.az.length:=by omega
  obtain⟨s,A5⟩:∃s,p.az[i]?=some s:=⟨p.az[i]'(by omega),List.getElem?_eq_getElem _⟩
  obtain⟨pI,LX⟩:=hR.st s (List.mem_of_getElem? A5);obtain⟨s1,rfl⟩:=Int.eq_ofNat_of_zero_le pI;have gk:=dW A5;have fZ:(aX p)[i]?=some s1:=by unfold aX;rw[List.getElem?_map,A5];rfl
  refine qq<|af.block<|qq<|qj fun K hK=>qr fun S1 Nt=>?_;refine qR ?_;refine qm ?_;refine qe hK<|qj fun K hK=>qm ?_;refine qm ?_;refine qg ?_;refine qp (o:=3) ?_;refine ql hH ax ?_;refine qv (iJ _) ?_;refine qm ?_;refine qv (iJ _) ?_;refine ab.go (d:=.agg (aH ⟨s1,ch⟩)) (st1:=_) rfl rfl rfl (ag rfl _) ?_;refine qh (s:=11) (vs:=[_]) hH fun k23 st Lc hH=>?_;dsimp only[u2,u1,u3,u4,setMany,u5,u6,D.cells,Nat.reduceAdd,aB,aH,aN,aA,fK,av] at hH;refine ab.go (d:=.agg (aN false ch (.win k23 0 0 1 11))) (st1:=_) rfl rfl rfl (ag rfl _) ?_;refine qh (s:=12) (vs:=[_]) hH fun k25 st VZ hH=>?_;dsimp only[u2,u1,u3,u4,setMany,u5,u6,D.cells,Nat.reduceAdd,aB,aH,aN,aA,fK,av] at hH;refine ab.bQ (s:=12) hH rfl (ev rfl) (ev rfl) (by exact L9) (by exact hH.rows (by exact ax)) rfl rfl rfl rfl rfl rfl rfl ⟨(Nat.le_of_ble_eq_true rfl),(Nat.le_of_ble_eq_true rfl)⟩ (fun _=>(ag rfl _)) (by simp only[List.length_cons,List.length_nil,List.length_map]<;>omega) (by exact .inl hF) (fun T4 st hH=>?_);dsimp only[u2,u1,u3,u4,setMany,u5,u6,D.cells,Nat.reduceAdd,aB,aH,aN,aA,fK,av] at hH;refine qg ?_;refine qp (o:=3) ?_;refine qT hH dp (fun st hH=>?_) (gR:=hH.eI L9);dsimp only[u2,u1,u3,u4,setMany,u5,u6,D.cells,Nat.reduceAdd,aB,aH,aN,aA,fK,av] at hH;refine qe hK<|qj fun K hK=>qA ?_;refine qm ?_;refine qe hK ?_;have hH:=hH.drop 1;have hH:=Has.mX [_] (_::_::_::_::_::L.map py) hH;refine⟨mm-1,by omega,⟨i+1,T4,L++[⟨false,ch,.win k23 0 0 1 11,[⟨s1,ch⟩]⟩],rfl,?_,by omega,by simp;omega,?_⟩⟩
  ·rw[List.map_append,List.map_append,List.append_assoc];exact hH
  ·rw[List.map_append,TF,List.take_add_one,fZ,Option.toList_some,List.map_append];rfl
 ·refine af.exit ?_;refine⟨fun i h=>(by cases h),_,_,_,rfl,rfl,?_⟩;refine⟨rfl,ld,L,?_,pd,qd,P,Q,sn,hH,ba,fQ⟩;rw[TF,List.take_of_length_le];unfold aX;rw[List.length_map];omega
theorem yG {p:Pg} (hR:bU p):∀l∈(aX p).map jn,l.ok p.code.length:=by
 intro l hl;obtain⟨s,hs,rfl⟩:=List.mem_map.1 hl;obtain⟨v,hv,rfl⟩:=List.mem_map.1 hs;have:=hR.st v hv;refine⟨fun t ht=>?_,by simp[jn]⟩;simp only[jn,List.mem_cons,List.not_mem_nil,or_false] at ht;subst ht;show v.toNat<_;omega
theorem Ck (iJ:∀st,Ev pv 57 [] st (.agg (aA ch)) st) {N:Nat} {S s0:St} {H:List bF} {p:Pg} (hF:S.flr≤N) (hp:p.ok) (hR:bU p) (hH:Has N S s0 H):
  ∃r ah,Ev pv 12 [p.d] s0 r ah∧∃kv ks q ld L,r=.tup [.ptr kv 0 0,.int .i64 0]∧tc p q∧L.map VL.pl=(aX p).map jn∧MH [] N S ah ks kv q 0 ld L H:=by
 have G7:∀st H,Has N S st H→∃r ah,Ev pv 34 [p.d] st r ah∧∃kv ks q,r=.tup [.ptr kv 0 0,.int .i64 0]∧tc p q∧MH [] N S ah ks kv q 0 .nul [] H:=fun st H h=>zJ hF hp hR h;unfold Pg.d at*;refine Ev.i7 rfl Sa rfl rfl rfl ?_;dsimp only[u3,u4,List.length,Nat.reduceSub,Nat.reduceAdd,w1,w2];change af _ _ _ _ s0 _;refine qq<|qj fun K hK=>qb hH fun k1 st nQ hH=>?_;dsimp only[u2,u1,u3,u4,setMany,u5,u6,D.cells,Nat.reduceAdd,Pg.cs,aB,av] at hH;refine qm ?_;refine qm ?_;refine qe hK<|qq<|qj fun K hK=>?_;refine ab.aT (m:=2) hH rfl (ev rfl) (by exact ax) (by dsimp only[List.drop_succ_cons,List.drop_zero,List.take_succ_cons,List.take_zero,Pg.cs,aB,av]<;>rfl) rfl rfl (ag rfl _) ?_;obtain⟨_,st,aI,kv,ks,q,rfl,hq,hM⟩:=G7 _ _ hH;refine qv aI ?_;refine qm ?_;refine qg ?_;refine qg ?_;refine qm ?_;refine qm ?_;refine qe hK<|qq<|qq<|qj fun K hK=>qm ?_;refine qg ?_;refine qe hK<|af.cond (v:=false) (by dsimp only[Fr.ev,Fr.get,nth,V.look];rfl) (fun h=>by cases h) (fun _=>?_);refine af.skip ?_;obtain⟨_,st1,aI,rfl,ld,L,hL,hM⟩:=BV iJ hF hq.ok (hq.right hR) hM;refine qq<|qj fun K hK=>qm ?_;refine qv aI ?_;refine qe hK<|qq<|qj fun K hK=>qm ?_;refine qm ?_;refine qm ?_;refine qe hK<|af.ret ⟨rx,_,_,_,rfl,rfl,?_⟩;have UP:aX q=aX p:=by unfold aX;rw[hq.az]
 obtain⟨pd,qd,P,Q,sn,hH,ba,fQ⟩:=hM;refine⟨kv,ks,q,ld,L,rfl,hq,by rw[←UP];exact hL,pd,qd,P,Q,sn,?_,ba,fQ⟩;have hH:=Has.mX (_::_::_::_::_::L.map py) [_] (H:=H) hH;exact hH.drop 1
def mi (fr:Go.V.Fr) (k:Nat):Go.V.D:=Go.V.nth .bu fr.loc k
def O4 (l:List gM):D:=.sl ((l.map aH).map (jr 11))
def fk (l:PL):List D:=aN l.dn l.aR (O4 l.cI)
def ic (L:List PL):D:=.sl ((L.map fk).map (jr 12))
def fP (pl:Nat) (L:List PL):D:=.agg [.int .i64 (pl:Nat),ic L]
theorem gr (l:List gM):∀e∈l.map aH,∀d∈e,b5 d=true:=by
 intro e he d hd;obtain⟨q,_,rfl⟩:=List.mem_map.1 he;simp only[aH,List.mem_cons,List.not_mem_nil,or_false] at hd
 rcases hd with rfl|rfl|rfl|rfl|rfl|rfl|rfl|rfl|rfl|rfl|rfl<;>rfl
theorem zP (l:List gM):e_ (O4 l) 11 (l.map aH):=e_.frozen (Cl l) (gr l)
theorem Ko (L:List PL):∀e∈L.map fk,e.length=12:=by
 intro e he;obtain⟨q,_,rfl⟩:=List.mem_map.1 he;rfl
theorem Ao (L:List PL):∀e∈L.map fk,∀d∈e,b5 d=true:=by
 intro e he d hd;obtain⟨q,_,rfl⟩:=List.mem_map.1 he;simp only[fk,aN,List.mem_cons,List.not_mem_nil,or_false] at hd
 rcases hd with rfl|rfl|rfl|rfl|rfl|rfl|rfl|rfl|rfl|rfl|rfl|rfl<;>rfl
theorem jL (L:List PL):e_ (ic L) 12 (L.map fk):=e_.frozen (Ko L) (Ao L)
theorem vU {L:List PL} {i:Nat} {l:PL} (h:L[i]?=some l):(L.map fk)[i]?=some (fk l):=by rw[List.getElem?_map,h];rfl
theorem wK {st:St} {ks:Nat→Prop} {dn:Bool} {f:tp} {x y:D} (h:ei st ks x y):cq (ei st ks) (aN dn f x) (aN dn f y):=
 .cons (.plain _ rfl) (.cons (.plain _ rfl) (.cons (.plain _ rfl) (.cons (.plain _ rfl) (.cons (.plain _ rfl) (.cons (.plain _ rfl) (.cons (.plain _ rfl) (.cons (.plain _ rfl) (.cons (.plain _ rfl) (.cons (.plain _ rfl) (.cons (.plain _ rfl) (.cons h .nil)))))))))))
theorem zo {N:Nat} {S s0:St} {H:List bF} {x:D} {L:List VL} (hF:S.flr≤N) (Cf:L.length≤1000) (hx:Arg N S 12 x (L.map fK)) (ht:∀l∈L,Arg N S 11 l.td (l.cI.map aH)∧l.cI.length≤1000) (hH:Has N S s0 H):
  ∃d ah,Ev pv 40 [x] s0 d ah∧∃ks,Has N S ah (.deep ks d 12 ((L.map VL.pl).map fk)::H):=by
 refine Ev.i7 rfl RV rfl rfl rfl ?_;dsimp only[u3,u4,List.length,Nat.reduceSub,Nat.reduceAdd,w1,w2];change af _ _ _ _ s0 _;refine qq<|qj fun K hK=>qm ?_;refine qe hK<|qq<|qj fun K hK=>qm ?_;refine qe hK<|qq<|qq<|qj fun K hK=>qm ?_;refine qn ?_;simp only[List.length_map];refine qm ?_;refine qe hK<|af.block<|af.loop (fun mm fr st=>∃(i:Nat) (y:D) (ks:Nat→Prop),fr.clean=⟨9,[mi fr 0,mi fr 1,mi fr 2,y,mi fr 4,mi fr 5,x,.int .i64 (L.length:Nat),.int .i64 (i:Nat)],[]⟩∧Has N S st (.deep ks y 12 (((L.map VL.pl).take i).map fk)::H)∧(i+mm=L.length)) (L.length) ?_ ?_
 ·exact⟨0,.nul,_,rfl,(hH.AF 12),by omega⟩
 rintro mm fr st ⟨i,y,ks,hfr,hH,hi⟩;rw[hfr];clear hfr;generalize mi fr=ee;clear fr;refine qq<|qj fun K hK=>qg ?_;refine qe hK<|qq ?_;refine af.cond (by rfl) (fun hlt=>?_) (fun hlt=>?_)<;>try simp only[decide_eq_true_eq,decide_eq_false_iff_not] at hlt
 ·refine af.skip ?_;have hil:i<L.length:=by omega
  obtain⟨l,hl⟩:∃l,L[i]?=some l:=⟨L[i]'hil,List.getElem?_eq_getElem _⟩
  obtain⟨Tb,nP⟩:=ht l (List.mem_of_getElem? hl);have gk:=vw hl;have Vx:(L.map VL.pl)[i]?=some l.pl:=by rw[List.getElem?_map,hl];rfl
  have UI:(((L.map VL.pl).take i).map fk).length≤1048576:=by rw[List.length_map,List.length_take,List.length_map];omega
  refine qq<|af.block<|qq<|qj fun K hK=>qr fun S4 Nv=>?_;refine ab.cY rfl (ev rfl) (by assumption) rfl (ag rfl _) ?_;refine qa hH fun k5 st Bg hH=>?_;refine qS hH ax fun st hH=>?_;dsimp only[u2,u1,u3,u4,setMany,u5,u6,D.cells,Nat.reduceAdd,aB,aH,aN,aA,fK,fk] at hH;refine qe hK ?_;have hH:=hH.dP 11;refine qq<|qj fun K hK=>qp (o:=11) ?_;refine ql hH bC ?_;refine ab.bQ (s:=11) hH rfl (ev rfl) (ev rfl) (by exact ax) (by exact Arg.rows (by assumption) hH) rfl rfl rfl rfl rfl rfl rfl ⟨(Nat.le_of_ble_eq_true rfl),(Nat.le_of_ble_eq_true rfl)⟩ (fun _=>(ag rfl _)) (by simp only[List.length_nil,List.length_map]<;>omega) (by exact .inl hF) (fun WW st hH=>?_);dsimp only[u2,u1,u3,u4,setMany,u5,u6,D.cells,Nat.reduceAdd,aB,aH,aN,aA,fK,fk] at hH;refine qp (o:=11) ?_;refine qT hH bC (fun st hH=>?_) (gR:=hH.eI ax);dsimp only[u2,u1,u3,u4,setMany,u5,u6,D.cells,Nat.reduceAdd,aB,aH,aN,aA,fK,fk] at hH;refine qe hK<|qj fun K hK=>qm ?_;refine ab.aT (m:=12) hH rfl (ev rfl) (by exact bC) (by dsimp only[List.drop_succ_cons,List.drop_zero,List.take_succ_cons,List.take_zero,aB,aH,aN,aA,fK,fk]<;>rfl) rfl rfl (ag rfl _) ?_;refine qh (s:=12) (vs:=[_]) hH fun k18 st V1 hH=>?_;obtain⟨hH,Gr⟩:=hH.pt (i:=1) (j:=3) (by decide) bC ef (gr _);dsimp only[u1,u2] at hH;refine ab.jj hH rfl rfl rfl ef (hH.rows ax) (.cons (wK (dn:=l.dn) (f:=l.aR) Gr) .nil) rfl rfl rfl rfl rfl rfl rfl ⟨(Nat.le_of_ble_eq_true rfl),(Nat.le_of_ble_eq_true rfl)⟩ (fun _=>(ag rfl _)) (by show _+1≤_;omega) (.inl hF) (fun OC st hH=>?_);dsimp only[u1,u2] at hH;refine qm ?_;refine qe hK<|qj fun K hK=>qA ?_;refine qm ?_;refine qe hK ?_;exact⟨mm-1,by omega,⟨i+1,OC,_,rfl,(by rw[List.take_add_one,Vx,Option.toList_some,List.map_append];exact hH.drop 3),by omega⟩⟩
 ·refine af.exit ?_;have hil:i=L.length:=by omega
  refine qq<|qj fun K hK=>qm ?_;refine qm ?_;refine qe hK<|af.ret ⟨rx,_,_,_,rfl,rfl,?_⟩;rw[List.take_of_length_le (by simp;omega)] at hH;exact⟨_,hH⟩
structure AM (N:Nat) (S:St) (kv ks:Nat) (p:Pg) (pl:Nat) (ld:D) (L:List VL):Prop where
 lt:kv<N
 le:N≤S.bs.length
 at_:S.bs[kv]?=some (.mem 0 false [p.cd,p.sd,.int .i64 (pl:Nat),ld,.ptr ks 0 0])
 ld:Arg N S 12 ld (L.map fK)
 td:∀l∈L,Arg N S 11 l.td (l.cI.map aH)
 ksl:ks<N
theorem AM.box {N:Nat} {S st:St} {H:List bF} {kv ks:Nat} {p:Pg} {pl:Nat} {ld:D} {L:List VL} (h:AM N S kv ks p pl ld L) (hH:Has N S st H):st.bs[kv]?=some (.mem 0 false [p.cd,p.sd,.int .i64 (pl:Nat),ld,.ptr ks 0 0]):=by
 rw[hH.ex.low kv h.lt];exact h.at_
theorem AM.refs {N:Nat} {S st:St} {H:List bF} {kv ks:Nat} {p:Pg} {pl:Nat} {ld:D} {L:List VL} (h:AM N S kv ks p pl ld L) (hp:p.ok) (hH:Has N S st H):V.refs [p.cd,p.sd,.int .i64 (pl:Nat),ld,.ptr ks 0 0]≤st.bs.length:=by
 have h1:=hp.c.ref;have h2:=hp.s.ref;have h3:=h.ld.2;have h4:=h.ksl;have h5:=h.le;have h6:=hH.ex.len;simp only[V.refs,D.ref,h1,h2];omega
theorem AM.to {N:Nat} {S st:St} {H:List bF} {kv ks:Nat} {p:Pg} {pl:Nat} {ld:D} {L:List VL} (h:AM N S kv ks p pl ld L) (hH:Has N S st H) (o:Nat):iN st (.ptr kv 0 o) ([p.cd,p.sd,.int .i64 (pl:Nat),ld,.ptr ks 0 0].drop o):=
 .inl ⟨kv,0,o,false,_,rfl,St.mem_of (by rw[hH.ex.low kv h.lt];exact h.at_),List.take_length ..⟩
theorem vn {kv ks:Nat} {s0:St} {p:Pg} {pl:Nat} {ld:D} {L:List VL} (hp:p.ok) (Cf:L.length≤1000) (ba:∀l∈L,l.cI.length≤1000) (hA:AM s0.bs.length s0 kv ks p pl ld L) (e7:s0.ro≤s0.bs.length):
  ∃d ah,Ev pv 17 [.ptr kv 0 0] s0 d ah∧d=fP pl (L.map VL.pl)∧ah=s0:=by
 have Tk:=hA.at_;have gF:=hA.lt;have sN:=hA.ld.1;have UJ:∀(i:Nat) (l:VL),L[i]?=some l→V.Rows s0 11 l.td (l.cI.map aH):=fun i l hl=>(hA.td l (List.mem_of_getElem? hl)).1;have KS:=hA.refs hp (Has.start (Nat.le_refl _) e7);refine Ev.i7 rfl R8 rfl rfl rfl ?_;dsimp only[u3,u4,List.length,Nat.reduceSub,Nat.reduceAdd,w1,w2];have bZ:(ai .rw s0).bs=s0.bs:=rfl;have hF:(ai .rw s0).flr≤s0.bs.length:=Nat.le_refl _;have hH:Has s0.bs.length (ai .rw s0) (ai .rw s0) []:=Has.start (Nat.le_refl _) e7;generalize ai .rw s0=S2 at*;have hx:=Arg.of sN bZ;refine qq<|qj fun K hK=>qa hH fun k2 st hk2 hH=>qe hK ?_;have Gl:st.bs[kv]?=some (.mem 0 false [p.cd,p.sd,.int .i64 (pl:Nat),ld,.ptr ks 0 0]):=by rw[hH.ex.low kv gF,bZ];exact Tk
 have Cc:iN st (.ptr kv 0 2) [.int .i64 (pl:Nat)]:=.inl ⟨kv,0,2,false,_,rfl,St.mem_of Gl,rfl⟩;have G4:iN st (.ptr kv 0 3) [ld]:=.inl ⟨kv,0,3,false,_,rfl,St.mem_of Gl,rfl⟩;have hlen:=hH.ex.len;rw[bZ] at hlen;change af _ _ _ _ _ _;refine qq ?_;generalize hK:bX _ _ _ _=K;refine af.rP rfl<|cE.cons<|qm<|ab.nil ⟨rfl,?_⟩;refine cE.cons<|qg<|ab.nil ⟨rfl,?_⟩;refine cE.cons<|qp (o:=2)<|ab.nil ⟨rfl,?_⟩;refine cE.cons<|qR<|ab.nil ⟨rfl,?_⟩;refine cE.cons<|qm<|ab.nil ⟨rfl,?_⟩;refine cE.cons<|qg<|ab.nil ⟨rfl,?_⟩;refine cE.cons<|qp (o:=3)<|ab.nil ⟨rfl,?_⟩;refine cE.cons<|qR<|ab.nil ⟨rfl,?_⟩;refine cE.cons ?_;obtain⟨yd,st,aI,Xp,hH⟩:=zo hF Cf hx (fun l hl=>⟨by obtain⟨i,hi⟩:=List.getElem?_of_mem hl;exact Arg.of (UJ i l hi) bZ,ba l hl⟩) hH;refine qv aI<|ab.nil ⟨by exact Bool.and_eq_true_iff.2 ⟨gv rfl rfl rfl Gl (by rw[hH.ex.low kv gF,bZ];exact Tk) Gl (by omega),rfl⟩,?_⟩;refine cE.cons ?_;refine ab.fu (qs:=[(0,_),(1,_)]) rfl rfl rfl rfl ⟨rfl,(ev rfl),(by rfl),rfl,(ev rfl),(by exact hH.mF (by exact ax)),trivial⟩ (by intro q hq;simp only[List.mem_cons,List.not_mem_nil,or_false] at hq;rcases hq with rfl|rfl<;>exact⟨rfl,by exact Nat.le_of_ble_eq_true rfl⟩) (by show List.foldl _ [_,_] _=_;dsimp only[List.foldl_cons,List.foldl_nil,u2,u1]<;>rfl) (ag rfl _) ?_;refine ab.nil ⟨rfl,?_⟩;refine cE.cons<|qS hH bC fun st hH=>?_;dsimp only[u2,u1,u3,u4,setMany,u5,u6,D.cells,Nat.reduceAdd,aB,aH,aN,aA,fK,fk] at hH;refine ab.nil ⟨rfl,?_⟩;refine cE.nil ?_;subst hK;have h1:=hH.jR ax (n:=14) (by decide)
 have h3:aV st s0.bs.length false 16 (.agg [.int .i64 (pl:Nat),yd])=some (fP pl (L.map VL.pl)):=by
  show(eA (aV st s0.bs.length false 15) [.int .i64 (pl:Nat),yd]).map D.agg=_;simp only[eA,h1]
  rfl
 refine af.ret ⟨rx,_,_,_,hH.lj rfl bC rfl,aj h3,rfl,?_⟩
 have Wo:st.bs.take s0.bs.length=s0.bs:=by
  refine List.ext_getElem? fun j=>?_;rw[List.getElem?_take]
  by_cases hj:j<s0.bs.length
  ·rw[if_pos hj,hH.ex.low j hj,bZ]
  ·rw[if_neg hj,List.getElem?_eq_none (by omega)]
 rw[Wo]
theorem MH.am {N ks kv:Nat} {S s0:St} {H:List bF} {p:Pg} {pl:Nat} {ld:D} {L:List VL} (hM:MH [] N S s0 ks kv p pl ld L H):AM s0.bs.length s0 kv ks p pl ld L:=by
 obtain⟨pd,qd,P,Q,sn,hH,ky,fQ⟩:=hM;dsimp only[u4] at hH
 exact⟨(hH.ge ax).2,Nat.le_refl _,hH.at ax,⟨hH.rows fT,ja hH fT⟩,fun l hl=>(by
  obtain⟨i,hi⟩:=List.getElem?_of_mem hl;have h:=zL (H:=H) [.box kv (.mem 0 false [p.cd,p.sd,.int .i64 (pl:Nat),ld,.ptr ks 0 0]),.box ks (.mem 0 false [pd,qd]),.aM pd 1 (P.map fc),.aM qd 2 (Q.map lU),.aM ld 12 (L.map fK)] rfl hi
  exact⟨hH.rows h,ja hH h⟩),hH.oI bC rfl⟩
theorem MH.ro {N ks kv:Nat} {S s0:St} {H:List bF} {p:Pg} {pl:Nat} {ld:D} {L:List VL} (hM:MH [] N S s0 ks kv p pl ld L H):s0.ro≤s0.bs.length:=by
 obtain⟨pd,qd,P,Q,sn,hH,ky,fQ⟩:=hM;rw[hH.ex.ro];exact Nat.le_trans hH.e7 (Nat.le_trans hH.hN hH.ex.len)
theorem w7 {N ks kv:Nat} {S s0:St} {H:List bF} {p:Pg} {pl:Nat} {ld:D} {L:List VL} (hp:p.ok) (Cf:L.length≤1000) (ba:∀l∈L,l.cI.length≤1000) (hM:MH [] N S s0 ks kv p pl ld L H):
 ∃d ah,Ev pv 17 [.ptr kv 0 0] s0 d ah∧d=fP pl (L.map VL.pl)∧ah=s0:=vn hp Cf ba hM.am hM.ro
end Go.Proofs.YtbdilgkfnacahaaGreat
