import Derived.Test.YtbdnabmmlbiomaaGreatXGUo
import Derived.Test.YtbdnabmmlbiomaaGreatXGQh
import Derived.Test.YtbdnabmmlbiomaaGreatXGUb
set_option maxRecDepth 100000
set_option maxHeartbeats 4000000
set_option linter.unusedSimpArgs false
set_option linter.unusedVariables false
namespace Go.Proofs.YtbdnabmmlbiomaaGreat
open Go.V Go
def bG (fr:Go.V.Fr) (k:Nat):Go.V.D:=Go.V.nth .bp fr.loc k
def gU (l:List iO) (k:Nat):Bool:=l.any fun x=>x.pc==k
def kD (l:List iO) (t:iO):List iO:=if gU l t.pc=true then l else l++[t]
def vC (code:List aO) (pc:Nat):List Rg:=match code[pc]? with
 |some i=>i.rs
 |none=>[]
def fU (code:List aO) (r:Int):List iO→List iO→List iO
 |[],a=>a
 |t::ts,a=>fU code r ts (if jN (vC code t.pc) r=true then kD a ⟨t.pc+1,t.c⟩ else a)
structure PL where
 dn:Bool
 a7:vd
 cT:List iO
def fP (code:List aO) (pl start:Nat) (r:Int) (l:PL):PL:=
 ⟨(kH code pl false l.cT (jv code.length l.dn l.a7)).dn,(kH code pl false l.cT (jv code.length l.dn l.a7)).a7,
  if(kH code pl false l.cT (jv code.length l.dn l.a7)).dn=true then fU code r (kH code pl false l.cT (jv code.length l.dn l.a7)).rdy []
  else kD (fU code r (kH code pl false l.cT (jv code.length l.dn l.a7)).rdy []) ⟨start,b4⟩⟩
theorem rb (l:List iO) (t:iO) (k:Nat):gU (l++[t]) k=(gU l k||t.pc==k):=by
 unfold gU;rw[List.any_append];simp
theorem rM (l:List iO) (t:iO):(kD l t).length≤l.length+1:=by
 unfold kD;split
 ·omega
 ·simp
theorem xv {l:List iO} {t x:iO} (h:x∈kD l t):x∈l∨x=t:=by
 unfold kD at h;split at h
 ·exact .inl h
 ·rcases List.mem_append.1 h with h|h
  ·exact .inl h
  ·exact .inr (by simpa using h)
theorem qF {code:List aO} {r:Int}:∀(l a:List iO),(fU code r l a).length≤l.length+a.length∧∀x∈fU code r l a,x∈a∨∃t∈l,x.pc=t.pc+1
 |[],a=>⟨by simp[fU],fun x h=>.inl h⟩
 |t::ts,a=>by
  unfold fU
  split
  ·obtain⟨h1,h2⟩:=qF (code:=code) (r:=r) ts (kD a ⟨t.pc+1,t.c⟩);have:=rM a ⟨t.pc+1,t.c⟩;refine⟨by simp only[List.length_cons];omega,fun x hx=>?_⟩
   rcases h2 x hx with h|⟨y,hy,he⟩
   ·rcases xv h with h|h
    ·exact .inl h
    ·exact .inr ⟨t,List.mem_cons_self ..,by rw[h]⟩
   ·exact .inr ⟨y,List.mem_cons_of_mem _ hy,he⟩
  ·obtain⟨h1,h2⟩:=qF (code:=code) (r:=r) ts a;refine⟨by simp only[List.length_cons];omega,fun x hx=>?_⟩
   rcases h2 x hx with h|⟨y,hy,he⟩
   ·exact .inl h
   ·exact .inr ⟨y,List.mem_cons_of_mem _ hy,he⟩
def PL.ok (n:Nat) (l:PL):Prop:=(∀t∈l.cT,t.pc<n)∧l.cT.length≤1000
theorem nz {code:List aO} {pl:Nat} {e:Bool} {l:List iO} {dn:Bool} {a7:vd}:(kH code pl e l (jv code.length dn a7)).rdy.length≤code.length∧∀t∈(kH code pl e l (jv code.length dn a7)).rdy,∃i,code[t.pc]?=some i∧i.op=1:=by
 obtain⟨_,_,h3,h4⟩:=rm code pl e l (jv code.length dn a7);have:=List.count_le_length (a:=false) (l:=(jv code.length dn a7).seen);simp only[jv,List.length_replicate,List.length_nil] at h3 this;refine⟨by simp only[jv];omega,fun t ht=>?_⟩
 rcases h4 t ht with h|h
 ·simp[jv] at h
 ·exact h
theorem pU {p:Pg} (hR:bz p) {t:iO} (h:∃i,p.code[t.pc]?=some i∧i.op=1):t.pc+1<p.code.length:=by
 obtain⟨i,hi,h1⟩:=h;have:=jY (hR.sh t.pc i hi);omega
theorem Ch {p:Pg} (hR:bz p) {pl start:Nat} {r:Int} {l:PL} (hs:start<p.code.length):(fP p.code pl start r l).ok p.code.length:=by
 obtain⟨h1,h2⟩:=nz (code:=p.code) (pl:=pl) (e:=false) (l:=l.cT) (dn:=l.dn) (a7:=l.a7);have hcl:=hR.cl;unfold fP PL.ok;generalize kH p.code pl false l.cT (jv p.code.length l.dn l.a7)=w at*;obtain⟨h3,h4⟩:=qF (code:=p.code) (r:=r) w.rdy []
 have h5:∀x∈fU p.code r w.rdy [],x.pc<p.code.length:=fun x hx=>by
  rcases h4 x hx with h|⟨t,ht,he⟩
  ·cases h
  ·have:=pU hR (h2 t ht);omega
 simp only[List.length_nil] at h3;simp only
 split
 ·exact⟨h5,by omega⟩
 ·refine⟨fun x hx=>?_,?_⟩
  ·rcases xv hx with h|h
   ·exact h5 x h
   ·rw[h];exact hs
  ·have:=rM (fU p.code r w.rdy []) ⟨start,b4⟩;omega
theorem Cg (dE:∀st,Ev pv 59 [] st (.agg (aF b4)) st) {N ks kv:Nat} {S s0:St} {H:List bt} {p:Pg} {pl:Nat} {ld:D} {L:List VL} {i start:Nat} {l:VL} {r:Int} (hF:S.flr≤N) (hp:p.ok) (hR:bz p) (iq:pl≤1099511627776) (hl:L[i]?=some l) (P7:p.aw[i]?=some ((start:Nat):Int)) (z6:(⟨l.dn,l.a7,l.cT⟩:PL).ok p.code.length) (hM:MH [] N S s0 ks kv p pl ld L H):
  ∃d ai,Ev pv 62 [.ptr kv 0 0,.int .i64 (i:Nat),.int .i32 r] s0 d ai∧∃td,d=.agg (aU (fP p.code pl start r ⟨l.dn,l.a7,l.cT⟩).dn (fP p.code pl start r ⟨l.dn,l.a7,l.cT⟩).a7 td)∧MH [.aP td 11 ((fP p.code pl start r ⟨l.dn,l.a7,l.cT⟩).cT.map aN)] N S ai ks kv p pl ld L H:=by
 have hcl:=hR.cl;have hc:=hp.c.arg N S;have hs:=hp.s.arg N S;have hlen:=hp.cl;have P3:start<p.code.length:=by have:=(hR.st _ (List.mem_of_getElem? P7)).2;omega
 have UX:=eO P7;obtain⟨SE,VZ⟩:=z6;simp only at SE VZ;obtain⟨hb1,hb2⟩:=nz (code:=p.code) (pl:=pl) (e:=false) (l:=l.cT) (dn:=l.dn) (a7:=l.a7);obtain⟨pd,qd,P,Q,sn,hH,bc,ec⟩:=hM;dsimp only[u4] at hH;unfold fP;simp only;refine Ev.il rfl XZ rfl rfl rfl ?_;dsimp only[u3,u4,List.length,Nat.reduceSub,Nat.reduceAdd,w1,w2];change ab _ _ _ _ s0 _;refine qq<|qj fun K hK=>qa hH fun k6 st Me hH=>?_;refine qe hK ?_;obtain⟨_,st1,aK,rd,rfl,hM⟩:=tf (e:=false) hF hp hR iq hl SE (by omega) (MH.push [_] [] ⟨pd,qd,P,Q,sn,hH,bc,ec⟩);clear bc ec;have hM:=MH.pull [_] [_] hM;generalize kH p.code pl false l.cT (jv p.code.length l.dn l.a7)=W at*;obtain⟨pd,qd,P,Q,sn,QS,bc,ec⟩:=hM;dsimp only[u3,u4] at QS;refine qq<|qj fun K hK=>qm ?_;refine qm ?_;have hH:=QS;refine qv aK ?_;refine qm ?_;refine qg ?_;refine qg ?_;refine qa hH fun k7 st U3 hH=>?_;refine qS hH aB fun st hH=>?_;dsimp only[u2,u1,u3,u4,setMany,u5,u6,D.cells,Nat.reduceAdd,aH,aN,aU,aF,fp] at hH;refine qm ?_;refine qe hK ?_;clear QS;refine qq<|qj fun K hK=>qm ?_;refine qg ?_;refine qp (o:=4) ?_;refine ql hH eQ ?_;obtain⟨_,st,aK,rfl,pd,qd,P,Q,hH,bc⟩:=oz [_,_,_,_] hF bc hH;dsimp only[u3,u4] at hH;refine qv aK ?_;refine qe hK ?_;rw[ec] at bc;refine qq<|qq<|qj fun K hK=>qm ?_;refine qn ?_ (hR:=hH.rows dL);simp only[List.length_map];refine qm ?_;refine qe hK ?_;have hH:=Has.kE [_] [_] (hH.d_ 11);dsimp only[u3,u4] at hH
 obtain⟨A,hA⟩:∃A,fU p.code r W.rdy []=A:=⟨_,rfl⟩
 rw[hA];refine ab.block<|ab.loop (fun mm fr st=>∃(j:Nat) (acc rest:List iO) (td pd qd:D) (P Q:List Nat) (sn:List Bool),fr.clean=⟨25,[.ptr kv 0 0,.int .i64 (i:Nat),.int .i32 r,bG fr 3,bG fr 4,bG fr 5,.ptr k6 0 0,.ptr k7 0 0,rd,bG fr 9,bG fr 10,bG fr 11,bG fr 12,bG fr 13,bG fr 14,bG fr 15,bG fr 16,bG fr 17,bG fr 18,bG fr 19,bG fr 20,bG fr 21,rd,.int .i64 (W.rdy.length:Nat),.int .i64 (j:Nat)],[]⟩∧Has N S st (.box k7 (.mem 0 false (aU W.dn W.a7 td))::.aP td 11 (acc.map aN)::.box k6 (.mem 0 false (aU false mq .nul))::.aP rd 11 (W.rdy.map aN)::.box kv (.mem 0 false [p.cd,p.sd,.int .i64 (pl:Nat),ld,.ptr ks 0 0])::.box ks (.mem 0 false [pd,qd])::.aP pd 1 (P.map fT)::.aP qd 2 (Q.map mM)::.aP ld 12 (L.map fp)::(L.map nA++H))∧(j+mm=W.rdy.length)∧(rest=W.rdy.drop j)∧(fU p.code r rest acc=A)∧(acc.length≤j)∧(cV P Q sn)∧(sn.length=p.code.length)∧(∀k,k<p.code.length→sn[k]?=some (gU acc k))) (W.rdy.length) ?_ ?_
 ·refine⟨0,[],W.rdy,.nul,_,_,_,_,_,rfl,hH,by omega,rfl,hA,by simp,bc,by simp,(fun k hk=>by rw[List.getElem?_replicate,if_pos hk];rfl)⟩
 rintro mm fr st ⟨j,acc,rest,td,pd,qd,P,Q,sn,hfr,hH,hj,ku,hex,hal,bc,ec,u7⟩;rw[hfr];clear hfr;generalize bG fr=ee;clear fr;refine qq<|qj fun K hK=>qg ?_;refine qe hK<|qq ?_;refine ab.cond (by rfl) (fun hlt=>?_) (fun hlt=>?_)<;>try simp only[decide_eq_true_eq,decide_eq_false_iff_not] at hlt
 ·refine ab.skip ?_;have jq:j<W.rdy.length:=by omega
  obtain⟨t,ht⟩:∃t,W.rdy[j]?=some t:=⟨W.rdy[j]'jq,List.getElem?_eq_getElem _⟩
  have La:=lx ht;obtain⟨ii,hii,Rz⟩:=hb2 t (List.mem_of_getElem? ht);have L4:=pU hR ⟨ii,hii,Rz⟩;have o3:=gD hii;have Mf:=hp.i ii (List.mem_of_getElem? hii);have DB:=Mf.1;have DC:=DB.arg N S;have V_:=Mf.2
  have q_:rest=t::W.rdy.drop (j+1):=by
   rw[ku,List.drop_eq_getElem_cons jq]
   congr 1
   exact Option.some.inj ((List.getElem?_eq_getElem _).symm.trans ht)
  rw[q_] at hex;have P8:vC p.code t.pc=ii.rs:=by unfold vC;rw[hii]
  unfold fU at hex;rw[P8] at hex;have Wg:gU acc (t.pc+1)=gU acc (t.pc+1):=rfl;generalize Xl:gU acc (t.pc+1)=bq at Wg;have K8:=u7 (t.pc+1) L4;rw[Xl] at K8;refine qq<|ab.block<|qq<|qj fun K hK=>qi hH eQ fun p26 Wy=>?_;refine aa.tS hH rfl (ev rfl) (by assumption) (by exact eQ) (by assumption) rfl (ah rfl _) ?_;refine qa hH fun k10 st WV hH=>?_;dsimp only[u2,u1,u3,u4,setMany,u5,u6,D.cells,Nat.reduceAdd,aH,aN,aU,aF,fp] at hH;refine qS hH aB fun st hH=>?_;dsimp only[u2,u1,u3,u4,setMany,u5,u6,D.cells,Nat.reduceAdd,aH,aN,aU,aF,fp] at hH;refine qe hK ?_
  cases dp:jN ii.rs r with
  |false=>
   rw[dp,if_neg (by decide)] at hex;refine qq<|qj fun K hK=>qm ?_;refine qg ?_;refine qp (o:=0) ?_;refine qp (o:=0) ?_;refine ql hH rH ?_;refine qp (o:=0) ?_;refine ql hH aB ?_;refine qr fun UQ Ld=>?_;refine qf (fo:=3) fun Vs Qe=>?_;refine qR ?_;refine qm ?_;refine qv (DZ (DC.rows hH) (by omega)) ?_;refine qm ?_;refine qs ?_ (hg:=wn dp);refine qs ?_ (hg:=wn dp);refine qs ?_ (hg:=wn dp);refine qs ?_ (hg:=wn dp);refine qs ?_ (hg:=wn dp);refine qs ?_ (hg:=wn dp);refine qs ?_ (hg:=wn dp);refine qs ?_ (hg:=wn dp);refine qu dp ?_;refine qe hK<|qC ?_;refine ab.skip<|qj fun K hK=>qA ?_;refine qm ?_;refine qe hK ?_;exact⟨mm-1,by omega,⟨j+1,acc,W.rdy.drop (j+1),td,pd,qd,P,Q,sn,rfl,(hH.drop 1),by omega,rfl,hex,by omega,bc,ec,u7⟩⟩
  |true=>
   rw[dp,if_pos rfl] at hex;have hex:fU p.code r (W.rdy.drop (j+1)) (if gU acc (t.pc+1)=true then acc else acc++[⟨t.pc+1,t.c⟩])=A:=hex;rw[Xl] at hex;have nu:t.pc+1<sn.length:=by omega
   refine qq<|qj fun K hK=>qm ?_;refine qg ?_;refine qp (o:=0) ?_;refine qp (o:=0) ?_;refine ql hH rH ?_;refine qp (o:=0) ?_;refine ql hH aB ?_;refine qr fun UQ Ld=>?_;refine qf (fo:=3) fun Vs Qe=>?_;refine qR ?_;refine qm ?_;refine qv (DZ (DC.rows hH) (by omega)) ?_;refine qm ?_;refine qm ?_ (hg:=wi dp);refine qg ?_ (hg:=wi dp);refine qp (o:=4) ?_ (hg:=wi dp);refine ql hH rH ?_ (hg:=wi dp);refine qp (o:=0) ?_ (hg:=wi dp);refine ql hH aB ?_ (hg:=wi dp);refine qA ?_ (hg:=wi dp);obtain⟨_,st,aK,rfl,pd,qd,P,Q,hH,bc⟩:=nF [_,_,_,_,_,_] hF K8 bc hH;dsimp only[u3,u4] at hH;refine qv aK ?_ (hg:=wi dp);refine qt dp ?_;refine qe hK ?_
   cases bq with
   |true=>
    rw[if_pos rfl] at hex;refine qC ?_;refine ab.skip<|qj fun K hK=>qA ?_;refine qm ?_;refine qe hK ?_;refine⟨mm-1,by omega,⟨j+1,acc,W.rdy.drop (j+1),td,pd,qd,P,Q,sn.set (t.pc+1) true,rfl,(hH.drop 1),by omega,rfl,hex,by omega,bc,by rw[List.length_set];exact ec,?_⟩⟩;intro k hk
    by_cases hkk:k=t.pc+1
    ·subst hkk;rw[List.getElem?_set_self nu,Xl]
    ·rw[List.getElem?_set_ne (fun e=>hkk e.symm)];exact u7 k hk
   |false=>
    rw[if_neg (by decide)] at hex;refine qB ?_;refine qq<|qj fun K hK=>qp (o:=0) ?_;refine ql hH aB ?_;refine qA ?_;refine qp (o:=0) ?_;refine qT hH aB fun st hH=>?_;dsimp only[u2,u1,u3,u4,setMany,u5,u6,D.cells,Nat.reduceAdd,aH,aN,aU,aF,fp] at hH;refine qe hK<|qj fun K hK=>qp (o:=11) ?_;refine ql hH bF ?_;refine aa.aT (m:=11) hH rfl (ev rfl) (by exact aB) (by dsimp only[List.drop_succ_cons,List.drop_zero,List.take_succ_cons,List.take_zero,aH,aN,aU,aF,fp]<;>rfl) rfl rfl (ah rfl _) ?_;refine qh (s:=11) (vs:=[_]) hH fun k57 st aaS hH=>?_;refine aa.bO (s:=11) hH rfl (ev rfl) (ev rfl) (by exact eQ) (by exact hH.rows (by exact aB)) rfl rfl rfl rfl rfl rfl rfl ⟨(Nat.le_of_ble_eq_true rfl),(Nat.le_of_ble_eq_true rfl)⟩ (fun _=>(ah rfl _)) (by simp only[List.length_cons,List.length_nil,List.length_map]<;>omega) (by exact .inl hF) (fun x58 st hH=>?_);dsimp only[u2,u1,u3,u4,setMany,u5,u6,D.cells,Nat.reduceAdd,aH,aN,aU,aF,fp] at hH;refine qp (o:=11) ?_;refine qT hH dL (fun st hH=>?_) (h_:=hH.eK eQ);dsimp only[u2,u1,u3,u4,setMany,u5,u6,D.cells,Nat.reduceAdd,aH,aN,aU,aF,fp] at hH;refine qe hK<|qj fun K hK=>qA ?_;refine qm ?_;refine qe hK ?_;refine⟨mm-1,by omega,⟨j+1,acc++[⟨t.pc+1,t.c⟩],W.rdy.drop (j+1),x58,pd,qd,P,Q,sn.set (t.pc+1) true,rfl,(by rw[List.map_append];exact hH.drop 2),by omega,rfl,hex,by simp;omega,bc,by rw[List.length_set];exact ec,?_⟩⟩;intro k hk;rw[rb]
    by_cases hkk:k=t.pc+1
    ·subst hkk;rw[List.getElem?_set_self nu];simp
    ·rw[List.getElem?_set_ne (fun e=>hkk e.symm),u7 k hk];have:(t.pc+1==k)=false:=by rw[beq_eq_false_iff_ne];omega
     simp only[this,Bool.or_false]
 ·refine ab.exit ?_;have uz:rest=[]:=by rw[ku,List.drop_eq_nil_iff];omega
  subst uz;have hex:acc=A:=hex;subst hex;clear hA ku;have K8:=u7 start P3;refine qq<|qq<|ab.j8 (fun fr st=>∃(cT:List iO) (td pd qd:D) (P Q:List Nat) (sn:List Bool) (tmp:List (Nat×D)),fr=⟨25,[bG fr 0,bG fr 1,bG fr 2,bG fr 3,bG fr 4,bG fr 5,.ptr k6 0 0,.ptr k7 0 0,bG fr 8,bG fr 9,bG fr 10,bG fr 11,bG fr 12,bG fr 13,bG fr 14,bG fr 15,bG fr 16,bG fr 17,bG fr 18,bG fr 19,bG fr 20,bG fr 21,bG fr 22,bG fr 23,bG fr 24],tmp⟩∧Has N S st (.box k7 (.mem 0 false (aU W.dn W.a7 td))::.aP td 11 (cT.map aN)::.box k6 (.mem 0 false (aU false mq .nul))::.aP rd 11 (W.rdy.map aN)::.box kv (.mem 0 false [p.cd,p.sd,.int .i64 (pl:Nat),ld,.ptr ks 0 0])::.box ks (.mem 0 false [pd,qd])::.aP pd 1 (P.map fT)::.aP qd 2 (Q.map mM)::.aP ld 12 (L.map fp)::(L.map nA++H))∧(cT=(if W.dn=true then acc else kD acc ⟨start,b4⟩))∧(cV P Q sn)∧(sn.length=p.code.length)) ?_ ?_
  ·cases TB:W.dn with
   |true=>
    rw[TB] at hH;have bP:(!true)=false:=rfl;refine qj fun K hK=>qp (o:=0) ?_;refine ql hH aB ?_;refine qg ?_;refine qm ?_;refine qs ?_ (hg:=wn bP);refine qs ?_ (hg:=wn bP);refine qs ?_ (hg:=wn bP);refine qs ?_ (hg:=wn bP);refine qs ?_ (hg:=wn bP);refine qs ?_ (hg:=wn bP);refine qs ?_ (hg:=wn bP);refine qs ?_ (hg:=wn bP);refine qs ?_ (hg:=wn bP);refine qs ?_ (hg:=wn bP);refine qs ?_ (hg:=wn bP);refine qs ?_ (hg:=wn bP);refine qs ?_ (hg:=wn bP);refine qu bP ?_;refine qe hK<|qC ?_;refine ab.skip ?_;exact⟨acc,td,pd,qd,P,Q,sn,_,rfl,hH,rfl,bc,ec⟩
   |false=>
    rw[TB] at hH;have bP:(!false)=true:=rfl;refine qj fun K hK=>qp (o:=0) ?_;refine ql hH aB ?_;refine qg ?_;refine qm ?_;refine qm ?_ (hg:=wi bP);refine qg ?_ (hg:=wi bP);refine qp (o:=4) ?_ (hg:=wi bP);refine ql hH gO ?_ (hg:=wi bP);refine qm ?_ (hg:=wi bP);refine qg ?_ (hg:=wi bP);refine qp (o:=0) ?_ (hg:=wi bP);refine qp (o:=1) ?_ (hg:=wi bP);refine ql hH gO ?_ (hg:=wi bP);refine qm ?_ (hg:=wi bP);refine qr (fun p75 aap=>?_) (hg:=wi bP);refine qR ?_ (hg:=wi bP);obtain⟨_,st,aK,rfl,pd,qd,P,Q,hH,bc⟩:=nF [_,_,_,_,_] hF K8 bc hH;dsimp only[u3,u4] at hH;refine qv aK ?_ (hg:=wi bP);refine qt bP ?_;refine qe hK ?_
    by_cases z7:gU acc start=true
    ·refine qE rfl (by rw[z7];rfl) ?_;refine ab.skip ?_;exact⟨acc,td,pd,qd,P,Q,sn.set start true,_,rfl,hH,by unfold kD;rw[if_neg (by decide),if_pos z7],bc,by rw[List.length_set];exact ec⟩
    ·refine qD rfl (by rw[Bool.eq_false_iff.2 z7];rfl) ?_;refine qj fun K hK=>qp (o:=11) ?_;refine ql hH aB ?_;refine qm ?_;refine qg ?_;refine qp (o:=0) ?_;refine qp (o:=1) ?_;refine ql hH gO ?_;refine qm ?_;refine qr fun p87 aal=>?_;refine qR ?_;refine qv (dE _) ?_;refine aa.go (d:=.agg (aN ⟨start,b4⟩)) (st1:=_) rfl rfl rfl (ah rfl _) ?_;refine qh (s:=11) (vs:=[_]) hH fun k91 st aaK hH=>?_;dsimp only[u2,u1,u3,u4,setMany,u5,u6,D.cells,Nat.reduceAdd,aH,aN,aU,aF,fp] at hH;refine aa.bO (s:=11) hH rfl (ev rfl) (ev rfl) (by exact dL) (by exact hH.rows (by exact aB)) rfl rfl rfl rfl rfl rfl rfl ⟨(Nat.le_of_ble_eq_true rfl),(Nat.le_of_ble_eq_true rfl)⟩ (fun _=>(ah rfl _)) (by simp only[List.length_cons,List.length_nil,List.length_map]<;>omega) (by exact .inl hF) (fun Z9 st hH=>?_);dsimp only[u2,u1,u3,u4,setMany,u5,u6,D.cells,Nat.reduceAdd,aH,aN,aU,aF,fp] at hH;refine qp (o:=11) ?_;refine qT hH bF (fun st hH=>?_) (h_:=hH.eK dL);dsimp only[u2,u1,u3,u4,setMany,u5,u6,D.cells,Nat.reduceAdd,aH,aN,aU,aF,fp] at hH;refine qe hK ?_;exact⟨acc++[⟨start,b4⟩],Z9,pd,qd,P,Q,sn.set start true,_,rfl,(by rw[List.map_append];exact hH.drop 1),by unfold kD;rw[if_neg (by decide),if_neg z7],bc,by rw[List.length_set];exact ec⟩
  ·rintro fr st ⟨cT,td,pd,qd,P,Q,sn,tmp,hfr,hH,PZ,bc,ec⟩;rw[hfr];clear hfr;generalize bG fr=ee;clear fr;refine qq<|qj fun K hK=>?_;refine aa.aT (m:=12) hH rfl (ev rfl) (by exact aB) (by dsimp only[List.drop_succ_cons,List.drop_zero,List.take_succ_cons,List.take_zero,aH,aN,aU,aF,fp]<;>rfl) rfl rfl (ah rfl _) ?_;refine qS hH dL fun st hH=>?_;dsimp only[u2,u1,u3,u4,setMany,u5,u6,D.cells,Nat.reduceAdd,aH,aN,aU,aF,fp] at hH;refine qe hK<|ab.ret ⟨rx,_,_,_,hH.j5 rfl dL rfl,rfl,td,rfl,pd,qd,P,Q,sn,?_,bc,ec⟩;rw[←PZ];exact((hH.drop 1).erase 1).erase 1
def ug (fr:Go.V.Fr) (k:Nat):Go.V.D:=Go.V.nth .bp fr.loc k
theorem AF {f:vd} {x:Nat} {v:Int} (hx:x<10):setMany (aF f) x [.int .i64 v]=aF (Co f x v):=by
 match x,hx with
 |0,_=>rfl
 |1,_=>rfl
 |2,_=>rfl
 |3,_=>rfl
 |4,_=>rfl
 |5,_=>rfl
 |6,_=>rfl
 |7,_=>rfl
 |8,_=>rfl
 |9,_=>rfl
theorem CE {N:Nat} {S s0:St} {H:List bt} {x:D} {l:List iO} {t:iO} (hF:S.flr≤N) (hl:l.length≤1000000) (hH:Has N S s0 (.aP x 11 (l.map aN)::H)):
  ∃d ai,Ev pv 71 [x,.agg (aN t)] s0 d ai∧Has N S ai (.aP d 11 ((kD l t).map aN)::H):=by
 refine Ev.il rfl XU rfl rfl rfl ?_;dsimp only[u3,u4,List.length,Nat.reduceSub,Nat.reduceAdd,w1,w2];change ab _ _ _ _ s0 _;refine qq<|qj fun K hK=>qb hH fun k3 st EU hH=>?_;dsimp only[u2,u1,u3,u4,setMany,u5,u6,D.cells,Nat.reduceAdd,aN] at hH;refine qm ?_;refine qe hK<|qq<|qq<|qj fun K hK=>qm ?_;refine qe hK<|ab.block<|ab.loop (fun mm fr st=>∃(i:Nat),fr.clean=⟨6,[x,ug fr 1,ug fr 2,.ptr k3 0 0,ug fr 4,.int .i64 (i:Nat)],[]⟩∧Has N S st (.box k3 (.mem 0 false (aN t))::.aP x 11 (l.map aN)::H)∧(i+mm=l.length)∧(gU (l.take i) t.pc=false)) (l.length) ?_ ?_
 ·exact⟨0,rfl,hH,by omega,rfl⟩
 rintro mm fr st ⟨i,hfr,hH,hi,l_⟩;rw[hfr];clear hfr;generalize ug fr=ee;clear fr;refine qq<|qq<|qj fun K hK=>qm ?_;refine qm ?_;refine qn ?_ (hR:=hH.rows bF);simp only[List.length_map];refine qg ?_;refine qe hK ?_;refine ab.cond (by rfl) (fun h1=>?_) (fun h1=>?_)<;>try simp only[decide_eq_true_eq,decide_eq_false_iff_not] at h1
 ·refine ab.skip ?_
  obtain⟨q,hq⟩:∃q,l[i]?=some q:=⟨l[i]'(by omega),List.getElem?_eq_getElem _⟩
  have gJ:=lx hq;have Ds:l.take (i+1)=l.take i++[q]:=by rw[List.take_add_one,hq];rfl
  refine qq<|ab.block<|qq<|qj fun K hK=>qm ?_;refine qm ?_;refine qi hH bF fun p14 WB=>?_;refine aa.gC (fo:=0) (m:=0) (o2:=0) rfl (ev rfl) (by assumption) rfl rfl rfl (fun _=>(ah rfl _)) (fun Vx Qj=>?_);refine qo hH bF ?_;refine qp (o:=0) ?_;refine ql hH aB ?_;refine qg ?_;refine qe hK ?_
  by_cases he:q.pc=t.pc
  ·refine qD rfl (by rw[he];simp) ?_;refine qq<|qj fun K hK=>qm ?_;refine qm ?_;refine qe hK<|ab.ret ⟨rx,_,_,_,rfl,rfl,?_⟩
   have:kD l t=l:=by
    unfold kD;rw[if_pos];unfold gU;rw[List.any_eq_true];exact⟨q,List.mem_of_getElem? hq,by simp[he]⟩
   rw[this];exact hH.drop 1
  ·refine qE rfl (by simp;omega) ?_;refine ab.skip<|qj fun K hK=>qm ?_;refine qA ?_;refine qm ?_;refine qe hK ?_;exact⟨mm-1,by omega,⟨i+1,rfl,hH,by omega,by(rw[Ds,rb,l_];simp[he])⟩⟩
 ·refine ab.exit<|qq<|qj fun K hK=>qm ?_;refine aa.aT (m:=11) hH rfl (ev rfl) (by exact aB) (by dsimp only[List.drop_succ_cons,List.drop_zero,List.take_succ_cons,List.take_zero,aN]<;>rfl) rfl rfl (ah rfl _) ?_;refine qh (s:=11) (vs:=[_]) hH fun k23 st Qu hH=>?_;dsimp only[u2,u1,u3,u4,setMany,u5,u6,D.cells,Nat.reduceAdd,aN] at hH;refine aa.bO (s:=11) hH rfl (ev rfl) (ev rfl) (by exact dL) (by exact hH.rows (by exact aB)) rfl rfl rfl rfl rfl rfl rfl ⟨(Nat.le_of_ble_eq_true rfl),(Nat.le_of_ble_eq_true rfl)⟩ (fun _=>(ah rfl _)) (by simp only[List.length_cons,List.length_nil,List.length_map]<;>omega) (by exact .inl hF) (fun YJ st hH=>?_);dsimp only[u2,u1,u3,u4,setMany,u5,u6,D.cells,Nat.reduceAdd,aN] at hH;refine qm ?_;refine qe hK<|ab.ret ⟨rx,_,_,_,rfl,rfl,?_⟩;have hil:i=l.length:=by omega
  rw[hil,List.take_length] at l_;have:kD l t=l++[t]:=by unfold kD;rw[if_neg (by rw[l_];decide)]
  rw[this,List.map_append];exact hH.drop 2
def Z5 (N:Nat) (S st:St) (ka kl:Nat) (p:Pg) (sd:D) (pl:Nat) (e:Bool) (w:Wk) (H:List bt):Prop:=
 ∃od,Has N S st (.box ka (.mem 0 false [p.cd,p.sd,.ptr kl 0 0,sd,.int .i64 (pl:Nat),.bool e,od])::.box kl (.mem 0 false (aU w.dn w.a7 .nul))::.aP sd 1 (w.seen.map bR)::.aP od 11 (w.rdy.map aN)::H)
theorem vA {N ka kl:Nat} {S:St} {p:Pg} {sd:D} {pl:Nat} {e:Bool} (hF:S.flr≤N) (hp:p.ok) (hR:bz p) (iq:pl≤1099511627776):∀(f:Nat) (w:Wk) (t:iO) (s0:St) (H:List bt),t.pc<p.code.length→w.seen.length=p.code.length→w.seen.count false<f→w.rdy.length+w.seen.count false≤1048576→Z5 N S s0 ka kl p sd pl e w H→
  ∃r ai,Ev pv 113 [.ptr ka 0 0,.int .i64 (t.pc:Nat),.agg (aF t.c)] s0 r ai∧r=.bool (bU p.code pl e f w t).2∧Z5 N S ai ka kl p sd pl e (bU p.code pl e f w t).1 H
 |0,_,_,_,_,_,_,h,_,_=>absurd h (Nat.not_lt_zero _)
 |f+1,w,t,s0,H,DE,iT,ek,oZ,hT=>by
  have ih:=vA (ka:=ka) (kl:=kl) (S:=S) (sd:=sd) (e:=e) hF hp hR iq f;obtain⟨od,hH⟩:=hT;have hc:=hp.c.arg N S;have hlen:=hp.cl
  obtain⟨i,hi⟩:∃i,p.code[t.pc]?=some i:=⟨p.code[t.pc]'DE,List.getElem?_eq_getElem _⟩
  obtain⟨b,hb⟩:∃b,w.seen[t.pc]?=some b:=⟨w.seen[t.pc]'(by omega),List.getElem?_eq_getElem _⟩
  have hr:=gD hi;have ku:=rF hb;have yH:=(hp.i i (List.mem_of_getElem? hi)).1;have mb:=jY (hR.sh t.pc i hi);have Lm:=sC hb;have eD:bU p.code pl e (f+1) w t=bU p.code pl e (f+1) w t:=rfl
  conv at eD=>rhs;unfold bU
  rw[Lm] at eD;simp only[hi] at eD;generalize bU p.code pl e (f+1) w t=R at*;obtain⟨op,x,y,YR,rs⟩:=i;obtain⟨pc,c⟩:=t;simp only at*;refine Ev.il rfl Uw rfl rfl rfl ?_;dsimp only[u3,u4,List.length,Nat.reduceSub,Nat.reduceAdd,w1,w2];change ab _ _ _ _ s0 _;refine qq<|qj fun K hK=>qb hH fun k5 st Aa hH=>?_;dsimp only[u2,u1,u3,u4,setMany,u5,u6,D.cells,Nat.reduceAdd,aH,aN,aU,aF,bR] at hH;refine qm ?_;refine qe hK<|qq<|qq<|qj fun K hK=>qm ?_;refine qg ?_;refine qp (o:=3) ?_;refine ql hH bF ?_;refine qm ?_;refine qi hH eQ fun Y7 S4=>?_;refine qo hH eQ ?_;refine qe hK ?_
  cases b with
  |true=>
   rw[if_pos rfl] at eD;subst eD;refine qB ?_;refine qq<|qj fun K hK=>qm ?_;refine qe hK<|ab.ret ⟨rx,_,_,_,rfl,rfl,?_⟩;exact⟨rfl,od,hH.drop 1⟩
  |false=>
   rw[if_neg (by decide)] at eD;have wR:=count_set hb;have n9:(w.seen.set pc true).length=p.code.length:=by rw[List.length_set];exact iT
   have wT:(w.seen.set pc true).count false<f:=by omega
   have wE:w.rdy.length+(w.seen.set pc true).count false≤1048576:=by omega
   have gT:(w.seen.map bR).set pc [.bool true]=(w.seen.set pc true).map bR:=by rw[List.map_set];rfl
   refine qC ?_;refine ab.skip<|qq<|qj fun K hK=>qm ?_;refine qg ?_;refine qp (o:=3) ?_;refine ql hH bF ?_;refine qm ?_;refine qi hH eQ fun US Lf=>?_;refine aa.l4 hH rfl (ev rfl) (ev rfl) (by assumption) rfl rfl (by exact eQ) (by assumption) (Nat.le_of_ble_eq_true rfl) (by exact .inl hF) (fun st hH=>?_);dsimp only[u2,u1,u3,u4,setMany,u5,u6,D.cells,Nat.reduceAdd,aH,aN,aU,aF,bR] at hH;refine qe hK ?_;rw[gT] at hH;generalize w.seen.set pc true=sn at*;clear hb Lm wR iT ek oZ gT ku;refine qq<|qj fun K hK=>qm ?_;refine qg ?_;refine qp (o:=0) ?_;refine qp (o:=0) ?_;refine ql hH bF ?_;refine qm ?_;refine qr fun p27 Wx=>?_;refine aa.db rfl (ev rfl) (by assumption) rfl (by dsimp only[Fr.put,u1,u2]<;>rfl) ?_;refine qa hH fun k7 st U3 hH=>?_;refine qS hH aB fun st hH=>?_;dsimp only[u2,u1,u3,u4,setMany,u5,u6,D.cells,Nat.reduceAdd,aH,aN,aU,aF,bR] at hH;refine qe hK<|qq<|qq<|qj fun K hK=>qp (o:=0) ?_;refine ql hH aB ?_;refine qe hK<|ab.block<|qq<|qj fun K hK=>qg ?_;refine qm ?_;refine qe hK ?_;refine ab.cond (by rfl) (fun h7=>?_) (fun h7=>?_)<;>try simp only[beq_iff_eq,beq_eq_false_iff_ne,ne_eq] at h7
   ·rw[if_pos h7] at eD;subst eD;refine qq<|qj fun K hK=>qm ?_;refine qg ?_;refine qp (o:=2) ?_;refine ql hH dL ?_;refine qg ?_;refine qp (o:=0) ?_;refine qT hH eQ fun st hH=>?_;dsimp only[u2,u1,u3,u4,setMany,u5,u6,D.cells,Nat.reduceAdd,aH,aN,aU,aF,bR] at hH;refine qe hK<|qq<|qj fun K hK=>qm ?_;refine qg ?_;refine qp (o:=2) ?_;refine ql hH dL ?_;refine aa.aT (m:=10) hH rfl (ev rfl) (by exact bF) (by dsimp only[List.drop_succ_cons,List.drop_zero,List.take_succ_cons,List.take_zero,aH,aN,aU,aF,bR]<;>rfl) rfl rfl (ah rfl _) ?_;refine qg ?_;refine qp (o:=1) ?_;refine qT hH eQ fun st hH=>?_;dsimp only[u2,u1,u3,u4,setMany,u5,u6,D.cells,Nat.reduceAdd,aH,aN,aU,aF,bR] at hH;refine qe hK<|qq<|qj fun K hK=>qm ?_;refine qe hK<|ab.ret ⟨rx,_,_,_,rfl,rfl,?_⟩;exact⟨rfl,od,hH.drop 2⟩
   ·rw[if_neg h7] at eD;refine qq<|qj fun K hK=>qg ?_;refine qm ?_;refine qe hK ?_;refine ab.cond (by rfl) (fun h2=>?_) (fun h2=>?_)<;>try simp only[beq_iff_eq,beq_eq_false_iff_ne,ne_eq] at h2
    ·rw[if_pos h2] at eD;obtain⟨_,⟨hx0,hx1⟩,hy0,hy1⟩:=(mb.resolve_left h7).resolve_right (by omega);obtain⟨xn,rfl⟩:=Int.eq_ofNat_of_zero_le hx0;obtain⟨yn,rfl⟩:=Int.eq_ofNat_of_zero_le hy0;have Qx:=cu p.code pl e f ⟨sn,w.dn,w.a7,w.rdy⟩ ⟨xn,c⟩;have wX:=Has.kE [_,_] [_,_,_,_] hH;obtain⟨_,st1,aK,rfl,hT⟩:=ih ⟨sn,w.dn,w.a7,w.rdy⟩ ⟨xn,c⟩ _ _ (by show xn<_;omega) n9 wT wE ⟨od,wX⟩;clear wX;have eD:R=if(bU p.code pl e f ⟨sn,w.dn,w.a7,w.rdy⟩ ⟨xn,c⟩).2=true then bU p.code pl e f ⟨sn,w.dn,w.a7,w.rdy⟩ ⟨xn,c⟩ else bU p.code pl e f (bU p.code pl e f ⟨sn,w.dn,w.a7,w.rdy⟩ ⟨xn,c⟩).1 ⟨yn,c⟩:=eD;generalize bU p.code pl e f ⟨sn,w.dn,w.a7,w.rdy⟩ ⟨xn,c⟩=R1 at*;obtain⟨w1,b1⟩:=R1;obtain⟨cW,bj,bP,fg⟩:=Qx;simp only at cW bj bP fg aK hT eD;obtain⟨Rm,wX⟩:=hT;have wX:=Has.kE [_,_,_,_] [_,_] wX;dsimp only[u3,u4] at wX
     cases b1 with
     |true=>
      rw[if_pos rfl] at eD;subst eD;have bd:true=true:=rfl;refine qq<|qj fun K hK=>qm ?_;refine qp (o:=1) ?_;refine ql hH aB ?_;refine aa.aT (m:=10) hH rfl (ev rfl) (by exact bF) (by dsimp only[List.drop_succ_cons,List.drop_zero,List.take_succ_cons,List.take_zero,aH,aN,aU,aF,bR]<;>rfl) rfl rfl (ah rfl _) ?_;refine qv aK ?_;refine qm ?_;refine qs ?_ (hg:=wn bd);refine qs ?_ (hg:=wn bd);refine qs ?_ (hg:=wn bd);refine qs ?_ (hg:=wn bd);refine qs ?_ (hg:=wn bd);refine qt bd ?_;refine qm ?_;refine qe hK<|ab.ret ⟨rx,_,_,_,rfl,rfl,?_⟩;exact⟨rfl,Rm,wX.drop 2⟩
     |false=>
      rw[if_neg (by decide)] at eD;have bd:false=false:=rfl;refine qq<|qj fun K hK=>qm ?_;refine qp (o:=1) ?_;refine ql hH aB ?_;refine aa.aT (m:=10) hH rfl (ev rfl) (by exact bF) (by dsimp only[List.drop_succ_cons,List.drop_zero,List.take_succ_cons,List.take_zero,aH,aN,aU,aF,bR]<;>rfl) rfl rfl (ah rfl _) ?_;have hH:=wX;refine qv aK ?_;refine qm ?_;refine qm ?_ (hg:=wi bd);refine qp (o:=2) ?_ (hg:=wi bd);refine ql hH aB ?_ (hg:=wi bd);refine aa.aT (m:=10) hH (aD rfl rfl rfl bd) (ev rfl) (by exact bF) (by dsimp only[List.drop_succ_cons,List.drop_zero,List.take_succ_cons,List.take_zero,aH,aN,aU,aF,bR]<;>rfl) rfl rfl (ah rfl _) ?_;obtain⟨_,st,aK,rfl,hT⟩:=ih w1 ⟨yn,c⟩ _ _ (by show yn<_;omega) (by omega) (by omega) (by omega) ⟨Rm,hH.drop 2⟩;refine qv aK ?_ (hg:=wi bd);refine qu bd ?_;refine qm ?_;refine qe hK<|ab.ret ⟨rx,_,_,_,rfl,rfl,?_⟩;rw[eD];exact⟨rfl,hT⟩
    ·rw[if_neg h2] at eD;refine qq<|qj fun K hK=>qg ?_;refine qm ?_;refine qe hK ?_;refine ab.cond (by rfl) (fun h3=>?_) (fun h3=>?_)<;>try simp only[beq_iff_eq,beq_eq_false_iff_ne,ne_eq] at h3
     ·rw[if_neg (by omega),if_pos h3] at eD;obtain⟨_,hx0,hx1⟩:=((mb.resolve_left h7).resolve_left (by omega)).resolve_right (by omega);obtain⟨xn,rfl⟩:=Int.eq_ofNat_of_zero_le hx0;refine qq<|qj fun K hK=>qm ?_;refine qp (o:=1) ?_;refine ql hH aB ?_;refine aa.aT (m:=10) hH rfl (ev rfl) (by exact bF) (by dsimp only[List.drop_succ_cons,List.drop_zero,List.take_succ_cons,List.take_zero,aH,aN,aU,aF,bR]<;>rfl) rfl rfl (ah rfl _) ?_;obtain⟨_,st,aK,rfl,hT⟩:=ih ⟨sn,w.dn,w.a7,w.rdy⟩ ⟨xn,c⟩ _ _ (by show xn<_;omega) n9 wT wE ⟨od,hH.drop 2⟩;refine qv aK ?_;refine qm ?_;refine qe hK<|ab.ret ⟨rx,_,_,_,rfl,rfl,?_⟩;rw[eD];exact⟨rfl,hT⟩
     ·refine qq<|qj fun K hK=>qg ?_;refine qm ?_;refine qe hK ?_;refine ab.cond (by rfl) (fun h4=>?_) (fun h4=>?_)<;>try simp only[beq_iff_eq,beq_eq_false_iff_ne,ne_eq] at h4
      ·rw[if_neg (by omega),if_neg h3,if_pos h4] at eD;obtain⟨_,qX,hx0,hx1⟩:=(((mb.resolve_left h7).resolve_left (by omega)).resolve_left (by omega)).resolve_right (by omega);obtain⟨xn,rfl⟩:=Int.eq_ofNat_of_zero_le hx0;refine qq<|qj fun K hK=>qp (o:=1) ?_;refine ql hH aB ?_;refine qm ?_;refine qg ?_;refine qp (o:=4) ?_;refine ql hH dL ?_;refine aa.Lq (m:=10) (s:=1) (i:=xn) (o:=xn) rfl (ev rfl) (ev rfl) rfl rfl (by omega) (by omega) (ah rfl _) ?_;refine aa.k_ hH rfl (ev rfl) (ev rfl) rfl (by exact rfl) bF (by show xn+1≤10;omega) (.inl hF) (fun st hH=>?_);change Has _ _ _ (_::.box k5 (.mem 0 false (setMany (aF c) xn [.int .i64 (pl:Nat)]))::_) at hH;rw[AF (by omega)] at hH;refine qe hK ?_;dsimp only[aF] at hH;refine qq<|qj fun K hK=>qm ?_;refine qm ?_;refine qA ?_;refine aa.aT (m:=10) hH rfl (ev rfl) (by exact bF) (by dsimp only[List.drop_succ_cons,List.drop_zero,List.take_succ_cons,List.take_zero,aH,aN,aU,aF,bR]<;>rfl) rfl rfl (ah rfl _) ?_;obtain⟨_,st,aK,rfl,hT⟩:=ih ⟨sn,w.dn,w.a7,w.rdy⟩ ⟨pc+1,Co c xn (pl:Nat)⟩ _ _ qX n9 wT wE ⟨od,hH.drop 2⟩;refine qv aK ?_;refine qm ?_;refine qe hK<|ab.ret ⟨rx,_,_,_,rfl,rfl,?_⟩;rw[eD];exact⟨rfl,hT⟩
      ·refine qq<|qj fun K hK=>qg ?_;refine qm ?_;refine qe hK ?_;refine ab.cond (by rfl) (fun h5=>?_) (fun h5=>?_)<;>try simp only[beq_iff_eq,beq_eq_false_iff_ne,ne_eq] at h5
       ·rw[if_neg (by omega),if_neg h3,if_neg h4,if_pos h5] at eD;have qX:pc+1<p.code.length:=by omega
        by_cases ha:pl=0
        ·rw[if_pos ha] at eD;subst ha;have bd:(((0:Nat):Int)==0)=true:=rfl;refine qq<|qj fun K hK=>qm ?_;refine qg ?_;refine qp (o:=4) ?_;refine ql hH dL ?_;refine qg ?_;refine qm ?_;refine qm ?_ (hg:=wi bd);refine qm ?_ (hg:=wi bd);refine qA ?_ (hg:=wi bd);refine aa.aT (m:=10) hH (aD rfl rfl rfl bd) (ev rfl) (by exact bF) (by dsimp only[List.drop_succ_cons,List.drop_zero,List.take_succ_cons,List.take_zero,aH,aN,aU,aF,bR]<;>rfl) rfl rfl (ah rfl _) ?_;obtain⟨_,st,aK,rfl,hT⟩:=ih ⟨sn,w.dn,w.a7,w.rdy⟩ ⟨pc+1,c⟩ _ _ qX n9 wT wE ⟨od,hH.drop 2⟩;refine qv aK ?_ (hg:=wi bd);refine qt bd ?_;refine qm ?_;refine qe hK<|ab.ret ⟨rx,_,_,_,rfl,rfl,?_⟩;rw[eD];exact⟨rfl,hT⟩
        ·rw[if_neg ha] at eD;subst eD;have bd:(((pl:Nat):Int)==0)=false:=by rw[beq_eq_false_iff_ne];omega
         refine qq<|qj fun K hK=>qm ?_;refine qg ?_;refine qp (o:=4) ?_;refine ql hH dL ?_;refine qg ?_;refine qm ?_;refine qs ?_ (hg:=wn bd);refine qs ?_ (hg:=wn bd);refine qs ?_ (hg:=wn bd);refine qs ?_ (hg:=wn bd);refine qs ?_ (hg:=wn bd);refine qu bd ?_;refine qm ?_;refine qe hK<|ab.ret ⟨rx,_,_,_,rfl,rfl,?_⟩;exact⟨rfl,od,hH.drop 2⟩
       ·refine qq<|qj fun K hK=>qg ?_;refine qm ?_;refine qe hK ?_;refine ab.cond (by rfl) (fun h6=>?_) (fun h6=>?_)<;>try simp only[beq_iff_eq,beq_eq_false_iff_ne,ne_eq] at h6
        ·rw[if_neg (by omega),if_neg h3,if_neg h4,if_neg h5] at eD;have qX:pc+1<p.code.length:=by omega
         cases e with
         |true=>
          rw[if_pos rfl] at eD;have fg:true=true:=rfl;refine qq<|qj fun K hK=>qm ?_;refine qg ?_;refine qp (o:=5) ?_;refine ql hH dL ?_;refine qm ?_;refine qm ?_ (hg:=wi fg);refine qm ?_ (hg:=wi fg);refine qA ?_ (hg:=wi fg);refine aa.aT (m:=10) hH (aD rfl rfl rfl fg) (ev rfl) (by exact bF) (by dsimp only[List.drop_succ_cons,List.drop_zero,List.take_succ_cons,List.take_zero,aH,aN,aU,aF,bR]<;>rfl) rfl rfl (ah rfl _) ?_;obtain⟨_,st,aK,rfl,hT⟩:=ih ⟨sn,w.dn,w.a7,w.rdy⟩ ⟨pc+1,c⟩ _ _ qX n9 wT wE ⟨od,hH.drop 2⟩;refine qv aK ?_ (hg:=wi fg);refine qt fg ?_;refine qm ?_;refine qe hK<|ab.ret ⟨rx,_,_,_,rfl,rfl,?_⟩;rw[eD];exact⟨rfl,hT⟩
         |false=>
          rw[if_neg (by decide)] at eD;subst eD;have fg:false=false:=rfl;refine qq<|qj fun K hK=>qm ?_;refine qg ?_;refine qp (o:=5) ?_;refine ql hH dL ?_;refine qm ?_;refine qs ?_ (hg:=wn fg);refine qs ?_ (hg:=wn fg);refine qs ?_ (hg:=wn fg);refine qs ?_ (hg:=wn fg);refine qs ?_ (hg:=wn fg);refine qu fg ?_;refine qm ?_;refine qe hK<|ab.ret ⟨rx,_,_,_,rfl,rfl,?_⟩;exact⟨rfl,od,hH.drop 2⟩
        ·have h1:op=1:=by omega
         rw[if_pos h1] at eD;subst eD;refine qq<|qj fun K hK=>qg ?_;refine qm ?_;refine qe hK<|qD rfl (by simp[h1]) ?_;refine qj fun K hK=>qm ?_;refine qm ?_;refine qg ?_;refine qp (o:=6) ?_;refine ql hH dL ?_;refine qm ?_;refine aa.aT (m:=10) hH rfl (ev rfl) (by exact bF) (by dsimp only[List.drop_succ_cons,List.drop_zero,List.take_succ_cons,List.take_zero,aH,aN,aU,aF,bR]<;>rfl) rfl rfl (ah rfl _) ?_;refine aa.go (d:=.agg (aN ⟨pc,c⟩)) (st1:=_) rfl rfl rfl (ah rfl _) ?_;refine qh (s:=11) (vs:=[_]) hH fun k118 st Zv hH=>?_;dsimp only[u2,u1,u3,u4,setMany,u5,u6,D.cells,Nat.reduceAdd,aH,aN,aU,aF,bR] at hH;refine aa.bO (s:=11) hH rfl (ev rfl) (ev rfl) (by exact RE) (by exact hH.rows (by exact aB)) rfl rfl rfl rfl rfl rfl rfl ⟨(Nat.le_of_ble_eq_true rfl),(Nat.le_of_ble_eq_true rfl)⟩ (fun _=>(ah rfl _)) (by simp only[List.length_cons,List.length_nil,List.length_map]<;>omega) (by exact .inl hF) (fun Vf st hH=>?_);dsimp only[u2,u1,u3,u4,setMany,u5,u6,D.cells,Nat.reduceAdd,aH,aN,aU,aF,bR] at hH;refine qg ?_;refine qp (o:=6) ?_;refine qT hH eQ (fun st hH=>?_) (h_:=hH.eK RE);dsimp only[u2,u1,u3,u4,setMany,u5,u6,D.cells,Nat.reduceAdd,aH,aN,aU,aF,bR] at hH;refine qe hK<|qq<|qj fun K hK=>qm ?_;refine qe hK<|ab.ret ⟨rx,_,_,_,rfl,rfl,?_⟩;refine⟨rfl,Vf,?_⟩;rw[List.map_append];exact hH.drop 3
def dR (fr:Go.V.Fr) (k:Nat):Go.V.D:=Go.V.nth .bp fr.loc k
def VL.pl (l:VL):PL:=⟨l.dn,l.a7,l.cT⟩
def au (p:Pg):List Nat:=p.aw.map Int.toNat
def da (code:List aO) (pl:Nat) (r:Int):List Nat→List PL→List PL
 |s::ss,l::ls=>fP code pl s r l::da code pl r ss ls
 |_,_=>[]
def di (n:Int):Nat:=(min (max n 0) 4).toNat
theorem iu (n:Int):di n≤4:=by unfold di;omega
theorem fq (code:List aO) (pl:Nat) (r:Int):∀(ss:List Nat) (ls:List PL),ss.length=ls.length→(da code pl r ss ls).length=ls.length
 |[],[],_=>rfl
 |s::ss,l::ls,h=>by simp only[da,List.length_cons];rw[fq code pl r ss ls (by simpa using h)]
theorem lZ (code:List aO) (pl:Nat) (r:Int):∀(ss:List Nat) (ls:List PL) (i:Nat) (s:Nat) (l:PL),ss[i]?=some s→ls[i]?=some l→(da code pl r ss ls)[i]?=some (fP code pl s r l)
 |[],_,_,_,_,h,_=>by simp at h
 |_::_,[],_,_,_,_,h=>by simp at h
 |s::ss,l::ls,0,_,_,h1,h2=>by simp only[List.getElem?_cons_zero,Option.some.injEq] at h1 h2;subst h1;subst h2;rfl
 |s::ss,l::ls,i+1,_,_,h1,h2=>by simp only[List.getElem?_cons_succ] at h1 h2;simp only[da,List.getElem?_cons_succ];exact lZ code pl r ss ls i _ _ h1 h2
theorem MH.mono {A:List bt} {N:Nat} {S st:St} {ks kv:Nat} {p:Pg} {pl:Nat} {ld:D} {L:List VL} {H:List bt} (n:Nat) (h:MH A N S st ks kv p pl ld L H):MH (A.drop n) N S st ks kv p pl ld L H:=by
 obtain⟨pd,qd,P,Q,sn,hH,bc,ec⟩:=h;refine⟨pd,qd,P,Q,sn,?_,bc,ec⟩
 rcases Nat.le_total n A.length with hn|hn
 ·have:=hH.drop n
  rwa [List.drop_append_of_le_length hn] at this
 ·have:=hH.drop A.length;rw[List.drop_append_of_le_length (Nat.le_refl _),List.drop_length] at this;rw[List.drop_eq_nil_of_le hn];exact this
theorem E0 (L:List VL) (i:Nat) (l:VL):(L.set i l).map nA=(L.map nA).set i (nA l):=List.map_set ..
theorem MH.Fc {N:Nat} {S st:St} {ks kv:Nat} {p:Pg} {pl:Nat} {ld:D} {L:List VL} {H:List bt} {i:Nat} {l:VL} {pd qd:D} {P Q:List Nat} (hi:i<L.length)
  (h:Has N S st (.aP l.td 11 (l.cT.map aN)::.box kv (.mem 0 false [p.cd,p.sd,.int .i64 (pl:Nat),ld,.ptr ks 0 0])::.box ks (.mem 0 false [pd,qd])::.aP pd 1 (P.map fT)::.aP qd 2 (Q.map mM)::.aP ld 12 ((L.map fp).set i (fp l))::(L.map nA++H))):
  Has N S st (.box kv (.mem 0 false [p.cd,p.sd,.int .i64 (pl:Nat),ld,.ptr ks 0 0])::.box ks (.mem 0 false [pd,qd])::.aP pd 1 (P.map fT)::.aP qd 2 (Q.map mM)::.aP ld 12 ((L.set i l).map fp)::((L.set i l).map nA++H)):=by
 have h1:=h.dH (j:=5+i) (by simp;omega);rw[List.map_set,E0]
 have h2:∀(a b c d e:bt),(a::b::c::d::e::(L.map nA++H)).set (5+i) (.aP l.td 11 (l.cT.map aN))=a::b::c::d::e::((L.map nA).set i (nA l)++H):=by
  intro a b c d e;rw[Nat.add_comm 5 i];simp only[List.set_cons_succ];rw[List.set_append_left _ _ (by simpa using hi)];rfl
 rw[h2] at h1;exact h1
theorem LO (dE:∀st,Ev pv 59 [] st (.agg (aF b4)) st) {N ks kv:Nat} {S s0:St} {H:List bt} {p:Pg} {pl:Nat} {ld:D} {L:List VL} {r n:Int} (hF:S.flr≤N) (hp:p.ok) (hR:bz p) (iq:pl≤1000000000000) (sa:L.length=p.aw.length) (bc:∀l∈L,l.pl.ok p.code.length) (hM:MH [] N S s0 ks kv p pl ld L H):
  ∃d ai,Ev pv 18 [.ptr kv 0 0,.int .i32 r,.int .i64 n] s0 d ai∧d=.tup []∧∃L',L'.map VL.pl=da p.code pl r (au p) (L.map VL.pl)∧MH [] N S ai ks kv p (pl+di n) ld L' H:=by
 have L6:=hR.sl;refine Ev.il rfl Ym rfl rfl rfl ?_;dsimp only[u3,u4,List.length,Nat.reduceSub,Nat.reduceAdd,w1,w2];change ab _ _ _ _ s0 _;obtain⟨pd,qd,P,Q,sn,hH,fN,ec⟩:=hM;dsimp only[u4] at hH;refine qq<|qq<|qj fun K hK=>qm ?_;refine qg ?_;refine qp (o:=3) ?_;refine ql hH aB ?_;refine qn ?_ (hR:=hH.rows gO);simp only[List.length_map];refine qm ?_;refine qe hK<|ab.block<|ab.loop (fun mm fr st=>∃(i:Nat) (L2:List VL) (pd qd:D) (P Q:List Nat) (sn:List Bool),fr.clean=⟨13,[.ptr kv 0 0,.int .i32 r,.int .i64 n,dR fr 3,dR fr 4,dR fr 5,dR fr 6,dR fr 7,dR fr 8,dR fr 9,dR fr 10,.int .i64 (L.length:Nat),.int .i64 (i:Nat)],[]⟩∧Has N S st (.box kv (.mem 0 false [p.cd,p.sd,.int .i64 (pl:Nat),ld,.ptr ks 0 0])::.box ks (.mem 0 false [pd,qd])::.aP pd 1 (P.map fT)::.aP qd 2 (Q.map mM)::.aP ld 12 (L2.map fp)::(L2.map nA++H))∧(i+mm=L.length)∧(L2.length=L.length)∧(∀j l s,j<i→L[j]?=some l→p.aw[j]?=some s→(L2.map VL.pl)[j]?=some (fP p.code pl s.toNat r l.pl))∧(∀j,i≤j→L2[j]?=L[j]?)∧(cV P Q sn)∧(sn.length=p.code.length)) (L.length) ?_ ?_
 ·exact⟨0,L,_,_,_,_,_,rfl,hH,by omega,rfl,(by intro j l s h;omega),(fun j _=>rfl),fN,ec⟩
 rintro mm fr st ⟨i,L2,pd,qd,P,Q,sn,hfr,hH,hi,o4,ZF,Zi,fN,ec⟩;rw[hfr];clear hfr;generalize dR fr=ee;clear fr;refine qq<|qj fun K hK=>qg ?_;refine qe hK<|qq ?_;refine ab.cond (by rfl) (fun hlt=>?_) (fun hlt=>?_)<;>try simp only[decide_eq_true_eq,decide_eq_false_iff_not] at hlt
 ·refine ab.skip ?_;have hil:i<L.length:=by omega
  obtain⟨l,hl⟩:∃l,L[i]?=some l:=⟨L[i]'hil,List.getElem?_eq_getElem _⟩
  have kG:L2[i]?=some l:=by rw[Zi i (Nat.le_refl _)];exact hl
  obtain⟨s,hs⟩:∃s,p.aw[i]?=some s:=⟨p.aw[i]'(by omega),List.getElem?_eq_getElem _⟩
  obtain⟨uq,K'⟩:=hR.st s (List.mem_of_getElem? hs);obtain⟨Ri,rfl⟩:=Int.eq_ofNat_of_zero_le uq;have gJ:=tC kG;refine qq<|ab.block<|qq<|qj fun K hK=>qm ?_;refine qm ?_;refine qe hK ?_;have cF:=hH;have Bm:=j9 hH gO;have Lb:=hH.oG bF (k:=ks) rfl;have Qb:=hp.c.ref;have Dz:=hp.s.ref;have DA:refs [p.cd,p.sd,.int .i64 (pl:Nat),ld,.ptr ks 0 0]≤st.bs.length:=by simp only[refs,D.ref,Qb,Dz];omega
  change ab _ _ _ _ _ _;generalize hK:aI _ _ _ _=K;refine ab.oU rfl ?_;refine bL.cons ?_;refine qm ?_;refine aa.nil ⟨rfl,?_⟩;refine bL.cons ?_;refine qg ?_;refine aa.nil ⟨rfl,?_⟩;refine bL.cons ?_;refine qp (o:=3) ?_;refine aa.nil ⟨rfl,?_⟩;refine bL.cons ?_;refine ql hH aB ?_;refine aa.nil ⟨rfl,?_⟩;refine bL.cons ?_;refine qm ?_;refine aa.nil ⟨rfl,?_⟩;refine bL.cons ?_;refine qm ?_;refine aa.nil ⟨rfl,?_⟩;refine bL.cons ?_;refine qm ?_;refine aa.nil ⟨rfl,?_⟩;refine bL.cons ?_;refine qm ?_;refine aa.nil ⟨rfl,?_⟩;refine bL.cons ?_;obtain⟨_,st,aK,td,rfl,hM⟩:=Cg dE hF hp hR (by omega) kG hs (bc l (List.mem_of_getElem? hl)) ⟨pd,qd,P,Q,sn,hH,fN,ec⟩;obtain⟨pd,qd,P,Q,sn,hH,fN,ec⟩:=hM;dsimp only[u3,u4] at hH;refine qv aK ?_;refine aa.nil ⟨by exact Bool.and_eq_true_iff.2 ⟨fJ rfl rfl rfl (cF.at aB) (hH.at bF) (cF.at aB) DA,rfl⟩,?_⟩;refine bL.cons ?_;refine qi hH rH fun Rl Bn=>?_;refine aa.nil ⟨rfl,?_⟩;refine bL.cons ?_;refine aa.l4 hH rfl (ev rfl) (ev rfl) (by assumption) rfl rfl (by exact rH) (by assumption) (Nat.le_of_ble_eq_true rfl) (by exact .inl hF) (fun st hH=>?_);dsimp only[u2,u1,u3,u4,setMany,u5,u6,D.cells,Nat.reduceAdd,aH,aN,aU,aF,fp] at hH;refine aa.nil ⟨rfl,?_⟩;refine bL.nil ?_;subst hK;have hH:=MH.Fc (l:=⟨(fP p.code pl Ri r l.pl).dn,(fP p.code pl Ri r l.pl).a7,td,(fP p.code pl Ri r l.pl).cT⟩) (by omega) hH;refine qj fun K hK=>qA ?_;refine qm ?_;refine qe hK ?_;refine⟨mm-1,by omega,⟨i+1,L2.set i ⟨(fP p.code pl Ri r l.pl).dn,(fP p.code pl Ri r l.pl).a7,td,(fP p.code pl Ri r l.pl).cT⟩,pd,qd,P,Q,sn,rfl,hH,by omega,by rw[List.length_set];exact o4,?_,(fun j hj=>by rw[List.getElem?_set_ne (by omega)];exact Zi j (by omega)),fN,ec⟩⟩;intro j l' s' hj ir ur;rw[List.map_set]
  by_cases hji:j=i
  ·subst hji;rw[hl] at ir;rw[hs] at ur;cases ir;cases ur;rw[List.getElem?_set_self (by rw[List.length_map];omega)];rfl
  ·rw[List.getElem?_set_ne (fun e=>hji e.symm)];exact ZF j l' s' (by omega) ir ur
 ·refine ab.exit ?_;have hil:i=L.length:=by omega
  have U5:=iu n;have Xe:((pl:Nat):Int)+min (max n 0) 4=((pl+di n:Nat):Int):=by unfold di;omega
  refine qj fun K hK=>qm ?_;refine qg ?_;refine qp (o:=2) ?_;refine ql hH aB ?_;refine qm ?_;refine aa.KR (t1:=0) (t2:=0) rfl (ev rfl) (ev rfl) (ah rfl _) ?_;refine aa.KQ (t1:=0) (t2:=0) rfl (ev rfl) (ev rfl) (ah rfl _) ?_;refine aa.lq (z:=((pl+di n:Nat):Int)) rfl (ev rfl) (ev rfl) (by rw[Xe];exact du (by simp only[kA];omega)) (ah rfl _) ?_;refine qg ?_;refine qp (o:=2) ?_;refine qT hH aB fun st hH=>?_;dsimp only[u2,u1,u3,u4,setMany,u5,u6,D.cells,Nat.reduceAdd,aH,aN,aU,aF,fp] at hH;refine qe hK ?_;refine⟨fun i h=>(by cases h),_,_,_,rfl,rfl,?_⟩;refine⟨rfl,L2,?_,pd,qd,P,Q,sn,hH,fN,ec⟩;refine List.ext_getElem? fun j=>?_
  by_cases hj:j<L.length
  ·obtain⟨l,hl⟩:∃l,L[j]?=some l:=⟨L[j]'hj,List.getElem?_eq_getElem _⟩
   obtain⟨s,hs⟩:∃s,p.aw[j]?=some s:=⟨p.aw[j]'(by omega),List.getElem?_eq_getElem _⟩
   rw[ZF j l s (by omega) hl hs,lZ (s:=s.toNat) (l:=l.pl)]
   ·unfold au;rw[List.getElem?_map,hs];rfl
   ·rw[List.getElem?_map,hl];rfl
  ·rw[List.getElem?_eq_none (by simp;omega),List.getElem?_eq_none];rw[fq]
   ·simp;omega
   ·unfold au;simp;omega
def iU (code:List aO) (pl:Nat) (l:PL):PL:=⟨(kH code pl true l.cT (jv code.length l.dn l.a7)).dn,(kH code pl true l.cT (jv code.length l.dn l.a7)).a7,[]⟩
def jP (l:PL):List D:=aU l.dn l.a7 .nul
theorem LP {N ks kv:Nat} {S s0:St} {H:List bt} {p:Pg} {pl:Nat} {ld:D} {L:List VL} (hF:S.flr≤N) (hp:p.ok) (hR:bz p) (iq:pl≤1099511627776) (sa:L.length=p.aw.length) (bc:∀l∈L,l.pl.ok p.code.length) (hM:MH [] N S s0 ks kv p pl ld L H):
  ∃d ai,Ev pv 21 [.ptr kv 0 0] s0 d ai∧MH [.aP d 12 ((L.map fun l=>iU p.code pl l.pl).map jP)] N S ai ks kv p pl ld L H:=by
 have L6:=hR.sl;refine Ev.il rfl Yj rfl rfl rfl ?_;dsimp only[u3,u4,List.length,Nat.reduceSub,Nat.reduceAdd,w1,w2];change ab _ _ _ _ s0 _;obtain⟨pd,qd,P,Q,sn,hH,fN,ec⟩:=hM;dsimp only[u4] at hH;refine qq<|qj fun K hK=>qm ?_;refine qe hK<|qq<|qj fun K hK=>qm ?_;refine qe hK<|qq<|qq<|qj fun K hK=>qm ?_;refine qg ?_;refine qp (o:=3) ?_;refine ql hH aB ?_;refine qn ?_ (hR:=hH.rows gO);simp only[List.length_map];refine qm ?_;refine qe hK<|ab.block<|ab.loop (fun mm fr st=>∃(i:Nat) (od pd qd:D) (P Q:List Nat) (sn:List Bool),fr.clean=⟨13,[.ptr kv 0 0,dR fr 1,dR fr 2,od,dR fr 4,dR fr 5,dR fr 6,dR fr 7,dR fr 8,dR fr 9,dR fr 10,.int .i64 (L.length:Nat),.int .i64 (i:Nat)],[]⟩∧Has N S st (.aP od 12 (((L.map fun l=>iU p.code pl l.pl).take i).map jP)::.box kv (.mem 0 false [p.cd,p.sd,.int .i64 (pl:Nat),ld,.ptr ks 0 0])::.box ks (.mem 0 false [pd,qd])::.aP pd 1 (P.map fT)::.aP qd 2 (Q.map mM)::.aP ld 12 (L.map fp)::(L.map nA++H))∧(i+mm=L.length)∧(cV P Q sn)∧(sn.length=p.code.length)) (L.length) ?_ ?_
 ·exact⟨0,.nul,_,_,_,_,_,rfl,(hH.d_ 12),by omega,fN,ec⟩
 rintro mm fr st ⟨i,od,pd,qd,P,Q,sn,hfr,hH,hi,fN,ec⟩;rw[hfr];clear hfr;generalize dR fr=ee;clear fr;refine qq<|qj fun K hK=>qg ?_;refine qe hK<|qq ?_;refine ab.cond (by rfl) (fun hlt=>?_) (fun hlt=>?_)<;>try simp only[decide_eq_true_eq,decide_eq_false_iff_not] at hlt
 ·refine ab.skip ?_;have hil:i<L.length:=by omega
  obtain⟨l,hl⟩:∃l,L[i]?=some l:=⟨L[i]'hil,List.getElem?_eq_getElem _⟩
  obtain⟨wI,s8⟩:=bc l (List.mem_of_getElem? hl);simp only[VL.pl] at wI s8;have hge:(L.map fun l=>iU p.code pl l.pl)[i]?=some (iU p.code pl l.pl):=by rw[List.getElem?_map,hl];rfl
  have oZ:(((L.map fun l=>iU p.code pl l.pl).take i).map jP).length=i:=by simp;omega
  refine qq<|ab.block<|qq<|qj fun K hK=>qm ?_;refine qm ?_;refine qe hK ?_;obtain⟨_,st1,aK,rd,rfl,hM⟩:=tf (e:=true) hF hp hR iq hl wI (by omega) (MH.push [_] [] ⟨pd,qd,P,Q,sn,hH,fN,ec⟩);clear fN ec;have hM:=MH.pull [_] [] (MH.mono 1 hM);obtain⟨pd,qd,P,Q,sn,QS,fN,ec⟩:=hM;dsimp only[u3,u4] at QS;generalize hB:((L.map fun l=>iU p.code pl l.pl).take i).map jP=B at*;refine qq<|qj fun K hK=>qm ?_;refine qm ?_;have hH:=QS;refine qv aK ?_;refine qm ?_;refine qg ?_;refine qg ?_;refine qa hH fun k5 st Aa hH=>?_;refine qS hH aB fun st hH=>?_;dsimp only[u2,u1,u3,u4,setMany,u5,u6,D.cells,Nat.reduceAdd,aH,aN,aU,aF,fp,jP] at hH;refine qm ?_;refine qe hK ?_;clear QS;refine qj fun K hK=>qm ?_;refine aa.aT (m:=12) hH rfl (ev rfl) (by exact aB) (by dsimp only[List.drop_succ_cons,List.drop_zero,List.take_succ_cons,List.take_zero,aH,aN,aU,aF,fp,jP]<;>rfl) rfl rfl (ah rfl _) ?_;refine qh (s:=12) (vs:=[_]) hH fun k23 st Qu hH=>?_;refine aa.bO (s:=12) hH rfl (ev rfl) (ev rfl) (by exact dL) (by exact hH.rows (by exact aB)) rfl rfl rfl rfl rfl rfl rfl ⟨(Nat.le_of_ble_eq_true rfl),(Nat.le_of_ble_eq_true rfl)⟩ (fun _=>(ah rfl _)) (by simp only[List.length_cons,List.length_nil,List.length_map]<;>omega) (by exact .inl hF) (fun YJ st hH=>?_);dsimp only[u2,u1,u3,u4,setMany,u5,u6,D.cells,Nat.reduceAdd,aH,aN,aU,aF,fp,jP] at hH;refine qm ?_;refine qe hK<|qj fun K hK=>qA ?_;refine qm ?_;refine qe hK ?_;exact⟨mm-1,by omega,⟨i+1,YJ,pd,qd,P,Q,sn,rfl,(by rw[List.take_add_one,hge,Option.toList_some,List.map_append,hB];exact hH.drop 2),by omega,fN,ec⟩⟩
 ·refine ab.exit ?_;have hil:i=L.length:=by omega
  refine qq<|qj fun K hK=>qm ?_;refine qm ?_;refine qe hK<|ab.ret ⟨rx,_,_,_,rfl,rfl,?_⟩;rw[List.take_of_length_le (by simp;omega)] at hH;exact⟨pd,qd,P,Q,sn,hH,fN,ec⟩
def eL (fr:Go.V.Fr) (k:Nat):Go.V.D:=Go.V.nth .bp fr.loc k
structure rP (p q:Pg):Prop where
 ok:q.ok
 code:q.code=p.code.map dK
 aw:q.aw=p.aw
theorem CP {s0:St} {p:Pg} (hp:p.ok):∃d,Ev pv 102 [p.d] s0 d s0∧∃q:Pg,d=q.d∧rP p q:=by
 refine Ev.Dc rfl UF rfl rfl rfl ?_;dsimp only[u3,u4,List.length,Nat.reduceSub,Nat.reduceAdd,w1,w2];obtain⟨bT,hF,hH⟩:=ri s0;generalize ag .ro s0=S at*;have hc:=hp.c.arg s0.bs.length S;have hs:=hp.s.arg s0.bs.length S;have hlen:=hp.cl;have SJ:=hp.sl;unfold Pg.d;refine qq<|qj fun K hK=>qb hH fun k1 st o5 hH=>?_;dsimp only[u2,u1,u3,u4,setMany,u5,u6,D.cells,Nat.reduceAdd,Pg.cs,aH,ay] at hH;refine qa hH fun k2 st hk2 hH=>?_;refine qe hK ?_;have hH:=hH.d_ 1;refine qq<|qj fun K hK=>qp (o:=1) ?_;refine ql hH dL ?_;refine qP hH aB (Arg.rows (by assumption) hH) fun x8 st hH=>?_;dsimp only[u2,u1,u3,u4,setMany,u5,u6,D.cells,Nat.reduceAdd,Pg.cs,aH,ay] at hH;refine aa.gd (qs:=[(1,_)]) rfl rfl rfl rfl ⟨rfl,(ev rfl),(by exact hH.eK (by exact aB)),trivial⟩ (by intro q hq;simp only[List.mem_cons,List.not_mem_nil,or_false] at hq;rcases hq with rfl<;>exact⟨rfl,by exact Nat.le_of_ble_eq_true rfl⟩) (by show List.foldl _ [_,_] _=_;dsimp only[List.foldl_cons,List.foldl_nil,u2,u1]<;>rfl) (by dsimp only[Fr.put,u1,u2]<;>rfl) ?_;refine qa hH fun k3 st EU hH=>?_;refine qS hH aB fun st hH=>?_;dsimp only[u2,u1,u3,u4,setMany,u5,u6,D.cells,Nat.reduceAdd,Pg.cs,aH,ay] at hH;refine qe hK ?_;have hH:=hH.C4 4;refine qq<|qq<|qj fun K hK=>qp (o:=0) ?_;refine ql hH gO ?_;refine qn ?_;simp only[List.length_map];refine qm ?_;refine qe hK<|ab.block<|ab.loop (fun mm fr st=>∃(i:Nat) (y:D) (ks:Nat→Prop),fr.clean=⟨14,[eL fr 0,.ptr k1 0 0,.ptr k2 0 0,.ptr k3 0 0,eL fr 4,eL fr 5,eL fr 6,eL fr 7,eL fr 8,eL fr 9,eL fr 10,p.cd,.int .i64 (p.code.length:Nat),.int .i64 (i:Nat)],[]⟩∧Has s0.bs.length S st [.deep ks y 4 ((p.code.take i).map ry),.box k3 (.mem 0 false [y,x8]),.aP x8 1 (p.aw.map ay),.box k2 (.mem 0 false [.nul,.nul]),.box k1 (.mem 0 false [p.cd,p.sd])]∧(i+mm=p.code.length)) (p.code.length) ?_ ?_
 ·exact⟨0,.nul,_,rfl,hH,by omega⟩
 rintro mm fr st ⟨i,y,ks,hfr,hH,hi⟩;rw[hfr];clear hfr;generalize eL fr=ee;clear fr;refine qq<|qj fun K hK=>qg ?_;refine qe hK<|qq ?_;refine ab.cond (by rfl) (fun h1=>?_) (fun h1=>?_)<;>try simp only[decide_eq_true_eq,decide_eq_false_iff_not] at h1
 ·refine ab.skip ?_
  obtain⟨q,hq⟩:∃q,p.code[i]?=some q:=⟨p.code[i]'(by omega),List.getElem?_eq_getElem _⟩
  have hr:=gD hq;have wF:=hp.i q (List.mem_of_getElem? hq);have yH:=wF.1;have Wb:=wF.1.arg s0.bs.length S;have oZ:=wF.2;have nu:((p.code.take i).map ry).length≤1048576:=by rw[List.length_map,List.length_take];omega
  refine qq<|ab.block<|qq<|qj fun K hK=>qr fun Vx Qj=>?_;refine aa.db rfl (ev rfl) (by assumption) rfl (ah rfl _) ?_;refine qa hH fun k5 st Aa hH=>?_;refine qS hH aB fun st hH=>?_;dsimp only[u2,u1,u3,u4,setMany,u5,u6,D.cells,Nat.reduceAdd,Pg.cs,aH,ay] at hH;refine qe hK ?_;have hH:=hH.d_ 2;refine qq<|qj fun K hK=>qp (o:=3) ?_;refine ql hH bF ?_;refine aa.bO (s:=2) hH rfl (ev rfl) (ev rfl) (by exact aB) (by exact Arg.rows (by assumption) hH) rfl rfl rfl rfl rfl rfl rfl ⟨(Nat.le_of_ble_eq_true rfl),(Nat.le_of_ble_eq_true rfl)⟩ (fun _=>(ah rfl _)) (by simp only[List.length_nil,List.length_map]<;>omega) (by exact .inl hF) (fun Rf st hH=>?_);dsimp only[u2,u1,u3,u4,setMany,u5,u6,D.cells,Nat.reduceAdd,Pg.cs,aH,ay] at hH;refine qp (o:=3) ?_;refine qT hH bF (fun st hH=>?_) (h_:=hH.eK aB);dsimp only[u2,u1,u3,u4,setMany,u5,u6,D.cells,Nat.reduceAdd,Pg.cs,aH,ay] at hH;refine qe hK<|qj fun K hK=>qp (o:=0) ?_;refine ql hH eQ ?_;refine aa.aT (m:=4) hH rfl (ev rfl) (by exact bF) (by dsimp only[List.drop_succ_cons,List.drop_zero,List.take_succ_cons,List.take_zero,Pg.cs,aH,ay]<;>rfl) rfl rfl (ah rfl _) ?_;refine qh (s:=4) (vs:=[_]) hH fun k24 st WR hH=>?_;obtain⟨hH,Ln⟩:=hH.rO (i:=1) (j:=3) (by decide) bF eQ (eH _);dsimp only[u1,u2] at hH;refine aa.kj hH rfl rfl rfl eQ (hH.rows aB) (.cons (.cons (.plain _ rfl) (.cons (.plain _ rfl) (.cons (.plain _ rfl) (.cons Ln .nil)))) .nil) rfl rfl rfl rfl rfl rfl rfl ⟨(Nat.le_of_ble_eq_true rfl),(Nat.le_of_ble_eq_true rfl)⟩ (fun _=>(ah rfl _)) (by show _+1≤_;omega) (.inl hF) (fun Ve st hH=>?_);dsimp only[u1,u2] at hH;refine qp (o:=0) ?_;refine aa.k_ hH rfl (ev rfl) (ev rfl) (by exact hH.og (by exact eQ)) (by exact rfl) (by exact gO) (by exact Nat.le_of_ble_eq_true rfl) (by exact .inl hF) (fun st hH=>?_);dsimp only[u2,u1,u3,u4,setMany,u5,u6,D.cells,Nat.reduceAdd,Pg.cs,aH,ay] at hH;refine qe hK<|qj fun K hK=>qA ?_;refine qm ?_;refine qe hK ?_;exact⟨mm-1,by omega,⟨i+1,Ve,_,rfl,(by rw[List.take_add_one,hq,Option.toList_some,List.map_append];exact hH.drop 3),by omega⟩⟩
 ·refine ab.exit<|qq<|qj fun K hK=>?_;refine aa.aT (m:=2) hH rfl (ev rfl) (by exact bF) (by dsimp only[List.drop_succ_cons,List.drop_zero,List.take_succ_cons,List.take_zero,Pg.cs,aH,ay]<;>rfl) rfl rfl (ah rfl _) ?_;refine qS hH eQ fun st hH=>?_;dsimp only[u2,u1,u3,u4,setMany,u5,u6,D.cells,Nat.reduceAdd,Pg.cs,aH,ay] at hH;refine qe hK ?_;rw[List.take_of_length_le (by omega)] at hH;have h1:=hH.jO aB (n:=14) (by decide);have h2:=hH.uH dL (n4 _) (n:=15) (by decide)
  have h3:aY st s0.bs.length false 16 (.agg [y,x8])=some (.agg [.sl ((p.code.map ry).map (ki 4)),.sl ((p.aw.map ay).map (ki 1))]):=by
   show(eN (aY st s0.bs.length false 15) [y,x8]).map D.agg=_;simp only[eN,h1,h2,Option.map_some]
  refine ab.ret ⟨rx,_,_,hH.j5 rfl eQ rfl,rl bT hH h3,⟨_,p.code.map dK,Dl p.aw,p.aw⟩,rfl,⟨?_,wx _,?_,by simpa using hlen,SJ⟩,rfl,rfl⟩
  ·have h0:(p.code.map dK).map aH=p.code.map ry:=by rw[List.map_map];rfl
   show eE _ 4 ((p.code.map dK).map aH);rw[h0]
   have h4:∀e∈(p.code.map ry),e.length=4:=by
    intro e he;obtain⟨q,_,rfl⟩:=List.mem_map.1 he;rfl
   have:=eE.frozen (s:=4) (es:=p.code.map ry) h4 (by
    intro e he d hd;obtain⟨q,_,rfl⟩:=List.mem_map.1 he;simp only[ry,aH,dK,List.mem_cons,List.not_mem_nil,or_false] at hd
    rcases hd with rfl|rfl|rfl|rfl<;>rfl)
   exact this
  ·intro i hi;obtain⟨q,hq,rfl⟩:=List.mem_map.1 hi;exact Ed (hp.i q hq)
theorem rP.right {p q:Pg} (h:rP p q) (hR:bz p):bz q:=(xV h.code h.aw).2 hR
theorem B9 {N:Nat} {S s0:St} {H:List bt} {p:Pg} (hF:S.flr≤N) (hp:p.ok) (hR:bz p) (hH:Has N S s0 H):
  ∃r ai,Ev pv 52 [p.d] s0 r ai∧∃kv ks q,r=.tup [.ptr kv 0 0,.int .i64 0]∧rP p q∧MH [] N S ai ks kv q 0 .nul [] H:=by
 have hc:=hp.c.arg N S;have hcl:=hR.cl;obtain⟨_,QB,q,rfl,hq⟩:=CP (s0:=s0) hp;have hown:∀st,∃d,Ev pv 102 [p.d] st d st∧∃q:Pg,d=q.d∧rP p q:=fun st=>CP hp;unfold Pg.d at hown;unfold Pg.d;clear QB hq q;refine Ev.il rfl X3 rfl rfl rfl ?_;dsimp only[u3,u4,List.length,Nat.reduceSub,Nat.reduceAdd,w1,w2];change ab _ _ _ _ s0 _;refine qq<|qj fun K hK=>qb hH fun k1 st o5 hH=>?_;dsimp only[u2,u1,u3,u4,setMany,u5,u6,D.cells,Nat.reduceAdd,Pg.cs,aH,ay] at hH;refine qm ?_;refine qm ?_;refine qe hK<|qq<|qq<|qj fun K hK=>?_;refine aa.aT (m:=2) hH rfl (ev rfl) (by exact aB) (by dsimp only[List.drop_succ_cons,List.drop_zero,List.take_succ_cons,List.take_zero,Pg.cs,aH,ay]<;>rfl) rfl rfl (ah rfl _) ?_;refine qv (sm (p:=p) hp) ?_;refine qg ?_;refine qe hK<|qE rfl (by rw[uP hR];rfl) ?_;refine ab.skip<|qq<|qj fun K hK=>qp (o:=0) ?_;refine ql hH aB ?_;refine qn ?_;simp only[List.length_map];obtain⟨_,st,aK,ks,rfl,pd,qd,P,Q,hH,bc⟩:=sB (n:=p.code.length) hF (by omega) hH;refine qv aK ?_;refine qm ?_;refine qg ?_;refine qg ?_;refine qm ?_;refine qm ?_;refine qe hK ?_;obtain⟨_,aK,q,rfl,hq⟩:=hown st;refine qq<|qj fun K hK=>?_;refine aa.aT (m:=2) hH rfl (ev rfl) (by exact eQ) (by dsimp only[List.drop_succ_cons,List.drop_zero,List.take_succ_cons,List.take_zero,Pg.cs,aH,ay]<;>rfl) rfl rfl (ah rfl _) ?_;refine qv aK ?_;refine qm ?_;refine aa.go (d:=.agg [q.cd,q.sd,.int .i64 0,.nul,.ptr ks 0 0]) (st1:=_) rfl rfl rfl (ah rfl _) ?_;refine qb hH fun k20 st WT hH=>?_;refine qm ?_;refine qm ?_;refine qm ?_;refine qe hK<|ab.ret ⟨rx,_,_,_,rfl,rfl,?_⟩;have hl:(List.replicate p.code.length false).length=q.code.length:=by rw[List.length_replicate,hq.code,List.length_map]
 exact⟨k20,ks,q,rfl,hq,pd,qd,P,Q,_,Has.kE [_] [_,_,_,_] ((hH.erase 4).d_ 12),bc,hl⟩
def fI (s:Nat):PL:=⟨false,b4,[⟨s,b4⟩]⟩
theorem Et (dE:∀st,Ev pv 59 [] st (.agg (aF b4)) st) {N ks kv:Nat} {S s0:St} {H:List bt} {p:Pg} (hF:S.flr≤N) (hp:p.ok) (hR:bz p) (hM:MH [] N S s0 ks kv p 0 .nul [] H):
  ∃d ai,Ev pv 53 [.ptr kv 0 0] s0 d ai∧d=.tup []∧∃ld L,L.map VL.pl=(au p).map fI∧MH [] N S ai ks kv p 0 ld L H:=by
 have hs:=hp.s.arg N S;have L6:=hR.sl;obtain⟨pd,qd,P,Q,sn,hH,bc,ec⟩:=hM;dsimp only[u4] at hH;refine Ev.il rfl X2 rfl rfl rfl ?_;dsimp only[u3,u4,List.length,Nat.reduceSub,Nat.reduceAdd,w1,w2];change ab _ _ _ _ s0 _;refine qq<|qj fun K hK=>qm ?_;refine qg ?_;refine qp (o:=0) ?_;refine qp (o:=1) ?_;refine ql hH aB ?_;refine qn ?_;simp only[List.length_map];refine qm ?_;refine qe hK<|ab.block<|ab.loop (fun mm fr st=>∃(i:Nat) (ld:D) (L:List VL),fr.clean=⟨11,[.ptr kv 0 0,eL fr 1,eL fr 2,eL fr 3,eL fr 4,eL fr 5,eL fr 6,eL fr 7,p.sd,.int .i64 (p.aw.length:Nat),.int .i64 (i:Nat)],[]⟩∧Has N S st (.box kv (.mem 0 false [p.cd,p.sd,.int .i64 ((0:Nat):Nat),ld,.ptr ks 0 0])::.box ks (.mem 0 false [pd,qd])::.aP pd 1 (P.map fT)::.aP qd 2 (Q.map mM)::.aP ld 12 (L.map fp)::(L.map nA++H))∧(i+mm=p.aw.length)∧(L.length=i)∧(L.map VL.pl=((au p).take i).map fI)) (p.aw.length) ?_ ?_
 ·exact⟨0,.nul,[],rfl,hH,by omega,rfl,rfl⟩
 rintro mm fr st ⟨i,ld,L,hfr,hH,hi,sa,ZP⟩;rw[hfr];clear hfr;generalize eL fr=ee;clear fr;refine qq<|qj fun K hK=>qg ?_;refine qe hK<|qq ?_;refine ab.cond (by rfl) (fun hlt=>?_) (fun hlt=>?_)<;>try simp only[decide_eq_true_eq,decide_eq_false_iff_not] at hlt
 ·refine ab.skip ?_;have hil:i<p.aw.length:=by omega
  obtain⟨s,Dv⟩:∃s,p.aw[i]?=some s:=⟨p.aw[i]'(by omega),List.getElem?_eq_getElem _⟩
  obtain⟨uq,K'⟩:=hR.st s (List.mem_of_getElem? Dv);obtain⟨s1,rfl⟩:=Int.eq_ofNat_of_zero_le uq;have gJ:=eO Dv;have gf:(au p)[i]?=some s1:=by unfold au;rw[List.getElem?_map,Dv];rfl
  refine qq<|ab.block<|qq<|qj fun K hK=>qr fun Y8 S5=>?_;refine qR ?_;refine qm ?_;refine qe hK<|qj fun K hK=>qm ?_;refine qm ?_;refine qg ?_;refine qp (o:=3) ?_;refine ql hH aB ?_;refine qv (dE _) ?_;refine qm ?_;refine qv (dE _) ?_;refine aa.go (d:=.agg (aN ⟨s1,b4⟩)) (st1:=_) rfl rfl rfl (ah rfl _) ?_;refine qh (s:=11) (vs:=[_]) hH fun k23 st Qu hH=>?_;dsimp only[u2,u1,u3,u4,setMany,u5,u6,D.cells,Nat.reduceAdd,aH,aN,aU,aF,fp,ay] at hH;refine aa.go (d:=.agg (aU false b4 (.win k23 0 0 1 11))) (st1:=_) rfl rfl rfl (ah rfl _) ?_;refine qh (s:=12) (vs:=[_]) hH fun k25 st aa4 hH=>?_;dsimp only[u2,u1,u3,u4,setMany,u5,u6,D.cells,Nat.reduceAdd,aH,aN,aU,aF,fp,ay] at hH;refine aa.bO (s:=12) hH rfl (ev rfl) (ev rfl) (by exact RE) (by exact hH.rows (by exact aB)) rfl rfl rfl rfl rfl rfl rfl ⟨(Nat.le_of_ble_eq_true rfl),(Nat.le_of_ble_eq_true rfl)⟩ (fun _=>(ah rfl _)) (by simp only[List.length_cons,List.length_nil,List.length_map]<;>omega) (by exact .inl hF) (fun x26 st hH=>?_);dsimp only[u2,u1,u3,u4,setMany,u5,u6,D.cells,Nat.reduceAdd,aH,aN,aU,aF,fp,ay] at hH;refine qg ?_;refine qp (o:=3) ?_;refine qT hH dL (fun st hH=>?_) (h_:=hH.eK RE);dsimp only[u2,u1,u3,u4,setMany,u5,u6,D.cells,Nat.reduceAdd,aH,aN,aU,aF,fp,ay] at hH;refine qe hK<|qj fun K hK=>qA ?_;refine qm ?_;refine qe hK ?_;have hH:=hH.drop 1;have hH:=Has.kE [_] (_::_::_::_::_::L.map nA) hH;refine⟨mm-1,by omega,⟨i+1,x26,L++[⟨false,b4,.win k23 0 0 1 11,[⟨s1,b4⟩]⟩],rfl,?_,by omega,by simp;omega,?_⟩⟩
  ·rw[List.map_append,List.map_append,List.append_assoc];exact hH
  ·rw[List.map_append,ZP,List.take_add_one,gf,Option.toList_some,List.map_append];rfl
 ·refine ab.exit ?_;refine⟨fun i h=>(by cases h),_,_,_,rfl,rfl,?_⟩;refine⟨rfl,ld,L,?_,pd,qd,P,Q,sn,hH,bc,ec⟩;rw[ZP,List.take_of_length_le];unfold au;rw[List.length_map];omega
theorem AX {p:Pg} (hR:bz p):∀l∈(au p).map fI,l.ok p.code.length:=by
 intro l hl;obtain⟨s,hs,rfl⟩:=List.mem_map.1 hl;obtain⟨v,hv,rfl⟩:=List.mem_map.1 hs;have:=hR.st v hv;refine⟨fun t ht=>?_,by simp[fI]⟩;simp only[fI,List.mem_cons,List.not_mem_nil,or_false] at ht;subst ht;show v.toNat<_;omega
theorem E2 (dE:∀st,Ev pv 59 [] st (.agg (aF b4)) st) {N:Nat} {S s0:St} {H:List bt} {p:Pg} (hF:S.flr≤N) (hp:p.ok) (hR:bz p) (hH:Has N S s0 H):
  ∃r ai,Ev pv 11 [p.d] s0 r ai∧∃kv ks q ld L,r=.tup [.ptr kv 0 0,.int .i64 0]∧rP p q∧L.map VL.pl=(au p).map fI∧MH [] N S ai ks kv q 0 ld L H:=by
 have Ma:∀st H,Has N S st H→∃r ai,Ev pv 52 [p.d] st r ai∧∃kv ks q,r=.tup [.ptr kv 0 0,.int .i64 0]∧rP p q∧MH [] N S ai ks kv q 0 .nul [] H:=fun st H h=>B9 hF hp hR h;unfold Pg.d at*;refine Ev.il rfl Yp rfl rfl rfl ?_;dsimp only[u3,u4,List.length,Nat.reduceSub,Nat.reduceAdd,w1,w2];change ab _ _ _ _ s0 _;refine qq<|qj fun K hK=>qb hH fun k1 st o5 hH=>?_;dsimp only[u2,u1,u3,u4,setMany,u5,u6,D.cells,Nat.reduceAdd,Pg.cs,aH,ay] at hH;refine qm ?_;refine qm ?_;refine qe hK<|qq<|qj fun K hK=>?_;refine aa.aT (m:=2) hH rfl (ev rfl) (by exact aB) (by dsimp only[List.drop_succ_cons,List.drop_zero,List.take_succ_cons,List.take_zero,Pg.cs,aH,ay]<;>rfl) rfl rfl (ah rfl _) ?_;obtain⟨_,st,aK,kv,ks,q,rfl,hq,hM⟩:=Ma _ _ hH;refine qv aK ?_;refine qm ?_;refine qg ?_;refine qg ?_;refine qm ?_;refine qm ?_;refine qe hK<|qq<|qq<|qj fun K hK=>qm ?_;refine qg ?_;refine qe hK<|ab.cond (v:=false) (by dsimp only[Fr.ev,Fr.get,nth,V.look];rfl) (fun h=>by cases h) (fun _=>?_);refine ab.skip ?_;obtain⟨_,st1,aK,rfl,ld,L,hL,hM⟩:=Et dE hF hq.ok (hq.right hR) hM;refine qq<|qj fun K hK=>qm ?_;refine qv aK ?_;refine qe hK<|qq<|qj fun K hK=>qm ?_;refine qm ?_;refine qm ?_;refine qe hK<|ab.ret ⟨rx,_,_,_,rfl,rfl,?_⟩;have Zj:au q=au p:=by unfold au;rw[hq.aw]
 obtain⟨pd,qd,P,Q,sn,hH,bc,ec⟩:=hM;refine⟨kv,ks,q,ld,L,rfl,hq,by rw[←Zj];exact hL,pd,qd,P,Q,sn,?_,bc,ec⟩;have hH:=Has.kE (_::_::_::_::_::L.map nA) [_] (H:=H) hH;exact hH.drop 1
def nT (fr:Go.V.Fr) (k:Nat):Go.V.D:=Go.V.nth .bp fr.loc k
def Vi (l:List iO):D:=.sl ((l.map aN).map (ki 11))
def gH (l:PL):List D:=aU l.dn l.a7 (Vi l.cT)
def dB (L:List PL):D:=.sl ((L.map gH).map (ki 12))
def iY (pl:Nat) (L:List PL):D:=.agg [.int .i64 (pl:Nat),dB L]
theorem ij (l:List iO):∀e∈l.map aN,∀d∈e,cj d=true:=by
 intro e he d hd;obtain⟨q,_,rfl⟩:=List.mem_map.1 he;simp only[aN,List.mem_cons,List.not_mem_nil,or_false] at hd
 rcases hd with rfl|rfl|rfl|rfl|rfl|rfl|rfl|rfl|rfl|rfl|rfl<;>rfl
theorem Cb (l:List iO):eE (Vi l) 11 (l.map aN):=eE.frozen (E5 l) (ij l)
theorem PD (L:List PL):∀e∈L.map gH,e.length=12:=by
 intro e he;obtain⟨q,_,rfl⟩:=List.mem_map.1 he;rfl
theorem CL (L:List PL):∀e∈L.map gH,∀d∈e,cj d=true:=by
 intro e he d hd;obtain⟨q,_,rfl⟩:=List.mem_map.1 he;simp only[gH,aU,List.mem_cons,List.not_mem_nil,or_false] at hd
 rcases hd with rfl|rfl|rfl|rfl|rfl|rfl|rfl|rfl|rfl|rfl|rfl|rfl<;>rfl
theorem jI (L:List PL):eE (dB L) 12 (L.map gH):=eE.frozen (PD L) (CL L)
theorem yg {L:List PL} {i:Nat} {l:PL} (h:L[i]?=some l):(L.map gH)[i]?=some (gH l):=by rw[List.getElem?_map,h];rfl
theorem uO {st:St} {ks:Nat→Prop} {dn:Bool} {f:vd} {x y:D} (h:eW st ks x y):cG (eW st ks) (aU dn f x) (aU dn f y):=
 .cons (.plain _ rfl) (.cons (.plain _ rfl) (.cons (.plain _ rfl) (.cons (.plain _ rfl) (.cons (.plain _ rfl) (.cons (.plain _ rfl) (.cons (.plain _ rfl) (.cons (.plain _ rfl) (.cons (.plain _ rfl) (.cons (.plain _ rfl) (.cons (.plain _ rfl) (.cons h .nil)))))))))))
theorem BM {N:Nat} {S s0:St} {H:List bt} {x:D} {L:List VL} (hF:S.flr≤N) (sa:L.length≤1000) (hx:Arg N S 12 x (L.map fp)) (ht:∀l∈L,Arg N S 11 l.td (l.cT.map aN)∧l.cT.length≤1000) (hH:Has N S s0 H):
  ∃d ai,Ev pv 57 [x] s0 d ai∧∃ks,Has N S ai (.deep ks d 12 ((L.map VL.pl).map gH)::H):=by
 refine Ev.il rfl TX rfl rfl rfl ?_;dsimp only[u3,u4,List.length,Nat.reduceSub,Nat.reduceAdd,w1,w2];change ab _ _ _ _ s0 _;refine qq<|qj fun K hK=>qm ?_;refine qe hK<|qq<|qj fun K hK=>qm ?_;refine qe hK<|qq<|qq<|qj fun K hK=>qm ?_;refine qn ?_;simp only[List.length_map];refine qm ?_;refine qe hK<|ab.block<|ab.loop (fun mm fr st=>∃(i:Nat) (y:D) (ks:Nat→Prop),fr.clean=⟨9,[nT fr 0,nT fr 1,nT fr 2,y,nT fr 4,nT fr 5,x,.int .i64 (L.length:Nat),.int .i64 (i:Nat)],[]⟩∧Has N S st (.deep ks y 12 (((L.map VL.pl).take i).map gH)::H)∧(i+mm=L.length)) (L.length) ?_ ?_
 ·exact⟨0,.nul,_,rfl,(hH.C4 12),by omega⟩
 rintro mm fr st ⟨i,y,ks,hfr,hH,hi⟩;rw[hfr];clear hfr;generalize nT fr=ee;clear fr;refine qq<|qj fun K hK=>qg ?_;refine qe hK<|qq ?_;refine ab.cond (by rfl) (fun hlt=>?_) (fun hlt=>?_)<;>try simp only[decide_eq_true_eq,decide_eq_false_iff_not] at hlt
 ·refine ab.skip ?_;have hil:i<L.length:=by omega
  obtain⟨l,hl⟩:∃l,L[i]?=some l:=⟨L[i]'hil,List.getElem?_eq_getElem _⟩
  obtain⟨V1,nu⟩:=ht l (List.mem_of_getElem? hl);have gJ:=tC hl;have Zr:(L.map VL.pl)[i]?=some l.pl:=by rw[List.getElem?_map,hl];rfl
  have aab:(((L.map VL.pl).take i).map gH).length≤1048576:=by rw[List.length_map,List.length_take,List.length_map];omega
  refine qq<|ab.block<|qq<|qj fun K hK=>qr fun Sc DH=>?_;refine aa.db rfl (ev rfl) (by assumption) rfl (ah rfl _) ?_;refine qa hH fun k5 st Aa hH=>?_;refine qS hH aB fun st hH=>?_;dsimp only[u2,u1,u3,u4,setMany,u5,u6,D.cells,Nat.reduceAdd,aH,aN,aU,aF,fp,gH] at hH;refine qe hK ?_;have hH:=hH.d_ 11;refine qq<|qj fun K hK=>qp (o:=11) ?_;refine ql hH bF ?_;refine aa.bO (s:=11) hH rfl (ev rfl) (ev rfl) (by exact aB) (by exact Arg.rows (by assumption) hH) rfl rfl rfl rfl rfl rfl rfl ⟨(Nat.le_of_ble_eq_true rfl),(Nat.le_of_ble_eq_true rfl)⟩ (fun _=>(ah rfl _)) (by simp only[List.length_nil,List.length_map]<;>omega) (by exact .inl hF) (fun YL st hH=>?_);dsimp only[u2,u1,u3,u4,setMany,u5,u6,D.cells,Nat.reduceAdd,aH,aN,aU,aF,fp,gH] at hH;refine qp (o:=11) ?_;refine qT hH bF (fun st hH=>?_) (h_:=hH.eK aB);dsimp only[u2,u1,u3,u4,setMany,u5,u6,D.cells,Nat.reduceAdd,aH,aN,aU,aF,fp,gH] at hH;refine qe hK<|qj fun K hK=>qm ?_;refine aa.aT (m:=12) hH rfl (ev rfl) (by exact bF) (by dsimp only[List.drop_succ_cons,List.drop_zero,List.take_succ_cons,List.take_zero,aH,aN,aU,aF,fp,gH]<;>rfl) rfl rfl (ah rfl _) ?_;refine qh (s:=12) (vs:=[_]) hH fun k18 st WU hH=>?_;obtain⟨hH,Ln⟩:=hH.rO (i:=1) (j:=3) (by decide) bF eQ (ij _);dsimp only[u1,u2] at hH;refine aa.kj hH rfl rfl rfl eQ (hH.rows aB) (.cons (uO (dn:=l.dn) (f:=l.a7) Ln) .nil) rfl rfl rfl rfl rfl rfl rfl ⟨(Nat.le_of_ble_eq_true rfl),(Nat.le_of_ble_eq_true rfl)⟩ (fun _=>(ah rfl _)) (by show _+1≤_;omega) (.inl hF) (fun Rf st hH=>?_);dsimp only[u1,u2] at hH;refine qm ?_;refine qe hK<|qj fun K hK=>qA ?_;refine qm ?_;refine qe hK ?_;exact⟨mm-1,by omega,⟨i+1,Rf,_,rfl,(by rw[List.take_add_one,Zr,Option.toList_some,List.map_append];exact hH.drop 3),by omega⟩⟩
 ·refine ab.exit ?_;have hil:i=L.length:=by omega
  refine qq<|qj fun K hK=>qm ?_;refine qm ?_;refine qe hK<|ab.ret ⟨rx,_,_,_,rfl,rfl,?_⟩;rw[List.take_of_length_le (by simp;omega)] at hH;exact⟨_,hH⟩
structure AM (N:Nat) (S:St) (kv ks:Nat) (p:Pg) (pl:Nat) (ld:D) (L:List VL):Prop where
 lt:kv<N
 le:N≤S.bs.length
 at_:S.bs[kv]?=some (.mem 0 false [p.cd,p.sd,.int .i64 (pl:Nat),ld,.ptr ks 0 0])
 ld:Arg N S 12 ld (L.map fp)
 td:∀l∈L,Arg N S 11 l.td (l.cT.map aN)
 ksl:ks<N
theorem AM.box {N:Nat} {S st:St} {H:List bt} {kv ks:Nat} {p:Pg} {pl:Nat} {ld:D} {L:List VL} (h:AM N S kv ks p pl ld L) (hH:Has N S st H):st.bs[kv]?=some (.mem 0 false [p.cd,p.sd,.int .i64 (pl:Nat),ld,.ptr ks 0 0]):=by
 rw[hH.ex.low kv h.lt];exact h.at_
theorem AM.refs {N:Nat} {S st:St} {H:List bt} {kv ks:Nat} {p:Pg} {pl:Nat} {ld:D} {L:List VL} (h:AM N S kv ks p pl ld L) (hp:p.ok) (hH:Has N S st H):V.refs [p.cd,p.sd,.int .i64 (pl:Nat),ld,.ptr ks 0 0]≤st.bs.length:=by
 have h1:=hp.c.ref;have h2:=hp.s.ref;have h3:=h.ld.2;have h4:=h.ksl;have h5:=h.le;have h6:=hH.ex.len;simp only[V.refs,D.ref,h1,h2];omega
theorem AM.to {N:Nat} {S st:St} {H:List bt} {kv ks:Nat} {p:Pg} {pl:Nat} {ld:D} {L:List VL} (h:AM N S kv ks p pl ld L) (hH:Has N S st H) (o:Nat):jt st (.ptr kv 0 o) ([p.cd,p.sd,.int .i64 (pl:Nat),ld,.ptr ks 0 0].drop o):=
 .inl ⟨kv,0,o,false,_,rfl,St.mem_of (by rw[hH.ex.low kv h.lt];exact h.at_),List.take_length ..⟩
theorem xw {kv ks:Nat} {s0:St} {p:Pg} {pl:Nat} {ld:D} {L:List VL} (hp:p.ok) (sa:L.length≤1000) (bc:∀l∈L,l.cT.length≤1000) (hA:AM s0.bs.length s0 kv ks p pl ld L) (dX:s0.ro≤s0.bs.length):
  ∃d ai,Ev pv 15 [.ptr kv 0 0] s0 d ai∧d=iY pl (L.map VL.pl)∧ai=s0:=by
 have WL:=hA.at_;have gi:=hA.lt;have uA:=hA.ld.1;have htd:∀(i:Nat) (l:VL),L[i]?=some l→V.Rows s0 11 l.td (l.cT.map aN):=fun i l hl=>(hA.td l (List.mem_of_getElem? hl)).1;have DA:=hA.refs hp (Has.start (Nat.le_refl _) dX);refine Ev.il rfl Yn rfl rfl rfl ?_;dsimp only[u3,u4,List.length,Nat.reduceSub,Nat.reduceAdd,w1,w2];have bT:(ag .rw s0).bs=s0.bs:=rfl;have hF:(ag .rw s0).flr≤s0.bs.length:=Nat.le_refl _;have hH:Has s0.bs.length (ag .rw s0) (ag .rw s0) []:=Has.start (Nat.le_refl _) dX;generalize ag .rw s0=S2 at*;have hx:=Arg.of uA bT;refine qq<|qj fun K hK=>qa hH fun k2 st hk2 hH=>qe hK ?_;have Ll:st.bs[kv]?=some (.mem 0 false [p.cd,p.sd,.int .i64 (pl:Nat),ld,.ptr ks 0 0]):=by rw[hH.ex.low kv gi,bT];exact WL
 have B2:jt st (.ptr kv 0 2) [.int .i64 (pl:Nat)]:=.inl ⟨kv,0,2,false,_,rfl,St.mem_of Ll,rfl⟩;have Lg:jt st (.ptr kv 0 3) [ld]:=.inl ⟨kv,0,3,false,_,rfl,St.mem_of Ll,rfl⟩;have hlen:=hH.ex.len;rw[bT] at hlen;change ab _ _ _ _ _ _;refine qq ?_;generalize hK:aI _ _ _ _=K;refine ab.oU rfl<|bL.cons<|qm<|aa.nil ⟨rfl,?_⟩;refine bL.cons<|qg<|aa.nil ⟨rfl,?_⟩;refine bL.cons<|qp (o:=2)<|aa.nil ⟨rfl,?_⟩;refine bL.cons<|qR<|aa.nil ⟨rfl,?_⟩;refine bL.cons<|qm<|aa.nil ⟨rfl,?_⟩;refine bL.cons<|qg<|aa.nil ⟨rfl,?_⟩;refine bL.cons<|qp (o:=3)<|aa.nil ⟨rfl,?_⟩;refine bL.cons<|qR<|aa.nil ⟨rfl,?_⟩;refine bL.cons ?_;obtain⟨yd,st,aK,ks1,hH⟩:=BM hF sa hx (fun l hl=>⟨by obtain⟨i,hi⟩:=List.getElem?_of_mem hl;exact Arg.of (htd i l hi) bT,bc l hl⟩) hH;refine qv aK<|aa.nil ⟨by exact Bool.and_eq_true_iff.2 ⟨fJ rfl rfl rfl Ll (by rw[hH.ex.low kv gi,bT];exact WL) Ll (by omega),rfl⟩,?_⟩;refine bL.cons ?_;refine aa.gd (qs:=[(0,_),(1,_)]) rfl rfl rfl rfl ⟨rfl,(ev rfl),(by rfl),rfl,(ev rfl),(by exact hH.og (by exact aB)),trivial⟩ (by intro q hq;simp only[List.mem_cons,List.not_mem_nil,or_false] at hq;rcases hq with rfl|rfl<;>exact⟨rfl,by exact Nat.le_of_ble_eq_true rfl⟩) (by show List.foldl _ [_,_] _=_;dsimp only[List.foldl_cons,List.foldl_nil,u2,u1]<;>rfl) (ah rfl _) ?_;refine aa.nil ⟨rfl,?_⟩;refine bL.cons<|qS hH bF fun st hH=>?_;dsimp only[u2,u1,u3,u4,setMany,u5,u6,D.cells,Nat.reduceAdd,aH,aN,aU,aF,fp,gH] at hH;refine aa.nil ⟨rfl,?_⟩;refine bL.nil ?_;subst hK;have h1:=hH.jO aB (n:=14) (by decide)
 have h3:aY st s0.bs.length false 16 (.agg [.int .i64 (pl:Nat),yd])=some (iY pl (L.map VL.pl)):=by
  show(eN (aY st s0.bs.length false 15) [.int .i64 (pl:Nat),yd]).map D.agg=_;simp only[eN,h1]
  rfl
 refine ab.ret ⟨rx,_,_,_,hH.j5 rfl bF rfl,ak h3,rfl,?_⟩
 have Xk:st.bs.take s0.bs.length=s0.bs:=by
  refine List.ext_getElem? fun j=>?_;rw[List.getElem?_take]
  by_cases hj:j<s0.bs.length
  ·rw[if_pos hj,hH.ex.low j hj,bT]
  ·rw[if_neg hj,List.getElem?_eq_none (by omega)]
 rw[Xk]
theorem MH.am {N ks kv:Nat} {S s0:St} {H:List bt} {p:Pg} {pl:Nat} {ld:D} {L:List VL} (hM:MH [] N S s0 ks kv p pl ld L H):AM s0.bs.length s0 kv ks p pl ld L:=by
 obtain⟨pd,qd,P,Q,sn,hH,fN,ec⟩:=hM;dsimp only[u4] at hH
 exact⟨(hH.ge aB).2,Nat.le_refl _,hH.at aB,⟨hH.rows gO,j9 hH gO⟩,fun l hl=>(by
  obtain⟨i,hi⟩:=List.getElem?_of_mem hl;have h:=B_ (H:=H) [.box kv (.mem 0 false [p.cd,p.sd,.int .i64 (pl:Nat),ld,.ptr ks 0 0]),.box ks (.mem 0 false [pd,qd]),.aP pd 1 (P.map fT),.aP qd 2 (Q.map mM),.aP ld 12 (L.map fp)] rfl hi
  exact⟨hH.rows h,j9 hH h⟩),hH.oG bF rfl⟩
theorem MH.ro {N ks kv:Nat} {S s0:St} {H:List bt} {p:Pg} {pl:Nat} {ld:D} {L:List VL} (hM:MH [] N S s0 ks kv p pl ld L H):s0.ro≤s0.bs.length:=by
 obtain⟨pd,qd,P,Q,sn,hH,fN,ec⟩:=hM;rw[hH.ex.ro];exact Nat.le_trans hH.dX (Nat.le_trans hH.hN hH.ex.len)
def l9 (fr:Go.V.Fr) (k:Nat):Go.V.D:=Go.V.nth .bp fr.loc k
theorem rh (st:St) (N:Nat) (dn:Bool) (f:vd):aY st N true 15 (.agg (aU dn f .nul))=some (.agg (aU dn f .nul)):=by
 have h1:∀(b:Bool) (x1 x2 x3 x4 x5 x6 x7 x8 x9 YM:Int),aY st N true 15 (.agg [.bool b,.int .i64 x1,.int .i64 x2,.int .i64 x3,.int .i64 x4,.int .i64 x5,.int .i64 x6,.int .i64 x7,.int .i64 x8,.int .i64 x9,.int .i64 YM,.nul])=some (.agg [.bool b,.int .i64 x1,.int .i64 x2,.int .i64 x3,.int .i64 x4,.int .i64 x5,.int .i64 x6,.int .i64 x7,.int .i64 x8,.int .i64 x9,.int .i64 YM,.nul]):=fun _ _ _ _ _ _ _ _ _ _ _=>rfl;exact h1 _ _ _ _ _ _ _ _ _ _ _
theorem oM {N j:Nat} {S st:St} {H:List bt} {x:D} {s:Nat} {es:List (List D)} (hH:Has N S st H) (hj:H[j]?=some (.aP x s es)) (hp:∀e∈es,∀d∈e,cj d=true) {n:Nat} (hn:3≤n):∃y,aY st N true n x=some y∧eE y s es:=by
 have hf:=hH.uH hj hp hn;have rV:=(hH.own hj).rr;have hown:=hH.own hj
 obtain⟨n,rfl⟩:∃m,n=m+1:=⟨n-1,by omega⟩
 cases hown with
 |nul=>exact⟨.nul,rfl,.inl ⟨rfl,rfl⟩⟩
 |win k az off es c hm hl hc he=>exact⟨_,hf,eE.frozen rV hp⟩
theorem pQ {s0:St} {p:Pg} {pl:Nat} {e dn:Bool} {a7:vd} {cT:List iO} {d:D} (hp:p.ok) (hR:bz p) (iq:pl≤1099511627776) (hd:eE d 11 (cT.map aN)) (z6:∀t∈cT,t.pc<p.code.length) (nu:cT.length≤1048576):
  ∃r,Ev pv 69 [p.d,.agg (aU dn a7 d),.int .i64 (pl:Nat),.bool e] s0 r s0∧∃rd,r=.tup [.agg (aU (kH p.code pl e cT (jv p.code.length dn a7)).dn (kH p.code pl e cT (jv p.code.length dn a7)).a7 .nul),rd]∧eE rd 11 ((kH p.code pl e cT (jv p.code.length dn a7)).rdy.map aN):=by
 have hcl:=hR.cl;generalize hW:kH p.code pl e cT (jv p.code.length dn a7)=W at*;refine Ev.Dc rfl XW rfl rfl rfl ?_;dsimp only[u3,u4,List.length,Nat.reduceSub,Nat.reduceAdd,w1,w2];obtain⟨bT,hF,hH⟩:=ri s0;generalize ag .ro s0=S at*;have hc:=hp.c.arg s0.bs.length S;have hlen:=hp.cl;have hdx:=hd.arg s0.bs.length S;unfold Pg.d;refine qq<|qj fun K hK=>qb hH fun k4 st Ry hH=>?_;dsimp only[u2,u1,u3,u4,setMany,u5,u6,D.cells,Nat.reduceAdd,aH,aN,aU,aF,bR,Pg.cs] at hH;refine qb hH fun k5 st Aa hH=>?_;dsimp only[u2,u1,u3,u4,setMany,u5,u6,D.cells,Nat.reduceAdd,aH,aN,aU,aF,bR,Pg.cs] at hH;refine qa hH fun k8 st Rx hH=>?_;refine qm ?_;refine qe hK<|qq<|qj fun K hK=>qp (o:=0) ?_;refine ql hH bF ?_;refine qp (o:=1) ?_;refine aa.aT (m:=10) hH rfl (ev rfl) (by exact bF) (by dsimp only[List.drop_succ_cons,List.drop_zero,List.take_succ_cons,List.take_zero,aH,aN,aU,aF,bR,Pg.cs]<;>rfl) rfl rfl (ah rfl _) ?_;refine aa.go (d:=.agg (aU dn a7 .nul)) (st1:=_) rfl rfl rfl (ah rfl _) ?_;refine qa hH fun k10 st WV hH=>?_;refine qS hH aB fun st hH=>?_;dsimp only[u2,u1,u3,u4,setMany,u5,u6,D.cells,Nat.reduceAdd,aH,aN,aU,aF,bR,Pg.cs] at hH;refine qe hK<|qq<|qj fun K hK=>?_;refine aa.aT (m:=2) hH rfl (ev rfl) (by exact eQ) (by dsimp only[List.drop_succ_cons,List.drop_zero,List.take_succ_cons,List.take_zero,aH,aN,aU,aF,bR,Pg.cs]<;>rfl) rfl rfl (ah rfl _) ?_;refine qp (o:=0) ?_;refine ql hH eQ ?_;refine qn ?_;simp only[List.length_map];refine aa.wL (s:=1) hH rfl rfl rfl rfl rfl rfl rfl rfl (Nat.le_of_ble_eq_true rfl) (by omega) (fun _=>(ah rfl _)) (fun k22 st WS hH=>?_);refine qm ?_;refine qm ?_;refine aa.go (d:=.agg [p.cd,p.sd,.ptr k10 0 0,.win k22 0 0 p.code.length 1,.int .i64 (pl:Nat),.bool e,.nul]) (st1:=_) rfl rfl rfl (ah rfl _) ?_;refine qb hH fun k26 st aa3 hH=>?_;refine qm ?_;refine qe hK<|qq<|qq<|qj fun K hK=>qm ?_;refine qe hK ?_;have hH:=Has.kE [_,_] [_] hH;have hH:=Has.kE [_] [_] hH;have hH:=Has.kE [_] [_,_,_] (hH.d_ 11);dsimp only[u3,u4] at hH;refine ab.block<|ab.loop (fun mm fr st=>∃(j:Nat) (w:Wk) (rest:List iO) (od:D),fr.clean=⟨13,[l9 fr 0,l9 fr 1,l9 fr 2,l9 fr 3,.ptr k4 0 0,.ptr k5 0 0,l9 fr 6,l9 fr 7,.ptr k8 0 0,.nul,.ptr k10 0 0,.ptr k26 0 0,.int .i64 (j:Nat)],[]⟩∧Has s0.bs.length S st (.box k26 (.mem 0 false [p.cd,p.sd,.ptr k10 0 0,.win k22 0 0 p.code.length 1,.int .i64 (pl:Nat),.bool e,od])::.box k10 (.mem 0 false (aU w.dn w.a7 .nul))::.aP (.win k22 0 0 p.code.length 1) 1 (w.seen.map bR)::.aP od 11 (w.rdy.map aN)::.box k8 (.mem 0 false (aU false mq .nul))::.box k5 (.mem 0 false (aU dn a7 d))::.box k4 (.mem 0 false [p.cd,p.sd])::[])∧(j+mm=cT.length)∧(rest=cT.drop j)∧(kH p.code pl e rest w=W)∧(w.seen.length=p.code.length)∧(w.rdy.length+w.seen.count false≤1048576)) (cT.length) ?_ ?_
 ·exact⟨0,jv p.code.length dn a7,cT,.nul,rfl,(by unfold jv;simp only[List.map_replicate];exact hH),by omega,rfl,hW,by simp[jv],by(have:=List.count_le_length (a:=false) (l:=(jv p.code.length dn a7).seen);simp[jv] at this⊢;omega)⟩
 rintro mm fr st ⟨j,w,rest,od,hfr,hH,hj,ku,hex,iT,oZ⟩;rw[hfr];clear hfr;generalize l9 fr=ee;clear fr;refine qq<|qq<|qj fun K hK=>qm ?_;refine qp (o:=11) ?_;refine ql hH rH ?_;refine qn ?_;simp only[List.length_map];refine qg ?_;refine qe hK ?_;refine ab.cond (by rfl) (fun hlt=>?_) (fun hlt=>?_)<;>try simp only[decide_eq_true_eq,decide_eq_false_iff_not] at hlt
 ·refine ab.skip ?_;have jq:j<cT.length:=by omega
  obtain⟨t,ht⟩:∃t,cT[j]?=some t:=⟨cT[j]'jq,List.getElem?_eq_getElem _⟩
  have La:=lx ht;have SD:=z6 t (List.mem_of_getElem? ht)
  have q_:rest=t::cT.drop (j+1):=by
   rw[ku,List.drop_eq_getElem_cons jq]
   congr 1
   exact Option.some.inj ((List.getElem?_eq_getElem _).symm.trans ht)
  have wR:=List.count_le_length (a:=false) (l:=w.seen);have Qx:=cu p.code pl e (p.code.length+1) w t;rw[q_] at hex;have hex:(if(bU p.code pl e (p.code.length+1) w t).2=true then(bU p.code pl e (p.code.length+1) w t).1 else kH p.code pl e (cT.drop (j+1)) (bU p.code pl e (p.code.length+1) w t).1)=W:=hex;refine qq<|ab.block<|qq<|qj fun K hK=>qm ?_;refine qp (o:=11) ?_;refine ql hH rH ?_;refine qm ?_;refine qr fun Y5 S0=>?_;refine qf (fo:=0) fun Y4 SZ=>?_;refine qR ?_;refine qp (o:=11) ?_;refine ql hH rH ?_;refine qm ?_;refine qr fun p44 Wt=>?_;refine qf (fo:=1) fun p45 Ws=>?_;refine qR ?_;obtain⟨_,st,aK,rfl,hT⟩:=vA (ka:=k26) (kl:=k10) (S:=S) (sd:=.win k22 0 0 p.code.length 1) (e:=e) hF hp hR iq (p.code.length+1) w t _ _ SD iT (by omega) oZ ⟨od,hH⟩;refine qv aK ?_;refine qe hK ?_;generalize bU p.code pl e (p.code.length+1) w t=R1 at*;obtain⟨w1,b1⟩:=R1;obtain⟨cW,bj,bP,fg⟩:=Qx;simp only at cW bj bP fg hT hex;obtain⟨Rm,hH⟩:=hT;have n9:w1.seen.length=p.code.length:=cW.trans iT
  cases b1 with
  |true=>
   rw[if_pos rfl] at hex;subst hex;refine qB ?_;refine ab.exit ?_;have px:=hH;have Bm:=j9 hH dL;have Lb:=j9 hH eQ;have Qb:=hH.oG bF (k:=k10) rfl;have Dz:=hp.c.ref;have Qa:=hp.s.ref;change ab _ _ _ _ _ _;refine qq ?_;generalize hK:aI _ _ _ _=K;refine ab.oU rfl ?_;refine bL.cons ?_;refine aa.aT (m:=12) hH rfl (ev rfl) (by exact bF) (by dsimp only[List.drop_succ_cons,List.drop_zero,List.take_succ_cons,List.take_zero,aH,aN,aU,aF,bR,Pg.cs]<;>rfl) rfl rfl (ah rfl _) ?_;refine aa.nil ⟨rfl,?_⟩;refine bL.cons ?_;refine qm ?_;refine aa.nil ⟨rfl,?_⟩;refine bL.cons ?_;refine qg ?_;refine aa.nil ⟨rfl,?_⟩;refine bL.cons ?_;refine qp (o:=6) ?_;refine aa.nil ⟨rfl,?_⟩;refine bL.cons ?_;refine ql hH aB ?_;refine aa.nil ⟨rfl,?_⟩;refine bL.cons ?_;refine qS hH gO fun st hH=>?_;dsimp only[u2,u1,u3,u4,setMany,u5,u6,D.cells,Nat.reduceAdd,aH,aN,aU,aF,bR,Pg.cs] at hH;refine aa.nil ⟨by exact Bool.and_eq_true_iff.2 ⟨fJ rfl rfl rfl (px.at aB) (hH.at aB) (px.at aB) (by simp only[refs,D.ref,Dz,Qa];simp only[D.ref] at Bm;omega),rfl⟩,?_⟩;refine bL.cons ?_;refine qm ?_;refine aa.nil ⟨rfl,?_⟩;refine bL.nil ?_;subst hK;have h4:=rh st s0.bs.length w1.dn w1.a7;obtain⟨rdy,h2,P4⟩:=oM hH eQ (ij _) (n:=15) (by decide)
   have h3:aY st s0.bs.length true 16 (.tup [.agg (aU w1.dn w1.a7 .nul),Rm])=some (.tup [.agg (aU w1.dn w1.a7 .nul),rdy]):=by
    show(eN (aY st s0.bs.length true 15) [.agg (aU w1.dn w1.a7 .nul),Rm]).map D.tup=_;simp only[eN,h2,h4,Option.map_some]
   refine ab.ret ⟨rx,_,_,hH.kM rfl gO rfl rfl,rl bT hH h3,rdy,rfl,P4⟩
  |false=>
   rw[if_neg (by decide)] at hex;refine qC ?_;refine ab.skip<|qj fun K hK=>qm ?_;refine qA ?_;refine qm ?_;refine qe hK ?_;exact⟨mm-1,by omega,⟨j+1,w1,cT.drop (j+1),Rm,rfl,hH,by omega,rfl,hex,n9,by omega⟩⟩
 ·refine ab.exit ?_;have uz:rest=[]:=by rw[ku,List.drop_eq_nil_iff];omega
  subst uz;have hex:w=W:=hex;subst hex;have px:=hH;have Bm:=j9 hH dL;have Lb:=j9 hH eQ;have Qb:=hH.oG bF (k:=k10) rfl;have Dz:=hp.c.ref;have Qa:=hp.s.ref;change ab _ _ _ _ _ _;refine qq ?_;generalize hK:aI _ _ _ _=K;refine ab.oU rfl ?_;refine bL.cons ?_;refine aa.aT (m:=12) hH rfl (ev rfl) (by exact bF) (by dsimp only[List.drop_succ_cons,List.drop_zero,List.take_succ_cons,List.take_zero,aH,aN,aU,aF,bR,Pg.cs]<;>rfl) rfl rfl (ah rfl _) ?_;refine aa.nil ⟨rfl,?_⟩;refine bL.cons ?_;refine qm ?_;refine aa.nil ⟨rfl,?_⟩;refine bL.cons ?_;refine qg ?_;refine aa.nil ⟨rfl,?_⟩;refine bL.cons ?_;refine qp (o:=6) ?_;refine aa.nil ⟨rfl,?_⟩;refine bL.cons ?_;refine ql hH aB ?_;refine aa.nil ⟨rfl,?_⟩;refine bL.cons ?_;refine qS hH gO fun st hH=>?_;dsimp only[u2,u1,u3,u4,setMany,u5,u6,D.cells,Nat.reduceAdd,aH,aN,aU,aF,bR,Pg.cs] at hH;refine aa.nil ⟨by exact Bool.and_eq_true_iff.2 ⟨fJ rfl rfl rfl (px.at aB) (hH.at aB) (px.at aB) (by simp only[refs,D.ref,Dz,Qa];simp only[D.ref] at Bm;omega),rfl⟩,?_⟩;refine bL.cons ?_;refine qm ?_;refine aa.nil ⟨rfl,?_⟩;refine bL.nil ?_;subst hK;have h4:=rh st s0.bs.length w.dn w.a7;obtain⟨rdy,h2,P4⟩:=oM hH eQ (ij _) (n:=15) (by decide)
  have h3:aY st s0.bs.length true 16 (.tup [.agg (aU w.dn w.a7 .nul),od])=some (.tup [.agg (aU w.dn w.a7 .nul),rdy]):=by
   show(eN (aY st s0.bs.length true 15) [.agg (aU w.dn w.a7 .nul),od]).map D.tup=_;simp only[eN,h2,h4,Option.map_some]
  refine ab.ret ⟨rx,_,_,hH.kM rfl gO rfl rfl,rl bT hH h3,rdy,rfl,P4⟩
def nS (fr:Go.V.Fr) (k:Nat):Go.V.D:=Go.V.nth .bp fr.loc k
theorem C_ (f:vd):mi pv .neq 45 (.agg (aF f)) (.agg (aF f))=some (.bool false):=by
 have h:∀b c d e g i j k l m:Int,mi pv .neq 45 (.agg [.int .i64 b,.int .i64 c,.int .i64 d,.int .i64 e,.int .i64 g,.int .i64 i,.int .i64 j,.int .i64 k,.int .i64 l,.int .i64 m]) (.agg [.int .i64 b,.int .i64 c,.int .i64 d,.int .i64 e,.int .i64 g,.int .i64 i,.int .i64 j,.int .i64 k,.int .i64 l,.int .i64 m])=Option.map (fun b=>D.bool !b) (match some (b==b) with|some true=>(match some (c==c) with|some true=>(match some (d==d) with|some true=>(match some (e==e) with|some true=>(match some (g==g) with|some true=>(match some (i==i) with|some true=>(match some (j==j) with|some true=>(match some (k==k) with|some true=>(match some (l==l) with|some true=>(match some (m==m) with|some true=>some true|some false=>some false|none=>none)|some false=>some false|none=>none)|some false=>some false|none=>none)|some false=>some false|none=>none)|some false=>some false|none=>none)|some false=>some false|none=>none)|some false=>some false|none=>none)|some false=>some false|none=>none)|some false=>some false|none=>none)|some false=>some false|none=>none):=fun _ _ _ _ _ _ _ _ _ _=>rfl;unfold aF;rw[h];simp only[beq_self_eq_true,Option.map_some,Bool.not_true]
theorem KO (t:iO):mi pv .neq 50 (.agg (aN t)) (.agg (aN t))=some (.bool false):=by
 have h:∀a b c d e g i j k l m:Int,mi pv .neq 50 (.agg [.int .i64 a,.int .i64 b,.int .i64 c,.int .i64 d,.int .i64 e,.int .i64 g,.int .i64 i,.int .i64 j,.int .i64 k,.int .i64 l,.int .i64 m]) (.agg [.int .i64 a,.int .i64 b,.int .i64 c,.int .i64 d,.int .i64 e,.int .i64 g,.int .i64 i,.int .i64 j,.int .i64 k,.int .i64 l,.int .i64 m])=Option.map (fun b=>D.bool !b) (match some (a==a) with|some true=>(match(match some (b==b) with|some true=>(match some (c==c) with|some true=>(match some (d==d) with|some true=>(match some (e==e) with|some true=>(match some (g==g) with|some true=>(match some (i==i) with|some true=>(match some (j==j) with|some true=>(match some (k==k) with|some true=>(match some (l==l) with|some true=>(match some (m==m) with|some true=>some true|some false=>some false|none=>none)|some false=>some false|none=>none)|some false=>some false|none=>none)|some false=>some false|none=>none)|some false=>some false|none=>none)|some false=>some false|none=>none)|some false=>some false|none=>none)|some false=>some false|none=>none)|some false=>some false|none=>none)|some false=>some false|none=>none) with|some true=>some true|some false=>some false|none=>none)|some false=>some false|none=>none):=fun _ _ _ _ _ _ _ _ _ _ _=>rfl;unfold aN;rw[h];simp only[beq_self_eq_true,Option.map_some,Bool.not_true]
theorem xS {s0:St} {x y:D} {l:List iO} (hx:V.Rows s0 11 x (l.map aN)) (hy:V.Rows s0 11 y (l.map aN)) (hl:l.length≤1073741824):Ev pv 63 [x,y] s0 (.bool true) s0:=by
 refine Ev.iS rfl XY rfl rfl rfl ?_;dsimp only[u3,u4,List.length,Nat.reduceSub,Nat.reduceAdd,w1,w2];obtain⟨bT,hF,hH⟩:=ri s0;generalize ag .ro s0=S at*;have hx:=Arg.of hx bT;have hy:=Arg.of hy bT;refine qq<|qj fun K hK=>qm ?_;refine qe hK<|qq<|qq<|qj fun K hK=>qm ?_;refine qn ?_;simp only[List.length_map];refine qm ?_;refine qn ?_;simp only[List.length_map];refine qg ?_;refine qe hK<|qE rfl (by simp) ?_;refine ab.skip<|qq<|qq<|qj fun K hK=>qm ?_;refine qe hK<|ab.block<|ab.loop (fun mm fr st=>∃(i:Nat),fr.clean=⟨6,[x,y,nS fr 2,nS fr 3,.bool false,.int .i64 (i:Nat)],[]⟩∧Has s0.bs.length S st []∧(i+mm=l.length)) (l.length) ?_ ?_
 ·exact⟨0,rfl,hH,by omega⟩
 rintro mm fr st ⟨i,hfr,hH,hi⟩;rw[hfr];clear hfr;generalize nS fr=ee;clear fr;refine qq<|qq<|qj fun K hK=>qm ?_;refine qm ?_;refine qn ?_;simp only[List.length_map];refine qg ?_;refine qe hK ?_;refine ab.cond (by rfl) (fun h1=>?_) (fun h1=>?_)<;>try simp only[decide_eq_true_eq,decide_eq_false_iff_not] at h1
 ·refine ab.skip ?_
  obtain⟨p,hp⟩:∃p,l[i]?=some p:=⟨l[i]'(by omega),List.getElem?_eq_getElem _⟩
  have gJ:=lx hp;refine qq<|ab.block<|qq<|qj fun K hK=>qm ?_;refine qm ?_;refine qr fun p19 Wz=>?_;refine aa.db rfl (ev rfl) (by assumption) rfl (ah rfl _) ?_;refine qm ?_;refine qm ?_;refine qr fun Vu Qg=>?_;refine aa.db rfl (ev rfl) (by assumption) rfl (ah rfl _) ?_;refine aa.VC rfl (ev rfl) (ev rfl) (KO p) (ah rfl _) ?_;refine qe hK<|qC ?_;refine ab.skip<|qj fun K hK=>qm ?_;refine qA ?_;refine qm ?_;refine qe hK ?_;exact⟨mm-1,by omega,⟨i+1,rfl,hH,by omega⟩⟩
 ·refine ab.exit<|qq<|qj fun K hK=>qm ?_;refine qe hK<|ab.ret ⟨rx,_,rfl,rl bT hH (rfl)⟩
def EE (es:List (List D)) (L:List PL):Prop:=es.length=L.length∧∀(i:Nat) l,L[i]?=some l→∃d,eE d 11 (l.cT.map aN)∧es[i]?=some (aU l.dn l.a7 d)
theorem j_ (L:List PL):EE (L.map gH) L:=⟨List.length_map _,fun i l h=>⟨Vi l.cT,Cb _,yg h⟩⟩
theorem wm {s0:St} {x y:D} {es fs:List (List D)} {L:List PL} (hx:V.Rows s0 12 x es) (hy:V.Rows s0 12 y fs) (uC:EE es L) (ZB:EE fs L) (hl:L.length≤1073741824) (z6:∀l∈L,l.cT.length≤1000):Ev pv 20 [x,y] s0 (.bool true) s0:=by
 obtain⟨rV,heg⟩:=uC;obtain⟨ml,hfg⟩:=ZB;refine Ev.iS rfl Yk rfl rfl rfl ?_;dsimp only[u3,u4,List.length,Nat.reduceSub,Nat.reduceAdd,w1,w2];obtain⟨bT,hF,hH⟩:=ri s0;generalize ag .ro s0=S at*;have hx:=Arg.of hx bT;have hy:=Arg.of hy bT;refine qq<|qj fun K hK=>qm ?_;refine qe hK<|qq<|qq<|qj fun K hK=>qm ?_;refine qn ?_;refine qm ?_;refine qn ?_;refine qg ?_;refine qe hK<|qE rfl (by rw[rV,ml];simp) ?_;refine ab.skip<|qq<|qq<|qj fun K hK=>qm ?_;refine qe hK<|ab.block<|ab.loop (fun mm fr st=>∃(i:Nat),fr.clean=⟨6,[x,y,nS fr 2,nS fr 3,.bool false,.int .i64 (i:Nat)],[]⟩∧Has s0.bs.length S st []∧(i+mm=es.length)) (es.length) ?_ ?_
 ·exact⟨0,rfl,hH,by omega⟩
 rintro mm fr st ⟨i,hfr,hH,hi⟩;rw[hfr];clear hfr;generalize nS fr=ee;clear fr;refine qq<|qq<|qj fun K hK=>qm ?_;refine qm ?_;refine qn ?_;refine qg ?_;refine qe hK ?_;refine ab.cond (by rfl) (fun h1=>?_) (fun h1=>?_)<;>try simp only[decide_eq_true_eq,decide_eq_false_iff_not] at h1
 ·refine ab.skip ?_
  obtain⟨l,o4⟩:∃l,L[i]?=some l:=⟨L[i]'(by omega),List.getElem?_eq_getElem _⟩
  obtain⟨d1,yO,gJ⟩:=heg i l o4;obtain⟨d2,xB,o3⟩:=hfg i l o4;have nu:=z6 l (List.mem_of_getElem? o4);have bo:(l.dn !=l.dn)=false:=by simp
  have n_:false=false:=rfl;refine qq<|ab.block<|qq<|ab.kB 54 (.bool false) [] ?_ (fun ff tmp hU=>?_)
  ·refine qm ?_;refine qm ?_;refine qr fun p19 Wz=>?_;refine qf (fo:=0) fun US Lf=>?_;refine qR ?_;refine qm ?_;refine qm ?_;refine qr fun Rl Bn=>?_;refine qf (fo:=0) fun Sb DG=>?_;refine qR ?_;refine qg ?_;refine qm ?_;refine qm ?_ (hg:=wi bo);refine qm ?_ (hg:=wi bo);refine qr (fun p31 Wv=>?_) (hg:=wi bo);refine qf (fo:=1) (fun p32 aaE=>?_) (hg:=wi bo);refine qR ?_ (hg:=wi bo);refine qm ?_ (hg:=wi bo);refine qm ?_ (hg:=wi bo);refine qr (fun Vs Qe=>?_) (hg:=wi bo);refine qf (fo:=1) (fun Y6 S3=>?_) (hg:=wi bo);refine qR ?_ (hg:=wi bo);refine aa.VC (aD rfl rfl rfl bo) (ev rfl) (ev rfl) (C_ l.a7) (ah rfl _) ?_;refine qu bo ?_;refine qm ?_;refine qm ?_ (hg:=wi n_);refine qm ?_ (hg:=wi n_);refine qr (fun p44 Wt=>?_) (hg:=wi n_);refine qf (fo:=11) (fun p45 Ws=>?_) (hg:=wi n_);refine qR ?_ (hg:=wi n_);refine qm ?_ (hg:=wi n_);refine qm ?_ (hg:=wi n_);refine qr (fun Y3 SY=>?_) (hg:=wi n_);refine qf (fo:=11) (fun Y2 SX=>?_) (hg:=wi n_);refine qR ?_ (hg:=wi n_);refine qv (xS (yO.rows _) (xB.rows _) (by omega)) ?_ (hg:=wi n_);refine qg ?_ (hg:=wi n_);refine qu n_ ?_;refine aa.nil (c_ ?_ ?_)
   ·dsimp only[aR,List.foldl,nth,u2,u1]
    all_goals(first|rfl|simp)
   ·dsimp only[Fr.aj,Fr.put,Fr.clean,Fr.ev,Fr.get,nth,look,u1,u2,v1,v2,v4]
    all_goals(rfl)
  dsimp only[aR,List.foldl,nth,u2,u1];dsimp only[Fr.aj,Fr.put,Fr.clean,Fr.ev,Fr.get,nth,look,u1,u2,v1,v2,v4];refine qC ?_;refine ab.skip<|qj fun K hK=>qm ?_;refine qA ?_;refine qm ?_;refine qe hK ?_;exact⟨mm-1,by omega,⟨i+1,rfl,hH,by omega⟩⟩
 ·refine ab.exit<|qq<|qj fun K hK=>qm ?_;refine qe hK<|ab.ret ⟨rx,_,rfl,rl bT hH (rfl)⟩
theorem wj {s0:St} {pl:Nat} {L:List PL} (hl:L.length≤1000) (z6:∀l∈L,l.cT.length≤1000):Ev pv 19 [iY pl L,iY pl L] s0 (.bool true) s0:=by
 unfold iY;refine Ev.iS rfl Yl rfl rfl rfl ?_;dsimp only[u3,u4,List.length,Nat.reduceSub,Nat.reduceAdd,w1,w2];obtain⟨bT,hF,hH⟩:=ri s0;generalize ag .ro s0=S at*;have bd:(((pl:Nat):Int)==((pl:Nat):Int))=true:=by simp
 refine qq<|qj fun K hK=>qb hH fun k2 st hk2 hH=>?_;refine qb hH fun k3 st EU hH=>?_;refine qm ?_;refine qe hK<|qq<|qj fun K hK=>qp (o:=0) ?_;refine ql hH bF ?_;refine qp (o:=0) ?_;refine ql hH aB ?_;refine qg ?_;refine qm ?_;refine qp (o:=1) ?_ (hg:=wi bd);refine ql hH bF ?_ (hg:=wi bd);refine qp (o:=1) ?_ (hg:=wi bd);refine ql hH aB ?_ (hg:=wi bd);refine qv (wm ((jI L).rows _) ((jI L).rows _) (j_ L) (j_ L) (by omega) z6) ?_ (hg:=wi bd);refine qt bd ?_;refine qm ?_;refine qe hK<|ab.ret ⟨rx,_,rfl,rl bT hH (rfl)⟩
end Go.Proofs.YtbdnabmmlbiomaaGreat
