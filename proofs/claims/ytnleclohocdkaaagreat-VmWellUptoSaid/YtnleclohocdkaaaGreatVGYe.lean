/-
 A machine's list steps.
-/
import Derived.Test.YtnleclohocdkaaaGreatVGHr
import Derived.Test.YtnleclohocdkaaaGreatVGJp
import Derived.Test.YtnleclohocdkaaaGreatVGQe
import Derived.Test.YtnleclohocdkaaaGreatVGJi
set_option maxRecDepth 100000
set_option maxHeartbeats 4000000
set_option linter.unusedSimpArgs false
set_option linter.unusedVariables false
namespace Go.Proofs.YtnleclohocdkaaaGreat
open Go.V Go
def a_ (fr:Go.V.Fr) (k:Nat):Go.V.D:=Go.V.nth .junk fr.loc k
def gb (l:List eQ) (k:Nat):Bool:=l.any fun x=>x.pc==k
def jD (l:List eQ) (t:eQ):List eQ:=if gb l t.pc=true then l else l++[t]
def vq (code:List aC) (pc:Nat):List Rg:=match code[pc]? with
 |some i=>i.rs
 |none=>[]
def eZ (code:List aC) (r:Int):List eQ→List eQ→List eQ
 |[],a=>a
 |t::ts,a=>eZ code r ts (if gd (vq code t.pc) r=true then jD a ⟨t.pc+1,t.c⟩ else a)
structure PL where
 dn:Bool
 aD:lb
 aM:List eQ
def eV (code:List aC) (pl start:Nat) (r:Int) (l:PL):PL:=
 ⟨(jJ code pl false l.aM (iz code.length l.dn l.aD)).dn,(jJ code pl false l.aM (iz code.length l.dn l.aD)).aD,
  if(jJ code pl false l.aM (iz code.length l.dn l.aD)).dn=true then eZ code r (jJ code pl false l.aM (iz code.length l.dn l.aD)).rdy []
  else jD (eZ code r (jJ code pl false l.aM (iz code.length l.dn l.aD)).rdy []) ⟨start,bG⟩⟩
theorem qw (l:List eQ) (t:eQ) (k:Nat):gb (l++[t]) k=(gb l k||t.pc==k):=by
 unfold gb;rw[List.any_append];simp
theorem rz (l:List eQ) (t:eQ):(jD l t).length≤l.length+1:=by
 unfold jD;split
 ·omega
 ·simp
theorem xh {l:List eQ} {t x:eQ} (h:x∈jD l t):x∈l∨x=t:=by
 unfold jD at h;split at h
 ·exact .inl h
 ·rcases List.mem_append.1 h with h|h
  ·exact .inl h
  ·exact .inr (by simpa using h)
theorem pz {code:List aC} {r:Int}:∀(l a:List eQ),(eZ code r l a).length≤l.length+a.length∧∀x∈eZ code r l a,x∈a∨∃t∈l,x.pc=t.pc+1
 |[],a=>⟨by simp[eZ],fun x h=>.inl h⟩
 |t::ts,a=>by
  unfold eZ
  split
  ·obtain⟨h1,h2⟩:=pz (code:=code) (r:=r) ts (jD a ⟨t.pc+1,t.c⟩);have:=rz a ⟨t.pc+1,t.c⟩;refine⟨by simp only[List.length_cons];omega,fun x hx=>?_⟩
   rcases h2 x hx with h|⟨y,hy,he⟩
   ·rcases xh h with h|h
    ·exact .inl h
    ·exact .inr ⟨t,List.mem_cons_self ..,by rw[h]⟩
   ·exact .inr ⟨y,List.mem_cons_of_mem _ hy,he⟩
  ·obtain⟨h1,h2⟩:=pz (code:=code) (r:=r) ts a;refine⟨by simp only[List.length_cons];omega,fun x hx=>?_⟩
   rcases h2 x hx with h|⟨y,hy,he⟩
   ·exact .inl h
   ·exact .inr ⟨y,List.mem_cons_of_mem _ hy,he⟩
def PL.ok (n:Nat) (l:PL):Prop:=(∀t∈l.aM,t.pc<n)∧l.aM.length≤1000
theorem mE {code:List aC} {pl:Nat} {e:Bool} {l:List eQ} {dn:Bool} {aD:lb}:(jJ code pl e l (iz code.length dn aD)).rdy.length≤code.length∧∀t∈(jJ code pl e l (iz code.length dn aD)).rdy,∃i,code[t.pc]?=some i∧i.op=1:=by
 obtain⟨_,_,h3,h4⟩:=qQ code pl e l (iz code.length dn aD);have:=List.count_le_length (a:=false) (l:=(iz code.length dn aD).seen);simp only[iz,List.length_replicate,List.length_nil] at h3 this;refine⟨by simp only[iz];omega,fun t ht=>?_⟩
 rcases h4 t ht with h|h
 ·simp[iz] at h
 ·exact h
theorem pg {p:Pg} (hR:aX p) {t:eQ} (h:∃i,p.code[t.pc]?=some i∧i.op=1):t.pc+1<p.code.length:=by
 obtain⟨i,hi,h1⟩:=h;have:=iZ (hR.sh t.pc i hi);omega
theorem BU {p:Pg} (hR:aX p) {pl start:Nat} {r:Int} {l:PL} (hs:start<p.code.length):(eV p.code pl start r l).ok p.code.length:=by
 obtain⟨h1,h2⟩:=mE (code:=p.code) (pl:=pl) (e:=false) (l:=l.aM) (dn:=l.dn) (aD:=l.aD);have hcl:=hR.cl;unfold eV PL.ok;generalize jJ p.code pl false l.aM (iz p.code.length l.dn l.aD)=w at*;obtain⟨h3,h4⟩:=pz (code:=p.code) (r:=r) w.rdy []
 have h5:∀x∈eZ p.code r w.rdy [],x.pc<p.code.length:=fun x hx=>by
  rcases h4 x hx with h|⟨t,ht,he⟩
  ·cases h
  ·have:=pg hR (h2 t ht);omega
 simp only[List.length_nil] at h3;simp only
 split
 ·exact⟨h5,by omega⟩
 ·refine⟨fun x hx=>?_,?_⟩
  ·rcases xh hx with h|h
   ·exact h5 x h
   ·rw[h];exact hs
  ·have:=rz (eZ p.code r w.rdy []) ⟨start,bG⟩;omega
theorem BT (fQ:∀st,Ev pv 63 [] st (.agg (ai bG)) st) {N ks kv:Nat} {S s0:St} {H:List aP} {p:Pg} {pl:Nat} {ld:D} {L:List VL} {i start:Nat} {l:VL} {r:Int} (hF:S.flr≤N) (hp:p.ok) (hR:aX p) (hpl:pl≤4000000000000) (hl:L[i]?=some l) (Gg:p.af[i]?=some ((start:Nat):Int)) (uh:(⟨l.dn,l.aD,l.aM⟩:PL).ok p.code.length) (hM:MH [] N S s0 ks kv p pl ld L H):
  ∃d ab,Ev pv 66 [.ptr kv 0 0,.int .i64 (i:Nat),.int .i32 r] s0 d ab∧∃td,d=.agg (ax (eV p.code pl start r ⟨l.dn,l.aD,l.aM⟩).dn (eV p.code pl start r ⟨l.dn,l.aD,l.aM⟩).aD td)∧MH [.lst td 11 ((eV p.code pl start r ⟨l.dn,l.aD,l.aM⟩).aM.map az)] N S ab ks kv p pl ld L H:=by
 have hcl:=hR.cl;have hc:=hp.c.arg N S;have hs:=hp.s.arg N S;have hlen:=hp.cl;have Hd:start<p.code.length:=by have:=(hR.st _ (List.mem_of_getElem? Gg)).2;omega
 have IG:=dc Gg;obtain⟨JE,M1⟩:=uh;simp only at JE M1;obtain⟨hb1,hb2⟩:=mE (code:=p.code) (pl:=pl) (e:=false) (l:=l.aM) (dn:=l.dn) (aD:=l.aD);obtain⟨pd,qd,P,Q,sn,hH,hok,fc⟩:=hM;dsimp only[u4] at hH;unfold eV;simp only;refine Ev.iI rfl OV rfl rfl rfl ?_;refine zE ?_;change EvC _ _ _ _ s0 _;refine zQ 2 ?_;refine qa hH fun k6 st Ef hH=>?_;refine zQ 1 ?_;obtain⟨_,st1,hev,rd,rfl,hM⟩:=s9 (e:=false) hF hp hR hpl hl JE (by omega) (MH.push [_] [] ⟨pd,qd,P,Q,sn,hH,hok,fc⟩);clear hok fc;have hM:=MH.pull [_] [_] hM;generalize jJ p.code pl false l.aM (iz p.code.length l.dn l.aD)=W at*;obtain⟨pd,qd,P,Q,sn,H6,hok,fc⟩:=hM;dsimp only[u3,u4] at H6;refine zQ 4 ?_;have hH:=H6;refine qv hev ?_;refine zQ 3 ?_;refine qa hH fun k7 st IL hH=>?_;refine qS hH at0 fun st hH=>?_;dsimp only[u2,u1,u3,u4,setMany,u5,u6,D.cells,Nat.reduceAdd,aq,az,ax,ai,dp] at hH;refine zQ 2 ?_;clear H6;refine zQ 6 ?_;obtain⟨_,st,hev,rfl,pd,qd,P,Q,hH,hok⟩:=nO [_,_,_,_] hF hok hH;dsimp only[u3,u4] at hH;refine qv hev ?_;refine zQ 1 ?_;rw[fc] at hok;refine zQ 4 ?_;refine qn ?_ (hR:=hH.rows at2);simp only[List.length_map];refine zQ 2 ?_;have hH:=Has.iD [_] [_] (hH.nulE 11);dsimp only[u3,u4] at hH
 obtain⟨A,hA⟩:∃A,eZ p.code r W.rdy []=A:=⟨_,rfl⟩
 rw[hA];refine zQ 1 ?_;refine EvC.loop (fun mm fr st=>∃(j:Nat) (acc rest:List eQ) (td pd qd:D) (P Q:List Nat) (sn:List Bool),fr.clean=⟨25,[.ptr kv 0 0,.int .i64 (i:Nat),.int .i32 r,a_ fr 3,a_ fr 4,a_ fr 5,.ptr k6 0 0,.ptr k7 0 0,rd,a_ fr 9,a_ fr 10,a_ fr 11,a_ fr 12,a_ fr 13,a_ fr 14,a_ fr 15,a_ fr 16,a_ fr 17,a_ fr 18,a_ fr 19,a_ fr 20,a_ fr 21,rd,.int .i64 (W.rdy.length:Nat),.int .i64 (j:Nat)],[]⟩∧Has N S st (.box k7 (.mem 0 false (ax W.dn W.aD td))::.lst td 11 (acc.map az)::.box k6 (.mem 0 false (ax false lK .nul))::.lst rd 11 (W.rdy.map az)::.box kv (.mem 0 false [p.cd,p.sd,.int .i64 (pl:Nat),ld,.ptr ks 0 0])::.box ks (.mem 0 false [pd,qd])::.lst pd 1 (P.map fF)::.lst qd 2 (Q.map ni)::.lst ld 12 (L.map dp)::(L.map mF++H))∧(j+mm=W.rdy.length)∧(rest=W.rdy.drop j)∧(eZ p.code r rest acc=A)∧(acc.length≤j)∧(cy P Q sn)∧(sn.length=p.code.length)∧(∀k,k<p.code.length→sn[k]?=some (gb acc k))) (W.rdy.length) ?_ ?_
 ·refine⟨0,[],W.rdy,.nul,_,_,_,_,_,rfl,hH,by omega,rfl,hA,by simp,hok,by simp,(fun k hk=>by rw[List.getElem?_replicate,if_pos hk];rfl)⟩
 rintro mm fr st ⟨j,acc,rest,td,pd,qd,P,Q,sn,hfr,hH,hj,iy,hex,hal,hok,fc,pU⟩;rw[hfr];clear hfr;generalize a_ fr=ee;clear fr;refine zQ 5 ?_;refine zP (fun hlt=>?_) fun hlt=>?_
 ·refine zQ 1 ?_;have iV:j<W.rdy.length:=by omega
  obtain⟨t,ht⟩:∃t,W.rdy[j]?=some t:=⟨W.rdy[j]'iV,List.getElem?_eq_getElem _⟩
  have Fh:=kq ht;obtain⟨ii,hii,L5⟩:=hb2 t (List.mem_of_getElem? ht);have Ge:=pg hR ⟨ii,hii,L5⟩;have kW:=de hii;have BE:=hp.i ii (List.mem_of_getElem? hii);have CX:=BE.1;have CY:=CX.arg N S;have M9:=BE.2
  have wG:rest=t::W.rdy.drop (j+1):=by
   rw[iy,List.drop_eq_getElem_cons iV]
   congr 1
   exact Option.some.inj ((List.getElem?_eq_getElem _).symm.trans ht)
  rw[wG] at hex;have Hi:vq p.code t.pc=ii.rs:=by unfold vq;rw[hii]
  unfold eZ at hex;rw[Hi] at hex;have Ng:gb acc (t.pc+1)=gb acc (t.pc+1):=rfl;generalize Om:gb acc (t.pc+1)=bq at Ng;have Fe:=pU (t.pc+1) Ge;rw[Om] at Fe;refine zQ 4 ?_;refine qi hH at3 fun RK Nz=>?_;refine EvO.tP hH rfl (ev rfl) (by assumption) (by exact at3) (by assumption) rfl (put_T rfl _) ?_;refine qa hH fun k10 st Kf hH=>?_;dsimp only[u2,u1,u3,u4,setMany,u5,u6,D.cells,Nat.reduceAdd,aq,az,ax,ai,dp] at hH;refine qS hH at0 fun st hH=>?_;dsimp only[u2,u1,u3,u4,setMany,u5,u6,D.cells,Nat.reduceAdd,aq,az,ax,ai,dp] at hH;refine zQ 1 ?_
  cases cJ:gd ii.rs r with
  |false=>
   rw[cJ,if_neg (by decide)] at hex;refine zQ 9 ?_;refine qr fun IA A_=>?_;refine qf (fo:=3) fun LL Fs=>?_;refine zQ 2 ?_;refine qv (Dn (CY.rows hH) (by omega)) ?_;refine zQ 17 ?_;exact⟨mm-1,by omega,⟨j+1,acc,W.rdy.drop (j+1),td,pd,qd,P,Q,sn,rfl,(hH.drop 1),by omega,rfl,hex,by omega,hok,fc,pU⟩⟩
  |true=>
   rw[cJ,if_pos rfl] at hex;have hex:eZ p.code r (W.rdy.drop (j+1)) (if gb acc (t.pc+1)=true then acc else acc++[⟨t.pc+1,t.c⟩])=A:=hex;rw[Om] at hex;have lI:t.pc+1<sn.length:=by omega
   refine zQ 9 ?_;refine qr fun IA A_=>?_;refine qf (fo:=3) fun LL Fs=>?_;refine zQ 2 ?_;refine qv (Dn (CY.rows hH) (by omega)) ?_;refine zQ 8 ?_;obtain⟨_,st,hev,rfl,pd,qd,P,Q,hH,hok⟩:=mL [_,_,_,_,_,_] hF Fe hok hH;dsimp only[u3,u4] at hH;refine qv hev ?_ (hg:=wi cJ);refine zQ 2 ?_
   cases bq with
   |true=>
    rw[if_pos rfl] at hex;refine zQ 6 ?_;refine⟨mm-1,by omega,⟨j+1,acc,W.rdy.drop (j+1),td,pd,qd,P,Q,sn.set (t.pc+1) true,rfl,(hH.drop 1),by omega,rfl,hex,by omega,hok,by rw[List.length_set];exact fc,?_⟩⟩;intro k hk
    by_cases hkk:k=t.pc+1
    ·subst hkk;rw[List.getElem?_set_self lI,Om]
    ·rw[List.getElem?_set_ne (fun e=>hkk e.symm)];exact pU k hk
   |false=>
    rw[if_neg (by decide)] at hex;refine zQ 7 ?_;refine qT hH at0 fun st hH=>?_;dsimp only[u2,u1,u3,u4,setMany,u5,u6,D.cells,Nat.reduceAdd,aq,az,ax,ai,dp] at hH;refine zQ 4 ?_;refine EvO.hloadS (m:=11) hH rfl (ev rfl) (by exact at0) (by dsimp only[List.drop_succ_cons,List.drop_zero,List.take_succ_cons,List.take_zero,aq,az,ax,ai,dp]<;>rfl) rfl rfl (put_T rfl _) ?_;refine qh (s:=11) (vs:=[_]) hH fun k57 st Td hH=>?_;refine EvO.happend (s:=11) hH rfl (ev rfl) (ev rfl) (by exact at3) (by exact hH.rows (by exact at0)) rfl rfl rfl rfl rfl rfl rfl ⟨(Nat.le_of_ble_eq_true rfl),(Nat.le_of_ble_eq_true rfl)⟩ (fun _=>(put_T rfl _)) (by simp only[List.length_cons,List.length_nil,List.length_map]<;>omega) (by exact .inl hF) (fun Q9 st hH=>?_);dsimp only[u2,u1,u3,u4,setMany,u5,u6,D.cells,Nat.reduceAdd,aq,az,ax,ai,dp] at hH;refine zQ 1 ?_;refine qT hH at2 (fun st hH=>?_) (gQ:=hH.ocells at3);dsimp only[u2,u1,u3,u4,setMany,u5,u6,D.cells,Nat.reduceAdd,aq,az,ax,ai,dp] at hH;refine zQ 5 ?_;refine⟨mm-1,by omega,⟨j+1,acc++[⟨t.pc+1,t.c⟩],W.rdy.drop (j+1),Q9,pd,qd,P,Q,sn.set (t.pc+1) true,rfl,(by rw[List.map_append];exact hH.drop 2),by omega,rfl,hex,by simp;omega,hok,by rw[List.length_set];exact fc,?_⟩⟩;intro k hk;rw[qw]
    by_cases hkk:k=t.pc+1
    ·subst hkk;rw[List.getElem?_set_self lI];simp
    ·rw[List.getElem?_set_ne (fun e=>hkk e.symm),pU k hk];have:(t.pc+1==k)=false:=by rw[beq_eq_false_iff_ne];omega
     simp only[this,Bool.or_false]
 ·refine zQ 1 ?_;have uw:rest=[]:=by rw[iy,List.drop_eq_nil_iff];omega
  subst uw;have hex:acc=A:=hex;subst hex;clear hA iy;have Fe:=pU start Hd;refine zQ 2 ?_;refine EvC.jh (fun fr st=>∃(aM:List eQ) (td pd qd:D) (P Q:List Nat) (sn:List Bool) (tmp:List (Nat×D)),fr=⟨25,[a_ fr 0,a_ fr 1,a_ fr 2,a_ fr 3,a_ fr 4,a_ fr 5,.ptr k6 0 0,.ptr k7 0 0,a_ fr 8,a_ fr 9,a_ fr 10,a_ fr 11,a_ fr 12,a_ fr 13,a_ fr 14,a_ fr 15,a_ fr 16,a_ fr 17,a_ fr 18,a_ fr 19,a_ fr 20,a_ fr 21,a_ fr 22,a_ fr 23,a_ fr 24],tmp⟩∧Has N S st (.box k7 (.mem 0 false (ax W.dn W.aD td))::.lst td 11 (aM.map az)::.box k6 (.mem 0 false (ax false lK .nul))::.lst rd 11 (W.rdy.map az)::.box kv (.mem 0 false [p.cd,p.sd,.int .i64 (pl:Nat),ld,.ptr ks 0 0])::.box ks (.mem 0 false [pd,qd])::.lst pd 1 (P.map fF)::.lst qd 2 (Q.map ni)::.lst ld 12 (L.map dp)::(L.map mF++H))∧(aM=(if W.dn=true then acc else jD acc ⟨start,bG⟩))∧(cy P Q sn)∧(sn.length=p.code.length)) ?_ ?_
  ·cases Kq:W.dn with
   |true=>
    rw[Kq] at hH;have hg3:(!true)=false:=rfl;refine zQ 22 ?_;exact⟨acc,td,pd,qd,P,Q,sn,_,rfl,hH,rfl,hok,fc⟩
   |false=>
    rw[Kq] at hH;have hg3:(!false)=true:=rfl;refine zQ 15 ?_;refine qr (fun UY Sy=>?_) (hg:=wi hg3);refine zQ 1 ?_;obtain⟨_,st,hev,rfl,pd,qd,P,Q,hH,hok⟩:=mL [_,_,_,_,_] hF Fe hok hH;dsimp only[u3,u4] at hH;refine qv hev ?_ (hg:=wi hg3);refine zQ 2 ?_
    by_cases Fm:gb acc start=true
    ·refine qE rfl (by rw[Fm];rfl) ?_;refine zQ 1 ?_;exact⟨acc,td,pd,qd,P,Q,sn.set start true,_,rfl,hH,by unfold jD;rw[if_neg (by decide),if_pos Fm],hok,by rw[List.length_set];exact fc⟩
    ·refine qD rfl (by rw[Bool.eq_false_iff.2 Fm];rfl) ?_;refine zQ 9 ?_;refine qr fun Rx Ni=>?_;refine qR ?_;refine qv (fQ _) ?_;refine EvO.go (d:=.agg (az ⟨start,bG⟩)) (st1:=_) rfl rfl rfl (put_T rfl _) ?_;refine qh (s:=11) (vs:=[_]) hH fun k91 st S5 hH=>?_;dsimp only[u2,u1,u3,u4,setMany,u5,u6,D.cells,Nat.reduceAdd,aq,az,ax,ai,dp] at hH;refine EvO.happend (s:=11) hH rfl (ev rfl) (ev rfl) (by exact at2) (by exact hH.rows (by exact at0)) rfl rfl rfl rfl rfl rfl rfl ⟨(Nat.le_of_ble_eq_true rfl),(Nat.le_of_ble_eq_true rfl)⟩ (fun _=>(put_T rfl _)) (by simp only[List.length_cons,List.length_nil,List.length_map]<;>omega) (by exact .inl hF) (fun Q3 st hH=>?_);dsimp only[u2,u1,u3,u4,setMany,u5,u6,D.cells,Nat.reduceAdd,aq,az,ax,ai,dp] at hH;refine zQ 1 ?_;refine qT hH at1 (fun st hH=>?_) (gQ:=hH.ocells at2);dsimp only[u2,u1,u3,u4,setMany,u5,u6,D.cells,Nat.reduceAdd,aq,az,ax,ai,dp] at hH;refine zQ 1 ?_;exact⟨acc++[⟨start,bG⟩],Q3,pd,qd,P,Q,sn.set start true,_,rfl,(by rw[List.map_append];exact hH.drop 1),by unfold jD;rw[if_neg (by decide),if_neg Fm],hok,by rw[List.length_set];exact fc⟩
  ·rintro fr st ⟨aM,td,pd,qd,P,Q,sn,tmp,hfr,hH,yh,hok,fc⟩;rw[hfr];clear hfr;generalize a_ fr=ee;clear fr;refine zQ 2 ?_;refine EvO.hloadS (m:=12) hH rfl (ev rfl) (by exact at0) (by dsimp only[List.drop_succ_cons,List.drop_zero,List.take_succ_cons,List.take_zero,aq,az,ax,ai,dp]<;>rfl) rfl rfl (put_T rfl _) ?_;refine qS hH at2 fun st hH=>?_;dsimp only[u2,u1,u3,u4,setMany,u5,u6,D.cells,Nat.reduceAdd,aq,az,ax,ai,dp] at hH;refine zQ 1 ?_;refine EvC.ret ⟨rx,_,_,_,hH.oI rfl at2 rfl,rfl,td,rfl,pd,qd,P,Q,sn,?_,hok,fc⟩;rw[←yh];exact((hH.drop 1).erase 1).erase 1
def ue (fr:Go.V.Fr) (k:Nat):Go.V.D:=Go.V.nth .junk fr.loc k
theorem Av {f:lb} {x:Nat} {v:Int} (hx:x<10):setMany (ai f) x [.int .i64 v]=ai (B4 f x v):=by
 match x,hx with
 |0,_=>rfl
 |1,_=>rfl
 |2,_=>rfl
 |3,_=>rfl
 |4,_=>rfl
 |5,_=>rfl
 |6,_=>rfl
 |7,_=>rfl
 |8,_=>rfl
 |9,_=>rfl
theorem Cf {N:Nat} {S s0:St} {H:List aP} {x:D} {l:List eQ} {t:eQ} (hF:S.flr≤N) (hl:l.length≤1000000) (hH:Has N S s0 (.lst x 11 (l.map az)::H)):
  ∃d ab,Ev pv 75 [x,.agg (az t)] s0 d ab∧Has N S ab (.lst d 11 ((jD l t).map az)::H):=by
 refine Ev.iI rfl OO rfl rfl rfl ?_;refine zE ?_;change EvC _ _ _ _ s0 _;refine zQ 2 ?_;refine qb hH fun k3 st BD hH=>?_;dsimp only[u2,u1,u3,u4,setMany,u5,u6,D.cells,Nat.reduceAdd,az] at hH;refine zQ 8 ?_;refine EvC.loop (fun mm fr st=>∃(i:Nat),fr.clean=⟨6,[x,ue fr 1,ue fr 2,.ptr k3 0 0,ue fr 4,.int .i64 (i:Nat)],[]⟩∧Has N S st (.box k3 (.mem 0 false (az t))::.lst x 11 (l.map az)::H)∧(i+mm=l.length)∧(gb (l.take i) t.pc=false)) (l.length) ?_ ?_
 ·exact⟨0,rfl,hH,by omega,rfl⟩
 rintro mm fr st ⟨i,hfr,hH,hi,jA⟩;rw[hfr];clear hfr;generalize ue fr=ee;clear fr;refine zQ 5 ?_;refine qn ?_ (hR:=hH.rows at1);simp only[List.length_map];refine zQ 2 ?_;refine zP (fun h1=>?_) fun h1=>?_
 ·refine zQ 1 ?_
  obtain⟨q,hq⟩:∃q,l[i]?=some q:=⟨l[i]'(by omega),List.getElem?_eq_getElem _⟩
  have hr1:=kq hq;have M0:l.take (i+1)=l.take i++[q]:=by rw[List.take_add_one,hq];rfl
  refine zQ 6 ?_;refine qi hH at1 fun P0 JV=>?_;refine EvO.da (fo:=0) (m:=0) (o2:=0) rfl (ev rfl) (by assumption) rfl rfl rfl (fun _=>(put_T rfl _)) (fun LP Fv=>?_);refine zQ 5 ?_
  by_cases he:q.pc=t.pc
  ·refine qD rfl (by rw[he];simp) ?_;refine zQ 5 ?_;refine EvC.ret ⟨rx,_,_,_,rfl,rfl,?_⟩
   have:jD l t=l:=by
    unfold jD;rw[if_pos];unfold gb;rw[List.any_eq_true];exact⟨q,List.mem_of_getElem? hq,by simp[he]⟩
   rw[this];exact hH.drop 1
  ·refine qE rfl (by simp;omega) ?_;refine zQ 6 ?_;exact⟨mm-1,by omega,⟨i+1,rfl,hH,by omega,by(rw[M0,qw,jA];simp[he])⟩⟩
 ·refine zQ 4 ?_;refine EvO.hloadS (m:=11) hH rfl (ev rfl) (by exact at0) (by dsimp only[List.drop_succ_cons,List.drop_zero,List.take_succ_cons,List.take_zero,az]<;>rfl) rfl rfl (put_T rfl _) ?_;refine qh (s:=11) (vs:=[_]) hH fun k23 st Kd hH=>?_;dsimp only[u2,u1,u3,u4,setMany,u5,u6,D.cells,Nat.reduceAdd,az] at hH;refine EvO.happend (s:=11) hH rfl (ev rfl) (ev rfl) (by exact at2) (by exact hH.rows (by exact at0)) rfl rfl rfl rfl rfl rfl rfl ⟨(Nat.le_of_ble_eq_true rfl),(Nat.le_of_ble_eq_true rfl)⟩ (fun _=>(put_T rfl _)) (by simp only[List.length_cons,List.length_nil,List.length_map]<;>omega) (by exact .inl hF) (fun PD st hH=>?_);dsimp only[u2,u1,u3,u4,setMany,u5,u6,D.cells,Nat.reduceAdd,az] at hH;refine zQ 2 ?_;refine EvC.ret ⟨rx,_,_,_,rfl,rfl,?_⟩;have hil:i=l.length:=by omega
  rw[hil,List.take_length] at jA;have:jD l t=l++[t]:=by unfold jD;rw[if_neg (by rw[jA];decide)]
  rw[this,List.map_append];exact hH.drop 2
def QY (N:Nat) (S st:St) (ka kl:Nat) (p:Pg) (sd:D) (pl:Nat) (e:Bool) (w:Wk) (H:List aP):Prop:=
 ∃od,Has N S st (.box ka (.mem 0 false [p.cd,p.sd,.ptr kl 0 0,sd,.int .i64 (pl:Nat),.bool e,od])::.box kl (.mem 0 false (ax w.dn w.aD .nul))::.lst sd 1 (w.seen.map aI)::.lst od 11 (w.rdy.map az)::H)
theorem vl {N ka kl:Nat} {S:St} {p:Pg} {sd:D} {pl:Nat} {e:Bool} (hF:S.flr≤N) (hp:p.ok) (hR:aX p) (hpl:pl≤4000000000000):∀(f:Nat) (w:Wk) (t:eQ) (s0:St) (H:List aP),t.pc<p.code.length→w.seen.length=p.code.length→w.seen.count false<f→w.rdy.length+w.seen.count false≤1048576→QY N S s0 ka kl p sd pl e w H→
  ∃r ab,Ev pv 108 [.ptr ka 0 0,.int .i64 (t.pc:Nat),.agg (ai t.c)] s0 r ab∧r=.bool (bm p.code pl e f w t).2∧QY N S ab ka kl p sd pl e (bm p.code pl e f w t).1 H
 |0,_,_,_,_,_,_,h,_,_=>absurd h (Nat.not_lt_zero _)
 |f+1,w,t,s0,H,wv,gi,du,n_,hT=>by
  have ih:=vl (ka:=ka) (kl:=kl) (S:=S) (sd:=sd) (e:=e) hF hp hR hpl f;obtain⟨od,hH⟩:=hT;have hc:=hp.c.arg N S;have hlen:=hp.cl
  obtain⟨i,hi⟩:∃i,p.code[t.pc]?=some i:=⟨p.code[t.pc]'wv,List.getElem?_eq_getElem _⟩
  obtain⟨b,hb⟩:∃b,w.seen[t.pc]?=some b:=⟨w.seen[t.pc]'(by omega),List.getElem?_eq_getElem _⟩
  have hr:=de hi;have iy:=fU hb;have uo:=(hp.i i (List.mem_of_getElem? hi)).1;have lD:=iZ (hR.sh t.pc i hi);have FB:=sa hb;have dC:bm p.code pl e (f+1) w t=bm p.code pl e (f+1) w t:=rfl
  conv at dC=>rhs;unfold bm
  rw[FB] at dC;simp only[hi] at dC;generalize bm p.code pl e (f+1) w t=R at*;obtain⟨op,x,y,PN,rs⟩:=i;obtain⟨pc,c⟩:=t;simp only at*;refine Ev.iI rfl Ln rfl rfl rfl ?_;refine zE ?_;change EvC _ _ _ _ s0 _;refine zQ 2 ?_;refine qb hH fun k5 st zO hH=>?_;dsimp only[u2,u1,u3,u4,setMany,u5,u6,D.cells,Nat.reduceAdd,aq,az,ax,ai,aI] at hH;refine zQ 10 ?_;refine qi hH at3 fun P3 JW=>?_;refine zQ 2 ?_
  cases b with
  |true=>
   rw[if_pos rfl] at dC;subst dC;refine zQ 5 ?_;refine EvC.ret ⟨rx,_,_,_,rfl,rfl,?_⟩;exact⟨rfl,od,hH.drop 1⟩
  |false=>
   rw[if_neg (by decide)] at dC;have uz:=count_set hb;have nr:(w.seen.set pc true).length=p.code.length:=by rw[List.length_set];exact gi
   have wJ:(w.seen.set pc true).count false<f:=by omega
   have wm:w.rdy.length+(w.seen.set pc true).count false≤1048576:=by omega
   have ew:(w.seen.map aI).set pc [.bool true]=(w.seen.set pc true).map aI:=by rw[List.map_set];rfl
   refine zQ 9 ?_;refine qi hH at3 fun F_ wy=>?_;refine EvO.eW hH rfl (ev rfl) (ev rfl) (by assumption) rfl rfl (by exact at3) (by assumption) (Nat.le_of_ble_eq_true rfl) (by exact .inl hF) (fun st hH=>?_);dsimp only[u2,u1,u3,u4,setMany,u5,u6,D.cells,Nat.reduceAdd,aq,az,ax,ai,aI] at hH;refine zQ 1 ?_;rw[ew] at hH;generalize w.seen.set pc true=sn at*;clear hb FB uz gi du n_ ew iy;refine zQ 8 ?_;refine qr fun p27 hp27=>?_;refine EvO.bF rfl (ev rfl) (by assumption) rfl (by dsimp only[Fr.put,u1,u2]<;>rfl) ?_;refine qa hH fun k7 st IL hH=>?_;refine qS hH at0 fun st hH=>?_;dsimp only[u2,u1,u3,u4,setMany,u5,u6,D.cells,Nat.reduceAdd,aq,az,ax,ai,aI] at hH;refine zQ 13 ?_;refine zI (fun h7=>?_) fun h7=>?_
   ·rw[if_pos h7] at dC;subst dC;refine zQ 8 ?_;refine qT hH at3 fun st hH=>?_;dsimp only[u2,u1,u3,u4,setMany,u5,u6,D.cells,Nat.reduceAdd,aq,az,ax,ai,aI] at hH;refine zQ 7 ?_;refine EvO.hloadS (m:=10) hH rfl (ev rfl) (by exact at1) (by dsimp only[List.drop_succ_cons,List.drop_zero,List.take_succ_cons,List.take_zero,aq,az,ax,ai,aI]<;>rfl) rfl rfl (put_T rfl _) ?_;refine zQ 2 ?_;refine qT hH at3 fun st hH=>?_;dsimp only[u2,u1,u3,u4,setMany,u5,u6,D.cells,Nat.reduceAdd,aq,az,ax,ai,aI] at hH;refine zQ 5 ?_;refine EvC.ret ⟨rx,_,_,_,rfl,rfl,?_⟩;exact⟨rfl,od,hH.drop 2⟩
   ·rw[if_neg h7] at dC;refine zQ 5 ?_;refine zI (fun h2=>?_) fun h2=>?_
    ·rw[if_pos h2] at dC;obtain⟨_,⟨hx0,hx1⟩,hy0,hy1⟩:=(lD.resolve_left h7).resolve_right (by omega);obtain⟨xn,rfl⟩:=Int.eq_ofNat_of_zero_le hx0;obtain⟨yn,rfl⟩:=Int.eq_ofNat_of_zero_le hy0;have hgo:=bT p.code pl e f ⟨sn,w.dn,w.aD,w.rdy⟩ ⟨xn,c⟩;have wL:=Has.iD [_,_] [_,_,_,_] hH;obtain⟨_,st1,hev,rfl,hT⟩:=ih ⟨sn,w.dn,w.aD,w.rdy⟩ ⟨xn,c⟩ _ _ (by show xn<_;omega) nr wJ wm ⟨od,wL⟩;clear wL;have dC:R=if(bm p.code pl e f ⟨sn,w.dn,w.aD,w.rdy⟩ ⟨xn,c⟩).2=true then bm p.code pl e f ⟨sn,w.dn,w.aD,w.rdy⟩ ⟨xn,c⟩ else bm p.code pl e f (bm p.code pl e f ⟨sn,w.dn,w.aD,w.rdy⟩ ⟨xn,c⟩).1 ⟨yn,c⟩:=dC;generalize bm p.code pl e f ⟨sn,w.dn,w.aD,w.rdy⟩ ⟨xn,c⟩=R1 at*;obtain⟨w1,b1⟩:=R1;obtain⟨fu,bL,hg3,hg4⟩:=hgo;simp only at fu bL hg3 hg4 hev hT dC;obtain⟨IC,wL⟩:=hT;have wL:=Has.iD [_,_,_,_] [_,_] wL;dsimp only[u3,u4] at wL
     cases b1 with
     |true=>
      rw[if_pos rfl] at dC;subst dC;have cI:true=true:=rfl;refine zQ 5 ?_;refine EvO.hloadS (m:=10) hH rfl (ev rfl) (by exact at1) (by dsimp only[List.drop_succ_cons,List.drop_zero,List.take_succ_cons,List.take_zero,aq,az,ax,ai,aI]<;>rfl) rfl rfl (put_T rfl _) ?_;refine qv hev ?_;refine zQ 9 ?_;refine EvC.ret ⟨rx,_,_,_,rfl,rfl,?_⟩;exact⟨rfl,IC,wL.drop 2⟩
     |false=>
      rw[if_neg (by decide)] at dC;have cI:false=false:=rfl;refine zQ 5 ?_;refine EvO.hloadS (m:=10) hH rfl (ev rfl) (by exact at1) (by dsimp only[List.drop_succ_cons,List.drop_zero,List.take_succ_cons,List.take_zero,aq,az,ax,ai,aI]<;>rfl) rfl rfl (put_T rfl _) ?_;have hH:=wL;refine qv hev ?_;refine zQ 4 ?_;refine EvO.hloadS (m:=10) hH (wantD_is rfl rfl rfl cI) (ev rfl) (by exact at1) (by dsimp only[List.drop_succ_cons,List.drop_zero,List.take_succ_cons,List.take_zero,aq,az,ax,ai,aI]<;>rfl) rfl rfl (put_T rfl _) ?_;obtain⟨_,st,hev,rfl,hT⟩:=ih w1 ⟨yn,c⟩ _ _ (by show yn<_;omega) (by omega) (by omega) (by omega) ⟨IC,hH.drop 2⟩;refine qv hev ?_ (hg:=wi cI);refine zQ 3 ?_;refine EvC.ret ⟨rx,_,_,_,rfl,rfl,?_⟩;rw[dC];exact⟨rfl,hT⟩
    ·rw[if_neg h2] at dC;refine zQ 5 ?_;refine zI (fun h3=>?_) fun h3=>?_
     ·rw[if_neg (by omega),if_pos h3] at dC;obtain⟨_,hx0,hx1⟩:=((lD.resolve_left h7).resolve_left (by omega)).resolve_right (by omega);obtain⟨xn,rfl⟩:=Int.eq_ofNat_of_zero_le hx0;refine zQ 5 ?_;refine EvO.hloadS (m:=10) hH rfl (ev rfl) (by exact at1) (by dsimp only[List.drop_succ_cons,List.drop_zero,List.take_succ_cons,List.take_zero,aq,az,ax,ai,aI]<;>rfl) rfl rfl (put_T rfl _) ?_;obtain⟨_,st,hev,rfl,hT⟩:=ih ⟨sn,w.dn,w.aD,w.rdy⟩ ⟨xn,c⟩ _ _ (by show xn<_;omega) nr wJ wm ⟨od,hH.drop 2⟩;refine qv hev ?_;refine zQ 2 ?_;refine EvC.ret ⟨rx,_,_,_,rfl,rfl,?_⟩;rw[dC];exact⟨rfl,hT⟩
     ·refine zQ 5 ?_;refine zI (fun h4=>?_) fun h4=>?_
      ·rw[if_neg (by omega),if_neg h3,if_pos h4] at dC;obtain⟨_,pV,hx0,hx1⟩:=(((lD.resolve_left h7).resolve_left (by omega)).resolve_left (by omega)).resolve_right (by omega);obtain⟨xn,rfl⟩:=Int.eq_ofNat_of_zero_le hx0;refine zQ 8 ?_;refine EvO.FH (m:=10) (s:=1) (i:=xn) (o:=xn) rfl (ev rfl) (ev rfl) rfl rfl (by omega) (by omega) (put_T rfl _) ?_;refine EvO.lA hH rfl (ev rfl) (ev rfl) rfl (by exact rfl) at1 (by show xn+1≤10;omega) (.inl hF) (fun st hH=>?_);change Has _ _ _ (_::.box k5 (.mem 0 false (setMany (ai c) xn [.int .i64 (pl:Nat)]))::_) at hH;rw[Av (by omega)] at hH;refine zQ 1 ?_;dsimp only[ai] at hH;refine zQ 5 ?_;refine EvO.hloadS (m:=10) hH rfl (ev rfl) (by exact at1) (by dsimp only[List.drop_succ_cons,List.drop_zero,List.take_succ_cons,List.take_zero,aq,az,ax,ai,aI]<;>rfl) rfl rfl (put_T rfl _) ?_;obtain⟨_,st,hev,rfl,hT⟩:=ih ⟨sn,w.dn,w.aD,w.rdy⟩ ⟨pc+1,B4 c xn (pl:Nat)⟩ _ _ pV nr wJ wm ⟨od,hH.drop 2⟩;refine qv hev ?_;refine zQ 2 ?_;refine EvC.ret ⟨rx,_,_,_,rfl,rfl,?_⟩;rw[dC];exact⟨rfl,hT⟩
      ·refine zQ 5 ?_;refine zI (fun h5=>?_) fun h5=>?_
       ·rw[if_neg (by omega),if_neg h3,if_neg h4,if_pos h5] at dC;have pV:pc+1<p.code.length:=by omega
        by_cases ha:pl=0
        ·rw[if_pos ha] at dC;subst ha;have cI:(((0:Nat):Int)==0)=true:=rfl;refine zQ 11 ?_;refine EvO.hloadS (m:=10) hH (wantD_is rfl rfl rfl cI) (ev rfl) (by exact at1) (by dsimp only[List.drop_succ_cons,List.drop_zero,List.take_succ_cons,List.take_zero,aq,az,ax,ai,aI]<;>rfl) rfl rfl (put_T rfl _) ?_;obtain⟨_,st,hev,rfl,hT⟩:=ih ⟨sn,w.dn,w.aD,w.rdy⟩ ⟨pc+1,c⟩ _ _ pV nr wJ wm ⟨od,hH.drop 2⟩;refine qv hev ?_ (hg:=wi cI);refine zQ 3 ?_;refine EvC.ret ⟨rx,_,_,_,rfl,rfl,?_⟩;rw[dC];exact⟨rfl,hT⟩
        ·rw[if_neg ha] at dC;subst dC;have cI:(((pl:Nat):Int)==0)=false:=by rw[beq_eq_false_iff_ne];omega
         refine zQ 16 ?_;refine EvC.ret ⟨rx,_,_,_,rfl,rfl,?_⟩;exact⟨rfl,od,hH.drop 2⟩
       ·refine zQ 5 ?_;refine zI (fun h6=>?_) fun h6=>?_
        ·rw[if_neg (by omega),if_neg h3,if_neg h4,if_neg h5] at dC;have pV:pc+1<p.code.length:=by omega
         cases e with
         |true=>
          rw[if_pos rfl] at dC;have hg4:true=true:=rfl;refine zQ 10 ?_;refine EvO.hloadS (m:=10) hH (wantD_is rfl rfl rfl hg4) (ev rfl) (by exact at1) (by dsimp only[List.drop_succ_cons,List.drop_zero,List.take_succ_cons,List.take_zero,aq,az,ax,ai,aI]<;>rfl) rfl rfl (put_T rfl _) ?_;obtain⟨_,st,hev,rfl,hT⟩:=ih ⟨sn,w.dn,w.aD,w.rdy⟩ ⟨pc+1,c⟩ _ _ pV nr wJ wm ⟨od,hH.drop 2⟩;refine qv hev ?_ (hg:=wi hg4);refine zQ 3 ?_;refine EvC.ret ⟨rx,_,_,_,rfl,rfl,?_⟩;rw[dC];exact⟨rfl,hT⟩
         |false=>
          rw[if_neg (by decide)] at dC;subst dC;have hg4:false=false:=rfl;refine zQ 15 ?_;refine EvC.ret ⟨rx,_,_,_,rfl,rfl,?_⟩;exact⟨rfl,od,hH.drop 2⟩
        ·have h1:op=1:=by omega
         rw[if_pos h1] at dC;subst dC;refine zQ 5 ?_;refine qD rfl (by simp[h1]) ?_;refine zQ 7 ?_;refine EvO.hloadS (m:=10) hH rfl (ev rfl) (by exact at1) (by dsimp only[List.drop_succ_cons,List.drop_zero,List.take_succ_cons,List.take_zero,aq,az,ax,ai,aI]<;>rfl) rfl rfl (put_T rfl _) ?_;refine EvO.go (d:=.agg (az ⟨pc,c⟩)) (st1:=_) rfl rfl rfl (put_T rfl _) ?_;refine qh (s:=11) (vs:=[_]) hH fun k118 st Qx hH=>?_;dsimp only[u2,u1,u3,u4,setMany,u5,u6,D.cells,Nat.reduceAdd,aq,az,ax,ai,aI] at hH;refine EvO.happend (s:=11) hH rfl (ev rfl) (ev rfl) (by exact at6) (by exact hH.rows (by exact at0)) rfl rfl rfl rfl rfl rfl rfl ⟨(Nat.le_of_ble_eq_true rfl),(Nat.le_of_ble_eq_true rfl)⟩ (fun _=>(put_T rfl _)) (by simp only[List.length_cons,List.length_nil,List.length_map]<;>omega) (by exact .inl hF) (fun Mg st hH=>?_);dsimp only[u2,u1,u3,u4,setMany,u5,u6,D.cells,Nat.reduceAdd,aq,az,ax,ai,aI] at hH;refine zQ 2 ?_;refine qT hH at3 (fun st hH=>?_) (gQ:=hH.ocells at6);dsimp only[u2,u1,u3,u4,setMany,u5,u6,D.cells,Nat.reduceAdd,aq,az,ax,ai,aI] at hH;refine zQ 5 ?_;refine EvC.ret ⟨rx,_,_,_,rfl,rfl,?_⟩;refine⟨rfl,Mg,?_⟩;rw[List.map_append];exact hH.drop 3
def db (fr:Go.V.Fr) (k:Nat):Go.V.D:=Go.V.nth .junk fr.loc k
def VL.pl (l:VL):PL:=⟨l.dn,l.aD,l.aM⟩
def bw (p:Pg):List Nat:=p.af.map Int.toNat
def cC (code:List aC) (pl:Nat) (r:Int):List Nat→List PL→List PL
 |s::ss,l::ls=>eV code pl s r l::cC code pl r ss ls
 |_,_=>[]
def dg (n:Int):Nat:=(min (max n 0) 4).toNat
theorem nD (n:Int):dg n≤4:=by unfold dg;omega
theorem iX (code:List aC) (pl:Nat) (r:Int):∀(ss:List Nat) (ls:List PL),ss.length=ls.length→(cC code pl r ss ls).length=ls.length
 |[],[],_=>rfl
 |s::ss,l::ls,h=>by simp only[cC,List.length_cons];rw[iX code pl r ss ls (by simpa using h)]
theorem lg (code:List aC) (pl:Nat) (r:Int):∀(ss:List Nat) (ls:List PL) (i:Nat) (s:Nat) (l:PL),ss[i]?=some s→ls[i]?=some l→(cC code pl r ss ls)[i]?=some (eV code pl s r l)
 |[],_,_,_,_,h,_=>by simp at h
 |_::_,[],_,_,_,_,h=>by simp at h
 |s::ss,l::ls,0,_,_,h1,h2=>by simp only[List.getElem?_cons_zero,Option.some.injEq] at h1 h2;subst h1;subst h2;rfl
 |s::ss,l::ls,i+1,_,_,h1,h2=>by simp only[List.getElem?_cons_succ] at h1 h2;simp only[cC,List.getElem?_cons_succ];exact lg code pl r ss ls i _ _ h1 h2
theorem MH.mono {A:List aP} {N:Nat} {S st:St} {ks kv:Nat} {p:Pg} {pl:Nat} {ld:D} {L:List VL} {H:List aP} (n:Nat) (h:MH A N S st ks kv p pl ld L H):MH (A.drop n) N S st ks kv p pl ld L H:=by
 obtain⟨pd,qd,P,Q,sn,hH,hok,fc⟩:=h;refine⟨pd,qd,P,Q,sn,?_,hok,fc⟩
 rcases Nat.le_total n A.length with hn|hn
 ·have:=hH.drop n
  rwa [List.drop_append_of_le_length hn] at this
 ·have:=hH.drop A.length;rw[List.drop_append_of_le_length (Nat.le_refl _),List.drop_length] at this;rw[List.drop_eq_nil_of_le hn];exact this
theorem Em (L:List VL) (i:Nat) (l:VL):(L.set i l).map mF=(L.map mF).set i (mF l):=List.map_set ..
theorem MH.Ez {N:Nat} {S st:St} {ks kv:Nat} {p:Pg} {pl:Nat} {ld:D} {L:List VL} {H:List aP} {i:Nat} {l:VL} {pd qd:D} {P Q:List Nat} (hi:i<L.length)
  (h:Has N S st (.lst l.td 11 (l.aM.map az)::.box kv (.mem 0 false [p.cd,p.sd,.int .i64 (pl:Nat),ld,.ptr ks 0 0])::.box ks (.mem 0 false [pd,qd])::.lst pd 1 (P.map fF)::.lst qd 2 (Q.map ni)::.lst ld 12 ((L.map dp).set i (dp l))::(L.map mF++H))):
  Has N S st (.box kv (.mem 0 false [p.cd,p.sd,.int .i64 (pl:Nat),ld,.ptr ks 0 0])::.box ks (.mem 0 false [pd,qd])::.lst pd 1 (P.map fF)::.lst qd 2 (Q.map ni)::.lst ld 12 ((L.set i l).map dp)::((L.set i l).map mF++H)):=by
 have h1:=h.dL (j:=5+i) (by simp;omega);rw[List.map_set,Em]
 have h2:∀(a b c d e:aP),(a::b::c::d::e::(L.map mF++H)).set (5+i) (.lst l.td 11 (l.aM.map az))=a::b::c::d::e::((L.map mF).set i (mF l)++H):=by
  intro a b c d e;rw[Nat.add_comm 5 i];simp only[List.set_cons_succ];rw[List.set_append_left _ _ (by simpa using hi)];rfl
 rw[h2] at h1;exact h1
theorem F3 (fQ:∀st,Ev pv 63 [] st (.agg (ai bG)) st) {N ks kv:Nat} {S s0:St} {H:List aP} {p:Pg} {pl:Nat} {ld:D} {L:List VL} {r n:Int} (hF:S.flr≤N) (hp:p.ok) (hR:aX p) (hpl:pl≤3000000000000) (hLl:L.length=p.af.length) (hok:∀l∈L,l.pl.ok p.code.length) (hM:MH [] N S s0 ks kv p pl ld L H):
  ∃d ab,Ev pv 20 [.ptr kv 0 0,.int .i32 r,.int .i64 n] s0 d ab∧d=.tup []∧∃L',L'.map VL.pl=cC p.code pl r (bw p) (L.map VL.pl)∧MH [] N S ab ks kv p (pl+dg n) ld L' H:=by
 have JI:=hR.sl;refine Ev.iI rfl Pc rfl rfl rfl ?_;refine zE ?_;change EvC _ _ _ _ s0 _;obtain⟨pd,qd,P,Q,sn,hH,kQ,fc⟩:=hM;dsimp only[u4] at hH;refine qq<|qq<|qj fun K hK=>qm ?_;refine qg ?_;refine qp (o:=3) ?_;refine ql hH at0 ?_;refine qn ?_ (hR:=hH.rows at4);simp only[List.length_map];refine qm ?_;refine qe hK<|EvC.block<|EvC.loop (fun mm fr st=>∃(i:Nat) (L2:List VL) (pd qd:D) (P Q:List Nat) (sn:List Bool),fr.clean=⟨13,[.ptr kv 0 0,.int .i32 r,.int .i64 n,db fr 3,db fr 4,db fr 5,db fr 6,db fr 7,db fr 8,db fr 9,db fr 10,.int .i64 (L.length:Nat),.int .i64 (i:Nat)],[]⟩∧Has N S st (.box kv (.mem 0 false [p.cd,p.sd,.int .i64 (pl:Nat),ld,.ptr ks 0 0])::.box ks (.mem 0 false [pd,qd])::.lst pd 1 (P.map fF)::.lst qd 2 (Q.map ni)::.lst ld 12 (L2.map dp)::(L2.map mF++H))∧(i+mm=L.length)∧(L2.length=L.length)∧(∀j l s,j<i→L[j]?=some l→p.af[j]?=some s→(L2.map VL.pl)[j]?=some (eV p.code pl s.toNat r l.pl))∧(∀j,i≤j→L2[j]?=L[j]?)∧(cy P Q sn)∧(sn.length=p.code.length)) (L.length) ?_ ?_
 ·exact⟨0,L,_,_,_,_,_,rfl,hH,by omega,rfl,(by intro j l s h;omega),(fun j _=>rfl),kQ,fc⟩
 rintro mm fr st ⟨i,L2,pd,qd,P,Q,sn,hfr,hH,hi,hll,QD,Qe,kQ,fc⟩;rw[hfr];clear hfr;generalize db fr=ee;clear fr;refine qq<|qj fun K hK=>qg ?_;refine qe hK<|qq<|zP (fun hlt=>?_) fun hlt=>?_
 ·refine EvC.skip ?_;have hil:i<L.length:=by omega
  obtain⟨l,hl⟩:∃l,L[i]?=some l:=⟨L[i]'hil,List.getElem?_eq_getElem _⟩
  have pX:L2[i]?=some l:=by rw[Qe i (Nat.le_refl _)];exact hl
  obtain⟨s,hs⟩:∃s,p.af[i]?=some s:=⟨p.af[i]'(by omega),List.getElem?_eq_getElem _⟩
  obtain⟨iP,IE⟩:=hR.st s (List.mem_of_getElem? hs);obtain⟨Ix,rfl⟩:=Int.eq_ofNat_of_zero_le iP;have hr1:=oW pX;refine qq<|EvC.block<|qq<|qj fun K hK=>qm ?_;refine qm ?_;refine qe hK ?_;have bY:=hH;have A8:=jk hH at4;have Fj:=hH.pJ at1 (k:=ks) rfl;have Hm:=hp.c.ref;have CW:=hp.s.ref;have Gh:refs [p.cd,p.sd,.int .i64 (pl:Nat),ld,.ptr ks 0 0]≤st.bs.length:=by simp only[refs,D.ref,Hm,CW];omega
  change EvC _ _ _ _ _ _;generalize hK:SeqQ _ _ _ _=K;refine EvC.lT rfl ?_;refine ba.cons ?_;refine qm ?_;refine EvO.nil ⟨rfl,?_⟩;refine ba.cons ?_;refine qg ?_;refine EvO.nil ⟨rfl,?_⟩;refine ba.cons ?_;refine qp (o:=3) ?_;refine EvO.nil ⟨rfl,?_⟩;refine ba.cons ?_;refine ql hH at0 ?_;refine EvO.nil ⟨rfl,?_⟩;refine ba.cons ?_;refine qm ?_;refine EvO.nil ⟨rfl,?_⟩;refine ba.cons ?_;refine qm ?_;refine EvO.nil ⟨rfl,?_⟩;refine ba.cons ?_;refine qm ?_;refine EvO.nil ⟨rfl,?_⟩;refine ba.cons ?_;refine qm ?_;refine EvO.nil ⟨rfl,?_⟩;refine ba.cons ?_;obtain⟨_,st,hev,td,rfl,hM⟩:=BT fQ hF hp hR (by omega) pX hs (hok l (List.mem_of_getElem? hl)) ⟨pd,qd,P,Q,sn,hH,kQ,fc⟩;obtain⟨pd,qd,P,Q,sn,hH,kQ,fc⟩:=hM;dsimp only[u3,u4] at hH;refine qv hev ?_;refine EvO.nil ⟨by exact Bool.and_eq_true_iff.2 ⟨dQ rfl rfl rfl (bY.at at0) (hH.at at1) (bY.at at0) Gh,rfl⟩,?_⟩;refine ba.cons ?_;refine qi hH at5 fun F9 wx=>?_;refine EvO.nil ⟨rfl,?_⟩;refine ba.cons ?_;refine EvO.eW hH rfl (ev rfl) (ev rfl) (by assumption) rfl rfl (by exact at5) (by assumption) (Nat.le_of_ble_eq_true rfl) (by exact .inl hF) (fun st hH=>?_);dsimp only[u2,u1,u3,u4,setMany,u5,u6,D.cells,Nat.reduceAdd,aq,az,ax,ai,dp] at hH;refine EvO.nil ⟨rfl,?_⟩;refine ba.nil ?_;subst hK;have hH:=MH.Ez (l:=⟨(eV p.code pl Ix r l.pl).dn,(eV p.code pl Ix r l.pl).aD,td,(eV p.code pl Ix r l.pl).aM⟩) (by omega) hH;refine qj fun K hK=>qA ?_;refine qm ?_;refine qe hK ?_;refine⟨mm-1,by omega,⟨i+1,L2.set i ⟨(eV p.code pl Ix r l.pl).dn,(eV p.code pl Ix r l.pl).aD,td,(eV p.code pl Ix r l.pl).aM⟩,pd,qd,P,Q,sn,rfl,hH,by omega,by rw[List.length_set];exact hll,?_,(fun j hj=>by rw[List.getElem?_set_ne (by omega)];exact Qe j (by omega)),kQ,fc⟩⟩;intro j l' s' hj hl' kH;rw[List.map_set]
  by_cases hji:j=i
  ·subst hji;rw[hl] at hl';rw[hs] at kH;cases hl';cases kH;rw[List.getElem?_set_self (by rw[List.length_map];omega)];rfl
  ·rw[List.getElem?_set_ne (fun e=>hji e.symm)];exact QD j l' s' (by omega) hl' kH
 ·refine EvC.exit ?_;have hil:i=L.length:=by omega
  have QH:=nD n;have Og:((pl:Nat):Int)+min (max n 0) 4=((pl+dg n:Nat):Int):=by unfold dg;omega
  refine qj fun K hK=>qm ?_;refine qg ?_;refine qp (o:=2) ?_;refine ql hH at0 ?_;refine qm ?_;refine EvO.EV (t1:=0) (t2:=0) rfl (ev rfl) (ev rfl) (put_T rfl _) ?_;refine EvO.EU (t1:=0) (t2:=0) rfl (ev rfl) (ev rfl) (put_T rfl _) ?_;refine EvO.ke (z:=((pl+dg n:Nat):Int)) rfl (ev rfl) (ev rfl) (by rw[Og];exact dD (by simp only[kP];omega)) (put_T rfl _) ?_;refine qg ?_;refine qp (o:=2) ?_;refine qT hH at0 fun st hH=>?_;dsimp only[u2,u1,u3,u4,setMany,u5,u6,D.cells,Nat.reduceAdd,aq,az,ax,ai,dp] at hH;refine qe hK ?_;refine⟨fun i h=>(by cases h),_,_,_,rfl,rfl,?_⟩;refine⟨rfl,L2,?_,pd,qd,P,Q,sn,hH,kQ,fc⟩;refine List.ext_getElem? fun j=>?_
  by_cases hj:j<L.length
  ·obtain⟨l,hl⟩:∃l,L[j]?=some l:=⟨L[j]'hj,List.getElem?_eq_getElem _⟩
   obtain⟨s,hs⟩:∃s,p.af[j]?=some s:=⟨p.af[j]'(by omega),List.getElem?_eq_getElem _⟩
   rw[QD j l s (by omega) hl hs,lg (s:=s.toNat) (l:=l.pl)]
   ·unfold bw;rw[List.getElem?_map,hs];rfl
   ·rw[List.getElem?_map,hl];rfl
  ·rw[List.getElem?_eq_none (by simp;omega),List.getElem?_eq_none];rw[iX]
   ·simp;omega
   ·unfold bw;simp;omega
def gU (code:List aC) (pl:Nat) (l:PL):PL:=⟨(jJ code pl true l.aM (iz code.length l.dn l.aD)).dn,(jJ code pl true l.aM (iz code.length l.dn l.aD)).aD,[]⟩
def ju (l:PL):List D:=ax l.dn l.aD .nul
theorem F4 {N ks kv:Nat} {S s0:St} {H:List aP} {p:Pg} {pl:Nat} {ld:D} {L:List VL} (hF:S.flr≤N) (hp:p.ok) (hR:aX p) (hpl:pl≤4000000000000) (hLl:L.length=p.af.length) (hok:∀l∈L,l.pl.ok p.code.length) (hM:MH [] N S s0 ks kv p pl ld L H):
  ∃d ab,Ev pv 23 [.ptr kv 0 0] s0 d ab∧MH [.lst d 12 ((L.map fun l=>gU p.code pl l.pl).map ju)] N S ab ks kv p pl ld L H:=by
 have JI:=hR.sl;refine Ev.iI rfl Pa rfl rfl rfl ?_;refine zE ?_;change EvC _ _ _ _ s0 _;obtain⟨pd,qd,P,Q,sn,hH,kQ,fc⟩:=hM;dsimp only[u4] at hH;refine zQ 15 ?_;refine qn ?_ (hR:=hH.rows at4);simp only[List.length_map];refine zQ 3 ?_;refine EvC.loop (fun mm fr st=>∃(i:Nat) (od pd qd:D) (P Q:List Nat) (sn:List Bool),fr.clean=⟨13,[.ptr kv 0 0,db fr 1,db fr 2,od,db fr 4,db fr 5,db fr 6,db fr 7,db fr 8,db fr 9,db fr 10,.int .i64 (L.length:Nat),.int .i64 (i:Nat)],[]⟩∧Has N S st (.lst od 12 (((L.map fun l=>gU p.code pl l.pl).take i).map ju)::.box kv (.mem 0 false [p.cd,p.sd,.int .i64 (pl:Nat),ld,.ptr ks 0 0])::.box ks (.mem 0 false [pd,qd])::.lst pd 1 (P.map fF)::.lst qd 2 (Q.map ni)::.lst ld 12 (L.map dp)::(L.map mF++H))∧(i+mm=L.length)∧(cy P Q sn)∧(sn.length=p.code.length)) (L.length) ?_ ?_
 ·exact⟨0,.nul,_,_,_,_,_,rfl,(hH.nulE 12),by omega,kQ,fc⟩
 rintro mm fr st ⟨i,od,pd,qd,P,Q,sn,hfr,hH,hi,kQ,fc⟩;rw[hfr];clear hfr;generalize db fr=ee;clear fr;refine zQ 5 ?_;refine zP (fun hlt=>?_) fun hlt=>?_
 ·refine zQ 1 ?_;have hil:i<L.length:=by omega
  obtain⟨l,hl⟩:∃l,L[i]?=some l:=⟨L[i]'hil,List.getElem?_eq_getElem _⟩
  obtain⟨wA,sU⟩:=hok l (List.mem_of_getElem? hl);simp only[VL.pl] at wA sU;have hge:(L.map fun l=>gU p.code pl l.pl)[i]?=some (gU p.code pl l.pl):=by rw[List.getElem?_map,hl];rfl
  have n_:(((L.map fun l=>gU p.code pl l.pl).take i).map ju).length=i:=by simp;omega
  refine zQ 7 ?_;obtain⟨_,st1,hev,rd,rfl,hM⟩:=s9 (e:=true) hF hp hR hpl hl wA (by omega) (MH.push [_] [] ⟨pd,qd,P,Q,sn,hH,kQ,fc⟩);clear kQ fc;have hM:=MH.pull [_] [] (MH.mono 1 hM);obtain⟨pd,qd,P,Q,sn,H6,kQ,fc⟩:=hM;dsimp only[u3,u4] at H6;generalize hB:((L.map fun l=>gU p.code pl l.pl).take i).map ju=B at*;refine zQ 4 ?_;have hH:=H6;refine qv hev ?_;refine zQ 3 ?_;refine qa hH fun k5 st zO hH=>?_;refine qS hH at0 fun st hH=>?_;dsimp only[u2,u1,u3,u4,setMany,u5,u6,D.cells,Nat.reduceAdd,aq,az,ax,ai,dp,ju] at hH;refine zQ 2 ?_;clear H6;refine zQ 2 ?_;refine EvO.hloadS (m:=12) hH rfl (ev rfl) (by exact at0) (by dsimp only[List.drop_succ_cons,List.drop_zero,List.take_succ_cons,List.take_zero,aq,az,ax,ai,dp,ju]<;>rfl) rfl rfl (put_T rfl _) ?_;refine qh (s:=12) (vs:=[_]) hH fun k23 st Kd hH=>?_;refine EvO.happend (s:=12) hH rfl (ev rfl) (ev rfl) (by exact at2) (by exact hH.rows (by exact at0)) rfl rfl rfl rfl rfl rfl rfl ⟨(Nat.le_of_ble_eq_true rfl),(Nat.le_of_ble_eq_true rfl)⟩ (fun _=>(put_T rfl _)) (by simp only[List.length_cons,List.length_nil,List.length_map]<;>omega) (by exact .inl hF) (fun PD st hH=>?_);dsimp only[u2,u1,u3,u4,setMany,u5,u6,D.cells,Nat.reduceAdd,aq,az,ax,ai,dp,ju] at hH;refine zQ 6 ?_;exact⟨mm-1,by omega,⟨i+1,PD,pd,qd,P,Q,sn,rfl,(by rw[List.take_add_one,hge,Option.toList_some,List.map_append,hB];exact hH.drop 2),by omega,kQ,fc⟩⟩
 ·refine zQ 1 ?_;have hil:i=L.length:=by omega
  refine zQ 5 ?_;refine EvC.ret ⟨rx,_,_,_,rfl,rfl,?_⟩;rw[List.take_of_length_le (by simp;omega)] at hH;exact⟨pd,qd,P,Q,sn,hH,kQ,fc⟩
def jl (fr:Go.V.Fr) (k:Nat):Go.V.D:=Go.V.nth .junk fr.loc k
structure uO (p q:Pg):Prop where
 ok:q.ok
 code:q.code=p.code.map dK
 af:q.af=p.af
theorem Cr {s0:St} {p:Pg} (hp:p.ok):∃d,Ev pv 97 [p.d] s0 d s0∧∃q:Pg,d=q.d∧uO p q:=by
 refine Ev.Bx rfl OI rfl rfl rfl ?_;refine zE ?_;obtain⟨hSb,hF,hH⟩:=ri s0;generalize enterSt .ro s0=S at*;have hc:=hp.c.arg s0.bs.length S;have hs:=hp.s.arg s0.bs.length S;have hlen:=hp.cl;have Fb:=hp.sl;unfold Pg.d;refine zQ 2 ?_;refine qb hH fun k1 st pY hH=>?_;dsimp only[u2,u1,u3,u4,setMany,u5,u6,D.cells,Nat.reduceAdd,Pg.cs,aq,ae] at hH;refine qa hH fun k2 st hk2 hH=>?_;refine zQ 1 ?_;have hH:=hH.nulE 1;refine zQ 4 ?_;refine qP hH at0 (Arg.rows (by assumption) hH) fun x8 st hH=>?_;dsimp only[u2,u1,u3,u4,setMany,u5,u6,D.cells,Nat.reduceAdd,Pg.cs,aq,ae] at hH;refine EvO.eX (qs:=[(1,_)]) rfl rfl rfl rfl ⟨rfl,(ev rfl),(by exact hH.ocells (by exact at0)),trivial⟩ (by intro q hq;simp only[List.mem_cons,List.not_mem_nil,or_false] at hq;rcases hq with rfl<;>exact⟨rfl,by exact Nat.le_of_ble_eq_true rfl⟩) (by show List.foldl _ [_,_] _=_;dsimp only[List.foldl_cons,List.foldl_nil,u2,u1]<;>rfl) (by dsimp only[Fr.put,u1,u2]<;>rfl) ?_;refine qa hH fun k3 st BD hH=>?_;refine qS hH at0 fun st hH=>?_;dsimp only[u2,u1,u3,u4,setMany,u5,u6,D.cells,Nat.reduceAdd,Pg.cs,aq,ae] at hH;refine zQ 1 ?_;have hH:=hH.GX 4;refine zQ 5 ?_;refine qn ?_;simp only[List.length_map];refine zQ 3 ?_;refine EvC.loop (fun mm fr st=>∃(i:Nat) (y:D) (ks:Nat→Prop),fr.clean=⟨14,[jl fr 0,.ptr k1 0 0,.ptr k2 0 0,.ptr k3 0 0,jl fr 4,jl fr 5,jl fr 6,jl fr 7,jl fr 8,jl fr 9,jl fr 10,p.cd,.int .i64 (p.code.length:Nat),.int .i64 (i:Nat)],[]⟩∧Has s0.bs.length S st [.deep ks y 4 ((p.code.take i).map rb),.box k3 (.mem 0 false [y,x8]),.lst x8 1 (p.af.map ae),.box k2 (.mem 0 false [.nul,.nul]),.box k1 (.mem 0 false [p.cd,p.sd])]∧(i+mm=p.code.length)) (p.code.length) ?_ ?_
 ·exact⟨0,.nul,_,rfl,hH,by omega⟩
 rintro mm fr st ⟨i,y,ks,hfr,hH,hi⟩;rw[hfr];clear hfr;generalize jl fr=ee;clear fr;refine zQ 5 ?_;refine zP (fun h1=>?_) fun h1=>?_
 ·refine zQ 1 ?_
  obtain⟨q,hq⟩:∃q,p.code[i]?=some q:=⟨p.code[i]'(by omega),List.getElem?_eq_getElem _⟩
  have hr:=de hq;have wu:=hp.i q (List.mem_of_getElem? hq);have uo:=wu.1;have IF:=wu.1.arg s0.bs.length S;have n_:=wu.2;have lI:((p.code.take i).map rb).length≤1048576:=by rw[List.length_map,List.length_take];omega
  refine zQ 4 ?_;refine qr fun LP Fv=>?_;refine EvO.bF rfl (ev rfl) (by assumption) rfl (put_T rfl _) ?_;refine qa hH fun k5 st zO hH=>?_;refine qS hH at0 fun st hH=>?_;dsimp only[u2,u1,u3,u4,setMany,u5,u6,D.cells,Nat.reduceAdd,Pg.cs,aq,ae] at hH;refine zQ 1 ?_;have hH:=hH.nulE 2;refine zQ 4 ?_;refine EvO.happend (s:=2) hH rfl (ev rfl) (ev rfl) (by exact at0) (by exact Arg.rows (by assumption) hH) rfl rfl rfl rfl rfl rfl rfl ⟨(Nat.le_of_ble_eq_true rfl),(Nat.le_of_ble_eq_true rfl)⟩ (fun _=>(put_T rfl _)) (by simp only[List.length_nil,List.length_map]<;>omega) (by exact .inl hF) (fun LH st hH=>?_);dsimp only[u2,u1,u3,u4,setMany,u5,u6,D.cells,Nat.reduceAdd,Pg.cs,aq,ae] at hH;refine zQ 1 ?_;refine qT hH at1 (fun st hH=>?_) (gQ:=hH.ocells at0);dsimp only[u2,u1,u3,u4,setMany,u5,u6,D.cells,Nat.reduceAdd,Pg.cs,aq,ae] at hH;refine zQ 4 ?_;refine EvO.hloadS (m:=4) hH rfl (ev rfl) (by exact at1) (by dsimp only[List.drop_succ_cons,List.drop_zero,List.take_succ_cons,List.take_zero,Pg.cs,aq,ae]<;>rfl) rfl rfl (put_T rfl _) ?_;refine qh (s:=4) (vs:=[_]) hH fun k24 st NT hH=>?_;obtain⟨hH,Kr⟩:=hH.yV (i:=1) (j:=3) (by decide) at1 at3 (c8 _);dsimp only[u1,u2] at hH;refine EvO.me hH rfl rfl rfl at3 (hH.rows at0) (.cons (.cons (.plain _ rfl) (.cons (.plain _ rfl) (.cons (.plain _ rfl) (.cons Kr .nil)))) .nil) rfl rfl rfl rfl rfl rfl rfl ⟨(Nat.le_of_ble_eq_true rfl),(Nat.le_of_ble_eq_true rfl)⟩ (fun _=>(put_T rfl _)) (by show _+1≤_;omega) (.inl hF) (fun Rj st hH=>?_);dsimp only[u1,u2] at hH;refine zQ 1 ?_;refine EvO.lA hH rfl (ev rfl) (ev rfl) (by exact hH.dcells (by exact at3)) (by exact rfl) (by exact at4) (by exact Nat.le_of_ble_eq_true rfl) (by exact .inl hF) (fun st hH=>?_);dsimp only[u2,u1,u3,u4,setMany,u5,u6,D.cells,Nat.reduceAdd,Pg.cs,aq,ae] at hH;refine zQ 5 ?_;exact⟨mm-1,by omega,⟨i+1,Rj,_,rfl,(by rw[List.take_add_one,hq,Option.toList_some,List.map_append];exact hH.drop 3),by omega⟩⟩
 ·refine zQ 3 ?_;refine EvO.hloadS (m:=2) hH rfl (ev rfl) (by exact at1) (by dsimp only[List.drop_succ_cons,List.drop_zero,List.take_succ_cons,List.take_zero,Pg.cs,aq,ae]<;>rfl) rfl rfl (put_T rfl _) ?_;refine qS hH at3 fun st hH=>?_;dsimp only[u2,u1,u3,u4,setMany,u5,u6,D.cells,Nat.reduceAdd,Pg.cs,aq,ae] at hH;refine zQ 1 ?_;rw[List.take_of_length_le (by omega)] at hH;have h1:=hH.qI at0 (n:=14) (by decide);have h2:=hH.uD at2 (gy _) (n:=15) (by decide)
  have h3:aQ st s0.bs.length false 16 (.agg [y,x8])=some (.agg [.sl ((p.code.map rb).map (iR 4)),.sl ((p.af.map ae).map (iR 1))]):=by
   show(fp (aQ st s0.bs.length false 15) [y,x8]).map D.agg=_;simp only[fp,h1,h2,Option.map_some]
  refine EvC.ret ⟨rx,_,_,hH.oI rfl at3 rfl,rl hSb hH h3,⟨_,p.code.map dK,zB p.af,p.af⟩,rfl,⟨?_,pQ _,?_,by simpa using hlen,Fb⟩,rfl,rfl⟩
  ·have h0:(p.code.map dK).map aq=p.code.map rb:=by rw[List.map_map];rfl
   show SlD _ 4 ((p.code.map dK).map aq);rw[h0]
   have h4:∀e∈(p.code.map rb),e.length=4:=by
    intro e he;obtain⟨q,_,rfl⟩:=List.mem_map.1 he;rfl
   have:=SlD.frozen (s:=4) (es:=p.code.map rb) h4 (by
    intro e he d hd;obtain⟨q,_,rfl⟩:=List.mem_map.1 he;simp only[rb,aq,dK,List.mem_cons,List.not_mem_nil,or_false] at hd
    rcases hd with rfl|rfl|rfl|rfl<;>rfl)
   exact this
  ·intro i hi;obtain⟨q,hq,rfl⟩:=List.mem_map.1 hi;exact DF (hp.i q hq)
theorem uO.right {p q:Pg} (h:uO p q) (hR:aX p):aX q:=(xC h.code h.af).2 hR
theorem uY {N:Nat} {S s0:St} {H:List aP} {p:Pg} (hF:S.flr≤N) (hp:p.ok) (hR:aX p) (hH:Has N S s0 H):
  ∃r ab,Ev pv 56 [p.d] s0 r ab∧∃kv ks q,r=.tup [.ptr kv 0 0,.int .i64 0]∧uO p q∧MH [] N S ab ks kv q 0 .nul [] H:=by
 have hc:=hp.c.arg N S;have hcl:=hR.cl;obtain⟨_,N9,q,rfl,hq⟩:=Cr (s0:=s0) hp;have hown:∀st,∃d,Ev pv 97 [p.d] st d st∧∃q:Pg,d=q.d∧uO p q:=fun st=>Cr hp;unfold Pg.d at hown;unfold Pg.d;clear N9 hq q;refine Ev.iI rfl O1 rfl rfl rfl ?_;refine zE ?_;change EvC _ _ _ _ s0 _;refine zQ 2 ?_;refine qb hH fun k1 st pY hH=>?_;dsimp only[u2,u1,u3,u4,setMany,u5,u6,D.cells,Nat.reduceAdd,Pg.cs,aq,ae] at hH;refine zQ 6 ?_;refine EvO.hloadS (m:=2) hH rfl (ev rfl) (by exact at0) (by dsimp only[List.drop_succ_cons,List.drop_zero,List.take_succ_cons,List.take_zero,Pg.cs,aq,ae]<;>rfl) rfl rfl (put_T rfl _) ?_;refine qv (k_ (p:=p) hp) ?_;refine zQ 2 ?_;refine qE rfl (by rw[bR hR];rfl) ?_;refine zQ 5 ?_;refine qn ?_;simp only[List.length_map];obtain⟨_,st,hev,ks,rfl,pd,qd,P,Q,hH,hok⟩:=Aw (n:=p.code.length) hF (by omega) hH;refine qv hev ?_;refine zQ 6 ?_;obtain⟨_,hev,q,rfl,hq⟩:=hown st;refine zQ 2 ?_;refine EvO.hloadS (m:=2) hH rfl (ev rfl) (by exact at3) (by dsimp only[List.drop_succ_cons,List.drop_zero,List.take_succ_cons,List.take_zero,Pg.cs,aq,ae]<;>rfl) rfl rfl (put_T rfl _) ?_;refine qv hev ?_;refine qm ?_;refine EvO.go (d:=.agg [q.cd,q.sd,.int .i64 0,.nul,.ptr ks 0 0]) (st1:=_) rfl rfl rfl (put_T rfl _) ?_;refine qb hH fun k20 st NU hH=>?_;refine zQ 4 ?_;refine EvC.ret ⟨rx,_,_,_,rfl,rfl,?_⟩;have hl:(List.replicate p.code.length false).length=q.code.length:=by rw[List.length_replicate,hq.code,List.length_map]
 exact⟨k20,ks,q,rfl,hq,pd,qd,P,Q,_,Has.iD [_] [_,_,_,_] ((hH.erase 4).nulE 12),hok,hl⟩
def I6 (l:List eQ):D:=.sl ((l.map az).map (iR 11))
def fV (l:PL):List D:=ax l.dn l.aD (I6 l.aM)
def lu (L:List PL):D:=.sl ((L.map fV).map (iR 12))
def zt (pl:Nat) (L:List PL):D:=.agg [.int .i64 (pl:Nat),lu L]
theorem kj (l:List eQ):∀e∈l.map az,∀d∈e,bC d=true:=by
 intro e he d hd;obtain⟨q,_,rfl⟩:=List.mem_map.1 he;simp only[az,List.mem_cons,List.not_mem_nil,or_false] at hd
 rcases hd with rfl|rfl|rfl|rfl|rfl|rfl|rfl|rfl|rfl|rfl|rfl<;>rfl
theorem BQ (l:List eQ):SlD (I6 l) 11 (l.map az):=SlD.frozen (Er l) (kj l)
theorem GN (L:List PL):∀e∈L.map fV,e.length=12:=by
 intro e he;obtain⟨q,_,rfl⟩:=List.mem_map.1 he;rfl
theorem Cj (L:List PL):∀e∈L.map fV,∀d∈e,bC d=true:=by
 intro e he d hd;obtain⟨q,_,rfl⟩:=List.mem_map.1 he;simp only[fV,ax,List.mem_cons,List.not_mem_nil,or_false] at hd
 rcases hd with rfl|rfl|rfl|rfl|rfl|rfl|rfl|rfl|rfl|rfl|rfl|rfl<;>rfl
theorem pG (L:List PL):SlD (lu L) 12 (L.map fV):=SlD.frozen (GN L) (Cj L)
theorem Ck {L:List PL} {i:Nat} {l:PL} (h:L[i]?=some l):(L.map fV)[i]?=some (fV l):=by rw[List.getElem?_map,h];rfl
theorem Ie {st:St} {ks:Nat→Prop} {dn:Bool} {f:lb} {x y:D} (h:dZ st ks x y):b_ (dZ st ks) (ax dn f x) (ax dn f y):=
 .cons (.plain _ rfl) (.cons (.plain _ rfl) (.cons (.plain _ rfl) (.cons (.plain _ rfl) (.cons (.plain _ rfl) (.cons (.plain _ rfl) (.cons (.plain _ rfl) (.cons (.plain _ rfl) (.cons (.plain _ rfl) (.cons (.plain _ rfl) (.cons (.plain _ rfl) (.cons h .nil)))))))))))
structure AM (N:Nat) (S:St) (kv ks:Nat) (p:Pg) (pl:Nat) (ld:D) (L:List VL):Prop where
 lt:kv<N
 le:N≤S.bs.length
 at_:S.bs[kv]?=some (.mem 0 false [p.cd,p.sd,.int .i64 (pl:Nat),ld,.ptr ks 0 0])
 ld:Arg N S 12 ld (L.map dp)
 td:∀l∈L,Arg N S 11 l.td (l.aM.map az)
 ksl:ks<N
theorem AM.box {N:Nat} {S st:St} {H:List aP} {kv ks:Nat} {p:Pg} {pl:Nat} {ld:D} {L:List VL} (h:AM N S kv ks p pl ld L) (hH:Has N S st H):st.bs[kv]?=some (.mem 0 false [p.cd,p.sd,.int .i64 (pl:Nat),ld,.ptr ks 0 0]):=by
 rw[hH.ex.low kv h.lt];exact h.at_
theorem AM.refs {N:Nat} {S st:St} {H:List aP} {kv ks:Nat} {p:Pg} {pl:Nat} {ld:D} {L:List VL} (h:AM N S kv ks p pl ld L) (hp:p.ok) (hH:Has N S st H):V.refs [p.cd,p.sd,.int .i64 (pl:Nat),ld,.ptr ks 0 0]≤st.bs.length:=by
 have h1:=hp.c.ref;have h2:=hp.s.ref;have h3:=h.ld.2;have h4:=h.ksl;have h5:=h.le;have h6:=hH.ex.len;simp only[V.refs,D.ref,h1,h2];omega
theorem AM.to {N:Nat} {S st:St} {H:List aP} {kv ks:Nat} {p:Pg} {pl:Nat} {ld:D} {L:List VL} (h:AM N S kv ks p pl ld L) (hH:Has N S st H) (o:Nat):jE st (.ptr kv 0 o) ([p.cd,p.sd,.int .i64 (pl:Nat),ld,.ptr ks 0 0].drop o):=
 .inl ⟨kv,0,o,false,_,rfl,St.mem_of (by rw[hH.ex.low kv h.lt];exact h.at_),List.take_length ..⟩
theorem MH.am {N ks kv:Nat} {S s0:St} {H:List aP} {p:Pg} {pl:Nat} {ld:D} {L:List VL} (hM:MH [] N S s0 ks kv p pl ld L H):AM s0.bs.length s0 kv ks p pl ld L:=by
 obtain⟨pd,qd,P,Q,sn,hH,kQ,fc⟩:=hM;dsimp only[u4] at hH
 exact⟨(hH.ge at0).2,Nat.le_refl _,hH.at at0,⟨hH.rows at4,jk hH at4⟩,fun l hl=>(by
  obtain⟨i,hi⟩:=List.getElem?_of_mem hl;have h:=BK (H:=H) [.box kv (.mem 0 false [p.cd,p.sd,.int .i64 (pl:Nat),ld,.ptr ks 0 0]),.box ks (.mem 0 false [pd,qd]),.lst pd 1 (P.map fF),.lst qd 2 (Q.map ni),.lst ld 12 (L.map dp)] rfl hi
  exact⟨hH.rows h,jk hH h⟩),hH.pJ at1 rfl⟩
theorem MH.ro {N ks kv:Nat} {S s0:St} {H:List aP} {p:Pg} {pl:Nat} {ld:D} {L:List VL} (hM:MH [] N S s0 ks kv p pl ld L H):s0.ro≤s0.bs.length:=by
 obtain⟨pd,qd,P,Q,sn,hH,kQ,fc⟩:=hM;rw[hH.ex.ro];exact Nat.le_trans hH.fe (Nat.le_trans hH.hN hH.ex.len)
def ly (fr:Go.V.Fr) (k:Nat):Go.V.D:=Go.V.nth .junk fr.loc k
theorem qH (st:St) (N:Nat) (dn:Bool) (f:lb):aQ st N true 15 (.agg (ax dn f .nul))=some (.agg (ax dn f .nul)):=by
 have h1:∀(b:Bool) (x1 x2 x3 x4 x5 x6 x7 x8 x9 PF:Int),aQ st N true 15 (.agg [.bool b,.int .i64 x1,.int .i64 x2,.int .i64 x3,.int .i64 x4,.int .i64 x5,.int .i64 x6,.int .i64 x7,.int .i64 x8,.int .i64 x9,.int .i64 PF,.nul])=some (.agg [.bool b,.int .i64 x1,.int .i64 x2,.int .i64 x3,.int .i64 x4,.int .i64 x5,.int .i64 x6,.int .i64 x7,.int .i64 x8,.int .i64 x9,.int .i64 PF,.nul]):=fun _ _ _ _ _ _ _ _ _ _ _=>rfl;exact h1 _ _ _ _ _ _ _ _ _ _ _
theorem oe {N j:Nat} {S st:St} {H:List aP} {x:D} {s:Nat} {es:List (List D)} (hH:Has N S st H) (hj:H[j]?=some (.lst x s es)) (hp:∀e∈es,∀d∈e,bC d=true) {n:Nat} (hn:3≤n):∃y,aQ st N true n x=some y∧SlD y s es:=by
 have hf:=hH.uD hj hp hn;have mB:=(hH.own hj).rP;have hown:=hH.own hj
 obtain⟨n,rfl⟩:∃m,n=m+1:=⟨n-1,by omega⟩
 cases hown with
 |nul=>exact⟨.nul,rfl,.inl ⟨rfl,rfl⟩⟩
 |win k av off es c hm hl hc he=>exact⟨_,hf,SlD.frozen mB hp⟩
theorem nS {s0:St} {p:Pg} {pl:Nat} {e dn:Bool} {aD:lb} {aM:List eQ} {d:D} (hp:p.ok) (hR:aX p) (hpl:pl≤4000000000000) (hd:V.Rows s0 11 d (aM.map az)) (uh:∀t∈aM,t.pc<p.code.length) (lI:aM.length≤1048576):
  ∃r,Ev pv 73 [p.d,.agg (ax dn aD d),.int .i64 (pl:Nat),.bool e] s0 r s0∧∃rd,r=.tup [.agg (ax (jJ p.code pl e aM (iz p.code.length dn aD)).dn (jJ p.code pl e aM (iz p.code.length dn aD)).aD .nul),rd]∧SlD rd 11 ((jJ p.code pl e aM (iz p.code.length dn aD)).rdy.map az):=by
 have hcl:=hR.cl;generalize hW:jJ p.code pl e aM (iz p.code.length dn aD)=W at*;refine Ev.Bx rfl OQ rfl rfl rfl ?_;refine zE ?_;obtain⟨hSb,hF,hH⟩:=ri s0;generalize enterSt .ro s0=S at*;have hc:=hp.c.arg s0.bs.length S;have hlen:=hp.cl;have Vu:=Arg.of hd hSb;have TJ:=dG hd;unfold Pg.d;refine qq<|qj fun K hK=>qb hH fun k4 st IM hH=>?_;dsimp only[u2,u1,u3,u4,setMany,u5,u6,D.cells,Nat.reduceAdd,aq,az,ax,ai,aI,Pg.cs] at hH;refine qb hH fun k5 st zO hH=>?_;dsimp only[u2,u1,u3,u4,setMany,u5,u6,D.cells,Nat.reduceAdd,aq,az,ax,ai,aI,Pg.cs] at hH;refine qa hH fun k8 st hk8 hH=>?_;refine qm ?_;refine qe hK<|qq<|qj fun K hK=>qp (o:=0) ?_;refine ql hH at1 ?_;refine qp (o:=1) ?_;refine EvO.hloadS (m:=10) hH rfl (ev rfl) (by exact at1) (by dsimp only[List.drop_succ_cons,List.drop_zero,List.take_succ_cons,List.take_zero,aq,az,ax,ai,aI,Pg.cs]<;>rfl) rfl rfl (put_T rfl _) ?_;refine EvO.go (d:=.agg (ax dn aD .nul)) (st1:=_) rfl rfl rfl (put_T rfl _) ?_;refine qa hH fun k10 st Kf hH=>?_;refine qS hH at0 fun st hH=>?_;dsimp only[u2,u1,u3,u4,setMany,u5,u6,D.cells,Nat.reduceAdd,aq,az,ax,ai,aI,Pg.cs] at hH;refine qe hK<|qq<|qj fun K hK=>?_;refine EvO.hloadS (m:=2) hH rfl (ev rfl) (by exact at3) (by dsimp only[List.drop_succ_cons,List.drop_zero,List.take_succ_cons,List.take_zero,aq,az,ax,ai,aI,Pg.cs]<;>rfl) rfl rfl (put_T rfl _) ?_;refine qp (o:=0) ?_;refine ql hH at3 ?_;refine qn ?_;simp only[List.length_map];refine EvO.pW (s:=1) hH rfl rfl rfl rfl rfl rfl rfl rfl (Nat.le_of_ble_eq_true rfl) (by omega) (fun _=>(put_T rfl _)) (fun k22 st Tn hH=>?_);refine qm ?_;refine qm ?_;refine EvO.go (d:=.agg [p.cd,p.sd,.ptr k10 0 0,.win k22 0 0 p.code.length 1,.int .i64 (pl:Nat),.bool e,.nul]) (st1:=_) rfl rfl rfl (put_T rfl _) ?_;refine qb hH fun k26 st NS hH=>?_;refine qm ?_;refine qe hK<|qq<|qq<|qj fun K hK=>qm ?_;refine qe hK ?_;have hH:=Has.iD [_,_] [_] hH;have hH:=Has.iD [_] [_] hH;have hH:=Has.iD [_] [_,_,_] (hH.nulE 11);dsimp only[u3,u4] at hH;refine EvC.block<|EvC.loop (fun mm fr st=>∃(j:Nat) (w:Wk) (rest:List eQ) (od:D),fr.clean=⟨13,[ly fr 0,ly fr 1,ly fr 2,ly fr 3,.ptr k4 0 0,.ptr k5 0 0,ly fr 6,ly fr 7,.ptr k8 0 0,.nul,.ptr k10 0 0,.ptr k26 0 0,.int .i64 (j:Nat)],[]⟩∧Has s0.bs.length S st (.box k26 (.mem 0 false [p.cd,p.sd,.ptr k10 0 0,.win k22 0 0 p.code.length 1,.int .i64 (pl:Nat),.bool e,od])::.box k10 (.mem 0 false (ax w.dn w.aD .nul))::.lst (.win k22 0 0 p.code.length 1) 1 (w.seen.map aI)::.lst od 11 (w.rdy.map az)::.box k8 (.mem 0 false (ax false lK .nul))::.box k5 (.mem 0 false (ax dn aD d))::.box k4 (.mem 0 false [p.cd,p.sd])::[])∧(j+mm=aM.length)∧(rest=aM.drop j)∧(jJ p.code pl e rest w=W)∧(w.seen.length=p.code.length)∧(w.rdy.length+w.seen.count false≤1048576)) (aM.length) ?_ ?_
 ·exact⟨0,iz p.code.length dn aD,aM,.nul,rfl,(by unfold iz;simp only[List.map_replicate];exact hH),by omega,rfl,hW,by simp[iz],by(have:=List.count_le_length (a:=false) (l:=(iz p.code.length dn aD).seen);simp[iz] at this⊢;omega)⟩
 rintro mm fr st ⟨j,w,rest,od,hfr,hH,hj,iy,hex,gi,n_⟩;rw[hfr];clear hfr;generalize ly fr=ee;clear fr;refine qq<|qq<|qj fun K hK=>qm ?_;refine qp (o:=11) ?_;refine ql hH at5 ?_;refine qn ?_;simp only[List.length_map];refine qg ?_;refine qe hK<|zP (fun hlt=>?_) fun hlt=>?_
 ·refine EvC.skip ?_;have iV:j<aM.length:=by omega
  obtain⟨t,ht⟩:∃t,aM[j]?=some t:=⟨aM[j]'iV,List.getElem?_eq_getElem _⟩
  have Fh:=kq ht;have JD:=uh t (List.mem_of_getElem? ht)
  have wG:rest=t::aM.drop (j+1):=by
   rw[iy,List.drop_eq_getElem_cons iV]
   congr 1
   exact Option.some.inj ((List.getElem?_eq_getElem _).symm.trans ht)
  have uz:=List.count_le_length (a:=false) (l:=w.seen);have hgo:=bT p.code pl e (p.code.length+1) w t;rw[wG] at hex;have hex:(if(bm p.code pl e (p.code.length+1) w t).2=true then(bm p.code pl e (p.code.length+1) w t).1 else jJ p.code pl e (aM.drop (j+1)) (bm p.code pl e (p.code.length+1) w t).1)=W:=hex;refine qq<|EvC.block<|qq<|qj fun K hK=>qm ?_;refine qp (o:=11) ?_;refine ql hH at5 ?_;refine qm ?_;refine qr fun PV JP=>?_;refine qf (fo:=0) fun Mw Hu=>?_;refine qR ?_;refine qp (o:=11) ?_;refine ql hH at5 ?_;refine qm ?_;refine qr fun Iz A9=>?_;refine qf (fo:=1) fun Mv Ht=>?_;refine qR ?_;obtain⟨_,st,hev,rfl,hT⟩:=vl (ka:=k26) (kl:=k10) (S:=S) (sd:=.win k22 0 0 p.code.length 1) (e:=e) hF hp hR hpl (p.code.length+1) w t _ _ JD gi (by omega) n_ ⟨od,hH⟩;refine qv hev ?_;refine qe hK ?_;generalize bm p.code pl e (p.code.length+1) w t=R1 at*;obtain⟨w1,b1⟩:=R1;obtain⟨fu,bL,hg3,hg4⟩:=hgo;simp only at fu bL hg3 hg4 hT hex;obtain⟨IC,hH⟩:=hT;have nr:w1.seen.length=p.code.length:=fu.trans gi
  cases b1 with
  |true=>
   rw[if_pos rfl] at hex;subst hex;refine qB ?_;refine EvC.exit ?_;have rN:=hH;have A8:=jk hH at2;have Fj:=jk hH at3;have Hm:=hH.pJ at1 (k:=k10) rfl;have CW:=hp.c.ref;have Hl:=hp.s.ref;change EvC _ _ _ _ _ _;refine qq ?_;generalize hK:SeqQ _ _ _ _=K;refine EvC.lT rfl ?_;refine ba.cons ?_;refine EvO.hloadS (m:=12) hH rfl (ev rfl) (by exact at1) (by dsimp only[List.drop_succ_cons,List.drop_zero,List.take_succ_cons,List.take_zero,aq,az,ax,ai,aI,Pg.cs]<;>rfl) rfl rfl (put_T rfl _) ?_;refine EvO.nil ⟨rfl,?_⟩;refine ba.cons ?_;refine qm ?_;refine EvO.nil ⟨rfl,?_⟩;refine ba.cons ?_;refine qg ?_;refine EvO.nil ⟨rfl,?_⟩;refine ba.cons ?_;refine qp (o:=6) ?_;refine EvO.nil ⟨rfl,?_⟩;refine ba.cons ?_;refine ql hH at0 ?_;refine EvO.nil ⟨rfl,?_⟩;refine ba.cons ?_;refine qS hH at4 fun st hH=>?_;dsimp only[u2,u1,u3,u4,setMany,u5,u6,D.cells,Nat.reduceAdd,aq,az,ax,ai,aI,Pg.cs] at hH;refine EvO.nil ⟨by exact Bool.and_eq_true_iff.2 ⟨dQ rfl rfl rfl (rN.at at0) (hH.at at0) (rN.at at0) (by simp only[refs,D.ref,CW,Hl];simp only[D.ref] at A8;omega),rfl⟩,?_⟩;refine ba.cons ?_;refine qm ?_;refine EvO.nil ⟨rfl,?_⟩;refine ba.nil ?_;subst hK;have h4:=qH st s0.bs.length w1.dn w1.aD;obtain⟨rdy,h2,He⟩:=oe hH at3 (kj _) (n:=15) (by decide)
   have h3:aQ st s0.bs.length true 16 (.tup [.agg (ax w1.dn w1.aD .nul),IC])=some (.tup [.agg (ax w1.dn w1.aD .nul),rdy]):=by
    show(fp (aQ st s0.bs.length true 15) [.agg (ax w1.dn w1.aD .nul),IC]).map D.tup=_;simp only[fp,h2,h4,Option.map_some]
   refine EvC.ret ⟨rx,_,_,hH.jN rfl at4 rfl rfl,rl hSb hH h3,rdy,rfl,He⟩
  |false=>
   rw[if_neg (by decide)] at hex;refine qC ?_;refine EvC.skip<|qj fun K hK=>qm ?_;refine qA ?_;refine qm ?_;refine qe hK ?_;exact⟨mm-1,by omega,⟨j+1,w1,aM.drop (j+1),IC,rfl,hH,by omega,rfl,hex,nr,by omega⟩⟩
 ·refine EvC.exit ?_;have uw:rest=[]:=by rw[iy,List.drop_eq_nil_iff];omega
  subst uw;have hex:w=W:=hex;subst hex;have rN:=hH;have A8:=jk hH at2;have Fj:=jk hH at3;have Hm:=hH.pJ at1 (k:=k10) rfl;have CW:=hp.c.ref;have Hl:=hp.s.ref;change EvC _ _ _ _ _ _;refine qq ?_;generalize hK:SeqQ _ _ _ _=K;refine EvC.lT rfl ?_;refine ba.cons ?_;refine EvO.hloadS (m:=12) hH rfl (ev rfl) (by exact at1) (by dsimp only[List.drop_succ_cons,List.drop_zero,List.take_succ_cons,List.take_zero,aq,az,ax,ai,aI,Pg.cs]<;>rfl) rfl rfl (put_T rfl _) ?_;refine EvO.nil ⟨rfl,?_⟩;refine ba.cons ?_;refine qm ?_;refine EvO.nil ⟨rfl,?_⟩;refine ba.cons ?_;refine qg ?_;refine EvO.nil ⟨rfl,?_⟩;refine ba.cons ?_;refine qp (o:=6) ?_;refine EvO.nil ⟨rfl,?_⟩;refine ba.cons ?_;refine ql hH at0 ?_;refine EvO.nil ⟨rfl,?_⟩;refine ba.cons ?_;refine qS hH at4 fun st hH=>?_;dsimp only[u2,u1,u3,u4,setMany,u5,u6,D.cells,Nat.reduceAdd,aq,az,ax,ai,aI,Pg.cs] at hH;refine EvO.nil ⟨by exact Bool.and_eq_true_iff.2 ⟨dQ rfl rfl rfl (rN.at at0) (hH.at at0) (rN.at at0) (by simp only[refs,D.ref,CW,Hl];simp only[D.ref] at A8;omega),rfl⟩,?_⟩;refine ba.cons ?_;refine qm ?_;refine EvO.nil ⟨rfl,?_⟩;refine ba.nil ?_;subst hK;have h4:=qH st s0.bs.length w.dn w.aD;obtain⟨rdy,h2,He⟩:=oe hH at3 (kj _) (n:=15) (by decide)
  have h3:aQ st s0.bs.length true 16 (.tup [.agg (ax w.dn w.aD .nul),od])=some (.tup [.agg (ax w.dn w.aD .nul),rdy]):=by
   show(fp (aQ st s0.bs.length true 15) [.agg (ax w.dn w.aD .nul),od]).map D.tup=_;simp only[fp,h2,h4,Option.map_some]
  refine EvC.ret ⟨rx,_,_,hH.jN rfl at4 rfl rfl,rl hSb hH h3,rdy,rfl,He⟩
def nc (fr:Go.V.Fr) (k:Nat):Go.V.D:=Go.V.nth .junk fr.loc k
theorem vR (f:lb):iT pv .neq 55 (.agg (ai f)) (.agg (ai f))=some (.bool false):=by
 have h:∀b c d e g i j k l m:Int,iT pv .neq 55 (.agg [.int .i64 b,.int .i64 c,.int .i64 d,.int .i64 e,.int .i64 g,.int .i64 i,.int .i64 j,.int .i64 k,.int .i64 l,.int .i64 m]) (.agg [.int .i64 b,.int .i64 c,.int .i64 d,.int .i64 e,.int .i64 g,.int .i64 i,.int .i64 j,.int .i64 k,.int .i64 l,.int .i64 m])=Option.map (fun b=>D.bool !b) (match some (b==b) with|some true=>(match some (c==c) with|some true=>(match some (d==d) with|some true=>(match some (e==e) with|some true=>(match some (g==g) with|some true=>(match some (i==i) with|some true=>(match some (j==j) with|some true=>(match some (k==k) with|some true=>(match some (l==l) with|some true=>(match some (m==m) with|some true=>some true|some false=>some false|none=>none)|some false=>some false|none=>none)|some false=>some false|none=>none)|some false=>some false|none=>none)|some false=>some false|none=>none)|some false=>some false|none=>none)|some false=>some false|none=>none)|some false=>some false|none=>none)|some false=>some false|none=>none)|some false=>some false|none=>none):=fun _ _ _ _ _ _ _ _ _ _=>rfl;unfold ai;rw[h];simp only[beq_self_eq_true,Option.map_some,Bool.not_true]
theorem ES (t:eQ):iT pv .neq 60 (.agg (az t)) (.agg (az t))=some (.bool false):=by
 have h:∀a b c d e g i j k l m:Int,iT pv .neq 60 (.agg [.int .i64 a,.int .i64 b,.int .i64 c,.int .i64 d,.int .i64 e,.int .i64 g,.int .i64 i,.int .i64 j,.int .i64 k,.int .i64 l,.int .i64 m]) (.agg [.int .i64 a,.int .i64 b,.int .i64 c,.int .i64 d,.int .i64 e,.int .i64 g,.int .i64 i,.int .i64 j,.int .i64 k,.int .i64 l,.int .i64 m])=Option.map (fun b=>D.bool !b) (match some (a==a) with|some true=>(match(match some (b==b) with|some true=>(match some (c==c) with|some true=>(match some (d==d) with|some true=>(match some (e==e) with|some true=>(match some (g==g) with|some true=>(match some (i==i) with|some true=>(match some (j==j) with|some true=>(match some (k==k) with|some true=>(match some (l==l) with|some true=>(match some (m==m) with|some true=>some true|some false=>some false|none=>none)|some false=>some false|none=>none)|some false=>some false|none=>none)|some false=>some false|none=>none)|some false=>some false|none=>none)|some false=>some false|none=>none)|some false=>some false|none=>none)|some false=>some false|none=>none)|some false=>some false|none=>none)|some false=>some false|none=>none) with|some true=>some true|some false=>some false|none=>none)|some false=>some false|none=>none):=fun _ _ _ _ _ _ _ _ _ _ _=>rfl;unfold az;rw[h];simp only[beq_self_eq_true,Option.map_some,Bool.not_true]
theorem xA {s0:St} {x y:D} {l:List eQ} (hx:V.Rows s0 11 x (l.map az)) (hy:V.Rows s0 11 y (l.map az)) (hl:l.length≤1073741824):Ev pv 67 [x,y] s0 (.bool true) s0:=by
 refine Ev.mk1 rfl KP rfl rfl rfl ?_;refine zE ?_;obtain⟨hSb,hF,hH⟩:=ri s0;generalize enterSt .ro s0=S at*;have hx:=Arg.of hx hSb;have hy:=Arg.of hy hSb;refine zQ 8 ?_;refine qn ?_;simp only[List.length_map];refine qm ?_;refine qn ?_;simp only[List.length_map];refine zQ 2 ?_;refine qE rfl (by simp) ?_;refine zQ 7 ?_;refine EvC.loop (fun mm fr st=>∃(i:Nat),fr.clean=⟨6,[x,y,nc fr 2,nc fr 3,.bool false,.int .i64 (i:Nat)],[]⟩∧Has s0.bs.length S st []∧(i+mm=l.length)) (l.length) ?_ ?_
 ·exact⟨0,rfl,hH,by omega⟩
 rintro mm fr st ⟨i,hfr,hH,hi⟩;rw[hfr];clear hfr;generalize nc fr=ee;clear fr;refine zQ 5 ?_;refine qn ?_;simp only[List.length_map];refine zQ 2 ?_;refine zP (fun h1=>?_) fun h1=>?_
 ·refine zQ 1 ?_
  obtain⟨p,hp⟩:∃p,l[i]?=some p:=⟨l[i]'(by omega),List.getElem?_eq_getElem _⟩
  have hr1:=kq hp;refine zQ 6 ?_;refine qr fun LO Fu=>?_;refine EvO.bF rfl (ev rfl) (by assumption) rfl (put_T rfl _) ?_;refine zQ 2 ?_;refine qr fun LN Ft=>?_;refine EvO.bF rfl (ev rfl) (by assumption) rfl (put_T rfl _) ?_;refine EvO.Ga rfl (ev rfl) (ev rfl) (ES p) (put_T rfl _) ?_;refine zQ 8 ?_;exact⟨mm-1,by omega,⟨i+1,rfl,hH,by omega⟩⟩
 ·refine zQ 5 ?_;refine EvC.ret ⟨rx,_,rfl,rl hSb hH (rfl)⟩
def tw (es:List (List D)) (L:List PL):Prop:=es.length=L.length∧∀(i:Nat) l,L[i]?=some l→∃d,SlD d 11 (l.aM.map az)∧es[i]?=some (ax l.dn l.aD d)
theorem x0 (L:List PL):tw (L.map fV) L:=⟨List.length_map _,fun i l h=>⟨I6 l.aM,BQ _,Ck h⟩⟩
theorem AZ {L:List PL} (h:∀l∈L,l.aM=[]):tw (L.map ju) L:=⟨List.length_map _,fun i l hl=>⟨.nul,by rw[h l (List.mem_of_getElem? hl)];exact .inl ⟨rfl,rfl⟩,by rw[List.getElem?_map,hl];rfl⟩⟩
def nI (st:St) (es:List (List D)) (L:List PL):Prop:=es.length=L.length∧∀(i:Nat) l,L[i]?=some l→∃d,V.Rows st 11 d (l.aM.map az)∧es[i]?=some (ax l.dn l.aD d)
theorem tw.any {es:List (List D)} {L:List PL} (h:tw es L) (st:St):nI st es L:=⟨h.1,fun i l hl=>by
 obtain⟨d,h1,h2⟩:=h.2 i l hl
 exact⟨d,h1.rows st,h2⟩⟩
theorem A3 {s0:St} {x y:D} {es fs:List (List D)} {L:List PL} (hx:V.Rows s0 12 x es) (hy:V.Rows s0 12 y fs) (ov:nI s0 es L) (FC:nI s0 fs L) (hl:L.length≤1073741824) (uh:∀l∈L,l.aM.length≤1000):Ev pv 22 [x,y] s0 (.bool true) s0:=by
 obtain⟨mB,IQ⟩:=ov;obtain⟨lC,N5⟩:=FC;refine Ev.mk1 rfl KQ rfl rfl rfl ?_;refine zE ?_;obtain⟨hSb,hF,hH⟩:=ri s0;generalize enterSt .ro s0=S at*;have hx:=Arg.of hx hSb;have hy:=Arg.of hy hSb;refine zQ 8 ?_;refine qn ?_;refine qm ?_;refine qn ?_;refine zQ 2 ?_;refine qE rfl (by rw[mB,lC];simp) ?_;refine zQ 7 ?_;refine EvC.loop (fun mm fr st=>∃(i:Nat),fr.clean=⟨6,[x,y,nc fr 2,nc fr 3,.bool false,.int .i64 (i:Nat)],[]⟩∧Has s0.bs.length S st []∧(i+mm=es.length)) (es.length) ?_ ?_
 ·exact⟨0,rfl,hH,by omega⟩
 rintro mm fr st ⟨i,hfr,hH,hi⟩;rw[hfr];clear hfr;generalize nc fr=ee;clear fr;refine zQ 5 ?_;refine qn ?_;refine zQ 2 ?_;refine zP (fun h1=>?_) fun h1=>?_
 ·refine zQ 1 ?_
  obtain⟨l,hll⟩:∃l,L[i]?=some l:=⟨L[i]'(by omega),List.getElem?_eq_getElem _⟩
  obtain⟨d1,yt,hr1⟩:=IQ i l hll;obtain⟨d2,uS,kW⟩:=N5 i l hll;have lI:=uh l (List.mem_of_getElem? hll);have bt:(l.dn !=l.dn)=false:=by simp
  have eL:false=false:=rfl;refine zQ 3 ?_;refine EvC.cutT 54 (.bool false) [] ?_ (fun ff tmp htmp=>?_)
  ·refine zQ 2 ?_;refine qr fun LO Fu=>?_;refine qf (fo:=0) fun F_ wy=>?_;refine zQ 3 ?_;refine qr fun F9 wx=>?_;refine qf (fo:=0) fun GP yj=>?_;refine zQ 5 ?_;refine qr (fun RJ Ny=>?_) (hg:=wi bt);refine qf (fo:=1) (fun RI Nw=>?_) (hg:=wi bt);refine zQ 3 ?_;refine qr (fun LL Fs=>?_) (hg:=wi bt);refine qf (fo:=1) (fun LK Fq=>?_) (hg:=wi bt);refine zQ 1 ?_;refine EvO.Ga (wantD_is rfl rfl rfl bt) (ev rfl) (ev rfl) (vR l.aD) (put_T rfl _) ?_;refine zQ 4 ?_;refine qr (fun Iz A9=>?_) (hg:=wi eL);refine qf (fo:=11) (fun Mv Ht=>?_) (hg:=wi eL);refine zQ 3 ?_;refine qr (fun Mu Hr=>?_) (hg:=wi eL);refine qf (fo:=11) (fun LJ Fp=>?_) (hg:=wi eL);refine zQ 1 ?_;refine qv (xA ((Arg.of yt hSb).rows hH) ((Arg.of uS hSb).rows hH) (by omega)) ?_ (hg:=wi eL);refine zQ 2 ?_;refine EvO.nil (leafT ?_ ?_)
   ·dsimp only[setW,List.foldl,nth,u2,u1]
    all_goals(first|rfl|simp)
   ·dsimp only[Fr.putO,Fr.put,Fr.clean,Fr.ev,Fr.get,nth,look,u1,u2,v1,v2,v4]
    all_goals(rfl)
  dsimp only[setW,List.foldl,nth,u2,u1];dsimp only[Fr.putO,Fr.put,Fr.clean,Fr.ev,Fr.get,nth,look,u1,u2,v1,v2,v4];refine zQ 7 ?_;exact⟨mm-1,by omega,⟨i+1,rfl,hH,by omega⟩⟩
 ·refine zQ 5 ?_;refine EvC.ret ⟨rx,_,rfl,rl hSb hH (rfl)⟩
theorem CN {s0:St} {x y:D} {es fs:List (List D)} {L:List PL} (hx:V.Rows s0 12 x es) (hy:V.Rows s0 12 y fs) (ov:tw es L) (FC:tw fs L) (hl:L.length≤1073741824) (uh:∀l∈L,l.aM.length≤1000):Ev pv 22 [x,y] s0 (.bool true) s0:=
 A3 hx hy (ov.any s0) (FC.any s0) hl uh
theorem nI.ex {s0 S st:St} {H:List aP} {es:List (List D)} {L:List PL} (h:nI s0 es L) (hS:S.bs=s0.bs) (hH:Has s0.bs.length S st H):nI st es L:=⟨h.1,fun i l hl=>by
 obtain⟨d,h1,h2⟩:=h.2 i l hl
 exact⟨d,(Arg.of h1 hS).rows hH,h2⟩⟩
def pL (fr:Go.V.Fr) (k:Nat):Go.V.D:=Go.V.nth .junk fr.loc k
theorem u9 {p:Pg} (hR:aX p) {i:Nat} (hi:i<p.af.length):∃s:Nat,p.af[i]?=some ((s:Nat):Int)∧(bw p)[i]?=some s∧s<p.code.length:=by
 obtain⟨s,JG⟩:∃s,p.af[i]?=some s:=⟨p.af[i]'hi,List.getElem?_eq_getElem _⟩
 obtain⟨iP,IE⟩:=hR.st s (List.mem_of_getElem? JG);obtain⟨s1,rfl⟩:=Int.eq_ofNat_of_zero_le iP;exact⟨s1,JG,by unfold bw;rw[List.getElem?_map,JG];rfl,by omega⟩
theorem DD (L:List PL):∀e∈L.map ju,∀d∈e,lP d=true:=by
 intro e he d hd;obtain⟨q,_,rfl⟩:=List.mem_map.1 he;simp only[ju,ax,List.mem_cons,List.not_mem_nil,or_false] at hd
 rcases hd with rfl|rfl|rfl|rfl|rfl|rfl|rfl|rfl|rfl|rfl|rfl|rfl<;>rfl
theorem DC {L:List PL} (h:∀l∈L,l.aM=[]):(L.map ju).map (·.map nz)=L.map fV:=by
 rw[List.map_map];refine List.map_congr_left fun l hl=>?_;have:=h l hl;obtain⟨dn,b,t⟩:=l;simp only at this;subst this
 rfl
theorem AK {s0:St} {p:Pg} {pl:Nat} {x:D} {V:List VL} {L:List PL} (hp:p.ok) (hR:aX p) (hpl:pl≤4000000000000) (hx:Go.V.Rows s0 12 x (V.map dp)) (hV:∀l∈V,Go.V.Rows s0 11 l.td (l.aM.map az)) (HY:V.map VL.pl=L) (hLl:L.length=p.af.length) (hok:∀l∈L,l.ok p.code.length):
  Ev pv 27 [p.d,.agg [.int .i64 (pl:Nat),x]] s0 (lu (L.map (gU p.code pl))) s0:=by
 have TU:V.length=L.length:=by rw[←HY,List.length_map]
 have JI:=hR.sl;have hex:∀(st:St) (l:VL),l∈V→Go.V.Rows st 11 l.td (l.aM.map az)→l.pl.ok p.code.length→∃r,Ev pv 73 [p.d,.agg (dp l),.int .i64 (pl:Nat),.bool true] st r st∧∃rd,r=.tup [.agg (ax (jJ p.code pl true l.aM (iz p.code.length l.dn l.aD)).dn (jJ p.code pl true l.aM (iz p.code.length l.dn l.aD)).aD .nul),rd]∧SlD rd 11 ((jJ p.code pl true l.aM (iz p.code.length l.dn l.aD)).rdy.map az):=fun st l hl hrw h=>nS hp hR hpl hrw h.1 (by have:l.aM.length≤1000:=h.2;omega);have MQ:=dG hx;unfold Pg.d at*;refine Ev.mk1 rfl O8 rfl rfl rfl ?_;refine zE ?_;obtain⟨hSb,hF,hH⟩:=ri s0;generalize enterSt .ro s0=S at*;have hla:=Arg.of hx hSb;refine zQ 2 ?_;refine qb hH fun k2 st hk2 hH=>?_;dsimp only[u2,u1,u3,u4,setMany,u5,u6,D.cells,Nat.reduceAdd,aq,az,ax,ai,dp,ae,Pg.cs,ju] at hH;refine qb hH fun k3 st BD hH=>?_;refine zQ 11 ?_;have hH:=hH.nulE 12;refine zQ 1 ?_;refine EvC.loop (fun mm fr st=>∃(i:Nat) (od:D),fr.clean=⟨8,[pL fr 0,pL fr 1,.ptr k2 0 0,.ptr k3 0 0,pL fr 4,od,.int .i64 (i:Nat),pL fr 7],[]⟩∧Has s0.bs.length S st [.lst od 12 (((L.map (gU p.code pl)).take i).map ju),.box k3 (.mem 0 false [.int .i64 (pl:Nat),x]),.box k2 (.mem 0 false [p.cd,p.sd])]∧(i+mm=V.length)) (V.length) ?_ ?_
 ·exact⟨0,.nul,rfl,hH,by omega⟩
 rintro mm fr st ⟨i,od,hfr,hH,hi⟩;rw[hfr];clear hfr;generalize pL fr=ee;clear fr;refine zQ 6 ?_;refine qn ?_;simp only[List.length_map];refine zQ 2 ?_;refine zP (fun hlt=>?_) fun hlt=>?_
 ·refine zQ 1 ?_
  obtain⟨l,hl⟩:∃l,V[i]?=some l:=⟨V[i]'(by omega),List.getElem?_eq_getElem _⟩
  have hr1:=oW hl;have Qw:L[i]?=some l.pl:=by rw[←HY,List.getElem?_map,hl];rfl
  have hge:(L.map (gU p.code pl))[i]?=some (gU p.code pl l.pl):=by rw[List.getElem?_map,Qw];rfl
  have n_:(((L.map (gU p.code pl)).take i).map ju).length=i:=by simp;omega
  generalize hB:((L.map (gU p.code pl)).take i).map ju=B at*;refine zQ 2 ?_;obtain⟨_,hev,rd,rfl,uo⟩:=hex st l (List.mem_of_getElem? hl) ((Arg.of (hV l (List.mem_of_getElem? hl)) hSb).rows hH) (hok l.pl (List.mem_of_getElem? Qw));refine zQ 2 ?_;refine EvO.hloadS (m:=2) hH rfl (ev rfl) (by exact at2) (by dsimp only[List.drop_succ_cons,List.drop_zero,List.take_succ_cons,List.take_zero,aq,az,ax,ai,dp,ae,Pg.cs,ju]<;>rfl) rfl rfl (put_T rfl _) ?_;refine zQ 3 ?_;refine qr fun Jd C6=>?_;refine EvO.bF rfl (ev rfl) (by assumption) rfl (put_T rfl _) ?_;refine zQ 2 ?_;refine qv hev ?_;refine zQ 3 ?_;refine qa hH fun k7 st IL hH=>?_;refine qS hH at0 fun st hH=>?_;dsimp only[u2,u1,u3,u4,setMany,u5,u6,D.cells,Nat.reduceAdd,aq,az,ax,ai,dp,ae,Pg.cs,ju] at hH;refine zQ 4 ?_;refine EvO.hloadS (m:=12) hH rfl (ev rfl) (by exact at0) (by dsimp only[List.drop_succ_cons,List.drop_zero,List.take_succ_cons,List.take_zero,aq,az,ax,ai,dp,ae,Pg.cs,ju]<;>rfl) rfl rfl (put_T rfl _) ?_;refine qh (s:=12) (vs:=[_]) hH fun k30 st Tm hH=>?_;refine EvO.happend (s:=12) hH rfl (ev rfl) (ev rfl) (by exact at2) (by exact hH.rows (by exact at0)) rfl rfl rfl rfl rfl rfl rfl ⟨(Nat.le_of_ble_eq_true rfl),(Nat.le_of_ble_eq_true rfl)⟩ (fun _=>(put_T rfl _)) (by simp only[List.length_cons,List.length_nil,List.length_map]<;>omega) (by exact .inl hF) (fun Rh st hH=>?_);dsimp only[u2,u1,u3,u4,setMany,u5,u6,D.cells,Nat.reduceAdd,aq,az,ax,ai,dp,ae,Pg.cs,ju] at hH;refine zQ 7 ?_;exact⟨mm-1,by omega,⟨i+1,Rh,rfl,(by rw[List.take_add_one,hge,Option.toList_some,List.map_append,hB];exact hH.drop 2),by omega⟩⟩
 ·refine zQ 6 ?_;have hil:i=L.length:=by omega
  rw[List.take_of_length_le (by simp;omega)] at hH;have h1:=hH.uC at0 (L:=s0.bs.length) (fun k hk=>((hH.ok 0 _ at0).2 k hk).1) (DD _) (n:=16) (by decide);rw[DC (by intro l hl;obtain⟨q,_,rfl⟩:=List.mem_map.1 hl;rfl)] at h1;refine EvC.ret ⟨rx,_,rfl,rl hSb hH h1⟩
def PL.v (l:PL):VL:=⟨l.dn,l.aD,I6 l.aM,l.aM⟩
theorem AJ {s0:St} {p:Pg} {pl:Nat} {x:D} {V:List VL} {L:List PL} (hp:p.ok) (hR:aX p) (hpl:pl≤4000000000000) (hx:SlD x 12 (V.map dp)) (hV:∀l∈V,SlD l.td 11 (l.aM.map az)) (HY:V.map VL.pl=L) (hLl:L.length=p.af.length) (hok:∀l∈L,l.ok p.code.length):
  Ev pv 27 [p.d,.agg [.int .i64 (pl:Nat),x]] s0 (lu (L.map (gU p.code pl))) s0:=
 AK hp hR hpl (hx.rows s0) (fun l hl=>(hV l hl).rows s0) HY hLl hok
theorem Eo (L:List PL):(L.map PL.v).map dp=L.map fV:=by rw[List.map_map];rfl
theorem Mi (L:List PL):(L.map PL.v).map VL.pl=L:=by rw[List.map_map];exact List.map_id L
theorem Mh (L:List PL):∀l∈L.map PL.v,SlD l.td 11 (l.aM.map az):=by
 intro l hl;obtain⟨q,_,rfl⟩:=List.mem_map.1 hl;exact BQ _
theorem Cb {s0:St} {p:Pg} {pl:Nat} {L:List PL} (hp:p.ok) (hR:aX p) (hpl:pl≤4000000000000) (hLl:L.length=p.af.length) (hok:∀l∈L,l.ok p.code.length):
  Ev pv 27 [p.d,zt pl L] s0 (lu (L.map (gU p.code pl))) s0:=
 AJ hp hR hpl (x:=lu L) (V:=L.map PL.v) (by rw[Eo];exact pG L) (Mh L) (Mi L) hLl hok
def aT (fr:Go.V.Fr) (k:Nat):Go.V.D:=Go.V.nth .junk fr.loc k
theorem AH (fQ:∀st,Ev pv 71 [] st (.agg (ai bG)) st) {s0:St} {p:Pg} {pl:Nat} {x:D} {V:List VL} {L:List PL} {r n:Int} (hp:p.ok) (hR:aX p) (hpl:pl≤3000000000000) (hx:Go.V.Rows s0 12 x (V.map dp)) (hV:∀l∈V,Go.V.Rows s0 11 l.td (l.aM.map az)) (HY:V.map VL.pl=L) (hLl:L.length=p.af.length) (hok:∀l∈L,l.ok p.code.length):
  Ev pv 26 [p.d,.agg [.int .i64 (pl:Nat),x],.int .i32 r,.int .i64 n] s0 (zt (pl+dg n) (cC p.code pl r (bw p) L)) s0:=by
 have JI:=hR.sl;have TU:V.length=L.length:=by rw[←HY,List.length_map]
 have hex:∀(st:St) (l:VL),l∈V→Go.V.Rows st 11 l.td (l.aM.map az)→l.pl.ok p.code.length→∃r,Ev pv 73 [p.d,.agg (dp l),.int .i64 (pl:Nat),.bool false] st r st∧∃rd,r=.tup [.agg (ax (jJ p.code pl false l.aM (iz p.code.length l.dn l.aD)).dn (jJ p.code pl false l.aM (iz p.code.length l.dn l.aD)).aD .nul),rd]∧SlD rd 11 ((jJ p.code pl false l.aM (iz p.code.length l.dn l.aD)).rdy.map az):=fun st l hl hrw h=>nS hp hR (by omega) hrw h.1 (by have:l.aM.length≤1000:=h.2;omega);have MQ:=dG hx;have QH:=nD n;have fc:(bw p).length=L.length:=by unfold bw;rw[List.length_map,hLl]
 unfold Pg.d at*;refine Ev.mk1 rfl O9 rfl rfl rfl ?_;refine zE ?_;obtain⟨hSb,hF,hH⟩:=ri s0;generalize enterSt .ro s0=S at*;have hla:=Arg.of hx hSb;have hc:=hp.c.arg s0.bs.length S;have hs:=hp.s.arg s0.bs.length S;refine zQ 2 ?_;refine qb hH fun k4 st IM hH=>?_;dsimp only[u2,u1,u3,u4,setMany,u5,u6,D.cells,Nat.reduceAdd,aq,az,ax,ai,dp,ae,Pg.cs] at hH;refine qb hH fun k5 st zO hH=>?_;refine qa hH fun k8 st hk8 hH=>?_;refine zQ 3 ?_;refine EvC.jh (fun fr st=>∃(n1:Int) (tmp:List (Nat×D)),fr=⟨14,[aT fr 0,aT fr 1,.int .i32 r,.int .i64 n1,.ptr k4 0 0,.ptr k5 0 0,aT fr 6,aT fr 7,.ptr k8 0 0,aT fr 9,aT fr 10,aT fr 11,aT fr 12,aT fr 13],tmp⟩∧Has s0.bs.length S st [.box k8 (.mem 0 false [.int .i64 0,.nul]),.box k5 (.mem 0 false [.int .i64 (pl:Nat),x]),.box k4 (.mem 0 false [p.cd,p.sd])]∧(n1=max n 0)) ?_ ?_
 ·refine zQ 4 ?_;refine zP (fun h1=>?_) fun h1=>?_
  ·refine zQ 3 ?_;exact⟨0,_,rfl,hH,by omega⟩
  ·refine zQ 1 ?_;exact⟨n,_,rfl,hH,by omega⟩
 rintro fr st ⟨n1,tmp,hfr,hH,yk⟩;rw[hfr];clear hfr;generalize aT fr=ee;clear fr;refine zQ 2 ?_;refine EvC.jh (fun fr st=>∃(n2:Int) (tmp:List (Nat×D)),fr=⟨14,[aT fr 0,aT fr 1,.int .i32 r,.int .i64 n2,.ptr k4 0 0,.ptr k5 0 0,aT fr 6,aT fr 7,.ptr k8 0 0,aT fr 9,aT fr 10,aT fr 11,aT fr 12,aT fr 13],tmp⟩∧Has s0.bs.length S st [.box k8 (.mem 0 false [.int .i64 0,.nul]),.box k5 (.mem 0 false [.int .i64 (pl:Nat),x]),.box k4 (.mem 0 false [p.cd,p.sd])]∧(n2=min (max n 0) 4)) ?_ ?_
 ·refine zQ 4 ?_;refine zP (fun h1=>?_) fun h1=>?_
  ·refine zQ 3 ?_;exact⟨4,_,rfl,hH,by omega⟩
  ·refine zQ 1 ?_;exact⟨n1,_,rfl,hH,by omega⟩
 rintro fr st ⟨n2,tmp,hfr,hH,HB⟩;rw[hfr];clear hfr;generalize aT fr=ee;clear fr;have Og:((pl:Nat):Int)+n2=((pl+dg n:Nat):Int):=by unfold dg;omega
 refine zQ 5 ?_;refine EvO.ke (z:=((pl+dg n:Nat):Int)) rfl (ev rfl) (ev rfl) (by rw[Og];exact dD (by simp only[kP];omega)) (put_T rfl _) ?_;refine qg ?_;refine qa hH fun k9 st NK hH=>?_;refine qS hH at0 fun st hH=>?_;dsimp only[u2,u1,u3,u4,setMany,u5,u6,D.cells,Nat.reduceAdd,aq,az,ax,ai,dp,ae,Pg.cs] at hH;refine zQ 1 ?_;have hH:=hH.GX 12;refine zQ 6 ?_;refine EvC.loop (fun mm fr st=>∃(k:Nat) (y:D) (ks:Nat→Prop),fr.clean=⟨14,[aT fr 0,aT fr 1,.int .i32 r,aT fr 3,.ptr k4 0 0,.ptr k5 0 0,aT fr 6,aT fr 7,.ptr k8 0 0,.ptr k9 0 0,.int .i64 (k:Nat),aT fr 11,aT fr 12,aT fr 13],[]⟩∧Has s0.bs.length S st [.deep ks y 12 (((cC p.code pl r (bw p) L).take k).map fV),.box k9 (.mem 0 false [.int .i64 ((pl+dg n:Nat):Nat),y]),.box k8 (.mem 0 false [.int .i64 0,.nul]),.box k5 (.mem 0 false [.int .i64 (pl:Nat),x]),.box k4 (.mem 0 false [p.cd,p.sd])]∧(k+mm=V.length)) (V.length) ?_ ?_
 ·exact⟨0,.nul,_,rfl,hH,by omega⟩
 rintro mm fr st ⟨k,y,ks,hfr,hH,hk⟩;rw[hfr];clear hfr;generalize aT fr=ee;clear fr;refine zQ 6 ?_;refine qn ?_;simp only[List.length_map];refine zQ 2 ?_;refine zP (fun hlt=>?_) fun hlt=>?_
 ·refine zQ 1 ?_;have ij:k<L.length:=by omega
  obtain⟨mo,rfl⟩:∃mo,mm=mo+1:=⟨mm-1,by omega⟩
  obtain⟨l,L4⟩:∃l,V[k]?=some l:=⟨V[k]'(by omega),List.getElem?_eq_getElem _⟩
  have hl:L[k]?=some l.pl:=by rw[←HY,List.getElem?_map,L4];rfl
  obtain⟨start,JG,e_,Sb⟩:=u9 hR (i:=k) (by omega);have Sf:=dc JG;have hr1:=oW L4;have wC:=hok l.pl (List.mem_of_getElem? hl);have hge:=lg p.code pl r (bw p) L k start l.pl e_ hl;have lI:(((cC p.code pl r (bw p) L).take k).map fV).length≤1048576:=by rw[List.length_map,List.length_take];omega
  obtain⟨hb1,hb2⟩:=mE (code:=p.code) (pl:=pl) (e:=false) (l:=l.aM) (dn:=l.dn) (aD:=l.aD);obtain⟨_,hev,rd,rfl,uo⟩:=hex st l (List.mem_of_getElem? L4) ((Arg.of (hV l (List.mem_of_getElem? L4)) hSb).rows hH) wC;unfold eV VL.pl at hge;dsimp only at hge;generalize jJ p.code pl false l.aM (iz p.code.length l.dn l.aD)=W at*;have Si:=uo.arg s0.bs.length S;generalize hB:((cC p.code pl r (bw p) L).take k).map fV=B at*;refine zQ 4 ?_;refine EvO.hloadS (m:=2) hH rfl (ev rfl) (by exact at4) (by dsimp only[List.drop_succ_cons,List.drop_zero,List.take_succ_cons,List.take_zero,aq,az,ax,ai,dp,ae,Pg.cs]<;>rfl) rfl rfl (put_T rfl _) ?_;refine zQ 3 ?_;refine qr fun IA A_=>?_;refine EvO.bF rfl (ev rfl) (by assumption) rfl (put_T rfl _) ?_;refine zQ 2 ?_;refine qv hev ?_;refine zQ 3 ?_;refine qa hH fun k11 st hk11 hH=>?_;refine qS hH at0 fun st hH=>?_;dsimp only[u2,u1,u3,u4,setMany,u5,u6,D.cells,Nat.reduceAdd,aq,az,ax,ai,dp,ae,Pg.cs] at hH;refine zQ 2 ?_;have hH:=hH.nulE 11;refine zQ 5 ?_
  obtain⟨A0,hA⟩:∃A,eZ p.code r W.rdy []=A:=⟨_,rfl⟩
  rw[hA] at hge;refine zQ 1 ?_;refine EvC.loop (fun mm fr st=>∃(j:Nat) (acc rest:List eQ) (td:D),fr.clean=⟨14,[aT fr 0,aT fr 1,.int .i32 r,aT fr 3,.ptr k4 0 0,.ptr k5 0 0,aT fr 6,aT fr 7,.ptr k8 0 0,.ptr k9 0 0,.int .i64 (k:Nat),.ptr k11 0 0,rd,.int .i64 (j:Nat)],[]⟩∧Has s0.bs.length S st [.lst td 11 (acc.map az),.box k11 (.mem 0 false (ax W.dn W.aD td)),.deep ks y 12 B,.box k9 (.mem 0 false [.int .i64 ((pl+dg n:Nat):Nat),y]),.box k8 (.mem 0 false [.int .i64 0,.nul]),.box k5 (.mem 0 false [.int .i64 (pl:Nat),x]),.box k4 (.mem 0 false [p.cd,p.sd])]∧(j+mm=W.rdy.length)∧(rest=W.rdy.drop j)∧(eZ p.code r rest acc=A0)∧(acc.length≤j)) (W.rdy.length) ?_ ?_
  ·exact⟨0,[],W.rdy,.nul,rfl,hH,by omega,rfl,hA,by simp⟩
  rintro mm fr st ⟨j,acc,rest,td,hfr,hH,hj,iy,nv,hal⟩;rw[hfr];clear hfr;generalize aT fr=ee;clear fr;refine zQ 5 ?_;refine qn ?_;simp only[List.length_map];refine zQ 2 ?_;refine zP (fun NH=>?_) fun NH=>?_
  ·refine zQ 1 ?_;have iV:j<W.rdy.length:=by omega
   obtain⟨t,ht⟩:∃t,W.rdy[j]?=some t:=⟨W.rdy[j]'iV,List.getElem?_eq_getElem _⟩
   have Fh:=kq ht;obtain⟨ii,hii,L5⟩:=hb2 t (List.mem_of_getElem? ht);have Ge:=pg hR ⟨ii,hii,L5⟩;have kW:=de hii;have BE:=hp.i ii (List.mem_of_getElem? hii);have CX:=BE.1;have CY:=CX.arg s0.bs.length S;have M9:=BE.2;have hcl:=hR.cl
   have wG:rest=t::W.rdy.drop (j+1):=by
    rw[iy,List.drop_eq_getElem_cons iV]
    congr 1
    exact Option.some.inj ((List.getElem?_eq_getElem _).symm.trans ht)
   rw[wG] at nv;have Hi:vq p.code t.pc=ii.rs:=by unfold vq;rw[hii]
   unfold eZ at nv;rw[Hi] at nv;refine zQ 8 ?_;refine qr fun RE Ns=>?_;refine qf (fo:=0) fun U_ SL=>?_;refine qR ?_;refine qr fun PT JN=>?_;refine qf (fo:=3) fun Mt Hq=>?_;refine zQ 2 ?_;refine qv (mS (CY.rows hH) (by omega)) ?_;refine zQ 1 ?_
   cases hh:gd ii.rs r with
   |false=>
    rw[hh,if_neg (by decide)] at nv;refine zQ 7 ?_;exact⟨mm-1,by omega,⟨j+1,acc,W.rdy.drop (j+1),td,rfl,hH,by omega,rfl,nv,by omega⟩⟩
   |true=>
    rw[hh,if_pos rfl] at nv;refine qB ?_;have TS:=rz acc ⟨t.pc+1,t.c⟩;refine zQ 5 ?_;refine qr fun Ms Hp=>?_;refine qf (fo:=0) fun RD Nr=>?_;refine zQ 4 ?_;refine qr fun UZ Sz=>?_;refine qf (fo:=1) fun RC Nq=>?_;refine qR ?_;refine EvO.go (d:=.agg (az ⟨t.pc+1,t.c⟩)) (st1:=_) rfl rfl rfl (put_T rfl _) ?_;obtain⟨Mk,st,hev,hH⟩:=Cf (t:=⟨t.pc+1,t.c⟩) hF (by omega) hH;refine qv hev ?_;refine zQ 1 ?_;refine qT hH at1 (fun st hH=>?_) (gQ:=hH.ocells at0);dsimp only[u2,u1,u3,u4,setMany,u5,u6,D.cells,Nat.reduceAdd,aq,az,ax,ai,dp,ae,Pg.cs] at hH;refine zQ 6 ?_;exact⟨mm-1,by omega,⟨j+1,jD acc ⟨t.pc+1,t.c⟩,W.rdy.drop (j+1),Mk,rfl,hH,by omega,rfl,nv,by omega⟩⟩
  ·refine zQ 1 ?_;have uw:rest=[]:=by rw[iy,List.drop_eq_nil_iff];omega
   subst uw;have nv:acc=A0:=nv;subst nv;clear hA iy;refine zQ 2 ?_;refine EvC.jh (fun fr st=>∃(aM:List eQ) (td:D) (tmp:List (Nat×D)),fr=⟨14,[aT fr 0,aT fr 1,.int .i32 r,aT fr 3,.ptr k4 0 0,.ptr k5 0 0,aT fr 6,aT fr 7,.ptr k8 0 0,.ptr k9 0 0,.int .i64 (k:Nat),.ptr k11 0 0,aT fr 12,aT fr 13],tmp⟩∧Has s0.bs.length S st [.lst td 11 (aM.map az),.box k11 (.mem 0 false (ax W.dn W.aD td)),.deep ks y 12 B,.box k9 (.mem 0 false [.int .i64 ((pl+dg n:Nat):Nat),y]),.box k8 (.mem 0 false [.int .i64 0,.nul]),.box k5 (.mem 0 false [.int .i64 (pl:Nat),x]),.box k4 (.mem 0 false [p.cd,p.sd])]∧(aM=(if W.dn=true then acc else jD acc ⟨start,bG⟩))) ?_ ?_
   ·refine zQ 5 ?_
    cases Kq:W.dn with
    |true=>
     rw[Kq] at hH;refine zQ 2 ?_;exact⟨acc,td,_,rfl,hH,rfl⟩
    |false=>
     rw[Kq] at hH;refine zQ 7 ?_;refine qr fun Ry Nj=>?_;refine qR ?_;refine qv (fQ _) ?_;refine EvO.go (d:=.agg (az ⟨start,bG⟩)) (st1:=_) rfl rfl rfl (put_T rfl _) ?_;obtain⟨Mk,st,hev,hH⟩:=Cf (t:=⟨start,bG⟩) hF (by have:=hR.cl;omega) hH;refine qv hev ?_;refine zQ 1 ?_;refine qT hH at1 (fun st hH=>?_) (gQ:=hH.ocells at0);dsimp only[u2,u1,u3,u4,setMany,u5,u6,D.cells,Nat.reduceAdd,aq,az,ax,ai,dp,ae,Pg.cs] at hH;refine zQ 1 ?_;exact⟨jD acc ⟨start,bG⟩,Mk,_,rfl,hH,by rw[if_neg (by decide)]⟩
   ·rintro fr st ⟨aM,td,tmp,hfr,hH,yh⟩;rw[hfr];clear hfr;generalize aT fr=ee;clear fr;refine zQ 3 ?_;refine EvO.hloadS (m:=12) hH rfl (ev rfl) (by exact at1) (by dsimp only[List.drop_succ_cons,List.drop_zero,List.take_succ_cons,List.take_zero,aq,az,ax,ai,dp,ae,Pg.cs]<;>rfl) rfl rfl (put_T rfl _) ?_;refine qh (s:=12) (vs:=[_]) hH fun k93 st S4 hH=>?_;dsimp only[u2,u1,u3,u4,setMany,u5,u6,D.cells,Nat.reduceAdd,aq,az,ax,ai,dp,ae,Pg.cs] at hH;obtain⟨hH,Kr⟩:=hH.yV (i:=1) (j:=3) (by decide) at1 at3 (kj _);dsimp only[u1,u2] at hH;refine EvO.me hH rfl rfl rfl at3 (hH.rows at0) (.cons (Ie (dn:=W.dn) (f:=W.aD) Kr) .nil) rfl rfl rfl rfl rfl rfl rfl ⟨(Nat.le_of_ble_eq_true rfl),(Nat.le_of_ble_eq_true rfl)⟩ (fun _=>(put_T rfl _)) (by show _+1≤_;omega) (.inl hF) (fun Q0 st hH=>?_);dsimp only[u1,u2] at hH;refine zQ 1 ?_;refine EvO.lA hH rfl (ev rfl) (ev rfl) (by exact hH.dcells (by exact at3)) (by exact rfl) (by exact at4) (by exact Nat.le_of_ble_eq_true rfl) (by exact .inl hF) (fun st hH=>?_);dsimp only[u2,u1,u3,u4,setMany,u5,u6,D.cells,Nat.reduceAdd,aq,az,ax,ai,dp,ae,Pg.cs] at hH;refine zQ 6 ?_;rw[yh] at hH;exact⟨mo,by omega,⟨k+1,Q0,_,rfl,(by rw[List.take_add_one,hge,Option.toList_some,List.map_append,hB];exact hH.drop 3),by omega⟩⟩
 ·refine zQ 3 ?_;refine EvO.hloadS (m:=2) hH rfl (ev rfl) (by exact at1) (by dsimp only[List.drop_succ_cons,List.drop_zero,List.take_succ_cons,List.take_zero,aq,az,ax,ai,dp,ae,Pg.cs]<;>rfl) rfl rfl (put_T rfl _) ?_;refine qS hH at2 fun st hH=>?_;dsimp only[u2,u1,u3,u4,setMany,u5,u6,D.cells,Nat.reduceAdd,aq,az,ax,ai,dp,ae,Pg.cs] at hH;refine zQ 1 ?_;have ij:k=L.length:=by omega
  have lC:(cC p.code pl r (bw p) L).take k=cC p.code pl r (bw p) L:=by
   rw[List.take_of_length_le];rw[iX _ _ _ _ _ fc];omega
  rw[lC] at hH;have h1:=hH.qI at0 (n:=14) (by decide)
  have h3:aQ st s0.bs.length false 16 (.agg [.int .i64 ((pl+dg n:Nat):Nat),y])=some (zt (pl+dg n) (cC p.code pl r (bw p) L)):=by
   show(fp (aQ st s0.bs.length false 15) [.int .i64 ((pl+dg n:Nat):Nat),y]).map D.agg=_;simp only[fp,h1]
   rfl
  refine EvC.ret ⟨rx,_,hH.oI rfl at2 rfl,rl hSb hH h3⟩
open Go.V Go Go.RowKit
theorem oU (code:List aC) (pl:Nat) (e:Bool):∀(f:Nat) (w:Wk) (t:eQ),bm (code.map dK) pl e f w t=bm code pl e f w t
 |0,_,_=>rfl
 |f+1,w,t=>by
  unfold bm;simp only[oU code pl e f,List.getElem?_map]
  cases code[t.pc]? with
  |none=>rfl
  |some i=>rfl
theorem qX (code:List aC) (pl:Nat) (e:Bool):∀(l:List eQ) (w:Wk),jJ (code.map dK) pl e l w=jJ code pl e l w
 |[],_=>rfl
 |t::ts,w=>by
  unfold jJ;simp only[oU,List.length_map,qX code pl e ts]
theorem AB (code:List aC) (k:Nat):vq (code.map dK) k=vq code k:=by
 unfold vq;rw[List.getElem?_map];cases code[k]?<;>rfl
theorem pA (code:List aC) (r:Int):∀(l a:List eQ),eZ (code.map dK) r l a=eZ code r l a
 |[],_=>rfl
 |t::ts,a=>by unfold eZ;simp only[AB,pA code r ts]
theorem xu (code:List aC) (pl s:Nat) (r:Int) (l:PL):eV (code.map dK) pl s r l=eV code pl s r l:=by
 unfold eV;simp only[qX,pA,List.length_map]
theorem nM (code:List aC) (pl:Nat) (r:Int):∀(ss:List Nat) (ls:List PL),cC (code.map dK) pl r ss ls=cC code pl r ss ls
 |[],_=>rfl
 |_::_,[]=>rfl
 |s::ss,l::ls=>by simp only[cC,xu,nM code pl r ss ls]
theorem Bj (code:List aC) (pl:Nat):gU (code.map dK) pl=gU code pl:=by
 funext l;unfold gU;simp only[qX,List.length_map]
theorem uO.bw {p q:Pg} (h:uO p q):bw q=bw p:=by unfold Go.Proofs.YtnleclohocdkaaaGreat.bw;rw[h.af]
theorem rZ {p:Pg} (hR:aX p) {pl:Nat} {r:Int}:∀{ss:List Nat} {ls:List PL},(∀s∈ss,s<p.code.length)→∀l∈cC p.code pl r ss ls,l.ok p.code.length
 |[],_,_,l,hl=>by cases hl
 |_::_,[],_,l,hl=>by cases hl
 |s::ss,x::ls,hs,l,hl=>by
  simp only[cC,List.mem_cons] at hl
  rcases hl with rfl|hl
  ·exact BU hR (hs s (List.mem_cons_self ..))
  ·exact rZ hR (fun s h=>hs s (List.mem_cons_of_mem _ h)) l hl
theorem xv {p:Pg} (hR:aX p):∀s∈bw p,s<p.code.length:=by
 intro s hs;obtain⟨v,hv,rfl⟩:=List.mem_map.1 hs;have:=hR.st v hv;omega
theorem rm {x y:Oper} {fi fj:Fr} {si oE sj D6:St} {a:Operand} {k av off v:Nat} {ar:Bool} {c:List D} (hy:fO y.op=some a) (ha:fj.ev a=.ptr k av off) (h1:si.bs[k]?=some (.mem v ar c)) (h2:oE.bs[k]?=some (.mem v ar c)):gB x fi si oE y fj sj D6=true:=by
 unfold gB;simp only[hy,ha,D.lF];exact mI h1 h2
end Go.Proofs.YtnleclohocdkaaaGreat
