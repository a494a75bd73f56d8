/-
 The code of a repeat. %deep
-/
import Derived.Test.YtbdnabmmlbiomaaXGQd
import Derived.Test.YtbdnabmmlbiomaaXGPf
import Derived.Test.YtbdnabmmlbiomaaXGM3
import Derived.Test.YtbdnabmmlbiomaaXGCa
set_option maxRecDepth 100000
set_option maxHeartbeats 4000000
set_option linter.unusedSimpArgs false
set_option linter.unusedVariables false
namespace Go.Proofs.Ytbdnabmmlbiomaa
open Go.V Go
def aa (fr:Go.V.Fr) (k:Nat):Go.V.D:=Go.V.nth .bp fr.loc k
theorem ov {c:Nat→List aP} (hc:∀b,(c b).length=0) (z:Nat):∀k b,er c z k b=[]
 |0,_=>rfl
 |k+1,b=>by rw[er,ov hc z k,List.length_eq_zero_iff.1 (hc b)];rfl
theorem xA (s o:Nat) (lz:Bool):∃x y:Int,j8 s o lz=b7 2 x y []:=by
 cases lz
 ·exact⟨_,_,rfl⟩
 ·exact⟨_,_,rfl⟩
theorem wa {l:List dj} (zB:l.length≤1048576) {m:Nat} (ih:∀t:Tr,t.flat.length≤m→nR l t) {n:dj} {t:Tr} (ez:n.op=5) (OZ:t.flat.length≤m) (lp:rR n 1) (lY:t.ok) {N k:Nat} {S s0:St} {H:List bT} {nd zd ed:D} {code:List aP} {Z E:List Int} {at_:Nat} (hF:S.flr≤N) (tW:gR nd 7 (l.map a8)) (jz:eH l at_ (n::t.flat)) (hsz:eH Z (at_+1) t.zs) (w_:eH E (at_+1) (t.es (at_+1))) (hb:code.length+bz n t.sz 1≤1000000) (hM:IC N S s0 k nd zd ed Z E H code):
  ∃r ah,Ev pv 66 [.ptr k 0 0,.int .i64 (at_:Nat)] s0 r ah∧r=.tup []∧IC N S ah k nd zd ed Z E H (code++kU n (aG t) t.sz code.length):=by
 obtain⟨cd,dk,hH⟩:=hM;have hle:=jz.le (by simp);simp only[List.length_cons] at hle;have hn:=jz.head;have jz:=jz.tail;have gM:=jk hn;have nh:=ey (uJ hsz)
 have xh:0≤n.mn∧n.mn≤30∧(n.mx=-1∨(n.mn≤n.mx∧n.mx≤30)):=by
  obtain⟨_,hq⟩:=lp;omega
 have CU:bz n t.sz 1=if n.mx=-1 then n.mn.toNat*t.sz+t.sz+2 else n.mn.toNat*t.sz+(n.mx.toNat-n.mn.toNat)*(t.sz+1):=by unfold bz;rw[if_neg (by omega),if_neg (by omega),if_neg (by omega),if_pos ez]
 rw[CU] at hb;clear CU;have wC:=fun b=>bS t b lY;have hb1:code.length+n.mn.toNat*t.sz≤1000000:=by split at hb<;>omega
 refine Ev.lX rfl Nt rfl rfl rfl ?_;dsimp only[u3,u4,List.length,Nat.reduceSub,Nat.reduceAdd,w1,w2];change ag _ _ _ _ s0 _;have hc:=tW.arg N S;refine qq<|qj fun K hK=>qm ?_;refine qg ?_;refine qp (o:=1) ?_;refine ql hH aB ?_;refine qm ?_;refine qr fun PT L_=>?_;refine ab.eo rfl (ev rfl) (by assumption) rfl (by dsimp only[Fr.put,u1,u2]<;>rfl) ?_;refine qm ?_;refine qA ?_;refine qa hH fun k4 st KM hH=>?_;refine qS hH aB fun st hH=>?_;dsimp only[u2,u1,u3,u4,setMany,u5,u6,D.cells,Nat.reduceAdd,aU,a8,av,iM] at hH;refine qm ?_;refine qe hK ?_;have hH:Has N S st (.box k (.mem 0 false [cd,nd,zd,ed])::.deep dk cd 4 (code.map aU)::.aN zd 1 (Z.map av)::.aN ed 1 (E.map av)::.box k4 (.mem 0 false (a8 n))::H):=hH.Cn;refine qq<|qq<|qj fun K hK=>qm ?_;refine qg ?_;refine qp (o:=2) ?_;refine ql hH aB ?_;refine qm ?_;refine qi hH ei fun Oy JE=>?_;refine qo hH ei ?_;refine qg ?_;refine qe hK ?_;have R1:=iF wC n.mn.toNat code.length;refine ag.merge (fun fr st=>∃(cd:D) (dk:Nat→Prop) (tmp:List (Nat×D)),fr=⟨78,[.ptr k 0 0,.int .i64 (at_:Nat),aa fr 2,aa fr 3,.ptr k4 0 0,.int .i64 ((at_+1:Nat):Int),aa fr 6,aa fr 7,aa fr 8,aa fr 9,aa fr 10,aa fr 11,aa fr 12,aa fr 13,aa fr 14,aa fr 15,aa fr 16,aa fr 17,aa fr 18,aa fr 19,aa fr 20,aa fr 21,aa fr 22,aa fr 23,aa fr 24,aa fr 25,aa fr 26,aa fr 27,aa fr 28,aa fr 29,aa fr 30,aa fr 31,aa fr 32,aa fr 33,aa fr 34,aa fr 35,aa fr 36,aa fr 37,aa fr 38,aa fr 39,aa fr 40,aa fr 41,aa fr 42,aa fr 43,aa fr 44,aa fr 45,aa fr 46,aa fr 47,aa fr 48,aa fr 49,aa fr 50,aa fr 51,aa fr 52,aa fr 53,aa fr 54,aa fr 55,aa fr 56,aa fr 57,aa fr 58,aa fr 59,aa fr 60,aa fr 61,aa fr 62,aa fr 63,aa fr 64,aa fr 65,aa fr 66,aa fr 67,aa fr 68,aa fr 69,aa fr 70,aa fr 71,aa fr 72,aa fr 73,aa fr 74,aa fr 75,aa fr 76,aa fr 77],tmp⟩∧Has N S st (.box k (.mem 0 false [cd,nd,zd,ed])::.deep dk cd 4 ((code++er (aG t) t.sz n.mn.toNat code.length).map aU)::.aN zd 1 (Z.map av)::.aN ed 1 (E.map av)::.box k4 (.mem 0 false (a8 n))::H)) ?_ ?_
 ·refine ag.cond (by rfl) (fun hz=>?_) (fun hz=>?_)<;>try simp only[decide_eq_true_eq,decide_eq_false_iff_not] at hz
  ·refine qq<|qj fun K hK=>qp (o:=2) ?_;refine ql hH iv ?_;refine qm ?_;refine qe hK<|ag.block<|ag.loop (fun mm fr st=>∃(i:Nat) (cd:D) (dk:Nat→Prop) (aV:List aP),fr.clean=⟨78,[.ptr k 0 0,.int .i64 (at_:Nat),aa fr 2,aa fr 3,.ptr k4 0 0,.int .i64 ((at_+1:Nat):Int),aa fr 6,aa fr 7,aa fr 8,aa fr 9,aa fr 10,aa fr 11,aa fr 12,aa fr 13,aa fr 14,aa fr 15,aa fr 16,aa fr 17,aa fr 18,aa fr 19,aa fr 20,aa fr 21,aa fr 22,aa fr 23,aa fr 24,aa fr 25,aa fr 26,aa fr 27,.int .i64 n.mn,.int .i64 (i:Nat),aa fr 30,aa fr 31,aa fr 32,aa fr 33,aa fr 34,aa fr 35,aa fr 36,aa fr 37,aa fr 38,aa fr 39,aa fr 40,aa fr 41,aa fr 42,aa fr 43,aa fr 44,aa fr 45,aa fr 46,aa fr 47,aa fr 48,aa fr 49,aa fr 50,aa fr 51,aa fr 52,aa fr 53,aa fr 54,aa fr 55,aa fr 56,aa fr 57,aa fr 58,aa fr 59,aa fr 60,aa fr 61,aa fr 62,aa fr 63,aa fr 64,aa fr 65,aa fr 66,aa fr 67,aa fr 68,aa fr 69,aa fr 70,aa fr 71,aa fr 72,aa fr 73,aa fr 74,aa fr 75,aa fr 76,aa fr 77],[]⟩∧Has N S st (.box k (.mem 0 false [cd,nd,zd,ed])::.deep dk cd 4 (aV.map aU)::.aN zd 1 (Z.map av)::.aN ed 1 (E.map av)::.box k4 (.mem 0 false (a8 n))::H)∧(i+mm=n.mn.toNat)∧(aV++er (aG t) t.sz mm aV.length=code++er (aG t) t.sz n.mn.toNat code.length)∧(aV.length+mm*t.sz=code.length+n.mn.toNat*t.sz)) (n.mn.toNat) ?_ ?_
   ·exact⟨0,cd,dk,code,rfl,hH,by omega,rfl,rfl⟩
   rintro mm fr st ⟨i,cd,dk,aV,hfr,hH,hi,tg,hcl⟩;rw[hfr];clear hfr;generalize aa fr=ee;clear fr;refine qq<|qj fun K hK=>qg ?_;refine qe hK ?_
   cases mm with
   |zero=>
    have fG:decide ((i:Int)<n.mn)=false:=by rw[decide_eq_false_iff_not];omega
    refine qq<|qE rfl (by rw[fG]) ?_;simp only[er,List.append_nil] at tg;rw[tg] at hH;refine ag.exit ?_;exact⟨cd,dk,_,rfl,hH⟩
   |succ mm=>
    have fG:decide ((i:Int)<n.mn)=true:=by rw[decide_eq_true_eq];omega
    rw[Nat.succ_mul] at hcl;refine qq<|qD rfl (by rw[fG]) ?_;refine ag.skip<|qq<|ag.block<|qj fun K hK=>qm ?_;refine qm ?_;obtain⟨_,st,aM,rfl,cd,dk,hH⟩:=ih t (by omega) hF tW jz hsz w_ lY (by omega) ⟨cd,dk,hH⟩;refine qv aM ?_;refine qe hK<|qj fun K hK=>qA ?_;refine qm ?_;refine qe hK ?_;exact⟨mm,by omega,⟨i+1,cd,dk,aV++aG t aV.length,rfl,hH,by omega,by rw[List.length_append,wC,List.append_assoc];exact tg,by rw[List.length_append,wC];omega⟩⟩
  ·refine ag.skip ?_;have hz0:t.sz=0:=by omega
   have HN:er (aG t) t.sz n.mn.toNat code.length=[]:=ov (fun b=>by rw[wC,hz0]) _ _ _;exact⟨cd,dk,_,rfl,(by rw[HN,List.append_nil];exact hH)⟩
 ·rintro fr st ⟨cd,dk,tmp,hfr,hH⟩;rw[hfr];clear hfr;generalize aa fr=ee;clear fr;have KU:(code++er (aG t) t.sz n.mn.toNat code.length).length=code.length+n.mn.toNat*t.sz:=by rw[List.length_append,R1]
  unfold kU;rw[←KU];rw[←KU] at hb1
  have hb2:if n.mx=-1 then(code++er (aG t) t.sz n.mn.toNat code.length).length+t.sz+2≤1000000 else(code++er (aG t) t.sz n.mn.toNat code.length).length+(n.mx.toNat-n.mn.toNat)*(t.sz+1)≤1000000:=by
   rw[KU];split
   ·rename_i h;rw[if_pos h] at hb;omega
   ·rename_i h;rw[if_neg h] at hb;omega
  have C4:∀X:List aP,code++(er (aG t) t.sz n.mn.toNat code.length++X)=code++er (aG t) t.sz n.mn.toNat code.length++X:=fun X=>by rw[List.append_assoc]
  simp only[apply_ite (fun X:List aP=>code++X),C4];clear C4 KU;generalize code++er (aG t) t.sz n.mn.toNat code.length=cR at*;refine qq<|qq<|qj fun K hK=>qp (o:=3) ?_;refine ql hH iv ?_;refine qg ?_;refine qe hK ?_
  by_cases xO:n.mx=-1
  ·rw[if_pos xO];rw[if_pos xO] at hb2;refine qD rfl (by simp[xO]) ?_;refine qq<|qj fun K hK=>qm ?_;refine ab.go (d:=.agg [.int .i64 2,.int .i64 0,.int .i64 0,.nul]) (st1:=_) rfl rfl rfl (by dsimp only[Fr.put,u1,u2]<;>rfl) ?_;have hH:=hH.fc 2;obtain⟨_,st,aM,rfl,cd,dk,hH⟩:=eX (rs:=[]) hF (by omega) hH;refine qv aM ?_;refine qm ?_;refine qe hK ?_;have km:(cR++[b7 2 0 0 []]).length=cR.length+1:=by simp
   refine qq<|qj fun K hK=>qm ?_;refine qm ?_;obtain⟨_,st,aM,rfl,cd,dk,hH⟩:=ih t (by omega) hF tW jz hsz w_ lY (by omega) ⟨cd,dk,hH⟩;refine qv aM ?_;refine qe hK ?_;rw[km] at hH;have lu:(cR++[b7 2 0 0 []]++aG t (cR.length+1)).length=cR.length+1+t.sz:=by rw[List.length_append,km,wC]
   refine qq<|qj fun K hK=>qm ?_;refine qm ?_;refine ab.go (d:=.agg [.int .i64 3,.int .i64 (cR.length:Nat),.int .i64 0,.nul]) (st1:=_) rfl rfl rfl (by dsimp only[Fr.put,u1,u2]<;>rfl) ?_;have hH:=hH.fc 2;obtain⟨_,st,aM,rfl,cd,dk,hH⟩:=eX (rs:=[]) hF (by omega) hH;refine qv aM ?_;refine qe hK ?_
   have HH:(cR++[b7 2 0 0 []]++aG t (cR.length+1)++[b7 3 (cR.length:Nat) 0 []])[cR.length]?=some (b7 2 0 0 []):=by
    rw[List.append_assoc,List.append_assoc];exact mq _ _ _
   have yP:(cR++[b7 2 0 0 []]++aG t (cR.length+1)++[b7 3 (cR.length:Nat) 0 []]).length=cR.length+t.sz+2:=by rw[List.length_append,lu];simp only[List.length_cons,List.length_nil];omega
   have CL:(cR++[b7 2 0 0 []]++aG t (cR.length+1)++[b7 3 (cR.length:Nat) 0 []]).set cR.length (j8 cR.length (cR.length+t.sz+2) n.lz)=cR++(j8 cR.length (cR.length+t.sz+2) n.lz::(aG t (cR.length+1)++[ig cR.length])):=by
    rw[List.append_assoc,List.append_assoc];exact mf _ _ _ _
   generalize cR++[b7 2 0 0 []]++aG t (cR.length+1)++[b7 3 (cR.length:Nat) 0 []]=zb at*;refine qq<|qj fun K hK=>qm ?_;refine qm ?_;refine qm ?_;refine qg ?_;refine qp (o:=0) ?_;refine ql hH aB ?_;refine ab.wS hH rfl (ev rfl) (by exact bN) rfl (by dsimp only[Fr.put,u1,u2]<;>rfl) ?_;simp only[List.length_map,List.length_append,List.length_cons,List.length_nil];refine qp (o:=4) ?_;refine ql hH iv ?_;obtain⟨_,st,aM,rfl,hH⟩:=mA (at_:=cR.length) (over:=zb.length) (lz:=n.lz) HH (by omega) hH;refine qv aM ?_;refine qe hK ?_;rw[yP,CL] at hH;refine ag.ret ⟨rx,_,_,_,rfl,rfl,?_⟩;exact⟨rfl,cd,dk,hH.erase 4⟩
  ·rw[if_neg xO];rw[if_neg xO] at hb2;refine qE rfl (by simp[xO]) ?_;refine ag.skip ?_;obtain⟨a,ha⟩:∃a:Nat,n.mn=(a:Int):=Int.eq_ofNat_of_zero_le xh.1;obtain⟨b,Iz⟩:∃b:Nat,n.mx=(b:Int):=Int.eq_ofNat_of_zero_le (by omega);have ML:n.mx.toNat-n.mn.toNat=b-a:=by omega
   rw[ML] at hb2⊢;refine qq<|qj fun K hK=>qm ?_;refine qe hK<|qq<|qq<|qj fun K hK=>qp (o:=3) ?_;refine ql hH iv ?_;refine qp (o:=2) ?_;refine ql hH iv ?_;refine ab.j7 (z:=((b-a:Nat):Int)) rfl (ev rfl) (ev rfl) (by(try simp only[List.length_reverse,List.length_cons,List.length_nil,List.length_append,List.length_map,List.length_set]);rw[wrap_i64 (by omega) (by omega)]<;>omega) (by dsimp only[Fr.put,u1,u2]<;>rfl) ?_;refine qm ?_;refine qe hK ?_;have hH:Has N S st (.box k (.mem 0 false [cd,nd,zd,ed])::.deep dk cd 4 (cR.map aU)::.aN zd 1 (Z.map av)::.aN ed 1 (E.map av)::.aN .nul 1 (([]:List Nat).map iM)::.box k4 (.mem 0 false (a8 n))::H):=(hH.fc 1).Cn;refine ag.block<|ag.loop (fun mm fr st=>∃(i:Nat) (cd jd:D) (dk:Nat→Prop) (aV:List aP) (js:List Nat),fr.clean=⟨78,[.ptr k 0 0,.int .i64 (at_:Nat),aa fr 2,aa fr 3,.ptr k4 0 0,.int .i64 ((at_+1:Nat):Int),aa fr 6,jd,aa fr 8,aa fr 9,aa fr 10,aa fr 11,aa fr 12,aa fr 13,aa fr 14,aa fr 15,aa fr 16,aa fr 17,aa fr 18,aa fr 19,aa fr 20,aa fr 21,aa fr 22,aa fr 23,aa fr 24,aa fr 25,aa fr 26,aa fr 27,aa fr 28,aa fr 29,aa fr 30,aa fr 31,aa fr 32,aa fr 33,aa fr 34,aa fr 35,aa fr 36,aa fr 37,aa fr 38,aa fr 39,aa fr 40,aa fr 41,aa fr 42,aa fr 43,aa fr 44,aa fr 45,aa fr 46,aa fr 47,aa fr 48,aa fr 49,aa fr 50,aa fr 51,aa fr 52,aa fr 53,aa fr 54,aa fr 55,aa fr 56,aa fr 57,aa fr 58,aa fr 59,aa fr 60,aa fr 61,.int .i64 ((b-a:Nat):Int),.int .i64 (i:Nat),aa fr 64,aa fr 65,aa fr 66,aa fr 67,aa fr 68,aa fr 69,aa fr 70,aa fr 71,aa fr 72,aa fr 73,aa fr 74,aa fr 75,aa fr 76,aa fr 77],[]⟩∧Has N S st (.box k (.mem 0 false [cd,nd,zd,ed])::.deep dk cd 4 (aV.map aU)::.aN zd 1 (Z.map av)::.aN ed 1 (E.map av)::.aN jd 1 (js.map iM)::.box k4 (.mem 0 false (a8 n))::H)∧(i+mm=b-a)∧(aV++dZ (fun _=>b7 2 0 0 []) (aG t) t.sz mm aV.length=cR++dZ (fun _=>b7 2 0 0 []) (aG t) t.sz (b-a) cR.length)∧(js++rK t.sz mm aV.length=rK t.sz (b-a) cR.length)∧(aV.length+mm*(t.sz+1)=cR.length+(b-a)*(t.sz+1))∧(js.length=i)) (b-a) ?_ ?_
   ·exact⟨0,cd,.nul,dk,cR,[],rfl,hH,by omega,rfl,rfl,rfl,rfl⟩
   rintro mm fr st ⟨i,cd,jd,dk,aV,js,hfr,hH,hi,fx,hjs,hcl,jT⟩;rw[hfr];clear hfr;generalize aa fr=ee;clear fr;refine qq<|qj fun K hK=>qg ?_;refine qe hK ?_
   cases mm with
   |zero=>
    have fG:decide ((i:Int)<((b-a:Nat):Int))=false:=by rw[decide_eq_false_iff_not];omega
    refine qq<|qE rfl (by rw[fG]) ?_;refine ag.exit<|qq<|qj fun K hK=>qm ?_;refine qn ?_ (hR:=hH.rows iv);simp only[List.length_map];refine qm ?_;refine qe hK ?_;simp only[dZ,rK,List.append_nil] at fx hjs;rw[fx] at hH;obtain⟨CS,Hm⟩:=kW (sp:=fun s=>j8 s (cR.length+(b-a)*(t.sz+1)) n.lz) wC (i0:=b7 2 0 0 []) (b-a) cR.length cR [] rfl;simp only[List.append_nil] at CS Hm;have MX:(cR++dZ (fun _=>b7 2 0 0 []) (aG t) t.sz (b-a) cR.length).length=cR.length+(b-a)*(t.sz+1):=by rw[List.length_append,kc wC]
    rw[←hjs] at CS Hm;rw[←CS];clear CS fx;generalize cR++dZ (fun _=>b7 2 0 0 []) (aG t) t.sz (b-a) cR.length=C0 at*;generalize cR.length+(b-a)*(t.sz+1)=e at*;refine ag.block<|ag.loop (fun mm fr st=>∃(q:Nat) (C:List aP),fr.clean=⟨78,[.ptr k 0 0,aa fr 1,aa fr 2,aa fr 3,.ptr k4 0 0,aa fr 5,aa fr 6,aa fr 7,aa fr 8,aa fr 9,aa fr 10,aa fr 11,aa fr 12,aa fr 13,aa fr 14,aa fr 15,aa fr 16,aa fr 17,aa fr 18,aa fr 19,aa fr 20,aa fr 21,aa fr 22,aa fr 23,aa fr 24,aa fr 25,aa fr 26,aa fr 27,aa fr 28,aa fr 29,aa fr 30,aa fr 31,aa fr 32,aa fr 33,aa fr 34,aa fr 35,aa fr 36,aa fr 37,aa fr 38,aa fr 39,aa fr 40,aa fr 41,aa fr 42,aa fr 43,aa fr 44,aa fr 45,aa fr 46,aa fr 47,aa fr 48,aa fr 49,aa fr 50,aa fr 51,aa fr 52,aa fr 53,aa fr 54,aa fr 55,aa fr 56,aa fr 57,aa fr 58,aa fr 59,aa fr 60,aa fr 61,aa fr 62,aa fr 63,aa fr 64,aa fr 65,aa fr 66,aa fr 67,aa fr 68,aa fr 69,aa fr 70,aa fr 71,aa fr 72,aa fr 73,aa fr 74,jd,.int .i64 (js.length:Nat),.int .i64 (q:Nat)],[]⟩∧Has N S st (.box k (.mem 0 false [cd,nd,zd,ed])::.deep dk cd 4 (C.map aU)::.aN zd 1 (Z.map av)::.aN ed 1 (E.map av)::.aN jd 1 (js.map iM)::.box k4 (.mem 0 false (a8 n))::H)∧(q+mm=js.length)∧(fM (fun s=>j8 s e n.lz) C (js.drop q)=fM (fun s=>j8 s e n.lz) C0 js)∧(∀p∈js,∃x y:Int,C[p]?=some (b7 2 x y []))∧(C.length=e)) (js.length) ?_ ?_
    ·exact⟨0,C0,rfl,hH,by omega,rfl,fun p hp=>⟨_,_,Hm p hp⟩,MX⟩
    rintro mm fr st ⟨q,C,hfr,hH,hq,ft,ko,Kl⟩;rw[hfr];clear hfr;generalize aa fr=ee;clear fr;refine qq<|qj fun K hK=>qg ?_;refine qe hK<|qq ?_;refine ag.cond (by rfl) (fun hlt=>?_) (fun hlt=>?_)<;>try simp only[decide_eq_true_eq,decide_eq_false_iff_not] at hlt
    ·refine ag.skip ?_;have Ir:q<js.length:=by omega
     obtain⟨p,hp⟩:∃p,js[q]?=some p:=⟨js[q]'Ir,List.getElem?_eq_getElem _⟩
     obtain⟨x,y,hv⟩:=ko p (List.mem_of_getElem? hp);have gM:=rS hp;have gT:=cq hv;refine qq<|ag.block<|qq<|qj fun K hK=>qi hH iv fun PD LW=>?_;refine qo hH iv ?_;refine qm ?_;refine qe hK<|qj fun K hK=>qm ?_;refine qm ?_;refine qm ?_;refine qg ?_;refine qp (o:=0) ?_;refine ql hH aB ?_;refine ab.wS hH rfl (ev rfl) (by exact bN) rfl (ae rfl _) ?_;simp only[List.length_map];refine qp (o:=4) ?_;refine ql hH sY ?_;obtain⟨_,st,aM,rfl,hH⟩:=mA (at_:=p) (over:=C.length) (lz:=n.lz) hv (by omega) hH;refine qv aM ?_;refine qe hK<|qj fun K hK=>qA ?_;refine qm ?_;refine qe hK ?_
     have yN:js.drop q=p::js.drop (q+1):=by
      rw[List.drop_eq_getElem_cons Ir]
      congr 1
      exact Option.some.inj ((List.getElem?_eq_getElem _).symm.trans hp)
     refine⟨mm-1,by omega,⟨q+1,C.set p (j8 p e n.lz),rfl,(by rw[Kl] at hH;exact hH),by omega,by rw[yN] at ft;exact ft,?_,by rw[List.length_set];exact Kl⟩⟩;intro p' pW
     by_cases hpp:p'=p
     ·subst hpp;obtain⟨x',y',Jw⟩:=xA p' e n.lz;exact⟨x',y',by rw[List.getElem?_set_self gT,Jw]⟩
     ·rw[List.getElem?_set_ne (fun e=>hpp e.symm)];exact ko p' pW
    ·refine ag.exit ?_;refine⟨fun i h=>(by cases h),_,_,_,rfl,rfl,?_⟩;have wF:q=js.length:=by omega
     rw[wF,List.drop_length] at ft;have ft:C=fM (fun s=>j8 s e n.lz) C0 js:=ft;rw[←ft];exact⟨rfl,cd,dk,(hH.erase 5).erase 4⟩
   |succ mm=>
    have fG:decide ((i:Int)<((b-a:Nat):Int))=true:=by rw[decide_eq_true_eq];omega
    rw[Nat.succ_mul] at hcl;refine qq<|qD rfl (by rw[fG]) ?_;refine ag.skip<|qq<|ag.block<|qq<|qj fun K hK=>qm ?_;refine qm ?_;refine ab.go (d:=.agg [.int .i64 2,.int .i64 0,.int .i64 0,.nul]) (st1:=_) rfl rfl rfl (by dsimp only[Fr.put,u1,u2]<;>rfl) ?_;have hH:=hH.fc 2;obtain⟨_,st,aM,rfl,cd,dk,hH⟩:=eX (rs:=[]) hF (by omega) hH;refine qv aM ?_;refine qh (s:=1) (vs:=[_]) hH fun k69 st Re hH=>?_;dsimp only[u2,u1,u3,u4,setMany,u5,u6,D.cells,Nat.reduceAdd,aU,a8,av,iM] at hH;refine qP hH sY (hH.rows aB) fun Po st hH=>?_;dsimp only[u2,u1,u3,u4,setMany,u5,u6,D.cells,Nat.reduceAdd,aU,a8,av,iM] at hH;refine qm ?_;refine qe hK ?_;have hH:=hH.drop 1;have km:(aV++[b7 2 0 0 []]).length=aV.length+1:=by simp
    refine qj fun K hK=>qm ?_;refine qm ?_;obtain⟨_,st,aM,rfl,cd,dk,hH⟩:=ih t (by omega) hF tW jz hsz w_ lY (by omega) ⟨cd,dk,hH⟩;refine qv aM ?_;refine qe hK ?_;rw[km] at hH;have lu:(aV++[b7 2 0 0 []]++aG t (aV.length+1)).length=aV.length+1+t.sz:=by rw[List.length_append,km,wC]
    refine qj fun K hK=>qA ?_;refine qm ?_;refine qe hK ?_;exact⟨mm,by omega,⟨i+1,cd,Po,dk,aV++[b7 2 0 0 []]++aG t (aV.length+1),js++[aV.length],rfl,(by rw[List.map_append (f:=iM)];exact hH),by omega,by rw[lu,←fx];simp only[dZ,List.append_assoc,List.cons_append,List.nil_append],by rw[lu,←hjs];simp only[rK,List.append_assoc,List.cons_append,List.nil_append],by rw[lu];omega,by rw[List.length_append,jT];rfl⟩⟩
def bA (fr:Go.V.Fr) (k:Nat):Go.V.D:=Go.V.nth .bp fr.loc k
theorem sS (t:Tr):eV (.cons t .nil)=aG t:=by
 funext b;simp only[eV,List.append_nil]
theorem tk (t:Tr):(bF.cons t .nil).sz=t.sz:=by simp only[bF.sz,Nat.add_zero]
theorem Cv {l:List dj} (zB:l.length≤1048576) (hi:∀n∈l,n.ok):∀(m:Nat) (t:Tr),t.flat.length≤m→nR l t:=by
 intro m
 induction m with
 |zero=>intro t h;have:=t.gO;omega
 |succ m ih=>
  rintro⟨n,ks⟩ hm N k S s0 H nd zd ed code Z E at_ hF tW jz hsz w_ cI hb hM;have Tw:=hM;obtain⟨cd,dk,hH⟩:=hM;simp only[Tr.ok] at cI;obtain⟨lp,qZ⟩:=cI;simp only[Tr.flat,List.length_cons] at hm;have hle:=jz.le (by simp[Tr.flat]);simp only[Tr.flat] at jz hle;simp only[List.length_cons] at hle;simp only[Tr.zs] at hsz;simp only[Tr.es] at w_;simp only[Tr.sz] at hb;have hn:=jz.head;have JK:=hi n (List.mem_of_getElem? hn);have yy:=JK.1.arg N S;have xc:=JK.2.1;have gM:=jk hn;have Iv:=lp.1;have mj:=bF.lb ks;have RP:=fun b=>kD ks b qZ;refine Ev.lX rfl NG rfl rfl rfl ?_;dsimp only[u3,u4,List.length,Nat.reduceSub,Nat.reduceAdd,w1,w2];change ag _ _ _ _ s0 _;have hc:=tW.arg N S;refine qq<|qj fun K hK=>qm ?_;refine qg ?_;refine qp (o:=1) ?_;refine ql hH aB ?_;refine qm ?_;refine qr fun OB JH=>?_;refine ab.eo rfl (ev rfl) (by assumption) rfl (by dsimp only[Fr.put,u1,u2]<;>rfl) ?_;refine qa hH fun k4 st KM hH=>?_;refine qS hH aB fun st hH=>?_;dsimp only[u2,u1,u3,u4,setMany,u5,u6,D.cells,Nat.reduceAdd,aU,a8,av,iM] at hH;refine qe hK ?_;have hH:Has N S st (.box k (.mem 0 false [cd,nd,zd,ed])::.deep dk cd 4 (code.map aU)::.aN zd 1 (Z.map av)::.aN ed 1 (E.map av)::.box k4 (.mem 0 false (a8 n))::H):=hH.Cn;refine qq<|qj fun K hK=>qp (o:=0) ?_;refine ql hH iv ?_;refine qe hK<|ag.block<|qq<|qj fun K hK=>qg ?_;refine qm ?_;refine qe hK ?_;refine ag.cond (by rfl) (fun q2=>?_) (fun q2=>?_)<;>try simp only[beq_iff_eq,beq_eq_false_iff_ne,ne_eq] at q2
  ·have ud:aG (.mk n ks) code.length=[b7 1 0 0 n.rs]:=by simp only[aG,if_pos q2]
   rw[ud];have hz:bz n ks.sz ks.len=1:=by unfold bz;rw[if_pos (.inl q2)]
   have hH:=hH.fc 2;refine qj fun K hK=>qm ?_;refine qp (o:=1) ?_;refine ql hH sY ?_;refine qP hH aB (Arg.rows (by assumption) hH) fun Od st hH=>?_;dsimp only[u2,u1,u3,u4,setMany,u5,u6,D.cells,Nat.reduceAdd,aU,a8,av,iM] at hH;refine ab.fP (qs:=[(0,_),(3,_)]) rfl rfl rfl rfl ⟨rfl,(ev rfl),(by rfl),rfl,(ev rfl),(by exact hH.g_ (by exact aB)),trivial⟩ (by intro q hq;simp only[List.mem_cons,List.not_mem_nil,or_false] at hq;rcases hq with rfl|rfl<;>exact⟨rfl,by exact Nat.le_of_ble_eq_true rfl⟩) (by show List.foldl _ [_,_,_,_] _=_;dsimp only[List.foldl_cons,List.foldl_nil,u2,u1]<;>rfl) (by dsimp only[Fr.put,u1,u2]<;>rfl) ?_;obtain⟨_,st,aM,rfl,cd,dk,hH⟩:=eX (rs:=n.rs) hF (by omega) hH;refine qv aM ?_;refine qe hK ?_;refine⟨fun i h=>(by cases h),_,_,_,rfl,rfl,?_⟩;exact⟨rfl,cd,dk,hH.erase 4⟩
  refine qq<|qj fun K hK=>qg ?_;refine qm ?_;refine qe hK ?_;refine ag.cond (by rfl) (fun q7=>?_) (fun q7=>?_)<;>try simp only[beq_iff_eq,beq_eq_false_iff_ne,ne_eq] at q7
  ·have ud:aG (.mk n ks) code.length=[b7 5 0 0 []]:=by simp only[aG,if_neg q2,if_pos q7]
   rw[ud];refine qj fun K hK=>qm ?_;refine ab.go (d:=.agg [.int .i64 5,.int .i64 0,.int .i64 0,.nul]) (st1:=_) rfl rfl rfl (by dsimp only[Fr.put,u1,u2]<;>rfl) ?_;have hH:=hH.fc 2;obtain⟨_,st,aM,rfl,cd,dk,hH⟩:=eX (rs:=[]) hF (by omega) hH;refine qv aM ?_;refine qe hK ?_;refine⟨fun i h=>(by cases h),_,_,_,rfl,rfl,?_⟩;exact⟨rfl,cd,dk,hH.erase 4⟩
  refine qq<|qj fun K hK=>qg ?_;refine qm ?_;refine qe hK ?_;refine ag.cond (by rfl) (fun q8=>?_) (fun q8=>?_)<;>try simp only[beq_iff_eq,beq_eq_false_iff_ne,ne_eq] at q8
  ·have ud:aG (.mk n ks) code.length=[b7 6 0 0 []]:=by simp only[aG,if_neg q2,if_neg q7,if_pos q8]
   rw[ud];refine qj fun K hK=>qm ?_;refine ab.go (d:=.agg [.int .i64 6,.int .i64 0,.int .i64 0,.nul]) (st1:=_) rfl rfl rfl (by dsimp only[Fr.put,u1,u2]<;>rfl) ?_;have hH:=hH.fc 2;obtain⟨_,st,aM,rfl,cd,dk,hH⟩:=eX (rs:=[]) hF (by omega) hH;refine qv aM ?_;refine qe hK ?_;refine⟨fun i h=>(by cases h),_,_,_,rfl,rfl,?_⟩;exact⟨rfl,cd,dk,hH.erase 4⟩
  refine qq<|qj fun K hK=>qg ?_;refine qm ?_;refine qe hK ?_;refine ag.cond (by rfl) (fun q3=>?_) (fun q3=>?_)<;>try simp only[beq_iff_eq,beq_eq_false_iff_ne,ne_eq] at q3
  ·have ud:aG (.mk n ks) code.length=eV ks code.length:=by simp only[aG,if_neg q2,if_neg q7,if_neg q8,if_pos q3]
   rw[ud];have hz:bz n ks.sz ks.len=ks.sz:=by unfold bz;rw[if_neg (by omega),if_neg (by omega),if_neg (by omega),if_neg (by omega)]
   rw[hz] at hb;refine qq<|qj fun K hK=>qm ?_;refine qA ?_;refine qm ?_;refine qe hK<|qq<|qj fun K hK=>qp (o:=6) ?_;refine ql hH iv ?_;refine qm ?_;refine qe hK<|ag.block<|ag.loop (fun mm fr st=>∃(i j:Nat) (rest:bF) (cd:D) (dk:Nat→Prop) (aV:List aP),fr.clean=⟨40,[.ptr k 0 0,.int .i64 (at_:Nat),bA fr 2,bA fr 3,.ptr k4 0 0,.int .i64 (j:Nat),bA fr 6,bA fr 7,bA fr 8,bA fr 9,bA fr 10,bA fr 11,bA fr 12,bA fr 13,bA fr 14,bA fr 15,bA fr 16,bA fr 17,bA fr 18,bA fr 19,bA fr 20,bA fr 21,bA fr 22,bA fr 23,bA fr 24,bA fr 25,bA fr 26,bA fr 27,bA fr 28,bA fr 29,bA fr 30,bA fr 31,bA fr 32,bA fr 33,bA fr 34,bA fr 35,bA fr 36,bA fr 37,.int .i64 n.kids,.int .i64 (i:Nat)],[]⟩∧Has N S st (.box k (.mem 0 false [cd,nd,zd,ed])::.deep dk cd 4 (aV.map aU)::.aN zd 1 (Z.map av)::.aN ed 1 (E.map av)::.box k4 (.mem 0 false (a8 n))::H)∧(mm=rest.len)∧(i+rest.len=ks.len)∧(eH l j rest.flat)∧(eH Z j rest.zs)∧(eH E j (rest.es j))∧(rest.ok)∧(aV++eV rest aV.length=code++eV ks code.length)∧(aV.length+rest.sz=code.length+ks.sz)∧(rest.flat.length≤m)) (ks.len) ?_ ?_
   ·exact⟨0,at_+1,ks,cd,dk,code,rfl,hH,rfl,by omega,jz.tail,hsz.tail,w_.tail,qZ,rfl,rfl,by omega⟩
   rintro mm fr st ⟨i,j,rest,cd,dk,aV,hfr,hH,te,wH,l3,sf,lZ,ir,fx,hcl,Hj⟩;rw[hfr];clear hfr;generalize bA fr=ee;clear fr;refine qq<|qj fun K hK=>qg ?_;refine qe hK ?_
   cases rest with
   |nil=>
    simp only[bF.len] at wH;simp only[eV,List.append_nil] at fx;have fG:decide ((i:Int)<n.kids)=false:=by rw[decide_eq_false_iff_not];omega
    refine qq<|qE rfl (by rw[fG]) ?_;refine ag.exit ?_;refine⟨fun i h=>(by cases h),_,_,_,rfl,rfl,?_⟩;rw[←fx];exact⟨rfl,cd,dk,hH.erase 4⟩
   |cons t ts=>
    simp only[bF.len] at wH te;simp only[bF.sz] at hcl;simp only[bF.flat,List.length_append] at l3 Hj;simp only[bF.zs] at sf;simp only[bF.es] at lZ;simp only[bF.ok] at ir;simp only[eV] at fx;have Hd:=t.gm;have Jz:=t.gx j;have wC:=bS t aV.length ir.1;have LN:=ey (vF lZ.left);have fG:decide ((i:Int)<n.kids)=true:=by rw[decide_eq_true_eq];omega
    refine qq<|qD rfl (by rw[fG]) ?_;refine ag.skip<|qq<|ag.block<|qq<|qj fun K hK=>qm ?_;refine qm ?_;obtain⟨_,st,aM,rfl,cd,dk,hH⟩:=ih t (by omega) hF tW l3.left sf.left lZ.left ir.1 (by omega) ⟨cd,dk,hH⟩;refine qv aM ?_;refine qe hK<|qj fun K hK=>qm ?_;refine qg ?_;refine qp (o:=3) ?_;refine ql hH aB ?_;refine qm ?_;refine qi hH gA fun PJ L2=>?_;refine qo hH gA ?_;refine qm ?_;refine qe hK<|qj fun K hK=>qA ?_;refine qm ?_;refine qe hK ?_;exact⟨mm-1,by omega,⟨i+1,j+t.flat.length,ts,cd,dk,aV++aG t aV.length,rfl,hH,by omega,by omega,l3.right,by rw[←Hd];exact sf.right,by rw[←Jz];rw[←Jz] at lZ;exact lZ.right,ir.2,by rw[List.length_append,wC,List.append_assoc];exact fx,by rw[List.length_append,wC];omega,by omega⟩⟩
  refine qq<|qj fun K hK=>qg ?_;refine qm ?_;refine qe hK ?_;refine ag.cond (by rfl) (fun q4=>?_) (fun q4=>?_)<;>try simp only[beq_iff_eq,beq_eq_false_iff_ne,ne_eq] at q4
  ·have ud:aG (.mk n ks) code.length=dt (ig (code.length+bz n ks.sz ks.len)) ks code.length:=by simp only[aG,if_neg q2,if_neg q7,if_neg q8,if_neg q3,if_pos q4]
   rw[ud];refine qj fun K hK=>qm ?_;refine qm ?_;obtain⟨_,st,aM,rfl,cd,dk,hH⟩:=Ib zB ih q4 (by omega) lp qZ hF tW jz hsz.tail w_.tail hb ⟨cd,dk,hH⟩;refine qv aM ?_;refine qe hK ?_;refine⟨fun i h=>(by cases h),_,_,_,rfl,rfl,?_⟩;exact⟨rfl,cd,dk,hH.erase 4⟩
  refine qq<|qj fun K hK=>qg ?_;refine qm ?_;refine qe hK ?_;refine ag.cond (by rfl) (fun q5=>?_) (fun q5=>?_)<;>try simp only[beq_iff_eq,beq_eq_false_iff_ne,ne_eq] at q5
  ·have oa:ks.len=1:=by
    obtain⟨_,hq⟩:=lp;omega
   obtain⟨t,rfl⟩:=bF.vi oa;have ud:aG (.mk n (.cons t .nil)) code.length=kU n (aG t) t.sz code.length:=by simp only[aG,if_neg q2,if_neg q7,if_neg q8,if_neg q3,if_neg q4,if_pos q5,sS,tk]
   rw[ud];rw[oa] at lp hb;rw[tk] at hb;simp only[bF.flat,bF.zs,bF.es,bF.ok,List.append_nil] at*;refine qj fun K hK=>qm ?_;refine qm ?_;obtain⟨_,st,aM,rfl,cd,dk,hH⟩:=wa zB ih q5 (by omega) lp qZ.1 hF tW jz hsz.tail w_.tail hb ⟨cd,dk,hH⟩;refine qv aM ?_;refine qe hK ?_;refine⟨fun i h=>(by cases h),_,_,_,rfl,rfl,?_⟩;exact⟨rfl,cd,dk,hH.erase 4⟩
  refine qq<|qj fun K hK=>qg ?_;refine qm ?_;refine qe hK ?_;refine ag.cond (by rfl) (fun q6=>?_) (fun q6=>?_)<;>try simp only[beq_iff_eq,beq_eq_false_iff_ne,ne_eq] at q6
  ·have oa:ks.len=1∧1≤n.cap∧n.cap≤4:=by
    obtain⟨_,hq⟩:=lp;omega
   obtain⟨t,rfl⟩:=bF.vi oa.1;have ud:aG (.mk n (.cons t .nil)) code.length=b7 4 (2*n.cap) 0 []::(aG t (code.length+1)++[b7 4 (2*n.cap+1) 0 []]):=by simp only[aG,if_neg q2,if_neg q7,if_neg q8,if_neg q3,if_neg q4,if_neg q5,if_pos q6,sS]
   rw[ud];have hz:bz n (bF.cons t .nil).sz (bF.cons t .nil).len=t.sz+2:=by unfold bz;rw[if_neg (by omega),if_neg (by omega),if_pos q6,tk]
   rw[hz] at hb;simp only[bF.flat,bF.zs,bF.es,bF.ok,List.append_nil] at jz hsz w_ qZ hm;refine qq<|qj fun K hK=>qm ?_;refine qp (o:=5) ?_;refine ql hH iv ?_;refine ab.pG (z:=(2*n.cap)) rfl (ev rfl) (ev rfl) (by(try simp only[List.length_reverse,List.length_cons,List.length_nil,List.length_append,List.length_map,List.length_set]);rw[wrap_i64 (by omega) (by omega)]<;>omega) (ae rfl _) ?_;refine ab.go (d:=.agg [.int .i64 4,.int .i64 (2*n.cap),.int .i64 0,.nul]) (st1:=_) rfl rfl rfl (ae rfl _) ?_;have hH:=hH.fc 2;obtain⟨_,st,aM,rfl,cd,dk,hH⟩:=eX (rs:=[]) hF (by omega) hH;refine qv aM ?_;refine qe hK ?_;have km:(code++[b7 4 (2*n.cap) 0 []]).length=code.length+1:=by simp
   refine qq<|qj fun K hK=>qm ?_;refine qm ?_;refine qA ?_;obtain⟨_,st,aM,rfl,cd,dk,hH⟩:=ih t (by omega) hF tW jz.tail hsz.tail w_.tail qZ.1 (by omega) ⟨cd,dk,hH⟩;refine qv aM ?_;refine qe hK ?_;rw[km] at hH;have lu:(code++[b7 4 (2*n.cap) 0 []]++aG t (code.length+1)).length=code.length+1+t.sz:=by rw[List.length_append,km,bS t _ qZ.1]
   refine qj fun K hK=>qm ?_;refine qp (o:=5) ?_;refine ql hH iv ?_;refine ab.pG (z:=(2*n.cap)) rfl (ev rfl) (ev rfl) (by(try simp only[List.length_reverse,List.length_cons,List.length_nil,List.length_append,List.length_map,List.length_set]);rw[wrap_i64 (by omega) (by omega)]<;>omega) (ae rfl _) ?_;refine ab.eY (z:=(2*n.cap+1)) rfl (ev rfl) (ev rfl) (by(try simp only[List.length_reverse,List.length_cons,List.length_nil,List.length_append,List.length_map,List.length_set]);rw[wrap_i64 (by omega) (by omega)]<;>omega) (ae rfl _) ?_;refine ab.go (d:=.agg [.int .i64 4,.int .i64 (2*n.cap+1),.int .i64 0,.nul]) (st1:=_) rfl rfl rfl (ae rfl _) ?_;have hH:=hH.fc 2;obtain⟨_,st,aM,rfl,cd,dk,hH⟩:=eX (rs:=[]) hF (by omega) hH;refine qv aM ?_;refine qe hK ?_;have eE:code++[b7 4 (2*n.cap) 0 []]++aG t (code.length+1)++[b7 4 (2*n.cap+1) 0 []]=code++b7 4 (2*n.cap) 0 []::(aG t (code.length+1)++[b7 4 (2*n.cap+1) 0 []]):=by simp
   rw[eE] at hH;refine⟨fun i h=>(by cases h),_,_,_,rfl,rfl,?_⟩;exact⟨rfl,cd,dk,hH.erase 4⟩
  ·refine ag.skip ?_;have ud:aG (.mk n ks) code.length=[]:=by simp only[aG,if_neg q2,if_neg q7,if_neg q8,if_neg q3,if_neg q4,if_neg q5,if_neg q6]
   rw[ud,List.append_nil];refine⟨fun i h=>(by cases h),_,_,_,rfl,rfl,?_⟩;exact⟨rfl,cd,dk,hH.erase 4⟩
def fR (fr:Go.V.Fr) (k:Nat):Go.V.D:=Go.V.nth .bp fr.loc k
def wZ (x:Nl):List D:=[x.d]
theorem G5 {l:List Nl} {i:Nat} {q:Nl} (h:l[i]?=some q):(l.map wZ)[i]?=some (wZ q):=by rw[List.getElem?_map,h];rfl
def kz (R:o7):D:=.tup [(tG R.code R.aO).d,.int .i64 R.e,.int .i64 R.w]
theorem uT {es M:List Int} (h:M.length=es.length):kP es 0 M=M:=by
 unfold kP;simp[h]
theorem oY (r:Nat) (c:List aP) (s:List Int):gk [] r c s=⟨c,s,0,0⟩:=by simp only[gk]
theorem ur {s0:St} {x:D} {rules:List Nl} (hx:V.Rows s0 1 x (rules.map wZ)) (hr:∀r∈rules,r.ok) (hl:rules.length≤1048576):Ev pv 23 [x] s0 (kz (bQ (rules.map (·.l)))) s0:=by
 refine Ev.nV rfl NQ rfl rfl rfl ?_;dsimp only[u3,u4,List.length,Nat.reduceSub,Nat.reduceAdd,w1,w2];obtain⟨cn,hF,hH⟩:=ri s0;generalize aq .ro s0=S at*;have hx:=Arg.of hx cn;have hfz:∀(st:St) (e w:Int),bt st s0.bs.length false 16 (n4 [.agg [.nul,.nul],.int .i64 e,.int .i64 w])=some (kz ⟨[],[],e,w⟩):=fun st e w=>rfl;refine qq<|qj fun K hK=>qa hH fun k2 st hk2 hH=>?_;refine qm ?_;refine qm ?_;refine qe hK<|qq<|qq<|qj fun K hK=>qm ?_;refine qn ?_;simp only[List.length_map];refine qg ?_;refine qe hK ?_;unfold bQ
 by_cases h8:8<rules.length
 ·rw[if_pos (by rw[List.length_map];exact h8)];refine qD rfl (by simp;omega) ?_;refine qq<|qj fun K hK=>?_;refine ab.go (d:=.agg [.nul,.nul]) (st1:=_) rfl rfl rfl (by dsimp only[Fr.put,u1,u2]<;>rfl) ?_;refine qS hH aB fun st hH=>?_;dsimp only[u2,u1,u3,u4,setMany,u5,u6,D.cells,Nat.reduceAdd,aU,a8,av,wZ] at hH;refine qm ?_;refine qm ?_;refine qe hK<|ag.ret ⟨rx,_,hH.jf rfl aB rfl rfl rfl,rl cn hH (hfz _ 13 8)⟩
 ·rw[if_neg (by rw[List.length_map];exact h8)];refine qE rfl (by simp;omega) ?_;refine ag.skip<|qq<|qj fun K hK=>?_;refine ab.go (d:=.agg [.nul,.nul,.nul,.nul]) (st1:=_) rfl rfl rfl (by dsimp only[Fr.put,u1,u2]<;>rfl) ?_;refine qb hH fun k14 st JY hH=>?_;refine qm ?_;refine qe hK<|qq<|qj fun K hK=>qm ?_;refine qe hK<|qq<|qq<|qj fun K hK=>qm ?_;refine qn ?_;simp only[List.length_map];refine qm ?_;refine qe hK ?_;have hH:Has s0.bs.length S st (.aN .nul 1 (([]:List Int).map av)::.deep (fun _=>False) .nul 4 (([]:List aP).map aU)::.box k14 (.mem 0 false [.nul,.nul,.nul,.nul])::[.box k2 (.mem 0 false [.nul,.nul])]):=(hH.Lh 4).fc 1;refine ag.block<|ag.loop (fun mm fr st=>∃(r:Nat) (cd nd zd ed sd:D) (dk:Nat→Prop) (code:List aP) (aO:List Int),fr.clean=⟨18,[fR fr 0,fR fr 1,.ptr k2 0 0,.int .i64 0,.int .i64 0,.ptr k14 0 0,sd,fR fr 7,fR fr 8,fR fr 9,fR fr 10,fR fr 11,fR fr 12,fR fr 13,fR fr 14,x,.int .i64 (rules.length:Nat),.int .i64 (r:Nat)],[]⟩∧Has s0.bs.length S st [.aN sd 1 (aO.map av),.deep dk cd 4 (code.map aU),.box k14 (.mem 0 false [cd,nd,zd,ed]),.box k2 (.mem 0 false [.nul,.nul])]∧(r+mm=rules.length)∧(gk ((rules.drop r).map (·.l)) r code aO=gk (rules.map (·.l)) 0 [] [])∧(code.length≤400)∧(aO.length≤r)) (rules.length) ?_ ?_
  ·exact⟨0,.nul,.nul,.nul,.nul,.nul,(fun _=>False),[],[],rfl,hH,by omega,by rw[List.drop_zero],by simp,by simp⟩
  rintro mm fr st ⟨r,cd,nd,zd,ed,sd,dk,code,aO,hfr,hH,Tb,hX,hcl,fK⟩;rw[hfr];clear hfr;generalize fR fr=ee;clear fr;refine qq<|qj fun K hK=>qg ?_;refine qe hK ?_
  by_cases hlt:r<rules.length
  ·obtain⟨q,hq⟩:∃q,rules[r]?=some q:=⟨rules[r]'hlt,List.getElem?_eq_getElem _⟩
   have wE:=hr q (List.mem_of_getElem? hq);have gM:=G5 hq
   have yN:rules.drop r=q::rules.drop (r+1):=by
    rw[List.drop_eq_getElem_cons hlt]
    congr 1
    exact Option.some.inj ((List.getElem?_eq_getElem _).symm.trans hq)
   rw[yN,List.map_cons,gk] at hX;refine qq<|qD rfl (by simp;omega) ?_;refine ag.skip<|qq<|ag.block<|qq<|qj fun K hK=>qm ?_;refine qr fun OA JG=>?_;refine qR ?_;refine qm ?_;refine qm ?_;refine qe hK<|qq<|qq<|qj fun K hK=>qm ?_;refine qv (v_ wE) ?_;refine qg ?_;refine qe hK ?_
   cases tU:eM q.l with
   |false=>
    rw[if_pos tU] at hX;refine qB ?_;refine qq<|qj fun K hK=>ab.go (d:=.agg [.nul,.nul]) (st1:=_) rfl rfl rfl (ae rfl _) ?_;refine qm ?_;refine qS hH gA fun st hH=>?_;dsimp only[u2,u1,u3,u4,setMany,u5,u6,D.cells,Nat.reduceAdd,aU,a8,av,wZ] at hH;refine qm ?_;refine qm ?_;refine qe hK ?_;rw[←hX];refine ag.ret ⟨rx,_,hH.jf rfl gA rfl rfl rfl,rl cn hH (hfz _ 1 r)⟩
   |true=>
    rw[if_neg (by rw[tU];simp)] at hX;obtain⟨lY,Jy⟩:=o9 tU;have Tf:=wE.c.arg s0.bs.length S;have Te:=wE.nl;have p_:=wE.c;refine qC ?_;refine ag.skip<|qq<|qj fun K hK=>qm ?_;refine qm ?_;refine qm ?_;refine qm ?_;refine qm ?_;refine qn ?_;simp only[List.length_map];refine ab.sq (s:=1) hH rfl rfl rfl rfl rfl rfl rfl rfl (Nat.le_of_ble_eq_true rfl) (by omega) (fun _=>(ae rfl _)) (fun k33 st Mn hH=>?_);refine qm ?_;refine qn ?_;simp only[List.length_map];refine ab.sq (s:=1) hH rfl rfl rfl rfl rfl rfl rfl rfl (Nat.le_of_ble_eq_true rfl) (by omega) (fun _=>(ae rfl _)) (fun k36 st JX hH=>?_);refine qg ?_;refine qp (o:=1) ?_;refine qT hH iv fun st hH=>?_;dsimp only[u2,u1,u3,u4,setMany,u5,u6,D.cells,Nat.reduceAdd,aU,a8,av,wZ] at hH;refine qg ?_;refine qp (o:=2) ?_;refine qT hH iv fun st hH=>?_;dsimp only[u2,u1,u3,u4,setMany,u5,u6,D.cells,Nat.reduceAdd,aU,a8,av,wZ] at hH;refine qg ?_;refine qp (o:=3) ?_;refine qT hH iv fun st hH=>?_;dsimp only[u2,u1,u3,u4,setMany,u5,u6,D.cells,Nat.reduceAdd,aU,a8,av,wZ] at hH;refine qe hK ?_
    have hH:Has s0.bs.length S st (.aN (.win k33 0 0 q.l.length 1) 1 ((List.replicate q.l.length (0:Int)).map av)::.aN (.win k36 0 0 q.l.length 1) 1 ((List.replicate q.l.length (0:Int)).map av)::.aN sd 1 (aO.map av)::.deep dk cd 4 (code.map aU)::.box k14 (.mem 0 false [cd,q.d,.win k33 0 0 q.l.length 1,.win k36 0 0 q.l.length 1])::.box k2 (.mem 0 false [.nul,.nul])::[]):=by
     rw[List.map_replicate];exact hH.front bN
    refine qq<|qj fun K hK=>qm ?_;refine qm ?_;refine qg ?_;refine qp (o:=2) ?_;refine ql hH iv ?_;obtain⟨_,st,aM,rfl,hH⟩:=xD wE.nl wE.i wE.c _ (cM q.l) (Nat.le_refl _) lY (at_:=0) (by rw[Jy];exact eH.all _) (by simp) hH;refine qv aM ?_;refine qe hK ?_;rw[uT (by rw[Tr.gm,Jy];simp)] at hH;have hH:=hH.front bN;refine qq<|qj fun K hK=>qm ?_;refine qm ?_;refine qg ?_;refine qp (o:=3) ?_;refine ql hH iv ?_;obtain⟨_,st,aM,rfl,hH⟩:=C' wE.nl wE.i wE.c _ (cM q.l) (Nat.le_refl _) lY (at_:=0) (by rw[Jy];exact eH.all _) (by simp) hH;refine qv aM ?_;refine qe hK ?_;rw[uT (by rw[Tr.gx,Jy];simp)] at hH;have Qt:=ey (uJ (eH.all (cM q.l).zs));refine qq<|qq<|qj fun K hK=>qm ?_;refine qg ?_;refine qp (o:=0) ?_;refine ql hH iv ?_;refine ab.wS hH rfl (ev rfl) (by exact gA) rfl (ae rfl _) ?_;simp only[List.length_map];refine qm ?_;refine qg ?_;refine qp (o:=2) ?_;refine ql hH iv ?_;refine qi hH bN fun PF LY=>?_;refine qo hH bN ?_;refine ab.eY (z:=((code.length+min (cM q.l).sz 401:Nat):Int)) rfl (ev rfl) (ev rfl) (by(try simp only[List.length_reverse,List.length_cons,List.length_nil,List.length_append,List.length_map,List.length_set]);rw[wrap_i64 (by omega) (by omega)]<;>omega) (ae rfl _) ?_;refine ab.eY (z:=((code.length+min (cM q.l).sz 401+3:Nat):Int)) rfl (ev rfl) (ev rfl) (by(try simp only[List.length_reverse,List.length_cons,List.length_nil,List.length_append,List.length_map,List.length_set]);rw[wrap_i64 (by omega) (by omega)]<;>omega) (ae rfl _) ?_;refine qg ?_;refine qe hK ?_
    by_cases HE:400<code.length+min (cM q.l).sz 401+3
    ·rw[if_pos HE] at hX;have fG:decide (((code.length+min (cM q.l).sz 401+3:Nat):Int)>400)=true:=by rw[decide_eq_true_eq];omega
     refine qD rfl (by rw[fG]) ?_;refine qq<|qj fun K hK=>ab.go (d:=.agg [.nul,.nul]) (st1:=_) rfl rfl rfl (ae rfl _) ?_;refine qm ?_;refine qS hH sY fun st hH=>?_;dsimp only[u2,u1,u3,u4,setMany,u5,u6,D.cells,Nat.reduceAdd,aU,a8,av,wZ] at hH;refine qm ?_;refine qm ?_;refine qe hK ?_;rw[←hX];refine ag.ret ⟨rx,_,hH.jf rfl sY rfl rfl rfl,rl cn hH (hfz _ 12 r)⟩
    ·rw[if_neg HE] at hX;have fG:decide (((code.length+min (cM q.l).sz 401+3:Nat):Int)>400)=false:=by rw[decide_eq_false_iff_not];omega
     refine qE rfl (by rw[fG]) ?_;refine ag.skip ?_;have hH:=hH.front bN;have hH:=hH.front gA;have hH:=hH.front iv;have hH:Has s0.bs.length S st (.box k14 (.mem 0 false [cd,q.d,.win k33 0 0 q.l.length 1,.win k36 0 0 q.l.length 1])::.deep dk cd 4 (code.map aU)::.aN (.win k33 0 0 q.l.length 1) 1 ((cM q.l).zs.map av)::.aN (.win k36 0 0 q.l.length 1) 1 (((cM q.l).es 0).map av)::.aN sd 1 (aO.map av)::.box k2 (.mem 0 false [.nul,.nul])::[]):=hH;refine qq<|qj fun K hK=>qm ?_;refine qm ?_;refine ab.go (d:=.agg [.int .i64 4,.int .i64 0,.int .i64 0,.nul]) (st1:=_) rfl rfl rfl (ae rfl _) ?_;have hH:=hH.fc 2;obtain⟨_,st,aM,rfl,cd,dk,hH⟩:=eX (rs:=[]) hF (by omega) hH;refine qv aM ?_;refine qh (s:=1) (vs:=[_]) hH fun k75 st Rb hH=>?_;refine ab.cu (s:=1) hH rfl (ev rfl) (ev rfl) (by exact sY) (by exact hH.rows (by exact aB)) rfl rfl rfl rfl rfl rfl rfl ⟨(Nat.le_of_ble_eq_true rfl),(Nat.le_of_ble_eq_true rfl)⟩ (fun _=>(ae rfl _)) (by simp only[List.length_cons,List.length_nil,List.length_map]<;>omega) (by exact .inl hF) (fun Pn st hH=>?_);dsimp only[u2,u1,u3,u4,setMany,u5,u6,D.cells,Nat.reduceAdd,aU,a8,av,wZ] at hH;refine qm ?_;refine qe hK ?_;have hH:=hH.drop 1;have km:(code++[b7 4 0 0 []]).length=code.length+1:=by simp
     refine qq<|qj fun K hK=>qm ?_;obtain⟨_,st,aM,rfl,cd,dk,hH⟩:=Cv wE.nl wE.i _ (cM q.l) (Nat.le_refl _) hF wE.c (at_:=0) (by rw[Jy];exact eH.all _) (eH.all _) (eH.all _) lY (by omega) ⟨cd,dk,hH⟩;refine qv aM ?_;refine qe hK ?_;rw[km] at hH;have lu:(code++[b7 4 0 0 []]++aG (cM q.l) (code.length+1)).length=code.length+1+(cM q.l).sz:=by rw[List.length_append,km,bS _ _ lY]
     refine qq<|qj fun K hK=>qm ?_;refine ab.go (d:=.agg [.int .i64 4,.int .i64 1,.int .i64 0,.nul]) (st1:=_) rfl rfl rfl (ae rfl _) ?_;have hH:=hH.fc 2;obtain⟨_,st,aM,rfl,cd,dk,hH⟩:=eX (rs:=[]) hF (by omega) hH;refine qv aM ?_;refine qe hK ?_;have yP:(code++[b7 4 0 0 []]++aG (cM q.l) (code.length+1)++[b7 4 1 0 []]).length=code.length+1+(cM q.l).sz+1:=by rw[List.length_append,lu];rfl
     refine qj fun K hK=>qm ?_;refine qm ?_;refine ab.go (d:=.agg [.int .i64 7,.int .i64 (r:Nat),.int .i64 0,.nul]) (st1:=_) rfl rfl rfl (ae rfl _) ?_;have hH:=hH.fc 2;obtain⟨_,st,aM,rfl,cd,dk,hH⟩:=eX (rs:=[]) hF (by omega) hH;refine qv aM ?_;refine qe hK ?_
     have Qp:code++[b7 4 0 0 []]++aG (cM q.l) (code.length+1)++[b7 4 1 0 []]++[b7 7 (r:Nat) 0 []]=code++dA (cM q.l) code.length r:=by
      unfold dA;simp
     rw[Qp] at hH;have hH:=(hH.erase 2).erase 2;have hH:=hH.front bN;have hH:=hH.front ei;refine qj fun K hK=>qA ?_;refine qm ?_;refine qe hK ?_;exact⟨mm-1,by omega,⟨r+1,cd,q.d,.win k33 0 0 q.l.length 1,.win k36 0 0 q.l.length 1,Pn,dk,code++dA (cM q.l) code.length r,aO++[((code.length:Nat):Int)],rfl,(by rw[List.map_append (f:=av)];exact hH),by omega,hX,by rw[List.length_append,ou lY];omega,by rw[List.length_append];simp only[List.length_cons,List.length_nil];omega⟩⟩
  ·refine qq<|qE rfl (by simp;omega) ?_;refine ag.exit ?_;rw[List.drop_of_length_le (by omega),List.map_nil,oY] at hX;refine qq<|qj fun K hK=>qm ?_;refine qg ?_;refine qp (o:=0) ?_;refine ql hH ei ?_;refine qm ?_;refine ab.fP (qs:=[(0,_),(1,_)]) rfl rfl rfl rfl ⟨rfl,(ev rfl),(by exact hH.za (by exact bN)),rfl,(ev rfl),(by exact hH.g_ (by exact aB)),trivial⟩ (by intro q hq;simp only[List.mem_cons,List.not_mem_nil,or_false] at hq;rcases hq with rfl|rfl<;>exact⟨rfl,by exact Nat.le_of_ble_eq_true rfl⟩) (by show List.foldl _ [_,_] _=_;dsimp only[List.foldl_cons,List.foldl_nil,u2,u1]<;>rfl) (ae rfl _) ?_;refine qS hH gA fun st hH=>?_;dsimp only[u2,u1,u3,u4,setMany,u5,u6,D.cells,Nat.reduceAdd,aU,a8,av,wZ] at hH;refine qm ?_;refine qm ?_;refine qe hK ?_;rw[←hX];have h1:=hH.yY bN (n:=13) (by decide);have h2:=hH.C8 aB (oM _) (n:=14) (by decide)
   have h4:bt st s0.bs.length false 15 (.agg [cd,sd])=some (tG code aO).d:=by
    show(gJ (bt st s0.bs.length false 14) [cd,sd]).map D.agg=_;simp only[gJ,h1,h2,Option.map_some];rfl
   have h3:bt st s0.bs.length false 16 (n4 [.agg [cd,sd],.int .i64 0,.int .i64 0])=some (kz ⟨code,aO,0,0⟩):=by
    show(gJ (bt st s0.bs.length false 15) [.agg [cd,sd],.int .i64 0,.int .i64 0]).map D.tup=_;simp only[gJ,h4];rfl
   exact ag.ret ⟨rx,_,hH.jf rfl gA rfl rfl rfl,rl cn hH h3⟩
theorem sP:∀(ls:List (List dj)) (r:Nat) (c:List aP) (s:List Int),(∀l∈ls,∀n∈l,n.rs.length≤1048576)→(∀i∈c,gS i)→c.length≤400→s.length≤r→(∀i∈(gk ls r c s).code,gS i)∧(gk ls r c s).code.length≤400∧(gk ls r c s).aO.length≤r+ls.length
 |[],r,c,s,_,h1,h2,h3=>by rw[oY];exact⟨h1,h2,by simpa using h3⟩
 |l::ls,r,c,s,h0,h1,h2,h3=>by
  have O4:∀e w:Int,(∀i∈(o7.mk [] [] e w).code,gS i)∧(o7.mk [] [] e w).code.length≤400∧(o7.mk [] [] e w).aO.length≤r+(l::ls).length:=fun e w=>⟨fun i hi=>(by cases hi),by simp,by simp⟩
  rw[gk]
  split
  ·exact O4 _ _
  ·rename_i hr;rw[Bool.not_eq_false] at hr
   split
   ·exact O4 _ _
   ·rename_i hb;obtain⟨t1,t2⟩:=o9 hr
    obtain⟨h4,h5,h6⟩:=sP ls (r+1) (c++dA (cM l) c.length r) (s++[((c.length:Nat):Int)]) (fun l' gf=>h0 l' (List.mem_cons_of_mem _ gf)) (fun i hi=>by
     rcases List.mem_append.1 hi with hi|hi
     ·exact h1 i hi
     ·exact zS (by rw[t2];exact h0 l (List.mem_cons_self ..)) i hi) (by rw[List.length_append,ou t1];omega) (by rw[List.length_append];simp only[List.length_cons,List.length_nil];omega)
    exact⟨h4,h5,by simp only[List.length_cons];omega⟩
theorem sO {ls:List (List dj)} (h:∀l∈ls,∀n∈l,n.rs.length≤1048576):(tG (bQ ls).code (bQ ls).aO).ok∧(bQ ls).code.length≤400:=by
 unfold bQ
 split
 ·exact⟨tF (fun i hi=>(by cases hi)) (by simp) (by simp),by simp⟩
 ·obtain⟨h1,h2,h3⟩:=sP ls 0 [] [] h (fun i hi=>by cases hi) (by simp) (by simp);exact⟨tF h1 (by omega) (by omega),h2⟩
def jR (fr:Go.V.Fr) (k:Nat):Go.V.D:=Go.V.nth .bp fr.loc k
def DP (b:List UInt8):List D:=[.str b]
theorem zK {l:List (List UInt8)} {i:Nat} {q:List UInt8} (h:l[i]?=some q):(l.map DP)[i]?=some (DP q):=by rw[List.getElem?_map,h];rfl
theorem G4 {parts:List (List dj)} (h:∀l∈parts,(∀n∈l,qV n)∧l.length≤500):∀r∈parts.map (fun l=>(⟨qX l,l⟩:Nl)),r.ok:=by
 intro r hr;obtain⟨l,hl,rfl⟩:=List.mem_map.1 hr;exact Jg (h l hl).1 (by have:=(h l hl).2;omega)
theorem yc {parts:List (List dj)}:(parts.map (fun l=>(⟨qX l,l⟩:Nl))).map wZ=parts.map c9:=by
 rw[List.map_map];rfl
theorem uu {s0:St} {y:D} {parts:List (List dj)} (h:∀l∈parts,(∀n∈l,qV n)∧l.length≤500) (hl:parts.length≤1048576) (hy:V.Rows s0 1 y (parts.map c9)):Ev pv 23 [y] s0 (kz (bQ parts)) s0∧(tG (bQ parts).code (bQ parts).aO).ok∧(bQ parts).code.length≤400:=by
 have h1:=ur (s0:=s0) (x:=y) (rules:=parts.map (fun l=>(⟨qX l,l⟩:Nl))) (by rw[yc];exact hy) (G4 h) (by rw[List.length_map];exact hl);have h2:(parts.map (fun l=>(⟨qX l,l⟩:Nl))).map (·.l)=parts:=by rw[List.map_map];exact List.map_id _
 rw[h2] at h1;exact⟨h1,sO fun l hl n hn=>((h l hl).1 n hn).2.1⟩
theorem wv {s0:St} {x:D} {ps:List (List UInt8)} (hx:V.Rows s0 1 x (ps.map DP)) (hl:ps.length≤1048576) (hb:∀b∈ps,b.length≤1048576):∃d,Ev pv 20 [x] s0 d s0∧∃(p:Pg) (ok:Bool),d=.tup [p.d,.bool ok]∧p.ok∧p.code.length≤400∧(ok=true→∃parts:List (List dj),parts.length=ps.length∧(bQ parts).e=0∧p=tG (bQ parts).code (bQ parts).aO∧∀l∈parts,(∀n∈l,qV n)∧l.length≤500):=by
 refine Ev.Dt rfl NR rfl rfl rfl ?_;dsimp only[u3,u4,List.length,Nat.reduceSub,Nat.reduceAdd,w1,w2];obtain⟨cn,hF,hH⟩:=ri s0;generalize aq .ro s0=S at*;have hx:=Arg.of hx cn;refine qq<|qj fun K hK=>qa hH fun k2 st hk2 hH=>?_;refine qm ?_;refine qe hK<|qq<|qj fun K hK=>qm ?_;refine qe hK<|qq<|qq<|qj fun K hK=>qm ?_;refine qe hK ?_;have hH:Has s0.bs.length S st (.aN .nul 1 (([]:List (List dj)).map c9)::.box k2 (.mem 0 false [.nul,.nul])::[]):=hH.fc 1;refine ag.block<|ag.loop (fun mm fr st=>∃(i:Nat) (ld:D) (parts:List (List dj)),fr.clean=⟨11,[x,jR fr 1,.ptr k2 0 0,.bool false,ld,.int .i64 (i:Nat),jR fr 6,jR fr 7,jR fr 8,jR fr 9,jR fr 10],[]⟩∧Has s0.bs.length S st [.aN ld 1 (parts.map c9),.box k2 (.mem 0 false [.nul,.nul])]∧(i+mm=ps.length)∧(∀l∈parts,(∀n∈l,qV n)∧l.length≤500)∧(parts.length=i)) (ps.length) ?_ ?_
 ·exact⟨0,.nul,[],rfl,hH,by omega,fun l hl=>(by cases hl),rfl⟩
 rintro mm fr st ⟨i,ld,parts,hfr,hH,hi,hp,gT⟩;rw[hfr];clear hfr;generalize jR fr=ee;clear fr;refine qq<|qq<|qj fun K hK=>qm ?_;refine qm ?_;refine qn ?_;simp only[List.length_map];refine qg ?_;refine qe hK ?_
 by_cases hlt:i<ps.length
 ·obtain⟨b,HG⟩:∃b,ps[i]?=some b:=⟨ps[i]'hlt,List.getElem?_eq_getElem _⟩
  have gM:=zK HG;have hbl:=hb b (List.mem_of_getElem? HG);have tg:decide (((i:Nat):Int)<((ps.length:Nat):Int))=true:=by rw[decide_eq_true_eq];omega
  refine qD rfl (by rw[tg]) ?_;refine ag.skip<|qq<|ag.block ?_;obtain⟨_,aM,l,e,w,rfl,hv,zB⟩:=xX (s0:=st) hbl;refine qq<|qj fun K hK=>qm ?_;refine qm ?_;refine qr fun KA CQ=>?_;refine qR ?_;refine qv (aM) ?_;refine qm ?_;refine qg ?_;refine qg ?_;refine qg ?_;refine qm ?_;refine qm ?_;refine qm ?_;refine qe hK<|qq<|qq<|qj fun K hK=>qm ?_;refine qg ?_;refine qe hK ?_;refine ag.cond (by rfl) (fun he=>?_) (fun he=>?_)<;>try simp only[bne_iff_ne,bne_eq_false_iff_eq,ne_eq] at he
  ·refine qq<|qj fun K hK=>ab.go (d:=.agg [.nul,.nul]) (st1:=_) rfl rfl rfl (ae rfl _) ?_;refine qS hH bN fun st hH=>?_;dsimp only[u2,u1,u3,u4,setMany,u5,u6,D.cells,Nat.reduceAdd,c9,kz,Pg.d,Pg.cs,tG] at hH;refine qm ?_;refine qe hK<|ag.ret ⟨rx,_,_,hH.cE rfl bN rfl rfl,rl cn hH (show _=some (D.tup [(tG [] []).d,.bool false]) from rfl),⟨_,_,rfl,tF (fun i hi=>(by cases hi)) (by simp) (by simp),by simp[tG],fun h=>(by cases h)⟩⟩
  ·refine ag.skip<|qj fun K hK=>qm ?_;refine qm ?_;refine qh (s:=1) (vs:=[_]) hH fun k32 st Mo hH=>?_;refine ab.cu (s:=1) hH rfl (ev rfl) (ev rfl) (by exact bN) (by exact hH.rows (by exact aB)) rfl rfl rfl rfl rfl rfl rfl ⟨(Nat.le_of_ble_eq_true rfl),(Nat.le_of_ble_eq_true rfl)⟩ (fun _=>(ae rfl _)) (by simp only[List.length_cons,List.length_nil,List.length_map]<;>omega) (by exact .inl hF) (fun Pt st hH=>?_);dsimp only[u2,u1,u3,u4,setMany,u5,u6,D.cells,Nat.reduceAdd,c9,kz,Pg.d,Pg.cs,tG] at hH;refine qm ?_;refine qe hK ?_;have hH:=hH.drop 1;refine qj fun K hK=>qm ?_;refine qA ?_;refine qm ?_;refine qe hK ?_;refine⟨mm-1,by omega,⟨i+1,Pt,parts++[l],rfl,(by rw[List.map_append];exact hH),by omega,?_,by rw[List.length_append,gT];rfl⟩⟩;intro l' gf
   rcases List.mem_append.1 gf with gf|gf
   ·exact hp l' gf
   ·simp only[List.mem_cons,List.not_mem_nil,or_false] at gf;subst gf;exact⟨hv,zB⟩
 ·have tg:decide (((i:Nat):Int)<((ps.length:Nat):Int))=false:=by rw[decide_eq_false_iff_not];omega
  refine qE rfl (by rw[tg]) ?_;refine ag.exit ?_;obtain⟨aM,cI,hlen⟩:=uu hp (by omega) (hH.rows aB)
  obtain⟨R,MU⟩:∃R,bQ parts=R:=⟨_,rfl⟩
  rw[MU] at aM cI hlen;refine qq<|qj fun K hK=>qm ?_;refine qv (aM) ?_;refine qm ?_;refine qg ?_;refine qg ?_;refine qg ?_;refine qa hH fun k9 st Tk hH=>?_;refine qS hH aB fun st hH=>?_;dsimp only[u2,u1,u3,u4,setMany,u5,u6,D.cells,Nat.reduceAdd,c9,kz,Pg.d,Pg.cs,tG] at hH;refine qm ?_;refine qm ?_;refine qe hK<|qq<|qj fun K hK=>?_;refine ab.b9 (m:=2) hH rfl (ev rfl) (by exact aB) (by dsimp only[List.drop_succ_cons,List.drop_zero,List.take_succ_cons,List.take_zero,c9,kz,Pg.d,Pg.cs,tG]<;>rfl) rfl rfl (ae rfl _) ?_;refine qm ?_;refine qg ?_;refine qS hH ei fun st hH=>?_;dsimp only[u2,u1,u3,u4,setMany,u5,u6,D.cells,Nat.reduceAdd,c9,kz,Pg.d,Pg.cs,tG] at hH;refine qm ?_;refine qe hK<|ag.ret ⟨rx,_,_,hH.cE rfl ei rfl rfl,rl cn hH (show _=some (D.tup [(tG R.code R.aO).d,.bool (R.e==0)]) from rfl),⟨_,_,rfl,cI,hlen,fun h=>⟨parts,by omega,by rw[MU];simpa using h,by rw[MU],hp⟩⟩⟩
open Go.V Go Go.RowKit
variable{H:Type} {enc:TypeId×Value→H} {w:World} {spare:Nat→Bool} {held:Bool} {d:DataW H}
end Go.Proofs.Ytbdnabmmlbiomaa
namespace Go.Proofs.Ytbdnabmmlbiomaa
open Go.V Go
theorem sL {code:List aP} {pc:Nat} {i:aP} (h:(code.map jL)[pc]?=some i):∃q,code[pc]?=some q∧i=jL q:=by
 rw[List.getElem?_map] at h;obtain⟨q,hq,rfl⟩:=Option.map_eq_some_iff.1 h;exact⟨q,hq,rfl⟩
theorem get_copy {code:List aP} {pc:Nat} {i:aP} (h:code[pc]?=some i):(code.map jL)[pc]?=some (jL i):=by
 rw[List.getElem?_map,h];rfl
theorem sI (code:List aP):∀(f:Nat) (seen:List Bool) (dE:List Int),y9 (code.map jL) f seen dE=y9 code f seen dE
 |0,_,_=>rfl
 |_+1,_,[]=>rfl
 |f+1,seen,v::dE=>by
  have ih:=sI code f;unfold y9;rw[List.getElem?_map]
  cases h1:seen[v.toNat]? with
  |none=>exact ih _ _
  |some b=>
   cases b with
   |true=>exact ih _ _
   |false=>
    cases h2:code[v.toNat]? with
    |none=>rfl
    |some i=>exact ih _ _
theorem mL (code:List aP) (s:Int):et (code.map jL) s=et code s:=by
 unfold et;rw[List.length_map,sI]
theorem tq {p q:Pg} (h1:q.code=p.code.map jL) (h2:q.aO=p.aO):eZ q↔eZ p:=by
 have hl:q.code.length=p.code.length:=by rw[h1];simp
 constructor
 ·intro h;refine⟨by rw[←hl];exact h.cl,by rw[←h2];exact h.sl,fun pc i hi=>?_,fun v hv=>?_,fun r s hs pc i DB CO hi ez=>?_⟩
  ·have:=h.sh pc (jL i) (by rw[h1];exact get_copy hi);rw[hl,h2] at this;exact this
  ·have:=h.st v (by rw[h2];exact hv);rw[hl] at this;exact this
  ·exact h.fo r s (by rw[h2];exact hs) pc (jL i) (by rw[hl];exact DB) (by rw[h1,mL];exact CO) (by rw[h1];exact get_copy hi) ez
 ·intro h;refine⟨by rw[hl];exact h.cl,by rw[h2];exact h.sl,fun pc i hi=>?_,fun v hv=>?_,fun r s hs pc i DB CO hi ez=>?_⟩
  ·rw[h1] at hi;obtain⟨j,hj,rfl⟩:=sL hi;rw[hl,h2];exact h.sh pc j hj
  ·rw[hl];exact h.st v (by rw[←h2];exact hv)
  ·rw[h1] at hi CO;rw[mL] at CO;obtain⟨j,hj,rfl⟩:=sL hi;exact h.fo r s (by rw[←h2];exact hs) pc j (by rw[←hl];exact DB) CO hj ez
theorem y_ {p:Prop} (h:dec p=true):p:=by
 refine Classical.byContradiction fun g=>?_;rw[nG g] at h;cases h
end Go.Proofs.Ytbdnabmmlbiomaa
namespace Go.Proofs.Ytbdnabmmlbiomaa
open Go.V Go
def cW (fr:Go.V.Fr) (k:Nat):Go.V.D:=Go.V.nth .bp fr.loc k
abbrev nZ:=Nat→Int
def aH (f:nZ):List D:=[.int .i64 (f 0),.int .i64 (f 1),.int .i64 (f 2),.int .i64 (f 3),.int .i64 (f 4),.int .i64 (f 5),.int .i64 (f 6),.int .i64 (f 7),.int .i64 (f 8),.int .i64 (f 9)]
def aZ:nZ:=fun _=>-1
def aD:nZ:=fun _=>0
def ek (f:nZ) (x:Nat) (v:Int):nZ:=fun j=>if j=x then v else f j
structure jv where
 pc:Nat
 at_:Nat
 c:nZ
def bo (t:jv):List D:=.int .i64 (t.pc:Nat)::.int .i64 (t.at_:Nat)::aH t.c
theorem xF {a b:D} {f:nZ} {x:Nat} {v:Int} (hx:x<10):setMany (a::b::aH f) (2+x) [.int .i64 v]=a::b::aH (ek f x v):=by
 match x,hx with
 |0,_=>rfl
 |1,_=>rfl
 |2,_=>rfl
 |3,_=>rfl
 |4,_=>rfl
 |5,_=>rfl
 |6,_=>rfl
 |7,_=>rfl
 |8,_=>rfl
 |9,_=>rfl
inductive Dm where
 |found
 |more (l:List jv)
def b5 (code:List aP) (gs:List (Nat×Nat)) (pl:List Int) (t:jv):Dm:=
 match code[t.pc]? with
 |none=>.more []
 |some i=>
  if i.op=7 then .found
  else if i.op=2 then .more [⟨i.x.toNat,t.at_,t.c⟩,⟨i.y.toNat,t.at_,t.c⟩]
  else if i.op=3 then .more [⟨i.x.toNat,t.at_,t.c⟩]
  else if i.op=4 then .more [⟨t.pc+1,t.at_,ek t.c i.x.toNat (pl.getD t.at_ 0)⟩]
  else if i.op=5 then .more (if t.at_=0 then[⟨t.pc+1,t.at_,t.c⟩] else[])
  else if i.op=6 then .more (if t.at_=gs.length then[⟨t.pc+1,t.at_,t.c⟩] else[])
  else .more (if t.at_<gs.length∧jC i.rs ((gs.getD t.at_ (0,0)).1:Nat)=true then[⟨t.pc+1,t.at_+1,t.c⟩] else[])
theorem ka {n ns pc:Nat} {i:aP} (h:dO n ns pc i=true):
  i.op=7∨(i.op=2∧(0≤i.x∧i.x<(n:Int))∧0≤i.y∧i.y<(n:Int))∨(i.op=3∧0≤i.x∧i.x<(n:Int))∨(i.op=4∧pc+1<n∧0≤i.x∧i.x<10)∨(i.op=5∧pc+1<n)∨(i.op=6∧pc+1<n)∨(i.op=1∧pc+1<n):=by
 unfold dO at h
 split at h
 ·rename_i h1;simp only[Bool.and_eq_true,decide_eq_true_eq] at h;refine .inr (.inr (.inr (.inr (.inr (.inr ⟨h1,?_⟩)))));omega
 ·simp only[Bool.and_eq_true] at h;obtain⟨_,h⟩:=h
  split at h
  ·rename_i h2;simp only[Bool.and_eq_true] at h;exact .inr (.inl ⟨h2,e6.1 h.1,e6.1 h.2⟩)
  ·simp only[Bool.and_eq_true] at h;obtain⟨_,h⟩:=h
   split at h
   ·rename_i h3;exact .inr (.inr (.inl ⟨h3,e6.1 h⟩))
   ·split at h
    ·rename_i h4;simp only[Bool.and_eq_true,decide_eq_true_eq] at h;exact .inr (.inr (.inr (.inl ⟨h4,by omega,e6.1 h.2⟩)))
    ·split at h
     ·rename_i h5;simp only[Bool.and_eq_true,decide_eq_true_eq] at h
      rcases h5 with h5|h5
      ·exact .inr (.inr (.inr (.inr (.inl ⟨h5,by omega⟩))))
      ·exact .inr (.inr (.inr (.inr (.inr (.inl ⟨h5,by omega⟩)))))
     ·split at h
      ·rename_i h7;exact .inl h7
      ·cases h
def ej (N:Nat) (S:St) (k:Nat) (p:Pg) (gs:List (Nat×Nat)) (bk fN:D) (ba:List Int) (H:List bT) (t:jv) (dE:List jv) (d:D) (ah:St):Prop:=
 match b5 p.code gs ba t with
 | .found=>d=.tup [.agg (aH t.c),.bool true]∧∃eG,Has N S ah (.box k (.mem 0 false [p.cd,p.sd,bX gs,bk,fN,eG])::.aN eG 12 (dE.reverse.map bo)::.aN bk 1 (ba.map av)::H)
 | .more l=>d=.tup [.agg (aH aD),.bool false]∧∃eG,Has N S ah (.box k (.mem 0 false [p.cd,p.sd,bX gs,bk,fN,eG])::.aN eG 12 ((l++dE).reverse.map bo)::.aN bk 1 (ba.map av)::H)
theorem zO {N:Nat} {S st:St} {H:List bT} {k:Nat} {p:Pg} {gs:List (Nat×Nat)} {bk fN eG:D} {ba:List Int} {t:jv} {dE:List jv} {i:aP} (hF:S.flr≤N) (hp:p.ok) (hi:p.code[t.pc]?=some i) (hsh:dO p.code.length p.aO.length t.pc i=true) (ni:gs.length≤1048576) (gN:t.at_≤gs.length) (gT:ba.length=gs.length+1) (jz:dE.length≤536870912)
  (hH:Has N S st (.box k (.mem 0 false [p.cd,p.sd,bX gs,bk,fN,eG])::.aN eG 12 (dE.reverse.map bo)::.aN bk 1 (ba.map av)::H)):
  ∃d ah,Ev pv 56 [.ptr k 0 0,.agg (bo t)] st d ah∧ej N S k p gs bk fN ba H t dE d ah:=by
 have hc:=hp.c.arg N S;have hlen:=hp.cl;have yI:Arg N S 2 (bX gs) (gs.map aY):=Arg.pure (fun st=>cC st gs);have hr:=jn hi;have yy:=(hp.i i (List.mem_of_getElem? hi)).1;have KH:=yy.arg N S;have xc:=(hp.i i (List.mem_of_getElem? hi)).2;have hlt:=cq hi;have uc:=ka hsh;obtain⟨op,x,y,rd,rs⟩:=i;obtain⟨pc,at_,c⟩:=t;simp only at*;refine Ev.lX rfl Nz rfl rfl rfl ?_;dsimp only[u3,u4,List.length,Nat.reduceSub,Nat.reduceAdd,w1,w2];change ag _ _ _ _ st _;refine qq<|qj fun K hK=>qb hH fun k3 st KN hH=>?_;dsimp only[u2,u1,u3,u4,setMany,u5,u6,D.cells,Nat.reduceAdd,aU,av,bo,aH] at hH;refine qa hH fun k4 st KM hH=>?_;refine qm ?_;refine qe hK<|qq<|qj fun K hK=>qm ?_;refine qg ?_;refine qp (o:=0) ?_;refine qp (o:=0) ?_;refine ql hH ei ?_;refine qp (o:=0) ?_;refine ql hH bN ?_;refine qr fun PT L_=>?_;refine ab.eo rfl (ev rfl) (by assumption) rfl (by dsimp only[Fr.put,u1,u2]<;>rfl) ?_;refine qa hH fun k6 st DF hH=>?_;refine qS hH aB fun st hH=>?_;dsimp only[u2,u1,u3,u4,setMany,u5,u6,D.cells,Nat.reduceAdd,aU,av,bo,aH] at hH;refine qe hK<|qq<|qj fun K hK=>?_;refine ab.b9 (m:=12) hH rfl (ev rfl) (by exact ei) (by dsimp only[List.drop_succ_cons,List.drop_zero,List.take_succ_cons,List.take_zero,aU,av,bo,aH]<;>rfl) rfl rfl (by dsimp only[Fr.put,u1,u2]<;>rfl) ?_;refine qa hH fun k7 st Ml hH=>?_;refine qS hH aB fun st hH=>?_;dsimp only[u2,u1,u3,u4,setMany,u5,u6,D.cells,Nat.reduceAdd,aU,av,bo,aH] at hH;refine qe hK<|qq<|qj fun K hK=>qp (o:=0) ?_;refine ql hH aB ?_;refine qA ?_;refine qp (o:=0) ?_;refine qT hH aB fun st hH=>?_;dsimp only[u2,u1,u3,u4,setMany,u5,u6,D.cells,Nat.reduceAdd,aU,av,bo,aH] at hH;refine qe hK<|qq<|qq<|qj fun K hK=>qp (o:=0) ?_;refine ql hH bN ?_;refine qe hK ?_;have S9:D.agg [.int .i64 0,.int .i64 0,.int .i64 0,.int .i64 0,.int .i64 0,.int .i64 0,.int .i64 0,.int .i64 0,.int .i64 0,.int .i64 0]=.agg (aH aD):=rfl;refine ag.merge (fun fr st=>∃(t':jv) (tmp:List (Nat×D)),fr=⟨24,[.ptr k 0 0,cW fr 1,cW fr 2,.ptr k3 0 0,.ptr k4 0 0,.bool false,.ptr k6 0 0,.ptr k7 0 0,cW fr 8,cW fr 9,cW fr 10,cW fr 11,cW fr 12,cW fr 13,cW fr 14,cW fr 15,cW fr 16,cW fr 17,cW fr 18,cW fr 19,cW fr 20,cW fr 21,cW fr 22,cW fr 23],tmp⟩∧Has N S st (.box k7 (.mem 0 false (bo t'))::.box k6 (.mem 0 false [.int .i64 op,.int .i64 x,.int .i64 y,rd])::.box k4 (.mem 0 false (aH aD))::.box k3 (.mem 0 false (bo ⟨pc,at_,c⟩))::.box k (.mem 0 false [p.cd,p.sd,bX gs,bk,fN,eG])::.aN eG 12 (dE.reverse.map bo)::.aN bk 1 (ba.map av)::H)∧(b5 p.code gs ba ⟨pc,at_,c⟩=.more [t'])) ?_ ?_
 ·refine ag.block<|qq<|qj fun K hK=>qg ?_;refine qm ?_;refine qe hK ?_;refine ag.cond (by rfl) (fun h7=>?_) (fun h7=>?_)<;>try simp only[beq_iff_eq,beq_eq_false_iff_ne,ne_eq] at h7
  ·have hS:b5 p.code gs ba ⟨pc,at_,c⟩=.found:=by unfold b5;simp only[hi];rw[if_pos h7]
   refine qq<|qj fun K hK=>qp (o:=2) ?_;refine ab.b9 (m:=10) hH rfl (ev rfl) (by exact gA) (by dsimp only[List.drop_succ_cons,List.drop_zero,List.take_succ_cons,List.take_zero,aU,av,bo,aH]<;>rfl) rfl rfl (ae rfl _) ?_;refine qS hH ei fun st hH=>?_;dsimp only[u2,u1,u3,u4,setMany,u5,u6,D.cells,Nat.reduceAdd,aU,av,bo,aH] at hH;refine qm ?_;refine qe hK<|ag.ret ⟨rx,_,_,_,hH.cE rfl ei rfl rfl,rfl,?_⟩;unfold ej;rw[hS];exact⟨rfl,eG,hH.drop 4⟩
  ·refine qq<|qj fun K hK=>qg ?_;refine qm ?_;refine qe hK ?_;refine ag.cond (by rfl) (fun h2=>?_) (fun h2=>?_)<;>try simp only[beq_iff_eq,beq_eq_false_iff_ne,ne_eq] at h2
   ·obtain⟨_,⟨hx0,hx1⟩,hy0,hy1⟩:=(uc.resolve_left h7).resolve_right (by omega);obtain⟨xn,rfl⟩:=Int.eq_ofNat_of_zero_le hx0;obtain⟨yn,rfl⟩:=Int.eq_ofNat_of_zero_le hy0;have hS:b5 p.code gs ba ⟨pc,at_,c⟩=.more [⟨xn,at_,c⟩,⟨yn,at_,c⟩]:=by unfold b5;simp only[hi];rw[if_neg h7,if_pos h2];rfl
    refine qq<|qj fun K hK=>qm ?_;refine qm ?_;refine qg ?_;refine qp (o:=5) ?_;refine ql hH iv ?_;refine qp (o:=2) ?_;refine ql hH bN ?_;refine qp (o:=1) ?_;refine ql hH gA ?_;refine qp (o:=2) ?_;refine ab.b9 (m:=10) hH rfl (ev rfl) (by exact gA) (by dsimp only[List.drop_succ_cons,List.drop_zero,List.take_succ_cons,List.take_zero,aU,av,bo,aH]<;>rfl) rfl rfl (ae rfl _) ?_;refine ab.go (d:=.agg (bo ⟨yn,at_,c⟩)) (st1:=_) rfl rfl rfl (ae rfl _) ?_;refine qp (o:=1) ?_;refine ql hH bN ?_;refine qp (o:=1) ?_;refine ql hH gA ?_;refine qp (o:=2) ?_;refine ab.b9 (m:=10) hH rfl (ev rfl) (by exact gA) (by dsimp only[List.drop_succ_cons,List.drop_zero,List.take_succ_cons,List.take_zero,aU,av,bo,aH]<;>rfl) rfl rfl (ae rfl _) ?_;refine ab.go (d:=.agg (bo ⟨xn,at_,c⟩)) (st1:=_) rfl rfl rfl (ae rfl _) ?_;refine qh (s:=12) (vs:=[_,_]) hH fun k49 st Rj hH=>?_;dsimp only[u2,u1,u3,u4,setMany,u5,u6,D.cells,Nat.reduceAdd,aU,av,bo,aH] at hH;refine ab.cu (s:=12) hH rfl (ev rfl) (ev rfl) (by exact IB) (by exact hH.rows (by exact aB)) rfl rfl rfl rfl rfl rfl rfl ⟨(Nat.le_of_ble_eq_true rfl),(Nat.le_of_ble_eq_true rfl)⟩ (fun _=>(ae rfl _)) (by simp only[List.length_cons,List.length_nil,List.length_map,List.length_reverse]<;>omega) (by exact .inl hF) (fun Pq st hH=>?_);dsimp only[u2,u1,u3,u4,setMany,u5,u6,D.cells,Nat.reduceAdd,aU,av,bo,aH] at hH;refine qg ?_;refine qp (o:=5) ?_;refine qT hH sY (fun st hH=>?_) (ij:=hH.g_ IB);dsimp only[u2,u1,u3,u4,setMany,u5,u6,D.cells,Nat.reduceAdd,aU,av,bo,aH] at hH;refine qe hK<|qq<|qj fun K hK=>ab.go (d:=.agg (aH aD)) (st1:=_) rfl rfl rfl (ae rfl _) ?_;refine qS hH gA fun st hH=>?_;dsimp only[u2,u1,u3,u4,setMany,u5,u6,D.cells,Nat.reduceAdd,aU,av,bo,aH] at hH;refine qm ?_;refine qe hK<|ag.ret ⟨rx,_,_,_,hH.cE rfl gA rfl rfl,rfl,?_⟩;unfold ej;rw[hS];refine⟨rfl,Pq,?_⟩;have LK:((([⟨xn,at_,c⟩,⟨yn,at_,c⟩]:List jv)++dE).reverse.map bo)=dE.reverse.map bo++[bo ⟨yn,at_,c⟩,bo ⟨xn,at_,c⟩]:=by simp
    rw[LK];exact hH.drop 5
   ·refine qq<|qj fun K hK=>qg ?_;refine qm ?_;refine qe hK ?_;refine ag.cond (by rfl) (fun h3=>?_) (fun h3=>?_)<;>try simp only[beq_iff_eq,beq_eq_false_iff_ne,ne_eq] at h3
    ·obtain⟨_,hx0,hx1⟩:=((uc.resolve_left h7).resolve_left (by omega)).resolve_right (by omega);obtain⟨xn,rfl⟩:=Int.eq_ofNat_of_zero_le hx0;refine qj fun K hK=>qp (o:=1) ?_;refine ql hH bN ?_;refine qp (o:=0) ?_;refine qT hH aB fun st hH=>?_;dsimp only[u2,u1,u3,u4,setMany,u5,u6,D.cells,Nat.reduceAdd,aU,av,bo,aH] at hH;refine qe hK ?_;exact⟨⟨xn,at_,c⟩,_,rfl,hH,by unfold b5;simp only[hi];rw[if_neg h7,if_neg h2,if_pos h3];rfl⟩
    ·refine qq<|qj fun K hK=>qg ?_;refine qm ?_;refine qe hK ?_;refine ag.cond (by rfl) (fun h4=>?_) (fun h4=>?_)<;>try simp only[beq_iff_eq,beq_eq_false_iff_ne,ne_eq] at h4
     ·obtain⟨_,Qx,hx0,hx1⟩:=(((uc.resolve_left h7).resolve_left (by omega)).resolve_left (by omega)).resolve_right (by omega);obtain⟨xn,rfl⟩:=Int.eq_ofNat_of_zero_le hx0
      obtain⟨bf,OP⟩:∃v,ba[at_]?=some v:=⟨ba[at_]'(by omega),List.getElem?_eq_getElem _⟩
      have gM:=ey OP;refine qj fun K hK=>qp (o:=1) ?_;refine ql hH bN ?_;refine qm ?_;refine qg ?_;refine qp (o:=3) ?_;refine ql hH iv ?_;refine qp (o:=1) ?_;refine ql hH gA ?_;refine qi hH IB fun PE LX=>?_;refine qo hH IB ?_;refine qp (o:=2) ?_;refine ab.HJ (m:=10) (s:=1) (i:=xn) (o:=2+xn) rfl (ev rfl) (ev rfl) rfl rfl (by omega) (by omega) (ae rfl _) ?_;refine ab.pT hH rfl (ev rfl) (ev rfl) rfl (by exact rfl) aB (by show 2+xn+1≤12;omega) (.inl hF) (fun st hH=>?_);change Has _ _ _ (.box k7 (.mem 0 false (setMany (_::_::aH c) (2+xn) [.int .i64 bf]))::_) at hH;rw[xF (by omega)] at hH;refine qe hK ?_;refine⟨⟨pc+1,at_,ek c xn bf⟩,_,rfl,hH,by unfold b5;simp only[hi];rw[if_neg h7,if_neg h2,if_neg h3,if_pos h4];simp[List.getD_eq_getElem?_getD,OP]⟩
     ·refine qq<|qj fun K hK=>qg ?_;refine qm ?_;refine qe hK ?_;refine ag.cond (by rfl) (fun h5=>?_) (fun h5=>?_)<;>try simp only[beq_iff_eq,beq_eq_false_iff_ne,ne_eq] at h5
      ·refine qq<|qj fun K hK=>qp (o:=1) ?_;refine ql hH gA ?_;refine qg ?_;refine qe hK ?_
       by_cases ha:at_=0
       ·subst ha;refine ag.cond (v:=false) (by dsimp only[Fr.ev,Fr.get,nth,V.look];rfl) (fun h=>by cases h) (fun _=>?_);refine ag.skip ?_;exact⟨⟨pc+1,0,c⟩,_,rfl,hH,by unfold b5;simp only[hi];rw[if_neg h7,if_neg h2,if_neg h3,if_neg h4,if_pos h5];rfl⟩
       ·refine qD rfl (by simp;omega) ?_;refine qq<|qj fun K hK=>ab.go (d:=.agg (aH aD)) (st1:=_) rfl rfl rfl (ae rfl _) ?_;refine qS hH ei fun st hH=>?_;dsimp only[u2,u1,u3,u4,setMany,u5,u6,D.cells,Nat.reduceAdd,aU,av,bo,aH] at hH;refine qm ?_;refine qe hK<|ag.ret ⟨rx,_,_,_,hH.cE rfl ei rfl rfl,rfl,?_⟩;have hS:b5 p.code gs ba ⟨pc,at_,c⟩=.more []:=by unfold b5;simp only[hi];rw[if_neg h7,if_neg h2,if_neg h3,if_neg h4,if_pos h5,if_neg ha]
        unfold ej;rw[hS];exact⟨rfl,eG,hH.drop 4⟩
      ·refine qq<|qj fun K hK=>qg ?_;refine qm ?_;refine qe hK ?_;refine ag.cond (by rfl) (fun h6=>?_) (fun h6=>?_)<;>try simp only[beq_iff_eq,beq_eq_false_iff_ne,ne_eq] at h6
       ·refine qq<|qj fun K hK=>qp (o:=1) ?_;refine ql hH gA ?_;refine qm ?_;refine qg ?_;refine qp (o:=2) ?_;refine ql hH iv ?_;refine qn ?_;simp only[List.length_map];refine qg ?_;refine qe hK ?_
        by_cases ha:at_=gs.length
        ·refine qE rfl (by rw[ha];simp) ?_;refine ag.skip ?_;exact⟨⟨pc+1,at_,c⟩,_,rfl,hH,by unfold b5;simp only[hi];rw[if_neg h7,if_neg h2,if_neg h3,if_neg h4,if_neg h5,if_pos h6,if_pos ha]⟩
        ·refine qD rfl (by simp;omega) ?_;refine qq<|qj fun K hK=>ab.go (d:=.agg (aH aD)) (st1:=_) rfl rfl rfl (ae rfl _) ?_;refine qS hH ei fun st hH=>?_;dsimp only[u2,u1,u3,u4,setMany,u5,u6,D.cells,Nat.reduceAdd,aU,av,bo,aH] at hH;refine qm ?_;refine qe hK<|ag.ret ⟨rx,_,_,_,hH.cE rfl ei rfl rfl,rfl,?_⟩;have hS:b5 p.code gs ba ⟨pc,at_,c⟩=.more []:=by unfold b5;simp only[hi];rw[if_neg h7,if_neg h2,if_neg h3,if_neg h4,if_neg h5,if_pos h6,if_neg ha]
         unfold ej;rw[hS];exact⟨rfl,eG,hH.drop 4⟩
       ·have h1:op=1:=by omega
        refine qq<|qj fun K hK=>qg ?_;refine qm ?_;refine qe hK<|qD rfl (by simp[h1]) ?_
        have lp:∀b,b5 p.code gs ba ⟨pc,at_,c⟩=.more b↔(.more (if at_<gs.length∧jC rs ((gs.getD at_ (0,0)).1:Nat)=true then[⟨pc+1,at_+1,c⟩] else[]):Dm)=.more b:=by
         intro b;unfold b5;simp only[hi];rw[if_neg h7,if_neg h2,if_neg h3,if_neg h4,if_neg h5,if_neg h6]
        by_cases ha:at_<gs.length
        ·obtain⟨g,hg⟩:∃g,gs[at_]?=some g:=⟨gs[at_]'ha,List.getElem?_eq_getElem _⟩
         have gM:(gs.map aY)[at_]?=some (aY g):=by rw[List.getElem?_map,hg];rfl
         have J3:gs.getD at_ (0,0)=g:=by rw[List.getD_eq_getElem?_getD,hg];rfl
         have dP:decide ((at_:Int)≥(gs.length:Nat))=false:=by rw[decide_eq_false];simp;omega
         rw[J3] at lp;refine qq<|qq<|ag.l7 114 (.bool (!jC rs (g.1:Nat))) [] ?_ (fun ff tmp il=>?_)
         ·refine qp (o:=1) ?_;refine ql hH gA ?_;refine qm ?_;refine qg ?_;refine qp (o:=2) ?_;refine ql hH iv ?_;refine qn ?_;simp only[List.length_map];refine qg ?_;refine qm ?_;refine qp (o:=3) ?_ (hg:=wi dP);refine ql hH bN ?_ (hg:=wi dP);refine qm ?_ (hg:=wi dP);refine qg ?_ (hg:=wi dP);refine qp (o:=2) ?_ (hg:=wi dP);refine ql hH iv ?_ (hg:=wi dP);refine qp (o:=1) ?_ (hg:=wi dP);refine ql hH gA ?_ (hg:=wi dP);refine qr (fun PY OT=>?_) (hg:=wi dP);refine qf (fo:=0) (fun PX OS=>?_) (hg:=wi dP);refine qR ?_ (hg:=wi dP);refine qv (HI (KH.rows hH) (by omega)) ?_ (hg:=wi dP);refine qg ?_ (hg:=wi dP);refine qu dP ?_;refine ab.nil (dD ?_ ?_)
          ·dsimp only[aJ,List.foldl,nth,u2,u1]
           all_goals(first|rfl|simp)
          ·dsimp only[Fr.aC,Fr.put,Fr.clean,Fr.ev,Fr.get,nth,look,u1,u2,v1,v2,v4]
           all_goals(first|rfl|(simp[dP];done)|(simp_all;done)|(simp[dP];omega)|(simp_all;omega))
         dsimp only[aJ,List.foldl,nth,u2,u1];refine ag.cond (by assumption) (fun hh=>?_) (fun hh=>?_)<;>try simp only[Bool.not_eq_true',Bool.not_eq_false'] at hh
         ·refine qq<|qj fun K hK=>ab.go (d:=.agg (aH aD)) (st1:=_) rfl rfl rfl (ae rfl _) ?_;refine qS hH ei fun st hH=>?_;dsimp only[u2,u1,u3,u4,setMany,u5,u6,D.cells,Nat.reduceAdd,aU,av,bo,aH] at hH;refine qm ?_;refine qe hK<|ag.ret ⟨rx,_,_,_,hH.cE rfl ei rfl rfl,rfl,?_⟩;have hS:=(lp []).2 (by rw[if_neg (by rintro⟨_,h⟩;rw[h] at hh;cases hh)]);unfold ej;rw[hS];exact⟨rfl,eG,hH.drop 4⟩
         ·refine ag.skip<|qj fun K hK=>qp (o:=1) ?_;refine ql hH aB ?_;refine qA ?_;refine qp (o:=1) ?_;refine qT hH aB fun st hH=>?_;dsimp only[u2,u1,u3,u4,setMany,u5,u6,D.cells,Nat.reduceAdd,aU,av,bo,aH] at hH;refine qe hK ?_;exact⟨⟨pc+1,at_+1,c⟩,_,rfl,hH,(lp _).2 (by rw[if_pos ⟨ha,by simpa using hh⟩])⟩
        ·have dP:decide ((at_:Int)≥(gs.length:Nat))=true:=by rw[decide_eq_true];simp;omega
         refine qq<|qq<|ag.l7 114 (.bool true) [] ?_ (fun ff tmp il=>?_)
         ·refine qp (o:=1) ?_;refine ql hH gA ?_;refine qm ?_;refine qg ?_;refine qp (o:=2) ?_;refine ql hH iv ?_;refine qn ?_;simp only[List.length_map];refine qg ?_;refine qm ?_;refine qs ?_ (hg:=wn dP);refine qs ?_ (hg:=wn dP);refine qs ?_ (hg:=wn dP);refine qs ?_ (hg:=wn dP);refine qs ?_ (hg:=wn dP);refine qs ?_ (hg:=wn dP);refine qs ?_ (hg:=wn dP);refine qs ?_ (hg:=wn dP);refine qs ?_ (hg:=wn dP);refine qs ?_ (hg:=wn dP);refine qs ?_ (hg:=wn dP);refine qs ?_ (hg:=wn dP);refine qs ?_ (hg:=wn dP);refine qt dP ?_;refine ab.nil (dD ?_ ?_)
          ·dsimp only[aJ,List.foldl,nth,u2,u1]
           all_goals(first|rfl|simp)
          ·dsimp only[Fr.aC,Fr.put,Fr.clean,Fr.ev,Fr.get,nth,look,u1,u2,v1,v2,v4]
           all_goals(first|rfl|(simp[dP];done)|(simp_all;done)|(simp[dP];omega)|(simp_all;omega))
         dsimp only[aJ,List.foldl,nth,u2,u1];refine qB ?_;refine qq<|qj fun K hK=>ab.go (d:=.agg (aH aD)) (st1:=_) rfl rfl rfl (ae rfl _) ?_;refine qS hH ei fun st hH=>?_;dsimp only[u2,u1,u3,u4,setMany,u5,u6,D.cells,Nat.reduceAdd,aU,av,bo,aH] at hH;refine qm ?_;refine qe hK<|ag.ret ⟨rx,_,_,_,hH.cE rfl ei rfl rfl,rfl,?_⟩;have hS:=(lp []).2 (by rw[if_neg (fun h=>ha h.1)]);unfold ej;rw[hS];exact⟨rfl,eG,hH.drop 4⟩
 ·rintro fr st ⟨t',tmp,hfr,hH,hS⟩;rw[hfr];clear hfr;generalize cW fr=ee;clear fr;obtain⟨Ow,Pj,c'⟩:=t';dsimp only[bo,aH] at hH;refine qq<|qj fun K hK=>qm ?_;refine qm ?_;refine qg ?_;refine qp (o:=5) ?_;refine ql hH iv ?_;refine ab.b9 (m:=12) hH rfl (ev rfl) (by exact aB) (by dsimp only[List.drop_succ_cons,List.drop_zero,List.take_succ_cons,List.take_zero,aU,av,bo,aH]<;>rfl) rfl rfl (ae rfl _) ?_;refine qh (s:=12) (vs:=[_]) hH fun k126 st O0 hH=>?_;refine ab.cu (s:=12) hH rfl (ev rfl) (ev rfl) (by exact IB) (by exact hH.rows (by exact aB)) rfl rfl rfl rfl rfl rfl rfl ⟨(Nat.le_of_ble_eq_true rfl),(Nat.le_of_ble_eq_true rfl)⟩ (fun _=>(ae rfl _)) (by simp only[List.length_cons,List.length_nil,List.length_map,List.length_reverse]<;>omega) (by exact .inl hF) (fun K3 st hH=>?_);dsimp only[u2,u1,u3,u4,setMany,u5,u6,D.cells,Nat.reduceAdd,aU,av,bo,aH] at hH;refine qg ?_;refine qp (o:=5) ?_;refine qT hH sY (fun st hH=>?_) (ij:=hH.g_ IB);dsimp only[u2,u1,u3,u4,setMany,u5,u6,D.cells,Nat.reduceAdd,aU,av,bo,aH] at hH;refine qe hK<|qq<|qj fun K hK=>ab.go (d:=.agg (aH aD)) (st1:=_) rfl rfl rfl (ae rfl _) ?_;refine qS hH gA fun st hH=>?_;dsimp only[u2,u1,u3,u4,setMany,u5,u6,D.cells,Nat.reduceAdd,aU,av,bo,aH] at hH;refine qm ?_;refine qe hK<|ag.ret ⟨rx,_,_,_,hH.cE rfl gA rfl rfl,rfl,?_⟩;unfold ej;rw[hS];refine⟨rfl,K3,?_⟩;have LK:((([⟨Ow,Pj,c'⟩]:List jv)++dE).reverse.map bo)=dE.reverse.map bo++[bo ⟨Ow,Pj,c'⟩]:=by simp
  rw[LK];exact hH.drop 5
end Go.Proofs.Ytbdnabmmlbiomaa
namespace Go.Proofs.Ytbdnabmmlbiomaa
open Go.V Go
def gw (fr:Go.V.Fr) (k:Nat):Go.V.D:=Go.V.nth .bp fr.loc k
def ia (idx:Nat→Nat→Nat) (pb:jv→Dm):Nat→List Bool→List jv→Option nZ×List Bool
 |0,arr,_=>(none,arr)
 |_+1,arr,[]=>(none,arr)
 |f+1,arr,t::dE=>match arr[idx t.pc t.at_]? with
  |some false=>match pb t with
   | .found=>(some t.c,arr.set (idx t.pc t.at_) true)
   | .more l=>ia idx pb f (arr.set (idx t.pc t.at_) true) (l++dE)
  |_=>ia idx pb f arr dE
theorem xy (code:List aP) (gs:List (Nat×Nat)) (pl:List Int) (t:jv):∀l,b5 code gs pl t=.more l→l.length≤2:=by
 intro l h;unfold b5 at h
 split at h
 ·cases h;simp
 ·repeat' split at h
  all_goals(first|(cases h;done)|(cases h;simp;done)|(cases h;split<;>simp))
def va (p:Pg) (gs:List (Nat×Nat)) (t:jv):Prop:=t.pc<p.code.length∧t.at_≤gs.length
theorem zN {p:Pg} {gs:List (Nat×Nat)} {pl:List Int} (hR:eZ p) {t:jv} (ht:va p gs t):∀l,b5 p.code gs pl t=.more l→∀u∈l,va p gs u:=by
 intro l h u hu;obtain⟨h1,h2⟩:=ht
 obtain⟨i,hi⟩:∃i,p.code[t.pc]?=some i:=⟨p.code[t.pc]'h1,List.getElem?_eq_getElem _⟩
 have hc:=ka (hR.sh t.pc i hi);unfold b5 at h;rw[hi] at h;simp only at h
 split at h
 ·cases h
 ·split at h
  ·cases h;simp only[List.mem_cons,List.not_mem_nil,or_false] at hu
   rcases hu with rfl|rfl
   ·exact⟨by show i.x.toNat<_;omega,h2⟩
   ·exact⟨by show i.y.toNat<_;omega,h2⟩
  ·split at h
   ·cases h;simp only[List.mem_cons,List.not_mem_nil,or_false] at hu;subst hu;exact⟨by show i.x.toNat<_;omega,h2⟩
   ·split at h
    ·cases h;simp only[List.mem_cons,List.not_mem_nil,or_false] at hu;subst hu;exact⟨by show t.pc+1<_;omega,h2⟩
    ·split at h
     ·cases h
      split at hu
      ·simp only[List.mem_cons,List.not_mem_nil,or_false] at hu;subst hu;exact⟨by show t.pc+1<_;omega,h2⟩
      ·cases hu
     ·split at h
      ·cases h
       split at hu
       ·simp only[List.mem_cons,List.not_mem_nil,or_false] at hu;subst hu;exact⟨by show t.pc+1<_;omega,h2⟩
       ·cases hu
      ·cases h
       split at hu
       ·rename_i h8;simp only[List.mem_cons,List.not_mem_nil,or_false] at hu;subst hu;exact⟨by show t.pc+1<_;omega,by show t.at_+1≤_;omega⟩
       ·cases hu
theorem xt (v:jv) (r:List jv):((v::r).reverse.map bo)[r.length]?=some (bo v):=by
 rw[List.getElem?_map,List.reverse_cons,List.getElem?_append_right (by simp)];simp
theorem zI (v:jv) (r:List jv):(((v::r).reverse.map bo).take r.length).drop 0=r.reverse.map bo:=by
 rw[List.reverse_cons,List.map_append,List.drop_zero,List.take_left' (by simp)]
def Jd (r:Option nZ):D:=match r with
 |some c=>.tup [.agg (aH c),.bool true]
 |none=>.tup [.agg (aH aD),.bool false]
def jS (n:Nat) (pc at_:Nat):Nat:=at_*n+pc
theorem yX {N:Nat} {S st:St} {H:List bT} {k:Nat} {p:Pg} {gs:List (Nat×Nat)} {bk fN eG:D} {ba:List Int} {nU:List (List D)} {arr:List Bool} {start i:Nat} (hF:S.flr≤N) (hp:p.ok) (hR:eZ p) (ni:gs.length≤1048576) (gT:ba.length=gs.length+1) (hsz:(gs.length+1)*p.code.length≤134217728) (hal:arr.length=(gs.length+1)*p.code.length) (fK:start<p.code.length) (hi:i≤gs.length)
  (hH:Has N S st (.box k (.mem 0 false [p.cd,p.sd,bX gs,bk,fN,eG])::.aN eG 12 nU::.aN bk 1 (ba.map av)::.aN fN 1 (arr.map aT)::H)):
  ∃d ah,Ev pv 34 [.ptr k 0 0,.int .i64 (start:Nat),.int .i64 (i:Nat)] st d ah∧∃yl G1,d=Jd (ia (jS p.code.length) (b5 p.code gs ba) (3*arr.length+1) arr [⟨start,i,aZ⟩]).1∧
   Has N S ah (.box k (.mem 0 false [p.cd,p.sd,bX gs,bk,fN,yl])::.aN yl 12 G1::.aN bk 1 (ba.map av)::.aN fN 1 ((ia (jS p.code.length) (b5 p.code gs ba) (3*arr.length+1) arr [⟨start,i,aZ⟩]).2.map aT)::H):=by
 have hlen:=hp.cl
 obtain⟨R,HN⟩:∃R,ia (jS p.code.length) (b5 p.code gs ba) (3*arr.length+1) arr [⟨start,i,aZ⟩]=R:=⟨_,rfl⟩
 rw[HN];have RO:=List.count_le_length (a:=false) (l:=arr);refine Ev.lX rfl NN rfl rfl rfl ?_;dsimp only[u3,u4,List.length,Nat.reduceSub,Nat.reduceAdd,w1,w2];change ag _ _ _ _ st _;refine qq<|qj fun K hK=>qa hH fun k6 st DF hH=>?_;refine qm ?_;refine qe hK<|qq<|qj fun K hK=>qm ?_;refine qm ?_;refine qg ?_;refine qp (o:=5) ?_;refine ql hH bN ?_;refine ab.tH hH rfl (ev rfl) (by exact ei) rfl rfl (ju (n:=0) (by omega)) ⟨by omega,by omega⟩ (fun _=>(ae rfl _)) (fun Su hH=>?_);dsimp only[u1,u2,List.take_zero] at hH;rw[List.drop_nil] at hH;refine qm ?_;refine qm ?_;refine qv (Ev.gY rfl rfl) ?_;refine ab.go (d:=.agg (bo ⟨start,i,aZ⟩)) (st1:=_) rfl rfl rfl (ae rfl _) ?_;refine qh (s:=12) (vs:=[_]) hH fun k22 st Ru hH=>?_;dsimp only[u2,u1,u3,u4,setMany,u5,u6,D.cells,Nat.reduceAdd,aU,av,aT,bo,aH,aZ,aD] at hH;refine ab.cu (s:=12) hH rfl (ev rfl) (ev rfl) (by exact gA) (by exact hH.rows (by exact aB)) rfl rfl rfl rfl rfl rfl rfl ⟨(Nat.le_of_ble_eq_true rfl),(Nat.le_of_ble_eq_true rfl)⟩ (fun _=>(ae rfl _)) (by simp only[List.length_cons,List.length_nil,List.length_map]<;>omega) (by exact .inl hF) (fun Sz st hH=>?_);dsimp only[u2,u1,u3,u4,setMany,u5,u6,D.cells,Nat.reduceAdd,aU,av,aT,bo,aH,aZ,aD] at hH;refine qg ?_;refine qp (o:=5) ?_;refine qT hH ei (fun st hH=>?_) (ij:=hH.g_ gA);dsimp only[u2,u1,u3,u4,setMany,u5,u6,D.cells,Nat.reduceAdd,aU,av,aT,bo,aH,aZ,aD] at hH;refine qe hK<|qq<|ag.block<|ag.loop (fun mm fr st=>∃(ld:D) (ar:List Bool) (dE:List jv),fr.clean=⟨12,[.ptr k 0 0,gw fr 1,gw fr 2,gw fr 3,gw fr 4,gw fr 5,.ptr k6 0 0,.bool false,gw fr 8,gw fr 9,gw fr 10,gw fr 11],[]⟩∧Has N S st (.box k6 (.mem 0 false (aH aD))::.box k (.mem 0 false [p.cd,p.sd,bX gs,bk,fN,ld])::.aN ld 12 (dE.reverse.map bo)::.aN bk 1 (ba.map av)::.aN fN 1 (ar.map aT)::H)∧(ia (jS p.code.length) (b5 p.code gs ba) mm ar dE=R)∧(3*ar.count false+dE.length≤mm)∧(ar.length=(gs.length+1)*p.code.length)∧(∀v∈dE,va p gs v)∧(mm≤3*arr.length+1)) (3*arr.length+1) ?_ ?_
 ·exact⟨_,arr,[⟨start,i,aZ⟩],rfl,(by exact hH.drop 1),HN,(by simp only[List.length_cons,List.length_nil];omega),hal,(by intro v hv;simp only[List.mem_cons,List.not_mem_nil,or_false] at hv;subst hv;exact⟨fK,hi⟩),Nat.le_refl _⟩
 rintro mm fr st ⟨ld,ar,dE,hfr,hH,hd,hm,hal,hsk,te⟩;rw[hfr];clear hfr;generalize gw fr=ee;clear fr
 rcases dE with _|⟨v,dE⟩
 ·refine qq<|qq<|qj fun K hK=>qm ?_;refine qg ?_;refine qp (o:=5) ?_;refine ql hH bN ?_;refine qn ?_ (hR:=hH.rows ei);simp only[List.length_map,List.length_nil,List.length_reverse];refine qg ?_;refine qe hK<|ag.cond (v:=false) (by dsimp only[Fr.ev,Fr.get,nth,V.look];rfl) (fun h=>by cases h) (fun _=>?_);refine ag.exit<|qq<|qj fun K hK=>ab.go (d:=.agg (aH aD)) (st1:=_) rfl rfl rfl (ae rfl _) ?_;refine qS hH aB fun st hH=>?_;dsimp only[u2,u1,u3,u4,setMany,u5,u6,D.cells,Nat.reduceAdd,aU,av,aT,bo,aH,aZ,aD] at hH;refine qm ?_;refine qe hK ?_;have eE:R=(none,ar):=by rw[←hd];cases mm<;>rfl
  refine ag.ret ⟨rx,_,_,_,hH.cE rfl aB rfl rfl,rfl,?_⟩;rw[eE];exact⟨_,_,rfl,hH.drop 1⟩
 ·have hv:=hsk v (List.mem_cons_self ..);obtain⟨w8,vl⟩:=hv;have fK:∀w∈dE,va p gs w:=fun w hw=>hsk w (List.mem_cons_of_mem _ hw);simp only[List.length_cons] at hm
  obtain⟨mm,rfl⟩:∃m',mm=m'+1:=⟨mm-1,by omega⟩
  have hbd:v.at_*p.code.length+v.pc<ar.length:=by
   have h1:(v.at_+1)*p.code.length≤(gs.length+1)*p.code.length:=Nat.mul_le_mul_right _ (by omega);rw[Nat.add_mul,Nat.one_mul] at h1;omega
  obtain⟨b,hb⟩:∃b,ar[jS p.code.length v.pc v.at_]?=some b:=⟨ar[jS p.code.length v.pc v.at_]'hbd,List.getElem?_eq_getElem _⟩
  obtain⟨ii,hii⟩:∃x,p.code[v.pc]?=some x:=⟨p.code[v.pc]'w8,List.getElem?_eq_getElem _⟩
  have LC:=fun l=>zN (pl:=ba) hR (t:=v) ⟨w8,vl⟩ l;have LD:=xy p.code gs ba v;have gM:=xt v dE;have nh:=nM hb
  obtain⟨m,nX⟩:∃m,v.at_*p.code.length=m:=⟨_,rfl⟩
  have KO:jS p.code.length v.pc v.at_=m+v.pc:=by unfold jS;rw[nX]
  rw[nX] at hbd;rw[KO] at nh;have RQ:=hp.c.arg N S;refine qq<|qq<|qj fun K hK=>qm ?_;refine qg ?_;refine qp (o:=5) ?_;refine ql hH bN ?_;refine qn ?_ (hR:=hH.rows ei);simp only[List.length_map,List.length_cons,List.length_reverse];refine qg ?_;refine qe hK<|qD rfl (by simp) ?_;refine ag.skip<|ag.block<|qq<|qj fun K hK=>qm ?_;refine qg ?_;refine qp (o:=5) ?_;refine ql hH bN ?_;refine qm ?_;refine qg ?_;refine qp (o:=5) ?_;refine ql hH bN ?_;refine qn ?_ (hR:=hH.rows ei);simp only[List.length_map,List.length_cons,List.length_reverse];refine ab.j7 (z:=((dE.length:Nat):Int)) rfl (ev rfl) (ev rfl) (by(try simp only[List.length_reverse,List.length_cons,List.length_nil,List.length_append,List.length_map,List.length_set]);rw[wrap_i64 (by omega) (by omega)]<;>omega) (ae rfl _) ?_;refine qi hH ei fun PK L3=>?_;refine ab.tJ hH rfl (ev rfl) (by assumption) (by exact ei) (by assumption) rfl (ae rfl _) ?_;refine qa hH fun k8 st Mj hH=>?_;dsimp only[u2,u1,u3,u4,setMany,u5,u6,D.cells,Nat.reduceAdd,aU,av,aT,bo,aH,aZ,aD] at hH;refine qS hH aB fun st hH=>?_;dsimp only[u2,u1,u3,u4,setMany,u5,u6,D.cells,Nat.reduceAdd,aU,av,aT,bo,aH,aZ,aD] at hH;refine qe hK<|qq<|qj fun K hK=>qm ?_;refine qm ?_;refine qg ?_;refine qp (o:=5) ?_;refine ql hH ei ?_;refine qm ?_;refine qg ?_;refine qp (o:=5) ?_;refine ql hH ei ?_;refine qn ?_ (hR:=hH.rows gA);simp only[List.length_map,List.length_cons,List.length_reverse];refine ab.j7 (z:=((dE.length:Nat):Int)) rfl (ev rfl) (ev rfl) (by(try simp only[List.length_reverse,List.length_cons,List.length_nil,List.length_append,List.length_map,List.length_set]);rw[wrap_i64 (by omega) (by omega)]<;>omega) (ae rfl _) ?_;refine ab.tH hH rfl (ev rfl) (by exact gA) rfl rfl (ju (by simp only[List.length_map,List.length_reverse,List.length_cons,List.length_append,List.length_nil,List.length_take,List.length_drop,List.length_set,List.length_replicate];omega)) ⟨(by omega),(by simp only[List.length_map,List.length_reverse,List.length_cons,List.length_append,List.length_nil,List.length_take,List.length_drop,List.length_set,List.length_replicate];omega)⟩ (fun _=>(ae rfl _)) (fun Oc hH=>?_);refine qg ?_;refine qp (o:=5) ?_;refine qT hH ei (fun st hH=>?_) (ij:=hH.g_ gA);dsimp only[u2,u1,u3,u4,setMany,u5,u6,D.cells,Nat.reduceAdd,aU,av,aT,bo,aH,aZ,aD] at hH;refine qe hK ?_;rw[zI] at hH;refine qq<|qj fun K hK=>qp (o:=1) ?_;refine ql hH aB ?_;refine qm ?_;refine qg ?_;refine qp (o:=0) ?_;refine qp (o:=0) ?_;refine ql hH ei ?_;refine qn ?_;simp only[List.length_map];refine ab.pG (z:=((m:Nat):Int)) rfl (ev rfl) (ev rfl) (by rw[←Int.natCast_mul,nX];exact du (by simp only[jy];omega)) (ae rfl _) ?_;refine qp (o:=0) ?_;refine ql hH aB ?_;refine ab.Ku rfl (ev rfl) (ev rfl) (by omega) (ae rfl _) ?_;refine qm ?_;refine qe hK<|qq<|qq<|qj fun K hK=>qm ?_;refine qg ?_;refine qp (o:=4) ?_;refine ql hH ei ?_;refine qm ?_;refine qi hH sY fun SJ QB=>?_;refine qo hH sY ?_;refine qe hK ?_
  cases b with
  |true=>
   refine qB ?_;refine ag.exit ?_;simp only[ia,hb] at hd;exact⟨mm,by omega,⟨_,ar,dE,rfl,(hH.drop 1),hd,by omega,hal,fK,by omega⟩⟩
  |false=>
   have J':=count_set hb;have ft:(ar.set (jS p.code.length v.pc v.at_) true).map aT=(ar.map aT).set (m+v.pc) [.bool true]:=by rw[List.map_set,KO];rfl
   simp only[ia,hb] at hd;refine qC ?_;refine ag.skip<|qq<|qj fun K hK=>qm ?_;refine qg ?_;refine qp (o:=4) ?_;refine ql hH ei ?_;refine qm ?_;refine qi hH sY fun PB LU=>?_;refine ab.jO hH rfl (ev rfl) (ev rfl) (by assumption) rfl rfl (by exact sY) (by assumption) (Nat.le_of_ble_eq_true rfl) (by exact .inl hF) (fun st hH=>?_);dsimp only[u2,u1,u3,u4,setMany,u5,u6,D.cells,Nat.reduceAdd,aU,av,aT,bo,aH,aZ,aD] at hH;refine qe hK ?_
   have R6:Has N S st (.box k (.mem 0 false [p.cd,p.sd,bX gs,bk,fN,Oc])::.aN Oc 12 (dE.reverse.map bo)::.aN bk 1 (ba.map av)::.box k6 (.mem 0 false (aH aD))::.aN fN 1 ((ar.map aT).set (m+v.pc) [.bool true])::H):=
    (((hH.drop 1).front (j:=3) rfl).front (j:=3) rfl).front (j:=3) rfl
   obtain⟨d,st1,aM,iT⟩:=zO hF hp hii (hR.sh v.pc ii hii) ni vl gT (by omega) R6;unfold ej at iT
   cases hS:b5 p.code gs ba v with
   |found=>
    rw[hS] at iT hd;simp only at iT hd;obtain⟨rfl,Ll,HO⟩:=iT;have HO:=HO.front (j:=3) rfl;refine qq<|qj fun K hK=>qm ?_;refine ab.b9 (m:=12) hH rfl (ev rfl) (by exact aB) (by dsimp only[List.drop_succ_cons,List.drop_zero,List.take_succ_cons,List.take_zero,aU,av,aT,bo,aH,aZ,aD]<;>rfl) rfl rfl (ae rfl _) ?_;refine qv (aM) ?_;refine qm ?_;refine qg ?_;refine qg ?_;refine ab.ny HO rfl rfl (fun _=>by dsimp only[Fr.put,u1,u2]<;>rfl) (fun k10 st Mq hH=>?_);dsimp only[aH,aD] at hH;refine qT hH aB fun st hH=>?_;dsimp only[u2,u1,u3,u4,setMany,u5,u6,D.cells,Nat.reduceAdd,aU,av,aT,bo,aH,aZ,aD] at hH;refine qm ?_;refine qe hK<|qq<|qj fun K hK=>qm ?_;refine qe hK<|qB ?_;refine qq<|qj fun K hK=>?_;refine ab.b9 (m:=10) hH rfl (ev rfl) (by exact aB) (by dsimp only[List.drop_succ_cons,List.drop_zero,List.take_succ_cons,List.take_zero,aU,av,aT,bo,aH,aZ,aD]<;>rfl) rfl rfl (ae rfl _) ?_;refine qS hH bN fun st hH=>?_;dsimp only[u2,u1,u3,u4,setMany,u5,u6,D.cells,Nat.reduceAdd,aU,av,aT,bo,aH,aZ,aD] at hH;refine qm ?_;refine qe hK<|ag.ret ⟨rx,_,_,_,hH.cE rfl bN rfl rfl,rfl,?_⟩;rw[←hd];exact⟨_,_,rfl,(by rw[ft];exact hH.drop 2)⟩
   |more l=>
    rw[hS] at iT hd;simp only at iT hd;obtain⟨rfl,Ll,HO⟩:=iT;have HO:=HO.front (j:=3) rfl;have qY:=LD l hS;refine qq<|qj fun K hK=>qm ?_;refine ab.b9 (m:=12) hH rfl (ev rfl) (by exact aB) (by dsimp only[List.drop_succ_cons,List.drop_zero,List.take_succ_cons,List.take_zero,aU,av,aT,bo,aH,aZ,aD]<;>rfl) rfl rfl (ae rfl _) ?_;refine qv (aM) ?_;refine qm ?_;refine qg ?_;refine qg ?_;refine ab.ny HO rfl rfl (fun _=>by dsimp only[Fr.put,u1,u2]<;>rfl) (fun k10 st Mq hH=>?_);dsimp only[aH,aD] at hH;refine qT hH aB fun st hH=>?_;dsimp only[u2,u1,u3,u4,setMany,u5,u6,D.cells,Nat.reduceAdd,aU,av,aT,bo,aH,aZ,aD] at hH;refine qm ?_;refine qe hK<|qq<|qj fun K hK=>qm ?_;refine qe hK<|qC ?_;refine ag.skip ?_;refine⟨mm,by omega,⟨_,ar.set (jS p.code.length v.pc v.at_) true,l++dE,rfl,(by rw[ft];exact hH.drop 1),hd,by simp only[List.length_append];omega,by rw[List.length_set];exact hal,?_,by omega⟩⟩;intro w hw
    rcases List.mem_append.1 hw with hw|hw
    ·exact LC l hS w hw
    ·exact fK w hw
end Go.Proofs.Ytbdnabmmlbiomaa
