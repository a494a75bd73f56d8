import Derived.Test.YtbdnabmmlbiomaaGreatWGQd
import Derived.Test.YtbdnabmmlbiomaaGreatWGPi
import Derived.Test.YtbdnabmmlbiomaaGreatWGUb
set_option linter.unusedSimpArgs false
set_option maxRecDepth 100000
set_option maxHeartbeats 4000000
set_option linter.unusedVariables false
namespace Go.Proofs.YtbdnabmmlbiomaaGreat
open Go.V Go
def af (fr:Go.V.Fr) (k:Nat):Go.V.D:=Go.V.nth .bD fr.loc k
theorem tf {c:Nat→List aJ} (hc:∀b,(c b).length=0) (z:Nat):∀k b,fJ c z k b=[]
 |0,_=>rfl
 |k+1,b=>by rw[fJ,tf hc z k,List.length_eq_zero_iff.1 (hc b)];rfl
theorem CA (s o:Nat) (lz:Bool):∃x y:Int,nX s o lz=dp 2 x y []:=by
 cases lz
 ·exact⟨_,_,rfl⟩
 ·exact⟨_,_,rfl⟩
theorem A9 {l:List dW} (yM:l.length≤1048576) {m:Nat} (ih:∀t:Tr,t.flat.length≤m→sB l t) {n:dW} {t:Tr} (gv:n.op=5) (ZF:t.flat.length≤m) (mg:wF n 1) (sL:t.ok) {N k:Nat} {S s0:St} {H:List bC} {nd zd ed:D} {code:List aJ} {Z E:List Int} {at_:Nat} (hF:S.flr≤N) (yI:eH nd 7 (l.map bt)) (j6:fY l at_ (n::t.flat)) (hsz:fY Z (at_+1) t.zs) (vu:fY E (at_+1) (t.es (at_+1))) (hb:code.length+bW n t.sz 1≤1000000) (hM:RH N S s0 k nd zd ed Z E H code):
  ∃r ah,Ev pv 125 [.ptr k 0 0,.int .i64 (at_:Nat)] s0 r ah∧r=.tup []∧RH N S ah k nd zd ed Z E H (code++n9 n (aV t) t.sz code.length):=by
 obtain⟨cd,dk,hH⟩:=hM;have hle:=j6.le (by simp);simp only[List.length_cons] at hle;have hn:=j6.head;have j6:=j6.tail;have iv:=lV hn;have oE:=eX (zz hsz)
 have Cf:0≤n.mn∧n.mn≤30∧(n.mx=-1∨(n.mn≤n.mx∧n.mx≤30)):=by
  obtain⟨_,hq⟩:=mg;omega
 have Lu:bW n t.sz 1=if n.mx=-1 then n.mn.toNat*t.sz+t.sz+2 else n.mn.toNat*t.sz+(n.mx.toNat-n.mn.toNat)*(t.sz+1):=by unfold bW;rw[if_neg (by omega),if_neg (by omega),if_neg (by omega),if_pos gv]
 rw[Lu] at hb;clear Lu;have Bs:=fun b=>cK t b sL;have hb1:code.length+n.mn.toNat*t.sz≤1000000:=by split at hb<;>omega
 refine Ev.iC rfl UE rfl rfl rfl ?_;dsimp only[u3,u4,List.length,Nat.reduceSub,Nat.reduceAdd,w1,w2];change ag _ _ _ _ s0 _;have hc:=yI.arg N S;refine qq<|qj fun K hK=>qm ?_;refine qg ?_;refine qp (o:=1) ?_;refine ql hH au ?_;refine qm ?_;refine qr fun Zf S'=>?_;refine aa.dJ rfl (ev rfl) (by assumption) rfl (by dsimp only[Fr.put,u1,u2]<;>rfl) ?_;refine qm ?_;refine qA ?_;refine qa hH fun k4 st Vd hH=>?_;refine qS hH au fun st hH=>?_;dsimp only[u2,u1,u3,u4,setMany,u5,u6,D.cells,Nat.reduceAdd,aG,bt,aq,kX] at hH;refine qm ?_;refine qe hK ?_;have hH:Has N S st (.box k (.mem 0 false [cd,nd,zd,ed])::.deep dk cd 4 (code.map aG)::.aM zd 1 (Z.map aq)::.aM ed 1 (E.map aq)::.box k4 (.mem 0 false (bt n))::H):=hH.KL;refine qq<|qq<|qj fun K hK=>qm ?_;refine qg ?_;refine qp (o:=2) ?_;refine ql hH au ?_;refine qm ?_;refine qi hH ba fun U7 Lr=>?_;refine qo hH ba ?_;refine qg ?_;refine qe hK ?_;have hRl:=jJ Bs n.mn.toNat code.length;refine ag.merge (fun fr st=>∃(cd:D) (dk:Nat→Prop) (tmp:List (Nat×D)),fr=⟨78,[.ptr k 0 0,.int .i64 (at_:Nat),af fr 2,af fr 3,.ptr k4 0 0,.int .i64 ((at_+1:Nat):Int),af fr 6,af fr 7,af fr 8,af fr 9,af fr 10,af fr 11,af fr 12,af fr 13,af fr 14,af fr 15,af fr 16,af fr 17,af fr 18,af fr 19,af fr 20,af fr 21,af fr 22,af fr 23,af fr 24,af fr 25,af fr 26,af fr 27,af fr 28,af fr 29,af fr 30,af fr 31,af fr 32,af fr 33,af fr 34,af fr 35,af fr 36,af fr 37,af fr 38,af fr 39,af fr 40,af fr 41,af fr 42,af fr 43,af fr 44,af fr 45,af fr 46,af fr 47,af fr 48,af fr 49,af fr 50,af fr 51,af fr 52,af fr 53,af fr 54,af fr 55,af fr 56,af fr 57,af fr 58,af fr 59,af fr 60,af fr 61,af fr 62,af fr 63,af fr 64,af fr 65,af fr 66,af fr 67,af fr 68,af fr 69,af fr 70,af fr 71,af fr 72,af fr 73,af fr 74,af fr 75,af fr 76,af fr 77],tmp⟩∧Has N S st (.box k (.mem 0 false [cd,nd,zd,ed])::.deep dk cd 4 ((code++fJ (aV t) t.sz n.mn.toNat code.length).map aG)::.aM zd 1 (Z.map aq)::.aM ed 1 (E.map aq)::.box k4 (.mem 0 false (bt n))::H)) ?_ ?_
 ·refine ag.cond (by rfl) (fun hz=>?_) (fun hz=>?_)<;>try simp only[decide_eq_true_eq,decide_eq_false_iff_not] at hz
  ·refine qq<|qj fun K hK=>qp (o:=2) ?_;refine ql hH bm ?_;refine qm ?_;refine qe hK<|ag.block<|ag.loop (fun mm fr st=>∃(i:Nat) (cd:D) (dk:Nat→Prop) (aZ:List aJ),fr.clean=⟨78,[.ptr k 0 0,.int .i64 (at_:Nat),af fr 2,af fr 3,.ptr k4 0 0,.int .i64 ((at_+1:Nat):Int),af fr 6,af fr 7,af fr 8,af fr 9,af fr 10,af fr 11,af fr 12,af fr 13,af fr 14,af fr 15,af fr 16,af fr 17,af fr 18,af fr 19,af fr 20,af fr 21,af fr 22,af fr 23,af fr 24,af fr 25,af fr 26,af fr 27,.int .i64 n.mn,.int .i64 (i:Nat),af fr 30,af fr 31,af fr 32,af fr 33,af fr 34,af fr 35,af fr 36,af fr 37,af fr 38,af fr 39,af fr 40,af fr 41,af fr 42,af fr 43,af fr 44,af fr 45,af fr 46,af fr 47,af fr 48,af fr 49,af fr 50,af fr 51,af fr 52,af fr 53,af fr 54,af fr 55,af fr 56,af fr 57,af fr 58,af fr 59,af fr 60,af fr 61,af fr 62,af fr 63,af fr 64,af fr 65,af fr 66,af fr 67,af fr 68,af fr 69,af fr 70,af fr 71,af fr 72,af fr 73,af fr 74,af fr 75,af fr 76,af fr 77],[]⟩∧Has N S st (.box k (.mem 0 false [cd,nd,zd,ed])::.deep dk cd 4 (aZ.map aG)::.aM zd 1 (Z.map aq)::.aM ed 1 (E.map aq)::.box k4 (.mem 0 false (bt n))::H)∧(i+mm=n.mn.toNat)∧(aZ++fJ (aV t) t.sz mm aZ.length=code++fJ (aV t) t.sz n.mn.toNat code.length)∧(aZ.length+mm*t.sz=code.length+n.mn.toNat*t.sz)) (n.mn.toNat) ?_ ?_
   ·exact⟨0,cd,dk,code,rfl,hH,by omega,rfl,rfl⟩
   rintro mm fr st ⟨i,cd,dk,aZ,hfr,hH,hi,rJ,hcl⟩;rw[hfr];clear hfr;generalize af fr=ee;clear fr;refine qq<|qj fun K hK=>qg ?_;refine qe hK ?_
   cases mm with
   |zero=>
    have iE:decide ((i:Int)<n.mn)=false:=by rw[decide_eq_false_iff_not];omega
    refine qq<|qE rfl (by rw[iE]) ?_;simp only[fJ,List.append_nil] at rJ;rw[rJ] at hH;refine ag.exit ?_;exact⟨cd,dk,_,rfl,hH⟩
   |succ mm=>
    have iE:decide ((i:Int)<n.mn)=true:=by rw[decide_eq_true_eq];omega
    rw[Nat.succ_mul] at hcl;refine qq<|qD rfl (by rw[iE]) ?_;refine ag.skip<|qq<|ag.block<|qj fun K hK=>qm ?_;refine qm ?_;obtain⟨_,st,aN,rfl,cd,dk,hH⟩:=ih t (by omega) hF yI j6 hsz vu sL (by omega) ⟨cd,dk,hH⟩;refine qv aN ?_;refine qe hK<|qj fun K hK=>qA ?_;refine qm ?_;refine qe hK ?_;exact⟨mm,by omega,⟨i+1,cd,dk,aZ++aV t aZ.length,rfl,hH,by omega,by rw[List.length_append,Bs,List.append_assoc];exact rJ,by rw[List.length_append,Bs];omega⟩⟩
  ·refine ag.skip ?_;have hz0:t.sz=0:=by omega
   have QY:fJ (aV t) t.sz n.mn.toNat code.length=[]:=tf (fun b=>by rw[Bs,hz0]) _ _ _;exact⟨cd,dk,_,rfl,(by rw[QY,List.append_nil];exact hH)⟩
 ·rintro fr st ⟨cd,dk,tmp,hfr,hH⟩;rw[hfr];clear hfr;generalize af fr=ee;clear fr;have Vg:(code++fJ (aV t) t.sz n.mn.toNat code.length).length=code.length+n.mn.toNat*t.sz:=by rw[List.length_append,hRl]
  unfold n9;rw[←Vg];rw[←Vg] at hb1
  have hb2:if n.mx=-1 then(code++fJ (aV t) t.sz n.mn.toNat code.length).length+t.sz+2≤1000000 else(code++fJ (aV t) t.sz n.mn.toNat code.length).length+(n.mx.toNat-n.mn.toNat)*(t.sz+1)≤1000000:=by
   rw[Vg];split
   ·rename_i h;rw[if_pos h] at hb;omega
   ·rename_i h;rw[if_neg h] at hb;omega
  have LG:∀X:List aJ,code++(fJ (aV t) t.sz n.mn.toNat code.length++X)=code++fJ (aV t) t.sz n.mn.toNat code.length++X:=fun X=>by rw[List.append_assoc]
  simp only[apply_ite (fun X:List aJ=>code++X),LG];clear LG Vg;generalize code++fJ (aV t) t.sz n.mn.toNat code.length=cR at*;refine qq<|qq<|qj fun K hK=>qp (o:=3) ?_;refine ql hH bm ?_;refine qg ?_;refine qe hK ?_
  by_cases CQ:n.mx=-1
  ·rw[if_pos CQ];rw[if_pos CQ] at hb2;refine qD rfl (by simp[CQ]) ?_;refine qq<|qj fun K hK=>qm ?_;refine aa.go (d:=.agg [.int .i64 2,.int .i64 0,.int .i64 0,.nul]) (st1:=_) rfl rfl rfl (by dsimp only[Fr.put,u1,u2]<;>rfl) ?_;have hH:=hH.er 2;obtain⟨_,st,aN,rfl,cd,dk,hH⟩:=gN (rs:=[]) hF (by omega) hH;refine qv aN ?_;refine qm ?_;refine qe hK ?_;have ng:(cR++[dp 2 0 0 []]).length=cR.length+1:=by simp
   refine qq<|qj fun K hK=>qm ?_;refine qm ?_;obtain⟨_,st,aN,rfl,cd,dk,hH⟩:=ih t (by omega) hF yI j6 hsz vu sL (by omega) ⟨cd,dk,hH⟩;refine qv aN ?_;refine qe hK ?_;rw[ng] at hH;have oG:(cR++[dp 2 0 0 []]++aV t (cR.length+1)).length=cR.length+1+t.sz:=by rw[List.length_append,ng,Bs]
   refine qq<|qj fun K hK=>qm ?_;refine qm ?_;refine aa.go (d:=.agg [.int .i64 3,.int .i64 (cR.length:Nat),.int .i64 0,.nul]) (st1:=_) rfl rfl rfl (by dsimp only[Fr.put,u1,u2]<;>rfl) ?_;have hH:=hH.er 2;obtain⟨_,st,aN,rfl,cd,dk,hH⟩:=gN (rs:=[]) hF (by omega) hH;refine qv aN ?_;refine qe hK ?_
   have QU:(cR++[dp 2 0 0 []]++aV t (cR.length+1)++[dp 3 (cR.length:Nat) 0 []])[cR.length]?=some (dp 2 0 0 []):=by
    rw[List.append_assoc,List.append_assoc];exact pU _ _ _
   have D1:(cR++[dp 2 0 0 []]++aV t (cR.length+1)++[dp 3 (cR.length:Nat) 0 []]).length=cR.length+t.sz+2:=by rw[List.length_append,oG];simp only[List.length_cons,List.length_nil];omega
   have Lh:(cR++[dp 2 0 0 []]++aV t (cR.length+1)++[dp 3 (cR.length:Nat) 0 []]).set cR.length (nX cR.length (cR.length+t.sz+2) n.lz)=cR++(nX cR.length (cR.length+t.sz+2) n.lz::(aV t (cR.length+1)++[mZ cR.length])):=by
    rw[List.append_assoc,List.append_assoc];exact pH _ _ _ _
   generalize cR++[dp 2 0 0 []]++aV t (cR.length+1)++[dp 3 (cR.length:Nat) 0 []]=En at*;refine qq<|qj fun K hK=>qm ?_;refine qm ?_;refine qm ?_;refine qg ?_;refine qp (o:=0) ?_;refine ql hH au ?_;refine aa.BS hH rfl (ev rfl) (by exact aS) rfl (by dsimp only[Fr.put,u1,u2]<;>rfl) ?_;simp only[List.length_map,List.length_append,List.length_cons,List.length_nil];refine qp (o:=4) ?_;refine ql hH bm ?_;obtain⟨_,st,aN,rfl,hH⟩:=qw (at_:=cR.length) (over:=En.length) (lz:=n.lz) QU (by omega) hH;refine qv aN ?_;refine qe hK ?_;rw[D1,Lh] at hH;refine ag.ret ⟨rx,_,_,_,rfl,rfl,?_⟩;exact⟨rfl,cd,dk,hH.erase 4⟩
  ·rw[if_neg CQ];rw[if_neg CQ] at hb2;refine qE rfl (by simp[CQ]) ?_;refine ag.skip ?_;obtain⟨a,ha⟩:∃a:Nat,n.mn=(a:Int):=Int.eq_ofNat_of_zero_le Cf.1;obtain⟨b,TX⟩:∃b:Nat,n.mx=(b:Int):=Int.eq_ofNat_of_zero_le (by omega);have Xz:n.mx.toNat-n.mn.toNat=b-a:=by omega
   rw[Xz] at hb2⊢;refine qq<|qj fun K hK=>qm ?_;refine qe hK<|qq<|qq<|qj fun K hK=>qp (o:=3) ?_;refine ql hH bm ?_;refine qp (o:=2) ?_;refine ql hH bm ?_;refine aa.mO (z:=((b-a:Nat):Int)) rfl (ev rfl) (ev rfl) (by rw[wrap_i64 (by omega) (by omega)]<;>omega) (by dsimp only[Fr.put,u1,u2]<;>rfl) ?_;refine qm ?_;refine qe hK ?_;have hH:Has N S st (.box k (.mem 0 false [cd,nd,zd,ed])::.deep dk cd 4 (cR.map aG)::.aM zd 1 (Z.map aq)::.aM ed 1 (E.map aq)::.aM .nul 1 (([]:List Nat).map kX)::.box k4 (.mem 0 false (bt n))::H):=(hH.er 1).KL;refine ag.block<|ag.loop (fun mm fr st=>∃(i:Nat) (cd jd:D) (dk:Nat→Prop) (aZ:List aJ) (js:List Nat),fr.clean=⟨78,[.ptr k 0 0,.int .i64 (at_:Nat),af fr 2,af fr 3,.ptr k4 0 0,.int .i64 ((at_+1:Nat):Int),af fr 6,jd,af fr 8,af fr 9,af fr 10,af fr 11,af fr 12,af fr 13,af fr 14,af fr 15,af fr 16,af fr 17,af fr 18,af fr 19,af fr 20,af fr 21,af fr 22,af fr 23,af fr 24,af fr 25,af fr 26,af fr 27,af fr 28,af fr 29,af fr 30,af fr 31,af fr 32,af fr 33,af fr 34,af fr 35,af fr 36,af fr 37,af fr 38,af fr 39,af fr 40,af fr 41,af fr 42,af fr 43,af fr 44,af fr 45,af fr 46,af fr 47,af fr 48,af fr 49,af fr 50,af fr 51,af fr 52,af fr 53,af fr 54,af fr 55,af fr 56,af fr 57,af fr 58,af fr 59,af fr 60,af fr 61,.int .i64 ((b-a:Nat):Int),.int .i64 (i:Nat),af fr 64,af fr 65,af fr 66,af fr 67,af fr 68,af fr 69,af fr 70,af fr 71,af fr 72,af fr 73,af fr 74,af fr 75,af fr 76,af fr 77],[]⟩∧Has N S st (.box k (.mem 0 false [cd,nd,zd,ed])::.deep dk cd 4 (aZ.map aG)::.aM zd 1 (Z.map aq)::.aM ed 1 (E.map aq)::.aM jd 1 (js.map kX)::.box k4 (.mem 0 false (bt n))::H)∧(i+mm=b-a)∧(aZ++fx (fun _=>dp 2 0 0 []) (aV t) t.sz mm aZ.length=cR++fx (fun _=>dp 2 0 0 []) (aV t) t.sz (b-a) cR.length)∧(js++wz t.sz mm aZ.length=wz t.sz (b-a) cR.length)∧(aZ.length+mm*(t.sz+1)=cR.length+(b-a)*(t.sz+1))∧(js.length=i)) (b-a) ?_ ?_
   ·exact⟨0,cd,.nul,dk,cR,[],rfl,hH,by omega,rfl,rfl,rfl,rfl⟩
   rintro mm fr st ⟨i,cd,jd,dk,aZ,js,hfr,hH,hi,iT,hjs,hcl,kL⟩;rw[hfr];clear hfr;generalize af fr=ee;clear fr;refine qq<|qj fun K hK=>qg ?_;refine qe hK ?_
   cases mm with
   |zero=>
    have iE:decide ((i:Int)<((b-a:Nat):Int))=false:=by rw[decide_eq_false_iff_not];omega
    refine qq<|qE rfl (by rw[iE]) ?_;refine ag.exit<|qq<|qj fun K hK=>qm ?_;refine qn ?_ (hR:=hH.rows bm);simp only[List.length_map];refine qm ?_;refine qe hK ?_;simp only[fx,wz,List.append_nil] at iT hjs;rw[iT] at hH;obtain⟨Ce,Ls⟩:=oc (sp:=fun s=>nX s (cR.length+(b-a)*(t.sz+1)) n.lz) Bs (i0:=dp 2 0 0 []) (b-a) cR.length cR [] rfl;simp only[List.append_nil] at Ce Ls;have XV:(cR++fx (fun _=>dp 2 0 0 []) (aV t) t.sz (b-a) cR.length).length=cR.length+(b-a)*(t.sz+1):=by rw[List.length_append,qZ Bs]
    rw[←hjs] at Ce Ls;rw[←Ce];clear Ce iT;generalize cR++fx (fun _=>dp 2 0 0 []) (aV t) t.sz (b-a) cR.length=C0 at*;generalize cR.length+(b-a)*(t.sz+1)=e at*;refine ag.block<|ag.loop (fun mm fr st=>∃(q:Nat) (C:List aJ),fr.clean=⟨78,[.ptr k 0 0,af fr 1,af fr 2,af fr 3,.ptr k4 0 0,af fr 5,af fr 6,af fr 7,af fr 8,af fr 9,af fr 10,af fr 11,af fr 12,af fr 13,af fr 14,af fr 15,af fr 16,af fr 17,af fr 18,af fr 19,af fr 20,af fr 21,af fr 22,af fr 23,af fr 24,af fr 25,af fr 26,af fr 27,af fr 28,af fr 29,af fr 30,af fr 31,af fr 32,af fr 33,af fr 34,af fr 35,af fr 36,af fr 37,af fr 38,af fr 39,af fr 40,af fr 41,af fr 42,af fr 43,af fr 44,af fr 45,af fr 46,af fr 47,af fr 48,af fr 49,af fr 50,af fr 51,af fr 52,af fr 53,af fr 54,af fr 55,af fr 56,af fr 57,af fr 58,af fr 59,af fr 60,af fr 61,af fr 62,af fr 63,af fr 64,af fr 65,af fr 66,af fr 67,af fr 68,af fr 69,af fr 70,af fr 71,af fr 72,af fr 73,af fr 74,jd,.int .i64 (js.length:Nat),.int .i64 (q:Nat)],[]⟩∧Has N S st (.box k (.mem 0 false [cd,nd,zd,ed])::.deep dk cd 4 (C.map aG)::.aM zd 1 (Z.map aq)::.aM ed 1 (E.map aq)::.aM jd 1 (js.map kX)::.box k4 (.mem 0 false (bt n))::H)∧(q+mm=js.length)∧(iJ (fun s=>nX s e n.lz) C (js.drop q)=iJ (fun s=>nX s e n.lz) C0 js)∧(∀p∈js,∃x y:Int,C[p]?=some (dp 2 x y []))∧(C.length=e)) (js.length) ?_ ?_
    ·exact⟨0,C0,rfl,hH,by omega,rfl,fun p hp=>⟨_,_,Ls p hp⟩,XV⟩
    rintro mm fr st ⟨q,C,hfr,hH,hq,hU,lu,RF⟩;rw[hfr];clear hfr;generalize af fr=ee;clear fr;refine qq<|qj fun K hK=>qg ?_;refine qe hK<|qq ?_;refine ag.cond (by rfl) (fun hlt=>?_) (fun hlt=>?_)<;>try simp only[decide_eq_true_eq,decide_eq_false_iff_not] at hlt
    ·refine ag.skip ?_;have Ml:q<js.length:=by omega
     obtain⟨p,hp⟩:∃p,js[q]?=some p:=⟨js[q]'Ml,List.getElem?_eq_getElem _⟩
     obtain⟨x,y,hv⟩:=lu p (List.mem_of_getElem? hp);have iv:=wJ hp;have fU:=bj hv;refine qq<|ag.block<|qq<|qj fun K hK=>qi hH bm fun Y_ S4=>?_;refine qo hH bm ?_;refine qm ?_;refine qe hK<|qj fun K hK=>qm ?_;refine qm ?_;refine qm ?_;refine qg ?_;refine qp (o:=0) ?_;refine ql hH au ?_;refine aa.BS hH rfl (ev rfl) (by exact aS) rfl (ab rfl _) ?_;simp only[List.length_map];refine qp (o:=4) ?_;refine ql hH bJ ?_;obtain⟨_,st,aN,rfl,hH⟩:=qw (at_:=p) (over:=C.length) (lz:=n.lz) hv (by omega) hH;refine qv aN ?_;refine qe hK<|qj fun K hK=>qA ?_;refine qm ?_;refine qe hK ?_
     have sQ:js.drop q=p::js.drop (q+1):=by
      rw[List.drop_eq_getElem_cons Ml]
      congr 1
      exact Option.some.inj ((List.getElem?_eq_getElem _).symm.trans hp)
     refine⟨mm-1,by omega,⟨q+1,C.set p (nX p e n.lz),rfl,(by rw[RF] at hH;exact hH),by omega,by rw[sQ] at hU;exact hU,?_,by rw[List.length_set];exact RF⟩⟩;intro p' uX
     by_cases hpp:p'=p
     ·subst hpp;obtain⟨x',y',SA⟩:=CA p' e n.lz;exact⟨x',y',by rw[List.getElem?_set_self fU,SA]⟩
     ·rw[List.getElem?_set_ne (fun e=>hpp e.symm)];exact lu p' uX
    ·refine ag.exit ?_;refine⟨fun i h=>(by cases h),_,_,_,rfl,rfl,?_⟩;have Ln:q=js.length:=by omega
     rw[Ln,List.drop_length] at hU;have hU:C=iJ (fun s=>nX s e n.lz) C0 js:=hU;rw[←hU];exact⟨rfl,cd,dk,(hH.erase 5).erase 4⟩
   |succ mm=>
    have iE:decide ((i:Int)<((b-a:Nat):Int))=true:=by rw[decide_eq_true_eq];omega
    rw[Nat.succ_mul] at hcl;refine qq<|qD rfl (by rw[iE]) ?_;refine ag.skip<|qq<|ag.block<|qq<|qj fun K hK=>qm ?_;refine qm ?_;refine aa.go (d:=.agg [.int .i64 2,.int .i64 0,.int .i64 0,.nul]) (st1:=_) rfl rfl rfl (by dsimp only[Fr.put,u1,u2]<;>rfl) ?_;have hH:=hH.er 2;obtain⟨_,st,aN,rfl,cd,dk,hH⟩:=gN (rs:=[]) hF (by omega) hH;refine qv aN ?_;refine qh (s:=1) (vs:=[_]) hH fun k69 st aaL hH=>?_;dsimp only[u2,u1,u3,u4,setMany,u5,u6,D.cells,Nat.reduceAdd,aG,bt,aq,kX] at hH;refine qP hH bJ (hH.rows au) fun x70 st hH=>?_;dsimp only[u2,u1,u3,u4,setMany,u5,u6,D.cells,Nat.reduceAdd,aG,bt,aq,kX] at hH;refine qm ?_;refine qe hK ?_;have hH:=hH.drop 1;have ng:(aZ++[dp 2 0 0 []]).length=aZ.length+1:=by simp
    refine qj fun K hK=>qm ?_;refine qm ?_;obtain⟨_,st,aN,rfl,cd,dk,hH⟩:=ih t (by omega) hF yI j6 hsz vu sL (by omega) ⟨cd,dk,hH⟩;refine qv aN ?_;refine qe hK ?_;rw[ng] at hH;have oG:(aZ++[dp 2 0 0 []]++aV t (aZ.length+1)).length=aZ.length+1+t.sz:=by rw[List.length_append,ng,Bs]
    refine qj fun K hK=>qA ?_;refine qm ?_;refine qe hK ?_;exact⟨mm,by omega,⟨i+1,cd,x70,dk,aZ++[dp 2 0 0 []]++aV t (aZ.length+1),js++[aZ.length],rfl,(by rw[List.map_append (f:=kX)];exact hH),by omega,by rw[oG,←iT];simp only[fx,List.append_assoc,List.cons_append,List.nil_append],by rw[oG,←hjs];simp only[wz,List.append_assoc,List.cons_append,List.nil_append],by rw[oG];omega,by rw[List.length_append,kL];rfl⟩⟩
def b5 (fr:Go.V.Fr) (k:Nat):Go.V.D:=Go.V.nth .bD fr.loc k
theorem xx (t:Tr):gj (.cons t .nil)=aV t:=by
 funext b;simp only[gj,List.append_nil]
theorem xU (t:Tr):(bS.cons t .nil).sz=t.sz:=by simp only[bS.sz,Nat.add_zero]
theorem KY {l:List dW} (yM:l.length≤1048576) (hi:∀n∈l,n.ok):∀(m:Nat) (t:Tr),t.flat.length≤m→sB l t:=by
 intro m
 induction m with
 |zero=>intro t h;have:=t.iU;omega
 |succ m ih=>
  rintro⟨n,ks⟩ hm N k S s0 H nd zd ed code Z E at_ hF yI j6 hsz vu bd hb hM;have hM0:=hM;obtain⟨cd,dk,hH⟩:=hM;simp only[Tr.ok] at bd;obtain⟨mg,mK⟩:=bd;simp only[Tr.flat,List.length_cons] at hm;have hle:=j6.le (by simp[Tr.flat]);simp only[Tr.flat] at j6 hle;simp only[List.length_cons] at hle;simp only[Tr.zs] at hsz;simp only[Tr.es] at vu;simp only[Tr.sz] at hb;have hn:=j6.head;have Te:=hi n (List.mem_of_getElem? hn);have Bu:=Te.1.arg N S;have pt:=Te.2.1;have iv:=lV hn;have QH:=mg.1;have gq:=bS.lf ks;have hcat:=fun b=>nD ks b mK;refine Ev.iC rfl X5 rfl rfl rfl ?_;dsimp only[u3,u4,List.length,Nat.reduceSub,Nat.reduceAdd,w1,w2];change ag _ _ _ _ s0 _;have hc:=yI.arg N S;refine qq<|qj fun K hK=>qm ?_;refine qg ?_;refine qp (o:=1) ?_;refine ql hH au ?_;refine qm ?_;refine qr fun Zh Tb=>?_;refine aa.dJ rfl (ev rfl) (by assumption) rfl (by dsimp only[Fr.put,u1,u2]<;>rfl) ?_;refine qa hH fun k4 st Vd hH=>?_;refine qS hH au fun st hH=>?_;dsimp only[u2,u1,u3,u4,setMany,u5,u6,D.cells,Nat.reduceAdd,aG,bt,aq,kX] at hH;refine qe hK ?_;have hH:Has N S st (.box k (.mem 0 false [cd,nd,zd,ed])::.deep dk cd 4 (code.map aG)::.aM zd 1 (Z.map aq)::.aM ed 1 (E.map aq)::.box k4 (.mem 0 false (bt n))::H):=hH.KL;refine qq<|qj fun K hK=>qp (o:=0) ?_;refine ql hH bm ?_;refine qe hK<|ag.block<|qq<|qj fun K hK=>qg ?_;refine qm ?_;refine qe hK ?_;refine ag.cond (by rfl) (fun q2=>?_) (fun q2=>?_)<;>try simp only[beq_iff_eq,beq_eq_false_iff_ne,ne_eq] at q2
  ·have yT:aV (.mk n ks) code.length=[dp 1 0 0 n.rs]:=by simp only[aV,if_pos q2]
   rw[yT];have hz:bW n ks.sz ks.len=1:=by unfold bW;rw[if_pos (.inl q2)]
   have hH:=hH.er 2;refine qj fun K hK=>qm ?_;refine qp (o:=1) ?_;refine ql hH bJ ?_;refine qP hH au (Arg.rows (by assumption) hH) fun YS st hH=>?_;dsimp only[u2,u1,u3,u4,setMany,u5,u6,D.cells,Nat.reduceAdd,aG,bt,aq,kX] at hH;refine aa.gu (qs:=[(0,_),(3,_)]) rfl rfl rfl rfl ⟨rfl,(ev rfl),(by rfl),rfl,(ev rfl),(by exact hH.cm (by exact au)),trivial⟩ (by intro q hq;simp only[List.mem_cons,List.not_mem_nil,or_false] at hq;rcases hq with rfl|rfl<;>exact⟨rfl,by exact Nat.le_of_ble_eq_true rfl⟩) (by show List.foldl _ [_,_,_,_] _=_;dsimp only[List.foldl_cons,List.foldl_nil,u2,u1]<;>rfl) (by dsimp only[Fr.put,u1,u2]<;>rfl) ?_;obtain⟨_,st,aN,rfl,cd,dk,hH⟩:=gN (rs:=n.rs) hF (by omega) hH;refine qv aN ?_;refine qe hK ?_;refine⟨fun i h=>(by cases h),_,_,_,rfl,rfl,?_⟩;exact⟨rfl,cd,dk,hH.erase 4⟩
  refine qq<|qj fun K hK=>qg ?_;refine qm ?_;refine qe hK ?_;refine ag.cond (by rfl) (fun q7=>?_) (fun q7=>?_)<;>try simp only[beq_iff_eq,beq_eq_false_iff_ne,ne_eq] at q7
  ·have yT:aV (.mk n ks) code.length=[dp 5 0 0 []]:=by simp only[aV,if_neg q2,if_pos q7]
   rw[yT];refine qj fun K hK=>qm ?_;refine aa.go (d:=.agg [.int .i64 5,.int .i64 0,.int .i64 0,.nul]) (st1:=_) rfl rfl rfl (by dsimp only[Fr.put,u1,u2]<;>rfl) ?_;have hH:=hH.er 2;obtain⟨_,st,aN,rfl,cd,dk,hH⟩:=gN (rs:=[]) hF (by omega) hH;refine qv aN ?_;refine qe hK ?_;refine⟨fun i h=>(by cases h),_,_,_,rfl,rfl,?_⟩;exact⟨rfl,cd,dk,hH.erase 4⟩
  refine qq<|qj fun K hK=>qg ?_;refine qm ?_;refine qe hK ?_;refine ag.cond (by rfl) (fun q8=>?_) (fun q8=>?_)<;>try simp only[beq_iff_eq,beq_eq_false_iff_ne,ne_eq] at q8
  ·have yT:aV (.mk n ks) code.length=[dp 6 0 0 []]:=by simp only[aV,if_neg q2,if_neg q7,if_pos q8]
   rw[yT];refine qj fun K hK=>qm ?_;refine aa.go (d:=.agg [.int .i64 6,.int .i64 0,.int .i64 0,.nul]) (st1:=_) rfl rfl rfl (by dsimp only[Fr.put,u1,u2]<;>rfl) ?_;have hH:=hH.er 2;obtain⟨_,st,aN,rfl,cd,dk,hH⟩:=gN (rs:=[]) hF (by omega) hH;refine qv aN ?_;refine qe hK ?_;refine⟨fun i h=>(by cases h),_,_,_,rfl,rfl,?_⟩;exact⟨rfl,cd,dk,hH.erase 4⟩
  refine qq<|qj fun K hK=>qg ?_;refine qm ?_;refine qe hK ?_;refine ag.cond (by rfl) (fun q3=>?_) (fun q3=>?_)<;>try simp only[beq_iff_eq,beq_eq_false_iff_ne,ne_eq] at q3
  ·have yT:aV (.mk n ks) code.length=gj ks code.length:=by simp only[aV,if_neg q2,if_neg q7,if_neg q8,if_pos q3]
   rw[yT];have hz:bW n ks.sz ks.len=ks.sz:=by unfold bW;rw[if_neg (by omega),if_neg (by omega),if_neg (by omega),if_neg (by omega)]
   rw[hz] at hb;refine qq<|qj fun K hK=>qm ?_;refine qA ?_;refine qm ?_;refine qe hK<|qq<|qj fun K hK=>qp (o:=6) ?_;refine ql hH bm ?_;refine qm ?_;refine qe hK<|ag.block<|ag.loop (fun mm fr st=>∃(i j:Nat) (rest:bS) (cd:D) (dk:Nat→Prop) (aZ:List aJ),fr.clean=⟨40,[.ptr k 0 0,.int .i64 (at_:Nat),b5 fr 2,b5 fr 3,.ptr k4 0 0,.int .i64 (j:Nat),b5 fr 6,b5 fr 7,b5 fr 8,b5 fr 9,b5 fr 10,b5 fr 11,b5 fr 12,b5 fr 13,b5 fr 14,b5 fr 15,b5 fr 16,b5 fr 17,b5 fr 18,b5 fr 19,b5 fr 20,b5 fr 21,b5 fr 22,b5 fr 23,b5 fr 24,b5 fr 25,b5 fr 26,b5 fr 27,b5 fr 28,b5 fr 29,b5 fr 30,b5 fr 31,b5 fr 32,b5 fr 33,b5 fr 34,b5 fr 35,b5 fr 36,b5 fr 37,.int .i64 n.kids,.int .i64 (i:Nat)],[]⟩∧Has N S st (.box k (.mem 0 false [cd,nd,zd,ed])::.deep dk cd 4 (aZ.map aG)::.aM zd 1 (Z.map aq)::.aM ed 1 (E.map aq)::.box k4 (.mem 0 false (bt n))::H)∧(mm=rest.len)∧(i+rest.len=ks.len)∧(fY l j rest.flat)∧(fY Z j rest.zs)∧(fY E j (rest.es j))∧(rest.ok)∧(aZ++gj rest aZ.length=code++gj ks code.length)∧(aZ.length+rest.sz=code.length+ks.sz)∧(rest.flat.length≤m)) (ks.len) ?_ ?_
   ·exact⟨0,at_+1,ks,cd,dk,code,rfl,hH,rfl,by omega,j6.tail,hsz.tail,vu.tail,mK,rfl,rfl,by omega⟩
   rintro mm fr st ⟨i,j,rest,cd,dk,aZ,hfr,hH,xO,BA,pr,wW,pq,jS,iT,hcl,Qp⟩;rw[hfr];clear hfr;generalize b5 fr=ee;clear fr;refine qq<|qj fun K hK=>qg ?_;refine qe hK ?_
   cases rest with
   |nil=>
    simp only[bS.len] at BA;simp only[gj,List.append_nil] at iT;have iE:decide ((i:Int)<n.kids)=false:=by rw[decide_eq_false_iff_not];omega
    refine qq<|qE rfl (by rw[iE]) ?_;refine ag.exit ?_;refine⟨fun i h=>(by cases h),_,_,_,rfl,rfl,?_⟩;rw[←iT];exact⟨rfl,cd,dk,hH.erase 4⟩
   |cons t ts=>
    simp only[bS.len] at BA xO;simp only[bS.sz] at hcl;simp only[bS.flat,List.length_append] at pr Qp;simp only[bS.zs] at wW;simp only[bS.es] at pq;simp only[bS.ok] at jS;simp only[gj] at iT;have Qf:=t.jq;have SE:=t.jA j;have Bs:=cK t aZ.length jS.1;have Wr:=eX (AB pq.left);have iE:decide ((i:Int)<n.kids)=true:=by rw[decide_eq_true_eq];omega
    refine qq<|qD rfl (by rw[iE]) ?_;refine ag.skip<|qq<|ag.block<|qq<|qj fun K hK=>qm ?_;refine qm ?_;obtain⟨_,st,aN,rfl,cd,dk,hH⟩:=ih t (by omega) hF yI pr.left wW.left pq.left jS.1 (by omega) ⟨cd,dk,hH⟩;refine qv aN ?_;refine qe hK<|qj fun K hK=>qm ?_;refine qg ?_;refine qp (o:=3) ?_;refine ql hH au ?_;refine qm ?_;refine qi hH bf fun p49 WD=>?_;refine qo hH bf ?_;refine qm ?_;refine qe hK<|qj fun K hK=>qA ?_;refine qm ?_;refine qe hK ?_;exact⟨mm-1,by omega,⟨i+1,j+t.flat.length,ts,cd,dk,aZ++aV t aZ.length,rfl,hH,by omega,by omega,pr.right,by rw[←Qf];exact wW.right,by rw[←SE];rw[←SE] at pq;exact pq.right,jS.2,by rw[List.length_append,Bs,List.append_assoc];exact iT,by rw[List.length_append,Bs];omega,by omega⟩⟩
  refine qq<|qj fun K hK=>qg ?_;refine qm ?_;refine qe hK ?_;refine ag.cond (by rfl) (fun q4=>?_) (fun q4=>?_)<;>try simp only[beq_iff_eq,beq_eq_false_iff_ne,ne_eq] at q4
  ·have yT:aV (.mk n ks) code.length=eZ (mZ (code.length+bW n ks.sz ks.len)) ks code.length:=by simp only[aV,if_neg q2,if_neg q7,if_neg q8,if_neg q3,if_pos q4]
   rw[yT];refine qj fun K hK=>qm ?_;refine qm ?_;obtain⟨_,st,aN,rfl,cd,dk,hH⟩:=Rm yM ih q4 (by omega) mg mK hF yI j6 hsz.tail vu.tail hb ⟨cd,dk,hH⟩;refine qv aN ?_;refine qe hK ?_;refine⟨fun i h=>(by cases h),_,_,_,rfl,rfl,?_⟩;exact⟨rfl,cd,dk,hH.erase 4⟩
  refine qq<|qj fun K hK=>qg ?_;refine qm ?_;refine qe hK ?_;refine ag.cond (by rfl) (fun q5=>?_) (fun q5=>?_)<;>try simp only[beq_iff_eq,beq_eq_false_iff_ne,ne_eq] at q5
  ·have pQ:ks.len=1:=by
    obtain⟨_,hq⟩:=mg;omega
   obtain⟨t,rfl⟩:=bS.Af pQ;have yT:aV (.mk n (.cons t .nil)) code.length=n9 n (aV t) t.sz code.length:=by simp only[aV,if_neg q2,if_neg q7,if_neg q8,if_neg q3,if_neg q4,if_pos q5,xx,xU]
   rw[yT];rw[pQ] at mg hb;rw[xU] at hb;simp only[bS.flat,bS.zs,bS.es,bS.ok,List.append_nil] at*;refine qj fun K hK=>qm ?_;refine qm ?_;obtain⟨_,st,aN,rfl,cd,dk,hH⟩:=A9 yM ih q5 (by omega) mg mK.1 hF yI j6 hsz.tail vu.tail hb ⟨cd,dk,hH⟩;refine qv aN ?_;refine qe hK ?_;refine⟨fun i h=>(by cases h),_,_,_,rfl,rfl,?_⟩;exact⟨rfl,cd,dk,hH.erase 4⟩
  refine qq<|qj fun K hK=>qg ?_;refine qm ?_;refine qe hK ?_;refine ag.cond (by rfl) (fun q6=>?_) (fun q6=>?_)<;>try simp only[beq_iff_eq,beq_eq_false_iff_ne,ne_eq] at q6
  ·have pQ:ks.len=1∧1≤n.cap∧n.cap≤4:=by
    obtain⟨_,hq⟩:=mg;omega
   obtain⟨t,rfl⟩:=bS.Af pQ.1;have yT:aV (.mk n (.cons t .nil)) code.length=dp 4 (2*n.cap) 0 []::(aV t (code.length+1)++[dp 4 (2*n.cap+1) 0 []]):=by simp only[aV,if_neg q2,if_neg q7,if_neg q8,if_neg q3,if_neg q4,if_neg q5,if_pos q6,xx]
   rw[yT];have hz:bW n (bS.cons t .nil).sz (bS.cons t .nil).len=t.sz+2:=by unfold bW;rw[if_neg (by omega),if_neg (by omega),if_pos q6,xU]
   rw[hz] at hb;simp only[bS.flat,bS.zs,bS.es,bS.ok,List.append_nil] at j6 hsz vu mK hm;refine qq<|qj fun K hK=>qm ?_;refine qp (o:=5) ?_;refine ql hH bm ?_;refine aa.uG (z:=(2*n.cap)) rfl (ev rfl) (ev rfl) (by rw[wrap_i64 (by omega) (by omega)]<;>omega) (ab rfl _) ?_;refine aa.go (d:=.agg [.int .i64 4,.int .i64 (2*n.cap),.int .i64 0,.nul]) (st1:=_) rfl rfl rfl (ab rfl _) ?_;have hH:=hH.er 2;obtain⟨_,st,aN,rfl,cd,dk,hH⟩:=gN (rs:=[]) hF (by omega) hH;refine qv aN ?_;refine qe hK ?_;have ng:(code++[dp 4 (2*n.cap) 0 []]).length=code.length+1:=by simp
   refine qq<|qj fun K hK=>qm ?_;refine qm ?_;refine qA ?_;obtain⟨_,st,aN,rfl,cd,dk,hH⟩:=ih t (by omega) hF yI j6.tail hsz.tail vu.tail mK.1 (by omega) ⟨cd,dk,hH⟩;refine qv aN ?_;refine qe hK ?_;rw[ng] at hH;have oG:(code++[dp 4 (2*n.cap) 0 []]++aV t (code.length+1)).length=code.length+1+t.sz:=by rw[List.length_append,ng,cK t _ mK.1]
   refine qj fun K hK=>qm ?_;refine qp (o:=5) ?_;refine ql hH bm ?_;refine aa.uG (z:=(2*n.cap)) rfl (ev rfl) (ev rfl) (by rw[wrap_i64 (by omega) (by omega)]<;>omega) (ab rfl _) ?_;refine aa.lE (z:=(2*n.cap+1)) rfl (ev rfl) (ev rfl) (by rw[wrap_i64 (by omega) (by omega)]<;>omega) (ab rfl _) ?_;refine aa.go (d:=.agg [.int .i64 4,.int .i64 (2*n.cap+1),.int .i64 0,.nul]) (st1:=_) rfl rfl rfl (ab rfl _) ?_;have hH:=hH.er 2;obtain⟨_,st,aN,rfl,cd,dk,hH⟩:=gN (rs:=[]) hF (by omega) hH;refine qv aN ?_;refine qe hK ?_;have fO:code++[dp 4 (2*n.cap) 0 []]++aV t (code.length+1)++[dp 4 (2*n.cap+1) 0 []]=code++dp 4 (2*n.cap) 0 []::(aV t (code.length+1)++[dp 4 (2*n.cap+1) 0 []]):=by simp
   rw[fO] at hH;refine⟨fun i h=>(by cases h),_,_,_,rfl,rfl,?_⟩;exact⟨rfl,cd,dk,hH.erase 4⟩
  ·refine ag.skip ?_;have yT:aV (.mk n ks) code.length=[]:=by simp only[aV,if_neg q2,if_neg q7,if_neg q8,if_neg q3,if_neg q4,if_neg q5,if_neg q6]
   rw[yT,List.append_nil];refine⟨fun i h=>(by cases h),_,_,_,rfl,rfl,?_⟩;exact⟨rfl,cd,dk,hH.erase 4⟩
def iQ (fr:Go.V.Fr) (k:Nat):Go.V.D:=Go.V.nth .bD fr.loc k
def B9 (x:Nl):List D:=[x.d]
theorem P7 {l:List Nl} {i:Nat} {q:Nl} (h:l[i]?=some q):(l.map B9)[i]?=some (B9 q):=by rw[List.getElem?_map,h];rfl
def pj (R:uc):D:=.tup [(pM R.code R.az).d,.int .i64 R.e,.int .i64 R.w]
theorem zN {es M:List Int} (h:M.length=es.length):nL es 0 M=M:=by
 unfold nL;simp[h]
theorem oJ (r:Nat) (c:List aJ) (s:List Int):fe [] r c s=⟨c,s,0,0⟩:=by simp only[fe]
theorem ze {s0:St} {x:D} {rules:List Nl} (hx:V.Rows s0 1 x (rules.map B9)) (hr:∀r∈rules,r.ok) (hl:rules.length≤1048576):Ev pv 47 [x] s0 (pj (bF (rules.map (·.l)))) s0:=by
 refine Ev.oj rfl Yn rfl rfl rfl ?_;dsimp only[u3,u4,List.length,Nat.reduceSub,Nat.reduceAdd,w1,w2];obtain⟨cA,hF,hH⟩:=ri s0;generalize ai .ro s0=S at*;have hx:=Arg.of hx cA;have hfz:∀(st:St) (e w:Int),bw st s0.bs.length false 16 (sI [.agg [.nul,.nul],.int .i64 e,.int .i64 w])=some (pj ⟨[],[],e,w⟩):=fun st e w=>rfl;refine qq<|qj fun K hK=>qa hH fun k2 st hk2 hH=>?_;refine qm ?_;refine qm ?_;refine qe hK<|qq<|qq<|qj fun K hK=>qm ?_;refine qn ?_;simp only[List.length_map];refine qg ?_;refine qe hK ?_;unfold bF
 by_cases h8:8<rules.length
 ·rw[if_pos (by rw[List.length_map];exact h8)];refine qD rfl (by simp;omega) ?_;refine qq<|qj fun K hK=>?_;refine aa.go (d:=.agg [.nul,.nul]) (st1:=_) rfl rfl rfl (by dsimp only[Fr.put,u1,u2]<;>rfl) ?_;refine qS hH au fun st hH=>?_;dsimp only[u2,u1,u3,u4,setMany,u5,u6,D.cells,Nat.reduceAdd,aG,bt,aq,B9] at hH;refine qm ?_;refine qm ?_;refine qe hK<|ag.ret ⟨rx,_,hH.lL rfl au rfl rfl rfl,rl cA hH (hfz _ 13 8)⟩
 ·rw[if_neg (by rw[List.length_map];exact h8)];refine qE rfl (by simp;omega) ?_;refine ag.skip<|qq<|qj fun K hK=>?_;refine aa.go (d:=.agg [.nul,.nul,.nul,.nul]) (st1:=_) rfl rfl rfl (by dsimp only[Fr.put,u1,u2]<;>rfl) ?_;refine qb hH fun k14 st Ty hH=>?_;refine qm ?_;refine qe hK<|qq<|qj fun K hK=>qm ?_;refine qe hK<|qq<|qq<|qj fun K hK=>qm ?_;refine qn ?_;simp only[List.length_map];refine qm ?_;refine qe hK ?_;have hH:Has s0.bs.length S st (.aM .nul 1 (([]:List Int).map aq)::.deep (fun _=>False) .nul 4 (([]:List aJ).map aG)::.box k14 (.mem 0 false [.nul,.nul,.nul,.nul])::[.box k2 (.mem 0 false [.nul,.nul])]):=(hH.P4 4).er 1;refine ag.block<|ag.loop (fun mm fr st=>∃(r:Nat) (cd nd zd ed sd:D) (dk:Nat→Prop) (code:List aJ) (az:List Int),fr.clean=⟨18,[iQ fr 0,iQ fr 1,.ptr k2 0 0,.int .i64 0,.int .i64 0,.ptr k14 0 0,sd,iQ fr 7,iQ fr 8,iQ fr 9,iQ fr 10,iQ fr 11,iQ fr 12,iQ fr 13,iQ fr 14,x,.int .i64 (rules.length:Nat),.int .i64 (r:Nat)],[]⟩∧Has s0.bs.length S st [.aM sd 1 (az.map aq),.deep dk cd 4 (code.map aG),.box k14 (.mem 0 false [cd,nd,zd,ed]),.box k2 (.mem 0 false [.nul,.nul])]∧(r+mm=rules.length)∧(fe ((rules.drop r).map (·.l)) r code az=fe (rules.map (·.l)) 0 [] [])∧(code.length≤400)∧(az.length≤r)) (rules.length) ?_ ?_
  ·exact⟨0,.nul,.nul,.nul,.nul,.nul,(fun _=>False),[],[],rfl,hH,by omega,by rw[List.drop_zero],by simp,by simp⟩
  rintro mm fr st ⟨r,cd,nd,zd,ed,sd,dk,code,az,hfr,hH,hrr,hX,hcl,dB⟩;rw[hfr];clear hfr;generalize iQ fr=ee;clear fr;refine qq<|qj fun K hK=>qg ?_;refine qe hK ?_
  by_cases hlt:r<rules.length
  ·obtain⟨q,hq⟩:∃q,rules[r]?=some q:=⟨rules[r]'hlt,List.getElem?_eq_getElem _⟩
   have wX:=hr q (List.mem_of_getElem? hq);have iv:=P7 hq
   have sQ:rules.drop r=q::rules.drop (r+1):=by
    rw[List.drop_eq_getElem_cons hlt]
    congr 1
    exact Option.some.inj ((List.getElem?_eq_getElem _).symm.trans hq)
   rw[sQ,List.map_cons,fe] at hX;refine qq<|qD rfl (by simp;omega) ?_;refine ag.skip<|qq<|ag.block<|qq<|qj fun K hK=>qm ?_;refine qr fun Zd S9=>?_;refine qR ?_;refine qm ?_;refine qm ?_;refine qe hK<|qq<|qq<|qj fun K hK=>qm ?_;refine qv (A8 wX) ?_;refine qg ?_;refine qe hK ?_
   cases yH:gD q.l with
   |false=>
    rw[if_pos yH] at hX;refine qB ?_;refine qq<|qj fun K hK=>aa.go (d:=.agg [.nul,.nul]) (st1:=_) rfl rfl rfl (ab rfl _) ?_;refine qm ?_;refine qS hH bf fun st hH=>?_;dsimp only[u2,u1,u3,u4,setMany,u5,u6,D.cells,Nat.reduceAdd,aG,bt,aq,B9] at hH;refine qm ?_;refine qm ?_;refine qe hK ?_;rw[←hX];refine ag.ret ⟨rx,_,hH.lL rfl bf rfl rfl rfl,rl cA hH (hfz _ 1 r)⟩
   |true=>
    rw[if_neg (by rw[yH];simp)] at hX;obtain⟨sL,Qg⟩:=uf yH;have hqd:=wX.c.arg s0.bs.length S;have hqn:=wX.nl;have pT:=wX.c;refine qC ?_;refine ag.skip<|qq<|qj fun K hK=>qm ?_;refine qm ?_;refine qm ?_;refine qm ?_;refine qm ?_;refine qn ?_;simp only[List.length_map];refine aa.w7 (s:=1) hH rfl rfl rfl rfl rfl rfl rfl rfl (Nat.le_of_ble_eq_true rfl) (by omega) (fun _=>(ab rfl _)) (fun k33 st Xa hH=>?_);refine qm ?_;refine qn ?_;simp only[List.length_map];refine aa.w7 (s:=1) hH rfl rfl rfl rfl rfl rfl rfl rfl (Nat.le_of_ble_eq_true rfl) (by omega) (fun _=>(ab rfl _)) (fun k36 st Tt hH=>?_);refine qg ?_;refine qp (o:=1) ?_;refine qT hH bm fun st hH=>?_;dsimp only[u2,u1,u3,u4,setMany,u5,u6,D.cells,Nat.reduceAdd,aG,bt,aq,B9] at hH;refine qg ?_;refine qp (o:=2) ?_;refine qT hH bm fun st hH=>?_;dsimp only[u2,u1,u3,u4,setMany,u5,u6,D.cells,Nat.reduceAdd,aG,bt,aq,B9] at hH;refine qg ?_;refine qp (o:=3) ?_;refine qT hH bm fun st hH=>?_;dsimp only[u2,u1,u3,u4,setMany,u5,u6,D.cells,Nat.reduceAdd,aG,bt,aq,B9] at hH;refine qe hK ?_
    have hH:Has s0.bs.length S st (.aM (.win k33 0 0 q.l.length 1) 1 ((List.replicate q.l.length (0:Int)).map aq)::.aM (.win k36 0 0 q.l.length 1) 1 ((List.replicate q.l.length (0:Int)).map aq)::.aM sd 1 (az.map aq)::.deep dk cd 4 (code.map aG)::.box k14 (.mem 0 false [cd,q.d,.win k33 0 0 q.l.length 1,.win k36 0 0 q.l.length 1])::.box k2 (.mem 0 false [.nul,.nul])::[]):=by
     rw[List.map_replicate];exact hH.front aS
    refine qq<|qj fun K hK=>qm ?_;refine qm ?_;refine qg ?_;refine qp (o:=2) ?_;refine ql hH bm ?_;obtain⟨_,st,aN,rfl,hH⟩:=CC wX.nl wX.i wX.c _ (cZ q.l) (Nat.le_refl _) sL (at_:=0) (by rw[Qg];exact fY.all _) (by simp) hH;refine qv aN ?_;refine qe hK ?_;rw[zN (by rw[Tr.jq,Qg];simp)] at hH;have hH:=hH.front aS;refine qq<|qj fun K hK=>qm ?_;refine qm ?_;refine qg ?_;refine qp (o:=3) ?_;refine ql hH bm ?_;obtain⟨_,st,aN,rfl,hH⟩:=LL wX.nl wX.i wX.c _ (cZ q.l) (Nat.le_refl _) sL (at_:=0) (by rw[Qg];exact fY.all _) (by simp) hH;refine qv aN ?_;refine qe hK ?_;rw[zN (by rw[Tr.jA,Qg];simp)] at hH;have aal:=eX (zz (fY.all (cZ q.l).zs));refine qq<|qq<|qj fun K hK=>qm ?_;refine qg ?_;refine qp (o:=0) ?_;refine ql hH bm ?_;refine aa.BS hH rfl (ev rfl) (by exact bf) rfl (ab rfl _) ?_;simp only[List.length_map];refine qm ?_;refine qg ?_;refine qp (o:=2) ?_;refine ql hH bm ?_;refine qi hH aS fun p64 WA=>?_;refine qo hH aS ?_;refine aa.lE (z:=((code.length+min (cZ q.l).sz 401:Nat):Int)) rfl (ev rfl) (ev rfl) (by rw[wrap_i64 (by omega) (by omega)]<;>omega) (ab rfl _) ?_;refine aa.lE (z:=((code.length+min (cZ q.l).sz 401+3:Nat):Int)) rfl (ev rfl) (ev rfl) (by rw[wrap_i64 (by omega) (by omega)]<;>omega) (ab rfl _) ?_;refine qg ?_;refine qe hK ?_
    by_cases QR:400<code.length+min (cZ q.l).sz 401+3
    ·rw[if_pos QR] at hX;have iE:decide (((code.length+min (cZ q.l).sz 401+3:Nat):Int)>400)=true:=by rw[decide_eq_true_eq];omega
     refine qD rfl (by rw[iE]) ?_;refine qq<|qj fun K hK=>aa.go (d:=.agg [.nul,.nul]) (st1:=_) rfl rfl rfl (ab rfl _) ?_;refine qm ?_;refine qS hH bJ fun st hH=>?_;dsimp only[u2,u1,u3,u4,setMany,u5,u6,D.cells,Nat.reduceAdd,aG,bt,aq,B9] at hH;refine qm ?_;refine qm ?_;refine qe hK ?_;rw[←hX];refine ag.ret ⟨rx,_,hH.lL rfl bJ rfl rfl rfl,rl cA hH (hfz _ 12 r)⟩
    ·rw[if_neg QR] at hX;have iE:decide (((code.length+min (cZ q.l).sz 401+3:Nat):Int)>400)=false:=by rw[decide_eq_false_iff_not];omega
     refine qE rfl (by rw[iE]) ?_;refine ag.skip ?_;have hH:=hH.front aS;have hH:=hH.front bf;have hH:=hH.front bm;have hH:Has s0.bs.length S st (.box k14 (.mem 0 false [cd,q.d,.win k33 0 0 q.l.length 1,.win k36 0 0 q.l.length 1])::.deep dk cd 4 (code.map aG)::.aM (.win k33 0 0 q.l.length 1) 1 ((cZ q.l).zs.map aq)::.aM (.win k36 0 0 q.l.length 1) 1 (((cZ q.l).es 0).map aq)::.aM sd 1 (az.map aq)::.box k2 (.mem 0 false [.nul,.nul])::[]):=hH;refine qq<|qj fun K hK=>qm ?_;refine qm ?_;refine aa.go (d:=.agg [.int .i64 4,.int .i64 0,.int .i64 0,.nul]) (st1:=_) rfl rfl rfl (ab rfl _) ?_;have hH:=hH.er 2;obtain⟨_,st,aN,rfl,cd,dk,hH⟩:=gN (rs:=[]) hF (by omega) hH;refine qv aN ?_;refine qh (s:=1) (vs:=[_]) hH fun k75 st aaJ hH=>?_;refine aa.bP (s:=1) hH rfl (ev rfl) (ev rfl) (by exact bJ) (by exact hH.rows (by exact au)) rfl rfl rfl rfl rfl rfl rfl ⟨(Nat.le_of_ble_eq_true rfl),(Nat.le_of_ble_eq_true rfl)⟩ (fun _=>(ab rfl _)) (by simp only[List.length_cons,List.length_nil,List.length_map]<;>omega) (by exact .inl hF) (fun x76 st hH=>?_);dsimp only[u2,u1,u3,u4,setMany,u5,u6,D.cells,Nat.reduceAdd,aG,bt,aq,B9] at hH;refine qm ?_;refine qe hK ?_;have hH:=hH.drop 1;have ng:(code++[dp 4 0 0 []]).length=code.length+1:=by simp
     refine qq<|qj fun K hK=>qm ?_;obtain⟨_,st,aN,rfl,cd,dk,hH⟩:=KY wX.nl wX.i _ (cZ q.l) (Nat.le_refl _) hF wX.c (at_:=0) (by rw[Qg];exact fY.all _) (fY.all _) (fY.all _) sL (by omega) ⟨cd,dk,hH⟩;refine qv aN ?_;refine qe hK ?_;rw[ng] at hH;have oG:(code++[dp 4 0 0 []]++aV (cZ q.l) (code.length+1)).length=code.length+1+(cZ q.l).sz:=by rw[List.length_append,ng,cK _ _ sL]
     refine qq<|qj fun K hK=>qm ?_;refine aa.go (d:=.agg [.int .i64 4,.int .i64 1,.int .i64 0,.nul]) (st1:=_) rfl rfl rfl (ab rfl _) ?_;have hH:=hH.er 2;obtain⟨_,st,aN,rfl,cd,dk,hH⟩:=gN (rs:=[]) hF (by omega) hH;refine qv aN ?_;refine qe hK ?_;have D1:(code++[dp 4 0 0 []]++aV (cZ q.l) (code.length+1)++[dp 4 1 0 []]).length=code.length+1+(cZ q.l).sz+1:=by rw[List.length_append,oG];rfl
     refine qj fun K hK=>qm ?_;refine qm ?_;refine aa.go (d:=.agg [.int .i64 7,.int .i64 (r:Nat),.int .i64 0,.nul]) (st1:=_) rfl rfl rfl (ab rfl _) ?_;have hH:=hH.er 2;obtain⟨_,st,aN,rfl,cd,dk,hH⟩:=gN (rs:=[]) hF (by omega) hH;refine qv aN ?_;refine qe hK ?_
     have hrc:code++[dp 4 0 0 []]++aV (cZ q.l) (code.length+1)++[dp 4 1 0 []]++[dp 7 (r:Nat) 0 []]=code++e5 (cZ q.l) code.length r:=by
      unfold e5;simp
     rw[hrc] at hH;have hH:=(hH.erase 2).erase 2;have hH:=hH.front aS;have hH:=hH.front ba;refine qj fun K hK=>qA ?_;refine qm ?_;refine qe hK ?_;exact⟨mm-1,by omega,⟨r+1,cd,q.d,.win k33 0 0 q.l.length 1,.win k36 0 0 q.l.length 1,x76,dk,code++e5 (cZ q.l) code.length r,az++[((code.length:Nat):Int)],rfl,(by rw[List.map_append (f:=aq)];exact hH),by omega,hX,by rw[List.length_append,lK sL];omega,by rw[List.length_append];simp only[List.length_cons,List.length_nil];omega⟩⟩
  ·refine qq<|qE rfl (by simp;omega) ?_;refine ag.exit ?_;rw[List.drop_of_length_le (by omega),List.map_nil,oJ] at hX;refine qq<|qj fun K hK=>qm ?_;refine qg ?_;refine qp (o:=0) ?_;refine ql hH ba ?_;refine qm ?_;refine aa.gu (qs:=[(0,_),(1,_)]) rfl rfl rfl rfl ⟨rfl,(ev rfl),(by exact hH.dN (by exact aS)),rfl,(ev rfl),(by exact hH.cm (by exact au)),trivial⟩ (by intro q hq;simp only[List.mem_cons,List.not_mem_nil,or_false] at hq;rcases hq with rfl|rfl<;>exact⟨rfl,by exact Nat.le_of_ble_eq_true rfl⟩) (by show List.foldl _ [_,_] _=_;dsimp only[List.foldl_cons,List.foldl_nil,u2,u1]<;>rfl) (ab rfl _) ?_;refine qS hH bf fun st hH=>?_;dsimp only[u2,u1,u3,u4,setMany,u5,u6,D.cells,Nat.reduceAdd,aG,bt,aq,B9] at hH;refine qm ?_;refine qm ?_;refine qe hK ?_;rw[←hX];have h1:=hH.ni aS (n:=13) (by decide);have h2:=hH.Az au (oC _) (n:=14) (by decide)
   have h4:bw st s0.bs.length false 15 (.agg [cd,sd])=some (pM code az).d:=by
    show(ir (bw st s0.bs.length false 14) [cd,sd]).map D.agg=_;simp only[ir,h1,h2,Option.map_some];rfl
   have h3:bw st s0.bs.length false 16 (sI [.agg [cd,sd],.int .i64 0,.int .i64 0])=some (pj ⟨code,az,0,0⟩):=by
    show(ir (bw st s0.bs.length false 15) [.agg [cd,sd],.int .i64 0,.int .i64 0]).map D.tup=_;simp only[ir,h4];rfl
   exact ag.ret ⟨rx,_,hH.lL rfl bf rfl rfl rfl,rl cA hH h3⟩
theorem xu:∀(ls:List (List dW)) (r:Nat) (c:List aJ) (s:List Int),(∀l∈ls,∀n∈l,n.rs.length≤1048576)→(∀i∈c,j4 i)→c.length≤400→s.length≤r→(∀i∈(fe ls r c s).code,j4 i)∧(fe ls r c s).code.length≤400∧(fe ls r c s).az.length≤r+ls.length
 |[],r,c,s,_,h1,h2,h3=>by rw[oJ];exact⟨h1,h2,by simpa using h3⟩
 |l::ls,r,c,s,h0,h1,h2,h3=>by
  have ZK:∀e w:Int,(∀i∈(uc.mk [] [] e w).code,j4 i)∧(uc.mk [] [] e w).code.length≤400∧(uc.mk [] [] e w).az.length≤r+(l::ls).length:=fun e w=>⟨fun i hi=>(by cases hi),by simp,by simp⟩
  rw[fe]
  split
  ·exact ZK _ _
  ·rename_i hr;rw[Bool.not_eq_false] at hr
   split
   ·exact ZK _ _
   ·rename_i hb;obtain⟨t1,t2⟩:=uf hr
    obtain⟨h4,h5,h6⟩:=xu ls (r+1) (c++e5 (cZ l) c.length r) (s++[((c.length:Nat):Int)]) (fun l' iD=>h0 l' (List.mem_cons_of_mem _ iD)) (fun i hi=>by
     rcases List.mem_append.1 hi with hi|hi
     ·exact h1 i hi
     ·exact Fu (by rw[t2];exact h0 l (List.mem_cons_self ..)) i hi) (by rw[List.length_append,lK t1];omega) (by rw[List.length_append];simp only[List.length_cons,List.length_nil];omega)
    exact⟨h4,h5,by simp only[List.length_cons];omega⟩
theorem xt {ls:List (List dW)} (h:∀l∈ls,∀n∈l,n.rs.length≤1048576):(pM (bF ls).code (bF ls).az).ok∧(bF ls).code.length≤400:=by
 unfold bF
 split
 ·exact⟨CZ (fun i hi=>(by cases hi)) (by simp) (by simp),by simp⟩
 ·obtain⟨h1,h2,h3⟩:=xu ls 0 [] [] h (fun i hi=>by cases hi) (by simp) (by simp);exact⟨CZ h1 (by omega) (by omega),h2⟩
def AX (b:List UInt8):List D:=[.str b]
theorem Fj {l:List (List UInt8)} {i:Nat} {q:List UInt8} (h:l[i]?=some q):(l.map AX)[i]?=some (AX q):=by rw[List.getElem?_map,h];rfl
theorem P6 {parts:List (List dW)} (h:∀l∈parts,(∀n∈l,vB n)∧l.length≤500):∀r∈parts.map (fun l=>(⟨vt l,l⟩:Nl)),r.ok:=by
 intro r hr;obtain⟨l,hl,rfl⟩:=List.mem_map.1 hr;exact Sg (h l hl).1 (by have:=(h l hl).2;omega)
theorem Dj {parts:List (List dW)}:(parts.map (fun l=>(⟨vt l,l⟩:Nl))).map B9=parts.map eD:=by
 rw[List.map_map];rfl
theorem zf {s0:St} {y:D} {parts:List (List dW)} (h:∀l∈parts,(∀n∈l,vB n)∧l.length≤500) (hl:parts.length≤1048576) (hy:V.Rows s0 1 y (parts.map eD)):Ev pv 47 [y] s0 (pj (bF parts)) s0∧(pM (bF parts).code (bF parts).az).ok∧(bF parts).code.length≤400:=by
 have h1:=ze (s0:=s0) (x:=y) (rules:=parts.map (fun l=>(⟨vt l,l⟩:Nl))) (by rw[Dj];exact hy) (P6 h) (by rw[List.length_map];exact hl);have h2:(parts.map (fun l=>(⟨vt l,l⟩:Nl))).map (·.l)=parts:=by rw[List.map_map];exact List.map_id _
 rw[h2] at h1;exact⟨h1,xt fun l hl n hn=>((h l hl).1 n hn).2.1⟩
def zP (n:Nat) (i:aJ):aJ:=if i.op=2 then⟨2,i.x+n,i.y+n,i.rd,i.rs⟩ else if i.op=3 then⟨3,i.x+n,i.y,i.rd,i.rs⟩ else i
theorem qz (n:Nat) {op:Int} (x y:Int) (rs:List Rg) (h2:op≠2) (h3:op≠3):zP n (dp op x y rs)=dp op x y rs:=by
 unfold zP dp;rw[if_neg h2,if_neg h3]
theorem xY (n s o:Nat) (lz:Bool):zP n (nX s o lz)=nX (s+n) (o+n) lz:=by
 cases lz
 ·show(⟨2,((s+1:Nat):Int)+n,(o:Int)+n,_,_⟩:aJ)=dp 2 ((s+n+1:Nat):Int) ((o+n:Nat):Int) [];unfold dp
  congr 1;omega
 ·show(⟨2,(o:Int)+n,((s+1:Nat):Int)+n,_,_⟩:aJ)=dp 2 ((o+n:Nat):Int) ((s+n+1:Nat):Int) [];unfold dp
  congr 1;omega
theorem CE (n e:Nat):zP n (mZ e)=mZ (e+n):=by
 show(⟨3,(e:Int)+n,0,_,_⟩:aJ)=dp 3 ((e+n:Nat):Int) 0 [];unfold dp
 congr 1
theorem ur {c:Nat→List aJ} {z n:Nat} (hc:∀b,c (b+n)=(c b).map (zP n)):∀k b,fJ c z k (b+n)=(fJ c z k b).map (zP n)
 |0,b=>rfl
 |k+1,b=>by
  have h:=ur hc (z:=z) k (b+z);rw[Nat.add_right_comm] at h;rw[fJ,fJ,List.map_append,hc,h]
theorem zY {sp YY:Nat→aJ} {c:Nat→List aJ} {z n:Nat} (hs:∀s,YY (s+n)=zP n (sp s)) (hc:∀b,c (b+n)=(c b).map (zP n)):∀k b,fx YY c z k (b+n)=(fx sp c z k b).map (zP n)
 |0,b=>rfl
 |k+1,b=>by
  have h:=zY hs hc (z:=z) k (b+1+z);have e1:b+1+z+n=b+n+1+z:=by omega
  have e2:b+n+1=b+1+n:=by omega
  rw[e1] at h;rw[fx,fx,List.map_cons,List.map_append,hs,h,e2,hc]
theorem Fv {nd:dW} {c:Nat→List aJ} {z n b:Nat} (hc:∀b,c (b+n)=(c b).map (zP n)):n9 nd c z (b+n)=(n9 nd c z b).map (zP n):=by
 unfold n9
 split
 ·rw[List.map_append,ur hc,List.map_cons,List.map_append,xY,List.map_cons,List.map_nil,CE];have e1:b+n+nd.mn.toNat*z=b+nd.mn.toNat*z+n:=by omega
  have e2:b+nd.mn.toNat*z+n+1=b+nd.mn.toNat*z+1+n:=by omega
  have e3:b+nd.mn.toNat*z+n+z+2=b+nd.mn.toNat*z+z+2+n:=by omega
  rw[e1,e2,e3,hc]
 ·rw[List.map_append,ur hc];have e1:b+n+nd.mn.toNat*z=b+nd.mn.toNat*z+n:=by omega
  rw[e1]
  congr 1
  refine zY (fun s=>?_) hc _ _;rw[xY]
  congr 1
  omega
mutual
theorem rZ (n:Nat):∀(t:Tr) (b:Nat),aV t (b+n)=(aV t b).map (zP n)
 | .mk nd ks,b=>by
  have hc:=fun b=>AD n ks b;have ha:=fun e b=>AO n e ks b;simp only[aV]
  split
  ·rw[List.map_cons,List.map_nil,qz _ _ _ _ (by decide) (by decide)]
  split
  ·rw[List.map_cons,List.map_nil,qz _ _ _ _ (by decide) (by decide)]
  split
  ·rw[List.map_cons,List.map_nil,qz _ _ _ _ (by decide) (by decide)]
  split
  ·exact hc b
  split
  ·rw[Nat.add_right_comm];exact ha _ b
  split
  ·exact Fv hc
  split
  ·rw[List.map_cons,List.map_append,List.map_cons,List.map_nil,qz _ _ _ _ (by decide) (by decide),qz _ _ _ _ (by decide) (by decide),Nat.add_right_comm,hc]
  ·rfl
theorem AD (n:Nat):∀(ts:bS) (b:Nat),gj ts (b+n)=(gj ts b).map (zP n)
 | .nil,b=>by simp only[gj,List.map_nil]
 | .cons t ts,b=>by
  have h:=AD n ts (b+t.sz);rw[Nat.add_right_comm] at h;simp only[gj,List.map_append];rw[rZ n t b,h]
theorem AO (n:Nat):∀(e:Nat) (ts:bS) (b:Nat),eZ (mZ (e+n)) ts (b+n)=(eZ (mZ e) ts b).map (zP n)
 |e,.nil,b=>by simp only[eZ,List.map_nil]
 |e,.cons t ts,b=>by
  have h:=AO n e ts (b+t.sz+2);have h1:=rZ n t (b+1);have e1:b+t.sz+2+n=b+n+t.sz+2:=by omega
  have e2:b+1+n=b+n+1:=by omega
  have e3:b+1+t.sz+1+n=b+n+1+t.sz+1:=by omega
  rw[e1] at h;rw[e2] at h1;simp only[eZ]
  split
  ·exact rZ n t b
  ·rw[List.map_cons,List.map_append,List.map_cons,xY,CE,h1,h,e3]
end
def oR (lo hi:Nat) (i:aJ):Prop:=i.op≠7∧(i.op=2→((lo:Int)≤i.x∧i.x≤hi)∧(lo:Int)≤i.y∧i.y≤hi)∧(i.op=3→(lo:Int)≤i.x∧i.x≤hi)
theorem oR.mono {lo hi tA iZ:Nat} {i:aJ} (h:oR lo hi i) (h1:tA≤lo) (h2:hi≤iZ):oR tA iZ i:=
 ⟨h.1,fun e=>by have:=h.2.1 e;omega,fun e=>by have:=h.2.2 e;omega⟩
theorem oR.mk {lo hi:Nat} {op:Int} (x y:Int) (rs:List Rg) (h2:op≠2) (h3:op≠3) (h7:op≠7):oR lo hi (dp op x y rs):=⟨h7,fun h=>absurd h h2,fun h=>absurd h h3⟩
theorem oR.sp {lo hi s o:Nat} {lz:Bool} (h1:lo≤s+1∧s+1≤hi) (h2:lo≤o∧o≤hi):oR lo hi (nX s o lz):=by
 cases lz
 ·exact⟨by show(2:Int)≠7;decide,fun _=>by show((lo:Int)≤((s+1:Nat):Int)∧((s+1:Nat):Int)≤hi)∧(lo:Int)≤(o:Int)∧(o:Int)≤hi;omega,fun h=>absurd h (by show¬(2:Int)=3;decide)⟩
 ·exact⟨by show(2:Int)≠7;decide,fun _=>by show((lo:Int)≤(o:Int)∧(o:Int)≤hi)∧(lo:Int)≤((s+1:Nat):Int)∧((s+1:Nat):Int)≤hi;omega,fun h=>absurd h (by show¬(2:Int)=3;decide)⟩
theorem oR.jp {lo hi e:Nat} (h1:lo≤e∧e≤hi):oR lo hi (mZ e):=
 ⟨by show(3:Int)≠7;decide,fun h=>absurd h (by show¬(3:Int)=2;decide),fun _=>by show(lo:Int)≤(e:Int)∧(e:Int)≤hi;omega⟩
theorem uu {c:Nat→List aJ} {z:Nat} (hc:∀b,∀i∈c b,oR b (b+z) i):∀k b,∀i∈fJ c z k b,oR b (b+k*z) i
 |0,b,i,hi=>by cases hi
 |k+1,b,i,hi=>by
  simp only[fJ] at hi;rw[Nat.succ_mul]
  rcases List.mem_append.1 hi with hi|hi
  ·exact(hc b i hi).mono (Nat.le_refl _) (by omega)
  ·exact(uu hc k _ i hi).mono (by omega) (by omega)
theorem zZ {sp:Nat→aJ} {c:Nat→List aJ} {z lo hi:Nat} (hs:∀s,lo≤s→s+1≤hi→oR lo hi (sp s)) (hc:∀b,∀i∈c b,oR b (b+z) i):∀k b,lo≤b→b+k*(z+1)≤hi→∀i∈fx sp c z k b,oR lo hi i
 |0,b,_,_,i,iZ=>by cases iZ
 |k+1,b,h1,h2,i,iZ=>by
  simp only[fx] at iZ;rw[Nat.succ_mul] at h2
  rcases List.mem_cons.1 iZ with rfl|iZ
  ·exact hs b h1 (by omega)
  ·rcases List.mem_append.1 iZ with iZ|iZ
   ·exact(hc _ i iZ).mono (by omega) (by omega)
   ·exact zZ hs hc k _ (by omega) (by omega) i iZ
mutual
theorem r_:∀(t:Tr) (b:Nat),t.ok→∀i∈aV t b,oR b (b+t.sz) i
 | .mk n ks,b,bd,i,hi=>by
  simp only[Tr.ok] at bd;have hc:=fun b=>AE ks b bd.2;obtain⟨_,hq⟩:=bd.1;simp only[aV] at hi;simp only[Tr.sz]
  by_cases q2:n.op=2
  ·rw[if_pos q2] at hi;simp only[List.mem_cons,List.not_mem_nil,or_false] at hi;subst hi;exact oR.mk _ _ _ (by decide) (by decide) (by decide)
  rw[if_neg q2] at hi
  by_cases q7:n.op=7
  ·rw[if_pos q7] at hi;simp only[List.mem_cons,List.not_mem_nil,or_false] at hi;subst hi;exact oR.mk _ _ _ (by decide) (by decide) (by decide)
  rw[if_neg q7] at hi
  by_cases q8:n.op=8
  ·rw[if_pos q8] at hi;simp only[List.mem_cons,List.not_mem_nil,or_false] at hi;subst hi;exact oR.mk _ _ _ (by decide) (by decide) (by decide)
  rw[if_neg q8] at hi
  have hz:∀s k,bW n s k=if n.op=4 then s+2*(k-1) else if n.op=6 then s+2 else if n.op=5 then(if n.mx=-1 then n.mn.toNat*s+s+2 else n.mn.toNat*s+(n.mx.toNat-n.mn.toNat)*(s+1)) else s:=by
   intro s k;unfold bW;rw[if_neg (by omega)]
  by_cases q3:n.op=3
  ·rw[if_pos q3] at hi;rw[hz,if_neg (by omega),if_neg (by omega),if_neg (by omega)];exact hc b i hi
  rw[if_neg q3] at hi
  by_cases q4:n.op=4
  ·rw[if_pos q4] at hi;have Sz:bW n ks.sz ks.len=ks.sz+2*(ks.len-1):=by rw[hz,if_pos q4]
   rw[Sz] at hi⊢;exact AP ks b (b+(ks.sz+2*(ks.len-1))) bd.2 (Nat.le_refl _) i hi
  rw[if_neg q4] at hi
  by_cases q5:n.op=5
  ·rw[if_pos q5] at hi;rw[hz,if_neg q4,if_neg (by omega),if_pos q5];unfold n9 at hi
   by_cases qm:n.mx=-1
   ·rw[if_pos qm] at hi⊢
    rcases List.mem_append.1 hi with hi|hi
    ·exact(uu hc _ _ i hi).mono (Nat.le_refl _) (by omega)
    ·rcases List.mem_cons.1 hi with rfl|hi
     ·exact oR.sp (by omega) (by omega)
     ·rcases List.mem_append.1 hi with hi|hi
      ·exact(hc _ i hi).mono (by omega) (by omega)
      ·simp only[List.mem_cons,List.not_mem_nil,or_false] at hi;subst hi;exact oR.jp (by omega)
   ·rw[if_neg qm] at hi⊢
    rcases List.mem_append.1 hi with hi|hi
    ·exact(uu hc _ _ i hi).mono (Nat.le_refl _) (by omega)
    ·exact zZ (fun s h1 h2=>oR.sp (by omega) (by omega)) hc _ _ (by omega) (by omega) i hi
  rw[if_neg q5] at hi
  by_cases q6:n.op=6
  ·rw[if_pos q6] at hi;rw[hz,if_neg q4,if_pos q6]
   rcases List.mem_cons.1 hi with rfl|hi
   ·exact oR.mk _ _ _ (by decide) (by decide) (by decide)
   ·rcases List.mem_append.1 hi with hi|hi
    ·exact(hc _ i hi).mono (by omega) (by omega)
    ·simp only[List.mem_cons,List.not_mem_nil,or_false] at hi;subst hi;exact oR.mk _ _ _ (by decide) (by decide) (by decide)
  ·rw[if_neg q6] at hi;cases hi
theorem AE:∀(ts:bS) (b:Nat),ts.ok→∀i∈gj ts b,oR b (b+ts.sz) i
 | .nil,b,_,i,hi=>by simp[gj] at hi
 | .cons t ts,b,bd,i,hi=>by
  simp only[bS.ok] at bd;simp only[gj] at hi;simp only[bS.sz]
  rcases List.mem_append.1 hi with hi|hi
  ·exact(r_ t b bd.1 i hi).mono (Nat.le_refl _) (by omega)
  ·exact(AE ts _ bd.2 i hi).mono (by omega) (by omega)
theorem AP:∀(ts:bS) (b e:Nat),ts.ok→b+(ts.sz+2*(ts.len-1))≤e→∀i∈eZ (mZ e) ts b,oR b e i
 | .nil,b,e,_,_,i,hi=>by simp[eZ] at hi
 | .cons t ts,b,e,bd,he,i,hi=>by
  simp only[bS.ok] at bd;simp only[eZ] at hi;simp only[bS.sz,bS.len] at he
  by_cases q:ts.len=0
  ·rw[if_pos q] at hi;exact(r_ t b bd.1 i hi).mono (Nat.le_refl _) (by omega)
  ·rw[if_neg q] at hi
   rcases List.mem_cons.1 hi with rfl|hi
   ·exact oR.sp (by omega) (by omega)
   ·rcases List.mem_append.1 hi with hi|hi
    ·exact(r_ t _ bd.1 i hi).mono (by omega) (by omega)
    ·rcases List.mem_cons.1 hi with rfl|hi
     ·exact oR.jp (by omega)
     ·exact(AP ts _ e bd.2 (by omega) i hi).mono (by omega) (by omega)
end
theorem zg (r:Nat) (c:List aJ) (s:List Int):fe [] r c s=⟨c,s,0,0⟩:=by simp only[fe]
theorem xr {code:List aJ} {pc:Nat} {i:aJ} (h:(code.map dV)[pc]?=some i):∃q,code[pc]?=some q∧i=dV q:=by
 rw[List.getElem?_map] at h;obtain⟨q,hq,rfl⟩:=Option.map_eq_some_iff.1 h;exact⟨q,hq,rfl⟩
theorem get_copy {code:List aJ} {pc:Nat} {i:aJ} (h:code[pc]?=some i):(code.map dV)[pc]?=some (dV i):=by
 rw[List.getElem?_map,h];rfl
theorem xq (code:List aJ):∀(f:Nat) (seen:List Bool) (cD:List Int),y8 (code.map dV) f seen cD=y8 code f seen cD
 |0,_,_=>rfl
 |_+1,_,[]=>rfl
 |f+1,seen,v::cD=>by
  have ih:=xq code f;unfold y8;rw[List.getElem?_map]
  cases h1:seen[v.toNat]? with
  |none=>exact ih _ _
  |some b=>
   cases b with
   |true=>exact ih _ _
   |false=>
    cases h2:code[v.toNat]? with
    |none=>rfl
    |some i=>exact ih _ _
theorem qW (code:List aJ) (s:Int):cO (code.map dV) s=cO code s:=by
 unfold cO;rw[List.length_map,xq]
theorem x7 {p q:Pg} (h1:q.code=p.code.map dV) (h2:q.az=p.az):bB q↔bB p:=by
 have hl:q.code.length=p.code.length:=by rw[h1];simp
 constructor
 ·intro h;refine⟨by rw[←hl];exact h.cl,by rw[←h2];exact h.sl,fun pc i hi=>?_,fun v hv=>?_,fun r s hs pc i Lp Lm hi gv=>?_⟩
  ·have:=h.sh pc (dV i) (by rw[h1];exact get_copy hi);rw[hl,h2] at this;exact this
  ·have:=h.st v (by rw[h2];exact hv);rw[hl] at this;exact this
  ·exact h.fo r s (by rw[h2];exact hs) pc (dV i) (by rw[hl];exact Lp) (by rw[h1,qW];exact Lm) (by rw[h1];exact get_copy hi) gv
 ·intro h;refine⟨by rw[hl];exact h.cl,by rw[h2];exact h.sl,fun pc i hi=>?_,fun v hv=>?_,fun r s hs pc i Lp Lm hi gv=>?_⟩
  ·rw[h1] at hi;obtain⟨j,hj,rfl⟩:=xr hi;rw[hl,h2];exact h.sh pc j hj
  ·rw[hl];exact h.st v (by rw[←h2];exact hv)
  ·rw[h1] at hi Lm;rw[qW] at Lm;obtain⟨j,hj,rfl⟩:=xr hi;exact h.fo r s (by rw[←h2];exact hs) pc j (by rw[←hl];exact Lp) Lm hj gv
theorem Ei {p:Prop} (h:dec p=true):p:=by
 refine Classical.byContradiction fun g=>?_;rw[rU g] at h;cases h
def jw (seen:List Bool) (v:Int):Prop:=0≤v∧seen[v.toNat]?=some true
structure zy (code:List aJ) (start:Int) (seen:List Bool) (cD:List Int):Prop where
 a:∀u i,seen[u]?=some true→code[u]?=some i→∀w∈c8 u i,jw seen w∨w∈cD
 b:∀v∈cD,v=start∨∃u i,seen[u]?=some true∧code[u]?=some i∧v∈c8 u i
 c:∀v,jw seen v→v=start∨∃u i,seen[u]?=some true∧code[u]?=some i∧v∈c8 u i∧v≠(u:Int)
 d:jw seen start∨start∈cD
theorem ft {seen:List Bool} {k:Nat} (hk:k<seen.length) {v:Int}:jw (seen.set k true) v↔v=(k:Int)∨jw seen v:=by
 unfold jw;constructor
 ·rintro⟨h0,h⟩
  by_cases hv:v.toNat=k
  ·left;omega
  ·rw[List.getElem?_set_ne (fun e=>hv e.symm)] at h;exact .inr ⟨h0,h⟩
 ·rintro(rfl|⟨h0,h⟩)
  ·exact⟨by omega,by rw[Int.toNat_natCast,List.getElem?_set_self hk]⟩
  ·refine⟨h0,?_⟩
   by_cases hv:v.toNat=k
   ·rw[hv,List.getElem?_set_self hk]
   ·rw[List.getElem?_set_ne (fun e=>hv e.symm)];exact h
theorem dI {seen:List Bool} {u:Nat}:seen[u]?=some true↔jw seen (u:Int):=by
 unfold jw;rw[Int.toNat_natCast];exact⟨fun h=>⟨by omega,h⟩,fun h=>h.2⟩
theorem y6 {code:List aJ} {start:Int} (hcl:jo code):∀(f:Nat) (seen:List Bool) (cD:List Int),seen.length=code.length→(∀v∈cD,0≤v∧v<(code.length:Int))→3*seen.count false+cD.length≤f→zy code start seen cD→zy code start (y8 code f seen cD) []
 |0,seen,cD,_,_,hm,hi=>by
  have:cD=[]:=by cases cD with|nil=>rfl|cons _ _=>simp at hm
  subst this;exact hi
 |f+1,seen,[],_,_,_,hi=>hi
 |f+1,seen,v::cD,hl,hs,hm,hi=>by
  have hv:=hs v (List.mem_cons_self ..);have uW:∀w∈cD,0≤w∧w<(code.length:Int):=fun w hw=>hs w (List.mem_cons_of_mem _ hw);obtain⟨k,rfl⟩:=Int.eq_ofNat_of_zero_le hv.1;have hk:k<code.length:=by omega
  obtain⟨i,hci⟩:∃i,code[k]?=some i:=⟨code[k]'hk,List.getElem?_eq_getElem _⟩
  obtain⟨b,hb⟩:∃b,seen[k]?=some b:=⟨seen[k]'(by omega),List.getElem?_eq_getElem _⟩
  simp only[List.length_cons] at hm;have hp:∀w,w∈((k:Int)::cD)→w=(k:Int)∨w∈cD:=fun w hw=>List.mem_cons.1 hw;unfold y8;simp only[Int.toNat_natCast,hb,hci]
  cases b with
  |true=>
   have mK:jw seen (k:Int):=dI.1 hb;refine y6 hcl f seen cD hl uW (by omega) ⟨fun u j hu hj w hw=>?_,fun w hw=>hi.b w (List.mem_cons_of_mem _ hw),hi.c,?_⟩
   ·rcases hi.a u j hu hj w hw with h|h
    ·exact .inl h
    ·rcases hp w h with rfl|h
     ·exact .inl mK
     ·exact .inr h
   ·rcases hi.d with h|h
    ·exact .inl h
    ·rcases hp start h with h|h
     ·exact .inl (h▸mK)
     ·exact .inr h
  |false=>
   have yS:=count_set hb;have gq:k<seen.length:=by omega
   have WZ:=wG k i;refine y6 hcl f _ _ (by rw[List.length_set];exact hl) (fun w hw=>?_) (by simp only[List.length_append,List.length_reverse];omega) ⟨fun u j hu hj w hw=>?_,fun w hw=>?_,fun w hw=>?_,?_⟩
   ·rcases List.mem_append.1 hw with hw|hw
    ·exact hcl k i hci w (List.mem_reverse.1 hw)
    ·exact uW w hw
   ·rcases(ft gq).1 (dI.1 hu) with h|h
    ·have:u=k:=by omega
     subst this;rw[hci] at hj;cases hj;exact .inr (List.mem_append.2 (.inl (List.mem_reverse.2 hw)))
    ·rcases hi.a u j (dI.2 h) hj w hw with h|h
     ·exact .inl ((ft gq).2 (.inr h))
     ·rcases hp w h with h|h
      ·exact .inl ((ft gq).2 (.inl h))
      ·exact .inr (List.mem_append.2 (.inr h))
   ·rcases List.mem_append.1 hw with hw|hw
    ·exact .inr ⟨k,i,dI.2 ((ft gq).2 (.inl rfl)),hci,List.mem_reverse.1 hw⟩
    ·rcases hi.b w (List.mem_cons_of_mem _ hw) with h|⟨u,j,h1,h2,h3⟩
     ·exact .inl h
     ·exact .inr ⟨u,j,dI.2 ((ft gq).2 (.inr (dI.1 h1))),h2,h3⟩
   ·rcases(ft gq).1 hw with rfl|h
    ·rcases hi.b (k:Int) (List.mem_cons_self ..) with h|⟨u,j,h1,h2,h3⟩
     ·exact .inl h
     ·refine .inr ⟨u,j,dI.2 ((ft gq).2 (.inr (dI.1 h1))),h2,h3,fun e=>?_⟩;have:k=u:=by omega
      subst this;rw[hb] at h1;cases h1
    ·rcases hi.c w h with h|⟨u,j,h1,h2,h3,h4⟩
     ·exact .inl h
     ·exact .inr ⟨u,j,dI.2 ((ft gq).2 (.inr (dI.1 h1))),h2,h3,h4⟩
   ·rcases hi.d with h|h
    ·exact .inl ((ft gq).2 (.inr h))
    ·rcases hp start h with h|h
     ·exact .inl ((ft gq).2 (.inl h))
     ·exact .inr (List.mem_append.2 (.inr h))
theorem wh {code:List aJ} {start:Int} (hcl:jo code) (dB:0≤start∧start<(code.length:Int)):zy code start (cO code start) []:=by
 have mg:∀v,¬jw (List.replicate code.length false) v:=by
  rintro v ⟨h0,h⟩;rw[List.getElem?_replicate] at h
  split at h<;>cases h
 refine y6 hcl _ _ _ (by simp) (fun v hv=>?_) (by simp) ⟨fun u i hu=>absurd (dI.1 hu) (mg _),fun v hv=>?_,fun v hv=>absurd hv (mg v),.inr (by simp)⟩
 ·simp only[List.mem_cons,List.not_mem_nil,or_false] at hv;subst hv;exact dB
 ·simp only[List.mem_cons,List.not_mem_nil,or_false] at hv;exact .inl hv
theorem jM:∀{L:List Bool} {s:Nat} {v:Int},v∈rh s L↔∃k:Nat,L[k]?=some true∧v=((s+k:Nat):Int)
 |[],s,v=>⟨fun h=>(by cases h),fun⟨k,h,_⟩=>by simp at h⟩
 |b::l,s,v=>by
  simp only[rh,List.mem_append];constructor
  ·rintro(h|h)
   ·split at h
    ·rename_i hb;simp only[List.mem_cons,List.not_mem_nil,or_false] at h;exact⟨0,by simp[hb],by rw[h];simp⟩
    ·cases h
   ·obtain⟨k,h1,h2⟩:=jM.1 h;exact⟨k+1,by simpa using h1,by rw[h2];congr 1;omega⟩
  ·rintro⟨k,h1,h2⟩
   cases k with
   |zero=>simp at h1;subst h1;left;simp[h2]
   |succ k=>exact .inr (jM.2 ⟨k,by simpa using h1,by rw[h2];congr 1;omega⟩)
theorem tl : ∀ (L : List Bool) (s : Nat), (rh s L).Pairwise (· < ·)
 | [], s => .nil
 | b :: l, s => by
  simp only [rh];have ih := tl l (s + 1)
  split
  ·rw [List.singleton_append, List.pairwise_cons];refine ⟨fun v hv => ?_, ih⟩;obtain ⟨k, _, rfl⟩ := jM.1 hv;omega
  ·exact ih
def dx (lo hi:Nat) (i:aJ):Prop:=
 (i.op=1∧i.x=0∧i.y=0∧fI i.rs=true)∨(i.op=2∧i.rs=[]∧((lo:Int)≤i.x∧i.x≤hi)∧(lo:Int)≤i.y∧i.y≤hi)∨(i.op=3∧i.rs=[]∧i.y=0∧(lo:Int)≤i.x∧i.x≤hi)∨(i.op=4∧i.rs=[]∧i.y=0∧0≤i.x∧i.x<10)∨((i.op=5∨i.op=6)∧i.rs=[]∧i.y=0∧i.x=0)
theorem dx.mono {lo hi tA iZ:Nat} {i:aJ} (h:dx lo hi i) (h1:tA≤lo) (h2:hi≤iZ):dx tA iZ i:=by
 rcases h with h|⟨a,b,c,d⟩|⟨a,b,c,d⟩|h|h
 ·exact .inl h
 ·exact .inr (.inl ⟨a,b,by omega,by omega⟩)
 ·exact .inr (.inr (.inl ⟨a,b,c,by omega⟩))
 ·exact .inr (.inr (.inr (.inl h)))
 ·exact .inr (.inr (.inr (.inr h)))
theorem dx.sp {lo hi s o:Nat} {lz:Bool} (h1:lo≤s+1∧s+1≤hi) (h2:lo≤o∧o≤hi):dx lo hi (nX s o lz):=by
 refine .inr (.inl ?_);cases lz
 ·refine⟨rfl,rfl,?_⟩;show((lo:Int)≤((s+1:Nat):Int)∧((s+1:Nat):Int)≤hi)∧(lo:Int)≤(o:Int)∧(o:Int)≤hi;omega
 ·refine⟨rfl,rfl,?_⟩;show((lo:Int)≤(o:Int)∧(o:Int)≤hi)∧(lo:Int)≤((s+1:Nat):Int)∧((s+1:Nat):Int)≤hi;omega
theorem dx.jp {lo hi e:Nat} (h1:lo≤e∧e≤hi):dx lo hi (mZ e):=by
 refine .inr (.inr (.inl ⟨rfl,rfl,rfl,?_⟩));show(lo:Int)≤(e:Int)∧(e:Int)≤hi;omega
theorem dx.save {lo hi:Nat} {x:Int} (h:0≤x∧x<10):dx lo hi (dp 4 x 0 []):=.inr (.inr (.inr (.inl ⟨rfl,rfl,rfl,h⟩)))
theorem oa {c:Nat→List aJ} {z:Nat} (hc:∀b,∀i∈c b,dx b (b+z) i):∀k b,∀i∈fJ c z k b,dx b (b+k*z) i
 |0,b,i,hi=>by cases hi
 |k+1,b,i,hi=>by
  simp only[fJ] at hi;rw[Nat.succ_mul]
  rcases List.mem_append.1 hi with hi|hi
  ·exact(hc b i hi).mono (Nat.le_refl _) (by omega)
  ·exact(oa hc k _ i hi).mono (by omega) (by omega)
theorem tj {sp:Nat→aJ} {c:Nat→List aJ} {z lo hi:Nat} (hs:∀s,lo≤s→s+1≤hi→dx lo hi (sp s)) (hc:∀b,∀i∈c b,dx b (b+z) i):∀k b,lo≤b→b+k*(z+1)≤hi→∀i∈fx sp c z k b,dx lo hi i
 |0,b,_,_,i,iZ=>by cases iZ
 |k+1,b,h1,h2,i,iZ=>by
  simp only[fx] at iZ;rw[Nat.succ_mul] at h2
  rcases List.mem_cons.1 iZ with rfl|iZ
  ·exact hs b h1 (by omega)
  ·rcases List.mem_append.1 iZ with iZ|iZ
   ·exact(hc _ i iZ).mono (by omega) (by omega)
   ·exact tj hs hc k _ (by omega) (by omega) i iZ
def EU (l:List dW):Prop:=∀n∈l,n.op=2→fI n.rs=true
mutual
theorem kE:∀(t:Tr) (b:Nat),t.ok→EU t.flat→∀i∈aV t b,dx b (b+t.sz) i
 | .mk n ks,b,bd,nc,i,hi=>by
  simp only[Tr.ok] at bd;simp only[Tr.flat] at nc;have hc:=fun b=>tY ks b bd.2 (fun n hn=>nc n (List.mem_cons_of_mem _ hn));obtain⟨_,hq⟩:=bd.1;simp only[aV] at hi;simp only[Tr.sz]
  by_cases q2:n.op=2
  ·rw[if_pos q2] at hi;simp only[List.mem_cons,List.not_mem_nil,or_false] at hi;subst hi;exact .inl ⟨rfl,rfl,rfl,nc n (List.mem_cons_self ..) q2⟩
  rw[if_neg q2] at hi
  by_cases q7:n.op=7
  ·rw[if_pos q7] at hi;simp only[List.mem_cons,List.not_mem_nil,or_false] at hi;subst hi;exact .inr (.inr (.inr (.inr ⟨.inl rfl,rfl,rfl,rfl⟩)))
  rw[if_neg q7] at hi
  by_cases q8:n.op=8
  ·rw[if_pos q8] at hi;simp only[List.mem_cons,List.not_mem_nil,or_false] at hi;subst hi;exact .inr (.inr (.inr (.inr ⟨.inr rfl,rfl,rfl,rfl⟩)))
  rw[if_neg q8] at hi
  have hz:∀s k,bW n s k=if n.op=4 then s+2*(k-1) else if n.op=6 then s+2 else if n.op=5 then(if n.mx=-1 then n.mn.toNat*s+s+2 else n.mn.toNat*s+(n.mx.toNat-n.mn.toNat)*(s+1)) else s:=by
   intro s k;unfold bW;rw[if_neg (by omega)]
  by_cases q3:n.op=3
  ·rw[if_pos q3] at hi;rw[hz,if_neg (by omega),if_neg (by omega),if_neg (by omega)];exact hc b i hi
  rw[if_neg q3] at hi
  by_cases q4:n.op=4
  ·rw[if_pos q4] at hi;have Sz:bW n ks.sz ks.len=ks.sz+2*(ks.len-1):=by rw[hz,if_pos q4]
   rw[Sz] at hi⊢;exact ua ks b (b+(ks.sz+2*(ks.len-1))) bd.2 (fun n hn=>nc n (List.mem_cons_of_mem _ hn)) (Nat.le_refl _) i hi
  rw[if_neg q4] at hi
  by_cases q5:n.op=5
  ·rw[if_pos q5] at hi;rw[hz,if_neg q4,if_neg (by omega),if_pos q5];unfold n9 at hi
   by_cases qx:n.mx=-1
   ·rw[if_pos qx] at hi⊢
    rcases List.mem_append.1 hi with hi|hi
    ·exact(oa hc _ _ i hi).mono (Nat.le_refl _) (by omega)
    ·rcases List.mem_cons.1 hi with rfl|hi
     ·exact dx.sp (by omega) (by omega)
     ·rcases List.mem_append.1 hi with hi|hi
      ·exact(hc _ i hi).mono (by omega) (by omega)
      ·simp only[List.mem_cons,List.not_mem_nil,or_false] at hi;subst hi;exact dx.jp (by omega)
   ·rw[if_neg qx] at hi⊢
    rcases List.mem_append.1 hi with hi|hi
    ·exact(oa hc _ _ i hi).mono (Nat.le_refl _) (by omega)
    ·exact tj (fun s h1 h2=>dx.sp (by omega) (by omega)) hc _ _ (by omega) (by omega) i hi
  rw[if_neg q5] at hi
  by_cases q6:n.op=6
  ·rw[if_pos q6] at hi;rw[hz,if_neg q4,if_pos q6]
   rcases List.mem_cons.1 hi with rfl|hi
   ·exact dx.save (by omega)
   ·rcases List.mem_append.1 hi with hi|hi
    ·exact(hc _ i hi).mono (by omega) (by omega)
    ·simp only[List.mem_cons,List.not_mem_nil,or_false] at hi;subst hi;exact dx.save (by omega)
  ·rw[if_neg q6] at hi;cases hi
theorem tY:∀(ts:bS) (b:Nat),ts.ok→EU ts.flat→∀i∈gj ts b,dx b (b+ts.sz) i
 | .nil,b,_,_,i,hi=>by simp[gj] at hi
 | .cons t ts,b,bd,nc,i,hi=>by
  simp only[bS.ok] at bd;simp only[bS.flat] at nc;simp only[gj] at hi;simp only[bS.sz]
  rcases List.mem_append.1 hi with hi|hi
  ·exact(kE t b bd.1 (fun n hn=>nc n (List.mem_append_left _ hn)) i hi).mono (Nat.le_refl _) (by omega)
  ·exact(tY ts _ bd.2 (fun n hn=>nc n (List.mem_append_right _ hn)) i hi).mono (by omega) (by omega)
theorem ua:∀(ts:bS) (b e:Nat),ts.ok→EU ts.flat→b+(ts.sz+2*(ts.len-1))≤e→∀i∈eZ (mZ e) ts b,dx b e i
 | .nil,b,e,_,_,_,i,hi=>by simp[eZ] at hi
 | .cons t ts,b,e,bd,nc,he,i,hi=>by
  simp only[bS.ok] at bd;simp only[bS.flat] at nc;simp only[eZ] at hi;simp only[bS.sz,bS.len] at he;have h1:EU t.flat:=fun n hn=>nc n (List.mem_append_left _ hn);have h2:EU ts.flat:=fun n hn=>nc n (List.mem_append_right _ hn)
  by_cases q:ts.len=0
  ·rw[if_pos q] at hi;exact(kE t b bd.1 h1 i hi).mono (Nat.le_refl _) (by omega)
  ·rw[if_neg q] at hi
   rcases List.mem_cons.1 hi with rfl|hi
   ·exact dx.sp (by omega) (by omega)
   ·rcases List.mem_append.1 hi with hi|hi
    ·exact(kE t _ bd.1 h1 i hi).mono (by omega) (by omega)
    ·rcases List.mem_cons.1 hi with rfl|hi
     ·exact dx.jp (by omega)
     ·exact(ua ts _ e bd.2 h2 (by omega) i hi).mono (by omega) (by omega)
end
inductive Path (C:List aJ):Nat→Nat→Prop where
 |refl (u:Nat):Path C u u
 |step {u v w:Nat} {i:aJ} (h:C[u]?=some i) (hn:(v:Int)∈c8 u i) (p:Path C v w):Path C u w
theorem Path.trans {C:List aJ} {u v w:Nat} (h:Path C u v) (g:Path C v w):Path C u w:=by
 induction h with
 |refl=>exact g
 |step h hn _ ih=>exact .step h hn (ih g)
theorem Path.yZ {C:List aJ} {u:Nat} {i:aJ} (h:C[u]?=some i) (ho:i.op≠2∧i.op≠3∧i.op≠7):Path C u (u+1):=
 .step h (by unfold c8;rw[if_neg ho.1,if_neg ho.2.1,if_neg ho.2.2];exact List.mem_cons_self ..) (.refl _)
theorem Path.jp {C:List aJ} {u e:Nat} (h:C[u]?=some (mZ e)):Path C u e:=
 .step h (by show(e:Int)∈c8 u (dp 3 (e:Nat) 0 []);unfold c8;rw[if_neg (show¬(dp 3 (e:Nat) 0 []).op=2 by show¬(3:Int)=2;decide),if_pos (show(dp 3 (e:Nat) 0 []).op=3 from rfl)];exact List.mem_cons_self ..) (.refl _)
theorem Path.sp {C:List aJ} {u s o:Nat} {lz:Bool} (h:C[u]?=some (nX s o lz)):Path C u (s+1)∧Path C u o:=by
 have hn:c8 u (nX s o lz)=[(nX s o lz).x,(nX s o lz).y]:=by
  unfold c8;rw[if_pos (by cases lz<;>rfl)]
 cases lz
 ·exact⟨.step h (by rw[hn];exact List.mem_cons_self ..) (.refl _),.step h (by rw[hn];exact List.mem_cons_of_mem _ (List.mem_cons_self ..)) (.refl _)⟩
 ·exact⟨.step h (by rw[hn];exact List.mem_cons_of_mem _ (List.mem_cons_self ..)) (.refl _),.step h (by rw[hn];exact List.mem_cons_self ..) (.refl _)⟩
theorem n_ {C:List aJ} {c:Nat→List aJ} {z:Nat} (hl:∀b,(c b).length=z) (hc:∀b,fY C b (c b)→Path C b (b+z)):∀k b,fY C b (fJ c z k b)→Path C b (b+k*z)
 |0,b,_=>by rw[Nat.zero_mul];exact .refl _
 |k+1,b,h=>by
  rw[fJ] at h;have h2:=h.right;rw[hl] at h2;have:=n_ hl hc k (b+z) h2;rw[Nat.succ_mul,show b+(k*z+z)=b+z+k*z by omega];exact(hc b h.left).trans this
theorem BX {C : List aJ} : ∀ (m : Nat) (t : Tr), t.flat.length ≤ m → ∀ b : Nat, t.ok → fY C b (aV t b) → Path C b (b + t.sz) := by
  intro m
  induction m with
  | zero => intro t h; have := t.iU; omega
  | succ m ih =>
    rintro ⟨n, ks⟩ hm b bd h
    simp only [Tr.flat, List.length_cons] at hm
    simp only [Tr.ok] at bd
    have hcat : ∀ (ts : bS) (b : Nat), ts.flat.length ≤ m → ts.ok → fY C b (gj ts b) → Path C b (b + ts.sz) := by
      intro ts
      induction ts using bS.rec (motive_1 := fun _ => True) with
      | mk => trivial
      | nil => intro b _ _ _; exact .refl _
      | cons t ts _ Ai =>
        intro b h1 h2 h3
        simp only [bS.flat, List.length_append] at h1
        simp only [bS.ok] at h2
        simp only [gj] at h3
        have h4 := h3.right
        rw [cK t b h2.1] at h4
        have h5 := Ai (b + t.sz) (by omega) h2.2 h4
        simp only [bS.sz]
        rw [← Nat.add_assoc]
        exact (ih t (by omega) b h2.1 h3.left).trans h5
    obtain ⟨mg, mK⟩ := bd
    obtain ⟨_, hq⟩ := mg
    have gq := fun b => nD ks b mK
    simp only [aV] at h
    simp only [Tr.sz]
    have hz : ∀ s k, bW n s k = if n.op = 2 ∨ n.op = 7 ∨ n.op = 8 then 1 else if n.op = 4 then s + 2 * (k - 1) else if n.op = 6 then s + 2 else if n.op = 5 then (if n.mx = -1 then n.mn.toNat * s + s + 2 else n.mn.toNat * s + (n.mx.toNat - n.mn.toNat) * (s + 1)) else s := fun s k => rfl
    rw [hz]
    by_cases q2 : n.op = 2
    · rw [if_pos q2] at h
      rw [if_pos (.inl q2)]
      exact Path.yZ h.head (by show (1 : Int) ≠ 2 ∧ (1 : Int) ≠ 3 ∧ (1 : Int) ≠ 7; decide)
    rw [if_neg q2] at h
    by_cases q7 : n.op = 7
    · rw [if_pos q7] at h
      rw [if_pos (.inr (.inl q7))]
      exact Path.yZ h.head (by show (5 : Int) ≠ 2 ∧ (5 : Int) ≠ 3 ∧ (5 : Int) ≠ 7; decide)
    rw [if_neg q7] at h
    by_cases q8 : n.op = 8
    · rw [if_pos q8] at h
      rw [if_pos (.inr (.inr q8))]
      exact Path.yZ h.head (by show (6 : Int) ≠ 2 ∧ (6 : Int) ≠ 3 ∧ (6 : Int) ≠ 7; decide)
    rw [if_neg q8] at h
    rw [if_neg (by omega)]
    by_cases q3 : n.op = 3
    · rw [if_pos q3] at h
      rw [if_neg (by omega), if_neg (by omega), if_neg (by omega)]
      exact hcat ks b (by omega) mK h
    rw [if_neg q3] at h
    by_cases q4 : n.op = 4
    · rw [if_pos q4] at h
      have Sz : bW n ks.sz ks.len = ks.sz + 2 * (ks.len - 1) := by rw [hz, if_neg (by omega), if_pos q4]
      rw [Sz] at h
      rw [if_pos q4]
      cases ks with
      | nil => simp only [bS.len] at hq; omega
      | cons t ts =>
        simp only [bS.len] at hq
        simp only [bS.flat, List.length_append] at hm
        simp only [bS.ok] at mK
        simp only [eZ] at h
        rw [if_neg (by omega)] at h
        have h1 := (Path.sp h.head).1
        have h2 := ih t (by omega) (b + 1) mK.1 h.tail.left
        have h3 := h.tail.right
        rw [cK t _ mK.1] at h3
        exact h1.trans (h2.trans (Path.jp h3.head))
    rw [if_neg q4] at h
    rw [if_neg q4]
    by_cases q5 : n.op = 5
    · rw [if_pos q5] at h
      rw [if_neg (by omega), if_pos q5]
      unfold n9 at h
      by_cases qx : n.mx = -1
      · rw [if_pos qx] at h ⊢
        have h1 := n_ gq (fun b hb => hcat ks b (by omega) mK hb) _ _ h.left
        have h2 := h.right
        rw [jJ gq] at h2
        have h3 := (Path.sp h2.head).2
        rw [show b + (n.mn.toNat * ks.sz + ks.sz + 2) = b + n.mn.toNat * ks.sz + ks.sz + 2 by omega]
        exact h1.trans h3
      · rw [if_neg qx] at h ⊢
        have h1 := n_ gq (fun b hb => hcat ks b (by omega) mK hb) _ _ h.left
        have h2 := h.right
        rw [jJ gq] at h2
        by_cases hd : n.mx.toNat - n.mn.toNat = 0
        · rw [hd, Nat.zero_mul, Nat.add_zero]; exact h1
        · obtain ⟨d, Ar⟩ : ∃ d, n.mx.toNat - n.mn.toNat = d + 1 := ⟨n.mx.toNat - n.mn.toNat - 1, by omega⟩
          rw [Ar] at h2 ⊢
          rw [fx] at h2
          have h3 := (Path.sp h2.head).2
          rw [← Nat.add_assoc]
          exact h1.trans h3
    rw [if_neg q5] at h
    by_cases q6 : n.op = 6
    · rw [if_pos q6] at h
      rw [if_pos q6]
      have h1 : Path C b (b + 1) := Path.yZ h.head (by show (4 : Int) ≠ 2 ∧ (4 : Int) ≠ 3 ∧ (4 : Int) ≠ 7; decide)
      have h2 := hcat ks (b + 1) (by omega) mK h.tail.left
      have h3 := h.tail.right
      rw [gq] at h3
      have h4 : Path C (b + 1 + ks.sz) (b + 1 + ks.sz + 1) := Path.yZ h3.head (by show (4 : Int) ≠ 2 ∧ (4 : Int) ≠ 3 ∧ (4 : Int) ≠ 7; decide)
      rw [show b + (ks.sz + 2) = b + 1 + ks.sz + 1 by omega]
      exact h1.trans (h2.trans h4)
    · have yN : ks.len = 0 := by omega
      have := bS.len_nil yN
      subst this
      rw [if_neg q6, if_neg q5]
      exact .refl _
theorem y7 {code:List aJ} {I:Nat→Prop} (hI:∀u i,I u→code[u]?=some i→∀v∈c8 u i,I v.toNat):∀(f:Nat) (seen:List Bool) (cD:List Int),(∀v∈cD,I v.toNat)→(∀u:Nat,seen[u]?=some true→I u)→∀u:Nat,(y8 code f seen cD)[u]?=some true→I u
 |0,seen,cD,_,h2,u,h=>h2 u h
 |f+1,seen,[],_,h2,u,h=>h2 u h
 |f+1,seen,v::cD,h1,h2,u,h=>by
  have hv:=h1 v (List.mem_cons_self ..);have hs:∀w∈cD,I w.toNat:=fun w hw=>h1 w (List.mem_cons_of_mem _ hw);unfold y8 at h
  split at h
  ·split at h
   ·rename_i i hi;refine y7 hI f _ _ (fun w hw=>?_) (fun w hw=>?_) u h
    ·rcases List.mem_append.1 hw with hw|hw
     ·exact hI _ i hv hi w (List.mem_reverse.1 hw)
     ·exact hs w hw
    ·by_cases he:v.toNat=w
     ·rw[←he];exact hv
     ·rw[List.getElem?_set_ne he] at hw;exact h2 w hw
   ·exact h2 u h
  ·exact y7 hI f _ _ hs h2 u h
theorem A' {code:List aJ} {start:Int} (hcl:jo code) (dB:0≤start∧start<(code.length:Int)) {u v:Nat} (p:Path code u v):(cO code start)[u]?=some true→(cO code start)[v]?=some true:=by
 obtain⟨ha,_,_,_⟩:=wh hcl dB
 induction p with
 |refl=>exact id
 |@step u v w i h hn _ ih=>
  intro hu;refine ih ?_
  rcases ha u i hu h _ hn with hs|hs
  ·exact dI.2 hs
  ·cases hs
theorem wg {code:List aJ} {s:Nat} (hcl:jo code) (hs:s<code.length):(cO code (s:Nat))[s]?=some true:=by
 obtain⟨_,_,_,hd⟩:=wh (start:=((s:Nat):Int)) hcl ⟨by omega,by omega⟩
 rcases hd with hd|hd
 ·exact dI.2 hd
 ·cases hd
mutual
theorem Tr.VN:∀t:Tr,True
 | .mk _ _=>trivial
theorem bS.VN:∀t:bS,True
 | .nil=>trivial
 | .cons _ _=>trivial
end
theorem CD {n:dW} {g:Int} (h:(fH n g).2=true) (h2:n.op=2):fI n.rs=true:=by
 unfold fH at h
 split at h
 ·cases h
 ·rw[if_neg (show¬(n.op=1∨n.op=7∨n.op=8) by omega)] at h;have h:(n.kids==0 &&fI n.rs)=true:=h;rw[Bool.and_eq_true] at h;exact h.2
theorem Ah {l:List dW} {h:Nat→Nat→Option (Nat×Nat)} (ih:∀at_ g r,h at_ g=some r→at_≤r.1∧∀j n,at_≤j→j<r.1→l[j]?=some n→n.op=2→fI n.rs=true):∀k at_ g r,jP h k at_ g=some r→at_≤r.1∧∀j n,at_≤j→j<r.1→l[j]?=some n→n.op=2→fI n.rs=true
 |0,at_,g,r,e=>by
  simp only[jP,Option.some.injEq] at e;subst e;exact⟨Nat.le_refl _,fun j n h1 h2=>by simp only at h2;omega⟩
 |k+1,at_,g,r,e=>by
  unfold jP at e
  cases hq:h at_ g with
  |none=>rw[hq] at e;cases e
  |some q=>
   rw[hq] at e;obtain⟨t1,t2⟩:=ih _ _ _ hq;obtain⟨u1,u2⟩:=Ah ih k _ _ _ e;refine⟨Nat.le_trans t1 u1,fun j n h1 h2 hj ho=>?_⟩
   by_cases hjq:j<q.1
   ·exact t2 j n h1 hjq hj ho
   ·exact u2 j n (by omega) h2 hj ho
theorem Da {l:List dW}:∀f at_ g r,iP l f at_ g=some r→at_≤r.1∧∀j n,at_≤j→j<r.1→l[j]?=some n→n.op=2→fI n.rs=true
 |0,_,_,_,e=>by simp[iP] at e
 |f+1,at_,g,r,e=>by
  unfold iP at e
  cases hn:l[at_]? with
  |none=>rw[hn] at e;cases e
  |some n=>
   rw[hn] at e;simp only at e
   split at e
   ·rename_i hs;obtain⟨u1,u2⟩:=Ah (Da f) _ _ _ _ e;refine⟨by omega,fun j m h1 h2 hj ho=>?_⟩
    by_cases hja:j=at_
    ·subst hja;rw[hn] at hj;cases hj;exact CD hs ho
    ·exact u2 j m (by omega) h2 hj ho
   ·cases e
theorem CM {l:List dW} (h:gD l=true):EU l:=by
 unfold gD at h;simp only[Bool.and_eq_true] at h;obtain⟨_,h⟩:=h
 split at h
 ·rename_i r hr;rw[decide_eq_true_eq] at h;obtain⟨_,h2⟩:=Da _ _ _ _ hr;intro n hn ho;obtain⟨j,hj⟩:=List.getElem?_of_mem hn;exact h2 j n (Nat.zero_le _) (by rw[h];exact bj hj) hj ho
 ·cases h
structure Ro (n0 r0:Nat) (C:List aJ) (B:List Int) (k:Nat):Prop where
 bl:B.length=k
 fs:0<k→B[0]?=some ((n0:Nat):Int)
 el:∀j,j<k→∃(t:Tr) (b:Nat),t.ok∧EU t.flat∧B[j]?=some (b:Int)∧n0≤b∧(∀b':Int,B[j+1]?=some b'→b'=((b+t.sz+3:Nat):Int))∧(j+1=k→n0+C.length=b+t.sz+3)∧∃pre post,C=pre++e5 t b (r0+j)++post∧n0+pre.length=b
 al:∀i q,C[i]?=some q→∃j,j<k∧∃(t:Tr) (b:Nat),B[j]?=some (b:Int)∧t.ok∧EU t.flat∧b≤n0+i∧n0+i<b+t.sz+3∧b+t.sz+3≤n0+C.length∧q∈e5 t b (r0+j)∧(e5 t b (r0+j))[n0+i-b]?=some q
theorem rY:∀(ls:List (List dW)) (r:Nat) (c:List aJ) (s:List Int),(fe ls r c s).e=0→∃C B,(fe ls r c s).code=c++C∧(fe ls r c s).az=s++B∧Ro c.length r C B ls.length
 |[],r,c,s,h=>by
  rw[zg];exact⟨[],[],by simp,by simp,rfl,fun h=>by simp at h,fun j hj=>by simp at hj,fun i q hi=>by simp at hi⟩
 |l::ls,r,c,s,h=>by
  rw[fe] at h⊢
  by_cases hr:gD l=false
  ·rw[if_pos hr] at h;cases h
  rw[if_neg hr] at h⊢;rw[Bool.not_eq_false] at hr
  by_cases hb:400<c.length+min (cZ l).sz 401+3
  ·rw[if_pos hb] at h;cases h
  rw[if_neg hb] at h⊢;obtain⟨t1,t2⟩:=uf hr;have nc:EU (cZ l).flat:=by rw[t2];exact CM hr
  have hlen:=lK (b:=c.length) (r:=r) t1;obtain⟨C,B,h1,h2,h3⟩:=rY ls (r+1) _ _ h;rw[List.length_append,hlen] at h3;refine⟨e5 (cZ l) c.length r++C,((c.length:Nat):Int)::B,by rw[h1,List.append_assoc],by rw[h2,List.append_assoc];rfl,by simp[h3.bl],fun _=>rfl,fun j hj=>?_,fun i q hi=>?_⟩
  ·cases j with
   |zero=>
    refine⟨cZ l,c.length,t1,nc,rfl,Nat.le_refl _,fun b' eF=>?_,fun QK=>?_,[],C,by simp,by simp⟩
    ·simp only[Nat.zero_add,List.getElem?_cons_succ] at eF;have hB:=h3.bl;have hlt:=bj eF;rw[h3.fs (by omega)] at eF;cases eF
     congr 1
    ·simp only[List.length_cons] at QK;have QD:ls.length=0:=by omega
     have hC:C=[]:=by
      cases hc:C with
      |nil=>rfl
      |cons q C'=>
       obtain⟨j,hj,_⟩:=h3.al 0 q (by rw[hc];rfl);omega
     rw[hC,List.append_nil,hlen];omega
   |succ j=>
    simp only[List.length_cons] at hj;obtain⟨t,b,q1,q2,q3,q4,q5,q6,pre,post,q7,q8⟩:=h3.el j (by omega);refine⟨t,b,q1,q2,q3,by omega,q5,fun QK=>?_,e5 (cZ l) c.length r++pre,post,?_,?_⟩
    ·simp only[List.length_cons] at QK;have:=q6 (by omega);rw[List.length_append,hlen];omega
    ·rw[q7,show r+1+j=r+(j+1) by omega];simp only[List.append_assoc]
    ·rw[List.length_append,hlen];omega
  ·by_cases hil:i<(e5 (cZ l) c.length r).length
   ·rw[List.getElem?_append_left hil] at hi;refine⟨0,by simp,cZ l,c.length,rfl,t1,nc,by omega,by omega,by rw[List.length_append,hlen];omega,List.mem_of_getElem? hi,?_⟩;rw[show c.length+i-c.length=i by omega];exact hi
   ·rw[List.getElem?_append_right (by omega)] at hi;obtain⟨j,q1,t,b,q2,q3,q4,q5,q6,q7,q8,q9⟩:=h3.al _ q hi;rw[hlen] at q5 q6 q9 hil;refine⟨j+1,by simp only[List.length_cons];omega,t,b,q2,q3,q4,by omega,by omega,by rw[List.length_append,hlen];omega,by rw[show r+(j+1)=r+1+j by omega];exact q8,?_⟩;rw[show r+(j+1)=r+1+j by omega,show c.length+i-b=c.length+((cZ l).sz+3)+(i-((cZ l).sz+3))-b by omega];exact q9
end Go.Proofs.YtbdnabmmlbiomaaGreat
