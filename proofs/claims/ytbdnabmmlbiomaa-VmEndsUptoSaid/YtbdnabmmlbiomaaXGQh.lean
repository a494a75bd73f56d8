/-
 The code of a repeat. %deep
-/
import Derived.Test.YtbdnabmmlbiomaaXGQd
import Derived.Test.YtbdnabmmlbiomaaXGPi
import Derived.Test.YtbdnabmmlbiomaaXGUb
set_option maxRecDepth 100000
set_option maxHeartbeats 4000000
set_option linter.unusedSimpArgs false
set_option linter.unusedVariables false
namespace Go.Proofs.Ytbdnabmmlbiomaa
open Go.V Go
def aa (fr:Go.V.Fr) (k:Nat):Go.V.D:=Go.V.nth .bp fr.loc k
theorem pF {c:Nat→List aG} (hc:∀b,(c b).length=0) (z:Nat):∀k b,eB c z k b=[]
 |0,_=>rfl
 |k+1,b=>by rw[eB,pF hc z k,List.length_eq_zero_iff.1 (hc b)];rfl
theorem zF (s o:Nat) (lz:Bool):∃x y:Int,lG s o lz=cH 2 x y []:=by
 cases lz
 ·exact⟨_,_,rfl⟩
 ·exact⟨_,_,rfl⟩
theorem yq {l:List c_} (vc:l.length≤1048576) {m:Nat} (ih:∀t:Tr,t.flat.length≤m→oZ l t) {n:c_} {t:Tr} (eU:n.op=5) (Sp:t.flat.length≤m) (l5:tS n 1) (pf:t.ok) {N k:Nat} {S s0:St} {H:List bC} {nd zd ed:D} {code:List aG} {Z E:List Int} {at_:Nat} (hF:S.flr≤N) (vW:fK nd 7 (l.map aX)) (iV:eL l at_ (n::t.flat)) (hsz:eL Z (at_+1) t.zs) (sX:eL E (at_+1) (t.es (at_+1))) (hb:code.length+bD n t.sz 1≤1000000) (hM:Lg N S s0 k nd zd ed Z E H code):
  ∃r ah,Ev pv 66 [.ptr k 0 0,.int .i64 (at_:Nat)] s0 r ah∧r=.tup []∧Lg N S ah k nd zd ed Z E H (code++lL n (aO t) t.sz code.length):=by
 obtain⟨cd,dk,hH⟩:=hM;have hle:=iV.le (by simp);simp only[List.length_cons] at hle;have hn:=iV.head;have iV:=iV.tail;have gD:=jR hn;have o6:=eO (wS hsz)
 have zk:0≤n.mn∧n.mn≤30∧(n.mx=-1∨(n.mn≤n.mx∧n.mx≤30)):=by
  obtain⟨_,hq⟩:=l5;omega
 have Fm:bD n t.sz 1=if n.mx=-1 then n.mn.toNat*t.sz+t.sz+2 else n.mn.toNat*t.sz+(n.mx.toNat-n.mn.toNat)*(t.sz+1):=by unfold bD;rw[if_neg (by omega),if_neg (by omega),if_neg (by omega),if_pos eU]
 rw[Fm] at hb;clear Fm;have yJ:=fun b=>b9 t b pf;have hb1:code.length+n.mn.toNat*t.sz≤1000000:=by split at hb<;>omega
 refine Ev.iY rfl QG rfl rfl rfl ?_;dsimp only[u3,u4,List.length,Nat.reduceSub,Nat.reduceAdd,w1,w2];change af _ _ _ _ s0 _;have hc:=vW.arg N S;refine qq<|qj fun K hK=>qm ?_;refine qg ?_;refine qp (o:=1) ?_;refine ql hH ay ?_;refine qm ?_;refine qr fun Tq Pl=>?_;refine ab.dE rfl (ev rfl) (by assumption) rfl (by dsimp only[Fr.put,u1,u2]<;>rfl) ?_;refine qm ?_;refine qA ?_;refine qa hH fun k4 st Px hH=>?_;refine qS hH ay fun st hH=>?_;dsimp only[u2,u1,u3,u4,setMany,u5,u6,D.cells,Nat.reduceAdd,aM,aX,aw,jq] at hH;refine qm ?_;refine qe hK ?_;have hH:Has N S st (.box k (.mem 0 false [cd,nd,zd,ed])::.deep dk cd 4 (code.map aM)::.aJ zd 1 (Z.map aw)::.aJ ed 1 (E.map aw)::.box k4 (.mem 0 false (aX n))::H):=hH.EC;refine qq<|qq<|qj fun K hK=>qm ?_;refine qg ?_;refine qp (o:=2) ?_;refine ql hH ay ?_;refine qm ?_;refine qi hH eV fun LX AS=>?_;refine qo hH eV ?_;refine qg ?_;refine qe hK ?_;have VF:=ic yJ n.mn.toNat code.length;refine af.merge (fun fr st=>∃(cd:D) (dk:Nat→Prop) (tmp:List (Nat×D)),fr=⟨78,[.ptr k 0 0,.int .i64 (at_:Nat),aa fr 2,aa fr 3,.ptr k4 0 0,.int .i64 ((at_+1:Nat):Int),aa fr 6,aa fr 7,aa fr 8,aa fr 9,aa fr 10,aa fr 11,aa fr 12,aa fr 13,aa fr 14,aa fr 15,aa fr 16,aa fr 17,aa fr 18,aa fr 19,aa fr 20,aa fr 21,aa fr 22,aa fr 23,aa fr 24,aa fr 25,aa fr 26,aa fr 27,aa fr 28,aa fr 29,aa fr 30,aa fr 31,aa fr 32,aa fr 33,aa fr 34,aa fr 35,aa fr 36,aa fr 37,aa fr 38,aa fr 39,aa fr 40,aa fr 41,aa fr 42,aa fr 43,aa fr 44,aa fr 45,aa fr 46,aa fr 47,aa fr 48,aa fr 49,aa fr 50,aa fr 51,aa fr 52,aa fr 53,aa fr 54,aa fr 55,aa fr 56,aa fr 57,aa fr 58,aa fr 59,aa fr 60,aa fr 61,aa fr 62,aa fr 63,aa fr 64,aa fr 65,aa fr 66,aa fr 67,aa fr 68,aa fr 69,aa fr 70,aa fr 71,aa fr 72,aa fr 73,aa fr 74,aa fr 75,aa fr 76,aa fr 77],tmp⟩∧Has N S st (.box k (.mem 0 false [cd,nd,zd,ed])::.deep dk cd 4 ((code++eB (aO t) t.sz n.mn.toNat code.length).map aM)::.aJ zd 1 (Z.map aw)::.aJ ed 1 (E.map aw)::.box k4 (.mem 0 false (aX n))::H)) ?_ ?_
 ·refine af.cond (by rfl) (fun hz=>?_) (fun hz=>?_)<;>try simp only[decide_eq_true_eq,decide_eq_false_iff_not] at hz
  ·refine qq<|qj fun K hK=>qp (o:=2) ?_;refine ql hH gw ?_;refine qm ?_;refine qe hK<|af.block<|af.loop (fun mm fr st=>∃(i:Nat) (cd:D) (dk:Nat→Prop) (aR:List aG),fr.clean=⟨78,[.ptr k 0 0,.int .i64 (at_:Nat),aa fr 2,aa fr 3,.ptr k4 0 0,.int .i64 ((at_+1:Nat):Int),aa fr 6,aa fr 7,aa fr 8,aa fr 9,aa fr 10,aa fr 11,aa fr 12,aa fr 13,aa fr 14,aa fr 15,aa fr 16,aa fr 17,aa fr 18,aa fr 19,aa fr 20,aa fr 21,aa fr 22,aa fr 23,aa fr 24,aa fr 25,aa fr 26,aa fr 27,.int .i64 n.mn,.int .i64 (i:Nat),aa fr 30,aa fr 31,aa fr 32,aa fr 33,aa fr 34,aa fr 35,aa fr 36,aa fr 37,aa fr 38,aa fr 39,aa fr 40,aa fr 41,aa fr 42,aa fr 43,aa fr 44,aa fr 45,aa fr 46,aa fr 47,aa fr 48,aa fr 49,aa fr 50,aa fr 51,aa fr 52,aa fr 53,aa fr 54,aa fr 55,aa fr 56,aa fr 57,aa fr 58,aa fr 59,aa fr 60,aa fr 61,aa fr 62,aa fr 63,aa fr 64,aa fr 65,aa fr 66,aa fr 67,aa fr 68,aa fr 69,aa fr 70,aa fr 71,aa fr 72,aa fr 73,aa fr 74,aa fr 75,aa fr 76,aa fr 77],[]⟩∧Has N S st (.box k (.mem 0 false [cd,nd,zd,ed])::.deep dk cd 4 (aR.map aM)::.aJ zd 1 (Z.map aw)::.aJ ed 1 (E.map aw)::.box k4 (.mem 0 false (aX n))::H)∧(i+mm=n.mn.toNat)∧(aR++eB (aO t) t.sz mm aR.length=code++eB (aO t) t.sz n.mn.toNat code.length)∧(aR.length+mm*t.sz=code.length+n.mn.toNat*t.sz)) (n.mn.toNat) ?_ ?_
   ·exact⟨0,cd,dk,code,rfl,hH,by omega,rfl,rfl⟩
   rintro mm fr st ⟨i,cd,dk,aR,hfr,hH,hi,xB,hcl⟩;rw[hfr];clear hfr;generalize aa fr=ee;clear fr;refine qq<|qj fun K hK=>qg ?_;refine qe hK ?_
   cases mm with
   |zero=>
    have gE:decide ((i:Int)<n.mn)=false:=by rw[decide_eq_false_iff_not];omega
    refine qq<|qE rfl (by rw[gE]) ?_;simp only[eB,List.append_nil] at xB;rw[xB] at hH;refine af.exit ?_;exact⟨cd,dk,_,rfl,hH⟩
   |succ mm=>
    have gE:decide ((i:Int)<n.mn)=true:=by rw[decide_eq_true_eq];omega
    rw[Nat.succ_mul] at hcl;refine qq<|qD rfl (by rw[gE]) ?_;refine af.skip<|qq<|af.block<|qj fun K hK=>qm ?_;refine qm ?_;obtain⟨_,st,aH,rfl,cd,dk,hH⟩:=ih t (by omega) hF vW iV hsz sX pf (by omega) ⟨cd,dk,hH⟩;refine qv aH ?_;refine qe hK<|qj fun K hK=>qA ?_;refine qm ?_;refine qe hK ?_;exact⟨mm,by omega,⟨i+1,cd,dk,aR++aO t aR.length,rfl,hH,by omega,by rw[List.length_append,yJ,List.append_assoc];exact xB,by rw[List.length_append,yJ];omega⟩⟩
  ·refine af.skip ?_;have hz0:t.sz=0:=by omega
   have VH:eB (aO t) t.sz n.mn.toNat code.length=[]:=pF (fun b=>by rw[yJ,hz0]) _ _ _;exact⟨cd,dk,_,rfl,(by rw[VH,List.append_nil];exact hH)⟩
 ·rintro fr st ⟨cd,dk,tmp,hfr,hH⟩;rw[hfr];clear hfr;generalize aa fr=ee;clear fr;have N0:(code++eB (aO t) t.sz n.mn.toNat code.length).length=code.length+n.mn.toNat*t.sz:=by rw[List.length_append,VF]
  unfold lL;rw[←N0];rw[←N0] at hb1
  have hb2:if n.mx=-1 then(code++eB (aO t) t.sz n.mn.toNat code.length).length+t.sz+2≤1000000 else(code++eB (aO t) t.sz n.mn.toNat code.length).length+(n.mx.toNat-n.mn.toNat)*(t.sz+1)≤1000000:=by
   rw[N0];split
   ·rename_i h;rw[if_pos h] at hb;omega
   ·rename_i h;rw[if_neg h] at hb;omega
  have Fx:∀X:List aG,code++(eB (aO t) t.sz n.mn.toNat code.length++X)=code++eB (aO t) t.sz n.mn.toNat code.length++X:=fun X=>by rw[List.append_assoc]
  simp only[apply_ite (fun X:List aG=>code++X),Fx];clear Fx N0;generalize code++eB (aO t) t.sz n.mn.toNat code.length=cR at*;refine qq<|qq<|qj fun K hK=>qp (o:=3) ?_;refine ql hH gw ?_;refine qg ?_;refine qe hK ?_
  by_cases zT:n.mx=-1
  ·rw[if_pos zT];rw[if_pos zT] at hb2;refine qD rfl (by simp[zT]) ?_;refine qq<|qj fun K hK=>qm ?_;refine ab.go (d:=.agg [.int .i64 2,.int .i64 0,.int .i64 0,.nul]) (st1:=_) rfl rfl rfl (by dsimp only[Fr.put,u1,u2]<;>rfl) ?_;have hH:=hH.eo 2;obtain⟨_,st,aH,rfl,cd,dk,hH⟩:=fw (rs:=[]) hF (by omega) hH;refine qv aH ?_;refine qm ?_;refine qe hK ?_;have kV:(cR++[cH 2 0 0 []]).length=cR.length+1:=by simp
   refine qq<|qj fun K hK=>qm ?_;refine qm ?_;obtain⟨_,st,aH,rfl,cd,dk,hH⟩:=ih t (by omega) hF vW iV hsz sX pf (by omega) ⟨cd,dk,hH⟩;refine qv aH ?_;refine qe hK ?_;rw[kV] at hH;have l8:(cR++[cH 2 0 0 []]++aO t (cR.length+1)).length=cR.length+1+t.sz:=by rw[List.length_append,kV,yJ]
   refine qq<|qj fun K hK=>qm ?_;refine qm ?_;refine ab.go (d:=.agg [.int .i64 3,.int .i64 (cR.length:Nat),.int .i64 0,.nul]) (st1:=_) rfl rfl rfl (by dsimp only[Fr.put,u1,u2]<;>rfl) ?_;have hH:=hH.eo 2;obtain⟨_,st,aH,rfl,cd,dk,hH⟩:=fw (rs:=[]) hF (by omega) hH;refine qv aH ?_;refine qe hK ?_
   have Ks:(cR++[cH 2 0 0 []]++aO t (cR.length+1)++[cH 3 (cR.length:Nat) 0 []])[cR.length]?=some (cH 2 0 0 []):=by
    rw[List.append_assoc,List.append_assoc];exact nj _ _ _
   have A6:(cR++[cH 2 0 0 []]++aO t (cR.length+1)++[cH 3 (cR.length:Nat) 0 []]).length=cR.length+t.sz+2:=by rw[List.length_append,l8];simp only[List.length_cons,List.length_nil];omega
   have E9:(cR++[cH 2 0 0 []]++aO t (cR.length+1)++[cH 3 (cR.length:Nat) 0 []]).set cR.length (lG cR.length (cR.length+t.sz+2) n.lz)=cR++(lG cR.length (cR.length+t.sz+2) n.lz::(aO t (cR.length+1)++[kR cR.length])):=by
    rw[List.append_assoc,List.append_assoc];exact nb _ _ _ _
   generalize cR++[cH 2 0 0 []]++aO t (cR.length+1)++[cH 3 (cR.length:Nat) 0 []]=Bn at*;refine qq<|qj fun K hK=>qm ?_;refine qm ?_;refine qm ?_;refine qg ?_;refine qp (o:=0) ?_;refine ql hH ay ?_;refine ab.y4 hH rfl (ev rfl) (by exact b5) rfl (by dsimp only[Fr.put,u1,u2]<;>rfl) ?_;simp only[List.length_map,List.length_append,List.length_cons,List.length_nil];refine qp (o:=4) ?_;refine ql hH gw ?_;obtain⟨_,st,aH,rfl,hH⟩:=nC (at_:=cR.length) (over:=Bn.length) (lz:=n.lz) Ks (by omega) hH;refine qv aH ?_;refine qe hK ?_;rw[A6,E9] at hH;refine af.ret ⟨rx,_,_,_,rfl,rfl,?_⟩;exact⟨rfl,cd,dk,hH.erase 4⟩
  ·rw[if_neg zT];rw[if_neg zT] at hb2;refine qE rfl (by simp[zT]) ?_;refine af.skip ?_;obtain⟨a,ha⟩:∃a:Nat,n.mn=(a:Int):=Int.eq_ofNat_of_zero_le zk.1;obtain⟨b,Fw⟩:∃b:Nat,n.mx=(b:Int):=Int.eq_ofNat_of_zero_le (by omega);have PU:n.mx.toNat-n.mn.toNat=b-a:=by omega
   rw[PU] at hb2⊢;refine qq<|qj fun K hK=>qm ?_;refine qe hK<|qq<|qq<|qj fun K hK=>qp (o:=3) ?_;refine ql hH gw ?_;refine qp (o:=2) ?_;refine ql hH gw ?_;refine ab.mN (z:=((b-a:Nat):Int)) rfl (ev rfl) (ev rfl) (by(try simp only[List.length_reverse,List.length_cons,List.length_nil,List.length_append,List.length_map,List.length_set]);rw[wrap_i64 (by omega) (by omega)]<;>omega) (by dsimp only[Fr.put,u1,u2]<;>rfl) ?_;refine qm ?_;refine qe hK ?_;have hH:Has N S st (.box k (.mem 0 false [cd,nd,zd,ed])::.deep dk cd 4 (cR.map aM)::.aJ zd 1 (Z.map aw)::.aJ ed 1 (E.map aw)::.aJ .nul 1 (([]:List Nat).map jq)::.box k4 (.mem 0 false (aX n))::H):=(hH.eo 1).EC;refine af.block<|af.loop (fun mm fr st=>∃(i:Nat) (cd jd:D) (dk:Nat→Prop) (aR:List aG) (js:List Nat),fr.clean=⟨78,[.ptr k 0 0,.int .i64 (at_:Nat),aa fr 2,aa fr 3,.ptr k4 0 0,.int .i64 ((at_+1:Nat):Int),aa fr 6,jd,aa fr 8,aa fr 9,aa fr 10,aa fr 11,aa fr 12,aa fr 13,aa fr 14,aa fr 15,aa fr 16,aa fr 17,aa fr 18,aa fr 19,aa fr 20,aa fr 21,aa fr 22,aa fr 23,aa fr 24,aa fr 25,aa fr 26,aa fr 27,aa fr 28,aa fr 29,aa fr 30,aa fr 31,aa fr 32,aa fr 33,aa fr 34,aa fr 35,aa fr 36,aa fr 37,aa fr 38,aa fr 39,aa fr 40,aa fr 41,aa fr 42,aa fr 43,aa fr 44,aa fr 45,aa fr 46,aa fr 47,aa fr 48,aa fr 49,aa fr 50,aa fr 51,aa fr 52,aa fr 53,aa fr 54,aa fr 55,aa fr 56,aa fr 57,aa fr 58,aa fr 59,aa fr 60,aa fr 61,.int .i64 ((b-a:Nat):Int),.int .i64 (i:Nat),aa fr 64,aa fr 65,aa fr 66,aa fr 67,aa fr 68,aa fr 69,aa fr 70,aa fr 71,aa fr 72,aa fr 73,aa fr 74,aa fr 75,aa fr 76,aa fr 77],[]⟩∧Has N S st (.box k (.mem 0 false [cd,nd,zd,ed])::.deep dk cd 4 (aR.map aM)::.aJ zd 1 (Z.map aw)::.aJ ed 1 (E.map aw)::.aJ jd 1 (js.map jq)::.box k4 (.mem 0 false (aX n))::H)∧(i+mm=b-a)∧(aR++ek (fun _=>cH 2 0 0 []) (aO t) t.sz mm aR.length=cR++ek (fun _=>cH 2 0 0 []) (aO t) t.sz (b-a) cR.length)∧(js++tK t.sz mm aR.length=tK t.sz (b-a) cR.length)∧(aR.length+mm*(t.sz+1)=cR.length+(b-a)*(t.sz+1))∧(js.length=i)) (b-a) ?_ ?_
   ·exact⟨0,cd,.nul,dk,cR,[],rfl,hH,by omega,rfl,rfl,rfl,rfl⟩
   rintro mm fr st ⟨i,cd,jd,dk,aR,js,hfr,hH,hi,gq,hjs,hcl,jW⟩;rw[hfr];clear hfr;generalize aa fr=ee;clear fr;refine qq<|qj fun K hK=>qg ?_;refine qe hK ?_
   cases mm with
   |zero=>
    have gE:decide ((i:Int)<((b-a:Nat):Int))=false:=by rw[decide_eq_false_iff_not];omega
    refine qq<|qE rfl (by rw[gE]) ?_;refine af.exit<|qq<|qj fun K hK=>qm ?_;refine qn ?_ (hR:=hH.rows gw);simp only[List.length_map];refine qm ?_;refine qe hK ?_;simp only[ek,tK,List.append_nil] at gq hjs;rw[gq] at hH;obtain⟨BU,F5⟩:=lP (sp:=fun s=>lG s (cR.length+(b-a)*(t.sz+1)) n.lz) yJ (i0:=cH 2 0 0 []) (b-a) cR.length cR [] rfl;simp only[List.append_nil] at BU F5;have Qe:(cR++ek (fun _=>cH 2 0 0 []) (aO t) t.sz (b-a) cR.length).length=cR.length+(b-a)*(t.sz+1):=by rw[List.length_append,nQ yJ]
    rw[←hjs] at BU F5;rw[←BU];clear BU gq;generalize cR++ek (fun _=>cH 2 0 0 []) (aO t) t.sz (b-a) cR.length=C0 at*;generalize cR.length+(b-a)*(t.sz+1)=e at*;refine af.block<|af.loop (fun mm fr st=>∃(q:Nat) (C:List aG),fr.clean=⟨78,[.ptr k 0 0,aa fr 1,aa fr 2,aa fr 3,.ptr k4 0 0,aa fr 5,aa fr 6,aa fr 7,aa fr 8,aa fr 9,aa fr 10,aa fr 11,aa fr 12,aa fr 13,aa fr 14,aa fr 15,aa fr 16,aa fr 17,aa fr 18,aa fr 19,aa fr 20,aa fr 21,aa fr 22,aa fr 23,aa fr 24,aa fr 25,aa fr 26,aa fr 27,aa fr 28,aa fr 29,aa fr 30,aa fr 31,aa fr 32,aa fr 33,aa fr 34,aa fr 35,aa fr 36,aa fr 37,aa fr 38,aa fr 39,aa fr 40,aa fr 41,aa fr 42,aa fr 43,aa fr 44,aa fr 45,aa fr 46,aa fr 47,aa fr 48,aa fr 49,aa fr 50,aa fr 51,aa fr 52,aa fr 53,aa fr 54,aa fr 55,aa fr 56,aa fr 57,aa fr 58,aa fr 59,aa fr 60,aa fr 61,aa fr 62,aa fr 63,aa fr 64,aa fr 65,aa fr 66,aa fr 67,aa fr 68,aa fr 69,aa fr 70,aa fr 71,aa fr 72,aa fr 73,aa fr 74,jd,.int .i64 (js.length:Nat),.int .i64 (q:Nat)],[]⟩∧Has N S st (.box k (.mem 0 false [cd,nd,zd,ed])::.deep dk cd 4 (C.map aM)::.aJ zd 1 (Z.map aw)::.aJ ed 1 (E.map aw)::.aJ jd 1 (js.map jq)::.box k4 (.mem 0 false (aX n))::H)∧(q+mm=js.length)∧(gg (fun s=>lG s e n.lz) C (js.drop q)=gg (fun s=>lG s e n.lz) C0 js)∧(∀p∈js,∃x y:Int,C[p]?=some (cH 2 x y []))∧(C.length=e)) (js.length) ?_ ?_
    ·exact⟨0,C0,rfl,hH,by omega,rfl,fun p hp=>⟨_,_,F5 p hp⟩,Qe⟩
    rintro mm fr st ⟨q,C,hfr,hH,hq,gC,kW,Lf⟩;rw[hfr];clear hfr;generalize aa fr=ee;clear fr;refine qq<|qj fun K hK=>qg ?_;refine qe hK<|qq ?_;refine af.cond (by rfl) (fun hlt=>?_) (fun hlt=>?_)<;>try simp only[decide_eq_true_eq,decide_eq_false_iff_not] at hlt
    ·refine af.skip ?_;have F3:q<js.length:=by omega
     obtain⟨p,hp⟩:∃p,js[q]?=some p:=⟨js[q]'F3,List.getElem?_eq_getElem _⟩
     obtain⟨x,y,hv⟩:=kW p (List.mem_of_getElem? hp);have gD:=tU hp;have jf:=bt hv;refine qq<|af.block<|qq<|qj fun K hK=>qi hH gw fun RV My=>?_;refine qo hH gw ?_;refine qm ?_;refine qe hK<|qj fun K hK=>qm ?_;refine qm ?_;refine qm ?_;refine qg ?_;refine qp (o:=0) ?_;refine ql hH ay ?_;refine ab.y4 hH rfl (ev rfl) (by exact b5) rfl (ag rfl _) ?_;simp only[List.length_map];refine qp (o:=4) ?_;refine ql hH sR ?_;obtain⟨_,st,aH,rfl,hH⟩:=nC (at_:=p) (over:=C.length) (lz:=n.lz) hv (by omega) hH;refine qv aH ?_;refine qe hK<|qj fun K hK=>qA ?_;refine qm ?_;refine qe hK ?_
     have A4:js.drop q=p::js.drop (q+1):=by
      rw[List.drop_eq_getElem_cons F3]
      congr 1
      exact Option.some.inj ((List.getElem?_eq_getElem _).symm.trans hp)
     refine⟨mm-1,by omega,⟨q+1,C.set p (lG p e n.lz),rfl,(by rw[Lf] at hH;exact hH),by omega,by rw[A4] at gC;exact gC,?_,by rw[List.length_set];exact Lf⟩⟩;intro p' su
     by_cases hpp:p'=p
     ·subst hpp;obtain⟨x',y',Mi⟩:=zF p' e n.lz;exact⟨x',y',by rw[List.getElem?_set_self jf,Mi]⟩
     ·rw[List.getElem?_set_ne (fun e=>hpp e.symm)];exact kW p' su
    ·refine af.exit ?_;refine⟨fun i h=>(by cases h),_,_,_,rfl,rfl,?_⟩;have sr:q=js.length:=by omega
     rw[sr,List.drop_length] at gC;have gC:C=gg (fun s=>lG s e n.lz) C0 js:=gC;rw[←gC];exact⟨rfl,cd,dk,(hH.erase 5).erase 4⟩
   |succ mm=>
    have gE:decide ((i:Int)<((b-a:Nat):Int))=true:=by rw[decide_eq_true_eq];omega
    rw[Nat.succ_mul] at hcl;refine qq<|qD rfl (by rw[gE]) ?_;refine af.skip<|qq<|af.block<|qq<|qj fun K hK=>qm ?_;refine qm ?_;refine ab.go (d:=.agg [.int .i64 2,.int .i64 0,.int .i64 0,.nul]) (st1:=_) rfl rfl rfl (by dsimp only[Fr.put,u1,u2]<;>rfl) ?_;have hH:=hH.eo 2;obtain⟨_,st,aH,rfl,cd,dk,hH⟩:=fw (rs:=[]) hF (by omega) hH;refine qv aH ?_;refine qh (s:=1) (vs:=[_]) hH fun k69 st US hH=>?_;dsimp only[u2,u1,u3,u4,setMany,u5,u6,D.cells,Nat.reduceAdd,aM,aX,aw,jq] at hH;refine qP hH sR (hH.rows ay) fun SY st hH=>?_;dsimp only[u2,u1,u3,u4,setMany,u5,u6,D.cells,Nat.reduceAdd,aM,aX,aw,jq] at hH;refine qm ?_;refine qe hK ?_;have hH:=hH.drop 1;have kV:(aR++[cH 2 0 0 []]).length=aR.length+1:=by simp
    refine qj fun K hK=>qm ?_;refine qm ?_;obtain⟨_,st,aH,rfl,cd,dk,hH⟩:=ih t (by omega) hF vW iV hsz sX pf (by omega) ⟨cd,dk,hH⟩;refine qv aH ?_;refine qe hK ?_;rw[kV] at hH;have l8:(aR++[cH 2 0 0 []]++aO t (aR.length+1)).length=aR.length+1+t.sz:=by rw[List.length_append,kV,yJ]
    refine qj fun K hK=>qA ?_;refine qm ?_;refine qe hK ?_;exact⟨mm,by omega,⟨i+1,cd,SY,dk,aR++[cH 2 0 0 []]++aO t (aR.length+1),js++[aR.length],rfl,(by rw[List.map_append (f:=jq)];exact hH),by omega,by rw[l8,←gq];simp only[ek,List.append_assoc,List.cons_append,List.nil_append],by rw[l8,←hjs];simp only[tK,List.append_assoc,List.cons_append,List.nil_append],by rw[l8];omega,by rw[List.length_append,jW];rfl⟩⟩
def bI (fr:Go.V.Fr) (k:Nat):Go.V.D:=Go.V.nth .bp fr.loc k
theorem uQ (t:Tr):eQ (.cons t .nil)=aO t:=by
 funext b;simp only[eQ,List.append_nil]
theorem vi (t:Tr):(bu.cons t .nil).sz=t.sz:=by simp only[bu.sz,Nat.add_zero]
theorem EM {l:List c_} (vc:l.length≤1048576) (hi:∀n∈l,n.ok):∀(m:Nat) (t:Tr),t.flat.length≤m→oZ l t:=by
 intro m
 induction m with
 |zero=>intro t h;have:=t.gr;omega
 |succ m ih=>
  rintro⟨n,ks⟩ hm N k S s0 H nd zd ed code Z E at_ hF vW iV hsz sX a_ hb hM;have W4:=hM;obtain⟨cd,dk,hH⟩:=hM;simp only[Tr.ok] at a_;obtain⟨l5,kD⟩:=a_;simp only[Tr.flat,List.length_cons] at hm;have hle:=iV.le (by simp[Tr.flat]);simp only[Tr.flat] at iV hle;simp only[List.length_cons] at hle;simp only[Tr.zs] at hsz;simp only[Tr.es] at sX;simp only[Tr.sz] at hb;have hn:=iV.head;have MO:=hi n (List.mem_of_getElem? hn);have AM:=MO.1.arg N S;have va:=MO.2.1;have gD:=jR hn;have Lb:=l5.1;have gM:=bu.jw ks;have hcat:=fun b=>lj ks b kD;refine Ev.iY rfl QV rfl rfl rfl ?_;dsimp only[u3,u4,List.length,Nat.reduceSub,Nat.reduceAdd,w1,w2];change af _ _ _ _ s0 _;have hc:=vW.arg N S;refine qq<|qj fun K hK=>qm ?_;refine qg ?_;refine qp (o:=1) ?_;refine ql hH ay ?_;refine qm ?_;refine qr fun R6 MJ=>?_;refine ab.dE rfl (ev rfl) (by assumption) rfl (by dsimp only[Fr.put,u1,u2]<;>rfl) ?_;refine qa hH fun k4 st Px hH=>?_;refine qS hH ay fun st hH=>?_;dsimp only[u2,u1,u3,u4,setMany,u5,u6,D.cells,Nat.reduceAdd,aM,aX,aw,jq] at hH;refine qe hK ?_;have hH:Has N S st (.box k (.mem 0 false [cd,nd,zd,ed])::.deep dk cd 4 (code.map aM)::.aJ zd 1 (Z.map aw)::.aJ ed 1 (E.map aw)::.box k4 (.mem 0 false (aX n))::H):=hH.EC;refine qq<|qj fun K hK=>qp (o:=0) ?_;refine ql hH gw ?_;refine qe hK<|af.block<|qq<|qj fun K hK=>qg ?_;refine qm ?_;refine qe hK ?_;refine af.cond (by rfl) (fun q2=>?_) (fun q2=>?_)<;>try simp only[beq_iff_eq,beq_eq_false_iff_ne,ne_eq] at q2
  ·have wc:aO (.mk n ks) code.length=[cH 1 0 0 n.rs]:=by simp only[aO,if_pos q2]
   rw[wc];have hz:bD n ks.sz ks.len=1:=by unfold bD;rw[if_pos (.inl q2)]
   have hH:=hH.eo 2;refine qj fun K hK=>qm ?_;refine qp (o:=1) ?_;refine ql hH sR ?_;refine qP hH ay (Arg.rows (by assumption) hH) fun RF st hH=>?_;dsimp only[u2,u1,u3,u4,setMany,u5,u6,D.cells,Nat.reduceAdd,aM,aX,aw,jq] at hH;refine ab.fe (qs:=[(0,_),(3,_)]) rfl rfl rfl rfl ⟨rfl,(ev rfl),(by rfl),rfl,(ev rfl),(by exact hH.fP (by exact ay)),trivial⟩ (by intro q hq;simp only[List.mem_cons,List.not_mem_nil,or_false] at hq;rcases hq with rfl|rfl<;>exact⟨rfl,by exact Nat.le_of_ble_eq_true rfl⟩) (by show List.foldl _ [_,_,_,_] _=_;dsimp only[List.foldl_cons,List.foldl_nil,u2,u1]<;>rfl) (by dsimp only[Fr.put,u1,u2]<;>rfl) ?_;obtain⟨_,st,aH,rfl,cd,dk,hH⟩:=fw (rs:=n.rs) hF (by omega) hH;refine qv aH ?_;refine qe hK ?_;refine⟨fun i h=>(by cases h),_,_,_,rfl,rfl,?_⟩;exact⟨rfl,cd,dk,hH.erase 4⟩
  refine qq<|qj fun K hK=>qg ?_;refine qm ?_;refine qe hK ?_;refine af.cond (by rfl) (fun q7=>?_) (fun q7=>?_)<;>try simp only[beq_iff_eq,beq_eq_false_iff_ne,ne_eq] at q7
  ·have wc:aO (.mk n ks) code.length=[cH 5 0 0 []]:=by simp only[aO,if_neg q2,if_pos q7]
   rw[wc];refine qj fun K hK=>qm ?_;refine ab.go (d:=.agg [.int .i64 5,.int .i64 0,.int .i64 0,.nul]) (st1:=_) rfl rfl rfl (by dsimp only[Fr.put,u1,u2]<;>rfl) ?_;have hH:=hH.eo 2;obtain⟨_,st,aH,rfl,cd,dk,hH⟩:=fw (rs:=[]) hF (by omega) hH;refine qv aH ?_;refine qe hK ?_;refine⟨fun i h=>(by cases h),_,_,_,rfl,rfl,?_⟩;exact⟨rfl,cd,dk,hH.erase 4⟩
  refine qq<|qj fun K hK=>qg ?_;refine qm ?_;refine qe hK ?_;refine af.cond (by rfl) (fun q8=>?_) (fun q8=>?_)<;>try simp only[beq_iff_eq,beq_eq_false_iff_ne,ne_eq] at q8
  ·have wc:aO (.mk n ks) code.length=[cH 6 0 0 []]:=by simp only[aO,if_neg q2,if_neg q7,if_pos q8]
   rw[wc];refine qj fun K hK=>qm ?_;refine ab.go (d:=.agg [.int .i64 6,.int .i64 0,.int .i64 0,.nul]) (st1:=_) rfl rfl rfl (by dsimp only[Fr.put,u1,u2]<;>rfl) ?_;have hH:=hH.eo 2;obtain⟨_,st,aH,rfl,cd,dk,hH⟩:=fw (rs:=[]) hF (by omega) hH;refine qv aH ?_;refine qe hK ?_;refine⟨fun i h=>(by cases h),_,_,_,rfl,rfl,?_⟩;exact⟨rfl,cd,dk,hH.erase 4⟩
  refine qq<|qj fun K hK=>qg ?_;refine qm ?_;refine qe hK ?_;refine af.cond (by rfl) (fun q3=>?_) (fun q3=>?_)<;>try simp only[beq_iff_eq,beq_eq_false_iff_ne,ne_eq] at q3
  ·have wc:aO (.mk n ks) code.length=eQ ks code.length:=by simp only[aO,if_neg q2,if_neg q7,if_neg q8,if_pos q3]
   rw[wc];have hz:bD n ks.sz ks.len=ks.sz:=by unfold bD;rw[if_neg (by omega),if_neg (by omega),if_neg (by omega),if_neg (by omega)]
   rw[hz] at hb;refine qq<|qj fun K hK=>qm ?_;refine qA ?_;refine qm ?_;refine qe hK<|qq<|qj fun K hK=>qp (o:=6) ?_;refine ql hH gw ?_;refine qm ?_;refine qe hK<|af.block<|af.loop (fun mm fr st=>∃(i j:Nat) (rest:bu) (cd:D) (dk:Nat→Prop) (aR:List aG),fr.clean=⟨40,[.ptr k 0 0,.int .i64 (at_:Nat),bI fr 2,bI fr 3,.ptr k4 0 0,.int .i64 (j:Nat),bI fr 6,bI fr 7,bI fr 8,bI fr 9,bI fr 10,bI fr 11,bI fr 12,bI fr 13,bI fr 14,bI fr 15,bI fr 16,bI fr 17,bI fr 18,bI fr 19,bI fr 20,bI fr 21,bI fr 22,bI fr 23,bI fr 24,bI fr 25,bI fr 26,bI fr 27,bI fr 28,bI fr 29,bI fr 30,bI fr 31,bI fr 32,bI fr 33,bI fr 34,bI fr 35,bI fr 36,bI fr 37,.int .i64 n.kids,.int .i64 (i:Nat)],[]⟩∧Has N S st (.box k (.mem 0 false [cd,nd,zd,ed])::.deep dk cd 4 (aR.map aM)::.aJ zd 1 (Z.map aw)::.aJ ed 1 (E.map aw)::.box k4 (.mem 0 false (aX n))::H)∧(mm=rest.len)∧(i+rest.len=ks.len)∧(eL l j rest.flat)∧(eL Z j rest.zs)∧(eL E j (rest.es j))∧(rest.ok)∧(aR++eQ rest aR.length=code++eQ ks code.length)∧(aR.length+rest.sz=code.length+ks.sz)∧(rest.flat.length≤m)) (ks.len) ?_ ?_
   ·exact⟨0,at_+1,ks,cd,dk,code,rfl,hH,rfl,by omega,iV.tail,hsz.tail,sX.tail,kD,rfl,rfl,by omega⟩
   rintro mm fr st ⟨i,j,rest,cd,dk,aR,hfr,hH,vX,yM,mR,uj,mQ,i_,gq,hcl,JZ⟩;rw[hfr];clear hfr;generalize bI fr=ee;clear fr;refine qq<|qj fun K hK=>qg ?_;refine qe hK ?_
   cases rest with
   |nil=>
    simp only[bu.len] at yM;simp only[eQ,List.append_nil] at gq;have gE:decide ((i:Int)<n.kids)=false:=by rw[decide_eq_false_iff_not];omega
    refine qq<|qE rfl (by rw[gE]) ?_;refine af.exit ?_;refine⟨fun i h=>(by cases h),_,_,_,rfl,rfl,?_⟩;rw[←gq];exact⟨rfl,cd,dk,hH.erase 4⟩
   |cons t ts=>
    simp only[bu.len] at yM vX;simp only[bu.sz] at hcl;simp only[bu.flat,List.length_append] at mR JZ;simp only[bu.zs] at uj;simp only[bu.es] at mQ;simp only[bu.ok] at i_;simp only[eQ] at gq;have JR:=t.gT;have Ml:=t.g_ j;have yJ:=b9 t aR.length i_.1;have O2:=eO (xK mQ.left);have gE:decide ((i:Int)<n.kids)=true:=by rw[decide_eq_true_eq];omega
    refine qq<|qD rfl (by rw[gE]) ?_;refine af.skip<|qq<|af.block<|qq<|qj fun K hK=>qm ?_;refine qm ?_;obtain⟨_,st,aH,rfl,cd,dk,hH⟩:=ih t (by omega) hF vW mR.left uj.left mQ.left i_.1 (by omega) ⟨cd,dk,hH⟩;refine qv aH ?_;refine qe hK<|qj fun K hK=>qm ?_;refine qg ?_;refine qp (o:=3) ?_;refine ql hH ay ?_;refine qm ?_;refine qi hH gG fun RX MA=>?_;refine qo hH gG ?_;refine qm ?_;refine qe hK<|qj fun K hK=>qA ?_;refine qm ?_;refine qe hK ?_;exact⟨mm-1,by omega,⟨i+1,j+t.flat.length,ts,cd,dk,aR++aO t aR.length,rfl,hH,by omega,by omega,mR.right,by rw[←JR];exact uj.right,by rw[←Ml];rw[←Ml] at mQ;exact mQ.right,i_.2,by rw[List.length_append,yJ,List.append_assoc];exact gq,by rw[List.length_append,yJ];omega,by omega⟩⟩
  refine qq<|qj fun K hK=>qg ?_;refine qm ?_;refine qe hK ?_;refine af.cond (by rfl) (fun q4=>?_) (fun q4=>?_)<;>try simp only[beq_iff_eq,beq_eq_false_iff_ne,ne_eq] at q4
  ·have wc:aO (.mk n ks) code.length=dP (kR (code.length+bD n ks.sz ks.len)) ks code.length:=by simp only[aO,if_neg q2,if_neg q7,if_neg q8,if_neg q3,if_pos q4]
   rw[wc];refine qj fun K hK=>qm ?_;refine qm ?_;obtain⟨_,st,aH,rfl,cd,dk,hH⟩:=KW vc ih q4 (by omega) l5 kD hF vW iV hsz.tail sX.tail hb ⟨cd,dk,hH⟩;refine qv aH ?_;refine qe hK ?_;refine⟨fun i h=>(by cases h),_,_,_,rfl,rfl,?_⟩;exact⟨rfl,cd,dk,hH.erase 4⟩
  refine qq<|qj fun K hK=>qg ?_;refine qm ?_;refine qe hK ?_;refine af.cond (by rfl) (fun q5=>?_) (fun q5=>?_)<;>try simp only[beq_iff_eq,beq_eq_false_iff_ne,ne_eq] at q5
  ·have ox:ks.len=1:=by
    obtain⟨_,hq⟩:=l5;omega
   obtain⟨t,rfl⟩:=bu.xr ox;have wc:aO (.mk n (.cons t .nil)) code.length=lL n (aO t) t.sz code.length:=by simp only[aO,if_neg q2,if_neg q7,if_neg q8,if_neg q3,if_neg q4,if_pos q5,uQ,vi]
   rw[wc];rw[ox] at l5 hb;rw[vi] at hb;simp only[bu.flat,bu.zs,bu.es,bu.ok,List.append_nil] at*;refine qj fun K hK=>qm ?_;refine qm ?_;obtain⟨_,st,aH,rfl,cd,dk,hH⟩:=yq vc ih q5 (by omega) l5 kD.1 hF vW iV hsz.tail sX.tail hb ⟨cd,dk,hH⟩;refine qv aH ?_;refine qe hK ?_;refine⟨fun i h=>(by cases h),_,_,_,rfl,rfl,?_⟩;exact⟨rfl,cd,dk,hH.erase 4⟩
  refine qq<|qj fun K hK=>qg ?_;refine qm ?_;refine qe hK ?_;refine af.cond (by rfl) (fun q6=>?_) (fun q6=>?_)<;>try simp only[beq_iff_eq,beq_eq_false_iff_ne,ne_eq] at q6
  ·have ox:ks.len=1∧1≤n.cap∧n.cap≤4:=by
    obtain⟨_,hq⟩:=l5;omega
   obtain⟨t,rfl⟩:=bu.xr ox.1;have wc:aO (.mk n (.cons t .nil)) code.length=cH 4 (2*n.cap) 0 []::(aO t (code.length+1)++[cH 4 (2*n.cap+1) 0 []]):=by simp only[aO,if_neg q2,if_neg q7,if_neg q8,if_neg q3,if_neg q4,if_neg q5,if_pos q6,uQ]
   rw[wc];have hz:bD n (bu.cons t .nil).sz (bu.cons t .nil).len=t.sz+2:=by unfold bD;rw[if_neg (by omega),if_neg (by omega),if_pos q6,vi]
   rw[hz] at hb;simp only[bu.flat,bu.zs,bu.es,bu.ok,List.append_nil] at iV hsz sX kD hm;refine qq<|qj fun K hK=>qm ?_;refine qp (o:=5) ?_;refine ql hH gw ?_;refine ab.vK (z:=(2*n.cap)) rfl (ev rfl) (ev rfl) (by(try simp only[List.length_reverse,List.length_cons,List.length_nil,List.length_append,List.length_map,List.length_set]);rw[wrap_i64 (by omega) (by omega)]<;>omega) (ag rfl _) ?_;refine ab.go (d:=.agg [.int .i64 4,.int .i64 (2*n.cap),.int .i64 0,.nul]) (st1:=_) rfl rfl rfl (ag rfl _) ?_;have hH:=hH.eo 2;obtain⟨_,st,aH,rfl,cd,dk,hH⟩:=fw (rs:=[]) hF (by omega) hH;refine qv aH ?_;refine qe hK ?_;have kV:(code++[cH 4 (2*n.cap) 0 []]).length=code.length+1:=by simp
   refine qq<|qj fun K hK=>qm ?_;refine qm ?_;refine qA ?_;obtain⟨_,st,aH,rfl,cd,dk,hH⟩:=ih t (by omega) hF vW iV.tail hsz.tail sX.tail kD.1 (by omega) ⟨cd,dk,hH⟩;refine qv aH ?_;refine qe hK ?_;rw[kV] at hH;have l8:(code++[cH 4 (2*n.cap) 0 []]++aO t (code.length+1)).length=code.length+1+t.sz:=by rw[List.length_append,kV,b9 t _ kD.1]
   refine qj fun K hK=>qm ?_;refine qp (o:=5) ?_;refine ql hH gw ?_;refine ab.vK (z:=(2*n.cap)) rfl (ev rfl) (ev rfl) (by(try simp only[List.length_reverse,List.length_cons,List.length_nil,List.length_append,List.length_map,List.length_set]);rw[wrap_i64 (by omega) (by omega)]<;>omega) (ag rfl _) ?_;refine ab.ka (z:=(2*n.cap+1)) rfl (ev rfl) (ev rfl) (by(try simp only[List.length_reverse,List.length_cons,List.length_nil,List.length_append,List.length_map,List.length_set]);rw[wrap_i64 (by omega) (by omega)]<;>omega) (ag rfl _) ?_;refine ab.go (d:=.agg [.int .i64 4,.int .i64 (2*n.cap+1),.int .i64 0,.nul]) (st1:=_) rfl rfl rfl (ag rfl _) ?_;have hH:=hH.eo 2;obtain⟨_,st,aH,rfl,cd,dk,hH⟩:=fw (rs:=[]) hF (by omega) hH;refine qv aH ?_;refine qe hK ?_;have fu:code++[cH 4 (2*n.cap) 0 []]++aO t (code.length+1)++[cH 4 (2*n.cap+1) 0 []]=code++cH 4 (2*n.cap) 0 []::(aO t (code.length+1)++[cH 4 (2*n.cap+1) 0 []]):=by simp
   rw[fu] at hH;refine⟨fun i h=>(by cases h),_,_,_,rfl,rfl,?_⟩;exact⟨rfl,cd,dk,hH.erase 4⟩
  ·refine af.skip ?_;have wc:aO (.mk n ks) code.length=[]:=by simp only[aO,if_neg q2,if_neg q7,if_neg q8,if_neg q3,if_neg q4,if_neg q5,if_neg q6]
   rw[wc,List.append_nil];refine⟨fun i h=>(by cases h),_,_,_,rfl,rfl,?_⟩;exact⟨rfl,cd,dk,hH.erase 4⟩
def gj (fr:Go.V.Fr) (k:Nat):Go.V.D:=Go.V.nth .bp fr.loc k
def zf (x:Nl):List D:=[x.d]
theorem JJ {l:List Nl} {i:Nat} {q:Nl} (h:l[i]?=some q):(l.map zf)[i]?=some (zf q):=by rw[List.getElem?_map,h];rfl
def mK (R:rj):D:=.tup [(ng R.code R.az).d,.int .i64 R.e,.int .i64 R.w]
theorem w6 {es M:List Int} (h:M.length=es.length):lC es 0 M=M:=by
 unfold lC;simp[h]
theorem l_ (r:Nat) (c:List aG) (s:List Int):dU [] r c s=⟨c,s,0,0⟩:=by simp only[dU]
theorem wA {s0:St} {x:D} {rules:List Nl} (hx:V.Rows s0 1 x (rules.map zf)) (hr:∀r∈rules,r.ok) (hl:rules.length≤1048576):Ev pv 23 [x] s0 (mK (bj (rules.map (·.l)))) s0:=by
 refine Ev.nZ rfl Rb rfl rfl rfl ?_;dsimp only[u3,u4,List.length,Nat.reduceSub,Nat.reduceAdd,w1,w2];obtain⟨b_,hF,hH⟩:=ri s0;generalize ai .ro s0=S at*;have hx:=Arg.of hx b_;have hfz:∀(st:St) (e w:Int),bo st s0.bs.length false 16 (o_ [.agg [.nul,.nul],.int .i64 e,.int .i64 w])=some (mK ⟨[],[],e,w⟩):=fun st e w=>rfl;refine qq<|qj fun K hK=>qa hH fun k2 st hk2 hH=>?_;refine qm ?_;refine qm ?_;refine qe hK<|qq<|qq<|qj fun K hK=>qm ?_;refine qn ?_;simp only[List.length_map];refine qg ?_;refine qe hK ?_;unfold bj
 by_cases h8:8<rules.length
 ·rw[if_pos (by rw[List.length_map];exact h8)];refine qD rfl (by simp;omega) ?_;refine qq<|qj fun K hK=>?_;refine ab.go (d:=.agg [.nul,.nul]) (st1:=_) rfl rfl rfl (by dsimp only[Fr.put,u1,u2]<;>rfl) ?_;refine qS hH ay fun st hH=>?_;dsimp only[u2,u1,u3,u4,setMany,u5,u6,D.cells,Nat.reduceAdd,aM,aX,aw,zf] at hH;refine qm ?_;refine qm ?_;refine qe hK<|af.ret ⟨rx,_,hH.jL rfl ay rfl rfl rfl,rl b_ hH (hfz _ 13 8)⟩
 ·rw[if_neg (by rw[List.length_map];exact h8)];refine qE rfl (by simp;omega) ?_;refine af.skip<|qq<|qj fun K hK=>?_;refine ab.go (d:=.agg [.nul,.nul,.nul,.nul]) (st1:=_) rfl rfl rfl (by dsimp only[Fr.put,u1,u2]<;>rfl) ?_;refine qb hH fun k14 st M1 hH=>?_;refine qm ?_;refine qe hK<|qq<|qj fun K hK=>qm ?_;refine qe hK<|qq<|qq<|qj fun K hK=>qm ?_;refine qn ?_;simp only[List.length_map];refine qm ?_;refine qe hK ?_;have hH:Has s0.bs.length S st (.aJ .nul 1 (([]:List Int).map aw)::.deep (fun _=>False) .nul 4 (([]:List aG).map aM)::.box k14 (.mem 0 false [.nul,.nul,.nul,.nul])::[.box k2 (.mem 0 false [.nul,.nul])]):=(hH.JG 4).eo 1;refine af.block<|af.loop (fun mm fr st=>∃(r:Nat) (cd nd zd ed sd:D) (dk:Nat→Prop) (code:List aG) (az:List Int),fr.clean=⟨18,[gj fr 0,gj fr 1,.ptr k2 0 0,.int .i64 0,.int .i64 0,.ptr k14 0 0,sd,gj fr 7,gj fr 8,gj fr 9,gj fr 10,gj fr 11,gj fr 12,gj fr 13,gj fr 14,x,.int .i64 (rules.length:Nat),.int .i64 (r:Nat)],[]⟩∧Has s0.bs.length S st [.aJ sd 1 (az.map aw),.deep dk cd 4 (code.map aM),.box k14 (.mem 0 false [cd,nd,zd,ed]),.box k2 (.mem 0 false [.nul,.nul])]∧(r+mm=rules.length)∧(dU ((rules.drop r).map (·.l)) r code az=dU (rules.map (·.l)) 0 [] [])∧(code.length≤400)∧(az.length≤r)) (rules.length) ?_ ?_
  ·exact⟨0,.nul,.nul,.nul,.nul,.nul,(fun _=>False),[],[],rfl,hH,by omega,by rw[List.drop_zero],by simp,by simp⟩
  rintro mm fr st ⟨r,cd,nd,zd,ed,sd,dk,code,az,hfr,hH,WO,hX,hcl,gp⟩;rw[hfr];clear hfr;generalize gj fr=ee;clear fr;refine qq<|qj fun K hK=>qg ?_;refine qe hK ?_
  by_cases hlt:r<rules.length
  ·obtain⟨q,hq⟩:∃q,rules[r]?=some q:=⟨rules[r]'hlt,List.getElem?_eq_getElem _⟩
   have uo:=hr q (List.mem_of_getElem? hq);have gD:=JJ hq
   have A4:rules.drop r=q::rules.drop (r+1):=by
    rw[List.drop_eq_getElem_cons hlt]
    congr 1
    exact Option.some.inj ((List.getElem?_eq_getElem _).symm.trans hq)
   rw[A4,List.map_cons,dU] at hX;refine qq<|qD rfl (by simp;omega) ?_;refine af.skip<|qq<|af.block<|qq<|qj fun K hK=>qm ?_;refine qr fun Ol J6=>?_;refine qR ?_;refine qm ?_;refine qm ?_;refine qe hK<|qq<|qq<|qj fun K hK=>qm ?_;refine qv (yp uo) ?_;refine qg ?_;refine qe hK ?_
   cases vV:e_ q.l with
   |false=>
    rw[if_pos vV] at hX;refine qB ?_;refine qq<|qj fun K hK=>ab.go (d:=.agg [.nul,.nul]) (st1:=_) rfl rfl rfl (ag rfl _) ?_;refine qm ?_;refine qS hH gG fun st hH=>?_;dsimp only[u2,u1,u3,u4,setMany,u5,u6,D.cells,Nat.reduceAdd,aM,aX,aw,zf] at hH;refine qm ?_;refine qm ?_;refine qe hK ?_;rw[←hX];refine af.ret ⟨rx,_,hH.jL rfl gG rfl rfl rfl,rl b_ hH (hfz _ 1 r)⟩
   |true=>
    rw[if_neg (by rw[vV];simp)] at hX;obtain⟨pf,JS⟩:=rm vV;have WT:=uo.c.arg s0.bs.length S;have WS:=uo.nl;have s8:=uo.c;refine qC ?_;refine af.skip<|qq<|qj fun K hK=>qm ?_;refine qm ?_;refine qm ?_;refine qm ?_;refine qm ?_;refine qn ?_;simp only[List.length_map];refine ab.xx (s:=1) hH rfl rfl rfl rfl rfl rfl rfl rfl (Nat.le_of_ble_eq_true rfl) (by omega) (fun _=>(ag rfl _)) (fun k33 st Py hH=>?_);refine qm ?_;refine qn ?_;simp only[List.length_map];refine ab.xx (s:=1) hH rfl rfl rfl rfl rfl rfl rfl rfl (Nat.le_of_ble_eq_true rfl) (by omega) (fun _=>(ag rfl _)) (fun k36 st MZ hH=>?_);refine qg ?_;refine qp (o:=1) ?_;refine qT hH gw fun st hH=>?_;dsimp only[u2,u1,u3,u4,setMany,u5,u6,D.cells,Nat.reduceAdd,aM,aX,aw,zf] at hH;refine qg ?_;refine qp (o:=2) ?_;refine qT hH gw fun st hH=>?_;dsimp only[u2,u1,u3,u4,setMany,u5,u6,D.cells,Nat.reduceAdd,aM,aX,aw,zf] at hH;refine qg ?_;refine qp (o:=3) ?_;refine qT hH gw fun st hH=>?_;dsimp only[u2,u1,u3,u4,setMany,u5,u6,D.cells,Nat.reduceAdd,aM,aX,aw,zf] at hH;refine qe hK ?_
    have hH:Has s0.bs.length S st (.aJ (.win k33 0 0 q.l.length 1) 1 ((List.replicate q.l.length (0:Int)).map aw)::.aJ (.win k36 0 0 q.l.length 1) 1 ((List.replicate q.l.length (0:Int)).map aw)::.aJ sd 1 (az.map aw)::.deep dk cd 4 (code.map aM)::.box k14 (.mem 0 false [cd,q.d,.win k33 0 0 q.l.length 1,.win k36 0 0 q.l.length 1])::.box k2 (.mem 0 false [.nul,.nul])::[]):=by
     rw[List.map_replicate];exact hH.front b5
    refine qq<|qj fun K hK=>qm ?_;refine qm ?_;refine qg ?_;refine qp (o:=2) ?_;refine ql hH gw ?_;obtain⟨_,st,aH,rfl,hH⟩:=zI uo.nl uo.i uo.c _ (ct q.l) (Nat.le_refl _) pf (at_:=0) (by rw[JS];exact eL.all _) (by simp) hH;refine qv aH ?_;refine qe hK ?_;rw[w6 (by rw[Tr.gT,JS];simp)] at hH;have hH:=hH.front b5;refine qq<|qj fun K hK=>qm ?_;refine qm ?_;refine qg ?_;refine qp (o:=3) ?_;refine ql hH gw ?_;obtain⟨_,st,aH,rfl,hH⟩:=FD uo.nl uo.i uo.c _ (ct q.l) (Nat.le_refl _) pf (at_:=0) (by rw[JS];exact eL.all _) (by simp) hH;refine qv aH ?_;refine qe hK ?_;rw[w6 (by rw[Tr.g_,JS];simp)] at hH;have T1:=eO (wS (eL.all (ct q.l).zs));refine qq<|qq<|qj fun K hK=>qm ?_;refine qg ?_;refine qp (o:=0) ?_;refine ql hH gw ?_;refine ab.y4 hH rfl (ev rfl) (by exact gG) rfl (ag rfl _) ?_;simp only[List.length_map];refine qm ?_;refine qg ?_;refine qp (o:=2) ?_;refine ql hH gw ?_;refine qi hH b5 fun Tf O_=>?_;refine qo hH b5 ?_;refine ab.ka (z:=((code.length+min (ct q.l).sz 401:Nat):Int)) rfl (ev rfl) (ev rfl) (by(try simp only[List.length_reverse,List.length_cons,List.length_nil,List.length_append,List.length_map,List.length_set]);rw[wrap_i64 (by omega) (by omega)]<;>omega) (ag rfl _) ?_;refine ab.ka (z:=((code.length+min (ct q.l).sz 401+3:Nat):Int)) rfl (ev rfl) (ev rfl) (by(try simp only[List.length_reverse,List.length_cons,List.length_nil,List.length_append,List.length_map,List.length_set]);rw[wrap_i64 (by omega) (by omega)]<;>omega) (ag rfl _) ?_;refine qg ?_;refine qe hK ?_
    by_cases Kp:400<code.length+min (ct q.l).sz 401+3
    ·rw[if_pos Kp] at hX;have gE:decide (((code.length+min (ct q.l).sz 401+3:Nat):Int)>400)=true:=by rw[decide_eq_true_eq];omega
     refine qD rfl (by rw[gE]) ?_;refine qq<|qj fun K hK=>ab.go (d:=.agg [.nul,.nul]) (st1:=_) rfl rfl rfl (ag rfl _) ?_;refine qm ?_;refine qS hH sR fun st hH=>?_;dsimp only[u2,u1,u3,u4,setMany,u5,u6,D.cells,Nat.reduceAdd,aM,aX,aw,zf] at hH;refine qm ?_;refine qm ?_;refine qe hK ?_;rw[←hX];refine af.ret ⟨rx,_,hH.jL rfl sR rfl rfl rfl,rl b_ hH (hfz _ 12 r)⟩
    ·rw[if_neg Kp] at hX;have gE:decide (((code.length+min (ct q.l).sz 401+3:Nat):Int)>400)=false:=by rw[decide_eq_false_iff_not];omega
     refine qE rfl (by rw[gE]) ?_;refine af.skip ?_;have hH:=hH.front b5;have hH:=hH.front gG;have hH:=hH.front gw;have hH:Has s0.bs.length S st (.box k14 (.mem 0 false [cd,q.d,.win k33 0 0 q.l.length 1,.win k36 0 0 q.l.length 1])::.deep dk cd 4 (code.map aM)::.aJ (.win k33 0 0 q.l.length 1) 1 ((ct q.l).zs.map aw)::.aJ (.win k36 0 0 q.l.length 1) 1 (((ct q.l).es 0).map aw)::.aJ sd 1 (az.map aw)::.box k2 (.mem 0 false [.nul,.nul])::[]):=hH;refine qq<|qj fun K hK=>qm ?_;refine qm ?_;refine ab.go (d:=.agg [.int .i64 4,.int .i64 0,.int .i64 0,.nul]) (st1:=_) rfl rfl rfl (ag rfl _) ?_;have hH:=hH.eo 2;obtain⟨_,st,aH,rfl,cd,dk,hH⟩:=fw (rs:=[]) hF (by omega) hH;refine qv aH ?_;refine qh (s:=1) (vs:=[_]) hH fun k75 st UQ hH=>?_;refine ab.bR (s:=1) hH rfl (ev rfl) (ev rfl) (by exact sR) (by exact hH.rows (by exact ay)) rfl rfl rfl rfl rfl rfl rfl ⟨(Nat.le_of_ble_eq_true rfl),(Nat.le_of_ble_eq_true rfl)⟩ (fun _=>(ag rfl _)) (by simp only[List.length_cons,List.length_nil,List.length_map]<;>omega) (by exact .inl hF) (fun SX st hH=>?_);dsimp only[u2,u1,u3,u4,setMany,u5,u6,D.cells,Nat.reduceAdd,aM,aX,aw,zf] at hH;refine qm ?_;refine qe hK ?_;have hH:=hH.drop 1;have kV:(code++[cH 4 0 0 []]).length=code.length+1:=by simp
     refine qq<|qj fun K hK=>qm ?_;obtain⟨_,st,aH,rfl,cd,dk,hH⟩:=EM uo.nl uo.i _ (ct q.l) (Nat.le_refl _) hF uo.c (at_:=0) (by rw[JS];exact eL.all _) (eL.all _) (eL.all _) pf (by omega) ⟨cd,dk,hH⟩;refine qv aH ?_;refine qe hK ?_;rw[kV] at hH;have l8:(code++[cH 4 0 0 []]++aO (ct q.l) (code.length+1)).length=code.length+1+(ct q.l).sz:=by rw[List.length_append,kV,b9 _ _ pf]
     refine qq<|qj fun K hK=>qm ?_;refine ab.go (d:=.agg [.int .i64 4,.int .i64 1,.int .i64 0,.nul]) (st1:=_) rfl rfl rfl (ag rfl _) ?_;have hH:=hH.eo 2;obtain⟨_,st,aH,rfl,cd,dk,hH⟩:=fw (rs:=[]) hF (by omega) hH;refine qv aH ?_;refine qe hK ?_;have A6:(code++[cH 4 0 0 []]++aO (ct q.l) (code.length+1)++[cH 4 1 0 []]).length=code.length+1+(ct q.l).sz+1:=by rw[List.length_append,l8];rfl
     refine qj fun K hK=>qm ?_;refine qm ?_;refine ab.go (d:=.agg [.int .i64 7,.int .i64 (r:Nat),.int .i64 0,.nul]) (st1:=_) rfl rfl rfl (ag rfl _) ?_;have hH:=hH.eo 2;obtain⟨_,st,aH,rfl,cd,dk,hH⟩:=fw (rs:=[]) hF (by omega) hH;refine qv aH ?_;refine qe hK ?_
     have TY:code++[cH 4 0 0 []]++aO (ct q.l) (code.length+1)++[cH 4 1 0 []]++[cH 7 (r:Nat) 0 []]=code++dQ (ct q.l) code.length r:=by
      unfold dQ;simp
     rw[TY] at hH;have hH:=(hH.erase 2).erase 2;have hH:=hH.front b5;have hH:=hH.front eV;refine qj fun K hK=>qA ?_;refine qm ?_;refine qe hK ?_;exact⟨mm-1,by omega,⟨r+1,cd,q.d,.win k33 0 0 q.l.length 1,.win k36 0 0 q.l.length 1,SX,dk,code++dQ (ct q.l) code.length r,az++[((code.length:Nat):Int)],rfl,(by rw[List.map_append (f:=aw)];exact hH),by omega,hX,by rw[List.length_append,jK pf];omega,by rw[List.length_append];simp only[List.length_cons,List.length_nil];omega⟩⟩
  ·refine qq<|qE rfl (by simp;omega) ?_;refine af.exit ?_;rw[List.drop_of_length_le (by omega),List.map_nil,l_] at hX;refine qq<|qj fun K hK=>qm ?_;refine qg ?_;refine qp (o:=0) ?_;refine ql hH eV ?_;refine qm ?_;refine ab.fe (qs:=[(0,_),(1,_)]) rfl rfl rfl rfl ⟨rfl,(ev rfl),(by exact hH.sO (by exact b5)),rfl,(ev rfl),(by exact hH.fP (by exact ay)),trivial⟩ (by intro q hq;simp only[List.mem_cons,List.not_mem_nil,or_false] at hq;rcases hq with rfl|rfl<;>exact⟨rfl,by exact Nat.le_of_ble_eq_true rfl⟩) (by show List.foldl _ [_,_] _=_;dsimp only[List.foldl_cons,List.foldl_nil,u2,u1]<;>rfl) (ag rfl _) ?_;refine qS hH gG fun st hH=>?_;dsimp only[u2,u1,u3,u4,setMany,u5,u6,D.cells,Nat.reduceAdd,aM,aX,aw,zf] at hH;refine qm ?_;refine qm ?_;refine qe hK ?_;rw[←hX];have h1:=hH.oG b5 (n:=13) (by decide);have h2:=hH.xI ay (l3 _) (n:=14) (by decide)
   have h4:bo st s0.bs.length false 15 (.agg [cd,sd])=some (ng code az).d:=by
    show(fZ (bo st s0.bs.length false 14) [cd,sd]).map D.agg=_;simp only[fZ,h1,h2,Option.map_some];rfl
   have h3:bo st s0.bs.length false 16 (o_ [.agg [cd,sd],.int .i64 0,.int .i64 0])=some (mK ⟨code,az,0,0⟩):=by
    show(fZ (bo st s0.bs.length false 15) [.agg [cd,sd],.int .i64 0,.int .i64 0]).map D.tup=_;simp only[fZ,h4];rfl
   exact af.ret ⟨rx,_,hH.jL rfl gG rfl rfl rfl,rl b_ hH h3⟩
theorem uN:∀(ls:List (List c_)) (r:Nat) (c:List aG) (s:List Int),(∀l∈ls,∀n∈l,n.rs.length≤1048576)→(∀i∈c,iz i)→c.length≤400→s.length≤r→(∀i∈(dU ls r c s).code,iz i)∧(dU ls r c s).code.length≤400∧(dU ls r c s).az.length≤r+ls.length
 |[],r,c,s,_,h1,h2,h3=>by rw[l_];exact⟨h1,h2,by simpa using h3⟩
 |l::ls,r,c,s,h0,h1,h2,h3=>by
  have Sw:∀e w:Int,(∀i∈(rj.mk [] [] e w).code,iz i)∧(rj.mk [] [] e w).code.length≤400∧(rj.mk [] [] e w).az.length≤r+(l::ls).length:=fun e w=>⟨fun i hi=>(by cases hi),by simp,by simp⟩
  rw[dU]
  split
  ·exact Sw _ _
  ·rename_i hr;rw[Bool.not_eq_false] at hr
   split
   ·exact Sw _ _
   ·rename_i hb;obtain⟨t1,t2⟩:=rm hr
    obtain⟨h4,h5,h6⟩:=uN ls (r+1) (c++dQ (ct l) c.length r) (s++[((c.length:Nat):Int)]) (fun l' gb=>h0 l' (List.mem_cons_of_mem _ gb)) (fun i hi=>by
     rcases List.mem_append.1 hi with hi|hi
     ·exact h1 i hi
     ·exact Ca (by rw[t2];exact h0 l (List.mem_cons_self ..)) i hi) (by rw[List.length_append,jK t1];omega) (by rw[List.length_append];simp only[List.length_cons,List.length_nil];omega)
    exact⟨h4,h5,by simp only[List.length_cons];omega⟩
theorem uM {ls:List (List c_)} (h:∀l∈ls,∀n∈l,n.rs.length≤1048576):(ng (bj ls).code (bj ls).az).ok∧(bj ls).code.length≤400:=by
 unfold bj
 split
 ·exact⟨z6 (fun i hi=>(by cases hi)) (by simp) (by simp),by simp⟩
 ·obtain⟨h1,h2,h3⟩:=uN ls 0 [] [] h (fun i hi=>by cases hi) (by simp) (by simp);exact⟨z6 h1 (by omega) (by omega),h2⟩
def x9 (b:List UInt8):List D:=[.str b]
theorem B5 {l:List (List UInt8)} {i:Nat} {q:List UInt8} (h:l[i]?=some q):(l.map x9)[i]?=some (x9 q):=by rw[List.getElem?_map,h];rfl
theorem JI {parts:List (List c_)} (h:∀l∈parts,(∀n∈l,s_ n)∧l.length≤500):∀r∈parts.map (fun l=>(⟨sW l,l⟩:Nl)),r.ok:=by
 intro r hr;obtain⟨l,hl,rfl⟩:=List.mem_map.1 hr;exact LZ (h l hl).1 (by have:=(h l hl).2;omega)
theorem Am {parts:List (List c_)}:(parts.map (fun l=>(⟨sW l,l⟩:Nl))).map zf=parts.map du:=by
 rw[List.map_map];rfl
theorem wB {s0:St} {y:D} {parts:List (List c_)} (h:∀l∈parts,(∀n∈l,s_ n)∧l.length≤500) (hl:parts.length≤1048576) (hy:V.Rows s0 1 y (parts.map du)):Ev pv 23 [y] s0 (mK (bj parts)) s0∧(ng (bj parts).code (bj parts).az).ok∧(bj parts).code.length≤400:=by
 have h1:=wA (s0:=s0) (x:=y) (rules:=parts.map (fun l=>(⟨sW l,l⟩:Nl))) (by rw[Am];exact hy) (JI h) (by rw[List.length_map];exact hl);have h2:(parts.map (fun l=>(⟨sW l,l⟩:Nl))).map (·.l)=parts:=by rw[List.map_map];exact List.map_id _
 rw[h2] at h1;exact⟨h1,uM fun l hl n hn=>((h l hl).1 n hn).2.1⟩
def w8 (n:Nat) (i:aG):aG:=if i.op=2 then⟨2,i.x+n,i.y+n,i.rd,i.rs⟩ else if i.op=3 then⟨3,i.x+n,i.y,i.rd,i.rs⟩ else i
theorem nD (n:Nat) {op:Int} (x y:Int) (rs:List Rg) (h2:op≠2) (h3:op≠3):w8 n (cH op x y rs)=cH op x y rs:=by
 unfold w8 cH;rw[if_neg h2,if_neg h3]
theorem vp (n s o:Nat) (lz:Bool):w8 n (lG s o lz)=lG (s+n) (o+n) lz:=by
 cases lz
 ·show(⟨2,((s+1:Nat):Int)+n,(o:Int)+n,_,_⟩:aG)=cH 2 ((s+n+1:Nat):Int) ((o+n:Nat):Int) [];unfold cH
  congr 1;omega
 ·show(⟨2,(o:Int)+n,((s+1:Nat):Int)+n,_,_⟩:aG)=cH 2 ((o+n:Nat):Int) ((s+n+1:Nat):Int) [];unfold cH
  congr 1;omega
theorem zK (n e:Nat):w8 n (kR e)=kR (e+n):=by
 show(⟨3,(e:Int)+n,0,_,_⟩:aG)=cH 3 ((e+n:Nat):Int) 0 [];unfold cH
 congr 1
theorem ry {c:Nat→List aG} {z n:Nat} (hc:∀b,c (b+n)=(c b).map (w8 n)):∀k b,eB c z k (b+n)=(eB c z k b).map (w8 n)
 |0,b=>rfl
 |k+1,b=>by
  have h:=ry hc (z:=z) k (b+z);rw[Nat.add_right_comm] at h;rw[eB,eB,List.map_append,hc,h]
theorem xf {sp RL:Nat→aG} {c:Nat→List aG} {z n:Nat} (hs:∀s,RL (s+n)=w8 n (sp s)) (hc:∀b,c (b+n)=(c b).map (w8 n)):∀k b,ek RL c z k (b+n)=(ek sp c z k b).map (w8 n)
 |0,b=>rfl
 |k+1,b=>by
  have h:=xf hs hc (z:=z) k (b+1+z);have e1:b+1+z+n=b+n+1+z:=by omega
  have e2:b+n+1=b+1+n:=by omega
  rw[e1] at h;rw[ek,ek,List.map_cons,List.map_append,hs,h,e2,hc]
theorem Cb {nd:c_} {c:Nat→List aG} {z n b:Nat} (hc:∀b,c (b+n)=(c b).map (w8 n)):lL nd c z (b+n)=(lL nd c z b).map (w8 n):=by
 unfold lL
 split
 ·rw[List.map_append,ry hc,List.map_cons,List.map_append,vp,List.map_cons,List.map_nil,zK];have e1:b+n+nd.mn.toNat*z=b+nd.mn.toNat*z+n:=by omega
  have e2:b+nd.mn.toNat*z+n+1=b+nd.mn.toNat*z+1+n:=by omega
  have e3:b+nd.mn.toNat*z+n+z+2=b+nd.mn.toNat*z+z+2+n:=by omega
  rw[e1,e2,e3,hc]
 ·rw[List.map_append,ry hc];have e1:b+n+nd.mn.toNat*z=b+nd.mn.toNat*z+n:=by omega
  rw[e1]
  congr 1
  refine xf (fun s=>?_) hc _ _;rw[vp]
  congr 1
  omega
mutual
theorem oS (n:Nat):∀(t:Tr) (b:Nat),aO t (b+n)=(aO t b).map (w8 n)
 | .mk nd ks,b=>by
  have hc:=fun b=>xM n ks b;have ha:=fun e b=>xW n e ks b;simp only[aO]
  split
  ·rw[List.map_cons,List.map_nil,nD _ _ _ _ (by decide) (by decide)]
  split
  ·rw[List.map_cons,List.map_nil,nD _ _ _ _ (by decide) (by decide)]
  split
  ·rw[List.map_cons,List.map_nil,nD _ _ _ _ (by decide) (by decide)]
  split
  ·exact hc b
  split
  ·rw[Nat.add_right_comm];exact ha _ b
  split
  ·exact Cb hc
  split
  ·rw[List.map_cons,List.map_append,List.map_cons,List.map_nil,nD _ _ _ _ (by decide) (by decide),nD _ _ _ _ (by decide) (by decide),Nat.add_right_comm,hc]
  ·rfl
theorem xM (n:Nat):∀(ts:bu) (b:Nat),eQ ts (b+n)=(eQ ts b).map (w8 n)
 | .nil,b=>by simp only[eQ,List.map_nil]
 | .cons t ts,b=>by
  have h:=xM n ts (b+t.sz);rw[Nat.add_right_comm] at h;simp only[eQ,List.map_append];rw[oS n t b,h]
theorem xW (n:Nat):∀(e:Nat) (ts:bu) (b:Nat),dP (kR (e+n)) ts (b+n)=(dP (kR e) ts b).map (w8 n)
 |e,.nil,b=>by simp only[dP,List.map_nil]
 |e,.cons t ts,b=>by
  have h:=xW n e ts (b+t.sz+2);have h1:=oS n t (b+1);have e1:b+t.sz+2+n=b+n+t.sz+2:=by omega
  have e2:b+1+n=b+n+1:=by omega
  have e3:b+1+t.sz+1+n=b+n+1+t.sz+1:=by omega
  rw[e1] at h;rw[e2] at h1;simp only[dP]
  split
  ·exact oS n t b
  ·rw[List.map_cons,List.map_append,List.map_cons,vp,zK,h1,h,e3]
end
def mi (lo hi:Nat) (i:aG):Prop:=i.op≠7∧(i.op=2→((lo:Int)≤i.x∧i.x≤hi)∧(lo:Int)≤i.y∧i.y≤hi)∧(i.op=3→(lo:Int)≤i.x∧i.x≤hi)
theorem mi.mono {lo hi pZ gz:Nat} {i:aG} (h:mi lo hi i) (h1:pZ≤lo) (h2:hi≤gz):mi pZ gz i:=
 ⟨h.1,fun e=>by have:=h.2.1 e;omega,fun e=>by have:=h.2.2 e;omega⟩
theorem mi.mk {lo hi:Nat} {op:Int} (x y:Int) (rs:List Rg) (h2:op≠2) (h3:op≠3) (h7:op≠7):mi lo hi (cH op x y rs):=⟨h7,fun h=>absurd h h2,fun h=>absurd h h3⟩
theorem mi.sp {lo hi s o:Nat} {lz:Bool} (h1:lo≤s+1∧s+1≤hi) (h2:lo≤o∧o≤hi):mi lo hi (lG s o lz):=by
 cases lz
 ·exact⟨by show(2:Int)≠7;decide,fun _=>by show((lo:Int)≤((s+1:Nat):Int)∧((s+1:Nat):Int)≤hi)∧(lo:Int)≤(o:Int)∧(o:Int)≤hi;omega,fun h=>absurd h (by show¬(2:Int)=3;decide)⟩
 ·exact⟨by show(2:Int)≠7;decide,fun _=>by show((lo:Int)≤(o:Int)∧(o:Int)≤hi)∧(lo:Int)≤((s+1:Nat):Int)∧((s+1:Nat):Int)≤hi;omega,fun h=>absurd h (by show¬(2:Int)=3;decide)⟩
theorem mi.jp {lo hi e:Nat} (h1:lo≤e∧e≤hi):mi lo hi (kR e):=
 ⟨by show(3:Int)≠7;decide,fun h=>absurd h (by show¬(3:Int)=2;decide),fun _=>by show(lo:Int)≤(e:Int)∧(e:Int)≤hi;omega⟩
theorem rz {c:Nat→List aG} {z:Nat} (hc:∀b,∀i∈c b,mi b (b+z) i):∀k b,∀i∈eB c z k b,mi b (b+k*z) i
 |0,b,i,hi=>by cases hi
 |k+1,b,i,hi=>by
  simp only[eB] at hi;rw[Nat.succ_mul]
  rcases List.mem_append.1 hi with hi|hi
  ·exact(hc b i hi).mono (Nat.le_refl _) (by omega)
  ·exact(rz hc k _ i hi).mono (by omega) (by omega)
theorem xg {sp:Nat→aG} {c:Nat→List aG} {z lo hi:Nat} (hs:∀s,lo≤s→s+1≤hi→mi lo hi (sp s)) (hc:∀b,∀i∈c b,mi b (b+z) i):∀k b,lo≤b→b+k*(z+1)≤hi→∀i∈ek sp c z k b,mi lo hi i
 |0,b,_,_,i,gz=>by cases gz
 |k+1,b,h1,h2,i,gz=>by
  simp only[ek] at gz;rw[Nat.succ_mul] at h2
  rcases List.mem_cons.1 gz with rfl|gz
  ·exact hs b h1 (by omega)
  ·rcases List.mem_append.1 gz with gz|gz
   ·exact(hc _ i gz).mono (by omega) (by omega)
   ·exact xg hs hc k _ (by omega) (by omega) i gz
mutual
theorem oT:∀(t:Tr) (b:Nat),t.ok→∀i∈aO t b,mi b (b+t.sz) i
 | .mk n ks,b,a_,i,hi=>by
  simp only[Tr.ok] at a_;have hc:=fun b=>xO ks b a_.2;obtain⟨_,hq⟩:=a_.1;simp only[aO] at hi;simp only[Tr.sz]
  by_cases q2:n.op=2
  ·rw[if_pos q2] at hi;simp only[List.mem_cons,List.not_mem_nil,or_false] at hi;subst hi;exact mi.mk _ _ _ (by decide) (by decide) (by decide)
  rw[if_neg q2] at hi
  by_cases q7:n.op=7
  ·rw[if_pos q7] at hi;simp only[List.mem_cons,List.not_mem_nil,or_false] at hi;subst hi;exact mi.mk _ _ _ (by decide) (by decide) (by decide)
  rw[if_neg q7] at hi
  by_cases q8:n.op=8
  ·rw[if_pos q8] at hi;simp only[List.mem_cons,List.not_mem_nil,or_false] at hi;subst hi;exact mi.mk _ _ _ (by decide) (by decide) (by decide)
  rw[if_neg q8] at hi
  have hz:∀s k,bD n s k=if n.op=4 then s+2*(k-1) else if n.op=6 then s+2 else if n.op=5 then(if n.mx=-1 then n.mn.toNat*s+s+2 else n.mn.toNat*s+(n.mx.toNat-n.mn.toNat)*(s+1)) else s:=by
   intro s k;unfold bD;rw[if_neg (by omega)]
  by_cases q3:n.op=3
  ·rw[if_pos q3] at hi;rw[hz,if_neg (by omega),if_neg (by omega),if_neg (by omega)];exact hc b i hi
  rw[if_neg q3] at hi
  by_cases q4:n.op=4
  ·rw[if_pos q4] at hi;have Mh:bD n ks.sz ks.len=ks.sz+2*(ks.len-1):=by rw[hz,if_pos q4]
   rw[Mh] at hi⊢;exact xX ks b (b+(ks.sz+2*(ks.len-1))) a_.2 (Nat.le_refl _) i hi
  rw[if_neg q4] at hi
  by_cases q5:n.op=5
  ·rw[if_pos q5] at hi;rw[hz,if_neg q4,if_neg (by omega),if_pos q5];unfold lL at hi
   by_cases qm:n.mx=-1
   ·rw[if_pos qm] at hi⊢
    rcases List.mem_append.1 hi with hi|hi
    ·exact(rz hc _ _ i hi).mono (Nat.le_refl _) (by omega)
    ·rcases List.mem_cons.1 hi with rfl|hi
     ·exact mi.sp (by omega) (by omega)
     ·rcases List.mem_append.1 hi with hi|hi
      ·exact(hc _ i hi).mono (by omega) (by omega)
      ·simp only[List.mem_cons,List.not_mem_nil,or_false] at hi;subst hi;exact mi.jp (by omega)
   ·rw[if_neg qm] at hi⊢
    rcases List.mem_append.1 hi with hi|hi
    ·exact(rz hc _ _ i hi).mono (Nat.le_refl _) (by omega)
    ·exact xg (fun s h1 h2=>mi.sp (by omega) (by omega)) hc _ _ (by omega) (by omega) i hi
  rw[if_neg q5] at hi
  by_cases q6:n.op=6
  ·rw[if_pos q6] at hi;rw[hz,if_neg q4,if_pos q6]
   rcases List.mem_cons.1 hi with rfl|hi
   ·exact mi.mk _ _ _ (by decide) (by decide) (by decide)
   ·rcases List.mem_append.1 hi with hi|hi
    ·exact(hc _ i hi).mono (by omega) (by omega)
    ·simp only[List.mem_cons,List.not_mem_nil,or_false] at hi;subst hi;exact mi.mk _ _ _ (by decide) (by decide) (by decide)
  ·rw[if_neg q6] at hi;cases hi
theorem xO:∀(ts:bu) (b:Nat),ts.ok→∀i∈eQ ts b,mi b (b+ts.sz) i
 | .nil,b,_,i,hi=>by simp[eQ] at hi
 | .cons t ts,b,a_,i,hi=>by
  simp only[bu.ok] at a_;simp only[eQ] at hi;simp only[bu.sz]
  rcases List.mem_append.1 hi with hi|hi
  ·exact(oT t b a_.1 i hi).mono (Nat.le_refl _) (by omega)
  ·exact(xO ts _ a_.2 i hi).mono (by omega) (by omega)
theorem xX:∀(ts:bu) (b e:Nat),ts.ok→b+(ts.sz+2*(ts.len-1))≤e→∀i∈dP (kR e) ts b,mi b e i
 | .nil,b,e,_,_,i,hi=>by simp[dP] at hi
 | .cons t ts,b,e,a_,he,i,hi=>by
  simp only[bu.ok] at a_;simp only[dP] at hi;simp only[bu.sz,bu.len] at he
  by_cases q:ts.len=0
  ·rw[if_pos q] at hi;exact(oT t b a_.1 i hi).mono (Nat.le_refl _) (by omega)
  ·rw[if_neg q] at hi
   rcases List.mem_cons.1 hi with rfl|hi
   ·exact mi.sp (by omega) (by omega)
   ·rcases List.mem_append.1 hi with hi|hi
    ·exact(oT t _ a_.1 i hi).mono (by omega) (by omega)
    ·rcases List.mem_cons.1 hi with rfl|hi
     ·exact mi.jp (by omega)
     ·exact(xX ts _ e a_.2 (by omega) i hi).mono (by omega) (by omega)
end
theorem wC (r:Nat) (c:List aG) (s:List Int):dU [] r c s=⟨c,s,0,0⟩:=by simp only[dU]
theorem uK {code:List aG} {pc:Nat} {i:aG} (h:(code.map dK)[pc]?=some i):∃q,code[pc]?=some q∧i=dK q:=by
 rw[List.getElem?_map] at h;obtain⟨q,hq,rfl⟩:=Option.map_eq_some_iff.1 h;exact⟨q,hq,rfl⟩
theorem get_copy {code:List aG} {pc:Nat} {i:aG} (h:code[pc]?=some i):(code.map dK)[pc]?=some (dK i):=by
 rw[List.getElem?_map,h];rfl
theorem uJ (code:List aG):∀(f:Nat) (seen:List Bool) (fM:List Int),wv (code.map dK) f seen fM=wv code f seen fM
 |0,_,_=>rfl
 |_+1,_,[]=>rfl
 |f+1,seen,v::fM=>by
  have ih:=uJ code f;unfold wv;rw[List.getElem?_map]
  cases h1:seen[v.toNat]? with
  |none=>exact ih _ _
  |some b=>
   cases b with
   |true=>exact ih _ _
   |false=>
    cases h2:code[v.toNat]? with
    |none=>rfl
    |some i=>exact ih _ _
theorem nN (code:List aG) (s:Int):cg (code.map dK) s=cg code s:=by
 unfold cg;rw[List.length_map,uJ]
theorem vw {p q:Pg} (h1:q.code=p.code.map dK) (h2:q.az=p.az):cj q↔cj p:=by
 have hl:q.code.length=p.code.length:=by rw[h1];simp
 constructor
 ·intro h;refine⟨by rw[←hl];exact h.cl,by rw[←h2];exact h.sl,fun pc i hi=>?_,fun v hv=>?_,fun r s hs pc i Fk Fh hi eU=>?_⟩
  ·have:=h.sh pc (dK i) (by rw[h1];exact get_copy hi);rw[hl,h2] at this;exact this
  ·have:=h.st v (by rw[h2];exact hv);rw[hl] at this;exact this
  ·exact h.fo r s (by rw[h2];exact hs) pc (dK i) (by rw[hl];exact Fk) (by rw[h1,nN];exact Fh) (by rw[h1];exact get_copy hi) eU
 ·intro h;refine⟨by rw[hl];exact h.cl,by rw[h2];exact h.sl,fun pc i hi=>?_,fun v hv=>?_,fun r s hs pc i Fk Fh hi eU=>?_⟩
  ·rw[h1] at hi;obtain⟨j,hj,rfl⟩:=uK hi;rw[hl,h2];exact h.sh pc j hj
  ·rw[hl];exact h.st v (by rw[←h2];exact hv)
  ·rw[h1] at hi Fh;rw[nN] at Fh;obtain⟨j,hj,rfl⟩:=uK hi;exact h.fo r s (by rw[←h2];exact hs) pc j (by rw[←hl];exact Fk) Fh hj eU
def gX (seen:List Bool) (v:Int):Prop:=0≤v∧seen[v.toNat]?=some true
structure wQ (code:List aG) (start:Int) (seen:List Bool) (fM:List Int):Prop where
 a:∀u i,seen[u]?=some true→code[u]?=some i→∀w∈cu u i,gX seen w∨w∈fM
 b:∀v∈fM,v=start∨∃u i,seen[u]?=some true∧code[u]?=some i∧v∈cu u i
 c:∀v,gX seen v→v=start∨∃u i,seen[u]?=some true∧code[u]?=some i∧v∈cu u i∧v≠(u:Int)
 d:gX seen start∨start∈fM
theorem ef {seen:List Bool} {k:Nat} (hk:k<seen.length) {v:Int}:gX (seen.set k true) v↔v=(k:Int)∨gX seen v:=by
 unfold gX;constructor
 ·rintro⟨h0,h⟩
  by_cases hv:v.toNat=k
  ·left;omega
  ·rw[List.getElem?_set_ne (fun e=>hv e.symm)] at h;exact .inr ⟨h0,h⟩
 ·rintro(rfl|⟨h0,h⟩)
  ·exact⟨by omega,by rw[Int.toNat_natCast,List.getElem?_set_self hk]⟩
  ·refine⟨h0,?_⟩
   by_cases hv:v.toNat=k
   ·rw[hv,List.getElem?_set_self hk]
   ·rw[List.getElem?_set_ne (fun e=>hv e.symm)];exact h
theorem cW {seen:List Bool} {u:Nat}:seen[u]?=some true↔gX seen (u:Int):=by
 unfold gX;rw[Int.toNat_natCast];exact⟨fun h=>⟨by omega,h⟩,fun h=>h.2⟩
theorem wo {code:List aG} {start:Int} (hcl:gS code):∀(f:Nat) (seen:List Bool) (fM:List Int),seen.length=code.length→(∀v∈fM,0≤v∧v<(code.length:Int))→3*seen.count false+fM.length≤f→wQ code start seen fM→wQ code start (wv code f seen fM) []
 |0,seen,fM,_,_,hm,hi=>by
  have:fM=[]:=by cases fM with|nil=>rfl|cons _ _=>simp at hm
  subst this;exact hi
 |f+1,seen,[],_,_,_,hi=>hi
 |f+1,seen,v::fM,hl,hs,hm,hi=>by
  have hv:=hs v (List.mem_cons_self ..);have sm:∀w∈fM,0≤w∧w<(code.length:Int):=fun w hw=>hs w (List.mem_cons_of_mem _ hw);obtain⟨k,rfl⟩:=Int.eq_ofNat_of_zero_le hv.1;have hk:k<code.length:=by omega
  obtain⟨i,hci⟩:∃i,code[k]?=some i:=⟨code[k]'hk,List.getElem?_eq_getElem _⟩
  obtain⟨b,hb⟩:∃b,seen[k]?=some b:=⟨seen[k]'(by omega),List.getElem?_eq_getElem _⟩
  simp only[List.length_cons] at hm;have hp:∀w,w∈((k:Int)::fM)→w=(k:Int)∨w∈fM:=fun w hw=>List.mem_cons.1 hw;unfold wv;simp only[Int.toNat_natCast,hb,hci]
  cases b with
  |true=>
   have kD:gX seen (k:Int):=cW.1 hb;refine wo hcl f seen fM hl sm (by omega) ⟨fun u j hu hj w hw=>?_,fun w hw=>hi.b w (List.mem_cons_of_mem _ hw),hi.c,?_⟩
   ·rcases hi.a u j hu hj w hw with h|h
    ·exact .inl h
    ·rcases hp w h with rfl|h
     ·exact .inl kD
     ·exact .inr h
   ·rcases hi.d with h|h
    ·exact .inl h
    ·rcases hp start h with h|h
     ·exact .inl (h▸kD)
     ·exact .inr h
  |false=>
   have A5:=count_set hb;have gM:k<seen.length:=by omega
   have Pq:=tT k i;refine wo hcl f _ _ (by rw[List.length_set];exact hl) (fun w hw=>?_) (by simp only[List.length_append,List.length_reverse];omega) ⟨fun u j hu hj w hw=>?_,fun w hw=>?_,fun w hw=>?_,?_⟩
   ·rcases List.mem_append.1 hw with hw|hw
    ·exact hcl k i hci w (List.mem_reverse.1 hw)
    ·exact sm w hw
   ·rcases(ef gM).1 (cW.1 hu) with h|h
    ·have:u=k:=by omega
     subst this;rw[hci] at hj;cases hj;exact .inr (List.mem_append.2 (.inl (List.mem_reverse.2 hw)))
    ·rcases hi.a u j (cW.2 h) hj w hw with h|h
     ·exact .inl ((ef gM).2 (.inr h))
     ·rcases hp w h with h|h
      ·exact .inl ((ef gM).2 (.inl h))
      ·exact .inr (List.mem_append.2 (.inr h))
   ·rcases List.mem_append.1 hw with hw|hw
    ·exact .inr ⟨k,i,cW.2 ((ef gM).2 (.inl rfl)),hci,List.mem_reverse.1 hw⟩
    ·rcases hi.b w (List.mem_cons_of_mem _ hw) with h|⟨u,j,h1,h2,h3⟩
     ·exact .inl h
     ·exact .inr ⟨u,j,cW.2 ((ef gM).2 (.inr (cW.1 h1))),h2,h3⟩
   ·rcases(ef gM).1 hw with rfl|h
    ·rcases hi.b (k:Int) (List.mem_cons_self ..) with h|⟨u,j,h1,h2,h3⟩
     ·exact .inl h
     ·refine .inr ⟨u,j,cW.2 ((ef gM).2 (.inr (cW.1 h1))),h2,h3,fun e=>?_⟩;have:k=u:=by omega
      subst this;rw[hb] at h1;cases h1
    ·rcases hi.c w h with h|⟨u,j,h1,h2,h3,h4⟩
     ·exact .inl h
     ·exact .inr ⟨u,j,cW.2 ((ef gM).2 (.inr (cW.1 h1))),h2,h3,h4⟩
   ·rcases hi.d with h|h
    ·exact .inl ((ef gM).2 (.inr h))
    ·rcases hp start h with h|h
     ·exact .inl ((ef gM).2 (.inl h))
     ·exact .inr (List.mem_append.2 (.inr h))
theorem tz {code:List aG} {start:Int} (hcl:gS code) (gp:0≤start∧start<(code.length:Int)):wQ code start (cg code start) []:=by
 have l5:∀v,¬gX (List.replicate code.length false) v:=by
  rintro v ⟨h0,h⟩;rw[List.getElem?_replicate] at h
  split at h<;>cases h
 refine wo hcl _ _ _ (by simp) (fun v hv=>?_) (by simp) ⟨fun u i hu=>absurd (cW.1 hu) (l5 _),fun v hv=>?_,fun v hv=>absurd hv (l5 v),.inr (by simp)⟩
 ·simp only[List.mem_cons,List.not_mem_nil,or_false] at hv;subst hv;exact gp
 ·simp only[List.mem_cons,List.not_mem_nil,or_false] at hv;exact .inl hv
theorem ij:∀{L:List Bool} {s:Nat} {v:Int},v∈nV s L↔∃k:Nat,L[k]?=some true∧v=((s+k:Nat):Int)
 |[],s,v=>⟨fun h=>(by cases h),fun⟨k,h,_⟩=>by simp at h⟩
 |b::l,s,v=>by
  simp only[nV,List.mem_append];constructor
  ·rintro(h|h)
   ·split at h
    ·rename_i hb;simp only[List.mem_cons,List.not_mem_nil,or_false] at h;exact⟨0,by simp[hb],by rw[h];simp⟩
    ·cases h
   ·obtain⟨k,h1,h2⟩:=ij.1 h;exact⟨k+1,by simpa using h1,by rw[h2];congr 1;omega⟩
  ·rintro⟨k,h1,h2⟩
   cases k with
   |zero=>simp at h1;subst h1;left;simp[h2]
   |succ k=>exact .inr (ij.2 ⟨k,by simpa using h1,by rw[h2];congr 1;omega⟩)
theorem pK : ∀ (L : List Bool) (s : Nat), (nV s L).Pairwise (· < ·)
 | [], s => .nil
 | b :: l, s => by
  simp only [nV];have ih := pK l (s + 1)
  split
  ·rw [List.singleton_append, List.pairwise_cons];refine ⟨fun v hv => ?_, ih⟩;obtain ⟨k, _, rfl⟩ := ij.1 hv;omega
  ·exact ih
def cM (lo hi:Nat) (i:aG):Prop:=
 (i.op=1∧i.x=0∧i.y=0∧eA i.rs=true)∨(i.op=2∧i.rs=[]∧((lo:Int)≤i.x∧i.x≤hi)∧(lo:Int)≤i.y∧i.y≤hi)∨(i.op=3∧i.rs=[]∧i.y=0∧(lo:Int)≤i.x∧i.x≤hi)∨(i.op=4∧i.rs=[]∧i.y=0∧0≤i.x∧i.x<10)∨((i.op=5∨i.op=6)∧i.rs=[]∧i.y=0∧i.x=0)
theorem cM.mono {lo hi pZ gz:Nat} {i:aG} (h:cM lo hi i) (h1:pZ≤lo) (h2:hi≤gz):cM pZ gz i:=by
 rcases h with h|⟨a,b,c,d⟩|⟨a,b,c,d⟩|h|h
 ·exact .inl h
 ·exact .inr (.inl ⟨a,b,by omega,by omega⟩)
 ·exact .inr (.inr (.inl ⟨a,b,c,by omega⟩))
 ·exact .inr (.inr (.inr (.inl h)))
 ·exact .inr (.inr (.inr (.inr h)))
theorem cM.sp {lo hi s o:Nat} {lz:Bool} (h1:lo≤s+1∧s+1≤hi) (h2:lo≤o∧o≤hi):cM lo hi (lG s o lz):=by
 refine .inr (.inl ?_);cases lz
 ·refine⟨rfl,rfl,?_⟩;show((lo:Int)≤((s+1:Nat):Int)∧((s+1:Nat):Int)≤hi)∧(lo:Int)≤(o:Int)∧(o:Int)≤hi;omega
 ·refine⟨rfl,rfl,?_⟩;show((lo:Int)≤(o:Int)∧(o:Int)≤hi)∧(lo:Int)≤((s+1:Nat):Int)∧((s+1:Nat):Int)≤hi;omega
theorem cM.jp {lo hi e:Nat} (h1:lo≤e∧e≤hi):cM lo hi (kR e):=by
 refine .inr (.inr (.inl ⟨rfl,rfl,rfl,?_⟩));show(lo:Int)≤(e:Int)∧(e:Int)≤hi;omega
theorem cM.save {lo hi:Nat} {x:Int} (h:0≤x∧x<10):cM lo hi (cH 4 x 0 []):=.inr (.inr (.inr (.inl ⟨rfl,rfl,rfl,h⟩)))
theorem lN {c:Nat→List aG} {z:Nat} (hc:∀b,∀i∈c b,cM b (b+z) i):∀k b,∀i∈eB c z k b,cM b (b+k*z) i
 |0,b,i,hi=>by cases hi
 |k+1,b,i,hi=>by
  simp only[eB] at hi;rw[Nat.succ_mul]
  rcases List.mem_append.1 hi with hi|hi
  ·exact(hc b i hi).mono (Nat.le_refl _) (by omega)
  ·exact(lN hc k _ i hi).mono (by omega) (by omega)
theorem pI {sp:Nat→aG} {c:Nat→List aG} {z lo hi:Nat} (hs:∀s,lo≤s→s+1≤hi→cM lo hi (sp s)) (hc:∀b,∀i∈c b,cM b (b+z) i):∀k b,lo≤b→b+k*(z+1)≤hi→∀i∈ek sp c z k b,cM lo hi i
 |0,b,_,_,i,gz=>by cases gz
 |k+1,b,h1,h2,i,gz=>by
  simp only[ek] at gz;rw[Nat.succ_mul] at h2
  rcases List.mem_cons.1 gz with rfl|gz
  ·exact hs b h1 (by omega)
  ·rcases List.mem_append.1 gz with gz|gz
   ·exact(hc _ i gz).mono (by omega) (by omega)
   ·exact pI hs hc k _ (by omega) (by omega) i gz
def BO (l:List c_):Prop:=∀n∈l,n.op=2→eA n.rs=true
mutual
theorem iQ:∀(t:Tr) (b:Nat),t.ok→BO t.flat→∀i∈aO t b,cM b (b+t.sz) i
 | .mk n ks,b,a_,kT,i,hi=>by
  simp only[Tr.ok] at a_;simp only[Tr.flat] at kT;have hc:=fun b=>ra ks b a_.2 (fun n hn=>kT n (List.mem_cons_of_mem _ hn));obtain⟨_,hq⟩:=a_.1;simp only[aO] at hi;simp only[Tr.sz]
  by_cases q2:n.op=2
  ·rw[if_pos q2] at hi;simp only[List.mem_cons,List.not_mem_nil,or_false] at hi;subst hi;exact .inl ⟨rfl,rfl,rfl,kT n (List.mem_cons_self ..) q2⟩
  rw[if_neg q2] at hi
  by_cases q7:n.op=7
  ·rw[if_pos q7] at hi;simp only[List.mem_cons,List.not_mem_nil,or_false] at hi;subst hi;exact .inr (.inr (.inr (.inr ⟨.inl rfl,rfl,rfl,rfl⟩)))
  rw[if_neg q7] at hi
  by_cases q8:n.op=8
  ·rw[if_pos q8] at hi;simp only[List.mem_cons,List.not_mem_nil,or_false] at hi;subst hi;exact .inr (.inr (.inr (.inr ⟨.inr rfl,rfl,rfl,rfl⟩)))
  rw[if_neg q8] at hi
  have hz:∀s k,bD n s k=if n.op=4 then s+2*(k-1) else if n.op=6 then s+2 else if n.op=5 then(if n.mx=-1 then n.mn.toNat*s+s+2 else n.mn.toNat*s+(n.mx.toNat-n.mn.toNat)*(s+1)) else s:=by
   intro s k;unfold bD;rw[if_neg (by omega)]
  by_cases q3:n.op=3
  ·rw[if_pos q3] at hi;rw[hz,if_neg (by omega),if_neg (by omega),if_neg (by omega)];exact hc b i hi
  rw[if_neg q3] at hi
  by_cases q4:n.op=4
  ·rw[if_pos q4] at hi;have Mh:bD n ks.sz ks.len=ks.sz+2*(ks.len-1):=by rw[hz,if_pos q4]
   rw[Mh] at hi⊢;exact rf ks b (b+(ks.sz+2*(ks.len-1))) a_.2 (fun n hn=>kT n (List.mem_cons_of_mem _ hn)) (Nat.le_refl _) i hi
  rw[if_neg q4] at hi
  by_cases q5:n.op=5
  ·rw[if_pos q5] at hi;rw[hz,if_neg q4,if_neg (by omega),if_pos q5];unfold lL at hi
   by_cases qx:n.mx=-1
   ·rw[if_pos qx] at hi⊢
    rcases List.mem_append.1 hi with hi|hi
    ·exact(lN hc _ _ i hi).mono (Nat.le_refl _) (by omega)
    ·rcases List.mem_cons.1 hi with rfl|hi
     ·exact cM.sp (by omega) (by omega)
     ·rcases List.mem_append.1 hi with hi|hi
      ·exact(hc _ i hi).mono (by omega) (by omega)
      ·simp only[List.mem_cons,List.not_mem_nil,or_false] at hi;subst hi;exact cM.jp (by omega)
   ·rw[if_neg qx] at hi⊢
    rcases List.mem_append.1 hi with hi|hi
    ·exact(lN hc _ _ i hi).mono (Nat.le_refl _) (by omega)
    ·exact pI (fun s h1 h2=>cM.sp (by omega) (by omega)) hc _ _ (by omega) (by omega) i hi
  rw[if_neg q5] at hi
  by_cases q6:n.op=6
  ·rw[if_pos q6] at hi;rw[hz,if_neg q4,if_pos q6]
   rcases List.mem_cons.1 hi with rfl|hi
   ·exact cM.save (by omega)
   ·rcases List.mem_append.1 hi with hi|hi
    ·exact(hc _ i hi).mono (by omega) (by omega)
    ·simp only[List.mem_cons,List.not_mem_nil,or_false] at hi;subst hi;exact cM.save (by omega)
  ·rw[if_neg q6] at hi;cases hi
theorem ra:∀(ts:bu) (b:Nat),ts.ok→BO ts.flat→∀i∈eQ ts b,cM b (b+ts.sz) i
 | .nil,b,_,_,i,hi=>by simp[eQ] at hi
 | .cons t ts,b,a_,kT,i,hi=>by
  simp only[bu.ok] at a_;simp only[bu.flat] at kT;simp only[eQ] at hi;simp only[bu.sz]
  rcases List.mem_append.1 hi with hi|hi
  ·exact(iQ t b a_.1 (fun n hn=>kT n (List.mem_append_left _ hn)) i hi).mono (Nat.le_refl _) (by omega)
  ·exact(ra ts _ a_.2 (fun n hn=>kT n (List.mem_append_right _ hn)) i hi).mono (by omega) (by omega)
theorem rf:∀(ts:bu) (b e:Nat),ts.ok→BO ts.flat→b+(ts.sz+2*(ts.len-1))≤e→∀i∈dP (kR e) ts b,cM b e i
 | .nil,b,e,_,_,_,i,hi=>by simp[dP] at hi
 | .cons t ts,b,e,a_,kT,he,i,hi=>by
  simp only[bu.ok] at a_;simp only[bu.flat] at kT;simp only[dP] at hi;simp only[bu.sz,bu.len] at he;have h1:BO t.flat:=fun n hn=>kT n (List.mem_append_left _ hn);have h2:BO ts.flat:=fun n hn=>kT n (List.mem_append_right _ hn)
  by_cases q:ts.len=0
  ·rw[if_pos q] at hi;exact(iQ t b a_.1 h1 i hi).mono (Nat.le_refl _) (by omega)
  ·rw[if_neg q] at hi
   rcases List.mem_cons.1 hi with rfl|hi
   ·exact cM.sp (by omega) (by omega)
   ·rcases List.mem_append.1 hi with hi|hi
    ·exact(iQ t _ a_.1 h1 i hi).mono (by omega) (by omega)
    ·rcases List.mem_cons.1 hi with rfl|hi
     ·exact cM.jp (by omega)
     ·exact(rf ts _ e a_.2 h2 (by omega) i hi).mono (by omega) (by omega)
end
inductive Path (C:List aG):Nat→Nat→Prop where
 |refl (u:Nat):Path C u u
 |step {u v w:Nat} {i:aG} (h:C[u]?=some i) (hn:(v:Int)∈cu u i) (p:Path C v w):Path C u w
theorem Path.trans {C:List aG} {u v w:Nat} (h:Path C u v) (g:Path C v w):Path C u w:=by
 induction h with
 |refl=>exact g
 |step h hn _ ih=>exact .step h hn (ih g)
theorem Path.wh {C:List aG} {u:Nat} {i:aG} (h:C[u]?=some i) (ho:i.op≠2∧i.op≠3∧i.op≠7):Path C u (u+1):=
 .step h (by unfold cu;rw[if_neg ho.1,if_neg ho.2.1,if_neg ho.2.2];exact List.mem_cons_self ..) (.refl _)
theorem Path.jp {C:List aG} {u e:Nat} (h:C[u]?=some (kR e)):Path C u e:=
 .step h (by show(e:Int)∈cu u (cH 3 (e:Nat) 0 []);unfold cu;rw[if_neg (show¬(cH 3 (e:Nat) 0 []).op=2 by show¬(3:Int)=2;decide),if_pos (show(cH 3 (e:Nat) 0 []).op=3 from rfl)];exact List.mem_cons_self ..) (.refl _)
theorem Path.sp {C:List aG} {u s o:Nat} {lz:Bool} (h:C[u]?=some (lG s o lz)):Path C u (s+1)∧Path C u o:=by
 have hn:cu u (lG s o lz)=[(lG s o lz).x,(lG s o lz).y]:=by
  unfold cu;rw[if_pos (by cases lz<;>rfl)]
 cases lz
 ·exact⟨.step h (by rw[hn];exact List.mem_cons_self ..) (.refl _),.step h (by rw[hn];exact List.mem_cons_of_mem _ (List.mem_cons_self ..)) (.refl _)⟩
 ·exact⟨.step h (by rw[hn];exact List.mem_cons_of_mem _ (List.mem_cons_self ..)) (.refl _),.step h (by rw[hn];exact List.mem_cons_self ..) (.refl _)⟩
theorem lM {C:List aG} {c:Nat→List aG} {z:Nat} (hl:∀b,(c b).length=z) (hc:∀b,eL C b (c b)→Path C b (b+z)):∀k b,eL C b (eB c z k b)→Path C b (b+k*z)
 |0,b,_=>by rw[Nat.zero_mul];exact .refl _
 |k+1,b,h=>by
  rw[eB] at h;have h2:=h.right;rw[hl] at h2;have:=lM hl hc k (b+z) h2;rw[Nat.succ_mul,show b+(k*z+z)=b+z+k*z by omega];exact(hc b h.left).trans this
theorem y9 {C : List aG} : ∀ (m : Nat) (t : Tr), t.flat.length ≤ m → ∀ b : Nat, t.ok → eL C b (aO t b) → Path C b (b + t.sz) := by
  intro m
  induction m with
  | zero => intro t h; have := t.gr; omega
  | succ m ih =>
    rintro ⟨n, ks⟩ hm b a_ h
    simp only [Tr.flat, List.length_cons] at hm
    simp only [Tr.ok] at a_
    have hcat : ∀ (ts : bu) (b : Nat), ts.flat.length ≤ m → ts.ok → eL C b (eQ ts b) → Path C b (b + ts.sz) := by
      intro ts
      induction ts using bu.rec (motive_1 := fun _ => True) with
      | mk => trivial
      | nil => intro b _ _ _; exact .refl _
      | cons t ts _ xu =>
        intro b h1 h2 h3
        simp only [bu.flat, List.length_append] at h1
        simp only [bu.ok] at h2
        simp only [eQ] at h3
        have h4 := h3.right
        rw [b9 t b h2.1] at h4
        have h5 := xu (b + t.sz) (by omega) h2.2 h4
        simp only [bu.sz]
        rw [← Nat.add_assoc]
        exact (ih t (by omega) b h2.1 h3.left).trans h5
    obtain ⟨l5, kD⟩ := a_
    obtain ⟨_, hq⟩ := l5
    have gM := fun b => lj ks b kD
    simp only [aO] at h
    simp only [Tr.sz]
    have hz : ∀ s k, bD n s k = if n.op = 2 ∨ n.op = 7 ∨ n.op = 8 then 1 else if n.op = 4 then s + 2 * (k - 1) else if n.op = 6 then s + 2 else if n.op = 5 then (if n.mx = -1 then n.mn.toNat * s + s + 2 else n.mn.toNat * s + (n.mx.toNat - n.mn.toNat) * (s + 1)) else s := fun s k => rfl
    rw [hz]
    by_cases q2 : n.op = 2
    · rw [if_pos q2] at h
      rw [if_pos (.inl q2)]
      exact Path.wh h.head (by show (1 : Int) ≠ 2 ∧ (1 : Int) ≠ 3 ∧ (1 : Int) ≠ 7; decide)
    rw [if_neg q2] at h
    by_cases q7 : n.op = 7
    · rw [if_pos q7] at h
      rw [if_pos (.inr (.inl q7))]
      exact Path.wh h.head (by show (5 : Int) ≠ 2 ∧ (5 : Int) ≠ 3 ∧ (5 : Int) ≠ 7; decide)
    rw [if_neg q7] at h
    by_cases q8 : n.op = 8
    · rw [if_pos q8] at h
      rw [if_pos (.inr (.inr q8))]
      exact Path.wh h.head (by show (6 : Int) ≠ 2 ∧ (6 : Int) ≠ 3 ∧ (6 : Int) ≠ 7; decide)
    rw [if_neg q8] at h
    rw [if_neg (by omega)]
    by_cases q3 : n.op = 3
    · rw [if_pos q3] at h
      rw [if_neg (by omega), if_neg (by omega), if_neg (by omega)]
      exact hcat ks b (by omega) kD h
    rw [if_neg q3] at h
    by_cases q4 : n.op = 4
    · rw [if_pos q4] at h
      have Mh : bD n ks.sz ks.len = ks.sz + 2 * (ks.len - 1) := by rw [hz, if_neg (by omega), if_pos q4]
      rw [Mh] at h
      rw [if_pos q4]
      cases ks with
      | nil => simp only [bu.len] at hq; omega
      | cons t ts =>
        simp only [bu.len] at hq
        simp only [bu.flat, List.length_append] at hm
        simp only [bu.ok] at kD
        simp only [dP] at h
        rw [if_neg (by omega)] at h
        have h1 := (Path.sp h.head).1
        have h2 := ih t (by omega) (b + 1) kD.1 h.tail.left
        have h3 := h.tail.right
        rw [b9 t _ kD.1] at h3
        exact h1.trans (h2.trans (Path.jp h3.head))
    rw [if_neg q4] at h
    rw [if_neg q4]
    by_cases q5 : n.op = 5
    · rw [if_pos q5] at h
      rw [if_neg (by omega), if_pos q5]
      unfold lL at h
      by_cases qx : n.mx = -1
      · rw [if_pos qx] at h ⊢
        have h1 := lM gM (fun b hb => hcat ks b (by omega) kD hb) _ _ h.left
        have h2 := h.right
        rw [ic gM] at h2
        have h3 := (Path.sp h2.head).2
        rw [show b + (n.mn.toNat * ks.sz + ks.sz + 2) = b + n.mn.toNat * ks.sz + ks.sz + 2 by omega]
        exact h1.trans h3
      · rw [if_neg qx] at h ⊢
        have h1 := lM gM (fun b hb => hcat ks b (by omega) kD hb) _ _ h.left
        have h2 := h.right
        rw [ic gM] at h2
        by_cases hd : n.mx.toNat - n.mn.toNat = 0
        · rw [hd, Nat.zero_mul, Nat.add_zero]; exact h1
        · obtain ⟨d, vd⟩ : ∃ d, n.mx.toNat - n.mn.toNat = d + 1 := ⟨n.mx.toNat - n.mn.toNat - 1, by omega⟩
          rw [vd] at h2 ⊢
          rw [ek] at h2
          have h3 := (Path.sp h2.head).2
          rw [← Nat.add_assoc]
          exact h1.trans h3
    rw [if_neg q5] at h
    by_cases q6 : n.op = 6
    · rw [if_pos q6] at h
      rw [if_pos q6]
      have h1 : Path C b (b + 1) := Path.wh h.head (by show (4 : Int) ≠ 2 ∧ (4 : Int) ≠ 3 ∧ (4 : Int) ≠ 7; decide)
      have h2 := hcat ks (b + 1) (by omega) kD h.tail.left
      have h3 := h.tail.right
      rw [gM] at h3
      have h4 : Path C (b + 1 + ks.sz) (b + 1 + ks.sz + 1) := Path.wh h3.head (by show (4 : Int) ≠ 2 ∧ (4 : Int) ≠ 3 ∧ (4 : Int) ≠ 7; decide)
      rw [show b + (ks.sz + 2) = b + 1 + ks.sz + 1 by omega]
      exact h1.trans (h2.trans h4)
    · have v_ : ks.len = 0 := by omega
      have := bu.len_nil v_
      subst this
      rw [if_neg q6, if_neg q5]
      exact .refl _
theorem wu {code:List aG} {I:Nat→Prop} (hI:∀u i,I u→code[u]?=some i→∀v∈cu u i,I v.toNat):∀(f:Nat) (seen:List Bool) (fM:List Int),(∀v∈fM,I v.toNat)→(∀u:Nat,seen[u]?=some true→I u)→∀u:Nat,(wv code f seen fM)[u]?=some true→I u
 |0,seen,fM,_,h2,u,h=>h2 u h
 |f+1,seen,[],_,h2,u,h=>h2 u h
 |f+1,seen,v::fM,h1,h2,u,h=>by
  have hv:=h1 v (List.mem_cons_self ..);have hs:∀w∈fM,I w.toNat:=fun w hw=>h1 w (List.mem_cons_of_mem _ hw);unfold wv at h
  split at h
  ·split at h
   ·rename_i i hi;refine wu hI f _ _ (fun w hw=>?_) (fun w hw=>?_) u h
    ·rcases List.mem_append.1 hw with hw|hw
     ·exact hI _ i hv hi w (List.mem_reverse.1 hw)
     ·exact hs w hw
    ·by_cases he:v.toNat=w
     ·rw[←he];exact hv
     ·rw[List.getElem?_set_ne he] at hw;exact h2 w hw
   ·exact h2 u h
  ·exact wu hI f _ _ hs h2 u h
theorem yu {code:List aG} {start:Int} (hcl:gS code) (gp:0≤start∧start<(code.length:Int)) {u v:Nat} (p:Path code u v):(cg code start)[u]?=some true→(cg code start)[v]?=some true:=by
 obtain⟨ha,_,_,_⟩:=tz hcl gp
 induction p with
 |refl=>exact id
 |@step u v w i h hn _ ih=>
  intro hu;refine ih ?_
  rcases ha u i hu h _ hn with hs|hs
  ·exact cW.2 hs
  ·cases hs
theorem tx {code:List aG} {s:Nat} (hcl:gS code) (hs:s<code.length):(cg code (s:Nat))[s]?=some true:=by
 obtain⟨_,_,_,hd⟩:=tz (start:=((s:Nat):Int)) hcl ⟨by omega,by omega⟩
 rcases hd with hd|hd
 ·exact cW.2 hd
 ·cases hd
mutual
theorem Tr.Ot:∀t:Tr,True
 | .mk _ _=>trivial
theorem bu.Ot:∀t:bu,True
 | .nil=>trivial
 | .cons _ _=>trivial
end
theorem zJ {n:c_} {g:Int} (h:(ez n g).2=true) (h2:n.op=2):eA n.rs=true:=by
 unfold ez at h
 split at h
 ·cases h
 ·rw[if_neg (show¬(n.op=1∨n.op=7∨n.op=8) by omega)] at h;have h:(n.kids==0 &&eA n.rs)=true:=h;rw[Bool.and_eq_true] at h;exact h.2
theorem xt {l:List c_} {h:Nat→Nat→Option (Nat×Nat)} (ih:∀at_ g r,h at_ g=some r→at_≤r.1∧∀j n,at_≤j→j<r.1→l[j]?=some n→n.op=2→eA n.rs=true):∀k at_ g r,ir h k at_ g=some r→at_≤r.1∧∀j n,at_≤j→j<r.1→l[j]?=some n→n.op=2→eA n.rs=true
 |0,at_,g,r,e=>by
  simp only[ir,Option.some.injEq] at e;subst e;exact⟨Nat.le_refl _,fun j n h1 h2=>by simp only at h2;omega⟩
 |k+1,at_,g,r,e=>by
  unfold ir at e
  cases hq:h at_ g with
  |none=>rw[hq] at e;cases e
  |some q=>
   rw[hq] at e;obtain⟨t1,t2⟩:=ih _ _ _ hq;obtain⟨u1,u2⟩:=xt ih k _ _ _ e;refine⟨Nat.le_trans t1 u1,fun j n h1 h2 hj ho=>?_⟩
   by_cases Va:j<q.1
   ·exact t2 j n h1 Va hj ho
   ·exact u2 j n (by omega) h2 hj ho
theorem Af {l:List c_}:∀f at_ g r,gi l f at_ g=some r→at_≤r.1∧∀j n,at_≤j→j<r.1→l[j]?=some n→n.op=2→eA n.rs=true
 |0,_,_,_,e=>by simp[gi] at e
 |f+1,at_,g,r,e=>by
  unfold gi at e
  cases hn:l[at_]? with
  |none=>rw[hn] at e;cases e
  |some n=>
   rw[hn] at e;simp only at e
   split at e
   ·rename_i hs;obtain⟨u1,u2⟩:=xt (Af f) _ _ _ _ e;refine⟨by omega,fun j m h1 h2 hj ho=>?_⟩
    by_cases Vc:j=at_
    ·subst Vc;rw[hn] at hj;cases hj;exact zJ hs ho
    ·exact u2 j m (by omega) h2 hj ho
   ·cases e
theorem zO {l:List c_} (h:e_ l=true):BO l:=by
 unfold e_ at h;simp only[Bool.and_eq_true] at h;obtain⟨_,h⟩:=h
 split at h
 ·rename_i r hr;rw[decide_eq_true_eq] at h;obtain⟨_,h2⟩:=Af _ _ _ _ hr;intro n hn ho;obtain⟨j,hj⟩:=List.getElem?_of_mem hn;exact h2 j n (Nat.zero_le _) (by rw[h];exact bt hj) hj ho
 ·cases h
structure K1 (n0 r0:Nat) (C:List aG) (B:List Int) (k:Nat):Prop where
 bl:B.length=k
 fs:0<k→B[0]?=some ((n0:Nat):Int)
 el:∀j,j<k→∃(t:Tr) (b:Nat),t.ok∧BO t.flat∧B[j]?=some (b:Int)∧n0≤b∧(∀b':Int,B[j+1]?=some b'→b'=((b+t.sz+3:Nat):Int))∧(j+1=k→n0+C.length=b+t.sz+3)∧∃pre post,C=pre++dQ t b (r0+j)++post∧n0+pre.length=b
 al:∀i q,C[i]?=some q→∃j,j<k∧∃(t:Tr) (b:Nat),B[j]?=some (b:Int)∧t.ok∧BO t.flat∧b≤n0+i∧n0+i<b+t.sz+3∧b+t.sz+3≤n0+C.length∧q∈dQ t b (r0+j)∧(dQ t b (r0+j))[n0+i-b]?=some q
theorem oR:∀(ls:List (List c_)) (r:Nat) (c:List aG) (s:List Int),(dU ls r c s).e=0→∃C B,(dU ls r c s).code=c++C∧(dU ls r c s).az=s++B∧K1 c.length r C B ls.length
 |[],r,c,s,h=>by
  rw[wC];exact⟨[],[],by simp,by simp,rfl,fun h=>by simp at h,fun j hj=>by simp at hj,fun i q hi=>by simp at hi⟩
 |l::ls,r,c,s,h=>by
  rw[dU] at h⊢
  by_cases hr:e_ l=false
  ·rw[if_pos hr] at h;cases h
  rw[if_neg hr] at h⊢;rw[Bool.not_eq_false] at hr
  by_cases hb:400<c.length+min (ct l).sz 401+3
  ·rw[if_pos hb] at h;cases h
  rw[if_neg hb] at h⊢;obtain⟨t1,t2⟩:=rm hr;have kT:BO (ct l).flat:=by rw[t2];exact zO hr
  have hlen:=jK (b:=c.length) (r:=r) t1;obtain⟨C,B,h1,h2,h3⟩:=oR ls (r+1) _ _ h;rw[List.length_append,hlen] at h3;refine⟨dQ (ct l) c.length r++C,((c.length:Nat):Int)::B,by rw[h1,List.append_assoc],by rw[h2,List.append_assoc];rfl,by simp[h3.bl],fun _=>rfl,fun j hj=>?_,fun i q hi=>?_⟩
  ·cases j with
   |zero=>
    refine⟨ct l,c.length,t1,kT,rfl,Nat.le_refl _,fun b' dw=>?_,fun Kg=>?_,[],C,by simp,by simp⟩
    ·simp only[Nat.zero_add,List.getElem?_cons_succ] at dw;have hB:=h3.bl;have hlt:=bt dw;rw[h3.fs (by omega)] at dw;cases dw
     congr 1
    ·simp only[List.length_cons] at Kg;have K':ls.length=0:=by omega
     have hC:C=[]:=by
      cases hc:C with
      |nil=>rfl
      |cons q C'=>
       obtain⟨j,hj,_⟩:=h3.al 0 q (by rw[hc];rfl);omega
     rw[hC,List.append_nil,hlen];omega
   |succ j=>
    simp only[List.length_cons] at hj;obtain⟨t,b,q1,q2,q3,q4,q5,q6,pre,post,q7,q8⟩:=h3.el j (by omega);refine⟨t,b,q1,q2,q3,by omega,q5,fun Kg=>?_,dQ (ct l) c.length r++pre,post,?_,?_⟩
    ·simp only[List.length_cons] at Kg;have:=q6 (by omega);rw[List.length_append,hlen];omega
    ·rw[q7,show r+1+j=r+(j+1) by omega];simp only[List.append_assoc]
    ·rw[List.length_append,hlen];omega
  ·by_cases hil:i<(dQ (ct l) c.length r).length
   ·rw[List.getElem?_append_left hil] at hi;refine⟨0,by simp,ct l,c.length,rfl,t1,kT,by omega,by omega,by rw[List.length_append,hlen];omega,List.mem_of_getElem? hi,?_⟩;rw[show c.length+i-c.length=i by omega];exact hi
   ·rw[List.getElem?_append_right (by omega)] at hi;obtain⟨j,q1,t,b,q2,q3,q4,q5,q6,q7,q8,q9⟩:=h3.al _ q hi;rw[hlen] at q5 q6 q9 hil;refine⟨j+1,by simp only[List.length_cons];omega,t,b,q2,q3,q4,by omega,by omega,by rw[List.length_append,hlen];omega,by rw[show r+(j+1)=r+1+j by omega];exact q8,?_⟩;rw[show r+(j+1)=r+1+j by omega,show c.length+i-b=c.length+((ct l).sz+3)+(i-((ct l).sz+3))-b by omega];exact q9
end Go.Proofs.Ytbdnabmmlbiomaa
