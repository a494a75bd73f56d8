/-
 The code of a repeat. %deep
-/
import Derived.Test.YtbdilgkfnacahaaGreatXGQd
import Derived.Test.YtbdilgkfnacahaaGreatXGPi
import Derived.Test.YtbdilgkfnacahaaGreatXGUb
set_option maxRecDepth 100000
set_option maxHeartbeats 4000000
set_option linter.unusedSimpArgs false
set_option linter.unusedVariables false
namespace Go.Proofs.YtbdilgkfnacahaaGreat
open Go.V Go
def aa (fr:Go.V.Fr) (k:Nat):Go.V.D:=Go.V.nth .bu fr.loc k
theorem pX {c:Nat→List aL} (hc:∀b,(c b).length=0) (z:Nat):∀k b,eG c z k b=[]
 |0,_=>rfl
 |k+1,b=>by rw[eG,pX hc z k,List.length_eq_zero_iff.1 (hc b)];rfl
theorem zW (s o:Nat) (lz:Bool):∃x y:Int,l3 s o lz=cJ 2 x y []:=by
 cases lz
 ·exact⟨_,_,rfl⟩
 ·exact⟨_,_,rfl⟩
theorem yD {l:List da} (vt:l.length≤1048576) {m:Nat} (ih:∀t:Tr,t.flat.length≤m→pw l t) {n:da} {t:Tr} (fe:n.op=5) (Tm:t.flat.length≤m) (kP:ud n 1) (pH:t.ok) {N k:Nat} {S s0:St} {H:List bF} {nd zd ed:D} {code:List aL} {Z E:List Int} {at_:Nat} (hF:S.flr≤N) (wu:e_ nd 7 (l.map bd)) (gQ:eS l at_ (n::t.flat)) (hsz:eS Z (at_+1) t.zs) (th:eS E (at_+1) (t.es (at_+1))) (hb:code.length+bH n t.sz 1≤1000000) (hM:L_ N S s0 k nd zd ed Z E H code):
  ∃r ah,Ev pv 82 [.ptr k 0 0,.int .i64 (at_:Nat)] s0 r ah∧r=.tup []∧L_ N S ah k nd zd ed Z E H (code++l8 n (aQ t) t.sz code.length):=by
 obtain⟨cd,dk,hH⟩:=hM;have hle:=gQ.le (by simp);simp only[List.length_cons] at hle;have hn:=gQ.head;have gQ:=gQ.tail;have gk:=kf hn;have oQ:=dW (w_ hsz)
 have zD:0≤n.mn∧n.mn≤30∧(n.mx=-1∨(n.mn≤n.mx∧n.mx≤30)):=by
  obtain⟨_,hq⟩:=kP;omega
 have Gh:bH n t.sz 1=if n.mx=-1 then n.mn.toNat*t.sz+t.sz+2 else n.mn.toNat*t.sz+(n.mx.toNat-n.mn.toNat)*(t.sz+1):=by unfold bH;rw[if_neg (by omega),if_neg (by omega),if_neg (by omega),if_pos fe]
 rw[Gh] at hb;clear Gh;have yX:=fun b=>ck t b pH;have hb1:code.length+n.mn.toNat*t.sz≤1000000:=by split at hb<;>omega
 refine Ev.i7 rfl Rn rfl rfl rfl ?_;dsimp only[u3,u4,List.length,Nat.reduceSub,Nat.reduceAdd,w1,w2];change af _ _ _ _ s0 _;have hc:=wu.arg N S;refine qq<|qj fun K hK=>qm ?_;refine qg ?_;refine qp (o:=1) ?_;refine ql hH ax ?_;refine qm ?_;refine qr fun Pk K0=>?_;refine ab.cY rfl (ev rfl) (by assumption) rfl (by dsimp only[Fr.put,u1,u2]<;>rfl) ?_;refine qm ?_;refine qA ?_;refine qa hH fun k4 st NM hH=>?_;refine qS hH ax fun st hH=>?_;dsimp only[u2,u1,u3,u4,setMany,u5,u6,D.cells,Nat.reduceAdd,aB,bd,av,jH] at hH;refine qm ?_;refine qe hK ?_;have hH:Has N S st (.box k (.mem 0 false [cd,nd,zd,ed])::.deep dk cd 4 (code.map aB)::.aM zd 1 (Z.map av)::.aM ed 1 (E.map av)::.box k4 (.mem 0 false (bd n))::H):=hH.FB;refine qq<|qq<|qj fun K hK=>qm ?_;refine qg ?_;refine qp (o:=2) ?_;refine ql hH ax ?_;refine qm ?_;refine qi hH dp fun LS y3=>?_;refine qo hH dp ?_;refine qg ?_;refine qe hK ?_;have Wx:=iA yX n.mn.toNat code.length;refine af.merge (fun fr st=>∃(cd:D) (dk:Nat→Prop) (tmp:List (Nat×D)),fr=⟨78,[.ptr k 0 0,.int .i64 (at_:Nat),aa fr 2,aa fr 3,.ptr k4 0 0,.int .i64 ((at_+1:Nat):Int),aa fr 6,aa fr 7,aa fr 8,aa fr 9,aa fr 10,aa fr 11,aa fr 12,aa fr 13,aa fr 14,aa fr 15,aa fr 16,aa fr 17,aa fr 18,aa fr 19,aa fr 20,aa fr 21,aa fr 22,aa fr 23,aa fr 24,aa fr 25,aa fr 26,aa fr 27,aa fr 28,aa fr 29,aa fr 30,aa fr 31,aa fr 32,aa fr 33,aa fr 34,aa fr 35,aa fr 36,aa fr 37,aa fr 38,aa fr 39,aa fr 40,aa fr 41,aa fr 42,aa fr 43,aa fr 44,aa fr 45,aa fr 46,aa fr 47,aa fr 48,aa fr 49,aa fr 50,aa fr 51,aa fr 52,aa fr 53,aa fr 54,aa fr 55,aa fr 56,aa fr 57,aa fr 58,aa fr 59,aa fr 60,aa fr 61,aa fr 62,aa fr 63,aa fr 64,aa fr 65,aa fr 66,aa fr 67,aa fr 68,aa fr 69,aa fr 70,aa fr 71,aa fr 72,aa fr 73,aa fr 74,aa fr 75,aa fr 76,aa fr 77],tmp⟩∧Has N S st (.box k (.mem 0 false [cd,nd,zd,ed])::.deep dk cd 4 ((code++eG (aQ t) t.sz n.mn.toNat code.length).map aB)::.aM zd 1 (Z.map av)::.aM ed 1 (E.map av)::.box k4 (.mem 0 false (bd n))::H)) ?_ ?_
 ·refine af.cond (by rfl) (fun hz=>?_) (fun hz=>?_)<;>try simp only[decide_eq_true_eq,decide_eq_false_iff_not] at hz
  ·refine qq<|qj fun K hK=>qp (o:=2) ?_;refine ql hH fT ?_;refine qm ?_;refine qe hK<|af.block<|af.loop (fun mm fr st=>∃(i:Nat) (cd:D) (dk:Nat→Prop) (aW:List aL),fr.clean=⟨78,[.ptr k 0 0,.int .i64 (at_:Nat),aa fr 2,aa fr 3,.ptr k4 0 0,.int .i64 ((at_+1:Nat):Int),aa fr 6,aa fr 7,aa fr 8,aa fr 9,aa fr 10,aa fr 11,aa fr 12,aa fr 13,aa fr 14,aa fr 15,aa fr 16,aa fr 17,aa fr 18,aa fr 19,aa fr 20,aa fr 21,aa fr 22,aa fr 23,aa fr 24,aa fr 25,aa fr 26,aa fr 27,.int .i64 n.mn,.int .i64 (i:Nat),aa fr 30,aa fr 31,aa fr 32,aa fr 33,aa fr 34,aa fr 35,aa fr 36,aa fr 37,aa fr 38,aa fr 39,aa fr 40,aa fr 41,aa fr 42,aa fr 43,aa fr 44,aa fr 45,aa fr 46,aa fr 47,aa fr 48,aa fr 49,aa fr 50,aa fr 51,aa fr 52,aa fr 53,aa fr 54,aa fr 55,aa fr 56,aa fr 57,aa fr 58,aa fr 59,aa fr 60,aa fr 61,aa fr 62,aa fr 63,aa fr 64,aa fr 65,aa fr 66,aa fr 67,aa fr 68,aa fr 69,aa fr 70,aa fr 71,aa fr 72,aa fr 73,aa fr 74,aa fr 75,aa fr 76,aa fr 77],[]⟩∧Has N S st (.box k (.mem 0 false [cd,nd,zd,ed])::.deep dk cd 4 (aW.map aB)::.aM zd 1 (Z.map av)::.aM ed 1 (E.map av)::.box k4 (.mem 0 false (bd n))::H)∧(i+mm=n.mn.toNat)∧(aW++eG (aQ t) t.sz mm aW.length=code++eG (aQ t) t.sz n.mn.toNat code.length)∧(aW.length+mm*t.sz=code.length+n.mn.toNat*t.sz)) (n.mn.toNat) ?_ ?_
   ·exact⟨0,cd,dk,code,rfl,hH,by omega,rfl,rfl⟩
   rintro mm fr st ⟨i,cd,dk,aW,hfr,hH,hi,xP,hcl⟩;rw[hfr];clear hfr;generalize aa fr=ee;clear fr;refine qq<|qj fun K hK=>qg ?_;refine qe hK ?_
   cases mm with
   |zero=>
    have gS:decide ((i:Int)<n.mn)=false:=by rw[decide_eq_false_iff_not];omega
    refine qq<|qE rfl (by rw[gS]) ?_;simp only[eG,List.append_nil] at xP;rw[xP] at hH;refine af.exit ?_;exact⟨cd,dk,_,rfl,hH⟩
   |succ mm=>
    have gS:decide ((i:Int)<n.mn)=true:=by rw[decide_eq_true_eq];omega
    rw[Nat.succ_mul] at hcl;refine qq<|qD rfl (by rw[gS]) ?_;refine af.skip<|qq<|af.block<|qj fun K hK=>qm ?_;refine qm ?_;obtain⟨_,st,aI,rfl,cd,dk,hH⟩:=ih t (by omega) hF wu gQ hsz th pH (by omega) ⟨cd,dk,hH⟩;refine qv aI ?_;refine qe hK<|qj fun K hK=>qA ?_;refine qm ?_;refine qe hK ?_;exact⟨mm,by omega,⟨i+1,cd,dk,aW++aQ t aW.length,rfl,hH,by omega,by rw[List.length_append,yX,List.append_assoc];exact xP,by rw[List.length_append,yX];omega⟩⟩
  ·refine af.skip ?_;have hz0:t.sz=0:=by omega
   have Wz:eG (aQ t) t.sz n.mn.toNat code.length=[]:=pX (fun b=>by rw[yX,hz0]) _ _ _;exact⟨cd,dk,_,rfl,(by rw[Wz,List.append_nil];exact hH)⟩
 ·rintro fr st ⟨cd,dk,tmp,hfr,hH⟩;rw[hfr];clear hfr;generalize aa fr=ee;clear fr;have OR:(code++eG (aQ t) t.sz n.mn.toNat code.length).length=code.length+n.mn.toNat*t.sz:=by rw[List.length_append,Wx]
  unfold l8;rw[←OR];rw[←OR] at hb1
  have hb2:if n.mx=-1 then(code++eG (aQ t) t.sz n.mn.toNat code.length).length+t.sz+2≤1000000 else(code++eG (aQ t) t.sz n.mn.toNat code.length).length+(n.mx.toNat-n.mn.toNat)*(t.sz+1)≤1000000:=by
   rw[OR];split
   ·rename_i h;rw[if_pos h] at hb;omega
   ·rename_i h;rw[if_neg h] at hb;omega
  have Gt:∀X:List aL,code++(eG (aQ t) t.sz n.mn.toNat code.length++X)=code++eG (aQ t) t.sz n.mn.toNat code.length++X:=fun X=>by rw[List.append_assoc]
  simp only[apply_ite (fun X:List aL=>code++X),Gt];clear Gt OR;generalize code++eG (aQ t) t.sz n.mn.toNat code.length=cR at*;refine qq<|qq<|qj fun K hK=>qp (o:=3) ?_;refine ql hH fT ?_;refine qg ?_;refine qe hK ?_
  by_cases Ah:n.mx=-1
  ·rw[if_pos Ah];rw[if_pos Ah] at hb2;refine qD rfl (by simp[Ah]) ?_;refine qq<|qj fun K hK=>qm ?_;refine ab.go (d:=.agg [.int .i64 2,.int .i64 0,.int .i64 0,.nul]) (st1:=_) rfl rfl rfl (by dsimp only[Fr.put,u1,u2]<;>rfl) ?_;have hH:=hH.dP 2;obtain⟨_,st,aI,rfl,cd,dk,hH⟩:=fI (rs:=[]) hF (by omega) hH;refine qv aI ?_;refine qm ?_;refine qe hK ?_;have lD:(cR++[cJ 2 0 0 []]).length=cR.length+1:=by simp
   refine qq<|qj fun K hK=>qm ?_;refine qm ?_;obtain⟨_,st,aI,rfl,cd,dk,hH⟩:=ih t (by omega) hF wu gQ hsz th pH (by omega) ⟨cd,dk,hH⟩;refine qv aI ?_;refine qe hK ?_;rw[lD] at hH;have mD:(cR++[cJ 2 0 0 []]++aQ t (cR.length+1)).length=cR.length+1+t.sz:=by rw[List.length_append,lD,yX]
   refine qq<|qj fun K hK=>qm ?_;refine qm ?_;refine ab.go (d:=.agg [.int .i64 3,.int .i64 (cR.length:Nat),.int .i64 0,.nul]) (st1:=_) rfl rfl rfl (by dsimp only[Fr.put,u1,u2]<;>rfl) ?_;have hH:=hH.dP 2;obtain⟨_,st,aI,rfl,cd,dk,hH⟩:=fI (rs:=[]) hF (by omega) hH;refine qv aI ?_;refine qe hK ?_
   have Lo:(cR++[cJ 2 0 0 []]++aQ t (cR.length+1)++[cJ 3 (cR.length:Nat) 0 []])[cR.length]?=some (cJ 2 0 0 []):=by
    rw[List.append_assoc,List.append_assoc];exact nS _ _ _
   have Bn:(cR++[cJ 2 0 0 []]++aQ t (cR.length+1)++[cJ 3 (cR.length:Nat) 0 []]).length=cR.length+t.sz+2:=by rw[List.length_append,mD];simp only[List.length_cons,List.length_nil];omega
   have F8:(cR++[cJ 2 0 0 []]++aQ t (cR.length+1)++[cJ 3 (cR.length:Nat) 0 []]).set cR.length (l3 cR.length (cR.length+t.sz+2) n.lz)=cR++(l3 cR.length (cR.length+t.sz+2) n.lz::(aQ t (cR.length+1)++[ly cR.length])):=by
    rw[List.append_assoc,List.append_assoc];exact nK _ _ _ _
   generalize cR++[cJ 2 0 0 []]++aQ t (cR.length+1)++[cJ 3 (cR.length:Nat) 0 []]=BH at*;refine qq<|qj fun K hK=>qm ?_;refine qm ?_;refine qm ?_;refine qg ?_;refine qp (o:=0) ?_;refine ql hH ax ?_;refine ab.zj hH rfl (ev rfl) (by exact bC) rfl (by dsimp only[Fr.put,u1,u2]<;>rfl) ?_;simp only[List.length_map,List.length_append,List.length_cons,List.length_nil];refine qp (o:=4) ?_;refine ql hH fT ?_;obtain⟨_,st,aI,rfl,hH⟩:=nY (at_:=cR.length) (over:=BH.length) (lz:=n.lz) Lo (by omega) hH;refine qv aI ?_;refine qe hK ?_;rw[Bn,F8] at hH;refine af.ret ⟨rx,_,_,_,rfl,rfl,?_⟩;exact⟨rfl,cd,dk,hH.erase 4⟩
  ·rw[if_neg Ah];rw[if_neg Ah] at hb2;refine qE rfl (by simp[Ah]) ?_;refine af.skip ?_;obtain⟨a,ha⟩:∃a:Nat,n.mn=(a:Int):=Int.eq_ofNat_of_zero_le zD.1;obtain⟨b,N3⟩:∃b:Nat,n.mx=(b:Int):=Int.eq_ofNat_of_zero_le (by omega);have QT:n.mx.toNat-n.mn.toNat=b-a:=by omega
   rw[QT] at hb2⊢;refine qq<|qj fun K hK=>qm ?_;refine qe hK<|qq<|qq<|qj fun K hK=>qp (o:=3) ?_;refine ql hH fT ?_;refine qp (o:=2) ?_;refine ql hH fT ?_;refine ab.nv (z:=((b-a:Nat):Int)) rfl (ev rfl) (ev rfl) (by(try simp only[List.length_reverse,List.length_cons,List.length_nil,List.length_append,List.length_map,List.length_set]);rw[wrap_i64 (by omega) (by omega)]<;>omega) (by dsimp only[Fr.put,u1,u2]<;>rfl) ?_;refine qm ?_;refine qe hK ?_;have hH:Has N S st (.box k (.mem 0 false [cd,nd,zd,ed])::.deep dk cd 4 (cR.map aB)::.aM zd 1 (Z.map av)::.aM ed 1 (E.map av)::.aM .nul 1 (([]:List Nat).map jH)::.box k4 (.mem 0 false (bd n))::H):=(hH.dP 1).FB;refine af.block<|af.loop (fun mm fr st=>∃(i:Nat) (cd jd:D) (dk:Nat→Prop) (aW:List aL) (js:List Nat),fr.clean=⟨78,[.ptr k 0 0,.int .i64 (at_:Nat),aa fr 2,aa fr 3,.ptr k4 0 0,.int .i64 ((at_+1:Nat):Int),aa fr 6,jd,aa fr 8,aa fr 9,aa fr 10,aa fr 11,aa fr 12,aa fr 13,aa fr 14,aa fr 15,aa fr 16,aa fr 17,aa fr 18,aa fr 19,aa fr 20,aa fr 21,aa fr 22,aa fr 23,aa fr 24,aa fr 25,aa fr 26,aa fr 27,aa fr 28,aa fr 29,aa fr 30,aa fr 31,aa fr 32,aa fr 33,aa fr 34,aa fr 35,aa fr 36,aa fr 37,aa fr 38,aa fr 39,aa fr 40,aa fr 41,aa fr 42,aa fr 43,aa fr 44,aa fr 45,aa fr 46,aa fr 47,aa fr 48,aa fr 49,aa fr 50,aa fr 51,aa fr 52,aa fr 53,aa fr 54,aa fr 55,aa fr 56,aa fr 57,aa fr 58,aa fr 59,aa fr 60,aa fr 61,.int .i64 ((b-a:Nat):Int),.int .i64 (i:Nat),aa fr 64,aa fr 65,aa fr 66,aa fr 67,aa fr 68,aa fr 69,aa fr 70,aa fr 71,aa fr 72,aa fr 73,aa fr 74,aa fr 75,aa fr 76,aa fr 77],[]⟩∧Has N S st (.box k (.mem 0 false [cd,nd,zd,ed])::.deep dk cd 4 (aW.map aB)::.aM zd 1 (Z.map av)::.aM ed 1 (E.map av)::.aM jd 1 (js.map jH)::.box k4 (.mem 0 false (bd n))::H)∧(i+mm=b-a)∧(aW++ez (fun _=>cJ 2 0 0 []) (aQ t) t.sz mm aW.length=cR++ez (fun _=>cJ 2 0 0 []) (aQ t) t.sz (b-a) cR.length)∧(js++tW t.sz mm aW.length=tW t.sz (b-a) cR.length)∧(aW.length+mm*(t.sz+1)=cR.length+(b-a)*(t.sz+1))∧(js.length=i)) (b-a) ?_ ?_
   ·exact⟨0,cd,.nul,dk,cR,[],rfl,hH,by omega,rfl,rfl,rfl,rfl⟩
   rintro mm fr st ⟨i,cd,jd,dk,aW,js,hfr,hH,hi,gG,hjs,hcl,iR⟩;rw[hfr];clear hfr;generalize aa fr=ee;clear fr;refine qq<|qj fun K hK=>qg ?_;refine qe hK ?_
   cases mm with
   |zero=>
    have gS:decide ((i:Int)<((b-a:Nat):Int))=false:=by rw[decide_eq_false_iff_not];omega
    refine qq<|qE rfl (by rw[gS]) ?_;refine af.exit<|qq<|qj fun K hK=>qm ?_;refine qn ?_ (hR:=hH.rows fT);simp only[List.length_map];refine qm ?_;refine qe hK ?_;simp only[ez,tW,List.append_nil] at gG hjs;rw[gG] at hH;obtain⟨Cc,G4⟩:=ma (sp:=fun s=>l3 s (cR.length+(b-a)*(t.sz+1)) n.lz) yX (i0:=cJ 2 0 0 []) (b-a) cR.length cR [] rfl;simp only[List.append_nil] at Cc G4;have Q7:(cR++ez (fun _=>cJ 2 0 0 []) (aQ t) t.sz (b-a) cR.length).length=cR.length+(b-a)*(t.sz+1):=by rw[List.length_append,ou yX]
    rw[←hjs] at Cc G4;rw[←Cc];clear Cc gG;generalize cR++ez (fun _=>cJ 2 0 0 []) (aQ t) t.sz (b-a) cR.length=C0 at*;generalize cR.length+(b-a)*(t.sz+1)=e at*;refine af.block<|af.loop (fun mm fr st=>∃(q:Nat) (C:List aL),fr.clean=⟨78,[.ptr k 0 0,aa fr 1,aa fr 2,aa fr 3,.ptr k4 0 0,aa fr 5,aa fr 6,aa fr 7,aa fr 8,aa fr 9,aa fr 10,aa fr 11,aa fr 12,aa fr 13,aa fr 14,aa fr 15,aa fr 16,aa fr 17,aa fr 18,aa fr 19,aa fr 20,aa fr 21,aa fr 22,aa fr 23,aa fr 24,aa fr 25,aa fr 26,aa fr 27,aa fr 28,aa fr 29,aa fr 30,aa fr 31,aa fr 32,aa fr 33,aa fr 34,aa fr 35,aa fr 36,aa fr 37,aa fr 38,aa fr 39,aa fr 40,aa fr 41,aa fr 42,aa fr 43,aa fr 44,aa fr 45,aa fr 46,aa fr 47,aa fr 48,aa fr 49,aa fr 50,aa fr 51,aa fr 52,aa fr 53,aa fr 54,aa fr 55,aa fr 56,aa fr 57,aa fr 58,aa fr 59,aa fr 60,aa fr 61,aa fr 62,aa fr 63,aa fr 64,aa fr 65,aa fr 66,aa fr 67,aa fr 68,aa fr 69,aa fr 70,aa fr 71,aa fr 72,aa fr 73,aa fr 74,jd,.int .i64 (js.length:Nat),.int .i64 (q:Nat)],[]⟩∧Has N S st (.box k (.mem 0 false [cd,nd,zd,ed])::.deep dk cd 4 (C.map aB)::.aM zd 1 (Z.map av)::.aM ed 1 (E.map av)::.aM jd 1 (js.map jH)::.box k4 (.mem 0 false (bd n))::H)∧(q+mm=js.length)∧(gx (fun s=>l3 s e n.lz) C (js.drop q)=gx (fun s=>l3 s e n.lz) C0 js)∧(∀p∈js,∃x y:Int,C[p]?=some (cJ 2 x y []))∧(C.length=e)) (js.length) ?_ ?_
    ·exact⟨0,C0,rfl,hH,by omega,rfl,fun p hp=>⟨_,_,G4 p hp⟩,Q7⟩
    rintro mm fr st ⟨q,C,hfr,hH,hq,f_,lE,L8⟩;rw[hfr];clear hfr;generalize aa fr=ee;clear fr;refine qq<|qj fun K hK=>qg ?_;refine qe hK<|qq ?_;refine af.cond (by rfl) (fun hlt=>?_) (fun hlt=>?_)<;>try simp only[decide_eq_true_eq,decide_eq_false_iff_not] at hlt
    ·refine af.skip ?_;have G2:q<js.length:=by omega
     obtain⟨p,hp⟩:∃p,js[q]?=some p:=⟨js[q]'G2,List.getElem?_eq_getElem _⟩
     obtain⟨x,y,hv⟩:=lE p (List.mem_of_getElem? hp);have gk:=uf hp;have ij:=bz hv;refine qq<|af.block<|qq<|qj fun K hK=>qi hH fT fun Ua P4=>?_;refine qo hH fT ?_;refine qm ?_;refine qe hK<|qj fun K hK=>qm ?_;refine qm ?_;refine qm ?_;refine qg ?_;refine qp (o:=0) ?_;refine ql hH ax ?_;refine ab.zj hH rfl (ev rfl) (by exact bC) rfl (ag rfl _) ?_;simp only[List.length_map];refine qp (o:=4) ?_;refine ql hH pC ?_;obtain⟨_,st,aI,rfl,hH⟩:=nY (at_:=p) (over:=C.length) (lz:=n.lz) hv (by omega) hH;refine qv aI ?_;refine qe hK<|qj fun K hK=>qA ?_;refine qm ?_;refine qe hK ?_
     have wA:js.drop q=p::js.drop (q+1):=by
      rw[List.drop_eq_getElem_cons G2]
      congr 1
      exact Option.some.inj ((List.getElem?_eq_getElem _).symm.trans hp)
     refine⟨mm-1,by omega,⟨q+1,C.set p (l3 p e n.lz),rfl,(by rw[L8] at hH;exact hH),by omega,by rw[wA] at f_;exact f_,?_,by rw[List.length_set];exact L8⟩⟩;intro p' sJ
     by_cases hpp:p'=p
     ·subst hpp;obtain⟨x',y',M3⟩:=zW p' e n.lz;exact⟨x',y',by rw[List.getElem?_set_self ij,M3]⟩
     ·rw[List.getElem?_set_ne (fun e=>hpp e.symm)];exact lE p' sJ
    ·refine af.exit ?_;refine⟨fun i h=>(by cases h),_,_,_,rfl,rfl,?_⟩;have Gc:q=js.length:=by omega
     rw[Gc,List.drop_length] at f_;have f_:C=gx (fun s=>l3 s e n.lz) C0 js:=f_;rw[←f_];exact⟨rfl,cd,dk,(hH.erase 5).erase 4⟩
   |succ mm=>
    have gS:decide ((i:Int)<((b-a:Nat):Int))=true:=by rw[decide_eq_true_eq];omega
    rw[Nat.succ_mul] at hcl;refine qq<|qD rfl (by rw[gS]) ?_;refine af.skip<|qq<|af.block<|qq<|qj fun K hK=>qm ?_;refine qm ?_;refine ab.go (d:=.agg [.int .i64 2,.int .i64 0,.int .i64 0,.nul]) (st1:=_) rfl rfl rfl (by dsimp only[Fr.put,u1,u2]<;>rfl) ?_;have hH:=hH.dP 2;obtain⟨_,st,aI,rfl,cd,dk,hH⟩:=fI (rs:=[]) hF (by omega) hH;refine qv aI ?_;refine qh (s:=1) (vs:=[_]) hH fun k69 st VI hH=>?_;dsimp only[u2,u1,u3,u4,setMany,u5,u6,D.cells,Nat.reduceAdd,aB,bd,av,jH] at hH;refine qP hH pC (hH.rows ax) fun TW st hH=>?_;dsimp only[u2,u1,u3,u4,setMany,u5,u6,D.cells,Nat.reduceAdd,aB,bd,av,jH] at hH;refine qm ?_;refine qe hK ?_;have hH:=hH.drop 1;have lD:(aW++[cJ 2 0 0 []]).length=aW.length+1:=by simp
    refine qj fun K hK=>qm ?_;refine qm ?_;obtain⟨_,st,aI,rfl,cd,dk,hH⟩:=ih t (by omega) hF wu gQ hsz th pH (by omega) ⟨cd,dk,hH⟩;refine qv aI ?_;refine qe hK ?_;rw[lD] at hH;have mD:(aW++[cJ 2 0 0 []]++aQ t (aW.length+1)).length=aW.length+1+t.sz:=by rw[List.length_append,lD,yX]
    refine qj fun K hK=>qA ?_;refine qm ?_;refine qe hK ?_;exact⟨mm,by omega,⟨i+1,cd,TW,dk,aW++[cJ 2 0 0 []]++aQ t (aW.length+1),js++[aW.length],rfl,(by rw[List.map_append (f:=jH)];exact hH),by omega,by rw[mD,←gG];simp only[ez,List.append_assoc,List.cons_append,List.nil_append],by rw[mD,←hjs];simp only[tW,List.append_assoc,List.cons_append,List.nil_append],by rw[mD];omega,by rw[List.length_append,iR];rfl⟩⟩
def bN (fr:Go.V.Fr) (k:Nat):Go.V.D:=Go.V.nth .bu fr.loc k
theorem vd (t:Tr):eZ (.cons t .nil)=aQ t:=by
 funext b;simp only[eZ,List.append_nil]
theorem vA (t:Tr):(bA.cons t .nil).sz=t.sz:=by simp only[bA.sz,Nat.add_zero]
theorem FM {l:List da} (vt:l.length≤1048576) (hi:∀n∈l,n.ok):∀(m:Nat) (t:Tr),t.flat.length≤m→pw l t:=by
 intro m
 induction m with
 |zero=>intro t h;have:=t.gH;omega
 |succ m ih=>
  rintro⟨n,ks⟩ hm N k S s0 H nd zd ed code Z E at_ hF wu gQ hsz th ba hb hM;have XH:=hM;obtain⟨cd,dk,hH⟩:=hM;simp only[Tr.ok] at ba;obtain⟨kP,kX⟩:=ba;simp only[Tr.flat,List.length_cons] at hm;have hle:=gQ.le (by simp[Tr.flat]);simp only[Tr.flat] at gQ hle;simp only[List.length_cons] at hle;simp only[Tr.zs] at hsz;simp only[Tr.es] at th;simp only[Tr.sz] at hb;have hn:=gQ.head;have Nz:=hi n (List.mem_of_getElem? hn);have wo:=Nz.1.arg N S;have pJ:=Nz.2.1;have gk:=kf hn;have L4:=kP.1;have gF:=bA.jM ks;have hcat:=fun b=>lM ks b kX;refine Ev.i7 rfl Rw rfl rfl rfl ?_;dsimp only[u3,u4,List.length,Nat.reduceSub,Nat.reduceAdd,w1,w2];change af _ _ _ _ s0 _;have hc:=wu.arg N S;refine qq<|qj fun K hK=>qm ?_;refine qg ?_;refine qp (o:=1) ?_;refine ql hH ax ?_;refine qm ?_;refine qr fun S3 Nu=>?_;refine ab.cY rfl (ev rfl) (by assumption) rfl (by dsimp only[Fr.put,u1,u2]<;>rfl) ?_;refine qa hH fun k4 st NM hH=>?_;refine qS hH ax fun st hH=>?_;dsimp only[u2,u1,u3,u4,setMany,u5,u6,D.cells,Nat.reduceAdd,aB,bd,av,jH] at hH;refine qe hK ?_;have hH:Has N S st (.box k (.mem 0 false [cd,nd,zd,ed])::.deep dk cd 4 (code.map aB)::.aM zd 1 (Z.map av)::.aM ed 1 (E.map av)::.box k4 (.mem 0 false (bd n))::H):=hH.FB;refine qq<|qj fun K hK=>qp (o:=0) ?_;refine ql hH fT ?_;refine qe hK<|af.block<|qq<|qj fun K hK=>qg ?_;refine qm ?_;refine qe hK ?_;refine af.cond (by rfl) (fun q2=>?_) (fun q2=>?_)<;>try simp only[beq_iff_eq,beq_eq_false_iff_ne,ne_eq] at q2
  ·have wB:aQ (.mk n ks) code.length=[cJ 1 0 0 n.rs]:=by simp only[aQ,if_pos q2]
   rw[wB];have hz:bH n ks.sz ks.len=1:=by unfold bH;rw[if_pos (.inl q2)]
   have hH:=hH.dP 2;refine qj fun K hK=>qm ?_;refine qp (o:=1) ?_;refine ql hH pC ?_;refine qP hH ax (Arg.rows (by assumption) hH) fun Sx st hH=>?_;dsimp only[u2,u1,u3,u4,setMany,u5,u6,D.cells,Nat.reduceAdd,aB,bd,av,jH] at hH;refine ab.fu (qs:=[(0,_),(3,_)]) rfl rfl rfl rfl ⟨rfl,(ev rfl),(by rfl),rfl,(ev rfl),(by exact hH.eI (by exact ax)),trivial⟩ (by intro q hq;simp only[List.mem_cons,List.not_mem_nil,or_false] at hq;rcases hq with rfl|rfl<;>exact⟨rfl,by exact Nat.le_of_ble_eq_true rfl⟩) (by show List.foldl _ [_,_,_,_] _=_;dsimp only[List.foldl_cons,List.foldl_nil,u2,u1]<;>rfl) (by dsimp only[Fr.put,u1,u2]<;>rfl) ?_;obtain⟨_,st,aI,rfl,cd,dk,hH⟩:=fI (rs:=n.rs) hF (by omega) hH;refine qv aI ?_;refine qe hK ?_;refine⟨fun i h=>(by cases h),_,_,_,rfl,rfl,?_⟩;exact⟨rfl,cd,dk,hH.erase 4⟩
  refine qq<|qj fun K hK=>qg ?_;refine qm ?_;refine qe hK ?_;refine af.cond (by rfl) (fun q7=>?_) (fun q7=>?_)<;>try simp only[beq_iff_eq,beq_eq_false_iff_ne,ne_eq] at q7
  ·have wB:aQ (.mk n ks) code.length=[cJ 5 0 0 []]:=by simp only[aQ,if_neg q2,if_pos q7]
   rw[wB];refine qj fun K hK=>qm ?_;refine ab.go (d:=.agg [.int .i64 5,.int .i64 0,.int .i64 0,.nul]) (st1:=_) rfl rfl rfl (by dsimp only[Fr.put,u1,u2]<;>rfl) ?_;have hH:=hH.dP 2;obtain⟨_,st,aI,rfl,cd,dk,hH⟩:=fI (rs:=[]) hF (by omega) hH;refine qv aI ?_;refine qe hK ?_;refine⟨fun i h=>(by cases h),_,_,_,rfl,rfl,?_⟩;exact⟨rfl,cd,dk,hH.erase 4⟩
  refine qq<|qj fun K hK=>qg ?_;refine qm ?_;refine qe hK ?_;refine af.cond (by rfl) (fun q8=>?_) (fun q8=>?_)<;>try simp only[beq_iff_eq,beq_eq_false_iff_ne,ne_eq] at q8
  ·have wB:aQ (.mk n ks) code.length=[cJ 6 0 0 []]:=by simp only[aQ,if_neg q2,if_neg q7,if_pos q8]
   rw[wB];refine qj fun K hK=>qm ?_;refine ab.go (d:=.agg [.int .i64 6,.int .i64 0,.int .i64 0,.nul]) (st1:=_) rfl rfl rfl (by dsimp only[Fr.put,u1,u2]<;>rfl) ?_;have hH:=hH.dP 2;obtain⟨_,st,aI,rfl,cd,dk,hH⟩:=fI (rs:=[]) hF (by omega) hH;refine qv aI ?_;refine qe hK ?_;refine⟨fun i h=>(by cases h),_,_,_,rfl,rfl,?_⟩;exact⟨rfl,cd,dk,hH.erase 4⟩
  refine qq<|qj fun K hK=>qg ?_;refine qm ?_;refine qe hK ?_;refine af.cond (by rfl) (fun q3=>?_) (fun q3=>?_)<;>try simp only[beq_iff_eq,beq_eq_false_iff_ne,ne_eq] at q3
  ·have wB:aQ (.mk n ks) code.length=eZ ks code.length:=by simp only[aQ,if_neg q2,if_neg q7,if_neg q8,if_pos q3]
   rw[wB];have hz:bH n ks.sz ks.len=ks.sz:=by unfold bH;rw[if_neg (by omega),if_neg (by omega),if_neg (by omega),if_neg (by omega)]
   rw[hz] at hb;refine qq<|qj fun K hK=>qm ?_;refine qA ?_;refine qm ?_;refine qe hK<|qq<|qj fun K hK=>qp (o:=6) ?_;refine ql hH fT ?_;refine qm ?_;refine qe hK<|af.block<|af.loop (fun mm fr st=>∃(i j:Nat) (rest:bA) (cd:D) (dk:Nat→Prop) (aW:List aL),fr.clean=⟨40,[.ptr k 0 0,.int .i64 (at_:Nat),bN fr 2,bN fr 3,.ptr k4 0 0,.int .i64 (j:Nat),bN fr 6,bN fr 7,bN fr 8,bN fr 9,bN fr 10,bN fr 11,bN fr 12,bN fr 13,bN fr 14,bN fr 15,bN fr 16,bN fr 17,bN fr 18,bN fr 19,bN fr 20,bN fr 21,bN fr 22,bN fr 23,bN fr 24,bN fr 25,bN fr 26,bN fr 27,bN fr 28,bN fr 29,bN fr 30,bN fr 31,bN fr 32,bN fr 33,bN fr 34,bN fr 35,bN fr 36,bN fr 37,.int .i64 n.kids,.int .i64 (i:Nat)],[]⟩∧Has N S st (.box k (.mem 0 false [cd,nd,zd,ed])::.deep dk cd 4 (aW.map aB)::.aM zd 1 (Z.map av)::.aM ed 1 (E.map av)::.box k4 (.mem 0 false (bd n))::H)∧(mm=rest.len)∧(i+rest.len=ks.len)∧(eS l j rest.flat)∧(eS Z j rest.zs)∧(eS E j (rest.es j))∧(rest.ok)∧(aW++eZ rest aW.length=code++eZ ks code.length)∧(aW.length+rest.sz=code.length+ks.sz)∧(rest.flat.length≤m)) (ks.len) ?_ ?_
   ·exact⟨0,at_+1,ks,cd,dk,code,rfl,hH,rfl,by omega,gQ.tail,hsz.tail,th.tail,kX,rfl,rfl,by omega⟩
   rintro mm fr st ⟨i,j,rest,cd,dk,aW,hfr,hH,wv,y5,nA,uB,nz,jq,gG,hcl,KP⟩;rw[hfr];clear hfr;generalize bN fr=ee;clear fr;refine qq<|qj fun K hK=>qg ?_;refine qe hK ?_
   cases rest with
   |nil=>
    simp only[bA.len] at y5;simp only[eZ,List.append_nil] at gG;have gS:decide ((i:Int)<n.kids)=false:=by rw[decide_eq_false_iff_not];omega
    refine qq<|qE rfl (by rw[gS]) ?_;refine af.exit ?_;refine⟨fun i h=>(by cases h),_,_,_,rfl,rfl,?_⟩;rw[←gG];exact⟨rfl,cd,dk,hH.erase 4⟩
   |cons t ts=>
    simp only[bA.len] at y5 wv;simp only[bA.sz] at hcl;simp only[bA.flat,List.length_append] at nA KP;simp only[bA.zs] at uB;simp only[bA.es] at nz;simp only[bA.ok] at jq;simp only[eZ] at gG;have KF:=t.hY;have M7:=t.il j;have yX:=ck t aW.length jq.1;have PW:=dW (xW nz.left);have gS:decide ((i:Int)<n.kids)=true:=by rw[decide_eq_true_eq];omega
    refine qq<|qD rfl (by rw[gS]) ?_;refine af.skip<|qq<|af.block<|qq<|qj fun K hK=>qm ?_;refine qm ?_;obtain⟨_,st,aI,rfl,cd,dk,hH⟩:=ih t (by omega) hF wu nA.left uB.left nz.left jq.1 (by omega) ⟨cd,dk,hH⟩;refine qv aI ?_;refine qe hK<|qj fun K hK=>qm ?_;refine qg ?_;refine qp (o:=3) ?_;refine ql hH ax ?_;refine qm ?_;refine qi hH ef fun SS Nj=>?_;refine qo hH ef ?_;refine qm ?_;refine qe hK<|qj fun K hK=>qA ?_;refine qm ?_;refine qe hK ?_;exact⟨mm-1,by omega,⟨i+1,j+t.flat.length,ts,cd,dk,aW++aQ t aW.length,rfl,hH,by omega,by omega,nA.right,by rw[←KF];exact uB.right,by rw[←M7];rw[←M7] at nz;exact nz.right,jq.2,by rw[List.length_append,yX,List.append_assoc];exact gG,by rw[List.length_append,yX];omega,by omega⟩⟩
  refine qq<|qj fun K hK=>qg ?_;refine qm ?_;refine qe hK ?_;refine af.cond (by rfl) (fun q4=>?_) (fun q4=>?_)<;>try simp only[beq_iff_eq,beq_eq_false_iff_ne,ne_eq] at q4
  ·have wB:aQ (.mk n ks) code.length=dX (ly (code.length+bH n ks.sz ks.len)) ks code.length:=by simp only[aQ,if_neg q2,if_neg q7,if_neg q8,if_neg q3,if_pos q4]
   rw[wB];refine qj fun K hK=>qm ?_;refine qm ?_;obtain⟨_,st,aI,rfl,cd,dk,hH⟩:=LH vt ih q4 (by omega) kP kX hF wu gQ hsz.tail th.tail hb ⟨cd,dk,hH⟩;refine qv aI ?_;refine qe hK ?_;refine⟨fun i h=>(by cases h),_,_,_,rfl,rfl,?_⟩;exact⟨rfl,cd,dk,hH.erase 4⟩
  refine qq<|qj fun K hK=>qg ?_;refine qm ?_;refine qe hK ?_;refine af.cond (by rfl) (fun q5=>?_) (fun q5=>?_)<;>try simp only[beq_iff_eq,beq_eq_false_iff_ne,ne_eq] at q5
  ·have nQ:ks.len=1:=by
    obtain⟨_,hq⟩:=kP;omega
   obtain⟨t,rfl⟩:=bA.xF nQ;have wB:aQ (.mk n (.cons t .nil)) code.length=l8 n (aQ t) t.sz code.length:=by simp only[aQ,if_neg q2,if_neg q7,if_neg q8,if_neg q3,if_neg q4,if_pos q5,vd,vA]
   rw[wB];rw[nQ] at kP hb;rw[vA] at hb;simp only[bA.flat,bA.zs,bA.es,bA.ok,List.append_nil] at*;refine qj fun K hK=>qm ?_;refine qm ?_;obtain⟨_,st,aI,rfl,cd,dk,hH⟩:=yD vt ih q5 (by omega) kP kX.1 hF wu gQ hsz.tail th.tail hb ⟨cd,dk,hH⟩;refine qv aI ?_;refine qe hK ?_;refine⟨fun i h=>(by cases h),_,_,_,rfl,rfl,?_⟩;exact⟨rfl,cd,dk,hH.erase 4⟩
  refine qq<|qj fun K hK=>qg ?_;refine qm ?_;refine qe hK ?_;refine af.cond (by rfl) (fun q6=>?_) (fun q6=>?_)<;>try simp only[beq_iff_eq,beq_eq_false_iff_ne,ne_eq] at q6
  ·have nQ:ks.len=1∧1≤n.cap∧n.cap≤4:=by
    obtain⟨_,hq⟩:=kP;omega
   obtain⟨t,rfl⟩:=bA.xF nQ.1;have wB:aQ (.mk n (.cons t .nil)) code.length=cJ 4 (2*n.cap) 0 []::(aQ t (code.length+1)++[cJ 4 (2*n.cap+1) 0 []]):=by simp only[aQ,if_neg q2,if_neg q7,if_neg q8,if_neg q3,if_neg q4,if_neg q5,if_pos q6,vd]
   rw[wB];have hz:bH n (bA.cons t .nil).sz (bA.cons t .nil).len=t.sz+2:=by unfold bH;rw[if_neg (by omega),if_neg (by omega),if_pos q6,vA]
   rw[hz] at hb;simp only[bA.flat,bA.zs,bA.es,bA.ok,List.append_nil] at gQ hsz th kX hm;refine qq<|qj fun K hK=>qm ?_;refine qp (o:=5) ?_;refine ql hH fT ?_;refine ab.vY (z:=(2*n.cap)) rfl (ev rfl) (ev rfl) (by(try simp only[List.length_reverse,List.length_cons,List.length_nil,List.length_append,List.length_map,List.length_set]);rw[wrap_i64 (by omega) (by omega)]<;>omega) (ag rfl _) ?_;refine ab.go (d:=.agg [.int .i64 4,.int .i64 (2*n.cap),.int .i64 0,.nul]) (st1:=_) rfl rfl rfl (ag rfl _) ?_;have hH:=hH.dP 2;obtain⟨_,st,aI,rfl,cd,dk,hH⟩:=fI (rs:=[]) hF (by omega) hH;refine qv aI ?_;refine qe hK ?_;have lD:(code++[cJ 4 (2*n.cap) 0 []]).length=code.length+1:=by simp
   refine qq<|qj fun K hK=>qm ?_;refine qm ?_;refine qA ?_;obtain⟨_,st,aI,rfl,cd,dk,hH⟩:=ih t (by omega) hF wu gQ.tail hsz.tail th.tail kX.1 (by omega) ⟨cd,dk,hH⟩;refine qv aI ?_;refine qe hK ?_;rw[lD] at hH;have mD:(code++[cJ 4 (2*n.cap) 0 []]++aQ t (code.length+1)).length=code.length+1+t.sz:=by rw[List.length_append,lD,ck t _ kX.1]
   refine qj fun K hK=>qm ?_;refine qp (o:=5) ?_;refine ql hH fT ?_;refine ab.vY (z:=(2*n.cap)) rfl (ev rfl) (ev rfl) (by(try simp only[List.length_reverse,List.length_cons,List.length_nil,List.length_append,List.length_map,List.length_set]);rw[wrap_i64 (by omega) (by omega)]<;>omega) (ag rfl _) ?_;refine ab.jY (z:=(2*n.cap+1)) rfl (ev rfl) (ev rfl) (by(try simp only[List.length_reverse,List.length_cons,List.length_nil,List.length_append,List.length_map,List.length_set]);rw[wrap_i64 (by omega) (by omega)]<;>omega) (ag rfl _) ?_;refine ab.go (d:=.agg [.int .i64 4,.int .i64 (2*n.cap+1),.int .i64 0,.nul]) (st1:=_) rfl rfl rfl (ag rfl _) ?_;have hH:=hH.dP 2;obtain⟨_,st,aI,rfl,cd,dk,hH⟩:=fI (rs:=[]) hF (by omega) hH;refine qv aI ?_;refine qe hK ?_;have fG:code++[cJ 4 (2*n.cap) 0 []]++aQ t (code.length+1)++[cJ 4 (2*n.cap+1) 0 []]=code++cJ 4 (2*n.cap) 0 []::(aQ t (code.length+1)++[cJ 4 (2*n.cap+1) 0 []]):=by simp
   rw[fG] at hH;refine⟨fun i h=>(by cases h),_,_,_,rfl,rfl,?_⟩;exact⟨rfl,cd,dk,hH.erase 4⟩
  ·refine af.skip ?_;have wB:aQ (.mk n ks) code.length=[]:=by simp only[aQ,if_neg q2,if_neg q7,if_neg q8,if_neg q3,if_neg q4,if_neg q5,if_neg q6]
   rw[wB,List.append_nil];refine⟨fun i h=>(by cases h),_,_,_,rfl,rfl,?_⟩;exact⟨rfl,cd,dk,hH.erase 4⟩
def gB (fr:Go.V.Fr) (k:Nat):Go.V.D:=Go.V.nth .bu fr.loc k
def zx (x:Nl):List D:=[x.d]
theorem Kx {l:List Nl} {i:Nat} {q:Nl} (h:l[i]?=some q):(l.map zx)[i]?=some (zx q):=by rw[List.getElem?_map,h];rfl
def nr (R:rG):D:=.tup [(nN R.code R.az).d,.int .i64 R.e,.int .i64 R.w]
theorem xk {es M:List Int} (h:M.length=es.length):lT es 0 M=M:=by
 unfold lT;simp[h]
theorem mG (r:Nat) (c:List aL) (s:List Int):ec [] r c s=⟨c,s,0,0⟩:=by simp only[ec]
theorem wO {s0:St} {x:D} {rules:List Nl} (hx:V.Rows s0 1 x (rules.map zx)) (hr:∀r∈rules,r.ok) (hl:rules.length≤1048576):Ev pv 47 [x] s0 (nr (br (rules.map (·.l)))) s0:=by
 refine Ev.me rfl RO rfl rfl rfl ?_;dsimp only[u3,u4,List.length,Nat.reduceSub,Nat.reduceAdd,w1,w2];obtain⟨bZ,hF,hH⟩:=ri s0;generalize ai .ro s0=S at*;have hx:=Arg.of hx bZ;have hfz:∀(st:St) (e w:Int),aV st s0.bs.length false 16 (pE [.agg [.nul,.nul],.int .i64 e,.int .i64 w])=some (nr ⟨[],[],e,w⟩):=fun st e w=>rfl;refine qq<|qj fun K hK=>qa hH fun k2 st hk2 hH=>?_;refine qm ?_;refine qm ?_;refine qe hK<|qq<|qq<|qj fun K hK=>qm ?_;refine qn ?_;simp only[List.length_map];refine qg ?_;refine qe hK ?_;unfold br
 by_cases h8:8<rules.length
 ·rw[if_pos (by rw[List.length_map];exact h8)];refine qD rfl (by simp;omega) ?_;refine qq<|qj fun K hK=>?_;refine ab.go (d:=.agg [.nul,.nul]) (st1:=_) rfl rfl rfl (by dsimp only[Fr.put,u1,u2]<;>rfl) ?_;refine qS hH ax fun st hH=>?_;dsimp only[u2,u1,u3,u4,setMany,u5,u6,D.cells,Nat.reduceAdd,aB,bd,av,zx] at hH;refine qm ?_;refine qm ?_;refine qe hK<|af.ret ⟨rx,_,hH.j8 rfl ax rfl rfl rfl,rl bZ hH (hfz _ 13 8)⟩
 ·rw[if_neg (by rw[List.length_map];exact h8)];refine qE rfl (by simp;omega) ?_;refine af.skip<|qq<|qj fun K hK=>?_;refine ab.go (d:=.agg [.nul,.nul,.nul,.nul]) (st1:=_) rfl rfl rfl (by dsimp only[Fr.put,u1,u2]<;>rfl) ?_;refine qb hH fun k14 st NO hH=>?_;refine qm ?_;refine qe hK<|qq<|qj fun K hK=>qm ?_;refine qe hK<|qq<|qq<|qj fun K hK=>qm ?_;refine qn ?_;simp only[List.length_map];refine qm ?_;refine qe hK ?_;have hH:Has s0.bs.length S st (.aM .nul 1 (([]:List Int).map av)::.deep (fun _=>False) .nul 4 (([]:List aL).map aB)::.box k14 (.mem 0 false [.nul,.nul,.nul,.nul])::[.box k2 (.mem 0 false [.nul,.nul])]):=(hH.AF 4).dP 1;refine af.block<|af.loop (fun mm fr st=>∃(r:Nat) (cd nd zd ed sd:D) (dk:Nat→Prop) (code:List aL) (az:List Int),fr.clean=⟨18,[gB fr 0,gB fr 1,.ptr k2 0 0,.int .i64 0,.int .i64 0,.ptr k14 0 0,sd,gB fr 7,gB fr 8,gB fr 9,gB fr 10,gB fr 11,gB fr 12,gB fr 13,gB fr 14,x,.int .i64 (rules.length:Nat),.int .i64 (r:Nat)],[]⟩∧Has s0.bs.length S st [.aM sd 1 (az.map av),.deep dk cd 4 (code.map aB),.box k14 (.mem 0 false [cd,nd,zd,ed]),.box k2 (.mem 0 false [.nul,.nul])]∧(r+mm=rules.length)∧(ec ((rules.drop r).map (·.l)) r code az=ec (rules.map (·.l)) 0 [] [])∧(code.length≤400)∧(az.length≤r)) (rules.length) ?_ ?_
  ·exact⟨0,.nul,.nul,.nul,.nul,.nul,(fun _=>False),[],[],rfl,hH,by omega,by rw[List.drop_zero],by simp,by simp⟩
  rintro mm fr st ⟨r,cd,nd,zd,ed,sd,dk,code,az,hfr,hH,Xs,hX,hcl,fZ⟩;rw[hfr];clear hfr;generalize gB fr=ee;clear fr;refine qq<|qj fun K hK=>qg ?_;refine qe hK ?_
  by_cases hlt:r<rules.length
  ·obtain⟨q,hq⟩:∃q,rules[r]?=some q:=⟨rules[r]'hlt,List.getElem?_eq_getElem _⟩
   have uD:=hr q (List.mem_of_getElem? hq);have gk:=Kx hq
   have wA:rules.drop r=q::rules.drop (r+1):=by
    rw[List.drop_eq_getElem_cons hlt]
    congr 1
    exact Option.some.inj ((List.getElem?_eq_getElem _).symm.trans hq)
   rw[wA,List.map_cons,ec] at hX;refine qq<|qD rfl (by simp;omega) ?_;refine af.skip<|qq<|af.block<|qq<|qj fun K hK=>qm ?_;refine qr fun OE Gf=>?_;refine qR ?_;refine qm ?_;refine qm ?_;refine qe hK<|qq<|qq<|qj fun K hK=>qm ?_;refine qv (yC uD) ?_;refine qg ?_;refine qe hK ?_
   cases wm:ft q.l with
   |false=>
    rw[if_pos wm] at hX;refine qB ?_;refine qq<|qj fun K hK=>ab.go (d:=.agg [.nul,.nul]) (st1:=_) rfl rfl rfl (ag rfl _) ?_;refine qm ?_;refine qS hH ef fun st hH=>?_;dsimp only[u2,u1,u3,u4,setMany,u5,u6,D.cells,Nat.reduceAdd,aB,bd,av,zx] at hH;refine qm ?_;refine qm ?_;refine qe hK ?_;rw[←hX];refine af.ret ⟨rx,_,hH.j8 rfl ef rfl rfl rfl,rl bZ hH (hfz _ 1 r)⟩
   |true=>
    rw[if_neg (by rw[wm];simp)] at hX;obtain⟨pH,G0⟩:=rI wm;have Xw:=uD.c.arg s0.bs.length S;have Xv:=uD.nl;have tk:=uD.c;refine qC ?_;refine af.skip<|qq<|qj fun K hK=>qm ?_;refine qm ?_;refine qm ?_;refine qm ?_;refine qm ?_;refine qn ?_;simp only[List.length_map];refine ab.uH (s:=1) hH rfl rfl rfl rfl rfl rfl rfl rfl (Nat.le_of_ble_eq_true rfl) (by omega) (fun _=>(ag rfl _)) (fun k33 st Qv hH=>?_);refine qm ?_;refine qn ?_;simp only[List.length_map];refine ab.uH (s:=1) hH rfl rfl rfl rfl rfl rfl rfl rfl (Nat.le_of_ble_eq_true rfl) (by omega) (fun _=>(ag rfl _)) (fun k36 st NN hH=>?_);refine qg ?_;refine qp (o:=1) ?_;refine qT hH fT fun st hH=>?_;dsimp only[u2,u1,u3,u4,setMany,u5,u6,D.cells,Nat.reduceAdd,aB,bd,av,zx] at hH;refine qg ?_;refine qp (o:=2) ?_;refine qT hH fT fun st hH=>?_;dsimp only[u2,u1,u3,u4,setMany,u5,u6,D.cells,Nat.reduceAdd,aB,bd,av,zx] at hH;refine qg ?_;refine qp (o:=3) ?_;refine qT hH fT fun st hH=>?_;dsimp only[u2,u1,u3,u4,setMany,u5,u6,D.cells,Nat.reduceAdd,aB,bd,av,zx] at hH;refine qe hK ?_
    have hH:Has s0.bs.length S st (.aM (.win k33 0 0 q.l.length 1) 1 ((List.replicate q.l.length (0:Int)).map av)::.aM (.win k36 0 0 q.l.length 1) 1 ((List.replicate q.l.length (0:Int)).map av)::.aM sd 1 (az.map av)::.deep dk cd 4 (code.map aB)::.box k14 (.mem 0 false [cd,q.d,.win k33 0 0 q.l.length 1,.win k36 0 0 q.l.length 1])::.box k2 (.mem 0 false [.nul,.nul])::[]):=by
     rw[List.map_replicate];exact hH.front bC
    refine qq<|qj fun K hK=>qm ?_;refine qm ?_;refine qg ?_;refine qp (o:=2) ?_;refine ql hH fT ?_;obtain⟨_,st,aI,rfl,hH⟩:=zY uD.nl uD.i uD.c _ (cw q.l) (Nat.le_refl _) pH (at_:=0) (by rw[G0];exact eS.all _) (by simp) hH;refine qv aI ?_;refine qe hK ?_;rw[xk (by rw[Tr.hY,G0];simp)] at hH;have hH:=hH.front bC;refine qq<|qj fun K hK=>qm ?_;refine qm ?_;refine qg ?_;refine qp (o:=3) ?_;refine ql hH fT ?_;obtain⟨_,st,aI,rfl,hH⟩:=Gy uD.nl uD.i uD.c _ (cw q.l) (Nat.le_refl _) pH (at_:=0) (by rw[G0];exact eS.all _) (by simp) hH;refine qv aI ?_;refine qe hK ?_;rw[xk (by rw[Tr.il,G0];simp)] at hH;have U0:=dW (w_ (eS.all (cw q.l).zs));refine qq<|qq<|qj fun K hK=>qm ?_;refine qg ?_;refine qp (o:=0) ?_;refine ql hH fT ?_;refine ab.zj hH rfl (ev rfl) (by exact ef) rfl (ag rfl _) ?_;simp only[List.length_map];refine qm ?_;refine qg ?_;refine qp (o:=2) ?_;refine ql hH fT ?_;refine qi hH bC fun SP Ng=>?_;refine qo hH bC ?_;refine ab.jY (z:=((code.length+min (cw q.l).sz 401:Nat):Int)) rfl (ev rfl) (ev rfl) (by(try simp only[List.length_reverse,List.length_cons,List.length_nil,List.length_append,List.length_map,List.length_set]);rw[wrap_i64 (by omega) (by omega)]<;>omega) (ag rfl _) ?_;refine ab.jY (z:=((code.length+min (cw q.l).sz 401+3:Nat):Int)) rfl (ev rfl) (ev rfl) (by(try simp only[List.length_reverse,List.length_cons,List.length_nil,List.length_append,List.length_map,List.length_set]);rw[wrap_i64 (by omega) (by omega)]<;>omega) (ag rfl _) ?_;refine qg ?_;refine qe hK ?_
    by_cases Ll:400<code.length+min (cw q.l).sz 401+3
    ·rw[if_pos Ll] at hX;have gS:decide (((code.length+min (cw q.l).sz 401+3:Nat):Int)>400)=true:=by rw[decide_eq_true_eq];omega
     refine qD rfl (by rw[gS]) ?_;refine qq<|qj fun K hK=>ab.go (d:=.agg [.nul,.nul]) (st1:=_) rfl rfl rfl (ag rfl _) ?_;refine qm ?_;refine qS hH pC fun st hH=>?_;dsimp only[u2,u1,u3,u4,setMany,u5,u6,D.cells,Nat.reduceAdd,aB,bd,av,zx] at hH;refine qm ?_;refine qm ?_;refine qe hK ?_;rw[←hX];refine af.ret ⟨rx,_,hH.j8 rfl pC rfl rfl rfl,rl bZ hH (hfz _ 12 r)⟩
    ·rw[if_neg Ll] at hX;have gS:decide (((code.length+min (cw q.l).sz 401+3:Nat):Int)>400)=false:=by rw[decide_eq_false_iff_not];omega
     refine qE rfl (by rw[gS]) ?_;refine af.skip ?_;have hH:=hH.front bC;have hH:=hH.front ef;have hH:=hH.front fT;have hH:Has s0.bs.length S st (.box k14 (.mem 0 false [cd,q.d,.win k33 0 0 q.l.length 1,.win k36 0 0 q.l.length 1])::.deep dk cd 4 (code.map aB)::.aM (.win k33 0 0 q.l.length 1) 1 ((cw q.l).zs.map av)::.aM (.win k36 0 0 q.l.length 1) 1 (((cw q.l).es 0).map av)::.aM sd 1 (az.map av)::.box k2 (.mem 0 false [.nul,.nul])::[]):=hH;refine qq<|qj fun K hK=>qm ?_;refine qm ?_;refine ab.go (d:=.agg [.int .i64 4,.int .i64 0,.int .i64 0,.nul]) (st1:=_) rfl rfl rfl (ag rfl _) ?_;have hH:=hH.dP 2;obtain⟨_,st,aI,rfl,cd,dk,hH⟩:=fI (rs:=[]) hF (by omega) hH;refine qv aI ?_;refine qh (s:=1) (vs:=[_]) hH fun k75 st VG hH=>?_;refine ab.bQ (s:=1) hH rfl (ev rfl) (ev rfl) (by exact pC) (by exact hH.rows (by exact ax)) rfl rfl rfl rfl rfl rfl rfl ⟨(Nat.le_of_ble_eq_true rfl),(Nat.le_of_ble_eq_true rfl)⟩ (fun _=>(ag rfl _)) (by simp only[List.length_cons,List.length_nil,List.length_map]<;>omega) (by exact .inl hF) (fun TV st hH=>?_);dsimp only[u2,u1,u3,u4,setMany,u5,u6,D.cells,Nat.reduceAdd,aB,bd,av,zx] at hH;refine qm ?_;refine qe hK ?_;have hH:=hH.drop 1;have lD:(code++[cJ 4 0 0 []]).length=code.length+1:=by simp
     refine qq<|qj fun K hK=>qm ?_;obtain⟨_,st,aI,rfl,cd,dk,hH⟩:=FM uD.nl uD.i _ (cw q.l) (Nat.le_refl _) hF uD.c (at_:=0) (by rw[G0];exact eS.all _) (eS.all _) (eS.all _) pH (by omega) ⟨cd,dk,hH⟩;refine qv aI ?_;refine qe hK ?_;rw[lD] at hH;have mD:(code++[cJ 4 0 0 []]++aQ (cw q.l) (code.length+1)).length=code.length+1+(cw q.l).sz:=by rw[List.length_append,lD,ck _ _ pH]
     refine qq<|qj fun K hK=>qm ?_;refine ab.go (d:=.agg [.int .i64 4,.int .i64 1,.int .i64 0,.nul]) (st1:=_) rfl rfl rfl (ag rfl _) ?_;have hH:=hH.dP 2;obtain⟨_,st,aI,rfl,cd,dk,hH⟩:=fI (rs:=[]) hF (by omega) hH;refine qv aI ?_;refine qe hK ?_;have Bn:(code++[cJ 4 0 0 []]++aQ (cw q.l) (code.length+1)++[cJ 4 1 0 []]).length=code.length+1+(cw q.l).sz+1:=by rw[List.length_append,mD];rfl
     refine qj fun K hK=>qm ?_;refine qm ?_;refine ab.go (d:=.agg [.int .i64 7,.int .i64 (r:Nat),.int .i64 0,.nul]) (st1:=_) rfl rfl rfl (ag rfl _) ?_;have hH:=hH.dP 2;obtain⟨_,st,aI,rfl,cd,dk,hH⟩:=fI (rs:=[]) hF (by omega) hH;refine qv aI ?_;refine qe hK ?_
     have UX:code++[cJ 4 0 0 []]++aQ (cw q.l) (code.length+1)++[cJ 4 1 0 []]++[cJ 7 (r:Nat) 0 []]=code++dY (cw q.l) code.length r:=by
      unfold dY;simp
     rw[UX] at hH;have hH:=(hH.erase 2).erase 2;have hH:=hH.front bC;have hH:=hH.front dp;refine qj fun K hK=>qA ?_;refine qm ?_;refine qe hK ?_;exact⟨mm-1,by omega,⟨r+1,cd,q.d,.win k33 0 0 q.l.length 1,.win k36 0 0 q.l.length 1,TV,dk,code++dY (cw q.l) code.length r,az++[((code.length:Nat):Int)],rfl,(by rw[List.map_append (f:=av)];exact hH),by omega,hX,by rw[List.length_append,j7 pH];omega,by rw[List.length_append];simp only[List.length_cons,List.length_nil];omega⟩⟩
  ·refine qq<|qE rfl (by simp;omega) ?_;refine af.exit ?_;rw[List.drop_of_length_le (by omega),List.map_nil,mG] at hX;refine qq<|qj fun K hK=>qm ?_;refine qg ?_;refine qp (o:=0) ?_;refine ql hH dp ?_;refine qm ?_;refine ab.fu (qs:=[(0,_),(1,_)]) rfl rfl rfl rfl ⟨rfl,(ev rfl),(by exact hH.mF (by exact bC)),rfl,(ev rfl),(by exact hH.eI (by exact ax)),trivial⟩ (by intro q hq;simp only[List.mem_cons,List.not_mem_nil,or_false] at hq;rcases hq with rfl|rfl<;>exact⟨rfl,by exact Nat.le_of_ble_eq_true rfl⟩) (by show List.foldl _ [_,_] _=_;dsimp only[List.foldl_cons,List.foldl_nil,u2,u1]<;>rfl) (ag rfl _) ?_;refine qS hH ef fun st hH=>?_;dsimp only[u2,u1,u3,u4,setMany,u5,u6,D.cells,Nat.reduceAdd,aB,bd,av,zx] at hH;refine qm ?_;refine qm ?_;refine qe hK ?_;rw[←hX];have h1:=hH.jR bC (n:=13) (by decide);have h2:=hH.sU ax (mw _) (n:=14) (by decide)
   have h4:aV st s0.bs.length false 15 (.agg [cd,sd])=some (nN code az).d:=by
    show(eA (aV st s0.bs.length false 14) [cd,sd]).map D.agg=_;simp only[eA,h1,h2,Option.map_some];rfl
   have h3:aV st s0.bs.length false 16 (pE [.agg [cd,sd],.int .i64 0,.int .i64 0])=some (nr ⟨code,az,0,0⟩):=by
    show(eA (aV st s0.bs.length false 15) [.agg [cd,sd],.int .i64 0,.int .i64 0]).map D.tup=_;simp only[eA,h4];rfl
   exact af.ret ⟨rx,_,hH.j8 rfl ef rfl rfl rfl,rl bZ hH h3⟩
theorem va:∀(ls:List (List da)) (r:Nat) (c:List aL) (s:List Int),(∀l∈ls,∀n∈l,n.rs.length≤1048576)→(∀i∈c,iO i)→c.length≤400→s.length≤r→(∀i∈(ec ls r c s).code,iO i)∧(ec ls r c s).code.length≤400∧(ec ls r c s).az.length≤r+ls.length
 |[],r,c,s,_,h1,h2,h3=>by rw[mG];exact⟨h1,h2,by simpa using h3⟩
 |l::ls,r,c,s,h0,h1,h2,h3=>by
  have Tt:∀e w:Int,(∀i∈(rG.mk [] [] e w).code,iO i)∧(rG.mk [] [] e w).code.length≤400∧(rG.mk [] [] e w).az.length≤r+(l::ls).length:=fun e w=>⟨fun i hi=>(by cases hi),by simp,by simp⟩
  rw[ec]
  split
  ·exact Tt _ _
  ·rename_i hr;rw[Bool.not_eq_false] at hr
   split
   ·exact Tt _ _
   ·rename_i hb;obtain⟨t1,t2⟩:=rI hr
    obtain⟨h4,h5,h6⟩:=va ls (r+1) (c++dY (cw l) c.length r) (s++[((c.length:Nat):Int)]) (fun l' gu=>h0 l' (List.mem_cons_of_mem _ gu)) (fun i hi=>by
     rcases List.mem_append.1 hi with hi|hi
     ·exact h1 i hi
     ·exact Cu (by rw[t2];exact h0 l (List.mem_cons_self ..)) i hi) (by rw[List.length_append,j7 t1];omega) (by rw[List.length_append];simp only[List.length_cons,List.length_nil];omega)
    exact⟨h4,h5,by simp only[List.length_cons];omega⟩
theorem u_ {ls:List (List da)} (h:∀l∈ls,∀n∈l,n.rs.length≤1048576):(nN (br ls).code (br ls).az).ok∧(br ls).code.length≤400:=by
 unfold br
 split
 ·exact⟨Ap (fun i hi=>(by cases hi)) (by simp) (by simp),by simp⟩
 ·obtain⟨h1,h2,h3⟩:=va ls 0 [] [] h (fun i hi=>by cases hi) (by simp) (by simp);exact⟨Ap h1 (by omega) (by omega),h2⟩
def yp (b:List UInt8):List D:=[.str b]
theorem Cn {l:List (List UInt8)} {i:Nat} {q:List UInt8} (h:l[i]?=some q):(l.map yp)[i]?=some (yp q):=by rw[List.getElem?_map,h];rfl
theorem Kw {parts:List (List da)} (h:∀l∈parts,(∀n∈l,tn n)∧l.length≤500):∀r∈parts.map (fun l=>(⟨tg l,l⟩:Nl)),r.ok:=by
 intro r hr;obtain⟨l,hl,rfl⟩:=List.mem_map.1 hr;exact MN (h l hl).1 (by have:=(h l hl).2;omega)
theorem AJ {parts:List (List da)}:(parts.map (fun l=>(⟨tg l,l⟩:Nl))).map zx=parts.map dB:=by
 rw[List.map_map];rfl
theorem wP {s0:St} {y:D} {parts:List (List da)} (h:∀l∈parts,(∀n∈l,tn n)∧l.length≤500) (hl:parts.length≤1048576) (hy:V.Rows s0 1 y (parts.map dB)):Ev pv 47 [y] s0 (nr (br parts)) s0∧(nN (br parts).code (br parts).az).ok∧(br parts).code.length≤400:=by
 have h1:=wO (s0:=s0) (x:=y) (rules:=parts.map (fun l=>(⟨tg l,l⟩:Nl))) (by rw[AJ];exact hy) (Kw h) (by rw[List.length_map];exact hl);have h2:(parts.map (fun l=>(⟨tg l,l⟩:Nl))).map (·.l)=parts:=by rw[List.map_map];exact List.map_id _
 rw[h2] at h1;exact⟨h1,u_ fun l hl n hn=>((h l hl).1 n hn).2.1⟩
def xm (n:Nat) (i:aL):aL:=if i.op=2 then⟨2,i.x+n,i.y+n,i.rd,i.rs⟩ else if i.op=3 then⟨3,i.x+n,i.y,i.rd,i.rs⟩ else i
theorem nZ (n:Nat) {op:Int} (x y:Int) (rs:List Rg) (h2:op≠2) (h3:op≠3):xm n (cJ op x y rs)=cJ op x y rs:=by
 unfold xm cJ;rw[if_neg h2,if_neg h3]
theorem vF (n s o:Nat) (lz:Bool):xm n (l3 s o lz)=l3 (s+n) (o+n) lz:=by
 cases lz
 ·show(⟨2,((s+1:Nat):Int)+n,(o:Int)+n,_,_⟩:aL)=cJ 2 ((s+n+1:Nat):Int) ((o+n:Nat):Int) [];unfold cJ
  congr 1;omega
 ·show(⟨2,(o:Int)+n,((s+1:Nat):Int)+n,_,_⟩:aL)=cJ 2 ((o+n:Nat):Int) ((s+n+1:Nat):Int) [];unfold cJ
  congr 1;omega
theorem z6 (n e:Nat):xm n (ly e)=ly (e+n):=by
 show(⟨3,(e:Int)+n,0,_,_⟩:aL)=cJ 3 ((e+n:Nat):Int) 0 [];unfold cJ
 congr 1
theorem rN {c:Nat→List aL} {z n:Nat} (hc:∀b,c (b+n)=(c b).map (xm n)):∀k b,eG c z k (b+n)=(eG c z k b).map (xm n)
 |0,b=>rfl
 |k+1,b=>by
  have h:=rN hc (z:=z) k (b+z);rw[Nat.add_right_comm] at h;rw[eG,eG,List.map_append,hc,h]
theorem xw {sp SE:Nat→aL} {c:Nat→List aL} {z n:Nat} (hs:∀s,SE (s+n)=xm n (sp s)) (hc:∀b,c (b+n)=(c b).map (xm n)):∀k b,ez SE c z k (b+n)=(ez sp c z k b).map (xm n)
 |0,b=>rfl
 |k+1,b=>by
  have h:=xw hs hc (z:=z) k (b+1+z);have e1:b+1+z+n=b+n+1+z:=by omega
  have e2:b+n+1=b+1+n:=by omega
  rw[e1] at h;rw[ez,ez,List.map_cons,List.map_append,hs,h,e2,hc]
theorem Cv {nd:da} {c:Nat→List aL} {z n b:Nat} (hc:∀b,c (b+n)=(c b).map (xm n)):l8 nd c z (b+n)=(l8 nd c z b).map (xm n):=by
 unfold l8
 split
 ·rw[List.map_append,rN hc,List.map_cons,List.map_append,vF,List.map_cons,List.map_nil,z6];have e1:b+n+nd.mn.toNat*z=b+nd.mn.toNat*z+n:=by omega
  have e2:b+nd.mn.toNat*z+n+1=b+nd.mn.toNat*z+1+n:=by omega
  have e3:b+nd.mn.toNat*z+n+z+2=b+nd.mn.toNat*z+z+2+n:=by omega
  rw[e1,e2,e3,hc]
 ·rw[List.map_append,rN hc];have e1:b+n+nd.mn.toNat*z=b+nd.mn.toNat*z+n:=by omega
  rw[e1]
  congr 1
  refine xw (fun s=>?_) hc _ _;rw[vF]
  congr 1
  omega
mutual
theorem pb (n:Nat):∀(t:Tr) (b:Nat),aQ t (b+n)=(aQ t b).map (xm n)
 | .mk nd ks,b=>by
  have hc:=fun b=>xX n ks b;have ha:=fun e b=>yf n e ks b;simp only[aQ]
  split
  ·rw[List.map_cons,List.map_nil,nZ _ _ _ _ (by decide) (by decide)]
  split
  ·rw[List.map_cons,List.map_nil,nZ _ _ _ _ (by decide) (by decide)]
  split
  ·rw[List.map_cons,List.map_nil,nZ _ _ _ _ (by decide) (by decide)]
  split
  ·exact hc b
  split
  ·rw[Nat.add_right_comm];exact ha _ b
  split
  ·exact Cv hc
  split
  ·rw[List.map_cons,List.map_append,List.map_cons,List.map_nil,nZ _ _ _ _ (by decide) (by decide),nZ _ _ _ _ (by decide) (by decide),Nat.add_right_comm,hc]
  ·rfl
theorem xX (n:Nat):∀(ts:bA) (b:Nat),eZ ts (b+n)=(eZ ts b).map (xm n)
 | .nil,b=>by simp only[eZ,List.map_nil]
 | .cons t ts,b=>by
  have h:=xX n ts (b+t.sz);rw[Nat.add_right_comm] at h;simp only[eZ,List.map_append];rw[pb n t b,h]
theorem yf (n:Nat):∀(e:Nat) (ts:bA) (b:Nat),dX (ly (e+n)) ts (b+n)=(dX (ly e) ts b).map (xm n)
 |e,.nil,b=>by simp only[dX,List.map_nil]
 |e,.cons t ts,b=>by
  have h:=yf n e ts (b+t.sz+2);have h1:=pb n t (b+1);have e1:b+t.sz+2+n=b+n+t.sz+2:=by omega
  have e2:b+1+n=b+n+1:=by omega
  have e3:b+1+t.sz+1+n=b+n+1+t.sz+1:=by omega
  rw[e1] at h;rw[e2] at h1;simp only[dX]
  split
  ·exact pb n t b
  ·rw[List.map_cons,List.map_append,List.map_cons,vF,z6,h1,h,e3]
end
def mO (lo hi:Nat) (i:aL):Prop:=i.op≠7∧(i.op=2→((lo:Int)≤i.x∧i.x≤hi)∧(lo:Int)≤i.y∧i.y≤hi)∧(i.op=3→(lo:Int)≤i.x∧i.x≤hi)
theorem mO.mono {lo hi qW gO:Nat} {i:aL} (h:mO lo hi i) (h1:qW≤lo) (h2:hi≤gO):mO qW gO i:=
 ⟨h.1,fun e=>by have:=h.2.1 e;omega,fun e=>by have:=h.2.2 e;omega⟩
theorem mO.mk {lo hi:Nat} {op:Int} (x y:Int) (rs:List Rg) (h2:op≠2) (h3:op≠3) (h7:op≠7):mO lo hi (cJ op x y rs):=⟨h7,fun h=>absurd h h2,fun h=>absurd h h3⟩
theorem mO.sp {lo hi s o:Nat} {lz:Bool} (h1:lo≤s+1∧s+1≤hi) (h2:lo≤o∧o≤hi):mO lo hi (l3 s o lz):=by
 cases lz
 ·exact⟨by show(2:Int)≠7;decide,fun _=>by show((lo:Int)≤((s+1:Nat):Int)∧((s+1:Nat):Int)≤hi)∧(lo:Int)≤(o:Int)∧(o:Int)≤hi;omega,fun h=>absurd h (by show¬(2:Int)=3;decide)⟩
 ·exact⟨by show(2:Int)≠7;decide,fun _=>by show((lo:Int)≤(o:Int)∧(o:Int)≤hi)∧(lo:Int)≤((s+1:Nat):Int)∧((s+1:Nat):Int)≤hi;omega,fun h=>absurd h (by show¬(2:Int)=3;decide)⟩
theorem mO.jp {lo hi e:Nat} (h1:lo≤e∧e≤hi):mO lo hi (ly e):=
 ⟨by show(3:Int)≠7;decide,fun h=>absurd h (by show¬(3:Int)=2;decide),fun _=>by show(lo:Int)≤(e:Int)∧(e:Int)≤hi;omega⟩
theorem rO {c:Nat→List aL} {z:Nat} (hc:∀b,∀i∈c b,mO b (b+z) i):∀k b,∀i∈eG c z k b,mO b (b+k*z) i
 |0,b,i,hi=>by cases hi
 |k+1,b,i,hi=>by
  simp only[eG] at hi;rw[Nat.succ_mul]
  rcases List.mem_append.1 hi with hi|hi
  ·exact(hc b i hi).mono (Nat.le_refl _) (by omega)
  ·exact(rO hc k _ i hi).mono (by omega) (by omega)
theorem xx {sp:Nat→aL} {c:Nat→List aL} {z lo hi:Nat} (hs:∀s,lo≤s→s+1≤hi→mO lo hi (sp s)) (hc:∀b,∀i∈c b,mO b (b+z) i):∀k b,lo≤b→b+k*(z+1)≤hi→∀i∈ez sp c z k b,mO lo hi i
 |0,b,_,_,i,gO=>by cases gO
 |k+1,b,h1,h2,i,gO=>by
  simp only[ez] at gO;rw[Nat.succ_mul] at h2
  rcases List.mem_cons.1 gO with rfl|gO
  ·exact hs b h1 (by omega)
  ·rcases List.mem_append.1 gO with gO|gO
   ·exact(hc _ i gO).mono (by omega) (by omega)
   ·exact xx hs hc k _ (by omega) (by omega) i gO
mutual
theorem pe:∀(t:Tr) (b:Nat),t.ok→∀i∈aQ t b,mO b (b+t.sz) i
 | .mk n ks,b,ba,i,hi=>by
  simp only[Tr.ok] at ba;have hc:=fun b=>xY ks b ba.2;obtain⟨_,hq⟩:=ba.1;simp only[aQ] at hi;simp only[Tr.sz]
  by_cases q2:n.op=2
  ·rw[if_pos q2] at hi;simp only[List.mem_cons,List.not_mem_nil,or_false] at hi;subst hi;exact mO.mk _ _ _ (by decide) (by decide) (by decide)
  rw[if_neg q2] at hi
  by_cases q7:n.op=7
  ·rw[if_pos q7] at hi;simp only[List.mem_cons,List.not_mem_nil,or_false] at hi;subst hi;exact mO.mk _ _ _ (by decide) (by decide) (by decide)
  rw[if_neg q7] at hi
  by_cases q8:n.op=8
  ·rw[if_pos q8] at hi;simp only[List.mem_cons,List.not_mem_nil,or_false] at hi;subst hi;exact mO.mk _ _ _ (by decide) (by decide) (by decide)
  rw[if_neg q8] at hi
  have hz:∀s k,bH n s k=if n.op=4 then s+2*(k-1) else if n.op=6 then s+2 else if n.op=5 then(if n.mx=-1 then n.mn.toNat*s+s+2 else n.mn.toNat*s+(n.mx.toNat-n.mn.toNat)*(s+1)) else s:=by
   intro s k;unfold bH;rw[if_neg (by omega)]
  by_cases q3:n.op=3
  ·rw[if_pos q3] at hi;rw[hz,if_neg (by omega),if_neg (by omega),if_neg (by omega)];exact hc b i hi
  rw[if_neg q3] at hi
  by_cases q4:n.op=4
  ·rw[if_pos q4] at hi;have M1:bH n ks.sz ks.len=ks.sz+2*(ks.len-1):=by rw[hz,if_pos q4]
   rw[M1] at hi⊢;exact yg ks b (b+(ks.sz+2*(ks.len-1))) ba.2 (Nat.le_refl _) i hi
  rw[if_neg q4] at hi
  by_cases q5:n.op=5
  ·rw[if_pos q5] at hi;rw[hz,if_neg q4,if_neg (by omega),if_pos q5];unfold l8 at hi
   by_cases qm:n.mx=-1
   ·rw[if_pos qm] at hi⊢
    rcases List.mem_append.1 hi with hi|hi
    ·exact(rO hc _ _ i hi).mono (Nat.le_refl _) (by omega)
    ·rcases List.mem_cons.1 hi with rfl|hi
     ·exact mO.sp (by omega) (by omega)
     ·rcases List.mem_append.1 hi with hi|hi
      ·exact(hc _ i hi).mono (by omega) (by omega)
      ·simp only[List.mem_cons,List.not_mem_nil,or_false] at hi;subst hi;exact mO.jp (by omega)
   ·rw[if_neg qm] at hi⊢
    rcases List.mem_append.1 hi with hi|hi
    ·exact(rO hc _ _ i hi).mono (Nat.le_refl _) (by omega)
    ·exact xx (fun s h1 h2=>mO.sp (by omega) (by omega)) hc _ _ (by omega) (by omega) i hi
  rw[if_neg q5] at hi
  by_cases q6:n.op=6
  ·rw[if_pos q6] at hi;rw[hz,if_neg q4,if_pos q6]
   rcases List.mem_cons.1 hi with rfl|hi
   ·exact mO.mk _ _ _ (by decide) (by decide) (by decide)
   ·rcases List.mem_append.1 hi with hi|hi
    ·exact(hc _ i hi).mono (by omega) (by omega)
    ·simp only[List.mem_cons,List.not_mem_nil,or_false] at hi;subst hi;exact mO.mk _ _ _ (by decide) (by decide) (by decide)
  ·rw[if_neg q6] at hi;cases hi
theorem xY:∀(ts:bA) (b:Nat),ts.ok→∀i∈eZ ts b,mO b (b+ts.sz) i
 | .nil,b,_,i,hi=>by simp[eZ] at hi
 | .cons t ts,b,ba,i,hi=>by
  simp only[bA.ok] at ba;simp only[eZ] at hi;simp only[bA.sz]
  rcases List.mem_append.1 hi with hi|hi
  ·exact(pe t b ba.1 i hi).mono (Nat.le_refl _) (by omega)
  ·exact(xY ts _ ba.2 i hi).mono (by omega) (by omega)
theorem yg:∀(ts:bA) (b e:Nat),ts.ok→b+(ts.sz+2*(ts.len-1))≤e→∀i∈dX (ly e) ts b,mO b e i
 | .nil,b,e,_,_,i,hi=>by simp[dX] at hi
 | .cons t ts,b,e,ba,he,i,hi=>by
  simp only[bA.ok] at ba;simp only[dX] at hi;simp only[bA.sz,bA.len] at he
  by_cases q:ts.len=0
  ·rw[if_pos q] at hi;exact(pe t b ba.1 i hi).mono (Nat.le_refl _) (by omega)
  ·rw[if_neg q] at hi
   rcases List.mem_cons.1 hi with rfl|hi
   ·exact mO.sp (by omega) (by omega)
   ·rcases List.mem_append.1 hi with hi|hi
    ·exact(pe t _ ba.1 i hi).mono (by omega) (by omega)
    ·rcases List.mem_cons.1 hi with rfl|hi
     ·exact mO.jp (by omega)
     ·exact(yg ts _ e ba.2 (by omega) i hi).mono (by omega) (by omega)
end
theorem wQ (r:Nat) (c:List aL) (s:List Int):ec [] r c s=⟨c,s,0,0⟩:=by simp only[ec]
theorem u7 {code:List aL} {pc:Nat} {i:aL} (h:(code.map dS)[pc]?=some i):∃q,code[pc]?=some q∧i=dS q:=by
 rw[List.getElem?_map] at h;obtain⟨q,hq,rfl⟩:=Option.map_eq_some_iff.1 h;exact⟨q,hq,rfl⟩
theorem get_copy {code:List aL} {pc:Nat} {i:aL} (h:code[pc]?=some i):(code.map dS)[pc]?=some (dS i):=by
 rw[List.getElem?_map,h];rfl
theorem uZ (code:List aL):∀(f:Nat) (seen:List Bool) (fW:List Int),wJ (code.map dS) f seen fW=wJ code f seen fW
 |0,_,_=>rfl
 |_+1,_,[]=>rfl
 |f+1,seen,v::fW=>by
  have ih:=uZ code f;unfold wJ;rw[List.getElem?_map]
  cases h1:seen[v.toNat]? with
  |none=>exact ih _ _
  |some b=>
   cases b with
   |true=>exact ih _ _
   |false=>
    cases h2:code[v.toNat]? with
    |none=>rfl
    |some i=>exact ih _ _
theorem om (code:List aL) (s:Int):cm (code.map dS) s=cm code s:=by
 unfold cm;rw[List.length_map,uZ]
theorem vJ {p q:Pg} (h1:q.code=p.code.map dS) (h2:q.az=p.az):bU q↔bU p:=by
 have hl:q.code.length=p.code.length:=by rw[h1];simp
 constructor
 ·intro h;refine⟨by rw[←hl];exact h.cl,by rw[←h2];exact h.sl,fun pc i hi=>?_,fun v hv=>?_,fun r s hs pc i Ba zB hi fe=>?_⟩
  ·have:=h.sh pc (dS i) (by rw[h1];exact get_copy hi);rw[hl,h2] at this;exact this
  ·have:=h.st v (by rw[h2];exact hv);rw[hl] at this;exact this
  ·exact h.fo r s (by rw[h2];exact hs) pc (dS i) (by rw[hl];exact Ba) (by rw[h1,om];exact zB) (by rw[h1];exact get_copy hi) fe
 ·intro h;refine⟨by rw[hl];exact h.cl,by rw[h2];exact h.sl,fun pc i hi=>?_,fun v hv=>?_,fun r s hs pc i Ba zB hi fe=>?_⟩
  ·rw[h1] at hi;obtain⟨j,hj,rfl⟩:=u7 hi;rw[hl,h2];exact h.sh pc j hj
  ·rw[hl];exact h.st v (by rw[←h2];exact hv)
  ·rw[h1] at hi zB;rw[om] at zB;obtain⟨j,hj,rfl⟩:=u7 hi;exact h.fo r s (by rw[←h2];exact hs) pc j (by rw[←hl];exact Ba) zB hj fe
def ig (seen:List Bool) (v:Int):Prop:=0≤v∧seen[v.toNat]?=some true
structure w9 (code:List aL) (start:Int) (seen:List Bool) (fW:List Int):Prop where
 a:∀u i,seen[u]?=some true→code[u]?=some i→∀w∈cx u i,ig seen w∨w∈fW
 b:∀v∈fW,v=start∨∃u i,seen[u]?=some true∧code[u]?=some i∧v∈cx u i
 c:∀v,ig seen v→v=start∨∃u i,seen[u]?=some true∧code[u]?=some i∧v∈cx u i∧v≠(u:Int)
 d:ig seen start∨start∈fW
theorem et {seen:List Bool} {k:Nat} (hk:k<seen.length) {v:Int}:ig (seen.set k true) v↔v=(k:Int)∨ig seen v:=by
 unfold ig;constructor
 ·rintro⟨h0,h⟩
  by_cases hv:v.toNat=k
  ·left;omega
  ·rw[List.getElem?_set_ne (fun e=>hv e.symm)] at h;exact .inr ⟨h0,h⟩
 ·rintro(rfl|⟨h0,h⟩)
  ·exact⟨by omega,by rw[Int.toNat_natCast,List.getElem?_set_self hk]⟩
  ·refine⟨h0,?_⟩
   by_cases hv:v.toNat=k
   ·rw[hv,List.getElem?_set_self hk]
   ·rw[List.getElem?_set_ne (fun e=>hv e.symm)];exact h
theorem cX {seen:List Bool} {u:Nat}:seen[u]?=some true↔ig seen (u:Int):=by
 unfold ig;rw[Int.toNat_natCast];exact⟨fun h=>⟨by omega,h⟩,fun h=>h.2⟩
theorem wH {code:List aL} {start:Int} (hcl:hU code):∀(f:Nat) (seen:List Bool) (fW:List Int),seen.length=code.length→(∀v∈fW,0≤v∧v<(code.length:Int))→3*seen.count false+fW.length≤f→w9 code start seen fW→w9 code start (wJ code f seen fW) []
 |0,seen,fW,_,_,hm,hi=>by
  have:fW=[]:=by cases fW with|nil=>rfl|cons _ _=>simp at hm
  subst this;exact hi
 |f+1,seen,[],_,_,_,hi=>hi
 |f+1,seen,v::fW,hl,hs,hm,hi=>by
  have hv:=hs v (List.mem_cons_self ..);have sH:∀w∈fW,0≤w∧w<(code.length:Int):=fun w hw=>hs w (List.mem_cons_of_mem _ hw);obtain⟨k,rfl⟩:=Int.eq_ofNat_of_zero_le hv.1;have hk:k<code.length:=by omega
  obtain⟨i,hci⟩:∃i,code[k]?=some i:=⟨code[k]'hk,List.getElem?_eq_getElem _⟩
  obtain⟨b,hb⟩:∃b,seen[k]?=some b:=⟨seen[k]'(by omega),List.getElem?_eq_getElem _⟩
  simp only[List.length_cons] at hm;have hp:∀w,w∈((k:Int)::fW)→w=(k:Int)∨w∈fW:=fun w hw=>List.mem_cons.1 hw;unfold wJ;simp only[Int.toNat_natCast,hb,hci]
  cases b with
  |true=>
   have kX:ig seen (k:Int):=cX.1 hb;refine wH hcl f seen fW hl sH (by omega) ⟨fun u j hu hj w hw=>?_,fun w hw=>hi.b w (List.mem_cons_of_mem _ hw),hi.c,?_⟩
   ·rcases hi.a u j hu hj w hw with h|h
    ·exact .inl h
    ·rcases hp w h with rfl|h
     ·exact .inl kX
     ·exact .inr h
   ·rcases hi.d with h|h
    ·exact .inl h
    ·rcases hp start h with h|h
     ·exact .inl (h▸kX)
     ·exact .inr h
  |false=>
   have uM:=count_set hb;have gF:k<seen.length:=by omega
   have Qo:=ue k i;refine wH hcl f _ _ (by rw[List.length_set];exact hl) (fun w hw=>?_) (by simp only[List.length_append,List.length_reverse];omega) ⟨fun u j hu hj w hw=>?_,fun w hw=>?_,fun w hw=>?_,?_⟩
   ·rcases List.mem_append.1 hw with hw|hw
    ·exact hcl k i hci w (List.mem_reverse.1 hw)
    ·exact sH w hw
   ·rcases(et gF).1 (cX.1 hu) with h|h
    ·have:u=k:=by omega
     subst this;rw[hci] at hj;cases hj;exact .inr (List.mem_append.2 (.inl (List.mem_reverse.2 hw)))
    ·rcases hi.a u j (cX.2 h) hj w hw with h|h
     ·exact .inl ((et gF).2 (.inr h))
     ·rcases hp w h with h|h
      ·exact .inl ((et gF).2 (.inl h))
      ·exact .inr (List.mem_append.2 (.inr h))
   ·rcases List.mem_append.1 hw with hw|hw
    ·exact .inr ⟨k,i,cX.2 ((et gF).2 (.inl rfl)),hci,List.mem_reverse.1 hw⟩
    ·rcases hi.b w (List.mem_cons_of_mem _ hw) with h|⟨u,j,h1,h2,h3⟩
     ·exact .inl h
     ·exact .inr ⟨u,j,cX.2 ((et gF).2 (.inr (cX.1 h1))),h2,h3⟩
   ·rcases(et gF).1 hw with rfl|h
    ·rcases hi.b (k:Int) (List.mem_cons_self ..) with h|⟨u,j,h1,h2,h3⟩
     ·exact .inl h
     ·refine .inr ⟨u,j,cX.2 ((et gF).2 (.inr (cX.1 h1))),h2,h3,fun e=>?_⟩;have:k=u:=by omega
      subst this;rw[hb] at h1;cases h1
    ·rcases hi.c w h with h|⟨u,j,h1,h2,h3,h4⟩
     ·exact .inl h
     ·exact .inr ⟨u,j,cX.2 ((et gF).2 (.inr (cX.1 h1))),h2,h3,h4⟩
   ·rcases hi.d with h|h
    ·exact .inl ((et gF).2 (.inr h))
    ·rcases hp start h with h|h
     ·exact .inl ((et gF).2 (.inl h))
     ·exact .inr (List.mem_append.2 (.inr h))
theorem tP {code:List aL} {start:Int} (hcl:hU code) (fZ:0≤start∧start<(code.length:Int)):w9 code start (cm code start) []:=by
 have kP:∀v,¬ig (List.replicate code.length false) v:=by
  rintro v ⟨h0,h⟩;rw[List.getElem?_replicate] at h
  split at h<;>cases h
 refine wH hcl _ _ _ (by simp) (fun v hv=>?_) (by simp) ⟨fun u i hu=>absurd (cX.1 hu) (kP _),fun v hv=>?_,fun v hv=>absurd hv (kP v),.inr (by simp)⟩
 ·simp only[List.mem_cons,List.not_mem_nil,or_false] at hv;subst hv;exact fZ
 ·simp only[List.mem_cons,List.not_mem_nil,or_false] at hv;exact .inl hv
theorem iD:∀{L:List Bool} {s:Nat} {v:Int},v∈oz s L↔∃k:Nat,L[k]?=some true∧v=((s+k:Nat):Int)
 |[],s,v=>⟨fun h=>(by cases h),fun⟨k,h,_⟩=>by simp at h⟩
 |b::l,s,v=>by
  simp only[oz,List.mem_append];constructor
  ·rintro(h|h)
   ·split at h
    ·rename_i hb;simp only[List.mem_cons,List.not_mem_nil,or_false] at h;exact⟨0,by simp[hb],by rw[h];simp⟩
    ·cases h
   ·obtain⟨k,h1,h2⟩:=iD.1 h;exact⟨k+1,by simpa using h1,by rw[h2];congr 1;omega⟩
  ·rintro⟨k,h1,h2⟩
   cases k with
   |zero=>simp at h1;subst h1;left;simp[h2]
   |succ k=>exact .inr (iD.2 ⟨k,by simpa using h1,by rw[h2];congr 1;omega⟩)
theorem qw : ∀ (L : List Bool) (s : Nat), (oz s L).Pairwise (· < ·)
 | [], s => .nil
 | b :: l, s => by
  simp only [oz];have ih := qw l (s + 1)
  split
  ·rw [List.singleton_append, List.pairwise_cons];refine ⟨fun v hv => ?_, ih⟩;obtain ⟨k, _, rfl⟩ := iD.1 hv;omega
  ·exact ih
def cO (lo hi:Nat) (i:aL):Prop:=
 (i.op=1∧i.x=0∧i.y=0∧eF i.rs=true)∨(i.op=2∧i.rs=[]∧((lo:Int)≤i.x∧i.x≤hi)∧(lo:Int)≤i.y∧i.y≤hi)∨(i.op=3∧i.rs=[]∧i.y=0∧(lo:Int)≤i.x∧i.x≤hi)∨(i.op=4∧i.rs=[]∧i.y=0∧0≤i.x∧i.x<10)∨((i.op=5∨i.op=6)∧i.rs=[]∧i.y=0∧i.x=0)
theorem cO.mono {lo hi qW gO:Nat} {i:aL} (h:cO lo hi i) (h1:qW≤lo) (h2:hi≤gO):cO qW gO i:=by
 rcases h with h|⟨a,b,c,d⟩|⟨a,b,c,d⟩|h|h
 ·exact .inl h
 ·exact .inr (.inl ⟨a,b,by omega,by omega⟩)
 ·exact .inr (.inr (.inl ⟨a,b,c,by omega⟩))
 ·exact .inr (.inr (.inr (.inl h)))
 ·exact .inr (.inr (.inr (.inr h)))
theorem cO.sp {lo hi s o:Nat} {lz:Bool} (h1:lo≤s+1∧s+1≤hi) (h2:lo≤o∧o≤hi):cO lo hi (l3 s o lz):=by
 refine .inr (.inl ?_);cases lz
 ·refine⟨rfl,rfl,?_⟩;show((lo:Int)≤((s+1:Nat):Int)∧((s+1:Nat):Int)≤hi)∧(lo:Int)≤(o:Int)∧(o:Int)≤hi;omega
 ·refine⟨rfl,rfl,?_⟩;show((lo:Int)≤(o:Int)∧(o:Int)≤hi)∧(lo:Int)≤((s+1:Nat):Int)∧((s+1:Nat):Int)≤hi;omega
theorem cO.jp {lo hi e:Nat} (h1:lo≤e∧e≤hi):cO lo hi (ly e):=by
 refine .inr (.inr (.inl ⟨rfl,rfl,rfl,?_⟩));show(lo:Int)≤(e:Int)∧(e:Int)≤hi;omega
theorem cO.save {lo hi:Nat} {x:Int} (h:0≤x∧x<10):cO lo hi (cJ 4 x 0 []):=.inr (.inr (.inr (.inl ⟨rfl,rfl,rfl,h⟩)))
theorem l_ {c:Nat→List aL} {z:Nat} (hc:∀b,∀i∈c b,cO b (b+z) i):∀k b,∀i∈eG c z k b,cO b (b+k*z) i
 |0,b,i,hi=>by cases hi
 |k+1,b,i,hi=>by
  simp only[eG] at hi;rw[Nat.succ_mul]
  rcases List.mem_append.1 hi with hi|hi
  ·exact(hc b i hi).mono (Nat.le_refl _) (by omega)
  ·exact(l_ hc k _ i hi).mono (by omega) (by omega)
theorem p_ {sp:Nat→aL} {c:Nat→List aL} {z lo hi:Nat} (hs:∀s,lo≤s→s+1≤hi→cO lo hi (sp s)) (hc:∀b,∀i∈c b,cO b (b+z) i):∀k b,lo≤b→b+k*(z+1)≤hi→∀i∈ez sp c z k b,cO lo hi i
 |0,b,_,_,i,gO=>by cases gO
 |k+1,b,h1,h2,i,gO=>by
  simp only[ez] at gO;rw[Nat.succ_mul] at h2
  rcases List.mem_cons.1 gO with rfl|gO
  ·exact hs b h1 (by omega)
  ·rcases List.mem_append.1 gO with gO|gO
   ·exact(hc _ i gO).mono (by omega) (by omega)
   ·exact p_ hs hc k _ (by omega) (by omega) i gO
def B8 (l:List da):Prop:=∀n∈l,n.op=2→eF n.rs=true
mutual
theorem jk:∀(t:Tr) (b:Nat),t.ok→B8 t.flat→∀i∈aQ t b,cO b (b+t.sz) i
 | .mk n ks,b,ba,iP,i,hi=>by
  simp only[Tr.ok] at ba;simp only[Tr.flat] at iP;have hc:=fun b=>rB ks b ba.2 (fun n hn=>iP n (List.mem_cons_of_mem _ hn));obtain⟨_,hq⟩:=ba.1;simp only[aQ] at hi;simp only[Tr.sz]
  by_cases q2:n.op=2
  ·rw[if_pos q2] at hi;simp only[List.mem_cons,List.not_mem_nil,or_false] at hi;subst hi;exact .inl ⟨rfl,rfl,rfl,iP n (List.mem_cons_self ..) q2⟩
  rw[if_neg q2] at hi
  by_cases q7:n.op=7
  ·rw[if_pos q7] at hi;simp only[List.mem_cons,List.not_mem_nil,or_false] at hi;subst hi;exact .inr (.inr (.inr (.inr ⟨.inl rfl,rfl,rfl,rfl⟩)))
  rw[if_neg q7] at hi
  by_cases q8:n.op=8
  ·rw[if_pos q8] at hi;simp only[List.mem_cons,List.not_mem_nil,or_false] at hi;subst hi;exact .inr (.inr (.inr (.inr ⟨.inr rfl,rfl,rfl,rfl⟩)))
  rw[if_neg q8] at hi
  have hz:∀s k,bH n s k=if n.op=4 then s+2*(k-1) else if n.op=6 then s+2 else if n.op=5 then(if n.mx=-1 then n.mn.toNat*s+s+2 else n.mn.toNat*s+(n.mx.toNat-n.mn.toNat)*(s+1)) else s:=by
   intro s k;unfold bH;rw[if_neg (by omega)]
  by_cases q3:n.op=3
  ·rw[if_pos q3] at hi;rw[hz,if_neg (by omega),if_neg (by omega),if_neg (by omega)];exact hc b i hi
  rw[if_neg q3] at hi
  by_cases q4:n.op=4
  ·rw[if_pos q4] at hi;have M1:bH n ks.sz ks.len=ks.sz+2*(ks.len-1):=by rw[hz,if_pos q4]
   rw[M1] at hi⊢;exact rE ks b (b+(ks.sz+2*(ks.len-1))) ba.2 (fun n hn=>iP n (List.mem_cons_of_mem _ hn)) (Nat.le_refl _) i hi
  rw[if_neg q4] at hi
  by_cases q5:n.op=5
  ·rw[if_pos q5] at hi;rw[hz,if_neg q4,if_neg (by omega),if_pos q5];unfold l8 at hi
   by_cases qx:n.mx=-1
   ·rw[if_pos qx] at hi⊢
    rcases List.mem_append.1 hi with hi|hi
    ·exact(l_ hc _ _ i hi).mono (Nat.le_refl _) (by omega)
    ·rcases List.mem_cons.1 hi with rfl|hi
     ·exact cO.sp (by omega) (by omega)
     ·rcases List.mem_append.1 hi with hi|hi
      ·exact(hc _ i hi).mono (by omega) (by omega)
      ·simp only[List.mem_cons,List.not_mem_nil,or_false] at hi;subst hi;exact cO.jp (by omega)
   ·rw[if_neg qx] at hi⊢
    rcases List.mem_append.1 hi with hi|hi
    ·exact(l_ hc _ _ i hi).mono (Nat.le_refl _) (by omega)
    ·exact p_ (fun s h1 h2=>cO.sp (by omega) (by omega)) hc _ _ (by omega) (by omega) i hi
  rw[if_neg q5] at hi
  by_cases q6:n.op=6
  ·rw[if_pos q6] at hi;rw[hz,if_neg q4,if_pos q6]
   rcases List.mem_cons.1 hi with rfl|hi
   ·exact cO.save (by omega)
   ·rcases List.mem_append.1 hi with hi|hi
    ·exact(hc _ i hi).mono (by omega) (by omega)
    ·simp only[List.mem_cons,List.not_mem_nil,or_false] at hi;subst hi;exact cO.save (by omega)
  ·rw[if_neg q6] at hi;cases hi
theorem rB:∀(ts:bA) (b:Nat),ts.ok→B8 ts.flat→∀i∈eZ ts b,cO b (b+ts.sz) i
 | .nil,b,_,_,i,hi=>by simp[eZ] at hi
 | .cons t ts,b,ba,iP,i,hi=>by
  simp only[bA.ok] at ba;simp only[bA.flat] at iP;simp only[eZ] at hi;simp only[bA.sz]
  rcases List.mem_append.1 hi with hi|hi
  ·exact(jk t b ba.1 (fun n hn=>iP n (List.mem_append_left _ hn)) i hi).mono (Nat.le_refl _) (by omega)
  ·exact(rB ts _ ba.2 (fun n hn=>iP n (List.mem_append_right _ hn)) i hi).mono (by omega) (by omega)
theorem rE:∀(ts:bA) (b e:Nat),ts.ok→B8 ts.flat→b+(ts.sz+2*(ts.len-1))≤e→∀i∈dX (ly e) ts b,cO b e i
 | .nil,b,e,_,_,_,i,hi=>by simp[dX] at hi
 | .cons t ts,b,e,ba,iP,he,i,hi=>by
  simp only[bA.ok] at ba;simp only[bA.flat] at iP;simp only[dX] at hi;simp only[bA.sz,bA.len] at he;have h1:B8 t.flat:=fun n hn=>iP n (List.mem_append_left _ hn);have h2:B8 ts.flat:=fun n hn=>iP n (List.mem_append_right _ hn)
  by_cases q:ts.len=0
  ·rw[if_pos q] at hi;exact(jk t b ba.1 h1 i hi).mono (Nat.le_refl _) (by omega)
  ·rw[if_neg q] at hi
   rcases List.mem_cons.1 hi with rfl|hi
   ·exact cO.sp (by omega) (by omega)
   ·rcases List.mem_append.1 hi with hi|hi
    ·exact(jk t _ ba.1 h1 i hi).mono (by omega) (by omega)
    ·rcases List.mem_cons.1 hi with rfl|hi
     ·exact cO.jp (by omega)
     ·exact(rE ts _ e ba.2 h2 (by omega) i hi).mono (by omega) (by omega)
end
inductive Path (C:List aL):Nat→Nat→Prop where
 |refl (u:Nat):Path C u u
 |step {u v w:Nat} {i:aL} (h:C[u]?=some i) (hn:(v:Int)∈cx u i) (p:Path C v w):Path C u w
theorem Path.trans {C:List aL} {u v w:Nat} (h:Path C u v) (g:Path C v w):Path C u w:=by
 induction h with
 |refl=>exact g
 |step h hn _ ih=>exact .step h hn (ih g)
theorem Path.wD {C:List aL} {u:Nat} {i:aL} (h:C[u]?=some i) (ho:i.op≠2∧i.op≠3∧i.op≠7):Path C u (u+1):=
 .step h (by unfold cx;rw[if_neg ho.1,if_neg ho.2.1,if_neg ho.2.2];exact List.mem_cons_self ..) (.refl _)
theorem Path.jp {C:List aL} {u e:Nat} (h:C[u]?=some (ly e)):Path C u e:=
 .step h (by show(e:Int)∈cx u (cJ 3 (e:Nat) 0 []);unfold cx;rw[if_neg (show¬(cJ 3 (e:Nat) 0 []).op=2 by show¬(3:Int)=2;decide),if_pos (show(cJ 3 (e:Nat) 0 []).op=3 from rfl)];exact List.mem_cons_self ..) (.refl _)
theorem Path.sp {C:List aL} {u s o:Nat} {lz:Bool} (h:C[u]?=some (l3 s o lz)):Path C u (s+1)∧Path C u o:=by
 have hn:cx u (l3 s o lz)=[(l3 s o lz).x,(l3 s o lz).y]:=by
  unfold cx;rw[if_pos (by cases lz<;>rfl)]
 cases lz
 ·exact⟨.step h (by rw[hn];exact List.mem_cons_self ..) (.refl _),.step h (by rw[hn];exact List.mem_cons_of_mem _ (List.mem_cons_self ..)) (.refl _)⟩
 ·exact⟨.step h (by rw[hn];exact List.mem_cons_of_mem _ (List.mem_cons_self ..)) (.refl _),.step h (by rw[hn];exact List.mem_cons_self ..) (.refl _)⟩
theorem l9 {C:List aL} {c:Nat→List aL} {z:Nat} (hl:∀b,(c b).length=z) (hc:∀b,eS C b (c b)→Path C b (b+z)):∀k b,eS C b (eG c z k b)→Path C b (b+k*z)
 |0,b,_=>by rw[Nat.zero_mul];exact .refl _
 |k+1,b,h=>by
  rw[eG] at h;have h2:=h.right;rw[hl] at h2;have:=l9 hl hc k (b+z) h2;rw[Nat.succ_mul,show b+(k*z+z)=b+z+k*z by omega];exact(hc b h.left).trans this
theorem zp {C:List aL}:∀(m:Nat) (t:Tr),t.flat.length≤m→∀b:Nat,t.ok→eS C b (aQ t b)→Path C b (b+t.sz):=by
 intro m
 induction m with
 |zero=>intro t h;have:=t.gH;omega
 |succ m ih=>
  rintro⟨n,ks⟩ hm b ba h;simp only[Tr.flat,List.length_cons] at hm;simp only[Tr.ok] at ba
  have hcat:∀(ts:bA) (b:Nat),ts.flat.length≤m→ts.ok→eS C b (eZ ts b)→Path C b (b+ts.sz):=by
   intro ts
   induction ts using bA.rec (motive_1:=fun _=>True) with
   |mk=>trivial
   |nil=>intro b _ _ _;exact .refl _
   |cons t ts _ xH=>
    intro b h1 h2 h3;simp only[bA.flat,List.length_append] at h1;simp only[bA.ok] at h2;simp only[eZ] at h3;have h4:=h3.right;rw[ck t b h2.1] at h4;have h5:=xH (b+t.sz) (by omega) h2.2 h4;simp only[bA.sz];rw[←Nat.add_assoc];exact(ih t (by omega) b h2.1 h3.left).trans h5
  obtain⟨kP,kX⟩:=ba;obtain⟨_,hq⟩:=kP;have gF:=fun b=>lM ks b kX;simp only[aQ] at h;simp only[Tr.sz];have hz:∀s k,bH n s k=if n.op=2∨n.op=7∨n.op=8 then 1 else if n.op=4 then s+2*(k-1) else if n.op=6 then s+2 else if n.op=5 then(if n.mx=-1 then n.mn.toNat*s+s+2 else n.mn.toNat*s+(n.mx.toNat-n.mn.toNat)*(s+1)) else s:=fun s k=>rfl;rw[hz]
  by_cases q2:n.op=2
  ·rw[if_pos q2] at h;rw[if_pos (.inl q2)];exact Path.wD h.head (by show(1:Int)≠2∧(1:Int)≠3∧(1:Int)≠7;decide)
  rw[if_neg q2] at h
  by_cases q7:n.op=7
  ·rw[if_pos q7] at h;rw[if_pos (.inr (.inl q7))];exact Path.wD h.head (by show(5:Int)≠2∧(5:Int)≠3∧(5:Int)≠7;decide)
  rw[if_neg q7] at h
  by_cases q8:n.op=8
  ·rw[if_pos q8] at h;rw[if_pos (.inr (.inr q8))];exact Path.wD h.head (by show(6:Int)≠2∧(6:Int)≠3∧(6:Int)≠7;decide)
  rw[if_neg q8] at h;rw[if_neg (by omega)]
  by_cases q3:n.op=3
  ·rw[if_pos q3] at h;rw[if_neg (by omega),if_neg (by omega),if_neg (by omega)];exact hcat ks b (by omega) kX h
  rw[if_neg q3] at h
  by_cases q4:n.op=4
  ·rw[if_pos q4] at h;have M1:bH n ks.sz ks.len=ks.sz+2*(ks.len-1):=by rw[hz,if_neg (by omega),if_pos q4]
   rw[M1] at h;rw[if_pos q4]
   cases ks with
   |nil=>simp only[bA.len] at hq;omega
   |cons t ts=>
    simp only[bA.len] at hq;simp only[bA.flat,List.length_append] at hm;simp only[bA.ok] at kX;simp only[dX] at h;rw[if_neg (by omega)] at h;have h1:=(Path.sp h.head).1;have h2:=ih t (by omega) (b+1) kX.1 h.tail.left;have h3:=h.tail.right;rw[ck t _ kX.1] at h3;exact h1.trans (h2.trans (Path.jp h3.head))
  rw[if_neg q4] at h;rw[if_neg q4]
  by_cases q5:n.op=5
  ·rw[if_pos q5] at h;rw[if_neg (by omega),if_pos q5];unfold l8 at h
   by_cases qx:n.mx=-1
   ·rw[if_pos qx] at h⊢;have h1:=l9 gF (fun b hb=>hcat ks b (by omega) kX hb) _ _ h.left;have h2:=h.right;rw[iA gF] at h2;have h3:=(Path.sp h2.head).2;rw[show b+(n.mn.toNat*ks.sz+ks.sz+2)=b+n.mn.toNat*ks.sz+ks.sz+2 by omega];exact h1.trans h3
   ·rw[if_neg qx] at h⊢;have h1:=l9 gF (fun b hb=>hcat ks b (by omega) kX hb) _ _ h.left;have h2:=h.right;rw[iA gF] at h2
    by_cases hd:n.mx.toNat-n.mn.toNat=0
    ·rw[hd,Nat.zero_mul,Nat.add_zero];exact h1
    ·obtain⟨d,vu⟩:∃d,n.mx.toNat-n.mn.toNat=d+1:=⟨n.mx.toNat-n.mn.toNat-1,by omega⟩
     rw[vu] at h2⊢;rw[ez] at h2;have h3:=(Path.sp h2.head).2;rw[←Nat.add_assoc];exact h1.trans h3
  rw[if_neg q5] at h
  by_cases q6:n.op=6
  ·rw[if_pos q6] at h;rw[if_pos q6];have h1:Path C b (b+1):=Path.wD h.head (by show(4:Int)≠2∧(4:Int)≠3∧(4:Int)≠7;decide);have h2:=hcat ks (b+1) (by omega) kX h.tail.left;have h3:=h.tail.right;rw[gF] at h3;have h4:Path C (b+1+ks.sz) (b+1+ks.sz+1):=Path.wD h3.head (by show(4:Int)≠2∧(4:Int)≠3∧(4:Int)≠7;decide);rw[show b+(ks.sz+2)=b+1+ks.sz+1 by omega];exact h1.trans (h2.trans h4)
  ·have wy:ks.len=0:=by omega
   have:=bA.len_nil wy;subst this;rw[if_neg q6,if_neg q5];exact .refl _
theorem wI {code:List aL} {I:Nat→Prop} (hI:∀u i,I u→code[u]?=some i→∀v∈cx u i,I v.toNat):∀(f:Nat) (seen:List Bool) (fW:List Int),(∀v∈fW,I v.toNat)→(∀u:Nat,seen[u]?=some true→I u)→∀u:Nat,(wJ code f seen fW)[u]?=some true→I u
 |0,seen,fW,_,h2,u,h=>h2 u h
 |f+1,seen,[],_,h2,u,h=>h2 u h
 |f+1,seen,v::fW,h1,h2,u,h=>by
  have hv:=h1 v (List.mem_cons_self ..);have hs:∀w∈fW,I w.toNat:=fun w hw=>h1 w (List.mem_cons_of_mem _ hw);unfold wJ at h
  split at h
  ·split at h
   ·rename_i i hi;refine wI hI f _ _ (fun w hw=>?_) (fun w hw=>?_) u h
    ·rcases List.mem_append.1 hw with hw|hw
     ·exact hI _ i hv hi w (List.mem_reverse.1 hw)
     ·exact hs w hw
    ·by_cases he:v.toNat=w
     ·rw[←he];exact hv
     ·rw[List.getElem?_set_ne he] at hw;exact h2 w hw
   ·exact h2 u h
  ·exact wI hI f _ _ hs h2 u h
theorem yH {code:List aL} {start:Int} (hcl:hU code) (fZ:0≤start∧start<(code.length:Int)) {u v:Nat} (p:Path code u v):(cm code start)[u]?=some true→(cm code start)[v]?=some true:=by
 obtain⟨ha,_,_,_⟩:=tP hcl fZ
 induction p with
 |refl=>exact id
 |@step u v w i h hn _ ih=>
  intro hu;refine ih ?_
  rcases ha u i hu h _ hn with hs|hs
  ·exact cX.2 hs
  ·cases hs
theorem tO {code:List aL} {s:Nat} (hcl:hU code) (hs:s<code.length):(cm code (s:Nat))[s]?=some true:=by
 obtain⟨_,_,_,hd⟩:=tP (start:=((s:Nat):Int)) hcl ⟨by omega,by omega⟩
 rcases hd with hd|hd
 ·exact cX.2 hd
 ·cases hd
mutual
theorem Tr.Pp:∀t:Tr,True
 | .mk _ _=>trivial
theorem bA.Pp:∀t:bA,True
 | .nil=>trivial
 | .cons _ _=>trivial
end
theorem zZ {n:da} {g:Int} (h:(eE n g).2=true) (h2:n.op=2):eF n.rs=true:=by
 unfold eE at h
 split at h
 ·cases h
 ·rw[if_neg (show¬(n.op=1∨n.op=7∨n.op=8) by omega)] at h;have h:(n.kids==0 &&eF n.rs)=true:=h;rw[Bool.and_eq_true] at h;exact h.2
theorem xG {l:List da} {h:Nat→Nat→Option (Nat×Nat)} (ih:∀at_ g r,h at_ g=some r→at_≤r.1∧∀j n,at_≤j→j<r.1→l[j]?=some n→n.op=2→eF n.rs=true):∀k at_ g r,iG h k at_ g=some r→at_≤r.1∧∀j n,at_≤j→j<r.1→l[j]?=some n→n.op=2→eF n.rs=true
 |0,at_,g,r,e=>by
  simp only[iG,Option.some.injEq] at e;subst e;exact⟨Nat.le_refl _,fun j n h1 h2=>by simp only at h2;omega⟩
 |k+1,at_,g,r,e=>by
  unfold iG at e
  cases hq:h at_ g with
  |none=>rw[hq] at e;cases e
  |some q=>
   rw[hq] at e;obtain⟨t1,t2⟩:=ih _ _ _ hq;obtain⟨u1,u2⟩:=xG ih k _ _ _ e;refine⟨Nat.le_trans t1 u1,fun j n h1 h2 hj ho=>?_⟩
   by_cases V3:j<q.1
   ·exact t2 j n h1 V3 hj ho
   ·exact u2 j n (by omega) h2 hj ho
theorem Az {l:List da}:∀f at_ g r,gA l f at_ g=some r→at_≤r.1∧∀j n,at_≤j→j<r.1→l[j]?=some n→n.op=2→eF n.rs=true
 |0,_,_,_,e=>by simp[gA] at e
 |f+1,at_,g,r,e=>by
  unfold gA at e
  cases hn:l[at_]? with
  |none=>rw[hn] at e;cases e
  |some n=>
   rw[hn] at e;simp only at e
   split at e
   ·rename_i hs;obtain⟨u1,u2⟩:=xG (Az f) _ _ _ _ e;refine⟨by omega,fun j m h1 h2 hj ho=>?_⟩
    by_cases V5:j=at_
    ·subst V5;rw[hn] at hj;cases hj;exact zZ hs ho
    ·exact u2 j m (by omega) h2 hj ho
   ·cases e
theorem Ab {l:List da} (h:ft l=true):B8 l:=by
 unfold ft at h;simp only[Bool.and_eq_true] at h;obtain⟨_,h⟩:=h
 split at h
 ·rename_i r hr;rw[decide_eq_true_eq] at h;obtain⟨_,h2⟩:=Az _ _ _ _ hr;intro n hn ho;obtain⟨j,hj⟩:=List.getElem?_of_mem hn;exact h2 j n (Nat.zero_le _) (by rw[h];exact bz hj) hj ho
 ·cases h
structure LL (n0 r0:Nat) (C:List aL) (B:List Int) (k:Nat):Prop where
 bl:B.length=k
 fs:0<k→B[0]?=some ((n0:Nat):Int)
 el:∀j,j<k→∃(t:Tr) (b:Nat),t.ok∧B8 t.flat∧B[j]?=some (b:Int)∧n0≤b∧(∀b':Int,B[j+1]?=some b'→b'=((b+t.sz+3:Nat):Int))∧(j+1=k→n0+C.length=b+t.sz+3)∧∃pre post,C=pre++dY t b (r0+j)++post∧n0+pre.length=b
 al:∀i q,C[i]?=some q→∃j,j<k∧∃(t:Tr) (b:Nat),B[j]?=some (b:Int)∧t.ok∧B8 t.flat∧b≤n0+i∧n0+i<b+t.sz+3∧b+t.sz+3≤n0+C.length∧q∈dY t b (r0+j)∧(dY t b (r0+j))[n0+i-b]?=some q
theorem pa:∀(ls:List (List da)) (r:Nat) (c:List aL) (s:List Int),(ec ls r c s).e=0→∃C B,(ec ls r c s).code=c++C∧(ec ls r c s).az=s++B∧LL c.length r C B ls.length
 |[],r,c,s,h=>by
  rw[wQ];exact⟨[],[],by simp,by simp,rfl,fun h=>by simp at h,fun j hj=>by simp at hj,fun i q hi=>by simp at hi⟩
 |l::ls,r,c,s,h=>by
  rw[ec] at h⊢
  by_cases hr:ft l=false
  ·rw[if_pos hr] at h;cases h
  rw[if_neg hr] at h⊢;rw[Bool.not_eq_false] at hr
  by_cases hb:400<c.length+min (cw l).sz 401+3
  ·rw[if_pos hb] at h;cases h
  rw[if_neg hb] at h⊢;obtain⟨t1,t2⟩:=rI hr;have iP:B8 (cw l).flat:=by rw[t2];exact Ab hr
  have hlen:=j7 (b:=c.length) (r:=r) t1;obtain⟨C,B,h1,h2,h3⟩:=pa ls (r+1) _ _ h;rw[List.length_append,hlen] at h3;refine⟨dY (cw l) c.length r++C,((c.length:Nat):Int)::B,by rw[h1,List.append_assoc],by rw[h2,List.append_assoc];rfl,by simp[h3.bl],fun _=>rfl,fun j hj=>?_,fun i q hi=>?_⟩
  ·cases j with
   |zero=>
    refine⟨cw l,c.length,t1,iP,rfl,Nat.le_refl _,fun b' dD=>?_,fun Le=>?_,[],C,by simp,by simp⟩
    ·simp only[Nat.zero_add,List.getElem?_cons_succ] at dD;have hB:=h3.bl;have hlt:=bz dD;rw[h3.fs (by omega)] at dD;cases dD
     congr 1
    ·simp only[List.length_cons] at Le;have L0:ls.length=0:=by omega
     have hC:C=[]:=by
      cases hc:C with
      |nil=>rfl
      |cons q C'=>
       obtain⟨j,hj,_⟩:=h3.al 0 q (by rw[hc];rfl);omega
     rw[hC,List.append_nil,hlen];omega
   |succ j=>
    simp only[List.length_cons] at hj;obtain⟨t,b,q1,q2,q3,q4,q5,q6,pre,post,q7,q8⟩:=h3.el j (by omega);refine⟨t,b,q1,q2,q3,by omega,q5,fun Le=>?_,dY (cw l) c.length r++pre,post,?_,?_⟩
    ·simp only[List.length_cons] at Le;have:=q6 (by omega);rw[List.length_append,hlen];omega
    ·rw[q7,show r+1+j=r+(j+1) by omega];simp only[List.append_assoc]
    ·rw[List.length_append,hlen];omega
  ·by_cases hil:i<(dY (cw l) c.length r).length
   ·rw[List.getElem?_append_left hil] at hi;refine⟨0,by simp,cw l,c.length,rfl,t1,iP,by omega,by omega,by rw[List.length_append,hlen];omega,List.mem_of_getElem? hi,?_⟩;rw[show c.length+i-c.length=i by omega];exact hi
   ·rw[List.getElem?_append_right (by omega)] at hi;obtain⟨j,q1,t,b,q2,q3,q4,q5,q6,q7,q8,q9⟩:=h3.al _ q hi;rw[hlen] at q5 q6 q9 hil;refine⟨j+1,by simp only[List.length_cons];omega,t,b,q2,q3,q4,by omega,by omega,by rw[List.length_append,hlen];omega,by rw[show r+(j+1)=r+1+j by omega];exact q8,?_⟩;rw[show r+(j+1)=r+1+j by omega,show c.length+i-b=c.length+((cw l).sz+3)+(i-((cw l).sz+3))-b by omega];exact q9
end Go.Proofs.YtbdilgkfnacahaaGreat
