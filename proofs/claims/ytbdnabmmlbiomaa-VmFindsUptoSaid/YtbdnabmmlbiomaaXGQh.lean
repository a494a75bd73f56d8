/-
 The code of a repeat. %deep
-/
import Derived.Test.YtbdnabmmlbiomaaXGQd
import Derived.Test.YtbdnabmmlbiomaaXGPi
import Derived.Test.YtbdnabmmlbiomaaXGUb
set_option maxRecDepth 100000
set_option maxHeartbeats 4000000
set_option linter.unusedSimpArgs false
set_option linter.unusedVariables false
namespace Go.Proofs.Ytbdnabmmlbiomaa
open Go.V Go
def aa (fr:Go.V.Fr) (k:Nat):Go.V.D:=Go.V.nth .bw fr.loc k
theorem qO {c:Nat→List aK} (hc:∀b,(c b).length=0) (z:Nat):∀k b,eS c z k b=[]
 |0,_=>rfl
 |k+1,b=>by rw[eS,qO hc z k,List.length_eq_zero_iff.1 (hc b)];rfl
theorem Ao (s o:Nat) (lz:Bool):∃x y:Int,ml s o lz=cS 2 x y []:=by
 cases lz
 ·exact⟨_,_,rfl⟩
 ·exact⟨_,_,rfl⟩
theorem yT {l:List dr} (zV:l.length≤1048576) {m:Nat} (ih:∀t:Tr,t.flat.length≤m→pL l t) {n:dr} {t:Tr} (fw:n.op=5) (Th:t.flat.length≤m) (kP:uA n 1) (pX:t.ok) {N k:Nat} {S s0:St} {H:List bP} {nd zd ed:D} {code:List aK} {Z E:List Int} {at_:Nat} (hF:S.flr≤N) (wz:gY nd 7 (l.map a8)) (jb:fc l at_ (n::t.flat)) (hsz:fc Z (at_+1) t.zs) (tC:fc E (at_+1) (t.es (at_+1))) (hb:code.length+bL n t.sz 1≤1000000) (hM:LF N S s0 k nd zd ed Z E H code):
  ∃r ah,Ev pv 66 [.ptr k 0 0,.int .i64 (at_:Nat)] s0 r ah∧r=.tup []∧LF N S ah k nd zd ed Z E H (code++my n (aS t) t.sz code.length):=by
 obtain⟨cd,dk,hH⟩:=hM;have hle:=jb.le (by simp);simp only[List.length_cons] at hle;have hn:=jb.head;have jb:=jb.tail;have hO:=ky hn;have mP:=ei (xj hsz)
 have zU:0≤n.mn∧n.mn≤30∧(n.mx=-1∨(n.mn≤n.mx∧n.mx≤30)):=by
  obtain⟨_,hq⟩:=kP;omega
 have FV:bL n t.sz 1=if n.mx=-1 then n.mn.toNat*t.sz+t.sz+2 else n.mn.toNat*t.sz+(n.mx.toNat-n.mn.toNat)*(t.sz+1):=by unfold bL;rw[if_neg (by omega),if_neg (by omega),if_neg (by omega),if_pos fw]
 rw[FV] at hb;clear FV;have zf:=fun b=>ct t b pX;have hb1:code.length+n.mn.toNat*t.sz≤1000000:=by split at hb<;>omega
 refine Ev.jD rfl Rx rfl rfl rfl ?_;dsimp only[u3,u4,List.length,Nat.reduceSub,Nat.reduceAdd,w1,w2];change af _ _ _ _ s0 _;have hc:=wz.arg N S;refine qq<|qj fun K hK=>qm ?_;refine qg ?_;refine qp (o:=1) ?_;refine ql hH aB ?_;refine qm ?_;refine qr fun SP MZ=>?_;refine ab.eA rfl (ev rfl) (by assumption) rfl (by dsimp only[Fr.put,u1,u2]<;>rfl) ?_;refine qm ?_;refine qA ?_;refine qa hH fun k4 st Oi hH=>?_;refine qS hH aB fun st hH=>?_;dsimp only[u2,u1,u3,u4,setMany,u5,u6,D.cells,Nat.reduceAdd,aG,a8,aq,jT] at hH;refine qm ?_;refine qe hK ?_;have hH:Has N S st (.box k (.mem 0 false [cd,nd,zd,ed])::.deep dk cd 4 (code.map aG)::.aL zd 1 (Z.map aq)::.aL ed 1 (E.map aq)::.box k4 (.mem 0 false (a8 n))::H):=hH.E9;refine qq<|qq<|qj fun K hK=>qm ?_;refine qg ?_;refine qp (o:=2) ?_;refine ql hH aB ?_;refine qm ?_;refine qi hH cU fun Oa FR=>?_;refine qo hH cU ?_;refine qg ?_;refine qe hK ?_;have Wy:=iN zf n.mn.toNat code.length;refine af.merge (fun fr st=>∃(cd:D) (dk:Nat→Prop) (tmp:List (Nat×D)),fr=⟨78,[.ptr k 0 0,.int .i64 (at_:Nat),aa fr 2,aa fr 3,.ptr k4 0 0,.int .i64 ((at_+1:Nat):Int),aa fr 6,aa fr 7,aa fr 8,aa fr 9,aa fr 10,aa fr 11,aa fr 12,aa fr 13,aa fr 14,aa fr 15,aa fr 16,aa fr 17,aa fr 18,aa fr 19,aa fr 20,aa fr 21,aa fr 22,aa fr 23,aa fr 24,aa fr 25,aa fr 26,aa fr 27,aa fr 28,aa fr 29,aa fr 30,aa fr 31,aa fr 32,aa fr 33,aa fr 34,aa fr 35,aa fr 36,aa fr 37,aa fr 38,aa fr 39,aa fr 40,aa fr 41,aa fr 42,aa fr 43,aa fr 44,aa fr 45,aa fr 46,aa fr 47,aa fr 48,aa fr 49,aa fr 50,aa fr 51,aa fr 52,aa fr 53,aa fr 54,aa fr 55,aa fr 56,aa fr 57,aa fr 58,aa fr 59,aa fr 60,aa fr 61,aa fr 62,aa fr 63,aa fr 64,aa fr 65,aa fr 66,aa fr 67,aa fr 68,aa fr 69,aa fr 70,aa fr 71,aa fr 72,aa fr 73,aa fr 74,aa fr 75,aa fr 76,aa fr 77],tmp⟩∧Has N S st (.box k (.mem 0 false [cd,nd,zd,ed])::.deep dk cd 4 ((code++eS (aS t) t.sz n.mn.toNat code.length).map aG)::.aL zd 1 (Z.map aq)::.aL ed 1 (E.map aq)::.box k4 (.mem 0 false (a8 n))::H)) ?_ ?_
 ·refine af.cond (by rfl) (fun hz=>?_) (fun hz=>?_)<;>try simp only[decide_eq_true_eq,decide_eq_false_iff_not] at hz
  ·refine qq<|qj fun K hK=>qp (o:=2) ?_;refine ql hH fW ?_;refine qm ?_;refine qe hK<|af.block<|af.loop (fun mm fr st=>∃(i:Nat) (cd:D) (dk:Nat→Prop) (aV:List aK),fr.clean=⟨78,[.ptr k 0 0,.int .i64 (at_:Nat),aa fr 2,aa fr 3,.ptr k4 0 0,.int .i64 ((at_+1:Nat):Int),aa fr 6,aa fr 7,aa fr 8,aa fr 9,aa fr 10,aa fr 11,aa fr 12,aa fr 13,aa fr 14,aa fr 15,aa fr 16,aa fr 17,aa fr 18,aa fr 19,aa fr 20,aa fr 21,aa fr 22,aa fr 23,aa fr 24,aa fr 25,aa fr 26,aa fr 27,.int .i64 n.mn,.int .i64 (i:Nat),aa fr 30,aa fr 31,aa fr 32,aa fr 33,aa fr 34,aa fr 35,aa fr 36,aa fr 37,aa fr 38,aa fr 39,aa fr 40,aa fr 41,aa fr 42,aa fr 43,aa fr 44,aa fr 45,aa fr 46,aa fr 47,aa fr 48,aa fr 49,aa fr 50,aa fr 51,aa fr 52,aa fr 53,aa fr 54,aa fr 55,aa fr 56,aa fr 57,aa fr 58,aa fr 59,aa fr 60,aa fr 61,aa fr 62,aa fr 63,aa fr 64,aa fr 65,aa fr 66,aa fr 67,aa fr 68,aa fr 69,aa fr 70,aa fr 71,aa fr 72,aa fr 73,aa fr 74,aa fr 75,aa fr 76,aa fr 77],[]⟩∧Has N S st (.box k (.mem 0 false [cd,nd,zd,ed])::.deep dk cd 4 (aV.map aG)::.aL zd 1 (Z.map aq)::.aL ed 1 (E.map aq)::.box k4 (.mem 0 false (a8 n))::H)∧(i+mm=n.mn.toNat)∧(aV++eS (aS t) t.sz mm aV.length=code++eS (aS t) t.sz n.mn.toNat code.length)∧(aV.length+mm*t.sz=code.length+n.mn.toNat*t.sz)) (n.mn.toNat) ?_ ?_
   ·exact⟨0,cd,dk,code,rfl,hH,by omega,rfl,rfl⟩
   rintro mm fr st ⟨i,cd,dk,aV,hfr,hH,hi,ye,hcl⟩;rw[hfr];clear hfr;generalize aa fr=ee;clear fr;refine qq<|qj fun K hK=>qg ?_;refine qe hK ?_
   cases mm with
   |zero=>
    have ib:decide ((i:Int)<n.mn)=false:=by rw[decide_eq_false_iff_not];omega
    refine qq<|qE rfl (by rw[ib]) ?_;simp only[eS,List.append_nil] at ye;rw[ye] at hH;refine af.exit ?_;exact⟨cd,dk,_,rfl,hH⟩
   |succ mm=>
    have ib:decide ((i:Int)<n.mn)=true:=by rw[decide_eq_true_eq];omega
    rw[Nat.succ_mul] at hcl;refine qq<|qD rfl (by rw[ib]) ?_;refine af.skip<|qq<|af.block<|qj fun K hK=>qm ?_;refine qm ?_;obtain⟨_,st,aO,rfl,cd,dk,hH⟩:=ih t (by omega) hF wz jb hsz tC pX (by omega) ⟨cd,dk,hH⟩;refine qv aO ?_;refine qe hK<|qj fun K hK=>qA ?_;refine qm ?_;refine qe hK ?_;exact⟨mm,by omega,⟨i+1,cd,dk,aV++aS t aV.length,rfl,hH,by omega,by rw[List.length_append,zf,List.append_assoc];exact ye,by rw[List.length_append,zf];omega⟩⟩
  ·refine af.skip ?_;have hz0:t.sz=0:=by omega
   have K2:eS (aS t) t.sz n.mn.toNat code.length=[]:=qO (fun b=>by rw[zf,hz0]) _ _ _;exact⟨cd,dk,_,rfl,(by rw[K2,List.append_nil];exact hH)⟩
 ·rintro fr st ⟨cd,dk,tmp,hfr,hH⟩;rw[hfr];clear hfr;generalize aa fr=ee;clear fr;have Om:(code++eS (aS t) t.sz n.mn.toNat code.length).length=code.length+n.mn.toNat*t.sz:=by rw[List.length_append,Wy]
  unfold my;rw[←Om];rw[←Om] at hb1
  have hb2:if n.mx=-1 then(code++eS (aS t) t.sz n.mn.toNat code.length).length+t.sz+2≤1000000 else(code++eS (aS t) t.sz n.mn.toNat code.length).length+(n.mx.toNat-n.mn.toNat)*(t.sz+1)≤1000000:=by
   rw[Om];split
   ·rename_i h;rw[if_pos h] at hb;omega
   ·rename_i h;rw[if_neg h] at hb;omega
  have F4:∀X:List aK,code++(eS (aS t) t.sz n.mn.toNat code.length++X)=code++eS (aS t) t.sz n.mn.toNat code.length++X:=fun X=>by rw[List.append_assoc]
  simp only[apply_ite (fun X:List aK=>code++X),F4];clear F4 Om;generalize code++eS (aS t) t.sz n.mn.toNat code.length=cR at*;refine qq<|qq<|qj fun K hK=>qp (o:=3) ?_;refine ql hH fW ?_;refine qg ?_;refine qe hK ?_
  by_cases AE:n.mx=-1
  ·rw[if_pos AE];rw[if_pos AE] at hb2;refine qD rfl (by simp[AE]) ?_;refine qq<|qj fun K hK=>qm ?_;refine ab.go (d:=.agg [.int .i64 2,.int .i64 0,.int .i64 0,.nul]) (st1:=_) rfl rfl rfl (by dsimp only[Fr.put,u1,u2]<;>rfl) ?_;have hH:=hH.eB 2;obtain⟨_,st,aO,rfl,cd,dk,hH⟩:=fS (rs:=[]) hF (by omega) hH;refine qv aO ?_;refine qm ?_;refine qe hK ?_;have lO:(cR++[cS 2 0 0 []]).length=cR.length+1:=by simp
   refine qq<|qj fun K hK=>qm ?_;refine qm ?_;obtain⟨_,st,aO,rfl,cd,dk,hH⟩:=ih t (by omega) hF wz jb hsz tC pX (by omega) ⟨cd,dk,hH⟩;refine qv aO ?_;refine qe hK ?_;rw[lO] at hH;have mR:(cR++[cS 2 0 0 []]++aS t (cR.length+1)).length=cR.length+1+t.sz:=by rw[List.length_append,lO,zf]
   refine qq<|qj fun K hK=>qm ?_;refine qm ?_;refine ab.go (d:=.agg [.int .i64 3,.int .i64 (cR.length:Nat),.int .i64 0,.nul]) (st1:=_) rfl rfl rfl (by dsimp only[Fr.put,u1,u2]<;>rfl) ?_;have hH:=hH.eB 2;obtain⟨_,st,aO,rfl,cd,dk,hH⟩:=fS (rs:=[]) hF (by omega) hH;refine qv aO ?_;refine qe hK ?_
   have KY:(cR++[cS 2 0 0 []]++aS t (cR.length+1)++[cS 3 (cR.length:Nat) 0 []])[cR.length]?=some (cS 2 0 0 []):=by
    rw[List.append_assoc,List.append_assoc];exact oh _ _ _
   have Bz:(cR++[cS 2 0 0 []]++aS t (cR.length+1)++[cS 3 (cR.length:Nat) 0 []]).length=cR.length+t.sz+2:=by rw[List.length_append,mR];simp only[List.length_cons,List.length_nil];omega
   have FI:(cR++[cS 2 0 0 []]++aS t (cR.length+1)++[cS 3 (cR.length:Nat) 0 []]).set cR.length (ml cR.length (cR.length+t.sz+2) n.lz)=cR++(ml cR.length (cR.length+t.sz+2) n.lz::(aS t (cR.length+1)++[lI cR.length])):=by
    rw[List.append_assoc,List.append_assoc];exact n9 _ _ _ _
   generalize cR++[cS 2 0 0 []]++aS t (cR.length+1)++[cS 3 (cR.length:Nat) 0 []]=BT at*;refine qq<|qj fun K hK=>qm ?_;refine qm ?_;refine qm ?_;refine qg ?_;refine qp (o:=0) ?_;refine ql hH aB ?_;refine ab.zC hH rfl (ev rfl) (by exact b4) rfl (by dsimp only[Fr.put,u1,u2]<;>rfl) ?_;simp only[List.length_map,List.length_append,List.length_cons,List.length_nil];refine qp (o:=4) ?_;refine ql hH fW ?_;obtain⟨_,st,aO,rfl,hH⟩:=ou (at_:=cR.length) (over:=BT.length) (lz:=n.lz) KY (by omega) hH;refine qv aO ?_;refine qe hK ?_;rw[Bz,FI] at hH;refine af.ret ⟨rx,_,_,_,rfl,rfl,?_⟩;exact⟨rfl,cd,dk,hH.erase 4⟩
  ·rw[if_neg AE];rw[if_neg AE] at hb2;refine qE rfl (by simp[AE]) ?_;refine af.skip ?_;obtain⟨a,ha⟩:∃a:Nat,n.mn=(a:Int):=Int.eq_ofNat_of_zero_le zU.1;obtain⟨b,NL⟩:∃b:Nat,n.mx=(b:Int):=Int.eq_ofNat_of_zero_le (by omega);have QF:n.mx.toNat-n.mn.toNat=b-a:=by omega
   rw[QF] at hb2⊢;refine qq<|qj fun K hK=>qm ?_;refine qe hK<|qq<|qq<|qj fun K hK=>qp (o:=3) ?_;refine ql hH fW ?_;refine qp (o:=2) ?_;refine ql hH fW ?_;refine ab.lA (z:=((b-a:Nat):Int)) rfl (ev rfl) (ev rfl) (by(try simp only[List.length_reverse,List.length_cons,List.length_nil,List.length_append,List.length_map,List.length_set]);rw[wrap_i64 (by omega) (by omega)]<;>omega) (by dsimp only[Fr.put,u1,u2]<;>rfl) ?_;refine qm ?_;refine qe hK ?_;have hH:Has N S st (.box k (.mem 0 false [cd,nd,zd,ed])::.deep dk cd 4 (cR.map aG)::.aL zd 1 (Z.map aq)::.aL ed 1 (E.map aq)::.aL .nul 1 (([]:List Nat).map jT)::.box k4 (.mem 0 false (a8 n))::H):=(hH.eB 1).E9;refine af.block<|af.loop (fun mm fr st=>∃(i:Nat) (cd jd:D) (dk:Nat→Prop) (aV:List aK) (js:List Nat),fr.clean=⟨78,[.ptr k 0 0,.int .i64 (at_:Nat),aa fr 2,aa fr 3,.ptr k4 0 0,.int .i64 ((at_+1:Nat):Int),aa fr 6,jd,aa fr 8,aa fr 9,aa fr 10,aa fr 11,aa fr 12,aa fr 13,aa fr 14,aa fr 15,aa fr 16,aa fr 17,aa fr 18,aa fr 19,aa fr 20,aa fr 21,aa fr 22,aa fr 23,aa fr 24,aa fr 25,aa fr 26,aa fr 27,aa fr 28,aa fr 29,aa fr 30,aa fr 31,aa fr 32,aa fr 33,aa fr 34,aa fr 35,aa fr 36,aa fr 37,aa fr 38,aa fr 39,aa fr 40,aa fr 41,aa fr 42,aa fr 43,aa fr 44,aa fr 45,aa fr 46,aa fr 47,aa fr 48,aa fr 49,aa fr 50,aa fr 51,aa fr 52,aa fr 53,aa fr 54,aa fr 55,aa fr 56,aa fr 57,aa fr 58,aa fr 59,aa fr 60,aa fr 61,.int .i64 ((b-a:Nat):Int),.int .i64 (i:Nat),aa fr 64,aa fr 65,aa fr 66,aa fr 67,aa fr 68,aa fr 69,aa fr 70,aa fr 71,aa fr 72,aa fr 73,aa fr 74,aa fr 75,aa fr 76,aa fr 77],[]⟩∧Has N S st (.box k (.mem 0 false [cd,nd,zd,ed])::.deep dk cd 4 (aV.map aG)::.aL zd 1 (Z.map aq)::.aL ed 1 (E.map aq)::.aL jd 1 (js.map jT)::.box k4 (.mem 0 false (a8 n))::H)∧(i+mm=b-a)∧(aV++eL (fun _=>cS 2 0 0 []) (aS t) t.sz mm aV.length=cR++eL (fun _=>cS 2 0 0 []) (aS t) t.sz (b-a) cR.length)∧(js++uq t.sz mm aV.length=uq t.sz (b-a) cR.length)∧(aV.length+mm*(t.sz+1)=cR.length+(b-a)*(t.sz+1))∧(js.length=i)) (b-a) ?_ ?_
   ·exact⟨0,cd,.nul,dk,cR,[],rfl,hH,by omega,rfl,rfl,rfl,rfl⟩
   rintro mm fr st ⟨i,cd,jd,dk,aV,js,hfr,hH,hi,gS,hjs,hcl,kC⟩;rw[hfr];clear hfr;generalize aa fr=ee;clear fr;refine qq<|qj fun K hK=>qg ?_;refine qe hK ?_
   cases mm with
   |zero=>
    have ib:decide ((i:Int)<((b-a:Nat):Int))=false:=by rw[decide_eq_false_iff_not];omega
    refine qq<|qE rfl (by rw[ib]) ?_;refine af.exit<|qq<|qj fun K hK=>qm ?_;refine qn ?_ (hR:=hH.rows fW);simp only[List.length_map];refine qm ?_;refine qe hK ?_;simp only[eL,uq,List.append_nil] at gS hjs;rw[gS] at hH;obtain⟨FT,Kz⟩:=mB (sp:=fun s=>ml s (cR.length+(b-a)*(t.sz+1)) n.lz) zf (i0:=cS 2 0 0 []) (b-a) cR.length cR [] rfl;simp only[List.append_nil] at FT Kz;have QW:(cR++eL (fun _=>cS 2 0 0 []) (aS t) t.sz (b-a) cR.length).length=cR.length+(b-a)*(t.sz+1):=by rw[List.length_append,oJ zf]
    rw[←hjs] at FT Kz;rw[←FT];clear FT gS;generalize cR++eL (fun _=>cS 2 0 0 []) (aS t) t.sz (b-a) cR.length=C0 at*;generalize cR.length+(b-a)*(t.sz+1)=e at*;refine af.block<|af.loop (fun mm fr st=>∃(q:Nat) (C:List aK),fr.clean=⟨78,[.ptr k 0 0,aa fr 1,aa fr 2,aa fr 3,.ptr k4 0 0,aa fr 5,aa fr 6,aa fr 7,aa fr 8,aa fr 9,aa fr 10,aa fr 11,aa fr 12,aa fr 13,aa fr 14,aa fr 15,aa fr 16,aa fr 17,aa fr 18,aa fr 19,aa fr 20,aa fr 21,aa fr 22,aa fr 23,aa fr 24,aa fr 25,aa fr 26,aa fr 27,aa fr 28,aa fr 29,aa fr 30,aa fr 31,aa fr 32,aa fr 33,aa fr 34,aa fr 35,aa fr 36,aa fr 37,aa fr 38,aa fr 39,aa fr 40,aa fr 41,aa fr 42,aa fr 43,aa fr 44,aa fr 45,aa fr 46,aa fr 47,aa fr 48,aa fr 49,aa fr 50,aa fr 51,aa fr 52,aa fr 53,aa fr 54,aa fr 55,aa fr 56,aa fr 57,aa fr 58,aa fr 59,aa fr 60,aa fr 61,aa fr 62,aa fr 63,aa fr 64,aa fr 65,aa fr 66,aa fr 67,aa fr 68,aa fr 69,aa fr 70,aa fr 71,aa fr 72,aa fr 73,aa fr 74,jd,.int .i64 (js.length:Nat),.int .i64 (q:Nat)],[]⟩∧Has N S st (.box k (.mem 0 false [cd,nd,zd,ed])::.deep dk cd 4 (C.map aG)::.aL zd 1 (Z.map aq)::.aL ed 1 (E.map aq)::.aL jd 1 (js.map jT)::.box k4 (.mem 0 false (a8 n))::H)∧(q+mm=js.length)∧(gJ (fun s=>ml s e n.lz) C (js.drop q)=gJ (fun s=>ml s e n.lz) C0 js)∧(∀p∈js,∃x y:Int,C[p]?=some (cS 2 x y []))∧(C.length=e)) (js.length) ?_ ?_
    ·exact⟨0,C0,rfl,hH,by omega,rfl,fun p hp=>⟨_,_,Kz p hp⟩,QW⟩
    rintro mm fr st ⟨q,C,hfr,hH,hq,gi,lP,LD⟩;rw[hfr];clear hfr;generalize aa fr=ee;clear fr;refine qq<|qj fun K hK=>qg ?_;refine qe hK<|qq ?_;refine af.cond (by rfl) (fun hlt=>?_) (fun hlt=>?_)<;>try simp only[decide_eq_true_eq,decide_eq_false_iff_not] at hlt
    ·refine af.skip ?_;have GD:q<js.length:=by omega
     obtain⟨p,hp⟩:∃p,js[q]?=some p:=⟨js[q]'GD,List.getElem?_eq_getElem _⟩
     obtain⟨x,y,hv⟩:=lP p (List.mem_of_getElem? hp);have hO:=uD hp;have fF:=bj hv;refine qq<|af.block<|qq<|qj fun K hK=>qi hH fW fun Ua PH=>?_;refine qo hH fW ?_;refine qm ?_;refine qe hK<|qj fun K hK=>qm ?_;refine qm ?_;refine qm ?_;refine qg ?_;refine qp (o:=0) ?_;refine ql hH aB ?_;refine ab.zC hH rfl (ev rfl) (by exact b4) rfl (ae rfl _) ?_;simp only[List.length_map];refine qp (o:=4) ?_;refine ql hH l7 ?_;obtain⟨_,st,aO,rfl,hH⟩:=ou (at_:=p) (over:=C.length) (lz:=n.lz) hv (by omega) hH;refine qv aO ?_;refine qe hK<|qj fun K hK=>qA ?_;refine qm ?_;refine qe hK ?_
     have p_:js.drop q=p::js.drop (q+1):=by
      rw[List.drop_eq_getElem_cons GD]
      congr 1
      exact Option.some.inj ((List.getElem?_eq_getElem _).symm.trans hp)
     refine⟨mm-1,by omega,⟨q+1,C.set p (ml p e n.lz),rfl,(by rw[LD] at hH;exact hH),by omega,by rw[p_] at gi;exact gi,?_,by rw[List.length_set];exact LD⟩⟩;intro p' tb
     by_cases hpp:p'=p
     ·subst hpp;obtain⟨x',y',MB⟩:=Ao p' e n.lz;exact⟨x',y',by rw[List.getElem?_set_self fF,MB]⟩
     ·rw[List.getElem?_set_ne (fun e=>hpp e.symm)];exact lP p' tb
    ·refine af.exit ?_;refine⟨fun i h=>(by cases h),_,_,_,rfl,rfl,?_⟩;have FN:q=js.length:=by omega
     rw[FN,List.drop_length] at gi;have gi:C=gJ (fun s=>ml s e n.lz) C0 js:=gi;rw[←gi];exact⟨rfl,cd,dk,(hH.erase 5).erase 4⟩
   |succ mm=>
    have ib:decide ((i:Int)<((b-a:Nat):Int))=true:=by rw[decide_eq_true_eq];omega
    rw[Nat.succ_mul] at hcl;refine qq<|qD rfl (by rw[ib]) ?_;refine af.skip<|qq<|af.block<|qq<|qj fun K hK=>qm ?_;refine qm ?_;refine ab.go (d:=.agg [.int .i64 2,.int .i64 0,.int .i64 0,.nul]) (st1:=_) rfl rfl rfl (by dsimp only[Fr.put,u1,u2]<;>rfl) ?_;have hH:=hH.eB 2;obtain⟨_,st,aO,rfl,cd,dk,hH⟩:=fS (rs:=[]) hF (by omega) hH;refine qv aO ?_;refine qh (s:=1) (vs:=[_]) hH fun k69 st VO hH=>?_;dsimp only[u2,u1,u3,u4,setMany,u5,u6,D.cells,Nat.reduceAdd,aG,a8,aq,jT] at hH;refine qP hH l7 (hH.rows aB) fun TP st hH=>?_;dsimp only[u2,u1,u3,u4,setMany,u5,u6,D.cells,Nat.reduceAdd,aG,a8,aq,jT] at hH;refine qm ?_;refine qe hK ?_;have hH:=hH.drop 1;have lO:(aV++[cS 2 0 0 []]).length=aV.length+1:=by simp
    refine qj fun K hK=>qm ?_;refine qm ?_;obtain⟨_,st,aO,rfl,cd,dk,hH⟩:=ih t (by omega) hF wz jb hsz tC pX (by omega) ⟨cd,dk,hH⟩;refine qv aO ?_;refine qe hK ?_;rw[lO] at hH;have mR:(aV++[cS 2 0 0 []]++aS t (aV.length+1)).length=aV.length+1+t.sz:=by rw[List.length_append,lO,zf]
    refine qj fun K hK=>qA ?_;refine qm ?_;refine qe hK ?_;exact⟨mm,by omega,⟨i+1,cd,TP,dk,aV++[cS 2 0 0 []]++aS t (aV.length+1),js++[aV.length],rfl,(by rw[List.map_append (f:=jT)];exact hH),by omega,by rw[mR,←gS];simp only[eL,List.append_assoc,List.cons_append,List.nil_append],by rw[mR,←hjs];simp only[uq,List.append_assoc,List.cons_append,List.nil_append],by rw[mR];omega,by rw[List.length_append,kC];rfl⟩⟩
def bO (fr:Go.V.Fr) (k:Nat):Go.V.D:=Go.V.nth .bw fr.loc k
theorem vm (t:Tr):fp (.cons t .nil)=aS t:=by
 funext b;simp only[fp,List.append_nil]
theorem vG (t:Tr):(bE.cons t .nil).sz=t.sz:=by simp only[bE.sz,Nat.add_zero]
theorem Fl {l:List dr} (zV:l.length≤1048576) (hi:∀n∈l,n.ok):∀(m:Nat) (t:Tr),t.flat.length≤m→pL l t:=by
 intro m
 induction m with
 |zero=>intro t h;have:=t.gT;omega
 |succ m ih=>
  rintro⟨n,ks⟩ hm N k S s0 H nd zd ed code Z E at_ hF wz jb hsz tC ba hb hM;have XY:=hM;obtain⟨cd,dk,hH⟩:=hM;simp only[Tr.ok] at ba;obtain⟨kP,lu⟩:=ba;simp only[Tr.flat,List.length_cons] at hm;have hle:=jb.le (by simp[Tr.flat]);simp only[Tr.flat] at jb hle;simp only[List.length_cons] at hle;simp only[Tr.zs] at hsz;simp only[Tr.es] at tC;simp only[Tr.sz] at hb;have hn:=jb.head;have M5:=hi n (List.mem_of_getElem? hn);have zh:=M5.1.arg N S;have rC:=M5.2.1;have hO:=ky hn;have Lz:=kP.1;have hU:=bE.jY ks;have hcat:=fun b=>lZ ks b lu;refine Ev.jD rfl RN rfl rfl rfl ?_;dsimp only[u3,u4,List.length,Nat.reduceSub,Nat.reduceAdd,w1,w2];change af _ _ _ _ s0 _;have hc:=wz.arg N S;refine qq<|qj fun K hK=>qm ?_;refine qg ?_;refine qp (o:=1) ?_;refine ql hH aB ?_;refine qm ?_;refine qr fun SR M1=>?_;refine ab.eA rfl (ev rfl) (by assumption) rfl (by dsimp only[Fr.put,u1,u2]<;>rfl) ?_;refine qa hH fun k4 st Oi hH=>?_;refine qS hH aB fun st hH=>?_;dsimp only[u2,u1,u3,u4,setMany,u5,u6,D.cells,Nat.reduceAdd,aG,a8,aq,jT] at hH;refine qe hK ?_;have hH:Has N S st (.box k (.mem 0 false [cd,nd,zd,ed])::.deep dk cd 4 (code.map aG)::.aL zd 1 (Z.map aq)::.aL ed 1 (E.map aq)::.box k4 (.mem 0 false (a8 n))::H):=hH.E9;refine qq<|qj fun K hK=>qp (o:=0) ?_;refine ql hH fW ?_;refine qe hK<|af.block<|qq<|qj fun K hK=>qg ?_;refine qm ?_;refine qe hK ?_;refine af.cond (by rfl) (fun q2=>?_) (fun q2=>?_)<;>try simp only[beq_iff_eq,beq_eq_false_iff_ne,ne_eq] at q2
  ·have wH:aS (.mk n ks) code.length=[cS 1 0 0 n.rs]:=by simp only[aS,if_pos q2]
   rw[wH];have hz:bL n ks.sz ks.len=1:=by unfold bL;rw[if_pos (.inl q2)]
   have hH:=hH.eB 2;refine qj fun K hK=>qm ?_;refine qp (o:=1) ?_;refine ql hH l7 ?_;refine qP hH aB (Arg.rows (by assumption) hH) fun Ss st hH=>?_;dsimp only[u2,u1,u3,u4,setMany,u5,u6,D.cells,Nat.reduceAdd,aG,a8,aq,jT] at hH;refine ab.fX (qs:=[(0,_),(3,_)]) rfl rfl rfl rfl ⟨rfl,(ev rfl),(by rfl),rfl,(ev rfl),(by exact hH.dV (by exact aB)),trivial⟩ (by intro q hq;simp only[List.mem_cons,List.not_mem_nil,or_false] at hq;rcases hq with rfl|rfl<;>exact⟨rfl,by exact Nat.le_of_ble_eq_true rfl⟩) (by show List.foldl _ [_,_,_,_] _=_;dsimp only[List.foldl_cons,List.foldl_nil,u2,u1]<;>rfl) (by dsimp only[Fr.put,u1,u2]<;>rfl) ?_;obtain⟨_,st,aO,rfl,cd,dk,hH⟩:=fS (rs:=n.rs) hF (by omega) hH;refine qv aO ?_;refine qe hK ?_;refine⟨fun i h=>(by cases h),_,_,_,rfl,rfl,?_⟩;exact⟨rfl,cd,dk,hH.erase 4⟩
  refine qq<|qj fun K hK=>qg ?_;refine qm ?_;refine qe hK ?_;refine af.cond (by rfl) (fun q7=>?_) (fun q7=>?_)<;>try simp only[beq_iff_eq,beq_eq_false_iff_ne,ne_eq] at q7
  ·have wH:aS (.mk n ks) code.length=[cS 5 0 0 []]:=by simp only[aS,if_neg q2,if_pos q7]
   rw[wH];refine qj fun K hK=>qm ?_;refine ab.go (d:=.agg [.int .i64 5,.int .i64 0,.int .i64 0,.nul]) (st1:=_) rfl rfl rfl (by dsimp only[Fr.put,u1,u2]<;>rfl) ?_;have hH:=hH.eB 2;obtain⟨_,st,aO,rfl,cd,dk,hH⟩:=fS (rs:=[]) hF (by omega) hH;refine qv aO ?_;refine qe hK ?_;refine⟨fun i h=>(by cases h),_,_,_,rfl,rfl,?_⟩;exact⟨rfl,cd,dk,hH.erase 4⟩
  refine qq<|qj fun K hK=>qg ?_;refine qm ?_;refine qe hK ?_;refine af.cond (by rfl) (fun q8=>?_) (fun q8=>?_)<;>try simp only[beq_iff_eq,beq_eq_false_iff_ne,ne_eq] at q8
  ·have wH:aS (.mk n ks) code.length=[cS 6 0 0 []]:=by simp only[aS,if_neg q2,if_neg q7,if_pos q8]
   rw[wH];refine qj fun K hK=>qm ?_;refine ab.go (d:=.agg [.int .i64 6,.int .i64 0,.int .i64 0,.nul]) (st1:=_) rfl rfl rfl (by dsimp only[Fr.put,u1,u2]<;>rfl) ?_;have hH:=hH.eB 2;obtain⟨_,st,aO,rfl,cd,dk,hH⟩:=fS (rs:=[]) hF (by omega) hH;refine qv aO ?_;refine qe hK ?_;refine⟨fun i h=>(by cases h),_,_,_,rfl,rfl,?_⟩;exact⟨rfl,cd,dk,hH.erase 4⟩
  refine qq<|qj fun K hK=>qg ?_;refine qm ?_;refine qe hK ?_;refine af.cond (by rfl) (fun q3=>?_) (fun q3=>?_)<;>try simp only[beq_iff_eq,beq_eq_false_iff_ne,ne_eq] at q3
  ·have wH:aS (.mk n ks) code.length=fp ks code.length:=by simp only[aS,if_neg q2,if_neg q7,if_neg q8,if_pos q3]
   rw[wH];have hz:bL n ks.sz ks.len=ks.sz:=by unfold bL;rw[if_neg (by omega),if_neg (by omega),if_neg (by omega),if_neg (by omega)]
   rw[hz] at hb;refine qq<|qj fun K hK=>qm ?_;refine qA ?_;refine qm ?_;refine qe hK<|qq<|qj fun K hK=>qp (o:=6) ?_;refine ql hH fW ?_;refine qm ?_;refine qe hK<|af.block<|af.loop (fun mm fr st=>∃(i j:Nat) (rest:bE) (cd:D) (dk:Nat→Prop) (aV:List aK),fr.clean=⟨40,[.ptr k 0 0,.int .i64 (at_:Nat),bO fr 2,bO fr 3,.ptr k4 0 0,.int .i64 (j:Nat),bO fr 6,bO fr 7,bO fr 8,bO fr 9,bO fr 10,bO fr 11,bO fr 12,bO fr 13,bO fr 14,bO fr 15,bO fr 16,bO fr 17,bO fr 18,bO fr 19,bO fr 20,bO fr 21,bO fr 22,bO fr 23,bO fr 24,bO fr 25,bO fr 26,bO fr 27,bO fr 28,bO fr 29,bO fr 30,bO fr 31,bO fr 32,bO fr 33,bO fr 34,bO fr 35,bO fr 36,bO fr 37,.int .i64 n.kids,.int .i64 (i:Nat)],[]⟩∧Has N S st (.box k (.mem 0 false [cd,nd,zd,ed])::.deep dk cd 4 (aV.map aG)::.aL zd 1 (Z.map aq)::.aL ed 1 (E.map aq)::.box k4 (.mem 0 false (a8 n))::H)∧(mm=rest.len)∧(i+rest.len=ks.len)∧(fc l j rest.flat)∧(fc Z j rest.zs)∧(fc E j (rest.es j))∧(rest.ok)∧(aV++fp rest aV.length=code++fp ks code.length)∧(aV.length+rest.sz=code.length+ks.sz)∧(rest.flat.length≤m)) (ks.len) ?_ ?_
   ·exact⟨0,at_+1,ks,cd,dk,code,rfl,hH,rfl,by omega,jb.tail,hsz.tail,tC.tail,lu,rfl,rfl,by omega⟩
   rintro mm fr st ⟨i,j,rest,cd,dk,aV,hfr,hH,vA,zj,nQ,uO,nP,jG,gS,hcl,Kt⟩;rw[hfr];clear hfr;generalize bO fr=ee;clear fr;refine qq<|qj fun K hK=>qg ?_;refine qe hK ?_
   cases rest with
   |nil=>
    simp only[bE.len] at zj;simp only[fp,List.append_nil] at gS;have ib:decide ((i:Int)<n.kids)=false:=by rw[decide_eq_false_iff_not];omega
    refine qq<|qE rfl (by rw[ib]) ?_;refine af.exit ?_;refine⟨fun i h=>(by cases h),_,_,_,rfl,rfl,?_⟩;rw[←gS];exact⟨rfl,cd,dk,hH.erase 4⟩
   |cons t ts=>
    simp only[bE.len] at zj vA;simp only[bE.sz] at hcl;simp only[bE.flat,List.length_append] at nQ Kt;simp only[bE.zs] at uO;simp only[bE.es] at nP;simp only[bE.ok] at jG;simp only[fp] at gS;have Kl:=t.iz;have MF:=t.iG j;have zf:=ct t aV.length jG.1;have Px:=ei (ym nP.left);have ib:decide ((i:Int)<n.kids)=true:=by rw[decide_eq_true_eq];omega
    refine qq<|qD rfl (by rw[ib]) ?_;refine af.skip<|qq<|af.block<|qq<|qj fun K hK=>qm ?_;refine qm ?_;obtain⟨_,st,aO,rfl,cd,dk,hH⟩:=ih t (by omega) hF wz nQ.left uO.left nP.left jG.1 (by omega) ⟨cd,dk,hH⟩;refine qv aO ?_;refine qe hK<|qj fun K hK=>qm ?_;refine qg ?_;refine qp (o:=3) ?_;refine ql hH aB ?_;refine qm ?_;refine qi hH eF fun Ui PR=>?_;refine qo hH eF ?_;refine qm ?_;refine qe hK<|qj fun K hK=>qA ?_;refine qm ?_;refine qe hK ?_;exact⟨mm-1,by omega,⟨i+1,j+t.flat.length,ts,cd,dk,aV++aS t aV.length,rfl,hH,by omega,by omega,nQ.right,by rw[←Kl];exact uO.right,by rw[←MF];rw[←MF] at nP;exact nP.right,jG.2,by rw[List.length_append,zf,List.append_assoc];exact gS,by rw[List.length_append,zf];omega,by omega⟩⟩
  refine qq<|qj fun K hK=>qg ?_;refine qm ?_;refine qe hK ?_;refine af.cond (by rfl) (fun q4=>?_) (fun q4=>?_)<;>try simp only[beq_iff_eq,beq_eq_false_iff_ne,ne_eq] at q4
  ·have wH:aS (.mk n ks) code.length=eo (lI (code.length+bL n ks.sz ks.len)) ks code.length:=by simp only[aS,if_neg q2,if_neg q7,if_neg q8,if_neg q3,if_pos q4]
   rw[wH];refine qj fun K hK=>qm ?_;refine qm ?_;obtain⟨_,st,aO,rfl,cd,dk,hH⟩:=Lg zV ih q4 (by omega) kP lu hF wz jb hsz.tail tC.tail hb ⟨cd,dk,hH⟩;refine qv aO ?_;refine qe hK ?_;refine⟨fun i h=>(by cases h),_,_,_,rfl,rfl,?_⟩;exact⟨rfl,cd,dk,hH.erase 4⟩
  refine qq<|qj fun K hK=>qg ?_;refine qm ?_;refine qe hK ?_;refine af.cond (by rfl) (fun q5=>?_) (fun q5=>?_)<;>try simp only[beq_iff_eq,beq_eq_false_iff_ne,ne_eq] at q5
  ·have o9:ks.len=1:=by
    obtain⟨_,hq⟩:=kP;omega
   obtain⟨t,rfl⟩:=bE.xY o9;have wH:aS (.mk n (.cons t .nil)) code.length=my n (aS t) t.sz code.length:=by simp only[aS,if_neg q2,if_neg q7,if_neg q8,if_neg q3,if_neg q4,if_pos q5,vm,vG]
   rw[wH];rw[o9] at kP hb;rw[vG] at hb;simp only[bE.flat,bE.zs,bE.es,bE.ok,List.append_nil] at*;refine qj fun K hK=>qm ?_;refine qm ?_;obtain⟨_,st,aO,rfl,cd,dk,hH⟩:=yT zV ih q5 (by omega) kP lu.1 hF wz jb hsz.tail tC.tail hb ⟨cd,dk,hH⟩;refine qv aO ?_;refine qe hK ?_;refine⟨fun i h=>(by cases h),_,_,_,rfl,rfl,?_⟩;exact⟨rfl,cd,dk,hH.erase 4⟩
  refine qq<|qj fun K hK=>qg ?_;refine qm ?_;refine qe hK ?_;refine af.cond (by rfl) (fun q6=>?_) (fun q6=>?_)<;>try simp only[beq_iff_eq,beq_eq_false_iff_ne,ne_eq] at q6
  ·have o9:ks.len=1∧1≤n.cap∧n.cap≤4:=by
    obtain⟨_,hq⟩:=kP;omega
   obtain⟨t,rfl⟩:=bE.xY o9.1;have wH:aS (.mk n (.cons t .nil)) code.length=cS 4 (2*n.cap) 0 []::(aS t (code.length+1)++[cS 4 (2*n.cap+1) 0 []]):=by simp only[aS,if_neg q2,if_neg q7,if_neg q8,if_neg q3,if_neg q4,if_neg q5,if_pos q6,vm]
   rw[wH];have hz:bL n (bE.cons t .nil).sz (bE.cons t .nil).len=t.sz+2:=by unfold bL;rw[if_neg (by omega),if_neg (by omega),if_pos q6,vG]
   rw[hz] at hb;simp only[bE.flat,bE.zs,bE.es,bE.ok,List.append_nil] at jb hsz tC lu hm;refine qq<|qj fun K hK=>qm ?_;refine qp (o:=5) ?_;refine ql hH fW ?_;refine ab.sI (z:=(2*n.cap)) rfl (ev rfl) (ev rfl) (by(try simp only[List.length_reverse,List.length_cons,List.length_nil,List.length_append,List.length_map,List.length_set]);rw[wrap_i64 (by omega) (by omega)]<;>omega) (ae rfl _) ?_;refine ab.go (d:=.agg [.int .i64 4,.int .i64 (2*n.cap),.int .i64 0,.nul]) (st1:=_) rfl rfl rfl (ae rfl _) ?_;have hH:=hH.eB 2;obtain⟨_,st,aO,rfl,cd,dk,hH⟩:=fS (rs:=[]) hF (by omega) hH;refine qv aO ?_;refine qe hK ?_;have lO:(code++[cS 4 (2*n.cap) 0 []]).length=code.length+1:=by simp
   refine qq<|qj fun K hK=>qm ?_;refine qm ?_;refine qA ?_;obtain⟨_,st,aO,rfl,cd,dk,hH⟩:=ih t (by omega) hF wz jb.tail hsz.tail tC.tail lu.1 (by omega) ⟨cd,dk,hH⟩;refine qv aO ?_;refine qe hK ?_;rw[lO] at hH;have mR:(code++[cS 4 (2*n.cap) 0 []]++aS t (code.length+1)).length=code.length+1+t.sz:=by rw[List.length_append,lO,ct t _ lu.1]
   refine qj fun K hK=>qm ?_;refine qp (o:=5) ?_;refine ql hH fW ?_;refine ab.sI (z:=(2*n.cap)) rfl (ev rfl) (ev rfl) (by(try simp only[List.length_reverse,List.length_cons,List.length_nil,List.length_append,List.length_map,List.length_set]);rw[wrap_i64 (by omega) (by omega)]<;>omega) (ae rfl _) ?_;refine ab.kK (z:=(2*n.cap+1)) rfl (ev rfl) (ev rfl) (by(try simp only[List.length_reverse,List.length_cons,List.length_nil,List.length_append,List.length_map,List.length_set]);rw[wrap_i64 (by omega) (by omega)]<;>omega) (ae rfl _) ?_;refine ab.go (d:=.agg [.int .i64 4,.int .i64 (2*n.cap+1),.int .i64 0,.nul]) (st1:=_) rfl rfl rfl (ae rfl _) ?_;have hH:=hH.eB 2;obtain⟨_,st,aO,rfl,cd,dk,hH⟩:=fS (rs:=[]) hF (by omega) hH;refine qv aO ?_;refine qe hK ?_;have ek:code++[cS 4 (2*n.cap) 0 []]++aS t (code.length+1)++[cS 4 (2*n.cap+1) 0 []]=code++cS 4 (2*n.cap) 0 []::(aS t (code.length+1)++[cS 4 (2*n.cap+1) 0 []]):=by simp
   rw[ek] at hH;refine⟨fun i h=>(by cases h),_,_,_,rfl,rfl,?_⟩;exact⟨rfl,cd,dk,hH.erase 4⟩
  ·refine af.skip ?_;have wH:aS (.mk n ks) code.length=[]:=by simp only[aS,if_neg q2,if_neg q7,if_neg q8,if_neg q3,if_neg q4,if_neg q5,if_neg q6]
   rw[wH,List.append_nil];refine⟨fun i h=>(by cases h),_,_,_,rfl,rfl,?_⟩;exact⟨rfl,cd,dk,hH.erase 4⟩
def gO (fr:Go.V.Fr) (k:Nat):Go.V.D:=Go.V.nth .bw fr.loc k
def zN (x:Nl):List D:=[x.d]
theorem Kd {l:List Nl} {i:Nat} {q:Nl} (h:l[i]?=some q):(l.map zN)[i]?=some (zN q):=by rw[List.getElem?_map,h];rfl
def nM (R:r_):D:=.tup [(oc R.code R.az).d,.int .i64 R.e,.int .i64 R.w]
theorem xz {es M:List Int} (h:M.length=es.length):mb es 0 M=M:=by
 unfold mb;simp[h]
theorem mS (r:Nat) (c:List aK) (s:List Int):ez [] r c s=⟨c,s,0,0⟩:=by simp only[ez]
theorem wX {s0:St} {x:D} {rules:List Nl} (hx:V.Rows s0 1 x (rules.map zN)) (hr:∀r∈rules,r.ok) (hl:rules.length≤1048576):Ev pv 23 [x] s0 (nM (bn (rules.map (·.l)))) s0:=by
 refine Ev.pW rfl R2 rfl rfl rfl ?_;dsimp only[u3,u4,List.length,Nat.reduceSub,Nat.reduceAdd,w1,w2];obtain⟨cM,hF,hH⟩:=ri s0;generalize ak .ro s0=S at*;have hx:=Arg.of hx cM;have hfz:∀(st:St) (e w:Int),bG st s0.bs.length false 16 (pR [.agg [.nul,.nul],.int .i64 e,.int .i64 w])=some (nM ⟨[],[],e,w⟩):=fun st e w=>rfl;refine qq<|qj fun K hK=>qa hH fun k2 st hk2 hH=>?_;refine qm ?_;refine qm ?_;refine qe hK<|qq<|qq<|qj fun K hK=>qm ?_;refine qn ?_;simp only[List.length_map];refine qg ?_;refine qe hK ?_;unfold bn
 by_cases h8:8<rules.length
 ·rw[if_pos (by rw[List.length_map];exact h8)];refine qD rfl (by simp;omega) ?_;refine qq<|qj fun K hK=>?_;refine ab.go (d:=.agg [.nul,.nul]) (st1:=_) rfl rfl rfl (by dsimp only[Fr.put,u1,u2]<;>rfl) ?_;refine qS hH aB fun st hH=>?_;dsimp only[u2,u1,u3,u4,setMany,u5,u6,D.cells,Nat.reduceAdd,aG,a8,aq,zN] at hH;refine qm ?_;refine qm ?_;refine qe hK<|af.ret ⟨rx,_,hH.kj rfl aB rfl rfl rfl,rl cM hH (hfz _ 13 8)⟩
 ·rw[if_neg (by rw[List.length_map];exact h8)];refine qE rfl (by simp;omega) ?_;refine af.skip<|qq<|qj fun K hK=>?_;refine ab.go (d:=.agg [.nul,.nul,.nul,.nul]) (st1:=_) rfl rfl rfl (by dsimp only[Fr.put,u1,u2]<;>rfl) ?_;refine qb hH fun k14 st Nn hH=>?_;refine qm ?_;refine qe hK<|qq<|qj fun K hK=>qm ?_;refine qe hK<|qq<|qq<|qj fun K hK=>qm ?_;refine qn ?_;simp only[List.length_map];refine qm ?_;refine qe hK ?_;have hH:Has s0.bs.length S st (.aL .nul 1 (([]:List Int).map aq)::.deep (fun _=>False) .nul 4 (([]:List aK).map aG)::.box k14 (.mem 0 false [.nul,.nul,.nul,.nul])::[.box k2 (.mem 0 false [.nul,.nul])]):=(hH.Ml 4).eB 1;refine af.block<|af.loop (fun mm fr st=>∃(r:Nat) (cd nd zd ed sd:D) (dk:Nat→Prop) (code:List aK) (az:List Int),fr.clean=⟨18,[gO fr 0,gO fr 1,.ptr k2 0 0,.int .i64 0,.int .i64 0,.ptr k14 0 0,sd,gO fr 7,gO fr 8,gO fr 9,gO fr 10,gO fr 11,gO fr 12,gO fr 13,gO fr 14,x,.int .i64 (rules.length:Nat),.int .i64 (r:Nat)],[]⟩∧Has s0.bs.length S st [.aL sd 1 (az.map aq),.deep dk cd 4 (code.map aG),.box k14 (.mem 0 false [cd,nd,zd,ed]),.box k2 (.mem 0 false [.nul,.nul])]∧(r+mm=rules.length)∧(ez ((rules.drop r).map (·.l)) r code az=ez (rules.map (·.l)) 0 [] [])∧(code.length≤400)∧(az.length≤r)) (rules.length) ?_ ?_
  ·exact⟨0,.nul,.nul,.nul,.nul,.nul,(fun _=>False),[],[],rfl,hH,by omega,by rw[List.drop_zero],by simp,by simp⟩
  rintro mm fr st ⟨r,cd,nd,zd,ed,sd,dk,code,az,hfr,hH,XJ,hX,hcl,c8⟩;rw[hfr];clear hfr;generalize gO fr=ee;clear fr;refine qq<|qj fun K hK=>qg ?_;refine qe hK ?_
  by_cases hlt:r<rules.length
  ·obtain⟨q,hq⟩:∃q,rules[r]?=some q:=⟨rules[r]'hlt,List.getElem?_eq_getElem _⟩
   have uP:=hr q (List.mem_of_getElem? hq);have hO:=Kd hq
   have p_:rules.drop r=q::rules.drop (r+1):=by
    rw[List.drop_eq_getElem_cons hlt]
    congr 1
    exact Option.some.inj ((List.getElem?_eq_getElem _).symm.trans hq)
   rw[p_,List.map_cons,ez] at hX;refine qq<|qD rfl (by simp;omega) ?_;refine af.skip<|qq<|af.block<|qq<|qj fun K hK=>qm ?_;refine qr fun SN MX=>?_;refine qR ?_;refine qm ?_;refine qm ?_;refine qe hK<|qq<|qq<|qj fun K hK=>qm ?_;refine qv (yS uP) ?_;refine qg ?_;refine qe hK ?_
   cases wy:fI q.l with
   |false=>
    rw[if_pos wy] at hX;refine qB ?_;refine qq<|qj fun K hK=>ab.go (d:=.agg [.nul,.nul]) (st1:=_) rfl rfl rfl (ae rfl _) ?_;refine qm ?_;refine qS hH eF fun st hH=>?_;dsimp only[u2,u1,u3,u4,setMany,u5,u6,D.cells,Nat.reduceAdd,aG,a8,aq,zN] at hH;refine qm ?_;refine qm ?_;refine qe hK ?_;rw[←hX];refine af.ret ⟨rx,_,hH.kj rfl eF rfl rfl rfl,rl cM hH (hfz _ 1 r)⟩
   |true=>
    rw[if_neg (by rw[wy];simp)] at hX;obtain⟨pX,Km⟩:=sc wy;have XN:=uP.c.arg s0.bs.length S;have XM:=uP.nl;have tF:=uP.c;refine qC ?_;refine af.skip<|qq<|qj fun K hK=>qm ?_;refine qm ?_;refine qm ?_;refine qm ?_;refine qm ?_;refine qn ?_;simp only[List.length_map];refine ab.uT (s:=1) hH rfl rfl rfl rfl rfl rfl rfl rfl (Nat.le_of_ble_eq_true rfl) (by omega) (fun _=>(ae rfl _)) (fun k33 st Qj hH=>?_);refine qm ?_;refine qn ?_;simp only[List.length_map];refine ab.uT (s:=1) hH rfl rfl rfl rfl rfl rfl rfl rfl (Nat.le_of_ble_eq_true rfl) (by omega) (fun _=>(ae rfl _)) (fun k36 st Ni hH=>?_);refine qg ?_;refine qp (o:=1) ?_;refine qT hH fW fun st hH=>?_;dsimp only[u2,u1,u3,u4,setMany,u5,u6,D.cells,Nat.reduceAdd,aG,a8,aq,zN] at hH;refine qg ?_;refine qp (o:=2) ?_;refine qT hH fW fun st hH=>?_;dsimp only[u2,u1,u3,u4,setMany,u5,u6,D.cells,Nat.reduceAdd,aG,a8,aq,zN] at hH;refine qg ?_;refine qp (o:=3) ?_;refine qT hH fW fun st hH=>?_;dsimp only[u2,u1,u3,u4,setMany,u5,u6,D.cells,Nat.reduceAdd,aG,a8,aq,zN] at hH;refine qe hK ?_
    have hH:Has s0.bs.length S st (.aL (.win k33 0 0 q.l.length 1) 1 ((List.replicate q.l.length (0:Int)).map aq)::.aL (.win k36 0 0 q.l.length 1) 1 ((List.replicate q.l.length (0:Int)).map aq)::.aL sd 1 (az.map aq)::.deep dk cd 4 (code.map aG)::.box k14 (.mem 0 false [cd,q.d,.win k33 0 0 q.l.length 1,.win k36 0 0 q.l.length 1])::.box k2 (.mem 0 false [.nul,.nul])::[]):=by
     rw[List.map_replicate];exact hH.front b4
    refine qq<|qj fun K hK=>qm ?_;refine qm ?_;refine qg ?_;refine qp (o:=2) ?_;refine ql hH fW ?_;obtain⟨_,st,aO,rfl,hH⟩:=Aq uP.nl uP.i uP.c _ (cE q.l) (Nat.le_refl _) pX (at_:=0) (by rw[Km];exact fc.all _) (by simp) hH;refine qv aO ?_;refine qe hK ?_;rw[xz (by rw[Tr.iz,Km];simp)] at hH;have hH:=hH.front b4;refine qq<|qj fun K hK=>qm ?_;refine qm ?_;refine qg ?_;refine qp (o:=3) ?_;refine ql hH fW ?_;obtain⟨_,st,aO,rfl,hH⟩:=F9 uP.nl uP.i uP.c _ (cE q.l) (Nat.le_refl _) pX (at_:=0) (by rw[Km];exact fc.all _) (by simp) hH;refine qv aO ?_;refine qe hK ?_;rw[xz (by rw[Tr.iG,Km];simp)] at hH;have U9:=ei (xj (fc.all (cE q.l).zs));refine qq<|qq<|qj fun K hK=>qm ?_;refine qg ?_;refine qp (o:=0) ?_;refine ql hH fW ?_;refine ab.zC hH rfl (ev rfl) (by exact eF) rfl (ae rfl _) ?_;simp only[List.length_map];refine qm ?_;refine qg ?_;refine qp (o:=2) ?_;refine ql hH fW ?_;refine qi hH b4 fun Ud PK=>?_;refine qo hH b4 ?_;refine ab.kK (z:=((code.length+min (cE q.l).sz 401:Nat):Int)) rfl (ev rfl) (ev rfl) (by(try simp only[List.length_reverse,List.length_cons,List.length_nil,List.length_append,List.length_map,List.length_set]);rw[wrap_i64 (by omega) (by omega)]<;>omega) (ae rfl _) ?_;refine ab.kK (z:=((code.length+min (cE q.l).sz 401+3:Nat):Int)) rfl (ev rfl) (ev rfl) (by(try simp only[List.length_reverse,List.length_cons,List.length_nil,List.length_append,List.length_map,List.length_set]);rw[wrap_i64 (by omega) (by omega)]<;>omega) (ae rfl _) ?_;refine qg ?_;refine qe hK ?_
    by_cases KU:400<code.length+min (cE q.l).sz 401+3
    ·rw[if_pos KU] at hX;have ib:decide (((code.length+min (cE q.l).sz 401+3:Nat):Int)>400)=true:=by rw[decide_eq_true_eq];omega
     refine qD rfl (by rw[ib]) ?_;refine qq<|qj fun K hK=>ab.go (d:=.agg [.nul,.nul]) (st1:=_) rfl rfl rfl (ae rfl _) ?_;refine qm ?_;refine qS hH l7 fun st hH=>?_;dsimp only[u2,u1,u3,u4,setMany,u5,u6,D.cells,Nat.reduceAdd,aG,a8,aq,zN] at hH;refine qm ?_;refine qm ?_;refine qe hK ?_;rw[←hX];refine af.ret ⟨rx,_,hH.kj rfl l7 rfl rfl rfl,rl cM hH (hfz _ 12 r)⟩
    ·rw[if_neg KU] at hX;have ib:decide (((code.length+min (cE q.l).sz 401+3:Nat):Int)>400)=false:=by rw[decide_eq_false_iff_not];omega
     refine qE rfl (by rw[ib]) ?_;refine af.skip ?_;have hH:=hH.front b4;have hH:=hH.front eF;have hH:=hH.front fW;have hH:Has s0.bs.length S st (.box k14 (.mem 0 false [cd,q.d,.win k33 0 0 q.l.length 1,.win k36 0 0 q.l.length 1])::.deep dk cd 4 (code.map aG)::.aL (.win k33 0 0 q.l.length 1) 1 ((cE q.l).zs.map aq)::.aL (.win k36 0 0 q.l.length 1) 1 (((cE q.l).es 0).map aq)::.aL sd 1 (az.map aq)::.box k2 (.mem 0 false [.nul,.nul])::[]):=hH;refine qq<|qj fun K hK=>qm ?_;refine qm ?_;refine ab.go (d:=.agg [.int .i64 4,.int .i64 0,.int .i64 0,.nul]) (st1:=_) rfl rfl rfl (ae rfl _) ?_;have hH:=hH.eB 2;obtain⟨_,st,aO,rfl,cd,dk,hH⟩:=fS (rs:=[]) hF (by omega) hH;refine qv aO ?_;refine qh (s:=1) (vs:=[_]) hH fun k75 st VM hH=>?_;refine ab.bZ (s:=1) hH rfl (ev rfl) (ev rfl) (by exact l7) (by exact hH.rows (by exact aB)) rfl rfl rfl rfl rfl rfl rfl ⟨(Nat.le_of_ble_eq_true rfl),(Nat.le_of_ble_eq_true rfl)⟩ (fun _=>(ae rfl _)) (by simp only[List.length_cons,List.length_nil,List.length_map]<;>omega) (by exact .inl hF) (fun TO st hH=>?_);dsimp only[u2,u1,u3,u4,setMany,u5,u6,D.cells,Nat.reduceAdd,aG,a8,aq,zN] at hH;refine qm ?_;refine qe hK ?_;have hH:=hH.drop 1;have lO:(code++[cS 4 0 0 []]).length=code.length+1:=by simp
     refine qq<|qj fun K hK=>qm ?_;obtain⟨_,st,aO,rfl,cd,dk,hH⟩:=Fl uP.nl uP.i _ (cE q.l) (Nat.le_refl _) hF uP.c (at_:=0) (by rw[Km];exact fc.all _) (fc.all _) (fc.all _) pX (by omega) ⟨cd,dk,hH⟩;refine qv aO ?_;refine qe hK ?_;rw[lO] at hH;have mR:(code++[cS 4 0 0 []]++aS (cE q.l) (code.length+1)).length=code.length+1+(cE q.l).sz:=by rw[List.length_append,lO,ct _ _ pX]
     refine qq<|qj fun K hK=>qm ?_;refine ab.go (d:=.agg [.int .i64 4,.int .i64 1,.int .i64 0,.nul]) (st1:=_) rfl rfl rfl (ae rfl _) ?_;have hH:=hH.eB 2;obtain⟨_,st,aO,rfl,cd,dk,hH⟩:=fS (rs:=[]) hF (by omega) hH;refine qv aO ?_;refine qe hK ?_;have Bz:(code++[cS 4 0 0 []]++aS (cE q.l) (code.length+1)++[cS 4 1 0 []]).length=code.length+1+(cE q.l).sz+1:=by rw[List.length_append,mR];rfl
     refine qj fun K hK=>qm ?_;refine qm ?_;refine ab.go (d:=.agg [.int .i64 7,.int .i64 (r:Nat),.int .i64 0,.nul]) (st1:=_) rfl rfl rfl (ae rfl _) ?_;have hH:=hH.eB 2;obtain⟨_,st,aO,rfl,cd,dk,hH⟩:=fS (rs:=[]) hF (by omega) hH;refine qv aO ?_;refine qe hK ?_
     have U6:code++[cS 4 0 0 []]++aS (cE q.l) (code.length+1)++[cS 4 1 0 []]++[cS 7 (r:Nat) 0 []]=code++er (cE q.l) code.length r:=by
      unfold er;simp
     rw[U6] at hH;have hH:=(hH.erase 2).erase 2;have hH:=hH.front b4;have hH:=hH.front cU;refine qj fun K hK=>qA ?_;refine qm ?_;refine qe hK ?_;exact⟨mm-1,by omega,⟨r+1,cd,q.d,.win k33 0 0 q.l.length 1,.win k36 0 0 q.l.length 1,TO,dk,code++er (cE q.l) code.length r,az++[((code.length:Nat):Int)],rfl,(by rw[List.map_append (f:=aq)];exact hH),by omega,hX,by rw[List.length_append,ki pX];omega,by rw[List.length_append];simp only[List.length_cons,List.length_nil];omega⟩⟩
  ·refine qq<|qE rfl (by simp;omega) ?_;refine af.exit ?_;rw[List.drop_of_length_le (by omega),List.map_nil,mS] at hX;refine qq<|qj fun K hK=>qm ?_;refine qg ?_;refine qp (o:=0) ?_;refine ql hH cU ?_;refine qm ?_;refine ab.fX (qs:=[(0,_),(1,_)]) rfl rfl rfl rfl ⟨rfl,(ev rfl),(by exact hH.wT (by exact b4)),rfl,(ev rfl),(by exact hH.dV (by exact aB)),trivial⟩ (by intro q hq;simp only[List.mem_cons,List.not_mem_nil,or_false] at hq;rcases hq with rfl|rfl<;>exact⟨rfl,by exact Nat.le_of_ble_eq_true rfl⟩) (by show List.foldl _ [_,_] _=_;dsimp only[List.foldl_cons,List.foldl_nil,u2,u1]<;>rfl) (ae rfl _) ?_;refine qS hH eF fun st hH=>?_;dsimp only[u2,u1,u3,u4,setMany,u5,u6,D.cells,Nat.reduceAdd,aG,a8,aq,zN] at hH;refine qm ?_;refine qm ?_;refine qe hK ?_;rw[←hX];have h1:=hH.u9 b4 (n:=13) (by decide);have h2:=hH.yk aB (mM _) (n:=14) (by decide)
   have h4:bG st s0.bs.length false 15 (.agg [cd,sd])=some (oc code az).d:=by
    show(ia (bG st s0.bs.length false 14) [cd,sd]).map D.agg=_;simp only[ia,h1,h2,Option.map_some];rfl
   have h3:bG st s0.bs.length false 16 (pR [.agg [cd,sd],.int .i64 0,.int .i64 0])=some (nM ⟨code,az,0,0⟩):=by
    show(ia (bG st s0.bs.length false 15) [.agg [cd,sd],.int .i64 0,.int .i64 0]).map D.tup=_;simp only[ia,h4];rfl
   exact af.ret ⟨rx,_,hH.kj rfl eF rfl rfl rfl,rl cM hH h3⟩
theorem vi:∀(ls:List (List dr)) (r:Nat) (c:List aK) (s:List Int),(∀l∈ls,∀n∈l,n.rs.length≤1048576)→(∀i∈c,i_ i)→c.length≤400→s.length≤r→(∀i∈(ez ls r c s).code,i_ i)∧(ez ls r c s).code.length≤400∧(ez ls r c s).az.length≤r+ls.length
 |[],r,c,s,_,h1,h2,h3=>by rw[mS];exact⟨h1,h2,by simpa using h3⟩
 |l::ls,r,c,s,h0,h1,h2,h3=>by
  have Tn:∀e w:Int,(∀i∈(r_.mk [] [] e w).code,i_ i)∧(r_.mk [] [] e w).code.length≤400∧(r_.mk [] [] e w).az.length≤r+(l::ls).length:=fun e w=>⟨fun i hi=>(by cases hi),by simp,by simp⟩
  rw[ez]
  split
  ·exact Tn _ _
  ·rename_i hr;rw[Bool.not_eq_false] at hr
   split
   ·exact Tn _ _
   ·rename_i hb;obtain⟨t1,t2⟩:=sc hr
    obtain⟨h4,h5,h6⟩:=vi ls (r+1) (c++er (cE l) c.length r) (s++[((c.length:Nat):Int)]) (fun l' gF=>h0 l' (List.mem_cons_of_mem _ gF)) (fun i hi=>by
     rcases List.mem_append.1 hi with hi|hi
     ·exact h1 i hi
     ·exact CG (by rw[t2];exact h0 l (List.mem_cons_self ..)) i hi) (by rw[List.length_append,ki t1];omega) (by rw[List.length_append];simp only[List.length_cons,List.length_nil];omega)
    exact⟨h4,h5,by simp only[List.length_cons];omega⟩
theorem vh {ls:List (List dr)} (h:∀l∈ls,∀n∈l,n.rs.length≤1048576):(oc (bn ls).code (bn ls).az).ok∧(bn ls).code.length≤400:=by
 unfold bn
 split
 ·exact⟨AL (fun i hi=>(by cases hi)) (by simp) (by simp),by simp⟩
 ·obtain⟨h1,h2,h3⟩:=vi ls 0 [] [] h (fun i hi=>by cases hi) (by simp) (by simp);exact⟨AL h1 (by omega) (by omega),h2⟩
def yG (b:List UInt8):List D:=[.str b]
theorem Cy {l:List (List UInt8)} {i:Nat} {q:List UInt8} (h:l[i]?=some q):(l.map yG)[i]?=some (yG q):=by rw[List.getElem?_map,h];rfl
theorem Kc {parts:List (List dr)} (h:∀l∈parts,(∀n∈l,tH n)∧l.length≤500):∀r∈parts.map (fun l=>(⟨tB l,l⟩:Nl)),r.ok:=by
 intro r hr;obtain⟨l,hl,rfl⟩:=List.mem_map.1 hr;exact Mm (h l hl).1 (by have:=(h l hl).2;omega)
theorem A2 {parts:List (List dr)}:(parts.map (fun l=>(⟨tB l,l⟩:Nl))).map zN=parts.map dJ:=by
 rw[List.map_map];rfl
theorem wY {s0:St} {y:D} {parts:List (List dr)} (h:∀l∈parts,(∀n∈l,tH n)∧l.length≤500) (hl:parts.length≤1048576) (hy:V.Rows s0 1 y (parts.map dJ)):Ev pv 23 [y] s0 (nM (bn parts)) s0∧(oc (bn parts).code (bn parts).az).ok∧(bn parts).code.length≤400:=by
 have h1:=wX (s0:=s0) (x:=y) (rules:=parts.map (fun l=>(⟨tB l,l⟩:Nl))) (by rw[A2];exact hy) (Kc h) (by rw[List.length_map];exact hl);have h2:(parts.map (fun l=>(⟨tB l,l⟩:Nl))).map (·.l)=parts:=by rw[List.map_map];exact List.map_id _
 rw[h2] at h1;exact⟨h1,vh fun l hl n hn=>((h l hl).1 n hn).2.1⟩
def xB (n:Nat) (i:aK):aK:=if i.op=2 then⟨2,i.x+n,i.y+n,i.rd,i.rs⟩ else if i.op=3 then⟨3,i.x+n,i.y,i.rd,i.rs⟩ else i
theorem ov (n:Nat) {op:Int} (x y:Int) (rs:List Rg) (h2:op≠2) (h3:op≠3):xB n (cS op x y rs)=cS op x y rs:=by
 unfold xB cS;rw[if_neg h2,if_neg h3]
theorem vL (n s o:Nat) (lz:Bool):xB n (ml s o lz)=ml (s+n) (o+n) lz:=by
 cases lz
 ·show(⟨2,((s+1:Nat):Int)+n,(o:Int)+n,_,_⟩:aK)=cS 2 ((s+n+1:Nat):Int) ((o+n:Nat):Int) [];unfold cS
  congr 1;omega
 ·show(⟨2,(o:Int)+n,((s+1:Nat):Int)+n,_,_⟩:aK)=cS 2 ((o+n:Nat):Int) ((s+n+1:Nat):Int) [];unfold cS
  congr 1;omega
theorem As (n e:Nat):xB n (lI e)=lI (e+n):=by
 show(⟨3,(e:Int)+n,0,_,_⟩:aK)=cS 3 ((e+n:Nat):Int) 0 [];unfold cS
 congr 1
theorem sr {c:Nat→List aK} {z n:Nat} (hc:∀b,c (b+n)=(c b).map (xB n)):∀k b,eS c z k (b+n)=(eS c z k b).map (xB n)
 |0,b=>rfl
 |k+1,b=>by
  have h:=sr hc (z:=z) k (b+z);rw[Nat.add_right_comm] at h;rw[eS,eS,List.map_append,hc,h]
theorem xM {sp SA:Nat→aK} {c:Nat→List aK} {z n:Nat} (hs:∀s,SA (s+n)=xB n (sp s)) (hc:∀b,c (b+n)=(c b).map (xB n)):∀k b,eL SA c z k (b+n)=(eL sp c z k b).map (xB n)
 |0,b=>rfl
 |k+1,b=>by
  have h:=xM hs hc (z:=z) k (b+1+z);have e1:b+1+z+n=b+n+1+z:=by omega
  have e2:b+n+1=b+1+n:=by omega
  rw[e1] at h;rw[eL,eL,List.map_cons,List.map_append,hs,h,e2,hc]
theorem CH {nd:dr} {c:Nat→List aK} {z n b:Nat} (hc:∀b,c (b+n)=(c b).map (xB n)):my nd c z (b+n)=(my nd c z b).map (xB n):=by
 unfold my
 split
 ·rw[List.map_append,sr hc,List.map_cons,List.map_append,vL,List.map_cons,List.map_nil,As];have e1:b+n+nd.mn.toNat*z=b+nd.mn.toNat*z+n:=by omega
  have e2:b+nd.mn.toNat*z+n+1=b+nd.mn.toNat*z+1+n:=by omega
  have e3:b+nd.mn.toNat*z+n+z+2=b+nd.mn.toNat*z+z+2+n:=by omega
  rw[e1,e2,e3,hc]
 ·rw[List.map_append,sr hc];have e1:b+n+nd.mn.toNat*z=b+nd.mn.toNat*z+n:=by omega
  rw[e1]
  congr 1
  refine xM (fun s=>?_) hc _ _;rw[vL]
  congr 1
  omega
mutual
theorem pE (n:Nat):∀(t:Tr) (b:Nat),aS t (b+n)=(aS t b).map (xB n)
 | .mk nd ks,b=>by
  have hc:=fun b=>yp n ks b;have ha:=fun e b=>yy n e ks b;simp only[aS]
  split
  ·rw[List.map_cons,List.map_nil,ov _ _ _ _ (by decide) (by decide)]
  split
  ·rw[List.map_cons,List.map_nil,ov _ _ _ _ (by decide) (by decide)]
  split
  ·rw[List.map_cons,List.map_nil,ov _ _ _ _ (by decide) (by decide)]
  split
  ·exact hc b
  split
  ·rw[Nat.add_right_comm];exact ha _ b
  split
  ·exact CH hc
  split
  ·rw[List.map_cons,List.map_append,List.map_cons,List.map_nil,ov _ _ _ _ (by decide) (by decide),ov _ _ _ _ (by decide) (by decide),Nat.add_right_comm,hc]
  ·rfl
theorem yp (n:Nat):∀(ts:bE) (b:Nat),fp ts (b+n)=(fp ts b).map (xB n)
 | .nil,b=>by simp only[fp,List.map_nil]
 | .cons t ts,b=>by
  have h:=yp n ts (b+t.sz);rw[Nat.add_right_comm] at h;simp only[fp,List.map_append];rw[pE n t b,h]
theorem yy (n:Nat):∀(e:Nat) (ts:bE) (b:Nat),eo (lI (e+n)) ts (b+n)=(eo (lI e) ts b).map (xB n)
 |e,.nil,b=>by simp only[eo,List.map_nil]
 |e,.cons t ts,b=>by
  have h:=yy n e ts (b+t.sz+2);have h1:=pE n t (b+1);have e1:b+t.sz+2+n=b+n+t.sz+2:=by omega
  have e2:b+1+n=b+n+1:=by omega
  have e3:b+1+t.sz+1+n=b+n+1+t.sz+1:=by omega
  rw[e1] at h;rw[e2] at h1;simp only[eo]
  split
  ·exact pE n t b
  ·rw[List.map_cons,List.map_append,List.map_cons,vL,As,h1,h,e3]
end
def na (lo hi:Nat) (i:aK):Prop:=i.op≠7∧(i.op=2→((lo:Int)≤i.x∧i.x≤hi)∧(lo:Int)≤i.y∧i.y≤hi)∧(i.op=3→(lo:Int)≤i.x∧i.x≤hi)
theorem na.mono {lo hi rr hY:Nat} {i:aK} (h:na lo hi i) (h1:rr≤lo) (h2:hi≤hY):na rr hY i:=
 ⟨h.1,fun e=>by have:=h.2.1 e;omega,fun e=>by have:=h.2.2 e;omega⟩
theorem na.mk {lo hi:Nat} {op:Int} (x y:Int) (rs:List Rg) (h2:op≠2) (h3:op≠3) (h7:op≠7):na lo hi (cS op x y rs):=⟨h7,fun h=>absurd h h2,fun h=>absurd h h3⟩
theorem na.sp {lo hi s o:Nat} {lz:Bool} (h1:lo≤s+1∧s+1≤hi) (h2:lo≤o∧o≤hi):na lo hi (ml s o lz):=by
 cases lz
 ·exact⟨by show(2:Int)≠7;decide,fun _=>by show((lo:Int)≤((s+1:Nat):Int)∧((s+1:Nat):Int)≤hi)∧(lo:Int)≤(o:Int)∧(o:Int)≤hi;omega,fun h=>absurd h (by show¬(2:Int)=3;decide)⟩
 ·exact⟨by show(2:Int)≠7;decide,fun _=>by show((lo:Int)≤(o:Int)∧(o:Int)≤hi)∧(lo:Int)≤((s+1:Nat):Int)∧((s+1:Nat):Int)≤hi;omega,fun h=>absurd h (by show¬(2:Int)=3;decide)⟩
theorem na.jp {lo hi e:Nat} (h1:lo≤e∧e≤hi):na lo hi (lI e):=
 ⟨by show(3:Int)≠7;decide,fun h=>absurd h (by show¬(3:Int)=2;decide),fun _=>by show(lo:Int)≤(e:Int)∧(e:Int)≤hi;omega⟩
theorem su {c:Nat→List aK} {z:Nat} (hc:∀b,∀i∈c b,na b (b+z) i):∀k b,∀i∈eS c z k b,na b (b+k*z) i
 |0,b,i,hi=>by cases hi
 |k+1,b,i,hi=>by
  simp only[eS] at hi;rw[Nat.succ_mul]
  rcases List.mem_append.1 hi with hi|hi
  ·exact(hc b i hi).mono (Nat.le_refl _) (by omega)
  ·exact(su hc k _ i hi).mono (by omega) (by omega)
theorem xO {sp:Nat→aK} {c:Nat→List aK} {z lo hi:Nat} (hs:∀s,lo≤s→s+1≤hi→na lo hi (sp s)) (hc:∀b,∀i∈c b,na b (b+z) i):∀k b,lo≤b→b+k*(z+1)≤hi→∀i∈eL sp c z k b,na lo hi i
 |0,b,_,_,i,hY=>by cases hY
 |k+1,b,h1,h2,i,hY=>by
  simp only[eL] at hY;rw[Nat.succ_mul] at h2
  rcases List.mem_cons.1 hY with rfl|hY
  ·exact hs b h1 (by omega)
  ·rcases List.mem_append.1 hY with hY|hY
   ·exact(hc _ i hY).mono (by omega) (by omega)
   ·exact xO hs hc k _ (by omega) (by omega) i hY
mutual
theorem pF:∀(t:Tr) (b:Nat),t.ok→∀i∈aS t b,na b (b+t.sz) i
 | .mk n ks,b,ba,i,hi=>by
  simp only[Tr.ok] at ba;have hc:=fun b=>yq ks b ba.2;obtain⟨_,hq⟩:=ba.1;simp only[aS] at hi;simp only[Tr.sz]
  by_cases q2:n.op=2
  ·rw[if_pos q2] at hi;simp only[List.mem_cons,List.not_mem_nil,or_false] at hi;subst hi;exact na.mk _ _ _ (by decide) (by decide) (by decide)
  rw[if_neg q2] at hi
  by_cases q7:n.op=7
  ·rw[if_pos q7] at hi;simp only[List.mem_cons,List.not_mem_nil,or_false] at hi;subst hi;exact na.mk _ _ _ (by decide) (by decide) (by decide)
  rw[if_neg q7] at hi
  by_cases q8:n.op=8
  ·rw[if_pos q8] at hi;simp only[List.mem_cons,List.not_mem_nil,or_false] at hi;subst hi;exact na.mk _ _ _ (by decide) (by decide) (by decide)
  rw[if_neg q8] at hi
  have hz:∀s k,bL n s k=if n.op=4 then s+2*(k-1) else if n.op=6 then s+2 else if n.op=5 then(if n.mx=-1 then n.mn.toNat*s+s+2 else n.mn.toNat*s+(n.mx.toNat-n.mn.toNat)*(s+1)) else s:=by
   intro s k;unfold bL;rw[if_neg (by omega)]
  by_cases q3:n.op=3
  ·rw[if_pos q3] at hi;rw[hz,if_neg (by omega),if_neg (by omega),if_neg (by omega)];exact hc b i hi
  rw[if_neg q3] at hi
  by_cases q4:n.op=4
  ·rw[if_pos q4] at hi;have MA:bL n ks.sz ks.len=ks.sz+2*(ks.len-1):=by rw[hz,if_pos q4]
   rw[MA] at hi⊢;exact yz ks b (b+(ks.sz+2*(ks.len-1))) ba.2 (Nat.le_refl _) i hi
  rw[if_neg q4] at hi
  by_cases q5:n.op=5
  ·rw[if_pos q5] at hi;rw[hz,if_neg q4,if_neg (by omega),if_pos q5];unfold my at hi
   by_cases qm:n.mx=-1
   ·rw[if_pos qm] at hi⊢
    rcases List.mem_append.1 hi with hi|hi
    ·exact(su hc _ _ i hi).mono (Nat.le_refl _) (by omega)
    ·rcases List.mem_cons.1 hi with rfl|hi
     ·exact na.sp (by omega) (by omega)
     ·rcases List.mem_append.1 hi with hi|hi
      ·exact(hc _ i hi).mono (by omega) (by omega)
      ·simp only[List.mem_cons,List.not_mem_nil,or_false] at hi;subst hi;exact na.jp (by omega)
   ·rw[if_neg qm] at hi⊢
    rcases List.mem_append.1 hi with hi|hi
    ·exact(su hc _ _ i hi).mono (Nat.le_refl _) (by omega)
    ·exact xO (fun s h1 h2=>na.sp (by omega) (by omega)) hc _ _ (by omega) (by omega) i hi
  rw[if_neg q5] at hi
  by_cases q6:n.op=6
  ·rw[if_pos q6] at hi;rw[hz,if_neg q4,if_pos q6]
   rcases List.mem_cons.1 hi with rfl|hi
   ·exact na.mk _ _ _ (by decide) (by decide) (by decide)
   ·rcases List.mem_append.1 hi with hi|hi
    ·exact(hc _ i hi).mono (by omega) (by omega)
    ·simp only[List.mem_cons,List.not_mem_nil,or_false] at hi;subst hi;exact na.mk _ _ _ (by decide) (by decide) (by decide)
  ·rw[if_neg q6] at hi;cases hi
theorem yq:∀(ts:bE) (b:Nat),ts.ok→∀i∈fp ts b,na b (b+ts.sz) i
 | .nil,b,_,i,hi=>by simp[fp] at hi
 | .cons t ts,b,ba,i,hi=>by
  simp only[bE.ok] at ba;simp only[fp] at hi;simp only[bE.sz]
  rcases List.mem_append.1 hi with hi|hi
  ·exact(pF t b ba.1 i hi).mono (Nat.le_refl _) (by omega)
  ·exact(yq ts _ ba.2 i hi).mono (by omega) (by omega)
theorem yz:∀(ts:bE) (b e:Nat),ts.ok→b+(ts.sz+2*(ts.len-1))≤e→∀i∈eo (lI e) ts b,na b e i
 | .nil,b,e,_,_,i,hi=>by simp[eo] at hi
 | .cons t ts,b,e,ba,he,i,hi=>by
  simp only[bE.ok] at ba;simp only[eo] at hi;simp only[bE.sz,bE.len] at he
  by_cases q:ts.len=0
  ·rw[if_pos q] at hi;exact(pF t b ba.1 i hi).mono (Nat.le_refl _) (by omega)
  ·rw[if_neg q] at hi
   rcases List.mem_cons.1 hi with rfl|hi
   ·exact na.sp (by omega) (by omega)
   ·rcases List.mem_append.1 hi with hi|hi
    ·exact(pF t _ ba.1 i hi).mono (by omega) (by omega)
    ·rcases List.mem_cons.1 hi with rfl|hi
     ·exact na.jp (by omega)
     ·exact(yz ts _ e ba.2 (by omega) i hi).mono (by omega) (by omega)
end
theorem wZ (r:Nat) (c:List aK) (s:List Int):ez [] r c s=⟨c,s,0,0⟩:=by simp only[ez]
theorem vf {code:List aK} {pc:Nat} {i:aK} (h:(code.map dZ)[pc]?=some i):∃q,code[pc]?=some q∧i=dZ q:=by
 rw[List.getElem?_map] at h;obtain⟨q,hq,rfl⟩:=Option.map_eq_some_iff.1 h;exact⟨q,hq,rfl⟩
theorem get_copy {code:List aK} {pc:Nat} {i:aK} (h:code[pc]?=some i):(code.map dZ)[pc]?=some (dZ i):=by
 rw[List.getElem?_map,h];rfl
theorem ve (code:List aK):∀(f:Nat) (seen:List Bool) (cg:List Int),wS (code.map dZ) f seen cg=wS code f seen cg
 |0,_,_=>rfl
 |_+1,_,[]=>rfl
 |f+1,seen,v::cg=>by
  have ih:=ve code f;unfold wS;rw[List.getElem?_map]
  cases h1:seen[v.toNat]? with
  |none=>exact ih _ _
  |some b=>
   cases b with
   |true=>exact ih _ _
   |false=>
    cases h2:code[v.toNat]? with
    |none=>rfl
    |some i=>exact ih _ _
theorem oG (code:List aK) (s:Int):cv (code.map dZ) s=cv code s:=by
 unfold cv;rw[List.length_map,ve]
theorem vO {p q:Pg} (h1:q.code=p.code.map dZ) (h2:q.az=p.az):bW q↔bW p:=by
 have hl:q.code.length=p.code.length:=by rw[h1];simp
 constructor
 ·intro h;refine⟨by rw[←hl];exact h.cl,by rw[←h2];exact h.sl,fun pc i hi=>?_,fun v hv=>?_,fun r s hs pc i FP FM hi fw=>?_⟩
  ·have:=h.sh pc (dZ i) (by rw[h1];exact get_copy hi);rw[hl,h2] at this;exact this
  ·have:=h.st v (by rw[h2];exact hv);rw[hl] at this;exact this
  ·exact h.fo r s (by rw[h2];exact hs) pc (dZ i) (by rw[hl];exact FP) (by rw[h1,oG];exact FM) (by rw[h1];exact get_copy hi) fw
 ·intro h;refine⟨by rw[hl];exact h.cl,by rw[h2];exact h.sl,fun pc i hi=>?_,fun v hv=>?_,fun r s hs pc i FP FM hi fw=>?_⟩
  ·rw[h1] at hi;obtain⟨j,hj,rfl⟩:=vf hi;rw[hl,h2];exact h.sh pc j hj
  ·rw[hl];exact h.st v (by rw[←h2];exact hv)
  ·rw[h1] at hi FM;rw[oG] at FM;obtain⟨j,hj,rfl⟩:=vf hi;exact h.fo r s (by rw[←h2];exact hs) pc j (by rw[←hl];exact FP) FM hj fw
theorem BR {p:Prop} (h:dec p=true):p:=by
 refine Classical.byContradiction fun g=>?_;rw[pA g] at h;cases h
def iE (seen:List Bool) (v:Int):Prop:=0≤v∧seen[v.toNat]?=some true
structure xi (code:List aK) (start:Int) (seen:List Bool) (cg:List Int):Prop where
 a:∀u i,seen[u]?=some true→code[u]?=some i→∀w∈cF u i,iE seen w∨w∈cg
 b:∀v∈cg,v=start∨∃u i,seen[u]?=some true∧code[u]?=some i∧v∈cF u i
 c:∀v,iE seen v→v=start∨∃u i,seen[u]?=some true∧code[u]?=some i∧v∈cF u i∧v≠(u:Int)
 d:iE seen start∨start∈cg
theorem eH {seen:List Bool} {k:Nat} (hk:k<seen.length) {v:Int}:iE (seen.set k true) v↔v=(k:Int)∨iE seen v:=by
 unfold iE;constructor
 ·rintro⟨h0,h⟩
  by_cases hv:v.toNat=k
  ·left;omega
  ·rw[List.getElem?_set_ne (fun e=>hv e.symm)] at h;exact .inr ⟨h0,h⟩
 ·rintro(rfl|⟨h0,h⟩)
  ·exact⟨by omega,by rw[Int.toNat_natCast,List.getElem?_set_self hk]⟩
  ·refine⟨h0,?_⟩
   by_cases hv:v.toNat=k
   ·rw[hv,List.getElem?_set_self hk]
   ·rw[List.getElem?_set_ne (fun e=>hv e.symm)];exact h
theorem dh {seen:List Bool} {u:Nat}:seen[u]?=some true↔iE seen (u:Int):=by
 unfold iE;rw[Int.toNat_natCast];exact⟨fun h=>⟨by omega,h⟩,fun h=>h.2⟩
theorem wQ {code:List aK} {start:Int} (hcl:iy code):∀(f:Nat) (seen:List Bool) (cg:List Int),seen.length=code.length→(∀v∈cg,0≤v∧v<(code.length:Int))→3*seen.count false+cg.length≤f→xi code start seen cg→xi code start (wS code f seen cg) []
 |0,seen,cg,_,_,hm,hi=>by
  have:cg=[]:=by cases cg with|nil=>rfl|cons _ _=>simp at hm
  subst this;exact hi
 |f+1,seen,[],_,_,_,hi=>hi
 |f+1,seen,v::cg,hl,hs,hm,hi=>by
  have hv:=hs v (List.mem_cons_self ..);have ta:∀w∈cg,0≤w∧w<(code.length:Int):=fun w hw=>hs w (List.mem_cons_of_mem _ hw);obtain⟨k,rfl⟩:=Int.eq_ofNat_of_zero_le hv.1;have hk:k<code.length:=by omega
  obtain⟨i,hci⟩:∃i,code[k]?=some i:=⟨code[k]'hk,List.getElem?_eq_getElem _⟩
  obtain⟨b,hb⟩:∃b,seen[k]?=some b:=⟨seen[k]'(by omega),List.getElem?_eq_getElem _⟩
  simp only[List.length_cons] at hm;have hp:∀w,w∈((k:Int)::cg)→w=(k:Int)∨w∈cg:=fun w hw=>List.mem_cons.1 hw;unfold wS;simp only[Int.toNat_natCast,hb,hci]
  cases b with
  |true=>
   have lu:iE seen (k:Int):=dh.1 hb;refine wQ hcl f seen cg hl ta (by omega) ⟨fun u j hu hj w hw=>?_,fun w hw=>hi.b w (List.mem_cons_of_mem _ hw),hi.c,?_⟩
   ·rcases hi.a u j hu hj w hw with h|h
    ·exact .inl h
    ·rcases hp w h with rfl|h
     ·exact .inl lu
     ·exact .inr h
   ·rcases hi.d with h|h
    ·exact .inl h
    ·rcases hp start h with h|h
     ·exact .inl (h▸lu)
     ·exact .inr h
  |false=>
   have wG:=count_set hb;have hU:k<seen.length:=by omega
   have Qb:=uB k i;refine wQ hcl f _ _ (by rw[List.length_set];exact hl) (fun w hw=>?_) (by simp only[List.length_append,List.length_reverse];omega) ⟨fun u j hu hj w hw=>?_,fun w hw=>?_,fun w hw=>?_,?_⟩
   ·rcases List.mem_append.1 hw with hw|hw
    ·exact hcl k i hci w (List.mem_reverse.1 hw)
    ·exact ta w hw
   ·rcases(eH hU).1 (dh.1 hu) with h|h
    ·have:u=k:=by omega
     subst this;rw[hci] at hj;cases hj;exact .inr (List.mem_append.2 (.inl (List.mem_reverse.2 hw)))
    ·rcases hi.a u j (dh.2 h) hj w hw with h|h
     ·exact .inl ((eH hU).2 (.inr h))
     ·rcases hp w h with h|h
      ·exact .inl ((eH hU).2 (.inl h))
      ·exact .inr (List.mem_append.2 (.inr h))
   ·rcases List.mem_append.1 hw with hw|hw
    ·exact .inr ⟨k,i,dh.2 ((eH hU).2 (.inl rfl)),hci,List.mem_reverse.1 hw⟩
    ·rcases hi.b w (List.mem_cons_of_mem _ hw) with h|⟨u,j,h1,h2,h3⟩
     ·exact .inl h
     ·exact .inr ⟨u,j,dh.2 ((eH hU).2 (.inr (dh.1 h1))),h2,h3⟩
   ·rcases(eH hU).1 hw with rfl|h
    ·rcases hi.b (k:Int) (List.mem_cons_self ..) with h|⟨u,j,h1,h2,h3⟩
     ·exact .inl h
     ·refine .inr ⟨u,j,dh.2 ((eH hU).2 (.inr (dh.1 h1))),h2,h3,fun e=>?_⟩;have:k=u:=by omega
      subst this;rw[hb] at h1;cases h1
    ·rcases hi.c w h with h|⟨u,j,h1,h2,h3,h4⟩
     ·exact .inl h
     ·exact .inr ⟨u,j,dh.2 ((eH hU).2 (.inr (dh.1 h1))),h2,h3,h4⟩
   ·rcases hi.d with h|h
    ·exact .inl ((eH hU).2 (.inr h))
    ·rcases hp start h with h|h
     ·exact .inl ((eH hU).2 (.inl h))
     ·exact .inr (List.mem_append.2 (.inr h))
theorem ud {code:List aK} {start:Int} (hcl:iy code) (c8:0≤start∧start<(code.length:Int)):xi code start (cv code start) []:=by
 have kP:∀v,¬iE (List.replicate code.length false) v:=by
  rintro v ⟨h0,h⟩;rw[List.getElem?_replicate] at h
  split at h<;>cases h
 refine wQ hcl _ _ _ (by simp) (fun v hv=>?_) (by simp) ⟨fun u i hu=>absurd (dh.1 hu) (kP _),fun v hv=>?_,fun v hv=>absurd hv (kP v),.inr (by simp)⟩
 ·simp only[List.mem_cons,List.not_mem_nil,or_false] at hv;subst hv;exact c8
 ·simp only[List.mem_cons,List.not_mem_nil,or_false] at hv;exact .inl hv
theorem iQ:∀{L:List Bool} {s:Nat} {v:Int},v∈oP s L↔∃k:Nat,L[k]?=some true∧v=((s+k:Nat):Int)
 |[],s,v=>⟨fun h=>(by cases h),fun⟨k,h,_⟩=>by simp at h⟩
 |b::l,s,v=>by
  simp only[oP,List.mem_append];constructor
  ·rintro(h|h)
   ·split at h
    ·rename_i hb;simp only[List.mem_cons,List.not_mem_nil,or_false] at h;exact⟨0,by simp[hb],by rw[h];simp⟩
    ·cases h
   ·obtain⟨k,h1,h2⟩:=iQ.1 h;exact⟨k+1,by simpa using h1,by rw[h2];congr 1;omega⟩
  ·rintro⟨k,h1,h2⟩
   cases k with
   |zero=>simp at h1;subst h1;left;simp[h2]
   |succ k=>exact .inr (iQ.2 ⟨k,by simpa using h1,by rw[h2];congr 1;omega⟩)
theorem qX : ∀ (L : List Bool) (s : Nat), (oP s L).Pairwise (· < ·)
 | [], s => .nil
 | b :: l, s => by
  simp only [oP];have ih := qX l (s + 1)
  split
  ·rw [List.singleton_append, List.pairwise_cons];refine ⟨fun v hv => ?_, ih⟩;obtain ⟨k, _, rfl⟩ := iQ.1 hv;omega
  ·exact ih
def cZ (lo hi:Nat) (i:aK):Prop:=
 (i.op=1∧i.x=0∧i.y=0∧eR i.rs=true)∨(i.op=2∧i.rs=[]∧((lo:Int)≤i.x∧i.x≤hi)∧(lo:Int)≤i.y∧i.y≤hi)∨(i.op=3∧i.rs=[]∧i.y=0∧(lo:Int)≤i.x∧i.x≤hi)∨(i.op=4∧i.rs=[]∧i.y=0∧0≤i.x∧i.x<10)∨((i.op=5∨i.op=6)∧i.rs=[]∧i.y=0∧i.x=0)
theorem cZ.mono {lo hi rr hY:Nat} {i:aK} (h:cZ lo hi i) (h1:rr≤lo) (h2:hi≤hY):cZ rr hY i:=by
 rcases h with h|⟨a,b,c,d⟩|⟨a,b,c,d⟩|h|h
 ·exact .inl h
 ·exact .inr (.inl ⟨a,b,by omega,by omega⟩)
 ·exact .inr (.inr (.inl ⟨a,b,c,by omega⟩))
 ·exact .inr (.inr (.inr (.inl h)))
 ·exact .inr (.inr (.inr (.inr h)))
theorem cZ.sp {lo hi s o:Nat} {lz:Bool} (h1:lo≤s+1∧s+1≤hi) (h2:lo≤o∧o≤hi):cZ lo hi (ml s o lz):=by
 refine .inr (.inl ?_);cases lz
 ·refine⟨rfl,rfl,?_⟩;show((lo:Int)≤((s+1:Nat):Int)∧((s+1:Nat):Int)≤hi)∧(lo:Int)≤(o:Int)∧(o:Int)≤hi;omega
 ·refine⟨rfl,rfl,?_⟩;show((lo:Int)≤(o:Int)∧(o:Int)≤hi)∧(lo:Int)≤((s+1:Nat):Int)∧((s+1:Nat):Int)≤hi;omega
theorem cZ.jp {lo hi e:Nat} (h1:lo≤e∧e≤hi):cZ lo hi (lI e):=by
 refine .inr (.inr (.inl ⟨rfl,rfl,rfl,?_⟩));show(lo:Int)≤(e:Int)∧(e:Int)≤hi;omega
theorem cZ.save {lo hi:Nat} {x:Int} (h:0≤x∧x<10):cZ lo hi (cS 4 x 0 []):=.inr (.inr (.inr (.inl ⟨rfl,rfl,rfl,h⟩)))
theorem mA {c:Nat→List aK} {z:Nat} (hc:∀b,∀i∈c b,cZ b (b+z) i):∀k b,∀i∈eS c z k b,cZ b (b+k*z) i
 |0,b,i,hi=>by cases hi
 |k+1,b,i,hi=>by
  simp only[eS] at hi;rw[Nat.succ_mul]
  rcases List.mem_append.1 hi with hi|hi
  ·exact(hc b i hi).mono (Nat.le_refl _) (by omega)
  ·exact(mA hc k _ i hi).mono (by omega) (by omega)
theorem qV {sp:Nat→aK} {c:Nat→List aK} {z lo hi:Nat} (hs:∀s,lo≤s→s+1≤hi→cZ lo hi (sp s)) (hc:∀b,∀i∈c b,cZ b (b+z) i):∀k b,lo≤b→b+k*(z+1)≤hi→∀i∈eL sp c z k b,cZ lo hi i
 |0,b,_,_,i,hY=>by cases hY
 |k+1,b,h1,h2,i,hY=>by
  simp only[eL] at hY;rw[Nat.succ_mul] at h2
  rcases List.mem_cons.1 hY with rfl|hY
  ·exact hs b h1 (by omega)
  ·rcases List.mem_append.1 hY with hY|hY
   ·exact(hc _ i hY).mono (by omega) (by omega)
   ·exact qV hs hc k _ (by omega) (by omega) i hY
def Ch (l:List dr):Prop:=∀n∈l,n.op=2→eR n.rs=true
mutual
theorem jz:∀(t:Tr) (b:Nat),t.ok→Ch t.flat→∀i∈aS t b,cZ b (b+t.sz) i
 | .mk n ks,b,ba,lL,i,hi=>by
  simp only[Tr.ok] at ba;simp only[Tr.flat] at lL;have hc:=fun b=>rV ks b ba.2 (fun n hn=>lL n (List.mem_cons_of_mem _ hn));obtain⟨_,hq⟩:=ba.1;simp only[aS] at hi;simp only[Tr.sz]
  by_cases q2:n.op=2
  ·rw[if_pos q2] at hi;simp only[List.mem_cons,List.not_mem_nil,or_false] at hi;subst hi;exact .inl ⟨rfl,rfl,rfl,lL n (List.mem_cons_self ..) q2⟩
  rw[if_neg q2] at hi
  by_cases q7:n.op=7
  ·rw[if_pos q7] at hi;simp only[List.mem_cons,List.not_mem_nil,or_false] at hi;subst hi;exact .inr (.inr (.inr (.inr ⟨.inl rfl,rfl,rfl,rfl⟩)))
  rw[if_neg q7] at hi
  by_cases q8:n.op=8
  ·rw[if_pos q8] at hi;simp only[List.mem_cons,List.not_mem_nil,or_false] at hi;subst hi;exact .inr (.inr (.inr (.inr ⟨.inr rfl,rfl,rfl,rfl⟩)))
  rw[if_neg q8] at hi
  have hz:∀s k,bL n s k=if n.op=4 then s+2*(k-1) else if n.op=6 then s+2 else if n.op=5 then(if n.mx=-1 then n.mn.toNat*s+s+2 else n.mn.toNat*s+(n.mx.toNat-n.mn.toNat)*(s+1)) else s:=by
   intro s k;unfold bL;rw[if_neg (by omega)]
  by_cases q3:n.op=3
  ·rw[if_pos q3] at hi;rw[hz,if_neg (by omega),if_neg (by omega),if_neg (by omega)];exact hc b i hi
  rw[if_neg q3] at hi
  by_cases q4:n.op=4
  ·rw[if_pos q4] at hi;have MA:bL n ks.sz ks.len=ks.sz+2*(ks.len-1):=by rw[hz,if_pos q4]
   rw[MA] at hi⊢;exact rY ks b (b+(ks.sz+2*(ks.len-1))) ba.2 (fun n hn=>lL n (List.mem_cons_of_mem _ hn)) (Nat.le_refl _) i hi
  rw[if_neg q4] at hi
  by_cases q5:n.op=5
  ·rw[if_pos q5] at hi;rw[hz,if_neg q4,if_neg (by omega),if_pos q5];unfold my at hi
   by_cases qx:n.mx=-1
   ·rw[if_pos qx] at hi⊢
    rcases List.mem_append.1 hi with hi|hi
    ·exact(mA hc _ _ i hi).mono (Nat.le_refl _) (by omega)
    ·rcases List.mem_cons.1 hi with rfl|hi
     ·exact cZ.sp (by omega) (by omega)
     ·rcases List.mem_append.1 hi with hi|hi
      ·exact(hc _ i hi).mono (by omega) (by omega)
      ·simp only[List.mem_cons,List.not_mem_nil,or_false] at hi;subst hi;exact cZ.jp (by omega)
   ·rw[if_neg qx] at hi⊢
    rcases List.mem_append.1 hi with hi|hi
    ·exact(mA hc _ _ i hi).mono (Nat.le_refl _) (by omega)
    ·exact qV (fun s h1 h2=>cZ.sp (by omega) (by omega)) hc _ _ (by omega) (by omega) i hi
  rw[if_neg q5] at hi
  by_cases q6:n.op=6
  ·rw[if_pos q6] at hi;rw[hz,if_neg q4,if_pos q6]
   rcases List.mem_cons.1 hi with rfl|hi
   ·exact cZ.save (by omega)
   ·rcases List.mem_append.1 hi with hi|hi
    ·exact(hc _ i hi).mono (by omega) (by omega)
    ·simp only[List.mem_cons,List.not_mem_nil,or_false] at hi;subst hi;exact cZ.save (by omega)
  ·rw[if_neg q6] at hi;cases hi
theorem rV:∀(ts:bE) (b:Nat),ts.ok→Ch ts.flat→∀i∈fp ts b,cZ b (b+ts.sz) i
 | .nil,b,_,_,i,hi=>by simp[fp] at hi
 | .cons t ts,b,ba,lL,i,hi=>by
  simp only[bE.ok] at ba;simp only[bE.flat] at lL;simp only[fp] at hi;simp only[bE.sz]
  rcases List.mem_append.1 hi with hi|hi
  ·exact(jz t b ba.1 (fun n hn=>lL n (List.mem_append_left _ hn)) i hi).mono (Nat.le_refl _) (by omega)
  ·exact(rV ts _ ba.2 (fun n hn=>lL n (List.mem_append_right _ hn)) i hi).mono (by omega) (by omega)
theorem rY:∀(ts:bE) (b e:Nat),ts.ok→Ch ts.flat→b+(ts.sz+2*(ts.len-1))≤e→∀i∈eo (lI e) ts b,cZ b e i
 | .nil,b,e,_,_,_,i,hi=>by simp[eo] at hi
 | .cons t ts,b,e,ba,lL,he,i,hi=>by
  simp only[bE.ok] at ba;simp only[bE.flat] at lL;simp only[eo] at hi;simp only[bE.sz,bE.len] at he;have h1:Ch t.flat:=fun n hn=>lL n (List.mem_append_left _ hn);have h2:Ch ts.flat:=fun n hn=>lL n (List.mem_append_right _ hn)
  by_cases q:ts.len=0
  ·rw[if_pos q] at hi;exact(jz t b ba.1 h1 i hi).mono (Nat.le_refl _) (by omega)
  ·rw[if_neg q] at hi
   rcases List.mem_cons.1 hi with rfl|hi
   ·exact cZ.sp (by omega) (by omega)
   ·rcases List.mem_append.1 hi with hi|hi
    ·exact(jz t _ ba.1 h1 i hi).mono (by omega) (by omega)
    ·rcases List.mem_cons.1 hi with rfl|hi
     ·exact cZ.jp (by omega)
     ·exact(rY ts _ e ba.2 h2 (by omega) i hi).mono (by omega) (by omega)
end
inductive Path (C:List aK):Nat→Nat→Prop where
 |refl (u:Nat):Path C u u
 |step {u v w:Nat} {i:aK} (h:C[u]?=some i) (hn:(v:Int)∈cF u i) (p:Path C v w):Path C u w
theorem Path.trans {C:List aK} {u v w:Nat} (h:Path C u v) (g:Path C v w):Path C u w:=by
 induction h with
 |refl=>exact g
 |step h hn _ ih=>exact .step h hn (ih g)
theorem Path.wM {C:List aK} {u:Nat} {i:aK} (h:C[u]?=some i) (ho:i.op≠2∧i.op≠3∧i.op≠7):Path C u (u+1):=
 .step h (by unfold cF;rw[if_neg ho.1,if_neg ho.2.1,if_neg ho.2.2];exact List.mem_cons_self ..) (.refl _)
theorem Path.jp {C:List aK} {u e:Nat} (h:C[u]?=some (lI e)):Path C u e:=
 .step h (by show(e:Int)∈cF u (cS 3 (e:Nat) 0 []);unfold cF;rw[if_neg (show¬(cS 3 (e:Nat) 0 []).op=2 by show¬(3:Int)=2;decide),if_pos (show(cS 3 (e:Nat) 0 []).op=3 from rfl)];exact List.mem_cons_self ..) (.refl _)
theorem Path.sp {C:List aK} {u s o:Nat} {lz:Bool} (h:C[u]?=some (ml s o lz)):Path C u (s+1)∧Path C u o:=by
 have hn:cF u (ml s o lz)=[(ml s o lz).x,(ml s o lz).y]:=by
  unfold cF;rw[if_pos (by cases lz<;>rfl)]
 cases lz
 ·exact⟨.step h (by rw[hn];exact List.mem_cons_self ..) (.refl _),.step h (by rw[hn];exact List.mem_cons_of_mem _ (List.mem_cons_self ..)) (.refl _)⟩
 ·exact⟨.step h (by rw[hn];exact List.mem_cons_of_mem _ (List.mem_cons_self ..)) (.refl _),.step h (by rw[hn];exact List.mem_cons_self ..) (.refl _)⟩
theorem mz {C:List aK} {c:Nat→List aK} {z:Nat} (hl:∀b,(c b).length=z) (hc:∀b,fc C b (c b)→Path C b (b+z)):∀k b,fc C b (eS c z k b)→Path C b (b+k*z)
 |0,b,_=>by rw[Nat.zero_mul];exact .refl _
 |k+1,b,h=>by
  rw[eS] at h;have h2:=h.right;rw[hl] at h2;have:=mz hl hc k (b+z) h2;rw[Nat.succ_mul,show b+(k*z+z)=b+z+k*z by omega];exact(hc b h.left).trans this
theorem zG {C:List aK}:∀(m:Nat) (t:Tr),t.flat.length≤m→∀b:Nat,t.ok→fc C b (aS t b)→Path C b (b+t.sz):=by
 intro m
 induction m with
 |zero=>intro t h;have:=t.gT;omega
 |succ m ih=>
  rintro⟨n,ks⟩ hm b ba h;simp only[Tr.flat,List.length_cons] at hm;simp only[Tr.ok] at ba
  have hcat:∀(ts:bE) (b:Nat),ts.flat.length≤m→ts.ok→fc C b (fp ts b)→Path C b (b+ts.sz):=by
   intro ts
   induction ts using bE.rec (motive_1:=fun _=>True) with
   |mk=>trivial
   |nil=>intro b _ _ _;exact .refl _
   |cons t ts _ x4=>
    intro b h1 h2 h3;simp only[bE.flat,List.length_append] at h1;simp only[bE.ok] at h2;simp only[fp] at h3;have h4:=h3.right;rw[ct t b h2.1] at h4;have h5:=x4 (b+t.sz) (by omega) h2.2 h4;simp only[bE.sz];rw[←Nat.add_assoc];exact(ih t (by omega) b h2.1 h3.left).trans h5
  obtain⟨kP,lu⟩:=ba;obtain⟨_,hq⟩:=kP;have hU:=fun b=>lZ ks b lu;simp only[aS] at h;simp only[Tr.sz];have hz:∀s k,bL n s k=if n.op=2∨n.op=7∨n.op=8 then 1 else if n.op=4 then s+2*(k-1) else if n.op=6 then s+2 else if n.op=5 then(if n.mx=-1 then n.mn.toNat*s+s+2 else n.mn.toNat*s+(n.mx.toNat-n.mn.toNat)*(s+1)) else s:=fun s k=>rfl;rw[hz]
  by_cases q2:n.op=2
  ·rw[if_pos q2] at h;rw[if_pos (.inl q2)];exact Path.wM h.head (by show(1:Int)≠2∧(1:Int)≠3∧(1:Int)≠7;decide)
  rw[if_neg q2] at h
  by_cases q7:n.op=7
  ·rw[if_pos q7] at h;rw[if_pos (.inr (.inl q7))];exact Path.wM h.head (by show(5:Int)≠2∧(5:Int)≠3∧(5:Int)≠7;decide)
  rw[if_neg q7] at h
  by_cases q8:n.op=8
  ·rw[if_pos q8] at h;rw[if_pos (.inr (.inr q8))];exact Path.wM h.head (by show(6:Int)≠2∧(6:Int)≠3∧(6:Int)≠7;decide)
  rw[if_neg q8] at h;rw[if_neg (by omega)]
  by_cases q3:n.op=3
  ·rw[if_pos q3] at h;rw[if_neg (by omega),if_neg (by omega),if_neg (by omega)];exact hcat ks b (by omega) lu h
  rw[if_neg q3] at h
  by_cases q4:n.op=4
  ·rw[if_pos q4] at h;have MA:bL n ks.sz ks.len=ks.sz+2*(ks.len-1):=by rw[hz,if_neg (by omega),if_pos q4]
   rw[MA] at h;rw[if_pos q4]
   cases ks with
   |nil=>simp only[bE.len] at hq;omega
   |cons t ts=>
    simp only[bE.len] at hq;simp only[bE.flat,List.length_append] at hm;simp only[bE.ok] at lu;simp only[eo] at h;rw[if_neg (by omega)] at h;have h1:=(Path.sp h.head).1;have h2:=ih t (by omega) (b+1) lu.1 h.tail.left;have h3:=h.tail.right;rw[ct t _ lu.1] at h3;exact h1.trans (h2.trans (Path.jp h3.head))
  rw[if_neg q4] at h;rw[if_neg q4]
  by_cases q5:n.op=5
  ·rw[if_pos q5] at h;rw[if_neg (by omega),if_pos q5];unfold my at h
   by_cases qx:n.mx=-1
   ·rw[if_pos qx] at h⊢;have h1:=mz hU (fun b hb=>hcat ks b (by omega) lu hb) _ _ h.left;have h2:=h.right;rw[iN hU] at h2;have h3:=(Path.sp h2.head).2;rw[show b+(n.mn.toNat*ks.sz+ks.sz+2)=b+n.mn.toNat*ks.sz+ks.sz+2 by omega];exact h1.trans h3
   ·rw[if_neg qx] at h⊢;have h1:=mz hU (fun b hb=>hcat ks b (by omega) lu hb) _ _ h.left;have h2:=h.right;rw[iN hU] at h2
    by_cases hd:n.mx.toNat-n.mn.toNat=0
    ·rw[hd,Nat.zero_mul,Nat.add_zero];exact h1
    ·obtain⟨d,yc⟩:∃d,n.mx.toNat-n.mn.toNat=d+1:=⟨n.mx.toNat-n.mn.toNat-1,by omega⟩
     rw[yc] at h2⊢;rw[eL] at h2;have h3:=(Path.sp h2.head).2;rw[←Nat.add_assoc];exact h1.trans h3
  rw[if_neg q5] at h
  by_cases q6:n.op=6
  ·rw[if_pos q6] at h;rw[if_pos q6];have h1:Path C b (b+1):=Path.wM h.head (by show(4:Int)≠2∧(4:Int)≠3∧(4:Int)≠7;decide);have h2:=hcat ks (b+1) (by omega) lu h.tail.left;have h3:=h.tail.right;rw[hU] at h3;have h4:Path C (b+1+ks.sz) (b+1+ks.sz+1):=Path.wM h3.head (by show(4:Int)≠2∧(4:Int)≠3∧(4:Int)≠7;decide);rw[show b+(ks.sz+2)=b+1+ks.sz+1 by omega];exact h1.trans (h2.trans h4)
  ·have wC:ks.len=0:=by omega
   have:=bE.len_nil wC;subst this;rw[if_neg q6,if_neg q5];exact .refl _
theorem wR {code:List aK} {I:Nat→Prop} (hI:∀u i,I u→code[u]?=some i→∀v∈cF u i,I v.toNat):∀(f:Nat) (seen:List Bool) (cg:List Int),(∀v∈cg,I v.toNat)→(∀u:Nat,seen[u]?=some true→I u)→∀u:Nat,(wS code f seen cg)[u]?=some true→I u
 |0,seen,cg,_,h2,u,h=>h2 u h
 |f+1,seen,[],_,h2,u,h=>h2 u h
 |f+1,seen,v::cg,h1,h2,u,h=>by
  have hv:=h1 v (List.mem_cons_self ..);have hs:∀w∈cg,I w.toNat:=fun w hw=>h1 w (List.mem_cons_of_mem _ hw);unfold wS at h
  split at h
  ·split at h
   ·rename_i i hi;refine wR hI f _ _ (fun w hw=>?_) (fun w hw=>?_) u h
    ·rcases List.mem_append.1 hw with hw|hw
     ·exact hI _ i hv hi w (List.mem_reverse.1 hw)
     ·exact hs w hw
    ·by_cases he:v.toNat=w
     ·rw[←he];exact hv
     ·rw[List.getElem?_set_ne he] at hw;exact h2 w hw
   ·exact h2 u h
  ·exact wR hI f _ _ hs h2 u h
theorem yW {code:List aK} {start:Int} (hcl:iy code) (c8:0≤start∧start<(code.length:Int)) {u v:Nat} (p:Path code u v):(cv code start)[u]?=some true→(cv code start)[v]?=some true:=by
 obtain⟨ha,_,_,_⟩:=ud hcl c8
 induction p with
 |refl=>exact id
 |@step u v w i h hn _ ih=>
  intro hu;refine ih ?_
  rcases ha u i hu h _ hn with hs|hs
  ·exact dh.2 hs
  ·cases hs
theorem uc {code:List aK} {s:Nat} (hcl:iy code) (hs:s<code.length):(cv code (s:Nat))[s]?=some true:=by
 obtain⟨_,_,_,hd⟩:=ud (start:=((s:Nat):Int)) hcl ⟨by omega,by omega⟩
 rcases hd with hd|hd
 ·exact dh.2 hd
 ·cases hd
mutual
theorem Tr.OS:∀t:Tr,True
 | .mk _ _=>trivial
theorem bE.OS:∀t:bE,True
 | .nil=>trivial
 | .cons _ _=>trivial
end
theorem Ar {n:dr} {g:Int} (h:(eQ n g).2=true) (h2:n.op=2):eR n.rs=true:=by
 unfold eQ at h
 split at h
 ·cases h
 ·rw[if_neg (show¬(n.op=1∨n.op=7∨n.op=8) by omega)] at h;have h:(n.kids==0 &&eR n.rs)=true:=h;rw[Bool.and_eq_true] at h;exact h.2
theorem xZ {l:List dr} {h:Nat→Nat→Option (Nat×Nat)} (ih:∀at_ g r,h at_ g=some r→at_≤r.1∧∀j n,at_≤j→j<r.1→l[j]?=some n→n.op=2→eR n.rs=true):∀k at_ g r,iT h k at_ g=some r→at_≤r.1∧∀j n,at_≤j→j<r.1→l[j]?=some n→n.op=2→eR n.rs=true
 |0,at_,g,r,e=>by
  simp only[iT,Option.some.injEq] at e;subst e;exact⟨Nat.le_refl _,fun j n h1 h2=>by simp only at h2;omega⟩
 |k+1,at_,g,r,e=>by
  unfold iT at e
  cases hq:h at_ g with
  |none=>rw[hq] at e;cases e
  |some q=>
   rw[hq] at e;obtain⟨t1,t2⟩:=ih _ _ _ hq;obtain⟨u1,u2⟩:=xZ ih k _ _ _ e;refine⟨Nat.le_trans t1 u1,fun j n h1 h2 hj ho=>?_⟩
   by_cases V9:j<q.1
   ·exact t2 j n h1 V9 hj ho
   ·exact u2 j n (by omega) h2 hj ho
theorem AV {l:List dr}:∀f at_ g r,gM l f at_ g=some r→at_≤r.1∧∀j n,at_≤j→j<r.1→l[j]?=some n→n.op=2→eR n.rs=true
 |0,_,_,_,e=>by simp[gM] at e
 |f+1,at_,g,r,e=>by
  unfold gM at e
  cases hn:l[at_]? with
  |none=>rw[hn] at e;cases e
  |some n=>
   rw[hn] at e;simp only at e
   split at e
   ·rename_i hs;obtain⟨u1,u2⟩:=xZ (AV f) _ _ _ _ e;refine⟨by omega,fun j m h1 h2 hj ho=>?_⟩
    by_cases V':j=at_
    ·subst V';rw[hn] at hj;cases hj;exact Ar hs ho
    ·exact u2 j m (by omega) h2 hj ho
   ·cases e
theorem Az {l:List dr} (h:fI l=true):Ch l:=by
 unfold fI at h;simp only[Bool.and_eq_true] at h;obtain⟨_,h⟩:=h
 split at h
 ·rename_i r hr;rw[decide_eq_true_eq] at h;obtain⟨_,h2⟩:=AV _ _ _ _ hr;intro n hn ho;obtain⟨j,hj⟩:=List.getElem?_of_mem hn;exact h2 j n (Nat.zero_le _) (by rw[h];exact bj hj) hj ho
 ·cases h
structure Ll (n0 r0:Nat) (C:List aK) (B:List Int) (k:Nat):Prop where
 bl:B.length=k
 fs:0<k→B[0]?=some ((n0:Nat):Int)
 el:∀j,j<k→∃(t:Tr) (b:Nat),t.ok∧Ch t.flat∧B[j]?=some (b:Int)∧n0≤b∧(∀b':Int,B[j+1]?=some b'→b'=((b+t.sz+3:Nat):Int))∧(j+1=k→n0+C.length=b+t.sz+3)∧∃pre post,C=pre++er t b (r0+j)++post∧n0+pre.length=b
 al:∀i q,C[i]?=some q→∃j,j<k∧∃(t:Tr) (b:Nat),B[j]?=some (b:Int)∧t.ok∧Ch t.flat∧b≤n0+i∧n0+i<b+t.sz+3∧b+t.sz+3≤n0+C.length∧q∈er t b (r0+j)∧(er t b (r0+j))[n0+i-b]?=some q
theorem pD:∀(ls:List (List dr)) (r:Nat) (c:List aK) (s:List Int),(ez ls r c s).e=0→∃C B,(ez ls r c s).code=c++C∧(ez ls r c s).az=s++B∧Ll c.length r C B ls.length
 |[],r,c,s,h=>by
  rw[wZ];exact⟨[],[],by simp,by simp,rfl,fun h=>by simp at h,fun j hj=>by simp at hj,fun i q hi=>by simp at hi⟩
 |l::ls,r,c,s,h=>by
  rw[ez] at h⊢
  by_cases hr:fI l=false
  ·rw[if_pos hr] at h;cases h
  rw[if_neg hr] at h⊢;rw[Bool.not_eq_false] at hr
  by_cases hb:400<c.length+min (cE l).sz 401+3
  ·rw[if_pos hb] at h;cases h
  rw[if_neg hb] at h⊢;obtain⟨t1,t2⟩:=sc hr;have lL:Ch (cE l).flat:=by rw[t2];exact Az hr
  have hlen:=ki (b:=c.length) (r:=r) t1;obtain⟨C,B,h1,h2,h3⟩:=pD ls (r+1) _ _ h;rw[List.length_append,hlen] at h3;refine⟨er (cE l) c.length r++C,((c.length:Nat):Int)::B,by rw[h1,List.append_assoc],by rw[h2,List.append_assoc];rfl,by simp[h3.bl],fun _=>rfl,fun j hj=>?_,fun i q hi=>?_⟩
  ·cases j with
   |zero=>
    refine⟨cE l,c.length,t1,lL,rfl,Nat.le_refl _,fun b' dL=>?_,fun KM=>?_,[],C,by simp,by simp⟩
    ·simp only[Nat.zero_add,List.getElem?_cons_succ] at dL;have hB:=h3.bl;have hlt:=bj dL;rw[h3.fs (by omega)] at dL;cases dL
     congr 1
    ·simp only[List.length_cons] at KM;have Lx:ls.length=0:=by omega
     have hC:C=[]:=by
      cases hc:C with
      |nil=>rfl
      |cons q C'=>
       obtain⟨j,hj,_⟩:=h3.al 0 q (by rw[hc];rfl);omega
     rw[hC,List.append_nil,hlen];omega
   |succ j=>
    simp only[List.length_cons] at hj;obtain⟨t,b,q1,q2,q3,q4,q5,q6,pre,post,q7,q8⟩:=h3.el j (by omega);refine⟨t,b,q1,q2,q3,by omega,q5,fun KM=>?_,er (cE l) c.length r++pre,post,?_,?_⟩
    ·simp only[List.length_cons] at KM;have:=q6 (by omega);rw[List.length_append,hlen];omega
    ·rw[q7,show r+1+j=r+(j+1) by omega];simp only[List.append_assoc]
    ·rw[List.length_append,hlen];omega
  ·by_cases hil:i<(er (cE l) c.length r).length
   ·rw[List.getElem?_append_left hil] at hi;refine⟨0,by simp,cE l,c.length,rfl,t1,lL,by omega,by omega,by rw[List.length_append,hlen];omega,List.mem_of_getElem? hi,?_⟩;rw[show c.length+i-c.length=i by omega];exact hi
   ·rw[List.getElem?_append_right (by omega)] at hi;obtain⟨j,q1,t,b,q2,q3,q4,q5,q6,q7,q8,q9⟩:=h3.al _ q hi;rw[hlen] at q5 q6 q9 hil;refine⟨j+1,by simp only[List.length_cons];omega,t,b,q2,q3,q4,by omega,by omega,by rw[List.length_append,hlen];omega,by rw[show r+(j+1)=r+1+j by omega];exact q8,?_⟩;rw[show r+(j+1)=r+1+j by omega,show c.length+i-b=c.length+((cE l).sz+3)+(i-((cE l).sz+3))-b by omega];exact q9
end Go.Proofs.Ytbdnabmmlbiomaa
