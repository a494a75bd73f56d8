/-
 The code of a repeat. %deep
-/
import Derived.Test.YtecjacicdpejaaaGreatXGQd
import Derived.Test.YtecjacicdpejaaaGreatXGPb
import Derived.Test.YtecjacicdpejaaaGreatXGCa
set_option maxRecDepth 100000
set_option maxHeartbeats 4000000
set_option linter.unusedSimpArgs false
set_option linter.unusedVariables false
set_option linter.unusedSectionVars false
namespace Go.Proofs.YtecjacicdpejaaaGreat
open Go.V Go
def af (fr:Go.V.Fr) (k:Nat):Go.V.D:=Go.V.nth .bp fr.loc k
theorem sM {c:Nat→List aZ} (hc:∀b,(c b).length=0) (z:Nat):∀k b,ia c z k b=[]
 |0,_=>rfl
 |k+1,b=>by rw[ia,sM hc z k,List.length_eq_zero_iff.1 (hc b)];rfl
theorem CB (s o:Nat) (lz:Bool):∃x y:Int,om s o lz=dG 2 x y []:=by
 cases lz
 ·exact⟨_,_,rfl⟩
 ·exact⟨_,_,rfl⟩
theorem A2 {l:List bB} (qX:l.length≤1048576) {m:Nat} (ih:∀t:Tr,t.flat.length≤m→rF l t) {n:bB} {t:Tr} (hop:n.op=5) (KM:t.flat.length≤m) (rJ:sS n 1) (rT:t.ok) {N k:Nat} {S s0:St} {H:List bj} {nd zd ed:D} {code:List aZ} {Z E:List Int} {at_:Nat} (hF:S.flr≤N) (yO:gv nd 7 (l.map aG)) (mH:fY l at_ (n::t.flat)) (hsz:fY Z (at_+1) t.zs) (xD:fY E (at_+1) (t.es (at_+1))) (hb:code.length+bQ n t.sz 1≤1000000) (hM:JA N S s0 k nd zd ed Z E H code):
  ∃r ah,Ev pv 191 [.ptr k 0 0,.int .i64 (at_:Nat)] s0 r ah∧r=.tup []∧JA N S ah k nd zd ed Z E H (code++t_ n (aS t) t.sz code.length):=by
 obtain⟨cd,dk,hH⟩:=hM;have hle:=mH.le (by simp);simp only[List.length_cons] at hle;have hn:=mH.head;have mH:=mH.tail;have gN:=kP hn;have rV:=iF (zi hsz)
 have Cd:0≤n.mn∧n.mn≤30∧(n.mx=-1∨(n.mn≤n.mx∧n.mx≤30)):=by
  obtain⟨_,hq⟩:=rJ;omega
 have F8:bQ n t.sz 1=if n.mx=-1 then n.mn.toNat*t.sz+t.sz+2 else n.mn.toNat*t.sz+(n.mx.toNat-n.mn.toNat)*(t.sz+1):=by unfold bQ;rw[if_neg (by omega),if_neg (by omega),if_neg (by omega),if_pos hop]
 rw[F8] at hb;clear F8;have Bs:=fun b=>cp t b rT;have hb1:code.length+n.mn.toNat*t.sz≤1000000:=by split at hb<;>omega
 refine Ev.nj rfl L9 rfl rfl rfl ?_;dsimp only[u3,u4,List.length,Nat.reduceSub,Nat.reduceAdd,w1,w2];change ag _ _ _ _ s0 _;have hc:=yO.arg N S;refine qq<|qj fun K hK=>qm ?_;refine qg ?_;refine qp (o:=1) ?_;refine ql hH ax ?_;refine qm ?_;refine qr fun RK OJ=>?_;refine ae.dj rfl (ev rfl) (by assumption) rfl (by dsimp only[Fr.put,u1,u2]<;>rfl) ?_;refine qm ?_;refine qA ?_;refine qa hH fun k4 st KV hH=>?_;refine qS hH ax fun st hH=>?_;dsimp only[u2,u1,u3,u4,setMany,u5,u6,D.cells,Nat.reduceAdd,c_,aG,aB,kb] at hH;refine qm ?_;refine qe hK ?_;have hH:Has N S st (.box k (.mem 0 false [cd,nd,zd,ed])::.deep dk cd 4 (code.map c_)::.aE zd 1 (Z.map aB)::.aE ed 1 (E.map aB)::.box k4 (.mem 0 false (aG n))::H):=hH.Fk;refine qq<|qq<|qj fun K hK=>qm ?_;refine qg ?_;refine qp (o:=2) ?_;refine ql hH ax ?_;refine qm ?_;refine qi hH bV fun Hy yN=>?_;refine qo hH bV ?_;refine qg ?_;refine qe hK ?_;have hRl:=j5 Bs n.mn.toNat code.length;refine ag.merge (fun fr st=>∃(cd:D) (dk:Nat→Prop) (tmp:List (Nat×D)),fr=⟨78,[.ptr k 0 0,.int .i64 (at_:Nat),af fr 2,af fr 3,.ptr k4 0 0,.int .i64 ((at_+1:Nat):Int),af fr 6,af fr 7,af fr 8,af fr 9,af fr 10,af fr 11,af fr 12,af fr 13,af fr 14,af fr 15,af fr 16,af fr 17,af fr 18,af fr 19,af fr 20,af fr 21,af fr 22,af fr 23,af fr 24,af fr 25,af fr 26,af fr 27,af fr 28,af fr 29,af fr 30,af fr 31,af fr 32,af fr 33,af fr 34,af fr 35,af fr 36,af fr 37,af fr 38,af fr 39,af fr 40,af fr 41,af fr 42,af fr 43,af fr 44,af fr 45,af fr 46,af fr 47,af fr 48,af fr 49,af fr 50,af fr 51,af fr 52,af fr 53,af fr 54,af fr 55,af fr 56,af fr 57,af fr 58,af fr 59,af fr 60,af fr 61,af fr 62,af fr 63,af fr 64,af fr 65,af fr 66,af fr 67,af fr 68,af fr 69,af fr 70,af fr 71,af fr 72,af fr 73,af fr 74,af fr 75,af fr 76,af fr 77],tmp⟩∧Has N S st (.box k (.mem 0 false [cd,nd,zd,ed])::.deep dk cd 4 ((code++ia (aS t) t.sz n.mn.toNat code.length).map c_)::.aE zd 1 (Z.map aB)::.aE ed 1 (E.map aB)::.box k4 (.mem 0 false (aG n))::H)) ?_ ?_
 ·refine ag.cond (by rfl) (fun hz=>?_) (fun hz=>?_)<;>try simp only[decide_eq_true_eq,decide_eq_false_iff_not] at hz
  ·refine qq<|qj fun K hK=>qp (o:=2) ?_;refine ql hH cM ?_;refine qm ?_;refine qe hK<|ag.block<|ag.loop (fun mm fr st=>∃(i:Nat) (cd:D) (dk:Nat→Prop) (aU:List aZ),fr.clean=⟨78,[.ptr k 0 0,.int .i64 (at_:Nat),af fr 2,af fr 3,.ptr k4 0 0,.int .i64 ((at_+1:Nat):Int),af fr 6,af fr 7,af fr 8,af fr 9,af fr 10,af fr 11,af fr 12,af fr 13,af fr 14,af fr 15,af fr 16,af fr 17,af fr 18,af fr 19,af fr 20,af fr 21,af fr 22,af fr 23,af fr 24,af fr 25,af fr 26,af fr 27,.int .i64 n.mn,.int .i64 (i:Nat),af fr 30,af fr 31,af fr 32,af fr 33,af fr 34,af fr 35,af fr 36,af fr 37,af fr 38,af fr 39,af fr 40,af fr 41,af fr 42,af fr 43,af fr 44,af fr 45,af fr 46,af fr 47,af fr 48,af fr 49,af fr 50,af fr 51,af fr 52,af fr 53,af fr 54,af fr 55,af fr 56,af fr 57,af fr 58,af fr 59,af fr 60,af fr 61,af fr 62,af fr 63,af fr 64,af fr 65,af fr 66,af fr 67,af fr 68,af fr 69,af fr 70,af fr 71,af fr 72,af fr 73,af fr 74,af fr 75,af fr 76,af fr 77],[]⟩∧Has N S st (.box k (.mem 0 false [cd,nd,zd,ed])::.deep dk cd 4 (aU.map c_)::.aE zd 1 (Z.map aB)::.aE ed 1 (E.map aB)::.box k4 (.mem 0 false (aG n))::H)∧(i+mm=n.mn.toNat)∧(aU++ia (aS t) t.sz mm aU.length=code++ia (aS t) t.sz n.mn.toNat code.length)∧(aU.length+mm*t.sz=code.length+n.mn.toNat*t.sz)) (n.mn.toNat) ?_ ?_
   ·exact⟨0,cd,dk,code,rfl,hH,by omega,rfl,rfl⟩
   rintro mm fr st ⟨i,cd,dk,aU,hfr,hH,hi,oK,hcl⟩;rw[hfr];clear hfr;generalize af fr=ee;clear fr;refine qq<|qj fun K hK=>qg ?_;refine qe hK ?_
   cases mm with
   |zero=>
    have gy:decide ((i:Int)<n.mn)=false:=by rw[decide_eq_false_iff_not];omega
    refine qq<|qE rfl (by rw[gy]) ?_;simp only[ia,List.append_nil] at oK;rw[oK] at hH;refine ag.exit ?_;exact⟨cd,dk,_,rfl,hH⟩
   |succ mm=>
    have gy:decide ((i:Int)<n.mn)=true:=by rw[decide_eq_true_eq];omega
    rw[Nat.succ_mul] at hcl;refine qq<|qD rfl (by rw[gy]) ?_;refine ag.skip<|qq<|ag.block<|qj fun K hK=>qm ?_;refine qm ?_;obtain⟨_,st,aI,rfl,cd,dk,hH⟩:=ih t (by omega) hF yO mH hsz xD rT (by omega) ⟨cd,dk,hH⟩;refine qv aI ?_;refine qe hK<|qj fun K hK=>qA ?_;refine qm ?_;refine qe hK ?_;exact⟨mm,by omega,⟨i+1,cd,dk,aU++aS t aU.length,rfl,hH,by omega,by rw[List.length_append,Bs,List.append_assoc];exact oK,by rw[List.length_append,Bs];omega⟩⟩
  ·refine ag.skip ?_;have hz0:t.sz=0:=by omega
   have hR0:ia (aS t) t.sz n.mn.toNat code.length=[]:=sM (fun b=>by rw[Bs,hz0]) _ _ _;exact⟨cd,dk,_,rfl,(by rw[hR0,List.append_nil];exact hH)⟩
 ·rintro fr st ⟨cd,dk,tmp,hfr,hH⟩;rw[hfr];clear hfr;generalize af fr=ee;clear fr;have Nh:(code++ia (aS t) t.sz n.mn.toNat code.length).length=code.length+n.mn.toNat*t.sz:=by rw[List.length_append,hRl]
  unfold t_;rw[←Nh];rw[←Nh] at hb1
  have hb2:if n.mx=-1 then(code++ia (aS t) t.sz n.mn.toNat code.length).length+t.sz+2≤1000000 else(code++ia (aS t) t.sz n.mn.toNat code.length).length+(n.mx.toNat-n.mn.toNat)*(t.sz+1)≤1000000:=by
   rw[Nh];split
   ·rename_i h;rw[if_pos h] at hb;omega
   ·rename_i h;rw[if_neg h] at hb;omega
  have uS:∀X:List aZ,code++(ia (aS t) t.sz n.mn.toNat code.length++X)=code++ia (aS t) t.sz n.mn.toNat code.length++X:=fun X=>by rw[List.append_assoc]
  simp only[apply_ite (fun X:List aZ=>code++X),uS];clear uS Nh;generalize code++ia (aS t) t.sz n.mn.toNat code.length=cR at*;refine qq<|qq<|qj fun K hK=>qp (o:=3) ?_;refine ql hH cM ?_;refine qg ?_;refine qe hK ?_
  by_cases CQ:n.mx=-1
  ·rw[if_pos CQ];rw[if_pos CQ] at hb2;refine qD rfl (by simp[CQ]) ?_;refine qq<|qj fun K hK=>qm ?_;refine ae.go (d:=.agg [.int .i64 2,.int .i64 0,.int .i64 0,.nul]) (st1:=_) rfl rfl rfl (by dsimp only[Fr.put,u1,u2]<;>rfl) ?_;have hH:=hH.eP 2;obtain⟨_,st,aI,rfl,cd,dk,hH⟩:=gu (rs:=[]) hF (by omega) hH;refine qv aI ?_;refine qm ?_;refine qe hK ?_;have mL:(cR++[dG 2 0 0 []]).length=cR.length+1:=by simp
   refine qq<|qj fun K hK=>qm ?_;refine qm ?_;obtain⟨_,st,aI,rfl,cd,dk,hH⟩:=ih t (by omega) hF yO mH hsz xD rT (by omega) ⟨cd,dk,hH⟩;refine qv aI ?_;refine qe hK ?_;rw[mL] at hH;have nW:(cR++[dG 2 0 0 []]++aS t (cR.length+1)).length=cR.length+1+t.sz:=by rw[List.length_append,mL,Bs]
   refine qq<|qj fun K hK=>qm ?_;refine qm ?_;refine ae.go (d:=.agg [.int .i64 3,.int .i64 (cR.length:Nat),.int .i64 0,.nul]) (st1:=_) rfl rfl rfl (by dsimp only[Fr.put,u1,u2]<;>rfl) ?_;have hH:=hH.eP 2;obtain⟨_,st,aI,rfl,cd,dk,hH⟩:=gu (rs:=[]) hF (by omega) hH;refine qv aI ?_;refine qe hK ?_
   have IB:(cR++[dG 2 0 0 []]++aS t (cR.length+1)++[dG 3 (cR.length:Nat) 0 []])[cR.length]?=some (dG 2 0 0 []):=by
    rw[List.append_assoc,List.append_assoc];exact pj _ _ _
   have D4:(cR++[dG 2 0 0 []]++aS t (cR.length+1)++[dG 3 (cR.length:Nat) 0 []]).length=cR.length+t.sz+2:=by rw[List.length_append,nW];simp only[List.length_cons,List.length_nil];omega
   have FZ:(cR++[dG 2 0 0 []]++aS t (cR.length+1)++[dG 3 (cR.length:Nat) 0 []]).set cR.length (om cR.length (cR.length+t.sz+2) n.lz)=cR++(om cR.length (cR.length+t.sz+2) n.lz::(aS t (cR.length+1)++[lA cR.length])):=by
    rw[List.append_assoc,List.append_assoc];exact o9 _ _ _ _
   generalize cR++[dG 2 0 0 []]++aS t (cR.length+1)++[dG 3 (cR.length:Nat) 0 []]=El at*;refine qq<|qj fun K hK=>qm ?_;refine qm ?_;refine qm ?_;refine qg ?_;refine qp (o:=0) ?_;refine ql hH ax ?_;refine ae.BP hH rfl (ev rfl) (by exact aX) rfl (by dsimp only[Fr.put,u1,u2]<;>rfl) ?_;simp only[List.length_map,List.length_append,List.length_cons,List.length_nil];refine qp (o:=4) ?_;refine ql hH cM ?_;obtain⟨_,st,aI,rfl,hH⟩:=pE (at_:=cR.length) (over:=El.length) (lz:=n.lz) IB (by omega) hH;refine qv aI ?_;refine qe hK ?_;rw[D4,FZ] at hH;refine ag.ret ⟨rx,_,_,_,rfl,rfl,?_⟩;exact⟨rfl,cd,dk,hH.erase 4⟩
  ·rw[if_neg CQ];rw[if_neg CQ] at hb2;refine qE rfl (by simp[CQ]) ?_;refine ag.skip ?_;obtain⟨a,ha⟩:∃a:Nat,n.mn=(a:Int):=Int.eq_ofNat_of_zero_le Cd.1;obtain⟨b,hb3⟩:∃b:Nat,n.mx=(b:Int):=Int.eq_ofNat_of_zero_le (by omega);have Ps:n.mx.toNat-n.mn.toNat=b-a:=by omega
   rw[Ps] at hb2⊢;refine qq<|qj fun K hK=>qm ?_;refine qe hK<|qq<|qq<|qj fun K hK=>qp (o:=3) ?_;refine ql hH cM ?_;refine qp (o:=2) ?_;refine ql hH cM ?_;refine ae.oS (z:=((b-a:Nat):Int)) rfl (ev rfl) (ev rfl) (by(try simp only[List.length_reverse,List.length_cons,List.length_nil,List.length_append,List.length_map,List.length_set]);rw[wrap_i64 (by omega) (by omega)]<;>omega) (by dsimp only[Fr.put,u1,u2]<;>rfl) ?_;refine qm ?_;refine qe hK ?_;have hH:Has N S st (.box k (.mem 0 false [cd,nd,zd,ed])::.deep dk cd 4 (cR.map c_)::.aE zd 1 (Z.map aB)::.aE ed 1 (E.map aB)::.aE .nul 1 (([]:List Nat).map kb)::.box k4 (.mem 0 false (aG n))::H):=(hH.eP 1).Fk;refine ag.block<|ag.loop (fun mm fr st=>∃(i:Nat) (cd jd:D) (dk:Nat→Prop) (aU:List aZ) (js:List Nat),fr.clean=⟨78,[.ptr k 0 0,.int .i64 (at_:Nat),af fr 2,af fr 3,.ptr k4 0 0,.int .i64 ((at_+1:Nat):Int),af fr 6,jd,af fr 8,af fr 9,af fr 10,af fr 11,af fr 12,af fr 13,af fr 14,af fr 15,af fr 16,af fr 17,af fr 18,af fr 19,af fr 20,af fr 21,af fr 22,af fr 23,af fr 24,af fr 25,af fr 26,af fr 27,af fr 28,af fr 29,af fr 30,af fr 31,af fr 32,af fr 33,af fr 34,af fr 35,af fr 36,af fr 37,af fr 38,af fr 39,af fr 40,af fr 41,af fr 42,af fr 43,af fr 44,af fr 45,af fr 46,af fr 47,af fr 48,af fr 49,af fr 50,af fr 51,af fr 52,af fr 53,af fr 54,af fr 55,af fr 56,af fr 57,af fr 58,af fr 59,af fr 60,af fr 61,.int .i64 ((b-a:Nat):Int),.int .i64 (i:Nat),af fr 64,af fr 65,af fr 66,af fr 67,af fr 68,af fr 69,af fr 70,af fr 71,af fr 72,af fr 73,af fr 74,af fr 75,af fr 76,af fr 77],[]⟩∧Has N S st (.box k (.mem 0 false [cd,nd,zd,ed])::.deep dk cd 4 (aU.map c_)::.aE zd 1 (Z.map aB)::.aE ed 1 (E.map aB)::.aE jd 1 (js.map kb)::.box k4 (.mem 0 false (aG n))::H)∧(i+mm=b-a)∧(aU++gZ (fun _=>dG 2 0 0 []) (aS t) t.sz mm aU.length=cR++gZ (fun _=>dG 2 0 0 []) (aS t) t.sz (b-a) cR.length)∧(js++wa t.sz mm aU.length=wa t.sz (b-a) cR.length)∧(aU.length+mm*(t.sz+1)=cR.length+(b-a)*(t.sz+1))∧(js.length=i)) (b-a) ?_ ?_
   ·exact⟨0,cd,.nul,dk,cR,[],rfl,hH,by omega,rfl,rfl,rfl,rfl⟩
   rintro mm fr st ⟨i,cd,jd,dk,aU,js,hfr,hH,hi,iq,hjs,hcl,hjl⟩;rw[hfr];clear hfr;generalize af fr=ee;clear fr;refine qq<|qj fun K hK=>qg ?_;refine qe hK ?_
   cases mm with
   |zero=>
    have gy:decide ((i:Int)<((b-a:Nat):Int))=false:=by rw[decide_eq_false_iff_not];omega
    refine qq<|qE rfl (by rw[gy]) ?_;refine ag.exit<|qq<|qj fun K hK=>qm ?_;refine qn ?_ (hR:=hH.rows cM);simp only[List.length_map];refine qm ?_;refine qe hK ?_;simp only[gZ,wa,List.append_nil] at iq hjs;rw[iq] at hH;obtain⟨oJ,G5⟩:=nD (sp:=fun s=>om s (cR.length+(b-a)*(t.sz+1)) n.lz) Bs (i0:=dG 2 0 0 []) (b-a) cR.length cR [] rfl;simp only[List.append_nil] at oJ G5;have Ju:(cR++gZ (fun _=>dG 2 0 0 []) (aS t) t.sz (b-a) cR.length).length=cR.length+(b-a)*(t.sz+1):=by rw[List.length_append,mq Bs]
    rw[←hjs] at oJ G5;rw[←oJ];clear oJ iq;generalize cR++gZ (fun _=>dG 2 0 0 []) (aS t) t.sz (b-a) cR.length=C0 at*;generalize cR.length+(b-a)*(t.sz+1)=e at*;refine ag.block<|ag.loop (fun mm fr st=>∃(q:Nat) (C:List aZ),fr.clean=⟨78,[.ptr k 0 0,af fr 1,af fr 2,af fr 3,.ptr k4 0 0,af fr 5,af fr 6,af fr 7,af fr 8,af fr 9,af fr 10,af fr 11,af fr 12,af fr 13,af fr 14,af fr 15,af fr 16,af fr 17,af fr 18,af fr 19,af fr 20,af fr 21,af fr 22,af fr 23,af fr 24,af fr 25,af fr 26,af fr 27,af fr 28,af fr 29,af fr 30,af fr 31,af fr 32,af fr 33,af fr 34,af fr 35,af fr 36,af fr 37,af fr 38,af fr 39,af fr 40,af fr 41,af fr 42,af fr 43,af fr 44,af fr 45,af fr 46,af fr 47,af fr 48,af fr 49,af fr 50,af fr 51,af fr 52,af fr 53,af fr 54,af fr 55,af fr 56,af fr 57,af fr 58,af fr 59,af fr 60,af fr 61,af fr 62,af fr 63,af fr 64,af fr 65,af fr 66,af fr 67,af fr 68,af fr 69,af fr 70,af fr 71,af fr 72,af fr 73,af fr 74,jd,.int .i64 (js.length:Nat),.int .i64 (q:Nat)],[]⟩∧Has N S st (.box k (.mem 0 false [cd,nd,zd,ed])::.deep dk cd 4 (C.map c_)::.aE zd 1 (Z.map aB)::.aE ed 1 (E.map aB)::.aE jd 1 (js.map kb)::.box k4 (.mem 0 false (aG n))::H)∧(q+mm=js.length)∧(h_ (fun s=>om s e n.lz) C (js.drop q)=h_ (fun s=>om s e n.lz) C0 js)∧(∀p∈js,∃x y:Int,C[p]?=some (dG 2 x y []))∧(C.length=e)) (js.length) ?_ ?_
    ·exact⟨0,C0,rfl,hH,by omega,rfl,fun p hp=>⟨_,_,G5 p hp⟩,Ju⟩
    rintro mm fr st ⟨q,C,hfr,hH,hq,gT,hall,Lk⟩;rw[hfr];clear hfr;generalize af fr=ee;clear fr;refine qq<|qj fun K hK=>qg ?_;refine qe hK<|qq ?_;refine ag.cond (by rfl) (fun hlt=>?_) (fun hlt=>?_)<;>try simp only[decide_eq_true_eq,decide_eq_false_iff_not] at hlt
    ·refine ag.skip ?_;have Jm:q<js.length:=by omega
     obtain⟨p,hp⟩:∃p,js[q]?=some p:=⟨js[q]'Jm,List.getElem?_eq_getElem _⟩
     obtain⟨x,y,hv⟩:=hall p (List.mem_of_getElem? hp);have gN:=wm hp;have lY:=cA hv;refine qq<|ag.block<|qq<|qj fun K hK=>qi hH cM fun Ry Ov=>?_;refine qo hH cM ?_;refine qm ?_;refine qe hK<|qj fun K hK=>qm ?_;refine qm ?_;refine qm ?_;refine qg ?_;refine qp (o:=0) ?_;refine ql hH ax ?_;refine ae.BP hH rfl (ev rfl) (by exact aX) rfl (aa rfl _) ?_;simp only[List.length_map];refine qp (o:=4) ?_;refine ql hH ej ?_;obtain⟨_,st,aI,rfl,hH⟩:=pE (at_:=p) (over:=C.length) (lz:=n.lz) hv (by omega) hH;refine qv aI ?_;refine qe hK<|qj fun K hK=>qA ?_;refine qm ?_;refine qe hK ?_
     have BD:js.drop q=p::js.drop (q+1):=by
      rw[List.drop_eq_getElem_cons Jm]
      congr 1
      exact Option.some.inj ((List.getElem?_eq_getElem _).symm.trans hp)
     refine⟨mm-1,by omega,⟨q+1,C.set p (om p e n.lz),rfl,(by rw[Lk] at hH;exact hH),by omega,by rw[BD] at gT;exact gT,?_,by rw[List.length_set];exact Lk⟩⟩;intro p' uL
     by_cases hpp:p'=p
     ·subst hpp;obtain⟨x',y',FU⟩:=CB p' e n.lz;exact⟨x',y',by rw[List.getElem?_set_self lY,FU]⟩
     ·rw[List.getElem?_set_ne (fun e=>hpp e.symm)];exact hall p' uL
    ·refine ag.exit ?_;refine⟨fun i h=>(by cases h),_,_,_,rfl,rfl,?_⟩;have EY:q=js.length:=by omega
     rw[EY,List.drop_length] at gT;have gT:C=h_ (fun s=>om s e n.lz) C0 js:=gT;rw[←gT];exact⟨rfl,cd,dk,(hH.erase 5).erase 4⟩
   |succ mm=>
    have gy:decide ((i:Int)<((b-a:Nat):Int))=true:=by rw[decide_eq_true_eq];omega
    rw[Nat.succ_mul] at hcl;refine qq<|qD rfl (by rw[gy]) ?_;refine ag.skip<|qq<|ag.block<|qq<|qj fun K hK=>qm ?_;refine qm ?_;refine ae.go (d:=.agg [.int .i64 2,.int .i64 0,.int .i64 0,.nul]) (st1:=_) rfl rfl rfl (by dsimp only[Fr.put,u1,u2]<;>rfl) ?_;have hH:=hH.eP 2;obtain⟨_,st,aI,rfl,cd,dk,hH⟩:=gu (rs:=[]) hF (by omega) hH;refine qv aI ?_;refine qh (s:=1) (vs:=[_]) hH fun k69 st Tb hH=>?_;dsimp only[u2,u1,u3,u4,setMany,u5,u6,D.cells,Nat.reduceAdd,c_,aG,aB,kb] at hH;refine qP hH ej (hH.rows ax) fun Rh st hH=>?_;dsimp only[u2,u1,u3,u4,setMany,u5,u6,D.cells,Nat.reduceAdd,c_,aG,aB,kb] at hH;refine qm ?_;refine qe hK ?_;have hH:=hH.drop 1;have mL:(aU++[dG 2 0 0 []]).length=aU.length+1:=by simp
    refine qj fun K hK=>qm ?_;refine qm ?_;obtain⟨_,st,aI,rfl,cd,dk,hH⟩:=ih t (by omega) hF yO mH hsz xD rT (by omega) ⟨cd,dk,hH⟩;refine qv aI ?_;refine qe hK ?_;rw[mL] at hH;have nW:(aU++[dG 2 0 0 []]++aS t (aU.length+1)).length=aU.length+1+t.sz:=by rw[List.length_append,mL,Bs]
    refine qj fun K hK=>qA ?_;refine qm ?_;refine qe hK ?_;exact⟨mm,by omega,⟨i+1,cd,Rh,dk,aU++[dG 2 0 0 []]++aS t (aU.length+1),js++[aU.length],rfl,(by rw[List.map_append (f:=kb)];exact hH),by omega,by rw[nW,←iq];simp only[gZ,List.append_assoc,List.cons_append,List.nil_append],by rw[nW,←hjs];simp only[wa,List.append_assoc,List.cons_append,List.nil_append],by rw[nW];omega,by rw[List.length_append,hjl];rfl⟩⟩
def bI (fr:Go.V.Fr) (k:Nat):Go.V.D:=Go.V.nth .bp fr.loc k
theorem xm (t:Tr):jn (.cons t .nil)=aS t:=by
 funext b;simp only[jn,List.append_nil]
theorem xW (t:Tr):(aO.cons t .nil).sz=t.sz:=by simp only[aO.sz,Nat.add_zero]
theorem FD {l:List bB} (qX:l.length≤1048576) (hi:∀n∈l,n.ok):∀(m:Nat) (t:Tr),t.flat.length≤m→rF l t:=by
 intro m
 induction m with
 |zero=>intro t h;have:=t.jk;omega
 |succ m ih=>
  rintro⟨n,ks⟩ hm N k S s0 H nd zd ed code Z E at_ hF yO mH hsz xD eo hb hM;have T3:=hM;obtain⟨cd,dk,hH⟩:=hM;simp only[Tr.ok] at eo;obtain⟨rJ,tf⟩:=eo;simp only[Tr.flat,List.length_cons] at hm;have hle:=mH.le (by simp[Tr.flat]);simp only[Tr.flat] at mH hle;simp only[List.length_cons] at hle;simp only[Tr.zs] at hsz;simp only[Tr.es] at xD;simp only[Tr.sz] at hb;have hn:=mH.head;have KD:=hi n (List.mem_of_getElem? hn);have yM:=KD.1.arg N S;have Bw:=KD.2.1;have gN:=kP hn;have BA:=rJ.1;have jF:=aO.nL ks;have yR:=fun b=>mV ks b tf;refine Ev.nj rfl Mk rfl rfl rfl ?_;dsimp only[u3,u4,List.length,Nat.reduceSub,Nat.reduceAdd,w1,w2];change ag _ _ _ _ s0 _;have hc:=yO.arg N S;refine qq<|qj fun K hK=>qm ?_;refine qg ?_;refine qp (o:=1) ?_;refine ql hH ax ?_;refine qm ?_;refine qr fun Qu Ia=>?_;refine ae.dj rfl (ev rfl) (by assumption) rfl (by dsimp only[Fr.put,u1,u2]<;>rfl) ?_;refine qa hH fun k4 st KV hH=>?_;refine qS hH ax fun st hH=>?_;dsimp only[u2,u1,u3,u4,setMany,u5,u6,D.cells,Nat.reduceAdd,c_,aG,aB,kb] at hH;refine qe hK ?_;have hH:Has N S st (.box k (.mem 0 false [cd,nd,zd,ed])::.deep dk cd 4 (code.map c_)::.aE zd 1 (Z.map aB)::.aE ed 1 (E.map aB)::.box k4 (.mem 0 false (aG n))::H):=hH.Fk;refine qq<|qj fun K hK=>qp (o:=0) ?_;refine ql hH cM ?_;refine qe hK<|ag.block<|qq<|qj fun K hK=>qg ?_;refine qm ?_;refine qe hK ?_;refine ag.cond (by rfl) (fun q2=>?_) (fun q2=>?_)<;>try simp only[beq_iff_eq,beq_eq_false_iff_ne,ne_eq] at q2
  ·have yS:aS (.mk n ks) code.length=[dG 1 0 0 n.rs]:=by simp only[aS,if_pos q2]
   rw[yS];have hz:bQ n ks.sz ks.len=1:=by unfold bQ;rw[if_pos (.inl q2)]
   have hH:=hH.eP 2;refine qj fun K hK=>qm ?_;refine qp (o:=1) ?_;refine ql hH ej ?_;refine qP hH ax (Arg.rows (by assumption) hH) fun Qg st hH=>?_;dsimp only[u2,u1,u3,u4,setMany,u5,u6,D.cells,Nat.reduceAdd,c_,aG,aB,kb] at hH;refine ae.ie (qs:=[(0,_),(3,_)]) rfl rfl rfl rfl ⟨rfl,(ev rfl),(by rfl),rfl,(ev rfl),(by exact hH.iR (by exact ax)),trivial⟩ (by intro q hq;simp only[List.mem_cons,List.not_mem_nil,or_false] at hq;rcases hq with rfl|rfl<;>exact⟨rfl,by exact Nat.le_of_ble_eq_true rfl⟩) (by show List.foldl _ [_,_,_,_] _=_;dsimp only[List.foldl_cons,List.foldl_nil,u2,u1]<;>rfl) (by dsimp only[Fr.put,u1,u2]<;>rfl) ?_;obtain⟨_,st,aI,rfl,cd,dk,hH⟩:=gu (rs:=n.rs) hF (by omega) hH;refine qv aI ?_;refine qe hK ?_;refine⟨fun i h=>(by cases h),_,_,_,rfl,rfl,?_⟩;exact⟨rfl,cd,dk,hH.erase 4⟩
  refine qq<|qj fun K hK=>qg ?_;refine qm ?_;refine qe hK ?_;refine ag.cond (by rfl) (fun q7=>?_) (fun q7=>?_)<;>try simp only[beq_iff_eq,beq_eq_false_iff_ne,ne_eq] at q7
  ·have yS:aS (.mk n ks) code.length=[dG 5 0 0 []]:=by simp only[aS,if_neg q2,if_pos q7]
   rw[yS];refine qj fun K hK=>qm ?_;refine ae.go (d:=.agg [.int .i64 5,.int .i64 0,.int .i64 0,.nul]) (st1:=_) rfl rfl rfl (by dsimp only[Fr.put,u1,u2]<;>rfl) ?_;have hH:=hH.eP 2;obtain⟨_,st,aI,rfl,cd,dk,hH⟩:=gu (rs:=[]) hF (by omega) hH;refine qv aI ?_;refine qe hK ?_;refine⟨fun i h=>(by cases h),_,_,_,rfl,rfl,?_⟩;exact⟨rfl,cd,dk,hH.erase 4⟩
  refine qq<|qj fun K hK=>qg ?_;refine qm ?_;refine qe hK ?_;refine ag.cond (by rfl) (fun q8=>?_) (fun q8=>?_)<;>try simp only[beq_iff_eq,beq_eq_false_iff_ne,ne_eq] at q8
  ·have yS:aS (.mk n ks) code.length=[dG 6 0 0 []]:=by simp only[aS,if_neg q2,if_neg q7,if_pos q8]
   rw[yS];refine qj fun K hK=>qm ?_;refine ae.go (d:=.agg [.int .i64 6,.int .i64 0,.int .i64 0,.nul]) (st1:=_) rfl rfl rfl (by dsimp only[Fr.put,u1,u2]<;>rfl) ?_;have hH:=hH.eP 2;obtain⟨_,st,aI,rfl,cd,dk,hH⟩:=gu (rs:=[]) hF (by omega) hH;refine qv aI ?_;refine qe hK ?_;refine⟨fun i h=>(by cases h),_,_,_,rfl,rfl,?_⟩;exact⟨rfl,cd,dk,hH.erase 4⟩
  refine qq<|qj fun K hK=>qg ?_;refine qm ?_;refine qe hK ?_;refine ag.cond (by rfl) (fun q3=>?_) (fun q3=>?_)<;>try simp only[beq_iff_eq,beq_eq_false_iff_ne,ne_eq] at q3
  ·have yS:aS (.mk n ks) code.length=jn ks code.length:=by simp only[aS,if_neg q2,if_neg q7,if_neg q8,if_pos q3]
   rw[yS];have hz:bQ n ks.sz ks.len=ks.sz:=by unfold bQ;rw[if_neg (by omega),if_neg (by omega),if_neg (by omega),if_neg (by omega)]
   rw[hz] at hb;refine qq<|qj fun K hK=>qm ?_;refine qA ?_;refine qm ?_;refine qe hK<|qq<|qj fun K hK=>qp (o:=6) ?_;refine ql hH cM ?_;refine qm ?_;refine qe hK<|ag.block<|ag.loop (fun mm fr st=>∃(i j:Nat) (rest:aO) (cd:D) (dk:Nat→Prop) (aU:List aZ),fr.clean=⟨40,[.ptr k 0 0,.int .i64 (at_:Nat),bI fr 2,bI fr 3,.ptr k4 0 0,.int .i64 (j:Nat),bI fr 6,bI fr 7,bI fr 8,bI fr 9,bI fr 10,bI fr 11,bI fr 12,bI fr 13,bI fr 14,bI fr 15,bI fr 16,bI fr 17,bI fr 18,bI fr 19,bI fr 20,bI fr 21,bI fr 22,bI fr 23,bI fr 24,bI fr 25,bI fr 26,bI fr 27,bI fr 28,bI fr 29,bI fr 30,bI fr 31,bI fr 32,bI fr 33,bI fr 34,bI fr 35,bI fr 36,bI fr 37,.int .i64 n.kids,.int .i64 (i:Nat)],[]⟩∧Has N S st (.box k (.mem 0 false [cd,nd,zd,ed])::.deep dk cd 4 (aU.map c_)::.aE zd 1 (Z.map aB)::.aE ed 1 (E.map aB)::.box k4 (.mem 0 false (aG n))::H)∧(mm=rest.len)∧(i+rest.len=ks.len)∧(fY l j rest.flat)∧(fY Z j rest.zs)∧(fY E j (rest.es j))∧(rest.ok)∧(aU++jn rest aU.length=code++jn ks code.length)∧(aU.length+rest.sz=code.length+ks.sz)∧(rest.flat.length≤m)) (ks.len) ?_ ?_
   ·exact⟨0,at_+1,ks,cd,dk,code,rfl,hH,rfl,by omega,mH.tail,hsz.tail,xD.tail,tf,rfl,rfl,by omega⟩
   rintro mm fr st ⟨i,j,rest,cd,dk,aU,hfr,hH,xF,rM,oW,wP,oV,jO,iq,hcl,hrm⟩;rw[hfr];clear hfr;generalize bI fr=ee;clear fr;refine qq<|qj fun K hK=>qg ?_;refine qe hK ?_
   cases rest with
   |nil=>
    simp only[aO.len] at rM;simp only[jn,List.append_nil] at iq;have gy:decide ((i:Int)<n.kids)=false:=by rw[decide_eq_false_iff_not];omega
    refine qq<|qE rfl (by rw[gy]) ?_;refine ag.exit ?_;refine⟨fun i h=>(by cases h),_,_,_,rfl,rfl,?_⟩;rw[←iq];exact⟨rfl,cd,dk,hH.erase 4⟩
   |cons t ts=>
    simp only[aO.len] at rM xF;simp only[aO.sz] at hcl;simp only[aO.flat,List.length_append] at oW hrm;simp only[aO.zs] at wP;simp only[aO.es] at oV;simp only[aO.ok] at jO;simp only[jn] at iq;have HS:=t.iO;have G2:=t.iV j;have Bs:=cp t aU.length jO.1;have Oj:=iF (Ar oV.left);have gy:decide ((i:Int)<n.kids)=true:=by rw[decide_eq_true_eq];omega
    refine qq<|qD rfl (by rw[gy]) ?_;refine ag.skip<|qq<|ag.block<|qq<|qj fun K hK=>qm ?_;refine qm ?_;obtain⟨_,st,aI,rfl,cd,dk,hH⟩:=ih t (by omega) hF yO oW.left wP.left oV.left jO.1 (by omega) ⟨cd,dk,hH⟩;refine qv aI ?_;refine qe hK<|qj fun K hK=>qm ?_;refine qg ?_;refine qp (o:=3) ?_;refine ql hH ax ?_;refine qm ?_;refine qi hH da fun MT F3=>?_;refine qo hH da ?_;refine qm ?_;refine qe hK<|qj fun K hK=>qA ?_;refine qm ?_;refine qe hK ?_;exact⟨mm-1,by omega,⟨i+1,j+t.flat.length,ts,cd,dk,aU++aS t aU.length,rfl,hH,by omega,by omega,oW.right,by rw[←HS];exact wP.right,by rw[←G2];rw[←G2] at oV;exact oV.right,jO.2,by rw[List.length_append,Bs,List.append_assoc];exact iq,by rw[List.length_append,Bs];omega,by omega⟩⟩
  refine qq<|qj fun K hK=>qg ?_;refine qm ?_;refine qe hK ?_;refine ag.cond (by rfl) (fun q4=>?_) (fun q4=>?_)<;>try simp only[beq_iff_eq,beq_eq_false_iff_ne,ne_eq] at q4
  ·have yS:aS (.mk n ks) code.length=fP (lA (code.length+bQ n ks.sz ks.len)) ks code.length:=by simp only[aS,if_neg q2,if_neg q7,if_neg q8,if_neg q3,if_pos q4]
   rw[yS];refine qj fun K hK=>qm ?_;refine qm ?_;obtain⟨_,st,aI,rfl,cd,dk,hH⟩:=I6 qX ih q4 (by omega) rJ tf hF yO mH hsz.tail xD.tail hb ⟨cd,dk,hH⟩;refine qv aI ?_;refine qe hK ?_;refine⟨fun i h=>(by cases h),_,_,_,rfl,rfl,?_⟩;exact⟨rfl,cd,dk,hH.erase 4⟩
  refine qq<|qj fun K hK=>qg ?_;refine qm ?_;refine qe hK ?_;refine ag.cond (by rfl) (fun q5=>?_) (fun q5=>?_)<;>try simp only[beq_iff_eq,beq_eq_false_iff_ne,ne_eq] at q5
  ·have lR:ks.len=1:=by
    obtain⟨_,hq⟩:=rJ;omega
   obtain⟨t,rfl⟩:=aO.zS lR;have yS:aS (.mk n (.cons t .nil)) code.length=t_ n (aS t) t.sz code.length:=by simp only[aS,if_neg q2,if_neg q7,if_neg q8,if_neg q3,if_neg q4,if_pos q5,xm,xW]
   rw[yS];rw[lR] at rJ hb;rw[xW] at hb;simp only[aO.flat,aO.zs,aO.es,aO.ok,List.append_nil] at*;refine qj fun K hK=>qm ?_;refine qm ?_;obtain⟨_,st,aI,rfl,cd,dk,hH⟩:=A2 qX ih q5 (by omega) rJ tf.1 hF yO mH hsz.tail xD.tail hb ⟨cd,dk,hH⟩;refine qv aI ?_;refine qe hK ?_;refine⟨fun i h=>(by cases h),_,_,_,rfl,rfl,?_⟩;exact⟨rfl,cd,dk,hH.erase 4⟩
  refine qq<|qj fun K hK=>qg ?_;refine qm ?_;refine qe hK ?_;refine ag.cond (by rfl) (fun q6=>?_) (fun q6=>?_)<;>try simp only[beq_iff_eq,beq_eq_false_iff_ne,ne_eq] at q6
  ·have lR:ks.len=1∧1≤n.cap∧n.cap≤4:=by
    obtain⟨_,hq⟩:=rJ;omega
   obtain⟨t,rfl⟩:=aO.zS lR.1;have yS:aS (.mk n (.cons t .nil)) code.length=dG 4 (2*n.cap) 0 []::(aS t (code.length+1)++[dG 4 (2*n.cap+1) 0 []]):=by simp only[aS,if_neg q2,if_neg q7,if_neg q8,if_neg q3,if_neg q4,if_neg q5,if_pos q6,xm]
   rw[yS];have hz:bQ n (aO.cons t .nil).sz (aO.cons t .nil).len=t.sz+2:=by unfold bQ;rw[if_neg (by omega),if_neg (by omega),if_pos q6,xW]
   rw[hz] at hb;simp only[aO.flat,aO.zs,aO.es,aO.ok,List.append_nil] at mH hsz xD tf hm;refine qq<|qj fun K hK=>qm ?_;refine qp (o:=5) ?_;refine ql hH cM ?_;refine ae.yt (z:=(2*n.cap)) rfl (ev rfl) (ev rfl) (by(try simp only[List.length_reverse,List.length_cons,List.length_nil,List.length_append,List.length_map,List.length_set]);rw[wrap_i64 (by omega) (by omega)]<;>omega) (aa rfl _) ?_;refine ae.go (d:=.agg [.int .i64 4,.int .i64 (2*n.cap),.int .i64 0,.nul]) (st1:=_) rfl rfl rfl (aa rfl _) ?_;have hH:=hH.eP 2;obtain⟨_,st,aI,rfl,cd,dk,hH⟩:=gu (rs:=[]) hF (by omega) hH;refine qv aI ?_;refine qe hK ?_;have mL:(code++[dG 4 (2*n.cap) 0 []]).length=code.length+1:=by simp
   refine qq<|qj fun K hK=>qm ?_;refine qm ?_;refine qA ?_;obtain⟨_,st,aI,rfl,cd,dk,hH⟩:=ih t (by omega) hF yO mH.tail hsz.tail xD.tail tf.1 (by omega) ⟨cd,dk,hH⟩;refine qv aI ?_;refine qe hK ?_;rw[mL] at hH;have nW:(code++[dG 4 (2*n.cap) 0 []]++aS t (code.length+1)).length=code.length+1+t.sz:=by rw[List.length_append,mL,cp t _ tf.1]
   refine qj fun K hK=>qm ?_;refine qp (o:=5) ?_;refine ql hH cM ?_;refine ae.yt (z:=(2*n.cap)) rfl (ev rfl) (ev rfl) (by(try simp only[List.length_reverse,List.length_cons,List.length_nil,List.length_append,List.length_map,List.length_set]);rw[wrap_i64 (by omega) (by omega)]<;>omega) (aa rfl _) ?_;refine ae.hC (z:=(2*n.cap+1)) rfl (ev rfl) (ev rfl) (by(try simp only[List.length_reverse,List.length_cons,List.length_nil,List.length_append,List.length_map,List.length_set]);rw[wrap_i64 (by omega) (by omega)]<;>omega) (aa rfl _) ?_;refine ae.go (d:=.agg [.int .i64 4,.int .i64 (2*n.cap+1),.int .i64 0,.nul]) (st1:=_) rfl rfl rfl (aa rfl _) ?_;have hH:=hH.eP 2;obtain⟨_,st,aI,rfl,cd,dk,hH⟩:=gu (rs:=[]) hF (by omega) hH;refine qv aI ?_;refine qe hK ?_;have g_:code++[dG 4 (2*n.cap) 0 []]++aS t (code.length+1)++[dG 4 (2*n.cap+1) 0 []]=code++dG 4 (2*n.cap) 0 []::(aS t (code.length+1)++[dG 4 (2*n.cap+1) 0 []]):=by simp
   rw[g_] at hH;refine⟨fun i h=>(by cases h),_,_,_,rfl,rfl,?_⟩;exact⟨rfl,cd,dk,hH.erase 4⟩
  ·refine ag.skip ?_;have yS:aS (.mk n ks) code.length=[]:=by simp only[aS,if_neg q2,if_neg q7,if_neg q8,if_neg q3,if_neg q4,if_neg q5,if_neg q6]
   rw[yS,List.append_nil];refine⟨fun i h=>(by cases h),_,_,_,rfl,rfl,?_⟩;exact⟨rfl,cd,dk,hH.erase 4⟩
def ig (fr:Go.V.Fr) (k:Nat):Go.V.D:=Go.V.nth .bp fr.loc k
def B8 (x:Nl):List D:=[x.d]
theorem HE {l:List Nl} {i:Nat} {q:Nl} (h:l[i]?=some q):(l.map B8)[i]?=some (B8 q):=by rw[List.getElem?_map,h];rfl
def mR (R:kC):D:=.tup [(Ft R.code R.bD).d,.int .i64 R.e,.int .i64 R.w]
theorem zx {es M:List Int} (h:M.length=es.length):ni es 0 M=M:=by
 unfold ni;simp[h]
theorem BU (r:Nat) (c:List aZ) (s:List Int):rz [] r c s=⟨c,s,0,0⟩:=by simp only[rz]
theorem y3 {s0:St} {x:D} {rules:List Nl} (hx:V.Rows s0 1 x (rules.map B8)) (hr:∀r∈rules,r.ok) (hl:rules.length≤1048576):Ev pv 69 [x] s0 (mR (cJ (rules.map (·.l)))) s0:=by
 refine Ev.jq rfl PN rfl rfl rfl ?_;dsimp only[u3,u4,List.length,Nat.reduceSub,Nat.reduceAdd,w1,w2];obtain⟨bf,hF,hH⟩:=ri s0;generalize ai .ro s0=S at*;have hx:=Arg.of hx bf;have hfz:∀(st:St) (e w:Int),aH st s0.bs.length false 16 (rP [.agg [.nul,.nul],.int .i64 e,.int .i64 w])=some (mR ⟨[],[],e,w⟩):=fun st e w=>rfl;refine qq<|qj fun K hK=>qa hH fun k2 st hk2 hH=>?_;refine qm ?_;refine qm ?_;refine qe hK<|qq<|qq<|qj fun K hK=>qm ?_;refine qn ?_;simp only[List.length_map];refine qg ?_;refine qe hK ?_;unfold cJ
 by_cases h8:8<rules.length
 ·rw[if_pos (by rw[List.length_map];exact h8)];refine qD rfl (by simp;omega) ?_;refine qq<|qj fun K hK=>?_;refine ae.go (d:=.agg [.nul,.nul]) (st1:=_) rfl rfl rfl (by dsimp only[Fr.put,u1,u2]<;>rfl) ?_;refine qS hH ax fun st hH=>?_;dsimp only[u2,u1,u3,u4,setMany,u5,u6,D.cells,Nat.reduceAdd,c_,aG,aB,B8] at hH;refine qm ?_;refine qm ?_;refine qe hK<|ag.ret ⟨rx,_,hH.kI rfl ax rfl rfl rfl,rl bf hH (hfz _ 13 8)⟩
 ·rw[if_neg (by rw[List.length_map];exact h8)];refine qE rfl (by simp;omega) ?_;refine ag.skip<|qq<|qj fun K hK=>?_;refine ae.go (d:=.agg [.nul,.nul,.nul,.nul]) (st1:=_) rfl rfl rfl (by dsimp only[Fr.put,u1,u2]<;>rfl) ?_;refine qb hH fun k14 st KY hH=>?_;refine qm ?_;refine qe hK<|qq<|qj fun K hK=>qm ?_;refine qe hK<|qq<|qq<|qj fun K hK=>qm ?_;refine qn ?_;simp only[List.length_map];refine qm ?_;refine qe hK ?_;have hH:Has s0.bs.length S st (.aE .nul 1 (([]:List Int).map aB)::.deep (fun _=>False) .nul 4 (([]:List aZ).map c_)::.box k14 (.mem 0 false [.nul,.nul,.nul,.nul])::[.box k2 (.mem 0 false [.nul,.nul])]):=(hH.NS 4).eP 1;refine ag.block<|ag.loop (fun mm fr st=>∃(r:Nat) (cd nd zd ed sd:D) (dk:Nat→Prop) (code:List aZ) (bD:List Int),fr.clean=⟨18,[ig fr 0,ig fr 1,.ptr k2 0 0,.int .i64 0,.int .i64 0,.ptr k14 0 0,sd,ig fr 7,ig fr 8,ig fr 9,ig fr 10,ig fr 11,ig fr 12,ig fr 13,ig fr 14,x,.int .i64 (rules.length:Nat),.int .i64 (r:Nat)],[]⟩∧Has s0.bs.length S st [.aE sd 1 (bD.map aB),.deep dk cd 4 (code.map c_),.box k14 (.mem 0 false [cd,nd,zd,ed]),.box k2 (.mem 0 false [.nul,.nul])]∧(r+mm=rules.length)∧(rz ((rules.drop r).map (·.l)) r code bD=rz (rules.map (·.l)) 0 [] [])∧(code.length≤400)∧(bD.length≤r)) (rules.length) ?_ ?_
  ·exact⟨0,.nul,.nul,.nul,.nul,.nul,(fun _=>False),[],[],rfl,hH,by omega,by rw[List.drop_zero],by simp,by simp⟩
  rintro mm fr st ⟨r,cd,nd,zd,ed,sd,dk,code,bD,hfr,hH,QF,hX,hcl,hst⟩;rw[hfr];clear hfr;generalize ig fr=ee;clear fr;refine qq<|qj fun K hK=>qg ?_;refine qe hK ?_
  by_cases hlt:r<rules.length
  ·obtain⟨q,hq⟩:∃q,rules[r]?=some q:=⟨rules[r]'hlt,List.getElem?_eq_getElem _⟩
   have hqo:=hr q (List.mem_of_getElem? hq);have gN:=HE hq
   have BD:rules.drop r=q::rules.drop (r+1):=by
    rw[List.drop_eq_getElem_cons hlt]
    congr 1
    exact Option.some.inj ((List.getElem?_eq_getElem _).symm.trans hq)
   rw[BD,List.map_cons,rz] at hX;refine qq<|qD rfl (by simp;omega) ?_;refine ag.skip<|qq<|ag.block<|qq<|qj fun K hK=>qm ?_;refine qr fun J0 DN=>?_;refine qR ?_;refine qm ?_;refine qm ?_;refine qe hK<|qq<|qq<|qj fun K hK=>qm ?_;refine qv (sL hqo) ?_;refine qg ?_;refine qe hK ?_
   cases yK:gR q.l with
   |false=>
    rw[if_pos yK] at hX;refine qB ?_;refine qq<|qj fun K hK=>ae.go (d:=.agg [.nul,.nul]) (st1:=_) rfl rfl rfl (aa rfl _) ?_;refine qm ?_;refine qS hH da fun st hH=>?_;dsimp only[u2,u1,u3,u4,setMany,u5,u6,D.cells,Nat.reduceAdd,c_,aG,aB,B8] at hH;refine qm ?_;refine qm ?_;refine qe hK ?_;rw[←hX];refine ag.ret ⟨rx,_,hH.kI rfl da rfl rfl rfl,rl bf hH (hfz _ 1 r)⟩
   |true=>
    rw[if_neg (by rw[yK];simp)] at hX;obtain⟨rT,wN⟩:=tR yK;have UK:=hqo.c.arg s0.bs.length S;have UJ:=hqo.nl;have w5:=hqo.c;refine qC ?_;refine ag.skip<|qq<|qj fun K hK=>qm ?_;refine qm ?_;refine qm ?_;refine qm ?_;refine qm ?_;refine qn ?_;simp only[List.length_map];refine ae.G6 (s:=1) hH rfl rfl rfl rfl rfl rfl rfl rfl (Nat.le_of_ble_eq_true rfl) (by omega) (fun _=>(aa rfl _)) (fun k33 st O4 hH=>?_);refine qm ?_;refine qn ?_;simp only[List.length_map];refine ae.G6 (s:=1) hH rfl rfl rfl rfl rfl rfl rfl rfl (Nat.le_of_ble_eq_true rfl) (by omega) (fun _=>(aa rfl _)) (fun k36 st KW hH=>?_);refine qg ?_;refine qp (o:=1) ?_;refine qT hH cM fun st hH=>?_;dsimp only[u2,u1,u3,u4,setMany,u5,u6,D.cells,Nat.reduceAdd,c_,aG,aB,B8] at hH;refine qg ?_;refine qp (o:=2) ?_;refine qT hH cM fun st hH=>?_;dsimp only[u2,u1,u3,u4,setMany,u5,u6,D.cells,Nat.reduceAdd,c_,aG,aB,B8] at hH;refine qg ?_;refine qp (o:=3) ?_;refine qT hH cM fun st hH=>?_;dsimp only[u2,u1,u3,u4,setMany,u5,u6,D.cells,Nat.reduceAdd,c_,aG,aB,B8] at hH;refine qe hK ?_
    have hH:Has s0.bs.length S st (.aE (.win k33 0 0 q.l.length 1) 1 ((List.replicate q.l.length (0:Int)).map aB)::.aE (.win k36 0 0 q.l.length 1) 1 ((List.replicate q.l.length (0:Int)).map aB)::.aE sd 1 (bD.map aB)::.deep dk cd 4 (code.map c_)::.box k14 (.mem 0 false [cd,q.d,.win k33 0 0 q.l.length 1,.win k36 0 0 q.l.length 1])::.box k2 (.mem 0 false [.nul,.nul])::[]):=by
     rw[List.map_replicate];exact hH.front aX
    refine qq<|qj fun K hK=>qm ?_;refine qm ?_;refine qg ?_;refine qp (o:=2) ?_;refine ql hH cM ?_;obtain⟨_,st,aI,rfl,hH⟩:=CD hqo.nl hqo.i hqo.c _ (dq q.l) (Nat.le_refl _) rT (at_:=0) (by rw[wN];exact fY.all _) (by simp) hH;refine qv aI ?_;refine qe hK ?_;rw[zx (by rw[Tr.iO,wN];simp)] at hH;have hH:=hH.front aX;refine qq<|qj fun K hK=>qm ?_;refine qm ?_;refine qg ?_;refine qp (o:=3) ?_;refine ql hH cM ?_;obtain⟨_,st,aI,rfl,hH⟩:=Gr hqo.nl hqo.i hqo.c _ (dq q.l) (Nat.le_refl _) rT (at_:=0) (by rw[wN];exact fY.all _) (by simp) hH;refine qv aI ?_;refine qe hK ?_;rw[zx (by rw[Tr.iV,wN];simp)] at hH;have Ss:=iF (zi (fY.all (dq q.l).zs));refine qq<|qq<|qj fun K hK=>qm ?_;refine qg ?_;refine qp (o:=0) ?_;refine ql hH cM ?_;refine ae.BP hH rfl (ev rfl) (by exact da) rfl (aa rfl _) ?_;simp only[List.length_map];refine qm ?_;refine qg ?_;refine qp (o:=2) ?_;refine ql hH cM ?_;refine qi hH aX fun Ql Kr=>?_;refine qo hH aX ?_;refine ae.hC (z:=((code.length+min (dq q.l).sz 401:Nat):Int)) rfl (ev rfl) (ev rfl) (by(try simp only[List.length_reverse,List.length_cons,List.length_nil,List.length_append,List.length_map,List.length_set]);rw[wrap_i64 (by omega) (by omega)]<;>omega) (aa rfl _) ?_;refine ae.hC (z:=((code.length+min (dq q.l).sz 401+3:Nat):Int)) rfl (ev rfl) (ev rfl) (by(try simp only[List.length_reverse,List.length_cons,List.length_nil,List.length_append,List.length_map,List.length_set]);rw[wrap_i64 (by omega) (by omega)]<;>omega) (aa rfl _) ?_;refine qg ?_;refine qe hK ?_
    by_cases hbig:400<code.length+min (dq q.l).sz 401+3
    ·rw[if_pos hbig] at hX;have gy:decide (((code.length+min (dq q.l).sz 401+3:Nat):Int)>400)=true:=by rw[decide_eq_true_eq];omega
     refine qD rfl (by rw[gy]) ?_;refine qq<|qj fun K hK=>ae.go (d:=.agg [.nul,.nul]) (st1:=_) rfl rfl rfl (aa rfl _) ?_;refine qm ?_;refine qS hH ej fun st hH=>?_;dsimp only[u2,u1,u3,u4,setMany,u5,u6,D.cells,Nat.reduceAdd,c_,aG,aB,B8] at hH;refine qm ?_;refine qm ?_;refine qe hK ?_;rw[←hX];refine ag.ret ⟨rx,_,hH.kI rfl ej rfl rfl rfl,rl bf hH (hfz _ 12 r)⟩
    ·rw[if_neg hbig] at hX;have gy:decide (((code.length+min (dq q.l).sz 401+3:Nat):Int)>400)=false:=by rw[decide_eq_false_iff_not];omega
     refine qE rfl (by rw[gy]) ?_;refine ag.skip ?_;have hH:=hH.front aX;have hH:=hH.front da;have hH:=hH.front cM;have hH:Has s0.bs.length S st (.box k14 (.mem 0 false [cd,q.d,.win k33 0 0 q.l.length 1,.win k36 0 0 q.l.length 1])::.deep dk cd 4 (code.map c_)::.aE (.win k33 0 0 q.l.length 1) 1 ((dq q.l).zs.map aB)::.aE (.win k36 0 0 q.l.length 1) 1 (((dq q.l).es 0).map aB)::.aE sd 1 (bD.map aB)::.box k2 (.mem 0 false [.nul,.nul])::[]):=hH;refine qq<|qj fun K hK=>qm ?_;refine qm ?_;refine ae.go (d:=.agg [.int .i64 4,.int .i64 0,.int .i64 0,.nul]) (st1:=_) rfl rfl rfl (aa rfl _) ?_;have hH:=hH.eP 2;obtain⟨_,st,aI,rfl,cd,dk,hH⟩:=gu (rs:=[]) hF (by omega) hH;refine qv aI ?_;refine qh (s:=1) (vs:=[_]) hH fun k75 st S' hH=>?_;refine ae.eY (s:=1) hH rfl (ev rfl) (ev rfl) (by exact ej) (by exact hH.rows (by exact ax)) rfl rfl rfl rfl rfl rfl rfl ⟨(Nat.le_of_ble_eq_true rfl),(Nat.le_of_ble_eq_true rfl)⟩ (fun _=>(aa rfl _)) (by simp only[List.length_cons,List.length_nil,List.length_map]<;>omega) (by exact .inl hF) (fun Rf st hH=>?_);dsimp only[u2,u1,u3,u4,setMany,u5,u6,D.cells,Nat.reduceAdd,c_,aG,aB,B8] at hH;refine qm ?_;refine qe hK ?_;have hH:=hH.drop 1;have mL:(code++[dG 4 0 0 []]).length=code.length+1:=by simp
     refine qq<|qj fun K hK=>qm ?_;obtain⟨_,st,aI,rfl,cd,dk,hH⟩:=FD hqo.nl hqo.i _ (dq q.l) (Nat.le_refl _) hF hqo.c (at_:=0) (by rw[wN];exact fY.all _) (fY.all _) (fY.all _) rT (by omega) ⟨cd,dk,hH⟩;refine qv aI ?_;refine qe hK ?_;rw[mL] at hH;have nW:(code++[dG 4 0 0 []]++aS (dq q.l) (code.length+1)).length=code.length+1+(dq q.l).sz:=by rw[List.length_append,mL,cp _ _ rT]
     refine qq<|qj fun K hK=>qm ?_;refine ae.go (d:=.agg [.int .i64 4,.int .i64 1,.int .i64 0,.nul]) (st1:=_) rfl rfl rfl (aa rfl _) ?_;have hH:=hH.eP 2;obtain⟨_,st,aI,rfl,cd,dk,hH⟩:=gu (rs:=[]) hF (by omega) hH;refine qv aI ?_;refine qe hK ?_;have D4:(code++[dG 4 0 0 []]++aS (dq q.l) (code.length+1)++[dG 4 1 0 []]).length=code.length+1+(dq q.l).sz+1:=by rw[List.length_append,nW];rfl
     refine qj fun K hK=>qm ?_;refine qm ?_;refine ae.go (d:=.agg [.int .i64 7,.int .i64 (r:Nat),.int .i64 0,.nul]) (st1:=_) rfl rfl rfl (aa rfl _) ?_;have hH:=hH.eP 2;obtain⟨_,st,aI,rfl,cd,dk,hH⟩:=gu (rs:=[]) hF (by omega) hH;refine qv aI ?_;refine qe hK ?_
     have Sm:code++[dG 4 0 0 []]++aS (dq q.l) (code.length+1)++[dG 4 1 0 []]++[dG 7 (r:Nat) 0 []]=code++sK (dq q.l) code.length r:=by
      unfold sK;simp
     rw[Sm] at hH;have hH:=(hH.erase 2).erase 2;have hH:=hH.front aX;have hH:=hH.front bV;refine qj fun K hK=>qA ?_;refine qm ?_;refine qe hK ?_;exact⟨mm-1,by omega,⟨r+1,cd,q.d,.win k33 0 0 q.l.length 1,.win k36 0 0 q.l.length 1,Rf,dk,code++sK (dq q.l) code.length r,bD++[((code.length:Nat):Int)],rfl,(by rw[List.map_append (f:=aB)];exact hH),by omega,hX,by rw[List.length_append,AY rT];omega,by rw[List.length_append];simp only[List.length_cons,List.length_nil];omega⟩⟩
  ·refine qq<|qE rfl (by simp;omega) ?_;refine ag.exit ?_;rw[List.drop_of_length_le (by omega),List.map_nil,BU] at hX;refine qq<|qj fun K hK=>qm ?_;refine qg ?_;refine qp (o:=0) ?_;refine ql hH bV ?_;refine qm ?_;refine ae.ie (qs:=[(0,_),(1,_)]) rfl rfl rfl rfl ⟨rfl,(ev rfl),(by exact hH.rv (by exact aX)),rfl,(ev rfl),(by exact hH.iR (by exact ax)),trivial⟩ (by intro q hq;simp only[List.mem_cons,List.not_mem_nil,or_false] at hq;rcases hq with rfl|rfl<;>exact⟨rfl,by exact Nat.le_of_ble_eq_true rfl⟩) (by show List.foldl _ [_,_] _=_;dsimp only[List.foldl_cons,List.foldl_nil,u2,u1]<;>rfl) (aa rfl _) ?_;refine qS hH da fun st hH=>?_;dsimp only[u2,u1,u3,u4,setMany,u5,u6,D.cells,Nat.reduceAdd,c_,aG,aB,B8] at hH;refine qm ?_;refine qm ?_;refine qe hK ?_;rw[←hX];have h1:=hH.Ea aX (n:=13) (by decide);have h2:=hH.Gl ax (Bp _) (n:=14) (by decide)
   have h4:aH st s0.bs.length false 15 (.agg [cd,sd])=some (Ft code bD).d:=by
    show(dH (aH st s0.bs.length false 14) [cd,sd]).map D.agg=_;simp only[dH,h1,h2,Option.map_some];rfl
   have h3:aH st s0.bs.length false 16 (rP [.agg [cd,sd],.int .i64 0,.int .i64 0])=some (mR ⟨code,bD,0,0⟩):=by
    show(dH (aH st s0.bs.length false 15) [.agg [cd,sd],.int .i64 0,.int .i64 0]).map D.tup=_;simp only[dH,h4];rfl
   exact ag.ret ⟨rx,_,hH.kI rfl da rfl rfl rfl,rl bf hH h3⟩
def aO.l:aO→List Tr
 | .nil=>[]
 | .cons t ts=>t::ts.l
def dR:List Tr→aO
 |[]=>.nil
 |t::l=>.cons t (dR l)
theorem Cq:∀ks:aO,dR ks.l=ks
 | .nil=>rfl
 | .cons t ts=>by simp only[aO.l,dR,Cq ts]
theorem lp:∀l:List Tr,(dR l).l=l
 |[]=>rfl
 |t::l=>by simp only[aO.l,dR,lp l]
theorem mf:∀ks:aO,ks.l.length=ks.len
 | .nil=>rfl
 | .cons t ts=>by simp only[aO.l,aO.len,List.length_cons,mf ts]
def Tr.n:Tr→bB
 | .mk n _=>n
def Tr.ks:Tr→List Tr
 | .mk _ ks=>ks.l
mutual
def Tr.c:Tr→List D
 | .mk n ks=>[.int .i64 n.op,n.rd,.int .i64 n.mn,.int .i64 n.mx,.bool n.lz,.int .i64 n.cap,.int .i64 n.kids,.sl ks.ds]
def aO.ds:aO→List D
 | .nil=>[]
 | .cons t ts=>.agg t.c::ts.ds
end
theorem Cs:∀ks:aO,ks.ds=(ks.l.map Tr.c).map (jr 8)
 | .nil=>by simp[aO.ds,aO.l]
 | .cons t ts=>by simp only[aO.ds,aO.l,List.map_cons,Cs ts];rfl
def dD (l:List Tr):D:=.sl ((l.map Tr.c).map (jr 8))
def b_ (n:bB) (x:D):List D:=[.int .i64 n.op,n.rd,.int .i64 n.mn,.int .i64 n.mx,.bool n.lz,.int .i64 n.cap,.int .i64 n.kids,x]
theorem Tr.P3 (t:Tr):t.c=b_ t.n (dD t.ks):=by
 cases t with
 |mk n ks=>simp only[Tr.c,b_,Tr.n,Tr.ks,dD,Cs]
mutual
def Tr.fa (P:bB→Prop):Tr→Prop
 | .mk n ks=>P n∧ks.fa P
def aO.fa (P:bB→Prop):aO→Prop
 | .nil=>True
 | .cons t ts=>t.fa P∧ts.fa P
end
theorem tP {P:bB→Prop}:∀{ks:aO},ks.fa P↔∀t∈ks.l,t.fa P
 | .nil=>by simp[aO.fa,aO.l]
 | .cons t ts=>by simp only[aO.fa,aO.l,List.mem_cons,forall_eq_or_imp,tP (ks:=ts)]
theorem Tr.d_ {P:bB→Prop} {t:Tr}:t.fa P↔P t.n∧∀k∈t.ks,k.fa P:=by
 cases t with
 |mk n ks=>simp only[Tr.fa,Tr.n,Tr.ks,tP]
theorem zL {P:bB→Prop} {n:bB} {l:List Tr}:(Tr.mk n (dR l)).fa P↔P n∧∀k∈l,k.fa P:=by
 rw[Tr.d_];simp only[Tr.n,Tr.ks,lp]
mutual
theorem Tr.fK {P:bB→Prop}:∀(t:Tr),t.fa P↔∀n∈t.flat,P n
 | .mk n ks=>by simp only[Tr.fa,Tr.flat,List.mem_cons,forall_eq_or_imp,aO.fK ks]
theorem aO.fK {P:bB→Prop}:∀(ts:aO),ts.fa P↔∀n∈ts.flat,P n
 | .nil=>by simp[aO.fa,aO.flat]
 | .cons t ts=>by simp only[aO.fa,aO.flat,List.mem_append,or_imp,forall_and,Tr.fK t,aO.fK ts]
end
mutual
def Tr.eM:Tr→Nat
 | .mk n ks=>ks.eM+1
def aO.eM:aO→Nat
 | .nil=>0
 | .cons t ts=>t.eM+ts.eM
end
def b7 (l:List Tr):Nat:=(l.map Tr.eM).sum
theorem o5:∀ks:aO,ks.eM=b7 ks.l
 | .nil=>rfl
 | .cons t ts=>by simp only[aO.eM,aO.l,b7,List.map_cons,List.sum_cons,o5 ts]
theorem Tr.dQ (t:Tr):t.eM=b7 t.ks+1:=by
 cases t with
 |mk n ks=>simp only[Tr.eM,Tr.ks,o5]
theorem nI (n:bB) (l:List Tr):(Tr.mk n (dR l)).eM=b7 l+1:=by
 rw[Tr.dQ];simp only[Tr.ks,lp]
mutual
theorem Tr.jl:∀t:Tr,t.flat.length=t.eM
 | .mk n ks=>by simp only[Tr.flat,Tr.eM,List.length_cons,aO.jl ks]
theorem aO.jl:∀ts:aO,ts.flat.length=ts.eM
 | .nil=>rfl
 | .cons t ts=>by simp only[aO.flat,aO.eM,List.length_append,Tr.jl t,aO.jl ts]
end
theorem jm (a b:List Tr):b7 (a++b)=b7 a+b7 b:=by unfold b7;rw[List.map_append,List.sum_append]
theorem bU (t:Tr) (b:List Tr):b7 (t::b)=t.eM+b7 b:=by unfold b7;rw[List.map_cons,List.sum_cons]
theorem cK:∀l:List Tr,l.length≤b7 l
 |[]=>Nat.le_refl _
 |t::l=>by have:=cK l;have:=Tr.dQ t;rw[bU,List.length_cons];omega
theorem eT {l:List Tr} {t:Tr} (h:t∈l):t.eM≤b7 l:=by
 induction l with
 |nil=>cases h
 |cons x l ih=>
  rw[bU]
  rcases List.mem_cons.1 h with rfl|h
  ·omega
  ·have:=ih h;omega
mutual
def Tr.same:Tr→Tr→Bool
 | .mk n ks,.mk m js=>n.op==m.op &&n.mn==m.mn &&n.mx==m.mx &&n.lz==m.lz &&n.cap==m.cap &&n.rs==m.rs &&ks.same js
def aO.same:aO→aO→Bool
 | .nil,.nil=>true
 | .cons t ts,.cons u us=>t.same u &&ts.same us
 | .nil,.cons _ _=>false
 | .cons _ _,.nil=>false
end
def fU:List Tr→List Tr→Bool
 |[],[]=>true
 |t::l,u::k=>t.same u &&fU l k
 |_,_=>false
theorem vx:∀ks js:aO,ks.same js=fU ks.l js.l
 | .nil,.nil=>by simp only[aO.same,aO.l,fU]
 | .cons t ts,.cons u us=>by simp only[aO.same,aO.l,fU,vx ts us]
 | .nil,.cons _ _=>by simp only[aO.same,aO.l,fU]
 | .cons _ _,.nil=>by simp only[aO.same,aO.l,fU]
theorem Tr.Ff (t u:Tr):t.same u=(t.n.op==u.n.op &&t.n.mn==u.n.mn &&t.n.mx==u.n.mx &&t.n.lz==u.n.lz &&t.n.cap==u.n.cap &&t.n.rs==u.n.rs &&fU t.ks u.ks):=by
 cases t;cases u;simp only[Tr.same,Tr.n,Tr.ks,vx]
theorem sJ:∀(l k:List Tr),fU l k=true→l.length=k.length
 |[],[],_=>rfl
 |t::l,u::k,h=>by simp only[fU,Bool.and_eq_true] at h;rw[List.length_cons,List.length_cons,sJ l k h.2]
 |[],_::_,h=>by cases h
 |_::_,[],h=>by cases h
mutual
def Tr.q':Tr→Bool
 | .mk n ks=>n.op==6||ks.q'
def aO.q':aO→Bool
 | .nil=>false
 | .cons t ts=>t.q'||ts.q'
end
theorem zn:∀ks:aO,ks.q'=ks.l.any Tr.q'
 | .nil=>rfl
 | .cons t ts=>by simp only[aO.q',aO.l,List.any_cons,zn ts]
theorem Tr.IK (t:Tr):t.q'=(t.n.op==6||t.ks.any Tr.q'):=by
 cases t;simp only[Tr.q',Tr.n,Tr.ks,zn]
def EX (op:Int):bB:=⟨op,aQ [],[],0,0,false,0,0⟩
def AJ (op:Int) (l:List Tr):Tr:=.mk (EX op) (dR l)
def bm (op:Int) (l:List Tr):List Tr:=l.flatMap fun t=>if t.n.op=op then t.ks else[t]
def f_ (op:Int) (l:List Tr):Tr:=match l with
 |[]=>AJ 1 []
 |[t]=>t
 |l=>AJ op l
def cQ (l:List Tr):List Tr:=l.foldl (fun out k=>if out.any (fun x=>x.same k)=true then out else out++[k]) []
noncomputable def o0 (a b:List Rg):Tr:=.mk ⟨2,aQ (cm (a++b)),cm (a++b),0,0,false,0,0⟩ .nil
noncomputable def gI (out:List Tr) (k:Tr):List Tr:=match out.getLast? with
 |some t=>if k.n.op=2∧t.n.op=2 then out.set (out.length-1) (o0 t.n.rs k.n.rs) else out++[k]
 |none=>out++[k]
noncomputable def cu (l:List Tr):List Tr:=l.foldl gI []
noncomputable def iN:Nat→List Tr→List Tr
 |0,l=>l
 |f+1,l=>if(cu (cQ l)).length=l.length then l else iN f (cu (cQ l))
def gU (n:bB):Bool:=n.op==5 &&!n.lz &&n.mx==-1 &&decide (n.mn≤1)
def zW (l:List Tr):Bool:=match l with
 |[]=>false
 |t::_=>t.n.op==2
def vM (n:bB) (k:Tr) (l:List Tr):Tr:=
 if k.n.op=1 then k
 else if n.mn=1∧n.mx=1 then k
 else if n.mx=0∧k.q'=false then AJ 1 []
 else if(gU {n with lz:=n.lz &&n.mn !=n.mx} &&(gU k.n &&zW k.ks))=true then .mk {k.n with mn:=k.n.mn*n.mn} (dR k.ks)
 else .mk {n with lz:=n.lz &&n.mn !=n.mx} (dR l)
noncomputable def oE (n:bB) (l:List Tr):Tr:=
 if n.op=3 then f_ 3 ((bm 3 l).filter fun t=>t.n.op !=1)
 else if n.op=4 then f_ 4 (iN (bm 4 l).length (bm 4 l))
 else if n.op=5 then(match l with|k::_=>vM n k l|[]=>.mk n .nil)
 else .mk n (dR l)
mutual
noncomputable def Tr.less:Tr→Tr
 | .mk n ks=>oE n ks.less
noncomputable def aO.less:aO→List Tr
 | .nil=>[]
 | .cons t ts=>t.less::ts.less
end
theorem pB:∀ks:aO,ks.less=ks.l.map Tr.less
 | .nil=>rfl
 | .cons t ts=>by simp only[aO.less,aO.l,List.map_cons,pB ts]
theorem Tr.zR (t:Tr):t.less=oE t.n (t.ks.map Tr.less):=by
 cases t;simp only[Tr.less,Tr.n,Tr.ks,pB]
mutual
def Tr.nY:Tr→List bB
 | .mk n ks=>{n with kids:=(ks.len:Nat)}::ks.nY
def aO.nY:aO→List bB
 | .nil=>[]
 | .cons t ts=>t.nY++ts.nY
end
theorem zo:∀ks:aO,ks.nY=ks.l.flatMap Tr.nY
 | .nil=>rfl
 | .cons t ts=>by simp only[aO.nY,aO.l,List.flatMap_cons,zo ts]
theorem Tr.Ec (t:Tr):t.nY={t.n with kids:=(t.ks.length:Nat)}::t.ks.flatMap Tr.nY:=by
 cases t;simp only[Tr.nY,Tr.n,Tr.ks,zo,mf]
mutual
theorem Tr.jI:∀t:Tr,t.nY.length=t.eM
 | .mk n ks=>by simp only[Tr.nY,Tr.eM,List.length_cons,aO.jI ks]
theorem aO.jI:∀ts:aO,ts.nY.length=ts.eM
 | .nil=>rfl
 | .cons t ts=>by simp only[aO.nY,aO.eM,List.length_append,Tr.jI t,aO.jI ts]
end
noncomputable def dw (l:List bB):List bB:=if gR l=true then(dq l).less.nY else[]
theorem tG:∀{l:List Rg} {b:Int},canon l→(∀x∈l,b≤x.1∧x.2≤1114111)→2*(l.length:Int)≤max 0 (1114113-b)
 |[],b,_,_=>by simp;omega
 |x::l,b,hc,hb=>by
  obtain⟨h1,h2,h3⟩:=iu hc;have hx:=hb x (List.mem_cons_self ..)
  have ih:=tG (b:=x.2+2) h1 fun y hy=>by
   have wM:=hb y (List.mem_cons_of_mem _ hy);have hle:=h1.1 y hy;have:=h3 y.1 ⟨y,hy,Int.le_refl _,hle⟩;omega
  rw[List.length_cons];omega
theorem yA {l a:List Rg} (h:ft l a):a.length≤557057:=by
 have hb:∀x∈a,0≤x.1∧x.2≤1114111:=fun x hx=>by
  have hle:=h.1.1 x hx;have g1:=((h.2 x.1).1 ⟨x,hx,Int.le_refl _,hle⟩).1;have g2:=((h.2 x.2).1 ⟨x,hx,hle,Int.le_refl _⟩).1;unfold lQ at g1 g2;omega
 have:=tG (b:=0) h.1 hb;omega
def ma (n:bB):Prop:=n.rd=aQ n.rs∧n.rs.length≤1048576
def jR (l:List Tr):Prop:=∀t∈l,t.fa ma
theorem jt {op:Int} {l:List Tr} (h:jR l):jR (bm op l):=by
 intro t ht;obtain⟨u,hu,ht⟩:=List.mem_flatMap.1 ht
 split at ht
 ·exact(Tr.d_.1 (h u hu)).2 t ht
 ·simp only[List.mem_cons,List.not_mem_nil,or_false] at ht;rw[ht];exact h u hu
theorem gb (op:Int):∀l:List Tr,b7 (bm op l)≤b7 l
 |[]=>Nat.le_refl _
 |t::l=>by
  have:=gb op l;unfold bm at this⊢;rw[List.flatMap_cons,jm,bU];have h2:=Tr.dQ t
  split
  ·omega
  ·simp only[bU];unfold b7 at this⊢;simp only[List.map_nil,List.sum_nil];omega
theorem rm (p:Tr→Bool):∀l:List Tr,b7 (l.filter p)≤b7 l
 |[]=>Nat.le_refl _
 |t::l=>by
  have:=rm p l;rw[List.filter_cons,bU]
  split
  ·rw[bU];omega
  ·omega
theorem J5 (op:Int):ma (EX op):=⟨rfl,by simp[EX]⟩
theorem xR {op:Int} {l:List Tr} (h:jR l):(AJ op l).fa ma:=zL.2 ⟨J5 op,h⟩
theorem sy {op:Int} {l:List Tr} (h:jR l):(f_ op l).fa ma:=by
 unfold f_
 split
 ·exact xR (by intro t ht;cases ht)
 ·exact h _ (List.mem_cons_self ..)
 ·exact xR h
theorem sA (op:Int) (l:List Tr):(f_ op l).eM≤b7 l+1:=by
 unfold f_
 split
 ·unfold AJ;rw[nI];omega
 ·rw[bU];omega
 ·unfold AJ;rw[nI];omega
theorem mN {α β:Type} {f:β→α→β} {P:β→Prop} {l:List α} (h:∀b a,a∈l→P b→P (f b a)):∀b,P b→P (l.foldl f b):=by
 induction l with
 |nil=>exact fun b hb=>hb
 |cons a l ih=>exact fun b hb=>ih (fun b a ha=>h b a (List.mem_cons_of_mem _ ha)) _ (h b a (List.mem_cons_self ..) hb)
theorem mw {l:List Tr} (h:jR l):jR (cQ l):=by
 unfold cQ;refine mN (P:=jR) (fun b a ha hb=>?_) _ (by intro t ht;cases ht)
 split
 ·exact hb
 ·intro t ht
  rcases List.mem_append.1 ht with ht|ht
  ·exact hb t ht
  ·simp only[List.mem_cons,List.not_mem_nil,or_false] at ht;rw[ht];exact h a ha
theorem A' (l:List Tr):∀b,b7 (l.foldl (fun out k=>if out.any (fun x=>x.same k)=true then out else out++[k]) b)≤b7 b+b7 l:=by
 induction l with
 |nil=>intro b;unfold b7;simp
 |cons a l ih=>
  intro b;rw[List.foldl_cons,bU]
  split
  ·have:=ih b;omega
  ·have:=ih (b++[a]);rw[jm,bU] at this;unfold b7 at this⊢;simp only[List.map_nil,List.sum_nil] at this;omega
theorem pU (l:List Tr):b7 (cQ l)≤b7 l:=by
 have:=A' l [];unfold cQ;unfold b7 at this⊢;simp only[List.map_nil,List.sum_nil] at this;omega
theorem MD (a b:List Rg):(cm (a++b)).length≤557057:=by
 unfold cm
 split
 ·rename_i h;exact yA (Classical.choose_spec h)
 ·simp
theorem I0 (a b:List Rg):(o0 a b).fa ma:=by
 unfold o0;simp only[Tr.fa,aO.fa,and_true];exact⟨rfl,by have:=MD a b;show(cm (a++b)).length≤_;omega⟩
theorem Em {l:List Tr} {i:Nat} {t u:Tr} (h:l[i]?=some t):b7 (l.set i u)+t.eM=b7 l+u.eM:=by
 induction l generalizing i with
 |nil=>simp at h
 |cons x l ih=>
  cases i with
  |zero=>simp only[List.getElem?_cons_zero,Option.some.injEq] at h;subst h;rw[List.set_cons_zero,bU,bU];omega
  |succ i=>rw[List.set_cons_succ,bU,bU];have:=ih (i:=i) (by simpa using h);omega
theorem AL {l:List Tr} {t:Tr} (h:l.getLast?=some t):l[l.length-1]?=some t:=by rw[←h,List.getLast?_eq_getElem?]
theorem Dx (b:List Tr) (a:Tr):b7 (gI b a)≤b7 b+a.eM:=by
 unfold gI
 split
 ·rename_i t ht
  split
  ·have:=Em (u:=o0 t.n.rs a.n.rs) (AL ht);have h1:(o0 t.n.rs a.n.rs).eM=1:=by unfold o0;simp[Tr.eM,aO.eM]
   have h2:=Tr.dQ t;omega
  ·rw[jm,bU];unfold b7;simp
 ·rw[jm,bU];unfold b7;simp
theorem wH (l:List Tr):∀b,b7 (l.foldl gI b)≤b7 b+b7 l:=by
 induction l with
 |nil=>intro b;unfold b7;simp
 |cons a l ih=>intro b;rw[List.foldl_cons,bU];have:=ih (gI b a);have:=Dx b a;omega
theorem qJ (l:List Tr):b7 (cu l)≤b7 l:=by
 have:=wH l [];unfold cu;unfold b7 at this⊢;simp only[List.map_nil,List.sum_nil] at this;omega
theorem Dv (b:List Tr) (a:Tr):(gI b a).length≤b.length+1:=by
 unfold gI
 split
 ·split
  ·rw[List.length_set];omega
  ·rw[List.length_append];simp
 ·rw[List.length_append];simp
theorem Dw {b:List Tr} {a:Tr} (hb:jR b) (ha:a.fa ma):jR (gI b a):=by
 have uS:jR (b++[a]):=by
  intro t ht
  rcases List.mem_append.1 ht with ht|ht
  ·exact hb t ht
  ·simp only[List.mem_cons,List.not_mem_nil,or_false] at ht;rw[ht];exact ha
 unfold gI
 split
 ·split
  ·intro t ht
   rcases List.mem_or_eq_of_mem_set ht with ht|rfl
   ·exact hb t ht
   ·exact I0 _ _
  ·exact uS
 ·exact uS
theorem jB {l:List Tr} (h:jR l):jR (cu l):=by
 unfold cu;exact mN (P:=jR) (fun b a ha hb=>Dw hb (h a ha)) _ (by intro t ht;cases ht)
theorem oG (l:List Tr):∀b,(l.foldl gI b).length≤b.length+l.length:=by
 induction l with
 |nil=>intro b;simp
 |cons a l ih=>intro b;rw[List.foldl_cons,List.length_cons];have:=ih (gI b a);have:=Dv b a;omega
theorem A_ (l:List Tr):∀b,(l.foldl (fun out k=>if out.any (fun x=>x.same k)=true then out else out++[k]) b).length≤b.length+l.length:=by
 induction l with
 |nil=>intro b;simp
 |cons a l ih=>
  intro b;rw[List.foldl_cons,List.length_cons]
  split
  ·have:=ih b;omega
  ·have:=ih (b++[a]);rw[List.length_append] at this;simp only[List.length_cons,List.length_nil] at this;omega
theorem AK (l:List Tr):(cu (cQ l)).length≤l.length:=by
 have h1:=oG (cQ l) [];have h2:=A_ l [];unfold cu cQ at*;simp only[List.length_nil] at h1 h2;omega
theorem tK:∀(f:Nat) {l:List Tr},jR l→jR (iN f l)∧b7 (iN f l)≤b7 l
 |0,l,h=>⟨h,Nat.le_refl _⟩
 |f+1,l,h=>by
  unfold iN
  split
  ·exact⟨h,Nat.le_refl _⟩
  ·obtain⟨h1,h2⟩:=tK f (jB (mw h));have:=qJ (cQ l);have:=pU l;exact⟨h1,by omega⟩
theorem Fg {n:bB} {k:Tr} {l:List Tr} (hn:ma n) (h:jR l) (hk:k∈l):(vM n k l).fa ma:=by
 have hkk:=h k hk;unfold vM
 split
 ·exact hkk
 split
 ·exact hkk
 split
 ·exact xR (by intro t ht;cases ht)
 split
 ·exact zL.2 ⟨(Tr.d_.1 hkk).1,(Tr.d_.1 hkk).2⟩
 ·exact zL.2 ⟨hn,h⟩
theorem Fh {n:bB} {k:Tr} {l:List Tr} (hk:k∈l):(vM n k l).eM≤b7 l+1:=by
 have:=eT hk;unfold vM
 split
 ·omega
 split
 ·omega
 split
 ·unfold AJ;rw[nI];unfold b7;simp
 split
 ·rw[nI];have:=Tr.dQ k;omega
 ·rw[nI];omega
theorem Bk {n:bB} {l:List Tr} (hn:ma n) (h:jR l):(oE n l).fa ma∧(oE n l).eM≤b7 l+1:=by
 unfold oE
 split
 ·have h1:=rm (fun t=>t.n.op !=1) (bm 3 l);have h2:=gb 3 l;have h3:=sA 3 ((bm 3 l).filter fun t=>t.n.op !=1);exact⟨sy fun t ht=>jt h t (List.mem_filter.1 ht).1,by omega⟩
 split
 ·obtain⟨h1,h2⟩:=tK (bm 4 l).length (jt (op:=4) h);have h3:=gb 4 l;have h4:=sA 4 (iN (bm 4 l).length (bm 4 l));exact⟨sy h1,by omega⟩
 split
 ·cases l with
  |nil=>exact⟨by simp only[Tr.fa,aO.fa,and_true];exact hn,by simp[Tr.eM,aO.eM,b7]⟩
  |cons k l=>exact⟨Fg hn h (List.mem_cons_self ..),Fh (List.mem_cons_self ..)⟩
 ·exact⟨zL.2 ⟨hn,h⟩,by rw[nI];omega⟩
mutual
theorem Tr.gH:∀(t:Tr),t.fa ma→t.less.fa ma∧t.less.eM≤t.eM
 | .mk n ks,h=>by
  simp only[Tr.fa] at h;obtain⟨h1,h2⟩:=aO.gH ks h.2;obtain⟨h3,h4⟩:=Bk h.1 h1;simp only[Tr.less,Tr.eM];exact⟨h3,by omega⟩
theorem aO.gH:∀(ts:aO),ts.fa ma→jR ts.less∧b7 ts.less≤ts.eM
 | .nil,_=>⟨by intro t ht;simp[aO.less] at ht,by simp[aO.less,b7]⟩
 | .cons t ts,h=>by
  simp only[aO.fa] at h;obtain⟨h1,h2⟩:=Tr.gH t h.1;obtain⟨h3,h4⟩:=aO.gH ts h.2;simp only[aO.less,aO.eM];refine⟨fun u hu=>?_,by rw[bU];omega⟩
  rcases List.mem_cons.1 hu with rfl|hu
  ·exact h1
  ·exact h3 u hu
end
mutual
theorem Tr.re:∀(t:Tr),t.fa ma→t.eM≤1048576→∀n∈t.nY,l_ n
 | .mk n ks,h,hc=>by
  simp only[Tr.fa] at h;simp only[Tr.eM] at hc;have ih:=aO.re ks h.2 (by omega);simp only[Tr.nY,List.mem_cons];rintro m (rfl|hm)
  ·have h1:=mf ks;have h2:=cK ks.l;rw[←o5] at h2;exact⟨h.1.1,h.1.2,by show((ks.len:Nat):Int)≤_;omega⟩
  ·exact ih m hm
theorem aO.re:∀(ts:aO),ts.fa ma→ts.eM≤1048576→∀n∈ts.nY,l_ n
 | .nil,_,_=>by simp[aO.nY]
 | .cons t ts,h,hc=>by
  simp only[aO.fa] at h;simp only[aO.eM] at hc;have h1:=Tr.re t h.1 (by omega);have h2:=aO.re ts h.2 (by omega);simp only[aO.nY,List.mem_append];rintro m (hm|hm)
  ·exact h1 m hm
  ·exact h2 m hm
end
theorem sI {l:List bB} (h:∀n∈l,l_ n) (hl:l.length≤500):(∀n∈dw l,l_ n)∧(dw l).length≤500:=by
 unfold dw
 split
 ·rename_i hr;obtain⟨_,h2⟩:=tR hr;have hfa:(dq l).fa ma:=(Tr.fK _).2 fun n hn=>by rw[h2] at hn;exact⟨(h n hn).1,(h n hn).2.1⟩
  obtain⟨h3,h4⟩:=Tr.gH _ hfa;have h5:=Tr.jl (dq l);rw[h2] at h5;have h6:=Tr.jI (dq l).less;exact⟨Tr.re _ h3 (by omega),by omega⟩
 ·exact⟨fun n hn=>(by cases hn),by simp⟩
def nP (fr:Go.V.Fr) (k:Nat):Go.V.D:=Go.V.nth .bp fr.loc k
def tC (t:Tr):List D:=b_ t.n (dD t.ks)
theorem JQ:Tr.c=tC:=by funext t;exact Tr.P3 t
theorem lO (l:List Tr):dD l=.sl ((l.map tC).map (jr 8)):=by unfold dD;rw[JQ]
theorem lu {l:List Tr} {i:Nat} {q:Tr} (h:l[i]?=some q):(l.map tC)[i]?=some (tC q):=by rw[List.getElem?_map,h];rfl
theorem JP (l:List Tr):∀e∈l.map tC,e.length=8:=by
 intro e he;obtain⟨r,_,rfl⟩:=List.mem_map.1 he;rfl
theorem kG {l:List Tr} (h:∀t∈l,t.fa ma):∀e∈l.map tC,∀d∈e,cj d=true:=by
 intro e he d hd;obtain⟨r,hr,rfl⟩:=List.mem_map.1 he;have h1:=(Tr.d_.1 (h r hr)).1.1;simp only[tC,b_,dD,List.mem_cons,List.not_mem_nil,or_false] at hd
 rcases hd with rfl|rfl|rfl|rfl|rfl|rfl|rfl|rfl<;>try rfl
 rw[h1];rfl
theorem gB {t:Tr} (h:t.fa ma) (st:St) (N n:Nat):aH st N false (n+2) (.agg (tC t))=some (.agg (tC t)):=by
 have h1:=(Tr.d_.1 h).1.1;unfold tC b_;rw[h1];rfl
theorem ew (st:St) {l:List Tr} (h:∀t∈l,t.fa ma):V.Rows st 8 (dD l) (l.map tC):=by
 rw[lO];exact Rows.my (JP l) (kG h)
theorem zF {s0:St} {n:bB}:Ev pv 239 [.agg (aG n)] s0 (.bool (gU n)) s0:=by
 unfold gU;refine Ev.jq rfl LN rfl rfl rfl ?_;dsimp only[u3,u4,List.length,Nat.reduceSub,Nat.reduceAdd,w1,w2];obtain⟨bf,hF,hH⟩:=ri s0;generalize ai .ro s0=S at*;refine qq<|qj fun K hK=>qb hH fun k1 st lR hH=>?_;dsimp only[u2,u1,u3,u4,setMany,u5,u6,D.cells,Nat.reduceAdd,aG] at hH;refine qm ?_;refine qe hK<|qq<|ag.sm 2 (.bool (n.op==5 &&!n.lz &&n.mx==-1 &&decide (n.mn≤1))) [] ?_ (fun ff tmp=>?_)
 ·refine qp (o:=0) ?_;refine ql hH ax ?_;refine qg ?_;refine qm ?_;refine ae.two 6 rfl (fun bC=>?_) (fun bC=>?_)
  ·refine qp (o:=4) ?_ (hg:=wi bC);refine ql hH ax ?_ (hg:=wi bC);refine qg ?_ (hg:=wi bC);refine qt bC ?_;refine qm ?_;refine ae.two 11 rfl (fun bL=>?_) (fun bL=>?_)
   ·refine qp (o:=3) ?_ (hg:=wi bL);refine ql hH ax ?_ (hg:=wi bL);refine qg ?_ (hg:=wi bL);refine qt bL ?_;refine qm ?_;refine ae.two 16 rfl (fun dW=>?_) (fun dW=>?_)
    ·refine qp (o:=2) ?_ (hg:=wi dW);refine ql hH ax ?_ (hg:=wi dW);refine qg ?_ (hg:=wi dW);refine qt dW ?_;refine qm ?_;refine ae.nil (aM ?_);dsimp only[aD,List.foldl,nth,u2,u1];dsimp only[Fr.ay,Fr.put,Fr.clean,Fr.ev,Fr.get,nth,V.look,u1,u2,v1,v2,v3,v4,v5,v6,v7,List.length,u3,u4,Nat.reduceSub,Nat.reduceAdd,List.map]
     all_goals(simp[bC,bL,dW];done)
    ·refine qs ?_ (hg:=wn dW);refine qs ?_ (hg:=wn dW);refine qs ?_ (hg:=wn dW);refine qu dW ?_;refine qm ?_;refine ae.nil (aM ?_);dsimp only[aD,List.foldl,nth,u2,u1];dsimp only[Fr.ay,Fr.put,Fr.clean,Fr.ev,Fr.get,nth,V.look,u1,u2,v1,v2,v3,v4,v5,v6,v7,List.length,u3,u4,Nat.reduceSub,Nat.reduceAdd,List.map]
     all_goals(simp[bC,bL,dW];done)
   ·refine qs ?_ (hg:=wn bL);refine qs ?_ (hg:=wn bL);refine qs ?_ (hg:=wn bL);refine qu bL ?_;refine qm ?_;refine qs ?_;refine qs ?_;refine qs ?_;refine qg ?_;refine qm ?_;refine ae.nil (aM ?_);dsimp only[aD,List.foldl,nth,u2,u1];dsimp only[Fr.ay,Fr.put,Fr.clean,Fr.ev,Fr.get,nth,V.look,u1,u2,v1,v2,v3,v4,v5,v6,v7,List.length,u3,u4,Nat.reduceSub,Nat.reduceAdd,List.map]
    all_goals(simp[bC,bL];done)
  ·refine qs ?_ (hg:=wn bC);refine qs ?_ (hg:=wn bC);refine qs ?_ (hg:=wn bC);refine qu bC ?_;refine qm ?_;refine qs ?_;refine qs ?_;refine qs ?_;refine qg ?_;refine qm ?_;refine qs ?_;refine qs ?_;refine qs ?_;refine qg ?_;refine qm ?_;refine ae.nil (aM ?_);dsimp only[aD,List.foldl,nth,u2,u1];dsimp only[Fr.ay,Fr.put,Fr.clean,Fr.ev,Fr.get,nth,V.look,u1,u2,v1,v2,v3,v4,v5,v6,v7,List.length,u3,u4,Nat.reduceSub,Nat.reduceAdd,List.map]
   all_goals(simp[bC];done)
 dsimp only[aD,List.foldl,nth,u2,u1];refine ag.ret ⟨rx,_,rfl,rl bf hH (rfl)⟩
theorem wL {s0:St} {x:D} {l:List Tr} {g:Nat} {eU:List D} {p:Tr→Bool} (hx:V.Rows s0 8 x (l.map tC)) (hl:l.length≤1048576) (hf:∀(st:St),(∀k,k<s0.bs.length→st.bs[k]?=s0.bs[k]?)→∀t∈l,Ev pv g ([.agg (tC t)]++eU) st (.bool (p t)) st):
  ∃d,Ev pv 258 [x,.fn g eU] s0 d s0∧∃i:Int,d=.int .i64 i∧((i=-1∧∀t∈l,p t=false)∨(∃j:Nat,i=(j:Nat)∧j<l.length∧(∀t∈l.take j,p t=false)∧∃t,l[j]?=some t∧p t=true)):=by
 refine Ev.GW rfl LI rfl rfl rfl ?_;dsimp only[u3,u4,List.length,Nat.reduceSub,Nat.reduceAdd,w1,w2];obtain⟨bf,hF,hH⟩:=ri s0;generalize ai .ro s0=S at*;have hx:=Arg.of hx bf;refine qq<|qj fun K hK=>qm ?_;refine qe hK<|qq<|qq<|qj fun K hK=>qm ?_;refine qn ?_;simp only[List.length_map];refine qm ?_;refine qe hK<|ag.block<|ag.loop (fun mm fr st=>∃(i:Nat),fr.clean=⟨9,[x,.fn g eU,nP fr 2,nP fr 3,nP fr 4,nP fr 5,nP fr 6,.int .i64 (l.length:Nat),.int .i64 (i:Nat)],[]⟩∧Has s0.bs.length S st []∧(i+mm=l.length)∧(∀t∈l.take i,p t=false)) (l.length) ?_ ?_
 ·exact⟨0,rfl,hH,by omega,by simp⟩
 rintro mm fr st ⟨i,hfr,hH,hi,ht⟩;rw[hfr];clear hfr;generalize nP fr=ee;clear fr;refine qq<|qj fun K hK=>qg ?_;refine qe hK<|qq ?_;refine ag.cond (by rfl) (fun h1=>?_) (fun h1=>?_)<;>try simp only[decide_eq_true_eq,decide_eq_false_iff_not] at h1
 ·refine ag.skip ?_
  obtain⟨q,hq⟩:∃q,l[i]?=some q:=⟨l[i]'(by omega),List.getElem?_eq_getElem _⟩
  have gN:=lu hq;refine qq<|ag.block<|qq<|qj fun K hK=>qm ?_;refine qm ?_;refine qe hK<|qq<|qj fun K hK=>qm ?_;refine qm ?_;refine qm ?_;refine qr fun Qt Ky=>?_;refine ae.dj rfl (ev rfl) (by assumption) rfl (aa rfl _) ?_;refine qv (hf _ (fun k hk=>by rw[hH.ex.low k hk,bf]) q (List.mem_of_getElem? hq)) ?_;refine qe hK ?_
  cases hp:p q with
  |true=>
   refine ag.cond (v:=true) (by dsimp only[Fr.ev,Fr.get,nth,V.look];done) (fun _=>?_) (fun h=>by cases h);refine qq<|qj fun K hK=>qm ?_;refine qm ?_;refine qe hK<|ag.ret ⟨rx,_,_,rfl,rl bf hH (rfl),?_⟩;exact⟨(i:Nat),rfl,.inr ⟨i,rfl,by omega,ht,q,hq,hp⟩⟩
  |false=>
   refine ag.cond (v:=false) (by dsimp only[Fr.ev,Fr.get,nth,V.look];done) (fun h=>by cases h) (fun _=>?_);refine ag.skip<|qj fun K hK=>qA ?_;refine qm ?_;refine qe hK ?_;exact⟨mm-1,by omega,⟨i+1,rfl,hH,by omega,(by rw[List.take_add_one,hq];intro t h;rcases List.mem_append.1 h with h|h;exact ht t h;simp at h;rw[h];exact hp)⟩⟩
 ·refine ag.exit<|qq<|qj fun K hK=>qm ?_;refine qe hK<|ag.ret ⟨rx,_,_,rfl,rl bf hH (rfl),?_⟩;exact⟨_,rfl,.inl ⟨rfl,by rw[List.take_of_length_le (by omega)] at ht;exact ht⟩⟩
theorem oP {s0:St} {x:D} {l:List Tr} {g:Nat} {eU:List D} {p:Tr→Bool} (hx:V.Rows s0 8 x (l.map tC)) (hl:l.length≤1048576) (hf:∀(st:St),(∀k,k<s0.bs.length→st.bs[k]?=s0.bs[k]?)→∀t∈l,Ev pv g ([.agg (tC t)]++eU) st (.bool (p t)) st):
  Ev pv 259 [x,.fn g eU] s0 (.bool (l.any p)) s0:=by
 refine Ev.jq rfl LH rfl rfl rfl ?_;dsimp only[u3,u4,List.length,Nat.reduceSub,Nat.reduceAdd,w1,w2];obtain⟨bf,hF,hH⟩:=ri s0;generalize ai .ro s0=S at*;have hx:=Arg.of hx bf;obtain⟨d,aI,i,rfl,hi⟩:=wL (s0:=S) hx.1 hl (p:=p) (g:=g) (eU:=eU) (fun st h=>hf st (fun k hk=>by rw[h k (by rw[bf];exact hk),bf]))
 have hv:l.any p=decide (i≥0):=by
  rcases hi with⟨rfl,h⟩|⟨j,rfl,h1,h2,t,h3,h4⟩
  ·rw[show decide ((-1:Int)≥0)=false from rfl,List.any_eq_false];intro t ht;rw[h t ht];simp
  ·rw[decide_eq_true (by omega),List.any_eq_true];exact⟨t,List.mem_of_getElem? h3,h4⟩
 rw[hv];refine qq<|qj fun K hK=>qm ?_;refine qe hK<|qq<|qj fun K hK=>qm ?_;refine qm ?_;refine qv aI ?_;refine qg ?_;refine qm ?_;refine qe hK<|ag.ret ⟨rx,_,rfl,rl bf hH (rfl)⟩
theorem tk:∀(n:Nat) (t:Tr),t.eM≤n→n≤1048576→t.fa ma→∀s0:St,Ev pv 238 [.agg (tC t)] s0 (.bool t.q') s0
 |0,t,h,_,_,_=>by have:=Tr.dQ t;omega
 |n+1,t,h,hn,hfa,s0=>by
  have KR:=Tr.dQ t;have jF:=cK t.ks;have rZ:=(Tr.d_.1 hfa).2;have yL:∀(st s:St),(∀k,k<st.bs.length→s.bs[k]?=st.bs[k]?)→∀k∈t.ks,Ev pv 238 ([.agg (tC k)]++[]) s (.bool (Tr.q' k)) s:=fun st s _ k hk=>tk n k (by have:=eT hk;omega) (by omega) (rZ k hk) s;have D3:∀st,Ev pv 259 [dD t.ks,.fn 238 []] st (.bool (t.ks.any Tr.q')) st:=fun st=>oP (ew st rZ) (by omega) (yL st);rw[Tr.IK];refine Ev.jq rfl LO rfl rfl rfl ?_;dsimp only[u3,u4,List.length,Nat.reduceSub,Nat.reduceAdd,w1,w2];obtain⟨bf,hF,hH⟩:=ri s0;generalize ai .ro s0=S at*;refine qq<|qj fun K hK=>qb hH fun k1 st lR hH=>?_;dsimp only[u2,u1,u3,u4,setMany,u5,u6,D.cells,Nat.reduceAdd,tC,b_] at hH;refine qm ?_;refine qe hK<|qq<|ag.sm 2 (.bool (t.n.op==6||t.ks.any Tr.q')) [] ?_ (fun ff tmp=>?_)
  ·refine qp (o:=0) ?_;refine qp (o:=0) ?_;refine ql hH ax ?_;refine qg ?_;refine qm ?_;refine ae.two 7 rfl (fun jP=>?_) (fun jP=>?_)
   ·refine qs ?_ (hg:=wn jP);refine qs ?_ (hg:=wn jP);refine qs ?_ (hg:=wn jP);refine qt jP ?_;refine qm ?_;refine ae.nil (aM ?_);dsimp only[aD,List.foldl,nth,u2,u1];dsimp only[Fr.ay,Fr.put,Fr.clean,Fr.ev,Fr.get,nth,V.look,u1,u2,v1,v2,v3,v4,v5,v6,v7,List.length,u3,u4,Nat.reduceSub,Nat.reduceAdd,List.map]
    all_goals(simp[jP];done)
   ·refine qp (o:=7) ?_ (hg:=wi jP);refine ql hH ax ?_ (hg:=wi jP);refine qv (D3 _) ?_ (hg:=wi jP);refine qu jP ?_;refine qm ?_;refine ae.nil (aM ?_);dsimp only[aD,List.foldl,nth,u2,u1];dsimp only[Fr.ay,Fr.put,Fr.clean,Fr.ev,Fr.get,nth,V.look,u1,u2,v1,v2,v3,v4,v5,v6,v7,List.length,u3,u4,Nat.reduceSub,Nat.reduceAdd,List.map]
    all_goals(simp[jP];done)
  dsimp only[aD,List.foldl,nth,u2,u1];refine ag.ret ⟨rx,_,rfl,rl bf hH (rfl)⟩
theorem ou {st:St} {s N:Nat} {x:D} {es:List (List D)} (h:V.Rows st s x es) (hN:st.bs.length≤N) (hne:es≠[]) (ah:St) (n:Nat):aH ah N false (n+1) x=some x:=by
 have hr:=Rows.ref h
 cases h with
 |nul=>exact absurd rfl hne
 |sl es h=>rfl
 |win k aq off es ar c hm hl he=>
  simp only[D.ref] at hr;show(if k<N then some (D.win k aq off es.length s) else _)=_;rw[if_pos (by omega)]
theorem EE {op x:D} (h:x.cells?=some [x]) (ho:∃i,op=.int .i64 i):rA pv 244 [(0,.agg [op,.nul,.int .i64 0,.int .i64 0,.bool false,.int .i64 0,.int .i64 0]),(1,x)]=some (.agg [op,.nul,.int .i64 0,.int .i64 0,.bool false,.int .i64 0,.int .i64 0,x]):=by
 obtain⟨i,rfl⟩:=ho
 cases x<;>first|rfl|(exfalso;simp[D.cells?] at h;done)|(exfalso;simp only[D.cells?,Option.some.injEq] at h;have h2:=congrArg (fun l:List D=>SizeOf.sizeOf l) h;simp at h2;done)|(exfalso;simp only[D.cells?,Option.some.injEq] at h;have h2:=congrArg (fun l:List D=>SizeOf.sizeOf l) h;simp at h2;omega)
theorem gD {st:St} {s:Nat} {x:D} {es:List (List D)} (h:V.Rows st s x es):x.cells?=some [x]:=by cases h<;>rfl
def xK (op:Int) (x:D) (l:List Tr):List D:=match l with
 |[]=>tC (AJ 1 [])
 |[t]=>tC t
 |_=>b_ (EX op) x
theorem vt {s0:St} {x:D} {l:List Tr} {op:Int} (hx:V.Rows s0 8 x (l.map tC)) (hl:l.length≤1048576) (Ae:jR l):Ev pv 235 [.int .i64 op,x] s0 (.agg (xK op x l)) s0:=by
 have hfz:l≠[]→∀ah n,aH ah s0.bs.length false (n+1) x=some x:=fun h=>ou hx (Nat.le_refl _) (by simpa using h);have UG:=hx;have G8:=gD hx;refine Ev.jq rfl LS rfl rfl rfl ?_;dsimp only[u3,u4,List.length,Nat.reduceSub,Nat.reduceAdd,w1,w2];obtain⟨bf,hF,hH⟩:=ri s0;generalize ai .ro s0=S at*;have hx:=Arg.of hx bf;refine qq<|qj fun K hK=>qa hH fun k4 st KV hH=>?_;refine qe hK<|qq<|qq<|qj fun K hK=>qm ?_;refine qn ?_;simp only[List.length_map];refine qe hK<|ag.block ?_
 rcases l with _|⟨t,_|⟨u,l⟩⟩
 ·refine qq<|qj fun K hK=>qg ?_;refine qm ?_;refine qe hK<|qB ?_;refine qq<|qj fun K hK=>ae.go (d:=.agg [.int .i64 1,.nul,.int .i64 0,.int .i64 0,.bool false,.int .i64 0,.int .i64 0]) (st1:=_) rfl rfl rfl (aa rfl _) ?_;refine ae.go (d:=.agg [.int .i64 1,.nul,.int .i64 0,.int .i64 0,.bool false,.int .i64 0,.int .i64 0,.nul]) (st1:=_) rfl rfl rfl (aa rfl _) ?_;refine ae.b8 hH rfl (ev rfl) (ev rfl) rfl (by exact rfl) ax (by exact rfl) (.inl hF) (fun st hH=>?_);dsimp only[u1,u2] at hH;refine qe hK<|ag.ret ⟨rx,_,hH.cX rfl ax rfl,rl bf hH rfl⟩
 ·refine qq<|qj fun K hK=>qg ?_;refine qm ?_;refine qe hK<|qC ?_;refine qq<|qj fun K hK=>qg ?_;refine qm ?_;refine qe hK<|qB ?_;have gN:([t].map tC)[0]?=some (tC t):=rfl;have hn:=(Tr.d_.1 (Ae t (List.mem_singleton.2 rfl))).1.1;refine qq<|qj fun K hK=>qm ?_;refine qr fun Qt Ky=>?_;refine ae.dj rfl (ev rfl) (by assumption) rfl (aa rfl _) ?_;refine ae.b8 hH rfl (ev rfl) (ev rfl) rfl (by exact rfl) ax (by exact rfl) (.inl hF) (fun st hH=>?_);dsimp only[u1,u2] at hH;refine qe hK<|ag.ret ⟨rx,_,hH.cX rfl ax rfl,rl bf hH ?_⟩;exact gB (Ae t (List.mem_singleton.2 rfl)) _ _ _
 ·have K_:((((t::u::l).length:Nat):Int)==0)=false:=by simp;omega
  have oK:((((t::u::l).length:Nat):Int)==1)=false:=by simp;omega
  have gV:xK op x (t::u::l)=b_ (EX op) x:=rfl;rw[gV];have h8:=fun ah=>hfz (by simp) ah 14;generalize(t::u::l)=l at*;refine qq<|qj fun K hK=>qg ?_;refine qm ?_;refine qe hK<|qE rfl (by rw[K_]) ?_;refine qq<|qj fun K hK=>qg ?_;refine qm ?_;refine qe hK<|qE rfl (by rw[oK]) ?_;refine ag.skip<|qq<|qj fun K hK=>qm ?_;refine ae.go (d:=.agg [.int .i64 op,.nul,.int .i64 0,.int .i64 0,.bool false,.int .i64 0,.int .i64 0]) (st1:=_) rfl rfl rfl (aa rfl _) ?_;refine qm ?_;refine ae.go (d:=.agg [.int .i64 op,.nul,.int .i64 0,.int .i64 0,.bool false,.int .i64 0,.int .i64 0,x]) (st1:=_) rfl rfl (by exact congrArg (Option.map fun d=>(d,_)) (EE G8 ⟨_,rfl⟩)) (aa rfl _) ?_;refine ae.b8 hH rfl (ev rfl) (ev rfl) rfl (by exact rfl) ax (by exact rfl) (.inl hF) (fun st hH=>?_);dsimp only[u1,u2] at hH;refine qe hK<|ag.ret ⟨rx,_,hH.cX rfl ax rfl,rl bf hH ?_⟩;show(dH (aH st s0.bs.length false 15) [.int .i64 op,.nul,.int .i64 0,.int .i64 0,.bool false,.int .i64 0,.int .i64 0,x]).map D.agg=_;simp only[dH,h8]
  rfl
end Go.Proofs.YtecjacicdpejaaaGreat
namespace Go.Proofs.YtecjacicdpejaaaGreat
open Go.V Go
def gS (fr:Go.V.Fr) (k:Nat):Go.V.D:=Go.V.nth .bp fr.loc k
theorem x6 {l k:List Tr} {i:Nat} {t u:Tr} (h:l[i]?=some t) (h2:k[i]?=some u):fU (l.drop i) (k.drop i)=(t.same u &&fU (l.drop (i+1)) (k.drop (i+1))):=by
 obtain⟨h3,h4⟩:=List.getElem?_eq_some_iff.1 h;obtain⟨h5,h6⟩:=List.getElem?_eq_some_iff.1 h2;rw[List.drop_eq_getElem_cons h3,List.drop_eq_getElem_cons h5,h4,h6,fU]
theorem Eh {s0:St} {x y:D} {l k:List Tr} {g:Nat} (hx:V.Rows s0 8 x (l.map tC)) (hy:V.Rows s0 8 y (k.map tC)) (hl:l.length≤1048576) (hk:k.length≤1048576)
  (hf:∀(st:St),∀t∈l,∀u∈k,Ev pv g ([.agg (tC t),.agg (tC u)]++[]) st (.bool (t.same u)) st):Ev pv 277 [x,y,.fn g []] s0 (.bool (fU l k)) s0:=by
 refine Ev.jq rfl Lv rfl rfl rfl ?_;dsimp only[u3,u4,List.length,Nat.reduceSub,Nat.reduceAdd,w1,w2];obtain⟨bf,hF,hH⟩:=ri s0;generalize ai .ro s0=S at*;have hx:=Arg.of hx bf;have hy:=Arg.of hy bf;refine qq<|qj fun K hK=>qm ?_;refine qe hK<|qq<|qq<|qj fun K hK=>qm ?_;refine qn ?_;simp only[List.length_map];refine qm ?_;refine qn ?_;simp only[List.length_map];refine qg ?_;refine qe hK ?_
 by_cases hlen:l.length=k.length
 ·have hc:((((l.length:Nat):Int) !=((k.length:Nat):Int)))=false:=by rw[hlen];simp
  refine qE rfl (by rw[hc]) ?_;refine ag.skip<|qq<|qq<|qj fun K hK=>qm ?_;refine qn ?_;simp only[List.length_map];refine qm ?_;refine qe hK<|ag.block<|ag.loop (fun mm fr st=>∃(i:Nat),fr.clean=⟨18,[x,y,.fn g [],gS fr 3,gS fr 4,gS fr 5,.bool false,gS fr 7,gS fr 8,gS fr 9,gS fr 10,gS fr 11,gS fr 12,gS fr 13,gS fr 14,x,.int .i64 (l.length:Nat),.int .i64 (i:Nat)],[]⟩∧Has s0.bs.length S st []∧(i+mm=l.length)∧(fU (l.drop i) (k.drop i)=fU l k)) (l.length) ?_ ?_
  ·exact⟨0,rfl,hH,by omega,rfl⟩
  rintro mm fr st ⟨i,hfr,hH,hi,ht⟩;rw[hfr];clear hfr;generalize gS fr=ee;clear fr;refine qq<|qj fun K hK=>qg ?_;refine qe hK<|qq ?_;refine ag.cond (by rfl) (fun h1=>?_) (fun h1=>?_)<;>try simp only[decide_eq_true_eq,decide_eq_false_iff_not] at h1
  ·refine ag.skip ?_
   obtain⟨p,hp⟩:∃p,l[i]?=some p:=⟨l[i]'(by omega),List.getElem?_eq_getElem _⟩
   obtain⟨q,hq⟩:∃q,k[i]?=some q:=⟨k[i]'(by omega),List.getElem?_eq_getElem _⟩
   have gN:=lu hp;have rV:=lu hq;rw[x6 hp hq] at ht;refine qq<|ag.block<|qq<|qj fun K hK=>qm ?_;refine qr fun J0 DN=>?_;refine ae.dj rfl (ev rfl) (by assumption) rfl (aa rfl _) ?_;refine qa hH fun k8 st QO hH=>?_;refine qm ?_;refine qS hH ax fun st hH=>?_;dsimp only[u2,u1,u3,u4,setMany,u5,u6,D.cells,Nat.reduceAdd,tC,b_] at hH;refine qe hK<|qq<|qj fun K hK=>qm ?_;refine qm ?_;refine qr fun Hy yN=>?_;refine ae.dj rfl (ev rfl) (by assumption) rfl (aa rfl _) ?_;refine qa hH fun k9 st QN hH=>?_;refine qS hH ax fun st hH=>?_;dsimp only[u2,u1,u3,u4,setMany,u5,u6,D.cells,Nat.reduceAdd,tC,b_] at hH;refine qe hK<|qq<|qj fun K hK=>qm ?_;refine ae.aV (m:=8) (r:=tC p) hH rfl (ev rfl) aX rfl rfl rfl (aa rfl _) ?_;refine ae.aV (m:=8) (r:=tC q) hH rfl (ev rfl) ax rfl rfl rfl (aa rfl _) ?_;refine qv (hf _ p (List.mem_of_getElem? hp) q (List.mem_of_getElem? hq)) ?_;refine qg ?_;refine qe hK ?_
   cases hs:p.same q with
   |false=>
    refine ag.cond (v:=true) (by dsimp only[Fr.ev,Fr.get,nth,V.look];rfl) (fun _=>?_) (fun h=>by cases h);rw[hs,Bool.false_and] at ht;refine qq<|qj fun K hK=>qm ?_;refine qe hK ?_;rw[←ht];refine ag.ret ⟨rx,_,rfl,rl bf hH (rfl)⟩
   |true=>
    refine ag.cond (v:=false) (by dsimp only[Fr.ev,Fr.get,nth,V.look];rfl) (fun h=>by cases h) (fun _=>?_);rw[hs,Bool.true_and] at ht;refine ag.skip ?_;have hH:=hH.drop 2;refine qj fun K hK=>qA ?_;refine qm ?_;refine qe hK ?_;exact⟨mm-1,by omega,⟨i+1,rfl,hH,by omega,ht⟩⟩
  ·refine ag.exit<|qq<|qj fun K hK=>qm ?_;refine qe hK ?_;rw[←ht];have he:i=l.length:=by omega
   rw[he,List.drop_length,show l.length=k.length from hlen,List.drop_length];refine ag.ret ⟨rx,_,rfl,rl bf hH (rfl)⟩
 ·have hc:((((l.length:Nat):Int) !=((k.length:Nat):Int)))=true:=by simp;omega
  refine qD rfl (by rw[hc]) ?_;refine qq<|qj fun K hK=>qm ?_;refine qe hK ?_
  have hn:fU l k=false:=by
   cases hs:fU l k with
   |false=>rfl
   |true=>exact absurd (sJ _ _ hs) hlen
  rw[hn];refine ag.ret ⟨rx,_,rfl,rl bf hH (rfl)⟩
theorem AW (a b c d e f g:Bool):(a &&b &&c &&d &&e &&f &&g)=(!(!a||!b||!c||!d||!e||!f) &&g):=by
 cases a<;>cases b<;>cases c<;>cases d<;>cases e<;>cases f<;>rfl
theorem zz:∀(n:Nat) (t u:Tr),t.eM≤n→n≤1048576→u.eM≤1048576→t.fa ma→u.fa ma→∀s0:St,Ev pv 261 [.agg (tC t),.agg (tC u)] s0 (.bool (t.same u)) s0
 |0,t,u,h,_,_,_,_,_=>by have:=Tr.dQ t;omega
 |n+1,t,u,h,hn,hu,hfa,hfb,s0=>by
  have KR:=Tr.dQ t;have jF:=cK t.ks;have rZ:=(Tr.d_.1 hfa).2;have S6:=Tr.dQ u;have KP:=cK u.ks;have KQ:=(Tr.d_.1 hfb).2;obtain⟨rW,gV⟩:=(Tr.d_.1 hfa).1;obtain⟨Ab,Ga⟩:=(Tr.d_.1 hfb).1;have yL:∀st:St,∀k∈t.ks,∀j∈u.ks,Ev pv 261 ([.agg (tC k),.agg (tC j)]++[]) st (.bool (k.same j)) st:=fun st k hk j hj=>zz n k j (by have:=eT hk;omega) (by omega) (by have:=eT hj;omega) (rZ k hk) (KQ j hj) st;have D3:∀st,Ev pv 277 [dD t.ks,dD u.ks,.fn 261 []] st (.bool (fU t.ks u.ks)) st:=fun st=>Eh (ew st rZ) (ew st KQ) (by omega) (by omega) yL;have heq:∀st,Ev pv 225 [t.n.rd,u.n.rd] st (.bool (decide (t.n.rs=u.n.rs))) st:=fun st=>by rw[rW,Ab];exact xb (cz st _) (cz st _) (by omega) (by omega)
  have TU:(t.n.rs==u.n.rs)=decide (t.n.rs=u.n.rs):=by rw[Bool.eq_iff_iff,beq_iff_eq,decide_eq_true_eq]
  rw[Tr.Ff,TU,AW];refine Ev.jq rfl LF rfl rfl rfl ?_;dsimp only[u3,u4,List.length,Nat.reduceSub,Nat.reduceAdd,w1,w2];obtain⟨bf,hF,hH⟩:=ri s0;generalize ai .ro s0=S at*;refine qq<|qj fun K hK=>qb hH fun k2 st hk2 hH=>?_;dsimp only[u2,u1,u3,u4,setMany,u5,u6,D.cells,Nat.reduceAdd,tC,b_,aG] at hH;refine qb hH fun k3 st Iq hH=>?_;dsimp only[u2,u1,u3,u4,setMany,u5,u6,D.cells,Nat.reduceAdd,tC,b_,aG] at hH;refine qm ?_;refine qe hK ?_;have hA:=hH;change ag _ _ _ _ _ _;refine qq ?_;generalize hK:bk _ _ _ _=K;refine ag.JU rfl ?_;refine mb.cons ?_;refine qp (o:=0) ?_;refine ae.nil ⟨rfl,?_⟩;refine mb.cons ?_;refine ae.aV (m:=7) hH rfl (ev rfl) (by exact aX) (by dsimp only[List.drop_succ_cons,List.drop_zero,List.take_succ_cons,List.take_zero,tC,b_,aG]<;>rfl) rfl rfl (aa rfl _) ?_;refine ae.nil ⟨rfl,?_⟩;refine mb.cons ?_;refine qp (o:=0) ?_;refine ae.nil ⟨rfl,?_⟩;refine mb.cons ?_;refine ae.aV (m:=7) hH rfl (ev rfl) (by exact ax) (by dsimp only[List.drop_succ_cons,List.drop_zero,List.take_succ_cons,List.take_zero,tC,b_,aG]<;>rfl) rfl rfl (aa rfl _) ?_;refine ae.nil ⟨rfl,?_⟩;refine mb.cons ?_;refine qa hH fun k5 st Gb hH=>?_;refine ae.nil ⟨rfl,?_⟩;refine mb.cons ?_;refine qa hH fun k6 st Jr hH=>?_;refine ae.nil ⟨rfl,?_⟩;refine mb.cons ?_;have hB:=hH;refine ae.b8 hH rfl (ev rfl) (ev rfl) rfl (by exact rfl) aX (by exact rfl) (.inl hF) (fun st hH=>?_);dsimp only[u1,u2] at hH;refine ae.nil ⟨by exact Bool.and_eq_true_iff.2 ⟨BZ rfl rfl rfl (hB.at bV) (hH.at bV) (hA.at ax) (by simp[refs,D.ref,Ab,aQ,dD]),rfl⟩,?_⟩;refine mb.cons ?_;refine qS hH ax fun st hH=>?_;dsimp only[u2,u1,u3,u4,setMany,u5,u6,D.cells,Nat.reduceAdd,tC,b_,aG] at hH;refine ae.nil ⟨rfl,?_⟩;refine mb.nil ?_;subst hK;refine qq<|qq<|ag.mP 51 (.bool (t.n.op !=u.n.op||t.n.mn !=u.n.mn||t.n.mx !=u.n.mx||t.n.lz !=u.n.lz||t.n.cap !=u.n.cap||!decide (t.n.rs=u.n.rs))) [] ?_ (fun ff tmp fv=>?_)
  ·refine qp (o:=0) ?_;refine ql hH aX ?_;refine qp (o:=0) ?_;refine ql hH ax ?_;refine qg ?_;refine qm ?_;refine ae.two 16 rfl (fun ba=>?_) (fun ba=>?_)
   ·refine qs ?_ (hg:=wn ba);refine qs ?_ (hg:=wn ba);refine qs ?_ (hg:=wn ba);refine qs ?_ (hg:=wn ba);refine qs ?_ (hg:=wn ba);refine qt ba ?_;refine qm ?_;refine qs ?_;refine qs ?_;refine qs ?_;refine qs ?_;refine qs ?_;refine qg ?_;refine qm ?_;refine qs ?_;refine qs ?_;refine qs ?_;refine qs ?_;refine qs ?_;refine qg ?_;refine qm ?_;refine qs ?_;refine qs ?_;refine qs ?_;refine qs ?_;refine qs ?_;refine qg ?_;refine qm ?_;refine qs ?_;refine qs ?_;refine qs ?_;refine qs ?_;refine qs ?_;refine qs ?_;refine qg ?_;refine ae.nil (dB ?_ ?_)
    ·dsimp only[aD,List.foldl,nth,u2,u1]
     all_goals(first|rfl|simp)
    ·dsimp only[Fr.ay,Fr.put,Fr.clean,Fr.ev,Fr.get,nth,V.look,u1,u2,v1,v2,v3,v4,v5,v6,v7,List.length,u3,u4,Nat.reduceSub,Nat.reduceAdd,List.map]
     all_goals(simp[ba];done)
   ·refine qp (o:=2) ?_ (hg:=wi ba);refine ql hH aX ?_ (hg:=wi ba);refine qp (o:=2) ?_ (hg:=wi ba);refine ql hH ax ?_ (hg:=wi ba);refine qg ?_ (hg:=wi ba);refine qu ba ?_;refine qm ?_;refine ae.two 23 rfl (fun dE=>?_) (fun dE=>?_)
    ·refine qs ?_ (hg:=wn dE);refine qs ?_ (hg:=wn dE);refine qs ?_ (hg:=wn dE);refine qs ?_ (hg:=wn dE);refine qs ?_ (hg:=wn dE);refine qt dE ?_;refine qm ?_;refine qs ?_;refine qs ?_;refine qs ?_;refine qs ?_;refine qs ?_;refine qg ?_;refine qm ?_;refine qs ?_;refine qs ?_;refine qs ?_;refine qs ?_;refine qs ?_;refine qg ?_;refine qm ?_;refine qs ?_;refine qs ?_;refine qs ?_;refine qs ?_;refine qs ?_;refine qs ?_;refine qg ?_;refine ae.nil (dB ?_ ?_)
     ·dsimp only[aD,List.foldl,nth,u2,u1]
      all_goals(first|rfl|simp)
     ·dsimp only[Fr.ay,Fr.put,Fr.clean,Fr.ev,Fr.get,nth,V.look,u1,u2,v1,v2,v3,v4,v5,v6,v7,List.length,u3,u4,Nat.reduceSub,Nat.reduceAdd,List.map]
      all_goals(simp[ba,dE];done)
    ·refine qp (o:=3) ?_ (hg:=wi dE);refine ql hH aX ?_ (hg:=wi dE);refine qp (o:=3) ?_ (hg:=wi dE);refine ql hH ax ?_ (hg:=wi dE);refine qg ?_ (hg:=wi dE);refine qu dE ?_;refine qm ?_;refine ae.two 30 rfl (fun lS=>?_) (fun lS=>?_)
     ·refine qs ?_ (hg:=wn lS);refine qs ?_ (hg:=wn lS);refine qs ?_ (hg:=wn lS);refine qs ?_ (hg:=wn lS);refine qs ?_ (hg:=wn lS);refine qt lS ?_;refine qm ?_;refine qs ?_;refine qs ?_;refine qs ?_;refine qs ?_;refine qs ?_;refine qg ?_;refine qm ?_;refine qs ?_;refine qs ?_;refine qs ?_;refine qs ?_;refine qs ?_;refine qs ?_;refine qg ?_;refine ae.nil (dB ?_ ?_)
      ·dsimp only[aD,List.foldl,nth,u2,u1]
       all_goals(first|rfl|simp)
      ·dsimp only[Fr.ay,Fr.put,Fr.clean,Fr.ev,Fr.get,nth,V.look,u1,u2,v1,v2,v3,v4,v5,v6,v7,List.length,u3,u4,Nat.reduceSub,Nat.reduceAdd,List.map]
       all_goals(simp[ba,dE,lS];done)
     ·refine qp (o:=4) ?_ (hg:=wi lS);refine ql hH aX ?_ (hg:=wi lS);refine qp (o:=4) ?_ (hg:=wi lS);refine ql hH ax ?_ (hg:=wi lS);refine qg ?_ (hg:=wi lS);refine qu lS ?_;refine qm ?_;refine ae.two 37 rfl (fun aW=>?_) (fun aW=>?_)
      ·refine qs ?_ (hg:=wn aW);refine qs ?_ (hg:=wn aW);refine qs ?_ (hg:=wn aW);refine qs ?_ (hg:=wn aW);refine qs ?_ (hg:=wn aW);refine qt aW ?_;refine qm ?_;refine qs ?_;refine qs ?_;refine qs ?_;refine qs ?_;refine qs ?_;refine qs ?_;refine qg ?_;refine ae.nil (dB ?_ ?_)
       ·dsimp only[aD,List.foldl,nth,u2,u1]
        all_goals(first|rfl|simp)
       ·dsimp only[Fr.ay,Fr.put,Fr.clean,Fr.ev,Fr.get,nth,V.look,u1,u2,v1,v2,v3,v4,v5,v6,v7,List.length,u3,u4,Nat.reduceSub,Nat.reduceAdd,List.map]
        all_goals(simp_all;done)
      ·refine qp (o:=5) ?_ (hg:=wi aW);refine ql hH aX ?_ (hg:=wi aW);refine qp (o:=5) ?_ (hg:=wi aW);refine ql hH ax ?_ (hg:=wi aW);refine qg ?_ (hg:=wi aW);refine qu aW ?_;refine qm ?_;refine ae.two 44 rfl (fun lf=>?_) (fun lf=>?_)
       ·refine qs ?_ (hg:=wn lf);refine qs ?_ (hg:=wn lf);refine qs ?_ (hg:=wn lf);refine qs ?_ (hg:=wn lf);refine qs ?_ (hg:=wn lf);refine qs ?_ (hg:=wn lf);refine qt lf ?_;refine ae.nil (dB ?_ ?_)
        ·dsimp only[aD,List.foldl,nth,u2,u1]
         all_goals(first|rfl|simp)
        ·dsimp only[Fr.ay,Fr.put,Fr.clean,Fr.ev,Fr.get,nth,V.look,u1,u2,v1,v2,v3,v4,v5,v6,v7,List.length,u3,u4,Nat.reduceSub,Nat.reduceAdd,List.map]
         all_goals(simp[ba,dE,lS,aW,lf];done)
       ·refine qp (o:=1) ?_ (hg:=wi lf);refine ql hH aX ?_ (hg:=wi lf);refine qp (o:=1) ?_ (hg:=wi lf);refine ql hH ax ?_ (hg:=wi lf);refine qv (heq _) ?_ (hg:=wi lf);refine qg ?_ (hg:=wi lf);refine qu lf ?_;refine ae.nil (dB ?_ ?_)
        ·dsimp only[aD,List.foldl,nth,u2,u1]
         all_goals(first|rfl|simp)
        ·dsimp only[Fr.ay,Fr.put,Fr.clean,Fr.ev,Fr.get,nth,V.look,u1,u2,v1,v2,v3,v4,v5,v6,v7,List.length,u3,u4,Nat.reduceSub,Nat.reduceAdd,List.map]
         all_goals(simp_all;done)
  dsimp only[aD,List.foldl,nth,u2,u1];show ag _ _ _ _ _ _;have hE:(!(t.n.op==u.n.op)||!(t.n.mn==u.n.mn)||!(t.n.mx==u.n.mx)||!(t.n.lz==u.n.lz)||!(t.n.cap==u.n.cap)||!decide (t.n.rs=u.n.rs))=(t.n.op !=u.n.op||t.n.mn !=u.n.mn||t.n.mx !=u.n.mx||t.n.lz !=u.n.lz||t.n.cap !=u.n.cap||!decide (t.n.rs=u.n.rs)):=rfl;rw[hE]
  cases he:(t.n.op !=u.n.op||t.n.mn !=u.n.mn||t.n.mx !=u.n.mx||t.n.lz !=u.n.lz||t.n.cap !=u.n.cap||!decide (t.n.rs=u.n.rs)) with
  |true=>
   rw[he] at fv;refine qB ?_;refine qq<|qj fun K hK=>qm ?_;refine qe hK<|ag.ret ⟨rx,_,rfl,rl bf hH (rfl)⟩
  |false=>
   rw[he] at fv;refine qC ?_;refine ag.skip<|qq<|qj fun K hK=>qp (o:=7) ?_;refine ql hH da ?_;refine qp (o:=7) ?_;refine ql hH bV ?_;refine qv (D3 _) ?_;refine qm ?_;refine qe hK<|ag.ret ⟨rx,_,rfl,rl bf hH (rfl)⟩
end Go.Proofs.YtecjacicdpejaaaGreat
namespace Go.V
variable{N:Nat} {S st:St} {H:List bj}
theorem Has.ES (A B:List bj) (h:Has N S st (A++(B++H))):Has N S st (B++(A++H)):=by
 refine h.sub (fun i=>if i<B.length then i+A.length else if i<B.length+A.length then i-B.length else i) (fun a b e=>?_) fun i e hi=>?_
 ·have e':(if a<B.length then a+A.length else if a<B.length+A.length then a-B.length else a)=(if b<B.length then b+A.length else if b<B.length+A.length then b-B.length else b):=e
  repeat' split at e'
  all_goals omega
 ·show(A++(B++H))[if i<B.length then i+A.length else if i<B.length+A.length then i-B.length else i]?=some e
  by_cases h1:i<B.length
  ·rw[if_pos h1,List.getElem?_append_right (by omega),Nat.add_sub_cancel,List.getElem?_append_left h1]
   rwa [List.getElem?_append_left h1] at hi
  ·rw[List.getElem?_append_right (by omega)] at hi
   by_cases h2:i<B.length+A.length
   ·rw[if_neg h1,if_pos h2,List.getElem?_append_left (by omega)]
    rwa [List.getElem?_append_left (by omega)] at hi
   ·rw[if_neg h1,if_neg h2,List.getElem?_append_right (by omega),List.getElem?_append_right (by omega)];rw[List.getElem?_append_right (by omega)] at hi;rw[←hi];congr 1;omega
theorem Has.db {j:Nat} {e:bj} (h:Has N S st (e::H)) (hj:j<H.length):Has N S st (H.set j e):=
 Has.back (h.erase (j+1)) hj
theorem Has.GZ {j k:Nat} {e:bj} (h:Has N S st H) (hj:H[j]?=some e) (hk:e.K k):k+1≤st.bs.length:=((h.ok j e hj).2 k hk).2
theorem Has.clear {P:Pv} {j:Nat} {x:D} {s:Nat} {es:List (List D)} {t e:TypeId} {z:List D} (h:Has N S st H) (hj:H[j]?=some (.aE x s es)) (ht:P.cw t=some (.slice e)) (hz:cY P e=some z) (jM:z.length=s) (hr:refs z=0):
  ∃ah,iW P [t] x st=some (.tup [],ah)∧Has N S ah (H.set j (.aE x s (List.replicate es.length z))):=by
 have uQ:=(h.ok j _ hj).2;have hown:=h.own hj
 have hjl:j<H.length:=by
  rcases Nat.lt_or_ge j H.length with h'|h'
  ·exact h'
  ·rw[List.getElem?_eq_none h'] at hj;cases hj
 cases hown with
 |nul=>
  refine⟨st,by simp only[iW,ht],?_⟩
  have:H.set j (.aE .nul s (List.replicate ([]:List (List D)).length z))=H:=by
   refine List.ext_getElem? fun i=>?_
   by_cases hi:i=j
   ·subst hi;rw[List.getElem?_set_self hjl,hj];rfl
   ·rw[List.getElem?_set_ne (fun e=>hi e.symm)]
  rw[this];exact h
 |win k aq off es c hm hle hc he=>
  have hk:=uQ k (by simp only[bj.aE,D.ref])
  have Jl:∀n,refs (Go.V.db n z)=0:=by
   intro n;unfold Go.V.db
   induction n with
   |zero=>rfl
   |succ n ih=>
    rw[List.replicate_succ,List.flatten_cons]
    have uS:∀(a b:List D),refs a=0→refs b=0→refs (a++b)=0:=by
     intro a
     induction a with
     |nil=>intro b _ hb;exact hb
     |cons d a B9=>
      intro b ha hb;simp only[refs,List.cons_append] at ha⊢;have:=B9 b (by omega) hb;omega
    exact uS _ _ hr ih
  have rL:(Go.V.db es.length z).length=es.length*s:=by
   unfold Go.V.db;rw[bY (s:=s) (fun e he=>by rw[(List.mem_replicate.1 he).2];exact jM),List.length_replicate]
  have hw:st.wr k aq off (Go.V.db es.length z)=some ⟨st.bs.set k (.mem aq true (c.take off++Go.V.db es.length z++c.drop (off+(Go.V.db es.length z).length))),st.flr,st.ro⟩:=iQ hm (by omega) (fM h hk.1 (.inr (Jl _)));refine⟨_,by simp only[iW,ht,hz,Option.bind_some];rw[if_pos jM,hw];rfl,?_⟩;refine h.zm hj (fun n hn hne=>?_) (by simp) rfl rfl ?_ (fun n hn=>.inl hn) fun n hn=>?_
  ·simp only;rw[List.getElem?_set_ne (fun e=>hne (by simp only[bj.aE,D.ref];omega))]
  ·have wT:∀e'∈List.replicate es.length z,e'.length=s:=fun e' lD=>by rw[(List.mem_replicate.1 lD).2];exact jM
   have:=fT.win (st:=⟨st.bs.set k (.mem aq true (c.take off++Go.V.db es.length z++c.drop (off+(Go.V.db es.length z).length))),st.flr,st.ro⟩) (s:=s) k aq off (List.replicate es.length z) (c.take off++Go.V.db es.length z++c.drop (off+(Go.V.db es.length z).length))
    (by simp only;rw[List.getElem?_set_self hk.2]) (by rw[List.length_replicate];simp;omega) ?_ wT
   ·rw[List.length_replicate] at this;exact this
   ·rw[List.length_replicate,List.append_assoc,List.drop_append_of_le_length (by simp;omega),List.drop_take,Nat.sub_self,List.take_zero,List.nil_append,←rL,List.take_left']
    ·rfl
    ·rfl
  ·simp only[bj.aE,D.ref] at hn;have:n=k:=by omega
   subst this
   simpa using hk.2
variable{P:Pv} {ops:Array Oper} {rest:List Oper} {fr aA:Fr} {Q:Fr→St→Prop} {ty:TypeId} {pp:String} {a:Array Edge} {g:Option (Nat×Bool)} {dst:Nat}
end Go.V
