/-
 The code of a repeat. %deep
-/
import Derived.Test.YtbdilgkfnacahaaXGQd
import Derived.Test.YtbdilgkfnacahaaXGPh
import Derived.Test.YtbdilgkfnacahaaXGM3
import Derived.Test.YtbdilgkfnacahaaXGJf
import Derived.Test.YtbdilgkfnacahaaXGUe
set_option maxRecDepth 100000
set_option maxHeartbeats 4000000
set_option linter.unusedSimpArgs false
set_option linter.unusedVariables false
namespace Go.Proofs.Ytbdilgkfnacahaa
open Go.V Go
def ab (fr:Go.V.Fr) (k:Nat):Go.V.D:=Go.V.nth .bA fr.loc k
theorem pr {c:Nat→List bC} (hc:∀b,(c b).length=0) (z:Nat):∀k b,g_ c z k b=[]
 |0,_=>rfl
 |k+1,b=>by rw[g_,pr hc z k,List.length_eq_zero_iff.1 (hc b)];rfl
theorem yL (s o:Nat) (lz:Bool):∃x y:Int,qL s o lz=ej 2 x y []:=by
 cases lz
 ·exact⟨_,_,rfl⟩
 ·exact⟨_,_,rfl⟩
theorem xE {l:List ec} (AY:l.length≤1048576) {m:Nat} (ih:∀t:Tr,t.flat.length≤m→oU l t) {n:ec} {t:Tr} (fm:n.op=5) (RF:t.flat.length≤m) (kv:tv n 1) (o5:t.ok) {N k:Nat} {S s0:St} {H:List cz} {nd zd ed:D} {code:List bC} {Z E:List Int} {at_:Nat} (hF:S.flr≤N) (vw:gq nd 7 (l.map bj)) (jb:fp l at_ (n::t.flat)) (hsz:fp Z (at_+1) t.zs) (yy:fp E (at_+1) (t.es (at_+1))) (hb:code.length+bW n t.sz 1≤1000000) (hM:Kp N S s0 k nd zd ed Z E H code):
  ∃r ai,Ev pv 62 [.ptr k 0 0,.int .i64 (at_:Nat)] s0 r ai∧r=.tup []∧Kp N S ai k nd zd ed Z E H (code++uP n (a8 t) t.sz code.length):=by
 obtain⟨cd,dk,hH⟩:=hM;have hle:=jb.le (by simp);simp only[List.length_cons] at hle;have hn:=jb.head;have jb:=jb.tail;have gI:=j7 hn;have kP:=cW (wg hsz)
 have yA:0≤n.mn∧n.mn≤30∧(n.mx=-1∨(n.mn≤n.mx∧n.mx≤30)):=by
  obtain⟨_,hq⟩:=kv;omega
 have Er:bW n t.sz 1=if n.mx=-1 then n.mn.toNat*t.sz+t.sz+2 else n.mn.toNat*t.sz+(n.mx.toNat-n.mn.toNat)*(t.sz+1):=by unfold bW;rw[if_neg (by omega),if_neg (by omega),if_neg (by omega),if_pos fm]
 rw[Er] at hb;clear Er;have x0:=fun b=>dF t b o5;have hb1:code.length+n.mn.toNat*t.sz≤1000000:=by split at hb<;>omega
 refine Ev.mP rfl PY rfl rfl rfl ?_;dsimp only[u3,u4,List.length,Nat.reduceSub,Nat.reduceAdd,w1,w2];change af _ _ _ _ s0 _;have hc:=vw.arg N S;refine qq<|qj fun K hK=>qm ?_;refine qg ?_;refine qp (o:=1) ?_;refine ql hH aB ?_;refine qm ?_;refine qr fun Ny Je=>?_;refine ae.dt rfl (ev rfl) (by assumption) rfl (by dsimp only[Fr.put,u1,u2]<;>rfl) ?_;refine qm ?_;refine qA ?_;refine qa hH fun k4 st M3 hH=>?_;refine qS hH aB fun st hH=>?_;dsimp only[u2,u1,u3,u4,setMany,u5,u6,D.cells,Nat.reduceAdd,aL,bj,aq,jA] at hH;refine qm ?_;refine qe hK ?_;have hH:Has N S st (.box k (.mem 0 false [cd,nd,zd,ed])::.deep dk cd 4 (code.map aL)::.aT zd 1 (Z.map aq)::.aT ed 1 (E.map aq)::.box k4 (.mem 0 false (bj n))::H):=hH.DM;refine qq<|qq<|qj fun K hK=>qm ?_;refine qg ?_;refine qp (o:=2) ?_;refine ql hH aB ?_;refine qm ?_;refine qi hH ez fun MS Em=>?_;refine qo hH ez ?_;refine qg ?_;refine qe hK ?_;have Vr:=kZ x0 n.mn.toNat code.length;refine af.merge (fun fr st=>∃(cd:D) (dk:Nat→Prop) (tmp:List (Nat×D)),fr=⟨78,[.ptr k 0 0,.int .i64 (at_:Nat),ab fr 2,ab fr 3,.ptr k4 0 0,.int .i64 ((at_+1:Nat):Int),ab fr 6,ab fr 7,ab fr 8,ab fr 9,ab fr 10,ab fr 11,ab fr 12,ab fr 13,ab fr 14,ab fr 15,ab fr 16,ab fr 17,ab fr 18,ab fr 19,ab fr 20,ab fr 21,ab fr 22,ab fr 23,ab fr 24,ab fr 25,ab fr 26,ab fr 27,ab fr 28,ab fr 29,ab fr 30,ab fr 31,ab fr 32,ab fr 33,ab fr 34,ab fr 35,ab fr 36,ab fr 37,ab fr 38,ab fr 39,ab fr 40,ab fr 41,ab fr 42,ab fr 43,ab fr 44,ab fr 45,ab fr 46,ab fr 47,ab fr 48,ab fr 49,ab fr 50,ab fr 51,ab fr 52,ab fr 53,ab fr 54,ab fr 55,ab fr 56,ab fr 57,ab fr 58,ab fr 59,ab fr 60,ab fr 61,ab fr 62,ab fr 63,ab fr 64,ab fr 65,ab fr 66,ab fr 67,ab fr 68,ab fr 69,ab fr 70,ab fr 71,ab fr 72,ab fr 73,ab fr 74,ab fr 75,ab fr 76,ab fr 77],tmp⟩∧Has N S st (.box k (.mem 0 false [cd,nd,zd,ed])::.deep dk cd 4 ((code++g_ (a8 t) t.sz n.mn.toNat code.length).map aL)::.aT zd 1 (Z.map aq)::.aT ed 1 (E.map aq)::.box k4 (.mem 0 false (bj n))::H)) ?_ ?_
 ·refine af.cond (by rfl) (fun hz=>?_) (fun hz=>?_)<;>try simp only[decide_eq_true_eq,decide_eq_false_iff_not] at hz
  ·refine qq<|qj fun K hK=>qp (o:=2) ?_;refine ql hH iZ ?_;refine qm ?_;refine qe hK<|af.block<|af.loop (fun mm fr st=>∃(i:Nat) (cd:D) (dk:Nat→Prop) (a_:List bC),fr.clean=⟨78,[.ptr k 0 0,.int .i64 (at_:Nat),ab fr 2,ab fr 3,.ptr k4 0 0,.int .i64 ((at_+1:Nat):Int),ab fr 6,ab fr 7,ab fr 8,ab fr 9,ab fr 10,ab fr 11,ab fr 12,ab fr 13,ab fr 14,ab fr 15,ab fr 16,ab fr 17,ab fr 18,ab fr 19,ab fr 20,ab fr 21,ab fr 22,ab fr 23,ab fr 24,ab fr 25,ab fr 26,ab fr 27,.int .i64 n.mn,.int .i64 (i:Nat),ab fr 30,ab fr 31,ab fr 32,ab fr 33,ab fr 34,ab fr 35,ab fr 36,ab fr 37,ab fr 38,ab fr 39,ab fr 40,ab fr 41,ab fr 42,ab fr 43,ab fr 44,ab fr 45,ab fr 46,ab fr 47,ab fr 48,ab fr 49,ab fr 50,ab fr 51,ab fr 52,ab fr 53,ab fr 54,ab fr 55,ab fr 56,ab fr 57,ab fr 58,ab fr 59,ab fr 60,ab fr 61,ab fr 62,ab fr 63,ab fr 64,ab fr 65,ab fr 66,ab fr 67,ab fr 68,ab fr 69,ab fr 70,ab fr 71,ab fr 72,ab fr 73,ab fr 74,ab fr 75,ab fr 76,ab fr 77],[]⟩∧Has N S st (.box k (.mem 0 false [cd,nd,zd,ed])::.deep dk cd 4 (a_.map aL)::.aT zd 1 (Z.map aq)::.aT ed 1 (E.map aq)::.box k4 (.mem 0 false (bj n))::H)∧(i+mm=n.mn.toNat)∧(a_++g_ (a8 t) t.sz mm a_.length=code++g_ (a8 t) t.sz n.mn.toNat code.length)∧(a_.length+mm*t.sz=code.length+n.mn.toNat*t.sz)) (n.mn.toNat) ?_ ?_
   ·exact⟨0,cd,dk,code,rfl,hH,by omega,rfl,rfl⟩
   rintro mm fr st ⟨i,cd,dk,a_,hfr,hH,hi,vE,hcl⟩;rw[hfr];clear hfr;generalize ab fr=ee;clear fr;refine qq<|qj fun K hK=>qg ?_;refine qe hK ?_
   cases mm with
   |zero=>
    have gK:decide ((i:Int)<n.mn)=false:=by rw[decide_eq_false_iff_not];omega
    refine qq<|qE rfl (by rw[gK]) ?_;simp only[g_,List.append_nil] at vE;rw[vE] at hH;refine af.exit ?_;exact⟨cd,dk,_,rfl,hH⟩
   |succ mm=>
    have gK:decide ((i:Int)<n.mn)=true:=by rw[decide_eq_true_eq];omega
    rw[Nat.succ_mul] at hcl;refine qq<|qD rfl (by rw[gK]) ?_;refine af.skip<|qq<|af.block<|qj fun K hK=>qm ?_;refine qm ?_;obtain⟨_,st,aS,rfl,cd,dk,hH⟩:=ih t (by omega) hF vw jb hsz yy o5 (by omega) ⟨cd,dk,hH⟩;refine qv aS ?_;refine qe hK<|qj fun K hK=>qA ?_;refine qm ?_;refine qe hK ?_;exact⟨mm,by omega,⟨i+1,cd,dk,a_++a8 t a_.length,rfl,hH,by omega,by rw[List.length_append,x0,List.append_assoc];exact vE,by rw[List.length_append,x0];omega⟩⟩
  ·refine af.skip ?_;have hz0:t.sz=0:=by omega
   have A2:g_ (a8 t) t.sz n.mn.toNat code.length=[]:=pr (fun b=>by rw[x0,hz0]) _ _ _;exact⟨cd,dk,_,rfl,(by rw[A2,List.append_nil];exact hH)⟩
 ·rintro fr st ⟨cd,dk,tmp,hfr,hH⟩;rw[hfr];clear hfr;generalize ab fr=ee;clear fr;have M5:(code++g_ (a8 t) t.sz n.mn.toNat code.length).length=code.length+n.mn.toNat*t.sz:=by rw[List.length_append,Vr]
  unfold uP;rw[←M5];rw[←M5] at hb1
  have hb2:if n.mx=-1 then(code++g_ (a8 t) t.sz n.mn.toNat code.length).length+t.sz+2≤1000000 else(code++g_ (a8 t) t.sz n.mn.toNat code.length).length+(n.mx.toNat-n.mn.toNat)*(t.sz+1)≤1000000:=by
   rw[M5];split
   ·rename_i h;rw[if_pos h] at hb;omega
   ·rename_i h;rw[if_neg h] at hb;omega
  have Mk:∀X:List bC,code++(g_ (a8 t) t.sz n.mn.toNat code.length++X)=code++g_ (a8 t) t.sz n.mn.toNat code.length++X:=fun X=>by rw[List.append_assoc]
  simp only[apply_ite (fun X:List bC=>code++X),Mk];clear Mk M5;generalize code++g_ (a8 t) t.sz n.mn.toNat code.length=cR at*;refine qq<|qq<|qj fun K hK=>qp (o:=3) ?_;refine ql hH iZ ?_;refine qg ?_;refine qe hK ?_
  by_cases yW:n.mx=-1
  ·rw[if_pos yW];rw[if_pos yW] at hb2;refine qD rfl (by simp[yW]) ?_;refine qq<|qj fun K hK=>qm ?_;refine ae.go (d:=.agg [.int .i64 2,.int .i64 0,.int .i64 0,.nul]) (st1:=_) rfl rfl rfl (by dsimp only[Fr.put,u1,u2]<;>rfl) ?_;have hH:=hH.fx 2;obtain⟨_,st,aS,rfl,cd,dk,hH⟩:=fM (rs:=[]) hF (by omega) hH;refine qv aS ?_;refine qm ?_;refine qe hK ?_;have lv:(cR++[ej 2 0 0 []]).length=cR.length+1:=by simp
   refine qq<|qj fun K hK=>qm ?_;refine qm ?_;obtain⟨_,st,aS,rfl,cd,dk,hH⟩:=ih t (by omega) hF vw jb hsz yy o5 (by omega) ⟨cd,dk,hH⟩;refine qv aS ?_;refine qe hK ?_;rw[lv] at hH;have mr:(cR++[ej 2 0 0 []]++a8 t (cR.length+1)).length=cR.length+1+t.sz:=by rw[List.length_append,lv,x0]
   refine qq<|qj fun K hK=>qm ?_;refine qm ?_;refine ae.go (d:=.agg [.int .i64 3,.int .i64 (cR.length:Nat),.int .i64 0,.nul]) (st1:=_) rfl rfl rfl (by dsimp only[Fr.put,u1,u2]<;>rfl) ?_;have hH:=hH.fx 2;obtain⟨_,st,aS,rfl,cd,dk,hH⟩:=fM (rs:=[]) hF (by omega) hH;refine qv aS ?_;refine qe hK ?_
   have JA:(cR++[ej 2 0 0 []]++a8 t (cR.length+1)++[ej 3 (cR.length:Nat) 0 []])[cR.length]?=some (ej 2 0 0 []):=by
    rw[List.append_assoc,List.append_assoc];exact nG _ _ _
   have zZ:(cR++[ej 2 0 0 []]++a8 t (cR.length+1)++[ej 3 (cR.length:Nat) 0 []]).length=cR.length+t.sz+2:=by rw[List.length_append,mr];simp only[List.length_cons,List.length_nil];omega
   have Ed:(cR++[ej 2 0 0 []]++a8 t (cR.length+1)++[ej 3 (cR.length:Nat) 0 []]).set cR.length (qL cR.length (cR.length+t.sz+2) n.lz)=cR++(qL cR.length (cR.length+t.sz+2) n.lz::(a8 t (cR.length+1)++[pK cR.length])):=by
    rw[List.append_assoc,List.append_assoc];exact nz _ _ _ _
   generalize cR++[ej 2 0 0 []]++a8 t (cR.length+1)++[ej 3 (cR.length:Nat) 0 []]=Ap at*;refine qq<|qj fun K hK=>qm ?_;refine qm ?_;refine qm ?_;refine qg ?_;refine qp (o:=0) ?_;refine ql hH aB ?_;refine ae.yj hH rfl (ev rfl) (by exact bu) rfl (by dsimp only[Fr.put,u1,u2]<;>rfl) ?_;simp only[List.length_map,List.length_append,List.length_cons,List.length_nil];refine qp (o:=4) ?_;refine ql hH iZ ?_;obtain⟨_,st,aS,rfl,hH⟩:=nN (at_:=cR.length) (over:=Ap.length) (lz:=n.lz) JA (by omega) hH;refine qv aS ?_;refine qe hK ?_;rw[zZ,Ed] at hH;refine af.ret ⟨rx,_,_,_,rfl,rfl,?_⟩;exact⟨rfl,cd,dk,hH.erase 4⟩
  ·rw[if_neg yW];rw[if_neg yW] at hb2;refine qE rfl (by simp[yW]) ?_;refine af.skip ?_;obtain⟨a,ha⟩:∃a:Nat,n.mn=(a:Int):=Int.eq_ofNat_of_zero_le yA.1;obtain⟨b,Mj⟩:∃b:Nat,n.mx=(b:Int):=Int.eq_ofNat_of_zero_le (by omega);have Pc:n.mx.toNat-n.mn.toNat=b-a:=by omega
   rw[Pc] at hb2⊢;refine qq<|qj fun K hK=>qm ?_;refine qe hK<|qq<|qq<|qj fun K hK=>qp (o:=3) ?_;refine ql hH iZ ?_;refine qp (o:=2) ?_;refine ql hH iZ ?_;refine ae.gj (z:=((b-a:Nat):Int)) rfl (ev rfl) (ev rfl) (by(try simp only[List.length_reverse,List.length_cons,List.length_nil,List.length_append,List.length_map,List.length_set]);rw[wrap_i64 (by omega) (by omega)]<;>omega) (by dsimp only[Fr.put,u1,u2]<;>rfl) ?_;refine qm ?_;refine qe hK ?_;have hH:Has N S st (.box k (.mem 0 false [cd,nd,zd,ed])::.deep dk cd 4 (cR.map aL)::.aT zd 1 (Z.map aq)::.aT ed 1 (E.map aq)::.aT .nul 1 (([]:List Nat).map jA)::.box k4 (.mem 0 false (bj n))::H):=(hH.fx 1).DM;refine af.block<|af.loop (fun mm fr st=>∃(i:Nat) (cd jd:D) (dk:Nat→Prop) (a_:List bC) (js:List Nat),fr.clean=⟨78,[.ptr k 0 0,.int .i64 (at_:Nat),ab fr 2,ab fr 3,.ptr k4 0 0,.int .i64 ((at_+1:Nat):Int),ab fr 6,jd,ab fr 8,ab fr 9,ab fr 10,ab fr 11,ab fr 12,ab fr 13,ab fr 14,ab fr 15,ab fr 16,ab fr 17,ab fr 18,ab fr 19,ab fr 20,ab fr 21,ab fr 22,ab fr 23,ab fr 24,ab fr 25,ab fr 26,ab fr 27,ab fr 28,ab fr 29,ab fr 30,ab fr 31,ab fr 32,ab fr 33,ab fr 34,ab fr 35,ab fr 36,ab fr 37,ab fr 38,ab fr 39,ab fr 40,ab fr 41,ab fr 42,ab fr 43,ab fr 44,ab fr 45,ab fr 46,ab fr 47,ab fr 48,ab fr 49,ab fr 50,ab fr 51,ab fr 52,ab fr 53,ab fr 54,ab fr 55,ab fr 56,ab fr 57,ab fr 58,ab fr 59,ab fr 60,ab fr 61,.int .i64 ((b-a:Nat):Int),.int .i64 (i:Nat),ab fr 64,ab fr 65,ab fr 66,ab fr 67,ab fr 68,ab fr 69,ab fr 70,ab fr 71,ab fr 72,ab fr 73,ab fr 74,ab fr 75,ab fr 76,ab fr 77],[]⟩∧Has N S st (.box k (.mem 0 false [cd,nd,zd,ed])::.deep dk cd 4 (a_.map aL)::.aT zd 1 (Z.map aq)::.aT ed 1 (E.map aq)::.aT jd 1 (js.map jA)::.box k4 (.mem 0 false (bj n))::H)∧(i+mm=b-a)∧(a_++gA (fun _=>ej 2 0 0 []) (a8 t) t.sz mm a_.length=cR++gA (fun _=>ej 2 0 0 []) (a8 t) t.sz (b-a) cR.length)∧(js++tm t.sz mm a_.length=tm t.sz (b-a) cR.length)∧(a_.length+mm*(t.sz+1)=cR.length+(b-a)*(t.sz+1))∧(js.length=i)) (b-a) ?_ ?_
   ·exact⟨0,cd,.nul,dk,cR,[],rfl,hH,by omega,rfl,rfl,rfl,rfl⟩
   rintro mm fr st ⟨i,cd,jd,dk,a_,js,hfr,hH,hi,gd,hjs,hcl,ng⟩;rw[hfr];clear hfr;generalize ab fr=ee;clear fr;refine qq<|qj fun K hK=>qg ?_;refine qe hK ?_
   cases mm with
   |zero=>
    have gK:decide ((i:Int)<((b-a:Nat):Int))=false:=by rw[decide_eq_false_iff_not];omega
    refine qq<|qE rfl (by rw[gK]) ?_;refine af.exit<|qq<|qj fun K hK=>qm ?_;refine qn ?_ (hR:=hH.rows iZ);simp only[List.length_map];refine qm ?_;refine qe hK ?_;simp only[gA,tm,List.append_nil] at gd hjs;rw[gd] at hH;obtain⟨Eo,Jc⟩:=l9 (sp:=fun s=>qL s (cR.length+(b-a)*(t.sz+1)) n.lz) x0 (i0:=ej 2 0 0 []) (b-a) cR.length cR [] rfl;simp only[List.append_nil] at Eo Jc;have Ps:(cR++gA (fun _=>ej 2 0 0 []) (a8 t) t.sz (b-a) cR.length).length=cR.length+(b-a)*(t.sz+1):=by rw[List.length_append,nZ x0]
    rw[←hjs] at Eo Jc;rw[←Eo];clear Eo gd;generalize cR++gA (fun _=>ej 2 0 0 []) (a8 t) t.sz (b-a) cR.length=C0 at*;generalize cR.length+(b-a)*(t.sz+1)=e at*;refine af.block<|af.loop (fun mm fr st=>∃(q:Nat) (C:List bC),fr.clean=⟨78,[.ptr k 0 0,ab fr 1,ab fr 2,ab fr 3,.ptr k4 0 0,ab fr 5,ab fr 6,ab fr 7,ab fr 8,ab fr 9,ab fr 10,ab fr 11,ab fr 12,ab fr 13,ab fr 14,ab fr 15,ab fr 16,ab fr 17,ab fr 18,ab fr 19,ab fr 20,ab fr 21,ab fr 22,ab fr 23,ab fr 24,ab fr 25,ab fr 26,ab fr 27,ab fr 28,ab fr 29,ab fr 30,ab fr 31,ab fr 32,ab fr 33,ab fr 34,ab fr 35,ab fr 36,ab fr 37,ab fr 38,ab fr 39,ab fr 40,ab fr 41,ab fr 42,ab fr 43,ab fr 44,ab fr 45,ab fr 46,ab fr 47,ab fr 48,ab fr 49,ab fr 50,ab fr 51,ab fr 52,ab fr 53,ab fr 54,ab fr 55,ab fr 56,ab fr 57,ab fr 58,ab fr 59,ab fr 60,ab fr 61,ab fr 62,ab fr 63,ab fr 64,ab fr 65,ab fr 66,ab fr 67,ab fr 68,ab fr 69,ab fr 70,ab fr 71,ab fr 72,ab fr 73,ab fr 74,jd,.int .i64 (js.length:Nat),.int .i64 (q:Nat)],[]⟩∧Has N S st (.box k (.mem 0 false [cd,nd,zd,ed])::.deep dk cd 4 (C.map aL)::.aT zd 1 (Z.map aq)::.aT ed 1 (E.map aq)::.aT jd 1 (js.map jA)::.box k4 (.mem 0 false (bj n))::H)∧(q+mm=js.length)∧(gw (fun s=>qL s e n.lz) C (js.drop q)=gw (fun s=>qL s e n.lz) C0 js)∧(∀p∈js,∃x y:Int,C[p]?=some (ej 2 x y []))∧(C.length=e)) (js.length) ?_ ?_
    ·exact⟨0,C0,rfl,hH,by omega,rfl,fun p hp=>⟨_,_,Jc p hp⟩,Ps⟩
    rintro mm fr st ⟨q,C,hfr,hH,hq,c9,jk,Ms⟩;rw[hfr];clear hfr;generalize ab fr=ee;clear fr;refine qq<|qj fun K hK=>qg ?_;refine qe hK<|qq ?_;refine af.cond (by rfl) (fun hlt=>?_) (fun hlt=>?_)<;>try simp only[decide_eq_true_eq,decide_eq_false_iff_not] at hlt
    ·refine af.skip ?_;have Ke:q<js.length:=by omega
     obtain⟨p,hp⟩:∃p,js[q]?=some p:=⟨js[q]'Ke,List.getElem?_eq_getElem _⟩
     obtain⟨x,y,hv⟩:=jk p (List.mem_of_getElem? hp);have gI:=tz hp;have ji:=cn hv;refine qq<|af.block<|qq<|qj fun K hK=>qi hH iZ fun Nt I'=>?_;refine qo hH iZ ?_;refine qm ?_;refine qe hK<|qj fun K hK=>qm ?_;refine qm ?_;refine qm ?_;refine qg ?_;refine qp (o:=0) ?_;refine ql hH aB ?_;refine ae.yj hH rfl (ev rfl) (by exact bu) rfl (ag rfl _) ?_;simp only[List.length_map];refine qp (o:=4) ?_;refine ql hH qz ?_;obtain⟨_,st,aS,rfl,hH⟩:=nN (at_:=p) (over:=C.length) (lz:=n.lz) hv (by omega) hH;refine qv aS ?_;refine qe hK<|qj fun K hK=>qA ?_;refine qm ?_;refine qe hK ?_
     have x8:js.drop q=p::js.drop (q+1):=by
      rw[List.drop_eq_getElem_cons Ke]
      congr 1
      exact Option.some.inj ((List.getElem?_eq_getElem _).symm.trans hp)
     refine⟨mm-1,by omega,⟨q+1,C.set p (qL p e n.lz),rfl,(by rw[Ms] at hH;exact hH),by omega,by rw[x8] at c9;exact c9,?_,by rw[List.length_set];exact Ms⟩⟩;intro p' rD
     by_cases hpp:p'=p
     ·subst hpp;obtain⟨x',y',Lk⟩:=yL p' e n.lz;exact⟨x',y',by rw[List.getElem?_set_self ji,Lk]⟩
     ·rw[List.getElem?_set_ne (fun e=>hpp e.symm)];exact jk p' rD
    ·refine af.exit ?_;refine⟨fun i h=>(by cases h),_,_,_,rfl,rfl,?_⟩;have Ei:q=js.length:=by omega
     rw[Ei,List.drop_length] at c9;have c9:C=gw (fun s=>qL s e n.lz) C0 js:=c9;rw[←c9];exact⟨rfl,cd,dk,(hH.erase 5).erase 4⟩
   |succ mm=>
    have gK:decide ((i:Int)<((b-a:Nat):Int))=true:=by rw[decide_eq_true_eq];omega
    rw[Nat.succ_mul] at hcl;refine qq<|qD rfl (by rw[gK]) ?_;refine af.skip<|qq<|af.block<|qq<|qj fun K hK=>qm ?_;refine qm ?_;refine ae.go (d:=.agg [.int .i64 2,.int .i64 0,.int .i64 0,.nul]) (st1:=_) rfl rfl rfl (by dsimp only[Fr.put,u1,u2]<;>rfl) ?_;have hH:=hH.fx 2;obtain⟨_,st,aS,rfl,cd,dk,hH⟩:=fM (rs:=[]) hF (by omega) hH;refine qv aS ?_;refine qh (s:=1) (vs:=[_]) hH fun Wt st UM hH=>?_;dsimp only[u2,u1,u3,u4,setMany,u5,u6,D.cells,Nat.reduceAdd,aL,bj,aq,jA] at hH;refine qP hH qz (hH.rows aB) fun Sl st hH=>?_;dsimp only[u2,u1,u3,u4,setMany,u5,u6,D.cells,Nat.reduceAdd,aL,bj,aq,jA] at hH;refine qm ?_;refine qe hK ?_;have hH:=hH.drop 1;have lv:(a_++[ej 2 0 0 []]).length=a_.length+1:=by simp
    refine qj fun K hK=>qm ?_;refine qm ?_;obtain⟨_,st,aS,rfl,cd,dk,hH⟩:=ih t (by omega) hF vw jb hsz yy o5 (by omega) ⟨cd,dk,hH⟩;refine qv aS ?_;refine qe hK ?_;rw[lv] at hH;have mr:(a_++[ej 2 0 0 []]++a8 t (a_.length+1)).length=a_.length+1+t.sz:=by rw[List.length_append,lv,x0]
    refine qj fun K hK=>qA ?_;refine qm ?_;refine qe hK ?_;exact⟨mm,by omega,⟨i+1,cd,Sl,dk,a_++[ej 2 0 0 []]++a8 t (a_.length+1),js++[a_.length],rfl,(by rw[List.map_append (f:=jA)];exact hH),by omega,by rw[mr,←gd];simp only[gA,List.append_assoc,List.cons_append,List.nil_append],by rw[mr,←hjs];simp only[tm,List.append_assoc,List.cons_append,List.nil_append],by rw[mr];omega,by rw[List.length_append,ng];rfl⟩⟩
def bL (fr:Go.V.Fr) (k:Nat):Go.V.D:=Go.V.nth .bA fr.loc k
theorem uj (t:Tr):jQ (.cons t .nil)=a8 t:=by
 funext b;simp only[jQ,List.append_nil]
theorem uK (t:Tr):(bU.cons t .nil).sz=t.sz:=by simp only[bU.sz,Nat.add_zero]
theorem DX {l:List ec} (AY:l.length≤1048576) (hi:∀n∈l,n.ok):∀(m:Nat) (t:Tr),t.flat.length≤m→oU l t:=by
 intro m
 induction m with
 |zero=>intro t h;have:=t.iz;omega
 |succ m ih=>
  rintro⟨n,ks⟩ hm N k S s0 H nd zd ed code Z E at_ hF vw jb hsz yy dz hb hM;have W6:=hM;obtain⟨cd,dk,hH⟩:=hM;simp only[Tr.ok] at dz;obtain⟨kv,sm⟩:=dz;simp only[Tr.flat,List.length_cons] at hm;have hle:=jb.le (by simp[Tr.flat]);simp only[Tr.flat] at jb hle;simp only[List.length_cons] at hle;simp only[Tr.zs] at hsz;simp only[Tr.es] at yy;simp only[Tr.sz] at hb;have hn:=jb.head;have LN:=hi n (List.mem_of_getElem? hn);have tO:=LN.1.arg N S;have zI:=LN.2.1;have gI:=j7 hn;have Kh:=kv.1;have nE:=bU.og ks;have Vg:=fun b=>oP ks b sm;refine Ev.mP rfl P' rfl rfl rfl ?_;dsimp only[u3,u4,List.length,Nat.reduceSub,Nat.reduceAdd,w1,w2];change af _ _ _ _ s0 _;have hc:=vw.arg N S;refine qq<|qj fun K hK=>qm ?_;refine qg ?_;refine qp (o:=1) ?_;refine ql hH aB ?_;refine qm ?_;refine qr fun Q4 LJ=>?_;refine ae.dt rfl (ev rfl) (by assumption) rfl (by dsimp only[Fr.put,u1,u2]<;>rfl) ?_;refine qa hH fun k4 st M3 hH=>?_;refine qS hH aB fun st hH=>?_;dsimp only[u2,u1,u3,u4,setMany,u5,u6,D.cells,Nat.reduceAdd,aL,bj,aq,jA] at hH;refine qe hK ?_;have hH:Has N S st (.box k (.mem 0 false [cd,nd,zd,ed])::.deep dk cd 4 (code.map aL)::.aT zd 1 (Z.map aq)::.aT ed 1 (E.map aq)::.box k4 (.mem 0 false (bj n))::H):=hH.DM;refine qq<|qj fun K hK=>qp (o:=0) ?_;refine ql hH iZ ?_;refine qe hK<|af.block<|qq<|qj fun K hK=>qg ?_;refine qm ?_;refine qe hK ?_;refine af.cond (by rfl) (fun q2=>?_) (fun q2=>?_)<;>try simp only[beq_iff_eq,beq_eq_false_iff_ne,ne_eq] at q2
  ·have vD:a8 (.mk n ks) code.length=[ej 1 0 0 n.rs]:=by simp only[a8,if_pos q2]
   rw[vD];have hz:bW n ks.sz ks.len=1:=by unfold bW;rw[if_pos (.inl q2)]
   have hH:=hH.fx 2;refine qj fun K hK=>qm ?_;refine qp (o:=1) ?_;refine ql hH qz ?_;refine qP hH aB (Arg.rows (by assumption) hH) fun QI st hH=>?_;dsimp only[u2,u1,u3,u4,setMany,u5,u6,D.cells,Nat.reduceAdd,aL,bj,aq,jA] at hH;refine ae.gB (qs:=[(0,_),(3,_)]) rfl rfl rfl rfl ⟨rfl,(ev rfl),(by rfl),rfl,(ev rfl),(by exact hH.iN (by exact aB)),trivial⟩ (by intro q hq;simp only[List.mem_cons,List.not_mem_nil,or_false] at hq;rcases hq with rfl|rfl<;>exact⟨rfl,by exact Nat.le_of_ble_eq_true rfl⟩) (by show List.foldl _ [_,_,_,_] _=_;dsimp only[List.foldl_cons,List.foldl_nil,u2,u1]<;>rfl) (by dsimp only[Fr.put,u1,u2]<;>rfl) ?_;obtain⟨_,st,aS,rfl,cd,dk,hH⟩:=fM (rs:=n.rs) hF (by omega) hH;refine qv aS ?_;refine qe hK ?_;refine⟨fun i h=>(by cases h),_,_,_,rfl,rfl,?_⟩;exact⟨rfl,cd,dk,hH.erase 4⟩
  refine qq<|qj fun K hK=>qg ?_;refine qm ?_;refine qe hK ?_;refine af.cond (by rfl) (fun q7=>?_) (fun q7=>?_)<;>try simp only[beq_iff_eq,beq_eq_false_iff_ne,ne_eq] at q7
  ·have vD:a8 (.mk n ks) code.length=[ej 5 0 0 []]:=by simp only[a8,if_neg q2,if_pos q7]
   rw[vD];refine qj fun K hK=>qm ?_;refine ae.go (d:=.agg [.int .i64 5,.int .i64 0,.int .i64 0,.nul]) (st1:=_) rfl rfl rfl (by dsimp only[Fr.put,u1,u2]<;>rfl) ?_;have hH:=hH.fx 2;obtain⟨_,st,aS,rfl,cd,dk,hH⟩:=fM (rs:=[]) hF (by omega) hH;refine qv aS ?_;refine qe hK ?_;refine⟨fun i h=>(by cases h),_,_,_,rfl,rfl,?_⟩;exact⟨rfl,cd,dk,hH.erase 4⟩
  refine qq<|qj fun K hK=>qg ?_;refine qm ?_;refine qe hK ?_;refine af.cond (by rfl) (fun q8=>?_) (fun q8=>?_)<;>try simp only[beq_iff_eq,beq_eq_false_iff_ne,ne_eq] at q8
  ·have vD:a8 (.mk n ks) code.length=[ej 6 0 0 []]:=by simp only[a8,if_neg q2,if_neg q7,if_pos q8]
   rw[vD];refine qj fun K hK=>qm ?_;refine ae.go (d:=.agg [.int .i64 6,.int .i64 0,.int .i64 0,.nul]) (st1:=_) rfl rfl rfl (by dsimp only[Fr.put,u1,u2]<;>rfl) ?_;have hH:=hH.fx 2;obtain⟨_,st,aS,rfl,cd,dk,hH⟩:=fM (rs:=[]) hF (by omega) hH;refine qv aS ?_;refine qe hK ?_;refine⟨fun i h=>(by cases h),_,_,_,rfl,rfl,?_⟩;exact⟨rfl,cd,dk,hH.erase 4⟩
  refine qq<|qj fun K hK=>qg ?_;refine qm ?_;refine qe hK ?_;refine af.cond (by rfl) (fun q3=>?_) (fun q3=>?_)<;>try simp only[beq_iff_eq,beq_eq_false_iff_ne,ne_eq] at q3
  ·have vD:a8 (.mk n ks) code.length=jQ ks code.length:=by simp only[a8,if_neg q2,if_neg q7,if_neg q8,if_pos q3]
   rw[vD];have hz:bW n ks.sz ks.len=ks.sz:=by unfold bW;rw[if_neg (by omega),if_neg (by omega),if_neg (by omega),if_neg (by omega)]
   rw[hz] at hb;refine qq<|qj fun K hK=>qm ?_;refine qA ?_;refine qm ?_;refine qe hK<|qq<|qj fun K hK=>qp (o:=6) ?_;refine ql hH iZ ?_;refine qm ?_;refine qe hK<|af.block<|af.loop (fun mm fr st=>∃(i j:Nat) (rest:bU) (cd:D) (dk:Nat→Prop) (a_:List bC),fr.clean=⟨40,[.ptr k 0 0,.int .i64 (at_:Nat),bL fr 2,bL fr 3,.ptr k4 0 0,.int .i64 (j:Nat),bL fr 6,bL fr 7,bL fr 8,bL fr 9,bL fr 10,bL fr 11,bL fr 12,bL fr 13,bL fr 14,bL fr 15,bL fr 16,bL fr 17,bL fr 18,bL fr 19,bL fr 20,bL fr 21,bL fr 22,bL fr 23,bL fr 24,bL fr 25,bL fr 26,bL fr 27,bL fr 28,bL fr 29,bL fr 30,bL fr 31,bL fr 32,bL fr 33,bL fr 34,bL fr 35,bL fr 36,bL fr 37,.int .i64 n.kids,.int .i64 (i:Nat)],[]⟩∧Has N S st (.box k (.mem 0 false [cd,nd,zd,ed])::.deep dk cd 4 (a_.map aL)::.aT zd 1 (Z.map aq)::.aT ed 1 (E.map aq)::.box k4 (.mem 0 false (bj n))::H)∧(mm=rest.len)∧(i+rest.len=ks.len)∧(fp l j rest.flat)∧(fp Z j rest.zs)∧(fp E j (rest.es j))∧(rest.ok)∧(a_++jQ rest a_.length=code++jQ ks code.length)∧(a_.length+rest.sz=code.length+ks.sz)∧(rest.flat.length≤m)) (ks.len) ?_ ?_
   ·exact⟨0,at_+1,ks,cd,dk,code,rfl,hH,rfl,by omega,jb.tail,hsz.tail,yy.tail,sm,rfl,rfl,by omega⟩
   rintro mm fr st ⟨i,j,rest,cd,dk,a_,hfr,hH,sk,sq,nc,tN,nb,jh,gd,hcl,I5⟩;rw[hfr];clear hfr;generalize bL fr=ee;clear fr;refine qq<|qj fun K hK=>qg ?_;refine qe hK ?_
   cases rest with
   |nil=>
    simp only[bU.len] at sq;simp only[jQ,List.append_nil] at gd;have gK:decide ((i:Int)<n.kids)=false:=by rw[decide_eq_false_iff_not];omega
    refine qq<|qE rfl (by rw[gK]) ?_;refine af.exit ?_;refine⟨fun i h=>(by cases h),_,_,_,rfl,rfl,?_⟩;rw[←gd];exact⟨rfl,cd,dk,hH.erase 4⟩
   |cons t ts=>
    simp only[bU.len] at sq sk;simp only[bU.sz] at hcl;simp only[bU.flat,List.length_append] at nc I5;simp only[bU.zs] at tN;simp only[bU.es] at nb;simp only[bU.ok] at jh;simp only[jQ] at gd;have I0:=t.gV;have Ln:=t.h_ j;have x0:=dF t a_.length jh.1;have N9:=cW (xf nb.left);have gK:decide ((i:Int)<n.kids)=true:=by rw[decide_eq_true_eq];omega
    refine qq<|qD rfl (by rw[gK]) ?_;refine af.skip<|qq<|af.block<|qq<|qj fun K hK=>qm ?_;refine qm ?_;obtain⟨_,st,aS,rfl,cd,dk,hH⟩:=ih t (by omega) hF vw nc.left tN.left nb.left jh.1 (by omega) ⟨cd,dk,hH⟩;refine qv aS ?_;refine qe hK<|qj fun K hK=>qm ?_;refine qg ?_;refine qp (o:=3) ?_;refine ql hH aB ?_;refine qm ?_;refine qi hH gm fun QW Lz=>?_;refine qo hH gm ?_;refine qm ?_;refine qe hK<|qj fun K hK=>qA ?_;refine qm ?_;refine qe hK ?_;exact⟨mm-1,by omega,⟨i+1,j+t.flat.length,ts,cd,dk,a_++a8 t a_.length,rfl,hH,by omega,by omega,nc.right,by rw[←I0];exact tN.right,by rw[←Ln];rw[←Ln] at nb;exact nb.right,jh.2,by rw[List.length_append,x0,List.append_assoc];exact gd,by rw[List.length_append,x0];omega,by omega⟩⟩
  refine qq<|qj fun K hK=>qg ?_;refine qm ?_;refine qe hK ?_;refine af.cond (by rfl) (fun q4=>?_) (fun q4=>?_)<;>try simp only[beq_iff_eq,beq_eq_false_iff_ne,ne_eq] at q4
  ·have vD:a8 (.mk n ks) code.length=gF (pK (code.length+bW n ks.sz ks.len)) ks code.length:=by simp only[a8,if_neg q2,if_neg q7,if_neg q8,if_neg q3,if_pos q4]
   rw[vD];refine qj fun K hK=>qm ?_;refine qm ?_;obtain⟨_,st,aS,rfl,cd,dk,hH⟩:=J1 AY ih q4 (by omega) kv sm hF vw jb hsz.tail yy.tail hb ⟨cd,dk,hH⟩;refine qv aS ?_;refine qe hK ?_;refine⟨fun i h=>(by cases h),_,_,_,rfl,rfl,?_⟩;exact⟨rfl,cd,dk,hH.erase 4⟩
  refine qq<|qj fun K hK=>qg ?_;refine qm ?_;refine qe hK ?_;refine af.cond (by rfl) (fun q5=>?_) (fun q5=>?_)<;>try simp only[beq_iff_eq,beq_eq_false_iff_ne,ne_eq] at q5
  ·have o6:ks.len=1:=by
    obtain⟨_,hq⟩:=kv;omega
   obtain⟨t,rfl⟩:=bU.wR o6;have vD:a8 (.mk n (.cons t .nil)) code.length=uP n (a8 t) t.sz code.length:=by simp only[a8,if_neg q2,if_neg q7,if_neg q8,if_neg q3,if_neg q4,if_pos q5,uj,uK]
   rw[vD];rw[o6] at kv hb;rw[uK] at hb;simp only[bU.flat,bU.zs,bU.es,bU.ok,List.append_nil] at*;refine qj fun K hK=>qm ?_;refine qm ?_;obtain⟨_,st,aS,rfl,cd,dk,hH⟩:=xE AY ih q5 (by omega) kv sm.1 hF vw jb hsz.tail yy.tail hb ⟨cd,dk,hH⟩;refine qv aS ?_;refine qe hK ?_;refine⟨fun i h=>(by cases h),_,_,_,rfl,rfl,?_⟩;exact⟨rfl,cd,dk,hH.erase 4⟩
  refine qq<|qj fun K hK=>qg ?_;refine qm ?_;refine qe hK ?_;refine af.cond (by rfl) (fun q6=>?_) (fun q6=>?_)<;>try simp only[beq_iff_eq,beq_eq_false_iff_ne,ne_eq] at q6
  ·have o6:ks.len=1∧1≤n.cap∧n.cap≤4:=by
    obtain⟨_,hq⟩:=kv;omega
   obtain⟨t,rfl⟩:=bU.wR o6.1;have vD:a8 (.mk n (.cons t .nil)) code.length=ej 4 (2*n.cap) 0 []::(a8 t (code.length+1)++[ej 4 (2*n.cap+1) 0 []]):=by simp only[a8,if_neg q2,if_neg q7,if_neg q8,if_neg q3,if_neg q4,if_neg q5,if_pos q6,uj]
   rw[vD];have hz:bW n (bU.cons t .nil).sz (bU.cons t .nil).len=t.sz+2:=by unfold bW;rw[if_neg (by omega),if_neg (by omega),if_pos q6,uK]
   rw[hz] at hb;simp only[bU.flat,bU.zs,bU.es,bU.ok,List.append_nil] at jb hsz yy sm hm;refine qq<|qj fun K hK=>qm ?_;refine qp (o:=5) ?_;refine ql hH iZ ?_;refine ae.na (z:=(2*n.cap)) rfl (ev rfl) (ev rfl) (by(try simp only[List.length_reverse,List.length_cons,List.length_nil,List.length_append,List.length_map,List.length_set]);rw[wrap_i64 (by omega) (by omega)]<;>omega) (ag rfl _) ?_;refine ae.go (d:=.agg [.int .i64 4,.int .i64 (2*n.cap),.int .i64 0,.nul]) (st1:=_) rfl rfl rfl (ag rfl _) ?_;have hH:=hH.fx 2;obtain⟨_,st,aS,rfl,cd,dk,hH⟩:=fM (rs:=[]) hF (by omega) hH;refine qv aS ?_;refine qe hK ?_;have lv:(code++[ej 4 (2*n.cap) 0 []]).length=code.length+1:=by simp
   refine qq<|qj fun K hK=>qm ?_;refine qm ?_;refine qA ?_;obtain⟨_,st,aS,rfl,cd,dk,hH⟩:=ih t (by omega) hF vw jb.tail hsz.tail yy.tail sm.1 (by omega) ⟨cd,dk,hH⟩;refine qv aS ?_;refine qe hK ?_;rw[lv] at hH;have mr:(code++[ej 4 (2*n.cap) 0 []]++a8 t (code.length+1)).length=code.length+1+t.sz:=by rw[List.length_append,lv,dF t _ sm.1]
   refine qj fun K hK=>qm ?_;refine qp (o:=5) ?_;refine ql hH iZ ?_;refine ae.na (z:=(2*n.cap)) rfl (ev rfl) (ev rfl) (by(try simp only[List.length_reverse,List.length_cons,List.length_nil,List.length_append,List.length_map,List.length_set]);rw[wrap_i64 (by omega) (by omega)]<;>omega) (ag rfl _) ?_;refine ae.kN (z:=(2*n.cap+1)) rfl (ev rfl) (ev rfl) (by(try simp only[List.length_reverse,List.length_cons,List.length_nil,List.length_append,List.length_map,List.length_set]);rw[wrap_i64 (by omega) (by omega)]<;>omega) (ag rfl _) ?_;refine ae.go (d:=.agg [.int .i64 4,.int .i64 (2*n.cap+1),.int .i64 0,.nul]) (st1:=_) rfl rfl rfl (ag rfl _) ?_;have hH:=hH.fx 2;obtain⟨_,st,aS,rfl,cd,dk,hH⟩:=fM (rs:=[]) hF (by omega) hH;refine qv aS ?_;refine qe hK ?_;have dD:code++[ej 4 (2*n.cap) 0 []]++a8 t (code.length+1)++[ej 4 (2*n.cap+1) 0 []]=code++ej 4 (2*n.cap) 0 []::(a8 t (code.length+1)++[ej 4 (2*n.cap+1) 0 []]):=by simp
   rw[dD] at hH;refine⟨fun i h=>(by cases h),_,_,_,rfl,rfl,?_⟩;exact⟨rfl,cd,dk,hH.erase 4⟩
  ·refine af.skip ?_;have vD:a8 (.mk n ks) code.length=[]:=by simp only[a8,if_neg q2,if_neg q7,if_neg q8,if_neg q3,if_neg q4,if_neg q5,if_neg q6]
   rw[vD,List.append_nil];refine⟨fun i h=>(by cases h),_,_,_,rfl,rfl,?_⟩;exact⟨rfl,cd,dk,hH.erase 4⟩
def gC (fr:Go.V.Fr) (k:Nat):Go.V.D:=Go.V.nth .bA fr.loc k
def yv (x:Nl):List D:=[x.d]
theorem IJ {l:List Nl} {i:Nat} {q:Nl} (h:l[i]?=some q):(l.map yv)[i]?=some (yv q):=by rw[List.getElem?_map,h];rfl
def lD (R:qF):D:=.tup [(xH R.code R.aF).d,.int .i64 R.e,.int .i64 R.w]
theorem wB {es M:List Int} (h:M.length=es.length):lS es 0 M=M:=by
 unfold lS;simp[h]
theorem pZ (r:Nat) (c:List bC) (s:List Int):jP [] r c s=⟨c,s,0,0⟩:=by simp only[jP]
theorem vQ {s0:St} {x:D} {rules:List Nl} (hx:V.Rows s0 1 x (rules.map yv)) (hr:∀r∈rules,r.ok) (hl:rules.length≤1048576):Ev pv 14 [x] s0 (lD (dW (rules.map (·.l)))) s0:=by
 refine Ev.j8 rfl Qm rfl rfl rfl ?_;dsimp only[u3,u4,List.length,Nat.reduceSub,Nat.reduceAdd,w1,w2];obtain⟨bN,hF,hH⟩:=ri s0;generalize aj .ro s0=S at*;have hx:=Arg.of hx bN;have hfz:∀(st:St) (e w:Int),bI st s0.bs.length false 16 (nM [.agg [.nul,.nul],.int .i64 e,.int .i64 w])=some (lD ⟨[],[],e,w⟩):=fun st e w=>rfl;refine qq<|qj fun K hK=>qa hH fun k2 st hk2 hH=>?_;refine qm ?_;refine qm ?_;refine qe hK<|qq<|qq<|qj fun K hK=>qm ?_;refine qn ?_;simp only[List.length_map];refine qg ?_;refine qe hK ?_;unfold dW
 by_cases h8:8<rules.length
 ·rw[if_pos (by rw[List.length_map];exact h8)];refine qD rfl (by simp;omega) ?_;refine qq<|qj fun K hK=>?_;refine ae.go (d:=.agg [.nul,.nul]) (st1:=_) rfl rfl rfl (by dsimp only[Fr.put,u1,u2]<;>rfl) ?_;refine qS hH aB fun st hH=>?_;dsimp only[u2,u1,u3,u4,setMany,u5,u6,D.cells,Nat.reduceAdd,aL,bj,aq,yv] at hH;refine qm ?_;refine qm ?_;refine qe hK<|af.ret ⟨rx,_,hH.jZ rfl aB rfl rfl rfl,rl bN hH (hfz _ 13 8)⟩
 ·rw[if_neg (by rw[List.length_map];exact h8)];refine qE rfl (by simp;omega) ?_;refine af.skip<|qq<|qj fun K hK=>?_;refine ae.go (d:=.agg [.nul,.nul,.nul,.nul]) (st1:=_) rfl rfl rfl (by dsimp only[Fr.put,u1,u2]<;>rfl) ?_;refine qb hH fun AU st Jp hH=>?_;refine qm ?_;refine qe hK<|qq<|qj fun K hK=>qm ?_;refine qe hK<|qq<|qq<|qj fun K hK=>qm ?_;refine qn ?_;simp only[List.length_map];refine qm ?_;refine qe hK ?_;have hH:Has s0.bs.length S st (.aT .nul 1 (([]:List Int).map aq)::.deep (fun _=>False) .nul 4 (([]:List bC).map aL)::.box AU (.mem 0 false [.nul,.nul,.nul,.nul])::[.box k2 (.mem 0 false [.nul,.nul])]):=(hH.ND 4).fx 1;refine af.block<|af.loop (fun mm fr st=>∃(r:Nat) (cd nd zd ed sd:D) (dk:Nat→Prop) (code:List bC) (aF:List Int),fr.clean=⟨18,[gC fr 0,gC fr 1,.ptr k2 0 0,.int .i64 0,.int .i64 0,.ptr AU 0 0,sd,gC fr 7,gC fr 8,gC fr 9,gC fr 10,gC fr 11,gC fr 12,gC fr 13,gC fr 14,x,.int .i64 (rules.length:Nat),.int .i64 (r:Nat)],[]⟩∧Has s0.bs.length S st [.aT sd 1 (aF.map aq),.deep dk cd 4 (code.map aL),.box AU (.mem 0 false [cd,nd,zd,ed]),.box k2 (.mem 0 false [.nul,.nul])]∧(r+mm=rules.length)∧(jP ((rules.drop r).map (·.l)) r code aF=jP (rules.map (·.l)) 0 [] [])∧(code.length≤400)∧(aF.length≤r)) (rules.length) ?_ ?_
  ·exact⟨0,.nul,.nul,.nul,.nul,.nul,(fun _=>False),[],[],rfl,hH,by omega,by rw[List.drop_zero],by simp,by simp⟩
  rintro mm fr st ⟨r,cd,nd,zd,ed,sd,dk,code,aF,hfr,hH,WI,hX,hcl,eA⟩;rw[hfr];clear hfr;generalize gC fr=ee;clear fr;refine qq<|qj fun K hK=>qg ?_;refine qe hK ?_
  by_cases hlt:r<rules.length
  ·obtain⟨q,hq⟩:∃q,rules[r]?=some q:=⟨rules[r]'hlt,List.getElem?_eq_getElem _⟩
   have x5:=hr q (List.mem_of_getElem? hq);have gI:=IJ hq
   have x8:rules.drop r=q::rules.drop (r+1):=by
    rw[List.drop_eq_getElem_cons hlt]
    congr 1
    exact Option.some.inj ((List.getElem?_eq_getElem _).symm.trans hq)
   rw[x8,List.map_cons,jP] at hX;refine qq<|qD rfl (by simp;omega) ?_;refine af.skip<|qq<|af.block<|qq<|qj fun K hK=>qm ?_;refine qr fun Nv Jb=>?_;refine qR ?_;refine qm ?_;refine qm ?_;refine qe hK<|qq<|qq<|qj fun K hK=>qm ?_;refine qv (xB x5) ?_;refine qg ?_;refine qe hK ?_
   cases vt:gY q.l with
   |false=>
    rw[if_pos vt] at hX;refine qB ?_;refine qq<|qj fun K hK=>ae.go (d:=.agg [.nul,.nul]) (st1:=_) rfl rfl rfl (ag rfl _) ?_;refine qm ?_;refine qS hH gm fun st hH=>?_;dsimp only[u2,u1,u3,u4,setMany,u5,u6,D.cells,Nat.reduceAdd,aL,bj,aq,yv] at hH;refine qm ?_;refine qm ?_;refine qe hK ?_;rw[←hX];refine af.ret ⟨rx,_,hH.jZ rfl gm rfl rfl rfl,rl bN hH (hfz _ 1 r)⟩
   |true=>
    rw[if_neg (by rw[vt];simp)] at hX;obtain⟨o5,Lm⟩:=wo vt;have WO:=x5.c.arg s0.bs.length S;have WN:=x5.nl;have o7:=x5.c;refine qC ?_;refine af.skip<|qq<|qj fun K hK=>qm ?_;refine qm ?_;refine qm ?_;refine qm ?_;refine qm ?_;refine qn ?_;simp only[List.length_map];refine ae.oy (s:=1) hH rfl rfl rfl rfl rfl rfl rfl rfl (Nat.le_of_ble_eq_true rfl) (by omega) (fun _=>(ag rfl _)) (fun Ka st OT hH=>?_);refine qm ?_;refine qn ?_;simp only[List.length_map];refine ae.oy (s:=1) hH rfl rfl rfl rfl rfl rfl rfl rfl (Nat.le_of_ble_eq_true rfl) (by omega) (fun _=>(ag rfl _)) (fun IM st L4 hH=>?_);refine qg ?_;refine qp (o:=1) ?_;refine qT hH iZ fun st hH=>?_;dsimp only[u2,u1,u3,u4,setMany,u5,u6,D.cells,Nat.reduceAdd,aL,bj,aq,yv] at hH;refine qg ?_;refine qp (o:=2) ?_;refine qT hH iZ fun st hH=>?_;dsimp only[u2,u1,u3,u4,setMany,u5,u6,D.cells,Nat.reduceAdd,aL,bj,aq,yv] at hH;refine qg ?_;refine qp (o:=3) ?_;refine qT hH iZ fun st hH=>?_;dsimp only[u2,u1,u3,u4,setMany,u5,u6,D.cells,Nat.reduceAdd,aL,bj,aq,yv] at hH;refine qe hK ?_
    have hH:Has s0.bs.length S st (.aT (.win Ka 0 0 q.l.length 1) 1 ((List.replicate q.l.length (0:Int)).map aq)::.aT (.win IM 0 0 q.l.length 1) 1 ((List.replicate q.l.length (0:Int)).map aq)::.aT sd 1 (aF.map aq)::.deep dk cd 4 (code.map aL)::.box AU (.mem 0 false [cd,q.d,.win Ka 0 0 q.l.length 1,.win IM 0 0 q.l.length 1])::.box k2 (.mem 0 false [.nul,.nul])::[]):=by
     rw[List.map_replicate];exact hH.front bu
    refine qq<|qj fun K hK=>qm ?_;refine qm ?_;refine qg ?_;refine qp (o:=2) ?_;refine ql hH iZ ?_;obtain⟨_,st,aS,rfl,hH⟩:=yN x5.nl x5.i x5.c _ (dI q.l) (Nat.le_refl _) o5 (at_:=0) (by rw[Lm];exact fp.all _) (by simp) hH;refine qv aS ?_;refine qe hK ?_;rw[wB (by rw[Tr.gV,Lm];simp)] at hH;have hH:=hH.front bu;refine qq<|qj fun K hK=>qm ?_;refine qm ?_;refine qg ?_;refine qp (o:=3) ?_;refine ql hH iZ ?_;obtain⟨_,st,aS,rfl,hH⟩:=EH x5.nl x5.i x5.c _ (dI q.l) (Nat.le_refl _) o5 (at_:=0) (by rw[Lm];exact fp.all _) (by simp) hH;refine qv aS ?_;refine qe hK ?_;rw[wB (by rw[Tr.h_,Lm];simp)] at hH;have T5:=cW (wg (fp.all (dI q.l).zs));refine qq<|qq<|qj fun K hK=>qm ?_;refine qg ?_;refine qp (o:=0) ?_;refine ql hH iZ ?_;refine ae.yj hH rfl (ev rfl) (by exact gm) rfl (ag rfl _) ?_;simp only[List.length_map];refine qm ?_;refine qg ?_;refine qp (o:=2) ?_;refine ql hH iZ ?_;refine qi hH bu fun QT Lw=>?_;refine qo hH bu ?_;refine ae.kN (z:=((code.length+min (dI q.l).sz 401:Nat):Int)) rfl (ev rfl) (ev rfl) (by(try simp only[List.length_reverse,List.length_cons,List.length_nil,List.length_append,List.length_map,List.length_set]);rw[wrap_i64 (by omega) (by omega)]<;>omega) (ag rfl _) ?_;refine ae.kN (z:=((code.length+min (dI q.l).sz 401+3:Nat):Int)) rfl (ev rfl) (ev rfl) (by(try simp only[List.length_reverse,List.length_cons,List.length_nil,List.length_append,List.length_map,List.length_set]);rw[wrap_i64 (by omega) (by omega)]<;>omega) (ag rfl _) ?_;refine qg ?_;refine qe hK ?_
    by_cases Jx:400<code.length+min (dI q.l).sz 401+3
    ·rw[if_pos Jx] at hX;have gK:decide (((code.length+min (dI q.l).sz 401+3:Nat):Int)>400)=true:=by rw[decide_eq_true_eq];omega
     refine qD rfl (by rw[gK]) ?_;refine qq<|qj fun K hK=>ae.go (d:=.agg [.nul,.nul]) (st1:=_) rfl rfl rfl (ag rfl _) ?_;refine qm ?_;refine qS hH qz fun st hH=>?_;dsimp only[u2,u1,u3,u4,setMany,u5,u6,D.cells,Nat.reduceAdd,aL,bj,aq,yv] at hH;refine qm ?_;refine qm ?_;refine qe hK ?_;rw[←hX];refine af.ret ⟨rx,_,hH.jZ rfl qz rfl rfl rfl,rl bN hH (hfz _ 12 r)⟩
    ·rw[if_neg Jx] at hX;have gK:decide (((code.length+min (dI q.l).sz 401+3:Nat):Int)>400)=false:=by rw[decide_eq_false_iff_not];omega
     refine qE rfl (by rw[gK]) ?_;refine af.skip ?_;have hH:=hH.front bu;have hH:=hH.front gm;have hH:=hH.front iZ;have hH:Has s0.bs.length S st (.box AU (.mem 0 false [cd,q.d,.win Ka 0 0 q.l.length 1,.win IM 0 0 q.l.length 1])::.deep dk cd 4 (code.map aL)::.aT (.win Ka 0 0 q.l.length 1) 1 ((dI q.l).zs.map aq)::.aT (.win IM 0 0 q.l.length 1) 1 (((dI q.l).es 0).map aq)::.aT sd 1 (aF.map aq)::.box k2 (.mem 0 false [.nul,.nul])::[]):=hH;refine qq<|qj fun K hK=>qm ?_;refine qm ?_;refine ae.go (d:=.agg [.int .i64 4,.int .i64 0,.int .i64 0,.nul]) (st1:=_) rfl rfl rfl (ag rfl _) ?_;have hH:=hH.fx 2;obtain⟨_,st,aS,rfl,cd,dk,hH⟩:=fM (rs:=[]) hF (by omega) hH;refine qv aS ?_;refine qh (s:=1) (vs:=[_]) hH fun Wr st UJ hH=>?_;refine ae.bG (s:=1) hH rfl (ev rfl) (ev rfl) (by exact qz) (by exact hH.rows (by exact aB)) rfl rfl rfl rfl rfl rfl rfl ⟨(Nat.le_of_ble_eq_true rfl),(Nat.le_of_ble_eq_true rfl)⟩ (fun _=>(ag rfl _)) (by simp only[List.length_cons,List.length_nil,List.length_map]<;>omega) (by exact .inl hF) (fun Sk st hH=>?_);dsimp only[u2,u1,u3,u4,setMany,u5,u6,D.cells,Nat.reduceAdd,aL,bj,aq,yv] at hH;refine qm ?_;refine qe hK ?_;have hH:=hH.drop 1;have lv:(code++[ej 4 0 0 []]).length=code.length+1:=by simp
     refine qq<|qj fun K hK=>qm ?_;obtain⟨_,st,aS,rfl,cd,dk,hH⟩:=DX x5.nl x5.i _ (dI q.l) (Nat.le_refl _) hF x5.c (at_:=0) (by rw[Lm];exact fp.all _) (fp.all _) (fp.all _) o5 (by omega) ⟨cd,dk,hH⟩;refine qv aS ?_;refine qe hK ?_;rw[lv] at hH;have mr:(code++[ej 4 0 0 []]++a8 (dI q.l) (code.length+1)).length=code.length+1+(dI q.l).sz:=by rw[List.length_append,lv,dF _ _ o5]
     refine qq<|qj fun K hK=>qm ?_;refine ae.go (d:=.agg [.int .i64 4,.int .i64 1,.int .i64 0,.nul]) (st1:=_) rfl rfl rfl (ag rfl _) ?_;have hH:=hH.fx 2;obtain⟨_,st,aS,rfl,cd,dk,hH⟩:=fM (rs:=[]) hF (by omega) hH;refine qv aS ?_;refine qe hK ?_;have zZ:(code++[ej 4 0 0 []]++a8 (dI q.l) (code.length+1)++[ej 4 1 0 []]).length=code.length+1+(dI q.l).sz+1:=by rw[List.length_append,mr];rfl
     refine qj fun K hK=>qm ?_;refine qm ?_;refine ae.go (d:=.agg [.int .i64 7,.int .i64 (r:Nat),.int .i64 0,.nul]) (st1:=_) rfl rfl rfl (ag rfl _) ?_;have hH:=hH.fx 2;obtain⟨_,st,aS,rfl,cd,dk,hH⟩:=fM (rs:=[]) hF (by omega) hH;refine qv aS ?_;refine qe hK ?_
     have T2:code++[ej 4 0 0 []]++a8 (dI q.l) (code.length+1)++[ej 4 1 0 []]++[ej 7 (r:Nat) 0 []]=code++kY (dI q.l) code.length r:=by
      unfold kY;simp
     rw[T2] at hH;have hH:=(hH.erase 2).erase 2;have hH:=hH.front bu;have hH:=hH.front ez;refine qj fun K hK=>qA ?_;refine qm ?_;refine qe hK ?_;exact⟨mm-1,by omega,⟨r+1,cd,q.d,.win Ka 0 0 q.l.length 1,.win IM 0 0 q.l.length 1,Sk,dk,code++kY (dI q.l) code.length r,aF++[((code.length:Nat):Int)],rfl,(by rw[List.map_append (f:=aq)];exact hH),by omega,hX,by rw[List.length_append,po o5];omega,by rw[List.length_append];simp only[List.length_cons,List.length_nil];omega⟩⟩
  ·refine qq<|qE rfl (by simp;omega) ?_;refine af.exit ?_;rw[List.drop_of_length_le (by omega),List.map_nil,pZ] at hX;refine qq<|qj fun K hK=>qm ?_;refine qg ?_;refine qp (o:=0) ?_;refine ql hH ez ?_;refine qm ?_;refine ae.gB (qs:=[(0,_),(1,_)]) rfl rfl rfl rfl ⟨rfl,(ev rfl),(by exact hH.Ao (by exact bu)),rfl,(ev rfl),(by exact hH.iN (by exact aB)),trivial⟩ (by intro q hq;simp only[List.mem_cons,List.not_mem_nil,or_false] at hq;rcases hq with rfl|rfl<;>exact⟨rfl,by exact Nat.le_of_ble_eq_true rfl⟩) (by show List.foldl _ [_,_] _=_;dsimp only[List.foldl_cons,List.foldl_nil,u2,u1]<;>rfl) (ag rfl _) ?_;refine qS hH gm fun st hH=>?_;dsimp only[u2,u1,u3,u4,setMany,u5,u6,D.cells,Nat.reduceAdd,aL,bj,aq,yv] at hH;refine qm ?_;refine qm ?_;refine qe hK ?_;rw[←hX];have h1:=hH.Ad bu (n:=13) (by decide);have h2:=hH.ED aB (iv _) (n:=14) (by decide)
   have h4:bI st s0.bs.length false 15 (.agg [cd,sd])=some (xH code aF).d:=by
    show(ir (bI st s0.bs.length false 14) [cd,sd]).map D.agg=_;simp only[ir,h1,h2,Option.map_some];rfl
   have h3:bI st s0.bs.length false 16 (nM [.agg [cd,sd],.int .i64 0,.int .i64 0])=some (lD ⟨code,aF,0,0⟩):=by
    show(ir (bI st s0.bs.length false 15) [.agg [cd,sd],.int .i64 0,.int .i64 0]).map D.tup=_;simp only[ir,h4];rfl
   exact af.ret ⟨rx,_,hH.jZ rfl gm rfl rfl rfl,rl bN hH h3⟩
theorem uf:∀(ls:List (List ec)) (r:Nat) (c:List bC) (s:List Int),(∀l∈ls,∀n∈l,n.rs.length≤1048576)→(∀i∈c,iC i)→c.length≤400→s.length≤r→(∀i∈(jP ls r c s).code,iC i)∧(jP ls r c s).code.length≤400∧(jP ls r c s).aF.length≤r+ls.length
 |[],r,c,s,_,h1,h2,h3=>by rw[pZ];exact⟨h1,h2,by simpa using h3⟩
 |l::ls,r,c,s,h0,h1,h2,h3=>by
  have Ey:∀e w:Int,(∀i∈(qF.mk [] [] e w).code,iC i)∧(qF.mk [] [] e w).code.length≤400∧(qF.mk [] [] e w).aF.length≤r+(l::ls).length:=fun e w=>⟨fun i hi=>(by cases hi),by simp,by simp⟩
  rw[jP]
  split
  ·exact Ey _ _
  ·rename_i hr;rw[Bool.not_eq_false] at hr
   split
   ·exact Ey _ _
   ·rename_i hb;obtain⟨t1,t2⟩:=wo hr
    obtain⟨h4,h5,h6⟩:=uf ls (r+1) (c++kY (dI l) c.length r) (s++[((c.length:Nat):Int)]) (fun l' gP=>h0 l' (List.mem_cons_of_mem _ gP)) (fun i hi=>by
     rcases List.mem_append.1 hi with hi|hi
     ·exact h1 i hi
     ·exact Bc (by rw[t2];exact h0 l (List.mem_cons_self ..)) i hi) (by rw[List.length_append,po t1];omega) (by rw[List.length_append];simp only[List.length_cons,List.length_nil];omega)
    exact⟨h4,h5,by simp only[List.length_cons];omega⟩
theorem ue {ls:List (List ec)} (h:∀l∈ls,∀n∈l,n.rs.length≤1048576):(xH (dW ls).code (dW ls).aF).ok∧(dW ls).code.length≤400:=by
 unfold dW
 split
 ·exact⟨u_ (fun i hi=>(by cases hi)) (by simp) (by simp),by simp⟩
 ·obtain⟨h1,h2,h3⟩:=uf ls 0 [] [] h (fun i hi=>by cases hi) (by simp) (by simp);exact⟨u_ h1 (by omega) (by omega),h2⟩
def kG (fr:Go.V.Fr) (k:Nat):Go.V.D:=Go.V.nth .bA fr.loc k
def uL (b:List UInt8):List D:=[.str b]
theorem A8 {l:List (List UInt8)} {i:Nat} {q:List UInt8} (h:l[i]?=some q):(l.map uL)[i]?=some (uL q):=by rw[List.getElem?_map,h];rfl
theorem II {parts:List (List ec)} (h:∀l∈parts,(∀n∈l,sy n)∧l.length≤500):∀r∈parts.map (fun l=>(⟨sf l,l⟩:Nl)),r.ok:=by
 intro r hr;obtain⟨l,hl,rfl⟩:=List.mem_map.1 hr;exact K5 (h l hl).1 (by have:=(h l hl).2;omega)
theorem zm {parts:List (List ec)}:(parts.map (fun l=>(⟨sf l,l⟩:Nl))).map yv=parts.map dB:=by
 rw[List.map_map];rfl
theorem vR {s0:St} {y:D} {parts:List (List ec)} (h:∀l∈parts,(∀n∈l,sy n)∧l.length≤500) (hl:parts.length≤1048576) (hy:V.Rows s0 1 y (parts.map dB)):Ev pv 14 [y] s0 (lD (dW parts)) s0∧(xH (dW parts).code (dW parts).aF).ok∧(dW parts).code.length≤400:=by
 have h1:=vQ (s0:=s0) (x:=y) (rules:=parts.map (fun l=>(⟨sf l,l⟩:Nl))) (by rw[zm];exact hy) (II h) (by rw[List.length_map];exact hl);have h2:(parts.map (fun l=>(⟨sf l,l⟩:Nl))).map (·.l)=parts:=by rw[List.map_map];exact List.map_id _
 rw[h2] at h1;exact⟨h1,ue fun l hl n hn=>((h l hl).1 n hn).2.1⟩
theorem D5 {s0:St} {x:D} {ps:List (List UInt8)} (hx:V.Rows s0 1 x (ps.map uL)) (hl:ps.length≤1048576) (hb:∀b∈ps,b.length≤1048576):∃d,Ev pv 33 [x] s0 d s0∧∃(p:Pg) (ok:Bool),d=.tup [p.d,.bool ok]∧p.ok∧p.code.length≤400:=by
 refine Ev.AS rfl Qf rfl rfl rfl ?_;dsimp only[u3,u4,List.length,Nat.reduceSub,Nat.reduceAdd,w1,w2];obtain⟨bN,hF,hH⟩:=ri s0;generalize aj .ro s0=S at*;have hx:=Arg.of hx bN;refine qq<|qj fun K hK=>qa hH fun k2 st hk2 hH=>?_;refine qm ?_;refine qe hK<|qq<|qj fun K hK=>qm ?_;refine qe hK<|qq<|qq<|qj fun K hK=>qm ?_;refine qe hK ?_;have hH:Has s0.bs.length S st (.aT .nul 1 (([]:List (List ec)).map dB)::.box k2 (.mem 0 false [.nul,.nul])::[]):=hH.fx 1;refine af.block<|af.loop (fun mm fr st=>∃(i:Nat) (ld:D) (parts:List (List ec)),fr.clean=⟨11,[x,kG fr 1,.ptr k2 0 0,.bool false,ld,.int .i64 (i:Nat),kG fr 6,kG fr 7,kG fr 8,kG fr 9,kG fr 10],[]⟩∧Has s0.bs.length S st [.aT ld 1 (parts.map dB),.box k2 (.mem 0 false [.nul,.nul])]∧(i+mm=ps.length)∧(∀l∈parts,(∀n∈l,sy n)∧l.length≤500)∧(parts.length=i)) (ps.length) ?_ ?_
 ·exact⟨0,.nul,[],rfl,hH,by omega,fun l hl=>(by cases hl),rfl⟩
 rintro mm fr st ⟨i,ld,parts,hfr,hH,hi,hp,ji⟩;rw[hfr];clear hfr;generalize kG fr=ee;clear fr;refine qq<|qq<|qj fun K hK=>qm ?_;refine qm ?_;refine qn ?_;simp only[List.length_map];refine qg ?_;refine qe hK ?_
 by_cases hlt:i<ps.length
 ·obtain⟨b,Jz⟩:∃b,ps[i]?=some b:=⟨ps[i]'hlt,List.getElem?_eq_getElem _⟩
  have gI:=A8 Jz;have hbl:=hb b (List.mem_of_getElem? Jz);have vE:decide (((i:Nat):Int)<((ps.length:Nat):Int))=true:=by rw[decide_eq_true_eq];omega
  refine qD rfl (by rw[vE]) ?_;refine af.skip<|qq<|af.block ?_;obtain⟨_,aS,l,e,w,rfl,hv,AY⟩:=y9 (s0:=st) hbl;refine qq<|qj fun K hK=>qm ?_;refine qm ?_;refine qr fun K3 zK=>?_;refine qR ?_;refine qv (aS) ?_;refine qm ?_;refine qg ?_;refine qg ?_;refine qg ?_;refine qm ?_;refine qm ?_;refine qm ?_;refine qe hK<|qq<|qq<|qj fun K hK=>qm ?_;refine qg ?_;refine qe hK ?_;refine af.cond (by rfl) (fun he=>?_) (fun he=>?_)<;>try simp only[bne_iff_ne,bne_eq_false_iff_eq,ne_eq] at he
  ·refine qq<|qj fun K hK=>ae.go (d:=.agg [.nul,.nul]) (st1:=_) rfl rfl rfl (ag rfl _) ?_;refine qS hH bu fun st hH=>?_;dsimp only[u2,u1,u3,u4,setMany,u5,u6,D.cells,Nat.reduceAdd,dB,lD,Pg.d,Pg.cs,xH] at hH;refine qm ?_;refine qe hK<|af.ret ⟨rx,_,_,hH.cm rfl bu rfl rfl,rl bN hH (show _=some (D.tup [(xH [] []).d,.bool false]) from rfl),⟨_,_,rfl,u_ (fun i hi=>(by cases hi)) (by simp) (by simp),by simp[xH]⟩⟩
  ·refine af.skip<|qj fun K hK=>qm ?_;refine qm ?_;refine qh (s:=1) (vs:=[_]) hH fun Ra st L5 hH=>?_;refine ae.bG (s:=1) hH rfl (ev rfl) (ev rfl) (by exact bu) (by exact hH.rows (by exact aB)) rfl rfl rfl rfl rfl rfl rfl ⟨(Nat.le_of_ble_eq_true rfl),(Nat.le_of_ble_eq_true rfl)⟩ (fun _=>(ag rfl _)) (by simp only[List.length_cons,List.length_nil,List.length_map]<;>omega) (by exact .inl hF) (fun Su st hH=>?_);dsimp only[u2,u1,u3,u4,setMany,u5,u6,D.cells,Nat.reduceAdd,dB,lD,Pg.d,Pg.cs,xH] at hH;refine qm ?_;refine qe hK ?_;have hH:=hH.drop 1;refine qj fun K hK=>qm ?_;refine qA ?_;refine qm ?_;refine qe hK ?_;refine⟨mm-1,by omega,⟨i+1,Su,parts++[l],rfl,(by rw[List.map_append];exact hH),by omega,?_,by rw[List.length_append,ji];rfl⟩⟩;intro l' gP
   rcases List.mem_append.1 gP with gP|gP
   ·exact hp l' gP
   ·simp only[List.mem_cons,List.not_mem_nil,or_false] at gP;subst gP;exact⟨hv,AY⟩
 ·have vE:decide (((i:Nat):Int)<((ps.length:Nat):Int))=false:=by rw[decide_eq_false_iff_not];omega
  refine qE rfl (by rw[vE]) ?_;refine af.exit ?_;obtain⟨aS,dz,hlen⟩:=vR hp (by omega) (hH.rows aB);generalize dW parts=R at*;refine qq<|qj fun K hK=>qm ?_;refine qv (aS) ?_;refine qm ?_;refine qg ?_;refine qg ?_;refine qg ?_;refine qa hH fun k9 st UF hH=>?_;refine qS hH aB fun st hH=>?_;dsimp only[u2,u1,u3,u4,setMany,u5,u6,D.cells,Nat.reduceAdd,dB,lD,Pg.d,Pg.cs,xH] at hH;refine qm ?_;refine qm ?_;refine qe hK<|qq<|qj fun K hK=>?_;refine ae.bF (m:=2) hH rfl (ev rfl) (by exact aB) (by dsimp only[List.drop_succ_cons,List.drop_zero,List.take_succ_cons,List.take_zero,dB,lD,Pg.d,Pg.cs,xH]<;>rfl) rfl rfl (ag rfl _) ?_;refine qm ?_;refine qg ?_;refine qS hH ez fun st hH=>?_;dsimp only[u2,u1,u3,u4,setMany,u5,u6,D.cells,Nat.reduceAdd,dB,lD,Pg.d,Pg.cs,xH] at hH;refine qm ?_;refine qe hK<|af.ret ⟨rx,_,_,hH.cm rfl ez rfl rfl,rl bN hH (show _=some (D.tup [(xH R.code R.aF).d,.bool (R.e==0)]) from rfl),⟨_,_,rfl,dz,hlen⟩⟩
open Go.V Go Go.RowKit
variable{H:Type} {enc:TypeId×Value→H} {w:World} {spare:Nat→Bool} {held:Bool} {d:DataW H}
theorem AF (h:Rd enc Try.prog w spare held 55 d):∃(y:D) (ps:List (List UInt8)),f_ d=y∧gq y 1 (ps.map uL)∧(Rows.uptoBulk d≤1048576→ps.length≤1048576∧∀b∈ps,b.length≤1048576):=by
 rcases h.slice Try.underlying55 with rfl|⟨elems,rest,rfl,he⟩
 ·exact⟨_,[],rfl,.inl ⟨rfl,rfl⟩,fun _=>⟨by simp,fun b hb=>(by cases hb)⟩⟩
 ·obtain⟨l,h1,h2,h3⟩:=KB (s:=1) (f:=uL) (Q:=fun(b:List UInt8) x=>b.length≤Rows.uptoBulk x) (rest:=rest) fun x hx=>by
   obtain⟨b,rfl⟩:=(he x hx).string Try.underlying9;refine⟨b,rfl,rfl,rfl,?_⟩;simp only[Rows.uptoBulk];omega
  refine⟨_,l,rfl,h1,fun hb=>⟨?_,fun b eu=>?_⟩⟩
  ·have:=AA elems;simp only[Rows.uptoBulk] at hb;omega
  ·obtain⟨x,hx,h4⟩:=h3 b eu;have:=AB hx;simp only[Rows.uptoBulk] at hb;omega
end Go.Proofs.Ytbdilgkfnacahaa
namespace Go.Proofs.Ytbdilgkfnacahaa
open Go.V Go
theorem oM {p:Prop} (h:dec p=true):p:=by
 refine Classical.byContradiction fun g=>?_;rw[iV g] at h;cases h
end Go.Proofs.Ytbdilgkfnacahaa
namespace Go.Proofs.Ytbdilgkfnacahaa
open Go.V Go
def du (fr:Go.V.Fr) (k:Nat):Go.V.D:=Go.V.nth .bA fr.loc k
abbrev oY:=Nat→Int
def aE (f:oY):List D:=[.int .i64 (f 0),.int .i64 (f 1),.int .i64 (f 2),.int .i64 (f 3),.int .i64 (f 4),.int .i64 (f 5),.int .i64 (f 6),.int .i64 (f 7),.int .i64 (f 8),.int .i64 (f 9)]
def aK:oY:=fun _=>-1
def ax:oY:=fun _=>0
def sO (f:oY) (x:Nat) (v:Int):oY:=fun j=>if j=x then v else f j
structure dY where
 pc:Nat
 at_:Nat
 c:oY
def aQ (t:dY):List D:=.int .i64 (t.pc:Nat)::.int .i64 (t.at_:Nat)::aE t.c
theorem sL {a b:D} {f:oY} {x:Nat} {v:Int} (hx:x<10):setMany (a::b::aE f) (2+x) [.int .i64 v]=a::b::aE (sO f x v):=by
 match x,hx with
 |0,_=>rfl
 |1,_=>rfl
 |2,_=>rfl
 |3,_=>rfl
 |4,_=>rfl
 |5,_=>rfl
 |6,_=>rfl
 |7,_=>rfl
 |8,_=>rfl
 |9,_=>rfl
inductive r_ where
 |found
 |more (l:List dY)
def bn (code:List bC) (gs:List (Nat×Nat)) (pl:List Int) (t:dY):r_:=
 match code[t.pc]? with
 |none=>.more []
 |some i=>
  if i.op=7 then .found
  else if i.op=2 then .more [⟨i.x.toNat,t.at_,t.c⟩,⟨i.y.toNat,t.at_,t.c⟩]
  else if i.op=3 then .more [⟨i.x.toNat,t.at_,t.c⟩]
  else if i.op=4 then .more [⟨t.pc+1,t.at_,sO t.c i.x.toNat (pl.getD t.at_ 0)⟩]
  else if i.op=5 then .more (if t.at_=0 then[⟨t.pc+1,t.at_,t.c⟩] else[])
  else if i.op=6 then .more (if t.at_=gs.length then[⟨t.pc+1,t.at_,t.c⟩] else[])
  else .more (if t.at_<gs.length∧fJ i.rs ((gs.getD t.at_ (0,0)).1:Nat)=true then[⟨t.pc+1,t.at_+1,t.c⟩] else[])
theorem iG {n ns pc:Nat} {i:bC} (h:ct n ns pc i=true):
  i.op=7∨(i.op=2∧(0≤i.x∧i.x<(n:Int))∧0≤i.y∧i.y<(n:Int))∨(i.op=3∧0≤i.x∧i.x<(n:Int))∨(i.op=4∧pc+1<n∧0≤i.x∧i.x<10)∨(i.op=5∧pc+1<n)∨(i.op=6∧pc+1<n)∨(i.op=1∧pc+1<n):=by
 unfold ct at h
 split at h
 ·rename_i h1;simp only[Bool.and_eq_true,decide_eq_true_eq] at h;refine .inr (.inr (.inr (.inr (.inr (.inr ⟨h1,?_⟩)))));omega
 ·simp only[Bool.and_eq_true] at h;obtain⟨_,h⟩:=h
  split at h
  ·rename_i h2;simp only[Bool.and_eq_true] at h;exact .inr (.inl ⟨h2,e5.1 h.1,e5.1 h.2⟩)
  ·simp only[Bool.and_eq_true] at h;obtain⟨_,h⟩:=h
   split at h
   ·rename_i h3;exact .inr (.inr (.inl ⟨h3,e5.1 h⟩))
   ·split at h
    ·rename_i h4;simp only[Bool.and_eq_true,decide_eq_true_eq] at h;exact .inr (.inr (.inr (.inl ⟨h4,by omega,e5.1 h.2⟩)))
    ·split at h
     ·rename_i h5;simp only[Bool.and_eq_true,decide_eq_true_eq] at h
      rcases h5 with h5|h5
      ·exact .inr (.inr (.inr (.inr (.inl ⟨h5,by omega⟩))))
      ·exact .inr (.inr (.inr (.inr (.inr (.inl ⟨h5,by omega⟩)))))
     ·split at h
      ·rename_i h7;exact .inl h7
      ·cases h
def eZ (N:Nat) (S:St) (k:Nat) (p:Pg) (gs:List (Nat×Nat)) (bD gx:D) (bd:List Int) (H:List cz) (t:dY) (bE:List dY) (d:D) (ai:St):Prop:=
 match bn p.code gs bd t with
 | .found=>d=.tup [.agg (aE t.c),.bool true]∧∃fk,Has N S ai (.box k (.mem 0 false [p.cd,p.sd,bZ gs,bD,gx,fk])::.aT fk 12 (bE.reverse.map aQ)::.aT bD 1 (bd.map aq)::H)
 | .more l=>d=.tup [.agg (aE ax),.bool false]∧∃fk,Has N S ai (.box k (.mem 0 false [p.cd,p.sd,bZ gs,bD,gx,fk])::.aT fk 12 ((l++bE).reverse.map aQ)::.aT bD 1 (bd.map aq)::H)
theorem A_ {N:Nat} {S st:St} {H:List cz} {k:Nat} {p:Pg} {gs:List (Nat×Nat)} {bD gx fk:D} {bd:List Int} {t:dY} {bE:List dY} {i:bC} (hF:S.flr≤N) (hp:p.ok) (hi:p.code[t.pc]?=some i) (hsh:ct p.code.length p.aF.length t.pc i=true) (nF:gs.length≤1048576) (iy:t.at_≤gs.length) (ji:bd.length=gs.length+1) (jb:bE.length≤536870912)
  (hH:Has N S st (.box k (.mem 0 false [p.cd,p.sd,bZ gs,bD,gx,fk])::.aT fk 12 (bE.reverse.map aQ)::.aT bD 1 (bd.map aq)::H)):
  ∃d ai,Ev pv 74 [.ptr k 0 0,.agg (aQ t)] st d ai∧eZ N S k p gs bD gx bd H t bE d ai:=by
 have hc:=hp.c.arg N S;have hlen:=hp.cl;have zS:Arg N S 2 (bZ gs) (gs.map aU):=Arg.pure (fun st=>cT st gs);have hr:=fO hi;have tO:=(hp.i i (List.mem_of_getElem? hi)).1;have I9:=tO.arg N S;have zI:=(hp.i i (List.mem_of_getElem? hi)).2;have hlt:=cn hi;have kH:=iG hsh;obtain⟨op,x,y,rd,rs⟩:=i;obtain⟨pc,at_,c⟩:=t;simp only at*;refine Ev.mP rfl PQ rfl rfl rfl ?_;dsimp only[u3,u4,List.length,Nat.reduceSub,Nat.reduceAdd,w1,w2];change af _ _ _ _ st _;refine qq<|qj fun K hK=>qb hH fun k3 st Kj hH=>?_;dsimp only[u2,u1,u3,u4,setMany,u5,u6,D.cells,Nat.reduceAdd,aL,aq,aQ,aE] at hH;refine qa hH fun k4 st M3 hH=>?_;refine qm ?_;refine qe hK<|qq<|qj fun K hK=>qm ?_;refine qg ?_;refine qp (o:=0) ?_;refine qp (o:=0) ?_;refine ql hH ez ?_;refine qp (o:=0) ?_;refine ql hH bu ?_;refine qr fun Ny Je=>?_;refine ae.dt rfl (ev rfl) (by assumption) rfl (by dsimp only[Fr.put,u1,u2]<;>rfl) ?_;refine qa hH fun k6 st Et hH=>?_;refine qS hH aB fun st hH=>?_;dsimp only[u2,u1,u3,u4,setMany,u5,u6,D.cells,Nat.reduceAdd,aL,aq,aQ,aE] at hH;refine qe hK<|qq<|qj fun K hK=>?_;refine ae.bF (m:=12) hH rfl (ev rfl) (by exact ez) (by dsimp only[List.drop_succ_cons,List.drop_zero,List.take_succ_cons,List.take_zero,aL,aq,aQ,aE]<;>rfl) rfl rfl (by dsimp only[Fr.put,u1,u2]<;>rfl) ?_;refine qa hH fun k7 st M1 hH=>?_;refine qS hH aB fun st hH=>?_;dsimp only[u2,u1,u3,u4,setMany,u5,u6,D.cells,Nat.reduceAdd,aL,aq,aQ,aE] at hH;refine qe hK<|qq<|qj fun K hK=>qp (o:=0) ?_;refine ql hH aB ?_;refine qA ?_;refine qp (o:=0) ?_;refine qT hH aB fun st hH=>?_;dsimp only[u2,u1,u3,u4,setMany,u5,u6,D.cells,Nat.reduceAdd,aL,aq,aQ,aE] at hH;refine qe hK<|qq<|qq<|qj fun K hK=>qp (o:=0) ?_;refine ql hH bu ?_;refine qe hK ?_;have WE:D.agg [.int .i64 0,.int .i64 0,.int .i64 0,.int .i64 0,.int .i64 0,.int .i64 0,.int .i64 0,.int .i64 0,.int .i64 0,.int .i64 0]=.agg (aE ax):=rfl;refine af.merge (fun fr st=>∃(t':dY) (tmp:List (Nat×D)),fr=⟨24,[.ptr k 0 0,du fr 1,du fr 2,.ptr k3 0 0,.ptr k4 0 0,.bool false,.ptr k6 0 0,.ptr k7 0 0,du fr 8,du fr 9,du fr 10,du fr 11,du fr 12,du fr 13,du fr 14,du fr 15,du fr 16,du fr 17,du fr 18,du fr 19,du fr 20,du fr 21,du fr 22,du fr 23],tmp⟩∧Has N S st (.box k7 (.mem 0 false (aQ t'))::.box k6 (.mem 0 false [.int .i64 op,.int .i64 x,.int .i64 y,rd])::.box k4 (.mem 0 false (aE ax))::.box k3 (.mem 0 false (aQ ⟨pc,at_,c⟩))::.box k (.mem 0 false [p.cd,p.sd,bZ gs,bD,gx,fk])::.aT fk 12 (bE.reverse.map aQ)::.aT bD 1 (bd.map aq)::H)∧(bn p.code gs bd ⟨pc,at_,c⟩=.more [t'])) ?_ ?_
 ·refine af.block<|qq<|qj fun K hK=>qg ?_;refine qm ?_;refine qe hK ?_;refine af.cond (by rfl) (fun h7=>?_) (fun h7=>?_)<;>try simp only[beq_iff_eq,beq_eq_false_iff_ne,ne_eq] at h7
  ·have hS:bn p.code gs bd ⟨pc,at_,c⟩=.found:=by unfold bn;simp only[hi];rw[if_pos h7]
   refine qq<|qj fun K hK=>qp (o:=2) ?_;refine ae.bF (m:=10) hH rfl (ev rfl) (by exact gm) (by dsimp only[List.drop_succ_cons,List.drop_zero,List.take_succ_cons,List.take_zero,aL,aq,aQ,aE]<;>rfl) rfl rfl (ag rfl _) ?_;refine qS hH ez fun st hH=>?_;dsimp only[u2,u1,u3,u4,setMany,u5,u6,D.cells,Nat.reduceAdd,aL,aq,aQ,aE] at hH;refine qm ?_;refine qe hK<|af.ret ⟨rx,_,_,_,hH.cm rfl ez rfl rfl,rfl,?_⟩;unfold eZ;rw[hS];exact⟨rfl,fk,hH.drop 4⟩
  ·refine qq<|qj fun K hK=>qg ?_;refine qm ?_;refine qe hK ?_;refine af.cond (by rfl) (fun h2=>?_) (fun h2=>?_)<;>try simp only[beq_iff_eq,beq_eq_false_iff_ne,ne_eq] at h2
   ·obtain⟨_,⟨hx0,hx1⟩,hy0,hy1⟩:=(kH.resolve_left h7).resolve_right (by omega);obtain⟨xn,rfl⟩:=Int.eq_ofNat_of_zero_le hx0;obtain⟨yn,rfl⟩:=Int.eq_ofNat_of_zero_le hy0;have hS:bn p.code gs bd ⟨pc,at_,c⟩=.more [⟨xn,at_,c⟩,⟨yn,at_,c⟩]:=by unfold bn;simp only[hi];rw[if_neg h7,if_pos h2];rfl
    refine qq<|qj fun K hK=>qm ?_;refine qm ?_;refine qg ?_;refine qp (o:=5) ?_;refine ql hH iZ ?_;refine qp (o:=2) ?_;refine ql hH bu ?_;refine qp (o:=1) ?_;refine ql hH gm ?_;refine qp (o:=2) ?_;refine ae.bF (m:=10) hH rfl (ev rfl) (by exact gm) (by dsimp only[List.drop_succ_cons,List.drop_zero,List.take_succ_cons,List.take_zero,aL,aq,aQ,aE]<;>rfl) rfl rfl (ag rfl _) ?_;refine ae.go (d:=.agg (aQ ⟨yn,at_,c⟩)) (st1:=_) rfl rfl rfl (ag rfl _) ?_;refine qp (o:=1) ?_;refine ql hH bu ?_;refine qp (o:=1) ?_;refine ql hH gm ?_;refine qp (o:=2) ?_;refine ae.bF (m:=10) hH rfl (ev rfl) (by exact gm) (by dsimp only[List.drop_succ_cons,List.drop_zero,List.take_succ_cons,List.take_zero,aL,aq,aQ,aE]<;>rfl) rfl rfl (ag rfl _) ?_;refine ae.go (d:=.agg (aQ ⟨xn,at_,c⟩)) (st1:=_) rfl rfl rfl (ag rfl _) ?_;refine qh (s:=12) (vs:=[_,_]) hH fun Wx st UQ hH=>?_;dsimp only[u2,u1,u3,u4,setMany,u5,u6,D.cells,Nat.reduceAdd,aL,aq,aQ,aE] at hH;refine ae.bG (s:=12) hH rfl (ev rfl) (ev rfl) (by exact Ko) (by exact hH.rows (by exact aB)) rfl rfl rfl rfl rfl rfl rfl ⟨(Nat.le_of_ble_eq_true rfl),(Nat.le_of_ble_eq_true rfl)⟩ (fun _=>(ag rfl _)) (by simp only[List.length_cons,List.length_nil,List.length_map,List.length_reverse]<;>omega) (by exact .inl hF) (fun Sp st hH=>?_);dsimp only[u2,u1,u3,u4,setMany,u5,u6,D.cells,Nat.reduceAdd,aL,aq,aQ,aE] at hH;refine qg ?_;refine qp (o:=5) ?_;refine qT hH qz (fun st hH=>?_) (jc:=hH.iN Ko);dsimp only[u2,u1,u3,u4,setMany,u5,u6,D.cells,Nat.reduceAdd,aL,aq,aQ,aE] at hH;refine qe hK<|qq<|qj fun K hK=>ae.go (d:=.agg (aE ax)) (st1:=_) rfl rfl rfl (ag rfl _) ?_;refine qS hH gm fun st hH=>?_;dsimp only[u2,u1,u3,u4,setMany,u5,u6,D.cells,Nat.reduceAdd,aL,aq,aQ,aE] at hH;refine qm ?_;refine qe hK<|af.ret ⟨rx,_,_,_,hH.cm rfl gm rfl rfl,rfl,?_⟩;unfold eZ;rw[hS];refine⟨rfl,Sp,?_⟩;have vq:((([⟨xn,at_,c⟩,⟨yn,at_,c⟩]:List dY)++bE).reverse.map aQ)=bE.reverse.map aQ++[aQ ⟨yn,at_,c⟩,aQ ⟨xn,at_,c⟩]:=by simp
    rw[vq];exact hH.drop 5
   ·refine qq<|qj fun K hK=>qg ?_;refine qm ?_;refine qe hK ?_;refine af.cond (by rfl) (fun h3=>?_) (fun h3=>?_)<;>try simp only[beq_iff_eq,beq_eq_false_iff_ne,ne_eq] at h3
    ·obtain⟨_,hx0,hx1⟩:=((kH.resolve_left h7).resolve_left (by omega)).resolve_right (by omega);obtain⟨xn,rfl⟩:=Int.eq_ofNat_of_zero_le hx0;refine qj fun K hK=>qp (o:=1) ?_;refine ql hH bu ?_;refine qp (o:=0) ?_;refine qT hH aB fun st hH=>?_;dsimp only[u2,u1,u3,u4,setMany,u5,u6,D.cells,Nat.reduceAdd,aL,aq,aQ,aE] at hH;refine qe hK ?_;exact⟨⟨xn,at_,c⟩,_,rfl,hH,by unfold bn;simp only[hi];rw[if_neg h7,if_neg h2,if_pos h3];rfl⟩
    ·refine qq<|qj fun K hK=>qg ?_;refine qm ?_;refine qe hK ?_;refine af.cond (by rfl) (fun h4=>?_) (fun h4=>?_)<;>try simp only[beq_iff_eq,beq_eq_false_iff_ne,ne_eq] at h4
     ·obtain⟨_,Od,hx0,hx1⟩:=(((kH.resolve_left h7).resolve_left (by omega)).resolve_left (by omega)).resolve_right (by omega);obtain⟨xn,rfl⟩:=Int.eq_ofNat_of_zero_le hx0
      obtain⟨bf,E8⟩:∃v,bd[at_]?=some v:=⟨bd[at_]'(by omega),List.getElem?_eq_getElem _⟩
      have gI:=cW E8;refine qj fun K hK=>qp (o:=1) ?_;refine ql hH bu ?_;refine qm ?_;refine qg ?_;refine qp (o:=3) ?_;refine ql hH iZ ?_;refine qp (o:=1) ?_;refine ql hH gm ?_;refine qi hH Ko fun SO Om=>?_;refine qo hH Ko ?_;refine qp (o:=2) ?_;refine ae.EA (m:=10) (s:=1) (i:=xn) (o:=2+xn) rfl (ev rfl) (ev rfl) rfl rfl (by omega) (by omega) (ag rfl _) ?_;refine ae.ow hH rfl (ev rfl) (ev rfl) rfl (by exact rfl) aB (by show 2+xn+1≤12;omega) (.inl hF) (fun st hH=>?_);change Has _ _ _ (.box k7 (.mem 0 false (setMany (_::_::aE c) (2+xn) [.int .i64 bf]))::_) at hH;rw[sL (by omega)] at hH;refine qe hK ?_;refine⟨⟨pc+1,at_,sO c xn bf⟩,_,rfl,hH,by unfold bn;simp only[hi];rw[if_neg h7,if_neg h2,if_neg h3,if_pos h4];simp[List.getD_eq_getElem?_getD,E8]⟩
     ·refine qq<|qj fun K hK=>qg ?_;refine qm ?_;refine qe hK ?_;refine af.cond (by rfl) (fun h5=>?_) (fun h5=>?_)<;>try simp only[beq_iff_eq,beq_eq_false_iff_ne,ne_eq] at h5
      ·refine qq<|qj fun K hK=>qp (o:=1) ?_;refine ql hH gm ?_;refine qg ?_;refine qe hK ?_
       by_cases ha:at_=0
       ·subst ha;refine af.cond (v:=false) (by dsimp only[Fr.ev,Fr.get,nth,V.look];rfl) (fun h=>by cases h) (fun _=>?_);refine af.skip ?_;exact⟨⟨pc+1,0,c⟩,_,rfl,hH,by unfold bn;simp only[hi];rw[if_neg h7,if_neg h2,if_neg h3,if_neg h4,if_pos h5];rfl⟩
       ·refine qD rfl (by simp;omega) ?_;refine qq<|qj fun K hK=>ae.go (d:=.agg (aE ax)) (st1:=_) rfl rfl rfl (ag rfl _) ?_;refine qS hH ez fun st hH=>?_;dsimp only[u2,u1,u3,u4,setMany,u5,u6,D.cells,Nat.reduceAdd,aL,aq,aQ,aE] at hH;refine qm ?_;refine qe hK<|af.ret ⟨rx,_,_,_,hH.cm rfl ez rfl rfl,rfl,?_⟩;have hS:bn p.code gs bd ⟨pc,at_,c⟩=.more []:=by unfold bn;simp only[hi];rw[if_neg h7,if_neg h2,if_neg h3,if_neg h4,if_pos h5,if_neg ha]
        unfold eZ;rw[hS];exact⟨rfl,fk,hH.drop 4⟩
      ·refine qq<|qj fun K hK=>qg ?_;refine qm ?_;refine qe hK ?_;refine af.cond (by rfl) (fun h6=>?_) (fun h6=>?_)<;>try simp only[beq_iff_eq,beq_eq_false_iff_ne,ne_eq] at h6
       ·refine qq<|qj fun K hK=>qp (o:=1) ?_;refine ql hH gm ?_;refine qm ?_;refine qg ?_;refine qp (o:=2) ?_;refine ql hH iZ ?_;refine qn ?_;simp only[List.length_map];refine qg ?_;refine qe hK ?_
        by_cases ha:at_=gs.length
        ·refine qE rfl (by rw[ha];simp) ?_;refine af.skip ?_;exact⟨⟨pc+1,at_,c⟩,_,rfl,hH,by unfold bn;simp only[hi];rw[if_neg h7,if_neg h2,if_neg h3,if_neg h4,if_neg h5,if_pos h6,if_pos ha]⟩
        ·refine qD rfl (by simp;omega) ?_;refine qq<|qj fun K hK=>ae.go (d:=.agg (aE ax)) (st1:=_) rfl rfl rfl (ag rfl _) ?_;refine qS hH ez fun st hH=>?_;dsimp only[u2,u1,u3,u4,setMany,u5,u6,D.cells,Nat.reduceAdd,aL,aq,aQ,aE] at hH;refine qm ?_;refine qe hK<|af.ret ⟨rx,_,_,_,hH.cm rfl ez rfl rfl,rfl,?_⟩;have hS:bn p.code gs bd ⟨pc,at_,c⟩=.more []:=by unfold bn;simp only[hi];rw[if_neg h7,if_neg h2,if_neg h3,if_neg h4,if_neg h5,if_pos h6,if_neg ha]
         unfold eZ;rw[hS];exact⟨rfl,fk,hH.drop 4⟩
       ·have h1:op=1:=by omega
        refine qq<|qj fun K hK=>qg ?_;refine qm ?_;refine qe hK<|qD rfl (by simp[h1]) ?_
        have kv:∀b,bn p.code gs bd ⟨pc,at_,c⟩=.more b↔(.more (if at_<gs.length∧fJ rs ((gs.getD at_ (0,0)).1:Nat)=true then[⟨pc+1,at_+1,c⟩] else[]):r_)=.more b:=by
         intro b;unfold bn;simp only[hi];rw[if_neg h7,if_neg h2,if_neg h3,if_neg h4,if_neg h5,if_neg h6]
        by_cases ha:at_<gs.length
        ·obtain⟨g,hg⟩:∃g,gs[at_]?=some g:=⟨gs[at_]'ha,List.getElem?_eq_getElem _⟩
         have gI:(gs.map aU)[at_]?=some (aU g):=by rw[List.getElem?_map,hg];rfl
         have zT:gs.getD at_ (0,0)=g:=by rw[List.getD_eq_getElem?_getD,hg];rfl
         have er:decide ((at_:Int)≥(gs.length:Nat))=false:=by rw[decide_eq_false];simp;omega
         rw[zT] at kv;refine qq<|qq<|af.eY 114 (.bool (!fJ rs (g.1:Nat))) [] ?_ (fun ff tmp d_=>?_)
         ·refine qp (o:=1) ?_;refine ql hH gm ?_;refine qm ?_;refine qg ?_;refine qp (o:=2) ?_;refine ql hH iZ ?_;refine qn ?_;simp only[List.length_map];refine qg ?_;refine qm ?_;refine qp (o:=3) ?_ (hg:=wi er);refine ql hH bu ?_ (hg:=wi er);refine qm ?_ (hg:=wi er);refine qg ?_ (hg:=wi er);refine qp (o:=2) ?_ (hg:=wi er);refine ql hH iZ ?_ (hg:=wi er);refine qp (o:=1) ?_ (hg:=wi er);refine ql hH gm ?_ (hg:=wi er);refine qr (fun Tb Ru=>?_) (hg:=wi er);refine qf (fo:=0) (fun Ta Rt=>?_) (hg:=wi er);refine qR ?_ (hg:=wi er);refine qv (JB (I9.rows hH) (by omega)) ?_ (hg:=wi er);refine qg ?_ (hg:=wi er);refine qu er ?_;refine ae.nil (bq ?_ ?_)
          ·dsimp only[aD,List.foldl,nth,u2,u1]
           all_goals(first|rfl|simp)
          ·dsimp only[Fr.au,Fr.put,Fr.clean,Fr.ev,Fr.get,nth,look,u1,u2,v1,v2,v4]
           all_goals(first|rfl|(simp[er];done)|(simp_all;done)|(simp[er];omega)|(simp_all;omega))
         dsimp only[aD,List.foldl,nth,u2,u1];refine af.cond (by assumption) (fun hh=>?_) (fun hh=>?_)<;>try simp only[Bool.not_eq_true',Bool.not_eq_false'] at hh
         ·refine qq<|qj fun K hK=>ae.go (d:=.agg (aE ax)) (st1:=_) rfl rfl rfl (ag rfl _) ?_;refine qS hH ez fun st hH=>?_;dsimp only[u2,u1,u3,u4,setMany,u5,u6,D.cells,Nat.reduceAdd,aL,aq,aQ,aE] at hH;refine qm ?_;refine qe hK<|af.ret ⟨rx,_,_,_,hH.cm rfl ez rfl rfl,rfl,?_⟩;have hS:=(kv []).2 (by rw[if_neg (by rintro⟨_,h⟩;rw[h] at hh;cases hh)]);unfold eZ;rw[hS];exact⟨rfl,fk,hH.drop 4⟩
         ·refine af.skip<|qj fun K hK=>qp (o:=1) ?_;refine ql hH aB ?_;refine qA ?_;refine qp (o:=1) ?_;refine qT hH aB fun st hH=>?_;dsimp only[u2,u1,u3,u4,setMany,u5,u6,D.cells,Nat.reduceAdd,aL,aq,aQ,aE] at hH;refine qe hK ?_;exact⟨⟨pc+1,at_+1,c⟩,_,rfl,hH,(kv _).2 (by rw[if_pos ⟨ha,by simpa using hh⟩])⟩
        ·have er:decide ((at_:Int)≥(gs.length:Nat))=true:=by rw[decide_eq_true];simp;omega
         refine qq<|qq<|af.eY 114 (.bool true) [] ?_ (fun ff tmp d_=>?_)
         ·refine qp (o:=1) ?_;refine ql hH gm ?_;refine qm ?_;refine qg ?_;refine qp (o:=2) ?_;refine ql hH iZ ?_;refine qn ?_;simp only[List.length_map];refine qg ?_;refine qm ?_;refine qs ?_ (hg:=wn er);refine qs ?_ (hg:=wn er);refine qs ?_ (hg:=wn er);refine qs ?_ (hg:=wn er);refine qs ?_ (hg:=wn er);refine qs ?_ (hg:=wn er);refine qs ?_ (hg:=wn er);refine qs ?_ (hg:=wn er);refine qs ?_ (hg:=wn er);refine qs ?_ (hg:=wn er);refine qs ?_ (hg:=wn er);refine qs ?_ (hg:=wn er);refine qs ?_ (hg:=wn er);refine qt er ?_;refine ae.nil (bq ?_ ?_)
          ·dsimp only[aD,List.foldl,nth,u2,u1]
           all_goals(first|rfl|simp)
          ·dsimp only[Fr.au,Fr.put,Fr.clean,Fr.ev,Fr.get,nth,look,u1,u2,v1,v2,v4]
           all_goals(first|rfl|(simp[er];done)|(simp_all;done)|(simp[er];omega)|(simp_all;omega))
         dsimp only[aD,List.foldl,nth,u2,u1];refine qB ?_;refine qq<|qj fun K hK=>ae.go (d:=.agg (aE ax)) (st1:=_) rfl rfl rfl (ag rfl _) ?_;refine qS hH ez fun st hH=>?_;dsimp only[u2,u1,u3,u4,setMany,u5,u6,D.cells,Nat.reduceAdd,aL,aq,aQ,aE] at hH;refine qm ?_;refine qe hK<|af.ret ⟨rx,_,_,_,hH.cm rfl ez rfl rfl,rfl,?_⟩;have hS:=(kv []).2 (by rw[if_neg (fun h=>ha h.1)]);unfold eZ;rw[hS];exact⟨rfl,fk,hH.drop 4⟩
 ·rintro fr st ⟨t',tmp,hfr,hH,hS⟩;rw[hfr];clear hfr;generalize du fr=ee;clear fr;obtain⟨Ns,QD,c'⟩:=t';dsimp only[aQ,aE] at hH;refine qq<|qj fun K hK=>qm ?_;refine qm ?_;refine qg ?_;refine qp (o:=5) ?_;refine ql hH iZ ?_;refine ae.bF (m:=12) hH rfl (ev rfl) (by exact aB) (by dsimp only[List.drop_succ_cons,List.drop_zero,List.take_succ_cons,List.take_zero,aL,aq,aQ,aE]<;>rfl) rfl rfl (ag rfl _) ?_;refine qh (s:=12) (vs:=[_]) hH fun TD st RM hH=>?_;refine ae.bG (s:=12) hH rfl (ev rfl) (ev rfl) (by exact Ko) (by exact hH.rows (by exact aB)) rfl rfl rfl rfl rfl rfl rfl ⟨(Nat.le_of_ble_eq_true rfl),(Nat.le_of_ble_eq_true rfl)⟩ (fun _=>(ag rfl _)) (by simp only[List.length_cons,List.length_nil,List.length_map,List.length_reverse]<;>omega) (by exact .inl hF) (fun Nf st hH=>?_);dsimp only[u2,u1,u3,u4,setMany,u5,u6,D.cells,Nat.reduceAdd,aL,aq,aQ,aE] at hH;refine qg ?_;refine qp (o:=5) ?_;refine qT hH qz (fun st hH=>?_) (jc:=hH.iN Ko);dsimp only[u2,u1,u3,u4,setMany,u5,u6,D.cells,Nat.reduceAdd,aL,aq,aQ,aE] at hH;refine qe hK<|qq<|qj fun K hK=>ae.go (d:=.agg (aE ax)) (st1:=_) rfl rfl rfl (ag rfl _) ?_;refine qS hH gm fun st hH=>?_;dsimp only[u2,u1,u3,u4,setMany,u5,u6,D.cells,Nat.reduceAdd,aL,aq,aQ,aE] at hH;refine qm ?_;refine qe hK<|af.ret ⟨rx,_,_,_,hH.cm rfl gm rfl rfl,rfl,?_⟩;unfold eZ;rw[hS];refine⟨rfl,Nf,?_⟩;have vq:((([⟨Ns,QD,c'⟩]:List dY)++bE).reverse.map aQ)=bE.reverse.map aQ++[aQ ⟨Ns,QD,c'⟩]:=by simp
  rw[vq];exact hH.drop 5
end Go.Proofs.Ytbdilgkfnacahaa
namespace Go.Proofs.Ytbdilgkfnacahaa
open Go.V Go
def hY (fr:Go.V.Fr) (k:Nat):Go.V.D:=Go.V.nth .bA fr.loc k
def fS (idx:Nat→Nat→Nat) (eS:dY→r_):Nat→List Bool→List dY→Option oY×List Bool
 |0,arr,_=>(none,arr)
 |_+1,arr,[]=>(none,arr)
 |f+1,arr,t::bE=>match arr[idx t.pc t.at_]? with
  |some false=>match eS t with
   | .found=>(some t.c,arr.set (idx t.pc t.at_) true)
   | .more l=>fS idx eS f (arr.set (idx t.pc t.at_) true) (l++bE)
  |_=>fS idx eS f arr bE
theorem sE (code:List bC) (gs:List (Nat×Nat)) (pl:List Int) (t:dY):∀l,bn code gs pl t=.more l→l.length≤2:=by
 intro l h;unfold bn at h
 split at h
 ·cases h;simp
 ·repeat' split at h
  all_goals(first|(cases h;done)|(cases h;simp;done)|(cases h;split<;>simp))
def tq (p:Pg) (gs:List (Nat×Nat)) (t:dY):Prop:=t.pc<p.code.length∧t.at_≤gs.length
theorem qK {p:Pg} {gs:List (Nat×Nat)} {pl:List Int} (hR:eQ p) {t:dY} (ht:tq p gs t):∀l,bn p.code gs pl t=.more l→∀u∈l,tq p gs u:=by
 intro l h u hu;obtain⟨h1,h2⟩:=ht
 obtain⟨i,hi⟩:∃i,p.code[t.pc]?=some i:=⟨p.code[t.pc]'h1,List.getElem?_eq_getElem _⟩
 have hc:=iG (hR.sh t.pc i hi);unfold bn at h;rw[hi] at h;simp only at h
 split at h
 ·cases h
 ·split at h
  ·cases h;simp only[List.mem_cons,List.not_mem_nil,or_false] at hu
   rcases hu with rfl|rfl
   ·exact⟨by show i.x.toNat<_;omega,h2⟩
   ·exact⟨by show i.y.toNat<_;omega,h2⟩
  ·split at h
   ·cases h;simp only[List.mem_cons,List.not_mem_nil,or_false] at hu;subst hu;exact⟨by show i.x.toNat<_;omega,h2⟩
   ·split at h
    ·cases h;simp only[List.mem_cons,List.not_mem_nil,or_false] at hu;subst hu;exact⟨by show t.pc+1<_;omega,h2⟩
    ·split at h
     ·cases h
      split at hu
      ·simp only[List.mem_cons,List.not_mem_nil,or_false] at hu;subst hu;exact⟨by show t.pc+1<_;omega,h2⟩
      ·cases hu
     ·split at h
      ·cases h
       split at hu
       ·simp only[List.mem_cons,List.not_mem_nil,or_false] at hu;subst hu;exact⟨by show t.pc+1<_;omega,h2⟩
       ·cases hu
      ·cases h
       split at hu
       ·rename_i h8;simp only[List.mem_cons,List.not_mem_nil,or_false] at hu;subst hu;exact⟨by show t.pc+1<_;omega,by show t.at_+1≤_;omega⟩
       ·cases hu
theorem sC (v:dY) (r:List dY):((v::r).reverse.map aQ)[r.length]?=some (aQ v):=by
 rw[List.getElem?_map,List.reverse_cons,List.getElem?_append_right (by simp)];simp
theorem wm (v:dY) (r:List dY):(((v::r).reverse.map aQ).take r.length).drop 0=r.reverse.map aQ:=by
 rw[List.reverse_cons,List.map_append,List.drop_zero,List.take_left' (by simp)]
def DR (r:Option oY):D:=match r with
 |some c=>.tup [.agg (aE c),.bool true]
 |none=>.tup [.agg (aE ax),.bool false]
def kj (n:Nat) (pc at_:Nat):Nat:=at_*n+pc
theorem Ac {N:Nat} {S st:St} {H:List cz} {k:Nat} {p:Pg} {gs:List (Nat×Nat)} {bD gx fk:D} {bd:List Int} {kh:List (List D)} {arr:List Bool} {start i:Nat} (hF:S.flr≤N) (hp:p.ok) (hR:eQ p) (nF:gs.length≤1048576) (ji:bd.length=gs.length+1) (hsz:(gs.length+1)*p.code.length≤134217728) (hal:arr.length=(gs.length+1)*p.code.length) (eA:start<p.code.length) (hi:i≤gs.length)
  (hH:Has N S st (.box k (.mem 0 false [p.cd,p.sd,bZ gs,bD,gx,fk])::.aT fk 12 kh::.aT bD 1 (bd.map aq)::.aT gx 1 (arr.map aM)::H)):
  ∃d ai,Ev pv 57 [.ptr k 0 0,.int .i64 (start:Nat),.int .i64 (i:Nat)] st d ai∧∃zx IE,d=DR (fS (kj p.code.length) (bn p.code gs bd) (3*arr.length+1) arr [⟨start,i,aK⟩]).1∧
   Has N S ai (.box k (.mem 0 false [p.cd,p.sd,bZ gs,bD,gx,zx])::.aT zx 12 IE::.aT bD 1 (bd.map aq)::.aT gx 1 ((fS (kj p.code.length) (bn p.code gs bd) (3*arr.length+1) arr [⟨start,i,aK⟩]).2.map aM)::H):=by
 have hlen:=hp.cl
 obtain⟨R,A2⟩:∃R,fS (kj p.code.length) (bn p.code gs bd) (3*arr.length+1) arr [⟨start,i,aK⟩]=R:=⟨_,rfl⟩
 rw[A2];have Md:=List.count_le_length (a:=false) (l:=arr);refine Ev.mP rfl P2 rfl rfl rfl ?_;dsimp only[u3,u4,List.length,Nat.reduceSub,Nat.reduceAdd,w1,w2];change af _ _ _ _ st _;refine qq<|qj fun K hK=>qa hH fun k6 st Et hH=>?_;refine qm ?_;refine qe hK<|qq<|qj fun K hK=>qm ?_;refine qm ?_;refine qg ?_;refine qp (o:=5) ?_;refine ql hH bu ?_;refine ae.nY hH rfl (ev rfl) (by exact ez) rfl rfl (fL (n:=0) (by omega)) ⟨by omega,by omega⟩ (fun _=>(ag rfl _)) (fun VM hH=>?_);dsimp only[u1,u2,List.take_zero] at hH;rw[List.drop_nil] at hH;refine qm ?_;refine qm ?_;refine qv (Ev.iL rfl rfl) ?_;refine ae.go (d:=.agg (aQ ⟨start,i,aK⟩)) (st1:=_) rfl rfl rfl (ag rfl _) ?_;refine qh (s:=12) (vs:=[_]) hH fun WB st U0 hH=>?_;dsimp only[u2,u1,u3,u4,setMany,u5,u6,D.cells,Nat.reduceAdd,aL,aq,aM,aQ,aE,aK,ax] at hH;refine ae.bG (s:=12) hH rfl (ev rfl) (ev rfl) (by exact gm) (by exact hH.rows (by exact aB)) rfl rfl rfl rfl rfl rfl rfl ⟨(Nat.le_of_ble_eq_true rfl),(Nat.le_of_ble_eq_true rfl)⟩ (fun _=>(ag rfl _)) (by simp only[List.length_cons,List.length_nil,List.length_map]<;>omega) (by exact .inl hF) (fun VT st hH=>?_);dsimp only[u2,u1,u3,u4,setMany,u5,u6,D.cells,Nat.reduceAdd,aL,aq,aM,aQ,aE,aK,ax] at hH;refine qg ?_;refine qp (o:=5) ?_;refine qT hH ez (fun st hH=>?_) (jc:=hH.iN gm);dsimp only[u2,u1,u3,u4,setMany,u5,u6,D.cells,Nat.reduceAdd,aL,aq,aM,aQ,aE,aK,ax] at hH;refine qe hK<|qq<|af.block<|af.loop (fun mm fr st=>∃(ld:D) (ar:List Bool) (bE:List dY),fr.clean=⟨12,[.ptr k 0 0,hY fr 1,hY fr 2,hY fr 3,hY fr 4,hY fr 5,.ptr k6 0 0,.bool false,hY fr 8,hY fr 9,hY fr 10,hY fr 11],[]⟩∧Has N S st (.box k6 (.mem 0 false (aE ax))::.box k (.mem 0 false [p.cd,p.sd,bZ gs,bD,gx,ld])::.aT ld 12 (bE.reverse.map aQ)::.aT bD 1 (bd.map aq)::.aT gx 1 (ar.map aM)::H)∧(fS (kj p.code.length) (bn p.code gs bd) mm ar bE=R)∧(3*ar.count false+bE.length≤mm)∧(ar.length=(gs.length+1)*p.code.length)∧(∀v∈bE,tq p gs v)∧(mm≤3*arr.length+1)) (3*arr.length+1) ?_ ?_
 ·exact⟨_,arr,[⟨start,i,aK⟩],rfl,(by exact hH.drop 1),A2,(by simp only[List.length_cons,List.length_nil];omega),hal,(by intro v hv;simp only[List.mem_cons,List.not_mem_nil,or_false] at hv;subst hv;exact⟨eA,hi⟩),Nat.le_refl _⟩
 rintro mm fr st ⟨ld,ar,bE,hfr,hH,hd,hm,hal,hsk,sk⟩;rw[hfr];clear hfr;generalize hY fr=ee;clear fr
 rcases bE with _|⟨v,bE⟩
 ·refine qq<|qq<|qj fun K hK=>qm ?_;refine qg ?_;refine qp (o:=5) ?_;refine ql hH bu ?_;refine qn ?_ (hR:=hH.rows ez);simp only[List.length_map,List.length_nil,List.length_reverse];refine qg ?_;refine qe hK<|af.cond (v:=false) (by dsimp only[Fr.ev,Fr.get,nth,V.look];rfl) (fun h=>by cases h) (fun _=>?_);refine af.exit<|qq<|qj fun K hK=>ae.go (d:=.agg (aE ax)) (st1:=_) rfl rfl rfl (ag rfl _) ?_;refine qS hH aB fun st hH=>?_;dsimp only[u2,u1,u3,u4,setMany,u5,u6,D.cells,Nat.reduceAdd,aL,aq,aM,aQ,aE,aK,ax] at hH;refine qm ?_;refine qe hK ?_;have dD:R=(none,ar):=by rw[←hd];cases mm<;>rfl
  refine af.ret ⟨rx,_,_,_,hH.cm rfl aB rfl rfl,rfl,?_⟩;rw[dD];exact⟨_,_,rfl,hH.drop 1⟩
 ·have hv:=hsk v (List.mem_cons_self ..);obtain⟨vp,uD⟩:=hv;have eA:∀w∈bE,tq p gs w:=fun w hw=>hsk w (List.mem_cons_of_mem _ hw);simp only[List.length_cons] at hm
  obtain⟨mm,rfl⟩:∃m',mm=m'+1:=⟨mm-1,by omega⟩
  have hbd:v.at_*p.code.length+v.pc<ar.length:=by
   have h1:(v.at_+1)*p.code.length≤(gs.length+1)*p.code.length:=Nat.mul_le_mul_right _ (by omega);rw[Nat.add_mul,Nat.one_mul] at h1;omega
  obtain⟨b,hb⟩:∃b,ar[kj p.code.length v.pc v.at_]?=some b:=⟨ar[kj p.code.length v.pc v.at_]'hbd,List.getElem?_eq_getElem _⟩
  obtain⟨ii,hii⟩:∃x,p.code[v.pc]?=some x:=⟨p.code[v.pc]'vp,List.getElem?_eq_getElem _⟩
  have Ee:=fun l=>qK (pl:=bd) hR (t:=v) ⟨vp,uD⟩ l;have N2:=sE p.code gs bd v;have gI:=sC v bE;have kP:=iB hb
  obtain⟨m,ky⟩:∃m,v.at_*p.code.length=m:=⟨_,rfl⟩
  have Fc:kj p.code.length v.pc v.at_=m+v.pc:=by unfold kj;rw[ky]
  rw[ky] at hbd;rw[Fc] at kP;have Vh:=hp.c.arg N S;refine qq<|qq<|qj fun K hK=>qm ?_;refine qg ?_;refine qp (o:=5) ?_;refine ql hH bu ?_;refine qn ?_ (hR:=hH.rows ez);simp only[List.length_map,List.length_cons,List.length_reverse];refine qg ?_;refine qe hK<|qD rfl (by simp) ?_;refine af.skip<|af.block<|qq<|qj fun K hK=>qm ?_;refine qg ?_;refine qp (o:=5) ?_;refine ql hH bu ?_;refine qm ?_;refine qg ?_;refine qp (o:=5) ?_;refine ql hH bu ?_;refine qn ?_ (hR:=hH.rows ez);simp only[List.length_map,List.length_cons,List.length_reverse];refine ae.gj (z:=((bE.length:Nat):Int)) rfl (ev rfl) (ev rfl) (by(try simp only[List.length_reverse,List.length_cons,List.length_nil,List.length_append,List.length_map,List.length_set]);rw[wrap_i64 (by omega) (by omega)]<;>omega) (ag rfl _) ?_;refine qi hH ez fun SU Ou=>?_;refine ae.ra hH rfl (ev rfl) (by assumption) (by exact ez) (by assumption) rfl (ag rfl _) ?_;refine qa hH fun k8 st OO hH=>?_;dsimp only[u2,u1,u3,u4,setMany,u5,u6,D.cells,Nat.reduceAdd,aL,aq,aM,aQ,aE,aK,ax] at hH;refine qS hH aB fun st hH=>?_;dsimp only[u2,u1,u3,u4,setMany,u5,u6,D.cells,Nat.reduceAdd,aL,aq,aM,aQ,aE,aK,ax] at hH;refine qe hK<|qq<|qj fun K hK=>qm ?_;refine qm ?_;refine qg ?_;refine qp (o:=5) ?_;refine ql hH ez ?_;refine qm ?_;refine qg ?_;refine qp (o:=5) ?_;refine ql hH ez ?_;refine qn ?_ (hR:=hH.rows gm);simp only[List.length_map,List.length_cons,List.length_reverse];refine ae.gj (z:=((bE.length:Nat):Int)) rfl (ev rfl) (ev rfl) (by(try simp only[List.length_reverse,List.length_cons,List.length_nil,List.length_append,List.length_map,List.length_set]);rw[wrap_i64 (by omega) (by omega)]<;>omega) (ag rfl _) ?_;refine ae.nY hH rfl (ev rfl) (by exact gm) rfl rfl (fL (by simp only[List.length_map,List.length_reverse,List.length_cons,List.length_append,List.length_nil,List.length_take,List.length_drop,List.length_set,List.length_replicate];omega)) ⟨(by omega),(by simp only[List.length_map,List.length_reverse,List.length_cons,List.length_append,List.length_nil,List.length_take,List.length_drop,List.length_set,List.length_replicate];omega)⟩ (fun _=>(ag rfl _)) (fun QH hH=>?_);refine qg ?_;refine qp (o:=5) ?_;refine qT hH ez (fun st hH=>?_) (jc:=hH.iN gm);dsimp only[u2,u1,u3,u4,setMany,u5,u6,D.cells,Nat.reduceAdd,aL,aq,aM,aQ,aE,aK,ax] at hH;refine qe hK ?_;rw[wm] at hH;refine qq<|qj fun K hK=>qp (o:=1) ?_;refine ql hH aB ?_;refine qm ?_;refine qg ?_;refine qp (o:=0) ?_;refine qp (o:=0) ?_;refine ql hH ez ?_;refine qn ?_;simp only[List.length_map];refine ae.na (z:=((m:Nat):Int)) rfl (ev rfl) (ev rfl) (by rw[←Int.natCast_mul,ky];exact cA (by simp only[hO];omega)) (ag rfl _) ?_;refine qp (o:=0) ?_;refine ql hH aB ?_;refine ae.EW rfl (ev rfl) (ev rfl) (by omega) (ag rfl _) ?_;refine qm ?_;refine qe hK<|qq<|qq<|qj fun K hK=>qm ?_;refine qg ?_;refine qp (o:=4) ?_;refine ql hH ez ?_;refine qm ?_;refine qi hH qz fun SM Oj=>?_;refine qo hH qz ?_;refine qe hK ?_
  cases b with
  |true=>
   refine qB ?_;refine af.exit ?_;simp only[fS,hb] at hd;exact⟨mm,by omega,⟨_,ar,bE,rfl,(hH.drop 1),hd,by omega,hal,eA,by omega⟩⟩
  |false=>
   have zY:=count_set hb;have c9:(ar.set (kj p.code.length v.pc v.at_) true).map aM=(ar.map aM).set (m+v.pc) [.bool true]:=by rw[List.map_set,Fc];rfl
   simp only[fS,hb] at hd;refine qC ?_;refine af.skip<|qq<|qj fun K hK=>qm ?_;refine qg ?_;refine qp (o:=4) ?_;refine ql hH ez ?_;refine qm ?_;refine qi hH qz fun SJ Og=>?_;refine ae.gz hH rfl (ev rfl) (ev rfl) (by assumption) rfl rfl (by exact qz) (by assumption) (Nat.le_of_ble_eq_true rfl) (by exact .inl hF) (fun st hH=>?_);dsimp only[u2,u1,u3,u4,setMany,u5,u6,D.cells,Nat.reduceAdd,aL,aq,aM,aQ,aE,aK,ax] at hH;refine qe hK ?_
   have Vx:Has N S st (.box k (.mem 0 false [p.cd,p.sd,bZ gs,bD,gx,QH])::.aT QH 12 (bE.reverse.map aQ)::.aT bD 1 (bd.map aq)::.box k6 (.mem 0 false (aE ax))::.aT gx 1 ((ar.map aM).set (m+v.pc) [.bool true])::H):=
    (((hH.drop 1).front (j:=3) rfl).front (j:=3) rfl).front (j:=3) rfl
   obtain⟨d,st1,aS,jJ⟩:=A_ hF hp hii (hR.sh v.pc ii hii) nF uD ji (by omega) Vx;unfold eZ at jJ
   cases hS:bn p.code gs bd v with
   |found=>
    rw[hS] at jJ hd;simp only at jJ hd;obtain⟨rfl,NH,JF⟩:=jJ;have JF:=JF.front (j:=3) rfl;refine qq<|qj fun K hK=>qm ?_;refine ae.bF (m:=12) hH rfl (ev rfl) (by exact aB) (by dsimp only[List.drop_succ_cons,List.drop_zero,List.take_succ_cons,List.take_zero,aL,aq,aM,aQ,aE,aK,ax]<;>rfl) rfl rfl (ag rfl _) ?_;refine qv (aS) ?_;refine qm ?_;refine qg ?_;refine qg ?_;refine ae.oF JF rfl rfl (fun _=>by dsimp only[Fr.put,u1,u2]<;>rfl) (fun TE st OX hH=>?_);dsimp only[aE,ax] at hH;refine qT hH aB fun st hH=>?_;dsimp only[u2,u1,u3,u4,setMany,u5,u6,D.cells,Nat.reduceAdd,aL,aq,aM,aQ,aE,aK,ax] at hH;refine qm ?_;refine qe hK<|qq<|qj fun K hK=>qm ?_;refine qe hK<|qB ?_;refine qq<|qj fun K hK=>?_;refine ae.bF (m:=10) hH rfl (ev rfl) (by exact aB) (by dsimp only[List.drop_succ_cons,List.drop_zero,List.take_succ_cons,List.take_zero,aL,aq,aM,aQ,aE,aK,ax]<;>rfl) rfl rfl (ag rfl _) ?_;refine qS hH bu fun st hH=>?_;dsimp only[u2,u1,u3,u4,setMany,u5,u6,D.cells,Nat.reduceAdd,aL,aq,aM,aQ,aE,aK,ax] at hH;refine qm ?_;refine qe hK<|af.ret ⟨rx,_,_,_,hH.cm rfl bu rfl rfl,rfl,?_⟩;rw[←hd];exact⟨_,_,rfl,(by rw[c9];exact hH.drop 2)⟩
   |more l=>
    rw[hS] at jJ hd;simp only at jJ hd;obtain⟨rfl,NH,JF⟩:=jJ;have JF:=JF.front (j:=3) rfl;have uF:=N2 l hS;refine qq<|qj fun K hK=>qm ?_;refine ae.bF (m:=12) hH rfl (ev rfl) (by exact aB) (by dsimp only[List.drop_succ_cons,List.drop_zero,List.take_succ_cons,List.take_zero,aL,aq,aM,aQ,aE,aK,ax]<;>rfl) rfl rfl (ag rfl _) ?_;refine qv (aS) ?_;refine qm ?_;refine qg ?_;refine qg ?_;refine ae.oF JF rfl rfl (fun _=>by dsimp only[Fr.put,u1,u2]<;>rfl) (fun TE st OX hH=>?_);dsimp only[aE,ax] at hH;refine qT hH aB fun st hH=>?_;dsimp only[u2,u1,u3,u4,setMany,u5,u6,D.cells,Nat.reduceAdd,aL,aq,aM,aQ,aE,aK,ax] at hH;refine qm ?_;refine qe hK<|qq<|qj fun K hK=>qm ?_;refine qe hK<|qC ?_;refine af.skip ?_;refine⟨mm,by omega,⟨_,ar.set (kj p.code.length v.pc v.at_) true,l++bE,rfl,(by rw[c9];exact hH.drop 1),hd,by simp only[List.length_append];omega,by rw[List.length_set];exact hal,?_,by omega⟩⟩;intro w hw
    rcases List.mem_append.1 hw with hw|hw
    ·exact Ee l hS w hw
    ·exact eA w hw
end Go.Proofs.Ytbdilgkfnacahaa
