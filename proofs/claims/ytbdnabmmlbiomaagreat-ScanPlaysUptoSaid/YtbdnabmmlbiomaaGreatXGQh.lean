import Derived.Test.YtbdnabmmlbiomaaGreatXGQd
import Derived.Test.YtbdnabmmlbiomaaGreatXGPi
import Derived.Test.YtbdnabmmlbiomaaGreatXGUb
set_option maxRecDepth 100000
set_option maxHeartbeats 4000000
set_option linter.unusedSimpArgs false
set_option linter.unusedVariables false
namespace Go.Proofs.YtbdnabmmlbiomaaGreat
open Go.V Go
def af (fr:Go.V.Fr) (k:Nat):Go.V.D:=Go.V.nth .bp fr.loc k
theorem sF {c:Nat→List aO} (hc:∀b,(c b).length=0) (z:Nat):∀k b,fv c z k b=[]
 |0,_=>rfl
 |k+1,b=>by rw[fv,sF hc z k,List.length_eq_zero_iff.1 (hc b)];rfl
theorem Cj (s o:Nat) (lz:Bool):∃x y:Int,nE s o lz=c8 2 x y []:=by
 cases lz
 ·exact⟨_,_,rfl⟩
 ·exact⟨_,_,rfl⟩
theorem AU {l:List dM} (o4:l.length≤1048576) {m:Nat} (ih:∀t:Tr,t.flat.length≤m→rQ l t) {n:dM} {t:Tr} (gg:n.op=5) (Zu:t.flat.length≤m) (l_:v_ n 1) (rZ:t.ok) {N k:Nat} {S s0:St} {H:List bt} {nd zd ed:D} {code:List aO} {Z E:List Int} {at_:Nat} (hF:S.flr≤N) (yI:eE nd 7 (l.map bm)) (iT:fO l at_ (n::t.flat)) (hsz:fO Z (at_+1) t.zs) (u7:fO E (at_+1) (t.es (at_+1))) (hb:code.length+bQ n t.sz 1≤1000000) (hM:RF N S s0 k nd zd ed Z E H code):
  ∃r ai,Ev pv 125 [.ptr k 0 0,.int .i64 (at_:Nat)] s0 r ai∧r=.tup []∧RF N S ai k nd zd ed Z E H (code++nK n (aX t) t.sz code.length):=by
 obtain⟨cd,dk,hH⟩:=hM;have hle:=iT.le (by simp);simp only[List.length_cons] at hle;have hn:=iT.head;have iT:=iT.tail;have gJ:=lI hn;have o3:=eO (zp hsz)
 have B3:0≤n.mn∧n.mn≤30∧(n.mx=-1∨(n.mn≤n.mx∧n.mx≤30)):=by
  obtain⟨_,hq⟩:=l_;omega
 have Li:bQ n t.sz 1=if n.mx=-1 then n.mn.toNat*t.sz+t.sz+2 else n.mn.toNat*t.sz+(n.mx.toNat-n.mn.toNat)*(t.sz+1):=by unfold bQ;rw[if_neg (by omega),if_neg (by omega),if_neg (by omega),if_pos gg]
 rw[Li] at hb;clear Li;have Bj:=fun b=>cy t b rZ;have hb1:code.length+n.mn.toNat*t.sz≤1000000:=by split at hb<;>omega
 refine Ev.il rfl Uq rfl rfl rfl ?_;dsimp only[u3,u4,List.length,Nat.reduceSub,Nat.reduceAdd,w1,w2];change ab _ _ _ _ s0 _;have hc:=yI.arg N S;refine qq<|qj fun K hK=>qm ?_;refine qg ?_;refine qp (o:=1) ?_;refine ql hH aB ?_;refine qm ?_;refine qr fun Vx Qj=>?_;refine aa.db rfl (ev rfl) (by assumption) rfl (by dsimp only[Fr.put,u1,u2]<;>rfl) ?_;refine qm ?_;refine qA ?_;refine qa hH fun k4 st Ry hH=>?_;refine qS hH aB fun st hH=>?_;dsimp only[u2,u1,u3,u4,setMany,u5,u6,D.cells,Nat.reduceAdd,aH,bm,ay,kR] at hH;refine qm ?_;refine qe hK ?_;have hH:Has N S st (.box k (.mem 0 false [cd,nd,zd,ed])::.deep dk cd 4 (code.map aH)::.aP zd 1 (Z.map ay)::.aP ed 1 (E.map ay)::.box k4 (.mem 0 false (bm n))::H):=hH.Kz;refine qq<|qq<|qj fun K hK=>qm ?_;refine qg ?_;refine qp (o:=2) ?_;refine ql hH aB ?_;refine qm ?_;refine qi hH dL fun Rl Bn=>?_;refine qo hH dL ?_;refine qg ?_;refine qe hK ?_;have hRl:=jA Bj n.mn.toNat code.length;refine ab.merge (fun fr st=>∃(cd:D) (dk:Nat→Prop) (tmp:List (Nat×D)),fr=⟨78,[.ptr k 0 0,.int .i64 (at_:Nat),af fr 2,af fr 3,.ptr k4 0 0,.int .i64 ((at_+1:Nat):Int),af fr 6,af fr 7,af fr 8,af fr 9,af fr 10,af fr 11,af fr 12,af fr 13,af fr 14,af fr 15,af fr 16,af fr 17,af fr 18,af fr 19,af fr 20,af fr 21,af fr 22,af fr 23,af fr 24,af fr 25,af fr 26,af fr 27,af fr 28,af fr 29,af fr 30,af fr 31,af fr 32,af fr 33,af fr 34,af fr 35,af fr 36,af fr 37,af fr 38,af fr 39,af fr 40,af fr 41,af fr 42,af fr 43,af fr 44,af fr 45,af fr 46,af fr 47,af fr 48,af fr 49,af fr 50,af fr 51,af fr 52,af fr 53,af fr 54,af fr 55,af fr 56,af fr 57,af fr 58,af fr 59,af fr 60,af fr 61,af fr 62,af fr 63,af fr 64,af fr 65,af fr 66,af fr 67,af fr 68,af fr 69,af fr 70,af fr 71,af fr 72,af fr 73,af fr 74,af fr 75,af fr 76,af fr 77],tmp⟩∧Has N S st (.box k (.mem 0 false [cd,nd,zd,ed])::.deep dk cd 4 ((code++fv (aX t) t.sz n.mn.toNat code.length).map aH)::.aP zd 1 (Z.map ay)::.aP ed 1 (E.map ay)::.box k4 (.mem 0 false (bm n))::H)) ?_ ?_
 ·refine ab.cond (by rfl) (fun hz=>?_) (fun hz=>?_)<;>try simp only[decide_eq_true_eq,decide_eq_false_iff_not] at hz
  ·refine qq<|qj fun K hK=>qp (o:=2) ?_;refine ql hH gO ?_;refine qm ?_;refine qe hK<|ab.block<|ab.loop (fun mm fr st=>∃(i:Nat) (cd:D) (dk:Nat→Prop) (ba:List aO),fr.clean=⟨78,[.ptr k 0 0,.int .i64 (at_:Nat),af fr 2,af fr 3,.ptr k4 0 0,.int .i64 ((at_+1:Nat):Int),af fr 6,af fr 7,af fr 8,af fr 9,af fr 10,af fr 11,af fr 12,af fr 13,af fr 14,af fr 15,af fr 16,af fr 17,af fr 18,af fr 19,af fr 20,af fr 21,af fr 22,af fr 23,af fr 24,af fr 25,af fr 26,af fr 27,.int .i64 n.mn,.int .i64 (i:Nat),af fr 30,af fr 31,af fr 32,af fr 33,af fr 34,af fr 35,af fr 36,af fr 37,af fr 38,af fr 39,af fr 40,af fr 41,af fr 42,af fr 43,af fr 44,af fr 45,af fr 46,af fr 47,af fr 48,af fr 49,af fr 50,af fr 51,af fr 52,af fr 53,af fr 54,af fr 55,af fr 56,af fr 57,af fr 58,af fr 59,af fr 60,af fr 61,af fr 62,af fr 63,af fr 64,af fr 65,af fr 66,af fr 67,af fr 68,af fr 69,af fr 70,af fr 71,af fr 72,af fr 73,af fr 74,af fr 75,af fr 76,af fr 77],[]⟩∧Has N S st (.box k (.mem 0 false [cd,nd,zd,ed])::.deep dk cd 4 (ba.map aH)::.aP zd 1 (Z.map ay)::.aP ed 1 (E.map ay)::.box k4 (.mem 0 false (bm n))::H)∧(i+mm=n.mn.toNat)∧(ba++fv (aX t) t.sz mm ba.length=code++fv (aX t) t.sz n.mn.toNat code.length)∧(ba.length+mm*t.sz=code.length+n.mn.toNat*t.sz)) (n.mn.toNat) ?_ ?_
   ·exact⟨0,cd,dk,code,rfl,hH,by omega,rfl,rfl⟩
   rintro mm fr st ⟨i,cd,dk,ba,hfr,hH,hi,nv,hcl⟩;rw[hfr];clear hfr;generalize af fr=ee;clear fr;refine qq<|qj fun K hK=>qg ?_;refine qe hK ?_
   cases mm with
   |zero=>
    have gL:decide ((i:Int)<n.mn)=false:=by rw[decide_eq_false_iff_not];omega
    refine qq<|qE rfl (by rw[gL]) ?_;simp only[fv,List.append_nil] at nv;rw[nv] at hH;refine ab.exit ?_;exact⟨cd,dk,_,rfl,hH⟩
   |succ mm=>
    have gL:decide ((i:Int)<n.mn)=true:=by rw[decide_eq_true_eq];omega
    rw[Nat.succ_mul] at hcl;refine qq<|qD rfl (by rw[gL]) ?_;refine ab.skip<|qq<|ab.block<|qj fun K hK=>qm ?_;refine qm ?_;obtain⟨_,st,aK,rfl,cd,dk,hH⟩:=ih t (by omega) hF yI iT hsz u7 rZ (by omega) ⟨cd,dk,hH⟩;refine qv aK ?_;refine qe hK<|qj fun K hK=>qA ?_;refine qm ?_;refine qe hK ?_;exact⟨mm,by omega,⟨i+1,cd,dk,ba++aX t ba.length,rfl,hH,by omega,by rw[List.length_append,Bj,List.append_assoc];exact nv,by rw[List.length_append,Bj];omega⟩⟩
  ·refine ab.skip ?_;have hz0:t.sz=0:=by omega
   have hR0:fv (aX t) t.sz n.mn.toNat code.length=[]:=sF (fun b=>by rw[Bj,hz0]) _ _ _;exact⟨cd,dk,_,rfl,(by rw[hR0,List.append_nil];exact hH)⟩
 ·rintro fr st ⟨cd,dk,tmp,hfr,hH⟩;rw[hfr];clear hfr;generalize af fr=ee;clear fr;have U6:(code++fv (aX t) t.sz n.mn.toNat code.length).length=code.length+n.mn.toNat*t.sz:=by rw[List.length_append,hRl]
  unfold nK;rw[←U6];rw[←U6] at hb1
  have hb2:if n.mx=-1 then(code++fv (aX t) t.sz n.mn.toNat code.length).length+t.sz+2≤1000000 else(code++fv (aX t) t.sz n.mn.toNat code.length).length+(n.mx.toNat-n.mn.toNat)*(t.sz+1)≤1000000:=by
   rw[U6];split
   ·rename_i h;rw[if_pos h] at hb;omega
   ·rename_i h;rw[if_neg h] at hb;omega
  have Lr:∀X:List aO,code++(fv (aX t) t.sz n.mn.toNat code.length++X)=code++fv (aX t) t.sz n.mn.toNat code.length++X:=fun X=>by rw[List.append_assoc]
  simp only[apply_ite (fun X:List aO=>code++X),Lr];clear Lr U6;generalize code++fv (aX t) t.sz n.mn.toNat code.length=cR at*;refine qq<|qq<|qj fun K hK=>qp (o:=3) ?_;refine ql hH gO ?_;refine qg ?_;refine qe hK ?_
  by_cases CC:n.mx=-1
  ·rw[if_pos CC];rw[if_pos CC] at hb2;refine qD rfl (by simp[CC]) ?_;refine qq<|qj fun K hK=>qm ?_;refine aa.go (d:=.agg [.int .i64 2,.int .i64 0,.int .i64 0,.nul]) (st1:=_) rfl rfl rfl (by dsimp only[Fr.put,u1,u2]<;>rfl) ?_;have hH:=hH.d_ 2;obtain⟨_,st,aK,rfl,cd,dk,hH⟩:=gA (rs:=[]) hF (by omega) hH;refine qv aK ?_;refine qm ?_;refine qe hK ?_;have mR:(cR++[c8 2 0 0 []]).length=cR.length+1:=by simp
   refine qq<|qj fun K hK=>qm ?_;refine qm ?_;obtain⟨_,st,aK,rfl,cd,dk,hH⟩:=ih t (by omega) hF yI iT hsz u7 rZ (by omega) ⟨cd,dk,hH⟩;refine qv aK ?_;refine qe hK ?_;rw[mR] at hH;have mQ:(cR++[c8 2 0 0 []]++aX t (cR.length+1)).length=cR.length+1+t.sz:=by rw[List.length_append,mR,Bj]
   refine qq<|qj fun K hK=>qm ?_;refine qm ?_;refine aa.go (d:=.agg [.int .i64 3,.int .i64 (cR.length:Nat),.int .i64 0,.nul]) (st1:=_) rfl rfl rfl (by dsimp only[Fr.put,u1,u2]<;>rfl) ?_;have hH:=hH.d_ 2;obtain⟨_,st,aK,rfl,cd,dk,hH⟩:=gA (rs:=[]) hF (by omega) hH;refine qv aK ?_;refine qe hK ?_
   have QM:(cR++[c8 2 0 0 []]++aX t (cR.length+1)++[c8 3 (cR.length:Nat) 0 []])[cR.length]?=some (c8 2 0 0 []):=by
    rw[List.append_assoc,List.append_assoc];exact py _ _ _
   have DU:(cR++[c8 2 0 0 []]++aX t (cR.length+1)++[c8 3 (cR.length:Nat) 0 []]).length=cR.length+t.sz+2:=by rw[List.length_append,mQ];simp only[List.length_cons,List.length_nil];omega
   have K6:(cR++[c8 2 0 0 []]++aX t (cR.length+1)++[c8 3 (cR.length:Nat) 0 []]).set cR.length (nE cR.length (cR.length+t.sz+2) n.lz)=cR++(nE cR.length (cR.length+t.sz+2) n.lz::(aX t (cR.length+1)++[mK cR.length])):=by
    rw[List.append_assoc,List.append_assoc];exact pf _ _ _ _
   generalize cR++[c8 2 0 0 []]++aX t (cR.length+1)++[c8 3 (cR.length:Nat) 0 []]=Ee at*;refine qq<|qj fun K hK=>qm ?_;refine qm ?_;refine qm ?_;refine qg ?_;refine qp (o:=0) ?_;refine ql hH aB ?_;refine aa.BI hH rfl (ev rfl) (by exact bF) rfl (by dsimp only[Fr.put,u1,u2]<;>rfl) ?_;simp only[List.length_map,List.length_append,List.length_cons,List.length_nil];refine qp (o:=4) ?_;refine ql hH gO ?_;obtain⟨_,st,aK,rfl,hH⟩:=pG (at_:=cR.length) (over:=Ee.length) (lz:=n.lz) QM (by omega) hH;refine qv aK ?_;refine qe hK ?_;rw[DU,K6] at hH;refine ab.ret ⟨rx,_,_,_,rfl,rfl,?_⟩;exact⟨rfl,cd,dk,hH.erase 4⟩
  ·rw[if_neg CC];rw[if_neg CC] at hb2;refine qE rfl (by simp[CC]) ?_;refine ab.skip ?_;obtain⟨a,ha⟩:∃a:Nat,n.mn=(a:Int):=Int.eq_ofNat_of_zero_le B3.1;obtain⟨b,QL⟩:∃b:Nat,n.mx=(b:Int):=Int.eq_ofNat_of_zero_le (by omega);have Xd:n.mx.toNat-n.mn.toNat=b-a:=by omega
   rw[Xd] at hb2⊢;refine qq<|qj fun K hK=>qm ?_;refine qe hK<|qq<|qq<|qj fun K hK=>qp (o:=3) ?_;refine ql hH gO ?_;refine qp (o:=2) ?_;refine ql hH gO ?_;refine aa.oS (z:=((b-a:Nat):Int)) rfl (ev rfl) (ev rfl) (by rw[wrap_i64 (by omega) (by omega)]<;>omega) (by dsimp only[Fr.put,u1,u2]<;>rfl) ?_;refine qm ?_;refine qe hK ?_;have hH:Has N S st (.box k (.mem 0 false [cd,nd,zd,ed])::.deep dk cd 4 (cR.map aH)::.aP zd 1 (Z.map ay)::.aP ed 1 (E.map ay)::.aP .nul 1 (([]:List Nat).map kR)::.box k4 (.mem 0 false (bm n))::H):=(hH.d_ 1).Kz;refine ab.block<|ab.loop (fun mm fr st=>∃(i:Nat) (cd jd:D) (dk:Nat→Prop) (ba:List aO) (js:List Nat),fr.clean=⟨78,[.ptr k 0 0,.int .i64 (at_:Nat),af fr 2,af fr 3,.ptr k4 0 0,.int .i64 ((at_+1:Nat):Int),af fr 6,jd,af fr 8,af fr 9,af fr 10,af fr 11,af fr 12,af fr 13,af fr 14,af fr 15,af fr 16,af fr 17,af fr 18,af fr 19,af fr 20,af fr 21,af fr 22,af fr 23,af fr 24,af fr 25,af fr 26,af fr 27,af fr 28,af fr 29,af fr 30,af fr 31,af fr 32,af fr 33,af fr 34,af fr 35,af fr 36,af fr 37,af fr 38,af fr 39,af fr 40,af fr 41,af fr 42,af fr 43,af fr 44,af fr 45,af fr 46,af fr 47,af fr 48,af fr 49,af fr 50,af fr 51,af fr 52,af fr 53,af fr 54,af fr 55,af fr 56,af fr 57,af fr 58,af fr 59,af fr 60,af fr 61,.int .i64 ((b-a:Nat):Int),.int .i64 (i:Nat),af fr 64,af fr 65,af fr 66,af fr 67,af fr 68,af fr 69,af fr 70,af fr 71,af fr 72,af fr 73,af fr 74,af fr 75,af fr 76,af fr 77],[]⟩∧Has N S st (.box k (.mem 0 false [cd,nd,zd,ed])::.deep dk cd 4 (ba.map aH)::.aP zd 1 (Z.map ay)::.aP ed 1 (E.map ay)::.aP jd 1 (js.map kR)::.box k4 (.mem 0 false (bm n))::H)∧(i+mm=b-a)∧(ba++fc (fun _=>c8 2 0 0 []) (aX t) t.sz mm ba.length=cR++fc (fun _=>c8 2 0 0 []) (aX t) t.sz (b-a) cR.length)∧(js++vT t.sz mm ba.length=vT t.sz (b-a) cR.length)∧(ba.length+mm*(t.sz+1)=cR.length+(b-a)*(t.sz+1))∧(js.length=i)) (b-a) ?_ ?_
   ·exact⟨0,cd,.nul,dk,cR,[],rfl,hH,by omega,rfl,rfl,rfl,rfl⟩
   rintro mm fr st ⟨i,cd,jd,dk,ba,js,hfr,hH,hi,iG,hjs,hcl,jq⟩;rw[hfr];clear hfr;generalize af fr=ee;clear fr;refine qq<|qj fun K hK=>qg ?_;refine qe hK ?_
   cases mm with
   |zero=>
    have gL:decide ((i:Int)<((b-a:Nat):Int))=false:=by rw[decide_eq_false_iff_not];omega
    refine qq<|qE rfl (by rw[gL]) ?_;refine ab.exit<|qq<|qj fun K hK=>qm ?_;refine qn ?_ (hR:=hH.rows gO);simp only[List.length_map];refine qm ?_;refine qe hK ?_;simp only[fc,vT,List.append_nil] at iG hjs;rw[iG] at hH;obtain⟨B2,Lg⟩:=nN (sp:=fun s=>nE s (cR.length+(b-a)*(t.sz+1)) n.lz) Bj (i0:=c8 2 0 0 []) (b-a) cR.length cR [] rfl;simp only[List.append_nil] at B2 Lg;have XB:(cR++fc (fun _=>c8 2 0 0 []) (aX t) t.sz (b-a) cR.length).length=cR.length+(b-a)*(t.sz+1):=by rw[List.length_append,pW Bj]
    rw[←hjs] at B2 Lg;rw[←B2];clear B2 iG;generalize cR++fc (fun _=>c8 2 0 0 []) (aX t) t.sz (b-a) cR.length=C0 at*;generalize cR.length+(b-a)*(t.sz+1)=e at*;refine ab.block<|ab.loop (fun mm fr st=>∃(q:Nat) (C:List aO),fr.clean=⟨78,[.ptr k 0 0,af fr 1,af fr 2,af fr 3,.ptr k4 0 0,af fr 5,af fr 6,af fr 7,af fr 8,af fr 9,af fr 10,af fr 11,af fr 12,af fr 13,af fr 14,af fr 15,af fr 16,af fr 17,af fr 18,af fr 19,af fr 20,af fr 21,af fr 22,af fr 23,af fr 24,af fr 25,af fr 26,af fr 27,af fr 28,af fr 29,af fr 30,af fr 31,af fr 32,af fr 33,af fr 34,af fr 35,af fr 36,af fr 37,af fr 38,af fr 39,af fr 40,af fr 41,af fr 42,af fr 43,af fr 44,af fr 45,af fr 46,af fr 47,af fr 48,af fr 49,af fr 50,af fr 51,af fr 52,af fr 53,af fr 54,af fr 55,af fr 56,af fr 57,af fr 58,af fr 59,af fr 60,af fr 61,af fr 62,af fr 63,af fr 64,af fr 65,af fr 66,af fr 67,af fr 68,af fr 69,af fr 70,af fr 71,af fr 72,af fr 73,af fr 74,jd,.int .i64 (js.length:Nat),.int .i64 (q:Nat)],[]⟩∧Has N S st (.box k (.mem 0 false [cd,nd,zd,ed])::.deep dk cd 4 (C.map aH)::.aP zd 1 (Z.map ay)::.aP ed 1 (E.map ay)::.aP jd 1 (js.map kR)::.box k4 (.mem 0 false (bm n))::H)∧(q+mm=js.length)∧(iy (fun s=>nE s e n.lz) C (js.drop q)=iy (fun s=>nE s e n.lz) C0 js)∧(∀p∈js,∃x y:Int,C[p]?=some (c8 2 x y []))∧(C.length=e)) (js.length) ?_ ?_
    ·exact⟨0,C0,rfl,hH,by omega,rfl,fun p hp=>⟨_,_,Lg p hp⟩,XB⟩
    rintro mm fr st ⟨q,C,hfr,hH,hq,gT,mT,RC⟩;rw[hfr];clear hfr;generalize af fr=ee;clear fr;refine qq<|qj fun K hK=>qg ?_;refine qe hK<|qq ?_;refine ab.cond (by rfl) (fun hlt=>?_) (fun hlt=>?_)<;>try simp only[decide_eq_true_eq,decide_eq_false_iff_not] at hlt
    ·refine ab.skip ?_;have L8:q<js.length:=by omega
     obtain⟨p,hp⟩:∃p,js[q]?=some p:=⟨js[q]'L8,List.getElem?_eq_getElem _⟩
     obtain⟨x,y,hv⟩:=mT p (List.mem_of_getElem? hp);have gJ:=wb hp;have iq:=bH hv;refine qq<|ab.block<|qq<|qj fun K hK=>qi hH gO fun p79 Wl=>?_;refine qo hH gO ?_;refine qm ?_;refine qe hK<|qj fun K hK=>qm ?_;refine qm ?_;refine qm ?_;refine qg ?_;refine qp (o:=0) ?_;refine ql hH aB ?_;refine aa.BI hH rfl (ev rfl) (by exact bF) rfl (ah rfl _) ?_;simp only[List.length_map];refine qp (o:=4) ?_;refine ql hH rH ?_;obtain⟨_,st,aK,rfl,hH⟩:=pG (at_:=p) (over:=C.length) (lz:=n.lz) hv (by omega) hH;refine qv aK ?_;refine qe hK<|qj fun K hK=>qA ?_;refine qm ?_;refine qe hK ?_
     have q_:js.drop q=p::js.drop (q+1):=by
      rw[List.drop_eq_getElem_cons L8]
      congr 1
      exact Option.some.inj ((List.getElem?_eq_getElem _).symm.trans hp)
     refine⟨mm-1,by omega,⟨q+1,C.set p (nE p e n.lz),rfl,(by rw[RC] at hH;exact hH),by omega,by rw[q_] at gT;exact gT,?_,by rw[List.length_set];exact RC⟩⟩;intro p' uw
     by_cases hpp:p'=p
     ·subst hpp;obtain⟨x',y',Sz⟩:=Cj p' e n.lz;exact⟨x',y',by rw[List.getElem?_set_self iq,Sz]⟩
     ·rw[List.getElem?_set_ne (fun e=>hpp e.symm)];exact mT p' uw
    ·refine ab.exit ?_;refine⟨fun i h=>(by cases h),_,_,_,rfl,rfl,?_⟩;have wG:q=js.length:=by omega
     rw[wG,List.drop_length] at gT;have gT:C=iy (fun s=>nE s e n.lz) C0 js:=gT;rw[←gT];exact⟨rfl,cd,dk,(hH.erase 5).erase 4⟩
   |succ mm=>
    have gL:decide ((i:Int)<((b-a:Nat):Int))=true:=by rw[decide_eq_true_eq];omega
    rw[Nat.succ_mul] at hcl;refine qq<|qD rfl (by rw[gL]) ?_;refine ab.skip<|qq<|ab.block<|qq<|qj fun K hK=>qm ?_;refine qm ?_;refine aa.go (d:=.agg [.int .i64 2,.int .i64 0,.int .i64 0,.nul]) (st1:=_) rfl rfl rfl (by dsimp only[Fr.put,u1,u2]<;>rfl) ?_;have hH:=hH.d_ 2;obtain⟨_,st,aK,rfl,cd,dk,hH⟩:=gA (rs:=[]) hF (by omega) hH;refine qv aK ?_;refine qh (s:=1) (vs:=[_]) hH fun k69 st aaQ hH=>?_;dsimp only[u2,u1,u3,u4,setMany,u5,u6,D.cells,Nat.reduceAdd,aH,bm,ay,kR] at hH;refine qP hH rH (hH.rows aB) fun x70 st hH=>?_;dsimp only[u2,u1,u3,u4,setMany,u5,u6,D.cells,Nat.reduceAdd,aH,bm,ay,kR] at hH;refine qm ?_;refine qe hK ?_;have hH:=hH.drop 1;have mR:(ba++[c8 2 0 0 []]).length=ba.length+1:=by simp
    refine qj fun K hK=>qm ?_;refine qm ?_;obtain⟨_,st,aK,rfl,cd,dk,hH⟩:=ih t (by omega) hF yI iT hsz u7 rZ (by omega) ⟨cd,dk,hH⟩;refine qv aK ?_;refine qe hK ?_;rw[mR] at hH;have mQ:(ba++[c8 2 0 0 []]++aX t (ba.length+1)).length=ba.length+1+t.sz:=by rw[List.length_append,mR,Bj]
    refine qj fun K hK=>qA ?_;refine qm ?_;refine qe hK ?_;exact⟨mm,by omega,⟨i+1,cd,x70,dk,ba++[c8 2 0 0 []]++aX t (ba.length+1),js++[ba.length],rfl,(by rw[List.map_append (f:=kR)];exact hH),by omega,by rw[mQ,←iG];simp only[fc,List.append_assoc,List.cons_append,List.nil_append],by rw[mQ,←hjs];simp only[vT,List.append_assoc,List.cons_append,List.nil_append],by rw[mQ];omega,by rw[List.length_append,jq];rfl⟩⟩
def bX (fr:Go.V.Fr) (k:Nat):Go.V.D:=Go.V.nth .bp fr.loc k
theorem xi (t:Tr):fZ (.cons t .nil)=aX t:=by
 funext b;simp only[fZ,List.append_nil]
theorem xG (t:Tr):(bI.cons t .nil).sz=t.sz:=by simp only[bI.sz,Nat.add_zero]
theorem KK {l:List dM} (o4:l.length≤1048576) (hi:∀n∈l,n.ok):∀(m:Nat) (t:Tr),t.flat.length≤m→rQ l t:=by
 intro m
 induction m with
 |zero=>intro t h;have:=t.iK;omega
 |succ m ih=>
  rintro⟨n,ks⟩ hm N k S s0 H nd zd ed code Z E at_ hF yI iT hsz u7 bc hb hM;have hM0:=hM;obtain⟨cd,dk,hH⟩:=hM;simp only[Tr.ok] at bc;obtain⟨l_,mj⟩:=bc;simp only[Tr.flat,List.length_cons] at hm;have hle:=iT.le (by simp[Tr.flat]);simp only[Tr.flat] at iT hle;simp only[List.length_cons] at hle;simp only[Tr.zs] at hsz;simp only[Tr.es] at u7;simp only[Tr.sz] at hb;have hn:=iT.head;have S9:=hi n (List.mem_of_getElem? hn);have yH:=S9.1.arg N S;have oZ:=S9.2.1;have gJ:=lI hn;have Qr:=l_.1;have gi:=bI.kW ks;have hcat:=fun b=>nb ks b mj;refine Ev.il rfl XF rfl rfl rfl ?_;dsimp only[u3,u4,List.length,Nat.reduceSub,Nat.reduceAdd,w1,w2];change ab _ _ _ _ s0 _;have hc:=yI.arg N S;refine qq<|qj fun K hK=>qm ?_;refine qg ?_;refine qp (o:=1) ?_;refine ql hH aB ?_;refine qm ?_;refine qr fun Y9 S6=>?_;refine aa.db rfl (ev rfl) (by assumption) rfl (by dsimp only[Fr.put,u1,u2]<;>rfl) ?_;refine qa hH fun k4 st Ry hH=>?_;refine qS hH aB fun st hH=>?_;dsimp only[u2,u1,u3,u4,setMany,u5,u6,D.cells,Nat.reduceAdd,aH,bm,ay,kR] at hH;refine qe hK ?_;have hH:Has N S st (.box k (.mem 0 false [cd,nd,zd,ed])::.deep dk cd 4 (code.map aH)::.aP zd 1 (Z.map ay)::.aP ed 1 (E.map ay)::.box k4 (.mem 0 false (bm n))::H):=hH.Kz;refine qq<|qj fun K hK=>qp (o:=0) ?_;refine ql hH gO ?_;refine qe hK<|ab.block<|qq<|qj fun K hK=>qg ?_;refine qm ?_;refine qe hK ?_;refine ab.cond (by rfl) (fun q2=>?_) (fun q2=>?_)<;>try simp only[beq_iff_eq,beq_eq_false_iff_ne,ne_eq] at q2
  ·have yP:aX (.mk n ks) code.length=[c8 1 0 0 n.rs]:=by simp only[aX,if_pos q2]
   rw[yP];have hz:bQ n ks.sz ks.len=1:=by unfold bQ;rw[if_pos (.inl q2)]
   have hH:=hH.d_ 2;refine qj fun K hK=>qm ?_;refine qp (o:=1) ?_;refine ql hH rH ?_;refine qP hH aB (Arg.rows (by assumption) hH) fun YK st hH=>?_;dsimp only[u2,u1,u3,u4,setMany,u5,u6,D.cells,Nat.reduceAdd,aH,bm,ay,kR] at hH;refine aa.gd (qs:=[(0,_),(3,_)]) rfl rfl rfl rfl ⟨rfl,(ev rfl),(by rfl),rfl,(ev rfl),(by exact hH.eK (by exact aB)),trivial⟩ (by intro q hq;simp only[List.mem_cons,List.not_mem_nil,or_false] at hq;rcases hq with rfl|rfl<;>exact⟨rfl,by exact Nat.le_of_ble_eq_true rfl⟩) (by show List.foldl _ [_,_,_,_] _=_;dsimp only[List.foldl_cons,List.foldl_nil,u2,u1]<;>rfl) (by dsimp only[Fr.put,u1,u2]<;>rfl) ?_;obtain⟨_,st,aK,rfl,cd,dk,hH⟩:=gA (rs:=n.rs) hF (by omega) hH;refine qv aK ?_;refine qe hK ?_;refine⟨fun i h=>(by cases h),_,_,_,rfl,rfl,?_⟩;exact⟨rfl,cd,dk,hH.erase 4⟩
  refine qq<|qj fun K hK=>qg ?_;refine qm ?_;refine qe hK ?_;refine ab.cond (by rfl) (fun q7=>?_) (fun q7=>?_)<;>try simp only[beq_iff_eq,beq_eq_false_iff_ne,ne_eq] at q7
  ·have yP:aX (.mk n ks) code.length=[c8 5 0 0 []]:=by simp only[aX,if_neg q2,if_pos q7]
   rw[yP];refine qj fun K hK=>qm ?_;refine aa.go (d:=.agg [.int .i64 5,.int .i64 0,.int .i64 0,.nul]) (st1:=_) rfl rfl rfl (by dsimp only[Fr.put,u1,u2]<;>rfl) ?_;have hH:=hH.d_ 2;obtain⟨_,st,aK,rfl,cd,dk,hH⟩:=gA (rs:=[]) hF (by omega) hH;refine qv aK ?_;refine qe hK ?_;refine⟨fun i h=>(by cases h),_,_,_,rfl,rfl,?_⟩;exact⟨rfl,cd,dk,hH.erase 4⟩
  refine qq<|qj fun K hK=>qg ?_;refine qm ?_;refine qe hK ?_;refine ab.cond (by rfl) (fun q8=>?_) (fun q8=>?_)<;>try simp only[beq_iff_eq,beq_eq_false_iff_ne,ne_eq] at q8
  ·have yP:aX (.mk n ks) code.length=[c8 6 0 0 []]:=by simp only[aX,if_neg q2,if_neg q7,if_pos q8]
   rw[yP];refine qj fun K hK=>qm ?_;refine aa.go (d:=.agg [.int .i64 6,.int .i64 0,.int .i64 0,.nul]) (st1:=_) rfl rfl rfl (by dsimp only[Fr.put,u1,u2]<;>rfl) ?_;have hH:=hH.d_ 2;obtain⟨_,st,aK,rfl,cd,dk,hH⟩:=gA (rs:=[]) hF (by omega) hH;refine qv aK ?_;refine qe hK ?_;refine⟨fun i h=>(by cases h),_,_,_,rfl,rfl,?_⟩;exact⟨rfl,cd,dk,hH.erase 4⟩
  refine qq<|qj fun K hK=>qg ?_;refine qm ?_;refine qe hK ?_;refine ab.cond (by rfl) (fun q3=>?_) (fun q3=>?_)<;>try simp only[beq_iff_eq,beq_eq_false_iff_ne,ne_eq] at q3
  ·have yP:aX (.mk n ks) code.length=fZ ks code.length:=by simp only[aX,if_neg q2,if_neg q7,if_neg q8,if_pos q3]
   rw[yP];have hz:bQ n ks.sz ks.len=ks.sz:=by unfold bQ;rw[if_neg (by omega),if_neg (by omega),if_neg (by omega),if_neg (by omega)]
   rw[hz] at hb;refine qq<|qj fun K hK=>qm ?_;refine qA ?_;refine qm ?_;refine qe hK<|qq<|qj fun K hK=>qp (o:=6) ?_;refine ql hH gO ?_;refine qm ?_;refine qe hK<|ab.block<|ab.loop (fun mm fr st=>∃(i j:Nat) (rest:bI) (cd:D) (dk:Nat→Prop) (ba:List aO),fr.clean=⟨40,[.ptr k 0 0,.int .i64 (at_:Nat),bX fr 2,bX fr 3,.ptr k4 0 0,.int .i64 (j:Nat),bX fr 6,bX fr 7,bX fr 8,bX fr 9,bX fr 10,bX fr 11,bX fr 12,bX fr 13,bX fr 14,bX fr 15,bX fr 16,bX fr 17,bX fr 18,bX fr 19,bX fr 20,bX fr 21,bX fr 22,bX fr 23,bX fr 24,bX fr 25,bX fr 26,bX fr 27,bX fr 28,bX fr 29,bX fr 30,bX fr 31,bX fr 32,bX fr 33,bX fr 34,bX fr 35,bX fr 36,bX fr 37,.int .i64 n.kids,.int .i64 (i:Nat)],[]⟩∧Has N S st (.box k (.mem 0 false [cd,nd,zd,ed])::.deep dk cd 4 (ba.map aH)::.aP zd 1 (Z.map ay)::.aP ed 1 (E.map ay)::.box k4 (.mem 0 false (bm n))::H)∧(mm=rest.len)∧(i+rest.len=ks.len)∧(fO l j rest.flat)∧(fO Z j rest.zs)∧(fO E j (rest.es j))∧(rest.ok)∧(ba++fZ rest ba.length=code++fZ ks code.length)∧(ba.length+rest.sz=code.length+ks.sz)∧(rest.flat.length≤m)) (ks.len) ?_ ?_
   ·exact⟨0,at_+1,ks,cd,dk,code,rfl,hH,rfl,by omega,iT.tail,hsz.tail,u7.tail,mj,rfl,rfl,by omega⟩
   rintro mm fr st ⟨i,j,rest,cd,dk,ba,hfr,hH,yJ,u_,oY,wD,oX,jo,iG,hcl,P_⟩;rw[hfr];clear hfr;generalize bX fr=ee;clear fr;refine qq<|qj fun K hK=>qg ?_;refine qe hK ?_
   cases rest with
   |nil=>
    simp only[bI.len] at u_;simp only[fZ,List.append_nil] at iG;have gL:decide ((i:Int)<n.kids)=false:=by rw[decide_eq_false_iff_not];omega
    refine qq<|qE rfl (by rw[gL]) ?_;refine ab.exit ?_;refine⟨fun i h=>(by cases h),_,_,_,rfl,rfl,?_⟩;rw[←iG];exact⟨rfl,cd,dk,hH.erase 4⟩
   |cons t ts=>
    simp only[bI.len] at u_ yJ;simp only[bI.sz] at hcl;simp only[bI.flat,List.length_append] at oY P_;simp only[bI.zs] at wD;simp only[bI.es] at oX;simp only[bI.ok] at jo;simp only[fZ] at iG;have PY:=t.jf;have SF:=t.jr j;have Bj:=cy t ba.length jo.1;have Wc:=eO (Al oX.left);have gL:decide ((i:Int)<n.kids)=true:=by rw[decide_eq_true_eq];omega
    refine qq<|qD rfl (by rw[gL]) ?_;refine ab.skip<|qq<|ab.block<|qq<|qj fun K hK=>qm ?_;refine qm ?_;obtain⟨_,st,aK,rfl,cd,dk,hH⟩:=ih t (by omega) hF yI oY.left wD.left oX.left jo.1 (by omega) ⟨cd,dk,hH⟩;refine qv aK ?_;refine qe hK<|qj fun K hK=>qm ?_;refine qg ?_;refine qp (o:=3) ?_;refine ql hH aB ?_;refine qm ?_;refine qi hH eQ fun Y3 SY=>?_;refine qo hH eQ ?_;refine qm ?_;refine qe hK<|qj fun K hK=>qA ?_;refine qm ?_;refine qe hK ?_;exact⟨mm-1,by omega,⟨i+1,j+t.flat.length,ts,cd,dk,ba++aX t ba.length,rfl,hH,by omega,by omega,oY.right,by rw[←PY];exact wD.right,by rw[←SF];rw[←SF] at oX;exact oX.right,jo.2,by rw[List.length_append,Bj,List.append_assoc];exact iG,by rw[List.length_append,Bj];omega,by omega⟩⟩
  refine qq<|qj fun K hK=>qg ?_;refine qm ?_;refine qe hK ?_;refine ab.cond (by rfl) (fun q4=>?_) (fun q4=>?_)<;>try simp only[beq_iff_eq,beq_eq_false_iff_ne,ne_eq] at q4
  ·have yP:aX (.mk n ks) code.length=eR (mK (code.length+bQ n ks.sz ks.len)) ks code.length:=by simp only[aX,if_neg q2,if_neg q7,if_neg q8,if_neg q3,if_pos q4]
   rw[yP];refine qj fun K hK=>qm ?_;refine qm ?_;obtain⟨_,st,aK,rfl,cd,dk,hH⟩:=Q8 o4 ih q4 (by omega) l_ mj hF yI iT hsz.tail u7.tail hb ⟨cd,dk,hH⟩;refine qv aK ?_;refine qe hK ?_;refine⟨fun i h=>(by cases h),_,_,_,rfl,rfl,?_⟩;exact⟨rfl,cd,dk,hH.erase 4⟩
  refine qq<|qj fun K hK=>qg ?_;refine qm ?_;refine qe hK ?_;refine ab.cond (by rfl) (fun q5=>?_) (fun q5=>?_)<;>try simp only[beq_iff_eq,beq_eq_false_iff_ne,ne_eq] at q5
  ·have o5:ks.len=1:=by
    obtain⟨_,hq⟩:=l_;omega
   obtain⟨t,rfl⟩:=bI.zV o5;have yP:aX (.mk n (.cons t .nil)) code.length=nK n (aX t) t.sz code.length:=by simp only[aX,if_neg q2,if_neg q7,if_neg q8,if_neg q3,if_neg q4,if_pos q5,xi,xG]
   rw[yP];rw[o5] at l_ hb;rw[xG] at hb;simp only[bI.flat,bI.zs,bI.es,bI.ok,List.append_nil] at*;refine qj fun K hK=>qm ?_;refine qm ?_;obtain⟨_,st,aK,rfl,cd,dk,hH⟩:=AU o4 ih q5 (by omega) l_ mj.1 hF yI iT hsz.tail u7.tail hb ⟨cd,dk,hH⟩;refine qv aK ?_;refine qe hK ?_;refine⟨fun i h=>(by cases h),_,_,_,rfl,rfl,?_⟩;exact⟨rfl,cd,dk,hH.erase 4⟩
  refine qq<|qj fun K hK=>qg ?_;refine qm ?_;refine qe hK ?_;refine ab.cond (by rfl) (fun q6=>?_) (fun q6=>?_)<;>try simp only[beq_iff_eq,beq_eq_false_iff_ne,ne_eq] at q6
  ·have o5:ks.len=1∧1≤n.cap∧n.cap≤4:=by
    obtain⟨_,hq⟩:=l_;omega
   obtain⟨t,rfl⟩:=bI.zV o5.1;have yP:aX (.mk n (.cons t .nil)) code.length=c8 4 (2*n.cap) 0 []::(aX t (code.length+1)++[c8 4 (2*n.cap+1) 0 []]):=by simp only[aX,if_neg q2,if_neg q7,if_neg q8,if_neg q3,if_neg q4,if_neg q5,if_pos q6,xi]
   rw[yP];have hz:bQ n (bI.cons t .nil).sz (bI.cons t .nil).len=t.sz+2:=by unfold bQ;rw[if_neg (by omega),if_neg (by omega),if_pos q6,xG]
   rw[hz] at hb;simp only[bI.flat,bI.zs,bI.es,bI.ok,List.append_nil] at iT hsz u7 mj hm;refine qq<|qj fun K hK=>qm ?_;refine qp (o:=5) ?_;refine ql hH gO ?_;refine aa.yp (z:=(2*n.cap)) rfl (ev rfl) (ev rfl) (by rw[wrap_i64 (by omega) (by omega)]<;>omega) (ah rfl _) ?_;refine aa.go (d:=.agg [.int .i64 4,.int .i64 (2*n.cap),.int .i64 0,.nul]) (st1:=_) rfl rfl rfl (ah rfl _) ?_;have hH:=hH.d_ 2;obtain⟨_,st,aK,rfl,cd,dk,hH⟩:=gA (rs:=[]) hF (by omega) hH;refine qv aK ?_;refine qe hK ?_;have mR:(code++[c8 4 (2*n.cap) 0 []]).length=code.length+1:=by simp
   refine qq<|qj fun K hK=>qm ?_;refine qm ?_;refine qA ?_;obtain⟨_,st,aK,rfl,cd,dk,hH⟩:=ih t (by omega) hF yI iT.tail hsz.tail u7.tail mj.1 (by omega) ⟨cd,dk,hH⟩;refine qv aK ?_;refine qe hK ?_;rw[mR] at hH;have mQ:(code++[c8 4 (2*n.cap) 0 []]++aX t (code.length+1)).length=code.length+1+t.sz:=by rw[List.length_append,mR,cy t _ mj.1]
   refine qj fun K hK=>qm ?_;refine qp (o:=5) ?_;refine ql hH gO ?_;refine aa.yp (z:=(2*n.cap)) rfl (ev rfl) (ev rfl) (by rw[wrap_i64 (by omega) (by omega)]<;>omega) (ah rfl _) ?_;refine aa.lq (z:=(2*n.cap+1)) rfl (ev rfl) (ev rfl) (by rw[wrap_i64 (by omega) (by omega)]<;>omega) (ah rfl _) ?_;refine aa.go (d:=.agg [.int .i64 4,.int .i64 (2*n.cap+1),.int .i64 0,.nul]) (st1:=_) rfl rfl rfl (ah rfl _) ?_;have hH:=hH.d_ 2;obtain⟨_,st,aK,rfl,cd,dk,hH⟩:=gA (rs:=[]) hF (by omega) hH;refine qv aK ?_;refine qe hK ?_;have gy:code++[c8 4 (2*n.cap) 0 []]++aX t (code.length+1)++[c8 4 (2*n.cap+1) 0 []]=code++c8 4 (2*n.cap) 0 []::(aX t (code.length+1)++[c8 4 (2*n.cap+1) 0 []]):=by simp
   rw[gy] at hH;refine⟨fun i h=>(by cases h),_,_,_,rfl,rfl,?_⟩;exact⟨rfl,cd,dk,hH.erase 4⟩
  ·refine ab.skip ?_;have yP:aX (.mk n ks) code.length=[]:=by simp only[aX,if_neg q2,if_neg q7,if_neg q8,if_neg q3,if_neg q4,if_neg q5,if_neg q6]
   rw[yP,List.append_nil];refine⟨fun i h=>(by cases h),_,_,_,rfl,rfl,?_⟩;exact⟨rfl,cd,dk,hH.erase 4⟩
def iD (fr:Go.V.Fr) (k:Nat):Go.V.D:=Go.V.nth .bp fr.loc k
def BW (x:Nl):List D:=[x.d]
theorem PO {l:List Nl} {i:Nat} {q:Nl} (h:l[i]?=some q):(l.map BW)[i]?=some (BW q):=by rw[List.getElem?_map,h];rfl
def oQ (R:tA):D:=.tup [(pq R.code R.aw).d,.int .i64 R.e,.int .i64 R.w]
theorem zC {es M:List Int} (h:M.length=es.length):nr es 0 M=M:=by
 unfold nr;simp[h]
theorem oh (r:Nat) (c:List aO) (s:List Int):eV [] r c s=⟨c,s,0,0⟩:=by simp only[eV]
theorem y7 {s0:St} {x:D} {rules:List Nl} (hx:V.Rows s0 1 x (rules.map BW)) (hr:∀r∈rules,r.ok) (hl:rules.length≤1048576):Ev pv 47 [x] s0 (oQ (bB (rules.map (·.l)))) s0:=by
 refine Ev.iS rfl X5 rfl rfl rfl ?_;dsimp only[u3,u4,List.length,Nat.reduceSub,Nat.reduceAdd,w1,w2];obtain⟨bT,hF,hH⟩:=ri s0;generalize ag .ro s0=S at*;have hx:=Arg.of hx bT;have hfz:∀(st:St) (e w:Int),aY st s0.bs.length false 16 (pE [.agg [.nul,.nul],.int .i64 e,.int .i64 w])=some (oQ ⟨[],[],e,w⟩):=fun st e w=>rfl;refine qq<|qj fun K hK=>qa hH fun k2 st hk2 hH=>?_;refine qm ?_;refine qm ?_;refine qe hK<|qq<|qq<|qj fun K hK=>qm ?_;refine qn ?_;simp only[List.length_map];refine qg ?_;refine qe hK ?_;unfold bB
 by_cases h8:8<rules.length
 ·rw[if_pos (by rw[List.length_map];exact h8)];refine qD rfl (by simp;omega) ?_;refine qq<|qj fun K hK=>?_;refine aa.go (d:=.agg [.nul,.nul]) (st1:=_) rfl rfl rfl (by dsimp only[Fr.put,u1,u2]<;>rfl) ?_;refine qS hH aB fun st hH=>?_;dsimp only[u2,u1,u3,u4,setMany,u5,u6,D.cells,Nat.reduceAdd,aH,bm,ay,BW] at hH;refine qm ?_;refine qm ?_;refine qe hK<|ab.ret ⟨rx,_,hH.lC rfl aB rfl rfl rfl,rl bT hH (hfz _ 13 8)⟩
 ·rw[if_neg (by rw[List.length_map];exact h8)];refine qE rfl (by simp;omega) ?_;refine ab.skip<|qq<|qj fun K hK=>?_;refine aa.go (d:=.agg [.nul,.nul,.nul,.nul]) (st1:=_) rfl rfl rfl (by dsimp only[Fr.put,u1,u2]<;>rfl) ?_;refine qb hH fun k14 st Tn hH=>?_;refine qm ?_;refine qe hK<|qq<|qj fun K hK=>qm ?_;refine qe hK<|qq<|qq<|qj fun K hK=>qm ?_;refine qn ?_;simp only[List.length_map];refine qm ?_;refine qe hK ?_;have hH:Has s0.bs.length S st (.aP .nul 1 (([]:List Int).map ay)::.deep (fun _=>False) .nul 4 (([]:List aO).map aH)::.box k14 (.mem 0 false [.nul,.nul,.nul,.nul])::[.box k2 (.mem 0 false [.nul,.nul])]):=(hH.C4 4).d_ 1;refine ab.block<|ab.loop (fun mm fr st=>∃(r:Nat) (cd nd zd ed sd:D) (dk:Nat→Prop) (code:List aO) (aw:List Int),fr.clean=⟨18,[iD fr 0,iD fr 1,.ptr k2 0 0,.int .i64 0,.int .i64 0,.ptr k14 0 0,sd,iD fr 7,iD fr 8,iD fr 9,iD fr 10,iD fr 11,iD fr 12,iD fr 13,iD fr 14,x,.int .i64 (rules.length:Nat),.int .i64 (r:Nat)],[]⟩∧Has s0.bs.length S st [.aP sd 1 (aw.map ay),.deep dk cd 4 (code.map aH),.box k14 (.mem 0 false [cd,nd,zd,ed]),.box k2 (.mem 0 false [.nul,.nul])]∧(r+mm=rules.length)∧(eV ((rules.drop r).map (·.l)) r code aw=eV (rules.map (·.l)) 0 [] [])∧(code.length≤400)∧(aw.length≤r)) (rules.length) ?_ ?_
  ·exact⟨0,.nul,.nul,.nul,.nul,.nul,(fun _=>False),[],[],rfl,hH,by omega,by rw[List.drop_zero],by simp,by simp⟩
  rintro mm fr st ⟨r,cd,nd,zd,ed,sd,dk,code,aw,hfr,hH,hrr,hX,hcl,gf⟩;rw[hfr];clear hfr;generalize iD fr=ee;clear fr;refine qq<|qj fun K hK=>qg ?_;refine qe hK ?_
  by_cases hlt:r<rules.length
  ·obtain⟨q,hq⟩:∃q,rules[r]?=some q:=⟨rules[r]'hlt,List.getElem?_eq_getElem _⟩
   have wF:=hr q (List.mem_of_getElem? hq);have gJ:=PO hq
   have q_:rules.drop r=q::rules.drop (r+1):=by
    rw[List.drop_eq_getElem_cons hlt]
    congr 1
    exact Option.some.inj ((List.getElem?_eq_getElem _).symm.trans hq)
   rw[q_,List.map_cons,eV] at hX;refine qq<|qD rfl (by simp;omega) ?_;refine ab.skip<|qq<|ab.block<|qq<|qj fun K hK=>qm ?_;refine qr fun US Lf=>?_;refine qR ?_;refine qm ?_;refine qm ?_;refine qe hK<|qq<|qq<|qj fun K hK=>qm ?_;refine qv (AQ wF) ?_;refine qg ?_;refine qe hK ?_
   cases yG:gm q.l with
   |false=>
    rw[if_pos yG] at hX;refine qB ?_;refine qq<|qj fun K hK=>aa.go (d:=.agg [.nul,.nul]) (st1:=_) rfl rfl rfl (ah rfl _) ?_;refine qm ?_;refine qS hH eQ fun st hH=>?_;dsimp only[u2,u1,u3,u4,setMany,u5,u6,D.cells,Nat.reduceAdd,aH,bm,ay,BW] at hH;refine qm ?_;refine qm ?_;refine qe hK ?_;rw[←hX];refine ab.ret ⟨rx,_,hH.lC rfl eQ rfl rfl rfl,rl bT hH (hfz _ 1 r)⟩
   |true=>
    rw[if_neg (by rw[yG];simp)] at hX;obtain⟨rZ,L4⟩:=tD yG;have hqd:=wF.c.arg s0.bs.length S;have hqn:=wF.nl;have pw:=wF.c;refine qC ?_;refine ab.skip<|qq<|qj fun K hK=>qm ?_;refine qm ?_;refine qm ?_;refine qm ?_;refine qm ?_;refine qn ?_;simp only[List.length_map];refine aa.wL (s:=1) hH rfl rfl rfl rfl rfl rfl rfl rfl (Nat.le_of_ble_eq_true rfl) (by omega) (fun _=>(ah rfl _)) (fun k33 st WQ hH=>?_);refine qm ?_;refine qn ?_;simp only[List.length_map];refine aa.wL (s:=1) hH rfl rfl rfl rfl rfl rfl rfl rfl (Nat.le_of_ble_eq_true rfl) (by omega) (fun _=>(ah rfl _)) (fun k36 st Tk hH=>?_);refine qg ?_;refine qp (o:=1) ?_;refine qT hH gO fun st hH=>?_;dsimp only[u2,u1,u3,u4,setMany,u5,u6,D.cells,Nat.reduceAdd,aH,bm,ay,BW] at hH;refine qg ?_;refine qp (o:=2) ?_;refine qT hH gO fun st hH=>?_;dsimp only[u2,u1,u3,u4,setMany,u5,u6,D.cells,Nat.reduceAdd,aH,bm,ay,BW] at hH;refine qg ?_;refine qp (o:=3) ?_;refine qT hH gO fun st hH=>?_;dsimp only[u2,u1,u3,u4,setMany,u5,u6,D.cells,Nat.reduceAdd,aH,bm,ay,BW] at hH;refine qe hK ?_
    have hH:Has s0.bs.length S st (.aP (.win k33 0 0 q.l.length 1) 1 ((List.replicate q.l.length (0:Int)).map ay)::.aP (.win k36 0 0 q.l.length 1) 1 ((List.replicate q.l.length (0:Int)).map ay)::.aP sd 1 (aw.map ay)::.deep dk cd 4 (code.map aH)::.box k14 (.mem 0 false [cd,q.d,.win k33 0 0 q.l.length 1,.win k36 0 0 q.l.length 1])::.box k2 (.mem 0 false [.nul,.nul])::[]):=by
     rw[List.map_replicate];exact hH.front bF
    refine qq<|qj fun K hK=>qm ?_;refine qm ?_;refine qg ?_;refine qp (o:=2) ?_;refine ql hH gO ?_;obtain⟨_,st,aK,rfl,hH⟩:=Cl wF.nl wF.i wF.c _ (cL q.l) (Nat.le_refl _) rZ (at_:=0) (by rw[L4];exact fO.all _) (by simp) hH;refine qv aK ?_;refine qe hK ?_;rw[zC (by rw[Tr.jf,L4];simp)] at hH;have hH:=hH.front bF;refine qq<|qj fun K hK=>qm ?_;refine qm ?_;refine qg ?_;refine qp (o:=3) ?_;refine ql hH gO ?_;obtain⟨_,st,aK,rfl,hH⟩:=Lx wF.nl wF.i wF.c _ (cL q.l) (Nat.le_refl _) rZ (at_:=0) (by rw[L4];exact fO.all _) (by simp) hH;refine qv aK ?_;refine qe hK ?_;rw[zC (by rw[Tr.jr,L4];simp)] at hH;have aak:=eO (zp (fO.all (cL q.l).zs));refine qq<|qq<|qj fun K hK=>qm ?_;refine qg ?_;refine qp (o:=0) ?_;refine ql hH gO ?_;refine aa.BI hH rfl (ev rfl) (by exact eQ) rfl (ah rfl _) ?_;simp only[List.length_map];refine qm ?_;refine qg ?_;refine qp (o:=2) ?_;refine ql hH gO ?_;refine qi hH bF fun Y1 SV=>?_;refine qo hH bF ?_;refine aa.lq (z:=((code.length+min (cL q.l).sz 401:Nat):Int)) rfl (ev rfl) (ev rfl) (by rw[wrap_i64 (by omega) (by omega)]<;>omega) (ah rfl _) ?_;refine aa.lq (z:=((code.length+min (cL q.l).sz 401+3:Nat):Int)) rfl (ev rfl) (ev rfl) (by rw[wrap_i64 (by omega) (by omega)]<;>omega) (ah rfl _) ?_;refine qg ?_;refine qe hK ?_
    by_cases QG:400<code.length+min (cL q.l).sz 401+3
    ·rw[if_pos QG] at hX;have gL:decide (((code.length+min (cL q.l).sz 401+3:Nat):Int)>400)=true:=by rw[decide_eq_true_eq];omega
     refine qD rfl (by rw[gL]) ?_;refine qq<|qj fun K hK=>aa.go (d:=.agg [.nul,.nul]) (st1:=_) rfl rfl rfl (ah rfl _) ?_;refine qm ?_;refine qS hH rH fun st hH=>?_;dsimp only[u2,u1,u3,u4,setMany,u5,u6,D.cells,Nat.reduceAdd,aH,bm,ay,BW] at hH;refine qm ?_;refine qm ?_;refine qe hK ?_;rw[←hX];refine ab.ret ⟨rx,_,hH.lC rfl rH rfl rfl rfl,rl bT hH (hfz _ 12 r)⟩
    ·rw[if_neg QG] at hX;have gL:decide (((code.length+min (cL q.l).sz 401+3:Nat):Int)>400)=false:=by rw[decide_eq_false_iff_not];omega
     refine qE rfl (by rw[gL]) ?_;refine ab.skip ?_;have hH:=hH.front bF;have hH:=hH.front eQ;have hH:=hH.front gO;have hH:Has s0.bs.length S st (.box k14 (.mem 0 false [cd,q.d,.win k33 0 0 q.l.length 1,.win k36 0 0 q.l.length 1])::.deep dk cd 4 (code.map aH)::.aP (.win k33 0 0 q.l.length 1) 1 ((cL q.l).zs.map ay)::.aP (.win k36 0 0 q.l.length 1) 1 (((cL q.l).es 0).map ay)::.aP sd 1 (aw.map ay)::.box k2 (.mem 0 false [.nul,.nul])::[]):=hH;refine qq<|qj fun K hK=>qm ?_;refine qm ?_;refine aa.go (d:=.agg [.int .i64 4,.int .i64 0,.int .i64 0,.nul]) (st1:=_) rfl rfl rfl (ah rfl _) ?_;have hH:=hH.d_ 2;obtain⟨_,st,aK,rfl,cd,dk,hH⟩:=gA (rs:=[]) hF (by omega) hH;refine qv aK ?_;refine qh (s:=1) (vs:=[_]) hH fun k75 st aaO hH=>?_;refine aa.bO (s:=1) hH rfl (ev rfl) (ev rfl) (by exact rH) (by exact hH.rows (by exact aB)) rfl rfl rfl rfl rfl rfl rfl ⟨(Nat.le_of_ble_eq_true rfl),(Nat.le_of_ble_eq_true rfl)⟩ (fun _=>(ah rfl _)) (by simp only[List.length_cons,List.length_nil,List.length_map]<;>omega) (by exact .inl hF) (fun x76 st hH=>?_);dsimp only[u2,u1,u3,u4,setMany,u5,u6,D.cells,Nat.reduceAdd,aH,bm,ay,BW] at hH;refine qm ?_;refine qe hK ?_;have hH:=hH.drop 1;have mR:(code++[c8 4 0 0 []]).length=code.length+1:=by simp
     refine qq<|qj fun K hK=>qm ?_;obtain⟨_,st,aK,rfl,cd,dk,hH⟩:=KK wF.nl wF.i _ (cL q.l) (Nat.le_refl _) hF wF.c (at_:=0) (by rw[L4];exact fO.all _) (fO.all _) (fO.all _) rZ (by omega) ⟨cd,dk,hH⟩;refine qv aK ?_;refine qe hK ?_;rw[mR] at hH;have mQ:(code++[c8 4 0 0 []]++aX (cL q.l) (code.length+1)).length=code.length+1+(cL q.l).sz:=by rw[List.length_append,mR,cy _ _ rZ]
     refine qq<|qj fun K hK=>qm ?_;refine aa.go (d:=.agg [.int .i64 4,.int .i64 1,.int .i64 0,.nul]) (st1:=_) rfl rfl rfl (ah rfl _) ?_;have hH:=hH.d_ 2;obtain⟨_,st,aK,rfl,cd,dk,hH⟩:=gA (rs:=[]) hF (by omega) hH;refine qv aK ?_;refine qe hK ?_;have DU:(code++[c8 4 0 0 []]++aX (cL q.l) (code.length+1)++[c8 4 1 0 []]).length=code.length+1+(cL q.l).sz+1:=by rw[List.length_append,mQ];rfl
     refine qj fun K hK=>qm ?_;refine qm ?_;refine aa.go (d:=.agg [.int .i64 7,.int .i64 (r:Nat),.int .i64 0,.nul]) (st1:=_) rfl rfl rfl (ah rfl _) ?_;have hH:=hH.d_ 2;obtain⟨_,st,aK,rfl,cd,dk,hH⟩:=gA (rs:=[]) hF (by omega) hH;refine qv aK ?_;refine qe hK ?_
     have hrc:code++[c8 4 0 0 []]++aX (cL q.l) (code.length+1)++[c8 4 1 0 []]++[c8 7 (r:Nat) 0 []]=code++eS (cL q.l) code.length r:=by
      unfold eS;simp
     rw[hrc] at hH;have hH:=(hH.erase 2).erase 2;have hH:=hH.front bF;have hH:=hH.front dL;refine qj fun K hK=>qA ?_;refine qm ?_;refine qe hK ?_;exact⟨mm-1,by omega,⟨r+1,cd,q.d,.win k33 0 0 q.l.length 1,.win k36 0 0 q.l.length 1,x76,dk,code++eS (cL q.l) code.length r,aw++[((code.length:Nat):Int)],rfl,(by rw[List.map_append (f:=ay)];exact hH),by omega,hX,by rw[List.length_append,lB rZ];omega,by rw[List.length_append];simp only[List.length_cons,List.length_nil];omega⟩⟩
  ·refine qq<|qE rfl (by simp;omega) ?_;refine ab.exit ?_;rw[List.drop_of_length_le (by omega),List.map_nil,oh] at hX;refine qq<|qj fun K hK=>qm ?_;refine qg ?_;refine qp (o:=0) ?_;refine ql hH dL ?_;refine qm ?_;refine aa.gd (qs:=[(0,_),(1,_)]) rfl rfl rfl rfl ⟨rfl,(ev rfl),(by exact hH.og (by exact bF)),rfl,(ev rfl),(by exact hH.eK (by exact aB)),trivial⟩ (by intro q hq;simp only[List.mem_cons,List.not_mem_nil,or_false] at hq;rcases hq with rfl|rfl<;>exact⟨rfl,by exact Nat.le_of_ble_eq_true rfl⟩) (by show List.foldl _ [_,_] _=_;dsimp only[List.foldl_cons,List.foldl_nil,u2,u1]<;>rfl) (ah rfl _) ?_;refine qS hH eQ fun st hH=>?_;dsimp only[u2,u1,u3,u4,setMany,u5,u6,D.cells,Nat.reduceAdd,aH,bm,ay,BW] at hH;refine qm ?_;refine qm ?_;refine qe hK ?_;rw[←hX];have h1:=hH.jO bF (n:=13) (by decide);have h2:=hH.uH aB (n4 _) (n:=14) (by decide)
   have h4:aY st s0.bs.length false 15 (.agg [cd,sd])=some (pq code aw).d:=by
    show(eN (aY st s0.bs.length false 14) [cd,sd]).map D.agg=_;simp only[eN,h1,h2,Option.map_some];rfl
   have h3:aY st s0.bs.length false 16 (pE [.agg [cd,sd],.int .i64 0,.int .i64 0])=some (oQ ⟨code,aw,0,0⟩):=by
    show(eN (aY st s0.bs.length false 15) [.agg [cd,sd],.int .i64 0,.int .i64 0]).map D.tup=_;simp only[eN,h4];rfl
   exact ab.ret ⟨rx,_,hH.lC rfl eQ rfl rfl rfl,rl bT hH h3⟩
theorem xf:∀(ls:List (List dM)) (r:Nat) (c:List aO) (s:List Int),(∀l∈ls,∀n∈l,n.rs.length≤1048576)→(∀i∈c,jT i)→c.length≤400→s.length≤r→(∀i∈(eV ls r c s).code,jT i)∧(eV ls r c s).code.length≤400∧(eV ls r c s).aw.length≤r+ls.length
 |[],r,c,s,_,h1,h2,h3=>by rw[oh];exact⟨h1,h2,by simpa using h3⟩
 |l::ls,r,c,s,h0,h1,h2,h3=>by
  have ZD:∀e w:Int,(∀i∈(tA.mk [] [] e w).code,jT i)∧(tA.mk [] [] e w).code.length≤400∧(tA.mk [] [] e w).aw.length≤r+(l::ls).length:=fun e w=>⟨fun i hi=>(by cases hi),by simp,by simp⟩
  rw[eV]
  split
  ·exact ZD _ _
  ·rename_i hr;rw[Bool.not_eq_false] at hr
   split
   ·exact ZD _ _
   ·rename_i hb;obtain⟨t1,t2⟩:=tD hr
    obtain⟨h4,h5,h6⟩:=xf ls (r+1) (c++eS (cL l) c.length r) (s++[((c.length:Nat):Int)]) (fun l' ir=>h0 l' (List.mem_cons_of_mem _ ir)) (fun i hi=>by
     rcases List.mem_append.1 hi with hi|hi
     ·exact h1 i hi
     ·exact Ff (by rw[t2];exact h0 l (List.mem_cons_self ..)) i hi) (by rw[List.length_append,lB t1];omega) (by rw[List.length_append];simp only[List.length_cons,List.length_nil];omega)
    exact⟨h4,h5,by simp only[List.length_cons];omega⟩
theorem xe {ls:List (List dM)} (h:∀l∈ls,∀n∈l,n.rs.length≤1048576):(pq (bB ls).code (bB ls).aw).ok∧(bB ls).code.length≤400:=by
 unfold bB
 split
 ·exact⟨CM (fun i hi=>(by cases hi)) (by simp) (by simp),by simp⟩
 ·obtain⟨h1,h2,h3⟩:=xf ls 0 [] [] h (fun i hi=>by cases hi) (by simp) (by simp);exact⟨CM h1 (by omega) (by omega),h2⟩
def AA (b:List UInt8):List D:=[.str b]
theorem E7 {l:List (List UInt8)} {i:Nat} {q:List UInt8} (h:l[i]?=some q):(l.map AA)[i]?=some (AA q):=by rw[List.getElem?_map,h];rfl
theorem PN {parts:List (List dM)} (h:∀l∈parts,(∀n∈l,vc n)∧l.length≤500):∀r∈parts.map (fun l=>(⟨uX l,l⟩:Nl)),r.ok:=by
 intro r hr;obtain⟨l,hl,rfl⟩:=List.mem_map.1 hr;exact Sf (h l hl).1 (by have:=(h l hl).2;omega)
theorem C8 {parts:List (List dM)}:(parts.map (fun l=>(⟨uX l,l⟩:Nl))).map BW=parts.map eu:=by
 rw[List.map_map];rfl
theorem y8 {s0:St} {y:D} {parts:List (List dM)} (h:∀l∈parts,(∀n∈l,vc n)∧l.length≤500) (hl:parts.length≤1048576) (hy:V.Rows s0 1 y (parts.map eu)):Ev pv 47 [y] s0 (oQ (bB parts)) s0∧(pq (bB parts).code (bB parts).aw).ok∧(bB parts).code.length≤400:=by
 have h1:=y7 (s0:=s0) (x:=y) (rules:=parts.map (fun l=>(⟨uX l,l⟩:Nl))) (by rw[C8];exact hy) (PN h) (by rw[List.length_map];exact hl);have h2:(parts.map (fun l=>(⟨uX l,l⟩:Nl))).map (·.l)=parts:=by rw[List.map_map];exact List.map_id _
 rw[h2] at h1;exact⟨h1,xe fun l hl n hn=>((h l hl).1 n hn).2.1⟩
def zE (n:Nat) (i:aO):aO:=if i.op=2 then⟨2,i.x+n,i.y+n,i.rd,i.rs⟩ else if i.op=3 then⟨3,i.x+n,i.y,i.rd,i.rs⟩ else i
theorem pH (n:Nat) {op:Int} (x y:Int) (rs:List Rg) (h2:op≠2) (h3:op≠3):zE n (c8 op x y rs)=c8 op x y rs:=by
 unfold zE c8;rw[if_neg h2,if_neg h3]
theorem xM (n s o:Nat) (lz:Bool):zE n (nE s o lz)=nE (s+n) (o+n) lz:=by
 cases lz
 ·show(⟨2,((s+1:Nat):Int)+n,(o:Int)+n,_,_⟩:aO)=c8 2 ((s+n+1:Nat):Int) ((o+n:Nat):Int) [];unfold c8
  congr 1;omega
 ·show(⟨2,(o:Int)+n,((s+1:Nat):Int)+n,_,_⟩:aO)=c8 2 ((o+n:Nat):Int) ((s+n+1:Nat):Int) [];unfold c8
  congr 1;omega
theorem Cn (n e:Nat):zE n (mK e)=mK (e+n):=by
 show(⟨3,(e:Int)+n,0,_,_⟩:aO)=c8 3 ((e+n:Nat):Int) 0 [];unfold c8
 congr 1
theorem tK {c:Nat→List aO} {z n:Nat} (hc:∀b,c (b+n)=(c b).map (zE n)):∀k b,fv c z k (b+n)=(fv c z k b).map (zE n)
 |0,b=>rfl
 |k+1,b=>by
  have h:=tK hc (z:=z) k (b+z);rw[Nat.add_right_comm] at h;rw[fv,fv,List.map_append,hc,h]
theorem zK {sp YQ:Nat→aO} {c:Nat→List aO} {z n:Nat} (hs:∀s,YQ (s+n)=zE n (sp s)) (hc:∀b,c (b+n)=(c b).map (zE n)):∀k b,fc YQ c z k (b+n)=(fc sp c z k b).map (zE n)
 |0,b=>rfl
 |k+1,b=>by
  have h:=zK hs hc (z:=z) k (b+1+z);have e1:b+1+z+n=b+n+1+z:=by omega
  have e2:b+n+1=b+1+n:=by omega
  rw[e1] at h;rw[fc,fc,List.map_cons,List.map_append,hs,h,e2,hc]
theorem Fg {nd:dM} {c:Nat→List aO} {z n b:Nat} (hc:∀b,c (b+n)=(c b).map (zE n)):nK nd c z (b+n)=(nK nd c z b).map (zE n):=by
 unfold nK
 split
 ·rw[List.map_append,tK hc,List.map_cons,List.map_append,xM,List.map_cons,List.map_nil,Cn];have e1:b+n+nd.mn.toNat*z=b+nd.mn.toNat*z+n:=by omega
  have e2:b+nd.mn.toNat*z+n+1=b+nd.mn.toNat*z+1+n:=by omega
  have e3:b+nd.mn.toNat*z+n+z+2=b+nd.mn.toNat*z+z+2+n:=by omega
  rw[e1,e2,e3,hc]
 ·rw[List.map_append,tK hc];have e1:b+n+nd.mn.toNat*z=b+nd.mn.toNat*z+n:=by omega
  rw[e1]
  congr 1
  refine zK (fun s=>?_) hc _ _;rw[xM]
  congr 1
  omega
mutual
theorem rB (n:Nat):∀(t:Tr) (b:Nat),aX t (b+n)=(aX t b).map (zE n)
 | .mk nd ks,b=>by
  have hc:=fun b=>Am n ks b;have ha:=fun e b=>Au n e ks b;simp only[aX]
  split
  ·rw[List.map_cons,List.map_nil,pH _ _ _ _ (by decide) (by decide)]
  split
  ·rw[List.map_cons,List.map_nil,pH _ _ _ _ (by decide) (by decide)]
  split
  ·rw[List.map_cons,List.map_nil,pH _ _ _ _ (by decide) (by decide)]
  split
  ·exact hc b
  split
  ·rw[Nat.add_right_comm];exact ha _ b
  split
  ·exact Fg hc
  split
  ·rw[List.map_cons,List.map_append,List.map_cons,List.map_nil,pH _ _ _ _ (by decide) (by decide),pH _ _ _ _ (by decide) (by decide),Nat.add_right_comm,hc]
  ·rfl
theorem Am (n:Nat):∀(ts:bI) (b:Nat),fZ ts (b+n)=(fZ ts b).map (zE n)
 | .nil,b=>by simp only[fZ,List.map_nil]
 | .cons t ts,b=>by
  have h:=Am n ts (b+t.sz);rw[Nat.add_right_comm] at h;simp only[fZ,List.map_append];rw[rB n t b,h]
theorem Au (n:Nat):∀(e:Nat) (ts:bI) (b:Nat),eR (mK (e+n)) ts (b+n)=(eR (mK e) ts b).map (zE n)
 |e,.nil,b=>by simp only[eR,List.map_nil]
 |e,.cons t ts,b=>by
  have h:=Au n e ts (b+t.sz+2);have h1:=rB n t (b+1);have e1:b+t.sz+2+n=b+n+t.sz+2:=by omega
  have e2:b+1+n=b+n+1:=by omega
  have e3:b+1+t.sz+1+n=b+n+1+t.sz+1:=by omega
  rw[e1] at h;rw[e2] at h1;simp only[eR]
  split
  ·exact rB n t b
  ·rw[List.map_cons,List.map_append,List.map_cons,xM,Cn,h1,h,e3]
end
def ou (lo hi:Nat) (i:aO):Prop:=i.op≠7∧(i.op=2→((lo:Int)≤i.x∧i.x≤hi)∧(lo:Int)≤i.y∧i.y≤hi)∧(i.op=3→(lo:Int)≤i.x∧i.x≤hi)
theorem ou.mono {lo hi sW iQ:Nat} {i:aO} (h:ou lo hi i) (h1:sW≤lo) (h2:hi≤iQ):ou sW iQ i:=
 ⟨h.1,fun e=>by have:=h.2.1 e;omega,fun e=>by have:=h.2.2 e;omega⟩
theorem ou.mk {lo hi:Nat} {op:Int} (x y:Int) (rs:List Rg) (h2:op≠2) (h3:op≠3) (h7:op≠7):ou lo hi (c8 op x y rs):=⟨h7,fun h=>absurd h h2,fun h=>absurd h h3⟩
theorem ou.sp {lo hi s o:Nat} {lz:Bool} (h1:lo≤s+1∧s+1≤hi) (h2:lo≤o∧o≤hi):ou lo hi (nE s o lz):=by
 cases lz
 ·exact⟨by show(2:Int)≠7;decide,fun _=>by show((lo:Int)≤((s+1:Nat):Int)∧((s+1:Nat):Int)≤hi)∧(lo:Int)≤(o:Int)∧(o:Int)≤hi;omega,fun h=>absurd h (by show¬(2:Int)=3;decide)⟩
 ·exact⟨by show(2:Int)≠7;decide,fun _=>by show((lo:Int)≤(o:Int)∧(o:Int)≤hi)∧(lo:Int)≤((s+1:Nat):Int)∧((s+1:Nat):Int)≤hi;omega,fun h=>absurd h (by show¬(2:Int)=3;decide)⟩
theorem ou.jp {lo hi e:Nat} (h1:lo≤e∧e≤hi):ou lo hi (mK e):=
 ⟨by show(3:Int)≠7;decide,fun h=>absurd h (by show¬(3:Int)=2;decide),fun _=>by show(lo:Int)≤(e:Int)∧(e:Int)≤hi;omega⟩
theorem tL {c:Nat→List aO} {z:Nat} (hc:∀b,∀i∈c b,ou b (b+z) i):∀k b,∀i∈fv c z k b,ou b (b+k*z) i
 |0,b,i,hi=>by cases hi
 |k+1,b,i,hi=>by
  simp only[fv] at hi;rw[Nat.succ_mul]
  rcases List.mem_append.1 hi with hi|hi
  ·exact(hc b i hi).mono (Nat.le_refl _) (by omega)
  ·exact(tL hc k _ i hi).mono (by omega) (by omega)
theorem zL {sp:Nat→aO} {c:Nat→List aO} {z lo hi:Nat} (hs:∀s,lo≤s→s+1≤hi→ou lo hi (sp s)) (hc:∀b,∀i∈c b,ou b (b+z) i):∀k b,lo≤b→b+k*(z+1)≤hi→∀i∈fc sp c z k b,ou lo hi i
 |0,b,_,_,i,iQ=>by cases iQ
 |k+1,b,h1,h2,i,iQ=>by
  simp only[fc] at iQ;rw[Nat.succ_mul] at h2
  rcases List.mem_cons.1 iQ with rfl|iQ
  ·exact hs b h1 (by omega)
  ·rcases List.mem_append.1 iQ with iQ|iQ
   ·exact(hc _ i iQ).mono (by omega) (by omega)
   ·exact zL hs hc k _ (by omega) (by omega) i iQ
mutual
theorem rC:∀(t:Tr) (b:Nat),t.ok→∀i∈aX t b,ou b (b+t.sz) i
 | .mk n ks,b,bc,i,hi=>by
  simp only[Tr.ok] at bc;have hc:=fun b=>An ks b bc.2;obtain⟨_,hq⟩:=bc.1;simp only[aX] at hi;simp only[Tr.sz]
  by_cases q2:n.op=2
  ·rw[if_pos q2] at hi;simp only[List.mem_cons,List.not_mem_nil,or_false] at hi;subst hi;exact ou.mk _ _ _ (by decide) (by decide) (by decide)
  rw[if_neg q2] at hi
  by_cases q7:n.op=7
  ·rw[if_pos q7] at hi;simp only[List.mem_cons,List.not_mem_nil,or_false] at hi;subst hi;exact ou.mk _ _ _ (by decide) (by decide) (by decide)
  rw[if_neg q7] at hi
  by_cases q8:n.op=8
  ·rw[if_pos q8] at hi;simp only[List.mem_cons,List.not_mem_nil,or_false] at hi;subst hi;exact ou.mk _ _ _ (by decide) (by decide) (by decide)
  rw[if_neg q8] at hi
  have hz:∀s k,bQ n s k=if n.op=4 then s+2*(k-1) else if n.op=6 then s+2 else if n.op=5 then(if n.mx=-1 then n.mn.toNat*s+s+2 else n.mn.toNat*s+(n.mx.toNat-n.mn.toNat)*(s+1)) else s:=by
   intro s k;unfold bQ;rw[if_neg (by omega)]
  by_cases q3:n.op=3
  ·rw[if_pos q3] at hi;rw[hz,if_neg (by omega),if_neg (by omega),if_neg (by omega)];exact hc b i hi
  rw[if_neg q3] at hi
  by_cases q4:n.op=4
  ·rw[if_pos q4] at hi;have Sx:bQ n ks.sz ks.len=ks.sz+2*(ks.len-1):=by rw[hz,if_pos q4]
   rw[Sx] at hi⊢;exact Av ks b (b+(ks.sz+2*(ks.len-1))) bc.2 (Nat.le_refl _) i hi
  rw[if_neg q4] at hi
  by_cases q5:n.op=5
  ·rw[if_pos q5] at hi;rw[hz,if_neg q4,if_neg (by omega),if_pos q5];unfold nK at hi
   by_cases qm:n.mx=-1
   ·rw[if_pos qm] at hi⊢
    rcases List.mem_append.1 hi with hi|hi
    ·exact(tL hc _ _ i hi).mono (Nat.le_refl _) (by omega)
    ·rcases List.mem_cons.1 hi with rfl|hi
     ·exact ou.sp (by omega) (by omega)
     ·rcases List.mem_append.1 hi with hi|hi
      ·exact(hc _ i hi).mono (by omega) (by omega)
      ·simp only[List.mem_cons,List.not_mem_nil,or_false] at hi;subst hi;exact ou.jp (by omega)
   ·rw[if_neg qm] at hi⊢
    rcases List.mem_append.1 hi with hi|hi
    ·exact(tL hc _ _ i hi).mono (Nat.le_refl _) (by omega)
    ·exact zL (fun s h1 h2=>ou.sp (by omega) (by omega)) hc _ _ (by omega) (by omega) i hi
  rw[if_neg q5] at hi
  by_cases q6:n.op=6
  ·rw[if_pos q6] at hi;rw[hz,if_neg q4,if_pos q6]
   rcases List.mem_cons.1 hi with rfl|hi
   ·exact ou.mk _ _ _ (by decide) (by decide) (by decide)
   ·rcases List.mem_append.1 hi with hi|hi
    ·exact(hc _ i hi).mono (by omega) (by omega)
    ·simp only[List.mem_cons,List.not_mem_nil,or_false] at hi;subst hi;exact ou.mk _ _ _ (by decide) (by decide) (by decide)
  ·rw[if_neg q6] at hi;cases hi
theorem An:∀(ts:bI) (b:Nat),ts.ok→∀i∈fZ ts b,ou b (b+ts.sz) i
 | .nil,b,_,i,hi=>by simp[fZ] at hi
 | .cons t ts,b,bc,i,hi=>by
  simp only[bI.ok] at bc;simp only[fZ] at hi;simp only[bI.sz]
  rcases List.mem_append.1 hi with hi|hi
  ·exact(rC t b bc.1 i hi).mono (Nat.le_refl _) (by omega)
  ·exact(An ts _ bc.2 i hi).mono (by omega) (by omega)
theorem Av:∀(ts:bI) (b e:Nat),ts.ok→b+(ts.sz+2*(ts.len-1))≤e→∀i∈eR (mK e) ts b,ou b e i
 | .nil,b,e,_,_,i,hi=>by simp[eR] at hi
 | .cons t ts,b,e,bc,he,i,hi=>by
  simp only[bI.ok] at bc;simp only[eR] at hi;simp only[bI.sz,bI.len] at he
  by_cases q:ts.len=0
  ·rw[if_pos q] at hi;exact(rC t b bc.1 i hi).mono (Nat.le_refl _) (by omega)
  ·rw[if_neg q] at hi
   rcases List.mem_cons.1 hi with rfl|hi
   ·exact ou.sp (by omega) (by omega)
   ·rcases List.mem_append.1 hi with hi|hi
    ·exact(rC t _ bc.1 i hi).mono (by omega) (by omega)
    ·rcases List.mem_cons.1 hi with rfl|hi
     ·exact ou.jp (by omega)
     ·exact(Av ts _ e bc.2 (by omega) i hi).mono (by omega) (by omega)
end
theorem y9 (r:Nat) (c:List aO) (s:List Int):eV [] r c s=⟨c,s,0,0⟩:=by simp only[eV]
theorem xb {code:List aO} {pc:Nat} {i:aO} (h:(code.map dK)[pc]?=some i):∃q,code[pc]?=some q∧i=dK q:=by
 rw[List.getElem?_map] at h;obtain⟨q,hq,rfl⟩:=Option.map_eq_some_iff.1 h;exact⟨q,hq,rfl⟩
theorem get_copy {code:List aO} {pc:Nat} {i:aO} (h:code[pc]?=some i):(code.map dK)[pc]?=some (dK i):=by
 rw[List.getElem?_map,h];rfl
theorem w_ (code:List aO):∀(f:Nat) (seen:List Bool) (gR:List Int),yY (code.map dK) f seen gR=yY code f seen gR
 |0,_,_=>rfl
 |_+1,_,[]=>rfl
 |f+1,seen,v::gR=>by
  have ih:=w_ code f;unfold yY;rw[List.getElem?_map]
  cases h1:seen[v.toNat]? with
  |none=>exact ih _ _
  |some b=>
   cases b with
   |true=>exact ih _ _
   |false=>
    cases h2:code[v.toNat]? with
    |none=>rfl
    |some i=>exact ih _ _
theorem pS (code:List aO) (s:Int):cA (code.map dK) s=cA code s:=by
 unfold cA;rw[List.length_map,w_]
theorem xV {p q:Pg} (h1:q.code=p.code.map dK) (h2:q.aw=p.aw):bz q↔bz p:=by
 have hl:q.code.length=p.code.length:=by rw[h1];simp
 constructor
 ·intro h;refine⟨by rw[←hl];exact h.cl,by rw[←h2];exact h.sl,fun pc i hi=>?_,fun v hv=>?_,fun r s hs pc i DE hre hi gg=>?_⟩
  ·have:=h.sh pc (dK i) (by rw[h1];exact get_copy hi);rw[hl,h2] at this;exact this
  ·have:=h.st v (by rw[h2];exact hv);rw[hl] at this;exact this
  ·exact h.fo r s (by rw[h2];exact hs) pc (dK i) (by rw[hl];exact DE) (by rw[h1,pS];exact hre) (by rw[h1];exact get_copy hi) gg
 ·intro h;refine⟨by rw[hl];exact h.cl,by rw[h2];exact h.sl,fun pc i hi=>?_,fun v hv=>?_,fun r s hs pc i DE hre hi gg=>?_⟩
  ·rw[h1] at hi;obtain⟨j,hj,rfl⟩:=xb hi;rw[hl,h2];exact h.sh pc j hj
  ·rw[hl];exact h.st v (by rw[←h2];exact hv)
  ·rw[h1] at hi hre;rw[pS] at hre;obtain⟨j,hj,rfl⟩:=xb hi;exact h.fo r s (by rw[←h2];exact hs) pc j (by rw[←hl];exact DE) hre hj gg
def jl (seen:List Bool) (v:Int):Prop:=0≤v∧seen[v.toNat]?=some true
structure zo (code:List aO) (start:Int) (seen:List Bool) (gR:List Int):Prop where
 a:∀u i,seen[u]?=some true→code[u]?=some i→∀w∈cM u i,jl seen w∨w∈gR
 b:∀v∈gR,v=start∨∃u i,seen[u]?=some true∧code[u]?=some i∧v∈cM u i
 c:∀v,jl seen v→v=start∨∃u i,seen[u]?=some true∧code[u]?=some i∧v∈cM u i∧v≠(u:Int)
 d:jl seen start∨start∈gR
theorem e6 {seen:List Bool} {k:Nat} (hk:k<seen.length) {v:Int}:jl (seen.set k true) v↔v=(k:Int)∨jl seen v:=by
 unfold jl;constructor
 ·rintro⟨h0,h⟩
  by_cases hv:v.toNat=k
  ·left;omega
  ·rw[List.getElem?_set_ne (fun e=>hv e.symm)] at h;exact .inr ⟨h0,h⟩
 ·rintro(rfl|⟨h0,h⟩)
  ·exact⟨by omega,by rw[Int.toNat_natCast,List.getElem?_set_self hk]⟩
  ·refine⟨h0,?_⟩
   by_cases hv:v.toNat=k
   ·rw[hv,List.getElem?_set_self hk]
   ·rw[List.getElem?_set_ne (fun e=>hv e.symm)];exact h
theorem dx {seen:List Bool} {u:Nat}:seen[u]?=some true↔jl seen (u:Int):=by
 unfold jl;rw[Int.toNat_natCast];exact⟨fun h=>⟨by omega,h⟩,fun h=>h.2⟩
theorem yW {code:List aO} {start:Int} (hcl:je code):∀(f:Nat) (seen:List Bool) (gR:List Int),seen.length=code.length→(∀v∈gR,0≤v∧v<(code.length:Int))→3*seen.count false+gR.length≤f→zo code start seen gR→zo code start (yY code f seen gR) []
 |0,seen,gR,_,_,hm,hi=>by
  have:gR=[]:=by cases gR with|nil=>rfl|cons _ _=>simp at hm
  subst this;exact hi
 |f+1,seen,[],_,_,_,hi=>hi
 |f+1,seen,v::gR,hl,hs,hm,hi=>by
  have hv:=hs v (List.mem_cons_self ..);have ur:∀w∈gR,0≤w∧w<(code.length:Int):=fun w hw=>hs w (List.mem_cons_of_mem _ hw);obtain⟨k,rfl⟩:=Int.eq_ofNat_of_zero_le hv.1;have hk:k<code.length:=by omega
  obtain⟨i,hci⟩:∃i,code[k]?=some i:=⟨code[k]'hk,List.getElem?_eq_getElem _⟩
  obtain⟨b,hb⟩:∃b,seen[k]?=some b:=⟨seen[k]'(by omega),List.getElem?_eq_getElem _⟩
  simp only[List.length_cons] at hm;have hp:∀w,w∈((k:Int)::gR)→w=(k:Int)∨w∈gR:=fun w hw=>List.mem_cons.1 hw;unfold yY;simp only[Int.toNat_natCast,hb,hci]
  cases b with
  |true=>
   have mj:jl seen (k:Int):=dx.1 hb;refine yW hcl f seen gR hl ur (by omega) ⟨fun u j hu hj w hw=>?_,fun w hw=>hi.b w (List.mem_cons_of_mem _ hw),hi.c,?_⟩
   ·rcases hi.a u j hu hj w hw with h|h
    ·exact .inl h
    ·rcases hp w h with rfl|h
     ·exact .inl mj
     ·exact .inr h
   ·rcases hi.d with h|h
    ·exact .inl h
    ·rcases hp start h with h|h
     ·exact .inl (h▸mj)
     ·exact .inr h
  |false=>
   have wR:=count_set hb;have gi:k<seen.length:=by omega
   have U1:=wa k i;refine yW hcl f _ _ (by rw[List.length_set];exact hl) (fun w hw=>?_) (by simp only[List.length_append,List.length_reverse];omega) ⟨fun u j hu hj w hw=>?_,fun w hw=>?_,fun w hw=>?_,?_⟩
   ·rcases List.mem_append.1 hw with hw|hw
    ·exact hcl k i hci w (List.mem_reverse.1 hw)
    ·exact ur w hw
   ·rcases(e6 gi).1 (dx.1 hu) with h|h
    ·have:u=k:=by omega
     subst this;rw[hci] at hj;cases hj;exact .inr (List.mem_append.2 (.inl (List.mem_reverse.2 hw)))
    ·rcases hi.a u j (dx.2 h) hj w hw with h|h
     ·exact .inl ((e6 gi).2 (.inr h))
     ·rcases hp w h with h|h
      ·exact .inl ((e6 gi).2 (.inl h))
      ·exact .inr (List.mem_append.2 (.inr h))
   ·rcases List.mem_append.1 hw with hw|hw
    ·exact .inr ⟨k,i,dx.2 ((e6 gi).2 (.inl rfl)),hci,List.mem_reverse.1 hw⟩
    ·rcases hi.b w (List.mem_cons_of_mem _ hw) with h|⟨u,j,h1,h2,h3⟩
     ·exact .inl h
     ·exact .inr ⟨u,j,dx.2 ((e6 gi).2 (.inr (dx.1 h1))),h2,h3⟩
   ·rcases(e6 gi).1 hw with rfl|h
    ·rcases hi.b (k:Int) (List.mem_cons_self ..) with h|⟨u,j,h1,h2,h3⟩
     ·exact .inl h
     ·refine .inr ⟨u,j,dx.2 ((e6 gi).2 (.inr (dx.1 h1))),h2,h3,fun e=>?_⟩;have:k=u:=by omega
      subst this;rw[hb] at h1;cases h1
    ·rcases hi.c w h with h|⟨u,j,h1,h2,h3,h4⟩
     ·exact .inl h
     ·exact .inr ⟨u,j,dx.2 ((e6 gi).2 (.inr (dx.1 h1))),h2,h3,h4⟩
   ·rcases hi.d with h|h
    ·exact .inl ((e6 gi).2 (.inr h))
    ·rcases hp start h with h|h
     ·exact .inl ((e6 gi).2 (.inl h))
     ·exact .inr (List.mem_append.2 (.inr h))
theorem vL {code:List aO} {start:Int} (hcl:je code) (gf:0≤start∧start<(code.length:Int)):zo code start (cA code start) []:=by
 have l_:∀v,¬jl (List.replicate code.length false) v:=by
  rintro v ⟨h0,h⟩;rw[List.getElem?_replicate] at h
  split at h<;>cases h
 refine yW hcl _ _ _ (by simp) (fun v hv=>?_) (by simp) ⟨fun u i hu=>absurd (dx.1 hu) (l_ _),fun v hv=>?_,fun v hv=>absurd hv (l_ v),.inr (by simp)⟩
 ·simp only[List.mem_cons,List.not_mem_nil,or_false] at hv;subst hv;exact gf
 ·simp only[List.mem_cons,List.not_mem_nil,or_false] at hv;exact .inl hv
theorem jE:∀{L:List Bool} {s:Nat} {v:Int},v∈qw s L↔∃k:Nat,L[k]?=some true∧v=((s+k:Nat):Int)
 |[],s,v=>⟨fun h=>(by cases h),fun⟨k,h,_⟩=>by simp at h⟩
 |b::l,s,v=>by
  simp only[qw,List.mem_append];constructor
  ·rintro(h|h)
   ·split at h
    ·rename_i hb;simp only[List.mem_cons,List.not_mem_nil,or_false] at h;exact⟨0,by simp[hb],by rw[h];simp⟩
    ·cases h
   ·obtain⟨k,h1,h2⟩:=jE.1 h;exact⟨k+1,by simpa using h1,by rw[h2];congr 1;omega⟩
  ·rintro⟨k,h1,h2⟩
   cases k with
   |zero=>simp at h1;subst h1;left;simp[h2]
   |succ k=>exact .inr (jE.2 ⟨k,by simpa using h1,by rw[h2];congr 1;omega⟩)
theorem sK : ∀ (L : List Bool) (s : Nat), (qw s L).Pairwise (· < ·)
 | [], s => .nil
 | b :: l, s => by
  simp only [qw];have ih := sK l (s + 1)
  split
  ·rw [List.singleton_append, List.pairwise_cons];refine ⟨fun v hv => ?_, ih⟩;obtain ⟨k, _, rfl⟩ := jE.1 hv;omega
  ·exact ih
def dg (lo hi:Nat) (i:aO):Prop:=
 (i.op=1∧i.x=0∧i.y=0∧fu i.rs=true)∨(i.op=2∧i.rs=[]∧((lo:Int)≤i.x∧i.x≤hi)∧(lo:Int)≤i.y∧i.y≤hi)∨(i.op=3∧i.rs=[]∧i.y=0∧(lo:Int)≤i.x∧i.x≤hi)∨(i.op=4∧i.rs=[]∧i.y=0∧0≤i.x∧i.x<10)∨((i.op=5∨i.op=6)∧i.rs=[]∧i.y=0∧i.x=0)
theorem dg.mono {lo hi sW iQ:Nat} {i:aO} (h:dg lo hi i) (h1:sW≤lo) (h2:hi≤iQ):dg sW iQ i:=by
 rcases h with h|⟨a,b,c,d⟩|⟨a,b,c,d⟩|h|h
 ·exact .inl h
 ·exact .inr (.inl ⟨a,b,by omega,by omega⟩)
 ·exact .inr (.inr (.inl ⟨a,b,c,by omega⟩))
 ·exact .inr (.inr (.inr (.inl h)))
 ·exact .inr (.inr (.inr (.inr h)))
theorem dg.sp {lo hi s o:Nat} {lz:Bool} (h1:lo≤s+1∧s+1≤hi) (h2:lo≤o∧o≤hi):dg lo hi (nE s o lz):=by
 refine .inr (.inl ?_);cases lz
 ·refine⟨rfl,rfl,?_⟩;show((lo:Int)≤((s+1:Nat):Int)∧((s+1:Nat):Int)≤hi)∧(lo:Int)≤(o:Int)∧(o:Int)≤hi;omega
 ·refine⟨rfl,rfl,?_⟩;show((lo:Int)≤(o:Int)∧(o:Int)≤hi)∧(lo:Int)≤((s+1:Nat):Int)∧((s+1:Nat):Int)≤hi;omega
theorem dg.jp {lo hi e:Nat} (h1:lo≤e∧e≤hi):dg lo hi (mK e):=by
 refine .inr (.inr (.inl ⟨rfl,rfl,rfl,?_⟩));show(lo:Int)≤(e:Int)∧(e:Int)≤hi;omega
theorem dg.save {lo hi:Nat} {x:Int} (h:0≤x∧x<10):dg lo hi (c8 4 x 0 []):=.inr (.inr (.inr (.inl ⟨rfl,rfl,rfl,h⟩)))
theorem nM {c:Nat→List aO} {z:Nat} (hc:∀b,∀i∈c b,dg b (b+z) i):∀k b,∀i∈fv c z k b,dg b (b+k*z) i
 |0,b,i,hi=>by cases hi
 |k+1,b,i,hi=>by
  simp only[fv] at hi;rw[Nat.succ_mul]
  rcases List.mem_append.1 hi with hi|hi
  ·exact(hc b i hi).mono (Nat.le_refl _) (by omega)
  ·exact(nM hc k _ i hi).mono (by omega) (by omega)
theorem sI {sp:Nat→aO} {c:Nat→List aO} {z lo hi:Nat} (hs:∀s,lo≤s→s+1≤hi→dg lo hi (sp s)) (hc:∀b,∀i∈c b,dg b (b+z) i):∀k b,lo≤b→b+k*(z+1)≤hi→∀i∈fc sp c z k b,dg lo hi i
 |0,b,_,_,i,iQ=>by cases iQ
 |k+1,b,h1,h2,i,iQ=>by
  simp only[fc] at iQ;rw[Nat.succ_mul] at h2
  rcases List.mem_cons.1 iQ with rfl|iQ
  ·exact hs b h1 (by omega)
  ·rcases List.mem_append.1 iQ with iQ|iQ
   ·exact(hc _ i iQ).mono (by omega) (by omega)
   ·exact sI hs hc k _ (by omega) (by omega) i iQ
def EI (l:List dM):Prop:=∀n∈l,n.op=2→fu n.rs=true
mutual
theorem km:∀(t:Tr) (b:Nat),t.ok→EI t.flat→∀i∈aX t b,dg b (b+t.sz) i
 | .mk n ks,b,bc,ku,i,hi=>by
  simp only[Tr.ok] at bc;simp only[Tr.flat] at ku;have hc:=fun b=>tq ks b bc.2 (fun n hn=>ku n (List.mem_cons_of_mem _ hn));obtain⟨_,hq⟩:=bc.1;simp only[aX] at hi;simp only[Tr.sz]
  by_cases q2:n.op=2
  ·rw[if_pos q2] at hi;simp only[List.mem_cons,List.not_mem_nil,or_false] at hi;subst hi;exact .inl ⟨rfl,rfl,rfl,ku n (List.mem_cons_self ..) q2⟩
  rw[if_neg q2] at hi
  by_cases q7:n.op=7
  ·rw[if_pos q7] at hi;simp only[List.mem_cons,List.not_mem_nil,or_false] at hi;subst hi;exact .inr (.inr (.inr (.inr ⟨.inl rfl,rfl,rfl,rfl⟩)))
  rw[if_neg q7] at hi
  by_cases q8:n.op=8
  ·rw[if_pos q8] at hi;simp only[List.mem_cons,List.not_mem_nil,or_false] at hi;subst hi;exact .inr (.inr (.inr (.inr ⟨.inr rfl,rfl,rfl,rfl⟩)))
  rw[if_neg q8] at hi
  have hz:∀s k,bQ n s k=if n.op=4 then s+2*(k-1) else if n.op=6 then s+2 else if n.op=5 then(if n.mx=-1 then n.mn.toNat*s+s+2 else n.mn.toNat*s+(n.mx.toNat-n.mn.toNat)*(s+1)) else s:=by
   intro s k;unfold bQ;rw[if_neg (by omega)]
  by_cases q3:n.op=3
  ·rw[if_pos q3] at hi;rw[hz,if_neg (by omega),if_neg (by omega),if_neg (by omega)];exact hc b i hi
  rw[if_neg q3] at hi
  by_cases q4:n.op=4
  ·rw[if_pos q4] at hi;have Sx:bQ n ks.sz ks.len=ks.sz+2*(ks.len-1):=by rw[hz,if_pos q4]
   rw[Sx] at hi⊢;exact tx ks b (b+(ks.sz+2*(ks.len-1))) bc.2 (fun n hn=>ku n (List.mem_cons_of_mem _ hn)) (Nat.le_refl _) i hi
  rw[if_neg q4] at hi
  by_cases q5:n.op=5
  ·rw[if_pos q5] at hi;rw[hz,if_neg q4,if_neg (by omega),if_pos q5];unfold nK at hi
   by_cases qx:n.mx=-1
   ·rw[if_pos qx] at hi⊢
    rcases List.mem_append.1 hi with hi|hi
    ·exact(nM hc _ _ i hi).mono (Nat.le_refl _) (by omega)
    ·rcases List.mem_cons.1 hi with rfl|hi
     ·exact dg.sp (by omega) (by omega)
     ·rcases List.mem_append.1 hi with hi|hi
      ·exact(hc _ i hi).mono (by omega) (by omega)
      ·simp only[List.mem_cons,List.not_mem_nil,or_false] at hi;subst hi;exact dg.jp (by omega)
   ·rw[if_neg qx] at hi⊢
    rcases List.mem_append.1 hi with hi|hi
    ·exact(nM hc _ _ i hi).mono (Nat.le_refl _) (by omega)
    ·exact sI (fun s h1 h2=>dg.sp (by omega) (by omega)) hc _ _ (by omega) (by omega) i hi
  rw[if_neg q5] at hi
  by_cases q6:n.op=6
  ·rw[if_pos q6] at hi;rw[hz,if_neg q4,if_pos q6]
   rcases List.mem_cons.1 hi with rfl|hi
   ·exact dg.save (by omega)
   ·rcases List.mem_append.1 hi with hi|hi
    ·exact(hc _ i hi).mono (by omega) (by omega)
    ·simp only[List.mem_cons,List.not_mem_nil,or_false] at hi;subst hi;exact dg.save (by omega)
  ·rw[if_neg q6] at hi;cases hi
theorem tq:∀(ts:bI) (b:Nat),ts.ok→EI ts.flat→∀i∈fZ ts b,dg b (b+ts.sz) i
 | .nil,b,_,_,i,hi=>by simp[fZ] at hi
 | .cons t ts,b,bc,ku,i,hi=>by
  simp only[bI.ok] at bc;simp only[bI.flat] at ku;simp only[fZ] at hi;simp only[bI.sz]
  rcases List.mem_append.1 hi with hi|hi
  ·exact(km t b bc.1 (fun n hn=>ku n (List.mem_append_left _ hn)) i hi).mono (Nat.le_refl _) (by omega)
  ·exact(tq ts _ bc.2 (fun n hn=>ku n (List.mem_append_right _ hn)) i hi).mono (by omega) (by omega)
theorem tx:∀(ts:bI) (b e:Nat),ts.ok→EI ts.flat→b+(ts.sz+2*(ts.len-1))≤e→∀i∈eR (mK e) ts b,dg b e i
 | .nil,b,e,_,_,_,i,hi=>by simp[eR] at hi
 | .cons t ts,b,e,bc,ku,he,i,hi=>by
  simp only[bI.ok] at bc;simp only[bI.flat] at ku;simp only[eR] at hi;simp only[bI.sz,bI.len] at he;have h1:EI t.flat:=fun n hn=>ku n (List.mem_append_left _ hn);have h2:EI ts.flat:=fun n hn=>ku n (List.mem_append_right _ hn)
  by_cases q:ts.len=0
  ·rw[if_pos q] at hi;exact(km t b bc.1 h1 i hi).mono (Nat.le_refl _) (by omega)
  ·rw[if_neg q] at hi
   rcases List.mem_cons.1 hi with rfl|hi
   ·exact dg.sp (by omega) (by omega)
   ·rcases List.mem_append.1 hi with hi|hi
    ·exact(km t _ bc.1 h1 i hi).mono (by omega) (by omega)
    ·rcases List.mem_cons.1 hi with rfl|hi
     ·exact dg.jp (by omega)
     ·exact(tx ts _ e bc.2 h2 (by omega) i hi).mono (by omega) (by omega)
end
inductive Path (C:List aO):Nat→Nat→Prop where
 |refl (u:Nat):Path C u u
 |step {u v w:Nat} {i:aO} (h:C[u]?=some i) (hn:(v:Int)∈cM u i) (p:Path C v w):Path C u w
theorem Path.trans {C:List aO} {u v w:Nat} (h:Path C u v) (g:Path C v w):Path C u w:=by
 induction h with
 |refl=>exact g
 |step h hn _ ih=>exact .step h hn (ih g)
theorem Path.yS {C:List aO} {u:Nat} {i:aO} (h:C[u]?=some i) (ho:i.op≠2∧i.op≠3∧i.op≠7):Path C u (u+1):=
 .step h (by unfold cM;rw[if_neg ho.1,if_neg ho.2.1,if_neg ho.2.2];exact List.mem_cons_self ..) (.refl _)
theorem Path.jp {C:List aO} {u e:Nat} (h:C[u]?=some (mK e)):Path C u e:=
 .step h (by show(e:Int)∈cM u (c8 3 (e:Nat) 0 []);unfold cM;rw[if_neg (show¬(c8 3 (e:Nat) 0 []).op=2 by show¬(3:Int)=2;decide),if_pos (show(c8 3 (e:Nat) 0 []).op=3 from rfl)];exact List.mem_cons_self ..) (.refl _)
theorem Path.sp {C:List aO} {u s o:Nat} {lz:Bool} (h:C[u]?=some (nE s o lz)):Path C u (s+1)∧Path C u o:=by
 have hn:cM u (nE s o lz)=[(nE s o lz).x,(nE s o lz).y]:=by
  unfold cM;rw[if_pos (by cases lz<;>rfl)]
 cases lz
 ·exact⟨.step h (by rw[hn];exact List.mem_cons_self ..) (.refl _),.step h (by rw[hn];exact List.mem_cons_of_mem _ (List.mem_cons_self ..)) (.refl _)⟩
 ·exact⟨.step h (by rw[hn];exact List.mem_cons_of_mem _ (List.mem_cons_self ..)) (.refl _),.step h (by rw[hn];exact List.mem_cons_self ..) (.refl _)⟩
theorem nL {C:List aO} {c:Nat→List aO} {z:Nat} (hl:∀b,(c b).length=z) (hc:∀b,fO C b (c b)→Path C b (b+z)):∀k b,fO C b (fv c z k b)→Path C b (b+k*z)
 |0,b,_=>by rw[Nat.zero_mul];exact .refl _
 |k+1,b,h=>by
  rw[fv] at h;have h2:=h.right;rw[hl] at h2;have:=nL hl hc k (b+z) h2;rw[Nat.succ_mul,show b+(k*z+z)=b+z+k*z by omega];exact(hc b h.left).trans this
theorem BN {C : List aO} : ∀ (m : Nat) (t : Tr), t.flat.length ≤ m → ∀ b : Nat, t.ok → fO C b (aX t b) → Path C b (b + t.sz) := by
  intro m
  induction m with
  | zero => intro t h; have := t.iK; omega
  | succ m ih =>
    rintro ⟨n, ks⟩ hm b bc h
    simp only [Tr.flat, List.length_cons] at hm
    simp only [Tr.ok] at bc
    have hcat : ∀ (ts : bI) (b : Nat), ts.flat.length ≤ m → ts.ok → fO C b (fZ ts b) → Path C b (b + ts.sz) := by
      intro ts
      induction ts using bI.rec (motive_1 := fun _ => True) with
      | mk => trivial
      | nil => intro b _ _ _; exact .refl _
      | cons t ts _ zX =>
        intro b h1 h2 h3
        simp only [bI.flat, List.length_append] at h1
        simp only [bI.ok] at h2
        simp only [fZ] at h3
        have h4 := h3.right
        rw [cy t b h2.1] at h4
        have h5 := zX (b + t.sz) (by omega) h2.2 h4
        simp only [bI.sz]
        rw [← Nat.add_assoc]
        exact (ih t (by omega) b h2.1 h3.left).trans h5
    obtain ⟨l_, mj⟩ := bc
    obtain ⟨_, hq⟩ := l_
    have gi := fun b => nb ks b mj
    simp only [aX] at h
    simp only [Tr.sz]
    have hz : ∀ s k, bQ n s k = if n.op = 2 ∨ n.op = 7 ∨ n.op = 8 then 1 else if n.op = 4 then s + 2 * (k - 1) else if n.op = 6 then s + 2 else if n.op = 5 then (if n.mx = -1 then n.mn.toNat * s + s + 2 else n.mn.toNat * s + (n.mx.toNat - n.mn.toNat) * (s + 1)) else s := fun s k => rfl
    rw [hz]
    by_cases q2 : n.op = 2
    · rw [if_pos q2] at h
      rw [if_pos (.inl q2)]
      exact Path.yS h.head (by show (1 : Int) ≠ 2 ∧ (1 : Int) ≠ 3 ∧ (1 : Int) ≠ 7; decide)
    rw [if_neg q2] at h
    by_cases q7 : n.op = 7
    · rw [if_pos q7] at h
      rw [if_pos (.inr (.inl q7))]
      exact Path.yS h.head (by show (5 : Int) ≠ 2 ∧ (5 : Int) ≠ 3 ∧ (5 : Int) ≠ 7; decide)
    rw [if_neg q7] at h
    by_cases q8 : n.op = 8
    · rw [if_pos q8] at h
      rw [if_pos (.inr (.inr q8))]
      exact Path.yS h.head (by show (6 : Int) ≠ 2 ∧ (6 : Int) ≠ 3 ∧ (6 : Int) ≠ 7; decide)
    rw [if_neg q8] at h
    rw [if_neg (by omega)]
    by_cases q3 : n.op = 3
    · rw [if_pos q3] at h
      rw [if_neg (by omega), if_neg (by omega), if_neg (by omega)]
      exact hcat ks b (by omega) mj h
    rw [if_neg q3] at h
    by_cases q4 : n.op = 4
    · rw [if_pos q4] at h
      have Sx : bQ n ks.sz ks.len = ks.sz + 2 * (ks.len - 1) := by rw [hz, if_neg (by omega), if_pos q4]
      rw [Sx] at h
      rw [if_pos q4]
      cases ks with
      | nil => simp only [bI.len] at hq; omega
      | cons t ts =>
        simp only [bI.len] at hq
        simp only [bI.flat, List.length_append] at hm
        simp only [bI.ok] at mj
        simp only [eR] at h
        rw [if_neg (by omega)] at h
        have h1 := (Path.sp h.head).1
        have h2 := ih t (by omega) (b + 1) mj.1 h.tail.left
        have h3 := h.tail.right
        rw [cy t _ mj.1] at h3
        exact h1.trans (h2.trans (Path.jp h3.head))
    rw [if_neg q4] at h
    rw [if_neg q4]
    by_cases q5 : n.op = 5
    · rw [if_pos q5] at h
      rw [if_neg (by omega), if_pos q5]
      unfold nK at h
      by_cases qx : n.mx = -1
      · rw [if_pos qx] at h ⊢
        have h1 := nL gi (fun b hb => hcat ks b (by omega) mj hb) _ _ h.left
        have h2 := h.right
        rw [jA gi] at h2
        have h3 := (Path.sp h2.head).2
        rw [show b + (n.mn.toNat * ks.sz + ks.sz + 2) = b + n.mn.toNat * ks.sz + ks.sz + 2 by omega]
        exact h1.trans h3
      · rw [if_neg qx] at h ⊢
        have h1 := nL gi (fun b hb => hcat ks b (by omega) mj hb) _ _ h.left
        have h2 := h.right
        rw [jA gi] at h2
        by_cases hd : n.mx.toNat - n.mn.toNat = 0
        · rw [hd, Nat.zero_mul, Nat.add_zero]; exact h1
        · obtain ⟨d, xB⟩ : ∃ d, n.mx.toNat - n.mn.toNat = d + 1 := ⟨n.mx.toNat - n.mn.toNat - 1, by omega⟩
          rw [xB] at h2 ⊢
          rw [fc] at h2
          have h3 := (Path.sp h2.head).2
          rw [← Nat.add_assoc]
          exact h1.trans h3
    rw [if_neg q5] at h
    by_cases q6 : n.op = 6
    · rw [if_pos q6] at h
      rw [if_pos q6]
      have h1 : Path C b (b + 1) := Path.yS h.head (by show (4 : Int) ≠ 2 ∧ (4 : Int) ≠ 3 ∧ (4 : Int) ≠ 7; decide)
      have h2 := hcat ks (b + 1) (by omega) mj h.tail.left
      have h3 := h.tail.right
      rw [gi] at h3
      have h4 : Path C (b + 1 + ks.sz) (b + 1 + ks.sz + 1) := Path.yS h3.head (by show (4 : Int) ≠ 2 ∧ (4 : Int) ≠ 3 ∧ (4 : Int) ≠ 7; decide)
      rw [show b + (ks.sz + 2) = b + 1 + ks.sz + 1 by omega]
      exact h1.trans (h2.trans h4)
    · have wO : ks.len = 0 := by omega
      have := bI.len_nil wO
      subst this
      rw [if_neg q6, if_neg q5]
      exact .refl _
theorem yX {code:List aO} {I:Nat→Prop} (hI:∀u i,I u→code[u]?=some i→∀v∈cM u i,I v.toNat):∀(f:Nat) (seen:List Bool) (gR:List Int),(∀v∈gR,I v.toNat)→(∀u:Nat,seen[u]?=some true→I u)→∀u:Nat,(yY code f seen gR)[u]?=some true→I u
 |0,seen,gR,_,h2,u,h=>h2 u h
 |f+1,seen,[],_,h2,u,h=>h2 u h
 |f+1,seen,v::gR,h1,h2,u,h=>by
  have hv:=h1 v (List.mem_cons_self ..);have hs:∀w∈gR,I w.toNat:=fun w hw=>h1 w (List.mem_cons_of_mem _ hw);unfold yY at h
  split at h
  ·split at h
   ·rename_i i hi;refine yX hI f _ _ (fun w hw=>?_) (fun w hw=>?_) u h
    ·rcases List.mem_append.1 hw with hw|hw
     ·exact hI _ i hv hi w (List.mem_reverse.1 hw)
     ·exact hs w hw
    ·by_cases he:v.toNat=w
     ·rw[←he];exact hv
     ·rw[List.getElem?_set_ne he] at hw;exact h2 w hw
   ·exact h2 u h
  ·exact yX hI f _ _ hs h2 u h
theorem AY {code:List aO} {start:Int} (hcl:je code) (gf:0≤start∧start<(code.length:Int)) {u v:Nat} (p:Path code u v):(cA code start)[u]?=some true→(cA code start)[v]?=some true:=by
 obtain⟨ha,_,_,_⟩:=vL hcl gf
 induction p with
 |refl=>exact id
 |@step u v w i h hn _ ih=>
  intro hu;refine ih ?_
  rcases ha u i hu h _ hn with hs|hs
  ·exact dx.2 hs
  ·cases hs
theorem vK {code:List aO} {s:Nat} (hcl:je code) (hs:s<code.length):(cA code (s:Nat))[s]?=some true:=by
 obtain⟨_,_,_,hd⟩:=vL (start:=((s:Nat):Int)) hcl ⟨by omega,by omega⟩
 rcases hd with hd|hd
 ·exact dx.2 hd
 ·cases hd
mutual
theorem Tr.VB:∀t:Tr,True
 | .mk _ _=>trivial
theorem bI.VB:∀t:bI,True
 | .nil=>trivial
 | .cons _ _=>trivial
end
theorem Cm {n:dM} {g:Int} (h:(ft n g).2=true) (h2:n.op=2):fu n.rs=true:=by
 unfold ft at h
 split at h
 ·cases h
 ·rw[if_neg (show¬(n.op=1∨n.op=7∨n.op=8) by omega)] at h;have h:(n.kids==0 &&fu n.rs)=true:=h;rw[Bool.and_eq_true] at h;exact h.2
theorem zW {l:List dM} {h:Nat→Nat→Option (Nat×Nat)} (ih:∀at_ g r,h at_ g=some r→at_≤r.1∧∀j n,at_≤j→j<r.1→l[j]?=some n→n.op=2→fu n.rs=true):∀k at_ g r,jJ h k at_ g=some r→at_≤r.1∧∀j n,at_≤j→j<r.1→l[j]?=some n→n.op=2→fu n.rs=true
 |0,at_,g,r,e=>by
  simp only[jJ,Option.some.injEq] at e;subst e;exact⟨Nat.le_refl _,fun j n h1 h2=>by simp only at h2;omega⟩
 |k+1,at_,g,r,e=>by
  unfold jJ at e
  cases hq:h at_ g with
  |none=>rw[hq] at e;cases e
  |some q=>
   rw[hq] at e;obtain⟨t1,t2⟩:=ih _ _ _ hq;obtain⟨u1,u2⟩:=zW ih k _ _ _ e;refine⟨Nat.le_trans t1 u1,fun j n h1 h2 hj ho=>?_⟩
   by_cases hjq:j<q.1
   ·exact t2 j n h1 hjq hj ho
   ·exact u2 j n (by omega) h2 hj ho
theorem CW {l:List dM}:∀f at_ g r,iB l f at_ g=some r→at_≤r.1∧∀j n,at_≤j→j<r.1→l[j]?=some n→n.op=2→fu n.rs=true
 |0,_,_,_,e=>by simp[iB] at e
 |f+1,at_,g,r,e=>by
  unfold iB at e
  cases hn:l[at_]? with
  |none=>rw[hn] at e;cases e
  |some n=>
   rw[hn] at e;simp only at e
   split at e
   ·rename_i hs;obtain⟨u1,u2⟩:=zW (CW f) _ _ _ _ e;refine⟨by omega,fun j m h1 h2 hj ho=>?_⟩
    by_cases hja:j=at_
    ·subst hja;rw[hn] at hj;cases hj;exact Cm hs ho
    ·exact u2 j m (by omega) h2 hj ho
   ·cases e
theorem Cv {l:List dM} (h:gm l=true):EI l:=by
 unfold gm at h;simp only[Bool.and_eq_true] at h;obtain⟨_,h⟩:=h
 split at h
 ·rename_i r hr;rw[decide_eq_true_eq] at h;obtain⟨_,h2⟩:=CW _ _ _ _ hr;intro n hn ho;obtain⟨j,hj⟩:=List.getElem?_of_mem hn;exact h2 j n (Nat.zero_le _) (by rw[h];exact bH hj) hj ho
 ·cases h
structure Rc (n0 r0:Nat) (C:List aO) (B:List Int) (k:Nat):Prop where
 bl:B.length=k
 fs:0<k→B[0]?=some ((n0:Nat):Int)
 el:∀j,j<k→∃(t:Tr) (b:Nat),t.ok∧EI t.flat∧B[j]?=some (b:Int)∧n0≤b∧(∀b':Int,B[j+1]?=some b'→b'=((b+t.sz+3:Nat):Int))∧(j+1=k→n0+C.length=b+t.sz+3)∧∃pre post,C=pre++eS t b (r0+j)++post∧n0+pre.length=b
 al:∀i q,C[i]?=some q→∃j,j<k∧∃(t:Tr) (b:Nat),B[j]?=some (b:Int)∧t.ok∧EI t.flat∧b≤n0+i∧n0+i<b+t.sz+3∧b+t.sz+3≤n0+C.length∧q∈eS t b (r0+j)∧(eS t b (r0+j))[n0+i-b]?=some q
theorem rA:∀(ls:List (List dM)) (r:Nat) (c:List aO) (s:List Int),(eV ls r c s).e=0→∃C B,(eV ls r c s).code=c++C∧(eV ls r c s).aw=s++B∧Rc c.length r C B ls.length
 |[],r,c,s,h=>by
  rw[y9];exact⟨[],[],by simp,by simp,rfl,fun h=>by simp at h,fun j hj=>by simp at hj,fun i q hi=>by simp at hi⟩
 |l::ls,r,c,s,h=>by
  rw[eV] at h⊢
  by_cases hr:gm l=false
  ·rw[if_pos hr] at h;cases h
  rw[if_neg hr] at h⊢;rw[Bool.not_eq_false] at hr
  by_cases hb:400<c.length+min (cL l).sz 401+3
  ·rw[if_pos hb] at h;cases h
  rw[if_neg hb] at h⊢;obtain⟨t1,t2⟩:=tD hr;have ku:EI (cL l).flat:=by rw[t2];exact Cv hr
  have hlen:=lB (b:=c.length) (r:=r) t1;obtain⟨C,B,h1,h2,h3⟩:=rA ls (r+1) _ _ h;rw[List.length_append,hlen] at h3;refine⟨eS (cL l) c.length r++C,((c.length:Nat):Int)::B,by rw[h1,List.append_assoc],by rw[h2,List.append_assoc];rfl,by simp[h3.bl],fun _=>rfl,fun j hj=>?_,fun i q hi=>?_⟩
  ·cases j with
   |zero=>
    refine⟨cL l,c.length,t1,ku,rfl,Nat.le_refl _,fun b' ez=>?_,fun Qw=>?_,[],C,by simp,by simp⟩
    ·simp only[Nat.zero_add,List.getElem?_cons_succ] at ez;have hB:=h3.bl;have hlt:=bH ez;rw[h3.fs (by omega)] at ez;cases ez
     congr 1
    ·simp only[List.length_cons] at Qw;have B4:ls.length=0:=by omega
     have hC:C=[]:=by
      cases hc:C with
      |nil=>rfl
      |cons q C'=>
       obtain⟨j,hj,_⟩:=h3.al 0 q (by rw[hc];rfl);omega
     rw[hC,List.append_nil,hlen];omega
   |succ j=>
    simp only[List.length_cons] at hj;obtain⟨t,b,q1,q2,q3,q4,q5,q6,pre,post,q7,q8⟩:=h3.el j (by omega);refine⟨t,b,q1,q2,q3,by omega,q5,fun Qw=>?_,eS (cL l) c.length r++pre,post,?_,?_⟩
    ·simp only[List.length_cons] at Qw;have:=q6 (by omega);rw[List.length_append,hlen];omega
    ·rw[q7,show r+1+j=r+(j+1) by omega];simp only[List.append_assoc]
    ·rw[List.length_append,hlen];omega
  ·by_cases hil:i<(eS (cL l) c.length r).length
   ·rw[List.getElem?_append_left hil] at hi;refine⟨0,by simp,cL l,c.length,rfl,t1,ku,by omega,by omega,by rw[List.length_append,hlen];omega,List.mem_of_getElem? hi,?_⟩;rw[show c.length+i-c.length=i by omega];exact hi
   ·rw[List.getElem?_append_right (by omega)] at hi;obtain⟨j,q1,t,b,q2,q3,q4,q5,q6,q7,q8,q9⟩:=h3.al _ q hi;rw[hlen] at q5 q6 q9 hil;refine⟨j+1,by simp only[List.length_cons];omega,t,b,q2,q3,q4,by omega,by omega,by rw[List.length_append,hlen];omega,by rw[show r+(j+1)=r+1+j by omega];exact q8,?_⟩;rw[show r+(j+1)=r+1+j by omega,show c.length+i-b=c.length+((cL l).sz+3)+(i-((cL l).sz+3))-b by omega];exact q9
end Go.Proofs.YtbdnabmmlbiomaaGreat
