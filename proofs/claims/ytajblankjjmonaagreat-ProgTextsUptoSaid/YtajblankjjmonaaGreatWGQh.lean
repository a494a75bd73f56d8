/-
 The code of a repeat. %deep
-/
import Derived.Test.YtajblankjjmonaaGreatWGHr
import Derived.Test.YtajblankjjmonaaGreatWGKb
import Derived.Test.YtajblankjjmonaaGreatWGM3
import Derived.Test.YtajblankjjmonaaGreatWGCa
set_option maxRecDepth 100000
set_option maxHeartbeats 4000000
set_option linter.unusedSimpArgs false
set_option linter.unusedVariables false
namespace Go.Proofs.YtajblankjjmonaaGreat
open Go.V Go
def aa (fr:Go.V.Fr) (k:Nat):Go.V.D:=Go.V.nth .junk fr.loc k
variable{bb:Bool}
theorem mR {c:Nat→List aN} (hc:∀b,(c b).length=0) (z:Nat):∀k b,ei c z k b=[]
 |0,_=>rfl
 |k+1,b=>by rw[ei,mR hc z k,List.length_eq_zero_iff.1 (hc b)];rfl
theorem uf (s o:Nat) (lz:Bool):∃x y:Int,gJ s o lz=bh 2 x y []:=by
 cases lz
 ·exact⟨_,_,rfl⟩
 ·exact⟨_,_,rfl⟩
theorem zK {l:List Nod} (hll:l.length≤1048576) {m:Nat} (ih:∀t:Tr,t.flat.length≤m→qF bb l t) {n:Nod} {t:Tr} (fX:n.op=5) (OJ:t.flat.length≤m) (jj:jO n 1) (jq:t.ok) {N k:Nat} {S s0:St} {H:List bG} {nd zd ed:D} {code:List aN} {Z E:List Int} {at_:Nat} (hF:S.flr≤N) (hnd:SlD nd 7 (l.map ay)) (lN:fp l at_ (n::t.flat)) (hsz:fp Z (at_+1) t.zs) (wA:fp E (at_+1) (t.es (at_+1))) (hb:code.length+bk n t.sz 1≤1000000) (hM:Hi bb N S s0 k nd zd ed Z E H code):
  ∃r ae,Ev pv 31 [.ptr k 0 0,.int .i64 (at_:Nat)] s0 r ae∧r=.tup []∧Hi bb N S ae k nd zd ed Z E H (code++n_ n (av t) t.sz code.length):=by
 obtain⟨cd,dk,hH⟩:=hM;have hle:=lN.le (by simp);simp only[List.length_cons] at hle;have hn:=lN.head;have lN:=lN.tail;have hr1:=gi hn;have nY:=fe (ye hsz)
 have yV:0≤n.mn∧n.mn≤30∧(n.mx=-1∨(n.mn≤n.mx∧n.mx≤30)):=by
  obtain⟨_,hq⟩:=jj;omega
 have AY:bk n t.sz 1=if n.mx=-1 then n.mn.toNat*t.sz+t.sz+2 else n.mn.toNat*t.sz+(n.mx.toNat-n.mn.toNat)*(t.sz+1):=by unfold bk;rw[if_neg (by omega),if_neg (by omega),if_neg (by omega),if_pos fX]
 rw[AY] at hb;clear AY;have oL:=fun b=>bw t b jq;have hb1:code.length+n.mn.toNat*t.sz≤1000000:=by split at hb<;>omega
 refine Ev.gT rfl Nj rfl rfl rfl ?_;refine zE ?_;change EvC _ _ _ _ s0 _;have hc:=hnd.arg N S;refine zQ 7 ?_;refine qr fun Oa Ip=>?_;refine EvO.cx rfl (ev rfl) (by assumption) rfl (by dsimp only[Fr.put,u1,u2]<;>rfl) ?_;refine zQ 2 ?_;refine qa hH fun k4 st IJ hH=>?_;refine qS hH at0 fun st hH=>?_;dsimp only[u2,u1,u3,u4,setMany,u5,u6,D.cells,Nat.reduceAdd,aT,ay,ah,ew] at hH;refine zQ 2 ?_;have hH:Has N S st (.box k (.mem 0 false [cd,nd,zd,ed])::.bR bb dk cd 4 (code.map aT)::.lst zd 1 (Z.map ah)::.lst ed 1 (E.map ah)::.box k4 (.mem 0 false (ay n))::H):=hH.DG;refine zQ 8 ?_;refine qi hH at2 fun Fs xx=>?_;refine zQ 3 ?_;have Mb:=iv oL n.mn.toNat code.length;refine EvC.merge (fun fr st=>∃(cd:D) (dk:Nat→Prop) (tmp:List (Nat×D)),fr=⟨78,[.ptr k 0 0,.int .i64 (at_:Nat),aa fr 2,aa fr 3,.ptr k4 0 0,.int .i64 ((at_+1:Nat):Int),aa fr 6,aa fr 7,aa fr 8,aa fr 9,aa fr 10,aa fr 11,aa fr 12,aa fr 13,aa fr 14,aa fr 15,aa fr 16,aa fr 17,aa fr 18,aa fr 19,aa fr 20,aa fr 21,aa fr 22,aa fr 23,aa fr 24,aa fr 25,aa fr 26,aa fr 27,aa fr 28,aa fr 29,aa fr 30,aa fr 31,aa fr 32,aa fr 33,aa fr 34,aa fr 35,aa fr 36,aa fr 37,aa fr 38,aa fr 39,aa fr 40,aa fr 41,aa fr 42,aa fr 43,aa fr 44,aa fr 45,aa fr 46,aa fr 47,aa fr 48,aa fr 49,aa fr 50,aa fr 51,aa fr 52,aa fr 53,aa fr 54,aa fr 55,aa fr 56,aa fr 57,aa fr 58,aa fr 59,aa fr 60,aa fr 61,aa fr 62,aa fr 63,aa fr 64,aa fr 65,aa fr 66,aa fr 67,aa fr 68,aa fr 69,aa fr 70,aa fr 71,aa fr 72,aa fr 73,aa fr 74,aa fr 75,aa fr 76,aa fr 77],tmp⟩∧Has N S st (.box k (.mem 0 false [cd,nd,zd,ed])::.bR bb dk cd 4 ((code++ei (av t) t.sz n.mn.toNat code.length).map aT)::.lst zd 1 (Z.map ah)::.lst ed 1 (E.map ah)::.box k4 (.mem 0 false (ay n))::H)) ?_ ?_
 ·refine zP (fun hz=>?_) fun hz=>?_
  ·refine zQ 7 ?_;refine EvC.loop (fun mm fr st=>∃(i:Nat) (cd:D) (dk:Nat→Prop) (ak:List aN),fr.clean=⟨78,[.ptr k 0 0,.int .i64 (at_:Nat),aa fr 2,aa fr 3,.ptr k4 0 0,.int .i64 ((at_+1:Nat):Int),aa fr 6,aa fr 7,aa fr 8,aa fr 9,aa fr 10,aa fr 11,aa fr 12,aa fr 13,aa fr 14,aa fr 15,aa fr 16,aa fr 17,aa fr 18,aa fr 19,aa fr 20,aa fr 21,aa fr 22,aa fr 23,aa fr 24,aa fr 25,aa fr 26,aa fr 27,.int .i64 n.mn,.int .i64 (i:Nat),aa fr 30,aa fr 31,aa fr 32,aa fr 33,aa fr 34,aa fr 35,aa fr 36,aa fr 37,aa fr 38,aa fr 39,aa fr 40,aa fr 41,aa fr 42,aa fr 43,aa fr 44,aa fr 45,aa fr 46,aa fr 47,aa fr 48,aa fr 49,aa fr 50,aa fr 51,aa fr 52,aa fr 53,aa fr 54,aa fr 55,aa fr 56,aa fr 57,aa fr 58,aa fr 59,aa fr 60,aa fr 61,aa fr 62,aa fr 63,aa fr 64,aa fr 65,aa fr 66,aa fr 67,aa fr 68,aa fr 69,aa fr 70,aa fr 71,aa fr 72,aa fr 73,aa fr 74,aa fr 75,aa fr 76,aa fr 77],[]⟩∧Has N S st (.box k (.mem 0 false [cd,nd,zd,ed])::.bR bb dk cd 4 (ak.map aT)::.lst zd 1 (Z.map ah)::.lst ed 1 (E.map ah)::.box k4 (.mem 0 false (ay n))::H)∧(i+mm=n.mn.toNat)∧(ak++ei (av t) t.sz mm ak.length=code++ei (av t) t.sz n.mn.toNat code.length)∧(ak.length+mm*t.sz=code.length+n.mn.toNat*t.sz)) (n.mn.toNat) ?_ ?_
   ·exact⟨0,cd,dk,code,rfl,hH,by omega,rfl,rfl⟩
   rintro mm fr st ⟨i,cd,dk,ak,hfr,hH,hi,lF,hcl⟩;rw[hfr];clear hfr;generalize aa fr=ee;clear fr;refine zQ 4 ?_
   cases mm with
   |zero=>
    have hcc:decide ((i:Int)<n.mn)=false:=by rw[decide_eq_false_iff_not];omega
    refine qq<|qE rfl (by rw[hcc]) ?_;simp only[ei,List.append_nil] at lF;rw[lF] at hH;refine zQ 1 ?_;exact⟨cd,dk,_,rfl,hH⟩
   |succ mm=>
    have hcc:decide ((i:Int)<n.mn)=true:=by rw[decide_eq_true_eq];omega
    rw[Nat.succ_mul] at hcl;refine qq<|qD rfl (by rw[hcc]) ?_;refine zQ 6 ?_;obtain⟨_,st,hev,rfl,cd,dk,hH⟩:=ih t (by omega) hF hnd lN hsz wA jq (by omega) ⟨cd,dk,hH⟩;refine qv hev ?_;refine zQ 5 ?_;exact⟨mm,by omega,⟨i+1,cd,dk,ak++av t ak.length,rfl,hH,by omega,by rw[List.length_append,oL,List.append_assoc];exact lF,by rw[List.length_append,oL];omega⟩⟩
  ·refine zQ 1 ?_;have hz0:t.sz=0:=by omega
   have Mc:ei (av t) t.sz n.mn.toNat code.length=[]:=mR (fun b=>by rw[oL,hz0]) _ _ _;exact⟨cd,dk,_,rfl,(by rw[Mc,List.append_nil];exact hH)⟩
 ·rintro fr st ⟨cd,dk,tmp,hfr,hH⟩;rw[hfr];clear hfr;generalize aa fr=ee;clear fr;have Gm:(code++ei (av t) t.sz n.mn.toNat code.length).length=code.length+n.mn.toNat*t.sz:=by rw[List.length_append,Mb]
  unfold n_;rw[←Gm];rw[←Gm] at hb1
  have hb2:if n.mx=-1 then(code++ei (av t) t.sz n.mn.toNat code.length).length+t.sz+2≤1000000 else(code++ei (av t) t.sz n.mn.toNat code.length).length+(n.mx.toNat-n.mn.toNat)*(t.sz+1)≤1000000:=by
   rw[Gm];split
   ·rename_i h;rw[if_pos h] at hb;omega
   ·rename_i h;rw[if_neg h] at hb;omega
  have ra:∀X:List aN,code++(ei (av t) t.sz n.mn.toNat code.length++X)=code++ei (av t) t.sz n.mn.toNat code.length++X:=fun X=>by rw[List.append_assoc]
  simp only[apply_ite (fun X:List aN=>code++X),ra];clear ra Gm;generalize code++ei (av t) t.sz n.mn.toNat code.length=cR at*;refine zQ 7 ?_
  by_cases wv:n.mx=-1
  ·rw[if_pos wv];rw[if_pos wv] at hb2;refine qD rfl (by simp[wv]) ?_;refine zQ 3 ?_;refine EvO.go (d:=.agg [.int .i64 2,.int .i64 0,.int .i64 0,.nul]) (st1:=_) rfl rfl rfl (by dsimp only[Fr.put,u1,u2]<;>rfl) ?_;have hH:=hH.nulE 2;obtain⟨_,st,hev,rfl,cd,dk,hH⟩:=fL (rs:=[]) hF (by omega) hH;refine qv hev ?_;refine zQ 2 ?_;have gM:(cR++[bh 2 0 0 []]).length=cR.length+1:=by simp
   refine zQ 4 ?_;obtain⟨_,st,hev,rfl,cd,dk,hH⟩:=ih t (by omega) hF hnd lN hsz wA jq (by omega) ⟨cd,dk,hH⟩;refine qv hev ?_;refine zQ 1 ?_;rw[gM] at hH;have ja:(cR++[bh 2 0 0 []]++av t (cR.length+1)).length=cR.length+1+t.sz:=by rw[List.length_append,gM,oL]
   refine zQ 4 ?_;refine EvO.go (d:=.agg [.int .i64 3,.int .i64 (cR.length:Nat),.int .i64 0,.nul]) (st1:=_) rfl rfl rfl (by dsimp only[Fr.put,u1,u2]<;>rfl) ?_;have hH:=hH.nulE 2;obtain⟨_,st,hev,rfl,cd,dk,hH⟩:=fL (rs:=[]) hF (by omega) hH;refine qv hev ?_;refine zQ 1 ?_
   have vJ:(cR++[bh 2 0 0 []]++av t (cR.length+1)++[bh 3 (cR.length:Nat) 0 []])[cR.length]?=some (bh 2 0 0 []):=by
    rw[List.append_assoc,List.append_assoc];exact kJ _ _ _
   have vI:(cR++[bh 2 0 0 []]++av t (cR.length+1)++[bh 3 (cR.length:Nat) 0 []]).length=cR.length+t.sz+2:=by rw[List.length_append,ja];simp only[List.length_cons,List.length_nil];omega
   have tk:(cR++[bh 2 0 0 []]++av t (cR.length+1)++[bh 3 (cR.length:Nat) 0 []]).set cR.length (gJ cR.length (cR.length+t.sz+2) n.lz)=cR++(gJ cR.length (cR.length+t.sz+2) n.lz::(av t (cR.length+1)++[eZ cR.length])):=by
    rw[List.append_assoc,List.append_assoc];exact ko _ _ _ _
   generalize cR++[bh 2 0 0 []]++av t (cR.length+1)++[bh 3 (cR.length:Nat) 0 []]=aL at*;refine zQ 8 ?_;refine EvO.nA hH rfl (ev rfl) (by exact at1) rfl (by dsimp only[Fr.put,u1,u2]<;>rfl) ?_;simp only[List.length_map,List.length_append,List.length_cons,List.length_nil];refine zQ 2 ?_;obtain⟨_,st,hev,rfl,hH⟩:=o0 (at_:=cR.length) (over:=aL.length) (lz:=n.lz) vJ (by omega) hH;refine qv hev ?_;refine zQ 1 ?_;rw[vI,tk] at hH;refine EvC.ret ⟨rx,_,_,_,rfl,rfl,?_⟩;exact⟨rfl,cd,dk,hH.erase 4⟩
  ·rw[if_neg wv];rw[if_neg wv] at hb2;refine qE rfl (by simp[wv]) ?_;refine zQ 1 ?_;obtain⟨a,ha⟩:∃a:Nat,n.mn=(a:Int):=Int.eq_ofNat_of_zero_le yV.1;obtain⟨b,E3⟩:∃b:Nat,n.mx=(b:Int):=Int.eq_ofNat_of_zero_le (by omega);have I2:n.mx.toNat-n.mn.toNat=b-a:=by omega
   rw[I2] at hb2⊢;refine zQ 11 ?_;refine EvO.jo (z:=((b-a:Nat):Int)) rfl (ev rfl) (ev rfl) (by rw[wrap_i64 (by omega) (by omega)]<;>omega) (by dsimp only[Fr.put,u1,u2]<;>rfl) ?_;refine zQ 2 ?_;have hH:Has N S st (.box k (.mem 0 false [cd,nd,zd,ed])::.bR bb dk cd 4 (cR.map aT)::.lst zd 1 (Z.map ah)::.lst ed 1 (E.map ah)::.lst .nul 1 (([]:List Nat).map ew)::.box k4 (.mem 0 false (ay n))::H):=(hH.nulE 1).DG;refine zQ 1 ?_;refine EvC.loop (fun mm fr st=>∃(i:Nat) (cd jd:D) (dk:Nat→Prop) (ak:List aN) (js:List Nat),fr.clean=⟨78,[.ptr k 0 0,.int .i64 (at_:Nat),aa fr 2,aa fr 3,.ptr k4 0 0,.int .i64 ((at_+1:Nat):Int),aa fr 6,jd,aa fr 8,aa fr 9,aa fr 10,aa fr 11,aa fr 12,aa fr 13,aa fr 14,aa fr 15,aa fr 16,aa fr 17,aa fr 18,aa fr 19,aa fr 20,aa fr 21,aa fr 22,aa fr 23,aa fr 24,aa fr 25,aa fr 26,aa fr 27,aa fr 28,aa fr 29,aa fr 30,aa fr 31,aa fr 32,aa fr 33,aa fr 34,aa fr 35,aa fr 36,aa fr 37,aa fr 38,aa fr 39,aa fr 40,aa fr 41,aa fr 42,aa fr 43,aa fr 44,aa fr 45,aa fr 46,aa fr 47,aa fr 48,aa fr 49,aa fr 50,aa fr 51,aa fr 52,aa fr 53,aa fr 54,aa fr 55,aa fr 56,aa fr 57,aa fr 58,aa fr 59,aa fr 60,aa fr 61,.int .i64 ((b-a:Nat):Int),.int .i64 (i:Nat),aa fr 64,aa fr 65,aa fr 66,aa fr 67,aa fr 68,aa fr 69,aa fr 70,aa fr 71,aa fr 72,aa fr 73,aa fr 74,aa fr 75,aa fr 76,aa fr 77],[]⟩∧Has N S st (.box k (.mem 0 false [cd,nd,zd,ed])::.bR bb dk cd 4 (ak.map aT)::.lst zd 1 (Z.map ah)::.lst ed 1 (E.map ah)::.lst jd 1 (js.map ew)::.box k4 (.mem 0 false (ay n))::H)∧(i+mm=b-a)∧(ak++dK (fun _=>bh 2 0 0 []) (av t) t.sz mm ak.length=cR++dK (fun _=>bh 2 0 0 []) (av t) t.sz (b-a) cR.length)∧(js++kS t.sz mm ak.length=kS t.sz (b-a) cR.length)∧(ak.length+mm*(t.sz+1)=cR.length+(b-a)*(t.sz+1))∧(js.length=i)) (b-a) ?_ ?_
   ·exact⟨0,cd,.nul,dk,cR,[],rfl,hH,by omega,rfl,rfl,rfl,rfl⟩
   rintro mm fr st ⟨i,cd,jd,dk,ak,js,hfr,hH,hi,cJ,hjs,hcl,jB⟩;rw[hfr];clear hfr;generalize aa fr=ee;clear fr;refine zQ 4 ?_
   cases mm with
   |zero=>
    have hcc:decide ((i:Int)<((b-a:Nat):Int))=false:=by rw[decide_eq_false_iff_not];omega
    refine qq<|qE rfl (by rw[hcc]) ?_;refine zQ 4 ?_;refine qn ?_ (hR:=hH.rows at4);simp only[List.length_map];refine zQ 2 ?_;simp only[dK,kS,List.append_nil] at cJ hjs;rw[cJ] at hH;obtain⟨wC,vA⟩:=kz (sp:=fun s=>gJ s (cR.length+(b-a)*(t.sz+1)) n.lz) oL (i0:=bh 2 0 0 []) (b-a) cR.length cR [] rfl;simp only[List.append_nil] at wC vA;have t':(cR++dK (fun _=>bh 2 0 0 []) (av t) t.sz (b-a) cR.length).length=cR.length+(b-a)*(t.sz+1):=by rw[List.length_append,gv oL]
    rw[←hjs] at wC vA;rw[←wC];clear wC cJ;generalize cR++dK (fun _=>bh 2 0 0 []) (av t) t.sz (b-a) cR.length=C0 at*;generalize cR.length+(b-a)*(t.sz+1)=e at*;refine zQ 1 ?_;refine EvC.loop (fun mm fr st=>∃(q:Nat) (C:List aN),fr.clean=⟨78,[.ptr k 0 0,aa fr 1,aa fr 2,aa fr 3,.ptr k4 0 0,aa fr 5,aa fr 6,aa fr 7,aa fr 8,aa fr 9,aa fr 10,aa fr 11,aa fr 12,aa fr 13,aa fr 14,aa fr 15,aa fr 16,aa fr 17,aa fr 18,aa fr 19,aa fr 20,aa fr 21,aa fr 22,aa fr 23,aa fr 24,aa fr 25,aa fr 26,aa fr 27,aa fr 28,aa fr 29,aa fr 30,aa fr 31,aa fr 32,aa fr 33,aa fr 34,aa fr 35,aa fr 36,aa fr 37,aa fr 38,aa fr 39,aa fr 40,aa fr 41,aa fr 42,aa fr 43,aa fr 44,aa fr 45,aa fr 46,aa fr 47,aa fr 48,aa fr 49,aa fr 50,aa fr 51,aa fr 52,aa fr 53,aa fr 54,aa fr 55,aa fr 56,aa fr 57,aa fr 58,aa fr 59,aa fr 60,aa fr 61,aa fr 62,aa fr 63,aa fr 64,aa fr 65,aa fr 66,aa fr 67,aa fr 68,aa fr 69,aa fr 70,aa fr 71,aa fr 72,aa fr 73,aa fr 74,jd,.int .i64 (js.length:Nat),.int .i64 (q:Nat)],[]⟩∧Has N S st (.box k (.mem 0 false [cd,nd,zd,ed])::.bR bb dk cd 4 (C.map aT)::.lst zd 1 (Z.map ah)::.lst ed 1 (E.map ah)::.lst jd 1 (js.map ew)::.box k4 (.mem 0 false (ay n))::H)∧(q+mm=js.length)∧(dU (fun s=>gJ s e n.lz) C (js.drop q)=dU (fun s=>gJ s e n.lz) C0 js)∧(∀p∈js,∃x y:Int,C[p]?=some (bh 2 x y []))∧(C.length=e)) (js.length) ?_ ?_
    ·exact⟨0,C0,rfl,hH,by omega,rfl,fun p hp=>⟨_,_,vA p hp⟩,t'⟩
    rintro mm fr st ⟨q,C,hfr,hH,hq,fq,bV,CH⟩;rw[hfr];clear hfr;generalize aa fr=ee;clear fr;refine zQ 5 ?_;refine zP (fun hlt=>?_) fun hlt=>?_
    ·refine zQ 1 ?_;have Dp:q<js.length:=by omega
     obtain⟨p,hp⟩:∃p,js[q]?=some p:=⟨js[q]'Dp,List.getElem?_eq_getElem _⟩
     obtain⟨x,y,hv⟩:=bV p (List.mem_of_getElem? hp);have hr1:=l5 hp;have hpl:=lt_get hv;refine zQ 4 ?_;refine qi hH at4 fun N5 Ie=>?_;refine zQ 10 ?_;refine EvO.nA hH rfl (ev rfl) (by exact at1) rfl (put_T rfl _) ?_;simp only[List.length_map];refine zQ 2 ?_;obtain⟨_,st,hev,rfl,hH⟩:=o0 (at_:=p) (over:=C.length) (lz:=n.lz) hv (by omega) hH;refine qv hev ?_;refine zQ 5 ?_
     have om:js.drop q=p::js.drop (q+1):=by
      rw[List.drop_eq_getElem_cons Dp]
      congr 1
      exact Option.some.inj ((List.getElem?_eq_getElem _).symm.trans hp)
     refine⟨mm-1,by omega,⟨q+1,C.set p (gJ p e n.lz),rfl,(by rw[CH] at hH;exact hH),by omega,by rw[om] at fq;exact fq,?_,by rw[List.length_set];exact CH⟩⟩;intro p' pM
     by_cases hpp:p'=p
     ·subst hpp;obtain⟨x',y',FH⟩:=uf p' e n.lz;exact⟨x',y',by rw[List.getElem?_set_self hpl,FH]⟩
     ·rw[List.getElem?_set_ne (fun e=>hpp e.symm)];exact bV p' pM
    ·refine zQ 1 ?_;refine⟨fun i h=>(by cases h),_,_,_,rfl,rfl,?_⟩;have tp:q=js.length:=by omega
     rw[tp,List.drop_length] at fq;have fq:C=dU (fun s=>gJ s e n.lz) C0 js:=fq;rw[←fq];exact⟨rfl,cd,dk,(hH.erase 5).erase 4⟩
   |succ mm=>
    have hcc:decide ((i:Int)<((b-a:Nat):Int))=true:=by rw[decide_eq_true_eq];omega
    rw[Nat.succ_mul] at hcl;refine qq<|qD rfl (by rw[hcc]) ?_;refine zQ 7 ?_;refine EvO.go (d:=.agg [.int .i64 2,.int .i64 0,.int .i64 0,.nul]) (st1:=_) rfl rfl rfl (by dsimp only[Fr.put,u1,u2]<;>rfl) ?_;have hH:=hH.nulE 2;obtain⟨_,st,hev,rfl,cd,dk,hH⟩:=fL (rs:=[]) hF (by omega) hH;refine qv hev ?_;refine qh (s:=1) (vs:=[_]) hH fun k69 st Q7 hH=>?_;dsimp only[u2,u1,u3,u4,setMany,u5,u6,D.cells,Nat.reduceAdd,aT,ay,ah,ew] at hH;refine qP hH at5 (hH.rows at0) fun O' st hH=>?_;dsimp only[u2,u1,u3,u4,setMany,u5,u6,D.cells,Nat.reduceAdd,aT,ay,ah,ew] at hH;refine zQ 2 ?_;have hH:=hH.drop 1;have gM:(ak++[bh 2 0 0 []]).length=ak.length+1:=by simp
    refine zQ 3 ?_;obtain⟨_,st,hev,rfl,cd,dk,hH⟩:=ih t (by omega) hF hnd lN hsz wA jq (by omega) ⟨cd,dk,hH⟩;refine qv hev ?_;refine zQ 1 ?_;rw[gM] at hH;have ja:(ak++[bh 2 0 0 []]++av t (ak.length+1)).length=ak.length+1+t.sz:=by rw[List.length_append,gM,oL]
    refine zQ 4 ?_;exact⟨mm,by omega,⟨i+1,cd,O',dk,ak++[bh 2 0 0 []]++av t (ak.length+1),js++[ak.length],rfl,(by rw[List.map_append (f:=ew)];exact hH),by omega,by rw[ja,←cJ];simp only[dK,List.append_assoc,List.cons_append,List.nil_append],by rw[ja,←hjs];simp only[kS,List.append_assoc,List.cons_append,List.nil_append],by rw[ja];omega,by rw[List.length_append,jB];rfl⟩⟩
end Go.Proofs.YtajblankjjmonaaGreat
namespace Go.Proofs.YtajblankjjmonaaGreat
open Go.V Go
def bq (fr:Go.V.Fr) (k:Nat):Go.V.D:=Go.V.nth .junk fr.loc k
variable{bb:Bool}
theorem vY (t:Tr):eT (.cons t .nil)=av t:=by
 funext b;simp only[eT,List.append_nil]
theorem wM (t:Tr):(aJ.cons t .nil).sz=t.sz:=by simp only[aJ.sz,Nat.add_zero]
theorem DS {l:List Nod} (hll:l.length≤1048576) (hi:∀n∈l,n.ok):∀(m:Nat) (t:Tr),t.flat.length≤m→qF bb l t:=by
 intro m
 induction m with
 |zero=>intro t h;have:=t.iD;omega
 |succ m ih=>
  rintro⟨n,ks⟩ hm N k S s0 H nd zd ed code Z E at_ hF hnd lN hsz wA hok hb hM;have Tf:=hM;obtain⟨cd,dk,hH⟩:=hM;simp only[Tr.ok] at hok;obtain⟨jj,rS⟩:=hok;simp only[Tr.flat,List.length_cons] at hm;have hle:=lN.le (by simp[Tr.flat]);simp only[Tr.flat] at lN hle;simp only[List.length_cons] at hle;simp only[Tr.zs] at hsz;simp only[Tr.es] at wA;simp only[Tr.sz] at hb;have hn:=lN.head;have Cn:=hi n (List.mem_of_getElem? hn);have qJ:=Cn.1.arg N S;have vz:=Cn.2.1;have hr1:=gi hn;have EW:=jj.1;have nu:=aJ.nb ks;have RF:=fun b=>mz ks b rS;refine Ev.gT rfl Nz rfl rfl rfl ?_;refine zE ?_;change EvC _ _ _ _ s0 _;have hc:=hnd.arg N S;refine zQ 7 ?_;refine qr fun Kj F4=>?_;refine EvO.cx rfl (ev rfl) (by assumption) rfl (by dsimp only[Fr.put,u1,u2]<;>rfl) ?_;refine qa hH fun k4 st IJ hH=>?_;refine qS hH at0 fun st hH=>?_;dsimp only[u2,u1,u3,u4,setMany,u5,u6,D.cells,Nat.reduceAdd,aT,ay,ah,ew] at hH;refine zQ 1 ?_;have hH:Has N S st (.box k (.mem 0 false [cd,nd,zd,ed])::.bR bb dk cd 4 (code.map aT)::.lst zd 1 (Z.map ah)::.lst ed 1 (E.map ah)::.box k4 (.mem 0 false (ay n))::H):=hH.DG;refine zQ 11 ?_;refine zI (fun q2=>?_) fun q2=>?_
  ·have xD:av (.mk n ks) code.length=[bh 1 0 0 n.rs]:=by simp only[av,if_pos q2]
   rw[xD];have hz:bk n ks.sz ks.len=1:=by unfold bk;rw[if_pos (.inl q2)]
   have hH:=hH.nulE 2;refine zQ 4 ?_;refine qP hH at0 (Arg.rows (by assumption) hH) fun NZ st hH=>?_;dsimp only[u2,u1,u3,u4,setMany,u5,u6,D.cells,Nat.reduceAdd,aT,ay,ah,ew] at hH;refine EvO.c9 (qs:=[(0,_),(3,_)]) rfl rfl rfl rfl ⟨rfl,(ev rfl),(by rfl),rfl,(ev rfl),(by exact hH.ocells (by exact at0)),trivial⟩ (by intro q hq;simp only[List.mem_cons,List.not_mem_nil,or_false] at hq;rcases hq with rfl|rfl<;>exact⟨rfl,by exact Nat.le_of_ble_eq_true rfl⟩) (by show List.foldl _ [_,_,_,_] _=_;dsimp only[List.foldl_cons,List.foldl_nil,u2,u1]<;>rfl) (by dsimp only[Fr.put,u1,u2]<;>rfl) ?_;obtain⟨_,st,hev,rfl,cd,dk,hH⟩:=fL (rs:=n.rs) hF (by omega) hH;refine qv hev ?_;refine zQ 1 ?_;refine⟨fun i h=>(by cases h),_,_,_,rfl,rfl,?_⟩;exact⟨rfl,cd,dk,hH.erase 4⟩
  refine zQ 5 ?_;refine zI (fun q7=>?_) fun q7=>?_
  ·have xD:av (.mk n ks) code.length=[bh 5 0 0 []]:=by simp only[av,if_neg q2,if_pos q7]
   rw[xD];refine zQ 2 ?_;refine EvO.go (d:=.agg [.int .i64 5,.int .i64 0,.int .i64 0,.nul]) (st1:=_) rfl rfl rfl (by dsimp only[Fr.put,u1,u2]<;>rfl) ?_;have hH:=hH.nulE 2;obtain⟨_,st,hev,rfl,cd,dk,hH⟩:=fL (rs:=[]) hF (by omega) hH;refine qv hev ?_;refine zQ 1 ?_;refine⟨fun i h=>(by cases h),_,_,_,rfl,rfl,?_⟩;exact⟨rfl,cd,dk,hH.erase 4⟩
  refine zQ 5 ?_;refine zI (fun q8=>?_) fun q8=>?_
  ·have xD:av (.mk n ks) code.length=[bh 6 0 0 []]:=by simp only[av,if_neg q2,if_neg q7,if_pos q8]
   rw[xD];refine zQ 2 ?_;refine EvO.go (d:=.agg [.int .i64 6,.int .i64 0,.int .i64 0,.nul]) (st1:=_) rfl rfl rfl (by dsimp only[Fr.put,u1,u2]<;>rfl) ?_;have hH:=hH.nulE 2;obtain⟨_,st,hev,rfl,cd,dk,hH⟩:=fL (rs:=[]) hF (by omega) hH;refine qv hev ?_;refine zQ 1 ?_;refine⟨fun i h=>(by cases h),_,_,_,rfl,rfl,?_⟩;exact⟨rfl,cd,dk,hH.erase 4⟩
  refine zQ 5 ?_;refine zI (fun q3=>?_) fun q3=>?_
  ·have xD:av (.mk n ks) code.length=eT ks code.length:=by simp only[av,if_neg q2,if_neg q7,if_neg q8,if_pos q3]
   rw[xD];have hz:bk n ks.sz ks.len=ks.sz:=by unfold bk;rw[if_neg (by omega),if_neg (by omega),if_neg (by omega),if_neg (by omega)]
   rw[hz] at hb;refine zQ 13 ?_;refine EvC.loop (fun mm fr st=>∃(i j:Nat) (rest:aJ) (cd:D) (dk:Nat→Prop) (ak:List aN),fr.clean=⟨40,[.ptr k 0 0,.int .i64 (at_:Nat),bq fr 2,bq fr 3,.ptr k4 0 0,.int .i64 (j:Nat),bq fr 6,bq fr 7,bq fr 8,bq fr 9,bq fr 10,bq fr 11,bq fr 12,bq fr 13,bq fr 14,bq fr 15,bq fr 16,bq fr 17,bq fr 18,bq fr 19,bq fr 20,bq fr 21,bq fr 22,bq fr 23,bq fr 24,bq fr 25,bq fr 26,bq fr 27,bq fr 28,bq fr 29,bq fr 30,bq fr 31,bq fr 32,bq fr 33,bq fr 34,bq fr 35,bq fr 36,bq fr 37,.int .i64 n.kids,.int .i64 (i:Nat)],[]⟩∧Has N S st (.box k (.mem 0 false [cd,nd,zd,ed])::.bR bb dk cd 4 (ak.map aT)::.lst zd 1 (Z.map ah)::.lst ed 1 (E.map ah)::.box k4 (.mem 0 false (ay n))::H)∧(mm=rest.len)∧(i+rest.len=ks.len)∧(fp l j rest.flat)∧(fp Z j rest.zs)∧(fp E j (rest.es j))∧(rest.ok)∧(ak++eT rest ak.length=code++eT ks code.length)∧(ak.length+rest.sz=code.length+ks.sz)∧(rest.flat.length≤m)) (ks.len) ?_ ?_
   ·exact⟨0,at_+1,ks,cd,dk,code,rfl,hH,rfl,by omega,lN.tail,hsz.tail,wA.tail,rS,rfl,rfl,by omega⟩
   rintro mm fr st ⟨i,j,rest,cd,dk,ak,hfr,hH,nr,nZ,kV,vy,oh,jt,cJ,hcl,FW⟩;rw[hfr];clear hfr;generalize bq fr=ee;clear fr;refine zQ 4 ?_
   cases rest with
   |nil=>
    simp only[aJ.len] at nZ;simp only[eT,List.append_nil] at cJ;have hcc:decide ((i:Int)<n.kids)=false:=by rw[decide_eq_false_iff_not];omega
    refine qq<|qE rfl (by rw[hcc]) ?_;refine zQ 1 ?_;refine⟨fun i h=>(by cases h),_,_,_,rfl,rfl,?_⟩;rw[←cJ];exact⟨rfl,cd,dk,hH.erase 4⟩
   |cons t ts=>
    simp only[aJ.len] at nZ nr;simp only[aJ.sz] at hcl;simp only[aJ.flat,List.length_append] at kV FW;simp only[aJ.zs] at vy;simp only[aJ.es] at oh;simp only[aJ.ok] at jt;simp only[eT] at cJ;have FL:=t.gY;have H3:=t.ib j;have oL:=bw t ak.length jt.1;have KQ:=fe (ze oh.left);have hcc:decide ((i:Int)<n.kids)=true:=by rw[decide_eq_true_eq];omega
    refine qq<|qD rfl (by rw[hcc]) ?_;refine zQ 7 ?_;obtain⟨_,st,hev,rfl,cd,dk,hH⟩:=ih t (by omega) hF hnd kV.left vy.left oh.left jt.1 (by omega) ⟨cd,dk,hH⟩;refine qv hev ?_;refine zQ 7 ?_;refine qi hH at3 fun Pq K_=>?_;refine zQ 7 ?_;exact⟨mm-1,by omega,⟨i+1,j+t.flat.length,ts,cd,dk,ak++av t ak.length,rfl,hH,by omega,by omega,kV.right,by rw[←FL];exact vy.right,by rw[←H3];rw[←H3] at oh;exact oh.right,jt.2,by rw[List.length_append,oL,List.append_assoc];exact cJ,by rw[List.length_append,oL];omega,by omega⟩⟩
  refine zQ 5 ?_;refine zI (fun q4=>?_) fun q4=>?_
  ·have xD:av (.mk n ks) code.length=cA (eZ (code.length+bk n ks.sz ks.len)) ks code.length:=by simp only[av,if_neg q2,if_neg q7,if_neg q8,if_neg q3,if_pos q4]
   rw[xD];refine zQ 3 ?_;obtain⟨_,st,hev,rfl,cd,dk,hH⟩:=GN hll ih q4 (by omega) jj rS hF hnd lN hsz.tail wA.tail hb ⟨cd,dk,hH⟩;refine qv hev ?_;refine zQ 1 ?_;refine⟨fun i h=>(by cases h),_,_,_,rfl,rfl,?_⟩;exact⟨rfl,cd,dk,hH.erase 4⟩
  refine zQ 5 ?_;refine zI (fun q5=>?_) fun q5=>?_
  ·have nx:ks.len=1:=by
    obtain⟨_,hq⟩:=jj;omega
   obtain⟨t,rfl⟩:=aJ.yN nx;have xD:av (.mk n (.cons t .nil)) code.length=n_ n (av t) t.sz code.length:=by simp only[av,if_neg q2,if_neg q7,if_neg q8,if_neg q3,if_neg q4,if_pos q5,vY,wM]
   rw[xD];rw[nx] at jj hb;rw[wM] at hb;simp only[aJ.flat,aJ.zs,aJ.es,aJ.ok,List.append_nil] at*;refine zQ 3 ?_;obtain⟨_,st,hev,rfl,cd,dk,hH⟩:=zK hll ih q5 (by omega) jj rS.1 hF hnd lN hsz.tail wA.tail hb ⟨cd,dk,hH⟩;refine qv hev ?_;refine zQ 1 ?_;refine⟨fun i h=>(by cases h),_,_,_,rfl,rfl,?_⟩;exact⟨rfl,cd,dk,hH.erase 4⟩
  refine zQ 5 ?_;refine zI (fun q6=>?_) fun q6=>?_
  ·have nx:ks.len=1∧1≤n.cap∧n.cap≤4:=by
    obtain⟨_,hq⟩:=jj;omega
   obtain⟨t,rfl⟩:=aJ.yN nx.1;have xD:av (.mk n (.cons t .nil)) code.length=bh 4 (2*n.cap) 0 []::(av t (code.length+1)++[bh 4 (2*n.cap+1) 0 []]):=by simp only[av,if_neg q2,if_neg q7,if_neg q8,if_neg q3,if_neg q4,if_neg q5,if_pos q6,vY]
   rw[xD];have hz:bk n (aJ.cons t .nil).sz (aJ.cons t .nil).len=t.sz+2:=by unfold bk;rw[if_neg (by omega),if_neg (by omega),if_pos q6,wM]
   rw[hz] at hb;simp only[aJ.flat,aJ.zs,aJ.es,aJ.ok,List.append_nil] at lN hsz wA rS hm;refine zQ 5 ?_;refine EvO.qZ (z:=(2*n.cap)) rfl (ev rfl) (ev rfl) (by rw[wrap_i64 (by omega) (by omega)]<;>omega) (put_T rfl _) ?_;refine EvO.go (d:=.agg [.int .i64 4,.int .i64 (2*n.cap),.int .i64 0,.nul]) (st1:=_) rfl rfl rfl (put_T rfl _) ?_;have hH:=hH.nulE 2;obtain⟨_,st,hev,rfl,cd,dk,hH⟩:=fL (rs:=[]) hF (by omega) hH;refine qv hev ?_;refine zQ 1 ?_;have gM:(code++[bh 4 (2*n.cap) 0 []]).length=code.length+1:=by simp
   refine zQ 5 ?_;obtain⟨_,st,hev,rfl,cd,dk,hH⟩:=ih t (by omega) hF hnd lN.tail hsz.tail wA.tail rS.1 (by omega) ⟨cd,dk,hH⟩;refine qv hev ?_;refine zQ 1 ?_;rw[gM] at hH;have ja:(code++[bh 4 (2*n.cap) 0 []]++av t (code.length+1)).length=code.length+1+t.sz:=by rw[List.length_append,gM,bw t _ rS.1]
   refine zQ 4 ?_;refine EvO.qZ (z:=(2*n.cap)) rfl (ev rfl) (ev rfl) (by rw[wrap_i64 (by omega) (by omega)]<;>omega) (put_T rfl _) ?_;refine EvO.fM (z:=(2*n.cap+1)) rfl (ev rfl) (ev rfl) (by rw[wrap_i64 (by omega) (by omega)]<;>omega) (put_T rfl _) ?_;refine EvO.go (d:=.agg [.int .i64 4,.int .i64 (2*n.cap+1),.int .i64 0,.nul]) (st1:=_) rfl rfl rfl (put_T rfl _) ?_;have hH:=hH.nulE 2;obtain⟨_,st,hev,rfl,cd,dk,hH⟩:=fL (rs:=[]) hF (by omega) hH;refine qv hev ?_;refine zQ 1 ?_;have cC:code++[bh 4 (2*n.cap) 0 []]++av t (code.length+1)++[bh 4 (2*n.cap+1) 0 []]=code++bh 4 (2*n.cap) 0 []::(av t (code.length+1)++[bh 4 (2*n.cap+1) 0 []]):=by simp
   rw[cC] at hH;refine⟨fun i h=>(by cases h),_,_,_,rfl,rfl,?_⟩;exact⟨rfl,cd,dk,hH.erase 4⟩
  ·refine zQ 1 ?_;have xD:av (.mk n ks) code.length=[]:=by simp only[av,if_neg q2,if_neg q7,if_neg q8,if_neg q3,if_neg q4,if_neg q5,if_neg q6]
   rw[xD,List.append_nil];refine⟨fun i h=>(by cases h),_,_,_,rfl,rfl,?_⟩;exact⟨rfl,cd,dk,hH.erase 4⟩
end Go.Proofs.YtajblankjjmonaaGreat
namespace Go.Proofs.YtajblankjjmonaaGreat
open Go.V Go
def gy (fr:Go.V.Fr) (k:Nat):Go.V.D:=Go.V.nth .junk fr.loc k
def pz (x:Nl):List D:=[x.d]
theorem BW {l:List Nl} {i:Nat} {q:Nl} (h:l[i]?=some q):(l.map pz)[i]?=some (pz q):=by rw[List.getElem?_map,h];rfl
def compD (R:sB):D:=.tup [(pgV R.code R.bf).d,.int .i64 R.e,.int .i64 R.w]
theorem ym {es M:List Int} (h:M.length=es.length):mI es 0 M=M:=by
 unfold mI;simp[h]
theorem nB (r:Nat) (c:List aN) (s:List Int):gX [] r c s=⟨c,s,0,0⟩:=by simp only[gX]
theorem xS {s0:St} {x:D} {rules:List Nl} (hx:V.Rows s0 1 x (rules.map pz)) (hr:∀r∈rules,r.ok) (hl:rules.length≤1048576):Ev pv 5 [x] s0 (compD (compileS (rules.map (·.l)))) s0:=by
 refine Ev.mk1 rfl R6 rfl rfl rfl ?_;refine zE ?_;obtain⟨hSb,hF,hH⟩:=ri s0;generalize enterSt .ro s0=S at*;have hx:=Arg.of hx hSb;have hfz:∀(st:St) (e w:Int),aO st s0.bs.length false 16 (lQ [.agg [.nul,.nul],.int .i64 e,.int .i64 w])=some (compD ⟨[],[],e,w⟩):=fun st e w=>rfl;refine zQ 2 ?_;refine qa hH fun k2 st nv hH=>?_;refine zQ 7 ?_;refine qn ?_;simp only[List.length_map];refine zQ 2 ?_;unfold compileS
 by_cases h8:8<rules.length
 ·rw[if_pos (by rw[List.length_map];exact h8)];refine qD rfl (by simp;omega) ?_;refine zQ 2 ?_;refine EvO.go (d:=.agg [.nul,.nul]) (st1:=_) rfl rfl rfl (by dsimp only[Fr.put,u1,u2]<;>rfl) ?_;refine qS hH at0 fun st hH=>?_;dsimp only[u2,u1,u3,u4,setMany,u5,u6,D.cells,Nat.reduceAdd,aT,ay,ah,pz] at hH;refine zQ 3 ?_;refine EvC.ret ⟨rx,_,hH.eV rfl at0 rfl rfl rfl,rl hSb hH (hfz _ 13 8)⟩
 ·rw[if_neg (by rw[List.length_map];exact h8)];refine qE rfl (by simp;omega) ?_;refine zQ 3 ?_;refine EvO.go (d:=.agg [.nul,.nul,.nul,.nul]) (st1:=_) rfl rfl rfl (by dsimp only[Fr.put,u1,u2]<;>rfl) ?_;refine qb hH fun k14 st Ge hH=>?_;refine zQ 10 ?_;refine qn ?_;simp only[List.length_map];refine zQ 2 ?_;have hH:Has s0.bs.length S st (.lst .nul 1 (([]:List Int).map ah)::.deep (fun _=>False) .nul 4 (([]:List aN).map aT)::.box k14 (.mem 0 false [.nul,.nul,.nul,.nul])::[.box k2 (.mem 0 false [.nul,.nul])]):=(hH.HJ 4).nulE 1;refine zQ 1 ?_;refine EvC.loop (fun mm fr st=>∃(r:Nat) (cd nd zd ed sd:D) (dk:Nat→Prop) (code:List aN) (bf:List Int),fr.clean=⟨18,[gy fr 0,gy fr 1,.ptr k2 0 0,.int .i64 0,.int .i64 0,.ptr k14 0 0,sd,gy fr 7,gy fr 8,gy fr 9,gy fr 10,gy fr 11,gy fr 12,gy fr 13,gy fr 14,x,.int .i64 (rules.length:Nat),.int .i64 (r:Nat)],[]⟩∧Has s0.bs.length S st [.lst sd 1 (bf.map ah),.deep dk cd 4 (code.map aT),.box k14 (.mem 0 false [cd,nd,zd,ed]),.box k2 (.mem 0 false [.nul,.nul])]∧(r+mm=rules.length)∧(gX ((rules.drop r).map (·.l)) r code bf=gX (rules.map (·.l)) 0 [] [])∧(code.length≤400)∧(bf.length≤r)) (rules.length) ?_ ?_
  ·exact⟨0,.nul,.nul,.nul,.nul,.nul,(fun _=>False),[],[],rfl,hH,by omega,by rw[List.drop_zero],by simp,by simp⟩
  rintro mm fr st ⟨r,cd,nd,zd,ed,sd,dk,code,bf,hfr,hH,Qb,hX,hcl,iJ⟩;rw[hfr];clear hfr;generalize gy fr=ee;clear fr;refine zQ 4 ?_
  by_cases hlt:r<rules.length
  ·obtain⟨q,hq⟩:∃q,rules[r]?=some q:=⟨rules[r]'hlt,List.getElem?_eq_getElem _⟩
   have tU:=hr q (List.mem_of_getElem? hq);have hr1:=BW hq
   have om:rules.drop r=q::rules.drop (r+1):=by
    rw[List.drop_eq_getElem_cons hlt]
    congr 1
    exact Option.some.inj ((List.getElem?_eq_getElem _).symm.trans hq)
   rw[om,List.map_cons,gX] at hX;refine qq<|qD rfl (by simp;omega) ?_;refine zQ 6 ?_;refine qr fun Kf F1=>?_;refine zQ 8 ?_;refine qv (zH tU) ?_;refine zQ 2 ?_
   cases lB:e_ q.l with
   |false=>
    rw[if_pos lB] at hX;refine zQ 3 ?_;refine EvO.go (d:=.agg [.nul,.nul]) (st1:=_) rfl rfl rfl (put_T rfl _) ?_;refine qm ?_;refine qS hH at3 fun st hH=>?_;dsimp only[u2,u1,u3,u4,setMany,u5,u6,D.cells,Nat.reduceAdd,aT,ay,ah,pz] at hH;refine zQ 3 ?_;rw[←hX];refine EvC.ret ⟨rx,_,hH.eV rfl at3 rfl rfl rfl,rl hSb hH (hfz _ 1 r)⟩
   |true=>
    rw[if_neg (by rw[lB];simp)] at hX;obtain⟨jq,Cf⟩:=sG lB;have SV:=tU.c.arg s0.bs.length S;have KU:=tU.nl;have yY:=tU.c;refine zQ 9 ?_;refine qn ?_;simp only[List.length_map];refine EvO.ET (s:=1) hH rfl rfl rfl rfl rfl rfl rfl rfl (Nat.le_of_ble_eq_true rfl) (by omega) (fun _=>(put_T rfl _)) (fun k33 st IL hH=>?_);refine qm ?_;refine qn ?_;simp only[List.length_map];refine EvO.ET (s:=1) hH rfl rfl rfl rfl rfl rfl rfl rfl (Nat.le_of_ble_eq_true rfl) (by omega) (fun _=>(put_T rfl _)) (fun k36 st IK hH=>?_);refine zQ 2 ?_;refine qT hH at4 fun st hH=>?_;dsimp only[u2,u1,u3,u4,setMany,u5,u6,D.cells,Nat.reduceAdd,aT,ay,ah,pz] at hH;refine zQ 2 ?_;refine qT hH at4 fun st hH=>?_;dsimp only[u2,u1,u3,u4,setMany,u5,u6,D.cells,Nat.reduceAdd,aT,ay,ah,pz] at hH;refine zQ 2 ?_;refine qT hH at4 fun st hH=>?_;dsimp only[u2,u1,u3,u4,setMany,u5,u6,D.cells,Nat.reduceAdd,aT,ay,ah,pz] at hH;refine zQ 1 ?_
    have hH:Has s0.bs.length S st (.lst (.win k33 0 0 q.l.length 1) 1 ((List.replicate q.l.length (0:Int)).map ah)::.lst (.win k36 0 0 q.l.length 1) 1 ((List.replicate q.l.length (0:Int)).map ah)::.lst sd 1 (bf.map ah)::.deep dk cd 4 (code.map aT)::.box k14 (.mem 0 false [cd,q.d,.win k33 0 0 q.l.length 1,.win k36 0 0 q.l.length 1])::.box k2 (.mem 0 false [.nul,.nul])::[]):=by
     rw[List.map_replicate];exact hH.front at1
    refine zQ 7 ?_;obtain⟨_,st,hev,rfl,hH⟩:=Bi tU.nl tU.i tU.c _ (bP q.l) (Nat.le_refl _) jq (at_:=0) (by rw[Cf];exact fp.all _) (by simp) hH;refine qv hev ?_;refine zQ 1 ?_;rw[ym (by rw[Tr.gY,Cf];simp)] at hH;have hH:=hH.front at1;refine zQ 7 ?_;obtain⟨_,st,hev,rfl,hH⟩:=Em tU.nl tU.i tU.c _ (bP q.l) (Nat.le_refl _) jq (at_:=0) (by rw[Cf];exact fp.all _) (by simp) hH;refine qv hev ?_;refine zQ 1 ?_;rw[ym (by rw[Tr.ib,Cf];simp)] at hH;have Qi:=fe (ye (fp.all (bP q.l).zs));refine zQ 7 ?_;refine EvO.nA hH rfl (ev rfl) (by exact at3) rfl (put_T rfl _) ?_;simp only[List.length_map];refine zQ 4 ?_;refine qi hH at1 fun N6 Ih=>?_;refine zQ 1 ?_;refine EvO.fM (z:=((code.length+min (bP q.l).sz 401:Nat):Int)) rfl (ev rfl) (ev rfl) (by rw[wrap_i64 (by omega) (by omega)]<;>omega) (put_T rfl _) ?_;refine EvO.fM (z:=((code.length+min (bP q.l).sz 401+3:Nat):Int)) rfl (ev rfl) (ev rfl) (by rw[wrap_i64 (by omega) (by omega)]<;>omega) (put_T rfl _) ?_;refine zQ 2 ?_
    by_cases Gn:400<code.length+min (bP q.l).sz 401+3
    ·rw[if_pos Gn] at hX;have hcc:decide (((code.length+min (bP q.l).sz 401+3:Nat):Int)>400)=true:=by rw[decide_eq_true_eq];omega
     refine qD rfl (by rw[hcc]) ?_;refine zQ 2 ?_;refine EvO.go (d:=.agg [.nul,.nul]) (st1:=_) rfl rfl rfl (put_T rfl _) ?_;refine qm ?_;refine qS hH at5 fun st hH=>?_;dsimp only[u2,u1,u3,u4,setMany,u5,u6,D.cells,Nat.reduceAdd,aT,ay,ah,pz] at hH;refine zQ 3 ?_;rw[←hX];refine EvC.ret ⟨rx,_,hH.eV rfl at5 rfl rfl rfl,rl hSb hH (hfz _ 12 r)⟩
    ·rw[if_neg Gn] at hX;have hcc:decide (((code.length+min (bP q.l).sz 401+3:Nat):Int)>400)=false:=by rw[decide_eq_false_iff_not];omega
     refine qE rfl (by rw[hcc]) ?_;refine zQ 1 ?_;have hH:=hH.front at1;have hH:=hH.front at3;have hH:=hH.front at4;have hH:Has s0.bs.length S st (.box k14 (.mem 0 false [cd,q.d,.win k33 0 0 q.l.length 1,.win k36 0 0 q.l.length 1])::.deep dk cd 4 (code.map aT)::.lst (.win k33 0 0 q.l.length 1) 1 ((bP q.l).zs.map ah)::.lst (.win k36 0 0 q.l.length 1) 1 (((bP q.l).es 0).map ah)::.lst sd 1 (bf.map ah)::.box k2 (.mem 0 false [.nul,.nul])::[]):=hH;refine zQ 4 ?_;refine EvO.go (d:=.agg [.int .i64 4,.int .i64 0,.int .i64 0,.nul]) (st1:=_) rfl rfl rfl (put_T rfl _) ?_;have hH:=hH.nulE 2;obtain⟨_,st,hev,rfl,cd,dk,hH⟩:=fL (rs:=[]) hF (by omega) hH;refine qv hev ?_;refine qh (s:=1) (vs:=[_]) hH fun k75 st Ls hH=>?_;refine EvO.happend (s:=1) hH rfl (ev rfl) (ev rfl) (by exact at5) (by exact hH.rows (by exact at0)) rfl rfl rfl rfl rfl rfl rfl ⟨(Nat.le_of_ble_eq_true rfl),(Nat.le_of_ble_eq_true rfl)⟩ (fun _=>(put_T rfl _)) (by simp only[List.length_cons,List.length_nil,List.length_map]<;>omega) (by exact .inl hF) (fun O_ st hH=>?_);dsimp only[u2,u1,u3,u4,setMany,u5,u6,D.cells,Nat.reduceAdd,aT,ay,ah,pz] at hH;refine zQ 2 ?_;have hH:=hH.drop 1;have gM:(code++[bh 4 0 0 []]).length=code.length+1:=by simp
     refine zQ 3 ?_;obtain⟨_,st,hev,rfl,cd,dk,hH⟩:=DS tU.nl tU.i _ (bP q.l) (Nat.le_refl _) hF tU.c (at_:=0) (by rw[Cf];exact fp.all _) (fp.all _) (fp.all _) jq (by omega) ⟨cd,dk,hH⟩;refine qv hev ?_;refine zQ 1 ?_;rw[gM] at hH;have ja:(code++[bh 4 0 0 []]++av (bP q.l) (code.length+1)).length=code.length+1+(bP q.l).sz:=by rw[List.length_append,gM,bw _ _ jq]
     refine zQ 3 ?_;refine EvO.go (d:=.agg [.int .i64 4,.int .i64 1,.int .i64 0,.nul]) (st1:=_) rfl rfl rfl (put_T rfl _) ?_;have hH:=hH.nulE 2;obtain⟨_,st,hev,rfl,cd,dk,hH⟩:=fL (rs:=[]) hF (by omega) hH;refine qv hev ?_;refine zQ 1 ?_;have vI:(code++[bh 4 0 0 []]++av (bP q.l) (code.length+1)++[bh 4 1 0 []]).length=code.length+1+(bP q.l).sz+1:=by rw[List.length_append,ja];rfl
     refine zQ 3 ?_;refine EvO.go (d:=.agg [.int .i64 7,.int .i64 (r:Nat),.int .i64 0,.nul]) (st1:=_) rfl rfl rfl (put_T rfl _) ?_;have hH:=hH.nulE 2;obtain⟨_,st,hev,rfl,cd,dk,hH⟩:=fL (rs:=[]) hF (by omega) hH;refine qv hev ?_;refine zQ 1 ?_
     have KP:code++[bh 4 0 0 []]++av (bP q.l) (code.length+1)++[bh 4 1 0 []]++[bh 7 (r:Nat) 0 []]=code++gR (bP q.l) code.length r:=by
      unfold gR;simp
     rw[KP] at hH;have hH:=(hH.erase 2).erase 2;have hH:=hH.front at1;have hH:=hH.front at2;refine zQ 4 ?_;exact⟨mm-1,by omega,⟨r+1,cd,q.d,.win k33 0 0 q.l.length 1,.win k36 0 0 q.l.length 1,O_,dk,code++gR (bP q.l) code.length r,bf++[((code.length:Nat):Int)],rfl,(by rw[List.map_append (f:=ah)];exact hH),by omega,hX,by rw[List.length_append,mQ jq];omega,by rw[List.length_append];simp only[List.length_cons,List.length_nil];omega⟩⟩
  ·refine qq<|qE rfl (by simp;omega) ?_;refine zQ 1 ?_;rw[List.drop_of_length_le (by omega),List.map_nil,nB] at hX;refine zQ 7 ?_;refine EvO.c9 (qs:=[(0,_),(1,_)]) rfl rfl rfl rfl ⟨rfl,(ev rfl),(by exact hH.dcells (by exact at1)),rfl,(ev rfl),(by exact hH.ocells (by exact at0)),trivial⟩ (by intro q hq;simp only[List.mem_cons,List.not_mem_nil,or_false] at hq;rcases hq with rfl|rfl<;>exact⟨rfl,by exact Nat.le_of_ble_eq_true rfl⟩) (by show List.foldl _ [_,_] _=_;dsimp only[List.foldl_cons,List.foldl_nil,u2,u1]<;>rfl) (put_T rfl _) ?_;refine qS hH at3 fun st hH=>?_;dsimp only[u2,u1,u3,u4,setMany,u5,u6,D.cells,Nat.reduceAdd,aT,ay,ah,pz] at hH;refine zQ 3 ?_;rw[←hX];have h1:=hH.vM at1 (n:=13) (by decide);have h2:=hH.y_ at0 (nj _) (n:=14) (by decide)
   have h4:aO st s0.bs.length false 15 (.agg [cd,sd])=some (pgV code bf).d:=by
    show(eG (aO st s0.bs.length false 14) [cd,sd]).map D.agg=_;simp only[eG,h1,h2,Option.map_some];rfl
   have h3:aO st s0.bs.length false 16 (lQ [.agg [cd,sd],.int .i64 0,.int .i64 0])=some (compD ⟨code,bf,0,0⟩):=by
    show(eG (aO st s0.bs.length false 15) [.agg [cd,sd],.int .i64 0,.int .i64 0]).map D.tup=_;simp only[eG,h4];rfl
   exact EvC.ret ⟨rx,_,hH.eV rfl at3 rfl rfl rfl,rl hSb hH h3⟩
end Go.Proofs.YtajblankjjmonaaGreat
namespace Go.Proofs.YtajblankjjmonaaGreat
open Go.V Go
theorem vU:∀(ls:List (List Nod)) (r:Nat) (c:List aN) (s:List Int),(∀l∈ls,∀n∈l,n.rs.length≤1048576)→(∀i∈c,iI i)→c.length≤400→s.length≤r→(∀i∈(gX ls r c s).code,iI i)∧(gX ls r c s).code.length≤400∧(gX ls r c s).bf.length≤r+ls.length
 |[],r,c,s,_,h1,h2,h3=>by rw[nB];exact⟨h1,h2,by simpa using h3⟩
 |l::ls,r,c,s,h0,h1,h2,h3=>by
  have OO:∀e w:Int,(∀i∈(sB.mk [] [] e w).code,iI i)∧(sB.mk [] [] e w).code.length≤400∧(sB.mk [] [] e w).bf.length≤r+(l::ls).length:=fun e w=>⟨fun i hi=>(by cases hi),by simp,by simp⟩
  rw[gX]
  split
  ·exact OO _ _
  ·rename_i hr;rw[Bool.not_eq_false] at hr
   split
   ·exact OO _ _
   ·rename_i hb;obtain⟨t1,t2⟩:=sG hr
    obtain⟨h4,h5,h6⟩:=vU ls (r+1) (c++gR (bP l) c.length r) (s++[((c.length:Nat):Int)]) (fun l' hl'=>h0 l' (List.mem_cons_of_mem _ hl')) (fun i hi=>by
     rcases List.mem_append.1 hi with hi|hi
     ·exact h1 i hi
     ·exact DD (by rw[t2];exact h0 l (List.mem_cons_self ..)) i hi) (by rw[List.length_append,mQ t1];omega) (by rw[List.length_append];simp only[List.length_cons,List.length_nil];omega)
    exact⟨h4,h5,by simp only[List.length_cons];omega⟩
theorem vT {ls:List (List Nod)} (h:∀l∈ls,∀n∈l,n.rs.length≤1048576):(pgV (compileS ls).code (compileS ls).bf).ok∧(compileS ls).code.length≤400:=by
 unfold compileS
 split
 ·exact⟨BD (fun i hi=>(by cases hi)) (by simp) (by simp),by simp⟩
 ·obtain⟨h1,h2,h3⟩:=vU ls 0 [] [] h (fun i hi=>by cases hi) (by simp) (by simp);exact⟨BD h1 (by omega) (by omega),h2⟩
end Go.Proofs.YtajblankjjmonaaGreat
namespace Go.Proofs.YtajblankjjmonaaGreat
open Go.V Go
def strC (b:List UInt8):List D:=[.str b]
theorem str_get {l:List (List UInt8)} {i:Nat} {q:List UInt8} (h:l[i]?=some q):(l.map strC)[i]?=some (strC q):=by rw[List.getElem?_map,h];rfl
theorem BV {parts:List (List Nod)} (h:∀l∈parts,(∀n∈l,NdV n)∧l.length≤500):∀r∈parts.map (fun l=>(⟨kT l,l⟩:Nl)),r.ok:=by
 intro r hr;obtain⟨l,hl,rfl⟩:=List.mem_map.1 hr;exact HK (h l hl).1 (by have:=(h l hl).2;omega)
theorem va {parts:List (List Nod)}:(parts.map (fun l=>(⟨kT l,l⟩:Nl))).map pz=parts.map partC:=by
 rw[List.map_map];rfl
theorem comp_parts {s0:St} {y:D} {parts:List (List Nod)} (h:∀l∈parts,(∀n∈l,NdV n)∧l.length≤500) (hl:parts.length≤1048576) (hy:V.Rows s0 1 y (parts.map partC)):Ev pv 5 [y] s0 (compD (compileS parts)) s0∧(pgV (compileS parts).code (compileS parts).bf).ok∧(compileS parts).code.length≤400:=by
 have h1:=xS (s0:=s0) (x:=y) (rules:=parts.map (fun l=>(⟨kT l,l⟩:Nl))) (by rw[va];exact hy) (BV h) (by rw[List.length_map];exact hl);have h2:(parts.map (fun l=>(⟨kT l,l⟩:Nl))).map (·.l)=parts:=by rw[List.map_map];exact List.map_id _
 rw[h2] at h1;exact⟨h1,vT fun l hl n hn=>((h l hl).1 n hn).2.1⟩
end Go.Proofs.YtajblankjjmonaaGreat
namespace Go.Proofs.YtajblankjjmonaaGreat
open Go.V Go Go.RowKit
variable{H:Type} {enc:TypeId×Value→H} {w:World} {spare:Nat→Bool} {held:Bool} {d:DataW H}
theorem arg_strs (h:Rd enc Tryz.prog w spare held 22 d):∃(y:D) (ps:List (List UInt8)),dval d=y∧SlD y 1 (ps.map strC)∧(Rows.uptoBulk d≤1048576→ps.length≤1048576∧∀b∈ps,b.length≤1048576):=by
 rcases h.slice Tryz.underlying22 with rfl|⟨elems,rest,rfl,he⟩
 ·exact⟨_,[],rfl,.inl ⟨rfl,rfl⟩,fun _=>⟨by simp,fun b hb=>(by cases hb)⟩⟩
 ·obtain⟨l,h1,h2,h3⟩:=Hw (s:=1) (f:=strC) (Q:=fun(b:List UInt8) x=>b.length≤Rows.uptoBulk x) (rest:=rest) fun x hx=>by
   obtain⟨b,rfl⟩:=(he x hx).string Tryz.underlying9;refine⟨b,rfl,rfl,rfl,?_⟩;simp only[Rows.uptoBulk];omega
  refine⟨_,l,rfl,h1,fun hb=>⟨?_,fun b ez=>?_⟩⟩
  ·have:=C7 elems;simp only[Rows.uptoBulk] at hb;omega
  ·obtain⟨x,hx,h4⟩:=h3 b ez;have:=C8 hx;simp only[Rows.uptoBulk] at hb;omega
end Go.Proofs.YtajblankjjmonaaGreat
namespace Go.Proofs.YtajblankjjmonaaGreat
open Go.V Go
noncomputable def cV (n:Nod):Int×Bool:=
 if n.op=1∨n.op=7∨n.op=8 then(0,(n.kids==0) &&bI n)
 else if n.op=2 then(0,iQ n.rs &&((n.kids==0) &&bI n))
 else if n.op=3∨n.op=4 then(n.kids,decide (n.kids≥2) &&bI n)
 else if n.op=5 then(1,((((decide (0≤n.mn) &&decide (n.mn≤30)) &&decide (n.mx≤30)) &&decide (-1≤n.mx)) &&(decide (n.mx<0)||decide (n.mn≤n.mx))) &&((n.kids==1) &&bI n))
 else if n.op=6 then(1,(decide (1≤n.cap) &&decide (n.cap≤4)) &&((n.kids==1) &&bI n))
 else(0,false)
def fP (h:Nat→Option Nat):Nat→Nat→Option Nat
 |0,at_=>some at_
 |k+1,at_=>match h at_ with
  |some j=>fP h k j
  |none=>none
noncomputable def cU (l:List Nod):Nat→Nat→Option Nat
 |0,_=>none
 |f+1,at_=>match l[at_]? with
  |none=>none
  |some n=>if(cV n).2=true then fP (cU l f) (cV n).1.toNat (at_+1) else none
def dF:List Nod→Nat→Option Nat
 |[],g=>some g
 |n::l,g=>if n.op=6 then(if n.cap=((g+1:Nat):Int) then dF l (g+1) else none) else dF l g
theorem kP:∀(a b:List Nod) (g:Nat),dF (a++b) g=(dF a g).bind (dF b)
 |[],b,g=>rfl
 |n::a,b,g=>by
  rw[List.cons_append];unfold dF
  split
  ·split
   ·exact kP a b _
   ·rfl
  ·exact kP a b _
theorem uu {n:Nod} {g:Nat}:(dv n (g:Nat)).2=true↔(cV n).2=true∧(n.op=6→n.cap=((g+1:Nat):Int)):=by
 unfold dv cV
 cases hp:bI n with
 |false=>
  rw[if_pos rfl];simp only[Bool.and_false];constructor
  ·intro h;cases h
  ·rintro⟨h,_⟩
   (repeat' split at h)<;>simp at h
 |true=>
  rw[if_neg (by simp)];simp only[Bool.and_true]
  by_cases h1:n.op=1∨n.op=7∨n.op=8
  ·rw[if_pos h1,if_pos h1];exact⟨fun h=>⟨h,fun h6=>by omega⟩,fun h=>h.1⟩
  rw[if_neg h1,if_neg h1]
  by_cases h2:n.op=2
  ·rw[if_pos h2,if_pos h2];simp only[Bool.and_eq_true,beq_iff_eq];exact⟨fun h=>⟨⟨h.2,h.1⟩,fun h6=>by omega⟩,fun h=>⟨h.1.2,h.1.1⟩⟩
  rw[if_neg h2,if_neg h2]
  by_cases h3:n.op=3∨n.op=4
  ·rw[if_pos h3,if_pos h3];exact⟨fun h=>⟨h,fun h6=>by omega⟩,fun h=>h.1⟩
  rw[if_neg h3,if_neg h3]
  by_cases h5:n.op=5
  ·rw[if_pos h5,if_pos h5];simp only[Bool.and_eq_true,Bool.or_eq_true,beq_iff_eq,decide_eq_true_eq];constructor
   ·intro h;refine⟨⟨⟨⟨⟨⟨?_,?_⟩,?_⟩,?_⟩,?_⟩,?_⟩,fun h6=>by omega⟩<;>omega
   ·rintro⟨h,_⟩;refine⟨⟨⟨?_,?_⟩,?_⟩,?_⟩<;>omega
  rw[if_neg h5,if_neg h5]
  by_cases h6:n.op=6
  ·rw[if_pos h6,if_pos h6];simp only[Bool.and_eq_true,beq_iff_eq,decide_eq_true_eq];constructor
   ·intro h;exact⟨⟨⟨by omega,h.2⟩,h.1.1⟩,fun _=>by omega⟩
   ·rintro⟨h,h7⟩;have:=h7 h6;exact⟨⟨h.2,by omega⟩,h.1.2⟩
  rw[if_neg h6,if_neg h6];exact⟨fun h=>(by cases h),fun h=>(by cases h.1)⟩
theorem o3 {n:Nod} {g:Nat} (h:(dv n (g:Nat)).2=true):(dv n (g:Nat)).1=(cV n).1:=by
 unfold dv at h⊢;unfold cV
 cases hp:bI n with
 |false=>rw[hp,if_pos rfl] at h;cases h
 |true=>
  rw[if_neg (by simp)]
  repeat' split
  all_goals rfl
theorem uy {l:List Nod} {a j:Nat} {n:Nod} (h:l[a]?=some n) (hj:a<j):(l.drop a).take (j-a)=n::(l.drop (a+1)).take (j-(a+1)):=by
 have hlt:=lt_get h
 have he:l.drop a=n::l.drop (a+1):=by
  rw[List.drop_eq_getElem_cons hlt];congr 1;rw[List.getElem?_eq_getElem hlt] at h;exact Option.some.inj h
 rw[he,show j-a=(j-(a+1))+1 by omega,List.take_succ_cons]
theorem yp {l:List Nod} {a b c:Nat} (h1:a≤b) (h2:b≤c):(l.drop a).take (c-a)=(l.drop a).take (b-a)++(l.drop b).take (c-b):=by
 have e1:c-a=(b-a)+(c-b):=by omega
 have e2:l.drop b=(l.drop a).drop (b-a):=by rw[List.drop_drop];congr 1;omega
 rw[e1,List.take_add,e2]
theorem pE {h:Nat→Option Nat} (ih:∀a j,h a=some j→a≤j):∀k a j,fP h k a=some j→a≤j
 |0,a,j,e=>by simp only[fP,Option.some.injEq] at e;omega
 |k+1,a,j,e=>by
  unfold fP at e
  cases hq:h a with
  |none=>rw[hq] at e;cases e
  |some q=>rw[hq] at e;have:=ih _ _ hq;have:=pE ih k _ _ e;omega
theorem lP {l:List Nod}:∀f a j,cU l f a=some j→a<j
 |0,_,_,e=>by cases e
 |f+1,a,j,e=>by
  unfold cU at e
  cases hn:l[a]? with
  |none=>rw[hn] at e;cases e
  |some n=>
   rw[hn] at e;simp only at e
   split at e
   ·have:=pE (fun a j h=>Nat.le_of_lt (lP f a j h)) _ _ _ e;omega
   ·cases e
theorem vq {l:List Nod} {h:Nat→Nat→Option (Nat×Nat)} {h':Nat→Option Nat} (ih:∀a g r,h a g=some r→h' a=some r.1∧a≤r.1∧dF ((l.drop a).take (r.1-a)) g=some r.2):
  ∀k a g r,gx h k a g=some r→fP h' k a=some r.1∧a≤r.1∧dF ((l.drop a).take (r.1-a)) g=some r.2
 |0,a,g,r,e=>by
  simp only[gx,Option.some.injEq] at e;subst e;exact⟨rfl,Nat.le_refl _,by simp[dF]⟩
 |k+1,a,g,r,e=>by
  unfold gx at e
  cases hq:h a g with
  |none=>rw[hq] at e;cases e
  |some q=>
   rw[hq] at e;obtain⟨t1,t2,t3⟩:=ih _ _ _ hq;obtain⟨u1,u2,u3⟩:=vq ih k _ _ _ e;refine⟨by unfold fP;rw[t1];exact u1,by omega,?_⟩;rw[yp t2 u2,kP,t3];exact u3
theorem yw {l:List Nod}:∀f a g r,fO l f a g=some r→cU l f a=some r.1∧a≤r.1∧dF ((l.drop a).take (r.1-a)) g=some r.2
 |0,_,_,_,e=>by simp[fO] at e
 |f+1,a,g,r,e=>by
  unfold fO at e
  cases hn:l[a]? with
  |none=>rw[hn] at e;cases e
  |some n=>
   rw[hn] at e;simp only at e
   split at e
   ·rename_i hs;rw[o3 hs] at e;obtain⟨u1,u2,u3⟩:=vq (yw f) _ _ _ _ e;obtain⟨v1,v2⟩:=uu.1 hs;refine⟨by unfold cU;rw[hn];simp only;rw[if_pos v1];exact u1,by omega,?_⟩;rw[uy hn (by omega)];unfold dF
    split
    ·rename_i h6;rw[if_pos (v2 h6)];rw[if_pos h6] at u3;exact u3
    ·rename_i h6;rw[if_neg h6] at u3;exact u3
   ·cases e
theorem vt {l:List Nod} {h:Nat→Nat→Option (Nat×Nat)} {h':Nat→Option Nat} (hle:∀a j,h' a=some j→a≤j) (ih:∀a g j g',h' a=some j→dF ((l.drop a).take (j-a)) g=some g'→h a g=some (j,g')):
  ∀k a g j g',fP h' k a=some j→dF ((l.drop a).take (j-a)) g=some g'→gx h k a g=some (j,g')
 |0,a,g,j,g',e,hc=>by
  simp only[fP,Option.some.injEq] at e;subst e;simp only[Nat.sub_self,List.take_zero,dF,Option.some.injEq] at hc;subst hc;rfl
 |k+1,a,g,j,g',e,hc=>by
  unfold fP at e
  cases hq:h' a with
  |none=>rw[hq] at e;cases e
  |some q=>
   rw[hq] at e;have t2:=hle _ _ hq;have u2:=pE hle _ _ _ e;rw[yp t2 u2,kP] at hc
   cases tp:dF ((l.drop a).take (q-a)) g with
   |none=>rw[tp] at hc;cases hc
   |some g2=>
    rw[tp] at hc;have hc:dF ((l.drop q).take (j-q)) g2=some g':=hc;unfold gx;rw[ih _ _ _ _ hq tp];exact vt hle ih k _ _ _ _ e hc
theorem yx {l:List Nod}:∀f a g j g',cU l f a=some j→dF ((l.drop a).take (j-a)) g=some g'→fO l f a g=some (j,g')
 |0,_,_,_,_,e,_=>by cases e
 |f+1,a,g,j,g',e,hc=>by
  have hlt:=lP _ _ _ e;unfold cU at e
  cases hn:l[a]? with
  |none=>rw[hn] at e;cases e
  |some n=>
   rw[hn] at e;simp only at e
   split at e
   ·rename_i hs;rw[uy hn hlt] at hc;unfold dF at hc
    have iC:n.op=6→n.cap=((g+1:Nat):Int):=fun h6=>by
     rw[if_pos h6] at hc
     by_cases h7:n.cap=((g+1:Nat):Int)
     ·exact h7
     ·rw[if_neg h7] at hc;cases hc
    have D6:=uu.2 ⟨hs,iC⟩
    have hc:dF ((l.drop (a+1)).take (j-(a+1))) (if n.op=6 then g+1 else g)=some g':=by
     by_cases h6:n.op=6
     ·rw[if_pos h6,if_pos (iC h6)] at hc;rw[if_pos h6];exact hc
     ·rw[if_neg h6] at hc;rw[if_neg h6];exact hc
    unfold fO;rw[hn];simp only;rw[if_pos D6,o3 D6];exact vt (fun a j h=>Nat.le_of_lt (lP f a j h)) (yx f) _ _ _ _ _ e hc
   ·cases e
noncomputable def sM (l:List Nod):Bool:=((decide (1≤l.length) &&decide (l.length≤480)) &&decide (cU l 241 0=some l.length)) &&(dF l 0).isSome
theorem zD (l:List Nod):sM l=e_ l:=by
 unfold sM e_;rw[Bool.and_assoc]
 congr 1
 have EZ:(l.drop 0).take (l.length-0)=l:=by simp
 cases h:fO l 241 0 0 with
 |some r=>
  obtain⟨h1,h2,h3⟩:=yw _ _ _ _ h;simp only;rw[h1]
  by_cases h4:r.1=l.length
  ·rw[h4] at h3;rw[EZ] at h3;rw[h3];simp[h4]
  ·simp[h4]
 |none=>
  simp only
  by_cases h1:cU l 241 0=some l.length
  ·cases h2:dF l 0 with
   |none=>simp
   |some g=>
    have:=yx 241 0 0 l.length g h1 (by rw[EZ];exact h2);rw[h] at this;cases this
  ·simp[h1]
end Go.Proofs.YtajblankjjmonaaGreat
namespace Go.Proofs.YtajblankjjmonaaGreat
open Go.V Go
def aM (fr:Go.V.Fr) (k:Nat):Go.V.D:=Go.V.nth .junk fr.loc k
def lu:Option Nat→Int
 |some j=>((j:Nat):Int)
 |none=>-1
theorem rP {h:Nat→Option Nat} {L:Nat} (ih:∀a j,h a=some j→j≤L):∀k a j,a≤L→fP h k a=some j→j≤L
 |0,a,j,ha,e=>by simp only[fP,Option.some.injEq] at e;omega
 |k+1,a,j,ha,e=>by
  unfold fP at e
  cases hq:h a with
  |none=>rw[hq] at e;cases e
  |some q=>rw[hq] at e;exact rP ih k _ _ (ih _ _ hq) e
theorem rj {l:List Nod}:∀f a j,cU l f a=some j→j≤l.length
 |0,_,_,e=>by cases e
 |f+1,a,j,e=>by
  unfold cU at e
  cases hn:l[a]? with
  |none=>rw[hn] at e;cases e
  |some n=>
   have:=lt_get hn;rw[hn] at e;simp only at e
   split at e
   ·exact rP (rj f) _ _ _ (by omega) e
   ·cases e
theorem wY {l:List Nod} {d:D} (hl:l.length≤1048576) (hi:∀n∈l,n.ok) (hd:SlD d 7 (l.map ay)):∀(f:Nat) {s0:St} {at_:Nat},f≤241→at_≤1048577→Ev pv 40 [d,.int .i64 (at_:Nat),.int .i64 ((241-f:Nat):Int)] s0 (.int .i64 (lu (cU l f at_))) s0:=by
 intro f
 induction f with
 |zero=>
  intro s0 at_ hf ha;refine Ev.mk1 rfl Jl rfl rfl rfl ?_;refine zE ?_;obtain⟨hSb,hF,hH⟩:=ri s0;generalize enterSt .ro s0=S at*;have hc:=hd.arg s0.bs.length S;refine qq<|qj fun K hK=>qm ?_;refine qe hK<|qq<|qq<|EvC.ml 18 (.bool (decide ((at_:Int)≥(l.length:Nat))||decide (((241-0:Nat):Int)>240))) [11,12,13,14,15,16,17] ?_ (fun ff tmp=>?_)
  ·refine qm ?_;refine qm ?_;refine qn ?_;simp only[List.length_map];refine qg ?_;refine qm ?_;refine EvO.two 15 rfl (fun hg4=>?_) (fun hg4=>?_)
   ·refine qs ?_ (hg:=wn hg4);refine qs ?_ (hg:=wn hg4);refine qt hg4 ?_;refine EvO.nil (aI ?_);refine zG ?_
    all_goals(simp[hg4];done)
   ·refine qm ?_ (hg:=wi hg4);refine qg ?_ (hg:=wi hg4);refine qu hg4 ?_;refine EvO.nil (aI ?_);refine zG ?_
    all_goals(simp[hg4];done)
  dsimp only[setW,List.foldl,nth,u2,u1];generalize ff 11=Se;generalize ff 12=Sd;generalize ff 13=Sc;generalize ff 14=Sb;generalize ff 15=Sa;generalize ff 16=R_;generalize ff 17=R9;refine zF ?_;have hT:(decide ((at_:Int)≥(l.length:Nat))||decide (((241-0:Nat):Int)>240))=true:=by simp
  rw[hT];refine qB ?_;refine qq<|qj fun K hK=>qm ?_;refine qe hK<|EvC.ret ⟨rx,_,rfl,rl hSb hH (rfl)⟩
 |succ f ih=>
  intro s0 at_ hf ha
  suffices hg:∃d',Ev pv 40 [d,.int .i64 (at_:Nat),.int .i64 ((241-(f+1):Nat):Int)] s0 d' s0∧d'=.int .i64 (lu (cU l (f+1) at_)) by
   obtain⟨_,h1,rfl⟩:=hg;exact h1
  refine Ev.yE rfl Jl rfl rfl rfl ?_;refine zE ?_;obtain⟨hSb,hF,hH⟩:=ri s0;generalize enterSt .ro s0=S at*;have hc:=hd.arg s0.bs.length S
  obtain⟨dp,RE⟩:∃dp,241-(f+1)=dp:=⟨_,rfl⟩
  rw[RE]
  obtain⟨R,hR⟩:∃R,cU l (f+1) at_=R:=⟨_,rfl⟩
  rw[hR];unfold cU at hR;refine qq<|qj fun K hK=>qm ?_;refine qe hK<|qq<|qq<|EvC.ml 18 (.bool (decide ((at_:Int)≥(l.length:Nat))||decide (((dp:Nat):Int)>240))) [11,12,13,14,15,16,17] ?_ (fun ff tmp=>?_)
  ·refine qm ?_;refine qm ?_;refine qn ?_;simp only[List.length_map];refine qg ?_;refine qm ?_;refine EvO.two 15 rfl (fun hg4=>?_) (fun hg4=>?_)
   ·refine qs ?_ (hg:=wn hg4);refine qs ?_ (hg:=wn hg4);refine qt hg4 ?_;refine EvO.nil (aI ?_);refine zG ?_
    all_goals(simp_all;done)
   ·refine qm ?_ (hg:=wi hg4);refine qg ?_ (hg:=wi hg4);refine qu hg4 ?_;refine EvO.nil (aI ?_);refine zG ?_
    all_goals(simp_all;omega)
  dsimp only[setW,List.foldl,nth,u2,u1];generalize ff 11=Se;generalize ff 12=Sd;generalize ff 13=Sc;generalize ff 14=Sb;generalize ff 15=Sa;generalize ff 16=R_;generalize ff 17=R9
  by_cases hlt:at_<l.length
  ·obtain⟨n,hn⟩:∃n,l[at_]?=some n:=⟨l[at_]'hlt,List.getElem?_eq_getElem _⟩
   rw[hn] at hR;simp only at hR;have Cn:=hi n (List.mem_of_getElem? hn);have qJ:=Cn.1.arg s0.bs.length S;have vz:=Cn.2.1;have hr1:=gi hn;have Dn:=py Cn
   have Gu:(decide ((at_:Int)≥(l.length:Nat))||decide (((dp:Nat):Int)>240))=false:=by
    rw[decide_eq_false (by omega),decide_eq_false (by omega)];rfl
   rw[Gu];refine qC ?_;refine EvC.skip<|qq<|qj fun K hK=>qm ?_;refine qm ?_;refine qr fun G5 An=>?_;refine EvO.cx rfl (ev rfl) (by assumption) rfl (by dsimp only[Fr.put,u1,u2]<;>rfl) ?_;refine qa hH fun k7 st Lt hH=>?_;refine qS hH at0 fun st hH=>?_;dsimp only[u2,u1,u3,u4,setMany,u5,u6,D.cells,Nat.reduceAdd,ay] at hH;refine qe hK<|qq<|qj fun K hK=>qp (o:=0) ?_;refine ql hH at0 ?_;refine qp (o:=6) ?_;refine ql hH at0 ?_;refine EvO.go (d:=.agg [.int .i64 n.op,.nul,.int .i64 0,.int .i64 0,.bool false,.int .i64 0,.int .i64 n.kids]) (st1:=_) rfl rfl rfl (by dsimp only[Fr.put,u1,u2]<;>rfl) ?_;refine qa hH fun k8 st hk8 hH=>?_;refine qS hH at0 fun st hH=>?_;dsimp only[u2,u1,u3,u4,setMany,u5,u6,D.cells,Nat.reduceAdd,ay] at hH;refine qe hK<|qq<|qj fun K hK=>qm ?_;refine qe hK<|qq<|qq<|qj fun K hK=>qp (o:=0) ?_;refine ql hH at1 ?_;refine qe hK ?_;have jj:(cV n).2=false→R=none:=fun h=>by rw[←hR,if_neg (by rw[h];simp)]
   refine EvC.merge (fun fr st=>∃(kd:Int) (bd:D) (Hh:List Rg) (Jx Jw:Int) (Jy:Bool) (C_:Int) (tmp:List (Nat×D)),fr=⟨30,[d,.int .i64 (at_:Nat),.int .i64 (dp:Nat),aM fr 3,aM fr 4,aM fr 5,aM fr 6,.ptr k7 0 0,.ptr k8 0 0,.int .i64 kd,aM fr 10,aM fr 11,aM fr 12,aM fr 13,aM fr 14,aM fr 15,aM fr 16,aM fr 17,aM fr 18,aM fr 19,aM fr 20,aM fr 21,aM fr 22,aM fr 23,aM fr 24,aM fr 25,aM fr 26,aM fr 27,aM fr 28,aM fr 29],tmp⟩∧Has s0.bs.length S st [.box k8 (.mem 0 false [.int .i64 n.op,bd,.int .i64 Jx,.int .i64 Jw,.bool Jy,.int .i64 C_,.int .i64 n.kids]),.box k7 (.mem 0 false (ay n))]∧(SlD bd 2 (Hh.map ag))∧(Hh.length≤1048576)∧(bI n=(((((n.mn==Jx) &&(n.mx==Jw)) &&(n.lz==Jy)) &&(n.cap==C_)) &&(((n.rs.length:Nat):Int)==((Hh.length:Nat):Int))))∧(cV n=(kd,(n.kids==kd) &&bI n))) ?_ ?_
   ·have tv:SlD .nul 2 (([]:List Rg).map ag):=.inl ⟨rfl,rfl⟩
    have K3:n.op=1→bI n=(((((n.mn==0) &&(n.mx==0)) &&(n.lz==false)) &&(n.cap==0)) &&(((n.rs.length:Nat):Int)==(((([]:List Rg).length:Nat)):Int))):=by
     intro h;unfold bI
     first
      |(simp[h];done)
      |(simp[h];cases n.lz<;>simp[Bool.and_comm,Bool.and_assoc,Bool.and_left_comm])
    have K2:n.op=2→bI n=(((((n.mn==0) &&(n.mx==0)) &&(n.lz==false)) &&(n.cap==0)) &&(((n.rs.length:Nat):Int)==((n.rs.length:Nat):Int))):=by
     intro h;unfold bI
     first
      |(simp[h];done)
      |(simp[h];cases n.lz<;>simp[Bool.and_comm,Bool.and_assoc,Bool.and_left_comm])
    have K1:n.op=6→bI n=(((((n.mn==0) &&(n.mx==0)) &&(n.lz==false)) &&(n.cap==n.cap)) &&(((n.rs.length:Nat):Int)==(((([]:List Rg).length:Nat)):Int))):=by
     intro h;unfold bI
     first
      |(simp[h];done)
      |(simp[h];cases n.lz<;>simp[Bool.and_comm,Bool.and_assoc,Bool.and_left_comm])
    have KZ:n.op=7→bI n=(((((n.mn==0) &&(n.mx==0)) &&(n.lz==false)) &&(n.cap==0)) &&(((n.rs.length:Nat):Int)==(((([]:List Rg).length:Nat)):Int))):=by
     intro h;unfold bI
     first
      |(simp[h];done)
      |(simp[h];cases n.lz<;>simp[Bool.and_comm,Bool.and_assoc,Bool.and_left_comm])
    have KY:n.op=8→bI n=(((((n.mn==0) &&(n.mx==0)) &&(n.lz==false)) &&(n.cap==0)) &&(((n.rs.length:Nat):Int)==(((([]:List Rg).length:Nat)):Int))):=by
     intro h;unfold bI
     first
      |(simp[h];done)
      |(simp[h];cases n.lz<;>simp[Bool.and_comm,Bool.and_assoc,Bool.and_left_comm])
    refine EvC.block<|qq<|qq<|qj fun K hK=>qg ?_;refine qm ?_;refine qe hK ?_
    by_cases q1:n.op=1
    ·refine qD rfl (by simp[q1]) ?_;refine EvC.skip<|qD rfl (by simp[q1]) ?_;refine EvC.skip ?_;exact⟨0,.nul,[],0,0,false,0,_,rfl,hH,tv,by simp,(K3 q1),(by unfold cV;rw[if_pos (.inl q1)])⟩
    refine qE rfl (by simp[q1]) ?_;refine qq<|qj fun K hK=>qg ?_;refine qm ?_;refine qe hK ?_
    by_cases q7:n.op=7
    ·refine qD rfl (by simp[q7]) ?_;refine EvC.skip<|qD rfl (by simp[q7]) ?_;refine EvC.skip ?_;exact⟨0,.nul,[],0,0,false,0,_,rfl,hH,tv,by simp,(KZ q7),(by unfold cV;rw[if_pos (.inr (.inl q7))])⟩
    refine qE rfl (by simp[q7]) ?_;refine qj fun K hK=>qg ?_;refine qm ?_;refine qe hK ?_
    by_cases q8:n.op=8
    ·refine qD rfl (by simp[q8]) ?_;refine EvC.skip ?_;exact⟨0,.nul,[],0,0,false,0,_,rfl,hH,tv,by simp,(KY q8),(by unfold cV;rw[if_pos (.inr (.inr q8))])⟩
    refine qE rfl (by simp[q8]) ?_;have qI:¬(n.op=1∨n.op=7∨n.op=8):=by omega
    refine qq<|qj fun K hK=>qg ?_;refine qm ?_;refine qe hK<|zI (fun q2=>?_) fun q2=>?_
    ·have AY:SlD n.rd 2 (n.rs.map ag):=Cn.1;refine qq<|qj fun K hK=>qp (o:=1) ?_;refine ql hH at1 ?_;refine qp (o:=1) ?_;refine qT hH at0 fun st hH=>?_;dsimp only[u2,u1,u3,u4,setMany,u5,u6,D.cells,Nat.reduceAdd,ay] at hH;refine qe hK<|qq<|qj fun K hK=>qp (o:=1) ?_;refine ql hH at1 ?_;refine qv (uH (qJ.rows hH) vz) ?_;refine qg ?_;refine qe hK ?_
     cases D7:iQ n.rs with
     |false=>
      refine qB ?_;refine qq<|qj fun K hK=>qm ?_;refine qe hK<|EvC.ret ⟨rx,_,_,rfl,rl hSb hH (rfl),?_⟩;rw[jj (by unfold cV;rw[if_neg qI,if_pos q2,D7];rfl)]
      rfl
     |true=>
      refine qC ?_;refine EvC.skip ?_;exact⟨0,n.rd,n.rs,0,0,false,0,_,rfl,hH,Cn.1,vz,(K2 q2),(by unfold cV;rw[if_neg qI,if_pos q2,D7,Bool.true_and])⟩
    have ER:(n.op=3∨n.op=4)→bI n=(((((n.mn==0) &&(n.mx==0)) &&(n.lz==false)) &&(n.cap==0)) &&(((n.rs.length:Nat):Int)==(((([]:List Rg).length:Nat)):Int))):=by
     intro h;unfold bI
     rcases h with h|h<;>simp[h]<;>cases n.lz<;>simp[Bool.and_comm,Bool.and_assoc,Bool.and_left_comm]
    have yS:(n.op=3∨n.op=4)→cV n=(n.kids,decide (n.kids≥2) &&bI n):=fun h=>by unfold cV;rw[if_neg qI,if_neg q2,if_pos h]
    refine qq<|qq<|qj fun K hK=>qg ?_;refine qm ?_;refine qe hK ?_
    by_cases q3:n.op=3
    ·refine qD rfl (by simp[q3]) ?_;refine EvC.skip<|qD rfl (by simp[q3]) ?_;refine qq<|qj fun K hK=>qp (o:=6) ?_;refine ql hH at1 ?_;refine qm ?_;refine qe hK<|qq<|qj fun K hK=>qm ?_;refine qg ?_;refine qe hK<|zP (fun nv=>?_) fun nv=>?_
     ·refine qq<|qj fun K hK=>qm ?_;refine qe hK<|EvC.ret ⟨rx,_,_,rfl,rl hSb hH (rfl),?_⟩;rw[jj (by rw[yS (.inl q3)];simp only;rw[decide_eq_false (by omega)];rfl)]
      rfl
     ·refine EvC.skip ?_;exact⟨n.kids,.nul,[],0,0,false,0,_,rfl,hH,tv,by simp,ER (.inl q3),(by rw[yS (.inl q3),decide_eq_true (by omega)];simp)⟩
    refine qE rfl (by simp[q3]) ?_;refine qj fun K hK=>qg ?_;refine qm ?_;refine qe hK ?_
    by_cases q4:n.op=4
    ·refine qD rfl (by simp[q4]) ?_;refine qq<|qj fun K hK=>qp (o:=6) ?_;refine ql hH at1 ?_;refine qm ?_;refine qe hK<|qq<|qj fun K hK=>qm ?_;refine qg ?_;refine qe hK<|zP (fun nv=>?_) fun nv=>?_
     ·refine qq<|qj fun K hK=>qm ?_;refine qe hK<|EvC.ret ⟨rx,_,_,rfl,rl hSb hH (rfl),?_⟩;rw[jj (by rw[yS (.inr q4)];simp only;rw[decide_eq_false (by omega)];rfl)]
      rfl
     ·refine EvC.skip ?_;exact⟨n.kids,.nul,[],0,0,false,0,_,rfl,hH,tv,by simp,ER (.inr q4),(by rw[yS (.inr q4),decide_eq_true (by omega)];simp)⟩
    refine qE rfl (by simp[q4]) ?_;have H6:¬(n.op=3∨n.op=4):=by omega
    refine qq<|qj fun K hK=>qg ?_;refine qm ?_;refine qe hK<|zI (fun q5=>?_) fun q5=>?_
    ·have H5:cV n=(1,((((decide (0≤n.mn) &&decide (n.mn≤30)) &&decide (n.mx≤30)) &&decide (-1≤n.mx)) &&(decide (n.mx<0)||decide (n.mn≤n.mx))) &&((n.kids==1) &&bI n)):=by unfold cV;rw[if_neg qI,if_neg q2,if_neg H6,if_pos q5]
     refine qq<|qj fun K hK=>qm ?_;refine qe hK ?_;change EvC _ _ _ _ _ _;refine qq ?_;generalize hK:SeqQ _ _ _ _=K;refine EvC.Hz rfl ?_;refine jC.cons ?_;refine qp (o:=2) ?_;refine EvO.nil ⟨rfl,?_⟩;refine jC.cons ?_;refine ql hH at1 ?_;refine EvO.nil ⟨rfl,?_⟩;refine jC.cons ?_;refine qp (o:=3) ?_;refine EvO.nil ⟨rfl,?_⟩;refine jC.cons ?_;refine ql hH at1 ?_;refine EvO.nil ⟨rfl,?_⟩;refine jC.cons ?_;refine qp (o:=4) ?_;refine EvO.nil ⟨rfl,?_⟩;refine jC.cons ?_;refine ql hH at1 ?_;refine EvO.nil ⟨rfl,?_⟩;refine jC.cons ?_;refine qp (o:=2) ?_;refine EvO.nil ⟨rfl,?_⟩;refine jC.cons ?_;refine qT hH at0 fun st hH=>?_;dsimp only[u2,u1,u3,u4,setMany,u5,u6,D.cells,Nat.reduceAdd,ay] at hH;refine EvO.nil ⟨by exact Bool.and_eq_true_iff.2 ⟨kO rfl rfl rfl (Has.at (by assumption) at1) (Has.at (by assumption) at1) (Has.at (by assumption) at1) (by exact Dn),Bool.and_eq_true_iff.2 ⟨kO rfl rfl rfl (Has.at (by assumption) at1) (Has.at (by assumption) at1) (Has.at (by assumption) at1) (by exact Dn),rfl⟩⟩,?_⟩;refine jC.cons ?_;refine qp (o:=3) ?_;refine EvO.nil ⟨rfl,?_⟩;refine jC.cons ?_;refine qT hH at0 fun st hH=>?_;dsimp only[u2,u1,u3,u4,setMany,u5,u6,D.cells,Nat.reduceAdd,ay] at hH;refine EvO.nil ⟨by exact Bool.and_eq_true_iff.2 ⟨kO rfl rfl rfl (Has.at (by assumption) at1) (Has.at (by assumption) at1) (Has.at (by assumption) at1) (by exact Dn),rfl⟩,?_⟩;refine jC.cons ?_;refine qp (o:=4) ?_;refine EvO.nil ⟨rfl,?_⟩;refine jC.cons ?_;refine qT hH at0 fun st hH=>?_;dsimp only[u2,u1,u3,u4,setMany,u5,u6,D.cells,Nat.reduceAdd,ay] at hH;refine EvO.nil ⟨rfl,?_⟩;refine jC.nil ?_;subst hK;refine qq<|EvC.cutT 90 (.bool ((((decide (n.mn<0)||decide (n.mn>30))||decide (n.mx>30))||decide (n.mx< -1))||(decide (n.mx≥0) &&decide (n.mx<n.mn)))) [] ?_ (fun ff tmp htmp=>?_)
     ·refine qp (o:=2) ?_;refine ql hH at1 ?_;refine qg ?_;refine qm ?_;refine EvO.two 64 rfl (fun hg3=>?_) (fun hg3=>?_)
      ·refine qs ?_ (hg:=wn hg3);refine qs ?_ (hg:=wn hg3);refine qs ?_ (hg:=wn hg3);refine qt hg3 ?_;refine qm ?_;refine qs ?_;refine qs ?_;refine qs ?_;refine qg ?_;refine qm ?_;refine qs ?_;refine qs ?_;refine qs ?_;refine qg ?_;refine qm ?_;refine qs ?_;refine qs ?_;refine qs ?_;refine qs ?_;refine qs ?_;refine qs ?_;refine qs ?_;refine qs ?_;refine qs ?_;refine qs ?_;refine qg ?_;refine EvO.nil (leafT ?_ ?_)
       ·dsimp only[setW,List.foldl,nth,u2,u1]
        all_goals(first|rfl|simp)
       ·refine zF ?_
        all_goals(simp[hg3];done)
      ·refine qp (o:=2) ?_ (hg:=wi hg3);refine ql hH at1 ?_ (hg:=wi hg3);refine qg ?_ (hg:=wi hg3);refine qu hg3 ?_;refine qm ?_;refine EvO.two 69 rfl (fun hg8=>?_) (fun hg8=>?_)
       ·refine qs ?_ (hg:=wn hg8);refine qs ?_ (hg:=wn hg8);refine qs ?_ (hg:=wn hg8);refine qt hg8 ?_;refine qm ?_;refine qs ?_;refine qs ?_;refine qs ?_;refine qg ?_;refine qm ?_;refine qs ?_;refine qs ?_;refine qs ?_;refine qs ?_;refine qs ?_;refine qs ?_;refine qs ?_;refine qs ?_;refine qs ?_;refine qs ?_;refine qg ?_;refine EvO.nil (leafT ?_ ?_)
        ·dsimp only[setW,List.foldl,nth,u2,u1]
         all_goals(first|rfl|simp)
        ·refine zF ?_
         all_goals(simp[hg3,hg8];done)
       ·refine qp (o:=3) ?_ (hg:=wi hg8);refine ql hH at1 ?_ (hg:=wi hg8);refine qg ?_ (hg:=wi hg8);refine qu hg8 ?_;refine qm ?_;refine EvO.two 74 rfl (fun hg13=>?_) (fun hg13=>?_)
        ·refine qs ?_ (hg:=wn hg13);refine qs ?_ (hg:=wn hg13);refine qs ?_ (hg:=wn hg13);refine qt hg13 ?_;refine qm ?_;refine qs ?_;refine qs ?_;refine qs ?_;refine qs ?_;refine qs ?_;refine qs ?_;refine qs ?_;refine qs ?_;refine qs ?_;refine qs ?_;refine qg ?_;refine EvO.nil (leafT ?_ ?_)
         ·dsimp only[setW,List.foldl,nth,u2,u1]
          all_goals(first|rfl|simp)
         ·refine zF ?_
          all_goals(simp[hg3,hg8,hg13];done)
        ·refine qp (o:=3) ?_ (hg:=wi hg13);refine ql hH at1 ?_ (hg:=wi hg13);refine qg ?_ (hg:=wi hg13);refine qu hg13 ?_;refine qm ?_;refine EvO.two 79 rfl (fun dA=>?_) (fun dA=>?_)
         ·refine qs ?_ (hg:=wn dA);refine qs ?_ (hg:=wn dA);refine qs ?_ (hg:=wn dA);refine qs ?_ (hg:=wn dA);refine qs ?_;refine qs ?_;refine qs ?_;refine qs ?_;refine qs ?_;refine qs ?_ (hg:=wn dA);refine qt dA ?_;refine EvO.nil (leafT ?_ ?_)
          ·dsimp only[setW,List.foldl,nth,u2,u1]
           all_goals(first|rfl|simp)
          ·refine zF ?_
           all_goals(simp[hg3,hg8,hg13,dA];done)
         ·refine qp (o:=3) ?_ (hg:=wi dA);refine ql hH at1 ?_ (hg:=wi dA);refine qg ?_ (hg:=wi dA);refine qm ?_ (hg:=wi dA);refine EvO.two 83 rfl (fun aZ=>?_) (fun aZ=>?_)
          ·refine qp (o:=3) ?_ (hg:=wi aZ);refine ql hH at1 ?_ (hg:=wi aZ);refine qp (o:=2) ?_ (hg:=wi aZ);refine ql hH at1 ?_ (hg:=wi aZ);refine qg ?_ (hg:=wi aZ);refine EvO.pickT (wantD_is rfl rfl rfl dA) rfl aZ (put_T rfl _) ?_;refine qu dA ?_;refine EvO.nil (leafT ?_ ?_)
           ·dsimp only[setW,List.foldl,nth,u2,u1]
            all_goals(first|rfl|simp)
           ·refine zF ?_
            all_goals(simp[hg3,hg8,hg13,dA,aZ];done)
          ·refine qs ?_ (hg:=wn aZ);refine qs ?_ (hg:=wn aZ);refine qs ?_ (hg:=wn aZ);refine qs ?_ (hg:=wn aZ);refine qs ?_ (hg:=wn aZ);refine EvO.pickF (wantD_is rfl rfl rfl dA) rfl aZ (put_T rfl _) ?_;refine qu dA ?_;refine EvO.nil (leafT ?_ ?_)
           ·dsimp only[setW,List.foldl,nth,u2,u1]
            all_goals(first|rfl|simp)
           ·refine zF ?_
            all_goals(simp[hg3,hg8,hg13,dA,aZ];done)
     dsimp only[setW,List.foldl,nth,u2,u1]
     by_cases hbad:(((0≤n.mn∧n.mn≤30)∧n.mx≤30)∧-1≤n.mx)∧(n.mx<0∨n.mn≤n.mx)
     ·have hcc:((((decide (n.mn<0)||decide (n.mn>30))||decide (n.mx>30))||decide (n.mx< -1))||(decide (n.mx≥0) &&decide (n.mx<n.mn)))=false:=by
       simp only[Bool.or_eq_false_iff,Bool.and_eq_false_iff,decide_eq_false_iff_not];omega
      refine EvC.cond (v:=false) (by dsimp only[Fr.ev,Fr.get,nth,V.look];exact htmp.trans (congrArg D.bool hcc)) (fun h=>by cases h) (fun _=>?_);refine EvC.skip ?_;exact⟨1,.nul,[],n.mn,n.mx,n.lz,0,_,rfl,hH,tv,by simp,(by unfold bI;simp[q5,Bool.and_comm]),(by rw[H5];congr 1;have hh:((((decide (0≤n.mn) &&decide (n.mn≤30)) &&decide (n.mx≤30)) &&decide (-1≤n.mx)) &&(decide (n.mx<0)||decide (n.mn≤n.mx)))=true:=(by simp only[Bool.and_eq_true,Bool.or_eq_true,decide_eq_true_eq];exact hbad);rw[hh,Bool.true_and])⟩
     ·have hcc:((((decide (n.mn<0)||decide (n.mn>30))||decide (n.mx>30))||decide (n.mx< -1))||(decide (n.mx≥0) &&decide (n.mx<n.mn)))=true:=by
       simp only[Bool.or_eq_true,Bool.and_eq_true,decide_eq_true_eq];omega
      refine EvC.cond (v:=true) (by dsimp only[Fr.ev,Fr.get,nth,V.look];exact htmp.trans (congrArg D.bool hcc)) (fun _=>?_) (fun h=>by cases h);refine qq<|qj fun K hK=>qm ?_;refine qe hK<|EvC.ret ⟨rx,_,_,rfl,rl hSb hH (rfl),?_⟩
      have hh:((((decide (0≤n.mn) &&decide (n.mn≤30)) &&decide (n.mx≤30)) &&decide (-1≤n.mx)) &&(decide (n.mx<0)||decide (n.mn≤n.mx)))=false:=by
       cases h:((((decide (0≤n.mn) &&decide (n.mn≤30)) &&decide (n.mx≤30)) &&decide (-1≤n.mx)) &&(decide (n.mx<0)||decide (n.mn≤n.mx))) with
       |false=>rfl
       |true=>
        simp only[Bool.and_eq_true,Bool.or_eq_true,decide_eq_true_eq] at h;exact absurd h hbad
      rw[jj (by rw[H5];simp only;rw[hh];rfl)]
      rfl
    refine qq<|qj fun K hK=>qg ?_;refine qm ?_;refine qe hK<|zI (fun q6=>?_) fun q6=>?_
    ·have H4:cV n=(1,(decide (1≤n.cap) &&decide (n.cap≤4)) &&((n.kids==1) &&bI n)):=by unfold cV;rw[if_neg qI,if_neg q2,if_neg H6,if_neg q5,if_pos q6]
     refine qq<|qj fun K hK=>qm ?_;refine qe hK<|qq<|qj fun K hK=>qp (o:=5) ?_;refine ql hH at1 ?_;refine qp (o:=5) ?_;refine qT hH at0 fun st hH=>?_;dsimp only[u2,u1,u3,u4,setMany,u5,u6,D.cells,Nat.reduceAdd,ay] at hH;refine qe hK<|qq<|EvC.cutT 103 (.bool (decide (n.cap<1)||decide (n.cap>4))) [] ?_ (fun ff tmp htmp=>?_)
     ·refine qp (o:=5) ?_;refine ql hH at1 ?_;refine qg ?_;refine qm ?_;refine EvO.two 99 rfl (fun hg3=>?_) (fun hg3=>?_)
      ·refine qs ?_ (hg:=wn hg3);refine qs ?_ (hg:=wn hg3);refine qs ?_ (hg:=wn hg3);refine qt hg3 ?_;refine EvO.nil (leafT ?_ ?_)
       ·dsimp only[setW,List.foldl,nth,u2,u1]
        all_goals(first|rfl|simp)
       ·refine zF ?_
        all_goals(simp[hg3];done)
      ·refine qp (o:=5) ?_ (hg:=wi hg3);refine ql hH at1 ?_ (hg:=wi hg3);refine qg ?_ (hg:=wi hg3);refine qu hg3 ?_;refine EvO.nil (leafT ?_ ?_)
       ·dsimp only[setW,List.foldl,nth,u2,u1]
        all_goals(first|rfl|simp)
       ·refine zF ?_
        all_goals(simp[hg3];done)
     dsimp only[setW,List.foldl,nth,u2,u1]
     by_cases hbad:1≤n.cap∧n.cap≤4
     ·have hcc:(decide (n.cap<1)||decide (n.cap>4))=false:=by rw[decide_eq_false (by omega),decide_eq_false (by omega)];rfl
      refine EvC.cond (v:=false) (by dsimp only[Fr.ev,Fr.get,nth,V.look];exact htmp.trans (congrArg D.bool hcc)) (fun h=>by cases h) (fun _=>?_);refine EvC.skip ?_;exact⟨1,.nul,[],0,0,false,n.cap,_,rfl,hH,tv,by simp,(K1 q6),(by rw[H4,decide_eq_true hbad.1,decide_eq_true hbad.2];rfl)⟩
     ·have hcc:(decide (n.cap<1)||decide (n.cap>4))=true:=by simp only[Bool.or_eq_true,decide_eq_true_eq];omega
      refine EvC.cond (v:=true) (by dsimp only[Fr.ev,Fr.get,nth,V.look];exact htmp.trans (congrArg D.bool hcc)) (fun _=>?_) (fun h=>by cases h);refine qq<|qj fun K hK=>qm ?_;refine qe hK<|EvC.ret ⟨rx,_,_,rfl,rl hSb hH (rfl),?_⟩
      have hh:(decide (1≤n.cap) &&decide (n.cap≤4))=false:=by
       rw[Bool.and_eq_false_iff,decide_eq_false_iff_not,decide_eq_false_iff_not];omega
      rw[jj (by rw[H4];simp only;rw[hh];rfl)]
      rfl
    refine qq<|qj fun K hK=>qm ?_;refine qe hK<|EvC.ret ⟨rx,_,_,rfl,rl hSb hH (rfl),?_⟩;rw[jj (by unfold cV;rw[if_neg qI,if_neg q2,if_neg H6,if_neg q5,if_neg q6])]
    rfl
   ·rintro fr st ⟨kd,bd,Hh,Jx,Jw,Jy,C_,tmp,hfr,hH,RH,hbl,hpl,hsh⟩;rw[hfr];clear hfr;generalize aM fr=ee;clear fr;rw[hsh] at hR jj;simp only at hR jj;have Ta:=RH.arg s0.bs.length S;refine qq<|qq<|EvC.cutT 144 (.bool ((((((n.kids !=kd)||(n.mn !=Jx))||(n.mx !=Jw))||(n.lz !=Jy))||(n.cap !=C_))||(((n.rs.length:Nat):Int) !=((Hh.length:Nat):Int)))) [] ?_ (fun ff tmp htmp=>?_)
    ·refine qp (o:=6) ?_;refine ql hH at1 ?_;refine qm ?_;refine qg ?_;refine qm ?_;refine EvO.two 108 rfl (fun hg4=>?_) (fun hg4=>?_)
     ·refine qs ?_ (hg:=wn hg4);refine qs ?_ (hg:=wn hg4);refine qs ?_ (hg:=wn hg4);refine qs ?_ (hg:=wn hg4);refine qs ?_ (hg:=wn hg4);refine qt hg4 ?_;refine qm ?_;refine qs ?_;refine qs ?_;refine qs ?_;refine qs ?_;refine qs ?_;refine qg ?_;refine qm ?_;refine qs ?_;refine qs ?_;refine qs ?_;refine qs ?_;refine qs ?_;refine qg ?_;refine qm ?_;refine qs ?_;refine qs ?_;refine qs ?_;refine qs ?_;refine qs ?_;refine qg ?_;refine qm ?_;refine qs ?_;refine qs ?_;refine qs ?_;refine qs ?_;refine qs ?_;refine qs ?_;refine qs ?_;refine qg ?_;refine EvO.nil (leafT ?_ ?_)
      ·dsimp only[setW,List.foldl,nth,u2,u1]
       all_goals(first|rfl|simp)
      ·refine zF ?_
       all_goals(simp[hg4];done)
     ·refine qp (o:=2) ?_ (hg:=wi hg4);refine ql hH at1 ?_ (hg:=wi hg4);refine qp (o:=2) ?_ (hg:=wi hg4);refine ql hH at0 ?_ (hg:=wi hg4);refine qg ?_ (hg:=wi hg4);refine qu hg4 ?_;refine qm ?_;refine EvO.two 115 rfl (fun bA=>?_) (fun bA=>?_)
      ·refine qs ?_ (hg:=wn bA);refine qs ?_ (hg:=wn bA);refine qs ?_ (hg:=wn bA);refine qs ?_ (hg:=wn bA);refine qs ?_ (hg:=wn bA);refine qt bA ?_;refine qm ?_;refine qs ?_;refine qs ?_;refine qs ?_;refine qs ?_;refine qs ?_;refine qg ?_;refine qm ?_;refine qs ?_;refine qs ?_;refine qs ?_;refine qs ?_;refine qs ?_;refine qg ?_;refine qm ?_;refine qs ?_;refine qs ?_;refine qs ?_;refine qs ?_;refine qs ?_;refine qs ?_;refine qs ?_;refine qg ?_;refine EvO.nil (leafT ?_ ?_)
       ·dsimp only[setW,List.foldl,nth,u2,u1]
        all_goals(first|rfl|simp)
       ·refine zF ?_
        all_goals(simp[hg4,bA];done)
      ·refine qp (o:=3) ?_ (hg:=wi bA);refine ql hH at1 ?_ (hg:=wi bA);refine qp (o:=3) ?_ (hg:=wi bA);refine ql hH at0 ?_ (hg:=wi bA);refine qg ?_ (hg:=wi bA);refine qu bA ?_;refine qm ?_;refine EvO.two 122 rfl (fun dA=>?_) (fun dA=>?_)
       ·refine qs ?_ (hg:=wn dA);refine qs ?_ (hg:=wn dA);refine qs ?_ (hg:=wn dA);refine qs ?_ (hg:=wn dA);refine qs ?_ (hg:=wn dA);refine qt dA ?_;refine qm ?_;refine qs ?_;refine qs ?_;refine qs ?_;refine qs ?_;refine qs ?_;refine qg ?_;refine qm ?_;refine qs ?_;refine qs ?_;refine qs ?_;refine qs ?_;refine qs ?_;refine qs ?_;refine qs ?_;refine qg ?_;refine EvO.nil (leafT ?_ ?_)
        ·dsimp only[setW,List.foldl,nth,u2,u1]
         all_goals(first|rfl|simp)
        ·refine zF ?_
         all_goals(simp[hg4,bA,dA];done)
       ·refine qp (o:=4) ?_ (hg:=wi dA);refine ql hH at1 ?_ (hg:=wi dA);refine qp (o:=4) ?_ (hg:=wi dA);refine ql hH at0 ?_ (hg:=wi dA);refine qg ?_ (hg:=wi dA);refine qu dA ?_;refine qm ?_;refine EvO.two 129 rfl (fun aQ=>?_) (fun aQ=>?_)
        ·refine qs ?_ (hg:=wn aQ);refine qs ?_ (hg:=wn aQ);refine qs ?_ (hg:=wn aQ);refine qs ?_ (hg:=wn aQ);refine qs ?_ (hg:=wn aQ);refine qt aQ ?_;refine qm ?_;refine qs ?_;refine qs ?_;refine qs ?_;refine qs ?_;refine qs ?_;refine qs ?_;refine qs ?_;refine qg ?_;refine EvO.nil (leafT ?_ ?_)
         ·dsimp only[setW,List.foldl,nth,u2,u1]
          all_goals(first|rfl|simp)
         ·refine zF ?_
          all_goals(simp_all;done)
        ·refine qp (o:=5) ?_ (hg:=wi aQ);refine ql hH at1 ?_ (hg:=wi aQ);refine qp (o:=5) ?_ (hg:=wi aQ);refine ql hH at0 ?_ (hg:=wi aQ);refine qg ?_ (hg:=wi aQ);refine qu aQ ?_;refine qm ?_;refine EvO.two 136 rfl (fun jw=>?_) (fun jw=>?_)
         ·refine qs ?_ (hg:=wn jw);refine qs ?_ (hg:=wn jw);refine qs ?_ (hg:=wn jw);refine qs ?_ (hg:=wn jw);refine qs ?_ (hg:=wn jw);refine qs ?_ (hg:=wn jw);refine qs ?_ (hg:=wn jw);refine qt jw ?_;refine EvO.nil (leafT ?_ ?_)
          ·dsimp only[setW,List.foldl,nth,u2,u1]
           all_goals(first|rfl|simp)
          ·refine zF ?_
           all_goals(simp[hg4,bA,dA,aQ,jw];done)
         ·refine qp (o:=1) ?_ (hg:=wi jw);refine ql hH at1 ?_ (hg:=wi jw);refine qn ?_ (hg:=wi jw);simp only[List.length_map];refine qp (o:=1) ?_ (hg:=wi jw);refine ql hH at0 ?_ (hg:=wi jw);refine qn ?_ (hg:=wi jw);simp only[List.length_map];refine qg ?_ (hg:=wi jw);refine qu jw ?_;refine EvO.nil (leafT ?_ ?_)
          ·dsimp only[setW,List.foldl,nth,u2,u1]
           all_goals(first|rfl|simp)
          ·refine zF ?_
           all_goals(simp_all;done)
    dsimp only[setW,List.foldl,nth,u2,u1]
    have E4:((((((n.kids !=kd)||(n.mn !=Jx))||(n.mx !=Jw))||(n.lz !=Jy))||(n.cap !=C_))||(((n.rs.length:Nat):Int) !=((Hh.length:Nat):Int)))=!((n.kids==kd) &&bI n):=by
     rw[hpl];simp only[bne,Bool.not_and,Bool.or_assoc]
    cases hok:((n.kids==kd) &&bI n) with
    |false=>
     rw[hok] at E4 jj;refine EvC.cond (v:=true) (by dsimp only[Fr.ev,Fr.get,nth,V.look];exact htmp.trans (congrArg D.bool E4)) (fun _=>?_) (fun h=>by cases h);refine qq<|qj fun K hK=>qm ?_;refine qe hK<|EvC.ret ⟨rx,_,_,rfl,rl hSb hH (rfl),?_⟩;rw[jj rfl]
     rfl
    |true=>
     rw[hok] at E4 hR;rw[if_pos rfl] at hR;refine EvC.cond (v:=false) (by dsimp only[Fr.ev,Fr.get,nth,V.look];exact htmp.trans (congrArg D.bool E4)) (fun h=>by cases h) (fun _=>?_);refine EvC.skip ?_;have hH:=hH.drop 2;refine qq<|qj fun K hK=>qm ?_;refine qA ?_;refine qm ?_;refine qe hK<|qq<|qq<|qj fun K hK=>qm ?_;refine qe hK<|EvC.block<|EvC.loop (fun mm fr st=>∃(i:Nat) (a:Option Nat),fr.clean=⟨30,[d,.int .i64 (lu a),.int .i64 (dp:Nat),aM fr 3,aM fr 4,aM fr 5,aM fr 6,aM fr 7,aM fr 8,.int .i64 kd,.int .i64 (i:Nat),aM fr 11,aM fr 12,aM fr 13,aM fr 14,aM fr 15,aM fr 16,aM fr 17,aM fr 18,aM fr 19,aM fr 20,aM fr 21,aM fr 22,aM fr 23,aM fr 24,aM fr 25,aM fr 26,aM fr 27,aM fr 28,aM fr 29],[]⟩∧Has s0.bs.length S st []∧(i≤l.length+1)∧(∀j,a=some j→j≤l.length∧i<j)∧((match a with|some j=>l.length+2-j|none=>0)≤mm)∧((match a with|some j=>fP (cU l f) (kd.toNat-i) j|none=>none)=R)) (l.length+2) ?_ ?_
     ·exact⟨0,some (at_+1),rfl,hH,by omega,(fun j hj=>by cases hj;omega),(by show l.length+2-(at_+1)≤l.length+2;omega),hR⟩
     rintro mm fr st ⟨i,a,hfr,hH,JU,RP,nr,wB⟩;rw[hfr];clear hfr;generalize aM fr=ee;clear fr;refine qq<|qq<|EvC.cutT 153 (.bool (decide ((i:Int)<kd) &&decide (lu a≥0))) [] ?_ (fun ff tmp htmp=>?_)
     ·refine qm ?_;refine qm ?_;refine qg ?_;refine qm ?_;refine EvO.two 150 rfl (fun hg3=>?_) (fun hg3=>?_)
      ·refine qm ?_ (hg:=wi hg3);refine qg ?_ (hg:=wi hg3);refine qt hg3 ?_;refine EvO.nil (leafT ?_ ?_)
       ·dsimp only[setW,List.foldl,nth,u2,u1]
        all_goals(first|rfl|simp)
       ·refine zF ?_
        all_goals(simp[hg3];done)
      ·refine qs ?_ (hg:=wn hg3);refine qs ?_ (hg:=wn hg3);refine qu hg3 ?_;refine EvO.nil (leafT ?_ ?_)
       ·dsimp only[setW,List.foldl,nth,u2,u1]
        all_goals(first|rfl|simp)
       ·refine zF ?_
        all_goals(simp[hg3];done)
     refine zG ?_
     cases a with
     |none=>
      have hcc:(decide ((i:Int)<kd) &&decide (lu none≥0))=false:=by
       rw[show decide (lu none≥0)=false from rfl,Bool.and_false]
      refine EvC.cond (v:=false) (by dsimp only[Fr.ev,Fr.get,nth,V.look];exact htmp.trans (congrArg D.bool hcc)) (fun h=>by cases h) (fun _=>?_);refine EvC.exit<|qq<|qj fun K hK=>qm ?_;refine qm ?_;refine qe hK<|EvC.ret ⟨rx,_,_,rfl,rl hSb hH (rfl),?_⟩;have wB:none=R:=wB;rw[←wB]
      rfl
     |some j=>
      obtain⟨JS,S7⟩:=RP j rfl;have nr:l.length+2-j≤mm:=nr;have wB:fP (cU l f) (kd.toNat-i) j=R:=wB
      by_cases hik:(i:Int)<kd
      ·have hcc:(decide ((i:Int)<kd) &&decide (lu (some j)≥0))=true:=by
        rw[decide_eq_true hik,decide_eq_true (show lu (some j)≥0 by show((j:Nat):Int)≥0;omega)];rfl
       refine EvC.cond (v:=true) (by dsimp only[Fr.ev,Fr.get,nth,V.look];exact htmp.trans (congrArg D.bool hcc)) (fun _=>?_) (fun h=>by cases h);refine EvC.skip<|qq<|EvC.block ?_
       obtain⟨q,hq⟩:∃q,kd.toNat-i=q+1:=⟨kd.toNat-i-1,by omega⟩
       rw[hq] at wB;unfold fP at wB;have hcall:=fun st=>ih (s0:=st) (at_:=j) (by omega) (by omega);refine qj fun K hK=>qm ?_;refine qm ?_;refine qm ?_;refine EvO.fM (z:=((241-f:Nat):Int)) rfl (ev rfl) (ev rfl) (by rw[wrap_i64 (by omega) (by omega)]<;>omega) (put_T rfl _) ?_;refine qv ((hcall _)) ?_;refine qm ?_;refine qe hK<|qj fun K hK=>qm ?_;refine qA ?_;refine qm ?_;refine qe hK ?_
       cases hw:cU l f j with
       |none=>
        rw[hw] at wB;exact⟨mm-1,by omega,⟨i+1,none,rfl,hH,by omega,(fun j' A0=>by cases A0),by show 0≤mm-1;omega,wB⟩⟩
       |some j'=>
        have h1:=lP _ _ _ hw;have h2:=rj _ _ _ hw;rw[hw] at wB;exact⟨mm-1,by omega,⟨i+1,some j',rfl,hH,by omega,(fun x hx=>by cases hx;omega),(by show l.length+2-j'≤mm-1;omega),(by show fP (cU l f) (kd.toNat-(i+1)) j'=R;rw[show kd.toNat-(i+1)=q by omega];exact wB)⟩⟩
      ·have hcc:(decide ((i:Int)<kd) &&decide (lu (some j)≥0))=false:=by
        rw[decide_eq_false hik];rfl
       refine EvC.cond (v:=false) (by dsimp only[Fr.ev,Fr.get,nth,V.look];exact htmp.trans (congrArg D.bool hcc)) (fun h=>by cases h) (fun _=>?_);refine EvC.exit<|qq<|qj fun K hK=>qm ?_;refine qm ?_;refine qe hK<|EvC.ret ⟨rx,_,_,rfl,rl hSb hH (rfl),?_⟩;rw[show kd.toNat-i=0 by omega] at wB;rw[←wB]
       rfl
  ·rw[List.getElem?_eq_none (by omega)] at hR
   have hT:(decide ((at_:Int)≥(l.length:Nat))||decide (((dp:Nat):Int)>240))=true:=by
    rw[decide_eq_true (by omega)];rfl
   rw[hT];refine qB ?_;refine qq<|qj fun K hK=>qm ?_;refine qe hK<|EvC.ret ⟨rx,_,_,rfl,rl hSb hH (rfl),?_⟩;rw[←hR]
   rfl
theorem DK {l:List Nod} {d:D} (hl:l.length≤1048576) (hi:∀n∈l,n.ok) (hd:SlD d 7 (l.map ay)) {s0:St}:Ev pv 32 [d,.int .i64 0] s0 (.int .i64 (lu (cU l 241 0))) s0:=by
 refine Ev.mk1 rfl Ni rfl rfl rfl ?_;refine zE ?_;obtain⟨hSb,hF,hH⟩:=ri s0;generalize enterSt .ro s0=S at*;have h:=fun st=>wY hl hi hd 241 (s0:=st) (at_:=0) (Nat.le_refl _) (by omega);refine zQ 8 ?_;refine qv ((h _)) ?_;refine zQ 2 ?_;refine EvC.ret ⟨rx,_,rfl,rl hSb hH (rfl)⟩
theorem zC {s0:St} {x:Nl} (hx:x.ok):Ev pv 18 [x.d] s0 (.bool (e_ x.l)) s0:=by
 suffices hg:∃d,Ev pv 18 [x.d] s0 d s0∧d=.bool (sM x.l) by
  obtain⟨_,h1,rfl⟩:=hg;rw[←zD];exact h1
 obtain⟨hd,hi,hl⟩:=hx;obtain⟨d,l⟩:=x;simp only at hd hi hl⊢;unfold sM;refine Ev.yE rfl Ny rfl rfl rfl ?_;refine zE ?_;obtain⟨hSb,hF,hH⟩:=ri s0;generalize enterSt .ro s0=S at*;have hc:=hd.arg s0.bs.length S;have Ef:=fun st=>DK (s0:=st) hl hi hd;refine zQ 6 ?_;refine EvC.cutT 19 (.bool (((((l.length:Nat):Int)==0)||decide (((l.length:Nat):Int)>480))||(lu (cU l 241 0) !=((l.length:Nat):Int)))) [] ?_ (fun ff tmp htmp=>?_)
 ·refine qm ?_;refine qn ?_;simp only[List.length_map];refine zQ 2 ?_;refine EvO.two 8 rfl (fun hg3=>?_) (fun hg3=>?_)
  ·refine zQ 11 ?_;refine EvO.nil (leafT ?_ ?_)
   ·dsimp only[setW,List.foldl,nth,u2,u1]
    all_goals(first|rfl|simp)
   ·refine zF ?_
    all_goals(simp[hg3];done)
  ·refine zQ 1 ?_;refine qn ?_ (hg:=wi hg3);simp only[List.length_map];refine zQ 3 ?_;refine EvO.two 13 rfl (fun hg8=>?_) (fun hg8=>?_)
   ·refine zQ 6 ?_;refine EvO.nil (leafT ?_ ?_)
    ·dsimp only[setW,List.foldl,nth,u2,u1]
     all_goals(first|rfl|simp)
    ·refine zF ?_
     all_goals(simp[hg3,hg8];done)
   ·refine zQ 1 ?_;refine qv ((Ef _)) ?_ (hg:=wi hg8);refine zQ 1 ?_;refine qn ?_ (hg:=wi hg8);simp only[List.length_map];refine zQ 2 ?_;refine EvO.nil (leafT ?_ ?_)
    ·dsimp only[setW,List.foldl,nth,u2,u1]
     all_goals(first|rfl|simp)
    ·refine zF ?_
     all_goals(simp[hg3,hg8];done)
 dsimp only[setW,List.foldl,nth,u2,u1]
 have Ed:(((((l.length:Nat):Int)==0)||decide (((l.length:Nat):Int)>480))||(lu (cU l 241 0) !=((l.length:Nat):Int)))=!((decide (1≤l.length) &&decide (l.length≤480)) &&decide (cU l 241 0=some l.length)):=by
  have hA:(lu (cU l 241 0) !=((l.length:Nat):Int))=!decide (cU l 241 0=some l.length):=by
   cases cU l 241 0 with
   |none=>simp[lu]<;>omega
   |some j=>by_cases jB:j=l.length<;>simp[lu,bne,jB]<;>omega
  rw[hA,Bool.not_and,Bool.not_and]
  congr 2
  ·by_cases h:l.length=0
   ·simp[h]
   ·have:1≤l.length:=by omega
    simp[h,this]<;>omega
  ·by_cases h:l.length≤480
   ·simp[h]<;>omega
   ·simp[h]<;>omega
 cases hok:((decide (1≤l.length) &&decide (l.length≤480)) &&decide (cU l 241 0=some l.length)) with
 |false=>
  rw[hok] at Ed;refine EvC.cond (v:=true) (by dsimp only[Fr.ev,Fr.get,nth,V.look];exact htmp.trans (congrArg D.bool Ed)) (fun _=>?_) (fun h=>by cases h);refine zQ 4 ?_;refine EvC.ret ⟨rx,_,_,rfl,rl hSb hH (rfl),?_⟩
  rfl
 |true=>
  rw[hok] at Ed;refine EvC.cond (v:=false) (by dsimp only[Fr.ev,Fr.get,nth,V.look];exact htmp.trans (congrArg D.bool Ed)) (fun h=>by cases h) (fun _=>?_);refine zQ 1 ?_;rw[Bool.true_and]
  obtain⟨C,hC⟩:∃C,dF l 0=C:=⟨_,rfl⟩
  rw[hC];refine zQ 10 ?_;refine EvC.loop (fun mm fr st=>∃(i g:Nat),fr.clean=⟨5,[d,aM fr 1,aM fr 2,.int .i64 ((g+1:Nat):Int),.int .i64 (i:Nat)],[]⟩∧Has s0.bs.length S st []∧(i+mm=l.length)∧(g≤i)∧(dF (l.drop i) g=C)) (l.length) ?_ ?_
  ·exact⟨0,0,rfl,hH,by omega,by omega,hC⟩
  rintro mm fr st ⟨i,g,hfr,hH,JU,fu,Cy⟩;rw[hfr];clear hfr;generalize aM fr=ee;clear fr;refine zQ 5 ?_;refine qn ?_;simp only[List.length_map];refine zQ 2 ?_;refine zP (fun h1=>?_) fun h1=>?_
  ·refine zQ 1 ?_
   obtain⟨n,hn⟩:∃n,l[i]?=some n:=⟨l[i]'(by omega),List.getElem?_eq_getElem _⟩
   have hr1:=gi hn
   have om:l.drop i=n::l.drop (i+1):=by
    have:=List.drop_eq_getElem_cons (l:=l) (i:=i) (by omega);rw[this];congr 1;rw[List.getElem?_eq_getElem (by omega)] at hn;exact Option.some.inj hn
   rw[om] at Cy;unfold dF at Cy;refine zQ 6 ?_;refine qr fun HE Ck=>?_;refine qf (fo:=0) fun JG D_=>?_;refine zQ 3 ?_;refine zI (fun h6=>?_) fun h6=>?_
   ·rw[if_pos h6] at Cy;refine zQ 5 ?_;refine qr fun Ke F0=>?_;refine qf (fo:=5) fun SM QI=>?_;refine zQ 4 ?_;refine EvC.cond (by rfl) (fun hne=>?_) (fun hne=>?_)<;>try simp only[bne_iff_ne,bne_eq_false_iff_eq,ne_eq] at hne
    ·refine zQ 4 ?_;refine EvC.ret ⟨rx,_,_,rfl,rl hSb hH (rfl),?_⟩;rw[if_neg hne] at Cy;rw[←Cy]
     rfl
    ·refine zQ 1 ?_;rw[if_pos (by omega)] at Cy;refine zQ 2 ?_;refine EvO.fM (z:=((g+1+1:Nat):Int)) rfl (ev rfl) (ev rfl) (by rw[wrap_i64 (by omega) (by omega)]<;>omega) (put_T rfl _) ?_;refine zQ 7 ?_;exact⟨mm-1,by omega,⟨i+1,g+1,rfl,hH,by omega,by omega,Cy⟩⟩
   ·rw[if_neg h6] at Cy;refine zQ 6 ?_;exact⟨mm-1,by omega,⟨i+1,g,rfl,hH,by omega,by omega,Cy⟩⟩
  ·refine zQ 5 ?_;refine EvC.ret ⟨rx,_,_,rfl,rl hSb hH (rfl),?_⟩;rw[List.drop_eq_nil_of_le (by omega)] at Cy;rw[←Cy]
   rfl
end Go.Proofs.YtajblankjjmonaaGreat
