/-
 The code of a repeat. %deep
-/
import Derived.Test.YtbdnabmmlbiomaaGreatXGQd
import Derived.Test.YtbdnabmmlbiomaaGreatXGPi
import Derived.Test.YtbdnabmmlbiomaaGreatXGPc
set_option maxRecDepth 100000
set_option maxHeartbeats 4000000
set_option linter.unusedSimpArgs false
set_option linter.unusedVariables false
open List renaming length_append→γ,mem_append→δ,mem_cons→ε,length_cons→ζ,not_mem_nil→η,append_assoc→θ,mem_cons_self→κ,length_map→μ,mem_cons_of_mem→ν,append_nil→ο,map_append→π,getElem?_eq_getElem→ρ,map_cons→ς,map_nil→υ,getElem?_map→φ,getElem?_set_ne→Γ,mem_of_getElem?→Δ,length_nil→Θ,mem_reverse→Ω,getElem?_set_self→QX,replicate→Qx,drop_eq_getElem_cons→Qz,mem_append_right→Qv,length→Qk,mem_append_left→Qy,cons_append→QV,foldl_cons→QG,length_set→QH,nil_append→QB,foldl_nil→QF,map_map→QD,foldl→QM
open Nat renaming reduceAdd→ι,le_refl→ξ,le_of_ble_eq_true→τ,succ_mul→χ,add_right_comm→Φ,reduceSub→Qj,add_assoc→QC,add_zero→QP,zero_mul→QL
open Go.V.ab renaming block→ψ,skip→Ξ,cond→QZ,exit→Qw,loop→QW,ret→QU
open Go.V.D renaming cells→ω
open Go.V.Fr renaming put→Ψ
open Int renaming eq_ofNat_of_zero_le→QQ,toNat_natCast→Qq
open Go.V.aa renaming go→QJ,CS→QN,lZ→QR
open Bool renaming not_eq_false→QY,and_eq_true→QK
namespace Go.Proofs.YtbdnabmmlbiomaaGreat
open Go.V Go
def ag (fr:Go.V.Fr) (k:Nat):Go.V.D:=Go.V.nth .bD fr.loc k
theorem ua {c:Nat→List aQ} (hc:∀b,(c b).length=0) (z:Nat):∀k b,fX c z k b=[]
 |0,_=>rfl
 |k+1,b=>by rw[fX,ua hc z k,List.length_eq_zero_iff.1 (hc b)];rfl
theorem DB (s o:Nat) (lz:Bool):∃x y:Int,oC s o lz=dx 2 x y []:=by
 cases lz
 ·exact⟨_,_,rfl⟩
 ·exact⟨_,_,rfl⟩
variable{l:List ej}{n:ej}{k lo hi uA i_ s o e pc v u:Nat}{s0:St}{code C:List aQ}{i:aQ}{parts:List (List ej)}{op start:Int}{lz:Bool}{seen:List Bool}
theorem B8 (wG:l.length≤1048576) {m:Nat} (ih:∀t:Tr,t.flat.length≤m→tp l t) {t:Tr} (gv:n.op=5) (Yz:t.flat.length≤m) (kh:xF n 1) (tH:t.ok) {N:Nat} {S:St} {H:List bJ} {nd zd ed:D} {Z E:List Int} {at_:Nat} (hF:S.flr≤N) (zV:dr nd 7 (l.map bH)) (iE:gu l at_ (n::t.flat)) (hsz:gu Z (at_+1) t.zs) (sy:gu E (at_+1) (t.es (at_+1))) (hb:code.length+bY n t.sz 1≤1000000) (hM:Tp N S s0 k nd zd ed Z E H code):
  ∃r ai,Ev pv 125 [.ptr k 0 0,.int .i64 (at_:Nat)] s0 r ai∧r=.tup []∧Tp N S ai k nd zd ed Z E H (code++oH n (bc t) t.sz code.length):=by
 obtain⟨cd,dk,hH⟩:=hM;have hle:=iE.le (by simp);simp only[ζ] at hle;have hn:=iE.head;have iE:=iE.tail;have gB:=mg hn;have mV:=eA (AH hsz)
 have Dh:0≤n.mn∧n.mn≤30∧(n.mx=-1∨(n.mn≤n.mx∧n.mx≤30)):=by
  obtain⟨_,hq⟩:=kh;omega
 have MC:bY n t.sz 1=if n.mx=-1 then n.mn.toNat*t.sz+t.sz+2 else n.mn.toNat*t.sz+(n.mx.toNat-n.mn.toNat)*(t.sz+1):=by unfold bY;rw[if_neg (by omega),if_neg (by omega),if_neg (by omega),if_pos gv]
 rw[MC] at hb;clear MC;have Cx:=fun b=>cS t b tH;have hb1:code.length+n.mn.toNat*t.sz≤1000000:=by split at hb<;>omega
 refine Ev.iD rfl Wa rfl rfl rfl ?_;dsimp only[u3,u4,Qk,Qj,ι,w1,w2];change ab _ _ _ _ s0 _;have hc:=zV.arg N S;refine qq<|qj fun K hK=>qm ?_;refine qg ?_;refine qp (o:=1) ?_;refine ql hH av ?_;refine qm ?_;refine qr fun WJ Mz=>?_;refine aa.cA rfl (ev rfl) (by assumption) rfl (by dsimp only[Ψ,u1,u2]<;>rfl) ?_;refine qm ?_;refine qA ?_;refine qa hH fun k4 st Tf hH=>?_;refine qS hH av fun st hH=>?_;dsimp only[u2,u1,u3,u4,setMany,u5,u6,ω,ι,aC,bH,aw,lH] at hH;refine qm ?_;refine qe hK ?_;have hH:Has N S st (.box k (.mem 0 false [cd,nd,zd,ed])::.deep dk cd 4 (code.map aC)::.aO zd 1 (Z.map aw)::.aO ed 1 (E.map aw)::.box k4 (.mem 0 false (bH n))::H):=hH.LK;refine qq<|qq<|qj fun K hK=>qm ?_;refine qg ?_;refine qp (o:=2) ?_;refine ql hH av ?_;refine qm ?_;refine qi hH dF fun Q9 zS=>?_;refine qo hH dF ?_;refine qg ?_;refine qe hK ?_;have hRl:=jW Cx n.mn.toNat code.length;refine ab.merge (fun fr st=>∃(cd:D) (dk:Nat→Prop) (tmp:List (Nat×D)),fr=⟨78,[.ptr k 0 0,.int .i64 (at_:Nat),ag fr 2,ag fr 3,.ptr k4 0 0,.int .i64 ((at_+1:Nat):Int),ag fr 6,ag fr 7,ag fr 8,ag fr 9,ag fr 10,ag fr 11,ag fr 12,ag fr 13,ag fr 14,ag fr 15,ag fr 16,ag fr 17,ag fr 18,ag fr 19,ag fr 20,ag fr 21,ag fr 22,ag fr 23,ag fr 24,ag fr 25,ag fr 26,ag fr 27,ag fr 28,ag fr 29,ag fr 30,ag fr 31,ag fr 32,ag fr 33,ag fr 34,ag fr 35,ag fr 36,ag fr 37,ag fr 38,ag fr 39,ag fr 40,ag fr 41,ag fr 42,ag fr 43,ag fr 44,ag fr 45,ag fr 46,ag fr 47,ag fr 48,ag fr 49,ag fr 50,ag fr 51,ag fr 52,ag fr 53,ag fr 54,ag fr 55,ag fr 56,ag fr 57,ag fr 58,ag fr 59,ag fr 60,ag fr 61,ag fr 62,ag fr 63,ag fr 64,ag fr 65,ag fr 66,ag fr 67,ag fr 68,ag fr 69,ag fr 70,ag fr 71,ag fr 72,ag fr 73,ag fr 74,ag fr 75,ag fr 76,ag fr 77],tmp⟩∧Has N S st (.box k (.mem 0 false [cd,nd,zd,ed])::.deep dk cd 4 ((code++fX (bc t) t.sz n.mn.toNat code.length).map aC)::.aO zd 1 (Z.map aw)::.aO ed 1 (E.map aw)::.box k4 (.mem 0 false (bH n))::H)) ?_ ?_
 ·refine QZ (by rfl) (fun hz=>?_) (fun hz=>?_)<;>try simp only[decide_eq_true_eq,decide_eq_false_iff_not] at hz
  ·refine qq<|qj fun K hK=>qp (o:=2) ?_;refine ql hH gH ?_;refine qm ?_;refine qe hK<|ψ<|QW (fun mm fr st=>∃(i:Nat) (cd:D) (dk:Nat→Prop) (bw:List aQ),fr.clean=⟨78,[.ptr k 0 0,.int .i64 (at_:Nat),ag fr 2,ag fr 3,.ptr k4 0 0,.int .i64 ((at_+1:Nat):Int),ag fr 6,ag fr 7,ag fr 8,ag fr 9,ag fr 10,ag fr 11,ag fr 12,ag fr 13,ag fr 14,ag fr 15,ag fr 16,ag fr 17,ag fr 18,ag fr 19,ag fr 20,ag fr 21,ag fr 22,ag fr 23,ag fr 24,ag fr 25,ag fr 26,ag fr 27,.int .i64 n.mn,.int .i64 (i:Nat),ag fr 30,ag fr 31,ag fr 32,ag fr 33,ag fr 34,ag fr 35,ag fr 36,ag fr 37,ag fr 38,ag fr 39,ag fr 40,ag fr 41,ag fr 42,ag fr 43,ag fr 44,ag fr 45,ag fr 46,ag fr 47,ag fr 48,ag fr 49,ag fr 50,ag fr 51,ag fr 52,ag fr 53,ag fr 54,ag fr 55,ag fr 56,ag fr 57,ag fr 58,ag fr 59,ag fr 60,ag fr 61,ag fr 62,ag fr 63,ag fr 64,ag fr 65,ag fr 66,ag fr 67,ag fr 68,ag fr 69,ag fr 70,ag fr 71,ag fr 72,ag fr 73,ag fr 74,ag fr 75,ag fr 76,ag fr 77],[]⟩∧Has N S st (.box k (.mem 0 false [cd,nd,zd,ed])::.deep dk cd 4 (bw.map aC)::.aO zd 1 (Z.map aw)::.aO ed 1 (E.map aw)::.box k4 (.mem 0 false (bH n))::H)∧(i+mm=n.mn.toNat)∧(bw++fX (bc t) t.sz mm bw.length=code++fX (bc t) t.sz n.mn.toNat code.length)∧(bw.length+mm*t.sz=code.length+n.mn.toNat*t.sz)) (n.mn.toNat) ?_ ?_
   ·exact⟨0,cd,dk,code,rfl,hH,by omega,rfl,rfl⟩
   rintro mm fr st ⟨i,cd,dk,bw,hfr,hH,hi,uI,hcl⟩;rw[hfr];clear hfr;generalize ag fr=ee;clear fr;refine qq<|qj fun K hK=>qg ?_;refine qe hK ?_
   cases mm with
   |zero=>
    have jm:decide ((i:Int)<n.mn)=false:=by rw[decide_eq_false_iff_not];omega
    refine qq<|qE rfl (by rw[jm]) ?_;simp only[fX,ο] at uI;rw[uI] at hH;refine Qw ?_;exact⟨cd,dk,_,rfl,hH⟩
   |succ mm=>
    have jm:decide ((i:Int)<n.mn)=true:=by rw[decide_eq_true_eq];omega
    rw[χ] at hcl;refine qq<|qD rfl (by rw[jm]) ?_;refine Ξ<|qq<|ψ<|qj fun K hK=>qm ?_;refine qm ?_;obtain⟨_,st,aL,rfl,cd,dk,hH⟩:=ih t (by omega) hF zV iE hsz sy tH (by omega) ⟨cd,dk,hH⟩;refine qv aL ?_;refine qe hK<|qj fun K hK=>qA ?_;refine qm ?_;refine qe hK ?_;exact⟨mm,by omega,⟨i+1,cd,dk,bw++bc t bw.length,rfl,hH,by omega,by rw[γ,Cx,θ];exact uI,by rw[γ,Cx];omega⟩⟩
  ·refine Ξ ?_;have hz0:t.sz=0:=by omega
   have hR0:fX (bc t) t.sz n.mn.toNat code.length=[]:=ua (fun b=>by rw[Cx,hz0]) _ _ _;exact⟨cd,dk,_,rfl,(by rw[hR0,ο];exact hH)⟩
 ·rintro fr st ⟨cd,dk,tmp,hfr,hH⟩;rw[hfr];clear hfr;generalize ag fr=ee;clear fr;have WY:(code++fX (bc t) t.sz n.mn.toNat code.length).length=code.length+n.mn.toNat*t.sz:=by rw[γ,hRl]
  unfold oH;rw[←WY];rw[←WY] at hb1
  have hb2:if n.mx=-1 then(code++fX (bc t) t.sz n.mn.toNat code.length).length+t.sz+2≤1000000 else(code++fX (bc t) t.sz n.mn.toNat code.length).length+(n.mx.toNat-n.mn.toNat)*(t.sz+1)≤1000000:=by
   rw[WY];split
   ·rename_i h;rw[if_pos h] at hb;omega
   ·rename_i h;rw[if_neg h] at hb;omega
  have MW:∀X:List aQ,code++(fX (bc t) t.sz n.mn.toNat code.length++X)=code++fX (bc t) t.sz n.mn.toNat code.length++X:=fun X=>by rw[θ]
  simp only[apply_ite (fun X:List aQ=>code++X),MW];clear MW WY;generalize code++fX (bc t) t.sz n.mn.toNat code.length=cR at*;refine qq<|qq<|qj fun K hK=>qp (o:=3) ?_;refine ql hH gH ?_;refine qg ?_;refine qe hK ?_
  by_cases DW:n.mx=-1
  ·rw[if_pos DW];rw[if_pos DW] at hb2;refine qD rfl (by simp[DW]) ?_;refine qq<|qj fun K hK=>qm ?_;refine QJ (d:=.agg [.int .i64 2,.int .i64 0,.int .i64 0,.nul]) (st1:=_) rfl rfl rfl (by dsimp only[Ψ,u1,u2]<;>rfl) ?_;have hH:=hH.ew 2;obtain⟨_,st,aL,rfl,cd,dk,hH⟩:=hY (rs:=[]) hF (by omega) hH;refine qv aL ?_;refine qm ?_;refine qe hK ?_;have mW:(cR++[dx 2 0 0 []]).length=cR.length+1:=by simp
   refine qq<|qj fun K hK=>qm ?_;refine qm ?_;obtain⟨_,st,aL,rfl,cd,dk,hH⟩:=ih t (by omega) hF zV iE hsz sy tH (by omega) ⟨cd,dk,hH⟩;refine qv aL ?_;refine qe hK ?_;rw[mW] at hH;have jJ:(cR++[dx 2 0 0 []]++bc t (cR.length+1)).length=cR.length+1+t.sz:=by rw[γ,mW,Cx]
   refine qq<|qj fun K hK=>qm ?_;refine qm ?_;refine QJ (d:=.agg [.int .i64 3,.int .i64 (cR.length:Nat),.int .i64 0,.nul]) (st1:=_) rfl rfl rfl (by dsimp only[Ψ,u1,u2]<;>rfl) ?_;have hH:=hH.ew 2;obtain⟨_,st,aL,rfl,cd,dk,hH⟩:=hY (rs:=[]) hF (by omega) hH;refine qv aL ?_;refine qe hK ?_
   have Sp:(cR++[dx 2 0 0 []]++bc t (cR.length+1)++[dx 3 (cR.length:Nat) 0 []])[cR.length]?=some (dx 2 0 0 []):=by
    rw[θ,θ];exact q_ _ _ _
   have CG:(cR++[dx 2 0 0 []]++bc t (cR.length+1)++[dx 3 (cR.length:Nat) 0 []]).length=cR.length+t.sz+2:=by rw[γ,jJ];simp only[ζ,Θ];omega
   have Ml:(cR++[dx 2 0 0 []]++bc t (cR.length+1)++[dx 3 (cR.length:Nat) 0 []]).set cR.length (oC cR.length (cR.length+t.sz+2) n.lz)=cR++(oC cR.length (cR.length+t.sz+2) n.lz::(bc t (cR.length+1)++[nO cR.length])):=by
    rw[θ,θ];exact qO _ _ _ _
   generalize cR++[dx 2 0 0 []]++bc t (cR.length+1)++[dx 3 (cR.length:Nat) 0 []]=Fv at*;refine qq<|qj fun K hK=>qm ?_;refine qm ?_;refine qm ?_;refine qg ?_;refine qp (o:=0) ?_;refine ql hH av ?_;refine QN hH rfl (ev rfl) (by exact bh) rfl (by dsimp only[Ψ,u1,u2]<;>rfl) ?_;simp only[μ,γ,ζ,Θ];refine qp (o:=4) ?_;refine ql hH gH ?_;obtain⟨_,st,aL,rfl,hH⟩:=rn (at_:=cR.length) (over:=Fv.length) (lz:=n.lz) Sp (by omega) hH;refine qv aL ?_;refine qe hK ?_;rw[CG,Ml] at hH;refine QU ⟨rx,_,_,_,rfl,rfl,?_⟩;exact⟨rfl,cd,dk,hH.erase 4⟩
  ·rw[if_neg DW];rw[if_neg DW] at hb2;refine qE rfl (by simp[DW]) ?_;refine Ξ ?_;obtain⟨a,ha⟩:∃a:Nat,n.mn=(a:Int):=QQ Dh.1;obtain⟨b,Vl⟩:∃b:Nat,n.mx=(b:Int):=QQ (by omega);have Y5:n.mx.toNat-n.mn.toNat=b-a:=by omega
   rw[Y5] at hb2⊢;refine qq<|qj fun K hK=>qm ?_;refine qe hK<|qq<|qq<|qj fun K hK=>qp (o:=3) ?_;refine ql hH gH ?_;refine qp (o:=2) ?_;refine ql hH gH ?_;refine aa.ji (z:=((b-a:Nat):Int)) rfl (ev rfl) (ev rfl) (by rw[wrap_i64 (by omega) (by omega)]<;>omega) (by dsimp only[Ψ,u1,u2]<;>rfl) ?_;refine qm ?_;refine qe hK ?_;have hH:Has N S st (.box k (.mem 0 false [cd,nd,zd,ed])::.deep dk cd 4 (cR.map aC)::.aO zd 1 (Z.map aw)::.aO ed 1 (E.map aw)::.aO .nul 1 (([]:List Nat).map lH)::.box k4 (.mem 0 false (bH n))::H):=(hH.ew 1).LK;refine ψ<|QW (fun mm fr st=>∃(i:Nat) (cd jd:D) (dk:Nat→Prop) (bw:List aQ) (js:List Nat),fr.clean=⟨78,[.ptr k 0 0,.int .i64 (at_:Nat),ag fr 2,ag fr 3,.ptr k4 0 0,.int .i64 ((at_+1:Nat):Int),ag fr 6,jd,ag fr 8,ag fr 9,ag fr 10,ag fr 11,ag fr 12,ag fr 13,ag fr 14,ag fr 15,ag fr 16,ag fr 17,ag fr 18,ag fr 19,ag fr 20,ag fr 21,ag fr 22,ag fr 23,ag fr 24,ag fr 25,ag fr 26,ag fr 27,ag fr 28,ag fr 29,ag fr 30,ag fr 31,ag fr 32,ag fr 33,ag fr 34,ag fr 35,ag fr 36,ag fr 37,ag fr 38,ag fr 39,ag fr 40,ag fr 41,ag fr 42,ag fr 43,ag fr 44,ag fr 45,ag fr 46,ag fr 47,ag fr 48,ag fr 49,ag fr 50,ag fr 51,ag fr 52,ag fr 53,ag fr 54,ag fr 55,ag fr 56,ag fr 57,ag fr 58,ag fr 59,ag fr 60,ag fr 61,.int .i64 ((b-a:Nat):Int),.int .i64 (i:Nat),ag fr 64,ag fr 65,ag fr 66,ag fr 67,ag fr 68,ag fr 69,ag fr 70,ag fr 71,ag fr 72,ag fr 73,ag fr 74,ag fr 75,ag fr 76,ag fr 77],[]⟩∧Has N S st (.box k (.mem 0 false [cd,nd,zd,ed])::.deep dk cd 4 (bw.map aC)::.aO zd 1 (Z.map aw)::.aO ed 1 (E.map aw)::.aO jd 1 (js.map lH)::.box k4 (.mem 0 false (bH n))::H)∧(i+mm=b-a)∧(bw++fM (fun _=>dx 2 0 0 []) (bc t) t.sz mm bw.length=cR++fM (fun _=>dx 2 0 0 []) (bc t) t.sz (b-a) cR.length)∧(js++xy t.sz mm bw.length=xy t.sz (b-a) cR.length)∧(bw.length+mm*(t.sz+1)=cR.length+(b-a)*(t.sz+1))∧(js.length=i)) (b-a) ?_ ?_
   ·exact⟨0,cd,.nul,dk,cR,[],rfl,hH,by omega,rfl,rfl,rfl,rfl⟩
   rintro mm fr st ⟨i,cd,jd,dk,bw,js,hfr,hH,hi,ja,hjs,hcl,jI⟩;rw[hfr];clear hfr;generalize ag fr=ee;clear fr;refine qq<|qj fun K hK=>qg ?_;refine qe hK ?_
   cases mm with
   |zero=>
    have jm:decide ((i:Int)<((b-a:Nat):Int))=false:=by rw[decide_eq_false_iff_not];omega
    refine qq<|qE rfl (by rw[jm]) ?_;refine Qw<|qq<|qj fun K hK=>qm ?_;refine qn ?_ (hR:=hH.rows gH);simp only[μ];refine qm ?_;refine qe hK ?_;simp only[fM,xy,ο] at ja hjs;rw[ja] at hH;obtain⟨zU,Df⟩:=oQ (sp:=fun s=>oC s (cR.length+(b-a)*(t.sz+1)) n.lz) Cx (i0:=dx 2 0 0 []) (b-a) cR.length cR [] rfl;simp only[ο] at zU Df;have Zr:(cR++fM (fun _=>dx 2 0 0 []) (bc t) t.sz (b-a) cR.length).length=cR.length+(b-a)*(t.sz+1):=by rw[γ,rK Cx]
    rw[←hjs] at zU Df;rw[←zU];clear zU ja;generalize cR++fM (fun _=>dx 2 0 0 []) (bc t) t.sz (b-a) cR.length=C0 at*;generalize cR.length+(b-a)*(t.sz+1)=e at*;refine ψ<|QW (fun mm fr st=>∃(q:Nat) (C:List aQ),fr.clean=⟨78,[.ptr k 0 0,ag fr 1,ag fr 2,ag fr 3,.ptr k4 0 0,ag fr 5,ag fr 6,ag fr 7,ag fr 8,ag fr 9,ag fr 10,ag fr 11,ag fr 12,ag fr 13,ag fr 14,ag fr 15,ag fr 16,ag fr 17,ag fr 18,ag fr 19,ag fr 20,ag fr 21,ag fr 22,ag fr 23,ag fr 24,ag fr 25,ag fr 26,ag fr 27,ag fr 28,ag fr 29,ag fr 30,ag fr 31,ag fr 32,ag fr 33,ag fr 34,ag fr 35,ag fr 36,ag fr 37,ag fr 38,ag fr 39,ag fr 40,ag fr 41,ag fr 42,ag fr 43,ag fr 44,ag fr 45,ag fr 46,ag fr 47,ag fr 48,ag fr 49,ag fr 50,ag fr 51,ag fr 52,ag fr 53,ag fr 54,ag fr 55,ag fr 56,ag fr 57,ag fr 58,ag fr 59,ag fr 60,ag fr 61,ag fr 62,ag fr 63,ag fr 64,ag fr 65,ag fr 66,ag fr 67,ag fr 68,ag fr 69,ag fr 70,ag fr 71,ag fr 72,ag fr 73,ag fr 74,jd,.int .i64 (js.length:Nat),.int .i64 (q:Nat)],[]⟩∧Has N S st (.box k (.mem 0 false [cd,nd,zd,ed])::.deep dk cd 4 (C.map aC)::.aO zd 1 (Z.map aw)::.aO ed 1 (E.map aw)::.aO jd 1 (js.map lH)::.box k4 (.mem 0 false (bH n))::H)∧(q+mm=js.length)∧(iU (fun s=>oC s e n.lz) C (js.drop q)=iU (fun s=>oC s e n.lz) C0 js)∧(∀p∈js,∃x y:Int,C[p]?=some (dx 2 x y []))∧(C.length=e)) (js.length) ?_ ?_
    ·exact⟨0,C0,rfl,hH,by omega,rfl,fun p hp=>⟨_,_,Df p hp⟩,Zr⟩
    rintro mm fr st ⟨q,C,hfr,hH,hq,fO,nU,Tm⟩;rw[hfr];clear hfr;generalize ag fr=ee;clear fr;refine qq<|qj fun K hK=>qg ?_;refine qe hK<|qq ?_;refine QZ (by rfl) (fun hlt=>?_) (fun hlt=>?_)<;>try simp only[decide_eq_true_eq,decide_eq_false_iff_not] at hlt
    ·refine Ξ ?_;have NC:q<js.length:=by omega
     obtain⟨p,hp⟩:∃p,js[q]?=some p:=⟨js[q]'NC,ρ _⟩
     obtain⟨x,y,hv⟩:=nU p (Δ hp);have gB:=xH hp;have ib:=bC hv;refine qq<|ψ<|qq<|qj fun K hK=>qi hH gH fun WH Mx=>?_;refine qo hH gH ?_;refine qm ?_;refine qe hK<|qj fun K hK=>qm ?_;refine qm ?_;refine qm ?_;refine qg ?_;refine qp (o:=0) ?_;refine ql hH av ?_;refine QN hH rfl (ev rfl) (by exact bh) rfl (ae rfl _) ?_;simp only[μ];refine qp (o:=4) ?_;refine ql hH qG ?_;obtain⟨_,st,aL,rfl,hH⟩:=rn (at_:=p) (over:=C.length) (lz:=n.lz) hv (by omega) hH;refine qv aL ?_;refine qe hK<|qj fun K hK=>qA ?_;refine qm ?_;refine qe hK ?_
     have tI:js.drop q=p::js.drop (q+1):=by
      rw[Qz NC]
      congr 1
      exact Option.some.inj ((ρ _).symm.trans hp)
     refine⟨mm-1,by omega,⟨q+1,C.set p (oC p e n.lz),rfl,(by rw[Tm] at hH;exact hH),by omega,by rw[tI] at fO;exact fO,?_,by rw[QH];exact Tm⟩⟩;intro p' vW
     by_cases hpp:p'=p
     ·subst hpp;obtain⟨x',y',Uk⟩:=DB p' e n.lz;exact⟨x',y',by rw[QX ib,Uk]⟩
     ·rw[Γ (fun e=>hpp e.symm)];exact nU p' vW
    ·refine Qw ?_;refine⟨fun i h=>(by cases h),_,_,_,rfl,rfl,?_⟩;have Mv:q=js.length:=by omega
     rw[Mv,List.drop_length] at fO;have fO:C=iU (fun s=>oC s e n.lz) C0 js:=fO;rw[←fO];exact⟨rfl,cd,dk,(hH.erase 5).erase 4⟩
   |succ mm=>
    have jm:decide ((i:Int)<((b-a:Nat):Int))=true:=by rw[decide_eq_true_eq];omega
    rw[χ] at hcl;refine qq<|qD rfl (by rw[jm]) ?_;refine Ξ<|qq<|ψ<|qq<|qj fun K hK=>qm ?_;refine qm ?_;refine QJ (d:=.agg [.int .i64 2,.int .i64 0,.int .i64 0,.nul]) (st1:=_) rfl rfl rfl (by dsimp only[Ψ,u1,u2]<;>rfl) ?_;have hH:=hH.ew 2;obtain⟨_,st,aL,rfl,cd,dk,hH⟩:=hY (rs:=[]) hF (by omega) hH;refine qv aL ?_;refine qh (s:=1) (vs:=[_]) hH fun k69 st abz hH=>?_;dsimp only[u2,u1,u3,u4,setMany,u5,u6,ω,ι,aC,bH,aw,lH] at hH;refine qP hH qG (hH.rows av) fun x70 st hH=>?_;dsimp only[u2,u1,u3,u4,setMany,u5,u6,ω,ι,aC,bH,aw,lH] at hH;refine qm ?_;refine qe hK ?_;have hH:=hH.drop 1;have mW:(bw++[dx 2 0 0 []]).length=bw.length+1:=by simp
    refine qj fun K hK=>qm ?_;refine qm ?_;obtain⟨_,st,aL,rfl,cd,dk,hH⟩:=ih t (by omega) hF zV iE hsz sy tH (by omega) ⟨cd,dk,hH⟩;refine qv aL ?_;refine qe hK ?_;rw[mW] at hH;have jJ:(bw++[dx 2 0 0 []]++bc t (bw.length+1)).length=bw.length+1+t.sz:=by rw[γ,mW,Cx]
    refine qj fun K hK=>qA ?_;refine qm ?_;refine qe hK ?_;exact⟨mm,by omega,⟨i+1,cd,x70,dk,bw++[dx 2 0 0 []]++bc t (bw.length+1),js++[bw.length],rfl,(by rw[π (f:=lH)];exact hH),by omega,by rw[jJ,←ja];simp only[fM,θ,QV,QB],by rw[jJ,←hjs];simp only[xy,θ,QV,QB],by rw[jJ];omega,by rw[γ,jI];rfl⟩⟩
def ck (fr:Go.V.Fr) (k:Nat):Go.V.D:=Go.V.nth .bD fr.loc k
theorem yI (t:Tr):gE (.cons t .nil)=bc t:=by
 funext b;simp only[gE,ο]
theorem y5 (t:Tr):(bW.cons t .nil).sz=t.sz:=by simp only[bW.sz,QP]
theorem LW (wG:l.length≤1048576) (hi:∀n∈l,n.ok):∀(m:Nat) (t:Tr),t.flat.length≤m→tp l t:=by
 intro m
 induction m with
 |zero=>intro t h;have:=t.jb;omega
 |succ m ih=>
  rintro⟨n,ks⟩ hm N k S s0 H nd zd ed code Z E at_ hF zV iE hsz sy bA hb hM;have hM0:=hM;obtain⟨cd,dk,hH⟩:=hM;simp only[Tr.ok] at bA;obtain⟨kh,lj⟩:=bA;simp only[Tr.flat,ζ] at hm;have hle:=iE.le (by simp[Tr.flat]);simp only[Tr.flat] at iE hle;simp only[ζ] at hle;simp only[Tr.zs] at hsz;simp only[Tr.es] at sy;simp only[Tr.sz] at hb;have hn:=iE.head;have UR:=hi n (Δ hn);have vV:=UR.1.arg N S;have ni:=UR.2.1;have gB:=mg hn;have Tb:=kh.1;have iL:=bW.lM ks;have hcat:=fun b=>oe ks b lj;refine Ev.iD rfl Zx rfl rfl rfl ?_;dsimp only[u3,u4,Qk,Qj,ι,w1,w2];change ab _ _ _ _ s0 _;have hc:=zV.arg N S;refine qq<|qj fun K hK=>qm ?_;refine qg ?_;refine qp (o:=1) ?_;refine ql hH av ?_;refine qm ?_;refine qr fun p11 UP=>?_;refine aa.cA rfl (ev rfl) (by assumption) rfl (by dsimp only[Ψ,u1,u2]<;>rfl) ?_;refine qa hH fun k4 st Tf hH=>?_;refine qS hH av fun st hH=>?_;dsimp only[u2,u1,u3,u4,setMany,u5,u6,ω,ι,aC,bH,aw,lH] at hH;refine qe hK ?_;have hH:Has N S st (.box k (.mem 0 false [cd,nd,zd,ed])::.deep dk cd 4 (code.map aC)::.aO zd 1 (Z.map aw)::.aO ed 1 (E.map aw)::.box k4 (.mem 0 false (bH n))::H):=hH.LK;refine qq<|qj fun K hK=>qp (o:=0) ?_;refine ql hH gH ?_;refine qe hK<|ψ<|qq<|qj fun K hK=>qg ?_;refine qm ?_;refine qe hK ?_;refine QZ (by rfl) (fun q2=>?_) (fun q2=>?_)<;>try simp only[beq_iff_eq,beq_eq_false_iff_ne,ne_eq] at q2
  ·have z_:bc (.mk n ks) code.length=[dx 1 0 0 n.rs]:=by simp only[bc,if_pos q2]
   rw[z_];have hz:bY n ks.sz ks.len=1:=by unfold bY;rw[if_pos (.inl q2)]
   have hH:=hH.ew 2;refine qj fun K hK=>qm ?_;refine qp (o:=1) ?_;refine ql hH qG ?_;refine qP hH av (Arg.rows (by assumption) hH) fun x20 st hH=>?_;dsimp only[u2,u1,u3,u4,setMany,u5,u6,ω,ι,aC,bH,aw,lH] at hH;refine aa.gK (qs:=[(0,_),(3,_)]) rfl rfl rfl rfl ⟨rfl,(ev rfl),(by rfl),rfl,(ev rfl),(by exact hH.eJ (by exact av)),trivial⟩ (by intro q hq;simp only[ε,η,or_false] at hq;rcases hq with rfl|rfl<;>exact⟨rfl,by exact τ rfl⟩) (by show QM _ [_,_,_,_] _=_;dsimp only[QG,QF,u2,u1]<;>rfl) (by dsimp only[Ψ,u1,u2]<;>rfl) ?_;obtain⟨_,st,aL,rfl,cd,dk,hH⟩:=hY (rs:=n.rs) hF (by omega) hH;refine qv aL ?_;refine qe hK ?_;refine⟨fun i h=>(by cases h),_,_,_,rfl,rfl,?_⟩;exact⟨rfl,cd,dk,hH.erase 4⟩
  refine qq<|qj fun K hK=>qg ?_;refine qm ?_;refine qe hK ?_;refine QZ (by rfl) (fun q7=>?_) (fun q7=>?_)<;>try simp only[beq_iff_eq,beq_eq_false_iff_ne,ne_eq] at q7
  ·have z_:bc (.mk n ks) code.length=[dx 5 0 0 []]:=by simp only[bc,if_neg q2,if_pos q7]
   rw[z_];refine qj fun K hK=>qm ?_;refine QJ (d:=.agg [.int .i64 5,.int .i64 0,.int .i64 0,.nul]) (st1:=_) rfl rfl rfl (by dsimp only[Ψ,u1,u2]<;>rfl) ?_;have hH:=hH.ew 2;obtain⟨_,st,aL,rfl,cd,dk,hH⟩:=hY (rs:=[]) hF (by omega) hH;refine qv aL ?_;refine qe hK ?_;refine⟨fun i h=>(by cases h),_,_,_,rfl,rfl,?_⟩;exact⟨rfl,cd,dk,hH.erase 4⟩
  refine qq<|qj fun K hK=>qg ?_;refine qm ?_;refine qe hK ?_;refine QZ (by rfl) (fun q8=>?_) (fun q8=>?_)<;>try simp only[beq_iff_eq,beq_eq_false_iff_ne,ne_eq] at q8
  ·have z_:bc (.mk n ks) code.length=[dx 6 0 0 []]:=by simp only[bc,if_neg q2,if_neg q7,if_pos q8]
   rw[z_];refine qj fun K hK=>qm ?_;refine QJ (d:=.agg [.int .i64 6,.int .i64 0,.int .i64 0,.nul]) (st1:=_) rfl rfl rfl (by dsimp only[Ψ,u1,u2]<;>rfl) ?_;have hH:=hH.ew 2;obtain⟨_,st,aL,rfl,cd,dk,hH⟩:=hY (rs:=[]) hF (by omega) hH;refine qv aL ?_;refine qe hK ?_;refine⟨fun i h=>(by cases h),_,_,_,rfl,rfl,?_⟩;exact⟨rfl,cd,dk,hH.erase 4⟩
  refine qq<|qj fun K hK=>qg ?_;refine qm ?_;refine qe hK ?_;refine QZ (by rfl) (fun q3=>?_) (fun q3=>?_)<;>try simp only[beq_iff_eq,beq_eq_false_iff_ne,ne_eq] at q3
  ·have z_:bc (.mk n ks) code.length=gE ks code.length:=by simp only[bc,if_neg q2,if_neg q7,if_neg q8,if_pos q3]
   rw[z_];have hz:bY n ks.sz ks.len=ks.sz:=by unfold bY;rw[if_neg (by omega),if_neg (by omega),if_neg (by omega),if_neg (by omega)]
   rw[hz] at hb;refine qq<|qj fun K hK=>qm ?_;refine qA ?_;refine qm ?_;refine qe hK<|qq<|qj fun K hK=>qp (o:=6) ?_;refine ql hH gH ?_;refine qm ?_;refine qe hK<|ψ<|QW (fun mm fr st=>∃(i j:Nat) (rest:bW) (cd:D) (dk:Nat→Prop) (bw:List aQ),fr.clean=⟨40,[.ptr k 0 0,.int .i64 (at_:Nat),ck fr 2,ck fr 3,.ptr k4 0 0,.int .i64 (j:Nat),ck fr 6,ck fr 7,ck fr 8,ck fr 9,ck fr 10,ck fr 11,ck fr 12,ck fr 13,ck fr 14,ck fr 15,ck fr 16,ck fr 17,ck fr 18,ck fr 19,ck fr 20,ck fr 21,ck fr 22,ck fr 23,ck fr 24,ck fr 25,ck fr 26,ck fr 27,ck fr 28,ck fr 29,ck fr 30,ck fr 31,ck fr 32,ck fr 33,ck fr 34,ck fr 35,ck fr 36,ck fr 37,.int .i64 n.kids,.int .i64 (i:Nat)],[]⟩∧Has N S st (.box k (.mem 0 false [cd,nd,zd,ed])::.deep dk cd 4 (bw.map aC)::.aO zd 1 (Z.map aw)::.aO ed 1 (E.map aw)::.box k4 (.mem 0 false (bH n))::H)∧(mm=rest.len)∧(i+rest.len=ks.len)∧(gu l j rest.flat)∧(gu Z j rest.zs)∧(gu E j (rest.es j))∧(rest.ok)∧(bw++gE rest bw.length=code++gE ks code.length)∧(bw.length+rest.sz=code.length+ks.sz)∧(rest.flat.length≤m)) (ks.len) ?_ ?_
   ·exact⟨0,at_+1,ks,cd,dk,code,rfl,hH,rfl,by omega,iE.tail,hsz.tail,sy.tail,lj,rfl,rfl,by omega⟩
   rintro mm fr st ⟨i,j,rest,cd,dk,bw,hfr,hH,yX,wH,p_,xY,pZ,jH,ja,hcl,RH⟩;rw[hfr];clear hfr;generalize ck fr=ee;clear fr;refine qq<|qj fun K hK=>qg ?_;refine qe hK ?_
   cases rest with
   |nil=>
    simp only[bW.len] at wH;simp only[gE,ο] at ja;have jm:decide ((i:Int)<n.kids)=false:=by rw[decide_eq_false_iff_not];omega
    refine qq<|qE rfl (by rw[jm]) ?_;refine Qw ?_;refine⟨fun i h=>(by cases h),_,_,_,rfl,rfl,?_⟩;rw[←ja];exact⟨rfl,cd,dk,hH.erase 4⟩
   |cons t ts=>
    simp only[bW.len] at wH yX;simp only[bW.sz] at hcl;simp only[bW.flat,γ] at p_ RH;simp only[bW.zs] at xY;simp only[bW.es] at pZ;simp only[bW.ok] at jH;simp only[gE] at ja;have Rw:=t.jB;have Ur:=t.jK j;have Cx:=cS t bw.length jH.1;have X9:=eA (BD pZ.left);have jm:decide ((i:Int)<n.kids)=true:=by rw[decide_eq_true_eq];omega
    refine qq<|qD rfl (by rw[jm]) ?_;refine Ξ<|qq<|ψ<|qq<|qj fun K hK=>qm ?_;refine qm ?_;obtain⟨_,st,aL,rfl,cd,dk,hH⟩:=ih t (by omega) hF zV p_.left xY.left pZ.left jH.1 (by omega) ⟨cd,dk,hH⟩;refine qv aL ?_;refine qe hK<|qj fun K hK=>qm ?_;refine qg ?_;refine qp (o:=3) ?_;refine ql hH av ?_;refine qm ?_;refine qi hH fm fun p49 UE=>?_;refine qo hH fm ?_;refine qm ?_;refine qe hK<|qj fun K hK=>qA ?_;refine qm ?_;refine qe hK ?_;exact⟨mm-1,by omega,⟨i+1,j+t.flat.length,ts,cd,dk,bw++bc t bw.length,rfl,hH,by omega,by omega,p_.right,by rw[←Rw];exact xY.right,by rw[←Ur];rw[←Ur] at pZ;exact pZ.right,jH.2,by rw[γ,Cx,θ];exact ja,by rw[γ,Cx];omega,by omega⟩⟩
  refine qq<|qj fun K hK=>qg ?_;refine qm ?_;refine qe hK ?_;refine QZ (by rfl) (fun q4=>?_) (fun q4=>?_)<;>try simp only[beq_iff_eq,beq_eq_false_iff_ne,ne_eq] at q4
  ·have z_:bc (.mk n ks) code.length=fp (nO (code.length+bY n ks.sz ks.len)) ks code.length:=by simp only[bc,if_neg q2,if_neg q7,if_neg q8,if_neg q3,if_pos q4]
   rw[z_];refine qj fun K hK=>qm ?_;refine qm ?_;obtain⟨_,st,aL,rfl,cd,dk,hH⟩:=SO wG ih q4 (by omega) kh lj hF zV iE hsz.tail sy.tail hb ⟨cd,dk,hH⟩;refine qv aL ?_;refine qe hK ?_;refine⟨fun i h=>(by cases h),_,_,_,rfl,rfl,?_⟩;exact⟨rfl,cd,dk,hH.erase 4⟩
  refine qq<|qj fun K hK=>qg ?_;refine qm ?_;refine qe hK ?_;refine QZ (by rfl) (fun q5=>?_) (fun q5=>?_)<;>try simp only[beq_iff_eq,beq_eq_false_iff_ne,ne_eq] at q5
  ·have qY:ks.len=1:=by
    obtain⟨_,hq⟩:=kh;omega
   obtain⟨t,rfl⟩:=bW.Bh qY;have z_:bc (.mk n (.cons t .nil)) code.length=oH n (bc t) t.sz code.length:=by simp only[bc,if_neg q2,if_neg q7,if_neg q8,if_neg q3,if_neg q4,if_pos q5,yI,y5]
   rw[z_];rw[qY] at kh hb;rw[y5] at hb;simp only[bW.flat,bW.zs,bW.es,bW.ok,ο] at*;refine qj fun K hK=>qm ?_;refine qm ?_;obtain⟨_,st,aL,rfl,cd,dk,hH⟩:=B8 wG ih q5 (by omega) kh lj.1 hF zV iE hsz.tail sy.tail hb ⟨cd,dk,hH⟩;refine qv aL ?_;refine qe hK ?_;refine⟨fun i h=>(by cases h),_,_,_,rfl,rfl,?_⟩;exact⟨rfl,cd,dk,hH.erase 4⟩
  refine qq<|qj fun K hK=>qg ?_;refine qm ?_;refine qe hK ?_;refine QZ (by rfl) (fun q6=>?_) (fun q6=>?_)<;>try simp only[beq_iff_eq,beq_eq_false_iff_ne,ne_eq] at q6
  ·have qY:ks.len=1∧1≤n.cap∧n.cap≤4:=by
    obtain⟨_,hq⟩:=kh;omega
   obtain⟨t,rfl⟩:=bW.Bh qY.1;have z_:bc (.mk n (.cons t .nil)) code.length=dx 4 (2*n.cap) 0 []::(bc t (code.length+1)++[dx 4 (2*n.cap+1) 0 []]):=by simp only[bc,if_neg q2,if_neg q7,if_neg q8,if_neg q3,if_neg q4,if_neg q5,if_pos q6,yI]
   rw[z_];have hz:bY n (bW.cons t .nil).sz (bW.cons t .nil).len=t.sz+2:=by unfold bY;rw[if_neg (by omega),if_neg (by omega),if_pos q6,y5]
   rw[hz] at hb;simp only[bW.flat,bW.zs,bW.es,bW.ok,ο] at iE hsz sy lj hm;refine qq<|qj fun K hK=>qm ?_;refine qp (o:=5) ?_;refine ql hH gH ?_;refine aa.zz (z:=(2*n.cap)) rfl (ev rfl) (ev rfl) (by rw[wrap_i64 (by omega) (by omega)]<;>omega) (ae rfl _) ?_;refine QJ (d:=.agg [.int .i64 4,.int .i64 (2*n.cap),.int .i64 0,.nul]) (st1:=_) rfl rfl rfl (ae rfl _) ?_;have hH:=hH.ew 2;obtain⟨_,st,aL,rfl,cd,dk,hH⟩:=hY (rs:=[]) hF (by omega) hH;refine qv aL ?_;refine qe hK ?_;have mW:(code++[dx 4 (2*n.cap) 0 []]).length=code.length+1:=by simp
   refine qq<|qj fun K hK=>qm ?_;refine qm ?_;refine qA ?_;obtain⟨_,st,aL,rfl,cd,dk,hH⟩:=ih t (by omega) hF zV iE.tail hsz.tail sy.tail lj.1 (by omega) ⟨cd,dk,hH⟩;refine qv aL ?_;refine qe hK ?_;rw[mW] at hH;have jJ:(code++[dx 4 (2*n.cap) 0 []]++bc t (code.length+1)).length=code.length+1+t.sz:=by rw[γ,mW,cS t _ lj.1]
   refine qj fun K hK=>qm ?_;refine qp (o:=5) ?_;refine ql hH gH ?_;refine aa.zz (z:=(2*n.cap)) rfl (ev rfl) (ev rfl) (by rw[wrap_i64 (by omega) (by omega)]<;>omega) (ae rfl _) ?_;refine QR (z:=(2*n.cap+1)) rfl (ev rfl) (ev rfl) (by rw[wrap_i64 (by omega) (by omega)]<;>omega) (ae rfl _) ?_;refine QJ (d:=.agg [.int .i64 4,.int .i64 (2*n.cap+1),.int .i64 0,.nul]) (st1:=_) rfl rfl rfl (ae rfl _) ?_;have hH:=hH.ew 2;obtain⟨_,st,aL,rfl,cd,dk,hH⟩:=hY (rs:=[]) hF (by omega) hH;refine qv aL ?_;refine qe hK ?_;have gb:code++[dx 4 (2*n.cap) 0 []]++bc t (code.length+1)++[dx 4 (2*n.cap+1) 0 []]=code++dx 4 (2*n.cap) 0 []::(bc t (code.length+1)++[dx 4 (2*n.cap+1) 0 []]):=by simp
   rw[gb] at hH;refine⟨fun i h=>(by cases h),_,_,_,rfl,rfl,?_⟩;exact⟨rfl,cd,dk,hH.erase 4⟩
  ·refine Ξ ?_;have z_:bc (.mk n ks) code.length=[]:=by simp only[bc,if_neg q2,if_neg q7,if_neg q8,if_neg q3,if_neg q4,if_neg q5,if_neg q6]
   rw[z_,ο];refine⟨fun i h=>(by cases h),_,_,_,rfl,rfl,?_⟩;exact⟨rfl,cd,dk,hH.erase 4⟩
def iZ (fr:Go.V.Fr) (k:Nat):Go.V.D:=Go.V.nth .bD fr.loc k
def Da (x:Nl):List D:=[x.d]
theorem Rk {l:List Nl} {i:Nat} {q:Nl} (h:l[i]?=some q):(l.map Da)[i]?=some (Da q):=by rw[φ,h];rfl
def pV (R:tt):D:=.tup [(pH R.code R.ak).d,.int .i64 R.e,.int .i64 R.w]
theorem AX {es M:List Int} (h:M.length=es.length):ou es 0 M=M:=by
 unfold ou;simp[h]
theorem pb (r:Nat) (c:List aQ) (s:List Int):fw [] r c s=⟨c,s,0,0⟩:=by simp only[fw]
theorem Ao {x:D} {rules:List Nl} (hx:V.Rows s0 1 x (rules.map Da)) (hr:∀r∈rules,r.ok) (hl:rules.length≤1048576):Ev pv 47 [x] s0 (pV (bM (rules.map (·.l)))) s0:=by
 refine Ev.h_ rfl ZY rfl rfl rfl ?_;dsimp only[u3,u4,Qk,Qj,ι,w1,w2];obtain⟨bt,hF,hH⟩:=ri s0;generalize ah .ro s0=S at*;have hx:=Arg.of hx bt;have hfz:∀(st:St) (e w:Int),bn st s0.bs.length false 16 (tC [.agg [.nul,.nul],.int .i64 e,.int .i64 w])=some (pV ⟨[],[],e,w⟩):=fun st e w=>rfl;refine qq<|qj fun K hK=>qa hH fun k2 st hk2 hH=>?_;refine qm ?_;refine qm ?_;refine qe hK<|qq<|qq<|qj fun K hK=>qm ?_;refine qn ?_;simp only[μ];refine qg ?_;refine qe hK ?_;unfold bM
 by_cases h8:8<rules.length
 ·rw[if_pos (by rw[μ];exact h8)];refine qD rfl (by simp;omega) ?_;refine qq<|qj fun K hK=>?_;refine QJ (d:=.agg [.nul,.nul]) (st1:=_) rfl rfl rfl (by dsimp only[Ψ,u1,u2]<;>rfl) ?_;refine qS hH av fun st hH=>?_;dsimp only[u2,u1,u3,u4,setMany,u5,u6,ω,ι,aC,bH,aw,Da] at hH;refine qm ?_;refine qm ?_;refine qe hK<|QU ⟨rx,_,hH.l9 rfl av rfl rfl rfl,rl bt hH (hfz _ 13 8)⟩
 ·rw[if_neg (by rw[μ];exact h8)];refine qE rfl (by simp;omega) ?_;refine Ξ<|qq<|qj fun K hK=>?_;refine QJ (d:=.agg [.nul,.nul,.nul,.nul]) (st1:=_) rfl rfl rfl (by dsimp only[Ψ,u1,u2]<;>rfl) ?_;refine qb hH fun k14 st Sa hH=>?_;refine qm ?_;refine qe hK<|qq<|qj fun K hK=>qm ?_;refine qe hK<|qq<|qq<|qj fun K hK=>qm ?_;refine qn ?_;simp only[μ];refine qm ?_;refine qe hK ?_;have hH:Has s0.bs.length S st (.aO .nul 1 (([]:List Int).map aw)::.deep (fun _=>False) .nul 4 (([]:List aQ).map aC)::.box k14 (.mem 0 false [.nul,.nul,.nul,.nul])::[.box k2 (.mem 0 false [.nul,.nul])]):=(hH.Eg 4).ew 1;refine ψ<|QW (fun mm fr st=>∃(r:Nat) (cd nd zd ed sd:D) (dk:Nat→Prop) (code:List aQ) (ak:List Int),fr.clean=⟨18,[iZ fr 0,iZ fr 1,.ptr k2 0 0,.int .i64 0,.int .i64 0,.ptr k14 0 0,sd,iZ fr 7,iZ fr 8,iZ fr 9,iZ fr 10,iZ fr 11,iZ fr 12,iZ fr 13,iZ fr 14,x,.int .i64 (rules.length:Nat),.int .i64 (r:Nat)],[]⟩∧Has s0.bs.length S st [.aO sd 1 (ak.map aw),.deep dk cd 4 (code.map aC),.box k14 (.mem 0 false [cd,nd,zd,ed]),.box k2 (.mem 0 false [.nul,.nul])]∧(r+mm=rules.length)∧(fw ((rules.drop r).map (·.l)) r code ak=fw (rules.map (·.l)) 0 [] [])∧(code.length≤400)∧(ak.length≤r)) (rules.length) ?_ ?_
  ·exact⟨0,.nul,.nul,.nul,.nul,.nul,(fun _=>False),[],[],rfl,hH,by omega,by rw[List.drop_zero],by simp,by simp⟩
  rintro mm fr st ⟨r,cd,nd,zd,ed,sd,dk,code,ak,hfr,hH,hrr,hX,hcl,gi⟩;rw[hfr];clear hfr;generalize iZ fr=ee;clear fr;refine qq<|qj fun K hK=>qg ?_;refine qe hK ?_
  by_cases hlt:r<rules.length
  ·obtain⟨q,hq⟩:∃q,rules[r]?=some q:=⟨rules[r]'hlt,ρ _⟩
   have x_:=hr q (Δ hq);have gB:=Rk hq
   have tI:rules.drop r=q::rules.drop (r+1):=by
    rw[Qz hlt]
    congr 1
    exact Option.some.inj ((ρ _).symm.trans hq)
   rw[tI,ς,fw] at hX;refine qq<|qD rfl (by simp;omega) ?_;refine Ξ<|qq<|ψ<|qq<|qj fun K hK=>qm ?_;refine qr fun Q_ zT=>?_;refine qR ?_;refine qm ?_;refine qm ?_;refine qe hK<|qq<|qq<|qj fun K hK=>qm ?_;refine qv (B7 x_) ?_;refine qg ?_;refine qe hK ?_
   cases zR:gV q.l with
   |false=>
    rw[if_pos zR] at hX;refine qB ?_;refine qq<|qj fun K hK=>QJ (d:=.agg [.nul,.nul]) (st1:=_) rfl rfl rfl (ae rfl _) ?_;refine qm ?_;refine qS hH fm fun st hH=>?_;dsimp only[u2,u1,u3,u4,setMany,u5,u6,ω,ι,aC,bH,aw,Da] at hH;refine qm ?_;refine qm ?_;refine qe hK ?_;rw[←hX];refine QU ⟨rx,_,hH.l9 rfl fm rfl rfl rfl,rl bt hH (hfz _ 1 r)⟩
   |true=>
    rw[if_neg (by rw[zR];simp)] at hX;obtain⟨tH,Nz⟩:=ve zR;have hqd:=x_.c.arg s0.bs.length S;have hqn:=x_.nl;have tA:=x_.c;refine qC ?_;refine Ξ<|qq<|qj fun K hK=>qm ?_;refine qm ?_;refine qm ?_;refine qm ?_;refine qm ?_;refine qn ?_;simp only[μ];refine aa.sB (s:=1) hH rfl rfl rfl rfl rfl rfl rfl rfl (τ rfl) (by omega) (fun _=>(ae rfl _)) (fun k33 st YF hH=>?_);refine qm ?_;refine qn ?_;simp only[μ];refine aa.sB (s:=1) hH rfl rfl rfl rfl rfl rfl rfl rfl (τ rfl) (by omega) (fun _=>(ae rfl _)) (fun k36 st U1 hH=>?_);refine qg ?_;refine qp (o:=1) ?_;refine qT hH gH fun st hH=>?_;dsimp only[u2,u1,u3,u4,setMany,u5,u6,ω,ι,aC,bH,aw,Da] at hH;refine qg ?_;refine qp (o:=2) ?_;refine qT hH gH fun st hH=>?_;dsimp only[u2,u1,u3,u4,setMany,u5,u6,ω,ι,aC,bH,aw,Da] at hH;refine qg ?_;refine qp (o:=3) ?_;refine qT hH gH fun st hH=>?_;dsimp only[u2,u1,u3,u4,setMany,u5,u6,ω,ι,aC,bH,aw,Da] at hH;refine qe hK ?_
    have hH:Has s0.bs.length S st (.aO (.win k33 0 0 q.l.length 1) 1 ((Qx q.l.length (0:Int)).map aw)::.aO (.win k36 0 0 q.l.length 1) 1 ((Qx q.l.length (0:Int)).map aw)::.aO sd 1 (ak.map aw)::.deep dk cd 4 (code.map aC)::.box k14 (.mem 0 false [cd,q.d,.win k33 0 0 q.l.length 1,.win k36 0 0 q.l.length 1])::.box k2 (.mem 0 false [.nul,.nul])::[]):=by
     rw[List.map_replicate];exact hH.front bh
    refine qq<|qj fun K hK=>qm ?_;refine qm ?_;refine qg ?_;refine qp (o:=2) ?_;refine ql hH gH ?_;obtain⟨_,st,aL,rfl,hH⟩:=DE x_.nl x_.i x_.c _ (dc q.l) (ξ _) tH (at_:=0) (by rw[Nz];exact gu.all _) (by simp) hH;refine qv aL ?_;refine qe hK ?_;rw[AX (by rw[Tr.jB,Nz];simp)] at hH;have hH:=hH.front bh;refine qq<|qj fun K hK=>qm ?_;refine qm ?_;refine qg ?_;refine qp (o:=3) ?_;refine ql hH gH ?_;obtain⟨_,st,aL,rfl,hH⟩:=M1 x_.nl x_.i x_.c _ (dc q.l) (ξ _) tH (at_:=0) (by rw[Nz];exact gu.all _) (by simp) hH;refine qv aL ?_;refine qe hK ?_;rw[AX (by rw[Tr.jK,Nz];simp)] at hH;have aaX:=eA (AH (gu.all (dc q.l).zs));refine qq<|qq<|qj fun K hK=>qm ?_;refine qg ?_;refine qp (o:=0) ?_;refine ql hH gH ?_;refine QN hH rfl (ev rfl) (by exact fm) rfl (ae rfl _) ?_;simp only[μ];refine qm ?_;refine qg ?_;refine qp (o:=2) ?_;refine ql hH gH ?_;refine qi hH bh fun Xp RM=>?_;refine qo hH bh ?_;refine QR (z:=((code.length+min (dc q.l).sz 401:Nat):Int)) rfl (ev rfl) (ev rfl) (by rw[wrap_i64 (by omega) (by omega)]<;>omega) (ae rfl _) ?_;refine QR (z:=((code.length+min (dc q.l).sz 401+3:Nat):Int)) rfl (ev rfl) (ev rfl) (by rw[wrap_i64 (by omega) (by omega)]<;>omega) (ae rfl _) ?_;refine qg ?_;refine qe hK ?_
    by_cases Sk:400<code.length+min (dc q.l).sz 401+3
    ·rw[if_pos Sk] at hX;have jm:decide (((code.length+min (dc q.l).sz 401+3:Nat):Int)>400)=true:=by rw[decide_eq_true_eq];omega
     refine qD rfl (by rw[jm]) ?_;refine qq<|qj fun K hK=>QJ (d:=.agg [.nul,.nul]) (st1:=_) rfl rfl rfl (ae rfl _) ?_;refine qm ?_;refine qS hH qG fun st hH=>?_;dsimp only[u2,u1,u3,u4,setMany,u5,u6,ω,ι,aC,bH,aw,Da] at hH;refine qm ?_;refine qm ?_;refine qe hK ?_;rw[←hX];refine QU ⟨rx,_,hH.l9 rfl qG rfl rfl rfl,rl bt hH (hfz _ 12 r)⟩
    ·rw[if_neg Sk] at hX;have jm:decide (((code.length+min (dc q.l).sz 401+3:Nat):Int)>400)=false:=by rw[decide_eq_false_iff_not];omega
     refine qE rfl (by rw[jm]) ?_;refine Ξ ?_;have hH:=hH.front bh;have hH:=hH.front fm;have hH:=hH.front gH;have hH:Has s0.bs.length S st (.box k14 (.mem 0 false [cd,q.d,.win k33 0 0 q.l.length 1,.win k36 0 0 q.l.length 1])::.deep dk cd 4 (code.map aC)::.aO (.win k33 0 0 q.l.length 1) 1 ((dc q.l).zs.map aw)::.aO (.win k36 0 0 q.l.length 1) 1 (((dc q.l).es 0).map aw)::.aO sd 1 (ak.map aw)::.box k2 (.mem 0 false [.nul,.nul])::[]):=hH;refine qq<|qj fun K hK=>qm ?_;refine qm ?_;refine QJ (d:=.agg [.int .i64 4,.int .i64 0,.int .i64 0,.nul]) (st1:=_) rfl rfl rfl (ae rfl _) ?_;have hH:=hH.ew 2;obtain⟨_,st,aL,rfl,cd,dk,hH⟩:=hY (rs:=[]) hF (by omega) hH;refine qv aL ?_;refine qh (s:=1) (vs:=[_]) hH fun k75 st abx hH=>?_;refine aa.bL (s:=1) hH rfl (ev rfl) (ev rfl) (by exact qG) (by exact hH.rows (by exact av)) rfl rfl rfl rfl rfl rfl rfl ⟨(τ rfl),(τ rfl)⟩ (fun _=>(ae rfl _)) (by simp only[ζ,Θ,μ]<;>omega) (by exact .inl hF) (fun x76 st hH=>?_);dsimp only[u2,u1,u3,u4,setMany,u5,u6,ω,ι,aC,bH,aw,Da] at hH;refine qm ?_;refine qe hK ?_;have hH:=hH.drop 1;have mW:(code++[dx 4 0 0 []]).length=code.length+1:=by simp
     refine qq<|qj fun K hK=>qm ?_;obtain⟨_,st,aL,rfl,cd,dk,hH⟩:=LW x_.nl x_.i _ (dc q.l) (ξ _) hF x_.c (at_:=0) (by rw[Nz];exact gu.all _) (gu.all _) (gu.all _) tH (by omega) ⟨cd,dk,hH⟩;refine qv aL ?_;refine qe hK ?_;rw[mW] at hH;have jJ:(code++[dx 4 0 0 []]++bc (dc q.l) (code.length+1)).length=code.length+1+(dc q.l).sz:=by rw[γ,mW,cS _ _ tH]
     refine qq<|qj fun K hK=>qm ?_;refine QJ (d:=.agg [.int .i64 4,.int .i64 1,.int .i64 0,.nul]) (st1:=_) rfl rfl rfl (ae rfl _) ?_;have hH:=hH.ew 2;obtain⟨_,st,aL,rfl,cd,dk,hH⟩:=hY (rs:=[]) hF (by omega) hH;refine qv aL ?_;refine qe hK ?_;have CG:(code++[dx 4 0 0 []]++bc (dc q.l) (code.length+1)++[dx 4 1 0 []]).length=code.length+1+(dc q.l).sz+1:=by rw[γ,jJ];rfl
     refine qj fun K hK=>qm ?_;refine qm ?_;refine QJ (d:=.agg [.int .i64 7,.int .i64 (r:Nat),.int .i64 0,.nul]) (st1:=_) rfl rfl rfl (ae rfl _) ?_;have hH:=hH.ew 2;obtain⟨_,st,aL,rfl,cd,dk,hH⟩:=hY (rs:=[]) hF (by omega) hH;refine qv aL ?_;refine qe hK ?_
     have X7:code++[dx 4 0 0 []]++bc (dc q.l) (code.length+1)++[dx 4 1 0 []]++[dx 7 (r:Nat) 0 []]=code++ft (dc q.l) code.length r:=by
      unfold ft;simp
     rw[X7] at hH;have hH:=(hH.erase 2).erase 2;have hH:=hH.front bh;have hH:=hH.front dF;refine qj fun K hK=>qA ?_;refine qm ?_;refine qe hK ?_;exact⟨mm-1,by omega,⟨r+1,cd,q.d,.win k33 0 0 q.l.length 1,.win k36 0 0 q.l.length 1,x76,dk,code++ft (dc q.l) code.length r,ak++[((code.length:Nat):Int)],rfl,(by rw[π (f:=aw)];exact hH),by omega,hX,by rw[γ,l8 tH];omega,by rw[γ];simp only[ζ,Θ];omega⟩⟩
  ·refine qq<|qE rfl (by simp;omega) ?_;refine Qw ?_;rw[List.drop_of_length_le (by omega),υ,pb] at hX;refine qq<|qj fun K hK=>qm ?_;refine qg ?_;refine qp (o:=0) ?_;refine ql hH dF ?_;refine qm ?_;refine aa.gK (qs:=[(0,_),(1,_)]) rfl rfl rfl rfl ⟨rfl,(ev rfl),(by exact hH.sZ (by exact bh)),rfl,(ev rfl),(by exact hH.eJ (by exact av)),trivial⟩ (by intro q hq;simp only[ε,η,or_false] at hq;rcases hq with rfl|rfl<;>exact⟨rfl,by exact τ rfl⟩) (by show QM _ [_,_] _=_;dsimp only[QG,QF,u2,u1]<;>rfl) (ae rfl _) ?_;refine qS hH fm fun st hH=>?_;dsimp only[u2,u1,u3,u4,setMany,u5,u6,ω,ι,aC,bH,aw,Da] at hH;refine qm ?_;refine qm ?_;refine qe hK ?_;rw[←hX];have h1:=hH.kb bh (n:=13) (by decide);have h2:=hH.ra av (iR _) (n:=14) (by decide)
   have h4:bn st s0.bs.length false 15 (.agg [cd,sd])=some (pH code ak).d:=by
    show(fN (bn st s0.bs.length false 14) [cd,sd]).map D.agg=_;simp only[fN,h1,h2,Option.map_some];rfl
   have h3:bn st s0.bs.length false 16 (tC [.agg [cd,sd],.int .i64 0,.int .i64 0])=some (pV ⟨code,ak,0,0⟩):=by
    show(fN (bn st s0.bs.length false 15) [.agg [cd,sd],.int .i64 0,.int .i64 0]).map D.tup=_;simp only[fN,h4];rfl
   exact QU ⟨rx,_,hH.l9 rfl fm rfl rfl rfl,rl bt hH h3⟩
theorem yF:∀(ls:List (List ej)) (r:Nat) (c:List aQ) (s:List Int),(∀l∈ls,∀n∈l,n.rs.length≤1048576)→(∀i∈c,kg i)→c.length≤400→s.length≤r→(∀i∈(fw ls r c s).code,kg i)∧(fw ls r c s).code.length≤400∧(fw ls r c s).ak.length≤r+ls.length
 |[],r,c,s,_,h1,h2,h3=>by rw[pb];exact⟨h1,h2,by simpa using h3⟩
 |l::ls,r,c,s,h0,h1,h2,h3=>by
  have MT:∀e w:Int,(∀i∈(tt.mk [] [] e w).code,kg i)∧(tt.mk [] [] e w).code.length≤400∧(tt.mk [] [] e w).ak.length≤r+(l::ls).length:=fun e w=>⟨fun i hi=>(by cases hi),by simp,by simp⟩
  rw[fw]
  split
  ·exact MT _ _
  ·rename_i hr;rw[QY] at hr
   split
   ·exact MT _ _
   ·rename_i hb;obtain⟨t1,t2⟩:=ve hr
    obtain⟨h4,h5,h6⟩:=yF ls (r+1) (c++ft (dc l) c.length r) (s++[((c.length:Nat):Int)]) (fun l' gP=>h0 l' (ν _ gP)) (fun i hi=>by
     rcases δ.1 hi with hi|hi
     ·exact h1 i hi
     ·exact Gq (by rw[t2];exact h0 l (κ ..)) i hi) (by rw[γ,l8 t1];omega) (by rw[γ];simp only[ζ,Θ];omega)
    exact⟨h4,h5,by simp only[ζ];omega⟩
theorem yE {ls:List (List ej)} (h:∀l∈ls,∀n∈l,n.rs.length≤1048576):(pH (bM ls).code (bM ls).ak).ok∧(bM ls).code.length≤400:=by
 unfold bM
 split
 ·exact⟨D5 (fun i hi=>(by cases hi)) (by simp) (by simp),by simp⟩
 ·obtain⟨h1,h2,h3⟩:=yF ls 0 [] [] h (fun i hi=>by cases hi) (by simp) (by simp);exact⟨D5 h1 (by omega) (by omega),h2⟩
def y6 (b:List UInt8):List D:=[.str b]
theorem Gj {l:List (List UInt8)} {i:Nat} {q:List UInt8} (h:l[i]?=some q):(l.map y6)[i]?=some (y6 q):=by rw[φ,h];rfl
theorem Rj (h:∀l∈parts,(∀n∈l,wL n)∧l.length≤500):∀r∈parts.map (fun l=>(⟨wE l,l⟩:Nl)),r.ok:=by
 intro r hr;obtain⟨l,hl,rfl⟩:=List.mem_map.1 hr;exact T3 (h l hl).1 (by have:=(h l hl).2;omega)
theorem El:(parts.map (fun l=>(⟨wE l,l⟩:Nl))).map Da=parts.map eP:=by
 rw[QD];rfl
theorem Ap {y:D} (h:∀l∈parts,(∀n∈l,wL n)∧l.length≤500) (hl:parts.length≤1048576) (hy:V.Rows s0 1 y (parts.map eP)):Ev pv 47 [y] s0 (pV (bM parts)) s0∧(pH (bM parts).code (bM parts).ak).ok∧(bM parts).code.length≤400:=by
 have h1:=Ao (s0:=s0) (x:=y) (rules:=parts.map (fun l=>(⟨wE l,l⟩:Nl))) (by rw[El];exact hy) (Rj h) (by rw[μ];exact hl);have h2:(parts.map (fun l=>(⟨wE l,l⟩:Nl))).map (·.l)=parts:=by rw[QD];exact List.map_id _
 rw[h2] at h1;exact⟨h1,yE fun l hl n hn=>((h l hl).1 n hn).2.1⟩
def A1 (n:Nat) (i:aQ):aQ:=if i.op=2 then⟨2,i.x+n,i.y+n,i.rd,i.rs⟩ else if i.op=3 then⟨3,i.x+n,i.y,i.rd,i.rs⟩ else i
theorem rq (n:Nat) (x y:Int) (rs:List Rg) (h2:op≠2) (h3:op≠3):A1 n (dx op x y rs)=dx op x y rs:=by
 unfold A1 dx;rw[if_neg h2,if_neg h3]
theorem za (n s o:Nat) (lz:Bool):A1 n (oC s o lz)=oC (s+n) (o+n) lz:=by
 cases lz
 ·show(⟨2,((s+1:Nat):Int)+n,(o:Int)+n,_,_⟩:aQ)=dx 2 ((s+n+1:Nat):Int) ((o+n:Nat):Int) [];unfold dx
  congr 1;omega
 ·show(⟨2,(o:Int)+n,((s+1:Nat):Int)+n,_,_⟩:aQ)=dx 2 ((o+n:Nat):Int) ((s+n+1:Nat):Int) [];unfold dx
  congr 1;omega
theorem DG (n e:Nat):A1 n (nO e)=nO (e+n):=by
 show(⟨3,(e:Int)+n,0,_,_⟩:aQ)=dx 3 ((e+n:Nat):Int) 0 [];unfold dx
 congr 1
theorem vl {c:Nat→List aQ} {z n:Nat} (hc:∀b,c (b+n)=(c b).map (A1 n)):∀k b,fX c z k (b+n)=(fX c z k b).map (A1 n)
 |0,b=>rfl
 |k+1,b=>by
  have h:=vl hc (z:=z) k (b+z);rw[Φ] at h;rw[fX,fX,π,hc,h]
theorem A8 {sp sp':Nat→aQ} {c:Nat→List aQ} {z n:Nat} (hs:∀s,sp' (s+n)=A1 n (sp s)) (hc:∀b,c (b+n)=(c b).map (A1 n)):∀k b,fM sp' c z k (b+n)=(fM sp c z k b).map (A1 n)
 |0,b=>rfl
 |k+1,b=>by
  have h:=A8 hs hc (z:=z) k (b+1+z);have e1:b+1+z+n=b+n+1+z:=by omega
  have e2:b+n+1=b+1+n:=by omega
  rw[e1] at h;rw[fM,fM,ς,π,hs,h,e2,hc]
theorem Gr {nd:ej} {c:Nat→List aQ} {z n b:Nat} (hc:∀b,c (b+n)=(c b).map (A1 n)):oH nd c z (b+n)=(oH nd c z b).map (A1 n):=by
 unfold oH
 split
 ·rw[π,vl hc,ς,π,za,ς,υ,DG];have e1:b+n+nd.mn.toNat*z=b+nd.mn.toNat*z+n:=by omega
  have e2:b+nd.mn.toNat*z+n+1=b+nd.mn.toNat*z+1+n:=by omega
  have e3:b+nd.mn.toNat*z+n+z+2=b+nd.mn.toNat*z+z+2+n:=by omega
  rw[e1,e2,e3,hc]
 ·rw[π,vl hc];have e1:b+n+nd.mn.toNat*z=b+nd.mn.toNat*z+n:=by omega
  rw[e1]
  congr 1
  refine A8 (fun s=>?_) hc _ _;rw[za]
  congr 1
  omega
mutual
theorem tb (n:Nat):∀(t:Tr) (b:Nat),bc t (b+n)=(bc t b).map (A1 n)
 | .mk nd ks,b=>by
  have hc:=fun b=>BE n ks b;have ha:=fun e b=>BN n e ks b;simp only[bc]
  split
  ·rw[ς,υ,rq _ _ _ _ (by decide) (by decide)]
  split
  ·rw[ς,υ,rq _ _ _ _ (by decide) (by decide)]
  split
  ·rw[ς,υ,rq _ _ _ _ (by decide) (by decide)]
  split
  ·exact hc b
  split
  ·rw[Φ];exact ha _ b
  split
  ·exact Gr hc
  split
  ·rw[ς,π,ς,υ,rq _ _ _ _ (by decide) (by decide),rq _ _ _ _ (by decide) (by decide),Φ,hc]
  ·rfl
theorem BE (n:Nat):∀(ts:bW) (b:Nat),gE ts (b+n)=(gE ts b).map (A1 n)
 | .nil,b=>by simp only[gE,υ]
 | .cons t ts,b=>by
  have h:=BE n ts (b+t.sz);rw[Φ] at h;simp only[gE,π];rw[tb n t b,h]
theorem BN (n:Nat):∀(e:Nat) (ts:bW) (b:Nat),fp (nO (e+n)) ts (b+n)=(fp (nO e) ts b).map (A1 n)
 |e,.nil,b=>by simp only[fp,υ]
 |e,.cons t ts,b=>by
  have h:=BN n e ts (b+t.sz+2);have h1:=tb n t (b+1);have e1:b+t.sz+2+n=b+n+t.sz+2:=by omega
  have e2:b+1+n=b+n+1:=by omega
  have e3:b+1+t.sz+1+n=b+n+1+t.sz+1:=by omega
  rw[e1] at h;rw[e2] at h1;simp only[fp]
  split
  ·exact tb n t b
  ·rw[ς,π,ς,za,DG,h1,h,e3]
end
def pw (lo hi:Nat) (i:aQ):Prop:=i.op≠7∧(i.op=2→((lo:Int)≤i.x∧i.x≤hi)∧(lo:Int)≤i.y∧i.y≤hi)∧(i.op=3→(lo:Int)≤i.x∧i.x≤hi)
theorem pw.mono (h:pw lo hi i) (h1:uA≤lo) (h2:hi≤i_):pw uA i_ i:=
 ⟨h.1,fun e=>by have:=h.2.1 e;omega,fun e=>by have:=h.2.2 e;omega⟩
theorem pw.mk (x y:Int) (rs:List Rg) (h2:op≠2) (h3:op≠3) (h7:op≠7):pw lo hi (dx op x y rs):=⟨h7,fun h=>absurd h h2,fun h=>absurd h h3⟩
theorem pw.sp (h1:lo≤s+1∧s+1≤hi) (h2:lo≤o∧o≤hi):pw lo hi (oC s o lz):=by
 cases lz
 ·exact⟨by show(2:Int)≠7;decide,fun _=>by show((lo:Int)≤((s+1:Nat):Int)∧((s+1:Nat):Int)≤hi)∧(lo:Int)≤(o:Int)∧(o:Int)≤hi;omega,fun h=>absurd h (by show¬(2:Int)=3;decide)⟩
 ·exact⟨by show(2:Int)≠7;decide,fun _=>by show((lo:Int)≤(o:Int)∧(o:Int)≤hi)∧(lo:Int)≤((s+1:Nat):Int)∧((s+1:Nat):Int)≤hi;omega,fun h=>absurd h (by show¬(2:Int)=3;decide)⟩
theorem pw.jp (h1:lo≤e∧e≤hi):pw lo hi (nO e):=
 ⟨by show(3:Int)≠7;decide,fun h=>absurd h (by show¬(3:Int)=2;decide),fun _=>by show(lo:Int)≤(e:Int)∧(e:Int)≤hi;omega⟩
theorem vm {c:Nat→List aQ} {z:Nat} (hc:∀b,∀i∈c b,pw b (b+z) i):∀k b,∀i∈fX c z k b,pw b (b+k*z) i
 |0,b,i,hi=>by cases hi
 |k+1,b,i,hi=>by
  simp only[fX] at hi;rw[χ]
  rcases δ.1 hi with hi|hi
  ·exact(hc b i hi).mono (ξ _) (by omega)
  ·exact(vm hc k _ i hi).mono (by omega) (by omega)
theorem A9 {sp:Nat→aQ} {c:Nat→List aQ} {z lo hi:Nat} (hs:∀s,lo≤s→s+1≤hi→pw lo hi (sp s)) (hc:∀b,∀i∈c b,pw b (b+z) i):∀k b,lo≤b→b+k*(z+1)≤hi→∀i∈fM sp c z k b,pw lo hi i
 |0,b,_,_,i,i_=>by cases i_
 |k+1,b,h1,h2,i,i_=>by
  simp only[fM] at i_;rw[χ] at h2
  rcases ε.1 i_ with rfl|i_
  ·exact hs b h1 (by omega)
  ·rcases δ.1 i_ with i_|i_
   ·exact(hc _ i i_).mono (by omega) (by omega)
   ·exact A9 hs hc k _ (by omega) (by omega) i i_
mutual
theorem te:∀(t:Tr) (b:Nat),t.ok→∀i∈bc t b,pw b (b+t.sz) i
 | .mk n ks,b,bA,i,hi=>by
  simp only[Tr.ok] at bA;have hc:=fun b=>BF ks b bA.2;obtain⟨_,hq⟩:=bA.1;simp only[bc] at hi;simp only[Tr.sz]
  by_cases q2:n.op=2
  ·rw[if_pos q2] at hi;simp only[ε,η,or_false] at hi;subst hi;exact pw.mk _ _ _ (by decide) (by decide) (by decide)
  rw[if_neg q2] at hi
  by_cases q7:n.op=7
  ·rw[if_pos q7] at hi;simp only[ε,η,or_false] at hi;subst hi;exact pw.mk _ _ _ (by decide) (by decide) (by decide)
  rw[if_neg q7] at hi
  by_cases q8:n.op=8
  ·rw[if_pos q8] at hi;simp only[ε,η,or_false] at hi;subst hi;exact pw.mk _ _ _ (by decide) (by decide) (by decide)
  rw[if_neg q8] at hi
  have hz:∀s k,bY n s k=if n.op=4 then s+2*(k-1) else if n.op=6 then s+2 else if n.op=5 then(if n.mx=-1 then n.mn.toNat*s+s+2 else n.mn.toNat*s+(n.mx.toNat-n.mn.toNat)*(s+1)) else s:=by
   intro s k;unfold bY;rw[if_neg (by omega)]
  by_cases q3:n.op=3
  ·rw[if_pos q3] at hi;rw[hz,if_neg (by omega),if_neg (by omega),if_neg (by omega)];exact hc b i hi
  rw[if_neg q3] at hi
  by_cases q4:n.op=4
  ·rw[if_pos q4] at hi;have Ui:bY n ks.sz ks.len=ks.sz+2*(ks.len-1):=by rw[hz,if_pos q4]
   rw[Ui] at hi⊢;exact BO ks b (b+(ks.sz+2*(ks.len-1))) bA.2 (ξ _) i hi
  rw[if_neg q4] at hi
  by_cases q5:n.op=5
  ·rw[if_pos q5] at hi;rw[hz,if_neg q4,if_neg (by omega),if_pos q5];unfold oH at hi
   by_cases qm:n.mx=-1
   ·rw[if_pos qm] at hi⊢
    rcases δ.1 hi with hi|hi
    ·exact(vm hc _ _ i hi).mono (ξ _) (by omega)
    ·rcases ε.1 hi with rfl|hi
     ·exact pw.sp (by omega) (by omega)
     ·rcases δ.1 hi with hi|hi
      ·exact(hc _ i hi).mono (by omega) (by omega)
      ·simp only[ε,η,or_false] at hi;subst hi;exact pw.jp (by omega)
   ·rw[if_neg qm] at hi⊢
    rcases δ.1 hi with hi|hi
    ·exact(vm hc _ _ i hi).mono (ξ _) (by omega)
    ·exact A9 (fun s h1 h2=>pw.sp (by omega) (by omega)) hc _ _ (by omega) (by omega) i hi
  rw[if_neg q5] at hi
  by_cases q6:n.op=6
  ·rw[if_pos q6] at hi;rw[hz,if_neg q4,if_pos q6]
   rcases ε.1 hi with rfl|hi
   ·exact pw.mk _ _ _ (by decide) (by decide) (by decide)
   ·rcases δ.1 hi with hi|hi
    ·exact(hc _ i hi).mono (by omega) (by omega)
    ·simp only[ε,η,or_false] at hi;subst hi;exact pw.mk _ _ _ (by decide) (by decide) (by decide)
  ·rw[if_neg q6] at hi;cases hi
theorem BF:∀(ts:bW) (b:Nat),ts.ok→∀i∈gE ts b,pw b (b+ts.sz) i
 | .nil,b,_,i,hi=>by simp[gE] at hi
 | .cons t ts,b,bA,i,hi=>by
  simp only[bW.ok] at bA;simp only[gE] at hi;simp only[bW.sz]
  rcases δ.1 hi with hi|hi
  ·exact(te t b bA.1 i hi).mono (ξ _) (by omega)
  ·exact(BF ts _ bA.2 i hi).mono (by omega) (by omega)
theorem BO:∀(ts:bW) (b e:Nat),ts.ok→b+(ts.sz+2*(ts.len-1))≤e→∀i∈fp (nO e) ts b,pw b e i
 | .nil,b,e,_,_,i,hi=>by simp[fp] at hi
 | .cons t ts,b,e,bA,he,i,hi=>by
  simp only[bW.ok] at bA;simp only[fp] at hi;simp only[bW.sz,bW.len] at he
  by_cases q:ts.len=0
  ·rw[if_pos q] at hi;exact(te t b bA.1 i hi).mono (ξ _) (by omega)
  ·rw[if_neg q] at hi
   rcases ε.1 hi with rfl|hi
   ·exact pw.sp (by omega) (by omega)
   ·rcases δ.1 hi with hi|hi
    ·exact(te t _ bA.1 i hi).mono (by omega) (by omega)
    ·rcases ε.1 hi with rfl|hi
     ·exact pw.jp (by omega)
     ·exact(BO ts _ e bA.2 (by omega) i hi).mono (by omega) (by omega)
end
theorem Aq (r:Nat) (c:List aQ) (s:List Int):fw [] r c s=⟨c,s,0,0⟩:=by simp only[fw]
theorem yB (h:(code.map eQ)[pc]?=some i):∃q,code[pc]?=some q∧i=eQ q:=by
 rw[φ] at h;obtain⟨q,hq,rfl⟩:=Option.map_eq_some_iff.1 h;exact⟨q,hq,rfl⟩
theorem get_copy (h:code[pc]?=some i):(code.map eQ)[pc]?=some (eQ i):=by
 rw[φ,h];rfl
theorem yA (code:List aQ):∀(f:Nat) (seen:List Bool) (fq:List Int),wK (code.map eQ) f seen fq=wK code f seen fq
 |0,_,_=>rfl
 |_+1,_,[]=>rfl
 |f+1,seen,v::fq=>by
  have ih:=yA code f;unfold wK;rw[φ]
  cases h1:seen[v.toNat]? with
  |none=>exact ih _ _
  |some b=>
   cases b with
   |true=>exact ih _ _
   |false=>
    cases h2:code[v.toNat]? with
    |none=>rfl
    |some i=>exact ih _ _
theorem rH (code:List aQ) (s:Int):bF (code.map eQ) s=bF code s:=by
 unfold bF;rw[μ,yA]
theorem zg {p q:Pg} (h1:q.code=p.code.map eQ) (h2:q.ak=p.ak):bE q↔bE p:=by
 have hl:q.code.length=p.code.length:=by rw[h1];simp
 constructor
 ·intro h;refine⟨by rw[←hl];exact h.cl,by rw[←h2];exact h.sl,fun pc i hi=>?_,fun v hv=>?_,fun r s hs pc i yW yV hi gv=>?_⟩
  ·have:=h.sh pc (eQ i) (by rw[h1];exact get_copy hi);rw[hl,h2] at this;exact this
  ·have:=h.st v (by rw[h2];exact hv);rw[hl] at this;exact this
  ·exact h.fo r s (by rw[h2];exact hs) pc (eQ i) (by rw[hl];exact yW) (by rw[h1,rH];exact yV) (by rw[h1];exact get_copy hi) gv
 ·intro h;refine⟨by rw[hl];exact h.cl,by rw[h2];exact h.sl,fun pc i hi=>?_,fun v hv=>?_,fun r s hs pc i yW yV hi gv=>?_⟩
  ·rw[h1] at hi;obtain⟨j,hj,rfl⟩:=yB hi;rw[hl,h2];exact h.sh pc j hj
  ·rw[hl];exact h.st v (by rw[←h2];exact hv)
  ·rw[h1] at hi yV;rw[rH] at yV;obtain⟨j,hj,rfl⟩:=yB hi;exact h.fo r s (by rw[←h2];exact hs) pc j (by rw[←hl];exact yW) yV hj gv
def jF (seen:List Bool) (v:Int):Prop:=0≤v∧seen[v.toNat]?=some true
structure AG (code:List aQ) (start:Int) (seen:List Bool) (fq:List Int):Prop where
 a:∀u i,seen[u]?=some true→code[u]?=some i→∀w∈cj u i,jF seen w∨w∈fq
 b:∀v∈fq,v=start∨∃u i,seen[u]?=some true∧code[u]?=some i∧v∈cj u i
 c:∀v,jF seen v→v=start∨∃u i,seen[u]?=some true∧code[u]?=some i∧v∈cj u i∧v≠(u:Int)
 d:jF seen start∨start∈fq
theorem fJ (hk:k<seen.length) {v:Int}:jF (seen.set k true) v↔v=(k:Int)∨jF seen v:=by
 unfold jF;constructor
 ·rintro⟨h0,h⟩
  by_cases hv:v.toNat=k
  ·left;omega
  ·rw[Γ (fun e=>hv e.symm)] at h;exact .inr ⟨h0,h⟩
 ·rintro(rfl|⟨h0,h⟩)
  ·exact⟨by omega,by rw[Qq,QX hk]⟩
  ·refine⟨h0,?_⟩
   by_cases hv:v.toNat=k
   ·rw[hv,QX hk]
   ·rw[Γ (fun e=>hv e.symm)];exact h
theorem dY:seen[u]?=some true↔jF seen (u:Int):=by
 unfold jF;rw[Qq];exact⟨fun h=>⟨by omega,h⟩,fun h=>h.2⟩
theorem Aj {code:List aQ} {start:Int} (hcl:iM code):∀(f:Nat) (seen:List Bool) (fq:List Int),seen.length=code.length→(∀v∈fq,0≤v∧v<(code.length:Int))→3*seen.count false+fq.length≤f→AG code start seen fq→AG code start (wK code f seen fq) []
 |0,seen,fq,_,_,hm,hi=>by
  have:fq=[]:=by cases fq with|nil=>rfl|cons _ _=>simp at hm
  subst this;exact hi
 |f+1,seen,[],_,_,_,hi=>hi
 |f+1,seen,v::fq,hl,hs,hm,hi=>by
  have hv:=hs v (κ ..);have mh:∀w∈fq,0≤w∧w<(code.length:Int):=fun w hw=>hs w (ν _ hw);obtain⟨k,rfl⟩:=QQ hv.1;have hk:k<code.length:=by omega
  obtain⟨i,hci⟩:∃i,code[k]?=some i:=⟨code[k]'hk,ρ _⟩
  obtain⟨b,hb⟩:∃b,seen[k]?=some b:=⟨seen[k]'(by omega),ρ _⟩
  simp only[ζ] at hm;have hp:∀w,w∈((k:Int)::fq)→w=(k:Int)∨w∈fq:=fun w hw=>ε.1 hw;unfold wK;simp only[Qq,hb,hci]
  cases b with
  |true=>
   have lj:jF seen (k:Int):=dY.1 hb;refine Aj hcl f seen fq hl mh (by omega) ⟨fun u j hu hj w hw=>?_,fun w hw=>hi.b w (ν _ hw),hi.c,?_⟩
   ·rcases hi.a u j hu hj w hw with h|h
    ·exact .inl h
    ·rcases hp w h with rfl|h
     ·exact .inl lj
     ·exact .inr h
   ·rcases hi.d with h|h
    ·exact .inl h
    ·rcases hp start h with h|h
     ·exact .inl (h▸lj)
     ·exact .inr h
  |false=>
   have wc:=count_set hb;have iL:k<seen.length:=by omega
   have Dg:=rR k i;refine Aj hcl f _ _ (by rw[QH];exact hl) (fun w hw=>?_) (by simp only[γ,List.length_reverse];omega) ⟨fun u j hu hj w hw=>?_,fun w hw=>?_,fun w hw=>?_,?_⟩
   ·rcases δ.1 hw with hw|hw
    ·exact hcl k i hci w (Ω.1 hw)
    ·exact mh w hw
   ·rcases(fJ iL).1 (dY.1 hu) with h|h
    ·have:u=k:=by omega
     subst this;rw[hci] at hj;cases hj;exact .inr (δ.2 (.inl (Ω.2 hw)))
    ·rcases hi.a u j (dY.2 h) hj w hw with h|h
     ·exact .inl ((fJ iL).2 (.inr h))
     ·rcases hp w h with h|h
      ·exact .inl ((fJ iL).2 (.inl h))
      ·exact .inr (δ.2 (.inr h))
   ·rcases δ.1 hw with hw|hw
    ·exact .inr ⟨k,i,dY.2 ((fJ iL).2 (.inl rfl)),hci,Ω.1 hw⟩
    ·rcases hi.b w (ν _ hw) with h|⟨u,j,h1,h2,h3⟩
     ·exact .inl h
     ·exact .inr ⟨u,j,dY.2 ((fJ iL).2 (.inr (dY.1 h1))),h2,h3⟩
   ·rcases(fJ iL).1 hw with rfl|h
    ·rcases hi.b (k:Int) (κ ..) with h|⟨u,j,h1,h2,h3⟩
     ·exact .inl h
     ·refine .inr ⟨u,j,dY.2 ((fJ iL).2 (.inr (dY.1 h1))),h2,h3,fun e=>?_⟩;have:k=u:=by omega
      subst this;rw[hb] at h1;cases h1
    ·rcases hi.c w h with h|⟨u,j,h1,h2,h3,h4⟩
     ·exact .inl h
     ·exact .inr ⟨u,j,dY.2 ((fJ iL).2 (.inr (dY.1 h1))),h2,h3,h4⟩
   ·rcases hi.d with h|h
    ·exact .inl ((fJ iL).2 (.inr h))
    ·rcases hp start h with h|h
     ·exact .inl ((fJ iL).2 (.inl h))
     ·exact .inr (δ.2 (.inr h))
theorem xm (hcl:iM code) (gi:0≤start∧start<(code.length:Int)):AG code start (bF code start) []:=by
 have kh:∀v,¬jF (Qx code.length false) v:=by
  rintro v ⟨h0,h⟩;rw[List.getElem?_replicate] at h
  split at h<;>cases h
 refine Aj hcl _ _ _ (by simp) (fun v hv=>?_) (by simp) ⟨fun u i hu=>absurd (dY.1 hu) (kh _),fun v hv=>?_,fun v hv=>absurd hv (kh v),.inr (by simp)⟩
 ·simp only[ε,η,or_false] at hv;subst hv;exact gi
 ·simp only[ε,η,or_false] at hv;exact .inl hv
theorem jZ:∀{L:List Bool} {s:Nat} {v:Int},v∈rP s L↔∃k:Nat,L[k]?=some true∧v=((s+k:Nat):Int)
 |[],s,v=>⟨fun h=>(by cases h),fun⟨k,h,_⟩=>by simp at h⟩
 |b::l,s,v=>by
  simp only[rP,δ];constructor
  ·rintro(h|h)
   ·split at h
    ·rename_i hb;simp only[ε,η,or_false] at h;exact⟨0,by simp[hb],by rw[h];simp⟩
    ·cases h
   ·obtain⟨k,h1,h2⟩:=jZ.1 h;exact⟨k+1,by simpa using h1,by rw[h2];congr 1;omega⟩
  ·rintro⟨k,h1,h2⟩
   cases k with
   |zero=>simp at h1;subst h1;left;simp[h2]
   |succ k=>exact .inr (jZ.2 ⟨k,by simpa using h1,by rw[h2];congr 1;omega⟩)
theorem uf : ∀ (L : List Bool) (s : Nat), (rP s L).Pairwise (· < ·)
 | [], s => .nil
 | b :: l, s => by
  simp only [rP];have ih := uf l (s + 1)
  split
  ·rw [List.singleton_append, List.pairwise_cons];refine ⟨fun v hv => ?_, ih⟩;obtain ⟨k, _, rfl⟩ := jZ.1 hv;omega
  ·exact ih
def dL (lo hi:Nat) (i:aQ):Prop:=
 (i.op=1∧i.x=0∧i.y=0∧eI i.rs=true)∨(i.op=2∧i.rs=[]∧((lo:Int)≤i.x∧i.x≤hi)∧(lo:Int)≤i.y∧i.y≤hi)∨(i.op=3∧i.rs=[]∧i.y=0∧(lo:Int)≤i.x∧i.x≤hi)∨(i.op=4∧i.rs=[]∧i.y=0∧0≤i.x∧i.x<10)∨((i.op=5∨i.op=6)∧i.rs=[]∧i.y=0∧i.x=0)
theorem dL.mono (h:dL lo hi i) (h1:uA≤lo) (h2:hi≤i_):dL uA i_ i:=by
 rcases h with h|⟨a,b,c,d⟩|⟨a,b,c,d⟩|h|h
 ·exact .inl h
 ·exact .inr (.inl ⟨a,b,by omega,by omega⟩)
 ·exact .inr (.inr (.inl ⟨a,b,c,by omega⟩))
 ·exact .inr (.inr (.inr (.inl h)))
 ·exact .inr (.inr (.inr (.inr h)))
theorem dL.sp (h1:lo≤s+1∧s+1≤hi) (h2:lo≤o∧o≤hi):dL lo hi (oC s o lz):=by
 refine .inr (.inl ?_);cases lz
 ·refine⟨rfl,rfl,?_⟩;show((lo:Int)≤((s+1:Nat):Int)∧((s+1:Nat):Int)≤hi)∧(lo:Int)≤(o:Int)∧(o:Int)≤hi;omega
 ·refine⟨rfl,rfl,?_⟩;show((lo:Int)≤(o:Int)∧(o:Int)≤hi)∧(lo:Int)≤((s+1:Nat):Int)∧((s+1:Nat):Int)≤hi;omega
theorem dL.jp (h1:lo≤e∧e≤hi):dL lo hi (nO e):=by
 refine .inr (.inr (.inl ⟨rfl,rfl,rfl,?_⟩));show(lo:Int)≤(e:Int)∧(e:Int)≤hi;omega
theorem dL.save {x:Int} (h:0≤x∧x<10):dL lo hi (dx 4 x 0 []):=.inr (.inr (.inr (.inl ⟨rfl,rfl,rfl,h⟩)))
theorem oJ {c:Nat→List aQ} {z:Nat} (hc:∀b,∀i∈c b,dL b (b+z) i):∀k b,∀i∈fX c z k b,dL b (b+k*z) i
 |0,b,i,hi=>by cases hi
 |k+1,b,i,hi=>by
  simp only[fX] at hi;rw[χ]
  rcases δ.1 hi with hi|hi
  ·exact(hc b i hi).mono (ξ _) (by omega)
  ·exact(oJ hc k _ i hi).mono (by omega) (by omega)
theorem ud {sp:Nat→aQ} {c:Nat→List aQ} {z lo hi:Nat} (hs:∀s,lo≤s→s+1≤hi→dL lo hi (sp s)) (hc:∀b,∀i∈c b,dL b (b+z) i):∀k b,lo≤b→b+k*(z+1)≤hi→∀i∈fM sp c z k b,dL lo hi i
 |0,b,_,_,i,i_=>by cases i_
 |k+1,b,h1,h2,i,i_=>by
  simp only[fM] at i_;rw[χ] at h2
  rcases ε.1 i_ with rfl|i_
  ·exact hs b h1 (by omega)
  ·rcases δ.1 i_ with i_|i_
   ·exact(hc _ i i_).mono (by omega) (by omega)
   ·exact ud hs hc k _ (by omega) (by omega) i i_
def FY (l:List ej):Prop:=∀n∈l,n.op=2→eI n.rs=true
mutual
theorem kO:∀(t:Tr) (b:Nat),t.ok→FY t.flat→∀i∈bc t b,dL b (b+t.sz) i
 | .mk n ks,b,bA,kV,i,hi=>by
  simp only[Tr.ok] at bA;simp only[Tr.flat] at kV;have hc:=fun b=>uZ ks b bA.2 (fun n hn=>kV n (ν _ hn));obtain⟨_,hq⟩:=bA.1;simp only[bc] at hi;simp only[Tr.sz]
  by_cases q2:n.op=2
  ·rw[if_pos q2] at hi;simp only[ε,η,or_false] at hi;subst hi;exact .inl ⟨rfl,rfl,rfl,kV n (κ ..) q2⟩
  rw[if_neg q2] at hi
  by_cases q7:n.op=7
  ·rw[if_pos q7] at hi;simp only[ε,η,or_false] at hi;subst hi;exact .inr (.inr (.inr (.inr ⟨.inl rfl,rfl,rfl,rfl⟩)))
  rw[if_neg q7] at hi
  by_cases q8:n.op=8
  ·rw[if_pos q8] at hi;simp only[ε,η,or_false] at hi;subst hi;exact .inr (.inr (.inr (.inr ⟨.inr rfl,rfl,rfl,rfl⟩)))
  rw[if_neg q8] at hi
  have hz:∀s k,bY n s k=if n.op=4 then s+2*(k-1) else if n.op=6 then s+2 else if n.op=5 then(if n.mx=-1 then n.mn.toNat*s+s+2 else n.mn.toNat*s+(n.mx.toNat-n.mn.toNat)*(s+1)) else s:=by
   intro s k;unfold bY;rw[if_neg (by omega)]
  by_cases q3:n.op=3
  ·rw[if_pos q3] at hi;rw[hz,if_neg (by omega),if_neg (by omega),if_neg (by omega)];exact hc b i hi
  rw[if_neg q3] at hi
  by_cases q4:n.op=4
  ·rw[if_pos q4] at hi;have Ui:bY n ks.sz ks.len=ks.sz+2*(ks.len-1):=by rw[hz,if_pos q4]
   rw[Ui] at hi⊢;exact va ks b (b+(ks.sz+2*(ks.len-1))) bA.2 (fun n hn=>kV n (ν _ hn)) (ξ _) i hi
  rw[if_neg q4] at hi
  by_cases q5:n.op=5
  ·rw[if_pos q5] at hi;rw[hz,if_neg q4,if_neg (by omega),if_pos q5];unfold oH at hi
   by_cases qx:n.mx=-1
   ·rw[if_pos qx] at hi⊢
    rcases δ.1 hi with hi|hi
    ·exact(oJ hc _ _ i hi).mono (ξ _) (by omega)
    ·rcases ε.1 hi with rfl|hi
     ·exact dL.sp (by omega) (by omega)
     ·rcases δ.1 hi with hi|hi
      ·exact(hc _ i hi).mono (by omega) (by omega)
      ·simp only[ε,η,or_false] at hi;subst hi;exact dL.jp (by omega)
   ·rw[if_neg qx] at hi⊢
    rcases δ.1 hi with hi|hi
    ·exact(oJ hc _ _ i hi).mono (ξ _) (by omega)
    ·exact ud (fun s h1 h2=>dL.sp (by omega) (by omega)) hc _ _ (by omega) (by omega) i hi
  rw[if_neg q5] at hi
  by_cases q6:n.op=6
  ·rw[if_pos q6] at hi;rw[hz,if_neg q4,if_pos q6]
   rcases ε.1 hi with rfl|hi
   ·exact dL.save (by omega)
   ·rcases δ.1 hi with hi|hi
    ·exact(hc _ i hi).mono (by omega) (by omega)
    ·simp only[ε,η,or_false] at hi;subst hi;exact dL.save (by omega)
  ·rw[if_neg q6] at hi;cases hi
theorem uZ:∀(ts:bW) (b:Nat),ts.ok→FY ts.flat→∀i∈gE ts b,dL b (b+ts.sz) i
 | .nil,b,_,_,i,hi=>by simp[gE] at hi
 | .cons t ts,b,bA,kV,i,hi=>by
  simp only[bW.ok] at bA;simp only[bW.flat] at kV;simp only[gE] at hi;simp only[bW.sz]
  rcases δ.1 hi with hi|hi
  ·exact(kO t b bA.1 (fun n hn=>kV n (Qy _ hn)) i hi).mono (ξ _) (by omega)
  ·exact(uZ ts _ bA.2 (fun n hn=>kV n (Qv _ hn)) i hi).mono (by omega) (by omega)
theorem va:∀(ts:bW) (b e:Nat),ts.ok→FY ts.flat→b+(ts.sz+2*(ts.len-1))≤e→∀i∈fp (nO e) ts b,dL b e i
 | .nil,b,e,_,_,_,i,hi=>by simp[fp] at hi
 | .cons t ts,b,e,bA,kV,he,i,hi=>by
  simp only[bW.ok] at bA;simp only[bW.flat] at kV;simp only[fp] at hi;simp only[bW.sz,bW.len] at he;have h1:FY t.flat:=fun n hn=>kV n (Qy _ hn);have h2:FY ts.flat:=fun n hn=>kV n (Qv _ hn)
  by_cases q:ts.len=0
  ·rw[if_pos q] at hi;exact(kO t b bA.1 h1 i hi).mono (ξ _) (by omega)
  ·rw[if_neg q] at hi
   rcases ε.1 hi with rfl|hi
   ·exact dL.sp (by omega) (by omega)
   ·rcases δ.1 hi with hi|hi
    ·exact(kO t _ bA.1 h1 i hi).mono (by omega) (by omega)
    ·rcases ε.1 hi with rfl|hi
     ·exact dL.jp (by omega)
     ·exact(va ts _ e bA.2 h2 (by omega) i hi).mono (by omega) (by omega)
end
inductive Path (C:List aQ):Nat→Nat→Prop where
 |refl (u:Nat):Path C u u
 |step {u v w:Nat} {i:aQ} (h:C[u]?=some i) (hn:(v:Int)∈cj u i) (p:Path C v w):Path C u w
theorem Path.trans {w:Nat} (h:Path C u v) (g:Path C v w):Path C u w:=by
 induction h with
 |refl=>exact g
 |step h hn _ ih=>exact .step h hn (ih g)
theorem Path.Af (h:C[u]?=some i) (ho:i.op≠2∧i.op≠3∧i.op≠7):Path C u (u+1):=
 .step h (by unfold cj;rw[if_neg ho.1,if_neg ho.2.1,if_neg ho.2.2];exact κ ..) (.refl _)
theorem Path.jp (h:C[u]?=some (nO e)):Path C u e:=
 .step h (by show(e:Int)∈cj u (dx 3 (e:Nat) 0 []);unfold cj;rw[if_neg (show¬(dx 3 (e:Nat) 0 []).op=2 by show¬(3:Int)=2;decide),if_pos (show(dx 3 (e:Nat) 0 []).op=3 from rfl)];exact κ ..) (.refl _)
theorem Path.sp (h:C[u]?=some (oC s o lz)):Path C u (s+1)∧Path C u o:=by
 have hn:cj u (oC s o lz)=[(oC s o lz).x,(oC s o lz).y]:=by
  unfold cj;rw[if_pos (by cases lz<;>rfl)]
 cases lz
 ·exact⟨.step h (by rw[hn];exact κ ..) (.refl _),.step h (by rw[hn];exact ν _ (κ ..)) (.refl _)⟩
 ·exact⟨.step h (by rw[hn];exact ν _ (κ ..)) (.refl _),.step h (by rw[hn];exact κ ..) (.refl _)⟩
theorem oI {C:List aQ} {c:Nat→List aQ} {z:Nat} (hl:∀b,(c b).length=z) (hc:∀b,gu C b (c b)→Path C b (b+z)):∀k b,gu C b (fX c z k b)→Path C b (b+k*z)
 |0,b,_=>by rw[QL];exact .refl _
 |k+1,b,h=>by
  rw[fX] at h;have h2:=h.right;rw[hl] at h2;have:=oI hl hc k (b+z) h2;rw[χ,show b+(k*z+z)=b+z+k*z by omega];exact(hc b h.left).trans this
theorem CY: ∀ (m : Nat) (t : Tr), t.flat.length ≤ m → ∀ b : Nat, t.ok → gu C b (bc t b) → Path C b (b + t.sz) := by
  intro m
  induction m with
  | zero => intro t h; have := t.jb; omega
  | succ m ih =>
    rintro ⟨n, ks⟩ hm b bA h
    simp only [Tr.flat, ζ] at hm
    simp only [Tr.ok] at bA
    have hcat : ∀ (ts : bW) (b : Nat), ts.flat.length ≤ m → ts.ok → gu C b (gE ts b) → Path C b (b + ts.sz) := by
      intro ts
      induction ts using bW.rec (motive_1 := fun _ => True) with
      | mk => trivial
      | nil => intro b _ _ _; exact .refl _
      | cons t ts _ Bk =>
        intro b h1 h2 h3
        simp only [bW.flat, γ] at h1
        simp only [bW.ok] at h2
        simp only [gE] at h3
        have h4 := h3.right
        rw [cS t b h2.1] at h4
        have h5 := Bk (b + t.sz) (by omega) h2.2 h4
        simp only [bW.sz]
        rw [← QC]
        exact (ih t (by omega) b h2.1 h3.left).trans h5
    obtain ⟨kh, lj⟩ := bA
    obtain ⟨_, hq⟩ := kh
    have iL := fun b => oe ks b lj
    simp only [bc] at h
    simp only [Tr.sz]
    have hz : ∀ s k, bY n s k = if n.op = 2 ∨ n.op = 7 ∨ n.op = 8 then 1 else if n.op = 4 then s + 2 * (k - 1) else if n.op = 6 then s + 2 else if n.op = 5 then (if n.mx = -1 then n.mn.toNat * s + s + 2 else n.mn.toNat * s + (n.mx.toNat - n.mn.toNat) * (s + 1)) else s := fun s k => rfl
    rw [hz]
    by_cases q2 : n.op = 2
    · rw [if_pos q2] at h
      rw [if_pos (.inl q2)]
      exact Path.Af h.head (by show (1 : Int) ≠ 2 ∧ (1 : Int) ≠ 3 ∧ (1 : Int) ≠ 7; decide)
    rw [if_neg q2] at h
    by_cases q7 : n.op = 7
    · rw [if_pos q7] at h
      rw [if_pos (.inr (.inl q7))]
      exact Path.Af h.head (by show (5 : Int) ≠ 2 ∧ (5 : Int) ≠ 3 ∧ (5 : Int) ≠ 7; decide)
    rw [if_neg q7] at h
    by_cases q8 : n.op = 8
    · rw [if_pos q8] at h
      rw [if_pos (.inr (.inr q8))]
      exact Path.Af h.head (by show (6 : Int) ≠ 2 ∧ (6 : Int) ≠ 3 ∧ (6 : Int) ≠ 7; decide)
    rw [if_neg q8] at h
    rw [if_neg (by omega)]
    by_cases q3 : n.op = 3
    · rw [if_pos q3] at h
      rw [if_neg (by omega), if_neg (by omega), if_neg (by omega)]
      exact hcat ks b (by omega) lj h
    rw [if_neg q3] at h
    by_cases q4 : n.op = 4
    · rw [if_pos q4] at h
      have Ui : bY n ks.sz ks.len = ks.sz + 2 * (ks.len - 1) := by rw [hz, if_neg (by omega), if_pos q4]
      rw [Ui] at h
      rw [if_pos q4]
      cases ks with
      | nil => simp only [bW.len] at hq; omega
      | cons t ts =>
        simp only [bW.len] at hq
        simp only [bW.flat, γ] at hm
        simp only [bW.ok] at lj
        simp only [fp] at h
        rw [if_neg (by omega)] at h
        have h1 := (Path.sp h.head).1
        have h2 := ih t (by omega) (b + 1) lj.1 h.tail.left
        have h3 := h.tail.right
        rw [cS t _ lj.1] at h3
        exact h1.trans (h2.trans (Path.jp h3.head))
    rw [if_neg q4] at h
    rw [if_neg q4]
    by_cases q5 : n.op = 5
    · rw [if_pos q5] at h
      rw [if_neg (by omega), if_pos q5]
      unfold oH at h
      by_cases qx : n.mx = -1
      · rw [if_pos qx] at h ⊢
        have h1 := oI iL (fun b hb => hcat ks b (by omega) lj hb) _ _ h.left
        have h2 := h.right
        rw [jW iL] at h2
        have h3 := (Path.sp h2.head).2
        rw [show b + (n.mn.toNat * ks.sz + ks.sz + 2) = b + n.mn.toNat * ks.sz + ks.sz + 2 by omega]
        exact h1.trans h3
      · rw [if_neg qx] at h ⊢
        have h1 := oI iL (fun b hb => hcat ks b (by omega) lj hb) _ _ h.left
        have h2 := h.right
        rw [jW iL] at h2
        by_cases hd : n.mx.toNat - n.mn.toNat = 0
        · rw [hd, QL, QP]; exact h1
        · obtain ⟨d, yY⟩ : ∃ d, n.mx.toNat - n.mn.toNat = d + 1 := ⟨n.mx.toNat - n.mn.toNat - 1, by omega⟩
          rw [yY] at h2 ⊢
          rw [fM] at h2
          have h3 := (Path.sp h2.head).2
          rw [← QC]
          exact h1.trans h3
    rw [if_neg q5] at h
    by_cases q6 : n.op = 6
    · rw [if_pos q6] at h
      rw [if_pos q6]
      have h1 : Path C b (b + 1) := Path.Af h.head (by show (4 : Int) ≠ 2 ∧ (4 : Int) ≠ 3 ∧ (4 : Int) ≠ 7; decide)
      have h2 := hcat ks (b + 1) (by omega) lj h.tail.left
      have h3 := h.tail.right
      rw [iL] at h3
      have h4 : Path C (b + 1 + ks.sz) (b + 1 + ks.sz + 1) := Path.Af h3.head (by show (4 : Int) ≠ 2 ∧ (4 : Int) ≠ 3 ∧ (4 : Int) ≠ 7; decide)
      rw [show b + (ks.sz + 2) = b + 1 + ks.sz + 1 by omega]
      exact h1.trans (h2.trans h4)
    · have yi : ks.len = 0 := by omega
      have := bW.len_nil yi
      subst this
      rw [if_neg q6, if_neg q5]
      exact .refl _
theorem Ak {code:List aQ} {I:Nat→Prop} (hI:∀u i,I u→code[u]?=some i→∀v∈cj u i,I v.toNat):∀(f:Nat) (seen:List Bool) (fq:List Int),(∀v∈fq,I v.toNat)→(∀u:Nat,seen[u]?=some true→I u)→∀u:Nat,(wK code f seen fq)[u]?=some true→I u
 |0,seen,fq,_,h2,u,h=>h2 u h
 |f+1,seen,[],_,h2,u,h=>h2 u h
 |f+1,seen,v::fq,h1,h2,u,h=>by
  have hv:=h1 v (κ ..);have hs:∀w∈fq,I w.toNat:=fun w hw=>h1 w (ν _ hw);unfold wK at h
  split at h
  ·split at h
   ·rename_i i hi;refine Ak hI f _ _ (fun w hw=>?_) (fun w hw=>?_) u h
    ·rcases δ.1 hw with hw|hw
     ·exact hI _ i hv hi w (Ω.1 hw)
     ·exact hs w hw
    ·by_cases he:v.toNat=w
     ·rw[←he];exact hv
     ·rw[Γ he] at hw;exact h2 w hw
   ·exact h2 u h
  ·exact Ak hI f _ _ hs h2 u h
theorem Cd (hcl:iM code) (gi:0≤start∧start<(code.length:Int)) (p:Path code u v):(bF code start)[u]?=some true→(bF code start)[v]?=some true:=by
 obtain⟨ha,_,_,_⟩:=xm hcl gi
 induction p with
 |refl=>exact id
 |@step u v w i h hn _ ih=>
  intro hu;refine ih ?_
  rcases ha u i hu h _ hn with hs|hs
  ·exact dY.2 hs
  ·cases hs
theorem xl (hcl:iM code) (hs:s<code.length):(bF code (s:Nat))[s]?=some true:=by
 obtain⟨_,_,_,hd⟩:=xm (start:=((s:Nat):Int)) hcl ⟨by omega,by omega⟩
 rcases hd with hd|hd
 ·exact dY.2 hd
 ·cases hd
mutual
theorem Tr.XF:∀t:Tr,True
 | .mk _ _=>trivial
theorem bW.XF:∀t:bW,True
 | .nil=>trivial
 | .cons _ _=>trivial
end
theorem DF {g:Int} (h:(fW n g).2=true) (h2:n.op=2):eI n.rs=true:=by
 unfold fW at h
 split at h
 ·cases h
 ·rw[if_neg (show¬(n.op=1∨n.op=7∨n.op=8) by omega)] at h;have h:(n.kids==0 &&eI n.rs)=true:=h;rw[QK] at h;exact h.2
theorem Bi {l:List ej} {h:Nat→Nat→Option (Nat×Nat)} (ih:∀at_ g r,h at_ g=some r→at_≤r.1∧∀j n,at_≤j→j<r.1→l[j]?=some n→n.op=2→eI n.rs=true):∀k at_ g r,j6 h k at_ g=some r→at_≤r.1∧∀j n,at_≤j→j<r.1→l[j]?=some n→n.op=2→eI n.rs=true
 |0,at_,g,r,e=>by
  simp only[j6,Option.some.injEq] at e;subst e;exact⟨ξ _,fun j n h1 h2=>by simp only at h2;omega⟩
 |k+1,at_,g,r,e=>by
  unfold j6 at e
  cases hq:h at_ g with
  |none=>rw[hq] at e;cases e
  |some q=>
   rw[hq] at e;obtain⟨t1,t2⟩:=ih _ _ _ hq;obtain⟨u1,u2⟩:=Bi ih k _ _ _ e;refine⟨Nat.le_trans t1 u1,fun j n h1 h2 hj ho=>?_⟩
   by_cases hjq:j<q.1
   ·exact t2 j n h1 hjq hj ho
   ·exact u2 j n (by omega) h2 hj ho
theorem Eb {l:List ej}:∀f at_ g r,iX l f at_ g=some r→at_≤r.1∧∀j n,at_≤j→j<r.1→l[j]?=some n→n.op=2→eI n.rs=true
 |0,_,_,_,e=>by simp[iX] at e
 |f+1,at_,g,r,e=>by
  unfold iX at e
  cases hn:l[at_]? with
  |none=>rw[hn] at e;cases e
  |some n=>
   rw[hn] at e;simp only at e
   split at e
   ·rename_i hs;obtain⟨u1,u2⟩:=Bi (Eb f) _ _ _ _ e;refine⟨by omega,fun j m h1 h2 hj ho=>?_⟩
    by_cases hja:j=at_
    ·subst hja;rw[hn] at hj;cases hj;exact DF hs ho
    ·exact u2 j m (by omega) h2 hj ho
   ·cases e
theorem DR (h:gV l=true):FY l:=by
 unfold gV at h;simp only[QK] at h;obtain⟨_,h⟩:=h
 split at h
 ·rename_i r hr;rw[decide_eq_true_eq] at h;obtain⟨_,h2⟩:=Eb _ _ _ _ hr;intro n hn ho;obtain⟨j,hj⟩:=List.getElem?_of_mem hn;exact h2 j n (Nat.zero_le _) (by rw[h];exact bC hj) hj ho
 ·cases h
structure SS (n0 r0:Nat) (C:List aQ) (B:List Int) (k:Nat):Prop where
 bl:B.length=k
 fs:0<k→B[0]?=some ((n0:Nat):Int)
 el:∀j,j<k→∃(t:Tr) (b:Nat),t.ok∧FY t.flat∧B[j]?=some (b:Int)∧n0≤b∧(∀b':Int,B[j+1]?=some b'→b'=((b+t.sz+3:Nat):Int))∧(j+1=k→n0+C.length=b+t.sz+3)∧∃pre post,C=pre++ft t b (r0+j)++post∧n0+pre.length=b
 al:∀i q,C[i]?=some q→∃j,j<k∧∃(t:Tr) (b:Nat),B[j]?=some (b:Int)∧t.ok∧FY t.flat∧b≤n0+i∧n0+i<b+t.sz+3∧b+t.sz+3≤n0+C.length∧q∈ft t b (r0+j)∧(ft t b (r0+j))[n0+i-b]?=some q
theorem ta:∀(ls:List (List ej)) (r:Nat) (c:List aQ) (s:List Int),(fw ls r c s).e=0→∃C B,(fw ls r c s).code=c++C∧(fw ls r c s).ak=s++B∧SS c.length r C B ls.length
 |[],r,c,s,h=>by
  rw[Aq];exact⟨[],[],by simp,by simp,rfl,fun h=>by simp at h,fun j hj=>by simp at hj,fun i q hi=>by simp at hi⟩
 |l::ls,r,c,s,h=>by
  rw[fw] at h⊢
  by_cases hr:gV l=false
  ·rw[if_pos hr] at h;cases h
  rw[if_neg hr] at h⊢;rw[QY] at hr
  by_cases hb:400<c.length+min (dc l).sz 401+3
  ·rw[if_pos hb] at h;cases h
  rw[if_neg hb] at h⊢;obtain⟨t1,t2⟩:=ve hr;have kV:FY (dc l).flat:=by rw[t2];exact DR hr
  have hlen:=l8 (b:=c.length) (r:=r) t1;obtain⟨C,B,h1,h2,h3⟩:=ta ls (r+1) _ _ h;rw[γ,hlen] at h3;refine⟨ft (dc l) c.length r++C,((c.length:Nat):Int)::B,by rw[h1,θ],by rw[h2,θ];rfl,by simp[h3.bl],fun _=>rfl,fun j hj=>?_,fun i q hi=>?_⟩
  ·cases j with
   |zero=>
    refine⟨dc l,c.length,t1,kV,rfl,ξ _,fun b' eF=>?_,fun Sb=>?_,[],C,by simp,by simp⟩
    ·simp only[Nat.zero_add,List.getElem?_cons_succ] at eF;have hB:=h3.bl;have hlt:=bC eF;rw[h3.fs (by omega)] at eF;cases eF
     congr 1
    ·simp only[ζ] at Sb;have MK:ls.length=0:=by omega
     have hC:C=[]:=by
      cases hc:C with
      |nil=>rfl
      |cons q C'=>
       obtain⟨j,hj,_⟩:=h3.al 0 q (by rw[hc];rfl);omega
     rw[hC,ο,hlen];omega
   |succ j=>
    simp only[ζ] at hj;obtain⟨t,b,q1,q2,q3,q4,q5,q6,pre,post,q7,q8⟩:=h3.el j (by omega);refine⟨t,b,q1,q2,q3,by omega,q5,fun Sb=>?_,ft (dc l) c.length r++pre,post,?_,?_⟩
    ·simp only[ζ] at Sb;have:=q6 (by omega);rw[γ,hlen];omega
    ·rw[q7,show r+1+j=r+(j+1) by omega];simp only[θ]
    ·rw[γ,hlen];omega
  ·by_cases hil:i<(ft (dc l) c.length r).length
   ·rw[List.getElem?_append_left hil] at hi;refine⟨0,by simp,dc l,c.length,rfl,t1,kV,by omega,by omega,by rw[γ,hlen];omega,Δ hi,?_⟩;rw[show c.length+i-c.length=i by omega];exact hi
   ·rw[List.getElem?_append_right (by omega)] at hi;obtain⟨j,q1,t,b,q2,q3,q4,q5,q6,q7,q8,q9⟩:=h3.al _ q hi;rw[hlen] at q5 q6 q9 hil;refine⟨j+1,by simp only[ζ];omega,t,b,q2,q3,q4,by omega,by omega,by rw[γ,hlen];omega,by rw[show r+(j+1)=r+1+j by omega];exact q8,?_⟩;rw[show r+(j+1)=r+1+j by omega,show c.length+i-b=c.length+((dc l).sz+3)+(i-((dc l).sz+3))-b by omega];exact q9
end Go.Proofs.YtbdnabmmlbiomaaGreat
