/-
 The reference's walk.
-/
import Derived.Test.YtbdnabmmlbiomaaGreatXGQp
import Derived.Test.YtbdnabmmlbiomaaGreatXGQh
import Derived.Test.YtbdnabmmlbiomaaGreatXGPc
set_option maxRecDepth 100000
set_option maxHeartbeats 4000000
set_option linter.unusedSimpArgs false
set_option linter.unusedVariables false
open Nat renaming reduceAdd→γ,le_of_ble_eq_true→δ,reduceSub→ξ,le_refl→Qj,le_trans→QO
open List renaming drop_succ_cons→ε,take_succ_cons→ζ,getElem?_eq_getElem→η,length_map→θ,mem_of_getElem?→ι,drop_zero→κ,take_zero→μ,getElem?_map→ρ,length→ς,mem_map→ψ,take_of_length_le→ω,map_append→Γ,take_add_one→Δ,not_mem_nil→Θ,length_nil→Ψ,length_cons→QQ,mem_cons→QX,getElem?_eq_none→Qv,map_map→Qk,map_set→Qy,length_take→Qw,drop_append_of_le_length→QW,foldl→QY,drop_eq_getElem_cons→QK,getElem?_cons_succ→QV,count_le_length→QG,drop_eq_nil_iff→QH,getElem?_of_mem→QB,getElem?_set_ne→QF,ext_getElem?→QC,take_length→QP,foldl_cons→QL,length_set→QM,foldl_nil→QT
open Go.V.D renaming cells→ν,ref→QS
open Go.V.aa renaming nil→ο,aF→Ξ,cA→QD,bL→QN,go→QR,kN→Qb,mU→Qc
open Go.V.ab renaming block→π,skip→τ,ret→φ,cond→χ,exit→Qx,loop→Qz,oK→Qa,kE→Qd
open Int renaming eq_ofNat_of_zero_le→υ
open Option renaming toList_some→Φ,map_some→QJ,some→QU,map→QI
open Go.V.Arg renaming of→Ω,rows→QA
open Bool renaming and_eq_true_iff→QZ,not_true→QE
open Go.V renaming Rows→Qq
namespace Go.Proofs.YtbdnabmmlbiomaaGreat
open Go.V Go
def vO (fr:Go.V.Fr) (k:Nat):Go.V.D:=Go.V.nth .bD fr.loc k
variable{f:nc}{x ld y:D}{N ks kv i:Nat}{S s0 st:St}{H:List bJ}{l:List iS}{p:Pg}{L:List PL}{r n:Int}{dn:Bool}{es fs:List (List D)}
theorem BX {x:Nat} {v:Int} (hx:x<10):setMany (ay f) x [.int .i64 v]=ay (DH f x v):=by
 match x,hx with
 |0,_=>rfl
 |1,_=>rfl
 |2,_=>rfl
 |3,_=>rfl
 |4,_=>rfl
 |5,_=>rfl
 |6,_=>rfl
 |7,_=>rfl
 |8,_=>rfl
 |9,_=>rfl
theorem DY {t:iS} (hF:S.flr≤N) (hl:l.length≤1000000) (hH:Has N S s0 (.aO x 11 (l.map aK)::H)):
  ∃d ai,Ev pv 71 [x,.agg (aK t)] s0 d ai∧Has N S ai (.aO d 11 ((lf l t).map aK)::H):=by
 refine Ev.iD rfl ZJ rfl rfl rfl ?_;dsimp only[u3,u4,ς,ξ,γ,w1,w2];change ab _ _ _ _ s0 _;refine qq<|qj fun K hK=>qb hH fun k3 st qX hH=>?_;dsimp only[u2,u1,u3,u4,setMany,u5,u6,ν,γ,aK] at hH;refine qm ?_;refine qe hK<|qq<|qq<|qj fun K hK=>qm ?_;refine qe hK<|π<|Qz (fun mm fr st=>∃(i:Nat),fr.clean=⟨6,[x,vO fr 1,vO fr 2,.ptr k3 0 0,vO fr 4,.int .i64 (i:Nat)],[]⟩∧Has N S st (.box k3 (.mem 0 false (aK t))::.aO x 11 (l.map aK)::H)∧(i+mm=l.length)∧(iz (l.take i) t.pc=false)) (l.length) ?_ ?_
 ·exact⟨0,rfl,hH,by omega,rfl⟩
 rintro mm fr st ⟨i,hfr,hH,hi,kh⟩;rw[hfr];clear hfr;generalize vO fr=ee;clear fr;refine qq<|qq<|qj fun K hK=>qm ?_;refine qm ?_;refine qn ?_ (hR:=hH.rows bh);simp only[θ];refine qg ?_;refine qe hK ?_;refine χ (by rfl) (fun h1=>?_) (fun h1=>?_)<;>try simp only[decide_eq_true_eq,decide_eq_false_iff_not] at h1
 ·refine τ ?_
  obtain⟨q,hq⟩:∃q,l[i]?=some q:=⟨l[i]'(by omega),η _⟩
  have gB:=l4 hq;have XX:l.take (i+1)=l.take i++[q]:=by rw[Δ,hq];rfl
  refine qq<|π<|qq<|qj fun K hK=>qm ?_;refine qm ?_;refine qi hH bh fun p14 UM=>?_;refine aa.fS (fo:=0) (m:=0) (o2:=0) rfl (ev rfl) (by assumption) rfl rfl rfl (fun _=>(ae rfl _)) (fun WJ Mz=>?_);refine qo hH bh ?_;refine qp (o:=0) ?_;refine ql hH av ?_;refine qg ?_;refine qe hK ?_
  by_cases he:q.pc=t.pc
  ·refine qD rfl (by rw[he];simp) ?_;refine qq<|qj fun K hK=>qm ?_;refine qm ?_;refine qe hK<|φ ⟨rx,_,_,_,rfl,rfl,?_⟩
   have:lf l t=l:=by
    unfold lf;rw[if_pos];unfold iz;rw[List.any_eq_true];exact⟨q,ι hq,by simp[he]⟩
   rw[this];exact hH.drop 1
  ·refine qE rfl (by simp;omega) ?_;refine τ<|qj fun K hK=>qm ?_;refine qA ?_;refine qm ?_;refine qe hK ?_;exact⟨mm-1,by omega,⟨i+1,rfl,hH,by omega,by(rw[XX,sF,kh];simp[he])⟩⟩
 ·refine Qx<|qq<|qj fun K hK=>qm ?_;refine Ξ (m:=11) hH rfl (ev rfl) (by exact av) (by dsimp only[ε,κ,ζ,μ,aK]<;>rfl) rfl rfl (ae rfl _) ?_;refine qh (s:=11) (vs:=[_]) hH fun k23 st U2 hH=>?_;dsimp only[u2,u1,u3,u4,setMany,u5,u6,ν,γ,aK] at hH;refine QN (s:=11) hH rfl (ev rfl) (ev rfl) (by exact dF) (by exact hH.rows (by exact av)) rfl rfl rfl rfl rfl rfl rfl ⟨(δ rfl),(δ rfl)⟩ (fun _=>(ae rfl _)) (by simp only[QQ,Ψ,θ]<;>omega) (by exact .inl hF) (fun x24 st hH=>?_);dsimp only[u2,u1,u3,u4,setMany,u5,u6,ν,γ,aK] at hH;refine qm ?_;refine qe hK<|φ ⟨rx,_,_,_,rfl,rfl,?_⟩;have hil:i=l.length:=by omega
  rw[hil,QP] at kh;have:lf l t=l++[t]:=by unfold lf;rw[if_neg (by rw[kh];decide)]
  rw[this,Γ];exact hH.drop 2
def WkH (N:Nat) (S st:St) (ka kl:Nat) (p:Pg) (sd:D) (pl:Nat) (e:Bool) (w:Wk) (H:List bJ):Prop:=
 ∃od,Has N S st (.box ka (.mem 0 false [p.cd,p.sd,.ptr kl 0 0,sd,.int .i64 (pl:Nat),.bool e,od])::.box kl (.mem 0 false (aJ w.dn w.aU .nul))::.aO sd 1 (w.seen.map bf)::.aO od 11 (w.rdy.map aK)::H)
theorem w9 {N ka kl:Nat} {S:St} {p:Pg} {sd:D} {pl:Nat} {e:Bool} (hF:S.flr≤N) (hp:p.ok) (hR:bE p) (ib:pl≤4000000000000):∀(f:Nat) (w:Wk) (t:iS) (s0:St) (H:List bJ),t.pc<p.code.length→w.seen.length=p.code.length→w.seen.count false<f→w.rdy.length+w.seen.count false≤1048576→WkH N S s0 ka kl p sd pl e w H→
  ∃r ai,Ev pv 113 [.ptr ka 0 0,.int .i64 (t.pc:Nat),.agg (ay t.c)] s0 r ai∧r=.bool (b_ p.code pl e f w t).2∧WkH N S ai ka kl p sd pl e (b_ p.code pl e f w t).1 H
 |0,_,_,_,_,_,_,h,_,_=>absurd h (Nat.not_lt_zero _)
 |f+1,w,t,s0,H,yW,iE,eL,ni,hT=>by
  have ih:=w9 (ka:=ka) (kl:=kl) (S:=S) (sd:=sd) (e:=e) hF hp hR ib f;obtain⟨od,hH⟩:=hT;have hc:=hp.c.arg N S;have hlen:=hp.cl
  obtain⟨i,hi⟩:∃i,p.code[t.pc]?=some i:=⟨p.code[t.pc]'yW,η _⟩
  obtain⟨b,hb⟩:∃b,w.seen[t.pc]?=some b:=⟨w.seen[t.pc]'(by omega),η _⟩
  have hr:=eB hi;have kV:=il hb;have vV:=(hp.i i (ι hi)).1;have mX:=kq (hR.sh t.pc i hi);have MP:=tX hb;have eV:b_ p.code pl e (f+1) w t=b_ p.code pl e (f+1) w t:=rfl
  conv at eV=>rhs;unfold b_
  rw[MP] at eV;simp only[hi] at eV;generalize b_ p.code pl e (f+1) w t=R at*;obtain⟨op,x,y,rdd,rs⟩:=i;obtain⟨pc,c⟩:=t;simp only at*;refine Ev.iD rfl We rfl rfl rfl ?_;dsimp only[u3,u4,ς,ξ,γ,w1,w2];change ab _ _ _ _ s0 _;refine qq<|qj fun K hK=>qb hH fun k5 st yh hH=>?_;dsimp only[u2,u1,u3,u4,setMany,u5,u6,ν,γ,aC,aK,aJ,ay,bf] at hH;refine qm ?_;refine qe hK<|qq<|qq<|qj fun K hK=>qm ?_;refine qg ?_;refine qp (o:=3) ?_;refine ql hH bh ?_;refine qm ?_;refine qi hH fm fun p13 UN=>?_;refine qo hH fm ?_;refine qe hK ?_
  cases b with
  |true=>
   rw[if_pos rfl] at eV;subst eV;refine qB ?_;refine qq<|qj fun K hK=>qm ?_;refine qe hK<|φ ⟨rx,_,_,_,rfl,rfl,?_⟩;exact⟨rfl,od,hH.drop 1⟩
  |false=>
   rw[if_neg (by decide)] at eV;have wc:=count_set hb;have o6:(w.seen.set pc true).length=p.code.length:=by rw[QM];exact iE
   have yl:(w.seen.set pc true).count false<f:=by omega
   have x0:w.rdy.length+(w.seen.set pc true).count false≤1048576:=by omega
   have fO:(w.seen.map bf).set pc [.bool true]=(w.seen.set pc true).map bf:=by rw[Qy];rfl
   refine qC ?_;refine τ<|qq<|qj fun K hK=>qm ?_;refine qg ?_;refine qp (o:=3) ?_;refine ql hH bh ?_;refine qm ?_;refine qi hH fm fun Q_ zT=>?_;refine aa.gX hH rfl (ev rfl) (ev rfl) (by assumption) rfl rfl (by exact fm) (by assumption) (δ rfl) (by exact .inl hF) (fun st hH=>?_);dsimp only[u2,u1,u3,u4,setMany,u5,u6,ν,γ,aC,aK,aJ,ay,bf] at hH;refine qe hK ?_;rw[fO] at hH;generalize w.seen.set pc true=sn at*;clear hb MP wc iE eL ni fO kV;refine qq<|qj fun K hK=>qm ?_;refine qg ?_;refine qp (o:=0) ?_;refine qp (o:=0) ?_;refine ql hH bh ?_;refine qm ?_;refine qr fun Xy RV=>?_;refine QD rfl (ev rfl) (by assumption) rfl (by dsimp only[Fr.put,u1,u2]<;>rfl) ?_;refine qa hH fun k7 st Te hH=>?_;refine qS hH av fun st hH=>?_;dsimp only[u2,u1,u3,u4,setMany,u5,u6,ν,γ,aC,aK,aJ,ay,bf] at hH;refine qe hK<|qq<|qq<|qj fun K hK=>qp (o:=0) ?_;refine ql hH av ?_;refine qe hK<|π<|qq<|qj fun K hK=>qg ?_;refine qm ?_;refine qe hK ?_;refine χ (by rfl) (fun h7=>?_) (fun h7=>?_)<;>try simp only[beq_iff_eq,beq_eq_false_iff_ne,ne_eq] at h7
   ·rw[if_pos h7] at eV;subst eV;refine qq<|qj fun K hK=>qm ?_;refine qg ?_;refine qp (o:=2) ?_;refine ql hH dF ?_;refine qg ?_;refine qp (o:=0) ?_;refine qT hH fm fun st hH=>?_;dsimp only[u2,u1,u3,u4,setMany,u5,u6,ν,γ,aC,aK,aJ,ay,bf] at hH;refine qe hK<|qq<|qj fun K hK=>qm ?_;refine qg ?_;refine qp (o:=2) ?_;refine ql hH dF ?_;refine Ξ (m:=10) hH rfl (ev rfl) (by exact bh) (by dsimp only[ε,κ,ζ,μ,aC,aK,aJ,ay,bf]<;>rfl) rfl rfl (ae rfl _) ?_;refine qg ?_;refine qp (o:=1) ?_;refine qT hH fm fun st hH=>?_;dsimp only[u2,u1,u3,u4,setMany,u5,u6,ν,γ,aC,aK,aJ,ay,bf] at hH;refine qe hK<|qq<|qj fun K hK=>qm ?_;refine qe hK<|φ ⟨rx,_,_,_,rfl,rfl,?_⟩;exact⟨rfl,od,hH.drop 2⟩
   ·rw[if_neg h7] at eV;refine qq<|qj fun K hK=>qg ?_;refine qm ?_;refine qe hK ?_;refine χ (by rfl) (fun h2=>?_) (fun h2=>?_)<;>try simp only[beq_iff_eq,beq_eq_false_iff_ne,ne_eq] at h2
    ·rw[if_pos h2] at eV;obtain⟨_,⟨hx0,hx1⟩,hy0,hy1⟩:=(mX.resolve_left h7).resolve_right (by omega);obtain⟨xn,rfl⟩:=υ hx0;obtain⟨yn,rfl⟩:=υ hy0;have Sd:=cN p.code pl e f ⟨sn,w.dn,w.aU,w.rdy⟩ ⟨xn,c⟩;have yp:=Has.lA [_,_] [_,_,_,_] hH;obtain⟨_,st1,aL,rfl,hT⟩:=ih ⟨sn,w.dn,w.aU,w.rdy⟩ ⟨xn,c⟩ _ _ (by show xn<_;omega) o6 yl x0 ⟨od,yp⟩;clear yp;have eV:R=if(b_ p.code pl e f ⟨sn,w.dn,w.aU,w.rdy⟩ ⟨xn,c⟩).2=true then b_ p.code pl e f ⟨sn,w.dn,w.aU,w.rdy⟩ ⟨xn,c⟩ else b_ p.code pl e f (b_ p.code pl e f ⟨sn,w.dn,w.aU,w.rdy⟩ ⟨xn,c⟩).1 ⟨yn,c⟩:=eV;generalize b_ p.code pl e f ⟨sn,w.dn,w.aU,w.rdy⟩ ⟨xn,c⟩=R1 at*;obtain⟨w1,b1⟩:=R1;obtain⟨cW,aZ,aR,cx⟩:=Sd;simp only at cW aZ aR cx aL hT eV;obtain⟨S5,yp⟩:=hT;have yp:=Has.lA [_,_,_,_] [_,_] yp;dsimp only[u3,u4] at yp
     cases b1 with
     |true=>
      rw[if_pos rfl] at eV;subst eV;have bk:true=true:=rfl;refine qq<|qj fun K hK=>qm ?_;refine qp (o:=1) ?_;refine ql hH av ?_;refine Ξ (m:=10) hH rfl (ev rfl) (by exact bh) (by dsimp only[ε,κ,ζ,μ,aC,aK,aJ,ay,bf]<;>rfl) rfl rfl (ae rfl _) ?_;refine qv aL ?_;refine qm ?_;refine qs ?_ (hg:=wn bk);refine qs ?_ (hg:=wn bk);refine qs ?_ (hg:=wn bk);refine qs ?_ (hg:=wn bk);refine qs ?_ (hg:=wn bk);refine qt bk ?_;refine qm ?_;refine qe hK<|φ ⟨rx,_,_,_,rfl,rfl,?_⟩;exact⟨rfl,S5,yp.drop 2⟩
     |false=>
      rw[if_neg (by decide)] at eV;have bk:false=false:=rfl;refine qq<|qj fun K hK=>qm ?_;refine qp (o:=1) ?_;refine ql hH av ?_;refine Ξ (m:=10) hH rfl (ev rfl) (by exact bh) (by dsimp only[ε,κ,ζ,μ,aC,aK,aJ,ay,bf]<;>rfl) rfl rfl (ae rfl _) ?_;have hH:=yp;refine qv aL ?_;refine qm ?_;refine qm ?_ (hg:=wi bk);refine qp (o:=2) ?_ (hg:=wi bk);refine ql hH av ?_ (hg:=wi bk);refine Ξ (m:=10) hH (aq rfl rfl rfl bk) (ev rfl) (by exact bh) (by dsimp only[ε,κ,ζ,μ,aC,aK,aJ,ay,bf]<;>rfl) rfl rfl (ae rfl _) ?_;obtain⟨_,st,aL,rfl,hT⟩:=ih w1 ⟨yn,c⟩ _ _ (by show yn<_;omega) (by omega) (by omega) (by omega) ⟨S5,hH.drop 2⟩;refine qv aL ?_ (hg:=wi bk);refine qu bk ?_;refine qm ?_;refine qe hK<|φ ⟨rx,_,_,_,rfl,rfl,?_⟩;rw[eV];exact⟨rfl,hT⟩
    ·rw[if_neg h2] at eV;refine qq<|qj fun K hK=>qg ?_;refine qm ?_;refine qe hK ?_;refine χ (by rfl) (fun h3=>?_) (fun h3=>?_)<;>try simp only[beq_iff_eq,beq_eq_false_iff_ne,ne_eq] at h3
     ·rw[if_neg (by omega),if_pos h3] at eV;obtain⟨_,hx0,hx1⟩:=((mX.resolve_left h7).resolve_left (by omega)).resolve_right (by omega);obtain⟨xn,rfl⟩:=υ hx0;refine qq<|qj fun K hK=>qm ?_;refine qp (o:=1) ?_;refine ql hH av ?_;refine Ξ (m:=10) hH rfl (ev rfl) (by exact bh) (by dsimp only[ε,κ,ζ,μ,aC,aK,aJ,ay,bf]<;>rfl) rfl rfl (ae rfl _) ?_;obtain⟨_,st,aL,rfl,hT⟩:=ih ⟨sn,w.dn,w.aU,w.rdy⟩ ⟨xn,c⟩ _ _ (by show xn<_;omega) o6 yl x0 ⟨od,hH.drop 2⟩;refine qv aL ?_;refine qm ?_;refine qe hK<|φ ⟨rx,_,_,_,rfl,rfl,?_⟩;rw[eV];exact⟨rfl,hT⟩
     ·refine qq<|qj fun K hK=>qg ?_;refine qm ?_;refine qe hK ?_;refine χ (by rfl) (fun h4=>?_) (fun h4=>?_)<;>try simp only[beq_iff_eq,beq_eq_false_iff_ne,ne_eq] at h4
      ·rw[if_neg (by omega),if_neg h3,if_pos h4] at eV;obtain⟨_,sA,hx0,hx1⟩:=(((mX.resolve_left h7).resolve_left (by omega)).resolve_left (by omega)).resolve_right (by omega);obtain⟨xn,rfl⟩:=υ hx0;refine qq<|qj fun K hK=>qp (o:=1) ?_;refine ql hH av ?_;refine qm ?_;refine qg ?_;refine qp (o:=4) ?_;refine ql hH dF ?_;refine aa.MV (m:=10) (s:=1) (i:=xn) (o:=xn) rfl (ev rfl) (ev rfl) rfl rfl (by omega) (by omega) (ae rfl _) ?_;refine Qc hH rfl (ev rfl) (ev rfl) rfl (by exact rfl) bh (by show xn+1≤10;omega) (.inl hF) (fun st hH=>?_);change Has _ _ _ (_::.box k5 (.mem 0 false (setMany (ay c) xn [.int .i64 (pl:Nat)]))::_) at hH;rw[BX (by omega)] at hH;refine qe hK ?_;dsimp only[ay] at hH;refine qq<|qj fun K hK=>qm ?_;refine qm ?_;refine qA ?_;refine Ξ (m:=10) hH rfl (ev rfl) (by exact bh) (by dsimp only[ε,κ,ζ,μ,aC,aK,aJ,ay,bf]<;>rfl) rfl rfl (ae rfl _) ?_;obtain⟨_,st,aL,rfl,hT⟩:=ih ⟨sn,w.dn,w.aU,w.rdy⟩ ⟨pc+1,DH c xn (pl:Nat)⟩ _ _ sA o6 yl x0 ⟨od,hH.drop 2⟩;refine qv aL ?_;refine qm ?_;refine qe hK<|φ ⟨rx,_,_,_,rfl,rfl,?_⟩;rw[eV];exact⟨rfl,hT⟩
      ·refine qq<|qj fun K hK=>qg ?_;refine qm ?_;refine qe hK ?_;refine χ (by rfl) (fun h5=>?_) (fun h5=>?_)<;>try simp only[beq_iff_eq,beq_eq_false_iff_ne,ne_eq] at h5
       ·rw[if_neg (by omega),if_neg h3,if_neg h4,if_pos h5] at eV;have sA:pc+1<p.code.length:=by omega
        by_cases ha:pl=0
        ·rw[if_pos ha] at eV;subst ha;have bk:(((0:Nat):Int)==0)=true:=rfl;refine qq<|qj fun K hK=>qm ?_;refine qg ?_;refine qp (o:=4) ?_;refine ql hH dF ?_;refine qg ?_;refine qm ?_;refine qm ?_ (hg:=wi bk);refine qm ?_ (hg:=wi bk);refine qA ?_ (hg:=wi bk);refine Ξ (m:=10) hH (aq rfl rfl rfl bk) (ev rfl) (by exact bh) (by dsimp only[ε,κ,ζ,μ,aC,aK,aJ,ay,bf]<;>rfl) rfl rfl (ae rfl _) ?_;obtain⟨_,st,aL,rfl,hT⟩:=ih ⟨sn,w.dn,w.aU,w.rdy⟩ ⟨pc+1,c⟩ _ _ sA o6 yl x0 ⟨od,hH.drop 2⟩;refine qv aL ?_ (hg:=wi bk);refine qt bk ?_;refine qm ?_;refine qe hK<|φ ⟨rx,_,_,_,rfl,rfl,?_⟩;rw[eV];exact⟨rfl,hT⟩
        ·rw[if_neg ha] at eV;subst eV;have bk:(((pl:Nat):Int)==0)=false:=by rw[beq_eq_false_iff_ne];omega
         refine qq<|qj fun K hK=>qm ?_;refine qg ?_;refine qp (o:=4) ?_;refine ql hH dF ?_;refine qg ?_;refine qm ?_;refine qs ?_ (hg:=wn bk);refine qs ?_ (hg:=wn bk);refine qs ?_ (hg:=wn bk);refine qs ?_ (hg:=wn bk);refine qs ?_ (hg:=wn bk);refine qu bk ?_;refine qm ?_;refine qe hK<|φ ⟨rx,_,_,_,rfl,rfl,?_⟩;exact⟨rfl,od,hH.drop 2⟩
       ·refine qq<|qj fun K hK=>qg ?_;refine qm ?_;refine qe hK ?_;refine χ (by rfl) (fun h6=>?_) (fun h6=>?_)<;>try simp only[beq_iff_eq,beq_eq_false_iff_ne,ne_eq] at h6
        ·rw[if_neg (by omega),if_neg h3,if_neg h4,if_neg h5] at eV;have sA:pc+1<p.code.length:=by omega
         cases e with
         |true=>
          rw[if_pos rfl] at eV;have cx:true=true:=rfl;refine qq<|qj fun K hK=>qm ?_;refine qg ?_;refine qp (o:=5) ?_;refine ql hH dF ?_;refine qm ?_;refine qm ?_ (hg:=wi cx);refine qm ?_ (hg:=wi cx);refine qA ?_ (hg:=wi cx);refine Ξ (m:=10) hH (aq rfl rfl rfl cx) (ev rfl) (by exact bh) (by dsimp only[ε,κ,ζ,μ,aC,aK,aJ,ay,bf]<;>rfl) rfl rfl (ae rfl _) ?_;obtain⟨_,st,aL,rfl,hT⟩:=ih ⟨sn,w.dn,w.aU,w.rdy⟩ ⟨pc+1,c⟩ _ _ sA o6 yl x0 ⟨od,hH.drop 2⟩;refine qv aL ?_ (hg:=wi cx);refine qt cx ?_;refine qm ?_;refine qe hK<|φ ⟨rx,_,_,_,rfl,rfl,?_⟩;rw[eV];exact⟨rfl,hT⟩
         |false=>
          rw[if_neg (by decide)] at eV;subst eV;have cx:false=false:=rfl;refine qq<|qj fun K hK=>qm ?_;refine qg ?_;refine qp (o:=5) ?_;refine ql hH dF ?_;refine qm ?_;refine qs ?_ (hg:=wn cx);refine qs ?_ (hg:=wn cx);refine qs ?_ (hg:=wn cx);refine qs ?_ (hg:=wn cx);refine qs ?_ (hg:=wn cx);refine qu cx ?_;refine qm ?_;refine qe hK<|φ ⟨rx,_,_,_,rfl,rfl,?_⟩;exact⟨rfl,od,hH.drop 2⟩
        ·have h1:op=1:=by omega
         rw[if_pos h1] at eV;subst eV;refine qq<|qj fun K hK=>qg ?_;refine qm ?_;refine qe hK<|qD rfl (by simp[h1]) ?_;refine qj fun K hK=>qm ?_;refine qm ?_;refine qg ?_;refine qp (o:=6) ?_;refine ql hH dF ?_;refine qm ?_;refine Ξ (m:=10) hH rfl (ev rfl) (by exact bh) (by dsimp only[ε,κ,ζ,μ,aC,aK,aJ,ay,bf]<;>rfl) rfl rfl (ae rfl _) ?_;refine QR (d:=.agg (aK ⟨pc,c⟩)) (st1:=_) rfl rfl rfl (ae rfl _) ?_;refine qh (s:=11) (vs:=[_]) hH fun k118 st aaB hH=>?_;dsimp only[u2,u1,u3,u4,setMany,u5,u6,ν,γ,aC,aK,aJ,ay,bf] at hH;refine QN (s:=11) hH rfl (ev rfl) (ev rfl) (by exact Tn) (by exact hH.rows (by exact av)) rfl rfl rfl rfl rfl rfl rfl ⟨(δ rfl),(δ rfl)⟩ (fun _=>(ae rfl _)) (by simp only[QQ,Ψ,θ]<;>omega) (by exact .inl hF) (fun Xa st hH=>?_);dsimp only[u2,u1,u3,u4,setMany,u5,u6,ν,γ,aC,aK,aJ,ay,bf] at hH;refine qg ?_;refine qp (o:=6) ?_;refine qT hH fm (fun st hH=>?_) (iy:=hH.eJ Tn);dsimp only[u2,u1,u3,u4,setMany,u5,u6,ν,γ,aC,aK,aJ,ay,bf] at hH;refine qe hK<|qq<|qj fun K hK=>qm ?_;refine qe hK<|φ ⟨rx,_,_,_,rfl,rfl,?_⟩;refine⟨rfl,Xa,?_⟩;rw[Γ];exact hH.drop 3
def ez (fr:Go.V.Fr) (k:Nat):Go.V.D:=Go.V.nth .bD fr.loc k
def VL.pl (l:VL):PL:=⟨l.dn,l.aU,l.bB⟩
def ba (p:Pg):List Nat:=p.ak.map Int.toNat
def dj (code:List aQ) (pl:Nat) (r:Int):List Nat→List PL→List PL
 |s::ss,l::ls=>gw code pl s r l::dj code pl r ss ls
 |_,_=>[]
def dO (n:Int):Nat:=(min (max n 0) 4).toNat
theorem ke (n:Int):dO n≤4:=by unfold dO;omega
theorem gR (code:List aQ) (pl:Nat) (r:Int):∀(ss:List Nat) (ls:List PL),ss.length=ls.length→(dj code pl r ss ls).length=ls.length
 |[],[],_=>rfl
 |s::ss,l::ls,h=>by simp only[dj,QQ];rw[gR code pl r ss ls (by simpa using h)]
theorem mL (code:List aQ) (pl:Nat) (r:Int):∀(ss:List Nat) (ls:List PL) (i:Nat) (s:Nat) (l:PL),ss[i]?=some s→ls[i]?=some l→(dj code pl r ss ls)[i]?=some (gw code pl s r l)
 |[],_,_,_,_,h,_=>by simp at h
 |_::_,[],_,_,_,_,h=>by simp at h
 |s::ss,l::ls,0,_,_,h1,h2=>by simp only[List.getElem?_cons_zero,QU.injEq] at h1 h2;subst h1;subst h2;rfl
 |s::ss,l::ls,i+1,_,_,h1,h2=>by simp only[QV] at h1 h2;simp only[dj,QV];exact mL code pl r ss ls i _ _ h1 h2
theorem MH.mono {A:List bJ} {pl:Nat} {L:List VL} (n:Nat) (h:MH A N S st ks kv p pl ld L H):MH (A.drop n) N S st ks kv p pl ld L H:=by
 obtain⟨pd,qd,P,Q,sn,hH,bA,gj⟩:=h;refine⟨pd,qd,P,Q,sn,?_,bA,gj⟩
 rcases Nat.le_total n A.length with hn|hn
 ·have:=hH.drop n
  rwa [QW hn] at this
 ·have:=hH.drop A.length;rw[QW (Qj _),List.drop_length] at this;rw[List.drop_eq_nil_of_le hn];exact this
theorem Gd (L:List VL) (i:Nat) (l:VL):(L.set i l).map pX=(L.map pX).set i (pX l):=Qy ..
theorem MH.Gp {pl:Nat} {L:List VL} {l:VL} {pd qd:D} {P Q:List Nat} (hi:i<L.length) (h:Has N S st (.aO l.td 11 (l.bB.map aK)::.box kv (.mem 0 false [p.cd,p.sd,.int .i64 (pl:Nat),ld,.ptr ks 0 0])::.box ks (.mem 0 false [pd,qd])::.aO pd 1 (P.map gL)::.aO qd 2 (Q.map ov)::.aO ld 12 ((L.map dP).set i (dP l))::(L.map pX++H))):
  Has N S st (.box kv (.mem 0 false [p.cd,p.sd,.int .i64 (pl:Nat),ld,.ptr ks 0 0])::.box ks (.mem 0 false [pd,qd])::.aO pd 1 (P.map gL)::.aO qd 2 (Q.map ov)::.aO ld 12 ((L.set i l).map dP)::((L.set i l).map pX++H)):=by
 have h1:=h.fg (j:=5+i) (by simp;omega);rw[Qy,Gd]
 have h2:∀(a b c d e:bJ),(a::b::c::d::e::(L.map pX++H)).set (5+i) (.aO l.td 11 (l.bB.map aK))=a::b::c::d::e::((L.map pX).set i (pX l)++H):=by
  intro a b c d e;rw[Nat.add_comm 5 i];simp only[List.set_cons_succ];rw[List.set_append_left _ _ (by simpa using hi)];rfl
 rw[h2] at h1;exact h1
theorem Nh (dB:∀st,Ev pv 59 [] st (.agg (ay bX)) st) {pl:Nat} {L:List VL} (hF:S.flr≤N) (hp:p.ok) (hR:bE p) (ib:pl≤3000000000000) (pR:L.length=p.ak.length) (bA:∀l∈L,l.pl.ok p.code.length) (hM:MH [] N S s0 ks kv p pl ld L H):
  ∃d ai,Ev pv 18 [.ptr kv 0 0,.int .i32 r,.int .i64 n] s0 d ai∧d=.tup []∧∃L',L'.map VL.pl=dj p.code pl r (ba p) (L.map VL.pl)∧MH [] N S ai ks kv p (pl+dO n) ld L' H:=by
 have RD:=hR.sl;refine Ev.iD rfl aaf rfl rfl rfl ?_;dsimp only[u3,u4,ς,ξ,γ,w1,w2];change ab _ _ _ _ s0 _;obtain⟨pd,qd,P,Q,sn,hH,gM,gj⟩:=hM;dsimp only[u4] at hH;refine qq<|qq<|qj fun K hK=>qm ?_;refine qg ?_;refine qp (o:=3) ?_;refine ql hH av ?_;refine qn ?_ (hR:=hH.rows gH);simp only[θ];refine qm ?_;refine qe hK<|π<|Qz (fun mm fr st=>∃(i:Nat) (L2:List VL) (pd qd:D) (P Q:List Nat) (sn:List Bool),fr.clean=⟨13,[.ptr kv 0 0,.int .i32 r,.int .i64 n,ez fr 3,ez fr 4,ez fr 5,ez fr 6,ez fr 7,ez fr 8,ez fr 9,ez fr 10,.int .i64 (L.length:Nat),.int .i64 (i:Nat)],[]⟩∧Has N S st (.box kv (.mem 0 false [p.cd,p.sd,.int .i64 (pl:Nat),ld,.ptr ks 0 0])::.box ks (.mem 0 false [pd,qd])::.aO pd 1 (P.map gL)::.aO qd 2 (Q.map ov)::.aO ld 12 (L2.map dP)::(L2.map pX++H))∧(i+mm=L.length)∧(L2.length=L.length)∧(∀j l s,j<i→L[j]?=some l→p.ak[j]?=some s→(L2.map VL.pl)[j]?=some (gw p.code pl s.toNat r l.pl))∧(∀j,i≤j→L2[j]?=L[j]?)∧(dC P Q sn)∧(sn.length=p.code.length)) (L.length) ?_ ?_
 ·exact⟨0,L,_,_,_,_,_,rfl,hH,by omega,rfl,(by intro j l s h;omega),(fun j _=>rfl),gM,gj⟩
 rintro mm fr st ⟨i,L2,pd,qd,P,Q,sn,hfr,hH,hi,wG,hdo,hto,gM,gj⟩;rw[hfr];clear hfr;generalize ez fr=ee;clear fr;refine qq<|qj fun K hK=>qg ?_;refine qe hK<|qq ?_;refine χ (by rfl) (fun hlt=>?_) (fun hlt=>?_)<;>try simp only[decide_eq_true_eq,decide_eq_false_iff_not] at hlt
 ·refine τ ?_;have hil:i<L.length:=by omega
  obtain⟨l,hl⟩:∃l,L[i]?=some l:=⟨L[i]'hil,η _⟩
  have o7:L2[i]?=some l:=by rw[hto i (Qj _)];exact hl
  obtain⟨s,hs⟩:∃s,p.ak[i]?=some s:=⟨p.ak[i]'(by omega),η _⟩
  obtain⟨j9,Uw⟩:=hR.st s (ι hs);obtain⟨SY,rfl⟩:=υ j9;have gB:=oy o7;refine qq<|π<|qq<|qj fun K hK=>qm ?_;refine qm ?_;refine qe hK ?_;have cX:=hH;have CA:=kG hH gH;have Mt:=hH.sa bh (k:=ks) rfl;have RJ:=hp.c.ref;have EL:=hp.s.ref;have Mu:refs [p.cd,p.sd,.int .i64 (pl:Nat),ld,.ptr ks 0 0]≤st.bs.length:=by simp only[refs,QS,RJ,EL];omega
  change ab _ _ _ _ _ _;generalize hK:bj _ _ _ _=K;refine Qa rfl ?_;refine bP.cons ?_;refine qm ?_;refine ο ⟨rfl,?_⟩;refine bP.cons ?_;refine qg ?_;refine ο ⟨rfl,?_⟩;refine bP.cons ?_;refine qp (o:=3) ?_;refine ο ⟨rfl,?_⟩;refine bP.cons ?_;refine ql hH av ?_;refine ο ⟨rfl,?_⟩;refine bP.cons ?_;refine qm ?_;refine ο ⟨rfl,?_⟩;refine bP.cons ?_;refine qm ?_;refine ο ⟨rfl,?_⟩;refine bP.cons ?_;refine qm ?_;refine ο ⟨rfl,?_⟩;refine bP.cons ?_;refine qm ?_;refine ο ⟨rfl,?_⟩;refine bP.cons ?_;obtain⟨_,st,aL,td,rfl,hM⟩:=Dx dB hF hp hR (by omega) o7 hs (bA l (ι hl)) ⟨pd,qd,P,Q,sn,hH,gM,gj⟩;obtain⟨pd,qd,P,Q,sn,hH,gM,gj⟩:=hM;dsimp only[u3,u4] at hH;refine qv aL ?_;refine ο ⟨by exact QZ.2 ⟨gk rfl rfl rfl (cX.at av) (hH.at bh) (cX.at av) Mu,rfl⟩,?_⟩;refine bP.cons ?_;refine qi hH qG fun Q9 zS=>?_;refine ο ⟨rfl,?_⟩;refine bP.cons ?_;refine aa.gX hH rfl (ev rfl) (ev rfl) (by assumption) rfl rfl (by exact qG) (by assumption) (δ rfl) (by exact .inl hF) (fun st hH=>?_);dsimp only[u2,u1,u3,u4,setMany,u5,u6,ν,γ,aC,aK,aJ,ay,dP] at hH;refine ο ⟨rfl,?_⟩;refine bP.nil ?_;subst hK;have hH:=MH.Gp (l:=⟨(gw p.code pl SY r l.pl).dn,(gw p.code pl SY r l.pl).aU,td,(gw p.code pl SY r l.pl).bB⟩) (by omega) hH;refine qj fun K hK=>qA ?_;refine qm ?_;refine qe hK ?_;refine⟨mm-1,by omega,⟨i+1,L2.set i ⟨(gw p.code pl SY r l.pl).dn,(gw p.code pl SY r l.pl).aU,td,(gw p.code pl SY r l.pl).bB⟩,pd,qd,P,Q,sn,rfl,hH,by omega,by rw[QM];exact wG,?_,(fun j hj=>by rw[QF (by omega)];exact hto j (by omega)),gM,gj⟩⟩;intro j l' s' hj gP mh;rw[Qy]
  by_cases hji:j=i
  ·subst hji;rw[hl] at gP;rw[hs] at mh;cases gP;cases mh;rw[List.getElem?_set_self (by rw[θ];omega)];rfl
  ·rw[QF (fun e=>hji e.symm)];exact hdo j l' s' (by omega) gP mh
 ·refine Qx ?_;have hil:i=L.length:=by omega
  have Y7:=ke n;have Y6:((pl:Nat):Int)+min (max n 0) 4=((pl+dO n:Nat):Int):=by unfold dO;omega
  refine qj fun K hK=>qm ?_;refine qg ?_;refine qp (o:=2) ?_;refine ql hH av ?_;refine qm ?_;refine aa.L7 (t1:=0) (t2:=0) rfl (ev rfl) (ev rfl) (ae rfl _) ?_;refine aa.L6 (t1:=0) (t2:=0) rfl (ev rfl) (ev rfl) (ae rfl _) ?_;refine aa.lZ (z:=((pl+dO n:Nat):Int)) rfl (ev rfl) (ev rfl) (by rw[Y6];exact eW (by simp only[mz];omega)) (ae rfl _) ?_;refine qg ?_;refine qp (o:=2) ?_;refine qT hH av fun st hH=>?_;dsimp only[u2,u1,u3,u4,setMany,u5,u6,ν,γ,aC,aK,aJ,ay,dP] at hH;refine qe hK ?_;refine⟨fun i h=>(by cases h),_,_,_,rfl,rfl,?_⟩;refine⟨rfl,L2,?_,pd,qd,P,Q,sn,hH,gM,gj⟩;refine QC fun j=>?_
  by_cases hj:j<L.length
  ·obtain⟨l,hl⟩:∃l,L[j]?=some l:=⟨L[j]'hj,η _⟩
   obtain⟨s,hs⟩:∃s,p.ak[j]?=some s:=⟨p.ak[j]'(by omega),η _⟩
   rw[hdo j l s (by omega) hl hs,mL (s:=s.toNat) (l:=l.pl)]
   ·unfold ba;rw[ρ,hs];rfl
   ·rw[ρ,hl];rfl
  ·rw[Qv (by simp;omega),Qv];rw[gR]
   ·simp;omega
   ·unfold ba;simp;omega
def jc (code:List aQ) (pl:Nat) (l:PL):PL:=⟨(lp code pl true l.bB (jS code.length l.dn l.aU)).dn,(lp code pl true l.bB (jS code.length l.dn l.aU)).aU,[]⟩
def kc (l:PL):List D:=aJ l.dn l.aU .nul
theorem Ni {pl:Nat} {L:List VL} (hF:S.flr≤N) (hp:p.ok) (hR:bE p) (ib:pl≤4000000000000) (pR:L.length=p.ak.length) (bA:∀l∈L,l.pl.ok p.code.length) (hM:MH [] N S s0 ks kv p pl ld L H):
  ∃d ai,Ev pv 21 [.ptr kv 0 0] s0 d ai∧MH [.aO d 12 ((L.map fun l=>jc p.code pl l.pl).map kc)] N S ai ks kv p pl ld L H:=by
 have RD:=hR.sl;refine Ev.iD rfl aac rfl rfl rfl ?_;dsimp only[u3,u4,ς,ξ,γ,w1,w2];change ab _ _ _ _ s0 _;obtain⟨pd,qd,P,Q,sn,hH,gM,gj⟩:=hM;dsimp only[u4] at hH;refine qq<|qj fun K hK=>qm ?_;refine qe hK<|qq<|qj fun K hK=>qm ?_;refine qe hK<|qq<|qq<|qj fun K hK=>qm ?_;refine qg ?_;refine qp (o:=3) ?_;refine ql hH av ?_;refine qn ?_ (hR:=hH.rows gH);simp only[θ];refine qm ?_;refine qe hK<|π<|Qz (fun mm fr st=>∃(i:Nat) (od pd qd:D) (P Q:List Nat) (sn:List Bool),fr.clean=⟨13,[.ptr kv 0 0,ez fr 1,ez fr 2,od,ez fr 4,ez fr 5,ez fr 6,ez fr 7,ez fr 8,ez fr 9,ez fr 10,.int .i64 (L.length:Nat),.int .i64 (i:Nat)],[]⟩∧Has N S st (.aO od 12 (((L.map fun l=>jc p.code pl l.pl).take i).map kc)::.box kv (.mem 0 false [p.cd,p.sd,.int .i64 (pl:Nat),ld,.ptr ks 0 0])::.box ks (.mem 0 false [pd,qd])::.aO pd 1 (P.map gL)::.aO qd 2 (Q.map ov)::.aO ld 12 (L.map dP)::(L.map pX++H))∧(i+mm=L.length)∧(dC P Q sn)∧(sn.length=p.code.length)) (L.length) ?_ ?_
 ·exact⟨0,.nul,_,_,_,_,_,rfl,(hH.ew 12),by omega,gM,gj⟩
 rintro mm fr st ⟨i,od,pd,qd,P,Q,sn,hfr,hH,hi,gM,gj⟩;rw[hfr];clear hfr;generalize ez fr=ee;clear fr;refine qq<|qj fun K hK=>qg ?_;refine qe hK<|qq ?_;refine χ (by rfl) (fun hlt=>?_) (fun hlt=>?_)<;>try simp only[decide_eq_true_eq,decide_eq_false_iff_not] at hlt
 ·refine τ ?_;have hil:i<L.length:=by omega
  obtain⟨l,hl⟩:∃l,L[i]?=some l:=⟨L[i]'hil,η _⟩
  obtain⟨yc,uF⟩:=bA l (ι hl);simp only[VL.pl] at yc uF;have hge:(L.map fun l=>jc p.code pl l.pl)[i]?=some (jc p.code pl l.pl):=by rw[ρ,hl];rfl
  have ni:(((L.map fun l=>jc p.code pl l.pl).take i).map kc).length=i:=by simp;omega
  refine qq<|π<|qq<|qj fun K hK=>qm ?_;refine qm ?_;refine qe hK ?_;obtain⟨_,st1,aL,rd,rfl,hM⟩:=uO (e:=true) hF hp hR ib hl yc (by omega) (MH.push [_] [] ⟨pd,qd,P,Q,sn,hH,gM,gj⟩);clear gM gj;have hM:=MH.pull [_] [] (MH.mono 1 hM);obtain⟨pd,qd,P,Q,sn,Sv,gM,gj⟩:=hM;dsimp only[u3,u4] at Sv;generalize hB:((L.map fun l=>jc p.code pl l.pl).take i).map kc=B at*;refine qq<|qj fun K hK=>qm ?_;refine qm ?_;have hH:=Sv;refine qv aL ?_;refine qm ?_;refine qg ?_;refine qg ?_;refine qa hH fun k5 st yh hH=>?_;refine qS hH av fun st hH=>?_;dsimp only[u2,u1,u3,u4,setMany,u5,u6,ν,γ,aC,aK,aJ,ay,dP,kc] at hH;refine qm ?_;refine qe hK ?_;clear Sv;refine qj fun K hK=>qm ?_;refine Ξ (m:=12) hH rfl (ev rfl) (by exact av) (by dsimp only[ε,κ,ζ,μ,aC,aK,aJ,ay,dP,kc]<;>rfl) rfl rfl (ae rfl _) ?_;refine qh (s:=12) (vs:=[_]) hH fun k23 st U2 hH=>?_;refine QN (s:=12) hH rfl (ev rfl) (ev rfl) (by exact dF) (by exact hH.rows (by exact av)) rfl rfl rfl rfl rfl rfl rfl ⟨(δ rfl),(δ rfl)⟩ (fun _=>(ae rfl _)) (by simp only[QQ,Ψ,θ]<;>omega) (by exact .inl hF) (fun x24 st hH=>?_);dsimp only[u2,u1,u3,u4,setMany,u5,u6,ν,γ,aC,aK,aJ,ay,dP,kc] at hH;refine qm ?_;refine qe hK<|qj fun K hK=>qA ?_;refine qm ?_;refine qe hK ?_;exact⟨mm-1,by omega,⟨i+1,x24,pd,qd,P,Q,sn,rfl,(by rw[Δ,hge,Φ,Γ,hB];exact hH.drop 2),by omega,gM,gj⟩⟩
 ·refine Qx ?_;have hil:i=L.length:=by omega
  refine qq<|qj fun K hK=>qm ?_;refine qm ?_;refine qe hK<|φ ⟨rx,_,_,_,rfl,rfl,?_⟩;rw[ω (by simp;omega)] at hH;exact⟨pd,qd,P,Q,sn,hH,gM,gj⟩
def kH (fr:Go.V.Fr) (k:Nat):Go.V.D:=Go.V.nth .bD fr.loc k
structure wB (p q:Pg):Prop where
 ok:q.ok
 code:q.code=p.code.map eQ
 ak:q.ak=p.ak
theorem D8 (hp:p.ok):∃d,Ev pv 102 [p.d] s0 d s0∧∃q:Pg,d=q.d∧wB p q:=by
 refine Ev.Db rfl Wq rfl rfl rfl ?_;dsimp only[u3,u4,ς,ξ,γ,w1,w2];obtain⟨bt,hF,hH⟩:=ri s0;generalize ah .ro s0=S at*;have hc:=hp.c.arg s0.bs.length S;have hs:=hp.s.arg s0.bs.length S;have hlen:=hp.cl;have Mm:=hp.sl;unfold Pg.d;refine qq<|qj fun K hK=>qb hH fun k1 st qY hH=>?_;dsimp only[u2,u1,u3,u4,setMany,u5,u6,ν,γ,Pg.cs,aC,aw] at hH;refine qa hH fun k2 st hk2 hH=>?_;refine qe hK ?_;have hH:=hH.ew 1;refine qq<|qj fun K hK=>qp (o:=1) ?_;refine ql hH dF ?_;refine qP hH av (QA (by assumption) hH) fun x8 st hH=>?_;dsimp only[u2,u1,u3,u4,setMany,u5,u6,ν,γ,Pg.cs,aC,aw] at hH;refine aa.gK (qs:=[(1,_)]) rfl rfl rfl rfl ⟨rfl,(ev rfl),(by exact hH.eJ (by exact av)),trivial⟩ (by intro q hq;simp only[QX,Θ,or_false] at hq;rcases hq with rfl<;>exact⟨rfl,by exact δ rfl⟩) (by show QY _ [_,_] _=_;dsimp only[QL,QT,u2,u1]<;>rfl) (by dsimp only[Fr.put,u1,u2]<;>rfl) ?_;refine qa hH fun k3 st qX hH=>?_;refine qS hH av fun st hH=>?_;dsimp only[u2,u1,u3,u4,setMany,u5,u6,ν,γ,Pg.cs,aC,aw] at hH;refine qe hK ?_;have hH:=hH.Eg 4;refine qq<|qq<|qj fun K hK=>qp (o:=0) ?_;refine ql hH gH ?_;refine qn ?_;simp only[θ];refine qm ?_;refine qe hK<|π<|Qz (fun mm fr st=>∃(i:Nat) (y:D) (ks:Nat→Prop),fr.clean=⟨14,[kH fr 0,.ptr k1 0 0,.ptr k2 0 0,.ptr k3 0 0,kH fr 4,kH fr 5,kH fr 6,kH fr 7,kH fr 8,kH fr 9,kH fr 10,p.cd,.int .i64 (p.code.length:Nat),.int .i64 (i:Nat)],[]⟩∧Has s0.bs.length S st [.deep ks y 4 ((p.code.take i).map s8),.box k3 (.mem 0 false [y,x8]),.aO x8 1 (p.ak.map aw),.box k2 (.mem 0 false [.nul,.nul]),.box k1 (.mem 0 false [p.cd,p.sd])]∧(i+mm=p.code.length)) (p.code.length) ?_ ?_
 ·exact⟨0,.nul,_,rfl,hH,by omega⟩
 rintro mm fr st ⟨i,y,ks,hfr,hH,hi⟩;rw[hfr];clear hfr;generalize kH fr=ee;clear fr;refine qq<|qj fun K hK=>qg ?_;refine qe hK<|qq ?_;refine χ (by rfl) (fun h1=>?_) (fun h1=>?_)<;>try simp only[decide_eq_true_eq,decide_eq_false_iff_not] at h1
 ·refine τ ?_
  obtain⟨q,hq⟩:∃q,p.code[i]?=some q:=⟨p.code[i]'(by omega),η _⟩
  have hr:=eB hq;have x_:=hp.i q (ι hq);have vV:=x_.1;have S9:=x_.1.arg s0.bs.length S;have ni:=x_.2;have ng:((p.code.take i).map s8).length≤1048576:=by rw[θ,Qw];omega
  refine qq<|π<|qq<|qj fun K hK=>qr fun WJ Mz=>?_;refine QD rfl (ev rfl) (by assumption) rfl (ae rfl _) ?_;refine qa hH fun k5 st yh hH=>?_;refine qS hH av fun st hH=>?_;dsimp only[u2,u1,u3,u4,setMany,u5,u6,ν,γ,Pg.cs,aC,aw] at hH;refine qe hK ?_;have hH:=hH.ew 2;refine qq<|qj fun K hK=>qp (o:=3) ?_;refine ql hH bh ?_;refine QN (s:=2) hH rfl (ev rfl) (ev rfl) (by exact av) (by exact QA (by assumption) hH) rfl rfl rfl rfl rfl rfl rfl ⟨(δ rfl),(δ rfl)⟩ (fun _=>(ae rfl _)) (by simp only[Ψ,θ]<;>omega) (by exact .inl hF) (fun SV st hH=>?_);dsimp only[u2,u1,u3,u4,setMany,u5,u6,ν,γ,Pg.cs,aC,aw] at hH;refine qp (o:=3) ?_;refine qT hH bh (fun st hH=>?_) (iy:=hH.eJ av);dsimp only[u2,u1,u3,u4,setMany,u5,u6,ν,γ,Pg.cs,aC,aw] at hH;refine qe hK<|qj fun K hK=>qp (o:=0) ?_;refine ql hH fm ?_;refine Ξ (m:=4) hH rfl (ev rfl) (by exact bh) (by dsimp only[ε,κ,ζ,μ,Pg.cs,aC,aw]<;>rfl) rfl rfl (ae rfl _) ?_;refine qh (s:=4) (vs:=[_]) hH fun k24 st YJ hH=>?_;obtain⟨hH,MU⟩:=hH.tm (i:=1) (j:=3) (by decide) bh fm (eo _);dsimp only[u1,u2] at hH;refine Qb hH rfl rfl rfl fm (hH.rows av) (.cons (.cons (.plain _ rfl) (.cons (.plain _ rfl) (.cons (.plain _ rfl) (.cons MU .nil)))) .nil) rfl rfl rfl rfl rfl rfl rfl ⟨(δ rfl),(δ rfl)⟩ (fun _=>(ae rfl _)) (by show _+1≤_;omega) (.inl hF) (fun x25 st hH=>?_);dsimp only[u1,u2] at hH;refine qp (o:=0) ?_;refine Qc hH rfl (ev rfl) (ev rfl) (by exact hH.sZ (by exact fm)) (by exact rfl) (by exact gH) (by exact δ rfl) (by exact .inl hF) (fun st hH=>?_);dsimp only[u2,u1,u3,u4,setMany,u5,u6,ν,γ,Pg.cs,aC,aw] at hH;refine qe hK<|qj fun K hK=>qA ?_;refine qm ?_;refine qe hK ?_;exact⟨mm-1,by omega,⟨i+1,x25,_,rfl,(by rw[Δ,hq,Φ,Γ];exact hH.drop 3),by omega⟩⟩
 ·refine Qx<|qq<|qj fun K hK=>?_;refine Ξ (m:=2) hH rfl (ev rfl) (by exact bh) (by dsimp only[ε,κ,ζ,μ,Pg.cs,aC,aw]<;>rfl) rfl rfl (ae rfl _) ?_;refine qS hH fm fun st hH=>?_;dsimp only[u2,u1,u3,u4,setMany,u5,u6,ν,γ,Pg.cs,aC,aw] at hH;refine qe hK ?_;rw[ω (by omega)] at hH;have h1:=hH.kb av (n:=14) (by decide);have h2:=hH.ra dF (iR _) (n:=15) (by decide)
  have h3:bn st s0.bs.length false 16 (.agg [y,x8])=some (.agg [.sl ((p.code.map s8).map (jR 4)),.sl ((p.ak.map aw).map (jR 1))]):=by
   show(fN (bn st s0.bs.length false 15) [y,x8]).map D.agg=_;simp only[fN,h1,h2,QJ]
  refine φ ⟨rx,_,_,hH.l_ rfl fm rfl,rl bt hH h3,⟨_,p.code.map eQ,Bj p.ak,p.ak⟩,rfl,⟨?_,sr _,?_,by simpa using hlen,Mm⟩,rfl,rfl⟩
  ·have h0:(p.code.map eQ).map aC=p.code.map s8:=by rw[Qk];rfl
   show dr _ 4 ((p.code.map eQ).map aC);rw[h0]
   have h4:∀e∈(p.code.map s8),e.length=4:=by
    intro e he;obtain⟨q,_,rfl⟩:=ψ.1 he;rfl
   have:=dr.frozen (s:=4) (es:=p.code.map s8) h4 (by
    intro e he d hd;obtain⟨q,_,rfl⟩:=ψ.1 he;simp only[s8,aC,eQ,QX,Θ,or_false] at hd
    rcases hd with rfl|rfl|rfl|rfl<;>rfl)
   exact this
  ·intro i hi;obtain⟨q,hq,rfl⟩:=ψ.1 hi;exact Fu (hp.i q hq)
theorem wB.right {q:Pg} (h:wB p q) (hR:bE p):bE q:=(zg h.code h.ak).2 hR
theorem wO (hF:S.flr≤N) (hp:p.ok) (hR:bE p) (hH:Has N S s0 H):
  ∃r ai,Ev pv 52 [p.d] s0 r ai∧∃kv ks q,r=.tup [.ptr kv 0 0,.int .i64 0]∧wB p q∧MH [] N S ai ks kv q 0 .nul [] H:=by
 have hc:=hp.c.arg N S;have hcl:=hR.cl;obtain⟨_,Se,q,rfl,hq⟩:=D8 (s0:=s0) hp;have hown:∀st,∃d,Ev pv 102 [p.d] st d st∧∃q:Pg,d=q.d∧wB p q:=fun st=>D8 hp;unfold Pg.d at hown;unfold Pg.d;clear Se hq q;refine Ev.iD rfl ZW rfl rfl rfl ?_;dsimp only[u3,u4,ς,ξ,γ,w1,w2];change ab _ _ _ _ s0 _;refine qq<|qj fun K hK=>qb hH fun k1 st qY hH=>?_;dsimp only[u2,u1,u3,u4,setMany,u5,u6,ν,γ,Pg.cs,aC,aw] at hH;refine qm ?_;refine qm ?_;refine qe hK<|qq<|qq<|qj fun K hK=>?_;refine Ξ (m:=2) hH rfl (ev rfl) (by exact av) (by dsimp only[ε,κ,ζ,μ,Pg.cs,aC,aw]<;>rfl) rfl rfl (ae rfl _) ?_;refine qv (mH (p:=p) hp) ?_;refine qg ?_;refine qe hK<|qE rfl (by rw[cD hR];rfl) ?_;refine τ<|qq<|qj fun K hK=>qp (o:=0) ?_;refine ql hH av ?_;refine qn ?_;simp only[θ];obtain⟨_,st,aL,ks,rfl,pd,qd,P,Q,hH,bA⟩:=tW (n:=p.code.length) hF (by omega) hH;refine qv aL ?_;refine qm ?_;refine qg ?_;refine qg ?_;refine qm ?_;refine qm ?_;refine qe hK ?_;obtain⟨_,aL,q,rfl,hq⟩:=hown st;refine qq<|qj fun K hK=>?_;refine Ξ (m:=2) hH rfl (ev rfl) (by exact fm) (by dsimp only[ε,κ,ζ,μ,Pg.cs,aC,aw]<;>rfl) rfl rfl (ae rfl _) ?_;refine qv aL ?_;refine qm ?_;refine QR (d:=.agg [q.cd,q.sd,.int .i64 0,.nul,.ptr ks 0 0]) (st1:=_) rfl rfl rfl (ae rfl _) ?_;refine qb hH fun k20 st YK hH=>?_;refine qm ?_;refine qm ?_;refine qm ?_;refine qe hK<|φ ⟨rx,_,_,_,rfl,rfl,?_⟩;have hl:(List.replicate p.code.length false).length=q.code.length:=by rw[List.length_replicate,hq.code,θ]
 exact⟨k20,ks,q,rfl,hq,pd,qd,P,Q,_,Has.lA [_] [_,_,_,_] ((hH.erase 4).ew 12),bA,hl⟩
def oX (fr:Go.V.Fr) (k:Nat):Go.V.D:=Go.V.nth .bD fr.loc k
def WG (l:List iS):D:=.sl ((l.map aK).map (jR 11))
def jr (l:PL):List D:=aJ l.dn l.aU (WG l.bB)
def jE (L:List PL):D:=.sl ((L.map jr).map (jR 12))
def uy (pl:Nat) (L:List PL):D:=.agg [.int .i64 (pl:Nat),jE L]
theorem jU (l:List iS):∀e∈l.map aK,∀d∈e,cv d=true:=by
 intro e he d hd;obtain⟨q,_,rfl⟩:=ψ.1 he;simp only[aK,QX,Θ,or_false] at hd
 rcases hd with rfl|rfl|rfl|rfl|rfl|rfl|rfl|rfl|rfl|rfl|rfl<;>rfl
theorem Np (l:List iS):dr (WG l) 11 (l.map aK):=dr.frozen (Gh l) (jU l)
theorem Q5 (L:List PL):∀e∈L.map jr,e.length=12:=by
 intro e he;obtain⟨q,_,rfl⟩:=ψ.1 he;rfl
theorem D2 (L:List PL):∀e∈L.map jr,∀d∈e,cv d=true:=by
 intro e he d hd;obtain⟨q,_,rfl⟩:=ψ.1 he;simp only[jr,aJ,QX,Θ,or_false] at hd
 rcases hd with rfl|rfl|rfl|rfl|rfl|rfl|rfl|rfl|rfl|rfl|rfl|rfl<;>rfl
theorem nN (L:List PL):dr (jE L) 12 (L.map jr):=dr.frozen (Q5 L) (D2 L)
theorem Q6 {l:PL} (h:L[i]?=some l):(L.map jr)[i]?=some (jr l):=by rw[ρ,h];rfl
theorem wx {ks:Nat→Prop} (h:fx st ks x y):c7 (fx st ks) (aJ dn f x) (aJ dn f y):=
 .cons (.plain _ rfl) (.cons (.plain _ rfl) (.cons (.plain _ rfl) (.cons (.plain _ rfl) (.cons (.plain _ rfl) (.cons (.plain _ rfl) (.cons (.plain _ rfl) (.cons (.plain _ rfl) (.cons (.plain _ rfl) (.cons (.plain _ rfl) (.cons (.plain _ rfl) (.cons h .nil)))))))))))
theorem CX {L:List VL} (hF:S.flr≤N) (pR:L.length≤1000) (hx:Arg N S 12 x (L.map dP)) (ht:∀l∈L,Arg N S 11 l.td (l.bB.map aK)∧l.bB.length≤1000) (hH:Has N S s0 H):
  ∃d ai,Ev pv 57 [x] s0 d ai∧∃ks,Has N S ai (.deep ks d 12 ((L.map VL.pl).map jr)::H):=by
 refine Ev.iD rfl Vz rfl rfl rfl ?_;dsimp only[u3,u4,ς,ξ,γ,w1,w2];change ab _ _ _ _ s0 _;refine qq<|qj fun K hK=>qm ?_;refine qe hK<|qq<|qj fun K hK=>qm ?_;refine qe hK<|qq<|qq<|qj fun K hK=>qm ?_;refine qn ?_;simp only[θ];refine qm ?_;refine qe hK<|π<|Qz (fun mm fr st=>∃(i:Nat) (y:D) (ks:Nat→Prop),fr.clean=⟨9,[oX fr 0,oX fr 1,oX fr 2,y,oX fr 4,oX fr 5,x,.int .i64 (L.length:Nat),.int .i64 (i:Nat)],[]⟩∧Has N S st (.deep ks y 12 (((L.map VL.pl).take i).map jr)::H)∧(i+mm=L.length)) (L.length) ?_ ?_
 ·exact⟨0,.nul,_,rfl,(hH.Eg 12),by omega⟩
 rintro mm fr st ⟨i,y,ks,hfr,hH,hi⟩;rw[hfr];clear hfr;generalize oX fr=ee;clear fr;refine qq<|qj fun K hK=>qg ?_;refine qe hK<|qq ?_;refine χ (by rfl) (fun hlt=>?_) (fun hlt=>?_)<;>try simp only[decide_eq_true_eq,decide_eq_false_iff_not] at hlt
 ·refine τ ?_;have hil:i<L.length:=by omega
  obtain⟨l,hl⟩:∃l,L[i]?=some l:=⟨L[i]'hil,η _⟩
  obtain⟨F6,ng⟩:=ht l (ι hl);have gB:=oy hl;have hlp:(L.map VL.pl)[i]?=some l.pl:=by rw[ρ,hl];rfl
  have XW:(((L.map VL.pl).take i).map jr).length≤1048576:=by rw[θ,Qw,θ];omega
  refine qq<|π<|qq<|qj fun K hK=>qr fun WK MA=>?_;refine QD rfl (ev rfl) (by assumption) rfl (ae rfl _) ?_;refine qa hH fun k5 st yh hH=>?_;refine qS hH av fun st hH=>?_;dsimp only[u2,u1,u3,u4,setMany,u5,u6,ν,γ,aC,aK,aJ,ay,dP,jr] at hH;refine qe hK ?_;have hH:=hH.ew 11;refine qq<|qj fun K hK=>qp (o:=11) ?_;refine ql hH bh ?_;refine QN (s:=11) hH rfl (ev rfl) (ev rfl) (by exact av) (by exact QA (by assumption) hH) rfl rfl rfl rfl rfl rfl rfl ⟨(δ rfl),(δ rfl)⟩ (fun _=>(ae rfl _)) (by simp only[Ψ,θ]<;>omega) (by exact .inl hF) (fun x14 st hH=>?_);dsimp only[u2,u1,u3,u4,setMany,u5,u6,ν,γ,aC,aK,aJ,ay,dP,jr] at hH;refine qp (o:=11) ?_;refine qT hH bh (fun st hH=>?_) (iy:=hH.eJ av);dsimp only[u2,u1,u3,u4,setMany,u5,u6,ν,γ,aC,aK,aJ,ay,dP,jr] at hH;refine qe hK<|qj fun K hK=>qm ?_;refine Ξ (m:=12) hH rfl (ev rfl) (by exact bh) (by dsimp only[ε,κ,ζ,μ,aC,aK,aJ,ay,dP,jr]<;>rfl) rfl rfl (ae rfl _) ?_;refine qh (s:=12) (vs:=[_]) hH fun k18 st YM hH=>?_;obtain⟨hH,MU⟩:=hH.tm (i:=1) (j:=3) (by decide) bh fm (jU _);dsimp only[u1,u2] at hH;refine Qb hH rfl rfl rfl fm (hH.rows av) (.cons (wx (dn:=l.dn) (f:=l.aU) MU) .nil) rfl rfl rfl rfl rfl rfl rfl ⟨(δ rfl),(δ rfl)⟩ (fun _=>(ae rfl _)) (by show _+1≤_;omega) (.inl hF) (fun SV st hH=>?_);dsimp only[u1,u2] at hH;refine qm ?_;refine qe hK<|qj fun K hK=>qA ?_;refine qm ?_;refine qe hK ?_;exact⟨mm-1,by omega,⟨i+1,SV,_,rfl,(by rw[Δ,hlp,Φ,Γ];exact hH.drop 3),by omega⟩⟩
 ·refine Qx ?_;have hil:i=L.length:=by omega
  refine qq<|qj fun K hK=>qm ?_;refine qm ?_;refine qe hK<|φ ⟨rx,_,_,_,rfl,rfl,?_⟩;rw[ω (by simp;omega)] at hH;exact⟨_,hH⟩
structure AM (N:Nat) (S:St) (kv ks:Nat) (p:Pg) (pl:Nat) (ld:D) (L:List VL):Prop where
 lt:kv<N
 le:N≤S.bs.length
 at_:S.bs[kv]?=some (.mem 0 false [p.cd,p.sd,.int .i64 (pl:Nat),ld,.ptr ks 0 0])
 ld:Arg N S 12 ld (L.map dP)
 td:∀l∈L,Arg N S 11 l.td (l.bB.map aK)
 ksl:ks<N
theorem AM.box {pl:Nat} {L:List VL} (h:AM N S kv ks p pl ld L) (hH:Has N S st H):st.bs[kv]?=some (.mem 0 false [p.cd,p.sd,.int .i64 (pl:Nat),ld,.ptr ks 0 0]):=by
 rw[hH.ex.low kv h.lt];exact h.at_
theorem AM.refs {pl:Nat} {L:List VL} (h:AM N S kv ks p pl ld L) (hp:p.ok) (hH:Has N S st H):V.refs [p.cd,p.sd,.int .i64 (pl:Nat),ld,.ptr ks 0 0]≤st.bs.length:=by
 have h1:=hp.c.ref;have h2:=hp.s.ref;have h3:=h.ld.2;have h4:=h.ksl;have h5:=h.le;have h6:=hH.ex.len;simp only[V.refs,QS,h1,h2];omega
theorem AM.to {pl:Nat} {L:List VL} (h:AM N S kv ks p pl ld L) (hH:Has N S st H) (o:Nat):jN st (.ptr kv 0 o) ([p.cd,p.sd,.int .i64 (pl:Nat),ld,.ptr ks 0 0].drop o):=
 .inl ⟨kv,0,o,false,_,rfl,St.mem_of (by rw[hH.ex.low kv h.lt];exact h.at_),QP ..⟩
theorem yT {pl:Nat} {L:List VL} (hp:p.ok) (pR:L.length≤1000) (bA:∀l∈L,l.bB.length≤1000) (hA:AM s0.bs.length s0 kv ks p pl ld L) (eT:s0.ro≤s0.bs.length):
  ∃d ai,Ev pv 15 [.ptr kv 0 0] s0 d ai∧d=uy pl (L.map VL.pl)∧ai=s0:=by
 have hkv:=hA.at_;have iL:=hA.lt;have wa:=hA.ld.1;have Cw:∀(i:Nat) (l:VL),L[i]?=some l→Qq s0 11 l.td (l.bB.map aK):=fun i l hl=>(hA.td l (ι hl)).1;have Mu:=hA.refs hp (Has.start (Qj _) eT);refine Ev.iD rfl aah rfl rfl rfl ?_;dsimp only[u3,u4,ς,ξ,γ,w1,w2];have bt:(ah .rw s0).bs=s0.bs:=rfl;have hF:(ah .rw s0).flr≤s0.bs.length:=Qj _;have hH:Has s0.bs.length (ah .rw s0) (ah .rw s0) []:=Has.start (Qj _) eT;generalize ah .rw s0=S2 at*;have hx:=Ω wa bt;refine qq<|qj fun K hK=>qa hH fun k2 st hk2 hH=>?_;refine qe hK ?_;have ML:st.bs[kv]?=some (.mem 0 false [p.cd,p.sd,.int .i64 (pl:Nat),ld,.ptr ks 0 0]):=by rw[hH.ex.low kv iL,bt];exact hkv
 have zU:jN st (.ptr kv 0 2) [.int .i64 (pl:Nat)]:=.inl ⟨kv,0,2,false,_,rfl,St.mem_of ML,rfl⟩;have Df:jN st (.ptr kv 0 3) [ld]:=.inl ⟨kv,0,3,false,_,rfl,St.mem_of ML,rfl⟩;have hlen:=hH.ex.len;rw[bt] at hlen;change ab _ _ _ _ _ _;refine qq ?_;generalize hK:bj _ _ _ _=K;refine Qa rfl ?_;refine bP.cons ?_;refine qm ?_;refine ο ⟨rfl,?_⟩;refine bP.cons ?_;refine qg ?_;refine ο ⟨rfl,?_⟩;refine bP.cons ?_;refine qp (o:=2) ?_;refine ο ⟨rfl,?_⟩;refine bP.cons ?_;refine qR ?_;refine ο ⟨rfl,?_⟩;refine bP.cons ?_;refine qm ?_;refine ο ⟨rfl,?_⟩;refine bP.cons ?_;refine qg ?_;refine ο ⟨rfl,?_⟩;refine bP.cons ?_;refine qp (o:=3) ?_;refine ο ⟨rfl,?_⟩;refine bP.cons ?_;refine qR ?_;refine ο ⟨rfl,?_⟩;refine bP.cons ?_;obtain⟨yd,st,aL,ks1,hH⟩:=CX hF pR hx (fun l hl=>⟨by obtain⟨i,hi⟩:=QB hl;exact Ω (Cw i l hi) bt,bA l hl⟩) hH;refine qv aL ?_;refine ο ⟨by exact QZ.2 ⟨gk rfl rfl rfl ML (by rw[hH.ex.low kv iL,bt];exact hkv) ML (by omega),rfl⟩,?_⟩;refine bP.cons ?_;refine aa.gK (qs:=[(0,_),(1,_)]) rfl rfl rfl rfl ⟨rfl,(ev rfl),(by rfl),rfl,(ev rfl),(by exact hH.sZ (by exact av)),trivial⟩ (by intro q hq;simp only[QX,Θ,or_false] at hq;rcases hq with rfl|rfl<;>exact⟨rfl,by exact δ rfl⟩) (by show QY _ [_,_] _=_;dsimp only[QL,QT,u2,u1]<;>rfl) (ae rfl _) ?_;refine ο ⟨rfl,?_⟩;refine bP.cons ?_;refine qS hH bh fun st hH=>?_;dsimp only[u2,u1,u3,u4,setMany,u5,u6,ν,γ,aC,aK,aJ,ay,dP,jr] at hH;refine ο ⟨rfl,?_⟩;refine bP.nil ?_;subst hK;have h1:=hH.kb av (n:=14) (by decide)
 have h3:bn st s0.bs.length false 16 (.agg [.int .i64 (pl:Nat),yd])=some (uy pl (L.map VL.pl)):=by
  show(fN (bn st s0.bs.length false 15) [.int .i64 (pl:Nat),yd]).map D.agg=_;simp only[fN,h1]
  rfl
 refine φ ⟨rx,_,_,_,hH.l_ rfl bh rfl,au h3,rfl,?_⟩
 have Y':st.bs.take s0.bs.length=s0.bs:=by
  refine QC fun j=>?_;rw[List.getElem?_take]
  by_cases hj:j<s0.bs.length
  ·rw[if_pos hj,hH.ex.low j hj,bt]
  ·rw[if_neg hj,Qv (by omega)]
 rw[Y']
theorem MH.am {pl:Nat} {L:List VL} (hM:MH [] N S s0 ks kv p pl ld L H):AM s0.bs.length s0 kv ks p pl ld L:=by
 obtain⟨pd,qd,P,Q,sn,hH,gM,gj⟩:=hM;dsimp only[u4] at hH
 exact⟨(hH.ge av).2,Qj _,hH.at av,⟨hH.rows gH,kG hH gH⟩,fun l hl=>(by
  obtain⟨i,hi⟩:=QB hl;have h:=Dn (H:=H) [.box kv (.mem 0 false [p.cd,p.sd,.int .i64 (pl:Nat),ld,.ptr ks 0 0]),.box ks (.mem 0 false [pd,qd]),.aO pd 1 (P.map gL),.aO qd 2 (Q.map ov),.aO ld 12 (L.map dP)] rfl hi
  exact⟨hH.rows h,kG hH h⟩),hH.sa bh rfl⟩
theorem MH.ro {pl:Nat} {L:List VL} (hM:MH [] N S s0 ks kv p pl ld L H):s0.ro≤s0.bs.length:=by
 obtain⟨pd,qd,P,Q,sn,hH,gM,gj⟩:=hM;rw[hH.ex.ro];exact QO hH.eT (QO hH.hN hH.ex.len)
def mT (fr:Go.V.Fr) (k:Nat):Go.V.D:=Go.V.nth .bD fr.loc k
theorem sJ (st:St) (N:Nat) (dn:Bool) (f:nc):bn st N true 15 (.agg (aJ dn f .nul))=some (.agg (aJ dn f .nul)):=by
 have h1:∀(b:Bool) (x1 x2 x3 x4 x5 x6 x7 x8 x9 x10:Int),bn st N true 15 (.agg [.bool b,.int .i64 x1,.int .i64 x2,.int .i64 x3,.int .i64 x4,.int .i64 x5,.int .i64 x6,.int .i64 x7,.int .i64 x8,.int .i64 x9,.int .i64 x10,.nul])=some (.agg [.bool b,.int .i64 x1,.int .i64 x2,.int .i64 x3,.int .i64 x4,.int .i64 x5,.int .i64 x6,.int .i64 x7,.int .i64 x8,.int .i64 x9,.int .i64 x10,.nul]):=fun _ _ _ _ _ _ _ _ _ _ _=>rfl;exact h1 _ _ _ _ _ _ _ _ _ _ _
theorem pQ {j:Nat} {s:Nat} (hH:Has N S st H) (hj:H[j]?=some (.aO x s es)) (hp:∀e∈es,∀d∈e,cv d=true) {n:Nat} (hn:3≤n):∃y,bn st N true n x=some y∧dr y s es:=by
 have hf:=hH.ra hj hp hn;have tz:=(hH.own hj).tM;have hown:=hH.own hj
 obtain⟨n,rfl⟩:∃m,n=m+1:=⟨n-1,by omega⟩
 cases hown with
 |nul=>exact⟨.nul,rfl,.inl ⟨rfl,rfl⟩⟩
 |win k aG off es c hm hl hc he=>exact⟨_,hf,dr.frozen tz hp⟩
theorem pF {pl:Nat} {e:Bool} {aU:nc} {bB:List iS} {d:D} (hp:p.ok) (hR:bE p) (ib:pl≤4000000000000) (hd:Qq s0 11 d (bB.map aK)) (tv:∀t∈bB,t.pc<p.code.length) (ng:bB.length≤1048576):
  ∃r,Ev pv 69 [p.d,.agg (aJ dn aU d),.int .i64 (pl:Nat),.bool e] s0 r s0∧∃rd,r=.tup [.agg (aJ (lp p.code pl e bB (jS p.code.length dn aU)).dn (lp p.code pl e bB (jS p.code.length dn aU)).aU .nul),rd]∧dr rd 11 ((lp p.code pl e bB (jS p.code.length dn aU)).rdy.map aK):=by
 have hcl:=hR.cl;generalize hW:lp p.code pl e bB (jS p.code.length dn aU)=W at*;refine Ev.Db rfl ZL rfl rfl rfl ?_;dsimp only[u3,u4,ς,ξ,γ,w1,w2];obtain⟨bt,hF,hH⟩:=ri s0;generalize ah .ro s0=S at*;have hc:=hp.c.arg s0.bs.length S;have hlen:=hp.cl;have hdx:=Ω hd bt;have abR:=iV hd;unfold Pg.d;refine qq<|qj fun K hK=>qb hH fun k4 st Tf hH=>?_;dsimp only[u2,u1,u3,u4,setMany,u5,u6,ν,γ,aC,aK,aJ,ay,bf,Pg.cs] at hH;refine qb hH fun k5 st yh hH=>?_;dsimp only[u2,u1,u3,u4,setMany,u5,u6,ν,γ,aC,aK,aJ,ay,bf,Pg.cs] at hH;refine qa hH fun k8 st Td hH=>?_;refine qm ?_;refine qe hK<|qq<|qj fun K hK=>qp (o:=0) ?_;refine ql hH bh ?_;refine qp (o:=1) ?_;refine Ξ (m:=10) hH rfl (ev rfl) (by exact bh) (by dsimp only[ε,κ,ζ,μ,aC,aK,aJ,ay,bf,Pg.cs]<;>rfl) rfl rfl (ae rfl _) ?_;refine QR (d:=.agg (aJ dn aU .nul)) (st1:=_) rfl rfl rfl (ae rfl _) ?_;refine qa hH fun k10 st U4 hH=>?_;refine qS hH av fun st hH=>?_;dsimp only[u2,u1,u3,u4,setMany,u5,u6,ν,γ,aC,aK,aJ,ay,bf,Pg.cs] at hH;refine qe hK<|qq<|qj fun K hK=>?_;refine Ξ (m:=2) hH rfl (ev rfl) (by exact fm) (by dsimp only[ε,κ,ζ,μ,aC,aK,aJ,ay,bf,Pg.cs]<;>rfl) rfl rfl (ae rfl _) ?_;refine qp (o:=0) ?_;refine ql hH fm ?_;refine qn ?_;simp only[θ];refine aa.sB (s:=1) hH rfl rfl rfl rfl rfl rfl rfl rfl (δ rfl) (by omega) (fun _=>(ae rfl _)) (fun k22 st abL hH=>?_);refine qm ?_;refine qm ?_;refine QR (d:=.agg [p.cd,p.sd,.ptr k10 0 0,.win k22 0 0 p.code.length 1,.int .i64 (pl:Nat),.bool e,.nul]) (st1:=_) rfl rfl rfl (ae rfl _) ?_;refine qb hH fun k26 st YI hH=>?_;refine qm ?_;refine qe hK<|qq<|qq<|qj fun K hK=>qm ?_;refine qe hK ?_;have hH:=Has.lA [_,_] [_] hH;have hH:=Has.lA [_] [_] hH;have hH:=Has.lA [_] [_,_,_] (hH.ew 11);dsimp only[u3,u4] at hH;refine π<|Qz (fun mm fr st=>∃(j:Nat) (w:Wk) (rest:List iS) (od:D),fr.clean=⟨13,[mT fr 0,mT fr 1,mT fr 2,mT fr 3,.ptr k4 0 0,.ptr k5 0 0,mT fr 6,mT fr 7,.ptr k8 0 0,.nul,.ptr k10 0 0,.ptr k26 0 0,.int .i64 (j:Nat)],[]⟩∧Has s0.bs.length S st (.box k26 (.mem 0 false [p.cd,p.sd,.ptr k10 0 0,.win k22 0 0 p.code.length 1,.int .i64 (pl:Nat),.bool e,od])::.box k10 (.mem 0 false (aJ w.dn w.aU .nul))::.aO (.win k22 0 0 p.code.length 1) 1 (w.seen.map bf)::.aO od 11 (w.rdy.map aK)::.box k8 (.mem 0 false (aJ false np .nul))::.box k5 (.mem 0 false (aJ dn aU d))::.box k4 (.mem 0 false [p.cd,p.sd])::[])∧(j+mm=bB.length)∧(rest=bB.drop j)∧(lp p.code pl e rest w=W)∧(w.seen.length=p.code.length)∧(w.rdy.length+w.seen.count false≤1048576)) (bB.length) ?_ ?_
 ·exact⟨0,jS p.code.length dn aU,bB,.nul,rfl,(by unfold jS;simp only[List.map_replicate];exact hH),by omega,rfl,hW,by simp[jS],by(have:=QG (a:=false) (l:=(jS p.code.length dn aU).seen);simp[jS] at this⊢;omega)⟩
 rintro mm fr st ⟨j,w,rest,od,hfr,hH,hj,kV,hex,iE,ni⟩;rw[hfr];clear hfr;generalize mT fr=ee;clear fr;refine qq<|qq<|qj fun K hK=>qm ?_;refine qp (o:=11) ?_;refine ql hH qG ?_;refine qn ?_;simp only[θ];refine qg ?_;refine qe hK ?_;refine χ (by rfl) (fun hlt=>?_) (fun hlt=>?_)<;>try simp only[decide_eq_true_eq,decide_eq_false_iff_not] at hlt
 ·refine τ ?_;have jI:j<bB.length:=by omega
  obtain⟨t,ht⟩:∃t,bB[j]?=some t:=⟨bB[j]'jI,η _⟩
  have Ms:=l4 ht;have Up:=tv t (ι ht)
  have tI:rest=t::bB.drop (j+1):=by
   rw[kV,QK jI]
   congr 1
   exact QU.inj ((η _).symm.trans ht)
  have wc:=QG (a:=false) (l:=w.seen);have Sd:=cN p.code pl e (p.code.length+1) w t;rw[tI] at hex;have hex:(if(b_ p.code pl e (p.code.length+1) w t).2=true then(b_ p.code pl e (p.code.length+1) w t).1 else lp p.code pl e (bB.drop (j+1)) (b_ p.code pl e (p.code.length+1) w t).1)=W:=hex;refine qq<|π<|qq<|qj fun K hK=>qm ?_;refine qp (o:=11) ?_;refine ql hH qG ?_;refine qm ?_;refine qr fun p38 UF=>?_;refine qf (fo:=0) fun Xu RR=>?_;refine qR ?_;refine qp (o:=11) ?_;refine ql hH qG ?_;refine qm ?_;refine qr fun WI My=>?_;refine qf (fo:=1) fun Xs RP=>?_;refine qR ?_;obtain⟨_,st,aL,rfl,hT⟩:=w9 (ka:=k26) (kl:=k10) (S:=S) (sd:=.win k22 0 0 p.code.length 1) (e:=e) hF hp hR ib (p.code.length+1) w t _ _ Up iE (by omega) ni ⟨od,hH⟩;refine qv aL ?_;refine qe hK ?_;generalize b_ p.code pl e (p.code.length+1) w t=R1 at*;obtain⟨w1,b1⟩:=R1;obtain⟨cW,aZ,aR,cx⟩:=Sd;simp only at cW aZ aR cx hT hex;obtain⟨S5,hH⟩:=hT;have o6:w1.seen.length=p.code.length:=cW.trans iE
  cases b1 with
  |true=>
   rw[if_pos rfl] at hex;subst hex;refine qB ?_;refine Qx ?_;have tK:=hH;have CA:=kG hH dF;have Mt:=kG hH fm;have RJ:=hH.sa bh (k:=k10) rfl;have EL:=hp.c.ref;have RI:=hp.s.ref;change ab _ _ _ _ _ _;refine qq ?_;generalize hK:bj _ _ _ _=K;refine Qa rfl ?_;refine bP.cons ?_;refine Ξ (m:=12) hH rfl (ev rfl) (by exact bh) (by dsimp only[ε,κ,ζ,μ,aC,aK,aJ,ay,bf,Pg.cs]<;>rfl) rfl rfl (ae rfl _) ?_;refine ο ⟨rfl,?_⟩;refine bP.cons ?_;refine qm ?_;refine ο ⟨rfl,?_⟩;refine bP.cons ?_;refine qg ?_;refine ο ⟨rfl,?_⟩;refine bP.cons ?_;refine qp (o:=6) ?_;refine ο ⟨rfl,?_⟩;refine bP.cons ?_;refine ql hH av ?_;refine ο ⟨rfl,?_⟩;refine bP.cons ?_;refine qS hH gH fun st hH=>?_;dsimp only[u2,u1,u3,u4,setMany,u5,u6,ν,γ,aC,aK,aJ,ay,bf,Pg.cs] at hH;refine ο ⟨by exact QZ.2 ⟨gk rfl rfl rfl (tK.at av) (hH.at av) (tK.at av) (by simp only[refs,QS,EL,RI];simp only[QS] at CA;omega),rfl⟩,?_⟩;refine bP.cons ?_;refine qm ?_;refine ο ⟨rfl,?_⟩;refine bP.nil ?_;subst hK;have h4:=sJ st s0.bs.length w1.dn w1.aU;obtain⟨rdy,h2,RA⟩:=pQ hH fm (jU _) (n:=15) (by decide)
   have h3:bn st s0.bs.length true 16 (.tup [.agg (aJ w1.dn w1.aU .nul),S5])=some (.tup [.agg (aJ w1.dn w1.aU .nul),rdy]):=by
    show(fN (bn st s0.bs.length true 15) [.agg (aJ w1.dn w1.aU .nul),S5]).map D.tup=_;simp only[fN,h2,h4,QJ]
   refine φ ⟨rx,_,_,hH.lB rfl gH rfl rfl,rl bt hH h3,rdy,rfl,RA⟩
  |false=>
   rw[if_neg (by decide)] at hex;refine qC ?_;refine τ<|qj fun K hK=>qm ?_;refine qA ?_;refine qm ?_;refine qe hK ?_;exact⟨mm-1,by omega,⟨j+1,w1,bB.drop (j+1),S5,rfl,hH,by omega,rfl,hex,o6,by omega⟩⟩
 ·refine Qx ?_;have vZ:rest=[]:=by rw[kV,QH];omega
  subst vZ;have hex:w=W:=hex;subst hex;have tK:=hH;have CA:=kG hH dF;have Mt:=kG hH fm;have RJ:=hH.sa bh (k:=k10) rfl;have EL:=hp.c.ref;have RI:=hp.s.ref;change ab _ _ _ _ _ _;refine qq ?_;generalize hK:bj _ _ _ _=K;refine Qa rfl ?_;refine bP.cons ?_;refine Ξ (m:=12) hH rfl (ev rfl) (by exact bh) (by dsimp only[ε,κ,ζ,μ,aC,aK,aJ,ay,bf,Pg.cs]<;>rfl) rfl rfl (ae rfl _) ?_;refine ο ⟨rfl,?_⟩;refine bP.cons ?_;refine qm ?_;refine ο ⟨rfl,?_⟩;refine bP.cons ?_;refine qg ?_;refine ο ⟨rfl,?_⟩;refine bP.cons ?_;refine qp (o:=6) ?_;refine ο ⟨rfl,?_⟩;refine bP.cons ?_;refine ql hH av ?_;refine ο ⟨rfl,?_⟩;refine bP.cons ?_;refine qS hH gH fun st hH=>?_;dsimp only[u2,u1,u3,u4,setMany,u5,u6,ν,γ,aC,aK,aJ,ay,bf,Pg.cs] at hH;refine ο ⟨by exact QZ.2 ⟨gk rfl rfl rfl (tK.at av) (hH.at av) (tK.at av) (by simp only[refs,QS,EL,RI];simp only[QS] at CA;omega),rfl⟩,?_⟩;refine bP.cons ?_;refine qm ?_;refine ο ⟨rfl,?_⟩;refine bP.nil ?_;subst hK;have h4:=sJ st s0.bs.length w.dn w.aU;obtain⟨rdy,h2,RA⟩:=pQ hH fm (jU _) (n:=15) (by decide)
  have h3:bn st s0.bs.length true 16 (.tup [.agg (aJ w.dn w.aU .nul),od])=some (.tup [.agg (aJ w.dn w.aU .nul),rdy]):=by
   show(fN (bn st s0.bs.length true 15) [.agg (aJ w.dn w.aU .nul),od]).map D.tup=_;simp only[fN,h2,h4,QJ]
  refine φ ⟨rx,_,_,hH.lB rfl gH rfl rfl,rl bt hH h3,rdy,rfl,RA⟩
def oW (fr:Go.V.Fr) (k:Nat):Go.V.D:=Go.V.nth .bD fr.loc k
theorem Eo (f:nc):lb pv .neq 45 (.agg (ay f)) (.agg (ay f))=some (.bool false):=by
 have h:∀b c d e g i j k l m:Int,lb pv .neq 45 (.agg [.int .i64 b,.int .i64 c,.int .i64 d,.int .i64 e,.int .i64 g,.int .i64 i,.int .i64 j,.int .i64 k,.int .i64 l,.int .i64 m]) (.agg [.int .i64 b,.int .i64 c,.int .i64 d,.int .i64 e,.int .i64 g,.int .i64 i,.int .i64 j,.int .i64 k,.int .i64 l,.int .i64 m])=QI (fun b=>D.bool !b) (match some (b==b) with|some true=>(match some (c==c) with|some true=>(match some (d==d) with|some true=>(match some (e==e) with|some true=>(match some (g==g) with|some true=>(match some (i==i) with|some true=>(match some (j==j) with|some true=>(match some (k==k) with|some true=>(match some (l==l) with|some true=>(match some (m==m) with|some true=>some true|some false=>some false|none=>none)|some false=>some false|none=>none)|some false=>some false|none=>none)|some false=>some false|none=>none)|some false=>some false|none=>none)|some false=>some false|none=>none)|some false=>some false|none=>none)|some false=>some false|none=>none)|some false=>some false|none=>none)|some false=>some false|none=>none):=fun _ _ _ _ _ _ _ _ _ _=>rfl;unfold ay;rw[h];simp only[beq_self_eq_true,QJ,QE]
theorem L4 (t:iS):lb pv .neq 50 (.agg (aK t)) (.agg (aK t))=some (.bool false):=by
 have h:∀a b c d e g i j k l m:Int,lb pv .neq 50 (.agg [.int .i64 a,.int .i64 b,.int .i64 c,.int .i64 d,.int .i64 e,.int .i64 g,.int .i64 i,.int .i64 j,.int .i64 k,.int .i64 l,.int .i64 m]) (.agg [.int .i64 a,.int .i64 b,.int .i64 c,.int .i64 d,.int .i64 e,.int .i64 g,.int .i64 i,.int .i64 j,.int .i64 k,.int .i64 l,.int .i64 m])=QI (fun b=>D.bool !b) (match some (a==a) with|some true=>(match(match some (b==b) with|some true=>(match some (c==c) with|some true=>(match some (d==d) with|some true=>(match some (e==e) with|some true=>(match some (g==g) with|some true=>(match some (i==i) with|some true=>(match some (j==j) with|some true=>(match some (k==k) with|some true=>(match some (l==l) with|some true=>(match some (m==m) with|some true=>some true|some false=>some false|none=>none)|some false=>some false|none=>none)|some false=>some false|none=>none)|some false=>some false|none=>none)|some false=>some false|none=>none)|some false=>some false|none=>none)|some false=>some false|none=>none)|some false=>some false|none=>none)|some false=>some false|none=>none)|some false=>some false|none=>none) with|some true=>some true|some false=>some false|none=>none)|some false=>some false|none=>none):=fun _ _ _ _ _ _ _ _ _ _ _=>rfl;unfold aK;rw[h];simp only[beq_self_eq_true,QJ,QE]
theorem ze (hx:Qq s0 11 x (l.map aK)) (hy:Qq s0 11 y (l.map aK)) (hl:l.length≤1073741824):Ev pv 63 [x,y] s0 (.bool true) s0:=by
 refine Ev.h_ rfl ZQ rfl rfl rfl ?_;dsimp only[u3,u4,ς,ξ,γ,w1,w2];obtain⟨bt,hF,hH⟩:=ri s0;generalize ah .ro s0=S at*;have hx:=Ω hx bt;have hy:=Ω hy bt;refine qq<|qj fun K hK=>qm ?_;refine qe hK<|qq<|qq<|qj fun K hK=>qm ?_;refine qn ?_;simp only[θ];refine qm ?_;refine qn ?_;simp only[θ];refine qg ?_;refine qe hK<|qE rfl (by simp) ?_;refine τ<|qq<|qq<|qj fun K hK=>qm ?_;refine qe hK<|π<|Qz (fun mm fr st=>∃(i:Nat),fr.clean=⟨6,[x,y,oW fr 2,oW fr 3,.bool false,.int .i64 (i:Nat)],[]⟩∧Has s0.bs.length S st []∧(i+mm=l.length)) (l.length) ?_ ?_
 ·exact⟨0,rfl,hH,by omega⟩
 rintro mm fr st ⟨i,hfr,hH,hi⟩;rw[hfr];clear hfr;generalize oW fr=ee;clear fr;refine qq<|qq<|qj fun K hK=>qm ?_;refine qm ?_;refine qn ?_;simp only[θ];refine qg ?_;refine qe hK ?_;refine χ (by rfl) (fun h1=>?_) (fun h1=>?_)<;>try simp only[decide_eq_true_eq,decide_eq_false_iff_not] at h1
 ·refine τ ?_
  obtain⟨p,hp⟩:∃p,l[i]?=some p:=⟨l[i]'(by omega),η _⟩
  have gB:=l4 hp;refine qq<|π<|qq<|qj fun K hK=>qm ?_;refine qm ?_;refine qr fun p19 UI=>?_;refine QD rfl (ev rfl) (by assumption) rfl (ae rfl _) ?_;refine qm ?_;refine qm ?_;refine qr fun Xz RW=>?_;refine QD rfl (ev rfl) (by assumption) rfl (ae rfl _) ?_;refine aa.S6 rfl (ev rfl) (ev rfl) (L4 p) (ae rfl _) ?_;refine qe hK<|qC ?_;refine τ<|qj fun K hK=>qm ?_;refine qA ?_;refine qm ?_;refine qe hK ?_;exact⟨mm-1,by omega,⟨i+1,rfl,hH,by omega⟩⟩
 ·refine Qx<|qq<|qj fun K hK=>qm ?_;refine qe hK<|φ ⟨rx,_,rfl,rl bt hH (rfl)⟩
def mJ (es:List (List D)) (L:List PL):Prop:=es.length=L.length∧∀(i:Nat) l,L[i]?=some l→∃d,dr d 11 (l.bB.map aK)∧es[i]?=some (aJ l.dn l.aU d)
theorem mR (L:List PL):mJ (L.map jr) L:=⟨θ _,fun i l h=>⟨WG l.bB,Np _,Q6 h⟩⟩
def jP (st:St) (es:List (List D)) (L:List PL):Prop:=es.length=L.length∧∀(i:Nat) l,L[i]?=some l→∃d,Qq st 11 d (l.bB.map aK)∧es[i]?=some (aJ l.dn l.aU d)
theorem mJ.any (h:mJ es L) (st:St):jP st es L:=⟨h.1,fun i l hl=>by
 obtain⟨d,h1,h2⟩:=h.2 i l hl
 exact⟨d,h1.rows st,h2⟩⟩
theorem uB (hx:Qq s0 12 x es) (hy:Qq s0 12 y fs) (o9:jP s0 es L) (E0:jP s0 fs L) (hl:L.length≤1073741824) (tv:∀l∈L,l.bB.length≤1000):Ev pv 20 [x,y] s0 (.bool true) s0:=by
 obtain⟨tz,heg⟩:=o9;obtain⟨nT,hfg⟩:=E0;refine Ev.h_ rfl aad rfl rfl rfl ?_;dsimp only[u3,u4,ς,ξ,γ,w1,w2];obtain⟨bt,hF,hH⟩:=ri s0;generalize ah .ro s0=S at*;have hx:=Ω hx bt;have hy:=Ω hy bt;refine qq<|qj fun K hK=>qm ?_;refine qe hK<|qq<|qq<|qj fun K hK=>qm ?_;refine qn ?_;refine qm ?_;refine qn ?_;refine qg ?_;refine qe hK<|qE rfl (by rw[tz,nT];simp) ?_;refine τ<|qq<|qq<|qj fun K hK=>qm ?_;refine qe hK<|π<|Qz (fun mm fr st=>∃(i:Nat),fr.clean=⟨6,[x,y,oW fr 2,oW fr 3,.bool false,.int .i64 (i:Nat)],[]⟩∧Has s0.bs.length S st []∧(i+mm=es.length)) (es.length) ?_ ?_
 ·exact⟨0,rfl,hH,by omega⟩
 rintro mm fr st ⟨i,hfr,hH,hi⟩;rw[hfr];clear hfr;generalize oW fr=ee;clear fr;refine qq<|qq<|qj fun K hK=>qm ?_;refine qm ?_;refine qn ?_;refine qg ?_;refine qe hK ?_;refine χ (by rfl) (fun h1=>?_) (fun h1=>?_)<;>try simp only[decide_eq_true_eq,decide_eq_false_iff_not] at h1
 ·refine τ ?_
  obtain⟨l,wG⟩:∃l,L[i]?=some l:=⟨L[i]'(by omega),η _⟩
  obtain⟨d1,CE,gB⟩:=heg i l wG;obtain⟨d2,yY,mV⟩:=hfg i l wG;have ng:=tv l (ι wG);have aT:(l.dn !=l.dn)=false:=by simp
  have dE:false=false:=rfl;refine qq<|π<|qq<|ab.dz 54 (.bool false) [] ?_ (fun ff tmp cY=>?_)
  ·refine qm ?_;refine qm ?_;refine qr fun p19 UI=>?_;refine qf (fo:=0) fun Q_ zT=>?_;refine qR ?_;refine qm ?_;refine qm ?_;refine qr fun Q9 zS=>?_;refine qf (fo:=0) fun S3 CC=>?_;refine qR ?_;refine qg ?_;refine qm ?_;refine qm ?_ (hg:=wi aT);refine qm ?_ (hg:=wi aT);refine qr (fun p31 abo=>?_) (hg:=wi aT);refine qf (fo:=1) (fun p32 abn=>?_) (hg:=wi aT);refine qR ?_ (hg:=wi aT);refine qm ?_ (hg:=wi aT);refine qm ?_ (hg:=wi aT);refine qr (fun Xw RT=>?_) (hg:=wi aT);refine qf (fo:=1) (fun Xv RS=>?_) (hg:=wi aT);refine qR ?_ (hg:=wi aT);refine aa.S6 (aq rfl rfl rfl aT) (ev rfl) (ev rfl) (Eo l.aU) (ae rfl _) ?_;refine qu aT ?_;refine qm ?_;refine qm ?_ (hg:=wi dE);refine qm ?_ (hg:=wi dE);refine qr (fun WI My=>?_) (hg:=wi dE);refine qf (fo:=11) (fun Xs RP=>?_) (hg:=wi dE);refine qR ?_ (hg:=wi dE);refine qm ?_ (hg:=wi dE);refine qm ?_ (hg:=wi dE);refine qr (fun p49 UE=>?_) (hg:=wi dE);refine qf (fo:=11) (fun Xr RO=>?_) (hg:=wi dE);refine qR ?_ (hg:=wi dE);refine qv (ze ((Ω CE bt).rows hH) ((Ω yY bt).rows hH) (by omega)) ?_ (hg:=wi dE);refine qg ?_ (hg:=wi dE);refine qu dE ?_;refine ο (aY ?_ ?_)
   ·dsimp only[aB,QY,nth,u2,u1]
    all_goals(first|rfl|simp)
   ·dsimp only[Fr.aj,Fr.put,Fr.clean,Fr.ev,Fr.get,nth,look,u1,u2,v1,v2,v4]
    all_goals(rfl)
  dsimp only[aB,QY,nth,u2,u1];dsimp only[Fr.aj,Fr.put,Fr.clean,Fr.ev,Fr.get,nth,look,u1,u2,v1,v2,v4];refine qC ?_;refine τ<|qj fun K hK=>qm ?_;refine qA ?_;refine qm ?_;refine qe hK ?_;exact⟨mm-1,by omega,⟨i+1,rfl,hH,by omega⟩⟩
 ·refine Qx<|qq<|qj fun K hK=>qm ?_;refine qe hK<|φ ⟨rx,_,rfl,rl bt hH (rfl)⟩
theorem EA (hx:Qq s0 12 x es) (hy:Qq s0 12 y fs) (o9:mJ es L) (E0:mJ fs L) (hl:L.length≤1073741824) (tv:∀l∈L,l.bB.length≤1000):Ev pv 20 [x,y] s0 (.bool true) s0:=
 uB hx hy (o9.any s0) (E0.any s0) hl tv
theorem jP.ex (h:jP s0 es L) (hS:S.bs=s0.bs) (hH:Has s0.bs.length S st H):jP st es L:=⟨h.1,fun i l hl=>by
 obtain⟨d,h1,h2⟩:=h.2 i l hl
 exact⟨d,(Ω h1 hS).rows hH,h2⟩⟩
theorem vL {pl:Int} (hx:Qq s0 12 x es) (hy:Qq s0 12 y fs) (o9:jP s0 es L) (E0:jP s0 fs L) (hl:L.length≤1000) (tv:∀l∈L,l.bB.length≤1000):Ev pv 19 [.agg [.int .i64 pl,x],.agg [.int .i64 pl,y]] s0 (.bool true) s0:=by
 have Yx:=fun{st:St} (hx:Qq st 12 x es) (hy:Qq st 12 y fs) (o9:jP st es L) (E0:jP st fs L)=>uB (s0:=st) hx hy o9 E0 (by omega) tv;have hcx:=iV hx;have hcy:=iV hy;refine Ev.h_ rfl aae rfl rfl rfl ?_;dsimp only[u3,u4,ς,ξ,γ,w1,w2];obtain⟨bt,hF,hH⟩:=ri s0;generalize ah .ro s0=S at*;have bk:(pl==pl)=true:=by simp
 have hx:=Ω hx bt;have hy:=Ω hy bt;refine qq<|qj fun K hK=>qb hH fun k2 st hk2 hH=>?_;refine qb hH fun k3 st qX hH=>?_;refine qm ?_;refine qe hK<|qq<|qj fun K hK=>qp (o:=0) ?_;refine ql hH bh ?_;refine qp (o:=0) ?_;refine ql hH av ?_;refine qg ?_;refine qm ?_;refine qp (o:=1) ?_ (hg:=wi bk);refine ql hH bh ?_ (hg:=wi bk);refine qp (o:=1) ?_ (hg:=wi bk);refine ql hH av ?_ (hg:=wi bk);refine qv (Yx (hx.rows hH) (hy.rows hH) (o9.ex bt hH) (E0.ex bt hH)) ?_ (hg:=wi bk);refine qt bk ?_;refine qm ?_;refine qe hK<|φ ⟨rx,_,rfl,rl bt hH (rfl)⟩
theorem vK {pl:Int} (hx:Qq s0 12 x es) (hy:Qq s0 12 y fs) (o9:mJ es L) (E0:mJ fs L) (hl:L.length≤1000) (tv:∀l∈L,l.bB.length≤1000):Ev pv 19 [.agg [.int .i64 pl,x],.agg [.int .i64 pl,y]] s0 (.bool true) s0:=
 vL hx hy (o9.any s0) (E0.any s0) hl tv
def sf (fr:Go.V.Fr) (k:Nat):Go.V.D:=Go.V.nth .bD fr.loc k
theorem wS (hR:bE p) (hi:i<p.ak.length):∃s:Nat,p.ak[i]?=some ((s:Nat):Int)∧(ba p)[i]?=some s∧s<p.code.length:=by
 obtain⟨s,Uu⟩:∃s,p.ak[i]?=some s:=⟨p.ak[i]'hi,η _⟩
 obtain⟨j9,Uw⟩:=hR.st s (ι Uu);obtain⟨s1,rfl⟩:=υ j9;exact⟨s1,Uu,by unfold ba;rw[ρ,Uu];rfl,by omega⟩
theorem Fp (L:List PL):∀e∈L.map kc,∀d∈e,nz d=true:=by
 intro e he d hd;obtain⟨q,_,rfl⟩:=ψ.1 he;simp only[kc,aJ,QX,Θ,or_false] at hd
 rcases hd with rfl|rfl|rfl|rfl|rfl|rfl|rfl|rfl|rfl|rfl|rfl|rfl<;>rfl
theorem Fo (h:∀l∈L,l.bB=[]):(L.map kc).map (·.map o_)=L.map jr:=by
 rw[Qk];refine List.map_congr_left fun l hl=>?_;have:=h l hl;obtain⟨dn,b,t⟩:=l;simp only at this;subst this
 rfl
theorem Cb {pl:Nat} {V:List VL} (hp:p.ok) (hR:bE p) (ib:pl≤4000000000000) (hx:Go.V.Rows s0 12 x (V.map dP)) (hV:∀l∈V,Go.V.Rows s0 11 l.td (l.bB.map aK)) (Ab:V.map VL.pl=L) (pR:L.length=p.ak.length) (bA:∀l∈L,l.ok p.code.length):
  Ev pv 25 [p.d,.agg [.int .i64 (pl:Nat),x]] s0 (jE (L.map (jc p.code pl))) s0:=by
 have hVl:V.length=L.length:=by rw[←Ab,θ]
 have RD:=hR.sl;have hex:∀(st:St) (l:VL),l∈V→Go.V.Rows st 11 l.td (l.bB.map aK)→l.pl.ok p.code.length→∃r,Ev pv 69 [p.d,.agg (dP l),.int .i64 (pl:Nat),.bool true] st r st∧∃rd,r=.tup [.agg (aJ (lp p.code pl true l.bB (jS p.code.length l.dn l.aU)).dn (lp p.code pl true l.bB (jS p.code.length l.dn l.aU)).aU .nul),rd]∧dr rd 11 ((lp p.code pl true l.bB (jS p.code.length l.dn l.aU)).rdy.map aK):=fun st l hl Mr h=>pF hp hR ib Mr h.1 (by have:l.bB.length≤1000:=h.2;omega);have XO:=iV hx;unfold Pg.d at*;refine Ev.h_ rfl Z9 rfl rfl rfl ?_;dsimp only[u3,u4,ς,ξ,γ,w1,w2];obtain⟨bt,hF,hH⟩:=ri s0;generalize ah .ro s0=S at*;have hla:=Ω hx bt;refine qq<|qj fun K hK=>qb hH fun k2 st hk2 hH=>?_;dsimp only[u2,u1,u3,u4,setMany,u5,u6,ν,γ,aC,aK,aJ,ay,dP,aw,Pg.cs,kc] at hH;refine qb hH fun k3 st qX hH=>?_;refine qm ?_;refine qe hK<|qq<|qj fun K hK=>qm ?_;refine qe hK<|qq<|qq<|qj fun K hK=>qm ?_;refine qe hK ?_;have hH:=hH.ew 12;refine π<|Qz (fun mm fr st=>∃(i:Nat) (od:D),fr.clean=⟨8,[sf fr 0,sf fr 1,.ptr k2 0 0,.ptr k3 0 0,sf fr 4,od,.int .i64 (i:Nat),sf fr 7],[]⟩∧Has s0.bs.length S st [.aO od 12 (((L.map (jc p.code pl)).take i).map kc),.box k3 (.mem 0 false [.int .i64 (pl:Nat),x]),.box k2 (.mem 0 false [p.cd,p.sd])]∧(i+mm=V.length)) (V.length) ?_ ?_
 ·exact⟨0,.nul,rfl,hH,by omega⟩
 rintro mm fr st ⟨i,od,hfr,hH,hi⟩;rw[hfr];clear hfr;generalize sf fr=ee;clear fr;refine qq<|qq<|qj fun K hK=>qm ?_;refine qp (o:=1) ?_;refine ql hH bh ?_;refine qn ?_;simp only[θ];refine qg ?_;refine qe hK ?_;refine χ (by rfl) (fun hlt=>?_) (fun hlt=>?_)<;>try simp only[decide_eq_true_eq,decide_eq_false_iff_not] at hlt
 ·refine τ ?_
  obtain⟨l,hl⟩:∃l,V[i]?=some l:=⟨V[i]'(by omega),η _⟩
  have gB:=oy hl;have hlL:L[i]?=some l.pl:=by rw[←Ab,ρ,hl];rfl
  have hge:(L.map (jc p.code pl))[i]?=some (jc p.code pl l.pl):=by rw[ρ,hlL];rfl
  have ni:(((L.map (jc p.code pl)).take i).map kc).length=i:=by simp;omega
  generalize hB:((L.map (jc p.code pl)).take i).map kc=B at*;refine qq<|π ?_;obtain⟨_,aL,rd,rfl,vV⟩:=hex st l (ι hl) ((Ω (hV l (ι hl)) bt).rows hH) (bA l.pl (ι hlL));refine qq<|qj fun K hK=>?_;refine Ξ (m:=2) hH rfl (ev rfl) (by exact dF) (by dsimp only[ε,κ,ζ,μ,aC,aK,aJ,ay,dP,aw,Pg.cs,kc]<;>rfl) rfl rfl (ae rfl _) ?_;refine qp (o:=1) ?_;refine ql hH bh ?_;refine qm ?_;refine qr fun T0 ES=>?_;refine QD rfl (ev rfl) (by assumption) rfl (ae rfl _) ?_;refine qp (o:=0) ?_;refine ql hH bh ?_;refine qv aL ?_;refine qm ?_;refine qg ?_;refine qg ?_;refine qa hH fun k7 st Te hH=>?_;refine qS hH av fun st hH=>?_;dsimp only[u2,u1,u3,u4,setMany,u5,u6,ν,γ,aC,aK,aJ,ay,dP,aw,Pg.cs,kc] at hH;refine qm ?_;refine qe hK<|qj fun K hK=>qm ?_;refine Ξ (m:=12) hH rfl (ev rfl) (by exact av) (by dsimp only[ε,κ,ζ,μ,aC,aK,aJ,ay,dP,aw,Pg.cs,kc]<;>rfl) rfl rfl (ae rfl _) ?_;refine qh (s:=12) (vs:=[_]) hH fun k30 st abK hH=>?_;refine QN (s:=12) hH rfl (ev rfl) (ev rfl) (by exact dF) (by exact hH.rows (by exact av)) rfl rfl rfl rfl rfl rfl rfl ⟨(δ rfl),(δ rfl)⟩ (fun _=>(ae rfl _)) (by simp only[QQ,Ψ,θ]<;>omega) (by exact .inl hF) (fun x31 st hH=>?_);dsimp only[u2,u1,u3,u4,setMany,u5,u6,ν,γ,aC,aK,aJ,ay,dP,aw,Pg.cs,kc] at hH;refine qm ?_;refine qe hK<|qj fun K hK=>qm ?_;refine qA ?_;refine qm ?_;refine qe hK ?_;exact⟨mm-1,by omega,⟨i+1,x31,rfl,(by rw[Δ,hge,Φ,Γ,hB];exact hH.drop 2),by omega⟩⟩
 ·refine Qx<|qq<|qj fun K hK=>qm ?_;refine qm ?_;refine qe hK ?_;have hil:i=L.length:=by omega
  rw[ω (by simp;omega)] at hH;have h1:=hH.wh av (L:=s0.bs.length) (fun k hk=>((hH.ok 0 _ av).2 k hk).1) (Fp _) (n:=16) (by decide);rw[Fo (by intro l hl;obtain⟨q,_,rfl⟩:=ψ.1 hl;rfl)] at h1;refine φ ⟨rx,_,rfl,rl bt hH h1⟩
def PL.v (l:PL):VL:=⟨l.dn,l.aU,WG l.bB,l.bB⟩
theorem Ca {pl:Nat} {V:List VL} (hp:p.ok) (hR:bE p) (ib:pl≤4000000000000) (hx:dr x 12 (V.map dP)) (hV:∀l∈V,dr l.td 11 (l.bB.map aK)) (Ab:V.map VL.pl=L) (pR:L.length=p.ak.length) (bA:∀l∈L,l.ok p.code.length):
  Ev pv 25 [p.d,.agg [.int .i64 (pl:Nat),x]] s0 (jE (L.map (jc p.code pl))) s0:=
 Cb hp hR ib (hx.rows s0) (fun l hl=>(hV l hl).rows s0) Ab pR bA
theorem Gf (L:List PL):(L.map PL.v).map dP=L.map jr:=by rw[Qk];rfl
theorem Xd (L:List PL):(L.map PL.v).map VL.pl=L:=by rw[Qk];exact List.map_id L
theorem Xc (L:List PL):∀l∈L.map PL.v,dr l.td 11 (l.bB.map aK):=by
 intro l hl;obtain⟨q,_,rfl⟩:=ψ.1 hl;exact Np _
def bN (fr:Go.V.Fr) (k:Nat):Go.V.D:=Go.V.nth .bD fr.loc k
theorem B' (dB:∀st,Ev pv 67 [] st (.agg (ay bX)) st) {pl:Nat} {V:List VL} (hp:p.ok) (hR:bE p) (ib:pl≤3000000000000) (hx:Go.V.Rows s0 12 x (V.map dP)) (hV:∀l∈V,Go.V.Rows s0 11 l.td (l.bB.map aK)) (Ab:V.map VL.pl=L) (pR:L.length=p.ak.length) (bA:∀l∈L,l.ok p.code.length):
  Ev pv 24 [p.d,.agg [.int .i64 (pl:Nat),x],.int .i32 r,.int .i64 n] s0 (uy (pl+dO n) (dj p.code pl r (ba p) L)) s0:=by
 have RD:=hR.sl;have hVl:V.length=L.length:=by rw[←Ab,θ]
 have hex:∀(st:St) (l:VL),l∈V→Go.V.Rows st 11 l.td (l.bB.map aK)→l.pl.ok p.code.length→∃r,Ev pv 69 [p.d,.agg (dP l),.int .i64 (pl:Nat),.bool false] st r st∧∃rd,r=.tup [.agg (aJ (lp p.code pl false l.bB (jS p.code.length l.dn l.aU)).dn (lp p.code pl false l.bB (jS p.code.length l.dn l.aU)).aU .nul),rd]∧dr rd 11 ((lp p.code pl false l.bB (jS p.code.length l.dn l.aU)).rdy.map aK):=fun st l hl Mr h=>pF hp hR (by omega) Mr h.1 (by have:l.bB.length≤1000:=h.2;omega);have XO:=iV hx;have Y7:=ke n;have gj:(ba p).length=L.length:=by unfold ba;rw[θ,pR]
 unfold Pg.d at*;refine Ev.h_ rfl Z_ rfl rfl rfl ?_;dsimp only[u3,u4,ς,ξ,γ,w1,w2];obtain⟨bt,hF,hH⟩:=ri s0;generalize ah .ro s0=S at*;have hla:=Ω hx bt;have hc:=hp.c.arg s0.bs.length S;have hs:=hp.s.arg s0.bs.length S;refine qq<|qj fun K hK=>qb hH fun k4 st Tf hH=>?_;dsimp only[u2,u1,u3,u4,setMany,u5,u6,ν,γ,aC,aK,aJ,ay,dP,aw,Pg.cs] at hH;refine qb hH fun k5 st yh hH=>?_;refine qa hH fun k8 st Td hH=>?_;refine qe hK<|qq<|qq<|Qd (fun fr st=>∃(n1:Int) (tmp:List (Nat×D)),fr=⟨14,[bN fr 0,bN fr 1,.int .i32 r,.int .i64 n1,.ptr k4 0 0,.ptr k5 0 0,bN fr 6,bN fr 7,.ptr k8 0 0,bN fr 9,bN fr 10,bN fr 11,bN fr 12,bN fr 13],tmp⟩∧Has s0.bs.length S st [.box k8 (.mem 0 false [.int .i64 0,.nul]),.box k5 (.mem 0 false [.int .i64 (pl:Nat),x]),.box k4 (.mem 0 false [p.cd,p.sd])]∧(n1=max n 0)) ?_ ?_
 ·refine qj fun K hK=>qm ?_;refine qg ?_;refine qe hK ?_;refine χ (by rfl) (fun h1=>?_) (fun h1=>?_)<;>try simp only[decide_eq_true_eq,decide_eq_false_iff_not] at h1
  ·refine qj fun K hK=>qm ?_;refine qe hK ?_;exact⟨0,_,rfl,hH,by omega⟩
  ·refine τ ?_;exact⟨n,_,rfl,hH,by omega⟩
 rintro fr st ⟨n1,tmp,hfr,hH,zW⟩;rw[hfr];clear hfr;generalize bN fr=ee;clear fr;refine qq<|qq<|Qd (fun fr st=>∃(n2:Int) (tmp:List (Nat×D)),fr=⟨14,[bN fr 0,bN fr 1,.int .i32 r,.int .i64 n2,.ptr k4 0 0,.ptr k5 0 0,bN fr 6,bN fr 7,.ptr k8 0 0,bN fr 9,bN fr 10,bN fr 11,bN fr 12,bN fr 13],tmp⟩∧Has s0.bs.length S st [.box k8 (.mem 0 false [.int .i64 0,.nul]),.box k5 (.mem 0 false [.int .i64 (pl:Nat),x]),.box k4 (.mem 0 false [p.cd,p.sd])]∧(n2=min (max n 0) 4)) ?_ ?_
 ·refine qj fun K hK=>qm ?_;refine qg ?_;refine qe hK ?_;refine χ (by rfl) (fun h1=>?_) (fun h1=>?_)<;>try simp only[decide_eq_true_eq,decide_eq_false_iff_not] at h1
  ·refine qj fun K hK=>qm ?_;refine qe hK ?_;exact⟨4,_,rfl,hH,by omega⟩
  ·refine τ ?_;exact⟨n1,_,rfl,hH,by omega⟩
 rintro fr st ⟨n2,tmp,hfr,hH,R3⟩;rw[hfr];clear hfr;generalize bN fr=ee;clear fr;have Y6:((pl:Nat):Int)+n2=((pl+dO n:Nat):Int):=by unfold dO;omega
 refine qq<|qj fun K hK=>qp (o:=0) ?_;refine ql hH bh ?_;refine qm ?_;refine aa.lZ (z:=((pl+dO n:Nat):Int)) rfl (ev rfl) (ev rfl) (by rw[Y6];exact eW (by simp only[mz];omega)) (ae rfl _) ?_;refine qg ?_;refine qa hH fun k9 st hk9 hH=>?_;refine qS hH av fun st hH=>?_;dsimp only[u2,u1,u3,u4,setMany,u5,u6,ν,γ,aC,aK,aJ,ay,dP,aw,Pg.cs] at hH;refine qe hK ?_;have hH:=hH.Eg 12;refine qq<|qq<|qj fun K hK=>qm ?_;refine qe hK<|π<|Qz (fun mm fr st=>∃(k:Nat) (y:D) (ks:Nat→Prop),fr.clean=⟨14,[bN fr 0,bN fr 1,.int .i32 r,bN fr 3,.ptr k4 0 0,.ptr k5 0 0,bN fr 6,bN fr 7,.ptr k8 0 0,.ptr k9 0 0,.int .i64 (k:Nat),bN fr 11,bN fr 12,bN fr 13],[]⟩∧Has s0.bs.length S st [.deep ks y 12 (((dj p.code pl r (ba p) L).take k).map jr),.box k9 (.mem 0 false [.int .i64 ((pl+dO n:Nat):Nat),y]),.box k8 (.mem 0 false [.int .i64 0,.nul]),.box k5 (.mem 0 false [.int .i64 (pl:Nat),x]),.box k4 (.mem 0 false [p.cd,p.sd])]∧(k+mm=V.length)) (V.length) ?_ ?_
 ·exact⟨0,.nul,_,rfl,hH,by omega⟩
 rintro mm fr st ⟨k,y,ks,hfr,hH,hk⟩;rw[hfr];clear hfr;generalize bN fr=ee;clear fr;refine qq<|qq<|qj fun K hK=>qm ?_;refine qp (o:=1) ?_;refine ql hH fm ?_;refine qn ?_;simp only[θ];refine qg ?_;refine qe hK ?_;refine χ (by rfl) (fun hlt=>?_) (fun hlt=>?_)<;>try simp only[decide_eq_true_eq,decide_eq_false_iff_not] at hlt
 ·refine τ ?_;have iL:k<L.length:=by omega
  obtain⟨mo,rfl⟩:∃mo,mm=mo+1:=⟨mm-1,by omega⟩
  obtain⟨l,WV⟩:∃l,V[k]?=some l:=⟨V[k]'(by omega),η _⟩
  have hl:L[k]?=some l.pl:=by rw[←Ab,ρ,WV];rfl
  obtain⟨start,Uu,gi,aaQ⟩:=wS hR (i:=k) (by omega);have aaT:=eA Uu;have gB:=oy WV;have wF:=bA l.pl (ι hl);have hge:=mL p.code pl r (ba p) L k start l.pl gi hl;have ng:(((dj p.code pl r (ba p) L).take k).map jr).length≤1048576:=by rw[θ,Qw];omega
  obtain⟨hb1,hb2⟩:=ox (code:=p.code) (pl:=pl) (e:=false) (l:=l.bB) (dn:=l.dn) (aU:=l.aU);obtain⟨_,aL,rd,rfl,vV⟩:=hex st l (ι WV) ((Ω (hV l (ι WV)) bt).rows hH) wF;unfold gw VL.pl at hge;dsimp only at hge;generalize lp p.code pl false l.bB (jS p.code.length l.dn l.aU)=W at*;have aaW:=vV.arg s0.bs.length S;generalize hB:((dj p.code pl r (ba p) L).take k).map jr=B at*;refine qq<|π<|qq<|qj fun K hK=>?_;refine Ξ (m:=2) hH rfl (ev rfl) (by exact gH) (by dsimp only[ε,κ,ζ,μ,aC,aK,aJ,ay,dP,aw,Pg.cs]<;>rfl) rfl rfl (ae rfl _) ?_;refine qp (o:=1) ?_;refine ql hH fm ?_;refine qm ?_;refine qr fun S1 CB=>?_;refine QD rfl (ev rfl) (by assumption) rfl (ae rfl _) ?_;refine qp (o:=0) ?_;refine ql hH fm ?_;refine qv aL ?_;refine qm ?_;refine qg ?_;refine qg ?_;refine qa hH fun k11 st MN hH=>?_;refine qS hH av fun st hH=>?_;dsimp only[u2,u1,u3,u4,setMany,u5,u6,ν,γ,aC,aK,aJ,ay,dP,aw,Pg.cs] at hH;refine qm ?_;refine qe hK ?_;have hH:=hH.ew 11;refine qq<|qq<|qj fun K hK=>qm ?_;refine qe hK ?_
  obtain⟨A0,hA⟩:∃A,gx p.code r W.rdy []=A:=⟨_,rfl⟩
  rw[hA] at hge;refine π<|Qz (fun mm fr st=>∃(j:Nat) (acc rest:List iS) (td:D),fr.clean=⟨14,[bN fr 0,bN fr 1,.int .i32 r,bN fr 3,.ptr k4 0 0,.ptr k5 0 0,bN fr 6,bN fr 7,.ptr k8 0 0,.ptr k9 0 0,.int .i64 (k:Nat),.ptr k11 0 0,rd,.int .i64 (j:Nat)],[]⟩∧Has s0.bs.length S st [.aO td 11 (acc.map aK),.box k11 (.mem 0 false (aJ W.dn W.aU td)),.deep ks y 12 B,.box k9 (.mem 0 false [.int .i64 ((pl+dO n:Nat):Nat),y]),.box k8 (.mem 0 false [.int .i64 0,.nul]),.box k5 (.mem 0 false [.int .i64 (pl:Nat),x]),.box k4 (.mem 0 false [p.cd,p.sd])]∧(j+mm=W.rdy.length)∧(rest=W.rdy.drop j)∧(gx p.code r rest acc=A0)∧(acc.length≤j)) (W.rdy.length) ?_ ?_
  ·exact⟨0,[],W.rdy,.nul,rfl,hH,by omega,rfl,hA,by simp⟩
  rintro mm fr st ⟨j,acc,rest,td,hfr,hH,hj,kV,mB,hal⟩;rw[hfr];clear hfr;generalize bN fr=ee;clear fr;refine qq<|qq<|qj fun K hK=>qm ?_;refine qm ?_;refine qn ?_;simp only[θ];refine qg ?_;refine qe hK ?_;refine χ (by rfl) (fun MJ=>?_) (fun MJ=>?_)<;>try simp only[decide_eq_true_eq,decide_eq_false_iff_not] at MJ
  ·refine τ ?_;have jI:j<W.rdy.length:=by omega
   obtain⟨t,ht⟩:∃t,W.rdy[j]?=some t:=⟨W.rdy[j]'jI,η _⟩
   have Ms:=l4 ht;obtain⟨ii,hii,Th⟩:=hb2 t (ι ht);have Nz:=rJ hR ⟨ii,hii,Th⟩;have mV:=eB hii;have Di:=hp.i ii (ι hii);have EM:=Di.1;have EN:=EM.arg s0.bs.length S;have X6:=Di.2;have hcl:=hR.cl
   have tI:rest=t::W.rdy.drop (j+1):=by
    rw[kV,QK jI]
    congr 1
    exact QU.inj ((η _).symm.trans ht)
   rw[tI] at mB;have RF:xe p.code t.pc=ii.rs:=by unfold xe;rw[hii]
   unfold gx at mB;rw[RF] at mB;refine qq<|π<|qq<|qj fun K hK=>qp (o:=0) ?_;refine ql hH Tn ?_;refine qm ?_;refine qm ?_;refine qr fun p52 Yl=>?_;refine qf (fo:=0) fun p53 abh=>?_;refine qR ?_;refine qr fun p55 UC=>?_;refine qf (fo:=3) fun Xq RN=>?_;refine qR ?_;refine qm ?_;refine qv (oL (EN.rows hH) (by omega)) ?_;refine qe hK ?_
   cases hh:iA ii.rs r with
   |false=>
    rw[hh,if_neg (by decide)] at mB;refine qC ?_;refine τ<|qj fun K hK=>qm ?_;refine qA ?_;refine qm ?_;refine qe hK ?_;exact⟨mm-1,by omega,⟨j+1,acc,W.rdy.drop (j+1),td,rfl,hH,by omega,rfl,mB,by omega⟩⟩
   |true=>
    rw[hh,if_pos rfl] at mB;refine qB ?_;have abU:=tl acc ⟨t.pc+1,t.c⟩;refine qj fun K hK=>qp (o:=11) ?_;refine ql hH bh ?_;refine qm ?_;refine qm ?_;refine qr fun Xp RM=>?_;refine qf (fo:=0) fun p65 Yk=>?_;refine qR ?_;refine qA ?_;refine qm ?_;refine qm ?_;refine qr fun p70 aa6=>?_;refine qf (fo:=1) fun p71 Yj=>?_;refine qR ?_;refine QR (d:=.agg (aK ⟨t.pc+1,t.c⟩)) (st1:=_) rfl rfl rfl (ae rfl _) ?_;obtain⟨Xf,st,aL,hH⟩:=DY (t:=⟨t.pc+1,t.c⟩) hF (by omega) hH;refine qv aL ?_;refine qp (o:=11) ?_;refine qT hH bh (fun st hH=>?_) (iy:=hH.eJ av);dsimp only[u2,u1,u3,u4,setMany,u5,u6,ν,γ,aC,aK,aJ,ay,dP,aw,Pg.cs] at hH;refine qe hK<|qj fun K hK=>qm ?_;refine qA ?_;refine qm ?_;refine qe hK ?_;exact⟨mm-1,by omega,⟨j+1,lf acc ⟨t.pc+1,t.c⟩,W.rdy.drop (j+1),Xf,rfl,hH,by omega,rfl,mB,by omega⟩⟩
  ·refine Qx ?_;have vZ:rest=[]:=by rw[kV,QH];omega
   subst vZ;have mB:acc=A0:=mB;subst mB;clear hA kV;refine qq<|qq<|Qd (fun fr st=>∃(bB:List iS) (td:D) (tmp:List (Nat×D)),fr=⟨14,[bN fr 0,bN fr 1,.int .i32 r,bN fr 3,.ptr k4 0 0,.ptr k5 0 0,bN fr 6,bN fr 7,.ptr k8 0 0,.ptr k9 0 0,.int .i64 (k:Nat),.ptr k11 0 0,bN fr 12,bN fr 13],tmp⟩∧Has s0.bs.length S st [.aO td 11 (bB.map aK),.box k11 (.mem 0 false (aJ W.dn W.aU td)),.deep ks y 12 B,.box k9 (.mem 0 false [.int .i64 ((pl+dO n:Nat):Nat),y]),.box k8 (.mem 0 false [.int .i64 0,.nul]),.box k5 (.mem 0 false [.int .i64 (pl:Nat),x]),.box k4 (.mem 0 false [p.cd,p.sd])]∧(bB=(if W.dn=true then acc else lf acc ⟨start,bX⟩))) ?_ ?_
   ·refine qj fun K hK=>qp (o:=0) ?_;refine ql hH bh ?_;refine qg ?_;refine qe hK ?_
    cases Vd:W.dn with
    |true=>
     rw[Vd] at hH;refine qC ?_;refine τ ?_;exact⟨acc,td,_,rfl,hH,rfl⟩
    |false=>
     rw[Vd] at hH;refine qB ?_;refine qj fun K hK=>qp (o:=11) ?_;refine ql hH bh ?_;refine qp (o:=1) ?_;refine ql hH Tn ?_;refine qm ?_;refine qr fun p84 Yf=>?_;refine qR ?_;refine qv (dB _) ?_;refine QR (d:=.agg (aK ⟨start,bX⟩)) (st1:=_) rfl rfl rfl (ae rfl _) ?_;obtain⟨Xf,st,aL,hH⟩:=DY (t:=⟨start,bX⟩) hF (by have:=hR.cl;omega) hH;refine qv aL ?_;refine qp (o:=11) ?_;refine qT hH bh (fun st hH=>?_) (iy:=hH.eJ av);dsimp only[u2,u1,u3,u4,setMany,u5,u6,ν,γ,aC,aK,aJ,ay,dP,aw,Pg.cs] at hH;refine qe hK ?_;exact⟨lf acc ⟨start,bX⟩,Xf,_,rfl,hH,by rw[if_neg (by decide)]⟩
   ·rintro fr st ⟨bB,td,tmp,hfr,hH,zQ⟩;rw[hfr];clear hfr;generalize bN fr=ee;clear fr;refine qj fun K hK=>qp (o:=1) ?_;refine ql hH fm ?_;refine Ξ (m:=12) hH rfl (ev rfl) (by exact bh) (by dsimp only[ε,κ,ζ,μ,aC,aK,aJ,ay,dP,aw,Pg.cs]<;>rfl) rfl rfl (ae rfl _) ?_;refine qh (s:=12) (vs:=[_]) hH fun k93 st abq hH=>?_;dsimp only[u2,u1,u3,u4,setMany,u5,u6,ν,γ,aC,aK,aJ,ay,dP,aw,Pg.cs] at hH;obtain⟨hH,MU⟩:=hH.tm (i:=1) (j:=3) (by decide) bh fm (jU _);dsimp only[u1,u2] at hH;refine Qb hH rfl rfl rfl fm (hH.rows av) (.cons (wx (dn:=W.dn) (f:=W.aU) MU) .nil) rfl rfl rfl rfl rfl rfl rfl ⟨(δ rfl),(δ rfl)⟩ (fun _=>(ae rfl _)) (by show _+1≤_;omega) (.inl hF) (fun x94 st hH=>?_);dsimp only[u1,u2] at hH;refine qp (o:=1) ?_;refine Qc hH rfl (ev rfl) (ev rfl) (by exact hH.sZ (by exact fm)) (by exact rfl) (by exact gH) (by exact δ rfl) (by exact .inl hF) (fun st hH=>?_);dsimp only[u2,u1,u3,u4,setMany,u5,u6,ν,γ,aC,aK,aJ,ay,dP,aw,Pg.cs] at hH;refine qe hK<|qj fun K hK=>qm ?_;refine qA ?_;refine qm ?_;refine qe hK ?_;rw[zQ] at hH;exact⟨mo,by omega,⟨k+1,x94,_,rfl,(by rw[Δ,hge,Φ,Γ,hB];exact hH.drop 3),by omega⟩⟩
 ·refine Qx<|qq<|qj fun K hK=>?_;refine Ξ (m:=2) hH rfl (ev rfl) (by exact bh) (by dsimp only[ε,κ,ζ,μ,aC,aK,aJ,ay,dP,aw,Pg.cs]<;>rfl) rfl rfl (ae rfl _) ?_;refine qS hH dF fun st hH=>?_;dsimp only[u2,u1,u3,u4,setMany,u5,u6,ν,γ,aC,aK,aJ,ay,dP,aw,Pg.cs] at hH;refine qe hK ?_;have iL:k=L.length:=by omega
  have nT:(dj p.code pl r (ba p) L).take k=dj p.code pl r (ba p) L:=by
   rw[ω];rw[gR _ _ _ _ _ gj];omega
  rw[nT] at hH;have h1:=hH.kb av (n:=14) (by decide)
  have h3:bn st s0.bs.length false 16 (.agg [.int .i64 ((pl+dO n:Nat):Nat),y])=some (uy (pl+dO n) (dj p.code pl r (ba p) L)):=by
   show(fN (bn st s0.bs.length false 15) [.int .i64 ((pl+dO n:Nat):Nat),y]).map D.agg=_;simp only[fN,h1]
   rfl
  refine φ ⟨rx,_,hH.l_ rfl dF rfl,rl bt hH h3⟩
theorem B_ (dB:∀st,Ev pv 67 [] st (.agg (ay bX)) st) {pl:Nat} {V:List VL} (hp:p.ok) (hR:bE p) (ib:pl≤3000000000000) (hx:dr x 12 (V.map dP)) (hV:∀l∈V,dr l.td 11 (l.bB.map aK)) (Ab:V.map VL.pl=L) (pR:L.length=p.ak.length) (bA:∀l∈L,l.ok p.code.length):
  Ev pv 24 [p.d,.agg [.int .i64 (pl:Nat),x],.int .i32 r,.int .i64 n] s0 (uy (pl+dO n) (dj p.code pl r (ba p) L)) s0:=
 B' dB hp hR ib (hx.rows s0) (fun l hl=>(hV l hl).rows s0) Ab pR bA
end Go.Proofs.YtbdnabmmlbiomaaGreat
