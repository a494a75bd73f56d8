/-
 The document's coder: the code of a repeat. %deep
-/
import Derived.Test.YtappgjdiplibbaaGreatYGHs
import Derived.Test.YtappgjdiplibbaaGreatYGEp
import Derived.Test.YtappgjdiplibbaaGreatYGQg
import Derived.Test.YtappgjdiplibbaaGreatYGPb
import Derived.Test.YtappgjdiplibbaaGreatYGUe
import Derived.Test.YtappgjdiplibbaaGreatYM2
import Derived.Test.YtappgjdiplibbaaGreatYM3
set_option maxRecDepth 100000
set_option maxHeartbeats 4000000
set_option linter.all false
open List renaming length_append->γ,getElem?_append_right->ε,getElem?_append_left->ζ,append_assoc->η,getElem?_map->θ,mem_of_getElem?->ι,length_cons->κ,getElem?_eq_getElem->μ,length_nil->ν,length_map->ξ,getD_eq_getElem?_getD->ς,getElem?_eq_some_iff->τ,take_of_length_le->χ,length_set->ψ,nil_append->ω,length_reverse->Δ,append_nil->Ω,map_append->Qaf,mem_cons->Qah,drop_eq_nil_of_le->Qaj,length_eq_one_iff->Qak,mem_map->Qc6,mem_append_right->Qc8,take_add_one->Qcc,cons_append->Qcd,length_take->Qce,take_length->Qcf,mem_append->Qch,length->Qcj
open Go.Op renaming bytesLess->δ
open Go.V renaming Rows->ο
open Bool renaming and_eq_true_iff->π,and_eq_true->φ,or_eq_true->Ψ,or_eq_false_iff->Qca,eq_iff_iff->Qcg
open Nat renaming reduceAdd->ρ,le_of_ble_eq_true->Γ,le_trans->Ξ,le_refl->Qag,add_sub_cancel_left->Qc7,sub_self->Qc9
open Go.V.Arg renaming of->υ
open Go.V.u renaming go->Θ,nil->Qci,pB->Qck
open Option renaming map_some->Φ,map_eq_some_iff->Qai,map->Qcb
open Go.V.D renaming agg->y4,bool->wt,int->J,nul->j5,ptr->yv,str->yR
open Or renaming inl->xR,inr->j4
open Go.V.aX renaming box->x4
open Go.V.mc renaming mem->zm
open Go.IntKind renaming i64->W
namespace Go.Proofs.YtappgjdiplibbaaGreat
open Go.V Go
def FP {t:Q} {n:aQ} (ih:xm t) (nb:t.ok) (hfa:t.fa lv) (TV:lv n) (hop:n.op=5) (mb:mV n 1) (Pf:t.dF<=1048576) {N k:Nat} {S Y:St} {H:List aX} {full:List bn} (hF:S.flr<=N) (hM:PW N S Y k H full):
  ∃r R,Ev pv 89 [yv k 0 0,y4 (aO n),y4 (tC t)] Y r R/\r=.tup []/\PW N S R k H (full++xx n (aF t) t.sz full.length):=by
 obtain⟨cd,dk,code,uh,O,hO⟩:=hM
 have Hl:0<=n.mn/\n.mn<=30/\(n.mx=-1\/(n.mn<=n.mx/\n.mx<=30)):=by
  obtain⟨_,hq⟩:=mb;omega
 have s_:=λb=>dD t b nb;have hq:=λU=>Cu t.dF t (Qag _) Pf nb hfa U;have hRl:=nH s_ n.mn.toNat full.length;refine Ev.sv rfl abB rfl rfl rfl ?_;refine zE ?_;change ah _ _ _ _ Y _;refine M 5 λk4 U QA O k5 U FA O=>?_;have O:Has N S U (_::.deep dk cd 4 (code.map bN)::x4 k5 (zm 0 false (tC t))::x4 k4 (zm 0 false (aO n))::H):=Has.EN [_,_] [_,_] O;refine G 2 ?_;refine yC (m:=8) (r:=tC t) O dh ?_;refine M (t:=((hq _))) 9 ?_;refine ah.loop (λmm I U=>∃(i:Nat) (cd:D) (dk:Nat->Prop) (aq iw:List bn) (dq:Bool),I.clean=fL I 12 [(0,yv k 0 0),(3,yv k4 0 0),(0,yv k5 0 0),(0,wt (decide (t.sz=0))),(0,J W (i:Nat))]/\Has N S U (x4 k (zm 0 false [cd,wt dq])::.deep dk cd 4 (aq.map bN)::x4 k5 (zm 0 false (tC t))::x4 k4 (zm 0 false (aO n))::H)/\(i+mm=n.mn.toNat)/\((dq=false/\aq=iw/\iw.length<=400)\/(dq=true/\aq.length=400/\400<iw.length))/\(iw++gv (aF t) t.sz mm iw.length=full++gv (aF t) t.sz n.mn.toNat full.length)) (n.mn.toNat) ?_ ?_;·exact⟨0,cd,dk,code,full,uh,rfl,O,by omega,hO,rfl⟩
 rintro mm I U ⟨i,cd,dk,aq,iw,dq,hfr,O,hi,Je,h_⟩;refine zK λee=>?_;refine G 2 ?_;refine ah.dM 28 (wt ((decide ((i:Int)<n.mn) &&!dq) &&!(decide (t.sz=0)))) [] ?_ (λff tmp bp=>?_)
 .refine G 5 ?_;refine y2 18 (λfU=>?_) λfU=>?_
  .refine G 7 ?_;refine y2 25 (λdS=>?_) λdS=>?_
   .refine G 3 ?_;refine vU ?_
    all_goals(simp[fU,dS];done)
   refine G 3 ?_;refine vU ?_
   all_goals(simp[fU,dS];done)
  refine G 10 ?_;refine vU ?_
  all_goals(simp[fU];done)
 refine zG ?_
 by_cases hgo:(i<n.mn.toNat/\dq=false)/\t.sz≠0
 .obtain⟨⟨hlt,uy⟩,hz⟩:=hgo;have c_:((decide ((i:Int)<n.mn) &&!dq) &&!(decide (t.sz=0)))=true:=by rw[uy,decide_eq_true (show(i:Int)<n.mn by omega),decide_eq_false hz];rfl
  rw[c_] at bp
  obtain⟨Ry,sC⟩:∃Ry,mm=Ry+1:=⟨mm-1,by omega⟩
  rw[sC,gv] at h_;refine G 6 ?_;refine yC (m:=8) (r:=tC t) O dh ?_;obtain⟨_,U,aK,rfl,cd,dk,aW,cq,O,qk⟩:=ih hF ⟨cd,dk,aq,dq,O,Je⟩;refine M 7 ?_;exact⟨mm-1,by omega,i+1,cd,dk,aW,iw++aF t iw.length,cq,rfl,O,by omega,qk,(by rw[γ,s_,η,show mm-1=Ry by omega];exact h_)⟩
 have c_:((decide ((i:Int)<n.mn) &&!dq) &&!(decide (t.sz=0)))=false:=by
  by_cases h:(i<n.mn.toNat/\dq=false);·have:t.sz=0:=Classical.byContradiction λX=>hgo ⟨h,X⟩;rw[decide_eq_true this];simp
  have:(decide ((i:Int)<n.mn) &&!dq)=false:=by
   by_cases X:i<n.mn.toNat
   .have:dq=true:=by cases dq;exact absurd ⟨X,rfl⟩ h;rfl
    rw[this];simp
   rw[decide_eq_false GB];rfl
  rw[this];rfl
 have hOR:(dq=false/\aq=full++gv (aF t) t.sz n.mn.toNat full.length/\(full++gv (aF t) t.sz n.mn.toNat full.length).length<=400)\/(dq=true/\aq.length=400/\400<(full++gv (aF t) t.sz n.mn.toNat full.length).length):=by
  rcases Je with⟨h1,X,h3⟩|⟨h1,X,h3⟩
  .have hR0:gv (aF t) t.sz mm iw.length=[]:=by
    by_cases hz:t.sz=0;·exact sP (λb=>by rw[s_,hz]) _ _ _
    have:mm=0:=by
     by_cases h:i<n.mn.toNat;·exact absurd ⟨⟨h,h1⟩,hz⟩ hgo
     omega
    rw[this];rfl
   rw[hR0,Ω] at h_;exact xR ⟨h1,by rw[X,h_],by rw[<-h_];exact h3⟩
  exact j4 ⟨h1,X,by rw[<-h_,γ];omega⟩
 rw[c_] at bp;refine G 2 ?_;have SD:(full++gv (aF t) t.sz n.mn.toNat full.length).length=full.length+n.mn.toNat*t.sz:=by rw[γ,hRl]
 unfold xx;rw[<-SD];have xI:∀h2:List bn,full++(gv (aF t) t.sz n.mn.toNat full.length++h2)=full++gv (aF t) t.sz n.mn.toNat full.length++h2:=λh2=>by rw[η]
 simp only[apply_ite (λh2:List bn=>full++h2),xI];clear xI SD h_;generalize full++gv (aF t) t.sz n.mn.toNat full.length=cR at*;refine G 7 ?_
 by_cases Ec:n.mx=-1
 .rw[if_pos Ec];refine qD rfl (by simp[Ec]) ?_;refine G 3 ?_;refine qg (d:=y4 [J W 2,J W 0,J W 0,j5]) ?_;obtain⟨_,U,aK,rfl,cd,dk,aW,cq,O,qk⟩:=gg (rs:=[]) hF (xR ⟨rfl,rfl⟩) ⟨cd,dk,aq,dq,O,hOR⟩;refine M 3 ?_;generalize hs:(if cR.length<400 then cR.length else 0)=s;have kq:(cR++[bZ 2 0 0 []]).length=cR.length+1:=by simp
  refine G 3 ?_;refine yC (m:=8) (r:=tC t) O dh ?_;obtain⟨_,U,aK,rfl,cd,dk,n4,xS,O,BF⟩:=ih hF ⟨cd,dk,aW,cq,O,qk⟩;refine M 2 ?_;rw[kq] at BF;have mJ:(cR++[bZ 2 0 0 []]++aF t (cR.length+1)).length=cR.length+1+t.sz:=by rw[γ,kq,s_]
  refine G 4 ?_;refine qg (d:=y4 [J W 3,J W (s:Nat),J W 0,j5]) ?_;obtain⟨_,U,aK,rfl,cd,dk,jB,n5,O,Jd⟩:=gg (rs:=[]) hF (xR ⟨rfl,rfl⟩) ⟨cd,dk,n4,xS,O,BF⟩;refine M 2 ?_;have Du:∀v:Int,(cR++[bZ 2 0 0 []]++aF t (cR.length+1)++[bZ 3 v 0 []]).length=cR.length+t.sz+2:=λv=>by rw[γ,mJ];simp only[κ,ν];omega
  rw[Du] at Jd;have iS:(cR++(mS cR.length (cR.length+t.sz+2) n.lz::(aF t (cR.length+1)++[jH cR.length]))).length=cR.length+t.sz+2:=by simp only[γ,κ,ν,s_];omega
  refine G 9 ?_
  by_cases Ja:n5=false
  .obtain⟨Jg,Mt⟩:jB=cR++[bZ 2 0 0 []]++aF t (cR.length+1)++[bZ 3 (s:Nat) 0 []]/\cR.length+t.sz+2<=400:=by
    rcases Jd with h|h
    .exact h.2
    rw[Ja] at h;cases h.1
   have yV:s=cR.length:=by rw[<-hs,if_pos GB]
   rw[yV] at Jg|-;rw[Jg] at O
   have Dw:(cR++[bZ 2 0 0 []]++aF t (cR.length+1)++[bZ 3 (cR.length:Nat) 0 []])[cR.length]?=some (bZ 2 0 0 []):=by
    rw[η,η];exact oL _ _ _
   have Bd:=Du (cR.length:Int)
   have AU:(cR++[bZ 2 0 0 []]++aF t (cR.length+1)++[bZ 3 (cR.length:Nat) 0 []]).set cR.length (mS cR.length (cR.length+t.sz+2) n.lz)=cR++(mS cR.length (cR.length+t.sz+2) n.lz::(aF t (cR.length+1)++[jH cR.length])):=by
    rw[η,η];exact oq _ _ _ _
   generalize cR++[bZ 2 0 0 []]++aF t (cR.length+1)++[bZ 3 (cR.length:Nat) 0 []]=c3 at*;refine qD rfl (by simp[Ja]) ?_;refine G 7 ?_;refine u.ti O rfl Pd (by exact bf) rfl (ae rfl _) ?_;simp only[ξ];refine G 2 ?_;obtain⟨_,U,aK,rfl,O⟩:=HB (at_:=cR.length) (over:=c3.length) (lz:=n.lz) Dw GB O;refine M 2 ?_;rw[Bd,AU] at O;refine ah.ret ⟨rx,_,_,_,rfl,rfl,?_⟩;exact⟨rfl,cd,dk,_,n5,(O.erase 2).erase 2,xR ⟨Ja,rfl,by rw[iS];exact Mt⟩⟩
  obtain⟨SQ,Jg,Mt⟩:n5=true/\jB.length=400/\400<cR.length+t.sz+2:=by
   rcases Jd with h|h
   .exact absurd h.1 Ja
   exact h
  refine qE rfl (by simp[SQ]) ?_;refine M 2 ?_;exact⟨rfl,cd,dk,jB,n5,(O.erase 2).erase 2,j4 ⟨SQ,Jg,by rw[iS];exact Mt⟩⟩
 rw[if_neg Ec];refine qE rfl (by simp[Ec]) ?_;refine G 1 ?_;obtain⟨a,ha⟩:∃a:Nat,n.mn=(a:Int):=Int.eq_ofNat_of_zero_le Hl.1;obtain⟨b,hb3⟩:∃b:Nat,n.mx=(b:Int):=Int.eq_ofNat_of_zero_le GB;have WC:n.mx.toNat-n.mn.toNat=b-a:=by omega
 rw[WC];refine G 4 ?_;have O:Has N S U (_::.deep dk cd 4 (aq.map bN)::.ai j5 1 (([]:List Nat).map jY)::x4 k5 (zm 0 false (tC t))::x4 k4 (zm 0 false (aO n))::H):=Has.EN [_] [_,_] (O.cY 1);refine G 7 ?_;have hE:=lL s_ (sp:=λ_=>bZ 2 0 0 []) (z:=t.sz) (b-a) cR.length;have hE2:=lL s_ (sp:=λs=>mS s (cR.length+(b-a)*(t.sz+1)) n.lz) (z:=t.sz) (b-a) cR.length
 have qk:(dq=false/\aq.length<=400/\aq++fS (λ_=>bZ 2 0 0 []) (aF t) t.sz (b-a) aq.length=cR++fS (λ_=>bZ 2 0 0 []) (aF t) t.sz (b-a) cR.length/\([]:List Nat)++oU t.sz (b-a) aq.length=oU t.sz (b-a) cR.length)\/(dq=true/\aq.length=400/\400<cR.length+(b-a)*(t.sz+1)):=by
  rcases hOR with⟨h1,X,h3⟩|⟨h1,X,h3⟩
  .exact xR ⟨h1,by rw[X];exact h3,by rw[X],by rw[X];rfl⟩
  exact j4 ⟨h1,X,by omega⟩
 refine G 1 ?_;refine ah.loop (λmm I U=>∃(i:Nat) (z:Int) (cd jd:D) (dk:Nat->Prop) (aW:List bn) (cq:Bool) (js:List Nat),I.clean=fL I 12 [(0,yv k 0 0),(3,yv k4 0 0),(0,yv k5 0 0),(3,jd),(0,J W z)]/\Has N S U (x4 k (zm 0 false [cd,wt cq])::.deep dk cd 4 (aW.map bN)::.ai jd 1 (js.map jY)::x4 k5 (zm 0 false (tC t))::x4 k4 (zm 0 false (aO n))::H)/\(i+mm=b-a)/\(z=n.mn+(i:Nat))/\(js.length<=i)/\((cq=false/\aW.length<=400/\aW++fS (λ_=>bZ 2 0 0 []) (aF t) t.sz mm aW.length=cR++fS (λ_=>bZ 2 0 0 []) (aF t) t.sz (b-a) cR.length/\js++oU t.sz mm aW.length=oU t.sz (b-a) cR.length)\/(cq=true/\aW.length=400/\400<cR.length+(b-a)*(t.sz+1)))) (b-a) ?_ ?_;·exact⟨0,n.mn,cd,j5,dk,aq,dq,[],rfl,O,by omega,by simp,by simp,qk⟩
 rintro mm I U ⟨i,z,cd,jd,dk,aW,cq,js,hfr,O,hi,hz,hjl,qk⟩;refine zK λee=>?_;refine G 2 ?_;refine ah.dM 74 (wt (decide (z<n.mx) &&!cq)) [] ?_ (λff tmp bp=>?_)
 .refine G 5 ?_;refine y2 68 (λfU=>?_) λfU=>?_
  .refine G 6 ?_;refine vU ?_
   all_goals(simp[fU];done)
  refine G 6 ?_;refine vU ?_
  all_goals(simp[fU];done)
 refine zG ?_
 by_cases hgo:i<b-a/\cq=false
 .obtain⟨hlt,uy⟩:=hgo;have c_:(decide (z<n.mx) &&!cq)=true:=by rw[uy,decide_eq_true GB];rfl
  rw[c_] at bp
  obtain⟨tY,dW,hjs⟩:aW.length<=400/\aW++fS (λ_=>bZ 2 0 0 []) (aF t) t.sz mm aW.length=cR++fS (λ_=>bZ 2 0 0 []) (aF t) t.sz (b-a) cR.length/\js++oU t.sz mm aW.length=oU t.sz (b-a) cR.length:=by
   rcases qk with h|h
   .exact h.2
   rw[uy] at h;cases h.1
  obtain⟨Ry,sC⟩:∃Ry,mm=Ry+1:=⟨mm-1,by omega⟩
  have hlen:=congrArg Qcj dW;rw[γ,γ,hE,lL s_,sC,Nat.succ_mul] at hlen;rw[sC] at dW hjs;simp[fS,oU] at dW hjs;have wF:mm-1=Ry:=by omega
  refine G 8 ?_;refine qg (d:=y4 [J W 2,J W 0,J W 0,j5]) ?_;obtain⟨_,U,aK,rfl,cd,dk,n4,xS,O,BF⟩:=gg (rs:=[]) hF (xR ⟨rfl,rfl⟩) ⟨cd,dk,aW,cq,O,xR ⟨uy,rfl,tY⟩⟩;refine M 5 λk81 U ad4 O Zb U O=>?_;have O:Has N S U (_::.deep dk cd 4 (n4.map bN)::.ai Zb 1 _::x4 k5 (zm 0 false (tC t))::x4 k4 (zm 0 false (aO n))::H):=O.drop 1;have kq:(aW++[bZ 2 0 0 []]).length=aW.length+1:=by simp
  refine G 2 ?_;refine yC (m:=8) (r:=tC t) O d_ ?_;obtain⟨_,U,aK,rfl,cd,dk,jB,n5,O,Jd⟩:=ih hF ⟨cd,dk,n4,xS,O,BF⟩;refine M 2 ?_;rw[kq] at Jd;have mJ:(aW++[bZ 2 0 0 []]++aF t (aW.length+1)).length=aW.length+1+t.sz:=by rw[γ,kq,s_]
  refine G 2 ?_;refine yA (z:=(z+1)) ?_;refine G 2 ?_
  by_cases Ja:n5=false
  .obtain⟨Jg,Mt⟩:jB=aW++[bZ 2 0 0 []]++aF t (aW.length+1)/\(aW++[bZ 2 0 0 []]++aF t (aW.length+1)).length<=400:=by
    rcases Jd with h|h
    .exact h.2
    rw[Ja] at h;cases h.1
   rw[mJ] at Mt;rw[if_pos GB] at O;have TY:jB.length=aW.length+1+t.sz:=by rw[Jg,mJ]
   exact⟨mm-1,by omega,i+1,z+1,cd,Zb,dk,jB,n5,js++[aW.length],rfl,(by rw[Qaf];exact O),by omega,by omega,(by rw[γ];simp only[κ,ν];omega),xR ⟨Ja,by omega,by rw[TY,Jg,wF,<-dW];simp,by rw[TY,wF,<-hjs];simp⟩⟩
  obtain⟨SQ,Jg,Mt⟩:n5=true/\jB.length=400/\400<(aW++[bZ 2 0 0 []]++aF t (aW.length+1)).length:=by
   rcases Jd with h|h
   .exact absurd h.1 Ja
   exact h
  rw[mJ] at Mt;exact⟨mm-1,by omega,i+1,z+1,cd,Zb,dk,jB,n5,js++[if aW.length<400 then aW.length else 0],rfl,(by rw[Qaf];exact O),by omega,by omega,(by rw[γ];simp only[κ,ν];omega),j4 ⟨SQ,Jg,by omega⟩⟩
 have c_:(decide (z<n.mx) &&!cq)=false:=by
  by_cases h:i<b-a
  .have:cq=true:=by cases cq;exact absurd ⟨h,rfl⟩ hgo;rfl
   rw[this];simp
  rw[decide_eq_false GB];rfl
 have B:=oA (sp:=λs=>mS s (cR.length+(b-a)*(t.sz+1)) n.lz) s_ (i0:=bZ 2 0 0 []) (b-a) cR.length cR [] rfl;obtain⟨sA,tX⟩:=B;simp only[Ω] at sA tX;have BG:(cR++fS (λ_=>bZ 2 0 0 []) (aF t) t.sz (b-a) cR.length).length=cR.length+(b-a)*(t.sz+1):=by rw[γ,hE]
 have dC:(cR++fS (λs=>mS s (cR.length+(b-a)*(t.sz+1)) n.lz) (aF t) t.sz (b-a) cR.length).length=cR.length+(b-a)*(t.sz+1):=by rw[γ,hE2]
 have hC3:(cq=false/\fO (λs=>mS s (cR.length+(b-a)*(t.sz+1)) n.lz) aW (js.drop 0)=cR++fS (λs=>mS s (cR.length+(b-a)*(t.sz+1)) n.lz) (aF t) t.sz (b-a) cR.length/\(∀p∈js,∃x y:Int,aW[p]?=some (bZ 2 x y []))/\aW.length=cR.length+(b-a)*(t.sz+1)/\cR.length+(b-a)*(t.sz+1)<=400)\/(cq=true/\aW.length=400/\400<cR.length+(b-a)*(t.sz+1)):=by
  rcases qk with⟨h1,X,h3,h4⟩|h
  .have pf:mm=0:=by
    by_cases h:i<b-a;·exact absurd ⟨h,h1⟩ hgo
    omega
   rw[pf] at h3 h4;simp[fS,oU] at h3 h4;exact xR ⟨h1,by rw[h3,h4];exact sA,λp B=>⟨_,_,by rw[h3];exact tX p (h4▸B)⟩,by rw[h3];exact BG,by rw[h3,BG] at X;exact X⟩
  exact j4 h
 rw[c_] at bp;refine G 2 ?_;clear sA tX hE hE2 qk BG;generalize cR++fS (λs=>mS s (cR.length+(b-a)*(t.sz+1)) n.lz) (aF t) t.sz (b-a) cR.length=C1 at*;generalize cR.length+(b-a)*(t.sz+1)=e at*;refine G 5 ?_;refine ah.loop (λmm I U=>∃(q:Nat) (C:List bn),I.clean=fL I 12 [(0,yv k 0 0),(3,yv k4 0 0),(4,jd),(1,J W (q:Nat))]/\Has N S U (x4 k (zm 0 false [cd,wt cq])::.deep dk cd 4 (C.map bN)::.ai jd 1 (js.map jY)::x4 k5 (zm 0 false (tC t))::x4 k4 (zm 0 false (aO n))::H)/\(q+mm=js.length)/\((cq=false/\fO (λs=>mS s e n.lz) C (js.drop q)=C1/\(∀p∈js,∃x y:Int,C[p]?=some (bZ 2 x y []))/\C.length=e/\e<=400)\/(cq=true/\C.length=400/\400<e))) (js.length) ?_ ?_;·exact⟨0,aW,rfl,O,by omega,hC3⟩
 rintro mm I U ⟨q,C,hfr,O,hq,hC⟩;refine zK λee=>?_;refine G 2 ?_;refine ah.dM 96 (wt (decide ((q:Int)<(js.length:Nat)) &&!cq)) [] ?_ (λff tmp bp=>?_)
 .refine M 5 ?_;refine y2 90 (λfU=>?_) λfU=>?_
  .refine G 6 ?_;refine vU ?_
   all_goals(simp_all;done)
  refine G 6 ?_;refine vU ?_
  all_goals(simp_all;omega)
 refine zG ?_
 by_cases hgo:q<js.length/\cq=false
 .obtain⟨yX,uy⟩:=hgo;have c_:(decide ((q:Int)<(js.length:Nat)) &&!cq)=true:=by rw[uy];simp;omega
  rw[c_] at bp
  obtain⟨eW,hall,Ms,he4⟩:fO (λs=>mS s e n.lz) C (js.drop q)=C1/\(∀p∈js,∃x y:Int,C[p]?=some (bZ 2 x y []))/\C.length=e/\e<=400:=by
   rcases hC with h|h
   .exact h.2
   rw[uy] at h;cases h.1
  obtain⟨p,B⟩:∃p,js[q]?=some p:=⟨js[q]'yX,μ _⟩
  obtain⟨x,y,hv⟩:=hall p (ι B);have dO:=rv B;have eY:=cI hv;refine M 14 λZH VW=>?_;refine u.ti O rfl Pd (by exact bf) rfl (ae rfl _) ?_;simp only[ξ];refine G 2 ?_;obtain⟨_,U,aK,rfl,O⟩:=HB (at_:=p) (over:=C.length) (lz:=n.lz) hv GB O;refine M 7 ?_;have qd:js.drop q=p::js.drop (q+1):=drop_cons B
  have Mp:∀p'∈js,∃x y:Int,(C.set p (mS p e n.lz))[p']?=some (bZ 2 x y []):=by
   intro p' wE
   by_cases hpp:p'=p;·subst hpp;obtain⟨x',y',Fw⟩:=BZ p' e n.lz;exact⟨x',y',by rw[List.getElem?_set_self eY,Fw]⟩
   rw[List.getElem?_set_ne (λe=>hpp e.symm)];exact hall p' wE
  exact⟨mm-1,by omega,q+1,C.set p (mS p e n.lz),rfl,(by rw[Ms] at O;exact O),by omega,xR ⟨uy,by rw[qd] at eW;exact eW,Mp,by rw[ψ];exact Ms,he4⟩⟩
 have c_:(decide ((q:Int)<(js.length:Nat)) &&!cq)=false:=by
  by_cases h:q<js.length
  .have:cq=true:=by cases cq;exact absurd ⟨h,rfl⟩ hgo;rfl
   rw[this];simp
  rw[decide_eq_false GB];rfl
 rw[c_] at bp;refine G 2 ?_;refine⟨λi h=>(by cases h),_,_,_,rfl,rfl,?_⟩;refine⟨rfl,cd,dk,C,cq,((O.erase 2).erase 2).erase 2,?_⟩
 rcases hC with⟨h1,X,h3,h4,h5⟩|⟨h1,X,h3⟩
 .have he:js.drop q=[]:=Qaj (by
   by_cases h:q<js.length;·exact absurd ⟨h,h1⟩ hgo
   omega)
  rw[he] at X;have X:C=C1:=X;exact xR ⟨h1,X,by rw[dC];exact h5⟩
 exact j4 ⟨h1,X,by rw[dC];exact h3⟩
def MM (t:Q) (b:Nat):aF t b=if t.n.op=2 then[bZ 1 0 0 t.n.rs]
  else if t.n.op=7 then[bZ 5 0 0 []]
  else if t.n.op=8 then[bZ 6 0 0 []]
  else if t.n.op=3 then iG (aE t.ks) b
  else if t.n.op=4 then eC (jH (b+cg t.n (mf t.ks) t.ks.length)) (aE t.ks) b
  else if t.n.op=5 then xx t.n (iG (aE t.ks)) (mf t.ks) b
  else if t.n.op=6 then bZ 4 (2*t.n.cap) 0 []::(iG (aE t.ks) (b+1)++[bZ 4 (2*t.n.cap+1) 0 []])
  else[]:=by
 cases t with
 |mk n ks=>simp[aF,Q.n,Q.ks,sH,z6,iZ]
def zp (p:Q):iG (aE [p])=aF p:=by
 funext b;simp[aE,iG]
def Ue.zD {hk hp:Prop} (e:hk->hp:=by intro h;dsimp only[u2,u1,u3,u4,setMany,u5,u6,D.cells,Nat.reduceAdd,bN,jY,tC,bQ,aO] at h;exact h):hk->hp:=e
def MP:∀(m:Nat) (t:Q),t.dF<=m->m<=1048576->t.ok->t.fa lv->xm t:=by
 open Ue in
 intro m
 induction m with
 |zero=>intro t h;have:=Q.bR t;omega
 |succ m ihm=>
  intro t h hm bK hfa N k S Y H full hF hM;obtain⟨cd,dk,code,uh,O,hO⟩:=hM;have L_:=Q.bR t;have lT:=bk t.ks;obtain⟨ho,Qz⟩:=Q.CH.1 bK;obtain⟨TV,pj⟩:=Q.cW.1 hfa;have ih:∀p∈t.ks,xm p:=λp B=>ihm p (by have:=ch B;omega) GB (Qz p B) (pj p B);have rO:=TV.1;have hw2:t.n.rd=.sl ((t.n.rs.map ak).map (jK 2)):=by rw[rO];exact(ef _).symm
  refine Ev.sv rfl abZ rfl rfl rfl ?_;refine zE ?_;change ah _ _ _ _ Y _;have hc:=(Ls pj).arg N S;refine M 4 λk3 U A7 O=>?_;have O:Has N S U (_::.deep dk cd 4 (code.map bN)::x4 k3 (zm 0 false (tC t))::H):=Has.EN [_] [_,_] O;refine G 8 ?_
  by_cases uy:uh=true
  .refine vX ?_;refine ah.ret ⟨rx,_,_,_,rfl,rfl,?_⟩
   rcases hO with⟨h1,_⟩|⟨h1,X,h3⟩
   .rw[uy] at h1;cases h1
   exact⟨rfl,cd,dk,code,uh,O.erase 2,j4 ⟨h1,X,by rw[γ];omega⟩⟩
  have uy:uh=false:=by simpa using uy
  obtain⟨fy,iS⟩:code=full/\full.length<=400:=by
   rcases hO with⟨h1,X⟩|⟨h1,_⟩
   .exact X
   rw[uy] at h1;cases h1
  rw[MM];refine vY ?_;refine G 13 ?_
  by_cases q2:t.n.op=2;·rw[if_pos q2];refine vX ?_;refine G 5 ?_;refine Θ (d:=y4 [J W 1,J W 0,J W 0,t.n.rd]) (st1:=_) rfl rfl (by rw[rO];rfl) (ae rfl _) ?_;obtain⟨_,U,aK,rfl,cd,dk,aW,cq,O,qk⟩:=gg (rs:=t.n.rs) hF (j4 hw2) ⟨cd,dk,code,uh,O,hO⟩;refine M 2 ?_;refine⟨λi h=>(by cases h),_,_,_,rfl,rfl,?_⟩;exact⟨rfl,cd,dk,aW,cq,O.erase 2,qk⟩
  rw[if_neg q2];refine vY ?_;refine G 5 ?_
  by_cases q3:t.n.op=3
  .rw[if_neg GB,if_neg GB,if_pos q3];refine vX ?_;refine G 5 ?_;refine ah.loop (λmm I U=>∃(i:Nat) (cd:D) (dk:Nat->Prop) (aq iw:List bn) (dq:Bool),I.clean=fL I 12 [(0,yv k 0 0),(2,yv k3 0 0),(0,J W (i:Nat))]/\Has N S U (x4 k (zm 0 false [cd,wt dq])::.deep dk cd 4 (aq.map bN)::x4 k3 (zm 0 false (tC t))::H)/\(i+mm=t.ks.length)/\((dq=false/\aq=iw/\iw.length<=400)\/(dq=true/\aq.length=400/\400<iw.length))/\(iw++iG (aE (t.ks.drop i)) iw.length=full++iG (aE t.ks) full.length)) (t.ks.length) ?_ ?_;·exact⟨0,cd,dk,code,full,uh,rfl,O,by omega,hO,rfl⟩
   rintro mm I U ⟨i,cd,dk,aq,iw,dq,hfr,O,hi,Je,h_⟩;refine zK λee=>?_;refine G 2 ?_;refine ah.dM 33 (wt (decide ((i:Int)<(t.ks.length:Nat)) &&!dq)) [] ?_ (λff tmp bp=>?_)
   .refine M 6 ?_;refine y2 27 (λiF=>?_) λiF=>?_;·refine G 6 ?_;exact vV
    refine G 6 ?_;refine vU ?_
    all_goals(simp_all;omega)
   refine zG ?_
   by_cases hgo:i<t.ks.length/\dq=false
   .obtain⟨hlt,hb2⟩:=hgo;have c_:(decide ((i:Int)<(t.ks.length:Nat)) &&!dq)=true:=by rw[hb2];simp;omega
    rw[c_] at bp
    obtain⟨p,B⟩:∃p,t.ks[i]?=some p:=⟨t.ks[i]'hlt,μ _⟩
    have gi:=ι B;have dO:=lD B;have eY:=dD p iw.length (Qz p gi);rw[drop_cons B] at h_;simp[aE,iG] at h_;refine M 11 λZw R4=>?_;obtain⟨_,U,aK,rfl,cd,dk,aW,cq,O,qk⟩:=ih p gi hF ⟨cd,dk,aq,dq,O,Je⟩;refine M 7 ?_;exact⟨mm-1,by omega,i+1,cd,dk,aW,iw++aF p iw.length,cq,rfl,O,by omega,qk,(by rw[γ,eY,η];exact h_)⟩
   have c_:(decide ((i:Int)<(t.ks.length:Nat)) &&!dq)=false:=by
    by_cases h:i<t.ks.length
    .have:dq=true:=by cases dq;exact absurd ⟨h,rfl⟩ hgo;rfl
     rw[this];simp
    rw[decide_eq_false GB];rfl
   rw[c_] at bp;refine G 2 ?_;refine⟨λi h=>(by cases h),_,_,_,rfl,rfl,?_⟩;refine⟨rfl,cd,dk,aq,dq,O.erase 2,?_⟩
   rcases Je with⟨h1,X,h3⟩|⟨h1,X,h3⟩
   .have he:t.ks.drop i=[]:=Qaj (by
     by_cases h:i<t.ks.length;·exact absurd ⟨h,h1⟩ hgo
     omega)
    rw[he] at h_;simp[aE,iG] at h_;exact xR ⟨h1,by rw[X];exact h_,by rw[<-h_];exact h3⟩
   exact j4 ⟨h1,X,by rw[<-h_,γ];omega⟩
  refine vY ?_;refine G 5 ?_
  by_cases q4:t.n.op=4
  .rw[if_neg GB,if_neg GB,if_neg q3,if_pos q4];have jn:2<=t.ks.length:=by obtain⟨_,hq⟩:=ho;omega
   have JF:cg t.n (mf t.ks) t.ks.length=mf t.ks+2*(t.ks.length-1):=by unfold cg;rw[if_neg GB,if_pos q4]
   rw[JF];refine vX ?_;refine G 4 ?_;obtain⟨_,U,aK,rfl,cd,dk,aW,cq,O,qk⟩:=PJ ih Qz pj jn GB hF ⟨cd,dk,code,uh,O,hO⟩;refine M 2 ?_;refine⟨λi h=>(by cases h),_,_,_,rfl,rfl,?_⟩;exact⟨rfl,cd,dk,aW,cq,O.erase 2,qk⟩
  refine vY ?_;refine G 5 ?_
  by_cases q5:t.n.op=5
  .rw[if_neg GB,if_neg GB,if_neg q3,if_neg q4,if_pos q5];have jo:t.ks.length=1:=by obtain⟨_,hq⟩:=ho;omega
   obtain⟨p,B⟩:∃p,t.ks=[p]:=Qak.1 jo;have gi:p∈t.ks:=by rw[B];simp
   have hz:mf t.ks=p.sz:=by rw[B];simp[mf]
   have dO:(t.ks.map tC)[0]?=some (tC p):=by rw[B];rfl
   have hct:iG (aE t.ks)=aF p:=by rw[B];exact zp p
   rw[hz,hct];have aaC:mV t.n 1:=by rw[<-jo];exact ho
   have BC:p.dF<=1048576:=by have:=ch gi;omega
   have hcr:=λ(U:St) (hM:PW N S U k (x4 k3 (zm 0 false (tC t))::H) full)=>FP (ih p gi) (Qz p gi) (pj p gi) TV q5 aaC BC hF hM;refine vX ?_;refine G 3 ?_;refine yC (m:=7) (r:=aO t.n) O dh ?_;refine M 4 λUX LQ=>?_;obtain⟨_,U,aK,rfl,cd,dk,aW,cq,O,qk⟩:=hcr _ ⟨cd,dk,code,uh,O,hO⟩;refine M 2 ?_;refine⟨λi h=>(by cases h),_,_,_,rfl,rfl,?_⟩;exact⟨rfl,cd,dk,aW,cq,O.erase 2,qk⟩
  refine vY ?_;refine G 5 ?_
  by_cases q6:t.n.op=6
  .rw[if_neg GB,if_neg GB,if_neg q3,if_neg q4,if_neg q5,if_pos q6];have jo:t.ks.length=1/\1<=t.n.cap/\t.n.cap<=4:=by obtain⟨_,hq⟩:=ho;omega
   obtain⟨p,B⟩:∃p,t.ks=[p]:=Qak.1 jo.1;have gi:p∈t.ks:=by rw[B];simp
   have dO:(t.ks.map tC)[0]?=some (tC p):=by rw[B];rfl
   have hct:iG (aE t.ks)=aF p:=by rw[B];exact zp p
   rw[hct];refine vX ?_;refine G 6 ?_;refine u.vT (z:=(2*t.n.cap)) rfl Pd Pd (by(try simp only[Δ,κ,ν,γ,ξ,ψ]);rw[wrap_i64 GB GB]<;>omega) (ae rfl _) ?_;refine qg (d:=y4 [J W 4,J W (2*t.n.cap),J W 0,j5]) ?_;obtain⟨_,U,aK,rfl,cd,dk,aW,cq,O,qk⟩:=gg (rs:=[]) hF (xR ⟨rfl,rfl⟩) ⟨cd,dk,code,uh,O,hO⟩;refine M 2 ?_;have YO:(full++[bZ 4 (2*t.n.cap) 0 []]).length=full.length+1:=by simp
   refine M 7 λTI VF=>?_;obtain⟨_,U,aK,rfl,cd,dk,n4,xS,O,BF⟩:=ih p gi hF ⟨cd,dk,aW,cq,O,qk⟩;refine M 2 ?_;rw[YO] at BF;refine G 5 ?_;refine u.vT (z:=(2*t.n.cap)) rfl Pd Pd (by(try simp only[Δ,κ,ν,γ,ξ,ψ]);rw[wrap_i64 GB GB]<;>omega) (ae rfl _) ?_;refine yA (z:=(2*t.n.cap+1)) ?_;refine qg (d:=y4 [J W 4,J W (2*t.n.cap+1),J W 0,j5]) ?_;obtain⟨_,U,aK,rfl,cd,dk,jB,n5,O,Jd⟩:=gg (rs:=[]) hF (xR ⟨rfl,rfl⟩) ⟨cd,dk,n4,xS,O,BF⟩;refine M 2 ?_;refine⟨λi h=>(by cases h),_,_,_,rfl,rfl,?_⟩;have hee:full++[bZ 4 (2*t.n.cap) 0 []]++aF p (full.length+1)++[bZ 4 (2*t.n.cap+1) 0 []]=full++(bZ 4 (2*t.n.cap) 0 []::(aF p (full.length+1)++[bZ 4 (2*t.n.cap+1) 0 []])):=by simp
   rw[hee] at Jd;exact⟨rfl,cd,dk,jB,n5,O.erase 2,Jd⟩
  refine vY ?_;refine G 5 ?_
  by_cases q7:t.n.op=7;·rw[if_pos q7];refine vX ?_;refine G 2 ?_;refine qg (d:=y4 [J W 5,J W 0,J W 0,j5]) ?_;obtain⟨_,U,aK,rfl,cd,dk,aW,cq,O,qk⟩:=gg (rs:=[]) hF (xR ⟨rfl,rfl⟩) ⟨cd,dk,code,uh,O,hO⟩;refine M 2 ?_;refine⟨λi h=>(by cases h),_,_,_,rfl,rfl,?_⟩;exact⟨rfl,cd,dk,aW,cq,O.erase 2,qk⟩
  refine vY ?_;refine G 5 ?_
  by_cases q8:t.n.op=8;·rw[if_neg q7,if_pos q8];refine vX ?_;refine G 2 ?_;refine qg (d:=y4 [J W 6,J W 0,J W 0,j5]) ?_;obtain⟨_,U,aK,rfl,cd,dk,aW,cq,O,qk⟩:=gg (rs:=[]) hF (xR ⟨rfl,rfl⟩) ⟨cd,dk,code,uh,O,hO⟩;refine M 2 ?_;refine⟨λi h=>(by cases h),_,_,_,rfl,rfl,?_⟩;exact⟨rfl,cd,dk,aW,cq,O.erase 2,qk⟩
  rw[if_neg q7,if_neg q8,if_neg q3,if_neg q4,if_neg q5,if_neg q6,Ω];refine vY ?_;refine G 1 ?_;refine⟨λi h=>(by cases h),_,_,_,rfl,rfl,?_⟩;exact⟨rfl,cd,dk,code,uh,O.erase 2,hO⟩
mutual
def Q.rG:∀(t:Q),t.ok->∀n∈t.flat,n.kids<=((t.flat.length:Nat):Int)
 | .mk n ks,h,m,hm=>by
  simp[Q.ok] at h;simp[Q.flat] at hm;have h1:=aG.sX ks;simp only[Q.flat,κ]
  rcases hm with rfl|hm
  .have:=h.1.1;omega
  .have:=aG.rG ks h.2 m hm;omega
def aG.rG:∀(ts:aG),ts.ok->∀n∈ts.flat,n.kids<=((ts.flat.length:Nat):Int)
 | .nil,_,n,hn=>by simp[aG.flat] at hn
 | .cons t ts,h,n,hn=>by
  simp[aG.ok] at h;simp[aG.flat] at hn;simp only[aG.flat,γ]
  rcases hn with hn|hn
  .have:=Q.rG t h.1 n hn;omega
  .have:=aG.rG ts h.2 n hn;omega
end
theorem Q4 {x:D} {s:Nat} {es:List (List D)} (h:fJ x s es):x.mO=none:=by
 rcases h with⟨rfl,_⟩|⟨ds,rfl,_⟩<;>rfl
def LF (i:bn):Int×Int×Int×List Rg:=(i.op,i.x,i.y,i.rs)
variable{N:Nat} {S U:St} {H:List aX}
end Go.Proofs.YtappgjdiplibbaaGreat
namespace Go.Proofs.YtappgjdiplibbaaGreat
open Go.V Go Go.RowKit
variable{H:Type} {enc:TypeId×Value->H} {w:World} {spare:Nat->Bool} {held:Bool} {d:DataW H}
end Go.Proofs.YtappgjdiplibbaaGreat
namespace Go.Proofs.YtappgjdiplibbaaGreat
open Go.V Go Go.RowKit
variable{Y:St}{s:Nat}{x:D}
def EJ {y:D} (hx:ο Y s x []) (hy:ο Y 2 y []):Ev pv 32 [x,y] Y (wt true) Y:=by
 refine zM W8 λS aP hF O=>?_;have wy:=υ hx aP;have hya:=υ hy aP;refine G 8 ?_;refine Qck rfl Pd (wy.rows O) rfl (ae rfl _) ?_;refine qm ?_;refine Qck rfl Pd (hya.rows O) rfl (ae rfl _) ?_;refine M 10 ?_;refine ah.loop (λmm I U=>I.clean=fL I 6 [(0,x),(0,y),(3,J W 0)]/\Has Y.bs.length S U []/\(True)) (0) ?_ ?_;·exact⟨rfl,O,trivial⟩
 rintro mm I U ⟨hfr,O,ht⟩;refine zK λee=>?_;refine G 5 ?_;refine Qck rfl Pd (wy.rows O) rfl (ae rfl _) ?_;refine M 3 ?_;exact M 5 trivial
variable{U:St}
def tJ {es:List (List D)} (h:ο U s x es):x.cells?=some [x]:=by cases h<;>rfl
def LD (U:St) (i:bn):Prop:=∃s,ο U s i.rd (i.rs.map ak)/\(i.rs=[]\/s=2)
variable{i:bn}
def LD.to {S:St} {H:List aX} (h:LD Y i) (hS:S.bs=Y.bs) (O:Has Y.bs.length S U H):LD U i:=by
 obtain⟨s,h1,X⟩:=h;exact⟨s,(υ h1 hS).rows O,X⟩
def EM {c:bn} (h:LD Y i) (hc:c.ok) (he:i.rs=c.rs):Ev pv 32 [i.rd,c.rd] Y (wt true) Y:=by
 obtain⟨s,h1,X⟩:=h;have hcr:=hc.1.rows Y;rw[<-he] at hcr
 by_cases h0:i.rs=[];·rw[h0] at h1 hcr;exact EJ h1 hcr
 have h3:s=2:=X.resolve_left h0;subst h3;have hl:i.rs.length<=1073741824:=by rw[he];exact Ξ hc.2 AN
 have:=Ah (Y:=Y) h1 hcr hl hl
 rwa [decide_eq_true rfl] at this
def Ua.zD {hk hp:Prop} (e:hk->hp:=by intro h;dsimp only[u2,u1,u3,u4,setMany,u5,u6,D.cells,Nat.reduceAdd,bN,Pg.d,Pg.cs] at h;exact h):hk->hp:=e
def Io {P Tr:Pg} (BC:ο Y 4 P.cd (P.code.map bN)) (AW:ο Y 1 P.sd (P.aN.map av)) (hpi:∀i∈P.code,LD Y i) (hQ:Tr.ok) (ux:P.code.map LF=Tr.code.map LF) (hst:P.aN=Tr.aN):Ev pv 11 [P.d,Tr.d] Y (wt true) Y:=by
 open Ua in
 have hcl:=hQ.cl;have pb:=hQ.sl;have Dv:=hQ.c.ref;have xn:=hQ.s.ref;have Nz:P.code.length=Tr.code.length:=by have:=congrArg Qcj ux;simpa using this
 have aab:refs [Tr.cd,Tr.sd]=0:=by simp[refs,Dv,xn]
 have Hr:=tJ BC;have hcp2:=tJ AW
 have tW:∀(U:St),ο U 1 P.sd (P.aN.map av)->Ev pv 31 [P.sd,Tr.sd] U (wt true) U:=λU h=>by
  have:=EL (Y:=U) h (hQ.s.rows U) (by rw[hst];exact Ξ pb AN) (Ξ pb AN)
  rwa [decide_eq_true hst] at this
 refine zM acJ λS aP hF O=>?_;have Hj:=υ BC aP;have RZ:=υ AW aP;have hqa:=hQ.c.arg Y.bs.length S;have hqb:=hQ.s.arg Y.bs.length S;refine qq<|qj λK hK=>M 3 λk2 U jn O k3 U A7 O=>?_;refine qe hK ?_;have Mb:((P.code.length:Int) !=(Tr.code.length:Int))=false:=by rw[Nz];simp
 refine M 2 ?_;refine qj λK hK=>M (t:=(tW _ (RZ.rows O))) 15 ?_;refine qe hK<|M 4 ?_;refine qj λK hK=>qm ?_;refine qe hK<|ah.block<|ah.loop (λmm I U=>∃(i:Nat),I.clean=fL I 8 [(2,yv k2 0 0),(0,yv k3 0 0),(1,J W (i:Nat))]/\Has Y.bs.length S U (x4 k3 (zm 0 false [Tr.cd,Tr.sd])::x4 k2 (zm 0 false [P.cd,P.sd])::[])/\(i+mm=P.code.length)) (P.code.length) ?_ ?_
 .exact⟨0,rfl,O,by omega⟩
 rintro mm I U ⟨i,hfr,O,hi⟩;refine zK λee=>?_;refine M 2 ?_;refine qj λK hK=>M 5 ?_;refine qe hK ?_
 by_cases hil:i<P.code.length
 .obtain⟨x,hx⟩:∃x,P.code[i]?=some x:=⟨P.code[i]'hil,μ _⟩
  obtain⟨y,hy⟩:=gx (l:=Tr.code) (i:=i)
  have Fw:LF x=LF y:=by
   have:=congrArg (λl=>l[i]?) ux;simp[hx,hy] at this;exact this
  obtain⟨ho,hx1,hy1,Ee⟩:x.op=y.op/\x.x=y.x/\x.y=y.y/\x.rs=y.rs:=by
   unfold LF at Fw;simp at Fw;exact Fw
  have hxo:=hpi x (ι hx);have BA:=hQ.i y (ι hy);have hrx:=kK hx;have hry:=kK hy;refine qD rfl (by simp;omega) ?_;refine M 3 ?_;change ah _ _ _ _ _ _;refine qq ?_;generalize hK:dN _ _ _ _=K;refine ah.Ci rfl ?_;refine nr.cons ?_;refine qp (o:=0) ?_;refine yY ?_;refine ql O bf ?_;refine yY ?_;refine qm ?_;refine yY ?_;refine u.KA rfl Pd Pd (Hj.rows O) rfl rfl hrx (λ_=>(ae rfl _)) (λZA R7=>?_);refine yY ?_;refine qR ?_;refine yY ?_;refine qp (o:=0) ?_;refine yY ?_;refine ql O aV ?_;refine yY ?_;refine qm ?_;refine yY ?_;refine u.Zq rfl rfl rfl hQ.c rfl rfl hry (ae rfl _) (λO2=>?_);refine yY ?_;refine qR ?_;refine yY ?_;refine qa O λk6 U L' O=>?_;refine yY ?_;refine qa O λk7 U Wf O=>?_;refine yY ?_;refine M 1 λU O=>?_;refine Qci ⟨by exact π.2 ⟨(by exact jQ rfl rfl rfl (Has.at so dh) (Has.at so dh) (Has.at so aV) aab),π.2 ⟨(by exact xf rfl rfl (Q4 hQ.c)),π.2 ⟨(by exact xf rfl rfl rfl),rfl⟩⟩⟩,?_⟩;refine nr.cons ?_;refine M 1 λU O=>?_;refine Qci ⟨rfl,?_⟩;refine nr.nil ?_;subst hK;have iF:(x.op !=y.op)=false:=by simp[ho]
  have mI:(x.x !=y.x)=false:=by simp[hx1]
  have lg:(x.y !=y.y)=false:=by simp[hy1]
  have hsr:=EM (Y:=U) (hxo.to aP O) BA Ee;refine qq<|qj λK hK=>M 24 ?_;refine u.dP (wi lg) rfl hsr (ae rfl _) ?_;refine M 2 ?_;refine qe hK<|M 2 ?_;refine qj λK hK=>qm ?_;refine yA (z:=((i+1:Nat):Int)) ?_;refine qm ?_;refine qe hK ?_;exact⟨mm-1,by omega,i+1,rfl,O.drop 2,by omega⟩
 refine qE rfl (by simp;omega) ?_;refine M 2 ?_;refine qj λK hK=>qm ?_;refine qe hK ?_;exact M 0 trivial
section
variable{H:Type} {enc:TypeId×Value->H} {w:World} {spare:Nat->Bool} {held:Bool} {d:DataW H}
end
end Go.Proofs.YtappgjdiplibbaaGreat
namespace Go.Proofs.YtappgjdiplibbaaGreat
open Go.V Go
variable{N k:Nat}{S U:St}{H:List aX}
def GZ {cs:List D} (O:Has N S U H) (A:k<N) (h:S.bs[k]?=some (zm 0 false cs)) (o:Nat):iW U (yv k 0 o) (cs.drop o):=
 xR ⟨k,0,o,false,_,rfl,St.mem_of (by rw[O.ex.low k A];exact h),Qcf ..⟩
def NH (i:bn):bn:=⟨i.op,i.x,i.y,.sl ((i.rs.map ak).map (jK 2)),i.rs⟩
def SR {i:bn} (h:i.ok):(NH i).ok:=⟨fJ.frozen (oy _) (cX _),h.2⟩
def SS (q:bn):List D:=bN (NH q)
variable{hk hp:Prop}
def Uq.zD (e:hk->hp:=by intro h;dsimp only[u2,u1,u3,u4,setMany,u5,u6,D.cells,Nat.reduceAdd,Pg.cs,bN,av] at h;exact h):hk->hp:=e
variable{Y:St}{p:Pg}
def DB (B:p.ok):∃d,Ev pv 29 [p.d] Y d Y/\∃q:Pg,d=q.d/\q.ok/\q.code=p.code.map NH/\q.aN=p.aN:=by
 open Uq in
 refine zM acv λS aP hF O=>?_;have hc:=B.c.arg Y.bs.length S;have hs:=B.s.arg Y.bs.length S;have hlen:=B.cl;have Z9:=B.sl;unfold Pg.d;refine M 5 λk1 U jo O k2 U jn O=>?_;have O:=O.cY 1;refine M 9 λx8 U O k3 U A7 O U O=>?_;have O:=O.Rv 4;refine M 9 ?_;refine ah.loop (λmm I U=>∃(i:Nat) (y:D) (ks:Nat->Prop),I.clean=fL I 14 [(1,yv k1 0 0),(0,yv k2 0 0),(0,yv k3 0 0),(7,p.cd),(0,J W (p.code.length:Nat)),(0,J W (i:Nat))]/\Has Y.bs.length S U [.deep ks y 4 ((p.code.take i).map SS),x4 k3 (zm 0 false [y,x8]),.ai x8 1 (p.aN.map av),x4 k2 (zm 0 false [j5,j5]),x4 k1 (zm 0 false [p.cd,p.sd])]/\(i+mm=p.code.length)) (p.code.length) ?_ ?_;·exact⟨0,j5,_,rfl,O,by omega⟩
 rintro mm I U ⟨i,y,ks,hfr,O,hi⟩;refine zK λee=>?_;refine G 5 ?_;refine zP (λh1=>?_) λh1=>?_
 .refine G 1 ?_
  obtain⟨q,hq⟩:=gx (l:=p.code) (i:=i)
  have hr:=kK hq;have hqo:=B.i q (ι hq);have rO:=hqo.1;have BB:=hqo.1.arg Y.bs.length S;have ma:=hqo.2;have htl:((p.code.take i).map SS).length<=1048576:=by rw[ξ,Qce];omega
  refine M 9 λTN I5 k5 U FA O U O=>?_;have O:=O.cY 2;refine M 6 λYp U O=>?_;refine qT O bf (λU O=>?_) (hcs:=O.dv aV);dsimp[u2,u1,u3,u4,setMany,u5,u6,D.cells,ρ,Pg.cs,bN,av] at O;refine M 6 λk24 U aaZ O=>?_;obtain⟨O,WD⟩:=O.Ng (i:=1) (j:=3) AN bf d_ (cX _);dsimp at O;refine u.rW O rfl rfl rfl d_ (O.rows aV) (.cons (.cons (.plain _ rfl) (.cons (.plain _ rfl) (.cons (.plain _ rfl) (.cons WD .nil)))) .nil) rfl rfl rfl rfl rfl rfl rfl ⟨(Γ rfl),(Γ rfl)⟩ (λ_=>(ae rfl _)) (by show _+1<=_;omega) (xR hF) (λYo U O=>?_);dsimp at O;refine G 1 ?_;refine u.pZ O rfl Pd Pd (by exact O.w9 (by exact d_)) (by exact rfl) (by exact kS) (by exact Γ rfl) (by exact xR hF) (λU O=>?_);dsimp[u2,u1,u3,u4,setMany,u5,u6,D.cells,ρ,Pg.cs,bN,av] at O;refine G 2 ?_;refine yA (z:=((i+1:Nat):Int)) ?_;refine G 2 ?_;exact⟨mm-1,by omega,i+1,Yo,_,rfl,(by rw[Qcc,hq,Option.toList_some,Qaf];exact O.drop 3),by omega⟩
 refine M 6 λU O=>?_;rw[χ GB] at O;have h1:=O.wR aV (n:=14) AN;have X:=O.oM dh (oJ _) (n:=15) AN
 have h3:aB U Y.bs.length false 16 (y4 [y,x8])=some (y4 [.sl ((p.code.map SS).map (jK 4)),.sl ((p.aN.map av).map (jK 1))]):=by
  show(cE (aB U Y.bs.length false 15) [y,x8]).map D.agg=_;simp[cE,h1,X]
 refine ah.ret ⟨rx,_,_,O.bm rfl d_ rfl,rl aP O h3,⟨_,p.code.map NH,LA p.aN,p.aN⟩,rfl,⟨?_,Da _,?_,by simpa using hlen,Z9⟩,rfl,rfl⟩
 .have h0:(p.code.map NH).map bN=p.code.map SS:=by rw[List.map_map];rfl
  show fJ _ 4 ((p.code.map NH).map bN);rw[h0]
  have h4:∀e∈(p.code.map SS),e.length=4:=by
   intro e he;obtain⟨q,_,rfl⟩:=Qc6.1 he;rfl
  have:=fJ.frozen (s:=4) (es:=p.code.map SS) h4 (by
   intro e he d hd;obtain⟨q,_,rfl⟩:=Qc6.1 he;simp only[SS,bN,NH,Qah,List.not_mem_nil,or_false] at hd
   rcases hd with rfl|rfl|rfl|rfl<;>rfl)
  exact this
 intro i hi;obtain⟨q,hq,rfl⟩:=Qc6.1 hi;exact SR (B.i q hq)
def Iq:(⟨j5,[],j5,[]⟩:Pg).ok:=⟨xR ⟨rfl,rfl⟩,xR ⟨rfl,rfl⟩,λi hi=>(by cases hi),by simp,by simp⟩
variable{q:Pg}
def N' (h:q.ok) (U:St) (N:Nat) (aa:Bool):∃q':Pg,aB U N false 16 (.tup [y4 [q.cd,q.sd],wt aa])=some (.tup [q'.d,wt aa])/\q'.ok/\q'.code=q.code/\q'.aN=q.aN:=by
 obtain⟨y1,e1,f1⟩:=h.c.freeze U N 13;obtain⟨y2,e2,f2⟩:=h.s.freeze U N 13;refine⟨⟨y1,q.code,y2,q.aN⟩,?_,⟨f1,f2,h.i,h.cl,h.sl⟩,rfl,rfl⟩;show(cE (aB U N false 15) [y4 [q.cd,q.sd],wt aa]).map D.tup=_
 have h1:aB U N false 15 (y4 [q.cd,q.sd])=some (y4 [y1,y2]):=by
  show(cE (aB U N false 14) [q.cd,q.sd]).map D.agg=_;simp[cE,e1,e2]
 have h4:aB U N false 15 (wt aa)=some (wt aa):=rfl;simp only[cE,h1,h4,Φ];rfl
variable{c1 c2 c5:D}
def PA {pd:D} {co:List UInt8} (B:p.ok) (A:Y.bs[k]?=some (zm 0 false [pd,yR co,c1,c2,p.cd,p.sd,c5])) (lT:k<Y.bs.length) (Hi:refs [pd,yR co,c1,c2,p.cd,p.sd,c5]<=Y.bs.length):
  ∃d,Ev pv 8 [yv k 0 0] Y d Y/\∃q:Pg,d=.tup [q.d,wt (co !=[])]/\q.ok/\q.code=p.code.map NH/\q.aN=p.aN:=by
 have hfr:=λ(U:St)=>DB (Y:=U) B;unfold Pg.d at hfr;refine zM fi8 λS aP hF O=>?_;have iE:=λ(U:St) (H:List aX) (h:Has Y.bs.length S U H)=>(h.ex.low k lT).trans (aP▸A);have RV:=λ(U:St) (H:List aX) (h:Has Y.bs.length S U H)=>Ξ Hi (aP▸h.ex.len:Y.bs.length<=U.bs.length);refine qq<|qj λK hK=>M 2 λk2 U jn O=>?_;refine qe hK ?_;have hA:=O;have hp4:=GZ O lT (by rw[aP];exact A) 4;have sA:=GZ O lT (by rw[aP];exact A) 1;change ah _ _ _ _ _ _;refine qq ?_;generalize hK:dN _ _ _ _=K;refine ah.Ci rfl ?_;refine nr.cons ?_;refine qm ?_;refine yY ?_;refine qg ?_;refine yY ?_;refine qp (o:=4) ?_;refine yY ?_;refine qR ?_;refine yY ?_;obtain⟨_,aK,q,rfl,xE,oW,VC⟩:=hfr U;refine qv aK ?_;refine yY ?_;refine qm ?_;refine yY ?_;refine qg ?_;refine yY ?_;refine qp (o:=0) ?_;refine yY ?_;refine qp (o:=1) ?_;refine yY ?_;refine qR ?_;refine yY ?_;refine qg ?_;refine yY ?_;refine M 1 λU O=>?_;refine Qci ⟨by exact π.2 ⟨Jt rfl rfl rfl (iE _ _ hA) (iE _ _ O) (iE _ _ hA) (RV _ _ hA),rfl⟩,?_⟩;refine nr.cons ?_;refine qm ?_;refine Qci ⟨rfl,?_⟩;refine nr.nil ?_;subst hK;obtain⟨q',h1,X,h3,h4⟩:=N' xE U Y.bs.length (co !=[]);exact ah.ret ⟨rx,_,_,O.ra rfl aV rfl rfl,rl aP O h1,q',rfl,X,h3.trans oW,h4.trans VC⟩
def PV (l:List jm) (c:List UInt8):Prop:=l.length<=8/\(∀p∈l,p.nm.length<=32/\p.tx.length<=120)/\c.length<=120
variable{s:List UInt8}
def Fc (h:jA s=true):s.length<=32:=by
 unfold jA at h;simp only[φ,decide_eq_true_eq] at h;exact h.1.2
def tQ {b:List UInt8} (h:(aT b).2.1=0):b.length<=120:=by
 unfold aT at h
 by_cases hl:120<b.length;·rw[if_pos hl] at h;cases h
 omega
def o8:∀(l:List jm) (i:Nat) (T:List gI) (out:List (List aQ)) (r:List gI×List (List aQ)),bX l i T out=.ok r->∀p∈l,p.nm.length<=32/\p.tx.length<=120
 |[],i,T,out,r,h=>λp B=>by cases B
 |p::l,i,T,out,r,h=>λq hq=>by
  unfold bX at h
  split at h;·cases h
  rename_i hn
  split at h;·cases h
  split at h;·cases h
  rename_i he
  rcases Qah.1 hq with rfl|hq
  .exact⟨Fc (by simpa using hn),tQ (by simpa using he)⟩
  exact o8 l _ _ _ r h q hq
variable{c:List UInt8}
def CX {l:List jm} {r:List gI×gk×gk} (h:rB l c=.ok r):PV l c:=by
 unfold rB at h
 split at h;·cases h
 rename_i h8
 split at h;·cases h
 rename_i r hr
 split at h;·cases h
 rename_i hc;refine⟨by omega,o8 _ _ _ _ _ hr,?_⟩
 by_cases nu:c=[];·subst nu;simp
 exact tQ (Classical.byContradiction λX=>hc ⟨nu,X⟩)
def y6 (l:List jm) (c:List UInt8):Int:=QF (n3 0#32 (na l c)) (n3 1#32 (na l c))
def Ar {c:List D} (F:Y.bs[k]?=some (zm 0 false c)) (aP:S.bs=Y.bs) (o:Nat):∀{U:St} {H:List aX},Has Y.bs.length S U H->iW U (yv k 0 o) (c.drop o):=λ{U H} h=>by
 refine xR ⟨k,0,o,false,_,rfl,?_,Qcf ..⟩;unfold St.cp;rw[h.ex.low k (τ.1 F).1,aP,F];simp
def Gq {l:List jm} (h:PV l c):(na l c).length<=100000000:=by
 obtain⟨h1,X,h3⟩:=h;have sB:=mA (l.length:Nat);have I6:=DC (f:=gL) (n:=2097170) (l:=l) (λx hx=>uP ⟨by have:=(X x hx).1;omega,by have:=(X x hx).2;omega⟩);have hcl:=nA c;have:l.length*2097170<=8*2097170:=Nat.mul_le_mul_right _ h1;unfold na;simp only[γ];omega
def Ml {Y:St} {k:Nat} {x c1 c2 c3 c4 c5:D} {l:List jm} {cont:List UInt8} (hS:PV l cont) (hx:ο Y 2 x (l.map cD)) (F:Y.bs[k]?=some (.mem 0 false [x,.str cont,c1,c2,c3,c4,c5])):Ev pv 14 [.ptr k 0 0] Y (.int .i64 (y6 l cont)) Y:=by
 have hbl:=Gq hS
 have gS:∀p∈l,p.fit:=λp B=>⟨by have:=(hS.2.1 p B).1;omega,by have:=(hS.2.1 p B).2;omega⟩
 have hl8:=hS.1;have hc8:=hS.2.2;refine Ev.sU rfl acG rfl rfl rfl ?_;refine zE ?_;obtain⟨aP,hF,O⟩:=ri Y;generalize aw .ro Y=S at*;have wy:=υ hx aP;have RZ:=λ(U:St) (h:ο U 2 x (l.map cD))=>Im (Y:=U) (x:=.nul) (b:=[]) (c:=cont) .nul h (by simp) (by omega) gS (by omega);rw[ω] at RZ;refine G 4 ?_;have hp0:=Ar F aP 0 O;refine G 6 ?_;refine qv ((RZ _ (wy.rows O))) ?_;refine M 6 λk10 U aa1 O=>?_;refine qv ((J8 (O.rows aV) (dX _ _) (by omega))) ?_;refine Θ (d:=.int .i64 ((n3 0#32 (na l cont)).toNat:Nat)) (st1:=_) rfl rfl (by exact zZ _ _) (ae rfl _) ?_;refine Θ (d:=.int .i64 (((n3 0#32 (na l cont)).toNat*65536:Nat):Int)) (st1:=_) rfl rfl (by exact B6 _ _) (ae rfl _) ?_;refine qm ?_;refine qv (Qi (dX _ _) (by omega) 1#32) ?_;refine Θ (d:=lJ (n3 1#32 (na l cont) &&&65535#32)) (st1:=_) rfl rfl (by exact Bt _ 65535#32 _) (ae rfl _) ?_;refine Θ (d:=.int .i64 ((n3 1#32 (na l cont) &&&65535#32).toNat:Nat)) (st1:=_) rfl rfl (by exact zZ _ _) (ae rfl _) ?_;refine Θ (d:=.int .i64 (y6 l cont)) (st1:=_) rfl rfl (by exact Ht _ _ _) (ae rfl _) ?_;exact M 2 trivial
def P3.zD (e:hk->hp:=by intro h;dsimp only[u2,u1,u3,u4,setMany,u5,u6,D.cells,Nat.reduceAdd,cD] at h;exact h):hk->hp:=e
variable{x c3 c4:D}
def NU {l:List jm} {cont:List UInt8} (hx:ο Y 2 x (l.map cD)) (hl:l.length<=1048576) (F:Y.bs[k]?=some (zm 0 false [x,yR cont,c1,c2,c3,c4,c5])):Ev pv 10 [yv k 0 0] Y (y4 [rn l,yR cont]) Y:=by
 open P3 in
 have hfz:∀(U:St) (N:Nat),aB U N false 16 (y4 [rn l,yR cont])=some (y4 [rn l,yR cont]):=λU N=>rfl;refine zM acK λS aP hF O=>?_;have wy:=υ hx aP;refine M 4 λk2 U jn O=>?_;have hp0:=Ar F aP 0 O;refine M (t:=(w_ (wy.rows O) hl)) 9 λU O=>?_;exact ah.ret ⟨rx,_,O.bm rfl aV rfl,rl aP O (hfz _ _)⟩
def KR (h:q.ok) (U:St) (N:Nat):∃q':Pg,aB U N false 16 (y4 [q.cd,q.sd])=some q'.d/\q'.ok/\q'.code=q.code/\q'.aN=q.aN:=by
 obtain⟨y1,e1,f1⟩:=h.c.freeze U N 14;obtain⟨y2,e2,f2⟩:=h.s.freeze U N 14;refine⟨⟨y1,q.code,y2,q.aN⟩,?_,⟨f1,f2,h.i,h.cl,h.sl⟩,rfl,rfl⟩;show(cE (aB U N false 15) [q.cd,q.sd]).map D.agg=_;simp only[cE,e1,e2,Φ];rfl
def KN (B:p.ok) (F:Y.bs[k]?=some (zm 0 false [x,c1,p.cd,p.sd,c3,c4,c5])):
  ∃d,Ev pv 12 [yv k 0 0] Y d Y/\∃q:Pg,d=q.d/\q.ok/\q.code=p.code.map NH/\q.aN=p.aN:=by
 have hfr:=λ(U:St)=>DB (Y:=U) B;unfold Pg.d at hfr;refine zM acI λS aP hF O=>?_;refine M 4 λk2 U jn O=>?_;have tX:=Ar F aP 2 O;refine G 6 ?_;obtain⟨_,aK,q,rfl,xE,oW,VC⟩:=hfr U;refine M 3 λU O=>?_;obtain⟨q',h1,X,h3,h4⟩:=KR xE U Y.bs.length;exact ah.ret ⟨rx,_,_,O.bm rfl aV rfl,rl aP O h1,q',rfl,X,h3.trans oW,h4.trans VC⟩
def Jb {Y:St} {x:D} {l:List jm} {cont:List UInt8} (hS:PV l cont) (hx:ο Y 2 x (l.map cD)):Ev pv 15 [.agg [x,.str cont]] Y (.int .i64 (y6 l cont)) Y:=by
 have hbl:=Gq hS
 have gS:∀p∈l,p.fit:=λp B=>⟨by have:=(hS.2.1 p B).1;omega,by have:=(hS.2.1 p B).2;omega⟩
 have hl8:=hS.1;have hc8:=hS.2.2;have NB:=gX hx;refine Ev.sU rfl acF rfl rfl rfl ?_;refine zE ?_;obtain⟨aP,hF,O⟩:=ri Y;generalize aw .ro Y=S at*;have wy:=υ hx aP;have RZ:=λ(U:St) (h:ο U 2 x (l.map cD))=>EY (Y:=U) (x:=.nul) (b:=[]) (c:=cont) .nul h (by simp) (by omega) gS (by omega);rw[ω] at RZ;refine M 8 λk1 U jo O=>?_;refine qv ((RZ _ (wy.rows O))) ?_;refine G 5 ?_;refine qv (KF (dX _ _) (by omega) 0#32) ?_;refine Θ (d:=.int .i64 ((n3 0#32 (na l cont)).toNat:Nat)) (st1:=_) rfl rfl (by exact zZ _ _) (ae rfl _) ?_;refine Θ (d:=.int .i64 (((n3 0#32 (na l cont)).toNat*65536:Nat):Int)) (st1:=_) rfl rfl (by exact B6 _ _) (ae rfl _) ?_;refine qm ?_;refine qv (KF (dX _ _) (by omega) 1#32) ?_;refine Θ (d:=lJ (n3 1#32 (na l cont) &&&65535#32)) (st1:=_) rfl rfl (by exact Bt _ 65535#32 _) (ae rfl _) ?_;refine Θ (d:=.int .i64 ((n3 1#32 (na l cont) &&&65535#32).toNat:Nat)) (st1:=_) rfl rfl (by exact zZ _ _) (ae rfl _) ?_;refine Θ (d:=.int .i64 (y6 l cont)) (st1:=_) rfl rfl (by exact Ht _ _ _) (ae rfl _) ?_;exact M 2 trivial
def Oz (p:jm):iC pv .neq 34 (y4 (cD p)) (y4 (cD p))=some (wt false):=by
 have h:∀a b:List UInt8,iC pv .neq 34 (y4 [yR a,yR b]) (y4 [yR a,yR b])=Qcb (λb=>D.bool !b) (match some (a==a) with|some true=>(match some (b==b) with|some true=>some true|some false=>some false|none=>none)|some false=>some false|none=>none):=λ_ _=>rfl;unfold cD;rw[h];simp only[beq_self_eq_true,Φ]
 rfl
variable{y:D}
def EI {l:List jm} (hx:ο Y 2 x (l.map cD)) (hy:ο Y 2 y (l.map cD)) (hl:l.length<=1073741824):Ev pv 30 [x,y] Y (wt true) Y:=by
 refine zM acu λS aP hF O=>?_;have hx:=υ hx aP;have hy:=υ hy aP;refine M 13 ?_;refine qE rfl (by simp) ?_;refine G 7 ?_;refine ah.loop (λmm I U=>∃(i:Nat),I.clean=fL I 6 [(0,x),(0,y),(3,J W (i:Nat))]/\Has Y.bs.length S U []/\(i+mm=l.length)) (l.length) ?_ ?_;·exact⟨0,rfl,O,by omega⟩
 rintro mm I U ⟨i,hfr,O,hi⟩;refine zK λee=>?_;refine M 8 ?_;refine zP (λhlt=>?_) λhlt=>?_
 .refine G 1 ?_
  obtain⟨v,hv⟩:=gx (l:=l) (i:=i)
  have dO:=Av hv;refine M 12 λZB R8 Qb Dg=>?_;refine u.U' rfl Pd Pd (Oz v) (ae rfl _) ?_;refine G 8 ?_;exact⟨mm-1,by omega,i+1,rfl,O,by omega⟩
 exact M 5 trivial
def H7 {l:List jm} (hx:ο Y 2 x (l.map cD)) (hy:ο Y 2 y (l.map cD)) (hl:l.length<=1073741824):Ev pv 9 [y4 [x,yR c],y4 [y,yR c]] Y (wt true) Y:=by
 have NB:=kG hx;have hcy:=kG hy;refine zM fi9 λS aP hF O=>?_;have hx:=υ hx aP;have hy:=υ hy aP;refine M 6 λk2 U jn O k3 U A7 O=>?_;have iF:(c==c)=true:=by simp
 exact M (t:=(EI (hx.rows O) (hy.rows O) hl)) 16 trivial
def S0 {s:PU} (hs:s.ok):∃y,Ev pv 4 [s.d] Y (y4 [y,yR s.c]) Y/\fJ y 2 ((s.l.take 12).map cD):=by
 open P3 in
 obtain⟨x,l,c⟩:=s;obtain⟨hx,hl,_,_⟩:=hs;dsimp only at hx hl;unfold PU.d;dsimp only;have hcl:=hx.cells.1
 suffices hg:∃d,Ev pv 4 [y4 [x,yR c]] Y d Y/\∃y,d=y4 [y,yR c]/\fJ y 2 ((l.take 12).map cD) by
  obtain⟨d,h1,y,rfl,X⟩:=hg;exact⟨y,h1,X⟩
 refine zM fi4 λS aP hF O=>?_;have wy:=hx.arg Y.bs.length S;refine M 13 λk1 U jo O k2 U jn O=>?_;refine ah.merge (λI U=>∃(y:D) (tmp:List (Nat×D)),I=⟨3,[ay I 0,yv k1 0 0,yv k2 0 0],tmp⟩/\Has Y.bs.length S U [x4 k2 (zm 0 false [j5,yR []]),x4 k1 (zm 0 false [y,yR c])]/\(fJ y 2 ((l.take 12).map cD))) ?_ ?_
 .refine zP (λh1=>?_) λh1=>?_;·refine G 3 ?_;refine u.KM rfl Pd so rfl rfl (Jw (by simp;omega)) (λ_=>(ae rfl _)) (λy9 YD=>?_);refine M 3 λU O=>?_;exact⟨_,_,rfl,O,(by rw[List.drop_zero,<-List.map_take] at YD;exact YD)⟩
  refine G 1 ?_;exact⟨x,_,rfl,O,(by rw[χ GB];exact hx)⟩
 rintro I U ⟨y,tmp,hfr,O,hy⟩;refine zK λee=>?_;refine M 5 λU O=>?_;obtain⟨y',h1,X⟩:=hy.freeze U Y.bs.length 14
 have h3:aB U Y.bs.length false 16 (y4 [y,yR c])=some (y4 [y',yR c]):=by
  show Qcb D.agg (cE (aB U Y.bs.length false 15) [y,yR c])=_;unfold cE;rw[h1]
  rfl
 refine ah.ret ⟨rx,_,_,O.bm rfl aV rfl,rl aP O h3,⟨y',rfl,X⟩⟩
theorem Has.Qe {R:St} {H2:List aX} (h:Has N S U H) (X:Has U.bs.length U R H2):Has N S R (H2++H):=by
 have hN:=h.hN;have hl:=h.ex.len;have tY:=X.ex.len;refine⟨⟨λk A=>?_,by omega,X.ex.flr.trans h.ex.flr,X.ex.ro.trans h.ex.ro⟩,hN,h.fx,λi e hi=>?_,λi j a b hij ha F k nR iE=>?_⟩;·rw[X.ex.low k GB];exact h.ex.low k A
 .by_cases hlt:i<H2.length;·rw[ζ hlt] at hi;obtain⟨h3,h4⟩:=X.ok i e hi;exact⟨h3,λk A=>⟨by have:=(h4 k A).1;omega,(h4 k A).2⟩⟩
  rw[ε GB] at hi;obtain⟨h3,h4⟩:=h.ok _ e hi;exact⟨e.loc (λk A=>X.ex.low k (h4 k A).2) h3,λk A=>⟨(h4 k A).1,by have:=(h4 k A).2;omega⟩⟩
 by_cases h1:i<H2.length<;>by_cases h3:j<H2.length;·rw[ζ h1] at ha;rw[ζ h3] at F;exact X.dis i j a b hij ha F k nR iE
 .rw[ζ h1] at ha;rw[ε GB] at F;have:=((X.ok _ a ha).2 k nR).1;have:=((h.ok _ b F).2 k iE).2;omega
 .rw[ε GB] at ha;rw[ζ h3] at F;have:=((X.ok _ b F).2 k iE).1;have:=((h.ok _ a ha).2 k nR).2;omega
 rw[ε GB] at ha F;exact h.dis _ _ a b GB ha F k nR iE
def M8:∀a:List UInt8,δ a a=false
 |[]=>rfl
 |x::a=>by
  have h:=M8 a;have hx:¬x<x:=by simp
  simp only[δ]
  first|(simp[hx,h];done)|(rw[if_neg hx];simpa using h)
def M7:∀a b:List UInt8,δ a b=false->a≠b->δ b a=true
 |[],[],_,h=>absurd rfl h
 |[],y::b,h,_=>by simp[δ] at h
 |x::a,[],_,_=>by simp[δ]
 |x::a,y::b,h,hne=>by
  have ih:=M7 a b;simp only[δ] at h|-ih
  rcases UInt8.lt_or_le x y with Fw|Fw
  .simp[Fw] at h
  rcases UInt8.lt_or_eq_of_le Fw with X|X
  .simp[X]
  subst X;have hx:¬y<y:=by simp
  simp[hx] at h|-;exact ih h (λe=>hne (by rw[e]))
def acU (ks:List (List UInt8)):Prop:=∀(i j:Nat) a b,i<j->ks[i]?=some a->ks[j]?=some b->δ a b=true
def nX {ks:List (List UInt8)} {key:List UInt8} (hs:∀(i j:Nat) a b,i<=j->ks[i]?=some a->ks[j]?=some b->δ b key=true->δ a key=true):∀(f lo hi:Nat),hi-lo<=f->lo<=hi->hi<=ks.length->(∀(i:Nat) a,i<lo->ks[i]?=some a->δ a key=true)->(∀(i:Nat) a,hi<=i->ks[i]?=some a->δ a key=false)->
  (∀(i:Nat) a,i<gT ks key f lo hi->ks[i]?=some a->δ a key=true)/\(∀(i:Nat) a,gT ks key f lo hi<=i->ks[i]?=some a->δ a key=false)
 |0,lo,hi,h,hl,_,h1,X=>by
  have:lo=hi:=by omega
  subst this;exact⟨h1,X⟩
 |f+1,lo,hi,h,hl,A,h1,X=>by
  unfold gT
  split
  .rename_i hlt
   obtain⟨m,hm⟩:∃m,ks[(lo+hi)/2]?=some m:=⟨ks[(lo+hi)/2]' GB,μ _⟩
   have hg:ks.getD ((lo+hi)/2) []=m:=by rw[ς,hm];rfl
   rw[hg]
   cases F:δ m key with
   |true=>
    rw[if_pos rfl];exact nX hs f _ _ GB GB A (λi a hi ha=>hs i _ a m GB ha hm F) X
   |false=>
    rw[if_neg (by simp)];refine nX hs f _ _ GB GB GB h1 (λi a hi ha=>?_)
    cases hc:δ a key with
    |false=>rfl
    |true=>rw[hs _ i m a GB hm ha hc] at F;cases F
  have:lo=hi:=by omega
  subst this;exact⟨h1,X⟩
def D4:∀a b c:List UInt8,δ a b=true->δ b c=true->δ a c=true
 |_,[],_,h,_=>by simp[δ] at h
 |_,_::_,[],_,h=>by simp[δ] at h
 |[],_::_,_::_,_,_=>by simp[δ]
 |x::a,y::b,z::c,h1,X=>by
  have ih:=D4 a b c;simp[δ] at h1 X|-
  rcases h1 with h1|⟨rfl,h1⟩
  .rcases X with X|⟨rfl,X⟩
   .exact xR (UInt8.lt_trans h1 X)
   exact xR h1
  rcases X with X|⟨rfl,X⟩
  .exact xR X
  exact j4 ⟨rfl,ih h1 X⟩
def Jz (l:List gI):Prop:=acU (l.map (·.k))
variable{l:List gI}{key:List UInt8}
def wU (hs:Jz l):(∀(i:Nat) r,i<bc l key->l[i]?=some r->δ r.k key=true)/\(∀(i:Nat) r,bc l key<=i->l[i]?=some r->δ r.k key=false):=by
 have h:=nX (ks:=l.map (·.k)) (key:=key) (λi j a b hij ha F hlt=>by
  rcases Nat.lt_or_eq_of_le hij with h|rfl
  .exact D4 _ _ _ (hs i j a b h ha F) hlt
  rw[ha] at F;cases F;exact hlt) l.length 0 l.length GB GB (by simp) (λi a h=>by omega) (λi a h ha=>by rw[List.getElem?_eq_none (by simpa using h)] at ha;cases ha)
 exact⟨λi r hi hr=>h.1 i r.k hi (by rw[θ,hr];rfl),λi r hi hr=>h.2 i r.k hi (by rw[θ,hr];rfl)⟩
variable{r:gI}
def DE (hs:Jz l) {j:Nat} (hj:l[j]?=some r):bc l r.k=j/\ck l r.k=true:=by
 obtain⟨h1,X⟩:=wU (key:=r.k) hs
 have he:bc l r.k=j:=by
  rcases Nat.lt_trichotomy (bc l r.k) j with h|h|h
  .obtain⟨aa,hu⟩:∃aa,l[bc l r.k]?=some aa:=⟨l[bc l r.k]'(by have:=(τ.1 hj).1;omega),μ _⟩
   have h3:=X _ aa (Qag _) hu;rw[hs _ j aa.k r.k h (by rw[θ,hu];rfl) (by rw[θ,hj];rfl)] at h3;cases h3
  .exact h
  have h3:=h1 j r h hj;rw[M8] at h3;cases h3
 refine⟨he,?_⟩;unfold ck;rw[he,φ,decide_eq_true_eq,ς,θ,hj];exact⟨(τ.1 hj).1,by simp⟩
def HY (h:ck l key=true):∃r∈l,r.k=key:=by
 obtain⟨r,hr⟩:=Nb h;refine⟨r,ι hr,?_⟩;unfold ck at h;rw[φ,ς,θ,hr] at h
 simpa using h.2
variable{v:Int}
def Ae (ht:ck l key=false) (r:gI):r∈ie l key v↔r=⟨key,v⟩\/r∈l:=by
 unfold ie;rw[if_neg (by rw[ht];simp)];unfold sZ;constructor
 .intro h
  rcases Qch.1 h with h|h
  .exact j4 (List.mem_of_mem_take h)
  rcases Qah.1 h with h|h
  .exact xR h
  exact j4 (List.mem_of_mem_drop h)
 rintro(rfl|h);·exact Qc8 _ (List.mem_cons_self ..)
 rw[<-List.take_append_drop (bc l key) l] at h
 rcases Qch.1 h with h|h
 .exact List.mem_append_left _ h
 exact Qc8 _ (List.mem_cons_of_mem _ h)
def LC {n:Nat} (hn:n<=l.length) (i:Nat):(sZ l n r)[i]?=if i<n then l[i]? else if i=n then some r else l[i-1]?:=by
 unfold sZ;have hl:(l.take n).length=n:=by rw[Qce];omega
 by_cases h1:i<n;·rw[if_pos h1,ζ GB,List.getElem?_take,if_pos h1]
 rw[if_neg h1,ε GB,hl]
 by_cases X:i=n;·rw[if_pos X,X,Qc9];rfl
 rw[if_neg X]
 obtain⟨m,hm⟩:∃m,i-n=m+1:=⟨i-n-1,by omega⟩
 rw[hm,List.getElem?_cons_succ,List.getElem?_drop]
 congr 1;omega
def Gp (hs:Jz l) (ht:ck l key=false):Jz (ie l key v):=by
 obtain⟨f1,f2⟩:=wU (key:=key) hs;have hn:=wV l key
 have hne:∀(i:Nat) aa,l[i]?=some aa->aa.k≠key:=λi aa hu he=>by
  have:=(DE hs hu).2;rw[he,ht] at this;cases this
 unfold ie;rw[if_neg (by rw[ht];simp)];intro i j a b hij ha F;rw[θ] at ha F;obtain⟨aa,hu,rfl⟩:=Qai.1 ha;obtain⟨w,hw,rfl⟩:=Qai.1 F;rw[LC hn] at hu hw;have hlt:∀(i j:Nat) aa w,i<j->l[i]?=some aa->l[j]?=some w->δ aa.k w.k=true:=λi j aa w h hu hw=>hs i j aa.k w.k h (by rw[θ,hu];rfl) (by rw[θ,hw];rfl)
 by_cases h1:i<bc l key
 .rw[if_pos h1] at hu
  by_cases X:j<bc l key;·rw[if_pos X] at hw;exact hlt i j aa w hij hu hw
  rw[if_neg X] at hw
  by_cases h3:j=bc l key;·rw[if_pos h3] at hw;cases hw;exact f1 i aa h1 hu
  rw[if_neg h3] at hw;exact hlt i (j-1) aa w GB hu hw
 rw[if_neg h1] at hu;rw[if_neg GB,if_neg GB] at hw
 by_cases h3:i=bc l key;·rw[if_pos h3] at hu;cases hu;exact M7 _ _ (f2 (j-1) w GB hw) (hne _ w hw)
 rw[if_neg h3] at hu;exact hlt (i-1) (j-1) aa w GB hu hw
def OA (c:Int):((((((decide (c<97)||decide (c>122)) &&(decide (c<65)||decide (c>90))) &&(decide (c<48)||decide (c>57))) &&(c !=45)) &&(c !=95)) &&(c !=46))=!uq c:=by
 unfold uq;rw[Qcg];simp only[φ,Ψ,decide_eq_true_eq,bne_iff_ne,ne_eq,Bool.not_eq_true',Qca,Bool.and_eq_false_iff,decide_eq_false_iff_not,beq_eq_false_iff_ne];omega
def H_ (hl:s.length<=1048576):Ev pv 21 [yR s] Y (wt (jA s)) Y:=by
 refine zM acz λS aP hF O=>?_;refine G 6 ?_;refine ah.dM 11 (wt ((s==[])||decide ((s.length:Int)>32))) [] ?_ (λff tmp bp=>?_)
 .refine G 3 ?_;refine y2 7 (λba=>?_) λba=>?_;·refine G 4 ?_;exact vV
  refine G 1 ?_;refine u.B3 (wi ba) rfl rfl (ae rfl _) ?_;simp only[ξ,γ,κ,ν,ψ,List.length_replicate,Δ];refine G 2 ?_;exact vV
 dsimp only[aC,List.foldl,nth,u2,u1]
 by_cases h1:s≠[]/\s.length<=32
 .have hc:((s==[])||decide ((s.length:Int)>32))=false:=by
   rw[Qca];exact⟨by simpa using h1.1,by rw[decide_eq_false_iff_not];omega⟩
  have hn:jA s=s.all λc=>uq (c.toNat:Nat):=by
   unfold jA;rw[decide_eq_true h1.2];simp[h1.1]
  rw[hn];rw[hc] at bp;refine qC ?_;clear bp;refine G 7 ?_;refine ah.loop (λmm I U=>∃(i:Nat),I.clean=fL I 5 [(0,yR s),(2,J W (i:Nat))]/\Has Y.bs.length S U []/\(i+mm=s.length)/\((s.take i).all (λc=>uq (c.toNat:Nat))=true)) (s.length) ?_ ?_;·exact⟨0,rfl,O,by omega,rfl⟩
  rintro mm I U ⟨i,hfr,O,hi,ht⟩;refine zK λee=>?_;refine M 8 ?_;refine zP (λX=>?_) λX=>?_
  .refine G 1 ?_
   obtain⟨c,hc⟩:=gx (l:=s) (i:=i)
   refine G 6 ?_;refine Θ (d:=J .u8 (c.toNat:Nat)) (st1:=_) rfl rfl (by exact congrArg (Qcb λd=>(d,_)) (Hb rfl hc)) (ae rfl _) ?_;refine G 3 ?_;refine ah.dM 54 (wt ((((((decide ((c.toNat:Int)<97)||decide ((c.toNat:Int)>122)) &&(decide ((c.toNat:Int)<65)||decide ((c.toNat:Int)>90))) &&(decide ((c.toNat:Int)<48)||decide ((c.toNat:Int)>57))) &&((c.toNat:Int) !=45)) &&((c.toNat:Int) !=95)) &&((c.toNat:Int) !=46))) [] ?_ (λff tmp bp=>?_)
   .refine G 3 ?_;refine y2 23 (λba=>?_) λba=>?_
    .refine G 7 ?_;refine y2 30 (λb6=>?_) λb6=>?_
     .refine G 8 ?_;refine y2 38 (λaL=>?_) λaL=>?_
      .refine G 9 ?_;refine y2 47 (λbG=>?_) λbG=>?_
       .refine G 4 ?_;refine y2 51 (λcw=>?_) λcw=>?_;·refine G 3 ?_;exact vV
        refine G 3 ?_;exact vV
       refine G 7 ?_;exact vV
      refine G 5 ?_;refine y2 43 (λaZ=>?_) λaZ=>?_
      .refine G 4 ?_;refine y2 47 (λbG=>?_) λbG=>?_
       .refine G 4 ?_;refine y2 51 (λcw=>?_) λcw=>?_;·refine G 3 ?_;exact vV
        refine G 3 ?_;exact vV
       refine G 7 ?_;exact vV
      refine G 11 ?_;exact vV
     refine G 5 ?_;refine y2 35 (λbL=>?_) λbL=>?_
     .refine G 3 ?_;refine y2 38 (λaL=>?_) λaL=>?_
      .refine M 9 ?_;refine y2 47 (λbG=>?_) λbG=>?_
       .refine G 4 ?_;refine y2 51 (λcw=>?_) λcw=>?_;·refine G 3 ?_;exact vV
        refine G 3 ?_;exact vV
       refine G 7 ?_;exact vV
      refine M 5 ?_;refine y2 43 (λaZ=>?_) λaZ=>?_
      .refine G 4 ?_;refine y2 47 (λbG=>?_) λbG=>?_
       .refine G 4 ?_;refine y2 51 (λcw=>?_) λcw=>?_;·refine G 3 ?_;exact vV
        refine G 3 ?_;exact vV
       refine G 7 ?_;exact vV
      refine G 11 ?_;exact vV
     refine G 19 ?_;exact vV
    refine G 4 ?_;refine y2 27 (λfI=>?_) λfI=>?_
    .refine G 3 ?_;refine y2 30 (λb6=>?_) λb6=>?_
     .refine M 8 ?_;refine y2 38 (λaL=>?_) λaL=>?_
      .refine G 9 ?_;refine y2 47 (λbG=>?_) λbG=>?_
       .refine G 4 ?_;refine y2 51 (λcw=>?_) λcw=>?_;·refine G 3 ?_;exact vV
        refine G 3 ?_;exact vV
       refine G 7 ?_;exact vV
      refine G 5 ?_;refine y2 43 (λaZ=>?_) λaZ=>?_
      .refine G 4 ?_;refine y2 47 (λbG=>?_) λbG=>?_
       .refine G 4 ?_;refine y2 51 (λcw=>?_) λcw=>?_;·refine G 3 ?_;exact vV
        refine G 3 ?_;exact vV
       refine G 7 ?_;exact vV
      refine G 11 ?_;exact vV
     refine M 5 ?_;refine y2 35 (λbL=>?_) λbL=>?_
     .refine G 3 ?_;refine y2 38 (λaL=>?_) λaL=>?_
      .refine M 9 ?_;refine y2 47 (λbG=>?_) λbG=>?_
       .refine G 4 ?_;refine y2 51 (λcw=>?_) λcw=>?_;·refine G 3 ?_;exact vV
        refine G 3 ?_;exact vV
       refine G 7 ?_;exact vV
      refine M 5 ?_;refine y2 43 (λaZ=>?_) λaZ=>?_
      .refine G 4 ?_;refine y2 47 (λbG=>?_) λbG=>?_
       .refine G 4 ?_;refine y2 51 (λcw=>?_) λcw=>?_;·refine G 3 ?_;exact vV
        refine G 3 ?_;exact vV
       refine G 7 ?_;exact vV
      refine G 11 ?_;exact vV
     refine G 19 ?_;exact vV
    refine G 27 ?_;exact vV
   refine zG ?_;rw[OA] at bp
   cases F:uq (c.toNat:Nat) with
   |true=>
    rw[F] at bp;refine G 7 ?_;exact⟨mm-1,by omega,i+1,rfl,O,by omega,(by rw[Qcc,hc,List.all_append,ht];simp[F])⟩
   |false=>
    rw[F] at bp;refine G 5 ?_;have hf:(s.all λc=>uq (c.toNat:Nat))=false:=by rw[List.all_eq_false];exact⟨c,ι hc,by rw[F];simp⟩
    rw[hf];exact M 0 trivial
  refine G 5 ?_;rw[χ GB] at ht;rw[ht];exact M 0 trivial
 have hc:((s==[])||decide ((s.length:Int)>32))=true:=by
  rw[Ψ,decide_eq_true_eq]
  by_cases X:s=[];·exact xR (by simpa using X)
  exact j4 (by have:¬s.length<=32:=λh3=>h1 ⟨X,h3⟩;omega)
 have hn:jA s=false:=by
  unfold jA
  by_cases X:s=[];·simp[X]
  have:¬s.length<=32:=λh3=>h1 ⟨X,h3⟩;rw[decide_eq_false this];simp
 rw[hn];rw[hc] at bp;exact M 5 trivial
noncomputable def EU:List jm->Nat->List (List UInt8)->List (List aQ)->Except (Int×Nat) (List (List aQ))
 |[],_,_,out=>.ok out
 |p::ps,i,uG,out=>
  if jA p.nm=false then .error (14,i)
  else if uG.any (λq=>q==p.nm)=true then .error (8,i)
  else if(aT p.tx).2.1≠0 then .error ((aT p.tx).2.1,i)
  else EU ps (i+1) (uG++[p.nm]) (out++[bO (aT p.tx).1])
def ya {T:List gI} (hs:Jz T) (nm:List UInt8):ck T nm=true↔∃r∈T,r.k=nm:=
 ⟨HY,λ⟨r,hr,he⟩=>by
  obtain⟨j,hj⟩:=List.getElem?_of_mem hr
  rw[<-he];exact(DE hs hj).2⟩
def Gx:∀(l:List jm) (i:Nat) (T:List gI) (uG:List (List UInt8)) (out:List (List aQ)),Jz T->(∀nm,ck T nm=uG.any (λq=>q==nm))->EU l i uG out=(match bX l i T out with| .error r=>.error r| .ok r=>.ok r.2)
 |[],_,_,_,_,_,_=>rfl
 |p::l,i,T,uG,out,hs,hw=>by
  unfold EU bX;rw[hw]
  split;·rfl
  split;·rfl
  rename_i hn;have ht:ck T p.nm=false:=by rw[hw];exact Bool.eq_false_iff.2 hn
  split;·rfl
  refine Gx l (i+1) _ _ _ (Gp hs ht) λnm=>?_;rw[Qcg,ya (Gp hs ht),List.any_append,Ψ,<-hw,ya hs];simp;constructor
  .rintro⟨r,hr,rfl⟩
   rcases(Ae ht r).1 hr with rfl|hr
   .exact j4 rfl
   exact xR ⟨r,hr,rfl⟩
  rintro(⟨r,hr,rfl⟩|rfl);·exact⟨r,(Ae ht r).2 (j4 hr),rfl⟩
  exact⟨⟨p.nm,i⟩,(Ae ht _).2 (xR rfl),rfl⟩
end Go.Proofs.YtappgjdiplibbaaGreat
namespace Go.V
open Go
def vZ (p:List D->Option D):List D->St->Option (D×St):=λds U=>(p ds).map λd=>(d,U)
variable{p:List D->Option D}{U:St}
def rz {ds:List D} {R:St} {d:D} (h:vZ p ds U=some (d,R)):p ds=some d/\R=U:=by
 unfold vZ at h
 cases B:p ds with
 |none=>rw[B] at h;cases h
 |some e=>
  rw[B] at h;simp at h;exact⟨by rw[h.1],h.2.symm⟩
def Lk {pv xz:Pv} {P:Program} (h:xz.Ok P/\xz.fu/\gh P xz (dj xz)) {f:Nat} (hl:∀ds d,p ds=some d->refs ds=0/\∃n uk,cA xz n f ds ⟨[],0,0⟩=some (d,uk)/\uk.bs=[]):dx P pv f (vZ p):=by
 refine⟨λds U r B=>?_,λds U d R B w β Z us dB hle ha=>?_,λds U d R B _=>by rw[(rz B).2];exact .rfl _,λds U d R B=>by rw[(rz B).2];exact eE.refl _⟩;·obtain⟨hm,_⟩:=rz (d:=r.1) (R:=r.2) B;obtain⟨_,n,uk,hs,_⟩:=hl _ _ hm;exact(mN h.1 h.2.1 h.2.2 n).fn f _ _ _ hs
 obtain⟨hm,rfl⟩:=rz B;obtain⟨hr,n,uk,hs,h0⟩:=hl _ _ hm;refine(mC h hs h0 hr R w β Z us dB hle ha).mono λe w'=>?_;rintro⟨v,β',Z',h1,X,h3,h4⟩;exact⟨v,β',Z',h1,X,h3,λ_=>h4⟩
def Has.perm {N:Nat} {S:St} {l1 l2:List aX} (B:l1.Perm l2):∀{hk:List aX},Has N S U (hk++l1)->Has N S U (hk++l2):=by
 induction B with
 |nil=>intro hk h;exact h
 |cons x _ ih=>
  intro hk h;have:=ih (hk:=hk++[x]) (by simpa only[η,Qcd,ω] using h)
  simpa only[η,Qcd,ω] using this
 |swap x y l=>
  intro hk h;refine h.sub (λi=>if i=hk.length then hk.length+1 else if i=hk.length+1 then hk.length else i) (λa b e=>?_) (λi e hi=>?_)
  .have e':(if a=hk.length then hk.length+1 else if a=hk.length+1 then hk.length else a)=(if b=hk.length then hk.length+1 else if b=hk.length+1 then hk.length else b):=e
   repeat' split at e'
   all_goals omega
  show(hk++y::x::l)[if i=hk.length then hk.length+1 else if i=hk.length+1 then hk.length else i]?=some e
  by_cases h1:i=hk.length;·rw[if_pos h1];rw[h1,ε (Qag _),Qc9] at hi;rw[ε (by omega),Qc7];exact hi
  rw[if_neg h1]
  by_cases X:i=hk.length+1;·rw[if_pos X];rw[X,ε (by omega),Qc7] at hi;rw[ε (Qag _),Qc9];exact hi
  rw[if_neg X]
  by_cases h3:i<hk.length;·rw[ζ h3] at hi|-;exact hi
  rw[ε (by omega)] at hi|-
  obtain⟨j,hj⟩:∃j,i-hk.length=j+2:=⟨i-hk.length-2,by omega⟩
  rw[hj] at hi|-;exact hi
 |trans _ _ Qm Ha=>intro hk h;exact Ha (Qm h)
end Go.V
namespace Go.Proofs.YtappgjdiplibbaaGreat
open Go.V Go
mutual
def Bx:Q->List D->List aX->Prop
 | .mk n ks,c,E=>∃(x:D) (cs:List (List D)) (E':List aX),c=bQ n x/\E.Perm (.ai x 8 cs::E')/\iH ks cs E'
def iH:aG->List (List D)->List aX->Prop
 | .nil,cs,E=>cs=[]/\E=[]
 | .cons t ts,cs,E=>∃(c:List D) (cs':List (List D)) (E1 E2:List aX),cs=c::cs'/\E.Perm (E1++E2)/\Bx t c E1/\iH ts cs' E2
end
variable{cs:List (List D)}{E:List aX}
def Bx.of {n:aQ} {ks:List Q} {x:D} (h:iH (aE ks) cs E):Bx (.mk n (aE ks)) (bQ n x) (.ai x 8 cs::E):=by
 unfold Bx;exact⟨x,cs,E,rfl,.refl _,h⟩
variable{t:Q}{c:List D}
def Bx.to (h:Bx t c E):∃(x:D) (cs:List (List D)) (E':List aX),c=bQ t.n x/\E.Perm (.ai x 8 cs::E')/\iH (aE t.ks) cs E':=by
 cases t with
 |mk n ks=>
  unfold Bx at h
  simpa only[Q.n,Q.ks,sH] using h
variable{ts:List Q}
def iH.cons {E1 E2:List aX} (h1:Bx t c E1) (X:iH (aE ts) cs E2):iH (aE (t::ts)) (c::cs) (E1++E2):=by
 unfold aE iH;exact⟨c,cs,E1,E2,rfl,.refl _,h1,X⟩
def iH.nil:iH (aE []) [] []:=by unfold aE iH;exact⟨rfl,rfl⟩
theorem iH.QY (h:iH (aE (t::ts)) cs E):∃(c:List D) (cs':List (List D)) (E1 E2:List aX),cs=c::cs'/\E.Perm (E1++E2)/\Bx t c E1/\iH (aE ts) cs' E2:=by
 unfold aE iH at h;exact h
end Go.Proofs.YtappgjdiplibbaaGreat
