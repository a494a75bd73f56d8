/-
 The document's coder: the code of a repeat. %deep
-/
import Derived.Test.YtajblankjjmonaaGreatWGHr
import Derived.Test.YtajblankjjmonaaGreatWGQs
import Derived.Test.YtajblankjjmonaaGreatWGQh
import Derived.Test.YtajblankjjmonaaGreatWGCa
import Derived.Test.YtajblankjjmonaaGreatWGM3
import Derived.Test.YtajblankjjmonaaGreatWDig
import Derived.Test.YtajblankjjmonaaGreatWGKb
set_option maxRecDepth 100000
set_option maxHeartbeats 4000000
set_option linter.unusedSimpArgs false
set_option linter.unusedVariables false
namespace Go.Proofs.YtajblankjjmonaaGreat
open Go.V Go
def cg (fr:Go.V.Fr) (k:Nat):Go.V.D:=Go.V.nth .junk fr.loc k
theorem xO {t:Tr} {n:Nod} (ih:qH t) (jq:t.ok) (Gi:t.fa ox) (Lk:ox n) (fX:n.op=5) (jj:jO n 1) (I3:t.fw≤1048576) {N k:Nat} {S s0:St} {H:List bG} {full:List aN} (hF:S.flr≤N) (hM:Dh N S s0 k H full):
  ∃r ae,Ev pv 34 [.ptr k 0 0,.agg (ay n),.agg (tC t)] s0 r ae∧r=.tup []∧Dh N S ae k H (full++n_ n (av t) t.sz full.length):=by
 obtain⟨cd,dk,code,mD,hH,hO⟩:=hM
 have yV:0≤n.mn∧n.mn≤30∧(n.mx=-1∨(n.mn≤n.mx∧n.mx≤30)):=by
  obtain⟨_,hq⟩:=jj;omega
 have oL:=fun b=>bw t b jq;have hq:=fun st=>uO t.fw t (Nat.le_refl _) I3 jq Gi st;have Mb:=iv oL n.mn.toNat full.length;refine Ev.gT rfl Ng rfl rfl rfl ?_;refine zE ?_;change EvC _ _ _ _ s0 _;refine zQ 2 ?_;refine qb hH fun k4 st IJ hH=>?_;dsimp only[u2,u1,u3,u4,setMany,u5,u6,D.cells,Nat.reduceAdd,aT,ew,tC,jn,ay] at hH;refine qb hH fun k5 st IG hH=>?_;dsimp only[u2,u1,u3,u4,setMany,u5,u6,D.cells,Nat.reduceAdd,aT,ew,tC,jn,ay] at hH;refine zQ 1 ?_;have hH:Has N S st (.box k (.mem 0 false [cd,.bool mD])::.deep dk cd 4 (code.map aT)::.box k5 (.mem 0 false (tC t))::.box k4 (.mem 0 false (ay n))::H):=Has.Fj [_,_] [_,_] hH;refine zQ 2 ?_;refine EvO.hloadS (m:=8) (r:=tC t) hH rfl (ev rfl) at2 rfl rfl rfl (put_T rfl _) ?_;refine qv ((hq _)) ?_;refine zQ 8 ?_;refine EvC.loop (fun mm fr st=>∃(i:Nat) (cd:D) (dk:Nat→Prop) (ak fg:List aN) (cj:Bool),fr.clean=⟨12,[.ptr k 0 0,cg fr 1,cg fr 2,cg fr 3,.ptr k4 0 0,.ptr k5 0 0,.bool (decide (t.sz=0)),.int .i64 (i:Nat),cg fr 8,cg fr 9,cg fr 10,cg fr 11],[]⟩∧Has N S st (.box k (.mem 0 false [cd,.bool cj])::.deep dk cd 4 (ak.map aT)::.box k5 (.mem 0 false (tC t))::.box k4 (.mem 0 false (ay n))::H)∧(i+mm=n.mn.toNat)∧((cj=false∧ak=fg∧fg.length≤400)∨(cj=true∧ak.length=400∧400<fg.length))∧(fg++ei (av t) t.sz mm fg.length=full++ei (av t) t.sz n.mn.toNat full.length)) (n.mn.toNat) ?_ ?_
 ·exact⟨0,cd,dk,code,full,mD,rfl,hH,by omega,hO,rfl⟩
 rintro mm fr st ⟨i,cd,dk,ak,fg,cj,hfr,hH,hi,Aw,lF⟩;rw[hfr];clear hfr;generalize cg fr=ee;clear fr;refine zQ 2 ?_;refine EvC.cutT 28 (.bool ((decide ((i:Int)<n.mn) &&!cj) &&!(decide (t.sz=0)))) [] ?_ (fun ff tmp htmp=>?_)
 ·refine zQ 5 ?_;refine EvO.two 18 rfl (fun hg4=>?_) (fun hg4=>?_)
  ·refine zQ 7 ?_;refine EvO.two 25 rfl (fun bA=>?_) (fun bA=>?_)
   ·refine zQ 3 ?_;refine EvO.nil (leafT ?_ ?_)
    ·dsimp only[setW,List.foldl,nth,u2,u1]
     all_goals(first|rfl|simp)
    ·refine zF ?_
     all_goals(simp[hg4,bA];done)
   ·refine zQ 3 ?_;refine EvO.nil (leafT ?_ ?_)
    ·dsimp only[setW,List.foldl,nth,u2,u1]
     all_goals(first|rfl|simp)
    ·refine zF ?_
     all_goals(simp[hg4,bA];done)
  ·refine zQ 10 ?_;refine EvO.nil (leafT ?_ ?_)
   ·dsimp only[setW,List.foldl,nth,u2,u1]
    all_goals(first|rfl|simp)
   ·refine zF ?_
    all_goals(simp[hg4];done)
 refine zG ?_
 by_cases hgo:(i<n.mn.toNat∧cj=false)∧t.sz≠0
 ·obtain⟨⟨hlt,oo⟩,hz⟩:=hgo;have hcc:((decide ((i:Int)<n.mn) &&!cj) &&!(decide (t.sz=0)))=true:=by rw[oo,decide_eq_true (show(i:Int)<n.mn by omega),decide_eq_false hz];rfl
  rw[hcc] at htmp
  obtain⟨FA,nr⟩:∃FA,mm=FA+1:=⟨mm-1,by omega⟩
  rw[nr,ei] at lF;refine zQ 6 ?_;refine EvO.hloadS (m:=8) (r:=tC t) hH rfl (ev rfl) at2 rfl rfl rfl (put_T rfl _) ?_;obtain⟨_,st,hev,rfl,cd,dk,aL,bD,hH,lG⟩:=ih hF ⟨cd,dk,ak,cj,hH,Aw⟩;refine qv hev ?_;refine zQ 6 ?_;exact⟨mm-1,by omega,⟨i+1,cd,dk,aL,fg++av t fg.length,bD,rfl,hH,by omega,lG,(by rw[List.length_append,oL,List.append_assoc,show mm-1=FA by omega];exact lF)⟩⟩
 have hcc:((decide ((i:Int)<n.mn) &&!cj) &&!(decide (t.sz=0)))=false:=by
  by_cases h:(i<n.mn.toNat∧cj=false)
  ·have:t.sz=0:=Classical.byContradiction fun h2=>hgo ⟨h,h2⟩;rw[decide_eq_true this];simp
  ·have:(decide ((i:Int)<n.mn) &&!cj)=false:=by
    by_cases h2:i<n.mn.toNat
    ·have:cj=true:=by cases cj;exact absurd ⟨h2,rfl⟩ h;rfl
     rw[this];simp
    ·rw[decide_eq_false (by omega)];rfl
   rw[this];rfl
 have OY:(cj=false∧ak=full++ei (av t) t.sz n.mn.toNat full.length∧(full++ei (av t) t.sz n.mn.toNat full.length).length≤400)∨(cj=true∧ak.length=400∧400<(full++ei (av t) t.sz n.mn.toNat full.length).length):=by
  rcases Aw with⟨h1,h2,h3⟩|⟨h1,h2,h3⟩
  ·have Mc:ei (av t) t.sz mm fg.length=[]:=by
    by_cases hz:t.sz=0
    ·exact mR (fun b=>by rw[oL,hz]) _ _ _
    ·have:mm=0:=by
      by_cases h:i<n.mn.toNat
      ·exact absurd ⟨⟨h,h1⟩,hz⟩ hgo
      ·omega
     rw[this];rfl
   rw[Mc,List.append_nil] at lF;exact .inl ⟨h1,by rw[h2,lF],by rw[←lF];exact h3⟩
  ·exact .inr ⟨h1,h2,by rw[←lF,List.length_append];omega⟩
 rw[hcc] at htmp;refine zQ 2 ?_;have Gm:(full++ei (av t) t.sz n.mn.toNat full.length).length=full.length+n.mn.toNat*t.sz:=by rw[List.length_append,Mb]
 unfold n_;rw[←Gm];have ra:∀X:List aN,full++(ei (av t) t.sz n.mn.toNat full.length++X)=full++ei (av t) t.sz n.mn.toNat full.length++X:=fun X=>by rw[List.append_assoc]
 simp only[apply_ite (fun X:List aN=>full++X),ra];clear ra Gm lF;generalize full++ei (av t) t.sz n.mn.toNat full.length=cR at*;refine zQ 7 ?_
 by_cases wv:n.mx=-1
 ·rw[if_pos wv];refine qD rfl (by simp[wv]) ?_;refine zQ 3 ?_;refine EvO.go (d:=.agg [.int .i64 2,.int .i64 0,.int .i64 0,.nul]) (st1:=_) rfl rfl rfl (put_T rfl _) ?_;obtain⟨_,st,hev,rfl,cd,dk,aL,bD,hH,lG⟩:=ej (rs:=[]) hF (.inl ⟨rfl,rfl⟩) ⟨cd,dk,ak,cj,hH,OY⟩;refine qv hev ?_;refine zQ 2 ?_;generalize hs:(if cR.length<400 then cR.length else 0)=s;have gM:(cR++[bh 2 0 0 []]).length=cR.length+1:=by simp
  refine zQ 3 ?_;refine EvO.hloadS (m:=8) (r:=tC t) hH rfl (ev rfl) at2 rfl rfl rfl (put_T rfl _) ?_;obtain⟨_,st,hev,rfl,cd,dk,j_,qw,hH,t_⟩:=ih hF ⟨cd,dk,aL,bD,hH,lG⟩;refine qv hev ?_;refine zQ 1 ?_;rw[gM] at t_;have ja:(cR++[bh 2 0 0 []]++av t (cR.length+1)).length=cR.length+1+t.sz:=by rw[List.length_append,gM,oL]
  refine zQ 4 ?_;refine EvO.go (d:=.agg [.int .i64 3,.int .i64 (s:Nat),.int .i64 0,.nul]) (st1:=_) rfl rfl rfl (put_T rfl _) ?_;obtain⟨_,st,hev,rfl,cd,dk,gb,jy,hH,Av⟩:=ej (rs:=[]) hF (.inl ⟨rfl,rfl⟩) ⟨cd,dk,j_,qw,hH,t_⟩;refine qv hev ?_;refine zQ 1 ?_;have vI:∀v:Int,(cR++[bh 2 0 0 []]++av t (cR.length+1)++[bh 3 v 0 []]).length=cR.length+t.sz+2:=fun v=>by rw[List.length_append,ja];simp only[List.length_cons,List.length_nil];omega
  rw[vI] at Av;have lD:(cR++(gJ cR.length (cR.length+t.sz+2) n.lz::(av t (cR.length+1)++[eZ cR.length]))).length=cR.length+t.sz+2:=by simp only[List.length_append,List.length_cons,List.length_nil,oL];omega
  refine zQ 9 ?_
  by_cases As:jy=false
  ·obtain⟨Ax,CI⟩:gb=cR++[bh 2 0 0 []]++av t (cR.length+1)++[bh 3 (s:Nat) 0 []]∧cR.length+t.sz+2≤400:=by
    rcases Av with h|h
    ·exact h.2
    ·rw[As] at h;cases h.1
   have wA:s=cR.length:=by rw[←hs,if_pos (by omega)]
   rw[wA] at Ax⊢;rw[Ax] at hH
   have vJ:(cR++[bh 2 0 0 []]++av t (cR.length+1)++[bh 3 (cR.length:Nat) 0 []])[cR.length]?=some (bh 2 0 0 []):=by
    rw[List.append_assoc,List.append_assoc];exact kJ _ _ _
   have tE:=vI ((cR.length:Nat):Int)
   have tk:(cR++[bh 2 0 0 []]++av t (cR.length+1)++[bh 3 (cR.length:Nat) 0 []]).set cR.length (gJ cR.length (cR.length+t.sz+2) n.lz)=cR++(gJ cR.length (cR.length+t.sz+2) n.lz::(av t (cR.length+1)++[eZ cR.length])):=by
    rw[List.append_assoc,List.append_assoc];exact ko _ _ _ _
   generalize cR++[bh 2 0 0 []]++av t (cR.length+1)++[bh 3 (cR.length:Nat) 0 []]=c3 at*;refine qD rfl (by simp[As]) ?_;refine zQ 7 ?_;refine EvO.nA hH rfl (ev rfl) (by exact at1) rfl (put_T rfl _) ?_;simp only[List.length_map];refine zQ 2 ?_;obtain⟨_,st,hev,rfl,hH⟩:=za (at_:=cR.length) (over:=c3.length) (lz:=n.lz) vJ (by omega) hH;refine qv hev ?_;refine zQ 1 ?_;rw[tE,tk] at hH;refine EvC.ret ⟨rx,_,_,_,rfl,rfl,?_⟩;exact⟨rfl,cd,dk,_,jy,(hH.erase 2).erase 2,.inl ⟨As,rfl,by rw[lD];exact CI⟩⟩
  ·obtain⟨Gv,Ax,CI⟩:jy=true∧gb.length=400∧400<cR.length+t.sz+2:=by
    rcases Av with h|h
    ·exact absurd h.1 As
    ·exact h
   refine qE rfl (by simp[Gv]) ?_;refine zQ 1 ?_;refine EvC.ret ⟨rx,_,_,_,rfl,rfl,?_⟩;exact⟨rfl,cd,dk,gb,jy,(hH.erase 2).erase 2,.inr ⟨Gv,Ax,by rw[lD];exact CI⟩⟩
 ·rw[if_neg wv];refine qE rfl (by simp[wv]) ?_;refine zQ 1 ?_;obtain⟨a,ha⟩:∃a:Nat,n.mn=(a:Int):=Int.eq_ofNat_of_zero_le yV.1;obtain⟨b,E3⟩:∃b:Nat,n.mx=(b:Int):=Int.eq_ofNat_of_zero_le (by omega);have I2:n.mx.toNat-n.mn.toNat=b-a:=by omega
  rw[I2];refine zQ 4 ?_;have hH:Has N S st (.box k (.mem 0 false [cd,.bool cj])::.deep dk cd 4 (ak.map aT)::.lst .nul 1 (([]:List Nat).map ew)::.box k5 (.mem 0 false (tC t))::.box k4 (.mem 0 false (ay n))::H):=Has.Fj [_] [_,_] (hH.nulE 1);refine zQ 7 ?_;have hE:=gv oL (sp:=fun _=>bh 2 0 0 []) (z:=t.sz) (b-a) cR.length;have J0:=gv oL (sp:=fun s=>gJ s (cR.length+(b-a)*(t.sz+1)) n.lz) (z:=t.sz) (b-a) cR.length
  have lG:(cj=false∧ak.length≤400∧ak++dK (fun _=>bh 2 0 0 []) (av t) t.sz (b-a) ak.length=cR++dK (fun _=>bh 2 0 0 []) (av t) t.sz (b-a) cR.length∧([]:List Nat)++kS t.sz (b-a) ak.length=kS t.sz (b-a) cR.length)∨(cj=true∧ak.length=400∧400<cR.length+(b-a)*(t.sz+1)):=by
   rcases OY with⟨h1,h2,h3⟩|⟨h1,h2,h3⟩
   ·exact .inl ⟨h1,by rw[h2];exact h3,by rw[h2],by rw[h2];rfl⟩
   ·exact .inr ⟨h1,h2,by omega⟩
  refine zQ 1 ?_;refine EvC.loop (fun mm fr st=>∃(i:Nat) (z:Int) (cd jd:D) (dk:Nat→Prop) (aL:List aN) (bD:Bool) (js:List Nat),fr.clean=⟨12,[.ptr k 0 0,cg fr 1,cg fr 2,cg fr 3,.ptr k4 0 0,.ptr k5 0 0,cg fr 6,cg fr 7,cg fr 8,jd,.int .i64 z,cg fr 11],[]⟩∧Has N S st (.box k (.mem 0 false [cd,.bool bD])::.deep dk cd 4 (aL.map aT)::.lst jd 1 (js.map ew)::.box k5 (.mem 0 false (tC t))::.box k4 (.mem 0 false (ay n))::H)∧(i+mm=b-a)∧(z=n.mn+(i:Nat))∧(js.length≤i)∧((bD=false∧aL.length≤400∧aL++dK (fun _=>bh 2 0 0 []) (av t) t.sz mm aL.length=cR++dK (fun _=>bh 2 0 0 []) (av t) t.sz (b-a) cR.length∧js++kS t.sz mm aL.length=kS t.sz (b-a) cR.length)∨(bD=true∧aL.length=400∧400<cR.length+(b-a)*(t.sz+1)))) (b-a) ?_ ?_
  ·exact⟨0,n.mn,cd,.nul,dk,ak,cj,[],rfl,hH,by omega,by simp,by simp,lG⟩
  rintro mm fr st ⟨i,z,cd,jd,dk,aL,bD,js,hfr,hH,hi,hz,jB,lG⟩;rw[hfr];clear hfr;generalize cg fr=ee;clear fr;refine zQ 2 ?_;refine EvC.cutT 74 (.bool (decide (z<n.mx) &&!bD)) [] ?_ (fun ff tmp htmp=>?_)
  ·refine zQ 5 ?_;refine EvO.two 68 rfl (fun hg4=>?_) (fun hg4=>?_)
   ·refine zQ 6 ?_;refine EvO.nil (leafT ?_ ?_)
    ·dsimp only[setW,List.foldl,nth,u2,u1]
     all_goals(first|rfl|simp)
    ·refine zF ?_
     all_goals(simp[hg4];done)
   ·refine zQ 6 ?_;refine EvO.nil (leafT ?_ ?_)
    ·dsimp only[setW,List.foldl,nth,u2,u1]
     all_goals(first|rfl|simp)
    ·refine zF ?_
     all_goals(simp[hg4];done)
  refine zG ?_
  by_cases hgo:i<b-a∧bD=false
  ·obtain⟨hlt,oo⟩:=hgo;have hcc:(decide (z<n.mx) &&!bD)=true:=by rw[oo,decide_eq_true (by omega)];rfl
   rw[hcc] at htmp
   obtain⟨oN,cJ,hjs⟩:aL.length≤400∧aL++dK (fun _=>bh 2 0 0 []) (av t) t.sz mm aL.length=cR++dK (fun _=>bh 2 0 0 []) (av t) t.sz (b-a) cR.length∧js++kS t.sz mm aL.length=kS t.sz (b-a) cR.length:=by
    rcases lG with h|h
    ·exact h.2
    ·rw[oo] at h;cases h.1
   obtain⟨FA,nr⟩:∃FA,mm=FA+1:=⟨mm-1,by omega⟩
   have hlen:=congrArg List.length cJ;rw[List.length_append,List.length_append,hE,gv oL,nr,Nat.succ_mul] at hlen;rw[nr] at cJ hjs;simp only[dK,kS] at cJ hjs;have tW:mm-1=FA:=by omega
   refine zQ 8 ?_;refine EvO.go (d:=.agg [.int .i64 2,.int .i64 0,.int .i64 0,.nul]) (st1:=_) rfl rfl rfl (put_T rfl _) ?_;obtain⟨_,st,hev,rfl,cd,dk,j_,qw,hH,t_⟩:=ej (rs:=[]) hF (.inl ⟨rfl,rfl⟩) ⟨cd,dk,aL,bD,hH,.inl ⟨oo,rfl,oN⟩⟩;refine qv hev ?_;refine qh (s:=1) (vs:=[_]) hH fun k81 st Q3 hH=>?_;dsimp only[u2,u1,u3,u4,setMany,u5,u6,D.cells,Nat.reduceAdd,aT,ew,tC,jn,ay] at hH;refine EvO.happend (s:=1) hH rfl (ev rfl) (ev rfl) (by exact at3) (by exact hH.rows (by exact at0)) rfl rfl rfl rfl rfl rfl rfl ⟨(Nat.le_of_ble_eq_true rfl),(Nat.le_of_ble_eq_true rfl)⟩ (fun _=>(put_T rfl _)) (by simp only[List.length_cons,List.length_nil,List.length_map]<;>omega) (by exact .inl hF) (fun J2 st hH=>?_);dsimp only[u2,u1,u3,u4,setMany,u5,u6,D.cells,Nat.reduceAdd,aT,ew,tC,jn,ay] at hH;refine zQ 2 ?_;have hH:Has N S st (.box k (.mem 0 false [cd,.bool qw])::.deep dk cd 4 (j_.map aT)::.lst J2 1 _::.box k5 (.mem 0 false (tC t))::.box k4 (.mem 0 false (ay n))::H):=hH.drop 1;have gM:(aL++[bh 2 0 0 []]).length=aL.length+1:=by simp
   refine zQ 2 ?_;refine EvO.hloadS (m:=8) (r:=tC t) hH rfl (ev rfl) at3 rfl rfl rfl (put_T rfl _) ?_;obtain⟨_,st,hev,rfl,cd,dk,gb,jy,hH,Av⟩:=ih hF ⟨cd,dk,j_,qw,hH,t_⟩;refine qv hev ?_;refine zQ 1 ?_;rw[gM] at Av;have ja:(aL++[bh 2 0 0 []]++av t (aL.length+1)).length=aL.length+1+t.sz:=by rw[List.length_append,gM,oL]
   refine zQ 2 ?_;refine EvO.fM (z:=(z+1)) rfl (ev rfl) (ev rfl) (by rw[wrap_i64 (by omega) (by omega)]<;>omega) (put_T rfl _) ?_;refine zQ 2 ?_
   by_cases As:jy=false
   ·obtain⟨Ax,CI⟩:gb=aL++[bh 2 0 0 []]++av t (aL.length+1)∧(aL++[bh 2 0 0 []]++av t (aL.length+1)).length≤400:=by
     rcases Av with h|h
     ·exact h.2
     ·rw[As] at h;cases h.1
    rw[ja] at CI;rw[if_pos (by omega)] at hH;have OT:gb.length=aL.length+1+t.sz:=by rw[Ax,ja]
    exact⟨mm-1,by omega,⟨i+1,z+1,cd,J2,dk,gb,jy,js++[aL.length],rfl,(by rw[List.map_append];exact hH),by omega,by omega,(by rw[List.length_append];simp only[List.length_cons,List.length_nil];omega),.inl ⟨As,by omega,by rw[OT,Ax,tW,←cJ];simp only[List.append_assoc,List.cons_append,List.nil_append],by rw[OT,tW,←hjs];simp only[List.append_assoc,List.cons_append,List.nil_append]⟩⟩⟩
   ·obtain⟨Gv,Ax,CI⟩:jy=true∧gb.length=400∧400<(aL++[bh 2 0 0 []]++av t (aL.length+1)).length:=by
     rcases Av with h|h
     ·exact absurd h.1 As
     ·exact h
    rw[ja] at CI;exact⟨mm-1,by omega,⟨i+1,z+1,cd,J2,dk,gb,jy,js++[if aL.length<400 then aL.length else 0],rfl,(by rw[List.map_append];exact hH),by omega,by omega,(by rw[List.length_append];simp only[List.length_cons,List.length_nil];omega),.inr ⟨Gv,Ax,by omega⟩⟩⟩
  have hcc:(decide (z<n.mx) &&!bD)=false:=by
   by_cases h:i<b-a
   ·have:bD=true:=by cases bD;exact absurd ⟨h,rfl⟩ hgo;rfl
    rw[this];simp
   ·rw[decide_eq_false (by omega)];rfl
  have hp:=kz (sp:=fun s=>gJ s (cR.length+(b-a)*(t.sz+1)) n.lz) oL (i0:=bh 2 0 0 []) (b-a) cR.length cR [] rfl;obtain⟨wC,vA⟩:=hp;simp only[List.append_nil] at wC vA;have t':(cR++dK (fun _=>bh 2 0 0 []) (av t) t.sz (b-a) cR.length).length=cR.length+(b-a)*(t.sz+1):=by rw[List.length_append,hE]
  have cC:(cR++dK (fun s=>gJ s (cR.length+(b-a)*(t.sz+1)) n.lz) (av t) t.sz (b-a) cR.length).length=cR.length+(b-a)*(t.sz+1):=by rw[List.length_append,J0]
  have Mf:(bD=false∧dU (fun s=>gJ s (cR.length+(b-a)*(t.sz+1)) n.lz) aL (js.drop 0)=cR++dK (fun s=>gJ s (cR.length+(b-a)*(t.sz+1)) n.lz) (av t) t.sz (b-a) cR.length∧(∀p∈js,∃x y:Int,aL[p]?=some (bh 2 x y []))∧aL.length=cR.length+(b-a)*(t.sz+1)∧cR.length+(b-a)*(t.sz+1)≤400)∨(bD=true∧aL.length=400∧400<cR.length+(b-a)*(t.sz+1)):=by
   rcases lG with⟨h1,h2,h3,h4⟩|h
   ·have mJ:mm=0:=by
     by_cases h:i<b-a
     ·exact absurd ⟨h,h1⟩ hgo
     ·omega
    rw[mJ] at h3 h4;simp only[dK,kS,List.append_nil] at h3 h4;exact .inl ⟨h1,by rw[h3,h4];exact wC,fun p hp=>⟨_,_,by rw[h3];exact vA p (h4▸hp)⟩,by rw[h3];exact t',by rw[h3,t'] at h2;exact h2⟩
   ·exact .inr h
  rw[hcc] at htmp;refine zQ 2 ?_;clear wC vA hE J0 lG t';generalize cR++dK (fun s=>gJ s (cR.length+(b-a)*(t.sz+1)) n.lz) (av t) t.sz (b-a) cR.length=C1 at*;generalize cR.length+(b-a)*(t.sz+1)=e at*;refine zQ 5 ?_;refine EvC.loop (fun mm fr st=>∃(q:Nat) (C:List aN),fr.clean=⟨12,[.ptr k 0 0,cg fr 1,cg fr 2,cg fr 3,.ptr k4 0 0,cg fr 5,cg fr 6,cg fr 7,cg fr 8,jd,cg fr 10,.int .i64 (q:Nat)],[]⟩∧Has N S st (.box k (.mem 0 false [cd,.bool bD])::.deep dk cd 4 (C.map aT)::.lst jd 1 (js.map ew)::.box k5 (.mem 0 false (tC t))::.box k4 (.mem 0 false (ay n))::H)∧(q+mm=js.length)∧((bD=false∧dU (fun s=>gJ s e n.lz) C (js.drop q)=C1∧(∀p∈js,∃x y:Int,C[p]?=some (bh 2 x y []))∧C.length=e∧e≤400)∨(bD=true∧C.length=400∧400<e))) (js.length) ?_ ?_
  ·exact⟨0,aL,rfl,hH,by omega,Mf⟩
  rintro mm fr st ⟨q,C,hfr,hH,hq,hC⟩;rw[hfr];clear hfr;generalize cg fr=ee;clear fr;refine zQ 2 ?_;refine EvC.cutT 96 (.bool (decide ((q:Int)<(js.length:Nat)) &&!bD)) [] ?_ (fun ff tmp htmp=>?_)
  ·refine zQ 2 ?_;refine qn ?_ (hR:=hH.rows at2);simp only[List.length_map];refine zQ 2 ?_;refine EvO.two 90 rfl (fun hg4=>?_) (fun hg4=>?_)
   ·refine zQ 6 ?_;refine EvO.nil (leafT ?_ ?_)
    ·dsimp only[setW,List.foldl,nth,u2,u1]
     all_goals(first|rfl|simp)
    ·refine zF ?_
     all_goals(simp_all;done)
   ·refine zQ 6 ?_;refine EvO.nil (leafT ?_ ?_)
    ·dsimp only[setW,List.foldl,nth,u2,u1]
     all_goals(first|rfl|simp)
    ·refine zF ?_
     all_goals(simp_all;omega)
  refine zG ?_
  by_cases hgo:q<js.length∧bD=false
  ·obtain⟨Dp,oo⟩:=hgo;have hcc:(decide ((q:Int)<(js.length:Nat)) &&!bD)=true:=by rw[oo];simp;omega
   rw[hcc] at htmp
   obtain⟨fq,bV,CH,LQ⟩:dU (fun s=>gJ s e n.lz) C (js.drop q)=C1∧(∀p∈js,∃x y:Int,C[p]?=some (bh 2 x y []))∧C.length=e∧e≤400:=by
    rcases hC with h|h
    ·exact h.2
    ·rw[oo] at h;cases h.1
   obtain⟨p,hp⟩:∃p,js[q]?=some p:=⟨js[q]'Dp,List.getElem?_eq_getElem _⟩
   obtain⟨x,y,hv⟩:=bV p (List.mem_of_getElem? hp);have hr1:=l5 hp;have hpl:=lt_get hv;refine zQ 8 ?_;refine qi hH at2 fun Kk Is=>?_;refine zQ 5 ?_;refine EvO.nA hH rfl (ev rfl) (by exact at1) rfl (put_T rfl _) ?_;simp only[List.length_map];refine zQ 2 ?_;obtain⟨_,st,hev,rfl,hH⟩:=za (at_:=p) (over:=C.length) (lz:=n.lz) hv (by omega) hH;refine qv hev ?_;refine zQ 6 ?_;have om:js.drop q=p::js.drop (q+1):=drop_cons hp
   have CF:∀p'∈js,∃x y:Int,(C.set p (gJ p e n.lz))[p']?=some (bh 2 x y []):=by
    intro p' pM
    by_cases hpp:p'=p
    ·subst hpp;obtain⟨x',y',FH⟩:=uf p' e n.lz;exact⟨x',y',by rw[List.getElem?_set_self hpl,FH]⟩
    ·rw[List.getElem?_set_ne (fun e=>hpp e.symm)];exact bV p' pM
   exact⟨mm-1,by omega,⟨q+1,C.set p (gJ p e n.lz),rfl,(by rw[CH] at hH;exact hH),by omega,.inl ⟨oo,by rw[om] at fq;exact fq,CF,by rw[List.length_set];exact CH,LQ⟩⟩⟩
  ·have hcc:(decide ((q:Int)<(js.length:Nat)) &&!bD)=false:=by
    by_cases h:q<js.length
    ·have:bD=true:=by cases bD;exact absurd ⟨h,rfl⟩ hgo;rfl
     rw[this];simp
    ·rw[decide_eq_false (by omega)];rfl
   rw[hcc] at htmp;refine zQ 2 ?_;refine⟨fun i h=>(by cases h),_,_,_,rfl,rfl,?_⟩;refine⟨rfl,cd,dk,C,bD,((hH.erase 2).erase 2).erase 2,?_⟩
   rcases hC with⟨h1,h2,h3,h4,h5⟩|⟨h1,h2,h3⟩
   ·have he:js.drop q=[]:=List.drop_eq_nil_of_le (by
     by_cases h:q<js.length
     ·exact absurd ⟨h,h1⟩ hgo
     ·omega)
    rw[he] at h2;have h2:C=C1:=h2;exact .inl ⟨h1,h2,by rw[cC];exact h5⟩
   ·exact .inr ⟨h1,h2,by rw[cC];exact h3⟩
def hY (fr:Go.V.Fr) (k:Nat):Go.V.D:=Go.V.nth .junk fr.loc k
theorem CT (t:Tr) (b:Nat):av t b=if t.n.op=2 then[bh 1 0 0 t.n.rs]
  else if t.n.op=7 then[bh 5 0 0 []]
  else if t.n.op=8 then[bh 6 0 0 []]
  else if t.n.op=3 then eT (aR t.ks) b
  else if t.n.op=4 then cA (eZ (b+bk t.n (iL t.ks) t.ks.length)) (aR t.ks) b
  else if t.n.op=5 then n_ t.n (eT (aR t.ks)) (iL t.ks) b
  else if t.n.op=6 then bh 4 (2*t.n.cap) 0 []::(eT (aR t.ks) (b+1)++[bh 4 (2*t.n.cap+1) 0 []])
  else[]:=by
 cases t with
 |mk n ks=>simp only[av,Tr.n,Tr.ks,wG,sE,lR]
theorem sq (p:Tr):eT (aR [p])=av p:=by
 funext b;simp[aR,eT]
theorem CV:∀(m:Nat) (t:Tr),t.fw≤m→m≤1048576→t.ok→t.fa ox→qH t:=by
 intro m
 induction m with
 |zero=>intro t h;have:=Tr.gE t;omega
 |succ m ihm=>
  intro t h hm hok Gi N k S s0 H full hF hM;obtain⟨cd,dk,code,mD,hH,hO⟩:=hM;have OK:=Tr.gE t;have nu:=kc t.ks;obtain⟨ho,EV⟩:=Tr.BR.1 hok;obtain⟨Lk,Gb⟩:=Tr.pV.1 Gi;have ih:∀p∈t.ks,qH p:=fun p hp=>ihm p (by have:=kb hp;omega) (by omega) (EV p hp) (Gb p hp);have qJ:=Lk.1;have Oj:t.n.rd=.sl ((t.n.rs.map ag).map (ic 2)):=by rw[qJ];exact(dc _).symm
  refine Ev.gT rfl Nu rfl rfl rfl ?_;refine zE ?_;change EvC _ _ _ _ s0 _;have hc:=(B5 Gb).arg N S;refine zQ 2 ?_;refine qb hH fun k3 st Hb hH=>?_;dsimp only[u2,u1,u3,u4,setMany,u5,u6,D.cells,Nat.reduceAdd,aT,ew,tC,jn,ay] at hH;refine zQ 1 ?_;have hH:Has N S st (.box k (.mem 0 false [cd,.bool mD])::.deep dk cd 4 (code.map aT)::.box k3 (.mem 0 false (tC t))::H):=Has.Fj [_] [_,_] hH;refine zQ 8 ?_
  by_cases oo:mD=true
  ·refine qD rfl (by rw[oo]) ?_;refine EvC.ret ⟨rx,_,_,_,rfl,rfl,?_⟩
   rcases hO with⟨h1,_⟩|⟨h1,h2,h3⟩
   ·rw[oo] at h1;cases h1
   ·exact⟨rfl,cd,dk,code,mD,hH.erase 2,.inr ⟨h1,h2,by rw[List.length_append];omega⟩⟩
  have oo:mD=false:=by simpa using oo
  obtain⟨dO,lD⟩:code=full∧full.length≤400:=by
   rcases hO with⟨h1,h2⟩|⟨h1,_⟩
   ·exact h2
   ·rw[oo] at h1;cases h1
  rw[CT];refine qE rfl (by rw[oo]) ?_;refine zQ 13 ?_
  by_cases q2:t.n.op=2
  ·rw[if_pos q2];refine qD rfl (by simp[q2]) ?_;refine zQ 5 ?_;refine EvO.go (d:=.agg [.int .i64 1,.int .i64 0,.int .i64 0,t.n.rd]) (st1:=_) rfl rfl (by rw[qJ];rfl) (put_T rfl _) ?_;obtain⟨_,st,hev,rfl,cd,dk,aL,bD,hH,lG⟩:=ej (rs:=t.n.rs) hF (.inr Oj) ⟨cd,dk,code,mD,hH,hO⟩;refine qv hev ?_;refine zQ 1 ?_;refine⟨fun i h=>(by cases h),_,_,_,rfl,rfl,?_⟩;exact⟨rfl,cd,dk,aL,bD,hH.erase 2,lG⟩
  rw[if_neg q2];refine qE rfl (by simp[q2]) ?_;refine zQ 5 ?_
  by_cases q3:t.n.op=3
  ·rw[if_neg (by omega),if_neg (by omega),if_pos q3];refine qD rfl (by simp[q3]) ?_;refine zQ 5 ?_;refine EvC.loop (fun mm fr st=>∃(i:Nat) (cd:D) (dk:Nat→Prop) (ak fg:List aN) (cj:Bool),fr.clean=⟨12,[.ptr k 0 0,hY fr 1,hY fr 2,.ptr k3 0 0,.int .i64 (i:Nat),hY fr 5,hY fr 6,hY fr 7,hY fr 8,hY fr 9,hY fr 10,hY fr 11],[]⟩∧Has N S st (.box k (.mem 0 false [cd,.bool cj])::.deep dk cd 4 (ak.map aT)::.box k3 (.mem 0 false (tC t))::H)∧(i+mm=t.ks.length)∧((cj=false∧ak=fg∧fg.length≤400)∨(cj=true∧ak.length=400∧400<fg.length))∧(fg++eT (aR (t.ks.drop i)) fg.length=full++eT (aR t.ks) full.length)) (t.ks.length) ?_ ?_
   ·exact⟨0,cd,dk,code,full,mD,rfl,hH,by omega,hO,rfl⟩
   rintro mm fr st ⟨i,cd,dk,ak,fg,cj,hfr,hH,hi,Aw,lF⟩;rw[hfr];clear hfr;generalize hY fr=ee;clear fr;refine zQ 2 ?_;refine EvC.cutT 33 (.bool (decide ((i:Int)<(t.ks.length:Nat)) &&!cj)) [] ?_ (fun ff tmp htmp=>?_)
   ·refine zQ 3 ?_;refine qn ?_;simp only[List.length_map];refine zQ 2 ?_;refine EvO.two 27 rfl (fun cQ=>?_) (fun cQ=>?_)
    ·refine zQ 6 ?_;refine EvO.nil (leafT ?_ ?_)
     ·dsimp only[setW,List.foldl,nth,u2,u1]
      all_goals(first|rfl|simp)
     ·refine zF ?_
      all_goals(simp_all;done)
    ·refine zQ 6 ?_;refine EvO.nil (leafT ?_ ?_)
     ·dsimp only[setW,List.foldl,nth,u2,u1]
      all_goals(first|rfl|simp)
     ·refine zF ?_
      all_goals(simp_all;omega)
   refine zG ?_
   by_cases hgo:i<t.ks.length∧cj=false
   ·obtain⟨hlt,hb2⟩:=hgo;have hcc:(decide ((i:Int)<(t.ks.length:Nat)) &&!cj)=true:=by rw[hb2];simp;omega
    rw[hcc] at htmp
    obtain⟨p,hp⟩:∃p,t.ks[i]?=some p:=⟨t.ks[i]'hlt,List.getElem?_eq_getElem _⟩
    have q9:=List.mem_of_getElem? hp;have hr1:=A' hp;have hpl:=bw p fg.length (EV p q9);rw[drop_cons hp] at lF;simp only[aR,eT] at lF;refine zQ 9 ?_;refine qr fun Kd FZ=>?_;refine EvO.cx rfl (ev rfl) (by assumption) rfl (put_T rfl _) ?_;obtain⟨_,st,hev,rfl,cd,dk,aL,bD,hH,lG⟩:=ih p q9 hF ⟨cd,dk,ak,cj,hH,Aw⟩;refine qv hev ?_;refine zQ 6 ?_;exact⟨mm-1,by omega,⟨i+1,cd,dk,aL,fg++av p fg.length,bD,rfl,hH,by omega,lG,(by rw[List.length_append,hpl,List.append_assoc];exact lF)⟩⟩
   ·have hcc:(decide ((i:Int)<(t.ks.length:Nat)) &&!cj)=false:=by
     by_cases h:i<t.ks.length
     ·have:cj=true:=by cases cj;exact absurd ⟨h,rfl⟩ hgo;rfl
      rw[this];simp
     ·rw[decide_eq_false (by omega)];rfl
    rw[hcc] at htmp;refine zQ 2 ?_;refine⟨fun i h=>(by cases h),_,_,_,rfl,rfl,?_⟩;refine⟨rfl,cd,dk,ak,cj,hH.erase 2,?_⟩
    rcases Aw with⟨h1,h2,h3⟩|⟨h1,h2,h3⟩
    ·have he:t.ks.drop i=[]:=List.drop_eq_nil_of_le (by
      by_cases h:i<t.ks.length
      ·exact absurd ⟨h,h1⟩ hgo
      ·omega)
     rw[he] at lF;simp only[aR,eT,List.append_nil] at lF;exact .inl ⟨h1,by rw[h2];exact lF,by rw[←lF];exact h3⟩
    ·exact .inr ⟨h1,h2,by rw[←lF,List.length_append];omega⟩
  refine qE rfl (by simp[q3]) ?_;refine zQ 5 ?_
  by_cases q4:t.n.op=4
  ·rw[if_neg (by omega),if_neg (by omega),if_neg q3,if_pos q4];have nv:2≤t.ks.length:=by obtain⟨_,hq⟩:=ho;omega
   have AY:bk t.n (iL t.ks) t.ks.length=iL t.ks+2*(t.ks.length-1):=by unfold bk;rw[if_neg (by omega),if_pos q4]
   rw[AY];refine qD rfl (by simp[q4]) ?_;refine zQ 4 ?_;obtain⟨_,st,hev,rfl,cd,dk,aL,bD,hH,lG⟩:=Ew ih EV Gb nv (by omega) hF ⟨cd,dk,code,mD,hH,hO⟩;refine qv hev ?_;refine zQ 1 ?_;refine⟨fun i h=>(by cases h),_,_,_,rfl,rfl,?_⟩;exact⟨rfl,cd,dk,aL,bD,hH.erase 2,lG⟩
  refine qE rfl (by simp[q4]) ?_;refine zQ 5 ?_
  by_cases q5:t.n.op=5
  ·rw[if_neg (by omega),if_neg (by omega),if_neg q3,if_neg q4,if_pos q5];have nx:t.ks.length=1:=by obtain⟨_,hq⟩:=ho;omega
   obtain⟨p,hp⟩:∃p,t.ks=[p]:=List.length_eq_one_iff.1 nx;have q9:p∈t.ks:=by rw[hp];simp
   have hz:iL t.ks=p.sz:=by rw[hp];simp[iL]
   have hr1:(t.ks.map tC)[0]?=some (tC p):=by rw[hp];rfl
   have LX:eT (aR t.ks)=av p:=by rw[hp];exact sq p
   rw[hz,LX];have Ll:jO t.n 1:=by rw[←nx];exact ho
   have Oo:p.fw≤1048576:=by have:=kb q9;omega
   have hcr:=fun(st:St) (hM:Dh N S st k (.box k3 (.mem 0 false (tC t))::H) full)=>xO (ih p q9) (EV p q9) (Gb p q9) Lk q5 Ll Oo hF hM;refine qD rfl (by simp[q5]) ?_;refine zQ 3 ?_;refine EvO.hloadS (m:=7) (r:=ay t.n) hH rfl (ev rfl) at2 rfl rfl rfl (put_T rfl _) ?_;refine zQ 2 ?_;refine qr fun Kc FY=>?_;refine EvO.cx rfl (ev rfl) (by assumption) rfl (put_T rfl _) ?_;obtain⟨_,st,hev,rfl,cd,dk,aL,bD,hH,lG⟩:=hcr _ ⟨cd,dk,code,mD,hH,hO⟩;refine qv hev ?_;refine zQ 1 ?_;refine⟨fun i h=>(by cases h),_,_,_,rfl,rfl,?_⟩;exact⟨rfl,cd,dk,aL,bD,hH.erase 2,lG⟩
  refine qE rfl (by simp[q5]) ?_;refine zQ 5 ?_
  by_cases q6:t.n.op=6
  ·rw[if_neg (by omega),if_neg (by omega),if_neg q3,if_neg q4,if_neg q5,if_pos q6];have nx:t.ks.length=1∧1≤t.n.cap∧t.n.cap≤4:=by obtain⟨_,hq⟩:=ho;omega
   obtain⟨p,hp⟩:∃p,t.ks=[p]:=List.length_eq_one_iff.1 nx.1;have q9:p∈t.ks:=by rw[hp];simp
   have hr1:(t.ks.map tC)[0]?=some (tC p):=by rw[hp];rfl
   have LX:eT (aR t.ks)=av p:=by rw[hp];exact sq p
   rw[LX];refine qD rfl (by simp[q6]) ?_;refine zQ 6 ?_;refine EvO.qZ (z:=(2*t.n.cap)) rfl (ev rfl) (ev rfl) (by rw[wrap_i64 (by omega) (by omega)]<;>omega) (put_T rfl _) ?_;refine EvO.go (d:=.agg [.int .i64 4,.int .i64 (2*t.n.cap),.int .i64 0,.nul]) (st1:=_) rfl rfl rfl (put_T rfl _) ?_;obtain⟨_,st,hev,rfl,cd,dk,aL,bD,hH,lG⟩:=ej (rs:=[]) hF (.inl ⟨rfl,rfl⟩) ⟨cd,dk,code,mD,hH,hO⟩;refine qv hev ?_;refine zQ 1 ?_;have JR:(full++[bh 4 (2*t.n.cap) 0 []]).length=full.length+1:=by simp
   refine zQ 5 ?_;refine qr fun G3 Ig=>?_;refine EvO.cx rfl (ev rfl) (by assumption) rfl (put_T rfl _) ?_;obtain⟨_,st,hev,rfl,cd,dk,j_,qw,hH,t_⟩:=ih p q9 hF ⟨cd,dk,aL,bD,hH,lG⟩;refine qv hev ?_;refine zQ 1 ?_;rw[JR] at t_;refine zQ 5 ?_;refine EvO.qZ (z:=(2*t.n.cap)) rfl (ev rfl) (ev rfl) (by rw[wrap_i64 (by omega) (by omega)]<;>omega) (put_T rfl _) ?_;refine EvO.fM (z:=(2*t.n.cap+1)) rfl (ev rfl) (ev rfl) (by rw[wrap_i64 (by omega) (by omega)]<;>omega) (put_T rfl _) ?_;refine EvO.go (d:=.agg [.int .i64 4,.int .i64 (2*t.n.cap+1),.int .i64 0,.nul]) (st1:=_) rfl rfl rfl (put_T rfl _) ?_;obtain⟨_,st,hev,rfl,cd,dk,gb,jy,hH,Av⟩:=ej (rs:=[]) hF (.inl ⟨rfl,rfl⟩) ⟨cd,dk,j_,qw,hH,t_⟩;refine qv hev ?_;refine zQ 1 ?_;refine⟨fun i h=>(by cases h),_,_,_,rfl,rfl,?_⟩;have RD:full++[bh 4 (2*t.n.cap) 0 []]++av p (full.length+1)++[bh 4 (2*t.n.cap+1) 0 []]=full++(bh 4 (2*t.n.cap) 0 []::(av p (full.length+1)++[bh 4 (2*t.n.cap+1) 0 []])):=by simp
   rw[RD] at Av;exact⟨rfl,cd,dk,gb,jy,hH.erase 2,Av⟩
  refine qE rfl (by simp[q6]) ?_;refine zQ 5 ?_
  by_cases q7:t.n.op=7
  ·rw[if_pos q7];refine qD rfl (by simp[q7]) ?_;refine zQ 2 ?_;refine EvO.go (d:=.agg [.int .i64 5,.int .i64 0,.int .i64 0,.nul]) (st1:=_) rfl rfl rfl (put_T rfl _) ?_;obtain⟨_,st,hev,rfl,cd,dk,aL,bD,hH,lG⟩:=ej (rs:=[]) hF (.inl ⟨rfl,rfl⟩) ⟨cd,dk,code,mD,hH,hO⟩;refine qv hev ?_;refine zQ 1 ?_;refine⟨fun i h=>(by cases h),_,_,_,rfl,rfl,?_⟩;exact⟨rfl,cd,dk,aL,bD,hH.erase 2,lG⟩
  refine qE rfl (by simp[q7]) ?_;refine zQ 5 ?_
  by_cases q8:t.n.op=8
  ·rw[if_neg q7,if_pos q8];refine qD rfl (by simp[q8]) ?_;refine zQ 2 ?_;refine EvO.go (d:=.agg [.int .i64 6,.int .i64 0,.int .i64 0,.nul]) (st1:=_) rfl rfl rfl (put_T rfl _) ?_;obtain⟨_,st,hev,rfl,cd,dk,aL,bD,hH,lG⟩:=ej (rs:=[]) hF (.inl ⟨rfl,rfl⟩) ⟨cd,dk,code,mD,hH,hO⟩;refine qv hev ?_;refine zQ 1 ?_;refine⟨fun i h=>(by cases h),_,_,_,rfl,rfl,?_⟩;exact⟨rfl,cd,dk,aL,bD,hH.erase 2,lG⟩
  ·rw[if_neg q7,if_neg q8,if_neg q3,if_neg q4,if_neg q5,if_neg q6,List.append_nil];refine qE rfl (by simp[q8]) ?_;refine zQ 1 ?_;refine⟨fun i h=>(by cases h),_,_,_,rfl,rfl,?_⟩;exact⟨rfl,cd,dk,code,mD,hH.erase 2,hO⟩
def xt (fr:Go.V.Fr) (k:Nat):Go.V.D:=Go.V.nth .junk fr.loc k
mutual
theorem Tr.ma:∀(t:Tr),t.ok→∀n∈t.flat,n.kids≤((t.flat.length:Nat):Int)
 | .mk n ks,h,m,hm=>by
  simp only[Tr.ok] at h;simp only[Tr.flat,List.mem_cons] at hm;have h1:=aJ.nb ks;simp only[Tr.flat,List.length_cons]
  rcases hm with rfl|hm
  ·have:=h.1.1;omega
  ·have:=aJ.ma ks h.2 m hm;omega
theorem aJ.ma:∀(ts:aJ),ts.ok→∀n∈ts.flat,n.kids≤((ts.flat.length:Nat):Int)
 | .nil,_,n,hn=>by simp[aJ.flat] at hn
 | .cons t ts,h,n,hn=>by
  simp only[aJ.ok] at h;simp only[aJ.flat,List.mem_append] at hn;simp only[aJ.flat,List.length_append]
  rcases hn with hn|hn
  ·have:=Tr.ma t h.1 n hn;omega
  ·have:=aJ.ma ts h.2 n hn;omega
end
theorem sR {s0:St} {x:D} {rules:List Nl} (hx:V.Rows s0 1 x (rules.map pz)) (hr:∀r∈rules,r.ok∧∀n∈r.l,n.rd=aA n.rs) (hl:rules.length≤1048576):Ev pv 6 [x] s0 (compD (compileS (rules.map (·.l)))) s0:=by
 refine Ev.mk1 rfl R5 rfl rfl rfl ?_;refine zE ?_;obtain⟨hSb,hF,hH⟩:=ri s0;generalize enterSt .ro s0=S at*;have hx:=Arg.of hx hSb;have hfz:∀(st:St) (e w:Int),aO st s0.bs.length false 16 (lQ [.agg [.nul,.nul],.int .i64 e,.int .i64 w])=some (compD ⟨[],[],e,w⟩):=fun st e w=>rfl;refine zQ 2 ?_;refine qa hH fun k2 st nv hH=>?_;refine zQ 7 ?_;refine qn ?_;simp only[List.length_map];refine zQ 2 ?_;unfold compileS
 by_cases h8:8<rules.length
 ·rw[if_pos (by rw[List.length_map];exact h8)];refine qD rfl (by simp;omega) ?_;refine zQ 2 ?_;refine EvO.go (d:=.agg [.nul,.nul]) (st1:=_) rfl rfl rfl (put_T rfl _) ?_;refine qS hH at0 fun st hH=>?_;dsimp only[u2,u1,u3,u4,setMany,u5,u6,D.cells,Nat.reduceAdd,aT,ay,ah,pz,tC,jn] at hH;refine zQ 3 ?_;refine EvC.ret ⟨rx,_,hH.eV rfl at0 rfl rfl rfl,rl hSb hH (hfz _ 13 8)⟩
 ·rw[if_neg (by rw[List.length_map];exact h8)];refine qE rfl (by simp;omega) ?_;refine zQ 3 ?_;refine EvO.go (d:=.agg [.nul,.bool false]) (st1:=_) rfl rfl rfl (put_T rfl _) ?_;refine qb hH fun k15 st Rl hH=>?_;refine zQ 4 ?_;refine qa hH fun k6 st EX hH=>?_;refine zQ 6 ?_
  have hH:Has s0.bs.length S st (.box k15 (.mem 0 false [.nul,.bool false])::.deep (fun _=>False) .nul 4 (([]:List aN).map aT)::.box k6 (.mem 0 false [.nul,.nul])::.lst .nul 1 (([]:List Int).map ah)::.box k2 (.mem 0 false [.nul,.nul])::[]):=by
   have h1:Has s0.bs.length S st (.lst .nul 1 (([]:List Int).map ah)::.deep (fun _=>False) .nul 4 (([]:List aN).map aT)::.box k6 (.mem 0 false [.nul,.nul])::.box k15 (.mem 0 false [.nul,.bool false])::.box k2 (.mem 0 false [.nul,.nul])::[]):=(hH.HJ 4).nulE 1;exact((Has.Fj [_] [_,_] h1).front at3)
  refine zQ 1 ?_;refine EvC.loop (fun mm fr st=>∃(r:Nat) (cd sd:D) (dk:Nat→Prop) (code:List aN) (bf:List Int),fr.clean=⟨9,[x,xt fr 1,.ptr k2 0 0,.int .i64 0,.int .i64 0,.ptr k15 0 0,.ptr k6 0 0,.int .i64 (r:Nat),xt fr 8],[]⟩∧Has s0.bs.length S st [.box k15 (.mem 0 false [cd,.bool false]),.deep dk cd 4 (code.map aT),.box k6 (.mem 0 false [.nul,sd]),.lst sd 1 (bf.map ah),.box k2 (.mem 0 false [.nul,.nul])]∧(r+mm=rules.length)∧(gX ((rules.drop r).map (·.l)) r code bf=gX (rules.map (·.l)) 0 [] [])∧(code.length≤400)∧(bf.length≤r)) (rules.length) ?_ ?_
  ·exact⟨0,.nul,.nul,(fun _=>False),[],[],rfl,hH,by omega,by rw[List.drop_zero],by simp,by simp⟩
  rintro mm fr st ⟨r,cd,sd,dk,code,bf,hfr,hH,Qb,hX,hcl,iJ⟩;rw[hfr];clear hfr;generalize xt fr=ee;clear fr;refine zQ 5 ?_;refine qn ?_;simp only[List.length_map];refine zQ 2 ?_
  by_cases hlt:r<rules.length
  ·obtain⟨q,hq⟩:∃q,rules[r]?=some q:=⟨rules[r]'hlt,List.getElem?_eq_getElem _⟩
   obtain⟨tU,Qj⟩:=hr q (List.mem_of_getElem? hq);have hr1:=BW hq;rw[drop_cons hq,List.map_cons,gX] at hX;refine qD rfl (by simp;omega) ?_;refine zQ 8 ?_;refine qr fun Fs xx=>?_;refine qR ?_;refine qv (zC tU) ?_;refine zQ 2 ?_
   cases lB:e_ q.l with
   |false=>
    rw[if_pos lB] at hX;refine zQ 3 ?_;refine EvO.go (d:=.agg [.nul,.nul]) (st1:=_) rfl rfl rfl (put_T rfl _) ?_;refine qm ?_;refine qS hH at4 fun st hH=>?_;dsimp only[u2,u1,u3,u4,setMany,u5,u6,D.cells,Nat.reduceAdd,aT,ay,ah,pz,tC,jn] at hH;refine zQ 3 ?_;rw[←hX];refine EvC.ret ⟨rx,_,hH.eV rfl at4 rfl rfl rfl,rl hSb hH (hfz _ 1 r)⟩
   |true=>
    rw[if_neg (by rw[lB];simp)] at hX;obtain⟨jq,Cf⟩:=sG lB;have KU:=tU.nl;have OR:(bP q.l).fw≤1048576:=by rw[←Tr.ka,Cf];exact KU
    have Ch:∀n∈q.l,NdV n:=fun n hn=>⟨Qj n hn,(tU.i n hn).2.1,by have:=Tr.ma _ jq n (by rw[Cf];exact hn);rw[Cf] at this;omega⟩
    have PY:(bP q.l).fa ox:=(Tr.gk _).2 fun n hn=>by rw[Cf] at hn;exact⟨(Ch n hn).1,(Ch n hn).2.1⟩
    have qJ:=fun st=>yu KU Ch tU.c _ (bP q.l) (Nat.le_refl _) OR jq st 0 (by rw[Cf];exact fp.all _);have hnd:qH (bP q.l):=CV _ (bP q.l) (Nat.le_refl _) OR jq PY;refine zQ 10 ?_;refine EvO.nA hH rfl (ev rfl) (by exact at1) rfl (put_T rfl _) ?_;simp only[List.length_map];refine qh (s:=1) (vs:=[_]) hH fun k37 st hk37 hH=>?_;refine EvO.happend (s:=1) hH rfl (ev rfl) (ev rfl) (by exact at4) (by exact hH.rows (by exact at0)) rfl rfl rfl rfl rfl rfl rfl ⟨(Nat.le_of_ble_eq_true rfl),(Nat.le_of_ble_eq_true rfl)⟩ (fun _=>(put_T rfl _)) (by simp only[List.length_cons,List.length_nil,List.length_map]<;>omega) (by exact .inl hF) (fun x38 st hH=>?_);dsimp only[u2,u1,u3,u4,setMany,u5,u6,D.cells,Nat.reduceAdd,aT,ay,ah,pz,tC,jn] at hH;refine zQ 1 ?_;refine qT hH at3 (fun st hH=>?_) (jk:=hH.ocells at4);dsimp only[u2,u1,u3,u4,setMany,u5,u6,D.cells,Nat.reduceAdd,aT,ay,ah,pz,tC,jn] at hH;refine zQ 5 ?_;refine qr fun JF D9=>?_;refine qR ?_;refine qv ((qJ _)) ?_;refine zQ 3 ?_;refine qa hH fun k8 st hk8 hH=>?_;refine qS hH at0 fun st hH=>?_;dsimp only[u2,u1,u3,u4,setMany,u5,u6,D.cells,Nat.reduceAdd,aT,ay,ah,pz,tC,jn] at hH;refine zQ 2 ?_
    have hH:Has s0.bs.length S st (.box k15 (.mem 0 false [cd,.bool false])::.deep dk cd 4 (code.map aT)::.box k8 (.mem 0 false (tC (bP q.l)))::.box k6 (.mem 0 false [.nul,x38])::.lst x38 1 ((bf++[((code.length:Nat):Int)]).map ah)::.box k2 (.mem 0 false [.nul,.nul])::[]):=by
     rw[List.map_append (f:=ah)];exact(Has.Fj [_] [_,_] (hH.erase 1))
    have Ao:(.nul=D.nul∧([]:List Rg)=[])∨D.nul=.sl ((([]:List Rg).map ag).map (ic 2)):=.inl ⟨rfl,rfl⟩;refine zQ 3 ?_;refine EvO.go (d:=.agg [.int .i64 4,.int .i64 0,.int .i64 0,.nul]) (st1:=_) rfl rfl rfl (put_T rfl _) ?_;obtain⟨_,st,hev,rfl,cd,dk,Jt,NT,hH,RU⟩:=ej (rs:=[]) hF Ao ⟨cd,dk,code,false,hH,.inl ⟨rfl,rfl,hcl⟩⟩;refine qv hev ?_;refine zQ 1 ?_;have gM:(code++[bh 4 0 0 []]).length=code.length+1:=by simp
    refine zQ 3 ?_;refine EvO.hloadS (m:=8) (r:=tC (bP q.l)) hH rfl (ev rfl) at2 rfl rfl rfl (put_T rfl _) ?_;obtain⟨_,st,hev,rfl,cd,dk,ak,cj,hH,Aw⟩:=hnd hF ⟨cd,dk,Jt,NT,hH,RU⟩;refine qv hev ?_;refine zQ 1 ?_;rw[gM] at Aw;refine zQ 3 ?_;refine EvO.go (d:=.agg [.int .i64 4,.int .i64 1,.int .i64 0,.nul]) (st1:=_) rfl rfl rfl (put_T rfl _) ?_;obtain⟨_,st,hev,rfl,cd,dk,aL,bD,hH,lG⟩:=ej (rs:=[]) hF Ao ⟨cd,dk,ak,cj,hH,Aw⟩;refine qv hev ?_;refine zQ 5 ?_;refine EvO.go (d:=.agg [.int .i64 7,.int .i64 (r:Nat),.int .i64 0,.nul]) (st1:=_) rfl rfl rfl (put_T rfl _) ?_;obtain⟨_,st,hev,rfl,cd,dk,j_,qw,hH,t_⟩:=ej (rs:=[]) hF Ao ⟨cd,dk,aL,bD,hH,lG⟩;refine qv hev ?_;refine zQ 1 ?_
    have KP:code++[bh 4 0 0 []]++av (bP q.l) (code.length+1)++[bh 4 1 0 []]++[bh 7 (r:Nat) 0 []]=code++gR (bP q.l) code.length r:=by
     unfold gR;simp
    have vz:(code++gR (bP q.l) code.length r).length=code.length+(bP q.l).sz+3:=by rw[List.length_append,mQ jq];omega
    rw[KP,vz] at t_;refine zQ 7 ?_
    by_cases E2:qw=false
    ·obtain⟨O0,R2⟩:j_=code++gR (bP q.l) code.length r∧code.length+(bP q.l).sz+3≤400:=by
      rcases t_ with h|h
      ·exact h.2
      ·rw[E2] at h;cases h.1
     rw[if_neg (by omega)] at hX;rw[E2,O0] at hH;refine qE rfl (by rw[E2]) ?_;refine zQ 6 ?_;have hH:=hH.erase 2;exact⟨mm-1,by omega,⟨r+1,cd,x38,dk,code++gR (bP q.l) code.length r,bf++[((code.length:Nat):Int)],rfl,hH,by omega,hX,by rw[vz];omega,by rw[List.length_append];simp only[List.length_cons,List.length_nil];omega⟩⟩
    ·obtain⟨Mk,O0,R2⟩:qw=true∧j_.length=400∧400<code.length+(bP q.l).sz+3:=by
      rcases t_ with h|h
      ·exact absurd h.1 E2
      ·exact h
     rw[if_pos (by omega)] at hX;refine qD rfl (by rw[Mk]) ?_;refine zQ 2 ?_;refine EvO.go (d:=.agg [.nul,.nul]) (st1:=_) rfl rfl rfl (put_T rfl _) ?_;refine qm ?_;refine qS hH at5 fun st hH=>?_;dsimp only[u2,u1,u3,u4,setMany,u5,u6,D.cells,Nat.reduceAdd,aT,ay,ah,pz,tC,jn] at hH;refine zQ 3 ?_;rw[←hX];refine EvC.ret ⟨rx,_,hH.eV rfl at5 rfl rfl rfl,rl hSb hH (hfz _ 12 r)⟩
  ·refine qE rfl (by simp;omega) ?_;refine zQ 1 ?_;rw[List.drop_of_length_le (by omega),List.map_nil,nB] at hX;refine zQ 7 ?_;refine EvO.pL hH rfl (ev rfl) (ev rfl) (by exact hH.dcells (by exact at1)) (by exact rfl) (by exact at2) (by exact Nat.le_of_ble_eq_true rfl) (by exact .inl hF) (fun st hH=>?_);dsimp only[u2,u1,u3,u4,setMany,u5,u6,D.cells,Nat.reduceAdd,aT,ay,ah,pz,tC,jn] at hH;refine zQ 3 ?_;refine EvO.hloadS (m:=2) hH rfl (ev rfl) (by exact at2) (by dsimp only[List.drop_succ_cons,List.drop_zero,List.take_succ_cons,List.take_zero,aT,ay,ah,pz,tC,jn]<;>rfl) rfl rfl (put_T rfl _) ?_;refine qS hH at4 fun st hH=>?_;dsimp only[u2,u1,u3,u4,setMany,u5,u6,D.cells,Nat.reduceAdd,aT,ay,ah,pz,tC,jn] at hH;refine zQ 3 ?_;rw[←hX];have h1:=hH.vM at1 (n:=13) (by decide);have h2:=hH.y_ at3 (nj _) (n:=14) (by decide)
   have h4:aO st s0.bs.length false 15 (.agg [cd,sd])=some (pgV code bf).d:=by
    show(eG (aO st s0.bs.length false 14) [cd,sd]).map D.agg=_;simp only[eG,h1,h2,Option.map_some];rfl
   have h3:aO st s0.bs.length false 16 (lQ [.agg [cd,sd],.int .i64 0,.int .i64 0])=some (compD ⟨code,bf,0,0⟩):=by
    show(eG (aO st s0.bs.length false 15) [.agg [cd,sd],.int .i64 0,.int .i64 0]).map D.tup=_;simp only[eG,h4];rfl
   exact EvC.ret ⟨rx,_,hH.eV rfl at4 rfl rfl rfl,rl hSb hH h3⟩
theorem uN {s0:St} {x:D} {rules:List Nl} (hx:V.Rows s0 1 x (rules.map pz)) (hr:∀r∈rules,r.ok∧∀n∈r.l,NdV n) (hl:rules.length≤1048576):Ev pv 6 [x] s0 (compD (compileS (rules.map (·.l)))) s0:=
 sR hx (fun r hm=>⟨(hr r hm).1,fun n hn=>((hr r hm).2 n hn).1⟩) hl
def nh (fr:Go.V.Fr) (k:Nat):Go.V.D:=Go.V.nth .junk fr.loc k
theorem rcomp_parts {s0:St} {y:D} {parts:List (List Nod)} (h:∀l∈parts,(∀n∈l,NdV n)∧l.length≤500) (hl:parts.length≤1048576) (hy:V.Rows s0 1 y (parts.map partC)):Ev pv 6 [y] s0 (compD (compileS parts)) s0:=by
 have h1:=uN (s0:=s0) (x:=y) (rules:=parts.map (fun l=>(⟨kT l,l⟩:Nl))) (by rw[va];exact hy) (fun r hr=>⟨BV h r hr,by obtain⟨l,hl,rfl⟩:=List.mem_map.1 hr;exact(h l hl).1⟩) (by rw[List.length_map];exact hl);have h2:(parts.map (fun l=>(⟨kT l,l⟩:Nl))).map (·.l)=parts:=by rw[List.map_map];exact List.map_id _
 rw[h2] at h1;exact h1
theorem Hx {x:D} {s:Nat} {es:List (List D)} (h:SlD x s es):x.lK=none:=by
 rcases h with⟨rfl,_⟩|⟨ds,rfl,_⟩<;>rfl
theorem progsS_ev {s0:St} {P:Pg} (hP:P.ok):Ev pv 7 [P.d,P.d] s0 (.bool true) s0:=by
 have hcl:=hP.cl;have lN:=hP.sl;have I5:=hP.c.ref;have qI:=hP.s.ref;have KN:refs [P.cd,P.sd]=0:=by simp[refs,I5,qI]
 have nX:∀(st:St),Ev pv 22 [P.sd,P.sd] st (.bool true) st:=fun st=>by
  have:=wQ (s0:=st) (hP.s.rows st) (hP.s.rows st) (Nat.le_trans lN (by decide)) (Nat.le_trans lN (by decide))
  rwa [decide_eq_true rfl] at this
 refine Ev.mk1 rfl R4 rfl rfl rfl ?_;refine zE ?_;obtain⟨hSb,hF,hH⟩:=ri s0;generalize enterSt .ro s0=S at*;have hc:=hP.c.arg s0.bs.length S;have hs:=hP.s.arg s0.bs.length S;refine qq<|qj fun K hK=>qb hH fun k2 st nv hH=>?_;dsimp only[u2,u1,u3,u4,setMany,u5,u6,D.cells,Nat.reduceAdd,aT,Pg.d,Pg.cs] at hH;refine qb hH fun k3 st Hb hH=>?_;dsimp only[u2,u1,u3,u4,setMany,u5,u6,D.cells,Nat.reduceAdd,aT,Pg.d,Pg.cs] at hH;refine qm ?_;refine qe hK ?_;have oO:(((P.code.length:Nat):Int) !=((P.code.length:Nat):Int))=false:=by simp
 refine qq<|qq<|qj fun K hK=>qp (o:=0) ?_;refine ql hH at1 ?_;refine qn ?_;simp only[List.length_map];refine qp (o:=0) ?_;refine ql hH at0 ?_;refine qn ?_;simp only[List.length_map];refine qg ?_;refine qm ?_;refine qp (o:=1) ?_ (hg:=wi oO);refine ql hH at1 ?_ (hg:=wi oO);refine qp (o:=1) ?_ (hg:=wi oO);refine ql hH at0 ?_ (hg:=wi oO);refine qv ((nX _)) ?_ (hg:=wi oO);refine qg ?_ (hg:=wi oO);refine qu oO ?_;refine qe hK<|EvC.cond (v:=false) (by dsimp only[Fr.ev,Fr.get,nth,V.look];rfl) (fun h=>by cases h) (fun _=>?_);refine EvC.skip<|qq<|qq<|qj fun K hK=>qm ?_;refine qe hK<|EvC.block<|EvC.loop (fun mm fr st=>∃(i:Nat),fr.clean=⟨8,[nh fr 0,nh fr 1,.ptr k2 0 0,.ptr k3 0 0,nh fr 4,.int .i64 (i:Nat),nh fr 6,nh fr 7],[]⟩∧Has s0.bs.length S st (.box k3 (.mem 0 false [P.cd,P.sd])::.box k2 (.mem 0 false [P.cd,P.sd])::[])∧(i+mm=P.code.length)) (P.code.length) ?_ ?_
 ·exact⟨0,rfl,hH,by omega⟩
 rintro mm fr st ⟨i,hfr,hH,hi⟩;rw[hfr];clear hfr;generalize nh fr=ee;clear fr;refine qq<|qq<|qj fun K hK=>qm ?_;refine qp (o:=0) ?_;refine ql hH at1 ?_;refine qn ?_;simp only[List.length_map];refine qg ?_;refine qe hK ?_
 by_cases hil:i<P.code.length
 ·obtain⟨x,hx⟩:∃x,P.code[i]?=some x:=⟨P.code[i]'hil,List.getElem?_eq_getElem _⟩
  have JJ:=hP.i x (List.mem_of_getElem? hx);have P':=kI hx;refine qD rfl (by simp;omega) ?_;refine EvC.skip<|qq<|EvC.block ?_;change EvC _ _ _ _ _ _;refine qq ?_;generalize hK:SeqQ _ _ _ _=K;refine EvC.Hz rfl ?_;refine jC.cons ?_;refine qp (o:=0) ?_;refine EvO.nil ⟨rfl,?_⟩;refine jC.cons ?_;refine ql hH at1 ?_;refine EvO.nil ⟨rfl,?_⟩;refine jC.cons ?_;refine qm ?_;refine EvO.nil ⟨rfl,?_⟩;refine jC.cons ?_;refine qr fun Pw Lc=>?_;refine EvO.nil ⟨rfl,?_⟩;refine jC.cons ?_;refine EvO.cx rfl (ev rfl) (by assumption) rfl (put_T rfl _) ?_;refine EvO.nil ⟨rfl,?_⟩;refine jC.cons ?_;refine qp (o:=0) ?_;refine EvO.nil ⟨rfl,?_⟩;refine jC.cons ?_;refine ql hH at0 ?_;refine EvO.nil ⟨rfl,?_⟩;refine jC.cons ?_;refine qm ?_;refine EvO.nil ⟨rfl,?_⟩;refine jC.cons ?_;refine EvO.Ka rfl rfl rfl hP.c rfl rfl P' (put_T rfl _) (fun Io=>?_);refine EvO.nil ⟨rfl,?_⟩;refine jC.cons ?_;refine qR ?_;refine EvO.nil ⟨rfl,?_⟩;refine jC.cons ?_;refine qa hH fun k6 st EX hH=>?_;refine EvO.nil ⟨rfl,?_⟩;refine jC.cons ?_;refine qa hH fun k7 st Lt hH=>?_;refine EvO.nil ⟨rfl,?_⟩;refine jC.cons ?_;refine qS hH at1 fun st hH=>?_;dsimp only[u2,u1,u3,u4,setMany,u5,u6,D.cells,Nat.reduceAdd,aT,Pg.d,Pg.cs] at hH;refine EvO.nil ⟨by exact Bool.and_eq_true_iff.2 ⟨(by exact kO rfl rfl rfl (Has.at (by assumption) at2) (Has.at (by assumption) at2) (Has.at (by assumption) at0) KN),Bool.and_eq_true_iff.2 ⟨(by exact qk rfl rfl (Hx hP.c)),Bool.and_eq_true_iff.2 ⟨(by exact qk rfl rfl rfl),rfl⟩⟩⟩,?_⟩;refine jC.cons ?_;refine qS hH at0 fun st hH=>?_;dsimp only[u2,u1,u3,u4,setMany,u5,u6,D.cells,Nat.reduceAdd,aT,Pg.d,Pg.cs] at hH;refine EvO.nil ⟨rfl,?_⟩;refine jC.nil ?_;subst hK;have cQ:(x.op !=x.op)=false:=by simp
  have gB:(x.x !=x.x)=false:=by simp
  have iZ:(x.y !=x.y)=false:=by simp
  have P8:∀st:St,Ev pv 23 [x.rd,x.rd] st (.bool true) st:=fun st=>by
   have:=sJ (s0:=st) (JJ.1.rows st) (JJ.1.rows st) (Nat.le_trans JJ.2 (by decide)) (Nat.le_trans JJ.2 (by decide))
   rwa [decide_eq_true rfl] at this
  refine qq<|qj fun K hK=>qp (o:=0) ?_;refine ql hH at1 ?_;refine qp (o:=0) ?_;refine ql hH at0 ?_;refine qg ?_;refine qm ?_;refine qp (o:=1) ?_ (hg:=wi cQ);refine ql hH at1 ?_ (hg:=wi cQ);refine qp (o:=1) ?_ (hg:=wi cQ);refine ql hH at0 ?_ (hg:=wi cQ);refine qg ?_ (hg:=wi cQ);refine qu cQ ?_;refine qm ?_;refine qp (o:=2) ?_ (hg:=wi gB);refine ql hH at1 ?_ (hg:=wi gB);refine qp (o:=2) ?_ (hg:=wi gB);refine ql hH at0 ?_ (hg:=wi gB);refine qg ?_ (hg:=wi gB);refine qu gB ?_;refine qm ?_;refine qp (o:=3) ?_ (hg:=wi iZ);refine ql hH at1 ?_ (hg:=wi iZ);refine qp (o:=3) ?_ (hg:=wi iZ);refine ql hH at0 ?_ (hg:=wi iZ);refine qv ((P8 _)) ?_ (hg:=wi iZ);refine qg ?_ (hg:=wi iZ);refine qu iZ ?_;refine qe hK<|EvC.cond (v:=false) (by dsimp only[Fr.ev,Fr.get,nth,V.look];rfl) (fun h=>by cases h) (fun _=>?_);refine EvC.skip<|qj fun K hK=>qm ?_;refine qA ?_;refine qm ?_;refine qe hK ?_;exact⟨mm-1,by omega,⟨i+1,rfl,hH.drop 2,by omega⟩⟩
 ·refine qE rfl (by simp;omega) ?_;refine EvC.exit<|qq<|qj fun K hK=>qm ?_;refine qe hK<|EvC.ret ⟨rx,_,rfl,rl hSb hH (rfl)⟩
def ey (fr:Go.V.Fr) (k:Nat):Go.V.D:=Go.V.nth .junk fr.loc k
inductive PR (α:Type) where
 |ok (a:α) (i:Nat)
 |er (e:Int) (w:Nat)
def oe:List Rg→Int→List Rg
 |[],n=>[(n,1114111)]
 |q::m,n=>(n,aV .i32 (q.1-1))::oe m (aV .i32 (q.2+1))
noncomputable def hU (l:List Rg):List Rg:=bp (oe (bp l) 0)
theorem u_:∀(l:List Rg) (n:Int),(oe l n).length=l.length+1
 |[],_=>rfl
 |q::m,n=>by simp only[oe,List.length_cons,u_ m]
theorem oH {s0:St} {x:D} {l:List Rg} (hx:V.Rows s0 2 x (l.map ag)) (hl:l.length≤131072):Ev pv 105 [x] s0 (aA (hU l)) s0∧(hU l).length≤4*l.length+2:=by
 suffices hg:∃d,Ev pv 105 [x] s0 d s0∧d=aA (hU l)∧(hU l).length≤4*l.length+2 by
  obtain⟨d,h1,rfl,h2⟩:=hg;exact⟨h1,h2⟩
 have hN:hU l=bp (oe (bp l) 0):=rfl;refine Ev.yE rfl Jp rfl rfl rfl ?_;refine zE ?_;obtain⟨hSb,hF,hH⟩:=ri s0;generalize enterSt .ro s0=S at*;have hx:=Arg.of hx hSb;refine zQ 12 ?_;obtain⟨hev,pN,_⟩:=kZ (hx.rows hH) (by omega);have hla:=(dr (bp l)).arg s0.bs.length S;generalize bp l=m at*;refine zQ 4 ?_;refine qv (hev) ?_;refine qn ?_;simp only[List.length_map];refine zQ 2 ?_;have hH:=hH.nulE 2;refine zQ 1 ?_;refine EvC.loop (fun mm fr st=>∃(i:Nat) (n:Int) (o:D) (out:List Rg),fr.clean=⟨11,[ey fr 0,ey fr 1,ey fr 2,o,.int .i32 n,ey fr 5,ey fr 6,ey fr 7,aA m,.int .i64 (m.length:Nat),.int .i64 (i:Nat)],[]⟩∧Has s0.bs.length S st [.lst o 2 (out.map ag)]∧(i+mm=m.length)∧(out.length=i)∧(out++oe (m.drop i) n=oe m 0)) (m.length) ?_ ?_
 ·exact⟨0,0,.nul,[],rfl,hH,by omega,rfl,rfl⟩
 rintro mm fr st ⟨i,n,o,out,hfr,hH,hi,ho,hn⟩;rw[hfr];clear hfr;generalize ey fr=ee;clear fr;refine zQ 5 ?_;refine zP (fun h1=>?_) fun h1=>?_
 ·refine zQ 1 ?_
  obtain⟨q,hq⟩:∃q,m[i]?=some q:=⟨m[i]'(by omega),List.getElem?_eq_getElem _⟩
  have hr:=cF hq
  have om:m.drop i=q::m.drop (i+1):=by
   have:=List.drop_eq_getElem_cons (l:=m) (i:=i) (by omega);rw[this];congr 1;rw[List.getElem?_eq_getElem (by omega)] at hq;exact Option.some.inj hq
  rw[om] at hn;refine zQ 4 ?_;refine qr fun Kh F3=>?_;refine EvO.cx rfl (ev rfl) (by assumption) rfl (put_T rfl _) ?_;refine qa hH fun k6 st EX hH=>?_;refine qS hH at0 fun st hH=>?_;dsimp only[u2,u1,u3,u4,setMany,u5,u6,D.cells,Nat.reduceAdd,ag] at hH;refine zQ 7 ?_;refine EvO.jo (z:=aV .i32 (q.1-1)) rfl (ev rfl) (ev rfl) rfl (put_T rfl _) ?_;refine EvO.c9 (qs:=[(0,_),(1,_)]) rfl rfl rfl rfl ⟨rfl,(ev rfl),(by rfl),rfl,(ev rfl),(by rfl),trivial⟩ (by intro q hq;simp only[List.mem_cons,List.not_mem_nil,or_false] at hq;rcases hq with rfl|rfl<;>exact⟨rfl,by exact Nat.le_of_ble_eq_true rfl⟩) (by show List.foldl _ [_,_] _=_;dsimp only[List.foldl_cons,List.foldl_nil,u2,u1]<;>rfl) (put_T rfl _) ?_;refine qh (s:=2) (vs:=[_]) hH fun k20 st LD hH=>?_;refine EvO.happend (s:=2) hH rfl (ev rfl) (ev rfl) (by exact at2) (by exact hH.rows (by exact at0)) rfl rfl rfl rfl rfl rfl rfl ⟨(Nat.le_of_ble_eq_true rfl),(Nat.le_of_ble_eq_true rfl)⟩ (fun _=>(put_T rfl _)) (by simp only[List.length_cons,List.length_nil,List.length_map]<;>omega) (by exact .inl hF) (fun Pf st hH=>?_);dsimp only[u2,u1,u3,u4,setMany,u5,u6,D.cells,Nat.reduceAdd,ag] at hH;refine zQ 5 ?_;refine EvO.fM (z:=aV .i32 (q.2+1)) rfl (ev rfl) (ev rfl) rfl (put_T rfl _) ?_;refine zQ 6 ?_;exact⟨mm-1,by omega,⟨i+1,_,_,out++[(n,aV .i32 (q.1-1))],rfl,(by rw[List.map_append];exact hH.drop 2),by omega,by simp[ho],(by rw[←hn,List.append_assoc];rfl)⟩⟩
 ·refine zQ 1 ?_;have nZ:m.drop i=[]:=List.drop_eq_nil_of_le (by omega);rw[nZ] at hn;have hn:out++[(n,1114111)]=oe m 0:=hn;refine zQ 4 ?_;refine EvO.c9 (qs:=[(0,_),(1,_)]) rfl rfl rfl rfl ⟨rfl,(ev rfl),(by rfl),rfl,(ev rfl),(by rfl),trivial⟩ (by intro q hq;simp only[List.mem_cons,List.not_mem_nil,or_false] at hq;rcases hq with rfl|rfl<;>exact⟨rfl,by exact Nat.le_of_ble_eq_true rfl⟩) (by show List.foldl _ [_,_] _=_;dsimp only[List.foldl_cons,List.foldl_nil,u2,u1]<;>rfl) (put_T rfl _) ?_;refine qh (s:=2) (vs:=[_]) hH fun k29 st Rf hH=>?_;refine EvO.happend (s:=2) hH rfl (ev rfl) (ev rfl) (by exact at1) (by exact hH.rows (by exact at0)) rfl rfl rfl rfl rfl rfl rfl ⟨(Nat.le_of_ble_eq_true rfl),(Nat.le_of_ble_eq_true rfl)⟩ (fun _=>(put_T rfl _)) (by simp only[List.length_cons,List.length_nil,List.length_map]<;>omega) (by exact .inl hF) (fun Sl st hH=>?_);dsimp only[u2,u1,u3,u4,setMany,u5,u6,D.cells,Nat.reduceAdd,ag] at hH;obtain⟨hev,oN,_⟩:=kZ (l:=out++[(n,1114111)]) (by rw[List.map_append];exact hH.rows at1) (by simp;omega);refine qv hev ?_;refine zQ 2 ?_;rw[hn] at oN⊢;refine EvC.ret ⟨rx,_,_,rfl,rl hSb hH (rfl),?_⟩;rw[u_] at oN;exact⟨by rw[hN];rfl,by rw[hN];omega⟩
noncomputable def ot:List Rg:=hU [(10,10)]
theorem zf {s0:St}:Ev pv 89 [] s0 (aA ot) s0∧ot.length≤6:=by
 have hl:(hU [(10,10)]).length≤4*1+2:=(oH (s0:=s0) (dr [(10,10)]|>.rows s0) (by simp)).2;refine⟨?_,hl⟩;unfold ot;refine Ev.mk1 rfl Mr rfl rfl rfl ?_;refine zE ?_;obtain⟨hSb,hF,hH⟩:=ri s0;generalize enterSt .ro s0=S at*;refine zQ 6 ?_;refine EvO.c9 (qs:=[(0,_),(1,_)]) rfl rfl rfl rfl ⟨rfl,(ev rfl),(by rfl),rfl,(ev rfl),(by rfl),trivial⟩ (by intro q hq;simp only[List.mem_cons,List.not_mem_nil,or_false] at hq;rcases hq with rfl|rfl<;>exact⟨rfl,by exact Nat.le_of_ble_eq_true rfl⟩) (by show List.foldl _ [_,_] _=_;dsimp only[List.foldl_cons,List.foldl_nil,u2,u1]<;>rfl) (put_T rfl _) ?_;refine qh (s:=2) (vs:=[_]) hH fun k2 st nv hH=>?_;obtain⟨hev,_⟩:=oH (l:=[(10,10)]) (hH.rows at0) (by simp);refine qv hev ?_;refine zQ 2 ?_;refine EvC.ret ⟨rx,_,rfl,rl hSb hH (rfl)⟩
def jT (a b:List UInt8):Bool:=decide ((a.length:Int)<b.length)||(((a.length:Int)==b.length) &&Op.bytesLess a b)
theorem B3 {s0:St} (a b:List UInt8):Ev pv 92 [.str a,.str b] s0 (.bool (jT a b)) s0:=by
 unfold jT;refine Ev.mk1 rfl Mp rfl rfl rfl ?_;refine zE ?_;obtain⟨hSb,hF,hH⟩:=ri s0;generalize enterSt .ro s0=S at*;refine zQ 5 ?_;refine EvC.ml 4 (.bool (decide ((a.length:Int)<b.length)||(((a.length:Int)==b.length) &&Op.bytesLess a b))) [] ?_ (fun ff tmp=>?_)
 ·refine qm ?_;refine EvO.slen rfl rfl rfl (put_T rfl _) ?_;refine qm ?_;refine EvO.slen rfl rfl rfl (put_T rfl _) ?_;refine zQ 2 ?_;refine EvO.two 10 rfl (fun cQ=>?_) (fun cQ=>?_)
  ·refine zQ 12 ?_;refine EvO.nil (aI ?_);refine zG ?_
   all_goals(simp_all;done)
  ·refine zQ 1 ?_;refine EvO.slen (wantD_is rfl rfl rfl cQ) rfl rfl (put_T rfl _) ?_;refine zQ 1 ?_;refine EvO.slen (wantD_is rfl rfl rfl cQ) rfl rfl (put_T rfl _) ?_;refine zQ 2 ?_;refine EvO.two 16 rfl (fun bA=>?_) (fun bA=>?_)
   ·refine zQ 3 ?_;refine EvO.pickT (wantD_is rfl rfl rfl cQ) rfl bA (put_T rfl _) ?_;refine zQ 2 ?_;refine EvO.nil (aI ?_);refine zG ?_
    all_goals(simp_all;done)
   ·refine zQ 3 ?_;refine EvO.pickF (wantD_is rfl rfl rfl cQ) rfl bA (put_T rfl _) ?_;refine zQ 2 ?_;refine EvO.nil (aI ?_);refine zG ?_
    all_goals(simp_all;done)
 dsimp only[setW,List.foldl,nth,u2,u1];refine EvC.ret ⟨rx,_,rfl,rl hSb hH (rfl)⟩
def sD:List UInt8→Int→Int
 |[],n=>n
 |c::l,n=>sD l (aV .i64 (aV .i64 (10*n)+aV .i64 (aV .u8 ((c.toNat:Nat)-48))))
def du (b:List UInt8):Int×Bool:=if 2<b.length then(0,false) else(sD b 0,decide (sD b 0≤30))
theorem kj {s0:St} (b:List UInt8) (hb:b.length≤1048576):Ev pv 93 [.str b] s0 (.tup [.int .i64 (du b).1,.bool (du b).2]) s0:=by
 suffices hg:∃d,Ev pv 93 [.str b] s0 d s0∧d=.tup [.int .i64 (du b).1,.bool (du b).2] by
  obtain⟨d,h1,rfl⟩:=hg;exact h1
 unfold du;refine Ev.yE rfl Mo rfl rfl rfl ?_;refine zE ?_;obtain⟨hSb,hF,hH⟩:=ri s0;generalize enterSt .ro s0=S at*;refine zQ 9 ?_;refine EvO.slen rfl rfl rfl (by dsimp only[Fr.put,u1,u2]<;>rfl) ?_;refine zQ 2 ?_;refine zP (fun h0=>?_) fun h0=>?_
 ·rw[if_pos (by omega)];refine zQ 5 ?_;refine EvC.ret ⟨rx,_,_,rfl,rl hSb hH (rfl),?_⟩
  rfl
 ·rw[if_neg (by omega)];refine zQ 9 ?_;refine EvO.slen rfl rfl rfl (by dsimp only[Fr.put,u1,u2]<;>rfl) ?_;refine zQ 3 ?_;refine EvC.loop (fun mm fr st=>∃(i:Nat) (n:Int),fr.clean=⟨12,[.str b,ey fr 1,ey fr 2,ey fr 3,.int .i64 n,ey fr 5,ey fr 6,ey fr 7,ey fr 8,ey fr 9,.int .i64 (b.length:Nat),.int .i64 (i:Nat)],[]⟩∧Has s0.bs.length S st []∧(i+mm=b.length)∧(sD (b.drop i) n=sD b 0)) (b.length) ?_ ?_
  ·exact⟨0,0,rfl,hH,by omega,rfl⟩
  rintro mm fr st ⟨i,n,hfr,hH,hi,hn⟩;rw[hfr];clear hfr;generalize ey fr=ee;clear fr;refine zQ 5 ?_;refine zP (fun h1=>?_) fun h1=>?_
  ·refine zQ 1 ?_
   obtain⟨c,hc⟩:∃c,b[i]?=some c:=⟨b[i]'(by omega),List.getElem?_eq_getElem _⟩
   have om:b.drop i=c::b.drop (i+1):=by
    have:=List.drop_eq_getElem_cons (l:=b) (i:=i) (by omega);rw[this];congr 1;rw[List.getElem?_eq_getElem (by omega)] at hc;exact Option.some.inj hc
   rw[om] at hn;refine zQ 9 ?_;refine EvO.qZ (z:=aV .i64 (10*n)) rfl (ev rfl) (ev rfl) rfl (put_T rfl _) ?_;refine zQ 2 ?_;refine EvO.Hy rfl (ev rfl) (ev rfl) rfl (by assumption) (put_T rfl _) ?_;refine EvO.go (d:=.int .u8 (aV .u8 ((c.toNat:Nat)-48))) (st1:=_) rfl rfl rfl (put_T rfl _) ?_;refine qg ?_;refine EvO.fM (z:=aV .i64 (aV .i64 (10*n)+aV .i64 (aV .u8 ((c.toNat:Nat)-48)))) rfl (ev rfl) (ev rfl) rfl (put_T rfl _) ?_;refine zQ 6 ?_;exact⟨mm-1,by omega,⟨i+1,_,rfl,hH,by omega,hn⟩⟩
  ·refine zQ 1 ?_;have nZ:b.drop i=[]:=List.drop_eq_nil_of_le (by omega);rw[nZ] at hn;have hn:n=sD b 0:=hn;rw[←hn];refine zQ 8 ?_;refine EvC.ret ⟨rx,_,_,rfl,rl hSb hH (rfl),?_⟩
   rfl
def ec {α:Type} (R:PR α) (aP:List Int) (s':dI):Prop:=∃e w,R=.er e w∧e≠0∧s'.e=e∧s'.w=aP.getD w 0
theorem ec.ne {α:Type} {R:PR α} {aP:List Int} {s':dI} (h:ec R aP s'):s'.e≠0:=by
 obtain⟨e,w,_,h1,h2,_⟩:=h;rw[h2];exact h1
theorem ec.map {α β:Type} {R:PR α} {R':PR β} {aP:List Int} {s':dI} (h:ec R aP s') (hR:∀e w,R=.er e w→R'=.er e w):ec R' aP s':=by
 obtain⟨e,w,h0,h1,h2,h3⟩:=h;exact⟨e,w,hR e w h0,h1,h2,h3⟩
theorem fN {α:Type} {R:PR α} {aP:List Int} {s:dI} {i:Nat} {e:Int} (he:s.e=0) (h:e≠0) (hR:R=.er e i):ec R aP (gZ aP s i e)∧(gZ aP s i e).i=s.i∧(gZ aP s i e).o=s.o∧(gZ aP s i e).g=s.g:=by
 unfold gZ;rw[if_pos he];exact⟨⟨e,i,hR,h,rfl,rfl⟩,rfl,rfl,rfl⟩
def dD (gs:List (Nat×Nat)) (i:Nat):List Int:=(gs.map fun g=>((g.1:Nat):Int)).drop i
theorem pY {N k:Nat} {S s0:St} {H:List bG} {gs:List (Nat×Nat)} {bj:D} {s:dI} (kW:gs.length≤120) (hi:s.i≤gs.length) (hne:gs≠[]) (hH:Has N S s0 (.box k (.mem 0 false (aG gs bj s))::H)):
  ∃d ae,Ev pv 91 [.ptr k 0 0] s0 d ae∧d=.tup [.str (digS (dD gs s.i) []).1,.bool (decide (0<(digS (dD gs s.i) []).2))]∧(digS (dD gs s.i) []).1.length≤120∧s.i+(digS (dD gs s.i) []).2≤gs.length∧Has N S ae (.box k (.mem 0 false (aG gs bj {s with i:=s.i+(digS (dD gs s.i) []).2}))::H):=by
 have hb:=hH.at at0;have hw:=iE (cs:=[.int .i64 0]) hH (hH.ge at0).1 (.inr rfl);have hl:=pZ (dD gs s.i) [];unfold dD at*;obtain⟨h1,h2⟩:=hl;simp only[List.length_drop,List.length_map,List.length_nil] at h1 h2;refine⟨_,_,Ev.prim rfl ?_,rfl,by omega,by omega,hH.Bj (aq:=0) at0⟩
 have hd:decide ((gs.map fun g=>((g.1:Nat):Int))≠[]∧(0:Int)≤(s.i:Nat)∧((s.i:Nat):Int).toNat≤(gs.map fun g=>((g.1:Nat):Int)).length∧(gs.map fun g=>((g.1:Nat):Int)).length<1099511627776)=true:=by
  rw[decide_eq_true];refine⟨by simpa using hne,by omega,by simp;omega,by simp;omega⟩
 show xK [.ptr k 0 0] s0=_;simp only[xK,St.mem_of hb];show(match iO ((gs.map aF).map (ic 2)) with|some rs=>Eo s0 k 0 0 rs (s.i:Nat)|none=>none)=_;rw[nO];simp only[Eo,hd];have hwr:=lf (cs:=[.int .i64 ((s.i+(digS ((gs.map fun g=>((g.1:Nat):Int)).drop s.i) []).2:Nat))]) (off:=2) hb (by show 2+1≤7;omega) hw;simp only[Int.toNat_natCast,Nat.zero_add];rw[hwr]
 rfl
noncomputable def ir (gs:List (Nat×Nat)) (f:Nat):PR (List Rg×Bool):=
 match gs[f+1]? with
 |none=>.er 4 f
 |some g=>
  if tQ gs (f+1)=true then .er 4 (f+1)
  else if((g.1:Nat):Int)=110 then .ok (bp [(10,10)],true) (f+2)
  else if((g.1:Nat):Int)=116 then .ok (bp [(9,9)],true) (f+2)
  else if((g.1:Nat):Int)=114 then .ok (bp [(13,13)],true) (f+2)
  else if((g.1:Nat):Int)=100 then .ok (bp [(48,57)],false) (f+2)
  else if((g.1:Nat):Int)=115 then .ok (bp [(9,10),(13,13),(32,32)],false) (f+2)
  else if((g.1:Nat):Int)=119 then .ok (bp [(48,57),(65,90),(95,95),(97,122)],false) (f+2)
  else if(33≤((g.1:Nat):Int)∧((g.1:Nat):Int)≤47∨58≤((g.1:Nat):Int)∧((g.1:Nat):Int)≤64∨91≤((g.1:Nat):Int)∧((g.1:Nat):Int)≤96∨123≤((g.1:Nat):Int)∧((g.1:Nat):Int)≤126) then .ok (bp [(((g.1:Nat):Int),((g.1:Nat):Int))],true) (f+2)
  else .er 4 f
def E6 (gs:List (Nat×Nat)) (aP:List Int) (R:PR (List Rg×Bool)) (s s':dI) (d1:D) (b:Bool):Prop:=
 s'.o=s.o∧s'.g=s.g∧s.i≤s'.i∧s'.i≤gs.length∧(ec R aP s'∧d1=.nul∨s'.e=0∧s.i<s'.i∧∃a,R=.ok (a,b) s'.i∧d1=aA a∧a.length≤8∧a≠[])
theorem uj {N k:Nat} {S s0:St} {H:List bG} {gs:List (Nat×Nat)} {bj:D} {aP:List Int} {s:dI} (hok:kh gs aP) (he:s.e=0) (hi:s.i<gs.length) (hH:Has N S s0 (.box k (.mem 0 false (aG gs bj s))::.lst bj 1 (aP.map ah)::H)):
  ∃d ae,Ev pv 88 [.ptr k 0 0] s0 d ae∧∃(d1:D) (b:Bool) (s':dI),d=.tup [d1,.bool b]∧E6 gs aP (ir gs s.i) s s' d1 b∧Has N S ae (.box k (.mem 0 false (aG gs bj s'))::.lst bj 1 (aP.map ah)::H):=by
 have kW:=hok.gl;have hpl:=hok.pl;refine Ev.gT rfl Ms rfl rfl rfl ?_;refine zE ?_;have a_:=hH;have hH:=hH.aY;have aU:(enterSt .rw s0).bs=s0.bs:=rfl;generalize enterSt .rw s0=S2 at*;have Ct:Arg N S2 2 (eo gs) (gs.map aF):=Arg.pure (fun st=>dt st gs);refine zQ 22 ?_;refine qT hH at0 fun st hH=>?_;dsimp only[u2,u1,u3,u4,setMany,u5,u6,D.cells,Nat.reduceAdd,aG,aF,ah,ag] at hH;refine zQ 12 ?_;refine qn ?_;simp only[List.length_map];refine zQ 2 ?_;refine zP (fun h0=>?_) fun h0=>?_
 ·have hv:ir gs s.i=.er 4 s.i:=by
   unfold ir;rw[List.getElem?_eq_none (by omega)]
  refine zQ 4 ?_;obtain⟨_,st,hev,rfl,hH⟩:=dP (s:={s with i:=s.i+1}) s.i 4 (by omega) hH;refine qv hev ?_;refine zQ 6 ?_;obtain⟨h1,h2,h3,h4⟩:=fN (aP:=aP) (s:={s with i:=s.i+1}) (i:=s.i) (e:=4) he (by decide) hv;refine EvC.ret ⟨rx,_,_,_,rfl,ab (rfl),?_⟩;exact⟨_,_,_,rfl,⟨h3,h4,by rw[h2];simp,by rw[h2];exact hi,.inl ⟨h1,rfl⟩⟩,a_.af aU hH⟩
 ·obtain⟨g,hg⟩:∃g,gs[s.i+1]?=some g:=⟨gs[s.i+1]'(by omega),List.getElem?_eq_getElem _⟩
  have hr1:(gs.map aF)[s.i+1]?=some (aF g):=by rw[List.getElem?_map,hg];rfl
  have hlt:=lt_get hg;have hv:ir gs s.i=ir gs s.i:=rfl
  conv at hv=>rhs;unfold ir;simp only[hg]
  refine zQ 9 ?_;obtain⟨_,st,hev,rfl,hH⟩:=x7 (s:={s with i:=s.i+1}) (s.i+1) hlt hH;refine qv hev ?_;refine zQ 1 ?_;dsimp only[aG] at hH;refine qc (fun hb=>?_) (fun hb=>?_)<;>try simp only[cs] at hb
  ·rw[if_pos hb] at hv;refine zQ 7 ?_;obtain⟨_,st,hev,rfl,hH⟩:=dP (s:={s with i:=s.i+1}) (s.i+1) 4 (by omega) hH;refine qv hev ?_;refine zQ 6 ?_;obtain⟨h1,h2,h3,h4⟩:=fN (aP:=aP) (s:={s with i:=s.i+1}) (i:=s.i+1) (e:=4) he (by decide) hv;refine EvC.ret ⟨rx,_,_,_,rfl,ab (rfl),?_⟩;exact⟨_,_,_,rfl,⟨h3,h4,by rw[h2];simp,by rw[h2];exact hi,.inl ⟨h1,rfl⟩⟩,a_.af aU hH⟩
  ·rw[if_neg (by rw[hb];simp)] at hv;refine zQ 11 ?_;refine qr fun N9 Ik=>?_;refine qf (fo:=0) fun N8 Ij=>?_;refine zQ 12 ?_;refine qT hH at0 fun st hH=>?_;dsimp only[u2,u1,u3,u4,setMany,u5,u6,D.cells,Nat.reduceAdd,aG,aF,ah,ag] at hH;refine zQ 6 ?_
   have cC:∀(a:List Rg) (b:Bool),ir gs s.i=.ok (a,b) (s.i+2)→a.length≤8→a≠[]→E6 gs aP (ir gs s.i) s {s with i:=s.i+1+1} (aA a) b:=fun a b h0 h1 h2=>⟨rfl,rfl,by show s.i≤s.i+1+1;omega,by show s.i+1+1≤_;omega,.inr ⟨he,by show s.i<s.i+1+1;omega,a,h0,rfl,h1,h2⟩⟩
   have fY:∀(r:Int),0≤r→r<55296→(bp [(r,r)]).length≤8∧bp [(r,r)]≠[]:=by
    intro r h1 h2;obtain⟨_,h3,h4⟩:=kZ (s0:=s0) (x:=aA [(r,r)]) (l:=[(r,r)]) (cG _ _) (by simp);exact⟨by simp at h3;omega,vh h1 h2 h4⟩
   refine zQ 6 ?_;refine zI (fun q1=>?_) fun q1=>?_
   ·rw[if_pos q1] at hv;refine zQ 2 ?_;refine qv (iq 10) ?_;refine zQ 3 ?_;refine EvC.ret ⟨rx,_,_,_,rfl,ab (rfl),?_⟩;exact⟨_,_,_,rfl,cC _ _ hv (fY 10 (by decide) (by decide)).1 (fY 10 (by decide) (by decide)).2,a_.af aU hH⟩
   ·rw[if_neg q1] at hv;refine zQ 5 ?_;refine zI (fun q2=>?_) fun q2=>?_
    ·rw[if_pos q2] at hv;refine zQ 2 ?_;refine qv (iq 9) ?_;refine zQ 3 ?_;refine EvC.ret ⟨rx,_,_,_,rfl,ab (rfl),?_⟩;exact⟨_,_,_,rfl,cC _ _ hv (fY 9 (by decide) (by decide)).1 (fY 9 (by decide) (by decide)).2,a_.af aU hH⟩
    ·rw[if_neg q2] at hv;refine zQ 5 ?_;refine zI (fun q3=>?_) fun q3=>?_
     ·rw[if_pos q3] at hv;refine zQ 2 ?_;refine qv (iq 13) ?_;refine zQ 3 ?_;refine EvC.ret ⟨rx,_,_,_,rfl,ab (rfl),?_⟩;exact⟨_,_,_,rfl,cC _ _ hv (fY 13 (by decide) (by decide)).1 (fY 13 (by decide) (by decide)).2,a_.af aU hH⟩
     ·rw[if_neg q3] at hv;refine zQ 5 ?_;refine zI (fun q4=>?_) fun q4=>?_
      ·rw[if_pos q4] at hv;refine zQ 2 ?_;refine EvO.c9 (qs:=[(0,_),(1,_)]) rfl rfl rfl rfl ⟨rfl,(ev rfl),(by rfl),rfl,(ev rfl),(by rfl),trivial⟩ (by intro q hq;simp only[List.mem_cons,List.not_mem_nil,or_false] at hq;rcases hq with rfl|rfl<;>exact⟨rfl,by exact Nat.le_of_ble_eq_true rfl⟩) (by show List.foldl _ [_,_] _=_;dsimp only[List.foldl_cons,List.foldl_nil,u2,u1]<;>rfl) (put_T rfl _) ?_;refine qh (s:=2) (vs:=[_]) hH fun k73 st Q5 hH=>?_;obtain⟨hev,hl,G_⟩:=kZ (l:=[(48,57)]) (hH.rows at0) (by simp);refine qv hev ?_;refine zQ 3 ?_;refine EvC.ret ⟨rx,_,_,_,rfl,ab (rfl),?_⟩;exact⟨_,_,_,rfl,cC _ _ hv (by simp at hl;omega) (tb (r:=48) (by decide) (by decide) ⟨_,List.mem_cons_self ..,by decide,by decide⟩ G_),a_.af aU (hH.drop 1)⟩
      ·rw[if_neg q4] at hv;refine zQ 5 ?_;refine zI (fun q5=>?_) fun q5=>?_
       ·rw[if_pos q5] at hv;refine zQ 2 ?_;refine EvO.c9 (qs:=[(0,_),(1,_)]) rfl rfl rfl rfl ⟨rfl,(ev rfl),(by rfl),rfl,(ev rfl),(by rfl),trivial⟩ (by intro q hq;simp only[List.mem_cons,List.not_mem_nil,or_false] at hq;rcases hq with rfl|rfl<;>exact⟨rfl,by exact Nat.le_of_ble_eq_true rfl⟩) (by show List.foldl _ [_,_] _=_;dsimp only[List.foldl_cons,List.foldl_nil,u2,u1]<;>rfl) (put_T rfl _) ?_;refine EvO.c9 (qs:=[(0,_),(1,_)]) rfl rfl rfl rfl ⟨rfl,(ev rfl),(by rfl),rfl,(ev rfl),(by rfl),trivial⟩ (by intro q hq;simp only[List.mem_cons,List.not_mem_nil,or_false] at hq;rcases hq with rfl|rfl<;>exact⟨rfl,by exact Nat.le_of_ble_eq_true rfl⟩) (by show List.foldl _ [_,_] _=_;dsimp only[List.foldl_cons,List.foldl_nil,u2,u1]<;>rfl) (put_T rfl _) ?_;refine EvO.c9 (qs:=[(0,_),(1,_)]) rfl rfl rfl rfl ⟨rfl,(ev rfl),(by rfl),rfl,(ev rfl),(by rfl),trivial⟩ (by intro q hq;simp only[List.mem_cons,List.not_mem_nil,or_false] at hq;rcases hq with rfl|rfl<;>exact⟨rfl,by exact Nat.le_of_ble_eq_true rfl⟩) (by show List.foldl _ [_,_] _=_;dsimp only[List.foldl_cons,List.foldl_nil,u2,u1]<;>rfl) (put_T rfl _) ?_;refine qh (s:=2) (vs:=[_,_,_]) hH fun k80 st Q4 hH=>?_;obtain⟨hev,hl,G_⟩:=kZ (l:=[(9,10),(13,13),(32,32)]) (hH.rows at0) (by simp);refine qv hev ?_;refine zQ 3 ?_;refine EvC.ret ⟨rx,_,_,_,rfl,ab (rfl),?_⟩;exact⟨_,_,_,rfl,cC _ _ hv (by simp at hl;omega) (tb (r:=9) (by decide) (by decide) ⟨_,List.mem_cons_self ..,by decide,by decide⟩ G_),a_.af aU (hH.drop 1)⟩
       ·rw[if_neg q5] at hv;refine zQ 5 ?_;refine zI (fun q6=>?_) fun q6=>?_
        ·rw[if_pos q6] at hv;refine zQ 2 ?_;refine EvO.c9 (qs:=[(0,_),(1,_)]) rfl rfl rfl rfl ⟨rfl,(ev rfl),(by rfl),rfl,(ev rfl),(by rfl),trivial⟩ (by intro q hq;simp only[List.mem_cons,List.not_mem_nil,or_false] at hq;rcases hq with rfl|rfl<;>exact⟨rfl,by exact Nat.le_of_ble_eq_true rfl⟩) (by show List.foldl _ [_,_] _=_;dsimp only[List.foldl_cons,List.foldl_nil,u2,u1]<;>rfl) (put_T rfl _) ?_;refine EvO.c9 (qs:=[(0,_),(1,_)]) rfl rfl rfl rfl ⟨rfl,(ev rfl),(by rfl),rfl,(ev rfl),(by rfl),trivial⟩ (by intro q hq;simp only[List.mem_cons,List.not_mem_nil,or_false] at hq;rcases hq with rfl|rfl<;>exact⟨rfl,by exact Nat.le_of_ble_eq_true rfl⟩) (by show List.foldl _ [_,_] _=_;dsimp only[List.foldl_cons,List.foldl_nil,u2,u1]<;>rfl) (put_T rfl _) ?_;refine EvO.c9 (qs:=[(0,_),(1,_)]) rfl rfl rfl rfl ⟨rfl,(ev rfl),(by rfl),rfl,(ev rfl),(by rfl),trivial⟩ (by intro q hq;simp only[List.mem_cons,List.not_mem_nil,or_false] at hq;rcases hq with rfl|rfl<;>exact⟨rfl,by exact Nat.le_of_ble_eq_true rfl⟩) (by show List.foldl _ [_,_] _=_;dsimp only[List.foldl_cons,List.foldl_nil,u2,u1]<;>rfl) (put_T rfl _) ?_;refine EvO.c9 (qs:=[(0,_),(1,_)]) rfl rfl rfl rfl ⟨rfl,(ev rfl),(by rfl),rfl,(ev rfl),(by rfl),trivial⟩ (by intro q hq;simp only[List.mem_cons,List.not_mem_nil,or_false] at hq;rcases hq with rfl|rfl<;>exact⟨rfl,by exact Nat.le_of_ble_eq_true rfl⟩) (by show List.foldl _ [_,_] _=_;dsimp only[List.foldl_cons,List.foldl_nil,u2,u1]<;>rfl) (put_T rfl _) ?_;refine qh (s:=2) (vs:=[_,_,_,_]) hH fun k88 st IE hH=>?_;obtain⟨hev,hl,G_⟩:=kZ (l:=[(48,57),(65,90),(95,95),(97,122)]) (hH.rows at0) (by simp);refine qv hev ?_;refine zQ 3 ?_;refine EvC.ret ⟨rx,_,_,_,rfl,ab (rfl),?_⟩;exact⟨_,_,_,rfl,cC _ _ hv (by simp at hl;omega) (tb (r:=48) (by decide) (by decide) ⟨_,List.mem_cons_self ..,by decide,by decide⟩ G_),a_.af aU (hH.drop 1)⟩
        ·rw[if_neg q6] at hv;refine zQ 5 ?_;refine qv (DY _) ?_;refine zQ 2 ?_;refine EvC.cond (by rfl) (fun q7=>?_) (fun q7=>?_)<;>try simp only[decide_eq_true_eq,decide_eq_false_iff_not,Bool.not_eq_true',Bool.not_eq_false'] at q7
         ·rw[if_neg q7] at hv;refine zQ 4 ?_;obtain⟨_,st,hev,rfl,hH⟩:=dP (s:={s with i:=s.i+1+1}) s.i 4 (by omega) hH;refine qv hev ?_;refine zQ 6 ?_;obtain⟨h1,h2,h3,h4⟩:=fN (aP:=aP) (s:={s with i:=s.i+1+1}) (i:=s.i) (e:=4) he (by decide) hv;refine EvC.ret ⟨rx,_,_,_,rfl,ab (rfl),?_⟩;exact⟨_,_,_,rfl,⟨h3,h4,by rw[h2];show s.i≤s.i+1+1;omega,by rw[h2];show s.i+1+1≤_;omega,.inl ⟨h1,rfl⟩⟩,a_.af aU hH⟩
         ·rw[if_pos q7] at hv;refine zQ 4 ?_;refine qv (iq _) ?_;refine zQ 3 ?_;have hm:=fY ((g.1:Nat):Int) (by omega) (by omega);refine EvC.ret ⟨rx,_,_,_,rfl,ab (rfl),?_⟩;exact⟨_,_,_,rfl,cC _ _ hv hm.1 hm.2,a_.af aU hH⟩
def xq (fr:Go.V.Fr) (k:Nat):Go.V.D:=Go.V.nth .junk fr.loc k
noncomputable def dV (gs:List (Nat×Nat)) (i:Nat):PR (Option (List Rg×Bool)):=
 match gs[i]? with
 |none=>.er 4 i
 |some g=>
  if tQ gs i=true then .er 4 i
  else if((g.1:Nat):Int)=92 then
   match ir gs i with
   | .ok (a,b) j=>.ok (some (a,b)) j
   | .er e w=>.er e w
  else if((g.1:Nat):Int)=91∨((g.1:Nat):Int)=93∨((g.1:Nat):Int)=45 then .ok none i
  else .ok (some ([(((g.1:Nat):Int),((g.1:Nat):Int))],true)) (i+1)
def JB (gs:List (Nat×Nat)) (aP:List Int) (R:PR (Option (List Rg×Bool))) (s s':dI) (d1:D) (b:Bool):Prop:=
 s'.o=s.o∧s'.g=s.g∧s.i≤s'.i∧s'.i≤gs.length∧(ec R aP s'∧d1=.nul∨(s'=s∧R=.ok none s.i∧d1=.nul∧b=false)∨(s'.e=0∧s.i<s'.i∧∃a,R=.ok (some (a,b)) s'.i∧d1=aA a∧a.length≤8∧a≠[]))
theorem uV {N k:Nat} {S s0:St} {H:List bG} {gs:List (Nat×Nat)} {bj:D} {aP:List Int} {s:dI} (hok:kh gs aP) (he:s.e=0) (hi:s.i<gs.length) (hH:Has N S s0 (.box k (.mem 0 false (aG gs bj s))::.lst bj 1 (aP.map ah)::H)):
  ∃d ae,Ev pv 115 [.ptr k 0 0] s0 d ae∧∃(d1:D) (b:Bool) (s':dI),d=.tup [d1,.bool b]∧JB gs aP (dV gs s.i) s s' d1 b∧Has N S ae (.box k (.mem 0 false (aG gs bj s'))::.lst bj 1 (aP.map ah)::H):=by
 have kW:=hok.gl;have hpl:=hok.pl;refine Ev.gT rfl Jn rfl rfl rfl ?_;refine zE ?_;have a_:=hH;have hH:=hH.aY;have aU:(enterSt .rw s0).bs=s0.bs:=rfl;generalize enterSt .rw s0=S2 at*;have Ct:Arg N S2 2 (eo gs) (gs.map aF):=Arg.pure (fun st=>dt st gs)
 obtain⟨g,hg⟩:∃g,gs[s.i]?=some g:=⟨gs[s.i]'hi,List.getElem?_eq_getElem _⟩
 have hr1:(gs.map aF)[s.i]?=some (aF g):=by rw[List.getElem?_map,hg];rfl
 have hv:dV gs s.i=dV gs s.i:=rfl
 conv at hv=>rhs;unfold dV;simp only[hg]
 refine zQ 13 ?_;obtain⟨_,st,hev,rfl,hH⟩:=x7 (s:=s) s.i hi hH;refine qv hev ?_;refine zQ 1 ?_;refine qc (fun hb=>?_) (fun hb=>?_)<;>try simp only[cs] at hb
 ·rw[if_pos hb] at hv;refine zQ 7 ?_;obtain⟨_,st,hev,rfl,hH⟩:=dP (s:=s) s.i 4 (by omega) hH;refine qv hev ?_;refine zQ 6 ?_;obtain⟨h1,h2,h3,h4⟩:=fN (aP:=aP) (s:=s) (i:=s.i) (e:=4) he (by decide) hv;refine EvC.ret ⟨rx,_,_,_,rfl,ab (rfl),?_⟩;exact⟨_,_,_,rfl,⟨h3,h4,by rw[h2];exact Nat.le_refl _,by rw[h2];omega,.inl ⟨h1,rfl⟩⟩,a_.af aU hH⟩
 ·rw[if_neg (by rw[hb];simp)] at hv;refine zQ 11 ?_;refine qr fun JH D'=>?_;refine qf (fo:=0) fun Py Le=>?_;refine zQ 13 ?_;refine zI (fun q1=>?_) fun q1=>?_
  ·rw[if_pos q1] at hv;refine zQ 3 ?_;obtain⟨_,st,hev,d1,b,s',rfl,⟨p1,p2,p3,p4,p5⟩,hH⟩:=uj (s:=s) hok he hi hH;refine qv hev ?_;refine zQ 5 ?_
   rcases p5 with⟨p5,rfl⟩|⟨p5,p6,a,p7,rfl,p8,p9⟩
   ·refine EvC.ret ⟨rx,_,_,_,rfl,ab (rfl),?_⟩;exact⟨_,_,_,rfl,⟨p1,p2,p3,p4,.inl ⟨p5.map fun e w h=>by rw[hv,h],rfl⟩⟩,a_.af aU hH⟩
   ·refine EvC.ret ⟨rx,_,_,_,rfl,ab (rfl),?_⟩;exact⟨_,_,_,rfl,⟨p1,p2,p3,p4,.inr (.inr ⟨p5,p6,a,by rw[hv,p7],rfl,p8,p9⟩)⟩,a_.af aU hH⟩
  ·rw[if_neg q1] at hv;refine zQ 6 ?_
   by_cases wx:((g.1:Nat):Int)=91
   ·rw[if_pos (.inl wx)] at hv;refine qD rfl (by simp[wx]) ?_;refine zQ 1 ?_;refine qD rfl (by simp[wx]) ?_;refine zQ 5 ?_;refine EvC.ret ⟨rx,_,_,_,rfl,ab (rfl),?_⟩;exact⟨_,_,s,rfl,⟨rfl,rfl,Nat.le_refl _,by omega,.inr (.inl ⟨rfl,hv,rfl,rfl⟩)⟩,a_.af aU hH⟩
   refine qE rfl (by simp[wx]) ?_;refine zQ 5 ?_
   by_cases HB:((g.1:Nat):Int)=93
   ·rw[if_pos (.inr (.inl HB))] at hv;refine qD rfl (by simp[HB]) ?_;refine zQ 1 ?_;refine qD rfl (by simp[HB]) ?_;refine zQ 5 ?_;refine EvC.ret ⟨rx,_,_,_,rfl,ab (rfl),?_⟩;exact⟨_,_,s,rfl,⟨rfl,rfl,Nat.le_refl _,by omega,.inr (.inl ⟨rfl,hv,rfl,rfl⟩)⟩,a_.af aU hH⟩
   refine qE rfl (by simp[HB]) ?_;refine zQ 4 ?_
   by_cases EE:((g.1:Nat):Int)=45
   ·rw[if_pos (.inr (.inr EE))] at hv;refine qD rfl (by simp[EE]) ?_;refine zQ 5 ?_;refine EvC.ret ⟨rx,_,_,_,rfl,ab (rfl),?_⟩;exact⟨_,_,s,rfl,⟨rfl,rfl,Nat.le_refl _,by omega,.inr (.inl ⟨rfl,hv,rfl,rfl⟩)⟩,a_.af aU hH⟩
   refine qE rfl (by simp[EE]) ?_;rw[if_neg (by rintro(h|h|h);exact wx h;exact HB h;exact EE h)] at hv;refine zQ 9 ?_;refine qT hH at0 fun st hH=>?_;dsimp only[u2,u1,u3,u4,setMany,u5,u6,D.cells,Nat.reduceAdd,aG,aF,ah,ag] at hH;refine zQ 5 ?_;refine EvO.c9 (qs:=[(0,_),(1,_)]) rfl rfl rfl rfl ⟨rfl,(ev rfl),(by rfl),rfl,(ev rfl),(by rfl),trivial⟩ (by intro q hq;simp only[List.mem_cons,List.not_mem_nil,or_false] at hq;rcases hq with rfl|rfl<;>exact⟨rfl,by exact Nat.le_of_ble_eq_true rfl⟩) (by show List.foldl _ [_,_] _=_;dsimp only[List.foldl_cons,List.foldl_nil,u2,u1]<;>rfl) (put_T rfl _) ?_;refine qh (s:=2) (vs:=[_]) hH fun k39 st Rc hH=>?_;refine zQ 3 ?_;have hH:Has N S2 st (.lst (.win k39 0 0 1 2) 2 (([((g.1:Nat),(g.1:Nat))]:List Rg).map ag)::.box k (.mem 0 false (aG gs bj {s with i:=s.i+1}))::.lst bj 1 (aP.map ah)::H):=hH;have hfz:=gU hH at0 (L:=s0.bs.length) (n:=15) (fun k hk=>by simp only[D.ref] at hk;rw[←aU];omega) (by decide)
   have Gf:aO st s0.bs.length true 16 (lQ [.win k39 0 0 1 2,.bool true])=some (.tup [aA [(((g.1:Nat):Int),((g.1:Nat):Int))],.bool true]):=by
    show(eG (aO st s0.bs.length true 15) [.win k39 0 0 1 2,.bool true]).map D.tup=_;simp only[eG,rW,hfz];rfl
   refine EvC.ret ⟨rx,_,_,_,rfl,ab Gf,⟨_,_,{s with i:=s.i+1},rfl,⟨rfl,rfl,?_,?_,.inr (.inr ⟨he,?_,_,hv,rfl,by simp,by simp⟩)⟩,a_.af aU (hH.drop 1)⟩⟩
   ·show s.i≤s.i+1;omega
   ·show s.i+1≤_;omega
   ·show s.i<s.i+1;omega
def vj:List Rg→Int
 |[]=>0
 |q::_=>q.1
noncomputable def eH (gs:List (Nat×Nat)) (i:Nat):PR (List Rg):=
 match dV gs i with
 | .er e w=>.er e w
 | .ok none _=>.er 4 i
 | .ok (some (a,one)) j=>
  if bJ gs j 45=true then
   if j+1<gs.length then
    match dV gs (j+1) with
    | .er e w=>.er e w
    | .ok none _=>.er 4 i
    | .ok (some (b,two)) l=>if one=true∧two=true∧vj a≤vj b then .ok [(vj a,vj b)] l else .er 4 i
   else .er 4 i
  else .ok a j
def E9 (gs:List (Nat×Nat)) (aP:List Int) (R:PR (List Rg)) (s s':dI) (d:D):Prop:=
 s'.o=s.o∧s'.g=s.g∧s.i≤s'.i∧s'.i≤gs.length∧∃a:List Rg,d=aA a∧a.length≤8∧(ec R aP s'∨s'.e=0∧s.i<s'.i∧R=.ok a s'.i)
theorem B9 {N k:Nat} {S s0:St} {H:List bG} {gs:List (Nat×Nat)} {bj:D} {aP:List Int} {s:dI} (hok:kh gs aP) (he:s.e=0) (hi:s.i<gs.length) (hH:Has N S s0 (.box k (.mem 0 false (aG gs bj s))::.lst bj 1 (aP.map ah)::H)):
  ∃d ae,Ev pv 104 [.ptr k 0 0] s0 d ae∧∃(s':dI),E9 gs aP (eH gs s.i) s s' d∧Has N S ae (.box k (.mem 0 false (aG gs bj s'))::.lst bj 1 (aP.map ah)::H):=by
 have kW:=hok.gl;have hpl:=hok.pl;refine Ev.gT rfl Jq rfl rfl rfl ?_;refine zE ?_;have a_:=hH;have hH:=hH.aY;have aU:(enterSt .rw s0).bs=s0.bs:=rfl;generalize enterSt .rw s0=S2 at*;have Ct:Arg N S2 2 (eo gs) (gs.map aF):=Arg.pure (fun st=>dt st gs)
 have hwr:∀(st:St) (s3:dI),s3.e=0→eH gs s.i=.er 4 s.i→s3.o=s.o→s3.g=s.g→s.i≤s3.i→s3.i≤gs.length→Has N S2 st (.box k (.mem 0 false (aG gs bj s3))::.lst bj 1 (aP.map ah)::H)→∃d ae,Ev pv 45 [.ptr k 0 0,.int .i64 (s.i:Nat),.int .i64 4] st d ae∧d=.sl []∧∃s4:dI,s4.e≠0∧E9 gs aP (eH gs s.i) s s4 (.sl [])∧Has N S2 ae (.box k (.mem 0 false (aG gs bj s4))::.lst bj 1 (aP.map ah)::H):=by
  intro st s3 h1 hv h2 h3 h4 h5 hH;obtain⟨d,ae,hev,h6,hH⟩:=dP (s:=s3) s.i 4 (by omega) hH;obtain⟨w1,w2,w3,w4⟩:=fN (aP:=aP) (s:=s3) (i:=s.i) (e:=4) h1 (by decide) hv;exact⟨d,ae,hev,h6,_,w1.ne,⟨w3.trans h2,w4.trans h3,by omega,by omega,[],rfl,by simp,.inl w1⟩,hH⟩
 have oK:eH gs s.i=match dV gs s.i with
  | .er e w=>.er e w
  | .ok none _=>.er 4 s.i
  | .ok (some (a,one)) j=>
   if bJ gs j 45=true then
    if j+1<gs.length then
     match dV gs (j+1) with
     | .er e w=>.er e w
     | .ok none _=>.er 4 s.i
     | .ok (some (b,two)) l=>if one=true∧two=true∧vj a≤vj b then .ok [(vj a,vj b)] l else .er 4 s.i
    else .er 4 s.i
   else .ok a j:=rfl
 refine zQ 15 ?_;obtain⟨_,st,hev,d1,b,s1,rfl,⟨p1,p2,p3,p4,p5⟩,hH⟩:=uV (s:=s) hok he hi hH;refine qv hev ?_;refine zQ 15 ?_
 rcases p5 with⟨p5,rfl⟩|⟨e1,e2,rfl,rfl⟩|⟨p6,p7,a,e2,rfl,p8,p9⟩
 ·have hne:=p5.ne;refine qD rfl (by simp[hne]) ?_;refine zQ 4 ?_;refine EvC.ret ⟨rx,_,_,_,rfl,ab (rfl),?_⟩;exact⟨s1,⟨p1,p2,p3,p4,[],rfl,by simp,.inl (p5.map fun e w h=>by rw[oK,h])⟩,a_.af aU hH⟩
 ·rw[e2] at oK;simp only at oK;have e3:s1.e=0:=by rw[e1];exact he
  refine qE rfl (by simp[e3]) ?_;refine zQ 5 ?_;refine EvO.go (d:=.bool true) (st1:=_) rfl rfl rfl (put_T rfl _) ?_;refine zQ 6 ?_;obtain⟨_,st,hev,rfl,s4,QO,hX,hH⟩:=hwr _ s1 e3 oK p1 p2 p3 p4 hH;refine qv hev ?_;refine zQ 5 ?_;refine EvC.ret ⟨rx,_,_,_,rfl,ab (rfl),?_⟩;exact⟨s4,hX,a_.af aU hH⟩
 ·rw[e2] at oK;simp only at oK;obtain⟨q,a',rfl⟩:∃q a',a=q::a':=List.exists_cons_of_ne_nil p9;refine qE rfl (by simp[p6]) ?_;refine zQ 5 ?_;refine EvO.go (d:=.bool false) (st1:=_) rfl rfl rfl (put_T rfl _) ?_;refine zQ 3 ?_;obtain⟨k1,k2,k3,k4,k5⟩:=fV (gs:=gs) (s:=s1) (r:=45);have k5:=k5 p4;refine zQ 4 ?_;obtain⟨_,st,hev,rfl,hH⟩:=dC (s:=s1) (by omega) 45 hH;refine qv hev ?_;refine zQ 2 ?_;have FN:bJ gs s1.i 45=true→(bE gs s1 45).i=s1.i+1:=fun h=>by unfold bE;rw[if_pos h]
  have KG:bJ gs s1.i 45=false→(bE gs s1 45).i=s1.i:=fun h=>by unfold bE;rw[if_neg (by rw[h];simp)]
  generalize bE gs s1 45=s2 at*
  cases hb:bJ gs s1.i 45 with
  |false=>
   have KG:=KG hb;rw[hb,if_neg (by simp),←KG] at oK;refine zQ 6 ?_;refine EvC.ret ⟨rx,_,_,_,rfl,ab (rfl),?_⟩;exact⟨s2,⟨k1.trans p1,k2.trans p2,by omega,k5,q::a',rfl,p8,.inr ⟨k3.trans p6,by omega,oK⟩⟩,a_.af aU hH⟩
  |true=>
   have FN:=FN hb;rw[hb,if_pos rfl,←FN] at oK;refine zQ 21 ?_;refine qn ?_;simp only[List.length_map];refine zQ 2 ?_;refine EvC.merge (fun fr st=>∃(d2:D) (two:Bool) (s3:dI) (tmp:List (Nat×D)),fr=⟨8,[.ptr k 0 0,xq fr 1,xq fr 2,.int .i64 (s.i:Nat),aA (q::a'),.bool b,d2,.bool two],tmp⟩∧Has N S2 st (.box k (.mem 0 false (aG gs bj s3))::.lst bj 1 (aP.map ah)::H)∧(s3.o=s.o)∧(s3.g=s.g)∧(s2.i≤s3.i)∧(s3.i≤gs.length)∧(ec (eH gs s.i) aP s3∨s3.e=0∧(two=false∧eH gs s.i=.er 4 s.i∨∃a2:List Rg,d2=aA a2∧a2≠[]∧eH gs s.i=if b=true∧two=true∧vj (q::a')≤vj a2 then .ok [(vj (q::a'),vj a2)] s3.i else .er 4 s.i))) ?_ ?_
   ·refine zP (fun hlt=>?_) fun hlt=>?_
    ·have IB:s2.i<gs.length:=by omega
     rw[if_pos IB] at oK;refine zQ 2 ?_;obtain⟨_,st,hev,d2,two,s3,rfl,⟨r1,r2,r3,r4,r5⟩,hH⟩:=uV (s:=s2) hok (k3.trans p6) (by omega) hH;refine qv hev ?_;refine zQ 6 ?_
     rcases r5 with⟨r5,rfl⟩|⟨e4,e5,rfl,rfl⟩|⟨r6,r7,a2,e5,rfl,r8,r9⟩
     ·exact⟨.nul,two,s3,_,rfl,hH,r1.trans (k1.trans p1),r2.trans (k2.trans p2),r3,r4,.inl (r5.map fun e w h=>by rw[oK,h])⟩
     ·rw[e5] at oK;simp only at oK;exact⟨.nul,false,s3,_,rfl,hH,r1.trans (k1.trans p1),r2.trans (k2.trans p2),r3,r4,.inr ⟨by rw[e4];exact k3.trans p6,.inl ⟨rfl,oK⟩⟩⟩
     ·rw[e5] at oK;simp only at oK;exact⟨aA a2,two,s3,_,rfl,hH,r1.trans (k1.trans p1),r2.trans (k2.trans p2),r3,r4,.inr ⟨r6,.inr ⟨a2,rfl,r9,oK⟩⟩⟩
    ·rw[if_neg (by omega)] at oK;refine zQ 1 ?_;exact⟨.nul,false,s2,_,rfl,hH,k1.trans p1,k2.trans p2,Nat.le_refl _,k5,.inr ⟨k3.trans p6,.inl ⟨rfl,oK⟩⟩⟩
   ·rintro fr st ⟨d2,two,s3,tmp,hfr,hH,h1,h2,h3,h4,h5⟩;rw[hfr];clear hfr;generalize xq fr=ee;clear fr
    rcases h5 with h5|⟨h5,h6⟩
    ·have hne:=h5.ne;have cQ:(s3.e==0)=false:=by simpa using hne
     refine zQ 39 ?_;refine qD rfl (by simp[hne]) ?_;refine zQ 4 ?_;refine EvC.ret ⟨rx,_,_,_,rfl,ab (rfl),?_⟩;exact⟨s3,⟨h1,h2,by omega,h4,[],rfl,by simp,.inl h5⟩,a_.af aU hH⟩
    ·have cQ:(s3.e==0)=true:=by simpa using h5
     cases b with
     |false=>
      have oJ:eH gs s.i=.er 4 s.i:=by
       rcases h6 with⟨_,h⟩|⟨a2,_,_,h⟩
       ·exact h
       ·rw[h,if_neg (by simp)]
      have hg8:(!false)=true:=rfl;refine zQ 14 ?_;refine EvO.pickT (wantD_is rfl rfl rfl cQ) rfl hg8 (put_T rfl _) ?_;refine zQ 17 ?_;obtain⟨_,st,hev,rfl,s4,w1,hX,hH⟩:=hwr _ s3 h5 oJ h1 h2 (by omega) h4 hH;refine qv hev ?_;refine zQ 10 ?_;refine qD rfl (by simp[w1]) ?_;refine zQ 4 ?_;refine EvC.ret ⟨rx,_,_,_,rfl,ab (rfl),?_⟩;exact⟨s4,hX,a_.af aU hH⟩
     |true=>
      have hg8:(!true)=false:=rfl
      cases two with
      |false=>
       have oJ:eH gs s.i=.er 4 s.i:=by
        rcases h6 with⟨_,h⟩|⟨a2,_,_,h⟩
        ·exact h
        ·rw[h,if_neg (by simp)]
       have gB:(!false)=true:=rfl;refine zQ 14 ?_;refine EvO.pickF (wantD_is rfl rfl rfl cQ) rfl hg8 (put_T rfl _) ?_;refine zQ 10 ?_;refine EvO.pickT (wantD_is rfl rfl rfl cQ) rfl gB (put_T rfl _) ?_;refine zQ 6 ?_;obtain⟨_,st,hev,rfl,s4,w1,hX,hH⟩:=hwr _ s3 h5 oJ h1 h2 (by omega) h4 hH;refine qv hev ?_;refine zQ 10 ?_;refine qD rfl (by simp[w1]) ?_;refine zQ 4 ?_;refine EvC.ret ⟨rx,_,_,_,rfl,ab (rfl),?_⟩;exact⟨s4,hX,a_.af aU hH⟩
      |true=>
       have gB:(!true)=false:=rfl
       obtain⟨a2,rfl,h7,oJ⟩:∃a2:List Rg,d2=aA a2∧a2≠[]∧eH gs s.i=if true=true∧true=true∧vj (q::a')≤vj a2 then .ok [(vj (q::a'),vj a2)] s3.i else .er 4 s.i:=by
        rcases h6 with h6|h6
        ·cases h6.1
        ·exact h6
       obtain⟨q2,O4,rfl⟩:∃q a',a2=q::a':=List.exists_cons_of_ne_nil h7
       have oJ:eH gs s.i=if q.1≤q2.1 then .ok [(q.1,q2.1)] s3.i else .er 4 s.i:=by
        rw[oJ];simp[vj]
       have wB:=(dr (q::a')).arg N S2;have Qf:=(dr (q2::O4)).arg N S2;have KR:((q::a').map ag)[0]?=some (ag q):=rfl;have hr1:((q2::O4).map ag)[0]?=some (ag q2):=rfl;refine zQ 14 ?_;refine EvO.pickF (wantD_is rfl rfl rfl cQ) rfl hg8 (put_T rfl _) ?_;refine zQ 2 ?_;refine qr (fun SF QB=>?_) (hg:=wi gB);refine qf (fo:=0) (fun SE QA=>?_) (hg:=wi gB);refine zQ 2 ?_;refine qr (fun N6 Ih=>?_) (hg:=wi gB);refine qf (fo:=0) (fun SB Qx=>?_) (hg:=wi gB);refine zQ 2 ?_;refine EvO.pickF (wantD_is rfl rfl rfl cQ) rfl gB (put_T rfl _) ?_;refine zQ 2 ?_;refine zP (fun IW=>?_) fun IW=>?_
       ·rw[if_neg (by omega)] at oJ;refine zQ 3 ?_;obtain⟨_,st,hev,rfl,s4,w1,hX,hH⟩:=hwr _ s3 h5 oJ h1 h2 (by omega) h4 hH;refine qv hev ?_;refine zQ 10 ?_;refine qD rfl (by simp[w1]) ?_;refine zQ 4 ?_;refine EvC.ret ⟨rx,_,_,_,rfl,ab (rfl),?_⟩;exact⟨s4,hX,a_.af aU hH⟩
       ·rw[if_pos (by omega)] at oJ;refine zQ 10 ?_;refine qE rfl (by simp[h5]) ?_;refine zQ 4 ?_;refine qr fun N5 Ie=>?_;refine qf (fo:=0) fun Pn K6=>?_;refine zQ 2 ?_;refine qr fun Sw Qs=>?_;refine qf (fo:=0) fun Sv Qr=>?_;refine qR ?_;refine EvO.c9 (qs:=[(0,_),(1,_)]) rfl rfl rfl rfl ⟨rfl,(ev rfl),(by rfl),rfl,(ev rfl),(by rfl),trivial⟩ (by intro q hq;simp only[List.mem_cons,List.not_mem_nil,or_false] at hq;rcases hq with rfl|rfl<;>exact⟨rfl,by exact Nat.le_of_ble_eq_true rfl⟩) (by show List.foldl _ [_,_] _=_;dsimp only[List.foldl_cons,List.foldl_nil,u2,u1]<;>rfl) (put_T rfl _) ?_;refine qh (s:=2) (vs:=[_]) hH fun k87 st Q1 hH=>?_;dsimp only[u2,u1,u3,u4,setMany,u5,u6,D.cells,Nat.reduceAdd,aG,aF,ah,ag] at hH;refine zQ 2 ?_;have hH:Has N S2 st (.lst (.win k87 0 0 1 2) 2 (([(q.1,q2.1)]:List Rg).map ag)::.box k (.mem 0 false (aG gs bj s3))::.lst bj 1 (aP.map ah)::H):=hH;have hfz:=gU hH at0 (L:=s0.bs.length) (n:=16) (fun k hk=>by simp only[D.ref] at hk;rw[←aU];omega) (by decide);refine EvC.ret ⟨rx,_,_,_,rfl,ab hfz,⟨s3,⟨h1,h2,by omega,h4,[(q.1,q2.1)],rfl,by simp,.inr ⟨h5,by omega,oJ⟩⟩,a_.af aU (hH.drop 1)⟩⟩
end Go.Proofs.YtajblankjjmonaaGreat
