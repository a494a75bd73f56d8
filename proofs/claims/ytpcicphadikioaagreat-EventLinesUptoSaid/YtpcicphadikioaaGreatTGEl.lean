/-
 simple: a repeat made less.
-/
import Derived.Test.YtpcicphadikioaaGreatTGHr
import Derived.Test.YtpcicphadikioaaGreatTGEe
import Derived.Test.YtpcicphadikioaaGreatTM2
import Derived.Test.YtpcicphadikioaaGreatTGJh
import Derived.Test.YtpcicphadikioaaGreatTGUa
import Derived.Test.YtpcicphadikioaaGreatTDig
set_option maxRecDepth 100000
set_option maxHeartbeats 4000000
set_option linter.unusedSimpArgs false
set_option linter.unusedVariables false
set_option linter.unusedSectionVars false
namespace Go.Proofs.YtpcicphadikioaaGreat
open Go.V Go
def yH (fr:Go.V.Fr) (k:Nat):Go.V.D:=Go.V.nth .aY fr.loc k
def I0 (n:bn):bn:={n with lz:=n.lz &&n.mn !=n.mx}
def Hh (n:bn) (k:Tr) (l:List Tr):Tr:=
 if k.n.op=1 then k
 else if n.mn=1∧n.mx=1 then k
 else if n.mx=0∧k.qQ=false then AG 1 []
 else if(gH n &&(gH k.n &&z6 k.ks))=true then .mk {k.n with mn:=k.n.mn*n.mn} (dH k.ks)
 else .mk n (dH l)
theorem Js (n:bn) (k:Tr) (l:List Tr):vG n k l=Hh (I0 n) k l:=rfl
theorem Hw (n:bn) (l:List Tr):tC (.mk n (dH l))=bR n (dq l):=by unfold tC;simp only[Tr.n,Tr.ks,lh]
theorem Hv (a b:Int) (ha:0≤a∧a≤1) (hb:0≤b∧b≤1) (st:St):(kY pv .mul 3 (.int .i64 a) (.int .i64 b)).map (fun d=>(d,st))=some (.int .i64 (a*b),st):=by
 have h1:a*b=0∨a*b=1:=by
  rcases(show a=0∨a=1 by omega) with rfl|rfl
  ·simp
  ·rw[Int.one_mul];omega
 show some (D.int .i64 (bj .i64 (a*b)),st)=_;rw[wrap_i64 (by omega) (by omega)]
theorem o_ {n:bn} (h:gH n=true):n.op=5∧n.mn≤1:=by
 unfold gH at h;simp only[Bool.and_eq_true,beq_iff_eq,decide_eq_true_eq] at h;exact⟨h.1.1.1,h.2⟩
def Fh (n:bn) (x:D) (k:Tr):List D:=
 if k.n.op=1 then tC k
 else if n.mn=1∧n.mx=1 then tC k
 else if n.mx=0∧k.qQ=false then tC (AG 1 [])
 else if(gH n &&(gH k.n &&z6 k.ks))=true then bR {k.n with mn:=k.n.mn*n.mn} (dq k.ks)
 else bR n x
theorem AU {n:bn} {x:D} {k:Tr} {l:List Tr} (hn:n.rd=aL n.rs) (hk:k.fa lY):∃n' y,Fh n x k=bR n' y∧∀st N,aB st N false 15 x=some (dq l)→aB st N false 16 (.agg (bR n' y))=some (.agg (tC (Hh n k l))):=by
 have Nn:=(Tr.dQ.1 hk).1.1;unfold Fh Hh
 split
 ·exact⟨k.n,dq k.ks,rfl,fun st N _=>gg hk _ _ _⟩
 split
 ·exact⟨k.n,dq k.ks,rfl,fun st N _=>gg hk _ _ _⟩
 split
 ·exact⟨EV 1,dq [],rfl,fun st N _=>rfl⟩
 split
 ·refine⟨_,_,rfl,fun st N _=>?_⟩;rw[Hw];unfold bR;dsimp only;rw[Nn];rfl
 ·refine⟨_,_,rfl,fun st N h=>?_⟩;rw[Hw];show(cH (aB st N false 15) (bR n x)).map D.agg=_;unfold bR;simp only[cH,h,hn]
  rfl
theorem ye {s0:St} {n0:bn} {x:D} {k:Tr} {l0:List Tr} (rK:V.Rows s0 8 x ((k::l0).map tC)) (Sn:n0.rd=aL n0.rs) (rL:jP (k::l0)) (hcl:bO (k::l0)≤1048575) (h5:0≤n0.mn) (DQ:k.n.op=5→k.ks≠[]∧0≤k.n.mn):Ev pv 52 [.agg (bR n0 x)] s0 (.agg (Fh (I0 n0) x k)) s0:=by
 have NL:=og rK (Nat.le_refl _) (by simp);have Ks:k∈k::l0:=List.mem_cons_self ..;have DP:=rL k Ks;have Sy:=eH Ks;have gJ:((k::l0).map tC)[0]?=some (tC k):=rfl;have xH:=fun st=>s9 _ k (Nat.le_refl _) (by omega) DP st
 obtain⟨n,hn⟩:∃n,n=I0 n0:=⟨_,rfl⟩
 have Nf:n.rd=aL n.rs:=by rw[hn];exact Sn
 have Sm:0≤n.mn:=by rw[hn];exact h5
 rw[←hn];refine Ev.jL rfl ON rfl rfl rfl ?_;refine zE ?_;obtain⟨aW,hF,hH⟩:=ri s0;generalize ai .ro s0=S at*;have mD:=Arg.of rK aW;refine zQ 2 ?_;refine qb hH fun k1 st lL hH=>?_;dsimp only[u2,u1,u3,u4,setMany,u5,u6,D.cells,Nat.reduceAdd,tC,bR,aE] at hH;refine qa hH fun k2 st hk2 hH=>?_;refine zQ 2 ?_;refine ag.merge (fun fr st=>∃(tmp:List (Nat×D)),fr=⟨4,[yH fr 0,.ptr k1 0 0,.ptr k2 0 0,yH fr 3],tmp⟩∧Has s0.bs.length S st (.box k2 (.mem 0 false tz)::.box k1 (.mem 0 false (bR n x))::[])∧(True)) ?_ ?_
 ·cases Lx:n0.lz with
  |true=>
   have dK:n0.lz=true:=Lx;refine zQ 15 ?_;refine qT hH aV fun st hH=>?_;dsimp only[u2,u1,u3,u4,setMany,u5,u6,D.cells,Nat.reduceAdd,tC,bR,aE] at hH;refine zQ 1 ?_
   have gr:bR n x=[.int .i64 n0.op,n0.rd,.int .i64 n0.mn,.int .i64 n0.mx,.bool (n0.mn !=n0.mx),.int .i64 n0.cap,.int .i64 n0.kids,x]:=by
    rw[hn];unfold bR I0;dsimp only;rw[Lx];rfl
   exact⟨_,rfl,(by rw[gr];exact hH),trivial⟩
  |false=>
   have dK:n0.lz=false:=Lx;refine zQ 15 ?_;refine qT hH aV fun st hH=>?_;dsimp only[u2,u1,u3,u4,setMany,u5,u6,D.cells,Nat.reduceAdd,tC,bR,aE] at hH;refine zQ 1 ?_
   have gr:bR n x=[.int .i64 n0.op,n0.rd,.int .i64 n0.mn,.int .i64 n0.mx,.bool false,.int .i64 n0.cap,.int .i64 n0.kids,x]:=by
    rw[hn];unfold bR I0;dsimp only;rw[Lx];rfl
   exact⟨_,rfl,(by rw[gr];exact hH),trivial⟩
 rintro fr st ⟨tmp,hfr,hH,ht⟩;rw[hfr];clear hfr;generalize yH fr=ee;clear fr;have DL:=fun st=>zH (s0:=st) (n:=n);have DK:=fun st=>zH (s0:=st) (n:=k.n)
 have Ie:∀(st:St),aB st s0.bs.length false 16 (.agg (bR n x))=some (.agg (bR n x)):=fun st=>by
  show(cH (aB st s0.bs.length false 15) (bR n x)).map D.agg=_;unfold bR;simp only[cH,NL st 14,Nf]
  rfl
 refine zQ 4 ?_;refine qr fun Jz DJ=>?_;refine ae.cJ rfl (ev rfl) (by assumption) rfl (aa rfl _) ?_;refine qa hH fun k3 st Ib hH=>?_;dsimp only[u2,u1,u3,u4,setMany,u5,u6,D.cells,Nat.reduceAdd,tC,bR,aE] at hH;refine qS hH aG fun st hH=>?_;dsimp only[u2,u1,u3,u4,setMany,u5,u6,D.cells,Nat.reduceAdd,tC,bR,aE] at hH;refine zQ 1 ?_;have hH:Has s0.bs.length S st (.box k3 (.mem 0 false (tC k))::.box k2 (.mem 0 false tz)::.box k1 (.mem 0 false (bR n x))::[]):=hH;unfold Fh;refine zQ 10 ?_
 by_cases h1:k.n.op=1
 ·have hc:(k.n.op==1)=true:=by simpa using h1
  rw[if_pos h1];refine qD rfl (by rw[hc]) ?_;refine zQ 2 ?_;refine ae.aO (m:=8) (r:=tC k) hH rfl (ev rfl) aG rfl rfl rfl (aa rfl _) ?_;refine ae.bP hH rfl (ev rfl) (ev rfl) rfl (by exact rfl) aV (by exact rfl) (.inl hF) (fun st hH=>?_);dsimp only[u1,u2] at hH;refine zQ 1 ?_;exact ag.ret ⟨rx,_,hH.cB rfl aV rfl,rl aW hH (gg DP _ _ _)⟩
 have hc:(k.n.op==1)=false:=by simpa using h1
 rw[if_neg h1];refine qE rfl (by rw[hc]) ?_;refine qq<|ag.mJ 28 (.bool (n.mn==1 &&n.mx==1)) [] ?_ (fun ff tmp fg=>?_)
 ·refine zQ 5 ?_;refine ae.two 33 rfl (fun gP=>?_) (fun gP=>?_)
  ·refine zQ 6 ?_;refine ae.nil (dn ?_ ?_)
   ·dsimp only[bd,List.foldl,nth,u2,u1]
    all_goals(first|rfl|simp)
   ·refine zF ?_
    all_goals(simp[gP];done)
  ·refine zQ 6 ?_;refine ae.nil (dn ?_ ?_)
   ·dsimp only[bd,List.foldl,nth,u2,u1]
    all_goals(first|rfl|simp)
   ·refine zF ?_
    all_goals(simp[gP];done)
 dsimp only[bd,List.foldl,nth,u2,u1]
 by_cases h2:n.mn=1∧n.mx=1
 ·have oC:(n.mn==1 &&n.mx==1)=true:=by rw[Bool.and_eq_true,beq_iff_eq,beq_iff_eq];exact h2
  rw[if_pos h2];rw[oC] at fg;refine zQ 3 ?_;refine ae.aO (m:=8) (r:=tC k) hH rfl (ev rfl) aG rfl rfl rfl (aa rfl _) ?_;refine ae.bP hH rfl (ev rfl) (ev rfl) rfl (by exact rfl) aV (by exact rfl) (.inl hF) (fun st hH=>?_);dsimp only[u1,u2] at hH;refine zQ 1 ?_;exact ag.ret ⟨rx,_,hH.cB rfl aV rfl,rl aW hH (gg DP _ _ _)⟩
 have oC:(n.mn==1 &&n.mx==1)=false:=by
  rw[Bool.eq_false_iff];intro h;rw[Bool.and_eq_true,beq_iff_eq,beq_iff_eq] at h;exact h2 h
 rw[if_neg h2];rw[oC] at fg;refine qC ?_;clear fg;refine qq<|ag.mJ 40 (.bool (n.mx==0 &&!k.qQ)) [] ?_ (fun ff tmp fg=>?_)
 ·refine zQ 5 ?_;refine ae.two 45 rfl (fun gP=>?_) (fun gP=>?_)
  ·refine ae.aO (m:=8) hH (aj rfl rfl rfl gP) (ev rfl) (by exact aG) (by dsimp only[List.drop_succ_cons,List.drop_zero,List.take_succ_cons,List.take_zero,tC,bR,aE]<;>rfl) rfl rfl (aa rfl _) ?_;refine qv ((xH _)) ?_ (hg:=wi gP);refine zQ 3 ?_;refine ae.nil (dn ?_ ?_)
   ·dsimp only[bd,List.foldl,nth,u2,u1]
    all_goals(first|rfl|simp)
   ·refine zF ?_
    all_goals(simp[gP];done)
  ·refine zQ 5 ?_;refine ae.nil (dn ?_ ?_)
   ·dsimp only[bd,List.foldl,nth,u2,u1]
    all_goals(first|rfl|simp)
   ·refine zF ?_
    all_goals(simp[gP];done)
 dsimp only[bd,List.foldl,nth,u2,u1]
 by_cases h3:n.mx=0∧k.qQ=false
 ·have KM:(n.mx==0 &&!k.qQ)=true:=by rw[Bool.and_eq_true,beq_iff_eq,h3.2];exact⟨h3.1,rfl⟩
  rw[if_pos h3];rw[KM] at fg;refine zQ 3 ?_;refine ae.go (d:=.agg [.int .i64 1,.nul,.int .i64 0,.int .i64 0,.bool false,.int .i64 0,.int .i64 0]) (st1:=_) rfl rfl rfl (aa rfl _) ?_;refine ae.go (d:=.agg [.int .i64 1,.nul,.int .i64 0,.int .i64 0,.bool false,.int .i64 0,.int .i64 0,.nul]) (st1:=_) rfl rfl rfl (aa rfl _) ?_;refine ae.bP hH rfl (ev rfl) (ev rfl) rfl (by exact rfl) aV (by exact rfl) (.inl hF) (fun st hH=>?_);dsimp only[u1,u2] at hH;refine zQ 1 ?_;exact ag.ret ⟨rx,_,hH.cB rfl aV rfl,rl aW hH rfl⟩
 have KM:(n.mx==0 &&!k.qQ)=false:=by
  rw[Bool.eq_false_iff];intro h;rw[Bool.and_eq_true,beq_iff_eq] at h;exact h3 ⟨h.1,by simpa using h.2⟩
 rw[if_neg h3];rw[KM] at fg;refine qC ?_;clear fg
 cases h4:gH n with
 |false=>
  rw[Bool.false_and,if_neg (by simp)];have dK:gH n=false:=h4;have dv:false=false:=rfl;refine qq<|ag.mJ 52 (.bool false) [] ?_ (fun ff tmp fg=>?_)
  ·refine zQ 1 ?_;refine ae.aO (m:=7) hH rfl (ev rfl) (by exact b8) (by dsimp only[List.drop_succ_cons,List.drop_zero,List.take_succ_cons,List.take_zero,tC,bR,aE]<;>rfl) rfl rfl (aa rfl _) ?_;refine qv ((DL _)) ?_;refine zQ 15 ?_;refine ae.nil (dn ?_ ?_)
   ·dsimp only[bd,List.foldl,nth,u2,u1]
    all_goals(first|rfl|simp)
   ·exact zS
    all_goals(first|rfl|(simp[dK,dv];done)|(simp_all;done)|(simp[dK,dv];omega)|(simp_all;omega))
  dsimp only[bd,List.foldl,nth,u2,u1];refine zQ 4 ?_;refine ae.aO (m:=8) (r:=bR n x) hH rfl (ev rfl) b8 rfl rfl rfl (aa rfl _) ?_;refine ae.bP hH rfl (ev rfl) (ev rfl) rfl (by exact rfl) aV (by exact rfl) (.inl hF) (fun st hH=>?_);dsimp only[u1,u2] at hH;refine zQ 1 ?_;exact ag.ret ⟨rx,_,hH.cB rfl aV rfl,rl aW hH (Ie _)⟩
 |true=>
  rw[Bool.true_and];have dK:gH n=true:=h4
  cases K2:gH k.n with
  |false=>
   rw[Bool.false_and,if_neg (by simp)];have dv:gH k.n=false:=K2;refine qq<|ag.mJ 52 (.bool false) [] ?_ (fun ff tmp fg=>?_)
   ·refine zQ 1 ?_;refine ae.aO (m:=7) hH rfl (ev rfl) (by exact b8) (by dsimp only[List.drop_succ_cons,List.drop_zero,List.take_succ_cons,List.take_zero,tC,bR,aE]<;>rfl) rfl rfl (aa rfl _) ?_;refine qv ((DL _)) ?_;refine zQ 2 ?_;refine ae.aO (m:=7) hH (aj rfl rfl rfl dK) (ev rfl) (by exact aG) (by dsimp only[List.drop_succ_cons,List.drop_zero,List.take_succ_cons,List.take_zero,tC,bR,aE]<;>rfl) rfl rfl (aa rfl _) ?_;refine qv ((DK _)) ?_ (hg:=wi dK);refine zQ 11 ?_;refine ae.nil (dn ?_ ?_)
    ·dsimp only[bd,List.foldl,nth,u2,u1]
     all_goals(first|rfl|simp)
    ·exact zS
     all_goals(first|rfl|(simp[dK,dv];done)|(simp_all;done)|(simp[dK,dv];omega)|(simp_all;omega))
   dsimp only[bd,List.foldl,nth,u2,u1];refine zQ 4 ?_;refine ae.aO (m:=8) (r:=bR n x) hH rfl (ev rfl) b8 rfl rfl rfl (aa rfl _) ?_;refine ae.bP hH rfl (ev rfl) (ev rfl) rfl (by exact rfl) aV (by exact rfl) (.inl hF) (fun st hH=>?_);dsimp only[u1,u2] at hH;refine zQ 1 ?_;exact ag.ret ⟨rx,_,hH.cB rfl aV rfl,rl aW hH (Ie _)⟩
  |true=>
   rw[Bool.true_and];have dv:gH k.n=true:=K2;obtain⟨xE,uF⟩:=o_ K2;obtain⟨Np,Nq⟩:=DQ xE
   obtain⟨kk,kl,hkk⟩:∃kk kl,k.ks=kk::kl:=by
    cases hk:k.ks with
    |nil=>exact absurd hk Np
    |cons a b=>exact⟨a,b,rfl⟩
   have Nr:jP k.ks:=(Tr.dQ.1 DP).2;have SA:Arg s0.bs.length S 8 (dq k.ks) (k.ks.map tC):=Arg.of (dY s0 Nr) aW;have m_:(k.ks.map tC)[0]?=some (tC kk):=by rw[hkk];rfl
   have uI:z6 k.ks=(kk.n.op==2):=by rw[hkk];rfl
   rw[uI];refine qq<|ag.mJ 52 (.bool (kk.n.op==2)) [] ?_ (fun ff tmp fg=>?_)
   ·refine zQ 1 ?_;refine ae.aO (m:=7) hH rfl (ev rfl) (by exact b8) (by dsimp only[List.drop_succ_cons,List.drop_zero,List.take_succ_cons,List.take_zero,tC,bR,aE]<;>rfl) rfl rfl (aa rfl _) ?_;refine qv ((DL _)) ?_;refine zQ 2 ?_;refine ae.aO (m:=7) hH (aj rfl rfl rfl dK) (ev rfl) (by exact aG) (by dsimp only[List.drop_succ_cons,List.drop_zero,List.take_succ_cons,List.take_zero,tC,bR,aE]<;>rfl) rfl rfl (aa rfl _) ?_;refine qv ((DK _)) ?_ (hg:=wi dK);refine zQ 4 ?_;refine qr (fun PO J0=>?_) (hg:=wi dv);refine qf (fo:=0) (fun Q5 MV=>?_) (hg:=wi dv);refine qf (fo:=0) (fun Ub Sa=>?_) (hg:=wi dv);refine zQ 4 ?_;refine ae.nil (dn ?_ ?_)
    ·dsimp only[bd,List.foldl,nth,u2,u1]
     all_goals(first|rfl|simp)
    ·exact zS
     all_goals(first|rfl|(simp[dK,dv];done)|(simp_all;done)|(simp[dK,dv];omega)|(simp_all;omega))
   dsimp only[bd,List.foldl,nth,u2,u1]
   cases h6:(kk.n.op==2) with
   |false=>
    rw[if_neg (by simp)];rw[h6] at fg;refine zQ 4 ?_;refine ae.aO (m:=8) (r:=bR n x) hH rfl (ev rfl) b8 rfl rfl rfl (aa rfl _) ?_;refine ae.bP hH rfl (ev rfl) (ev rfl) rfl (by exact rfl) aV (by exact rfl) (.inl hF) (fun st hH=>?_);dsimp only[u1,u2] at hH;refine zQ 1 ?_;exact ag.ret ⟨rx,_,hH.cB rfl aV rfl,rl aW hH (Ie _)⟩
   |true=>
    rw[if_pos rfl];rw[h6] at fg;refine qB ?_;obtain⟨u7,gr⟩:=o_ h4;have hmul:=Hv k.n.mn n.mn ⟨Nq,uF⟩ ⟨Sm,gr⟩;refine zQ 8 ?_;refine ae.go (d:=.int .i64 (k.n.mn*n.mn)) (st1:=_) rfl rfl (hmul _) (aa rfl _) ?_;refine zQ 2 ?_;refine qT hH aG fun st hH=>?_;dsimp only[u2,u1,u3,u4,setMany,u5,u6,D.cells,Nat.reduceAdd,tC,bR,aE] at hH;refine zQ 1 ?_;have Nk:=(Tr.dQ.1 DP).1.1;have hH:Has s0.bs.length S st (.box k3 (.mem 0 false (bR {k.n with mn:=k.n.mn*n.mn} (dq k.ks)))::.box k2 (.mem 0 false tz)::.box k1 (.mem 0 false (bR n x))::[]):=hH;refine zQ 2 ?_;refine ae.aO (m:=8) (r:=bR {k.n with mn:=k.n.mn*n.mn} (dq k.ks)) hH rfl (ev rfl) aG rfl rfl rfl (aa rfl _) ?_;refine ae.bP hH rfl (ev rfl) (ev rfl) rfl (by exact rfl) aV (by exact rfl) (.inl hF) (fun st hH=>?_);dsimp only[u1,u2] at hH;refine zQ 1 ?_;exact ag.ret ⟨rx,_,hH.cB rfl aV rfl,rl aW hH (by unfold bR;dsimp only;rw[Nk];rfl)⟩
end Go.Proofs.YtpcicphadikioaaGreat
namespace Go.V
variable{P:Pv} {ops:Array Oper} {rest:List Oper} {fr aA:Fr} {st:St} {Q:Fr→St→Prop} {ty:TypeId} {pp:String} {a:Array Edge} {g:Option (Nat×Bool)} {dst:Nat}
variable{N:Nat} {S:St} {H:List bh}
theorem Has.Gw {j:Nat} {x y:D} {s:Nat} {es ys:List (List D)} (hH:Has N S st H) (hj:H[j]?=some (.aD x s es)) (gO:kR st y=some (ys.length,ys.flatten)) (wL:∀e∈ys,e.length=s) {t1 t2 e:TypeId} {td:TypeDesc} {inf:TypeInfo} {z:List D}
  (h1:P.bY t1=some (.slice e)) (h2:P.bY t2=some td) (h3:eT td=false) (h4:P.info e=some inf) (h5:cE P e=some z) (h6:inf.size=s) (h7:z.length=s) (h8:0<inf.bytes∧inf.bytes≤1024)
  (hb1:inf.bytes=1) (oQ:es.length+ys.length≤1099511627776) (hw:S.flr≤N∨refs ys.flatten=0):
  ∃x' ah,aS P .append [t1,t2] [x,y] st=some (x',ah)∧Has N S ah (H.set j (.aD x' s (es++ys)))∧(ys=[]→x'=x):=by
 have hb:(es.length+ys.length)*inf.bytes≤1099511627776:=by rw[hb1,Nat.mul_one];exact oQ
 have iU:=bN wL;have hown:=hH.own hj;have hkk:=(hH.ok j _ hj).2;have hS:=hH.len;have TF:=hH.hN;subst h6;simp only[aS,cN,h1,h2,h3,Bool.false_eq_true,if_false,h4,h5,gO,Option.bind_some];rw[if_neg (by rintro(h|h|h);exact h iU;exact absurd h (by omega);exact h h7)]
 have fh:∀e,H[j]?=some e→H.set j e=H:=fun e he=>by
  apply List.ext_getElem?;intro i
  by_cases hij:i=j
  ·subst hij
   have:i<H.length:=by
    rcases Nat.lt_or_ge i H.length with h'|h'
    ·exact h'
    ·rw[List.getElem?_eq_none h'] at he;cases he
   rw[List.getElem?_set_self this,he]
  ·rw[List.getElem?_set_ne (fun e=>hij e.symm)]
 cases hown with
 |nul=>
  simp only[List.nil_append]
  by_cases h0:ys.length=0
  ·rw[if_pos h0]
   have:ys=[]:=by cases ys with|nil=>rfl|cons _ _=>simp at h0
   subst this;exact⟨.nul,st,rfl,by rw[fh _ hj];exact hH,fun _=>rfl⟩
  ·rw[if_neg h0,if_pos (by simpa using hb)];refine⟨_,_,rfl,?_,fun e=>absurd (by rw[e];rfl) h0⟩;refine hH.zn hj (fun k hk _=>by simp only[St.push];rw[List.getElem?_append_left hk]) (by simp[St.push]) rfl rfl ?_ (fun k hk=>?_) fun k hk=>?_
   ·exact fF.win _ 0 0 ys ys.flatten (o7 st _) (by rw[iU];omega) (by rw[List.drop_zero,←iU,List.take_length]) wL
   ·simp only[bh.aD,D.ref] at hk;right;omega
   ·simp only[bh.aD,D.ref] at hk;simp only[St.push,List.length_append,List.length_cons,List.length_nil];omega
 |win k aq off es c hm hl hc he=>
  have hk:=hkk k (by simp only[bh.aD,D.ref]);simp only[St.mem_of hm];rw[if_neg (by rintro(h|h);exact h rfl;omega)]
  by_cases h0:ys.length=0
  ·rw[if_pos h0]
   have:ys=[]:=by cases ys with|nil=>rfl|cons _ _=>simp at h0
   subst this;simp only[List.append_nil];exact⟨_,st,rfl,by rw[fh _ hj];exact hH,fun _=>rfl⟩
  ·rw[if_neg h0,if_pos ⟨hb,eJ hH hk.1 hw⟩];refine⟨_,_,rfl,?_,fun e=>absurd (by rw[e];rfl) h0⟩;have oP:es.length+ys.length=(es++ys).length:=by simp
   have fJ:(c.take (off+es.length*inf.size)).drop off=es.flatten:=by rw[List.drop_take,←hc];congr 1;omega
   rw[oP,fJ];refine hH.zn hj (fun n hn hne=>by simp only;rw[List.getElem?_set_ne (fun e=>hne (by simp only[bh.aD,D.ref];omega))]) (by simp) rfl rfl ?_ (fun n hn=>?_) fun n hn=>?_
   ·have rN:∀e∈es++ys,e.length=inf.size:=fun e h=>by
     rcases List.mem_append.1 h with h|h
     ·exact he e h
     ·exact wL e h
    have DT:=bN rN;refine fF.win k (aq+1) 0 (es++ys) (es++ys).flatten ?_ (by rw[DT];omega) (by rw[List.drop_zero,←DT,List.take_length]) rN;simp only;rw[List.getElem?_set_self hk.2,List.flatten_append]
   ·simp only[bh.aD,D.ref] at hn⊢;left;omega
   ·simp only[bh.aD,D.ref] at hn;simp only[List.length_set];omega
theorem ae.H6 {t e:TypeId} {lo co:Operand} {k1 k2:IntKind} {m:Int} {inf:TypeInfo} {z:List D} {s:Nat} {aA:Nat→Fr} (hH:Has N S st H) (hg:ay ops fr ⟨some dst,.makeSlice t lo co,ty,pp,a,g⟩=some true)
  (hl:fr.ev lo=.int k1 0) (hc:fr.ev co=.int k2 m) (ht:P.bY t=some (.slice e)) (hi:P.info e=some inf) (hz:cE P e=some z) (hsz:inf.size=s) (jJ:z.length=s) (Qj:inf.bytes≤1024) (sU:0≤m∧m≤137438953472) (hp:∀k,fr.put dst (.win k 0 0 0 s)=aA k)
  (h:∀k ah,S.bs.length≤k→Has N S ah (.aD (.win k 0 0 0 s) s []::H)→ae P ops rest (aA k) ah Q):ae P ops (⟨some dst,.makeSlice t lo co,ty,pp,a,g⟩::rest) fr st Q:=by
 subst hsz;have hb:m*(inf.bytes:Int)≤140737488355328:=Int.le_trans (Int.mul_le_mul sU.2 (show(inf.bytes:Int)≤1024 by omega) (by omega) (by omega)) (by decide);refine ae.go hg rfl (d:=.win st.bs.length 0 0 0 inf.size) (st1:=st.push (.mem 0 true [])) ?_ (hp _) (h _ _ hH.len (hH.mf rfl rfl (fun e he=>by cases he)));simp only[dJ,hl,hc,eQ,ht,hi,hz,Option.bind_some];rw[if_pos ⟨jJ,by omega,by omega,by omega,hb⟩]
 rfl
theorem Has.Rl {N:Nat} {S st ah:St} {H H2:List bh} (h:Has N S st H) (h2:Has st.bs.length st ah H2):Has N S ah (H2++H):=by
 have hN:=h.hN;have hl:=h.ex.len;have xG:=h2.ex.len;refine⟨⟨fun k hk=>?_,by omega,h2.ex.flr.trans h.ex.flr,h2.ex.ro.trans h.ex.ro⟩,hN,h.eL,fun i e hi=>?_,fun i j a b hij ha hb k mD fX=>?_⟩
 ·rw[h2.ex.low k (by omega)];exact h.ex.low k hk
 ·by_cases hlt:i<H2.length
  ·rw[List.getElem?_append_left hlt] at hi;obtain⟨h3,h4⟩:=h2.ok i e hi;exact⟨h3,fun k hk=>⟨by have:=(h4 k hk).1;omega,(h4 k hk).2⟩⟩
  ·rw[List.getElem?_append_right (by omega)] at hi;obtain⟨h3,h4⟩:=h.ok _ e hi;exact⟨e.loc (fun k hk=>h2.ex.low k (h4 k hk).2) h3,fun k hk=>⟨(h4 k hk).1,by have:=(h4 k hk).2;omega⟩⟩
 ·by_cases h1:i<H2.length<;>by_cases h3:j<H2.length
  ·rw[List.getElem?_append_left h1] at ha;rw[List.getElem?_append_left h3] at hb;exact h2.dis i j a b hij ha hb k mD fX
  ·rw[List.getElem?_append_left h1] at ha;rw[List.getElem?_append_right (by omega)] at hb;have:=((h2.ok _ a ha).2 k mD).1;have:=((h.ok _ b hb).2 k fX).2;omega
  ·rw[List.getElem?_append_right (by omega)] at ha;rw[List.getElem?_append_left h3] at hb;have:=((h2.ok _ b hb).2 k fX).1;have:=((h.ok _ a ha).2 k mD).2;omega
  ·rw[List.getElem?_append_right (by omega)] at ha hb;exact h.dis _ _ a b (by omega) ha hb k mD fX
theorem ae.D6 {j:Nat} {x:D} {b:List UInt8} {es:List (List D)} {t1 t2 e:TypeId} {td:TypeDesc} {inf:TypeInfo} {z:List D} {xo yo:Operand} {aA:D→Fr} (hH:Has N S st H) (hg:ay ops fr ⟨some dst,.call ⟨.builtin .append,#[xo,yo],#[t1,t2]⟩,ty,pp,a,g⟩=some true)
  (hx:fr.ev xo=x) (hy:fr.ev yo=.str b) (hj:H[j]?=some (.aD x 1 es))
  (h1:P.bY t1=some (.slice e)) (h2:P.bY t2=some td) (h3:eT td=false) (h4:P.info e=some inf) (h5:cE P e=some z) (h6:inf.size=1) (h7:z.length=1) (h8:0<inf.bytes∧inf.bytes≤1024)
  (hp:∀x',fr.put dst x'=aA x') (hb1:inf.bytes=1) (hb:es.length+b.length≤1099511627776)
  (h:∀x' ah,Has N S ah (H.set j (.aD x' 1 (es++V.byteCells b)))→ae P ops rest (aA x') ah Q):
  ae P ops (⟨some dst,.call ⟨.builtin .append,#[xo,yo],#[t1,t2]⟩,ty,pp,a,g⟩::rest) fr st Q:=by
 have iU:∀b:List UInt8,(V.byteCells b).flatten=b.map fun y=>.int .u8 (y.toNat:Nat):=by
  intro b
  induction b with
  |nil=>rfl
  |cons y b ih=>simp only[V.byteCells,List.map_cons,List.flatten_cons] at ih⊢;rw[ih];rfl
 have I6:(V.byteCells b).length=b.length:=by simp[V.byteCells]
 have ka:∀b:List UInt8,refs (b.map fun y=>D.int .u8 (y.toNat:Nat))=0:=by
  intro b
  induction b with
  |nil=>rfl
  |cons y b ih=>simp only[List.map_cons,refs,D.ref,ih];rfl
 obtain⟨x',ah,q1,q2,q3⟩:=hH.Gw (y:=.str b) (ys:=V.byteCells b) hj (by rw[I6,iU];rfl) (fun e he=>by obtain⟨y,_,rfl⟩:=List.mem_map.1 he;rfl) h1 h2 h3 h4 h5 h6 h7 h8 hb1 (by rw[I6];exact hb) (.inr (by rw[iU];exact ka b));refine ae.go hg rfl (d:=x') (st1:=ah) ?_ (hp _) (h x' ah q2);simp only[dJ,List.map_cons,List.map_nil,hx,hy];exact q1
end Go.V
namespace Go.Proofs.YtpcicphadikioaaGreat
open Go.V Go
def cL (fr:Go.V.Fr) (k:Nat):Go.V.D:=Go.V.nth .aY fr.loc k
mutual
def Tr.gd:Tr→Prop
 | .mk n ks=>(n.op=5→1≤ks.len∧0≤n.mn)∧ks.gd
def aJ.gd:aJ→Prop
 | .nil=>True
 | .cons t ts=>t.gd∧ts.gd
end
theorem Cp:∀{ks:aJ},ks.gd↔∀t∈ks.l,t.gd
 | .nil=>by simp[aJ.gd,aJ.l]
 | .cons t ts=>by simp only[aJ.gd,aJ.l,List.mem_cons,forall_eq_or_imp,Cp (ks:=ts)]
def GL (l:List Tr):Prop:=∀t∈l,t.gd
theorem Tr.s_ {t:Tr}:t.gd↔(t.n.op=5→t.ks≠[]∧0≤t.n.mn)∧GL t.ks:=by
 cases t with
 |mk n ks=>
  simp only[Tr.gd,Tr.n,Tr.ks,GL,Cp,←lZ];have:(1≤ks.l.length)↔ks.l≠[]:=by cases ks.l<;>simp
  rw[this]
theorem zN {n:bn} {l:List Tr}:(Tr.mk n (dH l)).gd↔(n.op=5→l≠[]∧0≤n.mn)∧GL l:=by
 rw[Tr.s_];simp only[Tr.n,Tr.ks,lh]
mutual
theorem GH:∀t:Tr,t.ok→t.gd
 | .mk n ks,h=>by
  simp only[Tr.ok] at h;simp only[Tr.gd];refine⟨fun h5=>?_,C6 ks h.2⟩;have h1:=h.1.2;simp only[h5] at h1;omega
theorem C6:∀ts:aJ,ts.ok→ts.gd
 | .nil,_=>trivial
 | .cons t ts,h=>⟨GH t h.1,C6 ts h.2⟩
end
theorem se {op:Int} {l:List Tr} (h:GL l):GL (aX op l):=by
 intro t ht;obtain⟨u,hu,ht⟩:=List.mem_flatMap.1 ht
 split at ht
 ·exact(Tr.s_.1 (h u hu)).2 t ht
 ·simp only[List.mem_cons,List.not_mem_nil,or_false] at ht;rw[ht];exact h u hu
theorem xS {op:Int} {l:List Tr} (ho:op≠5) (h:GL l):(AG op l).gd:=zN.2 ⟨fun h5=>absurd h5 ho,h⟩
theorem vh {op:Int} {l:List Tr} (ho:op≠5) (h:GL l):(fM op l).gd:=by
 unfold fM
 split
 ·exact xS (by decide) (by intro t ht;cases ht)
 ·exact h _ (List.mem_cons_self ..)
 ·exact xS ho h
theorem uN {b:List Tr} {a:Tr} (hb:GL b) (ha:a.gd):GL (b++[a]):=by
 intro t ht
 rcases List.mem_append.1 ht with ht|ht
 ·exact hb t ht
 ·simp only[List.mem_cons,List.not_mem_nil,or_false] at ht;rw[ht];exact ha
theorem Fz {l:List Tr} (h:GL l):GL (cG l):=by
 unfold cG;refine mH (P:=GL) (fun b a ha hb=>?_) _ (by intro t ht;cases ht)
 split
 ·exact hb
 ·exact uN hb (h a ha)
theorem IF (a b:List Rg):(oS a b).gd:=by
 unfold oS;simp only[Tr.gd,aJ.gd,and_true];intro h;cases h
theorem FT {b:List Tr} {a:Tr} (hb:GL b) (ha:a.gd):GL (gp b a):=by
 unfold gp
 split
 ·split
  ·intro t ht
   rcases List.mem_or_eq_of_mem_set ht with ht|rfl
   ·exact hb t ht
   ·exact IF _ _
  ·exact uN hb ha
 ·exact uN hb ha
theorem Bj {l:List Tr} (h:GL l):GL (bZ l):=by
 unfold bZ;exact mH (P:=GL) (fun b a ha hb=>FT hb (h a ha)) _ (by intro t ht;cases ht)
theorem xy:∀(f:Nat) {l:List Tr},GL l→GL (iG f l)
 |0,l,h=>h
 |f+1,l,h=>by
  unfold iG
  split
  ·exact h
  ·exact xy f (Bj (Fz h))
theorem Hg {n:bn} {k:Tr} {l:List Tr} (hn:n.op=5→0≤n.mn) (h:GL l) (hk:k∈l):(vG n k l).gd:=by
 have hkk:=h k hk;obtain⟨h1,h2⟩:=Tr.s_.1 hkk;unfold vG
 split
 ·exact hkk
 split
 ·exact hkk
 split
 ·exact xS (by decide) (by intro t ht;cases ht)
 split
 ·rename_i ho;simp only[Bool.and_eq_true] at ho;have a1:=(o_ ho.1).1;have a2:=(o_ ho.2.1).1;exact zN.2 ⟨fun _=>⟨(h1 a2).1,Int.mul_nonneg (h1 a2).2 (hn a1)⟩,h2⟩
 ·exact zN.2 ⟨fun h5=>⟨List.ne_nil_of_mem hk,hn h5⟩,h⟩
theorem Dj {n:bn} {l:List Tr} (hn:n.op=5→l≠[]∧0≤n.mn) (h:GL l):(ou n l).gd:=by
 unfold ou
 split
 ·exact vh (by decide) fun t ht=>se h t (List.mem_filter.1 ht).1
 split
 ·exact vh (by decide) (xy _ (se h))
 split
 ·rename_i h5
  cases l with
  |nil=>exact absurd rfl (hn h5).1
  |cons k l=>exact Hg (fun h=>(hn h).2) h (List.mem_cons_self ..)
 ·rename_i h5;exact zN.2 ⟨fun h=>absurd h h5,h⟩
theorem zX:∀(m:Nat) (t:Tr),t.eW≤m→t.gd→t.less.gd
 |0,t,h,_=>by have:=Tr.dF t;omega
 |m+1,t,h,hg=>by
  have Kx:=Tr.dF t;obtain⟨h1,h2⟩:=Tr.s_.1 hg;rw[Tr.zY];refine Dj (fun h5=>⟨?_,(h1 h5).2⟩) fun k hk=>?_
  ·have:=(h1 h5).1;simpa using this
  ·obtain⟨u,hu,rfl⟩:=List.mem_map.1 hk;exact zX m u (by have:=eH hu;omega) (h2 u hu)
theorem wC:∀(m:Nat) (t:Tr),t.eW≤m→m≤1048575→t.fa lY→t.gd→∀s0:St,Ev pv 34 [.agg (tC t)] s0 (.agg (tC t.less)) s0
 |0,t,h,_,_,_,_=>by have:=Tr.dF t;omega
 |m+1,t,h,hm,hfa,hg,s0=>by
  have Kx:=Tr.dF t;have gU:=cy t.ks;obtain⟨hn,rL⟩:=Tr.dQ.1 hfa;obtain⟨fY,LA⟩:=Tr.s_.1 hg;have xD:=hn.1;have rK:V.Rows s0 8 (dq t.ks) (t.ks.map tC):=dY s0 rL;have EY:=aJ.gm (dH t.ks) (by rw[tF,lh];exact rL);rw[py,lh,oW,lh] at EY;obtain⟨EY,Ni⟩:=EY
  have H8:GL (t.ks.map Tr.less):=fun k hk=>by
   obtain⟨u,hu,rfl⟩:=List.mem_map.1 hk;exact zX _ u (Nat.le_refl _) (LA u hu)
  have wO:=(Tr.gm t hfa).1;have GP:=Tr.zY t;refine Ev.jL rfl OZ rfl rfl rfl ?_;refine zE ?_;obtain⟨aW,hF,hH⟩:=ri s0;generalize ai .ro s0=S at*;have mD:=Arg.of rK aW;refine zQ 2 ?_;refine qb hH fun k1 st lL hH=>?_;dsimp only[u2,u1,u3,u4,setMany,u5,u6,D.cells,Nat.reduceAdd,tC,bR,aE] at hH;refine qa hH fun k2 st hk2 hH=>?_;refine zQ 1 ?_;have hH:Has s0.bs.length S st (.box k2 (.mem 0 false tz)::.box k1 (.mem 0 false (tC t))::[]):=hH;refine zQ 4 ?_;refine qn ?_;simp only[List.length_map];refine ae.H6 (m:=((t.ks.length:Nat):Int)) hH rfl (ev rfl) (ev rfl) rfl rfl rfl rfl rfl (by decide) (by omega) (fun _=>by dsimp only[Fr.put,u1,u2]<;>rfl) (fun k9 st Ql hH=>?_);refine zQ 7 ?_;refine qn ?_;simp only[List.length_map];refine zQ 3 ?_;refine ag.loop (fun mm fr st=>∃(i:Nat) (y:D),fr.clean=⟨28,[cL fr 0,.ptr k1 0 0,.ptr k2 0 0,y,cL fr 4,cL fr 5,cL fr 6,cL fr 7,cL fr 8,cL fr 9,cL fr 10,dq t.ks,.int .i64 (t.ks.length:Nat),.int .i64 (i:Nat),cL fr 14,cL fr 15,cL fr 16,cL fr 17,cL fr 18,cL fr 19,cL fr 20,cL fr 21,cL fr 22,cL fr 23,cL fr 24,cL fr 25,cL fr 26,cL fr 27],[]⟩∧Has s0.bs.length S st (.aD y 8 (((t.ks.take i).map Tr.less).map tC)::.box k2 (.mem 0 false tz)::.box k1 (.mem 0 false (tC t))::[])∧(i+mm=t.ks.length)∧(∀k,y.ref=k+1→S.bs.length≤k)) (t.ks.length) ?_ ?_
  ·exact⟨0,.win k9 0 0 0 8,rfl,hH,by omega,(fun k hk=>by simp only[D.ref] at hk;omega)⟩
  rintro mm fr st ⟨i,y,hfr,hH,hi,gA⟩;rw[hfr];clear hfr;generalize cL fr=ee;clear fr;refine zQ 5 ?_;refine zP (fun h1=>?_) fun h1=>?_
  ·refine zQ 1 ?_
   obtain⟨p,hp⟩:∃p,t.ks[i]?=some p:=⟨t.ks[i]'(by omega),List.getElem?_eq_getElem _⟩
   have uB:=List.mem_of_getElem? hp;have Qg:=eH uB;have gJ:=lp hp;have yK:=fun st=>wC m p (by omega) (by omega) (rL p uB) (LA p uB) st;refine zQ 4 ?_;refine qr fun P0 J_=>?_;refine ae.cJ rfl (ev rfl) (by assumption) rfl (by dsimp only[Fr.put,u1,u2]<;>rfl) ?_;refine qa hH fun k5 st DQ hH=>?_;dsimp only[u2,u1,u3,u4,setMany,u5,u6,D.cells,Nat.reduceAdd,tC,bR,aE] at hH;refine qS hH aG fun st hH=>?_;dsimp only[u2,u1,u3,u4,setMany,u5,u6,D.cells,Nat.reduceAdd,tC,bR,aE] at hH;refine zQ 1 ?_;have hH:Has s0.bs.length S st (.box k5 (.mem 0 false (tC p))::.aD y 8 (((t.ks.take i).map Tr.less).map tC)::.box k2 (.mem 0 false tz)::.box k1 (.mem 0 false (tC t))::[]):=hH;refine zQ 2 ?_;refine ae.aO (m:=8) (r:=tC p) hH rfl (ev rfl) aG rfl rfl rfl (by dsimp only[Fr.put,u1,u2]<;>rfl) ?_;refine qv (yK _) ?_;refine qh (s:=8) (vs:=[_]) hH fun k20 st NA hH=>?_;dsimp only[u2,u1,u3,u4,setMany,u5,u6,D.cells,Nat.reduceAdd,tC,bR,aE] at hH;refine ae.cj (s:=8) hH rfl (ev rfl) (ev rfl) b8 (hH.rows aG) rfl rfl rfl rfl rfl rfl rfl ⟨(Nat.le_of_ble_eq_true rfl),(Nat.le_of_ble_eq_true rfl)⟩ (fun _=>by dsimp only[Fr.put,u1,u2]<;>rfl) (by simp only[List.length_map,List.length_take,List.length_cons,List.length_nil];omega) (.inl hF) gA (fun PH st gA hH=>?_);dsimp only[u1,u2] at hH;refine zQ 2 ?_;have hH:=hH.drop 2;refine zQ 4 ?_;exact⟨mm-1,by omega,⟨i+1,PH,rfl,(by rw[List.take_add_one,hp,List.map_append,List.map_append];exact hH),by omega,gA⟩⟩
  ·refine zQ 1 ?_;have Lz:i=t.ks.length:=by omega
   rw[Lz,List.take_length] at hH;clear Lz hi h1;generalize hl:t.ks.map Tr.less=l at*;refine zQ 4 ?_;refine qT hH b8 (fun st hH=>?_) (hcs:=hH.eO aG);dsimp only[u2,u1,u3,u4,setMany,u5,u6,D.cells,Nat.reduceAdd,tC,bR,aE] at hH;refine zQ 1 ?_;have hH:Has s0.bs.length S st (.aD y 8 (l.map tC)::.box k2 (.mem 0 false tz)::.box k1 (.mem 0 false (bR t.n y))::[]):=hH;have DB:∀st,Has s0.bs.length S st (.aD y 8 (l.map tC)::.box k2 (.mem 0 false tz)::.box k1 (.mem 0 false (bR t.n y))::[])→V.Rows st 8 y (l.map tC):=fun st h=>h.rows aG;refine zQ 7 ?_;have Lr:∀st,∀X:List D,Has s0.bs.length S st (.aD y 8 (l.map tC)::.box k2 (.mem 0 false X)::.box k1 (.mem 0 false (bR t.n y))::[])→aB st s0.bs.length false 15 y=some (dq l):=fun st X h=>by rw[lI];exact h.freeze aG (ku EY) (n:=14) (by decide)
   rw[GP];rw[GP] at wO;unfold ou at wO⊢;refine zQ 6 ?_
   by_cases h3:t.n.op=3
   ·have hc:(t.n.op==3)=true:=by simpa using h3
    rw[if_pos h3] at wO⊢;refine qD rfl (by rw[hc]) ?_;have yR:=Gt (n:=t.n) (DB _ hH) EY (by omega);refine zQ 2 ?_;refine ae.aO (m:=8) (r:=bR t.n y) hH rfl (ev rfl) b8 rfl rfl rfl (aa rfl _) ?_;refine ae.dz rfl rfl yR (aa rfl _) ?_;refine ae.bP hH rfl (ev rfl) (ev rfl) rfl (by exact rfl) aV (by exact rfl) (.inl hF) (fun st hH=>?_);dsimp only[u1,u2] at hH;refine zQ 1 ?_;exact ag.ret ⟨rx,_,hH.cB rfl aV rfl,rl aW hH (gg wO _ _ _)⟩
   have hc:(t.n.op==3)=false:=by simpa using h3
   rw[if_neg h3] at wO⊢;refine qE rfl (by rw[hc]) ?_;refine zQ 5 ?_
   by_cases h4:t.n.op=4
   ·have N0:(t.n.op==4)=true:=by simpa using h4
    rw[if_pos h4] at wO⊢;refine qD rfl (by rw[N0]) ?_;have yR:=GA (n:=t.n) (DB _ hH) EY (by omega);refine zQ 2 ?_;refine ae.aO (m:=8) (r:=bR t.n y) hH rfl (ev rfl) b8 rfl rfl rfl (aa rfl _) ?_;refine ae.dz rfl rfl yR (aa rfl _) ?_;refine ae.bP hH rfl (ev rfl) (ev rfl) rfl (by exact rfl) aV (by exact rfl) (.inl hF) (fun st hH=>?_);dsimp only[u1,u2] at hH;refine zQ 1 ?_;exact ag.ret ⟨rx,_,hH.cB rfl aV rfl,rl aW hH (gg wO _ _ _)⟩
   have N0:(t.n.op==4)=false:=by simpa using h4
   rw[if_neg h4] at wO⊢;refine qE rfl (by rw[N0]) ?_;refine zQ 5 ?_
   by_cases h5:t.n.op=5
   ·have NZ:(t.n.op==5)=true:=by simpa using h5
    rw[if_pos h5] at wO⊢;refine qD rfl (by rw[NZ]) ?_;obtain⟨g1,g2⟩:=fY h5
    obtain⟨k,l0,oP⟩:∃k l0,l=k::l0:=by
     cases l with
     |nil=>exact absurd (List.map_eq_nil_iff.1 hl) g1
     |cons a b=>exact⟨a,b,rfl⟩
    subst oP;dsimp only at wO⊢;have Sw:=Tr.s_.1 (H8 k (List.mem_cons_self ..));have yR:=ye (n0:=t.n) (x:=y) (k:=k) (l0:=l0) (DB _ hH) xD EY (by omega) g2 Sw.1;obtain⟨n',y',hsh,htl⟩:=AU (n:=I0 t.n) (x:=y) (k:=k) (l:=k::l0) xD (EY k (List.mem_cons_self ..));rw[hsh] at yR;rw[Js];refine zQ 2 ?_;refine ae.aO (m:=8) (r:=bR t.n y) hH rfl (ev rfl) b8 rfl rfl rfl (aa rfl _) ?_;refine ae.dz rfl rfl yR (aa rfl _) ?_;refine ae.bP hH rfl (ev rfl) (ev rfl) rfl (by exact rfl) aV (by exact rfl) (.inl hF) (fun st hH=>?_);dsimp only[u1,u2] at hH;refine zQ 1 ?_;exact ag.ret ⟨rx,_,hH.cB rfl aV rfl,rl aW hH (htl _ _ (Lr _ _ hH))⟩
   have NZ:(t.n.op==5)=false:=by simpa using h5
   rw[if_neg h5] at wO⊢;refine qE rfl (by rw[NZ]) ?_;refine zQ 3 ?_;refine ae.aO (m:=8) (r:=bR t.n y) hH rfl (ev rfl) b8 rfl rfl rfl (aa rfl _) ?_;refine ae.bP hH rfl (ev rfl) (ev rfl) rfl (by exact rfl) aV (by exact rfl) (.inl hF) (fun st hH=>?_);dsimp only[u1,u2] at hH;refine zQ 1 ?_
   have N4:aB st s0.bs.length false 16 (.agg (bR t.n y))=some (.agg (tC (.mk t.n (dH l)))):=by
    rw[Hw];show(cH (aB st s0.bs.length false 15) (bR t.n y)).map D.agg=_;have h8:=Lr _ _ hH;unfold bR;simp only[cH,h8,xD]
    rfl
   exact ag.ret ⟨rx,_,hH.cB rfl aV rfl,rl aW hH N4⟩
theorem wy {s0:St} {x:D} {l:List bn} (hx:eZ x 7 (l.map aE)) (hv:∀n∈l,lX n) (hl:l.length≤500):Ev pv 13 [x] s0 (pT (dg l)) s0:=by
 have Kj:Nl.ok ⟨x,l⟩:=⟨hx,fun n hn=>by
  obtain⟨h1,h2,h3⟩:=hv n hn
  exact⟨by rw[h1];exact fR _,h2,by omega⟩,by show l.length≤_;omega⟩
 have RV:=fun st=>sr (s0:=st) Kj;unfold dg;refine Ev.jL rfl Ph rfl rfl rfl ?_;refine zE ?_;obtain⟨aW,hF,hH⟩:=ri s0;generalize ai .ro s0=S at*;have GM:=hx.arg s0.bs.length S;refine zQ 8 ?_;refine qv (RV _) ?_;refine zQ 2 ?_
 cases hR:gD l with
 |false=>
  rw[if_neg (by simp)];refine ag.cond (v:=true) (by dsimp only[Fr.ev,Fr.get,nth,V.look];rfl) (fun _=>?_) (fun h=>by cases h);refine zQ 4 ?_;refine ag.ret ⟨rx,_,rfl,rl aW hH (rfl)⟩
 |true=>
  rw[if_pos rfl];refine ag.cond (v:=false) (by dsimp only[Fr.ev,Fr.get,nth,V.look];rfl) (fun h=>by cases h) (fun _=>?_);refine zQ 1 ?_;obtain⟨eC,iU⟩:=tG hR;generalize de l=t at*;have hct:=Tr.jh t;rw[iU] at hct;have hfa:t.fa lY:=(Tr.fx t).2 (fun n hn=>by rw[iU] at hn;exact⟨(hv n hn).1,(hv n hn).2.1⟩);have xH:=fun st=>Ak t.eW t [] (Nat.le_refl _) (by omega) eC (by rw[List.append_nil,iU];exact hv) st x (by rw[List.append_nil,iU];exact hx);obtain⟨EY,Ni⟩:=Tr.gm t hfa;have hle:=fun st=>wC t.eW t (Nat.le_refl _) (by omega) hfa (GH t eC) st;have hft:=fun st=>Ao t.less.eW t.less (Nat.le_refl _) (by omega) EY st;refine zQ 3 ?_;obtain⟨_,aF,y,rfl,hy⟩:=xH S;refine qv aF ?_;refine zQ 3 ?_;refine qa hH fun k3 st Ib hH=>?_;refine qS hH aG fun st hH=>?_;dsimp only[u2,u1,u3,u4,setMany,u5,u6,D.cells,Nat.reduceAdd,tC,bR,aE] at hH;refine zQ 2 ?_;have hH:Has s0.bs.length S st (.box k3 (.mem 0 false (tC t))::[]):=hH;refine zQ 2 ?_;refine ae.aO (m:=8) (r:=tC t) hH rfl (ev rfl) aG rfl rfl rfl (aa rfl _) ?_;refine qv (hle _) ?_;refine qv (hft _) ?_;refine zQ 2 ?_;refine ag.ret ⟨rx,_,rfl,rl aW hH (rfl)⟩
end Go.Proofs.YtpcicphadikioaaGreat
namespace Go.Proofs.YtpcicphadikioaaGreat
open Go.V Go
def kF:Nat→Nat→Nat
 |0,_=>0
 |f+1,m=>if m=0 then 0 else kF f (m/256)+1
def kB (m:Nat):Nat:=kF 8 m
structure QI where
 at_:Nat
 e:Int
def QI.ok (b:List UInt8) (s:QI):Prop:=s.at_≤b.length
end Go.Proofs.YtpcicphadikioaaGreat
namespace Go.Proofs.YtpcicphadikioaaGreat
open Go.V Go
def Lk (s0 st:St) (d:D) (b:List UInt8):Prop:=Has s0.bs.length s0 st [.aD d 1 (V.byteCells b)]
theorem Lk.over {N:Nat} {S s0 st:St} {H:List bh} {d:D} {b:List UInt8} (h:Lk s0 st d b) (hH:Has N S s0 H):Has N S st (.aD d 1 (V.byteCells b)::H):=hH.Rl h
end Go.Proofs.YtpcicphadikioaaGreat
namespace Go.Proofs.YtpcicphadikioaaGreat
open Go.V Go
end Go.Proofs.YtpcicphadikioaaGreat
namespace Go.Proofs.YtpcicphadikioaaGreat
open Go.V Go
end Go.Proofs.YtpcicphadikioaaGreat
namespace Go.Proofs.YtpcicphadikioaaGreat
open Go.V Go
structure aT.fit (i:aT):Prop where
 op:i.op<9223372036854775808
 x:i.x<9223372036854775808
 y:i.y<9223372036854775808
 r:∀g∈i.rs,-2147483648≤g.1∧g.1≤2147483647∧-2147483648≤g.2∧g.2≤2147483647
end Go.Proofs.YtpcicphadikioaaGreat
namespace Go.Proofs.YtpcicphadikioaaGreat
open Go.V Go
structure oJ where
 nm:List UInt8
 tx:List UInt8
def dO (p:oJ):List D:=[.str p.nm,.str p.tx]
def oJ.fit (p:oJ):Prop:=p.nm.length≤1048576∧p.tx.length≤1048576
end Go.Proofs.YtpcicphadikioaaGreat
namespace Go.Proofs.YtpcicphadikioaaGreat
open Go.V Go
def eu (fr:Go.V.Fr) (k:Nat):Go.V.D:=Go.V.nth .aY fr.loc k
inductive PR (α:Type) where
 |ok (a:α) (i:Nat)
 |er (e:Int) (w:Nat)
def we:List Rg→Int→List Rg
 |[],n=>[(n,1114111)]
 |q::m,n=>(n,bj .i32 (q.1-1))::we m (bj .i32 (q.2+1))
noncomputable def oL (l:List Rg):List Rg:=bV (we (bV l) 0)
theorem wc:∀(l:List Rg) (n:Int),(we l n).length=l.length+1
 |[],_=>rfl
 |q::m,n=>by simp only[we,List.length_cons,wc m]
theorem tZ {s0:St} {x:D} {l:List Rg} (hx:V.Rows s0 2 x (l.map av)) (hl:l.length≤131072):Ev pv 102 [x] s0 (aL (oL l)) s0∧(oL l).length≤4*l.length+2:=by
 suffices hg:∃d,Ev pv 102 [x] s0 d s0∧d=aL (oL l)∧(oL l).length≤4*l.length+2 by
  obtain⟨d,h1,rfl,h2⟩:=hg;exact⟨h1,h2⟩
 have hN:oL l=bV (we (bV l) 0):=rfl;refine Ev.Bd rfl K9 rfl rfl rfl ?_;refine zE ?_;obtain⟨aW,hF,hH⟩:=ri s0;generalize ai .ro s0=S at*;have hx:=Arg.of hx aW;refine zQ 12 ?_;obtain⟨aF,na,_⟩:=mo (hx.rows hH) (by omega);have hla:=(fR (bV l)).arg s0.bs.length S;generalize bV l=m at*;refine zQ 4 ?_;refine qv (aF) ?_;refine qn ?_;simp only[List.length_map];refine zQ 2 ?_;have hH:=hH.dU 2;refine zQ 1 ?_;refine ag.loop (fun mm fr st=>∃(i:Nat) (n:Int) (o:D) (out:List Rg),fr.clean=⟨11,[eu fr 0,eu fr 1,eu fr 2,o,.int .i32 n,eu fr 5,eu fr 6,eu fr 7,aL m,.int .i64 (m.length:Nat),.int .i64 (i:Nat)],[]⟩∧Has s0.bs.length S st [.aD o 2 (out.map av)]∧(i+mm=m.length)∧(out.length=i)∧(out++we (m.drop i) n=we m 0)) (m.length) ?_ ?_
 ·exact⟨0,0,.nul,[],rfl,hH,by omega,rfl,rfl⟩
 rintro mm fr st ⟨i,n,o,out,hfr,hH,hi,ho,hn⟩;rw[hfr];clear hfr;generalize eu fr=ee;clear fr;refine zQ 5 ?_;refine zP (fun h1=>?_) fun h1=>?_
 ·refine zQ 1 ?_
  obtain⟨q,hq⟩:∃q,m[i]?=some q:=⟨m[i]'(by omega),List.getElem?_eq_getElem _⟩
  have hr:=gT hq
  have BA:m.drop i=q::m.drop (i+1):=by
   have:=List.drop_eq_getElem_cons (l:=m) (i:=i) (by omega);rw[this];congr 1;rw[List.getElem?_eq_getElem (by omega)] at hq;exact Option.some.inj hq
  rw[BA] at hn;refine zQ 4 ?_;refine qr fun Ma HX=>?_;refine ae.cJ rfl (ev rfl) (by assumption) rfl (aa rfl _) ?_;refine qa hH fun k6 st I9 hH=>?_;refine qS hH aG fun st hH=>?_;dsimp only[u2,u1,u3,u4,setMany,u5,u6,D.cells,Nat.reduceAdd,av] at hH;refine zQ 7 ?_;refine ae.kQ (z:=bj .i32 (q.1-1)) rfl (ev rfl) (ev rfl) rfl (aa rfl _) ?_;refine ae.gE (qs:=[(0,_),(1,_)]) rfl rfl rfl rfl ⟨rfl,(ev rfl),(by rfl),rfl,(ev rfl),(by rfl),trivial⟩ (by intro q hq;simp only[List.mem_cons,List.not_mem_nil,or_false] at hq;rcases hq with rfl|rfl<;>exact⟨rfl,by exact Nat.le_of_ble_eq_true rfl⟩) (by show List.foldl _ [_,_] _=_;dsimp only[List.foldl_cons,List.foldl_nil,u2,u1]<;>rfl) (aa rfl _) ?_;refine qh (s:=2) (vs:=[_]) hH fun k20 st NA hH=>?_;refine ae.dh (s:=2) hH rfl (ev rfl) (ev rfl) (by exact b8) (by exact hH.rows (by exact aG)) rfl rfl rfl rfl rfl rfl rfl ⟨(Nat.le_of_ble_eq_true rfl),(Nat.le_of_ble_eq_true rfl)⟩ (fun _=>(aa rfl _)) (by simp only[List.length_cons,List.length_nil,List.length_map]<;>omega) (by exact .inl hF) (fun PH st hH=>?_);dsimp only[u2,u1,u3,u4,setMany,u5,u6,D.cells,Nat.reduceAdd,av] at hH;refine zQ 5 ?_;refine ae.cS (z:=bj .i32 (q.2+1)) rfl (ev rfl) (ev rfl) rfl (aa rfl _) ?_;refine zQ 6 ?_;exact⟨mm-1,by omega,⟨i+1,_,_,out++[(n,bj .i32 (q.1-1))],rfl,(by rw[List.map_append];exact hH.drop 2),by omega,by simp[ho],(by rw[←hn,List.append_assoc];rfl)⟩⟩
 ·refine zQ 1 ?_;have uI:m.drop i=[]:=List.drop_eq_nil_of_le (by omega);rw[uI] at hn;have hn:out++[(n,1114111)]=we m 0:=hn;refine zQ 4 ?_;refine ae.gE (qs:=[(0,_),(1,_)]) rfl rfl rfl rfl ⟨rfl,(ev rfl),(by rfl),rfl,(ev rfl),(by rfl),trivial⟩ (by intro q hq;simp only[List.mem_cons,List.not_mem_nil,or_false] at hq;rcases hq with rfl|rfl<;>exact⟨rfl,by exact Nat.le_of_ble_eq_true rfl⟩) (by show List.foldl _ [_,_] _=_;dsimp only[List.foldl_cons,List.foldl_nil,u2,u1]<;>rfl) (aa rfl _) ?_;refine qh (s:=2) (vs:=[_]) hH fun k29 st SN hH=>?_;refine ae.dh (s:=2) hH rfl (ev rfl) (ev rfl) (by exact aV) (by exact hH.rows (by exact aG)) rfl rfl rfl rfl rfl rfl rfl ⟨(Nat.le_of_ble_eq_true rfl),(Nat.le_of_ble_eq_true rfl)⟩ (fun _=>(aa rfl _)) (by simp only[List.length_cons,List.length_nil,List.length_map]<;>omega) (by exact .inl hF) (fun TZ st hH=>?_);dsimp only[u2,u1,u3,u4,setMany,u5,u6,D.cells,Nat.reduceAdd,av] at hH;obtain⟨aF,xG,_⟩:=mo (l:=out++[(n,1114111)]) (by rw[List.map_append];exact hH.rows aV) (by simp;omega);refine qv aF ?_;refine zQ 2 ?_;rw[hn] at xG⊢;refine ag.ret ⟨rx,_,_,rfl,rl aW hH (rfl),?_⟩;rw[wc] at xG;exact⟨by rw[hN];rfl,by rw[hN];omega⟩
noncomputable def BM:List Rg:=oL [(10,10)]
theorem Gj {s0:St}:Ev pv 91 [] s0 (aL BM) s0∧BM.length≤6:=by
 have hl:(oL [(10,10)]).length≤4*1+2:=(tZ (s0:=s0) (fR [(10,10)]|>.rows s0) (by simp)).2;refine⟨?_,hl⟩;unfold BM;refine Ev.jL rfl Oh rfl rfl rfl ?_;refine zE ?_;obtain⟨aW,hF,hH⟩:=ri s0;generalize ai .ro s0=S at*;refine zQ 6 ?_;refine ae.gE (qs:=[(0,_),(1,_)]) rfl rfl rfl rfl ⟨rfl,(ev rfl),(by rfl),rfl,(ev rfl),(by rfl),trivial⟩ (by intro q hq;simp only[List.mem_cons,List.not_mem_nil,or_false] at hq;rcases hq with rfl|rfl<;>exact⟨rfl,by exact Nat.le_of_ble_eq_true rfl⟩) (by show List.foldl _ [_,_] _=_;dsimp only[List.foldl_cons,List.foldl_nil,u2,u1]<;>rfl) (aa rfl _) ?_;refine qh (s:=2) (vs:=[_]) hH fun k2 st hk2 hH=>?_;obtain⟨aF,_⟩:=tZ (l:=[(10,10)]) (hH.rows aG) (by simp);refine qv aF ?_;refine zQ 2 ?_;refine ag.ret ⟨rx,_,rfl,rl aW hH (rfl)⟩
def ov (a b:List UInt8):Bool:=decide ((a.length:Int)<b.length)||(((a.length:Int)==b.length) &&Op.bytesLess a b)
theorem Di {s0:St} (a b:List UInt8):Ev pv 94 [.str a,.str b] s0 (.bool (ov a b)) s0:=by
 unfold ov;refine Ev.jL rfl Of rfl rfl rfl ?_;refine zE ?_;obtain⟨aW,hF,hH⟩:=ri s0;generalize ai .ro s0=S at*;refine zQ 5 ?_;refine ag.rR 4 (.bool (decide ((a.length:Int)<b.length)||(((a.length:Int)==b.length) &&Op.bytesLess a b))) [] ?_ (fun ff tmp=>?_)
 ·refine qm ?_;refine ae.jV rfl rfl rfl (aa rfl _) ?_;refine qm ?_;refine ae.jV rfl rfl rfl (aa rfl _) ?_;refine zQ 2 ?_;refine ae.two 10 rfl (fun fY=>?_) (fun fY=>?_)
  ·refine zQ 12 ?_;refine ae.nil (aI ?_);refine zG ?_
   all_goals(simp_all;done)
  ·refine zQ 1 ?_;refine ae.jV (aj rfl rfl rfl fY) rfl rfl (aa rfl _) ?_;refine zQ 1 ?_;refine ae.jV (aj rfl rfl rfl fY) rfl rfl (aa rfl _) ?_;refine zQ 2 ?_;refine ae.two 16 rfl (fun ew=>?_) (fun ew=>?_)
   ·refine zQ 3 ?_;refine ae.cF (aj rfl rfl rfl fY) rfl ew (aa rfl _) ?_;refine zQ 2 ?_;refine ae.nil (aI ?_);refine zG ?_
    all_goals(simp_all;done)
   ·refine zQ 3 ?_;refine ae.cp (aj rfl rfl rfl fY) rfl ew (aa rfl _) ?_;refine zQ 2 ?_;refine ae.nil (aI ?_);refine zG ?_
    all_goals(simp_all;done)
 dsimp only[bd,List.foldl,nth,u2,u1];refine ag.ret ⟨rx,_,rfl,rl aW hH (rfl)⟩
def AF:List UInt8→Int→Int
 |[],n=>n
 |c::l,n=>AF l (bj .i64 (bj .i64 (10*n)+bj .i64 (bj .u8 ((c.toNat:Nat)-48))))
def gW (b:List UInt8):Int×Bool:=if 2<b.length then(0,false) else(AF b 0,decide (AF b 0≤30))
theorem ko {s0:St} (b:List UInt8) (hb:b.length≤1048576):Ev pv 95 [.str b] s0 (.tup [.int .i64 (gW b).1,.bool (gW b).2]) s0:=by
 suffices hg:∃d,Ev pv 95 [.str b] s0 d s0∧d=.tup [.int .i64 (gW b).1,.bool (gW b).2] by
  obtain⟨d,h1,rfl⟩:=hg;exact h1
 unfold gW;refine Ev.Bd rfl Oe rfl rfl rfl ?_;refine zE ?_;obtain⟨aW,hF,hH⟩:=ri s0;generalize ai .ro s0=S at*;refine zQ 9 ?_;refine ae.jV rfl rfl rfl (by dsimp only[Fr.put,u1,u2]<;>rfl) ?_;refine zQ 2 ?_;refine zP (fun h0=>?_) fun h0=>?_
 ·rw[if_pos (by omega)];refine zQ 5 ?_;refine ag.ret ⟨rx,_,_,rfl,rl aW hH (rfl),?_⟩
  rfl
 ·rw[if_neg (by omega)];refine zQ 9 ?_;refine ae.jV rfl rfl rfl (by dsimp only[Fr.put,u1,u2]<;>rfl) ?_;refine zQ 3 ?_;refine ag.loop (fun mm fr st=>∃(i:Nat) (n:Int),fr.clean=⟨12,[.str b,eu fr 1,eu fr 2,eu fr 3,.int .i64 n,eu fr 5,eu fr 6,eu fr 7,eu fr 8,eu fr 9,.int .i64 (b.length:Nat),.int .i64 (i:Nat)],[]⟩∧Has s0.bs.length S st []∧(i+mm=b.length)∧(AF (b.drop i) n=AF b 0)) (b.length) ?_ ?_
  ·exact⟨0,0,rfl,hH,by omega,rfl⟩
  rintro mm fr st ⟨i,n,hfr,hH,hi,hn⟩;rw[hfr];clear hfr;generalize eu fr=ee;clear fr;refine zQ 5 ?_;refine zP (fun h1=>?_) fun h1=>?_
  ·refine zQ 1 ?_
   obtain⟨c,hc⟩:∃c,b[i]?=some c:=⟨b[i]'(by omega),List.getElem?_eq_getElem _⟩
   have BA:b.drop i=c::b.drop (i+1):=by
    have:=List.drop_eq_getElem_cons (l:=b) (i:=i) (by omega);rw[this];congr 1;rw[List.getElem?_eq_getElem (by omega)] at hc;exact Option.some.inj hc
   rw[BA] at hn;refine zQ 9 ?_;refine ae.yt (z:=bj .i64 (10*n)) rfl (ev rfl) (ev rfl) rfl (aa rfl _) ?_;refine zQ 2 ?_;refine ae.LW rfl (ev rfl) (ev rfl) rfl (by assumption) (aa rfl _) ?_;refine ae.go (d:=.int .u8 (bj .u8 ((c.toNat:Nat)-48))) (st1:=_) rfl rfl rfl (aa rfl _) ?_;refine qg ?_;refine ae.cS (z:=bj .i64 (bj .i64 (10*n)+bj .i64 (bj .u8 ((c.toNat:Nat)-48)))) rfl (ev rfl) (ev rfl) rfl (aa rfl _) ?_;refine zQ 6 ?_;exact⟨mm-1,by omega,⟨i+1,_,rfl,hH,by omega,hn⟩⟩
  ·refine zQ 1 ?_;have uI:b.drop i=[]:=List.drop_eq_nil_of_le (by omega);rw[uI] at hn;have hn:n=AF b 0:=hn;rw[←hn];refine zQ 8 ?_;refine ag.ret ⟨rx,_,_,rfl,rl aW hH (rfl),?_⟩
   rfl
end Go.Proofs.YtpcicphadikioaaGreat
namespace Go.Proofs.YtpcicphadikioaaGreat
open Go.V Go
def ef {α:Type} (R:PR α) (aQ:List Int) (s':dR):Prop:=∃e w,R=.er e w∧e≠0∧s'.e=e∧s'.w=aQ.getD w 0
theorem ef.ne {α:Type} {R:PR α} {aQ:List Int} {s':dR} (h:ef R aQ s'):s'.e≠0:=by
 obtain⟨e,w,_,h1,h2,_⟩:=h;rw[h2];exact h1
theorem ef.map {α β:Type} {R:PR α} {R':PR β} {aQ:List Int} {s':dR} (h:ef R aQ s') (hR:∀e w,R=.er e w→R'=.er e w):ef R' aQ s':=by
 obtain⟨e,w,h0,h1,h2,h3⟩:=h;exact⟨e,w,hR e w h0,h1,h2,h3⟩
theorem gb {α:Type} {R:PR α} {aQ:List Int} {s:dR} {i:Nat} {e:Int} (he:s.e=0) (h:e≠0) (hR:R=.er e i):ef R aQ (iI aQ s i e)∧(iI aQ s i e).i=s.i∧(iI aQ s i e).o=s.o∧(iI aQ s i e).g=s.g:=by
 unfold iI;rw[if_pos he];exact⟨⟨e,i,hR,h,rfl,rfl⟩,rfl,rfl,rfl⟩
def fI (gs:List (Nat×Nat)) (i:Nat):List Int:=(gs.map fun g=>((g.1:Nat):Int)).drop i
theorem re {N k:Nat} {S s0:St} {H:List bh} {gs:List (Nat×Nat)} {bm:D} {s:dR} (rM:gs.length≤120) (hi:s.i≤gs.length) (hne:gs≠[]) (hH:Has N S s0 (.box k (.mem 0 false (aK gs bm s))::H)):
  ∃d ah,Ev pv 93 [.ptr k 0 0] s0 d ah∧d=.tup [.str (digS (fI gs s.i) []).1,.bool (decide (0<(digS (fI gs s.i) []).2))]∧(digS (fI gs s.i) []).1.length≤120∧s.i+(digS (fI gs s.i) []).2≤gs.length∧Has N S ah (.box k (.mem 0 false (aK gs bm {s with i:=s.i+(digS (fI gs s.i) []).2}))::H):=by
 have hb:=hH.at aG;have hw:=eJ (cs:=[.int .i64 0]) hH (hH.ge aG).1 (.inr rfl);have hl:=xj (fI gs s.i) [];unfold fI at*;obtain⟨h1,h2⟩:=hl;simp only[List.length_drop,List.length_map,List.length_nil] at h1 h2;refine⟨_,_,Ev.jK rfl ?_,rfl,by omega,by omega,hH.x9 (aq:=0) aG⟩
 have hd:decide ((gs.map fun g=>((g.1:Nat):Int))≠[]∧(0:Int)≤(s.i:Nat)∧((s.i:Nat):Int).toNat≤(gs.map fun g=>((g.1:Nat):Int)).length∧(gs.map fun g=>((g.1:Nat):Int)).length<1099511627776)=true:=by
  rw[decide_eq_true];refine⟨by simpa using hne,by omega,by simp;omega,by simp;omega⟩
 show BO [.ptr k 0 0] s0=_;simp only[BO,St.mem_of hb];show(match jr ((gs.map ba).map (jn 2)) with|some rs=>Gk s0 k 0 0 rs (s.i:Nat)|none=>none)=_;rw[oc];simp only[Gk,hd];have hwr:=iJ (cs:=[.int .i64 ((s.i+(digS ((gs.map fun g=>((g.1:Nat):Int)).drop s.i) []).2:Nat))]) (off:=2) hb (by show 2+1≤7;omega) hw;simp only[Int.toNat_natCast,Nat.zero_add];rw[hwr]
 rfl
noncomputable def lq (gs:List (Nat×Nat)) (f:Nat):PR (List Rg×Bool):=
 match gs[f+1]? with
 |none=>.er 4 f
 |some g=>
  if B1 gs (f+1)=true then .er 4 (f+1)
  else if((g.1:Nat):Int)=110 then .ok (bV [(10,10)],true) (f+2)
  else if((g.1:Nat):Int)=116 then .ok (bV [(9,9)],true) (f+2)
  else if((g.1:Nat):Int)=114 then .ok (bV [(13,13)],true) (f+2)
  else if((g.1:Nat):Int)=100 then .ok (bV [(48,57)],false) (f+2)
  else if((g.1:Nat):Int)=115 then .ok (bV [(9,10),(13,13),(32,32)],false) (f+2)
  else if((g.1:Nat):Int)=119 then .ok (bV [(48,57),(65,90),(95,95),(97,122)],false) (f+2)
  else if(33≤((g.1:Nat):Int)∧((g.1:Nat):Int)≤47∨58≤((g.1:Nat):Int)∧((g.1:Nat):Int)≤64∨91≤((g.1:Nat):Int)∧((g.1:Nat):Int)≤96∨123≤((g.1:Nat):Int)∧((g.1:Nat):Int)≤126) then .ok (bV [(((g.1:Nat):Int),((g.1:Nat):Int))],true) (f+2)
  else .er 4 f
def G4 (gs:List (Nat×Nat)) (aQ:List Int) (R:PR (List Rg×Bool)) (s s':dR) (d1:D) (b:Bool):Prop:=
 s'.o=s.o∧s'.g=s.g∧s.i≤s'.i∧s'.i≤gs.length∧(ef R aQ s'∧d1=.nul∨s'.e=0∧s.i<s'.i∧∃a,R=.ok (a,b) s'.i∧d1=aL a∧a.length≤8∧a≠[])
theorem vw {N k:Nat} {S s0:St} {H:List bh} {gs:List (Nat×Nat)} {bm:D} {aQ:List Int} {s:dR} (eC:km gs aQ) (he:s.e=0) (hi:s.i<gs.length) (hH:Has N S s0 (.box k (.mem 0 false (aK gs bm s))::.aD bm 1 (aQ.map az)::H)):
  ∃d ah,Ev pv 90 [.ptr k 0 0] s0 d ah∧∃(d1:D) (b:Bool) (s':dR),d=.tup [d1,.bool b]∧G4 gs aQ (lq gs s.i) s s' d1 b∧Has N S ah (.box k (.mem 0 false (aK gs bm s'))::.aD bm 1 (aQ.map az)::H):=by
 have rM:=eC.gl;have ka:=eC.pl;refine Ev.kT rfl Oi rfl rfl rfl ?_;refine zE ?_;have cm:=hH;have hH:=hH.cq;have b9:(ai .rw s0).bs=s0.bs:=rfl;generalize ai .rw s0=S2 at*;have xH:Arg N S2 2 (gv gs) (gs.map ba):=Arg.pure (fun st=>ej st gs);refine zQ 22 ?_;refine qT hH aG fun st hH=>?_;dsimp only[u2,u1,u3,u4,setMany,u5,u6,D.cells,Nat.reduceAdd,aK,ba,az,av] at hH;refine zQ 12 ?_;refine qn ?_;simp only[List.length_map];refine zQ 2 ?_;refine zP (fun h0=>?_) fun h0=>?_
 ·have hv:lq gs s.i=.er 4 s.i:=by
   unfold lq;rw[List.getElem?_eq_none (by omega)]
  refine zQ 4 ?_;obtain⟨_,st,aF,rfl,hH⟩:=dW (s:={s with i:=s.i+1}) s.i 4 (by omega) hH;refine qv aF ?_;refine zQ 6 ?_;obtain⟨h1,h2,h3,h4⟩:=gb (aQ:=aQ) (s:={s with i:=s.i+1}) (i:=s.i) (e:=4) he (by decide) hv;refine ag.ret ⟨rx,_,_,_,rfl,ak (rfl),?_⟩;exact⟨_,_,_,rfl,⟨h3,h4,by rw[h2];simp,by rw[h2];exact hi,.inl ⟨h1,rfl⟩⟩,cm.ax b9 hH⟩
 ·obtain⟨g,hg⟩:∃g,gs[s.i+1]?=some g:=⟨gs[s.i+1]'(by omega),List.getElem?_eq_getElem _⟩
  have gJ:(gs.map ba)[s.i+1]?=some (ba g):=by rw[List.getElem?_map,hg];rfl
  have hlt:=cQ hg;have hv:lq gs s.i=lq gs s.i:=rfl
  conv at hv=>rhs;unfold lq;simp only[hg]
  refine zQ 9 ?_;obtain⟨_,st,aF,rfl,hH⟩:=zb (s:={s with i:=s.i+1}) (s.i+1) hlt hH;refine qv aF ?_;refine zQ 1 ?_;dsimp only[aK] at hH;refine qc (fun hb=>?_) (fun hb=>?_)<;>try simp only[cs] at hb
  ·rw[if_pos hb] at hv;refine zQ 7 ?_;obtain⟨_,st,aF,rfl,hH⟩:=dW (s:={s with i:=s.i+1}) (s.i+1) 4 (by omega) hH;refine qv aF ?_;refine zQ 6 ?_;obtain⟨h1,h2,h3,h4⟩:=gb (aQ:=aQ) (s:={s with i:=s.i+1}) (i:=s.i+1) (e:=4) he (by decide) hv;refine ag.ret ⟨rx,_,_,_,rfl,ak (rfl),?_⟩;exact⟨_,_,_,rfl,⟨h3,h4,by rw[h2];simp,by rw[h2];exact hi,.inl ⟨h1,rfl⟩⟩,cm.ax b9 hH⟩
  ·rw[if_neg (by rw[hb];simp)] at hv;refine zQ 11 ?_;refine qr fun Q7 MX=>?_;refine qf (fo:=0) fun Q6 MW=>?_;refine zQ 12 ?_;refine qT hH aG fun st hH=>?_;dsimp only[u2,u1,u3,u4,setMany,u5,u6,D.cells,Nat.reduceAdd,aK,ba,az,av] at hH;refine zQ 6 ?_
   have gR:∀(a:List Rg) (b:Bool),lq gs s.i=.ok (a,b) (s.i+2)→a.length≤8→a≠[]→G4 gs aQ (lq gs s.i) s {s with i:=s.i+1+1} (aL a) b:=fun a b h0 h1 h2=>⟨rfl,rfl,by show s.i≤s.i+1+1;omega,by show s.i+1+1≤_;omega,.inr ⟨he,by show s.i<s.i+1+1;omega,a,h0,rfl,h1,h2⟩⟩
   have jy:∀(r:Int),0≤r→r<55296→(bV [(r,r)]).length≤8∧bV [(r,r)]≠[]:=by
    intro r h1 h2;obtain⟨_,h3,h4⟩:=mo (s0:=s0) (x:=aL [(r,r)]) (l:=[(r,r)]) (b_ _ _) (by simp);exact⟨by simp at h3;omega,wx h1 h2 h4⟩
   refine zQ 6 ?_;refine zI (fun q1=>?_) fun q1=>?_
   ·rw[if_pos q1] at hv;refine zQ 2 ?_;refine qv (iX 10) ?_;refine zQ 3 ?_;refine ag.ret ⟨rx,_,_,_,rfl,ak (rfl),?_⟩;exact⟨_,_,_,rfl,gR _ _ hv (jy 10 (by decide) (by decide)).1 (jy 10 (by decide) (by decide)).2,cm.ax b9 hH⟩
   ·rw[if_neg q1] at hv;refine zQ 5 ?_;refine zI (fun q2=>?_) fun q2=>?_
    ·rw[if_pos q2] at hv;refine zQ 2 ?_;refine qv (iX 9) ?_;refine zQ 3 ?_;refine ag.ret ⟨rx,_,_,_,rfl,ak (rfl),?_⟩;exact⟨_,_,_,rfl,gR _ _ hv (jy 9 (by decide) (by decide)).1 (jy 9 (by decide) (by decide)).2,cm.ax b9 hH⟩
    ·rw[if_neg q2] at hv;refine zQ 5 ?_;refine zI (fun q3=>?_) fun q3=>?_
     ·rw[if_pos q3] at hv;refine zQ 2 ?_;refine qv (iX 13) ?_;refine zQ 3 ?_;refine ag.ret ⟨rx,_,_,_,rfl,ak (rfl),?_⟩;exact⟨_,_,_,rfl,gR _ _ hv (jy 13 (by decide) (by decide)).1 (jy 13 (by decide) (by decide)).2,cm.ax b9 hH⟩
     ·rw[if_neg q3] at hv;refine zQ 5 ?_;refine zI (fun q4=>?_) fun q4=>?_
      ·rw[if_pos q4] at hv;refine zQ 2 ?_;refine ae.gE (qs:=[(0,_),(1,_)]) rfl rfl rfl rfl ⟨rfl,(ev rfl),(by rfl),rfl,(ev rfl),(by rfl),trivial⟩ (by intro q hq;simp only[List.mem_cons,List.not_mem_nil,or_false] at hq;rcases hq with rfl|rfl<;>exact⟨rfl,by exact Nat.le_of_ble_eq_true rfl⟩) (by show List.foldl _ [_,_] _=_;dsimp only[List.foldl_cons,List.foldl_nil,u2,u1]<;>rfl) (aa rfl _) ?_;refine qh (s:=2) (vs:=[_]) hH fun k73 st SF hH=>?_;obtain⟨aF,hl,Cd⟩:=mo (l:=[(48,57)]) (hH.rows aG) (by simp);refine qv aF ?_;refine zQ 3 ?_;refine ag.ret ⟨rx,_,_,_,rfl,ak (rfl),?_⟩;exact⟨_,_,_,rfl,gR _ _ hv (by simp at hl;omega) (ui (r:=48) (by decide) (by decide) ⟨_,List.mem_cons_self ..,by decide,by decide⟩ Cd),cm.ax b9 (hH.drop 1)⟩
      ·rw[if_neg q4] at hv;refine zQ 5 ?_;refine zI (fun q5=>?_) fun q5=>?_
       ·rw[if_pos q5] at hv;refine zQ 2 ?_;refine ae.gE (qs:=[(0,_),(1,_)]) rfl rfl rfl rfl ⟨rfl,(ev rfl),(by rfl),rfl,(ev rfl),(by rfl),trivial⟩ (by intro q hq;simp only[List.mem_cons,List.not_mem_nil,or_false] at hq;rcases hq with rfl|rfl<;>exact⟨rfl,by exact Nat.le_of_ble_eq_true rfl⟩) (by show List.foldl _ [_,_] _=_;dsimp only[List.foldl_cons,List.foldl_nil,u2,u1]<;>rfl) (aa rfl _) ?_;refine ae.gE (qs:=[(0,_),(1,_)]) rfl rfl rfl rfl ⟨rfl,(ev rfl),(by rfl),rfl,(ev rfl),(by rfl),trivial⟩ (by intro q hq;simp only[List.mem_cons,List.not_mem_nil,or_false] at hq;rcases hq with rfl|rfl<;>exact⟨rfl,by exact Nat.le_of_ble_eq_true rfl⟩) (by show List.foldl _ [_,_] _=_;dsimp only[List.foldl_cons,List.foldl_nil,u2,u1]<;>rfl) (aa rfl _) ?_;refine ae.gE (qs:=[(0,_),(1,_)]) rfl rfl rfl rfl ⟨rfl,(ev rfl),(by rfl),rfl,(ev rfl),(by rfl),trivial⟩ (by intro q hq;simp only[List.mem_cons,List.not_mem_nil,or_false] at hq;rcases hq with rfl|rfl<;>exact⟨rfl,by exact Nat.le_of_ble_eq_true rfl⟩) (by show List.foldl _ [_,_] _=_;dsimp only[List.foldl_cons,List.foldl_nil,u2,u1]<;>rfl) (aa rfl _) ?_;refine qh (s:=2) (vs:=[_,_,_]) hH fun k80 st SD hH=>?_;obtain⟨aF,hl,Cd⟩:=mo (l:=[(9,10),(13,13),(32,32)]) (hH.rows aG) (by simp);refine qv aF ?_;refine zQ 3 ?_;refine ag.ret ⟨rx,_,_,_,rfl,ak (rfl),?_⟩;exact⟨_,_,_,rfl,gR _ _ hv (by simp at hl;omega) (ui (r:=9) (by decide) (by decide) ⟨_,List.mem_cons_self ..,by decide,by decide⟩ Cd),cm.ax b9 (hH.drop 1)⟩
       ·rw[if_neg q5] at hv;refine zQ 5 ?_;refine zI (fun q6=>?_) fun q6=>?_
        ·rw[if_pos q6] at hv;refine zQ 2 ?_;refine ae.gE (qs:=[(0,_),(1,_)]) rfl rfl rfl rfl ⟨rfl,(ev rfl),(by rfl),rfl,(ev rfl),(by rfl),trivial⟩ (by intro q hq;simp only[List.mem_cons,List.not_mem_nil,or_false] at hq;rcases hq with rfl|rfl<;>exact⟨rfl,by exact Nat.le_of_ble_eq_true rfl⟩) (by show List.foldl _ [_,_] _=_;dsimp only[List.foldl_cons,List.foldl_nil,u2,u1]<;>rfl) (aa rfl _) ?_;refine ae.gE (qs:=[(0,_),(1,_)]) rfl rfl rfl rfl ⟨rfl,(ev rfl),(by rfl),rfl,(ev rfl),(by rfl),trivial⟩ (by intro q hq;simp only[List.mem_cons,List.not_mem_nil,or_false] at hq;rcases hq with rfl|rfl<;>exact⟨rfl,by exact Nat.le_of_ble_eq_true rfl⟩) (by show List.foldl _ [_,_] _=_;dsimp only[List.foldl_cons,List.foldl_nil,u2,u1]<;>rfl) (aa rfl _) ?_;refine ae.gE (qs:=[(0,_),(1,_)]) rfl rfl rfl rfl ⟨rfl,(ev rfl),(by rfl),rfl,(ev rfl),(by rfl),trivial⟩ (by intro q hq;simp only[List.mem_cons,List.not_mem_nil,or_false] at hq;rcases hq with rfl|rfl<;>exact⟨rfl,by exact Nat.le_of_ble_eq_true rfl⟩) (by show List.foldl _ [_,_] _=_;dsimp only[List.foldl_cons,List.foldl_nil,u2,u1]<;>rfl) (aa rfl _) ?_;refine ae.gE (qs:=[(0,_),(1,_)]) rfl rfl rfl rfl ⟨rfl,(ev rfl),(by rfl),rfl,(ev rfl),(by rfl),trivial⟩ (by intro q hq;simp only[List.mem_cons,List.not_mem_nil,or_false] at hq;rcases hq with rfl|rfl<;>exact⟨rfl,by exact Nat.le_of_ble_eq_true rfl⟩) (by show List.foldl _ [_,_] _=_;dsimp only[List.foldl_cons,List.foldl_nil,u2,u1]<;>rfl) (aa rfl _) ?_;refine qh (s:=2) (vs:=[_,_,_,_]) hH fun k88 st Ky hH=>?_;obtain⟨aF,hl,Cd⟩:=mo (l:=[(48,57),(65,90),(95,95),(97,122)]) (hH.rows aG) (by simp);refine qv aF ?_;refine zQ 3 ?_;refine ag.ret ⟨rx,_,_,_,rfl,ak (rfl),?_⟩;exact⟨_,_,_,rfl,gR _ _ hv (by simp at hl;omega) (ui (r:=48) (by decide) (by decide) ⟨_,List.mem_cons_self ..,by decide,by decide⟩ Cd),cm.ax b9 (hH.drop 1)⟩
        ·rw[if_neg q6] at hv;refine zQ 5 ?_;refine qv (FN _) ?_;refine zQ 2 ?_;refine ag.cond (by rfl) (fun q7=>?_) (fun q7=>?_)<;>try simp only[decide_eq_true_eq,decide_eq_false_iff_not,Bool.not_eq_true',Bool.not_eq_false'] at q7
         ·rw[if_neg q7] at hv;refine zQ 4 ?_;obtain⟨_,st,aF,rfl,hH⟩:=dW (s:={s with i:=s.i+1+1}) s.i 4 (by omega) hH;refine qv aF ?_;refine zQ 6 ?_;obtain⟨h1,h2,h3,h4⟩:=gb (aQ:=aQ) (s:={s with i:=s.i+1+1}) (i:=s.i) (e:=4) he (by decide) hv;refine ag.ret ⟨rx,_,_,_,rfl,ak (rfl),?_⟩;exact⟨_,_,_,rfl,⟨h3,h4,by rw[h2];show s.i≤s.i+1+1;omega,by rw[h2];show s.i+1+1≤_;omega,.inl ⟨h1,rfl⟩⟩,cm.ax b9 hH⟩
         ·rw[if_pos q7] at hv;refine zQ 4 ?_;refine qv (iX _) ?_;refine zQ 3 ?_;have hm:=jy ((g.1:Nat):Int) (by omega) (by omega);refine ag.ret ⟨rx,_,_,_,rfl,ak (rfl),?_⟩;exact⟨_,_,_,rfl,gR _ _ hv hm.1 hm.2,cm.ax b9 hH⟩
end Go.Proofs.YtpcicphadikioaaGreat
namespace Go.Proofs.YtpcicphadikioaaGreat
open Go.V Go
def yG (fr:Go.V.Fr) (k:Nat):Go.V.D:=Go.V.nth .aY fr.loc k
noncomputable def oi (gs:List (Nat×Nat)) (i:Nat):PR (Option (List Rg×Bool)):=
 match gs[i]? with
 |none=>.er 4 i
 |some g=>
  if B1 gs i=true then .er 4 i
  else if((g.1:Nat):Int)=92 then
   match lq gs i with
   | .ok (a,b) j=>.ok (some (a,b)) j
   | .er e w=>.er e w
  else if((g.1:Nat):Int)=91∨((g.1:Nat):Int)=93∨((g.1:Nat):Int)=45 then .ok none i
  else .ok (some ([(((g.1:Nat):Int),((g.1:Nat):Int))],true)) (i+1)
def Lj (gs:List (Nat×Nat)) (aQ:List Int) (R:PR (Option (List Rg×Bool))) (s s':dR) (d1:D) (b:Bool):Prop:=
 s'.o=s.o∧s'.g=s.g∧s.i≤s'.i∧s'.i≤gs.length∧(ef R aQ s'∧d1=.nul∨(s'=s∧R=.ok none s.i∧d1=.nul∧b=false)∨(s'.e=0∧s.i<s'.i∧∃a,R=.ok (some (a,b)) s'.i∧d1=aL a∧a.length≤8∧a≠[]))
theorem vV {N k:Nat} {S s0:St} {H:List bh} {gs:List (Nat×Nat)} {bm:D} {aQ:List Int} {s:dR} (eC:km gs aQ) (he:s.e=0) (hi:s.i<gs.length) (hH:Has N S s0 (.box k (.mem 0 false (aK gs bm s))::.aD bm 1 (aQ.map az)::H)):
  ∃d ah,Ev pv 109 [.ptr k 0 0] s0 d ah∧∃(d1:D) (b:Bool) (s':dR),d=.tup [d1,.bool b]∧Lj gs aQ (oi gs s.i) s s' d1 b∧Has N S ah (.box k (.mem 0 false (aK gs bm s'))::.aD bm 1 (aQ.map az)::H):=by
 have rM:=eC.gl;have ka:=eC.pl;refine Ev.kT rfl K7 rfl rfl rfl ?_;refine zE ?_;have cm:=hH;have hH:=hH.cq;have b9:(ai .rw s0).bs=s0.bs:=rfl;generalize ai .rw s0=S2 at*;have xH:Arg N S2 2 (gv gs) (gs.map ba):=Arg.pure (fun st=>ej st gs)
 obtain⟨g,hg⟩:∃g,gs[s.i]?=some g:=⟨gs[s.i]'hi,List.getElem?_eq_getElem _⟩
 have gJ:(gs.map ba)[s.i]?=some (ba g):=by rw[List.getElem?_map,hg];rfl
 have hv:oi gs s.i=oi gs s.i:=rfl
 conv at hv=>rhs;unfold oi;simp only[hg]
 refine zQ 13 ?_;obtain⟨_,st,aF,rfl,hH⟩:=zb (s:=s) s.i hi hH;refine qv aF ?_;refine zQ 1 ?_;refine qc (fun hb=>?_) (fun hb=>?_)<;>try simp only[cs] at hb
 ·rw[if_pos hb] at hv;refine zQ 7 ?_;obtain⟨_,st,aF,rfl,hH⟩:=dW (s:=s) s.i 4 (by omega) hH;refine qv aF ?_;refine zQ 6 ?_;obtain⟨h1,h2,h3,h4⟩:=gb (aQ:=aQ) (s:=s) (i:=s.i) (e:=4) he (by decide) hv;refine ag.ret ⟨rx,_,_,_,rfl,ak (rfl),?_⟩;exact⟨_,_,_,rfl,⟨h3,h4,by rw[h2];exact Nat.le_refl _,by rw[h2];omega,.inl ⟨h1,rfl⟩⟩,cm.ax b9 hH⟩
 ·rw[if_neg (by rw[hb];simp)] at hv;refine zQ 11 ?_;refine qr fun L' HW=>?_;refine qf (fo:=0) fun PV J5=>?_;refine zQ 13 ?_;refine zI (fun q1=>?_) fun q1=>?_
  ·rw[if_pos q1] at hv;refine zQ 3 ?_;obtain⟨_,st,aF,d1,b,s',rfl,⟨p1,p2,p3,p4,p5⟩,hH⟩:=vw (s:=s) eC he hi hH;refine qv aF ?_;refine zQ 5 ?_
   rcases p5 with⟨p5,rfl⟩|⟨p5,p6,a,p7,rfl,p8,p9⟩
   ·refine ag.ret ⟨rx,_,_,_,rfl,ak (rfl),?_⟩;exact⟨_,_,_,rfl,⟨p1,p2,p3,p4,.inl ⟨p5.map fun e w h=>by rw[hv,h],rfl⟩⟩,cm.ax b9 hH⟩
   ·refine ag.ret ⟨rx,_,_,_,rfl,ak (rfl),?_⟩;exact⟨_,_,_,rfl,⟨p1,p2,p3,p4,.inr (.inr ⟨p5,p6,a,by rw[hv,p7],rfl,p8,p9⟩)⟩,cm.ax b9 hH⟩
  ·rw[if_neg q1] at hv;refine zQ 6 ?_
   by_cases Fq:((g.1:Nat):Int)=91
   ·rw[if_pos (.inl Fq)] at hv;refine qD rfl (by simp[Fq]) ?_;refine zQ 1 ?_;refine qD rfl (by simp[Fq]) ?_;refine zQ 5 ?_;refine ag.ret ⟨rx,_,_,_,rfl,ak (rfl),?_⟩;exact⟨_,_,s,rfl,⟨rfl,rfl,Nat.le_refl _,by omega,.inr (.inl ⟨rfl,hv,rfl,rfl⟩)⟩,cm.ax b9 hH⟩
   refine qE rfl (by simp[Fq]) ?_;refine zQ 5 ?_
   by_cases Jv:((g.1:Nat):Int)=93
   ·rw[if_pos (.inr (.inl Jv))] at hv;refine qD rfl (by simp[Jv]) ?_;refine zQ 1 ?_;refine qD rfl (by simp[Jv]) ?_;refine zQ 5 ?_;refine ag.ret ⟨rx,_,_,_,rfl,ak (rfl),?_⟩;exact⟨_,_,s,rfl,⟨rfl,rfl,Nat.le_refl _,by omega,.inr (.inl ⟨rfl,hv,rfl,rfl⟩)⟩,cm.ax b9 hH⟩
   refine qE rfl (by simp[Jv]) ?_;refine zQ 4 ?_
   by_cases Lo:((g.1:Nat):Int)=45
   ·rw[if_pos (.inr (.inr Lo))] at hv;refine qD rfl (by simp[Lo]) ?_;refine zQ 5 ?_;refine ag.ret ⟨rx,_,_,_,rfl,ak (rfl),?_⟩;exact⟨_,_,s,rfl,⟨rfl,rfl,Nat.le_refl _,by omega,.inr (.inl ⟨rfl,hv,rfl,rfl⟩)⟩,cm.ax b9 hH⟩
   refine qE rfl (by simp[Lo]) ?_;rw[if_neg (by rintro(h|h|h);exact Fq h;exact Jv h;exact Lo h)] at hv;refine zQ 9 ?_;refine qT hH aG fun st hH=>?_;dsimp only[u2,u1,u3,u4,setMany,u5,u6,D.cells,Nat.reduceAdd,aK,ba,az,av] at hH;refine zQ 5 ?_;refine ae.gE (qs:=[(0,_),(1,_)]) rfl rfl rfl rfl ⟨rfl,(ev rfl),(by rfl),rfl,(ev rfl),(by rfl),trivial⟩ (by intro q hq;simp only[List.mem_cons,List.not_mem_nil,or_false] at hq;rcases hq with rfl|rfl<;>exact⟨rfl,by exact Nat.le_of_ble_eq_true rfl⟩) (by show List.foldl _ [_,_] _=_;dsimp only[List.foldl_cons,List.foldl_nil,u2,u1]<;>rfl) (aa rfl _) ?_;refine qh (s:=2) (vs:=[_]) hH fun k39 st SL hH=>?_;refine zQ 3 ?_;have hH:Has N S2 st (.aD (.win k39 0 0 1 2) 2 (([((g.1:Nat),(g.1:Nat))]:List Rg).map av)::.box k (.mem 0 false (aK gs bm {s with i:=s.i+1}))::.aD bm 1 (aQ.map az)::H):=hH;have hfz:=oD hH aG (L:=s0.bs.length) (n:=15) (fun k hk=>by simp only[D.ref] at hk;rw[←b9];omega) (by decide)
   have NK:aB st s0.bs.length true 16 (rC [.win k39 0 0 1 2,.bool true])=some (.tup [aL [(((g.1:Nat):Int),((g.1:Nat):Int))],.bool true]):=by
    show(cH (aB st s0.bs.length true 15) [.win k39 0 0 1 2,.bool true]).map D.tup=_;simp only[cH,BI,hfz];rfl
   refine ag.ret ⟨rx,_,_,_,rfl,ak NK,⟨_,_,{s with i:=s.i+1},rfl,⟨rfl,rfl,?_,?_,.inr (.inr ⟨he,?_,_,hv,rfl,by simp,by simp⟩)⟩,cm.ax b9 (hH.drop 1)⟩⟩
   ·show s.i≤s.i+1;omega
   ·show s.i+1≤_;omega
   ·show s.i<s.i+1;omega
def wB:List Rg→Int
 |[]=>0
 |q::_=>q.1
noncomputable def jI (gs:List (Nat×Nat)) (i:Nat):PR (List Rg):=
 match oi gs i with
 | .er e w=>.er e w
 | .ok none _=>.er 4 i
 | .ok (some (a,one)) j=>
  if dG gs j 45=true then
   if j+1<gs.length then
    match oi gs (j+1) with
    | .er e w=>.er e w
    | .ok none _=>.er 4 i
    | .ok (some (b,two)) l=>if one=true∧two=true∧wB a≤wB b then .ok [(wB a,wB b)] l else .er 4 i
   else .er 4 i
  else .ok a j
def G6 (gs:List (Nat×Nat)) (aQ:List Int) (R:PR (List Rg)) (s s':dR) (d:D):Prop:=
 s'.o=s.o∧s'.g=s.g∧s.i≤s'.i∧s'.i≤gs.length∧∃a:List Rg,d=aL a∧a.length≤8∧(ef R aQ s'∨s'.e=0∧s.i<s'.i∧R=.ok a s'.i)
theorem Dt {N k:Nat} {S s0:St} {H:List bh} {gs:List (Nat×Nat)} {bm:D} {aQ:List Int} {s:dR} (eC:km gs aQ) (he:s.e=0) (hi:s.i<gs.length) (hH:Has N S s0 (.box k (.mem 0 false (aK gs bm s))::.aD bm 1 (aQ.map az)::H)):
  ∃d ah,Ev pv 101 [.ptr k 0 0] s0 d ah∧∃(s':dR),G6 gs aQ (jI gs s.i) s s' d∧Has N S ah (.box k (.mem 0 false (aK gs bm s'))::.aD bm 1 (aQ.map az)::H):=by
 have rM:=eC.gl;have ka:=eC.pl;refine Ev.kT rfl K_ rfl rfl rfl ?_;refine zE ?_;have cm:=hH;have hH:=hH.cq;have b9:(ai .rw s0).bs=s0.bs:=rfl;generalize ai .rw s0=S2 at*;have xH:Arg N S2 2 (gv gs) (gs.map ba):=Arg.pure (fun st=>ej st gs)
 have hwr:∀(st:St) (s3:dR),s3.e=0→jI gs s.i=.er 4 s.i→s3.o=s.o→s3.g=s.g→s.i≤s3.i→s3.i≤gs.length→Has N S2 st (.box k (.mem 0 false (aK gs bm s3))::.aD bm 1 (aQ.map az)::H)→∃d ah,Ev pv 27 [.ptr k 0 0,.int .i64 (s.i:Nat),.int .i64 4] st d ah∧d=.sl []∧∃s4:dR,s4.e≠0∧G6 gs aQ (jI gs s.i) s s4 (.sl [])∧Has N S2 ah (.box k (.mem 0 false (aK gs bm s4))::.aD bm 1 (aQ.map az)::H):=by
  intro st s3 h1 hv h2 h3 h4 h5 hH;obtain⟨d,ah,aF,h6,hH⟩:=dW (s:=s3) s.i 4 (by omega) hH;obtain⟨w1,w2,w3,w4⟩:=gb (aQ:=aQ) (s:=s3) (i:=s.i) (e:=4) h1 (by decide) hv;exact⟨d,ah,aF,h6,_,w1.ne,⟨w3.trans h2,w4.trans h3,by omega,by omega,[],rfl,by simp,.inl w1⟩,hH⟩
 have ry:jI gs s.i=match oi gs s.i with
  | .er e w=>.er e w
  | .ok none _=>.er 4 s.i
  | .ok (some (a,one)) j=>
   if dG gs j 45=true then
    if j+1<gs.length then
     match oi gs (j+1) with
     | .er e w=>.er e w
     | .ok none _=>.er 4 s.i
     | .ok (some (b,two)) l=>if one=true∧two=true∧wB a≤wB b then .ok [(wB a,wB b)] l else .er 4 s.i
    else .er 4 s.i
   else .ok a j:=rfl
 refine zQ 15 ?_;obtain⟨_,st,aF,d1,b,s1,rfl,⟨p1,p2,p3,p4,p5⟩,hH⟩:=vV (s:=s) eC he hi hH;refine qv aF ?_;refine zQ 15 ?_
 rcases p5 with⟨p5,rfl⟩|⟨e1,e2,rfl,rfl⟩|⟨p6,p7,a,e2,rfl,p8,p9⟩
 ·have hne:=p5.ne;refine qD rfl (by simp[hne]) ?_;refine zQ 4 ?_;refine ag.ret ⟨rx,_,_,_,rfl,ak (rfl),?_⟩;exact⟨s1,⟨p1,p2,p3,p4,[],rfl,by simp,.inl (p5.map fun e w h=>by rw[ry,h])⟩,cm.ax b9 hH⟩
 ·rw[e2] at ry;simp only at ry;have e3:s1.e=0:=by rw[e1];exact he
  refine qE rfl (by simp[e3]) ?_;refine zQ 5 ?_;refine ae.go (d:=.bool true) (st1:=_) rfl rfl rfl (aa rfl _) ?_;refine zQ 6 ?_;obtain⟨_,st,aF,rfl,s4,Sl,hX,hH⟩:=hwr _ s1 e3 ry p1 p2 p3 p4 hH;refine qv aF ?_;refine zQ 5 ?_;refine ag.ret ⟨rx,_,_,_,rfl,ak (rfl),?_⟩;exact⟨s4,hX,cm.ax b9 hH⟩
 ·rw[e2] at ry;simp only at ry;obtain⟨q,a',rfl⟩:∃q a',a=q::a':=List.exists_cons_of_ne_nil p9;refine qE rfl (by simp[p6]) ?_;refine zQ 5 ?_;refine ae.go (d:=.bool false) (st1:=_) rfl rfl rfl (aa rfl _) ?_;refine zQ 3 ?_;obtain⟨k1,k2,k3,k4,k5⟩:=gC (gs:=gs) (s:=s1) (r:=45);have k5:=k5 p4;refine zQ 4 ?_;obtain⟨_,st,aF,rfl,hH⟩:=dP (s:=s1) (by omega) 45 hH;refine qv aF ?_;refine zQ 2 ?_;have HM:dG gs s1.i 45=true→(bF gs s1 45).i=s1.i+1:=fun h=>by unfold bF;rw[if_pos h]
  have oz:dG gs s1.i 45=false→(bF gs s1 45).i=s1.i:=fun h=>by unfold bF;rw[if_neg (by rw[h];simp)]
  generalize bF gs s1 45=s2 at*
  cases hb:dG gs s1.i 45 with
  |false=>
   have oz:=oz hb;rw[hb,if_neg (by simp),←oz] at ry;refine zQ 6 ?_;refine ag.ret ⟨rx,_,_,_,rfl,ak (rfl),?_⟩;exact⟨s2,⟨k1.trans p1,k2.trans p2,by omega,k5,q::a',rfl,p8,.inr ⟨k3.trans p6,by omega,ry⟩⟩,cm.ax b9 hH⟩
  |true=>
   have HM:=HM hb;rw[hb,if_pos rfl,←HM] at ry;refine zQ 21 ?_;refine qn ?_;simp only[List.length_map];refine zQ 2 ?_;refine ag.merge (fun fr st=>∃(d2:D) (two:Bool) (s3:dR) (tmp:List (Nat×D)),fr=⟨8,[.ptr k 0 0,yG fr 1,yG fr 2,.int .i64 (s.i:Nat),aL (q::a'),.bool b,d2,.bool two],tmp⟩∧Has N S2 st (.box k (.mem 0 false (aK gs bm s3))::.aD bm 1 (aQ.map az)::H)∧(s3.o=s.o)∧(s3.g=s.g)∧(s2.i≤s3.i)∧(s3.i≤gs.length)∧(ef (jI gs s.i) aQ s3∨s3.e=0∧(two=false∧jI gs s.i=.er 4 s.i∨∃a2:List Rg,d2=aL a2∧a2≠[]∧jI gs s.i=if b=true∧two=true∧wB (q::a')≤wB a2 then .ok [(wB (q::a'),wB a2)] s3.i else .er 4 s.i))) ?_ ?_
   ·refine zP (fun hlt=>?_) fun hlt=>?_
    ·have Nh:s2.i<gs.length:=by omega
     rw[if_pos Nh] at ry;refine zQ 2 ?_;obtain⟨_,st,aF,d2,two,s3,rfl,⟨r1,r2,r3,r4,r5⟩,hH⟩:=vV (s:=s2) eC (k3.trans p6) (by omega) hH;refine qv aF ?_;refine zQ 6 ?_
     rcases r5 with⟨r5,rfl⟩|⟨e4,e5,rfl,rfl⟩|⟨r6,r7,a2,e5,rfl,r8,r9⟩
     ·exact⟨.nul,two,s3,_,rfl,hH,r1.trans (k1.trans p1),r2.trans (k2.trans p2),r3,r4,.inl (r5.map fun e w h=>by rw[ry,h])⟩
     ·rw[e5] at ry;simp only at ry;exact⟨.nul,false,s3,_,rfl,hH,r1.trans (k1.trans p1),r2.trans (k2.trans p2),r3,r4,.inr ⟨by rw[e4];exact k3.trans p6,.inl ⟨rfl,ry⟩⟩⟩
     ·rw[e5] at ry;simp only at ry;exact⟨aL a2,two,s3,_,rfl,hH,r1.trans (k1.trans p1),r2.trans (k2.trans p2),r3,r4,.inr ⟨r6,.inr ⟨a2,rfl,r9,ry⟩⟩⟩
    ·rw[if_neg (by omega)] at ry;refine zQ 1 ?_;exact⟨.nul,false,s2,_,rfl,hH,k1.trans p1,k2.trans p2,Nat.le_refl _,k5,.inr ⟨k3.trans p6,.inl ⟨rfl,ry⟩⟩⟩
   ·rintro fr st ⟨d2,two,s3,tmp,hfr,hH,h1,h2,h3,h4,h5⟩;rw[hfr];clear hfr;generalize yG fr=ee;clear fr
    rcases h5 with h5|⟨h5,h6⟩
    ·have hne:=h5.ne;have fY:(s3.e==0)=false:=by simpa using hne
     refine zQ 39 ?_;refine qD rfl (by simp[hne]) ?_;refine zQ 4 ?_;refine ag.ret ⟨rx,_,_,_,rfl,ak (rfl),?_⟩;exact⟨s3,⟨h1,h2,by omega,h4,[],rfl,by simp,.inl h5⟩,cm.ax b9 hH⟩
    ·have fY:(s3.e==0)=true:=by simpa using h5
     cases b with
     |false=>
      have rv:jI gs s.i=.er 4 s.i:=by
       rcases h6 with⟨_,h⟩|⟨a2,_,_,h⟩
       ·exact h
       ·rw[h,if_neg (by simp)]
      have dv:(!false)=true:=rfl;refine zQ 14 ?_;refine ae.cF (aj rfl rfl rfl fY) rfl dv (aa rfl _) ?_;refine zQ 17 ?_;obtain⟨_,st,aF,rfl,s4,w1,hX,hH⟩:=hwr _ s3 h5 rv h1 h2 (by omega) h4 hH;refine qv aF ?_;refine zQ 10 ?_;refine qD rfl (by simp[w1]) ?_;refine zQ 4 ?_;refine ag.ret ⟨rx,_,_,_,rfl,ak (rfl),?_⟩;exact⟨s4,hX,cm.ax b9 hH⟩
     |true=>
      have dv:(!true)=false:=rfl
      cases two with
      |false=>
       have rv:jI gs s.i=.er 4 s.i:=by
        rcases h6 with⟨_,h⟩|⟨a2,_,_,h⟩
        ·exact h
        ·rw[h,if_neg (by simp)]
       have gu:(!false)=true:=rfl;refine zQ 14 ?_;refine ae.cp (aj rfl rfl rfl fY) rfl dv (aa rfl _) ?_;refine zQ 10 ?_;refine ae.cF (aj rfl rfl rfl fY) rfl gu (aa rfl _) ?_;refine zQ 6 ?_;obtain⟨_,st,aF,rfl,s4,w1,hX,hH⟩:=hwr _ s3 h5 rv h1 h2 (by omega) h4 hH;refine qv aF ?_;refine zQ 10 ?_;refine qD rfl (by simp[w1]) ?_;refine zQ 4 ?_;refine ag.ret ⟨rx,_,_,_,rfl,ak (rfl),?_⟩;exact⟨s4,hX,cm.ax b9 hH⟩
      |true=>
       have gu:(!true)=false:=rfl
       obtain⟨a2,rfl,h7,rv⟩:∃a2:List Rg,d2=aL a2∧a2≠[]∧jI gs s.i=if true=true∧true=true∧wB (q::a')≤wB a2 then .ok [(wB (q::a'),wB a2)] s3.i else .er 4 s.i:=by
        rcases h6 with h6|h6
        ·cases h6.1
        ·exact h6
       obtain⟨q2,QG,rfl⟩:∃q a',a2=q::a':=List.exists_cons_of_ne_nil h7
       have rv:jI gs s.i=if q.1≤q2.1 then .ok [(q.1,q2.1)] s3.i else .er 4 s.i:=by
        rw[rv];simp[wB]
       have Qc:=(fR (q::a')).arg N S2;have RY:=(fR (q2::QG)).arg N S2;have GR:((q::a').map av)[0]?=some (av q):=rfl;have gJ:((q2::QG).map av)[0]?=some (av q2):=rfl;refine zQ 14 ?_;refine ae.cp (aj rfl rfl rfl fY) rfl dv (aa rfl _) ?_;refine zQ 2 ?_;refine qr (fun PQ J1=>?_) (hg:=wi gu);refine qf (fo:=0) (fun Ud Sc=>?_) (hg:=wi gu);refine zQ 2 ?_;refine qr (fun PO J0=>?_) (hg:=wi gu);refine qf (fo:=0) (fun Q5 MV=>?_) (hg:=wi gu);refine zQ 2 ?_;refine ae.cp (aj rfl rfl rfl fY) rfl gu (aa rfl _) ?_;refine zQ 2 ?_;refine zP (fun hgt=>?_) fun hgt=>?_
       ·rw[if_neg (by omega)] at rv;refine zQ 3 ?_;obtain⟨_,st,aF,rfl,s4,w1,hX,hH⟩:=hwr _ s3 h5 rv h1 h2 (by omega) h4 hH;refine qv aF ?_;refine zQ 10 ?_;refine qD rfl (by simp[w1]) ?_;refine zQ 4 ?_;refine ag.ret ⟨rx,_,_,_,rfl,ak (rfl),?_⟩;exact⟨s4,hX,cm.ax b9 hH⟩
       ·rw[if_pos (by omega)] at rv;refine zQ 10 ?_;refine qE rfl (by simp[h5]) ?_;refine zQ 4 ?_;refine qr fun Q3 MU=>?_;refine qf (fo:=0) fun T_ R9=>?_;refine zQ 2 ?_;refine qr fun T8 R7=>?_;refine qf (fo:=0) fun T7 R6=>?_;refine qR ?_;refine ae.gE (qs:=[(0,_),(1,_)]) rfl rfl rfl rfl ⟨rfl,(ev rfl),(by rfl),rfl,(ev rfl),(by rfl),trivial⟩ (by intro q hq;simp only[List.mem_cons,List.not_mem_nil,or_false] at hq;rcases hq with rfl|rfl<;>exact⟨rfl,by exact Nat.le_of_ble_eq_true rfl⟩) (by show List.foldl _ [_,_] _=_;dsimp only[List.foldl_cons,List.foldl_nil,u2,u1]<;>rfl) (aa rfl _) ?_;refine qh (s:=2) (vs:=[_]) hH fun k87 st SC hH=>?_;dsimp only[u2,u1,u3,u4,setMany,u5,u6,D.cells,Nat.reduceAdd,aK,ba,az,av] at hH;refine zQ 2 ?_;have hH:Has N S2 st (.aD (.win k87 0 0 1 2) 2 (([(q.1,q2.1)]:List Rg).map av)::.box k (.mem 0 false (aK gs bm s3))::.aD bm 1 (aQ.map az)::H):=hH;have hfz:=oD hH aG (L:=s0.bs.length) (n:=16) (fun k hk=>by simp only[D.ref] at hk;rw[←b9];omega) (by decide);refine ag.ret ⟨rx,_,_,_,rfl,ak hfz,⟨s3,⟨h1,h2,by omega,h4,[(q.1,q2.1)],rfl,by simp,.inr ⟨h5,by omega,rv⟩⟩,cm.ax b9 (hH.drop 1)⟩⟩
end Go.Proofs.YtpcicphadikioaaGreat
