/-
 simple.Make.
-/
import Derived.Test.YtecjacicdpejaaaGreatXGEg
import Derived.Test.YtecjacicdpejaaaGreatXGPb
import Derived.Test.YtecjacicdpejaaaGreatXKa
import Derived.Test.YtecjacicdpejaaaGreatXGCa
import Derived.Test.YtecjacicdpejaaaGreatXM2
import Derived.Test.YtecjacicdpejaaaGreatXGQh
import Derived.Test.YtecjacicdpejaaaGreatXDig
set_option maxRecDepth 100000
set_option maxHeartbeats 4000000
set_option linter.unusedSimpArgs false
set_option linter.unusedVariables false
namespace Go.Proofs.YtecjacicdpejaaaGreat
open Go.V Go
def cU (fr:Go.V.Fr) (k:Nat):Go.V.D:=Go.V.nth .bp fr.loc k
mutual
def Tr.gd:Tr→Prop
 | .mk n ks=>(n.op=5→1≤ks.len∧0≤n.mn)∧ks.gd
def aO.gd:aO→Prop
 | .nil=>True
 | .cons t ts=>t.gd∧ts.gd
end
theorem Cr:∀{ks:aO},ks.gd↔∀t∈ks.l,t.gd
 | .nil=>by simp[aO.gd,aO.l]
 | .cons t ts=>by simp only[aO.gd,aO.l,List.mem_cons,forall_eq_or_imp,Cr (ks:=ts)]
def GL (l:List Tr):Prop:=∀t∈l,t.gd
theorem Tr.tm {t:Tr}:t.gd↔(t.n.op=5→t.ks≠[]∧0≤t.n.mn)∧GL t.ks:=by
 cases t with
 |mk n ks=>
  simp only[Tr.gd,Tr.n,Tr.ks,GL,Cr,←mf];have:(1≤ks.l.length)↔ks.l≠[]:=by cases ks.l<;>simp
  rw[this]
theorem zK {n:bB} {l:List Tr}:(Tr.mk n (dR l)).gd↔(n.op=5→l≠[]∧0≤n.mn)∧GL l:=by
 rw[Tr.tm];simp only[Tr.n,Tr.ks,lp]
mutual
theorem GS:∀t:Tr,t.ok→t.gd
 | .mk n ks,h=>by
  simp only[Tr.ok] at h;simp only[Tr.gd];refine⟨fun h5=>?_,C' ks h.2⟩;have h1:=h.1.2;simp only[h5] at h1;omega
theorem C':∀ts:aO,ts.ok→ts.gd
 | .nil,_=>trivial
 | .cons t ts,h=>⟨GS t h.1,C' ts h.2⟩
end
theorem sG {op:Int} {l:List Tr} (h:GL l):GL (bm op l):=by
 intro t ht;obtain⟨u,hu,ht⟩:=List.mem_flatMap.1 ht
 split at ht
 ·exact(Tr.tm.1 (h u hu)).2 t ht
 ·simp only[List.mem_cons,List.not_mem_nil,or_false] at ht;rw[ht];exact h u hu
theorem xQ {op:Int} {l:List Tr} (ho:op≠5) (h:GL l):(AJ op l).gd:=zK.2 ⟨fun h5=>absurd h5 ho,h⟩
theorem vq {op:Int} {l:List Tr} (ho:op≠5) (h:GL l):(f_ op l).gd:=by
 unfold f_
 split
 ·exact xQ (by decide) (by intro t ht;cases ht)
 ·exact h _ (List.mem_cons_self ..)
 ·exact xQ ho h
theorem uV {b:List Tr} {a:Tr} (hb:GL b) (ha:a.gd):GL (b++[a]):=by
 intro t ht
 rcases List.mem_append.1 ht with ht|ht
 ·exact hb t ht
 ·simp only[List.mem_cons,List.not_mem_nil,or_false] at ht;rw[ht];exact ha
theorem Fx {l:List Tr} (h:GL l):GL (cQ l):=by
 unfold cQ;refine mN (P:=GL) (fun b a ha hb=>?_) _ (by intro t ht;cases ht)
 split
 ·exact hb
 ·exact uV hb (h a ha)
theorem IZ (a b:List Rg):(o0 a b).gd:=by
 unfold o0;simp only[Tr.gd,aO.gd,and_true];intro h;cases h
theorem FP {b:List Tr} {a:Tr} (hb:GL b) (ha:a.gd):GL (gI b a):=by
 unfold gI
 split
 ·split
  ·intro t ht
   rcases List.mem_or_eq_of_mem_set ht with ht|rfl
   ·exact hb t ht
   ·exact IZ _ _
  ·exact uV hb ha
 ·exact uV hb ha
theorem Bm {l:List Tr} (h:GL l):GL (cu l):=by
 unfold cu;exact mN (P:=GL) (fun b a ha hb=>FP hb (h a ha)) _ (by intro t ht;cases ht)
theorem xy:∀(f:Nat) {l:List Tr},GL l→GL (iN f l)
 |0,l,h=>h
 |f+1,l,h=>by
  unfold iN
  split
  ·exact h
  ·exact xy f (Bm (Fx h))
theorem Ht {n:bB} {k:Tr} {l:List Tr} (hn:n.op=5→0≤n.mn) (h:GL l) (hk:k∈l):(vM n k l).gd:=by
 have hkk:=h k hk;obtain⟨h1,h2⟩:=Tr.tm.1 hkk;unfold vM
 split
 ·exact hkk
 split
 ·exact hkk
 split
 ·exact xQ (by decide) (by intro t ht;cases ht)
 split
 ·rename_i ho;simp only[Bool.and_eq_true] at ho;have a1:=(pe ho.1).1;have a2:=(pe ho.2.1).1;exact zK.2 ⟨fun _=>⟨(h1 a2).1,Int.mul_nonneg (h1 a2).2 (hn a1)⟩,h2⟩
 ·exact zK.2 ⟨fun h5=>⟨List.ne_nil_of_mem hk,hn h5⟩,h⟩
theorem Dr {n:bB} {l:List Tr} (hn:n.op=5→l≠[]∧0≤n.mn) (h:GL l):(oE n l).gd:=by
 unfold oE
 split
 ·exact vq (by decide) fun t ht=>sG h t (List.mem_filter.1 ht).1
 split
 ·exact vq (by decide) (xy _ (sG h))
 split
 ·rename_i h5
  cases l with
  |nil=>exact absurd rfl (hn h5).1
  |cons k l=>exact Ht (fun h=>(hn h).2) h (List.mem_cons_self ..)
 ·rename_i h5;exact zK.2 ⟨fun h=>absurd h h5,h⟩
theorem zQ:∀(m:Nat) (t:Tr),t.eM≤m→t.gd→t.less.gd
 |0,t,h,_=>by have:=Tr.dQ t;omega
 |m+1,t,h,hg=>by
  have KR:=Tr.dQ t;obtain⟨h1,h2⟩:=Tr.tm.1 hg;rw[Tr.zR];refine Dr (fun h5=>⟨?_,(h1 h5).2⟩) fun k hk=>?_
  ·have:=(h1 h5).1;simpa using this
  ·obtain⟨u,hu,rfl⟩:=List.mem_map.1 hk;exact zQ m u (by have:=eT hu;omega) (h2 u hu)
theorem wE:∀(m:Nat) (t:Tr),t.eM≤m→m≤1048575→t.fa ma→t.gd→∀s0:St,Ev pv 173 [.agg (tC t)] s0 (.agg (tC t.less)) s0
 |0,t,h,_,_,_,_=>by have:=Tr.dQ t;omega
 |m+1,t,h,hm,hfa,hg,s0=>by
  have KR:=Tr.dQ t;have jF:=cK t.ks;obtain⟨hn,rZ⟩:=Tr.d_.1 hfa;obtain⟨ba,Nd⟩:=Tr.tm.1 hg;have yM:=hn.1;have rY:V.Rows s0 8 (dD t.ks) (t.ks.map tC):=ew s0 rZ;have E0:=aO.gH (dR t.ks) (by rw[tP,lp];exact rZ);rw[pB,lp,o5,lp] at E0;obtain⟨E0,OU⟩:=E0
  have S0:GL (t.ks.map Tr.less):=fun k hk=>by
   obtain⟨u,hu,rfl⟩:=List.mem_map.1 hk;exact zQ _ u (Nat.le_refl _) (Nd u hu)
  have wN:=(Tr.gH t hfa).1;have G2:=Tr.zR t;refine Ev.jq rfl Mf rfl rfl rfl ?_;dsimp only[u3,u4,List.length,Nat.reduceSub,Nat.reduceAdd,w1,w2];obtain⟨bf,hF,hH⟩:=ri s0;generalize ai .ro s0=S at*;have kV:=Arg.of rY bf;refine qq<|qj fun K hK=>qb hH fun k1 st lR hH=>?_;dsimp only[u2,u1,u3,u4,setMany,u5,u6,D.cells,Nat.reduceAdd,tC,b_,aG] at hH;refine qa hH fun k2 st hk2 hH=>?_;refine qe hK ?_;have hH:Has s0.bs.length S st (.box k2 (.mem 0 false tz)::.box k1 (.mem 0 false (tC t))::[]):=hH;refine qq<|qj fun K hK=>qp (o:=7) ?_;refine ql hH aX ?_;refine qn ?_;simp only[List.length_map];refine ae.Ij (m:=((t.ks.length:Nat):Int)) hH rfl (ev rfl) (ev rfl) rfl rfl rfl rfl rfl (by decide) (by omega) (fun _=>by dsimp only[Fr.put,u1,u2]<;>rfl) (fun k9 st QN hH=>?_);refine qm ?_;refine qe hK<|qq<|qq<|qj fun K hK=>qp (o:=7) ?_;refine ql hH bV ?_;refine qn ?_;simp only[List.length_map];refine qm ?_;refine qe hK<|ag.block<|ag.loop (fun mm fr st=>∃(i:Nat) (y:D),fr.clean=⟨28,[cU fr 0,.ptr k1 0 0,.ptr k2 0 0,y,cU fr 4,cU fr 5,cU fr 6,cU fr 7,cU fr 8,cU fr 9,cU fr 10,dD t.ks,.int .i64 (t.ks.length:Nat),.int .i64 (i:Nat),cU fr 14,cU fr 15,cU fr 16,cU fr 17,cU fr 18,cU fr 19,cU fr 20,cU fr 21,cU fr 22,cU fr 23,cU fr 24,cU fr 25,cU fr 26,cU fr 27],[]⟩∧Has s0.bs.length S st (.aE y 8 (((t.ks.take i).map Tr.less).map tC)::.box k2 (.mem 0 false tz)::.box k1 (.mem 0 false (tC t))::[])∧(i+mm=t.ks.length)∧(∀k,y.ref=k+1→S.bs.length≤k)) (t.ks.length) ?_ ?_
  ·exact⟨0,.win k9 0 0 0 8,rfl,hH,by omega,(fun k hk=>by simp only[D.ref] at hk;omega)⟩
  rintro mm fr st ⟨i,y,hfr,hH,hi,gO⟩;rw[hfr];clear hfr;generalize cU fr=ee;clear fr;refine qq<|qj fun K hK=>qg ?_;refine qe hK<|qq ?_;refine ag.cond (by rfl) (fun h1=>?_) (fun h1=>?_)<;>try simp only[decide_eq_true_eq,decide_eq_false_iff_not] at h1
  ·refine ag.skip ?_
   obtain⟨p,hp⟩:∃p,t.ks[i]?=some p:=⟨t.ks[i]'(by omega),List.getElem?_eq_getElem _⟩
   have uK:=List.mem_of_getElem? hp;have Jn:=eT uK;have gN:=lu hp;have yL:=fun st=>wE m p (by omega) (by omega) (rZ p uK) (Nd p uK) st;refine qq<|ag.block<|qq<|qj fun K hK=>qr fun RK OJ=>?_;refine ae.dj rfl (ev rfl) (by assumption) rfl (by dsimp only[Fr.put,u1,u2]<;>rfl) ?_;refine qa hH fun k5 st Gb hH=>?_;dsimp only[u2,u1,u3,u4,setMany,u5,u6,D.cells,Nat.reduceAdd,tC,b_,aG] at hH;refine qS hH ax fun st hH=>?_;dsimp only[u2,u1,u3,u4,setMany,u5,u6,D.cells,Nat.reduceAdd,tC,b_,aG] at hH;refine qe hK ?_;have hH:Has s0.bs.length S st (.box k5 (.mem 0 false (tC p))::.aE y 8 (((t.ks.take i).map Tr.less).map tC)::.box k2 (.mem 0 false tz)::.box k1 (.mem 0 false (tC t))::[]):=hH;refine qj fun K hK=>qm ?_;refine ae.aV (m:=8) (r:=tC p) hH rfl (ev rfl) ax rfl rfl rfl (by dsimp only[Fr.put,u1,u2]<;>rfl) ?_;refine qv (yL _) ?_;refine qh (s:=8) (vs:=[_]) hH fun k20 st O6 hH=>?_;dsimp only[u2,u1,u3,u4,setMany,u5,u6,D.cells,Nat.reduceAdd,tC,b_,aG] at hH;refine ae.cB (s:=8) hH rfl (ev rfl) (ev rfl) bV (hH.rows ax) rfl rfl rfl rfl rfl rfl rfl ⟨(Nat.le_of_ble_eq_true rfl),(Nat.le_of_ble_eq_true rfl)⟩ (fun _=>by dsimp only[Fr.put,u1,u2]<;>rfl) (by simp only[List.length_map,List.length_take,List.length_cons,List.length_nil];omega) (.inl hF) gO (fun Qf st gO hH=>?_);dsimp only[u1,u2] at hH;refine qm ?_;refine qe hK ?_;have hH:=hH.drop 2;refine qj fun K hK=>qA ?_;refine qm ?_;refine qe hK ?_;exact⟨mm-1,by omega,⟨i+1,Qf,rfl,(by rw[List.take_add_one,hp,List.map_append,List.map_append];exact hH),by omega,gO⟩⟩
  ·refine ag.exit ?_;have Jt:i=t.ks.length:=by omega
   rw[Jt,List.take_length] at hH;clear Jt hi h1;generalize hl:t.ks.map Tr.less=l at*;refine qq<|qj fun K hK=>qm ?_;refine qp (o:=7) ?_;refine qT hH bV (fun st hH=>?_) (hcs:=hH.iR ax);dsimp only[u2,u1,u3,u4,setMany,u5,u6,D.cells,Nat.reduceAdd,tC,b_,aG] at hH;refine qe hK ?_;have hH:Has s0.bs.length S st (.aE y 8 (l.map tC)::.box k2 (.mem 0 false tz)::.box k1 (.mem 0 false (b_ t.n y))::[]):=hH;have DG:∀st,Has s0.bs.length S st (.aE y 8 (l.map tC)::.box k2 (.mem 0 false tz)::.box k1 (.mem 0 false (b_ t.n y))::[])→V.Rows st 8 y (l.map tC):=fun st h=>h.rows ax;refine qq<|qq<|qj fun K hK=>qp (o:=0) ?_;refine qp (o:=0) ?_;refine ql hH bV ?_;refine qe hK ?_;have MY:∀st,∀X:List D,Has s0.bs.length S st (.aE y 8 (l.map tC)::.box k2 (.mem 0 false X)::.box k1 (.mem 0 false (b_ t.n y))::[])→aH st s0.bs.length false 15 y=some (dD l):=fun st X h=>by rw[lO];exact h.freeze ax (kG E0) (n:=14) (by decide)
   rw[G2];rw[G2] at wN;unfold oE at wN⊢;refine ag.block<|qq<|qj fun K hK=>qg ?_;refine qm ?_;refine qe hK ?_
   by_cases h3:t.n.op=3
   ·have hc:(t.n.op==3)=true:=by simpa using h3
    rw[if_pos h3] at wN⊢;refine qD rfl (by rw[hc]) ?_;have yR:=GC (n:=t.n) (DG _ hH) E0 (by omega);refine qq<|qj fun K hK=>ae.aV (m:=8) (r:=b_ t.n y) hH rfl (ev rfl) bV rfl rfl rfl (aa rfl _) ?_;refine ae.dF rfl rfl yR (aa rfl _) ?_;refine ae.b8 hH rfl (ev rfl) (ev rfl) rfl (by exact rfl) aX (by exact rfl) (.inl hF) (fun st hH=>?_);dsimp only[u1,u2] at hH;refine qe hK ?_;exact ag.ret ⟨rx,_,hH.cX rfl aX rfl,rl bf hH (gB wN _ _ _)⟩
   have hc:(t.n.op==3)=false:=by simpa using h3
   rw[if_neg h3] at wN⊢;refine qE rfl (by rw[hc]) ?_;refine qq<|qj fun K hK=>qg ?_;refine qm ?_;refine qe hK ?_
   by_cases h4:t.n.op=4
   ·have Px:(t.n.op==4)=true:=by simpa using h4
    rw[if_pos h4] at wN⊢;refine qD rfl (by rw[Px]) ?_;have yR:=GN (n:=t.n) (DG _ hH) E0 (by omega);refine qq<|qj fun K hK=>ae.aV (m:=8) (r:=b_ t.n y) hH rfl (ev rfl) bV rfl rfl rfl (aa rfl _) ?_;refine ae.dF rfl rfl yR (aa rfl _) ?_;refine ae.b8 hH rfl (ev rfl) (ev rfl) rfl (by exact rfl) aX (by exact rfl) (.inl hF) (fun st hH=>?_);dsimp only[u1,u2] at hH;refine qe hK ?_;exact ag.ret ⟨rx,_,hH.cX rfl aX rfl,rl bf hH (gB wN _ _ _)⟩
   have Px:(t.n.op==4)=false:=by simpa using h4
   rw[if_neg h4] at wN⊢;refine qE rfl (by rw[Px]) ?_;refine qq<|qj fun K hK=>qg ?_;refine qm ?_;refine qe hK ?_
   by_cases h5:t.n.op=5
   ·have Pw:(t.n.op==5)=true:=by simpa using h5
    rw[if_pos h5] at wN⊢;refine qD rfl (by rw[Pw]) ?_;obtain⟨g1,g2⟩:=ba h5
    obtain⟨k,l0,qX⟩:∃k l0,l=k::l0:=by
     cases l with
     |nil=>exact absurd (List.map_eq_nil_iff.1 hl) g1
     |cons a b=>exact⟨a,b,rfl⟩
    subst qX;dsimp only at wN⊢;have S3:=Tr.tm.1 (S0 k (List.mem_cons_self ..));have yR:=ya (n0:=t.n) (x:=y) (k:=k) (l0:=l0) (DG _ hH) yM E0 (by omega) g2 S3.1;obtain⟨n',y',hsh,htl⟩:=AZ (n:=Jh t.n) (x:=y) (k:=k) (l:=k::l0) yM (E0 k (List.mem_cons_self ..));rw[hsh] at yR;rw[JS];refine qq<|qj fun K hK=>ae.aV (m:=8) (r:=b_ t.n y) hH rfl (ev rfl) bV rfl rfl rfl (aa rfl _) ?_;refine ae.dF rfl rfl yR (aa rfl _) ?_;refine ae.b8 hH rfl (ev rfl) (ev rfl) rfl (by exact rfl) aX (by exact rfl) (.inl hF) (fun st hH=>?_);dsimp only[u1,u2] at hH;refine qe hK ?_;exact ag.ret ⟨rx,_,hH.cX rfl aX rfl,rl bf hH (htl _ _ (MY _ _ hH))⟩
   have Pw:(t.n.op==5)=false:=by simpa using h5
   rw[if_neg h5] at wN⊢;refine qE rfl (by rw[Pw]) ?_;refine ag.skip<|qq<|qj fun K hK=>ae.aV (m:=8) (r:=b_ t.n y) hH rfl (ev rfl) bV rfl rfl rfl (aa rfl _) ?_;refine ae.b8 hH rfl (ev rfl) (ev rfl) rfl (by exact rfl) aX (by exact rfl) (.inl hF) (fun st hH=>?_);dsimp only[u1,u2] at hH;refine qe hK ?_
   have PB:aH st s0.bs.length false 16 (.agg (b_ t.n y))=some (.agg (tC (.mk t.n (dR l)))):=by
    rw[HG];show(dH (aH st s0.bs.length false 15) (b_ t.n y)).map D.agg=_;have h8:=MY _ _ hH;unfold b_;simp only[dH,h8,yM]
    rfl
   exact ag.ret ⟨rx,_,hH.cX rfl aX rfl,rl bf hH PB⟩
theorem wz {s0:St} {x:D} {l:List bB} (hx:gv x 7 (l.map aG)) (hv:∀n∈l,l_ n) (hl:l.length≤500):Ev pv 115 [x] s0 (p_ (dw l)) s0:=by
 have Jo:Nl.ok ⟨x,l⟩:=⟨hx,fun n hn=>by
  obtain⟨h1,h2,h3⟩:=hv n hn
  exact⟨by rw[h1];exact gi _,h2,by omega⟩,by show l.length≤_;omega⟩
 have Sj:=fun st=>sL (s0:=st) Jo;unfold dw;refine Ev.jq rfl Mt rfl rfl rfl ?_;dsimp only[u3,u4,List.length,Nat.reduceSub,Nat.reduceAdd,w1,w2];obtain⟨bf,hF,hH⟩:=ri s0;generalize ai .ro s0=S at*;have FV:=hx.arg s0.bs.length S;refine qq<|qj fun K hK=>qm ?_;refine qe hK<|qq<|qq<|qj fun K hK=>qm ?_;refine qv (Sj _) ?_;refine qg ?_;refine qe hK ?_
 cases hR:gR l with
 |false=>
  rw[if_neg (by simp)];refine ag.cond (v:=true) (by dsimp only[Fr.ev,Fr.get,nth,V.look];rfl) (fun _=>?_) (fun h=>by cases h);refine qq<|qj fun K hK=>qm ?_;refine qe hK<|ag.ret ⟨rx,_,rfl,rl bf hH (rfl)⟩
 |true=>
  rw[if_pos rfl];refine ag.cond (v:=false) (by dsimp only[Fr.ev,Fr.get,nth,V.look];rfl) (fun h=>by cases h) (fun _=>?_);refine ag.skip ?_;obtain⟨eo,jU⟩:=tR hR;generalize dq l=t at*;have hct:=Tr.jl t;rw[jU] at hct;have hfa:t.fa ma:=(Tr.fK t).2 (fun n hn=>by rw[jU] at hn;exact⟨(hv n hn).1,(hv n hn).2.1⟩);have xG:=fun st=>Al t.eM t [] (Nat.le_refl _) (by omega) eo (by rw[List.append_nil,jU];exact hv) st x (by rw[List.append_nil,jU];exact hx);obtain⟨E0,OU⟩:=Tr.gH t hfa;have hle:=fun st=>wE t.eM t (Nat.le_refl _) (by omega) hfa (GS t eo) st;have hft:=fun st=>Ap t.less.eM t.less (Nat.le_refl _) (by omega) E0 st;refine qq<|qj fun K hK=>qm ?_;obtain⟨_,aI,y,rfl,hy⟩:=xG S;refine qv aI ?_;refine qm ?_;refine qg ?_;refine qg ?_;refine qa hH fun k3 st Iq hH=>?_;refine qS hH ax fun st hH=>?_;dsimp only[u2,u1,u3,u4,setMany,u5,u6,D.cells,Nat.reduceAdd,tC,b_,aG] at hH;refine qm ?_;refine qe hK ?_;have hH:Has s0.bs.length S st (.box k3 (.mem 0 false (tC t))::[]):=hH;refine qq<|qj fun K hK=>ae.aV (m:=8) (r:=tC t) hH rfl (ev rfl) ax rfl rfl rfl (aa rfl _) ?_;refine qv (hle _) ?_;refine qv (hft _) ?_;refine qm ?_;refine qe hK<|ag.ret ⟨rx,_,rfl,rl bf hH (rfl)⟩
end Go.Proofs.YtecjacicdpejaaaGreat
namespace Go.Proofs.YtecjacicdpejaaaGreat
open Go.V Go
def kF:Nat→Nat→Nat
 |0,_=>0
 |f+1,m=>if m=0 then 0 else kF f (m/256)+1
def kB (m:Nat):Nat:=kF 8 m
structure Ra where
 at_:Nat
 e:Int
def Ra.ok (b:List UInt8) (s:Ra):Prop:=s.at_≤b.length
def MJ (s0 st:St) (d:D) (b:List UInt8):Prop:=Has s0.bs.length s0 st [.aE d 1 (V.byteCells b)]
theorem MJ.over {N:Nat} {S s0 st:St} {H:List bj} {d:D} {b:List UInt8} (h:MJ s0 st d b) (hH:Has N S s0 H):Has N S st (.aE d 1 (V.byteCells b)::H):=hH.RM h
/- the plain law: the two ways to look at the first rune -/
def Rn (y:UInt8):D:=.int .u8 (y.toNat:Nat)
structure aZ.fit (i:aZ):Prop where
 op:i.op<9223372036854775808
 x:i.x<9223372036854775808
 y:i.y<9223372036854775808
 r:∀g∈i.rs,-2147483648≤g.1∧g.1≤2147483647∧-2147483648≤g.2∧g.2≤2147483647
structure lh where
 nm:List UInt8
 tx:List UInt8
def c8 (p:lh):List D:=[.str p.nm,.str p.tx]
def lh.fit (p:lh):Prop:=p.nm.length≤1048576∧p.tx.length≤1048576
def eH (fr:Go.V.Fr) (k:Nat):Go.V.D:=Go.V.nth .bp fr.loc k
inductive PR (α:Type) where
 |ok (a:α) (i:Nat)
 |er (e:Int) (w:Nat)
def wj:List Rg→Int→List Rg
 |[],n=>[(n,1114111)]
 |q::m,n=>(n,bu .i32 (q.1-1))::wj m (bu .i32 (q.2+1))
noncomputable def oU (l:List Rg):List Rg:=cm (wj (cm l) 0)
theorem wh:∀(l:List Rg) (n:Int),(wj l n).length=l.length+1
 |[],_=>rfl
 |q::m,n=>by simp only[wj,List.length_cons,wh m]
theorem uq {s0:St} {x:D} {l:List Rg} (hx:V.Rows s0 2 x (l.map au)) (hl:l.length≤131072):Ev pv 287 [x] s0 (aQ (oU l)) s0∧(oU l).length≤4*l.length+2:=by
 suffices hg:∃d,Ev pv 287 [x] s0 d s0∧d=aQ (oU l)∧(oU l).length≤4*l.length+2 by
  obtain⟨d,h1,rfl,h2⟩:=hg;exact⟨h1,h2⟩
 have hN:oU l=cm (wj (cm l) 0):=rfl;refine Ev.GW rfl Lt rfl rfl rfl ?_;dsimp only[u3,u4,List.length,Nat.reduceSub,Nat.reduceAdd,w1,w2];obtain⟨bf,hF,hH⟩:=ri s0;generalize ai .ro s0=S at*;have hx:=Arg.of hx bf;refine qq<|qj fun K hK=>qm ?_;refine qe hK<|qq<|qj fun K hK=>qm ?_;refine qe hK<|qq<|qj fun K hK=>qm ?_;refine qe hK ?_;obtain⟨aI,np,_⟩:=mB (hx.rows hH) (by omega);have hla:=(gi (cm l)).arg s0.bs.length S;generalize cm l=m at*;refine qq<|qq<|qj fun K hK=>qm ?_;refine qv (aI) ?_;refine qn ?_;simp only[List.length_map];refine qm ?_;refine qe hK ?_;have hH:=hH.eP 2;refine ag.block<|ag.loop (fun mm fr st=>∃(i:Nat) (n:Int) (o:D) (out:List Rg),fr.clean=⟨11,[eH fr 0,eH fr 1,eH fr 2,o,.int .i32 n,eH fr 5,eH fr 6,eH fr 7,aQ m,.int .i64 (m.length:Nat),.int .i64 (i:Nat)],[]⟩∧Has s0.bs.length S st [.aE o 2 (out.map au)]∧(i+mm=m.length)∧(out.length=i)∧(out++wj (m.drop i) n=wj m 0)) (m.length) ?_ ?_
 ·exact⟨0,0,.nul,[],rfl,hH,by omega,rfl,rfl⟩
 rintro mm fr st ⟨i,n,o,out,hfr,hH,hi,ho,hn⟩;rw[hfr];clear hfr;generalize eH fr=ee;clear fr;refine qq<|qj fun K hK=>qg ?_;refine qe hK<|qq ?_;refine ag.cond (by rfl) (fun h1=>?_) (fun h1=>?_)<;>try simp only[decide_eq_true_eq,decide_eq_false_iff_not] at h1
 ·refine ag.skip ?_
  obtain⟨q,hq⟩:∃q,m[i]?=some q:=⟨m[i]'(by omega),List.getElem?_eq_getElem _⟩
  have hr:=hO hq
  have BD:m.drop i=q::m.drop (i+1):=by
   have:=List.drop_eq_getElem_cons (l:=m) (i:=i) (by omega);rw[this];congr 1;rw[List.getElem?_eq_getElem (by omega)] at hq;exact Option.some.inj hq
  rw[BD] at hn;refine qq<|ag.block<|qq<|qj fun K hK=>qr fun MU DO=>?_;refine ae.dj rfl (ev rfl) (by assumption) rfl (aa rfl _) ?_;refine qa hH fun k6 st Jr hH=>?_;refine qS hH ax fun st hH=>?_;dsimp only[u2,u1,u3,u4,setMany,u5,u6,D.cells,Nat.reduceAdd,au] at hH;refine qe hK<|qq<|qj fun K hK=>qm ?_;refine qm ?_;refine qp (o:=0) ?_;refine ql hH ax ?_;refine ae.oS (z:=bu .i32 (q.1-1)) rfl (ev rfl) (ev rfl) rfl (aa rfl _) ?_;refine ae.ie (qs:=[(0,_),(1,_)]) rfl rfl rfl rfl ⟨rfl,(ev rfl),(by rfl),rfl,(ev rfl),(by rfl),trivial⟩ (by intro q hq;simp only[List.mem_cons,List.not_mem_nil,or_false] at hq;rcases hq with rfl|rfl<;>exact⟨rfl,by exact Nat.le_of_ble_eq_true rfl⟩) (by show List.foldl _ [_,_] _=_;dsimp only[List.foldl_cons,List.foldl_nil,u2,u1]<;>rfl) (aa rfl _) ?_;refine qh (s:=2) (vs:=[_]) hH fun k20 st O6 hH=>?_;refine ae.eY (s:=2) hH rfl (ev rfl) (ev rfl) (by exact bV) (by exact hH.rows (by exact ax)) rfl rfl rfl rfl rfl rfl rfl ⟨(Nat.le_of_ble_eq_true rfl),(Nat.le_of_ble_eq_true rfl)⟩ (fun _=>(aa rfl _)) (by simp only[List.length_cons,List.length_nil,List.length_map]<;>omega) (by exact .inl hF) (fun Qf st hH=>?_);dsimp only[u2,u1,u3,u4,setMany,u5,u6,D.cells,Nat.reduceAdd,au] at hH;refine qm ?_;refine qe hK<|qj fun K hK=>qp (o:=1) ?_;refine ql hH aX ?_;refine ae.hC (z:=bu .i32 (q.2+1)) rfl (ev rfl) (ev rfl) rfl (aa rfl _) ?_;refine qm ?_;refine qe hK<|qj fun K hK=>qA ?_;refine qm ?_;refine qe hK ?_;exact⟨mm-1,by omega,⟨i+1,_,_,out++[(n,bu .i32 (q.1-1))],rfl,(by rw[List.map_append];exact hH.drop 2),by omega,by simp[ho],(by rw[←hn,List.append_assoc];rfl)⟩⟩
 ·refine ag.exit ?_;have rM:m.drop i=[]:=List.drop_eq_nil_of_le (by omega);rw[rM] at hn;have hn:out++[(n,1114111)]=wj m 0:=hn;refine qq<|qj fun K hK=>qm ?_;refine qm ?_;refine ae.ie (qs:=[(0,_),(1,_)]) rfl rfl rfl rfl ⟨rfl,(ev rfl),(by rfl),rfl,(ev rfl),(by rfl),trivial⟩ (by intro q hq;simp only[List.mem_cons,List.not_mem_nil,or_false] at hq;rcases hq with rfl|rfl<;>exact⟨rfl,by exact Nat.le_of_ble_eq_true rfl⟩) (by show List.foldl _ [_,_] _=_;dsimp only[List.foldl_cons,List.foldl_nil,u2,u1]<;>rfl) (aa rfl _) ?_;refine qh (s:=2) (vs:=[_]) hH fun k29 st Tj hH=>?_;refine ae.eY (s:=2) hH rfl (ev rfl) (ev rfl) (by exact aX) (by exact hH.rows (by exact ax)) rfl rfl rfl rfl rfl rfl rfl ⟨(Nat.le_of_ble_eq_true rfl),(Nat.le_of_ble_eq_true rfl)⟩ (fun _=>(aa rfl _)) (by simp only[List.length_cons,List.length_nil,List.length_map]<;>omega) (by exact .inl hF) (fun Ue st hH=>?_);dsimp only[u2,u1,u3,u4,setMany,u5,u6,D.cells,Nat.reduceAdd,au] at hH;obtain⟨aI,te,_⟩:=mB (l:=out++[(n,1114111)]) (by rw[List.map_append];exact hH.rows aX) (by simp;omega);refine qv aI ?_;refine qm ?_;refine qe hK ?_;rw[hn] at te⊢;refine ag.ret ⟨rx,_,_,rfl,rl bf hH (rfl),?_⟩;rw[wh] at te;exact⟨by rw[hN];rfl,by rw[hN];omega⟩
noncomputable def BO:List Rg:=oU [(10,10)]
theorem Gt {s0:St}:Ev pv 269 [] s0 (aQ BO) s0∧BO.length≤6:=by
 have hl:(oU [(10,10)]).length≤4*1+2:=(uq (s0:=s0) (gi [(10,10)]|>.rows s0) (by simp)).2;refine⟨?_,hl⟩;unfold BO;refine Ev.jq rfl Lz rfl rfl rfl ?_;dsimp only[u3,u4,List.length,Nat.reduceSub,Nat.reduceAdd,w1,w2];obtain⟨bf,hF,hH⟩:=ri s0;generalize ai .ro s0=S at*;refine qq<|qj fun K hK=>qm ?_;refine qe hK<|qq<|qj fun K hK=>?_;refine ae.ie (qs:=[(0,_),(1,_)]) rfl rfl rfl rfl ⟨rfl,(ev rfl),(by rfl),rfl,(ev rfl),(by rfl),trivial⟩ (by intro q hq;simp only[List.mem_cons,List.not_mem_nil,or_false] at hq;rcases hq with rfl|rfl<;>exact⟨rfl,by exact Nat.le_of_ble_eq_true rfl⟩) (by show List.foldl _ [_,_] _=_;dsimp only[List.foldl_cons,List.foldl_nil,u2,u1]<;>rfl) (aa rfl _) ?_;refine qh (s:=2) (vs:=[_]) hH fun k2 st hk2 hH=>?_;obtain⟨aI,_⟩:=uq (l:=[(10,10)]) (hH.rows ax) (by simp);refine qv aI ?_;refine qm ?_;refine qe hK<|ag.ret ⟨rx,_,rfl,rl bf hH (rfl)⟩
def oF (a b:List UInt8):Bool:=decide ((a.length:Int)<b.length)||(((a.length:Int)==b.length) &&Op.bytesLess a b)
theorem Dq {s0:St} (a b:List UInt8):Ev pv 272 [.str a,.str b] s0 (.bool (oF a b)) s0:=by
 unfold oF;refine Ev.jq rfl Lx rfl rfl rfl ?_;dsimp only[u3,u4,List.length,Nat.reduceSub,Nat.reduceAdd,w1,w2];obtain⟨bf,hF,hH⟩:=ri s0;generalize ai .ro s0=S at*;refine qq<|qj fun K hK=>qm ?_;refine qe hK<|qq<|ag.sm 4 (.bool (decide ((a.length:Int)<b.length)||(((a.length:Int)==b.length) &&Op.bytesLess a b))) [] ?_ (fun ff tmp=>?_)
 ·refine qm ?_;refine ae.lF rfl rfl rfl (aa rfl _) ?_;refine qm ?_;refine ae.lF rfl rfl rfl (aa rfl _) ?_;refine qg ?_;refine qm ?_;refine ae.two 10 rfl (fun ba=>?_) (fun ba=>?_)
  ·refine qs ?_ (hg:=wn ba);refine qs ?_ (hg:=wn ba);refine qs ?_ (hg:=wn ba);refine qs ?_ (hg:=wn ba);refine qs ?_ (hg:=wn ba);refine qs ?_ (hg:=wn ba);refine qs ?_;refine qs ?_;refine qs ?_;refine qs ?_ (hg:=wn ba);refine qt ba ?_;refine qm ?_;refine ae.nil (aM ?_);dsimp only[aD,List.foldl,nth,u2,u1];dsimp only[Fr.ay,Fr.put,Fr.clean,Fr.ev,Fr.get,nth,V.look,u1,u2,v1,v2,v3,v4,v5,v6,v7,List.length,u3,u4,Nat.reduceSub,Nat.reduceAdd,List.map]
   all_goals(simp_all;done)
  ·refine qm ?_ (hg:=wi ba);refine ae.lF (aj rfl rfl rfl ba) rfl rfl (aa rfl _) ?_;refine qm ?_ (hg:=wi ba);refine ae.lF (aj rfl rfl rfl ba) rfl rfl (aa rfl _) ?_;refine qg ?_ (hg:=wi ba);refine qm ?_ (hg:=wi ba);refine ae.two 16 rfl (fun bK=>?_) (fun bK=>?_)
   ·refine qm ?_ (hg:=wi bK);refine qm ?_ (hg:=wi bK);refine qg ?_ (hg:=wi bK);refine ae.cP (aj rfl rfl rfl ba) rfl bK (aa rfl _) ?_;refine qu ba ?_;refine qm ?_;refine ae.nil (aM ?_);dsimp only[aD,List.foldl,nth,u2,u1];dsimp only[Fr.ay,Fr.put,Fr.clean,Fr.ev,Fr.get,nth,V.look,u1,u2,v1,v2,v3,v4,v5,v6,v7,List.length,u3,u4,Nat.reduceSub,Nat.reduceAdd,List.map]
    all_goals(simp_all;done)
   ·refine qs ?_ (hg:=wn bK);refine qs ?_ (hg:=wn bK);refine qs ?_ (hg:=wn bK);refine ae.cH (aj rfl rfl rfl ba) rfl bK (aa rfl _) ?_;refine qu ba ?_;refine qm ?_;refine ae.nil (aM ?_);dsimp only[aD,List.foldl,nth,u2,u1];dsimp only[Fr.ay,Fr.put,Fr.clean,Fr.ev,Fr.get,nth,V.look,u1,u2,v1,v2,v3,v4,v5,v6,v7,List.length,u3,u4,Nat.reduceSub,Nat.reduceAdd,List.map]
    all_goals(simp_all;done)
 dsimp only[aD,List.foldl,nth,u2,u1];refine ag.ret ⟨rx,_,rfl,rl bf hH (rfl)⟩
def AH:List UInt8→Int→Int
 |[],n=>n
 |c::l,n=>AH l (bu .i64 (bu .i64 (10*n)+bu .i64 (bu .u8 ((c.toNat:Nat)-48))))
def hY (b:List UInt8):Int×Bool:=if 2<b.length then(0,false) else(AH b 0,decide (AH b 0≤30))
theorem kD {s0:St} (b:List UInt8) (hb:b.length≤1048576):Ev pv 273 [.str b] s0 (.tup [.int .i64 (hY b).1,.bool (hY b).2]) s0:=by
 suffices hg:∃d,Ev pv 273 [.str b] s0 d s0∧d=.tup [.int .i64 (hY b).1,.bool (hY b).2] by
  obtain⟨d,h1,rfl⟩:=hg;exact h1
 unfold hY;refine Ev.GW rfl Lw rfl rfl rfl ?_;dsimp only[u3,u4,List.length,Nat.reduceSub,Nat.reduceAdd,w1,w2];obtain⟨bf,hF,hH⟩:=ri s0;generalize ai .ro s0=S at*;refine qq<|qj fun K hK=>qm ?_;refine qm ?_;refine qe hK<|qq<|qq<|qj fun K hK=>qm ?_;refine ae.lF rfl rfl rfl (by dsimp only[Fr.put,u1,u2]<;>rfl) ?_;refine qg ?_;refine qe hK ?_;refine ag.cond (by rfl) (fun h0=>?_) (fun h0=>?_)<;>try simp only[decide_eq_true_eq,decide_eq_false_iff_not] at h0
 ·rw[if_pos (by omega)];refine qq<|qj fun K hK=>qm ?_;refine qm ?_;refine qe hK<|ag.ret ⟨rx,_,_,rfl,rl bf hH (rfl),?_⟩
  rfl
 ·rw[if_neg (by omega)];refine ag.skip<|qq<|qj fun K hK=>qm ?_;refine qe hK<|qq<|qq<|qj fun K hK=>qm ?_;refine ae.lF rfl rfl rfl (by dsimp only[Fr.put,u1,u2]<;>rfl) ?_;refine qm ?_;refine qe hK<|ag.block<|ag.loop (fun mm fr st=>∃(i:Nat) (n:Int),fr.clean=⟨12,[.str b,eH fr 1,eH fr 2,eH fr 3,.int .i64 n,eH fr 5,eH fr 6,eH fr 7,eH fr 8,eH fr 9,.int .i64 (b.length:Nat),.int .i64 (i:Nat)],[]⟩∧Has s0.bs.length S st []∧(i+mm=b.length)∧(AH (b.drop i) n=AH b 0)) (b.length) ?_ ?_
  ·exact⟨0,0,rfl,hH,by omega,rfl⟩
  rintro mm fr st ⟨i,n,hfr,hH,hi,hn⟩;rw[hfr];clear hfr;generalize eH fr=ee;clear fr;refine qq<|qj fun K hK=>qg ?_;refine qe hK<|qq ?_;refine ag.cond (by rfl) (fun h1=>?_) (fun h1=>?_)<;>try simp only[decide_eq_true_eq,decide_eq_false_iff_not] at h1
  ·refine ag.skip ?_
   obtain⟨c,hc⟩:∃c,b[i]?=some c:=⟨b[i]'(by omega),List.getElem?_eq_getElem _⟩
   have BD:b.drop i=c::b.drop (i+1):=by
    have:=List.drop_eq_getElem_cons (l:=b) (i:=i) (by omega);rw[this];congr 1;rw[List.getElem?_eq_getElem (by omega)] at hc;exact Option.some.inj hc
   rw[BD] at hn;refine qq<|ag.block<|qq<|qj fun K hK=>qm ?_;refine qm ?_;refine qe hK<|qj fun K hK=>qm ?_;refine ae.yt (z:=bu .i64 (10*n)) rfl (ev rfl) (ev rfl) rfl (aa rfl _) ?_;refine qm ?_;refine qm ?_;refine ae.NB rfl (ev rfl) (ev rfl) rfl (by assumption) (aa rfl _) ?_;refine ae.go (d:=.int .u8 (bu .u8 ((c.toNat:Nat)-48))) (st1:=_) rfl rfl rfl (aa rfl _) ?_;refine qg ?_;refine ae.hC (z:=bu .i64 (bu .i64 (10*n)+bu .i64 (bu .u8 ((c.toNat:Nat)-48)))) rfl (ev rfl) (ev rfl) rfl (aa rfl _) ?_;refine qm ?_;refine qe hK<|qj fun K hK=>qA ?_;refine qm ?_;refine qe hK ?_;exact⟨mm-1,by omega,⟨i+1,_,rfl,hH,by omega,hn⟩⟩
  ·refine ag.exit ?_;have rM:b.drop i=[]:=List.drop_eq_nil_of_le (by omega);rw[rM] at hn;have hn:n=AH b 0:=hn;rw[←hn];refine qq<|qj fun K hK=>qm ?_;refine qm ?_;refine qg ?_;refine qm ?_;refine qm ?_;refine qe hK<|ag.ret ⟨rx,_,_,rfl,rl bf hH (rfl),?_⟩
   rfl
def eB {α:Type} (R:PR α) (aY:List Int) (s':ec):Prop:=∃e w,R=.er e w∧e≠0∧s'.e=e∧s'.w=aY.getD w 0
theorem eB.ne {α:Type} {R:PR α} {aY:List Int} {s':ec} (h:eB R aY s'):s'.e≠0:=by
 obtain⟨e,w,_,h1,h2,_⟩:=h;rw[h2];exact h1
theorem eB.map {α β:Type} {R:PR α} {R':PR β} {aY:List Int} {s':ec} (h:eB R aY s') (hR:∀e w,R=.er e w→R'=.er e w):eB R' aY s':=by
 obtain⟨e,w,h0,h1,h2,h3⟩:=h;exact⟨e,w,hR e w h0,h1,h2,h3⟩
theorem gw {α:Type} {R:PR α} {aY:List Int} {s:ec} {i:Nat} {e:Int} (he:s.e=0) (h:e≠0) (hR:R=.er e i):eB R aY (iP aY s i e)∧(iP aY s i e).i=s.i∧(iP aY s i e).o=s.o∧(iP aY s i e).g=s.g:=by
 unfold iP;rw[if_pos he];exact⟨⟨e,i,hR,h,rfl,rfl⟩,rfl,rfl,rfl⟩
def fV (gs:List (Nat×Nat)) (i:Nat):List Int:=(gs.map fun g=>((g.1:Nat):Int)).drop i
theorem rr {N k:Nat} {S s0:St} {H:List bj} {gs:List (Nat×Nat)} {bA:D} {s:ec} (r_:gs.length≤120) (hi:s.i≤gs.length) (hne:gs≠[]) (hH:Has N S s0 (.box k (.mem 0 false (aP gs bA s))::H)):
  ∃d ah,Ev pv 271 [.ptr k 0 0] s0 d ah∧d=.tup [.str (digS (fV gs s.i) []).1,.bool (decide (0<(digS (fV gs s.i) []).2))]∧(digS (fV gs s.i) []).1.length≤120∧s.i+(digS (fV gs s.i) []).2≤gs.length∧Has N S ah (.box k (.mem 0 false (aP gs bA {s with i:=s.i+(digS (fV gs s.i) []).2}))::H):=by
 have hb:=hH.at ax;have hw:=fM (cs:=[.int .i64 0]) hH (hH.ge ax).1 (.inr rfl);have hl:=xf (fV gs s.i) [];unfold fV at*;obtain⟨h1,h2⟩:=hl;simp only[List.length_drop,List.length_map,List.length_nil] at h1 h2;refine⟨_,_,Ev.jN rfl ?_,rfl,by omega,by omega,hH.x4 (aq:=0) ax⟩
 have hd:decide ((gs.map fun g=>((g.1:Nat):Int))≠[]∧(0:Int)≤(s.i:Nat)∧((s.i:Nat):Int).toNat≤(gs.map fun g=>((g.1:Nat):Int)).length∧(gs.map fun g=>((g.1:Nat):Int)).length<1099511627776)=true:=by
  rw[decide_eq_true];refine⟨by simpa using hne,by omega,by simp;omega,by simp;omega⟩
 show BQ [.ptr k 0 0] s0=_;simp only[BQ,St.mem_of hb];show(match jv ((gs.map br).map (jr 2)) with|some rs=>Gu s0 k 0 0 rs (s.i:Nat)|none=>none)=_;rw[oq];simp only[Gu,hd];have hwr:=iQ (cs:=[.int .i64 ((s.i+(digS ((gs.map fun g=>((g.1:Nat):Int)).drop s.i) []).2:Nat))]) (off:=2) hb (by show 2+1≤7;omega) hw;simp only[Int.toNat_natCast,Nat.zero_add];rw[hwr]
 rfl
noncomputable def lv (gs:List (Nat×Nat)) (f:Nat):PR (List Rg×Bool):=
 match gs[f+1]? with
 |none=>.er 4 f
 |some g=>
  if B3 gs (f+1)=true then .er 4 (f+1)
  else if((g.1:Nat):Int)=110 then .ok (cm [(10,10)],true) (f+2)
  else if((g.1:Nat):Int)=116 then .ok (cm [(9,9)],true) (f+2)
  else if((g.1:Nat):Int)=114 then .ok (cm [(13,13)],true) (f+2)
  else if((g.1:Nat):Int)=100 then .ok (cm [(48,57)],false) (f+2)
  else if((g.1:Nat):Int)=115 then .ok (cm [(9,10),(13,13),(32,32)],false) (f+2)
  else if((g.1:Nat):Int)=119 then .ok (cm [(48,57),(65,90),(95,95),(97,122)],false) (f+2)
  else if(33≤((g.1:Nat):Int)∧((g.1:Nat):Int)≤47∨58≤((g.1:Nat):Int)∧((g.1:Nat):Int)≤64∨91≤((g.1:Nat):Int)∧((g.1:Nat):Int)≤96∨123≤((g.1:Nat):Int)∧((g.1:Nat):Int)≤126) then .ok (cm [(((g.1:Nat):Int),((g.1:Nat):Int))],true) (f+2)
  else .er 4 f
def Hc (gs:List (Nat×Nat)) (aY:List Int) (R:PR (List Rg×Bool)) (s s':ec) (d1:D) (b:Bool):Prop:=
 s'.o=s.o∧s'.g=s.g∧s.i≤s'.i∧s'.i≤gs.length∧(eB R aY s'∧d1=.nul∨s'.e=0∧s.i<s'.i∧∃a,R=.ok (a,b) s'.i∧d1=aQ a∧a.length≤8∧a≠[])
theorem vB {N k:Nat} {S s0:St} {H:List bj} {gs:List (Nat×Nat)} {bA:D} {aY:List Int} {s:ec} (eo:kz gs aY) (he:s.e=0) (hi:s.i<gs.length) (hH:Has N S s0 (.box k (.mem 0 false (aP gs bA s))::.aE bA 1 (aY.map aB)::H)):
  ∃d ah,Ev pv 268 [.ptr k 0 0] s0 d ah∧∃(d1:D) (b:Bool) (s':ec),d=.tup [d1,.bool b]∧Hc gs aY (lv gs s.i) s s' d1 b∧Has N S ah (.box k (.mem 0 false (aP gs bA s'))::.aE bA 1 (aY.map aB)::H):=by
 have r_:=eo.gl;have lY:=eo.pl;refine Ev.nj rfl LA rfl rfl rfl ?_;dsimp only[u3,u4,List.length,Nat.reduceSub,Nat.reduceAdd,w1,w2];have cD:=hH;have hH:=hH.cE;have cy:(ai .rw s0).bs=s0.bs:=rfl;generalize ai .rw s0=S2 at*;have xG:Arg N S2 2 (gK gs) (gs.map br):=Arg.pure (fun st=>eE st gs);refine qq<|qj fun K hK=>qm ?_;refine qm ?_;refine qe hK<|qq<|qj fun K hK=>qm ?_;refine qg ?_;refine qp (o:=2) ?_;refine ql hH ax ?_;refine qm ?_;refine qe hK<|qq<|qj fun K hK=>qm ?_;refine qg ?_;refine qp (o:=2) ?_;refine ql hH ax ?_;refine qA ?_;refine qg ?_;refine qp (o:=2) ?_;refine qT hH ax fun st hH=>?_;dsimp only[u2,u1,u3,u4,setMany,u5,u6,D.cells,Nat.reduceAdd,aP,br,aB,au] at hH;refine qe hK<|qq<|qq<|qj fun K hK=>qm ?_;refine qg ?_;refine qp (o:=2) ?_;refine ql hH ax ?_;refine qm ?_;refine qg ?_;refine qp (o:=0) ?_;refine ql hH ax ?_;refine qn ?_;simp only[List.length_map];refine qg ?_;refine qe hK ?_;refine ag.cond (by rfl) (fun h0=>?_) (fun h0=>?_)<;>try simp only[decide_eq_true_eq,decide_eq_false_iff_not] at h0
 ·have hv:lv gs s.i=.er 4 s.i:=by
   unfold lv;rw[List.getElem?_eq_none (by omega)]
  refine qq<|qj fun K hK=>qm ?_;refine qm ?_;obtain⟨_,st,aI,rfl,hH⟩:=et (s:={s with i:=s.i+1}) s.i 4 (by omega) hH;refine qv aI ?_;refine qe hK<|qq<|qj fun K hK=>qm ?_;refine qm ?_;refine qe hK ?_;obtain⟨h1,h2,h3,h4⟩:=gw (aY:=aY) (s:={s with i:=s.i+1}) (i:=s.i) (e:=4) he (by decide) hv;refine ag.ret ⟨rx,_,_,_,rfl,ak (rfl),?_⟩;exact⟨_,_,_,rfl,⟨h3,h4,by rw[h2];simp,by rw[h2];exact hi,.inl ⟨h1,rfl⟩⟩,cD.aw cy hH⟩
 ·obtain⟨g,hg⟩:∃g,gs[s.i+1]?=some g:=⟨gs[s.i+1]'(by omega),List.getElem?_eq_getElem _⟩
  have gN:(gs.map br)[s.i+1]?=some (br g):=by rw[List.getElem?_map,hg];rfl
  have hlt:=cA hg;have hv:lv gs s.i=lv gs s.i:=rfl
  conv at hv=>rhs;unfold lv;simp only[hg]
  refine ag.skip<|qq<|qq<|qj fun K hK=>qm ?_;refine qm ?_;refine qg ?_;refine qp (o:=2) ?_;refine ql hH ax ?_;obtain⟨_,st,aI,rfl,hH⟩:=za (s:={s with i:=s.i+1}) (s.i+1) hlt hH;refine qv aI ?_;refine qe hK ?_;dsimp only[aP] at hH;refine qc (fun hb=>?_) (fun hb=>?_)<;>try simp only[cs] at hb
  ·rw[if_pos hb] at hv;refine qq<|qj fun K hK=>qm ?_;refine qm ?_;refine qg ?_;refine qp (o:=2) ?_;refine ql hH ax ?_;obtain⟨_,st,aI,rfl,hH⟩:=et (s:={s with i:=s.i+1}) (s.i+1) 4 (by omega) hH;refine qv aI ?_;refine qe hK<|qq<|qj fun K hK=>qm ?_;refine qm ?_;refine qe hK ?_;obtain⟨h1,h2,h3,h4⟩:=gw (aY:=aY) (s:={s with i:=s.i+1}) (i:=s.i+1) (e:=4) he (by decide) hv;refine ag.ret ⟨rx,_,_,_,rfl,ak (rfl),?_⟩;exact⟨_,_,_,rfl,⟨h3,h4,by rw[h2];simp,by rw[h2];exact hi,.inl ⟨h1,rfl⟩⟩,cD.aw cy hH⟩
  ·rw[if_neg (by rw[hb];simp)] at hv;refine ag.skip<|qq<|qj fun K hK=>qm ?_;refine qg ?_;refine qp (o:=0) ?_;refine ql hH ax ?_;refine qm ?_;refine qg ?_;refine qp (o:=2) ?_;refine ql hH ax ?_;refine qr fun RD OA=>?_;refine qf (fo:=0) fun RC Oz=>?_;refine qR ?_;refine qm ?_;refine qe hK<|qq<|qj fun K hK=>qm ?_;refine qg ?_;refine qp (o:=2) ?_;refine ql hH ax ?_;refine qA ?_;refine qg ?_;refine qp (o:=2) ?_;refine qT hH ax fun st hH=>?_;dsimp only[u2,u1,u3,u4,setMany,u5,u6,D.cells,Nat.reduceAdd,aP,br,aB,au] at hH;refine qe hK<|qq<|qq<|qj fun K hK=>qm ?_;refine qe hK ?_
   have g_:∀(a:List Rg) (b:Bool),lv gs s.i=.ok (a,b) (s.i+2)→a.length≤8→a≠[]→Hc gs aY (lv gs s.i) s {s with i:=s.i+1+1} (aQ a) b:=fun a b h0 h1 h2=>⟨rfl,rfl,by show s.i≤s.i+1+1;omega,by show s.i+1+1≤_;omega,.inr ⟨he,by show s.i<s.i+1+1;omega,a,h0,rfl,h1,h2⟩⟩
   have jE:∀(r:Int),0≤r→r<55296→(cm [(r,r)]).length≤8∧cm [(r,r)]≠[]:=by
    intro r h1 h2;obtain⟨_,h3,h4⟩:=mB (s0:=s0) (x:=aQ [(r,r)]) (l:=[(r,r)]) (cz _ _) (by simp);exact⟨by simp at h3;omega,wy h1 h2 h4⟩
   refine ag.block<|qq<|qj fun K hK=>qg ?_;refine qm ?_;refine qe hK ?_;refine ag.cond (by rfl) (fun q1=>?_) (fun q1=>?_)<;>try simp only[beq_iff_eq,beq_eq_false_iff_ne,ne_eq] at q1
   ·rw[if_pos q1] at hv;refine qq<|qj fun K hK=>qv (jc 10) ?_;refine qm ?_;refine qm ?_;refine qe hK<|ag.ret ⟨rx,_,_,_,rfl,ak (rfl),?_⟩;exact⟨_,_,_,rfl,g_ _ _ hv (jE 10 (by decide) (by decide)).1 (jE 10 (by decide) (by decide)).2,cD.aw cy hH⟩
   ·rw[if_neg q1] at hv;refine qq<|qj fun K hK=>qg ?_;refine qm ?_;refine qe hK ?_;refine ag.cond (by rfl) (fun q2=>?_) (fun q2=>?_)<;>try simp only[beq_iff_eq,beq_eq_false_iff_ne,ne_eq] at q2
    ·rw[if_pos q2] at hv;refine qq<|qj fun K hK=>qv (jc 9) ?_;refine qm ?_;refine qm ?_;refine qe hK<|ag.ret ⟨rx,_,_,_,rfl,ak (rfl),?_⟩;exact⟨_,_,_,rfl,g_ _ _ hv (jE 9 (by decide) (by decide)).1 (jE 9 (by decide) (by decide)).2,cD.aw cy hH⟩
    ·rw[if_neg q2] at hv;refine qq<|qj fun K hK=>qg ?_;refine qm ?_;refine qe hK ?_;refine ag.cond (by rfl) (fun q3=>?_) (fun q3=>?_)<;>try simp only[beq_iff_eq,beq_eq_false_iff_ne,ne_eq] at q3
     ·rw[if_pos q3] at hv;refine qq<|qj fun K hK=>qv (jc 13) ?_;refine qm ?_;refine qm ?_;refine qe hK<|ag.ret ⟨rx,_,_,_,rfl,ak (rfl),?_⟩;exact⟨_,_,_,rfl,g_ _ _ hv (jE 13 (by decide) (by decide)).1 (jE 13 (by decide) (by decide)).2,cD.aw cy hH⟩
     ·rw[if_neg q3] at hv;refine qq<|qj fun K hK=>qg ?_;refine qm ?_;refine qe hK ?_;refine ag.cond (by rfl) (fun q4=>?_) (fun q4=>?_)<;>try simp only[beq_iff_eq,beq_eq_false_iff_ne,ne_eq] at q4
      ·rw[if_pos q4] at hv;refine qq<|qj fun K hK=>?_;refine ae.ie (qs:=[(0,_),(1,_)]) rfl rfl rfl rfl ⟨rfl,(ev rfl),(by rfl),rfl,(ev rfl),(by rfl),trivial⟩ (by intro q hq;simp only[List.mem_cons,List.not_mem_nil,or_false] at hq;rcases hq with rfl|rfl<;>exact⟨rfl,by exact Nat.le_of_ble_eq_true rfl⟩) (by show List.foldl _ [_,_] _=_;dsimp only[List.foldl_cons,List.foldl_nil,u2,u1]<;>rfl) (aa rfl _) ?_;refine qh (s:=2) (vs:=[_]) hH fun k73 st Ta hH=>?_;obtain⟨aI,hl,Ce⟩:=mB (l:=[(48,57)]) (hH.rows ax) (by simp);refine qv aI ?_;refine qm ?_;refine qm ?_;refine qe hK<|ag.ret ⟨rx,_,_,_,rfl,ak (rfl),?_⟩;exact⟨_,_,_,rfl,g_ _ _ hv (by simp at hl;omega) (uB (r:=48) (by decide) (by decide) ⟨_,List.mem_cons_self ..,by decide,by decide⟩ Ce),cD.aw cy (hH.drop 1)⟩
      ·rw[if_neg q4] at hv;refine qq<|qj fun K hK=>qg ?_;refine qm ?_;refine qe hK ?_;refine ag.cond (by rfl) (fun q5=>?_) (fun q5=>?_)<;>try simp only[beq_iff_eq,beq_eq_false_iff_ne,ne_eq] at q5
       ·rw[if_pos q5] at hv;refine qq<|qj fun K hK=>?_;refine ae.ie (qs:=[(0,_),(1,_)]) rfl rfl rfl rfl ⟨rfl,(ev rfl),(by rfl),rfl,(ev rfl),(by rfl),trivial⟩ (by intro q hq;simp only[List.mem_cons,List.not_mem_nil,or_false] at hq;rcases hq with rfl|rfl<;>exact⟨rfl,by exact Nat.le_of_ble_eq_true rfl⟩) (by show List.foldl _ [_,_] _=_;dsimp only[List.foldl_cons,List.foldl_nil,u2,u1]<;>rfl) (aa rfl _) ?_;refine ae.ie (qs:=[(0,_),(1,_)]) rfl rfl rfl rfl ⟨rfl,(ev rfl),(by rfl),rfl,(ev rfl),(by rfl),trivial⟩ (by intro q hq;simp only[List.mem_cons,List.not_mem_nil,or_false] at hq;rcases hq with rfl|rfl<;>exact⟨rfl,by exact Nat.le_of_ble_eq_true rfl⟩) (by show List.foldl _ [_,_] _=_;dsimp only[List.foldl_cons,List.foldl_nil,u2,u1]<;>rfl) (aa rfl _) ?_;refine ae.ie (qs:=[(0,_),(1,_)]) rfl rfl rfl rfl ⟨rfl,(ev rfl),(by rfl),rfl,(ev rfl),(by rfl),trivial⟩ (by intro q hq;simp only[List.mem_cons,List.not_mem_nil,or_false] at hq;rcases hq with rfl|rfl<;>exact⟨rfl,by exact Nat.le_of_ble_eq_true rfl⟩) (by show List.foldl _ [_,_] _=_;dsimp only[List.foldl_cons,List.foldl_nil,u2,u1]<;>rfl) (aa rfl _) ?_;refine qh (s:=2) (vs:=[_,_,_]) hH fun k80 st S_ hH=>?_;obtain⟨aI,hl,Ce⟩:=mB (l:=[(9,10),(13,13),(32,32)]) (hH.rows ax) (by simp);refine qv aI ?_;refine qm ?_;refine qm ?_;refine qe hK<|ag.ret ⟨rx,_,_,_,rfl,ak (rfl),?_⟩;exact⟨_,_,_,rfl,g_ _ _ hv (by simp at hl;omega) (uB (r:=9) (by decide) (by decide) ⟨_,List.mem_cons_self ..,by decide,by decide⟩ Ce),cD.aw cy (hH.drop 1)⟩
       ·rw[if_neg q5] at hv;refine qq<|qj fun K hK=>qg ?_;refine qm ?_;refine qe hK ?_;refine ag.cond (by rfl) (fun q6=>?_) (fun q6=>?_)<;>try simp only[beq_iff_eq,beq_eq_false_iff_ne,ne_eq] at q6
        ·rw[if_pos q6] at hv;refine qq<|qj fun K hK=>?_;refine ae.ie (qs:=[(0,_),(1,_)]) rfl rfl rfl rfl ⟨rfl,(ev rfl),(by rfl),rfl,(ev rfl),(by rfl),trivial⟩ (by intro q hq;simp only[List.mem_cons,List.not_mem_nil,or_false] at hq;rcases hq with rfl|rfl<;>exact⟨rfl,by exact Nat.le_of_ble_eq_true rfl⟩) (by show List.foldl _ [_,_] _=_;dsimp only[List.foldl_cons,List.foldl_nil,u2,u1]<;>rfl) (aa rfl _) ?_;refine ae.ie (qs:=[(0,_),(1,_)]) rfl rfl rfl rfl ⟨rfl,(ev rfl),(by rfl),rfl,(ev rfl),(by rfl),trivial⟩ (by intro q hq;simp only[List.mem_cons,List.not_mem_nil,or_false] at hq;rcases hq with rfl|rfl<;>exact⟨rfl,by exact Nat.le_of_ble_eq_true rfl⟩) (by show List.foldl _ [_,_] _=_;dsimp only[List.foldl_cons,List.foldl_nil,u2,u1]<;>rfl) (aa rfl _) ?_;refine ae.ie (qs:=[(0,_),(1,_)]) rfl rfl rfl rfl ⟨rfl,(ev rfl),(by rfl),rfl,(ev rfl),(by rfl),trivial⟩ (by intro q hq;simp only[List.mem_cons,List.not_mem_nil,or_false] at hq;rcases hq with rfl|rfl<;>exact⟨rfl,by exact Nat.le_of_ble_eq_true rfl⟩) (by show List.foldl _ [_,_] _=_;dsimp only[List.foldl_cons,List.foldl_nil,u2,u1]<;>rfl) (aa rfl _) ?_;refine ae.ie (qs:=[(0,_),(1,_)]) rfl rfl rfl rfl ⟨rfl,(ev rfl),(by rfl),rfl,(ev rfl),(by rfl),trivial⟩ (by intro q hq;simp only[List.mem_cons,List.not_mem_nil,or_false] at hq;rcases hq with rfl|rfl<;>exact⟨rfl,by exact Nat.le_of_ble_eq_true rfl⟩) (by show List.foldl _ [_,_] _=_;dsimp only[List.foldl_cons,List.foldl_nil,u2,u1]<;>rfl) (aa rfl _) ?_;refine qh (s:=2) (vs:=[_,_,_,_]) hH fun k88 st KS hH=>?_;obtain⟨aI,hl,Ce⟩:=mB (l:=[(48,57),(65,90),(95,95),(97,122)]) (hH.rows ax) (by simp);refine qv aI ?_;refine qm ?_;refine qm ?_;refine qe hK<|ag.ret ⟨rx,_,_,_,rfl,ak (rfl),?_⟩;exact⟨_,_,_,rfl,g_ _ _ hv (by simp at hl;omega) (uB (r:=48) (by decide) (by decide) ⟨_,List.mem_cons_self ..,by decide,by decide⟩ Ce),cD.aw cy (hH.drop 1)⟩
        ·rw[if_neg q6] at hv;refine ag.skip<|qq<|qq<|qj fun K hK=>qm ?_;refine qv (FL _) ?_;refine qg ?_;refine qe hK ?_;refine ag.cond (by rfl) (fun q7=>?_) (fun q7=>?_)<;>try simp only[decide_eq_true_eq,decide_eq_false_iff_not,Bool.not_eq_true',Bool.not_eq_false'] at q7
         ·rw[if_neg q7] at hv;refine qq<|qj fun K hK=>qm ?_;refine qm ?_;obtain⟨_,st,aI,rfl,hH⟩:=et (s:={s with i:=s.i+1+1}) s.i 4 (by omega) hH;refine qv aI ?_;refine qe hK<|qq<|qj fun K hK=>qm ?_;refine qm ?_;refine qe hK ?_;obtain⟨h1,h2,h3,h4⟩:=gw (aY:=aY) (s:={s with i:=s.i+1+1}) (i:=s.i) (e:=4) he (by decide) hv;refine ag.ret ⟨rx,_,_,_,rfl,ak (rfl),?_⟩;exact⟨_,_,_,rfl,⟨h3,h4,by rw[h2];show s.i≤s.i+1+1;omega,by rw[h2];show s.i+1+1≤_;omega,.inl ⟨h1,rfl⟩⟩,cD.aw cy hH⟩
         ·rw[if_pos q7] at hv;refine ag.skip<|qq<|qj fun K hK=>qm ?_;refine qv (jc _) ?_;refine qm ?_;refine qm ?_;refine qe hK ?_;have hm:=jE ((g.1:Nat):Int) (by omega) (by omega);refine ag.ret ⟨rx,_,_,_,rfl,ak (rfl),?_⟩;exact⟨_,_,_,rfl,g_ _ _ hv hm.1 hm.2,cD.aw cy hH⟩
def yH (fr:Go.V.Fr) (k:Nat):Go.V.D:=Go.V.nth .bp fr.loc k
noncomputable def ow (gs:List (Nat×Nat)) (i:Nat):PR (Option (List Rg×Bool)):=
 match gs[i]? with
 |none=>.er 4 i
 |some g=>
  if B3 gs i=true then .er 4 i
  else if((g.1:Nat):Int)=92 then
   match lv gs i with
   | .ok (a,b) j=>.ok (some (a,b)) j
   | .er e w=>.er e w
  else if((g.1:Nat):Int)=91∨((g.1:Nat):Int)=93∨((g.1:Nat):Int)=45 then .ok none i
  else .ok (some ([(((g.1:Nat):Int),((g.1:Nat):Int))],true)) (i+1)
def MG (gs:List (Nat×Nat)) (aY:List Int) (R:PR (Option (List Rg×Bool))) (s s':ec) (d1:D) (b:Bool):Prop:=
 s'.o=s.o∧s'.g=s.g∧s.i≤s'.i∧s'.i≤gs.length∧(eB R aY s'∧d1=.nul∨(s'=s∧R=.ok none s.i∧d1=.nul∧b=false)∨(s'.e=0∧s.i<s'.i∧∃a,R=.ok (some (a,b)) s'.i∧d1=aQ a∧a.length≤8∧a≠[]))
theorem vZ {N k:Nat} {S s0:St} {H:List bj} {gs:List (Nat×Nat)} {bA:D} {aY:List Int} {s:ec} (eo:kz gs aY) (he:s.e=0) (hi:s.i<gs.length) (hH:Has N S s0 (.box k (.mem 0 false (aP gs bA s))::.aE bA 1 (aY.map aB)::H)):
  ∃d ah,Ev pv 306 [.ptr k 0 0] s0 d ah∧∃(d1:D) (b:Bool) (s':ec),d=.tup [d1,.bool b]∧MG gs aY (ow gs s.i) s s' d1 b∧Has N S ah (.box k (.mem 0 false (aP gs bA s'))::.aE bA 1 (aY.map aB)::H):=by
 have r_:=eo.gl;have lY:=eo.pl;refine Ev.nj rfl Lr rfl rfl rfl ?_;dsimp only[u3,u4,List.length,Nat.reduceSub,Nat.reduceAdd,w1,w2];have cD:=hH;have hH:=hH.cE;have cy:(ai .rw s0).bs=s0.bs:=rfl;generalize ai .rw s0=S2 at*;have xG:Arg N S2 2 (gK gs) (gs.map br):=Arg.pure (fun st=>eE st gs)
 obtain⟨g,hg⟩:∃g,gs[s.i]?=some g:=⟨gs[s.i]'hi,List.getElem?_eq_getElem _⟩
 have gN:(gs.map br)[s.i]?=some (br g):=by rw[List.getElem?_map,hg];rfl
 have hv:ow gs s.i=ow gs s.i:=rfl
 conv at hv=>rhs;unfold ow;simp only[hg]
 refine qq<|qj fun K hK=>qm ?_;refine qm ?_;refine qe hK<|qq<|qq<|qj fun K hK=>qm ?_;refine qm ?_;refine qg ?_;refine qp (o:=2) ?_;refine ql hH ax ?_;obtain⟨_,st,aI,rfl,hH⟩:=za (s:=s) s.i hi hH;refine qv aI ?_;refine qe hK ?_;refine qc (fun hb=>?_) (fun hb=>?_)<;>try simp only[cs] at hb
 ·rw[if_pos hb] at hv;refine qq<|qj fun K hK=>qm ?_;refine qm ?_;refine qg ?_;refine qp (o:=2) ?_;refine ql hH ax ?_;obtain⟨_,st,aI,rfl,hH⟩:=et (s:=s) s.i 4 (by omega) hH;refine qv aI ?_;refine qe hK<|qq<|qj fun K hK=>qm ?_;refine qm ?_;refine qe hK ?_;obtain⟨h1,h2,h3,h4⟩:=gw (aY:=aY) (s:=s) (i:=s.i) (e:=4) he (by decide) hv;refine ag.ret ⟨rx,_,_,_,rfl,ak (rfl),?_⟩;exact⟨_,_,_,rfl,⟨h3,h4,by rw[h2];exact Nat.le_refl _,by rw[h2];omega,.inl ⟨h1,rfl⟩⟩,cD.aw cy hH⟩
 ·rw[if_neg (by rw[hb];simp)] at hv;refine ag.skip<|qq<|qj fun K hK=>qm ?_;refine qg ?_;refine qp (o:=0) ?_;refine ql hH ax ?_;refine qm ?_;refine qg ?_;refine qp (o:=2) ?_;refine ql hH ax ?_;refine qr fun NM H8=>?_;refine qf (fo:=0) fun NL H7=>?_;refine qR ?_;refine qm ?_;refine qe hK<|qq<|qj fun K hK=>qm ?_;refine qe hK<|ag.block<|qq<|qj fun K hK=>qg ?_;refine qm ?_;refine qe hK ?_;refine ag.cond (by rfl) (fun q1=>?_) (fun q1=>?_)<;>try simp only[beq_iff_eq,beq_eq_false_iff_ne,ne_eq] at q1
  ·rw[if_pos q1] at hv;refine qq<|qj fun K hK=>qm ?_;obtain⟨_,st,aI,d1,b,s',rfl,⟨p1,p2,p3,p4,p5⟩,hH⟩:=vB (s:=s) eo he hi hH;refine qv aI ?_;refine qg ?_;refine qg ?_;refine qm ?_;refine qm ?_;refine qe hK ?_
   rcases p5 with⟨p5,rfl⟩|⟨p5,p6,a,p7,rfl,p8,p9⟩
   ·refine ag.ret ⟨rx,_,_,_,rfl,ak (rfl),?_⟩;exact⟨_,_,_,rfl,⟨p1,p2,p3,p4,.inl ⟨p5.map fun e w h=>by rw[hv,h],rfl⟩⟩,cD.aw cy hH⟩
   ·refine ag.ret ⟨rx,_,_,_,rfl,ak (rfl),?_⟩;exact⟨_,_,_,rfl,⟨p1,p2,p3,p4,.inr (.inr ⟨p5,p6,a,by rw[hv,p7],rfl,p8,p9⟩)⟩,cD.aw cy hH⟩
  ·rw[if_neg q1] at hv;refine qq<|qq<|qj fun K hK=>qg ?_;refine qm ?_;refine qe hK ?_
   by_cases EV:((g.1:Nat):Int)=91
   ·rw[if_pos (.inl EV)] at hv;refine qD rfl (by simp[EV]) ?_;refine ag.skip<|qD rfl (by simp[EV]) ?_;refine qq<|qj fun K hK=>qm ?_;refine qm ?_;refine qe hK<|ag.ret ⟨rx,_,_,_,rfl,ak (rfl),?_⟩;exact⟨_,_,s,rfl,⟨rfl,rfl,Nat.le_refl _,by omega,.inr (.inl ⟨rfl,hv,rfl,rfl⟩)⟩,cD.aw cy hH⟩
   refine qE rfl (by simp[EV]) ?_;refine qq<|qj fun K hK=>qg ?_;refine qm ?_;refine qe hK ?_
   by_cases JW:((g.1:Nat):Int)=93
   ·rw[if_pos (.inr (.inl JW))] at hv;refine qD rfl (by simp[JW]) ?_;refine ag.skip<|qD rfl (by simp[JW]) ?_;refine qq<|qj fun K hK=>qm ?_;refine qm ?_;refine qe hK<|ag.ret ⟨rx,_,_,_,rfl,ak (rfl),?_⟩;exact⟨_,_,s,rfl,⟨rfl,rfl,Nat.le_refl _,by omega,.inr (.inl ⟨rfl,hv,rfl,rfl⟩)⟩,cD.aw cy hH⟩
   refine qE rfl (by simp[JW]) ?_;refine qj fun K hK=>qg ?_;refine qm ?_;refine qe hK ?_
   by_cases MQ:((g.1:Nat):Int)=45
   ·rw[if_pos (.inr (.inr MQ))] at hv;refine qD rfl (by simp[MQ]) ?_;refine qq<|qj fun K hK=>qm ?_;refine qm ?_;refine qe hK<|ag.ret ⟨rx,_,_,_,rfl,ak (rfl),?_⟩;exact⟨_,_,s,rfl,⟨rfl,rfl,Nat.le_refl _,by omega,.inr (.inl ⟨rfl,hv,rfl,rfl⟩)⟩,cD.aw cy hH⟩
   refine qE rfl (by simp[MQ]) ?_;rw[if_neg (by rintro(h|h|h);exact EV h;exact JW h;exact MQ h)] at hv;refine qq<|qj fun K hK=>qm ?_;refine qg ?_;refine qp (o:=2) ?_;refine ql hH ax ?_;refine qA ?_;refine qg ?_;refine qp (o:=2) ?_;refine qT hH ax fun st hH=>?_;dsimp only[u2,u1,u3,u4,setMany,u5,u6,D.cells,Nat.reduceAdd,aP,br,aB,au] at hH;refine qe hK<|qq<|qj fun K hK=>qm ?_;refine qm ?_;refine ae.ie (qs:=[(0,_),(1,_)]) rfl rfl rfl rfl ⟨rfl,(ev rfl),(by rfl),rfl,(ev rfl),(by rfl),trivial⟩ (by intro q hq;simp only[List.mem_cons,List.not_mem_nil,or_false] at hq;rcases hq with rfl|rfl<;>exact⟨rfl,by exact Nat.le_of_ble_eq_true rfl⟩) (by show List.foldl _ [_,_] _=_;dsimp only[List.foldl_cons,List.foldl_nil,u2,u1]<;>rfl) (aa rfl _) ?_;refine qh (s:=2) (vs:=[_]) hH fun k39 st Th hH=>?_;refine qm ?_;refine qm ?_;refine qe hK ?_;have hH:Has N S2 st (.aE (.win k39 0 0 1 2) 2 (([((g.1:Nat),(g.1:Nat))]:List Rg).map au)::.box k (.mem 0 false (aP gs bA {s with i:=s.i+1}))::.aE bA 1 (aY.map aB)::H):=hH;have hfz:=oL hH ax (L:=s0.bs.length) (n:=15) (fun k hk=>by simp only[D.ref] at hk;rw[←cy];omega) (by decide)
   have Pj:aH st s0.bs.length true 16 (rP [.win k39 0 0 1 2,.bool true])=some (.tup [aQ [(((g.1:Nat):Int),((g.1:Nat):Int))],.bool true]):=by
    show(dH (aH st s0.bs.length true 15) [.win k39 0 0 1 2,.bool true]).map D.tup=_;simp only[dH,BK,hfz];rfl
   refine ag.ret ⟨rx,_,_,_,rfl,ak Pj,⟨_,_,{s with i:=s.i+1},rfl,⟨rfl,rfl,?_,?_,.inr (.inr ⟨he,?_,_,hv,rfl,by simp,by simp⟩)⟩,cD.aw cy (hH.drop 1)⟩⟩
   ·show s.i≤s.i+1;omega
   ·show s.i+1≤_;omega
   ·show s.i<s.i+1;omega
def wD:List Rg→Int
 |[]=>0
 |q::_=>q.1
noncomputable def jL (gs:List (Nat×Nat)) (i:Nat):PR (List Rg):=
 match ow gs i with
 | .er e w=>.er e w
 | .ok none _=>.er 4 i
 | .ok (some (a,one)) j=>
  if ek gs j 45=true then
   if j+1<gs.length then
    match ow gs (j+1) with
    | .er e w=>.er e w
    | .ok none _=>.er 4 i
    | .ok (some (b,two)) l=>if one=true∧two=true∧wD a≤wD b then .ok [(wD a,wD b)] l else .er 4 i
   else .er 4 i
  else .ok a j
def Hf (gs:List (Nat×Nat)) (aY:List Int) (R:PR (List Rg)) (s s':ec) (d:D):Prop:=
 s'.o=s.o∧s'.g=s.g∧s.i≤s'.i∧s'.i≤gs.length∧∃a:List Rg,d=aQ a∧a.length≤8∧(eB R aY s'∨s'.e=0∧s.i<s'.i∧R=.ok a s'.i)
theorem Dz {N k:Nat} {S s0:St} {H:List bj} {gs:List (Nat×Nat)} {bA:D} {aY:List Int} {s:ec} (eo:kz gs aY) (he:s.e=0) (hi:s.i<gs.length) (hH:Has N S s0 (.box k (.mem 0 false (aP gs bA s))::.aE bA 1 (aY.map aB)::H)):
  ∃d ah,Ev pv 286 [.ptr k 0 0] s0 d ah∧∃(s':ec),Hf gs aY (jL gs s.i) s s' d∧Has N S ah (.box k (.mem 0 false (aP gs bA s'))::.aE bA 1 (aY.map aB)::H):=by
 have r_:=eo.gl;have lY:=eo.pl;refine Ev.nj rfl Lu rfl rfl rfl ?_;dsimp only[u3,u4,List.length,Nat.reduceSub,Nat.reduceAdd,w1,w2];have cD:=hH;have hH:=hH.cE;have cy:(ai .rw s0).bs=s0.bs:=rfl;generalize ai .rw s0=S2 at*;have xG:Arg N S2 2 (gK gs) (gs.map br):=Arg.pure (fun st=>eE st gs)
 have hwr:∀(st:St) (s3:ec),s3.e=0→jL gs s.i=.er 4 s.i→s3.o=s.o→s3.g=s.g→s.i≤s3.i→s3.i≤gs.length→Has N S2 st (.box k (.mem 0 false (aP gs bA s3))::.aE bA 1 (aY.map aB)::H)→∃d ah,Ev pv 134 [.ptr k 0 0,.int .i64 (s.i:Nat),.int .i64 4] st d ah∧d=.sl []∧∃s4:ec,s4.e≠0∧Hf gs aY (jL gs s.i) s s4 (.sl [])∧Has N S2 ah (.box k (.mem 0 false (aP gs bA s4))::.aE bA 1 (aY.map aB)::H):=by
  intro st s3 h1 hv h2 h3 h4 h5 hH;obtain⟨d,ah,aI,h6,hH⟩:=et (s:=s3) s.i 4 (by omega) hH;obtain⟨w1,w2,w3,w4⟩:=gw (aY:=aY) (s:=s3) (i:=s.i) (e:=4) h1 (by decide) hv;exact⟨d,ah,aI,h6,_,w1.ne,⟨w3.trans h2,w4.trans h3,by omega,by omega,[],rfl,by simp,.inl w1⟩,hH⟩
 have rI:jL gs s.i=match ow gs s.i with
  | .er e w=>.er e w
  | .ok none _=>.er 4 s.i
  | .ok (some (a,one)) j=>
   if ek gs j 45=true then
    if j+1<gs.length then
     match ow gs (j+1) with
     | .er e w=>.er e w
     | .ok none _=>.er 4 s.i
     | .ok (some (b,two)) l=>if one=true∧two=true∧wD a≤wD b then .ok [(wD a,wD b)] l else .er 4 s.i
    else .er 4 s.i
   else .ok a j:=rfl
 refine qq<|qj fun K hK=>qm ?_;refine qe hK<|qq<|qj fun K hK=>qm ?_;refine qg ?_;refine qp (o:=2) ?_;refine ql hH ax ?_;refine qm ?_;refine qe hK<|qq<|qj fun K hK=>qm ?_;obtain⟨_,st,aI,d1,b,s1,rfl,⟨p1,p2,p3,p4,p5⟩,hH⟩:=vZ (s:=s) eo he hi hH;refine qv aI ?_;refine qm ?_;refine qg ?_;refine qg ?_;refine qm ?_;refine qm ?_;refine qe hK<|qq<|qq<|qj fun K hK=>qm ?_;refine qg ?_;refine qp (o:=5) ?_;refine ql hH ax ?_;refine qg ?_;refine qe hK ?_
 rcases p5 with⟨p5,rfl⟩|⟨e1,e2,rfl,rfl⟩|⟨p6,p7,a,e2,rfl,p8,p9⟩
 ·have hne:=p5.ne;refine qD rfl (by simp[hne]) ?_;refine qq<|qj fun K hK=>qm ?_;refine qe hK<|ag.ret ⟨rx,_,_,_,rfl,ak (rfl),?_⟩;exact⟨s1,⟨p1,p2,p3,p4,[],rfl,by simp,.inl (p5.map fun e w h=>by rw[rI,h])⟩,cD.aw cy hH⟩
 ·rw[e2] at rI;simp only at rI;have e3:s1.e=0:=by rw[e1];exact he
  refine qE rfl (by simp[e3]) ?_;refine ag.skip<|qq<|qq<|qj fun K hK=>qm ?_;refine ae.go (d:=.bool true) (st1:=_) rfl rfl rfl (aa rfl _) ?_;refine qe hK<|qB ?_;refine qq<|qj fun K hK=>qm ?_;refine qm ?_;obtain⟨_,st,aI,rfl,s4,SS,hX,hH⟩:=hwr _ s1 e3 rI p1 p2 p3 p4 hH;refine qv aI ?_;refine qe hK<|qq<|qj fun K hK=>qm ?_;refine qe hK<|ag.ret ⟨rx,_,_,_,rfl,ak (rfl),?_⟩;exact⟨s4,hX,cD.aw cy hH⟩
 ·rw[e2] at rI;simp only at rI;obtain⟨q,a',rfl⟩:∃q a',a=q::a':=List.exists_cons_of_ne_nil p9;refine qE rfl (by simp[p6]) ?_;refine ag.skip<|qq<|qq<|qj fun K hK=>qm ?_;refine ae.go (d:=.bool false) (st1:=_) rfl rfl rfl (aa rfl _) ?_;refine qe hK<|qC ?_;refine ag.skip ?_;obtain⟨k1,k2,k3,k4,k5⟩:=gQ (gs:=gs) (s:=s1) (r:=45);have k5:=k5 p4;refine qq<|qq<|qj fun K hK=>qm ?_;obtain⟨_,st,aI,rfl,hH⟩:=dX (s:=s1) (by omega) 45 hH;refine qv aI ?_;refine qg ?_;refine qe hK ?_;have HV:ek gs s1.i 45=true→(bW gs s1 45).i=s1.i+1:=fun h=>by unfold bW;rw[if_pos h]
  have kU:ek gs s1.i 45=false→(bW gs s1 45).i=s1.i:=fun h=>by unfold bW;rw[if_neg (by rw[h];simp)]
  generalize bW gs s1 45=s2 at*
  cases hb:ek gs s1.i 45 with
  |false=>
   have kU:=kU hb;rw[hb,if_neg (by simp),←kU] at rI;refine qB ?_;refine qq<|qj fun K hK=>qm ?_;refine qm ?_;refine qe hK<|ag.ret ⟨rx,_,_,_,rfl,ak (rfl),?_⟩;exact⟨s2,⟨k1.trans p1,k2.trans p2,by omega,k5,q::a',rfl,p8,.inr ⟨k3.trans p6,by omega,rI⟩⟩,cD.aw cy hH⟩
  |true=>
   have HV:=HV hb;rw[hb,if_pos rfl,←HV] at rI;refine qC ?_;refine ag.skip<|qq<|qj fun K hK=>qm ?_;refine qe hK<|qq<|qj fun K hK=>qm ?_;refine qe hK<|qq<|qq<|qj fun K hK=>qm ?_;refine qg ?_;refine qp (o:=2) ?_;refine ql hH ax ?_;refine qm ?_;refine qg ?_;refine qp (o:=0) ?_;refine ql hH ax ?_;refine qn ?_;simp only[List.length_map];refine qg ?_;refine qe hK<|ag.merge (fun fr st=>∃(d2:D) (two:Bool) (s3:ec) (tmp:List (Nat×D)),fr=⟨8,[.ptr k 0 0,yH fr 1,yH fr 2,.int .i64 (s.i:Nat),aQ (q::a'),.bool b,d2,.bool two],tmp⟩∧Has N S2 st (.box k (.mem 0 false (aP gs bA s3))::.aE bA 1 (aY.map aB)::H)∧(s3.o=s.o)∧(s3.g=s.g)∧(s2.i≤s3.i)∧(s3.i≤gs.length)∧(eB (jL gs s.i) aY s3∨s3.e=0∧(two=false∧jL gs s.i=.er 4 s.i∨∃a2:List Rg,d2=aQ a2∧a2≠[]∧jL gs s.i=if b=true∧two=true∧wD (q::a')≤wD a2 then .ok [(wD (q::a'),wD a2)] s3.i else .er 4 s.i))) ?_ ?_
   ·refine ag.cond (by rfl) (fun hlt=>?_) (fun hlt=>?_)<;>try simp only[decide_eq_true_eq,decide_eq_false_iff_not] at hlt
    ·have OS:s2.i<gs.length:=by omega
     rw[if_pos OS] at rI;refine qj fun K hK=>qm ?_;obtain⟨_,st,aI,d2,two,s3,rfl,⟨r1,r2,r3,r4,r5⟩,hH⟩:=vZ (s:=s2) eo (k3.trans p6) (by omega) hH;refine qv aI ?_;refine qm ?_;refine qg ?_;refine qg ?_;refine qm ?_;refine qm ?_;refine qe hK ?_
     rcases r5 with⟨r5,rfl⟩|⟨e4,e5,rfl,rfl⟩|⟨r6,r7,a2,e5,rfl,r8,r9⟩
     ·exact⟨.nul,two,s3,_,rfl,hH,r1.trans (k1.trans p1),r2.trans (k2.trans p2),r3,r4,.inl (r5.map fun e w h=>by rw[rI,h])⟩
     ·rw[e5] at rI;simp only at rI;exact⟨.nul,false,s3,_,rfl,hH,r1.trans (k1.trans p1),r2.trans (k2.trans p2),r3,r4,.inr ⟨by rw[e4];exact k3.trans p6,.inl ⟨rfl,rI⟩⟩⟩
     ·rw[e5] at rI;simp only at rI;exact⟨aQ a2,two,s3,_,rfl,hH,r1.trans (k1.trans p1),r2.trans (k2.trans p2),r3,r4,.inr ⟨r6,.inr ⟨a2,rfl,r9,rI⟩⟩⟩
    ·rw[if_neg (by omega)] at rI;refine ag.skip ?_;exact⟨.nul,false,s2,_,rfl,hH,k1.trans p1,k2.trans p2,Nat.le_refl _,k5,.inr ⟨k3.trans p6,.inl ⟨rfl,rI⟩⟩⟩
   ·rintro fr st ⟨d2,two,s3,tmp,hfr,hH,h1,h2,h3,h4,h5⟩;rw[hfr];clear hfr;generalize yH fr=ee;clear fr
    rcases h5 with h5|⟨h5,h6⟩
    ·have hne:=h5.ne;have ba:(s3.e==0)=false:=by simpa using hne
     refine qq<|qq<|qj fun K hK=>qm ?_;refine qg ?_;refine qp (o:=5) ?_;refine ql hH ax ?_;refine qg ?_;refine qm ?_;refine qs ?_ (hg:=wn ba);refine qs ?_ (hg:=wn ba);refine qs ?_ (hg:=wn ba);refine qs ?_;refine qs ?_;refine qs ?_ (hg:=wn ba);refine qs ?_ (hg:=wn ba);refine qs ?_;refine qs ?_;refine qs ?_;refine qs ?_;refine qs ?_;refine qs ?_;refine qs ?_;refine qs ?_;refine qs ?_;refine qs ?_ (hg:=wn ba);refine qu ba ?_;refine qe hK<|qC ?_;refine ag.skip<|qq<|qq<|qj fun K hK=>qm ?_;refine qg ?_;refine qp (o:=5) ?_;refine ql hH ax ?_;refine qg ?_;refine qe hK<|qD rfl (by simp[hne]) ?_;refine qq<|qj fun K hK=>qm ?_;refine qe hK<|ag.ret ⟨rx,_,_,_,rfl,ak (rfl),?_⟩;exact⟨s3,⟨h1,h2,by omega,h4,[],rfl,by simp,.inl h5⟩,cD.aw cy hH⟩
    ·have ba:(s3.e==0)=true:=by simpa using h5
     cases b with
     |false=>
      have rH:jL gs s.i=.er 4 s.i:=by
       rcases h6 with⟨_,h⟩|⟨a2,_,_,h⟩
       ·exact h
       ·rw[h,if_neg (by simp)]
      have bL:(!false)=true:=rfl;refine qq<|qq<|qj fun K hK=>qm ?_;refine qg ?_;refine qp (o:=5) ?_;refine ql hH ax ?_;refine qg ?_;refine qm ?_;refine qm ?_ (hg:=wi ba);refine qg ?_ (hg:=wi ba);refine qm ?_ (hg:=wi ba);refine qs ?_ (hg:=wn bL);refine qs ?_ (hg:=wn bL);refine ae.cP (aj rfl rfl rfl ba) rfl bL (aa rfl _) ?_;refine qm ?_ (hg:=wi ba);refine qs ?_;refine qs ?_;refine qs ?_;refine qs ?_;refine qs ?_;refine qs ?_;refine qs ?_;refine qs ?_;refine qs ?_;refine qg ?_ (hg:=wi ba);refine qt ba ?_;refine qe hK<|qB ?_;refine qj fun K hK=>qm ?_;refine qm ?_;obtain⟨_,st,aI,rfl,s4,w1,hX,hH⟩:=hwr _ s3 h5 rH h1 h2 (by omega) h4 hH;refine qv aI ?_;refine qe hK<|qq<|qq<|qj fun K hK=>qm ?_;refine qg ?_;refine qp (o:=5) ?_;refine ql hH ax ?_;refine qg ?_;refine qe hK<|qD rfl (by simp[w1]) ?_;refine qq<|qj fun K hK=>qm ?_;refine qe hK<|ag.ret ⟨rx,_,_,_,rfl,ak (rfl),?_⟩;exact⟨s4,hX,cD.aw cy hH⟩
     |true=>
      have bL:(!true)=false:=rfl
      cases two with
      |false=>
       have rH:jL gs s.i=.er 4 s.i:=by
        rcases h6 with⟨_,h⟩|⟨a2,_,_,h⟩
        ·exact h
        ·rw[h,if_neg (by simp)]
       have dE:(!false)=true:=rfl;refine qq<|qq<|qj fun K hK=>qm ?_;refine qg ?_;refine qp (o:=5) ?_;refine ql hH ax ?_;refine qg ?_;refine qm ?_;refine qm ?_ (hg:=wi ba);refine qg ?_ (hg:=wi ba);refine qm ?_ (hg:=wi ba);refine qm ?_ (hg:=wi bL);refine qg ?_ (hg:=wi bL);refine ae.cH (aj rfl rfl rfl ba) rfl bL (aa rfl _) ?_;refine qm ?_ (hg:=wi ba);refine qs ?_ (hg:=wn dE);refine qs ?_ (hg:=wn dE);refine qs ?_ (hg:=wn dE);refine qs ?_ (hg:=wn dE);refine qs ?_ (hg:=wn dE);refine qs ?_ (hg:=wn dE);refine qs ?_ (hg:=wn dE);refine qs ?_ (hg:=wn dE);refine qs ?_ (hg:=wn dE);refine ae.cP (aj rfl rfl rfl ba) rfl dE (aa rfl _) ?_;refine qt ba ?_;refine qe hK<|qB ?_;refine qj fun K hK=>qm ?_;refine qm ?_;obtain⟨_,st,aI,rfl,s4,w1,hX,hH⟩:=hwr _ s3 h5 rH h1 h2 (by omega) h4 hH;refine qv aI ?_;refine qe hK<|qq<|qq<|qj fun K hK=>qm ?_;refine qg ?_;refine qp (o:=5) ?_;refine ql hH ax ?_;refine qg ?_;refine qe hK<|qD rfl (by simp[w1]) ?_;refine qq<|qj fun K hK=>qm ?_;refine qe hK<|ag.ret ⟨rx,_,_,_,rfl,ak (rfl),?_⟩;exact⟨s4,hX,cD.aw cy hH⟩
      |true=>
       have dE:(!true)=false:=rfl
       obtain⟨a2,rfl,h7,rH⟩:∃a2:List Rg,d2=aQ a2∧a2≠[]∧jL gs s.i=if true=true∧true=true∧wD (q::a')≤wD a2 then .ok [(wD (q::a'),wD a2)] s3.i else .er 4 s.i:=by
        rcases h6 with h6|h6
        ·cases h6.1
        ·exact h6
       obtain⟨q2,Q9,rfl⟩:∃q a',a2=q::a':=List.exists_cons_of_ne_nil h7
       have rH:jL gs s.i=if q.1≤q2.1 then .ok [(q.1,q2.1)] s3.i else .er 4 s.i:=by
        rw[rH];simp[wD]
       have Sq:=(gi (q::a')).arg N S2;have Sp:=(gi (q2::Q9)).arg N S2;have wQ:((q::a').map au)[0]?=some (au q):=rfl;have gN:((q2::Q9).map au)[0]?=some (au q2):=rfl;refine qq<|qq<|qj fun K hK=>qm ?_;refine qg ?_;refine qp (o:=5) ?_;refine ql hH ax ?_;refine qg ?_;refine qm ?_;refine qm ?_ (hg:=wi ba);refine qg ?_ (hg:=wi ba);refine qm ?_ (hg:=wi ba);refine qm ?_ (hg:=wi bL);refine qg ?_ (hg:=wi bL);refine ae.cH (aj rfl rfl rfl ba) rfl bL (aa rfl _) ?_;refine qm ?_ (hg:=wi ba);refine qm ?_ (hg:=wi dE);refine qr (fun Uu SG=>?_) (hg:=wi dE);refine qf (fo:=0) (fun Ut SF=>?_) (hg:=wi dE);refine qR ?_ (hg:=wi dE);refine qm ?_ (hg:=wi dE);refine qr (fun Ql Kr=>?_) (hg:=wi dE);refine qf (fo:=0) (fun RA Ox=>?_) (hg:=wi dE);refine qR ?_ (hg:=wi dE);refine qg ?_ (hg:=wi dE);refine ae.cH (aj rfl rfl rfl ba) rfl dE (aa rfl _) ?_;refine qt ba ?_;refine qe hK ?_;refine ag.cond (by rfl) (fun hgt=>?_) (fun hgt=>?_)<;>try simp only[decide_eq_true_eq,decide_eq_false_iff_not] at hgt
       ·rw[if_neg (by omega)] at rH;refine qj fun K hK=>qm ?_;refine qm ?_;obtain⟨_,st,aI,rfl,s4,w1,hX,hH⟩:=hwr _ s3 h5 rH h1 h2 (by omega) h4 hH;refine qv aI ?_;refine qe hK<|qq<|qq<|qj fun K hK=>qm ?_;refine qg ?_;refine qp (o:=5) ?_;refine ql hH ax ?_;refine qg ?_;refine qe hK<|qD rfl (by simp[w1]) ?_;refine qq<|qj fun K hK=>qm ?_;refine qe hK<|ag.ret ⟨rx,_,_,_,rfl,ak (rfl),?_⟩;exact⟨s4,hX,cD.aw cy hH⟩
       ·rw[if_pos (by omega)] at rH;refine ag.skip<|qq<|qq<|qj fun K hK=>qm ?_;refine qg ?_;refine qp (o:=5) ?_;refine ql hH ax ?_;refine qg ?_;refine qe hK<|qE rfl (by simp[h5]) ?_;refine ag.skip<|qq<|qj fun K hK=>qm ?_;refine qr fun Ry Ov=>?_;refine qf (fo:=0) fun Up SC=>?_;refine qR ?_;refine qm ?_;refine qr fun Un SA=>?_;refine qf (fo:=0) fun Um Sz=>?_;refine qR ?_;refine ae.ie (qs:=[(0,_),(1,_)]) rfl rfl rfl rfl ⟨rfl,(ev rfl),(by rfl),rfl,(ev rfl),(by rfl),trivial⟩ (by intro q hq;simp only[List.mem_cons,List.not_mem_nil,or_false] at hq;rcases hq with rfl|rfl<;>exact⟨rfl,by exact Nat.le_of_ble_eq_true rfl⟩) (by show List.foldl _ [_,_] _=_;dsimp only[List.foldl_cons,List.foldl_nil,u2,u1]<;>rfl) (aa rfl _) ?_;refine qh (s:=2) (vs:=[_]) hH fun k87 st S9 hH=>?_;dsimp only[u2,u1,u3,u4,setMany,u5,u6,D.cells,Nat.reduceAdd,aP,br,aB,au] at hH;refine qm ?_;refine qe hK ?_;have hH:Has N S2 st (.aE (.win k87 0 0 1 2) 2 (([(q.1,q2.1)]:List Rg).map au)::.box k (.mem 0 false (aP gs bA s3))::.aE bA 1 (aY.map aB)::H):=hH;have hfz:=oL hH ax (L:=s0.bs.length) (n:=16) (fun k hk=>by simp only[D.ref] at hk;rw[←cy];omega) (by decide);refine ag.ret ⟨rx,_,_,_,rfl,ak hfz,⟨s3,⟨h1,h2,by omega,h4,[(q.1,q2.1)],rfl,by simp,.inr ⟨h5,by omega,rH⟩⟩,cD.aw cy (hH.drop 1)⟩⟩
def cx (fr:Go.V.Fr) (k:Nat):Go.V.D:=Go.V.nth .bp fr.loc k
noncomputable def kq (gs:List (Nat×Nat)) (f:Nat):Nat→Nat→List Rg→Bool→PR (List Rg)
 |0,_,_,_=>.er 4 f
 |n+1,i,l,nn=>
  if ek gs i 93=true then(if nn=true then .er 4 f else .ok l i)
  else if gs.length≤i then .er 4 f
  else match jL gs i with
   | .er e w=>.er e w
   | .ok a j=>kq gs f n j (l++a) false
noncomputable def Eo (gs:List (Nat×Nat)) (i:Nat):PR (List Rg):=
 match kq gs i (gs.length+1) (if ek gs (i+1) 94=true then i+2 else i+1) [] true with
 | .er e w=>.er e w
 | .ok l k=>.ok (if ek gs (i+1) 94=true then oU (cm l) else cm l) (k+1)
def y6 (a:List Rg):bB:=iS 2 0 0 false 0 0 a
noncomputable def y5 (gs:List (Nat×Nat)) (i g:Nat):PR (List bB×Nat):=
 match Eo gs i with
 | .er e w=>.er e w
 | .ok a j=>.ok ([y6 a],g) j
def iY (gs:List (Nat×Nat)) (aY:List Int) (R:PR (List bB×Nat)) (s s':ec) (d:D) (c:Nat):Prop:=
 s'.o=s.o∧s'.g≤4∧s.i≤s'.i∧s'.i≤gs.length∧∃l:List bB,d=p_ l∧(∀n∈l,l_ n)∧l.length≤4*(s'.i-s.i)+1∧(eB R aY s'∨s'.e=0∧R=.ok (l,s'.g) s'.i∧l.length+c≤4*(s'.i-s.i))
def pq (gs:List (Nat×Nat)) (aY:List Int) (R:PR (List bB×Nat)) (s s':ec) (d:D):Prop:=
 s'.o=s.o∧s'.g≤4∧s.i≤s'.i∧s'.i≤gs.length∧∃l:List bB,d=p_ l∧(∀n∈l,l_ n)∧l.length≤4*(s'.i-s.i)+1∧(eB R aY s'∨s'.e=0∧R=.ok (l,s'.g) s'.i)
theorem fc {gs:List (Nat×Nat)} {aY:List Int} {R:PR (List bB×Nat)} {s s':ec} {c:Nat} (h1:s'.o=s.o) (h2:s'.g≤4) (h3:s.i≤s'.i) (h4:s'.i≤gs.length) (h5:eB R aY s'):iY gs aY R s s' (.sl []) c:=
 ⟨h1,h2,h3,h4,[],rfl,fun n hn=>(by cases hn),by simp,.inl h5⟩
theorem BX {N k:Nat} {S s0:St} {H:List bj} {gs:List (Nat×Nat)} {bA:D} {aY:List Int} {s:ec} (eo:kz gs aY) (he:s.e=0) (hi:s.i<gs.length) (hg:s.g≤4) (hH:Has N S s0 (.box k (.mem 0 false (aP gs bA s))::.aE bA 1 (aY.map aB)::H)):
  ∃d ah,Ev pv 267 [.ptr k 0 0] s0 d ah∧∃(s':ec),iY gs aY (y5 gs s.i s.g) s s' d 2∧Has N S ah (.box k (.mem 0 false (aP gs bA s'))::.aE bA 1 (aY.map aB)::H):=by
 have r_:=eo.gl;have lY:=eo.pl;refine Ev.nj rfl LB rfl rfl rfl ?_;dsimp only[u3,u4,List.length,Nat.reduceSub,Nat.reduceAdd,w1,w2];have cD:=hH;have hH:=hH.cE;have cy:(ai .rw s0).bs=s0.bs:=rfl;generalize ai .rw s0=S2 at*;have xG:Arg N S2 2 (gK gs) (gs.map br):=Arg.pure (fun st=>eE st gs);refine qq<|qj fun K hK=>qm ?_;refine qe hK<|qq<|qj fun K hK=>qm ?_;refine qg ?_;refine qp (o:=2) ?_;refine ql hH ax ?_;refine qm ?_;refine qe hK<|qq<|qj fun K hK=>qm ?_;refine qg ?_;refine qp (o:=2) ?_;refine ql hH ax ?_;refine qA ?_;refine qg ?_;refine qp (o:=2) ?_;refine qT hH ax fun st hH=>?_;dsimp only[u2,u1,u3,u4,setMany,u5,u6,D.cells,Nat.reduceAdd,aP,br,aB,au] at hH;refine qe hK ?_;have hH:Has N S2 st (.box k (.mem 0 false (aP gs bA {s with i:=s.i+1}))::.aE bA 1 (aY.map aB)::H):=hH;obtain⟨k1,k2,k3,k4,k5⟩:=gQ (gs:=gs) (s:={s with i:=s.i+1}) (r:=94);have k5:=k5 (by show s.i+1≤_;omega);simp only at k1 k2 k3 k4
 have hst:(bW gs {s with i:=s.i+1} 94).i=if ek gs (s.i+1) 94=true then s.i+2 else s.i+1:=by
  unfold bW;simp only;split<;>rfl
 refine qq<|qj fun K hK=>qm ?_;obtain⟨_,st,aI,rfl,hH⟩:=dX (s:={s with i:=s.i+1}) (by omega) 94 hH;refine qv aI ?_;refine qm ?_;refine qe hK ?_
 have hcv:y5 gs s.i s.g=match kq gs s.i (gs.length+1) (if ek gs (s.i+1) 94=true then s.i+2 else s.i+1) [] true with
  | .er e w=>.er e w
  | .ok l k=>.ok ([y6 (if ek gs (s.i+1) 94=true then oU (cm l) else cm l)],s.g) (k+1):=by
  unfold y5 Eo;cases kq gs s.i (gs.length+1) (if ek gs (s.i+1) 94=true then s.i+2 else s.i+1) [] true<;>rfl
 rw[←hst] at hcv
 change y5 gs s.i s.g=match kq gs s.i (gs.length+1) (bW gs {s with i:=s.i+1} 94).i [] true with
  | .er e w=>.er e w
  | .ok l k=>.ok ([y6 (if ek gs ({s with i:=s.i+1}:ec).i 94=true then oU (cm l) else cm l)],s.g) (k+1) at hcv
 generalize bW gs {s with i:=s.i+1} 94=s1 at*;generalize ek gs ({s with i:=s.i+1}:ec).i 94=nt at*;clear hst
 obtain⟨C0,Ju⟩:∃C0,kq gs s.i (gs.length+1) s1.i [] true=C0:=⟨_,rfl⟩
 rw[Ju] at hcv;have BF:∀s',eB C0 aY s'→eB (y5 gs s.i s.g) aY s':=fun s' h=>h.map fun e w hw=>by rw[hcv,hw]
 refine qq<|qj fun K hK=>qm ?_;refine qe hK<|qq<|qj fun K hK=>qm ?_;refine qe hK ?_
 have hH:Has N S2 st (.box k (.mem 0 false (aP gs bA s1))::.aE bA 1 (aY.map aB)::.aE .nul 2 (([]:List Rg).map au)::H):=((hH.eP 2).front aX|>.front bV|>fun h=>(h.front aX))
 refine qq<|ag.block<|ag.loop (fun mm fr st=>∃(s1:ec) (ld:D) (lr:List Rg) (nn:Bool),fr.clean=⟨7,[.ptr k 0 0,cx fr 1,cx fr 2,.int .i64 (s.i:Nat),.bool nt,ld,.bool nn],[]⟩∧Has N S2 st (.box k (.mem 0 false (aP gs bA s1))::.aE bA 1 (aY.map aB)::.aE ld 2 (lr.map au)::H)∧(s1.o=s.o)∧(s1.g=s.g)∧(s.i<s1.i)∧(s1.i≤gs.length)∧(lr.length≤8*s1.i+8)∧(s1.e=0→lr.length≤8*s1.i)∧(gs.length-s1.i+(if s1.e=0 then 1 else 0)≤mm)∧(eB C0 aY s1∨s1.e=0∧∃n,gs.length<n+s1.i∧C0=kq gs s.i n s1.i lr nn)) (gs.length+1) ?_ ?_
 ·exact⟨s1,.nul,[],true,rfl,hH,k1,k2,by omega,k5,by simp,fun _=>by simp,by split<;>omega,.inr ⟨k3.trans he,gs.length+1,by omega,Ju.symm⟩⟩
 rintro mm fr st ⟨s1,ld,lr,nn,hfr,hH,h1,h2,h3,h4,h5,h6,xF,h7⟩;rw[hfr];clear hfr;generalize cx fr=ee;clear fr
 rcases h7 with h7|⟨he1,n,rW,gV⟩
 ·have he1:=h7.ne;have ba:(s1.e==0)=false:=by simpa using he1
  refine qq<|qq<|qj fun K hK=>qm ?_;refine qg ?_;refine qp (o:=5) ?_;refine ql hH ax ?_;refine qg ?_;refine qm ?_;refine qs ?_ (hg:=wn ba);refine qs ?_ (hg:=wn ba);refine qs ?_ (hg:=wn ba);refine qu ba ?_;refine qe hK<|qC ?_;refine ag.exit<|qq<|qq<|qj fun K hK=>qm ?_;refine qg ?_;refine qp (o:=5) ?_;refine ql hH ax ?_;refine qg ?_;refine qe hK<|qD rfl (by simp[he1]) ?_;refine qq<|qj fun K hK=>qm ?_;refine qe hK<|ag.ret ⟨rx,_,_,_,rfl,ak (rfl),?_⟩;exact⟨_,fc h1 (by omega) (by omega) h4 (BF _ h7),cD.aw cy (hH.erase 2)⟩
 ·rw[if_pos he1] at xF;have h6:=h6 he1;have ba:(s1.e==0)=true:=by simpa using he1
  obtain⟨n,rfl⟩:∃m,n=m+1:=⟨n-1,by omega⟩
  unfold kq at gV;refine qq<|qq<|qj fun K hK=>qm ?_;refine qg ?_;refine qp (o:=5) ?_;refine ql hH ax ?_;refine qg ?_;refine qm ?_;refine qm ?_ (hg:=wi ba);obtain⟨_,st,aI,rfl,hH⟩:=oH (s:=s1) (by omega) 93 hH;refine qv aI ?_ (hg:=wi ba);refine qg ?_ (hg:=wi ba);refine qt ba ?_;refine qe hK ?_
  cases hb:ek gs s1.i 93 with
  |true=>
   have hlt:=qN hb;rw[hb,if_pos rfl] at gV;refine qC ?_;refine ag.exit<|qq<|qq<|qj fun K hK=>qm ?_;refine qg ?_;refine qp (o:=5) ?_;refine ql hH ax ?_;refine qg ?_;refine qe hK<|qE rfl (by simp[he1]) ?_;refine ag.skip<|qq<|qq<|qj fun K hK=>qm ?_;refine qe hK ?_
   cases nn with
   |true=>
    rw[if_pos rfl] at gV;refine qB ?_;refine qq<|qj fun K hK=>qm ?_;refine qm ?_;obtain⟨_,st,aI,rfl,hH⟩:=et (s:=s1) s.i 4 (by omega) hH;refine qv aI ?_;refine qm ?_;refine qe hK ?_;obtain⟨w1,w2,w3,w4⟩:=gw (aY:=aY) (s:=s1) (i:=s.i) (e:=4) he1 (by decide) gV;refine ag.ret ⟨rx,_,_,_,rfl,ak (rfl),?_⟩;exact⟨_,fc (by omega) (by omega) (by omega) (by omega) (BF _ w1),cD.aw cy (hH.erase 2)⟩
   |false=>
    rw[if_neg (by simp)] at gV;rw[gV] at hcv;simp only at hcv;refine qC ?_;refine ag.skip<|qq<|qj fun K hK=>qm ?_;refine qg ?_;refine qp (o:=2) ?_;refine ql hH ax ?_;refine qA ?_;refine qg ?_;refine qp (o:=2) ?_;refine qT hH ax fun st hH=>?_;dsimp only[u2,u1,u3,u4,setMany,u5,u6,D.cells,Nat.reduceAdd,aP,br,aB,au] at hH;refine qe hK<|qq<|qj fun K hK=>qm ?_;obtain⟨aI,np,_⟩:=mB (l:=lr) (hH.rows bV) (by omega);refine qv aI ?_;refine qm ?_;refine qe hK ?_;generalize cm lr=m at*;refine qq<|qq<|qj fun K hK=>qm ?_;refine qe hK ?_
    have g_:∀(st:St) (a:List Rg) (k70:Nat),a=(if nt=true then oU m else m)→a.length≤1048576→S2.bs.length≤k70→Has N S2 st (.aE (.win k70 0 0 1 7) 7 [[.int .i64 2,aQ a,.int .i64 0,.int .i64 0,.bool false,.int .i64 0,.int .i64 0]]::.box k (.mem 0 false (aP gs bA {s1 with i:=s1.i+1}))::.aE bA 1 (aY.map aB)::.aE ld 2 (lr.map au)::H)→
      ∃d ah,cT .rw false s0 st (.win k70 0 0 1 7)=some (d,ah)∧∃(s':ec),iY gs aY (y5 gs s.i s.g) s s' d 2∧Has N S ah (.box k (.mem 0 false (aP gs bA s'))::.aE bA 1 (aY.map aB)::H):=by
     intro st a k70 TV ha hk hH;have hfz:=iK hH ax (L:=s0.bs.length) (.inl rfl) (fun k hk=>by simp only[D.ref] at hk;rw[←cy];omega);exact⟨_,_,ak hfz,{s1 with i:=s1.i+1},⟨h1,by show s1.g≤4;omega,by show s.i≤s1.i+1;omega,by show s1.i+1≤_;omega,_,rfl,Dh ha (by omega),by simp,.inr ⟨he1,by rw[hcv,←TV];show _=PR.ok (_,s1.g) _;rw[h2];rfl,by show 1+2≤4*(s1.i+1-s.i);omega⟩⟩,cD.aw cy ((hH.drop 1).erase 2)⟩
    cases nt with
    |true=>
     refine qB ?_;refine qj fun K hK=>qm ?_;obtain⟨aI,hla⟩:=uq (l:=m) (cz _ _) (by omega);refine qv aI ?_;refine qm ?_;refine qe hK<|qq<|qj fun K hK=>qm ?_;refine ae.ie (qs:=[(0,_),(1,_)]) rfl rfl rfl rfl ⟨rfl,(ev rfl),(by rfl),rfl,(ev rfl),(by rfl),trivial⟩ (by intro q hq;simp only[List.mem_cons,List.not_mem_nil,or_false] at hq;rcases hq with rfl|rfl<;>exact⟨rfl,by exact Nat.le_of_ble_eq_true rfl⟩) (by show List.foldl _ [_,_,_,_,_,_,_] _=_;dsimp only[List.foldl_cons,List.foldl_nil,u2,u1]<;>rfl) (aa rfl _) ?_;refine qh (s:=7) (vs:=[_]) hH fun k70 st Ip hH=>?_;refine qm ?_;refine qe hK ?_;obtain⟨d',ah,rX,il⟩:=g_ _ (oU m) k70 rfl (by omega) Ip hH;refine ag.ret ⟨rx,_,d',ah,rfl,rX,il⟩
    |false=>
     refine qC ?_;refine ag.skip<|qq<|qj fun K hK=>qm ?_;refine ae.ie (qs:=[(0,_),(1,_)]) rfl rfl rfl rfl ⟨rfl,(ev rfl),(by rfl),rfl,(ev rfl),(by rfl),trivial⟩ (by intro q hq;simp only[List.mem_cons,List.not_mem_nil,or_false] at hq;rcases hq with rfl|rfl<;>exact⟨rfl,by exact Nat.le_of_ble_eq_true rfl⟩) (by show List.foldl _ [_,_,_,_,_,_,_] _=_;dsimp only[List.foldl_cons,List.foldl_nil,u2,u1]<;>rfl) (aa rfl _) ?_;refine qh (s:=7) (vs:=[_]) hH fun k70 st Ip hH=>?_;refine qm ?_;refine qe hK ?_;obtain⟨d',ah,rX,il⟩:=g_ _ m k70 rfl (by omega) Ip hH;refine ag.ret ⟨rx,_,d',ah,rfl,rX,il⟩
  |false=>
   rw[hb,if_neg (by simp)] at gV;refine qB ?_;refine ag.skip<|ag.block<|qq<|qq<|qj fun K hK=>qm ?_;refine qg ?_;refine qp (o:=2) ?_;refine ql hH ax ?_;refine qm ?_;refine qg ?_;refine qp (o:=0) ?_;refine ql hH ax ?_;refine qn ?_;simp only[List.length_map];refine qg ?_;refine qe hK ?_;refine ag.cond (by rfl) (fun hge=>?_) (fun hge=>?_)<;>try simp only[decide_eq_true_eq,decide_eq_false_iff_not] at hge
   ·rw[if_pos (by omega)] at gV;refine qq<|qj fun K hK=>qm ?_;refine qm ?_;obtain⟨_,st,aI,rfl,hH⟩:=et (s:=s1) s.i 4 (by omega) hH;refine qv aI ?_;refine qm ?_;refine qe hK ?_;obtain⟨w1,w2,w3,w4⟩:=gw (aY:=aY) (s:=s1) (i:=s.i) (e:=4) he1 (by decide) gV;refine ag.ret ⟨rx,_,_,_,rfl,ak (rfl),?_⟩;exact⟨_,fc (by omega) (by omega) (by omega) (by omega) (BF _ w1),cD.aw cy (hH.erase 2)⟩
   ·rw[if_neg (by omega)] at gV;refine ag.skip<|qq<|qj fun K hK=>qm ?_;refine qm ?_;obtain⟨_,st,aI,s2,⟨i1,i2,i3,i4,a,rfl,i5,i6⟩,hH⟩:=Dz (s:=s1) eo he1 (by omega) hH;have Sq:=(gi a).arg N S2;have Jl:=yd a;refine qv aI ?_;refine ae.eY (s:=2) hH rfl (ev rfl) (ev rfl) (by exact bV) (by exact Arg.rows (by assumption) hH) rfl rfl rfl rfl rfl rfl rfl ⟨(Nat.le_of_ble_eq_true rfl),(Nat.le_of_ble_eq_true rfl)⟩ (fun _=>(aa rfl _)) (by simp only[List.length_map]<;>omega) (by exact .inr (by assumption)) (fun Qd st hH=>?_);dsimp only[u2,u1,u3,u4,setMany,u5,u6,D.cells,Nat.reduceAdd,aP,br,aB,au] at hH;refine qm ?_;refine qe hK<|qj fun K hK=>qm ?_;refine qe hK ?_
    rcases i6 with i6|⟨i6,i7,i8⟩
    ·have hne:=i6.ne;exact⟨mm-1,by omega,⟨s2,Qd,lr++a,false,rfl,(by rw[List.map_append];exact hH),i1.trans h1,i2.trans h2,by omega,i4,by rw[List.length_append];omega,fun e=>absurd e hne,by rw[if_neg hne];omega,.inl (i6.map fun e w h=>by rw[gV,h])⟩⟩
    ·rw[i8] at gV;simp only at gV;exact⟨mm-1,by omega,⟨s2,Qd,lr++a,false,rfl,(by rw[List.map_append];exact hH),i1.trans h1,i2.trans h2,by omega,i4,by rw[List.length_append];omega,fun e=>by rw[List.length_append];omega,by rw[if_pos i6];omega,.inr ⟨i6,n,by omega,gV⟩⟩⟩
def pW (gs:List (Nat×Nat)) (f:Nat):PR (Int×Int):=
 if(digS (fV gs (f+1)) []).2=0 then .er 4 f
 else if ek gs (f+1+(digS (fV gs (f+1)) []).2) 44=true then
  (if ek gs (f+1+(digS (fV gs (f+1)) []).2+1+(digS (fV gs (f+1+(digS (fV gs (f+1)) []).2+1)) []).2) 125=true then
   (if(digS (fV gs (f+1+(digS (fV gs (f+1)) []).2+1)) []).2=0 then
    (if(hY (digS (fV gs (f+1)) []).1).2=true then .ok ((hY (digS (fV gs (f+1)) []).1).1,-1) (f+1+(digS (fV gs (f+1)) []).2+1+(digS (fV gs (f+1+(digS (fV gs (f+1)) []).2+1)) []).2+1) else .er 2 f)
   else if oF (digS (fV gs (f+1+(digS (fV gs (f+1)) []).2+1)) []).1 (digS (fV gs (f+1)) []).1=true then .er 4 f
   else if(hY (digS (fV gs (f+1)) []).1).2=true∧(hY (digS (fV gs (f+1+(digS (fV gs (f+1)) []).2+1)) []).1).2=true then .ok ((hY (digS (fV gs (f+1)) []).1).1,(hY (digS (fV gs (f+1+(digS (fV gs (f+1)) []).2+1)) []).1).1) (f+1+(digS (fV gs (f+1)) []).2+1+(digS (fV gs (f+1+(digS (fV gs (f+1)) []).2+1)) []).2+1) else .er 2 f)
  else .er 4 f)
 else(if ek gs (f+1+(digS (fV gs (f+1)) []).2) 125=true then
   (if oF (digS (fV gs (f+1)) []).1 (digS (fV gs (f+1)) []).1=true then .er 4 f
   else if(hY (digS (fV gs (f+1)) []).1).2=true then .ok ((hY (digS (fV gs (f+1)) []).1).1,(hY (digS (fV gs (f+1)) []).1).1) (f+1+(digS (fV gs (f+1)) []).2+1) else .er 2 f)
  else .er 4 f)
def pV (gs:List (Nat×Nat)) (f:Nat) (m n:List UInt8) (ok en:Bool) (i:Nat):PR (Int×Int):=
 if ok=false then .er 4 f
 else if ek gs i 125=false then .er 4 f
 else if en=false∧oF n m=true then .er 4 f
 else if(hY m).2=true∧(hY (if en=true then[] else n)).2=true then .ok ((hY m).1,if en=true then-1 else(hY n).1) (i+1)
 else .er 2 f
theorem Bb (gs:List (Nat×Nat)) (f:Nat):pW gs f=
  if(digS (fV gs (f+1)) []).2≠0∧ek gs (f+1+(digS (fV gs (f+1)) []).2) 44=true then
   pV gs f (digS (fV gs (f+1)) []).1 (digS (fV gs (f+1+(digS (fV gs (f+1)) []).2+1)) []).1 true (!decide (0<(digS (fV gs (f+1+(digS (fV gs (f+1)) []).2+1)) []).2)) (f+1+(digS (fV gs (f+1)) []).2+1+(digS (fV gs (f+1+(digS (fV gs (f+1)) []).2+1)) []).2)
  else pV gs f (digS (fV gs (f+1)) []).1 (digS (fV gs (f+1)) []).1 (decide (0<(digS (fV gs (f+1)) []).2)) false (f+1+(digS (fV gs (f+1)) []).2):=by
 unfold pW pV;have rI:(hY []).2=true:=rfl;generalize(digS (fV gs (f+1)) [])=A;generalize(digS (fV gs (f+1+A.2+1)) [])=B;generalize ek gs (f+1+A.2) 44=c1;generalize ek gs (f+1+A.2) 125=c2;generalize ek gs (f+1+A.2+1+B.2) 125=c3;generalize oF A.1 A.1=c4;generalize oF B.1 A.1=c5
 by_cases h1:A.2=0
 ·simp[h1]
 ·have E2:0<A.2:=by omega
  by_cases h2:B.2=0
  ·cases c1<;>cases c2<;>cases c3<;>cases c4<;>cases c5<;>simp[h1,E2,h2,rI]
  ·have Lm:0<B.2:=by omega
   cases c1<;>cases c2<;>cases c3<;>cases c4<;>cases c5<;>simp[h1,E2,h2,Lm,rI]
def fI (op:Int) (ps:List (List bB)):List bB:=
 match ps with
 |[]=>[iS 1 0 0 false 0 0 []]
 |[l]=>l
 |ps=>iS op 0 0 false 0 (ps.length:Nat) []::ps.flatten
theorem nv:∀l:List (List bB),eZ l=l.flatten.length
 |[]=>rfl
 |a::l=>by rw[eZ,List.flatten_cons,List.length_append,nv l]
theorem qK {s0:St} {x:D} {parts:List (List bB)} (op:Int) (hx:V.Rows s0 1 x (parts.map dS)) (hv:∀l∈parts,∀n∈l,l_ n) (hp:parts.length≤100000) (hs:eZ parts≤100000):Ev pv 188 [.int .i64 op,x] s0 (p_ (fI op parts)) s0∧(∀n∈fI op parts,l_ n)∧(parts.length=1→(fI op parts).length≤eZ parts)∧(fI op parts).length≤eZ parts+1:=by
 suffices hg:∃d,Ev pv 188 [.int .i64 op,x] s0 d s0∧d=p_ (fI op parts)∧(∀n∈fI op parts,l_ n)∧(parts.length=1→(fI op parts).length≤eZ parts)∧(fI op parts).length≤eZ parts+1 by
  obtain⟨d,h1,rfl,h2⟩:=hg;exact⟨h1,h2⟩
 refine Ev.GW rfl Ma rfl rfl rfl ?_;dsimp only[u3,u4,List.length,Nat.reduceSub,Nat.reduceAdd,w1,w2];obtain⟨bf,hF,hH⟩:=ri s0;generalize ai .ro s0=S at*;have hx:=Arg.of hx bf;refine qq<|qj fun K hK=>qm ?_;refine qe hK<|qq<|qq<|qj fun K hK=>qm ?_;refine qn ?_;simp only[List.length_map];refine qe hK<|ag.block<|qq<|qj fun K hK=>qg ?_;refine qm ?_;refine qe hK ?_
 by_cases h0:parts.length=0
 ·have Sx:parts=[]:=List.length_eq_zero_iff.1 h0;refine qD rfl (by simp[h0]) ?_;refine qq<|qj fun K hK=>?_;refine ae.go (d:=.agg [.int .i64 1,.nul,.int .i64 0,.int .i64 0,.bool false,.int .i64 0,.int .i64 0]) (st1:=_) rfl rfl rfl (by dsimp only[Fr.put,u1,u2]<;>rfl) ?_;refine qh (s:=7) (vs:=[_]) hH fun k13 st Tn hH=>?_;refine qm ?_;refine qe hK ?_;have hfz:=iK (L:=s0.bs.length) (a:=[]) hH ax (.inr ⟨rfl,rfl⟩) (fun k hk=>by have iI:k13+1=k+1:=hk;rw[←bf];omega);refine ag.ret ⟨rx,_,_,rfl,rl bf hH (hfz),?_⟩;rw[Sx];exact⟨rfl,Dh (by simp) (by omega),fun h=>by simp at h,by simp[fI]⟩
 have Py:(((parts.length:Nat):Int)==0)=false:=by rw[beq_eq_false_iff_ne];omega
 refine qE rfl (by rw[Py]) ?_;refine qq<|qj fun K hK=>qg ?_;refine qm ?_;refine qe hK ?_
 by_cases h1:parts.length=1
 ·obtain⟨q,hq⟩:∃q,parts[0]?=some q:=⟨parts[0]'(by omega),List.getElem?_eq_getElem _⟩
  have gN:=vY hq
  have Cb:parts=[q]:=by
   match parts,h1,hq with
   |[a],_,hq=>simp at hq;rw[hq]
  refine qD rfl (by simp[h1]) ?_;refine qq<|qj fun K hK=>qm ?_;refine qr fun RJ OI=>?_;refine qR ?_;refine qm ?_;refine qe hK<|ag.ret ⟨rx,_,_,rfl,rl bf hH (rfl),?_⟩;have hj:fI op parts=q:=by rw[Cb];rfl
  refine⟨by rw[hj];rfl,by rw[hj];exact hv q (List.mem_of_getElem? hq),fun _=>?_,?_⟩<;>rw[hj,Cb]<;>simp[eZ]
 have K_:(((parts.length:Nat):Int)==1)=false:=by rw[beq_eq_false_iff_ne];omega
 have hj:fI op parts=iS op 0 0 false 0 (parts.length:Nat) []::parts.flatten:=by
  match parts,h0,h1 with
  |_::_::_,_,_=>rfl
 rw[hj];refine qE rfl (by rw[K_]) ?_;refine ag.skip<|qq<|qj fun K hK=>qm ?_;refine qm ?_;refine qn ?_;simp only[List.length_map];refine ae.go (d:=.agg [.int .i64 op,.nul,.int .i64 0,.int .i64 0,.bool false,.int .i64 0,.int .i64 (parts.length:Nat)]) (st1:=_) rfl rfl rfl (by dsimp only[Fr.put,u1,u2]<;>rfl) ?_;refine qh (s:=7) (vs:=[_]) hH fun k23 st Tk hH=>?_;refine qm ?_;refine qe hK<|qq<|qq<|qj fun K hK=>qm ?_;refine qn ?_;simp only[List.length_map];refine qm ?_;refine qe hK ?_;have hH:Has s0.bs.length S st (.aE (.win k23 0 0 1 7) 7 [[.int .i64 op,.nul,.int .i64 0,.int .i64 0,.bool false,.int .i64 0,.int .i64 (parts.length:Nat)]]::[]):=hH;refine ag.block<|ag.loop (fun mm fr st=>∃(i:Nat) (od:D) (es:List (List D)),fr.clean=⟨27,[cx fr 0,cx fr 1,cx fr 2,cx fr 3,cx fr 4,od,cx fr 6,cx fr 7,cx fr 8,cx fr 9,cx fr 10,cx fr 11,cx fr 12,cx fr 13,cx fr 14,cx fr 15,cx fr 16,cx fr 17,cx fr 18,cx fr 19,cx fr 20,cx fr 21,cx fr 22,cx fr 23,x,.int .i64 (parts.length:Nat),.int .i64 (i:Nat)],[]⟩∧Has s0.bs.length S st [.aE od 7 es]∧(i+mm=parts.length)∧(es.map (·.map lT)=(iS op 0 0 false 0 (parts.length:Nat) []::(parts.take i).flatten).map aG)∧(∀e∈es,∀d∈e,lq d=true)∧(∀k,od.ref=k+1→S.bs.length≤k)) (parts.length) ?_ ?_
 ·refine⟨0,.win k23 0 0 1 7,[[.int .i64 op,.nul,.int .i64 0,.int .i64 0,.bool false,.int .i64 0,.int .i64 (parts.length:Nat)]],rfl,hH,by omega,rfl,?_,fun k hk=>by simp only[D.ref] at hk;omega⟩;intro e he d hd;simp only[List.mem_cons,List.not_mem_nil,or_false] at he;subst he;simp only[List.mem_cons,List.not_mem_nil,or_false] at hd
  rcases hd with rfl|rfl|rfl|rfl|rfl|rfl|rfl<;>rfl
 rintro mm fr st ⟨i,od,es,hfr,hH,hi,tg,ht,gO⟩;rw[hfr];clear hfr;generalize cx fr=ee;clear fr;refine qq<|qj fun K hK=>qg ?_;refine qe hK ?_
 by_cases hlt:i<parts.length
 ·obtain⟨q,hq⟩:∃q,parts[i]?=some q:=⟨parts[i]'hlt,List.getElem?_eq_getElem _⟩
  have gN:=vY hq;have Ol:=hv q (List.mem_of_getElem? hq)
  have vh:es.length=1+(parts.take i).flatten.length:=by
   have TO:(List.length∘List.map aG:List bB→Nat)=List.length:=by funext l;simp
   have:=congrArg List.length tg;simp[TO] at this
   simp;omega
  have Km:parts.take (i+1)=parts.take i++[q]:=by rw[List.take_add_one,hq];rfl
  have Sb:eZ (parts.take (i+1))=eZ (parts.take i)+q.length:=by rw[Km,dJ];simp[eZ]
  have Sg:eZ (parts.take (i+1))≤eZ parts:=by
   have:=dJ (parts.take (i+1)) (parts.drop (i+1));rw[List.take_append_drop] at this;omega
  have hsf:=nv (parts.take i);refine qq<|qD rfl (by simp;omega) ?_;refine ag.skip<|qq<|ag.block<|qq<|qj fun K hK=>qr fun RI OG=>?_;refine qR ?_;refine qm ?_;refine qe hK<|qj fun K hK=>qm ?_;refine qm ?_;refine ae.cB (s:=7) hH rfl (ev rfl) (ev rfl) ax ((mA Ol).rows st) rfl rfl rfl rfl rfl rfl rfl ⟨(Nat.le_of_ble_eq_true rfl),(Nat.le_of_ble_eq_true rfl)⟩ (fun _=>(aa rfl _)) (by rw[List.length_map];omega) (.inl hF) gO (fun Rk st gO hH=>?_);dsimp only[u2] at hH;refine qm ?_;refine qe hK<|qj fun K hK=>qA ?_;refine qm ?_;refine qe hK ?_;refine⟨mm-1,by omega,⟨i+1,Rk,es++q.map aG,rfl,hH,by omega,by rw[List.map_append,tg,ur Ol,Km,List.flatten_append,List.map_cons,List.map_cons,List.map_append];simp,?_,gO⟩⟩;intro e he
  rcases List.mem_append.1 he with he|he
  ·exact ht e he
  ·exact pZ Ol e he
 ·refine qq<|qE rfl (by simp;omega) ?_;refine ag.exit<|qq<|qj fun K hK=>qm ?_;refine qm ?_;refine qe hK ?_;have hik:i=parts.length:=by omega
  rw[hik,List.take_length] at tg
  have hall:∀n∈iS op 0 0 false 0 (parts.length:Nat) []::parts.flatten,l_ n:=fun n hn=>by
   rcases List.mem_cons.1 hn with rfl|hn
   ·exact Dh (by simp) (by omega) _ (List.mem_cons_self ..)
   ·obtain⟨l,hl,hn⟩:=List.mem_flatten.1 hn;exact hv l hl n hn
  refine ag.ret ⟨rx,_,_,rfl,rl bf hH (iJ hH ax tg ht (fun k hk=>by have:=gO k hk;rw[←bf];exact this) (by decide)),?_⟩;have hsf:=nv parts;exact⟨rfl,hall,by omega,by simp only[List.length_cons];omega⟩
end Go.Proofs.YtecjacicdpejaaaGreat
