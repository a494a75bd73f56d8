/-
 The reference's list is expanded.
-/
import Derived.Test.YtbdilgkfnacahaaGreatXGYd
import Derived.Test.YtbdilgkfnacahaaGreatXGUb
set_option maxRecDepth 100000
set_option maxHeartbeats 4000000
set_option linter.unusedSimpArgs false
set_option linter.unusedVariables false
namespace Go.Proofs.YtbdilgkfnacahaaGreat
open Go.V Go
def kO (fr:Go.V.Fr) (k:Nat):Go.V.D:=Go.V.nth .bu fr.loc k
theorem oZ (st:St) (N:Nat) (dn:Bool) (f:tp):aV st N true 15 (.agg (aN dn f .nul))=some (.agg (aN dn f .nul)):=by
 have h1:∀(b:Bool) (x1 x2 x3 x4 x5 x6 x7 x8 x9 Sy:Int),aV st N true 15 (.agg [.bool b,.int .i64 x1,.int .i64 x2,.int .i64 x3,.int .i64 x4,.int .i64 x5,.int .i64 x6,.int .i64 x7,.int .i64 x8,.int .i64 x9,.int .i64 Sy,.nul])=some (.agg [.bool b,.int .i64 x1,.int .i64 x2,.int .i64 x3,.int .i64 x4,.int .i64 x5,.int .i64 x6,.int .i64 x7,.int .i64 x8,.int .i64 x9,.int .i64 Sy,.nul]):=fun _ _ _ _ _ _ _ _ _ _ _=>rfl;exact h1 _ _ _ _ _ _ _ _ _ _ _
theorem nh {N j:Nat} {S st:St} {H:List bF} {x:D} {s:Nat} {es:List (List D)} (hH:Has N S st H) (hj:H[j]?=some (.aM x s es)) (hp:∀e∈es,∀d∈e,b5 d=true) {n:Nat} (hn:3≤n):∃y,aV st N true n x=some y∧e_ y s es:=by
 have hf:=hH.sU hj hp hn;have pB:=(hH.own hj).pM;have hown:=hH.own hj
 obtain⟨n,rfl⟩:∃m,n=m+1:=⟨n-1,by omega⟩
 cases hown with
 |nul=>exact⟨.nul,rfl,.inl ⟨rfl,rfl⟩⟩
 |win k ay off es c hm hl hc he=>exact⟨_,hf,e_.frozen pB hp⟩
theorem oi {s0:St} {p:Pg} {pl:Nat} {e dn:Bool} {aR:tp} {cI:List gM} {d:D} (hp:p.ok) (hR:bU p) (ij:pl≤1099511627776) (hd:e_ d 11 (cI.map aH)) (Ca:∀t∈cI,t.pc<p.code.length) (nP:cI.length≤1048576):
  ∃r,Ev pv 43 [p.d,.agg (aN dn aR d),.int .i64 (pl:Nat),.bool e] s0 r s0∧∃rd,r=.tup [.agg (aN (jx p.code pl e cI (iv p.code.length dn aR)).dn (jx p.code pl e cI (iv p.code.length dn aR)).aR .nul),rd]∧e_ rd 11 ((jx p.code pl e cI (iv p.code.length dn aR)).rdy.map aH):=by
 have hcl:=hR.cl;generalize hW:jx p.code pl e cI (iv p.code.length dn aR)=W at*;refine Ev.B_ rfl RS rfl rfl rfl ?_;dsimp only[u3,u4,List.length,Nat.reduceSub,Nat.reduceAdd,w1,w2];obtain⟨bZ,hF,hH⟩:=ri s0;generalize ai .ro s0=S at*;have hc:=hp.c.arg s0.bs.length S;have hlen:=hp.cl;have XB:=hd.arg s0.bs.length S;unfold Pg.d;refine qq<|qj fun K hK=>qb hH fun k4 st NM hH=>?_;dsimp only[u2,u1,u3,u4,setMany,u5,u6,D.cells,Nat.reduceAdd,aB,aH,aN,aA,bI,Pg.cs] at hH;refine qb hH fun k5 st Bg hH=>?_;dsimp only[u2,u1,u3,u4,setMany,u5,u6,D.cells,Nat.reduceAdd,aB,aH,aN,aA,bI,Pg.cs] at hH;refine qa hH fun k8 st L6 hH=>?_;refine qm ?_;refine qe hK<|qq<|qj fun K hK=>qp (o:=0) ?_;refine ql hH bC ?_;refine qp (o:=1) ?_;refine ab.aT (m:=10) hH rfl (ev rfl) (by exact bC) (by dsimp only[List.drop_succ_cons,List.drop_zero,List.take_succ_cons,List.take_zero,aB,aH,aN,aA,bI,Pg.cs]<;>rfl) rfl rfl (ag rfl _) ?_;refine ab.go (d:=.agg (aN dn aR .nul)) (st1:=_) rfl rfl rfl (ag rfl _) ?_;refine qa hH fun k10 st QA hH=>?_;refine qS hH ax fun st hH=>?_;dsimp only[u2,u1,u3,u4,setMany,u5,u6,D.cells,Nat.reduceAdd,aB,aH,aN,aA,bI,Pg.cs] at hH;refine qe hK<|qq<|qj fun K hK=>?_;refine ab.aT (m:=2) hH rfl (ev rfl) (by exact ef) (by dsimp only[List.drop_succ_cons,List.drop_zero,List.take_succ_cons,List.take_zero,aB,aH,aN,aA,bI,Pg.cs]<;>rfl) rfl rfl (ag rfl _) ?_;refine qp (o:=0) ?_;refine ql hH ef ?_;refine qn ?_;simp only[List.length_map];refine ab.uH (s:=1) hH rfl rfl rfl rfl rfl rfl rfl rfl (Nat.le_of_ble_eq_true rfl) (by omega) (fun _=>(ag rfl _)) (fun k22 st Qx hH=>?_);refine qm ?_;refine qm ?_;refine ab.go (d:=.agg [p.cd,p.sd,.ptr k10 0 0,.win k22 0 0 p.code.length 1,.int .i64 (pl:Nat),.bool e,.nul]) (st1:=_) rfl rfl rfl (ag rfl _) ?_;refine qb hH fun k26 st VY hH=>?_;refine qm ?_;refine qe hK<|qq<|qq<|qj fun K hK=>qm ?_;refine qe hK ?_;have hH:=Has.mX [_,_] [_] hH;have hH:=Has.mX [_] [_] hH;have hH:=Has.mX [_] [_,_,_] (hH.dP 11);dsimp only[u3,u4] at hH;refine af.block<|af.loop (fun mm fr st=>∃(j:Nat) (w:Wk) (rest:List gM) (od:D),fr.clean=⟨13,[kO fr 0,kO fr 1,kO fr 2,kO fr 3,.ptr k4 0 0,.ptr k5 0 0,kO fr 6,kO fr 7,.ptr k8 0 0,.nul,.ptr k10 0 0,.ptr k26 0 0,.int .i64 (j:Nat)],[]⟩∧Has s0.bs.length S st (.box k26 (.mem 0 false [p.cd,p.sd,.ptr k10 0 0,.win k22 0 0 p.code.length 1,.int .i64 (pl:Nat),.bool e,od])::.box k10 (.mem 0 false (aN w.dn w.aR .nul))::.aM (.win k22 0 0 p.code.length 1) 1 (w.seen.map bI)::.aM od 11 (w.rdy.map aH)::.box k8 (.mem 0 false (aN false kY .nul))::.box k5 (.mem 0 false (aN dn aR d))::.box k4 (.mem 0 false [p.cd,p.sd])::[])∧(j+mm=cI.length)∧(rest=cI.drop j)∧(jx p.code pl e rest w=W)∧(w.seen.length=p.code.length)∧(w.rdy.length+w.seen.count false≤1048576)) (cI.length) ?_ ?_
 ·exact⟨0,iv p.code.length dn aR,cI,.nul,rfl,(by unfold iv;simp only[List.map_replicate];exact hH),by omega,rfl,hW,by simp[iv],by(have:=List.count_le_length (a:=false) (l:=(iv p.code.length dn aR).seen);simp[iv] at this⊢;omega)⟩
 rintro mm fr st ⟨j,w,rest,od,hfr,hH,hj,iP,hex,gQ,pJ⟩;rw[hfr];clear hfr;generalize kO fr=ee;clear fr;refine qq<|qq<|qj fun K hK=>qm ?_;refine qp (o:=11) ?_;refine ql hH pC ?_;refine qn ?_;simp only[List.length_map];refine qg ?_;refine qe hK ?_;refine af.cond (by rfl) (fun hlt=>?_) (fun hlt=>?_)<;>try simp only[decide_eq_true_eq,decide_eq_false_iff_not] at hlt
 ·refine af.skip ?_;have iR:j<cI.length:=by omega
  obtain⟨t,ht⟩:∃t,cI[j]?=some t:=⟨cI[j]'iR,List.getElem?_eq_getElem _⟩
  have Ga:=j4 ht;have M5:=Ca t (List.mem_of_getElem? ht)
  have wA:rest=t::cI.drop (j+1):=by
   rw[iP,List.drop_eq_getElem_cons iR]
   congr 1
   exact Option.some.inj ((List.getElem?_eq_getElem _).symm.trans ht)
  have uM:=List.count_le_length (a:=false) (l:=w.seen);have Lf:=b_ p.code pl e (p.code.length+1) w t;rw[wA] at hex;have hex:(if(bK p.code pl e (p.code.length+1) w t).2=true then(bK p.code pl e (p.code.length+1) w t).1 else jx p.code pl e (cI.drop (j+1)) (bK p.code pl e (p.code.length+1) w t).1)=W:=hex;refine qq<|af.block<|qq<|qj fun K hK=>qm ?_;refine qp (o:=11) ?_;refine ql hH pC ?_;refine qm ?_;refine qr fun SV Nn=>?_;refine qf (fo:=0) fun SU Nk=>?_;refine qR ?_;refine qp (o:=11) ?_;refine ql hH pC ?_;refine qm ?_;refine qr fun Uk Qd=>?_;refine qf (fo:=1) fun Uj Qc=>?_;refine qR ?_;obtain⟨_,st,aI,rfl,hT⟩:=tG (ka:=k26) (kl:=k10) (S:=S) (sd:=.win k22 0 0 p.code.length 1) (e:=e) hF hp hR ij (p.code.length+1) w t _ _ M5 gQ (by omega) pJ ⟨od,hH⟩;refine qv aI ?_;refine qe hK ?_;generalize bK p.code pl e (p.code.length+1) w t=R1 at*;obtain⟨w1,b1⟩:=R1;obtain⟨cM,bk,bG,fg⟩:=Lf;simp only at cM bk bG fg hT hex;obtain⟨LU,hH⟩:=hT;have mz:w1.seen.length=p.code.length:=cM.trans gQ
  cases b1 with
  |true=>
   rw[if_pos rfl] at hex;subst hex;refine qB ?_;refine af.exit ?_;have tl:=hH;have yZ:=ja hH dp;have Gb:=ja hH ef;have KR:=hH.oI bC (k:=k10) rfl;have A8:=hp.c.ref;have KQ:=hp.s.ref;change af _ _ _ _ _ _;refine qq ?_;generalize hK:bX _ _ _ _=K;refine af.rP rfl ?_;refine cE.cons ?_;refine ab.aT (m:=12) hH rfl (ev rfl) (by exact bC) (by dsimp only[List.drop_succ_cons,List.drop_zero,List.take_succ_cons,List.take_zero,aB,aH,aN,aA,bI,Pg.cs]<;>rfl) rfl rfl (ag rfl _) ?_;refine ab.nil ⟨rfl,?_⟩;refine cE.cons ?_;refine qm ?_;refine ab.nil ⟨rfl,?_⟩;refine cE.cons ?_;refine qg ?_;refine ab.nil ⟨rfl,?_⟩;refine cE.cons ?_;refine qp (o:=6) ?_;refine ab.nil ⟨rfl,?_⟩;refine cE.cons ?_;refine ql hH ax ?_;refine ab.nil ⟨rfl,?_⟩;refine cE.cons ?_;refine qS hH fT fun st hH=>?_;dsimp only[u2,u1,u3,u4,setMany,u5,u6,D.cells,Nat.reduceAdd,aB,aH,aN,aA,bI,Pg.cs] at hH;refine ab.nil ⟨by exact Bool.and_eq_true_iff.2 ⟨gv rfl rfl rfl (tl.at ax) (hH.at ax) (tl.at ax) (by simp only[refs,D.ref,A8,KQ];simp only[D.ref] at yZ;omega),rfl⟩,?_⟩;refine cE.cons ?_;refine qm ?_;refine ab.nil ⟨rfl,?_⟩;refine cE.nil ?_;subst hK;have h4:=oZ st s0.bs.length w1.dn w1.aR;obtain⟨rdy,h2,KJ⟩:=nh hH ef (gr _) (n:=15) (by decide)
   have h3:aV st s0.bs.length true 16 (.tup [.agg (aN w1.dn w1.aR .nul),LU])=some (.tup [.agg (aN w1.dn w1.aR .nul),rdy]):=by
    show(eA (aV st s0.bs.length true 15) [.agg (aN w1.dn w1.aR .nul),LU]).map D.tup=_;simp only[eA,h2,h4,Option.map_some]
   refine af.ret ⟨rx,_,_,hH.jB rfl fT rfl rfl,rl bZ hH h3,rdy,rfl,KJ⟩
  |false=>
   rw[if_neg (by decide)] at hex;refine qC ?_;refine af.skip<|qj fun K hK=>qm ?_;refine qA ?_;refine qm ?_;refine qe hK ?_;exact⟨mm-1,by omega,⟨j+1,w1,cI.drop (j+1),LU,rfl,hH,by omega,rfl,hex,mz,by omega⟩⟩
 ·refine af.exit ?_;have sM:rest=[]:=by rw[iP,List.drop_eq_nil_iff];omega
  subst sM;have hex:w=W:=hex;subst hex;have tl:=hH;have yZ:=ja hH dp;have Gb:=ja hH ef;have KR:=hH.oI bC (k:=k10) rfl;have A8:=hp.c.ref;have KQ:=hp.s.ref;change af _ _ _ _ _ _;refine qq ?_;generalize hK:bX _ _ _ _=K;refine af.rP rfl ?_;refine cE.cons ?_;refine ab.aT (m:=12) hH rfl (ev rfl) (by exact bC) (by dsimp only[List.drop_succ_cons,List.drop_zero,List.take_succ_cons,List.take_zero,aB,aH,aN,aA,bI,Pg.cs]<;>rfl) rfl rfl (ag rfl _) ?_;refine ab.nil ⟨rfl,?_⟩;refine cE.cons ?_;refine qm ?_;refine ab.nil ⟨rfl,?_⟩;refine cE.cons ?_;refine qg ?_;refine ab.nil ⟨rfl,?_⟩;refine cE.cons ?_;refine qp (o:=6) ?_;refine ab.nil ⟨rfl,?_⟩;refine cE.cons ?_;refine ql hH ax ?_;refine ab.nil ⟨rfl,?_⟩;refine cE.cons ?_;refine qS hH fT fun st hH=>?_;dsimp only[u2,u1,u3,u4,setMany,u5,u6,D.cells,Nat.reduceAdd,aB,aH,aN,aA,bI,Pg.cs] at hH;refine ab.nil ⟨by exact Bool.and_eq_true_iff.2 ⟨gv rfl rfl rfl (tl.at ax) (hH.at ax) (tl.at ax) (by simp only[refs,D.ref,A8,KQ];simp only[D.ref] at yZ;omega),rfl⟩,?_⟩;refine cE.cons ?_;refine qm ?_;refine ab.nil ⟨rfl,?_⟩;refine cE.nil ?_;subst hK;have h4:=oZ st s0.bs.length w.dn w.aR;obtain⟨rdy,h2,KJ⟩:=nh hH ef (gr _) (n:=15) (by decide)
  have h3:aV st s0.bs.length true 16 (.tup [.agg (aN w.dn w.aR .nul),od])=some (.tup [.agg (aN w.dn w.aR .nul),rdy]):=by
   show(eA (aV st s0.bs.length true 15) [.agg (aN w.dn w.aR .nul),od]).map D.tup=_;simp only[eA,h2,h4,Option.map_some]
  refine af.ret ⟨rx,_,_,hH.jB rfl fT rfl rfl,rl bZ hH h3,rdy,rfl,KJ⟩
def mh (fr:Go.V.Fr) (k:Nat):Go.V.D:=Go.V.nth .bu fr.loc k
theorem AL (f:tp):kW pv .neq 30 (.agg (aA f)) (.agg (aA f))=some (.bool false):=by
 have h:∀b c d e g i j k l m:Int,kW pv .neq 30 (.agg [.int .i64 b,.int .i64 c,.int .i64 d,.int .i64 e,.int .i64 g,.int .i64 i,.int .i64 j,.int .i64 k,.int .i64 l,.int .i64 m]) (.agg [.int .i64 b,.int .i64 c,.int .i64 d,.int .i64 e,.int .i64 g,.int .i64 i,.int .i64 j,.int .i64 k,.int .i64 l,.int .i64 m])=Option.map (fun b=>D.bool !b) (match some (b==b) with|some true=>(match some (c==c) with|some true=>(match some (d==d) with|some true=>(match some (e==e) with|some true=>(match some (g==g) with|some true=>(match some (i==i) with|some true=>(match some (j==j) with|some true=>(match some (k==k) with|some true=>(match some (l==l) with|some true=>(match some (m==m) with|some true=>some true|some false=>some false|none=>none)|some false=>some false|none=>none)|some false=>some false|none=>none)|some false=>some false|none=>none)|some false=>some false|none=>none)|some false=>some false|none=>none)|some false=>some false|none=>none)|some false=>some false|none=>none)|some false=>some false|none=>none)|some false=>some false|none=>none):=fun _ _ _ _ _ _ _ _ _ _=>rfl;unfold aA;rw[h];simp only[beq_self_eq_true,Option.map_some,Bool.not_true]
theorem FQ (t:gM):kW pv .neq 91 (.agg (aH t)) (.agg (aH t))=some (.bool false):=by
 have h:∀a b c d e g i j k l m:Int,kW pv .neq 91 (.agg [.int .i64 a,.int .i64 b,.int .i64 c,.int .i64 d,.int .i64 e,.int .i64 g,.int .i64 i,.int .i64 j,.int .i64 k,.int .i64 l,.int .i64 m]) (.agg [.int .i64 a,.int .i64 b,.int .i64 c,.int .i64 d,.int .i64 e,.int .i64 g,.int .i64 i,.int .i64 j,.int .i64 k,.int .i64 l,.int .i64 m])=Option.map (fun b=>D.bool !b) (match some (a==a) with|some true=>(match(match some (b==b) with|some true=>(match some (c==c) with|some true=>(match some (d==d) with|some true=>(match some (e==e) with|some true=>(match some (g==g) with|some true=>(match some (i==i) with|some true=>(match some (j==j) with|some true=>(match some (k==k) with|some true=>(match some (l==l) with|some true=>(match some (m==m) with|some true=>some true|some false=>some false|none=>none)|some false=>some false|none=>none)|some false=>some false|none=>none)|some false=>some false|none=>none)|some false=>some false|none=>none)|some false=>some false|none=>none)|some false=>some false|none=>none)|some false=>some false|none=>none)|some false=>some false|none=>none)|some false=>some false|none=>none) with|some true=>some true|some false=>some false|none=>none)|some false=>some false|none=>none):=fun _ _ _ _ _ _ _ _ _ _ _=>rfl;unfold aH;rw[h];simp only[beq_self_eq_true,Option.map_some,Bool.not_true]
theorem vH {s0:St} {x y:D} {l:List gM} (hx:V.Rows s0 11 x (l.map aH)) (hy:V.Rows s0 11 y (l.map aH)) (hl:l.length≤1073741824):Ev pv 41 [x,y] s0 (.bool true) s0:=by
 refine Ev.me rfl RU rfl rfl rfl ?_;dsimp only[u3,u4,List.length,Nat.reduceSub,Nat.reduceAdd,w1,w2];obtain⟨bZ,hF,hH⟩:=ri s0;generalize ai .ro s0=S at*;have hx:=Arg.of hx bZ;have hy:=Arg.of hy bZ;refine qq<|qj fun K hK=>qm ?_;refine qe hK<|qq<|qq<|qj fun K hK=>qm ?_;refine qn ?_;simp only[List.length_map];refine qm ?_;refine qn ?_;simp only[List.length_map];refine qg ?_;refine qe hK<|qE rfl (by simp) ?_;refine af.skip<|qq<|qq<|qj fun K hK=>qm ?_;refine qe hK<|af.block<|af.loop (fun mm fr st=>∃(i:Nat),fr.clean=⟨6,[x,y,mh fr 2,mh fr 3,.bool false,.int .i64 (i:Nat)],[]⟩∧Has s0.bs.length S st []∧(i+mm=l.length)) (l.length) ?_ ?_
 ·exact⟨0,rfl,hH,by omega⟩
 rintro mm fr st ⟨i,hfr,hH,hi⟩;rw[hfr];clear hfr;generalize mh fr=ee;clear fr;refine qq<|qq<|qj fun K hK=>qm ?_;refine qm ?_;refine qn ?_;simp only[List.length_map];refine qg ?_;refine qe hK ?_;refine af.cond (by rfl) (fun h1=>?_) (fun h1=>?_)<;>try simp only[decide_eq_true_eq,decide_eq_false_iff_not] at h1
 ·refine af.skip ?_
  obtain⟨p,hp⟩:∃p,l[i]?=some p:=⟨l[i]'(by omega),List.getElem?_eq_getElem _⟩
  have gk:=j4 hp;refine qq<|af.block<|qq<|qj fun K hK=>qm ?_;refine qm ?_;refine qr fun Up Qi=>?_;refine ab.cY rfl (ev rfl) (by assumption) rfl (ag rfl _) ?_;refine qm ?_;refine qm ?_;refine qr fun Pf KW=>?_;refine ab.cY rfl (ev rfl) (by assumption) rfl (ag rfl _) ?_;refine ab.Pq rfl (ev rfl) (ev rfl) (FQ p) (ag rfl _) ?_;refine qe hK<|qC ?_;refine af.skip<|qj fun K hK=>qm ?_;refine qA ?_;refine qm ?_;refine qe hK ?_;exact⟨mm-1,by omega,⟨i+1,rfl,hH,by omega⟩⟩
 ·refine af.exit<|qq<|qj fun K hK=>qm ?_;refine qe hK<|af.ret ⟨rx,_,rfl,rl bZ hH (rfl)⟩
def yi (es:List (List D)) (L:List PL):Prop:=es.length=L.length∧∀(i:Nat) l,L[i]?=some l→∃d,e_ d 11 (l.cI.map aH)∧es[i]?=some (aN l.dn l.aR d)
theorem kL (L:List PL):yi (L.map fk) L:=⟨List.length_map _,fun i l h=>⟨O4 l.cI,zP _,vU h⟩⟩
theorem yS {L:List PL} (h:∀l∈L,l.cI=[]):yi (L.map ji) L:=⟨List.length_map _,fun i l hl=>⟨.nul,by rw[h l (List.mem_of_getElem? hl)];exact .inl ⟨rfl,rfl⟩,by rw[List.getElem?_map,hl];rfl⟩⟩
theorem ur {s0:St} {x y:D} {es fs:List (List D)} {L:List PL} (hx:V.Rows s0 12 x es) (hy:V.Rows s0 12 y fs) (uL:yi es L) (Wd:yi fs L) (hl:L.length≤1073741824) (Ca:∀l∈L,l.cI.length≤1000):Ev pv 18 [x,y] s0 (.bool true) s0:=by
 obtain⟨pB,Wi⟩:=uL;obtain⟨lC,Wf⟩:=Wd;refine Ev.me rfl R7 rfl rfl rfl ?_;dsimp only[u3,u4,List.length,Nat.reduceSub,Nat.reduceAdd,w1,w2];obtain⟨bZ,hF,hH⟩:=ri s0;generalize ai .ro s0=S at*;have hx:=Arg.of hx bZ;have hy:=Arg.of hy bZ;refine qq<|qj fun K hK=>qm ?_;refine qe hK<|qq<|qq<|qj fun K hK=>qm ?_;refine qn ?_;refine qm ?_;refine qn ?_;refine qg ?_;refine qe hK<|qE rfl (by rw[pB,lC];simp) ?_;refine af.skip<|qq<|qq<|qj fun K hK=>qm ?_;refine qe hK<|af.block<|af.loop (fun mm fr st=>∃(i:Nat),fr.clean=⟨6,[x,y,mh fr 2,mh fr 3,.bool false,.int .i64 (i:Nat)],[]⟩∧Has s0.bs.length S st []∧(i+mm=es.length)) (es.length) ?_ ?_
 ·exact⟨0,rfl,hH,by omega⟩
 rintro mm fr st ⟨i,hfr,hH,hi⟩;rw[hfr];clear hfr;generalize mh fr=ee;clear fr;refine qq<|qq<|qj fun K hK=>qm ?_;refine qm ?_;refine qn ?_;refine qg ?_;refine qe hK ?_;refine af.cond (by rfl) (fun h1=>?_) (fun h1=>?_)<;>try simp only[decide_eq_true_eq,decide_eq_false_iff_not] at h1
 ·refine af.skip ?_
  obtain⟨l,vt⟩:∃l,L[i]?=some l:=⟨L[i]'(by omega),List.getElem?_eq_getElem _⟩
  obtain⟨d1,y9,gk⟩:=Wi i l vt;obtain⟨d2,vu,oQ⟩:=Wf i l vt;have nP:=Ca l (List.mem_of_getElem? vt);have bj:(l.dn !=l.dn)=false:=by simp
  have mA:false=false:=rfl;refine qq<|af.block<|qq<|af.jV 54 (.bool false) [] ?_ (fun ff tmp gE=>?_)
  ·refine qm ?_;refine qm ?_;refine qr fun Up Qi=>?_;refine qf (fo:=0) fun OE Gf=>?_;refine qR ?_;refine qm ?_;refine qm ?_;refine qr fun LS y3=>?_;refine qf (fo:=0) fun ML Bc=>?_;refine qR ?_;refine qg ?_;refine qm ?_;refine qm ?_ (hg:=wi bj);refine qm ?_ (hg:=wi bj);refine qr (fun Xl Vk=>?_) (hg:=wi bj);refine qf (fo:=1) (fun Xk Vj=>?_) (hg:=wi bj);refine qR ?_ (hg:=wi bj);refine qm ?_ (hg:=wi bj);refine qm ?_ (hg:=wi bj);refine qr (fun SY Nq=>?_) (hg:=wi bj);refine qf (fo:=1) (fun SX Np=>?_) (hg:=wi bj);refine qR ?_ (hg:=wi bj);refine ab.Pq (aC rfl rfl rfl bj) (ev rfl) (ev rfl) (AL l.aR) (ag rfl _) ?_;refine qu bj ?_;refine qm ?_;refine qm ?_ (hg:=wi mA);refine qm ?_ (hg:=wi mA);refine qr (fun Uk Qd=>?_) (hg:=wi mA);refine qf (fo:=11) (fun Uj Qc=>?_) (hg:=wi mA);refine qR ?_ (hg:=wi mA);refine qm ?_ (hg:=wi mA);refine qm ?_ (hg:=wi mA);refine qr (fun SS Nj=>?_) (hg:=wi mA);refine qf (fo:=11) (fun SR Ni=>?_) (hg:=wi mA);refine qR ?_ (hg:=wi mA);refine qv (vH (y9.rows _) (vu.rows _) (by omega)) ?_ (hg:=wi mA);refine qg ?_ (hg:=wi mA);refine qu mA ?_;refine ab.nil (cS ?_ ?_)
   ·dsimp only[aO,List.foldl,nth,u2,u1]
    all_goals(first|rfl|simp)
   ·dsimp only[Fr.aE,Fr.put,Fr.clean,Fr.ev,Fr.get,nth,look,u1,u2,v1,v2,v4]
    all_goals(rfl)
  dsimp only[aO,List.foldl,nth,u2,u1];dsimp only[Fr.aE,Fr.put,Fr.clean,Fr.ev,Fr.get,nth,look,u1,u2,v1,v2,v4];refine qC ?_;refine af.skip<|qj fun K hK=>qm ?_;refine qA ?_;refine qm ?_;refine qe hK ?_;exact⟨mm-1,by omega,⟨i+1,rfl,hH,by omega⟩⟩
 ·refine af.exit<|qq<|qj fun K hK=>qm ?_;refine qe hK<|af.ret ⟨rx,_,rfl,rl bZ hH (rfl)⟩
theorem uo {s0:St} {pl:Nat} {L:List PL} (hl:L.length≤1000) (Ca:∀l∈L,l.cI.length≤1000):Ev pv 16 [fP pl L,fP pl L] s0 (.bool true) s0:=by
 unfold fP;refine Ev.me rfl R9 rfl rfl rfl ?_;dsimp only[u3,u4,List.length,Nat.reduceSub,Nat.reduceAdd,w1,w2];obtain⟨bZ,hF,hH⟩:=ri s0;generalize ai .ro s0=S at*;have a7:(((pl:Nat):Int)==((pl:Nat):Int))=true:=by simp
 refine qq<|qj fun K hK=>qb hH fun k2 st hk2 hH=>?_;refine qb hH fun k3 st Lb hH=>?_;refine qm ?_;refine qe hK<|qq<|qj fun K hK=>qp (o:=0) ?_;refine ql hH bC ?_;refine qp (o:=0) ?_;refine ql hH ax ?_;refine qg ?_;refine qm ?_;refine qp (o:=1) ?_ (hg:=wi a7);refine ql hH bC ?_ (hg:=wi a7);refine qp (o:=1) ?_ (hg:=wi a7);refine ql hH ax ?_ (hg:=wi a7);refine qv (ur ((jL L).rows _) ((jL L).rows _) (kL L) (kL L) (by omega) Ca) ?_ (hg:=wi a7);refine qt a7 ?_;refine qm ?_;refine qe hK<|af.ret ⟨rx,_,rfl,rl bZ hH (rfl)⟩
def kN (fr:Go.V.Fr) (k:Nat):Go.V.D:=Go.V.nth .bu fr.loc k
theorem mS {p:Pg} (hR:bU p) {i:Nat} (hi:i<p.az.length):∃s:Nat,p.az[i]?=some ((s:Nat):Int)∧(aX p)[i]?=some s∧s<p.code.length:=by
 obtain⟨s,A5⟩:∃s,p.az[i]?=some s:=⟨p.az[i]'hi,List.getElem?_eq_getElem _⟩
 obtain⟨pI,LX⟩:=hR.st s (List.mem_of_getElem? A5);obtain⟨s1,rfl⟩:=Int.eq_ofNat_of_zero_le pI;exact⟨s1,A5,by unfold aX;rw[List.getElem?_map,A5];rfl,by omega⟩
theorem FE (iJ:∀st,Ev pv 30 [] st (.agg (aA ch)) st) {s0:St} {p:Pg} (hp:p.ok) (hR:bU p):
  Ev pv 15 [p.d] s0 (fP 0 ((aX p).map jn)) s0:=by
 have LW:=hR.sl;refine Ev.me rfl R_ rfl rfl rfl ?_;dsimp only[u3,u4,List.length,Nat.reduceSub,Nat.reduceAdd,w1,w2];obtain⟨bZ,hF,hH⟩:=ri s0;generalize ai .ro s0=S at*;have hs:=hp.s.arg s0.bs.length S;unfold Pg.d;refine qq<|qj fun K hK=>qb hH fun k1 st nQ hH=>?_;dsimp only[u2,u1,u3,u4,setMany,u5,u6,D.cells,Nat.reduceAdd,aB,aH,aN,aA,fk,av,Pg.cs] at hH;refine qa hH fun k2 st hk2 hH=>?_;refine qe hK<|qq<|qj fun K hK=>qa hH fun k3 st Lb hH=>?_;refine qe hK ?_;have hH:=hH.AF 12;refine qq<|qq<|qj fun K hK=>qm ?_;refine qe hK<|af.block<|af.loop (fun mm fr st=>∃(i:Nat) (y:D) (ks:Nat→Prop),fr.clean=⟨5,[kN fr 0,.ptr k1 0 0,.ptr k2 0 0,.ptr k3 0 0,.int .i64 (i:Nat)],[]⟩∧Has s0.bs.length S st [.deep ks y 12 ((((aX p).take i).map jn).map fk),.box k3 (.mem 0 false [.int .i64 0,y]),.box k2 (.mem 0 false [.int .i64 0,.nul]),.box k1 (.mem 0 false [p.cd,p.sd])]∧(i+mm=p.az.length)) (p.az.length) ?_ ?_
 ·exact⟨0,.nul,_,rfl,hH,by omega⟩
 rintro mm fr st ⟨i,y,ks,hfr,hH,hi⟩;rw[hfr];clear hfr;generalize kN fr=ee;clear fr;refine qq<|qq<|qj fun K hK=>qm ?_;refine qp (o:=1) ?_;refine ql hH ef ?_;refine qn ?_;simp only[List.length_map];refine qg ?_;refine qe hK ?_;refine af.cond (by rfl) (fun hlt=>?_) (fun hlt=>?_)<;>try simp only[decide_eq_true_eq,decide_eq_false_iff_not] at hlt
 ·refine af.skip ?_;obtain⟨s1,A5,fZ,gQ⟩:=mS hR (i:=i) (by omega);have gk:=dW A5;have nP:((((aX p).take i).map jn).map fk).length≤1048576:=by rw[List.length_map,List.length_map,List.length_take];omega
  refine qq<|af.block<|qj fun K hK=>qp (o:=1) ?_;refine ql hH bC ?_;refine qv (iJ _) ?_;refine qp (o:=1) ?_;refine ql hH ef ?_;refine qm ?_;refine qr fun Pj KZ=>?_;refine qR ?_;refine qv (iJ _) ?_;refine ab.go (d:=.agg (aH ⟨s1,ch⟩)) (st1:=_) rfl rfl rfl (ag rfl _) ?_;refine qh (s:=11) (vs:=[_]) hH fun k22 st Qx hH=>?_;dsimp only[u2,u1,u3,u4,setMany,u5,u6,D.cells,Nat.reduceAdd,aB,aH,aN,aA,fk,av,Pg.cs] at hH;refine ab.go (d:=.agg (aN false ch (.win k22 0 0 1 11))) (st1:=_) rfl rfl rfl (ag rfl _) ?_;refine qh (s:=12) (vs:=[_]) hH fun k24 st Qw hH=>?_;dsimp only[u2,u1,u3,u4,setMany,u5,u6,D.cells,Nat.reduceAdd,aB,aH,aN,aA,fk,av,Pg.cs] at hH;obtain⟨hH,Gr⟩:=hH.pt (i:=1) (j:=2) (by decide) bC dp (gr [⟨s1,ch⟩]);dsimp only[u1,u2] at hH;refine ab.jj hH rfl rfl rfl dp (hH.rows ax) (.cons (wK (dn:=false) (f:=ch) Gr) .nil) rfl rfl rfl rfl rfl rfl rfl ⟨(Nat.le_of_ble_eq_true rfl),(Nat.le_of_ble_eq_true rfl)⟩ (fun _=>(ag rfl _)) (by show _+1≤_;omega) (.inl hF) (fun O1 st hH=>?_);dsimp only[u1,u2] at hH;refine qp (o:=1) ?_;refine ab.jP hH rfl (ev rfl) (ev rfl) (by exact hH.mF (by exact dp)) (by exact rfl) (by exact ef) (by exact Nat.le_of_ble_eq_true rfl) (by exact .inl hF) (fun st hH=>?_);dsimp only[u2,u1,u3,u4,setMany,u5,u6,D.cells,Nat.reduceAdd,aB,aH,aN,aA,fk,av,Pg.cs] at hH;refine qe hK<|qj fun K hK=>qm ?_;refine qA ?_;refine qm ?_;refine qe hK ?_;exact⟨mm-1,by omega,⟨i+1,O1,_,rfl,(by rw[List.take_add_one,fZ,Option.toList_some,List.map_append,List.map_append];exact hH.drop 2),by omega⟩⟩
 ·refine af.exit<|qq<|qj fun K hK=>?_;refine ab.aT (m:=2) hH rfl (ev rfl) (by exact bC) (by dsimp only[List.drop_succ_cons,List.drop_zero,List.take_succ_cons,List.take_zero,aB,aH,aN,aA,fk,av,Pg.cs]<;>rfl) rfl rfl (ag rfl _) ?_;refine qS hH dp fun st hH=>?_;dsimp only[u2,u1,u3,u4,setMany,u5,u6,D.cells,Nat.reduceAdd,aB,aH,aN,aA,fk,av,Pg.cs] at hH;refine qe hK ?_
  have lC:((aX p).take i).map jn=(aX p).map jn:=by
   rw[List.take_of_length_le];unfold aX;rw[List.length_map];omega
  rw[lC] at hH;have h1:=hH.jR ax (n:=14) (by decide)
  have h3:aV st s0.bs.length false 16 (.agg [.int .i64 0,y])=some (fP 0 ((aX p).map jn)):=by
   show(eA (aV st s0.bs.length false 15) [.int .i64 0,y]).map D.agg=_;simp only[eA,h1]
   rfl
  refine af.ret ⟨rx,_,hH.lj rfl dp rfl,rl bZ hH h3⟩
theorem BE (L:List PL):∀e∈L.map ji,∀d∈e,lf d=true:=by
 intro e he d hd;obtain⟨q,_,rfl⟩:=List.mem_map.1 he;simp only[ji,aN,List.mem_cons,List.not_mem_nil,or_false] at hd
 rcases hd with rfl|rfl|rfl|rfl|rfl|rfl|rfl|rfl|rfl|rfl|rfl|rfl<;>rfl
theorem BD {L:List PL} (h:∀l∈L,l.cI=[]):(L.map ji).map (·.map mE)=L.map fk:=by
 rw[List.map_map];refine List.map_congr_left fun l hl=>?_;have:=h l hl;obtain⟨dn,b,t⟩:=l;simp only at this;subst this
 rfl
theorem Ag {s0:St} {p:Pg} {pl:Nat} {L:List PL} (hp:p.ok) (hR:bU p) (ij:pl≤1099511627776) (Cf:L.length=p.az.length) (ba:∀l∈L,l.ok p.code.length):
  Ev pv 20 [p.d,fP pl L] s0 (ic (L.map (jh p.code pl))) s0:=by
 have LW:=hR.sl;have hex:∀(st:St) (l:PL),l.ok p.code.length→∃r,Ev pv 43 [p.d,.agg (fk l),.int .i64 (pl:Nat),.bool true] st r st∧∃rd,r=.tup [.agg (aN (jx p.code pl true l.cI (iv p.code.length l.dn l.aR)).dn (jx p.code pl true l.cI (iv p.code.length l.dn l.aR)).aR .nul),rd]∧e_ rd 11 ((jx p.code pl true l.cI (iv p.code.length l.dn l.aR)).rdy.map aH):=fun st l h=>oi hp hR ij (zP _) h.1 (by have:=h.2;omega);unfold fP;unfold Pg.d at*;refine Ev.me rfl R5 rfl rfl rfl ?_;dsimp only[u3,u4,List.length,Nat.reduceSub,Nat.reduceAdd,w1,w2];obtain⟨bZ,hF,hH⟩:=ri s0;generalize ai .ro s0=S at*;have Qq:=jL L;have hla:=Qq.arg s0.bs.length S;refine qq<|qj fun K hK=>qb hH fun k2 st hk2 hH=>?_;dsimp only[u2,u1,u3,u4,setMany,u5,u6,D.cells,Nat.reduceAdd,aB,aH,aN,aA,fk,av,Pg.cs,ji] at hH;refine qb hH fun k3 st Lb hH=>?_;refine qm ?_;refine qe hK<|qq<|qj fun K hK=>qm ?_;refine qe hK<|qq<|qq<|qj fun K hK=>qm ?_;refine qe hK ?_;have hH:=hH.dP 12;refine af.block<|af.loop (fun mm fr st=>∃(i:Nat) (od:D),fr.clean=⟨8,[kN fr 0,kN fr 1,.ptr k2 0 0,.ptr k3 0 0,kN fr 4,od,.int .i64 (i:Nat),kN fr 7],[]⟩∧Has s0.bs.length S st [.aM od 12 (((L.map (jh p.code pl)).take i).map ji),.box k3 (.mem 0 false [.int .i64 (pl:Nat),ic L]),.box k2 (.mem 0 false [p.cd,p.sd])]∧(i+mm=L.length)) (L.length) ?_ ?_
 ·exact⟨0,.nul,rfl,hH,by omega⟩
 rintro mm fr st ⟨i,od,hfr,hH,hi⟩;rw[hfr];clear hfr;generalize kN fr=ee;clear fr;refine qq<|qq<|qj fun K hK=>qm ?_;refine qp (o:=1) ?_;refine ql hH bC ?_;refine qn ?_;simp only[List.length_map];refine qg ?_;refine qe hK ?_;refine af.cond (by rfl) (fun hlt=>?_) (fun hlt=>?_)<;>try simp only[decide_eq_true_eq,decide_eq_false_iff_not] at hlt
 ·refine af.skip ?_
  obtain⟨l,hl⟩:∃l,L[i]?=some l:=⟨L[i]'(by omega),List.getElem?_eq_getElem _⟩
  have gk:=vU hl;have hge:(L.map (jh p.code pl))[i]?=some (jh p.code pl l):=by rw[List.getElem?_map,hl];rfl
  have pJ:(((L.map (jh p.code pl)).take i).map ji).length=i:=by simp;omega
  generalize hB:((L.map (jh p.code pl)).take i).map ji=B at*;refine qq<|af.block ?_;obtain⟨_,aI,rd,rfl,wo⟩:=hex st l (ba l (List.mem_of_getElem? hl));refine qq<|qj fun K hK=>?_;refine ab.aT (m:=2) hH rfl (ev rfl) (by exact dp) (by dsimp only[List.drop_succ_cons,List.drop_zero,List.take_succ_cons,List.take_zero,aB,aH,aN,aA,fk,av,Pg.cs,ji]<;>rfl) rfl rfl (ag rfl _) ?_;refine qp (o:=1) ?_;refine ql hH bC ?_;refine qm ?_;refine qr fun OD Ge=>?_;refine ab.cY rfl (ev rfl) (by assumption) rfl (ag rfl _) ?_;refine qp (o:=0) ?_;refine ql hH bC ?_;refine qv aI ?_;refine qm ?_;refine qg ?_;refine qg ?_;refine qa hH fun k7 st OP hH=>?_;refine qS hH ax fun st hH=>?_;dsimp only[u2,u1,u3,u4,setMany,u5,u6,D.cells,Nat.reduceAdd,aB,aH,aN,aA,fk,av,Pg.cs,ji] at hH;refine qm ?_;refine qe hK<|qj fun K hK=>qm ?_;refine ab.aT (m:=12) hH rfl (ev rfl) (by exact ax) (by dsimp only[List.drop_succ_cons,List.drop_zero,List.take_succ_cons,List.take_zero,aB,aH,aN,aA,fk,av,Pg.cs,ji]<;>rfl) rfl rfl (ag rfl _) ?_;refine qh (s:=12) (vs:=[_]) hH fun k30 st VV hH=>?_;refine ab.bQ (s:=12) hH rfl (ev rfl) (ev rfl) (by exact dp) (by exact hH.rows (by exact ax)) rfl rfl rfl rfl rfl rfl rfl ⟨(Nat.le_of_ble_eq_true rfl),(Nat.le_of_ble_eq_true rfl)⟩ (fun _=>(ag rfl _)) (by simp only[List.length_cons,List.length_nil,List.length_map]<;>omega) (by exact .inl hF) (fun T3 st hH=>?_);dsimp only[u2,u1,u3,u4,setMany,u5,u6,D.cells,Nat.reduceAdd,aB,aH,aN,aA,fk,av,Pg.cs,ji] at hH;refine qm ?_;refine qe hK<|qj fun K hK=>qm ?_;refine qA ?_;refine qm ?_;refine qe hK ?_;exact⟨mm-1,by omega,⟨i+1,T3,rfl,(by rw[List.take_add_one,hge,Option.toList_some,List.map_append,hB];exact hH.drop 2),by omega⟩⟩
 ·refine af.exit<|qq<|qj fun K hK=>qm ?_;refine qm ?_;refine qe hK ?_;have hil:i=L.length:=by omega
  rw[List.take_of_length_le (by simp;omega)] at hH;have h1:=hH.sS ax (L:=s0.bs.length) (fun k hk=>((hH.ok 0 _ ax).2 k hk).1) (BE _) (n:=16) (by decide);rw[BD (by intro l hl;obtain⟨q,_,rfl⟩:=List.mem_map.1 hl;rfl)] at h1;refine af.ret ⟨rx,_,rfl,rl bZ hH h1⟩
def bn (fr:Go.V.Fr) (k:Nat):Go.V.D:=Go.V.nth .bu fr.loc k
theorem Af (iJ:∀st,Ev pv 30 [] st (.agg (aA ch)) st) {s0:St} {p:Pg} {pl:Nat} {L:List PL} {r n:Int} (hp:p.ok) (hR:bU p) (ij:pl≤1000000000000) (Cf:L.length=p.az.length) (ba:∀l∈L,l.ok p.code.length):
  Ev pv 22 [p.d,fP pl L,.int .i32 r,.int .i64 n] s0 (fP (pl+dw n) (dt p.code pl r (aX p) L)) s0:=by
 have LW:=hR.sl;have hex:∀(st:St) (l:PL),l.ok p.code.length→∃r,Ev pv 43 [p.d,.agg (fk l),.int .i64 (pl:Nat),.bool false] st r st∧∃rd,r=.tup [.agg (aN (jx p.code pl false l.cI (iv p.code.length l.dn l.aR)).dn (jx p.code pl false l.cI (iv p.code.length l.dn l.aR)).aR .nul),rd]∧e_ rd 11 ((jx p.code pl false l.cI (iv p.code.length l.dn l.aR)).rdy.map aH):=fun st l h=>oi hp hR (by omega) (zP _) h.1 (by have:=h.2;omega);have TB:=mJ n;have fQ:(aX p).length=L.length:=by unfold aX;rw[List.length_map,Cf]
 unfold fP;unfold Pg.d at*;refine Ev.me rfl R3 rfl rfl rfl ?_;dsimp only[u3,u4,List.length,Nat.reduceSub,Nat.reduceAdd,w1,w2];obtain⟨bZ,hF,hH⟩:=ri s0;generalize ai .ro s0=S at*;have Qq:=jL L;have hla:=Qq.arg s0.bs.length S;have hc:=hp.c.arg s0.bs.length S;have hs:=hp.s.arg s0.bs.length S;refine qq<|qj fun K hK=>qb hH fun k4 st NM hH=>?_;dsimp only[u2,u1,u3,u4,setMany,u5,u6,D.cells,Nat.reduceAdd,aB,aH,aN,aA,fk,av,Pg.cs] at hH;refine qb hH fun k5 st Bg hH=>?_;refine qa hH fun k8 st L6 hH=>?_;refine qe hK<|qq<|qq<|af.ib (fun fr st=>∃(n1:Int) (tmp:List (Nat×D)),fr=⟨14,[bn fr 0,bn fr 1,.int .i32 r,.int .i64 n1,.ptr k4 0 0,.ptr k5 0 0,bn fr 6,bn fr 7,.ptr k8 0 0,bn fr 9,bn fr 10,bn fr 11,bn fr 12,bn fr 13],tmp⟩∧Has s0.bs.length S st [.box k8 (.mem 0 false [.int .i64 0,.nul]),.box k5 (.mem 0 false [.int .i64 (pl:Nat),ic L]),.box k4 (.mem 0 false [p.cd,p.sd])]∧(n1=max n 0)) ?_ ?_
 ·refine qj fun K hK=>qm ?_;refine qg ?_;refine qe hK ?_;refine af.cond (by rfl) (fun h1=>?_) (fun h1=>?_)<;>try simp only[decide_eq_true_eq,decide_eq_false_iff_not] at h1
  ·refine qj fun K hK=>qm ?_;refine qe hK ?_;exact⟨0,_,rfl,hH,by omega⟩
  ·refine af.skip ?_;exact⟨n,_,rfl,hH,by omega⟩
 rintro fr st ⟨n1,tmp,hfr,hH,y4⟩;rw[hfr];clear hfr;generalize bn fr=ee;clear fr;refine qq<|qq<|af.ib (fun fr st=>∃(n2:Int) (tmp:List (Nat×D)),fr=⟨14,[bn fr 0,bn fr 1,.int .i32 r,.int .i64 n2,.ptr k4 0 0,.ptr k5 0 0,bn fr 6,bn fr 7,.ptr k8 0 0,bn fr 9,bn fr 10,bn fr 11,bn fr 12,bn fr 13],tmp⟩∧Has s0.bs.length S st [.box k8 (.mem 0 false [.int .i64 0,.nul]),.box k5 (.mem 0 false [.int .i64 (pl:Nat),ic L]),.box k4 (.mem 0 false [p.cd,p.sd])]∧(n2=min (max n 0) 4)) ?_ ?_
 ·refine qj fun K hK=>qm ?_;refine qg ?_;refine qe hK ?_;refine af.cond (by rfl) (fun h1=>?_) (fun h1=>?_)<;>try simp only[decide_eq_true_eq,decide_eq_false_iff_not] at h1
  ·refine qj fun K hK=>qm ?_;refine qe hK ?_;exact⟨4,_,rfl,hH,by omega⟩
  ·refine af.skip ?_;exact⟨n1,_,rfl,hH,by omega⟩
 rintro fr st ⟨n2,tmp,hfr,hH,K5⟩;rw[hfr];clear hfr;generalize bn fr=ee;clear fr;have QU:((pl:Nat):Int)+n2=((pl+dw n:Nat):Int):=by unfold dw;omega
 refine qq<|qj fun K hK=>qp (o:=0) ?_;refine ql hH bC ?_;refine qm ?_;refine ab.jY (z:=((pl+dw n:Nat):Int)) rfl (ev rfl) (ev rfl) (by rw[QU];exact dK (by simp only[ku];omega)) (ag rfl _) ?_;refine qg ?_;refine qa hH fun k9 st Qs hH=>?_;refine qS hH ax fun st hH=>?_;dsimp only[u2,u1,u3,u4,setMany,u5,u6,D.cells,Nat.reduceAdd,aB,aH,aN,aA,fk,av,Pg.cs] at hH;refine qe hK ?_;have hH:=hH.AF 12;refine qq<|qq<|qj fun K hK=>qm ?_;refine qe hK<|af.block<|af.loop (fun mm fr st=>∃(k:Nat) (y:D) (ks:Nat→Prop),fr.clean=⟨14,[bn fr 0,bn fr 1,.int .i32 r,bn fr 3,.ptr k4 0 0,.ptr k5 0 0,bn fr 6,bn fr 7,.ptr k8 0 0,.ptr k9 0 0,.int .i64 (k:Nat),bn fr 11,bn fr 12,bn fr 13],[]⟩∧Has s0.bs.length S st [.deep ks y 12 (((dt p.code pl r (aX p) L).take k).map fk),.box k9 (.mem 0 false [.int .i64 ((pl+dw n:Nat):Nat),y]),.box k8 (.mem 0 false [.int .i64 0,.nul]),.box k5 (.mem 0 false [.int .i64 (pl:Nat),ic L]),.box k4 (.mem 0 false [p.cd,p.sd])]∧(k+mm=L.length)) (L.length) ?_ ?_
 ·exact⟨0,.nul,_,rfl,hH,by omega⟩
 rintro mm fr st ⟨k,y,ks,hfr,hH,hk⟩;rw[hfr];clear hfr;generalize bn fr=ee;clear fr;refine qq<|qq<|qj fun K hK=>qm ?_;refine qp (o:=1) ?_;refine ql hH ef ?_;refine qn ?_;simp only[List.length_map];refine qg ?_;refine qe hK ?_;refine af.cond (by rfl) (fun hlt=>?_) (fun hlt=>?_)<;>try simp only[decide_eq_true_eq,decide_eq_false_iff_not] at hlt
 ·refine af.skip ?_;have gF:k<L.length:=by omega
  obtain⟨mo,rfl⟩:∃mo,mm=mo+1:=⟨mm-1,by omega⟩
  obtain⟨l,hl⟩:∃l,L[k]?=some l:=⟨L[k]'gF,List.getElem?_eq_getElem _⟩
  obtain⟨start,A5,fZ,UO⟩:=mS hR (i:=k) (by omega);have UT:=dW A5;have gk:=vU hl;have uI:=ba l (List.mem_of_getElem? hl);have hge:=kF p.code pl r (aX p) L k start l fZ hl;have nP:(((dt p.code pl r (aX p) L).take k).map fk).length≤1048576:=by rw[List.length_map,List.length_take];omega
  obtain⟨hb1,hb2⟩:=lW (code:=p.code) (pl:=pl) (e:=false) (l:=l.cI) (dn:=l.dn) (aR:=l.aR);obtain⟨_,aI,rd,rfl,wo⟩:=hex st l uI;unfold eT at hge;generalize jx p.code pl false l.cI (iv p.code.length l.dn l.aR)=W at*;have UW:=wo.arg s0.bs.length S;generalize hB:((dt p.code pl r (aX p) L).take k).map fk=B at*;refine qq<|af.block<|qq<|qj fun K hK=>?_;refine ab.aT (m:=2) hH rfl (ev rfl) (by exact fT) (by dsimp only[List.drop_succ_cons,List.drop_zero,List.take_succ_cons,List.take_zero,aB,aH,aN,aA,fk,av,Pg.cs]<;>rfl) rfl rfl (ag rfl _) ?_;refine qp (o:=1) ?_;refine ql hH ef ?_;refine qm ?_;refine qr fun Pc KV=>?_;refine ab.cY rfl (ev rfl) (by assumption) rfl (ag rfl _) ?_;refine qp (o:=0) ?_;refine ql hH ef ?_;refine qv aI ?_;refine qm ?_;refine qg ?_;refine qg ?_;refine qa hH fun k11 st Ld hH=>?_;refine qS hH ax fun st hH=>?_;dsimp only[u2,u1,u3,u4,setMany,u5,u6,D.cells,Nat.reduceAdd,aB,aH,aN,aA,fk,av,Pg.cs] at hH;refine qm ?_;refine qe hK ?_;have hH:=hH.dP 11;refine qq<|qq<|qj fun K hK=>qm ?_;refine qe hK ?_
  obtain⟨A0,hA⟩:∃A,eV p.code r W.rdy []=A:=⟨_,rfl⟩
  rw[hA] at hge;refine af.block<|af.loop (fun mm fr st=>∃(j:Nat) (acc rest:List gM) (td:D),fr.clean=⟨14,[bn fr 0,bn fr 1,.int .i32 r,bn fr 3,.ptr k4 0 0,.ptr k5 0 0,bn fr 6,bn fr 7,.ptr k8 0 0,.ptr k9 0 0,.int .i64 (k:Nat),.ptr k11 0 0,rd,.int .i64 (j:Nat)],[]⟩∧Has s0.bs.length S st [.aM td 11 (acc.map aH),.box k11 (.mem 0 false (aN W.dn W.aR td)),.deep ks y 12 B,.box k9 (.mem 0 false [.int .i64 ((pl+dw n:Nat):Nat),y]),.box k8 (.mem 0 false [.int .i64 0,.nul]),.box k5 (.mem 0 false [.int .i64 (pl:Nat),ic L]),.box k4 (.mem 0 false [p.cd,p.sd])]∧(j+mm=W.rdy.length)∧(rest=W.rdy.drop j)∧(eV p.code r rest acc=A0)∧(acc.length≤j)) (W.rdy.length) ?_ ?_
  ·exact⟨0,[],W.rdy,.nul,rfl,hH,by omega,rfl,hA,by simp⟩
  rintro mm fr st ⟨j,acc,rest,td,hfr,hH,hj,iP,mC,hal⟩;rw[hfr];clear hfr;generalize bn fr=ee;clear fr;refine qq<|qq<|qj fun K hK=>qm ?_;refine qm ?_;refine qn ?_;simp only[List.length_map];refine qg ?_;refine qe hK ?_;refine af.cond (by rfl) (fun NF=>?_) (fun NF=>?_)<;>try simp only[decide_eq_true_eq,decide_eq_false_iff_not] at NF
  ·refine af.skip ?_;have iR:j<W.rdy.length:=by omega
   obtain⟨t,ht⟩:∃t,W.rdy[j]?=some t:=⟨W.rdy[j]'iR,List.getElem?_eq_getElem _⟩
   have Ga:=j4 ht;obtain⟨ii,hii,OQ⟩:=hb2 t (List.mem_of_getElem? ht);have G0:=oq hR ⟨ii,hii,OQ⟩;have oQ:=fM hii;have G':=hp.i ii (List.mem_of_getElem? hii);have A9:=G'.1;have A_:=A9.arg s0.bs.length S;have PT:=G'.2;have hcl:=hR.cl
   have wA:rest=t::W.rdy.drop (j+1):=by
    rw[iP,List.drop_eq_getElem_cons iR]
    congr 1
    exact Option.some.inj ((List.getElem?_eq_getElem _).symm.trans ht)
   rw[wA] at mC;have KN:tI p.code t.pc=ii.rs:=by unfold tI;rw[hii]
   unfold eV at mC;rw[KN] at mC;refine qq<|af.block<|qq<|qj fun K hK=>qp (o:=0) ?_;refine ql hH L9 ?_;refine qm ?_;refine qm ?_;refine qr fun Xf Ve=>?_;refine qf (fo:=0) fun Xe Vd=>?_;refine qR ?_;refine qr fun Uh Qa=>?_;refine qf (fo:=3) fun SQ Nh=>?_;refine qR ?_;refine qm ?_;refine qv (yF (A_.rows hH) (by omega)) ?_;refine qe hK ?_
   cases hh:iK ii.rs r with
   |false=>
    rw[hh,if_neg (by decide)] at mC;refine qC ?_;refine af.skip<|qj fun K hK=>qm ?_;refine qA ?_;refine qm ?_;refine qe hK ?_;exact⟨mm-1,by omega,⟨j+1,acc,W.rdy.drop (j+1),td,rfl,hH,by omega,rfl,mC,by omega⟩⟩
   |true=>
    rw[hh,if_pos rfl] at mC;refine qB ?_;have Wr:=pr acc ⟨t.pc+1,t.c⟩;refine qj fun K hK=>qp (o:=11) ?_;refine ql hH bC ?_;refine qm ?_;refine qm ?_;refine qr fun SP Ng=>?_;refine qf (fo:=0) fun Ue P8=>?_;refine qR ?_;refine qA ?_;refine qm ?_;refine qm ?_;refine qr fun Uc P6=>?_;refine qf (fo:=1) fun W8 U8=>?_;refine qR ?_;refine ab.go (d:=.agg (aH ⟨t.pc+1,t.c⟩)) (st1:=_) rfl rfl rfl (ag rfl _) ?_;obtain⟨O5,st,aI,hH⟩:=Ak (t:=⟨t.pc+1,t.c⟩) hF (by omega) hH;refine qv aI ?_;refine qp (o:=11) ?_;refine qT hH bC (fun st hH=>?_) (gR:=hH.eI ax);dsimp only[u2,u1,u3,u4,setMany,u5,u6,D.cells,Nat.reduceAdd,aB,aH,aN,aA,fk,av,Pg.cs] at hH;refine qe hK<|qj fun K hK=>qm ?_;refine qA ?_;refine qm ?_;refine qe hK ?_;exact⟨mm-1,by omega,⟨j+1,ju acc ⟨t.pc+1,t.c⟩,W.rdy.drop (j+1),O5,rfl,hH,by omega,rfl,mC,by omega⟩⟩
  ·refine af.exit ?_;have sM:rest=[]:=by rw[iP,List.drop_eq_nil_iff];omega
   subst sM;have mC:acc=A0:=mC;subst mC;clear hA iP;refine qq<|qq<|af.ib (fun fr st=>∃(cI:List gM) (td:D) (tmp:List (Nat×D)),fr=⟨14,[bn fr 0,bn fr 1,.int .i32 r,bn fr 3,.ptr k4 0 0,.ptr k5 0 0,bn fr 6,bn fr 7,.ptr k8 0 0,.ptr k9 0 0,.int .i64 (k:Nat),.ptr k11 0 0,bn fr 12,bn fr 13],tmp⟩∧Has s0.bs.length S st [.aM td 11 (cI.map aH),.box k11 (.mem 0 false (aN W.dn W.aR td)),.deep ks y 12 B,.box k9 (.mem 0 false [.int .i64 ((pl+dw n:Nat):Nat),y]),.box k8 (.mem 0 false [.int .i64 0,.nul]),.box k5 (.mem 0 false [.int .i64 (pl:Nat),ic L]),.box k4 (.mem 0 false [p.cd,p.sd])]∧(cI=(if W.dn=true then acc else ju acc ⟨start,ch⟩))) ?_ ?_
   ·refine qj fun K hK=>qp (o:=0) ?_;refine ql hH bC ?_;refine qg ?_;refine qe hK ?_
    cases NX:W.dn with
    |true=>
     rw[NX] at hH;refine qC ?_;refine af.skip ?_;exact⟨acc,td,_,rfl,hH,rfl⟩
    |false=>
     rw[NX] at hH;refine qB ?_;refine qj fun K hK=>qp (o:=11) ?_;refine ql hH bC ?_;refine qp (o:=1) ?_;refine ql hH L9 ?_;refine qm ?_;refine qr fun T9 P2=>?_;refine qR ?_;refine qv (iJ _) ?_;refine ab.go (d:=.agg (aH ⟨start,ch⟩)) (st1:=_) rfl rfl rfl (ag rfl _) ?_;obtain⟨O5,st,aI,hH⟩:=Ak (t:=⟨start,ch⟩) hF (by have:=hR.cl;omega) hH;refine qv aI ?_;refine qp (o:=11) ?_;refine qT hH bC (fun st hH=>?_) (gR:=hH.eI ax);dsimp only[u2,u1,u3,u4,setMany,u5,u6,D.cells,Nat.reduceAdd,aB,aH,aN,aA,fk,av,Pg.cs] at hH;refine qe hK ?_;exact⟨ju acc ⟨start,ch⟩,O5,_,rfl,hH,by rw[if_neg (by decide)]⟩
   ·rintro fr st ⟨cI,td,tmp,hfr,hH,KG⟩;rw[hfr];clear hfr;generalize bn fr=ee;clear fr;refine qj fun K hK=>qp (o:=1) ?_;refine ql hH ef ?_;refine ab.aT (m:=12) hH rfl (ev rfl) (by exact bC) (by dsimp only[List.drop_succ_cons,List.drop_zero,List.take_succ_cons,List.take_zero,aB,aH,aN,aA,fk,av,Pg.cs]<;>rfl) rfl rfl (ag rfl _) ?_;refine qh (s:=12) (vs:=[_]) hH fun k93 st VB hH=>?_;dsimp only[u2,u1,u3,u4,setMany,u5,u6,D.cells,Nat.reduceAdd,aB,aH,aN,aA,fk,av,Pg.cs] at hH;obtain⟨hH,Gr⟩:=hH.pt (i:=1) (j:=3) (by decide) bC ef (gr _);dsimp only[u1,u2] at hH;refine ab.jj hH rfl rfl rfl ef (hH.rows ax) (.cons (wK (dn:=W.dn) (f:=W.aR) Gr) .nil) rfl rfl rfl rfl rfl rfl rfl ⟨(Nat.le_of_ble_eq_true rfl),(Nat.le_of_ble_eq_true rfl)⟩ (fun _=>(ag rfl _)) (by show _+1≤_;omega) (.inl hF) (fun TR st hH=>?_);dsimp only[u1,u2] at hH;refine qp (o:=1) ?_;refine ab.jP hH rfl (ev rfl) (ev rfl) (by exact hH.mF (by exact ef)) (by exact rfl) (by exact fT) (by exact Nat.le_of_ble_eq_true rfl) (by exact .inl hF) (fun st hH=>?_);dsimp only[u2,u1,u3,u4,setMany,u5,u6,D.cells,Nat.reduceAdd,aB,aH,aN,aA,fk,av,Pg.cs] at hH;refine qe hK<|qj fun K hK=>qm ?_;refine qA ?_;refine qm ?_;refine qe hK ?_;rw[KG] at hH;exact⟨mo,by omega,⟨k+1,TR,_,rfl,(by rw[List.take_add_one,hge,Option.toList_some,List.map_append,hB];exact hH.drop 3),by omega⟩⟩
 ·refine af.exit<|qq<|qj fun K hK=>?_;refine ab.aT (m:=2) hH rfl (ev rfl) (by exact bC) (by dsimp only[List.drop_succ_cons,List.drop_zero,List.take_succ_cons,List.take_zero,aB,aH,aN,aA,fk,av,Pg.cs]<;>rfl) rfl rfl (ag rfl _) ?_;refine qS hH dp fun st hH=>?_;dsimp only[u2,u1,u3,u4,setMany,u5,u6,D.cells,Nat.reduceAdd,aB,aH,aN,aA,fk,av,Pg.cs] at hH;refine qe hK ?_;have gF:k=L.length:=by omega
  have lC:(dt p.code pl r (aX p) L).take k=dt p.code pl r (aX p) L:=by
   rw[List.take_of_length_le];rw[iS _ _ _ _ _ fQ];omega
  rw[lC] at hH;have h1:=hH.jR ax (n:=14) (by decide)
  have h3:aV st s0.bs.length false 16 (.agg [.int .i64 ((pl+dw n:Nat):Nat),y])=some (fP (pl+dw n) (dt p.code pl r (aX p) L)):=by
   show(eA (aV st s0.bs.length false 15) [.int .i64 ((pl+dw n:Nat):Nat),y]).map D.agg=_;simp only[eA,h1]
   rfl
  refine af.ret ⟨rx,_,hH.lj rfl dp rfl,rl bZ hH h3⟩
open Go.V Go Go.RowKit
theorem nW (code:List aL) (pl:Nat) (e:Bool):∀(f:Nat) (w:Wk) (t:gM),bK (code.map dS) pl e f w t=bK code pl e f w t
 |0,_,_=>rfl
 |f+1,w,t=>by
  unfold bK;simp only[nW code pl e f,List.getElem?_map]
  cases code[t.pc]? with
  |none=>rfl
  |some i=>rfl
theorem o4 (code:List aL) (pl:Nat) (e:Bool):∀(l:List gM) (w:Wk),jx (code.map dS) pl e l w=jx code pl e l w
 |[],_=>rfl
 |t::ts,w=>by
  unfold jx;simp only[nW,List.length_map,o4 code pl e ts]
theorem yz (code:List aL) (k:Nat):tI (code.map dS) k=tI code k:=by
 unfold tI;rw[List.getElem?_map];cases code[k]?<;>rfl
theorem oC (code:List aL) (r:Int):∀(l a:List gM),eV (code.map dS) r l a=eV code r l a
 |[],_=>rfl
 |t::ts,a=>by unfold eV;simp only[yz,oC code r ts]
theorem vB (code:List aL) (pl s:Nat) (r:Int) (l:PL):eT (code.map dS) pl s r l=eT code pl s r l:=by
 unfold eT;simp only[o4,oC,List.length_map]
theorem mR (code:List aL) (pl:Nat) (r:Int):∀(ss:List Nat) (ls:List PL),dt (code.map dS) pl r ss ls=dt code pl r ss ls
 |[],_=>rfl
 |_::_,[]=>rfl
 |s::ss,l::ls=>by simp only[dt,vB,mR code pl r ss ls]
theorem zh (code:List aL) (pl:Nat):jh (code.map dS) pl=jh code pl:=by
 funext l;unfold jh;simp only[o4,List.length_map]
theorem tc.aX {p q:Pg} (h:tc p q):aX q=aX p:=by unfold Go.Proofs.YtbdilgkfnacahaaGreat.aX;rw[h.az]
theorem pU {p:Pg} (hR:bU p) {pl:Nat} {r:Int}:∀{ss:List Nat} {ls:List PL},(∀s∈ss,s<p.code.length)→∀l∈dt p.code pl r ss ls,l.ok p.code.length
 |[],_,_,l,hl=>by cases hl
 |_::_,[],_,l,hl=>by cases hl
 |s::ss,x::ls,hs,l,hl=>by
  simp only[dt,List.mem_cons] at hl
  rcases hl with rfl|hl
  ·exact zU hR (hs s (List.mem_cons_self ..))
  ·exact pU hR (fun s h=>hs s (List.mem_cons_of_mem _ h)) l hl
theorem vC {p:Pg} (hR:bU p):∀s∈aX p,s<p.code.length:=by
 intro s hs;obtain⟨v,hv,rfl⟩:=List.mem_map.1 hs;have:=hR.st v hv;omega
theorem wT {x y:Oper} {fi fj:Fr} {si nJ sj B7:St} {a:Operand} {k ay off v:Nat} {ar:Bool} {c:List D} (hy:fO y.op=some a) (ha:fj.ev a=.ptr k ay off) (h1:si.bs[k]?=some (.mem v ar c)) (h2:nJ.bs[k]?=some (.mem v ar c)):gz x fi si nJ y fj sj B7=true:=by
 unfold gz;simp only[hy,ha,D.kU];exact lZ h1 h2
end Go.Proofs.YtbdilgkfnacahaaGreat
