import Derived.Test.YtbdnabmmlbiomaaGreatXGYe
import Derived.Test.YtbdnabmmlbiomaaGreatXGUo
set_option maxRecDepth 100000
set_option maxHeartbeats 4000000
set_option linter.unusedSimpArgs false
set_option linter.unusedVariables false
namespace Go.Proofs.YtbdnabmmlbiomaaGreat
open Go.V Go
def l8 (fr:Go.V.Fr) (k:Nat):Go.V.D:=Go.V.nth .bp fr.loc k
theorem ox {p:Pg} (hR:bz p) {i:Nat} (hi:i<p.aw.length):∃s:Nat,p.aw[i]?=some ((s:Nat):Int)∧(au p)[i]?=some s∧s<p.code.length:=by
 obtain⟨s,Dv⟩:∃s,p.aw[i]?=some s:=⟨p.aw[i]'hi,List.getElem?_eq_getElem _⟩
 obtain⟨uq,K'⟩:=hR.st s (List.mem_of_getElem? Dv);obtain⟨s1,rfl⟩:=Int.eq_ofNat_of_zero_le uq;exact⟨s1,Dv,by unfold au;rw[List.getElem?_map,Dv];rfl,by omega⟩
theorem KC (dE:∀st,Ev pv 67 [] st (.agg (aF b4)) st) {s0:St} {p:Pg} (hp:p.ok) (hR:bz p):
  Ev pv 30 [p.d] s0 (iY 0 ((au p).map fI)) s0:=by
 have L6:=hR.sl;refine Ev.iS rfl Yd rfl rfl rfl ?_;dsimp only[u3,u4,List.length,Nat.reduceSub,Nat.reduceAdd,w1,w2];obtain⟨bT,hF,hH⟩:=ri s0;generalize ag .ro s0=S at*;have hs:=hp.s.arg s0.bs.length S;unfold Pg.d;refine qq<|qj fun K hK=>qb hH fun k1 st o5 hH=>?_;dsimp only[u2,u1,u3,u4,setMany,u5,u6,D.cells,Nat.reduceAdd,aH,aN,aU,aF,gH,ay,Pg.cs] at hH;refine qa hH fun k2 st hk2 hH=>?_;refine qe hK<|qq<|qj fun K hK=>qa hH fun k3 st EU hH=>?_;refine qe hK ?_;have hH:=hH.C4 12;refine qq<|qq<|qj fun K hK=>qm ?_;refine qe hK<|ab.block<|ab.loop (fun mm fr st=>∃(i:Nat) (y:D) (ks:Nat→Prop),fr.clean=⟨5,[l8 fr 0,.ptr k1 0 0,.ptr k2 0 0,.ptr k3 0 0,.int .i64 (i:Nat)],[]⟩∧Has s0.bs.length S st [.deep ks y 12 ((((au p).take i).map fI).map gH),.box k3 (.mem 0 false [.int .i64 0,y]),.box k2 (.mem 0 false [.int .i64 0,.nul]),.box k1 (.mem 0 false [p.cd,p.sd])]∧(i+mm=p.aw.length)) (p.aw.length) ?_ ?_
 ·exact⟨0,.nul,_,rfl,hH,by omega⟩
 rintro mm fr st ⟨i,y,ks,hfr,hH,hi⟩;rw[hfr];clear hfr;generalize l8 fr=ee;clear fr;refine qq<|qq<|qj fun K hK=>qm ?_;refine qp (o:=1) ?_;refine ql hH eQ ?_;refine qn ?_;simp only[List.length_map];refine qg ?_;refine qe hK ?_;refine ab.cond (by rfl) (fun hlt=>?_) (fun hlt=>?_)<;>try simp only[decide_eq_true_eq,decide_eq_false_iff_not] at hlt
 ·refine ab.skip ?_;obtain⟨s1,Dv,gf,iT⟩:=ox hR (i:=i) (by omega);have gJ:=eO Dv;have nu:((((au p).take i).map fI).map gH).length≤1048576:=by rw[List.length_map,List.length_map,List.length_take];omega
  refine qq<|ab.block<|qj fun K hK=>qp (o:=1) ?_;refine ql hH bF ?_;refine qv (dE _) ?_;refine qp (o:=1) ?_;refine ql hH eQ ?_;refine qm ?_;refine qr fun Vw Qi=>?_;refine qR ?_;refine qv (dE _) ?_;refine aa.go (d:=.agg (aN ⟨s1,b4⟩)) (st1:=_) rfl rfl rfl (ah rfl _) ?_;refine qh (s:=11) (vs:=[_]) hH fun k22 st WS hH=>?_;dsimp only[u2,u1,u3,u4,setMany,u5,u6,D.cells,Nat.reduceAdd,aH,aN,aU,aF,gH,ay,Pg.cs] at hH;refine aa.go (d:=.agg (aU false b4 (.win k22 0 0 1 11))) (st1:=_) rfl rfl rfl (ah rfl _) ?_;refine qh (s:=12) (vs:=[_]) hH fun k24 st WR hH=>?_;dsimp only[u2,u1,u3,u4,setMany,u5,u6,D.cells,Nat.reduceAdd,aH,aN,aU,aF,gH,ay,Pg.cs] at hH;obtain⟨hH,Ln⟩:=hH.rO (i:=1) (j:=2) (by decide) bF dL (ij [⟨s1,b4⟩]);dsimp only[u1,u2] at hH;refine aa.kj hH rfl rfl rfl dL (hH.rows aB) (.cons (uO (dn:=false) (f:=b4) Ln) .nil) rfl rfl rfl rfl rfl rfl rfl ⟨(Nat.le_of_ble_eq_true rfl),(Nat.le_of_ble_eq_true rfl)⟩ (fun _=>(ah rfl _)) (by show _+1≤_;omega) (.inl hF) (fun Ve st hH=>?_);dsimp only[u1,u2] at hH;refine qp (o:=1) ?_;refine aa.k_ hH rfl (ev rfl) (ev rfl) (by exact hH.og (by exact dL)) (by exact rfl) (by exact eQ) (by exact Nat.le_of_ble_eq_true rfl) (by exact .inl hF) (fun st hH=>?_);dsimp only[u2,u1,u3,u4,setMany,u5,u6,D.cells,Nat.reduceAdd,aH,aN,aU,aF,gH,ay,Pg.cs] at hH;refine qe hK<|qj fun K hK=>qm ?_;refine qA ?_;refine qm ?_;refine qe hK ?_;exact⟨mm-1,by omega,⟨i+1,Ve,_,rfl,(by rw[List.take_add_one,gf,Option.toList_some,List.map_append,List.map_append];exact hH.drop 2),by omega⟩⟩
 ·refine ab.exit<|qq<|qj fun K hK=>?_;refine aa.aT (m:=2) hH rfl (ev rfl) (by exact bF) (by dsimp only[List.drop_succ_cons,List.drop_zero,List.take_succ_cons,List.take_zero,aH,aN,aU,aF,gH,ay,Pg.cs]<;>rfl) rfl rfl (ah rfl _) ?_;refine qS hH dL fun st hH=>?_;dsimp only[u2,u1,u3,u4,setMany,u5,u6,D.cells,Nat.reduceAdd,aH,aN,aU,aF,gH,ay,Pg.cs] at hH;refine qe hK ?_
  have ml:((au p).take i).map fI=(au p).map fI:=by
   rw[List.take_of_length_le];unfold au;rw[List.length_map];omega
  rw[ml] at hH;have h1:=hH.jO aB (n:=14) (by decide)
  have h3:aY st s0.bs.length false 16 (.agg [.int .i64 0,y])=some (iY 0 ((au p).map fI)):=by
   show(eN (aY st s0.bs.length false 15) [.int .i64 0,y]).map D.agg=_;simp only[eN,h1]
   rfl
  refine ab.ret ⟨rx,_,hH.j5 rfl dL rfl,rl bT hH h3⟩
theorem D' (L:List PL):∀e∈L.map jP,∀d∈e,mz d=true:=by
 intro e he d hd;obtain⟨q,_,rfl⟩:=List.mem_map.1 he;simp only[jP,aU,List.mem_cons,List.not_mem_nil,or_false] at hd
 rcases hd with rfl|rfl|rfl|rfl|rfl|rfl|rfl|rfl|rfl|rfl|rfl|rfl<;>rfl
theorem D_ {L:List PL} (h:∀l∈L,l.cT=[]):(L.map jP).map (·.map oe)=L.map gH:=by
 rw[List.map_map];refine List.map_congr_left fun l hl=>?_;have:=h l hl;obtain⟨dn,b,t⟩:=l;simp only at this;subst this
 rfl
theorem CA {s0:St} {p:Pg} {pl:Nat} {L:List PL} (hp:p.ok) (hR:bz p) (iq:pl≤1099511627776) (sa:L.length=p.aw.length) (bc:∀l∈L,l.ok p.code.length):
  Ev pv 25 [p.d,iY pl L] s0 (dB (L.map (iU p.code pl))) s0:=by
 have L6:=hR.sl;have hex:∀(st:St) (l:PL),l.ok p.code.length→∃r,Ev pv 69 [p.d,.agg (gH l),.int .i64 (pl:Nat),.bool true] st r st∧∃rd,r=.tup [.agg (aU (kH p.code pl true l.cT (jv p.code.length l.dn l.a7)).dn (kH p.code pl true l.cT (jv p.code.length l.dn l.a7)).a7 .nul),rd]∧eE rd 11 ((kH p.code pl true l.cT (jv p.code.length l.dn l.a7)).rdy.map aN):=fun st l h=>pQ hp hR iq (Cb _) h.1 (by have:=h.2;omega);unfold iY;unfold Pg.d at*;refine Ev.iS rfl Yh rfl rfl rfl ?_;dsimp only[u3,u4,List.length,Nat.reduceSub,Nat.reduceAdd,w1,w2];obtain⟨bT,hF,hH⟩:=ri s0;generalize ag .ro s0=S at*;have WH:=jI L;have hla:=WH.arg s0.bs.length S;refine qq<|qj fun K hK=>qb hH fun k2 st hk2 hH=>?_;dsimp only[u2,u1,u3,u4,setMany,u5,u6,D.cells,Nat.reduceAdd,aH,aN,aU,aF,gH,ay,Pg.cs,jP] at hH;refine qb hH fun k3 st EU hH=>?_;refine qm ?_;refine qe hK<|qq<|qj fun K hK=>qm ?_;refine qe hK<|qq<|qq<|qj fun K hK=>qm ?_;refine qe hK ?_;have hH:=hH.d_ 12;refine ab.block<|ab.loop (fun mm fr st=>∃(i:Nat) (od:D),fr.clean=⟨8,[l8 fr 0,l8 fr 1,.ptr k2 0 0,.ptr k3 0 0,l8 fr 4,od,.int .i64 (i:Nat),l8 fr 7],[]⟩∧Has s0.bs.length S st [.aP od 12 (((L.map (iU p.code pl)).take i).map jP),.box k3 (.mem 0 false [.int .i64 (pl:Nat),dB L]),.box k2 (.mem 0 false [p.cd,p.sd])]∧(i+mm=L.length)) (L.length) ?_ ?_
 ·exact⟨0,.nul,rfl,hH,by omega⟩
 rintro mm fr st ⟨i,od,hfr,hH,hi⟩;rw[hfr];clear hfr;generalize l8 fr=ee;clear fr;refine qq<|qq<|qj fun K hK=>qm ?_;refine qp (o:=1) ?_;refine ql hH bF ?_;refine qn ?_;simp only[List.length_map];refine qg ?_;refine qe hK ?_;refine ab.cond (by rfl) (fun hlt=>?_) (fun hlt=>?_)<;>try simp only[decide_eq_true_eq,decide_eq_false_iff_not] at hlt
 ·refine ab.skip ?_
  obtain⟨l,hl⟩:∃l,L[i]?=some l:=⟨L[i]'(by omega),List.getElem?_eq_getElem _⟩
  have gJ:=yg hl;have hge:(L.map (iU p.code pl))[i]?=some (iU p.code pl l):=by rw[List.getElem?_map,hl];rfl
  have oZ:(((L.map (iU p.code pl)).take i).map jP).length=i:=by simp;omega
  generalize hB:((L.map (iU p.code pl)).take i).map jP=B at*;refine qq<|ab.block ?_;obtain⟨_,aK,rd,rfl,yH⟩:=hex st l (bc l (List.mem_of_getElem? hl));refine qq<|qj fun K hK=>?_;refine aa.aT (m:=2) hH rfl (ev rfl) (by exact dL) (by dsimp only[List.drop_succ_cons,List.drop_zero,List.take_succ_cons,List.take_zero,aH,aN,aU,aF,gH,ay,Pg.cs,jP]<;>rfl) rfl rfl (ah rfl _) ?_;refine qp (o:=1) ?_;refine ql hH bF ?_;refine qm ?_;refine qr fun UR Le=>?_;refine aa.db rfl (ev rfl) (by assumption) rfl (ah rfl _) ?_;refine qp (o:=0) ?_;refine ql hH bF ?_;refine qv aK ?_;refine qm ?_;refine qg ?_;refine qg ?_;refine qa hH fun k7 st U3 hH=>?_;refine qS hH aB fun st hH=>?_;dsimp only[u2,u1,u3,u4,setMany,u5,u6,D.cells,Nat.reduceAdd,aH,aN,aU,aF,gH,ay,Pg.cs,jP] at hH;refine qm ?_;refine qe hK<|qj fun K hK=>qm ?_;refine aa.aT (m:=12) hH rfl (ev rfl) (by exact aB) (by dsimp only[List.drop_succ_cons,List.drop_zero,List.take_succ_cons,List.take_zero,aH,aN,aU,aF,gH,ay,Pg.cs,jP]<;>rfl) rfl rfl (ah rfl _) ?_;refine qh (s:=12) (vs:=[_]) hH fun k30 st aa0 hH=>?_;refine aa.bO (s:=12) hH rfl (ev rfl) (ev rfl) (by exact dL) (by exact hH.rows (by exact aB)) rfl rfl rfl rfl rfl rfl rfl ⟨(Nat.le_of_ble_eq_true rfl),(Nat.le_of_ble_eq_true rfl)⟩ (fun _=>(ah rfl _)) (by simp only[List.length_cons,List.length_nil,List.length_map]<;>omega) (by exact .inl hF) (fun x31 st hH=>?_);dsimp only[u2,u1,u3,u4,setMany,u5,u6,D.cells,Nat.reduceAdd,aH,aN,aU,aF,gH,ay,Pg.cs,jP] at hH;refine qm ?_;refine qe hK<|qj fun K hK=>qm ?_;refine qA ?_;refine qm ?_;refine qe hK ?_;exact⟨mm-1,by omega,⟨i+1,x31,rfl,(by rw[List.take_add_one,hge,Option.toList_some,List.map_append,hB];exact hH.drop 2),by omega⟩⟩
 ·refine ab.exit<|qq<|qj fun K hK=>qm ?_;refine qm ?_;refine qe hK ?_;have hil:i=L.length:=by omega
  rw[List.take_of_length_le (by simp;omega)] at hH;have h1:=hH.uG aB (L:=s0.bs.length) (fun k hk=>((hH.ok 0 _ aB).2 k hk).1) (D' _) (n:=16) (by decide);rw[D_ (by intro l hl;obtain⟨q,_,rfl⟩:=List.mem_map.1 hl;rfl)] at h1;refine ab.ret ⟨rx,_,rfl,rl bT hH h1⟩
def bu (fr:Go.V.Fr) (k:Nat):Go.V.D:=Go.V.nth .bp fr.loc k
theorem vN (dE:∀st,Ev pv 67 [] st (.agg (aF b4)) st) {s0:St} {p:Pg} {pl:Nat} {L:List PL} {r n:Int} (hp:p.ok) (hR:bz p) (iq:pl≤1000000000000) (sa:L.length=p.aw.length) (bc:∀l∈L,l.ok p.code.length):
  Ev pv 24 [p.d,iY pl L,.int .i32 r,.int .i64 n] s0 (iY (pl+di n) (da p.code pl r (au p) L)) s0:=by
 have L6:=hR.sl;have hex:∀(st:St) (l:PL),l.ok p.code.length→∃r,Ev pv 69 [p.d,.agg (gH l),.int .i64 (pl:Nat),.bool false] st r st∧∃rd,r=.tup [.agg (aU (kH p.code pl false l.cT (jv p.code.length l.dn l.a7)).dn (kH p.code pl false l.cT (jv p.code.length l.dn l.a7)).a7 .nul),rd]∧eE rd 11 ((kH p.code pl false l.cT (jv p.code.length l.dn l.a7)).rdy.map aN):=fun st l h=>pQ hp hR (by omega) (Cb _) h.1 (by have:=h.2;omega);have U5:=iu n;have ec:(au p).length=L.length:=by unfold au;rw[List.length_map,sa]
 unfold iY;unfold Pg.d at*;refine Ev.iS rfl Yi rfl rfl rfl ?_;dsimp only[u3,u4,List.length,Nat.reduceSub,Nat.reduceAdd,w1,w2];obtain⟨bT,hF,hH⟩:=ri s0;generalize ag .ro s0=S at*;have WH:=jI L;have hla:=WH.arg s0.bs.length S;have hc:=hp.c.arg s0.bs.length S;have hs:=hp.s.arg s0.bs.length S;refine qq<|qj fun K hK=>qb hH fun k4 st Ry hH=>?_;dsimp only[u2,u1,u3,u4,setMany,u5,u6,D.cells,Nat.reduceAdd,aH,aN,aU,aF,gH,ay,Pg.cs] at hH;refine qb hH fun k5 st Aa hH=>?_;refine qa hH fun k8 st Rx hH=>?_;refine qe hK<|qq<|qq<|ab.j8 (fun fr st=>∃(n1:Int) (tmp:List (Nat×D)),fr=⟨14,[bu fr 0,bu fr 1,.int .i32 r,.int .i64 n1,.ptr k4 0 0,.ptr k5 0 0,bu fr 6,bu fr 7,.ptr k8 0 0,bu fr 9,bu fr 10,bu fr 11,bu fr 12,bu fr 13],tmp⟩∧Has s0.bs.length S st [.box k8 (.mem 0 false [.int .i64 0,.nul]),.box k5 (.mem 0 false [.int .i64 (pl:Nat),dB L]),.box k4 (.mem 0 false [p.cd,p.sd])]∧(n1=max n 0)) ?_ ?_
 ·refine qj fun K hK=>qm ?_;refine qg ?_;refine qe hK ?_;refine ab.cond (by rfl) (fun h1=>?_) (fun h1=>?_)<;>try simp only[decide_eq_true_eq,decide_eq_false_iff_not] at h1
  ·refine qj fun K hK=>qm ?_;refine qe hK ?_;exact⟨0,_,rfl,hH,by omega⟩
  ·refine ab.skip ?_;exact⟨n,_,rfl,hH,by omega⟩
 rintro fr st ⟨n1,tmp,hfr,hH,xA⟩;rw[hfr];clear hfr;generalize bu fr=ee;clear fr;refine qq<|qq<|ab.j8 (fun fr st=>∃(n2:Int) (tmp:List (Nat×D)),fr=⟨14,[bu fr 0,bu fr 1,.int .i32 r,.int .i64 n2,.ptr k4 0 0,.ptr k5 0 0,bu fr 6,bu fr 7,.ptr k8 0 0,bu fr 9,bu fr 10,bu fr 11,bu fr 12,bu fr 13],tmp⟩∧Has s0.bs.length S st [.box k8 (.mem 0 false [.int .i64 0,.nul]),.box k5 (.mem 0 false [.int .i64 (pl:Nat),dB L]),.box k4 (.mem 0 false [p.cd,p.sd])]∧(n2=min (max n 0) 4)) ?_ ?_
 ·refine qj fun K hK=>qm ?_;refine qg ?_;refine qe hK ?_;refine ab.cond (by rfl) (fun h1=>?_) (fun h1=>?_)<;>try simp only[decide_eq_true_eq,decide_eq_false_iff_not] at h1
  ·refine qj fun K hK=>qm ?_;refine qe hK ?_;exact⟨4,_,rfl,hH,by omega⟩
  ·refine ab.skip ?_;exact⟨n1,_,rfl,hH,by omega⟩
 rintro fr st ⟨n2,tmp,hfr,hH,L_⟩;rw[hfr];clear hfr;generalize bu fr=ee;clear fr;have Xe:((pl:Nat):Int)+n2=((pl+di n:Nat):Int):=by unfold di;omega
 refine qq<|qj fun K hK=>qp (o:=0) ?_;refine ql hH bF ?_;refine qm ?_;refine aa.lq (z:=((pl+di n:Nat):Int)) rfl (ev rfl) (ev rfl) (by rw[Xe];exact du (by simp only[kA];omega)) (ah rfl _) ?_;refine qg ?_;refine qa hH fun k9 st U2 hH=>?_;refine qS hH aB fun st hH=>?_;dsimp only[u2,u1,u3,u4,setMany,u5,u6,D.cells,Nat.reduceAdd,aH,aN,aU,aF,gH,ay,Pg.cs] at hH;refine qe hK ?_;have hH:=hH.C4 12;refine qq<|qq<|qj fun K hK=>qm ?_;refine qe hK<|ab.block<|ab.loop (fun mm fr st=>∃(k:Nat) (y:D) (ks:Nat→Prop),fr.clean=⟨14,[bu fr 0,bu fr 1,.int .i32 r,bu fr 3,.ptr k4 0 0,.ptr k5 0 0,bu fr 6,bu fr 7,.ptr k8 0 0,.ptr k9 0 0,.int .i64 (k:Nat),bu fr 11,bu fr 12,bu fr 13],[]⟩∧Has s0.bs.length S st [.deep ks y 12 (((da p.code pl r (au p) L).take k).map gH),.box k9 (.mem 0 false [.int .i64 ((pl+di n:Nat):Nat),y]),.box k8 (.mem 0 false [.int .i64 0,.nul]),.box k5 (.mem 0 false [.int .i64 (pl:Nat),dB L]),.box k4 (.mem 0 false [p.cd,p.sd])]∧(k+mm=L.length)) (L.length) ?_ ?_
 ·exact⟨0,.nul,_,rfl,hH,by omega⟩
 rintro mm fr st ⟨k,y,ks,hfr,hH,hk⟩;rw[hfr];clear hfr;generalize bu fr=ee;clear fr;refine qq<|qq<|qj fun K hK=>qm ?_;refine qp (o:=1) ?_;refine ql hH eQ ?_;refine qn ?_;simp only[List.length_map];refine qg ?_;refine qe hK ?_;refine ab.cond (by rfl) (fun hlt=>?_) (fun hlt=>?_)<;>try simp only[decide_eq_true_eq,decide_eq_false_iff_not] at hlt
 ·refine ab.skip ?_;have gi:k<L.length:=by omega
  obtain⟨mo,rfl⟩:∃mo,mm=mo+1:=⟨mm-1,by omega⟩
  obtain⟨l,hl⟩:∃l,L[k]?=some l:=⟨L[k]'gi,List.getElem?_eq_getElem _⟩
  obtain⟨start,Dv,gf,aae⟩:=ox hR (i:=k) (by omega);have aah:=eO Dv;have gJ:=yg hl;have u9:=bc l (List.mem_of_getElem? hl);have hge:=lZ p.code pl r (au p) L k start l gf hl;have nu:(((da p.code pl r (au p) L).take k).map gH).length≤1048576:=by rw[List.length_map,List.length_take];omega
  obtain⟨hb1,hb2⟩:=nz (code:=p.code) (pl:=pl) (e:=false) (l:=l.cT) (dn:=l.dn) (a7:=l.a7);obtain⟨_,aK,rd,rfl,yH⟩:=hex st l u9;unfold fP at hge;generalize kH p.code pl false l.cT (jv p.code.length l.dn l.a7)=W at*;have aaj:=yH.arg s0.bs.length S;generalize hB:((da p.code pl r (au p) L).take k).map gH=B at*;refine qq<|ab.block<|qq<|qj fun K hK=>?_;refine aa.aT (m:=2) hH rfl (ev rfl) (by exact gO) (by dsimp only[List.drop_succ_cons,List.drop_zero,List.take_succ_cons,List.take_zero,aH,aN,aU,aF,gH,ay,Pg.cs]<;>rfl) rfl rfl (ah rfl _) ?_;refine qp (o:=1) ?_;refine ql hH eQ ?_;refine qm ?_;refine qr fun UQ Ld=>?_;refine aa.db rfl (ev rfl) (by assumption) rfl (ah rfl _) ?_;refine qp (o:=0) ?_;refine ql hH eQ ?_;refine qv aK ?_;refine qm ?_;refine qg ?_;refine qg ?_;refine qa hH fun k11 st Qv hH=>?_;refine qS hH aB fun st hH=>?_;dsimp only[u2,u1,u3,u4,setMany,u5,u6,D.cells,Nat.reduceAdd,aH,aN,aU,aF,gH,ay,Pg.cs] at hH;refine qm ?_;refine qe hK ?_;have hH:=hH.d_ 11;refine qq<|qq<|qj fun K hK=>qm ?_;refine qe hK ?_
  obtain⟨A0,hA⟩:∃A,fU p.code r W.rdy []=A:=⟨_,rfl⟩
  rw[hA] at hge;refine ab.block<|ab.loop (fun mm fr st=>∃(j:Nat) (acc rest:List iO) (td:D),fr.clean=⟨14,[bu fr 0,bu fr 1,.int .i32 r,bu fr 3,.ptr k4 0 0,.ptr k5 0 0,bu fr 6,bu fr 7,.ptr k8 0 0,.ptr k9 0 0,.int .i64 (k:Nat),.ptr k11 0 0,rd,.int .i64 (j:Nat)],[]⟩∧Has s0.bs.length S st [.aP td 11 (acc.map aN),.box k11 (.mem 0 false (aU W.dn W.a7 td)),.deep ks y 12 B,.box k9 (.mem 0 false [.int .i64 ((pl+di n:Nat):Nat),y]),.box k8 (.mem 0 false [.int .i64 0,.nul]),.box k5 (.mem 0 false [.int .i64 (pl:Nat),dB L]),.box k4 (.mem 0 false [p.cd,p.sd])]∧(j+mm=W.rdy.length)∧(rest=W.rdy.drop j)∧(fU p.code r rest acc=A0)∧(acc.length≤j)) (W.rdy.length) ?_ ?_
  ·exact⟨0,[],W.rdy,.nul,rfl,hH,by omega,rfl,hA,by simp⟩
  rintro mm fr st ⟨j,acc,rest,td,hfr,hH,hj,ku,hY,hal⟩;rw[hfr];clear hfr;generalize bu fr=ee;clear fr;refine qq<|qq<|qj fun K hK=>qm ?_;refine qm ?_;refine qn ?_;simp only[List.length_map];refine qg ?_;refine qe hK ?_;refine ab.cond (by rfl) (fun Tb=>?_) (fun Tb=>?_)<;>try simp only[decide_eq_true_eq,decide_eq_false_iff_not] at Tb
  ·refine ab.skip ?_;have jq:j<W.rdy.length:=by omega
   obtain⟨t,ht⟩:∃t,W.rdy[j]?=some t:=⟨W.rdy[j]'jq,List.getElem?_eq_getElem _⟩
   have La:=lx ht;obtain⟨ii,hii,Rz⟩:=hb2 t (List.mem_of_getElem? ht);have L4:=pU hR ⟨ii,hii,Rz⟩;have o3:=gD hii;have Mf:=hp.i ii (List.mem_of_getElem? hii);have DB:=Mf.1;have DC:=DB.arg s0.bs.length S;have V_:=Mf.2;have hcl:=hR.cl
   have q_:rest=t::W.rdy.drop (j+1):=by
    rw[ku,List.drop_eq_getElem_cons jq]
    congr 1
    exact Option.some.inj ((List.getElem?_eq_getElem _).symm.trans ht)
   rw[q_] at hY;have P8:vC p.code t.pc=ii.rs:=by unfold vC;rw[hii]
   unfold fU at hY;rw[P8] at hY;refine qq<|ab.block<|qq<|qj fun K hK=>qp (o:=0) ?_;refine ql hH RE ?_;refine qm ?_;refine qm ?_;refine qr fun p52 Wq=>?_;refine qf (fo:=0) fun p53 aaz=>?_;refine qR ?_;refine qr fun p55 Wp=>?_;refine qf (fo:=3) fun p56 Wo=>?_;refine qR ?_;refine qm ?_;refine qv (AW (DC.rows hH) (by omega)) ?_;refine qe hK ?_
   cases hh:jN ii.rs r with
   |false=>
    rw[hh,if_neg (by decide)] at hY;refine qC ?_;refine ab.skip<|qj fun K hK=>qm ?_;refine qA ?_;refine qm ?_;refine qe hK ?_;exact⟨mm-1,by omega,⟨j+1,acc,W.rdy.drop (j+1),td,rfl,hH,by omega,rfl,hY,by omega⟩⟩
   |true=>
    rw[hh,if_pos rfl] at hY;refine qB ?_;have aa9:=rM acc ⟨t.pc+1,t.c⟩;refine qj fun K hK=>qp (o:=11) ?_;refine ql hH bF ?_;refine qm ?_;refine qm ?_;refine qr fun Y1 SV=>?_;refine qf (fo:=0) fun p65 Wm=>?_;refine qR ?_;refine qA ?_;refine qm ?_;refine qm ?_;refine qr fun p70 aar=>?_;refine qf (fo:=1) fun p71 aaq=>?_;refine qR ?_;refine aa.go (d:=.agg (aN ⟨t.pc+1,t.c⟩)) (st1:=_) rfl rfl rfl (ah rfl _) ?_;obtain⟨Vj,st,aK,hH⟩:=CE (t:=⟨t.pc+1,t.c⟩) hF (by omega) hH;refine qv aK ?_;refine qp (o:=11) ?_;refine qT hH bF (fun st hH=>?_) (h_:=hH.eK aB);dsimp only[u2,u1,u3,u4,setMany,u5,u6,D.cells,Nat.reduceAdd,aH,aN,aU,aF,gH,ay,Pg.cs] at hH;refine qe hK<|qj fun K hK=>qm ?_;refine qA ?_;refine qm ?_;refine qe hK ?_;exact⟨mm-1,by omega,⟨j+1,kD acc ⟨t.pc+1,t.c⟩,W.rdy.drop (j+1),Vj,rfl,hH,by omega,rfl,hY,by omega⟩⟩
  ·refine ab.exit ?_;have uz:rest=[]:=by rw[ku,List.drop_eq_nil_iff];omega
   subst uz;have hY:acc=A0:=hY;subst hY;clear hA ku;refine qq<|qq<|ab.j8 (fun fr st=>∃(cT:List iO) (td:D) (tmp:List (Nat×D)),fr=⟨14,[bu fr 0,bu fr 1,.int .i32 r,bu fr 3,.ptr k4 0 0,.ptr k5 0 0,bu fr 6,bu fr 7,.ptr k8 0 0,.ptr k9 0 0,.int .i64 (k:Nat),.ptr k11 0 0,bu fr 12,bu fr 13],tmp⟩∧Has s0.bs.length S st [.aP td 11 (cT.map aN),.box k11 (.mem 0 false (aU W.dn W.a7 td)),.deep ks y 12 B,.box k9 (.mem 0 false [.int .i64 ((pl+di n:Nat):Nat),y]),.box k8 (.mem 0 false [.int .i64 0,.nul]),.box k5 (.mem 0 false [.int .i64 (pl:Nat),dB L]),.box k4 (.mem 0 false [p.cd,p.sd])]∧(cT=(if W.dn=true then acc else kD acc ⟨start,b4⟩))) ?_ ?_
   ·refine qj fun K hK=>qp (o:=0) ?_;refine ql hH bF ?_;refine qg ?_;refine qe hK ?_
    cases TB:W.dn with
    |true=>
     rw[TB] at hH;refine qC ?_;refine ab.skip ?_;exact⟨acc,td,_,rfl,hH,rfl⟩
    |false=>
     rw[TB] at hH;refine qB ?_;refine qj fun K hK=>qp (o:=11) ?_;refine ql hH bF ?_;refine qp (o:=1) ?_;refine ql hH RE ?_;refine qm ?_;refine qr fun p84 Wi=>?_;refine qR ?_;refine qv (dE _) ?_;refine aa.go (d:=.agg (aN ⟨start,b4⟩)) (st1:=_) rfl rfl rfl (ah rfl _) ?_;obtain⟨Vj,st,aK,hH⟩:=CE (t:=⟨start,b4⟩) hF (by have:=hR.cl;omega) hH;refine qv aK ?_;refine qp (o:=11) ?_;refine qT hH bF (fun st hH=>?_) (h_:=hH.eK aB);dsimp only[u2,u1,u3,u4,setMany,u5,u6,D.cells,Nat.reduceAdd,aH,aN,aU,aF,gH,ay,Pg.cs] at hH;refine qe hK ?_;exact⟨kD acc ⟨start,b4⟩,Vj,_,rfl,hH,by rw[if_neg (by decide)]⟩
   ·rintro fr st ⟨cT,td,tmp,hfr,hH,PZ⟩;rw[hfr];clear hfr;generalize bu fr=ee;clear fr;refine qj fun K hK=>qp (o:=1) ?_;refine ql hH eQ ?_;refine aa.aT (m:=12) hH rfl (ev rfl) (by exact bF) (by dsimp only[List.drop_succ_cons,List.drop_zero,List.take_succ_cons,List.take_zero,aH,aN,aU,aF,gH,ay,Pg.cs]<;>rfl) rfl rfl (ah rfl _) ?_;refine qh (s:=12) (vs:=[_]) hH fun k93 st aaJ hH=>?_;dsimp only[u2,u1,u3,u4,setMany,u5,u6,D.cells,Nat.reduceAdd,aH,aN,aU,aF,gH,ay,Pg.cs] at hH;obtain⟨hH,Ln⟩:=hH.rO (i:=1) (j:=3) (by decide) bF eQ (ij _);dsimp only[u1,u2] at hH;refine aa.kj hH rfl rfl rfl eQ (hH.rows aB) (.cons (uO (dn:=W.dn) (f:=W.a7) Ln) .nil) rfl rfl rfl rfl rfl rfl rfl ⟨(Nat.le_of_ble_eq_true rfl),(Nat.le_of_ble_eq_true rfl)⟩ (fun _=>(ah rfl _)) (by show _+1≤_;omega) (.inl hF) (fun Z8 st hH=>?_);dsimp only[u1,u2] at hH;refine qp (o:=1) ?_;refine aa.k_ hH rfl (ev rfl) (ev rfl) (by exact hH.og (by exact eQ)) (by exact rfl) (by exact gO) (by exact Nat.le_of_ble_eq_true rfl) (by exact .inl hF) (fun st hH=>?_);dsimp only[u2,u1,u3,u4,setMany,u5,u6,D.cells,Nat.reduceAdd,aH,aN,aU,aF,gH,ay,Pg.cs] at hH;refine qe hK<|qj fun K hK=>qm ?_;refine qA ?_;refine qm ?_;refine qe hK ?_;rw[PZ] at hH;exact⟨mo,by omega,⟨k+1,Z8,_,rfl,(by rw[List.take_add_one,hge,Option.toList_some,List.map_append,hB];exact hH.drop 3),by omega⟩⟩
 ·refine ab.exit<|qq<|qj fun K hK=>?_;refine aa.aT (m:=2) hH rfl (ev rfl) (by exact bF) (by dsimp only[List.drop_succ_cons,List.drop_zero,List.take_succ_cons,List.take_zero,aH,aN,aU,aF,gH,ay,Pg.cs]<;>rfl) rfl rfl (ah rfl _) ?_;refine qS hH dL fun st hH=>?_;dsimp only[u2,u1,u3,u4,setMany,u5,u6,D.cells,Nat.reduceAdd,aH,aN,aU,aF,gH,ay,Pg.cs] at hH;refine qe hK ?_;have gi:k=L.length:=by omega
  have ml:(da p.code pl r (au p) L).take k=da p.code pl r (au p) L:=by
   rw[List.take_of_length_le];rw[fq _ _ _ _ _ ec];omega
  rw[ml] at hH;have h1:=hH.jO aB (n:=14) (by decide)
  have h3:aY st s0.bs.length false 16 (.agg [.int .i64 ((pl+di n:Nat):Nat),y])=some (iY (pl+di n) (da p.code pl r (au p) L)):=by
   show(eN (aY st s0.bs.length false 15) [.int .i64 ((pl+di n:Nat):Nat),y]).map D.agg=_;simp only[eN,h1]
   rfl
  refine ab.ret ⟨rx,_,hH.j5 rfl dL rfl,rl bT hH h3⟩
open Go.V Go Go.RowKit
theorem pC (code:List aO) (pl:Nat) (e:Bool):∀(f:Nat) (w:Wk) (t:iO),bU (code.map dK) pl e f w t=bU code pl e f w t
 |0,_,_=>rfl
 |f+1,w,t=>by
  unfold bU;simp only[pC code pl e f,List.getElem?_map]
  cases code[t.pc]? with
  |none=>rfl
  |some i=>rfl
theorem rn (code:List aO) (pl:Nat) (e:Bool):∀(l:List iO) (w:Wk),kH (code.map dK) pl e l w=kH code pl e l w
 |[],_=>rfl
 |t::ts,w=>by
  unfold kH;simp only[pC,List.length_map,rn code pl e ts]
theorem AL (code:List aO) (k:Nat):vC (code.map dK) k=vC code k:=by
 unfold vC;rw[List.getElem?_map];cases code[k]?<;>rfl
theorem qG (code:List aO) (r:Int):∀(l a:List iO),fU (code.map dK) r l a=fU code r l a
 |[],_=>rfl
 |t::ts,a=>by unfold fU;simp only[AL,qG code r ts]
theorem xH (code:List aO) (pl s:Nat) (r:Int) (l:PL):fP (code.map dK) pl s r l=fP code pl s r l:=by
 unfold fP;simp only[rn,qG,List.length_map]
theorem ow (code:List aO) (pl:Nat) (r:Int):∀(ss:List Nat) (ls:List PL),da (code.map dK) pl r ss ls=da code pl r ss ls
 |[],_=>rfl
 |_::_,[]=>rfl
 |s::ss,l::ls=>by simp only[da,xH,ow code pl r ss ls]
theorem BG (code:List aO) (pl:Nat):iU (code.map dK) pl=iU code pl:=by
 funext l;unfold iU;simp only[rn,List.length_map]
theorem rP.au {p q:Pg} (h:rP p q):au q=au p:=by unfold Go.Proofs.YtbdnabmmlbiomaaGreat.au;rw[h.aw]
theorem jx {p:Pg} (hR:bz p) {pl:Nat} {r:Int}:∀{ss:List Nat} {ls:List PL},(∀s∈ss,s<p.code.length)→∀l∈da p.code pl r ss ls,l.ok p.code.length
 |[],_,_,l,hl=>by cases hl
 |_::_,[],_,l,hl=>by cases hl
 |s::ss,x::ls,hs,l,hl=>by
  simp only[da,List.mem_cons] at hl
  rcases hl with rfl|hl
  ·exact Ch hR (hs s (List.mem_cons_self ..))
  ·exact jx hR (fun s h=>hs s (List.mem_cons_of_mem _ h)) l hl
theorem jV {p:Pg} (hR:bz p):∀s∈au p,s<p.code.length:=by
 intro s hs;obtain⟨v,hv,rfl⟩:=List.mem_map.1 hs;have:=hR.st v hv;omega
theorem rD {x y:Oper} {fi fj:Fr} {si pe sj EH:St} {a:Operand} {k az off v:Nat} {ar:Bool} {c:List D} (hy:gG y.op=some a) (ha:fj.ev a=.ptr k az off) (h1:si.bs[k]?=some (.mem v ar c)) (h2:pe.bs[k]?=some (.mem v ar c)):iA x fi si pe y fj sj EH=true:=by
 unfold iA;simp only[hy,ha,D.mh];exact nC h1 h2
def eU (ks kv:Nat) (p:Pg) (pl:Nat) (ld pd qd:D) (P Q:List Nat) (L:List VL):List bt:=
 .box kv (.mem 0 false [p.cd,p.sd,.int .i64 (pl:Nat),ld,.ptr ks 0 0])::.box ks (.mem 0 false [pd,qd])::.aP pd 1 (P.map fT)::.aP qd 2 (Q.map mM)::.aP ld 12 (L.map fp)::L.map nA
theorem sP {A:List bt} {N:Nat} {S st:St} {ks kv:Nat} {p:Pg} {pl:Nat} {ld:D} {L:List VL} {H:List bt} (h:MH A N S st ks kv p pl ld L H):∃pd qd P Q sn,Has N S st (A++(eU ks kv p pl ld pd qd P Q L++H))∧cV P Q sn∧sn.length=p.code.length:=by
 obtain⟨pd,qd,P,Q,sn,hH,h1,h2⟩:=h;exact⟨pd,qd,P,Q,sn,by simpa only[eU,List.cons_append] using hH,h1,h2⟩
theorem zQ {A:List bt} {N:Nat} {S st:St} {ks kv:Nat} {p:Pg} {pl:Nat} {ld:D} {L:List VL} {H:List bt} {pd qd:D} {P Q:List Nat} {sn:List Bool} (hH:Has N S st (A++(eU ks kv p pl ld pd qd P Q L++H))) (h1:cV P Q sn) (h2:sn.length=p.code.length):MH A N S st ks kv p pl ld L H:=
 ⟨pd,qd,P,Q,sn,by simpa only[eU,List.cons_append] using hH,h1,h2⟩
def MM (A:List bt) (N:Nat) (S st:St) (ks kv:Nat) (p:Pg) (pl:Nat) (ld:D) (L:List VL) (oW pt:Nat) (p2:Pg) (zI:Nat) (uY:D) (L2:List VL):Prop:=
 ∃pd qd P Q sn EM EK P2 Q2 Mq,Has N S st (A++(eU ks kv p pl ld pd qd P Q L++eU oW pt p2 zI uY EM EK P2 Q2 L2))∧cV P Q sn∧sn.length=p.code.length∧cV P2 Q2 Mq∧Mq.length=p2.code.length
section
variable{A:List bt} {N:Nat} {S st:St} {ks kv oW pt:Nat} {p p2:Pg} {pl zI:Nat} {ld uY:D} {L L2:List VL}
theorem MM.one (h:MM A N S st ks kv p pl ld L oW pt p2 zI uY L2):∃H,MH [] N S st ks kv p pl ld L H∧∀(B:List bt) (ai:St) (lS:Nat) (yz:D) (L':List VL),MH B N S ai ks kv p lS yz L' H→MM (B++A) N S ai ks kv p lS yz L' oW pt p2 zI uY L2:=by
 obtain⟨pd,qd,P,Q,sn,EM,EK,P2,Q2,Mq,hH,h1,h2,h3,h4⟩:=h
 refine⟨eU oW pt p2 zI uY EM EK P2 Q2 L2++A,zQ (by
  have a:=Has.kE A (eU ks kv p pl ld pd qd P Q L++eU oW pt p2 zI uY EM EK P2 Q2 L2) (H:=[]) (by rw[List.append_nil];exact hH);rw[List.append_nil,List.append_assoc] at a
  exact a) h1 h2,fun B ai lS yz L' hM=>?_⟩
 obtain⟨EN,EL,P',Q',Vl,hH',TT,RD⟩:=sP hM;refine⟨EN,EL,P',Q',Vl,EM,EK,P2,Q2,Mq,?_,TT,RD,h3,h4⟩
 have a:=Has.kE (B++(eU ks kv p lS yz EN EL P' Q' L'++eU oW pt p2 zI uY EM EK P2 Q2 L2)) A (H:=[]) (by rw[List.append_nil];simpa only[List.append_assoc] using hH');have b:Has N S ai (A++(B++((eU ks kv p lS yz EN EL P' Q' L'++eU oW pt p2 zI uY EM EK P2 Q2 L2)++[]))):=by simpa only[List.append_assoc] using a
 have c:=Has.kE _ _ b;rw[List.append_nil] at c
 simpa only[List.append_assoc] using c
theorem MM.drop (n:Nat) (h:MM A N S st ks kv p pl ld L oW pt p2 zI uY L2) (hn:n≤A.length):MM (A.drop n) N S st ks kv p pl ld L oW pt p2 zI uY L2:=by
 obtain⟨pd,qd,P,Q,sn,EM,EK,P2,Q2,Mq,hH,h1,h2,h3,h4⟩:=h;refine⟨pd,qd,P,Q,sn,EM,EK,P2,Q2,Mq,?_,h1,h2,h3,h4⟩;have:=hH.drop n
 rwa [List.drop_append_of_le_length hn] at this
theorem MM.has (h:MM A N S st ks kv p pl ld L oW pt p2 zI uY L2):Has N S st A:=by
 obtain⟨pd,qd,P,Q,sn,EM,EK,P2,Q2,Mq,hH,_⟩:=h;have:=hH.take A.length
 rwa [List.take_left] at this
theorem MM.made {pd qd:D} {P Q:List Nat} {sn:List Bool} (h:MH [] N S st ks kv p pl ld L (eU oW pt p2 zI uY pd qd P Q L2++A)) (h1:cV P Q sn) (h2:sn.length=p2.code.length):MM A N S st ks kv p pl ld L oW pt p2 zI uY L2:=by
 obtain⟨EN,EL,P',Q',Vl,hH,h3,h4⟩:=sP h;refine⟨EN,EL,P',Q',Vl,pd,qd,P,Q,sn,?_,h3,h4,h1,h2⟩;have a:=Has.kE (eU ks kv p pl ld EN EL P' Q' L++eU oW pt p2 zI uY pd qd P Q L2) A (H:=[]) (by rw[List.append_nil];simpa only[List.nil_append,List.append_assoc] using hH)
 rwa [List.append_nil] at a
end
end Go.Proofs.YtbdnabmmlbiomaaGreat
namespace Go.Proofs.YtbdnabmmlbiomaaGreat
open Go.V Go
def nW (fr:Go.V.Fr) (k:Nat):Go.V.D:=Go.V.nth .bp fr.loc k
theorem Has.over {N:Nat} {S st ai:St} {H H2:List bt} (h:Has N S st H) (h2:Has st.bs.length st ai H2):Has N S ai (H2++H):=by
 have hN:=h.hN;have hl:=h.ex.len;have kG:=h2.ex.len;refine⟨⟨fun k hk=>?_,by omega,h2.ex.flr.trans h.ex.flr,h2.ex.ro.trans h.ex.ro⟩,hN,h.dX,fun i e hi=>?_,fun i j a b hij ha hb k rT iF=>?_⟩
 ·rw[h2.ex.low k (by omega)];exact h.ex.low k hk
 ·by_cases hlt:i<H2.length
  ·rw[List.getElem?_append_left hlt] at hi;obtain⟨h3,h4⟩:=h2.ok i e hi;exact⟨h3,fun k hk=>⟨by have:=(h4 k hk).1;omega,(h4 k hk).2⟩⟩
  ·rw[List.getElem?_append_right (by omega)] at hi;obtain⟨h3,h4⟩:=h.ok _ e hi;exact⟨e.loc (fun k hk=>h2.ex.low k (h4 k hk).2) h3,fun k hk=>⟨(h4 k hk).1,by have:=(h4 k hk).2;omega⟩⟩
 ·by_cases h1:i<H2.length<;>by_cases h3:j<H2.length
  ·rw[List.getElem?_append_left h1] at ha;rw[List.getElem?_append_left h3] at hb;exact h2.dis i j a b hij ha hb k rT iF
  ·rw[List.getElem?_append_left h1] at ha;rw[List.getElem?_append_right (by omega)] at hb;have:=((h2.ok _ a ha).2 k rT).1;have:=((h.ok _ b hb).2 k iF).2;omega
  ·rw[List.getElem?_append_right (by omega)] at ha;rw[List.getElem?_append_left h3] at hb;have:=((h2.ok _ b hb).2 k iF).1;have:=((h.ok _ a ha).2 k rT).2;omega
  ·rw[List.getElem?_append_right (by omega)] at ha hb;exact h.dis _ _ a b (by omega) ha hb k rT iF
theorem y5 {N:Nat} {S s0:St} {H:List bt} {x:D} {L:List VL} (hF:S.flr≤N) (sa:L.length≤1000) (hx:Arg N S 12 x (L.map fp)) (ht:∀l∈L,Arg N S 11 l.td (l.cT.map aN)∧l.cT.length≤1000) (hH:Has N S s0 H):
  ∃d ai,Ev pv 57 [x] s0 d ai∧∃L':List VL,L'.map VL.pl=L.map VL.pl∧Has N S ai (.aP d 12 (L'.map fp)::(L'.map nA++H)):=by
 refine Ev.il rfl TX rfl rfl rfl ?_;dsimp only[u3,u4,List.length,Nat.reduceSub,Nat.reduceAdd,w1,w2];change ab _ _ _ _ s0 _;refine qq<|qj fun K hK=>qm ?_;refine qe hK<|qq<|qj fun K hK=>qm ?_;refine qe hK<|qq<|qq<|qj fun K hK=>qm ?_;refine qn ?_;simp only[List.length_map];refine qm ?_;refine qe hK<|ab.block<|ab.loop (fun mm fr st=>∃(i:Nat) (y:D) (M:List VL),fr.clean=⟨9,[nW fr 0,nW fr 1,nW fr 2,y,nW fr 4,nW fr 5,x,.int .i64 (L.length:Nat),.int .i64 (i:Nat)],[]⟩∧Has N S st (.aP y 12 (M.map fp)::(M.map nA++H))∧(i+mm=L.length)∧(M.map VL.pl=(L.take i).map VL.pl)) (L.length) ?_ ?_
 ·exact⟨0,.nul,[],rfl,(hH.d_ 12),by omega,rfl⟩
 rintro mm fr st ⟨i,y,M,hfr,hH,hi,hM⟩;rw[hfr];clear hfr;generalize nW fr=ee;clear fr
 have hMl:M.length=i:=by
  have:=congrArg List.length hM;rw[List.length_map,List.length_map,List.length_take] at this;omega
 refine qq<|qj fun K hK=>qg ?_;refine qe hK<|qq ?_;refine ab.cond (by rfl) (fun hlt=>?_) (fun hlt=>?_)<;>try simp only[decide_eq_true_eq,decide_eq_false_iff_not] at hlt
 ·refine ab.skip ?_;have hil:i<L.length:=by omega
  obtain⟨l,hl⟩:∃l,L[i]?=some l:=⟨L[i]'hil,List.getElem?_eq_getElem _⟩
  obtain⟨V1,nu⟩:=ht l (List.mem_of_getElem? hl);have gJ:=tC hl;refine qq<|ab.block<|qq<|qj fun K hK=>qr fun Sc DH=>?_;refine aa.db rfl (ev rfl) (by assumption) rfl (ah rfl _) ?_;refine qa hH fun k5 st Aa hH=>?_;refine qS hH aB fun st hH=>?_;dsimp only[u2,u1,u3,u4,setMany,u5,u6,D.cells,Nat.reduceAdd,aH,aN,aU,aF,fp,gH] at hH;refine qe hK ?_;have hH:=hH.d_ 11;refine qq<|qj fun K hK=>qp (o:=11) ?_;refine ql hH bF ?_;refine aa.bO (s:=11) hH rfl (ev rfl) (ev rfl) (by exact aB) (by exact Arg.rows (by assumption) hH) rfl rfl rfl rfl rfl rfl rfl ⟨(Nat.le_of_ble_eq_true rfl),(Nat.le_of_ble_eq_true rfl)⟩ (fun _=>(ah rfl _)) (by simp only[List.length_nil,List.length_map]<;>omega) (by exact .inl hF) (fun YL st hH=>?_);dsimp only[u2,u1,u3,u4,setMany,u5,u6,D.cells,Nat.reduceAdd,aH,aN,aU,aF,fp,gH] at hH;refine qp (o:=11) ?_;refine qT hH bF (fun st hH=>?_) (h_:=hH.eK aB);dsimp only[u2,u1,u3,u4,setMany,u5,u6,D.cells,Nat.reduceAdd,aH,aN,aU,aF,fp,gH] at hH;refine qe hK<|qj fun K hK=>qm ?_;refine aa.aT (m:=12) hH rfl (ev rfl) (by exact bF) (by dsimp only[List.drop_succ_cons,List.drop_zero,List.take_succ_cons,List.take_zero,aH,aN,aU,aF,fp,gH]<;>rfl) rfl rfl (ah rfl _) ?_;refine qh (s:=12) (vs:=[_]) hH fun k18 st WU hH=>?_;refine aa.bO (s:=12) hH rfl (ev rfl) (ev rfl) (by exact eQ) (by exact hH.rows (by exact aB)) rfl rfl rfl rfl rfl rfl rfl ⟨(Nat.le_of_ble_eq_true rfl),(Nat.le_of_ble_eq_true rfl)⟩ (fun _=>(ah rfl _)) (by simp only[List.length_cons,List.length_nil,List.length_map]<;>omega) (by exact .inl hF) (fun Rf st hH=>?_);dsimp only[u2,u1,u3,u4,setMany,u5,u6,D.cells,Nat.reduceAdd,aH,aN,aU,aF,fp,gH] at hH;refine qm ?_;refine qe hK<|qj fun K hK=>qA ?_;refine qm ?_;refine qe hK ?_;have hH:=(hH.drop 1).erase 1;have hH:=Has.kE [_] (_::M.map nA) hH;refine⟨mm-1,by omega,⟨i+1,Rf,M++[⟨l.dn,l.a7,YL,l.cT⟩],rfl,?_,by omega,?_⟩⟩
  ·rw[List.map_append,List.map_append,List.append_assoc];exact hH
  ·rw[List.map_append,hM,List.take_add_one,hl,Option.toList_some,List.map_append];rfl
 ·refine ab.exit ?_;have hil:i=L.length:=by omega
  refine qq<|qj fun K hK=>qm ?_;refine qm ?_;refine qe hK<|ab.ret ⟨rx,_,_,_,rfl,rfl,?_⟩;rw[List.take_of_length_le (by omega)] at hM;exact⟨M,hM,hH⟩
theorem E4 {N ks kv:Nat} {S s0:St} {H:List bt} {p:Pg} {pl:Nat} {ld:D} {L:List VL} (hF:S.flr≤N) (hp:p.ok) (hR:bz p) (hA:AM N S kv ks p pl ld L) (hH:Has N S s0 H):
  ∃r ai,Ev pv 116 [.ptr kv 0 0] s0 r ai∧∃pt oW,r=.ptr pt 0 0∧MH [] N S ai oW pt p 0 .nul [] H:=by
 have hcl:=hR.cl;have hc:=hp.c.arg N S;refine Ev.il rfl Ut rfl rfl rfl ?_;dsimp only[u3,u4,List.length,Nat.reduceSub,Nat.reduceAdd,w1,w2];change ab _ _ _ _ s0 _;refine qq<|qj fun K hK=>qm ?_;refine qe hK ?_;have Rr:=hA.to hH 0;refine qq<|qj fun K hK=>qm ?_;refine qg ?_;refine qp (o:=0) ?_;refine qp (o:=0) ?_;refine qR ?_;refine qn ?_;simp only[List.length_map];obtain⟨_,st,aK,oW,rfl,pd,qd,P,Q,hH,bc⟩:=sB (n:=p.code.length) hF (by omega) hH;refine qv aK ?_;refine qm ?_;refine qg ?_;refine qg ?_;refine qm ?_;refine qm ?_;refine qe hK ?_;have Rr:=hA.to hH 0;refine qq<|qj fun K hK=>qm ?_;refine qg ?_;refine qp (o:=0) ?_;refine aa.Cu (d:=.agg [p.cd,p.sd]) rfl (ev rfl) Rr rfl (ah rfl _) ?_;refine qm ?_;refine aa.go (d:=.agg [p.cd,p.sd,.int .i64 0,.nul,.ptr oW 0 0]) (st1:=_) rfl rfl rfl (ah rfl _) ?_;refine qb hH fun k21 st aa5 hH=>?_;refine qm ?_;refine qe hK<|ab.ret ⟨rx,_,_,_,rfl,rfl,?_⟩;exact⟨k21,oW,rfl,pd,qd,P,Q,_,Has.kE [_] [_,_,_,_] (hH.d_ 12),bc,by rw[List.length_replicate]⟩
theorem LQ {N ks kv:Nat} {S s0:St} {H:List bt} {p:Pg} {pl:Nat} {ld:D} {L:List VL} (hF:S.flr≤N) (hp:p.ok) (hR:bz p) (sa:L.length≤1000) (z6:∀l∈L,l.cT.length≤1000) (hA:AM N S kv ks p pl ld L) (hH:Has N S s0 H):
  ∃r ai,Ev pv 79 [.ptr kv 0 0] s0 r ai∧∃pt oW uY L2,r=.ptr pt 0 0∧L2.map VL.pl=L.map VL.pl∧MH [] N S ai oW pt p pl uY L2 H:=by
 obtain⟨_,st,aK,pt,oW,rfl,pd,qd,P,Q,sn,hH,bc,ec⟩:=E4 hF hp hR hA hH;dsimp only[u3,u4,u6] at hH;refine Ev.il rfl XM rfl rfl rfl ?_;dsimp only[u3,u4,List.length,Nat.reduceSub,Nat.reduceAdd,w1,w2];change ab _ _ _ _ s0 _;refine qq<|qj fun K hK=>qm ?_;refine qe hK<|qq<|qj fun K hK=>qm ?_;refine qv aK ?_;refine qm ?_;refine qe hK ?_;have Lg:=hA.to hH 2;have hp3:=hA.to hH 3;have hb2:=hA.box hH;have DA:=hA.refs hp hH;change ab _ _ _ _ _ _;refine qq ?_;generalize hK:aI _ _ _ _=K;refine ab.oU rfl ?_;refine bL.cons ?_;refine qm ?_;refine aa.nil ⟨rfl,?_⟩;refine bL.cons ?_;refine qm ?_;refine aa.nil ⟨rfl,?_⟩;refine bL.cons ?_;refine qm ?_;refine aa.nil ⟨rfl,?_⟩;refine bL.cons ?_;refine qg ?_;refine aa.nil ⟨rfl,?_⟩;refine bL.cons ?_;refine qp (o:=2) ?_;refine aa.nil ⟨rfl,?_⟩;refine bL.cons ?_;refine qR ?_;refine aa.nil ⟨rfl,?_⟩;refine bL.cons ?_;refine qm ?_;refine aa.nil ⟨rfl,?_⟩;refine bL.cons ?_;refine qg ?_;refine aa.nil ⟨rfl,?_⟩;refine bL.cons ?_;refine qp (o:=3) ?_;refine aa.nil ⟨rfl,?_⟩;refine bL.cons ?_;refine qR ?_;refine aa.nil ⟨rfl,?_⟩;refine bL.cons ?_;obtain⟨_,st,aK,L2,Lt,hH⟩:=y5 hF sa hA.ld (fun l hl=>⟨hA.td l hl,z6 l hl⟩) hH;have hH:=Has.kE (_::L2.map nA) [_,_,_,_,_] hH;dsimp only[u3,u4] at hH;refine qv aK ?_;refine aa.nil ⟨by exact Bool.and_eq_true_iff.2 ⟨fJ rfl rfl rfl hb2 (hA.box hH) hb2 DA,rfl⟩,?_⟩;refine bL.cons ?_;refine qg ?_;refine aa.nil ⟨rfl,?_⟩;refine bL.cons ?_;refine qp (o:=2) ?_;refine aa.nil ⟨rfl,?_⟩;refine bL.cons ?_;refine qT hH aB fun st hH=>?_;dsimp only[u2,u1,u3,u4,setMany,u5,u6,D.cells,Nat.reduceAdd,Pg.cs,aH,ay] at hH;refine aa.nil ⟨rfl,?_⟩;refine bL.cons ?_;refine qg ?_;refine aa.nil ⟨rfl,?_⟩;refine bL.cons ?_;refine qp (o:=3) ?_;refine aa.nil ⟨rfl,?_⟩;refine bL.cons ?_;refine qT hH aB (fun st hH=>?_) (h_:=hH.eK rH);dsimp only[u2,u1,u3,u4,setMany,u5,u6,D.cells,Nat.reduceAdd,Pg.cs,aH,ay] at hH;refine aa.nil ⟨rfl,?_⟩;refine bL.nil ?_;subst hK;refine qq<|qj fun K hK=>qm ?_;refine qm ?_;refine qe hK<|ab.ret ⟨rx,_,_,_,rfl,rfl,?_⟩;exact⟨pt,oW,_,L2,rfl,Lt,pd,qd,P,Q,sn,hH.erase 4,bc,ec⟩
end Go.Proofs.YtbdnabmmlbiomaaGreat
namespace Go.Proofs.YtbdnabmmlbiomaaGreat
open Go.V Go
def ck (h j:List UInt8):List D:=(h++j).map dN++[.int .i64 (h.length:Nat)]
theorem mW {h j:List UInt8} (hl:(h++j).length=4):(ck h j).length=5:=by simp[ck] at hl⊢;omega
theorem lO {h j:List UInt8} (hl:(h++j).length=4):(ck h j).drop 4=[.int .i64 (h.length:Nat)]:=by
 unfold ck;have:((h++j).map dN).length=4:=by rw[List.length_map,hl]
 rw[←this,List.drop_left]
theorem om {st:St} {k v:Nat} {ar:Bool} {b:List UInt8} {rest:List D} (hm:st.bs[k]?=some (.mem v ar (b.map dN++rest))) {l r:Nat} (wN:l≤r) (hr:r≤b.length):Bytes st (.win k v l (r-l) 1) ((b.take r).drop l):=by
 have hlen:((b.take r).drop l).length=r-l:=by simp;omega
 have:=Rows.win (st:=st) (s:=1) k v l (byteCells ((b.take r).drop l)) ar (b.map dN++rest) (St.mem_of hm) (by rw[aG,hlen];simp;omega) fun i e hi=>by
  simp only[byteCells,List.getElem?_map] at hi;obtain⟨y,hy,rfl⟩:=Option.map_eq_some_iff.1 hi;rw[List.getElem?_drop,List.getElem?_take] at hy
  split at hy
  ·rename_i hlt;have hb:b[l+i*1]?=some y:=by rw[Nat.mul_one];exact hy
   have h2:(b.map dN++rest)[l+i*1]?=some (dN y):=by
    rw[List.getElem?_append_left (by rw[List.length_map];omega),List.getElem?_map,hb];rfl
   rw[List.take_one,List.head?_drop,h2];rfl
  ·cases hy
 rw[aG,hlen] at this;exact this
theorem Ly {st:St} {k v n:Nat} {h j:List UInt8} (hm:st.bs[k]?=some (.mem v false (ck h j))) (hl:(h++j).length=4) (hn:n≤h.length) (dX:st.ro≤k):
  Ev pv 114 [.ptr k v 0,.int .i64 (n:Nat)] st (.tup []) ⟨st.bs.set k (.mem v false (ck (h.drop n) ((h++j).drop (h.length-n)))),st.flr,st.ro⟩:=by
 refine Ev.iS rfl Uv rfl rfl rfl ?_;dsimp only[u3,u4,List.length,Nat.reduceSub,Nat.reduceAdd,w1,w2];have jM:(ag .rw st).bs[k]?=some (.mem v false (ck h j)):=hm
 have gi:k<st.bs.length:=by
  rcases Nat.lt_or_ge k st.bs.length with h'|h'
  ·exact h'
  ·rw[List.getElem?_eq_none h'] at hm;cases hm
 have kG:=hl;rw[List.length_append] at kG;have hcl:=mW hl;have pw:=lO hl;have oc:∀S:St,S.ro=st.ro→S.gz k 0=true:=fun S hS=>jR (by omega);refine qy ?_;(repeat refine qq ?_);(generalize hK:aI _ _ _ _=K);refine ab.br ?_
 (refine xT ?_)
 (refine xT ?_)
 (refine xT ?_)
 refine aa.jy (l:=0) (r:=4) rfl rfl rfl rfl rfl jM (by rw[hcl];decide) rfl ?_
 (refine xT ?_)
 (refine xT ?_)
 (refine xT ?_)
 (refine xT ?_)
 (refine xT ?_)
 (refine xT ?_)
 (refine xT ?_)
 refine aa.load (k:=k) (az:=v) (off:=4) rfl rfl rfl jM (d:=.int .i64 (h.length:Nat)) (by rw[pw];rfl)<|aa.jy (l:=n) (r:=h.length) rfl rfl rfl rfl rfl jM (by rw[hcl];decide) ?_ ?_
 ·show bK 4 (some (.int .i64 (n:Nat))) (some (.int .i64 (h.length:Nat)))=_;simp only[bK,dZ,f_];rw[if_pos ⟨by omega,by omega⟩];simp only[Option.bind_some];rw[if_pos ⟨by omega,by omega⟩];rfl
 have SI:=om (st:=ag .rw st) (l:=n) (r:=h.length) jM hn (by rw[hl];omega);rw[List.take_left] at SI;refine aa.copy (k:=k) (az:=v) (off:=0) (len:=4) (s:=1) (ys:=byteCells (h.drop n)) (ar:=false) (c:=ck h j) rfl rfl rfl (by show D.win k v (0+n*1) (h.length-n) 1=D.win k v n (h.length-n) 1;congr 1;omega) SI rfl rfl jM (by rw[hcl];decide) ?_ ?_
 ·rw[cn]
  have:∀(b:List UInt8) m,refs ((b.map dN).take m)=0:=by
   intro b m
   induction b generalizing m with
   |nil=>simp[refs]
   |cons y b ih=>cases m with
    |zero=>simp[refs]
    |succ m=>simp only[List.map_cons,List.take_succ_cons,refs,ih];rfl
  rw[this];exact oc _ rfl
 have Bw:(ck h j).take 0++(byteCells (h.drop n)).flatten.take (min (byteCells (h.drop n)).length 4*1)++(ck h j).drop (0+min (byteCells (h.drop n)).length 4*1)=(h.drop n++(h++j).drop (h.length-n)).map dN++[.int .i64 (h.length:Nat)]:=by
  have e1:min (byteCells (h.drop n)).length 4*1=h.length-n:=by rw[aG,List.length_drop];omega
  rw[e1,cn,List.take_zero,List.nil_append,Nat.zero_add];have e2:((h.drop n).map dN).take (h.length-n)=(h.drop n).map dN:=List.take_of_length_le (by rw[List.length_map,List.length_drop];omega);rw[e2];unfold ck;rw[List.drop_append_of_le_length (by rw[List.length_map,hl];omega),←List.map_drop,List.map_append,List.append_assoc]
 rw[Bw];generalize Bq:(h++j).drop (h.length-n)=j';have WJ:(h.drop n++j').length=4:=by rw[←Bq,List.length_append,List.length_drop,List.length_drop,hl];omega
 refine aa.nil ?_;dsimp only[Fr.aj,Fr.put,Fr.clean,Fr.ev,Fr.get,nth,V.look,u1,u2,v1,v2,v3,v4,v5,v6,v7,List.length,u3,u4,Nat.reduceSub,Nat.reduceAdd,List.map];subst hK;refine qy ?_
 have yK:((ag .rw st).bs.set k (.mem v false ((h.drop n++j').map dN++[.int .i64 (h.length:Nat)])))[k]?=some (.mem v false ((h.drop n++j').map dN++[.int .i64 (h.length:Nat)])):=by
  rw[List.getElem?_set_self (by exact gi)]
 have lT:((h.drop n++j').map dN).length=4:=by rw[List.length_map,WJ]
 generalize hS:(⟨(ag .rw st).bs.set k (.mem v false ((h.drop n++j').map dN++[.int .i64 (h.length:Nat)])),(ag .rw st).flr,(ag .rw st).ro⟩:St)=S;have DK:S.bs[k]?=some (.mem v false ((h.drop n++j').map dN++[.int .i64 (h.length:Nat)])):=by subst hS;exact yK
 refine ab.br ?_
 (refine xT ?_)
 (refine xT ?_)
 (refine xT ?_)
 refine aa.load (k:=k) (az:=v) (off:=4) rfl rfl rfl DK (d:=.int .i64 (h.length:Nat)) (by rw[←lT,List.drop_left];rfl) ?_
 (refine xT ?_)
 (refine xT ?_)
 rw[wrap_i64 (by omega) (by omega)]
 (refine xT ?_)
 (refine xT ?_)
 refine aa.store (k:=k) (az:=v) (off:=4) (cs:=[.int .i64 ((h.length:Nat)-(n:Nat):Int)]) rfl rfl rfl rfl rfl DK (by rw[List.length_append,lT];exact Nat.le_refl _) (oc S (by subst hS;rfl))<|aa.nil ⟨fun i h=>(by cases h),[],rfl,qK ?_ rfl⟩;subst hS;simp only[ag,List.set_set];rw[List.take_of_length_le (by simp)]
 congr 2
 unfold ck;rw[List.take_left' lT,List.length_drop];have:(((h.drop n++j').map dN++[D.int .i64 (h.length:Nat)]).drop (4+[D.int .i64 ((h.length:Nat)-(n:Nat):Int)].length))=[]:=List.drop_eq_nil_of_le (by simp[lT];simp at lT;omega);have e4:((h.length:Nat):Int)-(n:Nat)=((h.length-n:Nat):Int):=by omega
 rw[this,List.append_nil,e4,Bq]
def de:Nat→List UInt8→List (Nat×Nat)×List UInt8
 |0,l=>([],l)
 |_+1,[]=>([],[])
 |f+1,c::l=>if cE (c::l)=true then([],c::l) else(cQ (c::l)::(de f ((c::l).drop (cQ (c::l)).2)).1,(de f ((c::l).drop (cQ (c::l)).2)).2)
def cD (h:List UInt8) (c:UInt8):List (Nat×Nat)×List UInt8:=de (h.length+1) (h++[c])
def jF:Nat→List UInt8→List UInt8→List UInt8
 |0,_,j=>j
 |_+1,[],j=>j
 |f+1,c::l,j=>if cE (c::l)=true then j else jF f ((c::l).drop (cQ (c::l)).2) ((c::l++j).drop ((c::l).length-(cQ (c::l)).2))
theorem Eb {h js:List UInt8} {j0 c:UInt8} (hl:(h++j0::js).length=4):(ck h (j0::js)).take (0+0+h.length*1)++[dN c]++(ck h (j0::js)).drop (0+0+h.length*1+1)=(h++c::js).map dN++[.int .i64 (h.length:Nat)]:=by
 have e:0+0+h.length*1=(h.map dN).length:=by rw[List.length_map];omega
 have e2:ck h (j0::js)=h.map dN++(dN j0::(js.map dN++[.int .i64 (h.length:Nat)])):=by simp[ck]
 rw[e,e2,List.take_left,←List.drop_drop,List.drop_left];simp
theorem rN {N k s:Nat} {st:St} {x:D} {es:List (List D)} (hk:k<N) (h:V.Acc N st s x es) (bx:gW):V.Acc N ⟨st.bs.set k bx,st.flr,st.ro⟩ s x es:=by
 cases h with
 |nul=>exact .nul
 |win k2 Vg es hN2 Lk he=>exact .win k2 Vg _ hN2 (by simp only;rw[List.getElem?_set_ne (by omega)];exact Lk) he
theorem LI {st:St} {k v:Nat} {h js:List UInt8} {j0 c:UInt8} (hm:st.bs[k]?=some (.mem v false (ck h (j0::js)))) (hl:(h++j0::js).length=4) (dX:st.ro≤k):
  Ev pv 75 [.ptr k v 0,.int .u8 (c.toNat:Nat)] st (dJ (cD h c).1) ⟨st.bs.set k (.mem v false (ck (cD h c).2 (jF (h.length+1) (h++[c]) js))),st.flr,st.ro⟩:=by
 have gi:k<st.bs.length:=by
  rcases Nat.lt_or_ge k st.bs.length with h'|h'
  ·exact h'
  ·rw[List.getElem?_eq_none h'] at hm;cases hm
 have kG:=hl;rw[List.length_append,List.length_cons] at kG;refine Ev.iS rfl XQ rfl rfl rfl ?_;dsimp only[u3,u4,List.length,Nat.reduceSub,Nat.reduceAdd,w1,w2];have jM:(ag .rw st).bs[k]?=some (.mem v false (ck h (j0::js))):=hm;have pw:=lO hl;have hcl:=mW hl;have oc:∀S:St,S.ro=st.ro→S.gz k 0=true:=fun S hS=>jR (by omega);refine qy ?_;(repeat refine qq ?_);(generalize hK:aI _ _ _ _=K);refine ab.br ?_;(repeat(refine xL ?_));refine aa.nil ?_;dsimp only[Fr.aj,Fr.put,Fr.clean,Fr.ev,Fr.get,nth,V.look,u1,u2,v1,v2,v3,v4,v5,v6,v7,List.length,u3,u4,Nat.reduceSub,Nat.reduceAdd,List.map];subst hK;refine qy ?_;(repeat refine qq ?_);(generalize hK:aI _ _ _ _=K);refine ab.br ?_
 (refine xT ?_)
 (refine xT ?_)
 (refine xT ?_)
 (refine xT ?_)
 refine aa.load (k:=k) (az:=v) (off:=4) rfl rfl rfl jM (d:=.int .i64 (h.length:Nat)) (by rw[pw];rfl) ?_
 (refine xT ?_)
 (refine xT ?_)
 (refine xT ?_)
 refine aa.PS (k:=k) (v:=v) (off:=0+0) (m:=4) (s:=1) (i:=h.length) rfl rfl rfl rfl rfl rfl (by omega)<|aa.store (k:=k) (az:=v) (off:=0+0+h.length*1) (cs:=[dN c]) rfl rfl rfl rfl rfl jM (by rw[hcl];simp;omega) (oc _ rfl) ?_;rw[show(ck h (j0::js)).take (0+0+h.length*1)++[dN c]++(ck h (j0::js)).drop (0+0+h.length*1+[dN c].length)=(h++c::js).map dN++[.int .i64 (h.length:Nat)] from Eb hl];have lT:((h++c::js).map dN).length=4:=by simp;omega
 have hx0:zn st.bs.length k (ag .rw st) ⟨(ag .rw st).bs.set k (.mem v false ((h++c::js).map dN++[.int .i64 (h.length:Nat)])),(ag .rw st).flr,(ag .rw st).ro⟩:=zn.put ⟨fun _ _ _=>rfl,Nat.le_refl _,rfl,rfl⟩ _;generalize QQ:(⟨(ag .rw st).bs.set k (.mem v false ((h++c::js).map dN++[.int .i64 (h.length:Nat)])),(ag .rw st).flr,(ag .rw st).ro⟩:St)=S1 at hx0⊢;have yK:S1.bs[k]?=some (.mem v false ((h++c::js).map dN++[.int .i64 (h.length:Nat)])):=by subst QQ;exact List.getElem?_set_self gi
 refine aa.nil ?_;dsimp only[Fr.aj,Fr.put,Fr.clean,Fr.ev,Fr.get,nth,V.look,u1,u2,v1,v2,v3,v4,v5,v6,v7,List.length,u3,u4,Nat.reduceSub,Nat.reduceAdd,List.map];subst hK;refine qy ?_;(repeat refine qq ?_);(generalize hK:aI _ _ _ _=K);refine ab.br ?_
 (refine xT ?_)
 (refine xT ?_)
 (refine xT ?_)
 refine aa.load (k:=k) (az:=v) (off:=4) rfl rfl rfl yK (d:=.int .i64 (h.length:Nat)) (by rw[←lT,List.drop_left];rfl) ?_
 (refine xT ?_)
 rw[wrap_i64 (by omega) (by omega)]
 (refine xT ?_)
 (refine xT ?_)
 refine aa.store (k:=k) (az:=v) (off:=4) (cs:=[.int .i64 ((h.length:Nat)+1:Int)]) rfl rfl rfl rfl rfl yK (by rw[List.length_append,lT];exact Nat.le_refl _) (oc S1 (by subst QQ;rfl)) ?_
 have nv:((h++c::js).map dN++[D.int .i64 (h.length:Nat)]).take 4++[.int .i64 ((h.length:Nat)+1:Int)]++((h++c::js).map dN++[D.int .i64 (h.length:Nat)]).drop (4+[D.int .i64 ((h.length:Nat)+1:Int)].length)=ck (h++[c]) js:=by
  rw[List.take_left' lT,List.drop_eq_nil_of_le (by rw[List.length_append,lT];exact Nat.le_refl _),List.append_nil];unfold ck;simp
 rw[nv];have hx1:=hx0.put (.mem v false (ck (h++[c]) js));have DK:(⟨S1.bs.set k (.mem v false (ck (h++[c]) js)),S1.flr,S1.ro⟩:St).bs[k]?=some (.mem v false (ck (h++[c]) js)):=List.getElem?_set_self (by have:=hx0.len;have e:(ag .rw st).bs.length=st.bs.length:=rfl;omega);generalize(⟨S1.bs.set k (.mem v false (ck (h++[c]) js)),S1.flr,S1.ro⟩:St)=S2 at hx1 DK⊢;refine aa.nil ?_;dsimp only[Fr.aj,Fr.put,Fr.clean,Fr.ev,Fr.get,nth,V.look,u1,u2,v1,v2,v3,v4,v5,v6,v7,List.length,u3,u4,Nat.reduceSub,Nat.reduceAdd,List.map];subst hK;refine qy ?_;(repeat refine qq ?_);(generalize hK:aI _ _ _ _=K);refine ab.br ?_;(repeat(refine xL ?_));refine aa.nil ?_;dsimp only[Fr.aj,Fr.put,Fr.clean,Fr.ev,Fr.get,nth,V.look,u1,u2,v1,v2,v3,v4,v5,v6,v7,List.length,u3,u4,Nat.reduceSub,Nat.reduceAdd,List.map];subst hK;refine qy ?_;(repeat refine qq ?_);refine ab.block ?_;have hlt:((h++[c])++js).length=4:=by simp;omega
 generalize Mk:aI _ _ _ _=K0
 have fin:∀(ai:St) (done:List (Nat×Nat)) (out r n bg:D) (m2:List (Nat×D)) (j:List UInt8),zn st.bs.length k (ag .rw st) ai→Acc st.bs.length ai 2 out (done.map aQ)→ai.bs[k]?=some (.mem v false (ck (cD h c).2 j))→done=(cD h c).1→j=jF (h.length+1) (h++[c]) js→
   K0 .next ⟨9,[.ptr k v 0,.int .u8 (c.toNat:Nat),.tup [],.tup [],.nul,out,r,n,bg],m2⟩ ai:=by
  intro ai done out r n bg m2 j hx iI hm hd hj;subst Mk;refine qy ?_;(repeat refine qq ?_);(generalize hK:aI _ _ _ _=K);refine ab.br ?_;(repeat(first|refine xT ?_|refine xL ?_));refine aa.nil ?_;dsimp only[Fr.aj,Fr.put,Fr.clean,Fr.ev,Fr.get,nth,V.look,u1,u2,v1,v2,v3,v4,v5,v6,v7,List.length,u3,u4,Nat.reduceSub,Nat.reduceAdd,List.map];subst hK;refine qy ?_;refine ab.ret ⟨rx,_,rfl,qK ?_ ?_⟩
  ·have:=hx.take (a:=ag .rw st) gi hm;rw[←hj];exact this
  ·rw[←hd];exact iI.freeze iJ (n:=15) (by decide)
 refine ab.loop (fun m fr ai=>∃(f:Nat) (l j:List UInt8) (done:List (Nat×Nat)) (out r n bg:D),fr.clean=⟨9,[.ptr k v 0,.int .u8 (c.toNat:Nat),.tup [],.tup [],.nul,out,r,n,bg],[]⟩∧ai.bs[k]?=some (.mem v false (ck l j))∧(l++j).length=4∧zn st.bs.length k (ag .rw st) ai∧
  Acc st.bs.length ai 2 out (done.map aQ)∧m=l.length∧l.length≤f∧done++(de f l).1=(cD h c).1∧(de f l).2=(cD h c).2∧jF f l j=jF (h.length+1) (h++[c]) js∧done.length+l.length≤4) (h.length+1)
  ⟨h.length+1,h++[c],js,[],.nul,_,_,_,rfl,DK,hlt,hx1,.nul,by simp,by simp,rfl,rfl,rfl,by simp;omega⟩ ?_
 clear DK hx1 nv yK hx0 QQ;rintro m fr ai ⟨f,l,j,done,out,r,n,bg,hfr,wM,ET,hx,iI,rfl,Zt,Bk,Dt,hj,U4⟩;rw[hfr];have ZI:=lO ET;have hN:st.bs.length≤ai.bs.length:=hx.len;have yM:ai.flr=st.bs.length:=by rw[hx.flr];rfl
 have uu:ai.ro=st.ro:=by rw[hx.ro];rfl
 (refine qy ?_);(repeat refine qq ?_);(generalize hK:aI _ _ _ _=K);refine ab.br ?_
 (refine xT ?_)
 (refine xT ?_)
 (refine xT ?_)
 refine aa.load (k:=k) (az:=v) (off:=4) rfl rfl rfl wM (d:=.int .i64 (l.length:Nat)) (by rw[ZI];rfl) ?_;(repeat(refine xT ?_));refine aa.nil ?_;dsimp only[Fr.aj,Fr.put,Fr.clean,Fr.ev,Fr.get,nth,V.look,u1,u2,v1,v2,v3,v4,v5,v6,v7,List.length,u3,u4,Nat.reduceSub,Nat.reduceAdd,List.map];subst hK;refine qy ?_;(repeat refine qq ?_);refine qc (fun h1=>?_) (fun h1=>?_)<;>try simp only[cs] at h1
 ·refine ab.skip ?_;refine qy ?_
  obtain⟨c0,l,rfl⟩:∃a b,l=a::b:=by cases l with|nil=>simp at h1|cons a b=>exact⟨a,b,rfl⟩
  obtain⟨f,rfl⟩:∃f',f=f'+1:=⟨f-1,by simp only[List.length_cons] at Zt;omega⟩
  have hl5:=ET;rw[List.length_append] at hl5;have hne:(c0::l)≠[]:=by simp
  have Lp:cE (c0::l)=(c7 (c0::l)).2.2:=rfl;generalize o4:c0::l=ll at*;have wA:de (f+1) ll=if cE ll=true then([],ll) else(cQ ll::(de f (ll.drop (cQ ll).2)).1,(de f (ll.drop (cQ ll).2)).2):=by rw[←o4];rfl
  have Zy:jF (f+1) ll j=if cE ll=true then j else jF f (ll.drop (cQ ll).2) ((ll++j).drop (ll.length-(cQ ll).2)):=by rw[←o4];rfl
  have Xg:=mW ET;have Du:=om (st:=ai) (l:=0) (r:=ll.length) wM (Nat.zero_le _) (by rw[List.length_append];omega);rw[List.take_left,List.drop_zero] at Du;refine qy ?_;(repeat refine qq ?_);refine ab.block ?_;refine qy ?_;(repeat refine qq ?_);(generalize hK:aI _ _ _ _=K);refine ab.br ?_
  (refine xT ?_)
  (refine xT ?_)
  (refine xT ?_)
  (refine xT ?_)
  (refine xT ?_)
  (refine xT ?_)
  refine aa.load (k:=k) (az:=v) (off:=4) rfl rfl rfl wM (d:=.int .i64 (ll.length:Nat)) (by rw[ZI];rfl)<|aa.jy (l:=0) (r:=ll.length) rfl rfl rfl rfl rfl wM (by rw[Xg];decide) ?_ ?_
  ·show bK 4 none (some (.int .i64 (ll.length:Nat)))=_;simp only[bK,dZ,f_];rw[if_pos ⟨by omega,by omega⟩];rfl
  refine aa.iL rfl rfl rfl (d:=.tup [.int .i32 ((c7 ll).1:Nat),.int .i64 ((c7 ll).2.1:Nat),.bool (c7 ll).2.2]) (st1:=ai) (rk Du) ?_;(repeat(first|refine xT ?_|refine xL ?_));refine aa.nil ?_;dsimp only[Fr.aj,Fr.put,Fr.clean,Fr.ev,Fr.get,nth,V.look,u1,u2,v1,v2,v3,v4,v5,v6,v7,List.length,u3,u4,Nat.reduceSub,Nat.reduceAdd,List.map];subst hK;refine qy ?_;(repeat refine qq ?_);(generalize hK:aI _ _ _ _=K);refine ab.br ?_;(repeat(refine xT ?_));refine aa.nil ?_;dsimp only[Fr.aj,Fr.put,Fr.clean,Fr.ev,Fr.get,nth,V.look,u1,u2,v1,v2,v3,v4,v5,v6,v7,List.length,u3,u4,Nat.reduceSub,Nat.reduceAdd,List.map];subst hK;refine qy ?_;(repeat refine qq ?_);refine qc (fun h2=>?_) (fun h2=>?_)<;>try simp only[cs] at h2
  ·refine ab.exit ?_;rw[←Lp] at h2;rw[wA,if_pos h2] at Bk Dt;rw[Zy,if_pos h2] at hj;refine fin ai done out _ _ _ _ j hx iI ?_ ?_ hj
   ·rw[←Dt];exact wM
   ·rw[←Bk,List.append_nil]
  refine ab.skip ?_;refine qy ?_;have RD:¬cE ll=true:=by rw[Lp,h2];simp
  rw[wA,if_neg RD] at Bk Dt;rw[Zy,if_neg RD] at hj;have fg:=mC hne;have hgp:=fS ll;generalize hf:c7 ll=F at*;obtain⟨r0,n0,bg0⟩:=F;refine qy ?_;(repeat refine qq ?_);(generalize hK:aI _ _ _ _=K);refine ab.br ?_;(repeat(refine xT ?_));refine aa.nil ?_;dsimp only[Fr.aj,Fr.put,Fr.clean,Fr.ev,Fr.get,nth,V.look,u1,u2,v1,v2,v3,v4,v5,v6,v7,List.length,u3,u4,Nat.reduceSub,Nat.reduceAdd,List.map];subst hK;refine qy ?_;generalize hK:aI _ _ _ _=K
  have H:∀m2,K .next ⟨9,[.ptr k v 0,.int .u8 (c.toNat:Nat),.tup [],.tup [],.nul,out,.int .i32 ((cQ ll).1:Nat),.int .i64 ((cQ ll).2:Nat),.bool bg0],m2⟩ ai:=by
   intro m2;subst hK;generalize hg:cQ ll=g at*;refine qy ?_;(repeat refine qq ?_);(generalize hK:aI _ _ _ _=K);refine ab.br ?_
   (refine xT ?_)
   (refine xT ?_)
   (refine xT ?_)
   refine aa.T rfl rfl rfl (d:=.agg (aQ g)) (st1:=ai) rfl<|aa.T rfl rfl rfl (d:=.win ai.bs.length 0 0 1 2) (st1:=ai.push (.mem 0 true (aQ g))) rfl<|aa.append rfl rfl rfl rfl (iI.push _) (Rows.one rfl) rfl rfl rfl rfl rfl rfl rfl (by decide) (by simp[St.push];omega) (by show ai.flr≤_;omega) (by show ai.ro≤_;omega) (by simp only[List.length_map,List.length_cons,List.length_nil];show(done.length+1)*16≤_;omega) fun yh st2 rf hY _ mO _=>?_;(repeat(refine xL ?_));refine aa.nil ?_;dsimp only[Fr.aj,Fr.put,Fr.clean,Fr.ev,Fr.get,nth,V.look,u1,u2,v1,v2,v3,v4,v5,v6,v7,List.length,u3,u4,Nat.reduceSub,Nat.reduceAdd,List.map];subst hK;refine qy ?_;have zY:zn st.bs.length k (ag .rw st) st2:=(hx.of (Ex.push hN (.mem 0 true (aQ g)))).of hY
   have Ru:st2.bs[k]?=some (.mem v false (ck ll j)):=by
    rw[hY.low k (by omega)];simp only[St.push];rw[List.getElem?_append_left (by omega)];exact wM
   have SO:st2.ro=st.ro:=by rw[zY.ro];rfl
   (refine qy ?_);(repeat refine qq ?_);(generalize hK:aI _ _ _ _=K);refine ab.br ?_
   (refine xT ?_)
   (refine xT ?_)
   refine aa.iL rfl rfl rfl (Ly Ru ET fg (by omega)) ?_;(repeat(first|refine xT ?_|refine xL ?_|refine xN ?_|refine xo ?_|refine xp ?_));refine aa.nil ?_;dsimp only[Fr.aj,Fr.put,Fr.clean,Fr.ev,Fr.get,nth,V.look,u1,u2,v1,v2,v3,v4,v5,v6,v7,List.length,u3,u4,Nat.reduceSub,Nat.reduceAdd,List.map];subst hK;have hk2:k<st2.bs.length:=by have:=zY.len;have e:(ag .rw st).bs.length=st.bs.length:=rfl;omega
   refine⟨(ll.drop g.2).length,by rw[List.length_drop];omega,f,ll.drop g.2,(ll++j).drop (ll.length-g.2),done++[g],yh,_,_,_,rfl,List.getElem?_set_self hk2,?_,zY.put _,?_,rfl,?_,?_,Dt,hj,?_⟩
   ·rw[List.length_append,List.length_drop,List.length_drop,ET];omega
   ·rw[List.map_append];exact rN gi rf _
   ·rw[List.length_drop];omega
   ·rw[←Bk,List.append_assoc,List.singleton_append]
   ·rw[List.length_append,List.length_drop];simp only[List.length_cons,List.length_nil];omega
  (refine qy ?_);(repeat refine qq ?_);refine qc (fun h5=>?_) (fun h5=>?_)<;>try simp only[cs] at h5
  ·refine ab.br ?_;(repeat(refine xL ?_));refine aa.nil ?_;dsimp only[Fr.aj,Fr.put,Fr.clean,Fr.ev,Fr.get,nth,V.look,u1,u2,v1,v2,v3,v4,v5,v6,v7,List.length,u3,u4,Nat.reduceSub,Nat.reduceAdd,List.map];have:cQ ll=(65533,1):=by unfold cQ;rw[hf,if_pos (by simpa using h5)]
   rw[this] at H;exact H _
  ·refine ab.skip ?_;have:cQ ll=(r0,n0):=by unfold cQ;rw[hf,if_neg (by simpa using h5)]
   rw[this] at H;exact H _
 ·refine ab.exit ?_
  obtain rfl:l=[]:=by cases l with|nil=>rfl|cons a b=>simp at h1<;>omega
  refine fin ai done out r n bg _ j hx iI ?_ ?_ ?_
  ·have:(cD h c).2=[]:=by rw[←Dt];cases f<;>rfl
   rw[this];exact wM
  ·have:(de f ([]:List UInt8)).1=[]:=by cases f<;>rfl
   rw[←Bk,this,List.append_nil]
  ·rw[←hj];cases f<;>rfl
theorem Ae {st:St} {k v:Nat} {h j:List UInt8} (hm:st.bs[k]?=some (.mem v false (ck h j))) (hl:(h++j).length=4) (dX:st.ro≤st.bs.length):Ev pv 77 [.ptr k v 0] st (dG h) st:=by
 refine Ev.iS rfl XO rfl rfl rfl ?_;dsimp only[u3,u4,List.length,Nat.reduceSub,Nat.reduceAdd,w1,w2];have jM:(ag .rw st).bs[k]?=some (.mem v false (ck h j)):=hm;have kG:=hl;rw[List.length_append] at kG;have hcl:=mW hl;have pw:=lO hl;have Du:=om (st:=ag .rw st) (l:=0) (r:=h.length) jM (Nat.zero_le _) (by rw[hl];omega);rw[List.take_left,List.drop_zero] at Du;refine qy ?_;(repeat refine qq ?_);(generalize hK:aI _ _ _ _=K);refine ab.br ?_;(repeat(refine xL ?_));refine aa.nil ?_;dsimp only[Fr.aj,Fr.put,Fr.clean,Fr.ev,Fr.get,nth,V.look,u1,u2,v1,v2,v3,v4,v5,v6,v7,List.length,u3,u4,Nat.reduceSub,Nat.reduceAdd,List.map];subst hK;refine qy ?_;(repeat refine qq ?_);(generalize hK:aI _ _ _ _=K);refine ab.br ?_
 (refine xT ?_)
 (refine xT ?_)
 (refine xT ?_)
 (refine xT ?_)
 (refine xT ?_)
 (refine xT ?_)
 refine aa.load (k:=k) (az:=v) (off:=4) rfl rfl rfl jM (d:=.int .i64 (h.length:Nat)) (by rw[pw];rfl)<|aa.jy (l:=0) (r:=h.length) rfl rfl rfl rfl rfl jM (by rw[hcl];decide) ?_ ?_
 ·show bK 4 none (some (.int .i64 (h.length:Nat)))=_;simp only[bK,dZ,f_];rw[if_pos ⟨by omega,by omega⟩];rfl
 refine aa.append (N:=st.bs.length) (x:=.nul) (es:=[]) (y:=.win k v 0 (h.length-0) 1) (ys:=byteCells h) rfl rfl rfl rfl .nul Du rfl rfl rfl rfl rfl rfl rfl (by decide) (Nat.le_refl _) (Nat.le_refl _) dX (by rw[aG];show(0+h.length)*1≤_;omega) fun x' st2 iI hex _ _ _=>?_;rw[List.nil_append] at iI;(repeat(refine xL ?_));refine aa.nil ?_;dsimp only[Fr.aj,Fr.put,Fr.clean,Fr.ev,Fr.get,nth,V.look,u1,u2,v1,v2,v3,v4,v5,v6,v7,List.length,u3,u4,Nat.reduceSub,Nat.reduceAdd,List.map];subst hK;refine qy ?_;refine ab.ret ⟨rx,_,rfl,aJ (by simp) (hex.take rfl) ?_⟩;exact iI.freeze (ef h) (n:=15) (by decide)
def gN (n:Nat):List (Nat×Nat):=List.replicate n (65533,1)
theorem QX {st:St} {k v:Nat} {h j:List UInt8} (hm:st.bs[k]?=some (.mem v false (ck h j))) (hl:(h++j).length=4) (dX:st.ro≤k):
  Ev pv 80 [.ptr k v 0] st (dJ (gN h.length)) ⟨st.bs.set k (.mem v false (ck [] (h++j))),st.flr,st.ro⟩:=by
 have gi:k<st.bs.length:=by
  rcases Nat.lt_or_ge k st.bs.length with h'|h'
  ·exact h'
  ·rw[List.getElem?_eq_none h'] at hm;cases hm
 have kG:=hl;rw[List.length_append] at kG;refine Ev.iS rfl XL rfl rfl rfl ?_;dsimp only[u3,u4,List.length,Nat.reduceSub,Nat.reduceAdd,w1,w2];have lT:((h++j).map dN).length=4:=by rw[List.length_map,hl]
 have oc:∀S:St,S.ro=st.ro→S.gz k 0=true:=fun S hS=>jR (by omega);have WG:(ag .rw st).bs[k]?=some (.mem v false ((h++j).map dN++[.int .i64 (h.length:Nat)])):=hm;refine qy ?_;(repeat refine qq ?_);(generalize hK:aI _ _ _ _=K);refine ab.br ?_;(repeat(refine xL ?_));refine aa.nil ?_;dsimp only[Fr.aj,Fr.put,Fr.clean,Fr.ev,Fr.get,nth,V.look,u1,u2,v1,v2,v3,v4,v5,v6,v7,List.length,u3,u4,Nat.reduceSub,Nat.reduceAdd,List.map];subst hK;refine qy ?_;(repeat refine qq ?_);(generalize hK:aI _ _ _ _=K);refine ab.br ?_;(repeat(refine xL ?_));refine aa.nil ?_;dsimp only[Fr.aj,Fr.put,Fr.clean,Fr.ev,Fr.get,nth,V.look,u1,u2,v1,v2,v3,v4,v5,v6,v7,List.length,u3,u4,Nat.reduceSub,Nat.reduceAdd,List.map];subst hK;refine qy ?_;(repeat refine qq ?_);refine ab.block<|ab.loop (fun m fr ai=>∃(done:Nat) (out:D),fr.clean=⟨4,[.ptr k v 0,.tup [],.nul,out],[]⟩∧ai.bs[k]?=some (.mem v false ((h++j).map dN++[.int .i64 (m:Nat)]))∧zn st.bs.length k (ag .rw st) ai∧Acc st.bs.length ai 2 out ((gN done).map aQ)∧done+m=h.length) h.length
  ⟨0,.nul,rfl,WG,⟨fun _ _ _=>rfl,Nat.le_refl _,rfl,rfl⟩,.nul,by omega⟩ ?_
 rintro m fr ai ⟨done,out,hfr,wM,hx,iI,hdm⟩;rw[hfr];have hN:st.bs.length≤ai.bs.length:=hx.len;have yM:ai.flr=st.bs.length:=by rw[hx.flr];rfl
 have uu:ai.ro=st.ro:=by rw[hx.ro];rfl
 (refine qy ?_);(repeat refine qq ?_);(generalize hK:aI _ _ _ _=K);refine ab.br ?_
 (refine xT ?_)
 (refine xT ?_)
 (refine xT ?_)
 refine aa.load (k:=k) (az:=v) (off:=4) rfl rfl rfl wM (d:=.int .i64 (m:Nat)) (by rw[←lT,List.drop_left];rfl) ?_;(repeat(refine xT ?_));refine aa.nil ?_;dsimp only[Fr.aj,Fr.put,Fr.clean,Fr.ev,Fr.get,nth,V.look,u1,u2,v1,v2,v3,v4,v5,v6,v7,List.length,u3,u4,Nat.reduceSub,Nat.reduceAdd,List.map];subst hK;refine qy ?_;(repeat refine qq ?_);refine qc (fun h1=>?_) (fun h1=>?_)<;>try simp only[cs] at h1
 ·refine ab.skip ?_;refine qy ?_
  obtain⟨m,rfl⟩:∃m',m=m'+1:=⟨m-1,by omega⟩
  (refine qy ?_);(repeat refine qq ?_);refine ab.block ?_;refine qy ?_;(repeat refine qq ?_);(generalize hK:aI _ _ _ _=K);refine ab.br ?_
  (refine xT ?_)
  refine aa.T rfl rfl rfl (d:=.agg (aQ (65533,1))) (st1:=ai) rfl<|aa.T rfl rfl rfl (d:=.win ai.bs.length 0 0 1 2) (st1:=ai.push (.mem 0 true (aQ (65533,1)))) rfl<|aa.append rfl rfl rfl rfl (iI.push _) (Rows.one rfl) rfl rfl rfl rfl rfl rfl rfl (by decide) (by simp[St.push];omega) (by show ai.flr≤_;omega) (by show ai.ro≤_;omega) (by simp only[List.length_map,List.length_cons,List.length_nil,gN,List.length_replicate];show(done+1)*16≤_;omega) fun yh st2 rf hY _ mO _=>?_;(repeat(refine xL ?_));refine aa.nil ?_;dsimp only[Fr.aj,Fr.put,Fr.clean,Fr.ev,Fr.get,nth,V.look,u1,u2,v1,v2,v3,v4,v5,v6,v7,List.length,u3,u4,Nat.reduceSub,Nat.reduceAdd,List.map];subst hK;refine qy ?_;have zY:zn st.bs.length k (ag .rw st) st2:=(hx.of (Ex.push hN (.mem 0 true (aQ (65533,1))))).of hY
  have Ru:st2.bs[k]?=some (.mem v false ((h++j).map dN++[.int .i64 ((m+1:Nat):Int)])):=by
   rw[hY.low k (by omega)];simp only[St.push];rw[List.getElem?_append_left (by omega)];exact wM
  have SO:st2.ro=st.ro:=by rw[zY.ro];rfl
  have hk2:k<st2.bs.length:=by have:=zY.len;have e:(ag .rw st).bs.length=st.bs.length:=rfl;omega
  (refine qy ?_);(repeat refine qq ?_);(generalize hK:aI _ _ _ _=K);refine ab.br ?_
  (refine xT ?_)
  (refine xT ?_)
  (refine xT ?_)
  refine aa.load (k:=k) (az:=v) (off:=4) rfl rfl rfl Ru (d:=.int .i64 ((m+1:Nat):Int)) (by rw[←lT,List.drop_left];rfl) ?_
  (refine xT ?_)
  rw[wrap_i64 (by omega) (by omega),show((m+1:Nat):Int)-1=(m:Nat) by omega]
  (refine xT ?_)
  (refine xT ?_)
  refine aa.store (k:=k) (az:=v) (off:=4) (cs:=[.int .i64 (m:Nat)]) rfl rfl rfl rfl rfl Ru (by rw[List.length_append,lT];exact Nat.le_refl _) (oc st2 SO) ?_
  have nv:((h++j).map dN++[D.int .i64 ((m+1:Nat):Int)]).take 4++[.int .i64 (m:Nat)]++((h++j).map dN++[D.int .i64 ((m+1:Nat):Int)]).drop (4+[D.int .i64 (m:Nat)].length)=(h++j).map dN++[.int .i64 (m:Nat)]:=by
   rw[List.take_left' lT,List.drop_eq_nil_of_le (by rw[List.length_append,lT];exact Nat.le_refl _),List.append_nil]
  rw[nv];refine aa.nil ?_;dsimp only[Fr.aj,Fr.put,Fr.clean,Fr.ev,Fr.get,nth,V.look,u1,u2,v1,v2,v3,v4,v5,v6,v7,List.length,u3,u4,Nat.reduceSub,Nat.reduceAdd,List.map];subst hK;refine⟨m,by omega,done+1,yh,rfl,List.getElem?_set_self hk2,zY.put _,?_,by omega⟩
  have:(gN (done+1)).map aQ=(gN done).map aQ++[aQ (65533,1)]:=by
   unfold gN;rw[List.replicate_succ',List.map_append];rfl
  rw[this];exact rN gi rf _
 ·refine ab.exit ?_;have jM:m=0:=by omega
  subst jM;have hd:done=h.length:=by omega
  subst hd;refine qy ?_;(repeat refine qq ?_);(generalize hK:aI _ _ _ _=K);refine ab.br ?_;(repeat(first|refine xT ?_|refine xL ?_));refine aa.nil ?_;dsimp only[Fr.aj,Fr.put,Fr.clean,Fr.ev,Fr.get,nth,V.look,u1,u2,v1,v2,v3,v4,v5,v6,v7,List.length,u3,u4,Nat.reduceSub,Nat.reduceAdd,List.map];subst hK;refine qy ?_;refine ab.ret ⟨rx,_,rfl,qK ?_ ?_⟩
  ·exact hx.take (a:=ag .rw st) gi wM
  ·exact iI.freeze iJ (n:=15) (by decide)
theorem yl (st:St):Ev pv 72 [] st (.ptr st.bs.length 0 0) (st.push (.mem 0 false (ck [] [0,0,0,0]))):=by
 refine Ev.iS rfl XT rfl rfl rfl ?_;dsimp only[u3,u4,List.length,Nat.reduceSub,Nat.reduceAdd,w1,w2];refine qy ?_;(repeat refine qq ?_);(generalize hK:aI _ _ _ _=K);refine ab.br ?_;(repeat(refine xL ?_));refine aa.nil ?_;dsimp only[Fr.aj,Fr.put,Fr.clean,Fr.ev,Fr.get,nth,V.look,u1,u2,v1,v2,v3,v4,v5,v6,v7,List.length,u3,u4,Nat.reduceSub,Nat.reduceAdd,List.map];subst hK;refine qy ?_;(repeat refine qq ?_);(generalize hK:aI _ _ _ _=K);refine ab.br ?_;(repeat(first|refine xT ?_|refine xL ?_));refine aa.nil ?_;dsimp only[Fr.aj,Fr.put,Fr.clean,Fr.ev,Fr.get,nth,V.look,u1,u2,v1,v2,v3,v4,v5,v6,v7,List.length,u3,u4,Nat.reduceSub,Nat.reduceAdd,List.map];subst hK;refine qy ?_;exact ab.ret ⟨rx,_,rfl,rfl⟩
theorem Se {st:St} {x:D} {h:List UInt8} (hb:Bytes st x h) (bc:cE h=true∨h=[]) (h3:h.length≤3) (dX:st.ro≤st.bs.length):
  Ev pv 78 [x] st (.tup [.ptr st.bs.length 0 0,.int .i64 0]) (st.push (.mem 0 false (ck h (([0,0,0,0]:List UInt8).drop h.length)))):=by
 have hx:=hb.ref;have hbl:=aG h;refine Ev.iS rfl XN rfl rfl rfl ?_;dsimp only[u3,u4,List.length,Nat.reduceSub,Nat.reduceAdd,w1,w2];refine qy ?_;(repeat refine qq ?_);(generalize hK:aI _ _ _ _=K);refine ab.br ?_;(repeat(refine xL ?_));refine aa.nil ?_;dsimp only[Fr.aj,Fr.put,Fr.clean,Fr.ev,Fr.get,nth,V.look,u1,u2,v1,v2,v3,v4,v5,v6,v7,List.length,u3,u4,Nat.reduceSub,Nat.reduceAdd,List.map];subst hK;refine qy ?_;(repeat refine qq ?_);(generalize hK:aI _ _ _ _=K);refine ab.br ?_
 (refine xT ?_)
 refine aa.iL rfl rfl rfl (rk hb) ?_;(repeat(first|refine xT ?_|refine xL ?_));refine aa.nil ?_;dsimp only[Fr.aj,Fr.put,Fr.clean,Fr.ev,Fr.get,nth,V.look,u1,u2,v1,v2,v3,v4,v5,v6,v7,List.length,u3,u4,Nat.reduceSub,Nat.reduceAdd,List.map];subst hK;refine qy ?_;have Lp:(c7 h).2.2=cE h:=rfl;rw[Lp];generalize(c7 h).1=r0;generalize(c7 h).2.1=n0
 cases QH:cE h with
 |true=>
  (refine qy ?_);(repeat refine qq ?_);(generalize hK:aI _ _ _ _=K);refine ab.br ?_;(repeat(first|refine xT ?_|refine xo ?_));refine aa.nil ?_;dsimp only[Fr.aj,Fr.put,Fr.clean,Fr.ev,Fr.get,nth,V.look,u1,u2,v1,v2,v3,v4,v5,v6,v7,List.length,u3,u4,Nat.reduceSub,Nat.reduceAdd,List.map];subst hK;refine qy ?_;(repeat refine qq ?_);refine ab.cond (v:=false) rfl (fun h=>by cases h) fun _=>?_;refine qy ?_;refine ab.skip ?_;refine qy ?_;have jM:(st.push (.mem 0 false (ck [] [0,0,0,0]))).bs[st.bs.length]?=some (.mem 0 false (ck [] [0,0,0,0])):=dq st _;have hb1:Bytes (st.push (.mem 0 false (ck [] [0,0,0,0]))) x h:=hb.ex (Ex.push (Nat.le_refl _) _) hx;have oc:∀S:St,S.ro=st.ro→S.gz st.bs.length 0=true:=fun S hS=>jR (by omega);refine qy ?_;(repeat refine qq ?_);(generalize hK:aI _ _ _ _=K);refine ab.br<|aa.iL rfl rfl rfl (yl st) ?_;(repeat(refine xL ?_));refine aa.nil ?_;dsimp only[Fr.aj,Fr.put,Fr.clean,Fr.ev,Fr.get,nth,V.look,u1,u2,v1,v2,v3,v4,v5,v6,v7,List.length,u3,u4,Nat.reduceSub,Nat.reduceAdd,List.map];subst hK;refine qy ?_;(repeat refine qq ?_);(generalize hK:aI _ _ _ _=K);refine ab.br ?_
  (refine xT ?_)
  (refine xT ?_)
  (refine xT ?_)
  (refine xT ?_)
  refine aa.jy (k:=st.bs.length) (v:=0) (off:=0) (l:=0) (r:=4) rfl rfl rfl rfl rfl jM (by decide) rfl ?_
  (refine xT ?_)
  refine aa.copy (k:=st.bs.length) (az:=0) (off:=0) (len:=4) (s:=1) (ys:=byteCells h) (ar:=false) (c:=ck [] [0,0,0,0]) rfl rfl rfl rfl hb1 rfl rfl jM (by decide) ?_ ?_
  ·rw[cn]
   have:∀(b:List UInt8) m,refs ((b.map dN).take m)=0:=by
    intro b m
    induction b generalizing m with
    |nil=>simp[refs]
    |cons y b ih=>cases m with
     |zero=>simp[refs]
     |succ m=>simp only[List.map_cons,List.take_succ_cons,refs,ih];rfl
   rw[this];exact oc _ rfl
  have wK:min (byteCells h).length 4=h.length:=by omega
  rw[wK,cn]
  have Bw:(ck [] [0,0,0,0]).take 0++(h.map dN).take (h.length*1)++(ck [] [0,0,0,0]).drop (0+h.length*1)=(h++([0,0,0,0]:List UInt8).drop h.length).map dN++[.int .i64 0]:=by
   rw[List.take_zero,List.nil_append,Nat.mul_one,Nat.zero_add];have e1:(h.map dN).take h.length=h.map dN:=List.take_of_length_le (by simp);rw[e1,List.map_append,List.append_assoc]
   congr 1
   show([0,0,0,0].map dN++[D.int .i64 0]).drop h.length=_;rw[List.drop_append_of_le_length (by simp;omega),List.map_drop]
  rw[Bw];have hlt:((h++([0,0,0,0]:List UInt8).drop h.length).map dN).length=4:=by simp;omega
  have hT:∃T:List D,T=(h++([0,0,0,0]:List UInt8).drop h.length).map dN:=⟨_,rfl⟩
  obtain⟨T,hT⟩:=hT;rw[←hT] at hlt⊢;have z7:∀b b':gW,(⟨(st.push b).bs.set st.bs.length b',(st.push b).flr,(st.push b).ro⟩:St)=st.push b':=fun b b'=>jC rfl
  (refine xT ?_)
  (refine xT ?_)
  rw[z7];refine aa.store (k:=st.bs.length) (az:=0) (off:=4) (cs:=[.int .i64 (h.length:Nat)]) rfl rfl rfl rfl rfl (dq st _) (by rw[List.length_append,hlt];exact Nat.le_refl _) (oc _ rfl) ?_;rw[z7]
  have nv:(T++[D.int .i64 0]).take 4++[.int .i64 (h.length:Nat)]++(T++[D.int .i64 0]).drop (4+[D.int .i64 (h.length:Nat)].length)=ck h (([0,0,0,0]:List UInt8).drop h.length):=by
   rw[List.take_left' hlt,List.drop_eq_nil_of_le (by rw[List.length_append,hlt];exact Nat.le_refl _),List.append_nil,hT]
   rfl
  rw[nv];refine aa.nil ?_;dsimp only[Fr.aj,Fr.put,Fr.clean,Fr.ev,Fr.get,nth,V.look,u1,u2,v1,v2,v3,v4,v5,v6,v7,List.length,u3,u4,Nat.reduceSub,Nat.reduceAdd,List.map];subst hK;refine qy ?_;(repeat refine qq ?_);(generalize hK:aI _ _ _ _=K);refine ab.br ?_;(repeat(first|refine xT ?_|refine xL ?_));refine aa.nil ?_;dsimp only[Fr.aj,Fr.put,Fr.clean,Fr.ev,Fr.get,nth,V.look,u1,u2,v1,v2,v3,v4,v5,v6,v7,List.length,u3,u4,Nat.reduceSub,Nat.reduceAdd,List.map];subst hK;refine qy ?_;exact ab.ret ⟨rx,_,rfl,rfl⟩
 |false=>
  have B4:h.length=0:=by
   rcases bc with h'|h'
   ·rw[QH] at h';cases h'
   ·rw[h'];rfl
  (refine qy ?_);(repeat refine qq ?_);(generalize hK:aI _ _ _ _=K);refine ab.br ?_
  (refine xT ?_)
  (refine xT ?_)
  (refine xT ?_)
  (refine xT ?_)
  refine aa.len rfl rfl rfl hb rfl ?_;rw[hbl];(repeat(first|refine xT ?_|simp(disch:=omega) only[decide_eq_true,decide_eq_false,bE,b8,bD,b7]));refine aa.nil ?_;dsimp only[Fr.aj,Fr.put,Fr.clean,Fr.ev,Fr.get,nth,V.look,u1,u2,v1,v2,v3,v4,v5,v6,v7,List.length,u3,u4,Nat.reduceSub,Nat.reduceAdd,List.map];subst hK;refine qy ?_;(repeat refine qq ?_);refine ab.cond (v:=false) rfl (fun h=>by cases h) fun _=>?_;refine qy ?_;refine ab.skip ?_;refine qy ?_;have jM:(st.push (.mem 0 false (ck [] [0,0,0,0]))).bs[st.bs.length]?=some (.mem 0 false (ck [] [0,0,0,0])):=dq st _;have hb1:Bytes (st.push (.mem 0 false (ck [] [0,0,0,0]))) x h:=hb.ex (Ex.push (Nat.le_refl _) _) hx;have oc:∀S:St,S.ro=st.ro→S.gz st.bs.length 0=true:=fun S hS=>jR (by omega);refine qy ?_;(repeat refine qq ?_);(generalize hK:aI _ _ _ _=K);refine ab.br<|aa.iL rfl rfl rfl (yl st) ?_;(repeat(refine xL ?_));refine aa.nil ?_;dsimp only[Fr.aj,Fr.put,Fr.clean,Fr.ev,Fr.get,nth,V.look,u1,u2,v1,v2,v3,v4,v5,v6,v7,List.length,u3,u4,Nat.reduceSub,Nat.reduceAdd,List.map];subst hK;refine qy ?_;(repeat refine qq ?_);(generalize hK:aI _ _ _ _=K);refine ab.br ?_
  (refine xT ?_)
  (refine xT ?_)
  (refine xT ?_)
  (refine xT ?_)
  refine aa.jy (k:=st.bs.length) (v:=0) (off:=0) (l:=0) (r:=4) rfl rfl rfl rfl rfl jM (by decide) rfl ?_
  (refine xT ?_)
  refine aa.copy (k:=st.bs.length) (az:=0) (off:=0) (len:=4) (s:=1) (ys:=byteCells h) (ar:=false) (c:=ck [] [0,0,0,0]) rfl rfl rfl rfl hb1 rfl rfl jM (by decide) ?_ ?_
  ·rw[cn]
   have:∀(b:List UInt8) m,refs ((b.map dN).take m)=0:=by
    intro b m
    induction b generalizing m with
    |nil=>simp[refs]
    |cons y b ih=>cases m with
     |zero=>simp[refs]
     |succ m=>simp only[List.map_cons,List.take_succ_cons,refs,ih];rfl
   rw[this];exact oc _ rfl
  have wK:min (byteCells h).length 4=h.length:=by omega
  rw[wK,cn]
  have Bw:(ck [] [0,0,0,0]).take 0++(h.map dN).take (h.length*1)++(ck [] [0,0,0,0]).drop (0+h.length*1)=(h++([0,0,0,0]:List UInt8).drop h.length).map dN++[.int .i64 0]:=by
   rw[List.take_zero,List.nil_append,Nat.mul_one,Nat.zero_add];have e1:(h.map dN).take h.length=h.map dN:=List.take_of_length_le (by simp);rw[e1,List.map_append,List.append_assoc]
   congr 1
   show([0,0,0,0].map dN++[D.int .i64 0]).drop h.length=_;rw[List.drop_append_of_le_length (by simp;omega),List.map_drop]
  rw[Bw];have hlt:((h++([0,0,0,0]:List UInt8).drop h.length).map dN).length=4:=by simp;omega
  have hT:∃T:List D,T=(h++([0,0,0,0]:List UInt8).drop h.length).map dN:=⟨_,rfl⟩
  obtain⟨T,hT⟩:=hT;rw[←hT] at hlt⊢;have z7:∀b b':gW,(⟨(st.push b).bs.set st.bs.length b',(st.push b).flr,(st.push b).ro⟩:St)=st.push b':=fun b b'=>jC rfl
  (refine xT ?_)
  (refine xT ?_)
  rw[z7];refine aa.store (k:=st.bs.length) (az:=0) (off:=4) (cs:=[.int .i64 (h.length:Nat)]) rfl rfl rfl rfl rfl (dq st _) (by rw[List.length_append,hlt];exact Nat.le_refl _) (oc _ rfl) ?_;rw[z7]
  have nv:(T++[D.int .i64 0]).take 4++[.int .i64 (h.length:Nat)]++(T++[D.int .i64 0]).drop (4+[D.int .i64 (h.length:Nat)].length)=ck h (([0,0,0,0]:List UInt8).drop h.length):=by
   rw[List.take_left' hlt,List.drop_eq_nil_of_le (by rw[List.length_append,hlt];exact Nat.le_refl _),List.append_nil,hT]
   rfl
  rw[nv];refine aa.nil ?_;dsimp only[Fr.aj,Fr.put,Fr.clean,Fr.ev,Fr.get,nth,V.look,u1,u2,v1,v2,v3,v4,v5,v6,v7,List.length,u3,u4,Nat.reduceSub,Nat.reduceAdd,List.map];subst hK;refine qy ?_;(repeat refine qq ?_);(generalize hK:aI _ _ _ _=K);refine ab.br ?_;(repeat(first|refine xT ?_|refine xL ?_));refine aa.nil ?_;dsimp only[Fr.aj,Fr.put,Fr.clean,Fr.ev,Fr.get,nth,V.look,u1,u2,v1,v2,v3,v4,v5,v6,v7,List.length,u3,u4,Nat.reduceSub,Nat.reduceAdd,List.map];subst hK;refine qy ?_;exact ab.ret ⟨rx,_,rfl,rfl⟩
end Go.Proofs.YtbdnabmmlbiomaaGreat
namespace Go.Proofs.YtbdnabmmlbiomaaGreat
open Go.V Go
def nV (fr:Go.V.Fr) (k:Nat):Go.V.D:=Go.V.nth .bp fr.loc k
def dY (code:List aO) (ss:List Nat):List (Nat×Nat)→Nat→List PL→Nat×List PL
 |[],pl,ls=>(pl,ls)
 |g::gs,pl,ls=>dY code ss gs (pl+di (g.2:Nat)) (da code pl (g.1:Nat) ss ls)
theorem tJ (code:List aO) (ss:List Nat):∀(a:List (Nat×Nat)) (pl:Nat) (ls:List PL),(dY code ss a pl ls).1≤pl+4*a.length
 |[],_,_=>Nat.le_refl _
 |g::a,pl,ls=>by
  simp only[dY,List.length_cons];have:=tJ code ss a (pl+di (g.2:Nat)) (da code pl (g.1:Nat) ss ls);have:=iu ((g.2:Nat):Int);omega
theorem pj {p:Pg} (hR:bz p):∀(a:List (Nat×Nat)) (pl:Nat) (ls:List PL),ls.length=p.aw.length→(∀l∈ls,l.ok p.code.length)→(dY p.code (au p) a pl ls).2.length=p.aw.length∧∀l∈(dY p.code (au p) a pl ls).2,l.ok p.code.length
 |[],_,_,h1,h2=>⟨h1,h2⟩
 |g::a,pl,ls,h1,h2=>by
  simp only[dY];refine pj hR a _ _ ?_ (fun l hl=>jx hR (jV hR) l hl);rw[fq _ _ _ _ _ (by unfold au;rw[List.length_map];omega)];exact h1
theorem nI (code:List aO) (ss:List Nat):∀(a:List (Nat×Nat)) (pl:Nat) (ls:List PL),dY (code.map dK) ss a pl ls=dY code ss a pl ls
 |[],_,_=>rfl
 |g::a,pl,ls=>by simp only[dY,ow,nI code ss a]
theorem gp {L:List VL} {n:Nat} (h:∀l∈L.map VL.pl,l.ok n):∀l∈L,l.pl.ok n:=fun l hl=>h _ (List.mem_map_of_mem hl)
theorem vg (dE:∀st,Ev pv 59 [] st (.agg (aF b4)) st) {N ks kv:Nat} {S s0:St} {H:List bt} {p:Pg} {pl:Nat} {ld:D} {L:List VL} {gs:List (Nat×Nat)} (hF:S.flr≤N) (hp:p.ok) (hR:bz p) (iq:pl+4*gs.length≤1000000000000) (s9:gs.length≤1048576) (sa:L.length=p.aw.length) (bc:∀l∈L,l.pl.ok p.code.length) (hM:MH [] N S s0 ks kv p pl ld L H):
  ∃d ai,Ev pv 74 [.ptr kv 0 0,dJ gs] s0 d ai∧d=.tup []∧∃yz L',L'.map VL.pl=(dY p.code (au p) gs pl (L.map VL.pl)).2∧MH [] N S ai ks kv p (dY p.code (au p) gs pl (L.map VL.pl)).1 yz L' H:=by
 obtain⟨pd,qd,P,Q,sn,hH,fN,ec⟩:=hM;have Ad:Arg N S 2 (dJ gs) (gs.map aQ):=Arg.pure (fun st=>dF st gs);dsimp only[u4] at hH;refine Ev.il rfl XR rfl rfl rfl ?_;dsimp only[u3,u4,List.length,Nat.reduceSub,Nat.reduceAdd,w1,w2];change ab _ _ _ _ s0 _;refine qq<|qj fun K hK=>qm ?_;refine qn ?_;simp only[List.length_map];refine qm ?_;refine qe hK<|ab.block<|ab.loop (fun mm fr st=>∃(i lS:Nat) (ld pd qd:D) (L':List VL) (P Q:List Nat) (sn:List Bool),fr.clean=⟨9,[.ptr kv 0 0,nV fr 1,nV fr 2,nV fr 3,nV fr 4,nV fr 5,dJ gs,.int .i64 (gs.length:Nat),.int .i64 (i:Nat)],[]⟩∧Has N S st (.box kv (.mem 0 false [p.cd,p.sd,.int .i64 (lS:Nat),ld,.ptr ks 0 0])::.box ks (.mem 0 false [pd,qd])::.aP pd 1 (P.map fT)::.aP qd 2 (Q.map mM)::.aP ld 12 (L'.map fp)::(L'.map nA++H))∧(i+mm=gs.length)∧(cV P Q sn)∧(sn.length=p.code.length)∧(dY p.code (au p) (gs.drop i) lS (L'.map VL.pl)=dY p.code (au p) gs pl (L.map VL.pl))∧(lS≤pl+4*i)∧(L'.length=p.aw.length)∧(∀l∈L',l.pl.ok p.code.length)) (gs.length) ?_ ?_
 ·exact⟨0,pl,ld,pd,qd,L,P,Q,sn,rfl,hH,by omega,fN,ec,rfl,by omega,sa,bc⟩
 rintro mm fr st ⟨i,lS,ld,pd,qd,L',P,Q,sn,hfr,hH,hi,fN,ec,gI,SS,Xu,wW⟩;rw[hfr];clear hfr;generalize nV fr=ee;clear fr;have L6:=hR.sl;refine qq<|qj fun K hK=>qg ?_;refine qe hK<|qq ?_;refine ab.cond (by rfl) (fun hlt=>?_) (fun hlt=>?_)<;>try simp only[decide_eq_true_eq,decide_eq_false_iff_not] at hlt
 ·refine ab.skip ?_;have hil:i<gs.length:=by omega
  obtain⟨g,Qy⟩:∃g,gs[i]?=some g:=⟨gs[i]'hil,List.getElem?_eq_getElem _⟩
  have gJ:(gs.map aQ)[i]?=some (aQ g):=by rw[List.getElem?_map,Qy];rfl
  have U5:=iu ((g.2:Nat):Int)
  have q_:gs.drop i=g::gs.drop (i+1):=by
   rw[List.drop_eq_getElem_cons hil]
   congr 1
   exact Option.some.inj ((List.getElem?_eq_getElem _).symm.trans Qy)
  refine qq<|ab.block<|qq<|qj fun K hK=>qr fun Sc DH=>?_;refine aa.db rfl (ev rfl) (by assumption) rfl (ah rfl _) ?_;refine qa hH fun k5 st Aa hH=>?_;refine qS hH aB fun st hH=>?_;dsimp only[u2,u1,u3,u4,setMany,u5,u6,D.cells,Nat.reduceAdd,aQ] at hH;refine qe hK<|qj fun K hK=>qm ?_;refine qp (o:=0) ?_;refine ql hH aB ?_;refine qp (o:=1) ?_;refine ql hH aB ?_;obtain⟨_,st,aK,rfl,L1,Lu,hM⟩:=LO (r:=((g.1:Nat):Int)) (n:=((g.2:Nat):Int)) dE hF hp hR (by omega) Xu wW (MH.push [_] [] (H:=H) ⟨pd,qd,P,Q,sn,hH,fN,ec⟩);obtain⟨pd,qd,P,Q,sn,hH,fN,ec⟩:=MH.pull [_] [] (H:=H) hM;dsimp only[u3,u4] at hH;refine qv aK ?_;refine qe hK ?_
  have abb:L1.length=L'.length:=by
   have:=congrArg List.length Lu;rw[List.length_map,fq _ _ _ _ _ (by unfold au;simp;omega),List.length_map] at this;exact this
  have Xt:∀l∈L1,l.pl.ok p.code.length:=fun l hl=>jx hR (jV hR) _ (by rw[←Lu];exact List.mem_map_of_mem hl);refine qj fun K hK=>qA ?_;refine qm ?_;refine qe hK ?_;exact⟨mm-1,by omega,⟨i+1,lS+di ((g.2:Nat):Int),_,pd,qd,L1,P,Q,sn,rfl,(hH.drop 1),by omega,fN,ec,(by rw[←gI,q_,Lu];rfl),by omega,by omega,Xt⟩⟩
 ·refine ab.exit ?_;refine⟨fun i h=>(by cases h),_,_,_,rfl,rfl,?_⟩;have q_:gs.drop i=[]:=by rw[List.drop_eq_nil_iff];omega
  rw[q_] at gI;have gI:(lS,L'.map VL.pl)=dY p.code (au p) gs pl (L.map VL.pl):=gI;rw[←gI];exact⟨rfl,ld,L',rfl,pd,qd,P,Q,sn,hH,fN,ec⟩
end Go.Proofs.YtbdnabmmlbiomaaGreat
