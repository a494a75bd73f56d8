import Derived.Test.YtbdnabmmlbiomaaGreatWGYc
import Derived.Test.YtbdnabmmlbiomaaGreatWGQp
set_option linter.unusedSimpArgs false
set_option maxRecDepth 100000
set_option maxHeartbeats 4000000
set_option linter.unusedVariables false
namespace Go.Proofs.YtbdnabmmlbiomaaGreat
open Go.V Go
def e_ (ks kv:Nat) (p:Pg) (pl:Nat) (ld pd qd:D) (P Q:List Nat) (L:List VL):List bC:=
 .box kv (.mem 0 false [p.cd,p.sd,.int .i64 (pl:Nat),ld,.ptr ks 0 0])::.box ks (.mem 0 false [pd,qd])::.aM pd 1 (P.map gb)::.aM qd 2 (Q.map na)::.aM ld 12 (L.map fG)::L.map nR
theorem tt {A:List bC} {N:Nat} {S st:St} {ks kv:Nat} {p:Pg} {pl:Nat} {ld:D} {L:List VL} {H:List bC} (h:MH A N S st ks kv p pl ld L H):∃pd qd P Q sn,Has N S st (A++(e_ ks kv p pl ld pd qd P Q L++H))∧dj P Q sn∧sn.length=p.code.length:=by
 obtain⟨pd,qd,P,Q,sn,hH,h1,h2⟩:=h;exact⟨pd,qd,P,Q,sn,by simpa only[e_,List.cons_append] using hH,h1,h2⟩
theorem Aa {A:List bC} {N:Nat} {S st:St} {ks kv:Nat} {p:Pg} {pl:Nat} {ld:D} {L:List VL} {H:List bC} {pd qd:D} {P Q:List Nat} {sn:List Bool} (hH:Has N S st (A++(e_ ks kv p pl ld pd qd P Q L++H))) (h1:dj P Q sn) (h2:sn.length=p.code.length):MH A N S st ks kv p pl ld L H:=
 ⟨pd,qd,P,Q,sn,by simpa only[e_,List.cons_append] using hH,h1,h2⟩
def MM (A:List bC) (N:Nat) (S st:St) (ks kv:Nat) (p:Pg) (pl:Nat) (ld:D) (L:List VL) (pO rz:Nat) (p2:Pg) (zW:Nat) (wR:D) (L2:List VL):Prop:=
 ∃pd qd P Q sn EY EW P2 Q2 ME,Has N S st (A++(e_ ks kv p pl ld pd qd P Q L++e_ pO rz p2 zW wR EY EW P2 Q2 L2))∧dj P Q sn∧sn.length=p.code.length∧dj P2 Q2 ME∧ME.length=p2.code.length
section
variable{A:List bC} {N:Nat} {S st:St} {ks kv pO rz:Nat} {p p2:Pg} {pl zW:Nat} {ld wR:D} {L L2:List VL}
theorem MM.one (h:MM A N S st ks kv p pl ld L pO rz p2 zW wR L2):∃H,MH [] N S st ks kv p pl ld L H∧∀(B:List bC) (ah:St) (xK:Nat) (uR:D) (L':List VL),MH B N S ah ks kv p xK uR L' H→MM (B++A) N S ah ks kv p xK uR L' pO rz p2 zW wR L2:=by
 obtain⟨pd,qd,P,Q,sn,EY,EW,P2,Q2,ME,hH,h1,h2,h3,h4⟩:=h
 refine⟨e_ pO rz p2 zW wR EY EW P2 Q2 L2++A,Aa (by
  have a:=Has.mw A (e_ ks kv p pl ld pd qd P Q L++e_ pO rz p2 zW wR EY EW P2 Q2 L2) (H:=[]) (by rw[List.append_nil];exact hH);rw[List.append_nil,List.append_assoc] at a
  exact a) h1 h2,fun B ah xK uR L' hM=>?_⟩
 obtain⟨EZ,EX,P',Q',Vy,hH',T6,RG⟩:=tt hM;refine⟨EZ,EX,P',Q',Vy,EY,EW,P2,Q2,ME,?_,T6,RG,h3,h4⟩
 have a:=Has.mw (B++(e_ ks kv p xK uR EZ EX P' Q' L'++e_ pO rz p2 zW wR EY EW P2 Q2 L2)) A (H:=[]) (by rw[List.append_nil];simpa only[List.append_assoc] using hH');have b:Has N S ah (A++(B++((e_ ks kv p xK uR EZ EX P' Q' L'++e_ pO rz p2 zW wR EY EW P2 Q2 L2)++[]))):=by simpa only[List.append_assoc] using a
 have c:=Has.mw _ _ b;rw[List.append_nil] at c
 simpa only[List.append_assoc] using c
theorem MM.drop (n:Nat) (h:MM A N S st ks kv p pl ld L pO rz p2 zW wR L2) (hn:n≤A.length):MM (A.drop n) N S st ks kv p pl ld L pO rz p2 zW wR L2:=by
 obtain⟨pd,qd,P,Q,sn,EY,EW,P2,Q2,ME,hH,h1,h2,h3,h4⟩:=h;refine⟨pd,qd,P,Q,sn,EY,EW,P2,Q2,ME,?_,h1,h2,h3,h4⟩;have:=hH.drop n
 rwa [List.drop_append_of_le_length hn] at this
theorem MM.has (h:MM A N S st ks kv p pl ld L pO rz p2 zW wR L2):Has N S st A:=by
 obtain⟨pd,qd,P,Q,sn,EY,EW,P2,Q2,ME,hH,_⟩:=h;have:=hH.take A.length
 rwa [List.take_left] at this
theorem MM.made {pd qd:D} {P Q:List Nat} {sn:List Bool} (h:MH [] N S st ks kv p pl ld L (e_ pO rz p2 zW wR pd qd P Q L2++A)) (h1:dj P Q sn) (h2:sn.length=p2.code.length):MM A N S st ks kv p pl ld L pO rz p2 zW wR L2:=by
 obtain⟨EZ,EX,P',Q',Vy,hH,h3,h4⟩:=tt h;refine⟨EZ,EX,P',Q',Vy,pd,qd,P,Q,sn,?_,h3,h4,h1,h2⟩;have a:=Has.mw (e_ ks kv p pl ld EZ EX P' Q' L++e_ pO rz p2 zW wR pd qd P Q L2) A (H:=[]) (by rw[List.append_nil];simpa only[List.nil_append,List.append_assoc] using hH)
 rwa [List.append_nil] at a
end
end Go.Proofs.YtbdnabmmlbiomaaGreat
namespace Go.Proofs.YtbdnabmmlbiomaaGreat
open Go.V Go
def ox (fr:Go.V.Fr) (k:Nat):Go.V.D:=Go.V.nth .bD fr.loc k
theorem Has.over {N:Nat} {S st ah:St} {H H2:List bC} (h:Has N S st H) (h2:Has st.bs.length st ah H2):Has N S ah (H2++H):=by
 have hN:=h.hN;have hl:=h.ex.len;have mh:=h2.ex.len;refine⟨⟨fun k hk=>?_,by omega,h2.ex.flr.trans h.ex.flr,h2.ex.ro.trans h.ex.ro⟩,hN,h.et,fun i e hi=>?_,fun i j a b hij ha hb k sE ja=>?_⟩
 ·rw[h2.ex.low k (by omega)];exact h.ex.low k hk
 ·by_cases hlt:i<H2.length
  ·rw[List.getElem?_append_left hlt] at hi;obtain⟨h3,h4⟩:=h2.ok i e hi;exact⟨h3,fun k hk=>⟨by have:=(h4 k hk).1;omega,(h4 k hk).2⟩⟩
  ·rw[List.getElem?_append_right (by omega)] at hi;obtain⟨h3,h4⟩:=h.ok _ e hi;exact⟨e.loc (fun k hk=>h2.ex.low k (h4 k hk).2) h3,fun k hk=>⟨(h4 k hk).1,by have:=(h4 k hk).2;omega⟩⟩
 ·by_cases h1:i<H2.length<;>by_cases h3:j<H2.length
  ·rw[List.getElem?_append_left h1] at ha;rw[List.getElem?_append_left h3] at hb;exact h2.dis i j a b hij ha hb k sE ja
  ·rw[List.getElem?_append_left h1] at ha;rw[List.getElem?_append_right (by omega)] at hb;have:=((h2.ok _ a ha).2 k sE).1;have:=((h.ok _ b hb).2 k ja).2;omega
  ·rw[List.getElem?_append_right (by omega)] at ha;rw[List.getElem?_append_left h3] at hb;have:=((h2.ok _ b hb).2 k ja).1;have:=((h.ok _ a ha).2 k sE).2;omega
  ·rw[List.getElem?_append_right (by omega)] at ha hb;exact h.dis _ _ a b (by omega) ha hb k sE ja
theorem za {N:Nat} {S s0:St} {H:List bC} {x:D} {L:List VL} (hF:S.flr≤N) (vy:L.length≤1000) (hx:Arg N S 12 x (L.map fG)) (ht:∀l∈L,Arg N S 11 l.td (l.eL.map br)∧l.eL.length≤1000) (hH:Has N S s0 H):
  ∃d ah,Ev pv 57 [x] s0 d ah∧∃L':List VL,L'.map VL.pl=L.map VL.pl∧Has N S ah (.aM d 12 (L'.map fG)::(L'.map nR++H)):=by
 refine Ev.iC rfl Uc rfl rfl rfl ?_;dsimp only[u3,u4,List.length,Nat.reduceSub,Nat.reduceAdd,w1,w2];change ag _ _ _ _ s0 _;refine qq<|qj fun K hK=>qm ?_;refine qe hK<|qq<|qj fun K hK=>qm ?_;refine qe hK<|qq<|qq<|qj fun K hK=>qm ?_;refine qn ?_;simp only[List.length_map];refine qm ?_;refine qe hK<|ag.block<|ag.loop (fun mm fr st=>∃(i:Nat) (y:D) (M:List VL),fr.clean=⟨9,[ox fr 0,ox fr 1,ox fr 2,y,ox fr 4,ox fr 5,x,.int .i64 (L.length:Nat),.int .i64 (i:Nat)],[]⟩∧Has N S st (.aM y 12 (M.map fG)::(M.map nR++H))∧(i+mm=L.length)∧(M.map VL.pl=(L.take i).map VL.pl)) (L.length) ?_ ?_
 ·exact⟨0,.nul,[],rfl,(hH.er 12),by omega,rfl⟩
 rintro mm fr st ⟨i,y,M,hfr,hH,hi,hM⟩;rw[hfr];clear hfr;generalize ox fr=ee;clear fr
 have hMl:M.length=i:=by
  have:=congrArg List.length hM;rw[List.length_map,List.length_map,List.length_take] at this;omega
 refine qq<|qj fun K hK=>qg ?_;refine qe hK<|qq ?_;refine ag.cond (by rfl) (fun hlt=>?_) (fun hlt=>?_)<;>try simp only[decide_eq_true_eq,decide_eq_false_iff_not] at hlt
 ·refine ag.skip ?_;have hil:i<L.length:=by omega
  obtain⟨l,hl⟩:∃l,L[i]?=some l:=⟨L[i]'hil,List.getElem?_eq_getElem _⟩
  obtain⟨V',sD⟩:=ht l (List.mem_of_getElem? hl);have iv:=ue hl;refine qq<|ag.block<|qq<|qj fun K hK=>qr fun Sd DK=>?_;refine aa.dJ rfl (ev rfl) (by assumption) rfl (ab rfl _) ?_;refine qa hH fun k5 st E6 hH=>?_;refine qS hH au fun st hH=>?_;dsimp only[u2,u1,u3,u4,setMany,u5,u6,D.cells,Nat.reduceAdd,aG,br,bL,aw,fG,nM] at hH;refine qe hK ?_;have hH:=hH.er 11;refine qq<|qj fun K hK=>qp (o:=11) ?_;refine ql hH aS ?_;refine aa.bP (s:=11) hH rfl (ev rfl) (ev rfl) (by exact au) (by exact Arg.rows (by assumption) hH) rfl rfl rfl rfl rfl rfl rfl ⟨(Nat.le_of_ble_eq_true rfl),(Nat.le_of_ble_eq_true rfl)⟩ (fun _=>(ab rfl _)) (by simp only[List.length_nil,List.length_map]<;>omega) (by exact .inl hF) (fun YT st hH=>?_);dsimp only[u2,u1,u3,u4,setMany,u5,u6,D.cells,Nat.reduceAdd,aG,br,bL,aw,fG,nM] at hH;refine qp (o:=11) ?_;refine qT hH aS (fun st hH=>?_) (iS:=hH.cm au);dsimp only[u2,u1,u3,u4,setMany,u5,u6,D.cells,Nat.reduceAdd,aG,br,bL,aw,fG,nM] at hH;refine qe hK<|qj fun K hK=>qm ?_;refine aa.bk (m:=12) hH rfl (ev rfl) (by exact aS) (by dsimp only[List.drop_succ_cons,List.drop_zero,List.take_succ_cons,List.take_zero,aG,br,bL,aw,fG,nM]<;>rfl) rfl rfl (ab rfl _) ?_;refine qh (s:=12) (vs:=[_]) hH fun k18 st Xc hH=>?_;refine aa.bP (s:=12) hH rfl (ev rfl) (ev rfl) (by exact bf) (by exact hH.rows (by exact au)) rfl rfl rfl rfl rfl rfl rfl ⟨(Nat.le_of_ble_eq_true rfl),(Nat.le_of_ble_eq_true rfl)⟩ (fun _=>(ab rfl _)) (by simp only[List.length_cons,List.length_nil,List.length_map]<;>omega) (by exact .inl hF) (fun Rr st hH=>?_);dsimp only[u2,u1,u3,u4,setMany,u5,u6,D.cells,Nat.reduceAdd,aG,br,bL,aw,fG,nM] at hH;refine qm ?_;refine qe hK<|qj fun K hK=>qA ?_;refine qm ?_;refine qe hK ?_;have hH:=(hH.drop 1).erase 1;have hH:=Has.mw [_] (_::M.map nR) hH;refine⟨mm-1,by omega,⟨i+1,Rr,M++[⟨l.dn,l.a_,YT,l.eL⟩],rfl,?_,by omega,?_⟩⟩
  ·rw[List.map_append,List.map_append,List.append_assoc];exact hH
  ·rw[List.map_append,hM,List.take_add_one,hl,Option.toList_some,List.map_append];rfl
 ·refine ag.exit ?_;have hil:i=L.length:=by omega
  refine qq<|qj fun K hK=>qm ?_;refine qm ?_;refine qe hK<|ag.ret ⟨rx,_,_,_,rfl,rfl,?_⟩;rw[List.take_of_length_le (by omega)] at hM;exact⟨M,hM,hH⟩
theorem Ff {N ks kv:Nat} {S s0:St} {H:List bC} {p:Pg} {pl:Nat} {ld:D} {L:List VL} (hF:S.flr≤N) (hp:p.ok) (hR:bB p) (hA:AM N S kv ks p pl ld L) (hH:Has N S s0 H):
  ∃r ah,Ev pv 116 [.ptr kv 0 0] s0 r ah∧∃rz pO,r=.ptr rz 0 0∧MH [] N S ah pO rz p 0 .nul [] H:=by
 have hcl:=hR.cl;have hc:=hp.c.arg N S;refine Ev.iC rfl UH rfl rfl rfl ?_;dsimp only[u3,u4,List.length,Nat.reduceSub,Nat.reduceAdd,w1,w2];change ag _ _ _ _ s0 _;refine qq<|qj fun K hK=>qm ?_;refine qe hK ?_;have Rz:=hA.to hH 0;refine qq<|qj fun K hK=>qm ?_;refine qg ?_;refine qp (o:=0) ?_;refine qp (o:=0) ?_;refine qR ?_;refine qn ?_;simp only[List.length_map];obtain⟨_,st,aN,pO,rfl,pd,qd,P,Q,hH,bd⟩:=ta (n:=p.code.length) hF (by omega) hH;refine qv aN ?_;refine qm ?_;refine qg ?_;refine qg ?_;refine qm ?_;refine qm ?_;refine qe hK ?_;have Rz:=hA.to hH 0;refine qq<|qj fun K hK=>qm ?_;refine qg ?_;refine qp (o:=0) ?_;refine aa.cU (d:=.agg [p.cd,p.sd]) rfl (ev rfl) Rz rfl (ab rfl _) ?_;refine qm ?_;refine aa.go (d:=.agg [p.cd,p.sd,.int .i64 0,.nul,.ptr pO 0 0]) (st1:=_) rfl rfl rfl (ab rfl _) ?_;refine qb hH fun k21 st aa2 hH=>?_;refine qm ?_;refine qe hK<|ag.ret ⟨rx,_,_,_,rfl,rfl,?_⟩;exact⟨k21,pO,rfl,pd,qd,P,Q,_,Has.mw [_] [_,_,_,_] (hH.er 12),bd,by rw[List.length_replicate]⟩
theorem L_ {N ks kv:Nat} {S s0:St} {H:List bC} {p:Pg} {pl:Nat} {ld:D} {L:List VL} (hF:S.flr≤N) (hp:p.ok) (hR:bB p) (vy:L.length≤1000) (E3:∀l∈L,l.eL.length≤1000) (hA:AM N S kv ks p pl ld L) (hH:Has N S s0 H):
  ∃r ah,Ev pv 79 [.ptr kv 0 0] s0 r ah∧∃rz pO wR L2,r=.ptr rz 0 0∧L2.map VL.pl=L.map VL.pl∧MH [] N S ah pO rz p pl wR L2 H:=by
 obtain⟨_,st,aN,rz,pO,rfl,pd,qd,P,Q,sn,hH,bd,eT⟩:=Ff hF hp hR hA hH;dsimp only[u3,u4,u6] at hH;refine Ev.iC rfl Ya rfl rfl rfl ?_;dsimp only[u3,u4,List.length,Nat.reduceSub,Nat.reduceAdd,w1,w2];change ag _ _ _ _ s0 _;refine qq<|qj fun K hK=>qm ?_;refine qe hK<|qq<|qj fun K hK=>qm ?_;refine qv aN ?_;refine qm ?_;refine qe hK ?_;have Ls:=hA.to hH 2;have hp3:=hA.to hH 3;have hb2:=hA.box hH;have Ll:=hA.refs hp hH;change ag _ _ _ _ _ _;refine qq ?_;generalize hK:aT _ _ _ _=K;refine ag.wb rfl ?_;refine cN.cons ?_;refine qm ?_;refine aa.nil ⟨rfl,?_⟩;refine cN.cons ?_;refine qm ?_;refine aa.nil ⟨rfl,?_⟩;refine cN.cons ?_;refine qm ?_;refine aa.nil ⟨rfl,?_⟩;refine cN.cons ?_;refine qg ?_;refine aa.nil ⟨rfl,?_⟩;refine cN.cons ?_;refine qp (o:=2) ?_;refine aa.nil ⟨rfl,?_⟩;refine cN.cons ?_;refine qR ?_;refine aa.nil ⟨rfl,?_⟩;refine cN.cons ?_;refine qm ?_;refine aa.nil ⟨rfl,?_⟩;refine cN.cons ?_;refine qg ?_;refine aa.nil ⟨rfl,?_⟩;refine cN.cons ?_;refine qp (o:=3) ?_;refine aa.nil ⟨rfl,?_⟩;refine cN.cons ?_;refine qR ?_;refine aa.nil ⟨rfl,?_⟩;refine cN.cons ?_;obtain⟨_,st,aN,L2,T4,hH⟩:=za hF vy hA.ld (fun l hl=>⟨hA.td l hl,E3 l hl⟩) hH;have hH:=Has.mw (_::L2.map nR) [_,_,_,_,_] hH;dsimp only[u3,u4] at hH;refine qv aN ?_;refine aa.nil ⟨by exact Bool.and_eq_true_iff.2 ⟨iF rfl rfl rfl hb2 (hA.box hH) hb2 Ll,rfl⟩,?_⟩;refine cN.cons ?_;refine qg ?_;refine aa.nil ⟨rfl,?_⟩;refine cN.cons ?_;refine qp (o:=2) ?_;refine aa.nil ⟨rfl,?_⟩;refine cN.cons ?_;refine qT hH au fun st hH=>?_;dsimp only[u2,u1,u3,u4,setMany,u5,u6,D.cells,Nat.reduceAdd,Pg.cs,aG,aq] at hH;refine aa.nil ⟨rfl,?_⟩;refine cN.cons ?_;refine qg ?_;refine aa.nil ⟨rfl,?_⟩;refine cN.cons ?_;refine qp (o:=3) ?_;refine aa.nil ⟨rfl,?_⟩;refine cN.cons ?_;refine qT hH au (fun st hH=>?_) (iS:=hH.cm bJ);dsimp only[u2,u1,u3,u4,setMany,u5,u6,D.cells,Nat.reduceAdd,Pg.cs,aG,aq] at hH;refine aa.nil ⟨rfl,?_⟩;refine cN.nil ?_;subst hK;refine qq<|qj fun K hK=>qm ?_;refine qm ?_;refine qe hK<|ag.ret ⟨rx,_,_,_,rfl,rfl,?_⟩;exact⟨rz,pO,_,L2,rfl,T4,pd,qd,P,Q,sn,hH.erase 4,bd,eT⟩
end Go.Proofs.YtbdnabmmlbiomaaGreat
namespace Go.Proofs.YtbdnabmmlbiomaaGreat
open Go.V Go
def cu (h j:List UInt8):List D:=(h++j).map gw++[.int .i64 (h.length:Nat)]
theorem nu {h j:List UInt8} (hl:(h++j).length=4):(cu h j).length=5:=by simp[cu] at hl⊢;omega
theorem l5 {h j:List UInt8} (hl:(h++j).length=4):(cu h j).drop 4=[.int .i64 (h.length:Nat)]:=by
 unfold cu;have:((h++j).map gw).length=4:=by rw[List.length_map,hl]
 rw[←this,List.drop_left]
theorem oN {st:St} {k v:Nat} {ar:Bool} {b:List UInt8} {rest:List D} (hm:st.bs[k]?=some (.mem v ar (b.map gw++rest))) {l r:Nat} (u7:l≤r) (hr:r≤b.length):Bytes st (.win k v l (r-l) 1) ((b.take r).drop l):=by
 have hlen:((b.take r).drop l).length=r-l:=by simp;omega
 have:=Rows.win (st:=st) (s:=1) k v l (byteCells ((b.take r).drop l)) ar (b.map gw++rest) (St.mem_of hm) (by rw[bM,hlen];simp;omega) fun i e hi=>by
  simp only[byteCells,List.getElem?_map] at hi;obtain⟨y,hy,rfl⟩:=Option.map_eq_some_iff.1 hi;rw[List.getElem?_drop,List.getElem?_take] at hy
  split at hy
  ·rename_i hlt;have hb:b[l+i*1]?=some y:=by rw[Nat.mul_one];exact hy
   have h2:(b.map gw++rest)[l+i*1]?=some (gw y):=by
    rw[List.getElem?_append_left (by rw[List.length_map];omega),List.getElem?_map,hb];rfl
   rw[List.take_one,List.head?_drop,h2];rfl
  ·cases hy
 rw[bM,hlen] at this;exact this
theorem LM {st:St} {k v n:Nat} {h j:List UInt8} (hm:st.bs[k]?=some (.mem v false (cu h j))) (hl:(h++j).length=4) (hn:n≤h.length) (et:st.ro≤k):
  Ev pv 114 [.ptr k v 0,.int .i64 (n:Nat)] st (.tup []) ⟨st.bs.set k (.mem v false (cu (h.drop n) ((h++j).drop (h.length-n)))),st.flr,st.ro⟩:=by
 refine Ev.oj rfl UI rfl rfl rfl ?_;dsimp only[u3,u4,List.length,Nat.reduceSub,Nat.reduceAdd,w1,w2];have jy:(ai .rw st).bs[k]?=some (.mem v false (cu h j)):=hm
 have gq:k<st.bs.length:=by
  rcases Nat.lt_or_ge k st.bs.length with h'|h'
  ·exact h'
  ·rw[List.getElem?_eq_none h'] at hm;cases hm
 have mh:=hl;rw[List.length_append] at mh;have hcl:=nu hl;have pT:=l5 hl;have oH:∀S:St,S.ro=st.ro→S.iV k 0=true:=fun S hS=>jX (by omega);refine qy ?_;(repeat refine qq ?_);(generalize hK:aT _ _ _ _=K);refine ag.ct ?_
 (refine xT ?_)
 (refine xT ?_)
 (refine xT ?_)
 refine aa.jH (l:=0) (r:=4) rfl rfl rfl rfl rfl jy (by rw[hcl];decide) rfl ?_
 (refine xT ?_)
 (refine xT ?_)
 (refine xT ?_)
 (refine xT ?_)
 (refine xT ?_)
 (refine xT ?_)
 (refine xT ?_)
 refine aa.load (k:=k) (aD:=v) (off:=4) rfl rfl rfl jy (d:=.int .i64 (h.length:Nat)) (by rw[pT];rfl)<|aa.jH (l:=n) (r:=h.length) rfl rfl rfl rfl rfl jy (by rw[hcl];decide) ?_ ?_
 ·show cv 4 (some (.int .i64 (n:Nat))) (some (.int .i64 (h.length:Nat)))=_;simp only[cv,gR,jC];rw[if_pos ⟨by omega,by omega⟩];simp only[Option.bind_some];rw[if_pos ⟨by omega,by omega⟩];rfl
 have SI:=oN (st:=ai .rw st) (l:=n) (r:=h.length) jy hn (by rw[hl];omega);rw[List.take_left] at SI;refine aa.copy (k:=k) (aD:=v) (off:=0) (len:=4) (s:=1) (ys:=byteCells (h.drop n)) (ar:=false) (c:=cu h j) rfl rfl rfl (by show D.win k v (0+n*1) (h.length-n) 1=D.win k v n (h.length-n) 1;congr 1;omega) SI rfl rfl jy (by rw[hcl];decide) ?_ ?_
 ·rw[dP]
  have:∀(b:List UInt8) m,refs ((b.map gw).take m)=0:=by
   intro b m
   induction b generalizing m with
   |nil=>simp[refs]
   |cons y b ih=>cases m with
    |zero=>simp[refs]
    |succ m=>simp only[List.map_cons,List.take_succ_cons,refs,ih];rfl
  rw[this];exact oH _ rfl
 have Mt:(cu h j).take 0++(byteCells (h.drop n)).flatten.take (min (byteCells (h.drop n)).length 4*1)++(cu h j).drop (0+min (byteCells (h.drop n)).length 4*1)=(h.drop n++(h++j).drop (h.length-n)).map gw++[.int .i64 (h.length:Nat)]:=by
  have e1:min (byteCells (h.drop n)).length 4*1=h.length-n:=by rw[bM,List.length_drop];omega
  rw[e1,dP,List.take_zero,List.nil_append,Nat.zero_add];have e2:((h.drop n).map gw).take (h.length-n)=(h.drop n).map gw:=List.take_of_length_le (by rw[List.length_map,List.length_drop];omega);rw[e2];unfold cu;rw[List.drop_append_of_le_length (by rw[List.length_map,hl];omega),←List.map_drop,List.map_append,List.append_assoc]
 rw[Mt];generalize Bz:(h++j).drop (h.length-n)=j';have hl3:(h.drop n++j').length=4:=by rw[←Bz,List.length_append,List.length_drop,List.length_drop,hl];omega
 refine aa.nil ?_;dsimp only[Fr.aE,Fr.put,Fr.clean,Fr.ev,Fr.get,nth,V.look,u1,u2,v1,v2,v3,v4,v5,v6,v7,List.length,u3,u4,Nat.reduceSub,Nat.reduceAdd,List.map];subst hK;refine qy ?_
 have yJ:((ai .rw st).bs.set k (.mem v false ((h.drop n++j').map gw++[.int .i64 (h.length:Nat)])))[k]?=some (.mem v false ((h.drop n++j').map gw++[.int .i64 (h.length:Nat)])):=by
  rw[List.getElem?_set_self (by exact gq)]
 have l9:((h.drop n++j').map gw).length=4:=by rw[List.length_map,hl3]
 generalize hS:(⟨(ai .rw st).bs.set k (.mem v false ((h.drop n++j').map gw++[.int .i64 (h.length:Nat)])),(ai .rw st).flr,(ai .rw st).ro⟩:St)=S;have DN:S.bs[k]?=some (.mem v false ((h.drop n++j').map gw++[.int .i64 (h.length:Nat)])):=by subst hS;exact yJ
 refine ag.ct ?_
 (refine xT ?_)
 (refine xT ?_)
 (refine xT ?_)
 refine aa.load (k:=k) (aD:=v) (off:=4) rfl rfl rfl DN (d:=.int .i64 (h.length:Nat)) (by rw[←l9,List.drop_left];rfl) ?_
 (refine xT ?_)
 (refine xT ?_)
 rw[wrap_i64 (by omega) (by omega)]
 (refine xT ?_)
 (refine xT ?_)
 refine aa.store (k:=k) (aD:=v) (off:=4) (cs:=[.int .i64 ((h.length:Nat)-(n:Nat):Int)]) rfl rfl rfl rfl rfl DN (by rw[List.length_append,l9];exact Nat.le_refl _) (oH S (by subst hS;rfl))<|aa.nil ⟨fun i h=>(by cases h),[],rfl,rr ?_ rfl⟩;subst hS;simp only[ai,List.set_set];rw[List.take_of_length_le (by simp)]
 congr 2
 unfold cu;rw[List.take_left' l9,List.length_drop];have:(((h.drop n++j').map gw++[D.int .i64 (h.length:Nat)]).drop (4+[D.int .i64 ((h.length:Nat)-(n:Nat):Int)].length))=[]:=List.drop_eq_nil_of_le (by simp[l9];simp at l9;omega);have e4:((h.length:Nat):Int)-(n:Nat)=((h.length-n:Nat):Int):=by omega
 rw[this,List.append_nil,e4,Bz]
def de:Nat→List UInt8→List (Nat×Nat)×List UInt8
 |0,l=>([],l)
 |_+1,[]=>([],[])
 |f+1,c::l=>if cP (c::l)=true then([],c::l) else(cM (c::l)::(de f ((c::l).drop (cM (c::l)).2)).1,(de f ((c::l).drop (cM (c::l)).2)).2)
def dO (h:List UInt8) (c:UInt8):List (Nat×Nat)×List UInt8:=de (h.length+1) (h++[c])
def jF:Nat→List UInt8→List UInt8→List UInt8
 |0,_,j=>j
 |_+1,[],j=>j
 |f+1,c::l,j=>if cP (c::l)=true then j else jF f ((c::l).drop (cM (c::l)).2) ((c::l++j).drop ((c::l).length-(cM (c::l)).2))
theorem xC {b:List UInt8} (h:cP b=true):cC b=(0,0,true):=by
 cases b with
 |nil=>simp[cP,cC] at h
 |cons c xs=>
  unfold cP at h;rw[l0] at h⊢
  by_cases h1:b7 c.toNat=0
  ·rw[if_pos h1] at h;simp at h
  by_cases h2:iI c.toNat (b7 c.toNat-1) 1 xs=true
  ·by_cases h3:xs.length<b7 c.toNat-1
   ·rw[if_neg h1,if_pos h2,if_pos h3]
   ·rw[if_neg h1,if_pos h2,if_neg h3] at h;simp at h
  ·rw[if_neg h1,if_neg h2] at h;simp at h
theorem Ej {h js:List UInt8} {j0 c:UInt8} (hl:(h++j0::js).length=4):(cu h (j0::js)).take (0+0+h.length*1)++[gw c]++(cu h (j0::js)).drop (0+0+h.length*1+1)=(h++c::js).map gw++[.int .i64 (h.length:Nat)]:=by
 have e:0+0+h.length*1=(h.map gw).length:=by rw[List.length_map];omega
 have e2:cu h (j0::js)=h.map gw++(gw j0::(js.map gw++[.int .i64 (h.length:Nat)])):=by simp[cu]
 rw[e,e2,List.take_left,←List.drop_drop,List.drop_left];simp
theorem sy {N k s:Nat} {st:St} {x:D} {es:List (List D)} (hk:k<N) (h:V.Acc N st s x es) (bx:ij):V.Acc N ⟨st.bs.set k bx,st.flr,st.ro⟩ s x es:=by
 cases h with
 |nul=>exact .nul
 |win k2 Vv es hN2 Lw he=>exact .win k2 Vv _ hN2 (by simp only;rw[List.getElem?_set_ne (by omega)];exact Lw) he
theorem LX {st:St} {k v:Nat} {h js:List UInt8} {j0 c:UInt8} (hm:st.bs[k]?=some (.mem v false (cu h (j0::js)))) (hl:(h++j0::js).length=4) (et:st.ro≤k):
  Ev pv 75 [.ptr k v 0,.int .u8 (c.toNat:Nat)] st (cB (dO h c).1) ⟨st.bs.set k (.mem v false (cu (dO h c).2 (jF (h.length+1) (h++[c]) js))),st.flr,st.ro⟩:=by
 have gq:k<st.bs.length:=by
  rcases Nat.lt_or_ge k st.bs.length with h'|h'
  ·exact h'
  ·rw[List.getElem?_eq_none h'] at hm;cases hm
 have mh:=hl;rw[List.length_append,List.length_cons] at mh;refine Ev.oj rfl Yd rfl rfl rfl ?_;dsimp only[u3,u4,List.length,Nat.reduceSub,Nat.reduceAdd,w1,w2];have jy:(ai .rw st).bs[k]?=some (.mem v false (cu h (j0::js))):=hm;have pT:=l5 hl;have hcl:=nu hl;have oH:∀S:St,S.ro=st.ro→S.iV k 0=true:=fun S hS=>jX (by omega);refine qy ?_;(repeat refine qq ?_);(generalize hK:aT _ _ _ _=K);refine ag.ct ?_;(repeat(refine xL ?_));refine aa.nil ?_;dsimp only[Fr.aE,Fr.put,Fr.clean,Fr.ev,Fr.get,nth,V.look,u1,u2,v1,v2,v3,v4,v5,v6,v7,List.length,u3,u4,Nat.reduceSub,Nat.reduceAdd,List.map];subst hK;refine qy ?_;(repeat refine qq ?_);(generalize hK:aT _ _ _ _=K);refine ag.ct ?_
 (refine xT ?_)
 (refine xT ?_)
 (refine xT ?_)
 (refine xT ?_)
 refine aa.load (k:=k) (aD:=v) (off:=4) rfl rfl rfl jy (d:=.int .i64 (h.length:Nat)) (by rw[pT];rfl) ?_
 (refine xT ?_)
 (refine xT ?_)
 (refine xT ?_)
 refine aa.P_ (k:=k) (v:=v) (off:=0+0) (m:=4) (s:=1) (i:=h.length) rfl rfl rfl rfl rfl rfl (by omega)<|aa.store (k:=k) (aD:=v) (off:=0+0+h.length*1) (cs:=[gw c]) rfl rfl rfl rfl rfl jy (by rw[hcl];simp;omega) (oH _ rfl) ?_;rw[show(cu h (j0::js)).take (0+0+h.length*1)++[gw c]++(cu h (j0::js)).drop (0+0+h.length*1+[gw c].length)=(h++c::js).map gw++[.int .i64 (h.length:Nat)] from Ej hl];have l9:((h++c::js).map gw).length=4:=by simp;omega
 have hx0:zx st.bs.length k (ai .rw st) ⟨(ai .rw st).bs.set k (.mem v false ((h++c::js).map gw++[.int .i64 (h.length:Nat)])),(ai .rw st).flr,(ai .rw st).ro⟩:=zx.put ⟨fun _ _ _=>rfl,Nat.le_refl _,rfl,rfl⟩ _;generalize XN:(⟨(ai .rw st).bs.set k (.mem v false ((h++c::js).map gw++[.int .i64 (h.length:Nat)])),(ai .rw st).flr,(ai .rw st).ro⟩:St)=S1 at hx0⊢;have yJ:S1.bs[k]?=some (.mem v false ((h++c::js).map gw++[.int .i64 (h.length:Nat)])):=by subst XN;exact List.getElem?_set_self gq
 refine aa.nil ?_;dsimp only[Fr.aE,Fr.put,Fr.clean,Fr.ev,Fr.get,nth,V.look,u1,u2,v1,v2,v3,v4,v5,v6,v7,List.length,u3,u4,Nat.reduceSub,Nat.reduceAdd,List.map];subst hK;refine qy ?_;(repeat refine qq ?_);(generalize hK:aT _ _ _ _=K);refine ag.ct ?_
 (refine xT ?_)
 (refine xT ?_)
 (refine xT ?_)
 refine aa.load (k:=k) (aD:=v) (off:=4) rfl rfl rfl yJ (d:=.int .i64 (h.length:Nat)) (by rw[←l9,List.drop_left];rfl) ?_
 (refine xT ?_)
 rw[wrap_i64 (by omega) (by omega)]
 (refine xT ?_)
 (refine xT ?_)
 refine aa.store (k:=k) (aD:=v) (off:=4) (cs:=[.int .i64 ((h.length:Nat)+1:Int)]) rfl rfl rfl rfl rfl yJ (by rw[List.length_append,l9];exact Nat.le_refl _) (oH S1 (by subst XN;rfl)) ?_
 have rJ:((h++c::js).map gw++[D.int .i64 (h.length:Nat)]).take 4++[.int .i64 ((h.length:Nat)+1:Int)]++((h++c::js).map gw++[D.int .i64 (h.length:Nat)]).drop (4+[D.int .i64 ((h.length:Nat)+1:Int)].length)=cu (h++[c]) js:=by
  rw[List.take_left' l9,List.drop_eq_nil_of_le (by rw[List.length_append,l9];exact Nat.le_refl _),List.append_nil];unfold cu;simp
 rw[rJ];have hx1:=hx0.put (.mem v false (cu (h++[c]) js));have DN:(⟨S1.bs.set k (.mem v false (cu (h++[c]) js)),S1.flr,S1.ro⟩:St).bs[k]?=some (.mem v false (cu (h++[c]) js)):=List.getElem?_set_self (by have:=hx0.len;have e:(ai .rw st).bs.length=st.bs.length:=rfl;omega);generalize(⟨S1.bs.set k (.mem v false (cu (h++[c]) js)),S1.flr,S1.ro⟩:St)=S2 at hx1 DN⊢;refine aa.nil ?_;dsimp only[Fr.aE,Fr.put,Fr.clean,Fr.ev,Fr.get,nth,V.look,u1,u2,v1,v2,v3,v4,v5,v6,v7,List.length,u3,u4,Nat.reduceSub,Nat.reduceAdd,List.map];subst hK;refine qy ?_;(repeat refine qq ?_);(generalize hK:aT _ _ _ _=K);refine ag.ct ?_;(repeat(refine xL ?_));refine aa.nil ?_;dsimp only[Fr.aE,Fr.put,Fr.clean,Fr.ev,Fr.get,nth,V.look,u1,u2,v1,v2,v3,v4,v5,v6,v7,List.length,u3,u4,Nat.reduceSub,Nat.reduceAdd,List.map];subst hK;refine qy ?_;(repeat refine qq ?_);refine ag.block ?_;have hlt:((h++[c])++js).length=4:=by simp;omega
 generalize hK0:aT _ _ _ _=K0
 have fin:∀(ah:St) (done:List (Nat×Nat)) (out r n bg:D) (m2:List (Nat×D)) (j:List UInt8),zx st.bs.length k (ai .rw st) ah→Acc st.bs.length ah 2 out (done.map a7)→ah.bs[k]?=some (.mem v false (cu (dO h c).2 j))→done=(dO h c).1→j=jF (h.length+1) (h++[c]) js→
   K0 .next ⟨9,[.ptr k v 0,.int .u8 (c.toNat:Nat),.tup [],.tup [],.nul,out,r,n,bg],m2⟩ ah:=by
  intro ah done out r n bg m2 j hx ma hm hd hj;subst hK0;refine qy ?_;(repeat refine qq ?_);(generalize hK:aT _ _ _ _=K);refine ag.ct ?_;(repeat(first|refine xT ?_|refine xL ?_));refine aa.nil ?_;dsimp only[Fr.aE,Fr.put,Fr.clean,Fr.ev,Fr.get,nth,V.look,u1,u2,v1,v2,v3,v4,v5,v6,v7,List.length,u3,u4,Nat.reduceSub,Nat.reduceAdd,List.map];subst hK;refine qy ?_;refine ag.ret ⟨rx,_,rfl,rr ?_ ?_⟩
  ·have:=hx.take (a:=ai .rw st) gq hm;rw[←hj];exact this
  ·rw[←hd];exact ma.freeze kA (n:=15) (by decide)
 refine ag.loop (fun m fr ah=>∃(f:Nat) (l j:List UInt8) (done:List (Nat×Nat)) (out r n bg:D),fr.clean=⟨9,[.ptr k v 0,.int .u8 (c.toNat:Nat),.tup [],.tup [],.nul,out,r,n,bg],[]⟩∧ah.bs[k]?=some (.mem v false (cu l j))∧(l++j).length=4∧zx st.bs.length k (ai .rw st) ah∧
  Acc st.bs.length ah 2 out (done.map a7)∧m=l.length∧l.length≤f∧done++(de f l).1=(dO h c).1∧(de f l).2=(dO h c).2∧jF f l j=jF (h.length+1) (h++[c]) js∧done.length+l.length≤4) (h.length+1)
  ⟨h.length+1,h++[c],js,[],.nul,_,_,_,rfl,DN,hlt,hx1,.nul,by simp,by simp,rfl,rfl,rfl,by simp;omega⟩ ?_
 clear DN hx1 rJ yJ hx0 XN;rintro m fr ah ⟨f,l,j,done,out,r,n,bg,hfr,w8,QC,hx,ma,rfl,hlf,Qh,SF,hj,TN⟩;rw[hfr];have ZP:=l5 QC;have hN:st.bs.length≤ah.bs.length:=hx.len;have DU:ah.flr=st.bs.length:=by rw[hx.flr];rfl
 have yG:ah.ro=st.ro:=by rw[hx.ro];rfl
 (refine qy ?_);(repeat refine qq ?_);(generalize hK:aT _ _ _ _=K);refine ag.ct ?_
 (refine xT ?_)
 (refine xT ?_)
 (refine xT ?_)
 refine aa.load (k:=k) (aD:=v) (off:=4) rfl rfl rfl w8 (d:=.int .i64 (l.length:Nat)) (by rw[ZP];rfl) ?_;(repeat(refine xT ?_));refine aa.nil ?_;dsimp only[Fr.aE,Fr.put,Fr.clean,Fr.ev,Fr.get,nth,V.look,u1,u2,v1,v2,v3,v4,v5,v6,v7,List.length,u3,u4,Nat.reduceSub,Nat.reduceAdd,List.map];subst hK;refine qy ?_;(repeat refine qq ?_);refine qc (fun h1=>?_) (fun h1=>?_)<;>try simp only[cs] at h1
 ·refine ag.skip ?_;refine qy ?_
  obtain⟨c0,l,rfl⟩:∃a b,l=a::b:=by cases l with|nil=>simp at h1|cons a b=>exact⟨a,b,rfl⟩
  obtain⟨f,rfl⟩:∃f',f=f'+1:=⟨f-1,by simp only[List.length_cons] at hlf;omega⟩
  have hl5:=QC;rw[List.length_append] at hl5;have hne:(c0::l)≠[]:=by simp
  have LD:cP (c0::l)=(cC (c0::l)).2.2:=rfl;generalize yM:c0::l=ll at*;have Mj:de (f+1) ll=if cP ll=true then([],ll) else(cM ll::(de f (ll.drop (cM ll).2)).1,(de f (ll.drop (cM ll).2)).2):=by rw[←yM];rfl
  have ZJ:jF (f+1) ll j=if cP ll=true then j else jF f (ll.drop (cM ll).2) ((ll++j).drop (ll.length-(cM ll).2)):=by rw[←yM];rfl
  have XB:=nu QC;have DD:=oN (st:=ah) (l:=0) (r:=ll.length) w8 (Nat.zero_le _) (by rw[List.length_append];omega);rw[List.take_left,List.drop_zero] at DD;refine qy ?_;(repeat refine qq ?_);refine ag.block ?_;refine qy ?_;(repeat refine qq ?_);(generalize hK:aT _ _ _ _=K);refine ag.ct ?_
  (refine xT ?_)
  (refine xT ?_)
  (refine xT ?_)
  (refine xT ?_)
  (refine xT ?_)
  (refine xT ?_)
  refine aa.load (k:=k) (aD:=v) (off:=4) rfl rfl rfl w8 (d:=.int .i64 (ll.length:Nat)) (by rw[ZP];rfl)<|aa.jH (l:=0) (r:=ll.length) rfl rfl rfl rfl rfl w8 (by rw[XB];decide) ?_ ?_
  ·show cv 4 none (some (.int .i64 (ll.length:Nat)))=_;simp only[cv,gR,jC];rw[if_pos ⟨by omega,by omega⟩];rfl
  refine aa.sa rfl rfl rfl (d:=.tup [.int .i32 ((cC ll).1:Nat),.int .i64 ((cC ll).2.1:Nat),.bool (cC ll).2.2]) (st1:=ah) (rN DD) ?_;(repeat(first|refine xT ?_|refine xL ?_));refine aa.nil ?_;dsimp only[Fr.aE,Fr.put,Fr.clean,Fr.ev,Fr.get,nth,V.look,u1,u2,v1,v2,v3,v4,v5,v6,v7,List.length,u3,u4,Nat.reduceSub,Nat.reduceAdd,List.map];subst hK;refine qy ?_;(repeat refine qq ?_);(generalize hK:aT _ _ _ _=K);refine ag.ct ?_;(repeat(refine xT ?_));refine aa.nil ?_;dsimp only[Fr.aE,Fr.put,Fr.clean,Fr.ev,Fr.get,nth,V.look,u1,u2,v1,v2,v3,v4,v5,v6,v7,List.length,u3,u4,Nat.reduceSub,Nat.reduceAdd,List.map];subst hK;refine qy ?_;(repeat refine qq ?_);refine qc (fun h2=>?_) (fun h2=>?_)<;>try simp only[cs] at h2
  ·refine ag.exit ?_;rw[←LD] at h2;rw[Mj,if_pos h2] at Qh SF;rw[ZJ,if_pos h2] at hj;refine fin ah done out _ _ _ _ j hx ma ?_ ?_ hj
   ·rw[←SF];exact w8
   ·rw[←Qh,List.append_nil]
  refine ag.skip ?_;refine qy ?_;have RG:¬cP ll=true:=by rw[LD,h2];simp
  rw[Mj,if_neg RG] at Qh SF;rw[ZJ,if_neg RG] at hj;have jT:=lP hne;have hgp:=eo ll;generalize hf:cC ll=F at*;obtain⟨r0,n0,bg0⟩:=F;refine qy ?_;(repeat refine qq ?_);(generalize hK:aT _ _ _ _=K);refine ag.ct ?_;(repeat(refine xT ?_));refine aa.nil ?_;dsimp only[Fr.aE,Fr.put,Fr.clean,Fr.ev,Fr.get,nth,V.look,u1,u2,v1,v2,v3,v4,v5,v6,v7,List.length,u3,u4,Nat.reduceSub,Nat.reduceAdd,List.map];subst hK;refine qy ?_;generalize hK:aT _ _ _ _=K
  have H:∀m2,K .next ⟨9,[.ptr k v 0,.int .u8 (c.toNat:Nat),.tup [],.tup [],.nul,out,.int .i32 ((cM ll).1:Nat),.int .i64 ((cM ll).2:Nat),.bool bg0],m2⟩ ah:=by
   intro m2;subst hK;generalize hg:cM ll=g at*;refine qy ?_;(repeat refine qq ?_);(generalize hK:aT _ _ _ _=K);refine ag.ct ?_
   (refine xT ?_)
   (refine xT ?_)
   (refine xT ?_)
   refine aa.T rfl rfl rfl (d:=.agg (a7 g)) (st1:=ah) rfl<|aa.T rfl rfl rfl (d:=.win ah.bs.length 0 0 1 2) (st1:=ah.push (.mem 0 true (a7 g))) rfl<|aa.append rfl rfl rfl rfl (ma.push _) (Rows.one rfl) rfl rfl rfl rfl rfl rfl rfl (by decide) (by simp[St.push];omega) (by show ah.flr≤_;omega) (by show ah.ro≤_;omega) (by simp only[List.length_map,List.length_cons,List.length_nil];show(done.length+1)*16≤_;omega) fun C6 st2 xf w_ _ tF _=>?_;(repeat(refine xL ?_));refine aa.nil ?_;dsimp only[Fr.aE,Fr.put,Fr.clean,Fr.ev,Fr.get,nth,V.look,u1,u2,v1,v2,v3,v4,v5,v6,v7,List.length,u3,u4,Nat.reduceSub,Nat.reduceAdd,List.map];subst hK;refine qy ?_;have DB:zx st.bs.length k (ai .rw st) st2:=(hx.of (Ex.push hN (.mem 0 true (a7 g)))).of w_
   have RB:st2.bs[k]?=some (.mem v false (cu ll j)):=by
    rw[w_.low k (by omega)];simp only[St.push];rw[List.getElem?_append_left (by omega)];exact w8
   have SQ:st2.ro=st.ro:=by rw[DB.ro];rfl
   (refine qy ?_);(repeat refine qq ?_);(generalize hK:aT _ _ _ _=K);refine ag.ct ?_
   (refine xT ?_)
   (refine xT ?_)
   refine aa.sa rfl rfl rfl (LM RB QC jT (by omega)) ?_;(repeat(first|refine xT ?_|refine xL ?_|refine xN ?_|refine xo ?_|refine xp ?_));refine aa.nil ?_;dsimp only[Fr.aE,Fr.put,Fr.clean,Fr.ev,Fr.get,nth,V.look,u1,u2,v1,v2,v3,v4,v5,v6,v7,List.length,u3,u4,Nat.reduceSub,Nat.reduceAdd,List.map];subst hK;have hk2:k<st2.bs.length:=by have:=DB.len;have e:(ai .rw st).bs.length=st.bs.length:=rfl;omega
   refine⟨(ll.drop g.2).length,by rw[List.length_drop];omega,f,ll.drop g.2,(ll++j).drop (ll.length-g.2),done++[g],C6,_,_,_,rfl,List.getElem?_set_self hk2,?_,DB.put _,?_,rfl,?_,?_,SF,hj,?_⟩
   ·rw[List.length_append,List.length_drop,List.length_drop,QC];omega
   ·rw[List.map_append];exact sy gq xf _
   ·rw[List.length_drop];omega
   ·rw[←Qh,List.append_assoc,List.singleton_append]
   ·rw[List.length_append,List.length_drop];simp only[List.length_cons,List.length_nil];omega
  (refine qy ?_);(repeat refine qq ?_);refine qc (fun h5=>?_) (fun h5=>?_)<;>try simp only[cs] at h5
  ·refine ag.ct ?_;(repeat(refine xL ?_));refine aa.nil ?_;dsimp only[Fr.aE,Fr.put,Fr.clean,Fr.ev,Fr.get,nth,V.look,u1,u2,v1,v2,v3,v4,v5,v6,v7,List.length,u3,u4,Nat.reduceSub,Nat.reduceAdd,List.map];have:cM ll=(65533,1):=by unfold cM;rw[hf,if_pos (by simpa using h5)]
   rw[this] at H;exact H _
  ·refine ag.skip ?_;have:cM ll=(r0,n0):=by unfold cM;rw[hf,if_neg (by simpa using h5)]
   rw[this] at H;exact H _
 ·refine ag.exit ?_
  obtain rfl:l=[]:=by cases l with|nil=>rfl|cons a b=>simp at h1<;>omega
  refine fin ah done out r n bg _ j hx ma ?_ ?_ ?_
  ·have:(dO h c).2=[]:=by rw[←SF];cases f<;>rfl
   rw[this];exact w8
  ·have:(de f ([]:List UInt8)).1=[]:=by cases f<;>rfl
   rw[←Qh,this,List.append_nil]
  ·rw[←hj];cases f<;>rfl
theorem Aq {st:St} {k v:Nat} {h j:List UInt8} (hm:st.bs[k]?=some (.mem v false (cu h j))) (hl:(h++j).length=4) (et:st.ro≤st.bs.length):Ev pv 77 [.ptr k v 0] st (lB h) st:=by
 refine Ev.oj rfl Yc rfl rfl rfl ?_;dsimp only[u3,u4,List.length,Nat.reduceSub,Nat.reduceAdd,w1,w2];have jy:(ai .rw st).bs[k]?=some (.mem v false (cu h j)):=hm;have mh:=hl;rw[List.length_append] at mh;have hcl:=nu hl;have pT:=l5 hl;have DD:=oN (st:=ai .rw st) (l:=0) (r:=h.length) jy (Nat.zero_le _) (by rw[hl];omega);rw[List.take_left,List.drop_zero] at DD;refine qy ?_;(repeat refine qq ?_);(generalize hK:aT _ _ _ _=K);refine ag.ct ?_;(repeat(refine xL ?_));refine aa.nil ?_;dsimp only[Fr.aE,Fr.put,Fr.clean,Fr.ev,Fr.get,nth,V.look,u1,u2,v1,v2,v3,v4,v5,v6,v7,List.length,u3,u4,Nat.reduceSub,Nat.reduceAdd,List.map];subst hK;refine qy ?_;(repeat refine qq ?_);(generalize hK:aT _ _ _ _=K);refine ag.ct ?_
 (refine xT ?_)
 (refine xT ?_)
 (refine xT ?_)
 (refine xT ?_)
 (refine xT ?_)
 (refine xT ?_)
 refine aa.load (k:=k) (aD:=v) (off:=4) rfl rfl rfl jy (d:=.int .i64 (h.length:Nat)) (by rw[pT];rfl)<|aa.jH (l:=0) (r:=h.length) rfl rfl rfl rfl rfl jy (by rw[hcl];decide) ?_ ?_
 ·show cv 4 none (some (.int .i64 (h.length:Nat)))=_;simp only[cv,gR,jC];rw[if_pos ⟨by omega,by omega⟩];rfl
 refine aa.append (N:=st.bs.length) (x:=.nul) (es:=[]) (y:=.win k v 0 (h.length-0) 1) (ys:=byteCells h) rfl rfl rfl rfl .nul DD rfl rfl rfl rfl rfl rfl rfl (by decide) (Nat.le_refl _) (Nat.le_refl _) et (by rw[bM];show(0+h.length)*1≤_;omega) fun x' st2 ma hex _ _ _=>?_;rw[List.nil_append] at ma;(repeat(refine xL ?_));refine aa.nil ?_;dsimp only[Fr.aE,Fr.put,Fr.clean,Fr.ev,Fr.get,nth,V.look,u1,u2,v1,v2,v3,v4,v5,v6,v7,List.length,u3,u4,Nat.reduceSub,Nat.reduceAdd,List.map];subst hK;refine qy ?_;refine ag.ret ⟨rx,_,rfl,bO (by simp) (hex.take rfl) ?_⟩;exact ma.freeze (h_ h) (n:=15) (by decide)
def gU (n:Nat):List (Nat×Nat):=List.replicate n (65533,1)
theorem Q9 {st:St} {k v:Nat} {h j:List UInt8} (hm:st.bs[k]?=some (.mem v false (cu h j))) (hl:(h++j).length=4) (et:st.ro≤k):
  Ev pv 80 [.ptr k v 0] st (cB (gU h.length)) ⟨st.bs.set k (.mem v false (cu [] (h++j))),st.flr,st.ro⟩:=by
 have gq:k<st.bs.length:=by
  rcases Nat.lt_or_ge k st.bs.length with h'|h'
  ·exact h'
  ·rw[List.getElem?_eq_none h'] at hm;cases hm
 have mh:=hl;rw[List.length_append] at mh;refine Ev.oj rfl X' rfl rfl rfl ?_;dsimp only[u3,u4,List.length,Nat.reduceSub,Nat.reduceAdd,w1,w2];have l9:((h++j).map gw).length=4:=by rw[List.length_map,hl]
 have oH:∀S:St,S.ro=st.ro→S.iV k 0=true:=fun S hS=>jX (by omega);have W3:(ai .rw st).bs[k]?=some (.mem v false ((h++j).map gw++[.int .i64 (h.length:Nat)])):=hm;refine qy ?_;(repeat refine qq ?_);(generalize hK:aT _ _ _ _=K);refine ag.ct ?_;(repeat(refine xL ?_));refine aa.nil ?_;dsimp only[Fr.aE,Fr.put,Fr.clean,Fr.ev,Fr.get,nth,V.look,u1,u2,v1,v2,v3,v4,v5,v6,v7,List.length,u3,u4,Nat.reduceSub,Nat.reduceAdd,List.map];subst hK;refine qy ?_;(repeat refine qq ?_);(generalize hK:aT _ _ _ _=K);refine ag.ct ?_;(repeat(refine xL ?_));refine aa.nil ?_;dsimp only[Fr.aE,Fr.put,Fr.clean,Fr.ev,Fr.get,nth,V.look,u1,u2,v1,v2,v3,v4,v5,v6,v7,List.length,u3,u4,Nat.reduceSub,Nat.reduceAdd,List.map];subst hK;refine qy ?_;(repeat refine qq ?_);refine ag.block<|ag.loop (fun m fr ah=>∃(done:Nat) (out:D),fr.clean=⟨4,[.ptr k v 0,.tup [],.nul,out],[]⟩∧ah.bs[k]?=some (.mem v false ((h++j).map gw++[.int .i64 (m:Nat)]))∧zx st.bs.length k (ai .rw st) ah∧Acc st.bs.length ah 2 out ((gU done).map a7)∧done+m=h.length) h.length
  ⟨0,.nul,rfl,W3,⟨fun _ _ _=>rfl,Nat.le_refl _,rfl,rfl⟩,.nul,by omega⟩ ?_
 rintro m fr ah ⟨done,out,hfr,w8,hx,ma,hdm⟩;rw[hfr];have hN:st.bs.length≤ah.bs.length:=hx.len;have DU:ah.flr=st.bs.length:=by rw[hx.flr];rfl
 have yG:ah.ro=st.ro:=by rw[hx.ro];rfl
 (refine qy ?_);(repeat refine qq ?_);(generalize hK:aT _ _ _ _=K);refine ag.ct ?_
 (refine xT ?_)
 (refine xT ?_)
 (refine xT ?_)
 refine aa.load (k:=k) (aD:=v) (off:=4) rfl rfl rfl w8 (d:=.int .i64 (m:Nat)) (by rw[←l9,List.drop_left];rfl) ?_;(repeat(refine xT ?_));refine aa.nil ?_;dsimp only[Fr.aE,Fr.put,Fr.clean,Fr.ev,Fr.get,nth,V.look,u1,u2,v1,v2,v3,v4,v5,v6,v7,List.length,u3,u4,Nat.reduceSub,Nat.reduceAdd,List.map];subst hK;refine qy ?_;(repeat refine qq ?_);refine qc (fun h1=>?_) (fun h1=>?_)<;>try simp only[cs] at h1
 ·refine ag.skip ?_;refine qy ?_
  obtain⟨m,rfl⟩:∃m',m=m'+1:=⟨m-1,by omega⟩
  (refine qy ?_);(repeat refine qq ?_);refine ag.block ?_;refine qy ?_;(repeat refine qq ?_);(generalize hK:aT _ _ _ _=K);refine ag.ct ?_
  (refine xT ?_)
  refine aa.T rfl rfl rfl (d:=.agg (a7 (65533,1))) (st1:=ah) rfl<|aa.T rfl rfl rfl (d:=.win ah.bs.length 0 0 1 2) (st1:=ah.push (.mem 0 true (a7 (65533,1)))) rfl<|aa.append rfl rfl rfl rfl (ma.push _) (Rows.one rfl) rfl rfl rfl rfl rfl rfl rfl (by decide) (by simp[St.push];omega) (by show ah.flr≤_;omega) (by show ah.ro≤_;omega) (by simp only[List.length_map,List.length_cons,List.length_nil,gU,List.length_replicate];show(done+1)*16≤_;omega) fun C6 st2 xf w_ _ tF _=>?_;(repeat(refine xL ?_));refine aa.nil ?_;dsimp only[Fr.aE,Fr.put,Fr.clean,Fr.ev,Fr.get,nth,V.look,u1,u2,v1,v2,v3,v4,v5,v6,v7,List.length,u3,u4,Nat.reduceSub,Nat.reduceAdd,List.map];subst hK;refine qy ?_;have DB:zx st.bs.length k (ai .rw st) st2:=(hx.of (Ex.push hN (.mem 0 true (a7 (65533,1))))).of w_
  have RB:st2.bs[k]?=some (.mem v false ((h++j).map gw++[.int .i64 ((m+1:Nat):Int)])):=by
   rw[w_.low k (by omega)];simp only[St.push];rw[List.getElem?_append_left (by omega)];exact w8
  have SQ:st2.ro=st.ro:=by rw[DB.ro];rfl
  have hk2:k<st2.bs.length:=by have:=DB.len;have e:(ai .rw st).bs.length=st.bs.length:=rfl;omega
  (refine qy ?_);(repeat refine qq ?_);(generalize hK:aT _ _ _ _=K);refine ag.ct ?_
  (refine xT ?_)
  (refine xT ?_)
  (refine xT ?_)
  refine aa.load (k:=k) (aD:=v) (off:=4) rfl rfl rfl RB (d:=.int .i64 ((m+1:Nat):Int)) (by rw[←l9,List.drop_left];rfl) ?_
  (refine xT ?_)
  rw[wrap_i64 (by omega) (by omega),show((m+1:Nat):Int)-1=(m:Nat) by omega]
  (refine xT ?_)
  (refine xT ?_)
  refine aa.store (k:=k) (aD:=v) (off:=4) (cs:=[.int .i64 (m:Nat)]) rfl rfl rfl rfl rfl RB (by rw[List.length_append,l9];exact Nat.le_refl _) (oH st2 SQ) ?_
  have rJ:((h++j).map gw++[D.int .i64 ((m+1:Nat):Int)]).take 4++[.int .i64 (m:Nat)]++((h++j).map gw++[D.int .i64 ((m+1:Nat):Int)]).drop (4+[D.int .i64 (m:Nat)].length)=(h++j).map gw++[.int .i64 (m:Nat)]:=by
   rw[List.take_left' l9,List.drop_eq_nil_of_le (by rw[List.length_append,l9];exact Nat.le_refl _),List.append_nil]
  rw[rJ];refine aa.nil ?_;dsimp only[Fr.aE,Fr.put,Fr.clean,Fr.ev,Fr.get,nth,V.look,u1,u2,v1,v2,v3,v4,v5,v6,v7,List.length,u3,u4,Nat.reduceSub,Nat.reduceAdd,List.map];subst hK;refine⟨m,by omega,done+1,C6,rfl,List.getElem?_set_self hk2,DB.put _,?_,by omega⟩
  have:(gU (done+1)).map a7=(gU done).map a7++[a7 (65533,1)]:=by
   unfold gU;rw[List.replicate_succ',List.map_append];rfl
  rw[this];exact sy gq xf _
 ·refine ag.exit ?_;have jy:m=0:=by omega
  subst jy;have hd:done=h.length:=by omega
  subst hd;refine qy ?_;(repeat refine qq ?_);(generalize hK:aT _ _ _ _=K);refine ag.ct ?_;(repeat(first|refine xT ?_|refine xL ?_));refine aa.nil ?_;dsimp only[Fr.aE,Fr.put,Fr.clean,Fr.ev,Fr.get,nth,V.look,u1,u2,v1,v2,v3,v4,v5,v6,v7,List.length,u3,u4,Nat.reduceSub,Nat.reduceAdd,List.map];subst hK;refine qy ?_;refine ag.ret ⟨rx,_,rfl,rr ?_ ?_⟩
  ·exact hx.take (a:=ai .rw st) gq w8
  ·exact ma.freeze kA (n:=15) (by decide)
theorem yq (st:St):Ev pv 72 [] st (.ptr st.bs.length 0 0) (st.push (.mem 0 false (cu [] [0,0,0,0]))):=by
 refine Ev.oj rfl Yf rfl rfl rfl ?_;dsimp only[u3,u4,List.length,Nat.reduceSub,Nat.reduceAdd,w1,w2];refine qy ?_;(repeat refine qq ?_);(generalize hK:aT _ _ _ _=K);refine ag.ct ?_;(repeat(refine xL ?_));refine aa.nil ?_;dsimp only[Fr.aE,Fr.put,Fr.clean,Fr.ev,Fr.get,nth,V.look,u1,u2,v1,v2,v3,v4,v5,v6,v7,List.length,u3,u4,Nat.reduceSub,Nat.reduceAdd,List.map];subst hK;refine qy ?_;(repeat refine qq ?_);(generalize hK:aT _ _ _ _=K);refine ag.ct ?_;(repeat(first|refine xT ?_|refine xL ?_));refine aa.nil ?_;dsimp only[Fr.aE,Fr.put,Fr.clean,Fr.ev,Fr.get,nth,V.look,u1,u2,v1,v2,v3,v4,v5,v6,v7,List.length,u3,u4,Nat.reduceSub,Nat.reduceAdd,List.map];subst hK;refine qy ?_;exact ag.ret ⟨rx,_,rfl,rfl⟩
theorem Sf {st:St} {x:D} {h:List UInt8} (hb:Bytes st x h) (bd:cP h=true∨h=[]) (h3:h.length≤3) (et:st.ro≤st.bs.length):
  Ev pv 78 [x] st (.tup [.ptr st.bs.length 0 0,.int .i64 0]) (st.push (.mem 0 false (cu h (([0,0,0,0]:List UInt8).drop h.length)))):=by
 have hx:=hb.ref;have hbl:=bM h;refine Ev.oj rfl Yb rfl rfl rfl ?_;dsimp only[u3,u4,List.length,Nat.reduceSub,Nat.reduceAdd,w1,w2];refine qy ?_;(repeat refine qq ?_);(generalize hK:aT _ _ _ _=K);refine ag.ct ?_;(repeat(refine xL ?_));refine aa.nil ?_;dsimp only[Fr.aE,Fr.put,Fr.clean,Fr.ev,Fr.get,nth,V.look,u1,u2,v1,v2,v3,v4,v5,v6,v7,List.length,u3,u4,Nat.reduceSub,Nat.reduceAdd,List.map];subst hK;refine qy ?_;(repeat refine qq ?_);(generalize hK:aT _ _ _ _=K);refine ag.ct ?_
 (refine xT ?_)
 refine aa.sa rfl rfl rfl (rN hb) ?_;(repeat(first|refine xT ?_|refine xL ?_));refine aa.nil ?_;dsimp only[Fr.aE,Fr.put,Fr.clean,Fr.ev,Fr.get,nth,V.look,u1,u2,v1,v2,v3,v4,v5,v6,v7,List.length,u3,u4,Nat.reduceSub,Nat.reduceAdd,List.map];subst hK;refine qy ?_;have LD:(cC h).2.2=cP h:=rfl;rw[LD];generalize(cC h).1=r0;generalize(cC h).2.1=n0
 cases Vh:cP h with
 |true=>
  (refine qy ?_);(repeat refine qq ?_);(generalize hK:aT _ _ _ _=K);refine ag.ct ?_;(repeat(first|refine xT ?_|refine xo ?_));refine aa.nil ?_;dsimp only[Fr.aE,Fr.put,Fr.clean,Fr.ev,Fr.get,nth,V.look,u1,u2,v1,v2,v3,v4,v5,v6,v7,List.length,u3,u4,Nat.reduceSub,Nat.reduceAdd,List.map];subst hK;refine qy ?_;(repeat refine qq ?_);refine ag.cond (v:=false) rfl (fun h=>by cases h) fun _=>?_;refine qy ?_;refine ag.skip ?_;refine qy ?_;have jy:(st.push (.mem 0 false (cu [] [0,0,0,0]))).bs[st.bs.length]?=some (.mem 0 false (cu [] [0,0,0,0])):=ke st _;have hb1:Bytes (st.push (.mem 0 false (cu [] [0,0,0,0]))) x h:=hb.ex (Ex.push (Nat.le_refl _) _) hx;have oH:∀S:St,S.ro=st.ro→S.iV st.bs.length 0=true:=fun S hS=>jX (by omega);refine qy ?_;(repeat refine qq ?_);(generalize hK:aT _ _ _ _=K);refine ag.ct<|aa.sa rfl rfl rfl (yq st) ?_;(repeat(refine xL ?_));refine aa.nil ?_;dsimp only[Fr.aE,Fr.put,Fr.clean,Fr.ev,Fr.get,nth,V.look,u1,u2,v1,v2,v3,v4,v5,v6,v7,List.length,u3,u4,Nat.reduceSub,Nat.reduceAdd,List.map];subst hK;refine qy ?_;(repeat refine qq ?_);(generalize hK:aT _ _ _ _=K);refine ag.ct ?_
  (refine xT ?_)
  (refine xT ?_)
  (refine xT ?_)
  (refine xT ?_)
  refine aa.jH (k:=st.bs.length) (v:=0) (off:=0) (l:=0) (r:=4) rfl rfl rfl rfl rfl jy (by decide) rfl ?_
  (refine xT ?_)
  refine aa.copy (k:=st.bs.length) (aD:=0) (off:=0) (len:=4) (s:=1) (ys:=byteCells h) (ar:=false) (c:=cu [] [0,0,0,0]) rfl rfl rfl rfl hb1 rfl rfl jy (by decide) ?_ ?_
  ·rw[dP]
   have:∀(b:List UInt8) m,refs ((b.map gw).take m)=0:=by
    intro b m
    induction b generalizing m with
    |nil=>simp[refs]
    |cons y b ih=>cases m with
     |zero=>simp[refs]
     |succ m=>simp only[List.map_cons,List.take_succ_cons,refs,ih];rfl
   rw[this];exact oH _ rfl
  have w6:min (byteCells h).length 4=h.length:=by omega
  rw[w6,dP]
  have Mt:(cu [] [0,0,0,0]).take 0++(h.map gw).take (h.length*1)++(cu [] [0,0,0,0]).drop (0+h.length*1)=(h++([0,0,0,0]:List UInt8).drop h.length).map gw++[.int .i64 0]:=by
   rw[List.take_zero,List.nil_append,Nat.mul_one,Nat.zero_add];have e1:(h.map gw).take h.length=h.map gw:=List.take_of_length_le (by simp);rw[e1,List.map_append,List.append_assoc]
   congr 1
   show([0,0,0,0].map gw++[D.int .i64 0]).drop h.length=_;rw[List.drop_append_of_le_length (by simp;omega),List.map_drop]
  rw[Mt];have hlt:((h++([0,0,0,0]:List UInt8).drop h.length).map gw).length=4:=by simp;omega
  have hT:∃T:List D,T=(h++([0,0,0,0]:List UInt8).drop h.length).map gw:=⟨_,rfl⟩
  obtain⟨T,hT⟩:=hT;rw[←hT] at hlt⊢;have Al:∀b b':ij,(⟨(st.push b).bs.set st.bs.length b',(st.push b).flr,(st.push b).ro⟩:St)=st.push b':=fun b b'=>wm rfl
  (refine xT ?_)
  (refine xT ?_)
  rw[Al];refine aa.store (k:=st.bs.length) (aD:=0) (off:=4) (cs:=[.int .i64 (h.length:Nat)]) rfl rfl rfl rfl rfl (ke st _) (by rw[List.length_append,hlt];exact Nat.le_refl _) (oH _ rfl) ?_;rw[Al]
  have rJ:(T++[D.int .i64 0]).take 4++[.int .i64 (h.length:Nat)]++(T++[D.int .i64 0]).drop (4+[D.int .i64 (h.length:Nat)].length)=cu h (([0,0,0,0]:List UInt8).drop h.length):=by
   rw[List.take_left' hlt,List.drop_eq_nil_of_le (by rw[List.length_append,hlt];exact Nat.le_refl _),List.append_nil,hT]
   rfl
  rw[rJ];refine aa.nil ?_;dsimp only[Fr.aE,Fr.put,Fr.clean,Fr.ev,Fr.get,nth,V.look,u1,u2,v1,v2,v3,v4,v5,v6,v7,List.length,u3,u4,Nat.reduceSub,Nat.reduceAdd,List.map];subst hK;refine qy ?_;(repeat refine qq ?_);(generalize hK:aT _ _ _ _=K);refine ag.ct ?_;(repeat(first|refine xT ?_|refine xL ?_));refine aa.nil ?_;dsimp only[Fr.aE,Fr.put,Fr.clean,Fr.ev,Fr.get,nth,V.look,u1,u2,v1,v2,v3,v4,v5,v6,v7,List.length,u3,u4,Nat.reduceSub,Nat.reduceAdd,List.map];subst hK;refine qy ?_;exact ag.ret ⟨rx,_,rfl,rfl⟩
 |false=>
  have QD:h.length=0:=by
   rcases bd with h'|h'
   ·rw[Vh] at h';cases h'
   ·rw[h'];rfl
  (refine qy ?_);(repeat refine qq ?_);(generalize hK:aT _ _ _ _=K);refine ag.ct ?_
  (refine xT ?_)
  (refine xT ?_)
  (refine xT ?_)
  (refine xT ?_)
  refine aa.len rfl rfl rfl hb rfl ?_;rw[hbl];(repeat(first|refine xT ?_|simp(disch:=omega) only[decide_eq_true,decide_eq_false,LZ,Rk,LY,Ri]));refine aa.nil ?_;dsimp only[Fr.aE,Fr.put,Fr.clean,Fr.ev,Fr.get,nth,V.look,u1,u2,v1,v2,v3,v4,v5,v6,v7,List.length,u3,u4,Nat.reduceSub,Nat.reduceAdd,List.map];subst hK;refine qy ?_;(repeat refine qq ?_);refine ag.cond (v:=false) rfl (fun h=>by cases h) fun _=>?_;refine qy ?_;refine ag.skip ?_;refine qy ?_;have jy:(st.push (.mem 0 false (cu [] [0,0,0,0]))).bs[st.bs.length]?=some (.mem 0 false (cu [] [0,0,0,0])):=ke st _;have hb1:Bytes (st.push (.mem 0 false (cu [] [0,0,0,0]))) x h:=hb.ex (Ex.push (Nat.le_refl _) _) hx;have oH:∀S:St,S.ro=st.ro→S.iV st.bs.length 0=true:=fun S hS=>jX (by omega);refine qy ?_;(repeat refine qq ?_);(generalize hK:aT _ _ _ _=K);refine ag.ct<|aa.sa rfl rfl rfl (yq st) ?_;(repeat(refine xL ?_));refine aa.nil ?_;dsimp only[Fr.aE,Fr.put,Fr.clean,Fr.ev,Fr.get,nth,V.look,u1,u2,v1,v2,v3,v4,v5,v6,v7,List.length,u3,u4,Nat.reduceSub,Nat.reduceAdd,List.map];subst hK;refine qy ?_;(repeat refine qq ?_);(generalize hK:aT _ _ _ _=K);refine ag.ct ?_
  (refine xT ?_)
  (refine xT ?_)
  (refine xT ?_)
  (refine xT ?_)
  refine aa.jH (k:=st.bs.length) (v:=0) (off:=0) (l:=0) (r:=4) rfl rfl rfl rfl rfl jy (by decide) rfl ?_
  (refine xT ?_)
  refine aa.copy (k:=st.bs.length) (aD:=0) (off:=0) (len:=4) (s:=1) (ys:=byteCells h) (ar:=false) (c:=cu [] [0,0,0,0]) rfl rfl rfl rfl hb1 rfl rfl jy (by decide) ?_ ?_
  ·rw[dP]
   have:∀(b:List UInt8) m,refs ((b.map gw).take m)=0:=by
    intro b m
    induction b generalizing m with
    |nil=>simp[refs]
    |cons y b ih=>cases m with
     |zero=>simp[refs]
     |succ m=>simp only[List.map_cons,List.take_succ_cons,refs,ih];rfl
   rw[this];exact oH _ rfl
  have w6:min (byteCells h).length 4=h.length:=by omega
  rw[w6,dP]
  have Mt:(cu [] [0,0,0,0]).take 0++(h.map gw).take (h.length*1)++(cu [] [0,0,0,0]).drop (0+h.length*1)=(h++([0,0,0,0]:List UInt8).drop h.length).map gw++[.int .i64 0]:=by
   rw[List.take_zero,List.nil_append,Nat.mul_one,Nat.zero_add];have e1:(h.map gw).take h.length=h.map gw:=List.take_of_length_le (by simp);rw[e1,List.map_append,List.append_assoc]
   congr 1
   show([0,0,0,0].map gw++[D.int .i64 0]).drop h.length=_;rw[List.drop_append_of_le_length (by simp;omega),List.map_drop]
  rw[Mt];have hlt:((h++([0,0,0,0]:List UInt8).drop h.length).map gw).length=4:=by simp;omega
  have hT:∃T:List D,T=(h++([0,0,0,0]:List UInt8).drop h.length).map gw:=⟨_,rfl⟩
  obtain⟨T,hT⟩:=hT;rw[←hT] at hlt⊢;have Al:∀b b':ij,(⟨(st.push b).bs.set st.bs.length b',(st.push b).flr,(st.push b).ro⟩:St)=st.push b':=fun b b'=>wm rfl
  (refine xT ?_)
  (refine xT ?_)
  rw[Al];refine aa.store (k:=st.bs.length) (aD:=0) (off:=4) (cs:=[.int .i64 (h.length:Nat)]) rfl rfl rfl rfl rfl (ke st _) (by rw[List.length_append,hlt];exact Nat.le_refl _) (oH _ rfl) ?_;rw[Al]
  have rJ:(T++[D.int .i64 0]).take 4++[.int .i64 (h.length:Nat)]++(T++[D.int .i64 0]).drop (4+[D.int .i64 (h.length:Nat)].length)=cu h (([0,0,0,0]:List UInt8).drop h.length):=by
   rw[List.take_left' hlt,List.drop_eq_nil_of_le (by rw[List.length_append,hlt];exact Nat.le_refl _),List.append_nil,hT]
   rfl
  rw[rJ];refine aa.nil ?_;dsimp only[Fr.aE,Fr.put,Fr.clean,Fr.ev,Fr.get,nth,V.look,u1,u2,v1,v2,v3,v4,v5,v6,v7,List.length,u3,u4,Nat.reduceSub,Nat.reduceAdd,List.map];subst hK;refine qy ?_;(repeat refine qq ?_);(generalize hK:aT _ _ _ _=K);refine ag.ct ?_;(repeat(first|refine xT ?_|refine xL ?_));refine aa.nil ?_;dsimp only[Fr.aE,Fr.put,Fr.clean,Fr.ev,Fr.get,nth,V.look,u1,u2,v1,v2,v3,v4,v5,v6,v7,List.length,u3,u4,Nat.reduceSub,Nat.reduceAdd,List.map];subst hK;refine qy ?_;exact ag.ret ⟨rx,_,rfl,rfl⟩
end Go.Proofs.YtbdnabmmlbiomaaGreat
namespace Go.Proofs.YtbdnabmmlbiomaaGreat
open Go.V Go
def ow (fr:Go.V.Fr) (k:Nat):Go.V.D:=Go.V.nth .bD fr.loc k
def dA (code:List aJ) (ss:List Nat):List (Nat×Nat)→Nat→List PL→Nat×List PL
 |[],pl,ls=>(pl,ls)
 |g::gs,pl,ls=>dA code ss gs (pl+gi (g.2:Nat)) (gB code pl (g.1:Nat) ss ls)
theorem qM (code:List aJ) (ss:List Nat):∀(a b:List (Nat×Nat)) (pl:Nat) (ls:List PL),dA code ss (a++b) pl ls=dA code ss b (dA code ss a pl ls).1 (dA code ss a pl ls).2
 |[],_,_,_=>rfl
 |g::a,b,pl,ls=>by simp only[List.cons_append,dA,qM code ss a b]
theorem uq (code:List aJ) (ss:List Nat):∀(a:List (Nat×Nat)) (pl:Nat) (ls:List PL),(dA code ss a pl ls).1≤pl+4*a.length
 |[],_,_=>Nat.le_refl _
 |g::a,pl,ls=>by
  simp only[dA,List.length_cons];have:=uq code ss a (pl+gi (g.2:Nat)) (gB code pl (g.1:Nat) ss ls);have:=oM ((g.2:Nat):Int);omega
theorem mR {p:Pg} (hR:bB p):∀(a:List (Nat×Nat)) (pl:Nat) (ls:List PL),ls.length=p.az.length→(∀l∈ls,l.ok p.code.length)→(dA p.code (aF p) a pl ls).2.length=p.az.length∧∀l∈(dA p.code (aF p) a pl ls).2,l.ok p.code.length
 |[],_,_,h1,h2=>⟨h1,h2⟩
 |g::a,pl,ls,h1,h2=>by
  simp only[dA];refine mR hR a _ _ ?_ (fun l hl=>nV hR (qk hR) l hl);rw[j7 _ _ _ _ _ (by unfold aF;rw[List.length_map];omega)];exact h1
theorem n4 (code:List aJ) (ss:List Nat):∀(a:List (Nat×Nat)) (pl:Nat) (ls:List PL),dA (code.map dV) ss a pl ls=dA code ss a pl ls
 |[],_,_=>rfl
 |g::a,pl,ls=>by simp only[dA,oV,n4 code ss a]
theorem jL {L:List VL} {n:Nat} (h:∀l∈L.map VL.pl,l.ok n):∀l∈L,l.pl.ok n:=fun l hl=>h _ (List.mem_map_of_mem hl)
theorem vH (gz:∀st,Ev pv 59 [] st (.agg (aw aP)) st) {N ks kv:Nat} {S s0:St} {H:List bC} {p:Pg} {pl:Nat} {ld:D} {L:List VL} {gs:List (Nat×Nat)} (hF:S.flr≤N) (hp:p.ok) (hR:bB p) (fU:pl+4*gs.length≤1000000000000) (pR:gs.length≤1048576) (vy:L.length=p.az.length) (bd:∀l∈L,l.pl.ok p.code.length) (hM:MH [] N S s0 ks kv p pl ld L H):
  ∃d ah,Ev pv 74 [.ptr kv 0 0,cB gs] s0 d ah∧d=.tup []∧∃uR L',L'.map VL.pl=(dA p.code (aF p) gs pl (L.map VL.pl)).2∧MH [] N S ah ks kv p (dA p.code (aF p) gs pl (L.map VL.pl)).1 uR L' H:=by
 obtain⟨pd,qd,P,Q,sn,hH,hY,eT⟩:=hM;have DT:Arg N S 2 (cB gs) (gs.map a7):=Arg.pure (fun st=>dt st gs);dsimp only[u4] at hH;refine Ev.iC rfl Ye rfl rfl rfl ?_;dsimp only[u3,u4,List.length,Nat.reduceSub,Nat.reduceAdd,w1,w2];change ag _ _ _ _ s0 _;refine qq<|qj fun K hK=>qm ?_;refine qn ?_;simp only[List.length_map];refine qm ?_;refine qe hK<|ag.block<|ag.loop (fun mm fr st=>∃(i xK:Nat) (ld pd qd:D) (L':List VL) (P Q:List Nat) (sn:List Bool),fr.clean=⟨9,[.ptr kv 0 0,ow fr 1,ow fr 2,ow fr 3,ow fr 4,ow fr 5,cB gs,.int .i64 (gs.length:Nat),.int .i64 (i:Nat)],[]⟩∧Has N S st (.box kv (.mem 0 false [p.cd,p.sd,.int .i64 (xK:Nat),ld,.ptr ks 0 0])::.box ks (.mem 0 false [pd,qd])::.aM pd 1 (P.map gb)::.aM qd 2 (Q.map na)::.aM ld 12 (L'.map fG)::(L'.map nR++H))∧(i+mm=gs.length)∧(dj P Q sn)∧(sn.length=p.code.length)∧(dA p.code (aF p) (gs.drop i) xK (L'.map VL.pl)=dA p.code (aF p) gs pl (L.map VL.pl))∧(xK≤pl+4*i)∧(L'.length=p.az.length)∧(∀l∈L',l.pl.ok p.code.length)) (gs.length) ?_ ?_
 ·exact⟨0,pl,ld,pd,qd,L,P,Q,sn,rfl,hH,by omega,hY,eT,rfl,by omega,vy,bd⟩
 rintro mm fr st ⟨i,xK,ld,pd,qd,L',P,Q,sn,hfr,hH,hi,hY,eT,i_,Qt,XP,mE⟩;rw[hfr];clear hfr;generalize ow fr=ee;clear fr;have SM:=hR.sl;refine qq<|qj fun K hK=>qg ?_;refine qe hK<|qq ?_;refine ag.cond (by rfl) (fun hlt=>?_) (fun hlt=>?_)<;>try simp only[decide_eq_true_eq,decide_eq_false_iff_not] at hlt
 ·refine ag.skip ?_;have hil:i<gs.length:=by omega
  obtain⟨g,Lz⟩:∃g,gs[i]?=some g:=⟨gs[i]'hil,List.getElem?_eq_getElem _⟩
  have iv:(gs.map a7)[i]?=some (a7 g):=by rw[List.getElem?_map,Lz];rfl
  have XA:=oM ((g.2:Nat):Int)
  have sQ:gs.drop i=g::gs.drop (i+1):=by
   rw[List.drop_eq_getElem_cons hil]
   congr 1
   exact Option.some.inj ((List.getElem?_eq_getElem _).symm.trans Lz)
  refine qq<|ag.block<|qq<|qj fun K hK=>qr fun Sd DK=>?_;refine aa.dJ rfl (ev rfl) (by assumption) rfl (ab rfl _) ?_;refine qa hH fun k5 st E6 hH=>?_;refine qS hH au fun st hH=>?_;dsimp only[u2,u1,u3,u4,setMany,u5,u6,D.cells,Nat.reduceAdd,a7] at hH;refine qe hK<|qj fun K hK=>qm ?_;refine qp (o:=0) ?_;refine ql hH au ?_;refine qp (o:=1) ?_;refine ql hH au ?_;obtain⟨_,st,aN,rfl,L1,LI,hM⟩:=L8 (r:=((g.1:Nat):Int)) (n:=((g.2:Nat):Int)) gz hF hp hR (by omega) XP mE (MH.push [_] [] (H:=H) ⟨pd,qd,P,Q,sn,hH,hY,eT⟩);obtain⟨pd,qd,P,Q,sn,hH,hY,eT⟩:=MH.pull [_] [] (H:=H) hM;dsimp only[u3,u4] at hH;refine qv aN ?_;refine qe hK ?_
  have aa6:L1.length=L'.length:=by
   have:=congrArg List.length LI;rw[List.length_map,j7 _ _ _ _ _ (by unfold aF;simp;omega),List.length_map] at this;exact this
  have XO:∀l∈L1,l.pl.ok p.code.length:=fun l hl=>nV hR (qk hR) _ (by rw[←LI];exact List.mem_map_of_mem hl);refine qj fun K hK=>qA ?_;refine qm ?_;refine qe hK ?_;exact⟨mm-1,by omega,⟨i+1,xK+gi ((g.2:Nat):Int),_,pd,qd,L1,P,Q,sn,rfl,(hH.drop 1),by omega,hY,eT,(by rw[←i_,sQ,LI];rfl),by omega,by omega,XO⟩⟩
 ·refine ag.exit ?_;refine⟨fun i h=>(by cases h),_,_,_,rfl,rfl,?_⟩;have sQ:gs.drop i=[]:=by rw[List.drop_eq_nil_iff];omega
  rw[sQ] at i_;have i_:(xK,L'.map VL.pl)=dA p.code (aF p) gs pl (L.map VL.pl):=i_;rw[←i_];exact⟨rfl,ld,L',rfl,pd,qd,P,Q,sn,hH,hY,eT⟩
end Go.Proofs.YtbdnabmmlbiomaaGreat
namespace Go.Proofs.YtbdnabmmlbiomaaGreat
open Go.V Go
theorem KQ (c:UInt8) (xs:List UInt8):cM (c::xs)=if b7 c.toNat=0 then(65533,1) else if iI c.toNat (b7 c.toNat-1) 1 xs=true∧b7 c.toNat-1≤xs.length then(pa (nW c.toNat (b7 c.toNat)) (b7 c.toNat-1) xs,b7 c.toNat) else(65533,1):=by
 unfold cM;rw[l0]
 by_cases h1:b7 c.toNat=0
 ·simp[h1]
 rw[if_neg h1,if_neg h1]
 by_cases h2:iI c.toNat (b7 c.toNat-1) 1 xs=true
 ·by_cases h3:xs.length<b7 c.toNat-1
  ·have hn:¬(b7 c.toNat-1≤xs.length):=by omega
   simp[h2,h3,hn]
  ·have hn:b7 c.toNat-1≤xs.length:=by omega
   simp[h1,h2,h3,hn]
 ·simp[h2]
theorem ED {l:List UInt8} (h:cP l=true):l.length≤3:=by
 obtain⟨h1,h2,h3⟩:=(yW l).1.1 h
 cases l with
 |nil=>simp
 |cons c xs=>
  have:=wI c.toNat;simp only[gh] at h2 h3
  split at h2
  ·simp at h2
  ·split at h2
   ·split at h2
    ·rw[←h3];rename_i a1 a2 a3;rw[if_neg a1,if_pos a2,if_pos a3];simp only;omega
    ·simp at h2
   ·simp at h2
theorem zG:∀(f:Nat) (l:List UInt8),l.length≤f→(de f l).2.length≤3
 |0,l,h=>by
  simp[de];have:l=[]:=List.length_eq_zero_iff.1 (by omega);subst this;simp
 |f+1,[],_=>by simp[de]
 |f+1,c::l,h=>by
  simp only[de]
  split
  ·rename_i hb;exact ED hb
  ·have hp:=eo (c::l);exact zG f _ (by rw[List.length_drop];simp only[List.length_cons] at h⊢;omega)
theorem Ct:∀(f:Nat) (l:List UInt8),(de f l).1.length≤f
 |0,l=>by simp[de]
 |f+1,[]=>by simp[de]
 |f+1,c::l=>by
  simp only[de]
  split
  ·simp
  ·simp only[List.length_cons];have:=Ct f ((c::l).drop (cM (c::l)).2);omega
theorem Dw:∀(f:Nat) (l j:List UInt8),(l++j).length=4→l.length≤f→((de f l).2++jF f l j).length=4
 |0,l,j,h,hf=>by
  have:l=[]:=by cases l with|nil=>rfl|cons _ _=>simp at hf
  subst this;exact h
 |f+1,[],j,h,_=>by simpa[de,jF] using h
 |f+1,c::l,j,h,hf=>by
  simp only[de,jF]
  split
  ·exact h
  ·have hp:=eo (c::l);have hle:=lP (b:=c::l) (by simp);rw[List.length_append] at h;refine Dw f _ _ ?_ ?_
   ·rw[List.length_append,List.length_drop,List.length_drop,List.length_append];omega
   ·rw[List.length_drop];simp only[List.length_cons] at hf⊢;omega
theorem te (n:Nat):∀(left r lo hi:Nat) (xs rest:List UInt8),(eC left n r lo hi xs).2.2=false→eC left n r lo hi (xs++rest)=eC left n r lo hi xs
 |0,r,lo,hi,xs,rest,_=>by simp[eC]
 |left+1,r,lo,hi,[],rest,h=>by simp[eC] at h
 |left+1,r,lo,hi,x::xs,rest,h=>by
  simp only[eC,List.cons_append] at h⊢
  split
  ·rfl
  ·rename_i hc;rw[if_neg hc] at h;exact te n left _ _ _ xs rest h
theorem yX {l:List UInt8} (hl:l≠[]) (h:cP l≠true) (rest:List UInt8):cC (l++rest)=cC l:=by
 cases l with
 |nil=>exact absurd rfl hl
 |cons c xs=>
  unfold cP at h;simp only[cC,List.cons_append] at h⊢
  split
  ·rfl
  ·rename_i hk;rw[if_neg hk] at h;exact te _ _ _ _ _ xs rest (by simpa using h)
theorem Db {l:List UInt8} (hl:l≠[]) (h:cP l≠true) (rest:List UInt8):cM (l++rest)=cM l:=by
 unfold cM;rw[yX hl h]
theorem vG:∀(f:Nat) (l rest:List UInt8),l.length≤f→ez (l++rest)=(de f l).1++ez ((de f l).2++rest)
 |0,l,rest,h=>by
  have:l=[]:=by cases l with|nil=>rfl|cons _ _=>simp at h
  subst this;rfl
 |f+1,[],rest,_=>by simp[de]
 |f+1,c::l,rest,h=>by
  simp only[de]
  split
  ·simp
  ·rename_i hb;have hp:=eo (c::l);have hle:=lP (b:=c::l) (by simp);rw[iG (by simp),Db (by simp) hb,List.drop_append_of_le_length hle];rw[vG f _ rest (by rw[List.length_drop];simp only[List.length_cons] at h⊢;omega)]
   rfl
theorem vF:∀(f:Nat) (l:List UInt8),l.length≤f→((de f l).1.map (·.2)).sum+(de f l).2.length=l.length∧(de f l).2=l.drop ((de f l).1.map (·.2)).sum
 |0,l,h=>by
  have:l=[]:=by cases l with|nil=>rfl|cons _ _=>simp at h
  subst this;exact⟨rfl,rfl⟩
 |f+1,[],_=>⟨rfl,rfl⟩
 |f+1,c::l,h=>by
  simp only[de]
  split
  ·exact⟨by simp,by simp⟩
  ·have hp:=eo (c::l);have hle:=lP (b:=c::l) (by simp);obtain⟨h1,h2⟩:=vF f ((c::l).drop (cM (c::l)).2) (by rw[List.length_drop];simp only[List.length_cons] at h⊢;omega);rw[List.length_drop] at h1;refine⟨by simp only[List.map_cons,List.sum_cons];omega,?_⟩;simp only[List.map_cons,List.sum_cons];rw[←List.drop_drop];exact h2
theorem BJ {c i y:Nat} (h:tI c i y=true):128≤y∧y≤191:=by
 unfold tI U8 Vf at h
 split at h<;>simp only[decide_eq_true_eq] at h
 ·repeat' split at h
  all_goals omega
 ·exact h
theorem s8 (c:Nat):∀(left i:Nat) (xs:List UInt8),iI c left i xs=true→xs.length≤left→∀y∈xs,128≤y.toNat∧y.toNat≤191
 |0,i,xs,_,hl=>by
  have:xs=[]:=by cases xs with|nil=>rfl|cons _ _=>simp at hl
  subst this;simp
 |left+1,i,[],_,_=>by simp
 |left+1,i,x::xs,h,hl=>by
  simp only[iI,Bool.and_eq_true] at h;intro y hy
  rcases List.mem_cons.1 hy with rfl|hy
  ·exact BJ h.1
  ·exact s8 c left (i+1) xs h.2 (by simpa using hl) y hy
theorem xF:∀(xs:List UInt8),(∀y∈xs,128≤y.toNat∧y.toNat≤191)→ez xs=gU xs.length
 |[],_=>rfl
 |x::xs,h=>by
  have hx:=h x (List.mem_cons_self ..)
  have h1:cM (x::xs)=(65533,1):=by
   rw[KQ,if_pos];unfold b7;rw[if_neg (by omega),if_pos (by omega)]
  rw[iG (by simp),h1,List.drop_succ_cons,List.drop_zero,xF xs fun y hy=>h y (List.mem_cons_of_mem _ hy)]
  rfl
theorem B5 {h:List UInt8} (hb:cP h=true):ez h=gU h.length:=by
 have hf:=xC hb
 cases h with
 |nil=>rfl
 |cons c xs=>
  have h1:cM (c::xs)=(65533,1):=by unfold cM;rw[hf];rfl
  rw[l0] at hf
  by_cases h2:b7 c.toNat=0
  ·rw[if_pos h2] at hf;simp at hf
  by_cases h3:iI c.toNat (b7 c.toNat-1) 1 xs=true
  ·by_cases h4:xs.length<b7 c.toNat-1
   ·rw[iG (by simp),h1,List.drop_succ_cons,List.drop_zero,xF xs (s8 _ _ _ _ h3 (by omega))]
    rfl
   ·rw[if_neg h2,if_pos h3,if_neg h4] at hf;simp at hf
  ·rw[if_neg h2,if_neg h3] at hf;simp at hf
theorem p_:∀(f:Nat) (l:List UInt8),l.length≤f→(de f l).2=[]∨cP (de f l).2=true
 |0,l,h=>by
  have:l=[]:=by cases l with|nil=>rfl|cons _ _=>simp at h
  subst this;exact .inl rfl
 |f+1,[],_=>.inl rfl
 |f+1,c::l,h=>by
  simp only[de]
  split
  ·rename_i hb;exact .inr hb
  ·have hp:=eo (c::l);exact p_ f _ (by rw[List.length_drop];simp only[List.length_cons] at h⊢;omega)
end Go.Proofs.YtbdnabmmlbiomaaGreat
namespace Go.Proofs.YtbdnabmmlbiomaaGreat
open Go.V Go
def SH (A:List bC) (N:Nat) (S st:St) (kS kd kv ks:Nat) (p:Pg) (pl:Nat) (ld:D) (L:List VL) (h:List UInt8) (H:List bC):Prop:=
 ∃pd qd P Q sn js,Has N S st (A++(.box kS (.mem 0 false [.ptr kd 0 0,.ptr kv 0 0])::.box kd (.mem 0 false (cu h js))::(e_ ks kv p pl ld pd qd P Q L++H)))∧dj P Q sn∧sn.length=p.code.length∧(h++js).length=4
def me (code:List aJ) (ss:List Nat) (x:List UInt8×Nat×List PL) (c:UInt8):List UInt8×Nat×List PL:=
 ((dO x.1 c).2,dA code ss (dO x.1 c).1 x.2.1 x.2.2)
def cj (code:List aJ) (ss:List Nat) (b:List UInt8) (x:List UInt8×Nat×List PL):List UInt8×Nat×List PL:=b.foldl (me code ss) x
theorem zj {h:List UInt8} {c:UInt8}:(dO h c).2.length≤3:=zG _ _ (by simp)
theorem sc {h:List UInt8} {c:UInt8}:(dO h c).1.length≤h.length+1:=by
 unfold dO;exact Ct _ _
theorem Fe {N:Nat} {S s0:St} {H:List bC} (hH:Has N S s0 H):∃kd ah,Ev pv 72 [] s0 (.ptr kd 0 0) ah∧Has N S ah (.box kd (.mem 0 false (cu [] [0,0,0,0]))::H):=
 ⟨_,_,yq s0,hH.pL _⟩
theorem Ek {N:Nat} {S s0:St} {H:List bC} {i kd:Nat} {h js:List UInt8} {c:UInt8} (hH:Has N S s0 H) (hi:H[i]?=some (.box kd (.mem 0 false (cu h js)))) (hl:(h++js).length=4) (h3:h.length≤3):
  ∃ah Zn,Ev pv 75 [.ptr kd 0 0,.int .u8 (c.toNat:Nat)] s0 (cB (dO h c).1) ah∧((dO h c).2++Zn).length=4∧Has N S ah (H.set i (.box kd (.mem 0 false (cu (dO h c).2 Zn)))):=by
 obtain⟨j0,js,rfl⟩:∃a b,js=a::b:=by
  cases js with
  |nil=>simp at hl;omega
  |cons a b=>exact⟨a,b,rfl⟩
 have hge:=hH.ge hi;refine⟨_,_,LX (hH.at hi) hl (by rw[hH.ex.ro];exact Nat.le_trans hH.et hge.1),?_,hH.ui (aD:=0) hi⟩;unfold dO;exact Dw _ _ _ (by simp at hl⊢;omega) (by simp)
theorem Ft (gz:∀st,Ev pv 59 [] st (.agg (aw aP)) st) {N:Nat} {S s0:St} {H:List bC} {p:Pg} (hF:S.flr≤N) (hp:p.ok) (hR:bB p) (hH:Has N S s0 H):
  ∃r ah,Ev pv 28 [p.d] s0 r ah∧∃kS kd kv ks q ld L,r=.tup [.ptr kS 0 0,.int .i64 0]∧sA p q∧L.map VL.pl=(aF p).map fT∧SH [] N S ah kS kd kv ks q 0 ld L [] H:=by
 have WX:∀{st H},Has N S st H→∃r ah,Ev pv 11 [p.d] st r ah∧∃kv ks q ld L,r=.tup [.ptr kv 0 0,.int .i64 0]∧sA p q∧L.map VL.pl=(aF p).map fT∧MH [] N S ah ks kv q 0 ld L H:=fun{st H} h=>Fb gz hF hp hR h;unfold Pg.d at*;refine Ev.iC rfl Yt rfl rfl rfl ?_;dsimp only[u3,u4,List.length,Nat.reduceSub,Nat.reduceAdd,w1,w2];change ag _ _ _ _ s0 _;refine qq<|qj fun K hK=>qb hH fun k1 st pQ hH=>?_;dsimp only[u2,u1,u3,u4,setMany,u5,u6,D.cells,Nat.reduceAdd,Pg.cs] at hH;refine qm ?_;refine qm ?_;refine qe hK<|qq<|qj fun K hK=>?_;refine aa.bk (m:=2) hH rfl (ev rfl) (by exact au) (by dsimp only[List.drop_succ_cons,List.drop_zero,List.take_succ_cons,List.take_zero,Pg.cs]<;>rfl) rfl rfl (ab rfl _) ?_;obtain⟨_,st,aN,kv,ks,q,ld,L,rfl,hq,hL,hM⟩:=WX hH;refine qv aN ?_;refine qm ?_;refine qg ?_;refine qg ?_;refine qm ?_;refine qm ?_;refine qe hK<|qq<|qq<|qj fun K hK=>qm ?_;refine qg ?_;refine qe hK<|ag.cond (v:=false) (by dsimp only[Fr.ev,Fr.get,nth,V.look];rfl) (fun h=>by cases h) (fun _=>?_);refine ag.skip ?_;obtain⟨pd,qd,P,Q,sn,hH,bd,eT⟩:=tt hM;dsimp only[u4] at hH;refine qq<|qj fun K hK=>?_;obtain⟨kd,st,aN,hH⟩:=Fe hH;refine qv aN ?_;refine qm ?_;refine aa.gu (qs:=[(0,_),(1,_)]) rfl rfl rfl rfl ⟨rfl,(ev rfl),(by rfl),rfl,(ev rfl),(by rfl),trivial⟩ (by intro q hq;simp only[List.mem_cons,List.not_mem_nil,or_false] at hq;rcases hq with rfl|rfl<;>exact⟨rfl,by exact Nat.le_of_ble_eq_true rfl⟩) (by show List.foldl _ [_,_] _=_;dsimp only[List.foldl_cons,List.foldl_nil,u2,u1]<;>rfl) (ab rfl _) ?_;refine qb hH fun k17 st Tx hH=>?_;refine qm ?_;refine qm ?_;refine qe hK<|ag.ret ⟨rx,_,_,_,rfl,rfl,?_⟩;refine⟨k17,kd,kv,ks,q,ld,L,rfl,hq,hL,pd,qd,P,Q,sn,[0,0,0,0],?_,bd,eT,rfl⟩;have hH:=Has.mw (_::_::e_ ks kv q 0 ld pd qd P Q L) [_] (H:=H) hH;exact hH.drop 1
theorem CI (gz:∀st,Ev pv 59 [] st (.agg (aw aP)) st) {N kS kd kv ks:Nat} {S s0:St} {H:List bC} {p:Pg} {pl:Nat} {ld:D} {L:List VL} {h:List UInt8} {c:UInt8} (hF:S.flr≤N) (hp:p.ok) (hR:bB p) (fU:pl≤900000000000) (h3:h.length≤3) (vy:L.length=p.az.length) (mE:∀l∈L,l.pl.ok p.code.length) (hM:SH [] N S s0 kS kd kv ks p pl ld L h H):
  ∃d ah,Ev pv 31 [.ptr kS 0 0,.int .u8 (c.toNat:Nat)] s0 d ah∧d=.tup []∧∃uR L',L'.map VL.pl=(dA p.code (aF p) (dO h c).1 pl (L.map VL.pl)).2∧SH [] N S ah kS kd kv ks p (dA p.code (aF p) (dO h c).1 pl (L.map VL.pl)).1 uR L' (dO h c).2 H:=by
 obtain⟨pd,qd,P,Q,sn,js,hH,bd,eT,hl⟩:=hM;have sD:=sc (h:=h) (c:=c);dsimp only[u4] at hH;have QH:=(hH.ge aS).2;have W5:=hH.tC (j:=2) (k:=kv) rfl rfl;refine Ev.iC rfl Ys rfl rfl rfl ?_;dsimp only[u3,u4,List.length,Nat.reduceSub,Nat.reduceAdd,w1,w2];change ag _ _ _ _ s0 _;have vz:=hH;change ag _ _ _ _ _ _;generalize hK:aT _ _ _ _=K;refine ag.wb rfl<|cN.cons<|qm<|aa.nil ⟨rfl,?_⟩;refine cN.cons<|qg<|aa.nil ⟨rfl,?_⟩;refine cN.cons<|qp (o:=1)<|aa.nil ⟨rfl,?_⟩;refine cN.cons<|ql hH au<|aa.nil ⟨rfl,?_⟩;refine cN.cons<|qm<|aa.nil ⟨rfl,?_⟩;refine cN.cons<|qg<|aa.nil ⟨rfl,?_⟩;refine cN.cons<|qp (o:=0)<|aa.nil ⟨rfl,?_⟩;refine cN.cons<|ql hH au<|aa.nil ⟨rfl,?_⟩;refine cN.cons<|qm<|aa.nil ⟨rfl,?_⟩;refine cN.cons ?_;obtain⟨st,js,aN,hl,hH⟩:=Ek (c:=c) hH aS hl h3;dsimp only[u1,u2] at hH;refine qv aN<|aa.nil ⟨by exact Bool.and_eq_true_iff.2 ⟨iF rfl rfl rfl (vz.at au) (hH.at au) (vz.at au) (by simp only[refs,D.ref];omega),rfl⟩,?_⟩;refine cN.cons ?_;obtain⟨_,st,aN,rfl,uR,L',hL',hM⟩:=vH (gs:=(dO h c).1) gz hF hp hR (by omega) (by omega) vy mE (MH.push [_,_] [] (H:=H) (Aa hH bd eT));refine qv aN<|aa.nil ⟨rfl,?_⟩;refine cN.nil ?_;subst hK;refine⟨fun i h=>(by cases h),_,_,_,rfl,rfl,?_⟩;obtain⟨pd,qd,P,Q,sn,hH,bd,eT⟩:=tt (MH.pull [_,_] [] (H:=H) hM);exact⟨rfl,uR,L',hL',pd,qd,P,Q,sn,js,hH,bd,eT,hl⟩
end Go.Proofs.YtbdnabmmlbiomaaGreat
namespace Go.Proofs.YtbdnabmmlbiomaaGreat
open Go.V Go
def ov (fr:Go.V.Fr) (k:Nat):Go.V.D:=Go.V.nth .bD fr.loc k
theorem B2 {b:List UInt8} {i:Nat} {c:UInt8} (h:b[i]?=some c):(byteCells b)[i]?=some [.int .u8 (c.toNat:Nat)]:=by unfold byteCells;rw[List.getElem?_map,h];rfl
theorem B0 (b:List UInt8):eH (lB b) 1 (byteCells b):=eH.frozen (mj b) (h_ b)
theorem qH (code:List aJ) (ss:List Nat) (b:List UInt8) (c:UInt8) (x:List UInt8×Nat×List PL):cj code ss (b++[c]) x=me code ss (cj code ss b x) c:=by unfold cj;rw[List.foldl_append];rfl
theorem x4 (code:List aJ) (ss:List Nat) (b:List UInt8) (x:List UInt8×Nat×List PL):cj (code.map dV) ss b x=cj code ss b x:=by
 have:me (code.map dV) ss=me code ss:=by funext x c;unfold me;rw[n4]
 unfold cj;rw[this]
theorem qI {p:Pg} (hR:bB p):∀(b:List UInt8) (x:List UInt8×Nat×List PL),x.1.length≤3→x.2.2.length=p.az.length→(∀l∈x.2.2,l.ok p.code.length)→(cj p.code (aF p) b x).1.length≤3∧(cj p.code (aF p) b x).2.1≤x.2.1+16*b.length∧(cj p.code (aF p) b x).2.2.length=p.az.length∧∀l∈(cj p.code (aF p) b x).2.2,l.ok p.code.length
 |[],x,h1,h2,h3=>⟨h1,Nat.le_refl _,h2,h3⟩
 |c::b,x,h1,h2,h3=>by
  obtain⟨g1,g2⟩:=mR hR (dO x.1 c).1 x.2.1 x.2.2 h2 h3;have g3:=uq p.code (aF p) (dO x.1 c).1 x.2.1 x.2.2;have g4:=sc (h:=x.1) (c:=c);obtain⟨q1,q2,q3,q4⟩:=qI hR b (me p.code (aF p) x c) zj g1 g2;have q2:(cj p.code (aF p) (c::b) x).2.1≤(dA p.code (aF p) (dO x.1 c).1 x.2.1 x.2.2).1+16*b.length:=q2;exact⟨q1,by simp only[List.length_cons];omega,q3,q4⟩
theorem CG (gz:∀st,Ev pv 59 [] st (.agg (aw aP)) st) {N kS kd kv ks:Nat} {S s0:St} {H:List bC} {p:Pg} {pl:Nat} {ld:D} {L:List VL} {h:List UInt8} {x:D} {b:List UInt8} (hF:S.flr≤N) (hp:p.ok) (hR:bB p) (hx:Arg N S 1 x (byteCells b)) (hbl:b.length≤1048576) (fU:pl+16*b.length≤900000000000) (h3:h.length≤3) (vy:L.length=p.az.length) (mE:∀l∈L,l.pl.ok p.code.length) (hM:SH [] N S s0 kS kd kv ks p pl ld L h H):
  ∃d ah,Ev pv 38 [.ptr kS 0 0,x] s0 d ah∧d=.tup []∧∃uR L',L'.map VL.pl=(cj p.code (aF p) b (h,pl,L.map VL.pl)).2.2∧SH [] N S ah kS kd kv ks p (cj p.code (aF p) b (h,pl,L.map VL.pl)).2.1 uR L' (cj p.code (aF p) b (h,pl,L.map VL.pl)).1 H:=by
 obtain⟨pd,qd,P,Q,sn,js,hH,bd,eT,hl⟩:=hM;dsimp only[u4] at hH;have TW:=bM b;have Lv:∀l∈L.map VL.pl,l.ok p.code.length:=fun l hl=>by obtain⟨y,hy,rfl⟩:=List.mem_map.1 hl;exact mE y hy
 have Bx:(L.map VL.pl).length=p.az.length:=by rw[List.length_map];exact vy
 have Qk:=fun(i:Nat)=>qI hR (b.take i) (h,pl,L.map VL.pl) h3 Bx Lv;have Wc:cj p.code (aF p) (b.take 0) (h,pl,L.map VL.pl)=(h,pl,L.map VL.pl):=rfl;refine Ev.iC rfl Yp rfl rfl rfl ?_;dsimp only[u3,u4,List.length,Nat.reduceSub,Nat.reduceAdd,w1,w2];change ag _ _ _ _ s0 _;refine qq<|qj fun K hK=>qm ?_;refine qn ?_;refine qm ?_;refine qe hK ?_;rw[TW];refine ag.block<|ag.loop (fun mm fr st=>∃(i:Nat) (xK:Nat) (h':List UInt8) (ld pd qd:D) (L':List VL) (P Q:List Nat) (sn:List Bool) (js:List UInt8),fr.clean=⟨9,[.ptr kS 0 0,ov fr 1,ov fr 2,ov fr 3,ov fr 4,ov fr 5,x,.int .i64 (b.length:Nat),.int .i64 (i:Nat)],[]⟩∧Has N S st (.box kS (.mem 0 false [.ptr kd 0 0,.ptr kv 0 0])::.box kd (.mem 0 false (cu h' js))::(e_ ks kv p xK ld pd qd P Q L'++H))∧(i+mm=b.length)∧(dj P Q sn)∧(sn.length=p.code.length)∧((h'++js).length=4)∧(cj p.code (aF p) (b.take i) (h,pl,L.map VL.pl)=(h',xK,L'.map VL.pl))) (b.length) ?_ ?_
 ·exact⟨0,pl,h,ld,pd,qd,L,P,Q,sn,js,rfl,hH,by omega,bd,eT,hl,Wc⟩
 rintro mm fr st ⟨i,xK,h',ld,pd,qd,L',P,Q,sn,js,hfr,hH,hi,bd,eT,hl,hX⟩;rw[hfr];clear hfr;generalize ov fr=ee;clear fr;obtain⟨g1,g2,g3,g4⟩:=Qk i;rw[hX] at g1 g2 g3 g4;simp only at g1 g2 g3 g4;have XS:L'.length=p.az.length:=by rw[←g3,List.length_map]
 refine qq<|qj fun K hK=>qg ?_;refine qe hK<|qq ?_;refine ag.cond (by rfl) (fun hlt=>?_) (fun hlt=>?_)<;>try simp only[decide_eq_true_eq,decide_eq_false_iff_not] at hlt
 ·refine ag.skip ?_;have hil:i<b.length:=by omega
  obtain⟨c,iE⟩:∃c,b[i]?=some c:=⟨b[i]'hil,List.getElem?_eq_getElem _⟩
  have iv:=B2 iE;have Cb:b.take (i+1)=b.take i++[c]:=by rw[List.take_add_one,iE];rfl
  have hti:(b.take i).length=i:=by rw[List.length_take];omega
  refine qq<|ag.block<|qq<|qj fun K hK=>qr fun Sd DK=>?_;refine qR ?_;refine qm ?_;refine qe hK<|qj fun K hK=>qm ?_;refine qm ?_;obtain⟨_,st,aN,rfl,uR,L1,LI,hM⟩:=CI (c:=c) gz hF hp hR (by omega) g1 XS (jL g4) ⟨pd,qd,P,Q,sn,js,hH,bd,eT,hl⟩;obtain⟨pd,qd,P,Q,sn,js,hH,bd,eT,hl⟩:=hM;dsimp only[u4] at hH;refine qv aN ?_;refine qe hK<|qj fun K hK=>qA ?_;refine qm ?_;refine qe hK ?_;exact⟨mm-1,by omega,⟨i+1,_,_,uR,pd,qd,L1,P,Q,sn,js,rfl,hH,by omega,bd,eT,hl,(by rw[Cb,qH,hX,LI];rfl)⟩⟩
 ·refine ag.exit ?_;refine⟨fun i h=>(by cases h),_,_,_,rfl,rfl,?_⟩;have Cb:b.take i=b:=List.take_of_length_le (by omega);rw[Cb] at hX;rw[hX];exact⟨rfl,ld,L',rfl,pd,qd,P,Q,sn,js,hH,bd,eT,hl⟩
def RQ (x:D) (pl:Nat) (L:List PL):D:=.agg [x,.int .i64 (pl:Nat),ot L]
structure AS (st:St) (kS kd kv ks:Nat) (p:Pg) (pl:Nat) (ld:D) (L:List VL) (h js:List UInt8):Prop where
 s:st.bs[kS]?=some (.mem 0 false [.ptr kd 0 0,.ptr kv 0 0])
 sl:kS<st.bs.length
 d:st.bs[kd]?=some (.mem 0 false (cu h js))
 dl:kd<st.bs.length
 hl:(h++js).length=4
 m:AM st.bs.length st kv ks p pl ld L
 ro:st.ro≤st.bs.length
theorem SH.as {N kS kd kv ks:Nat} {S s0:St} {H:List bC} {p:Pg} {pl:Nat} {ld:D} {L:List VL} {h:List UInt8} (hM:SH [] N S s0 kS kd kv ks p pl ld L h H):∃js,AS s0 kS kd kv ks p pl ld L h js:=by
 obtain⟨pd,qd,P,Q,sn,js,hH,bd,eT,hl⟩:=hM;dsimp only[u4] at hH;have hM:MH [] N S s0 ks kv p pl ld L ([_,_]++H):=MH.push [_,_] [] (H:=H) (Aa hH bd eT);exact⟨js,hH.at au,(hH.ge au).2,hH.at aS,(hH.ge aS).2,hl,hM.am,hM.ro⟩
theorem AM.bs {N:Nat} {S S2:St} {kv ks:Nat} {p:Pg} {pl:Nat} {ld:D} {L:List VL} (h:AM N S kv ks p pl ld L) (hS:S2.bs=S.bs):AM N S2 kv ks p pl ld L:=
 ⟨h.lt,by rw[hS];exact h.le,by rw[hS];exact h.at_,⟨h.ld.1.bs hS,h.ld.2⟩,fun l hl=>⟨(h.td l hl).1.bs hS,(h.td l hl).2⟩,h.ksl⟩
theorem AM.lift {N:Nat} {S st:St} {H:List bC} {kv ks:Nat} {p:Pg} {pl:Nat} {ld:D} {L:List VL} (h:AM N S kv ks p pl ld L) (hH:Has N S st H):AM st.bs.length st kv ks p pl ld L:=by
 have h1:=h.le;have h2:=hH.ex.len;have h3:=h.lt;have h4:=h.ksl;exact⟨by omega,Nat.le_refl _,h.box hH,⟨h.ld.rows hH,by have:=h.ld.2;omega⟩,fun l hl=>⟨(h.td l hl).rows hH,by have:=(h.td l hl).2;omega⟩,by omega⟩
theorem uO {N:Nat} {S st:St} {H:List bC} {k:Nat} {cs:List D} (hH:Has N S st H) (hk:k<N) (h:S.bs[k]?=some (.mem 0 false cs)) (o:Nat):jD st (.ptr k 0 o) (cs.drop o):=
 .inl ⟨k,0,o,false,_,rfl,St.mem_of (by rw[hH.ex.low k hk];exact h),List.take_length ..⟩
theorem back_eq {S st s0:St} {H:List bC} (hH:Has s0.bs.length S st H) (cA:S.bs=s0.bs):(⟨st.bs.take s0.bs.length,s0.flr,s0.ro⟩:St)=s0:=by
 have XG:st.bs.take s0.bs.length=s0.bs:=by
  refine List.ext_getElem? fun j=>?_;rw[List.getElem?_take]
  by_cases hj:j<s0.bs.length
  ·rw[if_pos hj,hH.ex.low j hj,cA]
  ·rw[if_neg hj,List.getElem?_eq_none (by omega)]
 rw[XG]
theorem BP {N:Nat} {S st:St} {H:List bC} {j:Nat} {d:D} {E:List PL} (hH:Has N S st H) (hj:H[j]?=some (.aM d 12 (E.map vf))) (he:∀l∈E,l.eL=[]):bw st N false 16 d=some (ot E):=by
 have hown:=hH.own hj;have kL:j<H.length:=bj hj
 have h2:Has N S st (H.set j (.deep (fun _=>False) d 12 (E.map nM))):=hH.sH hj (fun _ _ _=>rfl) (Nat.le_refl _) rfl rfl ⟨⟨E.map vf,hown,by
   clear hj hown kL
   induction E with
   |nil=>exact .nil
   |cons l E ih=>
    rw[List.map_cons,List.map_cons];refine .cons ?_ (ih fun x hx=>he x (List.mem_cons_of_mem _ hx));unfold nM;rw[he l (List.mem_cons_self ..)]
    exact Eh (.aM .nul 11 [] .nul (fun e h=>by cases h) (fun k h=>by simp only[D.ref] at h;omega))⟩,fun _ _=>id⟩ (fun k hk=>.inl (by
   rcases hk with hk|hk
   ·exact hk
   ·exact hk.elim)) (fun k hk=>by
   rcases hk with hk|hk
   ·exact((hH.ok j _ hj).2 k hk).2
   ·exact hk.elim)
 exact h2.ni (n:=15) (List.getElem?_set_self kL) (by decide)
theorem CX {L:List VL} {n:Nat} (h:∀l∈L,l.pl.ok n):∀l∈L,l.eL.length≤1000:=fun l hl=>(h l hl).2
theorem vU {kS kd kv ks:Nat} {s0:St} {p:Pg} {pl:Nat} {ld:D} {L:List VL} {h js:List UInt8} (hp:p.ok) (vy:L.length≤1000) (bd:∀l∈L,l.eL.length≤1000) (hA:AS s0 kS kd kv ks p pl ld L h js):
  ∃d ah,Ev pv 34 [.ptr kS 0 0] s0 d ah∧d=RQ (lB h) pl (L.map VL.pl)∧ah=s0:=by
 have et:=hA.ro;refine Ev.iC rfl Yr rfl rfl rfl ?_;dsimp only[u3,u4,List.length,Nat.reduceSub,Nat.reduceAdd,w1,w2];have cA:(ai .rw s0).bs=s0.bs:=rfl;have hF:(ai .rw s0).flr≤s0.bs.length:=Nat.le_refl _;have hH:Has s0.bs.length (ai .rw s0) (ai .rw s0) []:=Has.start (Nat.le_refl _) et;generalize ai .rw s0=S2 at*;have hm:=hA.m.bs cA;have cG:S2.bs[kS]?=some (.mem 0 false [.ptr kd 0 0,.ptr kv 0 0]):=by rw[cA];exact hA.s
 have XU:S2.bs[kd]?=some (.mem 0 false (cu h js)):=by rw[cA];exact hA.d
 refine qq<|qj fun K hK=>qa hH fun k2 st hk2 hH=>qe hK ?_;have Rz:=uO hH hA.sl cG 0;have Ce:=uO hH hA.sl cG 1;have yG:st.ro≤st.bs.length:=by rw[hH.ex.ro];exact Nat.le_trans hH.et (Nat.le_trans hH.hN hH.ex.len)
 obtain⟨_,st1,TK,rfl,SG⟩:=xJ hp vy bd (hm.lift hH) yG;rw[SG] at TK;clear SG st1;have BD:=Aq (st:=st) (k:=kd) (v:=0) (h:=h) (j:=js) (by rw[hH.ex.low kd hA.dl];exact XU) hA.hl yG;have ZT:st.bs[kS]?=some (.mem 0 false [.ptr kd 0 0,.ptr kv 0 0]):=by rw[hH.ex.low kS hA.sl];exact cG
 change ag _ _ _ _ _ _;refine qq ?_;generalize hK:aT _ _ _ _=K;refine ag.wb rfl<|cN.cons<|qm<|aa.nil ⟨rfl,?_⟩;refine cN.cons<|qg<|aa.nil ⟨rfl,?_⟩;refine cN.cons<|qp (o:=0)<|aa.nil ⟨rfl,?_⟩;refine cN.cons<|qR<|aa.nil ⟨rfl,?_⟩;refine cN.cons<|aa.fc rfl rfl BD (ab rfl _)<|aa.nil ⟨rfl,?_⟩;refine cN.cons<|qm<|aa.nil ⟨rfl,?_⟩;refine cN.cons<|qg<|aa.nil ⟨rfl,?_⟩;refine cN.cons<|qp (o:=1)<|aa.nil ⟨rfl,?_⟩;refine cN.cons<|qR<|aa.nil ⟨by exact Bool.and_eq_true_iff.2 ⟨Re rfl rfl ZT ZT,rfl⟩,?_⟩;refine cN.cons<|aa.fc rfl rfl TK (ab rfl _)<|aa.nil ⟨rfl,?_⟩;refine cN.cons<|aa.go (d:=RQ (lB h) pl (L.map VL.pl)) (st1:=_) rfl rfl rfl (ab rfl _)<|aa.nil ⟨rfl,?_⟩;refine cN.cons<|qS hH au fun st hH=>?_;dsimp only[u2,u1,u3,u4,setMany,u5,u6,D.cells,Nat.reduceAdd] at hH;refine aa.nil ⟨rfl,?_⟩;refine cN.nil ?_;subst hK;refine ag.ret ⟨rx,_,_,_,hH.pJ rfl au rfl,ak (show bw st s0.bs.length false 16 (RQ (lB h) pl (L.map VL.pl))=some (RQ (lB h) pl (L.map VL.pl)) from rfl),rfl,back_eq hH cA⟩
theorem CH (gz:∀st,Ev pv 59 [] st (.agg (aw aP)) st) {kS kd kv ks:Nat} {s0:St} {p:Pg} {pl:Nat} {ld:D} {L:List VL} {h js:List UInt8} (hp:p.ok) (hR:bB p) (fU:pl≤900000000000) (vy:L.length=p.az.length) (mE:∀l∈L,l.pl.ok p.code.length) (hb:cP h=true∨h=[]) (h3:h.length≤3) (hA:AS s0 kS kd kv ks p pl ld L h js):
  ∃d ah,Ev pv 35 [.ptr kS 0 0] s0 d ah∧d=ot ((dA p.code (aF p) (gU h.length) pl (L.map VL.pl)).2.map (kB p.code (dA p.code (aF p) (gU h.length) pl (L.map VL.pl)).1))∧ah=s0:=by
 have et:=hA.ro;have SM:=hR.sl;refine Ev.iC rfl Yq rfl rfl rfl ?_;dsimp only[u3,u4,List.length,Nat.reduceSub,Nat.reduceAdd,w1,w2];have cA:(ai .rw s0).bs=s0.bs:=rfl;have hF:(ai .rw s0).flr≤s0.bs.length:=Nat.le_refl _;have hH:Has s0.bs.length (ai .rw s0) (ai .rw s0) []:=Has.start (Nat.le_refl _) et;generalize ai .rw s0=S2 at*;have hm:=hA.m.bs cA;have cG:S2.bs[kS]?=some (.mem 0 false [.ptr kd 0 0,.ptr kv 0 0]):=by rw[cA];exact hA.s
 have XU:S2.bs[kd]?=some (.mem 0 false (cu h js)):=by rw[cA];exact hA.d
 have Lv:∀l∈L.map VL.pl,l.ok p.code.length:=fun l hl=>by obtain⟨y,hy,rfl⟩:=List.mem_map.1 hl;exact mE y hy
 have Bx:(L.map VL.pl).length=p.az.length:=by rw[List.length_map];exact vy
 obtain⟨pt,jS⟩:=mR hR (gU h.length) pl (L.map VL.pl) Bx Lv;have hrp:=uq p.code (aF p) (gU h.length) pl (L.map VL.pl);have hbl:(gU h.length).length=h.length:=by unfold gU;rw[List.length_replicate]
 refine qq<|qj fun K hK=>qm ?_;refine qe hK ?_;have Rz:=uO hH hA.sl cG 0;have yG:S2.ro≤S2.bs.length:=Nat.le_trans hH.et hH.hN;have BD:=Aq (st:=S2) (k:=kd) (v:=0) (h:=h) (j:=js) XU hA.hl yG;have QL:=Sf (st:=S2) (x:=lB h) (B1 S2 h) hb h3 yG;refine qq<|qj fun K hK=>qm ?_;refine qg ?_;refine qp (o:=0) ?_;refine qR ?_;refine aa.fc rfl rfl BD (ab rfl _) ?_;have hH:=hH.pL (.mem 0 false (cu h (([0,0,0,0]:List UInt8).drop h.length)));refine aa.fc rfl rfl QL (ab rfl _) ?_;refine qm ?_;refine qg ?_;refine qg ?_;refine qm ?_;refine qm ?_;refine qe hK ?_;generalize S2.push (.mem 0 false (cu h (([0,0,0,0]:List UInt8).drop h.length)))=st at*
 obtain⟨Zk,W6⟩:∃k,k=S2.bs.length:=⟨_,rfl⟩
 rw[←W6] at hH⊢;refine qq<|qq<|qj fun K hK=>qm ?_;refine qg ?_;refine qe hK<|ag.cond (v:=false) (by dsimp only[Fr.ev,Fr.get,nth,V.look];rfl) (fun h=>by cases h) (fun _=>?_);refine ag.skip ?_;have Ce:=uO hH hA.sl cG 1;obtain⟨_,st2,Xr,rz,pO,wR,L2,rfl,T4,hM⟩:=L_ hF hp hR (by omega) (CX mE) hm hH
 have XR:L2.length=p.az.length:=by
  have:=congrArg List.length T4;rw[List.length_map,List.length_map] at this;omega
 have T3:∀l∈L2,l.pl.ok p.code.length:=jL (by rw[T4];exact Lv);obtain⟨pd,qd,P,Q,sn,Mx,hY,eT⟩:=tt (MH.pull [_] [] (H:=[]) hM);refine qq<|qj fun K hK=>qm ?_;refine qg ?_;refine qp (o:=1) ?_;refine qR ?_;have hH:=Mx;refine aa.fc rfl rfl Xr (ab rfl _) ?_;refine qm ?_;refine qe hK ?_;have hge:=hH.ge (j:=0) rfl;have QC:(h++([0,0,0,0]:List UInt8).drop h.length).length=4:=by simp;omega
 have DX:=Q9 (st:=st2) (k:=Zk) (v:=0) (h:=h) (j:=([0,0,0,0]:List UInt8).drop h.length) (hH.at (j:=0) rfl) QC (by rw[hH.ex.ro];exact Nat.le_trans hH.et hge.1);have Vn:=hH.ui (b':=.mem 0 false (cu [] (h++([0,0,0,0]:List UInt8).drop h.length))) (aD:=0) (j:=0) rfl;dsimp only[u2,u3,u4] at Vn;generalize(⟨st2.bs.set Zk (.mem 0 false (cu [] (h++([0,0,0,0]:List UInt8).drop h.length))),st2.flr,st2.ro⟩:St)=Vx at*;obtain⟨_,st4,yP,rfl,ld3,L3,Vm,hM⟩:=vH (gs:=gU h.length) gz hF hp hR (by omega) (by omega) XR T3 (MH.push [_] [] (H:=[]) (Aa Vn hY eT));rw[T4] at Vm hM;have XQ:L3.length=p.az.length:=by rw[←pt,←Vm,List.length_map]
 have T2:∀l∈L3,l.pl.ok p.code.length:=jL (by rw[Vm];exact jS);refine qq<|qj fun K hK=>qm ?_;refine qm ?_;refine aa.fc rfl rfl DX (ab rfl _) ?_;refine aa.fc rfl rfl yP (ab rfl _) ?_;refine qe hK ?_;obtain⟨ed,st5,Xs,hM⟩:=L9 hF hp hR (by omega) XQ T2 hM;obtain⟨pd,qd,P,Q,sn,ZY,aaF,aah⟩:=tt hM;dsimp only[u3,u4] at ZY;refine qq<|qj fun K hK=>qm ?_;have hH:=ZY;refine aa.fc rfl rfl Xs (ab rfl _) ?_;refine qm ?_;refine qe hK ?_;have hE:(L3.map fun l=>kB p.code (dA p.code (aF p) (gU h.length) pl (L.map VL.pl)).1 l.pl)=(dA p.code (aF p) (gU h.length) pl (L.map VL.pl)).2.map (kB p.code (dA p.code (aF p) (gU h.length) pl (L.map VL.pl)).1):=by rw[←Vm,List.map_map];rfl
 rw[hE] at hH;refine ag.ret ⟨rx,_,_,_,rfl,ak (BP hH (j:=0) rfl fun l hl=>(by obtain⟨x,_,rfl⟩:=List.mem_map.1 hl;rfl)),rfl,back_eq hH cA⟩
end Go.Proofs.YtbdnabmmlbiomaaGreat
namespace Go.Proofs.YtbdnabmmlbiomaaGreat
open Go.V Go
section
variable{A:List bC} {N kS kd kv ks:Nat} {S s0:St} {p:Pg} {pl:Nat} {ld:D} {L:List VL} {h:List UInt8} {H:List bC}
theorem SH.pull (A:List bC) (hM:SH [] N S s0 kS kd kv ks p pl ld L h (A++H)):SH A N S s0 kS kd kv ks p pl ld L h H:=by
 obtain⟨pd,qd,P,Q,sn,js,hH,h1,h2,h3⟩:=hM;refine⟨pd,qd,P,Q,sn,js,?_,h1,h2,h3⟩;have:=Has.mw (_::_::e_ ks kv p pl ld pd qd P Q L) A (H:=H) (by simpa only[List.nil_append,List.cons_append,List.append_assoc] using hH)
 simpa only[List.cons_append,List.append_assoc] using this
theorem SH.push (hM:SH A N S s0 kS kd kv ks p pl ld L h H):SH [] N S s0 kS kd kv ks p pl ld L h (A++H):=by
 obtain⟨pd,qd,P,Q,sn,js,hH,h1,h2,h3⟩:=hM;refine⟨pd,qd,P,Q,sn,js,?_,h1,h2,h3⟩;have:=Has.mw A (_::_::e_ ks kv p pl ld pd qd P Q L) (H:=H) (by simpa only[List.cons_append,List.append_assoc] using hH)
 simpa only[List.nil_append,List.cons_append,List.append_assoc] using this
theorem SH.has (hM:SH A N S s0 kS kd kv ks p pl ld L h H):Has N S s0 A:=by
 obtain⟨pd,qd,P,Q,sn,js,hH,h1,h2,h3⟩:=hM;have:=hH.take A.length
 rwa [List.take_left] at this
end
theorem vT (code:List aJ) (ss:List Nat) (x:List UInt8×Nat×List PL) (c:UInt8):cP (me code ss x c).1=true∨(me code ss x c).1=[]:=(p_ _ _ (by simp)).symm
end Go.Proofs.YtbdnabmmlbiomaaGreat
