/-
 A machine is made.
-/
import Derived.Test.YtnleclohocdkaaaVGHr
import Derived.Test.YtnleclohocdkaaaVGZd
import Derived.Test.YtnleclohocdkaaaVGQe
import Derived.Test.YtnleclohocdkaaaVGJh
set_option maxRecDepth 100000
set_option maxHeartbeats 4000000
set_option linter.unusedSimpArgs false
set_option linter.unusedVariables false
namespace Go.Proofs.Ytnleclohocdkaaa
open Go.V Go
def ei (fr:Go.V.Fr) (k:Nat):Go.V.D:=Go.V.nth .bh fr.loc k
structure rL (p q:Pg):Prop where
 ok:q.ok
 code:q.code=p.code.map ek
 av:q.av=p.av
theorem C8 {s0:St} {p:Pg} (hp:p.ok):∃d,Ev pv 92 [p.d] s0 d s0∧∃q:Pg,d=q.d∧rL p q:=by
 refine Ev.He rfl OE rfl rfl rfl ?_;refine zE ?_;obtain⟨cD,hF,hH⟩:=ri s0;generalize ag .ro s0=S at*;have hc:=hp.c.arg s0.bs.length S;have hs:=hp.s.arg s0.bs.length S;have hlen:=hp.cl;have JD:=hp.sl;unfold Pg.d;refine zQ 2 ?_;refine qb hH fun k1 st re hH=>?_;dsimp only[u2,u1,u3,u4,setMany,u5,u6,D.cells,Nat.reduceAdd,Pg.cs,aK,az] at hH;refine qa hH fun k2 st hk2 hH=>?_;refine zQ 1 ?_;have hH:=hH.e_ 1;refine zQ 4 ?_;refine qP hH aS (Arg.rows (by assumption) hH) fun x8 st hH=>?_;dsimp only[u2,u1,u3,u4,setMany,u5,u6,D.cells,Nat.reduceAdd,Pg.cs,aK,az] at hH;refine ab.gm (qs:=[(1,_)]) rfl rfl rfl rfl ⟨rfl,(ev rfl),(by exact hH.fI (by exact aS)),trivial⟩ (by intro q hq;simp only[List.mem_cons,List.not_mem_nil,or_false] at hq;rcases hq with rfl<;>exact⟨rfl,by exact Nat.le_of_ble_eq_true rfl⟩) (by show List.foldl _ [_,_] _=_;dsimp only[List.foldl_cons,List.foldl_nil,u2,u1]<;>rfl) (by dsimp only[Fr.put,u1,u2]<;>rfl) ?_;refine qa hH fun k3 st NP hH=>?_;refine qS hH aS fun st hH=>?_;dsimp only[u2,u1,u3,u4,setMany,u5,u6,D.cells,Nat.reduceAdd,Pg.cs,aK,az] at hH;refine zQ 1 ?_;have hH:=hH.Jg 4;refine zQ 5 ?_;refine qn ?_;simp only[List.length_map];refine zQ 3 ?_;refine ah.loop (fun mm fr st=>∃(i:Nat) (y:D) (ks:Nat→Prop),fr.clean=⟨14,[ei fr 0,.ptr k1 0 0,.ptr k2 0 0,.ptr k3 0 0,ei fr 4,ei fr 5,ei fr 6,ei fr 7,ei fr 8,ei fr 9,ei fr 10,p.cd,.int .i64 (p.code.length:Nat),.int .i64 (i:Nat)],[]⟩∧Has s0.bs.length S st [.deep ks y 4 ((p.code.take i).map rF),.box k3 (.mem 0 false [y,x8]),.aI x8 1 (p.av.map az),.box k2 (.mem 0 false [.nul,.nul]),.box k1 (.mem 0 false [p.cd,p.sd])]∧(i+mm=p.code.length)) (p.code.length) ?_ ?_
 ·exact⟨0,.nul,_,rfl,hH,by omega⟩
 rintro mm fr st ⟨i,y,ks,hfr,hH,hi⟩;rw[hfr];clear hfr;generalize ei fr=ee;clear fr;refine zQ 5 ?_;refine zP (fun h1=>?_) fun h1=>?_
 ·refine zQ 1 ?_
  obtain⟨q,hq⟩:∃q,p.code[i]?=some q:=⟨p.code[i]'(by omega),List.getElem?_eq_getElem _⟩
  have hr:=iF hq;have wM:=hp.i q (List.mem_of_getElem? hq);have DG:=wM.1;have M_:=wM.1.arg s0.bs.length S;have rZ:=wM.2;have tf:((p.code.take i).map rF).length≤1048576:=by rw[List.length_map,List.length_take];omega
  refine zQ 4 ?_;refine qr fun Ri Nz=>?_;refine ab.eB rfl (ev rfl) (by assumption) rfl (aa rfl _) ?_;refine qa hH fun k5 st II hH=>?_;refine qS hH aS fun st hH=>?_;dsimp only[u2,u1,u3,u4,setMany,u5,u6,D.cells,Nat.reduceAdd,Pg.cs,aK,az] at hH;refine zQ 1 ?_;have hH:=hH.e_ 2;refine zQ 4 ?_;refine ab.bT (s:=2) hH rfl (ev rfl) (ev rfl) (by exact aS) (by exact Arg.rows (by assumption) hH) rfl rfl rfl rfl rfl rfl rfl ⟨(Nat.le_of_ble_eq_true rfl),(Nat.le_of_ble_eq_true rfl)⟩ (fun _=>(aa rfl _)) (by simp only[List.length_nil,List.length_map]<;>omega) (by exact .inl hF) (fun PA st hH=>?_);dsimp only[u2,u1,u3,u4,setMany,u5,u6,D.cells,Nat.reduceAdd,Pg.cs,aK,az] at hH;refine zQ 1 ?_;refine qT hH bZ (fun st hH=>?_) (i_:=hH.fI aS);dsimp only[u2,u1,u3,u4,setMany,u5,u6,D.cells,Nat.reduceAdd,Pg.cs,aK,az] at hH;refine zQ 4 ?_;refine ab.bN (m:=4) hH rfl (ev rfl) (by exact bZ) (by dsimp only[List.drop_succ_cons,List.drop_zero,List.take_succ_cons,List.take_zero,Pg.cs,aK,az]<;>rfl) rfl rfl (aa rfl _) ?_;refine qh (s:=4) (vs:=[_]) hH fun k24 st S9 hH=>?_;obtain⟨hH,N8⟩:=hH.EF (i:=1) (j:=3) (by decide) bZ dI (ec _);dsimp only[u1,u2] at hH;refine ab.pf hH rfl rfl rfl dI (hH.rows aS) (.cons (.cons (.plain _ rfl) (.cons (.plain _ rfl) (.cons (.plain _ rfl) (.cons N8 .nil)))) .nil) rfl rfl rfl rfl rfl rfl rfl ⟨(Nat.le_of_ble_eq_true rfl),(Nat.le_of_ble_eq_true rfl)⟩ (fun _=>(aa rfl _)) (by show _+1≤_;omega) (.inl hF) (fun QW st hH=>?_);dsimp only[u1,u2] at hH;refine zQ 1 ?_;refine ab.ra hH rfl (ev rfl) (ev rfl) (by exact hH.nS (by exact dI)) (by exact rfl) (by exact eJ) (by exact Nat.le_of_ble_eq_true rfl) (by exact .inl hF) (fun st hH=>?_);dsimp only[u2,u1,u3,u4,setMany,u5,u6,D.cells,Nat.reduceAdd,Pg.cs,aK,az] at hH;refine zQ 5 ?_;exact⟨mm-1,by omega,⟨i+1,QW,_,rfl,(by rw[List.take_add_one,hq,Option.toList_some,List.map_append];exact hH.drop 3),by omega⟩⟩
 ·refine zQ 3 ?_;refine ab.bN (m:=2) hH rfl (ev rfl) (by exact bZ) (by dsimp only[List.drop_succ_cons,List.drop_zero,List.take_succ_cons,List.take_zero,Pg.cs,aK,az]<;>rfl) rfl rfl (aa rfl _) ?_;refine qS hH dI fun st hH=>?_;dsimp only[u2,u1,u3,u4,setMany,u5,u6,D.cells,Nat.reduceAdd,Pg.cs,aK,az] at hH;refine zQ 1 ?_;rw[List.take_of_length_le (by omega)] at hH;have h1:=hH.w6 aS (n:=14) (by decide);have h2:=hH.Av cU (nM _) (n:=15) (by decide)
  have h3:bo st s0.bs.length false 16 (.agg [y,x8])=some (.agg [.sl ((p.code.map rF).map (j7 4)),.sl ((p.av.map az).map (j7 1))]):=by
   show(iv (bo st s0.bs.length false 15) [y,x8]).map D.agg=_;simp only[iv,h1,h2,Option.map_some]
  refine ah.ret ⟨rx,_,_,hH.zL rfl dI rfl,rl cD hH h3,⟨_,p.code.map ek,Dz p.av,p.av⟩,rfl,⟨?_,wH _,?_,by simpa using hlen,JD⟩,rfl,rfl⟩
  ·have h0:(p.code.map ek).map aK=p.code.map rF:=by rw[List.map_map];rfl
   show gU _ 4 ((p.code.map ek).map aK);rw[h0]
   have h4:∀e∈(p.code.map rF),e.length=4:=by
    intro e he;obtain⟨q,_,rfl⟩:=List.mem_map.1 he;rfl
   have:=gU.frozen (s:=4) (es:=p.code.map rF) h4 (by
    intro e he d hd;obtain⟨q,_,rfl⟩:=List.mem_map.1 he;simp only[rF,aK,ek,List.mem_cons,List.not_mem_nil,or_false] at hd
    rcases hd with rfl|rfl|rfl|rfl<;>rfl)
   exact this
  ·intro i hi;obtain⟨q,hq,rfl⟩:=List.mem_map.1 hi;exact Ei (hp.i q hq)
theorem rL.right {p q:Pg} (h:rL p q) (hR:a_ p):a_ q:=(x7 h.code h.av).2 hR
theorem Cv {N:Nat} {S s0:St} {H:List bm} {p:Pg} (hF:S.flr≤N) (hp:p.ok) (hR:a_ p) (hH:Has N S s0 H):
  ∃r af,Ev pv 66 [p.d] s0 r af∧∃kv ks q,r=.tup [.ptr kv 0 0,.int .i64 0]∧rL p q∧MH [] N S af ks kv q 0 .nul [] H:=by
 have hc:=hp.c.arg N S;have hcl:=hR.cl;obtain⟨_,N2,q,rfl,hq⟩:=C8 (s0:=s0) hp;have hown:∀st,∃d,Ev pv 92 [p.d] st d st∧∃q:Pg,d=q.d∧rL p q:=fun st=>C8 hp;unfold Pg.d at hown;unfold Pg.d;clear N2 hq q;refine Ev.ko rfl OS rfl rfl rfl ?_;refine zE ?_;change ah _ _ _ _ s0 _;refine zQ 2 ?_;refine qb hH fun k1 st re hH=>?_;dsimp only[u2,u1,u3,u4,setMany,u5,u6,D.cells,Nat.reduceAdd,Pg.cs,aK,az] at hH;refine zQ 6 ?_;refine ab.bN (m:=2) hH rfl (ev rfl) (by exact aS) (by dsimp only[List.drop_succ_cons,List.drop_zero,List.take_succ_cons,List.take_zero,Pg.cs,aK,az]<;>rfl) rfl rfl (aa rfl _) ?_;refine qv (sm (p:=p) hp) ?_;refine zQ 2 ?_;refine qE rfl (by rw[mG hR];rfl) ?_;refine zQ 5 ?_;refine qn ?_;simp only[List.length_map];obtain⟨_,st,aG,ks,rfl,pd,qd,P,Q,hH,aY⟩:=A0 (n:=p.code.length) hF (by omega) hH;refine qv aG ?_;refine zQ 6 ?_;obtain⟨_,aG,q,rfl,hq⟩:=hown st;refine zQ 2 ?_;refine ab.bN (m:=2) hH rfl (ev rfl) (by exact dI) (by dsimp only[List.drop_succ_cons,List.drop_zero,List.take_succ_cons,List.take_zero,Pg.cs,aK,az]<;>rfl) rfl rfl (aa rfl _) ?_;refine qv aG ?_;refine qm ?_;refine ab.go (d:=.agg [q.cd,q.sd,.int .i64 0,.nul,.ptr ks 0 0]) (st1:=_) rfl rfl rfl (aa rfl _) ?_;refine qb hH fun k20 st NQ hH=>?_;refine zQ 4 ?_;refine ah.ret ⟨rx,_,_,_,rfl,rfl,?_⟩;have hl:(List.replicate p.code.length false).length=q.code.length:=by rw[List.length_replicate,hq.code,List.length_map]
 exact⟨k20,ks,q,rfl,hq,pd,qd,P,Q,_,Has.me [_] [_,_,_,_] ((hH.erase 4).e_ 12),aY,hl⟩
def qX (s:Nat):PL:=⟨false,bt,[⟨s,bt⟩]⟩
theorem Ew (oE:∀st,Ev pv 93 [] st (.agg (aQ bt)) st) {N ks kv:Nat} {S s0:St} {H:List bm} {p:Pg} (hF:S.flr≤N) (hp:p.ok) (hR:a_ p) (hM:MH [] N S s0 ks kv p 0 .nul [] H):
  ∃d af,Ev pv 67 [.ptr kv 0 0] s0 d af∧d=.tup []∧∃ld L,L.map VL.pl=(bd p).map qX∧MH [] N S af ks kv p 0 ld L H:=by
 have hs:=hp.s.arg N S;have Lx:=hR.sl;obtain⟨pd,qd,P,Q,sn,hH,aY,iw⟩:=hM;dsimp only[u4] at hH;refine Ev.ko rfl OR rfl rfl rfl ?_;refine zE ?_;change ah _ _ _ _ s0 _;refine zQ 7 ?_;refine qn ?_;simp only[List.length_map];refine zQ 3 ?_;refine ah.loop (fun mm fr st=>∃(i:Nat) (ld:D) (L:List VL),fr.clean=⟨11,[.ptr kv 0 0,ei fr 1,ei fr 2,ei fr 3,ei fr 4,ei fr 5,ei fr 6,ei fr 7,p.sd,.int .i64 (p.av.length:Nat),.int .i64 (i:Nat)],[]⟩∧Has N S st (.box kv (.mem 0 false [p.cd,p.sd,.int .i64 ((0:Nat):Nat),ld,.ptr ks 0 0])::.box ks (.mem 0 false [pd,qd])::.aI pd 1 (P.map fY)::.aI qd 2 (Q.map nJ)::.aI ld 12 (L.map gW)::(L.map rN++H))∧(i+mm=p.av.length)∧(L.length=i)∧(L.map VL.pl=((bd p).take i).map qX)) (p.av.length) ?_ ?_
 ·exact⟨0,.nul,[],rfl,hH,by omega,rfl,rfl⟩
 rintro mm fr st ⟨i,ld,L,hfr,hH,hi,Oj,QA⟩;rw[hfr];clear hfr;generalize ei fr=ee;clear fr;refine zQ 5 ?_;refine zP (fun hlt=>?_) fun hlt=>?_
 ·refine zQ 1 ?_;have hil:i<p.av.length:=by omega
  obtain⟨s,Iz⟩:∃s,p.av[i]?=some s:=⟨p.av[i]'(by omega),List.getElem?_eq_getElem _⟩
  obtain⟨tg,ES⟩:=hR.st s (List.mem_of_getElem? Iz);obtain⟨s1,rfl⟩:=Int.eq_ofNat_of_zero_le tg;have iH:=fL Iz;have df:(bd p)[i]?=some s1:=by unfold bd;rw[List.getElem?_map,Iz];rfl
  refine zQ 4 ?_;refine qr fun PY J8=>?_;refine zQ 9 ?_;refine qv (oE _) ?_;refine qm ?_;refine qv (oE _) ?_;refine ab.go (d:=.agg (aW ⟨s1,bt⟩)) (st1:=_) rfl rfl rfl (aa rfl _) ?_;refine qh (s:=11) (vs:=[_]) hH fun k23 st Ko hH=>?_;dsimp only[u2,u1,u3,u4,setMany,u5,u6,D.cells,Nat.reduceAdd,aK,aW,bn,aQ,gW,az] at hH;refine ab.go (d:=.agg (bn false bt (.win k23 0 0 1 11))) (st1:=_) rfl rfl rfl (aa rfl _) ?_;refine qh (s:=12) (vs:=[_]) hH fun k25 st S8 hH=>?_;dsimp only[u2,u1,u3,u4,setMany,u5,u6,D.cells,Nat.reduceAdd,aK,aW,bn,aQ,gW,az] at hH;refine ab.bT (s:=12) hH rfl (ev rfl) (ev rfl) (by exact ja) (by exact hH.rows (by exact aS)) rfl rfl rfl rfl rfl rfl rfl ⟨(Nat.le_of_ble_eq_true rfl),(Nat.le_of_ble_eq_true rfl)⟩ (fun _=>(aa rfl _)) (by simp only[List.length_cons,List.length_nil,List.length_map]<;>omega) (by exact .inl hF) (fun QV st hH=>?_);dsimp only[u2,u1,u3,u4,setMany,u5,u6,D.cells,Nat.reduceAdd,aK,aW,bn,aQ,gW,az] at hH;refine zQ 2 ?_;refine qT hH cU (fun st hH=>?_) (i_:=hH.fI ja);dsimp only[u2,u1,u3,u4,setMany,u5,u6,D.cells,Nat.reduceAdd,aK,aW,bn,aQ,gW,az] at hH;refine zQ 5 ?_;have hH:=hH.drop 1;have hH:=Has.me [_] (_::_::_::_::_::L.map rN) hH;refine⟨mm-1,by omega,⟨i+1,QV,L++[⟨false,bt,.win k23 0 0 1 11,[⟨s1,bt⟩]⟩],rfl,?_,by omega,by simp;omega,?_⟩⟩
  ·rw[List.map_append,List.map_append,List.append_assoc];exact hH
  ·rw[List.map_append,QA,List.take_add_one,df,Option.toList_some,List.map_append];rfl
 ·refine zQ 1 ?_;refine⟨fun i h=>(by cases h),_,_,_,rfl,rfl,?_⟩;refine⟨rfl,ld,L,?_,pd,qd,P,Q,sn,hH,aY,iw⟩;rw[QA,List.take_of_length_le];unfold bd;rw[List.length_map];omega
theorem Bb {p:Pg} (hR:a_ p):∀l∈(bd p).map qX,l.ok p.code.length:=by
 intro l hl;obtain⟨s,hs,rfl⟩:=List.mem_map.1 hl;obtain⟨v,hv,rfl⟩:=List.mem_map.1 hs;have:=hR.st v hv;refine⟨fun t ht=>?_,by simp[qX]⟩;simp only[qX,List.mem_cons,List.not_mem_nil,or_false] at ht;subst ht;show v.toNat<_;omega
theorem tN (oE:∀st,Ev pv 93 [] st (.agg (aQ bt)) st) {N:Nat} {S s0:St} {H:List bm} {p:Pg} (hF:S.flr≤N) (hp:p.ok) (hR:a_ p) (hH:Has N S s0 H):
  ∃r af,Ev pv 34 [p.d] s0 r af∧∃kv ks q ld L,r=.tup [.ptr kv 0 0,.int .i64 0]∧rL p q∧L.map VL.pl=(bd p).map qX∧MH [] N S af ks kv q 0 ld L H:=by
 have GA:∀st H,Has N S st H→∃r af,Ev pv 66 [p.d] st r af∧∃kv ks q,r=.tup [.ptr kv 0 0,.int .i64 0]∧rL p q∧MH [] N S af ks kv q 0 .nul [] H:=fun st H h=>Cv hF hp hR h;unfold Pg.d at*;refine Ev.ko rfl O7 rfl rfl rfl ?_;refine zE ?_;change ah _ _ _ _ s0 _;refine zQ 2 ?_;refine qb hH fun k1 st re hH=>?_;dsimp only[u2,u1,u3,u4,setMany,u5,u6,D.cells,Nat.reduceAdd,Pg.cs,aK,az] at hH;refine zQ 5 ?_;refine ab.bN (m:=2) hH rfl (ev rfl) (by exact aS) (by dsimp only[List.drop_succ_cons,List.drop_zero,List.take_succ_cons,List.take_zero,Pg.cs,aK,az]<;>rfl) rfl rfl (aa rfl _) ?_;obtain⟨_,st,aG,kv,ks,q,rfl,hq,hM⟩:=GA _ _ hH;refine qv aG ?_;refine zQ 12 ?_;refine ah.cond (v:=false) (by dsimp only[Fr.ev,Fr.get,nth,V.look];rfl) (fun h=>by cases h) (fun _=>?_);refine zQ 1 ?_;obtain⟨_,st1,aG,rfl,ld,L,hL,hM⟩:=Ew oE hF hq.ok (hq.right hR) hM;refine zQ 3 ?_;refine qv aG ?_;refine zQ 7 ?_;refine ah.ret ⟨rx,_,_,_,rfl,rfl,?_⟩;have RN:bd q=bd p:=by unfold bd;rw[hq.av]
 obtain⟨pd,qd,P,Q,sn,hH,aY,iw⟩:=hM;refine⟨kv,ks,q,ld,L,rfl,hq,by rw[←RN];exact hL,pd,qd,P,Q,sn,?_,aY,iw⟩;have hH:=Has.me (_::_::_::_::_::L.map rN) [_] (H:=H) hH;exact hH.drop 1
def PG (l:List fU):D:=.sl ((l.map aW).map (j7 11))
def Bc (l:PL):List D:=bn l.dn l.aM (PG l.dV)
structure AM (N:Nat) (S:St) (kv ks:Nat) (p:Pg) (pl:Nat) (ld:D) (L:List VL):Prop where
 lt:kv<N
 le:N≤S.bs.length
 at_:S.bs[kv]?=some (.mem 0 false [p.cd,p.sd,.int .i64 (pl:Nat),ld,.ptr ks 0 0])
 ld:Arg N S 12 ld (L.map gW)
 td:∀l∈L,Arg N S 11 l.td (l.dV.map aW)
 ksl:ks<N
theorem AM.box {N:Nat} {S st:St} {H:List bm} {kv ks:Nat} {p:Pg} {pl:Nat} {ld:D} {L:List VL} (h:AM N S kv ks p pl ld L) (hH:Has N S st H):st.bs[kv]?=some (.mem 0 false [p.cd,p.sd,.int .i64 (pl:Nat),ld,.ptr ks 0 0]):=by
 rw[hH.ex.low kv h.lt];exact h.at_
theorem AM.refs {N:Nat} {S st:St} {H:List bm} {kv ks:Nat} {p:Pg} {pl:Nat} {ld:D} {L:List VL} (h:AM N S kv ks p pl ld L) (hp:p.ok) (hH:Has N S st H):V.refs [p.cd,p.sd,.int .i64 (pl:Nat),ld,.ptr ks 0 0]≤st.bs.length:=by
 have h1:=hp.c.ref;have h2:=hp.s.ref;have h3:=h.ld.2;have h4:=h.ksl;have h5:=h.le;have h6:=hH.ex.len;simp only[V.refs,D.ref,h1,h2];omega
theorem AM.to {N:Nat} {S st:St} {H:List bm} {kv ks:Nat} {p:Pg} {pl:Nat} {ld:D} {L:List VL} (h:AM N S kv ks p pl ld L) (hH:Has N S st H) (o:Nat):j5 st (.ptr kv 0 o) ([p.cd,p.sd,.int .i64 (pl:Nat),ld,.ptr ks 0 0].drop o):=
 .inl ⟨kv,0,o,false,_,rfl,St.mem_of (by rw[hH.ex.low kv h.lt];exact h.at_),List.take_length ..⟩
theorem MH.ro {N ks kv:Nat} {S s0:St} {H:List bm} {p:Pg} {pl:Nat} {ld:D} {L:List VL} (hM:MH [] N S s0 ks kv p pl ld L H):s0.ro≤s0.bs.length:=by
 obtain⟨pd,qd,P,Q,sn,hH,lT,iw⟩:=hM;rw[hH.ex.ro];exact Nat.le_trans hH.gb (Nat.le_trans hH.hN hH.ex.len)
def nG (fr:Go.V.Fr) (k:Nat):Go.V.D:=Go.V.nth .bh fr.loc k
theorem Dk (f:l5):lZ pv .neq 56 (.agg (aQ f)) (.agg (aQ f))=some (.bool false):=by
 have h:∀b c d e g i j k l m:Int,lZ pv .neq 56 (.agg [.int .i64 b,.int .i64 c,.int .i64 d,.int .i64 e,.int .i64 g,.int .i64 i,.int .i64 j,.int .i64 k,.int .i64 l,.int .i64 m]) (.agg [.int .i64 b,.int .i64 c,.int .i64 d,.int .i64 e,.int .i64 g,.int .i64 i,.int .i64 j,.int .i64 k,.int .i64 l,.int .i64 m])=Option.map (fun b=>D.bool !b) (match some (b==b) with|some true=>(match some (c==c) with|some true=>(match some (d==d) with|some true=>(match some (e==e) with|some true=>(match some (g==g) with|some true=>(match some (i==i) with|some true=>(match some (j==j) with|some true=>(match some (k==k) with|some true=>(match some (l==l) with|some true=>(match some (m==m) with|some true=>some true|some false=>some false|none=>none)|some false=>some false|none=>none)|some false=>some false|none=>none)|some false=>some false|none=>none)|some false=>some false|none=>none)|some false=>some false|none=>none)|some false=>some false|none=>none)|some false=>some false|none=>none)|some false=>some false|none=>none)|some false=>some false|none=>none):=fun _ _ _ _ _ _ _ _ _ _=>rfl;unfold aQ;rw[h];simp only[beq_self_eq_true,Option.map_some,Bool.not_true]
theorem Fz (t:fU):lZ pv .neq 128 (.agg (aW t)) (.agg (aW t))=some (.bool false):=by
 have h:∀a b c d e g i j k l m:Int,lZ pv .neq 128 (.agg [.int .i64 a,.int .i64 b,.int .i64 c,.int .i64 d,.int .i64 e,.int .i64 g,.int .i64 i,.int .i64 j,.int .i64 k,.int .i64 l,.int .i64 m]) (.agg [.int .i64 a,.int .i64 b,.int .i64 c,.int .i64 d,.int .i64 e,.int .i64 g,.int .i64 i,.int .i64 j,.int .i64 k,.int .i64 l,.int .i64 m])=Option.map (fun b=>D.bool !b) (match some (a==a) with|some true=>(match(match some (b==b) with|some true=>(match some (c==c) with|some true=>(match some (d==d) with|some true=>(match some (e==e) with|some true=>(match some (g==g) with|some true=>(match some (i==i) with|some true=>(match some (j==j) with|some true=>(match some (k==k) with|some true=>(match some (l==l) with|some true=>(match some (m==m) with|some true=>some true|some false=>some false|none=>none)|some false=>some false|none=>none)|some false=>some false|none=>none)|some false=>some false|none=>none)|some false=>some false|none=>none)|some false=>some false|none=>none)|some false=>some false|none=>none)|some false=>some false|none=>none)|some false=>some false|none=>none)|some false=>some false|none=>none) with|some true=>some true|some false=>some false|none=>none)|some false=>some false|none=>none):=fun _ _ _ _ _ _ _ _ _ _ _=>rfl;unfold aW;rw[h];simp only[beq_self_eq_true,Option.map_some,Bool.not_true]
theorem x5 {s0:St} {x y:D} {l:List fU} (hx:V.Rows s0 11 x (l.map aW)) (hy:V.Rows s0 11 y (l.map aW)) (hl:l.length≤1073741824):Ev pv 69 [x,y] s0 (.bool true) s0:=by
 refine Ev.o9 rfl OP rfl rfl rfl ?_;refine zE ?_;obtain⟨cD,hF,hH⟩:=ri s0;generalize ag .ro s0=S at*;have hx:=Arg.of hx cD;have hy:=Arg.of hy cD;refine zQ 8 ?_;refine qn ?_;simp only[List.length_map];refine qm ?_;refine qn ?_;simp only[List.length_map];refine zQ 2 ?_;refine qE rfl (by simp) ?_;refine zQ 7 ?_;refine ah.loop (fun mm fr st=>∃(i:Nat),fr.clean=⟨6,[x,y,nG fr 2,nG fr 3,.bool false,.int .i64 (i:Nat)],[]⟩∧Has s0.bs.length S st []∧(i+mm=l.length)) (l.length) ?_ ?_
 ·exact⟨0,rfl,hH,by omega⟩
 rintro mm fr st ⟨i,hfr,hH,hi⟩;rw[hfr];clear hfr;generalize nG fr=ee;clear fr;refine zQ 5 ?_;refine qn ?_;simp only[List.length_map];refine zQ 2 ?_;refine zP (fun h1=>?_) fun h1=>?_
 ·refine zQ 1 ?_
  obtain⟨p,hp⟩:∃p,l[i]?=some p:=⟨l[i]'(by omega),List.getElem?_eq_getElem _⟩
  have iH:=tQ hp;refine zQ 6 ?_;refine qr fun Rf Nw=>?_;refine ab.eB rfl (ev rfl) (by assumption) rfl (aa rfl _) ?_;refine zQ 2 ?_;refine qr fun PW JU=>?_;refine ab.eB rfl (ev rfl) (by assumption) rfl (aa rfl _) ?_;refine ab.Mx rfl (ev rfl) (ev rfl) (Fz p) (aa rfl _) ?_;refine zQ 8 ?_;exact⟨mm-1,by omega,⟨i+1,rfl,hH,by omega⟩⟩
 ·refine zQ 5 ?_;refine ah.ret ⟨rx,_,rfl,rl cD hH (rfl)⟩
def xF (es:List (List D)) (L:List PL):Prop:=es.length=L.length∧∀(i:Nat) l,L[i]?=some l→∃d,gU d 11 (l.dV.map aW)∧es[i]?=some (bn l.dn l.aM d)
theorem s8 {L:List PL} (h:∀l∈L,l.dV=[]):xF (L.map mE) L:=⟨List.length_map _,fun i l hl=>⟨.nul,by rw[h l (List.mem_of_getElem? hl)];exact .inl ⟨rfl,rfl⟩,by rw[List.getElem?_map,hl];rfl⟩⟩
def oc (st:St) (es:List (List D)) (L:List PL):Prop:=es.length=L.length∧∀(i:Nat) l,L[i]?=some l→∃d,V.Rows st 11 d (l.dV.map aW)∧es[i]?=some (bn l.dn l.aM d)
theorem xF.any {es:List (List D)} {L:List PL} (h:xF es L) (st:St):oc st es L:=⟨h.1,fun i l hl=>by
 obtain⟨d,h1,h2⟩:=h.2 i l hl
 exact⟨d,h1.rows st,h2⟩⟩
theorem Bq {s0:St} {x y:D} {es fs:List (List D)} {L:List PL} (hx:V.Rows s0 12 x es) (hy:V.Rows s0 12 y fs) (ti:oc s0 es L) (NY:oc s0 fs L) (hl:L.length≤1073741824) (xI:∀l∈L,l.dV.length≤1000):Ev pv 36 [x,y] s0 (.bool true) s0:=by
 obtain⟨tj,TB⟩:=ti;obtain⟨oT,Ty⟩:=NY;refine Ev.o9 rfl O5 rfl rfl rfl ?_;refine zE ?_;obtain⟨cD,hF,hH⟩:=ri s0;generalize ag .ro s0=S at*;have hx:=Arg.of hx cD;have hy:=Arg.of hy cD;refine zQ 8 ?_;refine qn ?_;refine qm ?_;refine qn ?_;refine zQ 2 ?_;refine qE rfl (by rw[tj,oT];simp) ?_;refine zQ 7 ?_;refine ah.loop (fun mm fr st=>∃(i:Nat),fr.clean=⟨6,[x,y,nG fr 2,nG fr 3,.bool false,.int .i64 (i:Nat)],[]⟩∧Has s0.bs.length S st []∧(i+mm=es.length)) (es.length) ?_ ?_
 ·exact⟨0,rfl,hH,by omega⟩
 rintro mm fr st ⟨i,hfr,hH,hi⟩;rw[hfr];clear hfr;generalize nG fr=ee;clear fr;refine zQ 5 ?_;refine qn ?_;refine zQ 2 ?_;refine zP (fun h1=>?_) fun h1=>?_
 ·refine zQ 1 ?_
  obtain⟨l,vg⟩:∃l,L[i]?=some l:=⟨L[i]'(by omega),List.getElem?_eq_getElem _⟩
  obtain⟨d1,BE,iH⟩:=TB i l vg;obtain⟨d2,xK,oS⟩:=Ty i l vg;have tf:=xI l (List.mem_of_getElem? vg);have db:(l.dn !=l.dn)=false:=by simp
  have DU:false=false:=rfl;refine zQ 3 ?_;refine ah.lB 54 (.bool false) [] ?_ (fun ff tmp gL=>?_)
  ·refine zQ 2 ?_;refine qr fun Rf Nw=>?_;refine qf (fo:=0) fun Mc HC=>?_;refine zQ 3 ?_;refine qr fun Je DN=>?_;refine qf (fo:=0) fun Jd DM=>?_;refine zQ 5 ?_;refine qr (fun UN Sw=>?_) (hg:=wi db);refine qf (fo:=1) (fun UM Sv=>?_) (hg:=wi db);refine zQ 3 ?_;refine qr (fun PT JR=>?_) (hg:=wi db);refine qf (fo:=1) (fun PS JQ=>?_) (hg:=wi db);refine zQ 1 ?_;refine ab.Mx (ax rfl rfl rfl db) (ev rfl) (ev rfl) (Dk l.aM) (aa rfl _) ?_;refine zQ 4 ?_;refine qr (fun UH Sp=>?_) (hg:=wi DU);refine qf (fo:=11) (fun UG Sm=>?_) (hg:=wi DU);refine zQ 3 ?_;refine qr (fun PQ JP=>?_) (hg:=wi DU);refine qf (fo:=11) (fun PO JO=>?_) (hg:=wi DU);refine zQ 1 ?_;refine qv (x5 ((Arg.of BE cD).rows hH) ((Arg.of xK cD).rows hH) (by omega)) ?_ (hg:=wi DU);refine zQ 2 ?_;refine ab.nil (cA ?_ ?_)
   ·dsimp only[aX,List.foldl,nth,u2,u1]
    all_goals(first|rfl|simp)
   ·dsimp only[Fr.dg,Fr.put,Fr.clean,Fr.ev,Fr.get,nth,look,u1,u2,v1,v2,v4]
    all_goals(rfl)
  dsimp only[aX,List.foldl,nth,u2,u1];dsimp only[Fr.dg,Fr.put,Fr.clean,Fr.ev,Fr.get,nth,look,u1,u2,v1,v2,v4];refine zQ 7 ?_;exact⟨mm-1,by omega,⟨i+1,rfl,hH,by omega⟩⟩
 ·refine zQ 5 ?_;refine ah.ret ⟨rx,_,rfl,rl cD hH (rfl)⟩
theorem Ds {s0:St} {x y:D} {es fs:List (List D)} {L:List PL} (hx:V.Rows s0 12 x es) (hy:V.Rows s0 12 y fs) (ti:xF es L) (NY:xF fs L) (hl:L.length≤1073741824) (xI:∀l∈L,l.dV.length≤1000):Ev pv 36 [x,y] s0 (.bool true) s0:=
 Bq hx hy (ti.any s0) (NY.any s0) hl xI
theorem oc.ex {s0 S st:St} {H:List bm} {es:List (List D)} {L:List PL} (h:oc s0 es L) (hS:S.bs=s0.bs) (hH:Has s0.bs.length S st H):oc st es L:=⟨h.1,fun i l hl=>by
 obtain⟨d,h1,h2⟩:=h.2 i l hl
 exact⟨d,(Arg.of h1 hS).rows hH,h2⟩⟩
def PL.v (l:PL):VL:=⟨l.dn,l.aM,PG l.dV,l.dV⟩
open Go.V Go Go.RowKit
theorem px (code:List aC) (pl:Nat) (e:Bool):∀(f:Nat) (w:Wk) (t:fU),bC (code.map ek) pl e f w t=bC code pl e f w t
 |0,_,_=>rfl
 |f+1,w,t=>by
  unfold bC;simp only[px code pl e f,List.getElem?_map]
  cases code[t.pc]? with
  |none=>rfl
  |some i=>rfl
theorem rz (code:List aC) (pl:Nat) (e:Bool):∀(l:List fU) (w:Wk),l8 (code.map ek) pl e l w=l8 code pl e l w
 |[],_=>rfl
 |t::ts,w=>by
  unfold l8;simp only[px,List.length_map,rz code pl e ts]
theorem A7 (code:List aC) (k:Nat):pG (code.map ek) k=pG code k:=by
 unfold pG;rw[List.getElem?_map];cases code[k]?<;>rfl
theorem pY (code:List aC) (r:Int):∀(l a:List fU),ef (code.map ek) r l a=ef code r l a
 |[],_=>rfl
 |t::ts,a=>by unfold ef;simp only[A7,pY code r ts]
theorem xU (code:List aC) (pl s:Nat) (r:Int) (l:PL):fm (code.map ek) pl s r l=fm code pl s r l:=by
 unfold fm;simp only[rz,pY,List.length_map]
theorem oi (code:List aC) (pl:Nat) (r:Int):∀(ss:List Nat) (ls:List PL),gY (code.map ek) pl r ss ls=gY code pl r ss ls
 |[],_=>rfl
 |_::_,[]=>rfl
 |s::ss,l::ls=>by simp only[gY,xU,oi code pl r ss ls]
theorem BT (code:List aC) (pl:Nat):mD (code.map ek) pl=mD code pl:=by
 funext l;unfold mD;simp only[rz,List.length_map]
theorem rL.bd {p q:Pg} (h:rL p q):bd q=bd p:=by unfold Go.Proofs.Ytnleclohocdkaaa.bd;rw[h.av]
theorem sD {p:Pg} (hR:a_ p) {pl:Nat} {r:Int}:∀{ss:List Nat} {ls:List PL},(∀s∈ss,s<p.code.length)→∀l∈gY p.code pl r ss ls,l.ok p.code.length
 |[],_,_,l,hl=>by cases hl
 |_::_,[],_,l,hl=>by cases hl
 |s::ss,x::ls,hs,l,hl=>by
  simp only[gY,List.mem_cons] at hl
  rcases hl with rfl|hl
  ·exact CF hR (hs s (List.mem_cons_self ..))
  ·exact sD hR (fun s h=>hs s (List.mem_cons_of_mem _ h)) l hl
theorem xV {p:Pg} (hR:a_ p):∀s∈bd p,s<p.code.length:=by
 intro s hs;obtain⟨v,hv,rfl⟩:=List.mem_map.1 hs;have:=hR.st v hv;omega
def fp (ks kv:Nat) (p:Pg) (pl:Nat) (ld pd qd:D) (P Q:List Nat) (L:List VL):List bm:=
 .box kv (.mem 0 false [p.cd,p.sd,.int .i64 (pl:Nat),ld,.ptr ks 0 0])::.box ks (.mem 0 false [pd,qd])::.aI pd 1 (P.map fY)::.aI qd 2 (Q.map nJ)::.aI ld 12 (L.map gW)::L.map rN
theorem z8 {A:List bm} {N:Nat} {S st:St} {ks kv:Nat} {p:Pg} {pl:Nat} {ld:D} {L:List VL} {H:List bm} (h:MH A N S st ks kv p pl ld L H):∃pd qd P Q sn,Has N S st (A++(fp ks kv p pl ld pd qd P Q L++H))∧c8 P Q sn∧sn.length=p.code.length:=by
 obtain⟨pd,qd,P,Q,sn,hH,h1,h2⟩:=h;exact⟨pd,qd,P,Q,sn,by simpa only[fp,List.cons_append] using hH,h1,h2⟩
theorem Gr {A:List bm} {N:Nat} {S st:St} {ks kv:Nat} {p:Pg} {pl:Nat} {ld:D} {L:List VL} {H:List bm} {pd qd:D} {P Q:List Nat} {sn:List Bool} (hH:Has N S st (A++(fp ks kv p pl ld pd qd P Q L++H))) (h1:c8 P Q sn) (h2:sn.length=p.code.length):MH A N S st ks kv p pl ld L H:=
 ⟨pd,qd,P,Q,sn,by simpa only[fp,List.cons_append] using hH,h1,h2⟩
def MM (A:List bm) (N:Nat) (S st:St) (ks kv:Nat) (p:Pg) (pl:Nat) (ld:D) (L:List VL) (vd ta:Nat) (p2:Pg) (zT:Nat) (vc:D) (L2:List VL):Prop:=
 ∃pd qd P Q sn EP EO P2 Q2 G0,Has N S st (A++(fp ks kv p pl ld pd qd P Q L++fp vd ta p2 zT vc EP EO P2 Q2 L2))∧c8 P Q sn∧sn.length=p.code.length∧c8 P2 Q2 G0∧G0.length=p2.code.length
section
variable{A:List bm} {N:Nat} {S st:St} {ks kv vd ta:Nat} {p p2:Pg} {pl zT:Nat} {ld vc:D} {L L2:List VL}
theorem MM.one (h:MM A N S st ks kv p pl ld L vd ta p2 zT vc L2):∃H,MH [] N S st ks kv p pl ld L H∧∀(B:List bm) (af:St) (Cd:Nat) (yw:D) (L':List VL),MH B N S af ks kv p Cd yw L' H→MM (B++A) N S af ks kv p Cd yw L' vd ta p2 zT vc L2:=by
 obtain⟨pd,qd,P,Q,sn,EP,EO,P2,Q2,G0,hH,h1,h2,h3,h4⟩:=h
 refine⟨fp vd ta p2 zT vc EP EO P2 Q2 L2++A,Gr (by
  have a:=Has.me A (fp ks kv p pl ld pd qd P Q L++fp vd ta p2 zT vc EP EO P2 Q2 L2) (H:=[]) (by rw[List.append_nil];exact hH);rw[List.append_nil,List.append_assoc] at a
  exact a) h1 h2,fun B af Cd yw L' hM=>?_⟩
 obtain⟨zU,zN,P',Q',I7,Ol,EW,H8⟩:=z8 hM;refine⟨zU,zN,P',Q',I7,EP,EO,P2,Q2,G0,?_,EW,H8,h3,h4⟩
 have a:=Has.me (B++(fp ks kv p Cd yw zU zN P' Q' L'++fp vd ta p2 zT vc EP EO P2 Q2 L2)) A (H:=[]) (by rw[List.append_nil];simpa only[List.append_assoc] using Ol);have b:Has N S af (A++(B++((fp ks kv p Cd yw zU zN P' Q' L'++fp vd ta p2 zT vc EP EO P2 Q2 L2)++[]))):=by simpa only[List.append_assoc] using a
 have c:=Has.me _ _ b;rw[List.append_nil] at c
 simpa only[List.append_assoc] using c
theorem MM.drop (n:Nat) (h:MM A N S st ks kv p pl ld L vd ta p2 zT vc L2) (hn:n≤A.length):MM (A.drop n) N S st ks kv p pl ld L vd ta p2 zT vc L2:=by
 obtain⟨pd,qd,P,Q,sn,EP,EO,P2,Q2,G0,hH,h1,h2,h3,h4⟩:=h;refine⟨pd,qd,P,Q,sn,EP,EO,P2,Q2,G0,?_,h1,h2,h3,h4⟩;have:=hH.drop n
 rwa [List.drop_append_of_le_length hn] at this
theorem MM.has (h:MM A N S st ks kv p pl ld L vd ta p2 zT vc L2):Has N S st A:=by
 obtain⟨pd,qd,P,Q,sn,EP,EO,P2,Q2,G0,hH,_⟩:=h;have:=hH.take A.length
 rwa [List.take_left] at this
theorem MM.made {pd qd:D} {P Q:List Nat} {sn:List Bool} (h:MH [] N S st ks kv p pl ld L (fp vd ta p2 zT vc pd qd P Q L2++A)) (h1:c8 P Q sn) (h2:sn.length=p2.code.length):MM A N S st ks kv p pl ld L vd ta p2 zT vc L2:=by
 obtain⟨zU,zN,P',Q',I7,hH,h3,h4⟩:=z8 h;refine⟨zU,zN,P',Q',I7,pd,qd,P,Q,sn,?_,h3,h4,h1,h2⟩;have a:=Has.me (fp ks kv p pl ld zU zN P' Q' L++fp vd ta p2 zT vc pd qd P Q L2) A (H:=[]) (by rw[List.append_nil];simpa only[List.nil_append,List.append_assoc] using hH)
 rwa [List.append_nil] at a
end
end Go.Proofs.Ytnleclohocdkaaa
namespace Go.Proofs.Ytnleclohocdkaaa
open Go.V Go
structure Md where
 ks:Nat
 kv:Nat
 p:Pg
 pl:Nat
 ld:D
 L:List VL
structure Mi where
 pd:D
 qd:D
 P:List Nat
 Q:List Nat
 sn:List Bool
def vb (x:Md×Mi):List bm:=fp x.1.ks x.1.kv x.1.p x.1.pl x.1.ld x.2.pd x.2.qd x.2.P x.2.Q x.1.L
def Lp (x:Md×Mi):Prop:=c8 x.2.P x.2.Q x.2.sn∧x.2.sn.length=x.1.p.code.length
def sv (A:List bm) (N:Nat) (S st:St) (ms:List Md):Prop:=∃xs:List (Md×Mi),xs.map Prod.fst=ms∧Has N S st (A++(xs.map vb).flatten)∧∀x∈xs,Lp x
section
variable{A:List bm} {N:Nat} {S st:St}
theorem sv.nil (h:Has N S st A):sv A N S st []:=⟨[],rfl,by simpa using h,fun x hx=>by cases hx⟩
theorem sv.one {X Y:List Md} {m:Md} (h:sv A N S st (X++m::Y)):∃H,MH [] N S st m.ks m.kv m.p m.pl m.ld m.L H∧∀(B:List bm) (af:St) (Cd:Nat) (yw:D) (L':List VL),MH B N S af m.ks m.kv m.p Cd yw L' H→sv (B++A) N S af (X++{m with pl:=Cd,ld:=yw,L:=L'}::Y):=by
 obtain⟨xs,h1,h2,h3⟩:=h;obtain⟨xX,xr,rfl,e1,e2⟩:=List.map_eq_append_iff.1 h1;obtain⟨x,xY,rfl,e3,e4⟩:=List.map_eq_cons_iff.1 e2;obtain⟨m',i⟩:=x;simp only at e3;subst e3;have hx:=h3 (m',i) (by simp);simp only[List.map_append,List.map_cons,List.flatten_append,List.flatten_cons] at h2
 refine⟨(A++(xX.map vb).flatten)++(xY.map vb).flatten,Gr (by
  have a:=Has.me (A++(xX.map vb).flatten) (vb (m',i)) (H:=(xY.map vb).flatten) (by simpa only[List.append_assoc] using h2)
  exact a) hx.1 hx.2,fun B af Cd yw L' hM=>?_⟩
 obtain⟨zU,zN,P',Q',I7,Ol,EW,H8⟩:=z8 hM;refine⟨xX++({m' with pl:=Cd,ld:=yw,L:=L'},⟨zU,zN,P',Q',I7⟩)::xY,?_,?_,?_⟩
 ·rw[List.map_append,List.map_cons,e1,e4]
 ·have a:=Has.me (B++fp m'.ks m'.kv m'.p Cd yw zU zN P' Q' L') (A++(xX.map vb).flatten) (H:=(xY.map vb).flatten) (by simpa only[List.append_assoc] using Ol);have b:=Has.me (A++(xX.map vb).flatten) B (H:=fp m'.ks m'.kv m'.p Cd yw zU zN P' Q' L'++(xY.map vb).flatten) (by simpa only[List.append_assoc] using a);simp only[List.map_append,List.map_cons,List.flatten_append,List.flatten_cons]
  simpa only[List.append_assoc,vb] using b
 ·intro x hx
  rcases List.mem_append.1 hx with hx|hx
  ·exact h3 x (List.mem_append_left _ hx)
  rcases List.mem_cons.1 hx with rfl|hx
  ·exact⟨EW,H8⟩
  ·exact h3 x (List.mem_append_right _ (List.mem_cons_of_mem _ hx))
theorem sv.drop {ms:List Md} (n:Nat) (h:sv A N S st ms) (hn:n≤A.length):sv (A.drop n) N S st ms:=by
 obtain⟨xs,h1,h2,h3⟩:=h;refine⟨xs,h1,?_,h3⟩;have:=h2.drop n
 rwa [List.drop_append_of_le_length hn] at this
theorem sv.has {ms:List Md} (h:sv A N S st ms):Has N S st A:=by
 obtain⟨xs,_,h2,_⟩:=h;have:=h2.take A.length
 rwa [List.take_left] at this
theorem sv.more {ms:List Md} {xs:List (Md×Mi)} {m:Md} (h1:xs.map Prod.fst=ms) (h3:∀x∈xs,Lp x) (hM:MH [] N S st m.ks m.kv m.p m.pl m.ld m.L (A++(xs.map vb).flatten)):sv A N S st (m::ms):=by
 obtain⟨pd,qd,P,Q,sn,hH,q1,q2⟩:=z8 hM;refine⟨(m,⟨pd,qd,P,Q,sn⟩)::xs,by rw[List.map_cons,h1],?_,?_⟩
 ·have a:=Has.me (fp m.ks m.kv m.p m.pl m.ld pd qd P Q m.L) A (H:=(xs.map vb).flatten) (by simpa only[List.nil_append] using hH)
  simpa only[List.map_cons,List.flatten_cons,vb] using a
 ·intro x hx
  rcases List.mem_cons.1 hx with rfl|hx
  ·exact⟨q1,q2⟩
  ·exact h3 x hx
end
end Go.Proofs.Ytnleclohocdkaaa
namespace Go.Proofs.Ytnleclohocdkaaa
open Go.V Go
def oW (idx:Nat→Nat→Nat) (fQ:fx→zk):Nat→List Bool→List fx→Option l5×List Bool
 |0,arr,_=>(none,arr)
 |_+1,arr,[]=>(none,arr)
 |f+1,arr,t::cS=>match arr[idx t.pc t.at_]? with
  |some false=>match fQ t with
   | .found=>(some t.c,arr.set (idx t.pc t.at_) true)
   | .more l=>oW idx fQ f (arr.set (idx t.pc t.at_) true) (l++cS)
  |_=>oW idx fQ f arr cS
theorem vq (code:List aC) (gs:List (Nat×Nat)) (pl:List Int) (t:fx):∀l,ct code gs pl t=.more l→l.length≤2:=by
 intro l h;unfold ct at h
 split at h
 ·cases h;simp
 ·repeat' split at h
  all_goals(first|(cases h;done)|(cases h;simp;done)|(cases h;split<;>simp))
def Ce (p:Pg) (gs:List (Nat×Nat)) (t:fx):Prop:=t.pc<p.code.length∧t.at_≤gs.length
theorem tS {p:Pg} {gs:List (Nat×Nat)} {pl:List Int} (hR:a_ p) {t:fx} (ht:Ce p gs t):∀l,ct p.code gs pl t=.more l→∀u∈l,Ce p gs u:=by
 intro l h u hu;obtain⟨h1,h2⟩:=ht
 obtain⟨i,hi⟩:∃i,p.code[t.pc]?=some i:=⟨p.code[t.pc]'h1,List.getElem?_eq_getElem _⟩
 have hc:=fz (hR.sh t.pc i hi);unfold ct at h;rw[hi] at h;simp only at h
 split at h
 ·cases h
 ·split at h
  ·cases h;simp only[List.mem_cons,List.not_mem_nil,or_false] at hu
   rcases hu with rfl|rfl
   ·exact⟨by show i.x.toNat<_;omega,h2⟩
   ·exact⟨by show i.y.toNat<_;omega,h2⟩
  ·split at h
   ·cases h;simp only[List.mem_cons,List.not_mem_nil,or_false] at hu;subst hu;exact⟨by show i.x.toNat<_;omega,h2⟩
   ·split at h
    ·cases h;simp only[List.mem_cons,List.not_mem_nil,or_false] at hu;subst hu;exact⟨by show t.pc+1<_;omega,h2⟩
    ·split at h
     ·cases h
      split at hu
      ·simp only[List.mem_cons,List.not_mem_nil,or_false] at hu;subst hu;exact⟨by show t.pc+1<_;omega,h2⟩
      ·cases hu
     ·split at h
      ·cases h
       split at hu
       ·simp only[List.mem_cons,List.not_mem_nil,or_false] at hu;subst hu;exact⟨by show t.pc+1<_;omega,h2⟩
       ·cases hu
      ·cases h
       split at hu
       ·rename_i h8;simp only[List.mem_cons,List.not_mem_nil,or_false] at hu;subst hu;exact⟨by show t.pc+1<_;omega,by show t.at_+1≤_;omega⟩
       ·cases hu
def DB (n:Nat) (pc at_:Nat):Nat:=at_*n+pc
end Go.Proofs.Ytnleclohocdkaaa
namespace Go.Proofs.Ytnleclohocdkaaa
open Go.V Go
def Cc:Int→List (Nat×Nat)→List Int
 |a,[]=>[a]
 |a,g::r=>a::Cc (a+(g.2:Nat)) r
def Aw (idx:Nat→Nat→Nat) (fQ:fx→zk) (fuel start:Nat):Nat→Nat→List Bool→Option l5
 |0,_,_=>none
 |m+1,i,arr=>match(oW idx fQ fuel arr [⟨start,i,bt⟩]).1 with
  |some c=>some c
  |none=>Aw idx fQ fuel start m (i+1) (oW idx fQ fuel arr [⟨start,i,bt⟩]).2
noncomputable def cY (p:Pg) (A6:Int) (b:List UInt8):Option l5:=
 if dec (a_ p)=true∧0≤A6∧A6<(p.av.length:Int) then
  Aw (DB p.code.length) (ct p.code (cK b) (Cc 0 (cK b))) (3*(((cK b).length+1)*p.code.length)+1) (p.av.getD A6.toNat 0).toNat ((cK b).length+1) 0 (List.replicate (((cK b).length+1)*p.code.length) false)
 else none
theorem rE (idx:Nat→Nat→Nat) (fQ:fx→zk):∀(f:Nat) (arr:List Bool) (cS:List fx),(oW idx fQ f arr cS).2.length=arr.length
 |0,arr,_=>by simp[oW]
 |f+1,arr,[]=>by simp[oW]
 |f+1,arr,t::cS=>by
  unfold oW
  split
  ·split
   ·simp
   ·rw[rE idx fQ f,List.length_set]
  ·exact rE idx fQ f arr cS
end Go.Proofs.Ytnleclohocdkaaa
namespace Go.Proofs.Ytnleclohocdkaaa
open Go.V Go
abbrev Sn:=Nat→Nat→Bool
def fy (s:Sn) (t:fx):Sn:=fun a b=>if a=t.pc∧b=t.at_ then true else s a b
theorem Cz (s:Sn) (t:fx):fy s t t.pc t.at_=true:=by unfold fy;rw[if_pos ⟨rfl,rfl⟩]
theorem E5 {s:Sn} {t:fx} {a b:Nat} (h:s a b=true):fy s t a b=true:=by unfold fy;split<;>first|rfl|exact h
inductive j8 (fQ:fx→zk):Sn→List fx→Option l5→Sn→Prop
 |nil {s:Sn}:j8 fQ s [] none s
 |jX {s s':Sn} {t:fx} {cS:List fx} {r:Option l5}:s t.pc t.at_=true→j8 fQ s cS r s'→j8 fQ s (t::cS) r s'
 |found {s:Sn} {t:fx} {cS:List fx}:s t.pc t.at_=false→fQ t=.found→j8 fQ s (t::cS) (some t.c) (fy s t)
 |more {s s':Sn} {t:fx} {cS l:List fx} {r:Option l5}:s t.pc t.at_=false→fQ t=.more l→j8 fQ (fy s t) (l++cS) r s'→j8 fQ s (t::cS) r s'
theorem j8.one {fQ:fx→zk} {s s1 s2:Sn} {cS:List fx} {r1 r2:Option l5} (h1:j8 fQ s cS r1 s1):j8 fQ s cS r2 s2→r1=r2∧s1=s2:=by
 induction h1 with
 |nil=>intro h;cases h;exact⟨rfl,rfl⟩
 |jX h _ ih=>
  intro h2
  cases h2 with
  |jX _ h'=>exact ih h'
  |found h' _=>rw[h] at h';cases h'
  |more h' _ _=>rw[h] at h';cases h'
 |found h hf=>
  intro h2
  cases h2 with
  |jX h' _=>rw[h] at h';cases h'
  |found _ _=>exact⟨rfl,rfl⟩
  |more _ h' _=>rw[hf] at h';cases h'
 |more h hm _ ih=>
  intro h2
  cases h2 with
  |jX h' _=>rw[h] at h';cases h'
  |found _ h'=>rw[hm] at h';cases h'
  |more _ h' T9=>
   rw[hm] at h';cases h';exact ih T9
def Ca (idx:Nat→Nat→Nat) (ok:Nat→Nat→Prop) (arr:List Bool) (s:Sn):Prop:=∀a b,ok a b→arr[idx a b]?=some (s a b)
def Is (idx:Nat→Nat→Nat) (ok:Nat→Nat→Prop):Prop:=∀a b a' b',ok a b→ok a' b'→idx a b=idx a' b'→a=a'∧b=b'
def GS (fQ:fx→zk) (ok:Nat→Nat→Prop):Prop:=∀t l,ok t.pc t.at_→fQ t=.more l→l.length≤2∧∀u∈l,ok u.pc u.at_
theorem Ca.sy {idx:Nat→Nat→Nat} {ok:Nat→Nat→Prop} {arr:List Bool} {s:Sn} {t:fx} (hI:Is idx ok) (ht:ok t.pc t.at_) (h:Ca idx ok arr s):Ca idx ok (arr.set (idx t.pc t.at_) true) (fy s t):=by
 intro a b hab;unfold fy
 by_cases he:idx a b=idx t.pc t.at_
 ·rw[if_pos (hI _ _ _ _ hab ht he),he];have:=aR (h _ _ ht);rw[List.getElem?_set_self this]
 ·rw[if_neg (by rintro⟨rfl,rfl⟩;exact he rfl),List.getElem?_set_ne (fun e=>he e.symm)];exact h a b hab
theorem Eh {idx:Nat→Nat→Nat} {ok:Nat→Nat→Prop} {fQ:fx→zk} (hI:Is idx ok) (hK:GS fQ ok):∀(f:Nat) (arr:List Bool) (cS:List fx) (s:Sn),3*arr.count false+cS.length≤f→Ca idx ok arr s→(∀t∈cS,ok t.pc t.at_)→∃s',j8 fQ s cS (oW idx fQ f arr cS).1 s'∧Ca idx ok (oW idx fQ f arr cS).2 s':=by
 intro f
 induction f with
 |zero=>
  intro arr cS s h1 hr _;have:cS=[]:=List.length_eq_zero_iff.1 (by omega);subst this;exact⟨s,.nil,hr⟩
 |succ f ih=>
  intro arr cS s h1 hr hs
  cases cS with
  |nil=>exact⟨s,.nil,hr⟩
  |cons t cS=>
   have ht:=hs t (List.mem_cons_self ..);have ES:∀u∈cS,ok u.pc u.at_:=fun u hu=>hs u (List.mem_cons_of_mem _ hu);simp only[List.length_cons] at h1;have hb:=hr _ _ ht;unfold oW;rw[hb]
   cases df:s t.pc t.at_ with
   |true=>
    obtain⟨s',h2,h3⟩:=ih arr cS s (by omega) hr ES;exact⟨s',.jX df h2,h3⟩
   |false=>
    rw[df] at hb;have BH:=count_set hb;simp only
    cases hS:fQ t with
    |found=>exact⟨_,.found df hS,hr.sy hI ht⟩
    |more l=>
     obtain⟨hl,aY⟩:=hK t l ht hS
     obtain⟨s',h2,h3⟩:=ih (arr.set (idx t.pc t.at_) true) (l++cS) (fy s t) (by rw[List.length_append];omega) (hr.sy hI ht) (by
      intro u hu
      rcases List.mem_append.1 hu with hu|hu
      ·exact aY u hu
      ·exact ES u hu)
     exact⟨s',.more df hS h2,h3⟩
theorem z6 {n a b a' b' : Nat} (h1 : b < n) (h2 : b' < n) (h : a * n + b = a' * n + b') : a = a' ∧ b = b' := by
 have hb : b = b' := by
  have := congrArg (· % n) h;simp only [Nat.mul_add_mod_self_right, Nat.mod_eq_of_lt h1, Nat.mod_eq_of_lt h2] at this;exact this
 subst hb;exact ⟨Nat.eq_of_mul_eq_mul_right (by omega) (by omega : a * n = a' * n), rfl⟩
theorem mul_lt {n m a b:Nat} (h1:a<m) (h2:b<n):a*n+b<m*n:=by
 have:=Nat.mul_le_mul_right n (show a+1≤m by omega);rw[Nat.add_mul,Nat.one_mul] at this;omega
end Go.Proofs.Ytnleclohocdkaaa
namespace Go.Proofs.Ytnleclohocdkaaa
open Go.V Go
section
variable{fQ:fx→zk}
theorem cy {s s1:Sn} {A:List fx} {r1:Option l5} (h:j8 fQ s A r1 s1):∀B,(∀c,r1=some c→∃s2,j8 fQ s (A++B) (some c) s2)∧(r1=none→∀r s2,j8 fQ s1 B r s2→j8 fQ s (A++B) r s2):=by
 induction h with
 |nil=>exact fun B=>⟨fun c h=>(by cases h),fun _ r s2 h=>h⟩
 |jX ht _ ih=>
  intro B;obtain⟨h1,h2⟩:=ih B;exact⟨fun c hc=>(by obtain⟨s2,h⟩:=h1 c hc;exact⟨s2,.jX ht h⟩),fun hn r s2 h=>.jX ht (h2 hn r s2 h)⟩
 |found ht hf=>exact fun B=>⟨fun c hc=>(by cases hc;exact⟨_,.found ht hf⟩),fun hn=>(by cases hn)⟩
 |@more s s' t cS l r ht hm _ ih=>
  intro B;obtain⟨h1,h2⟩:=ih B;rw[List.append_assoc] at h1 h2;exact⟨fun c hc=>(by obtain⟨s2,h⟩:=h1 c hc;exact⟨s2,.more ht hm h⟩),fun hn r s2 h=>.more ht hm (h2 hn r s2 h)⟩
theorem kV {s s2:Sn} {X:List fx} {r:Option l5} (h:j8 fQ s X r s2):∀A B,X=A++B→(∃c s1,r=some c∧j8 fQ s A (some c) s1)∨∃s1,j8 fQ s A none s1∧j8 fQ s1 B r s2:=by
 induction h with
 |nil=>
  intro A B h;obtain⟨rfl,rfl⟩:=List.append_eq_nil_iff.1 h.symm;exact .inr ⟨_,.nil,.nil⟩
 |@jX s s' t cS r ht hr ih=>
  intro A B h
  cases A with
  |nil=>rw[List.nil_append] at h;subst h;exact .inr ⟨_,.nil,.jX ht hr⟩
  |cons a A=>
   rw[List.cons_append] at h;obtain⟨rfl,rfl⟩:=List.cons.inj h
   rcases ih A B rfl with⟨c,s1,h1,h2⟩|⟨s1,h1,h2⟩
   ·exact .inl ⟨c,s1,h1,.jX ht h2⟩
   ·exact .inr ⟨s1,.jX ht h1,h2⟩
 |@found s t cS ht hf=>
  intro A B h
  cases A with
  |nil=>rw[List.nil_append] at h;subst h;exact .inr ⟨_,.nil,.found ht hf⟩
  |cons a A=>
   rw[List.cons_append] at h;obtain⟨rfl,rfl⟩:=List.cons.inj h;exact .inl ⟨_,_,rfl,.found ht hf⟩
 |@more s s' t cS l r ht hm hr ih=>
  intro A B h
  cases A with
  |nil=>rw[List.nil_append] at h;subst h;exact .inr ⟨_,.nil,.more ht hm hr⟩
  |cons a A=>
   rw[List.cons_append] at h;obtain⟨rfl,rfl⟩:=List.cons.inj h
   rcases ih (l++A) B (by rw[List.append_assoc]) with⟨c,s1,h1,h2⟩|⟨s1,h1,h2⟩
   ·exact .inl ⟨c,s1,h1,.more ht hm h2⟩
   ·exact .inr ⟨s1,.more ht hm h1,h2⟩
theorem CO {s s1:Sn} {A:List fx} {r:Option l5} (h:j8 fQ s A r s1):r=none→(∀a b,s a b=true→s1 a b=true)∧∀t∈A,s1 t.pc t.at_=true:=by
 induction h with
 |nil=>exact fun _=>⟨fun _ _ h=>h,fun t h=>by cases h⟩
 |jX ht _ ih=>
  intro hn;obtain⟨h1,h2⟩:=ih hn;refine⟨h1,fun t h=>?_⟩
  rcases List.mem_cons.1 h with rfl|h
  ·exact h1 _ _ ht
  ·exact h2 t h
 |found _ _=>intro hn;cases hn
 |more ht hm _ ih=>
  intro hn;obtain⟨h1,h2⟩:=ih hn;refine⟨fun a b h=>h1 a b (E5 h),fun t h=>?_⟩
  rcases List.mem_cons.1 h with rfl|h
  ·exact h1 _ _ (Cz _ _)
  ·exact h2 t (List.mem_append_right _ h)
theorem zJ {s s2:Sn} {A B:List fx} {r:Option l5} {u w:fx} (hw:w∈A) (hp:w.pc=u.pc) (ha:w.at_=u.at_) (h:j8 fQ s (A++B) r s2):∃s3,j8 fQ s (A++u::B) r s3:=by
 rcases kV h A B rfl with⟨c,s1,rfl,h2⟩|⟨s1,h1,h2⟩
 ·exact(cy h2 _).1 c rfl
 ·have:=(CO h1 rfl).2 w hw;rw[hp,ha] at this;exact⟨s2,(cy h1 _).2 rfl _ _ (.jX this h2)⟩
def Ag (k:Nat) (s s':Sn):Prop:=∀a b,k<b→s a b=s' a b
theorem Ag.symm {k:Nat} {s s':Sn} (h:Ag k s s'):Ag k s' s:=fun a b hb=>(h a b hb).symm
theorem Ag.trans {k:Nat} {s s' PJ:Sn} (h:Ag k s s') (h2:Ag k s' PJ):Ag k s PJ:=fun a b hb=>(h a b hb).trans (h2 a b hb)
theorem Ag.sy {k:Nat} {s:Sn} {t:fx} (ht:t.at_=k):Ag k s (fy s t):=fun a b hb=>by
 unfold fy;rw[if_neg (by omega)]
theorem jC (Hl:∀t l,fQ t=.more l→∀u∈l,t.at_≤u.at_) {k:Nat} {s s1:Sn} {A:List fx} {r:Option l5} (h:j8 fQ s A r s1):(∀t∈A,k<t.at_)→∀z,Ag k s z→∃z1,j8 fQ z A r z1∧Ag k s1 z1∧∀a b,b≤k→z1 a b=z a b:=by
 induction h with
 |nil=>exact fun _ z hz=>⟨z,.nil,hz,fun _ _ _=>rfl⟩
 |@jX s s' t cS r ht _ ih=>
  intro hA z hz;obtain⟨z1,h1,h2,h3⟩:=ih (fun t h=>hA t (List.mem_cons_of_mem _ h)) z hz;exact⟨z1,.jX (by rw[←hz _ _ (hA t (List.mem_cons_self ..))];exact ht) h1,h2,h3⟩
 |@found s t cS ht hf=>
  intro hA z hz;have Hn:=hA t (List.mem_cons_self ..);refine⟨fy z t,.found (by rw[←hz _ _ Hn];exact ht) hf,fun a b hb=>?_,fun a b hb=>?_⟩
  ·unfold fy;rw[hz a b hb]
  ·unfold fy;rw[if_neg (by omega)]
 |@more s s' t cS l r ht hm _ ih=>
  intro hA z hz;have Hn:=hA t (List.mem_cons_self ..)
  obtain⟨z1,h1,h2,h3⟩:=ih (fun u h=>by
   rcases List.mem_append.1 h with h|h
   ·exact Nat.lt_of_lt_of_le Hn (Hl t l hm u h)
   ·exact hA u (List.mem_cons_of_mem _ h)) (fy z t) (fun a b hb=>by unfold fy;rw[hz a b hb])
  refine⟨z1,.more (by rw[←hz _ _ Hn];exact ht) hm h1,h2,fun a b hb=>?_⟩;rw[h3 a b hb];unfold fy;rw[if_neg (by omega)]
end
def bL (k:Nat) (t:fU):fx:=⟨t.pc,k,t.c⟩
def gI (code:List aC) (gs:List (Nat×Nat)) (k:Nat) (l:List fU):List fx:=
 l.flatMap fun t=>if k<gs.length∧iA (pG code t.pc) ((gs.getD k (0,0)).1:Nat)=true then[⟨t.pc+1,k+1,t.c⟩] else[]
theorem jq (code:List aC) (gs:List (Nat×Nat)) (k:Nat):gI code gs k []=[]:=rfl
theorem tz (code:List aC) (gs:List (Nat×Nat)) (k:Nat) (a b:List fU):gI code gs k (a++b)=gI code gs k a++gI code gs k b:=by
 unfold gI;rw[List.flatMap_append]
theorem jr {code:List aC} {gs:List (Nat×Nat)} {k:Nat} {l:List fU}:∀u∈gI code gs k l,k<u.at_:=by
 intro u hu;obtain⟨t,_,ht⟩:=List.mem_flatMap.1 hu
 split at ht
 ·simp only[List.mem_cons,List.not_mem_nil,or_false] at ht;subst ht;exact Nat.lt_succ_self k
 ·cases ht
theorem jy (code:List aC) (gs:List (Nat×Nat)) (aN:List Int):∀t l,ct code gs aN t=.more l→∀u∈l,t.at_≤u.at_:=by
 intro t l h u hu;unfold ct at h
 split at h
 ·cases h;cases hu
 ·split at h
  ·cases h
  ·split at h
   ·cases h;simp only[List.mem_cons,List.not_mem_nil,or_false] at hu
    rcases hu with rfl|rfl<;>exact Nat.le_refl _
   ·split at h
    ·cases h;simp only[List.mem_cons,List.not_mem_nil,or_false] at hu;subst hu;exact Nat.le_refl _
    ·split at h
     ·cases h;simp only[List.mem_cons,List.not_mem_nil,or_false] at hu;subst hu;exact Nat.le_refl _
     ·split at h
      ·cases h
       split at hu
       ·simp only[List.mem_cons,List.not_mem_nil,or_false] at hu;subst hu;exact Nat.le_refl _
       ·cases hu
      ·split at h
       ·cases h
        split at hu
        ·simp only[List.mem_cons,List.not_mem_nil,or_false] at hu;subst hu;exact Nat.le_refl _
        ·cases hu
       ·cases h
        split at hu
        ·simp only[List.mem_cons,List.not_mem_nil,or_false] at hu;subst hu;exact Nat.le_succ _
        ·cases hu
def AR (fQ:fx→zk) (N:List fx) (k n:Nat) (s:Sn) (A:List fx) (I9:List Bool) (aM:l5) (IK:Bool):Prop:=
 ∀r1 s1,j8 fQ s N r1 s1→
  (∀c,r1=some c→∃s2,j8 fQ s A (some c) s2)∧
  (r1=none→IK=true→∃s2,j8 fQ s A (some aM) s2)∧
  (r1=none→IK=false→∃s2,j8 fQ s A none s2∧Ag k s1 s2∧∀a,a<n→s2 a k=I9.getD a true)
theorem BN {l:List Bool} {i a:Nat} (hi:i<l.length):(l.set i true).getD a true=if a=i then true else l.getD a true:=by
 rw[List.getD_eq_getElem?_getD,List.getD_eq_getElem?_getD]
 by_cases h:a=i
 ·subst h;rw[if_pos rfl,List.getElem?_set_self hi];rfl
 ·rw[if_neg h,List.getElem?_set_ne (fun e=>h e.symm)]
section
variable{code:List aC} {ns:Nat} {gs:List (Nat×Nat)} {aN:List Int} {k pl:Nat} {e:Bool}
theorem zw {s:Sn} {seen:List Bool} {t:fU} (hl:seen.length=code.length) (ht:t.pc<code.length) (hs:∀a,a<code.length→s a k=seen.getD a true):∀a,a<code.length→fy s (bL k t) a k=(seen.set t.pc true).getD a true:=by
 intro a ha;rw[BN (by omega)];unfold fy bL;simp only[and_true]
 split
 ·rfl
 ·exact hs a ha
theorem Cs {w':Wk×Bool} {N:List fx} {s:Sn} {t u:fU} (hN:∀x∈N,k<x.at_) (df:s t.pc k=false) (hm:ct code gs aN (bL k t)=.more [bL k u])
  (h:AR (ct code gs aN) N k code.length (fy s (bL k t)) [bL k u] w'.1.seen w'.1.aM w'.2):AR (ct code gs aN) N k code.length s [bL k t] w'.1.seen w'.1.aM w'.2:=by
 intro r1 s1 hr;obtain⟨z1,h1,h2,_⟩:=jC (jy code gs aN) hr hN (fy s (bL k t)) (Ag.sy rfl);obtain⟨q1,q2,q3⟩:=h r1 z1 h1;refine⟨fun c hc=>?_,fun hn hh=>?_,fun hn hh=>?_⟩
 ·obtain⟨s2,g⟩:=q1 c hc;exact⟨s2,.more df hm g⟩
 ·obtain⟨s2,g⟩:=q2 hn hh;exact⟨s2,.more df hm g⟩
 ·obtain⟨s2,g,g2,g3⟩:=q3 hn hh;exact⟨s2,.more df hm g,h2.trans g2,g3⟩
theorem Ct {seen:List Bool} {aM:l5} {s:Sn} {t:fU} (hl:seen.length=code.length) (ht:t.pc<code.length) (hs:∀a,a<code.length→s a k=seen.getD a true) (df:s t.pc k=false) (hm:ct code gs aN (bL k t)=.more []):
  AR (ct code gs aN) (gI code gs k []) k code.length s [bL k t] (seen.set t.pc true) aM false:=by
 intro r1 s1 hr;rw[jq] at hr;cases hr;exact⟨fun c hc=>(by cases hc),fun _ h=>(by cases h),fun _ _=>⟨_,.more df hm .nil,Ag.sy rfl,zw hl ht hs⟩⟩
structure tI (code:List aC) (gs:List (Nat×Nat)) (aN:List Int) (k:Nat) (s:Sn) (A:List fx) (w:Wk) (w':Wk) (IK:Bool) (new:List fU):Prop where
 rdy:w'.rdy=w.rdy++new
 bO:IK=false→w'.dn=w.dn∧w'.aM=w.aM
 got:IK=true→w'.dn=true
 run:AR (ct code gs aN) (gI code gs k new) k code.length s A w'.seen w'.aM IK
theorem na (hsh:∀pc i,code[pc]?=some i→cT code.length ns pc i=true) (gR:aN.getD k 0=(pl:Int)) (hz:pl=0↔k=0) (he:e=true↔k=gs.length):∀(f:Nat) (w:Wk) (t:fU) (s:Sn),w.seen.count false<f→w.seen.length=code.length→t.pc<code.length→(∀a,a<code.length→s a k=w.seen.getD a true)→
  ∃new,tI code gs aN k s [bL k t] w (bC code pl e f w t).1 (bC code pl e f w t).2 new
 |0,_,_,_,h,_,_,_=>absurd h (Nat.not_lt_zero _)
 |f+1,w,t,s,hc,hl,ht,hs=>by
  have df:=hs t.pc ht;unfold bC
  by_cases h0:w.seen.getD t.pc true=true
  ·rw[if_pos h0];rw[h0] at df;refine⟨[],by simp,fun _=>⟨rfl,rfl⟩,fun h=>(by cases h),fun r1 s1 hr=>?_⟩;rw[jq] at hr;cases hr;exact⟨fun c hc=>(by cases hc),fun _ h=>(by cases h),fun _ _=>⟨_,.jX df .nil,fun _ _ _=>rfl,hs⟩⟩
  rw[if_neg h0];rw[Bool.not_eq_true] at h0;rw[h0] at df
  have M0:w.seen[t.pc]?=some false:=by
   rw[List.getD_eq_getElem?_getD,List.getElem?_eq_getElem (by omega)] at h0;rw[List.getElem?_eq_getElem (by omega)];exact congrArg some h0
  have i_:=count_set M0
  obtain⟨i,hi⟩:∃i,code[t.pc]?=some i:=⟨code[t.pc]'ht,List.getElem?_eq_getElem _⟩
  have RT:=fz (hsh _ _ hi);have P8:=zw (t:=t) hl ht hs;have rQ:(w.seen.set t.pc true).length=code.length:=by rw[List.length_set];exact hl
  have ih:=fun(u:fU) (hu:u.pc<code.length)=>na hsh gR hz he f ⟨w.seen.set t.pc true,w.dn,w.aM,w.rdy⟩ u (fy s (bL k t)) (by show(w.seen.set t.pc true).count false<f;omega) rQ hu P8
  have one:∀(u:fU),u.pc<code.length→ct code gs aN (bL k t)=.more [bL k u]→∃new,tI code gs aN k s [bL k t] w (bC code pl e f ⟨w.seen.set t.pc true,w.dn,w.aM,w.rdy⟩ u).1 (bC code pl e f ⟨w.seen.set t.pc true,w.dn,w.aM,w.rdy⟩ u).2 new:=fun u hu hm=>by
   obtain⟨new,g1,g2,g3,g4⟩:=ih u hu;exact⟨new,g1,g2,g3,Cs (w':=(bC code pl e f ⟨w.seen.set t.pc true,w.dn,w.aM,w.rdy⟩ u)) jr df hm g4⟩
  have stop:ct code gs aN (bL k t)=.more []→∃new,tI code gs aN k s [bL k t] w ⟨w.seen.set t.pc true,w.dn,w.aM,w.rdy⟩ false new:=fun hm=>
   ⟨[],by simp,fun _=>⟨rfl,rfl⟩,fun h=>(by cases h),Ct hl ht hs df hm⟩
  have hS:ct code gs aN (bL k t)=(if i.op=7 then .found
    else if i.op=2 then .more [⟨i.x.toNat,k,t.c⟩,⟨i.y.toNat,k,t.c⟩]
    else if i.op=3 then .more [⟨i.x.toNat,k,t.c⟩]
    else if i.op=4 then .more [⟨t.pc+1,k,eN t.c i.x.toNat (aN.getD k 0)⟩]
    else if i.op=5 then .more (if k=0 then[⟨t.pc+1,k,t.c⟩] else[])
    else if i.op=6 then .more (if k=gs.length then[⟨t.pc+1,k,t.c⟩] else[])
    else .more (if k<gs.length∧iA i.rs ((gs.getD k (0,0)).1:Nat)=true then[⟨t.pc+1,k+1,t.c⟩] else[])):=by
   unfold ct;simp only[bL,hi]
   rfl
  rw[hi];simp only
  rcases RT with h7|⟨h2,hx,hy⟩|⟨h3,hx⟩|⟨h4,hx,_⟩|⟨h5,hx⟩|⟨h6,hx⟩|⟨h1,hx⟩
  ·rw[if_pos h7];rw[if_pos h7] at hS;refine⟨[],by simp,fun h=>(by cases h),fun _=>rfl,fun r1 s1 hr=>?_⟩;rw[jq] at hr;cases hr;exact⟨fun c hc=>(by cases hc),fun _ _=>⟨_,.found df hS⟩,fun _ h=>(by cases h)⟩
  ·rw[if_neg (by omega),if_pos h2];rw[if_neg (by omega),if_pos h2] at hS;have RA:i.x.toNat<code.length:=by omega
   have Ry:i.y.toNat<code.length:=by omega
   obtain⟨nx,KP,KO,Ov,H_⟩:=ih ⟨i.x.toNat,t.c⟩ RA;have GG:=cj code pl e f ⟨w.seen.set t.pc true,w.dn,w.aM,w.rdy⟩ ⟨i.x.toNat,t.c⟩;generalize bC code pl e f ⟨w.seen.set t.pc true,w.dn,w.aM,w.rdy⟩ ⟨i.x.toNat,t.c⟩=R1 at*;obtain⟨w1,b1⟩:=R1;obtain⟨jV,ch,_,_⟩:=GG;simp only at*
   cases b1 with
   |true=>
    rw[if_pos rfl];refine⟨nx,KP,KO,Ov,fun r1 s1 hr=>?_⟩;obtain⟨z1,k1,k2,_⟩:=jC (jy code gs aN) hr jr (fy s (bL k t)) (Ag.sy rfl);obtain⟨q1,q2,q3⟩:=H_ r1 z1 k1;refine⟨fun c hc=>?_,fun hn hh=>?_,fun _ h=>(by cases h)⟩
    ·obtain⟨s2,g⟩:=q1 c hc;obtain⟨s3,g⟩:=(cy g [bL k ⟨i.y.toNat,t.c⟩]).1 c rfl;exact⟨s3,.more df hS g⟩
    ·obtain⟨s2,g⟩:=q2 hn hh;obtain⟨s3,g⟩:=(cy g [bL k ⟨i.y.toNat,t.c⟩]).1 _ rfl;exact⟨s3,.more df hS g⟩
   |false=>
    rw[if_neg (by decide)];obtain⟨Ou,Ot⟩:=KO rfl
    have yC:∀z:Sn,(∀a,a<code.length→z a k=w1.seen.getD a true)→∃new,tI code gs aN k z [bL k ⟨i.y.toNat,t.c⟩] w1 (bC code pl e f w1 ⟨i.y.toNat,t.c⟩).1 (bC code pl e f w1 ⟨i.y.toNat,t.c⟩).2 new:=fun z hz1=>
     na hsh gR hz he f w1 ⟨i.y.toNat,t.c⟩ z (by omega) (by rw[jV,List.length_set];exact hl) Ry hz1
    obtain⟨ny,KN,Oq,Oo,_⟩:=yC (fun a b=>w1.seen.getD a true) (fun _ _=>rfl);refine⟨nx++ny,by rw[KN,KP,List.append_assoc],fun h=>?_,Oo,fun r1 s1 hr=>?_⟩
    ·obtain⟨p1,p2⟩:=Oq h;exact⟨p1.trans Ou,p2.trans Ot⟩
    obtain⟨z1,k1,k2,_⟩:=jC (jy code gs aN) hr jr (fy s (bL k t)) (Ag.sy rfl);rw[tz] at k1
    rcases kV k1 _ _ rfl with⟨c,u1,rfl,hA⟩|⟨u1,hA,hB⟩
    ·obtain⟨q1,_,_⟩:=H_ _ _ hA;obtain⟨s2,g⟩:=q1 c rfl;obtain⟨s3,g⟩:=(cy g [bL k ⟨i.y.toNat,t.c⟩]).1 c rfl;exact⟨fun c' xO=>(by cases xO;exact⟨s3,.more df hS g⟩),fun h=>(by cases h),fun h=>(by cases h)⟩
    ·obtain⟨_,_,q3⟩:=H_ _ _ hA;obtain⟨s2,g,g2,g3⟩:=q3 rfl rfl;obtain⟨Mv,H9,_,_,On⟩:=yC s2 g3;have NG:Mv=ny:=List.append_cancel_left (H9.symm.trans KN);subst NG;obtain⟨z2,k3,k4,_⟩:=jC (jy code gs aN) hB jr s2 g2;obtain⟨p1,p2,p3⟩:=On _ _ k3;refine⟨fun c hc=>?_,fun hn hh=>?_,fun hn hh=>?_⟩
     ·obtain⟨s3,g4⟩:=p1 c hc;exact⟨s3,.more df hS ((cy g [bL k ⟨i.y.toNat,t.c⟩]).2 rfl _ _ g4)⟩
     ·obtain⟨s3,g4⟩:=p2 hn hh;exact⟨s3,.more df hS ((cy g [bL k ⟨i.y.toNat,t.c⟩]).2 rfl _ _ g4)⟩
     ·obtain⟨s3,g4,g5,g6⟩:=p3 hn hh;exact⟨s3,.more df hS ((cy g [bL k ⟨i.y.toNat,t.c⟩]).2 rfl _ _ g4),(k2.trans k4).trans g5,g6⟩
  ·rw[if_neg (by omega),if_neg (by omega),if_neg (by omega),if_pos h3];rw[if_neg (by omega),if_neg (by omega),if_pos h3] at hS;exact one ⟨i.x.toNat,t.c⟩ (show i.x.toNat<code.length by omega) hS
  ·rw[if_neg (by omega),if_neg (by omega),if_neg (by omega),if_neg (by omega),if_pos h4];rw[if_neg (by omega),if_neg (by omega),if_neg (by omega),if_pos h4,gR] at hS;exact one ⟨t.pc+1,eN t.c i.x.toNat (pl:Nat)⟩ hx hS
  ·rw[if_neg (by omega),if_neg (by omega),if_neg (by omega),if_neg (by omega),if_neg (by omega),if_pos h5];rw[if_neg (by omega),if_neg (by omega),if_neg (by omega),if_neg (by omega),if_pos h5] at hS
   by_cases hk:k=0
   ·rw[if_pos (hz.2 hk)];rw[if_pos hk] at hS;exact one ⟨t.pc+1,t.c⟩ hx hS
   ·rw[if_neg (fun h=>hk (hz.1 h))];rw[if_neg hk] at hS;exact stop hS
  ·rw[if_neg (by omega),if_neg (by omega),if_neg (by omega),if_neg (by omega),if_neg (by omega),if_neg (by omega)];rw[if_neg (by omega),if_neg (by omega),if_neg (by omega),if_neg (by omega),if_neg (by omega),if_pos h6] at hS
   by_cases hk:k=gs.length
   ·rw[if_pos (he.2 hk)];rw[if_pos hk] at hS;exact one ⟨t.pc+1,t.c⟩ hx hS
   ·rw[if_neg (fun h=>hk (he.1 h))];rw[if_neg hk] at hS;exact stop hS
  ·rw[if_neg (by omega),if_neg (by omega),if_pos h1];rw[if_neg (by omega),if_neg (by omega),if_neg (by omega),if_neg (by omega),if_neg (by omega),if_neg (by omega)] at hS
   have KA:gI code gs k [t]=if k<gs.length∧iA i.rs ((gs.getD k (0,0)).1:Nat)=true then[⟨t.pc+1,k+1,t.c⟩] else[]:=by
    unfold gI pG;rw[List.flatMap_cons,List.flatMap_nil,List.append_nil,hi]
   rw[←KA] at hS;refine⟨[t],rfl,fun _=>⟨rfl,rfl⟩,fun h=>(by cases h),fun r1 s1 hr=>?_⟩;obtain⟨z1,k1,k2,k3⟩:=jC (jy code gs aN) hr jr (fy s (bL k t)) (Ag.sy rfl);have oS:j8 (ct code gs aN) s [bL k t] r1 z1:=.more df hS (by rw[List.append_nil];exact k1);refine⟨fun c hc=>⟨z1,hc▸oS⟩,fun _ h=>(by cases h),fun hn _=>⟨z1,hn▸oS,k2,fun a ha=>?_⟩⟩;rw[k3 a k (Nat.le_refl _)];exact P8 a ha
def GN (code:List aC) (pl:Nat) (e:Bool):List fU→Wk→Bool
 |[],_=>false
 |t::ts,w=>if(bC code pl e (code.length+1) w t).2=true then true else GN code pl e ts (bC code pl e (code.length+1) w t).1
theorem uW (hsh:∀pc i,code[pc]?=some i→cT code.length ns pc i=true) (gR:aN.getD k 0=(pl:Int)) (hz:pl=0↔k=0) (he:e=true↔k=gs.length):∀(l:List fU) (w:Wk) (s:Sn),w.seen.length=code.length→(∀t∈l,t.pc<code.length)→(∀a,a<code.length→s a k=w.seen.getD a true)→
  ∃new,tI code gs aN k s (l.map (bL k)) w (l8 code pl e l w) (GN code pl e l w) new
 |[],w,s,hl,_,hs=>⟨[],by simp[l8],fun _=>⟨rfl,rfl⟩,fun h=>(by cases h),fun r1 s1 hr=>by
   rw[jq] at hr;cases hr
   exact⟨fun c hc=>(by cases hc),fun _ h=>(by cases h),fun _ _=>⟨_,.nil,fun _ _ _=>rfl,hs⟩⟩⟩
 |t::ts,w,s,hl,hts,hs=>by
  have ht:=hts t (List.mem_cons_self ..);have hcl:=List.count_le_length (a:=false) (l:=w.seen);obtain⟨nx,KP,KO,Ov,H_⟩:=na hsh gR hz he (code.length+1) w t s (by omega) hl ht hs;obtain⟨jV,_,_,_⟩:=cj code pl e (code.length+1) w t;unfold l8 GN;generalize bC code pl e (code.length+1) w t=R1 at*;obtain⟨w1,b1⟩:=R1;simp only at*;rw[List.map_cons]
  cases b1 with
  |true=>
   rw[if_pos rfl,if_pos rfl];refine⟨nx,KP,KO,Ov,fun r1 s1 hr=>?_⟩;obtain⟨q1,q2,q3⟩:=H_ _ _ hr;refine⟨fun c hc=>?_,fun hn hh=>?_,fun _ h=>(by cases h)⟩
   ·obtain⟨s2,g⟩:=q1 c hc;exact(cy g (ts.map (bL k))).1 c rfl
   ·obtain⟨s2,g⟩:=q2 hn hh;exact(cy g (ts.map (bL k))).1 _ rfl
  |false=>
   rw[if_neg (by decide),if_neg (by decide)];obtain⟨Ou,Ot⟩:=KO rfl
   have yC:∀z:Sn,(∀a,a<code.length→z a k=w1.seen.getD a true)→∃new,tI code gs aN k z (ts.map (bL k)) w1 (l8 code pl e ts w1) (GN code pl e ts w1) new:=fun z hz1=>
    uW hsh gR hz he ts w1 z (jV.trans hl) (fun t h=>hts t (List.mem_cons_of_mem _ h)) hz1
   obtain⟨ny,KN,Oq,Oo,_⟩:=yC (fun a b=>w1.seen.getD a true) (fun _ _=>rfl);refine⟨nx++ny,by rw[KN,KP,List.append_assoc],fun h=>?_,Oo,fun r1 s1 hr=>?_⟩
   ·obtain⟨p1,p2⟩:=Oq h;exact⟨p1.trans Ou,p2.trans Ot⟩
   rw[tz] at hr
   rcases kV hr _ _ rfl with⟨c,u1,rfl,hA⟩|⟨u1,hA,hB⟩
   ·obtain⟨q1,_,_⟩:=H_ _ _ hA;obtain⟨s2,g⟩:=q1 c rfl;obtain⟨s3,g⟩:=(cy g (ts.map (bL k))).1 c rfl;exact⟨fun c' xO=>(by cases xO;exact⟨s3,g⟩),fun h=>(by cases h),fun h=>(by cases h)⟩
   ·obtain⟨_,_,q3⟩:=H_ _ _ hA;obtain⟨s2,g,g2,g3⟩:=q3 rfl rfl;obtain⟨Mv,H9,_,_,On⟩:=yC s2 g3;have NG:Mv=ny:=List.append_cancel_left (H9.symm.trans KN);subst NG;obtain⟨z2,k3,k4,_⟩:=jC (jy code gs aN) hB jr s2 g2;obtain⟨p1,p2,p3⟩:=On _ _ k3;refine⟨fun c hc=>?_,fun hn hh=>?_,fun hn hh=>?_⟩
    ·obtain⟨s3,g4⟩:=p1 c hc;exact⟨s3,(cy g (ts.map (bL k))).2 rfl _ _ g4⟩
    ·obtain⟨s3,g4⟩:=p2 hn hh;exact⟨s3,(cy g (ts.map (bL k))).2 rfl _ _ g4⟩
    ·obtain⟨s3,g4,g5,g6⟩:=p3 hn hh;exact⟨s3,(cy g (ts.map (bL k))).2 rfl _ _ g4,k4.trans g5,g6⟩
end
theorem nD {code:List aC} {gs:List (Nat×Nat)} {aN:List Int} {k:Nat} {r:Int} (hk:k<gs.length) (hr:((gs.getD k (0,0)).1:Nat)=r):∀(l acc:List fU) (R:List fx) (s s1:Sn) (q:Option l5),j8 (ct code gs aN) s ((ef code r l acc).map (bL (k+1))++R) q s1→∃s2,j8 (ct code gs aN) s (acc.map (bL (k+1))++(gI code gs k l++R)) q s2
 |[],acc,R,s,s1,q,h=>⟨s1,by rw[jq,List.nil_append];exact h⟩
 |t::ts,acc,R,s,s1,q,h=>by
  unfold ef at h
  have hc:gI code gs k (t::ts)=(if iA (pG code t.pc) r=true then[⟨t.pc+1,k+1,t.c⟩] else[])++gI code gs k ts:=by
   unfold gI;rw[List.flatMap_cons,hr]
   congr 1
   by_cases hh:iA (pG code t.pc) r=true
   ·rw[if_pos ⟨hk,hh⟩,if_pos hh]
   ·rw[if_neg (fun x=>hh x.2),if_neg hh]
  rw[hc];obtain⟨s2,h2⟩:=nD hk hr ts _ R s s1 q h
  by_cases hh:iA (pG code t.pc) r=true
  ·rw[if_pos hh] at h2⊢;unfold l4 at h2
   split at h2
   ·rename_i hp;obtain⟨w,hw,MN⟩:=List.any_eq_true.1 hp;rw[beq_iff_eq] at MN;obtain⟨s3,h3⟩:=zJ (u:=⟨t.pc+1,k+1,t.c⟩) (List.mem_map_of_mem (f:=bL (k+1)) hw) MN rfl h2;exact⟨s3,by rw[List.singleton_append,List.cons_append];exact h3⟩
   ·exact⟨s2,by rw[List.map_append,List.append_assoc] at h2;exact h2⟩
  ·rw[if_neg hh] at h2⊢;exact⟨s2,by rw[List.nil_append];exact h2⟩
theorem wx {code:List aC} {r:Int} {n:Nat}:∀(l acc:List fU),(∀t∈l,t.pc+1<n)→(∀t∈acc,t.pc<n)→∀t∈ef code r l acc,t.pc<n
 |[],acc,_,h=>h
 |t::ts,acc,hl,h=>by
  unfold ef;refine wx ts _ (fun u hu=>hl u (List.mem_cons_of_mem _ hu)) ?_;have:=hl t (List.mem_cons_self ..)
  split
  ·unfold l4
   split
   ·exact h
   ·intro u hu
    rcases List.mem_append.1 hu with hu|hu
    ·exact h u hu
    ·simp only[List.mem_cons,List.not_mem_nil,or_false] at hu;subst hu;exact this
  ·exact h
def iB (code:List aC) (start:Nat):List (Nat×Nat)→Nat→PL→PL
 |[],pl,l=>mD code pl l
 |g::gs,pl,l=>iB code start gs (pl+gC (g.2:Nat)) (fm code pl start (g.1:Nat) l)
def gx (start k n:Nat):List fx:=(List.range' k (n+1-k)).map fun j=>⟨start,j,bt⟩
theorem oj {start k n:Nat} (h:k≤n):gx start k n=⟨start,k,bt⟩::gx start (k+1) n:=by
 unfold gx;rw[show n+1-k=(n+1-(k+1))+1 by omega,List.range'_succ];rfl
theorem vt {start n:Nat}:gx start (n+1) n=[]:=by unfold gx;rw[Nat.sub_self];rfl
theorem zS:∀(l:List (Nat×Nat)) (a:Int) (k:Nat) (g:Nat×Nat),l[k]?=some g→(Cc a l).getD (k+1) 0=(Cc a l).getD k 0+(g.2:Nat)
 |[],_,_,_,h=>by simp at h
 |x::r,a,0,g,h=>by
  simp only[List.getElem?_cons_zero,Option.some.injEq] at h;subst h;cases r<;>rfl
 |x::r,a,k+1,g,h=>by
  rw[List.getElem?_cons_succ] at h;exact zS r _ k g h
theorem uT {code:List aC} {ns start:Nat} {gs:List (Nat×Nat)} (hsh:∀pc i,code[pc]?=some i→cT code.length ns pc i=true) (df:start<code.length) (hg:∀g∈gs,1≤g.2∧g.2≤4):
  ∀(m k pl:Nat) (l:PL) (s:Sn),k+m=gs.length→(Cc 0 gs).getD k 0=(pl:Int)→(pl=0↔k=0)→(∀a b,k≤b→s a b=false)→(∀t∈l.dV,t.pc<code.length)→
   ∃r s',j8 (ct code gs (Cc 0 gs)) s (l.dV.map (bL k)++(if l.dn=true then[] else gx start (k+1) gs.length)) r s'∧(iB code start (gs.drop k) pl l).dn=(r.isSome||l.dn)∧(∀c,r=some c→(iB code start (gs.drop k) pl l).aM=c)∧(r=none→l.dn=true→(iB code start (gs.drop k) pl l).aM=l.aM)
 |0,k,pl,l,s,hk,gR,hz,hs,xI=>by
  have hkn:k=gs.length:=by omega
  subst hkn;rw[List.drop_length,vt,ite_self,List.append_nil];obtain⟨new,g1,g2,g3,g4⟩:=uW (gs:=gs) (e:=true) hsh gR hz ⟨fun _=>rfl,fun _=>rfl⟩ l.dV (jx code.length l.dn l.aM) s (by simp[jx]) xI (fun a ha=>by rw[hs a _ (Nat.le_refl _)];simp[jx,List.getD_eq_getElem?_getD,List.getElem?_replicate,ha])
  have N_:∀x:List fU,gI code gs gs.length x=[]:=fun x=>by
   unfold gI;rw[List.flatMap_eq_nil_iff];intro t _;rw[if_neg (fun h=>Nat.lt_irrefl _ h.1)]
  rw[N_] at g4;obtain⟨_,q2,q3⟩:=g4 none s .nil;unfold iB mD
  cases hh:GN code pl true l.dV (jx code.length l.dn l.aM) with
  |true=>
   obtain⟨s2,h2⟩:=q2 rfl hh;exact⟨_,s2,h2,by simp[g3 hh],fun c hc=>(by cases hc;rfl),fun h=>(by cases h)⟩
  |false=>
   obtain⟨s2,h2,_⟩:=q3 rfl hh;obtain⟨h3,h4⟩:=g2 hh;exact⟨_,s2,h2,h3,fun c hc=>(by cases hc),fun _ _=>h4⟩
 |m+1,k,pl,l,s,hk,gR,hz,hs,xI=>by
  have ir:k<gs.length:=by omega
  obtain⟨g,Cn⟩:∃g,gs[k]?=some g:=⟨gs[k]'ir,List.getElem?_eq_getElem _⟩
  have ch:=hg g (List.mem_of_getElem? Cn)
  have sa:gs.drop k=g::gs.drop (k+1):=by
   rw[List.drop_eq_getElem_cons ir]
   congr 1
   exact Option.some.inj ((List.getElem?_eq_getElem _).symm.trans Cn)
  have BD:(((gs.getD k (0,0)).1:Nat):Int)=((g.1:Nat):Int):=by rw[List.getD_eq_getElem?_getD,Cn];rfl
  have hcl:gC ((g.2:Nat):Int)=g.2:=by unfold gC;omega
  obtain⟨new,g1,g2,g3,g4⟩:=uW (gs:=gs) (e:=false) hsh gR hz ⟨fun h=>(by cases h),fun h=>absurd h (by omega)⟩ l.dV (jx code.length l.dn l.aM) s (by simp[jx]) xI (fun a ha=>by rw[hs a _ (Nat.le_refl _)];simp[jx,List.getD_eq_getElem?_getD,List.getElem?_replicate,ha]);obtain⟨_,hb⟩:=m_ (code:=code) (pl:=pl) (e:=false) (l:=l.dV) (dn:=l.dn) (aM:=l.aM);rw[sa];unfold iB;rw[hcl];unfold fm;generalize l8 code pl false l.dV (jx code.length l.dn l.aM)=w at*;simp only[jx,List.nil_append] at g1 g2;subst g1
  have BB:∀t∈w.rdy,t.pc+1<code.length:=fun t ht=>by
   obtain⟨i,hi,h1⟩:=hb t ht
   rcases fz (hsh _ _ hi) with h|⟨h,_⟩|⟨h,_⟩|⟨h,_⟩|⟨h,_⟩|⟨h,_⟩|⟨_,h⟩<;>omega
  have NH:=wx (code:=code) (r:=((g.1:Nat):Int)) w.rdy [] BB (fun t h=>by cases h);have JM:(Cc 0 gs).getD (k+1) 0=((pl+g.2:Nat):Int):=by rw[zS gs 0 k g Cn,gR];omega
  by_cases hd:w.dn=true
  ·rw[if_pos hd];obtain⟨r,s',h1,h2,h3,h4⟩:=uT hsh df hg m (k+1) (pl+g.2) ⟨w.dn,w.aM,ef code ((g.1:Nat):Int) w.rdy []⟩ s (by omega) JM ⟨fun h=>absurd h (by omega),fun h=>absurd h (by omega)⟩ (fun a b hb=>hs a b (by omega)) NH;simp only[hd,if_true] at h1 h2 h3 h4⊢;obtain⟨s2,h5⟩:=nD ir BD w.rdy [] [] s s' r h1;rw[List.map_nil,List.nil_append,List.append_nil] at h5;obtain⟨q1,q2,q3⟩:=g4 _ _ h5
   cases hr:r with
   |some c=>
    subst hr;obtain⟨s3,h6⟩:=q1 c rfl;obtain⟨s4,h7⟩:=(cy h6 (if l.dn=true then[] else gx start (k+1) gs.length)).1 c rfl;exact⟨_,s4,h7,by rw[h2];rfl,h3,fun h=>by cases h⟩
   |none=>
    subst hr
    cases hh:GN code pl false l.dV (jx code.length l.dn l.aM) with
    |true=>
     obtain⟨s3,h6⟩:=q2 rfl hh;obtain⟨s4,h7⟩:=(cy h6 (if l.dn=true then[] else gx start (k+1) gs.length)).1 _ rfl;exact⟨_,s4,h7,by rw[h2];rfl,fun c hc=>by cases hc;exact h4 rfl trivial,fun h=>by cases h⟩
    |false=>
     obtain⟨s3,h6,_⟩:=q3 rfl hh;obtain⟨e1,e2⟩:=g2 hh;rw[if_pos (e1.symm.trans hd),List.append_nil];exact⟨_,s3,h6,by rw[h2,←e1,hd],fun c hc=>(by cases hc),fun _ _=>(h4 rfl trivial).trans e2⟩
  ·rw[if_neg hd];rw[Bool.not_eq_true] at hd
   have hh:GN code pl false l.dV (jx code.length l.dn l.aM)=false:=by
    cases h:GN code pl false l.dV (jx code.length l.dn l.aM) with
    |false=>rfl
    |true=>rw[g3 h] at hd;cases hd
   obtain⟨e1,e2⟩:=g2 hh;have uL:l.dn=false:=e1.symm.trans hd
   obtain⟨r,s',h1,h2,h3,h4⟩:=uT hsh df hg m (k+1) (pl+g.2) ⟨w.dn,w.aM,l4 (ef code ((g.1:Nat):Int) w.rdy []) ⟨start,bt⟩⟩ s (by omega) JM ⟨fun h=>absurd h (by omega),fun h=>absurd h (by omega)⟩ (fun a b hb=>hs a b (by omega)) (by
    unfold l4
    split
    ·exact NH
    ·intro u hu
     rcases List.mem_append.1 hu with hu|hu
     ·exact NH u hu
     ·simp only[List.mem_cons,List.not_mem_nil,or_false] at hu;subst hu;exact df)
   simp only[hd,uL,Bool.false_eq_true,if_false,Bool.or_false] at h1 h2 h3 h4⊢
   have h0:∃s3,j8 (ct code gs (Cc 0 gs)) s ((ef code ((g.1:Nat):Int) w.rdy []).map (bL (k+1))++gx start (k+1) gs.length) r s3:=by
    rw[oj (by omega)];unfold l4 at h1
    split at h1
    ·rename_i hp;obtain⟨u,hu,jJ⟩:=List.any_eq_true.1 hp;rw[beq_iff_eq] at jJ;exact zJ (u:=⟨start,k+1,bt⟩) (List.mem_map_of_mem (f:=bL (k+1)) hu) jJ rfl h1
    ·exact⟨s',by rw[List.map_append,List.append_assoc] at h1;exact h1⟩
   obtain⟨s3,h5⟩:=h0;obtain⟨s4,h6⟩:=nD ir BD w.rdy [] _ s s3 r h5;rw[List.map_nil,List.nil_append] at h6
   rcases kV h6 _ _ rfl with⟨c,u1,rfl,hA⟩|⟨u1,hA,hB⟩
   ·obtain⟨q1,_,_⟩:=g4 _ _ hA;obtain⟨s5,h7⟩:=q1 c rfl;obtain⟨s6,h8⟩:=(cy h7 (gx start (k+1) gs.length)).1 c rfl;exact⟨_,s6,h8,h2,h3,fun h=>by cases h⟩
   ·obtain⟨_,_,q3⟩:=g4 _ _ hA;obtain⟨s5,h7,h8,_⟩:=q3 rfl hh
    obtain⟨z,k1,_,_⟩:=jC (jy code gs (Cc 0 gs)) hB (fun t ht=>by
     unfold gx at ht;obtain⟨j,hj,rfl⟩:=List.mem_map.1 ht;have:=List.mem_range'_1.1 hj
     show k<j;omega) s5 h8
    exact⟨r,z,(cy h7 _).2 rfl _ _ k1,h2,h3,fun _ h=>by cases h⟩
theorem nR {idx:Nat→Nat→Nat} {ok:Nat→Nat→Prop} {fQ:fx→zk} (hI:Is idx ok) (hK:GS fQ ok) {fuel start:Nat}:∀(m i:Nat) (arr:List Bool) (V:Sn),Ca idx ok arr V→(∀j,j<i+m→ok start j)→3*arr.length+1≤fuel→∃s',j8 fQ V ((List.range' i m).map fun j=>⟨start,j,bt⟩) (Aw idx fQ fuel start m i arr) s'
 |0,i,arr,V,_,_,_=>⟨V,.nil⟩
 |m+1,i,arr,V,hr,df,hf=>by
  have LH:=List.count_le_length (a:=false) (l:=arr)
  obtain⟨sP,mr,hrel⟩:=Eh hI hK fuel arr [⟨start,i,bt⟩] V (by simp only[List.length_cons,List.length_nil];omega) hr (fun t ht=>by
   simp only[List.mem_cons,List.not_mem_nil,or_false] at ht;subst ht
   exact df i (by omega))
  unfold Aw;rw[List.range'_succ,List.map_cons]
  cases hQ:(oW idx fQ fuel arr [⟨start,i,bt⟩]).1 with
  |some c=>
   rw[hQ] at mr;exact(cy mr _).1 c rfl
  |none=>
   rw[hQ] at mr;obtain⟨s',h⟩:=nR hI hK m (i+1) _ sP hrel (fun j hj=>df j (by omega)) (by rw[rE];exact hf);exact⟨s',(cy mr _).2 rfl _ _ h⟩
theorem G8 (b:List UInt8):(hU b).2≤4:=by
 match b with
 |[]=>exact Nat.le_of_ble_eq_true rfl
 |c::xs=>
  unfold hU
  split
  ·exact Nat.le_of_ble_eq_true rfl
  ·rename_i hz;simp only[gB] at hz⊢
   split at hz
   ·simp at hz
   ·rename_i hk;rw[if_neg hk];have:=pD _ _ _ _ _ _ hz;rw[this.1];have:=ow c.toNat;show(b7 c.toNat).1.toNat+1≤4;omega
theorem Im:∀(n:Nat) (b:List UInt8),b.length≤n→∀g∈cK b,1≤g.2∧g.2≤4:=by
 intro n
 induction n with
 |zero=>
  intro b hb g hg;have:b=[]:=List.length_eq_zero_iff.1 (by omega);subst this;rw[kL] at hg;cases hg
 |succ n ih=>
  intro b hb g hg
  by_cases h:b=[]
  ·subst h;rw[kL] at hg;cases hg
  ·rw[n_ h] at hg
   rcases List.mem_cons.1 hg with rfl|hg
   ·exact⟨jf b,G8 b⟩
   ·have hp:=jf b;exact ih (b.drop (hU b).2) (by rw[List.length_drop];have:=List.length_pos_iff.2 h;omega) g hg
def cQ (s:Nat):PL:=⟨false,bt,[⟨s,bt⟩]⟩
theorem vn {p:Pg} (hR:a_ p) {r:Nat} {start:Int} (hs:p.av[r]?=some start) (b:List UInt8):
  (iB p.code start.toNat (cK b) 0 (cQ start.toNat)).dn=(cY p (r:Nat) b).isSome∧∀c,cY p (r:Nat) b=some c→(iB p.code start.toNat (cK b) 0 (cQ start.toNat)).aM=c:=by
 have df:=hR.st start (List.mem_of_getElem? hs);have hlt:=aR hs;have hg:=Im _ b (Nat.le_refl _);unfold cY;rw[if_pos ⟨mG hR,by omega,by omega⟩]
 have BD:(p.av.getD ((r:Nat):Int).toNat 0).toNat=start.toNat:=by
  rw[Int.toNat_natCast,List.getD_eq_getElem?_getD,hs];rfl
 rw[BD];generalize cK b=gs at*
 obtain⟨s',h1⟩:=nR (idx:=DB p.code.length) (ok:=fun a b=>a<p.code.length∧b≤gs.length) (fQ:=ct p.code gs (Cc 0 gs)) (fuel:=3*((gs.length+1)*p.code.length)+1) (start:=start.toNat) (by
   rintro a b a' b' ⟨q1,q2⟩ ⟨q3,q4⟩ he;obtain⟨r1,r2⟩:=z6 q1 q3 he
   exact⟨r2,r1⟩) (fun t l ht hl=>⟨vq _ _ _ _ _ hl,fun u hu=>tS (p:=p) hR ht l hl u hu⟩) (gs.length+1) 0 (List.replicate ((gs.length+1)*p.code.length) false) (fun _ _=>false) (by
   rintro a b ⟨q1,q2⟩;unfold DB
   rw[List.getElem?_replicate,if_pos (mul_lt (by omega) q1)]) (fun j hj=>⟨by omega,by omega⟩) (by rw[List.length_replicate];exact Nat.le_refl _)
 obtain⟨r2,s2,g1,g2,g3,_⟩:=uT (ns:=p.av.length) (gs:=gs) (start:=start.toNat) hR.sh (by omega) hg gs.length 0 0 (cQ start.toNat) (fun _ _=>false) (by omega) (by cases gs<;>rfl) ⟨fun _=>rfl,fun _=>rfl⟩ (fun _ _ _=>rfl) (fun t ht=>by
  simp only[cQ,List.mem_cons,List.not_mem_nil,or_false] at ht;subst ht
  show start.toNat<p.code.length;omega)
 have MY:(cQ start.toNat).dV.map (bL 0)++(if(cQ start.toNat).dn=true then[] else gx start.toNat (0+1) gs.length)=(List.range' 0 (gs.length+1)).map fun j=>(⟨start.toNat,j,bt⟩:fx):=by
  simp only[cQ,Bool.false_eq_true,if_false,List.map_cons,List.map_nil,List.singleton_append];exact(oj (k:=0) (Nat.zero_le _)).symm
 rw[MY] at g1;obtain⟨he,_⟩:=h1.one g1;rw[List.drop_zero] at g2 g3;rw[he];exact⟨by rw[g2];simp[cQ],g3⟩
end Go.Proofs.Ytnleclohocdkaaa
namespace Go.Proofs.Ytnleclohocdkaaa
open Go.V Go
structure zm (p:Pg) (gs:List (Nat×Nat)) (i:Nat) (m:Md):Prop where
 q:rL p m.p
 n:m.L.length=p.av.length
 o:∀l∈m.L,l.pl.ok p.code.length
 f:∀(r s:Nat) (l:VL),(bd p)[r]?=some s→m.L[r]?=some l→iB p.code s (gs.drop i) m.pl l.pl=iB p.code s gs 0 (cQ s)
 b:m.pl≤4*i
theorem qo {p:Pg} {gs:List (Nat×Nat)} {ks kv:Nat} {q:Pg} {ld:D} {L:List VL} (hR:a_ p) (hq:rL p q) (hL:L.map VL.pl=(bd p).map qX):zm p gs 0 ⟨ks,kv,q,0,ld,L⟩ where
 q:=hq
 n:=by
  have:=congrArg List.length hL;unfold bd at this
  simpa using this
 o:=fun l hl=>Bb hR _ (by rw[←hL];exact List.mem_map_of_mem hl)
 f:=fun r s l h1 h2=>by
  have h3:(L.map VL.pl)[r]?=some l.pl:=by rw[List.getElem?_map,h2];rfl
  rw[hL,List.getElem?_map,h1] at h3;rw[←Option.some.inj h3];rfl
 b:=Nat.le_refl _
theorem pZ (o_:∀st,Ev pv 93 [] st (.agg (aQ bt)) st) {A:List bm} {N:Nat} {S st:St} {X Y:List Md} {m:Md} {p:Pg} {gs:List (Nat×Nat)} {i:Nat} {g:Nat×Nat} (hF:S.flr≤N) (hR:a_ p) (hi:i≤1000000) (l7:sv A N S st (X++m::Y)) (hm:zm p gs i m) (hg:gs[i]?=some g):
  ∃d af,Ev pv 35 [.ptr m.kv 0 0,.int .i32 ((g.1:Nat):Int),.int .i64 ((g.2:Nat):Int)] st d af∧d=.tup []∧∃yw L',sv A N S af (X++⟨m.ks,m.kv,m.p,m.pl+gC ((g.2:Nat):Int),yw,L'⟩::Y)∧zm p gs (i+1) ⟨m.ks,m.kv,m.p,m.pl+gC ((g.2:Nat):Int),yw,L'⟩:=by
 obtain⟨hq,hn,ho,hf,hb⟩:=hm;have Nf:=hq.right hR;have N9:m.p.code.length=p.code.length:=by rw[hq.code,List.length_map]
 have Lx:=hR.sl;have Nc:m.L.length=m.p.av.length:=by rw[hq.av];exact hn
 have D_:∀l∈m.L,l.pl.ok m.p.code.length:=by rw[N9];exact ho
 have N_:=tB ((g.2:Nat):Int);obtain⟨H,hM,hb1⟩:=l7.one;obtain⟨d,af,aG,hd,L',LL,IM⟩:=Gi (r:=((g.1:Nat):Int)) (n:=((g.2:Nat):Int)) o_ hF hq.ok Nf (by omega) Nc D_ hM;refine⟨d,af,aG,hd,m.ld,L',hb1 [] _ _ _ _ IM,?_⟩;rw[hq.code,oi,hq.bd] at LL
 have Oj:L'.length=m.L.length:=by
  have:=congrArg List.length LL;rw[List.length_map,lI _ _ _ _ _ (by unfold bd;simp;omega),List.length_map] at this;exact this
 have sa:gs.drop i=g::gs.drop (i+1):=by
  obtain⟨h3,h4⟩:=List.getElem?_eq_some_iff.1 hg;rw[List.drop_eq_getElem_cons h3,h4]
 refine⟨hq,by show L'.length=_;omega,fun l hl=>sD hR (xV hR) _ (by rw[←LL];exact List.mem_map_of_mem hl),fun r s l h1 h2=>?_,by show m.pl+_≤_;omega⟩;have T8:=aR h2
 obtain⟨l0,h0⟩:∃l0,m.L[r]?=some l0:=⟨m.L[r]'(by have:r<L'.length:=T8;omega),List.getElem?_eq_getElem _⟩
 have h3:(L'.map VL.pl)[r]?=some l.pl:=by rw[List.getElem?_map];exact congrArg (Option.map VL.pl) h2
 rw[LL,lJ _ _ _ _ _ r s l0.pl h1 (by rw[List.getElem?_map,h0];rfl)] at h3;show iB p.code s (gs.drop (i+1)) (m.pl+gC ((g.2:Nat):Int)) l.pl=_;rw[←Option.some.inj h3,←hf r s l0 h1 h0,sa];rfl
theorem p_ {A:List bm} {N:Nat} {S st:St} {X Y:List Md} {m:Md} {p:Pg} {gs:List (Nat×Nat)} (hF:S.flr≤N) (hR:a_ p) (hi:gs.length≤1000000) (l7:sv A N S st (X++m::Y)) (hm:zm p gs gs.length m):
  ∃(d:D) (af:St) (E:List PL),Ev pv 37 [.ptr m.kv 0 0] st d af∧sv (.aI d 12 (E.map mE)::A) N S af (X++m::Y)∧E.length=p.av.length∧∀(r s:Nat),(bd p)[r]?=some s→E[r]?=some (iB p.code s gs 0 (cQ s)):=by
 obtain⟨hq,hn,ho,hf,hb⟩:=hm;have Nf:=hq.right hR;have N9:m.p.code.length=p.code.length:=by rw[hq.code,List.length_map]
 have Lx:=hR.sl;have Nc:m.L.length=m.p.av.length:=by rw[hq.av];exact hn
 have D_:∀l∈m.L,l.pl.ok m.p.code.length:=by rw[N9];exact ho
 obtain⟨H,hM,hb1⟩:=l7.one;obtain⟨d,af,aG,IM⟩:=Gj hF hq.ok Nf (by omega) Nc D_ hM
 have F1:(m.L.map fun l=>mD m.p.code m.pl l.pl)=(m.L.map VL.pl).map (mD p.code m.pl):=by
  rw[List.map_map,hq.code];refine List.map_congr_left fun x _=>?_;rw[BT];rfl
 rw[F1] at IM;refine⟨d,af,(m.L.map VL.pl).map (mD p.code m.pl),aG,hb1 [_] _ _ _ _ IM,by simpa using hn,fun r s h1=>?_⟩
 have rZ:r<m.L.length:=by
  have:=aR h1;unfold bd at this;rw[List.length_map] at this;omega
 obtain⟨l0,h0⟩:∃l0,m.L[r]?=some l0:=⟨m.L[r]'rZ,List.getElem?_eq_getElem _⟩
 have h4:=hf r s l0 h1 h0;rw[List.drop_length] at h4;rw[List.getElem?_map,List.getElem?_map,h0,←h4];rfl
end Go.Proofs.Ytnleclohocdkaaa
