import Derived.Test.YtbdnabmmlbiomaaGreatXGQh
import Derived.Test.YtbdnabmmlbiomaaGreatXM2
import Derived.DataReads
import Derived.ChangeOld
import GoSem.ClaimChange
import Derived.Below
import Derived.Test.YtbdnabmmlbiomaaGreatRows
import Derived.Test.YtbdnabmmlbiomaaGreatXGUb
set_option linter.unnecessarySimpa false
set_option linter.unusedSectionVars false
set_option maxRecDepth 100000
set_option linter.unusedSimpArgs false
set_option linter.unusedVariables false
set_option maxHeartbeats 4000000
namespace Go.Proofs.YtbdnabmmlbiomaaGreat
open Go.V Go
theorem Bz {lo hi u:Nat} {i:aO} (h:dg lo hi i) (h1:lo≤u+1) (h2:u+1≤hi):∀v∈cM u i,(lo:Int)≤v∧v≤hi:=by
 intro v hv;unfold cM at hv
 rcases h with⟨a,_⟩|⟨a,_,c,d⟩|⟨a,_,_,d⟩|⟨a,_⟩|⟨a,_⟩
 ·rw[if_neg (by omega),if_neg (by omega),if_neg (by omega)] at hv;simp only[List.mem_cons,List.not_mem_nil,or_false] at hv;omega
 ·rw[if_pos a] at hv;simp only[List.mem_cons,List.not_mem_nil,or_false] at hv
  rcases hv with rfl|rfl<;>omega
 ·rw[if_neg (by omega),if_pos a] at hv;simp only[List.mem_cons,List.not_mem_nil,or_false] at hv;omega
 ·rw[if_neg (by omega),if_neg (by omega),if_neg (by omega)] at hv;simp only[List.mem_cons,List.not_mem_nil,or_false] at hv;omega
 ·rw[if_neg (by omega),if_neg (by omega),if_neg (by omega)] at hv;simp only[List.mem_cons,List.not_mem_nil,or_false] at hv;omega
theorem wY {lo hi n ns pc:Nat} {i:aO} (h:dg lo hi i) (h1:hi<n) (h2:pc+1<n):dO n ns pc i=true:=by
 have EV:∀v:Int,(lo:Int)≤v→v≤hi→qU v n=true:=fun v a b=>ew.2 ⟨by omega,by omega⟩;have hd:decide (((pc+1:Nat):Int)<n)=true:=by rw[decide_eq_true_eq];omega
 unfold dO
 rcases h with⟨a,b,c,d⟩|⟨a,b,c,d⟩|⟨a,b,c,d⟩|⟨a,b,c,d⟩|⟨a,b,c,d⟩
 ·rw[if_pos a,hd,b,c,d];rfl
 ·rw[if_neg (by omega),if_pos a,b,EV _ c.1 c.2,EV _ d.1 d.2];rfl
 ·rw[if_neg (by omega),if_neg (by omega),if_pos a,b,c,EV _ d.1 d.2];rfl
 ·rw[if_neg (by omega),if_neg (by omega),if_neg (by omega),if_pos a,b,c,hd,ew.2 ⟨d.1,d.2⟩];rfl
 ·rw[if_neg (by omega),if_neg (by omega),if_neg (by omega),if_neg (by omega),if_pos a,b,c,hd,d];rfl
theorem nJ {t:Tr} {b r o:Nat} {q:aO} (h1:t.ok) (h2:EI t.flat) (h:(eS t b r)[o]?=some q):(o<t.sz+2∧dg b (b+t.sz+2) q)∨(o=t.sz+2∧q=c8 7 (r:Nat) 0 []):=by
 have hl:=cy t (b+1) h1;have hA:eS t b r=(c8 4 0 0 []::(aX t (b+1)++[c8 4 1 0 []]))++[c8 7 (r:Nat) 0 []]:=by unfold eS;simp
 have hAl:(c8 4 0 0 []::(aX t (b+1)++[c8 4 1 0 []])).length=t.sz+2:=by simp[hl]
 rw[hA] at h
 by_cases ho:o<t.sz+2
 ·rw[List.getElem?_append_left (by omega)] at h;refine .inl ⟨ho,?_⟩;have hm:=List.mem_of_getElem? h
  rcases List.mem_cons.1 hm with rfl|hm
  ·exact dg.save (by omega)
  ·rcases List.mem_append.1 hm with hm|hm
   ·exact(km t (b+1) h1 h2 q hm).mono (by omega) (by omega)
   ·simp only[List.mem_cons,List.not_mem_nil,or_false] at hm;subst hm;exact dg.save (by omega)
 ·rw[List.getElem?_append_right (by omega),hAl] at h;have h0:=bH h;simp only[List.length_cons,List.length_nil] at h0;have s8:o=t.sz+2:=by omega
  refine .inr ⟨s8,?_⟩;rw[s8,Nat.sub_self] at h;exact(Option.some.inj h).symm
structure UM (p:Pg) (r s e:Nat):Prop where
 st:p.aw[r]?=some (s:Int)
 se:s<e
 el:e≤p.code.length
 nx:∀b':Int,p.aw[r+1]?=some b'→b'=(e:Int)
 la:r+1=p.aw.length→p.code.length=e
 mt:p.code[e-1]?=some (c8 7 (r:Nat) 0 [])
 fi:(pT p (r:Nat))[0]?=some (s:Int)
 lt:(pT p (r:Nat))[(pT p (r:Nat)).length-1]?=some ((e-1:Nat):Int)
theorem AO {X:List Int} {a b:Int} (hp:X.Pairwise (·<·)) (ha:a∈X) (hb:b∈X) (h:∀v∈X,a≤v∧v≤b):X[0]?=some a∧X[X.length-1]?=some b:=by
 obtain⟨i,hi⟩:=List.getElem?_of_mem ha;obtain⟨j,hj⟩:=List.getElem?_of_mem hb;have hil:=bH hi;have jq:=bH hj
 have hlt:∀u v (x y:Int),u<v→X[u]?=some x→X[v]?=some y→x<y:=fun u v x y huv hx hy=>by
  have:=List.pairwise_iff_getElem.1 hp u v (bH hx) (bH hy) huv;have ex:X[u]'(bH hx)=x:=Option.some.inj ((List.getElem?_eq_getElem _).symm.trans hx);have ey:X[v]'(bH hy)=y:=Option.some.inj ((List.getElem?_eq_getElem _).symm.trans hy);rw[ex,ey] at this;exact this
 constructor
 ·obtain⟨x,hx⟩:∃x,X[0]?=some x:=⟨X[0]'(by omega),List.getElem?_eq_getElem _⟩
  have:=h x (List.mem_of_getElem? hx)
  by_cases h0:i=0
  ·rw[←h0];exact hi
  ·have:=hlt 0 i x a (by omega) hx hi;omega
 ·obtain⟨x,hx⟩:∃x,X[X.length-1]?=some x:=⟨X[X.length-1]'(by omega),List.getElem?_eq_getElem _⟩
  have:=h x (List.mem_of_getElem? hx)
  by_cases h0:j=X.length-1
  ·rw[←h0];exact hj
  ·have:=hlt j (X.length-1) b x (by omega) hj hx;omega
theorem yx {parts:List (List dM)} (hl:parts.length≤8) (he:(bB parts).e=0) (hcl:(bB parts).code.length≤400):
  bz (pq (bB parts).code (bB parts).aw)∧(bB parts).aw.length=parts.length∧∀r,r<parts.length→∃s e,UM (pq (bB parts).code (bB parts).aw) r s e:=by
 have h_:bB parts=eV parts 0 [] []:=by unfold bB;rw[if_neg (by omega)]
 rw[h_] at he hcl⊢;obtain⟨C,B,h1,h2,h3⟩:=rA parts 0 [] [] he;simp only[List.nil_append] at h1 h2;simp only[List.length_nil] at h3;rw[h1] at hcl;rw[h1,h2];have U':=h3.bl
 have hsh:∀pc i,C[pc]?=some i→dO C.length B.length pc i=true:=by
  intro pc i hi;obtain⟨j,q1,t,b,q2,q3,q4,q5,q6,q7,q8,q9⟩:=h3.al pc i hi;rw[Nat.zero_add] at q9
  rcases nJ q3 q4 q9 with⟨g1,g2⟩|⟨g1,g2⟩
  ·exact wY g2 (by omega) (by omega)
  ·rw[g2];have:qU ((j:Nat):Int) B.length=true:=ew.2 ⟨by omega,by omega⟩;unfold dO c8;simp[this]
 have TE:je C:=oj (p:=pq C B) hsh
 have Dx:∀r,r<parts.length→∃s e:Nat,B[r]?=some (s:Int)∧s<e∧e≤C.length∧(∀b':Int,B[r+1]?=some b'→b'=(e:Int))∧(r+1=parts.length→C.length=e)∧C[e-1]?=some (c8 7 (r:Nat) 0 [])∧(∀u:Nat,(cA C (s:Nat))[u]?=some true→s≤u∧u<e)∧(cA C (s:Nat))[s]?=some true∧(cA C (s:Nat))[e-1]?=some true∧∀u i,s≤u→u<e→C[u]?=some i→i.op=7→i.x=(r:Int):=by
  intro r hr;obtain⟨t,b,q1,q2,q3,q4,q5,q6,pre,post,q7,q8⟩:=h3.el r hr;rw[Nat.zero_add] at q6 q8;rw[Nat.zero_add] at q7;have oZ:=lB (b:=b) (r:=r) q1;have RC:C.length=b+(t.sz+3)+post.length:=by rw[q7,List.length_append,List.length_append,oZ,q8]
  have iZ:∀u,b≤u→u<b+t.sz+3→C[u]?=(eS t b r)[u-b]?:=fun u g1 g2=>by
   rw[q7,List.append_assoc,List.getElem?_append_right (by omega),q8,List.getElem?_append_left (by omega)]
  have kc:fO C b (eS t b r):=⟨post,by rw[q7,List.append_assoc,←q8,List.drop_left]⟩
  have EV:∀u:Nat,(cA C (b:Nat))[u]?=some true→b≤u∧u<b+t.sz+3:=by
   unfold cA;refine yX (I:=fun u=>b≤u∧u<b+t.sz+3) (fun u i hu hi v hv=>?_) _ _ _ (fun v hv=>?_) (fun u hu=>?_)
   ·rw[iZ u hu.1 hu.2] at hi
    rcases nJ q1 q2 hi with⟨g1,g2⟩|⟨g1,g2⟩
    ·have:=Bz (u:=u) g2 (by omega) (by omega) v hv;omega
    ·rw[g2] at hv;have:cM u (c8 7 (r:Nat) 0 [])=[]:=by unfold cM c8;simp
     rw[this] at hv;cases hv
   ·simp only[List.mem_cons,List.not_mem_nil,or_false] at hv;subst hv;rw[Int.toNat_natCast];omega
   ·rw[List.getElem?_replicate] at hu
    split at hu<;>cases hu
  have hs:=vK (s:=b) TE (by omega)
  have hmt:C[b+t.sz+3-1]?=some (c8 7 (r:Nat) 0 []):=by
   rw[iZ _ (by omega) (by omega)];unfold eS;have rS:=cy t (b+1) q1;rw[show b+t.sz+3-1-b=(t.sz+1)+1 by omega,List.getElem?_cons_succ,List.getElem?_append_right (by omega),rS,show t.sz+1-t.sz=1 by omega]
   rfl
  have SU:Path C b (b+t.sz+3-1):=by
   unfold eS at kc;have p1:Path C b (b+1):=Path.yS kc.head (by show(4:Int)≠2∧(4:Int)≠3∧(4:Int)≠7;decide);have p2:=BN (C:=C) _ t (Nat.le_refl _) (b+1) q1 kc.tail.left;have h4:=kc.tail.right;rw[cy t _ q1] at h4;have p3:Path C (b+1+t.sz) (b+1+t.sz+1):=Path.yS h4.head (by show(4:Int)≠2∧(4:Int)≠3∧(4:Int)≠7;decide);rw[show b+t.sz+3-1=b+1+t.sz+1 by omega];exact p1.trans (p2.trans p3)
  refine⟨b,b+t.sz+3,q3,by omega,by omega,fun b' ez=>q5 b' ez,q6,hmt,EV,hs,AY TE ⟨by omega,by omega⟩ SU hs,fun u i g1 g2 hi ho=>?_⟩;rw[iZ u g1 g2] at hi
  rcases nJ q1 q2 hi with⟨_,g3⟩|⟨_,g3⟩
  ·rcases g3 with⟨a,_⟩|⟨a,_⟩|⟨a,_⟩|⟨a,_⟩|⟨a,_⟩<;>omega
  ·rw[g3];rfl
 have hR:bz (pq C B):=by
  refine⟨hcl,by show B.length≤8;omega,hsh,fun v hv=>?_,fun r s hs pc i DE SL hi ho=>?_⟩
  ·obtain⟨r,hr⟩:=List.getElem?_of_mem (show v∈B from hv);obtain⟨s,e,g1,g2,g3,_⟩:=Dx r (by rw[←U'];exact bH hr);rw[g1] at hr;cases hr;show(0:Int)≤(s:Int)∧(s:Int)<(C.length:Int);omega
  ·have hs:B[r]?=some s:=hs;obtain⟨s',e,g1,g2,g3,g4,g5,g6,g7,g8,g9,g10⟩:=Dx r (by rw[←U'];exact bH hs);rw[g1] at hs;cases hs;obtain⟨k1,k2⟩:=g7 pc SL;exact g10 pc i k1 k2 hi ho
 refine⟨hR,by rw[U'],fun r hr=>?_⟩;obtain⟨s,e,g1,g2,g3,g4,g5,g6,g7,g8,g9,g10⟩:=Dx r hr
 have SP:pT (pq C B) (r:Nat)=qw 0 (cA C (s:Nat)):=by
  unfold pT;have hi:qU ((r:Nat):Int) (pq C B).aw.length=true:=ew.2 ⟨by omega,by show((r:Nat):Int)<(B.length:Nat);omega⟩;rw[uP hR,hi]
  have Lm:(pq C B).aw.getD ((r:Nat):Int).toNat 0=(s:Int):=by
   rw[Int.toNat_natCast,List.getD_eq_getElem?_getD];show(B[r]?).getD 0=_;rw[g1];rfl
  rw[Lm];rfl
 have Mg:=AO (sK (cA C (s:Nat)) 0) (a:=(s:Int)) (b:=((e-1:Nat):Int)) (jE.2 ⟨s,g8,by rw[Nat.zero_add]⟩) (jE.2 ⟨e-1,g9,by rw[Nat.zero_add]⟩) (fun v hv=>by
  obtain⟨k,k1,k2⟩:=jE.1 hv;have:=g7 k k1
  omega)
 exact⟨s,e,g1,g2,g3,fun b' ez=>g4 b' ez,fun gJ=>g5 (by rw[←U'];exact gJ),g6,by rw[SP];exact Mg.1,by rw[SP];exact Mg.2⟩
def l7 (fr:Go.V.Fr) (k:Nat):Go.V.D:=Go.V.nth .bp fr.loc k
theorem tm:∀(ls:List (List dM)) (r:Nat) (c:List aO) (s:List Int),(eV ls r c s).e≠0→(eV ls r c s).code=[]∧(eV ls r c s).aw=[]
 |[],r,c,s,h=>by rw[oh] at h;exact absurd rfl h
 |l::ls,r,c,s,h=>by
  rw[eV] at h⊢
  split
  ·exact⟨rfl,rfl⟩
  ·rename_i h1;rw[if_neg h1] at h
   split
   ·exact⟨rfl,rfl⟩
   ·rename_i h2;rw[if_neg h2] at h;exact tm ls _ _ _ h
theorem oP {ls:List (List dM)} (h:(bB ls).e≠0):(bB ls).code=[]∧(bB ls).aw=[]:=by
 unfold bB at h⊢
 split
 ·exact⟨rfl,rfl⟩
 ·rename_i h1;rw[if_neg h1] at h;exact tm _ _ _ _ h
theorem xU:bz (pq [] []):=⟨by simp[pq],by simp[pq],fun pc i h=>by simp[pq] at h,fun v h=>by simp[pq] at h,fun r s h=>by simp[pq] at h⟩
theorem sk {ls:List (List dM)} (hl:ls.length≤8) (hcl:(bB ls).code.length≤400):bz (pq (bB ls).code (bB ls).aw):=by
 by_cases he:(bB ls).e=0
 ·exact(yx hl he hcl).1
 ·rw[(oP he).1,(oP he).2];exact xU
theorem Bc {s0:St} {x:D} {ps:List (List UInt8)} (hx:V.Rows s0 1 x (ps.map AA)) (hl:ps.length≤1048576) (hb:∀b∈ps,b.length≤1048576):∃d,Ev pv 27 [x] s0 d s0∧∃(p:Pg) (ok:Bool),d=.tup [p.d,.bool ok]∧p.ok∧bz p:=by
 refine Ev.Dc rfl Yf rfl rfl rfl ?_;dsimp only[u3,u4,List.length,Nat.reduceSub,Nat.reduceAdd,w1,w2];obtain⟨bT,hF,hH⟩:=ri s0;generalize ag .ro s0=S at*;have hx:=Arg.of hx bT;refine qq<|qj fun K hK=>qa hH fun k2 st hk2 hH=>?_;refine qm ?_;refine qe hK<|qq<|qj fun K hK=>qm ?_;refine qe hK<|qq<|qq<|qj fun K hK=>qm ?_;refine qe hK ?_;have hH:Has s0.bs.length S st (.aP .nul 1 (([]:List (List dM)).map eu)::.box k2 (.mem 0 false [.nul,.nul])::[]):=hH.d_ 1;refine ab.block<|ab.loop (fun mm fr st=>∃(i:Nat) (ld:D) (parts:List (List dM)),fr.clean=⟨11,[x,l7 fr 1,.ptr k2 0 0,.bool false,ld,.int .i64 (i:Nat),l7 fr 6,l7 fr 7,l7 fr 8,l7 fr 9,l7 fr 10],[]⟩∧Has s0.bs.length S st [.aP ld 1 (parts.map eu),.box k2 (.mem 0 false [.nul,.nul])]∧(i+mm=8)∧(∀l∈parts,(∀n∈l,vc n)∧l.length≤500)∧(parts.length≤i)) (8) ?_ ?_
 ·exact⟨0,.nul,[],rfl,hH,by omega,fun l hl=>(by cases hl),by simp⟩
 rintro mm fr st ⟨i,ld,parts,hfr,hH,hi,hp,iq⟩;rw[hfr];clear hfr;generalize l7 fr=ee;clear fr;refine qq<|qq<|ab.kB 19 (.bool (decide (((i:Nat):Int)<((ps.length:Nat):Int)) &&decide (((i:Nat):Int)<8))) [] ?_ (fun ff tmp hU=>?_)
 ·refine qm ?_;refine qm ?_;refine qn ?_;simp only[List.length_map];refine qg ?_;refine qm ?_;refine aa.two 16 rfl (fun fg=>?_) (fun fg=>?_)
  ·refine qm ?_ (hg:=wi fg);refine qg ?_ (hg:=wi fg);refine qt fg ?_;refine aa.nil (c_ ?_ ?_)
   ·dsimp only[aR,List.foldl,nth,u2,u1]
    all_goals(first|rfl|simp)
   ·dsimp only[Fr.aj,Fr.put,Fr.clean,Fr.ev,Fr.get,nth,V.look,u1,u2,v1,v2,v3,v4,v5,v6,v7,List.length,u3,u4,Nat.reduceSub,Nat.reduceAdd,List.map]
    all_goals(simp_all;done)
  ·refine qs ?_ (hg:=wn fg);refine qs ?_ (hg:=wn fg);refine qu fg ?_;refine aa.nil (c_ ?_ ?_)
   ·dsimp only[aR,List.foldl,nth,u2,u1]
    all_goals(first|rfl|simp)
   ·dsimp only[Fr.aj,Fr.put,Fr.clean,Fr.ev,Fr.get,nth,V.look,u1,u2,v1,v2,v3,v4,v5,v6,v7,List.length,u3,u4,Nat.reduceSub,Nat.reduceAdd,List.map]
    all_goals(simp_all;omega)
 dsimp only[aR,List.foldl,nth,u2,u1];dsimp only[Fr.aj,Fr.put,Fr.clean,Fr.ev,Fr.get,nth,V.look,u1,u2,v1,v2,v3,v4,v5,v6,v7,List.length,u3,u4,Nat.reduceSub,Nat.reduceAdd,List.map]
 by_cases hlt:i<ps.length∧i<8
 ·obtain⟨b,QK⟩:∃b,ps[i]?=some b:=⟨ps[i]'hlt.1,List.getElem?_eq_getElem _⟩
  have gJ:=E7 QK;have hbl:=hb b (List.mem_of_getElem? QK);have nv:(decide (((i:Nat):Int)<((ps.length:Nat):Int)) &&decide (((i:Nat):Int)<8))=true:=by rw[Bool.and_eq_true,decide_eq_true_eq,decide_eq_true_eq];omega
  rw[nv] at hU;refine qB ?_;refine ab.skip<|qq<|ab.block ?_;obtain⟨_,aK,l,e,w,rfl,hv,o4⟩:=CN (s0:=st) hbl;refine qq<|qj fun K hK=>qm ?_;refine qm ?_;refine qr fun Sb DG=>?_;refine qR ?_;refine qv (aK) ?_;refine qm ?_;refine qg ?_;refine qg ?_;refine qg ?_;refine qm ?_;refine qm ?_;refine qm ?_;refine qe hK<|qq<|qj fun K hK=>qm ?_;refine qg ?_;refine qe hK ?_;refine ab.cond (by rfl) (fun he=>?_) (fun he=>?_)<;>try simp only[beq_iff_eq,beq_eq_false_iff_ne,ne_eq] at he
  ·refine qj fun K hK=>qm ?_;refine qm ?_;refine qh (s:=1) (vs:=[_]) hH fun k35 st aaZ hH=>?_;refine aa.bO (s:=1) hH rfl (ev rfl) (ev rfl) (by exact bF) (by exact hH.rows (by exact aB)) rfl rfl rfl rfl rfl rfl rfl ⟨(Nat.le_of_ble_eq_true rfl),(Nat.le_of_ble_eq_true rfl)⟩ (fun _=>(ah rfl _)) (by simp only[List.length_cons,List.length_nil,List.length_map]<;>omega) (by exact .inl hF) (fun x36 st hH=>?_);dsimp only[u2,u1,u3,u4,setMany,u5,u6,D.cells,Nat.reduceAdd,eu,oQ,Pg.d,Pg.cs,pq] at hH;refine qm ?_;refine qe hK ?_;have hH:=hH.drop 1;refine qj fun K hK=>qm ?_;refine qA ?_;refine qm ?_;refine qe hK ?_;refine⟨mm-1,by omega,⟨i+1,x36,parts++[l],rfl,(by rw[List.map_append];exact hH),by omega,?_,by rw[List.length_append];simp only[List.length_cons,List.length_nil];omega⟩⟩;intro l' ir
   rcases List.mem_append.1 ir with ir|ir
   ·exact hp l' ir
   ·simp only[List.mem_cons,List.not_mem_nil,or_false] at ir;subst ir;exact⟨hv,o4⟩
  ·refine ab.skip<|qj fun K hK=>qm ?_;refine qA ?_;refine qm ?_;refine qe hK ?_;exact⟨mm-1,by omega,⟨i+1,ld,parts,rfl,hH,by omega,hp,by omega⟩⟩
 ·have nv:(decide (((i:Nat):Int)<((ps.length:Nat):Int)) &&decide (((i:Nat):Int)<8))=false:=by
   rw[Bool.and_eq_false_iff,decide_eq_false_iff_not,decide_eq_false_iff_not];omega
  rw[nv] at hU;refine qC ?_;refine ab.exit ?_;obtain⟨aK,bc,hlen⟩:=y8 hp (by omega) (hH.rows aB);have hR:=sk (ls:=parts) (by omega) hlen;generalize bB parts=R at*;refine qq<|qj fun K hK=>qm ?_;refine qv (aK) ?_;refine qm ?_;refine qg ?_;refine qg ?_;refine qg ?_;refine qa hH fun k9 st U2 hH=>?_;refine qS hH aB fun st hH=>?_;dsimp only[u2,u1,u3,u4,setMany,u5,u6,D.cells,Nat.reduceAdd,eu,oQ,Pg.d,Pg.cs,pq] at hH;refine qm ?_;refine qm ?_;refine qe hK<|qq<|qj fun K hK=>?_;refine aa.aT (m:=2) hH rfl (ev rfl) (by exact aB) (by dsimp only[List.drop_succ_cons,List.drop_zero,List.take_succ_cons,List.take_zero,eu,oQ,Pg.d,Pg.cs,pq]<;>rfl) rfl rfl (ah rfl _) ?_;refine qm ?_;refine qg ?_;refine qS hH dL fun st hH=>?_;dsimp only[u2,u1,u3,u4,setMany,u5,u6,D.cells,Nat.reduceAdd,eu,oQ,Pg.d,Pg.cs,pq] at hH;refine qm ?_;refine qe hK<|ab.ret ⟨rx,_,_,hH.kM rfl dL rfl rfl,rl bT hH (show _=some (D.tup [(pq R.code R.aw).d,.bool (R.e==0)]) from rfl),⟨_,_,rfl,bc,hR⟩⟩
end Go.Proofs.YtbdnabmmlbiomaaGreat
namespace Go.V
open Go.RowKit
def n3 {H:Type}:DataW H→Bool
 | .agg _=>true
 |_=>false
mutual
def vb {H:Type}:DataW H→List D
 | .lit (.bool b)=>[.bool b]
 | .lit (.int k n)=>[.int k n]
 | .lit (.string l)=>[.str l]
 | .lit _=>[.bp]
 | .nil=>[.nul]
 | .slice elems _=>[.sl (uN elems)]
 | .agg parts=>lj parts
 | .ptr _=>[.bp]
 | .iface _ _=>[.bp]
 | .map _=>[.bp]
 | .held _=>[.bp]
def uN {H:Type}:List (DataW H)→List D
 |[]=>[]
 |d::r=>(if n3 d then .agg (vb d) else(vb d).headD .bp)::uN r
def lj {H:Type}:List (DataW H)→List D
 |[]=>[]
 |d::r=>vb d++lj r
end
def iV {H:Type} (d:DataW H):D:=if n3 d then .agg (vb d) else(vb d).headD .bp
theorem rv {H:Type}:∀l:List (DataW H),uN l=l.map iV
 |[]=>rfl
 |d::r=>by simp only[uN,List.map_cons,rv r];rfl
def rz (P:Program):Nat→List Field→Option Nat
 |o,[]=>some o
 |o,f::fs=>if f.offset=o then rz P (o+P.cellsOf f.type) fs else none
def KF (P:Program):Nat→TypeId→Bool
 |0,_=>false
 |n+1,t=>match P.underlying t with
  |some .bool=>true
  |some (.int _)=>true
  |some .string=>true
  |some (.slice e)=>KF P n e &&decide (0<P.cellsOf e)
  |some (.struct fs)=>(rz P 0 fs.toList==some (P.cellsOf t)) &&fs.toList.all fun f=>KF P n f.type
  |some (.array m e)=>KF P n e &&(P.cellsOf t==m*P.cellsOf e)
  |_=>false
structure CR (w:World) (Z:Nat→Prop) (cs:List D) (vs:List Value):Prop where
 len:cs.length=vs.length
 one:∀v∈vs,v.oneCell'=true
 onec:∀c∈cs,c.cells?=some [c]
 rel:∀(i:Nat) c v,cs[i]?=some c→vs[i]?=some v→IR w Z c v
theorem CR.nil {w:World} {Z:Nat→Prop}:CR w Z [] []:=⟨rfl,by simp,by simp,by simp⟩
theorem CR.single {w:World} {Z:Nat→Prop} {c:D} {v:Value} (h:IR w Z c v) (h1:v.oneCell'=true) (h2:c.cells?=some [c]):CR w Z [c] [v]:=
 ⟨rfl,by simpa using h1,by simpa using h2,fun i c' v' hc hv=>by
  cases i with
  |zero=>simp at hc hv;subst hc;subst hv;exact h
  |succ i=>simp at hc⟩
theorem CR.append {w:World} {Z:Nat→Prop} {cs cs':List D} {vs RJ:List Value} (h:CR w Z cs vs) (g:CR w Z cs' RJ):CR w Z (cs++cs') (vs++RJ):=by
 refine⟨by simp[h.len,g.len],fun v hv=>?_,fun c hc=>?_,fun i c v hc hv=>?_⟩
 ·rcases List.mem_append.1 hv with hv|hv
  ·exact h.one v hv
  ·exact g.one v hv
 ·rcases List.mem_append.1 hc with hc|hc
  ·exact h.onec c hc
  ·exact g.onec c hc
 ·rw[List.getElem?_append] at hc hv;have:=h.len
  split at hc
  ·rw[if_pos (by omega)] at hv;exact h.rel i c v hc hv
  ·rw[if_neg (by omega)] at hv;rw[←this] at hv;exact g.rel _ c v hc hv
theorem vQ {H:Type} {P:Program} {w:World} {Z:Nat→Prop} {f:Field→Option (DataW H×List MemPlace)} {cs:List Value}:∀{fs:List Field} {o e:Nat} {xs:List (DataW H×List MemPlace)},rz P o fs=some e→e≤cs.length→fs.mapM f=some xs→
  (∀g∈fs,∀x,f g=some x→CR w Z (vb x.1) ((cs.drop g.offset).take (P.cellsOf g.type)))→CR w Z (lj (xs.map (·.1))) ((cs.drop o).take (e-o))∧o≤e
 |[],o,e,xs,hc,_,hm,_=>by
  simp[rz] at hc;subst hc;simp at hm;subst hm;simp[lj];exact CR.nil
 |g::fs,o,e,xs,hc,he,hm,hx=>by
  simp only[rz] at hc
  split at hc
  ·rename_i ho;rw[List.mapM_cons] at hm
   cases h1:f g with
   |none=>rw[h1] at hm;simp at hm
   |some x=>
    rw[h1] at hm
    cases h2:fs.mapM f with
    |none=>rw[h2] at hm;simp at hm
    |some ys=>
     rw[h2] at hm;simp at hm;subst hm;obtain⟨ih,hle⟩:=vQ hc he h2 fun g' hg'=>hx g' (List.mem_cons_of_mem _ hg');have hg:=hx g (List.mem_cons_self ..) x h1;rw[ho] at hg;refine⟨?_,by omega⟩;simp only[List.map_cons,lj]
     have:(cs.drop o).take (e-o)=(cs.drop o).take (P.cellsOf g.type)++(cs.drop (o+P.cellsOf g.type)).take (e-(o+P.cellsOf g.type)):=by
      rw[←List.drop_drop,show e-o=P.cellsOf g.type+(e-(o+P.cellsOf g.type)) by omega,List.take_add]
     rw[this];exact hg.append ih
  ·cases hc
theorem w7 {H:Type} {w:World} {Z:Nat→Prop} {s:Nat} {f:Nat→Option (DataW H×List MemPlace)} {cs:List Value}:∀{m k:Nat} {xs:List (DataW H×List MemPlace)},(List.range' k m).mapM f=some xs→(k+m)*s≤cs.length→
  (∀i x,f i=some x→CR w Z (vb x.1) ((cs.drop (i*s)).take s))→CR w Z (lj (xs.map (·.1))) ((cs.drop (k*s)).take (m*s))
 |0,k,xs,hm,_,_=>by simp at hm;subst hm;simp[lj];exact CR.nil
 |m+1,k,xs,hm,hl,hx=>by
  rw[List.range'_succ,List.mapM_cons] at hm
  cases h1:f k with
  |none=>rw[h1] at hm;simp at hm
  |some x=>
   rw[h1] at hm
   cases h2:(List.range' (k+1) m).mapM f with
   |none=>rw[h2] at hm;simp at hm
   |some ys=>
    rw[h2] at hm;simp at hm;subst hm;have ih:=w7 h2 (by rw[show k+1+m=k+(m+1) by omega];exact hl) hx;simp only[List.map_cons,lj];rw[show(m+1)*s=s+m*s by rw[Nat.add_mul];omega,List.take_add,List.drop_drop,show k*s+s=(k+1)*s by rw[Nat.add_mul];omega];exact(hx k x h1).append ih
theorem cells_one {c:D} (h:c.cells?=some [c]):c.cells=[c]:=by
 cases c<;>first|rfl|cases h|(simp only[D.cells?,Option.some.injEq] at h;simpa only[D.cells] using h)
theorem xu (b off n:Nat):(⟨b,off,none⟩:Addr).add n=⟨b,off+n,none⟩:=by
 cases n<;>simp[Addr.add]
theorem o_ {H:Type} {enc:TypeId×Value→H} {P:Program} {w:World} {spare:Nat→Bool} {held:Bool}:∀(fuel:Nat) (t:TypeId) (cs:List Value) (d:DataW H) (ps:List MemPlace) (n:Nat),DataW.trod enc P w 0 spare held fuel t cs=some (d,ps)→KF P n t=true→
  CR w (fun b=>b<w.heap.size) (vb d) cs∧cs.length=(match P.underlying t with|some (.struct _)|some (.array _ _)=>P.cellsOf t|_=>1)∧(n3 d=(match P.underlying t with|some (.struct _)|some (.array _ _)=>true|_=>false))
 |0,t,cs,d,ps,n,h,_=>by simp[DataW.trod] at h
 |fuel+1,t,cs,d,ps,0,h,ht=>by simp[KF] at ht
 |fuel+1,t,cs,d,ps,n+1,h,ht=>by
  simp only[KF] at ht;unfold DataW.trod at h
  cases hu:P.underlying t with
  |none=>rw[hu] at ht;simp at ht
  |some u=>
   rw[hu] at h ht
   cases u with
   |bool=>
    rcases cs with _|⟨v,_|⟨v2,cs⟩⟩<;>try(simp at h;done)
    cases v<;>simp at h
    obtain⟨rfl,rfl⟩:=h;exact⟨CR.single (.bool _) rfl rfl,rfl,rfl⟩
   |int k=>
    rcases cs with _|⟨v,_|⟨v2,cs⟩⟩<;>try(simp at h;done)
    cases v<;>simp at h
    obtain⟨⟨rfl,_⟩,rfl,rfl⟩:=h;exact⟨CR.single (.int _ _) rfl rfl,rfl,rfl⟩
   |string=>
    rcases cs with _|⟨v,_|⟨v2,cs⟩⟩<;>try(simp at h;done)
    cases v<;>simp at h
    rename_i b;obtain⟨_,rfl,rfl⟩:=h;refine⟨CR.single ?_ rfl rfl,rfl,rfl⟩;have:=IR.str (w:=w) (Z:=fun b=>b<w.heap.size) b.data.toList
    simpa using this
   |slice e=>
    simp only[Bool.and_eq_true,decide_eq_true_eq] at ht
    rcases cs with _|⟨v,_|⟨v2,cs⟩⟩<;>try(simp at h;done)
    cases v<;>try(simp at h;done)
    rename_i a len cap
    cases a with
    |none=>
     cases len<;>cases cap<;>simp at h
     obtain⟨rfl,rfl⟩:=h;exact⟨CR.single .nul rfl rfl,rfl,rfl⟩
    |some a=>
     simp only at h
     split at h
     ·rename_i hc;simp only[Option.bind_eq_some_iff,Option.map_eq_some_iff] at h;obtain⟨elems,he,rest,hr,hd⟩:=h;cases hd;refine⟨?_,rfl,rfl⟩;have hlen:elems.length=len:=by simpa using mapM_some_length he
      have hget:=mapM_some_get he
      have each:∀(i:Nat),i<len→∃x cs,elems[i]?=some x∧w.cells? 0 (a.add (i*P.cellsOf e)) (P.cellsOf e)=some cs∧CR w (fun b=>b<w.heap.size) (vb x.1) cs∧cs.length=P.cellsOf e∧(n3 x.1=(match P.underlying e with|some (.struct _)|some (.array _ _)=>true|_=>false))∧cs.length=(match P.underlying e with|some (.struct _)|some (.array _ _)=>P.cellsOf e|_=>1):=by
       intro i hi;have h1:=hget i i (by simp[hi]);have h2:elems[i]?=some (elems[i]'(by omega)):=List.getElem?_eq_getElem _;rw[h2] at h1;obtain⟨cs,h_,hx⟩:=Option.bind_eq_some_iff.1 h1;obtain⟨q1,q2,q3⟩:=o_ fuel e cs _ _ n hx ht.1;exact⟨_,cs,h2,h_,q1,(World.cells?_some h_).2.1,q3,q2⟩
      refine CR.single ?_ rfl rfl
      cases len with
      |zero=>
       have:elems=[]:=by cases elems with|nil=>rfl|cons _ _=>simp at hlen
       subst this;exact .emp _ _
      |succ m=>
       have Zk:a.spot=none∧a.block<w.heap.size:=by
        obtain⟨x,cs,_,h2,_,_⟩:=each 0 (by omega);refine⟨?_,?_⟩
        ·have:=(World.cells?_some h2).2.2 0 ht.2;have hl:=(World.cells?_some h2).2.1
         obtain⟨c0,TH⟩:∃c0,cs[0]?=some c0:=⟨cs[0]'(by omega),List.getElem?_eq_getElem _⟩
         rw[TH] at this
         simpa[Addr.add] using World.cell?_spot this
        ·simpa[Addr.add] using World.cells?_block h2 ht.2
       obtain⟨b,off,spot⟩:=a;simp only at Zk;obtain⟨rfl,hb⟩:=Zk
       have hcell:∀(i j:Nat),i<m+1→j<P.cellsOf e→∃x cs v,elems[i]?=some x∧cs[j]?=some v∧w.cell? ⟨b,off+(i*P.cellsOf e+j),none⟩=some v∧CR w (fun b=>b<w.heap.size) (vb x.1) cs:=by
        intro i j hi hj;obtain⟨x,cs,h1,h2,h3,h4,_⟩:=each i hi;have:=(World.cells?_some h2).2.2 j hj
        obtain⟨v,hv⟩:∃v,cs[j]?=some v:=⟨cs[j]'(by omega),List.getElem?_eq_getElem _⟩
        rw[hv] at this;refine⟨x,cs,v,h1,hv,?_,h3⟩;rw[←this,xu,xu,Nat.add_assoc]
       have uC:(uN (elems.map (·.1)))=elems.map fun x=>iV x.1:=by rw[rv,List.map_map];rfl
       have hE:∀(i:Nat) q,(uN (elems.map (·.1)))[i]?=some q→∃x cs,i<m+1∧elems[i]?=some x∧q.cells?=some q.cells∧q.cells=vb x.1∧CR w (fun b=>b<w.heap.size) (vb x.1) cs∧cs.length=P.cellsOf e:=by
        intro i q hq;rw[uC,List.getElem?_map] at hq;obtain⟨x,hx,rfl⟩:=Option.map_eq_some_iff.1 hq
        have hi:i<m+1:=by
         rcases Nat.lt_or_ge i (m+1) with h'|h'
         ·exact h'
         ·rw[List.getElem?_eq_none (by omega)] at hx;cases hx
        obtain⟨x',cs,h1,h2,h3,h4,h5,h6⟩:=each i hi;rw[hx] at h1;cases h1;refine⟨x,cs,hi,hx,?_,?_,h3,h4⟩
        ·unfold iV
         split
         ·rfl
         ·rename_i Qn
          have rS:(vb x.1).length=1:=by
           rw[h3.len,h6];rw[h5] at Qn
           revert Qn
           split<;>simp
          match hd:vb x.1,rS with
          |[c],_=>have:=h3.onec c (by rw[hd];simp);simp only[List.headD_cons];rw[cells_one this];exact this
        ·unfold iV
         split
         ·rfl
         ·rename_i Qn
          have rS:(vb x.1).length=1:=by
           rw[h3.len,h6];rw[h5] at Qn
           revert Qn
           split<;>simp
          match hd:vb x.1,rS with
          |[c],_=>have:=h3.onec c (by rw[hd];simp);simp only[List.headD_cons];exact cells_one this
       have hL:(uN (elems.map (·.1))).length=m+1:=by rw[uC];simp[hlen]
       have hf:=fun(i j:Nat) (hi:i<m+1) (hj:j<P.cellsOf e)=>hcell i j hi hj;have:=IR.sl (w:=w) (Z:=fun b=>b<w.heap.size) (uN (elems.map (·.1))) b off cap (P.cellsOf e) (fun i j=>(w.cell? ⟨b,off+(i*P.cellsOf e+j),none⟩).getD undef) hb (by rw[hL];exact hc.2.1)
        (fun i q hq=>by
         obtain⟨x,cs,h1,h2,h3,h4,h5,h6⟩:=hE i q hq
         exact⟨h3,by rw[h4,h5.len,h6]⟩)
        (fun i q j c hq hj=>by
         obtain⟨x,cs,h1,h2,h3,h4,h5,h6⟩:=hE i q hq
         have jq:j<P.cellsOf e:=by
          rcases Nat.lt_or_ge j (P.cellsOf e) with h'|h'
          ·exact h'
          ·rw[h4,List.getElem?_eq_none (by rw[h5.len,h6];exact h')] at hj;cases hj
         obtain⟨x',cs',v,g1,g2,g3,g4⟩:=hf i j h1 jq;rw[g3]
         exact⟨rfl,g4.one v (List.mem_of_getElem? g2)⟩)
        (fun i q j c hq hj=>by
         obtain⟨x,cs,h1,h2,h3,h4,h5,h6⟩:=hE i q hq
         have jq:j<P.cellsOf e:=by
          rcases Nat.lt_or_ge j (P.cellsOf e) with h'|h'
          ·exact h'
          ·rw[h4,List.getElem?_eq_none (by rw[h5.len,h6];exact h')] at hj;cases hj
         obtain⟨x',cs',v,g1,g2,g3,g4⟩:=hf i j h1 jq;rw[g3];rw[h2] at g1;cases g1
         exact g4.rel j c v (by rw[←h4];exact hj) g2)
       rw[hL] at this;exact this
     ·cases h
   |struct fs=>
    simp only[Bool.and_eq_true,beq_iff_eq,List.all_eq_true] at ht;simp only at h
    split at h
    ·rename_i hl;obtain⟨xs,hx,hd⟩:=Option.map_eq_some_iff.1 h;cases hd;refine⟨?_,hl,rfl⟩;obtain⟨h1,_⟩:=vQ (w:=w) (Z:=fun b=>b<w.heap.size) (cs:=cs) ht.1 (by omega) hx fun g hg x hgx=>(o_ fuel g.type _ _ _ n hgx (ht.2 g hg)).1;rw[List.drop_zero,Nat.sub_zero,←hl,List.take_length] at h1;exact h1
    ·cases h
   |array m e=>
    simp only[Bool.and_eq_true,beq_iff_eq] at ht;simp only at h
    split at h
    ·rename_i hl;obtain⟨xs,hx,hd⟩:=Option.map_eq_some_iff.1 h;cases hd;refine⟨?_,hl,rfl⟩;rw[List.range_eq_range'] at hx;have h1:=w7 (w:=w) (Z:=fun b=>b<w.heap.size) (s:=P.cellsOf e) (cs:=cs) hx (by rw[Nat.zero_add,←ht.2,hl];exact Nat.le_refl _) fun i x Zz=>(o_ fuel e _ _ _ n Zz ht.1).1;rw[Nat.zero_mul,List.drop_zero,←ht.2,←hl,List.take_length] at h1;exact h1
    ·cases h
   |_=>simp at ht
theorem zu {H:Type} {enc:TypeId×Value→H} {P:Program} {w:World} {spare:Nat→Bool} {held:Bool} {r:Reach} {base:Nat} {t:TypeId} {v:Value} {d:DataW H} {ps:List MemPlace} {n:Nat} (h:DataW.Trod enc P w 0 spare held t v d ps) (ht:KF P n t=true) (hv:Value.okWide P w r base t v):
  IR w (fun b=>b<w.heap.size) (iV d) v:=by
 obtain⟨fuel,hf⟩:=h;obtain⟨h1,h2,h3⟩:=o_ fuel t _ d ps n hf ht
 have hu:∃u,P.underlying t=some u:=by
  cases n with
  |zero=>simp[KF] at ht
  |succ n=>
   simp only[KF] at ht
   cases hu:P.underlying t with
   |none=>rw[hu] at ht;simp at ht
   |some u=>exact⟨u,rfl⟩
 obtain⟨u,hu⟩:=hu;unfold Value.okWide at hv;rw[hu] at hv h2 h3
 have TL:(∃cs:Array Value,v=.agg cs)→n3 d=true→IR w (fun b=>b<w.heap.size) (iV d) v:=by
  rintro⟨cs,rfl⟩ hd;unfold iV;rw[if_pos hd];have:=IR.agg (w:=w) (Z:=fun b=>b<w.heap.size) (vb d) cs.toList (by simpa[Value.cells] using h1.len) (by simpa[Value.cells] using h1.one) (by simpa[Value.cells] using h1.rel)
  simpa using this
 have ke:n3 d=false→v.cells.toList.length=1→(∀cs,v≠.agg cs)→IR w (fun b=>b<w.heap.size) (iV d) v:=by
  intro hd hl Qn;unfold iV;rw[if_neg (by rw[hd];simp)]
  have hc:v.cells.toList=[v]:=by cases v<;>first|rfl|exact absurd rfl (Qn _)
  rw[hc] at h1
  match hq:vb d,h1.len with
  |[c],_=>exact h1.rel 0 c v (by rw[hq];rfl) rfl
 have hcell:Cell.okWide P w r base t v→∀cs,v≠.agg cs:=by
  rintro hc cs rfl;unfold Cell.okWide at hc;rw[hu] at hc;cases u<;>simp[Cell.ok,hu] at hc
 cases u with
 |struct fs=>obtain⟨cs,h,_⟩:=hv;exact TL ⟨cs,h⟩ h3
 |array m e=>obtain⟨cs,h,_⟩:=hv;exact TL ⟨cs,h⟩ h3
 |_=>exact ke h3 h2 (hcell hv)
end Go.V
namespace Go.V
open Go.RowKit
theorem wf_u8 {n:Int} (h:(Lit.int .u8 n).wf=true):∃y:UInt8,n=(y.toNat:Nat):=by
 have:0≤n∧n≤255:=by simpa[Lit.wf,IntKind.min,IntKind.max,IntKind.signed,IntKind.bits] using h
 refine⟨UInt8.ofNat n.toNat,?_⟩;rw[show(UInt8.ofNat n.toNat).toNat=n.toNat %256 from rfl];omega
theorem Be {pv:Pv} {P:Program} (h:pv.Ok P∧pv.jc∧ie P pv (eI pv)) {f:Nat} {ds:List D} {ai:St} (hs:Ev pv f ds ⟨[],0,0⟩ (.bool true) ai) {w:World} {us:List Value} (hl:ds.length=us.length)
  (hr:∀(i:Nat) c v,ds[i]?=some c→us[i]?=some v→IR w (fun b=>b<w.heap.size) c v):Calls P f us.toArray w fun e w'=>e=.returned (.bool true)∧Below w.heap.size w w':=by
 obtain⟨N,hN⟩:=Ev.out hs;refine(sound h (hN N (Nat.le_refl _)) (w:=w) (Z:=fun b=>b<w.heap.size) (fun _ h=>h) hl hr).mono fun e w'=>?_;rintro⟨v,β',Z',rfl,he,hv⟩;rw[eo hv];exact⟨rfl,⟨he.os,he.tape,he.output,he.size,fun k hk=>he.block k hk fun f=>f⟩⟩
end Go.V
namespace Go.V
open Go.RowKit
def Rd {H:Type} (enc:TypeId×Value→H) (P:Program) (w:World) (spare:Nat→Bool) (held:Bool) (t:TypeId) (d:DataW H):Prop:=
 ∃fuel cs ps,DataW.trod enc P w 0 spare held fuel t cs=some (d,ps)
section
variable{H:Type} {enc:TypeId×Value→H} {P:Program} {w:World} {spare:Nat→Bool} {held:Bool} {t e:TypeId} {d:DataW H}
theorem Rd.of {v:Value} {ps:List MemPlace} (h:DataW.Trod enc P w 0 spare held t v d ps):Rd enc P w spare held t d:=by
 obtain⟨fuel,h⟩:=h;exact⟨fuel,_,_,h⟩
theorem Rd.int {k:IntKind} (h:Rd enc P w spare held t d) (ht:P.underlying t=some (.int k)):∃n:Int,d=.lit (.int k n)∧(Lit.int k n).wf=true:=by
 obtain⟨fuel,cs,ps,h⟩:=h
 cases fuel with
 |zero=>simp[DataW.trod] at h
 |succ fuel=>
  unfold DataW.trod at h;rw[ht] at h
  rcases cs with _|⟨v,_|⟨v2,cs⟩⟩<;>try(simp at h;done)
  cases v<;>simp at h
  obtain⟨⟨rfl,hw⟩,rfl,_⟩:=h;exact⟨_,rfl,hw⟩
theorem Rd.bool (h:Rd enc P w spare held t d) (ht:P.underlying t=some .bool):∃b:Bool,d=.lit (.bool b):=by
 obtain⟨fuel,cs,ps,h⟩:=h
 cases fuel with
 |zero=>simp[DataW.trod] at h
 |succ fuel=>
  unfold DataW.trod at h;rw[ht] at h
  rcases cs with _|⟨v,_|⟨v2,cs⟩⟩<;>try(simp at h;done)
  cases v<;>simp at h
  obtain⟨rfl,_⟩:=h;exact⟨_,rfl⟩
theorem Rd.string (h:Rd enc P w spare held t d) (ht:P.underlying t=some .string):∃l:List UInt8,d=.lit (.string l):=by
 obtain⟨fuel,cs,ps,h⟩:=h
 cases fuel with
 |zero=>simp[DataW.trod] at h
 |succ fuel=>
  unfold DataW.trod at h;rw[ht] at h
  rcases cs with _|⟨v,_|⟨v2,cs⟩⟩<;>try(simp at h;done)
  cases v<;>simp at h
  obtain⟨_,rfl,_⟩:=h;exact⟨_,rfl⟩
theorem Rd.slice (h:Rd enc P w spare held t d) (ht:P.underlying t=some (.slice e)):d=.nil∨∃elems rest,d=.slice elems rest∧∀x∈elems,Rd enc P w spare held e x:=by
 obtain⟨fuel,cs,ps,h⟩:=h
 cases fuel with
 |zero=>simp[DataW.trod] at h
 |succ fuel=>
  unfold DataW.trod at h;rw[ht] at h
  rcases cs with _|⟨v,_|⟨v2,cs⟩⟩<;>try(simp at h;done)
  cases v<;>try(simp at h;done)
  rename_i a len cap
  cases a with
  |none=>
   cases len<;>cases cap<;>simp at h
   obtain⟨rfl,rfl⟩:=h;exact .inl rfl
  |some a=>
   simp only at h
   split at h
   ·simp only[Option.bind_eq_some_iff,Option.map_eq_some_iff] at h;obtain⟨elems,hm,rest,hr,hd⟩:=h;cases hd;refine .inr ⟨_,_,rfl,fun x hx=>?_⟩;obtain⟨y,hy,rfl⟩:=List.mem_map.1 hx;have hlen:elems.length=len:=by simpa using mapM_some_length hm
    have hget:=mapM_some_get hm;obtain⟨i,hi⟩:=List.getElem?_of_mem hy;have hil:i<len:=by have:=bH hi;omega
    have h1:=hget i i (by simp[hil]);rw[hi] at h1;obtain⟨cs,_,hx⟩:=Option.bind_eq_some_iff.1 h1;exact⟨fuel,cs,y.2,hx⟩
   ·cases h
theorem nR {α β:Type} {f:α→Option β}:∀{l:List α} {m:List β},l.mapM f=some m→cG (fun a b=>f a=some b) l m
 |[],m,h=>by simp at h;subst h;exact .nil
 |a::l,m,h=>by
  rw[List.mapM_cons] at h
  cases h1:f a with
  |none=>rw[h1] at h;simp at h
  |some b=>
   rw[h1] at h
   cases h2:l.mapM f with
   |none=>rw[h2] at h;simp at h
   |some ys=>rw[h2] at h;simp at h;subst h;exact .cons h1 (nR h2)
theorem cG.Sl {α β γ:Type} {R:α→γ→Prop} {f:β→γ}:∀{l:List α} {m:List β},cG (fun a b=>R a (f b)) l m→cG R l (m.map f)
 |_,_,.nil=>.nil
 |_,_,.cons a t=>.cons a t.Sl
theorem Rd.struct {fs:Array Field} (h:Rd enc P w spare held t d) (ht:P.underlying t=some (.struct fs)):∃parts,d=.agg parts∧cG (fun(f:Field) x=>Rd enc P w spare held f.type x) fs.toList parts:=by
 obtain⟨fuel,cs,ps,h⟩:=h
 cases fuel with
 |zero=>simp[DataW.trod] at h
 |succ fuel=>
  unfold DataW.trod at h;rw[ht] at h;simp only at h
  split at h
  ·obtain⟨xs,hx,hd⟩:=Option.map_eq_some_iff.1 h;cases hd;refine⟨_,rfl,?_⟩;exact((nR hx).mono fun f x hfx=>(⟨fuel,_,_,hfx⟩:Rd enc P w spare held f.type x.1)).Sl
  ·cases h
theorem Rd.array {n:Nat} (h:Rd enc P w spare held t d) (ht:P.underlying t=some (.array n e)):∃parts,d=.agg parts∧parts.length=n∧∀x∈parts,Rd enc P w spare held e x:=by
 obtain⟨fuel,cs,ps,h⟩:=h
 cases fuel with
 |zero=>simp[DataW.trod] at h
 |succ fuel=>
  unfold DataW.trod at h;rw[ht] at h;simp only at h
  split at h
  ·obtain⟨xs,hx,hd⟩:=Option.map_eq_some_iff.1 h;cases hd;have h1:=nR hx;refine⟨_,rfl,by have:=h1.len;simp at this;simp[←this],fun x VQ=>?_⟩;obtain⟨y,hy,rfl⟩:=List.mem_map.1 VQ
   have key:∀{l:List Nat} {m:List (DataW H×List MemPlace)},cG (fun i x=>DataW.trod enc P w 0 spare held fuel e ((cs.drop (i*P.cellsOf e)).take (P.cellsOf e))=some x) l m→∀y∈m,Rd enc P w spare held e y.1:=by
    intro l m h
    induction h with
    |nil=>intro y hy;cases hy
    |cons a t ih=>
     intro y hy
     rcases List.mem_cons.1 hy with rfl|hy
     ·exact⟨fuel,_,_,a⟩
     ·exact ih y hy
   exact key h1 y hy
  ·cases h
end
theorem LV {H α:Type} {s:Nat} {f:α→List D} {Q:α→DataW H→Prop} {elems rest:List (DataW H)} (h:∀x∈elems,∃a,(iV x).cells?=some (iV x).cells∧(iV x).cells=f a∧(f a).length=s∧Q a x):
  ∃ws:List α,eE (iV (.slice elems rest)) s (ws.map f)∧ws.length=elems.length∧∀a∈ws,∃x∈elems,Q a x:=by
 have key:∃ws:List α,(elems.map iV).map D.cells=ws.map f∧(∀d∈elems.map iV,d.cells?=some d.cells∧d.cells.length=s)∧ws.length=elems.length∧∀a∈ws,∃x∈elems,Q a x:=by
  induction elems with
  |nil=>exact⟨[],rfl,fun d hd=>(by cases hd),rfl,fun a ha=>by cases ha⟩
  |cons x l ih=>
   obtain⟨ws,h1,h2,h3,h4⟩:=ih fun y hy=>h y (List.mem_cons_of_mem _ hy);obtain⟨a,g1,g2,g3,g4⟩:=h x (List.mem_cons_self ..);refine⟨a::ws,by simp only[List.map_cons,h1,g2],fun d hd=>?_,by simp[h3],fun b hb=>?_⟩
   ·simp only[List.map_cons,List.mem_cons] at hd
    rcases hd with rfl|hd
    ·exact⟨g1,by rw[g2];exact g3⟩
    ·exact h2 d hd
   ·rcases List.mem_cons.1 hb with rfl|hb
    ·exact⟨x,List.mem_cons_self ..,g4⟩
    ·obtain⟨y,hy,hq⟩:=h4 b hb;exact⟨y,List.mem_cons_of_mem _ hy,hq⟩
 obtain⟨ws,h1,h2,h3,h4⟩:=key;refine⟨ws,.inr ⟨elems.map iV,?_,h1,h2⟩,h3,h4⟩;show D.sl (uN elems)=_;rw[rv]
end Go.V
namespace Go.Proofs.YtbdnabmmlbiomaaGreat
theorem En {H:Type} (d:DataW H):1≤Rows.uptoBulk d:=by
 cases d with
 |lit l=>cases l<;>simp[Rows.uptoBulk]
 |_=>simp[Rows.uptoBulk]
theorem xk {H:Type} (l:List (DataW H)):l.length≤Rows.uptoBulkAll l:=by
 induction l with
 |nil=>simp[Rows.uptoBulkAll]
 |cons x r ih=>have:=En x;simp only[Rows.uptoBulkAll,List.length_cons];omega
end Go.Proofs.YtbdnabmmlbiomaaGreat
namespace Go.Proofs.YtbdnabmmlbiomaaGreat
open Go.V Go Go.RowKit
variable{H:Type} {enc:TypeId×Value→H} {w:World} {spare:Nat→Bool} {held:Bool} {d:DataW H}
theorem Eo {H:Type} {l:List (DataW H)} {x:DataW H} (h:x∈l):Rows.uptoBulk x≤Rows.uptoBulkAll l:=by
 induction l with
 |nil=>cases h
 |cons y l ih=>
  simp only[Rows.uptoBulkAll]
  rcases List.mem_cons.1 h with rfl|h
  ·omega
  ·have:=ih h;omega
end Go.Proofs.YtbdnabmmlbiomaaGreat
namespace Go.Proofs.YtbdnabmmlbiomaaGreat
open Go.V Go Go.RowKit
variable{H:Type} {enc:TypeId×Value→H} {w:World} {spare:Nat→Bool} {held:Bool} {d:DataW H}
theorem Eu (h:Rd enc Tryz.prog w spare held 22 d):∃(y:D) (ps:List (List UInt8)),iV d=y∧eE y 1 (ps.map AA)∧(Rows.uptoBulk d≤1048576→ps.length≤1048576∧∀b∈ps,b.length≤1048576):=by
 rcases h.slice Tryz.underlying22 with rfl|⟨elems,rest,rfl,he⟩
 ·exact⟨_,[],rfl,.inl ⟨rfl,rfl⟩,fun _=>⟨by simp,fun b hb=>(by cases hb)⟩⟩
 ·obtain⟨l,h1,h2,h3⟩:=LV (s:=1) (f:=AA) (Q:=fun(b:List UInt8) x=>b.length≤Rows.uptoBulk x) (rest:=rest) fun x hx=>by
   obtain⟨b,rfl⟩:=(he x hx).string Tryz.underlying9;refine⟨b,rfl,rfl,rfl,?_⟩;simp only[Rows.uptoBulk];omega
  refine⟨_,l,rfl,h1,fun hb=>⟨?_,fun b ez=>?_⟩⟩
  ·have:=xk elems;simp only[Rows.uptoBulk] at hb;omega
  ·obtain⟨x,hx,h4⟩:=h3 b ez;have:=Eo hx;simp only[Rows.uptoBulk] at hb;omega
end Go.Proofs.YtbdnabmmlbiomaaGreat
namespace Go.Proofs.YtbdnabmmlbiomaaGreat
open Go.V Go
def cX (c:Nat):Nat:=if c<128 then 1 else if c<194 then 0 else if c<224 then 2 else if c<240 then 3 else if c<245 then 4 else 0
theorem zO (c : Nat) (st : St) : Ev pv 135 [.int .u8 c] st (.int .i64 (cX c : Nat)) st := by
 refine Ev.iS rfl Uk rfl rfl rfl ?_;dsimp only [u3, u4, List.length, Nat.reduceSub, Nat.reduceAdd, w1, w2];unfold cX
 repeat' split
 ·(repeat (first | refine xT ?_ | refine xL ?_ | refine xN ?_ | refine xo ?_ | refine xp ?_ | (refine aa.nil ?_; try dsimp only [Fr.aj, Fr.put, Fr.clean, Fr.ev, Fr.get, nth, V.look, u1, u2, v1, v2, v3, v4, v5, v6, v7, List.length, u3, u4, Nat.reduceSub, Nat.reduceAdd, List.map]) | refine qq ?_ | refine ab.br ?_ | refine ab.cond (v := true) rfl (fun _ => ?_) (fun h => by cases h) | refine ab.cond (v := false) rfl (fun h => by cases h) (fun _ => ?_) | refine ab.skip ?_ | refine ab.block ?_ | simp (disch := omega) only [decide_eq_true, decide_eq_false, bE, b8, bD, b7]));refine ab.ret ⟨rx, _, rfl, aJ (by simp) (by simp [ag]) ?_⟩
  rfl
 ·(repeat (first | refine xT ?_ | refine xL ?_ | refine xN ?_ | refine xo ?_ | refine xp ?_ | (refine aa.nil ?_; try dsimp only [Fr.aj, Fr.put, Fr.clean, Fr.ev, Fr.get, nth, V.look, u1, u2, v1, v2, v3, v4, v5, v6, v7, List.length, u3, u4, Nat.reduceSub, Nat.reduceAdd, List.map]) | refine qq ?_ | refine ab.br ?_ | refine ab.cond (v := true) rfl (fun _ => ?_) (fun h => by cases h) | refine ab.cond (v := false) rfl (fun h => by cases h) (fun _ => ?_) | refine ab.skip ?_ | refine ab.block ?_ | simp (disch := omega) only [decide_eq_true, decide_eq_false, bE, b8, bD, b7]));refine ab.ret ⟨rx, _, rfl, aJ (by simp) (by simp [ag]) ?_⟩
  rfl
 ·(repeat (first | refine xT ?_ | refine xL ?_ | refine xN ?_ | refine xo ?_ | refine xp ?_ | (refine aa.nil ?_; try dsimp only [Fr.aj, Fr.put, Fr.clean, Fr.ev, Fr.get, nth, V.look, u1, u2, v1, v2, v3, v4, v5, v6, v7, List.length, u3, u4, Nat.reduceSub, Nat.reduceAdd, List.map]) | refine qq ?_ | refine ab.br ?_ | refine ab.cond (v := true) rfl (fun _ => ?_) (fun h => by cases h) | refine ab.cond (v := false) rfl (fun h => by cases h) (fun _ => ?_) | refine ab.skip ?_ | refine ab.block ?_ | simp (disch := omega) only [decide_eq_true, decide_eq_false, bE, b8, bD, b7]));refine ab.ret ⟨rx, _, rfl, aJ (by simp) (by simp [ag]) ?_⟩
  rfl
 ·(repeat (first | refine xT ?_ | refine xL ?_ | refine xN ?_ | refine xo ?_ | refine xp ?_ | (refine aa.nil ?_; try dsimp only [Fr.aj, Fr.put, Fr.clean, Fr.ev, Fr.get, nth, V.look, u1, u2, v1, v2, v3, v4, v5, v6, v7, List.length, u3, u4, Nat.reduceSub, Nat.reduceAdd, List.map]) | refine qq ?_ | refine ab.br ?_ | refine ab.cond (v := true) rfl (fun _ => ?_) (fun h => by cases h) | refine ab.cond (v := false) rfl (fun h => by cases h) (fun _ => ?_) | refine ab.skip ?_ | refine ab.block ?_ | simp (disch := omega) only [decide_eq_true, decide_eq_false, bE, b8, bD, b7]));refine ab.ret ⟨rx, _, rfl, aJ (by simp) (by simp [ag]) ?_⟩
  rfl
 ·(repeat (first | refine xT ?_ | refine xL ?_ | refine xN ?_ | refine xo ?_ | refine xp ?_ | (refine aa.nil ?_; try dsimp only [Fr.aj, Fr.put, Fr.clean, Fr.ev, Fr.get, nth, V.look, u1, u2, v1, v2, v3, v4, v5, v6, v7, List.length, u3, u4, Nat.reduceSub, Nat.reduceAdd, List.map]) | refine qq ?_ | refine ab.br ?_ | refine ab.cond (v := true) rfl (fun _ => ?_) (fun h => by cases h) | refine ab.cond (v := false) rfl (fun h => by cases h) (fun _ => ?_) | refine ab.skip ?_ | refine ab.block ?_ | simp (disch := omega) only [decide_eq_true, decide_eq_false, bE, b8, bD, b7]));refine ab.ret ⟨rx, _, rfl, aJ (by simp) (by simp [ag]) ?_⟩
  rfl
 ·(repeat (first | refine xT ?_ | refine xL ?_ | refine xN ?_ | refine xo ?_ | refine xp ?_ | (refine aa.nil ?_; try dsimp only [Fr.aj, Fr.put, Fr.clean, Fr.ev, Fr.get, nth, V.look, u1, u2, v1, v2, v3, v4, v5, v6, v7, List.length, u3, u4, Nat.reduceSub, Nat.reduceAdd, List.map]) | refine qq ?_ | refine ab.br ?_ | refine ab.cond (v := true) rfl (fun _ => ?_) (fun h => by cases h) | refine ab.cond (v := false) rfl (fun h => by cases h) (fun _ => ?_) | refine ab.skip ?_ | refine ab.block ?_ | simp (disch := omega) only [decide_eq_true, decide_eq_false, bE, b8, bD, b7]));refine ab.ret ⟨rx, _, rfl, aJ (by simp) (by simp [ag]) ?_⟩
  rfl
def yy (c:Nat):Nat:=if c=224 then 160 else if c=237 then 128 else if c=240 then 144 else 128
def Ab (c:Nat):Nat:=if c=224 then 191 else if c=237 then 159 else if c=240 then 191 else if c=244 then 143 else 191
theorem AJ (c d : Nat) (st : St) : Ev pv 136 [.int .u8 c, .int .u8 d] st (.bool (decide (yy c ≤ d ∧ d ≤ Ab c))) st := by
 refine Ev.iS rfl Uj rfl rfl rfl ?_;dsimp only [u3, u4, List.length, Nat.reduceSub, Nat.reduceAdd, w1, w2]
 have key : (c = 224 ∧ yy c = 160 ∧ Ab c = 191) ∨ (c = 237 ∧ yy c = 128 ∧ Ab c = 159) ∨ (c = 240 ∧ yy c = 144 ∧ Ab c = 191) ∨ (c = 244 ∧ yy c = 128 ∧ Ab c = 143) ∨ (c ≠ 224 ∧ c ≠ 237 ∧ c ≠ 240 ∧ c ≠ 244 ∧ yy c = 128 ∧ Ab c = 191) := by
  unfold yy Ab
  split
  ·omega
  split
  ·omega
  split
  ·omega
  split
  ·omega
  ·omega
 have VF : d < yy c ∨ (yy c ≤ d ∧ Ab c < d) ∨ (yy c ≤ d ∧ d ≤ Ab c) := by omega
 generalize yy c = lo at *;generalize Ab c = hi at *
 rcases key with ⟨h, rfl, rfl⟩ | ⟨h, rfl, rfl⟩ | ⟨h, rfl, rfl⟩ | ⟨h, rfl, rfl⟩ | ⟨h1, h2, h3, h4, rfl, rfl⟩ <;> rcases VF with k | ⟨k1, k2⟩ | ⟨k1, k2⟩
 all_goals
  (repeat (first | refine xT ?_ | refine xL ?_ | refine xN ?_ | refine xo ?_ | refine xp ?_ | (refine aa.nil ?_; try dsimp only [Fr.aj, Fr.put, Fr.clean, Fr.ev, Fr.get, nth, V.look, u1, u2, v1, v2, v3, v4, v5, v6, v7, List.length, u3, u4, Nat.reduceSub, Nat.reduceAdd, List.map]) | refine qq ?_ | refine ab.br ?_ | refine ab.cond (v := true) rfl (fun _ => ?_) (fun h => by cases h) | refine ab.cond (v := false) rfl (fun h => by cases h) (fun _ => ?_) | refine ab.skip ?_ | refine ab.block ?_ | simp (disch := omega) only [decide_eq_true, decide_eq_false, bE, b8, bD, b7]));refine ab.ret ⟨rx, _, rfl, aJ (by simp) (by simp [ag]) ?_⟩;simp (disch := omega) only [decide_eq_true, decide_eq_false]
  rfl
end Go.Proofs.YtbdnabmmlbiomaaGreat
namespace Go.Proofs.YtbdnabmmlbiomaaGreat
open Go.V Go
def kz (c i y:Nat):Bool:=if i=1 then decide (yy c≤y∧y≤Ab c) else decide (128≤y∧y≤191)
def gX (c:Nat):(left i:Nat)→List UInt8→Bool
 |0,_,_=>true
 |_+1,_,[]=>true
 |left+1,i,y::ys=>kz c i y.toNat &&gX c left (i+1) ys
def cC:List UInt8→Nat×Nat
 |[]=>(0,0)
 |c::xs=>if cX c.toNat=0 then(0,0) else if gX c.toNat (cX c.toNat-1) 1 xs=true then(if xs.length+1<cX c.toNat then(xs.length+1,cX c.toNat) else(cX c.toNat,cX c.toNat)) else(0,0)
theorem qH (c:Nat):cX c≤4:=by
 unfold cX
 repeat' split
 all_goals omega
theorem Aj {st:St} {x:D} {b:List UInt8} (hb:Bytes st x b) (hlen:b.length≤1048576):Ev pv 117 [x] st (.tup [.int .i64 ((cC b).1:Nat),.int .i64 ((cC b).2:Nat)]) st:=by
 refine Ev.iS rfl Us rfl rfl rfl ?_;dsimp only[u3,u4,List.length,Nat.reduceSub,Nat.reduceAdd,w1,w2];have hb:=hb.enter .ro;have hbl:=aG b;refine qy ?_;(repeat refine qq ?_);(generalize hK:aI _ _ _ _=K);refine ab.br ?_;(repeat(refine xL ?_));refine aa.nil ?_;dsimp only[Fr.aj,Fr.put,Fr.clean,Fr.ev,Fr.get,nth,V.look,u1,u2,v1,v2,v3,v4,v5,v6,v7,List.length,u3,u4,Nat.reduceSub,Nat.reduceAdd,List.map];subst hK;refine qy ?_;(repeat refine qq ?_);(generalize hK:aI _ _ _ _=K);refine ab.br ?_
 (refine xT ?_)
 refine aa.len rfl rfl rfl hb rfl ?_
 (refine xT ?_)
 (refine xT ?_)
 rw[hbl]
 cases b with
 |nil=>
  (repeat(first|refine xT ?_|refine xo ?_));refine aa.nil ?_;dsimp only[Fr.aj,Fr.put,Fr.clean,Fr.ev,Fr.get,nth,V.look,u1,u2,v1,v2,v3,v4,v5,v6,v7,List.length,u3,u4,Nat.reduceSub,Nat.reduceAdd,List.map];subst hK;refine qy ?_;refine ab.cond (v:=true) rfl (fun _=>?_) (fun h=>by cases h);refine qy ?_;(repeat refine qq ?_);(generalize hK:aI _ _ _ _=K);refine ab.br ?_;(repeat(refine xL ?_));refine aa.nil ?_;dsimp only[Fr.aj,Fr.put,Fr.clean,Fr.ev,Fr.get,nth,V.look,u1,u2,v1,v2,v3,v4,v5,v6,v7,List.length,u3,u4,Nat.reduceSub,Nat.reduceAdd,List.map];subst hK;refine qy ?_;refine ab.ret ⟨rx,_,rfl,aJ (by simp) (by simp[ag]) ?_⟩
  rfl
 |cons c xs=>
 simp only[List.length_cons] at hlen hbl;have hc:=kK c;simp only[List.length_cons];simp(disch:=omega) only[decide_eq_true,decide_eq_false,bE,b8,bD,b7]
 (refine xT ?_)
 refine aa.b9 rfl rfl rfl (fun _=>rfl) rfl rfl hb rfl rfl (by omega) (i:=0) (r:=[.int .u8 (c.toNat:Nat)]) rfl rfl (fun p=>?_);refine aa.iL rfl rfl rfl (zO _ _) ?_;(repeat(refine xT ?_));refine aa.nil ?_;dsimp only[Fr.aj,Fr.put,Fr.clean,Fr.ev,Fr.get,nth,V.look,u1,u2,v1,v2,v3,v4,v5,v6,v7,List.length,u3,u4,Nat.reduceSub,Nat.reduceAdd,List.map];subst hK;refine qy ?_;(repeat refine qq ?_);refine qc (fun h1=>?_) (fun h1=>?_)<;>try simp only[cs] at h1
 ·(refine qy ?_);(repeat refine qq ?_);(generalize hK:aI _ _ _ _=K);refine ab.br ?_;(repeat(refine xL ?_));refine aa.nil ?_;dsimp only[Fr.aj,Fr.put,Fr.clean,Fr.ev,Fr.get,nth,V.look,u1,u2,v1,v2,v3,v4,v5,v6,v7,List.length,u3,u4,Nat.reduceSub,Nat.reduceAdd,List.map];subst hK;refine qy ?_;refine ab.ret ⟨rx,_,rfl,aJ (by simp) (by simp[ag]) ?_⟩;rw[show cC (c::xs)=(0,0) by simp only[cC];rw[if_pos (by omega)]];rfl
 have U1:=qH c.toNat;refine ab.skip ?_;refine qy ?_;(repeat refine qq ?_);(generalize hK:aI _ _ _ _=K);refine ab.br ?_
 (refine xT ?_)
 refine aa.b9 rfl rfl rfl (fun _=>rfl) rfl rfl hb rfl rfl (by omega) (i:=0) (r:=[.int .u8 (c.toNat:Nat)]) rfl rfl (fun p=>?_);refine aa.iL rfl rfl rfl (zO _ _) ?_;(repeat(refine xL ?_));refine aa.nil ?_;dsimp only[Fr.aj,Fr.put,Fr.clean,Fr.ev,Fr.get,nth,V.look,u1,u2,v1,v2,v3,v4,v5,v6,v7,List.length,u3,u4,Nat.reduceSub,Nat.reduceAdd,List.map];subst hK;refine qy ?_;(repeat refine qq ?_);(generalize hK:aI _ _ _ _=K);refine ab.br ?_;(repeat(refine xL ?_));refine aa.nil ?_;dsimp only[Fr.aj,Fr.put,Fr.clean,Fr.ev,Fr.get,nth,V.look,u1,u2,v1,v2,v3,v4,v5,v6,v7,List.length,u3,u4,Nat.reduceSub,Nat.reduceAdd,List.map];subst hK;refine qy ?_;(repeat refine qq ?_);refine ab.block ?_;generalize hn:cX c.toNat=n at*;refine ab.loop (fun j fr ai=>∃(i:Nat),fr.clean=⟨6,[x,.tup [],.int .i64 0,.int .i64 0,.int .i64 (n:Nat),.int .i64 (i:Nat)],[]⟩∧ai=ag .ro st∧1≤i∧i+j=n∧gX c.toNat j i (xs.drop (i-1))=gX c.toNat (n-1) 1 xs∧i≤xs.length+1) (n-1) ⟨1,rfl,rfl,by omega,by omega,rfl,by omega⟩ ?_;rintro j fr ai ⟨i,hfr,rfl,Rz,hij,hS,Zz⟩;rw[hfr]
 have fin:(n≤i∨xs.length+1≤i)→cC (c::xs)=if xs.length+1<n then(xs.length+1,n) else(n,n):=by
  intro h
  have ht:gX c.toNat (n-1) 1 xs=true:=by
   rw[←hS]
   rcases h with h|h
   ·have:j=0:=by omega
    subst this;rfl
   ·have:xs.drop (i-1)=[]:=List.drop_eq_nil_of_le (by omega);rw[this];cases j<;>rfl
  simp only[cC,hn];rw[if_neg (by omega),if_pos ht]
 by_cases h4:i<n
 ·by_cases h5:i<xs.length+1
  ·(refine qy ?_);(repeat refine qq ?_);(generalize hK:aI _ _ _ _=K);refine ab.br ?_
   (refine xT ?_)
   (refine xT ?_)
   (refine xT ?_)
   simp(disch:=omega) only[decide_eq_true,decide_eq_false,bE,b8,bD,b7]
   (refine xT ?_)
   (refine xT ?_)
   (refine xT ?_)
   refine aa.len rfl rfl rfl hb rfl ?_;rw[hbl];(repeat(first|refine xT ?_|simp(disch:=omega) only[decide_eq_true,decide_eq_false,bE,b8,bD,b7]));refine aa.nil ?_;dsimp only[Fr.aj,Fr.put,Fr.clean,Fr.ev,Fr.get,nth,V.look,u1,u2,v1,v2,v3,v4,v5,v6,v7,List.length,u3,u4,Nat.reduceSub,Nat.reduceAdd,List.map];subst hK;refine qy ?_;refine ab.cond (v:=true) rfl (fun _=>?_) (fun h=>by cases h);refine ab.skip ?_;refine qy ?_;(repeat refine qq ?_);refine ab.block ?_
   obtain⟨j,rfl⟩:∃l,j=l+1:=⟨j-1,by omega⟩
   obtain⟨y,ys,wz⟩:∃y ys,xs.drop (i-1)=y::ys:=by
    cases h:xs.drop (i-1) with
    |nil=>have:=congrArg List.length h;simp at this;omega
    |cons y ys=>exact⟨y,ys,rfl⟩
   have hy:(c::xs)[i]?=some y:=by
    obtain⟨i,rfl⟩:∃i',i=i'+1:=⟨i-1,by omega⟩
    have:=congrArg (fun l=>l[0]?) wz
    simpa using this
   have kr:xs.drop (i+1-1)=ys:=by
    have:=congrArg (fun l=>l.drop 1) wz;simp only[List.drop_drop,List.drop_succ_cons,List.drop_zero] at this;rw[←this];congr 1;omega
   have Ro:=gF hy;have Zd:=kK y;rw[wz] at hS;simp only[gX] at hS;generalize Mk:aI _ _ _ _=K0
   have step:kz c.toNat i y.toNat=true→∀m,K0 .next ⟨6,[x,.tup [],.int .i64 0,.int .i64 0,.int .i64 (n:Nat),.int .i64 (i:Nat)],m⟩ (ag .ro st):=by
    intro hg m;subst Mk;refine qy ?_;(repeat refine qq ?_);(generalize hK:aI _ _ _ _=K);refine ab.br ?_;(repeat(first|refine xT ?_|refine xL ?_));refine aa.nil ?_;dsimp only[Fr.aj,Fr.put,Fr.clean,Fr.ev,Fr.get,nth,V.look,u1,u2,v1,v2,v3,v4,v5,v6,v7,List.length,u3,u4,Nat.reduceSub,Nat.reduceAdd,List.map];subst hK;rw[wrap_i64 (by omega) (by omega)];rw[hg,Bool.true_and] at hS;exact⟨j,by omega,i+1,rfl,rfl,by omega,by omega,by rw[kr];exact hS,by omega⟩
   by_cases u_:i=1
   ·subst u_;have hx0:xs=y::ys:=wz;subst hx0;refine qy ?_;(repeat refine qq ?_);(generalize hK:aI _ _ _ _=K);refine ab.br ?_
    (refine xT ?_)
    (refine xT ?_)
    (refine xT ?_)
    (refine xT ?_)
    refine aa.b9 rfl rfl rfl (fun _=>rfl) rfl rfl hb rfl rfl (by omega) (i:=0) (r:=[.int .u8 (c.toNat:Nat)]) rfl rfl (fun p=>?_)
    (refine xT ?_)
    refine aa.b9 rfl rfl rfl (fun _=>rfl) rfl rfl hb rfl rfl (by omega) (i:=1) (r:=[.int .u8 (y.toNat:Nat)]) rfl rfl (fun p=>?_);refine aa.iL rfl rfl rfl (AJ _ _ _) ?_
    by_cases hg:yy c.toNat≤y.toNat∧y.toNat≤Ab c.toNat
    ·rw[decide_eq_true hg];(repeat(first|refine xT ?_|refine xo ?_));refine aa.nil ?_;dsimp only[Fr.aj,Fr.put,Fr.clean,Fr.ev,Fr.get,nth,V.look,u1,u2,v1,v2,v3,v4,v5,v6,v7,List.length,u3,u4,Nat.reduceSub,Nat.reduceAdd,List.map];subst hK;refine qy ?_;refine ab.cond (v:=false) rfl (fun h=>by cases h) fun _=>ab.skip ?_;exact step (by unfold kz;rw[if_pos rfl,decide_eq_true hg]) _
    ·rw[decide_eq_false hg];(repeat(first|refine xT ?_|refine xo ?_));refine aa.nil ?_;dsimp only[Fr.aj,Fr.put,Fr.clean,Fr.ev,Fr.get,nth,V.look,u1,u2,v1,v2,v3,v4,v5,v6,v7,List.length,u3,u4,Nat.reduceSub,Nat.reduceAdd,List.map];subst hK;refine qy ?_;refine ab.cond (v:=true) rfl (fun _=>?_) (fun h=>by cases h);refine qy ?_;(repeat refine qq ?_);(generalize hK:aI _ _ _ _=K);refine ab.br ?_;(repeat(refine xL ?_));refine aa.nil ?_;dsimp only[Fr.aj,Fr.put,Fr.clean,Fr.ev,Fr.get,nth,V.look,u1,u2,v1,v2,v3,v4,v5,v6,v7,List.length,u3,u4,Nat.reduceSub,Nat.reduceAdd,List.map];subst hK;refine qy ?_;subst Mk;refine ab.ret ⟨rx,_,rfl,aJ (by simp) (by simp[ag]) ?_⟩;have:gX c.toNat (n-1) 1 (y::ys)=false:=by rw[←hS];unfold kz;rw[if_pos rfl,decide_eq_false hg];rfl
     rw[show cC (c::y::ys)=(0,0) by simp only[cC,hn];rw[if_neg (by omega),this];rfl];rfl
   ·(refine qy ?_);(repeat refine qq ?_);(generalize hK:aI _ _ _ _=K);refine ab.br ?_
    (refine xT ?_)
    (refine xT ?_)
    simp(disch:=omega) only[decide_eq_true,decide_eq_false,bE,b8,bD,b7]
    (refine xT ?_)
    (refine xo ?_)
    (refine xo ?_)
    (refine xo ?_)
    (refine xo ?_)
    (refine xo ?_)
    (refine xo ?_)
    (refine xo ?_)
    (refine xo ?_)
    (refine xT ?_)
    (refine xT ?_)
    (refine xT ?_)
    (refine xT ?_)
    simp(disch:=omega) only[decide_eq_true,decide_eq_false,bE,b8,bD,b7]
    (refine xT ?_)
    (refine xT ?_)
    (refine xT ?_)
    refine aa.b9 rfl rfl rfl (fun _=>rfl) rfl rfl hb rfl rfl (by omega) Ro rfl (fun p=>?_)
    by_cases u9:y.toNat<128
    ·(repeat(first|refine xT ?_|refine xo ?_|simp(disch:=omega) only[decide_eq_true,decide_eq_false,bE,b8,bD,b7]));refine aa.nil ?_;dsimp only[Fr.aj,Fr.put,Fr.clean,Fr.ev,Fr.get,nth,V.look,u1,u2,v1,v2,v3,v4,v5,v6,v7,List.length,u3,u4,Nat.reduceSub,Nat.reduceAdd,List.map];subst hK;refine qy ?_;refine ab.cond (v:=true) rfl (fun _=>?_) (fun h=>by cases h);refine qy ?_;(repeat refine qq ?_);(generalize hK:aI _ _ _ _=K);refine ab.br ?_;(repeat(refine xL ?_));refine aa.nil ?_;dsimp only[Fr.aj,Fr.put,Fr.clean,Fr.ev,Fr.get,nth,V.look,u1,u2,v1,v2,v3,v4,v5,v6,v7,List.length,u3,u4,Nat.reduceSub,Nat.reduceAdd,List.map];subst hK;refine qy ?_;subst Mk;refine ab.ret ⟨rx,_,rfl,aJ (by simp) (by simp[ag]) ?_⟩;have hf:kz c.toNat i y.toNat=false:=by unfold kz;rw[if_neg u_,decide_eq_false (by omega)]
     have:gX c.toNat (n-1) 1 xs=false:=by rw[←hS,hf];rfl
     rw[show cC (c::xs)=(0,0) by simp only[cC,hn];rw[if_neg (by omega),this];rfl];rfl
    ·(refine xT ?_)
     simp(disch:=omega) only[decide_eq_true,decide_eq_false,bE,b8,bD,b7]
     (refine xT ?_)
     (refine xT ?_)
     (refine xT ?_)
     refine aa.b9 rfl rfl rfl (fun _=>rfl) rfl rfl hb rfl rfl (by omega) Ro rfl (fun p=>?_)
     by_cases Ac:191<y.toNat
     ·(repeat(first|refine xT ?_|simp(disch:=omega) only[decide_eq_true,decide_eq_false,bE,b8,bD,b7]));refine aa.nil ?_;dsimp only[Fr.aj,Fr.put,Fr.clean,Fr.ev,Fr.get,nth,V.look,u1,u2,v1,v2,v3,v4,v5,v6,v7,List.length,u3,u4,Nat.reduceSub,Nat.reduceAdd,List.map];subst hK;refine qy ?_;refine ab.cond (v:=true) rfl (fun _=>?_) (fun h=>by cases h);refine qy ?_;(repeat refine qq ?_);(generalize hK:aI _ _ _ _=K);refine ab.br ?_;(repeat(refine xL ?_));refine aa.nil ?_;dsimp only[Fr.aj,Fr.put,Fr.clean,Fr.ev,Fr.get,nth,V.look,u1,u2,v1,v2,v3,v4,v5,v6,v7,List.length,u3,u4,Nat.reduceSub,Nat.reduceAdd,List.map];subst hK;refine qy ?_;subst Mk;refine ab.ret ⟨rx,_,rfl,aJ (by simp) (by simp[ag]) ?_⟩;have hf:kz c.toNat i y.toNat=false:=by unfold kz;rw[if_neg u_,decide_eq_false (by omega)]
      have:gX c.toNat (n-1) 1 xs=false:=by rw[←hS,hf];rfl
      rw[show cC (c::xs)=(0,0) by simp only[cC,hn];rw[if_neg (by omega),this];rfl];rfl
     ·(repeat(first|refine xT ?_|simp(disch:=omega) only[decide_eq_true,decide_eq_false,bE,b8,bD,b7]));refine aa.nil ?_;dsimp only[Fr.aj,Fr.put,Fr.clean,Fr.ev,Fr.get,nth,V.look,u1,u2,v1,v2,v3,v4,v5,v6,v7,List.length,u3,u4,Nat.reduceSub,Nat.reduceAdd,List.map];subst hK;refine qy ?_;refine ab.cond (v:=false) rfl (fun h=>by cases h) fun _=>ab.skip ?_;exact step (by unfold kz;rw[if_neg u_,decide_eq_true (by omega)]) _
  ·(refine qy ?_);(repeat refine qq ?_);(generalize hK:aI _ _ _ _=K);refine ab.br ?_
   (refine xT ?_)
   (refine xT ?_)
   (refine xT ?_)
   simp(disch:=omega) only[decide_eq_true,decide_eq_false,bE,b8,bD,b7]
   (refine xT ?_)
   (refine xT ?_)
   (refine xT ?_)
   refine aa.len rfl rfl rfl hb rfl ?_;rw[hbl];(repeat(first|refine xT ?_|simp(disch:=omega) only[decide_eq_true,decide_eq_false,bE,b8,bD,b7]));refine aa.nil ?_;dsimp only[Fr.aj,Fr.put,Fr.clean,Fr.ev,Fr.get,nth,V.look,u1,u2,v1,v2,v3,v4,v5,v6,v7,List.length,u3,u4,Nat.reduceSub,Nat.reduceAdd,List.map];subst hK;refine qy ?_;refine ab.cond (v:=false) rfl (fun h=>by cases h) fun _=>ab.exit ?_;rw[fin (by omega)];refine qy ?_;(repeat refine qq ?_);(generalize hK:aI _ _ _ _=K);refine ab.br ?_
   (refine xT ?_)
   refine aa.len rfl rfl rfl hb rfl ?_;rw[hbl];(repeat(refine xT ?_));refine aa.nil ?_;dsimp only[Fr.aj,Fr.put,Fr.clean,Fr.ev,Fr.get,nth,V.look,u1,u2,v1,v2,v3,v4,v5,v6,v7,List.length,u3,u4,Nat.reduceSub,Nat.reduceAdd,List.map];subst hK;refine qy ?_;refine ab.cond (v:=true) (by dsimp only[Fr.ev,Fr.get,V.look];rw[decide_eq_true (by omega)]) (fun _=>?_) (fun h=>by cases h);refine qy ?_;(repeat refine qq ?_);(generalize hK:aI _ _ _ _=K);refine ab.br ?_
   (refine xT ?_)
   refine aa.len rfl rfl rfl hb rfl ?_;rw[hbl];(repeat(first|refine xT ?_|refine xL ?_));refine aa.nil ?_;dsimp only[Fr.aj,Fr.put,Fr.clean,Fr.ev,Fr.get,nth,V.look,u1,u2,v1,v2,v3,v4,v5,v6,v7,List.length,u3,u4,Nat.reduceSub,Nat.reduceAdd,List.map];subst hK;refine qy ?_;refine ab.ret ⟨rx,_,rfl,aJ (by simp) (by simp[ag]) ?_⟩;rw[if_pos (by omega)];rfl
 ·(refine qy ?_);(repeat refine qq ?_);(generalize hK:aI _ _ _ _=K);refine ab.br ?_
  (refine xT ?_)
  (refine xT ?_)
  (refine xT ?_)
  (repeat(first|refine xT ?_|refine xo ?_|simp(disch:=omega) only[decide_eq_true,decide_eq_false,bE,b8,bD,b7]));refine aa.nil ?_;dsimp only[Fr.aj,Fr.put,Fr.clean,Fr.ev,Fr.get,nth,V.look,u1,u2,v1,v2,v3,v4,v5,v6,v7,List.length,u3,u4,Nat.reduceSub,Nat.reduceAdd,List.map];subst hK;refine qy ?_;refine ab.cond (v:=false) rfl (fun h=>by cases h) fun _=>ab.exit ?_;rw[fin (by omega)];refine qy ?_;(repeat refine qq ?_);(generalize hK:aI _ _ _ _=K);refine ab.br ?_
  (refine xT ?_)
  refine aa.len rfl rfl rfl hb rfl ?_;rw[hbl];(repeat(refine xT ?_));refine aa.nil ?_;dsimp only[Fr.aj,Fr.put,Fr.clean,Fr.ev,Fr.get,nth,V.look,u1,u2,v1,v2,v3,v4,v5,v6,v7,List.length,u3,u4,Nat.reduceSub,Nat.reduceAdd,List.map];subst hK;refine qy ?_;(repeat refine qq ?_);refine qc (fun h9=>?_) (fun h9=>?_)<;>try simp only[cs] at h9
  ·(refine qy ?_);(repeat refine qq ?_);(generalize hK:aI _ _ _ _=K);refine ab.br ?_
   (refine xT ?_)
   refine aa.len rfl rfl rfl hb rfl ?_;rw[hbl];(repeat(first|refine xT ?_|refine xL ?_));refine aa.nil ?_;dsimp only[Fr.aj,Fr.put,Fr.clean,Fr.ev,Fr.get,nth,V.look,u1,u2,v1,v2,v3,v4,v5,v6,v7,List.length,u3,u4,Nat.reduceSub,Nat.reduceAdd,List.map];subst hK;refine qy ?_;refine ab.ret ⟨rx,_,rfl,aJ (by simp) (by simp[ag]) ?_⟩;rw[if_pos (by omega)];rfl
  ·refine ab.skip ?_;refine qy ?_;(repeat refine qq ?_);(generalize hK:aI _ _ _ _=K);refine ab.br ?_;(repeat(first|refine xT ?_|refine xL ?_));refine aa.nil ?_;dsimp only[Fr.aj,Fr.put,Fr.clean,Fr.ev,Fr.get,nth,V.look,u1,u2,v1,v2,v3,v4,v5,v6,v7,List.length,u3,u4,Nat.reduceSub,Nat.reduceAdd,List.map];subst hK;refine qy ?_;refine ab.ret ⟨rx,_,rfl,aJ (by simp) (by simp[ag]) ?_⟩;rw[if_neg (by omega)];rfl
end Go.Proofs.YtbdnabmmlbiomaaGreat
namespace Go.Proofs.YtbdnabmmlbiomaaGreat
open Go.V Go
theorem A_ (c:Nat):(cX c=0∧(bY c).1=-1)∨(cX c=1∧(bY c).1=0)∨(2≤cX c∧(bY c).1=(cX c:Int)-1∧(bY c).2.1=yy c∧(bY c).2.2=Ab c):=by
 unfold cX bY yy Ab
 by_cases h1:c<128
 ·simp[h1]
 by_cases h2:c<194
 ·simp[h1,h2]
 by_cases h0:245≤c
 ·left;rw[if_neg (by omega),if_neg (by omega),if_neg (by omega),if_neg (by omega),if_neg (by omega),if_neg (by omega),if_neg (by omega),if_neg (by omega),if_neg (by omega),if_neg (by omega),if_neg (by omega),if_neg (by omega),if_neg (by omega),if_neg (by omega)];simp
 right;right
 by_cases h3:c<224
 ·simp only[h1,h2,h3,if_true,if_false];rw[if_neg (by omega),if_neg (by omega),if_neg (by omega),if_neg (by omega),if_neg (by omega),if_neg (by omega),if_neg (by omega)];simp
 by_cases h4:c=224
 ·subst h4;simp
 by_cases h5:c=237
 ·subst h5;simp
 by_cases h6:c<240
 ·simp only[h1,h2,h3,h4,h5,h6,if_true,if_false];rw[if_neg (by omega),if_neg (by omega),if_neg (by omega)];simp
 by_cases h7:c=240
 ·subst h7;simp
 by_cases h8:c<244
 ·simp only[h1,h2,h3,h4,h5,h6,h7,h8,if_true,if_false];rw[if_pos (by omega),if_neg (by omega)];simp
 by_cases h9:c=244
 ·subst h9;simp
 omega
def lf (r:Nat):Nat→List UInt8→Nat
 |0,_=>r
 |_+1,[]=>r
 |left+1,y::ys=>lf (r*64+y.toNat %64) left ys
theorem sD (c n:Nat):∀(left i r lo hi:Nat) (xs:List UInt8),1≤i→(∀y,kz c i y=(decide (lo≤y∧y≤hi)))→
  gh left n r lo hi xs=if gX c left i xs=true then(if xs.length<left then(0,0,true) else(lf r left xs,n,false)) else(0,0,false)
 |0,i,r,lo,hi,xs,_,_=>by simp[gh,gX,lf]
 |left+1,i,r,lo,hi,[],_,_=>by simp[gh,gX]
 |left+1,i,r,lo,hi,y::ys,Rz,hg=>by
  simp only[gh,gX,hg,lf]
  by_cases hb:lo≤y.toNat∧y.toNat≤hi
  ·rw[if_neg (by omega),decide_eq_true hb,Bool.true_and];rw[sD c n left (i+1) _ 128 191 ys (by omega) (fun z=>by unfold kz;rw[if_neg (by omega)])];simp only[List.length_cons,Nat.add_lt_add_iff_right]
  ·rw[if_pos (by omega),decide_eq_false hb];simp
def jW (c n:Nat):Nat:=if n≤1 then c else c %(64/2^(n-1))
theorem BD (c:UInt8) (xs:List UInt8):c7 (c::xs)=if cX c.toNat=0 then(0,0,false) else if gX c.toNat (cX c.toNat-1) 1 xs=true then(if xs.length<cX c.toNat-1 then(0,0,true) else(lf (jW c.toNat (cX c.toNat)) (cX c.toNat-1) xs,cX c.toNat,false)) else(0,0,false):=by
 simp only[c7]
 rcases A_ c.toNat with⟨h1,h2⟩|⟨h1,h2⟩|⟨h1,h2,h3,h4⟩
 ·rw[h1,h2];simp
 ·rw[h1,h2];simp[gh,gX,lf,jW]
 ·have hk:(bY c.toNat).1.toNat=cX c.toNat-1:=by omega
  rw[if_neg (show¬(bY c.toNat).1<0 by omega),if_neg (show¬cX c.toNat=0 by omega),if_pos (show(bY c.toNat).1>0 by omega),hk,h3,h4];rw[sD c.toNat _ _ 1 _ _ _ _ (by omega) (fun y=>by unfold kz;rw[if_pos rfl])];have:cX c.toNat-1+1=cX c.toNat:=by omega
  rw[this];have h5:jW c.toNat (cX c.toNat)=c.toNat %(64/2^(cX c.toNat-1)):=by unfold jW;rw[if_neg (by omega)]
  rw[h5]
def cE (b:List UInt8):Bool:=(c7 b).2.2
theorem mc (b:List UInt8):(cE b=true↔(0<(cC b).1∧(cC b).1<(cC b).2∧(cC b).1=b.length))∧
  (((cC b).1=0∨(cC b).1<(cC b).2)→cQ b=(65533,1))∧
  (¬((cC b).1=0∨(cC b).1<(cC b).2)→∃c xs,b=c::xs∧1≤(cC b).2∧(cC b).2≤4∧(cC b).2-1≤xs.length∧cQ b=(lf (jW c.toNat (cC b).2) ((cC b).2-1) xs,(cC b).2)):=by
 cases b with
 |nil=>simp[cE,c7,cC,cQ]
 |cons c xs=>
  have hn:=qH c.toNat;simp only[cE,cQ,BD,cC]
  by_cases h1:cX c.toNat=0
  ·simp[h1]
  rw[if_neg h1,if_neg h1]
  by_cases h2:gX c.toNat (cX c.toNat-1) 1 xs=true
  ·rw[if_pos h2,if_pos h2]
   by_cases h3:xs.length+1<cX c.toNat
   ·rw[if_pos (by omega),if_pos h3];simp<;>omega
   ·rw[if_neg (by omega),if_neg h3];refine⟨by simp<;>omega,by simp<;>omega,fun _=>⟨c,xs,rfl,by simp only;omega,by simp only;omega,by simp only;omega,?_⟩⟩;simp only;rw[if_neg h1]
  ·rw[if_neg h2,if_neg h2];simp
end Go.Proofs.YtbdnabmmlbiomaaGreat
namespace Go.Proofs.YtbdnabmmlbiomaaGreat
open Go.V Go
theorem uU {c j:Nat} (hc:c<256) (hj:j≤8) {m:Int} (hm:m=((2^j-1:Nat):Int)):bM .u8 ((BitVec.ofInt IntKind.u8.bits (c:Nat) &&&BitVec.ofInt IntKind.u8.bits m).toNat:Nat)=((c %2^j:Nat):Int):=by
 have h1:2^j≤2^8:=Nat.pow_le_pow_right (by omega) hj;subst hm;show bM .u8 ((BitVec.ofInt 8 (c:Nat) &&&BitVec.ofInt 8 ((2^j-1:Nat):Int)).toNat:Nat)=_;rw[uT (w:=8) (by omega) (by omega)];have:c %2^j≤c:=Nat.mod_le _ _;rw[du (k:=.u8) (by simp only[kA];omega)]
theorem BU {c:Nat} (h:c<2147483648):bM .i32 (c:Nat)=(c:Nat):=du (by simp only[kA];omega)
theorem sA {a:Nat} (i:Nat) {e:Int} (he:e=(i:Nat)) (hi:i≤31) (h:a*2^i<2147483648):bM .i32 ((a:Int)*2^(min e.toNat IntKind.i32.bits))=((a*2^i:Nat):Int):=by
 subst he;have:min ((i:Nat):Int).toNat IntKind.i32.bits=i:=by show min ((i:Nat):Int).toNat 32=i;omega
 rw[this];have:(a:Int)*2^i=((a*2^i:Nat):Int):=by simp
 rw[this,BU h]
theorem A1 {x a b:Nat} (i:Nat) (hx:x=a*2^i) (hb:b<2^i) (h:a*2^i+b<2147483648):bM .i32 ((BitVec.ofInt IntKind.i32.bits (x:Nat)|||BitVec.ofInt IntKind.i32.bits (b:Nat)).toNat:Nat)=((a*2^i+b:Nat):Int):=by
 subst hx;show bM .i32 ((BitVec.ofInt 32 ((a*2^i:Nat):Int)|||BitVec.ofInt 32 (b:Nat)).toNat:Nat)=_;rw[Mm (by omega) (by omega)]
 have h3:(a*2^i)|||b=a*2^i+b:=by
  rw[Nat.mul_comm a,Nat.two_pow_add_eq_or_of_lt hb]
 rw[h3,BU h]
theorem AR {st:St} {x:D} {b:List UInt8} (hb:Bytes st x b) (hlen:b.length≤1048576):Ev pv 115 [x] st (.agg (aQ (cQ b))) st:=by
 refine Ev.iS rfl Uu rfl rfl rfl ?_;dsimp only[u3,u4,List.length,Nat.reduceSub,Nat.reduceAdd,w1,w2];have hx:=hb.ref;have mS:=hb.enter .ro;have hbl:=aG b;obtain⟨_,hz,ES⟩:=mc b;refine qy ?_;(repeat refine qq ?_);(generalize hK:aI _ _ _ _=K);refine ab.br ?_;(repeat(refine xL ?_));refine aa.nil ?_;dsimp only[Fr.aj,Fr.put,Fr.clean,Fr.ev,Fr.get,nth,V.look,u1,u2,v1,v2,v3,v4,v5,v6,v7,List.length,u3,u4,Nat.reduceSub,Nat.reduceAdd,List.map];subst hK;refine qy ?_;generalize hS:(ag .ro st).push _=S;have hb:Bytes S x b:=by subst hS;exact Rows.ex (Ex.push (st:=ag .ro st) (N:=st.bs.length) (Nat.le_refl _) _) mS hx
 (refine qy ?_);(repeat refine qq ?_);(generalize hK:aI _ _ _ _=K);refine ab.br ?_
 (refine xL ?_)
 refine aa.UK rfl rfl rfl (Aj hb hlen) ?_;(repeat(refine xL ?_));refine aa.nil ?_;dsimp only[Fr.aj,Fr.put,Fr.clean,Fr.ev,Fr.get,nth,V.look,u1,u2,v1,v2,v3,v4,v5,v6,v7,List.length,u3,u4,Nat.reduceSub,Nat.reduceAdd,List.map];subst hK;refine qy ?_;generalize hk:(cC b).1=k at*;generalize hn:(cC b).2=n at*;have Xs:S.bs[st.bs.length]?=some (.mem 0 false [.int .i32 0,.int .i64 0]):=by subst hS;exact dq (ag .ro st) _
 have Xr:∀r,S.gz st.bs.length r=true:=fun r=>by subst hS;exact nf (N:=st.bs.length) (Nat.le_refl _) (Nat.le_refl _) (Nat.le_refl _)
 have done:∀(q:Nat×Nat) (fr:Fr) (s1:St),fr.get 2=.ptr st.bs.length 0 0→s1={S with bs:=S.bs.set st.bs.length (.mem 0 false (aQ q))}→
   (∀i,Out.ret≠.exit i)∧∃ds,ji pv fr s1 Tryz.f115.results.toList=some ds∧cB .ro false st s1 (pE ds)=some (.agg (aQ q),st):=by
  intro q fr s1 hg hs
  have K':s1=(ag .ro st).push (.mem 0 false (aQ q)):=by
   rw[hs,←hS];exact jC (st:=ag .ro st) (k:=st.bs.length) rfl
  have hm:s1.ei st.bs.length 0=some (false,aQ q):=by rw[K'];exact mem_push (ag .ro st) 0 false (aQ q)
  have hl:fe pv 53 (.ptr st.bs.length 0 0) s1=some (.agg (aQ q)):=by
   simp only[fe,hm,Option.bind_some];rfl
  have hr:ji pv fr s1 Tryz.f115.results.toList=some [.agg (aQ q)]:=by
   show(fe pv 53 (fr.get 2) s1).bind _=_;rw[hg,hl];rfl
  refine⟨fun i h=>(by cases h),_,hr,aJ (by simp) ?_ rfl⟩;have Qz:=Ex.push (N:=st.bs.length) (st:=ag .ro st) (Nat.le_refl _) (.mem 0 false (aQ q));rw[K'];exact Qz.take rfl
 by_cases h1:k=0∨k<n
 ·have ho:=hz h1;rw[ho]
  by_cases h2:k=0
  ·subst h2;refine qy ?_;(repeat refine qq ?_);(generalize hK:aI _ _ _ _=K);refine ab.br ?_;(repeat(first|refine xL ?_|refine xp ?_|simp(disch:=omega) only[decide_eq_true,decide_eq_false,bE,b8,bD,b7]));refine aa.nil ?_;dsimp only[Fr.aj,Fr.put,Fr.clean,Fr.ev,Fr.get,nth,V.look,u1,u2,v1,v2,v3,v4,v5,v6,v7,List.length,u3,u4,Nat.reduceSub,Nat.reduceAdd,List.map];subst hK;refine qy ?_;refine ab.cond (v:=true) rfl (fun _=>?_) (fun h=>by cases h);refine qy ?_;(repeat refine qq ?_);(generalize hK:aI _ _ _ _=K);refine ab.br ?_
   (refine xL ?_)
   refine aa.store (k:=st.bs.length) (az:=0) (off:=0) (cs:=aQ (65533,1)) rfl rfl rfl rfl rfl Xs (by decide) (Xr _)<|aa.nil ?_;dsimp only[Fr.aj,Fr.put,Fr.clean,Fr.ev,Fr.get,nth,V.look,u1,u2,v1,v2,v3,v4,v5,v6,v7,List.length,u3,u4,Nat.reduceSub,Nat.reduceAdd,List.map];subst hK;refine qy ?_;exact ab.ret (done _ _ _ rfl rfl)
  ·(refine qy ?_);(repeat refine qq ?_);(generalize hK:aI _ _ _ _=K);refine ab.br ?_;(repeat(first|refine xL ?_|simp(disch:=omega) only[decide_eq_true,decide_eq_false,bE,b8,bD,b7]));refine aa.nil ?_;dsimp only[Fr.aj,Fr.put,Fr.clean,Fr.ev,Fr.get,nth,V.look,u1,u2,v1,v2,v3,v4,v5,v6,v7,List.length,u3,u4,Nat.reduceSub,Nat.reduceAdd,List.map];subst hK;refine qy ?_;refine ab.cond (v:=true) rfl (fun _=>?_) (fun h=>by cases h);refine qy ?_;(repeat refine qq ?_);(generalize hK:aI _ _ _ _=K);refine ab.br ?_
   (refine xL ?_)
   refine aa.store (k:=st.bs.length) (az:=0) (off:=0) (cs:=aQ (65533,1)) rfl rfl rfl rfl rfl Xs (by decide) (Xr _)<|aa.nil ?_;dsimp only[Fr.aj,Fr.put,Fr.clean,Fr.ev,Fr.get,nth,V.look,u1,u2,v1,v2,v3,v4,v5,v6,v7,List.length,u3,u4,Nat.reduceSub,Nat.reduceAdd,List.map];subst hK;refine qy ?_;exact ab.ret (done _ _ _ rfl rfl)
 obtain⟨c,xs,rfl,xA,hn4,BX,ho⟩:=ES h1;rw[ho];have hc:=kK c;refine qy ?_;(repeat refine qq ?_);(generalize hK:aI _ _ _ _=K);refine ab.br ?_;(repeat(first|refine xL ?_|simp(disch:=omega) only[decide_eq_true,decide_eq_false,bE,b8,bD,b7]));refine aa.nil ?_;dsimp only[Fr.aj,Fr.put,Fr.clean,Fr.ev,Fr.get,nth,V.look,u1,u2,v1,v2,v3,v4,v5,v6,v7,List.length,u3,u4,Nat.reduceSub,Nat.reduceAdd,List.map];subst hK;refine qy ?_;refine ab.cond (v:=false) rfl (fun h=>by cases h) fun _=>ab.skip ?_;refine qy ?_;(repeat refine qq ?_);(generalize hK:aI _ _ _ _=K);refine ab.br ?_
 (refine xL ?_)
 refine aa.Dp rfl rfl rfl (fun _=>rfl) (by simp) rfl rfl hb rfl rfl (by omega) (i:=0) (r:=[.int .u8 (c.toNat:Nat)]) rfl rfl (fun p=>?_);(repeat(refine xL ?_));refine aa.nil ?_;dsimp only[Fr.aj,Fr.put,Fr.clean,Fr.ev,Fr.get,nth,V.look,u1,u2,v1,v2,v3,v4,v5,v6,v7,List.length,u3,u4,Nat.reduceSub,Nat.reduceAdd,List.map];subst hK;refine qy ?_;(repeat refine qq ?_);(generalize hK:aI _ _ _ _=K);refine ab.br ?_;(repeat(refine xL ?_));refine aa.nil ?_;dsimp only[Fr.aj,Fr.put,Fr.clean,Fr.ev,Fr.get,nth,V.look,u1,u2,v1,v2,v3,v4,v5,v6,v7,List.length,u3,u4,Nat.reduceSub,Nat.reduceAdd,List.map];subst hK;refine qy ?_;rw[BU (by omega)];have hq:n=1∨n=2∨n=3∨n=4:=by omega
 generalize hK:aI _ _ _ _=K
 have H:∀(r:Nat) (m:List (Nat×D)) (l2:List D),r=(cQ (c::xs)).1→l2.length=18→K .next ⟨24,x::.tup []::.ptr st.bs.length 0 0::.int .i64 (k:Nat)::.int .i64 (n:Nat)::.int .i32 r::l2,m⟩ S:=by
  intro r m l2 hr kG;subst hK;refine qy ?_;(repeat refine qq ?_);(generalize hK:aI _ _ _ _=K);refine ab.br ?_
  (refine xT ?_)
  (refine xT ?_)
  refine aa.T rfl rfl rfl (d:=.agg (aQ (r,n))) (st1:=S) rfl<|aa.store (k:=st.bs.length) (az:=0) (off:=0) (cs:=aQ (r,n)) rfl rfl rfl rfl rfl Xs (by simp[aQ]) (Xr _)<|aa.nil ?_;dsimp only[Fr.aj,Fr.put,Fr.clean,Fr.ev,Fr.get,nth,V.look,u1,u2,v1,v2,v3,v4,v5,v6,v7,List.length,u3,u4,Nat.reduceSub,Nat.reduceAdd,List.map];subst hK;refine qy ?_;rw[←ho];have e:cQ (c::xs)=(r,n):=by rw[hr,ho]
  rw[e];exact ab.ret (done _ _ _ rfl rfl)
 rcases hq with hq|hq|hq|hq
 ·subst hq;refine qy ?_;(repeat refine qq ?_);refine ab.block ?_;refine qy ?_;(repeat refine qq ?_);(generalize hK:aI _ _ _ _=K);refine ab.br ?_;(repeat(refine xT ?_));refine aa.nil ?_;dsimp only[Fr.aj,Fr.put,Fr.clean,Fr.ev,Fr.get,nth,V.look,u1,u2,v1,v2,v3,v4,v5,v6,v7,List.length,u3,u4,Nat.reduceSub,Nat.reduceAdd,List.map];subst hK;refine qy ?_;refine ab.cond (v:=false) rfl (fun h=>by cases h) fun _=>?_;refine qy ?_;(repeat refine qq ?_);(generalize hK:aI _ _ _ _=K);refine ab.br ?_;(repeat(refine xT ?_));refine aa.nil ?_;dsimp only[Fr.aj,Fr.put,Fr.clean,Fr.ev,Fr.get,nth,V.look,u1,u2,v1,v2,v3,v4,v5,v6,v7,List.length,u3,u4,Nat.reduceSub,Nat.reduceAdd,List.map];subst hK;refine qy ?_;refine ab.cond (v:=false) rfl (fun h=>by cases h) fun _=>?_;refine qy ?_;(repeat refine qq ?_);(generalize hK:aI _ _ _ _=K);refine ab.br ?_;(repeat(refine xT ?_));refine aa.nil ?_;dsimp only[Fr.aj,Fr.put,Fr.clean,Fr.ev,Fr.get,nth,V.look,u1,u2,v1,v2,v3,v4,v5,v6,v7,List.length,u3,u4,Nat.reduceSub,Nat.reduceAdd,List.map];subst hK;refine qy ?_;refine ab.cond (v:=false) rfl (fun h=>by cases h) fun _=>?_;refine qy ?_;refine ab.skip<|H _ _ _ ?_ rfl;rw[ho];simp[lf,jW]
 ·subst hq
  obtain⟨y1,ys,rfl⟩:∃y1 ys,xs=y1::ys:=by
   match xs,BX with
   |y1::ys,_=>exact⟨y1,ys,rfl⟩
  have hy1:=kK y1;refine qy ?_;(repeat refine qq ?_);refine ab.block ?_;refine qy ?_;(repeat refine qq ?_);(generalize hK:aI _ _ _ _=K);refine ab.br ?_;(repeat(refine xT ?_));refine aa.nil ?_;dsimp only[Fr.aj,Fr.put,Fr.clean,Fr.ev,Fr.get,nth,V.look,u1,u2,v1,v2,v3,v4,v5,v6,v7,List.length,u3,u4,Nat.reduceSub,Nat.reduceAdd,List.map];subst hK;refine qy ?_;refine ab.cond (v:=true) rfl (fun _=>?_) (fun h=>by cases h);refine qy ?_;(repeat refine qq ?_);(generalize hK:aI _ _ _ _=K);refine ab.br ?_
  (refine xT ?_)
  refine aa.b9 rfl rfl rfl (fun _=>rfl) rfl rfl hb rfl rfl (by omega) (i:=0) (r:=[.int .u8 (c.toNat:Nat)]) rfl rfl (fun p=>?_);(repeat(refine xT ?_));refine aa.b9 rfl rfl rfl (fun _=>rfl) rfl rfl hb rfl rfl (by omega) (i:=1) (r:=[.int .u8 (y1.toNat:Nat)]) rfl rfl (fun p=>?_);(repeat(first|refine xT ?_|refine xL ?_));refine aa.nil ?_;dsimp only[Fr.aj,Fr.put,Fr.clean,Fr.ev,Fr.get,nth,V.look,u1,u2,v1,v2,v3,v4,v5,v6,v7,List.length,u3,u4,Nat.reduceSub,Nat.reduceAdd,List.map];subst hK;rw[uU (j:=5) (m:=31) hc (by omega) (by decide),uU (j:=6) (m:=63) hy1 (by omega) (by decide),BU (c:=c.toNat %2^5) (by omega),BU (c:=y1.toNat %2^6) (by omega),sA 6 (by decide) (by omega) (by omega),A1 6 rfl (by omega) (by omega)];refine H _ _ _ ?_ rfl;rw[ho];simp[lf,jW]
 ·subst hq
  obtain⟨y1,y2,ys,rfl⟩:∃y1 y2 ys,xs=y1::y2::ys:=by
   match xs,BX with
   |y1::y2::ys,_=>exact⟨y1,y2,ys,rfl⟩
  have hy1:=kK y1;have uZ:=kK y2;refine qy ?_;(repeat refine qq ?_);refine ab.block ?_;refine qy ?_;(repeat refine qq ?_);(generalize hK:aI _ _ _ _=K);refine ab.br ?_;(repeat(refine xT ?_));refine aa.nil ?_;dsimp only[Fr.aj,Fr.put,Fr.clean,Fr.ev,Fr.get,nth,V.look,u1,u2,v1,v2,v3,v4,v5,v6,v7,List.length,u3,u4,Nat.reduceSub,Nat.reduceAdd,List.map];subst hK;refine qy ?_;refine ab.cond (v:=false) rfl (fun h=>by cases h) fun _=>?_;refine qy ?_;(repeat refine qq ?_);(generalize hK:aI _ _ _ _=K);refine ab.br ?_;(repeat(refine xT ?_));refine aa.nil ?_;dsimp only[Fr.aj,Fr.put,Fr.clean,Fr.ev,Fr.get,nth,V.look,u1,u2,v1,v2,v3,v4,v5,v6,v7,List.length,u3,u4,Nat.reduceSub,Nat.reduceAdd,List.map];subst hK;refine qy ?_;refine ab.cond (v:=true) rfl (fun _=>?_) (fun h=>by cases h);refine qy ?_;(repeat refine qq ?_);(generalize hK:aI _ _ _ _=K);refine ab.br ?_
  (refine xT ?_)
  refine aa.b9 rfl rfl rfl (fun _=>rfl) rfl rfl hb rfl rfl (by omega) (i:=0) (r:=[.int .u8 (c.toNat:Nat)]) rfl rfl (fun p=>?_);(repeat(refine xT ?_));refine aa.b9 rfl rfl rfl (fun _=>rfl) rfl rfl hb rfl rfl (by omega) (i:=1) (r:=[.int .u8 (y1.toNat:Nat)]) rfl rfl (fun p=>?_);(repeat(refine xT ?_));refine aa.b9 rfl rfl rfl (fun _=>rfl) rfl rfl hb rfl rfl (by omega) (i:=2) (r:=[.int .u8 (y2.toNat:Nat)]) rfl rfl (fun p=>?_);(repeat(first|refine xT ?_|refine xL ?_));refine aa.nil ?_;dsimp only[Fr.aj,Fr.put,Fr.clean,Fr.ev,Fr.get,nth,V.look,u1,u2,v1,v2,v3,v4,v5,v6,v7,List.length,u3,u4,Nat.reduceSub,Nat.reduceAdd,List.map];subst hK;rw[uU (j:=4) (m:=15) hc (by omega) (by decide),uU (j:=6) (m:=63) hy1 (by omega) (by decide),uU (j:=6) (m:=63) uZ (by omega) (by decide),BU (c:=c.toNat %2^4) (by omega),BU (c:=y1.toNat %2^6) (by omega),BU (c:=y2.toNat %2^6) (by omega),sA 12 (by decide) (by omega) (by omega),sA 6 (by decide) (by omega) (by omega),A1 12 rfl (by omega) (by omega),A1 (a:=c.toNat %2^4*64+y1.toNat %2^6) 6 (by omega) (by omega) (by omega)];refine H _ _ _ ?_ rfl;rw[ho];simp[lf,jW]
 ·subst hq
  obtain⟨y1,y2,y3,ys,rfl⟩:∃y1 y2 y3 ys,xs=y1::y2::y3::ys:=by
   match xs,BX with
   |y1::y2::y3::ys,_=>exact⟨y1,y2,y3,ys,rfl⟩
  have hy1:=kK y1;have uZ:=kK y2;have Bh:=kK y3;refine qy ?_;(repeat refine qq ?_);refine ab.block ?_;refine qy ?_;(repeat refine qq ?_);(generalize hK:aI _ _ _ _=K);refine ab.br ?_;(repeat(refine xT ?_));refine aa.nil ?_;dsimp only[Fr.aj,Fr.put,Fr.clean,Fr.ev,Fr.get,nth,V.look,u1,u2,v1,v2,v3,v4,v5,v6,v7,List.length,u3,u4,Nat.reduceSub,Nat.reduceAdd,List.map];subst hK;refine qy ?_;refine ab.cond (v:=false) rfl (fun h=>by cases h) fun _=>?_;refine qy ?_;(repeat refine qq ?_);(generalize hK:aI _ _ _ _=K);refine ab.br ?_;(repeat(refine xT ?_));refine aa.nil ?_;dsimp only[Fr.aj,Fr.put,Fr.clean,Fr.ev,Fr.get,nth,V.look,u1,u2,v1,v2,v3,v4,v5,v6,v7,List.length,u3,u4,Nat.reduceSub,Nat.reduceAdd,List.map];subst hK;refine qy ?_;refine ab.cond (v:=false) rfl (fun h=>by cases h) fun _=>?_;refine qy ?_;(repeat refine qq ?_);(generalize hK:aI _ _ _ _=K);refine ab.br ?_;(repeat(refine xT ?_));refine aa.nil ?_;dsimp only[Fr.aj,Fr.put,Fr.clean,Fr.ev,Fr.get,nth,V.look,u1,u2,v1,v2,v3,v4,v5,v6,v7,List.length,u3,u4,Nat.reduceSub,Nat.reduceAdd,List.map];subst hK;refine qy ?_;refine ab.cond (v:=true) rfl (fun _=>?_) (fun h=>by cases h);refine qy ?_;(repeat refine qq ?_);(generalize hK:aI _ _ _ _=K);refine ab.br ?_
  (refine xT ?_)
  refine aa.b9 rfl rfl rfl (fun _=>rfl) rfl rfl hb rfl rfl (by omega) (i:=0) (r:=[.int .u8 (c.toNat:Nat)]) rfl rfl (fun p=>?_);(repeat(refine xT ?_));refine aa.b9 rfl rfl rfl (fun _=>rfl) rfl rfl hb rfl rfl (by omega) (i:=1) (r:=[.int .u8 (y1.toNat:Nat)]) rfl rfl (fun p=>?_);(repeat(refine xT ?_));refine aa.b9 rfl rfl rfl (fun _=>rfl) rfl rfl hb rfl rfl (by omega) (i:=2) (r:=[.int .u8 (y2.toNat:Nat)]) rfl rfl (fun p=>?_);(repeat(refine xT ?_));refine aa.b9 rfl rfl rfl (fun _=>rfl) rfl rfl hb rfl rfl (by omega) (i:=3) (r:=[.int .u8 (y3.toNat:Nat)]) rfl rfl (fun p=>?_);(repeat(first|refine xT ?_|refine xL ?_));refine aa.nil ?_;dsimp only[Fr.aj,Fr.put,Fr.clean,Fr.ev,Fr.get,nth,V.look,u1,u2,v1,v2,v3,v4,v5,v6,v7,List.length,u3,u4,Nat.reduceSub,Nat.reduceAdd,List.map];subst hK;rw[uU (j:=3) (m:=7) hc (by omega) (by decide),uU (j:=6) (m:=63) hy1 (by omega) (by decide),uU (j:=6) (m:=63) uZ (by omega) (by decide),uU (j:=6) (m:=63) Bh (by omega) (by decide),BU (c:=c.toNat %2^3) (by omega),BU (c:=y1.toNat %2^6) (by omega),BU (c:=y2.toNat %2^6) (by omega),BU (c:=y3.toNat %2^6) (by omega),sA 18 (by decide) (by omega) (by omega),sA 12 (by decide) (by omega) (by omega),sA 6 (by decide) (by omega) (by omega),A1 18 rfl (by omega) (by omega),A1 (a:=c.toNat %2^3*64+y1.toNat %2^6) 12 (by omega) (by omega) (by omega),A1 (a:=(c.toNat %2^3*64+y1.toNat %2^6)*64+y2.toNat %2^6) 6 (by omega) (by omega) (by omega)];refine H _ _ _ ?_ rfl;rw[ho];simp[lf,jW]
end Go.Proofs.YtbdnabmmlbiomaaGreat
namespace Go.Proofs.YtbdnabmmlbiomaaGreat
open Go.V Go
end Go.Proofs.YtbdnabmmlbiomaaGreat
