import Derived.Test.YtbdnabmmlbiomaaGreatWGQh
import Derived.Test.YtbdnabmmlbiomaaGreatWM2
import Derived.DataReads
import Derived.ChangeOld
import GoSem.ClaimChange
import Derived.Below
import Derived.Test.YtbdnabmmlbiomaaGreatRows
import Derived.Test.YtbdnabmmlbiomaaGreatWGUb
import Derived.Test.YtbdnabmmlbiomaaGreatWGQa
set_option linter.unusedSimpArgs false
set_option linter.unnecessarySimpa false
set_option linter.unusedSectionVars false
set_option maxRecDepth 100000
set_option linter.unusedVariables false
set_option maxHeartbeats 4000000
namespace Go.Proofs.YtbdnabmmlbiomaaGreat
open Go.V Go
theorem BI {lo hi u:Nat} {i:aJ} (h:dx lo hi i) (h1:lo≤u+1) (h2:u+1≤hi):∀v∈c8 u i,(lo:Int)≤v∧v≤hi:=by
 intro v hv;unfold c8 at hv
 rcases h with⟨a,_⟩|⟨a,_,c,d⟩|⟨a,_,_,d⟩|⟨a,_⟩|⟨a,_⟩
 ·rw[if_neg (by omega),if_neg (by omega),if_neg (by omega)] at hv;simp only[List.mem_cons,List.not_mem_nil,or_false] at hv;omega
 ·rw[if_pos a] at hv;simp only[List.mem_cons,List.not_mem_nil,or_false] at hv
  rcases hv with rfl|rfl<;>omega
 ·rw[if_neg (by omega),if_pos a] at hv;simp only[List.mem_cons,List.not_mem_nil,or_false] at hv;omega
 ·rw[if_neg (by omega),if_neg (by omega),if_neg (by omega)] at hv;simp only[List.mem_cons,List.not_mem_nil,or_false] at hv;omega
 ·rw[if_neg (by omega),if_neg (by omega),if_neg (by omega)] at hv;simp only[List.mem_cons,List.not_mem_nil,or_false] at hv;omega
theorem xg {lo hi n ns pc:Nat} {i:aJ} (h:dx lo hi i) (h1:hi<n) (h2:pc+1<n):db n ns pc i=true:=by
 have Mq:∀v:Int,(lo:Int)≤v→v≤hi→rE v n=true:=fun v a b=>eE.2 ⟨by omega,by omega⟩;have hd:decide (((pc+1:Nat):Int)<n)=true:=by rw[decide_eq_true_eq];omega
 unfold db
 rcases h with⟨a,b,c,d⟩|⟨a,b,c,d⟩|⟨a,b,c,d⟩|⟨a,b,c,d⟩|⟨a,b,c,d⟩
 ·rw[if_pos a,hd,b,c,d];rfl
 ·rw[if_neg (by omega),if_pos a,b,Mq _ c.1 c.2,Mq _ d.1 d.2];rfl
 ·rw[if_neg (by omega),if_neg (by omega),if_pos a,b,c,Mq _ d.1 d.2];rfl
 ·rw[if_neg (by omega),if_neg (by omega),if_neg (by omega),if_pos a,b,c,hd,eE.2 ⟨d.1,d.2⟩];rfl
 ·rw[if_neg (by omega),if_neg (by omega),if_neg (by omega),if_neg (by omega),if_pos a,b,c,hd,d];rfl
theorem n5 {t:Tr} {b r o:Nat} {q:aJ} (h1:t.ok) (h2:EU t.flat) (h:(e5 t b r)[o]?=some q):(o<t.sz+2∧dx b (b+t.sz+2) q)∨(o=t.sz+2∧q=dp 7 (r:Nat) 0 []):=by
 have hl:=cK t (b+1) h1;have hA:e5 t b r=(dp 4 0 0 []::(aV t (b+1)++[dp 4 1 0 []]))++[dp 7 (r:Nat) 0 []]:=by unfold e5;simp
 have hAl:(dp 4 0 0 []::(aV t (b+1)++[dp 4 1 0 []])).length=t.sz+2:=by simp[hl]
 rw[hA] at h
 by_cases ho:o<t.sz+2
 ·rw[List.getElem?_append_left (by omega)] at h;refine .inl ⟨ho,?_⟩;have hm:=List.mem_of_getElem? h
  rcases List.mem_cons.1 hm with rfl|hm
  ·exact dx.save (by omega)
  ·rcases List.mem_append.1 hm with hm|hm
   ·exact(kE t (b+1) h1 h2 q hm).mono (by omega) (by omega)
   ·simp only[List.mem_cons,List.not_mem_nil,or_false] at hm;subst hm;exact dx.save (by omega)
 ·rw[List.getElem?_append_right (by omega),hAl] at h;have h0:=bj h;simp only[List.length_cons,List.length_nil] at h0;have tG:o=t.sz+2:=by omega
  refine .inr ⟨tG,?_⟩;rw[tG,Nat.sub_self] at h;exact(Option.some.inj h).symm
structure UZ (p:Pg) (r s e:Nat):Prop where
 st:p.az[r]?=some (s:Int)
 se:s<e
 el:e≤p.code.length
 nx:∀b':Int,p.az[r+1]?=some b'→b'=(e:Int)
 la:r+1=p.az.length→p.code.length=e
 mt:p.code[e-1]?=some (dp 7 (r:Nat) 0 [])
 fi:(qX p (r:Nat))[0]?=some (s:Int)
 lt:(qX p (r:Nat))[(qX p (r:Nat)).length-1]?=some ((e-1:Nat):Int)
theorem A6 {X:List Int} {a b:Int} (hp:X.Pairwise (·<·)) (ha:a∈X) (hb:b∈X) (h:∀v∈X,a≤v∧v≤b):X[0]?=some a∧X[X.length-1]?=some b:=by
 obtain⟨i,hi⟩:=List.getElem?_of_mem ha;obtain⟨j,hj⟩:=List.getElem?_of_mem hb;have hil:=bj hi;have kL:=bj hj
 have hlt:∀u v (x y:Int),u<v→X[u]?=some x→X[v]?=some y→x<y:=fun u v x y huv hx hy=>by
  have:=List.pairwise_iff_getElem.1 hp u v (bj hx) (bj hy) huv;have ex:X[u]'(bj hx)=x:=Option.some.inj ((List.getElem?_eq_getElem _).symm.trans hx);have ey:X[v]'(bj hy)=y:=Option.some.inj ((List.getElem?_eq_getElem _).symm.trans hy);rw[ex,ey] at this;exact this
 constructor
 ·obtain⟨x,hx⟩:∃x,X[0]?=some x:=⟨X[0]'(by omega),List.getElem?_eq_getElem _⟩
  have:=h x (List.mem_of_getElem? hx)
  by_cases h0:i=0
  ·rw[←h0];exact hi
  ·have:=hlt 0 i x a (by omega) hx hi;omega
 ·obtain⟨x,hx⟩:∃x,X[X.length-1]?=some x:=⟨X[X.length-1]'(by omega),List.getElem?_eq_getElem _⟩
  have:=h x (List.mem_of_getElem? hx)
  by_cases h0:j=X.length-1
  ·rw[←h0];exact hj
  ·have:=hlt j (X.length-1) b x (by omega) hj hx;omega
theorem yz {parts:List (List dW)} (hl:parts.length≤8) (he:(bF parts).e=0) (hcl:(bF parts).code.length≤400):
  bB (pM (bF parts).code (bF parts).az)∧(bF parts).az.length=parts.length∧∀r,r<parts.length→∃s e,UZ (pM (bF parts).code (bF parts).az) r s e:=by
 have iS:bF parts=fe parts 0 [] []:=by unfold bF;rw[if_neg (by omega)]
 rw[iS] at he hcl⊢;obtain⟨C,B,h1,h2,h3⟩:=rY parts 0 [] [] he;simp only[List.nil_append] at h1 h2;simp only[List.length_nil] at h3;rw[h1] at hcl;rw[h1,h2];have Vp:=h3.bl
 have hsh:∀pc i,C[pc]?=some i→db C.length B.length pc i=true:=by
  intro pc i hi;obtain⟨j,q1,t,b,q2,q3,q4,q5,q6,q7,q8,q9⟩:=h3.al pc i hi;rw[Nat.zero_add] at q9
  rcases n5 q3 q4 q9 with⟨g1,g2⟩|⟨g1,g2⟩
  ·exact xg g2 (by omega) (by omega)
  ·rw[g2];have:rE ((j:Nat):Int) B.length=true:=eE.2 ⟨by omega,by omega⟩;unfold db dp;simp[this]
 have TQ:jo C:=oL (p:=pM C B) hsh
 have DH:∀r,r<parts.length→∃s e:Nat,B[r]?=some (s:Int)∧s<e∧e≤C.length∧(∀b':Int,B[r+1]?=some b'→b'=(e:Int))∧(r+1=parts.length→C.length=e)∧C[e-1]?=some (dp 7 (r:Nat) 0 [])∧(∀u:Nat,(cO C (s:Nat))[u]?=some true→s≤u∧u<e)∧(cO C (s:Nat))[s]?=some true∧(cO C (s:Nat))[e-1]?=some true∧∀u i,s≤u→u<e→C[u]?=some i→i.op=7→i.x=(r:Int):=by
  intro r hr;obtain⟨t,b,q1,q2,q3,q4,q5,q6,pre,post,q7,q8⟩:=h3.el r hr;rw[Nat.zero_add] at q6 q8;rw[Nat.zero_add] at q7;have pt:=lK (b:=b) (r:=r) q1;have RF:C.length=b+(t.sz+3)+post.length:=by rw[q7,List.length_append,List.length_append,pt,q8]
  have jb:∀u,b≤u→u<b+t.sz+3→C[u]?=(e5 t b r)[u-b]?:=fun u g1 g2=>by
   rw[q7,List.append_assoc,List.getElem?_append_right (by omega),q8,List.getElem?_append_left (by omega)]
  have kq:fY C b (e5 t b r):=⟨post,by rw[q7,List.append_assoc,←q8,List.drop_left]⟩
  have Mq:∀u:Nat,(cO C (b:Nat))[u]?=some true→b≤u∧u<b+t.sz+3:=by
   unfold cO;refine y7 (I:=fun u=>b≤u∧u<b+t.sz+3) (fun u i hu hi v hv=>?_) _ _ _ (fun v hv=>?_) (fun u hu=>?_)
   ·rw[jb u hu.1 hu.2] at hi
    rcases n5 q1 q2 hi with⟨g1,g2⟩|⟨g1,g2⟩
    ·have:=BI (u:=u) g2 (by omega) (by omega) v hv;omega
    ·rw[g2] at hv;have:c8 u (dp 7 (r:Nat) 0 [])=[]:=by unfold c8 dp;simp
     rw[this] at hv;cases hv
   ·simp only[List.mem_cons,List.not_mem_nil,or_false] at hv;subst hv;rw[Int.toNat_natCast];omega
   ·rw[List.getElem?_replicate] at hu
    split at hu<;>cases hu
  have hs:=wg (s:=b) TQ (by omega)
  have hmt:C[b+t.sz+3-1]?=some (dp 7 (r:Nat) 0 []):=by
   rw[jb _ (by omega) (by omega)];unfold e5;have sO:=cK t (b+1) q1;rw[show b+t.sz+3-1-b=(t.sz+1)+1 by omega,List.getElem?_cons_succ,List.getElem?_append_right (by omega),sO,show t.sz+1-t.sz=1 by omega]
   rfl
  have S0:Path C b (b+t.sz+3-1):=by
   unfold e5 at kq;have p1:Path C b (b+1):=Path.yZ kq.head (by show(4:Int)≠2∧(4:Int)≠3∧(4:Int)≠7;decide);have p2:=BX (C:=C) _ t (Nat.le_refl _) (b+1) q1 kq.tail.left;have h4:=kq.tail.right;rw[cK t _ q1] at h4;have p3:Path C (b+1+t.sz) (b+1+t.sz+1):=Path.yZ h4.head (by show(4:Int)≠2∧(4:Int)≠3∧(4:Int)≠7;decide);rw[show b+t.sz+3-1=b+1+t.sz+1 by omega];exact p1.trans (p2.trans p3)
  refine⟨b,b+t.sz+3,q3,by omega,by omega,fun b' eF=>q5 b' eF,q6,hmt,Mq,hs,A' TQ ⟨by omega,by omega⟩ S0 hs,fun u i g1 g2 hi ho=>?_⟩;rw[jb u g1 g2] at hi
  rcases n5 q1 q2 hi with⟨_,g3⟩|⟨_,g3⟩
  ·rcases g3 with⟨a,_⟩|⟨a,_⟩|⟨a,_⟩|⟨a,_⟩|⟨a,_⟩<;>omega
  ·rw[g3];rfl
 have hR:bB (pM C B):=by
  refine⟨hcl,by show B.length≤8;omega,hsh,fun v hv=>?_,fun r s hs pc i Lp SL hi ho=>?_⟩
  ·obtain⟨r,hr⟩:=List.getElem?_of_mem (show v∈B from hv);obtain⟨s,e,g1,g2,g3,_⟩:=DH r (by rw[←Vp];exact bj hr);rw[g1] at hr;cases hr;show(0:Int)≤(s:Int)∧(s:Int)<(C.length:Int);omega
  ·have hs:B[r]?=some s:=hs;obtain⟨s',e,g1,g2,g3,g4,g5,g6,g7,g8,g9,g10⟩:=DH r (by rw[←Vp];exact bj hs);rw[g1] at hs;cases hs;obtain⟨k1,k2⟩:=g7 pc SL;exact g10 pc i k1 k2 hi ho
 refine⟨hR,by rw[Vp],fun r hr=>?_⟩;obtain⟨s,e,g1,g2,g3,g4,g5,g6,g7,g8,g9,g10⟩:=DH r hr
 have Zv:qX (pM C B) (r:Nat)=rh 0 (cO C (s:Nat)):=by
  unfold qX;have hi:rE ((r:Nat):Int) (pM C B).az.length=true:=eE.2 ⟨by omega,by show((r:Nat):Int)<(B.length:Nat);omega⟩;rw[nr hR,hi]
  have yO:(pM C B).az.getD ((r:Nat):Int).toNat 0=(s:Int):=by
   rw[Int.toNat_natCast,List.getD_eq_getElem?_getD];show(B[r]?).getD 0=_;rw[g1];rfl
  rw[yO];rfl
 have Ms:=A6 (tl (cO C (s:Nat)) 0) (a:=(s:Int)) (b:=((e-1:Nat):Int)) (jM.2 ⟨s,g8,by rw[Nat.zero_add]⟩) (jM.2 ⟨e-1,g9,by rw[Nat.zero_add]⟩) (fun v hv=>by
  obtain⟨k,k1,k2⟩:=jM.1 hv;have:=g7 k k1
  omega)
 exact⟨s,e,g1,g2,g3,fun b' eF=>g4 b' eF,fun iv=>g5 (by rw[←Vp];exact iv),g6,by rw[Zv];exact Ms.1,by rw[Zv];exact Ms.2⟩
def mB (fr:Go.V.Fr) (k:Nat):Go.V.D:=Go.V.nth .bD fr.loc k
theorem tV:∀(ls:List (List dW)) (r:Nat) (c:List aJ) (s:List Int),(fe ls r c s).e≠0→(fe ls r c s).code=[]∧(fe ls r c s).az=[]
 |[],r,c,s,h=>by rw[oJ] at h;exact absurd rfl h
 |l::ls,r,c,s,h=>by
  rw[fe] at h⊢
  split
  ·exact⟨rfl,rfl⟩
  ·rename_i h1;rw[if_neg h1] at h
   split
   ·exact⟨rfl,rfl⟩
   ·rename_i h2;rw[if_neg h2] at h;exact tV ls _ _ _ h
theorem pg {ls:List (List dW)} (h:(bF ls).e≠0):(bF ls).code=[]∧(bF ls).az=[]:=by
 unfold bF at h⊢
 split
 ·exact⟨rfl,rfl⟩
 ·rename_i h1;rw[if_neg h1] at h;exact tV _ _ _ _ h
theorem x6:bB (pM [] []):=⟨by simp[pM],by simp[pM],fun pc i h=>by simp[pM] at h,fun v h=>by simp[pM] at h,fun r s h=>by simp[pM] at h⟩
theorem sV {ls:List (List dW)} (hl:ls.length≤8) (hcl:(bF ls).code.length≤400):bB (pM (bF ls).code (bF ls).az):=by
 by_cases he:(bF ls).e=0
 ·exact(yz hl he hcl).1
 ·rw[(pg he).1,(pg he).2];exact x6
theorem Bn {s0:St} {x:D} {ps:List (List UInt8)} (hx:V.Rows s0 1 x (ps.map AX)) (hl:ps.length≤1048576) (hb:∀b∈ps,b.length≤1048576):∃d,Ev pv 27 [x] s0 d s0∧∃(p:Pg) (ok:Bool),d=.tup [p.d,.bool ok]∧p.ok∧bB p:=by
 refine Ev.E0 rfl Yu rfl rfl rfl ?_;dsimp only[u3,u4,List.length,Nat.reduceSub,Nat.reduceAdd,w1,w2];obtain⟨cA,hF,hH⟩:=ri s0;generalize ai .ro s0=S at*;have hx:=Arg.of hx cA;refine qq<|qj fun K hK=>qa hH fun k2 st hk2 hH=>?_;refine qm ?_;refine qe hK<|qq<|qj fun K hK=>qm ?_;refine qe hK<|qq<|qq<|qj fun K hK=>qm ?_;refine qe hK ?_;have hH:Has s0.bs.length S st (.aM .nul 1 (([]:List (List dW)).map eD)::.box k2 (.mem 0 false [.nul,.nul])::[]):=hH.er 1;refine ag.block<|ag.loop (fun mm fr st=>∃(i:Nat) (ld:D) (parts:List (List dW)),fr.clean=⟨11,[x,mB fr 1,.ptr k2 0 0,.bool false,ld,.int .i64 (i:Nat),mB fr 6,mB fr 7,mB fr 8,mB fr 9,mB fr 10],[]⟩∧Has s0.bs.length S st [.aM ld 1 (parts.map eD),.box k2 (.mem 0 false [.nul,.nul])]∧(i+mm=8)∧(∀l∈parts,(∀n∈l,vB n)∧l.length≤500)∧(parts.length≤i)) (8) ?_ ?_
 ·exact⟨0,.nul,[],rfl,hH,by omega,fun l hl=>(by cases hl),by simp⟩
 rintro mm fr st ⟨i,ld,parts,hfr,hH,hi,hp,fU⟩;rw[hfr];clear hfr;generalize mB fr=ee;clear fr;refine qq<|qq<|ag.kD 19 (.bool (decide (((i:Nat):Int)<((ps.length:Nat):Int)) &&decide (((i:Nat):Int)<8))) [] ?_ (fun ff tmp hO=>?_)
 ·refine qm ?_;refine qm ?_;refine qn ?_;simp only[List.length_map];refine qg ?_;refine qm ?_;refine aa.two 16 rfl (fun jT=>?_) (fun jT=>?_)
  ·refine qm ?_ (hg:=wi jT);refine qg ?_ (hg:=wi jT);refine qt jT ?_;refine aa.nil (dv ?_ ?_)
   ·dsimp only[aO,List.foldl,nth,u2,u1]
    all_goals(first|rfl|simp)
   ·dsimp only[Fr.aE,Fr.put,Fr.clean,Fr.ev,Fr.get,nth,V.look,u1,u2,v1,v2,v3,v4,v5,v6,v7,List.length,u3,u4,Nat.reduceSub,Nat.reduceAdd,List.map]
    all_goals(simp_all;done)
  ·refine qs ?_ (hg:=wn jT);refine qs ?_ (hg:=wn jT);refine qu jT ?_;refine aa.nil (dv ?_ ?_)
   ·dsimp only[aO,List.foldl,nth,u2,u1]
    all_goals(first|rfl|simp)
   ·dsimp only[Fr.aE,Fr.put,Fr.clean,Fr.ev,Fr.get,nth,V.look,u1,u2,v1,v2,v3,v4,v5,v6,v7,List.length,u3,u4,Nat.reduceSub,Nat.reduceAdd,List.map]
    all_goals(simp_all;omega)
 dsimp only[aO,List.foldl,nth,u2,u1];dsimp only[Fr.aE,Fr.put,Fr.clean,Fr.ev,Fr.get,nth,V.look,u1,u2,v1,v2,v3,v4,v5,v6,v7,List.length,u3,u4,Nat.reduceSub,Nat.reduceAdd,List.map]
 by_cases hlt:i<ps.length∧i<8
 ·obtain⟨b,QT⟩:∃b,ps[i]?=some b:=⟨ps[i]'hlt.1,List.getElem?_eq_getElem _⟩
  have iv:=Fj QT;have hbl:=hb b (List.mem_of_getElem? QT);have rJ:(decide (((i:Nat):Int)<((ps.length:Nat):Int)) &&decide (((i:Nat):Int)<8))=true:=by rw[Bool.and_eq_true,decide_eq_true_eq,decide_eq_true_eq];omega
  rw[rJ] at hO;refine qB ?_;refine ag.skip<|qq<|ag.block ?_;obtain⟨_,aN,l,e,w,rfl,hv,yM⟩:=C3 (s0:=st) hbl;refine qq<|qj fun K hK=>qm ?_;refine qm ?_;refine qr fun U6 Lq=>?_;refine qR ?_;refine qv (aN) ?_;refine qm ?_;refine qg ?_;refine qg ?_;refine qg ?_;refine qm ?_;refine qm ?_;refine qm ?_;refine qe hK<|qq<|qj fun K hK=>qm ?_;refine qg ?_;refine qe hK ?_;refine ag.cond (by rfl) (fun he=>?_) (fun he=>?_)<;>try simp only[beq_iff_eq,beq_eq_false_iff_ne,ne_eq] at he
  ·refine qj fun K hK=>qm ?_;refine qm ?_;refine qh (s:=1) (vs:=[_]) hH fun k35 st W_ hH=>?_;refine aa.bP (s:=1) hH rfl (ev rfl) (ev rfl) (by exact aS) (by exact hH.rows (by exact au)) rfl rfl rfl rfl rfl rfl rfl ⟨(Nat.le_of_ble_eq_true rfl),(Nat.le_of_ble_eq_true rfl)⟩ (fun _=>(ab rfl _)) (by simp only[List.length_cons,List.length_nil,List.length_map]<;>omega) (by exact .inl hF) (fun x36 st hH=>?_);dsimp only[u2,u1,u3,u4,setMany,u5,u6,D.cells,Nat.reduceAdd,eD,pj,Pg.d,Pg.cs,pM] at hH;refine qm ?_;refine qe hK ?_;have hH:=hH.drop 1;refine qj fun K hK=>qm ?_;refine qA ?_;refine qm ?_;refine qe hK ?_;refine⟨mm-1,by omega,⟨i+1,x36,parts++[l],rfl,(by rw[List.map_append];exact hH),by omega,?_,by rw[List.length_append];simp only[List.length_cons,List.length_nil];omega⟩⟩;intro l' iD
   rcases List.mem_append.1 iD with iD|iD
   ·exact hp l' iD
   ·simp only[List.mem_cons,List.not_mem_nil,or_false] at iD;subst iD;exact⟨hv,yM⟩
  ·refine ag.skip<|qj fun K hK=>qm ?_;refine qA ?_;refine qm ?_;refine qe hK ?_;exact⟨mm-1,by omega,⟨i+1,ld,parts,rfl,hH,by omega,hp,by omega⟩⟩
 ·have rJ:(decide (((i:Nat):Int)<((ps.length:Nat):Int)) &&decide (((i:Nat):Int)<8))=false:=by
   rw[Bool.and_eq_false_iff,decide_eq_false_iff_not,decide_eq_false_iff_not];omega
  rw[rJ] at hO;refine qC ?_;refine ag.exit ?_;obtain⟨aN,bd,hlen⟩:=zf hp (by omega) (hH.rows au);have hR:=sV (ls:=parts) (by omega) hlen;generalize bF parts=R at*;refine qq<|qj fun K hK=>qm ?_;refine qv (aN) ?_;refine qm ?_;refine qg ?_;refine qg ?_;refine qg ?_;refine qa hH fun k9 st hk9 hH=>?_;refine qS hH au fun st hH=>?_;dsimp only[u2,u1,u3,u4,setMany,u5,u6,D.cells,Nat.reduceAdd,eD,pj,Pg.d,Pg.cs,pM] at hH;refine qm ?_;refine qm ?_;refine qe hK<|qq<|qj fun K hK=>?_;refine aa.bk (m:=2) hH rfl (ev rfl) (by exact au) (by dsimp only[List.drop_succ_cons,List.drop_zero,List.take_succ_cons,List.take_zero,eD,pj,Pg.d,Pg.cs,pM]<;>rfl) rfl rfl (ab rfl _) ?_;refine qm ?_;refine qg ?_;refine qS hH ba fun st hH=>?_;dsimp only[u2,u1,u3,u4,setMany,u5,u6,D.cells,Nat.reduceAdd,eD,pj,Pg.d,Pg.cs,pM] at hH;refine qm ?_;refine qe hK<|ag.ret ⟨rx,_,_,hH.dg rfl ba rfl rfl,rl cA hH (show _=some (D.tup [(pM R.code R.az).d,.bool (R.e==0)]) from rfl),⟨_,_,rfl,bd,hR⟩⟩
end Go.Proofs.YtbdnabmmlbiomaaGreat
namespace Go.V
open Go.RowKit
def oB {H:Type}:DataW H→Bool
 | .agg _=>true
 |_=>false
mutual
def vA {H:Type}:DataW H→List D
 | .lit (.bool b)=>[.bool b]
 | .lit (.int k n)=>[.int k n]
 | .lit (.string l)=>[.str l]
 | .lit _=>[.bD]
 | .nil=>[.nul]
 | .slice elems _=>[.sl (vj elems)]
 | .agg parts=>ly parts
 | .ptr _=>[.bD]
 | .iface _ _=>[.bD]
 | .map _=>[.bD]
 | .held _=>[.bD]
def vj {H:Type}:List (DataW H)→List D
 |[]=>[]
 |d::r=>(if oB d then .agg (vA d) else(vA d).headD .bD)::vj r
def ly {H:Type}:List (DataW H)→List D
 |[]=>[]
 |d::r=>vA d++ly r
end
def jc {H:Type} (d:DataW H):D:=if oB d then .agg (vA d) else(vA d).headD .bD
theorem rT {H:Type}:∀l:List (DataW H),vj l=l.map jc
 |[]=>rfl
 |d::r=>by simp only[vj,List.map_cons,rT r];rfl
def rX (P:Program):Nat→List Field→Option Nat
 |o,[]=>some o
 |o,f::fs=>if f.offset=o then rX P (o+P.cellsOf f.type) fs else none
def z6 (P:Program):Nat→TypeId→Bool
 |0,_=>false
 |n+1,t=>match P.underlying t with
  |some .bool=>true
  |some (.int _)=>true
  |some .string=>true
  |some (.slice e)=>z6 P n e &&decide (0<P.cellsOf e)
  |some (.struct fs)=>(rX P 0 fs.toList==some (P.cellsOf t)) &&fs.toList.all fun f=>z6 P n f.type
  |some (.array m e)=>z6 P n e &&(P.cellsOf t==m*P.cellsOf e)
  |_=>false
structure CR (w:World) (Z:Nat→Prop) (cs:List D) (vs:List Value):Prop where
 len:cs.length=vs.length
 one:∀v∈vs,v.oneCell'=true
 onec:∀c∈cs,c.cells?=some [c]
 rel:∀(i:Nat) c v,cs[i]?=some c→vs[i]?=some v→IR w Z c v
theorem CR.nil {w:World} {Z:Nat→Prop}:CR w Z [] []:=⟨rfl,by simp,by simp,by simp⟩
theorem CR.single {w:World} {Z:Nat→Prop} {c:D} {v:Value} (h:IR w Z c v) (h1:v.oneCell'=true) (h2:c.cells?=some [c]):CR w Z [c] [v]:=
 ⟨rfl,by simpa using h1,by simpa using h2,fun i c' v' hc hv=>by
  cases i with
  |zero=>simp at hc hv;subst hc;subst hv;exact h
  |succ i=>simp at hc⟩
theorem CR.append {w:World} {Z:Nat→Prop} {cs cs':List D} {vs RL:List Value} (h:CR w Z cs vs) (g:CR w Z cs' RL):CR w Z (cs++cs') (vs++RL):=by
 refine⟨by simp[h.len,g.len],fun v hv=>?_,fun c hc=>?_,fun i c v hc hv=>?_⟩
 ·rcases List.mem_append.1 hv with hv|hv
  ·exact h.one v hv
  ·exact g.one v hv
 ·rcases List.mem_append.1 hc with hc|hc
  ·exact h.onec c hc
  ·exact g.onec c hc
 ·rw[List.getElem?_append] at hc hv;have:=h.len
  split at hc
  ·rw[if_pos (by omega)] at hv;exact h.rel i c v hc hv
  ·rw[if_neg (by omega)] at hv;rw[←this] at hv;exact g.rel _ c v hc hv
theorem wv {H:Type} {P:Program} {w:World} {Z:Nat→Prop} {f:Field→Option (DataW H×List MemPlace)} {cs:List Value}:∀{fs:List Field} {o e:Nat} {xs:List (DataW H×List MemPlace)},rX P o fs=some e→e≤cs.length→fs.mapM f=some xs→
  (∀g∈fs,∀x,f g=some x→CR w Z (vA x.1) ((cs.drop g.offset).take (P.cellsOf g.type)))→CR w Z (ly (xs.map (·.1))) ((cs.drop o).take (e-o))∧o≤e
 |[],o,e,xs,hc,_,hm,_=>by
  simp[rX] at hc;subst hc;simp at hm;subst hm;simp[ly];exact CR.nil
 |g::fs,o,e,xs,hc,he,hm,hx=>by
  simp only[rX] at hc
  split at hc
  ·rename_i ho;rw[List.mapM_cons] at hm
   cases h1:f g with
   |none=>rw[h1] at hm;simp at hm
   |some x=>
    rw[h1] at hm
    cases h2:fs.mapM f with
    |none=>rw[h2] at hm;simp at hm
    |some ys=>
     rw[h2] at hm;simp at hm;subst hm;obtain⟨ih,hle⟩:=wv hc he h2 fun g' hg'=>hx g' (List.mem_cons_of_mem _ hg');have hg:=hx g (List.mem_cons_self ..) x h1;rw[ho] at hg;refine⟨?_,by omega⟩;simp only[List.map_cons,ly]
     have:(cs.drop o).take (e-o)=(cs.drop o).take (P.cellsOf g.type)++(cs.drop (o+P.cellsOf g.type)).take (e-(o+P.cellsOf g.type)):=by
      rw[←List.drop_drop,show e-o=P.cellsOf g.type+(e-(o+P.cellsOf g.type)) by omega,List.take_add]
     rw[this];exact hg.append ih
  ·cases hc
theorem xk {H:Type} {w:World} {Z:Nat→Prop} {s:Nat} {f:Nat→Option (DataW H×List MemPlace)} {cs:List Value}:∀{m k:Nat} {xs:List (DataW H×List MemPlace)},(List.range' k m).mapM f=some xs→(k+m)*s≤cs.length→
  (∀i x,f i=some x→CR w Z (vA x.1) ((cs.drop (i*s)).take s))→CR w Z (ly (xs.map (·.1))) ((cs.drop (k*s)).take (m*s))
 |0,k,xs,hm,_,_=>by simp at hm;subst hm;simp[ly];exact CR.nil
 |m+1,k,xs,hm,hl,hx=>by
  rw[List.range'_succ,List.mapM_cons] at hm
  cases h1:f k with
  |none=>rw[h1] at hm;simp at hm
  |some x=>
   rw[h1] at hm
   cases h2:(List.range' (k+1) m).mapM f with
   |none=>rw[h2] at hm;simp at hm
   |some ys=>
    rw[h2] at hm;simp at hm;subst hm;have ih:=xk h2 (by rw[show k+1+m=k+(m+1) by omega];exact hl) hx;simp only[List.map_cons,ly];rw[show(m+1)*s=s+m*s by rw[Nat.add_mul];omega,List.take_add,List.drop_drop,show k*s+s=(k+1)*s by rw[Nat.add_mul];omega];exact(hx k x h1).append ih
theorem cells_one {c:D} (h:c.cells?=some [c]):c.cells=[c]:=by
 cases c<;>first|rfl|cases h|(simp only[D.cells?,Option.some.injEq] at h;simpa only[D.cells] using h)
theorem xG (b off n:Nat):(⟨b,off,none⟩:Addr).add n=⟨b,off+n,none⟩:=by
 cases n<;>simp[Addr.add]
theorem pD {H:Type} {enc:TypeId×Value→H} {P:Program} {w:World} {spare:Nat→Bool} {held:Bool}:∀(fuel:Nat) (t:TypeId) (cs:List Value) (d:DataW H) (ps:List MemPlace) (n:Nat),DataW.trod enc P w 0 spare held fuel t cs=some (d,ps)→z6 P n t=true→
  CR w (fun b=>b<w.heap.size) (vA d) cs∧cs.length=(match P.underlying t with|some (.struct _)|some (.array _ _)=>P.cellsOf t|_=>1)∧(oB d=(match P.underlying t with|some (.struct _)|some (.array _ _)=>true|_=>false))
 |0,t,cs,d,ps,n,h,_=>by simp[DataW.trod] at h
 |fuel+1,t,cs,d,ps,0,h,ht=>by simp[z6] at ht
 |fuel+1,t,cs,d,ps,n+1,h,ht=>by
  simp only[z6] at ht;unfold DataW.trod at h
  cases hu:P.underlying t with
  |none=>rw[hu] at ht;simp at ht
  |some u=>
   rw[hu] at h ht
   cases u with
   |bool=>
    rcases cs with _|⟨v,_|⟨v2,cs⟩⟩<;>try(simp at h;done)
    cases v<;>simp at h
    obtain⟨rfl,rfl⟩:=h;exact⟨CR.single (.bool _) rfl rfl,rfl,rfl⟩
   |int k=>
    rcases cs with _|⟨v,_|⟨v2,cs⟩⟩<;>try(simp at h;done)
    cases v<;>simp at h
    obtain⟨⟨rfl,_⟩,rfl,rfl⟩:=h;exact⟨CR.single (.int _ _) rfl rfl,rfl,rfl⟩
   |string=>
    rcases cs with _|⟨v,_|⟨v2,cs⟩⟩<;>try(simp at h;done)
    cases v<;>simp at h
    rename_i b;obtain⟨_,rfl,rfl⟩:=h;refine⟨CR.single ?_ rfl rfl,rfl,rfl⟩;have:=IR.str (w:=w) (Z:=fun b=>b<w.heap.size) b.data.toList
    simpa using this
   |slice e=>
    simp only[Bool.and_eq_true,decide_eq_true_eq] at ht
    rcases cs with _|⟨v,_|⟨v2,cs⟩⟩<;>try(simp at h;done)
    cases v<;>try(simp at h;done)
    rename_i a len cap
    cases a with
    |none=>
     cases len<;>cases cap<;>simp at h
     obtain⟨rfl,rfl⟩:=h;exact⟨CR.single .nul rfl rfl,rfl,rfl⟩
    |some a=>
     simp only at h
     split at h
     ·rename_i hc;simp only[Option.bind_eq_some_iff,Option.map_eq_some_iff] at h;obtain⟨elems,he,rest,hr,hd⟩:=h;cases hd;refine⟨?_,rfl,rfl⟩;have hlen:elems.length=len:=by simpa using mapM_some_length he
      have hget:=mapM_some_get he
      have each:∀(i:Nat),i<len→∃x cs,elems[i]?=some x∧w.cells? 0 (a.add (i*P.cellsOf e)) (P.cellsOf e)=some cs∧CR w (fun b=>b<w.heap.size) (vA x.1) cs∧cs.length=P.cellsOf e∧(oB x.1=(match P.underlying e with|some (.struct _)|some (.array _ _)=>true|_=>false))∧cs.length=(match P.underlying e with|some (.struct _)|some (.array _ _)=>P.cellsOf e|_=>1):=by
       intro i hi;have h1:=hget i i (by simp[hi]);have h2:elems[i]?=some (elems[i]'(by omega)):=List.getElem?_eq_getElem _;rw[h2] at h1;obtain⟨cs,iS,hx⟩:=Option.bind_eq_some_iff.1 h1;obtain⟨q1,q2,q3⟩:=pD fuel e cs _ _ n hx ht.1;exact⟨_,cs,h2,iS,q1,(World.cells?_some iS).2.1,q3,q2⟩
      refine CR.single ?_ rfl rfl
      cases len with
      |zero=>
       have:elems=[]:=by cases elems with|nil=>rfl|cons _ _=>simp at hlen
       subst this;exact .emp _ _
      |succ m=>
       have Zu:a.spot=none∧a.block<w.heap.size:=by
        obtain⟨x,cs,_,h2,_,_⟩:=each 0 (by omega);refine⟨?_,?_⟩
        ·have:=(World.cells?_some h2).2.2 0 ht.2;have hl:=(World.cells?_some h2).2.1
         obtain⟨c0,XE⟩:∃c0,cs[0]?=some c0:=⟨cs[0]'(by omega),List.getElem?_eq_getElem _⟩
         rw[XE] at this
         simpa[Addr.add] using World.cell?_spot this
        ·simpa[Addr.add] using World.cells?_block h2 ht.2
       obtain⟨b,off,spot⟩:=a;simp only at Zu;obtain⟨rfl,hb⟩:=Zu
       have hcell:∀(i j:Nat),i<m+1→j<P.cellsOf e→∃x cs v,elems[i]?=some x∧cs[j]?=some v∧w.cell? ⟨b,off+(i*P.cellsOf e+j),none⟩=some v∧CR w (fun b=>b<w.heap.size) (vA x.1) cs:=by
        intro i j hi hj;obtain⟨x,cs,h1,h2,h3,h4,_⟩:=each i hi;have:=(World.cells?_some h2).2.2 j hj
        obtain⟨v,hv⟩:∃v,cs[j]?=some v:=⟨cs[j]'(by omega),List.getElem?_eq_getElem _⟩
        rw[hv] at this;refine⟨x,cs,v,h1,hv,?_,h3⟩;rw[←this,xG,xG,Nat.add_assoc]
       have yQ:(vj (elems.map (·.1)))=elems.map fun x=>jc x.1:=by rw[rT,List.map_map];rfl
       have hE:∀(i:Nat) q,(vj (elems.map (·.1)))[i]?=some q→∃x cs,i<m+1∧elems[i]?=some x∧q.cells?=some q.cells∧q.cells=vA x.1∧CR w (fun b=>b<w.heap.size) (vA x.1) cs∧cs.length=P.cellsOf e:=by
        intro i q hq;rw[yQ,List.getElem?_map] at hq;obtain⟨x,hx,rfl⟩:=Option.map_eq_some_iff.1 hq
        have hi:i<m+1:=by
         rcases Nat.lt_or_ge i (m+1) with h'|h'
         ·exact h'
         ·rw[List.getElem?_eq_none (by omega)] at hx;cases hx
        obtain⟨x',cs,h1,h2,h3,h4,h5,h6⟩:=each i hi;rw[hx] at h1;cases h1;refine⟨x,cs,hi,hx,?_,?_,h3,h4⟩
        ·unfold jc
         split
         ·rfl
         ·rename_i QB
          have sO:(vA x.1).length=1:=by
           rw[h3.len,h6];rw[h5] at QB
           revert QB
           split<;>simp
          match hd:vA x.1,sO with
          |[c],_=>have:=h3.onec c (by rw[hd];simp);simp only[List.headD_cons];rw[cells_one this];exact this
        ·unfold jc
         split
         ·rfl
         ·rename_i QB
          have sO:(vA x.1).length=1:=by
           rw[h3.len,h6];rw[h5] at QB
           revert QB
           split<;>simp
          match hd:vA x.1,sO with
          |[c],_=>have:=h3.onec c (by rw[hd];simp);simp only[List.headD_cons];exact cells_one this
       have hL:(vj (elems.map (·.1))).length=m+1:=by rw[yQ];simp[hlen]
       have hf:=fun(i j:Nat) (hi:i<m+1) (hj:j<P.cellsOf e)=>hcell i j hi hj;have:=IR.sl (w:=w) (Z:=fun b=>b<w.heap.size) (vj (elems.map (·.1))) b off cap (P.cellsOf e) (fun i j=>(w.cell? ⟨b,off+(i*P.cellsOf e+j),none⟩).getD undef) hb (by rw[hL];exact hc.2.1)
        (fun i q hq=>by
         obtain⟨x,cs,h1,h2,h3,h4,h5,h6⟩:=hE i q hq
         exact⟨h3,by rw[h4,h5.len,h6]⟩)
        (fun i q j c hq hj=>by
         obtain⟨x,cs,h1,h2,h3,h4,h5,h6⟩:=hE i q hq
         have kL:j<P.cellsOf e:=by
          rcases Nat.lt_or_ge j (P.cellsOf e) with h'|h'
          ·exact h'
          ·rw[h4,List.getElem?_eq_none (by rw[h5.len,h6];exact h')] at hj;cases hj
         obtain⟨x',cs',v,g1,g2,g3,g4⟩:=hf i j h1 kL;rw[g3]
         exact⟨rfl,g4.one v (List.mem_of_getElem? g2)⟩)
        (fun i q j c hq hj=>by
         obtain⟨x,cs,h1,h2,h3,h4,h5,h6⟩:=hE i q hq
         have kL:j<P.cellsOf e:=by
          rcases Nat.lt_or_ge j (P.cellsOf e) with h'|h'
          ·exact h'
          ·rw[h4,List.getElem?_eq_none (by rw[h5.len,h6];exact h')] at hj;cases hj
         obtain⟨x',cs',v,g1,g2,g3,g4⟩:=hf i j h1 kL;rw[g3];rw[h2] at g1;cases g1
         exact g4.rel j c v (by rw[←h4];exact hj) g2)
       rw[hL] at this;exact this
     ·cases h
   |struct fs=>
    simp only[Bool.and_eq_true,beq_iff_eq,List.all_eq_true] at ht;simp only at h
    split at h
    ·rename_i hl;obtain⟨xs,hx,hd⟩:=Option.map_eq_some_iff.1 h;cases hd;refine⟨?_,hl,rfl⟩;obtain⟨h1,_⟩:=wv (w:=w) (Z:=fun b=>b<w.heap.size) (cs:=cs) ht.1 (by omega) hx fun g hg x hgx=>(pD fuel g.type _ _ _ n hgx (ht.2 g hg)).1;rw[List.drop_zero,Nat.sub_zero,←hl,List.take_length] at h1;exact h1
    ·cases h
   |array m e=>
    simp only[Bool.and_eq_true,beq_iff_eq] at ht;simp only at h
    split at h
    ·rename_i hl;obtain⟨xs,hx,hd⟩:=Option.map_eq_some_iff.1 h;cases hd;refine⟨?_,hl,rfl⟩;rw[List.range_eq_range'] at hx;have h1:=xk (w:=w) (Z:=fun b=>b<w.heap.size) (s:=P.cellsOf e) (cs:=cs) hx (by rw[Nat.zero_add,←ht.2,hl];exact Nat.le_refl _) fun i x Ve=>(pD fuel e _ _ _ n Ve ht.1).1;rw[Nat.zero_mul,List.drop_zero,←ht.2,←hl,List.take_length] at h1;exact h1
    ·cases h
   |_=>simp at ht
theorem zE {H:Type} {enc:TypeId×Value→H} {P:Program} {w:World} {spare:Nat→Bool} {held:Bool} {r:Reach} {base:Nat} {t:TypeId} {v:Value} {d:DataW H} {ps:List MemPlace} {n:Nat} (h:DataW.Trod enc P w 0 spare held t v d ps) (ht:z6 P n t=true) (hv:Value.okWide P w r base t v):
  IR w (fun b=>b<w.heap.size) (jc d) v:=by
 obtain⟨fuel,hf⟩:=h;obtain⟨h1,h2,h3⟩:=pD fuel t _ d ps n hf ht
 have hu:∃u,P.underlying t=some u:=by
  cases n with
  |zero=>simp[z6] at ht
  |succ n=>
   simp only[z6] at ht
   cases hu:P.underlying t with
   |none=>rw[hu] at ht;simp at ht
   |some u=>exact⟨u,rfl⟩
 obtain⟨u,hu⟩:=hu;unfold Value.okWide at hv;rw[hu] at hv h2 h3
 have TY:(∃cs:Array Value,v=.agg cs)→oB d=true→IR w (fun b=>b<w.heap.size) (jc d) v:=by
  rintro⟨cs,rfl⟩ hd;unfold jc;rw[if_pos hd];have:=IR.agg (w:=w) (Z:=fun b=>b<w.heap.size) (vA d) cs.toList (by simpa[Value.cells] using h1.len) (by simpa[Value.cells] using h1.one) (by simpa[Value.cells] using h1.rel)
  simpa using this
 have kr:oB d=false→v.cells.toList.length=1→(∀cs,v≠.agg cs)→IR w (fun b=>b<w.heap.size) (jc d) v:=by
  intro hd hl QB;unfold jc;rw[if_neg (by rw[hd];simp)]
  have hc:v.cells.toList=[v]:=by cases v<;>first|rfl|exact absurd rfl (QB _)
  rw[hc] at h1
  match hq:vA d,h1.len with
  |[c],_=>exact h1.rel 0 c v (by rw[hq];rfl) rfl
 have hcell:Cell.okWide P w r base t v→∀cs,v≠.agg cs:=by
  rintro hc cs rfl;unfold Cell.okWide at hc;rw[hu] at hc;cases u<;>simp[Cell.ok,hu] at hc
 cases u with
 |struct fs=>obtain⟨cs,h,_⟩:=hv;exact TY ⟨cs,h⟩ h3
 |array m e=>obtain⟨cs,h,_⟩:=hv;exact TY ⟨cs,h⟩ h3
 |_=>exact kr h3 h2 (hcell hv)
end Go.V
namespace Go.V
open Go.RowKit
theorem wf_u8 {n:Int} (h:(Lit.int .u8 n).wf=true):∃y:UInt8,n=(y.toNat:Nat):=by
 have:0≤n∧n≤255:=by simpa[Lit.wf,IntKind.min,IntKind.max,IntKind.signed,IntKind.bits] using h
 refine⟨UInt8.ofNat n.toNat,?_⟩;rw[show(UInt8.ofNat n.toNat).toNat=n.toNat %256 from rfl];omega
theorem Bp {pv:Pv} {P:Program} (h:pv.Ok P∧pv.jn∧iA P pv (eP pv)) {f:Nat} {ds:List D} {ah:St} (hs:Ev pv f ds ⟨[],0,0⟩ (.bool true) ah) {w:World} {us:List Value} (hl:ds.length=us.length)
  (hr:∀(i:Nat) c v,ds[i]?=some c→us[i]?=some v→IR w (fun b=>b<w.heap.size) c v):Calls P f us.toArray w fun e w'=>e=.returned (.bool true)∧Below w.heap.size w w':=by
 obtain⟨N,hN⟩:=Ev.out hs;refine(sound h (hN N (Nat.le_refl _)) (w:=w) (Z:=fun b=>b<w.heap.size) (fun _ h=>h) hl hr).mono fun e w'=>?_;rintro⟨v,β',Z',rfl,he,hv⟩;rw[eA hv];exact⟨rfl,⟨he.os,he.tape,he.output,he.size,fun k hk=>he.block k hk fun f=>f⟩⟩
end Go.V
namespace Go.V
open Go.RowKit
def Rd {H:Type} (enc:TypeId×Value→H) (P:Program) (w:World) (spare:Nat→Bool) (held:Bool) (t:TypeId) (d:DataW H):Prop:=
 ∃fuel cs ps,DataW.trod enc P w 0 spare held fuel t cs=some (d,ps)
section
variable{H:Type} {enc:TypeId×Value→H} {P:Program} {w:World} {spare:Nat→Bool} {held:Bool} {t e:TypeId} {d:DataW H}
theorem Rd.of {v:Value} {ps:List MemPlace} (h:DataW.Trod enc P w 0 spare held t v d ps):Rd enc P w spare held t d:=by
 obtain⟨fuel,h⟩:=h;exact⟨fuel,_,_,h⟩
theorem Rd.int {k:IntKind} (h:Rd enc P w spare held t d) (ht:P.underlying t=some (.int k)):∃n:Int,d=.lit (.int k n)∧(Lit.int k n).wf=true:=by
 obtain⟨fuel,cs,ps,h⟩:=h
 cases fuel with
 |zero=>simp[DataW.trod] at h
 |succ fuel=>
  unfold DataW.trod at h;rw[ht] at h
  rcases cs with _|⟨v,_|⟨v2,cs⟩⟩<;>try(simp at h;done)
  cases v<;>simp at h
  obtain⟨⟨rfl,hw⟩,rfl,_⟩:=h;exact⟨_,rfl,hw⟩
theorem Rd.bool (h:Rd enc P w spare held t d) (ht:P.underlying t=some .bool):∃b:Bool,d=.lit (.bool b):=by
 obtain⟨fuel,cs,ps,h⟩:=h
 cases fuel with
 |zero=>simp[DataW.trod] at h
 |succ fuel=>
  unfold DataW.trod at h;rw[ht] at h
  rcases cs with _|⟨v,_|⟨v2,cs⟩⟩<;>try(simp at h;done)
  cases v<;>simp at h
  obtain⟨rfl,_⟩:=h;exact⟨_,rfl⟩
theorem Rd.string (h:Rd enc P w spare held t d) (ht:P.underlying t=some .string):∃l:List UInt8,d=.lit (.string l):=by
 obtain⟨fuel,cs,ps,h⟩:=h
 cases fuel with
 |zero=>simp[DataW.trod] at h
 |succ fuel=>
  unfold DataW.trod at h;rw[ht] at h
  rcases cs with _|⟨v,_|⟨v2,cs⟩⟩<;>try(simp at h;done)
  cases v<;>simp at h
  obtain⟨_,rfl,_⟩:=h;exact⟨_,rfl⟩
theorem Rd.slice (h:Rd enc P w spare held t d) (ht:P.underlying t=some (.slice e)):d=.nil∨∃elems rest,d=.slice elems rest∧∀x∈elems,Rd enc P w spare held e x:=by
 obtain⟨fuel,cs,ps,h⟩:=h
 cases fuel with
 |zero=>simp[DataW.trod] at h
 |succ fuel=>
  unfold DataW.trod at h;rw[ht] at h
  rcases cs with _|⟨v,_|⟨v2,cs⟩⟩<;>try(simp at h;done)
  cases v<;>try(simp at h;done)
  rename_i a len cap
  cases a with
  |none=>
   cases len<;>cases cap<;>simp at h
   obtain⟨rfl,rfl⟩:=h;exact .inl rfl
  |some a=>
   simp only at h
   split at h
   ·simp only[Option.bind_eq_some_iff,Option.map_eq_some_iff] at h;obtain⟨elems,hm,rest,hr,hd⟩:=h;cases hd;refine .inr ⟨_,_,rfl,fun x hx=>?_⟩;obtain⟨y,hy,rfl⟩:=List.mem_map.1 hx;have hlen:elems.length=len:=by simpa using mapM_some_length hm
    have hget:=mapM_some_get hm;obtain⟨i,hi⟩:=List.getElem?_of_mem hy;have hil:i<len:=by have:=bj hi;omega
    have h1:=hget i i (by simp[hil]);rw[hi] at h1;obtain⟨cs,_,hx⟩:=Option.bind_eq_some_iff.1 h1;exact⟨fuel,cs,y.2,hx⟩
   ·cases h
theorem oq {α β:Type} {f:α→Option β}:∀{l:List α} {m:List β},l.mapM f=some m→cS (fun a b=>f a=some b) l m
 |[],m,h=>by simp at h;subst h;exact .nil
 |a::l,m,h=>by
  rw[List.mapM_cons] at h
  cases h1:f a with
  |none=>rw[h1] at h;simp at h
  |some b=>
   rw[h1] at h
   cases h2:l.mapM f with
   |none=>rw[h2] at h;simp at h
   |some ys=>rw[h2] at h;simp at h;subst h;exact .cons h1 (oq h2)
theorem cS.Sm {α β γ:Type} {R:α→γ→Prop} {f:β→γ}:∀{l:List α} {m:List β},cS (fun a b=>R a (f b)) l m→cS R l (m.map f)
 |_,_,.nil=>.nil
 |_,_,.cons a t=>.cons a t.Sm
theorem Rd.struct {fs:Array Field} (h:Rd enc P w spare held t d) (ht:P.underlying t=some (.struct fs)):∃parts,d=.agg parts∧cS (fun(f:Field) x=>Rd enc P w spare held f.type x) fs.toList parts:=by
 obtain⟨fuel,cs,ps,h⟩:=h
 cases fuel with
 |zero=>simp[DataW.trod] at h
 |succ fuel=>
  unfold DataW.trod at h;rw[ht] at h;simp only at h
  split at h
  ·obtain⟨xs,hx,hd⟩:=Option.map_eq_some_iff.1 h;cases hd;refine⟨_,rfl,?_⟩;exact((oq hx).mono fun f x hfx=>(⟨fuel,_,_,hfx⟩:Rd enc P w spare held f.type x.1)).Sm
  ·cases h
theorem Rd.array {n:Nat} (h:Rd enc P w spare held t d) (ht:P.underlying t=some (.array n e)):∃parts,d=.agg parts∧parts.length=n∧∀x∈parts,Rd enc P w spare held e x:=by
 obtain⟨fuel,cs,ps,h⟩:=h
 cases fuel with
 |zero=>simp[DataW.trod] at h
 |succ fuel=>
  unfold DataW.trod at h;rw[ht] at h;simp only at h
  split at h
  ·obtain⟨xs,hx,hd⟩:=Option.map_eq_some_iff.1 h;cases hd;have h1:=oq hx;refine⟨_,rfl,by have:=h1.len;simp at this;simp[←this],fun x V0=>?_⟩;obtain⟨y,hy,rfl⟩:=List.mem_map.1 V0
   have key:∀{l:List Nat} {m:List (DataW H×List MemPlace)},cS (fun i x=>DataW.trod enc P w 0 spare held fuel e ((cs.drop (i*P.cellsOf e)).take (P.cellsOf e))=some x) l m→∀y∈m,Rd enc P w spare held e y.1:=by
    intro l m h
    induction h with
    |nil=>intro y hy;cases hy
    |cons a t ih=>
     intro y hy
     rcases List.mem_cons.1 hy with rfl|hy
     ·exact⟨fuel,_,_,a⟩
     ·exact ih y hy
   exact key h1 y hy
  ·cases h
end
theorem Mc {H α:Type} {s:Nat} {f:α→List D} {Q:α→DataW H→Prop} {elems rest:List (DataW H)} (h:∀x∈elems,∃a,(jc x).cells?=some (jc x).cells∧(jc x).cells=f a∧(f a).length=s∧Q a x):
  ∃ws:List α,eH (jc (.slice elems rest)) s (ws.map f)∧ws.length=elems.length∧∀a∈ws,∃x∈elems,Q a x:=by
 have key:∃ws:List α,(elems.map jc).map D.cells=ws.map f∧(∀d∈elems.map jc,d.cells?=some d.cells∧d.cells.length=s)∧ws.length=elems.length∧∀a∈ws,∃x∈elems,Q a x:=by
  induction elems with
  |nil=>exact⟨[],rfl,fun d hd=>(by cases hd),rfl,fun a ha=>by cases ha⟩
  |cons x l ih=>
   obtain⟨ws,h1,h2,h3,h4⟩:=ih fun y hy=>h y (List.mem_cons_of_mem _ hy);obtain⟨a,g1,g2,g3,g4⟩:=h x (List.mem_cons_self ..);refine⟨a::ws,by simp only[List.map_cons,h1,g2],fun d hd=>?_,by simp[h3],fun b hb=>?_⟩
   ·simp only[List.map_cons,List.mem_cons] at hd
    rcases hd with rfl|hd
    ·exact⟨g1,by rw[g2];exact g3⟩
    ·exact h2 d hd
   ·rcases List.mem_cons.1 hb with rfl|hb
    ·exact⟨x,List.mem_cons_self ..,g4⟩
    ·obtain⟨y,hy,hq⟩:=h4 b hb;exact⟨y,List.mem_cons_of_mem _ hy,hq⟩
 obtain⟨ws,h1,h2,h3,h4⟩:=key;refine⟨ws,.inr ⟨elems.map jc,?_,h1,h2⟩,h3,h4⟩;show D.sl (vj elems)=_;rw[rT]
end Go.V
namespace Go.Proofs.YtbdnabmmlbiomaaGreat
theorem Ez {H:Type} (d:DataW H):1≤Rows.uptoBulk d:=by
 cases d with
 |lit l=>cases l<;>simp[Rows.uptoBulk]
 |_=>simp[Rows.uptoBulk]
theorem xz {H:Type} (l:List (DataW H)):l.length≤Rows.uptoBulkAll l:=by
 induction l with
 |nil=>simp[Rows.uptoBulkAll]
 |cons x r ih=>have:=Ez x;simp only[Rows.uptoBulkAll,List.length_cons];omega
end Go.Proofs.YtbdnabmmlbiomaaGreat
namespace Go.Proofs.YtbdnabmmlbiomaaGreat
open Go.V Go Go.RowKit
variable{H:Type} {enc:TypeId×Value→H} {w:World} {spare:Nat→Bool} {held:Bool} {d:DataW H}
theorem EA {H:Type} {l:List (DataW H)} {x:DataW H} (h:x∈l):Rows.uptoBulk x≤Rows.uptoBulkAll l:=by
 induction l with
 |nil=>cases h
 |cons y l ih=>
  simp only[Rows.uptoBulkAll]
  rcases List.mem_cons.1 h with rfl|h
  ·omega
  ·have:=ih h;omega
end Go.Proofs.YtbdnabmmlbiomaaGreat
namespace Go.Proofs.YtbdnabmmlbiomaaGreat
open Go.V Go Go.RowKit
variable{H:Type} {enc:TypeId×Value→H} {w:World} {spare:Nat→Bool} {held:Bool} {d:DataW H}
theorem EG (h:Rd enc Tryz.prog w spare held 22 d):∃(y:D) (ps:List (List UInt8)),jc d=y∧eH y 1 (ps.map AX)∧(Rows.uptoBulk d≤1048576→ps.length≤1048576∧∀b∈ps,b.length≤1048576):=by
 rcases h.slice Tryz.underlying22 with rfl|⟨elems,rest,rfl,he⟩
 ·exact⟨_,[],rfl,.inl ⟨rfl,rfl⟩,fun _=>⟨by simp,fun b hb=>(by cases hb)⟩⟩
 ·obtain⟨l,h1,h2,h3⟩:=Mc (s:=1) (f:=AX) (Q:=fun(b:List UInt8) x=>b.length≤Rows.uptoBulk x) (rest:=rest) fun x hx=>by
   obtain⟨b,rfl⟩:=(he x hx).string Tryz.underlying9;refine⟨b,rfl,rfl,rfl,?_⟩;simp only[Rows.uptoBulk];omega
  refine⟨_,l,rfl,h1,fun hb=>⟨?_,fun b eF=>?_⟩⟩
  ·have:=xz elems;simp only[Rows.uptoBulk] at hb;omega
  ·obtain⟨x,hx,h4⟩:=h3 b eF;have:=EA hx;simp only[Rows.uptoBulk] at hb;omega
end Go.Proofs.YtbdnabmmlbiomaaGreat
namespace Go.Proofs.YtbdnabmmlbiomaaGreat
open Go.V Go
def b7 (c:Nat):Nat:=if c<128 then 1 else if c<194 then 0 else if c<224 then 2 else if c<240 then 3 else if c<245 then 4 else 0
def U8 (c:Nat):Nat:=if c=224 then 160 else if c=237 then 128 else if c=240 then 144 else 128
def Vf (c:Nat):Nat:=if c=224 then 191 else if c=237 then 159 else if c=240 then 191 else if c=244 then 143 else 191
end Go.Proofs.YtbdnabmmlbiomaaGreat
namespace Go.Proofs.YtbdnabmmlbiomaaGreat
open Go.V Go
def tI (c i y:Nat):Bool:=if i=1 then decide (U8 c≤y∧y≤Vf c) else decide (128≤y∧y≤191)
def iI (c:Nat):(left i:Nat)→List UInt8→Bool
 |0,_,_=>true
 |_+1,_,[]=>true
 |left+1,i,y::ys=>tI c i y.toNat &&iI c left (i+1) ys
def gh:List UInt8→Nat×Nat
 |[]=>(0,0)
 |c::xs=>if b7 c.toNat=0 then(0,0) else if iI c.toNat (b7 c.toNat-1) 1 xs=true then(if xs.length+1<b7 c.toNat then(xs.length+1,b7 c.toNat) else(b7 c.toNat,b7 c.toNat)) else(0,0)
theorem wI (c:Nat):b7 c≤4:=by
 unfold b7
 repeat' split
 all_goals omega
end Go.Proofs.YtbdnabmmlbiomaaGreat
namespace Go.Proofs.YtbdnabmmlbiomaaGreat
open Go.V Go
theorem Bj (c:Nat):(b7 c=0∧(b4 c).1=-1)∨(b7 c=1∧(b4 c).1=0)∨(2≤b7 c∧(b4 c).1=(b7 c:Int)-1∧(b4 c).2.1=U8 c∧(b4 c).2.2=Vf c):=by
 unfold b7 b4 U8 Vf
 by_cases h1:c<128
 ·simp[h1]
 by_cases h2:c<194
 ·simp[h1,h2]
 by_cases h0:245≤c
 ·left;rw[if_neg (by omega),if_neg (by omega),if_neg (by omega),if_neg (by omega),if_neg (by omega),if_neg (by omega),if_neg (by omega),if_neg (by omega),if_neg (by omega),if_neg (by omega),if_neg (by omega),if_neg (by omega),if_neg (by omega),if_neg (by omega)];simp
 right;right
 by_cases h3:c<224
 ·simp only[h1,h2,h3,if_true,if_false];rw[if_neg (by omega),if_neg (by omega),if_neg (by omega),if_neg (by omega),if_neg (by omega),if_neg (by omega),if_neg (by omega)];simp
 by_cases h4:c=224
 ·subst h4;simp
 by_cases h5:c=237
 ·subst h5;simp
 by_cases h6:c<240
 ·simp only[h1,h2,h3,h4,h5,h6,if_true,if_false];rw[if_neg (by omega),if_neg (by omega),if_neg (by omega)];simp
 by_cases h7:c=240
 ·subst h7;simp
 by_cases h8:c<244
 ·simp only[h1,h2,h3,h4,h5,h6,h7,h8,if_true,if_false];rw[if_pos (by omega),if_neg (by omega)];simp
 by_cases h9:c=244
 ·subst h9;simp
 omega
def pa (r:Nat):Nat→List UInt8→Nat
 |0,_=>r
 |_+1,[]=>r
 |left+1,y::ys=>pa (r*64+y.toNat %64) left ys
theorem tc (c n:Nat):∀(left i r lo hi:Nat) (xs:List UInt8),1≤i→(∀y,tI c i y=(decide (lo≤y∧y≤hi)))→
  eC left n r lo hi xs=if iI c left i xs=true then(if xs.length<left then(0,0,true) else(pa r left xs,n,false)) else(0,0,false)
 |0,i,r,lo,hi,xs,_,_=>by simp[eC,iI,pa]
 |left+1,i,r,lo,hi,[],_,_=>by simp[eC,iI]
 |left+1,i,r,lo,hi,y::ys,Xj,hg=>by
  simp only[eC,iI,hg,pa]
  by_cases hb:lo≤y.toNat∧y.toNat≤hi
  ·rw[if_neg (by omega),decide_eq_true hb,Bool.true_and];rw[tc c n left (i+1) _ 128 191 ys (by omega) (fun z=>by unfold tI;rw[if_neg (by omega)])];simp only[List.length_cons,Nat.add_lt_add_iff_right]
  ·rw[if_pos (by omega),decide_eq_false hb];simp
def nW (c n:Nat):Nat:=if n≤1 then c else c %(64/2^(n-1))
theorem l0 (c:UInt8) (xs:List UInt8):cC (c::xs)=if b7 c.toNat=0 then(0,0,false) else if iI c.toNat (b7 c.toNat-1) 1 xs=true then(if xs.length<b7 c.toNat-1 then(0,0,true) else(pa (nW c.toNat (b7 c.toNat)) (b7 c.toNat-1) xs,b7 c.toNat,false)) else(0,0,false):=by
 simp only[cC]
 rcases Bj c.toNat with⟨h1,h2⟩|⟨h1,h2⟩|⟨h1,h2,h3,h4⟩
 ·rw[h1,h2];simp
 ·rw[h1,h2];simp[eC,iI,pa,nW]
 ·have hk:(b4 c.toNat).1.toNat=b7 c.toNat-1:=by omega
  rw[if_neg (show¬(b4 c.toNat).1<0 by omega),if_neg (show¬b7 c.toNat=0 by omega),if_pos (show(b4 c.toNat).1>0 by omega),hk,h3,h4];rw[tc c.toNat _ _ 1 _ _ _ _ (by omega) (fun y=>by unfold tI;rw[if_pos rfl])];have:b7 c.toNat-1+1=b7 c.toNat:=by omega
  rw[this];have h5:nW c.toNat (b7 c.toNat)=c.toNat %(64/2^(b7 c.toNat-1)):=by unfold nW;rw[if_neg (by omega)]
  rw[h5]
def cP (b:List UInt8):Bool:=(cC b).2.2
theorem yW (b:List UInt8):(cP b=true↔(0<(gh b).1∧(gh b).1<(gh b).2∧(gh b).1=b.length))∧
  (((gh b).1=0∨(gh b).1<(gh b).2)→cM b=(65533,1))∧
  (¬((gh b).1=0∨(gh b).1<(gh b).2)→∃c xs,b=c::xs∧1≤(gh b).2∧(gh b).2≤4∧(gh b).2-1≤xs.length∧cM b=(pa (nW c.toNat (gh b).2) ((gh b).2-1) xs,(gh b).2)):=by
 cases b with
 |nil=>simp[cP,cC,gh,cM]
 |cons c xs=>
  have hn:=wI c.toNat;simp only[cP,cM,l0,gh]
  by_cases h1:b7 c.toNat=0
  ·simp[h1]
  rw[if_neg h1,if_neg h1]
  by_cases h2:iI c.toNat (b7 c.toNat-1) 1 xs=true
  ·rw[if_pos h2,if_pos h2]
   by_cases h3:xs.length+1<b7 c.toNat
   ·rw[if_pos (by omega),if_pos h3];simp<;>omega
   ·rw[if_neg (by omega),if_neg h3];refine⟨by simp<;>omega,by simp<;>omega,fun _=>⟨c,xs,rfl,by simp only;omega,by simp only;omega,by simp only;omega,?_⟩⟩;simp only;rw[if_neg h1]
  ·rw[if_neg h2,if_neg h2];simp
end Go.Proofs.YtbdnabmmlbiomaaGreat
namespace Go.Proofs.YtbdnabmmlbiomaaGreat
open Go.V Go
end Go.Proofs.YtbdnabmmlbiomaaGreat
namespace Go.Proofs.YtbdnabmmlbiomaaGreat
open Go.V Go
end Go.Proofs.YtbdnabmmlbiomaaGreat
namespace Go.Proofs.YtbdnabmmlbiomaaGreat
open Go.V Go
def lB (b:List UInt8):D:=.sl ((byteCells b).map (kH 1))
theorem mj (b:List UInt8):∀e∈byteCells b,e.length=1:=by
 intro e he;obtain⟨y,_,rfl⟩:=List.mem_map.1 he;rfl
theorem h_ (b:List UInt8):∀e∈byteCells b,∀d∈e,cy d=true:=by
 intro e he d hd;obtain⟨y,_,rfl⟩:=List.mem_map.1 he;simp only[List.mem_cons,List.not_mem_nil,or_false] at hd;subst hd;rfl
theorem B1 (st:St) (b:List UInt8):Bytes st (lB b) b:=Rows.re (mj b) (h_ b)
def gw (y:UInt8):D:=.int .u8 (y.toNat:Nat)
theorem dP (b:List UInt8):(byteCells b).flatten=b.map gw:=by
 induction b with
 |nil=>rfl
 |cons y b ih=>simp only[byteCells,List.map_cons,List.flatten_cons] at ih⊢;rw[ih];rfl
end Go.Proofs.YtbdnabmmlbiomaaGreat
namespace Go.Proofs.YtbdnabmmlbiomaaGreat
open Go.V Go Go.RowKit
theorem BE {s0:St} {x:D} {b:List UInt8} (hx:eH x 1 (byteCells b)) (n:Nat):∃d,Ev pv 26 [x,.int .i64 (n:Nat)] s0 d s0∧eH d 1 (byteCells (b.take n)):=by
 have TW:=bM b;refine Ev.E0 rfl Yv rfl rfl rfl ?_;dsimp only[u3,u4,List.length,Nat.reduceSub,Nat.reduceAdd,w1,w2];obtain⟨cA,hF,hH⟩:=ri s0;generalize ai .ro s0=S at*;have VZ:=hx.arg s0.bs.length S;refine qq<|qj fun K hK=>qm ?_;refine qe hK<|qq<|qq<|qj fun K hK=>qm ?_;refine qn ?_;refine qm ?_;refine qg ?_;refine qe hK ?_;rw[TW];refine ag.cond (by rfl) (fun h0=>?_) (fun h0=>?_)<;>try simp only[decide_eq_true_eq,decide_eq_false_iff_not] at h0
 ·have ZB:n≤(byteCells b).length:=by omega
  refine qq<|qj fun K hK=>qm ?_;refine qm ?_;refine aa.CV rfl (ev rfl) (by assumption) rfl rfl (gM (by omega)) (fun _=>(ab rfl _)) (fun y11 VY=>?_);refine qm ?_;refine qe hK ?_;obtain⟨z,hz1,hz2⟩:=VY.freeze S s0.bs.length 15;refine ag.ret ⟨rx,_,_,rfl,rl cA hH (hz1),?_⟩;rw[List.drop_zero] at hz2;unfold byteCells at hz2⊢;rw[List.map_take];exact hz2
 ·refine ag.skip<|qq<|qj fun K hK=>qm ?_;refine qm ?_;refine qe hK ?_;obtain⟨z,hz1,hz2⟩:=hx.freeze S s0.bs.length 15;refine ag.ret ⟨rx,_,_,rfl,rl cA hH (hz1),?_⟩;rw[List.take_of_length_le (by omega)];exact hz2
variable{H:Type} {enc:TypeId×Value→H} {w:World} {spare:Nat→Bool} {held:Bool} {d:DataW H}
theorem L4 (h:Rd enc Tryz.prog w spare held 36 d):∃(y:D) (b:List UInt8),jc d=y∧eH y 1 (byteCells b)∧(Rows.uptoBulk d≤1048576→b.length≤1048576):=by
 rcases h.slice Tryz.underlying36 with rfl|⟨elems,rest,rfl,he⟩
 ·exact⟨_,[],rfl,.inl ⟨rfl,rfl⟩,fun _=>by simp⟩
 ·obtain⟨l,h1,h2,_⟩:=Mc (s:=1) (f:=fun c:UInt8=>[.int .u8 (c.toNat:Nat)]) (Q:=fun _ _=>True) (rest:=rest) fun x hx=>by
   obtain⟨n,rfl,hw⟩:=(he x hx).int Tryz.underlying5;obtain⟨c,rfl⟩:=wf_u8 hw;exact⟨c,rfl,rfl,rfl,trivial⟩
  refine⟨_,l,rfl,h1,fun hb=>?_⟩;have:=xz elems;simp only[Rows.uptoBulk] at hb;omega
end Go.Proofs.YtbdnabmmlbiomaaGreat
namespace Go.V
variable{N:Nat} {S st:St} {H:List bC}
theorem Has.mw (A B:List bC) (h:Has N S st (A++(B++H))):Has N S st (B++(A++H)):=by
 refine h.sub (fun i=>if i<B.length then i+A.length else if i<B.length+A.length then i-B.length else i) (fun a b e=>?_) fun i e hi=>?_
 ·have e':(if a<B.length then a+A.length else if a<B.length+A.length then a-B.length else a)=(if b<B.length then b+A.length else if b<B.length+A.length then b-B.length else b):=e
  repeat' split at e'
  all_goals omega
 ·show(A++(B++H))[if i<B.length then i+A.length else if i<B.length+A.length then i-B.length else i]?=some e
  by_cases h1:i<B.length
  ·rw[if_pos h1,List.getElem?_append_right (by omega),Nat.add_sub_cancel,List.getElem?_append_left h1]
   rwa [List.getElem?_append_left h1] at hi
  ·rw[List.getElem?_append_right (by omega)] at hi
   by_cases h2:i<B.length+A.length
   ·rw[if_neg h1,if_pos h2,List.getElem?_append_left (by omega)]
    rwa [List.getElem?_append_left (by omega)] at hi
   ·rw[if_neg h1,if_neg h2,List.getElem?_append_right (by omega),List.getElem?_append_right (by omega)];rw[List.getElem?_append_right (by omega)] at hi;rw[←hi];congr 1;omega
theorem Has.eV {j:Nat} {e:bC} (h:Has N S st (e::H)) (hj:j<H.length):Has N S st (H.set j e):=
 Has.back (h.erase (j+1)) hj
theorem Has.tC {j k:Nat} {e:bC} (h:Has N S st H) (hj:H[j]?=some e) (hk:e.K k):k+1≤st.bs.length:=((h.ok j e hj).2 k hk).2
theorem iF {x y:Oper} {fi fj:Fr} {si pG sj ET:St} {a:Operand} {k aD off v:Nat} {ar:Bool} {c:List D} (hy:gQ y.op=none) (hx:gQ x.op=some a) (ha:fi.ev a=.ptr k aD off) (h1:sj.bs[k]?=some (.mem v ar c)) (h2:ET.bs[k]?=some (.mem v ar c)) (h3:si.bs[k]?=some (.mem v ar c)) (hr:refs c≤si.bs.length):iN x fi si pG y fj sj ET=true:=by
 unfold iN;simp only[hy,hx,ha,D.mI,Bool.and_eq_true];refine⟨nT h1 h2,?_⟩;unfold mq;simp only[h3]
 split
 ·rfl
 ·simpa using hr
theorem Has.clear {P:Pv} {j:Nat} {x:D} {s:Nat} {es:List (List D)} {t e:TypeId} {z:List D} (h:Has N S st H) (hj:H[j]?=some (.aM x s es)) (ht:P.cL t=some (.slice e)) (hz:dD P e=some z) (lY:z.length=s) (hr:refs z=0):
  ∃ah,lA P [t] x st=some (.tup [],ah)∧Has N S ah (H.set j (.aM x s (List.replicate es.length z))):=by
 have yN:=(h.ok j _ hj).2;have hown:=h.own hj
 have kL:j<H.length:=by
  rcases Nat.lt_or_ge j H.length with h'|h'
  ·exact h'
  ·rw[List.getElem?_eq_none h'] at hj;cases hj
 cases hown with
 |nul=>
  refine⟨st,by simp only[lA,ht],?_⟩
  have:H.set j (.aM .nul s (List.replicate ([]:List (List D)).length z))=H:=by
   refine List.ext_getElem? fun i=>?_
   by_cases hi:i=j
   ·subst hi;rw[List.getElem?_set_self kL,hj];rfl
   ·rw[List.getElem?_set_ne (fun e=>hi e.symm)]
  rw[this];exact h
 |win k aD off es c hm hle hc he=>
  have hk:=yN k (by simp only[bC.aM,D.ref])
  have Ll:∀n,refs (Go.V.eV n z)=0:=by
   intro n;unfold Go.V.eV
   induction n with
   |zero=>rfl
   |succ n ih=>
    rw[List.replicate_succ,List.flatten_cons]
    have LG:∀(a b:List D),refs a=0→refs b=0→refs (a++b)=0:=by
     intro a
     induction a with
     |nil=>intro b _ hb;exact hb
     |cons d a E2=>
      intro b ha hb;simp only[refs,List.cons_append] at ha⊢;have:=E2 b (by omega) hb;omega
    exact LG _ _ hr ih
  have u7:(Go.V.eV es.length z).length=es.length*s:=by
   unfold Go.V.eV;rw[c_ (s:=s) (fun e he=>by rw[(List.mem_replicate.1 he).2];exact lY),List.length_replicate]
  have hw:st.wr k aD off (Go.V.eV es.length z)=some ⟨st.bs.set k (.mem aD true (c.take off++Go.V.eV es.length z++c.drop (off+(Go.V.eV es.length z).length))),st.flr,st.ro⟩:=ml hm (by omega) (jW h hk.1 (.inr (Ll _)));refine⟨_,by simp only[lA,ht,hz,Option.bind_some];rw[if_pos lY,hw];rfl,?_⟩;refine h.sH hj (fun n hn hne=>?_) (by simp) rfl rfl ?_ (fun n hn=>.inl hn) fun n hn=>?_
  ·simp only;rw[List.getElem?_set_ne (fun e=>hne (by simp only[bC.aM,D.ref];omega))]
  ·have DO:∀e'∈List.replicate es.length z,e'.length=s:=fun e' pS=>by rw[(List.mem_replicate.1 pS).2];exact lY
   have:=ia.win (st:=⟨st.bs.set k (.mem aD true (c.take off++Go.V.eV es.length z++c.drop (off+(Go.V.eV es.length z).length))),st.flr,st.ro⟩) (s:=s) k aD off (List.replicate es.length z) (c.take off++Go.V.eV es.length z++c.drop (off+(Go.V.eV es.length z).length))
    (by simp only;rw[List.getElem?_set_self hk.2]) (by rw[List.length_replicate];simp;omega) ?_ DO
   ·rw[List.length_replicate] at this;exact this
   ·rw[List.length_replicate,List.append_assoc,List.drop_append_of_le_length (by simp;omega),List.drop_take,Nat.sub_self,List.take_zero,List.nil_append,←u7,List.take_left']
    ·rfl
    ·rfl
  ·simp only[bC.aM,D.ref] at hn;have:n=k:=by omega
   subst this
   simpa using hk.2
variable{P:Pv} {ops:Array Oper} {rest:List Oper} {fr aK:Fr} {Q:Fr→St→Prop} {ty:TypeId} {pp:String} {a:Array Edge} {g:Option (Nat×Bool)} {dst:Nat}
theorem aa.P3 {j:Nat} {x:D} {s:Nat} {es:List (List D)} {t e:TypeId} {z:List D} {xo:Operand} (hH:Has N S st H) (hg:aI ops fr ⟨none,.call ⟨.builtin .clear,#[xo],#[t]⟩,ty,pp,a,g⟩=some true) (hx:fr.ev xo=x) (hj:H[j]?=some (.aM x s es)) (ht:P.cL t=some (.slice e)) (hz:dD P e=some z) (lY:z.length=s) (hr:refs z=0)
  (h:∀ah,Has N S ah (H.set j (.aM x s (List.replicate es.length z)))→aa P ops rest fr ah Q):aa P ops (⟨none,.call ⟨.builtin .clear,#[xo],#[t]⟩,ty,pp,a,g⟩::rest) fr st Q:=by
 obtain⟨ah,h1,h2⟩:=hH.clear hj ht hz lY hr;refine aa.N hg rfl (d:=.tup []) (st1:=ah) ?_ (h _ h2);simp only[dQ,List.map_cons,List.map_nil,hx,bG];exact h1
end Go.V
namespace Go.Proofs.YtbdnabmmlbiomaaGreat
open Go.V Go
def gb (n:Nat):List D:=[.int .i64 (n:Nat)]
def na (n:Nat):List D:=[.int .i64 (n:Nat),.bool true]
theorem wD {l:List Nat} {i q:Nat} (h:l[i]?=some q):(l.map gb)[i]?=some (gb q):=by rw[List.getElem?_map,h];rfl
theorem Lc {l:List Nat} {i q:Nat} (h:l[i]?=some q):(l.map na)[i]?=some (na q):=by rw[List.getElem?_map,h];rfl
structure dj (P Q:List Nat) (seen:List Bool):Prop where
 len:P.length=seen.length
 mem:∀(i p:Nat),P[i]?=some p→seen[i]?=some (decide (Q[p]?=some i))
 cnt:Q.length=seen.count true
 small:seen.length≤4096
def EM (N:Nat) (S st:St) (ks:Nat) (seen:List Bool) (H:List bC):Prop:=
 ∃pd qd P Q,Has N S st (.box ks (.mem 0 false [pd,qd])::.aM pd 1 (P.map gb)::.aM qd 2 (Q.map na)::H)∧dj P Q seen
theorem dj.get {P Q:List Nat} {seen:List Bool} (h:dj P Q seen) {i:Nat} {b:Bool} (hi:seen[i]?=some b):∃p,P[i]?=some p∧b=decide (Q[p]?=some i):=by
 have hl:=bj hi;have mh:=h.len;refine⟨P[i]'(by omega),List.getElem?_eq_getElem _,?_⟩;have:=h.mem i _ (List.getElem?_eq_getElem (by omega));rw[hi] at this;exact Option.some.inj this
theorem dj.add {P Q:List Nat} {seen:List Bool} (h:dj P Q seen) {i:Nat} (hi:seen[i]?=some false):dj (P.set i Q.length) (Q++[i]) (seen.set i true):=by
 have hl:=bj hi;have mh:=h.len;refine⟨by simp[mh],fun j p hj=>?_,?_,by rw[List.length_set];exact h.small⟩
 ·by_cases hij:j=i
  ·subst hij;rw[List.getElem?_set_self (by omega)] at hj⊢;cases hj;simp
  ·rw[List.getElem?_set_ne (fun e=>hij e.symm)] at hj⊢;rw[h.mem j p hj]
   congr 2
   rcases Nat.lt_trichotomy p Q.length with hp|hp|hp
   ·rw[List.getElem?_append_left hp]
   ·subst hp;have hne:¬i=j:=fun e=>hij e.symm;simp[hne]
   ·rw[List.getElem?_eq_none (by omega),List.getElem?_eq_none (by simp;omega)]
 ·have h1:=List.length_eq_countP_add_countP (fun b=>b==true) (l:=seen);have h2:=List.length_eq_countP_add_countP (fun b=>b==true) (l:=seen.set i true);have h3:=count_set hi
  have e1:∀l:List Bool,l.countP (fun a=>decide (¬(a==true)=true))=l.count false:=by
   intro l;unfold List.count;congr 1;funext b;cases b<;>rfl
  have e2:∀l:List Bool,l.countP (fun a=>a==true)=l.count true:=fun l=>rfl;rw[e1,e2] at h1 h2;rw[List.length_append,h.cnt];simp only[List.length_set,List.length_cons,List.length_nil] at h2⊢;omega
theorem dj.clear {P Q:List Nat} {seen:List Bool} (h:dj P Q seen):dj P [] (List.replicate seen.length false):=by
 refine⟨by rw[List.length_replicate];exact h.len,fun i p hi=>?_,?_,by rw[List.length_replicate];exact h.small⟩
 ·have:=bj hi;have:=h.len;rw[List.getElem?_replicate,if_pos (by omega)];simp
 ·rw[List.count_replicate];simp
theorem dj.lf {P Q:List Nat} {seen:List Bool} (h:dj P Q seen):Q.length≤4096:=by
 have:=h.cnt;have:=h.small;have:=List.count_le_length (a:=true) (l:=seen);omega
theorem A1 {N ks:Nat} {S s0:St} {H:List bC} {seen:List Bool} {i:Nat} {b:Bool} (hi:seen[i]?=some b) {pd qd:D} {P Q:List Nat} (bd:dj P Q seen) (hH:Has N S s0 (.box ks (.mem 0 false [pd,qd])::.aM pd 1 (P.map gb)::.aM qd 2 (Q.map na)::H)):
  ∃r ah,Ev pv 133 [.ptr ks 0 0,.int .i64 (i:Nat)] s0 r ah∧r=.bool b∧ah=s0:=by
 obtain⟨p,hp,rfl⟩:=bd.get hi;have hl:=bj hp;have mh:=bd.len;have hsm:=bd.small;have iv:=wD hp
 have fO:(⟨(ai .rw s0).bs.take s0.bs.length,s0.flr,s0.ro⟩:St)=s0:=by
  show(⟨s0.bs.take s0.bs.length,s0.flr,s0.ro⟩:St)=s0;rw[List.take_length]
 refine Ev.iC rfl Uz rfl rfl rfl ?_;dsimp only[u3,u4,List.length,Nat.reduceSub,Nat.reduceAdd,w1,w2];have cQ:=hH;have hH:=hH.cV;have cG:(ai .rw s0).bs=s0.bs:=rfl;generalize ai .rw s0=S2 at*;refine qq<|qj fun K hK=>qm ?_;refine qe hK ?_;have bz:decide (((i:Nat):Int)<0)=false:=by rw[decide_eq_false];omega
 refine qq<|qq<|ag.kD 16 (.bool false) [] ?_ (fun ff tmp hO=>?_)
 ·refine qm ?_;refine qg ?_;refine qm ?_;refine qm ?_ (hg:=wi bz);refine qm ?_ (hg:=wi bz);refine qg ?_ (hg:=wi bz);refine qp (o:=0) ?_ (hg:=wi bz);refine ql hH au ?_ (hg:=wi bz);refine qn ?_ (hR:=hH.rows aS) (hg:=wi bz);simp only[List.length_map];refine qg ?_ (hg:=wi bz);refine qu bz ?_;refine aa.nil (dv ?_ ?_)
  ·dsimp only[aO,List.foldl,nth,u2,u1]
   all_goals(first|rfl|simp)
  ·dsimp only[Fr.aE,Fr.put,Fr.clean,Fr.ev,Fr.get,nth,V.look,u1,u2,v1,v2,v3,v4,v5,v6,v7,List.length,u3,u4,Nat.reduceSub,Nat.reduceAdd,List.map]
   all_goals(simp_all;done)
 dsimp only[aO,List.foldl,nth,u2,u1];refine qC ?_;refine ag.skip<|qq<|qj fun K hK=>qm ?_;refine qg ?_;refine qp (o:=0) ?_;refine ql hH au ?_;refine qm ?_;refine qi hH aS fun VH Qw=>?_;refine qo hH aS ?_;refine qm ?_;refine qe hK ?_
 by_cases hq:p<Q.length
 ·obtain⟨q,SZ⟩:∃q,Q[p]?=some q:=⟨Q[p]'hq,List.getElem?_eq_getElem _⟩
  have oE:=Lc SZ;have eu:decide (((p:Nat):Int)<((Q.length:Nat):Int))=true:=by rw[decide_eq_true_eq];omega
  refine qq<|qj fun K hK=>qm ?_;refine qm ?_;refine qg ?_;refine qp (o:=1) ?_;refine ql hH au ?_;refine qn ?_ (hR:=hH.rows ba);simp only[List.length_map];refine qg ?_;refine qm ?_;refine qm ?_ (hg:=wi eu);refine qg ?_ (hg:=wi eu);refine qp (o:=1) ?_ (hg:=wi eu);refine ql hH au ?_ (hg:=wi eu);refine qm ?_ (hg:=wi eu);refine qi hH ba (fun p37 WJ=>?_) (hg:=wi eu);refine aa.iq (fo:=0) (m:=0) (o2:=0) (aC rfl rfl rfl eu) (ev rfl) (by assumption) rfl rfl rfl (fun _=>(ab rfl _)) (fun p38 WI=>?_);refine qo hH ba ?_ (hg:=wi eu);refine qm ?_ (hg:=wi eu);refine qg ?_ (hg:=wi eu);refine qt eu ?_;refine qm ?_;refine qe hK<|ag.ret ⟨rx,_,_,_,rfl,ak (rfl),?_⟩;refine⟨?_,fO⟩
  have hd:(((q:Nat):Int)==((i:Nat):Int))=decide (Q[p]?=some i):=by
   rw[SZ]
   by_cases h:q=i
   ·simp[h]
   ·simp[h];omega
  exact congrArg D.bool hd
 ·have eu:decide (((p:Nat):Int)<((Q.length:Nat):Int))=false:=by rw[decide_eq_false];omega
  refine qq<|qj fun K hK=>qm ?_;refine qm ?_;refine qg ?_;refine qp (o:=1) ?_;refine ql hH au ?_;refine qn ?_ (hR:=hH.rows ba);simp only[List.length_map];refine qg ?_;refine qm ?_;refine qs ?_ (hg:=wn eu);refine qs ?_ (hg:=wn eu);refine qs ?_ (hg:=wn eu);refine qs ?_ (hg:=wn eu);refine qs ?_ (hg:=wn eu);refine qs ?_ (hg:=wn eu);refine qs ?_ (hg:=wn eu);refine qs ?_ (hg:=wn eu);refine qs ?_ (hg:=wn eu);refine qs ?_ (hg:=wn eu);refine qu eu ?_;refine qm ?_;refine qe hK<|ag.ret ⟨rx,_,_,_,rfl,ak (rfl),?_⟩;refine⟨?_,fO⟩;rw[List.getElem?_eq_none (by omega)];rfl
theorem A2 {N ks:Nat} {S s0:St} {H:List bC} {seen:List Bool} {i:Nat} {b:Bool} (hF:S.flr≤N) (hi:seen[i]?=some b) (hH:EM N S s0 ks seen H):
  ∃r ah,Ev pv 109 [.ptr ks 0 0,.int .i64 (i:Nat),.bool true] s0 r ah∧r=.bool (!b)∧EM N S ah ks (seen.set i true) H:=by
 obtain⟨pd,qd,P,Q,hH,bd⟩:=hH;have hl:=bj hi;have mh:=bd.len;have hsm:=bd.small;have Ml:=bd.lf;obtain⟨p0,Rz,_⟩:=bd.get hi;have iv:=wD Rz;refine Ev.iC rfl UK rfl rfl rfl ?_;dsimp only[u3,u4,List.length,Nat.reduceSub,Nat.reduceAdd,w1,w2];change ag _ _ _ _ s0 _;refine qq<|qj fun K hK=>qm ?_;refine qe hK ?_;have bz:decide (((i:Nat):Int)<0)=false:=by rw[decide_eq_false];omega
 have bR:decide (((i:Nat):Int)≥((P.length:Nat):Int))=false:=by rw[decide_eq_false];omega
 obtain⟨_,st,aN,rfl,rfl⟩:=A1 hi bd hH;refine qq<|qq<|ag.kD 22 (.bool b) [] ?_ (fun ff tmp hO=>?_)
 ·refine qm ?_;refine qg ?_;refine qm ?_;refine qm ?_ (hg:=wi bz);refine qm ?_ (hg:=wi bz);refine qg ?_ (hg:=wi bz);refine qp (o:=0) ?_ (hg:=wi bz);refine ql hH au ?_ (hg:=wi bz);refine qn ?_ (hR:=hH.rows aS) (hg:=wi bz);simp only[List.length_map];refine qg ?_ (hg:=wi bz);refine qu bz ?_;refine qm ?_;refine qm ?_ (hg:=wi bR);refine qm ?_ (hg:=wi bR);refine qv aN ?_ (hg:=wi bR);refine qu bR ?_;refine aa.nil (dv ?_ ?_)
  ·dsimp only[aO,List.foldl,nth,u2,u1]
   all_goals(first|rfl|simp)
  ·dsimp only[Fr.aE,Fr.put,Fr.clean,Fr.ev,Fr.get,nth,look,u1,u2,v1,v2,v4]
   all_goals(rfl)
 dsimp only[aO,List.foldl,nth,u2,u1]
 cases b with
 |true=>
  refine qB ?_;refine qq<|qj fun K hK=>qm ?_;refine qe hK<|ag.ret ⟨rx,_,_,_,rfl,rfl,?_⟩;refine⟨rfl,pd,qd,P,Q,hH,?_⟩
  have:seen.set i true=seen:=by
   refine List.ext_getElem? fun j=>?_
   by_cases hj:j=i
   ·subst hj;rw[List.getElem?_set_self hl,hi]
   ·rw[List.getElem?_set_ne (fun e=>hj e.symm)]
  rw[this];exact bd
 |false=>
  refine qC ?_;refine ag.skip<|qq<|qj fun K hK=>qm ?_;refine qg ?_;refine qp (o:=0) ?_;refine ql hH au ?_;refine qm ?_;refine qm ?_;refine qg ?_;refine qp (o:=1) ?_;refine ql hH au ?_;refine qn ?_ (hR:=hH.rows ba);simp only[List.length_map];refine qi hH aS fun p33 aaB=>?_;refine aa.iO hH rfl (ev rfl) (ev rfl) (by assumption) rfl rfl (by exact aS) (by assumption) (Nat.le_of_ble_eq_true rfl) (by exact .inl hF) (fun st hH=>?_);dsimp only[u2,u1,u3,u4,setMany,u5,u6,D.cells,Nat.reduceAdd,gb,na] at hH;refine qe hK<|qq<|qj fun K hK=>qm ?_;refine qm ?_;refine qg ?_;refine qp (o:=1) ?_;refine ql hH au ?_;refine qm ?_;refine qm ?_;refine qg ?_;refine qh (s:=2) (vs:=[_]) hH fun k42 st aaU hH=>?_;dsimp only[u2,u1,u3,u4,setMany,u5,u6,D.cells,Nat.reduceAdd,gb,na] at hH;refine aa.bP (s:=2) hH rfl (ev rfl) (ev rfl) (by exact bf) (by exact hH.rows (by exact au)) rfl rfl rfl rfl rfl rfl rfl ⟨(Nat.le_of_ble_eq_true rfl),(Nat.le_of_ble_eq_true rfl)⟩ (fun _=>(ab rfl _)) (by simp only[List.length_cons,List.length_nil,List.length_map]<;>omega) (by exact .inl hF) (fun x43 st hH=>?_);dsimp only[u2,u1,u3,u4,setMany,u5,u6,D.cells,Nat.reduceAdd,gb,na] at hH;refine qg ?_;refine qp (o:=1) ?_;refine qT hH aS (fun st hH=>?_) (iS:=hH.cm bf);dsimp only[u2,u1,u3,u4,setMany,u5,u6,D.cells,Nat.reduceAdd,gb,na] at hH;refine qe hK<|qq<|qj fun K hK=>qm ?_;refine qe hK<|ag.ret ⟨rx,_,_,_,rfl,rfl,?_⟩;refine⟨rfl,pd,x43,P.set i Q.length,Q++[i],?_,bd.add hi⟩;rw[List.map_set,List.map_append];exact hH.drop 1
theorem vO {N ks:Nat} {S s0:St} {H:List bC} {seen:List Bool} (hF:S.flr≤N) (hH:EM N S s0 ks seen H):
  ∃r ah,Ev pv 107 [.ptr ks 0 0] s0 r ah∧r=.tup []∧EM N S ah ks (List.replicate seen.length false) H:=by
 obtain⟨pd,qd,P,Q,hH,bd⟩:=hH;have Ml:=bd.lf;refine Ev.iC rfl UM rfl rfl rfl ?_;dsimp only[u3,u4,List.length,Nat.reduceSub,Nat.reduceAdd,w1,w2];change ag _ _ _ _ s0 _;refine qq<|qj fun K hK=>qm ?_;refine qg ?_;refine qp (o:=1) ?_;refine ql hH au ?_;refine aa.P3 hH rfl (ev rfl) ba rfl rfl rfl rfl (fun st hH=>?_);dsimp only[u1,u2] at hH;refine qe hK<|qj fun K hK=>qm ?_;refine qm ?_;refine qg ?_;refine qp (o:=1) ?_;refine ql hH au ?_;refine aa.uB hH rfl (ev rfl) (by exact ba) rfl rfl (gM (by simp only[List.length_map,List.length_replicate];omega)) ⟨(by omega),(by simp only[List.length_map,List.length_replicate];omega)⟩ (fun _=>(ab rfl _)) (fun y11 hH=>?_);refine qg ?_;refine qp (o:=1) ?_;refine qT hH au (fun st hH=>?_) (iS:=hH.cm ba);dsimp only[u2,u1,u3,u4,setMany,u5,u6,D.cells,Nat.reduceAdd,gb,na] at hH;refine qe hK ?_;refine⟨fun i h=>(by cases h),_,_,_,rfl,rfl,?_⟩;exact⟨rfl,pd,_,P,[],hH,bd.clear⟩
theorem ta {N n:Nat} {S s0:St} {H:List bC} (hF:S.flr≤N) (hn:n≤4096) (hH:Has N S s0 H):
  ∃r ah,Ev pv 101 [.int .i64 (n:Nat)] s0 r ah∧∃ks,r=.tup [.ptr ks 0 0,.int .i64 0]∧EM N S ah ks (List.replicate n false) H:=by
 refine Ev.iC rfl US rfl rfl rfl ?_;dsimp only[u3,u4,List.length,Nat.reduceSub,Nat.reduceAdd,w1,w2];change ag _ _ _ _ s0 _;refine qq<|qj fun K hK=>qm ?_;refine qm ?_;refine qe hK ?_;have bz:decide (((n:Nat):Int)<0)=false:=by rw[decide_eq_false];omega
 refine qq<|qq<|ag.kD 9 (.bool false) [] ?_ (fun ff tmp hO=>?_)
 ·refine qm ?_;refine qg ?_;refine qm ?_;refine qm ?_ (hg:=wi bz);refine qg ?_ (hg:=wi bz);refine qu bz ?_;refine aa.nil (dv ?_ ?_)
  ·dsimp only[aO,List.foldl,nth,u2,u1]
   all_goals(first|rfl|simp)
  ·dsimp only[Fr.aE,Fr.put,Fr.clean,Fr.ev,Fr.get,nth,V.look,u1,u2,v1,v2,v3,v4,v5,v6,v7,List.length,u3,u4,Nat.reduceSub,Nat.reduceAdd,List.map]
   all_goals(simp[bz];omega)
 dsimp only[aO,List.foldl,nth,u2,u1];refine qC ?_;refine ag.skip<|qq<|qj fun K hK=>qm ?_;refine aa.w7 (s:=1) hH rfl rfl rfl rfl rfl rfl rfl rfl (Nat.le_of_ble_eq_true rfl) (by omega) (fun _=>(ab rfl _)) (fun k11 st Ly hH=>?_);refine aa.gu (qs:=[(0,_)]) rfl rfl rfl rfl ⟨rfl,(ev rfl),(by rfl),trivial⟩ (by intro q hq;simp only[List.mem_cons,List.not_mem_nil,or_false] at hq;rcases hq with rfl<;>exact⟨rfl,by exact Nat.le_of_ble_eq_true rfl⟩) (by show List.foldl _ [_,_] _=_;dsimp only[List.foldl_cons,List.foldl_nil,u2,u1]<;>rfl) (ab rfl _) ?_;refine qb hH fun k13 st DQ hH=>?_;refine qm ?_;refine qm ?_;refine qe hK<|ag.ret ⟨rx,_,_,_,rfl,rfl,?_⟩;refine⟨k13,rfl,.win k11 0 0 n 1,.nul,List.replicate n 0,[],?_,?_⟩
 ·rw[List.map_replicate];exact Has.mw [_] [_,_] (hH.er 2)
 ·refine⟨by simp,fun i p hi=>?_,by rw[List.count_replicate];simp,by simpa using hn⟩;have:=bj hi;rw[List.length_replicate] at this;rw[List.getElem?_replicate,if_pos this];simp
end Go.Proofs.YtbdnabmmlbiomaaGreat
namespace Go.Proofs.YtbdnabmmlbiomaaGreat
open Go.V Go
def d_ (fr:Go.V.Fr) (k:Nat):Go.V.D:=Go.V.nth .bD fr.loc k
abbrev l6:=Nat→Int
def aw (f:l6):List D:=[.int .i64 (f 0),.int .i64 (f 1),.int .i64 (f 2),.int .i64 (f 3),.int .i64 (f 4),.int .i64 (f 5),.int .i64 (f 6),.int .i64 (f 7),.int .i64 (f 8),.int .i64 (f 9)]
def aP:l6:=fun _=>-1
def aH:l6:=fun _=>0
def vQ (f:l6) (x:Nat) (v:Int):l6:=fun j=>if j=x then v else f j
structure gm where
 pc:Nat
 at_:Nat
 c:l6
def bH (t:gm):List D:=.int .i64 (t.pc:Nat)::.int .i64 (t.at_:Nat)::aw t.c
theorem CF {a b:D} {f:l6} {x:Nat} {v:Int} (hx:x<10):setMany (a::b::aw f) (2+x) [.int .i64 v]=a::b::aw (vQ f x v):=by
 match x,hx with
 |0,_=>rfl
 |1,_=>rfl
 |2,_=>rfl
 |3,_=>rfl
 |4,_=>rfl
 |5,_=>rfl
 |6,_=>rfl
 |7,_=>rfl
 |8,_=>rfl
 |9,_=>rfl
inductive Cg where
 |found
 |more (l:List gm)
def bV (code:List aJ) (gs:List (Nat×Nat)) (pl:List Int) (t:gm):Cg:=
 match code[t.pc]? with
 |none=>.more []
 |some i=>
  if i.op=7 then .found
  else if i.op=2 then .more [⟨i.x.toNat,t.at_,t.c⟩,⟨i.y.toNat,t.at_,t.c⟩]
  else if i.op=3 then .more [⟨i.x.toNat,t.at_,t.c⟩]
  else if i.op=4 then .more [⟨t.pc+1,t.at_,vQ t.c i.x.toNat (pl.getD t.at_ 0)⟩]
  else if i.op=5 then .more (if t.at_=0 then[⟨t.pc+1,t.at_,t.c⟩] else[])
  else if i.op=6 then .more (if t.at_=gs.length then[⟨t.pc+1,t.at_,t.c⟩] else[])
  else .more (if t.at_<gs.length∧iw i.rs ((gs.getD t.at_ (0,0)).1:Nat)=true then[⟨t.pc+1,t.at_+1,t.c⟩] else[])
theorem eU {n ns pc:Nat} {i:aJ} (h:db n ns pc i=true):
  i.op=7∨(i.op=2∧(0≤i.x∧i.x<(n:Int))∧0≤i.y∧i.y<(n:Int))∨(i.op=3∧0≤i.x∧i.x<(n:Int))∨(i.op=4∧pc+1<n∧0≤i.x∧i.x<10)∨(i.op=5∧pc+1<n)∨(i.op=6∧pc+1<n)∨(i.op=1∧pc+1<n):=by
 unfold db at h
 split at h
 ·rename_i h1;simp only[Bool.and_eq_true,decide_eq_true_eq] at h;refine .inr (.inr (.inr (.inr (.inr (.inr ⟨h1,?_⟩)))));omega
 ·simp only[Bool.and_eq_true] at h;obtain⟨_,h⟩:=h
  split at h
  ·rename_i h2;simp only[Bool.and_eq_true] at h;exact .inr (.inl ⟨h2,eE.1 h.1,eE.1 h.2⟩)
  ·simp only[Bool.and_eq_true] at h;obtain⟨_,h⟩:=h
   split at h
   ·rename_i h3;exact .inr (.inr (.inl ⟨h3,eE.1 h⟩))
   ·split at h
    ·rename_i h4;simp only[Bool.and_eq_true,decide_eq_true_eq] at h;exact .inr (.inr (.inr (.inl ⟨h4,by omega,eE.1 h.2⟩)))
    ·split at h
     ·rename_i h5;simp only[Bool.and_eq_true,decide_eq_true_eq] at h
      rcases h5 with h5|h5
      ·exact .inr (.inr (.inr (.inr (.inl ⟨h5,by omega⟩))))
      ·exact .inr (.inr (.inr (.inr (.inr (.inl ⟨h5,by omega⟩)))))
     ·split at h
      ·rename_i h7;exact .inl h7
      ·cases h
def fZ (N:Nat) (S:St) (k:Nat) (p:Pg) (gs:List (Nat×Nat)) (bK iK:D) (a8:List Int) (H:List bC) (t:gm) (cD:List gm) (d:D) (ah:St):Prop:=
 match bV p.code gs a8 t with
 | .found=>d=.tup [.agg (aw t.c),.bool true]∧∃gy,Has N S ah (.box k (.mem 0 false [p.cd,p.sd,cB gs,bK,iK,gy])::.aM gy 12 (cD.reverse.map bH)::.aM bK 1 (a8.map aq)::H)
 | .more l=>d=.tup [.agg (aw aH),.bool false]∧∃gy,Has N S ah (.box k (.mem 0 false [p.cd,p.sd,cB gs,bK,iK,gy])::.aM gy 12 ((l++cD).reverse.map bH)::.aM bK 1 (a8.map aq)::H)
theorem Fm {N:Nat} {S st:St} {H:List bC} {k:Nat} {p:Pg} {gs:List (Nat×Nat)} {bK iK gy:D} {a8:List Int} {t:gm} {cD:List gm} {i:aJ} (hF:S.flr≤N) (hp:p.ok) (hi:p.code[t.pc]?=some i) (hsh:db p.code.length p.az.length t.pc i=true) (pR:gs.length≤1048576) (jb:t.at_≤gs.length) (fU:a8.length=gs.length+1) (j6:cD.length≤536870912)
  (hH:Has N S st (.box k (.mem 0 false [p.cd,p.sd,cB gs,bK,iK,gy])::.aM gy 12 (cD.reverse.map bH)::.aM bK 1 (a8.map aq)::H)):
  ∃d ah,Ev pv 119 [.ptr k 0 0,.agg (bH t)] st d ah∧fZ N S k p gs bK iK a8 H t cD d ah:=by
 have hc:=hp.c.arg N S;have hlen:=hp.cl;have DT:Arg N S 2 (cB gs) (gs.map a7):=Arg.pure (fun st=>dt st gs);have hr:=iu hi;have Bu:=(hp.i i (List.mem_of_getElem? hi)).1;have SX:=Bu.arg N S;have pt:=(hp.i i (List.mem_of_getElem? hi)).2;have hlt:=bj hi;have mD:=eU hsh;obtain⟨op,x,y,rd,rs⟩:=i;obtain⟨pc,at_,c⟩:=t;simp only at*;refine Ev.iC rfl UG rfl rfl rfl ?_;dsimp only[u3,u4,List.length,Nat.reduceSub,Nat.reduceAdd,w1,w2];change ag _ _ _ _ st _;refine qq<|qj fun K hK=>qb hH fun k3 st Tu hH=>?_;dsimp only[u2,u1,u3,u4,setMany,u5,u6,D.cells,Nat.reduceAdd,aG,aq,bH,aw] at hH;refine qa hH fun k4 st Vd hH=>?_;refine qm ?_;refine qe hK<|qq<|qj fun K hK=>qm ?_;refine qg ?_;refine qp (o:=0) ?_;refine qp (o:=0) ?_;refine ql hH ba ?_;refine qp (o:=0) ?_;refine ql hH aS ?_;refine qr fun Zf S'=>?_;refine aa.dJ rfl (ev rfl) (by assumption) rfl (by dsimp only[Fr.put,u1,u2]<;>rfl) ?_;refine qa hH fun k6 st E5 hH=>?_;refine qS hH au fun st hH=>?_;dsimp only[u2,u1,u3,u4,setMany,u5,u6,D.cells,Nat.reduceAdd,aG,aq,bH,aw] at hH;refine qe hK<|qq<|qj fun K hK=>?_;refine aa.bk (m:=12) hH rfl (ev rfl) (by exact ba) (by dsimp only[List.drop_succ_cons,List.drop_zero,List.take_succ_cons,List.take_zero,aG,aq,bH,aw]<;>rfl) rfl rfl (by dsimp only[Fr.put,u1,u2]<;>rfl) ?_;refine qa hH fun k7 st W8 hH=>?_;refine qS hH au fun st hH=>?_;dsimp only[u2,u1,u3,u4,setMany,u5,u6,D.cells,Nat.reduceAdd,aG,aq,bH,aw] at hH;refine qe hK<|qq<|qj fun K hK=>qp (o:=0) ?_;refine ql hH au ?_;refine qA ?_;refine qp (o:=0) ?_;refine qT hH au fun st hH=>?_;dsimp only[u2,u1,u3,u4,setMany,u5,u6,D.cells,Nat.reduceAdd,aG,aq,bH,aw] at hH;refine qe hK<|qq<|qq<|qj fun K hK=>qp (o:=0) ?_;refine ql hH aS ?_;refine qe hK ?_;have hze:D.agg [.int .i64 0,.int .i64 0,.int .i64 0,.int .i64 0,.int .i64 0,.int .i64 0,.int .i64 0,.int .i64 0,.int .i64 0,.int .i64 0]=.agg (aw aH):=rfl;refine ag.merge (fun fr st=>∃(t':gm) (tmp:List (Nat×D)),fr=⟨24,[.ptr k 0 0,d_ fr 1,d_ fr 2,.ptr k3 0 0,.ptr k4 0 0,.bool false,.ptr k6 0 0,.ptr k7 0 0,d_ fr 8,d_ fr 9,d_ fr 10,d_ fr 11,d_ fr 12,d_ fr 13,d_ fr 14,d_ fr 15,d_ fr 16,d_ fr 17,d_ fr 18,d_ fr 19,d_ fr 20,d_ fr 21,d_ fr 22,d_ fr 23],tmp⟩∧Has N S st (.box k7 (.mem 0 false (bH t'))::.box k6 (.mem 0 false [.int .i64 op,.int .i64 x,.int .i64 y,rd])::.box k4 (.mem 0 false (aw aH))::.box k3 (.mem 0 false (bH ⟨pc,at_,c⟩))::.box k (.mem 0 false [p.cd,p.sd,cB gs,bK,iK,gy])::.aM gy 12 (cD.reverse.map bH)::.aM bK 1 (a8.map aq)::H)∧(bV p.code gs a8 ⟨pc,at_,c⟩=.more [t'])) ?_ ?_
 ·refine ag.block<|qq<|qj fun K hK=>qg ?_;refine qm ?_;refine qe hK ?_;refine ag.cond (by rfl) (fun h7=>?_) (fun h7=>?_)<;>try simp only[beq_iff_eq,beq_eq_false_iff_ne,ne_eq] at h7
  ·have hS:bV p.code gs a8 ⟨pc,at_,c⟩=.found:=by unfold bV;simp only[hi];rw[if_pos h7]
   refine qq<|qj fun K hK=>qp (o:=2) ?_;refine aa.bk (m:=10) hH rfl (ev rfl) (by exact bf) (by dsimp only[List.drop_succ_cons,List.drop_zero,List.take_succ_cons,List.take_zero,aG,aq,bH,aw]<;>rfl) rfl rfl (ab rfl _) ?_;refine qS hH ba fun st hH=>?_;dsimp only[u2,u1,u3,u4,setMany,u5,u6,D.cells,Nat.reduceAdd,aG,aq,bH,aw] at hH;refine qm ?_;refine qe hK<|ag.ret ⟨rx,_,_,_,hH.dg rfl ba rfl rfl,rfl,?_⟩;unfold fZ;rw[hS];exact⟨rfl,gy,hH.drop 4⟩
  ·refine qq<|qj fun K hK=>qg ?_;refine qm ?_;refine qe hK ?_;refine ag.cond (by rfl) (fun h2=>?_) (fun h2=>?_)<;>try simp only[beq_iff_eq,beq_eq_false_iff_ne,ne_eq] at h2
   ·obtain⟨_,⟨hx0,hx1⟩,hy0,hy1⟩:=(mD.resolve_left h7).resolve_right (by omega);obtain⟨xn,rfl⟩:=Int.eq_ofNat_of_zero_le hx0;obtain⟨yn,rfl⟩:=Int.eq_ofNat_of_zero_le hy0;have hS:bV p.code gs a8 ⟨pc,at_,c⟩=.more [⟨xn,at_,c⟩,⟨yn,at_,c⟩]:=by unfold bV;simp only[hi];rw[if_neg h7,if_pos h2];rfl
    refine qq<|qj fun K hK=>qm ?_;refine qm ?_;refine qg ?_;refine qp (o:=5) ?_;refine ql hH bm ?_;refine qp (o:=2) ?_;refine ql hH aS ?_;refine qp (o:=1) ?_;refine ql hH bf ?_;refine qp (o:=2) ?_;refine aa.bk (m:=10) hH rfl (ev rfl) (by exact bf) (by dsimp only[List.drop_succ_cons,List.drop_zero,List.take_succ_cons,List.take_zero,aG,aq,bH,aw]<;>rfl) rfl rfl (ab rfl _) ?_;refine aa.go (d:=.agg (bH ⟨yn,at_,c⟩)) (st1:=_) rfl rfl rfl (ab rfl _) ?_;refine qp (o:=1) ?_;refine ql hH aS ?_;refine qp (o:=1) ?_;refine ql hH bf ?_;refine qp (o:=2) ?_;refine aa.bk (m:=10) hH rfl (ev rfl) (by exact bf) (by dsimp only[List.drop_succ_cons,List.drop_zero,List.take_succ_cons,List.take_zero,aG,aq,bH,aw]<;>rfl) rfl rfl (ab rfl _) ?_;refine aa.go (d:=.agg (bH ⟨xn,at_,c⟩)) (st1:=_) rfl rfl rfl (ab rfl _) ?_;refine qh (s:=12) (vs:=[_,_]) hH fun k49 st aaQ hH=>?_;dsimp only[u2,u1,u3,u4,setMany,u5,u6,D.cells,Nat.reduceAdd,aG,aq,bH,aw] at hH;refine aa.bP (s:=12) hH rfl (ev rfl) (ev rfl) (by exact bU) (by exact hH.rows (by exact au)) rfl rfl rfl rfl rfl rfl rfl ⟨(Nat.le_of_ble_eq_true rfl),(Nat.le_of_ble_eq_true rfl)⟩ (fun _=>(ab rfl _)) (by simp only[List.length_cons,List.length_nil,List.length_map,List.length_reverse]<;>omega) (by exact .inl hF) (fun x50 st hH=>?_);dsimp only[u2,u1,u3,u4,setMany,u5,u6,D.cells,Nat.reduceAdd,aG,aq,bH,aw] at hH;refine qg ?_;refine qp (o:=5) ?_;refine qT hH bJ (fun st hH=>?_) (iS:=hH.cm bU);dsimp only[u2,u1,u3,u4,setMany,u5,u6,D.cells,Nat.reduceAdd,aG,aq,bH,aw] at hH;refine qe hK<|qq<|qj fun K hK=>aa.go (d:=.agg (aw aH)) (st1:=_) rfl rfl rfl (ab rfl _) ?_;refine qS hH bf fun st hH=>?_;dsimp only[u2,u1,u3,u4,setMany,u5,u6,D.cells,Nat.reduceAdd,aG,aq,bH,aw] at hH;refine qm ?_;refine qe hK<|ag.ret ⟨rx,_,_,_,hH.dg rfl bf rfl rfl,rfl,?_⟩;unfold fZ;rw[hS];refine⟨rfl,x50,?_⟩;have Wl:((([⟨xn,at_,c⟩,⟨yn,at_,c⟩]:List gm)++cD).reverse.map bH)=cD.reverse.map bH++[bH ⟨yn,at_,c⟩,bH ⟨xn,at_,c⟩]:=by simp
    rw[Wl];exact hH.drop 5
   ·refine qq<|qj fun K hK=>qg ?_;refine qm ?_;refine qe hK ?_;refine ag.cond (by rfl) (fun h3=>?_) (fun h3=>?_)<;>try simp only[beq_iff_eq,beq_eq_false_iff_ne,ne_eq] at h3
    ·obtain⟨_,hx0,hx1⟩:=((mD.resolve_left h7).resolve_left (by omega)).resolve_right (by omega);obtain⟨xn,rfl⟩:=Int.eq_ofNat_of_zero_le hx0;refine qj fun K hK=>qp (o:=1) ?_;refine ql hH aS ?_;refine qp (o:=0) ?_;refine qT hH au fun st hH=>?_;dsimp only[u2,u1,u3,u4,setMany,u5,u6,D.cells,Nat.reduceAdd,aG,aq,bH,aw] at hH;refine qe hK ?_;exact⟨⟨xn,at_,c⟩,_,rfl,hH,by unfold bV;simp only[hi];rw[if_neg h7,if_neg h2,if_pos h3];rfl⟩
    ·refine qq<|qj fun K hK=>qg ?_;refine qm ?_;refine qe hK ?_;refine ag.cond (by rfl) (fun h4=>?_) (fun h4=>?_)<;>try simp only[beq_iff_eq,beq_eq_false_iff_ne,ne_eq] at h4
     ·obtain⟨_,Bv,hx0,hx1⟩:=(((mD.resolve_left h7).resolve_left (by omega)).resolve_left (by omega)).resolve_right (by omega);obtain⟨xn,rfl⟩:=Int.eq_ofNat_of_zero_le hx0
      obtain⟨aU,Zx⟩:∃v,a8[at_]?=some v:=⟨a8[at_]'(by omega),List.getElem?_eq_getElem _⟩
      have iv:=eX Zx;refine qj fun K hK=>qp (o:=1) ?_;refine ql hH aS ?_;refine qm ?_;refine qg ?_;refine qp (o:=3) ?_;refine ql hH bm ?_;refine qp (o:=1) ?_;refine ql hH bf ?_;refine qi hH bU fun VG Qv=>?_;refine qo hH bU ?_;refine qp (o:=2) ?_;refine aa.LF (m:=10) (s:=1) (i:=xn) (o:=2+xn) rfl (ev rfl) (ev rfl) rfl rfl (by omega) (by omega) (ab rfl _) ?_;refine aa.fN hH rfl (ev rfl) (ev rfl) rfl (by exact rfl) au (by show 2+xn+1≤12;omega) (.inl hF) (fun st hH=>?_);change Has _ _ _ (.box k7 (.mem 0 false (setMany (_::_::aw c) (2+xn) [.int .i64 aU]))::_) at hH;rw[CF (by omega)] at hH;refine qe hK ?_;refine⟨⟨pc+1,at_,vQ c xn aU⟩,_,rfl,hH,by unfold bV;simp only[hi];rw[if_neg h7,if_neg h2,if_neg h3,if_pos h4];simp[List.getD_eq_getElem?_getD,Zx]⟩
     ·refine qq<|qj fun K hK=>qg ?_;refine qm ?_;refine qe hK ?_;refine ag.cond (by rfl) (fun h5=>?_) (fun h5=>?_)<;>try simp only[beq_iff_eq,beq_eq_false_iff_ne,ne_eq] at h5
      ·refine qq<|qj fun K hK=>qp (o:=1) ?_;refine ql hH bf ?_;refine qg ?_;refine qe hK ?_
       by_cases ha:at_=0
       ·subst ha;refine ag.cond (v:=false) (by dsimp only[Fr.ev,Fr.get,nth,V.look];rfl) (fun h=>by cases h) (fun _=>?_);refine ag.skip ?_;exact⟨⟨pc+1,0,c⟩,_,rfl,hH,by unfold bV;simp only[hi];rw[if_neg h7,if_neg h2,if_neg h3,if_neg h4,if_pos h5];rfl⟩
       ·refine qD rfl (by simp;omega) ?_;refine qq<|qj fun K hK=>aa.go (d:=.agg (aw aH)) (st1:=_) rfl rfl rfl (ab rfl _) ?_;refine qS hH ba fun st hH=>?_;dsimp only[u2,u1,u3,u4,setMany,u5,u6,D.cells,Nat.reduceAdd,aG,aq,bH,aw] at hH;refine qm ?_;refine qe hK<|ag.ret ⟨rx,_,_,_,hH.dg rfl ba rfl rfl,rfl,?_⟩;have hS:bV p.code gs a8 ⟨pc,at_,c⟩=.more []:=by unfold bV;simp only[hi];rw[if_neg h7,if_neg h2,if_neg h3,if_neg h4,if_pos h5,if_neg ha]
        unfold fZ;rw[hS];exact⟨rfl,gy,hH.drop 4⟩
      ·refine qq<|qj fun K hK=>qg ?_;refine qm ?_;refine qe hK ?_;refine ag.cond (by rfl) (fun h6=>?_) (fun h6=>?_)<;>try simp only[beq_iff_eq,beq_eq_false_iff_ne,ne_eq] at h6
       ·refine qq<|qj fun K hK=>qp (o:=1) ?_;refine ql hH bf ?_;refine qm ?_;refine qg ?_;refine qp (o:=2) ?_;refine ql hH bm ?_;refine qn ?_;simp only[List.length_map];refine qg ?_;refine qe hK ?_
        by_cases ha:at_=gs.length
        ·refine qE rfl (by rw[ha];simp) ?_;refine ag.skip ?_;exact⟨⟨pc+1,at_,c⟩,_,rfl,hH,by unfold bV;simp only[hi];rw[if_neg h7,if_neg h2,if_neg h3,if_neg h4,if_neg h5,if_pos h6,if_pos ha]⟩
        ·refine qD rfl (by simp;omega) ?_;refine qq<|qj fun K hK=>aa.go (d:=.agg (aw aH)) (st1:=_) rfl rfl rfl (ab rfl _) ?_;refine qS hH ba fun st hH=>?_;dsimp only[u2,u1,u3,u4,setMany,u5,u6,D.cells,Nat.reduceAdd,aG,aq,bH,aw] at hH;refine qm ?_;refine qe hK<|ag.ret ⟨rx,_,_,_,hH.dg rfl ba rfl rfl,rfl,?_⟩;have hS:bV p.code gs a8 ⟨pc,at_,c⟩=.more []:=by unfold bV;simp only[hi];rw[if_neg h7,if_neg h2,if_neg h3,if_neg h4,if_neg h5,if_pos h6,if_neg ha]
         unfold fZ;rw[hS];exact⟨rfl,gy,hH.drop 4⟩
       ·have h1:op=1:=by omega
        refine qq<|qj fun K hK=>qg ?_;refine qm ?_;refine qe hK<|qD rfl (by simp[h1]) ?_
        have mg:∀b,bV p.code gs a8 ⟨pc,at_,c⟩=.more b↔(.more (if at_<gs.length∧iw rs ((gs.getD at_ (0,0)).1:Nat)=true then[⟨pc+1,at_+1,c⟩] else[]):Cg)=.more b:=by
         intro b;unfold bV;simp only[hi];rw[if_neg h7,if_neg h2,if_neg h3,if_neg h4,if_neg h5,if_neg h6]
        by_cases ha:at_<gs.length
        ·obtain⟨g,hg⟩:∃g,gs[at_]?=some g:=⟨gs[at_]'ha,List.getElem?_eq_getElem _⟩
         have iv:(gs.map a7)[at_]?=some (a7 g):=by rw[List.getElem?_map,hg];rfl
         have yO:gs.getD at_ (0,0)=g:=by rw[List.getD_eq_getElem?_getD,hg];rfl
         have dF:decide ((at_:Int)≥(gs.length:Nat))=false:=by rw[decide_eq_false];simp;omega
         rw[yO] at mg;refine qq<|qq<|ag.kD 114 (.bool (!iw rs (g.1:Nat))) [] ?_ (fun ff tmp hO=>?_)
         ·refine qp (o:=1) ?_;refine ql hH bf ?_;refine qm ?_;refine qg ?_;refine qp (o:=2) ?_;refine ql hH bm ?_;refine qn ?_;simp only[List.length_map];refine qg ?_;refine qm ?_;refine qp (o:=3) ?_ (hg:=wi dF);refine ql hH aS ?_ (hg:=wi dF);refine qm ?_ (hg:=wi dF);refine qg ?_ (hg:=wi dF);refine qp (o:=2) ?_ (hg:=wi dF);refine ql hH bm ?_ (hg:=wi dF);refine qp (o:=1) ?_ (hg:=wi dF);refine ql hH bf ?_ (hg:=wi dF);refine qr (fun aac Zz=>?_) (hg:=wi dF);refine qf (fo:=0) (fun aab Zy=>?_) (hg:=wi dF);refine qR ?_ (hg:=wi dF);refine qv (yV (SX.rows hH) (by omega)) ?_ (hg:=wi dF);refine qg ?_ (hg:=wi dF);refine qu dF ?_;refine aa.nil (dv ?_ ?_)
          ·dsimp only[aO,List.foldl,nth,u2,u1]
           all_goals(first|rfl|simp)
          ·dsimp only[Fr.aE,Fr.put,Fr.clean,Fr.ev,Fr.get,nth,look,u1,u2,v1,v2,v4]
           all_goals(rfl)
         dsimp only[aO,List.foldl,nth,u2,u1];refine ag.cond (by assumption) (fun hh=>?_) (fun hh=>?_)<;>try simp only[Bool.not_eq_true',Bool.not_eq_false'] at hh
         ·refine qq<|qj fun K hK=>aa.go (d:=.agg (aw aH)) (st1:=_) rfl rfl rfl (ab rfl _) ?_;refine qS hH ba fun st hH=>?_;dsimp only[u2,u1,u3,u4,setMany,u5,u6,D.cells,Nat.reduceAdd,aG,aq,bH,aw] at hH;refine qm ?_;refine qe hK<|ag.ret ⟨rx,_,_,_,hH.dg rfl ba rfl rfl,rfl,?_⟩;have hS:=(mg []).2 (by rw[if_neg (by rintro⟨_,h⟩;rw[h] at hh;cases hh)]);unfold fZ;rw[hS];exact⟨rfl,gy,hH.drop 4⟩
         ·refine ag.skip<|qj fun K hK=>qp (o:=1) ?_;refine ql hH au ?_;refine qA ?_;refine qp (o:=1) ?_;refine qT hH au fun st hH=>?_;dsimp only[u2,u1,u3,u4,setMany,u5,u6,D.cells,Nat.reduceAdd,aG,aq,bH,aw] at hH;refine qe hK ?_;exact⟨⟨pc+1,at_+1,c⟩,_,rfl,hH,(mg _).2 (by rw[if_pos ⟨ha,by simpa using hh⟩])⟩
        ·have dF:decide ((at_:Int)≥(gs.length:Nat))=true:=by rw[decide_eq_true];simp;omega
         refine qq<|qq<|ag.kD 114 (.bool true) [] ?_ (fun ff tmp hO=>?_)
         ·refine qp (o:=1) ?_;refine ql hH bf ?_;refine qm ?_;refine qg ?_;refine qp (o:=2) ?_;refine ql hH bm ?_;refine qn ?_;simp only[List.length_map];refine qg ?_;refine qm ?_;refine qs ?_ (hg:=wn dF);refine qs ?_ (hg:=wn dF);refine qs ?_ (hg:=wn dF);refine qs ?_ (hg:=wn dF);refine qs ?_ (hg:=wn dF);refine qs ?_ (hg:=wn dF);refine qs ?_ (hg:=wn dF);refine qs ?_ (hg:=wn dF);refine qs ?_ (hg:=wn dF);refine qs ?_ (hg:=wn dF);refine qs ?_ (hg:=wn dF);refine qs ?_ (hg:=wn dF);refine qs ?_ (hg:=wn dF);refine qt dF ?_;refine aa.nil (dv ?_ ?_)
          ·dsimp only[aO,List.foldl,nth,u2,u1]
           all_goals(first|rfl|simp)
          ·dsimp only[Fr.aE,Fr.put,Fr.clean,Fr.ev,Fr.get,nth,look,u1,u2,v1,v2,v4]
           all_goals(rfl)
         dsimp only[aO,List.foldl,nth,u2,u1];refine qB ?_;refine qq<|qj fun K hK=>aa.go (d:=.agg (aw aH)) (st1:=_) rfl rfl rfl (ab rfl _) ?_;refine qS hH ba fun st hH=>?_;dsimp only[u2,u1,u3,u4,setMany,u5,u6,D.cells,Nat.reduceAdd,aG,aq,bH,aw] at hH;refine qm ?_;refine qe hK<|ag.ret ⟨rx,_,_,_,hH.dg rfl ba rfl rfl,rfl,?_⟩;have hS:=(mg []).2 (by rw[if_neg (fun h=>ha h.1)]);unfold fZ;rw[hS];exact⟨rfl,gy,hH.drop 4⟩
 ·rintro fr st ⟨t',tmp,hfr,hH,hS⟩;rw[hfr];clear hfr;generalize d_ fr=ee;clear fr;obtain⟨U5,Z9,c'⟩:=t';dsimp only[bH,aw] at hH;refine qq<|qj fun K hK=>qm ?_;refine qm ?_;refine qg ?_;refine qp (o:=5) ?_;refine ql hH bm ?_;refine aa.bk (m:=12) hH rfl (ev rfl) (by exact au) (by dsimp only[List.drop_succ_cons,List.drop_zero,List.take_succ_cons,List.take_zero,aG,aq,bH,aw]<;>rfl) rfl rfl (ab rfl _) ?_;refine qh (s:=12) (vs:=[_]) hH fun k126 st ZG hH=>?_;refine aa.bP (s:=12) hH rfl (ev rfl) (ev rfl) (by exact bU) (by exact hH.rows (by exact au)) rfl rfl rfl rfl rfl rfl rfl ⟨(Nat.le_of_ble_eq_true rfl),(Nat.le_of_ble_eq_true rfl)⟩ (fun _=>(ab rfl _)) (by simp only[List.length_cons,List.length_nil,List.length_map,List.length_reverse]<;>omega) (by exact .inl hF) (fun Vu st hH=>?_);dsimp only[u2,u1,u3,u4,setMany,u5,u6,D.cells,Nat.reduceAdd,aG,aq,bH,aw] at hH;refine qg ?_;refine qp (o:=5) ?_;refine qT hH bJ (fun st hH=>?_) (iS:=hH.cm bU);dsimp only[u2,u1,u3,u4,setMany,u5,u6,D.cells,Nat.reduceAdd,aG,aq,bH,aw] at hH;refine qe hK<|qq<|qj fun K hK=>aa.go (d:=.agg (aw aH)) (st1:=_) rfl rfl rfl (ab rfl _) ?_;refine qS hH bf fun st hH=>?_;dsimp only[u2,u1,u3,u4,setMany,u5,u6,D.cells,Nat.reduceAdd,aG,aq,bH,aw] at hH;refine qm ?_;refine qe hK<|ag.ret ⟨rx,_,_,_,hH.dg rfl bf rfl rfl,rfl,?_⟩;unfold fZ;rw[hS];refine⟨rfl,Vu,?_⟩;have Wl:((([⟨U5,Z9,c'⟩]:List gm)++cD).reverse.map bH)=cD.reverse.map bH++[bH ⟨U5,Z9,c'⟩]:=by simp
  rw[Wl];exact hH.drop 5
end Go.Proofs.YtbdnabmmlbiomaaGreat
