/-
 What Compile makes is right; what its rules reach: the ends.
-/
import Derived.Test.YtbdnabmmlbiomaaGreatXGQh
import Derived.Test.YtbdnabmmlbiomaaGreatXGQa
import Derived.Test.YtbdnabmmlbiomaaGreatXGPc
import Derived.Test.YtbdnabmmlbiomaaGreatXGJf
set_option maxRecDepth 100000
set_option linter.unusedSimpArgs false
set_option linter.unusedVariables false
set_option maxHeartbeats 4000000
set_option linter.unusedSectionVars false
namespace Go.Proofs.YtbdnabmmlbiomaaGreat
open Go.V Go
theorem CI {lo hi u:Nat} {i:aQ} (h:dL lo hi i) (h1:lo≤u+1) (h2:u+1≤hi):∀v∈cj u i,(lo:Int)≤v∧v≤hi:=by
 intro v hv;unfold cj at hv
 rcases h with⟨a,_⟩|⟨a,_,c,d⟩|⟨a,_,_,d⟩|⟨a,_⟩|⟨a,_⟩
 ·rw[if_neg (by omega),if_neg (by omega),if_neg (by omega)] at hv;simp only[List.mem_cons,List.not_mem_nil,or_false] at hv;omega
 ·rw[if_pos a] at hv;simp only[List.mem_cons,List.not_mem_nil,or_false] at hv
  rcases hv with rfl|rfl<;>omega
 ·rw[if_neg (by omega),if_pos a] at hv;simp only[List.mem_cons,List.not_mem_nil,or_false] at hv;omega
 ·rw[if_neg (by omega),if_neg (by omega),if_neg (by omega)] at hv;simp only[List.mem_cons,List.not_mem_nil,or_false] at hv;omega
 ·rw[if_neg (by omega),if_neg (by omega),if_neg (by omega)] at hv;simp only[List.mem_cons,List.not_mem_nil,or_false] at hv;omega
theorem yt {lo hi n ns pc:Nat} {i:aQ} (h:dL lo hi i) (h1:hi<n) (h2:pc+1<n):cC n ns pc i=true:=by
 have qw:∀v:Int,(lo:Int)≤v→v≤hi→jQ v n=true:=fun v a b=>dS.2 ⟨by omega,by omega⟩;have hd:decide (((pc+1:Nat):Int)<n)=true:=by rw[decide_eq_true_eq];omega
 unfold cC
 rcases h with⟨a,b,c,d⟩|⟨a,b,c,d⟩|⟨a,b,c,d⟩|⟨a,b,c,d⟩|⟨a,b,c,d⟩
 ·rw[if_pos a,hd,b,c,d];rfl
 ·rw[if_neg (by omega),if_pos a,b,qw _ c.1 c.2,qw _ d.1 d.2];rfl
 ·rw[if_neg (by omega),if_neg (by omega),if_pos a,b,c,qw _ d.1 d.2];rfl
 ·rw[if_neg (by omega),if_neg (by omega),if_neg (by omega),if_pos a,b,c,hd,dS.2 ⟨d.1,d.2⟩];rfl
 ·rw[if_neg (by omega),if_neg (by omega),if_neg (by omega),if_neg (by omega),if_pos a,b,c,hd,d];rfl
theorem oG {t:Tr} {b r o:Nat} {q:aQ} (h1:t.ok) (h2:FY t.flat) (h:(ft t b r)[o]?=some q):(o<t.sz+2∧dL b (b+t.sz+2) q)∨(o=t.sz+2∧q=dx 7 (r:Nat) 0 []):=by
 have hl:=cS t (b+1) h1;have hA:ft t b r=(dx 4 0 0 []::(bc t (b+1)++[dx 4 1 0 []]))++[dx 7 (r:Nat) 0 []]:=by unfold ft;simp
 have hAl:(dx 4 0 0 []::(bc t (b+1)++[dx 4 1 0 []])).length=t.sz+2:=by simp[hl]
 rw[hA] at h
 by_cases ho:o<t.sz+2
 ·rw[List.getElem?_append_left (by omega)] at h;refine .inl ⟨ho,?_⟩;have hm:=List.mem_of_getElem? h
  rcases List.mem_cons.1 hm with rfl|hm
  ·exact dL.save (by omega)
  ·rcases List.mem_append.1 hm with hm|hm
   ·exact(kO t (b+1) h1 h2 q hm).mono (by omega) (by omega)
   ·simp only[List.mem_cons,List.not_mem_nil,or_false] at hm;subst hm;exact dL.save (by omega)
 ·rw[List.getElem?_append_right (by omega),hAl] at h;have h0:=bC h;simp only[List.length_cons,List.length_nil] at h0;have uF:o=t.sz+2:=by omega
  refine .inr ⟨uF,?_⟩;rw[uF,Nat.sub_self] at h;exact(Option.some.inj h).symm
structure WB (p:Pg) (r s e:Nat):Prop where
 st:p.ak[r]?=some (s:Int)
 se:s<e
 el:e≤p.code.length
 nx:∀b':Int,p.ak[r+1]?=some b'→b'=(e:Int)
 la:r+1=p.ak.length→p.code.length=e
 mt:p.code[e-1]?=some (dx 7 (r:Nat) 0 [])
 fi:(rI p (r:Nat))[0]?=some (s:Int)
 lt:(rI p (r:Nat))[(rI p (r:Nat)).length-1]?=some ((e-1:Nat):Int)
theorem B6 {X:List Int} {a b:Int} (hp:X.Pairwise (·<·)) (ha:a∈X) (hb:b∈X) (h:∀v∈X,a≤v∧v≤b):X[0]?=some a∧X[X.length-1]?=some b:=by
 obtain⟨i,hi⟩:=List.getElem?_of_mem ha;obtain⟨j,hj⟩:=List.getElem?_of_mem hb;have hil:=bC hi;have jI:=bC hj
 have hlt:∀u v (x y:Int),u<v→X[u]?=some x→X[v]?=some y→x<y:=fun u v x y huv hx hy=>by
  have:=List.pairwise_iff_getElem.1 hp u v (bC hx) (bC hy) huv;have ex:X[u]'(bC hx)=x:=Option.some.inj ((List.getElem?_eq_getElem _).symm.trans hx);have ey:X[v]'(bC hy)=y:=Option.some.inj ((List.getElem?_eq_getElem _).symm.trans hy);rw[ex,ey] at this;exact this
 constructor
 ·obtain⟨x,hx⟩:∃x,X[0]?=some x:=⟨X[0]'(by omega),List.getElem?_eq_getElem _⟩
  have:=h x (List.mem_of_getElem? hx)
  by_cases h0:i=0
  ·rw[←h0];exact hi
  ·have:=hlt 0 i x a (by omega) hx hi;omega
 ·obtain⟨x,hx⟩:∃x,X[X.length-1]?=some x:=⟨X[X.length-1]'(by omega),List.getElem?_eq_getElem _⟩
  have:=h x (List.mem_of_getElem? hx)
  by_cases h0:j=X.length-1
  ·rw[←h0];exact hj
  ·have:=hlt j (X.length-1) b x (by omega) hj hx;omega
theorem zG {parts:List (List ej)} (hl:parts.length≤8) (he:(bM parts).e=0) (hcl:(bM parts).code.length≤400):
  bE (pH (bM parts).code (bM parts).ak)∧(bM parts).ak.length=parts.length∧∀r,r<parts.length→∃s e,WB (pH (bM parts).code (bM parts).ak) r s e:=by
 have iy:bM parts=fw parts 0 [] []:=by unfold bM;rw[if_neg (by omega)]
 rw[iy] at he hcl⊢;obtain⟨C,B,h1,h2,h3⟩:=ta parts 0 [] [] he;simp only[List.nil_append] at h1 h2;simp only[List.length_nil] at h3;rw[h1] at hcl;rw[h1,h2];have W6:=h3.bl
 have hsh:∀pc i,C[pc]?=some i→cC C.length B.length pc i=true:=by
  intro pc i hi;obtain⟨j,q1,t,b,q2,q3,q4,q5,q6,q7,q8,q9⟩:=h3.al pc i hi;rw[Nat.zero_add] at q9
  rcases oG q3 q4 q9 with⟨g1,g2⟩|⟨g1,g2⟩
  ·exact yt g2 (by omega) (by omega)
  ·rw[g2];have:jQ ((j:Nat):Int) B.length=true:=dS.2 ⟨by omega,by omega⟩;unfold cC dx;simp[this]
 have Vf:iM C:=mq (p:=pH C B) hsh
 have EK:∀r,r<parts.length→∃s e:Nat,B[r]?=some (s:Int)∧s<e∧e≤C.length∧(∀b':Int,B[r+1]?=some b'→b'=(e:Int))∧(r+1=parts.length→C.length=e)∧C[e-1]?=some (dx 7 (r:Nat) 0 [])∧(∀u:Nat,(bF C (s:Nat))[u]?=some true→s≤u∧u<e)∧(bF C (s:Nat))[s]?=some true∧(bF C (s:Nat))[e-1]?=some true∧∀u i,s≤u→u<e→C[u]?=some i→i.op=7→i.x=(r:Int):=by
  intro r hr;obtain⟨t,b,q1,q2,q3,q4,q5,q6,pre,post,q7,q8⟩:=h3.el r hr;rw[Nat.zero_add] at q6 q8;rw[Nat.zero_add] at q7;have ni:=l8 (b:=b) (r:=r) q1;have Tm:C.length=b+(t.sz+3)+post.length:=by rw[q7,List.length_append,List.length_append,ni,q8]
  have jv:∀u,b≤u→u<b+t.sz+3→C[u]?=(ft t b r)[u-b]?:=fun u g1 g2=>by
   rw[q7,List.append_assoc,List.getElem?_append_right (by omega),q8,List.getElem?_append_left (by omega)]
  have kJ:gu C b (ft t b r):=⟨post,by rw[q7,List.append_assoc,←q8,List.drop_left]⟩
  have qw:∀u:Nat,(bF C (b:Nat))[u]?=some true→b≤u∧u<b+t.sz+3:=by
   unfold bF;refine Ak (I:=fun u=>b≤u∧u<b+t.sz+3) (fun u i hu hi v hv=>?_) _ _ _ (fun v hv=>?_) (fun u hu=>?_)
   ·rw[jv u hu.1 hu.2] at hi
    rcases oG q1 q2 hi with⟨g1,g2⟩|⟨g1,g2⟩
    ·have:=CI (u:=u) g2 (by omega) (by omega) v hv;omega
    ·rw[g2] at hv;have:cj u (dx 7 (r:Nat) 0 [])=[]:=by unfold cj dx;simp
     rw[this] at hv;cases hv
   ·simp only[List.mem_cons,List.not_mem_nil,or_false] at hv;subst hv;rw[Int.toNat_natCast];omega
   ·rw[List.getElem?_replicate] at hu
    split at hu<;>cases hu
  have hs:=xl (s:=b) Vf (by omega)
  have hmt:C[b+t.sz+3-1]?=some (dx 7 (r:Nat) 0 []):=by
   rw[jv _ (by omega) (by omega)];unfold ft;have wb:=cS t (b+1) q1;rw[show b+t.sz+3-1-b=(t.sz+1)+1 by omega,List.getElem?_cons_succ,List.getElem?_append_right (by omega),wb,show t.sz+1-t.sz=1 by omega]
   rfl
  have UB:Path C b (b+t.sz+3-1):=by
   unfold ft at kJ;have p1:Path C b (b+1):=Path.Af kJ.head (by show(4:Int)≠2∧(4:Int)≠3∧(4:Int)≠7;decide);have p2:=CY (C:=C) _ t (Nat.le_refl _) (b+1) q1 kJ.tail.left;have h4:=kJ.tail.right;rw[cS t _ q1] at h4;have p3:Path C (b+1+t.sz) (b+1+t.sz+1):=Path.Af h4.head (by show(4:Int)≠2∧(4:Int)≠3∧(4:Int)≠7;decide);rw[show b+t.sz+3-1=b+1+t.sz+1 by omega];exact p1.trans (p2.trans p3)
  refine⟨b,b+t.sz+3,q3,by omega,by omega,fun b' eF=>q5 b' eF,q6,hmt,qw,hs,Cd Vf ⟨by omega,by omega⟩ UB hs,fun u i g1 g2 hi ho=>?_⟩;rw[jv u g1 g2] at hi
  rcases oG q1 q2 hi with⟨_,g3⟩|⟨_,g3⟩
  ·rcases g3 with⟨a,_⟩|⟨a,_⟩|⟨a,_⟩|⟨a,_⟩|⟨a,_⟩<;>omega
  ·rw[g3];rfl
 have hR:bE (pH C B):=by
  refine⟨hcl,by show B.length≤8;omega,hsh,fun v hv=>?_,fun r s hs pc i yW Uv hi ho=>?_⟩
  ·obtain⟨r,hr⟩:=List.getElem?_of_mem (show v∈B from hv);obtain⟨s,e,g1,g2,g3,_⟩:=EK r (by rw[←W6];exact bC hr);rw[g1] at hr;cases hr;show(0:Int)≤(s:Int)∧(s:Int)<(C.length:Int);omega
  ·have hs:B[r]?=some s:=hs;obtain⟨s',e,g1,g2,g3,g4,g5,g6,g7,g8,g9,g10⟩:=EK r (by rw[←W6];exact bC hs);rw[g1] at hs;cases hs;obtain⟨k1,k2⟩:=g7 pc Uv;exact g10 pc i k1 k2 hi ho
 refine⟨hR,by rw[W6],fun r hr=>?_⟩;obtain⟨s,e,g1,g2,g3,g4,g5,g6,g7,g8,g9,g10⟩:=EK r hr
 have hrn:rI (pH C B) (r:Nat)=rP 0 (bF C (s:Nat)):=by
  unfold rI;have hi:jQ ((r:Nat):Int) (pH C B).ak.length=true:=dS.2 ⟨by omega,by show((r:Nat):Int)<(B.length:Nat);omega⟩;rw[cD hR,hi]
  have MP:(pH C B).ak.getD ((r:Nat):Int).toNat 0=(s:Int):=by
   rw[Int.toNat_natCast,List.getD_eq_getElem?_getD];show(B[r]?).getD 0=_;rw[g1];rfl
  rw[MP];rfl
 have NL:=B6 (uf (bF C (s:Nat)) 0) (a:=(s:Int)) (b:=((e-1:Nat):Int)) (jZ.2 ⟨s,g8,by rw[Nat.zero_add]⟩) (jZ.2 ⟨e-1,g9,by rw[Nat.zero_add]⟩) (fun v hv=>by
  obtain⟨k,k1,k2⟩:=jZ.1 hv;have:=g7 k k1
  omega)
 exact⟨s,e,g1,g2,g3,fun b' eF=>g4 b' eF,fun gB=>g5 (by rw[←W6];exact gB),g6,by rw[hrn];exact NL.1,by rw[hrn];exact NL.2⟩
def mS (fr:Go.V.Fr) (k:Nat):Go.V.D:=Go.V.nth .bD fr.loc k
theorem uV:∀(ls:List (List ej)) (r:Nat) (c:List aQ) (s:List Int),(fw ls r c s).e≠0→(fw ls r c s).code=[]∧(fw ls r c s).ak=[]
 |[],r,c,s,h=>by rw[pb] at h;exact absurd rfl h
 |l::ls,r,c,s,h=>by
  rw[fw] at h⊢
  split
  ·exact⟨rfl,rfl⟩
  ·rename_i h1;rw[if_neg h1] at h
   split
   ·exact⟨rfl,rfl⟩
   ·rename_i h2;rw[if_neg h2] at h;exact uV ls _ _ _ h
theorem pU {ls:List (List ej)} (h:(bM ls).e≠0):(bM ls).code=[]∧(bM ls).ak=[]:=by
 unfold bM at h⊢
 split
 ·exact⟨rfl,rfl⟩
 ·rename_i h1;rw[if_neg h1] at h;exact uV _ _ _ _ h
theorem zf:bE (pH [] []):=⟨by simp[pH],by simp[pH],fun pc i h=>by simp[pH] at h,fun v h=>by simp[pH] at h,fun r s h=>by simp[pH] at h⟩
theorem tO {ls:List (List ej)} (hl:ls.length≤8) (hcl:(bM ls).code.length≤400):bE (pH (bM ls).code (bM ls).ak):=by
 by_cases he:(bM ls).e=0
 ·exact(zG hl he hcl).1
 ·rw[(pU he).1,(pU he).2];exact zf
theorem zH {s0:St} {x:D} {ps:List (List UInt8)} (hx:V.Rows s0 1 x (ps.map y6)) (hl:ps.length≤1048576) (hb:∀b∈ps,b.length≤1048576):∃d,Ev pv 27 [x] s0 d s0∧∃(ls:List (List ej)) (R:tt),bM ls=R∧ls.length≤8∧R.code.length≤400∧d=.tup [(pH R.code R.ak).d,.bool (R.e==0)]∧(pH R.code R.ak).ok:=by
 refine Ev.Db rfl Z8 rfl rfl rfl ?_;dsimp only[u3,u4,List.length,Nat.reduceSub,Nat.reduceAdd,w1,w2];obtain⟨bt,hF,hH⟩:=ri s0;generalize ah .ro s0=S at*;have hx:=Arg.of hx bt;refine qq<|qj fun K hK=>qa hH fun k2 st hk2 hH=>?_;refine qm ?_;refine qe hK<|qq<|qj fun K hK=>qm ?_;refine qe hK<|qq<|qq<|qj fun K hK=>qm ?_;refine qe hK ?_;have hH:Has s0.bs.length S st (.aO .nul 1 (([]:List (List ej)).map eP)::.box k2 (.mem 0 false [.nul,.nul])::[]):=hH.ew 1;refine ab.block<|ab.loop (fun mm fr st=>∃(i:Nat) (ld:D) (parts:List (List ej)),fr.clean=⟨11,[x,mS fr 1,.ptr k2 0 0,.bool false,ld,.int .i64 (i:Nat),mS fr 6,mS fr 7,mS fr 8,mS fr 9,mS fr 10],[]⟩∧Has s0.bs.length S st [.aO ld 1 (parts.map eP),.box k2 (.mem 0 false [.nul,.nul])]∧(i+mm=8)∧(∀l∈parts,(∀n∈l,wL n)∧l.length≤500)∧(parts.length≤i)) (8) ?_ ?_
 ·exact⟨0,.nul,[],rfl,hH,by omega,fun l hl=>(by cases hl),by simp⟩
 rintro mm fr st ⟨i,ld,parts,hfr,hH,hi,hp,ib⟩;rw[hfr];clear hfr;generalize mS fr=ee;clear fr;refine qq<|qq<|ab.dz 19 (.bool (decide (((i:Nat):Int)<((ps.length:Nat):Int)) &&decide (((i:Nat):Int)<8))) [] ?_ (fun ff tmp cY=>?_)
 ·refine qm ?_;refine qm ?_;refine qn ?_;simp only[List.length_map];refine qg ?_;refine qm ?_;refine aa.two 16 rfl (fun cx=>?_) (fun cx=>?_)
  ·refine qm ?_ (hg:=wi cx);refine qg ?_ (hg:=wi cx);refine qt cx ?_;refine aa.nil (aY ?_ ?_)
   ·dsimp only[aB,List.foldl,nth,u2,u1]
    all_goals(first|rfl|simp)
   ·dsimp only[Fr.aj,Fr.put,Fr.clean,Fr.ev,Fr.get,nth,V.look,u1,u2,v1,v2,v3,v4,v5,v6,v7,List.length,u3,u4,Nat.reduceSub,Nat.reduceAdd,List.map]
    all_goals(simp_all;done)
  ·refine qs ?_ (hg:=wn cx);refine qs ?_ (hg:=wn cx);refine qu cx ?_;refine aa.nil (aY ?_ ?_)
   ·dsimp only[aB,List.foldl,nth,u2,u1]
    all_goals(first|rfl|simp)
   ·dsimp only[Fr.aj,Fr.put,Fr.clean,Fr.ev,Fr.get,nth,V.look,u1,u2,v1,v2,v3,v4,v5,v6,v7,List.length,u3,u4,Nat.reduceSub,Nat.reduceAdd,List.map]
    all_goals(simp_all;omega)
 dsimp only[aB,List.foldl,nth,u2,u1];dsimp only[Fr.aj,Fr.put,Fr.clean,Fr.ev,Fr.get,nth,V.look,u1,u2,v1,v2,v3,v4,v5,v6,v7,List.length,u3,u4,Nat.reduceSub,Nat.reduceAdd,List.map]
 by_cases hlt:i<ps.length∧i<8
 ·obtain⟨b,Sn⟩:∃b,ps[i]?=some b:=⟨ps[i]'hlt.1,List.getElem?_eq_getElem _⟩
  have gB:=Gj Sn;have hbl:=hb b (List.mem_of_getElem? Sn);have uI:(decide (((i:Nat):Int)<((ps.length:Nat):Int)) &&decide (((i:Nat):Int)<8))=true:=by rw[Bool.and_eq_true,decide_eq_true_eq,decide_eq_true_eq];omega
  rw[uI] at cY;refine qB ?_;refine ab.skip<|qq<|ab.block ?_;obtain⟨_,aL,l,e,w,rfl,hv,wG⟩:=D6 (s0:=st) hbl;refine qq<|qj fun K hK=>qm ?_;refine qm ?_;refine qr fun S3 CC=>?_;refine qR ?_;refine qv (aL) ?_;refine qm ?_;refine qg ?_;refine qg ?_;refine qg ?_;refine qm ?_;refine qm ?_;refine qm ?_;refine qe hK<|qq<|qj fun K hK=>qm ?_;refine qg ?_;refine qe hK ?_;refine ab.cond (by rfl) (fun he=>?_) (fun he=>?_)<;>try simp only[beq_iff_eq,beq_eq_false_iff_ne,ne_eq] at he
  ·refine qj fun K hK=>qm ?_;refine qm ?_;refine qh (s:=1) (vs:=[_]) hH fun k35 st abI hH=>?_;refine aa.bL (s:=1) hH rfl (ev rfl) (ev rfl) (by exact bh) (by exact hH.rows (by exact av)) rfl rfl rfl rfl rfl rfl rfl ⟨(Nat.le_of_ble_eq_true rfl),(Nat.le_of_ble_eq_true rfl)⟩ (fun _=>(ae rfl _)) (by simp only[List.length_cons,List.length_nil,List.length_map]<;>omega) (by exact .inl hF) (fun x36 st hH=>?_);dsimp only[u2,u1,u3,u4,setMany,u5,u6,D.cells,Nat.reduceAdd,eP,pV,Pg.d,Pg.cs,pH] at hH;refine qm ?_;refine qe hK ?_;have hH:=hH.drop 1;refine qj fun K hK=>qm ?_;refine qA ?_;refine qm ?_;refine qe hK ?_;refine⟨mm-1,by omega,⟨i+1,x36,parts++[l],rfl,(by rw[List.map_append];exact hH),by omega,?_,by rw[List.length_append];simp only[List.length_cons,List.length_nil];omega⟩⟩;intro l' gP
   rcases List.mem_append.1 gP with gP|gP
   ·exact hp l' gP
   ·simp only[List.mem_cons,List.not_mem_nil,or_false] at gP;subst gP;exact⟨hv,wG⟩
  ·refine ab.skip<|qj fun K hK=>qm ?_;refine qA ?_;refine qm ?_;refine qe hK ?_;exact⟨mm-1,by omega,⟨i+1,ld,parts,rfl,hH,by omega,hp,by omega⟩⟩
 ·have uI:(decide (((i:Nat):Int)<((ps.length:Nat):Int)) &&decide (((i:Nat):Int)<8))=false:=by
   rw[Bool.and_eq_false_iff,decide_eq_false_iff_not,decide_eq_false_iff_not];omega
  rw[uI] at cY;refine qC ?_;refine ab.exit ?_;obtain⟨aL,bA,hlen⟩:=Ap hp (by omega) (hH.rows av);generalize hRR:bM parts=R at*;refine qq<|qj fun K hK=>qm ?_;refine qv (aL) ?_;refine qm ?_;refine qg ?_;refine qg ?_;refine qg ?_;refine qa hH fun k9 st hk9 hH=>?_;refine qS hH av fun st hH=>?_;dsimp only[u2,u1,u3,u4,setMany,u5,u6,D.cells,Nat.reduceAdd,eP,pV,Pg.d,Pg.cs,pH] at hH;refine qm ?_;refine qm ?_;refine qe hK<|qq<|qj fun K hK=>?_;refine aa.aF (m:=2) hH rfl (ev rfl) (by exact av) (by dsimp only[List.drop_succ_cons,List.drop_zero,List.take_succ_cons,List.take_zero,eP,pV,Pg.d,Pg.cs,pH]<;>rfl) rfl rfl (ae rfl _) ?_;refine qm ?_;refine qg ?_;refine qS hH dF fun st hH=>?_;dsimp only[u2,u1,u3,u4,setMany,u5,u6,D.cells,Nat.reduceAdd,eP,pV,Pg.d,Pg.cs,pH] at hH;refine qm ?_;refine qe hK<|ab.ret ⟨rx,_,_,hH.lB rfl dF rfl rfl,rl bt hH (show _=some (D.tup [(pH R.code R.ak).d,.bool (R.e==0)]) from rfl),⟨parts,R,hRR,by omega,hlen,rfl,bA⟩⟩
theorem Cp {s0:St} {x:D} {ps:List (List UInt8)} (hx:V.Rows s0 1 x (ps.map y6)) (hl:ps.length≤1048576) (hb:∀b∈ps,b.length≤1048576):∃d,Ev pv 27 [x] s0 d s0∧∃(p:Pg) (ok:Bool),d=.tup [p.d,.bool ok]∧p.ok∧bE p:=by
 obtain⟨d,aL,ls,R,rfl,Yx,hcl,rfl,bA⟩:=zH (s0:=s0) hx hl hb;exact⟨_,aL,_,_,rfl,bA,tO Yx hcl⟩
end Go.Proofs.YtbdnabmmlbiomaaGreat
namespace Go.V
variable{N:Nat} {S st:St} {H:List bJ}
theorem Has.lA (A B:List bJ) (h:Has N S st (A++(B++H))):Has N S st (B++(A++H)):=by
 refine h.sub (fun i=>if i<B.length then i+A.length else if i<B.length+A.length then i-B.length else i) (fun a b e=>?_) fun i e hi=>?_
 ·have e':(if a<B.length then a+A.length else if a<B.length+A.length then a-B.length else a)=(if b<B.length then b+A.length else if b<B.length+A.length then b-B.length else b):=e
  repeat' split at e'
  all_goals omega
 ·show(A++(B++H))[if i<B.length then i+A.length else if i<B.length+A.length then i-B.length else i]?=some e
  by_cases h1:i<B.length
  ·rw[if_pos h1,List.getElem?_append_right (by omega),Nat.add_sub_cancel,List.getElem?_append_left h1]
   rwa [List.getElem?_append_left h1] at hi
  ·rw[List.getElem?_append_right (by omega)] at hi
   by_cases h2:i<B.length+A.length
   ·rw[if_neg h1,if_pos h2,List.getElem?_append_left (by omega)]
    rwa [List.getElem?_append_left (by omega)] at hi
   ·rw[if_neg h1,if_neg h2,List.getElem?_append_right (by omega),List.getElem?_append_right (by omega)];rw[List.getElem?_append_right (by omega)] at hi;rw[←hi];congr 1;omega
theorem Has.fg {j:Nat} {e:bJ} (h:Has N S st (e::H)) (hj:j<H.length):Has N S st (H.set j e):=
 Has.back (h.erase (j+1)) hj
theorem Has.sa {j k:Nat} {e:bJ} (h:Has N S st H) (hj:H[j]?=some e) (hk:e.K k):k+1≤st.bs.length:=((h.ok j e hj).2 k hk).2
theorem gk {x y:Oper} {fi fj:Fr} {si qN sj FX:St} {a:Operand} {k aG off v:Nat} {ar:Bool} {c:List D} (hy:ia y.op=none) (hx:ia x.op=some a) (ha:fi.ev a=.ptr k aG off) (h1:sj.bs[k]?=some (.mem v ar c)) (h2:FX.bs[k]?=some (.mem v ar c)) (h3:si.bs[k]?=some (.mem v ar c)) (hr:refs c≤si.bs.length):iW x fi si qN y fj sj FX=true:=by
 unfold iW;simp only[hy,hx,ha,D.na,Bool.and_eq_true];refine⟨oA h1 h2,?_⟩;unfold mN;simp only[h3]
 split
 ·rfl
 ·simpa using hr
theorem Has.clear {P:Pv} {j:Nat} {x:D} {s:Nat} {es:List (List D)} {t e:TypeId} {z:List D} (h:Has N S st H) (hj:H[j]?=some (.aO x s es)) (ht:P.cJ t=some (.slice e)) (hz:dG P e=some z) (lg:z.length=s) (hr:refs z=0):
  ∃ai,lW P [t] x st=some (.tup [],ai)∧Has N S ai (H.set j (.aO x s (List.replicate es.length z))):=by
 have yi:=(h.ok j _ hj).2;have hown:=h.own hj
 have jI:j<H.length:=by
  rcases Nat.lt_or_ge j H.length with h'|h'
  ·exact h'
  ·rw[List.getElem?_eq_none h'] at hj;cases hj
 cases hown with
 |nul=>
  refine⟨st,by simp only[lW,ht],?_⟩
  have:H.set j (.aO .nul s (List.replicate ([]:List (List D)).length z))=H:=by
   refine List.ext_getElem? fun i=>?_
   by_cases hi:i=j
   ·subst hi;rw[List.getElem?_set_self jI,hj];rfl
   ·rw[List.getElem?_set_ne (fun e=>hi e.symm)]
  rw[this];exact h
 |win k aG off es c hm hle hc he=>
  have hk:=yi k (by simp only[bJ.aO,D.ref])
  have Mu:∀n,refs (Go.V.fg n z)=0:=by
   intro n;unfold Go.V.fg
   induction n with
   |zero=>rfl
   |succ n ih=>
    rw[List.replicate_succ,List.flatten_cons]
    have MW:∀(a b:List D),refs a=0→refs b=0→refs (a++b)=0:=by
     intro a
     induction a with
     |nil=>intro b _ hb;exact hb
     |cons d a F5=>
      intro b ha hb;simp only[refs,List.cons_append] at ha⊢;have:=F5 b (by omega) hb;omega
    exact MW _ _ hr ih
  have yg:(Go.V.fg es.length z).length=es.length*s:=by
   unfold Go.V.fg;rw[dg (s:=s) (fun e he=>by rw[(List.mem_replicate.1 he).2];exact lg),List.length_replicate]
  have hw:st.wr k aG off (Go.V.fg es.length z)=some ⟨st.bs.set k (.mem aG true (c.take off++Go.V.fg es.length z++c.drop (off+(Go.V.fg es.length z).length))),st.flr,st.ro⟩:=mK hm (by omega) (ig h hk.1 (.inr (Mu _)));refine⟨_,by simp only[lW,ht,hz,Option.bind_some];rw[if_pos lg,hw];rfl,?_⟩;refine h.C_ hj (fun n hn hne=>?_) (by simp) rfl rfl ?_ (fun n hn=>.inl hn) fun n hn=>?_
  ·simp only;rw[List.getElem?_set_ne (fun e=>hne (by simp only[bJ.aO,D.ref];omega))]
  ·have EW:∀e'∈List.replicate es.length z,e'.length=s:=fun e' qZ=>by rw[(List.mem_replicate.1 qZ).2];exact lg
   have:=iB.win (st:=⟨st.bs.set k (.mem aG true (c.take off++Go.V.fg es.length z++c.drop (off+(Go.V.fg es.length z).length))),st.flr,st.ro⟩) (s:=s) k aG off (List.replicate es.length z) (c.take off++Go.V.fg es.length z++c.drop (off+(Go.V.fg es.length z).length))
    (by simp only;rw[List.getElem?_set_self hk.2]) (by rw[List.length_replicate];simp;omega) ?_ EW
   ·rw[List.length_replicate] at this;exact this
   ·rw[List.length_replicate,List.append_assoc,List.drop_append_of_le_length (by simp;omega),List.drop_take,Nat.sub_self,List.take_zero,List.nil_append,←yg,List.take_left']
    ·rfl
    ·rfl
  ·simp only[bJ.aO,D.ref] at hn;have:n=k:=by omega
   subst this
   simpa using hk.2
variable{P:Pv} {ops:Array Oper} {rest:List Oper} {fr aM:Fr} {Q:Fr→St→Prop} {ty:TypeId} {pp:String} {a:Array Edge} {g:Option (Nat×Bool)} {dst:Nat}
theorem aa.Rh {j:Nat} {x:D} {s:Nat} {es:List (List D)} {t e:TypeId} {z:List D} {xo:Operand} (hH:Has N S st H) (hg:aH ops fr ⟨none,.call ⟨.builtin .clear,#[xo],#[t]⟩,ty,pp,a,g⟩=some true) (hx:fr.ev xo=x) (hj:H[j]?=some (.aO x s es)) (ht:P.cJ t=some (.slice e)) (hz:dG P e=some z) (lg:z.length=s) (hr:refs z=0)
  (h:∀ai,Has N S ai (H.set j (.aO x s (List.replicate es.length z)))→aa P ops rest fr ai Q):aa P ops (⟨none,.call ⟨.builtin .clear,#[xo],#[t]⟩,ty,pp,a,g⟩::rest) fr st Q:=by
 obtain⟨ai,h1,h2⟩:=hH.clear hj ht hz lg hr;refine aa.N hg rfl (d:=.tup []) (st1:=ai) ?_ (h _ h2);simp only[ef,List.map_cons,List.map_nil,hx,bR];exact h1
theorem iV {st:St} {s:Nat} {x:D} {es:List (List D)} (h:V.Rows st s x es):x.cells?=some [x]:=by cases h<;>rfl
end Go.V
namespace Go.Proofs.YtbdnabmmlbiomaaGreat
open Go.V Go
def gL (n:Nat):List D:=[.int .i64 (n:Nat)]
def ov (n:Nat):List D:=[.int .i64 (n:Nat),.bool true]
theorem xD {l:List Nat} {i q:Nat} (h:l[i]?=some q):(l.map gL)[i]?=some (gL q):=by rw[List.getElem?_map,h];rfl
theorem Mf {l:List Nat} {i q:Nat} (h:l[i]?=some q):(l.map ov)[i]?=some (ov q):=by rw[List.getElem?_map,h];rfl
structure dC (P Q:List Nat) (seen:List Bool):Prop where
 len:P.length=seen.length
 mem:∀(i p:Nat),P[i]?=some p→seen[i]?=some (decide (Q[p]?=some i))
 cnt:Q.length=seen.count true
 small:seen.length≤4096
def FP (N:Nat) (S st:St) (ks:Nat) (seen:List Bool) (H:List bJ):Prop:=
 ∃pd qd P Q,Has N S st (.box ks (.mem 0 false [pd,qd])::.aO pd 1 (P.map gL)::.aO qd 2 (Q.map ov)::H)∧dC P Q seen
theorem dC.get {P Q:List Nat} {seen:List Bool} (h:dC P Q seen) {i:Nat} {b:Bool} (hi:seen[i]?=some b):∃p,P[i]?=some p∧b=decide (Q[p]?=some i):=by
 have hl:=bC hi;have o7:=h.len;refine⟨P[i]'(by omega),List.getElem?_eq_getElem _,?_⟩;have:=h.mem i _ (List.getElem?_eq_getElem (by omega));rw[hi] at this;exact Option.some.inj this
theorem dC.add {P Q:List Nat} {seen:List Bool} (h:dC P Q seen) {i:Nat} (hi:seen[i]?=some false):dC (P.set i Q.length) (Q++[i]) (seen.set i true):=by
 have hl:=bC hi;have o7:=h.len;refine⟨by simp[o7],fun j p hj=>?_,?_,by rw[List.length_set];exact h.small⟩
 ·by_cases hij:j=i
  ·subst hij;rw[List.getElem?_set_self (by omega)] at hj⊢;cases hj;simp
  ·rw[List.getElem?_set_ne (fun e=>hij e.symm)] at hj⊢;rw[h.mem j p hj]
   congr 2
   rcases Nat.lt_trichotomy p Q.length with hp|hp|hp
   ·rw[List.getElem?_append_left hp]
   ·subst hp;have hne:¬i=j:=fun e=>hij e.symm;simp[hne]
   ·rw[List.getElem?_eq_none (by omega),List.getElem?_eq_none (by simp;omega)]
 ·have h1:=List.length_eq_countP_add_countP (fun b=>b==true) (l:=seen);have h2:=List.length_eq_countP_add_countP (fun b=>b==true) (l:=seen.set i true);have h3:=count_set hi
  have e1:∀l:List Bool,l.countP (fun a=>decide (¬(a==true)=true))=l.count false:=by
   intro l;unfold List.count;congr 1;funext b;cases b<;>rfl
  have e2:∀l:List Bool,l.countP (fun a=>a==true)=l.count true:=fun l=>rfl;rw[e1,e2] at h1 h2;rw[List.length_append,h.cnt];simp only[List.length_set,List.length_cons,List.length_nil] at h2⊢;omega
theorem dC.clear {P Q:List Nat} {seen:List Bool} (h:dC P Q seen):dC P [] (List.replicate seen.length false):=by
 refine⟨by rw[List.length_replicate];exact h.len,fun i p hi=>?_,?_,by rw[List.length_replicate];exact h.small⟩
 ·have:=bC hi;have:=h.len;rw[List.getElem?_replicate,if_pos (by omega)];simp
 ·rw[List.count_replicate];simp
theorem dC.lM {P Q:List Nat} {seen:List Bool} (h:dC P Q seen):Q.length≤4096:=by
 have:=h.cnt;have:=h.small;have:=List.count_le_length (a:=true) (l:=seen);omega
theorem BZ {N ks:Nat} {S s0:St} {H:List bJ} {seen:List Bool} {i:Nat} {b:Bool} (hi:seen[i]?=some b) {pd qd:D} {P Q:List Nat} (bA:dC P Q seen) (hH:Has N S s0 (.box ks (.mem 0 false [pd,qd])::.aO pd 1 (P.map gL)::.aO qd 2 (Q.map ov)::H)):
  ∃r ai,Ev pv 133 [.ptr ks 0 0,.int .i64 (i:Nat)] s0 r ai∧r=.bool b∧ai=s0:=by
 obtain⟨p,hp,rfl⟩:=bA.get hi;have hl:=bC hp;have o7:=bA.len;have hsm:=bA.small;have gB:=xD hp
 have gb:(⟨(ah .rw s0).bs.take s0.bs.length,s0.flr,s0.ro⟩:St)=s0:=by
  show(⟨s0.bs.take s0.bs.length,s0.flr,s0.ro⟩:St)=s0;rw[List.take_length]
 refine Ev.iD rfl V6 rfl rfl rfl ?_;dsimp only[u3,u4,List.length,Nat.reduceSub,Nat.reduceAdd,w1,w2];have cX:=hH;have hH:=hH.c8;have cL:(ah .rw s0).bs=s0.bs:=rfl;generalize ah .rw s0=S2 at*;refine qq<|qj fun K hK=>qm ?_;refine qe hK ?_;have aZ:decide (((i:Nat):Int)<0)=false:=by rw[decide_eq_false];omega
 refine qq<|qq<|ab.dz 16 (.bool false) [] ?_ (fun ff tmp cY=>?_)
 ·refine qm ?_;refine qg ?_;refine qm ?_;refine qm ?_ (hg:=wi aZ);refine qm ?_ (hg:=wi aZ);refine qg ?_ (hg:=wi aZ);refine qp (o:=0) ?_ (hg:=wi aZ);refine ql hH av ?_ (hg:=wi aZ);refine qn ?_ (hR:=hH.rows bh) (hg:=wi aZ);simp only[List.length_map];refine qg ?_ (hg:=wi aZ);refine qu aZ ?_;refine aa.nil (aY ?_ ?_)
  ·dsimp only[aB,List.foldl,nth,u2,u1]
   all_goals(first|rfl|simp)
  ·dsimp only[Fr.aj,Fr.put,Fr.clean,Fr.ev,Fr.get,nth,V.look,u1,u2,v1,v2,v3,v4,v5,v6,v7,List.length,u3,u4,Nat.reduceSub,Nat.reduceAdd,List.map]
   all_goals(simp_all;done)
 dsimp only[aB,List.foldl,nth,u2,u1];refine qC ?_;refine ab.skip<|qq<|qj fun K hK=>qm ?_;refine qg ?_;refine qp (o:=0) ?_;refine ql hH av ?_;refine qm ?_;refine qi hH bh fun TZ ER=>?_;refine qo hH bh ?_;refine qm ?_;refine qe hK ?_
 by_cases hq:p<Q.length
 ·obtain⟨q,UA⟩:∃q,Q[p]?=some q:=⟨Q[p]'hq,List.getElem?_eq_getElem _⟩
  have mV:=Mf UA;have gC:decide (((p:Nat):Int)<((Q.length:Nat):Int))=true:=by rw[decide_eq_true_eq];omega
  refine qq<|qj fun K hK=>qm ?_;refine qm ?_;refine qg ?_;refine qp (o:=1) ?_;refine ql hH av ?_;refine qn ?_ (hR:=hH.rows dF);simp only[List.length_map];refine qg ?_;refine qm ?_;refine qm ?_ (hg:=wi gC);refine qg ?_ (hg:=wi gC);refine qp (o:=1) ?_ (hg:=wi gC);refine ql hH av ?_ (hg:=wi gC);refine qm ?_ (hg:=wi gC);refine qi hH dF (fun Xv RS=>?_) (hg:=wi gC);refine aa.fS (fo:=0) (m:=0) (o2:=0) (aq rfl rfl rfl gC) (ev rfl) (by assumption) rfl rfl rfl (fun _=>(ae rfl _)) (fun p38 UF=>?_);refine qo hH dF ?_ (hg:=wi gC);refine qm ?_ (hg:=wi gC);refine qg ?_ (hg:=wi gC);refine qt gC ?_;refine qm ?_;refine qe hK<|ab.ret ⟨rx,_,_,_,rfl,au (rfl),?_⟩;refine⟨?_,gb⟩
  have hd:(((q:Nat):Int)==((i:Nat):Int))=decide (Q[p]?=some i):=by
   rw[UA]
   by_cases h:q=i
   ·simp[h]
   ·simp[h];omega
  exact congrArg D.bool hd
 ·have gC:decide (((p:Nat):Int)<((Q.length:Nat):Int))=false:=by rw[decide_eq_false];omega
  refine qq<|qj fun K hK=>qm ?_;refine qm ?_;refine qg ?_;refine qp (o:=1) ?_;refine ql hH av ?_;refine qn ?_ (hR:=hH.rows dF);simp only[List.length_map];refine qg ?_;refine qm ?_;refine qs ?_ (hg:=wn gC);refine qs ?_ (hg:=wn gC);refine qs ?_ (hg:=wn gC);refine qs ?_ (hg:=wn gC);refine qs ?_ (hg:=wn gC);refine qs ?_ (hg:=wn gC);refine qs ?_ (hg:=wn gC);refine qs ?_ (hg:=wn gC);refine qs ?_ (hg:=wn gC);refine qs ?_ (hg:=wn gC);refine qu gC ?_;refine qm ?_;refine qe hK<|ab.ret ⟨rx,_,_,_,rfl,au (rfl),?_⟩;refine⟨?_,gb⟩;rw[List.getElem?_eq_none (by omega)];rfl
theorem B0 {N ks:Nat} {S s0:St} {H:List bJ} {seen:List Bool} {i:Nat} {b:Bool} (hF:S.flr≤N) (hi:seen[i]?=some b) (hH:FP N S s0 ks seen H):
  ∃r ai,Ev pv 109 [.ptr ks 0 0,.int .i64 (i:Nat),.bool true] s0 r ai∧r=.bool (!b)∧FP N S ai ks (seen.set i true) H:=by
 obtain⟨pd,qd,P,Q,hH,bA⟩:=hH;have hl:=bC hi;have o7:=bA.len;have hsm:=bA.small;have NC:=bA.lM;obtain⟨p0,S',_⟩:=bA.get hi;have gB:=xD S';refine Ev.iD rfl Wi rfl rfl rfl ?_;dsimp only[u3,u4,List.length,Nat.reduceSub,Nat.reduceAdd,w1,w2];change ab _ _ _ _ s0 _;refine qq<|qj fun K hK=>qm ?_;refine qe hK ?_;have aZ:decide (((i:Nat):Int)<0)=false:=by rw[decide_eq_false];omega
 have aT:decide (((i:Nat):Int)≥((P.length:Nat):Int))=false:=by rw[decide_eq_false];omega
 obtain⟨_,st,aL,rfl,rfl⟩:=BZ hi bA hH;refine qq<|qq<|ab.dz 22 (.bool b) [] ?_ (fun ff tmp cY=>?_)
 ·refine qm ?_;refine qg ?_;refine qm ?_;refine qm ?_ (hg:=wi aZ);refine qm ?_ (hg:=wi aZ);refine qg ?_ (hg:=wi aZ);refine qp (o:=0) ?_ (hg:=wi aZ);refine ql hH av ?_ (hg:=wi aZ);refine qn ?_ (hR:=hH.rows bh) (hg:=wi aZ);simp only[List.length_map];refine qg ?_ (hg:=wi aZ);refine qu aZ ?_;refine qm ?_;refine qm ?_ (hg:=wi aT);refine qm ?_ (hg:=wi aT);refine qv aL ?_ (hg:=wi aT);refine qu aT ?_;refine aa.nil (aY ?_ ?_)
  ·dsimp only[aB,List.foldl,nth,u2,u1]
   all_goals(first|rfl|simp)
  ·dsimp only[Fr.aj,Fr.put,Fr.clean,Fr.ev,Fr.get,nth,look,u1,u2,v1,v2,v4]
   all_goals(rfl)
 dsimp only[aB,List.foldl,nth,u2,u1]
 cases b with
 |true=>
  refine qB ?_;refine qq<|qj fun K hK=>qm ?_;refine qe hK<|ab.ret ⟨rx,_,_,_,rfl,rfl,?_⟩;refine⟨rfl,pd,qd,P,Q,hH,?_⟩
  have:seen.set i true=seen:=by
   refine List.ext_getElem? fun j=>?_
   by_cases hj:j=i
   ·subst hj;rw[List.getElem?_set_self hl,hi]
   ·rw[List.getElem?_set_ne (fun e=>hj e.symm)]
  rw[this];exact bA
 |false=>
  refine qC ?_;refine ab.skip<|qq<|qj fun K hK=>qm ?_;refine qg ?_;refine qp (o:=0) ?_;refine ql hH av ?_;refine qm ?_;refine qm ?_;refine qg ?_;refine qp (o:=1) ?_;refine ql hH av ?_;refine qn ?_ (hR:=hH.rows dF);simp only[List.length_map];refine qi hH bh fun p33 abm=>?_;refine aa.gX hH rfl (ev rfl) (ev rfl) (by assumption) rfl rfl (by exact bh) (by assumption) (Nat.le_of_ble_eq_true rfl) (by exact .inl hF) (fun st hH=>?_);dsimp only[u2,u1,u3,u4,setMany,u5,u6,D.cells,Nat.reduceAdd,gL,ov] at hH;refine qe hK<|qq<|qj fun K hK=>qm ?_;refine qm ?_;refine qg ?_;refine qp (o:=1) ?_;refine ql hH av ?_;refine qm ?_;refine qm ?_;refine qg ?_;refine qh (s:=2) (vs:=[_]) hH fun k42 st abG hH=>?_;dsimp only[u2,u1,u3,u4,setMany,u5,u6,D.cells,Nat.reduceAdd,gL,ov] at hH;refine aa.bL (s:=2) hH rfl (ev rfl) (ev rfl) (by exact fm) (by exact hH.rows (by exact av)) rfl rfl rfl rfl rfl rfl rfl ⟨(Nat.le_of_ble_eq_true rfl),(Nat.le_of_ble_eq_true rfl)⟩ (fun _=>(ae rfl _)) (by simp only[List.length_cons,List.length_nil,List.length_map]<;>omega) (by exact .inl hF) (fun x43 st hH=>?_);dsimp only[u2,u1,u3,u4,setMany,u5,u6,D.cells,Nat.reduceAdd,gL,ov] at hH;refine qg ?_;refine qp (o:=1) ?_;refine qT hH bh (fun st hH=>?_) (iy:=hH.eJ fm);dsimp only[u2,u1,u3,u4,setMany,u5,u6,D.cells,Nat.reduceAdd,gL,ov] at hH;refine qe hK<|qq<|qj fun K hK=>qm ?_;refine qe hK<|ab.ret ⟨rx,_,_,_,rfl,rfl,?_⟩;refine⟨rfl,pd,x43,P.set i Q.length,Q++[i],?_,bA.add hi⟩;rw[List.map_set,List.map_append];exact hH.drop 1
theorem wZ {N ks:Nat} {S s0:St} {H:List bJ} {seen:List Bool} (hF:S.flr≤N) (hH:FP N S s0 ks seen H):
  ∃r ai,Ev pv 107 [.ptr ks 0 0] s0 r ai∧r=.tup []∧FP N S ai ks (List.replicate seen.length false) H:=by
 obtain⟨pd,qd,P,Q,hH,bA⟩:=hH;have NC:=bA.lM;refine Ev.iD rfl Wl rfl rfl rfl ?_;dsimp only[u3,u4,List.length,Nat.reduceSub,Nat.reduceAdd,w1,w2];change ab _ _ _ _ s0 _;refine qq<|qj fun K hK=>qm ?_;refine qg ?_;refine qp (o:=1) ?_;refine ql hH av ?_;refine aa.Rh hH rfl (ev rfl) dF rfl rfl rfl rfl (fun st hH=>?_);dsimp only[u1,u2] at hH;refine qe hK<|qj fun K hK=>qm ?_;refine qm ?_;refine qg ?_;refine qp (o:=1) ?_;refine ql hH av ?_;refine aa.zt hH rfl (ev rfl) (by exact dF) rfl rfl (pq (by simp only[List.length_map,List.length_replicate];omega)) ⟨(by omega),(by simp only[List.length_map,List.length_replicate];omega)⟩ (fun _=>(ae rfl _)) (fun y11 hH=>?_);refine qg ?_;refine qp (o:=1) ?_;refine qT hH av (fun st hH=>?_) (iy:=hH.eJ dF);dsimp only[u2,u1,u3,u4,setMany,u5,u6,D.cells,Nat.reduceAdd,gL,ov] at hH;refine qe hK ?_;refine⟨fun i h=>(by cases h),_,_,_,rfl,rfl,?_⟩;exact⟨rfl,pd,_,P,[],hH,bA.clear⟩
theorem tW {N n:Nat} {S s0:St} {H:List bJ} (hF:S.flr≤N) (hn:n≤4096) (hH:Has N S s0 H):
  ∃r ai,Ev pv 101 [.int .i64 (n:Nat)] s0 r ai∧∃ks,r=.tup [.ptr ks 0 0,.int .i64 0]∧FP N S ai ks (List.replicate n false) H:=by
 refine Ev.iD rfl Wr rfl rfl rfl ?_;dsimp only[u3,u4,List.length,Nat.reduceSub,Nat.reduceAdd,w1,w2];change ab _ _ _ _ s0 _;refine qq<|qj fun K hK=>qm ?_;refine qm ?_;refine qe hK ?_;have aZ:decide (((n:Nat):Int)<0)=false:=by rw[decide_eq_false];omega
 refine qq<|qq<|ab.dz 9 (.bool false) [] ?_ (fun ff tmp cY=>?_)
 ·refine qm ?_;refine qg ?_;refine qm ?_;refine qm ?_ (hg:=wi aZ);refine qg ?_ (hg:=wi aZ);refine qu aZ ?_;refine aa.nil (aY ?_ ?_)
  ·dsimp only[aB,List.foldl,nth,u2,u1]
   all_goals(first|rfl|simp)
  ·dsimp only[Fr.aj,Fr.put,Fr.clean,Fr.ev,Fr.get,nth,V.look,u1,u2,v1,v2,v3,v4,v5,v6,v7,List.length,u3,u4,Nat.reduceSub,Nat.reduceAdd,List.map]
   all_goals(simp[aZ];omega)
 dsimp only[aB,List.foldl,nth,u2,u1];refine qC ?_;refine ab.skip<|qq<|qj fun K hK=>qm ?_;refine aa.sB (s:=1) hH rfl rfl rfl rfl rfl rfl rfl rfl (Nat.le_of_ble_eq_true rfl) (by omega) (fun _=>(ae rfl _)) (fun k11 st MN hH=>?_);refine aa.gK (qs:=[(0,_)]) rfl rfl rfl rfl ⟨rfl,(ev rfl),(by rfl),trivial⟩ (by intro q hq;simp only[List.mem_cons,List.not_mem_nil,or_false] at hq;rcases hq with rfl<;>exact⟨rfl,by exact Nat.le_of_ble_eq_true rfl⟩) (by show List.foldl _ [_,_] _=_;dsimp only[List.foldl_cons,List.foldl_nil,u2,u1]<;>rfl) (ae rfl _) ?_;refine qb hH fun k13 st U3 hH=>?_;refine qm ?_;refine qm ?_;refine qe hK<|ab.ret ⟨rx,_,_,_,rfl,rfl,?_⟩;refine⟨k13,rfl,.win k11 0 0 n 1,.nul,List.replicate n 0,[],?_,?_⟩
 ·rw[List.map_replicate];exact Has.lA [_] [_,_] (hH.ew 2)
 ·refine⟨by simp,fun i p hi=>?_,by rw[List.count_replicate];simp,by simpa using hn⟩;have:=bC hi;rw[List.length_replicate] at this;rw[List.getElem?_replicate,if_pos this];simp
abbrev nc:=Nat→Int
def ay (f:nc):List D:=[.int .i64 (f 0),.int .i64 (f 1),.int .i64 (f 2),.int .i64 (f 3),.int .i64 (f 4),.int .i64 (f 5),.int .i64 (f 6),.int .i64 (f 7),.int .i64 (f 8),.int .i64 (f 9)]
def bX:nc:=fun _=>-1
def np:nc:=fun _=>0
def DH (f:nc) (x:Nat) (v:Int):nc:=fun j=>if j=x then v else f j
theorem kq {n ns pc:Nat} {i:aQ} (h:cC n ns pc i=true):
  i.op=7∨(i.op=2∧(0≤i.x∧i.x<(n:Int))∧0≤i.y∧i.y<(n:Int))∨(i.op=3∧0≤i.x∧i.x<(n:Int))∨(i.op=4∧pc+1<n∧0≤i.x∧i.x<10)∨(i.op=5∧pc+1<n)∨(i.op=6∧pc+1<n)∨(i.op=1∧pc+1<n):=by
 unfold cC at h
 split at h
 ·rename_i h1;simp only[Bool.and_eq_true,decide_eq_true_eq] at h;refine .inr (.inr (.inr (.inr (.inr (.inr ⟨h1,?_⟩)))));omega
 ·simp only[Bool.and_eq_true] at h;obtain⟨_,h⟩:=h
  split at h
  ·rename_i h2;simp only[Bool.and_eq_true] at h;exact .inr (.inl ⟨h2,dS.1 h.1,dS.1 h.2⟩)
  ·simp only[Bool.and_eq_true] at h;obtain⟨_,h⟩:=h
   split at h
   ·rename_i h3;exact .inr (.inr (.inl ⟨h3,dS.1 h⟩))
   ·split at h
    ·rename_i h4;simp only[Bool.and_eq_true,decide_eq_true_eq] at h;exact .inr (.inr (.inr (.inl ⟨h4,by omega,dS.1 h.2⟩)))
    ·split at h
     ·rename_i h5;simp only[Bool.and_eq_true,decide_eq_true_eq] at h
      rcases h5 with h5|h5
      ·exact .inr (.inr (.inr (.inr (.inl ⟨h5,by omega⟩))))
      ·exact .inr (.inr (.inr (.inr (.inr (.inl ⟨h5,by omega⟩)))))
     ·split at h
      ·rename_i h7;exact .inl h7
      ·cases h
def cI (fr:Go.V.Fr) (k:Nat):Go.V.D:=Go.V.nth .bD fr.loc k
structure iS where
 pc:Nat
 c:nc
def aK (t:iS):List D:=[.int .i64 (t.pc:Nat),.int .i64 (t.c 0),.int .i64 (t.c 1),.int .i64 (t.c 2),.int .i64 (t.c 3),.int .i64 (t.c 4),.int .i64 (t.c 5),.int .i64 (t.c 6),.int .i64 (t.c 7),.int .i64 (t.c 8),.int .i64 (t.c 9)]
def aJ (dn:Bool) (f:nc) (d:D):List D:=[.bool dn,.int .i64 (f 0),.int .i64 (f 1),.int .i64 (f 2),.int .i64 (f 3),.int .i64 (f 4),.int .i64 (f 5),.int .i64 (f 6),.int .i64 (f 7),.int .i64 (f 8),.int .i64 (f 9),d]
theorem Gn {a:D} {f:nc} {x:Nat} {v:Int} (hx:x<10):setMany (a::ay f) (1+x) [.int .i64 v]=a::ay (DH f x v):=by
 match x,hx with
 |0,_=>rfl
 |1,_=>rfl
 |2,_=>rfl
 |3,_=>rfl
 |4,_=>rfl
 |5,_=>rfl
 |6,_=>rfl
 |7,_=>rfl
 |8,_=>rfl
 |9,_=>rfl
structure Wk where
 seen:List Bool
 dn:Bool
 aU:nc
 rdy:List iS
def b_ (code:List aQ) (pl:Nat) (e:Bool):Nat→Wk→iS→Wk×Bool
 |0,w,_=>(w,false)
 |f+1,w,t=>
  if w.seen.getD t.pc true=true then(w,false) else
  match code[t.pc]? with
  |none=>(w,false)
  |some i=>
   if i.op=7 then(⟨w.seen.set t.pc true,true,t.c,w.rdy⟩,true)
   else if i.op=2 then
    if(b_ code pl e f ⟨w.seen.set t.pc true,w.dn,w.aU,w.rdy⟩ ⟨i.x.toNat,t.c⟩).2=true then b_ code pl e f ⟨w.seen.set t.pc true,w.dn,w.aU,w.rdy⟩ ⟨i.x.toNat,t.c⟩
    else b_ code pl e f (b_ code pl e f ⟨w.seen.set t.pc true,w.dn,w.aU,w.rdy⟩ ⟨i.x.toNat,t.c⟩).1 ⟨i.y.toNat,t.c⟩
   else if i.op=1 then(⟨w.seen.set t.pc true,w.dn,w.aU,w.rdy++[t]⟩,false)
   else if i.op=3 then b_ code pl e f ⟨w.seen.set t.pc true,w.dn,w.aU,w.rdy⟩ ⟨i.x.toNat,t.c⟩
   else if i.op=4 then b_ code pl e f ⟨w.seen.set t.pc true,w.dn,w.aU,w.rdy⟩ ⟨t.pc+1,DH t.c i.x.toNat (pl:Nat)⟩
   else if i.op=5 then if pl=0 then b_ code pl e f ⟨w.seen.set t.pc true,w.dn,w.aU,w.rdy⟩ ⟨t.pc+1,t.c⟩ else(⟨w.seen.set t.pc true,w.dn,w.aU,w.rdy⟩,false)
   else if e=true then b_ code pl e f ⟨w.seen.set t.pc true,w.dn,w.aU,w.rdy⟩ ⟨t.pc+1,t.c⟩ else(⟨w.seen.set t.pc true,w.dn,w.aU,w.rdy⟩,false)
def Good (code:List aQ) (w w':Wk):Prop:=
 w'.seen.length=w.seen.length∧w'.seen.count false≤w.seen.count false∧w'.rdy.length+w'.seen.count false≤w.rdy.length+w.seen.count false∧∀t∈w'.rdy,t∈w.rdy∨∃i,code[t.pc]?=some i∧i.op=1
theorem Good.refl {code:List aQ} {w:Wk}:Good code w w:=⟨rfl,Nat.le_refl _,Nat.le_refl _,fun t h=>.inl h⟩
theorem Good.trans {code:List aQ} {a b c:Wk} (h:Good code a b) (k:Good code b c):Good code a c:=
 ⟨k.1.trans h.1,Nat.le_trans k.2.1 h.2.1,Nat.le_trans k.2.2.1 h.2.2.1,fun t ht=>by
  rcases k.2.2.2 t ht with q|q
  ·exact h.2.2.2 t q
  ·exact .inr q⟩
theorem Good.step {code:List aQ} {w w':Wk} {j:Nat} (hj:w.seen[j]?=some false) (k:Good code ⟨w.seen.set j true,w.dn,w.aU,w.rdy⟩ w'):Good code w w':=by
 have hc:=count_set hj;refine Good.trans (b:=⟨w.seen.set j true,w.dn,w.aU,w.rdy⟩) ⟨?_,?_,?_,fun t h=>.inl h⟩ k
 ·simp
 ·show(w.seen.set j true).count false≤_;omega
 ·show w.rdy.length+(w.seen.set j true).count false≤_;omega
theorem zb {l:List Bool} {j:Nat} (h:¬l.getD j true=true):l[j]?=some false:=by
 rw[List.getD_eq_getElem?_getD] at h
 cases hq:l[j]? with
 |none=>rw[hq] at h;exact absurd rfl h
 |some b=>rw[hq] at h;cases b with
  |false=>rfl
  |true=>exact absurd rfl h
theorem tX {l:List Bool} {j:Nat} {b:Bool} (h:l[j]?=some b):l.getD j true=b:=by
 rw[List.getD_eq_getElem?_getD,h];rfl
theorem cN (code:List aQ) (pl:Nat) (e:Bool):∀(f:Nat) (w:Wk) (t:iS),Good code w (b_ code pl e f w t).1
 |0,w,t=>.refl
 |f+1,w,t=>by
  unfold b_
  split
  ·exact .refl
  ·rename_i hs;have hs:=zb hs;have hc:=count_set hs
   split
   ·exact .refl
   ·rename_i i hi
    split
    ·exact Good.step hs ⟨rfl,Nat.le_refl _,Nat.le_refl _,fun t h=>.inl h⟩
    ·split
     ·split
      ·exact Good.step hs (cN code pl e f _ _)
      ·exact Good.step hs ((cN code pl e f _ _).trans (cN code pl e f _ _))
     ·split
      ·rename_i h1;refine⟨by simp,by show(w.seen.set t.pc true).count false≤_;omega,by show(w.rdy++[t]).length+(w.seen.set t.pc true).count false≤_;rw[List.length_append];simp only[List.length_cons,List.length_nil];omega,fun t' h=>?_⟩
       rcases List.mem_append.1 h with h|h
       ·exact .inl h
       ·simp only[List.mem_cons,List.not_mem_nil,or_false] at h;subst h;exact .inr ⟨i,hi,h1⟩
      ·split
       ·exact Good.step hs (cN code pl e f _ _)
       ·split
        ·exact Good.step hs (cN code pl e f _ _)
        ·split
         ·split
          ·exact Good.step hs (cN code pl e f _ _)
          ·exact Good.step hs .refl
         ·split
          ·exact Good.step hs (cN code pl e f _ _)
          ·exact Good.step hs .refl
theorem Gh (l:List iS):∀e∈l.map aK,e.length=11:=by
 intro e he;obtain⟨x,_,rfl⟩:=List.mem_map.1 he;rfl
theorem oD (A:List bJ) {N ks:Nat} {S s0:St} {H:List bJ} {seen:List Bool} {i:Nat} {b:Bool} {pd qd:D} {P Q:List Nat} (hF:S.flr≤N) (hi:seen[i]?=some b) (bA:dC P Q seen) (hH:Has N S s0 (A++(.box ks (.mem 0 false [pd,qd])::.aO pd 1 (P.map gL)::.aO qd 2 (Q.map ov)::H))):
  ∃r ai,Ev pv 109 [.ptr ks 0 0,.int .i64 (i:Nat),.bool true] s0 r ai∧r=.bool (!b)∧∃pd qd P Q,Has N S ai (A++(.box ks (.mem 0 false [pd,qd])::.aO pd 1 (P.map gL)::.aO qd 2 (Q.map ov)::H))∧dC P Q (seen.set i true):=by
 obtain⟨r,ai,h1,h2,F3,F1,P',Q',h3,h4⟩:=B0 (H:=A++H) hF hi ⟨pd,qd,P,Q,Has.lA A [_,_,_] hH,bA⟩;exact⟨r,ai,h1,h2,F3,F1,P',Q',Has.lA [_,_,_] A h3,h4⟩
theorem pB (A:List bJ) {N ks:Nat} {S s0:St} {H:List bJ} {seen:List Bool} {pd qd:D} {P Q:List Nat} (hF:S.flr≤N) (bA:dC P Q seen) (hH:Has N S s0 (A++(.box ks (.mem 0 false [pd,qd])::.aO pd 1 (P.map gL)::.aO qd 2 (Q.map ov)::H))):
  ∃r ai,Ev pv 107 [.ptr ks 0 0] s0 r ai∧r=.tup []∧∃pd qd P Q,Has N S ai (A++(.box ks (.mem 0 false [pd,qd])::.aO pd 1 (P.map gL)::.aO qd 2 (Q.map ov)::H))∧dC P Q (List.replicate seen.length false):=by
 obtain⟨r,ai,h1,h2,F3,F1,P',Q',h3,h4⟩:=wZ (H:=A++H) hF ⟨pd,qd,P,Q,Has.lA A [_,_,_] hH,bA⟩;exact⟨r,ai,h1,h2,F3,F1,P',Q',Has.lA [_,_,_] A h3,h4⟩
def ToH (N:Nat) (S st:St) (ks kv kw kl:Nat) (p:Pg) (pl:Nat) (ld:D) (e:Bool) (w:Wk) (H:List bJ):Prop:=
 ∃rd pd qd P Q,Has N S st (.box kv (.mem 0 false [p.cd,p.sd,.int .i64 (pl:Nat),ld,.ptr ks 0 0])::.box kw (.mem 0 false [.ptr kl 0 0,rd,.bool e])::.box kl (.mem 0 false (aJ w.dn w.aU .nul))::.aO rd 11 (w.rdy.map aK)::.box ks (.mem 0 false [pd,qd])::.aO pd 1 (P.map gL)::.aO qd 2 (Q.map ov)::H)∧dC P Q w.seen
theorem Nk {N ks kv kw kl:Nat} {S:St} {H:List bJ} {p:Pg} {pl:Nat} {ld:D} {e:Bool} (hF:S.flr≤N) (hp:p.ok) (hR:bE p) (ib:pl≤4000000000000):∀(f:Nat) (w:Wk) (t:iS) (s0:St) (H:List bJ),t.pc<p.code.length→w.seen.length=p.code.length→w.seen.count false<f→w.rdy.length+w.seen.count false≤1048576→ToH N S s0 ks kv kw kl p pl ld e w H→
  ∃r ai,Ev pv 110 [.ptr kv 0 0,.ptr kw 0 0,.agg (aK t)] s0 r ai∧r=.bool (b_ p.code pl e f w t).2∧ToH N S ai ks kv kw kl p pl ld e (b_ p.code pl e f w t).1 H
 |0,_,_,_,_,_,_,h,_,_=>absurd h (Nat.not_lt_zero _)
 |f+1,w,t,s0,H,yW,iE,eL,ni,hT=>by
  have ih:=Nk (ks:=ks) (kv:=kv) (kw:=kw) (kl:=kl) (S:=S) (H:=H) (ld:=ld) (e:=e) hF hp hR ib f;obtain⟨rd,pd,qd,P,Q,hH,bA⟩:=hT;have hc:=hp.c.arg N S;have hlen:=hp.cl
  obtain⟨i,hi⟩:∃i,p.code[t.pc]?=some i:=⟨p.code[t.pc]'yW,List.getElem?_eq_getElem _⟩
  obtain⟨b,hb⟩:∃b,w.seen[t.pc]?=some b:=⟨w.seen[t.pc]'(by omega),List.getElem?_eq_getElem _⟩
  have hr:=eB hi;have vV:=(hp.i i (List.mem_of_getElem? hi)).1;have mX:=kq (hR.sh t.pc i hi);have MP:=tX hb;have eV:b_ p.code pl e (f+1) w t=b_ p.code pl e (f+1) w t:=rfl
  conv at eV=>rhs;unfold b_
  rw[MP] at eV;simp only[hi] at eV;generalize b_ p.code pl e (f+1) w t=R at*;obtain⟨op,x,y,rdd,rs⟩:=i;obtain⟨pc,c⟩:=t;simp only at*;refine Ev.iD rfl Wh rfl rfl rfl ?_;dsimp only[u3,u4,List.length,Nat.reduceSub,Nat.reduceAdd,w1,w2];change ab _ _ _ _ s0 _;refine qq<|qj fun K hK=>qb hH fun k5 st yh hH=>?_;dsimp only[u2,u1,u3,u4,setMany,u5,u6,D.cells,Nat.reduceAdd,aC,aK,aJ,ay] at hH;refine qm ?_;refine qe hK<|qq<|qq<|qj fun K hK=>qm ?_;refine qg ?_;refine qp (o:=4) ?_;refine ql hH bh ?_;refine qp (o:=0) ?_;refine ql hH av ?_;obtain⟨_,st,aL,rfl,pd,qd,P,Q,hH,bA⟩:=oD [_,_,_,_,_] hF hb bA hH;dsimp only[u3,u4] at hH;refine qv aL ?_;refine qg ?_;refine qe hK ?_
  cases b with
  |true=>
   rw[if_pos rfl] at eV;subst eV;refine qB ?_;refine qq<|qj fun K hK=>qm ?_;refine qe hK<|ab.ret ⟨rx,_,_,_,rfl,rfl,?_⟩;refine⟨rfl,rd,pd,qd,P,Q,hH.drop 1,?_⟩
   have:w.seen.set pc true=w.seen:=by
    refine List.ext_getElem? fun j=>?_
    by_cases hj:j=pc
    ·subst hj;rw[List.getElem?_set_self (by omega),hb]
    ·rw[List.getElem?_set_ne (fun e=>hj e.symm)]
   rw[←this];exact bA
  |false=>
   rw[if_neg (by decide)] at eV;have wc:=count_set hb;have o6:(w.seen.set pc true).length=p.code.length:=by rw[List.length_set];exact iE
   have yl:(w.seen.set pc true).count false<f:=by omega
   have x0:w.rdy.length+(w.seen.set pc true).count false≤1048576:=by omega
   generalize w.seen.set pc true=sn at*;clear hb MP wc iE eL ni;refine qC ?_;refine ab.skip<|qq<|qj fun K hK=>qm ?_;refine qg ?_;refine qp (o:=0) ?_;refine qp (o:=0) ?_;refine ql hH bh ?_;refine qp (o:=0) ?_;refine ql hH av ?_;refine qr fun Q9 zS=>?_;refine aa.cA rfl (ev rfl) (by assumption) rfl (by dsimp only[Fr.put,u1,u2]<;>rfl) ?_;refine qa hH fun k7 st Te hH=>?_;refine qS hH av fun st hH=>?_;dsimp only[u2,u1,u3,u4,setMany,u5,u6,D.cells,Nat.reduceAdd,aC,aK,aJ,ay] at hH;refine qe hK<|qq<|qj fun K hK=>?_;refine aa.aF (m:=11) hH rfl (ev rfl) (by exact bh) (by dsimp only[List.drop_succ_cons,List.drop_zero,List.take_succ_cons,List.take_zero,aC,aK,aJ,ay]<;>rfl) rfl rfl (by dsimp only[Fr.put,u1,u2]<;>rfl) ?_;refine qa hH fun k8 st Td hH=>?_;refine qS hH av fun st hH=>?_;dsimp only[u2,u1,u3,u4,setMany,u5,u6,D.cells,Nat.reduceAdd,aC,aK,aJ,ay] at hH;refine qe hK<|qq<|qj fun K hK=>qp (o:=0) ?_;refine ql hH av ?_;refine qA ?_;refine qp (o:=0) ?_;refine qT hH av fun st hH=>?_;dsimp only[u2,u1,u3,u4,setMany,u5,u6,D.cells,Nat.reduceAdd,aC,aK,aJ,ay] at hH;refine qe hK<|qq<|qq<|qj fun K hK=>qp (o:=0) ?_;refine ql hH bh ?_;refine qe hK<|ab.merge (fun fr st=>∃(t':iS) (tmp:List (Nat×D)),fr=⟨33,[.ptr kv 0 0,.ptr kw 0 0,cI fr 2,cI fr 3,cI fr 4,.ptr k5 0 0,.bool false,.ptr k7 0 0,.ptr k8 0 0,cI fr 9,cI fr 10,cI fr 11,cI fr 12,cI fr 13,cI fr 14,cI fr 15,cI fr 16,cI fr 17,cI fr 18,cI fr 19,cI fr 20,cI fr 21,cI fr 22,cI fr 23,cI fr 24,cI fr 25,cI fr 26,cI fr 27,cI fr 28,cI fr 29,cI fr 30,cI fr 31,cI fr 32],tmp⟩∧Has N S st (.box k8 (.mem 0 false (aK t'))::.box k7 (.mem 0 false [.int .i64 op,.int .i64 x,.int .i64 y,rdd])::.box k5 (.mem 0 false (aK ⟨pc,c⟩))::.box kv (.mem 0 false [p.cd,p.sd,.int .i64 (pl:Nat),ld,.ptr ks 0 0])::.box kw (.mem 0 false [.ptr kl 0 0,rd,.bool e])::.box kl (.mem 0 false (aJ w.dn w.aU .nul))::.aO rd 11 (w.rdy.map aK)::.box ks (.mem 0 false [pd,qd])::.aO pd 1 (P.map gL)::.aO qd 2 (Q.map ov)::H)∧(R=b_ p.code pl e f ⟨sn,w.dn,w.aU,w.rdy⟩ t')∧(t'.pc<p.code.length)) ?_ ?_
   ·refine ab.block<|qq<|qj fun K hK=>qg ?_;refine qm ?_;refine qe hK ?_;refine ab.cond (by rfl) (fun h7=>?_) (fun h7=>?_)<;>try simp only[beq_iff_eq,beq_eq_false_iff_ne,ne_eq] at h7
    ·rw[if_pos h7] at eV;subst eV;have tK:=hH;change ab _ _ _ _ _ _;refine qq ?_;generalize hK:bj _ _ _ _=K;refine ab.oK rfl ?_;refine bP.cons ?_;refine qm ?_;refine aa.nil ⟨rfl,?_⟩;refine bP.cons ?_;refine qg ?_;refine aa.nil ⟨rfl,?_⟩;refine bP.cons ?_;refine qp (o:=0) ?_;refine aa.nil ⟨rfl,?_⟩;refine bP.cons ?_;refine ql hH gH ?_;refine aa.nil ⟨rfl,?_⟩;refine bP.cons ?_;refine qm ?_;refine aa.nil ⟨rfl,?_⟩;refine bP.cons ?_;refine qg ?_;refine aa.nil ⟨rfl,?_⟩;refine bP.cons ?_;refine qp (o:=0) ?_;refine aa.nil ⟨rfl,?_⟩;refine bP.cons ?_;refine ql hH gH ?_;refine aa.nil ⟨rfl,?_⟩;refine bP.cons ?_;refine qp (o:=1) ?_;refine aa.nil ⟨rfl,?_⟩;refine bP.cons ?_;refine aa.aF (m:=10) hH rfl (ev rfl) (by exact dF) (by dsimp only[List.drop_succ_cons,List.drop_zero,List.take_succ_cons,List.take_zero,aC,aK,aJ,ay]<;>rfl) rfl rfl (ae rfl _) ?_;refine aa.nil ⟨rfl,?_⟩;refine bP.cons ?_;refine qg ?_;refine aa.nil ⟨rfl,?_⟩;refine bP.cons ?_;refine qp (o:=0) ?_;refine aa.nil ⟨rfl,?_⟩;refine bP.cons ?_;refine qT hH qG fun st hH=>?_;dsimp only[u2,u1,u3,u4,setMany,u5,u6,D.cells,Nat.reduceAdd,aC,aK,aJ,ay] at hH;refine aa.nil ⟨by exact Bool.and_eq_true_iff.2 ⟨uY rfl rfl rfl (tK.at dF) (hH.at dF) (tK.at dF) rfl,rfl⟩,?_⟩;refine bP.cons ?_;refine qg ?_;refine aa.nil ⟨rfl,?_⟩;refine bP.cons ?_;refine qp (o:=1) ?_;refine aa.nil ⟨rfl,?_⟩;refine bP.cons ?_;refine qT hH qG fun st hH=>?_;dsimp only[u2,u1,u3,u4,setMany,u5,u6,D.cells,Nat.reduceAdd,aC,aK,aJ,ay] at hH;refine aa.nil ⟨rfl,?_⟩;refine bP.nil ?_;subst hK;refine qq<|qj fun K hK=>qm ?_;refine qe hK<|ab.ret ⟨rx,_,_,_,rfl,rfl,?_⟩;exact⟨rfl,rd,pd,qd,P,Q,hH.drop 3,bA⟩
    ·rw[if_neg h7] at eV;refine qq<|qj fun K hK=>qg ?_;refine qm ?_;refine qe hK ?_;refine ab.cond (by rfl) (fun h2=>?_) (fun h2=>?_)<;>try simp only[beq_iff_eq,beq_eq_false_iff_ne,ne_eq] at h2
     ·rw[if_pos h2] at eV;obtain⟨_,⟨hx0,hx1⟩,hy0,hy1⟩:=(mX.resolve_left h7).resolve_right (by omega);obtain⟨xn,rfl⟩:=Int.eq_ofNat_of_zero_le hx0;obtain⟨yn,rfl⟩:=Int.eq_ofNat_of_zero_le hy0;have Sd:=cN p.code pl e f ⟨sn,w.dn,w.aU,w.rdy⟩ ⟨xn,c⟩;have yp:=Has.lA [_,_,_] [_,_,_,_,_,_,_] hH;obtain⟨_,st1,aL,rfl,hT⟩:=ih ⟨sn,w.dn,w.aU,w.rdy⟩ ⟨xn,c⟩ _ _ (by show xn<_;omega) o6 yl x0 ⟨rd,pd,qd,P,Q,yp,bA⟩;clear yp;have eV:R=if(b_ p.code pl e f ⟨sn,w.dn,w.aU,w.rdy⟩ ⟨xn,c⟩).2=true then b_ p.code pl e f ⟨sn,w.dn,w.aU,w.rdy⟩ ⟨xn,c⟩ else b_ p.code pl e f (b_ p.code pl e f ⟨sn,w.dn,w.aU,w.rdy⟩ ⟨xn,c⟩).1 ⟨yn,c⟩:=eV;generalize b_ p.code pl e f ⟨sn,w.dn,w.aU,w.rdy⟩ ⟨xn,c⟩=R1 at*;obtain⟨w1,b1⟩:=R1;obtain⟨cW,aZ,aR,cx⟩:=Sd;simp only at cW aZ aR cx aL hT eV;obtain⟨rd1,pd1,qd1,P1,Q1,yp,hok1⟩:=hT;have yp:=Has.lA [_,_,_,_,_,_,_] [_,_,_] yp;dsimp only[u3,u4] at yp
      cases b1 with
      |true=>
       rw[if_pos rfl] at eV;subst eV;have cV:true=true:=rfl;refine qq<|qj fun K hK=>qm ?_;refine qm ?_;refine qp (o:=1) ?_;refine ql hH bh ?_;refine qp (o:=1) ?_;refine aa.aF (m:=10) hH rfl (ev rfl) (by exact dF) (by dsimp only[List.drop_succ_cons,List.drop_zero,List.take_succ_cons,List.take_zero,aC,aK,aJ,ay]<;>rfl) rfl rfl (ae rfl _) ?_;refine aa.go (d:=.agg (aK ⟨xn,c⟩)) (st1:=_) rfl rfl rfl (ae rfl _) ?_;refine qv aL ?_;refine qm ?_;refine qs ?_ (hg:=wn cV);refine qs ?_ (hg:=wn cV);refine qs ?_ (hg:=wn cV);refine qs ?_ (hg:=wn cV);refine qs ?_ (hg:=wn cV);refine qs ?_ (hg:=wn cV);refine qs ?_ (hg:=wn cV);refine qs ?_ (hg:=wn cV);refine qt cV ?_;refine qm ?_;refine qe hK<|ab.ret ⟨rx,_,_,_,rfl,rfl,?_⟩;exact⟨rfl,rd1,pd1,qd1,P1,Q1,yp.drop 3,hok1⟩
      |false=>
       rw[if_neg (by decide)] at eV;have cV:false=false:=rfl;refine qq<|qj fun K hK=>qm ?_;refine qm ?_;refine qp (o:=1) ?_;refine ql hH bh ?_;refine qp (o:=1) ?_;refine aa.aF (m:=10) hH rfl (ev rfl) (by exact dF) (by dsimp only[List.drop_succ_cons,List.drop_zero,List.take_succ_cons,List.take_zero,aC,aK,aJ,ay]<;>rfl) rfl rfl (ae rfl _) ?_;refine aa.go (d:=.agg (aK ⟨xn,c⟩)) (st1:=_) rfl rfl rfl (ae rfl _) ?_;have hH:=yp;refine qv aL ?_;refine qm ?_;refine qm ?_ (hg:=wi cV);refine qm ?_ (hg:=wi cV);refine qp (o:=2) ?_ (hg:=wi cV);refine ql hH bh ?_ (hg:=wi cV);refine qp (o:=1) ?_ (hg:=wi cV);refine aa.aF (m:=10) hH (aq rfl rfl rfl cV) (ev rfl) (by exact dF) (by dsimp only[List.drop_succ_cons,List.drop_zero,List.take_succ_cons,List.take_zero,aC,aK,aJ,ay]<;>rfl) rfl rfl (ae rfl _) ?_;refine aa.go (d:=.agg (aK ⟨yn,c⟩)) (st1:=_) (aq rfl rfl rfl cV) rfl rfl (ae rfl _) ?_;obtain⟨_,st,aL,rfl,hT⟩:=ih w1 ⟨yn,c⟩ _ _ (by show yn<_;omega) (by omega) (by omega) (by omega) ⟨rd1,pd1,qd1,P1,Q1,hH.drop 3,hok1⟩;refine qv aL ?_ (hg:=wi cV);refine qu cV ?_;refine qm ?_;refine qe hK<|ab.ret ⟨rx,_,_,_,rfl,rfl,?_⟩;rw[eV];exact⟨rfl,hT⟩
     ·rw[if_neg h2] at eV;refine qq<|qj fun K hK=>qg ?_;refine qm ?_;refine qe hK ?_;refine ab.cond (by rfl) (fun h1=>?_) (fun h1=>?_)<;>try simp only[beq_iff_eq,beq_eq_false_iff_ne,ne_eq] at h1
      ·rw[if_pos h1] at eV;subst eV;refine qq<|qj fun K hK=>qm ?_;refine qm ?_;refine qg ?_;refine qp (o:=1) ?_;refine ql hH gH ?_;refine aa.aF (m:=11) hH rfl (ev rfl) (by exact dF) (by dsimp only[List.drop_succ_cons,List.drop_zero,List.take_succ_cons,List.take_zero,aC,aK,aJ,ay]<;>rfl) rfl rfl (ae rfl _) ?_;refine qh (s:=11) (vs:=[_]) hH fun k77 st UZ hH=>?_;refine aa.bL (s:=11) hH rfl (ev rfl) (ev rfl) (by exact W8) (by exact hH.rows (by exact av)) rfl rfl rfl rfl rfl rfl rfl ⟨(Nat.le_of_ble_eq_true rfl),(Nat.le_of_ble_eq_true rfl)⟩ (fun _=>(ae rfl _)) (by simp only[List.length_cons,List.length_nil,List.length_map]<;>omega) (by exact .inl hF) (fun x78 st hH=>?_);dsimp only[u2,u1,u3,u4,setMany,u5,u6,D.cells,Nat.reduceAdd,aC,aK,aJ,ay] at hH;refine qg ?_;refine qp (o:=1) ?_;refine qT hH qG (fun st hH=>?_) (iy:=hH.eJ W8);dsimp only[u2,u1,u3,u4,setMany,u5,u6,D.cells,Nat.reduceAdd,aC,aK,aJ,ay] at hH;refine qe hK<|qq<|qj fun K hK=>qm ?_;refine qe hK<|ab.ret ⟨rx,_,_,_,rfl,rfl,?_⟩;refine⟨rfl,x78,pd,qd,P,Q,?_,bA⟩;rw[List.map_append];exact hH.drop 4
      ·rw[if_neg h1] at eV;refine qq<|qj fun K hK=>qg ?_;refine qm ?_;refine qe hK ?_;refine ab.cond (by rfl) (fun h3=>?_) (fun h3=>?_)<;>try simp only[beq_iff_eq,beq_eq_false_iff_ne,ne_eq] at h3
       ·rw[if_pos h3] at eV;obtain⟨_,hx0,hx1⟩:=((mX.resolve_left h7).resolve_left (by omega)).resolve_right (by omega);obtain⟨xn,rfl⟩:=Int.eq_ofNat_of_zero_le hx0;refine qj fun K hK=>qp (o:=1) ?_;refine ql hH bh ?_;refine qp (o:=0) ?_;refine qT hH av fun st hH=>?_;dsimp only[u2,u1,u3,u4,setMany,u5,u6,D.cells,Nat.reduceAdd,aC,aK,aJ,ay] at hH;refine qe hK ?_;exact⟨⟨xn,c⟩,_,rfl,hH,eV,by show xn<_;omega⟩
       ·rw[if_neg h3] at eV;refine qq<|qj fun K hK=>qg ?_;refine qm ?_;refine qe hK ?_;refine ab.cond (by rfl) (fun h4=>?_) (fun h4=>?_)<;>try simp only[beq_iff_eq,beq_eq_false_iff_ne,ne_eq] at h4
        ·rw[if_pos h4] at eV;obtain⟨_,sA,hx0,hx1⟩:=(((mX.resolve_left h7).resolve_left (by omega)).resolve_left (by omega)).resolve_right (by omega);obtain⟨xn,rfl⟩:=Int.eq_ofNat_of_zero_le hx0;refine qj fun K hK=>qp (o:=1) ?_;refine ql hH bh ?_;refine qm ?_;refine qg ?_;refine qp (o:=2) ?_;refine ql hH fm ?_;refine qp (o:=1) ?_;refine aa.MV (m:=10) (s:=1) (i:=xn) (o:=1+xn) rfl (ev rfl) (ev rfl) rfl rfl (by omega) (by omega) (ae rfl _) ?_;refine aa.mU hH rfl (ev rfl) (ev rfl) rfl (by exact rfl) av (by show 1+xn+1≤11;omega) (.inl hF) (fun st hH=>?_);change Has _ _ _ (.box k8 (.mem 0 false (setMany (_::ay c) (1+xn) [.int .i64 (pl:Nat)]))::_) at hH;rw[Gn (by omega)] at hH;refine qe hK ?_;exact⟨⟨pc+1,DH c xn (pl:Nat)⟩,_,rfl,hH,eV,sA⟩
        ·rw[if_neg h4] at eV;refine qq<|qj fun K hK=>qg ?_;refine qm ?_;refine qe hK ?_;refine ab.cond (by rfl) (fun h5=>?_) (fun h5=>?_)<;>try simp only[beq_iff_eq,beq_eq_false_iff_ne,ne_eq] at h5
         ·rw[if_pos h5] at eV;have sA:pc+1<p.code.length:=by omega
          refine qq<|qj fun K hK=>qm ?_;refine qg ?_;refine qp (o:=2) ?_;refine ql hH fm ?_;refine qg ?_;refine qe hK ?_
          by_cases ha:pl=0
          ·rw[if_pos ha] at eV;subst ha;refine ab.cond (v:=false) (by dsimp only[Fr.ev,Fr.get,nth,V.look];rfl) (fun h=>by cases h) (fun _=>?_);refine ab.skip ?_;exact⟨⟨pc+1,c⟩,_,rfl,hH,eV,sA⟩
          ·rw[if_neg ha] at eV;subst eV;refine qD rfl (by simp;omega) ?_;refine qq<|qj fun K hK=>qm ?_;refine qe hK<|ab.ret ⟨rx,_,_,_,rfl,rfl,?_⟩;exact⟨rfl,rd,pd,qd,P,Q,hH.drop 3,bA⟩
         ·rw[if_neg h5] at eV;have h6:op=6:=by omega
          have sA:pc+1<p.code.length:=by omega
          refine qq<|qj fun K hK=>qg ?_;refine qm ?_;refine qe hK<|qD rfl (by simp[h6]) ?_;refine qq<|qj fun K hK=>qm ?_;refine qg ?_;refine qp (o:=2) ?_;refine ql hH gH ?_;refine qg ?_;refine qe hK ?_
          cases e with
          |true=>
           rw[if_pos rfl] at eV;refine qC ?_;refine ab.skip ?_;exact⟨⟨pc+1,c⟩,_,rfl,hH,eV,sA⟩
          |false=>
           rw[if_neg (by decide)] at eV;subst eV;refine qB ?_;refine qq<|qj fun K hK=>qm ?_;refine qe hK<|ab.ret ⟨rx,_,_,_,rfl,rfl,?_⟩;exact⟨rfl,rd,pd,qd,P,Q,hH.drop 3,bA⟩
   ·rintro fr st ⟨t',tmp,hfr,hH,hR2,Yd⟩;rw[hfr];clear hfr;generalize cI fr=ee;clear fr;obtain⟨pc',c'⟩:=t';dsimp only[aK] at hH;refine qq<|qj fun K hK=>qm ?_;refine qm ?_;refine aa.aF (m:=11) hH rfl (ev rfl) (by exact av) (by dsimp only[List.drop_succ_cons,List.drop_zero,List.take_succ_cons,List.take_zero,aC,aK,aJ,ay]<;>rfl) rfl rfl (ae rfl _) ?_;have hH:=hH.drop 3;obtain⟨_,st,aL,rfl,hT⟩:=ih ⟨sn,w.dn,w.aU,w.rdy⟩ ⟨pc',c'⟩ _ _ Yd o6 yl x0 ⟨rd,pd,qd,P,Q,hH,bA⟩;refine qv aL ?_;refine qm ?_;refine qe hK<|ab.ret ⟨rx,_,_,_,rfl,rfl,?_⟩;rw[hR2];exact⟨rfl,hT⟩
def cP (fr:Go.V.Fr) (k:Nat):Go.V.D:=Go.V.nth .bD fr.loc k
structure VL where
 dn:Bool
 aU:nc
 td:D
 bB:List iS
def dP (l:VL):List D:=aJ l.dn l.aU l.td
def pX (l:VL):bJ:=.aO l.td 11 (l.bB.map aK)
theorem Dn (A:List bJ) {n:Nat} (hn:A.length=n) {L:List VL} {i:Nat} {l:VL} (h:L[i]?=some l) {H:List bJ}:(A++(L.map pX++H))[n+i]?=some (pX l):=by
 have hi:=bC h;rw[List.getElem?_append_right (by omega),List.getElem?_append_left (by simp;omega),hn,Nat.add_sub_cancel_left,List.getElem?_map,h];rfl
theorem oy {L:List VL} {i:Nat} {l:VL} (h:L[i]?=some l):(L.map dP)[i]?=some (dP l):=by rw[List.getElem?_map,h];rfl
theorem l4 {l:List iS} {i:Nat} {q:iS} (h:l[i]?=some q):(l.map aK)[i]?=some (aK q):=by rw[List.getElem?_map,h];rfl
theorem kG {N:Nat} {S st:St} {H:List bJ} {j:Nat} {x:D} {s:Nat} {es:List (List D)} (h:Has N S st H) (hj:H[j]?=some (.aO x s es)):x.ref≤st.bs.length:=by
 rcases Nat.eq_zero_or_pos x.ref with h0|h0
 ·omega
 ·have:=h.sa hj (k:=x.ref-1) (by show x.ref=x.ref-1+1;omega);omega
def MH (A:List bJ) (N:Nat) (S st:St) (ks kv:Nat) (p:Pg) (pl:Nat) (ld:D) (L:List VL) (H:List bJ):Prop:=
 ∃pd qd P Q sn,Has N S st (A++(.box kv (.mem 0 false [p.cd,p.sd,.int .i64 (pl:Nat),ld,.ptr ks 0 0])::.box ks (.mem 0 false [pd,qd])::.aO pd 1 (P.map gL)::.aO qd 2 (Q.map ov)::.aO ld 12 (L.map dP)::(L.map pX++H)))∧dC P Q sn∧sn.length=p.code.length
theorem MH.push (A B:List bJ) {N:Nat} {S st:St} {ks kv:Nat} {p:Pg} {pl:Nat} {ld:D} {L:List VL} {H:List bJ} (h:MH (A++B) N S st ks kv p pl ld L H):MH B N S st ks kv p pl ld L (A++H):=by
 obtain⟨pd,qd,P,Q,sn,hH,bA,gj⟩:=h;refine⟨pd,qd,P,Q,sn,?_,bA,gj⟩;have:=Has.lA (H:=H) A (B++(.box kv (.mem 0 false [p.cd,p.sd,.int .i64 (pl:Nat),ld,.ptr ks 0 0])::.box ks (.mem 0 false [pd,qd])::.aO pd 1 (P.map gL)::.aO qd 2 (Q.map ov)::.aO ld 12 (L.map dP)::L.map pX)) (by simpa only[List.append_assoc,List.cons_append] using hH)
 simpa only[List.append_assoc,List.cons_append] using this
theorem MH.pull (A B:List bJ) {N:Nat} {S st:St} {ks kv:Nat} {p:Pg} {pl:Nat} {ld:D} {L:List VL} {H:List bJ} (h:MH B N S st ks kv p pl ld L (A++H)):MH (A++B) N S st ks kv p pl ld L H:=by
 obtain⟨pd,qd,P,Q,sn,hH,bA,gj⟩:=h;refine⟨pd,qd,P,Q,sn,?_,bA,gj⟩;have:=Has.lA (H:=H) (B++(.box kv (.mem 0 false [p.cd,p.sd,.int .i64 (pl:Nat),ld,.ptr ks 0 0])::.box ks (.mem 0 false [pd,qd])::.aO pd 1 (P.map gL)::.aO qd 2 (Q.map ov)::.aO ld 12 (L.map dP)::L.map pX)) A (by simpa only[List.append_assoc,List.cons_append] using hH)
 simpa only[List.append_assoc,List.cons_append] using this
def lp (code:List aQ) (pl:Nat) (e:Bool):List iS→Wk→Wk
 |[],w=>w
 |t::ts,w=>if(b_ code pl e (code.length+1) w t).2=true then(b_ code pl e (code.length+1) w t).1 else lp code pl e ts (b_ code pl e (code.length+1) w t).1
def jS (n:Nat) (dn:Bool) (aU:nc):Wk:=⟨List.replicate n false,dn,aU,[]⟩
theorem sS (code:List aQ) (pl:Nat) (e:Bool):∀(l:List iS) (w:Wk),Good code w (lp code pl e l w)
 |[],w=>.refl
 |t::ts,w=>by
  unfold lp
  split
  ·exact cN ..
  ·exact(cN ..).trans (sS code pl e ts _)
theorem uO {N ks kv:Nat} {S s0:St} {H:List bJ} {p:Pg} {pl:Nat} {ld:D} {L:List VL} {i:Nat} {l:VL} {e:Bool} (hF:S.flr≤N) (hp:p.ok) (hR:bE p) (ib:pl≤4000000000000) (hl:L[i]?=some l) (tv:∀t∈l.bB,t.pc<p.code.length) (ng:l.bB.length≤1048576) (hM:MH [] N S s0 ks kv p pl ld L H):
  ∃r ai,Ev pv 64 [.ptr kv 0 0,.int .i64 (i:Nat),.bool e] s0 r ai∧∃rd,r=.tup [.agg (aJ (lp p.code pl e l.bB (jS p.code.length l.dn l.aU)).dn (lp p.code pl e l.bB (jS p.code.length l.dn l.aU)).aU .nul),rd]∧MH [.aO rd 11 ((lp p.code pl e l.bB (jS p.code.length l.dn l.aU)).rdy.map aK)] N S ai ks kv p pl ld L H:=by
 obtain⟨pd,qd,P,Q,sn,hH,bA,gj⟩:=hM;have hcl:=hR.cl;have gB:=oy hl;have hil:=bC hl;generalize hW:lp p.code pl e l.bB (jS p.code.length l.dn l.aU)=W at*;obtain⟨dn,aU,td,bB⟩:=l;simp only at hW tv ng;dsimp only[u4] at hH;refine Ev.iD rfl ZP rfl rfl rfl ?_;dsimp only[u3,u4,List.length,Nat.reduceSub,Nat.reduceAdd,w1,w2];change ab _ _ _ _ s0 _;refine qq<|qj fun K hK=>qa hH fun k6 st F9 hH=>?_;refine qm ?_;refine qe hK<|qq<|qj fun K hK=>qm ?_;refine qg ?_;refine qp (o:=3) ?_;refine ql hH bh ?_;refine qm ?_;refine qi hH qG fun p18 UJ=>?_;refine aa.vy hH rfl (ev rfl) (by assumption) (by exact qG) (by assumption) rfl (by dsimp only[Fr.put,u1,u2]<;>rfl) ?_;refine qa hH fun k8 st Td hH=>?_;refine qS hH av fun st hH=>?_;dsimp only[u2,u1,u3,u4,setMany,u5,u6,D.cells,Nat.reduceAdd,aC,aK,aJ,ay,dP] at hH;refine qe hK<|qq<|qj fun K hK=>qp (o:=0) ?_;refine ql hH av ?_;refine qp (o:=1) ?_;refine aa.aF (m:=10) hH rfl (ev rfl) (by exact av) (by dsimp only[List.drop_succ_cons,List.drop_zero,List.take_succ_cons,List.take_zero,aC,aK,aJ,ay,dP]<;>rfl) rfl rfl (by dsimp only[Fr.put,u1,u2]<;>rfl) ?_;refine aa.go (d:=.agg (aJ dn aU .nul)) (st1:=_) rfl rfl rfl (by dsimp only[Fr.put,u1,u2]<;>rfl) ?_;refine qa hH fun k9 st hk9 hH=>?_;refine qS hH av fun st hH=>?_;dsimp only[u2,u1,u3,u4,setMany,u5,u6,D.cells,Nat.reduceAdd,aC,aK,aJ,ay,dP] at hH;refine qe hK<|qq<|qj fun K hK=>qm ?_;refine aa.gK (qs:=[(0,_),(2,_)]) rfl rfl rfl rfl ⟨rfl,(ev rfl),(by rfl),rfl,(ev rfl),(by rfl),trivial⟩ (by intro q hq;simp only[List.mem_cons,List.not_mem_nil,or_false] at hq;rcases hq with rfl|rfl<;>exact⟨rfl,by exact Nat.le_of_ble_eq_true rfl⟩) (by show List.foldl _ [_,_,_] _=_;dsimp only[List.foldl_cons,List.foldl_nil,u2,u1]<;>rfl) (by dsimp only[Fr.put,u1,u2]<;>rfl) ?_;refine qb hH fun k27 st YH hH=>?_;refine qm ?_;refine qe hK ?_;have cX:=hH;refine qq<|qj fun K hK=>qm ?_;refine qg ?_;refine qp (o:=4) ?_;refine ql hH gH ?_;obtain⟨_,st,aL,rfl,pd,qd,P,Q,hH,bA⟩:=pB [_,_,_,_,_] hF bA hH;dsimp only[u3,u4] at hH;refine qv aL ?_;refine qe hK ?_;clear cX;rw[gj] at bA;have hH:=Has.lA [_,_,_,_] [_] hH;have hH:=Has.lA [_,_,_,_,_] [_,_,_] hH;have hH:=Has.lA [_,_,_] [_,_,_] hH;have hH:=Has.lA [_] [_,_,_] (hH.ew 11);dsimp only[u3,u4] at hH;have X4:=hH.rows (Dn [_,_,_,_,_,_,_,_,_,_] rfl hl);have aaC:=sS p.code pl e bB (jS p.code.length dn aU);refine qq<|qq<|qj fun K hK=>qp (o:=11) ?_;refine ql hH W8 ?_;refine aa.Q0 rfl (ev rfl) X4 rfl (by dsimp only[Fr.put,u1,u2]<;>rfl) ?_;simp only[List.length_map];refine qm ?_;refine qe hK<|ab.block<|ab.loop (fun mm fr st=>∃(j:Nat) (w:Wk) (rest:List iS) (rd pd qd:D) (P Q:List Nat),fr.clean=⟨37,[.ptr kv 0 0,.int .i64 (i:Nat),.bool e,cP fr 3,cP fr 4,cP fr 5,.ptr k6 0 0,.nul,.ptr k8 0 0,.ptr k9 0 0,.ptr k27 0 0,cP fr 11,cP fr 12,cP fr 13,cP fr 14,cP fr 15,cP fr 16,cP fr 17,cP fr 18,cP fr 19,cP fr 20,cP fr 21,cP fr 22,cP fr 23,cP fr 24,cP fr 25,cP fr 26,cP fr 27,cP fr 28,cP fr 29,cP fr 30,cP fr 31,cP fr 32,cP fr 33,td,.int .i64 (bB.length:Nat),.int .i64 (j:Nat)],[]⟩∧Has N S st (.box kv (.mem 0 false [p.cd,p.sd,.int .i64 (pl:Nat),ld,.ptr ks 0 0])::.box k27 (.mem 0 false [.ptr k9 0 0,rd,.bool e])::.box k9 (.mem 0 false (aJ w.dn w.aU .nul))::.aO rd 11 (w.rdy.map aK)::.box ks (.mem 0 false [pd,qd])::.aO pd 1 (P.map gL)::.aO qd 2 (Q.map ov)::.box k8 (.mem 0 false (aJ dn aU td))::.box k6 (.mem 0 false (aJ false np .nul))::.aO ld 12 (L.map dP)::(L.map pX++H))∧(j+mm=bB.length)∧(rest=bB.drop j)∧(lp p.code pl e rest w=W)∧(w.seen.length=p.code.length)∧(w.rdy.length+w.seen.count false≤1048576)∧(dC P Q w.seen)) (bB.length) ?_ ?_
 ·exact⟨0,jS p.code.length dn aU,bB,.nul,_,_,_,_,rfl,hH,by omega,rfl,hW,by simp[jS],by(have:=List.count_le_length (a:=false) (l:=(jS p.code.length dn aU).seen);simp[jS] at this⊢;omega),bA⟩
 rintro mm fr st ⟨j,w,rest,rd,pd,qd,P,Q,hfr,hH,hj,kV,hex,iE,ni,bA⟩;rw[hfr];clear hfr;generalize cP fr=ee;clear fr;refine qq<|qj fun K hK=>qg ?_;refine qe hK ?_;have X4:=hH.rows (Dn [_,_,_,_,_,_,_,_,_,_] rfl hl);refine qq ?_;refine ab.cond (by rfl) (fun hlt=>?_) (fun hlt=>?_)<;>try simp only[decide_eq_true_eq,decide_eq_false_iff_not] at hlt
 ·refine ab.skip ?_;have jI:j<bB.length:=by omega
  obtain⟨t,ht⟩:∃t,bB[j]?=some t:=⟨bB[j]'jI,List.getElem?_eq_getElem _⟩
  have Ms:=l4 ht;have Up:=tv t (List.mem_of_getElem? ht)
  have tI:rest=t::bB.drop (j+1):=by
   rw[kV,List.drop_eq_getElem_cons jI]
   congr 1
   exact Option.some.inj ((List.getElem?_eq_getElem _).symm.trans ht)
  have wc:=List.count_le_length (a:=false) (l:=w.seen);have Sd:=cN p.code pl e (p.code.length+1) w t;rw[tI] at hex;have hex:(if(b_ p.code pl e (p.code.length+1) w t).2=true then(b_ p.code pl e (p.code.length+1) w t).1 else lp p.code pl e (bB.drop (j+1)) (b_ p.code pl e (p.code.length+1) w t).1)=W:=hex;refine qq<|ab.block<|qq<|qj fun K hK=>aa.TW rfl (ev rfl) (ev rfl) X4 rfl rfl Ms (fun _=>(ae rfl _)) (fun p38 UF=>?_);refine qR ?_;refine qa hH fun k12 st abO hH=>?_;dsimp only[u2,u1,u3,u4,setMany,u5,u6,D.cells,Nat.reduceAdd,aC,aK,aJ,ay,dP] at hH;refine qS hH av fun st hH=>?_;dsimp only[u2,u1,u3,u4,setMany,u5,u6,D.cells,Nat.reduceAdd,aC,aK,aJ,ay,dP] at hH;refine qe hK<|qq<|qj fun K hK=>qm ?_;refine qm ?_;refine aa.aF (m:=11) hH rfl (ev rfl) (by exact av) (by dsimp only[List.drop_succ_cons,List.drop_zero,List.take_succ_cons,List.take_zero,aC,aK,aJ,ay,dP]<;>rfl) rfl rfl (ae rfl _) ?_;have hH:=hH.drop 1;obtain⟨_,st,aL,rfl,hT⟩:=Nk (ks:=ks) (kv:=kv) (kw:=k27) (kl:=k9) (S:=S) (H:=H) (ld:=ld) (e:=e) hF hp hR ib (p.code.length+1) w t _ _ Up iE (by omega) ni ⟨rd,pd,qd,P,Q,hH,bA⟩;refine qv aL ?_;refine qe hK ?_;generalize b_ p.code pl e (p.code.length+1) w t=R1 at*;obtain⟨w1,b1⟩:=R1;obtain⟨cW,aZ,aR,cx⟩:=Sd;simp only at cW aZ aR cx hT hex;obtain⟨rd,pd,qd,P,Q,hH,bA⟩:=hT;have o6:w1.seen.length=p.code.length:=cW.trans iE
  cases b1 with
  |true=>
   rw[if_pos rfl] at hex;subst hex;refine qB ?_;refine ab.exit ?_;have hH:=Has.lA [_,_,_,_,_,_,_] [_,_] hH;dsimp only[u3,u4] at hH;have tK:=hH;have CA:=kG hH qG;have Mt:=hH.sa gH (k:=k9) rfl;change ab _ _ _ _ _ _;refine qq ?_;generalize hK:bj _ _ _ _=K;refine ab.oK rfl ?_;refine bP.cons ?_;refine aa.aF (m:=12) hH rfl (ev rfl) (by exact gH) (by dsimp only[List.drop_succ_cons,List.drop_zero,List.take_succ_cons,List.take_zero,aC,aK,aJ,ay,dP]<;>rfl) rfl rfl (ae rfl _) ?_;refine aa.nil ⟨rfl,?_⟩;refine bP.cons ?_;refine qm ?_;refine aa.nil ⟨rfl,?_⟩;refine bP.cons ?_;refine qg ?_;refine aa.nil ⟨rfl,?_⟩;refine bP.cons ?_;refine qp (o:=1) ?_;refine aa.nil ⟨rfl,?_⟩;refine bP.cons ?_;refine ql hH fm ?_;refine aa.nil ⟨rfl,?_⟩;refine bP.cons ?_;refine qS hH bh fun st hH=>?_;dsimp only[u2,u1,u3,u4,setMany,u5,u6,D.cells,Nat.reduceAdd,aC,aK,aJ,ay,dP] at hH;refine aa.nil ⟨by exact Bool.and_eq_true_iff.2 ⟨gk rfl rfl rfl (tK.at fm) (hH.at fm) (tK.at fm) (by simp only[refs,D.ref];omega),rfl⟩,?_⟩;refine bP.cons ?_;refine qm ?_;refine aa.nil ⟨rfl,?_⟩;refine bP.nil ?_;subst hK;refine ab.ret ⟨rx,_,_,_,hH.lB rfl bh rfl rfl,rfl,rd,rfl,pd,qd,P,Q,_,?_,bA,o6⟩;exact((Has.lA [_,_,_] [_] (hH.drop 2)).erase 2).erase 2
  |false=>
   rw[if_neg (by decide)] at hex;refine qC ?_;refine ab.skip<|qj fun K hK=>qA ?_;refine qm ?_;refine qe hK ?_;exact⟨mm-1,by omega,⟨j+1,w1,bB.drop (j+1),rd,pd,qd,P,Q,rfl,hH,by omega,rfl,hex,o6,by omega,bA⟩⟩
 ·refine ab.exit ?_;have vZ:rest=[]:=by rw[kV,List.drop_eq_nil_iff];omega
  subst vZ;have hex:w=W:=hex;subst hex;have hH:=Has.lA [_,_,_,_,_,_,_] [_,_] hH;dsimp only[u3,u4] at hH;have tK:=hH;have CA:=kG hH qG;have Mt:=hH.sa gH (k:=k9) rfl;change ab _ _ _ _ _ _;refine qq ?_;generalize hK:bj _ _ _ _=K;refine ab.oK rfl ?_;refine bP.cons ?_;refine aa.aF (m:=12) hH rfl (ev rfl) (by exact gH) (by dsimp only[List.drop_succ_cons,List.drop_zero,List.take_succ_cons,List.take_zero,aC,aK,aJ,ay,dP]<;>rfl) rfl rfl (ae rfl _) ?_;refine aa.nil ⟨rfl,?_⟩;refine bP.cons ?_;refine qm ?_;refine aa.nil ⟨rfl,?_⟩;refine bP.cons ?_;refine qg ?_;refine aa.nil ⟨rfl,?_⟩;refine bP.cons ?_;refine qp (o:=1) ?_;refine aa.nil ⟨rfl,?_⟩;refine bP.cons ?_;refine ql hH fm ?_;refine aa.nil ⟨rfl,?_⟩;refine bP.cons ?_;refine qS hH bh fun st hH=>?_;dsimp only[u2,u1,u3,u4,setMany,u5,u6,D.cells,Nat.reduceAdd,aC,aK,aJ,ay,dP] at hH;refine aa.nil ⟨by exact Bool.and_eq_true_iff.2 ⟨gk rfl rfl rfl (tK.at fm) (hH.at fm) (tK.at fm) (by simp only[refs,D.ref];omega),rfl⟩,?_⟩;refine bP.cons ?_;refine qm ?_;refine aa.nil ⟨rfl,?_⟩;refine bP.nil ?_;subst hK;refine ab.ret ⟨rx,_,_,_,hH.lB rfl bh rfl rfl,rfl,rd,rfl,pd,qd,P,Q,_,?_,bA,iE⟩;exact((Has.lA [_,_,_] [_] (hH.drop 2)).erase 2).erase 2
def bU (fr:Go.V.Fr) (k:Nat):Go.V.D:=Go.V.nth .bD fr.loc k
def iz (l:List iS) (k:Nat):Bool:=l.any fun x=>x.pc==k
def lf (l:List iS) (t:iS):List iS:=if iz l t.pc=true then l else l++[t]
def xe (code:List aQ) (pc:Nat):List Rg:=match code[pc]? with
 |some i=>i.rs
 |none=>[]
def gx (code:List aQ) (r:Int):List iS→List iS→List iS
 |[],a=>a
 |t::ts,a=>gx code r ts (if iA (xe code t.pc) r=true then lf a ⟨t.pc+1,t.c⟩ else a)
structure PL where
 dn:Bool
 aU:nc
 bB:List iS
def gw (code:List aQ) (pl start:Nat) (r:Int) (l:PL):PL:=
 ⟨(lp code pl false l.bB (jS code.length l.dn l.aU)).dn,(lp code pl false l.bB (jS code.length l.dn l.aU)).aU,
  if(lp code pl false l.bB (jS code.length l.dn l.aU)).dn=true then gx code r (lp code pl false l.bB (jS code.length l.dn l.aU)).rdy []
  else lf (gx code r (lp code pl false l.bB (jS code.length l.dn l.aU)).rdy []) ⟨start,bX⟩⟩
theorem sF (l:List iS) (t:iS) (k:Nat):iz (l++[t]) k=(iz l k||t.pc==k):=by
 unfold iz;rw[List.any_append];simp
theorem tl (l:List iS) (t:iS):(lf l t).length≤l.length+1:=by
 unfold lf;split
 ·omega
 ·simp
theorem yS {l:List iS} {t x:iS} (h:x∈lf l t):x∈l∨x=t:=by
 unfold lf at h;split at h
 ·exact .inl h
 ·rcases List.mem_append.1 h with h|h
  ·exact .inl h
  ·exact .inr (by simpa using h)
theorem rS {code:List aQ} {r:Int}:∀(l a:List iS),(gx code r l a).length≤l.length+a.length∧∀x∈gx code r l a,x∈a∨∃t∈l,x.pc=t.pc+1
 |[],a=>⟨by simp[gx],fun x h=>.inl h⟩
 |t::ts,a=>by
  unfold gx
  split
  ·obtain⟨h1,h2⟩:=rS (code:=code) (r:=r) ts (lf a ⟨t.pc+1,t.c⟩);have:=tl a ⟨t.pc+1,t.c⟩;refine⟨by simp only[List.length_cons];omega,fun x hx=>?_⟩
   rcases h2 x hx with h|⟨y,hy,he⟩
   ·rcases yS h with h|h
    ·exact .inl h
    ·exact .inr ⟨t,List.mem_cons_self ..,by rw[h]⟩
   ·exact .inr ⟨y,List.mem_cons_of_mem _ hy,he⟩
  ·obtain⟨h1,h2⟩:=rS (code:=code) (r:=r) ts a;refine⟨by simp only[List.length_cons];omega,fun x hx=>?_⟩
   rcases h2 x hx with h|⟨y,hy,he⟩
   ·exact .inl h
   ·exact .inr ⟨y,List.mem_cons_of_mem _ hy,he⟩
def PL.ok (n:Nat) (l:PL):Prop:=(∀t∈l.bB,t.pc<n)∧l.bB.length≤1000
theorem ox {code:List aQ} {pl:Nat} {e:Bool} {l:List iS} {dn:Bool} {aU:nc}:(lp code pl e l (jS code.length dn aU)).rdy.length≤code.length∧∀t∈(lp code pl e l (jS code.length dn aU)).rdy,∃i,code[t.pc]?=some i∧i.op=1:=by
 obtain⟨_,_,h3,h4⟩:=sS code pl e l (jS code.length dn aU);have:=List.count_le_length (a:=false) (l:=(jS code.length dn aU).seen);simp only[jS,List.length_replicate,List.length_nil] at h3 this;refine⟨by simp only[jS];omega,fun t ht=>?_⟩
 rcases h4 t ht with h|h
 ·simp[jS] at h
 ·exact h
theorem rJ {p:Pg} (hR:bE p) {t:iS} (h:∃i,p.code[t.pc]?=some i∧i.op=1):t.pc+1<p.code.length:=by
 obtain⟨i,hi,h1⟩:=h;have:=kq (hR.sh t.pc i hi);omega
theorem Dz {p:Pg} (hR:bE p) {pl start:Nat} {r:Int} {l:PL} (hs:start<p.code.length):(gw p.code pl start r l).ok p.code.length:=by
 obtain⟨h1,h2⟩:=ox (code:=p.code) (pl:=pl) (e:=false) (l:=l.bB) (dn:=l.dn) (aU:=l.aU);have hcl:=hR.cl;unfold gw PL.ok;generalize lp p.code pl false l.bB (jS p.code.length l.dn l.aU)=w at*;obtain⟨h3,h4⟩:=rS (code:=p.code) (r:=r) w.rdy []
 have h5:∀x∈gx p.code r w.rdy [],x.pc<p.code.length:=fun x hx=>by
  rcases h4 x hx with h|⟨t,ht,he⟩
  ·cases h
  ·have:=rJ hR (h2 t ht);omega
 simp only[List.length_nil] at h3;simp only
 split
 ·exact⟨h5,by omega⟩
 ·refine⟨fun x hx=>?_,?_⟩
  ·rcases yS hx with h|h
   ·exact h5 x h
   ·rw[h];exact hs
  ·have:=tl (gx p.code r w.rdy []) ⟨start,bX⟩;omega
theorem Dx (dB:∀st,Ev pv 59 [] st (.agg (ay bX)) st) {N ks kv:Nat} {S s0:St} {H:List bJ} {p:Pg} {pl:Nat} {ld:D} {L:List VL} {i start:Nat} {l:VL} {r:Int} (hF:S.flr≤N) (hp:p.ok) (hR:bE p) (ib:pl≤4000000000000) (hl:L[i]?=some l) (NB:p.ak[i]?=some ((start:Nat):Int)) (tv:(⟨l.dn,l.aU,l.bB⟩:PL).ok p.code.length) (hM:MH [] N S s0 ks kv p pl ld L H):
  ∃d ai,Ev pv 62 [.ptr kv 0 0,.int .i64 (i:Nat),.int .i32 r] s0 d ai∧∃td,d=.agg (aJ (gw p.code pl start r ⟨l.dn,l.aU,l.bB⟩).dn (gw p.code pl start r ⟨l.dn,l.aU,l.bB⟩).aU td)∧MH [.aO td 11 ((gw p.code pl start r ⟨l.dn,l.aU,l.bB⟩).bB.map aK)] N S ai ks kv p pl ld L H:=by
 have hcl:=hR.cl;have hc:=hp.c.arg N S;have hs:=hp.s.arg N S;have hlen:=hp.cl;have Rz:start<p.code.length:=by have:=(hR.st _ (List.mem_of_getElem? NB)).2;omega
 have S_:=eA NB;obtain⟨Uq,XY⟩:=tv;simp only at Uq XY;obtain⟨hb1,hb2⟩:=ox (code:=p.code) (pl:=pl) (e:=false) (l:=l.bB) (dn:=l.dn) (aU:=l.aU);obtain⟨pd,qd,P,Q,sn,hH,bA,gj⟩:=hM;dsimp only[u4] at hH;unfold gw;simp only;refine Ev.iD rfl ZR rfl rfl rfl ?_;dsimp only[u3,u4,List.length,Nat.reduceSub,Nat.reduceAdd,w1,w2];change ab _ _ _ _ s0 _;refine qq<|qj fun K hK=>qa hH fun k6 st F9 hH=>?_;refine qe hK ?_;obtain⟨_,st1,aL,rd,rfl,hM⟩:=uO (e:=false) hF hp hR ib hl Uq (by omega) (MH.push [_] [] ⟨pd,qd,P,Q,sn,hH,bA,gj⟩);clear bA gj;have hM:=MH.pull [_] [_] hM;generalize lp p.code pl false l.bB (jS p.code.length l.dn l.aU)=W at*;obtain⟨pd,qd,P,Q,sn,Sv,bA,gj⟩:=hM;dsimp only[u3,u4] at Sv;refine qq<|qj fun K hK=>qm ?_;refine qm ?_;have hH:=Sv;refine qv aL ?_;refine qm ?_;refine qg ?_;refine qg ?_;refine qa hH fun k7 st Te hH=>?_;refine qS hH av fun st hH=>?_;dsimp only[u2,u1,u3,u4,setMany,u5,u6,D.cells,Nat.reduceAdd,aC,aK,aJ,ay,dP] at hH;refine qm ?_;refine qe hK ?_;clear Sv;refine qq<|qj fun K hK=>qm ?_;refine qg ?_;refine qp (o:=4) ?_;refine ql hH fm ?_;obtain⟨_,st,aL,rfl,pd,qd,P,Q,hH,bA⟩:=pB [_,_,_,_] hF bA hH;dsimp only[u3,u4] at hH;refine qv aL ?_;refine qe hK ?_;rw[gj] at bA;refine qq<|qq<|qj fun K hK=>qm ?_;refine qn ?_ (hR:=hH.rows dF);simp only[List.length_map];refine qm ?_;refine qe hK ?_;have hH:=Has.lA [_] [_] (hH.ew 11);dsimp only[u3,u4] at hH
 obtain⟨A,hA⟩:∃A,gx p.code r W.rdy []=A:=⟨_,rfl⟩
 rw[hA];refine ab.block<|ab.loop (fun mm fr st=>∃(j:Nat) (acc rest:List iS) (td pd qd:D) (P Q:List Nat) (sn:List Bool),fr.clean=⟨25,[.ptr kv 0 0,.int .i64 (i:Nat),.int .i32 r,bU fr 3,bU fr 4,bU fr 5,.ptr k6 0 0,.ptr k7 0 0,rd,bU fr 9,bU fr 10,bU fr 11,bU fr 12,bU fr 13,bU fr 14,bU fr 15,bU fr 16,bU fr 17,bU fr 18,bU fr 19,bU fr 20,bU fr 21,rd,.int .i64 (W.rdy.length:Nat),.int .i64 (j:Nat)],[]⟩∧Has N S st (.box k7 (.mem 0 false (aJ W.dn W.aU td))::.aO td 11 (acc.map aK)::.box k6 (.mem 0 false (aJ false np .nul))::.aO rd 11 (W.rdy.map aK)::.box kv (.mem 0 false [p.cd,p.sd,.int .i64 (pl:Nat),ld,.ptr ks 0 0])::.box ks (.mem 0 false [pd,qd])::.aO pd 1 (P.map gL)::.aO qd 2 (Q.map ov)::.aO ld 12 (L.map dP)::(L.map pX++H))∧(j+mm=W.rdy.length)∧(rest=W.rdy.drop j)∧(gx p.code r rest acc=A)∧(acc.length≤j)∧(dC P Q sn)∧(sn.length=p.code.length)∧(∀k,k<p.code.length→sn[k]?=some (iz acc k))) (W.rdy.length) ?_ ?_
 ·refine⟨0,[],W.rdy,.nul,_,_,_,_,_,rfl,hH,by omega,rfl,hA,by simp,bA,by simp,(fun k hk=>by rw[List.getElem?_replicate,if_pos hk];rfl)⟩
 rintro mm fr st ⟨j,acc,rest,td,pd,qd,P,Q,sn,hfr,hH,hj,kV,hex,hal,bA,gj,sy⟩;rw[hfr];clear hfr;generalize bU fr=ee;clear fr;refine qq<|qj fun K hK=>qg ?_;refine qe hK<|qq ?_;refine ab.cond (by rfl) (fun hlt=>?_) (fun hlt=>?_)<;>try simp only[decide_eq_true_eq,decide_eq_false_iff_not] at hlt
 ·refine ab.skip ?_;have jI:j<W.rdy.length:=by omega
  obtain⟨t,ht⟩:∃t,W.rdy[j]?=some t:=⟨W.rdy[j]'jI,List.getElem?_eq_getElem _⟩
  have Ms:=l4 ht;obtain⟨ii,hii,Th⟩:=hb2 t (List.mem_of_getElem? ht);have Nz:=rJ hR ⟨ii,hii,Th⟩;have mV:=eB hii;have Di:=hp.i ii (List.mem_of_getElem? hii);have EM:=Di.1;have EN:=EM.arg N S;have X6:=Di.2
  have tI:rest=t::W.rdy.drop (j+1):=by
   rw[kV,List.drop_eq_getElem_cons jI]
   congr 1
   exact Option.some.inj ((List.getElem?_eq_getElem _).symm.trans ht)
  rw[tI] at hex;have RF:xe p.code t.pc=ii.rs:=by unfold xe;rw[hii]
  unfold gx at hex;rw[RF] at hex;have Yc:iz acc (t.pc+1)=iz acc (t.pc+1):=rfl;generalize Za:iz acc (t.pc+1)=bq at Yc;have Mo:=sy (t.pc+1) Nz;rw[Za] at Mo;refine qq<|ab.block<|qq<|qj fun K hK=>qi hH fm fun p26 Yp=>?_;refine aa.vy hH rfl (ev rfl) (by assumption) (by exact fm) (by assumption) rfl (ae rfl _) ?_;refine qa hH fun k10 st U4 hH=>?_;dsimp only[u2,u1,u3,u4,setMany,u5,u6,D.cells,Nat.reduceAdd,aC,aK,aJ,ay,dP] at hH;refine qS hH av fun st hH=>?_;dsimp only[u2,u1,u3,u4,setMany,u5,u6,D.cells,Nat.reduceAdd,aC,aK,aJ,ay,dP] at hH;refine qe hK ?_
  cases bG:iA ii.rs r with
  |false=>
   rw[bG,if_neg (by decide)] at hex;refine qq<|qj fun K hK=>qm ?_;refine qg ?_;refine qp (o:=0) ?_;refine qp (o:=0) ?_;refine ql hH qG ?_;refine qp (o:=0) ?_;refine ql hH av ?_;refine qr fun S1 CB=>?_;refine qf (fo:=3) fun Xw RT=>?_;refine qR ?_;refine qm ?_;refine qv (E_ (EN.rows hH) (by omega)) ?_;refine qm ?_;refine qs ?_ (hg:=wn bG);refine qs ?_ (hg:=wn bG);refine qs ?_ (hg:=wn bG);refine qs ?_ (hg:=wn bG);refine qs ?_ (hg:=wn bG);refine qs ?_ (hg:=wn bG);refine qs ?_ (hg:=wn bG);refine qs ?_ (hg:=wn bG);refine qu bG ?_;refine qe hK<|qC ?_;refine ab.skip<|qj fun K hK=>qA ?_;refine qm ?_;refine qe hK ?_;exact⟨mm-1,by omega,⟨j+1,acc,W.rdy.drop (j+1),td,pd,qd,P,Q,sn,rfl,(hH.drop 1),by omega,rfl,hex,by omega,bA,gj,sy⟩⟩
  |true=>
   rw[bG,if_pos rfl] at hex;have hex:gx p.code r (W.rdy.drop (j+1)) (if iz acc (t.pc+1)=true then acc else acc++[⟨t.pc+1,t.c⟩])=A:=hex;rw[Za] at hex;have ng:t.pc+1<sn.length:=by omega
   refine qq<|qj fun K hK=>qm ?_;refine qg ?_;refine qp (o:=0) ?_;refine qp (o:=0) ?_;refine ql hH qG ?_;refine qp (o:=0) ?_;refine ql hH av ?_;refine qr fun S1 CB=>?_;refine qf (fo:=3) fun Xw RT=>?_;refine qR ?_;refine qm ?_;refine qv (E_ (EN.rows hH) (by omega)) ?_;refine qm ?_;refine qm ?_ (hg:=wi bG);refine qg ?_ (hg:=wi bG);refine qp (o:=4) ?_ (hg:=wi bG);refine ql hH qG ?_ (hg:=wi bG);refine qp (o:=0) ?_ (hg:=wi bG);refine ql hH av ?_ (hg:=wi bG);refine qA ?_ (hg:=wi bG);obtain⟨_,st,aL,rfl,pd,qd,P,Q,hH,bA⟩:=oD [_,_,_,_,_,_] hF Mo bA hH;dsimp only[u3,u4] at hH;refine qv aL ?_ (hg:=wi bG);refine qt bG ?_;refine qe hK ?_
   cases bq with
   |true=>
    rw[if_pos rfl] at hex;refine qC ?_;refine ab.skip<|qj fun K hK=>qA ?_;refine qm ?_;refine qe hK ?_;refine⟨mm-1,by omega,⟨j+1,acc,W.rdy.drop (j+1),td,pd,qd,P,Q,sn.set (t.pc+1) true,rfl,(hH.drop 1),by omega,rfl,hex,by omega,bA,by rw[List.length_set];exact gj,?_⟩⟩;intro k hk
    by_cases hkk:k=t.pc+1
    ·subst hkk;rw[List.getElem?_set_self ng,Za]
    ·rw[List.getElem?_set_ne (fun e=>hkk e.symm)];exact sy k hk
   |false=>
    rw[if_neg (by decide)] at hex;refine qB ?_;refine qq<|qj fun K hK=>qp (o:=0) ?_;refine ql hH av ?_;refine qA ?_;refine qp (o:=0) ?_;refine qT hH av fun st hH=>?_;dsimp only[u2,u1,u3,u4,setMany,u5,u6,D.cells,Nat.reduceAdd,aC,aK,aJ,ay,dP] at hH;refine qe hK<|qj fun K hK=>qp (o:=11) ?_;refine ql hH bh ?_;refine aa.aF (m:=11) hH rfl (ev rfl) (by exact av) (by dsimp only[List.drop_succ_cons,List.drop_zero,List.take_succ_cons,List.take_zero,aC,aK,aJ,ay,dP]<;>rfl) rfl rfl (ae rfl _) ?_;refine qh (s:=11) (vs:=[_]) hH fun k57 st abC hH=>?_;refine aa.bL (s:=11) hH rfl (ev rfl) (ev rfl) (by exact fm) (by exact hH.rows (by exact av)) rfl rfl rfl rfl rfl rfl rfl ⟨(Nat.le_of_ble_eq_true rfl),(Nat.le_of_ble_eq_true rfl)⟩ (fun _=>(ae rfl _)) (by simp only[List.length_cons,List.length_nil,List.length_map]<;>omega) (by exact .inl hF) (fun x58 st hH=>?_);dsimp only[u2,u1,u3,u4,setMany,u5,u6,D.cells,Nat.reduceAdd,aC,aK,aJ,ay,dP] at hH;refine qp (o:=11) ?_;refine qT hH dF (fun st hH=>?_) (iy:=hH.eJ fm);dsimp only[u2,u1,u3,u4,setMany,u5,u6,D.cells,Nat.reduceAdd,aC,aK,aJ,ay,dP] at hH;refine qe hK<|qj fun K hK=>qA ?_;refine qm ?_;refine qe hK ?_;refine⟨mm-1,by omega,⟨j+1,acc++[⟨t.pc+1,t.c⟩],W.rdy.drop (j+1),x58,pd,qd,P,Q,sn.set (t.pc+1) true,rfl,(by rw[List.map_append];exact hH.drop 2),by omega,rfl,hex,by simp;omega,bA,by rw[List.length_set];exact gj,?_⟩⟩;intro k hk;rw[sF]
    by_cases hkk:k=t.pc+1
    ·subst hkk;rw[List.getElem?_set_self ng];simp
    ·rw[List.getElem?_set_ne (fun e=>hkk e.symm),sy k hk];have:(t.pc+1==k)=false:=by rw[beq_eq_false_iff_ne];omega
     simp only[this,Bool.or_false]
 ·refine ab.exit ?_;have vZ:rest=[]:=by rw[kV,List.drop_eq_nil_iff];omega
  subst vZ;have hex:acc=A:=hex;subst hex;clear hA kV;have Mo:=sy start Rz;refine qq<|qq<|ab.kE (fun fr st=>∃(bB:List iS) (td pd qd:D) (P Q:List Nat) (sn:List Bool) (tmp:List (Nat×D)),fr=⟨25,[bU fr 0,bU fr 1,bU fr 2,bU fr 3,bU fr 4,bU fr 5,.ptr k6 0 0,.ptr k7 0 0,bU fr 8,bU fr 9,bU fr 10,bU fr 11,bU fr 12,bU fr 13,bU fr 14,bU fr 15,bU fr 16,bU fr 17,bU fr 18,bU fr 19,bU fr 20,bU fr 21,bU fr 22,bU fr 23,bU fr 24],tmp⟩∧Has N S st (.box k7 (.mem 0 false (aJ W.dn W.aU td))::.aO td 11 (bB.map aK)::.box k6 (.mem 0 false (aJ false np .nul))::.aO rd 11 (W.rdy.map aK)::.box kv (.mem 0 false [p.cd,p.sd,.int .i64 (pl:Nat),ld,.ptr ks 0 0])::.box ks (.mem 0 false [pd,qd])::.aO pd 1 (P.map gL)::.aO qd 2 (Q.map ov)::.aO ld 12 (L.map dP)::(L.map pX++H))∧(bB=(if W.dn=true then acc else lf acc ⟨start,bX⟩))∧(dC P Q sn)∧(sn.length=p.code.length)) ?_ ?_
  ·cases Vd:W.dn with
   |true=>
    rw[Vd] at hH;have aR:(!true)=false:=rfl;refine qj fun K hK=>qp (o:=0) ?_;refine ql hH av ?_;refine qg ?_;refine qm ?_;refine qs ?_ (hg:=wn aR);refine qs ?_ (hg:=wn aR);refine qs ?_ (hg:=wn aR);refine qs ?_ (hg:=wn aR);refine qs ?_ (hg:=wn aR);refine qs ?_ (hg:=wn aR);refine qs ?_ (hg:=wn aR);refine qs ?_ (hg:=wn aR);refine qs ?_ (hg:=wn aR);refine qs ?_ (hg:=wn aR);refine qs ?_ (hg:=wn aR);refine qs ?_ (hg:=wn aR);refine qs ?_ (hg:=wn aR);refine qu aR ?_;refine qe hK<|qC ?_;refine ab.skip ?_;exact⟨acc,td,pd,qd,P,Q,sn,_,rfl,hH,rfl,bA,gj⟩
   |false=>
    rw[Vd] at hH;have aR:(!false)=true:=rfl;refine qj fun K hK=>qp (o:=0) ?_;refine ql hH av ?_;refine qg ?_;refine qm ?_;refine qm ?_ (hg:=wi aR);refine qg ?_ (hg:=wi aR);refine qp (o:=4) ?_ (hg:=wi aR);refine ql hH gH ?_ (hg:=wi aR);refine qm ?_ (hg:=wi aR);refine qg ?_ (hg:=wi aR);refine qp (o:=0) ?_ (hg:=wi aR);refine qp (o:=1) ?_ (hg:=wi aR);refine ql hH gH ?_ (hg:=wi aR);refine qm ?_ (hg:=wi aR);refine qr (fun p75 aa5=>?_) (hg:=wi aR);refine qR ?_ (hg:=wi aR);obtain⟨_,st,aL,rfl,pd,qd,P,Q,hH,bA⟩:=oD [_,_,_,_,_] hF Mo bA hH;dsimp only[u3,u4] at hH;refine qv aL ?_ (hg:=wi aR);refine qt aR ?_;refine qe hK ?_
    by_cases Bo:iz acc start=true
    ·refine qE rfl (by rw[Bo];rfl) ?_;refine ab.skip ?_;exact⟨acc,td,pd,qd,P,Q,sn.set start true,_,rfl,hH,by unfold lf;rw[if_neg (by decide),if_pos Bo],bA,by rw[List.length_set];exact gj⟩
    ·refine qD rfl (by rw[Bool.eq_false_iff.2 Bo];rfl) ?_;refine qj fun K hK=>qp (o:=11) ?_;refine ql hH av ?_;refine qm ?_;refine qg ?_;refine qp (o:=0) ?_;refine qp (o:=1) ?_;refine ql hH gH ?_;refine qm ?_;refine qr fun p87 Ye=>?_;refine qR ?_;refine qv (dB _) ?_;refine aa.go (d:=.agg (aK ⟨start,bX⟩)) (st1:=_) rfl rfl rfl (ae rfl _) ?_;refine qh (s:=11) (vs:=[_]) hH fun k91 st abr hH=>?_;dsimp only[u2,u1,u3,u4,setMany,u5,u6,D.cells,Nat.reduceAdd,aC,aK,aJ,ay,dP] at hH;refine aa.bL (s:=11) hH rfl (ev rfl) (ev rfl) (by exact dF) (by exact hH.rows (by exact av)) rfl rfl rfl rfl rfl rfl rfl ⟨(Nat.le_of_ble_eq_true rfl),(Nat.le_of_ble_eq_true rfl)⟩ (fun _=>(ae rfl _)) (by simp only[List.length_cons,List.length_nil,List.length_map]<;>omega) (by exact .inl hF) (fun x92 st hH=>?_);dsimp only[u2,u1,u3,u4,setMany,u5,u6,D.cells,Nat.reduceAdd,aC,aK,aJ,ay,dP] at hH;refine qp (o:=11) ?_;refine qT hH bh (fun st hH=>?_) (iy:=hH.eJ dF);dsimp only[u2,u1,u3,u4,setMany,u5,u6,D.cells,Nat.reduceAdd,aC,aK,aJ,ay,dP] at hH;refine qe hK ?_;exact⟨acc++[⟨start,bX⟩],x92,pd,qd,P,Q,sn.set start true,_,rfl,(by rw[List.map_append];exact hH.drop 1),by unfold lf;rw[if_neg (by decide),if_neg Bo],bA,by rw[List.length_set];exact gj⟩
  ·rintro fr st ⟨bB,td,pd,qd,P,Q,sn,tmp,hfr,hH,zQ,bA,gj⟩;rw[hfr];clear hfr;generalize bU fr=ee;clear fr;refine qq<|qj fun K hK=>?_;refine aa.aF (m:=12) hH rfl (ev rfl) (by exact av) (by dsimp only[List.drop_succ_cons,List.drop_zero,List.take_succ_cons,List.take_zero,aC,aK,aJ,ay,dP]<;>rfl) rfl rfl (ae rfl _) ?_;refine qS hH dF fun st hH=>?_;dsimp only[u2,u1,u3,u4,setMany,u5,u6,D.cells,Nat.reduceAdd,aC,aK,aJ,ay,dP] at hH;refine qe hK<|ab.ret ⟨rx,_,_,_,hH.l_ rfl dF rfl,rfl,td,rfl,pd,qd,P,Q,sn,?_,bA,gj⟩;rw[←zQ];exact((hH.drop 1).erase 1).erase 1
end Go.Proofs.YtbdnabmmlbiomaaGreat
