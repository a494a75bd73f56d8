/-
 What Compile makes is right; what its rules reach: the ends.
-/
import Derived.Test.YtbdnabmmlbiomaaXGQh
import Derived.Test.YtbdnabmmlbiomaaXM2
import Derived.DataReads
import Derived.ChangeOld
import GoSem.ClaimChange
import Derived.Below
import Derived.Test.YtbdnabmmlbiomaaRows
import Derived.Test.YtbdnabmmlbiomaaXGQa
import Derived.Test.YtbdnabmmlbiomaaXGUb
set_option maxRecDepth 100000
set_option linter.unusedSimpArgs false
set_option linter.unusedVariables false
set_option maxHeartbeats 4000000
set_option linter.unusedSectionVars false
set_option linter.unnecessarySimpa false
namespace Go.Proofs.Ytbdnabmmlbiomaa
open Go.V Go
theorem zr {lo hi u:Nat} {i:aK} (h:cZ lo hi i) (h1:lo≤u+1) (h2:u+1≤hi):∀v∈cF u i,(lo:Int)≤v∧v≤hi:=by
 intro v hv;unfold cF at hv
 rcases h with⟨a,_⟩|⟨a,_,c,d⟩|⟨a,_,_,d⟩|⟨a,_⟩|⟨a,_⟩
 ·rw[if_neg (by omega),if_neg (by omega),if_neg (by omega)] at hv;simp only[List.mem_cons,List.not_mem_nil,or_false] at hv;omega
 ·rw[if_pos a] at hv;simp only[List.mem_cons,List.not_mem_nil,or_false] at hv
  rcases hv with rfl|rfl<;>omega
 ·rw[if_neg (by omega),if_pos a] at hv;simp only[List.mem_cons,List.not_mem_nil,or_false] at hv;omega
 ·rw[if_neg (by omega),if_neg (by omega),if_neg (by omega)] at hv;simp only[List.mem_cons,List.not_mem_nil,or_false] at hv;omega
 ·rw[if_neg (by omega),if_neg (by omega),if_neg (by omega)] at hv;simp only[List.mem_cons,List.not_mem_nil,or_false] at hv;omega
theorem uZ {lo hi n ns pc:Nat} {i:aK} (h:cZ lo hi i) (h1:hi<n) (h2:pc+1<n):cJ n ns pc i=true:=by
 have GL:∀v:Int,(lo:Int)≤v→v≤hi→o5 v n=true:=fun v a b=>dK.2 ⟨by omega,by omega⟩;have hd:decide (((pc+1:Nat):Int)<n)=true:=by rw[decide_eq_true_eq];omega
 unfold cJ
 rcases h with⟨a,b,c,d⟩|⟨a,b,c,d⟩|⟨a,b,c,d⟩|⟨a,b,c,d⟩|⟨a,b,c,d⟩
 ·rw[if_pos a,hd,b,c,d];rfl
 ·rw[if_neg (by omega),if_pos a,b,GL _ c.1 c.2,GL _ d.1 d.2];rfl
 ·rw[if_neg (by omega),if_neg (by omega),if_pos a,b,c,GL _ d.1 d.2];rfl
 ·rw[if_neg (by omega),if_neg (by omega),if_neg (by omega),if_pos a,b,c,hd,dK.2 ⟨d.1,d.2⟩];rfl
 ·rw[if_neg (by omega),if_neg (by omega),if_neg (by omega),if_neg (by omega),if_pos a,b,c,hd,d];rfl
theorem mw {t:Tr} {b r o:Nat} {q:aK} (h1:t.ok) (h2:Ch t.flat) (h:(er t b r)[o]?=some q):(o<t.sz+2∧cZ b (b+t.sz+2) q)∨(o=t.sz+2∧q=cS 7 (r:Nat) 0 []):=by
 have hl:=ct t (b+1) h1;have hA:er t b r=(cS 4 0 0 []::(aS t (b+1)++[cS 4 1 0 []]))++[cS 7 (r:Nat) 0 []]:=by unfold er;simp
 have WK:(cS 4 0 0 []::(aS t (b+1)++[cS 4 1 0 []])).length=t.sz+2:=by simp[hl]
 rw[hA] at h
 by_cases ho:o<t.sz+2
 ·rw[List.getElem?_append_left (by omega)] at h;refine .inl ⟨ho,?_⟩;have hm:=List.mem_of_getElem? h
  rcases List.mem_cons.1 hm with rfl|hm
  ·exact cZ.save (by omega)
  ·rcases List.mem_append.1 hm with hm|hm
   ·exact(jz t (b+1) h1 h2 q hm).mono (by omega) (by omega)
   ·simp only[List.mem_cons,List.not_mem_nil,or_false] at hm;subst hm;exact cZ.save (by omega)
 ·rw[List.getElem?_append_right (by omega),WK] at h;have h0:=bj h;simp only[List.length_cons,List.length_nil] at h0;have rD:o=t.sz+2:=by omega
  refine .inr ⟨rD,?_⟩;rw[rD,Nat.sub_self] at h;exact(Option.some.inj h).symm
structure N5 (p:Pg) (r s e:Nat):Prop where
 st:p.az[r]?=some (s:Int)
 se:s<e
 el:e≤p.code.length
 nx:∀b':Int,p.az[r+1]?=some b'→b'=(e:Int)
 la:r+1=p.az.length→p.code.length=e
 mt:p.code[e-1]?=some (cS 7 (r:Nat) 0 [])
 fi:(oH p (r:Nat))[0]?=some (s:Int)
 lt:(oH p (r:Nat))[(oH p (r:Nat)).length-1]?=some ((e-1:Nat):Int)
theorem yQ {X:List Int} {a b:Int} (hp:X.Pairwise (·<·)) (ha:a∈X) (hb:b∈X) (h:∀v∈X,a≤v∧v≤b):X[0]?=some a∧X[X.length-1]?=some b:=by
 obtain⟨i,hi⟩:=List.getElem?_of_mem ha;obtain⟨j,hj⟩:=List.getElem?_of_mem hb;have hil:=bj hi;have kC:=bj hj
 have hlt:∀u v (x y:Int),u<v→X[u]?=some x→X[v]?=some y→x<y:=fun u v x y UN hx hy=>by
  have:=List.pairwise_iff_getElem.1 hp u v (bj hx) (bj hy) UN;have ex:X[u]'(bj hx)=x:=Option.some.inj ((List.getElem?_eq_getElem _).symm.trans hx);have ey:X[v]'(bj hy)=y:=Option.some.inj ((List.getElem?_eq_getElem _).symm.trans hy);rw[ex,ey] at this;exact this
 constructor
 ·obtain⟨x,hx⟩:∃x,X[0]?=some x:=⟨X[0]'(by omega),List.getElem?_eq_getElem _⟩
  have:=h x (List.mem_of_getElem? hx)
  by_cases h0:i=0
  ·rw[←h0];exact hi
  ·have:=hlt 0 i x a (by omega) hx hi;omega
 ·obtain⟨x,hx⟩:∃x,X[X.length-1]?=some x:=⟨X[X.length-1]'(by omega),List.getElem?_eq_getElem _⟩
  have:=h x (List.mem_of_getElem? hx)
  by_cases h0:j=X.length-1
  ·rw[←h0];exact hj
  ·have:=hlt j (X.length-1) b x (by omega) hj hx;omega
theorem wg {parts:List (List dr)} (hl:parts.length≤8) (he:(bn parts).e=0) (hcl:(bn parts).code.length≤400):
  bW (oc (bn parts).code (bn parts).az)∧(bn parts).az.length=parts.length∧∀r,r<parts.length→∃s e,N5 (oc (bn parts).code (bn parts).az) r s e:=by
 have gG:bn parts=ez parts 0 [] []:=by unfold bn;rw[if_neg (by omega)]
 rw[gG] at he hcl⊢;obtain⟨C,B,h1,h2,h3⟩:=pD parts 0 [] [] he;simp only[List.nil_append] at h1 h2;simp only[List.length_nil] at h3;rw[h1] at hcl;rw[h1,h2];have Ow:=h3.bl
 have hsh:∀pc i,C[pc]?=some i→cJ C.length B.length pc i=true:=by
  intro pc i hi;obtain⟨j,q1,t,b,q2,q3,q4,q5,q6,q7,q8,q9⟩:=h3.al pc i hi;rw[Nat.zero_add] at q9
  rcases mw q3 q4 q9 with⟨g1,g2⟩|⟨g1,g2⟩
  ·exact uZ g2 (by omega) (by omega)
  ·rw[g2];have:o5 ((j:Nat):Int) B.length=true:=dK.2 ⟨by omega,by omega⟩;unfold cJ cS;simp[this]
 have NF:iy C:=mU (p:=oc C B) hsh
 have Bj:∀r,r<parts.length→∃s e:Nat,B[r]?=some (s:Int)∧s<e∧e≤C.length∧(∀b':Int,B[r+1]?=some b'→b'=(e:Int))∧(r+1=parts.length→C.length=e)∧C[e-1]?=some (cS 7 (r:Nat) 0 [])∧(∀u:Nat,(cv C (s:Nat))[u]?=some true→s≤u∧u<e)∧(cv C (s:Nat))[s]?=some true∧(cv C (s:Nat))[e-1]?=some true∧∀u i,s≤u→u<e→C[u]?=some i→i.op=7→i.x=(r:Int):=by
  intro r hr;obtain⟨t,b,q1,q2,q3,q4,q5,q6,pre,post,q7,q8⟩:=h3.el r hr;rw[Nat.zero_add] at q6 q8;rw[Nat.zero_add] at q7;have rC:=ki (b:=b) (r:=r) q1;have LD:C.length=b+(t.sz+3)+post.length:=by rw[q7,List.length_append,List.length_append,rC,q8]
  have ic:∀u,b≤u→u<b+t.sz+3→C[u]?=(er t b r)[u-b]?:=fun u g1 g2=>by
   rw[q7,List.append_assoc,List.getElem?_append_right (by omega),q8,List.getElem?_append_left (by omega)]
  have jr:fc C b (er t b r):=⟨post,by rw[q7,List.append_assoc,←q8,List.drop_left]⟩
  have GL:∀u:Nat,(cv C (b:Nat))[u]?=some true→b≤u∧u<b+t.sz+3:=by
   unfold cv;refine wR (I:=fun u=>b≤u∧u<b+t.sz+3) (fun u i hu hi v hv=>?_) _ _ _ (fun v hv=>?_) (fun u hu=>?_)
   ·rw[ic u hu.1 hu.2] at hi
    rcases mw q1 q2 hi with⟨g1,g2⟩|⟨g1,g2⟩
    ·have:=zr (u:=u) g2 (by omega) (by omega) v hv;omega
    ·rw[g2] at hv;have:cF u (cS 7 (r:Nat) 0 [])=[]:=by unfold cF cS;simp
     rw[this] at hv;cases hv
   ·simp only[List.mem_cons,List.not_mem_nil,or_false] at hv;subst hv;rw[Int.toNat_natCast];omega
   ·rw[List.getElem?_replicate] at hu
    split at hu<;>cases hu
  have hs:=uc (s:=b) NF (by omega)
  have Vz:C[b+t.sz+3-1]?=some (cS 7 (r:Nat) 0 []):=by
   rw[ic _ (by omega) (by omega)];unfold er;have pZ:=ct t (b+1) q1;rw[show b+t.sz+3-1-b=(t.sz+1)+1 by omega,List.getElem?_cons_succ,List.getElem?_append_right (by omega),pZ,show t.sz+1-t.sz=1 by omega]
   rfl
  have MU:Path C b (b+t.sz+3-1):=by
   unfold er at jr;have p1:Path C b (b+1):=Path.wM jr.head (by show(4:Int)≠2∧(4:Int)≠3∧(4:Int)≠7;decide);have p2:=zG (C:=C) _ t (Nat.le_refl _) (b+1) q1 jr.tail.left;have h4:=jr.tail.right;rw[ct t _ q1] at h4;have p3:Path C (b+1+t.sz) (b+1+t.sz+1):=Path.wM h4.head (by show(4:Int)≠2∧(4:Int)≠3∧(4:Int)≠7;decide);rw[show b+t.sz+3-1=b+1+t.sz+1 by omega];exact p1.trans (p2.trans p3)
  refine⟨b,b+t.sz+3,q3,by omega,by omega,fun b' dL=>q5 b' dL,q6,Vz,GL,hs,yW NF ⟨by omega,by omega⟩ MU hs,fun u i g1 g2 hi ho=>?_⟩;rw[ic u g1 g2] at hi
  rcases mw q1 q2 hi with⟨_,g3⟩|⟨_,g3⟩
  ·rcases g3 with⟨a,_⟩|⟨a,_⟩|⟨a,_⟩|⟨a,_⟩|⟨a,_⟩<;>omega
  ·rw[g3];rfl
 have hR:bW (oc C B):=by
  refine⟨hcl,by show B.length≤8;omega,hsh,fun v hv=>?_,fun r s hs pc i FP MJ hi ho=>?_⟩
  ·obtain⟨r,hr⟩:=List.getElem?_of_mem (show v∈B from hv);obtain⟨s,e,g1,g2,g3,_⟩:=Bj r (by rw[←Ow];exact bj hr);rw[g1] at hr;cases hr;show(0:Int)≤(s:Int)∧(s:Int)<(C.length:Int);omega
  ·have hs:B[r]?=some s:=hs;obtain⟨s',e,g1,g2,g3,g4,g5,g6,g7,g8,g9,g10⟩:=Bj r (by rw[←Ow];exact bj hs);rw[g1] at hs;cases hs;obtain⟨k1,k2⟩:=g7 pc MJ;exact g10 pc i k1 k2 hi ho
 refine⟨hR,by rw[Ow],fun r hr=>?_⟩;obtain⟨s,e,g1,g2,g3,g4,g5,g6,g7,g8,g9,g10⟩:=Bj r hr
 have S6:oH (oc C B) (r:Nat)=oP 0 (cv C (s:Nat)):=by
  unfold oH;have hi:o5 ((r:Nat):Int) (oc C B).az.length=true:=dK.2 ⟨by omega,by show((r:Nat):Int)<(B.length:Nat);omega⟩;rw[lU hR,hi]
  have wD:(oc C B).az.getD ((r:Nat):Int).toNat 0=(s:Int):=by
   rw[Int.toNat_natCast,List.getD_eq_getElem?_getD];show(B[r]?).getD 0=_;rw[g1];rfl
  rw[wD];rfl
 have GN:=yQ (qX (cv C (s:Nat)) 0) (a:=(s:Int)) (b:=((e-1:Nat):Int)) (iQ.2 ⟨s,g8,by rw[Nat.zero_add]⟩) (iQ.2 ⟨e-1,g9,by rw[Nat.zero_add]⟩) (fun v hv=>by
  obtain⟨k,k1,k2⟩:=iQ.1 hv;have:=g7 k k1
  omega)
 exact⟨s,e,g1,g2,g3,fun b' dL=>g4 b' dL,fun hO=>g5 (by rw[←Ow];exact hO),g6,by rw[S6];exact GN.1,by rw[S6];exact GN.2⟩
def lb (fr:Go.V.Fr) (k:Nat):Go.V.D:=Go.V.nth .bw fr.loc k
theorem rR:∀(ls:List (List dr)) (r:Nat) (c:List aK) (s:List Int),(ez ls r c s).e≠0→(ez ls r c s).code=[]∧(ez ls r c s).az=[]
 |[],r,c,s,h=>by rw[mS] at h;exact absurd rfl h
 |l::ls,r,c,s,h=>by
  rw[ez] at h⊢
  split
  ·exact⟨rfl,rfl⟩
  ·rename_i h1;rw[if_neg h1] at h
   split
   ·exact⟨rfl,rfl⟩
   ·rename_i h2;rw[if_neg h2] at h;exact rR ls _ _ _ h
theorem nL {ls:List (List dr)} (h:(bn ls).e≠0):(bn ls).code=[]∧(bn ls).az=[]:=by
 unfold bn at h⊢
 split
 ·exact⟨rfl,rfl⟩
 ·rename_i h1;rw[if_neg h1] at h;exact rR _ _ _ _ h
theorem vN:bW (oc [] []):=⟨by simp[oc],by simp[oc],fun pc i h=>by simp[oc] at h,fun v h=>by simp[oc] at h,fun r s h=>by simp[oc] at h⟩
theorem qF {ls:List (List dr)} (hl:ls.length≤8) (hcl:(bn ls).code.length≤400):bW (oc (bn ls).code (bn ls).az):=by
 by_cases he:(bn ls).e=0
 ·exact(wg hl he hcl).1
 ·rw[(nL he).1,(nL he).2];exact vN
theorem y9 {s0:St} {x:D} {ps:List (List UInt8)} (hx:V.Rows s0 1 x (ps.map yG)) (hl:ps.length≤1048576) (hb:∀b∈ps,b.length≤1048576):∃d,Ev pv 8 [x] s0 d s0∧∃(p:Pg) (ok:Bool),d=.tup [p.d,.bool ok]∧p.ok∧bW p:=by
 refine Ev.Fu rfl WQ rfl rfl rfl ?_;dsimp only[u3,u4,List.length,Nat.reduceSub,Nat.reduceAdd,w1,w2];obtain⟨cM,hF,hH⟩:=ri s0;generalize ak .ro s0=S at*;have hx:=Arg.of hx cM;refine qq<|qj fun K hK=>qa hH fun k2 st hk2 hH=>?_;refine qm ?_;refine qe hK<|qq<|qj fun K hK=>qm ?_;refine qe hK<|qq<|qq<|qj fun K hK=>qm ?_;refine qe hK ?_;have hH:Has s0.bs.length S st (.aL .nul 1 (([]:List (List dr)).map dJ)::.box k2 (.mem 0 false [.nul,.nul])::[]):=hH.eB 1;refine af.block<|af.loop (fun mm fr st=>∃(i:Nat) (ld:D) (parts:List (List dr)),fr.clean=⟨11,[x,lb fr 1,.ptr k2 0 0,.bool false,ld,.int .i64 (i:Nat),lb fr 6,lb fr 7,lb fr 8,lb fr 9,lb fr 10],[]⟩∧Has s0.bs.length S st [.aL ld 1 (parts.map dJ),.box k2 (.mem 0 false [.nul,.nul])]∧(i+mm=8)∧(∀l∈parts,(∀n∈l,tH n)∧l.length≤500)∧(parts.length≤i)) (8) ?_ ?_
 ·exact⟨0,.nul,[],rfl,hH,by omega,fun l hl=>(by cases hl),by simp⟩
 rintro mm fr st ⟨i,ld,parts,hfr,hH,hi,hp,fF⟩;rw[hfr];clear hfr;generalize lb fr=ee;clear fr;refine qq<|qq<|af.jy 19 (.bool (decide (((i:Nat):Int)<((ps.length:Nat):Int)) &&decide (((i:Nat):Int)<8))) [] ?_ (fun ff tmp gh=>?_)
 ·refine qm ?_;refine qm ?_;refine qn ?_;simp only[List.length_map];refine qg ?_;refine qm ?_;refine ab.two 16 rfl (fun jw=>?_) (fun jw=>?_)
  ·refine qm ?_ (hg:=wi jw);refine qg ?_ (hg:=wi jw);refine qt jw ?_;refine ab.nil (cX ?_ ?_)
   ·dsimp only[aM,List.foldl,nth,u2,u1]
    all_goals(first|rfl|simp)
   ·dsimp only[Fr.aF,Fr.put,Fr.clean,Fr.ev,Fr.get,nth,V.look,u1,u2,v1,v2,v3,v4,v5,v6,v7,List.length,u3,u4,Nat.reduceSub,Nat.reduceAdd,List.map]
    all_goals(simp_all;done)
  ·refine qs ?_ (hg:=wn jw);refine qs ?_ (hg:=wn jw);refine qu jw ?_;refine ab.nil (cX ?_ ?_)
   ·dsimp only[aM,List.foldl,nth,u2,u1]
    all_goals(first|rfl|simp)
   ·dsimp only[Fr.aF,Fr.put,Fr.clean,Fr.ev,Fr.get,nth,V.look,u1,u2,v1,v2,v3,v4,v5,v6,v7,List.length,u3,u4,Nat.reduceSub,Nat.reduceAdd,List.map]
    all_goals(simp_all;omega)
 dsimp only[aM,List.foldl,nth,u2,u1];dsimp only[Fr.aF,Fr.put,Fr.clean,Fr.ev,Fr.get,nth,V.look,u1,u2,v1,v2,v3,v4,v5,v6,v7,List.length,u3,u4,Nat.reduceSub,Nat.reduceAdd,List.map]
 by_cases hlt:i<ps.length∧i<8
 ·obtain⟨b,KW⟩:∃b,ps[i]?=some b:=⟨ps[i]'hlt.1,List.getElem?_eq_getElem _⟩
  have hO:=Cy KW;have hbl:=hb b (List.mem_of_getElem? KW);have ye:(decide (((i:Nat):Int)<((ps.length:Nat):Int)) &&decide (((i:Nat):Int)<8))=true:=by rw[Bool.and_eq_true,decide_eq_true_eq,decide_eq_true_eq];omega
  rw[ye] at gh;refine qB ?_;refine af.skip<|qq<|af.block ?_;obtain⟨_,aO,l,e,w,rfl,hv,zV⟩:=AM (s0:=st) hbl;refine qq<|qj fun K hK=>qm ?_;refine qm ?_;refine qr fun N' FQ=>?_;refine qR ?_;refine qv (aO) ?_;refine qm ?_;refine qg ?_;refine qg ?_;refine qg ?_;refine qm ?_;refine qm ?_;refine qm ?_;refine qe hK<|qq<|qj fun K hK=>qm ?_;refine qg ?_;refine qe hK ?_;refine af.cond (by rfl) (fun he=>?_) (fun he=>?_)<;>try simp only[beq_iff_eq,beq_eq_false_iff_ne,ne_eq] at he
  ·refine qj fun K hK=>qm ?_;refine qm ?_;refine qh (s:=1) (vs:=[_]) hH fun k35 st Qi hH=>?_;refine ab.bZ (s:=1) hH rfl (ev rfl) (ev rfl) (by exact b4) (by exact hH.rows (by exact aB)) rfl rfl rfl rfl rfl rfl rfl ⟨(Nat.le_of_ble_eq_true rfl),(Nat.le_of_ble_eq_true rfl)⟩ (fun _=>(ae rfl _)) (by simp only[List.length_cons,List.length_nil,List.length_map]<;>omega) (by exact .inl hF) (fun TV st hH=>?_);dsimp only[u2,u1,u3,u4,setMany,u5,u6,D.cells,Nat.reduceAdd,dJ,nM,Pg.d,Pg.cs,oc] at hH;refine qm ?_;refine qe hK ?_;have hH:=hH.drop 1;refine qj fun K hK=>qm ?_;refine qA ?_;refine qm ?_;refine qe hK ?_;refine⟨mm-1,by omega,⟨i+1,TV,parts++[l],rfl,(by rw[List.map_append];exact hH),by omega,?_,by rw[List.length_append];simp only[List.length_cons,List.length_nil];omega⟩⟩;intro l' gF
   rcases List.mem_append.1 gF with gF|gF
   ·exact hp l' gF
   ·simp only[List.mem_cons,List.not_mem_nil,or_false] at gF;subst gF;exact⟨hv,zV⟩
  ·refine af.skip<|qj fun K hK=>qm ?_;refine qA ?_;refine qm ?_;refine qe hK ?_;exact⟨mm-1,by omega,⟨i+1,ld,parts,rfl,hH,by omega,hp,by omega⟩⟩
 ·have ye:(decide (((i:Nat):Int)<((ps.length:Nat):Int)) &&decide (((i:Nat):Int)<8))=false:=by
   rw[Bool.and_eq_false_iff,decide_eq_false_iff_not,decide_eq_false_iff_not];omega
  rw[ye] at gh;refine qC ?_;refine af.exit ?_;obtain⟨aO,ba,hlen⟩:=wY hp (by omega) (hH.rows aB);have hR:=qF (ls:=parts) (by omega) hlen;generalize bn parts=R at*;refine qq<|qj fun K hK=>qm ?_;refine qv (aO) ?_;refine qm ?_;refine qg ?_;refine qg ?_;refine qg ?_;refine qa hH fun k9 st VI hH=>?_;refine qS hH aB fun st hH=>?_;dsimp only[u2,u1,u3,u4,setMany,u5,u6,D.cells,Nat.reduceAdd,dJ,nM,Pg.d,Pg.cs,oc] at hH;refine qm ?_;refine qm ?_;refine qe hK<|qq<|qj fun K hK=>?_;refine ab.bf (m:=2) hH rfl (ev rfl) (by exact aB) (by dsimp only[List.drop_succ_cons,List.drop_zero,List.take_succ_cons,List.take_zero,dJ,nM,Pg.d,Pg.cs,oc]<;>rfl) rfl rfl (ae rfl _) ?_;refine qm ?_;refine qg ?_;refine qS hH cU fun st hH=>?_;dsimp only[u2,u1,u3,u4,setMany,u5,u6,D.cells,Nat.reduceAdd,dJ,nM,Pg.d,Pg.cs,oc] at hH;refine qm ?_;refine qe hK<|af.ret ⟨rx,_,_,hH.cN rfl cU rfl rfl,rl cM hH (show _=some (D.tup [(oc R.code R.az).d,.bool (R.e==0)]) from rfl),⟨_,_,rfl,ba,hR⟩⟩
end Go.Proofs.Ytbdnabmmlbiomaa
namespace Go.V
open Go.RowKit
def mL {H:Type}:DataW H→Bool
 | .agg _=>true
 |_=>false
mutual
def tG {H:Type}:DataW H→List D
 | .lit (.bool b)=>[.bool b]
 | .lit (.int k n)=>[.int k n]
 | .lit (.string l)=>[.str l]
 | .lit _=>[.bw]
 | .nil=>[.nul]
 | .slice elems _=>[.sl (tt elems)]
 | .agg parts=>j8 parts
 | .ptr _=>[.bw]
 | .iface _ _=>[.bw]
 | .map _=>[.bw]
 | .held _=>[.bw]
def tt {H:Type}:List (DataW H)→List D
 |[]=>[]
 |d::r=>(if mL d then .agg (tG d) else(tG d).headD .bw)::tt r
def j8 {H:Type}:List (DataW H)→List D
 |[]=>[]
 |d::r=>tG d++j8 r
end
def ie {H:Type} (d:DataW H):D:=if mL d then .agg (tG d) else(tG d).headD .bw
theorem pz {H:Type}:∀l:List (DataW H),tt l=l.map ie
 |[]=>rfl
 |d::r=>by simp only[tt,List.map_cons,pz r];rfl
def pC (P:Program):Nat→List Field→Option Nat
 |o,[]=>some o
 |o,f::fs=>if f.offset=o then pC P (o+P.cellsOf f.type) fs else none
def xQ (P:Program):Nat→TypeId→Bool
 |0,_=>false
 |n+1,t=>match P.underlying t with
  |some .bool=>true
  |some (.int _)=>true
  |some .string=>true
  |some (.slice e)=>xQ P n e &&decide (0<P.cellsOf e)
  |some (.struct fs)=>(pC P 0 fs.toList==some (P.cellsOf t)) &&fs.toList.all fun f=>xQ P n f.type
  |some (.array m e)=>xQ P n e &&(P.cellsOf t==m*P.cellsOf e)
  |_=>false
structure CR (w:World) (Z:Nat→Prop) (cs:List D) (vs:List Value):Prop where
 len:cs.length=vs.length
 one:∀v∈vs,v.oneCell'=true
 onec:∀c∈cs,c.cells?=some [c]
 rel:∀(i:Nat) c v,cs[i]?=some c→vs[i]?=some v→IR w Z c v
theorem CR.nil {w:World} {Z:Nat→Prop}:CR w Z [] []:=⟨rfl,by simp,by simp,by simp⟩
theorem CR.single {w:World} {Z:Nat→Prop} {c:D} {v:Value} (h:IR w Z c v) (h1:v.oneCell'=true) (h2:c.cells?=some [c]):CR w Z [c] [v]:=
 ⟨rfl,by simpa using h1,by simpa using h2,fun i c' v' hc hv=>by
  cases i with
  |zero=>simp at hc hv;subst hc;subst hv;exact h
  |succ i=>simp at hc⟩
theorem CR.append {w:World} {Z:Nat→Prop} {cs cs':List D} {vs LJ:List Value} (h:CR w Z cs vs) (g:CR w Z cs' LJ):CR w Z (cs++cs') (vs++LJ):=by
 refine⟨by simp[h.len,g.len],fun v hv=>?_,fun c hc=>?_,fun i c v hc hv=>?_⟩
 ·rcases List.mem_append.1 hv with hv|hv
  ·exact h.one v hv
  ·exact g.one v hv
 ·rcases List.mem_append.1 hc with hc|hc
  ·exact h.onec c hc
  ·exact g.onec c hc
 ·rw[List.getElem?_append] at hc hv;have:=h.len
  split at hc
  ·rw[if_pos (by omega)] at hv;exact h.rel i c v hc hv
  ·rw[if_neg (by omega)] at hv;rw[←this] at hv;exact g.rel _ c v hc hv
theorem ui {H:Type} {P:Program} {w:World} {Z:Nat→Prop} {f:Field→Option (DataW H×List MemPlace)} {cs:List Value}:∀{fs:List Field} {o e:Nat} {xs:List (DataW H×List MemPlace)},pC P o fs=some e→e≤cs.length→fs.mapM f=some xs→
  (∀g∈fs,∀x,f g=some x→CR w Z (tG x.1) ((cs.drop g.offset).take (P.cellsOf g.type)))→CR w Z (j8 (xs.map (·.1))) ((cs.drop o).take (e-o))∧o≤e
 |[],o,e,xs,hc,_,hm,_=>by
  simp[pC] at hc;subst hc;simp at hm;subst hm;simp[j8];exact CR.nil
 |g::fs,o,e,xs,hc,he,hm,hx=>by
  simp only[pC] at hc
  split at hc
  ·rename_i ho;rw[List.mapM_cons] at hm
   cases h1:f g with
   |none=>rw[h1] at hm;simp at hm
   |some x=>
    rw[h1] at hm
    cases h2:fs.mapM f with
    |none=>rw[h2] at hm;simp at hm
    |some ys=>
     rw[h2] at hm;simp at hm;subst hm;obtain⟨ih,hle⟩:=ui hc he h2 fun g' Wf=>hx g' (List.mem_cons_of_mem _ Wf);have hg:=hx g (List.mem_cons_self ..) x h1;rw[ho] at hg;refine⟨?_,by omega⟩;simp only[List.map_cons,j8]
     have:(cs.drop o).take (e-o)=(cs.drop o).take (P.cellsOf g.type)++(cs.drop (o+P.cellsOf g.type)).take (e-(o+P.cellsOf g.type)):=by
      rw[←List.drop_drop,show e-o=P.cellsOf g.type+(e-(o+P.cellsOf g.type)) by omega,List.take_add]
     rw[this];exact hg.append ih
  ·cases hc
theorem vb {H:Type} {w:World} {Z:Nat→Prop} {s:Nat} {f:Nat→Option (DataW H×List MemPlace)} {cs:List Value}:∀{m k:Nat} {xs:List (DataW H×List MemPlace)},(List.range' k m).mapM f=some xs→(k+m)*s≤cs.length→
  (∀i x,f i=some x→CR w Z (tG x.1) ((cs.drop (i*s)).take s))→CR w Z (j8 (xs.map (·.1))) ((cs.drop (k*s)).take (m*s))
 |0,k,xs,hm,_,_=>by simp at hm;subst hm;simp[j8];exact CR.nil
 |m+1,k,xs,hm,hl,hx=>by
  rw[List.range'_succ,List.mapM_cons] at hm
  cases h1:f k with
  |none=>rw[h1] at hm;simp at hm
  |some x=>
   rw[h1] at hm
   cases h2:(List.range' (k+1) m).mapM f with
   |none=>rw[h2] at hm;simp at hm
   |some ys=>
    rw[h2] at hm;simp at hm;subst hm;have ih:=vb h2 (by rw[show k+1+m=k+(m+1) by omega];exact hl) hx;simp only[List.map_cons,j8];rw[show(m+1)*s=s+m*s by rw[Nat.add_mul];omega,List.take_add,List.drop_drop,show k*s+s=(k+1)*s by rw[Nat.add_mul];omega];exact(hx k x h1).append ih
theorem cells_one {c:D} (h:c.cells?=some [c]):c.cells=[c]:=by
 cases c<;>first|rfl|cases h|(simp only[D.cells?,Option.some.injEq] at h;simpa only[D.cells] using h)
theorem vw (b off n:Nat):(⟨b,off,none⟩:Addr).add n=⟨b,off+n,none⟩:=by
 cases n<;>simp[Addr.add]
theorem nX {H:Type} {enc:TypeId×Value→H} {P:Program} {w:World} {spare:Nat→Bool} {held:Bool}:∀(fuel:Nat) (t:TypeId) (cs:List Value) (d:DataW H) (ps:List MemPlace) (n:Nat),DataW.trod enc P w 0 spare held fuel t cs=some (d,ps)→xQ P n t=true→
  CR w (fun b=>b<w.heap.size) (tG d) cs∧cs.length=(match P.underlying t with|some (.struct _)|some (.array _ _)=>P.cellsOf t|_=>1)∧(mL d=(match P.underlying t with|some (.struct _)|some (.array _ _)=>true|_=>false))
 |0,t,cs,d,ps,n,h,_=>by simp[DataW.trod] at h
 |fuel+1,t,cs,d,ps,0,h,ht=>by simp[xQ] at ht
 |fuel+1,t,cs,d,ps,n+1,h,ht=>by
  simp only[xQ] at ht;unfold DataW.trod at h
  cases hu:P.underlying t with
  |none=>rw[hu] at ht;simp at ht
  |some u=>
   rw[hu] at h ht
   cases u with
   |bool=>
    rcases cs with _|⟨v,_|⟨v2,cs⟩⟩<;>try(simp at h;done)
    cases v<;>simp at h
    obtain⟨rfl,rfl⟩:=h;exact⟨CR.single (.bool _) rfl rfl,rfl,rfl⟩
   |int k=>
    rcases cs with _|⟨v,_|⟨v2,cs⟩⟩<;>try(simp at h;done)
    cases v<;>simp at h
    obtain⟨⟨rfl,_⟩,rfl,rfl⟩:=h;exact⟨CR.single (.int _ _) rfl rfl,rfl,rfl⟩
   |string=>
    rcases cs with _|⟨v,_|⟨v2,cs⟩⟩<;>try(simp at h;done)
    cases v<;>simp at h
    rename_i b;obtain⟨_,rfl,rfl⟩:=h;refine⟨CR.single ?_ rfl rfl,rfl,rfl⟩;have:=IR.str (w:=w) (Z:=fun b=>b<w.heap.size) b.data.toList
    simpa using this
   |slice e=>
    simp only[Bool.and_eq_true,decide_eq_true_eq] at ht
    rcases cs with _|⟨v,_|⟨v2,cs⟩⟩<;>try(simp at h;done)
    cases v<;>try(simp at h;done)
    rename_i a len cap
    cases a with
    |none=>
     cases len<;>cases cap<;>simp at h
     obtain⟨rfl,rfl⟩:=h;exact⟨CR.single .nul rfl rfl,rfl,rfl⟩
    |some a=>
     simp only at h
     split at h
     ·rename_i hc;simp only[Option.bind_eq_some_iff,Option.map_eq_some_iff] at h;obtain⟨elems,he,rest,hr,hd⟩:=h;cases hd;refine⟨?_,rfl,rfl⟩;have hlen:elems.length=len:=by simpa using mapM_some_length he
      have hget:=mapM_some_get he
      have each:∀(i:Nat),i<len→∃x cs,elems[i]?=some x∧w.cells? 0 (a.add (i*P.cellsOf e)) (P.cellsOf e)=some cs∧CR w (fun b=>b<w.heap.size) (tG x.1) cs∧cs.length=P.cellsOf e∧(mL x.1=(match P.underlying e with|some (.struct _)|some (.array _ _)=>true|_=>false))∧cs.length=(match P.underlying e with|some (.struct _)|some (.array _ _)=>P.cellsOf e|_=>1):=by
       intro i hi;have h1:=hget i i (by simp[hi]);have h2:elems[i]?=some (elems[i]'(by omega)):=List.getElem?_eq_getElem _;rw[h2] at h1;obtain⟨cs,gG,hx⟩:=Option.bind_eq_some_iff.1 h1;obtain⟨q1,q2,q3⟩:=nX fuel e cs _ _ n hx ht.1;exact⟨_,cs,h2,gG,q1,(World.cells?_some gG).2.1,q3,q2⟩
      refine CR.single ?_ rfl rfl
      cases len with
      |zero=>
       have:elems=[]:=by cases elems with|nil=>rfl|cons _ _=>simp at hlen
       subst this;exact .emp _ _
      |succ m=>
       have S5:a.spot=none∧a.block<w.heap.size:=by
        obtain⟨x,cs,_,h2,_,_⟩:=each 0 (by omega);refine⟨?_,?_⟩
        ·have:=(World.cells?_some h2).2.2 0 ht.2;have hl:=(World.cells?_some h2).2.1
         obtain⟨c0,QL⟩:∃c0,cs[0]?=some c0:=⟨cs[0]'(by omega),List.getElem?_eq_getElem _⟩
         rw[QL] at this
         simpa[Addr.add] using World.cell?_spot this
        ·simpa[Addr.add] using World.cells?_block h2 ht.2
       obtain⟨b,off,spot⟩:=a;simp only at S5;obtain⟨rfl,hb⟩:=S5
       have hcell:∀(i j:Nat),i<m+1→j<P.cellsOf e→∃x cs v,elems[i]?=some x∧cs[j]?=some v∧w.cell? ⟨b,off+(i*P.cellsOf e+j),none⟩=some v∧CR w (fun b=>b<w.heap.size) (tG x.1) cs:=by
        intro i j hi hj;obtain⟨x,cs,h1,h2,h3,h4,_⟩:=each i hi;have:=(World.cells?_some h2).2.2 j hj
        obtain⟨v,hv⟩:∃v,cs[j]?=some v:=⟨cs[j]'(by omega),List.getElem?_eq_getElem _⟩
        rw[hv] at this;refine⟨x,cs,v,h1,hv,?_,h3⟩;rw[←this,vw,vw,Nat.add_assoc]
       have wE:(tt (elems.map (·.1)))=elems.map fun x=>ie x.1:=by rw[pz,List.map_map];rfl
       have hE:∀(i:Nat) q,(tt (elems.map (·.1)))[i]?=some q→∃x cs,i<m+1∧elems[i]?=some x∧q.cells?=some q.cells∧q.cells=tG x.1∧CR w (fun b=>b<w.heap.size) (tG x.1) cs∧cs.length=P.cellsOf e:=by
        intro i q hq;rw[wE,List.getElem?_map] at hq;obtain⟨x,hx,rfl⟩:=Option.map_eq_some_iff.1 hq
        have hi:i<m+1:=by
         rcases Nat.lt_or_ge i (m+1) with h'|h'
         ·exact h'
         ·rw[List.getElem?_eq_none (by omega)] at hx;cases hx
        obtain⟨x',cs,h1,h2,h3,h4,h5,h6⟩:=each i hi;rw[hx] at h1;cases h1;refine⟨x,cs,hi,hx,?_,?_,h3,h4⟩
        ·unfold ie
         split
         ·rfl
         ·rename_i KD
          have pZ:(tG x.1).length=1:=by
           rw[h3.len,h6];rw[h5] at KD
           revert KD
           split<;>simp
          match hd:tG x.1,pZ with
          |[c],_=>have:=h3.onec c (by rw[hd];simp);simp only[List.headD_cons];rw[cells_one this];exact this
        ·unfold ie
         split
         ·rfl
         ·rename_i KD
          have pZ:(tG x.1).length=1:=by
           rw[h3.len,h6];rw[h5] at KD
           revert KD
           split<;>simp
          match hd:tG x.1,pZ with
          |[c],_=>have:=h3.onec c (by rw[hd];simp);simp only[List.headD_cons];exact cells_one this
       have hL:(tt (elems.map (·.1))).length=m+1:=by rw[wE];simp[hlen]
       have hf:=fun(i j:Nat) (hi:i<m+1) (hj:j<P.cellsOf e)=>hcell i j hi hj;have:=IR.sl (w:=w) (Z:=fun b=>b<w.heap.size) (tt (elems.map (·.1))) b off cap (P.cellsOf e) (fun i j=>(w.cell? ⟨b,off+(i*P.cellsOf e+j),none⟩).getD undef) hb (by rw[hL];exact hc.2.1)
        (fun i q hq=>by
         obtain⟨x,cs,h1,h2,h3,h4,h5,h6⟩:=hE i q hq
         exact⟨h3,by rw[h4,h5.len,h6]⟩)
        (fun i q j c hq hj=>by
         obtain⟨x,cs,h1,h2,h3,h4,h5,h6⟩:=hE i q hq
         have kC:j<P.cellsOf e:=by
          rcases Nat.lt_or_ge j (P.cellsOf e) with h'|h'
          ·exact h'
          ·rw[h4,List.getElem?_eq_none (by rw[h5.len,h6];exact h')] at hj;cases hj
         obtain⟨x',cs',v,g1,g2,g3,g4⟩:=hf i j h1 kC;rw[g3]
         exact⟨rfl,g4.one v (List.mem_of_getElem? g2)⟩)
        (fun i q j c hq hj=>by
         obtain⟨x,cs,h1,h2,h3,h4,h5,h6⟩:=hE i q hq
         have kC:j<P.cellsOf e:=by
          rcases Nat.lt_or_ge j (P.cellsOf e) with h'|h'
          ·exact h'
          ·rw[h4,List.getElem?_eq_none (by rw[h5.len,h6];exact h')] at hj;cases hj
         obtain⟨x',cs',v,g1,g2,g3,g4⟩:=hf i j h1 kC;rw[g3];rw[h2] at g1;cases g1
         exact g4.rel j c v (by rw[←h4];exact hj) g2)
       rw[hL] at this;exact this
     ·cases h
   |struct fs=>
    simp only[Bool.and_eq_true,beq_iff_eq,List.all_eq_true] at ht;simp only at h
    split at h
    ·rename_i hl;obtain⟨xs,hx,hd⟩:=Option.map_eq_some_iff.1 h;cases hd;refine⟨?_,hl,rfl⟩;obtain⟨h1,_⟩:=ui (w:=w) (Z:=fun b=>b<w.heap.size) (cs:=cs) ht.1 (by omega) hx fun g hg x Wd=>(nX fuel g.type _ _ _ n Wd (ht.2 g hg)).1;rw[List.drop_zero,Nat.sub_zero,←hl,List.take_length] at h1;exact h1
    ·cases h
   |array m e=>
    simp only[Bool.and_eq_true,beq_iff_eq] at ht;simp only at h
    split at h
    ·rename_i hl;obtain⟨xs,hx,hd⟩:=Option.map_eq_some_iff.1 h;cases hd;refine⟨?_,hl,rfl⟩;rw[List.range_eq_range'] at hx;have h1:=vb (w:=w) (Z:=fun b=>b<w.heap.size) (s:=P.cellsOf e) (cs:=cs) hx (by rw[Nat.zero_add,←ht.2,hl];exact Nat.le_refl _) fun i x Oj=>(nX fuel e _ _ _ n Oj ht.1).1;rw[Nat.zero_mul,List.drop_zero,←ht.2,←hl,List.take_length] at h1;exact h1
    ·cases h
   |_=>simp at ht
theorem xr {H:Type} {enc:TypeId×Value→H} {P:Program} {w:World} {spare:Nat→Bool} {held:Bool} {r:Reach} {base:Nat} {t:TypeId} {v:Value} {d:DataW H} {ps:List MemPlace} {n:Nat} (h:DataW.Trod enc P w 0 spare held t v d ps) (ht:xQ P n t=true) (hv:Value.okWide P w r base t v):
  IR w (fun b=>b<w.heap.size) (ie d) v:=by
 obtain⟨fuel,hf⟩:=h;obtain⟨h1,h2,h3⟩:=nX fuel t _ d ps n hf ht
 have hu:∃u,P.underlying t=some u:=by
  cases n with
  |zero=>simp[xQ] at ht
  |succ n=>
   simp only[xQ] at ht
   cases hu:P.underlying t with
   |none=>rw[hu] at ht;simp at ht
   |some u=>exact⟨u,rfl⟩
 obtain⟨u,hu⟩:=hu;unfold Value.okWide at hv;rw[hu] at hv h2 h3
 have NM:(∃cs:Array Value,v=.agg cs)→mL d=true→IR w (fun b=>b<w.heap.size) (ie d) v:=by
  rintro⟨cs,rfl⟩ hd;unfold ie;rw[if_pos hd];have:=IR.agg (w:=w) (Z:=fun b=>b<w.heap.size) (tG d) cs.toList (by simpa[Value.cells] using h1.len) (by simpa[Value.cells] using h1.one) (by simpa[Value.cells] using h1.rel)
  simpa using this
 have jt:mL d=false→v.cells.toList.length=1→(∀cs,v≠.agg cs)→IR w (fun b=>b<w.heap.size) (ie d) v:=by
  intro hd hl KD;unfold ie;rw[if_neg (by rw[hd];simp)]
  have hc:v.cells.toList=[v]:=by cases v<;>first|rfl|exact absurd rfl (KD _)
  rw[hc] at h1
  match hq:tG d,h1.len with
  |[c],_=>exact h1.rel 0 c v (by rw[hq];rfl) rfl
 have hcell:Cell.okWide P w r base t v→∀cs,v≠.agg cs:=by
  rintro hc cs rfl;unfold Cell.okWide at hc;rw[hu] at hc;cases u<;>simp[Cell.ok,hu] at hc
 cases u with
 |struct fs=>obtain⟨cs,h,_⟩:=hv;exact NM ⟨cs,h⟩ h3
 |array m e=>obtain⟨cs,h,_⟩:=hv;exact NM ⟨cs,h⟩ h3
 |_=>exact jt h3 h2 (hcell hv)
end Go.V
namespace Go.V
open Go.RowKit
theorem xb {H:Type} {enc:TypeId×Value→H} {P:Program} {w:World} {spare:Nat→Bool} {held:Bool} {t:TypeId} {v:Value} {d:DataW H} {ps:List MemPlace} (h:DataW.Trod enc P w 0 spare held t v d ps) (ht:P.underlying t=some .string):
  ∃l:List UInt8,ie d=.str l∧d=.lit (.string l):=by
 obtain⟨fuel,h⟩:=h
 cases fuel with
 |zero=>simp[DataW.trod] at h
 |succ fuel=>
  unfold DataW.trod at h;rw[ht] at h;generalize v.cells.toList=cs at h
  rcases cs with _|⟨v,_|⟨v2,cs⟩⟩<;>try(simp at h;done)
  cases v<;>simp at h
  obtain⟨_,rfl,_⟩:=h;exact⟨_,rfl,rfl⟩
theorem za {pv:Pv} {P:Program} (h:pv.Ok P∧pv.gU∧gp P pv (dH pv)) {f:Nat} {ds:List D} {ah:St} (hs:Ev pv f ds ⟨[],0,0⟩ (.bool true) ah) {w:World} {us:List Value} (hl:ds.length=us.length)
  (hr:∀(i:Nat) c v,ds[i]?=some c→us[i]?=some v→IR w (fun b=>b<w.heap.size) c v):Calls P f us.toArray w fun e w'=>e=.returned (.bool true)∧Below w.heap.size w w':=by
 obtain⟨N,hN⟩:=Ev.out hs;refine(sound h (hN N (Nat.le_refl _)) (w:=w) (Z:=fun b=>b<w.heap.size) (fun _ h=>h) hl hr).mono fun e w'=>?_;rintro⟨v,β',Z',rfl,he,hv⟩;rw[dF hv];exact⟨rfl,⟨he.os,he.tape,he.output,he.size,fun k hk=>he.block k hk fun f=>f⟩⟩
end Go.V
namespace Go.V
open Go.RowKit
def Rd {H:Type} (enc:TypeId×Value→H) (P:Program) (w:World) (spare:Nat→Bool) (held:Bool) (t:TypeId) (d:DataW H):Prop:=
 ∃fuel cs ps,DataW.trod enc P w 0 spare held fuel t cs=some (d,ps)
section
variable{H:Type} {enc:TypeId×Value→H} {P:Program} {w:World} {spare:Nat→Bool} {held:Bool} {t e:TypeId} {d:DataW H}
theorem Rd.of {v:Value} {ps:List MemPlace} (h:DataW.Trod enc P w 0 spare held t v d ps):Rd enc P w spare held t d:=by
 obtain⟨fuel,h⟩:=h;exact⟨fuel,_,_,h⟩
theorem Rd.int {k:IntKind} (h:Rd enc P w spare held t d) (ht:P.underlying t=some (.int k)):∃n:Int,d=.lit (.int k n)∧(Lit.int k n).wf=true:=by
 obtain⟨fuel,cs,ps,h⟩:=h
 cases fuel with
 |zero=>simp[DataW.trod] at h
 |succ fuel=>
  unfold DataW.trod at h;rw[ht] at h
  rcases cs with _|⟨v,_|⟨v2,cs⟩⟩<;>try(simp at h;done)
  cases v<;>simp at h
  obtain⟨⟨rfl,hw⟩,rfl,_⟩:=h;exact⟨_,rfl,hw⟩
theorem Rd.bool (h:Rd enc P w spare held t d) (ht:P.underlying t=some .bool):∃b:Bool,d=.lit (.bool b):=by
 obtain⟨fuel,cs,ps,h⟩:=h
 cases fuel with
 |zero=>simp[DataW.trod] at h
 |succ fuel=>
  unfold DataW.trod at h;rw[ht] at h
  rcases cs with _|⟨v,_|⟨v2,cs⟩⟩<;>try(simp at h;done)
  cases v<;>simp at h
  obtain⟨rfl,_⟩:=h;exact⟨_,rfl⟩
theorem Rd.string (h:Rd enc P w spare held t d) (ht:P.underlying t=some .string):∃l:List UInt8,d=.lit (.string l):=by
 obtain⟨fuel,cs,ps,h⟩:=h
 cases fuel with
 |zero=>simp[DataW.trod] at h
 |succ fuel=>
  unfold DataW.trod at h;rw[ht] at h
  rcases cs with _|⟨v,_|⟨v2,cs⟩⟩<;>try(simp at h;done)
  cases v<;>simp at h
  obtain⟨_,rfl,_⟩:=h;exact⟨_,rfl⟩
theorem Rd.slice (h:Rd enc P w spare held t d) (ht:P.underlying t=some (.slice e)):d=.nil∨∃elems rest,d=.slice elems rest∧∀x∈elems,Rd enc P w spare held e x:=by
 obtain⟨fuel,cs,ps,h⟩:=h
 cases fuel with
 |zero=>simp[DataW.trod] at h
 |succ fuel=>
  unfold DataW.trod at h;rw[ht] at h
  rcases cs with _|⟨v,_|⟨v2,cs⟩⟩<;>try(simp at h;done)
  cases v<;>try(simp at h;done)
  rename_i a len cap
  cases a with
  |none=>
   cases len<;>cases cap<;>simp at h
   obtain⟨rfl,rfl⟩:=h;exact .inl rfl
  |some a=>
   simp only at h
   split at h
   ·simp only[Option.bind_eq_some_iff,Option.map_eq_some_iff] at h;obtain⟨elems,hm,rest,hr,hd⟩:=h;cases hd;refine .inr ⟨_,_,rfl,fun x hx=>?_⟩;obtain⟨y,hy,rfl⟩:=List.mem_map.1 hx;have hlen:elems.length=len:=by simpa using mapM_some_length hm
    have hget:=mapM_some_get hm;obtain⟨i,hi⟩:=List.getElem?_of_mem hy;have hil:i<len:=by have:=bj hi;omega
    have h1:=hget i i (by simp[hil]);rw[hi] at h1;obtain⟨cs,_,hx⟩:=Option.bind_eq_some_iff.1 h1;exact⟨fuel,cs,y.2,hx⟩
   ·cases h
theorem mG {α β:Type} {f:α→Option β}:∀{l:List α} {m:List β},l.mapM f=some m→cC (fun a b=>f a=some b) l m
 |[],m,h=>by simp at h;subst h;exact .nil
 |a::l,m,h=>by
  rw[List.mapM_cons] at h
  cases h1:f a with
  |none=>rw[h1] at h;simp at h
  |some b=>
   rw[h1] at h
   cases h2:l.mapM f with
   |none=>rw[h2] at h;simp at h
   |some ys=>rw[h2] at h;simp at h;subst h;exact .cons h1 (mG h2)
theorem cC.Mr {α β γ:Type} {R:α→γ→Prop} {f:β→γ}:∀{l:List α} {m:List β},cC (fun a b=>R a (f b)) l m→cC R l (m.map f)
 |_,_,.nil=>.nil
 |_,_,.cons a t=>.cons a t.Mr
theorem Rd.struct {fs:Array Field} (h:Rd enc P w spare held t d) (ht:P.underlying t=some (.struct fs)):∃parts,d=.agg parts∧cC (fun(f:Field) x=>Rd enc P w spare held f.type x) fs.toList parts:=by
 obtain⟨fuel,cs,ps,h⟩:=h
 cases fuel with
 |zero=>simp[DataW.trod] at h
 |succ fuel=>
  unfold DataW.trod at h;rw[ht] at h;simp only at h
  split at h
  ·obtain⟨xs,hx,hd⟩:=Option.map_eq_some_iff.1 h;cases hd;refine⟨_,rfl,?_⟩;exact((mG hx).mono fun f x Wg=>(⟨fuel,_,_,Wg⟩:Rd enc P w spare held f.type x.1)).Mr
  ·cases h
theorem Rd.array {n:Nat} (h:Rd enc P w spare held t d) (ht:P.underlying t=some (.array n e)):∃parts,d=.agg parts∧parts.length=n∧∀x∈parts,Rd enc P w spare held e x:=by
 obtain⟨fuel,cs,ps,h⟩:=h
 cases fuel with
 |zero=>simp[DataW.trod] at h
 |succ fuel=>
  unfold DataW.trod at h;rw[ht] at h;simp only at h
  split at h
  ·obtain⟨xs,hx,hd⟩:=Option.map_eq_some_iff.1 h;cases hd;have h1:=mG hx;refine⟨_,rfl,by have:=h1.len;simp at this;simp[←this],fun x O3=>?_⟩;obtain⟨y,hy,rfl⟩:=List.mem_map.1 O3
   have key:∀{l:List Nat} {m:List (DataW H×List MemPlace)},cC (fun i x=>DataW.trod enc P w 0 spare held fuel e ((cs.drop (i*P.cellsOf e)).take (P.cellsOf e))=some x) l m→∀y∈m,Rd enc P w spare held e y.1:=by
    intro l m h
    induction h with
    |nil=>intro y hy;cases hy
    |cons a t ih=>
     intro y hy
     rcases List.mem_cons.1 hy with rfl|hy
     ·exact⟨fuel,_,_,a⟩
     ·exact ih y hy
   exact key h1 y hy
  ·cases h
end
theorem LS {H α:Type} {s:Nat} {f:α→List D} {Q:α→DataW H→Prop} {elems rest:List (DataW H)} (h:∀x∈elems,∃a,(ie x).cells?=some (ie x).cells∧(ie x).cells=f a∧(f a).length=s∧Q a x):
  ∃ws:List α,gY (ie (.slice elems rest)) s (ws.map f)∧ws.length=elems.length∧∀a∈ws,∃x∈elems,Q a x:=by
 have key:∃ws:List α,(elems.map ie).map D.cells=ws.map f∧(∀d∈elems.map ie,d.cells?=some d.cells∧d.cells.length=s)∧ws.length=elems.length∧∀a∈ws,∃x∈elems,Q a x:=by
  induction elems with
  |nil=>exact⟨[],rfl,fun d hd=>(by cases hd),rfl,fun a ha=>by cases ha⟩
  |cons x l ih=>
   obtain⟨ws,h1,h2,h3,h4⟩:=ih fun y hy=>h y (List.mem_cons_of_mem _ hy);obtain⟨a,g1,g2,g3,g4⟩:=h x (List.mem_cons_self ..);refine⟨a::ws,by simp only[List.map_cons,h1,g2],fun d hd=>?_,by simp[h3],fun b hb=>?_⟩
   ·simp only[List.map_cons,List.mem_cons] at hd
    rcases hd with rfl|hd
    ·exact⟨g1,by rw[g2];exact g3⟩
    ·exact h2 d hd
   ·rcases List.mem_cons.1 hb with rfl|hb
    ·exact⟨x,List.mem_cons_self ..,g4⟩
    ·obtain⟨y,hy,hq⟩:=h4 b hb;exact⟨y,List.mem_cons_of_mem _ hy,hq⟩
 obtain⟨ws,h1,h2,h3,h4⟩:=key;refine⟨ws,.inr ⟨elems.map ie,?_,h1,h2⟩,h3,h4⟩;show D.sl (tt elems)=_;rw[pz]
end Go.V
namespace Go.Proofs.Ytbdnabmmlbiomaa
theorem B3 {H:Type} (d:DataW H):1≤Rows.uptoBulk d:=by
 cases d with
 |lit l=>cases l<;>simp[Rows.uptoBulk]
 |_=>simp[Rows.uptoBulk]
theorem B4 {H:Type} (l:List (DataW H)):l.length≤Rows.uptoBulkAll l:=by
 induction l with
 |nil=>simp[Rows.uptoBulkAll]
 |cons x r ih=>have:=B3 x;simp only[Rows.uptoBulkAll,List.length_cons];omega
end Go.Proofs.Ytbdnabmmlbiomaa
namespace Go.Proofs.Ytbdnabmmlbiomaa
open Go.V Go Go.RowKit
variable{H:Type} {enc:TypeId×Value→H} {w:World} {spare:Nat→Bool} {held:Bool} {d:DataW H}
theorem B5 {H:Type} {l:List (DataW H)} {x:DataW H} (h:x∈l):Rows.uptoBulk x≤Rows.uptoBulkAll l:=by
 induction l with
 |nil=>cases h
 |cons y l ih=>
  simp only[Rows.uptoBulkAll]
  rcases List.mem_cons.1 h with rfl|h
  ·omega
  ·have:=ih h;omega
end Go.Proofs.Ytbdnabmmlbiomaa
namespace Go.Proofs.Ytbdnabmmlbiomaa
open Go.V Go Go.RowKit
variable{H:Type} {enc:TypeId×Value→H} {w:World} {spare:Nat→Bool} {held:Bool} {d:DataW H}
theorem B9 (h:Rd enc Try.prog w spare held 22 d):∃(y:D) (ps:List (List UInt8)),ie d=y∧gY y 1 (ps.map yG)∧(Rows.uptoBulk d≤1048576→ps.length≤1048576∧∀b∈ps,b.length≤1048576):=by
 rcases h.slice Try.underlying22 with rfl|⟨elems,rest,rfl,he⟩
 ·exact⟨_,[],rfl,.inl ⟨rfl,rfl⟩,fun _=>⟨by simp,fun b hb=>(by cases hb)⟩⟩
 ·obtain⟨l,h1,h2,h3⟩:=LS (s:=1) (f:=yG) (Q:=fun(b:List UInt8) x=>b.length≤Rows.uptoBulk x) (rest:=rest) fun x hx=>by
   obtain⟨b,rfl⟩:=(he x hx).string Try.underlying9;refine⟨b,rfl,rfl,rfl,?_⟩;simp only[Rows.uptoBulk];omega
  refine⟨_,l,rfl,h1,fun hb=>⟨?_,fun b dL=>?_⟩⟩
  ·have:=B4 elems;simp only[Rows.uptoBulk] at hb;omega
  ·obtain⟨x,hx,h4⟩:=h3 b dL;have:=B5 hx;simp only[Rows.uptoBulk] at hb;omega
end Go.Proofs.Ytbdnabmmlbiomaa
namespace Go.V
variable{N:Nat} {S st:St} {H:List bP}
theorem Has.pU (A B:List bP) (h:Has N S st (A++(B++H))):Has N S st (B++(A++H)):=by
 refine h.sub (fun i=>if i<B.length then i+A.length else if i<B.length+A.length then i-B.length else i) (fun a b e=>?_) fun i e hi=>?_
 ·have e':(if a<B.length then a+A.length else if a<B.length+A.length then a-B.length else a)=(if b<B.length then b+A.length else if b<B.length+A.length then b-B.length else b):=e
  repeat' split at e'
  all_goals omega
 ·show(A++(B++H))[if i<B.length then i+A.length else if i<B.length+A.length then i-B.length else i]?=some e
  by_cases h1:i<B.length
  ·rw[if_pos h1,List.getElem?_append_right (by omega),Nat.add_sub_cancel,List.getElem?_append_left h1]
   rwa [List.getElem?_append_left h1] at hi
  ·rw[List.getElem?_append_right (by omega)] at hi
   by_cases h2:i<B.length+A.length
   ·rw[if_neg h1,if_pos h2,List.getElem?_append_left (by omega)]
    rwa [List.getElem?_append_left (by omega)] at hi
   ·rw[if_neg h1,if_neg h2,List.getElem?_append_right (by omega),List.getElem?_append_right (by omega)];rw[List.getElem?_append_right (by omega)] at hi;rw[←hi];congr 1;omega
theorem Has.ec {j:Nat} {e:bP} (h:Has N S st (e::H)) (hj:j<H.length):Has N S st (H.set j e):=
 Has.back (h.erase (j+1)) hj
theorem Has.x0 {j k:Nat} {e:bP} (h:Has N S st H) (hj:H[j]?=some e) (hk:e.K k):k+1≤st.bs.length:=((h.ok j e hj).2 k hk).2
theorem mV {x y:Oper} {fi fj:Fr} {si pS sj Gs:St} {a:Operand} {k aA off v:Nat} {ar:Bool} {c:List D} (hy:gq y.op=none) (hx:gq x.op=some a) (ha:fi.ev a=.ptr k aA off) (h1:sj.bs[k]?=some (.mem v ar c)) (h2:Gs.bs[k]?=some (.mem v ar c)) (h3:si.bs[k]?=some (.mem v ar c)) (hr:refs c≤si.bs.length):jm x fi si pS y fj sj Gs=true:=by
 unfold jm;simp only[hy,hx,ha,D.l4,Bool.and_eq_true];refine⟨qK h1 h2,?_⟩;unfold kU;simp only[h3]
 split
 ·rfl
 ·simpa using hr
theorem Has.clear {P:Pv} {j:Nat} {x:D} {s:Nat} {es:List (List D)} {t e:TypeId} {z:List D} (h:Has N S st H) (hj:H[j]?=some (.aL x s es)) (ht:P.cD t=some (.slice e)) (hz:c_ P e=some z) (kB:z.length=s) (hr:refs z=0):
  ∃ah,j9 P [t] x st=some (.tup [],ah)∧Has N S ah (H.set j (.aL x s (List.replicate es.length z))):=by
 have wC:=(h.ok j _ hj).2;have hown:=h.own hj
 have kC:j<H.length:=by
  rcases Nat.lt_or_ge j H.length with h'|h'
  ·exact h'
  ·rw[List.getElem?_eq_none h'] at hj;cases hj
 cases hown with
 |nul=>
  refine⟨st,by simp only[j9,ht],?_⟩
  have:H.set j (.aL .nul s (List.replicate ([]:List (List D)).length z))=H:=by
   refine List.ext_getElem? fun i=>?_
   by_cases hi:i=j
   ·subst hi;rw[List.getElem?_set_self kC,hj];rfl
   ·rw[List.getElem?_set_ne (fun e=>hi e.symm)]
  rw[this];exact h
 |win k aA off es c hm hle hc he=>
  have hk:=wC k (by simp only[bP.aL,D.ref])
  have Lu:∀n,refs (Go.V.ec n z)=0:=by
   intro n;unfold Go.V.ec
   induction n with
   |zero=>rfl
   |succ n ih=>
    rw[List.replicate_succ,List.flatten_cons]
    have F4:∀(a b:List D),refs a=0→refs b=0→refs (a++b)=0:=by
     intro a
     induction a with
     |nil=>intro b _ hb;exact hb
     |cons d a Cj=>
      intro b ha hb;simp only[refs,List.cons_append] at ha⊢;have:=Cj b (by omega) hb;omega
    exact F4 _ _ hr ih
  have vB:(Go.V.ec es.length z).length=es.length*s:=by
   unfold Go.V.ec;rw[cH (s:=s) (fun e he=>by rw[(List.mem_replicate.1 he).2];exact kB),List.length_replicate]
  have hw:st.wr k aA off (Go.V.ec es.length z)=some ⟨st.bs.set k (.mem aA true (c.take off++Go.V.ec es.length z++c.drop (off+(Go.V.ec es.length z).length))),st.flr,st.ro⟩:=kR hm (by omega) (iY h hk.1 (.inr (Lu _)));refine⟨_,by simp only[j9,ht,hz,Option.bind_some];rw[if_pos kB,hw];rfl,?_⟩;refine h.qI hj (fun n hn hne=>?_) (by simp) rfl rfl ?_ (fun n hn=>.inl hn) fun n hn=>?_
  ·simp only;rw[List.getElem?_set_ne (fun e=>hne (by simp only[bP.aL,D.ref];omega))]
  ·have Bn:∀e'∈List.replicate es.length z,e'.length=s:=fun e' og=>by rw[(List.mem_replicate.1 og).2];exact kB
   have:=gm.win (st:=⟨st.bs.set k (.mem aA true (c.take off++Go.V.ec es.length z++c.drop (off+(Go.V.ec es.length z).length))),st.flr,st.ro⟩) (s:=s) k aA off (List.replicate es.length z) (c.take off++Go.V.ec es.length z++c.drop (off+(Go.V.ec es.length z).length))
    (by simp only;rw[List.getElem?_set_self hk.2]) (by rw[List.length_replicate];simp;omega) ?_ Bn
   ·rw[List.length_replicate] at this;exact this
   ·rw[List.length_replicate,List.append_assoc,List.drop_append_of_le_length (by simp;omega),List.drop_take,Nat.sub_self,List.take_zero,List.nil_append,←vB,List.take_left']
    ·rfl
    ·rfl
  ·simp only[bP.aL,D.ref] at hn;have:n=k:=by omega
   subst this
   simpa using hk.2
variable{P:Pv} {ops:Array Oper} {rest:List Oper} {fr aJ:Fr} {Q:Fr→St→Prop} {ty:TypeId} {pp:String} {a:Array Edge} {g:Option (Nat×Bool)} {dst:Nat}
theorem ab.Ka {j:Nat} {x:D} {s:Nat} {es:List (List D)} {t e:TypeId} {z:List D} {xo:Operand} (hH:Has N S st H) (hg:aE ops fr ⟨none,.call ⟨.builtin .clear,#[xo],#[t]⟩,ty,pp,a,g⟩=some true) (hx:fr.ev xo=x) (hj:H[j]?=some (.aL x s es)) (ht:P.cD t=some (.slice e)) (hz:c_ P e=some z) (kB:z.length=s) (hr:refs z=0)
  (h:∀ah,Has N S ah (H.set j (.aL x s (List.replicate es.length z)))→ab P ops rest fr ah Q):ab P ops (⟨none,.call ⟨.builtin .clear,#[xo],#[t]⟩,ty,pp,a,g⟩::rest) fr st Q:=by
 obtain⟨ah,h1,h2⟩:=hH.clear hj ht hz kB hr;refine ab.N hg rfl (d:=.tup []) (st1:=ah) ?_ (h _ h2);simp only[dD,List.map_cons,List.map_nil,hx,bp,List.toList_toArray];exact h1
end Go.V
namespace Go.Proofs.Ytbdnabmmlbiomaa
open Go.V Go
def fK (n:Nat):List D:=[.int .i64 (n:Nat)]
def mJ (n:Nat):List D:=[.int .i64 (n:Nat),.bool true]
theorem uy {l:List Nat} {i q:Nat} (h:l[i]?=some q):(l.map fK)[i]?=some (fK q):=by rw[List.getElem?_map,h];rfl
theorem FD {l:List Nat} {i q:Nat} (h:l[i]?=some q):(l.map mJ)[i]?=some (mJ q):=by rw[List.getElem?_map,h];rfl
structure dN (P Q:List Nat) (seen:List Bool):Prop where
 len:P.length=seen.length
 mem:∀(i p:Nat),P[i]?=some p→seen[i]?=some (decide (Q[p]?=some i))
 cnt:Q.length=seen.count true
 small:seen.length≤4096
def Cb (N:Nat) (S st:St) (ks:Nat) (seen:List Bool) (H:List bP):Prop:=
 ∃pd qd P Q,Has N S st (.box ks (.mem 0 false [pd,qd])::.aL pd 1 (P.map fK)::.aL qd 2 (Q.map mJ)::H)∧dN P Q seen
theorem dN.get {P Q:List Nat} {seen:List Bool} (h:dN P Q seen) {i:Nat} {b:Bool} (hi:seen[i]?=some b):∃p,P[i]?=some p∧b=decide (Q[p]?=some i):=by
 have hl:=bj hi;have o8:=h.len;refine⟨P[i]'(by omega),List.getElem?_eq_getElem _,?_⟩;have:=h.mem i _ (List.getElem?_eq_getElem (by omega));rw[hi] at this;exact Option.some.inj this
theorem dN.add {P Q:List Nat} {seen:List Bool} (h:dN P Q seen) {i:Nat} (hi:seen[i]?=some false):dN (P.set i Q.length) (Q++[i]) (seen.set i true):=by
 have hl:=bj hi;have o8:=h.len;refine⟨by simp[o8],fun j p hj=>?_,?_,by rw[List.length_set];exact h.small⟩
 ·by_cases hij:j=i
  ·subst hij;rw[List.getElem?_set_self (by omega)] at hj⊢;cases hj;simp
  ·rw[List.getElem?_set_ne (fun e=>hij e.symm)] at hj⊢;rw[h.mem j p hj]
   congr 2
   rcases Nat.lt_trichotomy p Q.length with hp|hp|hp
   ·rw[List.getElem?_append_left hp]
   ·subst hp;have hne:¬i=j:=fun e=>hij e.symm;simp[hne]
   ·rw[List.getElem?_eq_none (by omega),List.getElem?_eq_none (by simp;omega)]
 ·have h1:=List.length_eq_countP_add_countP (fun b=>b==true) (l:=seen);have h2:=List.length_eq_countP_add_countP (fun b=>b==true) (l:=seen.set i true);have h3:=count_set hi
  have e1:∀l:List Bool,l.countP (fun a=>decide (¬(a==true)=true))=l.count false:=by
   intro l;unfold List.count;congr 1;funext b;cases b<;>rfl
  have e2:∀l:List Bool,l.countP (fun a=>a==true)=l.count true:=fun l=>rfl;rw[e1,e2] at h1 h2;rw[List.length_append,h.cnt];simp only[List.length_set,List.length_cons,List.length_nil] at h2⊢;omega
theorem dN.clear {P Q:List Nat} {seen:List Bool} (h:dN P Q seen):dN P [] (List.replicate seen.length false):=by
 refine⟨by rw[List.length_replicate];exact h.len,fun i p hi=>?_,?_,by rw[List.length_replicate];exact h.small⟩
 ·have:=bj hi;have:=h.len;rw[List.getElem?_replicate,if_pos (by omega)];simp
 ·rw[List.count_replicate];simp
theorem dN.jY {P Q:List Nat} {seen:List Bool} (h:dN P Q seen):Q.length≤4096:=by
 have:=h.cnt;have:=h.small;have:=List.count_le_length (a:=true) (l:=seen);omega
theorem yL {N ks:Nat} {S s0:St} {H:List bP} {seen:List Bool} {i:Nat} {b:Bool} (hi:seen[i]?=some b) {pd qd:D} {P Q:List Nat} (ba:dN P Q seen) (hH:Has N S s0 (.box ks (.mem 0 false [pd,qd])::.aL pd 1 (P.map fK)::.aL qd 2 (Q.map mJ)::H)):
  ∃r ah,Ev pv 67 [.ptr ks 0 0,.int .i64 (i:Nat)] s0 r ah∧r=.bool b∧ah=s0:=by
 obtain⟨p,hp,rfl⟩:=ba.get hi;have hl:=bj hp;have o8:=ba.len;have UZ:=ba.small;have hO:=uy hp
 have ek:(⟨(ak .rw s0).bs.take s0.bs.length,s0.flr,s0.ro⟩:St)=s0:=by
  show(⟨s0.bs.take s0.bs.length,s0.flr,s0.ro⟩:St)=s0;rw[List.take_length]
 refine Ev.jD rfl Rw rfl rfl rfl ?_;dsimp only[u3,u4,List.length,Nat.reduceSub,Nat.reduceAdd,w1,w2];have cy:=hH;have hH:=hH.cA;have cx:(ak .rw s0).bs=s0.bs:=rfl;generalize ak .rw s0=S2 at*;refine qq<|qj fun K hK=>qm ?_;refine qe hK ?_;have bh:decide (((i:Nat):Int)<0)=false:=by rw[decide_eq_false];omega
 refine qq<|qq<|af.jy 16 (.bool false) [] ?_ (fun ff tmp gh=>?_)
 ·refine qm ?_;refine qg ?_;refine qm ?_;refine qm ?_ (hg:=wi bh);refine qm ?_ (hg:=wi bh);refine qg ?_ (hg:=wi bh);refine qp (o:=0) ?_ (hg:=wi bh);refine ql hH aB ?_ (hg:=wi bh);refine qn ?_ (hR:=hH.rows b4) (hg:=wi bh);simp only[List.length_map];refine qg ?_ (hg:=wi bh);refine qu bh ?_;refine ab.nil (cX ?_ ?_)
  ·dsimp only[aM,List.foldl,nth,u2,u1]
   all_goals(first|rfl|simp)
  ·dsimp only[Fr.aF,Fr.put,Fr.clean,Fr.ev,Fr.get,nth,V.look,u1,u2,v1,v2,v3,v4,v5,v6,v7,List.length,u3,u4,Nat.reduceSub,Nat.reduceAdd,List.map]
   all_goals(simp_all;done)
 dsimp only[aM,List.foldl,nth,u2,u1];refine qC ?_;refine af.skip<|qq<|qj fun K hK=>qm ?_;refine qg ?_;refine qp (o:=0) ?_;refine ql hH aB ?_;refine qm ?_;refine qi hH b4 fun OL Kx=>?_;refine qo hH b4 ?_;refine qm ?_;refine qe hK ?_
 by_cases hq:p<Q.length
 ·obtain⟨q,MS⟩:∃q,Q[p]?=some q:=⟨Q[p]'hq,List.getElem?_eq_getElem _⟩
  have mP:=FD MS;have ew:decide (((p:Nat):Int)<((Q.length:Nat):Int))=true:=by rw[decide_eq_true_eq];omega
  refine qq<|qj fun K hK=>qm ?_;refine qm ?_;refine qg ?_;refine qp (o:=1) ?_;refine ql hH aB ?_;refine qn ?_ (hR:=hH.rows cU);simp only[List.length_map];refine qg ?_;refine qm ?_;refine qm ?_ (hg:=wi ew);refine qg ?_ (hg:=wi ew);refine qp (o:=1) ?_ (hg:=wi ew);refine ql hH aB ?_ (hg:=wi ew);refine qm ?_ (hg:=wi ew);refine qi hH cU (fun Un PW=>?_) (hg:=wi ew);refine ab.eN (fo:=0) (m:=0) (o2:=0) (aD rfl rfl rfl ew) (ev rfl) (by assumption) rfl rfl rfl (fun _=>(ae rfl _)) (fun Um PV=>?_);refine qo hH cU ?_ (hg:=wi ew);refine qm ?_ (hg:=wi ew);refine qg ?_ (hg:=wi ew);refine qt ew ?_;refine qm ?_;refine qe hK<|af.ret ⟨rx,_,_,_,rfl,aj (rfl),?_⟩;refine⟨?_,ek⟩
  have hd:(((q:Nat):Int)==((i:Nat):Int))=decide (Q[p]?=some i):=by
   rw[MS]
   by_cases h:q=i
   ·simp[h]
   ·simp[h];omega
  exact congrArg D.bool hd
 ·have ew:decide (((p:Nat):Int)<((Q.length:Nat):Int))=false:=by rw[decide_eq_false];omega
  refine qq<|qj fun K hK=>qm ?_;refine qm ?_;refine qg ?_;refine qp (o:=1) ?_;refine ql hH aB ?_;refine qn ?_ (hR:=hH.rows cU);simp only[List.length_map];refine qg ?_;refine qm ?_;refine qs ?_ (hg:=wn ew);refine qs ?_ (hg:=wn ew);refine qs ?_ (hg:=wn ew);refine qs ?_ (hg:=wn ew);refine qs ?_ (hg:=wn ew);refine qs ?_ (hg:=wn ew);refine qs ?_ (hg:=wn ew);refine qs ?_ (hg:=wn ew);refine qs ?_ (hg:=wn ew);refine qs ?_ (hg:=wn ew);refine qu ew ?_;refine qm ?_;refine qe hK<|af.ret ⟨rx,_,_,_,rfl,aj (rfl),?_⟩;refine⟨?_,ek⟩;rw[List.getElem?_eq_none (by omega)];rfl
theorem yM {N ks:Nat} {S s0:St} {H:List bP} {seen:List Bool} {i:Nat} {b:Bool} (hF:S.flr≤N) (hi:seen[i]?=some b) (hH:Cb N S s0 ks seen H):
  ∃r ah,Ev pv 51 [.ptr ks 0 0,.int .i64 (i:Nat),.bool true] s0 r ah∧r=.bool (!b)∧Cb N S ah ks (seen.set i true) H:=by
 obtain⟨pd,qd,P,Q,hH,ba⟩:=hH;have hl:=bj hi;have o8:=ba.len;have UZ:=ba.small;have GD:=ba.jY;obtain⟨p0,Vv,_⟩:=ba.get hi;have hO:=uy Vv;refine Ev.jD rfl RG rfl rfl rfl ?_;dsimp only[u3,u4,List.length,Nat.reduceSub,Nat.reduceAdd,w1,w2];change af _ _ _ _ s0 _;refine qq<|qj fun K hK=>qm ?_;refine qe hK ?_;have bh:decide (((i:Nat):Int)<0)=false:=by rw[decide_eq_false];omega
 have bC:decide (((i:Nat):Int)≥((P.length:Nat):Int))=false:=by rw[decide_eq_false];omega
 obtain⟨_,st,aO,rfl,rfl⟩:=yL hi ba hH;refine qq<|qq<|af.jy 22 (.bool b) [] ?_ (fun ff tmp gh=>?_)
 ·refine qm ?_;refine qg ?_;refine qm ?_;refine qm ?_ (hg:=wi bh);refine qm ?_ (hg:=wi bh);refine qg ?_ (hg:=wi bh);refine qp (o:=0) ?_ (hg:=wi bh);refine ql hH aB ?_ (hg:=wi bh);refine qn ?_ (hR:=hH.rows b4) (hg:=wi bh);simp only[List.length_map];refine qg ?_ (hg:=wi bh);refine qu bh ?_;refine qm ?_;refine qm ?_ (hg:=wi bC);refine qm ?_ (hg:=wi bC);refine qv aO ?_ (hg:=wi bC);refine qu bC ?_;refine ab.nil (cX ?_ ?_)
  ·dsimp only[aM,List.foldl,nth,u2,u1]
   all_goals(first|rfl|simp)
  ·dsimp only[Fr.aF,Fr.put,Fr.clean,Fr.ev,Fr.get,nth,look,u1,u2,v1,v2,v4]
   all_goals(first|rfl|(simp[bh,bC];done)|(simp_all;done)|(simp[bh,bC];omega)|(simp_all;omega))
 dsimp only[aM,List.foldl,nth,u2,u1]
 cases b with
 |true=>
  refine qB ?_;refine qq<|qj fun K hK=>qm ?_;refine qe hK<|af.ret ⟨rx,_,_,_,rfl,rfl,?_⟩;refine⟨rfl,pd,qd,P,Q,hH,?_⟩
  have:seen.set i true=seen:=by
   refine List.ext_getElem? fun j=>?_
   by_cases hj:j=i
   ·subst hj;rw[List.getElem?_set_self hl,hi]
   ·rw[List.getElem?_set_ne (fun e=>hj e.symm)]
  rw[this];exact ba
 |false=>
  refine qC ?_;refine af.skip<|qq<|qj fun K hK=>qm ?_;refine qg ?_;refine qp (o:=0) ?_;refine ql hH aB ?_;refine qm ?_;refine qm ?_;refine qg ?_;refine qp (o:=1) ?_;refine ql hH aB ?_;refine qn ?_ (hR:=hH.rows cU);simp only[List.length_map];refine qi hH b4 fun XD Vr=>?_;refine ab.kX hH rfl (ev rfl) (ev rfl) (by assumption) rfl rfl (by exact b4) (by assumption) (Nat.le_of_ble_eq_true rfl) (by exact .inl hF) (fun st hH=>?_);dsimp only[u2,u1,u3,u4,setMany,u5,u6,D.cells,Nat.reduceAdd,fK,mJ] at hH;refine qe hK<|qq<|qj fun K hK=>qm ?_;refine qm ?_;refine qg ?_;refine qp (o:=1) ?_;refine ql hH aB ?_;refine qm ?_;refine qm ?_;refine qg ?_;refine qh (s:=2) (vs:=[_]) hH fun k42 st VZ hH=>?_;dsimp only[u2,u1,u3,u4,setMany,u5,u6,D.cells,Nat.reduceAdd,fK,mJ] at hH;refine ab.bZ (s:=2) hH rfl (ev rfl) (ev rfl) (by exact eF) (by exact hH.rows (by exact aB)) rfl rfl rfl rfl rfl rfl rfl ⟨(Nat.le_of_ble_eq_true rfl),(Nat.le_of_ble_eq_true rfl)⟩ (fun _=>(ae rfl _)) (by simp only[List.length_cons,List.length_nil,List.length_map]<;>omega) (by exact .inl hF) (fun TU st hH=>?_);dsimp only[u2,u1,u3,u4,setMany,u5,u6,D.cells,Nat.reduceAdd,fK,mJ] at hH;refine qg ?_;refine qp (o:=1) ?_;refine qT hH b4 (fun st hH=>?_) (gG:=hH.dV eF);dsimp only[u2,u1,u3,u4,setMany,u5,u6,D.cells,Nat.reduceAdd,fK,mJ] at hH;refine qe hK<|qq<|qj fun K hK=>qm ?_;refine qe hK<|af.ret ⟨rx,_,_,_,rfl,rfl,?_⟩;refine⟨rfl,pd,TU,P.set i Q.length,Q++[i],?_,ba.add hi⟩;rw[List.map_set,List.map_append];exact hH.drop 1
theorem tT {N ks:Nat} {S s0:St} {H:List bP} {seen:List Bool} (hF:S.flr≤N) (hH:Cb N S s0 ks seen H):
  ∃r ah,Ev pv 48 [.ptr ks 0 0] s0 r ah∧r=.tup []∧Cb N S ah ks (List.replicate seen.length false) H:=by
 obtain⟨pd,qd,P,Q,hH,ba⟩:=hH;have GD:=ba.jY;refine Ev.jD rfl RJ rfl rfl rfl ?_;dsimp only[u3,u4,List.length,Nat.reduceSub,Nat.reduceAdd,w1,w2];change af _ _ _ _ s0 _;refine qq<|qj fun K hK=>qm ?_;refine qg ?_;refine qp (o:=1) ?_;refine ql hH aB ?_;refine ab.Ka hH rfl (ev rfl) cU rfl rfl rfl rfl (fun st hH=>?_);dsimp only[u1,u2] at hH;refine qe hK<|qj fun K hK=>qm ?_;refine qm ?_;refine qg ?_;refine qp (o:=1) ?_;refine ql hH aB ?_;refine ab.sD hH rfl (ev rfl) (by exact cU) rfl rfl (iZ (by simp only[List.length_map,List.length_reverse,List.length_cons,List.length_append,List.length_nil,List.length_take,List.length_drop,List.length_set,List.length_replicate];omega)) ⟨(by omega),(by simp only[List.length_map,List.length_reverse,List.length_cons,List.length_append,List.length_nil,List.length_take,List.length_drop,List.length_set,List.length_replicate];omega)⟩ (fun _=>(ae rfl _)) (fun W_ hH=>?_);refine qg ?_;refine qp (o:=1) ?_;refine qT hH aB (fun st hH=>?_) (gG:=hH.dV cU);dsimp only[u2,u1,u3,u4,setMany,u5,u6,D.cells,Nat.reduceAdd,fK,mJ] at hH;refine qe hK ?_;refine⟨fun i h=>(by cases h),_,_,_,rfl,rfl,?_⟩;exact⟨rfl,pd,_,P,[],hH,ba.clear⟩
theorem yK {N n:Nat} {S s0:St} {H:List bP} (hF:S.flr≤N) (hn:n≤4096) (hH:Has N S s0 H):
  ∃r ah,Ev pv 44 [.int .i64 (n:Nat)] s0 r ah∧∃ks,r=.tup [.ptr ks 0 0,.int .i64 0]∧Cb N S ah ks (List.replicate n false) H:=by
 refine Ev.jD rfl RM rfl rfl rfl ?_;dsimp only[u3,u4,List.length,Nat.reduceSub,Nat.reduceAdd,w1,w2];change af _ _ _ _ s0 _;refine qq<|qj fun K hK=>qm ?_;refine qm ?_;refine qe hK ?_;have bh:decide (((n:Nat):Int)<0)=false:=by rw[decide_eq_false];omega
 refine qq<|qq<|af.jy 9 (.bool false) [] ?_ (fun ff tmp gh=>?_)
 ·refine qm ?_;refine qg ?_;refine qm ?_;refine qm ?_ (hg:=wi bh);refine qg ?_ (hg:=wi bh);refine qu bh ?_;refine ab.nil (cX ?_ ?_)
  ·dsimp only[aM,List.foldl,nth,u2,u1]
   all_goals(first|rfl|simp)
  ·dsimp only[Fr.aF,Fr.put,Fr.clean,Fr.ev,Fr.get,nth,V.look,u1,u2,v1,v2,v3,v4,v5,v6,v7,List.length,u3,u4,Nat.reduceSub,Nat.reduceAdd,List.map]
   all_goals(simp[bh];omega)
 dsimp only[aM,List.foldl,nth,u2,u1];refine qC ?_;refine af.skip<|qq<|qj fun K hK=>qm ?_;refine ab.uT (s:=1) hH rfl rfl rfl rfl rfl rfl rfl rfl (Nat.le_of_ble_eq_true rfl) (by omega) (fun _=>(ae rfl _)) (fun k11 st KL hH=>?_);refine ab.fX (qs:=[(0,_)]) rfl rfl rfl rfl ⟨rfl,(ev rfl),(by rfl),trivial⟩ (by intro q hq;simp only[List.mem_cons,List.not_mem_nil,or_false] at hq;rcases hq with rfl<;>exact⟨rfl,by exact Nat.le_of_ble_eq_true rfl⟩) (by show List.foldl _ [_,_] _=_;dsimp only[List.foldl_cons,List.foldl_nil,u2,u1]<;>rfl) (ae rfl _) ?_;refine qb hH fun k13 st Bp hH=>?_;refine qm ?_;refine qm ?_;refine qe hK<|af.ret ⟨rx,_,_,_,rfl,rfl,?_⟩;refine⟨k13,rfl,.win k11 0 0 n 1,.nul,List.replicate n 0,[],?_,?_⟩
 ·rw[List.map_replicate];exact Has.pU [_] [_,_] (hH.eB 2)
 ·refine⟨by simp,fun i p hi=>?_,by rw[List.count_replicate];simp,by simpa using hn⟩;have:=bj hi;rw[List.length_replicate] at this;rw[List.getElem?_replicate,if_pos this];simp
end Go.Proofs.Ytbdnabmmlbiomaa
namespace Go.Proofs.Ytbdnabmmlbiomaa
open Go.V Go
def dw (fr:Go.V.Fr) (k:Nat):Go.V.D:=Go.V.nth .bw fr.loc k
abbrev kM:=Nat→Int
def ay (f:kM):List D:=[.int .i64 (f 0),.int .i64 (f 1),.int .i64 (f 2),.int .i64 (f 3),.int .i64 (f 4),.int .i64 (f 5),.int .i64 (f 6),.int .i64 (f 7),.int .i64 (f 8),.int .i64 (f 9)]
def aR:kM:=fun _=>-1
def aH:kM:=fun _=>0
def tV (f:kM) (x:Nat) (v:Int):kM:=fun j=>if j=x then v else f j
structure ft where
 pc:Nat
 at_:Nat
 c:kM
def bB (t:ft):List D:=.int .i64 (t.pc:Nat)::.int .i64 (t.at_:Nat)::ay t.c
theorem Au {a b:D} {f:kM} {x:Nat} {v:Int} (hx:x<10):setMany (a::b::ay f) (2+x) [.int .i64 v]=a::b::ay (tV f x v):=by
 match x,hx with
 |0,_=>rfl
 |1,_=>rfl
 |2,_=>rfl
 |3,_=>rfl
 |4,_=>rfl
 |5,_=>rfl
 |6,_=>rfl
 |7,_=>rfl
 |8,_=>rfl
 |9,_=>rfl
inductive zX where
 |found
 |more (l:List ft)
def bK (code:List aK) (gs:List (Nat×Nat)) (pl:List Int) (t:ft):zX:=
 match code[t.pc]? with
 |none=>.more []
 |some i=>
  if i.op=7 then .found
  else if i.op=2 then .more [⟨i.x.toNat,t.at_,t.c⟩,⟨i.y.toNat,t.at_,t.c⟩]
  else if i.op=3 then .more [⟨i.x.toNat,t.at_,t.c⟩]
  else if i.op=4 then .more [⟨t.pc+1,t.at_,tV t.c i.x.toNat (pl.getD t.at_ 0)⟩]
  else if i.op=5 then .more (if t.at_=0 then[⟨t.pc+1,t.at_,t.c⟩] else[])
  else if i.op=6 then .more (if t.at_=gs.length then[⟨t.pc+1,t.at_,t.c⟩] else[])
  else .more (if t.at_<gs.length∧gA i.rs ((gs.getD t.at_ (0,0)).1:Nat)=true then[⟨t.pc+1,t.at_+1,t.c⟩] else[])
theorem d_ {n ns pc:Nat} {i:aK} (h:cJ n ns pc i=true):
  i.op=7∨(i.op=2∧(0≤i.x∧i.x<(n:Int))∧0≤i.y∧i.y<(n:Int))∨(i.op=3∧0≤i.x∧i.x<(n:Int))∨(i.op=4∧pc+1<n∧0≤i.x∧i.x<10)∨(i.op=5∧pc+1<n)∨(i.op=6∧pc+1<n)∨(i.op=1∧pc+1<n):=by
 unfold cJ at h
 split at h
 ·rename_i h1;simp only[Bool.and_eq_true,decide_eq_true_eq] at h;refine .inr (.inr (.inr (.inr (.inr (.inr ⟨h1,?_⟩)))));omega
 ·simp only[Bool.and_eq_true] at h;obtain⟨_,h⟩:=h
  split at h
  ·rename_i h2;simp only[Bool.and_eq_true] at h;exact .inr (.inl ⟨h2,dK.1 h.1,dK.1 h.2⟩)
  ·simp only[Bool.and_eq_true] at h;obtain⟨_,h⟩:=h
   split at h
   ·rename_i h3;exact .inr (.inr (.inl ⟨h3,dK.1 h⟩))
   ·split at h
    ·rename_i h4;simp only[Bool.and_eq_true,decide_eq_true_eq] at h;exact .inr (.inr (.inr (.inl ⟨h4,by omega,dK.1 h.2⟩)))
    ·split at h
     ·rename_i h5;simp only[Bool.and_eq_true,decide_eq_true_eq] at h
      rcases h5 with h5|h5
      ·exact .inr (.inr (.inr (.inr (.inl ⟨h5,by omega⟩))))
      ·exact .inr (.inr (.inr (.inr (.inr (.inl ⟨h5,by omega⟩)))))
     ·split at h
      ·rename_i h7;exact .inl h7
      ·cases h
def fg (N:Nat) (S:St) (k:Nat) (p:Pg) (gs:List (Nat×Nat)) (bu gK:D) (aW:List Int) (H:List bP) (t:ft) (cg:List ft) (d:D) (ah:St):Prop:=
 match bK p.code gs aW t with
 | .found=>d=.tup [.agg (ay t.c),.bool true]∧∃fz,Has N S ah (.box k (.mem 0 false [p.cd,p.sd,cu gs,bu,gK,fz])::.aL fz 12 (cg.reverse.map bB)::.aL bu 1 (aW.map aq)::H)
 | .more l=>d=.tup [.agg (ay aH),.bool false]∧∃fz,Has N S ah (.box k (.mem 0 false [p.cd,p.sd,cu gs,bu,gK,fz])::.aL fz 12 ((l++cg).reverse.map bB)::.aL bu 1 (aW.map aq)::H)
theorem CB {N:Nat} {S st:St} {H:List bP} {k:Nat} {p:Pg} {gs:List (Nat×Nat)} {bu gK fz:D} {aW:List Int} {t:ft} {cg:List ft} {i:aK} (hF:S.flr≤N) (hp:p.ok) (hi:p.code[t.pc]?=some i) (hsh:cJ p.code.length p.az.length t.pc i=true) (o_:gs.length≤1048576) (ic:t.at_≤gs.length) (fF:aW.length=gs.length+1) (jb:cg.length≤536870912)
  (hH:Has N S st (.box k (.mem 0 false [p.cd,p.sd,cu gs,bu,gK,fz])::.aL fz 12 (cg.reverse.map bB)::.aL bu 1 (aW.map aq)::H)):
  ∃d ah,Ev pv 56 [.ptr k 0 0,.agg (bB t)] st d ah∧fg N S k p gs bu gK aW H t cg d ah:=by
 have hc:=hp.c.arg N S;have hlen:=hp.cl;have Bs:Arg N S 2 (cu gs) (gs.map a_):=Arg.pure (fun st=>cV st gs);have hr:=gz hi;have zh:=(hp.i i (List.mem_of_getElem? hi)).1;have MQ:=zh.arg N S;have rC:=(hp.i i (List.mem_of_getElem? hi)).2;have hlt:=bj hi;have lg:=d_ hsh;obtain⟨op,x,y,rd,rs⟩:=i;obtain⟨pc,at_,c⟩:=t;simp only at*;refine Ev.jD rfl RC rfl rfl rfl ?_;dsimp only[u3,u4,List.length,Nat.reduceSub,Nat.reduceAdd,w1,w2];change af _ _ _ _ st _;refine qq<|qj fun K hK=>qb hH fun k3 st Nj hH=>?_;dsimp only[u2,u1,u3,u4,setMany,u5,u6,D.cells,Nat.reduceAdd,aG,aq,bB,ay] at hH;refine qa hH fun k4 st Oi hH=>?_;refine qm ?_;refine qe hK<|qq<|qj fun K hK=>qm ?_;refine qg ?_;refine qp (o:=0) ?_;refine qp (o:=0) ?_;refine ql hH cU ?_;refine qp (o:=0) ?_;refine ql hH b4 ?_;refine qr fun SP MZ=>?_;refine ab.eA rfl (ev rfl) (by assumption) rfl (by dsimp only[Fr.put,u1,u2]<;>rfl) ?_;refine qa hH fun k6 st Cm hH=>?_;refine qS hH aB fun st hH=>?_;dsimp only[u2,u1,u3,u4,setMany,u5,u6,D.cells,Nat.reduceAdd,aG,aq,bB,ay] at hH;refine qe hK<|qq<|qj fun K hK=>?_;refine ab.bf (m:=12) hH rfl (ev rfl) (by exact cU) (by dsimp only[List.drop_succ_cons,List.drop_zero,List.take_succ_cons,List.take_zero,aG,aq,bB,ay]<;>rfl) rfl rfl (by dsimp only[Fr.put,u1,u2]<;>rfl) ?_;refine qa hH fun k7 st Qg hH=>?_;refine qS hH aB fun st hH=>?_;dsimp only[u2,u1,u3,u4,setMany,u5,u6,D.cells,Nat.reduceAdd,aG,aq,bB,ay] at hH;refine qe hK<|qq<|qj fun K hK=>qp (o:=0) ?_;refine ql hH aB ?_;refine qA ?_;refine qp (o:=0) ?_;refine qT hH aB fun st hH=>?_;dsimp only[u2,u1,u3,u4,setMany,u5,u6,D.cells,Nat.reduceAdd,aG,aq,bB,ay] at hH;refine qe hK<|qq<|qq<|qj fun K hK=>qp (o:=0) ?_;refine ql hH b4 ?_;refine qe hK ?_;have XI:D.agg [.int .i64 0,.int .i64 0,.int .i64 0,.int .i64 0,.int .i64 0,.int .i64 0,.int .i64 0,.int .i64 0,.int .i64 0,.int .i64 0]=.agg (ay aH):=rfl;refine af.merge (fun fr st=>∃(t':ft) (tmp:List (Nat×D)),fr=⟨24,[.ptr k 0 0,dw fr 1,dw fr 2,.ptr k3 0 0,.ptr k4 0 0,.bool false,.ptr k6 0 0,.ptr k7 0 0,dw fr 8,dw fr 9,dw fr 10,dw fr 11,dw fr 12,dw fr 13,dw fr 14,dw fr 15,dw fr 16,dw fr 17,dw fr 18,dw fr 19,dw fr 20,dw fr 21,dw fr 22,dw fr 23],tmp⟩∧Has N S st (.box k7 (.mem 0 false (bB t'))::.box k6 (.mem 0 false [.int .i64 op,.int .i64 x,.int .i64 y,rd])::.box k4 (.mem 0 false (ay aH))::.box k3 (.mem 0 false (bB ⟨pc,at_,c⟩))::.box k (.mem 0 false [p.cd,p.sd,cu gs,bu,gK,fz])::.aL fz 12 (cg.reverse.map bB)::.aL bu 1 (aW.map aq)::H)∧(bK p.code gs aW ⟨pc,at_,c⟩=.more [t'])) ?_ ?_
 ·refine af.block<|qq<|qj fun K hK=>qg ?_;refine qm ?_;refine qe hK ?_;refine af.cond (by rfl) (fun h7=>?_) (fun h7=>?_)<;>try simp only[beq_iff_eq,beq_eq_false_iff_ne,ne_eq] at h7
  ·have hS:bK p.code gs aW ⟨pc,at_,c⟩=.found:=by unfold bK;simp only[hi];rw[if_pos h7]
   refine qq<|qj fun K hK=>qp (o:=2) ?_;refine ab.bf (m:=10) hH rfl (ev rfl) (by exact eF) (by dsimp only[List.drop_succ_cons,List.drop_zero,List.take_succ_cons,List.take_zero,aG,aq,bB,ay]<;>rfl) rfl rfl (ae rfl _) ?_;refine qS hH cU fun st hH=>?_;dsimp only[u2,u1,u3,u4,setMany,u5,u6,D.cells,Nat.reduceAdd,aG,aq,bB,ay] at hH;refine qm ?_;refine qe hK<|af.ret ⟨rx,_,_,_,hH.cN rfl cU rfl rfl,rfl,?_⟩;unfold fg;rw[hS];exact⟨rfl,fz,hH.drop 4⟩
  ·refine qq<|qj fun K hK=>qg ?_;refine qm ?_;refine qe hK ?_;refine af.cond (by rfl) (fun h2=>?_) (fun h2=>?_)<;>try simp only[beq_iff_eq,beq_eq_false_iff_ne,ne_eq] at h2
   ·obtain⟨_,⟨hx0,hx1⟩,hy0,hy1⟩:=(lg.resolve_left h7).resolve_right (by omega);obtain⟨xn,rfl⟩:=Int.eq_ofNat_of_zero_le hx0;obtain⟨yn,rfl⟩:=Int.eq_ofNat_of_zero_le hy0;have hS:bK p.code gs aW ⟨pc,at_,c⟩=.more [⟨xn,at_,c⟩,⟨yn,at_,c⟩]:=by unfold bK;simp only[hi];rw[if_neg h7,if_pos h2];rfl
    refine qq<|qj fun K hK=>qm ?_;refine qm ?_;refine qg ?_;refine qp (o:=5) ?_;refine ql hH fW ?_;refine qp (o:=2) ?_;refine ql hH b4 ?_;refine qp (o:=1) ?_;refine ql hH eF ?_;refine qp (o:=2) ?_;refine ab.bf (m:=10) hH rfl (ev rfl) (by exact eF) (by dsimp only[List.drop_succ_cons,List.drop_zero,List.take_succ_cons,List.take_zero,aG,aq,bB,ay]<;>rfl) rfl rfl (ae rfl _) ?_;refine ab.go (d:=.agg (bB ⟨yn,at_,c⟩)) (st1:=_) rfl rfl rfl (ae rfl _) ?_;refine qp (o:=1) ?_;refine ql hH b4 ?_;refine qp (o:=1) ?_;refine ql hH eF ?_;refine qp (o:=2) ?_;refine ab.bf (m:=10) hH rfl (ev rfl) (by exact eF) (by dsimp only[List.drop_succ_cons,List.drop_zero,List.take_succ_cons,List.take_zero,aG,aq,bB,ay]<;>rfl) rfl rfl (ae rfl _) ?_;refine ab.go (d:=.agg (bB ⟨xn,at_,c⟩)) (st1:=_) rfl rfl rfl (ae rfl _) ?_;refine qh (s:=12) (vs:=[_,_]) hH fun k49 st VU hH=>?_;dsimp only[u2,u1,u3,u4,setMany,u5,u6,D.cells,Nat.reduceAdd,aG,aq,bB,ay] at hH;refine ab.bZ (s:=12) hH rfl (ev rfl) (ev rfl) (by exact GV) (by exact hH.rows (by exact aB)) rfl rfl rfl rfl rfl rfl rfl ⟨(Nat.le_of_ble_eq_true rfl),(Nat.le_of_ble_eq_true rfl)⟩ (fun _=>(ae rfl _)) (by simp only[List.length_cons,List.length_nil,List.length_map,List.length_reverse]<;>omega) (by exact .inl hF) (fun TS st hH=>?_);dsimp only[u2,u1,u3,u4,setMany,u5,u6,D.cells,Nat.reduceAdd,aG,aq,bB,ay] at hH;refine qg ?_;refine qp (o:=5) ?_;refine qT hH l7 (fun st hH=>?_) (gG:=hH.dV GV);dsimp only[u2,u1,u3,u4,setMany,u5,u6,D.cells,Nat.reduceAdd,aG,aq,bB,ay] at hH;refine qe hK<|qq<|qj fun K hK=>ab.go (d:=.agg (ay aH)) (st1:=_) rfl rfl rfl (ae rfl _) ?_;refine qS hH eF fun st hH=>?_;dsimp only[u2,u1,u3,u4,setMany,u5,u6,D.cells,Nat.reduceAdd,aG,aq,bB,ay] at hH;refine qm ?_;refine qe hK<|af.ret ⟨rx,_,_,_,hH.cN rfl eF rfl rfl,rfl,?_⟩;unfold fg;rw[hS];refine⟨rfl,TS,?_⟩;have Pq:((([⟨xn,at_,c⟩,⟨yn,at_,c⟩]:List ft)++cg).reverse.map bB)=cg.reverse.map bB++[bB ⟨yn,at_,c⟩,bB ⟨xn,at_,c⟩]:=by simp
    rw[Pq];exact hH.drop 5
   ·refine qq<|qj fun K hK=>qg ?_;refine qm ?_;refine qe hK ?_;refine af.cond (by rfl) (fun h3=>?_) (fun h3=>?_)<;>try simp only[beq_iff_eq,beq_eq_false_iff_ne,ne_eq] at h3
    ·obtain⟨_,hx0,hx1⟩:=((lg.resolve_left h7).resolve_left (by omega)).resolve_right (by omega);obtain⟨xn,rfl⟩:=Int.eq_ofNat_of_zero_le hx0;refine qj fun K hK=>qp (o:=1) ?_;refine ql hH b4 ?_;refine qp (o:=0) ?_;refine qT hH aB fun st hH=>?_;dsimp only[u2,u1,u3,u4,setMany,u5,u6,D.cells,Nat.reduceAdd,aG,aq,bB,ay] at hH;refine qe hK ?_;exact⟨⟨xn,at_,c⟩,_,rfl,hH,by unfold bK;simp only[hi];rw[if_neg h7,if_neg h2,if_pos h3];rfl⟩
    ·refine qq<|qj fun K hK=>qg ?_;refine qm ?_;refine qe hK ?_;refine af.cond (by rfl) (fun h4=>?_) (fun h4=>?_)<;>try simp only[beq_iff_eq,beq_eq_false_iff_ne,ne_eq] at h4
     ·obtain⟨_,zi,hx0,hx1⟩:=(((lg.resolve_left h7).resolve_left (by omega)).resolve_left (by omega)).resolve_right (by omega);obtain⟨xn,rfl⟩:=Int.eq_ofNat_of_zero_le hx0
      obtain⟨bd,S9⟩:∃v,aW[at_]?=some v:=⟨aW[at_]'(by omega),List.getElem?_eq_getElem _⟩
      have hO:=ei S9;refine qj fun K hK=>qp (o:=1) ?_;refine ql hH b4 ?_;refine qm ?_;refine qg ?_;refine qp (o:=3) ?_;refine ql hH fW ?_;refine qp (o:=1) ?_;refine ql hH eF ?_;refine qi hH GV fun Uc PJ=>?_;refine qo hH GV ?_;refine qp (o:=2) ?_;refine ab.F3 (m:=10) (s:=1) (i:=xn) (o:=2+xn) rfl (ev rfl) (ev rfl) rfl rfl (by omega) (by omega) (ae rfl _) ?_;refine ab.mO hH rfl (ev rfl) (ev rfl) rfl (by exact rfl) aB (by show 2+xn+1≤12;omega) (.inl hF) (fun st hH=>?_);change Has _ _ _ (.box k7 (.mem 0 false (setMany (_::_::ay c) (2+xn) [.int .i64 bd]))::_) at hH;rw[Au (by omega)] at hH;refine qe hK ?_;refine⟨⟨pc+1,at_,tV c xn bd⟩,_,rfl,hH,by unfold bK;simp only[hi];rw[if_neg h7,if_neg h2,if_neg h3,if_pos h4];simp[List.getD_eq_getElem?_getD,S9]⟩
     ·refine qq<|qj fun K hK=>qg ?_;refine qm ?_;refine qe hK ?_;refine af.cond (by rfl) (fun h5=>?_) (fun h5=>?_)<;>try simp only[beq_iff_eq,beq_eq_false_iff_ne,ne_eq] at h5
      ·refine qq<|qj fun K hK=>qp (o:=1) ?_;refine ql hH eF ?_;refine qg ?_;refine qe hK ?_
       by_cases ha:at_=0
       ·subst ha;refine af.cond (v:=false) (by dsimp only[Fr.ev,Fr.get,nth,V.look];rfl) (fun h=>by cases h) (fun _=>?_);refine af.skip ?_;exact⟨⟨pc+1,0,c⟩,_,rfl,hH,by unfold bK;simp only[hi];rw[if_neg h7,if_neg h2,if_neg h3,if_neg h4,if_pos h5];rfl⟩
       ·refine qD rfl (by simp;omega) ?_;refine qq<|qj fun K hK=>ab.go (d:=.agg (ay aH)) (st1:=_) rfl rfl rfl (ae rfl _) ?_;refine qS hH cU fun st hH=>?_;dsimp only[u2,u1,u3,u4,setMany,u5,u6,D.cells,Nat.reduceAdd,aG,aq,bB,ay] at hH;refine qm ?_;refine qe hK<|af.ret ⟨rx,_,_,_,hH.cN rfl cU rfl rfl,rfl,?_⟩;have hS:bK p.code gs aW ⟨pc,at_,c⟩=.more []:=by unfold bK;simp only[hi];rw[if_neg h7,if_neg h2,if_neg h3,if_neg h4,if_pos h5,if_neg ha]
        unfold fg;rw[hS];exact⟨rfl,fz,hH.drop 4⟩
      ·refine qq<|qj fun K hK=>qg ?_;refine qm ?_;refine qe hK ?_;refine af.cond (by rfl) (fun h6=>?_) (fun h6=>?_)<;>try simp only[beq_iff_eq,beq_eq_false_iff_ne,ne_eq] at h6
       ·refine qq<|qj fun K hK=>qp (o:=1) ?_;refine ql hH eF ?_;refine qm ?_;refine qg ?_;refine qp (o:=2) ?_;refine ql hH fW ?_;refine qn ?_;simp only[List.length_map];refine qg ?_;refine qe hK ?_
        by_cases ha:at_=gs.length
        ·refine qE rfl (by rw[ha];simp) ?_;refine af.skip ?_;exact⟨⟨pc+1,at_,c⟩,_,rfl,hH,by unfold bK;simp only[hi];rw[if_neg h7,if_neg h2,if_neg h3,if_neg h4,if_neg h5,if_pos h6,if_pos ha]⟩
        ·refine qD rfl (by simp;omega) ?_;refine qq<|qj fun K hK=>ab.go (d:=.agg (ay aH)) (st1:=_) rfl rfl rfl (ae rfl _) ?_;refine qS hH cU fun st hH=>?_;dsimp only[u2,u1,u3,u4,setMany,u5,u6,D.cells,Nat.reduceAdd,aG,aq,bB,ay] at hH;refine qm ?_;refine qe hK<|af.ret ⟨rx,_,_,_,hH.cN rfl cU rfl rfl,rfl,?_⟩;have hS:bK p.code gs aW ⟨pc,at_,c⟩=.more []:=by unfold bK;simp only[hi];rw[if_neg h7,if_neg h2,if_neg h3,if_neg h4,if_neg h5,if_pos h6,if_neg ha]
         unfold fg;rw[hS];exact⟨rfl,fz,hH.drop 4⟩
       ·have h1:op=1:=by omega
        refine qq<|qj fun K hK=>qg ?_;refine qm ?_;refine qe hK<|qD rfl (by simp[h1]) ?_
        have kP:∀b,bK p.code gs aW ⟨pc,at_,c⟩=.more b↔(.more (if at_<gs.length∧gA rs ((gs.getD at_ (0,0)).1:Nat)=true then[⟨pc+1,at_+1,c⟩] else[]):zX)=.more b:=by
         intro b;unfold bK;simp only[hi];rw[if_neg h7,if_neg h2,if_neg h3,if_neg h4,if_neg h5,if_neg h6]
        by_cases ha:at_<gs.length
        ·obtain⟨g,hg⟩:∃g,gs[at_]?=some g:=⟨gs[at_]'ha,List.getElem?_eq_getElem _⟩
         have hO:(gs.map a_)[at_]?=some (a_ g):=by rw[List.getElem?_map,hg];rfl
         have wD:gs.getD at_ (0,0)=g:=by rw[List.getD_eq_getElem?_getD,hg];rfl
         have dc:decide ((at_:Int)≥(gs.length:Nat))=false:=by rw[decide_eq_false];simp;omega
         rw[wD] at kP;refine qq<|qq<|af.jy 114 (.bool (!gA rs (g.1:Nat))) [] ?_ (fun ff tmp gh=>?_)
         ·refine qp (o:=1) ?_;refine ql hH eF ?_;refine qm ?_;refine qg ?_;refine qp (o:=2) ?_;refine ql hH fW ?_;refine qn ?_;simp only[List.length_map];refine qg ?_;refine qm ?_;refine qp (o:=3) ?_ (hg:=wi dc);refine ql hH b4 ?_ (hg:=wi dc);refine qm ?_ (hg:=wi dc);refine qg ?_ (hg:=wi dc);refine qp (o:=2) ?_ (hg:=wi dc);refine ql hH fW ?_ (hg:=wi dc);refine qp (o:=1) ?_ (hg:=wi dc);refine ql hH eF ?_ (hg:=wi dc);refine qr (fun Uv S'=>?_) (hg:=wi dc);refine qf (fo:=0) (fun Uu S_=>?_) (hg:=wi dc);refine qR ?_ (hg:=wi dc);refine qv (wK (MQ.rows hH) (by omega)) ?_ (hg:=wi dc);refine qg ?_ (hg:=wi dc);refine qu dc ?_;refine ab.nil (cX ?_ ?_)
          ·dsimp only[aM,List.foldl,nth,u2,u1]
           all_goals(first|rfl|simp)
          ·dsimp only[Fr.aF,Fr.put,Fr.clean,Fr.ev,Fr.get,nth,look,u1,u2,v1,v2,v4]
           all_goals(first|rfl|(simp[dc];done)|(simp_all;done)|(simp[dc];omega)|(simp_all;omega))
         dsimp only[aM,List.foldl,nth,u2,u1];refine af.cond (by assumption) (fun hh=>?_) (fun hh=>?_)<;>try simp only[Bool.not_eq_true',Bool.not_eq_false'] at hh
         ·refine qq<|qj fun K hK=>ab.go (d:=.agg (ay aH)) (st1:=_) rfl rfl rfl (ae rfl _) ?_;refine qS hH cU fun st hH=>?_;dsimp only[u2,u1,u3,u4,setMany,u5,u6,D.cells,Nat.reduceAdd,aG,aq,bB,ay] at hH;refine qm ?_;refine qe hK<|af.ret ⟨rx,_,_,_,hH.cN rfl cU rfl rfl,rfl,?_⟩;have hS:=(kP []).2 (by rw[if_neg (by rintro⟨_,h⟩;rw[h] at hh;cases hh)]);unfold fg;rw[hS];exact⟨rfl,fz,hH.drop 4⟩
         ·refine af.skip<|qj fun K hK=>qp (o:=1) ?_;refine ql hH aB ?_;refine qA ?_;refine qp (o:=1) ?_;refine qT hH aB fun st hH=>?_;dsimp only[u2,u1,u3,u4,setMany,u5,u6,D.cells,Nat.reduceAdd,aG,aq,bB,ay] at hH;refine qe hK ?_;exact⟨⟨pc+1,at_+1,c⟩,_,rfl,hH,(kP _).2 (by rw[if_pos ⟨ha,by simpa using hh⟩])⟩
        ·have dc:decide ((at_:Int)≥(gs.length:Nat))=true:=by rw[decide_eq_true];simp;omega
         refine qq<|qq<|af.jy 114 (.bool true) [] ?_ (fun ff tmp gh=>?_)
         ·refine qp (o:=1) ?_;refine ql hH eF ?_;refine qm ?_;refine qg ?_;refine qp (o:=2) ?_;refine ql hH fW ?_;refine qn ?_;simp only[List.length_map];refine qg ?_;refine qm ?_;refine qs ?_ (hg:=wn dc);refine qs ?_ (hg:=wn dc);refine qs ?_ (hg:=wn dc);refine qs ?_ (hg:=wn dc);refine qs ?_ (hg:=wn dc);refine qs ?_ (hg:=wn dc);refine qs ?_ (hg:=wn dc);refine qs ?_ (hg:=wn dc);refine qs ?_ (hg:=wn dc);refine qs ?_ (hg:=wn dc);refine qs ?_ (hg:=wn dc);refine qs ?_ (hg:=wn dc);refine qs ?_ (hg:=wn dc);refine qt dc ?_;refine ab.nil (cX ?_ ?_)
          ·dsimp only[aM,List.foldl,nth,u2,u1]
           all_goals(first|rfl|simp)
          ·dsimp only[Fr.aF,Fr.put,Fr.clean,Fr.ev,Fr.get,nth,look,u1,u2,v1,v2,v4]
           all_goals(first|rfl|(simp[dc];done)|(simp_all;done)|(simp[dc];omega)|(simp_all;omega))
         dsimp only[aM,List.foldl,nth,u2,u1];refine qB ?_;refine qq<|qj fun K hK=>ab.go (d:=.agg (ay aH)) (st1:=_) rfl rfl rfl (ae rfl _) ?_;refine qS hH cU fun st hH=>?_;dsimp only[u2,u1,u3,u4,setMany,u5,u6,D.cells,Nat.reduceAdd,aG,aq,bB,ay] at hH;refine qm ?_;refine qe hK<|af.ret ⟨rx,_,_,_,hH.cN rfl cU rfl rfl,rfl,?_⟩;have hS:=(kP []).2 (by rw[if_neg (fun h=>ha h.1)]);unfold fg;rw[hS];exact⟨rfl,fz,hH.drop 4⟩
 ·rintro fr st ⟨t',tmp,hfr,hH,hS⟩;rw[hfr];clear hfr;generalize dw fr=ee;clear fr;obtain⟨N_,TH,c'⟩:=t';dsimp only[bB,ay] at hH;refine qq<|qj fun K hK=>qm ?_;refine qm ?_;refine qg ?_;refine qp (o:=5) ?_;refine ql hH fW ?_;refine ab.bf (m:=12) hH rfl (ev rfl) (by exact aB) (by dsimp only[List.drop_succ_cons,List.drop_zero,List.take_succ_cons,List.take_zero,aG,aq,bB,ay]<;>rfl) rfl rfl (ae rfl _) ?_;refine qh (s:=12) (vs:=[_]) hH fun k126 st Ti hH=>?_;refine ab.bZ (s:=12) hH rfl (ev rfl) (ev rfl) (by exact GV) (by exact hH.rows (by exact aB)) rfl rfl rfl rfl rfl rfl rfl ⟨(Nat.le_of_ble_eq_true rfl),(Nat.le_of_ble_eq_true rfl)⟩ (fun _=>(ae rfl _)) (by simp only[List.length_cons,List.length_nil,List.length_map,List.length_reverse]<;>omega) (by exact .inl hF) (fun OA st hH=>?_);dsimp only[u2,u1,u3,u4,setMany,u5,u6,D.cells,Nat.reduceAdd,aG,aq,bB,ay] at hH;refine qg ?_;refine qp (o:=5) ?_;refine qT hH l7 (fun st hH=>?_) (gG:=hH.dV GV);dsimp only[u2,u1,u3,u4,setMany,u5,u6,D.cells,Nat.reduceAdd,aG,aq,bB,ay] at hH;refine qe hK<|qq<|qj fun K hK=>ab.go (d:=.agg (ay aH)) (st1:=_) rfl rfl rfl (ae rfl _) ?_;refine qS hH eF fun st hH=>?_;dsimp only[u2,u1,u3,u4,setMany,u5,u6,D.cells,Nat.reduceAdd,aG,aq,bB,ay] at hH;refine qm ?_;refine qe hK<|af.ret ⟨rx,_,_,_,hH.cN rfl eF rfl rfl,rfl,?_⟩;unfold fg;rw[hS];refine⟨rfl,OA,?_⟩;have Pq:((([⟨N_,TH,c'⟩]:List ft)++cg).reverse.map bB)=cg.reverse.map bB++[bB ⟨N_,TH,c'⟩]:=by simp
  rw[Pq];exact hH.drop 5
end Go.Proofs.Ytbdnabmmlbiomaa
