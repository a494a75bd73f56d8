/-
 What Compile makes is right; what its rules reach: the ends.
-/
import Derived.Test.YtbdnabmmlbiomaaXGQh
import Derived.Test.YtbdnabmmlbiomaaXM2
import Derived.DataReads
import Derived.ChangeOld
import GoSem.ClaimChange
import Derived.Below
import Derived.Test.YtbdnabmmlbiomaaRows
import Derived.Test.YtbdnabmmlbiomaaXGQa
import Derived.Test.YtbdnabmmlbiomaaXGUb
set_option maxRecDepth 100000
set_option linter.unusedSimpArgs false
set_option linter.unusedVariables false
set_option maxHeartbeats 4000000
set_option linter.unusedSectionVars false
set_option linter.unnecessarySimpa false
namespace Go.Proofs.Ytbdnabmmlbiomaa
open Go.V Go
theorem yV {lo hi u:Nat} {i:aG} (h:cM lo hi i) (h1:lo≤u+1) (h2:u+1≤hi):∀v∈cu u i,(lo:Int)≤v∧v≤hi:=by
 intro v hv;unfold cu at hv
 rcases h with⟨a,_⟩|⟨a,_,c,d⟩|⟨a,_,_,d⟩|⟨a,_⟩|⟨a,_⟩
 ·rw[if_neg (by omega),if_neg (by omega),if_neg (by omega)] at hv;simp only[List.mem_cons,List.not_mem_nil,or_false] at hv;omega
 ·rw[if_pos a] at hv;simp only[List.mem_cons,List.not_mem_nil,or_false] at hv
  rcases hv with rfl|rfl<;>omega
 ·rw[if_neg (by omega),if_pos a] at hv;simp only[List.mem_cons,List.not_mem_nil,or_false] at hv;omega
 ·rw[if_neg (by omega),if_neg (by omega),if_neg (by omega)] at hv;simp only[List.mem_cons,List.not_mem_nil,or_false] at hv;omega
 ·rw[if_neg (by omega),if_neg (by omega),if_neg (by omega)] at hv;simp only[List.mem_cons,List.not_mem_nil,or_false] at hv;omega
theorem uB {lo hi n ns pc:Nat} {i:aG} (h:cM lo hi i) (h1:hi<n) (h2:pc+1<n):da n ns pc i=true:=by
 have Gb:∀v:Int,(lo:Int)≤v→v≤hi→ot v n=true:=fun v a b=>dv.2 ⟨by omega,by omega⟩;have hd:decide (((pc+1:Nat):Int)<n)=true:=by rw[decide_eq_true_eq];omega
 unfold da
 rcases h with⟨a,b,c,d⟩|⟨a,b,c,d⟩|⟨a,b,c,d⟩|⟨a,b,c,d⟩|⟨a,b,c,d⟩
 ·rw[if_pos a,hd,b,c,d];rfl
 ·rw[if_neg (by omega),if_pos a,b,Gb _ c.1 c.2,Gb _ d.1 d.2];rfl
 ·rw[if_neg (by omega),if_neg (by omega),if_pos a,b,c,Gb _ d.1 d.2];rfl
 ·rw[if_neg (by omega),if_neg (by omega),if_neg (by omega),if_pos a,b,c,hd,dv.2 ⟨d.1,d.2⟩];rfl
 ·rw[if_neg (by omega),if_neg (by omega),if_neg (by omega),if_neg (by omega),if_pos a,b,c,hd,d];rfl
theorem lK {t:Tr} {b r o:Nat} {q:aG} (h1:t.ok) (h2:BO t.flat) (h:(dQ t b r)[o]?=some q):(o<t.sz+2∧cM b (b+t.sz+2) q)∨(o=t.sz+2∧q=cH 7 (r:Nat) 0 []):=by
 have hl:=b9 t (b+1) h1;have hA:dQ t b r=(cH 4 0 0 []::(aO t (b+1)++[cH 4 1 0 []]))++[cH 7 (r:Nat) 0 []]:=by unfold dQ;simp
 have VV:(cH 4 0 0 []::(aO t (b+1)++[cH 4 1 0 []])).length=t.sz+2:=by simp[hl]
 rw[hA] at h
 by_cases ho:o<t.sz+2
 ·rw[List.getElem?_append_left (by omega)] at h;refine .inl ⟨ho,?_⟩;have hm:=List.mem_of_getElem? h
  rcases List.mem_cons.1 hm with rfl|hm
  ·exact cM.save (by omega)
  ·rcases List.mem_append.1 hm with hm|hm
   ·exact(iQ t (b+1) h1 h2 q hm).mono (by omega) (by omega)
   ·simp only[List.mem_cons,List.not_mem_nil,or_false] at hm;subst hm;exact cM.save (by omega)
 ·rw[List.getElem?_append_right (by omega),VV] at h;have h0:=bt h;simp only[List.length_cons,List.length_nil] at h0;have qG:o=t.sz+2:=by omega
  refine .inr ⟨qG,?_⟩;rw[qG,Nat.sub_self] at h;exact(Option.some.inj h).symm
structure NJ (p:Pg) (r s e:Nat):Prop where
 st:p.az[r]?=some (s:Int)
 se:s<e
 el:e≤p.code.length
 nx:∀b':Int,p.az[r+1]?=some b'→b'=(e:Int)
 la:r+1=p.az.length→p.code.length=e
 mt:p.code[e-1]?=some (cH 7 (r:Nat) 0 [])
 fi:(nO p (r:Nat))[0]?=some (s:Int)
 lt:(nO p (r:Nat))[(nO p (r:Nat)).length-1]?=some ((e-1:Nat):Int)
theorem yl {X:List Int} {a b:Int} (hp:X.Pairwise (·<·)) (ha:a∈X) (hb:b∈X) (h:∀v∈X,a≤v∧v≤b):X[0]?=some a∧X[X.length-1]?=some b:=by
 obtain⟨i,hi⟩:=List.getElem?_of_mem ha;obtain⟨j,hj⟩:=List.getElem?_of_mem hb;have hil:=bt hi;have jW:=bt hj
 have hlt:∀u v (x y:Int),u<v→X[u]?=some x→X[v]?=some y→x<y:=fun u v x y TG hx hy=>by
  have:=List.pairwise_iff_getElem.1 hp u v (bt hx) (bt hy) TG;have ex:X[u]'(bt hx)=x:=Option.some.inj ((List.getElem?_eq_getElem _).symm.trans hx);have ey:X[v]'(bt hy)=y:=Option.some.inj ((List.getElem?_eq_getElem _).symm.trans hy);rw[ex,ey] at this;exact this
 constructor
 ·obtain⟨x,hx⟩:∃x,X[0]?=some x:=⟨X[0]'(by omega),List.getElem?_eq_getElem _⟩
  have:=h x (List.mem_of_getElem? hx)
  by_cases h0:i=0
  ·rw[←h0];exact hi
  ·have:=hlt 0 i x a (by omega) hx hi;omega
 ·obtain⟨x,hx⟩:∃x,X[X.length-1]?=some x:=⟨X[X.length-1]'(by omega),List.getElem?_eq_getElem _⟩
  have:=h x (List.mem_of_getElem? hx)
  by_cases h0:j=X.length-1
  ·rw[←h0];exact hj
  ·have:=hlt j (X.length-1) b x (by omega) hj hx;omega
theorem vO {parts:List (List c_)} (hl:parts.length≤8) (he:(bj parts).e=0) (hcl:(bj parts).code.length≤400):
  cj (ng (bj parts).code (bj parts).az)∧(bj parts).az.length=parts.length∧∀r,r<parts.length→∃s e,NJ (ng (bj parts).code (bj parts).az) r s e:=by
 have hY:bj parts=dU parts 0 [] []:=by unfold bj;rw[if_neg (by omega)]
 rw[hY] at he hcl⊢;obtain⟨C,B,h1,h2,h3⟩:=oR parts 0 [] [] he;simp only[List.nil_append] at h1 h2;simp only[List.length_nil] at h3;rw[h1] at hcl;rw[h1,h2];have N7:=h3.bl
 have hsh:∀pc i,C[pc]?=some i→da C.length B.length pc i=true:=by
  intro pc i hi;obtain⟨j,q1,t,b,q2,q3,q4,q5,q6,q7,q8,q9⟩:=h3.al pc i hi;rw[Nat.zero_add] at q9
  rcases lK q3 q4 q9 with⟨g1,g2⟩|⟨g1,g2⟩
  ·exact uB g2 (by omega) (by omega)
  ·rw[g2];have:ot ((j:Nat):Int) B.length=true:=dv.2 ⟨by omega,by omega⟩;unfold da cH;simp[this]
 have Ni:gS C:=mb (p:=ng C B) hsh
 have AL:∀r,r<parts.length→∃s e:Nat,B[r]?=some (s:Int)∧s<e∧e≤C.length∧(∀b':Int,B[r+1]?=some b'→b'=(e:Int))∧(r+1=parts.length→C.length=e)∧C[e-1]?=some (cH 7 (r:Nat) 0 [])∧(∀u:Nat,(cg C (s:Nat))[u]?=some true→s≤u∧u<e)∧(cg C (s:Nat))[s]?=some true∧(cg C (s:Nat))[e-1]?=some true∧∀u i,s≤u→u<e→C[u]?=some i→i.op=7→i.x=(r:Int):=by
  intro r hr;obtain⟨t,b,q1,q2,q3,q4,q5,q6,pre,post,q7,q8⟩:=h3.el r hr;rw[Nat.zero_add] at q6 q8;rw[Nat.zero_add] at q7;have va:=jK (b:=b) (r:=r) q1;have Lf:C.length=b+(t.sz+3)+post.length:=by rw[q7,List.length_append,List.length_append,va,q8]
  have gN:∀u,b≤u→u<b+t.sz+3→C[u]?=(dQ t b r)[u-b]?:=fun u g1 g2=>by
   rw[q7,List.append_assoc,List.getElem?_append_right (by omega),q8,List.getElem?_append_left (by omega)]
  have iK:eL C b (dQ t b r):=⟨post,by rw[q7,List.append_assoc,←q8,List.drop_left]⟩
  have Gb:∀u:Nat,(cg C (b:Nat))[u]?=some true→b≤u∧u<b+t.sz+3:=by
   unfold cg;refine wu (I:=fun u=>b≤u∧u<b+t.sz+3) (fun u i hu hi v hv=>?_) _ _ _ (fun v hv=>?_) (fun u hu=>?_)
   ·rw[gN u hu.1 hu.2] at hi
    rcases lK q1 q2 hi with⟨g1,g2⟩|⟨g1,g2⟩
    ·have:=yV (u:=u) g2 (by omega) (by omega) v hv;omega
    ·rw[g2] at hv;have:cu u (cH 7 (r:Nat) 0 [])=[]:=by unfold cu cH;simp
     rw[this] at hv;cases hv
   ·simp only[List.mem_cons,List.not_mem_nil,or_false] at hv;subst hv;rw[Int.toNat_natCast];omega
   ·rw[List.getElem?_replicate] at hu
    split at hu<;>cases hu
  have hs:=tx (s:=b) Ni (by omega)
  have UC:C[b+t.sz+3-1]?=some (cH 7 (r:Nat) 0 []):=by
   rw[gN _ (by omega) (by omega)];unfold dQ;have sA:=b9 t (b+1) q1;rw[show b+t.sz+3-1-b=(t.sz+1)+1 by omega,List.getElem?_cons_succ,List.getElem?_append_right (by omega),sA,show t.sz+1-t.sz=1 by omega]
   rfl
  have Mx:Path C b (b+t.sz+3-1):=by
   unfold dQ at iK;have p1:Path C b (b+1):=Path.wh iK.head (by show(4:Int)≠2∧(4:Int)≠3∧(4:Int)≠7;decide);have p2:=y9 (C:=C) _ t (Nat.le_refl _) (b+1) q1 iK.tail.left;have h4:=iK.tail.right;rw[b9 t _ q1] at h4;have p3:Path C (b+1+t.sz) (b+1+t.sz+1):=Path.wh h4.head (by show(4:Int)≠2∧(4:Int)≠3∧(4:Int)≠7;decide);rw[show b+t.sz+3-1=b+1+t.sz+1 by omega];exact p1.trans (p2.trans p3)
  refine⟨b,b+t.sz+3,q3,by omega,by omega,fun b' dw=>q5 b' dw,q6,UC,Gb,hs,yu Ni ⟨by omega,by omega⟩ Mx hs,fun u i g1 g2 hi ho=>?_⟩;rw[gN u g1 g2] at hi
  rcases lK q1 q2 hi with⟨_,g3⟩|⟨_,g3⟩
  ·rcases g3 with⟨a,_⟩|⟨a,_⟩|⟨a,_⟩|⟨a,_⟩|⟨a,_⟩<;>omega
  ·rw[g3];rfl
 have hR:cj (ng C B):=by
  refine⟨hcl,by show B.length≤8;omega,hsh,fun v hv=>?_,fun r s hs pc i Fk Mo hi ho=>?_⟩
  ·obtain⟨r,hr⟩:=List.getElem?_of_mem (show v∈B from hv);obtain⟨s,e,g1,g2,g3,_⟩:=AL r (by rw[←N7];exact bt hr);rw[g1] at hr;cases hr;show(0:Int)≤(s:Int)∧(s:Int)<(C.length:Int);omega
  ·have hs:B[r]?=some s:=hs;obtain⟨s',e,g1,g2,g3,g4,g5,g6,g7,g8,g9,g10⟩:=AL r (by rw[←N7];exact bt hs);rw[g1] at hs;cases hs;obtain⟨k1,k2⟩:=g7 pc Mo;exact g10 pc i k1 k2 hi ho
 refine⟨hR,by rw[N7],fun r hr=>?_⟩;obtain⟨s,e,g1,g2,g3,g4,g5,g6,g7,g8,g9,g10⟩:=AL r hr
 have Sh:nO (ng C B) (r:Nat)=nV 0 (cg C (s:Nat)):=by
  unfold nO;have hi:ot ((r:Nat):Int) (ng C B).az.length=true:=dv.2 ⟨by omega,by show((r:Nat):Int)<(B.length:Nat);omega⟩;rw[sM hR,hi]
  have Ld:(ng C B).az.getD ((r:Nat):Int).toNat 0=(s:Int):=by
   rw[Int.toNat_natCast,List.getD_eq_getElem?_getD];show(B[r]?).getD 0=_;rw[g1];rfl
  rw[Ld];rfl
 have Gc:=yl (pK (cg C (s:Nat)) 0) (a:=(s:Int)) (b:=((e-1:Nat):Int)) (ij.2 ⟨s,g8,by rw[Nat.zero_add]⟩) (ij.2 ⟨e-1,g9,by rw[Nat.zero_add]⟩) (fun v hv=>by
  obtain⟨k,k1,k2⟩:=ij.1 hv;have:=g7 k k1
  omega)
 exact⟨s,e,g1,g2,g3,fun b' dw=>g4 b' dw,fun gD=>g5 (by rw[←N7];exact gD),g6,by rw[Sh];exact Gc.1,by rw[Sh];exact Gc.2⟩
def kq (fr:Go.V.Fr) (k:Nat):Go.V.D:=Go.V.nth .bp fr.loc k
theorem qX:∀(ls:List (List c_)) (r:Nat) (c:List aG) (s:List Int),(dU ls r c s).e≠0→(dU ls r c s).code=[]∧(dU ls r c s).az=[]
 |[],r,c,s,h=>by rw[l_] at h;exact absurd rfl h
 |l::ls,r,c,s,h=>by
  rw[dU] at h⊢
  split
  ·exact⟨rfl,rfl⟩
  ·rename_i h1;rw[if_neg h1] at h
   split
   ·exact⟨rfl,rfl⟩
   ·rename_i h2;rw[if_neg h2] at h;exact qX ls _ _ _ h
theorem mJ {ls:List (List c_)} (h:(bj ls).e≠0):(bj ls).code=[]∧(bj ls).az=[]:=by
 unfold bj at h⊢
 split
 ·exact⟨rfl,rfl⟩
 ·rename_i h1;rw[if_neg h1] at h;exact qX _ _ _ _ h
theorem vu:cj (ng [] []):=⟨by simp[ng],by simp[ng],fun pc i h=>by simp[ng] at h,fun v h=>by simp[ng] at h,fun r s h=>by simp[ng] at h⟩
theorem pq {ls:List (List c_)} (hl:ls.length≤8) (hcl:(bj ls).code.length≤400):cj (ng (bj ls).code (bj ls).az):=by
 by_cases he:(bj ls).e=0
 ·exact(vO hl he hcl).1
 ·rw[(mJ he).1,(mJ he).2];exact vu
theorem yE {s0:St} {x:D} {ps:List (List UInt8)} (hx:V.Rows s0 1 x (ps.map x9)) (hl:ps.length≤1048576) (hb:∀b∈ps,b.length≤1048576):∃d,Ev pv 8 [x] s0 d s0∧∃(p:Pg) (ok:Bool),d=.tup [p.d,.bool ok]∧p.ok∧cj p:=by
 refine Ev.ET rfl VY rfl rfl rfl ?_;dsimp only[u3,u4,List.length,Nat.reduceSub,Nat.reduceAdd,w1,w2];obtain⟨b_,hF,hH⟩:=ri s0;generalize ai .ro s0=S at*;have hx:=Arg.of hx b_;refine qq<|qj fun K hK=>qa hH fun k2 st hk2 hH=>?_;refine qm ?_;refine qe hK<|qq<|qj fun K hK=>qm ?_;refine qe hK<|qq<|qq<|qj fun K hK=>qm ?_;refine qe hK ?_;have hH:Has s0.bs.length S st (.aJ .nul 1 (([]:List (List c_)).map du)::.box k2 (.mem 0 false [.nul,.nul])::[]):=hH.eo 1;refine af.block<|af.loop (fun mm fr st=>∃(i:Nat) (ld:D) (parts:List (List c_)),fr.clean=⟨11,[x,kq fr 1,.ptr k2 0 0,.bool false,ld,.int .i64 (i:Nat),kq fr 6,kq fr 7,kq fr 8,kq fr 9,kq fr 10],[]⟩∧Has s0.bs.length S st [.aJ ld 1 (parts.map du),.box k2 (.mem 0 false [.nul,.nul])]∧(i+mm=8)∧(∀l∈parts,(∀n∈l,s_ n)∧l.length≤500)∧(parts.length≤i)) (8) ?_ ?_
 ·exact⟨0,.nul,[],rfl,hH,by omega,fun l hl=>(by cases hl),by simp⟩
 rintro mm fr st ⟨i,ld,parts,hfr,hH,hi,hp,jf⟩;rw[hfr];clear hfr;generalize kq fr=ee;clear fr;refine qq<|qq<|af.j8 19 (.bool (decide (((i:Nat):Int)<((ps.length:Nat):Int)) &&decide (((i:Nat):Int)<8))) [] ?_ (fun ff tmp gB=>?_)
 ·refine qm ?_;refine qm ?_;refine qn ?_;simp only[List.length_map];refine qg ?_;refine qm ?_;refine ab.two 16 rfl (fun iP=>?_) (fun iP=>?_)
  ·refine qm ?_ (hg:=wi iP);refine qg ?_ (hg:=wi iP);refine qt iP ?_;refine ab.nil (cP ?_ ?_)
   ·dsimp only[aI,List.foldl,nth,u2,u1]
    all_goals(first|rfl|simp)
   ·dsimp only[Fr.aC,Fr.put,Fr.clean,Fr.ev,Fr.get,nth,V.look,u1,u2,v1,v2,v3,v4,v5,v6,v7,List.length,u3,u4,Nat.reduceSub,Nat.reduceAdd,List.map]
    all_goals(simp_all;done)
  ·refine qs ?_ (hg:=wn iP);refine qs ?_ (hg:=wn iP);refine qu iP ?_;refine ab.nil (cP ?_ ?_)
   ·dsimp only[aI,List.foldl,nth,u2,u1]
    all_goals(first|rfl|simp)
   ·dsimp only[Fr.aC,Fr.put,Fr.clean,Fr.ev,Fr.get,nth,V.look,u1,u2,v1,v2,v3,v4,v5,v6,v7,List.length,u3,u4,Nat.reduceSub,Nat.reduceAdd,List.map]
    all_goals(simp_all;omega)
 dsimp only[aI,List.foldl,nth,u2,u1];dsimp only[Fr.aC,Fr.put,Fr.clean,Fr.ev,Fr.get,nth,V.look,u1,u2,v1,v2,v3,v4,v5,v6,v7,List.length,u3,u4,Nat.reduceSub,Nat.reduceAdd,List.map]
 by_cases hlt:i<ps.length∧i<8
 ·obtain⟨b,Kr⟩:∃b,ps[i]?=some b:=⟨ps[i]'hlt.1,List.getElem?_eq_getElem _⟩
  have gD:=B5 Kr;have hbl:=hb b (List.mem_of_getElem? Kr);have xB:(decide (((i:Nat):Int)<((ps.length:Nat):Int)) &&decide (((i:Nat):Int)<8))=true:=by rw[Bool.and_eq_true,decide_eq_true_eq,decide_eq_true_eq];omega
  rw[xB] at gB;refine qB ?_;refine af.skip<|qq<|af.block ?_;obtain⟨_,aH,l,e,w,rfl,hv,vc⟩:=z7 (s0:=st) hbl;refine qq<|qj fun K hK=>qm ?_;refine qm ?_;refine qr fun LW AR=>?_;refine qR ?_;refine qv (aH) ?_;refine qm ?_;refine qg ?_;refine qg ?_;refine qg ?_;refine qm ?_;refine qm ?_;refine qm ?_;refine qe hK<|qq<|qj fun K hK=>qm ?_;refine qg ?_;refine qe hK ?_;refine af.cond (by rfl) (fun he=>?_) (fun he=>?_)<;>try simp only[beq_iff_eq,beq_eq_false_iff_ne,ne_eq] at he
  ·refine qj fun K hK=>qm ?_;refine qm ?_;refine qh (s:=1) (vs:=[_]) hH fun k35 st U3 hH=>?_;refine ab.bR (s:=1) hH rfl (ev rfl) (ev rfl) (by exact b5) (by exact hH.rows (by exact ay)) rfl rfl rfl rfl rfl rfl rfl ⟨(Nat.le_of_ble_eq_true rfl),(Nat.le_of_ble_eq_true rfl)⟩ (fun _=>(ag rfl _)) (by simp only[List.length_cons,List.length_nil,List.length_map]<;>omega) (by exact .inl hF) (fun S3 st hH=>?_);dsimp only[u2,u1,u3,u4,setMany,u5,u6,D.cells,Nat.reduceAdd,du,mK,Pg.d,Pg.cs,ng] at hH;refine qm ?_;refine qe hK ?_;have hH:=hH.drop 1;refine qj fun K hK=>qm ?_;refine qA ?_;refine qm ?_;refine qe hK ?_;refine⟨mm-1,by omega,⟨i+1,S3,parts++[l],rfl,(by rw[List.map_append];exact hH),by omega,?_,by rw[List.length_append];simp only[List.length_cons,List.length_nil];omega⟩⟩;intro l' gb
   rcases List.mem_append.1 gb with gb|gb
   ·exact hp l' gb
   ·simp only[List.mem_cons,List.not_mem_nil,or_false] at gb;subst gb;exact⟨hv,vc⟩
  ·refine af.skip<|qj fun K hK=>qm ?_;refine qA ?_;refine qm ?_;refine qe hK ?_;exact⟨mm-1,by omega,⟨i+1,ld,parts,rfl,hH,by omega,hp,by omega⟩⟩
 ·have xB:(decide (((i:Nat):Int)<((ps.length:Nat):Int)) &&decide (((i:Nat):Int)<8))=false:=by
   rw[Bool.and_eq_false_iff,decide_eq_false_iff_not,decide_eq_false_iff_not];omega
  rw[xB] at gB;refine qC ?_;refine af.exit ?_;obtain⟨aH,a_,hlen⟩:=wB hp (by omega) (hH.rows ay);have hR:=pq (ls:=parts) (by omega) hlen;generalize bj parts=R at*;refine qq<|qj fun K hK=>qm ?_;refine qv (aH) ?_;refine qm ?_;refine qg ?_;refine qg ?_;refine qg ?_;refine qa hH fun k9 st UM hH=>?_;refine qS hH ay fun st hH=>?_;dsimp only[u2,u1,u3,u4,setMany,u5,u6,D.cells,Nat.reduceAdd,du,mK,Pg.d,Pg.cs,ng] at hH;refine qm ?_;refine qm ?_;refine qe hK<|qq<|qj fun K hK=>?_;refine ab.bN (m:=2) hH rfl (ev rfl) (by exact ay) (by dsimp only[List.drop_succ_cons,List.drop_zero,List.take_succ_cons,List.take_zero,du,mK,Pg.d,Pg.cs,ng]<;>rfl) rfl rfl (ag rfl _) ?_;refine qm ?_;refine qg ?_;refine qS hH eV fun st hH=>?_;dsimp only[u2,u1,u3,u4,setMany,u5,u6,D.cells,Nat.reduceAdd,du,mK,Pg.d,Pg.cs,ng] at hH;refine qm ?_;refine qe hK<|af.ret ⟨rx,_,_,hH.nL rfl eV rfl rfl,rl b_ hH (show _=some (D.tup [(ng R.code R.az).d,.bool (R.e==0)]) from rfl),⟨_,_,rfl,a_,hR⟩⟩
end Go.Proofs.Ytbdnabmmlbiomaa
namespace Go.V
open Go.RowKit
def l0 {H:Type}:DataW H→Bool
 | .agg _=>true
 |_=>false
mutual
def s9 {H:Type}:DataW H→List D
 | .lit (.bool b)=>[.bool b]
 | .lit (.int k n)=>[.int k n]
 | .lit (.string l)=>[.str l]
 | .lit _=>[.bp]
 | .nil=>[.nul]
 | .slice elems _=>[.sl (sL elems)]
 | .agg parts=>jC parts
 | .ptr _=>[.bp]
 | .iface _ _=>[.bp]
 | .map _=>[.bp]
 | .held _=>[.bp]
def sL {H:Type}:List (DataW H)→List D
 |[]=>[]
 |d::r=>(if l0 d then .agg (s9 d) else(s9 d).headD .bp)::sL r
def jC {H:Type}:List (DataW H)→List D
 |[]=>[]
 |d::r=>s9 d++jC r
end
def gF {H:Type} (d:DataW H):D:=if l0 d then .agg (s9 d) else(s9 d).headD .bp
theorem oO {H:Type}:∀l:List (DataW H),sL l=l.map gF
 |[]=>rfl
 |d::r=>by simp only[sL,List.map_cons,oO r];rfl
def oQ (P:Program):Nat→List Field→Option Nat
 |o,[]=>some o
 |o,f::fs=>if f.offset=o then oQ P (o+P.cellsOf f.type) fs else none
def EH (P:Program):Nat→TypeId→Bool
 |0,_=>false
 |n+1,t=>match P.underlying t with
  |some .bool=>true
  |some (.int _)=>true
  |some .string=>true
  |some (.slice e)=>EH P n e &&decide (0<P.cellsOf e)
  |some (.struct fs)=>(oQ P 0 fs.toList==some (P.cellsOf t)) &&fs.toList.all fun f=>EH P n f.type
  |some (.array m e)=>EH P n e &&(P.cellsOf t==m*P.cellsOf e)
  |_=>false
structure CR (w:World) (Z:Nat→Prop) (cs:List D) (vs:List Value):Prop where
 len:cs.length=vs.length
 one:∀v∈vs,v.oneCell'=true
 onec:∀c∈cs,c.cells?=some [c]
 rel:∀(i:Nat) c v,cs[i]?=some c→vs[i]?=some v→IR w Z c v
theorem CR.nil {w:World} {Z:Nat→Prop}:CR w Z [] []:=⟨rfl,by simp,by simp,by simp⟩
theorem CR.single {w:World} {Z:Nat→Prop} {c:D} {v:Value} (h:IR w Z c v) (h1:v.oneCell'=true) (h2:c.cells?=some [c]):CR w Z [c] [v]:=
 ⟨rfl,by simpa using h1,by simpa using h2,fun i c' v' hc hv=>by
  cases i with
  |zero=>simp at hc hv;subst hc;subst hv;exact h
  |succ i=>simp at hc⟩
theorem CR.append {w:World} {Z:Nat→Prop} {cs cs':List D} {vs Lk:List Value} (h:CR w Z cs vs) (g:CR w Z cs' Lk):CR w Z (cs++cs') (vs++Lk):=by
 refine⟨by simp[h.len,g.len],fun v hv=>?_,fun c hc=>?_,fun i c v hc hv=>?_⟩
 ·rcases List.mem_append.1 hv with hv|hv
  ·exact h.one v hv
  ·exact g.one v hv
 ·rcases List.mem_append.1 hc with hc|hc
  ·exact h.onec c hc
  ·exact g.onec c hc
 ·rw[List.getElem?_append] at hc hv;have:=h.len
  split at hc
  ·rw[if_pos (by omega)] at hv;exact h.rel i c v hc hv
  ·rw[if_neg (by omega)] at hv;rw[←this] at hv;exact g.rel _ c v hc hv
theorem tH {H:Type} {P:Program} {w:World} {Z:Nat→Prop} {f:Field→Option (DataW H×List MemPlace)} {cs:List Value}:∀{fs:List Field} {o e:Nat} {xs:List (DataW H×List MemPlace)},oQ P o fs=some e→e≤cs.length→fs.mapM f=some xs→
  (∀g∈fs,∀x,f g=some x→CR w Z (s9 x.1) ((cs.drop g.offset).take (P.cellsOf g.type)))→CR w Z (jC (xs.map (·.1))) ((cs.drop o).take (e-o))∧o≤e
 |[],o,e,xs,hc,_,hm,_=>by
  simp[oQ] at hc;subst hc;simp at hm;subst hm;simp[jC];exact CR.nil
 |g::fs,o,e,xs,hc,he,hm,hx=>by
  simp only[oQ] at hc
  split at hc
  ·rename_i ho;rw[List.mapM_cons] at hm
   cases h1:f g with
   |none=>rw[h1] at hm;simp at hm
   |some x=>
    rw[h1] at hm
    cases h2:fs.mapM f with
    |none=>rw[h2] at hm;simp at hm
    |some ys=>
     rw[h2] at hm;simp at hm;subst hm;obtain⟨ih,hle⟩:=tH hc he h2 fun g' Vk=>hx g' (List.mem_cons_of_mem _ Vk);have hg:=hx g (List.mem_cons_self ..) x h1;rw[ho] at hg;refine⟨?_,by omega⟩;simp only[List.map_cons,jC]
     have:(cs.drop o).take (e-o)=(cs.drop o).take (P.cellsOf g.type)++(cs.drop (o+P.cellsOf g.type)).take (e-(o+P.cellsOf g.type)):=by
      rw[←List.drop_drop,show e-o=P.cellsOf g.type+(e-(o+P.cellsOf g.type)) by omega,List.take_add]
     rw[this];exact hg.append ih
  ·cases hc
theorem uG {H:Type} {w:World} {Z:Nat→Prop} {s:Nat} {f:Nat→Option (DataW H×List MemPlace)} {cs:List Value}:∀{m k:Nat} {xs:List (DataW H×List MemPlace)},(List.range' k m).mapM f=some xs→(k+m)*s≤cs.length→
  (∀i x,f i=some x→CR w Z (s9 x.1) ((cs.drop (i*s)).take s))→CR w Z (jC (xs.map (·.1))) ((cs.drop (k*s)).take (m*s))
 |0,k,xs,hm,_,_=>by simp at hm;subst hm;simp[jC];exact CR.nil
 |m+1,k,xs,hm,hl,hx=>by
  rw[List.range'_succ,List.mapM_cons] at hm
  cases h1:f k with
  |none=>rw[h1] at hm;simp at hm
  |some x=>
   rw[h1] at hm
   cases h2:(List.range' (k+1) m).mapM f with
   |none=>rw[h2] at hm;simp at hm
   |some ys=>
    rw[h2] at hm;simp at hm;subst hm;have ih:=uG h2 (by rw[show k+1+m=k+(m+1) by omega];exact hl) hx;simp only[List.map_cons,jC];rw[show(m+1)*s=s+m*s by rw[Nat.add_mul];omega,List.take_add,List.drop_drop,show k*s+s=(k+1)*s by rw[Nat.add_mul];omega];exact(hx k x h1).append ih
theorem cells_one {c:D} (h:c.cells?=some [c]):c.cells=[c]:=by
 cases c<;>first|rfl|cases h|(simp only[D.cells?,Option.some.injEq] at h;simpa only[D.cells] using h)
theorem uZ (b off n:Nat):(⟨b,off,none⟩:Addr).add n=⟨b,off+n,none⟩:=by
 cases n<;>simp[Addr.add]
theorem mZ {H:Type} {enc:TypeId×Value→H} {P:Program} {w:World} {spare:Nat→Bool} {held:Bool}:∀(fuel:Nat) (t:TypeId) (cs:List Value) (d:DataW H) (ps:List MemPlace) (n:Nat),DataW.trod enc P w 0 spare held fuel t cs=some (d,ps)→EH P n t=true→
  CR w (fun b=>b<w.heap.size) (s9 d) cs∧cs.length=(match P.underlying t with|some (.struct _)|some (.array _ _)=>P.cellsOf t|_=>1)∧(l0 d=(match P.underlying t with|some (.struct _)|some (.array _ _)=>true|_=>false))
 |0,t,cs,d,ps,n,h,_=>by simp[DataW.trod] at h
 |fuel+1,t,cs,d,ps,0,h,ht=>by simp[EH] at ht
 |fuel+1,t,cs,d,ps,n+1,h,ht=>by
  simp only[EH] at ht;unfold DataW.trod at h
  cases hu:P.underlying t with
  |none=>rw[hu] at ht;simp at ht
  |some u=>
   rw[hu] at h ht
   cases u with
   |bool=>
    rcases cs with _|⟨v,_|⟨v2,cs⟩⟩<;>try(simp at h;done)
    cases v<;>simp at h
    obtain⟨rfl,rfl⟩:=h;exact⟨CR.single (.bool _) rfl rfl,rfl,rfl⟩
   |int k=>
    rcases cs with _|⟨v,_|⟨v2,cs⟩⟩<;>try(simp at h;done)
    cases v<;>simp at h
    obtain⟨⟨rfl,_⟩,rfl,rfl⟩:=h;exact⟨CR.single (.int _ _) rfl rfl,rfl,rfl⟩
   |string=>
    rcases cs with _|⟨v,_|⟨v2,cs⟩⟩<;>try(simp at h;done)
    cases v<;>simp at h
    rename_i b;obtain⟨_,rfl,rfl⟩:=h;refine⟨CR.single ?_ rfl rfl,rfl,rfl⟩;have:=IR.str (w:=w) (Z:=fun b=>b<w.heap.size) b.data.toList
    simpa using this
   |slice e=>
    simp only[Bool.and_eq_true,decide_eq_true_eq] at ht
    rcases cs with _|⟨v,_|⟨v2,cs⟩⟩<;>try(simp at h;done)
    cases v<;>try(simp at h;done)
    rename_i a len cap
    cases a with
    |none=>
     cases len<;>cases cap<;>simp at h
     obtain⟨rfl,rfl⟩:=h;exact⟨CR.single .nul rfl rfl,rfl,rfl⟩
    |some a=>
     simp only at h
     split at h
     ·rename_i hc;simp only[Option.bind_eq_some_iff,Option.map_eq_some_iff] at h;obtain⟨elems,he,rest,hr,hd⟩:=h;cases hd;refine⟨?_,rfl,rfl⟩;have hlen:elems.length=len:=by simpa using mapM_some_length he
      have hget:=mapM_some_get he
      have each:∀(i:Nat),i<len→∃x cs,elems[i]?=some x∧w.cells? 0 (a.add (i*P.cellsOf e)) (P.cellsOf e)=some cs∧CR w (fun b=>b<w.heap.size) (s9 x.1) cs∧cs.length=P.cellsOf e∧(l0 x.1=(match P.underlying e with|some (.struct _)|some (.array _ _)=>true|_=>false))∧cs.length=(match P.underlying e with|some (.struct _)|some (.array _ _)=>P.cellsOf e|_=>1):=by
       intro i hi;have h1:=hget i i (by simp[hi]);have h2:elems[i]?=some (elems[i]'(by omega)):=List.getElem?_eq_getElem _;rw[h2] at h1;obtain⟨cs,hY,hx⟩:=Option.bind_eq_some_iff.1 h1;obtain⟨q1,q2,q3⟩:=mZ fuel e cs _ _ n hx ht.1;exact⟨_,cs,h2,hY,q1,(World.cells?_some hY).2.1,q3,q2⟩
      refine CR.single ?_ rfl rfl
      cases len with
      |zero=>
       have:elems=[]:=by cases elems with|nil=>rfl|cons _ _=>simp at hlen
       subst this;exact .emp _ _
      |succ m=>
       have Sg:a.spot=none∧a.block<w.heap.size:=by
        obtain⟨x,cs,_,h2,_,_⟩:=each 0 (by omega);refine⟨?_,?_⟩
        ·have:=(World.cells?_some h2).2.2 0 ht.2;have hl:=(World.cells?_some h2).2.1
         obtain⟨c0,PY⟩:∃c0,cs[0]?=some c0:=⟨cs[0]'(by omega),List.getElem?_eq_getElem _⟩
         rw[PY] at this
         simpa[Addr.add] using World.cell?_spot this
        ·simpa[Addr.add] using World.cells?_block h2 ht.2
       obtain⟨b,off,spot⟩:=a;simp only at Sg;obtain⟨rfl,hb⟩:=Sg
       have hcell:∀(i j:Nat),i<m+1→j<P.cellsOf e→∃x cs v,elems[i]?=some x∧cs[j]?=some v∧w.cell? ⟨b,off+(i*P.cellsOf e+j),none⟩=some v∧CR w (fun b=>b<w.heap.size) (s9 x.1) cs:=by
        intro i j hi hj;obtain⟨x,cs,h1,h2,h3,h4,_⟩:=each i hi;have:=(World.cells?_some h2).2.2 j hj
        obtain⟨v,hv⟩:∃v,cs[j]?=some v:=⟨cs[j]'(by omega),List.getElem?_eq_getElem _⟩
        rw[hv] at this;refine⟨x,cs,v,h1,hv,?_,h3⟩;rw[←this,uZ,uZ,Nat.add_assoc]
       have uy:(sL (elems.map (·.1)))=elems.map fun x=>gF x.1:=by rw[oO,List.map_map];rfl
       have hE:∀(i:Nat) q,(sL (elems.map (·.1)))[i]?=some q→∃x cs,i<m+1∧elems[i]?=some x∧q.cells?=some q.cells∧q.cells=s9 x.1∧CR w (fun b=>b<w.heap.size) (s9 x.1) cs∧cs.length=P.cellsOf e:=by
        intro i q hq;rw[uy,List.getElem?_map] at hq;obtain⟨x,hx,rfl⟩:=Option.map_eq_some_iff.1 hq
        have hi:i<m+1:=by
         rcases Nat.lt_or_ge i (m+1) with h'|h'
         ·exact h'
         ·rw[List.getElem?_eq_none (by omega)] at hx;cases hx
        obtain⟨x',cs,h1,h2,h3,h4,h5,h6⟩:=each i hi;rw[hx] at h1;cases h1;refine⟨x,cs,hi,hx,?_,?_,h3,h4⟩
        ·unfold gF
         split
         ·rfl
         ·rename_i J_
          have sA:(s9 x.1).length=1:=by
           rw[h3.len,h6];rw[h5] at J_
           revert J_
           split<;>simp
          match hd:s9 x.1,sA with
          |[c],_=>have:=h3.onec c (by rw[hd];simp);simp only[List.headD_cons];rw[cells_one this];exact this
        ·unfold gF
         split
         ·rfl
         ·rename_i J_
          have sA:(s9 x.1).length=1:=by
           rw[h3.len,h6];rw[h5] at J_
           revert J_
           split<;>simp
          match hd:s9 x.1,sA with
          |[c],_=>have:=h3.onec c (by rw[hd];simp);simp only[List.headD_cons];exact cells_one this
       have hL:(sL (elems.map (·.1))).length=m+1:=by rw[uy];simp[hlen]
       have hf:=fun(i j:Nat) (hi:i<m+1) (hj:j<P.cellsOf e)=>hcell i j hi hj;have:=IR.sl (w:=w) (Z:=fun b=>b<w.heap.size) (sL (elems.map (·.1))) b off cap (P.cellsOf e) (fun i j=>(w.cell? ⟨b,off+(i*P.cellsOf e+j),none⟩).getD undef) hb (by rw[hL];exact hc.2.1)
        (fun i q hq=>by
         obtain⟨x,cs,h1,h2,h3,h4,h5,h6⟩:=hE i q hq
         exact⟨h3,by rw[h4,h5.len,h6]⟩)
        (fun i q j c hq hj=>by
         obtain⟨x,cs,h1,h2,h3,h4,h5,h6⟩:=hE i q hq
         have jW:j<P.cellsOf e:=by
          rcases Nat.lt_or_ge j (P.cellsOf e) with h'|h'
          ·exact h'
          ·rw[h4,List.getElem?_eq_none (by rw[h5.len,h6];exact h')] at hj;cases hj
         obtain⟨x',cs',v,g1,g2,g3,g4⟩:=hf i j h1 jW;rw[g3]
         exact⟨rfl,g4.one v (List.mem_of_getElem? g2)⟩)
        (fun i q j c hq hj=>by
         obtain⟨x,cs,h1,h2,h3,h4,h5,h6⟩:=hE i q hq
         have jW:j<P.cellsOf e:=by
          rcases Nat.lt_or_ge j (P.cellsOf e) with h'|h'
          ·exact h'
          ·rw[h4,List.getElem?_eq_none (by rw[h5.len,h6];exact h')] at hj;cases hj
         obtain⟨x',cs',v,g1,g2,g3,g4⟩:=hf i j h1 jW;rw[g3];rw[h2] at g1;cases g1
         exact g4.rel j c v (by rw[←h4];exact hj) g2)
       rw[hL] at this;exact this
     ·cases h
   |struct fs=>
    simp only[Bool.and_eq_true,beq_iff_eq,List.all_eq_true] at ht;simp only at h
    split at h
    ·rename_i hl;obtain⟨xs,hx,hd⟩:=Option.map_eq_some_iff.1 h;cases hd;refine⟨?_,hl,rfl⟩;obtain⟨h1,_⟩:=tH (w:=w) (Z:=fun b=>b<w.heap.size) (cs:=cs) ht.1 (by omega) hx fun g hg x Vh=>(mZ fuel g.type _ _ _ n Vh (ht.2 g hg)).1;rw[List.drop_zero,Nat.sub_zero,←hl,List.take_length] at h1;exact h1
    ·cases h
   |array m e=>
    simp only[Bool.and_eq_true,beq_iff_eq] at ht;simp only at h
    split at h
    ·rename_i hl;obtain⟨xs,hx,hd⟩:=Option.map_eq_some_iff.1 h;cases hd;refine⟨?_,hl,rfl⟩;rw[List.range_eq_range'] at hx;have h1:=uG (w:=w) (Z:=fun b=>b<w.heap.size) (s:=P.cellsOf e) (cs:=cs) hx (by rw[Nat.zero_add,←ht.2,hl];exact Nat.le_refl _) fun i x Vd=>(mZ fuel e _ _ _ n Vd ht.1).1;rw[Nat.zero_mul,List.drop_zero,←ht.2,←hl,List.take_length] at h1;exact h1
    ·cases h
   |_=>simp at ht
theorem wW {H:Type} {enc:TypeId×Value→H} {P:Program} {w:World} {spare:Nat→Bool} {held:Bool} {r:Reach} {base:Nat} {t:TypeId} {v:Value} {d:DataW H} {ps:List MemPlace} {n:Nat} (h:DataW.Trod enc P w 0 spare held t v d ps) (ht:EH P n t=true) (hv:Value.okWide P w r base t v):
  IR w (fun b=>b<w.heap.size) (gF d) v:=by
 obtain⟨fuel,hf⟩:=h;obtain⟨h1,h2,h3⟩:=mZ fuel t _ d ps n hf ht
 have hu:∃u,P.underlying t=some u:=by
  cases n with
  |zero=>simp[EH] at ht
  |succ n=>
   simp only[EH] at ht
   cases hu:P.underlying t with
   |none=>rw[hu] at ht;simp at ht
   |some u=>exact⟨u,rfl⟩
 obtain⟨u,hu⟩:=hu;unfold Value.okWide at hv;rw[hu] at hv h2 h3
 have Nq:(∃cs:Array Value,v=.agg cs)→l0 d=true→IR w (fun b=>b<w.heap.size) (gF d) v:=by
  rintro⟨cs,rfl⟩ hd;unfold gF;rw[if_pos hd];have:=IR.agg (w:=w) (Z:=fun b=>b<w.heap.size) (s9 d) cs.toList (by simpa[Value.cells] using h1.len) (by simpa[Value.cells] using h1.one) (by simpa[Value.cells] using h1.rel)
  simpa using this
 have iL:l0 d=false→v.cells.toList.length=1→(∀cs,v≠.agg cs)→IR w (fun b=>b<w.heap.size) (gF d) v:=by
  intro hd hl J_;unfold gF;rw[if_neg (by rw[hd];simp)]
  have hc:v.cells.toList=[v]:=by cases v<;>first|rfl|exact absurd rfl (J_ _)
  rw[hc] at h1
  match hq:s9 d,h1.len with
  |[c],_=>exact h1.rel 0 c v (by rw[hq];rfl) rfl
 have hcell:Cell.okWide P w r base t v→∀cs,v≠.agg cs:=by
  rintro hc cs rfl;unfold Cell.okWide at hc;rw[hu] at hc;cases u<;>simp[Cell.ok,hu] at hc
 cases u with
 |struct fs=>obtain⟨cs,h,_⟩:=hv;exact Nq ⟨cs,h⟩ h3
 |array m e=>obtain⟨cs,h,_⟩:=hv;exact Nq ⟨cs,h⟩ h3
 |_=>exact iL h3 h2 (hcell hv)
end Go.V
namespace Go.V
open Go.RowKit
theorem wK {H:Type} {enc:TypeId×Value→H} {P:Program} {w:World} {spare:Nat→Bool} {held:Bool} {t:TypeId} {v:Value} {d:DataW H} {ps:List MemPlace} (h:DataW.Trod enc P w 0 spare held t v d ps) (ht:P.underlying t=some .string):
  ∃l:List UInt8,gF d=.str l∧d=.lit (.string l):=by
 obtain⟨fuel,h⟩:=h
 cases fuel with
 |zero=>simp[DataW.trod] at h
 |succ fuel=>
  unfold DataW.trod at h;rw[ht] at h;generalize v.cells.toList=cs at h
  rcases cs with _|⟨v,_|⟨v2,cs⟩⟩<;>try(simp at h;done)
  cases v<;>simp at h
  obtain⟨_,rfl,_⟩:=h;exact⟨_,rfl,rfl⟩
theorem yG {pv:Pv} {P:Program} (h:pv.Ok P∧pv.fG∧fy P pv (c9 pv)) {f:Nat} {ds:List D} {ah:St} (hs:Ev pv f ds ⟨[],0,0⟩ (.bool true) ah) {w:World} {us:List Value} (hl:ds.length=us.length)
  (hr:∀(i:Nat) c v,ds[i]?=some c→us[i]?=some v→IR w (fun b=>b<w.heap.size) c v):Calls P f us.toArray w fun e w'=>e=.returned (.bool true)∧Below w.heap.size w w':=by
 obtain⟨N,hN⟩:=Ev.out hs;refine(sound h (hN N (Nat.le_refl _)) (w:=w) (Z:=fun b=>b<w.heap.size) (fun _ h=>h) hl hr).mono fun e w'=>?_;rintro⟨v,β',Z',rfl,he,hv⟩;rw[dr hv];exact⟨rfl,⟨he.os,he.tape,he.output,he.size,fun k hk=>he.block k hk fun f=>f⟩⟩
end Go.V
namespace Go.V
open Go.RowKit
def Rd {H:Type} (enc:TypeId×Value→H) (P:Program) (w:World) (spare:Nat→Bool) (held:Bool) (t:TypeId) (d:DataW H):Prop:=
 ∃fuel cs ps,DataW.trod enc P w 0 spare held fuel t cs=some (d,ps)
section
variable{H:Type} {enc:TypeId×Value→H} {P:Program} {w:World} {spare:Nat→Bool} {held:Bool} {t e:TypeId} {d:DataW H}
theorem Rd.of {v:Value} {ps:List MemPlace} (h:DataW.Trod enc P w 0 spare held t v d ps):Rd enc P w spare held t d:=by
 obtain⟨fuel,h⟩:=h;exact⟨fuel,_,_,h⟩
theorem Rd.int {k:IntKind} (h:Rd enc P w spare held t d) (ht:P.underlying t=some (.int k)):∃n:Int,d=.lit (.int k n)∧(Lit.int k n).wf=true:=by
 obtain⟨fuel,cs,ps,h⟩:=h
 cases fuel with
 |zero=>simp[DataW.trod] at h
 |succ fuel=>
  unfold DataW.trod at h;rw[ht] at h
  rcases cs with _|⟨v,_|⟨v2,cs⟩⟩<;>try(simp at h;done)
  cases v<;>simp at h
  obtain⟨⟨rfl,hw⟩,rfl,_⟩:=h;exact⟨_,rfl,hw⟩
theorem Rd.bool (h:Rd enc P w spare held t d) (ht:P.underlying t=some .bool):∃b:Bool,d=.lit (.bool b):=by
 obtain⟨fuel,cs,ps,h⟩:=h
 cases fuel with
 |zero=>simp[DataW.trod] at h
 |succ fuel=>
  unfold DataW.trod at h;rw[ht] at h
  rcases cs with _|⟨v,_|⟨v2,cs⟩⟩<;>try(simp at h;done)
  cases v<;>simp at h
  obtain⟨rfl,_⟩:=h;exact⟨_,rfl⟩
theorem Rd.string (h:Rd enc P w spare held t d) (ht:P.underlying t=some .string):∃l:List UInt8,d=.lit (.string l):=by
 obtain⟨fuel,cs,ps,h⟩:=h
 cases fuel with
 |zero=>simp[DataW.trod] at h
 |succ fuel=>
  unfold DataW.trod at h;rw[ht] at h
  rcases cs with _|⟨v,_|⟨v2,cs⟩⟩<;>try(simp at h;done)
  cases v<;>simp at h
  obtain⟨_,rfl,_⟩:=h;exact⟨_,rfl⟩
theorem Rd.slice (h:Rd enc P w spare held t d) (ht:P.underlying t=some (.slice e)):d=.nil∨∃elems rest,d=.slice elems rest∧∀x∈elems,Rd enc P w spare held e x:=by
 obtain⟨fuel,cs,ps,h⟩:=h
 cases fuel with
 |zero=>simp[DataW.trod] at h
 |succ fuel=>
  unfold DataW.trod at h;rw[ht] at h
  rcases cs with _|⟨v,_|⟨v2,cs⟩⟩<;>try(simp at h;done)
  cases v<;>try(simp at h;done)
  rename_i a len cap
  cases a with
  |none=>
   cases len<;>cases cap<;>simp at h
   obtain⟨rfl,rfl⟩:=h;exact .inl rfl
  |some a=>
   simp only at h
   split at h
   ·simp only[Option.bind_eq_some_iff,Option.map_eq_some_iff] at h;obtain⟨elems,hm,rest,hr,hd⟩:=h;cases hd;refine .inr ⟨_,_,rfl,fun x hx=>?_⟩;obtain⟨y,hy,rfl⟩:=List.mem_map.1 hx;have hlen:elems.length=len:=by simpa using mapM_some_length hm
    have hget:=mapM_some_get hm;obtain⟨i,hi⟩:=List.getElem?_of_mem hy;have hil:i<len:=by have:=bt hi;omega
    have h1:=hget i i (by simp[hil]);rw[hi] at h1;obtain⟨cs,_,hx⟩:=Option.bind_eq_some_iff.1 h1;exact⟨fuel,cs,y.2,hx⟩
   ·cases h
theorem lT {α β:Type} {f:α→Option β}:∀{l:List α} {m:List β},l.mapM f=some m→cm (fun a b=>f a=some b) l m
 |[],m,h=>by simp at h;subst h;exact .nil
 |a::l,m,h=>by
  rw[List.mapM_cons] at h
  cases h1:f a with
  |none=>rw[h1] at h;simp at h
  |some b=>
   rw[h1] at h
   cases h2:l.mapM f with
   |none=>rw[h2] at h;simp at h
   |some ys=>rw[h2] at h;simp at h;subst h;exact .cons h1 (lT h2)
theorem cm.L8 {α β γ:Type} {R:α→γ→Prop} {f:β→γ}:∀{l:List α} {m:List β},cm (fun a b=>R a (f b)) l m→cm R l (m.map f)
 |_,_,.nil=>.nil
 |_,_,.cons a t=>.cons a t.L8
theorem Rd.struct {fs:Array Field} (h:Rd enc P w spare held t d) (ht:P.underlying t=some (.struct fs)):∃parts,d=.agg parts∧cm (fun(f:Field) x=>Rd enc P w spare held f.type x) fs.toList parts:=by
 obtain⟨fuel,cs,ps,h⟩:=h
 cases fuel with
 |zero=>simp[DataW.trod] at h
 |succ fuel=>
  unfold DataW.trod at h;rw[ht] at h;simp only at h
  split at h
  ·obtain⟨xs,hx,hd⟩:=Option.map_eq_some_iff.1 h;cases hd;refine⟨_,rfl,?_⟩;exact((lT hx).mono fun f x Vl=>(⟨fuel,_,_,Vl⟩:Rd enc P w spare held f.type x.1)).L8
  ·cases h
theorem Rd.array {n:Nat} (h:Rd enc P w spare held t d) (ht:P.underlying t=some (.array n e)):∃parts,d=.agg parts∧parts.length=n∧∀x∈parts,Rd enc P w spare held e x:=by
 obtain⟨fuel,cs,ps,h⟩:=h
 cases fuel with
 |zero=>simp[DataW.trod] at h
 |succ fuel=>
  unfold DataW.trod at h;rw[ht] at h;simp only at h
  split at h
  ·obtain⟨xs,hx,hd⟩:=Option.map_eq_some_iff.1 h;cases hd;have h1:=lT hx;refine⟨_,rfl,by have:=h1.len;simp at this;simp[←this],fun x OE=>?_⟩;obtain⟨y,hy,rfl⟩:=List.mem_map.1 OE
   have key:∀{l:List Nat} {m:List (DataW H×List MemPlace)},cm (fun i x=>DataW.trod enc P w 0 spare held fuel e ((cs.drop (i*P.cellsOf e)).take (P.cellsOf e))=some x) l m→∀y∈m,Rd enc P w spare held e y.1:=by
    intro l m h
    induction h with
    |nil=>intro y hy;cases hy
    |cons a t ih=>
     intro y hy
     rcases List.mem_cons.1 hy with rfl|hy
     ·exact⟨fuel,_,_,a⟩
     ·exact ih y hy
   exact key h1 y hy
  ·cases h
end
theorem Lt {H α:Type} {s:Nat} {f:α→List D} {Q:α→DataW H→Prop} {elems rest:List (DataW H)} (h:∀x∈elems,∃a,(gF x).cells?=some (gF x).cells∧(gF x).cells=f a∧(f a).length=s∧Q a x):
  ∃ws:List α,fK (gF (.slice elems rest)) s (ws.map f)∧ws.length=elems.length∧∀a∈ws,∃x∈elems,Q a x:=by
 have key:∃ws:List α,(elems.map gF).map D.cells=ws.map f∧(∀d∈elems.map gF,d.cells?=some d.cells∧d.cells.length=s)∧ws.length=elems.length∧∀a∈ws,∃x∈elems,Q a x:=by
  induction elems with
  |nil=>exact⟨[],rfl,fun d hd=>(by cases hd),rfl,fun a ha=>by cases ha⟩
  |cons x l ih=>
   obtain⟨ws,h1,h2,h3,h4⟩:=ih fun y hy=>h y (List.mem_cons_of_mem _ hy);obtain⟨a,g1,g2,g3,g4⟩:=h x (List.mem_cons_self ..);refine⟨a::ws,by simp only[List.map_cons,h1,g2],fun d hd=>?_,by simp[h3],fun b hb=>?_⟩
   ·simp only[List.map_cons,List.mem_cons] at hd
    rcases hd with rfl|hd
    ·exact⟨g1,by rw[g2];exact g3⟩
    ·exact h2 d hd
   ·rcases List.mem_cons.1 hb with rfl|hb
    ·exact⟨x,List.mem_cons_self ..,g4⟩
    ·obtain⟨y,hy,hq⟩:=h4 b hb;exact⟨y,List.mem_cons_of_mem _ hy,hq⟩
 obtain⟨ws,h1,h2,h3,h4⟩:=key;refine⟨ws,.inr ⟨elems.map gF,?_,h1,h2⟩,h3,h4⟩;show D.sl (sL elems)=_;rw[oO]
end Go.V
namespace Go.Proofs.Ytbdnabmmlbiomaa
theorem Bw {H:Type} (d:DataW H):1≤Rows.uptoBulk d:=by
 cases d with
 |lit l=>cases l<;>simp[Rows.uptoBulk]
 |_=>simp[Rows.uptoBulk]
theorem Bx {H:Type} (l:List (DataW H)):l.length≤Rows.uptoBulkAll l:=by
 induction l with
 |nil=>simp[Rows.uptoBulkAll]
 |cons x r ih=>have:=Bw x;simp only[Rows.uptoBulkAll,List.length_cons];omega
end Go.Proofs.Ytbdnabmmlbiomaa
namespace Go.Proofs.Ytbdnabmmlbiomaa
open Go.V Go Go.RowKit
variable{H:Type} {enc:TypeId×Value→H} {w:World} {spare:Nat→Bool} {held:Bool} {d:DataW H}
theorem Bz {H:Type} {l:List (DataW H)} {x:DataW H} (h:x∈l):Rows.uptoBulk x≤Rows.uptoBulkAll l:=by
 induction l with
 |nil=>cases h
 |cons y l ih=>
  simp only[Rows.uptoBulkAll]
  rcases List.mem_cons.1 h with rfl|h
  ·omega
  ·have:=ih h;omega
end Go.Proofs.Ytbdnabmmlbiomaa
namespace Go.Proofs.Ytbdnabmmlbiomaa
open Go.V Go Go.RowKit
variable{H:Type} {enc:TypeId×Value→H} {w:World} {spare:Nat→Bool} {held:Bool} {d:DataW H}
theorem BD (h:Rd enc Try.prog w spare held 22 d):∃(y:D) (ps:List (List UInt8)),gF d=y∧fK y 1 (ps.map x9)∧(Rows.uptoBulk d≤1048576→ps.length≤1048576∧∀b∈ps,b.length≤1048576):=by
 rcases h.slice Try.underlying22 with rfl|⟨elems,rest,rfl,he⟩
 ·exact⟨_,[],rfl,.inl ⟨rfl,rfl⟩,fun _=>⟨by simp,fun b hb=>(by cases hb)⟩⟩
 ·obtain⟨l,h1,h2,h3⟩:=Lt (s:=1) (f:=x9) (Q:=fun(b:List UInt8) x=>b.length≤Rows.uptoBulk x) (rest:=rest) fun x hx=>by
   obtain⟨b,rfl⟩:=(he x hx).string Try.underlying9;refine⟨b,rfl,rfl,rfl,?_⟩;simp only[Rows.uptoBulk];omega
  refine⟨_,l,rfl,h1,fun hb=>⟨?_,fun b dw=>?_⟩⟩
  ·have:=Bx elems;simp only[Rows.uptoBulk] at hb;omega
  ·obtain⟨x,hx,h4⟩:=h3 b dw;have:=Bz hx;simp only[Rows.uptoBulk] at hb;omega
end Go.Proofs.Ytbdnabmmlbiomaa
namespace Go.V
variable{N:Nat} {S st:St} {H:List bC}
theorem Has.kK (A B:List bC) (h:Has N S st (A++(B++H))):Has N S st (B++(A++H)):=by
 refine h.sub (fun i=>if i<B.length then i+A.length else if i<B.length+A.length then i-B.length else i) (fun a b e=>?_) fun i e hi=>?_
 ·have e':(if a<B.length then a+A.length else if a<B.length+A.length then a-B.length else a)=(if b<B.length then b+A.length else if b<B.length+A.length then b-B.length else b):=e
  repeat' split at e'
  all_goals omega
 ·show(A++(B++H))[if i<B.length then i+A.length else if i<B.length+A.length then i-B.length else i]?=some e
  by_cases h1:i<B.length
  ·rw[if_pos h1,List.getElem?_append_right (by omega),Nat.add_sub_cancel,List.getElem?_append_left h1]
   rwa [List.getElem?_append_left h1] at hi
  ·rw[List.getElem?_append_right (by omega)] at hi
   by_cases h2:i<B.length+A.length
   ·rw[if_neg h1,if_pos h2,List.getElem?_append_left (by omega)]
    rwa [List.getElem?_append_left (by omega)] at hi
   ·rw[if_neg h1,if_neg h2,List.getElem?_append_right (by omega),List.getElem?_append_right (by omega)];rw[List.getElem?_append_right (by omega)] at hi;rw[←hi];congr 1;omega
theorem Has.dN {j:Nat} {e:bC} (h:Has N S st (e::H)) (hj:j<H.length):Has N S st (H.set j e):=
 Has.back (h.erase (j+1)) hj
theorem Has.uf {j k:Nat} {e:bC} (h:Has N S st H) (hj:H[j]?=some e) (hk:e.K k):k+1≤st.bs.length:=((h.ok j e hj).2 k hk).2
theorem j0 {x y:Oper} {fi fj:Fr} {si pa sj FT:St} {a:Operand} {k ax off v:Nat} {ar:Bool} {c:List D} (hy:fR y.op=none) (hx:fR x.op=some a) (ha:fi.ev a=.ptr k ax off) (h1:sj.bs[k]?=some (.mem v ar c)) (h2:FT.bs[k]?=some (.mem v ar c)) (h3:si.bs[k]?=some (.mem v ar c)) (hr:refs c≤si.bs.length):iH x fi si pa y fj sj FT=true:=by
 unfold iH;simp only[hy,hx,ha,D.lp,Bool.and_eq_true];refine⟨pB h1 h2,?_⟩;unfold kg;simp only[h3]
 split
 ·rfl
 ·simpa using hr
theorem Has.clear {P:Pv} {j:Nat} {x:D} {s:Nat} {es:List (List D)} {t e:TypeId} {z:List D} (h:Has N S st H) (hj:H[j]?=some (.aJ x s es)) (ht:P.cq t=some (.slice e)) (hz:cO P e=some z) (jV:z.length=s) (hr:refs z=0):
  ∃ah,jD P [t] x st=some (.tup [],ah)∧Has N S ah (H.set j (.aJ x s (List.replicate es.length z))):=by
 have v_:=(h.ok j _ hj).2;have hown:=h.own hj
 have jW:j<H.length:=by
  rcases Nat.lt_or_ge j H.length with h'|h'
  ·exact h'
  ·rw[List.getElem?_eq_none h'] at hj;cases hj
 cases hown with
 |nul=>
  refine⟨st,by simp only[jD,ht],?_⟩
  have:H.set j (.aJ .nul s (List.replicate ([]:List (List D)).length z))=H:=by
   refine List.ext_getElem? fun i=>?_
   by_cases hi:i=j
   ·subst hi;rw[List.getElem?_set_self jW,hj];rfl
   ·rw[List.getElem?_set_ne (fun e=>hi e.symm)]
  rw[this];exact h
 |win k ax off es c hm hle hc he=>
  have hk:=v_ k (by simp only[bC.aJ,D.ref])
  have J0:∀n,refs (Go.V.dN n z)=0:=by
   intro n;unfold Go.V.dN
   induction n with
   |zero=>rfl
   |succ n ih=>
    rw[List.replicate_succ,List.flatten_cons]
    have Fx:∀(a b:List D),refs a=0→refs b=0→refs (a++b)=0:=by
     intro a
     induction a with
     |nil=>intro b _ hb;exact hb
     |cons d a BS=>
      intro b ha hb;simp only[refs,List.cons_append] at ha⊢;have:=BS b (by omega) hb;omega
    exact Fx _ _ hr ih
  have vb:(Go.V.dN es.length z).length=es.length*s:=by
   unfold Go.V.dN;rw[cx (s:=s) (fun e he=>by rw[(List.mem_replicate.1 he).2];exact jV),List.length_replicate]
  have hw:st.wr k ax off (Go.V.dN es.length z)=some ⟨st.bs.set k (.mem ax true (c.take off++Go.V.dN es.length z++c.drop (off+(Go.V.dN es.length z).length))),st.flr,st.ro⟩:=ke hm (by omega) (iw h hk.1 (.inr (J0 _)));refine⟨_,by simp only[jD,ht,hz,Option.bind_some];rw[if_pos jV,hw];rfl,?_⟩;refine h.zx hj (fun n hn hne=>?_) (by simp) rfl rfl ?_ (fun n hn=>.inl hn) fun n hn=>?_
  ·simp only;rw[List.getElem?_set_ne (fun e=>hne (by simp only[bC.aJ,D.ref];omega))]
  ·have AW:∀e'∈List.replicate es.length z,e'.length=s:=fun e' ni=>by rw[(List.mem_replicate.1 ni).2];exact jV
   have:=fQ.win (st:=⟨st.bs.set k (.mem ax true (c.take off++Go.V.dN es.length z++c.drop (off+(Go.V.dN es.length z).length))),st.flr,st.ro⟩) (s:=s) k ax off (List.replicate es.length z) (c.take off++Go.V.dN es.length z++c.drop (off+(Go.V.dN es.length z).length))
    (by simp only;rw[List.getElem?_set_self hk.2]) (by rw[List.length_replicate];simp;omega) ?_ AW
   ·rw[List.length_replicate] at this;exact this
   ·rw[List.length_replicate,List.append_assoc,List.drop_append_of_le_length (by simp;omega),List.drop_take,Nat.sub_self,List.take_zero,List.nil_append,←vb,List.take_left']
    ·rfl
    ·rfl
  ·simp only[bC.aJ,D.ref] at hn;have:n=k:=by omega
   subst this
   simpa using hk.2
variable{P:Pv} {ops:Array Oper} {rest:List Oper} {fr aE:Fr} {Q:Fr→St→Prop} {ty:TypeId} {pp:String} {a:Array Edge} {g:Option (Nat×Bool)} {dst:Nat}
theorem ab.JF {j:Nat} {x:D} {s:Nat} {es:List (List D)} {t e:TypeId} {z:List D} {xo:Operand} (hH:Has N S st H) (hg:aA ops fr ⟨none,.call ⟨.builtin .clear,#[xo],#[t]⟩,ty,pp,a,g⟩=some true) (hx:fr.ev xo=x) (hj:H[j]?=some (.aJ x s es)) (ht:P.cq t=some (.slice e)) (hz:cO P e=some z) (jV:z.length=s) (hr:refs z=0)
  (h:∀ah,Has N S ah (H.set j (.aJ x s (List.replicate es.length z)))→ab P ops rest fr ah Q):ab P ops (⟨none,.call ⟨.builtin .clear,#[xo],#[t]⟩,ty,pp,a,g⟩::rest) fr st Q:=by
 obtain⟨ah,h1,h2⟩:=hH.clear hj ht hz jV hr;refine ab.N hg rfl (d:=.tup []) (st1:=ah) ?_ (h _ h2);simp only[di,List.map_cons,List.map_nil,hx,bk,List.toList_toArray];exact h1
end Go.V
namespace Go.Proofs.Ytbdnabmmlbiomaa
open Go.V Go
def fg (n:Nat):List D:=[.int .i64 (n:Nat)]
def lY (n:Nat):List D:=[.int .i64 (n:Nat),.bool true]
theorem tQ {l:List Nat} {i q:Nat} (h:l[i]?=some q):(l.map fg)[i]?=some (fg q):=by rw[List.getElem?_map,h];rfl
theorem E2 {l:List Nat} {i q:Nat} (h:l[i]?=some q):(l.map lY)[i]?=some (lY q):=by rw[List.getElem?_map,h];rfl
structure cQ (P Q:List Nat) (seen:List Bool):Prop where
 len:P.length=seen.length
 mem:∀(i p:Nat),P[i]?=some p→seen[i]?=some (decide (Q[p]?=some i))
 cnt:Q.length=seen.count true
 small:seen.length≤4096
def BH (N:Nat) (S st:St) (ks:Nat) (seen:List Bool) (H:List bC):Prop:=
 ∃pd qd P Q,Has N S st (.box ks (.mem 0 false [pd,qd])::.aJ pd 1 (P.map fg)::.aJ qd 2 (Q.map lY)::H)∧cQ P Q seen
theorem cQ.get {P Q:List Nat} {seen:List Bool} (h:cQ P Q seen) {i:Nat} {b:Bool} (hi:seen[i]?=some b):∃p,P[i]?=some p∧b=decide (Q[p]?=some i):=by
 have hl:=bt hi;have o7:=h.len;refine⟨P[i]'(by omega),List.getElem?_eq_getElem _,?_⟩;have:=h.mem i _ (List.getElem?_eq_getElem (by omega));rw[hi] at this;exact Option.some.inj this
theorem cQ.add {P Q:List Nat} {seen:List Bool} (h:cQ P Q seen) {i:Nat} (hi:seen[i]?=some false):cQ (P.set i Q.length) (Q++[i]) (seen.set i true):=by
 have hl:=bt hi;have o7:=h.len;refine⟨by simp[o7],fun j p hj=>?_,?_,by rw[List.length_set];exact h.small⟩
 ·by_cases hij:j=i
  ·subst hij;rw[List.getElem?_set_self (by omega)] at hj⊢;cases hj;simp
  ·rw[List.getElem?_set_ne (fun e=>hij e.symm)] at hj⊢;rw[h.mem j p hj]
   congr 2
   rcases Nat.lt_trichotomy p Q.length with hp|hp|hp
   ·rw[List.getElem?_append_left hp]
   ·subst hp;have hne:¬i=j:=fun e=>hij e.symm;simp[hne]
   ·rw[List.getElem?_eq_none (by omega),List.getElem?_eq_none (by simp;omega)]
 ·have h1:=List.length_eq_countP_add_countP (fun b=>b==true) (l:=seen);have h2:=List.length_eq_countP_add_countP (fun b=>b==true) (l:=seen.set i true);have h3:=count_set hi
  have e1:∀l:List Bool,l.countP (fun a=>decide (¬(a==true)=true))=l.count false:=by
   intro l;unfold List.count;congr 1;funext b;cases b<;>rfl
  have e2:∀l:List Bool,l.countP (fun a=>a==true)=l.count true:=fun l=>rfl;rw[e1,e2] at h1 h2;rw[List.length_append,h.cnt];simp only[List.length_set,List.length_cons,List.length_nil] at h2⊢;omega
theorem cQ.clear {P Q:List Nat} {seen:List Bool} (h:cQ P Q seen):cQ P [] (List.replicate seen.length false):=by
 refine⟨by rw[List.length_replicate];exact h.len,fun i p hi=>?_,?_,by rw[List.length_replicate];exact h.small⟩
 ·have:=bt hi;have:=h.len;rw[List.getElem?_replicate,if_pos (by omega)];simp
 ·rw[List.count_replicate];simp
theorem cQ.jw {P Q:List Nat} {seen:List Bool} (h:cQ P Q seen):Q.length≤4096:=by
 have:=h.cnt;have:=h.small;have:=List.count_le_length (a:=true) (l:=seen);omega
theorem yf {N ks:Nat} {S s0:St} {H:List bC} {seen:List Bool} {i:Nat} {b:Bool} (hi:seen[i]?=some b) {pd qd:D} {P Q:List Nat} (a_:cQ P Q seen) (hH:Has N S s0 (.box ks (.mem 0 false [pd,qd])::.aJ pd 1 (P.map fg)::.aJ qd 2 (Q.map lY)::H)):
  ∃r ah,Ev pv 67 [.ptr ks 0 0,.int .i64 (i:Nat)] s0 r ah∧r=.bool b∧ah=s0:=by
 obtain⟨p,hp,rfl⟩:=a_.get hi;have hl:=bt hp;have o7:=a_.len;have TT:=a_.small;have gD:=tQ hp
 have fu:(⟨(ai .rw s0).bs.take s0.bs.length,s0.flr,s0.ro⟩:St)=s0:=by
  show(⟨s0.bs.take s0.bs.length,s0.flr,s0.ro⟩:St)=s0;rw[List.take_length]
 refine Ev.iY rfl QF rfl rfl rfl ?_;dsimp only[u3,u4,List.length,Nat.reduceSub,Nat.reduceAdd,w1,w2];have ck:=hH;have hH:=hH.cn;have ch:(ai .rw s0).bs=s0.bs:=rfl;generalize ai .rw s0=S2 at*;refine qq<|qj fun K hK=>qm ?_;refine qe hK ?_;have bf:decide (((i:Nat):Int)<0)=false:=by rw[decide_eq_false];omega
 refine qq<|qq<|af.j8 16 (.bool false) [] ?_ (fun ff tmp gB=>?_)
 ·refine qm ?_;refine qg ?_;refine qm ?_;refine qm ?_ (hg:=wi bf);refine qm ?_ (hg:=wi bf);refine qg ?_ (hg:=wi bf);refine qp (o:=0) ?_ (hg:=wi bf);refine ql hH ay ?_ (hg:=wi bf);refine qn ?_ (hR:=hH.rows b5) (hg:=wi bf);simp only[List.length_map];refine qg ?_ (hg:=wi bf);refine qu bf ?_;refine ab.nil (cP ?_ ?_)
  ·dsimp only[aI,List.foldl,nth,u2,u1]
   all_goals(first|rfl|simp)
  ·dsimp only[Fr.aC,Fr.put,Fr.clean,Fr.ev,Fr.get,nth,V.look,u1,u2,v1,v2,v3,v4,v5,v6,v7,List.length,u3,u4,Nat.reduceSub,Nat.reduceAdd,List.map]
   all_goals(simp_all;done)
 dsimp only[aI,List.foldl,nth,u2,u1];refine qC ?_;refine af.skip<|qq<|qj fun K hK=>qm ?_;refine qg ?_;refine qp (o:=0) ?_;refine ql hH ay ?_;refine qm ?_;refine qi hH b5 fun Oi J4=>?_;refine qo hH b5 ?_;refine qm ?_;refine qe hK ?_
 by_cases hq:p<Q.length
 ·obtain⟨q,Mv⟩:∃q,Q[p]?=some q:=⟨Q[p]'hq,List.getElem?_eq_getElem _⟩
  have o6:=E2 Mv;have iO:decide (((p:Nat):Int)<((Q.length:Nat):Int))=true:=by rw[decide_eq_true_eq];omega
  refine qq<|qj fun K hK=>qm ?_;refine qm ?_;refine qg ?_;refine qp (o:=1) ?_;refine ql hH ay ?_;refine qn ?_ (hR:=hH.rows eV);simp only[List.length_map];refine qg ?_;refine qm ?_;refine qm ?_ (hg:=wi iO);refine qg ?_ (hg:=wi iO);refine qp (o:=1) ?_ (hg:=wi iO);refine ql hH ay ?_ (hg:=wi iO);refine qm ?_ (hg:=wi iO);refine qi hH eV (fun RY MB=>?_) (hg:=wi iO);refine ab.fY (fo:=0) (m:=0) (o2:=0) (aB rfl rfl rfl iO) (ev rfl) (by assumption) rfl rfl rfl (fun _=>(ag rfl _)) (fun Tk Pc=>?_);refine qo hH eV ?_ (hg:=wi iO);refine qm ?_ (hg:=wi iO);refine qg ?_ (hg:=wi iO);refine qt iO ?_;refine qm ?_;refine qe hK<|af.ret ⟨rx,_,_,_,rfl,aj (rfl),?_⟩;refine⟨?_,fu⟩
  have hd:(((q:Nat):Int)==((i:Nat):Int))=decide (Q[p]?=some i):=by
   rw[Mv]
   by_cases h:q=i
   ·simp[h]
   ·simp[h];omega
  exact congrArg D.bool hd
 ·have iO:decide (((p:Nat):Int)<((Q.length:Nat):Int))=false:=by rw[decide_eq_false];omega
  refine qq<|qj fun K hK=>qm ?_;refine qm ?_;refine qg ?_;refine qp (o:=1) ?_;refine ql hH ay ?_;refine qn ?_ (hR:=hH.rows eV);simp only[List.length_map];refine qg ?_;refine qm ?_;refine qs ?_ (hg:=wn iO);refine qs ?_ (hg:=wn iO);refine qs ?_ (hg:=wn iO);refine qs ?_ (hg:=wn iO);refine qs ?_ (hg:=wn iO);refine qs ?_ (hg:=wn iO);refine qs ?_ (hg:=wn iO);refine qs ?_ (hg:=wn iO);refine qs ?_ (hg:=wn iO);refine qs ?_ (hg:=wn iO);refine qu iO ?_;refine qm ?_;refine qe hK<|af.ret ⟨rx,_,_,_,rfl,aj (rfl),?_⟩;refine⟨?_,fu⟩;rw[List.getElem?_eq_none (by omega)];rfl
theorem yg {N ks:Nat} {S s0:St} {H:List bC} {seen:List Bool} {i:Nat} {b:Bool} (hF:S.flr≤N) (hi:seen[i]?=some b) (hH:BH N S s0 ks seen H):
  ∃r ah,Ev pv 51 [.ptr ks 0 0,.int .i64 (i:Nat),.bool true] s0 r ah∧r=.bool (!b)∧BH N S ah ks (seen.set i true) H:=by
 obtain⟨pd,qd,P,Q,hH,a_⟩:=hH;have hl:=bt hi;have o7:=a_.len;have TT:=a_.small;have F3:=a_.jw;obtain⟨p0,Uy,_⟩:=a_.get hi;have gD:=tQ Uy;refine Ev.iY rfl QO rfl rfl rfl ?_;dsimp only[u3,u4,List.length,Nat.reduceSub,Nat.reduceAdd,w1,w2];change af _ _ _ _ s0 _;refine qq<|qj fun K hK=>qm ?_;refine qe hK ?_;have bf:decide (((i:Nat):Int)<0)=false:=by rw[decide_eq_false];omega
 have a8:decide (((i:Nat):Int)≥((P.length:Nat):Int))=false:=by rw[decide_eq_false];omega
 obtain⟨_,st,aH,rfl,rfl⟩:=yf hi a_ hH;refine qq<|qq<|af.j8 22 (.bool b) [] ?_ (fun ff tmp gB=>?_)
 ·refine qm ?_;refine qg ?_;refine qm ?_;refine qm ?_ (hg:=wi bf);refine qm ?_ (hg:=wi bf);refine qg ?_ (hg:=wi bf);refine qp (o:=0) ?_ (hg:=wi bf);refine ql hH ay ?_ (hg:=wi bf);refine qn ?_ (hR:=hH.rows b5) (hg:=wi bf);simp only[List.length_map];refine qg ?_ (hg:=wi bf);refine qu bf ?_;refine qm ?_;refine qm ?_ (hg:=wi a8);refine qm ?_ (hg:=wi a8);refine qv aH ?_ (hg:=wi a8);refine qu a8 ?_;refine ab.nil (cP ?_ ?_)
  ·dsimp only[aI,List.foldl,nth,u2,u1]
   all_goals(first|rfl|simp)
  ·dsimp only[Fr.aC,Fr.put,Fr.clean,Fr.ev,Fr.get,nth,look,u1,u2,v1,v2,v4]
   all_goals(first|rfl|(simp[bf,a8];done)|(simp_all;done)|(simp[bf,a8];omega)|(simp_all;omega))
 dsimp only[aI,List.foldl,nth,u2,u1]
 cases b with
 |true=>
  refine qB ?_;refine qq<|qj fun K hK=>qm ?_;refine qe hK<|af.ret ⟨rx,_,_,_,rfl,rfl,?_⟩;refine⟨rfl,pd,qd,P,Q,hH,?_⟩
  have:seen.set i true=seen:=by
   refine List.ext_getElem? fun j=>?_
   by_cases hj:j=i
   ·subst hj;rw[List.getElem?_set_self hl,hi]
   ·rw[List.getElem?_set_ne (fun e=>hj e.symm)]
  rw[this];exact a_
 |false=>
  refine qC ?_;refine af.skip<|qq<|qj fun K hK=>qm ?_;refine qg ?_;refine qp (o:=0) ?_;refine ql hH ay ?_;refine qm ?_;refine qm ?_;refine qg ?_;refine qp (o:=1) ?_;refine ql hH ay ?_;refine qn ?_ (hR:=hH.rows eV);simp only[List.length_map];refine qi hH b5 fun WE Us=>?_;refine ab.lO hH rfl (ev rfl) (ev rfl) (by assumption) rfl rfl (by exact b5) (by assumption) (Nat.le_of_ble_eq_true rfl) (by exact .inl hF) (fun st hH=>?_);dsimp only[u2,u1,u3,u4,setMany,u5,u6,D.cells,Nat.reduceAdd,fg,lY] at hH;refine qe hK<|qq<|qj fun K hK=>qm ?_;refine qm ?_;refine qg ?_;refine qp (o:=1) ?_;refine ql hH ay ?_;refine qm ?_;refine qm ?_;refine qg ?_;refine qh (s:=2) (vs:=[_]) hH fun k42 st U1 hH=>?_;dsimp only[u2,u1,u3,u4,setMany,u5,u6,D.cells,Nat.reduceAdd,fg,lY] at hH;refine ab.bR (s:=2) hH rfl (ev rfl) (ev rfl) (by exact gG) (by exact hH.rows (by exact ay)) rfl rfl rfl rfl rfl rfl rfl ⟨(Nat.le_of_ble_eq_true rfl),(Nat.le_of_ble_eq_true rfl)⟩ (fun _=>(ag rfl _)) (by simp only[List.length_cons,List.length_nil,List.length_map]<;>omega) (by exact .inl hF) (fun S1 st hH=>?_);dsimp only[u2,u1,u3,u4,setMany,u5,u6,D.cells,Nat.reduceAdd,fg,lY] at hH;refine qg ?_;refine qp (o:=1) ?_;refine qT hH b5 (fun st hH=>?_) (hY:=hH.fP gG);dsimp only[u2,u1,u3,u4,setMany,u5,u6,D.cells,Nat.reduceAdd,fg,lY] at hH;refine qe hK<|qq<|qj fun K hK=>qm ?_;refine qe hK<|af.ret ⟨rx,_,_,_,rfl,rfl,?_⟩;refine⟨rfl,pd,S1,P.set i Q.length,Q++[i],?_,a_.add hi⟩;rw[List.map_set,List.map_append];exact hH.drop 1
theorem tk {N ks:Nat} {S s0:St} {H:List bC} {seen:List Bool} (hF:S.flr≤N) (hH:BH N S s0 ks seen H):
  ∃r ah,Ev pv 48 [.ptr ks 0 0] s0 r ah∧r=.tup []∧BH N S ah ks (List.replicate seen.length false) H:=by
 obtain⟨pd,qd,P,Q,hH,a_⟩:=hH;have F3:=a_.jw;refine Ev.iY rfl QR rfl rfl rfl ?_;dsimp only[u3,u4,List.length,Nat.reduceSub,Nat.reduceAdd,w1,w2];change af _ _ _ _ s0 _;refine qq<|qj fun K hK=>qm ?_;refine qg ?_;refine qp (o:=1) ?_;refine ql hH ay ?_;refine ab.JF hH rfl (ev rfl) eV rfl rfl rfl rfl (fun st hH=>?_);dsimp only[u1,u2] at hH;refine qe hK<|qj fun K hK=>qm ?_;refine qm ?_;refine qg ?_;refine qp (o:=1) ?_;refine ql hH ay ?_;refine ab.Aa hH rfl (ev rfl) (by exact eV) rfl rfl (me (by simp only[List.length_map,List.length_reverse,List.length_cons,List.length_append,List.length_nil,List.length_take,List.length_drop,List.length_set,List.length_replicate];omega)) ⟨(by omega),(by simp only[List.length_map,List.length_reverse,List.length_cons,List.length_append,List.length_nil,List.length_take,List.length_drop,List.length_set,List.length_replicate];omega)⟩ (fun _=>(ag rfl _)) (fun V4 hH=>?_);refine qg ?_;refine qp (o:=1) ?_;refine qT hH ay (fun st hH=>?_) (hY:=hH.fP eV);dsimp only[u2,u1,u3,u4,setMany,u5,u6,D.cells,Nat.reduceAdd,fg,lY] at hH;refine qe hK ?_;refine⟨fun i h=>(by cases h),_,_,_,rfl,rfl,?_⟩;exact⟨rfl,pd,_,P,[],hH,a_.clear⟩
theorem ye {N n:Nat} {S s0:St} {H:List bC} (hF:S.flr≤N) (hn:n≤4096) (hH:Has N S s0 H):
  ∃r ah,Ev pv 44 [.int .i64 (n:Nat)] s0 r ah∧∃ks,r=.tup [.ptr ks 0 0,.int .i64 0]∧BH N S ah ks (List.replicate n false) H:=by
 refine Ev.iY rfl QU rfl rfl rfl ?_;dsimp only[u3,u4,List.length,Nat.reduceSub,Nat.reduceAdd,w1,w2];change af _ _ _ _ s0 _;refine qq<|qj fun K hK=>qm ?_;refine qm ?_;refine qe hK ?_;have bf:decide (((n:Nat):Int)<0)=false:=by rw[decide_eq_false];omega
 refine qq<|qq<|af.j8 9 (.bool false) [] ?_ (fun ff tmp gB=>?_)
 ·refine qm ?_;refine qg ?_;refine qm ?_;refine qm ?_ (hg:=wi bf);refine qg ?_ (hg:=wi bf);refine qu bf ?_;refine ab.nil (cP ?_ ?_)
  ·dsimp only[aI,List.foldl,nth,u2,u1]
   all_goals(first|rfl|simp)
  ·dsimp only[Fr.aC,Fr.put,Fr.clean,Fr.ev,Fr.get,nth,V.look,u1,u2,v1,v2,v3,v4,v5,v6,v7,List.length,u3,u4,Nat.reduceSub,Nat.reduceAdd,List.map]
   all_goals(simp[bf];omega)
 dsimp only[aI,List.foldl,nth,u2,u1];refine qC ?_;refine af.skip<|qq<|qj fun K hK=>qm ?_;refine ab.xx (s:=1) hH rfl rfl rfl rfl rfl rfl rfl rfl (Nat.le_of_ble_eq_true rfl) (by omega) (fun _=>(ag rfl _)) (fun k11 st M4 hH=>?_);refine ab.fe (qs:=[(0,_)]) rfl rfl rfl rfl ⟨rfl,(ev rfl),(by rfl),trivial⟩ (by intro q hq;simp only[List.mem_cons,List.not_mem_nil,or_false] at hq;rcases hq with rfl<;>exact⟨rfl,by exact Nat.le_of_ble_eq_true rfl⟩) (by show List.foldl _ [_,_] _=_;dsimp only[List.foldl_cons,List.foldl_nil,u2,u1]<;>rfl) (ag rfl _) ?_;refine qb hH fun k13 st M3 hH=>?_;refine qm ?_;refine qm ?_;refine qe hK<|af.ret ⟨rx,_,_,_,rfl,rfl,?_⟩;refine⟨k13,rfl,.win k11 0 0 n 1,.nul,List.replicate n 0,[],?_,?_⟩
 ·rw[List.map_replicate];exact Has.kK [_] [_,_] (hH.eo 2)
 ·refine⟨by simp,fun i p hi=>?_,by rw[List.count_replicate];simp,by simpa using hn⟩;have:=bt hi;rw[List.length_replicate] at this;rw[List.getElem?_replicate,if_pos this];simp
end Go.Proofs.Ytbdnabmmlbiomaa
namespace Go.Proofs.Ytbdnabmmlbiomaa
open Go.V Go
abbrev wR:=Nat→Int
def aT (f:wR):List D:=[.int .i64 (f 0),.int .i64 (f 1),.int .i64 (f 2),.int .i64 (f 3),.int .i64 (f 4),.int .i64 (f 5),.int .i64 (f 6),.int .i64 (f 7),.int .i64 (f 8),.int .i64 (f 9)]
def dW:wR:=fun _=>-1
def ny:wR:=fun _=>0
def Gp (f:wR) (x:Nat) (v:Int):wR:=fun j=>if j=x then v else f j
theorem kI {n ns pc:Nat} {i:aG} (h:da n ns pc i=true):
  i.op=7∨(i.op=2∧(0≤i.x∧i.x<(n:Int))∧0≤i.y∧i.y<(n:Int))∨(i.op=3∧0≤i.x∧i.x<(n:Int))∨(i.op=4∧pc+1<n∧0≤i.x∧i.x<10)∨(i.op=5∧pc+1<n)∨(i.op=6∧pc+1<n)∨(i.op=1∧pc+1<n):=by
 unfold da at h
 split at h
 ·rename_i h1;simp only[Bool.and_eq_true,decide_eq_true_eq] at h;refine .inr (.inr (.inr (.inr (.inr (.inr ⟨h1,?_⟩)))));omega
 ·simp only[Bool.and_eq_true] at h;obtain⟨_,h⟩:=h
  split at h
  ·rename_i h2;simp only[Bool.and_eq_true] at h;exact .inr (.inl ⟨h2,dv.1 h.1,dv.1 h.2⟩)
  ·simp only[Bool.and_eq_true] at h;obtain⟨_,h⟩:=h
   split at h
   ·rename_i h3;exact .inr (.inr (.inl ⟨h3,dv.1 h⟩))
   ·split at h
    ·rename_i h4;simp only[Bool.and_eq_true,decide_eq_true_eq] at h;exact .inr (.inr (.inr (.inl ⟨h4,by omega,dv.1 h.2⟩)))
    ·split at h
     ·rename_i h5;simp only[Bool.and_eq_true,decide_eq_true_eq] at h
      rcases h5 with h5|h5
      ·exact .inr (.inr (.inr (.inr (.inl ⟨h5,by omega⟩))))
      ·exact .inr (.inr (.inr (.inr (.inr (.inl ⟨h5,by omega⟩)))))
     ·split at h
      ·rename_i h7;exact .inl h7
      ·cases h
end Go.Proofs.Ytbdnabmmlbiomaa
namespace Go.Proofs.Ytbdnabmmlbiomaa
open Go.V Go
def bY (fr:Go.V.Fr) (k:Nat):Go.V.D:=Go.V.nth .bp fr.loc k
structure iB where
 pc:Nat
 c:wR
def a7 (t:iB):List D:=[.int .i64 (t.pc:Nat),.int .i64 (t.c 0),.int .i64 (t.c 1),.int .i64 (t.c 2),.int .i64 (t.c 3),.int .i64 (t.c 4),.int .i64 (t.c 5),.int .i64 (t.c 6),.int .i64 (t.c 7),.int .i64 (t.c 8),.int .i64 (t.c 9)]
def bz (dn:Bool) (f:wR) (d:D):List D:=[.bool dn,.int .i64 (f 0),.int .i64 (f 1),.int .i64 (f 2),.int .i64 (f 3),.int .i64 (f 4),.int .i64 (f 5),.int .i64 (f 6),.int .i64 (f 7),.int .i64 (f 8),.int .i64 (f 9),d]
theorem B_ {a:D} {f:wR} {x:Nat} {v:Int} (hx:x<10):setMany (a::aT f) (1+x) [.int .i64 v]=a::aT (Gp f x v):=by
 match x,hx with
 |0,_=>rfl
 |1,_=>rfl
 |2,_=>rfl
 |3,_=>rfl
 |4,_=>rfl
 |5,_=>rfl
 |6,_=>rfl
 |7,_=>rfl
 |8,_=>rfl
 |9,_=>rfl
structure Wk where
 seen:List Bool
 dn:Bool
 bB:wR
 rdy:List iB
def cA (code:List aG) (pl:Nat) (e:Bool):Nat→Wk→iB→Wk×Bool
 |0,w,_=>(w,false)
 |f+1,w,t=>
  if w.seen.getD t.pc true=true then(w,false) else
  match code[t.pc]? with
  |none=>(w,false)
  |some i=>
   if i.op=7 then(⟨w.seen.set t.pc true,true,t.c,w.rdy⟩,true)
   else if i.op=2 then
    if(cA code pl e f ⟨w.seen.set t.pc true,w.dn,w.bB,w.rdy⟩ ⟨i.x.toNat,t.c⟩).2=true then cA code pl e f ⟨w.seen.set t.pc true,w.dn,w.bB,w.rdy⟩ ⟨i.x.toNat,t.c⟩
    else cA code pl e f (cA code pl e f ⟨w.seen.set t.pc true,w.dn,w.bB,w.rdy⟩ ⟨i.x.toNat,t.c⟩).1 ⟨i.y.toNat,t.c⟩
   else if i.op=1 then(⟨w.seen.set t.pc true,w.dn,w.bB,w.rdy++[t]⟩,false)
   else if i.op=3 then cA code pl e f ⟨w.seen.set t.pc true,w.dn,w.bB,w.rdy⟩ ⟨i.x.toNat,t.c⟩
   else if i.op=4 then cA code pl e f ⟨w.seen.set t.pc true,w.dn,w.bB,w.rdy⟩ ⟨t.pc+1,Gp t.c i.x.toNat (pl:Nat)⟩
   else if i.op=5 then if pl=0 then cA code pl e f ⟨w.seen.set t.pc true,w.dn,w.bB,w.rdy⟩ ⟨t.pc+1,t.c⟩ else(⟨w.seen.set t.pc true,w.dn,w.bB,w.rdy⟩,false)
   else if e=true then cA code pl e f ⟨w.seen.set t.pc true,w.dn,w.bB,w.rdy⟩ ⟨t.pc+1,t.c⟩ else(⟨w.seen.set t.pc true,w.dn,w.bB,w.rdy⟩,false)
def Good (code:List aG) (w w':Wk):Prop:=
 w'.seen.length=w.seen.length∧w'.seen.count false≤w.seen.count false∧w'.rdy.length+w'.seen.count false≤w.rdy.length+w.seen.count false∧∀t∈w'.rdy,t∈w.rdy∨∃i,code[t.pc]?=some i∧i.op=1
theorem Good.refl {code:List aG} {w:Wk}:Good code w w:=⟨rfl,Nat.le_refl _,Nat.le_refl _,fun t h=>.inl h⟩
theorem Good.trans {code:List aG} {a b c:Wk} (h:Good code a b) (k:Good code b c):Good code a c:=
 ⟨k.1.trans h.1,Nat.le_trans k.2.1 h.2.1,Nat.le_trans k.2.2.1 h.2.2.1,fun t ht=>by
  rcases k.2.2.2 t ht with q|q
  ·exact h.2.2.2 t q
  ·exact .inr q⟩
theorem Good.step {code:List aG} {w w':Wk} {j:Nat} (hj:w.seen[j]?=some false) (k:Good code ⟨w.seen.set j true,w.dn,w.bB,w.rdy⟩ w'):Good code w w':=by
 have hc:=count_set hj;refine Good.trans (b:=⟨w.seen.set j true,w.dn,w.bB,w.rdy⟩) ⟨?_,?_,?_,fun t h=>.inl h⟩ k
 ·simp
 ·show(w.seen.set j true).count false≤_;omega
 ·show w.rdy.length+(w.seen.set j true).count false≤_;omega
theorem vq {l:List Bool} {j:Nat} (h:¬l.getD j true=true):l[j]?=some false:=by
 rw[List.getD_eq_getElem?_getD] at h
 cases hq:l[j]? with
 |none=>rw[hq] at h;exact absurd rfl h
 |some b=>rw[hq] at h;cases b with
  |false=>rfl
  |true=>exact absurd rfl h
theorem yh {l:List Bool} {j:Nat} {b:Bool} (h:l[j]?=some b):l.getD j true=b:=by
 rw[List.getD_eq_getElem?_getD,h];rfl
theorem cC (code:List aG) (pl:Nat) (e:Bool):∀(f:Nat) (w:Wk) (t:iB),Good code w (cA code pl e f w t).1
 |0,w,t=>.refl
 |f+1,w,t=>by
  unfold cA
  split
  ·exact .refl
  ·rename_i hs;have hs:=vq hs;have hc:=count_set hs
   split
   ·exact .refl
   ·rename_i i hi
    split
    ·exact Good.step hs ⟨rfl,Nat.le_refl _,Nat.le_refl _,fun t h=>.inl h⟩
    ·split
     ·split
      ·exact Good.step hs (cC code pl e f _ _)
      ·exact Good.step hs ((cC code pl e f _ _).trans (cC code pl e f _ _))
     ·split
      ·rename_i h1;refine⟨by simp,by show(w.seen.set t.pc true).count false≤_;omega,by show(w.rdy++[t]).length+(w.seen.set t.pc true).count false≤_;rw[List.length_append];simp only[List.length_cons,List.length_nil];omega,fun t' h=>?_⟩
       rcases List.mem_append.1 h with h|h
       ·exact .inl h
       ·simp only[List.mem_cons,List.not_mem_nil,or_false] at h;subst h;exact .inr ⟨i,hi,h1⟩
      ·split
       ·exact Good.step hs (cC code pl e f _ _)
       ·split
        ·exact Good.step hs (cC code pl e f _ _)
        ·split
         ·split
          ·exact Good.step hs (cC code pl e f _ _)
          ·exact Good.step hs .refl
         ·split
          ·exact Good.step hs (cC code pl e f _ _)
          ·exact Good.step hs .refl
theorem B3 (l:List iB):∀e∈l.map a7,e.length=11:=by
 intro e he;obtain⟨x,_,rfl⟩:=List.mem_map.1 he;rfl
theorem lH (A:List bC) {N ks:Nat} {S s0:St} {H:List bC} {seen:List Bool} {i:Nat} {b:Bool} {pd qd:D} {P Q:List Nat} (hF:S.flr≤N) (hi:seen[i]?=some b) (a_:cQ P Q seen) (hH:Has N S s0 (A++(.box ks (.mem 0 false [pd,qd])::.aJ pd 1 (P.map fg)::.aJ qd 2 (Q.map lY)::H))):
  ∃r ah,Ev pv 51 [.ptr ks 0 0,.int .i64 (i:Nat),.bool true] s0 r ah∧r=.bool (!b)∧∃pd qd P Q,Has N S ah (A++(.box ks (.mem 0 false [pd,qd])::.aJ pd 1 (P.map fg)::.aJ qd 2 (Q.map lY)::H))∧cQ P Q (seen.set i true):=by
 obtain⟨r,ah,h1,h2,BR,BQ,P',Q',h3,h4⟩:=yg (H:=A++H) hF hi ⟨pd,qd,P,Q,Has.kK A [_,_,_] hH,a_⟩;exact⟨r,ah,h1,h2,BR,BQ,P',Q',Has.kK [_,_,_] A h3,h4⟩
theorem mq (A:List bC) {N ks:Nat} {S s0:St} {H:List bC} {seen:List Bool} {pd qd:D} {P Q:List Nat} (hF:S.flr≤N) (a_:cQ P Q seen) (hH:Has N S s0 (A++(.box ks (.mem 0 false [pd,qd])::.aJ pd 1 (P.map fg)::.aJ qd 2 (Q.map lY)::H))):
  ∃r ah,Ev pv 48 [.ptr ks 0 0] s0 r ah∧r=.tup []∧∃pd qd P Q,Has N S ah (A++(.box ks (.mem 0 false [pd,qd])::.aJ pd 1 (P.map fg)::.aJ qd 2 (Q.map lY)::H))∧cQ P Q (List.replicate seen.length false):=by
 obtain⟨r,ah,h1,h2,BR,BQ,P',Q',h3,h4⟩:=tk (H:=A++H) hF ⟨pd,qd,P,Q,Has.kK A [_,_,_] hH,a_⟩;exact⟨r,ah,h1,h2,BR,BQ,P',Q',Has.kK [_,_,_] A h3,h4⟩
def SR (N:Nat) (S st:St) (ks kv kw kl:Nat) (p:Pg) (pl:Nat) (ld:D) (e:Bool) (w:Wk) (H:List bC):Prop:=
 ∃rd pd qd P Q,Has N S st (.box kv (.mem 0 false [p.cd,p.sd,.int .i64 (pl:Nat),ld,.ptr ks 0 0])::.box kw (.mem 0 false [.ptr kl 0 0,rd,.bool e])::.box kl (.mem 0 false (bz w.dn w.bB .nul))::.aJ rd 11 (w.rdy.map a7)::.box ks (.mem 0 false [pd,qd])::.aJ pd 1 (P.map fg)::.aJ qd 2 (Q.map lY)::H)∧cQ P Q w.seen
theorem FR {N ks kv kw kl:Nat} {S:St} {H:List bC} {p:Pg} {pl:Nat} {ld:D} {e:Bool} (hF:S.flr≤N) (hp:p.ok) (hR:cj p) (jf:pl≤1099511627776):∀(f:Nat) (w:Wk) (t:iB) (s0:St) (H:List bC),t.pc<p.code.length→w.seen.length=p.code.length→w.seen.count false<f→w.rdy.length+w.seen.count false≤1048576→SR N S s0 ks kv kw kl p pl ld e w H→
  ∃r ah,Ev pv 49 [.ptr kv 0 0,.ptr kw 0 0,.agg (a7 t)] s0 r ah∧r=.bool (cA p.code pl e f w t).2∧SR N S ah ks kv kw kl p pl ld e (cA p.code pl e f w t).1 H
 |0,_,_,_,_,_,_,h,_,_=>absurd h (Nat.not_lt_zero _)
 |f+1,w,t,s0,H,Fk,iV,dA,va,hT=>by
  have ih:=FR (ks:=ks) (kv:=kv) (kw:=kw) (kl:=kl) (S:=S) (H:=H) (ld:=ld) (e:=e) hF hp hR jf f;obtain⟨rd,pd,qd,P,Q,hH,a_⟩:=hT;have hc:=hp.c.arg N S;have hlen:=hp.cl
  obtain⟨i,hi⟩:∃i,p.code[t.pc]?=some i:=⟨p.code[t.pc]'Fk,List.getElem?_eq_getElem _⟩
  obtain⟨b,hb⟩:∃b,w.seen[t.pc]?=some b:=⟨w.seen[t.pc]'(by omega),List.getElem?_eq_getElem _⟩
  have hr:=gK hi;have AM:=(hp.i i (List.mem_of_getElem? hi)).1;have wb:=kI (hR.sh t.pc i hi);have Ld:=yh hb;have iZ:cA p.code pl e (f+1) w t=cA p.code pl e (f+1) w t:=rfl
  conv at iZ=>rhs;unfold cA
  rw[Ld] at iZ;simp only[hi] at iZ;generalize cA p.code pl e (f+1) w t=R at*;obtain⟨op,x,y,Ta,rs⟩:=i;obtain⟨pc,c⟩:=t;simp only at*;refine Ev.iY rfl QQ rfl rfl rfl ?_;dsimp only[u3,u4,List.length,Nat.reduceSub,Nat.reduceAdd,w1,w2];change af _ _ _ _ s0 _;refine qq<|qj fun K hK=>qb hH fun k5 st Ga hH=>?_;dsimp only[u2,u1,u3,u4,setMany,u5,u6,D.cells,Nat.reduceAdd,aM,a7,bz,aT] at hH;refine qm ?_;refine qe hK<|qq<|qq<|qj fun K hK=>qm ?_;refine qg ?_;refine qp (o:=4) ?_;refine ql hH b5 ?_;refine qp (o:=0) ?_;refine ql hH ay ?_;obtain⟨_,st,aH,rfl,pd,qd,P,Q,hH,a_⟩:=lH [_,_,_,_,_] hF hb a_ hH;dsimp only[u3,u4] at hH;refine qv aH ?_;refine qg ?_;refine qe hK ?_
  cases b with
  |true=>
   rw[if_pos rfl] at iZ;subst iZ;refine qB ?_;refine qq<|qj fun K hK=>qm ?_;refine qe hK<|af.ret ⟨rx,_,_,_,rfl,rfl,?_⟩;refine⟨rfl,rd,pd,qd,P,Q,hH.drop 1,?_⟩
   have:w.seen.set pc true=w.seen:=by
    refine List.ext_getElem? fun j=>?_
    by_cases hj:j=pc
    ·subst hj;rw[List.getElem?_set_self (by omega),hb]
    ·rw[List.getElem?_set_ne (fun e=>hj e.symm)]
   rw[←this];exact a_
  |false=>
   rw[if_neg (by decide)] at iZ;have A5:=count_set hb;have AJ:(w.seen.set pc true).length=p.code.length:=by rw[List.length_set];exact iV
   have Nk:(w.seen.set pc true).count false<f:=by omega
   have Ms:w.rdy.length+(w.seen.set pc true).count false≤1048576:=by omega
   generalize w.seen.set pc true=sn at*;clear hb Ld A5 iV dA va;refine qC ?_;refine af.skip<|qq<|qj fun K hK=>qm ?_;refine qg ?_;refine qp (o:=0) ?_;refine qp (o:=0) ?_;refine ql hH b5 ?_;refine qp (o:=0) ?_;refine ql hH ay ?_;refine qr fun LX AS=>?_;refine ab.dE rfl (ev rfl) (by assumption) rfl (by dsimp only[Fr.put,u1,u2]<;>rfl) ?_;refine qa hH fun k7 st Sq hH=>?_;refine qS hH ay fun st hH=>?_;dsimp only[u2,u1,u3,u4,setMany,u5,u6,D.cells,Nat.reduceAdd,aM,a7,bz,aT] at hH;refine qe hK<|qq<|qj fun K hK=>?_;refine ab.bN (m:=11) hH rfl (ev rfl) (by exact b5) (by dsimp only[List.drop_succ_cons,List.drop_zero,List.take_succ_cons,List.take_zero,aM,a7,bz,aT]<;>rfl) rfl rfl (by dsimp only[Fr.put,u1,u2]<;>rfl) ?_;refine qa hH fun k8 st NY hH=>?_;refine qS hH ay fun st hH=>?_;dsimp only[u2,u1,u3,u4,setMany,u5,u6,D.cells,Nat.reduceAdd,aM,a7,bz,aT] at hH;refine qe hK<|qq<|qj fun K hK=>qp (o:=0) ?_;refine ql hH ay ?_;refine qA ?_;refine qp (o:=0) ?_;refine qT hH ay fun st hH=>?_;dsimp only[u2,u1,u3,u4,setMany,u5,u6,D.cells,Nat.reduceAdd,aM,a7,bz,aT] at hH;refine qe hK<|qq<|qq<|qj fun K hK=>qp (o:=0) ?_;refine ql hH b5 ?_;refine qe hK<|af.merge (fun fr st=>∃(t':iB) (tmp:List (Nat×D)),fr=⟨33,[.ptr kv 0 0,.ptr kw 0 0,bY fr 2,bY fr 3,bY fr 4,.ptr k5 0 0,.bool false,.ptr k7 0 0,.ptr k8 0 0,bY fr 9,bY fr 10,bY fr 11,bY fr 12,bY fr 13,bY fr 14,bY fr 15,bY fr 16,bY fr 17,bY fr 18,bY fr 19,bY fr 20,bY fr 21,bY fr 22,bY fr 23,bY fr 24,bY fr 25,bY fr 26,bY fr 27,bY fr 28,bY fr 29,bY fr 30,bY fr 31,bY fr 32],tmp⟩∧Has N S st (.box k8 (.mem 0 false (a7 t'))::.box k7 (.mem 0 false [.int .i64 op,.int .i64 x,.int .i64 y,Ta])::.box k5 (.mem 0 false (a7 ⟨pc,c⟩))::.box kv (.mem 0 false [p.cd,p.sd,.int .i64 (pl:Nat),ld,.ptr ks 0 0])::.box kw (.mem 0 false [.ptr kl 0 0,rd,.bool e])::.box kl (.mem 0 false (bz w.dn w.bB .nul))::.aJ rd 11 (w.rdy.map a7)::.box ks (.mem 0 false [pd,qd])::.aJ pd 1 (P.map fg)::.aJ qd 2 (Q.map lY)::H)∧(R=cA p.code pl e f ⟨sn,w.dn,w.bB,w.rdy⟩ t')∧(t'.pc<p.code.length)) ?_ ?_
   ·refine af.block<|qq<|qj fun K hK=>qg ?_;refine qm ?_;refine qe hK ?_;refine af.cond (by rfl) (fun h7=>?_) (fun h7=>?_)<;>try simp only[beq_iff_eq,beq_eq_false_iff_ne,ne_eq] at h7
    ·rw[if_pos h7] at iZ;subst iZ;have zn:=hH;change af _ _ _ _ _ _;refine qq ?_;generalize hK:bW _ _ _ _=K;refine af.zQ rfl ?_;refine et.cons ?_;refine qm ?_;refine ab.nil ⟨rfl,?_⟩;refine et.cons ?_;refine qg ?_;refine ab.nil ⟨rfl,?_⟩;refine et.cons ?_;refine qp (o:=0) ?_;refine ab.nil ⟨rfl,?_⟩;refine et.cons ?_;refine ql hH gw ?_;refine ab.nil ⟨rfl,?_⟩;refine et.cons ?_;refine qm ?_;refine ab.nil ⟨rfl,?_⟩;refine et.cons ?_;refine qg ?_;refine ab.nil ⟨rfl,?_⟩;refine et.cons ?_;refine qp (o:=0) ?_;refine ab.nil ⟨rfl,?_⟩;refine et.cons ?_;refine ql hH gw ?_;refine ab.nil ⟨rfl,?_⟩;refine et.cons ?_;refine qp (o:=1) ?_;refine ab.nil ⟨rfl,?_⟩;refine et.cons ?_;refine ab.bN (m:=10) hH rfl (ev rfl) (by exact eV) (by dsimp only[List.drop_succ_cons,List.drop_zero,List.take_succ_cons,List.take_zero,aM,a7,bz,aT]<;>rfl) rfl rfl (ag rfl _) ?_;refine ab.nil ⟨rfl,?_⟩;refine et.cons ?_;refine qg ?_;refine ab.nil ⟨rfl,?_⟩;refine et.cons ?_;refine qp (o:=0) ?_;refine ab.nil ⟨rfl,?_⟩;refine et.cons ?_;refine qT hH sR fun st hH=>?_;dsimp only[u2,u1,u3,u4,setMany,u5,u6,D.cells,Nat.reduceAdd,aM,a7,bz,aT] at hH;refine ab.nil ⟨by exact Bool.and_eq_true_iff.2 ⟨y_ rfl rfl rfl (zn.at eV) (hH.at eV) (zn.at eV) rfl,rfl⟩,?_⟩;refine et.cons ?_;refine qg ?_;refine ab.nil ⟨rfl,?_⟩;refine et.cons ?_;refine qp (o:=1) ?_;refine ab.nil ⟨rfl,?_⟩;refine et.cons ?_;refine qT hH sR fun st hH=>?_;dsimp only[u2,u1,u3,u4,setMany,u5,u6,D.cells,Nat.reduceAdd,aM,a7,bz,aT] at hH;refine ab.nil ⟨rfl,?_⟩;refine et.nil ?_;subst hK;refine qq<|qj fun K hK=>qm ?_;refine qe hK<|af.ret ⟨rx,_,_,_,rfl,rfl,?_⟩;exact⟨rfl,rd,pd,qd,P,Q,hH.drop 3,a_⟩
    ·rw[if_neg h7] at iZ;refine qq<|qj fun K hK=>qg ?_;refine qm ?_;refine qe hK ?_;refine af.cond (by rfl) (fun h2=>?_) (fun h2=>?_)<;>try simp only[beq_iff_eq,beq_eq_false_iff_ne,ne_eq] at h2
     ·rw[if_pos h2] at iZ;obtain⟨_,⟨hx0,hx1⟩,hy0,hy1⟩:=(wb.resolve_left h7).resolve_right (by omega);obtain⟨xn,rfl⟩:=Int.eq_ofNat_of_zero_le hx0;obtain⟨yn,rfl⟩:=Int.eq_ofNat_of_zero_le hy0;have PG:=cC p.code pl e f ⟨sn,w.dn,w.bB,w.rdy⟩ ⟨xn,c⟩;have Gg:=Has.kK [_,_,_] [_,_,_,_,_,_,_] hH;obtain⟨_,st1,aH,rfl,hT⟩:=ih ⟨sn,w.dn,w.bB,w.rdy⟩ ⟨xn,c⟩ _ _ (by show xn<_;omega) AJ Nk Ms ⟨rd,pd,qd,P,Q,Gg,a_⟩;clear Gg;have iZ:R=if(cA p.code pl e f ⟨sn,w.dn,w.bB,w.rdy⟩ ⟨xn,c⟩).2=true then cA p.code pl e f ⟨sn,w.dn,w.bB,w.rdy⟩ ⟨xn,c⟩ else cA p.code pl e f (cA p.code pl e f ⟨sn,w.dn,w.bB,w.rdy⟩ ⟨xn,c⟩).1 ⟨yn,c⟩:=iZ;generalize cA p.code pl e f ⟨sn,w.dn,w.bB,w.rdy⟩ ⟨xn,c⟩=R1 at*;obtain⟨w1,b1⟩:=R1;obtain⟨cS,bf,bF,iP⟩:=PG;simp only at cS bf bF iP aH hT iZ;obtain⟨RM,RU,RN,P1,Q1,Gg,ML⟩:=hT;have Gg:=Has.kK [_,_,_,_,_,_,_] [_,_,_] Gg;dsimp only[u3,u4] at Gg
      cases b1 with
      |true=>
       rw[if_pos rfl] at iZ;subst iZ;have fU:true=true:=rfl;refine qq<|qj fun K hK=>qm ?_;refine qm ?_;refine qp (o:=1) ?_;refine ql hH b5 ?_;refine qp (o:=1) ?_;refine ab.bN (m:=10) hH rfl (ev rfl) (by exact eV) (by dsimp only[List.drop_succ_cons,List.drop_zero,List.take_succ_cons,List.take_zero,aM,a7,bz,aT]<;>rfl) rfl rfl (ag rfl _) ?_;refine ab.go (d:=.agg (a7 ⟨xn,c⟩)) (st1:=_) rfl rfl rfl (ag rfl _) ?_;refine qv aH ?_;refine qm ?_;refine qs ?_ (hg:=wn fU);refine qs ?_ (hg:=wn fU);refine qs ?_ (hg:=wn fU);refine qs ?_ (hg:=wn fU);refine qs ?_ (hg:=wn fU);refine qs ?_ (hg:=wn fU);refine qs ?_ (hg:=wn fU);refine qs ?_ (hg:=wn fU);refine qt fU ?_;refine qm ?_;refine qe hK<|af.ret ⟨rx,_,_,_,rfl,rfl,?_⟩;exact⟨rfl,RM,RU,RN,P1,Q1,Gg.drop 3,ML⟩
      |false=>
       rw[if_neg (by decide)] at iZ;have fU:false=false:=rfl;refine qq<|qj fun K hK=>qm ?_;refine qm ?_;refine qp (o:=1) ?_;refine ql hH b5 ?_;refine qp (o:=1) ?_;refine ab.bN (m:=10) hH rfl (ev rfl) (by exact eV) (by dsimp only[List.drop_succ_cons,List.drop_zero,List.take_succ_cons,List.take_zero,aM,a7,bz,aT]<;>rfl) rfl rfl (ag rfl _) ?_;refine ab.go (d:=.agg (a7 ⟨xn,c⟩)) (st1:=_) rfl rfl rfl (ag rfl _) ?_;have hH:=Gg;refine qv aH ?_;refine qm ?_;refine qm ?_ (hg:=wi fU);refine qm ?_ (hg:=wi fU);refine qp (o:=2) ?_ (hg:=wi fU);refine ql hH b5 ?_ (hg:=wi fU);refine qp (o:=1) ?_ (hg:=wi fU);refine ab.bN (m:=10) hH (aB rfl rfl rfl fU) (ev rfl) (by exact eV) (by dsimp only[List.drop_succ_cons,List.drop_zero,List.take_succ_cons,List.take_zero,aM,a7,bz,aT]<;>rfl) rfl rfl (ag rfl _) ?_;refine ab.go (d:=.agg (a7 ⟨yn,c⟩)) (st1:=_) (aB rfl rfl rfl fU) rfl rfl (ag rfl _) ?_;obtain⟨_,st,aH,rfl,hT⟩:=ih w1 ⟨yn,c⟩ _ _ (by show yn<_;omega) (by omega) (by omega) (by omega) ⟨RM,RU,RN,P1,Q1,hH.drop 3,ML⟩;refine qv aH ?_ (hg:=wi fU);refine qu fU ?_;refine qm ?_;refine qe hK<|af.ret ⟨rx,_,_,_,rfl,rfl,?_⟩;rw[iZ];exact⟨rfl,hT⟩
     ·rw[if_neg h2] at iZ;refine qq<|qj fun K hK=>qg ?_;refine qm ?_;refine qe hK ?_;refine af.cond (by rfl) (fun h1=>?_) (fun h1=>?_)<;>try simp only[beq_iff_eq,beq_eq_false_iff_ne,ne_eq] at h1
      ·rw[if_pos h1] at iZ;subst iZ;refine qq<|qj fun K hK=>qm ?_;refine qm ?_;refine qg ?_;refine qp (o:=1) ?_;refine ql hH gw ?_;refine ab.bN (m:=11) hH rfl (ev rfl) (by exact eV) (by dsimp only[List.drop_succ_cons,List.drop_zero,List.take_succ_cons,List.take_zero,aM,a7,bz,aT]<;>rfl) rfl rfl (ag rfl _) ?_;refine qh (s:=11) (vs:=[_]) hH fun k77 st MX hH=>?_;refine ab.bR (s:=11) hH rfl (ev rfl) (ev rfl) (by exact RB) (by exact hH.rows (by exact ay)) rfl rfl rfl rfl rfl rfl rfl ⟨(Nat.le_of_ble_eq_true rfl),(Nat.le_of_ble_eq_true rfl)⟩ (fun _=>(ag rfl _)) (by simp only[List.length_cons,List.length_nil,List.length_map]<;>omega) (by exact .inl hF) (fun SV st hH=>?_);dsimp only[u2,u1,u3,u4,setMany,u5,u6,D.cells,Nat.reduceAdd,aM,a7,bz,aT] at hH;refine qg ?_;refine qp (o:=1) ?_;refine qT hH sR (fun st hH=>?_) (hY:=hH.fP RB);dsimp only[u2,u1,u3,u4,setMany,u5,u6,D.cells,Nat.reduceAdd,aM,a7,bz,aT] at hH;refine qe hK<|qq<|qj fun K hK=>qm ?_;refine qe hK<|af.ret ⟨rx,_,_,_,rfl,rfl,?_⟩;refine⟨rfl,SV,pd,qd,P,Q,?_,a_⟩;rw[List.map_append];exact hH.drop 4
      ·rw[if_neg h1] at iZ;refine qq<|qj fun K hK=>qg ?_;refine qm ?_;refine qe hK ?_;refine af.cond (by rfl) (fun h3=>?_) (fun h3=>?_)<;>try simp only[beq_iff_eq,beq_eq_false_iff_ne,ne_eq] at h3
       ·rw[if_pos h3] at iZ;obtain⟨_,hx0,hx1⟩:=((wb.resolve_left h7).resolve_left (by omega)).resolve_right (by omega);obtain⟨xn,rfl⟩:=Int.eq_ofNat_of_zero_le hx0;refine qj fun K hK=>qp (o:=1) ?_;refine ql hH b5 ?_;refine qp (o:=0) ?_;refine qT hH ay fun st hH=>?_;dsimp only[u2,u1,u3,u4,setMany,u5,u6,D.cells,Nat.reduceAdd,aM,a7,bz,aT] at hH;refine qe hK ?_;exact⟨⟨xn,c⟩,_,rfl,hH,iZ,by show xn<_;omega⟩
       ·rw[if_neg h3] at iZ;refine qq<|qj fun K hK=>qg ?_;refine qm ?_;refine qe hK ?_;refine af.cond (by rfl) (fun h4=>?_) (fun h4=>?_)<;>try simp only[beq_iff_eq,beq_eq_false_iff_ne,ne_eq] at h4
        ·rw[if_pos h4] at iZ;obtain⟨_,AP,hx0,hx1⟩:=(((wb.resolve_left h7).resolve_left (by omega)).resolve_left (by omega)).resolve_right (by omega);obtain⟨xn,rfl⟩:=Int.eq_ofNat_of_zero_le hx0;refine qj fun K hK=>qp (o:=1) ?_;refine ql hH b5 ?_;refine qm ?_;refine qg ?_;refine qp (o:=2) ?_;refine ql hH gG ?_;refine qp (o:=1) ?_;refine ab.Kt (m:=10) (s:=1) (i:=xn) (o:=1+xn) rfl (ev rfl) (ev rfl) rfl rfl (by omega) (by omega) (ag rfl _) ?_;refine ab.ow hH rfl (ev rfl) (ev rfl) rfl (by exact rfl) ay (by show 1+xn+1≤11;omega) (.inl hF) (fun st hH=>?_);change Has _ _ _ (.box k8 (.mem 0 false (setMany (_::aT c) (1+xn) [.int .i64 (pl:Nat)]))::_) at hH;rw[B_ (by omega)] at hH;refine qe hK ?_;exact⟨⟨pc+1,Gp c xn (pl:Nat)⟩,_,rfl,hH,iZ,AP⟩
        ·rw[if_neg h4] at iZ;refine qq<|qj fun K hK=>qg ?_;refine qm ?_;refine qe hK ?_;refine af.cond (by rfl) (fun h5=>?_) (fun h5=>?_)<;>try simp only[beq_iff_eq,beq_eq_false_iff_ne,ne_eq] at h5
         ·rw[if_pos h5] at iZ;have AP:pc+1<p.code.length:=by omega
          refine qq<|qj fun K hK=>qm ?_;refine qg ?_;refine qp (o:=2) ?_;refine ql hH gG ?_;refine qg ?_;refine qe hK ?_
          by_cases ha:pl=0
          ·rw[if_pos ha] at iZ;subst ha;refine af.cond (v:=false) (by dsimp only[Fr.ev,Fr.get,nth,V.look];rfl) (fun h=>by cases h) (fun _=>?_);refine af.skip ?_;exact⟨⟨pc+1,c⟩,_,rfl,hH,iZ,AP⟩
          ·rw[if_neg ha] at iZ;subst iZ;refine qD rfl (by simp;omega) ?_;refine qq<|qj fun K hK=>qm ?_;refine qe hK<|af.ret ⟨rx,_,_,_,rfl,rfl,?_⟩;exact⟨rfl,rd,pd,qd,P,Q,hH.drop 3,a_⟩
         ·rw[if_neg h5] at iZ;have h6:op=6:=by omega
          have AP:pc+1<p.code.length:=by omega
          refine qq<|qj fun K hK=>qg ?_;refine qm ?_;refine qe hK<|qD rfl (by simp[h6]) ?_;refine qq<|qj fun K hK=>qm ?_;refine qg ?_;refine qp (o:=2) ?_;refine ql hH gw ?_;refine qg ?_;refine qe hK ?_
          cases e with
          |true=>
           rw[if_pos rfl] at iZ;refine qC ?_;refine af.skip ?_;exact⟨⟨pc+1,c⟩,_,rfl,hH,iZ,AP⟩
          |false=>
           rw[if_neg (by decide)] at iZ;subst iZ;refine qB ?_;refine qq<|qj fun K hK=>qm ?_;refine qe hK<|af.ret ⟨rx,_,_,_,rfl,rfl,?_⟩;exact⟨rfl,rd,pd,qd,P,Q,hH.drop 3,a_⟩
   ·rintro fr st ⟨t',tmp,hfr,hH,VG,O6⟩;rw[hfr];clear hfr;generalize bY fr=ee;clear fr;obtain⟨Tb,c'⟩:=t';dsimp only[a7] at hH;refine qq<|qj fun K hK=>qm ?_;refine qm ?_;refine ab.bN (m:=11) hH rfl (ev rfl) (by exact ay) (by dsimp only[List.drop_succ_cons,List.drop_zero,List.take_succ_cons,List.take_zero,aM,a7,bz,aT]<;>rfl) rfl rfl (ag rfl _) ?_;have hH:=hH.drop 3;obtain⟨_,st,aH,rfl,hT⟩:=ih ⟨sn,w.dn,w.bB,w.rdy⟩ ⟨Tb,c'⟩ _ _ O6 AJ Nk Ms ⟨rd,pd,qd,P,Q,hH,a_⟩;refine qv aH ?_;refine qm ?_;refine qe hK<|af.ret ⟨rx,_,_,_,rfl,rfl,?_⟩;rw[VG];exact⟨rfl,hT⟩
end Go.Proofs.Ytbdnabmmlbiomaa
