/-
 What Compile makes is right; what its rules reach: the ends.
-/
import Derived.Test.YtbdilgkfnacahaaGreatXGQh
import Derived.Test.YtbdilgkfnacahaaGreatXM2
import Derived.DataReads
import Derived.ChangeOld
import GoSem.ClaimChange
import Derived.Below
import Derived.Test.YtbdilgkfnacahaaGreatRows
import Derived.Test.YtbdilgkfnacahaaGreatXGQa
import Derived.Test.YtbdilgkfnacahaaGreatXGUb
set_option maxRecDepth 100000
set_option linter.unusedSimpArgs false
set_option linter.unusedVariables false
set_option maxHeartbeats 4000000
set_option linter.unusedSectionVars false
set_option linter.unnecessarySimpa false
namespace Go.Proofs.YtbdilgkfnacahaaGreat
open Go.V Go
theorem zb {lo hi u:Nat} {i:aL} (h:cO lo hi i) (h1:lo≤u+1) (h2:u+1≤hi):∀v∈cx u i,(lo:Int)≤v∧v≤hi:=by
 intro v hv;unfold cx at hv
 rcases h with⟨a,_⟩|⟨a,_,c,d⟩|⟨a,_,_,d⟩|⟨a,_⟩|⟨a,_⟩
 ·rw[if_neg (by omega),if_neg (by omega),if_neg (by omega)] at hv;simp only[List.mem_cons,List.not_mem_nil,or_false] at hv;omega
 ·rw[if_pos a] at hv;simp only[List.mem_cons,List.not_mem_nil,or_false] at hv
  rcases hv with rfl|rfl<;>omega
 ·rw[if_neg (by omega),if_pos a] at hv;simp only[List.mem_cons,List.not_mem_nil,or_false] at hv;omega
 ·rw[if_neg (by omega),if_neg (by omega),if_neg (by omega)] at hv;simp only[List.mem_cons,List.not_mem_nil,or_false] at hv;omega
 ·rw[if_neg (by omega),if_neg (by omega),if_neg (by omega)] at hv;simp only[List.mem_cons,List.not_mem_nil,or_false] at hv;omega
theorem uS {lo hi n ns pc:Nat} {i:aL} (h:cO lo hi i) (h1:hi<n) (h2:pc+1<n):db n ns pc i=true:=by
 have Ha:∀v:Int,(lo:Int)≤v→v≤hi→oN v n=true:=fun v a b=>dC.2 ⟨by omega,by omega⟩;have hd:decide (((pc+1:Nat):Int)<n)=true:=by rw[decide_eq_true_eq];omega
 unfold db
 rcases h with⟨a,b,c,d⟩|⟨a,b,c,d⟩|⟨a,b,c,d⟩|⟨a,b,c,d⟩|⟨a,b,c,d⟩
 ·rw[if_pos a,hd,b,c,d];rfl
 ·rw[if_neg (by omega),if_pos a,b,Ha _ c.1 c.2,Ha _ d.1 d.2];rfl
 ·rw[if_neg (by omega),if_neg (by omega),if_pos a,b,c,Ha _ d.1 d.2];rfl
 ·rw[if_neg (by omega),if_neg (by omega),if_neg (by omega),if_pos a,b,c,hd,dC.2 ⟨d.1,d.2⟩];rfl
 ·rw[if_neg (by omega),if_neg (by omega),if_neg (by omega),if_neg (by omega),if_pos a,b,c,hd,d];rfl
theorem l7 {t:Tr} {b r o:Nat} {q:aL} (h1:t.ok) (h2:B8 t.flat) (h:(dY t b r)[o]?=some q):(o<t.sz+2∧cO b (b+t.sz+2) q)∨(o=t.sz+2∧q=cJ 7 (r:Nat) 0 []):=by
 have hl:=ck t (b+1) h1;have hA:dY t b r=(cJ 4 0 0 []::(aQ t (b+1)++[cJ 4 1 0 []]))++[cJ 7 (r:Nat) 0 []]:=by unfold dY;simp
 have WH:(cJ 4 0 0 []::(aQ t (b+1)++[cJ 4 1 0 []])).length=t.sz+2:=by simp[hl]
 rw[hA] at h
 by_cases ho:o<t.sz+2
 ·rw[List.getElem?_append_left (by omega)] at h;refine .inl ⟨ho,?_⟩;have hm:=List.mem_of_getElem? h
  rcases List.mem_cons.1 hm with rfl|hm
  ·exact cO.save (by omega)
  ·rcases List.mem_append.1 hm with hm|hm
   ·exact(jk t (b+1) h1 h2 q hm).mono (by omega) (by omega)
   ·simp only[List.mem_cons,List.not_mem_nil,or_false] at hm;subst hm;exact cO.save (by omega)
 ·rw[List.getElem?_append_right (by omega),WH] at h;have h0:=bz h;simp only[List.length_cons,List.length_nil] at h0;have ra:o=t.sz+2:=by omega
  refine .inr ⟨ra,?_⟩;rw[ra,Nat.sub_self] at h;exact(Option.some.inj h).symm
structure Oy (p:Pg) (r s e:Nat):Prop where
 st:p.az[r]?=some (s:Int)
 se:s<e
 el:e≤p.code.length
 nx:∀b':Int,p.az[r+1]?=some b'→b'=(e:Int)
 la:r+1=p.az.length→p.code.length=e
 mt:p.code[e-1]?=some (cJ 7 (r:Nat) 0 [])
 fi:(oo p (r:Nat))[0]?=some (s:Int)
 lt:(oo p (r:Nat))[(oo p (r:Nat)).length-1]?=some ((e-1:Nat):Int)
theorem yA {X:List Int} {a b:Int} (hp:X.Pairwise (·<·)) (ha:a∈X) (hb:b∈X) (h:∀v∈X,a≤v∧v≤b):X[0]?=some a∧X[X.length-1]?=some b:=by
 obtain⟨i,hi⟩:=List.getElem?_of_mem ha;obtain⟨j,hj⟩:=List.getElem?_of_mem hb;have hil:=bz hi;have iR:=bz hj
 have hlt:∀u v (x y:Int),u<v→X[u]?=some x→X[v]?=some y→x<y:=fun u v x y UD hx hy=>by
  have:=List.pairwise_iff_getElem.1 hp u v (bz hx) (bz hy) UD;have ex:X[u]'(bz hx)=x:=Option.some.inj ((List.getElem?_eq_getElem _).symm.trans hx);have ey:X[v]'(bz hy)=y:=Option.some.inj ((List.getElem?_eq_getElem _).symm.trans hy);rw[ex,ey] at this;exact this
 constructor
 ·obtain⟨x,hx⟩:∃x,X[0]?=some x:=⟨X[0]'(by omega),List.getElem?_eq_getElem _⟩
  have:=h x (List.mem_of_getElem? hx)
  by_cases h0:i=0
  ·rw[←h0];exact hi
  ·have:=hlt 0 i x a (by omega) hx hi;omega
 ·obtain⟨x,hx⟩:∃x,X[X.length-1]?=some x:=⟨X[X.length-1]'(by omega),List.getElem?_eq_getElem _⟩
  have:=h x (List.mem_of_getElem? hx)
  by_cases h0:j=X.length-1
  ·rw[←h0];exact hj
  ·have:=hlt j (X.length-1) b x (by omega) hj hx;omega
theorem wb {parts:List (List da)} (hl:parts.length≤8) (he:(br parts).e=0) (hcl:(br parts).code.length≤400):
  bU (nN (br parts).code (br parts).az)∧(br parts).az.length=parts.length∧∀r,r<parts.length→∃s e,Oy (nN (br parts).code (br parts).az) r s e:=by
 have gR:br parts=ec parts 0 [] []:=by unfold br;rw[if_neg (by omega)]
 rw[gR] at he hcl⊢;obtain⟨C,B,h1,h2,h3⟩:=pa parts 0 [] [] he;simp only[List.nil_append] at h1 h2;simp only[List.length_nil] at h3;rw[h1] at hcl;rw[h1,h2];have OX:=h3.bl
 have hsh:∀pc i,C[pc]?=some i→db C.length B.length pc i=true:=by
  intro pc i hi;obtain⟨j,q1,t,b,q2,q3,q4,q5,q6,q7,q8,q9⟩:=h3.al pc i hi;rw[Nat.zero_add] at q9
  rcases l7 q3 q4 q9 with⟨g1,g2⟩|⟨g1,g2⟩
  ·exact uS g2 (by omega) (by omega)
  ·rw[g2];have:oN ((j:Nat):Int) B.length=true:=dC.2 ⟨by omega,by omega⟩;unfold db cJ;simp[this]
 have NZ:hU C:=mI (p:=nN C B) hsh
 have A7:∀r,r<parts.length→∃s e:Nat,B[r]?=some (s:Int)∧s<e∧e≤C.length∧(∀b':Int,B[r+1]?=some b'→b'=(e:Int))∧(r+1=parts.length→C.length=e)∧C[e-1]?=some (cJ 7 (r:Nat) 0 [])∧(∀u:Nat,(cm C (s:Nat))[u]?=some true→s≤u∧u<e)∧(cm C (s:Nat))[s]?=some true∧(cm C (s:Nat))[e-1]?=some true∧∀u i,s≤u→u<e→C[u]?=some i→i.op=7→i.x=(r:Int):=by
  intro r hr;obtain⟨t,b,q1,q2,q3,q4,q5,q6,pre,post,q7,q8⟩:=h3.el r hr;rw[Nat.zero_add] at q6 q8;rw[Nat.zero_add] at q7;have pJ:=j7 (b:=b) (r:=r) q1;have L8:C.length=b+(t.sz+3)+post.length:=by rw[q7,List.length_append,List.length_append,pJ,q8]
  have gY:∀u,b≤u→u<b+t.sz+3→C[u]?=(dY t b r)[u-b]?:=fun u g1 g2=>by
   rw[q7,List.append_assoc,List.getElem?_append_right (by omega),q8,List.getElem?_append_left (by omega)]
  have jc:eS C b (dY t b r):=⟨post,by rw[q7,List.append_assoc,←q8,List.drop_left]⟩
  have Ha:∀u:Nat,(cm C (b:Nat))[u]?=some true→b≤u∧u<b+t.sz+3:=by
   unfold cm;refine wI (I:=fun u=>b≤u∧u<b+t.sz+3) (fun u i hu hi v hv=>?_) _ _ _ (fun v hv=>?_) (fun u hu=>?_)
   ·rw[gY u hu.1 hu.2] at hi
    rcases l7 q1 q2 hi with⟨g1,g2⟩|⟨g1,g2⟩
    ·have:=zb (u:=u) g2 (by omega) (by omega) v hv;omega
    ·rw[g2] at hv;have:cx u (cJ 7 (r:Nat) 0 [])=[]:=by unfold cx cJ;simp
     rw[this] at hv;cases hv
   ·simp only[List.mem_cons,List.not_mem_nil,or_false] at hv;subst hv;rw[Int.toNat_natCast];omega
   ·rw[List.getElem?_replicate] at hu
    split at hu<;>cases hu
  have hs:=tO (s:=b) NZ (by omega)
  have Vs:C[b+t.sz+3-1]?=some (cJ 7 (r:Nat) 0 []):=by
   rw[gY _ (by omega) (by omega)];unfold dY;have sO:=ck t (b+1) q1;rw[show b+t.sz+3-1-b=(t.sz+1)+1 by omega,List.getElem?_cons_succ,List.getElem?_append_right (by omega),sO,show t.sz+1-t.sz=1 by omega]
   rfl
  have Nf:Path C b (b+t.sz+3-1):=by
   unfold dY at jc;have p1:Path C b (b+1):=Path.wD jc.head (by show(4:Int)≠2∧(4:Int)≠3∧(4:Int)≠7;decide);have p2:=zp (C:=C) _ t (Nat.le_refl _) (b+1) q1 jc.tail.left;have h4:=jc.tail.right;rw[ck t _ q1] at h4;have p3:Path C (b+1+t.sz) (b+1+t.sz+1):=Path.wD h4.head (by show(4:Int)≠2∧(4:Int)≠3∧(4:Int)≠7;decide);rw[show b+t.sz+3-1=b+1+t.sz+1 by omega];exact p1.trans (p2.trans p3)
  refine⟨b,b+t.sz+3,q3,by omega,by omega,fun b' dD=>q5 b' dD,q6,Vs,Ha,hs,yH NZ ⟨by omega,by omega⟩ Nf hs,fun u i g1 g2 hi ho=>?_⟩;rw[gY u g1 g2] at hi
  rcases l7 q1 q2 hi with⟨_,g3⟩|⟨_,g3⟩
  ·rcases g3 with⟨a,_⟩|⟨a,_⟩|⟨a,_⟩|⟨a,_⟩|⟨a,_⟩<;>omega
  ·rw[g3];rfl
 have hR:bU (nN C B):=by
  refine⟨hcl,by show B.length≤8;omega,hsh,fun v hv=>?_,fun r s hs pc i Ba M_ hi ho=>?_⟩
  ·obtain⟨r,hr⟩:=List.getElem?_of_mem (show v∈B from hv);obtain⟨s,e,g1,g2,g3,_⟩:=A7 r (by rw[←OX];exact bz hr);rw[g1] at hr;cases hr;show(0:Int)≤(s:Int)∧(s:Int)<(C.length:Int);omega
  ·have hs:B[r]?=some s:=hs;obtain⟨s',e,g1,g2,g3,g4,g5,g6,g7,g8,g9,g10⟩:=A7 r (by rw[←OX];exact bz hs);rw[g1] at hs;cases hs;obtain⟨k1,k2⟩:=g7 pc M_;exact g10 pc i k1 k2 hi ho
 refine⟨hR,by rw[OX],fun r hr=>?_⟩;obtain⟨s,e,g1,g2,g3,g4,g5,g6,g7,g8,g9,g10⟩:=A7 r hr
 have OK:oo (nN C B) (r:Nat)=oz 0 (cm C (s:Nat)):=by
  unfold oo;have hi:oN ((r:Nat):Int) (nN C B).az.length=true:=dC.2 ⟨by omega,by show((r:Nat):Int)<(B.length:Nat);omega⟩;rw[s9 hR,hi]
  have Gn:(nN C B).az.getD ((r:Nat):Int).toNat 0=(s:Int):=by
   rw[Int.toNat_natCast,List.getD_eq_getElem?_getD];show(B[r]?).getD 0=_;rw[g1];rfl
  rw[Gn];rfl
 have Hb:=yA (qw (cm C (s:Nat)) 0) (a:=(s:Int)) (b:=((e-1:Nat):Int)) (iD.2 ⟨s,g8,by rw[Nat.zero_add]⟩) (iD.2 ⟨e-1,g9,by rw[Nat.zero_add]⟩) (fun v hv=>by
  obtain⟨k,k1,k2⟩:=iD.1 hv;have:=g7 k k1
  omega)
 exact⟨s,e,g1,g2,g3,fun b' dD=>g4 b' dD,fun gk=>g5 (by rw[←OX];exact gk),g6,by rw[OK];exact Hb.1,by rw[OK];exact Hb.2⟩
def kM (fr:Go.V.Fr) (k:Nat):Go.V.D:=Go.V.nth .bu fr.loc k
theorem ry:∀(ls:List (List da)) (r:Nat) (c:List aL) (s:List Int),(ec ls r c s).e≠0→(ec ls r c s).code=[]∧(ec ls r c s).az=[]
 |[],r,c,s,h=>by rw[mG] at h;exact absurd rfl h
 |l::ls,r,c,s,h=>by
  rw[ec] at h⊢
  split
  ·exact⟨rfl,rfl⟩
  ·rename_i h1;rw[if_neg h1] at h
   split
   ·exact⟨rfl,rfl⟩
   ·rename_i h2;rw[if_neg h2] at h;exact ry ls _ _ _ h
theorem np {ls:List (List da)} (h:(br ls).e≠0):(br ls).code=[]∧(br ls).az=[]:=by
 unfold br at h⊢
 split
 ·exact⟨rfl,rfl⟩
 ·rename_i h1;rw[if_neg h1] at h;exact ry _ _ _ _ h
theorem vI:bU (nN [] []):=⟨by simp[nN],by simp[nN],fun pc i h=>by simp[nN] at h,fun v h=>by simp[nN] at h,fun r s h=>by simp[nN] at h⟩
theorem pO {ls:List (List da)} (hl:ls.length≤8) (hcl:(br ls).code.length≤400):bU (nN (br ls).code (br ls).az):=by
 by_cases he:(br ls).e=0
 ·exact(wb hl he hcl).1
 ·rw[(np he).1,(np he).2];exact vI
theorem yR {s0:St} {x:D} {ps:List (List UInt8)} (hx:V.Rows s0 1 x (ps.map yp)) (hl:ps.length≤1048576) (hb:∀b∈ps,b.length≤1048576):∃d,Ev pv 23 [x] s0 d s0∧∃(p:Pg) (ok:Bool),d=.tup [p.d,.bool ok]∧p.ok∧bU p:=by
 refine Ev.B_ rfl R2 rfl rfl rfl ?_;dsimp only[u3,u4,List.length,Nat.reduceSub,Nat.reduceAdd,w1,w2];obtain⟨bZ,hF,hH⟩:=ri s0;generalize ai .ro s0=S at*;have hx:=Arg.of hx bZ;refine qq<|qj fun K hK=>qa hH fun k2 st hk2 hH=>?_;refine qm ?_;refine qe hK<|qq<|qj fun K hK=>qm ?_;refine qe hK<|qq<|qq<|qj fun K hK=>qm ?_;refine qe hK ?_;have hH:Has s0.bs.length S st (.aM .nul 1 (([]:List (List da)).map dB)::.box k2 (.mem 0 false [.nul,.nul])::[]):=hH.dP 1;refine af.block<|af.loop (fun mm fr st=>∃(i:Nat) (ld:D) (parts:List (List da)),fr.clean=⟨11,[x,kM fr 1,.ptr k2 0 0,.bool false,ld,.int .i64 (i:Nat),kM fr 6,kM fr 7,kM fr 8,kM fr 9,kM fr 10],[]⟩∧Has s0.bs.length S st [.aM ld 1 (parts.map dB),.box k2 (.mem 0 false [.nul,.nul])]∧(i+mm=8)∧(∀l∈parts,(∀n∈l,tn n)∧l.length≤500)∧(parts.length≤i)) (8) ?_ ?_
 ·exact⟨0,.nul,[],rfl,hH,by omega,fun l hl=>(by cases hl),by simp⟩
 rintro mm fr st ⟨i,ld,parts,hfr,hH,hi,hp,ij⟩;rw[hfr];clear hfr;generalize kM fr=ee;clear fr;refine qq<|qq<|af.jV 19 (.bool (decide (((i:Nat):Int)<((ps.length:Nat):Int)) &&decide (((i:Nat):Int)<8))) [] ?_ (fun ff tmp gE=>?_)
 ·refine qm ?_;refine qm ?_;refine qn ?_;simp only[List.length_map];refine qg ?_;refine qm ?_;refine ab.two 16 rfl (fun fg=>?_) (fun fg=>?_)
  ·refine qm ?_ (hg:=wi fg);refine qg ?_ (hg:=wi fg);refine qt fg ?_;refine ab.nil (cS ?_ ?_)
   ·dsimp only[aO,List.foldl,nth,u2,u1]
    all_goals(first|rfl|simp)
   ·dsimp only[Fr.aE,Fr.put,Fr.clean,Fr.ev,Fr.get,nth,V.look,u1,u2,v1,v2,v3,v4,v5,v6,v7,List.length,u3,u4,Nat.reduceSub,Nat.reduceAdd,List.map]
    all_goals(simp_all;done)
  ·refine qs ?_ (hg:=wn fg);refine qs ?_ (hg:=wn fg);refine qu fg ?_;refine ab.nil (cS ?_ ?_)
   ·dsimp only[aO,List.foldl,nth,u2,u1]
    all_goals(first|rfl|simp)
   ·dsimp only[Fr.aE,Fr.put,Fr.clean,Fr.ev,Fr.get,nth,V.look,u1,u2,v1,v2,v3,v4,v5,v6,v7,List.length,u3,u4,Nat.reduceSub,Nat.reduceAdd,List.map]
    all_goals(simp_all;omega)
 dsimp only[aO,List.foldl,nth,u2,u1];dsimp only[Fr.aE,Fr.put,Fr.clean,Fr.ev,Fr.get,nth,V.look,u1,u2,v1,v2,v3,v4,v5,v6,v7,List.length,u3,u4,Nat.reduceSub,Nat.reduceAdd,List.map]
 by_cases hlt:i<ps.length∧i<8
 ·obtain⟨b,Ln⟩:∃b,ps[i]?=some b:=⟨ps[i]'hlt.1,List.getElem?_eq_getElem _⟩
  have gk:=Cn Ln;have hbl:=hb b (List.mem_of_getElem? Ln);have xP:(decide (((i:Nat):Int)<((ps.length:Nat):Int)) &&decide (((i:Nat):Int)<8))=true:=by rw[Bool.and_eq_true,decide_eq_true_eq,decide_eq_true_eq];omega
  rw[xP] at gE;refine qB ?_;refine af.skip<|qq<|af.block ?_;obtain⟨_,aI,l,e,w,rfl,hv,vt⟩:=Aq (s0:=st) hbl;refine qq<|qj fun K hK=>qm ?_;refine qm ?_;refine qr fun ML Bc=>?_;refine qR ?_;refine qv (aI) ?_;refine qm ?_;refine qg ?_;refine qg ?_;refine qg ?_;refine qm ?_;refine qm ?_;refine qm ?_;refine qe hK<|qq<|qj fun K hK=>qm ?_;refine qg ?_;refine qe hK ?_;refine af.cond (by rfl) (fun he=>?_) (fun he=>?_)<;>try simp only[beq_iff_eq,beq_eq_false_iff_ne,ne_eq] at he
  ·refine qj fun K hK=>qm ?_;refine qm ?_;refine qh (s:=1) (vs:=[_]) hH fun k35 st VU hH=>?_;refine ab.bQ (s:=1) hH rfl (ev rfl) (ev rfl) (by exact bC) (by exact hH.rows (by exact ax)) rfl rfl rfl rfl rfl rfl rfl ⟨(Nat.le_of_ble_eq_true rfl),(Nat.le_of_ble_eq_true rfl)⟩ (fun _=>(ag rfl _)) (by simp only[List.length_cons,List.length_nil,List.length_map]<;>omega) (by exact .inl hF) (fun T0 st hH=>?_);dsimp only[u2,u1,u3,u4,setMany,u5,u6,D.cells,Nat.reduceAdd,dB,nr,Pg.d,Pg.cs,nN] at hH;refine qm ?_;refine qe hK ?_;have hH:=hH.drop 1;refine qj fun K hK=>qm ?_;refine qA ?_;refine qm ?_;refine qe hK ?_;refine⟨mm-1,by omega,⟨i+1,T0,parts++[l],rfl,(by rw[List.map_append];exact hH),by omega,?_,by rw[List.length_append];simp only[List.length_cons,List.length_nil];omega⟩⟩;intro l' gu
   rcases List.mem_append.1 gu with gu|gu
   ·exact hp l' gu
   ·simp only[List.mem_cons,List.not_mem_nil,or_false] at gu;subst gu;exact⟨hv,vt⟩
  ·refine af.skip<|qj fun K hK=>qm ?_;refine qA ?_;refine qm ?_;refine qe hK ?_;exact⟨mm-1,by omega,⟨i+1,ld,parts,rfl,hH,by omega,hp,by omega⟩⟩
 ·have xP:(decide (((i:Nat):Int)<((ps.length:Nat):Int)) &&decide (((i:Nat):Int)<8))=false:=by
   rw[Bool.and_eq_false_iff,decide_eq_false_iff_not,decide_eq_false_iff_not];omega
  rw[xP] at gE;refine qC ?_;refine af.exit ?_;obtain⟨aI,ba,hlen⟩:=wP hp (by omega) (hH.rows ax);have hR:=pO (ls:=parts) (by omega) hlen;generalize br parts=R at*;refine qq<|qj fun K hK=>qm ?_;refine qv (aI) ?_;refine qm ?_;refine qg ?_;refine qg ?_;refine qg ?_;refine qa hH fun k9 st Qs hH=>?_;refine qS hH ax fun st hH=>?_;dsimp only[u2,u1,u3,u4,setMany,u5,u6,D.cells,Nat.reduceAdd,dB,nr,Pg.d,Pg.cs,nN] at hH;refine qm ?_;refine qm ?_;refine qe hK<|qq<|qj fun K hK=>?_;refine ab.aT (m:=2) hH rfl (ev rfl) (by exact ax) (by dsimp only[List.drop_succ_cons,List.drop_zero,List.take_succ_cons,List.take_zero,dB,nr,Pg.d,Pg.cs,nN]<;>rfl) rfl rfl (ag rfl _) ?_;refine qm ?_;refine qg ?_;refine qS hH dp fun st hH=>?_;dsimp only[u2,u1,u3,u4,setMany,u5,u6,D.cells,Nat.reduceAdd,dB,nr,Pg.d,Pg.cs,nN] at hH;refine qm ?_;refine qe hK<|af.ret ⟨rx,_,_,hH.jB rfl dp rfl rfl,rl bZ hH (show _=some (D.tup [(nN R.code R.az).d,.bool (R.e==0)]) from rfl),⟨_,_,rfl,ba,hR⟩⟩
end Go.Proofs.YtbdilgkfnacahaaGreat
namespace Go.V
open Go.RowKit
def mr {H:Type}:DataW H→Bool
 | .agg _=>true
 |_=>false
mutual
def tm {H:Type}:DataW H→List D
 | .lit (.bool b)=>[.bool b]
 | .lit (.int k n)=>[.int k n]
 | .lit (.string l)=>[.str l]
 | .lit _=>[.bu]
 | .nil=>[.nul]
 | .slice elems _=>[.sl (s8 elems)]
 | .agg parts=>jU parts
 | .ptr _=>[.bu]
 | .iface _ _=>[.bu]
 | .map _=>[.bu]
 | .held _=>[.bu]
def s8 {H:Type}:List (DataW H)→List D
 |[]=>[]
 |d::r=>(if mr d then .agg (tm d) else(tm d).headD .bu)::s8 r
def jU {H:Type}:List (DataW H)→List D
 |[]=>[]
 |d::r=>tm d++jU r
end
def gT {H:Type} (d:DataW H):D:=if mr d then .agg (tm d) else(tm d).headD .bu
theorem o8 {H:Type}:∀l:List (DataW H),s8 l=l.map gT
 |[]=>rfl
 |d::r=>by simp only[s8,List.map_cons,o8 r];rfl
def o_ (P:Program):Nat→List Field→Option Nat
 |o,[]=>some o
 |o,f::fs=>if f.offset=o then o_ P (o+P.cellsOf f.type) fs else none
def FH (P:Program):Nat→TypeId→Bool
 |0,_=>false
 |n+1,t=>match P.underlying t with
  |some .bool=>true
  |some (.int _)=>true
  |some .string=>true
  |some (.slice e)=>FH P n e &&decide (0<P.cellsOf e)
  |some (.struct fs)=>(o_ P 0 fs.toList==some (P.cellsOf t)) &&fs.toList.all fun f=>FH P n f.type
  |some (.array m e)=>FH P n e &&(P.cellsOf t==m*P.cellsOf e)
  |_=>false
structure CR (w:World) (Z:Nat→Prop) (cs:List D) (vs:List Value):Prop where
 len:cs.length=vs.length
 one:∀v∈vs,v.oneCell'=true
 onec:∀c∈cs,c.cells?=some [c]
 rel:∀(i:Nat) c v,cs[i]?=some c→vs[i]?=some v→IR w Z c v
theorem CR.nil {w:World} {Z:Nat→Prop}:CR w Z [] []:=⟨rfl,by simp,by simp,by simp⟩
theorem CR.single {w:World} {Z:Nat→Prop} {c:D} {v:Value} (h:IR w Z c v) (h1:v.oneCell'=true) (h2:c.cells?=some [c]):CR w Z [c] [v]:=
 ⟨rfl,by simpa using h1,by simpa using h2,fun i c' v' hc hv=>by
  cases i with
  |zero=>simp at hc hv;subst hc;subst hv;exact h
  |succ i=>simp at hc⟩
theorem CR.append {w:World} {Z:Nat→Prop} {cs cs':List D} {vs Md:List Value} (h:CR w Z cs vs) (g:CR w Z cs' Md):CR w Z (cs++cs') (vs++Md):=by
 refine⟨by simp[h.len,g.len],fun v hv=>?_,fun c hc=>?_,fun i c v hc hv=>?_⟩
 ·rcases List.mem_append.1 hv with hv|hv
  ·exact h.one v hv
  ·exact g.one v hv
 ·rcases List.mem_append.1 hc with hc|hc
  ·exact h.onec c hc
  ·exact g.onec c hc
 ·rw[List.getElem?_append] at hc hv;have:=h.len
  split at hc
  ·rw[if_pos (by omega)] at hv;exact h.rel i c v hc hv
  ·rw[if_neg (by omega)] at hv;rw[←this] at hv;exact g.rel _ c v hc hv
theorem tT {H:Type} {P:Program} {w:World} {Z:Nat→Prop} {f:Field→Option (DataW H×List MemPlace)} {cs:List Value}:∀{fs:List Field} {o e:Nat} {xs:List (DataW H×List MemPlace)},o_ P o fs=some e→e≤cs.length→fs.mapM f=some xs→
  (∀g∈fs,∀x,f g=some x→CR w Z (tm x.1) ((cs.drop g.offset).take (P.cellsOf g.type)))→CR w Z (jU (xs.map (·.1))) ((cs.drop o).take (e-o))∧o≤e
 |[],o,e,xs,hc,_,hm,_=>by
  simp[o_] at hc;subst hc;simp at hm;subst hm;simp[jU];exact CR.nil
 |g::fs,o,e,xs,hc,he,hm,hx=>by
  simp only[o_] at hc
  split at hc
  ·rename_i ho;rw[List.mapM_cons] at hm
   cases h1:f g with
   |none=>rw[h1] at hm;simp at hm
   |some x=>
    rw[h1] at hm
    cases h2:fs.mapM f with
    |none=>rw[h2] at hm;simp at hm
    |some ys=>
     rw[h2] at hm;simp at hm;subst hm;obtain⟨ih,hle⟩:=tT hc he h2 fun g' Wb=>hx g' (List.mem_cons_of_mem _ Wb);have hg:=hx g (List.mem_cons_self ..) x h1;rw[ho] at hg;refine⟨?_,by omega⟩;simp only[List.map_cons,jU]
     have:(cs.drop o).take (e-o)=(cs.drop o).take (P.cellsOf g.type)++(cs.drop (o+P.cellsOf g.type)).take (e-(o+P.cellsOf g.type)):=by
      rw[←List.drop_drop,show e-o=P.cellsOf g.type+(e-(o+P.cellsOf g.type)) by omega,List.take_add]
     rw[this];exact hg.append ih
  ·cases hc
theorem uW {H:Type} {w:World} {Z:Nat→Prop} {s:Nat} {f:Nat→Option (DataW H×List MemPlace)} {cs:List Value}:∀{m k:Nat} {xs:List (DataW H×List MemPlace)},(List.range' k m).mapM f=some xs→(k+m)*s≤cs.length→
  (∀i x,f i=some x→CR w Z (tm x.1) ((cs.drop (i*s)).take s))→CR w Z (jU (xs.map (·.1))) ((cs.drop (k*s)).take (m*s))
 |0,k,xs,hm,_,_=>by simp at hm;subst hm;simp[jU];exact CR.nil
 |m+1,k,xs,hm,hl,hx=>by
  rw[List.range'_succ,List.mapM_cons] at hm
  cases h1:f k with
  |none=>rw[h1] at hm;simp at hm
  |some x=>
   rw[h1] at hm
   cases h2:(List.range' (k+1) m).mapM f with
   |none=>rw[h2] at hm;simp at hm
   |some ys=>
    rw[h2] at hm;simp at hm;subst hm;have ih:=uW h2 (by rw[show k+1+m=k+(m+1) by omega];exact hl) hx;simp only[List.map_cons,jU];rw[show(m+1)*s=s+m*s by rw[Nat.add_mul];omega,List.take_add,List.drop_drop,show k*s+s=(k+1)*s by rw[Nat.add_mul];omega];exact(hx k x h1).append ih
theorem cells_one {c:D} (h:c.cells?=some [c]):c.cells=[c]:=by
 cases c<;>first|rfl|cases h|(simp only[D.cells?,Option.some.injEq] at h;simpa only[D.cells] using h)
theorem vl (b off n:Nat):(⟨b,off,none⟩:Addr).add n=⟨b,off+n,none⟩:=by
 cases n<;>simp[Addr.add]
theorem nG {H:Type} {enc:TypeId×Value→H} {P:Program} {w:World} {spare:Nat→Bool} {held:Bool}:∀(fuel:Nat) (t:TypeId) (cs:List Value) (d:DataW H) (ps:List MemPlace) (n:Nat),DataW.trod enc P w 0 spare held fuel t cs=some (d,ps)→FH P n t=true→
  CR w (fun b=>b<w.heap.size) (tm d) cs∧cs.length=(match P.underlying t with|some (.struct _)|some (.array _ _)=>P.cellsOf t|_=>1)∧(mr d=(match P.underlying t with|some (.struct _)|some (.array _ _)=>true|_=>false))
 |0,t,cs,d,ps,n,h,_=>by simp[DataW.trod] at h
 |fuel+1,t,cs,d,ps,0,h,ht=>by simp[FH] at ht
 |fuel+1,t,cs,d,ps,n+1,h,ht=>by
  simp only[FH] at ht;unfold DataW.trod at h
  cases hu:P.underlying t with
  |none=>rw[hu] at ht;simp at ht
  |some u=>
   rw[hu] at h ht
   cases u with
   |bool=>
    rcases cs with _|⟨v,_|⟨v2,cs⟩⟩<;>try(simp at h;done)
    cases v<;>simp at h
    obtain⟨rfl,rfl⟩:=h;exact⟨CR.single (.bool _) rfl rfl,rfl,rfl⟩
   |int k=>
    rcases cs with _|⟨v,_|⟨v2,cs⟩⟩<;>try(simp at h;done)
    cases v<;>simp at h
    obtain⟨⟨rfl,_⟩,rfl,rfl⟩:=h;exact⟨CR.single (.int _ _) rfl rfl,rfl,rfl⟩
   |string=>
    rcases cs with _|⟨v,_|⟨v2,cs⟩⟩<;>try(simp at h;done)
    cases v<;>simp at h
    rename_i b;obtain⟨_,rfl,rfl⟩:=h;refine⟨CR.single ?_ rfl rfl,rfl,rfl⟩;have:=IR.str (w:=w) (Z:=fun b=>b<w.heap.size) b.data.toList
    simpa using this
   |slice e=>
    simp only[Bool.and_eq_true,decide_eq_true_eq] at ht
    rcases cs with _|⟨v,_|⟨v2,cs⟩⟩<;>try(simp at h;done)
    cases v<;>try(simp at h;done)
    rename_i a len cap
    cases a with
    |none=>
     cases len<;>cases cap<;>simp at h
     obtain⟨rfl,rfl⟩:=h;exact⟨CR.single .nul rfl rfl,rfl,rfl⟩
    |some a=>
     simp only at h
     split at h
     ·rename_i hc;simp only[Option.bind_eq_some_iff,Option.map_eq_some_iff] at h;obtain⟨elems,he,rest,hr,hd⟩:=h;cases hd;refine⟨?_,rfl,rfl⟩;have hlen:elems.length=len:=by simpa using mapM_some_length he
      have hget:=mapM_some_get he
      have each:∀(i:Nat),i<len→∃x cs,elems[i]?=some x∧w.cells? 0 (a.add (i*P.cellsOf e)) (P.cellsOf e)=some cs∧CR w (fun b=>b<w.heap.size) (tm x.1) cs∧cs.length=P.cellsOf e∧(mr x.1=(match P.underlying e with|some (.struct _)|some (.array _ _)=>true|_=>false))∧cs.length=(match P.underlying e with|some (.struct _)|some (.array _ _)=>P.cellsOf e|_=>1):=by
       intro i hi;have h1:=hget i i (by simp[hi]);have h2:elems[i]?=some (elems[i]'(by omega)):=List.getElem?_eq_getElem _;rw[h2] at h1;obtain⟨cs,gR,hx⟩:=Option.bind_eq_some_iff.1 h1;obtain⟨q1,q2,q3⟩:=nG fuel e cs _ _ n hx ht.1;exact⟨_,cs,h2,gR,q1,(World.cells?_some gR).2.1,q3,q2⟩
      refine CR.single ?_ rfl rfl
      cases len with
      |zero=>
       have:elems=[]:=by cases elems with|nil=>rfl|cons _ _=>simp at hlen
       subst this;exact .emp _ _
      |succ m=>
       have Tc:a.spot=none∧a.block<w.heap.size:=by
        obtain⟨x,cs,_,h2,_,_⟩:=each 0 (by omega);refine⟨?_,?_⟩
        ·have:=(World.cells?_some h2).2.2 0 ht.2;have hl:=(World.cells?_some h2).2.1
         obtain⟨c0,QX⟩:∃c0,cs[0]?=some c0:=⟨cs[0]'(by omega),List.getElem?_eq_getElem _⟩
         rw[QX] at this
         simpa[Addr.add] using World.cell?_spot this
        ·simpa[Addr.add] using World.cells?_block h2 ht.2
       obtain⟨b,off,spot⟩:=a;simp only at Tc;obtain⟨rfl,hb⟩:=Tc
       have hcell:∀(i j:Nat),i<m+1→j<P.cellsOf e→∃x cs v,elems[i]?=some x∧cs[j]?=some v∧w.cell? ⟨b,off+(i*P.cellsOf e+j),none⟩=some v∧CR w (fun b=>b<w.heap.size) (tm x.1) cs:=by
        intro i j hi hj;obtain⟨x,cs,h1,h2,h3,h4,_⟩:=each i hi;have:=(World.cells?_some h2).2.2 j hj
        obtain⟨v,hv⟩:∃v,cs[j]?=some v:=⟨cs[j]'(by omega),List.getElem?_eq_getElem _⟩
        rw[hv] at this;refine⟨x,cs,v,h1,hv,?_,h3⟩;rw[←this,vl,vl,Nat.add_assoc]
       have uL:(s8 (elems.map (·.1)))=elems.map fun x=>gT x.1:=by rw[o8,List.map_map];rfl
       have hE:∀(i:Nat) q,(s8 (elems.map (·.1)))[i]?=some q→∃x cs,i<m+1∧elems[i]?=some x∧q.cells?=some q.cells∧q.cells=tm x.1∧CR w (fun b=>b<w.heap.size) (tm x.1) cs∧cs.length=P.cellsOf e:=by
        intro i q hq;rw[uL,List.getElem?_map] at hq;obtain⟨x,hx,rfl⟩:=Option.map_eq_some_iff.1 hq
        have hi:i<m+1:=by
         rcases Nat.lt_or_ge i (m+1) with h'|h'
         ·exact h'
         ·rw[List.getElem?_eq_none (by omega)] at hx;cases hx
        obtain⟨x',cs,h1,h2,h3,h4,h5,h6⟩:=each i hi;rw[hx] at h1;cases h1;refine⟨x,cs,hi,hx,?_,?_,h3,h4⟩
        ·unfold gT
         split
         ·rfl
         ·rename_i K4
          have sO:(tm x.1).length=1:=by
           rw[h3.len,h6];rw[h5] at K4
           revert K4
           split<;>simp
          match hd:tm x.1,sO with
          |[c],_=>have:=h3.onec c (by rw[hd];simp);simp only[List.headD_cons];rw[cells_one this];exact this
        ·unfold gT
         split
         ·rfl
         ·rename_i K4
          have sO:(tm x.1).length=1:=by
           rw[h3.len,h6];rw[h5] at K4
           revert K4
           split<;>simp
          match hd:tm x.1,sO with
          |[c],_=>have:=h3.onec c (by rw[hd];simp);simp only[List.headD_cons];exact cells_one this
       have hL:(s8 (elems.map (·.1))).length=m+1:=by rw[uL];simp[hlen]
       have hf:=fun(i j:Nat) (hi:i<m+1) (hj:j<P.cellsOf e)=>hcell i j hi hj;have:=IR.sl (w:=w) (Z:=fun b=>b<w.heap.size) (s8 (elems.map (·.1))) b off cap (P.cellsOf e) (fun i j=>(w.cell? ⟨b,off+(i*P.cellsOf e+j),none⟩).getD undef) hb (by rw[hL];exact hc.2.1)
        (fun i q hq=>by
         obtain⟨x,cs,h1,h2,h3,h4,h5,h6⟩:=hE i q hq
         exact⟨h3,by rw[h4,h5.len,h6]⟩)
        (fun i q j c hq hj=>by
         obtain⟨x,cs,h1,h2,h3,h4,h5,h6⟩:=hE i q hq
         have iR:j<P.cellsOf e:=by
          rcases Nat.lt_or_ge j (P.cellsOf e) with h'|h'
          ·exact h'
          ·rw[h4,List.getElem?_eq_none (by rw[h5.len,h6];exact h')] at hj;cases hj
         obtain⟨x',cs',v,g1,g2,g3,g4⟩:=hf i j h1 iR;rw[g3]
         exact⟨rfl,g4.one v (List.mem_of_getElem? g2)⟩)
        (fun i q j c hq hj=>by
         obtain⟨x,cs,h1,h2,h3,h4,h5,h6⟩:=hE i q hq
         have iR:j<P.cellsOf e:=by
          rcases Nat.lt_or_ge j (P.cellsOf e) with h'|h'
          ·exact h'
          ·rw[h4,List.getElem?_eq_none (by rw[h5.len,h6];exact h')] at hj;cases hj
         obtain⟨x',cs',v,g1,g2,g3,g4⟩:=hf i j h1 iR;rw[g3];rw[h2] at g1;cases g1
         exact g4.rel j c v (by rw[←h4];exact hj) g2)
       rw[hL] at this;exact this
     ·cases h
   |struct fs=>
    simp only[Bool.and_eq_true,beq_iff_eq,List.all_eq_true] at ht;simp only at h
    split at h
    ·rename_i hl;obtain⟨xs,hx,hd⟩:=Option.map_eq_some_iff.1 h;cases hd;refine⟨?_,hl,rfl⟩;obtain⟨h1,_⟩:=tT (w:=w) (Z:=fun b=>b<w.heap.size) (cs:=cs) ht.1 (by omega) hx fun g hg x V_=>(nG fuel g.type _ _ _ n V_ (ht.2 g hg)).1;rw[List.drop_zero,Nat.sub_zero,←hl,List.take_length] at h1;exact h1
    ·cases h
   |array m e=>
    simp only[Bool.and_eq_true,beq_iff_eq] at ht;simp only at h
    split at h
    ·rename_i hl;obtain⟨xs,hx,hd⟩:=Option.map_eq_some_iff.1 h;cases hd;refine⟨?_,hl,rfl⟩;rw[List.range_eq_range'] at hx;have h1:=uW (w:=w) (Z:=fun b=>b<w.heap.size) (s:=P.cellsOf e) (cs:=cs) hx (by rw[Nat.zero_add,←ht.2,hl];exact Nat.le_refl _) fun i x V6=>(nG fuel e _ _ _ n V6 ht.1).1;rw[Nat.zero_mul,List.drop_zero,←ht.2,←hl,List.take_length] at h1;exact h1
    ·cases h
   |_=>simp at ht
theorem xf {H:Type} {enc:TypeId×Value→H} {P:Program} {w:World} {spare:Nat→Bool} {held:Bool} {r:Reach} {base:Nat} {t:TypeId} {v:Value} {d:DataW H} {ps:List MemPlace} {n:Nat} (h:DataW.Trod enc P w 0 spare held t v d ps) (ht:FH P n t=true) (hv:Value.okWide P w r base t v):
  IR w (fun b=>b<w.heap.size) (gT d) v:=by
 obtain⟨fuel,hf⟩:=h;obtain⟨h1,h2,h3⟩:=nG fuel t _ d ps n hf ht
 have hu:∃u,P.underlying t=some u:=by
  cases n with
  |zero=>simp[FH] at ht
  |succ n=>
   simp only[FH] at ht
   cases hu:P.underlying t with
   |none=>rw[hu] at ht;simp at ht
   |some u=>exact⟨u,rfl⟩
 obtain⟨u,hu⟩:=hu;unfold Value.okWide at hv;rw[hu] at hv h2 h3
 have N4:(∃cs:Array Value,v=.agg cs)→mr d=true→IR w (fun b=>b<w.heap.size) (gT d) v:=by
  rintro⟨cs,rfl⟩ hd;unfold gT;rw[if_pos hd];have:=IR.agg (w:=w) (Z:=fun b=>b<w.heap.size) (tm d) cs.toList (by simpa[Value.cells] using h1.len) (by simpa[Value.cells] using h1.one) (by simpa[Value.cells] using h1.rel)
  simpa using this
 have je:mr d=false→v.cells.toList.length=1→(∀cs,v≠.agg cs)→IR w (fun b=>b<w.heap.size) (gT d) v:=by
  intro hd hl K4;unfold gT;rw[if_neg (by rw[hd];simp)]
  have hc:v.cells.toList=[v]:=by cases v<;>first|rfl|exact absurd rfl (K4 _)
  rw[hc] at h1
  match hq:tm d,h1.len with
  |[c],_=>exact h1.rel 0 c v (by rw[hq];rfl) rfl
 have hcell:Cell.okWide P w r base t v→∀cs,v≠.agg cs:=by
  rintro hc cs rfl;unfold Cell.okWide at hc;rw[hu] at hc;cases u<;>simp[Cell.ok,hu] at hc
 cases u with
 |struct fs=>obtain⟨cs,h,_⟩:=hv;exact N4 ⟨cs,h⟩ h3
 |array m e=>obtain⟨cs,h,_⟩:=hv;exact N4 ⟨cs,h⟩ h3
 |_=>exact je h3 h2 (hcell hv)
end Go.V
namespace Go.V
open Go.RowKit
theorem wY {H:Type} {enc:TypeId×Value→H} {P:Program} {w:World} {spare:Nat→Bool} {held:Bool} {t:TypeId} {v:Value} {d:DataW H} {ps:List MemPlace} (h:DataW.Trod enc P w 0 spare held t v d ps) (ht:P.underlying t=some .string):
  ∃l:List UInt8,gT d=.str l∧d=.lit (.string l):=by
 obtain⟨fuel,h⟩:=h
 cases fuel with
 |zero=>simp[DataW.trod] at h
 |succ fuel=>
  unfold DataW.trod at h;rw[ht] at h;generalize v.cells.toList=cs at h
  rcases cs with _|⟨v,_|⟨v2,cs⟩⟩<;>try(simp at h;done)
  cases v<;>simp at h
  obtain⟨_,rfl,_⟩:=h;exact⟨_,rfl,rfl⟩
theorem yU {pv:Pv} {P:Program} (h:pv.Ok P∧pv.gJ∧gb P pv (dA pv)) {f:Nat} {ds:List D} {ah:St} (hs:Ev pv f ds ⟨[],0,0⟩ (.bool true) ah) {w:World} {us:List Value} (hl:ds.length=us.length)
  (hr:∀(i:Nat) c v,ds[i]?=some c→us[i]?=some v→IR w (fun b=>b<w.heap.size) c v):Calls P f us.toArray w fun e w'=>e=.returned (.bool true)∧Below w.heap.size w w':=by
 obtain⟨N,hN⟩:=Ev.out hs;refine(sound h (hN N (Nat.le_refl _)) (w:=w) (Z:=fun b=>b<w.heap.size) (fun _ h=>h) hl hr).mono fun e w'=>?_;rintro⟨v,β',Z',rfl,he,hv⟩;rw[dx hv];exact⟨rfl,⟨he.os,he.tape,he.output,he.size,fun k hk=>he.block k hk fun f=>f⟩⟩
end Go.V
namespace Go.V
open Go.RowKit
def Rd {H:Type} (enc:TypeId×Value→H) (P:Program) (w:World) (spare:Nat→Bool) (held:Bool) (t:TypeId) (d:DataW H):Prop:=
 ∃fuel cs ps,DataW.trod enc P w 0 spare held fuel t cs=some (d,ps)
section
variable{H:Type} {enc:TypeId×Value→H} {P:Program} {w:World} {spare:Nat→Bool} {held:Bool} {t e:TypeId} {d:DataW H}
theorem Rd.of {v:Value} {ps:List MemPlace} (h:DataW.Trod enc P w 0 spare held t v d ps):Rd enc P w spare held t d:=by
 obtain⟨fuel,h⟩:=h;exact⟨fuel,_,_,h⟩
theorem Rd.int {k:IntKind} (h:Rd enc P w spare held t d) (ht:P.underlying t=some (.int k)):∃n:Int,d=.lit (.int k n)∧(Lit.int k n).wf=true:=by
 obtain⟨fuel,cs,ps,h⟩:=h
 cases fuel with
 |zero=>simp[DataW.trod] at h
 |succ fuel=>
  unfold DataW.trod at h;rw[ht] at h
  rcases cs with _|⟨v,_|⟨v2,cs⟩⟩<;>try(simp at h;done)
  cases v<;>simp at h
  obtain⟨⟨rfl,hw⟩,rfl,_⟩:=h;exact⟨_,rfl,hw⟩
theorem Rd.bool (h:Rd enc P w spare held t d) (ht:P.underlying t=some .bool):∃b:Bool,d=.lit (.bool b):=by
 obtain⟨fuel,cs,ps,h⟩:=h
 cases fuel with
 |zero=>simp[DataW.trod] at h
 |succ fuel=>
  unfold DataW.trod at h;rw[ht] at h
  rcases cs with _|⟨v,_|⟨v2,cs⟩⟩<;>try(simp at h;done)
  cases v<;>simp at h
  obtain⟨rfl,_⟩:=h;exact⟨_,rfl⟩
theorem Rd.string (h:Rd enc P w spare held t d) (ht:P.underlying t=some .string):∃l:List UInt8,d=.lit (.string l):=by
 obtain⟨fuel,cs,ps,h⟩:=h
 cases fuel with
 |zero=>simp[DataW.trod] at h
 |succ fuel=>
  unfold DataW.trod at h;rw[ht] at h
  rcases cs with _|⟨v,_|⟨v2,cs⟩⟩<;>try(simp at h;done)
  cases v<;>simp at h
  obtain⟨_,rfl,_⟩:=h;exact⟨_,rfl⟩
theorem Rd.slice (h:Rd enc P w spare held t d) (ht:P.underlying t=some (.slice e)):d=.nil∨∃elems rest,d=.slice elems rest∧∀x∈elems,Rd enc P w spare held e x:=by
 obtain⟨fuel,cs,ps,h⟩:=h
 cases fuel with
 |zero=>simp[DataW.trod] at h
 |succ fuel=>
  unfold DataW.trod at h;rw[ht] at h
  rcases cs with _|⟨v,_|⟨v2,cs⟩⟩<;>try(simp at h;done)
  cases v<;>try(simp at h;done)
  rename_i a len cap
  cases a with
  |none=>
   cases len<;>cases cap<;>simp at h
   obtain⟨rfl,rfl⟩:=h;exact .inl rfl
  |some a=>
   simp only at h
   split at h
   ·simp only[Option.bind_eq_some_iff,Option.map_eq_some_iff] at h;obtain⟨elems,hm,rest,hr,hd⟩:=h;cases hd;refine .inr ⟨_,_,rfl,fun x hx=>?_⟩;obtain⟨y,hy,rfl⟩:=List.mem_map.1 hx;have hlen:elems.length=len:=by simpa using mapM_some_length hm
    have hget:=mapM_some_get hm;obtain⟨i,hi⟩:=List.getElem?_of_mem hy;have hil:i<len:=by have:=bz hi;omega
    have h1:=hget i i (by simp[hil]);rw[hi] at h1;obtain⟨cs,_,hx⟩:=Option.bind_eq_some_iff.1 h1;exact⟨fuel,cs,y.2,hx⟩
   ·cases h
theorem mg {α β:Type} {f:α→Option β}:∀{l:List α} {m:List β},l.mapM f=some m→cq (fun a b=>f a=some b) l m
 |[],m,h=>by simp at h;subst h;exact .nil
 |a::l,m,h=>by
  rw[List.mapM_cons] at h
  cases h1:f a with
  |none=>rw[h1] at h;simp at h
  |some b=>
   rw[h1] at h
   cases h2:l.mapM f with
   |none=>rw[h2] at h;simp at h
   |some ys=>rw[h2] at h;simp at h;subst h;exact .cons h1 (mg h2)
theorem cq.MS {α β γ:Type} {R:α→γ→Prop} {f:β→γ}:∀{l:List α} {m:List β},cq (fun a b=>R a (f b)) l m→cq R l (m.map f)
 |_,_,.nil=>.nil
 |_,_,.cons a t=>.cons a t.MS
theorem Rd.struct {fs:Array Field} (h:Rd enc P w spare held t d) (ht:P.underlying t=some (.struct fs)):∃parts,d=.agg parts∧cq (fun(f:Field) x=>Rd enc P w spare held f.type x) fs.toList parts:=by
 obtain⟨fuel,cs,ps,h⟩:=h
 cases fuel with
 |zero=>simp[DataW.trod] at h
 |succ fuel=>
  unfold DataW.trod at h;rw[ht] at h;simp only at h
  split at h
  ·obtain⟨xs,hx,hd⟩:=Option.map_eq_some_iff.1 h;cases hd;refine⟨_,rfl,?_⟩;exact((mg hx).mono fun f x Wc=>(⟨fuel,_,_,Wc⟩:Rd enc P w spare held f.type x.1)).MS
  ·cases h
theorem Rd.array {n:Nat} (h:Rd enc P w spare held t d) (ht:P.underlying t=some (.array n e)):∃parts,d=.agg parts∧parts.length=n∧∀x∈parts,Rd enc P w spare held e x:=by
 obtain⟨fuel,cs,ps,h⟩:=h
 cases fuel with
 |zero=>simp[DataW.trod] at h
 |succ fuel=>
  unfold DataW.trod at h;rw[ht] at h;simp only at h
  split at h
  ·obtain⟨xs,hx,hd⟩:=Option.map_eq_some_iff.1 h;cases hd;have h1:=mg hx;refine⟨_,rfl,by have:=h1.len;simp at this;simp[←this],fun x PB=>?_⟩;obtain⟨y,hy,rfl⟩:=List.mem_map.1 PB
   have key:∀{l:List Nat} {m:List (DataW H×List MemPlace)},cq (fun i x=>DataW.trod enc P w 0 spare held fuel e ((cs.drop (i*P.cellsOf e)).take (P.cellsOf e))=some x) l m→∀y∈m,Rd enc P w spare held e y.1:=by
    intro l m h
    induction h with
    |nil=>intro y hy;cases hy
    |cons a t ih=>
     intro y hy
     rcases List.mem_cons.1 hy with rfl|hy
     ·exact⟨fuel,_,_,a⟩
     ·exact ih y hy
   exact key h1 y hy
  ·cases h
end
theorem Ml {H α:Type} {s:Nat} {f:α→List D} {Q:α→DataW H→Prop} {elems rest:List (DataW H)} (h:∀x∈elems,∃a,(gT x).cells?=some (gT x).cells∧(gT x).cells=f a∧(f a).length=s∧Q a x):
  ∃ws:List α,e_ (gT (.slice elems rest)) s (ws.map f)∧ws.length=elems.length∧∀a∈ws,∃x∈elems,Q a x:=by
 have key:∃ws:List α,(elems.map gT).map D.cells=ws.map f∧(∀d∈elems.map gT,d.cells?=some d.cells∧d.cells.length=s)∧ws.length=elems.length∧∀a∈ws,∃x∈elems,Q a x:=by
  induction elems with
  |nil=>exact⟨[],rfl,fun d hd=>(by cases hd),rfl,fun a ha=>by cases ha⟩
  |cons x l ih=>
   obtain⟨ws,h1,h2,h3,h4⟩:=ih fun y hy=>h y (List.mem_cons_of_mem _ hy);obtain⟨a,g1,g2,g3,g4⟩:=h x (List.mem_cons_self ..);refine⟨a::ws,by simp only[List.map_cons,h1,g2],fun d hd=>?_,by simp[h3],fun b hb=>?_⟩
   ·simp only[List.map_cons,List.mem_cons] at hd
    rcases hd with rfl|hd
    ·exact⟨g1,by rw[g2];exact g3⟩
    ·exact h2 d hd
   ·rcases List.mem_cons.1 hb with rfl|hb
    ·exact⟨x,List.mem_cons_self ..,g4⟩
    ·obtain⟨y,hy,hq⟩:=h4 b hb;exact⟨y,List.mem_cons_of_mem _ hy,hq⟩
 obtain⟨ws,h1,h2,h3,h4⟩:=key;refine⟨ws,.inr ⟨elems.map gT,?_,h1,h2⟩,h3,h4⟩;show D.sl (s8 elems)=_;rw[o8]
end Go.V
namespace Go.Proofs.YtbdilgkfnacahaaGreat
theorem BQ {H:Type} (d:DataW H):1≤Rows.uptoBulk d:=by
 cases d with
 |lit l=>cases l<;>simp[Rows.uptoBulk]
 |_=>simp[Rows.uptoBulk]
theorem BR {H:Type} (l:List (DataW H)):l.length≤Rows.uptoBulkAll l:=by
 induction l with
 |nil=>simp[Rows.uptoBulkAll]
 |cons x r ih=>have:=BQ x;simp only[Rows.uptoBulkAll,List.length_cons];omega
end Go.Proofs.YtbdilgkfnacahaaGreat
namespace Go.Proofs.YtbdilgkfnacahaaGreat
open Go.V Go Go.RowKit
variable{H:Type} {enc:TypeId×Value→H} {w:World} {spare:Nat→Bool} {held:Bool} {d:DataW H}
theorem BS {H:Type} {l:List (DataW H)} {x:DataW H} (h:x∈l):Rows.uptoBulk x≤Rows.uptoBulkAll l:=by
 induction l with
 |nil=>cases h
 |cons y l ih=>
  simp only[Rows.uptoBulkAll]
  rcases List.mem_cons.1 h with rfl|h
  ·omega
  ·have:=ih h;omega
end Go.Proofs.YtbdilgkfnacahaaGreat
namespace Go.Proofs.YtbdilgkfnacahaaGreat
open Go.V Go Go.RowKit
variable{H:Type} {enc:TypeId×Value→H} {w:World} {spare:Nat→Bool} {held:Bool} {d:DataW H}
theorem BW (h:Rd enc Tryz.prog w spare held 55 d):∃(y:D) (ps:List (List UInt8)),gT d=y∧e_ y 1 (ps.map yp)∧(Rows.uptoBulk d≤1048576→ps.length≤1048576∧∀b∈ps,b.length≤1048576):=by
 rcases h.slice Tryz.underlying55 with rfl|⟨elems,rest,rfl,he⟩
 ·exact⟨_,[],rfl,.inl ⟨rfl,rfl⟩,fun _=>⟨by simp,fun b hb=>(by cases hb)⟩⟩
 ·obtain⟨l,h1,h2,h3⟩:=Ml (s:=1) (f:=yp) (Q:=fun(b:List UInt8) x=>b.length≤Rows.uptoBulk x) (rest:=rest) fun x hx=>by
   obtain⟨b,rfl⟩:=(he x hx).string Tryz.underlying9;refine⟨b,rfl,rfl,rfl,?_⟩;simp only[Rows.uptoBulk];omega
  refine⟨_,l,rfl,h1,fun hb=>⟨?_,fun b dD=>?_⟩⟩
  ·have:=BR elems;simp only[Rows.uptoBulk] at hb;omega
  ·obtain⟨x,hx,h4⟩:=h3 b dD;have:=BS hx;simp only[Rows.uptoBulk] at hb;omega
end Go.Proofs.YtbdilgkfnacahaaGreat
namespace Go.V
variable{N:Nat} {S st:St} {H:List bF}
theorem Has.mX (A B:List bF) (h:Has N S st (A++(B++H))):Has N S st (B++(A++H)):=by
 refine h.sub (fun i=>if i<B.length then i+A.length else if i<B.length+A.length then i-B.length else i) (fun a b e=>?_) fun i e hi=>?_
 ·have e':(if a<B.length then a+A.length else if a<B.length+A.length then a-B.length else a)=(if b<B.length then b+A.length else if b<B.length+A.length then b-B.length else b):=e
  repeat' split at e'
  all_goals omega
 ·show(A++(B++H))[if i<B.length then i+A.length else if i<B.length+A.length then i-B.length else i]?=some e
  by_cases h1:i<B.length
  ·rw[if_pos h1,List.getElem?_append_right (by omega),Nat.add_sub_cancel,List.getElem?_append_left h1]
   rwa [List.getElem?_append_left h1] at hi
  ·rw[List.getElem?_append_right (by omega)] at hi
   by_cases h2:i<B.length+A.length
   ·rw[if_neg h1,if_pos h2,List.getElem?_append_left (by omega)]
    rwa [List.getElem?_append_left (by omega)] at hi
   ·rw[if_neg h1,if_neg h2,List.getElem?_append_right (by omega),List.getElem?_append_right (by omega)];rw[List.getElem?_append_right (by omega)] at hi;rw[←hi];congr 1;omega
theorem Has.dU {j:Nat} {e:bF} (h:Has N S st (e::H)) (hj:j<H.length):Has N S st (H.set j e):=
 Has.back (h.erase (j+1)) hj
theorem Has.oI {j k:Nat} {e:bF} (h:Has N S st H) (hj:H[j]?=some e) (hk:e.K k):k+1≤st.bs.length:=((h.ok j e hj).2 k hk).2
theorem gv {x y:Oper} {fi fj:Fr} {si nJ sj B7:St} {a:Operand} {k ay off v:Nat} {ar:Bool} {c:List D} (hy:fO y.op=none) (hx:fO x.op=some a) (ha:fi.ev a=.ptr k ay off) (h1:sj.bs[k]?=some (.mem v ar c)) (h2:B7.bs[k]?=some (.mem v ar c)) (h3:si.bs[k]?=some (.mem v ar c)) (hr:refs c≤si.bs.length):gz x fi si nJ y fj sj B7=true:=by
 unfold gz;simp only[hy,hx,ha,D.kU,Bool.and_eq_true];refine⟨lZ h1 h2,?_⟩;unfold kG;simp only[h3]
 split
 ·rfl
 ·simpa using hr
theorem Has.clear {P:Pv} {j:Nat} {x:D} {s:Nat} {es:List (List D)} {t e:TypeId} {z:List D} (h:Has N S st H) (hj:H[j]?=some (.aM x s es)) (ht:P.cv t=some (.slice e)) (hz:cQ P e=some z) (ki:z.length=s) (hr:refs z=0):
  ∃ah,jW P [t] x st=some (.tup [],ah)∧Has N S ah (H.set j (.aM x s (List.replicate es.length z))):=by
 have wy:=(h.ok j _ hj).2;have hown:=h.own hj
 have iR:j<H.length:=by
  rcases Nat.lt_or_ge j H.length with h'|h'
  ·exact h'
  ·rw[List.getElem?_eq_none h'] at hj;cases hj
 cases hown with
 |nul=>
  refine⟨st,by simp only[jW,ht],?_⟩
  have:H.set j (.aM .nul s (List.replicate ([]:List (List D)).length z))=H:=by
   refine List.ext_getElem? fun i=>?_
   by_cases hi:i=j
   ·subst hi;rw[List.getElem?_set_self iR,hj];rfl
   ·rw[List.getElem?_set_ne (fun e=>hi e.symm)]
  rw[this];exact h
 |win k ay off es c hm hle hc he=>
  have hk:=wy k (by simp only[bF.aM,D.ref])
  have KS:∀n,refs (Go.V.dU n z)=0:=by
   intro n;unfold Go.V.dU
   induction n with
   |zero=>rfl
   |succ n ih=>
    rw[List.replicate_succ,List.flatten_cons]
    have Gt:∀(a b:List D),refs a=0→refs b=0→refs (a++b)=0:=by
     intro a
     induction a with
     |nil=>intro b _ hb;exact hb
     |cons d a B'=>
      intro b ha hb;simp only[refs,List.cons_append] at ha⊢;have:=B' b (by omega) hb;omega
    exact Gt _ _ hr ih
  have vq:(Go.V.dU es.length z).length=es.length*s:=by
   unfold Go.V.dU;rw[cA (s:=s) (fun e he=>by rw[(List.mem_replicate.1 he).2];exact ki),List.length_replicate]
  have hw:st.wr k ay off (Go.V.dU es.length z)=some ⟨st.bs.set k (.mem ay true (c.take off++Go.V.dU es.length z++c.drop (off+(Go.V.dU es.length z).length))),st.flr,st.ro⟩:=kE hm (by omega) (iL h hk.1 (.inr (KS _)));refine⟨_,by simp only[jW,ht,hz,Option.bind_some];rw[if_pos ki,hw];rfl,?_⟩;refine h.zN hj (fun n hn hne=>?_) (by simp) rfl rfl ?_ (fun n hn=>.inl hn) fun n hn=>?_
  ·simp only;rw[List.getElem?_set_ne (fun e=>hne (by simp only[bF.aM,D.ref];omega))]
  ·have Be:∀e'∈List.replicate es.length z,e'.length=s:=fun e' nR=>by rw[(List.mem_replicate.1 nR).2];exact ki
   have:=ga.win (st:=⟨st.bs.set k (.mem ay true (c.take off++Go.V.dU es.length z++c.drop (off+(Go.V.dU es.length z).length))),st.flr,st.ro⟩) (s:=s) k ay off (List.replicate es.length z) (c.take off++Go.V.dU es.length z++c.drop (off+(Go.V.dU es.length z).length))
    (by simp only;rw[List.getElem?_set_self hk.2]) (by rw[List.length_replicate];simp;omega) ?_ Be
   ·rw[List.length_replicate] at this;exact this
   ·rw[List.length_replicate,List.append_assoc,List.drop_append_of_le_length (by simp;omega),List.drop_take,Nat.sub_self,List.take_zero,List.nil_append,←vq,List.take_left']
    ·rfl
    ·rfl
  ·simp only[bF.aM,D.ref] at hn;have:n=k:=by omega
   subst this
   simpa using hk.2
variable{P:Pv} {ops:Array Oper} {rest:List Oper} {fr aG:Fr} {Q:Fr→St→Prop} {ty:TypeId} {pp:String} {a:Array Edge} {g:Option (Nat×Bool)} {dst:Nat}
theorem ab.Ku {j:Nat} {x:D} {s:Nat} {es:List (List D)} {t e:TypeId} {z:List D} {xo:Operand} (hH:Has N S st H) (hg:aD ops fr ⟨none,.call ⟨.builtin .clear,#[xo],#[t]⟩,ty,pp,a,g⟩=some true) (hx:fr.ev xo=x) (hj:H[j]?=some (.aM x s es)) (ht:P.cv t=some (.slice e)) (hz:cQ P e=some z) (ki:z.length=s) (hr:refs z=0)
  (h:∀ah,Has N S ah (H.set j (.aM x s (List.replicate es.length z)))→ab P ops rest fr ah Q):ab P ops (⟨none,.call ⟨.builtin .clear,#[xo],#[t]⟩,ty,pp,a,g⟩::rest) fr st Q:=by
 obtain⟨ah,h1,h2⟩:=hH.clear hj ht hz ki hr;refine ab.N hg rfl (d:=.tup []) (st1:=ah) ?_ (h _ h2);simp only[dq,List.map_cons,List.map_nil,hx,bt,List.toList_toArray];exact h1
end Go.V
namespace Go.Proofs.YtbdilgkfnacahaaGreat
open Go.V Go
def fc (n:Nat):List D:=[.int .i64 (n:Nat)]
def lU (n:Nat):List D:=[.int .i64 (n:Nat),.bool true]
theorem ub {l:List Nat} {i q:Nat} (h:l[i]?=some q):(l.map fc)[i]?=some (fc q):=by rw[List.getElem?_map,h];rfl
theorem F1 {l:List Nat} {i q:Nat} (h:l[i]?=some q):(l.map lU)[i]?=some (lU q):=by rw[List.getElem?_map,h];rfl
structure dF (P Q:List Nat) (seen:List Bool):Prop where
 len:P.length=seen.length
 mem:∀(i p:Nat),P[i]?=some p→seen[i]?=some (decide (Q[p]?=some i))
 cnt:Q.length=seen.count true
 small:seen.length≤4096
def B1 (N:Nat) (S st:St) (ks:Nat) (seen:List Bool) (H:List bF):Prop:=
 ∃pd qd P Q,Has N S st (.box ks (.mem 0 false [pd,qd])::.aM pd 1 (P.map fc)::.aM qd 2 (Q.map lU)::H)∧dF P Q seen
theorem dF.get {P Q:List Nat} {seen:List Bool} (h:dF P Q seen) {i:Nat} {b:Bool} (hi:seen[i]?=some b):∃p,P[i]?=some p∧b=decide (Q[p]?=some i):=by
 have hl:=bz hi;have pz:=h.len;refine⟨P[i]'(by omega),List.getElem?_eq_getElem _,?_⟩;have:=h.mem i _ (List.getElem?_eq_getElem (by omega));rw[hi] at this;exact Option.some.inj this
theorem dF.add {P Q:List Nat} {seen:List Bool} (h:dF P Q seen) {i:Nat} (hi:seen[i]?=some false):dF (P.set i Q.length) (Q++[i]) (seen.set i true):=by
 have hl:=bz hi;have pz:=h.len;refine⟨by simp[pz],fun j p hj=>?_,?_,by rw[List.length_set];exact h.small⟩
 ·by_cases hij:j=i
  ·subst hij;rw[List.getElem?_set_self (by omega)] at hj⊢;cases hj;simp
  ·rw[List.getElem?_set_ne (fun e=>hij e.symm)] at hj⊢;rw[h.mem j p hj]
   congr 2
   rcases Nat.lt_trichotomy p Q.length with hp|hp|hp
   ·rw[List.getElem?_append_left hp]
   ·subst hp;have hne:¬i=j:=fun e=>hij e.symm;simp[hne]
   ·rw[List.getElem?_eq_none (by omega),List.getElem?_eq_none (by simp;omega)]
 ·have h1:=List.length_eq_countP_add_countP (fun b=>b==true) (l:=seen);have h2:=List.length_eq_countP_add_countP (fun b=>b==true) (l:=seen.set i true);have h3:=count_set hi
  have e1:∀l:List Bool,l.countP (fun a=>decide (¬(a==true)=true))=l.count false:=by
   intro l;unfold List.count;congr 1;funext b;cases b<;>rfl
  have e2:∀l:List Bool,l.countP (fun a=>a==true)=l.count true:=fun l=>rfl;rw[e1,e2] at h1 h2;rw[List.length_append,h.cnt];simp only[List.length_set,List.length_cons,List.length_nil] at h2⊢;omega
theorem dF.clear {P Q:List Nat} {seen:List Bool} (h:dF P Q seen):dF P [] (List.replicate seen.length false):=by
 refine⟨by rw[List.length_replicate];exact h.len,fun i p hi=>?_,?_,by rw[List.length_replicate];exact h.small⟩
 ·have:=bz hi;have:=h.len;rw[List.getElem?_replicate,if_pos (by omega)];simp
 ·rw[List.count_replicate];simp
theorem dF.jM {P Q:List Nat} {seen:List Bool} (h:dF P Q seen):Q.length≤4096:=by
 have:=h.cnt;have:=h.small;have:=List.count_le_length (a:=true) (l:=seen);omega
theorem yw {N ks:Nat} {S s0:St} {H:List bF} {seen:List Bool} {i:Nat} {b:Bool} (hi:seen[i]?=some b) {pd qd:D} {P Q:List Nat} (ba:dF P Q seen) (hH:Has N S s0 (.box ks (.mem 0 false [pd,qd])::.aM pd 1 (P.map fc)::.aM qd 2 (Q.map lU)::H)):
  ∃r ah,Ev pv 76 [.ptr ks 0 0,.int .i64 (i:Nat)] s0 r ah∧r=.bool b∧ah=s0:=by
 obtain⟨p,hp,rfl⟩:=ba.get hi;have hl:=bz hp;have pz:=ba.len;have UQ:=ba.small;have gk:=ub hp
 have fG:(⟨(ai .rw s0).bs.take s0.bs.length,s0.flr,s0.ro⟩:St)=s0:=by
  show(⟨s0.bs.take s0.bs.length,s0.flr,s0.ro⟩:St)=s0;rw[List.take_length]
 refine Ev.i7 rfl Rt rfl rfl rfl ?_;dsimp only[u3,u4,List.length,Nat.reduceSub,Nat.reduceAdd,w1,w2];have cp:=hH;have hH:=hH.ct;have cn:(ai .rw s0).bs=s0.bs:=rfl;generalize ai .rw s0=S2 at*;refine qq<|qj fun K hK=>qm ?_;refine qe hK ?_;have bk:decide (((i:Nat):Int)<0)=false:=by rw[decide_eq_false];omega
 refine qq<|qq<|af.jV 16 (.bool false) [] ?_ (fun ff tmp gE=>?_)
 ·refine qm ?_;refine qg ?_;refine qm ?_;refine qm ?_ (hg:=wi bk);refine qm ?_ (hg:=wi bk);refine qg ?_ (hg:=wi bk);refine qp (o:=0) ?_ (hg:=wi bk);refine ql hH ax ?_ (hg:=wi bk);refine qn ?_ (hR:=hH.rows bC) (hg:=wi bk);simp only[List.length_map];refine qg ?_ (hg:=wi bk);refine qu bk ?_;refine ab.nil (cS ?_ ?_)
  ·dsimp only[aO,List.foldl,nth,u2,u1]
   all_goals(first|rfl|simp)
  ·dsimp only[Fr.aE,Fr.put,Fr.clean,Fr.ev,Fr.get,nth,V.look,u1,u2,v1,v2,v3,v4,v5,v6,v7,List.length,u3,u4,Nat.reduceSub,Nat.reduceAdd,List.map]
   all_goals(simp_all;done)
 dsimp only[aO,List.foldl,nth,u2,u1];refine qC ?_;refine af.skip<|qq<|qj fun K hK=>qm ?_;refine qg ?_;refine qp (o:=0) ?_;refine ql hH ax ?_;refine qm ?_;refine qi hH bC fun Ph KY=>?_;refine qo hH bC ?_;refine qm ?_;refine qe hK ?_
 by_cases hq:p<Q.length
 ·obtain⟨q,Nd⟩:∃q,Q[p]?=some q:=⟨Q[p]'hq,List.getElem?_eq_getElem _⟩
  have oQ:=F1 Nd;have eX:decide (((p:Nat):Int)<((Q.length:Nat):Int))=true:=by rw[decide_eq_true_eq];omega
  refine qq<|qj fun K hK=>qm ?_;refine qm ?_;refine qg ?_;refine qp (o:=1) ?_;refine ql hH ax ?_;refine qn ?_ (hR:=hH.rows dp);simp only[List.length_map];refine qg ?_;refine qm ?_;refine qm ?_ (hg:=wi eX);refine qg ?_ (hg:=wi eX);refine qp (o:=1) ?_ (hg:=wi eX);refine ql hH ax ?_ (hg:=wi eX);refine qm ?_ (hg:=wi eX);refine qi hH dp (fun SX Np=>?_) (hg:=wi eX);refine ab.fL (fo:=0) (m:=0) (o2:=0) (aC rfl rfl rfl eX) (ev rfl) (by assumption) rfl rfl rfl (fun _=>(ag rfl _)) (fun SV Nn=>?_);refine qo hH dp ?_ (hg:=wi eX);refine qm ?_ (hg:=wi eX);refine qg ?_ (hg:=wi eX);refine qt eX ?_;refine qm ?_;refine qe hK<|af.ret ⟨rx,_,_,_,rfl,aj (rfl),?_⟩;refine⟨?_,fG⟩
  have hd:(((q:Nat):Int)==((i:Nat):Int))=decide (Q[p]?=some i):=by
   rw[Nd]
   by_cases h:q=i
   ·simp[h]
   ·simp[h];omega
  exact congrArg D.bool hd
 ·have eX:decide (((p:Nat):Int)<((Q.length:Nat):Int))=false:=by rw[decide_eq_false];omega
  refine qq<|qj fun K hK=>qm ?_;refine qm ?_;refine qg ?_;refine qp (o:=1) ?_;refine ql hH ax ?_;refine qn ?_ (hR:=hH.rows dp);simp only[List.length_map];refine qg ?_;refine qm ?_;refine qs ?_ (hg:=wn eX);refine qs ?_ (hg:=wn eX);refine qs ?_ (hg:=wn eX);refine qs ?_ (hg:=wn eX);refine qs ?_ (hg:=wn eX);refine qs ?_ (hg:=wn eX);refine qs ?_ (hg:=wn eX);refine qs ?_ (hg:=wn eX);refine qs ?_ (hg:=wn eX);refine qs ?_ (hg:=wn eX);refine qu eX ?_;refine qm ?_;refine qe hK<|af.ret ⟨rx,_,_,_,rfl,aj (rfl),?_⟩;refine⟨?_,fG⟩;rw[List.getElem?_eq_none (by omega)];rfl
theorem yx {N ks:Nat} {S s0:St} {H:List bF} {seen:List Bool} {i:Nat} {b:Bool} (hF:S.flr≤N) (hi:seen[i]?=some b) (hH:B1 N S s0 ks seen H):
  ∃r ah,Ev pv 64 [.ptr ks 0 0,.int .i64 (i:Nat),.bool true] s0 r ah∧r=.bool (!b)∧B1 N S ah ks (seen.set i true) H:=by
 obtain⟨pd,qd,P,Q,hH,ba⟩:=hH;have hl:=bz hi;have pz:=ba.len;have UQ:=ba.small;have G2:=ba.jM;obtain⟨p0,Vn,_⟩:=ba.get hi;have gk:=ub Vn;refine Ev.i7 rfl RD rfl rfl rfl ?_;dsimp only[u3,u4,List.length,Nat.reduceSub,Nat.reduceAdd,w1,w2];change af _ _ _ _ s0 _;refine qq<|qj fun K hK=>qm ?_;refine qe hK ?_;have bk:decide (((i:Nat):Int)<0)=false:=by rw[decide_eq_false];omega
 have bj:decide (((i:Nat):Int)≥((P.length:Nat):Int))=false:=by rw[decide_eq_false];omega
 obtain⟨_,st,aI,rfl,rfl⟩:=yw hi ba hH;refine qq<|qq<|af.jV 22 (.bool b) [] ?_ (fun ff tmp gE=>?_)
 ·refine qm ?_;refine qg ?_;refine qm ?_;refine qm ?_ (hg:=wi bk);refine qm ?_ (hg:=wi bk);refine qg ?_ (hg:=wi bk);refine qp (o:=0) ?_ (hg:=wi bk);refine ql hH ax ?_ (hg:=wi bk);refine qn ?_ (hR:=hH.rows bC) (hg:=wi bk);simp only[List.length_map];refine qg ?_ (hg:=wi bk);refine qu bk ?_;refine qm ?_;refine qm ?_ (hg:=wi bj);refine qm ?_ (hg:=wi bj);refine qv aI ?_ (hg:=wi bj);refine qu bj ?_;refine ab.nil (cS ?_ ?_)
  ·dsimp only[aO,List.foldl,nth,u2,u1]
   all_goals(first|rfl|simp)
  ·dsimp only[Fr.aE,Fr.put,Fr.clean,Fr.ev,Fr.get,nth,look,u1,u2,v1,v2,v4]
   all_goals(first|rfl|(simp[bk,bj];done)|(simp_all;done)|(simp[bk,bj];omega)|(simp_all;omega))
 dsimp only[aO,List.foldl,nth,u2,u1]
 cases b with
 |true=>
  refine qB ?_;refine qq<|qj fun K hK=>qm ?_;refine qe hK<|af.ret ⟨rx,_,_,_,rfl,rfl,?_⟩;refine⟨rfl,pd,qd,P,Q,hH,?_⟩
  have:seen.set i true=seen:=by
   refine List.ext_getElem? fun j=>?_
   by_cases hj:j=i
   ·subst hj;rw[List.getElem?_set_self hl,hi]
   ·rw[List.getElem?_set_ne (fun e=>hj e.symm)]
  rw[this];exact ba
 |false=>
  refine qC ?_;refine af.skip<|qq<|qj fun K hK=>qm ?_;refine qg ?_;refine qp (o:=0) ?_;refine ql hH ax ?_;refine qm ?_;refine qm ?_;refine qg ?_;refine qp (o:=1) ?_;refine ql hH ax ?_;refine qn ?_ (hR:=hH.rows dp);simp only[List.length_map];refine qi hH bC fun Xj Vi=>?_;refine ab.kI hH rfl (ev rfl) (ev rfl) (by assumption) rfl rfl (by exact bC) (by assumption) (Nat.le_of_ble_eq_true rfl) (by exact .inl hF) (fun st hH=>?_);dsimp only[u2,u1,u3,u4,setMany,u5,u6,D.cells,Nat.reduceAdd,fc,lU] at hH;refine qe hK<|qq<|qj fun K hK=>qm ?_;refine qm ?_;refine qg ?_;refine qp (o:=1) ?_;refine ql hH ax ?_;refine qm ?_;refine qm ?_;refine qg ?_;refine qh (s:=2) (vs:=[_]) hH fun k42 st VS hH=>?_;dsimp only[u2,u1,u3,u4,setMany,u5,u6,D.cells,Nat.reduceAdd,fc,lU] at hH;refine ab.bQ (s:=2) hH rfl (ev rfl) (ev rfl) (by exact ef) (by exact hH.rows (by exact ax)) rfl rfl rfl rfl rfl rfl rfl ⟨(Nat.le_of_ble_eq_true rfl),(Nat.le_of_ble_eq_true rfl)⟩ (fun _=>(ag rfl _)) (by simp only[List.length_cons,List.length_nil,List.length_map]<;>omega) (by exact .inl hF) (fun TZ st hH=>?_);dsimp only[u2,u1,u3,u4,setMany,u5,u6,D.cells,Nat.reduceAdd,fc,lU] at hH;refine qg ?_;refine qp (o:=1) ?_;refine qT hH bC (fun st hH=>?_) (gR:=hH.eI ef);dsimp only[u2,u1,u3,u4,setMany,u5,u6,D.cells,Nat.reduceAdd,fc,lU] at hH;refine qe hK<|qq<|qj fun K hK=>qm ?_;refine qe hK<|af.ret ⟨rx,_,_,_,rfl,rfl,?_⟩;refine⟨rfl,pd,TZ,P.set i Q.length,Q++[i],?_,ba.add hi⟩;rw[List.map_set,List.map_append];exact hH.drop 1
theorem tC {N ks:Nat} {S s0:St} {H:List bF} {seen:List Bool} (hF:S.flr≤N) (hH:B1 N S s0 ks seen H):
  ∃r ah,Ev pv 60 [.ptr ks 0 0] s0 r ah∧r=.tup []∧B1 N S ah ks (List.replicate seen.length false) H:=by
 obtain⟨pd,qd,P,Q,hH,ba⟩:=hH;have G2:=ba.jM;refine Ev.i7 rfl RH rfl rfl rfl ?_;dsimp only[u3,u4,List.length,Nat.reduceSub,Nat.reduceAdd,w1,w2];change af _ _ _ _ s0 _;refine qq<|qj fun K hK=>qm ?_;refine qg ?_;refine qp (o:=1) ?_;refine ql hH ax ?_;refine ab.Ku hH rfl (ev rfl) dp rfl rfl rfl rfl (fun st hH=>?_);dsimp only[u1,u2] at hH;refine qe hK<|qj fun K hK=>qm ?_;refine qm ?_;refine qg ?_;refine qp (o:=1) ?_;refine ql hH ax ?_;refine ab.Au hH rfl (ev rfl) (by exact dp) rfl rfl (mL (by simp only[List.length_map,List.length_reverse,List.length_cons,List.length_append,List.length_nil,List.length_take,List.length_drop,List.length_set,List.length_replicate];omega)) ⟨(by omega),(by simp only[List.length_map,List.length_reverse,List.length_cons,List.length_append,List.length_nil,List.length_take,List.length_drop,List.length_set,List.length_replicate];omega)⟩ (fun _=>(ag rfl _)) (fun WQ hH=>?_);refine qg ?_;refine qp (o:=1) ?_;refine qT hH ax (fun st hH=>?_) (gR:=hH.eI dp);dsimp only[u2,u1,u3,u4,setMany,u5,u6,D.cells,Nat.reduceAdd,fc,lU] at hH;refine qe hK ?_;refine⟨fun i h=>(by cases h),_,_,_,rfl,rfl,?_⟩;exact⟨rfl,pd,_,P,[],hH,ba.clear⟩
theorem yv {N n:Nat} {S s0:St} {H:List bF} (hF:S.flr≤N) (hn:n≤4096) (hH:Has N S s0 H):
  ∃r ah,Ev pv 55 [.int .i64 (n:Nat)] s0 r ah∧∃ks,r=.tup [.ptr ks 0 0,.int .i64 0]∧B1 N S ah ks (List.replicate n false) H:=by
 refine Ev.i7 rfl RJ rfl rfl rfl ?_;dsimp only[u3,u4,List.length,Nat.reduceSub,Nat.reduceAdd,w1,w2];change af _ _ _ _ s0 _;refine qq<|qj fun K hK=>qm ?_;refine qm ?_;refine qe hK ?_;have bk:decide (((n:Nat):Int)<0)=false:=by rw[decide_eq_false];omega
 refine qq<|qq<|af.jV 9 (.bool false) [] ?_ (fun ff tmp gE=>?_)
 ·refine qm ?_;refine qg ?_;refine qm ?_;refine qm ?_ (hg:=wi bk);refine qg ?_ (hg:=wi bk);refine qu bk ?_;refine ab.nil (cS ?_ ?_)
  ·dsimp only[aO,List.foldl,nth,u2,u1]
   all_goals(first|rfl|simp)
  ·dsimp only[Fr.aE,Fr.put,Fr.clean,Fr.ev,Fr.get,nth,V.look,u1,u2,v1,v2,v3,v4,v5,v6,v7,List.length,u3,u4,Nat.reduceSub,Nat.reduceAdd,List.map]
   all_goals(simp[bk];omega)
 dsimp only[aO,List.foldl,nth,u2,u1];refine qC ?_;refine af.skip<|qq<|qj fun K hK=>qm ?_;refine ab.uH (s:=1) hH rfl rfl rfl rfl rfl rfl rfl rfl (Nat.le_of_ble_eq_true rfl) (by omega) (fun _=>(ag rfl _)) (fun k11 st Ld hH=>?_);refine ab.fu (qs:=[(0,_)]) rfl rfl rfl rfl ⟨rfl,(ev rfl),(by rfl),trivial⟩ (by intro q hq;simp only[List.mem_cons,List.not_mem_nil,or_false] at hq;rcases hq with rfl<;>exact⟨rfl,by exact Nat.le_of_ble_eq_true rfl⟩) (by show List.foldl _ [_,_] _=_;dsimp only[List.foldl_cons,List.foldl_nil,u2,u1]<;>rfl) (ag rfl _) ?_;refine qb hH fun k13 st NP hH=>?_;refine qm ?_;refine qm ?_;refine qe hK<|af.ret ⟨rx,_,_,_,rfl,rfl,?_⟩;refine⟨k13,rfl,.win k11 0 0 n 1,.nul,List.replicate n 0,[],?_,?_⟩
 ·rw[List.map_replicate];exact Has.mX [_] [_,_] (hH.dP 2)
 ·refine⟨by simp,fun i p hi=>?_,by rw[List.count_replicate];simp,by simpa using hn⟩;have:=bz hi;rw[List.length_replicate] at this;rw[List.getElem?_replicate,if_pos this];simp
end Go.Proofs.YtbdilgkfnacahaaGreat
namespace Go.Proofs.YtbdilgkfnacahaaGreat
open Go.V Go
abbrev tp:=Nat→Int
def aA (f:tp):List D:=[.int .i64 (f 0),.int .i64 (f 1),.int .i64 (f 2),.int .i64 (f 3),.int .i64 (f 4),.int .i64 (f 5),.int .i64 (f 6),.int .i64 (f 7),.int .i64 (f 8),.int .i64 (f 9)]
def ch:tp:=fun _=>-1
def kY:tp:=fun _=>0
def z7 (f:tp) (x:Nat) (v:Int):tp:=fun j=>if j=x then v else f j
theorem iU {n ns pc:Nat} {i:aL} (h:db n ns pc i=true):
  i.op=7∨(i.op=2∧(0≤i.x∧i.x<(n:Int))∧0≤i.y∧i.y<(n:Int))∨(i.op=3∧0≤i.x∧i.x<(n:Int))∨(i.op=4∧pc+1<n∧0≤i.x∧i.x<10)∨(i.op=5∧pc+1<n)∨(i.op=6∧pc+1<n)∨(i.op=1∧pc+1<n):=by
 unfold db at h
 split at h
 ·rename_i h1;simp only[Bool.and_eq_true,decide_eq_true_eq] at h;refine .inr (.inr (.inr (.inr (.inr (.inr ⟨h1,?_⟩)))));omega
 ·simp only[Bool.and_eq_true] at h;obtain⟨_,h⟩:=h
  split at h
  ·rename_i h2;simp only[Bool.and_eq_true] at h;exact .inr (.inl ⟨h2,dC.1 h.1,dC.1 h.2⟩)
  ·simp only[Bool.and_eq_true] at h;obtain⟨_,h⟩:=h
   split at h
   ·rename_i h3;exact .inr (.inr (.inl ⟨h3,dC.1 h⟩))
   ·split at h
    ·rename_i h4;simp only[Bool.and_eq_true,decide_eq_true_eq] at h;exact .inr (.inr (.inr (.inl ⟨h4,by omega,dC.1 h.2⟩)))
    ·split at h
     ·rename_i h5;simp only[Bool.and_eq_true,decide_eq_true_eq] at h
      rcases h5 with h5|h5
      ·exact .inr (.inr (.inr (.inr (.inl ⟨h5,by omega⟩))))
      ·exact .inr (.inr (.inr (.inr (.inr (.inl ⟨h5,by omega⟩)))))
     ·split at h
      ·rename_i h7;exact .inl h7
      ·cases h
end Go.Proofs.YtbdilgkfnacahaaGreat
namespace Go.Proofs.YtbdilgkfnacahaaGreat
open Go.V Go
def b7 (fr:Go.V.Fr) (k:Nat):Go.V.D:=Go.V.nth .bu fr.loc k
structure gM where
 pc:Nat
 c:tp
def aH (t:gM):List D:=[.int .i64 (t.pc:Nat),.int .i64 (t.c 0),.int .i64 (t.c 1),.int .i64 (t.c 2),.int .i64 (t.c 3),.int .i64 (t.c 4),.int .i64 (t.c 5),.int .i64 (t.c 6),.int .i64 (t.c 7),.int .i64 (t.c 8),.int .i64 (t.c 9)]
def aN (dn:Bool) (f:tp) (d:D):List D:=[.bool dn,.int .i64 (f 0),.int .i64 (f 1),.int .i64 (f 2),.int .i64 (f 3),.int .i64 (f 4),.int .i64 (f 5),.int .i64 (f 6),.int .i64 (f 7),.int .i64 (f 8),.int .i64 (f 9),d]
theorem Cs {a:D} {f:tp} {x:Nat} {v:Int} (hx:x<10):setMany (a::aA f) (1+x) [.int .i64 v]=a::aA (z7 f x v):=by
 match x,hx with
 |0,_=>rfl
 |1,_=>rfl
 |2,_=>rfl
 |3,_=>rfl
 |4,_=>rfl
 |5,_=>rfl
 |6,_=>rfl
 |7,_=>rfl
 |8,_=>rfl
 |9,_=>rfl
structure Wk where
 seen:List Bool
 dn:Bool
 aR:tp
 rdy:List gM
def bK (code:List aL) (pl:Nat) (e:Bool):Nat→Wk→gM→Wk×Bool
 |0,w,_=>(w,false)
 |f+1,w,t=>
  if w.seen.getD t.pc true=true then(w,false) else
  match code[t.pc]? with
  |none=>(w,false)
  |some i=>
   if i.op=7 then(⟨w.seen.set t.pc true,true,t.c,w.rdy⟩,true)
   else if i.op=2 then
    if(bK code pl e f ⟨w.seen.set t.pc true,w.dn,w.aR,w.rdy⟩ ⟨i.x.toNat,t.c⟩).2=true then bK code pl e f ⟨w.seen.set t.pc true,w.dn,w.aR,w.rdy⟩ ⟨i.x.toNat,t.c⟩
    else bK code pl e f (bK code pl e f ⟨w.seen.set t.pc true,w.dn,w.aR,w.rdy⟩ ⟨i.x.toNat,t.c⟩).1 ⟨i.y.toNat,t.c⟩
   else if i.op=1 then(⟨w.seen.set t.pc true,w.dn,w.aR,w.rdy++[t]⟩,false)
   else if i.op=3 then bK code pl e f ⟨w.seen.set t.pc true,w.dn,w.aR,w.rdy⟩ ⟨i.x.toNat,t.c⟩
   else if i.op=4 then bK code pl e f ⟨w.seen.set t.pc true,w.dn,w.aR,w.rdy⟩ ⟨t.pc+1,z7 t.c i.x.toNat (pl:Nat)⟩
   else if i.op=5 then if pl=0 then bK code pl e f ⟨w.seen.set t.pc true,w.dn,w.aR,w.rdy⟩ ⟨t.pc+1,t.c⟩ else(⟨w.seen.set t.pc true,w.dn,w.aR,w.rdy⟩,false)
   else if e=true then bK code pl e f ⟨w.seen.set t.pc true,w.dn,w.aR,w.rdy⟩ ⟨t.pc+1,t.c⟩ else(⟨w.seen.set t.pc true,w.dn,w.aR,w.rdy⟩,false)
def Good (code:List aL) (w w':Wk):Prop:=
 w'.seen.length=w.seen.length∧w'.seen.count false≤w.seen.count false∧w'.rdy.length+w'.seen.count false≤w.rdy.length+w.seen.count false∧∀t∈w'.rdy,t∈w.rdy∨∃i,code[t.pc]?=some i∧i.op=1
theorem Good.refl {code:List aL} {w:Wk}:Good code w w:=⟨rfl,Nat.le_refl _,Nat.le_refl _,fun t h=>.inl h⟩
theorem Good.trans {code:List aL} {a b c:Wk} (h:Good code a b) (k:Good code b c):Good code a c:=
 ⟨k.1.trans h.1,Nat.le_trans k.2.1 h.2.1,Nat.le_trans k.2.2.1 h.2.2.1,fun t ht=>by
  rcases k.2.2.2 t ht with q|q
  ·exact h.2.2.2 t q
  ·exact .inr q⟩
theorem Good.step {code:List aL} {w w':Wk} {j:Nat} (hj:w.seen[j]?=some false) (k:Good code ⟨w.seen.set j true,w.dn,w.aR,w.rdy⟩ w'):Good code w w':=by
 have hc:=count_set hj;refine Good.trans (b:=⟨w.seen.set j true,w.dn,w.aR,w.rdy⟩) ⟨?_,?_,?_,fun t h=>.inl h⟩ k
 ·simp
 ·show(w.seen.set j true).count false≤_;omega
 ·show w.rdy.length+(w.seen.set j true).count false≤_;omega
theorem vG {l:List Bool} {j:Nat} (h:¬l.getD j true=true):l[j]?=some false:=by
 rw[List.getD_eq_getElem?_getD] at h
 cases hq:l[j]? with
 |none=>rw[hq] at h;exact absurd rfl h
 |some b=>rw[hq] at h;cases b with
  |false=>rfl
  |true=>exact absurd rfl h
theorem pW {l:List Bool} {j:Nat} {b:Bool} (h:l[j]?=some b):l.getD j true=b:=by
 rw[List.getD_eq_getElem?_getD,h];rfl
theorem b_ (code:List aL) (pl:Nat) (e:Bool):∀(f:Nat) (w:Wk) (t:gM),Good code w (bK code pl e f w t).1
 |0,w,t=>.refl
 |f+1,w,t=>by
  unfold bK
  split
  ·exact .refl
  ·rename_i hs;have hs:=vG hs;have hc:=count_set hs
   split
   ·exact .refl
   ·rename_i i hi
    split
    ·exact Good.step hs ⟨rfl,Nat.le_refl _,Nat.le_refl _,fun t h=>.inl h⟩
    ·split
     ·split
      ·exact Good.step hs (b_ code pl e f _ _)
      ·exact Good.step hs ((b_ code pl e f _ _).trans (b_ code pl e f _ _))
     ·split
      ·rename_i h1;refine⟨by simp,by show(w.seen.set t.pc true).count false≤_;omega,by show(w.rdy++[t]).length+(w.seen.set t.pc true).count false≤_;rw[List.length_append];simp only[List.length_cons,List.length_nil];omega,fun t' h=>?_⟩
       rcases List.mem_append.1 h with h|h
       ·exact .inl h
       ·simp only[List.mem_cons,List.not_mem_nil,or_false] at h;subst h;exact .inr ⟨i,hi,h1⟩
      ·split
       ·exact Good.step hs (b_ code pl e f _ _)
       ·split
        ·exact Good.step hs (b_ code pl e f _ _)
        ·split
         ·split
          ·exact Good.step hs (b_ code pl e f _ _)
          ·exact Good.step hs .refl
         ·split
          ·exact Good.step hs (b_ code pl e f _ _)
          ·exact Good.step hs .refl
theorem Cl (l:List gM):∀e∈l.map aH,e.length=11:=by
 intro e he;obtain⟨x,_,rfl⟩:=List.mem_map.1 he;rfl
theorem l4 (A:List bF) {N ks:Nat} {S s0:St} {H:List bF} {seen:List Bool} {i:Nat} {b:Bool} {pd qd:D} {P Q:List Nat} (hF:S.flr≤N) (hi:seen[i]?=some b) (ba:dF P Q seen) (hH:Has N S s0 (A++(.box ks (.mem 0 false [pd,qd])::.aM pd 1 (P.map fc)::.aM qd 2 (Q.map lU)::H))):
  ∃r ah,Ev pv 64 [.ptr ks 0 0,.int .i64 (i:Nat),.bool true] s0 r ah∧r=.bool (!b)∧∃pd qd P Q,Has N S ah (A++(.box ks (.mem 0 false [pd,qd])::.aM pd 1 (P.map fc)::.aM qd 2 (Q.map lU)::H))∧dF P Q (seen.set i true):=by
 obtain⟨r,ah,h1,h2,Pb,O_,P',Q',h3,h4⟩:=yx (H:=A++H) hF hi ⟨pd,qd,P,Q,Has.mX A [_,_,_] hH,ba⟩;exact⟨r,ah,h1,h2,Pb,O_,P',Q',Has.mX [_,_,_] A h3,h4⟩
theorem mT (A:List bF) {N ks:Nat} {S s0:St} {H:List bF} {seen:List Bool} {pd qd:D} {P Q:List Nat} (hF:S.flr≤N) (ba:dF P Q seen) (hH:Has N S s0 (A++(.box ks (.mem 0 false [pd,qd])::.aM pd 1 (P.map fc)::.aM qd 2 (Q.map lU)::H))):
  ∃r ah,Ev pv 60 [.ptr ks 0 0] s0 r ah∧r=.tup []∧∃pd qd P Q,Has N S ah (A++(.box ks (.mem 0 false [pd,qd])::.aM pd 1 (P.map fc)::.aM qd 2 (Q.map lU)::H))∧dF P Q (List.replicate seen.length false):=by
 obtain⟨r,ah,h1,h2,Pb,O_,P',Q',h3,h4⟩:=tC (H:=A++H) hF ⟨pd,qd,P,Q,Has.mX A [_,_,_] hH,ba⟩;exact⟨r,ah,h1,h2,Pb,O_,P',Q',Has.mX [_,_,_] A h3,h4⟩
def TQ (N:Nat) (S st:St) (ks kv kw kl:Nat) (p:Pg) (pl:Nat) (ld:D) (e:Bool) (w:Wk) (H:List bF):Prop:=
 ∃rd pd qd P Q,Has N S st (.box kv (.mem 0 false [p.cd,p.sd,.int .i64 (pl:Nat),ld,.ptr ks 0 0])::.box kw (.mem 0 false [.ptr kl 0 0,rd,.bool e])::.box kl (.mem 0 false (aN w.dn w.aR .nul))::.aM rd 11 (w.rdy.map aH)::.box ks (.mem 0 false [pd,qd])::.aM pd 1 (P.map fc)::.aM qd 2 (Q.map lU)::H)∧dF P Q w.seen
theorem GQ {N ks kv kw kl:Nat} {S:St} {H:List bF} {p:Pg} {pl:Nat} {ld:D} {e:Bool} (hF:S.flr≤N) (hp:p.ok) (hR:bU p) (ij:pl≤1099511627776):∀(f:Nat) (w:Wk) (t:gM) (s0:St) (H:List bF),t.pc<p.code.length→w.seen.length=p.code.length→w.seen.count false<f→w.rdy.length+w.seen.count false≤1048576→TQ N S s0 ks kv kw kl p pl ld e w H→
  ∃r ah,Ev pv 61 [.ptr kv 0 0,.ptr kw 0 0,.agg (aH t)] s0 r ah∧r=.bool (bK p.code pl e f w t).2∧TQ N S ah ks kv kw kl p pl ld e (bK p.code pl e f w t).1 H
 |0,_,_,_,_,_,_,h,_,_=>absurd h (Nat.not_lt_zero _)
 |f+1,w,t,s0,H,Ba,gQ,dv,pJ,hT=>by
  have ih:=GQ (ks:=ks) (kv:=kv) (kw:=kw) (kl:=kl) (S:=S) (H:=H) (ld:=ld) (e:=e) hF hp hR ij f;obtain⟨rd,pd,qd,P,Q,hH,ba⟩:=hT;have hc:=hp.c.arg N S;have hlen:=hp.cl
  obtain⟨i,hi⟩:∃i,p.code[t.pc]?=some i:=⟨p.code[t.pc]'Ba,List.getElem?_eq_getElem _⟩
  obtain⟨b,hb⟩:∃b,w.seen[t.pc]?=some b:=⟨w.seen[t.pc]'(by omega),List.getElem?_eq_getElem _⟩
  have hr:=fM hi;have wo:=(hp.i i (List.mem_of_getElem? hi)).1;have kR:=iU (hR.sh t.pc i hi);have Gn:=pW hb;have dI:bK p.code pl e (f+1) w t=bK p.code pl e (f+1) w t:=rfl
  conv at dI=>rhs;unfold bK
  rw[Gn] at dI;simp only[hi] at dI;generalize bK p.code pl e (f+1) w t=R at*;obtain⟨op,x,y,SF,rs⟩:=i;obtain⟨pc,c⟩:=t;simp only at*;refine Ev.i7 rfl RG rfl rfl rfl ?_;dsimp only[u3,u4,List.length,Nat.reduceSub,Nat.reduceAdd,w1,w2];change af _ _ _ _ s0 _;refine qq<|qj fun K hK=>qb hH fun k5 st Bg hH=>?_;dsimp only[u2,u1,u3,u4,setMany,u5,u6,D.cells,Nat.reduceAdd,aB,aH,aN,aA] at hH;refine qm ?_;refine qe hK<|qq<|qq<|qj fun K hK=>qm ?_;refine qg ?_;refine qp (o:=4) ?_;refine ql hH bC ?_;refine qp (o:=0) ?_;refine ql hH ax ?_;obtain⟨_,st,aI,rfl,pd,qd,P,Q,hH,ba⟩:=l4 [_,_,_,_,_] hF hb ba hH;dsimp only[u3,u4] at hH;refine qv aI ?_;refine qg ?_;refine qe hK ?_
  cases b with
  |true=>
   rw[if_pos rfl] at dI;subst dI;refine qB ?_;refine qq<|qj fun K hK=>qm ?_;refine qe hK<|af.ret ⟨rx,_,_,_,rfl,rfl,?_⟩;refine⟨rfl,rd,pd,qd,P,Q,hH.drop 1,?_⟩
   have:w.seen.set pc true=w.seen:=by
    refine List.ext_getElem? fun j=>?_
    by_cases hj:j=pc
    ·subst hj;rw[List.getElem?_set_self (by omega),hb]
    ·rw[List.getElem?_set_ne (fun e=>hj e.symm)]
   rw[←this];exact ba
  |false=>
   rw[if_neg (by decide)] at dI;have uM:=count_set hb;have mz:(w.seen.set pc true).length=p.code.length:=by rw[List.length_set];exact gQ
   have uO:(w.seen.set pc true).count false<f:=by omega
   have uC:w.rdy.length+(w.seen.set pc true).count false≤1048576:=by omega
   generalize w.seen.set pc true=sn at*;clear hb Gn uM gQ dv pJ;refine qC ?_;refine af.skip<|qq<|qj fun K hK=>qm ?_;refine qg ?_;refine qp (o:=0) ?_;refine qp (o:=0) ?_;refine ql hH bC ?_;refine qp (o:=0) ?_;refine ql hH ax ?_;refine qr fun LS y3=>?_;refine ab.cY rfl (ev rfl) (by assumption) rfl (by dsimp only[Fr.put,u1,u2]<;>rfl) ?_;refine qa hH fun k7 st OP hH=>?_;refine qS hH ax fun st hH=>?_;dsimp only[u2,u1,u3,u4,setMany,u5,u6,D.cells,Nat.reduceAdd,aB,aH,aN,aA] at hH;refine qe hK<|qq<|qj fun K hK=>?_;refine ab.aT (m:=11) hH rfl (ev rfl) (by exact bC) (by dsimp only[List.drop_succ_cons,List.drop_zero,List.take_succ_cons,List.take_zero,aB,aH,aN,aA]<;>rfl) rfl rfl (by dsimp only[Fr.put,u1,u2]<;>rfl) ?_;refine qa hH fun k8 st L6 hH=>?_;refine qS hH ax fun st hH=>?_;dsimp only[u2,u1,u3,u4,setMany,u5,u6,D.cells,Nat.reduceAdd,aB,aH,aN,aA] at hH;refine qe hK<|qq<|qj fun K hK=>qp (o:=0) ?_;refine ql hH ax ?_;refine qA ?_;refine qp (o:=0) ?_;refine qT hH ax fun st hH=>?_;dsimp only[u2,u1,u3,u4,setMany,u5,u6,D.cells,Nat.reduceAdd,aB,aH,aN,aA] at hH;refine qe hK<|qq<|qq<|qj fun K hK=>qp (o:=0) ?_;refine ql hH bC ?_;refine qe hK<|af.merge (fun fr st=>∃(t':gM) (tmp:List (Nat×D)),fr=⟨33,[.ptr kv 0 0,.ptr kw 0 0,b7 fr 2,b7 fr 3,b7 fr 4,.ptr k5 0 0,.bool false,.ptr k7 0 0,.ptr k8 0 0,b7 fr 9,b7 fr 10,b7 fr 11,b7 fr 12,b7 fr 13,b7 fr 14,b7 fr 15,b7 fr 16,b7 fr 17,b7 fr 18,b7 fr 19,b7 fr 20,b7 fr 21,b7 fr 22,b7 fr 23,b7 fr 24,b7 fr 25,b7 fr 26,b7 fr 27,b7 fr 28,b7 fr 29,b7 fr 30,b7 fr 31,b7 fr 32],tmp⟩∧Has N S st (.box k8 (.mem 0 false (aH t'))::.box k7 (.mem 0 false [.int .i64 op,.int .i64 x,.int .i64 y,SF])::.box k5 (.mem 0 false (aH ⟨pc,c⟩))::.box kv (.mem 0 false [p.cd,p.sd,.int .i64 (pl:Nat),ld,.ptr ks 0 0])::.box kw (.mem 0 false [.ptr kl 0 0,rd,.bool e])::.box kl (.mem 0 false (aN w.dn w.aR .nul))::.aM rd 11 (w.rdy.map aH)::.box ks (.mem 0 false [pd,qd])::.aM pd 1 (P.map fc)::.aM qd 2 (Q.map lU)::H)∧(R=bK p.code pl e f ⟨sn,w.dn,w.aR,w.rdy⟩ t')∧(t'.pc<p.code.length)) ?_ ?_
   ·refine af.block<|qq<|qj fun K hK=>qg ?_;refine qm ?_;refine qe hK ?_;refine af.cond (by rfl) (fun h7=>?_) (fun h7=>?_)<;>try simp only[beq_iff_eq,beq_eq_false_iff_ne,ne_eq] at h7
    ·rw[if_pos h7] at dI;subst dI;have tl:=hH;change af _ _ _ _ _ _;refine qq ?_;generalize hK:bX _ _ _ _=K;refine af.rP rfl ?_;refine cE.cons ?_;refine qm ?_;refine ab.nil ⟨rfl,?_⟩;refine cE.cons ?_;refine qg ?_;refine ab.nil ⟨rfl,?_⟩;refine cE.cons ?_;refine qp (o:=0) ?_;refine ab.nil ⟨rfl,?_⟩;refine cE.cons ?_;refine ql hH fT ?_;refine ab.nil ⟨rfl,?_⟩;refine cE.cons ?_;refine qm ?_;refine ab.nil ⟨rfl,?_⟩;refine cE.cons ?_;refine qg ?_;refine ab.nil ⟨rfl,?_⟩;refine cE.cons ?_;refine qp (o:=0) ?_;refine ab.nil ⟨rfl,?_⟩;refine cE.cons ?_;refine ql hH fT ?_;refine ab.nil ⟨rfl,?_⟩;refine cE.cons ?_;refine qp (o:=1) ?_;refine ab.nil ⟨rfl,?_⟩;refine cE.cons ?_;refine ab.aT (m:=10) hH rfl (ev rfl) (by exact dp) (by dsimp only[List.drop_succ_cons,List.drop_zero,List.take_succ_cons,List.take_zero,aB,aH,aN,aA]<;>rfl) rfl rfl (ag rfl _) ?_;refine ab.nil ⟨rfl,?_⟩;refine cE.cons ?_;refine qg ?_;refine ab.nil ⟨rfl,?_⟩;refine cE.cons ?_;refine qp (o:=0) ?_;refine ab.nil ⟨rfl,?_⟩;refine cE.cons ?_;refine qT hH pC fun st hH=>?_;dsimp only[u2,u1,u3,u4,setMany,u5,u6,D.cells,Nat.reduceAdd,aB,aH,aN,aA] at hH;refine ab.nil ⟨by exact Bool.and_eq_true_iff.2 ⟨zq rfl rfl rfl (tl.at dp) (hH.at dp) (tl.at dp) rfl,rfl⟩,?_⟩;refine cE.cons ?_;refine qg ?_;refine ab.nil ⟨rfl,?_⟩;refine cE.cons ?_;refine qp (o:=1) ?_;refine ab.nil ⟨rfl,?_⟩;refine cE.cons ?_;refine qT hH pC fun st hH=>?_;dsimp only[u2,u1,u3,u4,setMany,u5,u6,D.cells,Nat.reduceAdd,aB,aH,aN,aA] at hH;refine ab.nil ⟨rfl,?_⟩;refine cE.nil ?_;subst hK;refine qq<|qj fun K hK=>qm ?_;refine qe hK<|af.ret ⟨rx,_,_,_,rfl,rfl,?_⟩;exact⟨rfl,rd,pd,qd,P,Q,hH.drop 3,ba⟩
    ·rw[if_neg h7] at dI;refine qq<|qj fun K hK=>qg ?_;refine qm ?_;refine qe hK ?_;refine af.cond (by rfl) (fun h2=>?_) (fun h2=>?_)<;>try simp only[beq_iff_eq,beq_eq_false_iff_ne,ne_eq] at h2
     ·rw[if_pos h2] at dI;obtain⟨_,⟨hx0,hx1⟩,hy0,hy1⟩:=(kR.resolve_left h7).resolve_right (by omega);obtain⟨xn,rfl⟩:=Int.eq_ofNat_of_zero_le hx0;obtain⟨yn,rfl⟩:=Int.eq_ofNat_of_zero_le hy0;have Lf:=b_ p.code pl e f ⟨sn,w.dn,w.aR,w.rdy⟩ ⟨xn,c⟩;have uR:=Has.mX [_,_,_] [_,_,_,_,_,_,_] hH;obtain⟨_,st1,aI,rfl,hT⟩:=ih ⟨sn,w.dn,w.aR,w.rdy⟩ ⟨xn,c⟩ _ _ (by show xn<_;omega) mz uO uC ⟨rd,pd,qd,P,Q,uR,ba⟩;clear uR;have dI:R=if(bK p.code pl e f ⟨sn,w.dn,w.aR,w.rdy⟩ ⟨xn,c⟩).2=true then bK p.code pl e f ⟨sn,w.dn,w.aR,w.rdy⟩ ⟨xn,c⟩ else bK p.code pl e f (bK p.code pl e f ⟨sn,w.dn,w.aR,w.rdy⟩ ⟨xn,c⟩).1 ⟨yn,c⟩:=dI;generalize bK p.code pl e f ⟨sn,w.dn,w.aR,w.rdy⟩ ⟨xn,c⟩=R1 at*;obtain⟨w1,b1⟩:=R1;obtain⟨cM,bk,bG,fg⟩:=Lf;simp only at cM bk bG fg aI hT dI;obtain⟨SG,SO,SH,P1,Q1,uR,Nw⟩:=hT;have uR:=Has.mX [_,_,_,_,_,_,_] [_,_,_] uR;dsimp only[u3,u4] at uR
      cases b1 with
      |true=>
       rw[if_pos rfl] at dI;subst dI;have gg:true=true:=rfl;refine qq<|qj fun K hK=>qm ?_;refine qm ?_;refine qp (o:=1) ?_;refine ql hH bC ?_;refine qp (o:=1) ?_;refine ab.aT (m:=10) hH rfl (ev rfl) (by exact dp) (by dsimp only[List.drop_succ_cons,List.drop_zero,List.take_succ_cons,List.take_zero,aB,aH,aN,aA]<;>rfl) rfl rfl (ag rfl _) ?_;refine ab.go (d:=.agg (aH ⟨xn,c⟩)) (st1:=_) rfl rfl rfl (ag rfl _) ?_;refine qv aI ?_;refine qm ?_;refine qs ?_ (hg:=wn gg);refine qs ?_ (hg:=wn gg);refine qs ?_ (hg:=wn gg);refine qs ?_ (hg:=wn gg);refine qs ?_ (hg:=wn gg);refine qs ?_ (hg:=wn gg);refine qs ?_ (hg:=wn gg);refine qs ?_ (hg:=wn gg);refine qt gg ?_;refine qm ?_;refine qe hK<|af.ret ⟨rx,_,_,_,rfl,rfl,?_⟩;exact⟨rfl,SG,SO,SH,P1,Q1,uR.drop 3,Nw⟩
      |false=>
       rw[if_neg (by decide)] at dI;have gg:false=false:=rfl;refine qq<|qj fun K hK=>qm ?_;refine qm ?_;refine qp (o:=1) ?_;refine ql hH bC ?_;refine qp (o:=1) ?_;refine ab.aT (m:=10) hH rfl (ev rfl) (by exact dp) (by dsimp only[List.drop_succ_cons,List.drop_zero,List.take_succ_cons,List.take_zero,aB,aH,aN,aA]<;>rfl) rfl rfl (ag rfl _) ?_;refine ab.go (d:=.agg (aH ⟨xn,c⟩)) (st1:=_) rfl rfl rfl (ag rfl _) ?_;have hH:=uR;refine qv aI ?_;refine qm ?_;refine qm ?_ (hg:=wi gg);refine qm ?_ (hg:=wi gg);refine qp (o:=2) ?_ (hg:=wi gg);refine ql hH bC ?_ (hg:=wi gg);refine qp (o:=1) ?_ (hg:=wi gg);refine ab.aT (m:=10) hH (aC rfl rfl rfl gg) (ev rfl) (by exact dp) (by dsimp only[List.drop_succ_cons,List.drop_zero,List.take_succ_cons,List.take_zero,aB,aH,aN,aA]<;>rfl) rfl rfl (ag rfl _) ?_;refine ab.go (d:=.agg (aH ⟨yn,c⟩)) (st1:=_) (aC rfl rfl rfl gg) rfl rfl (ag rfl _) ?_;obtain⟨_,st,aI,rfl,hT⟩:=ih w1 ⟨yn,c⟩ _ _ (by show yn<_;omega) (by omega) (by omega) (by omega) ⟨SG,SO,SH,P1,Q1,hH.drop 3,Nw⟩;refine qv aI ?_ (hg:=wi gg);refine qu gg ?_;refine qm ?_;refine qe hK<|af.ret ⟨rx,_,_,_,rfl,rfl,?_⟩;rw[dI];exact⟨rfl,hT⟩
     ·rw[if_neg h2] at dI;refine qq<|qj fun K hK=>qg ?_;refine qm ?_;refine qe hK ?_;refine af.cond (by rfl) (fun h1=>?_) (fun h1=>?_)<;>try simp only[beq_iff_eq,beq_eq_false_iff_ne,ne_eq] at h1
      ·rw[if_pos h1] at dI;subst dI;refine qq<|qj fun K hK=>qm ?_;refine qm ?_;refine qg ?_;refine qp (o:=1) ?_;refine ql hH fT ?_;refine ab.aT (m:=11) hH rfl (ev rfl) (by exact dp) (by dsimp only[List.drop_succ_cons,List.drop_zero,List.take_succ_cons,List.take_zero,aB,aH,aN,aA]<;>rfl) rfl rfl (ag rfl _) ?_;refine qh (s:=11) (vs:=[_]) hH fun k77 st NK hH=>?_;refine ab.bQ (s:=11) hH rfl (ev rfl) (ev rfl) (by exact Sr) (by exact hH.rows (by exact ax)) rfl rfl rfl rfl rfl rfl rfl ⟨(Nat.le_of_ble_eq_true rfl),(Nat.le_of_ble_eq_true rfl)⟩ (fun _=>(ag rfl _)) (by simp only[List.length_cons,List.length_nil,List.length_map]<;>omega) (by exact .inl hF) (fun TU st hH=>?_);dsimp only[u2,u1,u3,u4,setMany,u5,u6,D.cells,Nat.reduceAdd,aB,aH,aN,aA] at hH;refine qg ?_;refine qp (o:=1) ?_;refine qT hH pC (fun st hH=>?_) (gR:=hH.eI Sr);dsimp only[u2,u1,u3,u4,setMany,u5,u6,D.cells,Nat.reduceAdd,aB,aH,aN,aA] at hH;refine qe hK<|qq<|qj fun K hK=>qm ?_;refine qe hK<|af.ret ⟨rx,_,_,_,rfl,rfl,?_⟩;refine⟨rfl,TU,pd,qd,P,Q,?_,ba⟩;rw[List.map_append];exact hH.drop 4
      ·rw[if_neg h1] at dI;refine qq<|qj fun K hK=>qg ?_;refine qm ?_;refine qe hK ?_;refine af.cond (by rfl) (fun h3=>?_) (fun h3=>?_)<;>try simp only[beq_iff_eq,beq_eq_false_iff_ne,ne_eq] at h3
       ·rw[if_pos h3] at dI;obtain⟨_,hx0,hx1⟩:=((kR.resolve_left h7).resolve_left (by omega)).resolve_right (by omega);obtain⟨xn,rfl⟩:=Int.eq_ofNat_of_zero_le hx0;refine qj fun K hK=>qp (o:=1) ?_;refine ql hH bC ?_;refine qp (o:=0) ?_;refine qT hH ax fun st hH=>?_;dsimp only[u2,u1,u3,u4,setMany,u5,u6,D.cells,Nat.reduceAdd,aB,aH,aN,aA] at hH;refine qe hK ?_;exact⟨⟨xn,c⟩,_,rfl,hH,dI,by show xn<_;omega⟩
       ·rw[if_neg h3] at dI;refine qq<|qj fun K hK=>qg ?_;refine qm ?_;refine qe hK ?_;refine af.cond (by rfl) (fun h4=>?_) (fun h4=>?_)<;>try simp only[beq_iff_eq,beq_eq_false_iff_ne,ne_eq] at h4
        ·rw[if_pos h4] at dI;obtain⟨_,oR,hx0,hx1⟩:=(((kR.resolve_left h7).resolve_left (by omega)).resolve_left (by omega)).resolve_right (by omega);obtain⟨xn,rfl⟩:=Int.eq_ofNat_of_zero_le hx0;refine qj fun K hK=>qp (o:=1) ?_;refine ql hH bC ?_;refine qm ?_;refine qg ?_;refine qp (o:=2) ?_;refine ql hH ef ?_;refine qp (o:=1) ?_;refine ab.Gs (m:=10) (s:=1) (i:=xn) (o:=1+xn) rfl (ev rfl) (ev rfl) rfl rfl (by omega) (by omega) (ag rfl _) ?_;refine ab.jP hH rfl (ev rfl) (ev rfl) rfl (by exact rfl) ax (by show 1+xn+1≤11;omega) (.inl hF) (fun st hH=>?_);change Has _ _ _ (.box k8 (.mem 0 false (setMany (_::aA c) (1+xn) [.int .i64 (pl:Nat)]))::_) at hH;rw[Cs (by omega)] at hH;refine qe hK ?_;exact⟨⟨pc+1,z7 c xn (pl:Nat)⟩,_,rfl,hH,dI,oR⟩
        ·rw[if_neg h4] at dI;refine qq<|qj fun K hK=>qg ?_;refine qm ?_;refine qe hK ?_;refine af.cond (by rfl) (fun h5=>?_) (fun h5=>?_)<;>try simp only[beq_iff_eq,beq_eq_false_iff_ne,ne_eq] at h5
         ·rw[if_pos h5] at dI;have oR:pc+1<p.code.length:=by omega
          refine qq<|qj fun K hK=>qm ?_;refine qg ?_;refine qp (o:=2) ?_;refine ql hH ef ?_;refine qg ?_;refine qe hK ?_
          by_cases ha:pl=0
          ·rw[if_pos ha] at dI;subst ha;refine af.cond (v:=false) (by dsimp only[Fr.ev,Fr.get,nth,V.look];rfl) (fun h=>by cases h) (fun _=>?_);refine af.skip ?_;exact⟨⟨pc+1,c⟩,_,rfl,hH,dI,oR⟩
          ·rw[if_neg ha] at dI;subst dI;refine qD rfl (by simp;omega) ?_;refine qq<|qj fun K hK=>qm ?_;refine qe hK<|af.ret ⟨rx,_,_,_,rfl,rfl,?_⟩;exact⟨rfl,rd,pd,qd,P,Q,hH.drop 3,ba⟩
         ·rw[if_neg h5] at dI;have h6:op=6:=by omega
          have oR:pc+1<p.code.length:=by omega
          refine qq<|qj fun K hK=>qg ?_;refine qm ?_;refine qe hK<|qD rfl (by simp[h6]) ?_;refine qq<|qj fun K hK=>qm ?_;refine qg ?_;refine qp (o:=2) ?_;refine ql hH fT ?_;refine qg ?_;refine qe hK ?_
          cases e with
          |true=>
           rw[if_pos rfl] at dI;refine qC ?_;refine af.skip ?_;exact⟨⟨pc+1,c⟩,_,rfl,hH,dI,oR⟩
          |false=>
           rw[if_neg (by decide)] at dI;subst dI;refine qB ?_;refine qq<|qj fun K hK=>qm ?_;refine qe hK<|af.ret ⟨rx,_,_,_,rfl,rfl,?_⟩;exact⟨rfl,rd,pd,qd,P,Q,hH.drop 3,ba⟩
   ·rintro fr st ⟨t',tmp,hfr,hH,Wy,P0⟩;rw[hfr];clear hfr;generalize b7 fr=ee;clear fr;obtain⟨T8,c'⟩:=t';dsimp only[aH] at hH;refine qq<|qj fun K hK=>qm ?_;refine qm ?_;refine ab.aT (m:=11) hH rfl (ev rfl) (by exact ax) (by dsimp only[List.drop_succ_cons,List.drop_zero,List.take_succ_cons,List.take_zero,aB,aH,aN,aA]<;>rfl) rfl rfl (ag rfl _) ?_;have hH:=hH.drop 3;obtain⟨_,st,aI,rfl,hT⟩:=ih ⟨sn,w.dn,w.aR,w.rdy⟩ ⟨T8,c'⟩ _ _ P0 mz uO uC ⟨rd,pd,qd,P,Q,hH,ba⟩;refine qv aI ?_;refine qm ?_;refine qe hK<|af.ret ⟨rx,_,_,_,rfl,rfl,?_⟩;rw[Wy];exact⟨rfl,hT⟩
end Go.Proofs.YtbdilgkfnacahaaGreat
