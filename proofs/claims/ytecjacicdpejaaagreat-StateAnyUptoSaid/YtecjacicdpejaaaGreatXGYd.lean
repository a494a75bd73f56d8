/-
 A machine's list is expanded.
-/
import Derived.Test.YtecjacicdpejaaaGreatXGHr
import Derived.Test.YtecjacicdpejaaaGreatXGUo
import Derived.Test.YtecjacicdpejaaaGreatXGQe
import Derived.Test.YtecjacicdpejaaaGreatXGJi
import Derived.Test.YtecjacicdpejaaaGreatXM2
set_option maxRecDepth 100000
set_option maxHeartbeats 4000000
set_option linter.unusedSimpArgs false
set_option linter.unusedVariables false
set_option linter.unusedSectionVars false
namespace Go.Proofs.YtecjacicdpejaaaGreat
open Go.V Go
structure VL where
 dn:Bool
 bf:j4
 td:D
 bn:List hU
def iR (l:VL):List D:=aX l.dn l.bf l.td
def tG (l:VL):bo:=.aF l.td 11 (l.bn.map bw)
theorem Kr (A:List bo) {n:Nat} (hn:A.length=n) {L:List VL} {i:Nat} {l:VL} (h:L[i]?=some l) {H:List bo}:(A++(L.map tG++H))[n+i]?=some (tG l):=by
 have hi:=bp h;rw[List.getElem?_append_right (by omega),List.getElem?_append_left (by simp;omega),hn,Nat.add_sub_cancel_left,List.getElem?_map,h];rfl
theorem xM {N:Nat} {S st:St} {H:List bo} {j:Nat} {x:D} {s:Nat} {es:List (List D)} (h:Has N S st H) (hj:H[j]?=some (.aF x s es)):x.ref≤st.bs.length:=by
 rcases Nat.eq_zero_or_pos x.ref with h0|h0
 ·omega
 ·have:=h.xV hj (k:=x.ref-1) (by show x.ref=x.ref-1+1;omega);omega
def MH (A:List bo) (N:Nat) (S st:St) (ks kv:Nat) (p:Pg) (pl:Nat) (ld:D) (L:List VL) (H:List bo):Prop:=
 ∃pd qd P Q sn,Has N S st (A++(.box kv (.mem 0 false [p.cd,p.sd,.int .i64 (pl:Nat),ld,.ptr ks 0 0])::.box ks (.mem 0 false [pd,qd])::.aF pd 1 (P.map jG)::.aF qd 2 (Q.map sN)::.aF ld 12 (L.map iR)::(L.map tG++H)))∧eQ P Q sn∧sn.length=p.code.length
theorem MH.push (A B:List bo) {N:Nat} {S st:St} {ks kv:Nat} {p:Pg} {pl:Nat} {ld:D} {L:List VL} {H:List bo} (h:MH (A++B) N S st ks kv p pl ld L H):MH B N S st ks kv p pl ld L (A++H):=by
 obtain⟨pd,qd,P,Q,sn,hH,ba,ej⟩:=h;refine⟨pd,qd,P,Q,sn,?_,ba,ej⟩;have:=Has.jA (H:=H) A (B++(.box kv (.mem 0 false [p.cd,p.sd,.int .i64 (pl:Nat),ld,.ptr ks 0 0])::.box ks (.mem 0 false [pd,qd])::.aF pd 1 (P.map jG)::.aF qd 2 (Q.map sN)::.aF ld 12 (L.map iR)::L.map tG)) (by simpa only[List.append_assoc,List.cons_append] using hH)
 simpa only[List.append_assoc,List.cons_append] using this
structure PL where
 dn:Bool
 bf:j4
 bn:List hU
def PL.ok (n:Nat) (l:PL):Prop:=(∀t∈l.bn,t.pc<n)∧l.bn.length≤1000
def VL.pl (l:VL):PL:=⟨l.dn,l.bf,l.bn⟩
theorem MH.mono {A:List bo} {N:Nat} {S st:St} {ks kv:Nat} {p:Pg} {pl:Nat} {ld:D} {L:List VL} {H:List bo} (n:Nat) (h:MH A N S st ks kv p pl ld L H):MH (A.drop n) N S st ks kv p pl ld L H:=by
 obtain⟨pd,qd,P,Q,sn,hH,ba,ej⟩:=h;refine⟨pd,qd,P,Q,sn,?_,ba,ej⟩
 rcases Nat.le_total n A.length with hn|hn
 ·have:=hH.drop n
  rwa [List.drop_append_of_le_length hn] at this
 ·have:=hH.drop A.length;rw[List.drop_append_of_le_length (Nat.le_refl _),List.drop_length] at this;rw[List.drop_eq_nil_of_le hn];exact this
structure uY (p q:Pg):Prop where
 ok:q.ok
 code:q.code=p.code.map ga
 ak:q.ak=p.ak
theorem uY.right {p q:Pg} (h:uY p q) (hR:bm p):bm q:=(Fx h.code h.ak).2 hR
def TA (l:List hU):D:=.sl ((l.map bw).map (ml 11))
def mX (l:PL):List D:=aX l.dn l.bf (TA l.bn)
structure AM (N:Nat) (S:St) (kv ks:Nat) (p:Pg) (pl:Nat) (ld:D) (L:List VL):Prop where
 lt:kv<N
 le:N≤S.bs.length
 at_:S.bs[kv]?=some (.mem 0 false [p.cd,p.sd,.int .i64 (pl:Nat),ld,.ptr ks 0 0])
 ld:Arg N S 12 ld (L.map iR)
 td:∀l∈L,Arg N S 11 l.td (l.bn.map bw)
 ksl:ks<N
theorem AM.box {N:Nat} {S st:St} {H:List bo} {kv ks:Nat} {p:Pg} {pl:Nat} {ld:D} {L:List VL} (h:AM N S kv ks p pl ld L) (hH:Has N S st H):st.bs[kv]?=some (.mem 0 false [p.cd,p.sd,.int .i64 (pl:Nat),ld,.ptr ks 0 0]):=by
 rw[hH.ex.low kv h.lt];exact h.at_
theorem AM.refs {N:Nat} {S st:St} {H:List bo} {kv ks:Nat} {p:Pg} {pl:Nat} {ld:D} {L:List VL} (h:AM N S kv ks p pl ld L) (hp:p.ok) (hH:Has N S st H):V.refs [p.cd,p.sd,.int .i64 (pl:Nat),ld,.ptr ks 0 0]≤st.bs.length:=by
 have h1:=hp.c.ref;have h2:=hp.s.ref;have h3:=h.ld.2;have h4:=h.ksl;have h5:=h.le;have h6:=hH.ex.len;simp only[V.refs,D.ref,h1,h2];omega
theorem AM.to {N:Nat} {S st:St} {H:List bo} {kv ks:Nat} {p:Pg} {pl:Nat} {ld:D} {L:List VL} (h:AM N S kv ks p pl ld L) (hH:Has N S st H) (o:Nat):mV st (.ptr kv 0 o) ([p.cd,p.sd,.int .i64 (pl:Nat),ld,.ptr ks 0 0].drop o):=
 .inl ⟨kv,0,o,false,_,rfl,St.mem_of (by rw[hH.ex.low kv h.lt];exact h.at_),List.take_length ..⟩
theorem MH.am {N ks kv:Nat} {S s0:St} {H:List bo} {p:Pg} {pl:Nat} {ld:D} {L:List VL} (hM:MH [] N S s0 ks kv p pl ld L H):AM s0.bs.length s0 kv ks p pl ld L:=by
 obtain⟨pd,qd,P,Q,sn,hH,jj,ej⟩:=hM;dsimp only[u4] at hH
 exact⟨(hH.ge aB).2,Nat.le_refl _,hH.at aB,⟨hH.rows bL,xM hH bL⟩,fun l hl=>(by
  obtain⟨i,hi⟩:=List.getElem?_of_mem hl;have h:=Kr (H:=H) [.box kv (.mem 0 false [p.cd,p.sd,.int .i64 (pl:Nat),ld,.ptr ks 0 0]),.box ks (.mem 0 false [pd,qd]),.aF pd 1 (P.map jG),.aF qd 2 (Q.map sN),.aF ld 12 (L.map iR)] rfl hi
  exact⟨hH.rows h,xM hH h⟩),hH.xV aO rfl⟩
theorem MH.ro {N ks kv:Nat} {S s0:St} {H:List bo} {p:Pg} {pl:Nat} {ld:D} {L:List VL} (hM:MH [] N S s0 ks kv p pl ld L H):s0.ro≤s0.bs.length:=by
 obtain⟨pd,qd,P,Q,sn,hH,jj,ej⟩:=hM;rw[hH.ex.ro];exact Nat.le_trans hH.du (Nat.le_trans hH.hN hH.ex.len)
def lW (fr:Go.V.Fr) (k:Nat):Go.V.D:=Go.V.nth .bI fr.loc k
def cz (f:j4) (to:Int):Prop:=∀i,i<10→-1≤f i∧f i≤to
theorem EM {f:j4} {st:St} {i:Nat} (hi:i<10):(x_ pv 48 (.agg (aA f)) (.int .i64 (i:Nat))).map (fun d=>(d,st))=some (.int .i64 (f i),st):=by
 match i,hi with
 |0,_=>rfl
 |1,_=>rfl
 |2,_=>rfl
 |3,_=>rfl
 |4,_=>rfl
 |5,_=>rfl
 |6,_=>rfl
 |7,_=>rfl
 |8,_=>rfl
 |9,_=>rfl
theorem uS {f:j4} {i:Nat} (hi:i<10):fx pv 3 ((aA f).drop (0+i*1))=some (.int .i64 (f i)):=by
 match i,hi with
 |0,_=>rfl
 |1,_=>rfl
 |2,_=>rfl
 |3,_=>rfl
 |4,_=>rfl
 |5,_=>rfl
 |6,_=>rfl
 |7,_=>rfl
 |8,_=>rfl
 |9,_=>rfl
theorem Cn {st:St} {k i:Nat} (hi:i<10):(cJ pv 48 (.ptr k 0 0) (.int .i64 (i:Nat)) st).map (fun d=>(d,st))=some (.ptr k 0 (0+i*1),st):=by
 show Option.map _ (if(0:Int)≤(i:Nat)∧((i:Nat):Int)<((10:Nat):Int) then some (D.ptr k 0 (0+((i:Nat):Int).toNat*1)) else none)=_;rw[if_pos ⟨by omega,by omega⟩];rfl
theorem ug {s0:St} (f:j4) (to:Int):Ev pv 150 [.agg (aA f),.int .i64 to] s0 (.bool (dec (cz f to))) s0:=by
 refine Ev.gP rfl XB rfl rfl rfl ?_;refine zE ?_;obtain⟨aN,hF,hH⟩:=ri s0;generalize ae .ro s0=S at*;refine zQ 2 ?_;refine qb hH fun k2 st hk2 hH=>?_;refine zQ 5 ?_;refine ab.av (m:=10) hH rfl (ev rfl) (by exact aB) (by dsimp only[List.drop_succ_cons,List.drop_zero,List.take_succ_cons,List.take_zero]<;>rfl) rfl rfl (by dsimp only[Fr.put,u1,u2]<;>rfl) ?_;refine zQ 3 ?_;refine ag.loop (fun mm fr st=>∃(i:Nat),fr.clean=⟨9,[lW fr 0,.int .i64 to,lW fr 2,lW fr 3,lW fr 4,lW fr 5,lW fr 6,.agg (aA f),.int .i64 (i:Nat)],[]⟩∧Has s0.bs.length S st [.box k2 (.mem 0 false (aA f))]∧(i+mm=10)∧(∀j,j<i→-1≤f j∧f j≤to)) (10) ?_ ?_
 ·exact⟨0,rfl,hH,by omega,by intro j h;omega⟩
 rintro mm fr st ⟨i,hfr,hH,hi,hpre⟩;rw[hfr];clear hfr;generalize lW fr=ee;clear fr;refine zQ 5 ?_;refine zP (fun hlt=>?_) fun hlt=>?_
 ·refine zQ 5 ?_;refine ab.go (d:=.int .i64 (f i)) (st1:=_) rfl rfl (EM (by omega)) (aa rfl _) ?_;refine zQ 3 ?_;refine ag.dM 17 (.bool (decide (f i< -1)||decide (f i>to))) [] ?_ (fun ff tmp dj=>?_)
  ·refine zQ 3 ?_;refine ab.two 13 rfl (fun br=>?_) (fun br=>?_)
   ·refine zQ 4 ?_;refine ab.nil (aR ?_ ?_)
    ·dsimp only[aK,List.foldl,nth,u2,u1]
     all_goals(first|rfl|simp)
    ·refine zF ?_
     all_goals(simp[br];done)
   ·refine zQ 4 ?_;refine ab.nil (aR ?_ ?_)
    ·dsimp only[aK,List.foldl,nth,u2,u1]
     all_goals(first|rfl|simp)
    ·refine zF ?_
     all_goals(simp[br];done)
  refine zG ?_;refine qc (fun h2=>?_) (fun h2=>?_)<;>try simp only[cs] at h2
  ·rw[dp (fun h=>by have:=h i (by omega);simp at h2;omega)];refine zQ 4 ?_;refine ag.ret ⟨rx,_,rfl,rl aN hH (rfl)⟩
  ·refine zQ 5 ?_;refine⟨mm-1,by omega,⟨i+1,rfl,hH,by omega,?_⟩⟩;intro j hj
   by_cases he:j=i
   ·subst he;simp at h2;omega
   ·exact hpre j (by omega)
 ·refine zQ 1 ?_;rw[b_ (q:=cz f to) (fun j hj=>hpre j (by omega))];refine zQ 4 ?_;refine ag.ret ⟨rx,_,rfl,rl aN hH (rfl)⟩
theorem xb {s0:St} (f:j4) (to:Int):Ev pv 192 [.agg (aA f),.int .i64 to] s0 (.bool (dec (cz f to))) s0:=by
 refine Ev.gP rfl Xd rfl rfl rfl ?_;refine zE ?_;obtain⟨aN,hF,hH⟩:=ri s0;generalize ae .ro s0=S at*;refine zQ 2 ?_;refine qb hH fun k2 st hk2 hH=>?_;refine zQ 8 ?_;refine ag.loop (fun mm fr st=>∃(i:Nat),fr.clean=⟨6,[lW fr 0,.int .i64 to,.ptr k2 0 0,lW fr 3,lW fr 4,.int .i64 (i:Nat)],[]⟩∧Has s0.bs.length S st [.box k2 (.mem 0 false (aA f))]∧(i+mm=10)∧(∀j,j<i→-1≤f j∧f j≤to)) (10) ?_ ?_
 ·exact⟨0,rfl,hH,by omega,by intro j h;omega⟩
 rintro mm fr st ⟨i,hfr,hH,hi,hpre⟩;rw[hfr];clear hfr;generalize lW fr=ee;clear fr;refine zQ 6 ?_;refine zP (fun hlt=>?_) fun hlt=>?_
 ·refine zQ 4 ?_;refine ag.dM 20 (.bool (decide (f i< -1)||decide (f i>to))) [] ?_ (fun ff tmp dj=>?_)
  ·refine qm ?_;refine ab.go (d:=.ptr k2 0 (0+i*1)) (st1:=_) rfl rfl (Cn (by omega)) (aa rfl _) ?_;refine ab.iv hH rfl rfl aB (uS (by omega)) (aa rfl _) ?_;refine zQ 2 ?_;refine ab.two 14 rfl (fun iN=>?_) (fun iN=>?_)
   ·refine zQ 6 ?_;refine ab.nil (aR ?_ ?_)
    ·dsimp only[aK,List.foldl,nth,u2,u1]
     all_goals(first|rfl|simp)
    ·refine zF ?_
     all_goals(simp[iN];done)
   ·refine zQ 1 ?_;refine ab.go (d:=.ptr k2 0 (0+i*1)) (st1:=_) (af rfl rfl rfl iN) rfl (Cn (by omega)) (aa rfl _) ?_;refine ab.iv hH (af rfl rfl rfl iN) rfl aB (uS (by omega)) (aa rfl _) ?_;refine zQ 3 ?_;refine ab.nil (aR ?_ ?_)
    ·dsimp only[aK,List.foldl,nth,u2,u1]
     all_goals(first|rfl|simp)
    ·refine zF ?_
     all_goals(simp[iN];done)
  refine zG ?_;refine qc (fun h2=>?_) (fun h2=>?_)<;>try simp only[cs] at h2
  ·rw[dp (fun h=>by have:=h i (by omega);simp at h2;omega)];refine zQ 4 ?_;refine ag.ret ⟨rx,_,rfl,rl aN hH (rfl)⟩
  ·refine zQ 6 ?_;refine⟨mm-1,by omega,⟨i+1,rfl,hH,by omega,?_⟩⟩;intro j hj
   by_cases he:j=i
   ·subst he;simp at h2;omega
   ·exact hpre j (by omega)
 ·refine zQ 1 ?_;rw[b_ (q:=cz f to) (fun j hj=>hpre j (by omega))];refine zQ 4 ?_;refine ag.ret ⟨rx,_,rfl,rl aN hH (rfl)⟩
end Go.Proofs.YtecjacicdpejaaaGreat
namespace Go.V
def nu (l:List (Int×Int)):List (D×D):=l.map fun p=>(.int .i64 p.1,.int .i64 p.2)
def getM:List (Int×Int)→Int→Int
 |[],_=>0
 |(k,x)::l,n=>if n=k then x else getM l n
def ud:List (Int×Int)→Int→Int→List (Int×Int)
 |[],n,v=>[(n,v)]
 |(k,x)::l,n,v=>if n=k then(n,v)::l else(k,x)::ud l n v
theorem ta (n v m:Int):∀l,getM (ud l n v) m=if m=n then v else getM l m
 |[]=>rfl
 |(k,x)::l=>by
  unfold ud
  by_cases h:n=k
  ·subst h;rw[if_pos rfl];unfold getM
   by_cases h2:m=n<;>simp[h2]
  ·rw[if_neg h];unfold getM;rw[ta n v m l]
   by_cases h2:m=n
   ·subst h2;simp[h]
   ·simp[h2]
theorem yy (n:Int):∀(l:List (Int×Int)) (i:Nat),(jJ .i64 n (nu l) i=some none∧getM l n=0∧∀v,ud l n v=l++[(n,v)])∨∃j,jJ .i64 n (nu l) i=some (some (i+j,.int .i64 (getM l n)))∧∀v,ud l n v=l.set j (n,v)
 |[],i=>.inl ⟨rfl,rfl,fun v=>rfl⟩
 |(k,x)::l,i=>by
  by_cases h:n=k
  ·subst h;exact .inr ⟨0,by simp[nu,jJ,getM],fun v=>by simp[ud]⟩
  ·have hb:(n==k)=false:=by simpa using h
   rcases yy n l (i+1) with⟨h1,h2,h3⟩|⟨j,h1,h3⟩
   ·refine .inl ⟨?_,by simp[getM,h,h2],fun v=>by simp[ud,h,h3 v]⟩;show(if IntKind.i64=IntKind.i64 then(if(n==k)=true then some (some (i,D.int .i64 x)) else jJ .i64 n (nu l) (i+1)) else none)=_;rw[hb];exact h1
   ·refine .inr ⟨j+1,?_,fun v=>by simp[ud,h,h3 v]⟩;show(if IntKind.i64=IntKind.i64 then(if(n==k)=true then some (some (i,D.int .i64 x)) else jJ .i64 n (nu l) (i+1)) else none)=_;rw[hb];simp only[getM,h,if_false];rw[show i+(j+1)=i+1+j by omega];exact h1
variable{P:Pv}
theorem xI {st:St} {k:Nat} {l:List (Int×Int)} {t kt e:TypeId} {kk:IntKind} {n v:Int} (ht:P.db t=some (.map kt e)) (hk:P.db kt=some (.int kk)) (hb:st.bs[k]?=some (.map (nu l))) (hw:st.ku k 0=true):
  mw P t (.mp k) (.int .i64 n) (.int .i64 v) st=some {st with bs:=st.bs.set k (.map (nu (ud l n v)))}:=by
 unfold mw;simp only[ht,hk,hb,hw]
 rcases yy n l 0 with⟨h1,_,h3⟩|⟨j,h1,h3⟩
 ·rw[h1,h3 v];simp[nu]
 ·rw[h1,h3 v];simp[nu]
theorem FX {st:St} {k:Nat} {l:List (Int×Int)} {t kt e:TypeId} {kk:IntKind} {n:Int} (ht:P.db t=some (.map kt e)) (hk:P.db kt=some (.int kk)) (he:zx P e=some (.int .i64 0)) (hb:st.bs[k]?=some (.map (nu l))):
  sJ P t (.mp k) (.int .i64 n) st=some (.int .i64 (getM l n)):=by
 unfold sJ;simp only[ht,hk,hb]
 rcases yy n l 0 with⟨h1,h2,_⟩|⟨j,h1,_⟩
 ·rw[h1,h2];exact he
 ·rw[h1]
variable{N:Nat} {S st:St} {H:List bo} {fr aM:Fr} {ops:Array Oper} {rest:List Oper} {Q:Fr→St→Prop} {dst ty:Nat} {pp:String} {a:Array Edge} {g:Option (Nat×Bool)}
theorem ab.nC {t:TypeId} {aM:Nat→Fr} (hH:Has N S st H) (hg:aH ops fr ⟨some dst,.makeMap t none,ty,pp,a,g⟩=some true) (hp:∀k,fr.put dst (.mp k)=aM k)
  (h:∀k ai,S.bs.length≤k→Has N S ai (.box k (.map (nu []))::H)→ab P ops rest (aM k) ai Q):ab P ops (⟨some dst,.makeMap t none,ty,pp,a,g⟩::rest) fr st Q:=
 ab.go hg rfl (d:=.mp st.bs.length) (st1:=st.push (.map [])) rfl (hp _) (h _ _ hH.len (hH.p_ _))
theorem ab.HW {j k:Nat} {l:List (Int×Int)} {t kt e:TypeId} {kk:IntKind} {n v:Int} {mo ko vo:Operand} (hH:Has N S st H) (hg:aH ops fr ⟨none,.mapUpdate t mo ko vo,ty,pp,a,g⟩=some true) (ht:P.db t=some (.map kt e)) (hk:P.db kt=some (.int kk)) (hm:fr.ev mo=.mp k) (hn:fr.ev ko=.int .i64 n) (hv:fr.ev vo=.int .i64 v) (hj:H[j]?=some (.box k (.map (nu l))))
  (h:∀ai,Has N S ai (H.set j (.box k (.map (nu (ud l n v)))))→ab P ops rest fr ai Q):ab P ops (⟨none,.mapUpdate t mo ko vo,ty,pp,a,g⟩::rest) fr st Q:=by
 refine ab.N hg rfl (d:=.tup []) (st1:=⟨st.bs.set k (.map (nu (ud l n v))),st.flr,st.ro⟩) ?_ (h _ (hH.rE (aE:=0) hj));simp only[eS,hm,hn,hv,xI ht hk (hH.at hj) (jT hH (cs:=[]) (hH.ge hj).1 (.inr rfl)),Option.map_some]
theorem ab.Py {j k:Nat} {l:List (Int×Int)} {t kt e:TypeId} {kk:IntKind} {n v:Int} {mo ko vo:Operand} (hH:Has N S st H) (hg:aH ops fr ⟨none,.insert t mo ko vo,ty,pp,a,g⟩=some true) (ht:P.db t=some (.map kt e)) (hk:P.db kt=some (.int kk)) (hm:fr.ev mo=.mp k) (hn:fr.ev ko=.int .i64 n) (hv:fr.ev vo=.int .i64 v) (hj:H[j]?=some (.box k (.map (nu l))))
  (h:∀ai,Has N S ai (H.set j (.box k (.map (nu (ud l n v)))))→ab P ops rest fr ai Q):ab P ops (⟨none,.insert t mo ko vo,ty,pp,a,g⟩::rest) fr st Q:=by
 refine ab.N hg rfl (d:=.tup []) (st1:=⟨st.bs.set k (.map (nu (ud l n v))),st.flr,st.ro⟩) ?_ (h _ (hH.rE (aE:=0) hj));simp only[eS,hm,hn,hv,xI ht hk (hH.at hj) (jT hH (cs:=[]) (hH.ge hj).1 (.inr rfl)),Option.map_some]
theorem ab.Pz {j k:Nat} {l:List (Int×Int)} {t kt e:TypeId} {kk:IntKind} {n:Int} {mo ko:Operand} (hH:Has N S st H) (hg:aH ops fr ⟨some dst,.lookup t mo ko false,ty,pp,a,g⟩=some true) (ht:P.db t=some (.map kt e)) (hk:P.db kt=some (.int kk)) (he:zx P e=some (.int .i64 0)) (hm:fr.ev mo=.mp k) (hn:fr.ev ko=.int .i64 n) (hj:H[j]?=some (.box k (.map (nu l)))) (hp:fr.put dst (.int .i64 (getM l n))=aM)
  (h:ab P ops rest aM st Q):ab P ops (⟨some dst,.lookup t mo ko false,ty,pp,a,g⟩::rest) fr st Q:=by
 refine ab.go hg rfl (d:=.int .i64 (getM l n)) (st1:=st) ?_ hp h;simp only[eS,hm,hn,FX ht hk he (hH.at hj),Option.map_some]
end Go.V
namespace Go.Proofs.YtecjacicdpejaaaGreat
open Go.V Go
def aL (fr:Go.V.Fr) (k:Nat):Go.V.D:=Go.V.nth .bI fr.loc k
structure GT where
 pc:Int
 c:j4
def dA (t:GT):List D:=[.int .i64 t.pc,.int .i64 (t.c 0),.int .i64 (t.c 1),.int .i64 (t.c 2),.int .i64 (t.c 3),.int .i64 (t.c 4),.int .i64 (t.c 5),.int .i64 (t.c 6),.int .i64 (t.c 7),.int .i64 (t.c 8),.int .i64 (t.c 9)]
theorem Ca {l:List GT} {i:Nat} {q:GT} (h:l[i]?=some q):(l.map dA)[i]?=some (dA q):=by rw[List.getElem?_map,h];rfl
def mF (p:Pg) (s:Int) (m:Nat) (n:Int):Prop:=n=s∨∃i q,i<m∧n=((i+1:Nat):Int)∧(bR p.code s)[i]?=some true∧p.code[i]?=some q∧q.op=1
def oE (p:Pg) (s:Int) (bn:List GT) (m:Nat) (n:Int):Prop:=mF p s p.code.length n∧∀j t,j<m→bn[j]?=some t→t.pc≠n
def lP (p:Pg) (s:Int) (bn:List GT) (place:Int) (m:Nat):Prop:=∀j t,j<m→bn[j]?=some t→oE p s bn j t.pc∧cz t.c place
theorem yr {p:Pg} {s:Int} {m:Nat} {n:Int} {b:Bool} {q:aP} (hb:(bR p.code s)[m]?=some b) (hq:p.code[m]?=some q):mF p s (m+1) n↔mF p s m n∨(n=((m+1:Nat):Int)∧(b &&(q.op==1))=true):=by
 unfold mF;constructor
 ·rintro(h|⟨i,q',h1,h2,h3,h4,h5⟩)
  ·exact .inl (.inl h)
  ·by_cases he:i=m
   ·subst he;rw[hb] at h3;cases h3;rw[hq] at h4;cases h4;exact .inr ⟨h2,by simp[h5]⟩
   ·exact .inl (.inr ⟨i,q',by omega,h2,h3,h4,h5⟩)
 ·rintro((h|⟨i,q',h1,h2,h3,h4,h5⟩)|⟨h1,h2⟩)
  ·exact .inl h
  ·exact .inr ⟨i,q',by omega,h2,h3,h4,h5⟩
  ·simp only[Bool.and_eq_true,beq_iff_eq] at h2;obtain⟨rfl,h2⟩:=h2;exact .inr ⟨m,q,by omega,h1,hb,hq,h2⟩
theorem Gw {p:Pg} {s:Int} {bn:List GT} {j:Nat} {n:Int} {t:GT} (ht:bn[j]?=some t):oE p s bn (j+1) n↔oE p s bn j n∧n≠t.pc:=by
 unfold oE;constructor
 ·rintro⟨h1,h2⟩;exact⟨⟨h1,fun j' t' hj h=>h2 j' t' (by omega) h⟩,fun h=>h2 j t (by omega) ht h.symm⟩
 ·rintro⟨⟨h1,h2⟩,h3⟩;refine⟨h1,fun j' t' hj h=>?_⟩
  by_cases he:j'=j
  ·subst he;rw[ht] at h;cases h;exact fun h=>h3 h.symm
  ·exact h2 j' t' (by omega) h
theorem u_ {p:Pg} {s place:Int} {bn:List GT} {j:Nat} {t:GT} (ht:bn[j]?=some t) (h:lP p s bn place j) (h1:oE p s bn j t.pc) (h2:cz t.c place):lP p s bn place (j+1):=by
 intro j' t' hj h'
 by_cases he:j'=j
 ·subst he;rw[ht] at h';cases h';exact⟨h1,h2⟩
 ·exact h j' t' (by omega) h'
theorem Km {s0:St} {p:Pg} (hp:p.ok) (hR:bm p) {r:Nat} {s:Int} (hr:p.ak[r]?=some s) {dn:Bool} {b:j4} {td:D} {bn:List GT} (Au:V.Rows s0 11 td (bn.map dA)) (hl:bn.length≤1048576) (place:Int):
  Ev pv 151 [p.d,.int .i64 (r:Nat),.agg (aX dn b td),.int .i64 place] s0 (.bool (dec (lP p s bn place bn.length))) s0:=by
 have hcl:=hR.closed;have jO:=hR.st s (List.mem_of_getElem? hr);have E8:=hp.c;have hlen:=hp.cl;have sQ:=nU p.code s;have hr8:=hR.sl;have acR:=bp hr;refine Ev.gP rfl XA rfl rfl rfl ?_;refine zE ?_;obtain⟨aN,hF,hH⟩:=ri s0;generalize ae .ro s0=S at*;have hc:=hp.c.arg s0.bs.length S;have hs:=hp.s.arg s0.bs.length S;have N6:=Arg.of Au aN;have L9:=(qX (bR p.code s)).arg s0.bs.length S;have gw:=fJ hr;unfold Pg.d;refine zQ 2 ?_;refine qb hH fun k4 st QQ hH=>?_;dsimp only[u2,u1,u3,u4,setMany,u5,u6,D.cells,Nat.reduceAdd,aJ,aX,aA,az,Pg.cs,dA,cQ] at hH;refine qb hH fun k6 st Gj hH=>?_;dsimp only[u2,u1,u3,u4,setMany,u5,u6,D.cells,Nat.reduceAdd,aJ,aX,aA,az,Pg.cs,dA,cQ] at hH;refine zQ 9 ?_;refine qr fun Rp Ge=>?_;refine qR ?_;refine qv ((Ig E8 hlen hcl jO)) ?_;refine zQ 4 ?_;refine ab.nC hH rfl (fun _=>by dsimp only[Fr.put,u1,u2]<;>rfl) (fun km st hkm hH=>?_);refine zQ 3 ?_;refine qr fun Zi Sk=>?_;refine qR ?_;refine ab.Py hH rfl rfl rfl rfl rfl rfl aB (fun st hH=>?_);dsimp only[u2] at hH;refine zQ 7 ?_;refine qn ?_;simp only[List.length_map];refine zQ 3 ?_;refine ag.loop (fun mm fr st=>∃(i:Nat) (M:List (Int×Int)),fr.clean=⟨55,[aL fr 0,.int .i64 (r:Nat),aL fr 2,.int .i64 place,.ptr k4 0 0,aL fr 5,.ptr k6 0 0,aL fr 7,aL fr 8,aL fr 9,.mp km,aL fr 11,aL fr 12,aL fr 13,aL fr 14,aL fr 15,aL fr 16,aL fr 17,aL fr 18,aL fr 19,aL fr 20,aL fr 21,aL fr 22,aL fr 23,aL fr 24,aL fr 25,aL fr 26,aL fr 27,aL fr 28,aL fr 29,rV (bR p.code s),.int .i64 ((bR p.code s).length:Nat),.int .i64 (i:Nat),aL fr 33,aL fr 34,aL fr 35,aL fr 36,aL fr 37,aL fr 38,aL fr 39,aL fr 40,aL fr 41,aL fr 42,aL fr 43,aL fr 44,aL fr 45,aL fr 46,aL fr 47,aL fr 48,aL fr 49,aL fr 50,aL fr 51,aL fr 52,aL fr 53,aL fr 54],[]⟩∧Has s0.bs.length S st [.box km (.map (nu M)),.box k6 (.mem 0 false (aX dn b td)),.box k4 (.mem 0 false [p.cd,p.sd])]∧(i+mm=p.code.length)∧(∀n,getM M n≠0↔mF p s i n)) (p.code.length) ?_ ?_
 ·refine⟨0,_,rfl,hH,by omega,?_⟩;intro n;rw[ta];unfold mF
  by_cases hn:n=s<;>simp[hn,getM]
 rintro mm fr st ⟨i,M,hfr,hH,hi,hM⟩;rw[hfr];clear hfr;generalize aL fr=ee;clear fr;refine zQ 5 ?_;refine zP (fun h1=>?_) fun h1=>?_
 ·refine zQ 1 ?_
  obtain⟨b,hb⟩:∃b,(bR p.code s)[i]?=some b:=⟨(bR p.code s)[i]'(by omega),List.getElem?_eq_getElem _⟩
  obtain⟨q,hq⟩:∃q,p.code[i]?=some q:=⟨p.code[i]'(by omega),List.getElem?_eq_getElem _⟩
  have gw:=mb hb;have nB:=gM hq;refine zQ 5 ?_;refine qr fun Ug Me=>?_;refine zQ 5 ?_;refine ag.oM 46 (.bool (b &&(q.op==1))) [37,38,39,40,41,42,43,44,45] ?_ (fun ff tmp=>?_)
  ·refine zQ 2 ?_;refine ab.two 38 rfl (fun mY=>?_) (fun mY=>?_)
   ·refine zQ 3 ?_;refine qr (fun p42 Vh=>?_) (hg:=wi mY);refine qf (fo:=0) (fun Ze Sh=>?_) (hg:=wi mY);refine zQ 3 ?_;refine ab.nil (bu ?_);refine zG ?_
    all_goals(simp[mY];done)
   ·refine zQ 8 ?_;refine ab.nil (bu ?_);refine zG ?_
    all_goals(simp[mY];done)
  dsimp only[aK,List.foldl,nth,u2,u1];generalize ff 37=e37;generalize ff 38=e38;generalize ff 39=e39;generalize ff 40=e40;generalize ff 41=e41;generalize ff 42=e42;generalize ff 43=e43;generalize ff 44=e44;generalize ff 45=e45;refine zF ?_;refine qc (fun h2=>?_) (fun h2=>?_)<;>try simp only[cs] at h2
  ·refine zQ 4 ?_;refine ab.HW hH rfl rfl rfl rfl rfl rfl aB (fun st hH=>?_);dsimp only[u2] at hH;refine zQ 5 ?_;refine⟨mm-1,by omega,⟨i+1,_,rfl,hH,by omega,?_⟩⟩;intro n;rw[ta,yr hb hq,h2,←hM n]
   by_cases hn:n=((i+1:Nat):Int)
   ·rw[if_pos (by rw[hn];omega)];simp[hn]
   ·rw[if_neg (by omega)];exact⟨.inl,fun h=>h.elim id fun h=>absurd h.1 hn⟩
  ·refine zQ 5 ?_;refine⟨mm-1,by omega,⟨i+1,_,rfl,hH,by omega,?_⟩⟩;intro n;rw[yr hb hq,←hM n];exact⟨.inl,fun h=>h.elim id fun h=>absurd h.2 (by rw[h2];decide)⟩
 ·refine zQ 1 ?_;have hM:∀n,getM M n≠0↔oE p s bn 0 n:=fun n=>by rw[hM n];unfold oE;rw[show i=p.code.length by omega];simp
  refine zQ 5 ?_;refine qn ?_;simp only[List.length_map];refine zQ 3 ?_;refine ag.loop (fun mm fr st=>∃(j:Nat) (M:List (Int×Int)),fr.clean=⟨55,[aL fr 0,.int .i64 (r:Nat),aL fr 2,.int .i64 place,.ptr k4 0 0,aL fr 5,.ptr k6 0 0,aL fr 7,aL fr 8,aL fr 9,.mp km,aL fr 11,aL fr 12,aL fr 13,aL fr 14,aL fr 15,aL fr 16,aL fr 17,aL fr 18,aL fr 19,aL fr 20,aL fr 21,aL fr 22,aL fr 23,aL fr 24,aL fr 25,aL fr 26,aL fr 27,aL fr 28,aL fr 29,aL fr 30,aL fr 31,aL fr 32,aL fr 33,aL fr 34,aL fr 35,aL fr 36,aL fr 37,aL fr 38,aL fr 39,aL fr 40,aL fr 41,aL fr 42,aL fr 43,aL fr 44,aL fr 45,aL fr 46,aL fr 47,aL fr 48,aL fr 49,aL fr 50,aL fr 51,td,.int .i64 (bn.length:Nat),.int .i64 (j:Nat)],[]⟩∧Has s0.bs.length S st [.box km (.map (nu M)),.box k6 (.mem 0 false (aX dn b td)),.box k4 (.mem 0 false [p.cd,p.sd])]∧(j+mm=bn.length)∧(∀n,getM M n≠0↔oE p s bn j n)∧(lP p s bn place j)) (bn.length) ?_ ?_
  ·exact⟨0,_,rfl,hH,by omega,hM,(by intro j t h;omega)⟩
  rintro mm fr st ⟨j,M,hfr,hH,hj,hM,hw⟩;rw[hfr];clear hfr;generalize aL fr=ee;clear fr;refine zQ 5 ?_;refine zP (fun h3=>?_) fun h3=>?_
  ·refine zQ 1 ?_
   obtain⟨t,ht⟩:∃t,bn[j]?=some t:=⟨bn[j]'(by omega),List.getElem?_eq_getElem _⟩
   have Gc:=Ca ht;refine zQ 4 ?_;refine qr fun Za Sd=>?_;refine ab.c_ rfl (ev rfl) (by assumption) rfl (aa rfl _) ?_;refine qa hH fun k14 st PC hH=>?_;dsimp only[u2,u1,u3,u4,setMany,u5,u6,D.cells,Nat.reduceAdd,aJ,aX,aA,az,Pg.cs,dA,cQ] at hH;refine qS hH aB fun st hH=>?_;dsimp only[u2,u1,u3,u4,setMany,u5,u6,D.cells,Nat.reduceAdd,aJ,aX,aA,az,Pg.cs,dA,cQ] at hH;refine zQ 3 ?_;refine ag.dM 69 (.bool (getM M t.pc==0||!(dec (cz t.c place)))) [] ?_ (fun ff tmp dj=>?_)
   ·refine zQ 3 ?_;refine ab.Pz hH rfl rfl rfl rfl rfl rfl aO (aa rfl _) ?_;refine zQ 2 ?_;refine ab.two 63 rfl (fun cK=>?_) (fun cK=>?_)
    ·refine zQ 6 ?_;refine ab.nil (aR ?_ ?_)
     ·dsimp only[aK,List.foldl,nth,u2,u1]
      all_goals(first|rfl|simp)
     ·refine zF ?_
      all_goals(simp[cK];done)
    ·refine zQ 1 ?_;refine ab.av (m:=10) hH (af rfl rfl rfl cK) (ev rfl) (by exact aB) (by dsimp only[List.drop_succ_cons,List.drop_zero,List.take_succ_cons,List.take_zero,aJ,aX,aA,az,Pg.cs,dA,cQ]<;>rfl) rfl rfl (aa rfl _) ?_;refine zQ 1 ?_;refine qv (ug t.c place) ?_ (hg:=wi cK);refine zQ 2 ?_;refine ab.nil (aR ?_ ?_)
     ·dsimp only[aK,List.foldl,nth,u2,u1]
      all_goals(first|rfl|simp)
     ·refine zF ?_
      all_goals(simp[cK];done)
   refine zG ?_;refine qc (fun h4=>?_) (fun h4=>?_)<;>try simp only[cs] at h4
   ·rw[dp (fun h=>by
     have:=h j t (by omega) ht;rw[b_ this.2] at h4;have h5:=(hM t.pc).2 this.1
     simp[h5] at h4)]
    refine zQ 4 ?_;refine ag.ret ⟨rx,_,rfl,rl aN hH (rfl)⟩
   ·refine zQ 5 ?_;refine ab.HW hH rfl rfl rfl rfl rfl rfl aO (fun st hH=>?_);dsimp only[u1,u2] at hH;refine zQ 5 ?_;refine⟨mm-1,by omega,⟨j+1,_,rfl,hH.drop 1,by omega,?_,?_⟩⟩
    ·intro n;rw[ta,Gw ht,←hM n]
     by_cases hn:n=t.pc<;>simp[hn]
    ·simp only[Bool.or_eq_false_iff,beq_eq_false_iff_ne,ne_eq,Bool.not_eq_false'] at h4;exact u_ ht hw ((hM t.pc).1 h4.1) (@of_decide_eq_true _ (Classical.propDecidable _) h4.2)
  ·refine zQ 1 ?_;rw[show bn.length=j by omega,b_ hw];refine zQ 4 ?_;refine ag.ret ⟨rx,_,rfl,rl aN hH (rfl)⟩
end Go.Proofs.YtecjacicdpejaaaGreat
