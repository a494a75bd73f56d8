/-
 simple: kids that are nothing are left out.
-/
import Derived.Test.YthahmilhpmfkfaaGreatVHr
import Derived.Test.YthahmilhpmfkfaaGreatVGEd
import Derived.Test.YthahmilhpmfkfaaGreatVSrx
import Derived.Test.YthahmilhpmfkfaaGreatVM2
import Derived.Test.YthahmilhpmfkfaaGreatVGQa
import Derived.Test.YthahmilhpmfkfaaGreatVKa
import Derived.Test.YthahmilhpmfkfaaGreatVGCa
set_option maxRecDepth 100000
set_option maxHeartbeats 4000000
set_option linter.unusedSimpArgs false
set_option linter.unusedVariables false
set_option linter.unusedSectionVars false
namespace Go.Proofs.YthahmilhpmfkfaaGreat
open Go.V Go
def sI (fr:Go.V.Fr) (k:Nat):Go.V.D:=Go.V.nth .bf fr.loc k
theorem Dc {z:List D} (hr:refs z=0):∀n,refs (Go.V.dn n z)=0:=by
 intro n;unfold Go.V.dn
 induction n with
 |zero=>rfl
 |succ n ih=>
  rw[List.replicate_succ,List.flatten_cons]
  have wV:∀(a b:List D),refs a=0→refs b=0→refs (a++b)=0:=by
   intro a
   induction a with
   |nil=>intro b _ hb;exact hb
   |cons d a Ep=>
    intro b ha hb;simp only[refs,List.cons_append] at ha⊢;have:=Ep b (by omega) hb;omega
  exact wV _ _ hr ih
theorem po {s:Nat} {es:List (List D)} (he:∀e∈es,e.length=s) (i:Nat) (hi:i≤es.length):es.flatten.take (i*s)=(es.take i).flatten:=by
 have h1:es.flatten=(es.take i).flatten++(es.drop i).flatten:=by rw[←List.flatten_append,List.take_append_drop]
 have h2:(es.take i).flatten.length=i*s:=by rw[bo (fun e h=>he e (List.mem_of_mem_take h)),List.length_take,Nat.min_eq_left hi]
 rw[h1,List.take_append_of_le_length (by omega),←h2,List.take_length]
theorem Eb {N:Nat} {S st:St} {H:List aZ} {P:Pv} {j k au off s n i:Nat} {es:List (List D)} {t e:TypeId} {z:List D} (h:Has N S st H) (hj:H[j]?=some (.aB (.win k au off n s) s es)) (ht:P.bZ t=some (.slice e)) (hz:cI P e=some z) (kR:z.length=s) (hr:refs z=0) (hi:i≤n):
  ∃ah,jS P [t] (.win k au (off+i*s) (n-i) s) st=some (.tup [],ah)∧Has N S ah (H.set j (.aB (.win k au off n s) s (es.take i++List.replicate (n-i) z))):=by
 have tT:=(h.ok j _ hj).2;have hown:=h.own hj
 cases hown with
 |win k au off es c hm hle hc he=>
  have hk:=tT k (by simp only[aZ.aB,D.ref]);have Mh:=Dc hr
  have pW:(Go.V.dn (es.length-i) z).length=(es.length-i)*s:=by
   unfold Go.V.dn;rw[bo (s:=s) (fun e he=>by rw[(List.mem_replicate.1 he).2];exact kR),List.length_replicate]
  have hmul:i*s+(es.length-i)*s=es.length*s:=by rw[←Nat.add_mul];congr 1;omega
  have hw:st.wr k au (off+i*s) (Go.V.dn (es.length-i) z)=some ⟨st.bs.set k (.mem au true (c.take (off+i*s)++Go.V.dn (es.length-i) z++c.drop (off+i*s+(Go.V.dn (es.length-i) z).length))),st.flr,st.ro⟩:=jK hm (by omega) (eL h hk.1 (.inr (Mh _)));refine⟨_,by simp only[jS,ht,hz,Option.bind_some];rw[if_pos kR,hw];rfl,?_⟩;refine h.vJ hj (fun n hn hne=>?_) (by simp) rfl rfl ?_ (fun n hn=>.inl hn) fun n hn=>?_
  ·simp only;rw[List.getElem?_set_ne (fun e=>hne (by simp only[aZ.aB,D.ref];omega))]
  ·have yR:∀e'∈es.take i++List.replicate (es.length-i) z,e'.length=s:=fun e' mN=>by
    rcases List.mem_append.1 mN with h'|h'
    ·exact he e' (List.mem_of_mem_take h')
    ·rw[(List.mem_replicate.1 h').2];exact kR
   have nc:(es.take i++List.replicate (es.length-i) z).length=es.length:=by rw[List.length_append,List.length_take,List.length_replicate];omega
   have:=eU.win (st:=⟨st.bs.set k (.mem au true (c.take (off+i*s)++Go.V.dn (es.length-i) z++c.drop (off+i*s+(Go.V.dn (es.length-i) z).length))),st.flr,st.ro⟩) (s:=s) k au off (es.take i++List.replicate (es.length-i) z) (c.take (off+i*s)++Go.V.dn (es.length-i) z++c.drop (off+i*s+(Go.V.dn (es.length-i) z).length))
    (by simp only;rw[List.getElem?_set_self hk.2]) (by rw[nc];simp;omega) ?_ yR
   ·rw[nc] at this;exact this
   ·rw[nc,List.append_assoc,List.drop_append_of_le_length (by simp;omega),List.drop_take,Nat.add_sub_cancel_left]
    have e2:(c.drop off).take (i*s)=(es.take i).flatten:=by
     rw[←po he i hi,←hc,List.take_take,Nat.min_eq_left (by omega)]
    have e3:(es.take i).flatten.length=i*s:=by rw[←po he i hi,List.length_take,bo he];omega
    rw[e2,List.take_append,e3,List.take_of_length_le (by omega),←hmul,Nat.add_sub_cancel_left,←pW,List.take_left']
    ·rw[List.flatten_append];rfl
    ·rfl
  ·simp only[aZ.aB,D.ref] at hn;have:n=k:=by omega
   subst this;simp only[List.length_set];exact hk.2
theorem wc {N:Nat} {S st:St} {H:List aZ} {j s:Nat} {x:D} {es:List (List D)} (h:Has N S st H) (hj:H[j]?=some (.aB x s es)) (hne:es≠[]):∃k au off,x=.win k au off es.length s:=by
 cases h.own hj with
 |nul=>exact absurd rfl hne
 |win k au off es c hm hle hc he=>exact⟨k,au,off,rfl⟩
theorem Kr {t:Tr} (h:t.fa nA):refs (tC t)=0:=by
 have h1:=(Tr.ez.1 h).1.1;simp[tC,cg,refs,D.ref,h1,aQ,dL]
theorem E3 {L:List Tr} {i:Nat} {v:Tr} (hi:i<L.length):(L.set i v).take (i+1)=L.take i++[v]:=by
 rw[List.take_add_one,List.getElem?_set_self hi,List.take_set_of_le (Nat.le_refl _)];rfl
theorem Hk {n i:Nat} (h:i≤n):bD n (some (.int .i64 (i:Nat))) none=some (i,n):=by
 have h1:(i:Int)≤(n:Int):=by omega
 simp[bD,fu,iG,h1,h]
theorem L4 {n i:Nat} (h:i≤n):bD n none (some (.int .i64 (i:Nat)))=some (0,i):=by
 have h1:(i:Int)≤(n:Int):=by omega
 simp[bD,fu,iG,h1,h]
theorem C4 {P:Pv} {t e:TypeId} {k au off n s i:Nat} (ht:P.bZ t=some (.slice e)) (hs:bR P e=some s) (hi:i≤n) (st:St):cZ P t (.win k au off n s) (some (.int .i64 (i:Nat))) none st=some (.win k au (off+i*s) (n-i) s):=by
 simp only[cZ,ht,hs,Option.bind_some,if_pos,Hk hi,Option.map_some]
theorem LU {N:Nat} {S st:St} {H:List aZ} {j k au off s n i:Nat} {es:List (List D)} (hH:Has N S st H) (hj:H[j]?=some (.aB (.win k au off n s) s es)) (hi:i≤es.length):Has N S st (H.set j (.aB (.win k au (off+0*s) (i-0) s) s (es.take i))):=by
 have hown:=hH.own hj
 cases hown with
 |win k au off es c hm hl hc he=>
  have hlen:(es.take i).length=i:=by rw[List.length_take];omega
  have h1:i*s≤es.length*s:=Nat.mul_le_mul_right s hi;have hk:=(hH.ok j _ hj).2 k (by simp only[aZ.aB,D.ref]);rw[Nat.zero_mul,Nat.add_zero,Nat.sub_zero];refine hH.vJ hj (fun _ _ _=>rfl) (Nat.le_refl _) rfl rfl ?_ (fun k' jy=>.inl ?_) fun k' jy=>?_
  ·have:=eU.win (st:=st) (s:=s) k au off (es.take i) c hm (by rw[hlen];omega) ?_ (fun e mN=>he e (List.mem_of_mem_take mN))
   ·rw[hlen] at this;exact this
   ·rw[hlen,←po he i hi,←hc,List.take_take,Nat.min_eq_left h1]
  ·simp only[aZ.aB,D.ref] at jy⊢;exact jy
  ·simp only[aZ.aB,D.ref] at jy;omega
theorem xz {P:Pv} {t e:TypeId} {k au off n s i:Nat} (ht:P.bZ t=some (.slice e)) (hs:bR P e=some s) (hi:i≤n) (st:St):cZ P t (.win k au off n s) none (some (.int .i64 (i:Nat))) st=some (.win k au (off+0*s) (i-0) s):=by
 simp only[cZ,ht,hs,Option.bind_some,if_pos,L4 hi,Option.map_some]
theorem D8 {N:Nat} {S s0:St} {H:List aZ} {x:D} {l:List Tr} {g:Nat} {p:Tr→Bool} (hH:Has N S s0 (.aB x 8 (l.map tC)::H)) (Cl:k_ l) (hl:l.length≤1048576) (hf:∀(st:St),∀t∈l,Ev pv g ([.agg (tC t)]++[]) st (.bool (p t)) st):
  ∃d ah,Ev pv 78 [x,.fn g []] s0 d ah∧(Has N S ah (.aB d 8 ((l.filter (fun t=>!p t)).map tC)::H)∨(d=.sl []∧l.filter (fun t=>!p t)=[]∧Has N S ah H)):=by
 have Rx:=fun st (h:V.Rows st 8 x (l.map tC))=>yI (g:=g) (fz:=[]) (p:=p) h hl (fun st2 _ t ht=>hf st2 t ht);refine Ev.jN rfl Sk rfl rfl rfl ?_;refine zE ?_;have bS:=hH;have hH:=hH.bG;have bO:(ag .rw s0).bs=s0.bs:=rfl;generalize ag .rw s0=S2 at*;refine zQ 4 ?_;obtain⟨d,aC,i0,rfl,hi0⟩:=Rx _ (hH.rows aG);refine zQ 4 ?_;refine qv aC ?_;refine zQ 8 ?_
 rcases hi0 with⟨rfl,hall⟩|⟨j0,rfl,WY,WS,t0,VB,QH⟩
 ·refine ai.cond (v:=true) (by dsimp only[Fr.ev,Fr.get,nth,V.look];rfl) (fun _=>?_) (fun h=>by cases h);refine zQ 5 ?_;have jc:l.filter (fun t=>!p t)=l:=List.filter_eq_self.2 (fun t ht=>by rw[hall t ht];rfl);rw[jc];have hown:=bS.own aG;have tT:=(bS.ok 0 _ rfl).2;generalize u9:l.map tC=es at*
  cases hown with
  |nul=>
   refine ai.ret ⟨rx,_,_,_,rfl,ak (rfl),?_⟩;refine .inr ⟨rfl,by simpa using u9,?_⟩;exact(bS.drop 1).nX bO (hH.drop 1) (fun i e hi=>⟨e,hi,fun k hk=>hk⟩)
  |win k au off es c hm hle gu he=>
   have hk:=tT k (by simp only[aZ.aB,D.ref]);refine ai.ret ⟨rx,_,_,_,rfl,ak ((show aJ _ s0.bs.length false 16 (D.win k au off es.length 8)=some (D.win k au off es.length 8) from by show(if k<s0.bs.length then some (D.win k au off es.length 8) else _)=_;rw[if_pos hk.2])),?_⟩;exact .inl (bS.sD bO hH)
 ·have hc:(((j0:Nat):Int)==-1)=false:=by simp
  refine qE rfl (by rw[hc]) ?_;refine zQ 1 ?_;obtain⟨k,au,off,KR⟩:=wc hH aG (by intro h;rw[List.map_eq_nil_iff] at h;subst h;simp at WY);rw[List.length_map] at KR;subst KR;refine zQ 4 ?_;refine ae.eN (z:=(((j0+1:Nat)):Int)) rfl (ev rfl) (ev rfl) (by(try simp only[List.length_reverse,List.length_cons,List.length_nil,List.length_append,List.length_map,List.length_set]);rw[wrap_i64 (by omega) (by omega)]<;>omega) (aa rfl _) ?_;refine zQ 3 ?_;refine ai.loop (fun mm fr st=>∃(i j:Nat) (L:List Tr),fr.clean=⟨8,[.win k au off l.length 8,.fn g [],sI fr 2,sI fr 3,sI fr 4,.int .i64 (i:Nat),.int .i64 (j:Nat),sI fr 7],[]⟩∧Has N S2 st (.aB (.win k au off l.length 8) 8 (L.map tC)::H)∧(l.length-j≤mm)∧(i<j)∧(j≤l.length)∧(L.length=l.length)∧(L.take i=(l.take j).filter (fun t=>!p t))∧(L.drop j=l.drop j)) (l.length) ?_ ?_
  ·refine⟨j0,j0+1,l,rfl,hH,by omega,by omega,by omega,rfl,?_,rfl⟩;rw[List.take_add_one,VB,List.filter_append,List.filter_eq_self.2 (fun t ht=>by rw[WS t ht];rfl)];simp[QH]
  rintro mm fr st ⟨i,j,L,hfr,hH,hi,hij,hjl,RX,On,Ux⟩;rw[hfr];clear hfr;generalize sI fr=ee;clear fr;refine zQ 5 ?_;refine qn ?_ (hR:=hH.rows aG);simp only[List.length_map];refine zQ 2 ?_;rw[RX];refine zP (fun h1=>?_) fun h1=>?_
  ·refine zQ 1 ?_
   obtain⟨v,hv⟩:∃v,l[j]?=some v:=⟨l[j]'(by omega),List.getElem?_eq_getElem _⟩
   have O7:=List.mem_of_getElem? hv
   have Vp:L[j]?=some v:=by
    have h2:=congrArg (·[0]?) Ux;simp only[List.getElem?_drop,Nat.add_zero] at h2;rw[h2,hv]
   have gr:=mH Vp;have KY:l.take (j+1)=l.take j++[v]:=by rw[List.take_add_one,hv];rfl
   have Cn:L.drop (j+1)=l.drop (j+1):=by
    have h2:=congrArg (List.drop 1) Ux
    simpa[List.drop_drop] using h2
   have hrz:=Kr (Cl v O7);refine zQ 6 ?_;refine qi hH aG fun MP Gg=>?_;refine ae.r_ hH rfl (ev rfl) (by assumption) (by exact aG) (by assumption) rfl (aa rfl _) ?_;refine qa hH fun k7 st Pj hH=>?_;refine ae.bC hH rfl (ev rfl) (ev rfl) (by rfl) (by exact rfl) (by exact aG) (by exact rfl) (by exact .inr (by assumption)) (fun st hH=>?_);dsimp only[u2,u1,u3,u4,setMany,u5,u6,D.cells,Nat.reduceAdd,tC,cg] at hH;refine zQ 1 ?_;have hH:Has N S2 st (.box k7 (.mem 0 false (tC v))::.aB (.win k au off l.length 8) 8 (L.map tC)::H):=hH;refine zQ 3 ?_;refine ae.aN (m:=8) (r:=tC v) hH rfl (ev rfl) aG rfl rfl rfl (aa rfl _) ?_;refine qv (hf _ v O7) ?_;refine zQ 2 ?_
   cases K7:p v with
   |true=>
    refine ai.cond (v:=false) (by dsimp only[Fr.ev,Fr.get,nth,V.look];rfl) (fun h=>by cases h) (fun _=>?_);refine zQ 1 ?_;have hH:=hH.drop 1;refine zQ 2 ?_;refine ae.eN (z:=((j+1:Nat):Int)) rfl (ev rfl) (ev rfl) (by(try simp only[List.length_reverse,List.length_cons,List.length_nil,List.length_append,List.length_map,List.length_set]);rw[wrap_i64 (by omega) (by omega)]<;>omega) (aa rfl _) ?_;refine zQ 2 ?_;exact⟨mm-1,by omega,⟨i,j+1,L,rfl,hH,by omega,by omega,by omega,RX,(by rw[KY,List.filter_append,←On];simp[K7]),Cn⟩⟩
   |false=>
    refine ai.cond (v:=true) (by dsimp only[Fr.ev,Fr.get,nth,V.look];rfl) (fun _=>?_) (fun h=>by cases h)
    obtain⟨u,hu⟩:∃u,L[i]?=some u:=⟨L[i]'(by omega),List.getElem?_eq_getElem _⟩
    have qK:=mH hu;refine zQ 4 ?_;refine ae.aN (m:=8) (r:=tC v) hH rfl (ev rfl) aG rfl rfl rfl (aa rfl _) ?_;refine qi hH aV fun U' QT=>?_;refine ae.mV hH rfl (ev rfl) (ev rfl) (by assumption) rfl rfl aV qK (by exact Nat.le_refl 8) (.inr hrz) (fun st hH=>?_);dsimp only[u1,u2] at hH;refine zQ 1 ?_;have hst:(L.map tC).set i (tC v)=(L.set i v).map tC:=by rw[List.map_set]
    have hH:Has N S2 st (.aB (.win k au off l.length 8) 8 ((L.set i v).map tC)::H):=by rw[←hst];exact hH.drop 1
    refine zQ 2 ?_;refine ae.eN (z:=((i+1:Nat):Int)) rfl (ev rfl) (ev rfl) (by(try simp only[List.length_reverse,List.length_cons,List.length_nil,List.length_append,List.length_map,List.length_set]);rw[wrap_i64 (by omega) (by omega)]<;>omega) (aa rfl _) ?_;refine zQ 4 ?_;refine ae.eN (z:=((j+1:Nat):Int)) rfl (ev rfl) (ev rfl) (by(try simp only[List.length_reverse,List.length_cons,List.length_nil,List.length_append,List.length_map,List.length_set]);rw[wrap_i64 (by omega) (by omega)]<;>omega) (aa rfl _) ?_;refine zQ 2 ?_;exact⟨mm-1,by omega,⟨i+1,j+1,L.set i v,rfl,hH,by omega,by omega,by omega,(by rw[List.length_set];exact RX),(by rw[E3 (by omega),On,KY,List.filter_append];simp[K7]),(by rw[List.drop_set_of_lt (by omega)];exact Cn)⟩⟩
  ·refine zQ 1 ?_;have Ln:j=l.length:=by omega
   rw[Ln,List.take_length] at On;have Vh:cI pv 108=some [.int .i64 0,.nul,.int .i64 0,.int .i64 0,.bool false,.int .i64 0,.int .i64 0,.nul]:=rfl;have hsz:bR pv 108=some 8:=rfl;have IU:pv.bZ 106=some (.slice 108):=rfl;obtain⟨UW,hcl,RY⟩:=Eb (i:=i) (n:=l.length) hH aG IU Vh rfl rfl (by omega);rw[←List.map_take,On] at RY;dsimp only[u2] at RY;refine zQ 4 ?_;refine ae.go (d:=.win k au (off+i*8) (l.length-i) 8) (st1:=_) rfl rfl (by exact congrArg (Option.map fun d=>(d,_)) (C4 IU hsz (by omega) _)) (aa rfl _) ?_;refine ae.N rfl rfl (d:=.tup []) (st1:=UW) (by exact hcl) ?_;refine zQ 1 ?_;have hH:=RY;have jc:(l.filter (fun t=>!p t)).length=i:=by rw[←On,List.length_take];omega
   have Co:=LU (i:=i) hH aG (by rw[List.length_append,List.length_map,List.length_replicate];omega);rw[List.take_append_of_le_length (by rw[List.length_map,jc];omega),List.take_of_length_le (by rw[List.length_map,jc];omega)] at Co;dsimp only[u2] at Co;have hk:=(bS.ok 0 _ rfl).2 k (by simp only[aZ.aB,D.ref]);refine zQ 4 ?_;refine ae.go (d:=.win k au (off+0*8) (i-0) 8) (st1:=_) rfl rfl (by exact congrArg (Option.map fun d=>(d,_)) (xz IU hsz (by omega) _)) (aa rfl _) ?_;refine zQ 2 ?_;refine ai.ret ⟨rx,_,_,_,rfl,ak ((show aJ _ s0.bs.length false 16 (D.win k au (off+0*8) (i-0) 8)=some (D.win k au (off+0*8) (i-0) 8) from by show(if k<s0.bs.length then some (D.win k au (off+0*8) (i-0) 8) else _)=_;rw[if_pos hk.2])),?_⟩;refine .inl (bS.nX bO Co (fun i e hi=>?_))
   cases i with
   |zero=>simp only[List.getElem?_cons_zero,Option.some.injEq] at hi;subst hi;exact⟨_,rfl,fun k hk=>hk⟩
   |succ i=>exact⟨e,hi,fun k hk=>hk⟩
theorem Mu {N:Nat} {S st:St} {H:List aZ} {j k au off s n:Nat} {es zA:List (List D)} (h:Has N S st H) (hj:H[j]?=some (.aB (.win k au off n s) s es)) (jV:zA.length=n) (hs:∀e∈zA,e.length=s) (hw:S.flr≤N∨refs zA.flatten=0):
  ∃ah,st.wr k au off zA.flatten=some ah∧Has N S ah (H.set j (.aB (.win k au off n s) s zA)):=by
 have tT:=(h.ok j _ hj).2;have hown:=h.own hj
 cases hown with
 |win k au off es c hm hle hc he=>
  have hk:=tT k (by simp only[aZ.aB,D.ref]);have pW:zA.flatten.length=es.length*s:=by rw[bo hs,jV]
  refine⟨_,jK hm (by omega) (eL h hk.1 hw),?_⟩;refine h.vJ hj (fun n hn hne=>?_) (by simp) rfl rfl ?_ (fun n hn=>.inl hn) fun n hn=>?_
  ·simp only;rw[List.getElem?_set_ne (fun e=>hne (by simp only[aZ.aB,D.ref];omega))]
  ·have:=eU.win (st:=⟨st.bs.set k (.mem au true (c.take off++zA.flatten++c.drop (off+zA.flatten.length))),st.flr,st.ro⟩) (s:=s) k au off zA (c.take off++zA.flatten++c.drop (off+zA.flatten.length))
    (by simp only;rw[List.getElem?_set_self hk.2]) (by rw[jV];simp;omega) ?_ hs
   ·rw[jV] at this;exact this
   ·rw[jV,List.append_assoc,List.drop_append_of_le_length (by simp;omega),List.drop_take,Nat.sub_self,List.take_zero,List.nil_append,←pW,List.take_left']
    rfl
  ·simp only[aZ.aB,D.ref] at hn;have:n=k:=by omega
   subst this;simp only[List.length_set];exact hk.2
def tN (l:List iJ) (i:Nat) (r:iJ):List iJ:=l.take i++r::l.drop i
def jL (l:List iJ) (key:List UInt8) (v:Int):List iJ:=
 if dh l key=true then l.set (bu l key) ⟨(l.map (·.k)).getD (bu l key) [],v⟩ else tN l (bu l key) ⟨key,v⟩
theorem xv (l:List iJ):∀e∈l.map de,e.length=2:=by
 intro e he;obtain⟨r,_,rfl⟩:=List.mem_map.1 he;rfl
theorem F9 (l:List iJ) (i:Nat) (hi:i≤l.length) (r:iJ):wD ((l.map de).flatten) (i*2) (de r)=((tN l i r).map de).flatten:=by
 have h1:(l.map de).flatten=((l.take i).map de).flatten++((l.drop i).map de).flatten:=by rw[←List.flatten_append,←List.map_append,List.take_append_drop]
 have h2:((l.take i).map de).flatten.length=i*2:=by rw[bo (xv _),List.length_map,List.length_take,Nat.min_eq_left hi]
 unfold wD tN;rw[h1,List.take_left' h2,List.drop_left' h2,List.map_append,List.flatten_append,List.map_cons,List.flatten_cons]
theorem Kq {N:Nat} {S st:St} {H:List aZ} {j:Nat} {x:D} {l:List iJ} (h:Has N S st H) (hj:H[j]?=some (.aB x 2 (l.map de))) (hl:l.length<1000000):oE st x=some l:=by
 have hown:=h.own hj;have hr:=xQ l;have nc:(l.map de).length=l.length:=List.length_map _;generalize u9:l.map de=es at*
 cases hown with
 |nul=>
  cases l with
  |nil=>rfl
  |cons a b=>cases u9
 |win k au off es c hm hle hc he=>
  unfold oE;simp only[St.mem_of hm];rw[if_pos ⟨hle,by omega⟩,hc];exact hr
theorem EH {N k : Nat} {S st : St} {H : List aZ} {x : D} {l : List iJ} {key : List UInt8} {v : Int} (h : Has N S st (.box k (.mem 0 false [x]) :: .aB x 2 (l.map de) :: H)) (hF : S.flr ≤ N) (hl : l.length < 999999) :
  ∃ ah x', uh [.ptr k 0 0, .str key, .int .i64 v] st = some (.bool (!dh l key), ah) ∧ Has N S ah (.box k (.mem 0 false [x']) :: .aB x' 2 ((jL l key v).map de) :: H) := by
 have hm := St.mem_of (h.at aG);have Qs := Kq h aV (by omega)
 have Wu : Mf k x ≠ k := by
  cases x with
  | win kl vl ol ln s =>
   intro he;exact h.dis 0 1 _ _ (by decide) rfl rfl k rfl (by simp only [aZ.aB, D.ref]; exact congrArg (· + 1) he)
  | _ => show k + 1 ≠ k; omega
 have Rw := y5 l key
 have hP : uh [.ptr k 0 0, .str key, .int .i64 v] st = rF k 0 0 key v st x l := by
  show (match st.bW k 0 with | some (_, ct) => _ | none => none) = _;rw [hm];show (match oE st x with | some l => rF k 0 0 key v st x l | none => none) = _;rw [Qs]
 rw [hP];unfold rF;rw [if_neg Wu]
 cases ht : dh l key with
 | true =>
  have hil : bu l key < l.length := by
   unfold dh at ht;rw [Bool.and_eq_true, decide_eq_true_eq] at ht;exact ht.1
  obtain ⟨r, hr⟩ : ∃ r, l[bu l key]? = some r := ⟨l[bu l key]'hil, List.getElem?_eq_getElem _⟩
  have Pn : (l.map (·.k)).getD (bu l key) [] = r.k := by rw [List.getD_eq_getElem?_getD, List.getElem?_map, hr]; rfl
  obtain ⟨kl, vl, ol, KR⟩ := wc h aV (by intro h; rw [List.map_eq_nil_iff] at h; subst h; simp at hil);subst KR;obtain ⟨ah, h1, h2⟩ := h.vO (i := bu l key) (o := 1) (e := de r) (cs := [.int .i64 v]) aV (by rw [List.getElem?_map, hr]; rfl) (Nat.le_refl 2) (.inl hF);refine ⟨ah, .win kl vl ol (l.map de).length 2, ?_, ?_⟩
  ·rw [if_pos rfl];show (st.wr kl vl (ol + bu l key * 2 + 1) [.int .i64 v]).map _ = _;rw [h1]; rfl
  ·have wH : jL l key v = l.set (bu l key) ⟨r.k, v⟩ := by unfold jL; rw [if_pos ht, Pn]
   rw [wH, List.map_set];exact h2
 | false =>
  rw [if_neg (by simp)];have wH : jL l key v = tN l (bu l key) ⟨key, v⟩ := by unfold jL; rw [if_neg (by rw [ht]; simp)]
  rw [wH];have hp := h.nK (s := 2) (es := [[D.str key, D.int .i64 v]]) (cs := [D.str key, D.int .i64 v]) (m := 1) rfl rfl (by intro e he; rw [List.mem_singleton.1 he]; rfl);obtain ⟨x', st1, h1, h2, _⟩ := hp.append (P := eQ) (j := 2) (t1 := 119) (t2 := 119) (y := .win st.bs.length 0 0 1 2) rfl (hp.rows aG) rfl rfl rfl rfl rfl rfl rfl ⟨by decide, by decide⟩ (by simp only [List.length_map, List.length_cons, List.length_nil]; omega) (.inl hF);have Kf : cX eQ [119, 119] x (.win st.bs.length 0 0 1 2) (st.push (.mem 0 true [.str key, .int .i64 v])) = some (x', st1) := h1;rw [Kf];have h3 : Has N S st1 (.box k (.mem 0 false [x]) :: .aB x' 2 (l.map de ++ [[D.str key, D.int .i64 v]]) :: H) := h2.drop 1
  have hput : ∃ st2, vY x' (bu l key) l.length ((l.map de).flatten) [.str key, .int .i64 v] st1 = some st2 ∧ Has N S st2 (.box k (.mem 0 false [x]) :: .aB x' 2 ((tN l (bu l key) ⟨key, v⟩).map de) :: H) := by
   unfold vY
   by_cases hlt : bu l key < l.length
   ·rw [if_pos hlt];obtain ⟨kl, vl, ol, KR⟩ := wc h3 aV (by simp);have HE : (l.map de ++ [[D.str key, D.int .i64 v]]).length = l.length + 1 := by simp
    rw [HE] at KR;subst KR;obtain ⟨st2, h4, h5⟩ := Mu (zA := (tN l (bu l key) ⟨key, v⟩).map de) h3 aV (by unfold tN; simp; omega) (xv _) (.inl hF);rw [← F9 l _ Rw] at h4;exact ⟨st2, h4, h5⟩
   ·rw [if_neg hlt];have he : bu l key = l.length := by omega
    refine ⟨st1, rfl, ?_⟩;have hi : tN l (bu l key) ⟨key, v⟩ = l ++ [⟨key, v⟩] := by rw [he]; unfold tN; rw [List.take_length, List.drop_length]
    rw [hi, List.map_append];exact h3
  obtain ⟨st2, h4, h5⟩ := hput;dsimp only;rw [h4];dsimp only;have hb := h5.at aG;have hk := (h5.ok 0 _ rfl).2 k rfl;have hw : st2.wr k 0 0 [x'] = some { st2 with bs := st2.bs.set k (.mem 0 false ([x].take 0 ++ [x'] ++ [x].drop (0 + [x'].length))) } := jK hb (Nat.le_refl 1) (eL h5 hk.1 (.inl hF));rw [hw];exact ⟨_, x', rfl, h5.zY (au := 0) aG⟩
def wB (fr:Go.V.Fr) (k:Nat):Go.V.D:=Go.V.nth .bf fr.loc k
def MB (op:Int) (F:List Tr):bp:=match F with
 |[]=>HC 1
 |[t]=>t.n
 |_=>HC op
def MC (x:D) (F:List Tr):D:=match F with
 |[]=>dL []
 |[t]=>dL t.ks
 |_=>x
theorem xn (op:Int) (x:D) (F:List Tr):zB op x F=cg (MB op F) (MC x F):=by
 rcases F with _|⟨t,_|⟨u,r⟩⟩<;>rfl
theorem ue {st:St} {N:Nat} {op:Int} {x:D} {F:List Tr} (hf:k_ F) (hx:aJ st N false 15 x=some (dL F)):aJ st N false 16 (.agg (cg (MB op F) (MC x F)))=some (.agg (tC (gE op F))):=by
 rcases F with _|⟨t,_|⟨u,r⟩⟩
 ·rfl
 ·exact hY (hf t (List.mem_singleton.2 rfl)) _ _ _
 ·show(ec (aJ st N false 15) (cg (HC op) x)).map D.agg=_
  have h8:tC (gE op (t::u::r))=cg (HC op) (dL (t::u::r)):=by
   show tC (CU op _)=_;unfold tC CU;simp only[Tr.n,Tr.ks,mF]
  rw[h8];simp only[cg,ec,hx]
  rfl
theorem JC {s0:St} {t:Tr}:Ev pv 79 [.agg (tC t)] s0 (.bool (t.n.op==1)) s0:=by
 refine Ev.iZ rfl Sj rfl rfl rfl ?_;refine zE ?_;obtain⟨aU,hF,hH⟩:=ri s0;generalize ag .ro s0=S at*;refine zQ 2 ?_;refine qb hH fun k1 st lG hH=>?_;dsimp only[u2,u1,u3,u4,setMany,u5,u6,D.cells,Nat.reduceAdd,tC,cg] at hH;refine zQ 10 ?_;refine ai.ret ⟨rx,_,rfl,rl aU hH (rfl)⟩
theorem JB {s0:St} {n:bp} {x:D} {l:List Tr} (tR:V.Rows s0 8 x (l.map tC)) (tS:k_ l) (hcl:b8 l≤1048575):Ev pv 66 [.agg (cg n x)] s0 (.agg (tC (gE 3 ((bj 3 l).filter fun t=>t.n.op !=1)))) s0:=by
 have hsf:k_ (bj 3 l):=ki tS;have VI:=gF 3 l;have kW:=cT (bj 3 l);have nv:k_ ((bj 3 l).filter fun t=>!(t.n.op==1)):=fun k hk=>hsf k (List.mem_filter.1 hk).1;have jc:=List.length_filter_le (fun t:Tr=>!(t.n.op==1)) (bj 3 l);show Ev pv _ _ _ (.agg (tC (gE 3 ((bj 3 l).filter fun t=>!(t.n.op==1))))) _;refine Ev.iZ rfl Sw rfl rfl rfl ?_;refine zE ?_;obtain⟨aU,hF,hH⟩:=ri s0;generalize ag .ro s0=S at*;have mq:=Arg.of tR aU;refine zQ 2 ?_;refine qb hH fun k1 st lG hH=>?_;dsimp only[u2,u1,u3,u4,setMany,u5,u6,D.cells,Nat.reduceAdd,tC,cg] at hH;refine qa hH fun k2 st hk2 hH=>?_;refine zQ 1 ?_;have hH:Has s0.bs.length S st (.box k2 (.mem 0 false tz)::.box k1 (.mem 0 false (cg n x))::[]):=hH;obtain⟨d1,st1,Lr,Jc,Q1⟩:=ur (op:=3) hF tS (by omega) mq hH;refine zQ 4 ?_;refine ae.cu rfl rfl Lr (aa rfl _) ?_;refine zQ 2 ?_;have hH:=Jc;obtain⟨d2,st2,RE,wW⟩:=D8 (g:=79) (p:=fun t=>t.n.op==1) hH hsf (by omega) (fun st t ht=>JC);refine zQ 3 ?_;refine ae.cu rfl rfl RE (aa rfl _) ?_;refine zQ 2 ?_
 have iP:∃(H2:List aZ) (j2:Nat),Has s0.bs.length S st2 H2∧H2[j2]?=some (.box k2 (.mem 0 false tz))∧V.Rows st2 8 d2 (((bj 3 l).filter fun t=>!(t.n.op==1)).map tC)∧(∀ah H3,Has s0.bs.length S ah H3→(∀j e,j≠j2→H2[j]?=some e→H3[j]?=some e)→aJ ah s0.bs.length false 15 d2=some (dL ((bj 3 l).filter fun t=>!(t.n.op==1)))):=by
  rcases wW with hH|⟨rfl,LI,hH⟩
  ·refine⟨_,1,hH,rfl,hH.rows aG,fun ah H3 h3 h4=>?_⟩;rw[m_];exact h3.freeze (h4 0 _ (by decide) rfl) (lV nv) (n:=14) (by decide)
  ·rw[LI];exact⟨_,0,hH,rfl,eJ _ (l:=[]) (fun k hk=>by cases hk),fun ah H3 h3 h4=>rfl⟩
 obtain⟨H2,j2,hH,Pl,Ga,hfz⟩:=iP;generalize((bj 3 l).filter fun t=>!(t.n.op==1))=F at*;have IU:=xr (op:=3) Ga (by omega) nv;rw[xn] at IU;refine zQ 3 ?_;refine ae.cu rfl rfl IU (aa rfl _) ?_;refine ae.bC hH rfl (ev rfl) (ev rfl) rfl (by exact rfl) Pl (by exact rfl) (.inl hF) (fun st hH=>?_);refine zQ 1 ?_;have hb2:(H2.set j2 (aZ.box k2 (.mem 0 false (cg (MB 3 F) (MC d2 F)))))[j2]?=some (aZ.box k2 (.mem 0 false (cg (MB 3 F) (MC d2 F)))):=List.getElem?_set_self (List.getElem?_eq_some_iff.1 Pl).1;have hz:=ue (op:=3) nv (hfz st _ hH (fun j e hj he=>by rw[List.getElem?_set_ne (fun h=>hj h.symm)];exact he));exact ai.ret ⟨rx,_,hH.ck rfl hb2 rfl,rl aU hH hz⟩
theorem JK {s0:St} {n:bp} {x:D} {l:List Tr} (tR:V.Rows s0 8 x (l.map tC)) (tS:k_ l) (hcl:b8 l≤1048575):Ev pv 67 [.agg (cg n x)] s0 (.agg (tC (gE 4 (jH (bj 4 l).length (bj 4 l))))) s0:=by
 have hsf:k_ (bj 4 l):=ki tS;have VI:=gF 4 l;refine Ev.iZ rfl Sv rfl rfl rfl ?_;refine zE ?_;obtain⟨aU,hF,hH⟩:=ri s0;generalize ag .ro s0=S at*;have mq:=Arg.of tR aU;refine zQ 2 ?_;refine qb hH fun k1 st lG hH=>?_;dsimp only[u2,u1,u3,u4,setMany,u5,u6,D.cells,Nat.reduceAdd,tC,cg] at hH;refine qa hH fun k2 st hk2 hH=>?_;refine zQ 1 ?_;have hH:Has s0.bs.length S st (.box k2 (.mem 0 false tz)::.box k1 (.mem 0 false (cg n x))::[]):=hH;obtain⟨d1,st1,Lr,Jc,Q1⟩:=ur (op:=4) hF tS (by omega) mq hH;refine zQ 4 ?_;refine ae.cu rfl rfl Lr (aa rfl _) ?_;refine zQ 2 ?_;have hH:=Jc.take 2;generalize bj 4 l=F0 at*;refine zQ 1 ?_;refine ai.loop (fun mm fr st=>∃(f:Nat) (y:D) (F:List Tr),fr.clean=⟨5,[wB fr 0,wB fr 1,.ptr k2 0 0,y,wB fr 4],[]⟩∧Has s0.bs.length S st (.aB d1 8 (F0.map tC)::.box k2 (.mem 0 false tz)::[])∧(F.length≤mm)∧(k_ F)∧(b8 F≤b8 F0)∧((y=d1∧F=F0)∨y=dL F)∧(jH f F=jH F0.length F0)∧(F.length≤f)) (F0.length) ?_ ?_
 ·exact⟨F0.length,d1,F0,rfl,hH,Nat.le_refl _,hsf,Nat.le_refl _,.inl ⟨rfl,rfl⟩,rfl,Nat.le_refl _⟩
 rintro mm fr st ⟨f,y,F,hfr,hH,YC,nv,YD,hy,hal,YE⟩;rw[hfr];clear hfr;generalize wB fr=ee;clear fr
 have Ga:V.Rows st 8 y (F.map tC):=by
  rcases hy with⟨rfl,rfl⟩|rfl
  ·exact hH.rows aG
  ·exact eJ st nv
 have YP:=cT F;have NH:k_ (cY F):=nN nv;have Wg:=rZ F;have Uk:k_ (cx (cY F)):=kz NH;have YB:=sF (cY F);have tU:=CV F;have ho:=Im Ga nv (by omega);have hj:=AB (eJ st NH) NH (by omega);have zy:=eJ st Uk;refine zQ 4 ?_;refine ae.cu rfl rfl ho (aa rfl _) ?_;refine ae.cu rfl rfl hj (aa rfl _) ?_;refine zQ 6 ?_;refine ae.iA rfl (ev rfl) zy rfl (aa rfl _) ?_;refine qm ?_;refine ae.iA rfl (ev rfl) Ga rfl (aa rfl _) ?_;refine zQ 2 ?_;rw[List.length_map,List.length_map]
 by_cases hlen:(cx (cY F)).length=F.length
 ·have hc:((((cx (cY F)).length:Nat):Int)==((F.length:Nat):Int))=true:=by rw[hlen];simp
  have XG:jH f F=F:=by
   cases f with
   |zero=>rfl
   |succ f=>rw[jH,if_pos hlen]
  rw[←hal,XG];refine qD rfl (by rw[hc]) ?_;have IU:=xr (op:=4) Ga (by omega) nv;rw[xn] at IU;refine zQ 3 ?_;refine ae.cu rfl rfl IU (aa rfl _) ?_;refine ae.bC hH rfl (ev rfl) (ev rfl) rfl (by exact rfl) aV (by exact rfl) (.inl hF) (fun st hH=>?_);dsimp only[u1,u2] at hH;refine zQ 1 ?_;have hH:Has s0.bs.length S st (.aB d1 8 (F0.map tC)::.box k2 (.mem 0 false (cg (MB 4 F) (MC y F)))::[]):=hH
  have O5:aJ st s0.bs.length false 15 y=some (dL F):=by
   rcases hy with⟨rfl,rfl⟩|rfl
   ·rw[m_];exact hH.freeze aG (lV nv) (n:=14) (by decide)
   ·rfl
  exact ai.ret ⟨rx,_,hH.ck rfl aV rfl,rl aU hH (ue nv O5)⟩
 ·have hc:((((cx (cY F)).length:Nat):Int)==((F.length:Nat):Int))=false:=by simp;omega
  obtain⟨f',rfl⟩:∃f',f=f'+1:=⟨f-1,by omega⟩
  rw[jH,if_neg hlen] at hal;refine qE rfl (by rw[hc]) ?_;refine zQ 5 ?_;exact⟨mm-1,by omega,⟨f',dL (cx (cY F)),cx (cY F),rfl,hH,by omega,Uk,by omega,.inr rfl,hal,by omega⟩⟩
def AJ (fr:Go.V.Fr) (k:Nat):Go.V.D:=Go.V.nth .bf fr.loc k
def Me (n:bp):bp:={n with lz:=n.lz &&n.mn !=n.mx}
def Kz (n:bp) (k:Tr) (l:List Tr):Tr:=
 if k.n.op=1 then k
 else if n.mn=1∧n.mx=1 then k
 else if n.mx=0∧k.sR=false then CU 1 []
 else if(iH n &&(iH k.n &&B' k.ks))=true then .mk {k.n with mn:=k.n.mn*n.mn} (dZ k.ks)
 else .mk n (dZ l)
theorem MI (n:bp) (k:Tr) (l:List Tr):xP n k l=Kz (Me n) k l:=rfl
theorem KM (n:bp) (l:List Tr):tC (.mk n (dZ l))=cg n (dL l):=by unfold tC;simp only[Tr.n,Tr.ks,mF]
theorem KL (a b:Int) (ha:0≤a∧a≤1) (hb:0≤b∧b≤1) (st:St):(gW pv .mul 3 (.int .i64 a) (.int .i64 b)).map (fun d=>(d,st))=some (.int .i64 (a*b),st):=by
 have h1:a*b=0∨a*b=1:=by
  rcases(show a=0∨a=1 by omega) with rfl|rfl
  ·simp
  ·rw[Int.one_mul];omega
 show some (D.int .i64 (aW .i64 (a*b)),st)=_;rw[wrap_i64 (by omega) (by omega)]
theorem rk {n:bp} (h:iH n=true):n.op=5∧n.mn≤1:=by
 unfold iH at h;simp only[Bool.and_eq_true,beq_iff_eq,decide_eq_true_eq] at h;exact⟨h.1.1.1,h.2⟩
def H6 (n:bp) (x:D) (k:Tr):List D:=
 if k.n.op=1 then tC k
 else if n.mn=1∧n.mx=1 then tC k
 else if n.mx=0∧k.sR=false then tC (CU 1 [])
 else if(iH n &&(iH k.n &&B' k.ks))=true then cg {k.n with mn:=k.n.mn*n.mn} (dL k.ks)
 else cg n x
theorem C8 {n:bp} {x:D} {k:Tr} {l:List Tr} (hn:n.rd=aQ n.rs) (hk:k.fa nA):∃n' y,H6 n x k=cg n' y∧∀st N,aJ st N false 15 x=some (dL l)→aJ st N false 16 (.agg (cg n' y))=some (.agg (tC (Kz n k l))):=by
 have Q9:=(Tr.ez.1 hk).1.1;unfold H6 Kz
 split
 ·exact⟨k.n,dL k.ks,rfl,fun st N _=>hY hk _ _ _⟩
 split
 ·exact⟨k.n,dL k.ks,rfl,fun st N _=>hY hk _ _ _⟩
 split
 ·exact⟨HC 1,dL [],rfl,fun st N _=>rfl⟩
 split
 ·refine⟨_,_,rfl,fun st N _=>?_⟩;rw[KM];unfold cg;dsimp only;rw[Q9];rfl
 ·refine⟨_,_,rfl,fun st N h=>?_⟩;rw[KM];show(ec (aJ st N false 15) (cg n x)).map D.agg=_;unfold cg;simp only[ec,h,hn]
  rfl
theorem Ab {s0:St} {n0:bp} {x:D} {k:Tr} {l0:List Tr} (tR:V.Rows s0 8 x ((k::l0).map tC)) (Wk:n0.rd=aQ n0.rs) (tS:k_ (k::l0)) (hcl:b8 (k::l0)≤1048575) (h5:0≤n0.mn) (HG:k.n.op=5→k.ks≠[]∧0≤k.n.mn):Ev pv 68 [.agg (cg n0 x)] s0 (.agg (H6 (Me n0) x k)) s0:=by
 have RB:=pH tR (Nat.le_refl _) (by simp);have NR:k∈k::l0:=List.mem_cons_self ..;have Gr:=tS k NR;have Ww:=fy NR;have gr:((k::l0).map tC)[0]?=some (tC k):=rfl;have zy:=fun st=>ve _ k (Nat.le_refl _) (by omega) Gr st
 obtain⟨n,hn⟩:∃n,n=Me n0:=⟨_,rfl⟩
 have Q2:n.rd=aQ n.rs:=by rw[hn];exact Wk
 have Wj:0≤n.mn:=by rw[hn];exact h5
 rw[←hn];refine Ev.iZ rfl Su rfl rfl rfl ?_;refine zE ?_;obtain⟨aU,hF,hH⟩:=ri s0;generalize ag .ro s0=S at*;have mq:=Arg.of tR aU;refine zQ 2 ?_;refine qb hH fun k1 st lG hH=>?_;dsimp only[u2,u1,u3,u4,setMany,u5,u6,D.cells,Nat.reduceAdd,tC,cg,aH] at hH;refine qa hH fun k2 st hk2 hH=>?_;refine zQ 2 ?_;refine ai.merge (fun fr st=>∃(tmp:List (Nat×D)),fr=⟨4,[AJ fr 0,.ptr k1 0 0,.ptr k2 0 0,AJ fr 3],tmp⟩∧Has s0.bs.length S st (.box k2 (.mem 0 false tz)::.box k1 (.mem 0 false (cg n x))::[])∧(True)) ?_ ?_
 ·cases Ph:n0.lz with
  |true=>
   have dM:n0.lz=true:=Ph;refine zQ 15 ?_;refine qT hH aV fun st hH=>?_;dsimp only[u2,u1,u3,u4,setMany,u5,u6,D.cells,Nat.reduceAdd,tC,cg,aH] at hH;refine zQ 1 ?_
   have iR:cg n x=[.int .i64 n0.op,n0.rd,.int .i64 n0.mn,.int .i64 n0.mx,.bool (n0.mn !=n0.mx),.int .i64 n0.cap,.int .i64 n0.kids,x]:=by
    rw[hn];unfold cg Me;dsimp only;rw[Ph];rfl
   exact⟨_,rfl,(by rw[iR];exact hH),trivial⟩
  |false=>
   have dM:n0.lz=false:=Ph;refine zQ 15 ?_;refine qT hH aV fun st hH=>?_;dsimp only[u2,u1,u3,u4,setMany,u5,u6,D.cells,Nat.reduceAdd,tC,cg,aH] at hH;refine zQ 1 ?_
   have iR:cg n x=[.int .i64 n0.op,n0.rd,.int .i64 n0.mn,.int .i64 n0.mx,.bool false,.int .i64 n0.cap,.int .i64 n0.kids,x]:=by
    rw[hn];unfold cg Me;dsimp only;rw[Ph];rfl
   exact⟨_,rfl,(by rw[iR];exact hH),trivial⟩
 rintro fr st ⟨tmp,hfr,hH,ht⟩;rw[hfr];clear hfr;generalize AJ fr=ee;clear fr;have Gk:=fun st=>BR (s0:=st) (n:=n);have Gj:=fun st=>BR (s0:=st) (n:=k.n)
 have Lq:∀(st:St),aJ st s0.bs.length false 16 (.agg (cg n x))=some (.agg (cg n x)):=fun st=>by
  show(ec (aJ st s0.bs.length false 15) (cg n x)).map D.agg=_;unfold cg;simp only[ec,RB st 14,Q2]
  rfl
 refine zQ 4 ?_;refine qr fun MR Gi=>?_;refine ae.cA rfl (ev rfl) (by assumption) rfl (aa rfl _) ?_;refine qa hH fun k3 st DQ hH=>?_;dsimp only[u2,u1,u3,u4,setMany,u5,u6,D.cells,Nat.reduceAdd,tC,cg,aH] at hH;refine qS hH aG fun st hH=>?_;dsimp only[u2,u1,u3,u4,setMany,u5,u6,D.cells,Nat.reduceAdd,tC,cg,aH] at hH;refine zQ 1 ?_;have hH:Has s0.bs.length S st (.box k3 (.mem 0 false (tC k))::.box k2 (.mem 0 false tz)::.box k1 (.mem 0 false (cg n x))::[]):=hH;unfold H6;refine zQ 10 ?_
 by_cases h1:k.n.op=1
 ·have hc:(k.n.op==1)=true:=by simpa using h1
  rw[if_pos h1];refine qD rfl (by rw[hc]) ?_;refine zQ 2 ?_;refine ae.aN (m:=8) (r:=tC k) hH rfl (ev rfl) aG rfl rfl rfl (aa rfl _) ?_;refine ae.bC hH rfl (ev rfl) (ev rfl) rfl (by exact rfl) aV (by exact rfl) (.inl hF) (fun st hH=>?_);dsimp only[u1,u2] at hH;refine zQ 1 ?_;exact ai.ret ⟨rx,_,hH.ck rfl aV rfl,rl aU hH (hY Gr _ _ _)⟩
 have hc:(k.n.op==1)=false:=by simpa using h1
 rw[if_neg h1];refine qE rfl (by rw[hc]) ?_;refine qq<|ai.mC 28 (.bool (n.mn==1 &&n.mx==1)) [] ?_ (fun ff tmp fv=>?_)
 ·refine zQ 5 ?_;refine ae.two 33 rfl (fun tV=>?_) (fun tV=>?_)
  ·refine zQ 6 ?_;refine ae.nil (c_ ?_ ?_)
   ·dsimp only[bk,List.foldl,nth,u2,u1]
    all_goals(first|rfl|simp)
   ·refine zF ?_
    all_goals(simp[tV];done)
  ·refine zQ 6 ?_;refine ae.nil (c_ ?_ ?_)
   ·dsimp only[bk,List.foldl,nth,u2,u1]
    all_goals(first|rfl|simp)
   ·refine zF ?_
    all_goals(simp[tV];done)
 dsimp only[bk,List.foldl,nth,u2,u1]
 by_cases h2:n.mn=1∧n.mx=1
 ·have ny:(n.mn==1 &&n.mx==1)=true:=by rw[Bool.and_eq_true,beq_iff_eq,beq_iff_eq];exact h2
  rw[if_pos h2];rw[ny] at fv;refine zQ 3 ?_;refine ae.aN (m:=8) (r:=tC k) hH rfl (ev rfl) aG rfl rfl rfl (aa rfl _) ?_;refine ae.bC hH rfl (ev rfl) (ev rfl) rfl (by exact rfl) aV (by exact rfl) (.inl hF) (fun st hH=>?_);dsimp only[u1,u2] at hH;refine zQ 1 ?_;exact ai.ret ⟨rx,_,hH.ck rfl aV rfl,rl aU hH (hY Gr _ _ _)⟩
 have ny:(n.mn==1 &&n.mx==1)=false:=by
  rw[Bool.eq_false_iff];intro h;rw[Bool.and_eq_true,beq_iff_eq,beq_iff_eq] at h;exact h2 h
 rw[if_neg h2];rw[ny] at fv;refine qC ?_;clear fv;refine qq<|ai.mC 40 (.bool (n.mx==0 &&!k.sR)) [] ?_ (fun ff tmp fv=>?_)
 ·refine zQ 5 ?_;refine ae.two 45 rfl (fun tV=>?_) (fun tV=>?_)
  ·refine ae.aN (m:=8) hH (aj rfl rfl rfl tV) (ev rfl) (by exact aG) (by dsimp only[List.drop_succ_cons,List.drop_zero,List.take_succ_cons,List.take_zero,tC,cg,aH]<;>rfl) rfl rfl (aa rfl _) ?_;refine qv ((zy _)) ?_ (hg:=wi tV);refine zQ 3 ?_;refine ae.nil (c_ ?_ ?_)
   ·dsimp only[bk,List.foldl,nth,u2,u1]
    all_goals(first|rfl|simp)
   ·refine zF ?_
    all_goals(simp[tV];done)
  ·refine zQ 5 ?_;refine ae.nil (c_ ?_ ?_)
   ·dsimp only[bk,List.foldl,nth,u2,u1]
    all_goals(first|rfl|simp)
   ·refine zF ?_
    all_goals(simp[tV];done)
 dsimp only[bk,List.foldl,nth,u2,u1]
 by_cases h3:n.mx=0∧k.sR=false
 ·have N_:(n.mx==0 &&!k.sR)=true:=by rw[Bool.and_eq_true,beq_iff_eq,h3.2];exact⟨h3.1,rfl⟩
  rw[if_pos h3];rw[N_] at fv;refine zQ 3 ?_;refine ae.go (d:=.agg [.int .i64 1,.nul,.int .i64 0,.int .i64 0,.bool false,.int .i64 0,.int .i64 0]) (st1:=_) rfl rfl rfl (aa rfl _) ?_;refine ae.go (d:=.agg [.int .i64 1,.nul,.int .i64 0,.int .i64 0,.bool false,.int .i64 0,.int .i64 0,.nul]) (st1:=_) rfl rfl rfl (aa rfl _) ?_;refine ae.bC hH rfl (ev rfl) (ev rfl) rfl (by exact rfl) aV (by exact rfl) (.inl hF) (fun st hH=>?_);dsimp only[u1,u2] at hH;refine zQ 1 ?_;exact ai.ret ⟨rx,_,hH.ck rfl aV rfl,rl aU hH rfl⟩
 have N_:(n.mx==0 &&!k.sR)=false:=by
  rw[Bool.eq_false_iff];intro h;rw[Bool.and_eq_true,beq_iff_eq] at h;exact h3 ⟨h.1,by simpa using h.2⟩
 rw[if_neg h3];rw[N_] at fv;refine qC ?_;clear fv
 cases h4:iH n with
 |false=>
  rw[Bool.false_and,if_neg (by simp)];have dM:iH n=false:=h4;have dx:false=false:=rfl;refine qq<|ai.mC 52 (.bool false) [] ?_ (fun ff tmp fv=>?_)
  ·refine zQ 1 ?_;refine ae.aN (m:=7) hH rfl (ev rfl) (by exact bE) (by dsimp only[List.drop_succ_cons,List.drop_zero,List.take_succ_cons,List.take_zero,tC,cg,aH]<;>rfl) rfl rfl (aa rfl _) ?_;refine qv ((Gk _)) ?_;refine zQ 15 ?_;refine ae.nil (c_ ?_ ?_)
   ·dsimp only[bk,List.foldl,nth,u2,u1]
    all_goals(first|rfl|simp)
   ·exact zS
    all_goals(first|rfl|(simp[dM,dx];done)|(simp_all;done)|(simp[dM,dx];omega)|(simp_all;omega))
  dsimp only[bk,List.foldl,nth,u2,u1];refine zQ 4 ?_;refine ae.aN (m:=8) (r:=cg n x) hH rfl (ev rfl) bE rfl rfl rfl (aa rfl _) ?_;refine ae.bC hH rfl (ev rfl) (ev rfl) rfl (by exact rfl) aV (by exact rfl) (.inl hF) (fun st hH=>?_);dsimp only[u1,u2] at hH;refine zQ 1 ?_;exact ai.ret ⟨rx,_,hH.ck rfl aV rfl,rl aU hH (Lq _)⟩
 |true=>
  rw[Bool.true_and];have dM:iH n=true:=h4
  cases Oq:iH k.n with
  |false=>
   rw[Bool.false_and,if_neg (by simp)];have dx:iH k.n=false:=Oq;refine qq<|ai.mC 52 (.bool false) [] ?_ (fun ff tmp fv=>?_)
   ·refine zQ 1 ?_;refine ae.aN (m:=7) hH rfl (ev rfl) (by exact bE) (by dsimp only[List.drop_succ_cons,List.drop_zero,List.take_succ_cons,List.take_zero,tC,cg,aH]<;>rfl) rfl rfl (aa rfl _) ?_;refine qv ((Gk _)) ?_;refine zQ 2 ?_;refine ae.aN (m:=7) hH (aj rfl rfl rfl dM) (ev rfl) (by exact aG) (by dsimp only[List.drop_succ_cons,List.drop_zero,List.take_succ_cons,List.take_zero,tC,cg,aH]<;>rfl) rfl rfl (aa rfl _) ?_;refine qv ((Gj _)) ?_ (hg:=wi dM);refine zQ 11 ?_;refine ae.nil (c_ ?_ ?_)
    ·dsimp only[bk,List.foldl,nth,u2,u1]
     all_goals(first|rfl|simp)
    ·exact zS
     all_goals(first|rfl|(simp[dM,dx];done)|(simp_all;done)|(simp[dM,dx];omega)|(simp_all;omega))
   dsimp only[bk,List.foldl,nth,u2,u1];refine zQ 4 ?_;refine ae.aN (m:=8) (r:=cg n x) hH rfl (ev rfl) bE rfl rfl rfl (aa rfl _) ?_;refine ae.bC hH rfl (ev rfl) (ev rfl) rfl (by exact rfl) aV (by exact rfl) (.inl hF) (fun st hH=>?_);dsimp only[u1,u2] at hH;refine zQ 1 ?_;exact ai.ret ⟨rx,_,hH.ck rfl aV rfl,rl aU hH (Lq _)⟩
  |true=>
   rw[Bool.true_and];have dx:iH k.n=true:=Oq;obtain⟨zx,tF⟩:=rk Oq;obtain⟨Q_,Ra⟩:=HG zx
   obtain⟨kk,kl,hkk⟩:∃kk kl,k.ks=kk::kl:=by
    cases hk:k.ks with
    |nil=>exact absurd hk Q_
    |cons a b=>exact⟨a,b,rfl⟩
   have Rb:k_ k.ks:=(Tr.ez.1 Gr).2;have Wy:Arg s0.bs.length S 8 (dL k.ks) (k.ks.map tC):=Arg.of (eJ s0 Rb) aU;have qK:(k.ks.map tC)[0]?=some (tC kk):=by rw[hkk];rfl
   have wR:B' k.ks=(kk.n.op==2):=by rw[hkk];rfl
   rw[wR];refine qq<|ai.mC 52 (.bool (kk.n.op==2)) [] ?_ (fun ff tmp fv=>?_)
   ·refine zQ 1 ?_;refine ae.aN (m:=7) hH rfl (ev rfl) (by exact bE) (by dsimp only[List.drop_succ_cons,List.drop_zero,List.take_succ_cons,List.take_zero,tC,cg,aH]<;>rfl) rfl rfl (aa rfl _) ?_;refine qv ((Gk _)) ?_;refine zQ 2 ?_;refine ae.aN (m:=7) hH (aj rfl rfl rfl dM) (ev rfl) (by exact aG) (by dsimp only[List.drop_succ_cons,List.drop_zero,List.take_succ_cons,List.take_zero,tC,cg,aH]<;>rfl) rfl rfl (aa rfl _) ?_;refine qv ((Gj _)) ?_ (hg:=wi dM);refine zQ 4 ?_;refine qr (fun TO Nq=>?_) (hg:=wi dx);refine qf (fo:=0) (fun U4 QN=>?_) (hg:=wi dx);refine qf (fo:=0) (fun X6 V6=>?_) (hg:=wi dx);refine zQ 4 ?_;refine ae.nil (c_ ?_ ?_)
    ·dsimp only[bk,List.foldl,nth,u2,u1]
     all_goals(first|rfl|simp)
    ·exact zS
     all_goals(first|rfl|(simp[dM,dx];done)|(simp_all;done)|(simp[dM,dx];omega)|(simp_all;omega))
   dsimp only[bk,List.foldl,nth,u2,u1]
   cases h6:(kk.n.op==2) with
   |false=>
    rw[if_neg (by simp)];rw[h6] at fv;refine zQ 4 ?_;refine ae.aN (m:=8) (r:=cg n x) hH rfl (ev rfl) bE rfl rfl rfl (aa rfl _) ?_;refine ae.bC hH rfl (ev rfl) (ev rfl) rfl (by exact rfl) aV (by exact rfl) (.inl hF) (fun st hH=>?_);dsimp only[u1,u2] at hH;refine zQ 1 ?_;exact ai.ret ⟨rx,_,hH.ck rfl aV rfl,rl aU hH (Lq _)⟩
   |true=>
    rw[if_pos rfl];rw[h6] at fv;refine qB ?_;obtain⟨tQ,iR⟩:=rk h4;have hmul:=KL k.n.mn n.mn ⟨Ra,tF⟩ ⟨Wj,iR⟩;refine zQ 8 ?_;refine ae.go (d:=.int .i64 (k.n.mn*n.mn)) (st1:=_) rfl rfl (hmul _) (aa rfl _) ?_;refine zQ 2 ?_;refine qT hH aG fun st hH=>?_;dsimp only[u2,u1,u3,u4,setMany,u5,u6,D.cells,Nat.reduceAdd,tC,cg,aH] at hH;refine zQ 1 ?_;have Q8:=(Tr.ez.1 Gr).1.1;have hH:Has s0.bs.length S st (.box k3 (.mem 0 false (cg {k.n with mn:=k.n.mn*n.mn} (dL k.ks)))::.box k2 (.mem 0 false tz)::.box k1 (.mem 0 false (cg n x))::[]):=hH;refine zQ 2 ?_;refine ae.aN (m:=8) (r:=cg {k.n with mn:=k.n.mn*n.mn} (dL k.ks)) hH rfl (ev rfl) aG rfl rfl rfl (aa rfl _) ?_;refine ae.bC hH rfl (ev rfl) (ev rfl) rfl (by exact rfl) aV (by exact rfl) (.inl hF) (fun st hH=>?_);dsimp only[u1,u2] at hH;refine zQ 1 ?_;exact ai.ret ⟨rx,_,hH.ck rfl aV rfl,rl aU hH (by unfold cg;dsimp only;rw[Q8];rfl)⟩
end Go.Proofs.YthahmilhpmfkfaaGreat
namespace Go.V
def qz (x:D) (l r:Nat):D:=match x with
 | .win k au off _ s=>.win k au (off+l*s) (r-l) s
 | .sl es=>.sl ((es.take r).drop l)
 |d=>d
theorem Rows.prt {P:Pv} {st:St} {s:Nat} {x:D} {es:List (List D)} (h:Rows st s x es) {t e:TypeId} (ht:P.bZ t=some (.slice e)) (hs:bR P e=some s) {lo hi:Option D} {l r:Nat} (hb:bD es.length lo hi=some (l,r)) (pW:l≤r∧r≤es.length) (st2:St):
  cZ P t x lo hi st2=some (qz x l r):=by
 cases h with
 |nul=>
  simp only[cZ,ht,hs,Option.bind_some];simp only[List.length_nil] at hb;rw[hb];rfl
 |sl es h=>
  simp only[cZ,ht,hs,Option.bind_some]
  have:ng s es=true:=by
   cases es with
   |nil=>rfl
   |cons e es=>obtain⟨h1,h2⟩:=h e (List.mem_cons_self ..);simp[ng,h1,h2]
  rw[if_pos this];simp only[List.length_map] at hb;rw[hb];rfl
 |win k au off es ar c hm hl he=>
  simp only[cZ,ht,hs,Option.bind_some,if_true,hb];rfl
theorem Rows.MN {st:St} {s:Nat} {x:D} {es:List (List D)} (h:Rows st s x es) {l r:Nat} (pW:l≤r∧r≤es.length):Rows st s (qz x l r) ((es.take r).drop l):=by
 cases h with
 |nul=>simp only[qz];simp;exact .nul
 |sl es h=>
  have:=Rows.sl (st:=st) (s:=s) ((es.take r).drop l) fun e he=>h e (List.mem_of_mem_take (List.mem_of_mem_drop he))
  simpa[qz,List.map_drop,List.map_take] using this
 |win k au off es ar c hm hl he=>
  have hlen:((es.take r).drop l).length=r-l:=by simp;omega
  have h1:l*s+(r-l)*s≤es.length*s:=by rw[←Nat.add_mul];exact Nat.mul_le_mul_right s (by omega)
  have:=Rows.win (st:=st) (s:=s) k au (off+l*s) ((es.take r).drop l) ar c hm (by rw[hlen];omega) fun i e hi=>by
   have hil:=(List.getElem?_eq_some_iff.1 hi).1;rw[hlen] at hil;rw[List.getElem?_drop,List.getElem?_take] at hi
   split at hi
   ·have:=he (l+i) e hi;rw[Nat.add_mul,←Nat.add_assoc] at this;exact this
   ·cases hi
  rw[hlen] at this;exact this
variable{P:Pv} {ops:Array Oper} {rest:List Oper} {fr az:Fr} {st:St} {Q:Fr→St→Prop} {ty:TypeId} {pp:String} {a:Array Edge} {g:Option (Nat×Bool)} {dst:Nat}
theorem ae.prt {t e:TypeId} {xo:Operand} {lo hi:Option Operand} {x:D} {s:Nat} {es:List (List D)} {l r:Nat} (hg:ax ops fr ⟨some dst,.slice t xo lo hi none,ty,pp,a,g⟩=some true) (hx:fr.ev xo=x) (hR:Rows st s x es) (ht:P.bZ t=some (.slice e)) (hs:bR P e=some s)
  (hb:bD es.length (lo.map fr.ev) (hi.map fr.ev)=some (l,r)) (pW:l≤r∧r≤es.length) (hp:fr.put dst (qz x l r)=az)
  (h:ae P ops rest az st Q):ae P ops (⟨some dst,.slice t xo lo hi none,ty,pp,a,g⟩::rest) fr st Q:=by
 refine ae.go hg rfl (d:=qz x l r) (st1:=st) ?_ hp h;simp only[dE,hx,hR.prt ht hs hb pW,Option.map_some]
variable{N:Nat} {S:St} {H:List aZ}
theorem Has.CK {j:Nat} {x y:D} {s:Nat} {es ys:List (List D)} (hH:Has N S st H) (hj:H[j]?=some (.aB x s es)) (ig:kT st y=some (ys.length,ys.flatten)) (wF:∀e∈ys,e.length=s) {t1 t2 e:TypeId} {td:TypeDesc} {inf:TypeInfo} {z:List D}
  (h1:P.bZ t1=some (.slice e)) (h2:P.bZ t2=some td) (h3:ek td=false) (h4:P.info e=some inf) (h5:cI P e=some z) (h6:inf.size=s) (h7:z.length=s) (h8:0<inf.bytes∧inf.bytes≤1024)
  (hb1:inf.bytes=1) (pg:es.length+ys.length≤1099511627776) (hw:S.flr≤N∨refs ys.flatten=0):
  ∃x' ah,bd P .append [t1,t2] [x,y] st=some (x',ah)∧Has N S ah (H.set j (.aB x' s (es++ys)))∧(ys=[]→x'=x):=by
 have hb:(es.length+ys.length)*inf.bytes≤1099511627776:=by rw[hb1,Nat.mul_one];exact pg
 have jc:=bo wF;have hown:=hH.own hj;have hkk:=(hH.ok j _ hj).2;have hS:=hH.len;have Uw:=hH.hN;subst h6;simp only[bd,cX,h1,h2,h3,Bool.false_eq_true,if_false,h4,h5,ig,Option.bind_some];rw[if_neg (by rintro(h|h|h);exact h jc;exact absurd h (by omega);exact h h7)]
 have gw:∀e,H[j]?=some e→H.set j e=H:=fun e he=>by
  apply List.ext_getElem?;intro i
  by_cases hij:i=j
  ·subst hij
   have:i<H.length:=by
    rcases Nat.lt_or_ge i H.length with h'|h'
    ·exact h'
    ·rw[List.getElem?_eq_none h'] at he;cases he
   rw[List.getElem?_set_self this,he]
  ·rw[List.getElem?_set_ne (fun e=>hij e.symm)]
 cases hown with
 |nul=>
  simp only[List.nil_append]
  by_cases h0:ys.length=0
  ·rw[if_pos h0]
   have:ys=[]:=by cases ys with|nil=>rfl|cons _ _=>simp at h0
   subst this;exact⟨.nul,st,rfl,by rw[gw _ hj];exact hH,fun _=>rfl⟩
  ·rw[if_neg h0,if_pos (by simpa using hb)];refine⟨_,_,rfl,?_,fun e=>absurd (by rw[e];rfl) h0⟩;refine hH.vJ hj (fun k hk _=>by simp only[St.push];rw[List.getElem?_append_left hk]) (by simp[St.push]) rfl rfl ?_ (fun k hk=>?_) fun k hk=>?_
   ·exact eU.win _ 0 0 ys ys.flatten (nJ st _) (by rw[jc];omega) (by rw[List.drop_zero,←jc,List.take_length]) wF
   ·simp only[aZ.aB,D.ref] at hk;right;omega
   ·simp only[aZ.aB,D.ref] at hk;simp only[St.push,List.length_append,List.length_cons,List.length_nil];omega
 |win k au off es c hm hl hc he=>
  have hk:=hkk k (by simp only[aZ.aB,D.ref]);simp only[St.mem_of hm];rw[if_neg (by rintro(h|h);exact h rfl;omega)]
  by_cases h0:ys.length=0
  ·rw[if_pos h0]
   have:ys=[]:=by cases ys with|nil=>rfl|cons _ _=>simp at h0
   subst this;simp only[List.append_nil];exact⟨_,st,rfl,by rw[gw _ hj];exact hH,fun _=>rfl⟩
  ·rw[if_neg h0,if_pos ⟨hb,eL hH hk.1 hw⟩];refine⟨_,_,rfl,?_,fun e=>absurd (by rw[e];rfl) h0⟩;have nc:es.length+ys.length=(es++ys).length:=by simp
   have gu:(c.take (off+es.length*inf.size)).drop off=es.flatten:=by rw[List.drop_take,←hc];congr 1;omega
   rw[nc,gu];refine hH.vJ hj (fun n hn hne=>by simp only;rw[List.getElem?_set_ne (fun e=>hne (by simp only[aZ.aB,D.ref];omega))]) (by simp) rfl rfl ?_ (fun n hn=>?_) fun n hn=>?_
   ·have tW:∀e∈es++ys,e.length=inf.size:=fun e h=>by
     rcases List.mem_append.1 h with h|h
     ·exact he e h
     ·exact wF e h
    have Gu:=bo tW;refine eU.win k (au+1) 0 (es++ys) (es++ys).flatten ?_ (by rw[Gu];omega) (by rw[List.drop_zero,←Gu,List.take_length]) tW;simp only;rw[List.getElem?_set_self hk.2,List.flatten_append]
   ·simp only[aZ.aB,D.ref] at hn⊢;left;omega
   ·simp only[aZ.aB,D.ref] at hn;simp only[List.length_set];omega
theorem ae.n9 {j:Nat} {x y:D} {s:Nat} {es ys:List (List D)} {t1 t2 e:TypeId} {td:TypeDesc} {inf:TypeInfo} {z:List D} {xo yo:Operand} {az:D→Fr} (hH:Has N S st H) (hg:ax ops fr ⟨some dst,.call ⟨.builtin .append,#[xo,yo],#[t1,t2]⟩,ty,pp,a,g⟩=some true)
  (hx:fr.ev xo=x) (hy:fr.ev yo=y) (hj:H[j]?=some (.aB x s es)) (j_:Rows st s y ys)
  (h1:P.bZ t1=some (.slice e)) (h2:P.bZ t2=some td) (h3:ek td=false) (h4:P.info e=some inf) (h5:cI P e=some z) (h6:inf.size=s) (h7:z.length=s) (h8:0<inf.bytes∧inf.bytes≤1024)
  (hp:∀x',fr.put dst x'=az x') (hb1:inf.bytes=1) (hb:es.length+ys.length≤1099511627776) (hw:S.flr≤N∨refs ys.flatten=0)
  (h:∀x' ah,Has N S ah (H.set j (.aB x' s (es++ys)))→ae P ops rest (az x') ah Q):
  ae P ops (⟨some dst,.call ⟨.builtin .append,#[xo,yo],#[t1,t2]⟩,ty,pp,a,g⟩::rest) fr st Q:=by
 obtain⟨x',ah,q1,q2,q3⟩:=hH.CK hj j_.row (fun e he=>by obtain⟨i,hi⟩:=List.getElem?_of_mem he;exact j_.s8 i e hi) h1 h2 h3 h4 h5 h6 h7 h8 hb1 hb hw;refine ae.go hg rfl (d:=x') (st1:=ah) ?_ (hp _) (h x' ah q2);simp only[dE,List.map_cons,List.map_nil,hx,hy];exact q1
theorem ae.Gm {t e:TypeId} {lo co:Operand} {k1 k2:IntKind} {m:Int} {inf:TypeInfo} {z:List D} {s:Nat} {az:Nat→Fr} (hH:Has N S st H) (hg:ax ops fr ⟨some dst,.makeSlice t lo co,ty,pp,a,g⟩=some true)
  (hl:fr.ev lo=.int k1 0) (hc:fr.ev co=.int k2 m) (ht:P.bZ t=some (.slice e)) (hi:P.info e=some inf) (hz:cI P e=some z) (hsz:inf.size=s) (kR:z.length=s) (Q5:inf.bytes≤1024) (uZ:0≤m∧m≤137438953472) (hp:∀k,fr.put dst (.win k 0 0 0 s)=az k)
  (h:∀k ah,S.bs.length≤k→Has N S ah (.aB (.win k 0 0 0 s) s []::H)→ae P ops rest (az k) ah Q):ae P ops (⟨some dst,.makeSlice t lo co,ty,pp,a,g⟩::rest) fr st Q:=by
 subst hsz;have hb:m*(inf.bytes:Int)≤140737488355328:=Int.le_trans (Int.mul_le_mul uZ.2 (show(inf.bytes:Int)≤1024 by omega) (by omega) (by omega)) (by decide);refine ae.go hg rfl (d:=.win st.bs.length 0 0 0 inf.size) (st1:=st.push (.mem 0 true [])) ?_ (hp _) (h _ _ hH.len (hH.nK rfl rfl (fun e he=>by cases he)));simp only[dE,hl,hc,fM,ht,hi,hz,Option.bind_some];rw[if_pos ⟨kR,by omega,by omega,by omega,hb⟩]
 rfl
theorem Has.wA {s0 S st:St} {H:List aZ} (hS:S.bs=s0.bs) (eG:s0.ro≤s0.bs.length) (h:Has s0.bs.length S st H):Has s0.bs.length s0 ⟨st.bs,s0.flr,s0.ro⟩ H:=by
 refine⟨⟨fun k hk=>?_,?_,rfl,rfl⟩,Nat.le_refl _,eG,fun i e hi=>⟨@aZ.loc e st ⟨st.bs,s0.flr,s0.ro⟩ (fun _ _=>rfl) (h.ok i e hi).1,(h.ok i e hi).2⟩,h.dis⟩
 ·rw[←hS];exact h.ex.low k hk
 ·rw[←hS];exact h.ex.len
theorem Has.Md {N:Nat} {S st ah:St} {H H2:List aZ} (h:Has N S st H) (h2:Has st.bs.length st ah H2):Has N S ah (H2++H):=by
 have hN:=h.hN;have hl:=h.ex.len;have yS:=h2.ex.len;refine⟨⟨fun k hk=>?_,by omega,h2.ex.flr.trans h.ex.flr,h2.ex.ro.trans h.ex.ro⟩,hN,h.eG,fun i e hi=>?_,fun i j a b hij ha hb k mq fQ=>?_⟩
 ·rw[h2.ex.low k (by omega)];exact h.ex.low k hk
 ·by_cases hlt:i<H2.length
  ·rw[List.getElem?_append_left hlt] at hi;obtain⟨h3,h4⟩:=h2.ok i e hi;exact⟨h3,fun k hk=>⟨by have:=(h4 k hk).1;omega,(h4 k hk).2⟩⟩
  ·rw[List.getElem?_append_right (by omega)] at hi;obtain⟨h3,h4⟩:=h.ok _ e hi;exact⟨e.loc (fun k hk=>h2.ex.low k (h4 k hk).2) h3,fun k hk=>⟨(h4 k hk).1,by have:=(h4 k hk).2;omega⟩⟩
 ·by_cases h1:i<H2.length<;>by_cases h3:j<H2.length
  ·rw[List.getElem?_append_left h1] at ha;rw[List.getElem?_append_left h3] at hb;exact h2.dis i j a b hij ha hb k mq fQ
  ·rw[List.getElem?_append_left h1] at ha;rw[List.getElem?_append_right (by omega)] at hb;have:=((h2.ok _ a ha).2 k mq).1;have:=((h.ok _ b hb).2 k fQ).2;omega
  ·rw[List.getElem?_append_right (by omega)] at ha;rw[List.getElem?_append_left h3] at hb;have:=((h2.ok _ b hb).2 k fQ).1;have:=((h.ok _ a ha).2 k mq).2;omega
  ·rw[List.getElem?_append_right (by omega)] at ha hb;exact h.dis _ _ a b (by omega) ha hb k mq fQ
theorem ae.GI {j:Nat} {x:D} {b:List UInt8} {es:List (List D)} {t1 t2 e:TypeId} {td:TypeDesc} {inf:TypeInfo} {z:List D} {xo yo:Operand} {az:D→Fr} (hH:Has N S st H) (hg:ax ops fr ⟨some dst,.call ⟨.builtin .append,#[xo,yo],#[t1,t2]⟩,ty,pp,a,g⟩=some true)
  (hx:fr.ev xo=x) (hy:fr.ev yo=.str b) (hj:H[j]?=some (.aB x 1 es))
  (h1:P.bZ t1=some (.slice e)) (h2:P.bZ t2=some td) (h3:ek td=false) (h4:P.info e=some inf) (h5:cI P e=some z) (h6:inf.size=1) (h7:z.length=1) (h8:0<inf.bytes∧inf.bytes≤1024)
  (hp:∀x',fr.put dst x'=az x') (hb1:inf.bytes=1) (hb:es.length+b.length≤1099511627776)
  (h:∀x' ah,Has N S ah (H.set j (.aB x' 1 (es++V.byteCells b)))→ae P ops rest (az x') ah Q):
  ae P ops (⟨some dst,.call ⟨.builtin .append,#[xo,yo],#[t1,t2]⟩,ty,pp,a,g⟩::rest) fr st Q:=by
 have jc:∀b:List UInt8,(V.byteCells b).flatten=b.map fun y=>.int .u8 (y.toNat:Nat):=by
  intro b
  induction b with
  |nil=>rfl
  |cons y b ih=>simp only[V.byteCells,List.map_cons,List.flatten_cons] at ih⊢;rw[ih];rfl
 have HE:(V.byteCells b).length=b.length:=by simp[V.byteCells]
 have lg:∀b:List UInt8,refs (b.map fun y=>D.int .u8 (y.toNat:Nat))=0:=by
  intro b
  induction b with
  |nil=>rfl
  |cons y b ih=>simp only[List.map_cons,refs,D.ref,ih];rfl
 obtain⟨x',ah,q1,q2,q3⟩:=hH.CK (y:=.str b) (ys:=V.byteCells b) hj (by rw[HE,jc];rfl) (fun e he=>by obtain⟨y,_,rfl⟩:=List.mem_map.1 he;rfl) h1 h2 h3 h4 h5 h6 h7 h8 hb1 (by rw[HE];exact hb) (.inr (by rw[jc];exact lg b));refine ae.go hg rfl (d:=x') (st1:=ah) ?_ (hp _) (h x' ah q2);simp only[dE,List.map_cons,List.map_nil,hx,hy];exact q1
theorem Has.Jj (hF:S.flr≤N) (hH:Has N S st H):st.flr≤st.bs.length∧st.ro≤st.bs.length:=by
 have h1:=hH.ex.flr;have h2:=hH.ex.ro;have h3:=hH.eG;have h4:=hH.hN;have h5:=hH.ex.len;constructor<;>omega
end Go.V
namespace Go.Proofs.YthahmilhpmfkfaaGreat
open Go.V Go
def da (fr:Go.V.Fr) (k:Nat):Go.V.D:=Go.V.nth .bf fr.loc k
mutual
def Tr.gd:Tr→Prop
 | .mk n ks=>(n.op=5→1≤ks.len∧0≤n.mn)∧ks.gd
def aE.gd:aE→Prop
 | .nil=>True
 | .cons t ts=>t.gd∧ts.gd
end
theorem EK:∀{ks:aE},ks.gd↔∀t∈ks.l,t.gd
 | .nil=>by simp[aE.gd,aE.l]
 | .cons t ts=>by simp only[aE.gd,aE.l,List.mem_cons,forall_eq_or_imp,EK (ks:=ts)]
def GL (l:List Tr):Prop:=∀t∈l,t.gd
theorem Tr.vf {t:Tr}:t.gd↔(t.n.op=5→t.ks≠[]∧0≤t.n.mn)∧GL t.ks:=by
 cases t with
 |mk n ks=>
  simp only[Tr.gd,Tr.n,Tr.ks,GL,EK,←nC];have:(1≤ks.l.length)↔ks.l≠[]:=by cases ks.l<;>simp
  rw[this]
theorem BZ {n:bp} {l:List Tr}:(Tr.mk n (dZ l)).gd↔(n.op=5→l≠[]∧0≤n.mn)∧GL l:=by
 rw[Tr.vf];simp only[Tr.n,Tr.ks,mF]
mutual
theorem JV:∀t:Tr,t.ok→t.gd
 | .mk n ks,h=>by
  simp only[Tr.ok] at h;simp only[Tr.gd];refine⟨fun h5=>?_,FE ks h.2⟩;have h1:=h.1.2;simp only[h5] at h1;omega
theorem FE:∀ts:aE,ts.ok→ts.gd
 | .nil,_=>trivial
 | .cons t ts,h=>⟨JV t h.1,FE ts h.2⟩
end
theorem uq {op:Int} {l:List Tr} (h:GL l):GL (bj op l):=by
 intro t ht;obtain⟨u,hu,ht⟩:=List.mem_flatMap.1 ht
 split at ht
 ·exact(Tr.vf.1 (h u hu)).2 t ht
 ·simp only[List.mem_cons,List.not_mem_nil,or_false] at ht;rw[ht];exact h u hu
theorem zJ {op:Int} {l:List Tr} (ho:op≠5) (h:GL l):(CU op l).gd:=BZ.2 ⟨fun h5=>absurd h5 ho,h⟩
theorem xq {op:Int} {l:List Tr} (ho:op≠5) (h:GL l):(gE op l).gd:=by
 unfold gE
 split
 ·exact zJ (by decide) (by intro t ht;cases ht)
 ·exact h _ (List.mem_cons_self ..)
 ·exact zJ ho h
theorem wZ {b:List Tr} {a:Tr} (hb:GL b) (ha:a.gd):GL (b++[a]):=by
 intro t ht
 rcases List.mem_append.1 ht with ht|ht
 ·exact hb t ht
 ·simp only[List.mem_cons,List.not_mem_nil,or_false] at ht;rw[ht];exact ha
theorem Il {l:List Tr} (h:GL l):GL (cY l):=by
 unfold cY;refine oa (P:=GL) (fun b a ha hb=>?_) _ (by intro t ht;cases ht)
 split
 ·exact hb
 ·exact wZ hb (h a ha)
theorem LY (a b:List Rg):(qY a b).gd:=by
 unfold qY;simp only[Tr.gd,aE.gd,and_true];intro h;cases h
theorem IE {b:List Tr} {a:Tr} (hb:GL b) (ha:a.gd):GL (ie b a):=by
 unfold ie
 split
 ·split
  ·intro t ht
   rcases List.mem_or_eq_of_mem_set ht with ht|rfl
   ·exact hb t ht
   ·exact LY _ _
  ·exact wZ hb ha
 ·exact wZ hb ha
theorem DC {l:List Tr} (h:GL l):GL (cx l):=by
 unfold cx;exact oa (P:=GL) (fun b a ha hb=>IE hb (h a ha)) _ (by intro t ht;cases ht)
theorem zr:∀(f:Nat) {l:List Tr},GL l→GL (jH f l)
 |0,l,h=>h
 |f+1,l,h=>by
  unfold jH
  split
  ·exact h
  ·exact zr f (DC (Il h))
theorem Ky {n:bp} {k:Tr} {l:List Tr} (hn:n.op=5→0≤n.mn) (h:GL l) (hk:k∈l):(xP n k l).gd:=by
 have hkk:=h k hk;obtain⟨h1,h2⟩:=Tr.vf.1 hkk;unfold xP
 split
 ·exact hkk
 split
 ·exact hkk
 split
 ·exact zJ (by decide) (by intro t ht;cases ht)
 split
 ·rename_i ho;simp only[Bool.and_eq_true] at ho;have a1:=(rk ho.1).1;have a2:=(rk ho.2.1).1;exact BZ.2 ⟨fun _=>⟨(h1 a2).1,Int.mul_nonneg (h1 a2).2 (hn a1)⟩,h2⟩
 ·exact BZ.2 ⟨fun h5=>⟨List.ne_nil_of_mem hk,hn h5⟩,h⟩
theorem FW {n:bp} {l:List Tr} (hn:n.op=5→l≠[]∧0≤n.mn) (h:GL l):(pQ n l).gd:=by
 unfold pQ
 split
 ·exact xq (by decide) fun t ht=>uq h t (List.mem_filter.1 ht).1
 split
 ·exact xq (by decide) (zr _ (uq h))
 split
 ·rename_i h5
  cases l with
  |nil=>exact absurd rfl (hn h5).1
  |cons k l=>exact Ky (fun h=>(hn h).2) h (List.mem_cons_self ..)
 ·rename_i h5;exact BZ.2 ⟨fun h=>absurd h h5,h⟩
theorem B5:∀(m:Nat) (t:Tr),t.fT≤m→t.gd→t.less.gd
 |0,t,h,_=>by have:=Tr.dY t;omega
 |m+1,t,h,hg=>by
  have NW:=Tr.dY t;obtain⟨h1,h2⟩:=Tr.vf.1 hg;rw[Tr.B6];refine FW (fun h5=>⟨?_,(h1 h5).2⟩) fun k hk=>?_
  ·have:=(h1 h5).1;simpa using this
  ·obtain⟨u,hu,rfl⟩:=List.mem_map.1 hk;exact B5 m u (by have:=fy hu;omega) (h2 u hu)
theorem yB:∀(m:Nat) (t:Tr),t.fT≤m→m≤1048575→t.fa nA→t.gd→∀s0:St,Ev pv 50 [.agg (tC t)] s0 (.agg (tC t.less)) s0
 |0,t,h,_,_,_,_=>by have:=Tr.dY t;omega
 |m+1,t,h,hm,hfa,hg,s0=>by
  have NW:=Tr.dY t;have gT:=cT t.ks;obtain⟨hn,tS⟩:=Tr.ez.1 hfa;obtain⟨dQ,Pn⟩:=Tr.vf.1 hg;have AQ:=hn.1;have tR:V.Rows s0 8 (dL t.ks) (t.ks.map tC):=eJ s0 tS;have HF:=aE.ib (dZ t.ks) (by rw[vK,mF];exact tS);rw[rG,mF,q_,mF] at HF;obtain⟨HF,Q6⟩:=HF
  have Wr:GL (t.ks.map Tr.less):=fun k hk=>by
   obtain⟨u,hu,rfl⟩:=List.mem_map.1 hk;exact B5 _ u (Nat.le_refl _) (Pn u hu)
  have yJ:=(Tr.ib t hfa).1;have J2:=Tr.B6 t;refine Ev.iZ rfl SI rfl rfl rfl ?_;refine zE ?_;obtain⟨aU,hF,hH⟩:=ri s0;generalize ag .ro s0=S at*;have mq:=Arg.of tR aU;refine zQ 2 ?_;refine qb hH fun k1 st lG hH=>?_;dsimp only[u2,u1,u3,u4,setMany,u5,u6,D.cells,Nat.reduceAdd,tC,cg,aH] at hH;refine qa hH fun k2 st hk2 hH=>?_;refine zQ 1 ?_;have hH:Has s0.bs.length S st (.box k2 (.mem 0 false tz)::.box k1 (.mem 0 false (tC t))::[]):=hH;refine zQ 4 ?_;refine qn ?_;simp only[List.length_map];refine ae.Gm (m:=((t.ks.length:Nat):Int)) hH rfl (ev rfl) (ev rfl) rfl rfl rfl rfl rfl (by decide) (by omega) (fun _=>by dsimp only[Fr.put,u1,u2]<;>rfl) (fun k9 st Re hH=>?_);refine zQ 7 ?_;refine qn ?_;simp only[List.length_map];refine zQ 3 ?_;refine ai.loop (fun mm fr st=>∃(i:Nat) (y:D),fr.clean=⟨28,[da fr 0,.ptr k1 0 0,.ptr k2 0 0,y,da fr 4,da fr 5,da fr 6,da fr 7,da fr 8,da fr 9,da fr 10,dL t.ks,.int .i64 (t.ks.length:Nat),.int .i64 (i:Nat),da fr 14,da fr 15,da fr 16,da fr 17,da fr 18,da fr 19,da fr 20,da fr 21,da fr 22,da fr 23,da fr 24,da fr 25,da fr 26,da fr 27],[]⟩∧Has s0.bs.length S st (.aB y 8 (((t.ks.take i).map Tr.less).map tC)::.box k2 (.mem 0 false tz)::.box k1 (.mem 0 false (tC t))::[])∧(i+mm=t.ks.length)∧(∀k,y.ref=k+1→S.bs.length≤k)) (t.ks.length) ?_ ?_
  ·exact⟨0,.win k9 0 0 0 8,rfl,hH,by omega,(fun k hk=>by simp only[D.ref] at hk;omega)⟩
  rintro mm fr st ⟨i,y,hfr,hH,hi,gS⟩;rw[hfr];clear hfr;generalize da fr=ee;clear fr;refine zQ 5 ?_;refine zP (fun h1=>?_) fun h1=>?_
  ·refine zQ 1 ?_
   obtain⟨p,hp⟩:∃p,t.ks[i]?=some p:=⟨t.ks[i]'(by omega),List.getElem?_eq_getElem _⟩
   have wJ:=List.mem_of_getElem? hp;have J7:=fy wJ;have gr:=mH hp;have AP:=fun st=>yB m p (by omega) (by omega) (tS p wJ) (Pn p wJ) st;refine zQ 4 ?_;refine qr fun PZ La=>?_;refine ae.cA rfl (ev rfl) (by assumption) rfl (by dsimp only[Fr.put,u1,u2]<;>rfl) ?_;refine qa hH fun k5 st HG hH=>?_;dsimp only[u2,u1,u3,u4,setMany,u5,u6,D.cells,Nat.reduceAdd,tC,cg,aH] at hH;refine qS hH aG fun st hH=>?_;dsimp only[u2,u1,u3,u4,setMany,u5,u6,D.cells,Nat.reduceAdd,tC,cg,aH] at hH;refine zQ 1 ?_;have hH:Has s0.bs.length S st (.box k5 (.mem 0 false (tC p))::.aB y 8 (((t.ks.take i).map Tr.less).map tC)::.box k2 (.mem 0 false tz)::.box k1 (.mem 0 false (tC t))::[]):=hH;refine zQ 2 ?_;refine ae.aN (m:=8) (r:=tC p) hH rfl (ev rfl) aG rfl rfl rfl (by dsimp only[Fr.put,u1,u2]<;>rfl) ?_;refine qv (AP _) ?_;refine qh (s:=8) (vs:=[_]) hH fun k20 st Ro hH=>?_;dsimp only[u2,u1,u3,u4,setMany,u5,u6,D.cells,Nat.reduceAdd,tC,cg,aH] at hH;refine ae.cJ (s:=8) hH rfl (ev rfl) (ev rfl) bE (hH.rows aG) rfl rfl rfl rfl rfl rfl rfl ⟨(Nat.le_of_ble_eq_true rfl),(Nat.le_of_ble_eq_true rfl)⟩ (fun _=>by dsimp only[Fr.put,u1,u2]<;>rfl) (by simp only[List.length_map,List.length_take,List.length_cons,List.length_nil];omega) (.inl hF) gS (fun TG st gS hH=>?_);dsimp only[u1,u2] at hH;refine zQ 2 ?_;have hH:=hH.drop 2;refine zQ 4 ?_;exact⟨mm-1,by omega,⟨i+1,TG,rfl,(by rw[List.take_add_one,hp,List.map_append,List.map_append];exact hH),by omega,gS⟩⟩
  ·refine zQ 1 ?_;have Pm:i=t.ks.length:=by omega
   rw[Pm,List.take_length] at hH;clear Pm hi h1;generalize hl:t.ks.map Tr.less=l at*;refine zQ 4 ?_;refine qT hH bE (fun st hH=>?_) (hcs:=hH.gN aG);dsimp only[u2,u1,u3,u4,setMany,u5,u6,D.cells,Nat.reduceAdd,tC,cg,aH] at hH;refine zQ 1 ?_;have hH:Has s0.bs.length S st (.aB y 8 (l.map tC)::.box k2 (.mem 0 false tz)::.box k1 (.mem 0 false (cg t.n y))::[]):=hH;have Ga:∀st,Has s0.bs.length S st (.aB y 8 (l.map tC)::.box k2 (.mem 0 false tz)::.box k1 (.mem 0 false (cg t.n y))::[])→V.Rows st 8 y (l.map tC):=fun st h=>h.rows aG;refine zQ 7 ?_;have O5:∀st,∀X:List D,Has s0.bs.length S st (.aB y 8 (l.map tC)::.box k2 (.mem 0 false X)::.box k1 (.mem 0 false (cg t.n y))::[])→aJ st s0.bs.length false 15 y=some (dL l):=fun st X h=>by rw[m_];exact h.freeze aG (lV HF) (n:=14) (by decide)
   rw[J2];rw[J2] at yJ;unfold pQ at yJ⊢;refine zQ 6 ?_
   by_cases h3:t.n.op=3
   ·have hc:(t.n.op==3)=true:=by simpa using h3
    rw[if_pos h3] at yJ⊢;refine qD rfl (by rw[hc]) ?_;have hcat:=JB (n:=t.n) (Ga _ hH) HF (by omega);refine zQ 2 ?_;refine ae.aN (m:=8) (r:=cg t.n y) hH rfl (ev rfl) bE rfl rfl rfl (aa rfl _) ?_;refine ae.cu rfl rfl hcat (aa rfl _) ?_;refine ae.bC hH rfl (ev rfl) (ev rfl) rfl (by exact rfl) aV (by exact rfl) (.inl hF) (fun st hH=>?_);dsimp only[u1,u2] at hH;refine zQ 1 ?_;exact ai.ret ⟨rx,_,hH.ck rfl aV rfl,rl aU hH (hY yJ _ _ _)⟩
   have hc:(t.n.op==3)=false:=by simpa using h3
   rw[if_neg h3] at yJ⊢;refine qE rfl (by rw[hc]) ?_;refine zQ 5 ?_
   by_cases h4:t.n.op=4
   ·have RP:(t.n.op==4)=true:=by simpa using h4
    rw[if_pos h4] at yJ⊢;refine qD rfl (by rw[RP]) ?_;have hcat:=JK (n:=t.n) (Ga _ hH) HF (by omega);refine zQ 2 ?_;refine ae.aN (m:=8) (r:=cg t.n y) hH rfl (ev rfl) bE rfl rfl rfl (aa rfl _) ?_;refine ae.cu rfl rfl hcat (aa rfl _) ?_;refine ae.bC hH rfl (ev rfl) (ev rfl) rfl (by exact rfl) aV (by exact rfl) (.inl hF) (fun st hH=>?_);dsimp only[u1,u2] at hH;refine zQ 1 ?_;exact ai.ret ⟨rx,_,hH.ck rfl aV rfl,rl aU hH (hY yJ _ _ _)⟩
   have RP:(t.n.op==4)=false:=by simpa using h4
   rw[if_neg h4] at yJ⊢;refine qE rfl (by rw[RP]) ?_;refine zQ 5 ?_
   by_cases h5:t.n.op=5
   ·have RO:(t.n.op==5)=true:=by simpa using h5
    rw[if_pos h5] at yJ⊢;refine qD rfl (by rw[RO]) ?_;obtain⟨g1,g2⟩:=dQ h5
    obtain⟨k,l0,nc⟩:∃k l0,l=k::l0:=by
     cases l with
     |nil=>exact absurd (List.map_eq_nil_iff.1 hl) g1
     |cons a b=>exact⟨a,b,rfl⟩
    subst nc;dsimp only at yJ⊢;have Wv:=Tr.vf.1 (Wr k (List.mem_cons_self ..));have hcat:=Ab (n0:=t.n) (x:=y) (k:=k) (l0:=l0) (Ga _ hH) AQ HF (by omega) g2 Wv.1;obtain⟨n',y',hsh,htl⟩:=C8 (n:=Me t.n) (x:=y) (k:=k) (l:=k::l0) AQ (HF k (List.mem_cons_self ..));rw[hsh] at hcat;rw[MI];refine zQ 2 ?_;refine ae.aN (m:=8) (r:=cg t.n y) hH rfl (ev rfl) bE rfl rfl rfl (aa rfl _) ?_;refine ae.cu rfl rfl hcat (aa rfl _) ?_;refine ae.bC hH rfl (ev rfl) (ev rfl) rfl (by exact rfl) aV (by exact rfl) (.inl hF) (fun st hH=>?_);dsimp only[u1,u2] at hH;refine zQ 1 ?_;exact ai.ret ⟨rx,_,hH.ck rfl aV rfl,rl aU hH (htl _ _ (O5 _ _ hH))⟩
   have RO:(t.n.op==5)=false:=by simpa using h5
   rw[if_neg h5] at yJ⊢;refine qE rfl (by rw[RO]) ?_;refine zQ 3 ?_;refine ae.aN (m:=8) (r:=cg t.n y) hH rfl (ev rfl) bE rfl rfl rfl (aa rfl _) ?_;refine ae.bC hH rfl (ev rfl) (ev rfl) rfl (by exact rfl) aV (by exact rfl) (.inl hF) (fun st hH=>?_);dsimp only[u1,u2] at hH;refine zQ 1 ?_
   have RS:aJ st s0.bs.length false 16 (.agg (cg t.n y))=some (.agg (tC (.mk t.n (dZ l)))):=by
    rw[KM];show(ec (aJ st s0.bs.length false 15) (cg t.n y)).map D.agg=_;have h8:=O5 _ _ hH;unfold cg;simp only[ec,h8,AQ]
    rfl
   exact ai.ret ⟨rx,_,hH.ck rfl aV rfl,rl aU hH RS⟩
theorem yw {s0:St} {x:D} {l:List bp} (hx:gY x 7 (l.map aH)) (hv:∀n∈l,nz n) (hl:l.length≤500):Ev pv 20 [x] s0 (sx (dF l)) s0:=by
 have Lg:Nl.ok ⟨x,l⟩:=⟨hx,fun n hn=>by
  obtain⟨h1,h2,h3⟩:=hv n hn
  exact⟨by rw[h1];exact gJ _,h2,by omega⟩,by show l.length≤_;omega⟩
 have VL:=fun st=>uy (s0:=st) Lg;unfold dF;refine Ev.iZ rfl S9 rfl rfl rfl ?_;refine zE ?_;obtain⟨aU,hF,hH⟩:=ri s0;generalize ag .ro s0=S at*;have IL:=hx.arg s0.bs.length S;refine zQ 8 ?_;refine qv (VL _) ?_;refine zQ 2 ?_
 cases hR:fJ l with
 |false=>
  rw[if_neg (by simp)];refine ai.cond (v:=true) (by dsimp only[Fr.ev,Fr.get,nth,V.look];rfl) (fun _=>?_) (fun h=>by cases h);refine zQ 4 ?_;refine ai.ret ⟨rx,_,rfl,rl aU hH (rfl)⟩
 |true=>
  rw[if_pos rfl];refine ai.cond (v:=false) (by dsimp only[Fr.ev,Fr.get,nth,V.look];rfl) (fun h=>by cases h) (fun _=>?_);refine zQ 1 ?_;obtain⟨cn,jc⟩:=nD hR;generalize cq l=t at*;have hct:=Tr.kb t;rw[jc] at hct;have hfa:t.fa nA:=(Tr.gq t).2 (fun n hn=>by rw[jc] at hn;exact⟨(hv n hn).1,(hv n hn).2.1⟩);have zy:=fun st=>Cr t.fT t [] (Nat.le_refl _) (by omega) cn (by rw[List.append_nil,jc];exact hv) st x (by rw[List.append_nil,jc];exact hx);obtain⟨HF,Q6⟩:=Tr.ib t hfa;have hle:=fun st=>yB t.fT t (Nat.le_refl _) (by omega) hfa (JV t cn) st;have hft:=fun st=>Cv t.less.fT t.less (Nat.le_refl _) (by omega) HF st;refine zQ 3 ?_;obtain⟨_,aC,y,rfl,hy⟩:=zy S;refine qv aC ?_;refine zQ 3 ?_;refine qa hH fun k3 st DQ hH=>?_;refine qS hH aG fun st hH=>?_;dsimp only[u2,u1,u3,u4,setMany,u5,u6,D.cells,Nat.reduceAdd,tC,cg,aH] at hH;refine zQ 2 ?_;have hH:Has s0.bs.length S st (.box k3 (.mem 0 false (tC t))::[]):=hH;refine zQ 2 ?_;refine ae.aN (m:=8) (r:=tC t) hH rfl (ev rfl) aG rfl rfl rfl (aa rfl _) ?_;refine qv (hle _) ?_;refine qv (hft _) ?_;refine zQ 2 ?_;refine ai.ret ⟨rx,_,rfl,rl aU hH (rfl)⟩
end Go.Proofs.YthahmilhpmfkfaaGreat
namespace Go.Proofs.YthahmilhpmfkfaaGreat
open Go.V Go
def kF:Nat→Nat→Nat
 |0,_=>0
 |f+1,m=>if m=0 then 0 else kF f (m/256)+1
def kB (m:Nat):Nat:=kF 8 m
def xe:Nat→Nat→List UInt8
 |0,_=>[]
 |k+1,m=>UInt8.ofNat (m/256^k)::xe k m
def ga (n:Int):List UInt8:=UInt8.ofNat (kB n.toNat)::xe (kB n.toNat) n.toNat
theorem JY:∀f m,kF f m≤f
 |0,_=>Nat.le_refl _
 |f+1,m=>by
  unfold kF
  split
  ·omega
  ·have:=JY f (m/256);omega
theorem F2 (m:Nat):kB m≤8:=JY 8 m
theorem ot:∀k m,(xe k m).length=k
 |0,_=>rfl
 |k+1,m=>by simp only[xe,List.length_cons,ot k m]
theorem nP (n:Int):(ga n).length=kB n.toNat+1:=by simp only[ga,List.length_cons,ot]
theorem nQ (n:Int):(ga n).length≤9:=by rw[nP];have:=F2 n.toNat;omega
theorem B9:∀f m,m<256^f→m/256^kF f m=0∧∀j,j<kF f m→0<m/256^j
 |0,m,h=>by
  have:m=0:=by simpa using h
  subst this;exact⟨by simp[kF],fun j hj=>by simp[kF] at hj⟩
 |f+1,m,h=>by
  unfold kF
  split
  ·rename_i h0;subst h0;exact⟨by simp,fun j hj=>by omega⟩
  ·rename_i h0
   have hd:m/256<256^f:=by
    rw[Nat.pow_succ] at h;exact Nat.div_lt_of_lt_mul (by omega)
   obtain⟨h1,h2⟩:=B9 f (m/256) hd;refine⟨by rw[Nat.pow_succ,Nat.mul_comm,←Nat.div_div_eq_div_mul];exact h1,fun j hj=>?_⟩
   cases j with
   |zero=>simp;omega
   |succ j=>rw[Nat.pow_succ,Nat.mul_comm,←Nat.div_div_eq_div_mul];exact h2 j (by omega)
theorem B_ {m:Nat} (h:m<256^8):m/256^kB m=0∧∀j,j<kB m→0<m/256^j:=B9 8 m h
def kS (u:Nat):List UInt8→Nat
 |[]=>u
 |c::l=>kS (u*256+c.toNat) l
structure gZ where
 at_:Nat
 e:Int
def iY (b:List UInt8) (s:gZ):Int×gZ:=
 if s.e≠0 then(0,s) else
 match b.drop s.at_ with
 |[]=>(0,⟨s.at_,3⟩)
 |k::rest=>
  if 8<k.toNat then(0,⟨s.at_,4⟩)
  else if rest.length<k.toNat then(0,⟨s.at_,3⟩)
  else if(0<k.toNat∧rest.head?=some 0)∨9223372036854775808≤kS 0 (rest.take k.toNat) then(0,⟨s.at_,4⟩)
  else((kS 0 (rest.take k.toNat):Nat),⟨s.at_+1+k.toNat,0⟩)
def b7 (b:List UInt8) (most:Int) (s:gZ):Int×gZ:=
 if(iY b s).2.e=0∧(iY b s).1>most then(0,⟨s.at_,2⟩) else iY b s
def eV (b:List UInt8) (most:Int) (s:gZ):List UInt8×gZ:=
 if(b7 b most s).2.e≠0 then([],(b7 b most s).2)
 else if((b.length:Int)-(b7 b most s).2.at_)<(b7 b most s).1 then([],⟨s.at_,3⟩)
 else((b.drop (b7 b most s).2.at_).take (b7 b most s).1.toNat,⟨(b7 b most s).2.at_+(b7 b most s).1.toNat,0⟩)
def GY (b:List UInt8) (s:gZ):gZ:=if s.e=0∧s.at_<b.length then⟨s.at_,5⟩ else s
def gp (b:List UInt8) (most:Int) (s:gZ):Int×gZ:=
 if(b7 b most s).2.e=0∧(b7 b most s).1>(b.length:Int)-(b7 b most s).2.at_ then((b7 b most s).1,⟨s.at_,3⟩) else b7 b most s
def gZ.ok (b:List UInt8) (s:gZ):Prop:=s.at_≤b.length
theorem BT {b:List UInt8} {s:gZ} (h:s.ok b):(iY b s).2.ok b∧s.at_≤(iY b s).2.at_∧0≤(iY b s).1∧(iY b s).1<9223372036854775808∧((iY b s).2.e≠0→(iY b s).1=0∧(iY b s).2.at_=s.at_):=by
 unfold iY gZ.ok at*
 split
 ·exact⟨h,Nat.le_refl _,by simp,by simp,fun _=>⟨rfl,rfl⟩⟩
 ·split
  ·exact⟨h,Nat.le_refl _,by simp,by simp,fun _=>⟨rfl,rfl⟩⟩
  ·rename_i k rest hd;have hl:=congrArg List.length hd;simp only[List.length_drop,List.length_cons] at hl
   split
   ·exact⟨h,Nat.le_refl _,by simp,by simp,fun _=>⟨rfl,rfl⟩⟩
   ·split
    ·exact⟨h,Nat.le_refl _,by simp,by simp,fun _=>⟨rfl,rfl⟩⟩
    ·split
     ·exact⟨h,Nat.le_refl _,by simp,by simp,fun _=>⟨rfl,rfl⟩⟩
     ·rename_i h5;have:¬9223372036854775808≤kS 0 (rest.take k.toNat):=fun h=>h5 (.inr h);exact⟨by show s.at_+1+k.toNat≤_;omega,by show s.at_≤s.at_+1+k.toNat;omega,by simp only;omega,by simp only;omega,fun h=>absurd rfl h⟩
end Go.Proofs.YthahmilhpmfkfaaGreat
namespace Go.Proofs.YthahmilhpmfkfaaGreat
open Go.V Go
def gm (fr:Go.V.Fr) (k:Nat):Go.V.D:=Go.V.nth .bf fr.loc k
def JN (s0 st:St) (d:D) (b:List UInt8):Prop:=Has s0.bs.length s0 st [.aB d 1 (V.byteCells b)]
theorem JN.over {N:Nat} {S s0 st:St} {H:List aZ} {d:D} {b:List UInt8} (h:JN s0 st d b) (hH:Has N S s0 H):Has N S st (.aB d 1 (V.byteCells b)::H):=hH.Md h
theorem Bg (a b:List UInt8):V.byteCells (a++b)=V.byteCells a++V.byteCells b:=by unfold V.byteCells;rw[List.map_append]
theorem G2 (k:Nat) (hk:k<2^63) (st:St):jF pv 3 78 (.int .i64 (k:Nat)) st=some (.int .u64 (k:Nat),st):=by
 show some (D.int .u64 (aW .u64 (k:Nat)),st)=_;rw[bH (by simp only[gv];omega)]
theorem BW (k:Nat) (hk:k≤8) (st:St):(gW pv .mul 78 (.int .u64 8) (.int .u64 (k:Nat))).map (fun d=>(d,st))=some (.int .u64 ((8*k:Nat):Int),st):=by
 show Option.map _ (some (D.int .u64 (aW .u64 (8*(k:Nat)))))=_;rw[show(8:Int)*(k:Nat)=((8*k:Nat):Int) by omega,bH (by simp only[gv];omega)];rfl
theorem OI (m k:Nat):Int.fdiv (m:Nat) (2^(8*k))=((m/256^k:Nat):Int):=by
 have e:((2:Int)^(8*k))=((256^k:Nat):Int):=by
  rw[Int.pow_mul,Int.natCast_pow];rfl
 rw[e,Int.fdiv_eq_ediv_of_nonneg _ (Int.natCast_nonneg _)];rfl
theorem BE (m k:Nat) (hk:k≤8) (st:St):(gW pv .shr 133 (.int .u64 (m:Nat)) (.int .u64 ((8*k:Nat):Int))).map (fun d=>(d,st))=some (.int .u64 ((m/256^k:Nat):Int),st):=by
 show Option.map _ (if((8*k:Nat):Int)<0 then none else some (D.int .u64 (Int.fdiv (m:Nat) (2^(min ((8*k:Nat):Int).toNat 64)))))=_;rw[if_neg (by omega),Int.toNat_natCast,Nat.min_eq_left (by omega),OI];rfl
theorem OR {q:Nat} (hq:q<256):V.byteCells [UInt8.ofNat q]=[[D.int .u8 (q:Nat)]]:=by
 show[[D.int .u8 ((UInt8.ofNat q).toNat:Nat)]]=_;rw[UInt8.toNat_ofNat',Nat.mod_eq_of_lt hq]
theorem L0 {q:Nat}:V.byteCells [UInt8.ofNat q]=[[D.int .u8 ((q %256:Nat):Int)]]:=by
 show[[D.int .u8 ((UInt8.ofNat q).toNat:Nat)]]=_;rw[UInt8.toNat_ofNat']
theorem Kn (q:Nat):aW .u8 (q:Nat)=((q %256:Nat):Int):=by
 rw[hU];rfl
theorem LS (q:Nat) (st:St):jF pv 133 5 (.int .u64 (q:Nat)) st=some (.int .u8 ((q %256:Nat):Int),st):=by
 show some (D.int .u8 (aW .u8 (q:Nat)),st)=_;rw[Kn]
theorem xl {s0:St} {x:D} {b:List UInt8} (hF:s0.flr≤s0.bs.length) (eG:s0.ro≤s0.bs.length) (hx:V.Rows s0 1 x (V.byteCells b)) (hl:b.length≤68719476736) (room:Nat) (hr:room≤68719476736):
  ∃d ah,Ev pv 54 [x,.int .i64 (room:Nat)] s0 d ah∧JN s0 ah d b:=by
 have Lz:=aI b;refine Ev.jN rfl SF rfl rfl rfl ?_;refine zE ?_;have aU:(ag .nw s0).bs=s0.bs:=rfl;have hF:(ag .nw s0).flr≤s0.bs.length:=hF;have hH:Has s0.bs.length (ag .nw s0) (ag .nw s0) []:=Has.start (Nat.le_refl _) (Nat.le_refl _);generalize ag .nw s0=S at*;have hx:=Arg.of hx aU;refine zQ 7 ?_;refine qn ?_;refine qm ?_;refine ae.eN (z:=((b.length+room:Nat):Int)) rfl (ev rfl) (ev rfl) (by(try simp only[List.length_reverse,List.length_cons,List.length_nil,List.length_append,List.length_map,List.length_set]);rw[wrap_i64 (by omega) (by omega)]<;>omega) (aa rfl _) ?_;refine ae.Gm (s:=1) hH rfl (ev rfl) (ev rfl) rfl rfl rfl rfl rfl (Nat.le_of_ble_eq_true rfl) (by omega) (fun _=>(aa rfl _)) (fun k10 st Ru hH=>?_);refine zQ 6 ?_;refine ae.n9 (s:=1) hH rfl (ev rfl) (ev rfl) (by exact aG) (by exact Arg.rows (by assumption) hH) rfl rfl rfl rfl rfl rfl rfl ⟨(Nat.le_of_ble_eq_true rfl),(Nat.le_of_ble_eq_true rfl)⟩ (fun _=>(aa rfl _)) rfl (by simp only[List.length_nil]<;>omega) (by exact .inl hF) (fun XV st hH=>?_);dsimp only[u2,u1,u3,u4,setMany,u5,u6,D.cells,Nat.reduceAdd] at hH;refine zQ 2 ?_;refine ai.ret ⟨rx,_,_,_,rfl,rfl,?_⟩;exact hH.wA aU eG
theorem Bq {s0:St} {x:D} {b:List UInt8} (hF:s0.flr≤s0.bs.length) (eG:s0.ro≤s0.bs.length) (hx:V.Rows s0 1 x (V.byteCells b)) (hl:b.length≤60000000000) (n:Int) (hn:n<9223372036854775808):
  ∃d ah,Ev pv 53 [x,.int .i64 n] s0 d ah∧JN s0 ah d (b++ga n):=by
 obtain⟨m,hm⟩:∃m,n.toNat=m:=⟨_,rfl⟩
 have Gn:m<256^8:=by omega
 obtain⟨lG,hk2⟩:=B_ Gn;have Rf:=F2 m;have Mi:ga n=UInt8.ofNat (kB m)::xe (kB m) m:=by unfold ga;rw[hm]
 have Lz:=aI b;rw[Mi];refine Ev.jN rfl SG rfl rfl rfl ?_;refine zE ?_;have aU:(ag .nw s0).bs=s0.bs:=rfl;have hF:(ag .nw s0).flr≤s0.bs.length:=hF;have hH:Has s0.bs.length (ag .nw s0) (ag .nw s0) []:=Has.start (Nat.le_refl _) (Nat.le_refl _);generalize ag .nw s0=S at*;have hx:=Arg.of hx aU;refine zQ 7 ?_;obtain⟨d5,st,aC,ho⟩:=xl (s0:=S) (x:=x) (b:=b) (by rw[aU];exact hF) (by rw[aU];exact hH.eG) (hx.rows hH) (by omega) 9 (by omega);have hH:=hH.Md ho
 (try dsimp only[List.append_nil] at hH)
 refine qv aC ?_;refine zQ 5 ?_;refine ae.Iz (t1:=0) (t2:=0) rfl (ev rfl) (ev rfl) (aa rfl _) ?_;refine ae.go (d:=.int .u64 (m:Nat)) (st1:=_) rfl rfl (by show some (D.int .u64 (aW .u64 (max n 0)),_)=_;rw[show max n 0=(m:Int) by omega,bH (by simp only[gv];omega)]) (aa rfl _) ?_;refine zQ 8 ?_;refine ai.loop (fun mm fr st=>∃(k:Nat),fr.clean=⟨9,[gm fr 0,gm fr 1,gm fr 2,gm fr 3,gm fr 4,d5,.int .u64 (m:Nat),.int .i64 (k:Nat),gm fr 8],[]⟩∧Has s0.bs.length S st [.aB d5 1 (V.byteCells b)]∧(k+mm=kB m)) (kB m) ?_ ?_
 ·exact⟨0,rfl,hH,by omega⟩
 rintro mm fr st ⟨k,hfr,hH,hk⟩;rw[hfr];clear hfr;generalize gm fr=ee;clear fr;refine zQ 2 ?_;refine ai.mC 23 (.bool (decide (((k:Nat):Int)<8) &&decide (((m/256^k:Nat):Int)>0))) [] ?_ (fun ff tmp fv=>?_)
 ·refine zQ 3 ?_;refine ae.two 16 rfl (fun bN=>?_) (fun bN=>?_)
  ·refine zQ 2 ?_;refine ae.go (d:=.int .u64 (k:Nat)) (st1:=_) (aj rfl rfl rfl bN) rfl (by exact G2 k (by omega) _) (aa rfl _) ?_;refine ae.go (d:=.int .u64 ((8*k:Nat):Int)) (st1:=_) (aj rfl rfl rfl bN) rfl (by exact BW k (by omega) _) (aa rfl _) ?_;refine ae.go (d:=.int .u64 ((m/256^k:Nat):Int)) (st1:=_) (aj rfl rfl rfl bN) rfl (by exact BE m k (by omega) _) (aa rfl _) ?_;refine zQ 2 ?_;refine ae.nil (c_ ?_ ?_)
   ·dsimp only[bk,List.foldl,nth,u2,u1]
    all_goals(first|rfl|simp)
   ·refine zF ?_
    all_goals(simp[bN];done)
  ·refine zQ 7 ?_;refine ae.nil (c_ ?_ ?_)
   ·dsimp only[bk,List.foldl,nth,u2,u1]
    all_goals(first|rfl|simp)
   ·refine zF ?_
    all_goals(simp[bN];done)
 refine zG ?_
 by_cases hlt:k<kB m
 ·have hp:=hk2 k hlt
  have hct:(decide (((k:Nat):Int)<8) &&decide (((m/256^k:Nat):Int)>0))=true:=by
   rw[decide_eq_true (by omega),decide_eq_true (by omega)];rfl
  refine ai.cond (v:=true) (by dsimp only[Fr.ev,Fr.get,nth,V.look];exact fv.trans (congrArg D.bool hct)) (fun _=>?_) (fun h=>by cases h);refine zQ 7 ?_;exact⟨mm-1,by omega,⟨k+1,rfl,hH,by omega⟩⟩
 ·have Rc:k=kB m:=by omega
  subst Rc
  have eE:(decide (((kB m:Nat):Int)<8) &&decide (((m/256^kB m:Nat):Int)>0))=false:=by
   rw[lG];simp
  refine ai.cond (v:=false) (by dsimp only[Fr.ev,Fr.get,nth,V.look];exact fv.trans (congrArg D.bool eE)) (fun h=>by cases h) (fun _=>?_);refine zQ 5 ?_;refine ae.go (d:=.int .u8 (kB m:Nat)) (st1:=_) rfl rfl (by show some (D.int .u8 (aW .u8 (kB m:Nat)),_)=_;rw[bH (by simp only[gv];omega)]) (aa rfl _) ?_;refine qh (s:=1) (vs:=[_]) hH fun k29 st Rl hH=>?_;refine ae.n9 (s:=1) hH rfl (ev rfl) (ev rfl) (by exact aV) (by exact hH.rows (by exact aG)) rfl rfl rfl rfl rfl rfl rfl ⟨(Nat.le_of_ble_eq_true rfl),(Nat.le_of_ble_eq_true rfl)⟩ (fun _=>(aa rfl _)) rfl (by simp only[List.length_cons,List.length_nil,List.length_map]<;>omega) (by exact .inl hF) (fun PE st hH=>?_);dsimp only[u2,u1,u3,u4,setMany,u5,u6,D.cells,Nat.reduceAdd] at hH;refine zQ 2 ?_
  have hH:Has s0.bs.length S st [.aB PE 1 (V.byteCells (b++[UInt8.ofNat (kB m)]))]:=by
   rw[Bg,OR (by omega)];exact hH.drop 1
  refine zQ 4 ?_;refine ae.Ks rfl (ev rfl) (ev rfl) (by omega) (by omega) (aa rfl _) ?_;refine zQ 2 ?_;have hbl:∀j,(xe j m).length=j:=fun j=>ot j m
  obtain⟨T,hT⟩:∃T,b++UInt8.ofNat (kB m)::xe (kB m) m=T:=⟨_,rfl⟩
  have Uv:T.length=b.length+kB m+1:=by rw[←hT];simp[hbl];omega
  refine zQ 1 ?_;refine ai.loop (fun mm fr st=>∃(j:Nat) (y:D) (pre:List UInt8),fr.clean=⟨9,[gm fr 0,gm fr 1,gm fr 2,gm fr 3,gm fr 4,y,.int .u64 (m:Nat),gm fr 7,.int .i64 ((j:Int)-1)],[]⟩∧Has s0.bs.length S st [.aB y 1 (V.byteCells pre)]∧(j=mm)∧(j≤kB m)∧(pre++xe j m=T)) (kB m) ?_ ?_
  ·exact⟨kB m,PE,b++[UInt8.ofNat (kB m)],rfl,hH,rfl,Nat.le_refl _,(by rw[←hT,List.append_assoc];rfl)⟩
  rintro mm fr st ⟨j,y,pre,hfr,hH,hj,Yy,hp⟩;rw[hfr];clear hfr;generalize gm fr=ee;clear fr;have lg:pre.length+j=T.length:=by rw[←hp,List.length_append,hbl]
  have YK:=aI pre;refine zQ 6 ?_
  cases j with
  |succ j=>
   have hc:decide (((j+1:Nat):Int)-1≥0)=true:=by rw[decide_eq_true_eq];omega
   refine qD rfl (by rw[hc]) ?_;refine zQ 1 ?_;have Ln:((j+1:Nat):Int)-1=(j:Nat):=by omega
   rw[Ln];have hq:m/256^j %256<256:=Nat.mod_lt _ (by decide);refine zQ 6 ?_;refine ae.go (d:=.int .u64 (j:Nat)) (st1:=_) rfl rfl (by exact G2 j (by omega) _) (aa rfl _) ?_;refine ae.go (d:=.int .u64 ((8*j:Nat):Int)) (st1:=_) rfl rfl (by exact BW j (by omega) _) (aa rfl _) ?_;refine ae.go (d:=.int .u64 ((m/256^j:Nat):Int)) (st1:=_) rfl rfl (by exact BE m j (by omega) _) (aa rfl _) ?_;refine ae.go (d:=.int .u8 ((m/256^j %256:Nat):Int)) (st1:=_) rfl rfl (by exact LS _ _) (aa rfl _) ?_;refine qh (s:=1) (vs:=[_]) hH fun k44 st WL hH=>?_;refine ae.n9 (s:=1) hH rfl (ev rfl) (ev rfl) (by exact aV) (by exact hH.rows (by exact aG)) rfl rfl rfl rfl rfl rfl rfl ⟨(Nat.le_of_ble_eq_true rfl),(Nat.le_of_ble_eq_true rfl)⟩ (fun _=>(aa rfl _)) rfl (by simp only[List.length_cons,List.length_nil,List.length_map]<;>omega) (by exact .inl hF) (fun TE st hH=>?_);dsimp only[u2,u1,u3,u4,setMany,u5,u6,D.cells,Nat.reduceAdd] at hH;refine zQ 2 ?_
   have hH:Has s0.bs.length S st [.aB TE 1 (V.byteCells (pre++[UInt8.ofNat (m/256^j)]))]:=by
    rw[Bg,L0];exact hH.drop 1
   refine zQ 2 ?_;refine ae.mQ (z:=((j:Int)-1)) rfl (ev rfl) (ev rfl) (by(try simp only[List.length_reverse,List.length_cons,List.length_nil,List.length_append,List.length_map,List.length_set]);rw[wrap_i64 (by omega) (by omega)]<;>omega) (aa rfl _) ?_;refine zQ 2 ?_;exact⟨j,by omega,⟨j,TE,pre++[UInt8.ofNat (m/256^j)],rfl,hH,rfl,by omega,(by rw[List.append_assoc];exact hp)⟩⟩
  |zero=>
   have hc:decide (((0:Nat):Int)-1≥0)=false:=rfl;refine qE rfl (by rw[hc]) ?_;refine zQ 1 ?_;have QJ:pre=T:=by rw[←hp];simp[xe]
   subst QJ;refine zQ 5 ?_;refine ai.ret ⟨rx,_,_,_,rfl,rfl,?_⟩;rw[hT];exact hH.wA aU eG
end Go.Proofs.YthahmilhpmfkfaaGreat
namespace Go.Proofs.YthahmilhpmfkfaaGreat
open Go.V Go
end Go.Proofs.YthahmilhpmfkfaaGreat
namespace Go.Proofs.YthahmilhpmfkfaaGreat
open Go.V Go
end Go.Proofs.YthahmilhpmfkfaaGreat
namespace Go.Proofs.YthahmilhpmfkfaaGreat
open Go.V Go
/- the plain law: the two ways to look at the first rune -/
end Go.Proofs.YthahmilhpmfkfaaGreat
namespace Go.Proofs.YthahmilhpmfkfaaGreat
open Go.V Go
end Go.Proofs.YthahmilhpmfkfaaGreat
namespace Go.Proofs.YthahmilhpmfkfaaGreat
open Go.V Go
end Go.Proofs.YthahmilhpmfkfaaGreat
namespace Go.Proofs.YthahmilhpmfkfaaGreat
open Go.V Go
def nr (b:List UInt8):D:=.sl ((V.byteCells b).map (kY 1))
theorem ua (b:List UInt8):∀e∈V.byteCells b,e.length=1:=by
 intro e he;obtain⟨y,_,rfl⟩:=List.mem_map.1 he;rfl
theorem iF (b:List UInt8):∀e∈V.byteCells b,∀d∈e,b_ d=true:=by
 intro e he d hd;obtain⟨y,_,rfl⟩:=List.mem_map.1 he;simp only[List.mem_cons,List.not_mem_nil,or_false] at hd;subst hd;rfl
end Go.Proofs.YthahmilhpmfkfaaGreat
namespace Go.Proofs.YthahmilhpmfkfaaGreat
open Go.V Go
def gg (t:List UInt8):List UInt8:=ga (t.length:Nat)++t
theorem rz {s0:St} {x:D} {b t:List UInt8} (hx:V.Rows s0 1 x (V.byteCells b)) (hl:b.length≤50000000000) (ht:t.length≤1048576):
  Ev pv 28 [x,.str t] s0 (nr (b++gg t)) s0:=by
 have Lg:=nQ (t.length:Nat);refine Ev.iZ rfl S6 rfl rfl rfl ?_;refine zE ?_;obtain⟨aU,hF,hH⟩:=ri s0;generalize ag .ro s0=S at*;have hx:=Arg.of hx aU;refine zQ 4 ?_;obtain⟨wT,wS⟩:=hH.Jj hF;refine zQ 4 ?_;refine ae.jY rfl rfl rfl (aa rfl _) ?_;refine ae.eN (z:=((9+t.length:Nat):Int)) rfl (ev rfl) (ev rfl) (by(try simp only[List.length_reverse,List.length_cons,List.length_nil,List.length_append,List.length_map,List.length_set]);rw[wrap_i64 (by omega) (by omega)]<;>omega) (aa rfl _) ?_;obtain⟨d10,st,aC,ho⟩:=xl (x:=x) (b:=b) wT wS (hx.rows hH) (by omega) (9+t.length) (by omega);have hH:=hH.Md ho
 (try dsimp only[u3,u4] at hH)
 refine qv aC ?_;refine qm ?_;refine ae.jY rfl rfl rfl (aa rfl _) ?_;obtain⟨wT,wS⟩:=hH.Jj hF;obtain⟨d13,st,aC,ho⟩:=Bq (x:=d10) (b:=b) wT wS (hH.rows aG) (by omega) (t.length:Nat) (by omega);have hH:=hH.Md ho
 (try dsimp only[u3,u4] at hH)
 refine qv aC ?_;refine zQ 2 ?_;have hbl:(V.byteCells (b++ga (t.length:Nat))).length=b.length+(ga (t.length:Nat)).length:=by rw[aI,List.length_append]
 refine zQ 4 ?_;refine ae.GI hH rfl (ev rfl) (ev rfl) aG rfl rfl rfl rfl rfl rfl rfl ⟨(Nat.le_of_ble_eq_true rfl),(Nat.le_of_ble_eq_true rfl)⟩ (fun _=>(aa rfl _)) rfl (by omega) (fun UT st hH=>?_);dsimp only[u2] at hH;refine zQ 2 ?_
 have hH:Has s0.bs.length S st (.aB UT 1 (V.byteCells (b++gg t))::[.aB d10 1 (V.byteCells b)]):=by
  unfold gg;rw[←List.append_assoc,Bg];exact hH
 refine ai.ret ⟨rx,_,rfl,rl aU hH ?_⟩;exact hH.w5 aG (iF _) (by decide)
end Go.Proofs.YthahmilhpmfkfaaGreat
namespace Go.Proofs.YthahmilhpmfkfaaGreat
open Go.V Go
def bA (fr:Go.V.Fr) (k:Nat):Go.V.D:=Go.V.nth .bf fr.loc k
def oz (s:BitVec 32):D:=.int .u32 (s.toNat:Nat)
def Jv (s:BitVec 32):BitVec 32:=if s &&&1#32=1#32 then(s>>>1)^^^2197175160#32 else s>>>1
def A7:Nat→BitVec 32→BitVec 32
 |0,s=>s
 |k+1,s=>A7 k (Jv s)
def G3:BitVec 32→List UInt8→BitVec 32
 |s,[]=>s
 |s,c::l=>G3 (A7 8 (s^^^BitVec.ofNat 32 c.toNat)) l
def te (c : BitVec 32) (b : List UInt8) : BitVec 32 := ~~~ (G3 (~~~ c) b)
theorem wrap32 {n:Nat} (h:n<2^32):aW .u32 (n:Nat)=(n:Int):=bH (by simp only[gv];omega)
theorem FH (a:BitVec 32):BitVec.ofInt 32 (a.toNat:Nat)=a:=by
 rw[BitVec.ofInt_natCast,BitVec.ofNat_toNat,BitVec.setWidth_eq]
theorem EA (a b:BitVec 32) (st:St):(gW pv .xor 76 (oz a) (oz b)).map (fun d=>(d,st))=some (oz (a^^^b),st):=by
 show Option.map _ (some (D.int .u32 (aW .u32 ((BitVec.ofInt 32 (a.toNat:Nat)^^^BitVec.ofInt 32 (b.toNat:Nat)).toNat:Nat))))=_;rw[FH,FH,wrap32 (BitVec.isLt _)];rfl
theorem Ho (a b:BitVec 32) (st:St):(gW pv .and 76 (oz a) (oz b)).map (fun d=>(d,st))=some (oz (a &&&b),st):=by
 show Option.map _ (some (D.int .u32 (aW .u32 ((BitVec.ofInt 32 (a.toNat:Nat) &&&BitVec.ofInt 32 (b.toNat:Nat)).toNat:Nat))))=_;rw[FH,FH,wrap32 (BitVec.isLt _)];rfl
theorem FK (a:BitVec 32) (st:St):(O1 .xor (oz a)).map (fun d=>(d,st))=some (oz (~~~a),st):=by
 show Option.map _ (some (D.int .u32 (aW .u32 ((BitVec.ofInt 32 4294967295^^^BitVec.ofInt 32 (a.toNat:Nat)).toNat:Nat))))=_;rw[FH,show BitVec.ofInt 32 4294967295=BitVec.allOnes 32 from rfl,BitVec.allOnes_xor,wrap32 (BitVec.isLt _)];rfl
theorem Kv (a:BitVec 32) (st:St):(gW pv .shr 76 (oz a) (.int .u64 1)).map (fun d=>(d,st))=some (oz (a>>>1),st):=by
 show Option.map _ (some (D.int .u32 (Int.fdiv (a.toNat:Nat) (2^1))))=_;rw[Int.fdiv_eq_ediv_of_nonneg _ (by decide)];show some (D.int .u32 ((a.toNat/2:Nat):Int),st)=_;rw[oz,BitVec.toNat_ushiftRight,Nat.shiftRight_succ,Nat.shiftRight_zero]
theorem OP (c:UInt8) (st:St):jF pv 5 76 (.int .u8 (c.toNat:Nat)) st=some (oz (BitVec.ofNat 32 c.toNat),st):=by
 show some (D.int .u32 (aW .u32 (c.toNat:Nat)),st)=_;have h:c.toNat<256:=c.toNat_lt;rw[wrap32 (by omega),oz,BitVec.toNat_ofNat,Nat.mod_eq_of_lt (by omega)]
theorem JU {s0:St} {x:D} {b:List UInt8} (hx:V.Rows s0 1 x (V.byteCells b)) (hl:b.length≤1000000000000) (c:BitVec 32):Ev pv 34 [oz c,x] s0 (oz (te c b)) s0:=by
 have Lz:=aI b;refine Ev.iZ rfl SZ rfl rfl rfl ?_;refine zE ?_;obtain⟨aU,hF,hH⟩:=ri s0;generalize ag .ro s0=S at*;have hx:=Arg.of hx aU;refine zQ 7 ?_;refine ae.go (d:=oz (~~~c)) (st1:=_) rfl rfl (by exact FK c _) (by dsimp only[Fr.put,u1,u2]<;>rfl) ?_;refine zQ 6 ?_;refine qn ?_;refine zQ 2 ?_
 obtain⟨R,hR⟩:∃R,G3 (~~~c) b=R:=⟨_,rfl⟩
 refine zQ 1 ?_;refine ai.loop (fun mm fr st=>∃(i:Nat) (s:BitVec 32),fr.clean=⟨22,[bA fr 0,bA fr 1,bA fr 2,bA fr 3,bA fr 4,oz s,bA fr 6,bA fr 7,bA fr 8,bA fr 9,bA fr 10,x,.int .i64 ((V.byteCells b).length:Nat),.int .i64 (i:Nat),bA fr 14,bA fr 15,bA fr 16,bA fr 17,bA fr 18,bA fr 19,bA fr 20,bA fr 21],[]⟩∧Has s0.bs.length S st []∧(i+mm=b.length)∧(G3 s (b.drop i)=R)) (b.length) ?_ ?_
 ·exact⟨0,~~~c,rfl,hH,by omega,hR⟩
 rintro mm fr st ⟨i,s,hfr,hH,hi,hs⟩;rw[hfr];clear hfr;generalize bA fr=ee;clear fr;refine zQ 5 ?_;refine zP (fun h1=>?_) fun h1=>?_
 ·refine zQ 1 ?_
  obtain⟨q,hq⟩:∃q,b[i]?=some q:=⟨b[i]'(by omega),List.getElem?_eq_getElem _⟩
  have gr:(V.byteCells b)[i]?=some [.int .u8 (q.toNat:Nat)]:=by unfold V.byteCells;rw[List.getElem?_map,hq];rfl
  have yU:b.drop i=q::b.drop (i+1):=by
   have:=List.drop_eq_getElem_cons (l:=b) (i:=i) (by omega);rw[this];congr 1;rw[List.getElem?_eq_getElem (by omega)] at hq;exact Option.some.inj hq
  rw[yU] at hs;change G3 (A7 8 (s^^^BitVec.ofNat 32 q.toNat)) (b.drop (i+1))=R at hs;refine zQ 4 ?_;refine qr fun PZ La=>?_;refine zQ 7 ?_;refine ae.go (d:=oz (BitVec.ofNat 32 q.toNat)) (st1:=_) rfl rfl (by exact OP q _) (by dsimp only[Fr.put,u1,u2]<;>rfl) ?_;refine ae.go (d:=oz (s^^^BitVec.ofNat 32 q.toNat)) (st1:=_) rfl rfl (by exact EA _ _ _) (by dsimp only[Fr.put,u1,u2]<;>rfl) ?_;refine zQ 2 ?_;generalize s^^^BitVec.ofNat 32 q.toNat=s1 at*;refine zQ 5 ?_;refine ai.loop (fun mm fr st=>∃(j:Nat) (s2:BitVec 32),fr.clean=⟨22,[bA fr 0,bA fr 1,bA fr 2,bA fr 3,bA fr 4,oz s2,bA fr 6,bA fr 7,bA fr 8,bA fr 9,bA fr 10,x,.int .i64 ((V.byteCells b).length:Nat),.int .i64 (i:Nat),bA fr 14,bA fr 15,bA fr 16,bA fr 17,bA fr 18,bA fr 19,bA fr 20,.int .i64 (j:Nat)],[]⟩∧Has s0.bs.length S st []∧(j+mm=8)∧(A7 (8-j) s2=A7 8 s1)) (8) ?_ ?_
  ·exact⟨0,s1,rfl,hH,by omega,rfl⟩
  rintro mm fr st ⟨j,s2,hfr,hH,hj,ht⟩;rw[hfr];clear hfr;generalize bA fr=ee;clear fr;refine zQ 5 ?_;refine zP (fun h2=>?_) fun h2=>?_
  ·refine zQ 1 ?_;have hk:8-j=(8-(j+1))+1:=by omega
   rw[hk] at ht;change A7 (8-(j+1)) (Jv s2)=_ at ht;refine zQ 5 ?_;refine ae.go (d:=oz (s2 &&&1#32)) (st1:=_) rfl rfl (by exact Ho s2 1#32 _) (aa rfl _) ?_;refine zQ 5 ?_;refine ae.go (d:=oz (s2>>>1)) (st1:=_) rfl rfl (by exact Kv s2 _) (aa rfl _) ?_;refine zQ 7 ?_
   by_cases hb:s2 &&&1#32=1#32
   ·have hc:((((s2 &&&1#32).toNat:Nat):Int)==1)=true:=by rw[hb];rfl
    refine ai.cond (v:=true) (by dsimp only[Fr.ev,Fr.get,nth,V.look];exact congrArg D.bool hc) (fun _=>?_) (fun h=>by cases h);refine zQ 2 ?_;refine ae.go (d:=oz ((s2>>>1)^^^2197175160#32)) (st1:=_) rfl rfl (by exact EA (s2>>>1) 2197175160#32 _) (aa rfl _) ?_;refine zQ 2 ?_;rw[Jv,if_pos hb] at ht;refine zQ 4 ?_;exact⟨mm-1,by omega,⟨j+1,_,rfl,hH,by omega,ht⟩⟩
   ·have hc:((((s2 &&&1#32).toNat:Nat):Int)==1)=false:=by
     rw[beq_eq_false_iff_ne];intro h;exact hb (BitVec.eq_of_toNat_eq (by have e:(1#32).toNat=1:=rfl;omega))
    refine ai.cond (v:=false) (by dsimp only[Fr.ev,Fr.get,nth,V.look];exact congrArg D.bool hc) (fun h=>by cases h) (fun _=>?_);refine zQ 1 ?_;rw[Jv,if_neg hb] at ht;refine zQ 4 ?_;exact⟨mm-1,by omega,⟨j+1,_,rfl,hH,by omega,ht⟩⟩
  ·refine zQ 1 ?_;have WX:j=8:=by omega
   subst WX;have ht:s2=A7 8 s1:=ht;rw[←ht] at hs;refine zQ 4 ?_;exact⟨b.length-(i+1),by omega,⟨i+1,s2,rfl,hH,by omega,hs⟩⟩
 ·refine zQ 1 ?_;have hil:b.drop i=[]:=List.drop_eq_nil_of_le (by omega);rw[hil] at hs;have hs:s=R:=hs;subst hs;refine zQ 3 ?_;refine ae.go (d:=oz (~~~s)) (st1:=_) rfl rfl (by exact FK s _) (aa rfl _) ?_;refine zQ 2 ?_;unfold te;rw[hR];refine ai.ret ⟨rx,_,rfl,rl aU hH (rfl)⟩
end Go.Proofs.YthahmilhpmfkfaaGreat
namespace Go.Proofs.YthahmilhpmfkfaaGreat
open Go.V Go
theorem f_ (b:List UInt8) (st:St):V.Rows st 1 (nr b) (V.byteCells b):=(gY.frozen (ua b) (iF b)).rows st
theorem Cw {α:Type} {f:α→List UInt8} {n:Nat}:∀{l:List α},(∀x∈l,(f x).length≤n)→((l.map f).flatten).length≤n*l.length
 |[],_=>by simp
 |x::l,h=>by
  have ih:=Cw (l:=l) fun y hy=>h y (List.mem_cons_of_mem _ hy);have:=h x (List.mem_cons_self ..);simp only[List.map_cons,List.flatten_cons,List.length_append,List.length_cons,Nat.mul_add,Nat.mul_one];omega
theorem Ji {α:Type} {f:α→List UInt8} {l:List α} {i:Nat} {x:α} (h:l[i]?=some x):(((l.take (i+1)).map f).flatten)=((l.take i).map f).flatten++f x:=by
 rw[List.take_add_one,h,Option.toList_some,List.map_append,List.flatten_append];simp
structure aK.fit (i:aK):Prop where
 op:i.op<9223372036854775808
 x:i.x<9223372036854775808
 y:i.y<9223372036854775808
 r:∀g∈i.rs,-2147483648≤g.1∧g.1≤2147483647∧-2147483648≤g.2∧g.2≤2147483647
end Go.Proofs.YthahmilhpmfkfaaGreat
