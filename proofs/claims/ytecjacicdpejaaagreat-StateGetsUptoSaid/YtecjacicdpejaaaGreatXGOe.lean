/-
 The document's reader: places, threads, lists.
-/
import Derived.Test.YtecjacicdpejaaaGreatXGHr
import Derived.Test.YtecjacicdpejaaaGreatXGOa
import Derived.Test.YtecjacicdpejaaaGreatXGUp
import Derived.Test.YtecjacicdpejaaaGreatXGYd
import Derived.Test.YtecjacicdpejaaaGreatXGJp
set_option maxRecDepth 100000
set_option maxHeartbeats 4000000
set_option linter.unusedSimpArgs false
set_option linter.unusedVariables false
namespace Go.Proofs.YtecjacicdpejaaaGreat
open Go.V Go
def kh (fr:Go.V.Fr) (k:Nat):Go.V.D:=Go.V.nth .bI fr.loc k
theorem MK {N:Nat} {S st:St} {H:List bo} {j:Nat} {x:D} {s:Nat} {ks:Nat→Prop} {vs:List (List D)} (hH:Has N S st H) (hj:H[j]?=some (.deep ks x s vs)):∃es,Has N S st [.aF x s es]:=by
 obtain⟨⟨es,jY,y_⟩,he3⟩:=(hH.ok j _ hj).1;have hK:=(hH.ok j _ hj).2;refine⟨es,hH.ex,hH.hN,hH.du,fun i e hi=>?_,fun i i' a b hii ha hb k sX kQ=>?_⟩
 ·cases i with
  |zero=>simp only[List.getElem?_cons_zero,Option.some.injEq] at hi;subst hi;exact⟨jY,fun k hk=>hK k (.inl hk)⟩
  |succ i=>simp at hi
 ·cases i with
  |zero=>cases i' with
   |zero=>exact hii rfl
   |succ i'=>simp at hb
  |succ i=>simp at ha
theorem B8 {N:Nat} {S st:St} {H:List bo} {P:Pv} {j:Nat} {x y:D} {s:Nat} {ks:Nat→Prop} {vs ys Kp:List (List D)} (hH:Has N S st H) (hj:H[j]?=some (.deep ks x s vs)) (hy:V.Rows st s y ys) (hd:dN (dN (gb st ks)) ys Kp) {t1 t2 e:TypeId} {td:TypeDesc} {inf:TypeInfo} {z:List D}
  (h1:P.db t1=some (.slice e)) (h2:P.db t2=some td) (h3:gD td=false) (h4:P.info e=some inf) (h5:ec P e=some z) (h6:inf.size=s) (h7:z.length=s) (h8:0<inf.bytes∧inf.bytes≤1024)
  (nN:vs.length+ys.length≤1073741824) (hw:S.flr≤S.bs.length∨refs ys.flatten=0) (h0:∀k,x.ref=k+1→S.bs.length≤k):
  ∃x' ai,bW P .append [t1,t2] [x,y] st=some (x',ai)∧Has N S ai (H.set j (.deep ks x' s (vs++Kp))):=by
 obtain⟨⟨es,jY,y_⟩,he3⟩:=(hH.ok j _ hj).1;have hK:=(hH.ok j _ hj).2;have hlen:=y_.len
 have za:Has S.bs.length st st [.aF x s es]:=by
  refine⟨Ex.refl _ _,hH.ex.len,by rw[hH.ex.ro];exact Nat.le_trans hH.du hH.hN,fun i e hi=>?_,fun i i' a b hii ha hb k sX kQ=>?_⟩
  ·cases i with
   |zero=>simp only[List.getElem?_cons_zero,Option.some.injEq] at hi;subst hi;exact⟨jY,fun k hk=>⟨h0 k hk,(hK k (.inl hk)).2⟩⟩
   |succ i=>simp at hi
  ·cases i with
   |zero=>cases i' with
    |zero=>exact hii rfl
    |succ i'=>simp at hb
   |succ i=>simp at ha
 obtain⟨x',ai,q1,q2,q3⟩:=za.append (j:=0) aB hy h1 h2 h3 h4 h5 h6 h7 h8 (by omega) (by rw[hH.ex.flr];exact hw);refine⟨x',ai,q1,?_⟩;have hown:=q2.own (j:=0) aB
 have V2:(∀k,k<st.bs.length→x.ref≠k+1→ai.bs[k]?=st.bs[k]?)∧st.bs.length≤ai.bs.length∧ai.flr=st.flr∧ai.ro=st.ro∧(∀k,x'.ref=k+1→x.ref=k+1∨st.bs.length≤k):=by
  have kL:=hy.row
  have zj:∀e∈ys,e.length=s:=fun e he=>by
   obtain⟨i,hi⟩:=List.getElem?_of_mem he;exact hy.yD i e hi
  simp only[bW,jV,h1,h2,h3,Bool.false_eq_true,if_false,h4,h5,kL,Option.bind_some] at q1
  split at q1
  ·cases q1
  ·cases jY with
   |nul=>
    simp only at q1
    split at q1
    ·cases q1;exact⟨fun _ _ _=>rfl,Nat.le_refl _,rfl,rfl,fun k hk=>.inl hk⟩
    ·split at q1
     ·cases q1;exact⟨fun k hk _=>by simp only[St.push];rw[List.getElem?_append_left hk],by simp[St.push],rfl,rfl,fun k hk=>.inr (by simp only[D.ref] at hk;omega)⟩
     ·cases q1
   |win k aE off es c hm hl hc he=>
    simp only[St.mem_of hm] at q1
    split at q1
    ·cases q1
    ·split at q1
     ·cases q1;exact⟨fun _ _ _=>rfl,Nat.le_refl _,rfl,rfl,fun k hk=>.inl hk⟩
     ·split at q1
      ·cases q1;exact⟨fun n hn hne=>by simp only;rw[List.getElem?_set_ne (fun e=>hne (by simp only[D.ref];omega))],by simp,rfl,rfl,fun n hn=>.inl (by simp only[D.ref] at hn⊢;exact hn)⟩
      ·cases q1
 obtain⟨c1,c2,c3,c4,c5⟩:=V2;have UR:=(q2.ok 0 _ aB).2;have vz:∀k,ks k→ai.bs[k]?=st.bs[k]?:=fun k hk=>c1 k (hK k (.inr hk)).2 fun e=>he3 k e hk;refine hH.Fc hj (fun k hk hne=>c1 k hk fun e=>hne (.inl e)) c2 c3 c4 ⟨⟨es++ys,hown,?_⟩,fun k hk mA=>?_⟩ (fun k hk=>?_) fun k hk=>?_
 ·exact(y_.mono fun a b=>dN.mono fun c d=>gb.move vz).append (hd.mono fun a b=>dN.mono fun c d=>gb.move vz)
 ·rcases c5 k hk with h|h
  ·exact he3 k h mA
  ·have:=(hK k (.inr mA)).2;omega
 ·rcases hk with hk|hk
  ·rcases c5 k hk with h|h
   ·exact .inl (.inl h)
   ·exact .inr h
  ·exact .inl (.inr hk)
 ·rcases hk with hk|hk
  ·exact(UR k hk).2
  ·exact Nat.lt_of_lt_of_le (hK k (.inr hk)).2 c2
theorem kN {N:Nat} {S st:St} {H:List bo} {P:Pv} {ops:Array Oper} {rest:List Oper} {fr:Fr} {Q:Fr→St→Prop} {ty:TypeId} {pp:String} {a:Array Edge} {g:Option (Nat×Bool)} {j k aE off:Nat} {ar:Bool} {c cs:List D} {v:D} {t:TypeId} {ao vo:Operand} (hH:Has N S st H) (hg:aH ops fr ⟨none,.store t ao vo,ty,pp,a,g⟩=some true) (ha:fr.ev ao=.ptr k aE off) (hv:fr.ev vo=v) (kZ:v.cells?=some cs) (hs:c9 P t=some cs.length) (hj:H[j]?=some (.box k (.mem aE ar c))) (hl:off+cs.length≤c.length) (hw:S.flr≤k)
  (h:∀ai,Has N S ai (H.set j (.box k (.mem aE ar (setMany c off cs))))→ab P ops rest fr ai Q):ab P ops (⟨none,.store t ao vo,ty,pp,a,g⟩::rest) fr st Q:=by
 have h1:=hH.ex.flr;have h2:=hH.ex.ro;have h3:=hH.du;have h4:=(hH.ge hj).1;refine ab.N hg rfl (d:=.tup []) (st1:=⟨st.bs.set k (.mem aE ar (setMany c off cs)),st.flr,st.ro⟩) ?_ (h _ (hH.rE (aE:=aE) hj));simp only[eS,ha,hv,mK,kZ,hs,if_pos trivial];rw[nO (hH.at hj) hl (yP (N:=k) (Nat.le_refl _) (by omega) (by omega)),iZ _ _ _ hl];rfl
theorem B9 {N:Nat} {S st:St} {H:List bo} {P:Pv} {ops:Array Oper} {rest:List Oper} {fr:Fr} {Q:Fr→St→Prop} {ty:TypeId} {pp:String} {a:Array Edge} {g:Option (Nat×Bool)} {dst:Nat} {j:Nat} {x y:D} {s:Nat} {ks:Nat→Prop} {vs ys Kp:List (List D)} {t1 t2 e:TypeId} {td:TypeDesc} {inf:TypeInfo} {z:List D} {xo yo:Operand} {aM:D→Fr} (hH:Has N S st H) (hg:aH ops fr ⟨some dst,.call ⟨.builtin .append,#[xo,yo],#[t1,t2]⟩,ty,pp,a,g⟩=some true)
  (hx:fr.ev xo=x) (hy:fr.ev yo=y) (hj:H[j]?=some (.deep ks x s vs)) (mz:V.Rows st s y ys) (hd:dN (dN (gb st ks)) ys Kp)
  (h1:P.db t1=some (.slice e)) (h2:P.db t2=some td) (h3:gD td=false) (h4:P.info e=some inf) (h5:ec P e=some z) (h6:inf.size=s) (h7:z.length=s) (h8:0<inf.bytes∧inf.bytes≤1024)
  (hp:∀x',fr.put dst x'=aM x') (hb:vs.length+ys.length≤1073741824) (hw:S.flr≤S.bs.length∨refs ys.flatten=0) (h0:∀k,x.ref=k+1→S.bs.length≤k)
  (h:∀x' ai,(∀k,x'.ref=k+1→S.bs.length≤k)→Has N S ai (H.set j (.deep ks x' s (vs++Kp)))→ab P ops rest (aM x') ai Q):
  ab P ops (⟨some dst,.call ⟨.builtin .append,#[xo,yo],#[t1,t2]⟩,ty,pp,a,g⟩::rest) fr st Q:=by
 obtain⟨x',ai,q1,q2⟩:=B8 hH hj mz hd h1 h2 h3 h4 h5 h6 h7 h8 hb hw h0;obtain⟨es,za⟩:=MK hH hj;have h5':=za.Iv (j:=0) aB mz h1 h2 h3 h4 h5 q1;refine ab.go hg rfl (d:=x') (st1:=ai) ?_ (hp _) (h x' ai (fun k hk=>?_) q2)
 ·simp only[eS,List.map_cons,List.map_nil,hx,hy];exact q1
 ·rcases h5' k hk with h|h
  ·exact h0 k h
  ·exact h
theorem B7 {N:Nat} {S st:St} {H:List bo} {L j:Nat} {x:D} {s:Nat} {ks:Nat→Prop} {vs:List (List D)} (hH:Has N S st H) (hj:H[j]?=some (.deep ks x s vs)) (hx:∀k,x.ref=k+1→L≤k) (mA:∀k,ks k→L≤k) {n:Nat} (hn:4≤n):bA st L false (n+1) x=some (.sl (vs.map (ml s))):=by
 obtain⟨n,rfl⟩:∃m,n=m+4:=⟨n-4,by omega⟩
 obtain⟨⟨es,h1,h2⟩,h3⟩:=(hH.ok j _ hj).1
 cases h1 with
 |nul=>cases h2;rfl
 |win k aE off es c hm hl hc he=>
  have hk:=hx k (by simp only[D.ref]);show(if k<L then some (D.win k aE off es.length s) else gJ st L (n+4) (.win k aE off es.length s))=_;rw[if_neg (show¬k<L by omega),gJ];simp only[if_neg (show¬k<L by omega),St.mem_of hm,Option.bind_some];rw[if_pos hl,hc,uw (fun a b hab=>hab.pure (fun k hk=>mA k hk) (n+1)) h2.flat];simp only[Option.map_some];rw[h2.len,jo (h2.each he)]
def lY (b:List UInt8) (most:Int) (s:df):Int:=if(bS b most s).2.e≠0 then 0 else(bS b most s).1
theorem As {b:List UInt8} {m:Int} {s:df} (h:s.at_≤b.length):0≤lY b m s∧lY b m s≤max m 0:=by
 obtain⟨o1,o2,o3,o4⟩:=fS (m:=m) h;unfold lY
 split
 ·exact⟨by simp,by omega⟩
 ·rename_i hn;exact⟨o2,o4 (by simpa using hn)⟩
theorem DV {α:Type} (one:df→α×df) (b:List UInt8) (m:Int) (s:df):bj one (lY b m s).toNat (bS b m s).2=bj one (bS b m s).1.toNat (bS b m s).2:=by
 unfold lY
 split
 ·rename_i h;rw[eA _ h,eA _ h]
 ·rfl
theorem El {N k:Nat} {S s0:St} {H:List bo} {x:D} {b:List UInt8} {s:df} (hbl:b.length≤1099511627776) (ba:s.at_≤b.length) (hH:Has N S s0 (.box k (.mem 0 false (cP x s))::.aF x 1 (byteCells b)::H)):
  ∃d ai,Ev pv 161 [.ptr k 0 0] s0 d ai∧d=.agg (aA (lG b s))∧Has N S ai (.box k (.mem 0 false (cP x (gp b 10 s)))::.aF x 1 (byteCells b)::H):=by
 refine Ev.eN rfl Xq rfl rfl rfl ?_;refine zE ?_;have cj:=hH;have hH:=hH.bE;have bV:(ae .rw s0).bs=s0.bs:=rfl;generalize ae .rw s0=S2 at*;refine zQ 2 ?_;refine qa hH fun k2 st hk2 hH=>?_;dsimp only[u2,u1,u3,u4,setMany,u5,u6,D.cells,Nat.reduceAdd,cP] at hH;refine zQ 3 ?_;refine qa hH fun k3 st oC hH=>?_;refine zQ 6 ?_;have hH:Has N S2 st (.box k (.mem 0 false (cP x s))::.aF x 1 (byteCells b)::.box k3 (.mem 0 false (aA cG))::.box k2 (.mem 0 false (aA cG))::H):=Has.jA [_,_] [_,_] hH;refine zQ 1 ?_;refine ag.loop (fun mm fr st=>∃(i:Nat) (f:j4),fr.clean=⟨5,[.ptr k 0 0,kh fr 1,.ptr k2 0 0,.ptr k3 0 0,.int .i64 (i:Nat)],[]⟩∧Has N S2 st (.box k (.mem 0 false (cP x (gp b i s)))::.aF x 1 (byteCells b)::.box k3 (.mem 0 false (aA f))::.box k2 (.mem 0 false (aA cG))::H)∧(i+mm=10)∧(∀j,j<i→f j=lG b s j)) (10) ?_ ?_
 ·exact⟨0,cG,rfl,hH,by omega,fun j h=>by omega⟩
 rintro mm fr st ⟨i,f,hfr,hH,hi,hf⟩;rw[hfr];clear hfr;generalize kh fr=ee;clear fr;have Mj:=kG ba i;obtain⟨_,_,o3,o4,_⟩:=dB (b:=b) (s:=gp b i s) Mj;refine zQ 6 ?_;refine zP (fun h1=>?_) fun h1=>?_
 ·refine zQ 1 ?_;have nD:i<10:=by omega
  refine zQ 5 ?_;obtain⟨_,st,ax,rfl,hH⟩:=oi hbl Mj hH;refine qv ax ?_;refine ab.gd (z:=((bc b (gp b i s)).1-1)) rfl (ev rfl) (ev rfl) (by(try simp only[List.length_reverse,List.length_cons,List.length_nil,List.length_append,List.length_map,List.length_set]);rw[wrap_i64 (by omega) (by omega)]<;>omega) (aa rfl _) ?_;refine ab.ML (m:=10) (s:=1) (i:=i) (o:=i) rfl (ev rfl) (ev rfl) rfl rfl (by omega) (by omega) (aa rfl _) ?_;refine ab.gE hH rfl (ev rfl) (ev rfl) rfl (by exact rfl) a_ (by show i+1≤10;omega) (.inr rfl) (fun st hH=>?_);change Has _ _ _ (_::_::.box k3 (.mem 0 false (setMany (aA f) i [.int .i64 ((bc b (gp b i s)).1-1)]))::_) at hH;rw[zJ nD] at hH;refine zQ 6 ?_;refine⟨mm-1,by omega,⟨i+1,ze f i ((bc b (gp b i s)).1-1),rfl,hH,by omega,?_⟩⟩;intro j hj;unfold ze
  split
  ·rename_i h;subst h;rfl
  ·exact hf j (by omega)
 ·refine zQ 1 ?_;have nD:i=10:=by omega
  subst nD;have PG:=EN hf;rw[PG] at hH;refine zQ 2 ?_;refine ab.av (m:=10) (r:=aA (lG b s)) hH rfl (ev rfl) a_ rfl rfl rfl (aa rfl _) ?_;refine ab.bQ hH rfl (ev rfl) (ev rfl) rfl (by exact rfl) bh (by exact rfl) (.inr rfl) (fun st hH=>?_);dsimp only[u1,u2] at hH;refine zQ 1 ?_;refine ag.ret ⟨rx,_,_,_,hH.kD rfl bh rfl,aj (show bA st s0.bs.length false 16 (.agg (aA (lG b s)))=some (.agg (aA (lG b s))) from rfl),?_⟩;exact⟨rfl,cj.aq bV ((hH.erase 2).erase 2)⟩
theorem AH {N k:Nat} {S s0:St} {H:List bo} {x:D} {b:List UInt8} {s:df} (hbl:b.length≤1099511627776) (ba:s.at_≤b.length) (most:Int) (hH:Has N S s0 (.box k (.mem 0 false (cP x s))::.aF x 1 (byteCells b)::H)):
  ∃d ai,Ev pv 159 [.ptr k 0 0,.int .i64 most] s0 d ai∧d=.int .i64 (lY b most s)∧Has N S ai (.box k (.mem 0 false (cP x (bS b most s).2))::.aF x 1 (byteCells b)::H):=by
 have uN:=au b;obtain⟨u1,u2,u3,u4⟩:=m_ (m:=most) ba;have uK:bS b most s=if(bM b most s).2.e=0∧(bM b most s).1>(b.length:Int)-(bM b most s).2.at_ then((bM b most s).1,⟨s.at_,3⟩) else bM b most s:=rfl;unfold lY;refine Ev.eN rfl Xs rfl rfl rfl ?_;refine zE ?_;have cj:=hH;have hH:=hH.bE;have bV:(ae .rw s0).bs=s0.bs:=rfl;generalize ae .rw s0=S2 at*;refine zQ 16 ?_;obtain⟨_,st,ax,rfl,hH⟩:=Eh hbl ba most hH;refine qv ax ?_;refine zQ 2 ?_;generalize bM b most s=R at*;obtain⟨n,s1⟩:=R;dsimp only at u1 u2 u3 u4 uK hH⊢
 by_cases he:s1.e=0
 ·have cK:(s1.e==0)=true:=by simpa using he
  refine zQ 14 ?_;refine qn ?_ (hR:=hH.rows aO) (hg:=wi cK);refine zQ 4 ?_;refine ab.gd (z:=(((b.length:Nat):Int)-(s1.at_:Nat))) (af rfl rfl rfl cK) (ev rfl) (ev rfl) (by(try simp only[List.length_reverse,List.length_cons,List.length_nil,List.length_append,List.length_map,List.length_set]);rw[wrap_i64 (by omega) (by omega)]<;>omega) (aa rfl _) ?_;refine zQ 3 ?_
  by_cases hlt:n>(b.length:Int)-s1.at_
  ·rw[if_pos ⟨he,hlt⟩] at uK;rw[uK];have hc:decide (n>(b.length:Int)-s1.at_)=true:=by rw[decide_eq_true_eq];exact hlt
   refine qD rfl (by rw[hc]) ?_;refine zQ 5 ?_;refine qT hH aB fun st hH=>?_;dsimp only[u2,u1,u3,u4,setMany,u5,u6,D.cells,Nat.reduceAdd,cP] at hH;refine zQ 6 ?_;refine qT hH aB fun st hH=>?_;dsimp only[u2,u1,u3,u4,setMany,u5,u6,D.cells,Nat.reduceAdd,cP] at hH;refine zQ 15 ?_;refine ag.ret ⟨rx,_,_,_,rfl,aj (rfl),?_⟩;exact⟨rfl,cj.aq bV hH⟩
  ·rw[if_neg (fun h=>hlt h.2)] at uK;rw[uK];have hc:decide (n>(b.length:Int)-s1.at_)=false:=by rw[decide_eq_false_iff_not];exact hlt
   refine qE rfl (by rw[hc]) ?_;refine zQ 10 ?_;refine qE rfl (by simp[he]) ?_;refine zQ 6 ?_;refine ag.ret ⟨rx,_,_,_,rfl,aj (rfl),?_⟩;exact⟨by dsimp only;rw[if_neg (by simpa using he)];rfl,cj.aq bV hH⟩
 ·rw[if_neg (fun h=>he h.1)] at uK;rw[uK];have cK:(s1.e==0)=false:=by simpa using he
  refine zQ 34 ?_;refine qD rfl (by simp[he]) ?_;refine zQ 4 ?_;refine ag.ret ⟨rx,_,_,_,rfl,aj (rfl),?_⟩;exact⟨by dsimp only;rw[if_pos he];rfl,cj.aq bV hH⟩
theorem JE {N k:Nat} {S s0:St} {H:List bo} {x:D} {b:List UInt8} {s:df} (hbl:b.length≤1099511627776) (ba:s.at_≤b.length) (hH:Has N S s0 (.box k (.mem 0 false (cP x s))::.aF x 1 (byteCells b)::H)):
  ∃d ai,Ev pv 101 [.ptr k 0 0] s0 d ai∧(∃L:List GV,d=oL L∧L.length≤8∧(∀g∈L,g.td=qI g.bn∧g.bn.length≤400)∧((dD b s).2.e=0→L=(dD b s).1))∧Has N S ai (.box k (.mem 0 false (cP x (dD b s).2))::.aF x 1 (byteCells b)::H):=by
 obtain⟨i1,i2,i3,i4⟩:=fS (m:=8) ba;obtain⟨n1,n2⟩:=As (m:=8) ba;have Mo:dD b s=bj (dc b) (lY b 8 s).toNat (bS b 8 s).2:=(DV _ _ _ _).symm;rw[Mo];clear Mo;have hF1:(ae .rw s0).flr=(ae .rw s0).bs.length:=rfl;refine Ev.eN rfl X4 rfl rfl rfl ?_;refine zE ?_;have cj:=hH;have hH:=hH.bE;have bV:(ae .rw s0).bs=s0.bs:=rfl;generalize ae .rw s0=S2 at*;refine zQ 11 ?_;obtain⟨_,st,ax,rfl,hH⟩:=AH hbl ba 8 hH;refine qv ax ?_;refine zQ 2 ?_;generalize lY b 8 s=n at*;generalize(bS b 8 s).2=s2 at*
 obtain⟨m,rfl⟩:∃m:Nat,n=(m:Nat):=⟨n.toNat,by omega⟩
 rw[Int.toNat_natCast];refine zQ 5 ?_;have hH:Has N S2 st (.box k (.mem 0 false (cP x s2))::.aF x 1 (byteCells b)::.deep (fun _=>False) .nul 12 (([]:List GV).map eo)::H):=Has.jA [_] [_,_] (hH.OS 12);refine zQ 1 ?_;refine ag.loop (fun mm fr st=>∃(i:Nat) (sr:df) (y:D) (ks:Nat→Prop) (acc:List GV),fr.clean=⟨10,[.ptr k 0 0,kh fr 1,kh fr 2,y,.int .i64 (m:Nat),.int .i64 (i:Nat),kh fr 6,kh fr 7,kh fr 8,kh fr 9],[]⟩∧Has N S2 st (.box k (.mem 0 false (cP x sr))::.aF x 1 (byteCells b)::.deep ks y 12 (acc.map eo)::H)∧(i+mm=m)∧(acc.length=i)∧(sr.at_≤b.length)∧(∀k,y.ref=k+1→S2.bs.length≤k)∧(∀k,ks k→S2.bs.length≤k)∧(bj (dc b) m s2=(acc++(bj (dc b) mm sr).1,(bj (dc b) mm sr).2))∧(∀g∈acc,g.td=qI g.bn∧g.bn.length≤400)) (m) ?_ ?_
 ·exact⟨0,s2,.nul,(fun _=>False),[],rfl,hH,by omega,rfl,i1,(fun k hk=>by simp only[D.ref] at hk;omega),(fun k hk=>hk.elim),rfl,(fun g hg=>by cases hg)⟩
 rintro mm fr st ⟨i,sr,y,ks,acc,hfr,hH,hi,hal,Pc,ye,mA,hI,hval⟩;rw[hfr];clear hfr;generalize kh fr=ee;clear fr;refine zQ 2 ?_;refine ag.dM 21 (.bool (decide (((i:Nat):Int)<(m:Nat)) &&(sr.e==0))) [] ?_ (fun ff tmp dj=>?_)
 ·refine zQ 4 ?_;refine ab.two 15 rfl (fun bZ=>?_) (fun bZ=>?_)
  ·refine zQ 6 ?_;refine ab.nil (aR ?_ ?_)
   ·dsimp only[aK,List.foldl,nth,u2,u1]
    all_goals(first|rfl|simp)
   ·refine zF ?_
    all_goals(simp_all;done)
  ·refine zQ 6 ?_;refine ab.nil (aR ?_ ?_)
   ·dsimp only[aK,List.foldl,nth,u2,u1]
    all_goals(first|rfl|simp)
   ·refine zF ?_
    all_goals(simp_all;omega)
 refine zG ?_;refine qc (fun hc=>?_) (fun hc=>?_)<;>try simp only[cs] at hc
 ·have hc:i<m∧sr.e=0:=by
   rw[Bool.and_eq_true,decide_eq_true_eq] at hc;exact⟨by omega,by simpa using hc.2⟩
  obtain⟨hlt,he⟩:=hc
  obtain⟨Yt,rfl⟩:∃q,mm=q+1:=⟨mm-1,by omega⟩
  have DZ:bj (dc b) (Yt+1) sr=((dc b sr).1::(bj (dc b) Yt (dc b sr).2).1,(bj (dc b) Yt (dc b sr).2).2):=by
   conv=>lhs;unfold bj
   rw[if_neg (by simpa using he)]
  rw[DZ] at hI;have sV:=pz (b:=b) Pc;have jj:=kG sV 10;have Sp:=pg (b:=b) Pc;refine zQ 6 ?_;obtain⟨_,st,ax,rfl,hH⟩:=MR hbl Pc hH;refine qv ax ?_;refine ab.go (d:=.agg (aX (dq b sr).1 cG .nul)) (st1:=_) rfl rfl rfl (aa rfl _) ?_;refine qa hH fun k6 st Gj hH=>?_;dsimp only[u2,u1,u3,u4,setMany,u5,u6,D.cells,Nat.reduceAdd,cP] at hH;refine qS hH aB fun st hH=>?_;dsimp only[u2,u1,u3,u4,setMany,u5,u6,D.cells,Nat.reduceAdd,cP] at hH;refine zQ 1 ?_;have hH:Has N S2 st (.box k (.mem 0 false (cP x (dq b sr).2))::.aF x 1 (byteCells b)::.deep ks y 12 (acc.map eo)::.box k6 (.mem 0 false (aX (dq b sr).1 cG .nul))::H):=Has.jA [_] [_,_,_] hH;refine zQ 3 ?_;obtain⟨_,st,ax,rfl,hH⟩:=El hbl sV hH;refine qv ax ?_;refine zQ 1 ?_;refine ab.gE hH rfl (ev rfl) (ev rfl) rfl (by exact rfl) bh (by exact Nat.le_of_ble_eq_true rfl) (.inr rfl) (fun st hH=>?_);dsimp only[u1,u2] at hH;refine zQ 1 ?_;have sW:dc b sr=(⟨(dq b sr).1,lG b (dq b sr).2,qI (lA b (gp b 10 (dq b sr).2)).1,(lA b (gp b 10 (dq b sr).2)).1⟩,(lA b (gp b 10 (dq b sr).2)).2):=rfl;generalize mZ:(dq b sr).1=fl at*;generalize hcp:lG b (dq b sr).2=cp at*;generalize YA:gp b 10 (dq b sr).2=sc at*;have hH:Has N S2 st (.box k (.mem 0 false (cP x sc))::.aF x 1 (byteCells b)::.deep ks y 12 (acc.map eo)::.box k6 (.mem 0 false (aX fl cp .nul))::H):=hH;obtain⟨q1,q2,q3,q4⟩:=fS (m:=400) jj;obtain⟨p1,p2⟩:=As (m:=400) jj;have htv:lA b sc=bj (eT b) (lY b 400 sc).toNat (bS b 400 sc).2:=(DV _ _ _ _).symm;rw[htv] at sW;refine zQ 3 ?_;obtain⟨_,st,ax,rfl,hH⟩:=AH hbl jj 400 hH;refine qv ax ?_;refine zQ 2 ?_;generalize lY b 400 sc=n at*;generalize(bS b 400 sc).2=s3 at*
  obtain⟨m2,rfl⟩:∃m:Nat,n=(m:Nat):=⟨n.toNat,by omega⟩
  rw[Int.toNat_natCast] at sW;clear htv;refine zQ 5 ?_;have hH:Has N S2 st (.box k (.mem 0 false (cP x s3))::.aF x 1 (byteCells b)::.deep ks y 12 (acc.map eo)::.box k6 (.mem 0 false (aX fl cp .nul))::.aF .nul 11 (([]:List GT).map dA)::H):=Has.jA [_] [_,_,_,_] (hH.fW 11);refine zQ 1 ?_;refine ag.loop (fun mm fr st=>∃(j:Nat) (oO:df) (td:D) (bn:List GT),fr.clean=⟨10,[.ptr k 0 0,kh fr 1,kh fr 2,y,.int .i64 (m:Nat),.int .i64 (i:Nat),.ptr k6 0 0,.int .i64 (m2:Nat),.int .i64 (j:Nat),kh fr 9],[]⟩∧Has N S2 st (.box k (.mem 0 false (cP x oO))::.aF x 1 (byteCells b)::.deep ks y 12 (acc.map eo)::.box k6 (.mem 0 false (aX fl cp td))::.aF td 11 (bn.map dA)::H)∧(j+mm=m2)∧(bn.length=j)∧(oO.at_≤b.length)∧(∀k,td.ref=k+1→S2.bs.length≤k)∧(bj (eT b) m2 s3=(bn++(bj (eT b) mm oO).1,(bj (eT b) mm oO).2))) (m2) ?_ ?_
  ·exact⟨0,s3,.nul,[],rfl,hH,by omega,rfl,q1,(fun k hk=>by simp only[D.ref] at hk;omega),rfl⟩
  rintro mm fr st ⟨j,oO,td,bn,hfr,hH,hj,mO,N7,Au,hT⟩;rw[hfr];clear hfr;generalize kh fr=ee;clear fr;refine zQ 2 ?_;refine ag.dM 41 (.bool (decide (((j:Nat):Int)<(m2:Nat)) &&(oO.e==0))) [] ?_ (fun ff tmp dj=>?_)
  ·refine zQ 4 ?_;refine ab.two 35 rfl (fun bZ=>?_) (fun bZ=>?_)
   ·refine zQ 6 ?_;refine ab.nil (aR ?_ ?_)
    ·dsimp only[aK,List.foldl,nth,u2,u1]
     all_goals(first|rfl|simp)
    ·refine zF ?_
     all_goals(simp_all;done)
   ·refine zQ 6 ?_;refine ab.nil (aR ?_ ?_)
    ·dsimp only[aK,List.foldl,nth,u2,u1]
     all_goals(first|rfl|simp)
    ·refine zF ?_
     all_goals(simp_all;omega)
  refine zG ?_;refine qc (fun hd=>?_) (fun hd=>?_)<;>try simp only[cs] at hd
  ·have hd:j<m2∧oO.e=0:=by
    rw[Bool.and_eq_true,decide_eq_true_eq] at hd;exact⟨by omega,by simpa using hd.2⟩
   obtain⟨adC,he3⟩:=hd
   obtain⟨mm,rfl⟩:∃q,mm=q+1:=⟨mm-1,by omega⟩
   have RR:bj (eT b) (mm+1) oO=((eT b oO).1::(bj (eT b) mm (eT b oO).2).1,(bj (eT b) mm (eT b oO).2).2):=by
    conv=>lhs;unfold bj
    rw[if_neg (by simpa using he3)]
   rw[RR] at hT;have aao:=(dB (b:=b) N7).1;have Vr:=vX (b:=b) N7;refine zQ 6 ?_;obtain⟨_,st,ax,rfl,hH⟩:=oi hbl N7 hH;refine qv ax ?_;refine ab.go (d:=.agg (dA ⟨(bc b oO).1,cG⟩)) (st1:=_) rfl rfl rfl (aa rfl _) ?_;refine qa hH fun k9 st PB hH=>?_;dsimp only[u2,u1,u3,u4,setMany,u5,u6,D.cells,Nat.reduceAdd,cP] at hH;refine qS hH aB fun st hH=>?_;dsimp only[u2,u1,u3,u4,setMany,u5,u6,D.cells,Nat.reduceAdd,cP] at hH;refine zQ 1 ?_;have hH:Has N S2 st (.box k (.mem 0 false (cP x (bc b oO).2))::.aF x 1 (byteCells b)::.deep ks y 12 (acc.map eo)::.box k6 (.mem 0 false (aX fl cp td))::.aF td 11 (bn.map dA)::.box k9 (.mem 0 false (dA ⟨(bc b oO).1,cG⟩))::H):=Has.jA [_] [_,_,_,_,_] hH;refine zQ 3 ?_;obtain⟨_,st,ax,rfl,hH⟩:=El hbl aao hH;refine qv ax ?_;refine zQ 1 ?_;refine ab.gE hH rfl (ev rfl) (ev rfl) rfl (by exact rfl) bT (by exact Nat.le_of_ble_eq_true rfl) (.inr rfl) (fun st hH=>?_);dsimp only[u1,u2] at hH;refine zQ 1 ?_;have hH:Has N S2 st (.box k (.mem 0 false (cP x (eT b oO).2))::.aF x 1 (byteCells b)::.deep ks y 12 (acc.map eo)::.box k6 (.mem 0 false (aX fl cp td))::.aF td 11 (bn.map dA)::.box k9 (.mem 0 false (dA (eT b oO).1))::H):=hH;generalize(eT b oO).1=t at*;generalize(eT b oO).2=s5 at*;refine zQ 2 ?_;refine ab.iv hH rfl (ev rfl) bh rfl (aa rfl _) ?_;refine ab.av (m:=11) (r:=dA t) hH rfl (ev rfl) bT rfl rfl rfl (aa rfl _) ?_;refine qh (s:=11) (vs:=[_]) hH fun k53 st aaz hH=>?_;dsimp only[u2,u1,u3,u4,setMany,u5,u6,D.cells,Nat.reduceAdd,cP] at hH;refine ab.nF (s:=11) hH rfl (ev rfl) (ev rfl) bT (hH.rows aB) rfl rfl rfl rfl rfl rfl rfl ⟨(Nat.le_of_ble_eq_true rfl),(Nat.le_of_ble_eq_true rfl)⟩ (fun _=>(aa rfl _)) (by simp only[List.length_map,List.length_cons,List.length_nil];omega) (.inr rfl) Au (fun Yj st Au hH=>?_);dsimp only[u1,u2] at hH;refine zQ 1 ?_;refine kN hH rfl (ev rfl) (ev rfl) (hH.cX bT) (by exact rfl) bL (by exact Nat.le_of_ble_eq_true rfl) (by omega) (fun st hH=>?_);dsimp only[u1,u2] at hH;refine zQ 1 ?_
   have hH:Has N S2 st (.box k (.mem 0 false (cP x s5))::.aF x 1 (byteCells b)::.deep ks y 12 (acc.map eo)::.box k6 (.mem 0 false (aX fl cp Yj))::.aF Yj 11 ((bn++[t]).map dA)::H):=by
    rw[List.map_append];exact(hH.drop 1).erase 5
   refine zQ 5 ?_;exact⟨mm,by omega,⟨j+1,s5,Yj,bn++[t],rfl,hH,by omega,(by rw[List.length_append];simp only[List.length_cons,List.length_nil];omega),Vr,Au,(by rw[hT,List.append_assoc];rfl)⟩⟩
  ·refine zQ 1 ?_
   have zp:bj (eT b) mm oO=([],oO):=by
    by_cases he:oO.e=0
    ·have:mm=0:=by
      rcases Nat.eq_zero_or_pos mm with h|h
      ·exact h
      ·exfalso
       have h1:decide (((j:Nat):Int)<(m2:Nat))=true:=by rw[decide_eq_true_eq];omega
       rw[h1,he] at hd;simp at hd
     rw[this];rfl
    ·exact eA _ he mm
   rw[zp,List.append_nil] at hT;rw[hT] at sW;dsimp only at sW;have acx:acc.length≤8:=by omega
   refine zQ 2 ?_;refine ab.av (m:=12) (r:=aX fl cp td) hH rfl (ev rfl) bh rfl rfl rfl (aa rfl _) ?_;refine qh (s:=12) (vs:=[_]) hH fun k58 st adr hH=>?_;dsimp only[u2,u1,u3,u4,setMany,u5,u6,D.cells,Nat.reduceAdd,cP] at hH;obtain⟨hH,SR⟩:=hH.Cu (i:=5) (j:=3) (by decide) bT bh (En _);dsimp only[u1,u2] at hH;refine B9 hH rfl rfl rfl bh (hH.rows aB) (.cons (GJ (dn:=fl) (f:=cp) SR) .nil) rfl rfl rfl rfl rfl rfl rfl ⟨(Nat.le_of_ble_eq_true rfl),(Nat.le_of_ble_eq_true rfl)⟩ (fun _=>(aa rfl _)) (by rw[List.length_map];show _+1≤_;omega) (.inl (Nat.le_of_eq hF1)) ye (fun x59 st ye hH=>?_);dsimp only[u1,u2] at hH;refine zQ 2 ?_
   have hH:Has N S2 st (.box k (.mem 0 false (cP x oO))::.aF x 1 (byteCells b)::.deep (fun k=>ks k∨td.ref=k+1) x59 12 ((acc++[(⟨fl,cp,qI bn,bn⟩:GV)]).map eo)::H):=by
    rw[List.map_append];exact((hH.drop 1).erase 3).erase 3
   refine zQ 5 ?_;rw[sW] at hI Sp;dsimp only at hI Sp;refine⟨Yt,by omega,⟨i+1,oO,x59,(fun k=>ks k∨td.ref=k+1),acc++[(⟨fl,cp,qI bn,bn⟩:GV)],rfl,hH,by omega,(by rw[List.length_append];simp only[List.length_cons,List.length_nil];omega),Sp,ye,(fun k hk=>by rcases hk with h|h;exact mA k h;exact Au k h),(by rw[hI,List.append_assoc];rfl),?_⟩⟩;intro g2 br
   rcases List.mem_append.1 br with h|h
   ·exact hval g2 h
   ·simp only[List.mem_cons,List.not_mem_nil,or_false] at h;rw[h];exact⟨rfl,by show bn.length≤400;omega⟩
 ·refine zQ 1 ?_
  have zp:bj (dc b) mm sr=([],sr):=by
   by_cases he:sr.e=0
   ·have:mm=0:=by
     rcases Nat.eq_zero_or_pos mm with h|h
     ·exact h
     ·exfalso
      have h1:decide (((i:Nat):Int)<(m:Nat))=true:=by rw[decide_eq_true_eq];omega
      rw[h1,he] at hc;simp at hc
    rw[this];rfl
   ·exact eA _ he mm
  rw[zp,List.append_nil] at hI;rw[hI];refine zQ 5 ?_;have hfz:=B7 hH (L:=s0.bs.length) (n:=15) a_ (fun k hk=>by rw[←bV];exact ye k hk) (fun k hk=>by rw[←bV];exact mA k hk) (by decide);refine ag.ret ⟨rx,_,_,_,rfl,aj hfz,?_⟩;exact⟨⟨acc,rfl,by omega,hval,fun _=>rfl⟩,cj.aq bV (hH.erase 2)⟩
def cB (b:List UInt8) (s:df):(List UInt8×Int×List GV)×df:=
 (((d_ b 3 s).1,(bc b (d_ b 3 s).2).1,(dD b (bc b (d_ b 3 s).2).2).1),(dD b (bc b (d_ b 3 s).2).2).2)
theorem lR {b:List UInt8} {m:Int} {s:df} (h:s.at_≤b.length):(d_ b m s).2.at_≤b.length∧((d_ b m s).1.length:Int)≤max m 0:=by
 obtain⟨u1,u2,u3,u4⟩:=m_ (m:=m) h;unfold d_
 split
 ·exact⟨u1,by simp;omega⟩
 ·split
  ·exact⟨h,by simp;omega⟩
  ·rename_i h1 h2;have h1:=u4 (by simpa using h1);refine⟨?_,?_⟩
   ·show(bM b m s).2.at_+(bM b m s).1.toNat≤_;omega
   ·rw[List.length_take];omega
theorem wD (b:List UInt8):(∀e∈byteCells b,∀d∈e,oU d=true)∧(byteCells b).map (·.map rS)=byteCells b:=by
 constructor
 ·intro e he d hd;obtain⟨q,hq,rfl⟩:=List.mem_map.1 he;simp only[List.mem_cons,List.not_mem_nil,or_false] at hd;subst hd;rfl
 ·unfold byteCells;rw[List.map_map];rfl
structure Kh (L:List GV):Prop where
 n:L.length≤8
 t:∀g∈L,g.td=qI g.bn∧g.bn.length≤400
theorem MS {L:List GV} (h:∀g∈L,g.td=qI g.bn):∀e∈L.map eo,∀d∈e,dh d=true:=by
 intro e he d hd;obtain⟨q,hq,rfl⟩:=List.mem_map.1 he;have:=h q hq;simp only[eo,aX,this,qI,List.mem_cons,List.not_mem_nil,or_false] at hd
 rcases hd with rfl|rfl|rfl|rfl|rfl|rfl|rfl|rfl|rfl|rfl|rfl|rfl<;>rfl
theorem Kh.Od {L:List GV} (h:Kh L):CD (oL L) L:=
 ⟨dg.frozen (MT L) (MS fun g hg=>(h.t g hg).1),by have:=h.n;omega,fun g hg=>⟨by rw[(h.t g hg).1];exact QX _,by have:=(h.t g hg).2;omega⟩⟩
theorem Ia:Kh []:=⟨by simp,fun g hg=>by cases hg⟩
def mh (q:List UInt8×Int×List GV):D:=.agg [bF q.1,.int .i64 q.2.1,oL q.2.2]
def J8 (b:List UInt8) (s:df) (d:D):Prop:=∃L:List GV,d=mh ((cB b s).1.1,(cB b s).1.2.1,L)∧Kh L∧((cB b s).2.e=0→L=(cB b s).1.2.2)
theorem Er {N k:Nat} {S s0:St} {H:List bo} {x:D} {b:List UInt8} {s:df} (hbl:b.length≤1099511627776) (ba:s.at_≤b.length) (hH:Has N S s0 (.box k (.mem 0 false (cP x s))::.aF x 1 (byteCells b)::H)):
  ∃d ai,Ev pv 39 [.ptr k 0 0] s0 d ai∧J8 b s d∧Has N S ai (.box k (.mem 0 false (cP x (cB b s).2))::.aF x 1 (byteCells b)::H):=by
 obtain⟨t1,t2⟩:=lR (m:=3) ba;have n1:=(dB (b:=b) t1).1;have hF1:(ae .rw s0).flr=(ae .rw s0).bs.length:=rfl;refine Ev.eN rfl abP rfl rfl rfl ?_;refine zE ?_;have cj:=hH;have hH:=hH.bE;have bV:(ae .rw s0).bs=s0.bs:=rfl;generalize ae .rw s0=S2 at*;refine zQ 2 ?_;refine qa hH fun k2 st hk2 hH=>?_;dsimp only[u2,u1,u3,u4,setMany,u5,u6,D.cells,Nat.reduceAdd,cP] at hH;refine zQ 3 ?_;refine qa hH fun k3 st oC hH=>?_;refine zQ 1 ?_;have hH:Has N S2 st (.box k (.mem 0 false (cP x s))::.aF x 1 (byteCells b)::.box k3 (.mem 0 false [.nul,.int .i64 0,.nul])::.box k2 (.mem 0 false [.nul,.int .i64 0,.nul])::H):=Has.jA [_,_] [_,_] hH;refine zQ 3 ?_;obtain⟨_,st,ax,rfl,hH⟩:=M0 hbl ba 3 hH;refine qv ax ?_;refine ab.Gs hH rfl (ev rfl) rfl rfl rfl (by omega) (fun _=>(aa rfl _)) (fun k6 st Gj hH=>?_);refine zQ 1 ?_;refine kN hH rfl (ev rfl) (ev rfl) rfl (by exact rfl) bh (by exact Nat.le_of_ble_eq_true rfl) (by omega) (fun st hH=>?_);dsimp only[u1,u2] at hH;refine zQ 1 ?_
 obtain⟨h,hh⟩:∃h,(d_ b 3 s).1=h:=⟨_,rfl⟩
 have UX:cB b s=((h,(bc b (d_ b 3 s).2).1,(dD b (bc b (d_ b 3 s).2).2).1),(dD b (bc b (d_ b 3 s).2).2).2):=by rw[←hh];rfl
 rw[hh] at t2 hH⊢;generalize(d_ b 3 s).2=s1 at*;have hH:Has N S2 st (.box k (.mem 0 false (cP x s1))::.aF x 1 (byteCells b)::.box k3 (.mem 0 false [.win k6 0 0 h.length 1,.int .i64 0,.nul])::.box k2 (.mem 0 false [.nul,.int .i64 0,.nul])::.aF (.win k6 0 0 h.length 1) 1 (byteCells h)::H):=Has.jA [_] [_,_,_,_] hH;refine zQ 3 ?_;obtain⟨_,st,ax,rfl,hH⟩:=om hbl t1 hH;refine qv ax ?_;refine zQ 2 ?_;refine ab.gE hH rfl (ev rfl) (ev rfl) rfl (by exact rfl) a_ (by exact Nat.le_of_ble_eq_true rfl) (.inr rfl) (fun st hH=>?_);dsimp only[u1,u2] at hH;refine zQ 1 ?_
 obtain⟨pl,fT⟩:∃pl,(bc b s1).1=pl:=⟨_,rfl⟩
 rw[fT] at UX hH⊢;generalize(bc b s1).2=s2 at*;have hH:Has N S2 st (.box k (.mem 0 false (cP x s2))::.aF x 1 (byteCells b)::.box k3 (.mem 0 false [.win k6 0 0 h.length 1,.int .i64 pl,.nul])::.box k2 (.mem 0 false [.nul,.int .i64 0,.nul])::.aF (.win k6 0 0 h.length 1) 1 (byteCells h)::H):=hH;refine zQ 3 ?_;obtain⟨_,st,ax,⟨L,rfl,l1,l2,l3⟩,hH⟩:=JG hbl n1 hH;refine qv ax ?_;refine zQ 2 ?_;refine ab.gE hH rfl (ev rfl) (ev rfl) rfl (by exact rfl) a_ (by exact Nat.le_of_ble_eq_true rfl) (.inr rfl) (fun st hH=>?_);dsimp only[u1,u2] at hH;refine zQ 1 ?_;have hH:Has N S2 st (.box k (.mem 0 false (cP x (dD b s2).2))::.aF x 1 (byteCells b)::.box k3 (.mem 0 false [.win k6 0 0 h.length 1,.int .i64 pl,oL L])::.box k2 (.mem 0 false [.nul,.int .i64 0,.nul])::.aF (.win k6 0 0 h.length 1) 1 (byteCells h)::H):=hH;refine zQ 2 ?_;refine ab.av (m:=3) (r:=[.win k6 0 0 h.length 1,.int .i64 pl,oL L]) hH rfl (ev rfl) a_ rfl rfl rfl (aa rfl _) ?_;refine kN hH rfl (ev rfl) (ev rfl) rfl (by exact rfl) bh (by exact Nat.le_of_ble_eq_true rfl) (by omega) (fun st hH=>?_);dsimp only[u1,u2,setMany] at hH;refine zQ 1 ?_;have hfz:=hH.qJ (L:=s0.bs.length) (n:=15) bL (fun k hk=>by simp only[D.ref] at hk;rw[←bV];omega) (wD h).1 (by decide);rw[(wD h).2] at hfz
 have cM:bA st s0.bs.length false 16 (.agg [.win k6 0 0 h.length 1,.int .i64 pl,oL L])=some (mh (h,pl,L)):=by
  show(jZ (bA st s0.bs.length false 15) [.win k6 0 0 h.length 1,.int .i64 pl,oL L]).map D.agg=_;simp only[jZ,hfz];rfl
 refine ag.ret ⟨rx,_,_,_,hH.kD rfl bh rfl,aj cM,?_⟩;rw[J8,UX];exact⟨⟨L,rfl,⟨l1,l2⟩,l3⟩,cj.aq bV (((hH.erase 2).erase 2).erase 2)⟩
theorem Ei {N k:Nat} {S s0:St} {H:List bo} {x:D} {b:List UInt8} {s:df} (hbl:b.length≤1099511627776) (ba:s.at_≤b.length) (hH:Has N S s0 (.box k (.mem 0 false (cP x s))::.aF x 1 (byteCells b)::H)):
  ∃d ai,Ev pv 40 [.ptr k 0 0] s0 d ai∧J8 b s d∧Has N S ai (.box k (.mem 0 false (cP x (cB b s).2))::.aF x 1 (byteCells b)::H):=by
 obtain⟨t1,t2⟩:=lR (m:=3) ba;have n1:=(dB (b:=b) t1).1;have hF1:(ae .rw s0).flr=(ae .rw s0).bs.length:=rfl;refine Ev.eN rfl abO rfl rfl rfl ?_;refine zE ?_;have cj:=hH;have hH:=hH.bE;have bV:(ae .rw s0).bs=s0.bs:=rfl;generalize ae .rw s0=S2 at*;refine zQ 2 ?_;refine qa hH fun k2 st hk2 hH=>?_;dsimp only[u2,u1,u3,u4,setMany,u5,u6,D.cells,Nat.reduceAdd,cP] at hH;refine zQ 3 ?_;refine qa hH fun k3 st oC hH=>?_;refine zQ 1 ?_;have hH:Has N S2 st (.box k (.mem 0 false (cP x s))::.aF x 1 (byteCells b)::.box k3 (.mem 0 false [.nul,.int .i64 0,.nul])::.box k2 (.mem 0 false [.nul,.int .i64 0,.nul])::H):=Has.jA [_,_] [_,_] hH;refine zQ 3 ?_;obtain⟨_,st,ax,rfl,hH⟩:=MO hbl ba 3 hH;refine qv ax ?_;refine ab.Gs hH rfl (ev rfl) rfl rfl rfl (by omega) (fun _=>(aa rfl _)) (fun k6 st Gj hH=>?_);refine zQ 1 ?_;refine kN hH rfl (ev rfl) (ev rfl) rfl (by exact rfl) bh (by exact Nat.le_of_ble_eq_true rfl) (by omega) (fun st hH=>?_);dsimp only[u1,u2] at hH;refine zQ 1 ?_
 obtain⟨h,hh⟩:∃h,(d_ b 3 s).1=h:=⟨_,rfl⟩
 have UX:cB b s=((h,(bc b (d_ b 3 s).2).1,(dD b (bc b (d_ b 3 s).2).2).1),(dD b (bc b (d_ b 3 s).2).2).2):=by rw[←hh];rfl
 rw[hh] at t2 hH⊢;generalize(d_ b 3 s).2=s1 at*;have hH:Has N S2 st (.box k (.mem 0 false (cP x s1))::.aF x 1 (byteCells b)::.box k3 (.mem 0 false [.win k6 0 0 h.length 1,.int .i64 0,.nul])::.box k2 (.mem 0 false [.nul,.int .i64 0,.nul])::.aF (.win k6 0 0 h.length 1) 1 (byteCells h)::H):=Has.jA [_] [_,_,_,_] hH;refine zQ 3 ?_;obtain⟨_,st,ax,rfl,hH⟩:=oi hbl t1 hH;refine qv ax ?_;refine zQ 2 ?_;refine ab.gE hH rfl (ev rfl) (ev rfl) rfl (by exact rfl) a_ (by exact Nat.le_of_ble_eq_true rfl) (.inr rfl) (fun st hH=>?_);dsimp only[u1,u2] at hH;refine zQ 1 ?_
 obtain⟨pl,fT⟩:∃pl,(bc b s1).1=pl:=⟨_,rfl⟩
 rw[fT] at UX hH⊢;generalize(bc b s1).2=s2 at*;have hH:Has N S2 st (.box k (.mem 0 false (cP x s2))::.aF x 1 (byteCells b)::.box k3 (.mem 0 false [.win k6 0 0 h.length 1,.int .i64 pl,.nul])::.box k2 (.mem 0 false [.nul,.int .i64 0,.nul])::.aF (.win k6 0 0 h.length 1) 1 (byteCells h)::H):=hH;refine zQ 3 ?_;obtain⟨_,st,ax,⟨L,rfl,l1,l2,l3⟩,hH⟩:=JE hbl n1 hH;refine qv ax ?_;refine zQ 2 ?_;refine ab.gE hH rfl (ev rfl) (ev rfl) rfl (by exact rfl) a_ (by exact Nat.le_of_ble_eq_true rfl) (.inr rfl) (fun st hH=>?_);dsimp only[u1,u2] at hH;refine zQ 1 ?_;have hH:Has N S2 st (.box k (.mem 0 false (cP x (dD b s2).2))::.aF x 1 (byteCells b)::.box k3 (.mem 0 false [.win k6 0 0 h.length 1,.int .i64 pl,oL L])::.box k2 (.mem 0 false [.nul,.int .i64 0,.nul])::.aF (.win k6 0 0 h.length 1) 1 (byteCells h)::H):=hH;refine zQ 2 ?_;refine ab.av (m:=3) (r:=[.win k6 0 0 h.length 1,.int .i64 pl,oL L]) hH rfl (ev rfl) a_ rfl rfl rfl (aa rfl _) ?_;refine kN hH rfl (ev rfl) (ev rfl) rfl (by exact rfl) bh (by exact Nat.le_of_ble_eq_true rfl) (by omega) (fun st hH=>?_);dsimp only[u1,u2,setMany] at hH;refine zQ 1 ?_;have hfz:=hH.qJ (L:=s0.bs.length) (n:=15) bL (fun k hk=>by simp only[D.ref] at hk;rw[←bV];omega) (wD h).1 (by decide);rw[(wD h).2] at hfz
 have cM:bA st s0.bs.length false 16 (.agg [.win k6 0 0 h.length 1,.int .i64 pl,oL L])=some (mh (h,pl,L)):=by
  show(jZ (bA st s0.bs.length false 15) [.win k6 0 0 h.length 1,.int .i64 pl,oL L]).map D.agg=_;simp only[jZ,hfz];rfl
 refine ag.ret ⟨rx,_,_,_,hH.kD rfl bh rfl,aj cM,?_⟩;rw[J8,UX];exact⟨⟨L,rfl,⟨l1,l2⟩,l3⟩,cj.aq bV (((hH.erase 2).erase 2).erase 2)⟩
def pQ (code:List aP) (R:List Bool):Prop:=∀(u:Nat) i,R[u]?=some true→code[u]?=some i→∀w∈cH u i,R[w.toNat]?=some true
structure G6 (code:List aP) (R:List Bool) (pl:Int) (w:Wk):Prop where
 b:w.dn=true∨rq w.bf
 p:cz w.bf pl
 r:∀t∈w.rdy,R[t.pc]?=some true∧(∃i,code[t.pc]?=some i∧i.op=1)∧cz t.c pl
theorem G6.seen {code:List aP} {R:List Bool} {pl:Int} {w:Wk} (h:G6 code R pl w) (s:List Bool):G6 code R pl ⟨s,w.dn,w.bf,w.rdy⟩:=⟨h.b,h.p,h.r⟩
theorem FI {f:j4} {x:Nat} {pl:Nat} (h:cz f (pl:Int)):cz (ze f x (pl:Nat)) (pl:Int):=by
 intro i hi;unfold ze
 split
 ·omega
 ·exact h i hi
theorem o6 {pl:Int} (h:0≤pl):cz bK pl:=fun i _=>⟨by show(-1:Int)≤-1;omega,by show(-1:Int)≤pl;omega⟩
theorem z7 {f:j4} {pl y8:Int} (h:cz f pl) (hp:pl≤y8):cz f y8:=fun i hi=>⟨(h i hi).1,by have:=(h i hi).2;omega⟩
theorem CI {code:List aP} {R:List Bool} (hc:pQ code R) (pl:Nat) (e:Bool):∀(f:Nat) (w:Wk) (t:hU),G6 code R (pl:Int) w→R[t.pc]?=some true→cz t.c (pl:Int)→G6 code R (pl:Int) (er code pl e f w t).1
 |0,w,t,h,_,_=>h
 |f+1,w,t,h,hr,hp=>by
  have ih:=CI hc pl e f;unfold er
  split
  ·exact h
  ·split
   ·exact h
   ·rename_i i hi;have TR:=hc t.pc i hr hi;have hs:=h.seen (w.seen.set t.pc true)
    have hn:¬i.op=2→¬i.op=3→¬i.op=7→R[t.pc+1]?=some true:=fun h1 h2 h3=>by
     have:=TR ((t.pc+1:Nat):Int) (by unfold cH;rw[if_neg h1,if_neg h2,if_neg h3];simp)
     simpa using this
    split
    ·exact⟨.inl rfl,hp,h.r⟩
    ·rename_i h7
     split
     ·rename_i h2;have hx:=TR i.x (by unfold cH;rw[if_pos h2];simp);have hy:=TR i.y (by unfold cH;rw[if_pos h2];simp)
      split
      ·exact ih _ _ hs hx hp
      ·exact ih _ _ (ih _ _ hs hx hp) hy hp
     ·rename_i h2
      split
      ·rename_i h1;refine⟨h.b,h.p,fun t' ht=>?_⟩
       rcases List.mem_append.1 ht with ht|ht
       ·exact h.r t' ht
       ·simp only[List.mem_cons,List.not_mem_nil,or_false] at ht;subst ht;exact⟨hr,⟨i,hi,h1⟩,hp⟩
      ·split
       ·rename_i h3;exact ih _ _ hs (TR i.x (by unfold cH;rw[if_neg h2,if_pos h3];simp)) hp
       ·rename_i h3;have jX:=hn h2 h3 h7
        split
        ·exact ih _ _ hs jX (FI hp)
        ·split
         ·split
          ·exact ih _ _ hs jX hp
          ·exact hs
         ·split
          ·exact ih _ _ hs jX hp
          ·exact hs
theorem M8 {code:List aP} {R:List Bool} (hc:pQ code R) (pl:Nat) (e:Bool):∀(l:List hU) (w:Wk),G6 code R (pl:Int) w→(∀t∈l,R[t.pc]?=some true∧cz t.c (pl:Int))→G6 code R (pl:Int) (vE code pl e l w)
 |[],w,h,_=>h
 |t::ts,w,h,ht=>by
  have h1:=CI hc pl e (code.length+1) w t h (ht t (List.mem_cons_self ..)).1 (ht t (List.mem_cons_self ..)).2;unfold vE
  split
  ·exact h1
  ·exact M8 hc pl e ts _ h1 fun t' h'=>ht t' (List.mem_cons_of_mem _ h')
structure Ba (p:Pg) (s:Int) (pl:Int) (l:PL):Prop where
 b:l.dn=true∨rq l.bf
 c:cz l.bf pl
 t:∀t∈l.bn,mF p s p.code.length (t.pc:Int)∧cz t.c pl
 d:(l.bn.map hU.pc).Nodup
theorem tm {p:Pg} (hR:bm p) {s:Int} (hs:0≤s∧s<(p.code.length:Int)):pQ p.code (bR p.code s):=by
 intro u i hu hi w hw
 rcases(sx hR.closed hs).a u i hu hi w hw with h|h
 ·exact h.2
 ·cases h
theorem Gv {p:Pg} (hR:bm p) {s:Int} (hs:0≤s∧s<(p.code.length:Int)) {k:Nat} (h:mF p s p.code.length (k:Int)):(bR p.code s)[k]?=some true:=by
 rcases h with rfl|⟨i,q,_,h2,h3,h4,h5⟩
 ·rcases(sx hR.closed hs).d with h|h
  ·simpa using h.2
  ·cases h
 ·have hk:k=i+1:=by omega
  subst hk;have:=tm hR hs i q h3 h4 ((i+1:Nat):Int) (by unfold cH;rw[if_neg (by omega),if_neg (by omega),if_neg (by omega)];simp)
  simpa using this
theorem A_ {p:Pg} {s pl:Int} {l:List hU} {x:hU} (h:∀t∈l,mF p s p.code.length (t.pc:Int)∧cz t.c pl) (hx:mF p s p.code.length (x.pc:Int)∧cz x.c pl):∀t∈uX l x,mF p s p.code.length (t.pc:Int)∧cz t.c pl:=by
 intro t ht
 rcases yY ht with ht|ht
 ·exact h t ht
 ·subst ht;exact hx
theorem yX {l:List hU} {x:hU} (h:(l.map hU.pc).Nodup):((uX l x).map hU.pc).Nodup:=by
 unfold uX
 split
 ·exact h
 ·rename_i hn;rw[List.map_append,List.nodup_append];refine⟨h,by simp,fun a ha b hb=>?_⟩;simp only[List.map_cons,List.map_nil,List.mem_cons,List.not_mem_nil,or_false] at hb;subst hb;rintro rfl;obtain⟨y,hy,he⟩:=List.mem_map.1 ha;exact hn (List.any_eq_true.2 ⟨y,hy,by simpa using he⟩)
theorem rI {p:Pg} {s pl r:Int}:∀(l a:List hU),(∀t∈l,(bR p.code s)[t.pc]?=some true∧(∃i,p.code[t.pc]?=some i∧i.op=1)∧cz t.c pl)→(∀t∈a,mF p s p.code.length (t.pc:Int)∧cz t.c pl)→(a.map hU.pc).Nodup→
  (∀t∈jH p.code r l a,mF p s p.code.length (t.pc:Int)∧cz t.c pl)∧((jH p.code r l a).map hU.pc).Nodup
 |[],a,_,h2,h3=>⟨h2,h3⟩
 |t::ts,a,h1,h2,h3=>by
  unfold jH;obtain⟨g1,⟨i,g2,g3⟩,g4⟩:=h1 t (List.mem_cons_self ..);have Yy:=fun t' h'=>h1 t' (List.mem_cons_of_mem _ h')
  split
  ·refine rI ts _ Yy (A_ h2 ⟨.inr ⟨t.pc,i,bp g2,rfl,g1,g2,g3⟩,g4⟩) (yX h3)
  ·exact rI ts _ Yy h2 h3
theorem Fk {p:Pg} (hR:bm p) {s:Nat} (hs:s<p.code.length) {pl:Nat} {r:Int} {l:PL} (h:Ba p (s:Int) (pl:Int) l):Ba p (s:Int) (pl:Int) (ju p.code pl s r l):=by
 have L6:0≤(s:Int)∧(s:Int)<(p.code.length:Int):=⟨by omega,by omega⟩
 have hw:=M8 (tm hR L6) pl false l.bn (tM p.code.length l.dn l.bf) ⟨h.b,h.c,fun t ht=>by cases ht⟩ fun t ht=>⟨Gv hR L6 (h.t t ht).1,(h.t t ht).2⟩
 obtain⟨n1,n2⟩:=rI (r:=r) (vE p.code pl false l.bn (tM p.code.length l.dn l.bf)).rdy [] hw.r (fun t ht=>by cases ht) (by simp);unfold ju;refine⟨hw.b,hw.p,?_,?_⟩
 ·dsimp only
  split
  ·exact n1
  ·exact A_ n1 ⟨.inl rfl,o6 (by omega)⟩
 ·dsimp only
  split
  ·exact n2
  ·exact yX n2
theorem Ba.up {p:Pg} {s pl y8:Int} {l:PL} (h:Ba p s pl l) (hp:pl≤y8):Ba p s y8 l:=⟨h.b,z7 h.c hp,fun t ht=>⟨(h.t t ht).1,z7 (h.t t ht).2 hp⟩,h.d⟩
def tC (p:Pg) (pl:Nat) (ls:List PL):Prop:=ls.length=p.ak.length∧∀(i:Nat) l s,ls[i]?=some l→p.ak[i]?=some s→Ba p s (pl:Int) l
theorem wL {p:Pg} (hR:bm p) {i:Nat} {s:Int} (h:p.ak[i]?=some s):∃k:Nat,s=(k:Int)∧k<p.code.length∧(aG p)[i]?=some k:=by
 obtain⟨h1,h2⟩:=hR.st s (List.mem_of_getElem? h);obtain⟨k,rfl⟩:=Int.eq_ofNat_of_zero_le h1;exact⟨k,rfl,by omega,by unfold aG;rw[List.getElem?_map,h];rfl⟩
theorem wF {p:Pg} (hR:bm p):tC p 0 ((aG p).map jN):=by
 refine⟨by unfold aG;simp,fun i l s hl hs=>?_⟩;obtain⟨k,rfl,hk,ej⟩:=wL hR hs;rw[List.getElem?_map,ej] at hl;cases hl;refine⟨.inr fun i _=>rfl,o6 (by omega),fun t ht=>?_,by simp[jN]⟩;simp only[jN,List.mem_cons,List.not_mem_nil,or_false] at ht;subst ht;exact⟨.inl rfl,o6 (by omega)⟩
theorem CG {p:Pg} (hR:bm p) {pl:Nat} {r n:Int} {ls:List PL} (h:tC p pl ls):tC p (pl+mS n) (jE p.code pl r (aG p) ls):=by
 have hl:(aG p).length=ls.length:=by unfold aG;rw[List.length_map,h.1]
 refine⟨by rw[lS _ _ _ _ _ hl];exact h.1,fun i l s hi hs=>?_⟩;obtain⟨k,rfl,hk,ej⟩:=wL hR hs;have hil:i<ls.length:=by have:=bp hs;have:=h.1;omega
 obtain⟨l0,Fa⟩:∃l,ls[i]?=some l:=⟨ls[i]'hil,List.getElem?_eq_getElem _⟩
 rw[rC p.code pl r (aG p) ls i k l0 ej Fa] at hi;cases hi;exact(Fk hR hk (h.2 i l0 _ Fa hs)).up (by omega)
def hU.g (t:hU):GT:=⟨(t.pc:Int),t.c⟩
def VL.g (l:VL):GV:=⟨l.dn,l.bf,l.td,l.bn.map hU.g⟩
theorem P0 (l:List hU):(l.map hU.g).map dA=l.map bw:=by rw[List.map_map];rfl
theorem CF {p:Pg} (hR:bm p) {pl:Nat} {V:List VL} (h:tC p pl (V.map VL.pl)) (fT:pl≤1099511627776):dr p (pl:Int) (V.map VL.g):=by
 have hlen:=h.1;rw[List.length_map] at hlen;refine⟨hR,by omega,by omega,by rw[List.length_map,hlen],fun r l s hr hl hs=>?_⟩;rw[List.getElem?_map] at hl;obtain⟨v,hv,rfl⟩:=Option.map_eq_some_iff.1 hl;have hw:=h.2 r v.pl s (by rw[List.getElem?_map,hv];rfl) hs;refine⟨hw.b,hw.c,fun j t hj ht=>?_⟩;change(v.bn.map hU.g)[j]?=some t at ht;rw[List.getElem?_map] at ht;obtain⟨u,hu,rfl⟩:=Option.map_eq_some_iff.1 ht;have lB:=hw.t u (List.mem_of_getElem? hu);refine⟨⟨lB.1,fun j' t' Gk Jp he=>?_⟩,lB.2⟩;change(v.bn.map hU.g)[j']?=some t' at Jp;rw[List.getElem?_map] at Jp;obtain⟨u',UT,rfl⟩:=Option.map_eq_some_iff.1 Jp;have hd:(v.bn.map hU.pc).Nodup:=hw.d;have hpp:=List.pairwise_iff_getElem.1 hd j' j (by rw[List.length_map];exact bp UT) (by rw[List.length_map];exact bp hu) Gk;have e1:(v.bn.map hU.pc)[j']?=some u'.pc:=by rw[List.getElem?_map,UT];rfl
 have e2:(v.bn.map hU.pc)[j]?=some u.pc:=by rw[List.getElem?_map,hu];rfl
 rw[List.getElem?_eq_some_iff] at e1 e2;obtain⟨_,e1⟩:=e1;obtain⟨_,e2⟩:=e2;rw[e1,e2] at hpp;have vO:((u'.pc:Nat):Int)=((u.pc:Nat):Int):=he;exact hpp (by omega)
def uA (fr:Go.V.Fr) (k:Nat):Go.V.D:=Go.V.nth .bI fr.loc k
theorem MH.over {A H2:List bo} {N:Nat} {S st ai:St} {ks kv:Nat} {p:Pg} {pl:Nat} {ld:D} {L:List VL} {H:List bo} (hM:MH A N S st ks kv p pl ld L H) (h2:Has st.bs.length st ai H2):MH (H2++A) N S ai ks kv p pl ld L H:=by
 obtain⟨pd,qd,P,Q,sn,hH,h3,h4⟩:=vm hM;exact DG (by simpa only[List.append_assoc] using Has.over hH h2) h3 h4
def mg (st:St) (es:List (List D)) (L:List GV):Prop:=es.length=L.length∧∀(i:Nat) l,L[i]?=some l→∃d,V.Rows st 11 d (l.bn.map dA)∧es[i]?=some (aX l.dn l.bf d)
theorem Oo {L L':List GV} (h:L'.map GV.told=L.map GV.told):L'.length=L.length∧∀(i:Nat) l,L[i]?=some l→∃l',L'[i]?=some l'∧l'.dn=l.dn∧l'.bf=l.bf∧l'.bn=l.bn:=by
 refine⟨by have:=congrArg List.length h;simpa using this,fun i l hl=>?_⟩;have h1:(L'.map GV.told)[i]?=some l.told:=by rw[h,List.getElem?_map,hl];rfl
 rw[List.getElem?_map] at h1;obtain⟨l',h2,h3⟩:=Option.map_eq_some_iff.1 h1;refine⟨l',h2,?_⟩;simp only[GV.told,GV.mk.injEq] at h3;exact⟨h3.1,h3.2.1,h3.2.2.2⟩
theorem G8.Uv {st:St} {x:D} {L L':List GV} (hx:G8 st x L') (h:L'.map GV.told=L.map GV.told):mg st (L'.map eo) L:=by
 obtain⟨h1,h2⟩:=Oo h;refine⟨by rw[List.length_map];exact h1,fun i l hl=>?_⟩;obtain⟨l',h3,h4,h5,h6⟩:=h2 i l hl;refine⟨l'.td,by rw[←h6];exact(hx.2.2 l' (List.mem_of_getElem? h3)).1,?_⟩;rw[yp h3,←h4,←h5];rfl
theorem mg.ex {s0 S st:St} {H:List bo} {es:List (List D)} {L:List GV} (h:mg s0 es L) (hS:S.bs=s0.bs) (hH:Has s0.bs.length S st H):mg st es L:=⟨h.1,fun i l hl=>by
 obtain⟨d,h1,h2⟩:=h.2 i l hl
 exact⟨d,(Arg.of h1 hS).rows hH,h2⟩⟩
theorem RD (t:GT):fw pv .neq 139 (.agg (dA t)) (.agg (dA t))=some (.bool false):=by
 have h:∀a b c d e g i j k l m:Int,fw pv .neq 139 (.agg [.int .i64 a,.int .i64 b,.int .i64 c,.int .i64 d,.int .i64 e,.int .i64 g,.int .i64 i,.int .i64 j,.int .i64 k,.int .i64 l,.int .i64 m]) (.agg [.int .i64 a,.int .i64 b,.int .i64 c,.int .i64 d,.int .i64 e,.int .i64 g,.int .i64 i,.int .i64 j,.int .i64 k,.int .i64 l,.int .i64 m])=Option.map (fun b=>D.bool !b) (match some (a==a) with|some true=>(match(match some (b==b) with|some true=>(match some (c==c) with|some true=>(match some (d==d) with|some true=>(match some (e==e) with|some true=>(match some (g==g) with|some true=>(match some (i==i) with|some true=>(match some (j==j) with|some true=>(match some (k==k) with|some true=>(match some (l==l) with|some true=>(match some (m==m) with|some true=>some true|some false=>some false|none=>none)|some false=>some false|none=>none)|some false=>some false|none=>none)|some false=>some false|none=>none)|some false=>some false|none=>none)|some false=>some false|none=>none)|some false=>some false|none=>none)|some false=>some false|none=>none)|some false=>some false|none=>none)|some false=>some false|none=>none) with|some true=>some true|some false=>some false|none=>none)|some false=>some false|none=>none):=fun _ _ _ _ _ _ _ _ _ _ _=>rfl;unfold dA;rw[h];simp only[beq_self_eq_true,Option.map_some,Bool.not_true]
theorem IZ {s0:St} {x y:D} {l:List GT} (hx:V.Rows s0 11 x (l.map dA)) (hy:V.Rows s0 11 y (l.map dA)) (hl:l.length≤1073741824):Ev pv 108 [x,y] s0 (.bool true) s0:=by
 refine Ev.gP rfl Q0 rfl rfl rfl ?_;refine zE ?_;obtain⟨aN,hF,hH⟩:=ri s0;generalize ae .ro s0=S at*;have hx:=Arg.of hx aN;have hy:=Arg.of hy aN;refine zQ 8 ?_;refine qn ?_;simp only[List.length_map];refine qm ?_;refine qn ?_;simp only[List.length_map];refine zQ 2 ?_;refine qE rfl (by simp) ?_;refine zQ 7 ?_;refine ag.loop (fun mm fr st=>∃(i:Nat),fr.clean=⟨6,[x,y,uA fr 2,uA fr 3,.bool false,.int .i64 (i:Nat)],[]⟩∧Has s0.bs.length S st []∧(i+mm=l.length)) (l.length) ?_ ?_
 ·exact⟨0,rfl,hH,by omega⟩
 rintro mm fr st ⟨i,hfr,hH,hi⟩;rw[hfr];clear hfr;generalize uA fr=ee;clear fr;refine zQ 5 ?_;refine qn ?_;simp only[List.length_map];refine zQ 2 ?_;refine zP (fun h1=>?_) fun h1=>?_
 ·refine zQ 1 ?_
  obtain⟨p,hp⟩:∃p,l[i]?=some p:=⟨l[i]'(by omega),List.getElem?_eq_getElem _⟩
  have gw:=Ca hp;refine zQ 6 ?_;refine qr fun Yr Pr=>?_;refine ab.c_ rfl (ev rfl) (by assumption) rfl (aa rfl _) ?_;refine zQ 2 ?_;refine qr fun Uh Mg=>?_;refine ab.c_ rfl (ev rfl) (by assumption) rfl (aa rfl _) ?_;refine ab.QA rfl (ev rfl) (ev rfl) (RD p) (aa rfl _) ?_;refine zQ 8 ?_;exact⟨mm-1,by omega,⟨i+1,rfl,hH,by omega⟩⟩
 ·refine zQ 5 ?_;refine ag.ret ⟨rx,_,rfl,rl aN hH (rfl)⟩
theorem Jh {s0:St} {x y:D} {es fs:List (List D)} {L:List GV} (hx:V.Rows s0 12 x es) (hy:V.Rows s0 12 y fs) (vN:mg s0 es L) (Mw:mg s0 fs L) (hl:L.length≤1073741824) (Cy:∀l∈L,l.bn.length≤1000):Ev pv 47 [x,y] s0 (.bool true) s0:=by
 obtain⟨tJ,heg⟩:=vN;obtain⟨mZ,hfg⟩:=Mw;refine Ev.gP rfl Wr rfl rfl rfl ?_;refine zE ?_;obtain⟨aN,hF,hH⟩:=ri s0;generalize ae .ro s0=S at*;have hx:=Arg.of hx aN;have hy:=Arg.of hy aN;refine zQ 8 ?_;refine qn ?_;refine qm ?_;refine qn ?_;refine zQ 2 ?_;refine qE rfl (by rw[tJ,mZ];simp) ?_;refine zQ 7 ?_;refine ag.loop (fun mm fr st=>∃(i:Nat),fr.clean=⟨6,[x,y,uA fr 2,uA fr 3,.bool false,.int .i64 (i:Nat)],[]⟩∧Has s0.bs.length S st []∧(i+mm=es.length)) (es.length) ?_ ?_
 ·exact⟨0,rfl,hH,by omega⟩
 rintro mm fr st ⟨i,hfr,hH,hi⟩;rw[hfr];clear hfr;generalize uA fr=ee;clear fr;refine zQ 5 ?_;refine qn ?_;refine zQ 2 ?_;refine zP (fun h1=>?_) fun h1=>?_
 ·refine zQ 1 ?_
  obtain⟨l,px⟩:∃l,L[i]?=some l:=⟨L[i]'(by omega),List.getElem?_eq_getElem _⟩
  obtain⟨d1,hd1,gw⟩:=heg i l px;obtain⟨d2,hd2,nB⟩:=hfg i l px;have mO:=Cy l (List.mem_of_getElem? px);have ck:(l.dn !=l.dn)=false:=by simp
  have jk:false=false:=rfl;refine zQ 3 ?_;refine ag.dM 54 (.bool false) [] ?_ (fun ff tmp dj=>?_)
  ·refine zQ 2 ?_;refine qr fun Yr Pr=>?_;refine qf (fo:=0) fun Rp Ge=>?_;refine zQ 3 ?_;refine qr fun Qw D3=>?_;refine qf (fo:=0) fun Ro Gd=>?_;refine zQ 5 ?_;refine qr (fun p31 aal=>?_) (hg:=wi ck);refine qf (fo:=1) (fun Zg Mf=>?_) (hg:=wi ck);refine zQ 3 ?_;refine qr (fun Yq Pq=>?_) (hg:=wi ck);refine qf (fo:=1) (fun Yp Pp=>?_) (hg:=wi ck);refine zQ 1 ?_;refine ab.QA (af rfl rfl rfl ck) (ev rfl) (ev rfl) (DC l.bf) (aa rfl _) ?_;refine zQ 4 ?_;refine qr (fun Zd Sg=>?_) (hg:=wi jk);refine qf (fo:=11) (fun p45 Vg=>?_) (hg:=wi jk);refine zQ 3 ?_;refine qr (fun Zc Sf=>?_) (hg:=wi jk);refine qf (fo:=11) (fun Yn Pn=>?_) (hg:=wi jk);refine zQ 1 ?_;refine qv (IZ ((Arg.of hd1 aN).rows hH) ((Arg.of hd2 aN).rows hH) (by omega)) ?_ (hg:=wi jk);refine zQ 2 ?_;refine ab.nil (aR ?_ ?_)
   ·dsimp only[aK,List.foldl,nth,u2,u1]
    all_goals(first|rfl|simp)
   ·dsimp only[Fr.eH,Fr.put,Fr.clean,Fr.ev,Fr.get,nth,look,u1,u2,v1,v2,v4]
    all_goals(rfl)
  dsimp only[aK,List.foldl,nth,u2,u1];dsimp only[Fr.eH,Fr.put,Fr.clean,Fr.ev,Fr.get,nth,look,u1,u2,v1,v2,v4];refine zQ 7 ?_;exact⟨mm-1,by omega,⟨i+1,rfl,hH,by omega⟩⟩
 ·refine zQ 5 ?_;refine ag.ret ⟨rx,_,rfl,rl aN hH (rfl)⟩
theorem BR {s0:St} {pl:Int} {x y:D} {es fs:List (List D)} {L:List GV} (hx:V.Rows s0 12 x es) (hy:V.Rows s0 12 y fs) (vN:mg s0 es L) (Mw:mg s0 fs L) (hl:L.length≤1000) (Cy:∀l∈L,l.bn.length≤1000):Ev pv 94 [.agg [.int .i64 pl,x],.agg [.int .i64 pl,y]] s0 (.bool true) s0:=by
 have hls:=fun{st:St} (hx:V.Rows st 12 x es) (hy:V.Rows st 12 y fs) (vN:mg st es L) (Mw:mg st fs L)=>Jh (s0:=st) hx hy vN Mw (by omega) Cy;have hcx:=i7 hx;have hcy:=i7 hy;refine Ev.gP rfl abe rfl rfl rfl ?_;refine zE ?_;obtain⟨aN,hF,hH⟩:=ri s0;generalize ae .ro s0=S at*;have cK:(pl==pl)=true:=by simp
 have hx:=Arg.of hx aN;have hy:=Arg.of hy aN;refine zQ 2 ?_;refine qb hH fun k2 st hk2 hH=>?_;refine qb hH fun k3 st oC hH=>?_;refine zQ 14 ?_;refine qv (hls (hx.rows hH) (hy.rows hH) (vN.ex aN hH) (Mw.ex aN hH)) ?_ (hg:=wi cK);refine zQ 3 ?_;refine ag.ret ⟨rx,_,rfl,rl aN hH (rfl)⟩
theorem rN {α:Type} (one:df→α×df):∀n s,(bj one n s).1.length≤n
 |0,s=>Nat.le_refl _
 |n+1,s=>by
  unfold bj
  split
  ·simp
  ·simp only[List.length_cons];have:=rN one n (one s).2;omega
theorem xZ {α:Type} {one:df→α×df} {R:df→Prop} {Q:α→Prop} (hR:∀s,R s→R (one s).2∧Q (one s).1):∀n s,R s→∀a∈(bj one n s).1,Q a
 |0,s,_,a,ha=>by cases ha
 |n+1,s,hs,a,ha=>by
  unfold bj at ha
  split at ha
  ·cases ha
  ·rcases List.mem_cons.1 ha with rfl|ha
   ·exact(hR s hs).2
   ·exact xZ hR n _ (hR s hs).1 a ha
theorem Kx {b:List UInt8} {s:df} (h:s.at_≤b.length):(lA b s).1.length≤400:=by
 obtain⟨i1,i2,i3,i4⟩:=fS (m:=400) h;unfold lA
 by_cases he:(bS b 400 s).2.e=0
 ·have:=rN (eT b) (bS b 400 s).1.toNat (bS b 400 s).2;have:=i4 he;omega
 ·rw[eA _ he];simp
theorem F0 {b:List UInt8} {s:df} (h:s.at_≤b.length):Kh (dD b s).1:=by
 obtain⟨i1,i2,i3,i4⟩:=fS (m:=8) h;unfold dD
 by_cases he:(bS b 8 s).2.e=0
 ·refine⟨?_,xZ (R:=fun s=>s.at_≤b.length) (fun s hs=>⟨pg hs,rfl,Kx (kG (pz hs) 10)⟩) _ _ i1⟩;have:=rN (dc b) (bS b 8 s).1.toNat (bS b 8 s).2;have:=i4 he;omega
 ·rw[eA _ he];exact Ia
structure Yd (q:List UInt8×Int×List GV):Prop where
 h:q.1.length≤3
 g:Kh q.2.2
theorem tW {b:List UInt8} {s:df} (h:s.at_≤b.length):Yd (cB b s).1:=by
 have h1:=(lR (m:=3) h)
 refine⟨?_,F0 (dB h1.1).1⟩;have:((cB b s).1.1.length:Int)≤max 3 0:=h1.2;omega
theorem AJ {st:St} {x:D} {L:List GV} (h:CD x L):mg st (L.map eo) L:=G8.Uv (h.arg st) rfl
theorem pU {s0:St} {q:List UInt8×Int×List GV} (hq:Yd q):Ev pv 31 [mh q,mh q] s0 (.bool true) s0:=by
 obtain⟨h,pl,L⟩:=q;obtain⟨h3,hg⟩:=hq;dsimp only at h3 hg;have AD:=hg.Od;have yh:=hg.n;have hsb:=fun st=>jv (st:=st) (x:=bF h) (y:=bF h) (l:=h) (ig st h) (ig st h) (by omega);have hm:=fun st=>BR (s0:=st) (pl:=pl) (AD.sl.rows st) (AD.sl.rows st) (AJ AD) (AJ AD) (by omega) (fun l hl=>by have:=(hg.t l hl).2;omega);unfold mh;refine Ev.gP rfl abW rfl rfl rfl ?_;refine zE ?_;obtain⟨aN,hF,hH⟩:=ri s0;generalize ae .ro s0=S at*;refine zQ 2 ?_;refine qb hH fun k2 st hk2 hH=>?_;refine qb hH fun k3 st oC hH=>?_;refine zQ 2 ?_;have cK:true=true:=rfl;refine zQ 6 ?_;refine qv ((hsb _)) ?_;refine zQ 2 ?_;refine ab.av (m:=2) hH (af rfl rfl rfl cK) (ev rfl) (by exact aO) (by dsimp only[List.drop_succ_cons,List.drop_zero,List.take_succ_cons,List.take_zero]<;>rfl) rfl rfl (aa rfl _) ?_;refine zQ 1 ?_;refine ab.av (m:=2) hH (af rfl rfl rfl cK) (ev rfl) (by exact aB) (by dsimp only[List.drop_succ_cons,List.drop_zero,List.take_succ_cons,List.take_zero]<;>rfl) rfl rfl (aa rfl _) ?_;refine qv ((hm _)) ?_ (hg:=wi cK);refine zQ 3 ?_;refine ag.ret ⟨rx,_,rfl,rl aN hH (rfl)⟩
def PL.gt (l:PL):GV:=⟨l.dn,l.bf,qI (l.bn.map hU.g),l.bn.map hU.g⟩
theorem MW (ls:List PL):(ls.map PL.gt).map eo=ls.map mX:=by
 rw[List.map_map];refine List.map_congr_left fun l _=>?_;show aX l.dn l.bf (qI (l.bn.map hU.g))=aX l.dn l.bf (TA l.bn);unfold qI TA;rw[P0]
theorem MV (h:List UInt8) (pl:Nat) (ls:List PL):KQ (bF h) pl ls=mh (h,(pl:Int),ls.map PL.gt):=by
 unfold KQ mh rL oL;rw[MW]
theorem zz {p:Pg} (hR:bm p):∀(gs:List (Nat×Nat)) (pl:Nat) (ls:List PL),tC p pl ls→tC p (iJ p.code (aG p) gs pl ls).1 (iJ p.code (aG p) gs pl ls).2
 |[],_,_,h=>h
 |g::gs,pl,ls,h=>by
  simp only[iJ];exact zz hR gs _ _ (CG hR h)
theorem rB {p:Pg} (hR:bm p):∀(b:List UInt8) (x:List UInt8×Nat×List PL),tC p x.2.1 x.2.2→tC p (dH p.code (aG p) b x).2.1 (dH p.code (aG p) b x).2.2
 |[],x,h=>h
 |c::b,x,h=>rB hR b _ (zz hR _ _ _ h)
theorem GY {code:List aP} {ss:List Nat} (b:List UInt8) {x:List UInt8×Nat×List PL} (hx:bO x.1=true∨x.1=[]):bO (dH code ss b x).1=true∨(dH code ss b x).1=[]:=by
 induction b generalizing x with
 |nil=>exact hx
 |cons c b ih=>exact ih (C7 code ss x c)
theorem Of {p:Pg} (hR:bm p) {pl:Nat} {ls:List PL} (h:tC p pl ls) (fT:pl≤1099511627776):dr p (pl:Int) (ls.map PL.gt):=by
 have h1:=CF hR (V:=ls.map fun l=>(⟨l.dn,l.bf,qI (l.bn.map hU.g),l.bn⟩:VL)) (pl:=pl) (by rw[List.map_map];exact(List.map_id ls).symm▸h) fT;rw[List.map_map] at h1;exact h1
def rm (p:Pg) (b:List UInt8):List UInt8×Nat×List PL:=dH p.code (aG p) b ([],0,(aG p).map jN)
def rn (p:Pg) (b:List UInt8):List UInt8×Int×List GV:=((rm p b).1,((rm p b).2.1:Nat),(rm p b).2.2.map PL.gt)
theorem pM {p:Pg} (hR:bm p) {b:List UInt8} (hb:b.length≤100):(rm p b).1.length≤3∧(rm p b).2.1≤1600∧(rm p b).2.2.length=p.ak.length∧(∀l∈(rm p b).2.2,l.ok p.code.length)∧dr p (rn p b).2.1 (rn p b).2.2∧(bO (rn p b).1=true∨(rn p b).1=[]):=by
 obtain⟨g1,g2,g3,g4⟩:=wV hR b ([],0,(aG p).map jN) (by simp) (by unfold aG;simp) (uf hR);refine⟨g1,by unfold rm;simp only at g2;omega,g3,g4,Of hR (rB hR b ([],0,(aG p).map jN) (wF hR)) (by unfold rm;simp only at g2;omega),GY b (.inr rfl)⟩
theorem xB:∀(n:Nat) (l:List Nat),l.Nodup→(∀x∈l,x<n)→l.length≤n
 |0,l,_,h=>by
  cases l with
  |nil=>simp
  |cons a l=>exact absurd (h a (List.mem_cons_self ..)) (by omega)
 |n+1,l,hd,h=>by
  by_cases hm:n∈l
  ·have h1:=xB n (l.erase n) (hd.erase n) fun x hx=>by
    have h2:=(hd.mem_erase_iff).1 hx;have:=h x h2.2;have:=h2.1;omega
   rw[List.length_erase_of_mem hm] at h1;omega
  ·have:=xB n l hd fun x hx=>by
    have:=h x hx;have:x≠n:=fun e=>hm (e▸hx);omega
   omega
theorem qZ {p:Pg} (hR:bm p) {b:List UInt8} (hb:b.length≤100):Yd (rn p b):=by
 obtain⟨g1,g2,g3,g4,_,_⟩:=pM hR hb;obtain⟨w1,w2⟩:=rB hR b ([],0,(aG p).map jN) (wF hR);have hcl:=hR.cl;have kX:=hR.sl;refine⟨g1,by show((rm p b).2.2.map PL.gt).length≤8;rw[List.length_map];omega,fun g hg=>?_⟩;obtain⟨l,hl,rfl⟩:=List.mem_map.1 hg;refine⟨rfl,?_⟩;show(l.bn.map hU.g).length≤400;rw[List.length_map];obtain⟨i,hi⟩:=List.getElem?_of_mem hl;have hil:=bp hi
 obtain⟨s,hs⟩:∃s,p.ak[i]?=some s:=⟨p.ak[i]'(by omega),List.getElem?_eq_getElem _⟩
 have hd:=(w2 i l s hi hs).d
 have h1:=xB p.code.length (l.bn.map hU.pc) hd fun x hx=>by
  obtain⟨t,ht,rfl⟩:=List.mem_map.1 hx;exact(g4 l hl).1 t ht
 rw[List.length_map] at h1;omega
theorem nJ (jX:∀st,Ev pv 149 [] st (.agg (aA bK)) st) {s0:St} {p:Pg} {x:D} {b:List UInt8} (hp:p.ok) (hR:bm p) (hx:dg x 1 (byteCells b)) (hbl:b.length≤100):
  Ev pv 15 [p.d,x] s0 (.tup [mh (rn p b),.bool true]) s0:=by
 obtain⟨g1,g2,g3,g4,_,_⟩:=pM hR hbl;have JC:=hR.cl;have RY:=hR.sl;have S7:∀l∈(aG p).map jN,l.ok p.code.length:=uf hR;have h0l:((aG p).map jN).length=p.ak.length:=by unfold aG;simp
 have Vt:∀{N S st H},S.flr≤N→Has N S st H→_:=fun{N S st H} hF hH=>Ht (N:=N) (S:=S) (s0:=st) (H:=H) jX hF hp hR hH
 obtain⟨h,pl,ls,hX⟩:∃h pl ls,rm p b=(h,pl,ls):=⟨_,_,_,rfl⟩
 have hQ:mh (rn p b)=KQ (bF h) pl ls:=by
  unfold rn;rw[hX];exact(MV h pl ls).symm
 rw[hX] at g1 g2 g3 g4;unfold rm at hX;dsimp only at g1 g2 g3 g4;rw[hQ];have nM:=hp.c;have hsd:=hp.s;unfold Pg.d at*;refine Ev.gP rfl ab9 rfl rfl rfl ?_;refine zE ?_;obtain⟨aN,hF,hH⟩:=ri s0;generalize ae .ro s0=S at*;have UM:=hx.arg s0.bs.length S;refine zQ 2 ?_;refine qb hH fun k2 st hk2 hH=>?_;dsimp only[u2,u1,u3,u4,setMany,u5,u6,D.cells,Nat.reduceAdd,Pg.cs] at hH;refine qa hH fun k4 st QQ hH=>?_;refine zQ 4 ?_;refine ab.av (m:=2) hH rfl (ev rfl) (by exact aO) (by dsimp only[List.drop_succ_cons,List.drop_zero,List.take_succ_cons,List.take_zero,Pg.cs]<;>rfl) rfl rfl (aa rfl _) ?_;obtain⟨_,st,ax,kS,kd,kv,ks,q,ld,L,rfl,hq,hL,hM⟩:=Vt hF hH;refine qv ax ?_;refine zQ 6 ?_;obtain⟨pd,qd,P,Q,sn,js,hH,ba,ej,hl⟩:=SH.pull [_,_] (H:=[]) hM;dsimp only[u3,u4] at hH
 have hM:SH [_,_] s0.bs.length S st kS kd kv ks q 0 ld L [] []:=⟨pd,qd,P,Q,sn,js,hH,ba,ej,hl⟩
 have hM:=SH.push (A:=[_,_]) (H:=[]) hM;refine zQ 2 ?_;refine ag.dM 18 (.bool false) [] ?_ (fun ff tmp dj=>?_)
 ·refine zQ 3 ?_;refine ab.two 15 rfl (fun br=>?_) (fun br=>?_)
  ·refine zQ 3 ?_;refine ab.nil (aR ?_ ?_)
   ·dsimp only[aK,List.foldl,nth,u2,u1]
    all_goals(first|rfl|simp)
   ·refine zF ?_
    all_goals(simp[br];done)
  ·refine zQ 3 ?_;refine ab.nil (aR ?_ ?_)
   ·dsimp only[aK,List.foldl,nth,u2,u1]
    all_goals(first|rfl|simp)
   ·refine zF ?_
    all_goals(rfl)
 dsimp only[aK,List.foldl,nth,u2,u1];refine zQ 2 ?_;have YD:=hq.right hR;have YN:q.code.length=p.code.length:=by rw[hq.code,List.length_map]
 have TS:L.length=q.ak.length:=by
  have:=congrArg List.length hL;rw[List.length_map,h0l] at this;rw[hq.ak];exact this
 have vQ:∀l∈L,l.pl.ok q.code.length:=by rw[YN];exact ia (by rw[hL];exact S7)
 have RW:∀b x,dH q.code (aG q) b x=dH p.code (aG p) b x:=fun b x=>by rw[hq.code,hq.aG,rF]
 refine zQ 4 ?_;obtain⟨_,st,ax,rfl,ld3,L3,Ek,PU⟩:=wY (b:=b) jX hF hq.ok YD UM (by omega) (by omega) (by simp) TS vQ hM;rw[RW,hL,hX] at Ek PU;have hH:=(SH.pull [_,_] (H:=_) PU).has;refine qv ax ?_;refine zQ 1 ?_;dsimp only at Ek PU;obtain⟨js2,hAS⟩:=PU.as;have Wg:L3.length=p.ak.length:=by rw[←g3,←Ek,List.length_map]
 have AG:∀l∈L3,l.pl.ok p.code.length:=ia (by rw[Ek];exact g4);obtain⟨_,st2,PI,rfl,sO⟩:=wX hq.ok (by omega) (Hz AG) hAS;rw[sO,Ek] at PI;clear sO st2;have kZ:(KQ (bF h) pl ls).cells?=some [bF h,.int .i64 (pl:Nat),rL ls]:=rfl;refine zQ 3 ?_;refine ab.aS rfl rfl PI (aa rfl _) ?_;refine ab.bQ hH rfl (ev rfl) (ev rfl) kZ (by exact rfl) aB (by exact rfl) (.inr rfl) (fun st hH=>?_);dsimp only[u1,u2] at hH;refine zQ 2 ?_;refine ag.ret ⟨rx,_,hH.fm rfl aB rfl rfl,rl aN hH (show bA st s0.bs.length false 16 (D.tup [KQ (bF h) pl ls,D.bool true])=some (D.tup [KQ (bF h) pl ls,D.bool true]) from rfl)⟩
theorem nE {s0:St} {x:D} {b:List UInt8} (hx:dg x 1 (byteCells b)) (n:Nat):∃d,Ev pv 16 [x,.int .i64 (n:Nat)] s0 d s0∧dg d 1 (byteCells (b.take n)):=by
 have uN:=au b;refine Ev.FP rfl ab8 rfl rfl rfl ?_;refine zE ?_;obtain⟨aN,hF,hH⟩:=ri s0;generalize ae .ro s0=S at*;have UM:=hx.arg s0.bs.length S;refine zQ 8 ?_;refine qn ?_;refine zQ 3 ?_;rw[uN];refine zP (fun h0=>?_) fun h0=>?_
 ·have TM:n≤(byteCells b).length:=by omega
  refine zQ 4 ?_;refine ab.xi rfl (ev rfl) (by assumption) rfl rfl (et (by omega)) (fun _=>(aa rfl _)) (fun y11 ZA=>?_);refine zQ 2 ?_;obtain⟨z,hz1,hz2⟩:=ZA.freeze S s0.bs.length 15;refine ag.ret ⟨rx,_,_,rfl,rl aN hH (hz1),?_⟩;rw[List.drop_zero] at hz2;unfold byteCells at hz2⊢;rw[List.map_take];exact hz2
 ·refine zQ 6 ?_;obtain⟨z,hz1,hz2⟩:=hx.freeze S s0.bs.length 15;refine ag.ret ⟨rx,_,_,rfl,rl aN hH (hz1),?_⟩;rw[List.take_of_length_le (by omega)];exact hz2
end Go.Proofs.YtecjacicdpejaaaGreat
