import Derived.Test.YtbdnabmmlbiomaaGreatXGYl
import Derived.Test.YtbdnabmmlbiomaaGreatXGYe
set_option maxRecDepth 100000
set_option maxHeartbeats 4000000
set_option linter.unusedSimpArgs false
set_option linter.unusedVariables false
namespace Go.Proofs.YtbdnabmmlbiomaaGreat
open Go.V Go
theorem xq {st:St} {x:D} {b:List UInt8} (hb:Bytes st x b) (hlen:b.length≤1048576):Ev pv 81 [x] st (.bool (cE b)) st:=by
 refine Ev.iS rfl XK rfl rfl rfl ?_;dsimp only[u3,u4,List.length,Nat.reduceSub,Nat.reduceAdd,w1,w2];have hb:=hb.enter .ro;have hbl:=aG b;have hf:=(mc b).1;refine qy ?_;(repeat refine qq ?_);(generalize hK:aI _ _ _ _=K);refine ab.br ?_;(repeat(refine xL ?_));refine aa.nil ?_;dsimp only[Fr.aj,Fr.put,Fr.clean,Fr.ev,Fr.get,nth,V.look,u1,u2,v1,v2,v3,v4,v5,v6,v7,List.length,u3,u4,Nat.reduceSub,Nat.reduceAdd,List.map];subst hK;refine qy ?_;(repeat refine qq ?_);(generalize hK:aI _ _ _ _=K);refine ab.br ?_
 (refine xT ?_)
 refine aa.iL rfl rfl rfl (Aj hb hlen) ?_;(repeat(first|refine xT ?_|refine xL ?_));refine aa.nil ?_;dsimp only[Fr.aj,Fr.put,Fr.clean,Fr.ev,Fr.get,nth,V.look,u1,u2,v1,v2,v3,v4,v5,v6,v7,List.length,u3,u4,Nat.reduceSub,Nat.reduceAdd,List.map];subst hK;refine qy ?_;generalize(cC b).1=k at*;generalize(cC b).2=n at*
 by_cases h1:0<k
 ·by_cases h2:k<n
  ·by_cases h3:k=b.length
   ·rw[hf.2 ⟨h1,h2,h3⟩];refine qy ?_;(repeat refine qq ?_);(generalize hK:aI _ _ _ _=K);refine ab.br ?_;(repeat(first|refine xT ?_|simp(disch:=omega) only[decide_eq_true,decide_eq_false,bE,b8,bD,b7]));refine aa.len rfl rfl rfl hb rfl ?_;rw[hbl];(repeat(first|refine xT ?_|refine xL ?_|simp(disch:=omega) only[decide_eq_true,decide_eq_false,bE,b8,bD,b7]));refine aa.nil ?_;dsimp only[Fr.aj,Fr.put,Fr.clean,Fr.ev,Fr.get,nth,V.look,u1,u2,v1,v2,v3,v4,v5,v6,v7,List.length,u3,u4,Nat.reduceSub,Nat.reduceAdd,List.map];subst hK;refine qy ?_;refine ab.ret ⟨rx,_,rfl,aJ (by simp) (by simp[ag]) ?_⟩
    rfl
   ·have:cE b=false:=by
     cases h:cE b with
     |false=>rfl
     |true=>have:=hf.1 h;omega
    rw[this];refine qy ?_;(repeat refine qq ?_);(generalize hK:aI _ _ _ _=K);refine ab.br ?_;(repeat(first|refine xT ?_|simp(disch:=omega) only[decide_eq_true,decide_eq_false,bE,b8,bD,b7]));refine aa.len rfl rfl rfl hb rfl ?_;rw[hbl];(repeat(first|refine xT ?_|refine xL ?_|simp(disch:=omega) only[decide_eq_true,decide_eq_false,bE,b8,bD,b7]));refine aa.nil ?_;dsimp only[Fr.aj,Fr.put,Fr.clean,Fr.ev,Fr.get,nth,V.look,u1,u2,v1,v2,v3,v4,v5,v6,v7,List.length,u3,u4,Nat.reduceSub,Nat.reduceAdd,List.map];subst hK;refine qy ?_;refine ab.ret ⟨rx,_,rfl,aJ (by simp) (by simp[ag]) ?_⟩
    rfl
  ·have:cE b=false:=by
    cases h:cE b with
    |false=>rfl
    |true=>have:=hf.1 h;omega
   rw[this];refine qy ?_;(repeat refine qq ?_);(generalize hK:aI _ _ _ _=K);refine ab.br ?_;(repeat(first|refine xT ?_|refine xL ?_|refine xo ?_|simp(disch:=omega) only[decide_eq_true,decide_eq_false,bE,b8,bD,b7]));refine aa.nil ?_;dsimp only[Fr.aj,Fr.put,Fr.clean,Fr.ev,Fr.get,nth,V.look,u1,u2,v1,v2,v3,v4,v5,v6,v7,List.length,u3,u4,Nat.reduceSub,Nat.reduceAdd,List.map];subst hK;refine qy ?_;refine ab.ret ⟨rx,_,rfl,aJ (by simp) (by simp[ag]) ?_⟩
   rfl
 ·have:cE b=false:=by
   cases h:cE b with
   |false=>rfl
   |true=>have:=hf.1 h;omega
  rw[this];refine qy ?_;(repeat refine qq ?_);(generalize hK:aI _ _ _ _=K);refine ab.br ?_;(repeat(first|refine xT ?_|refine xL ?_|refine xo ?_|simp(disch:=omega) only[decide_eq_true,decide_eq_false,bE,b8,bD,b7]));refine aa.nil ?_;dsimp only[Fr.aj,Fr.put,Fr.clean,Fr.ev,Fr.get,nth,V.look,u1,u2,v1,v2,v3,v4,v5,v6,v7,List.length,u3,u4,Nat.reduceSub,Nat.reduceAdd,List.map];subst hK;refine qy ?_;refine ab.ret ⟨rx,_,rfl,aJ (by simp) (by simp[ag]) ?_⟩
  rfl
theorem vD {st ai:St} {s k v off len:Nat} {es:List (List D)} (h:V.Rows st s (.win k v off len s) es) (hb:ai.bs[k]?=st.bs[k]?):V.Rows ai s (.win k v off len s) es:=by
 cases h with
 |win k az off es ar c hm hl he=>exact .win k v off es ar c (by simp only[St.ei,hb] at hm⊢;exact hm) hl he
theorem yQ {N:Nat} {st:St} {s k v off len n:Nat} {es:List (List D)} (h:V.Rows st s (.win k v off len s) es) (hN:N≤k) (hp:∀e∈es,∀d∈e,cj d=true) (hn:2≤n):aY st N false (n+1) (.win k v off len s)=some (.sl (es.map (ki s))):=by
 obtain⟨n,rfl⟩:∃m,n=m+2:=⟨n-2,by omega⟩
 have uC:∀e∈es,e.length=s:=fun e he=>by
  obtain⟨i,hi⟩:=List.getElem?_of_mem he;exact h.rr i e hi
 have jn:=h.row
 cases h with
 |win k az off es ar c hm hl he=>
  simp only[oT,hm,Option.bind_some,if_pos hl,Option.some.injEq,Prod.mk.injEq,true_and] at jn;show(if k<N then some (D.win k v off es.length s) else et st N (n+2) (.win k v off es.length s))=_;rw[if_neg (show¬k<N by omega),et];simp only[if_neg (show¬k<N by omega),hm,Option.bind_some]
  rw[if_pos hl,jn,iC (fun d hd=>by
   obtain⟨e,oK,xC⟩:=List.mem_flatten.1 hd
   exact hp e oK d xC)]
  simp only[Option.map_some,fz uC]
theorem Cy {st:St} {x:D} {h:List UInt8} {c:UInt8} (hb:Bytes st x h) (h3:h.length≤3):Ev pv 76 [x,.int .u8 (c.toNat:Nat)] st (.tup [dG (cD h c).2,dJ (cD h c).1]) st:=by
 have hx:=hb.ref;refine Ev.iS rfl XP rfl rfl rfl ?_;dsimp only[u3,u4,List.length,Nat.reduceSub,Nat.reduceAdd,w1,w2];have hb1:=hb.enter .ro;have TQ:(ag .ro st).bs.length=st.bs.length:=rfl;refine qy ?_;(repeat refine qq ?_);(generalize hK:aI _ _ _ _=K);refine ab.br ?_;(repeat(refine xL ?_));refine aa.nil ?_;dsimp only[Fr.aj,Fr.put,Fr.clean,Fr.ev,Fr.get,nth,V.look,u1,u2,v1,v2,v3,v4,v5,v6,v7,List.length,u3,u4,Nat.reduceSub,Nat.reduceAdd,List.map];subst hK;refine qy ?_;(repeat refine qq ?_);(generalize hK:aI _ _ _ _=K);refine ab.br<|aa.T rfl rfl rfl (d:=.win st.bs.length 0 0 0 1) (st1:=(ag .ro st).push (.mem 0 true [])) rfl ?_;have hx1:Ex st.bs.length (ag .ro st) ((ag .ro st).push (.mem 0 true [])):=Ex.push (st:=ag .ro st) (Nat.le_refl _) _;have ZL:V.Acc st.bs.length ((ag .ro st).push (.mem 0 true [])) 1 (.win st.bs.length 0 0 0 1) []:=.win _ _ [] (Nat.le_refl _) (dq (ag .ro st) _) (by simp)
 (refine xT ?_)
 refine aa.append rfl rfl rfl rfl ZL (hb1.ex hx1 hx) rfl rfl rfl rfl rfl rfl rfl (by decide) hx1.len (Nat.le_refl _) (Nat.le_refl _) (by rw[aG];show(0+h.length)*1≤_;omega) fun y1 s1 Bw zY _ _ _=>?_;rw[List.nil_append] at Bw;have SB:=hx1.trans zY
 (refine xT ?_)
 refine aa.T rfl rfl rfl (d:=.win s1.bs.length 0 0 1 1) (st1:=s1.push (.mem 0 true [dN c])) rfl ?_;have SA:=SB.trans (Ex.push SB.len (.mem 0 true [dN c]));refine aa.append rfl rfl rfl rfl (Bw.push _) (Rows.one (c:=[dN c]) rfl) rfl rfl rfl rfl rfl rfl rfl (by decide) SA.len (by rw[SA.flr];exact Nat.le_refl _) (by rw[SA.ro];exact Nat.le_refl _) (by rw[aG];show(h.length+1)*1≤_;omega) fun y2 s2 nv Zf _ _ _=>?_;have Ze:=SA.trans Zf;have gL:byteCells h++[[dN c]]=byteCells (h++[c]):=by simp[byteCells,dN]
 rw[gL] at nv
 obtain⟨k0,v0,rfl,wO⟩:∃k0 v0,y2=.win k0 v0 0 (h++[c]).length 1∧st.bs.length≤k0:=by
  have hne:byteCells (h++[c])≠[]:=by simp[byteCells]
  have o4:=aG (h++[c]);generalize byteCells (h++[c])=es at*
  cases nv with
  |nul=>exact absurd rfl hne
  |win k az es hN hm he=>exact⟨k,az,by rw[o4],hN⟩
 (repeat(refine xL ?_));refine aa.nil ?_;dsimp only[Fr.aj,Fr.put,Fr.clean,Fr.ev,Fr.get,nth,V.look,u1,u2,v1,v2,v3,v4,v5,v6,v7,List.length,u3,u4,Nat.reduceSub,Nat.reduceAdd,List.map];subst hK;refine qy ?_;(repeat refine qq ?_);(generalize hK:aI _ _ _ _=K);refine ab.br ?_;(repeat(refine xL ?_));refine aa.nil ?_;dsimp only[Fr.aj,Fr.put,Fr.clean,Fr.ev,Fr.get,nth,V.look,u1,u2,v1,v2,v3,v4,v5,v6,v7,List.length,u3,u4,Nat.reduceSub,Nat.reduceAdd,List.map];subst hK;refine qy ?_;(repeat refine qq ?_);refine ab.block ?_;generalize Mk:aI _ _ _ _=K0
 have fin:∀(ai:St) (done:List (Nat×Nat)) (l:List UInt8) (ky vy oy:Nat) (out g:D) (m2:List (Nat×D)),Ex st.bs.length (ag .ro st) ai→Acc st.bs.length ai 2 out (done.map aQ)→Bytes ai (.win ky vy oy l.length 1) l→st.bs.length≤ky→done=(cD h c).1→l=(cD h c).2→
   K0 .next ⟨9,[x,.int .u8 (c.toNat:Nat),.tup [],.tup [],.nul,.nul,.win ky vy oy l.length 1,out,g],m2⟩ ai:=by
  intro ai done l ky vy oy out g m2 hx iI hl Te hd kG;subst Mk;refine qy ?_;(repeat refine qq ?_);(generalize hK:aI _ _ _ _=K);refine ab.br ?_;(repeat(first|refine xT ?_|refine xL ?_));refine aa.nil ?_;dsimp only[Fr.aj,Fr.put,Fr.clean,Fr.ev,Fr.get,nth,V.look,u1,u2,v1,v2,v3,v4,v5,v6,v7,List.length,u3,u4,Nat.reduceSub,Nat.reduceAdd,List.map];subst hK;refine qy ?_;refine ab.ret ⟨rx,_,rfl,aJ (by simp) (hx.take rfl) ?_⟩;have f1:=yQ (N:=st.bs.length) (n:=14) hl Te (ef l) (by decide);have f2:=iI.freeze (N:=st.bs.length) (n:=14) iJ (by decide);show(eN (aY ai st.bs.length false 15) [.win ky vy oy l.length 1,out]).map D.tup=_;rw[←hd,←kG];simp only[eN,f1,f2,Option.map_some]
  rfl
 refine ab.loop (fun m fr ai=>∃(f:Nat) (l:List UInt8) (done:List (Nat×Nat)) (ky vy oy:Nat) (out g:D),fr.clean=⟨9,[x,.int .u8 (c.toNat:Nat),.tup [],.tup [],.nul,.nul,.win ky vy oy l.length 1,out,g],[]⟩∧Ex st.bs.length (ag .ro st) ai∧Acc st.bs.length ai 2 out (done.map aQ)∧Bytes ai (.win ky vy oy l.length 1) l∧st.bs.length≤ky∧out.ref≠ky+1∧
  m=l.length∧l.length≤f∧done++(de f l).1=(cD h c).1∧(de f l).2=(cD h c).2∧done.length+l.length≤4) (h.length+1)
  ⟨h.length+1,h++[c],[],k0,v0,0,.nul,_,rfl,Ze,.nul,nv.rows,wO,by simp[D.ref],by simp,by simp,rfl,rfl,by simp;omega⟩ ?_
 clear nv Ze Zf SA Bw SB zY ZL hx1;rintro m fr ai ⟨f,l,done,ky,vy,oy,out,g0,hfr,hx,iI,hl,Te,hor,rfl,Zt,Bk,Dt,U4⟩;rw[hfr];have hN:st.bs.length≤ai.bs.length:=hx.len;have yM:ai.flr=st.bs.length:=by rw[hx.flr];rfl
 have uu:ai.ro=st.bs.length:=by rw[hx.ro];rfl
 have WK:=hl.ref;simp only[D.ref] at WK
 by_cases B4:l=[]
 ·subst B4;refine qy ?_;(repeat refine qq ?_);(generalize hK:aI _ _ _ _=K);refine ab.br ?_
  (refine xT ?_)
  refine aa.len rfl rfl rfl hl rfl ?_;(repeat(first|refine xT ?_|refine xo ?_));refine aa.nil ?_;dsimp only[Fr.aj,Fr.put,Fr.clean,Fr.ev,Fr.get,nth,V.look,u1,u2,v1,v2,v3,v4,v5,v6,v7,List.length,u3,u4,Nat.reduceSub,Nat.reduceAdd,List.map];subst hK;refine qy ?_;(repeat refine qq ?_);refine ab.cond (v:=false) rfl (fun h=>by cases h) fun _=>?_;refine qy ?_;refine ab.exit<|fin ai done [] ky vy oy out _ _ hx iI hl Te ?_ ?_
  ·have:(de f ([]:List UInt8)).1=[]:=by cases f<;>rfl
   rw[←Bk,this,List.append_nil]
  ·rw[←Dt];cases f<;>rfl
 have Zr:0<l.length:=by cases l with|nil=>exact absurd rfl B4|cons a b=>simp
 obtain⟨f,rfl⟩:∃f',f=f'+1:=⟨f-1,by omega⟩
 have wA:de (f+1) l=if cE l=true then([],l) else(cQ l::(de f (l.drop (cQ l).2)).1,(de f (l.drop (cQ l).2)).2):=by
  cases l with|nil=>exact absurd rfl B4|cons a b=>rfl
 cases QH:cE l with
 |true=>
  rw[wA,if_pos QH] at Bk Dt;have TK:=xq hl (by omega);rw[QH] at TK;refine qy ?_;(repeat refine qq ?_);(generalize hK:aI _ _ _ _=K);refine ab.br ?_
  (refine xT ?_)
  refine aa.len rfl rfl rfl hl rfl ?_;rw[aG]
  (refine xT ?_)
  simp(disch:=omega) only[decide_eq_true,decide_eq_false,bE,b8,bD,b7]
  (refine xT ?_)
  (refine xT ?_)
  refine aa.iL rfl rfl rfl TK ?_;(repeat(refine xT ?_));refine aa.nil ?_;dsimp only[Fr.aj,Fr.put,Fr.clean,Fr.ev,Fr.get,nth,V.look,u1,u2,v1,v2,v3,v4,v5,v6,v7,List.length,u3,u4,Nat.reduceSub,Nat.reduceAdd,List.map];subst hK;refine qy ?_;(repeat refine qq ?_);refine ab.cond (v:=false) rfl (fun h=>by cases h) fun _=>?_;refine qy ?_;refine ab.exit ?_;exact fin ai done l ky vy oy out _ _ hx iI hl Te (by rw[←Bk,List.append_nil]) (by rw[←Dt])
 |false=>
  rw[wA,if_neg (by rw[QH];simp)] at Bk Dt;have TK:=xq hl (by omega);rw[QH] at TK;have hof:=AR hl (by omega);have fg:=mC B4;have hgp:=fS l;generalize hg:cQ l=g at*;refine qy ?_;(repeat refine qq ?_);(generalize hK:aI _ _ _ _=K);refine ab.br ?_
  (refine xT ?_)
  refine aa.len rfl rfl rfl hl rfl ?_;rw[aG]
  (refine xT ?_)
  simp(disch:=omega) only[decide_eq_true,decide_eq_false,bE,b8,bD,b7]
  (refine xT ?_)
  (refine xT ?_)
  refine aa.iL rfl rfl rfl TK ?_;(repeat(refine xT ?_));refine aa.nil ?_;dsimp only[Fr.aj,Fr.put,Fr.clean,Fr.ev,Fr.get,nth,V.look,u1,u2,v1,v2,v3,v4,v5,v6,v7,List.length,u3,u4,Nat.reduceSub,Nat.reduceAdd,List.map];subst hK;refine qy ?_;(repeat refine qq ?_);refine ab.cond (v:=true) rfl (fun _=>?_) (fun h=>by cases h);refine qy ?_;refine ab.skip ?_;refine qy ?_;(repeat refine qq ?_);refine ab.block ?_;refine qy ?_;(repeat refine qq ?_);(generalize hK:aI _ _ _ _=K);refine ab.br ?_
  (refine xT ?_)
  refine aa.iL rfl rfl rfl hof<|aa.L rfl rfl rfl (d:=.ptr ai.bs.length 0 0) (st1:=ai.push (.mem 0 false (aQ (0,0)))) rfl<|aa.store (k:=ai.bs.length) (az:=0) (off:=0) (cs:=aQ g) rfl rfl rfl rfl rfl (dq ai _) (by simp[aQ]) (nf (N:=st.bs.length) hN (by rw[←yM];exact Nat.le_refl _) (by rw[←uu];exact Nat.le_refl _))<|aa.nil ?_;dsimp only[Fr.aj,Fr.put,Fr.clean,Fr.ev,Fr.get,nth,V.look,u1,u2,v1,v2,v3,v4,v5,v6,v7,List.length,u3,u4,Nat.reduceSub,Nat.reduceAdd,List.map];subst hK;refine qy ?_;rw[show(⟨(ai.push (.mem 0 false (aQ (0,0)))).bs.set ai.bs.length (.mem 0 false ((aQ (0,0)).take 0++aQ g++(aQ (0,0)).drop (0+(aQ g).length))),(ai.push (.mem 0 false (aQ (0,0)))).flr,(ai.push (.mem 0 false (aQ (0,0)))).ro⟩:St)=ai.push (.mem 0 false (aQ g)) from jC rfl];have wQ:=hx.trans (Ex.push hN (.mem 0 false (aQ g)));have iF:∀b:gW,(ai.push b).bs[ky]?=ai.bs[ky]?:=fun b=>by simp only[St.push];rw[List.getElem?_append_left (by omega)]
  have rS:Bytes (ai.push (.mem 0 false (aQ g))) (.win ky vy oy l.length 1) l:=vD hl (iF _);generalize QQ:ai.push (.mem 0 false (aQ g))=S1 at wQ rS;have cW:S1.bs[ai.bs.length]?=some (.mem 0 false (aQ g)):=by subst QQ;exact dq ai _
  have TN:V.Acc st.bs.length S1 2 out (done.map aQ):=by subst QQ;exact iI.push _
  have kG:ai.bs.length<S1.bs.length:=by subst QQ;simp[St.push]
  have aaH:=iI.ref;refine qy ?_;(repeat refine qq ?_);(generalize hK:aI _ _ _ _=K);refine ab.br ?_
  (refine xT ?_)
  refine aa.load (k:=ai.bs.length) (az:=0) (off:=0) (ar:=false) (c:=aQ g) (d:=.agg (aQ g)) rfl rfl rfl cW rfl<|aa.T rfl rfl rfl (d:=.win S1.bs.length 0 0 1 2) (st1:=S1.push (.mem 0 true (aQ g))) rfl ?_;have hY:=wQ.trans (Ex.push wQ.len (.mem 0 true (aQ g)));refine aa.append rfl rfl rfl rfl (TN.push _) (Rows.one rfl) rfl rfl rfl rfl rfl rfl rfl (by decide) hY.len (by rw[hY.flr];exact Nat.le_refl _) (by rw[hY.ro];exact Nat.le_refl _) (by simp only[List.length_map,List.length_cons,List.length_nil];show(done.length+1)*16≤_;omega) fun yh st2 rf QA _ mO DA=>?_;(repeat(refine xL ?_));refine aa.nil ?_;dsimp only[Fr.aj,Fr.put,Fr.clean,Fr.ev,Fr.get,nth,V.look,u1,u2,v1,v2,v3,v4,v5,v6,v7,List.length,u3,u4,Nat.reduceSub,Nat.reduceAdd,List.map];subst hK;refine qy ?_;have W5:=hY.trans QA
  have WJ:Bytes st2 (.win ky vy oy l.length 1) l:=by
   refine vD rS ?_;rw[mO ky (by simp[St.push];omega) (fun e=>hor e.symm)];simp only[St.push];rw[List.getElem?_append_left (by omega)]
  have bj:st2.bs[ai.bs.length]?=some (.mem 0 false (aQ g)):=by
   rw[mO ai.bs.length (by simp[St.push];omega) (by show ai.bs.length+1≠out.ref;omega)];simp only[St.push];rw[List.getElem?_append_left kG];exact cW
  (refine qy ?_);(repeat refine qq ?_);(generalize hK:aI _ _ _ _=K);refine ab.br ?_
  (refine xT ?_)
  (refine xT ?_)
  refine aa.load (k:=ai.bs.length) (az:=0) (off:=1) (ar:=false) (c:=aQ g) (d:=.int .i64 (g.2:Nat)) rfl rfl rfl bj rfl<|aa.T rfl rfl rfl (d:=.win ky vy (oy+g.2*1) (l.length-g.2) 1) (st1:=st2) ?_ ?_
  ·show Option.map _ ((bK l.length (some (.int .i64 (g.2:Nat))) none).map _)=_;simp only[bK,dZ,f_,Option.bind_some];rw[if_pos ⟨by omega,by omega⟩];rfl
  (repeat(refine xL ?_));refine aa.nil ?_;dsimp only[Fr.aj,Fr.put,Fr.clean,Fr.ev,Fr.get,nth,V.look,u1,u2,v1,v2,v3,v4,v5,v6,v7,List.length,u3,u4,Nat.reduceSub,Nat.reduceAdd,List.map];subst hK
  have ET:Bytes st2 (.win ky vy (oy+g.2*1) (l.length-g.2) 1) (l.drop g.2):=by
   obtain⟨y,q1,q2,_⟩:=Rows.slice (P:=pv) WJ (t:=36) (e:=5) rfl rfl (lo:=some (.int .i64 (g.2:Nat))) (hi:=none) (l:=g.2) (r:=l.length) (by
    rw[aG];simp only[bK,dZ,f_,Option.bind_some]
    rw[if_pos ⟨by omega,by omega⟩];rfl) ⟨by omega,by rw[aG];omega⟩
   have:fQ pv 36 (.win ky vy oy l.length 1) (some (.int .i64 (g.2:Nat))) none st2=some (.win ky vy (oy+g.2*1) (l.length-g.2) 1):=by
    show(bK l.length (some (.int .i64 (g.2:Nat))) none).map _=_;simp only[bK,dZ,f_,Option.bind_some];rw[if_pos ⟨by omega,by omega⟩];rfl
   rw[this] at q1;cases q1
   have e:((byteCells l).take l.length).drop g.2=byteCells (l.drop g.2):=by
    rw[←aG,List.take_length];simp[byteCells]
   unfold Bytes;rw[←e];exact q2
  have TC:l.length-g.2=(l.drop g.2).length:=by rw[List.length_drop]
  rw[TC] at ET⊢;refine⟨(l.drop g.2).length,by omega,f,l.drop g.2,done++[g],ky,vy,oy+g.2*1,yh,_,rfl,W5,?_,ET,Te,?_,rfl,by omega,?_,Dt,?_⟩
  ·rw[List.map_append];exact rf
  ·rcases DA with h'|h'
   ·rw[h'];exact hor
   ·have:S1.bs.length<(S1.push (.mem 0 true (aQ g))).bs.length:=by simp[St.push]
    omega
  ·rw[←Bk,List.append_assoc,List.singleton_append]
  ·rw[List.length_append,←TC];simp only[List.length_cons,List.length_nil];omega
theorem Es {l:List UInt8} (h:cE l=true):l.length≤3:=by
 obtain⟨h1,h2,h3⟩:=(mc l).1.1 h
 cases l with
 |nil=>simp
 |cons c xs=>
  have:=qH c.toNat;simp only[cC] at h2 h3
  split at h2
  ·simp at h2
  ·split at h2
   ·split at h2
    ·rw[←h3];rename_i a1 a2 a3;rw[if_neg a1,if_pos a2,if_pos a3];simp only;omega
    ·simp at h2
   ·simp at h2
theorem zw:∀(f:Nat) (l:List UInt8),l.length≤f→(de f l).2.length≤3
 |0,l,h=>by
  simp[de];have:l=[]:=List.length_eq_zero_iff.1 (by omega);subst this;simp
 |f+1,[],_=>by simp[de]
 |f+1,c::l,h=>by
  simp only[de]
  split
  ·rename_i hb;exact Es hb
  ·have hp:=fS (c::l);exact zw f _ (by rw[List.length_drop];simp only[List.length_cons] at h⊢;omega)
theorem Cc:∀(f:Nat) (l:List UInt8),(de f l).1.length≤f
 |0,l=>by simp[de]
 |f+1,[]=>by simp[de]
 |f+1,c::l=>by
  simp only[de]
  split
  ·simp
  ·simp only[List.length_cons];have:=Cc f ((c::l).drop (cQ (c::l)).2);omega
theorem Dk:∀(f:Nat) (l j:List UInt8),(l++j).length=4→l.length≤f→((de f l).2++jF f l j).length=4
 |0,l,j,h,hf=>by
  have:l=[]:=by cases l with|nil=>rfl|cons _ _=>simp at hf
  subst this;exact h
 |f+1,[],j,h,_=>by simpa[de,jF] using h
 |f+1,c::l,j,h,hf=>by
  simp only[de,jF]
  split
  ·exact h
  ·have hp:=fS (c::l);have hle:=mC (b:=c::l) (by simp);rw[List.length_append] at h;refine Dk f _ _ ?_ ?_
   ·rw[List.length_append,List.length_drop,List.length_drop,List.length_append];omega
   ·rw[List.length_drop];simp only[List.length_cons] at hf⊢;omega
theorem pF:∀(f:Nat) (l:List UInt8),l.length≤f→(de f l).2=[]∨cE (de f l).2=true
 |0,l,h=>by
  have:l=[]:=by cases l with|nil=>rfl|cons _ _=>simp at h
  subst this;exact .inl rfl
 |f+1,[],_=>.inl rfl
 |f+1,c::l,h=>by
  simp only[de]
  split
  ·rename_i hb;exact .inr hb
  ·have hp:=fS (c::l);exact pF f _ (by rw[List.length_drop];simp only[List.length_cons] at h⊢;omega)
def SH (A:List bt) (N:Nat) (S st:St) (kS kd kv ks:Nat) (p:Pg) (pl:Nat) (ld:D) (L:List VL) (h:List UInt8) (H:List bt):Prop:=
 ∃pd qd P Q sn js,Has N S st (A++(.box kS (.mem 0 false [.ptr kd 0 0,.ptr kv 0 0])::.box kd (.mem 0 false (ck h js))::(eU ks kv p pl ld pd qd P Q L++H)))∧cV P Q sn∧sn.length=p.code.length∧(h++js).length=4
def lX (code:List aO) (ss:List Nat) (x:List UInt8×Nat×List PL) (c:UInt8):List UInt8×Nat×List PL:=
 ((cD x.1 c).2,dY code ss (cD x.1 c).1 x.2.1 x.2.2)
def dz (code:List aO) (ss:List Nat) (b:List UInt8) (x:List UInt8×Nat×List PL):List UInt8×Nat×List PL:=b.foldl (lX code ss) x
theorem zb {h:List UInt8} {c:UInt8}:(cD h c).2.length≤3:=zw _ _ (by simp)
theorem mg {h:List UInt8} {c:UInt8}:(cD h c).1.length≤h.length+1:=by
 unfold cD;exact Cc _ _
theorem E3 {N:Nat} {S s0:St} {H:List bt} (hH:Has N S s0 H):∃kd ai,Ev pv 72 [] s0 (.ptr kd 0 0) ai∧Has N S ai (.box kd (.mem 0 false (ck [] [0,0,0,0]))::H):=
 ⟨_,_,yl s0,hH.po _⟩
theorem Ec {N:Nat} {S s0:St} {H:List bt} {i kd:Nat} {h js:List UInt8} {c:UInt8} (hH:Has N S s0 H) (hi:H[i]?=some (.box kd (.mem 0 false (ck h js)))) (hl:(h++js).length=4) (h3:h.length≤3):
  ∃ai Za,Ev pv 75 [.ptr kd 0 0,.int .u8 (c.toNat:Nat)] s0 (dJ (cD h c).1) ai∧((cD h c).2++Za).length=4∧Has N S ai (H.set i (.box kd (.mem 0 false (ck (cD h c).2 Za)))):=by
 obtain⟨j0,js,rfl⟩:∃a b,js=a::b:=by
  cases js with
  |nil=>simp at hl;omega
  |cons a b=>exact⟨a,b,rfl⟩
 have hge:=hH.ge hi;refine⟨_,_,LI (hH.at hi) hl (by rw[hH.ex.ro];exact Nat.le_trans hH.dX hge.1),?_,hH.tG (az:=0) hi⟩;unfold cD;exact Dk _ _ _ (by simp at hl⊢;omega) (by simp)
theorem Fe (dE:∀st,Ev pv 59 [] st (.agg (aF b4)) st) {N:Nat} {S s0:St} {H:List bt} {p:Pg} (hF:S.flr≤N) (hp:p.ok) (hR:bz p) (hH:Has N S s0 H):
  ∃r ai,Ev pv 28 [p.d] s0 r ai∧∃kS kd kv ks q ld L,r=.tup [.ptr kS 0 0,.int .i64 0]∧rP p q∧L.map VL.pl=(au p).map fI∧SH [] N S ai kS kd kv ks q 0 ld L [] H:=by
 have U0:∀{st H},Has N S st H→∃r ai,Ev pv 11 [p.d] st r ai∧∃kv ks q ld L,r=.tup [.ptr kv 0 0,.int .i64 0]∧rP p q∧L.map VL.pl=(au p).map fI∧MH [] N S ai ks kv q 0 ld L H:=fun{st H} h=>E2 dE hF hp hR h;unfold Pg.d at*;refine Ev.il rfl Ye rfl rfl rfl ?_;dsimp only[u3,u4,List.length,Nat.reduceSub,Nat.reduceAdd,w1,w2];change ab _ _ _ _ s0 _;refine qq<|qj fun K hK=>qb hH fun k1 st o5 hH=>?_;dsimp only[u2,u1,u3,u4,setMany,u5,u6,D.cells,Nat.reduceAdd,Pg.cs] at hH;refine qm ?_;refine qm ?_;refine qe hK<|qq<|qj fun K hK=>?_;refine aa.aT (m:=2) hH rfl (ev rfl) (by exact aB) (by dsimp only[List.drop_succ_cons,List.drop_zero,List.take_succ_cons,List.take_zero,Pg.cs]<;>rfl) rfl rfl (ah rfl _) ?_;obtain⟨_,st,aK,kv,ks,q,ld,L,rfl,hq,hL,hM⟩:=U0 hH;refine qv aK ?_;refine qm ?_;refine qg ?_;refine qg ?_;refine qm ?_;refine qm ?_;refine qe hK<|qq<|qq<|qj fun K hK=>qm ?_;refine qg ?_;refine qe hK<|ab.cond (v:=false) (by dsimp only[Fr.ev,Fr.get,nth,V.look];rfl) (fun h=>by cases h) (fun _=>?_);refine ab.skip ?_;obtain⟨pd,qd,P,Q,sn,hH,bc,ec⟩:=sP hM;dsimp only[u4] at hH;refine qq<|qj fun K hK=>?_;obtain⟨kd,st,aK,hH⟩:=E3 hH;refine qv aK ?_;refine qm ?_;refine aa.gd (qs:=[(0,_),(1,_)]) rfl rfl rfl rfl ⟨rfl,(ev rfl),(by rfl),rfl,(ev rfl),(by rfl),trivial⟩ (by intro q hq;simp only[List.mem_cons,List.not_mem_nil,or_false] at hq;rcases hq with rfl|rfl<;>exact⟨rfl,by exact Nat.le_of_ble_eq_true rfl⟩) (by show List.foldl _ [_,_] _=_;dsimp only[List.foldl_cons,List.foldl_nil,u2,u1]<;>rfl) (ah rfl _) ?_;refine qb hH fun k17 st Tm hH=>?_;refine qm ?_;refine qm ?_;refine qe hK<|ab.ret ⟨rx,_,_,_,rfl,rfl,?_⟩;refine⟨k17,kd,kv,ks,q,ld,L,rfl,hq,hL,pd,qd,P,Q,sn,[0,0,0,0],?_,bc,ec,rfl⟩;have hH:=Has.kE (_::_::eU ks kv q 0 ld pd qd P Q L) [_] (H:=H) hH;exact hH.drop 1
theorem vz (dE:∀st,Ev pv 59 [] st (.agg (aF b4)) st) {N kS kd kv ks:Nat} {S s0:St} {H:List bt} {p:Pg} {pl:Nat} {ld:D} {L:List VL} {h:List UInt8} {c:UInt8} (hF:S.flr≤N) (hp:p.ok) (hR:bz p) (iq:pl≤900000000000) (h3:h.length≤3) (sa:L.length=p.aw.length) (wW:∀l∈L,l.pl.ok p.code.length) (hM:SH [] N S s0 kS kd kv ks p pl ld L h H):
  ∃d ai,Ev pv 31 [.ptr kS 0 0,.int .u8 (c.toNat:Nat)] s0 d ai∧d=.tup []∧∃yz L',L'.map VL.pl=(dY p.code (au p) (cD h c).1 pl (L.map VL.pl)).2∧SH [] N S ai kS kd kv ks p (dY p.code (au p) (cD h c).1 pl (L.map VL.pl)).1 yz L' (cD h c).2 H:=by
 obtain⟨pd,qd,P,Q,sn,js,hH,bc,ec,hl⟩:=hM;have nu:=mg (h:=h) (c:=c);dsimp only[u4] at hH;have Qr:=(hH.ge bF).2;have WL:=hH.oG (j:=2) (k:=kv) rfl rfl;refine Ev.il rfl Yc rfl rfl rfl ?_;dsimp only[u3,u4,List.length,Nat.reduceSub,Nat.reduceAdd,w1,w2];change ab _ _ _ _ s0 _;have px:=hH;change ab _ _ _ _ _ _;generalize hK:aI _ _ _ _=K;refine ab.oU rfl<|bL.cons<|qm<|aa.nil ⟨rfl,?_⟩;refine bL.cons<|qg<|aa.nil ⟨rfl,?_⟩;refine bL.cons<|qp (o:=1)<|aa.nil ⟨rfl,?_⟩;refine bL.cons<|ql hH aB<|aa.nil ⟨rfl,?_⟩;refine bL.cons<|qm<|aa.nil ⟨rfl,?_⟩;refine bL.cons<|qg<|aa.nil ⟨rfl,?_⟩;refine bL.cons<|qp (o:=0)<|aa.nil ⟨rfl,?_⟩;refine bL.cons<|ql hH aB<|aa.nil ⟨rfl,?_⟩;refine bL.cons<|qm<|aa.nil ⟨rfl,?_⟩;refine bL.cons ?_;obtain⟨st,js,aK,hl,hH⟩:=Ec (c:=c) hH bF hl h3;dsimp only[u1,u2] at hH;refine qv aK<|aa.nil ⟨by exact Bool.and_eq_true_iff.2 ⟨fJ rfl rfl rfl (px.at aB) (hH.at aB) (px.at aB) (by simp only[refs,D.ref];omega),rfl⟩,?_⟩;refine bL.cons ?_;obtain⟨_,st,aK,rfl,yz,L',hL',hM⟩:=vg (gs:=(cD h c).1) dE hF hp hR (by omega) (by omega) sa wW (MH.push [_,_] [] (H:=H) (zQ hH bc ec));refine qv aK<|aa.nil ⟨rfl,?_⟩;refine bL.nil ?_;subst hK;refine⟨fun i h=>(by cases h),_,_,_,rfl,rfl,?_⟩;obtain⟨pd,qd,P,Q,sn,hH,bc,ec⟩:=sP (MH.pull [_,_] [] (H:=H) hM);exact⟨rfl,yz,L',hL',pd,qd,P,Q,sn,js,hH,bc,ec,hl⟩
def nU (fr:Go.V.Fr) (k:Nat):Go.V.D:=Go.V.nth .bp fr.loc k
theorem tv {b:List UInt8} {i:Nat} {c:UInt8} (h:b[i]?=some c):(byteCells b)[i]?=some [.int .u8 (c.toNat:Nat)]:=by unfold byteCells;rw[List.getElem?_map,h];rfl
theorem iv (b:List UInt8):eE (dG b) 1 (byteCells b):=eE.frozen (gE b) (ef b)
theorem pK (code:List aO) (ss:List Nat) (b:List UInt8) (c:UInt8) (x:List UInt8×Nat×List PL):dz code ss (b++[c]) x=lX code ss (dz code ss b x) c:=by unfold dz;rw[List.foldl_append];rfl
theorem xP (code:List aO) (ss:List Nat) (b:List UInt8) (x:List UInt8×Nat×List PL):dz (code.map dK) ss b x=dz code ss b x:=by
 have:lX (code.map dK) ss=lX code ss:=by funext x c;unfold lX;rw[nI]
 unfold dz;rw[this]
theorem pL {p:Pg} (hR:bz p):∀(b:List UInt8) (x:List UInt8×Nat×List PL),x.1.length≤3→x.2.2.length=p.aw.length→(∀l∈x.2.2,l.ok p.code.length)→(dz p.code (au p) b x).1.length≤3∧(dz p.code (au p) b x).2.1≤x.2.1+16*b.length∧(dz p.code (au p) b x).2.2.length=p.aw.length∧∀l∈(dz p.code (au p) b x).2.2,l.ok p.code.length
 |[],x,h1,h2,h3=>⟨h1,Nat.le_refl _,h2,h3⟩
 |c::b,x,h1,h2,h3=>by
  obtain⟨g1,g2⟩:=pj hR (cD x.1 c).1 x.2.1 x.2.2 h2 h3;have g3:=tJ p.code (au p) (cD x.1 c).1 x.2.1 x.2.2;have g4:=mg (h:=x.1) (c:=c);obtain⟨q1,q2,q3,q4⟩:=pL hR b (lX p.code (au p) x c) zb g1 g2;have q2:(dz p.code (au p) (c::b) x).2.1≤(dY p.code (au p) (cD x.1 c).1 x.2.1 x.2.2).1+16*b.length:=q2;exact⟨q1,by simp only[List.length_cons];omega,q3,q4⟩
theorem Cp (dE:∀st,Ev pv 59 [] st (.agg (aF b4)) st) {N kS kd kv ks:Nat} {S s0:St} {H:List bt} {p:Pg} {pl:Nat} {ld:D} {L:List VL} {h:List UInt8} {x:D} {b:List UInt8} (hF:S.flr≤N) (hp:p.ok) (hR:bz p) (hx:Arg N S 1 x (byteCells b)) (hbl:b.length≤1048576) (iq:pl+16*b.length≤900000000000) (h3:h.length≤3) (sa:L.length=p.aw.length) (wW:∀l∈L,l.pl.ok p.code.length) (hM:SH [] N S s0 kS kd kv ks p pl ld L h H):
  ∃d ai,Ev pv 38 [.ptr kS 0 0,x] s0 d ai∧d=.tup []∧∃yz L',L'.map VL.pl=(dz p.code (au p) b (h,pl,L.map VL.pl)).2.2∧SH [] N S ai kS kd kv ks p (dz p.code (au p) b (h,pl,L.map VL.pl)).2.1 yz L' (dz p.code (au p) b (h,pl,L.map VL.pl)).1 H:=by
 obtain⟨pd,qd,P,Q,sn,js,hH,bc,ec,hl⟩:=hM;dsimp only[u4] at hH;have QJ:=aG b;have Lj:∀l∈L.map VL.pl,l.ok p.code.length:=fun l hl=>by obtain⟨y,hy,rfl⟩:=List.mem_map.1 hl;exact wW y hy
 have Bo:(L.map VL.pl).length=p.aw.length:=by rw[List.length_map];exact sa
 have K7:=fun(i:Nat)=>pL hR (b.take i) (h,pl,L.map VL.pl) h3 Bo Lj;have V3:dz p.code (au p) (b.take 0) (h,pl,L.map VL.pl)=(h,pl,L.map VL.pl):=rfl;refine Ev.il rfl X7 rfl rfl rfl ?_;dsimp only[u3,u4,List.length,Nat.reduceSub,Nat.reduceAdd,w1,w2];change ab _ _ _ _ s0 _;refine qq<|qj fun K hK=>qm ?_;refine qn ?_;refine qm ?_;refine qe hK ?_;rw[QJ];refine ab.block<|ab.loop (fun mm fr st=>∃(i:Nat) (lS:Nat) (h':List UInt8) (ld pd qd:D) (L':List VL) (P Q:List Nat) (sn:List Bool) (js:List UInt8),fr.clean=⟨9,[.ptr kS 0 0,nU fr 1,nU fr 2,nU fr 3,nU fr 4,nU fr 5,x,.int .i64 (b.length:Nat),.int .i64 (i:Nat)],[]⟩∧Has N S st (.box kS (.mem 0 false [.ptr kd 0 0,.ptr kv 0 0])::.box kd (.mem 0 false (ck h' js))::(eU ks kv p lS ld pd qd P Q L'++H))∧(i+mm=b.length)∧(cV P Q sn)∧(sn.length=p.code.length)∧((h'++js).length=4)∧(dz p.code (au p) (b.take i) (h,pl,L.map VL.pl)=(h',lS,L'.map VL.pl))) (b.length) ?_ ?_
 ·exact⟨0,pl,h,ld,pd,qd,L,P,Q,sn,js,rfl,hH,by omega,bc,ec,hl,V3⟩
 rintro mm fr st ⟨i,lS,h',ld,pd,qd,L',P,Q,sn,js,hfr,hH,hi,bc,ec,hl,hX⟩;rw[hfr];clear hfr;generalize nU fr=ee;clear fr;obtain⟨g1,g2,g3,g4⟩:=K7 i;rw[hX] at g1 g2 g3 g4;simp only at g1 g2 g3 g4;have Xy:L'.length=p.aw.length:=by rw[←g3,List.length_map]
 refine qq<|qj fun K hK=>qg ?_;refine qe hK<|qq ?_;refine ab.cond (by rfl) (fun hlt=>?_) (fun hlt=>?_)<;>try simp only[decide_eq_true_eq,decide_eq_false_iff_not] at hlt
 ·refine ab.skip ?_;have hil:i<b.length:=by omega
  obtain⟨c,gL⟩:∃c,b[i]?=some c:=⟨b[i]'hil,List.getElem?_eq_getElem _⟩
  have gJ:=tv gL;have Ds:b.take (i+1)=b.take i++[c]:=by rw[List.take_add_one,gL];rfl
  have hti:(b.take i).length=i:=by rw[List.length_take];omega
  refine qq<|ab.block<|qq<|qj fun K hK=>qr fun Sc DH=>?_;refine qR ?_;refine qm ?_;refine qe hK<|qj fun K hK=>qm ?_;refine qm ?_;obtain⟨_,st,aK,rfl,yz,L1,Lu,hM⟩:=vz (c:=c) dE hF hp hR (by omega) g1 Xy (gp g4) ⟨pd,qd,P,Q,sn,js,hH,bc,ec,hl⟩;obtain⟨pd,qd,P,Q,sn,js,hH,bc,ec,hl⟩:=hM;dsimp only[u4] at hH;refine qv aK ?_;refine qe hK<|qj fun K hK=>qA ?_;refine qm ?_;refine qe hK ?_;exact⟨mm-1,by omega,⟨i+1,_,_,yz,pd,qd,L1,P,Q,sn,js,rfl,hH,by omega,bc,ec,hl,(by rw[Ds,pK,hX,Lu];rfl)⟩⟩
 ·refine ab.exit ?_;refine⟨fun i h=>(by cases h),_,_,_,rfl,rfl,?_⟩;have Ds:b.take i=b:=List.take_of_length_le (by omega);rw[Ds] at hX;rw[hX];exact⟨rfl,ld,L',rfl,pd,qd,P,Q,sn,js,hH,bc,ec,hl⟩
def xR (x:D) (pl:Nat) (L:List PL):D:=.agg [x,.int .i64 (pl:Nat),dB L]
structure AS (st:St) (kS kd kv ks:Nat) (p:Pg) (pl:Nat) (ld:D) (L:List VL) (h js:List UInt8):Prop where
 s:st.bs[kS]?=some (.mem 0 false [.ptr kd 0 0,.ptr kv 0 0])
 sl:kS<st.bs.length
 d:st.bs[kd]?=some (.mem 0 false (ck h js))
 dl:kd<st.bs.length
 hl:(h++js).length=4
 m:AM st.bs.length st kv ks p pl ld L
 ro:st.ro≤st.bs.length
theorem SH.as {N kS kd kv ks:Nat} {S s0:St} {H:List bt} {p:Pg} {pl:Nat} {ld:D} {L:List VL} {h:List UInt8} (hM:SH [] N S s0 kS kd kv ks p pl ld L h H):∃js,AS s0 kS kd kv ks p pl ld L h js:=by
 obtain⟨pd,qd,P,Q,sn,js,hH,bc,ec,hl⟩:=hM;dsimp only[u4] at hH;have hM:MH [] N S s0 ks kv p pl ld L ([_,_]++H):=MH.push [_,_] [] (H:=H) (zQ hH bc ec);exact⟨js,hH.at aB,(hH.ge aB).2,hH.at bF,(hH.ge bF).2,hl,hM.am,hM.ro⟩
theorem AM.bs {N:Nat} {S S2:St} {kv ks:Nat} {p:Pg} {pl:Nat} {ld:D} {L:List VL} (h:AM N S kv ks p pl ld L) (hS:S2.bs=S.bs):AM N S2 kv ks p pl ld L:=
 ⟨h.lt,by rw[hS];exact h.le,by rw[hS];exact h.at_,⟨h.ld.1.bs hS,h.ld.2⟩,fun l hl=>⟨(h.td l hl).1.bs hS,(h.td l hl).2⟩,h.ksl⟩
theorem AM.lift {N:Nat} {S st:St} {H:List bt} {kv ks:Nat} {p:Pg} {pl:Nat} {ld:D} {L:List VL} (h:AM N S kv ks p pl ld L) (hH:Has N S st H):AM st.bs.length st kv ks p pl ld L:=by
 have h1:=h.le;have h2:=hH.ex.len;have h3:=h.lt;have h4:=h.ksl;exact⟨by omega,Nat.le_refl _,h.box hH,⟨h.ld.rows hH,by have:=h.ld.2;omega⟩,fun l hl=>⟨(h.td l hl).rows hH,by have:=(h.td l hl).2;omega⟩,by omega⟩
theorem ud {N:Nat} {S st:St} {H:List bt} {k:Nat} {cs:List D} (hH:Has N S st H) (hk:k<N) (h:S.bs[k]?=some (.mem 0 false cs)) (o:Nat):jt st (.ptr k 0 o) (cs.drop o):=
 .inl ⟨k,0,o,false,_,rfl,St.mem_of (by rw[hH.ex.low k hk];exact h),List.take_length ..⟩
theorem back_eq {S st s0:St} {H:List bt} (hH:Has s0.bs.length S st H) (bT:S.bs=s0.bs):(⟨st.bs.take s0.bs.length,s0.flr,s0.ro⟩:St)=s0:=by
 have Xk:st.bs.take s0.bs.length=s0.bs:=by
  refine List.ext_getElem? fun j=>?_;rw[List.getElem?_take]
  by_cases hj:j<s0.bs.length
  ·rw[if_pos hj,hH.ex.low j hj,bT]
  ·rw[if_neg hj,List.getElem?_eq_none (by omega)]
 rw[Xk]
theorem BF {N:Nat} {S st:St} {H:List bt} {j:Nat} {d:D} {E:List PL} (hH:Has N S st H) (hj:H[j]?=some (.aP d 12 (E.map jP))) (he:∀l∈E,l.cT=[]):aY st N false 16 d=some (dB E):=by
 have hown:=hH.own hj;have jq:j<H.length:=bH hj
 have h2:Has N S st (H.set j (.deep (fun _=>False) d 12 (E.map gH))):=hH.BV hj (fun _ _ _=>rfl) (Nat.le_refl _) rfl rfl ⟨⟨E.map jP,hown,by
   clear hj hown jq
   induction E with
   |nil=>exact .nil
   |cons l E ih=>
    rw[List.map_cons,List.map_cons];refine .cons ?_ (ih fun x hx=>he x (List.mem_cons_of_mem _ hx));unfold gH;rw[he l (List.mem_cons_self ..)]
    exact uO (.aP .nul 11 [] .nul (fun e h=>by cases h) (fun k h=>by simp only[D.ref] at h;omega))⟩,fun _ _=>id⟩ (fun k hk=>.inl (by
   rcases hk with hk|hk
   ·exact hk
   ·exact hk.elim)) (fun k hk=>by
   rcases hk with hk|hk
   ·exact((hH.ok j _ hj).2 k hk).2
   ·exact hk.elim)
 exact h2.jO (n:=15) (List.getElem?_set_self jq) (by decide)
theorem CK {L:List VL} {n:Nat} (h:∀l∈L,l.pl.ok n):∀l∈L,l.cT.length≤1000:=fun l hl=>(h l hl).2
theorem vx {kS kd kv ks:Nat} {s0:St} {p:Pg} {pl:Nat} {ld:D} {L:List VL} {h js:List UInt8} (hp:p.ok) (sa:L.length≤1000) (bc:∀l∈L,l.cT.length≤1000) (hA:AS s0 kS kd kv ks p pl ld L h js):
  ∃d ai,Ev pv 34 [.ptr kS 0 0] s0 d ai∧d=xR (dG h) pl (L.map VL.pl)∧ai=s0:=by
 have dX:=hA.ro;refine Ev.il rfl X' rfl rfl rfl ?_;dsimp only[u3,u4,List.length,Nat.reduceSub,Nat.reduceAdd,w1,w2];have bT:(ag .rw s0).bs=s0.bs:=rfl;have hF:(ag .rw s0).flr≤s0.bs.length:=Nat.le_refl _;have hH:Has s0.bs.length (ag .rw s0) (ag .rw s0) []:=Has.start (Nat.le_refl _) dX;generalize ag .rw s0=S2 at*;have hm:=hA.m.bs bT;have ct:S2.bs[kS]?=some (.mem 0 false [.ptr kd 0 0,.ptr kv 0 0]):=by rw[bT];exact hA.s
 have XA:S2.bs[kd]?=some (.mem 0 false (ck h js)):=by rw[bT];exact hA.d
 refine qq<|qj fun K hK=>qa hH fun k2 st hk2 hH=>qe hK ?_;have Rr:=ud hH hA.sl ct 0;have B2:=ud hH hA.sl ct 1;have uu:st.ro≤st.bs.length:=by rw[hH.ex.ro];exact Nat.le_trans hH.dX (Nat.le_trans hH.hN hH.ex.len)
 obtain⟨_,st1,Ty,rfl,SG⟩:=xw hp sa bc (hm.lift hH) uu;rw[SG] at Ty;clear SG st1;have Bs:=Ae (st:=st) (k:=kd) (v:=0) (h:=h) (j:=js) (by rw[hH.ex.low kd hA.dl];exact XA) hA.hl uu;have ZK:st.bs[kS]?=some (.mem 0 false [.ptr kd 0 0,.ptr kv 0 0]):=by rw[hH.ex.low kS hA.sl];exact ct
 change ab _ _ _ _ _ _;refine qq ?_;generalize hK:aI _ _ _ _=K;refine ab.oU rfl<|bL.cons<|qm<|aa.nil ⟨rfl,?_⟩;refine bL.cons<|qg<|aa.nil ⟨rfl,?_⟩;refine bL.cons<|qp (o:=0)<|aa.nil ⟨rfl,?_⟩;refine bL.cons<|qR<|aa.nil ⟨rfl,?_⟩;refine bL.cons<|aa.iH rfl rfl Bs (ah rfl _)<|aa.nil ⟨rfl,?_⟩;refine bL.cons<|qm<|aa.nil ⟨rfl,?_⟩;refine bL.cons<|qg<|aa.nil ⟨rfl,?_⟩;refine bL.cons<|qp (o:=1)<|aa.nil ⟨rfl,?_⟩;refine bL.cons<|qR<|aa.nil ⟨by exact Bool.and_eq_true_iff.2 ⟨rD rfl rfl ZK ZK,rfl⟩,?_⟩;refine bL.cons<|aa.iH rfl rfl Ty (ah rfl _)<|aa.nil ⟨rfl,?_⟩;refine bL.cons<|aa.go (d:=xR (dG h) pl (L.map VL.pl)) (st1:=_) rfl rfl rfl (ah rfl _)<|aa.nil ⟨rfl,?_⟩;refine bL.cons<|qS hH aB fun st hH=>?_;dsimp only[u2,u1,u3,u4,setMany,u5,u6,D.cells,Nat.reduceAdd] at hH;refine aa.nil ⟨rfl,?_⟩;refine bL.nil ?_;subst hK;refine ab.ret ⟨rx,_,_,_,hH.j5 rfl aB rfl,ak (show aY st s0.bs.length false 16 (xR (dG h) pl (L.map VL.pl))=some (xR (dG h) pl (L.map VL.pl)) from rfl),rfl,back_eq hH bT⟩
theorem Cq (dE:∀st,Ev pv 59 [] st (.agg (aF b4)) st) {kS kd kv ks:Nat} {s0:St} {p:Pg} {pl:Nat} {ld:D} {L:List VL} {h js:List UInt8} (hp:p.ok) (hR:bz p) (iq:pl≤900000000000) (sa:L.length=p.aw.length) (wW:∀l∈L,l.pl.ok p.code.length) (hb:cE h=true∨h=[]) (h3:h.length≤3) (hA:AS s0 kS kd kv ks p pl ld L h js):
  ∃d ai,Ev pv 35 [.ptr kS 0 0] s0 d ai∧d=dB ((dY p.code (au p) (gN h.length) pl (L.map VL.pl)).2.map (iU p.code (dY p.code (au p) (gN h.length) pl (L.map VL.pl)).1))∧ai=s0:=by
 have dX:=hA.ro;have L6:=hR.sl;refine Ev.il rfl X_ rfl rfl rfl ?_;dsimp only[u3,u4,List.length,Nat.reduceSub,Nat.reduceAdd,w1,w2];have bT:(ag .rw s0).bs=s0.bs:=rfl;have hF:(ag .rw s0).flr≤s0.bs.length:=Nat.le_refl _;have hH:Has s0.bs.length (ag .rw s0) (ag .rw s0) []:=Has.start (Nat.le_refl _) dX;generalize ag .rw s0=S2 at*;have hm:=hA.m.bs bT;have ct:S2.bs[kS]?=some (.mem 0 false [.ptr kd 0 0,.ptr kv 0 0]):=by rw[bT];exact hA.s
 have XA:S2.bs[kd]?=some (.mem 0 false (ck h js)):=by rw[bT];exact hA.d
 have Lj:∀l∈L.map VL.pl,l.ok p.code.length:=fun l hl=>by obtain⟨y,hy,rfl⟩:=List.mem_map.1 hl;exact wW y hy
 have Bo:(L.map VL.pl).length=p.aw.length:=by rw[List.length_map];exact sa
 obtain⟨oZ,jo⟩:=pj hR (gN h.length) pl (L.map VL.pl) Bo Lj;have hrp:=tJ p.code (au p) (gN h.length) pl (L.map VL.pl);have hbl:(gN h.length).length=h.length:=by unfold gN;rw[List.length_replicate]
 refine qq<|qj fun K hK=>qm ?_;refine qe hK ?_;have Rr:=ud hH hA.sl ct 0;have uu:S2.ro≤S2.bs.length:=Nat.le_trans hH.dX hH.hN;have Bs:=Ae (st:=S2) (k:=kd) (v:=0) (h:=h) (j:=js) XA hA.hl uu;have QB:=Se (st:=S2) (x:=dG h) (tu S2 h) hb h3 uu;refine qq<|qj fun K hK=>qm ?_;refine qg ?_;refine qp (o:=0) ?_;refine qR ?_;refine aa.iH rfl rfl Bs (ah rfl _) ?_;have hH:=hH.po (.mem 0 false (ck h (([0,0,0,0]:List UInt8).drop h.length)));refine aa.iH rfl rfl QB (ah rfl _) ?_;refine qm ?_;refine qg ?_;refine qg ?_;refine qm ?_;refine qm ?_;refine qe hK ?_;generalize S2.push (.mem 0 false (ck h (([0,0,0,0]:List UInt8).drop h.length)))=st at*
 obtain⟨VG,WM⟩:∃k,k=S2.bs.length:=⟨_,rfl⟩
 rw[←WM] at hH⊢;refine qq<|qq<|qj fun K hK=>qm ?_;refine qg ?_;refine qe hK<|ab.cond (v:=false) (by dsimp only[Fr.ev,Fr.get,nth,V.look];rfl) (fun h=>by cases h) (fun _=>?_);refine ab.skip ?_;have B2:=ud hH hA.sl ct 1;obtain⟨_,st2,W7,pt,oW,uY,L2,rfl,Lt,hM⟩:=LQ hF hp hR (by omega) (CK wW) hm hH
 have Xx:L2.length=p.aw.length:=by
  have:=congrArg List.length Lt;rw[List.length_map,List.length_map] at this;omega
 have D2:∀l∈L2,l.pl.ok p.code.length:=gp (by rw[Lt];exact Lj);obtain⟨pd,qd,P,Q,sn,U9,fN,ec⟩:=sP (MH.pull [_] [] (H:=[]) hM);refine qq<|qj fun K hK=>qm ?_;refine qg ?_;refine qp (o:=1) ?_;refine qR ?_;have hH:=U9;refine aa.iH rfl rfl W7 (ah rfl _) ?_;refine qm ?_;refine qe hK ?_;have hge:=hH.ge (j:=0) rfl;have ET:(h++([0,0,0,0]:List UInt8).drop h.length).length=4:=by simp;omega
 have DR:=QX (st:=st2) (k:=VG) (v:=0) (h:=h) (j:=([0,0,0,0]:List UInt8).drop h.length) (hH.at (j:=0) rfl) ET (by rw[hH.ex.ro];exact Nat.le_trans hH.dX hge.1);have ZS:=hH.tG (b':=.mem 0 false (ck [] (h++([0,0,0,0]:List UInt8).drop h.length))) (az:=0) (j:=0) rfl;dsimp only[u2,u3,u4] at ZS;generalize(⟨st2.bs.set VG (.mem 0 false (ck [] (h++([0,0,0,0]:List UInt8).drop h.length))),st2.flr,st2.ro⟩:St)=Vk at*;obtain⟨_,st4,uB,rfl,ld3,L3,EX,hM⟩:=vg (gs:=gN h.length) dE hF hp hR (by omega) (by omega) Xx D2 (MH.push [_] [] (H:=[]) (zQ ZS fN ec));rw[Lt] at EX hM;have Xv:L3.length=p.aw.length:=by rw[←oZ,←EX,List.length_map]
 have D1:∀l∈L3,l.pl.ok p.code.length:=gp (by rw[EX];exact jo);refine qq<|qj fun K hK=>qm ?_;refine qm ?_;refine aa.iH rfl rfl DR (ah rfl _) ?_;refine aa.iH rfl rfl uB (ah rfl _) ?_;refine qe hK ?_;obtain⟨ed,st5,W8,hM⟩:=LP hF hp hR (by omega) Xv D1 hM;obtain⟨pd,qd,P,Q,sn,ZR,aaI,aaf⟩:=sP hM;dsimp only[u3,u4] at ZR;refine qq<|qj fun K hK=>qm ?_;have hH:=ZR;refine aa.iH rfl rfl W8 (ah rfl _) ?_;refine qm ?_;refine qe hK ?_;have hE:(L3.map fun l=>iU p.code (dY p.code (au p) (gN h.length) pl (L.map VL.pl)).1 l.pl)=(dY p.code (au p) (gN h.length) pl (L.map VL.pl)).2.map (iU p.code (dY p.code (au p) (gN h.length) pl (L.map VL.pl)).1):=by rw[←EX,List.map_map];rfl
 rw[hE] at hH;refine ab.ret ⟨rx,_,_,_,rfl,ak (BF hH (j:=0) rfl fun l hl=>(by obtain⟨x,_,rfl⟩:=List.mem_map.1 hl;rfl)),rfl,back_eq hH bT⟩
def jj (fr:Go.V.Fr) (k:Nat):Go.V.D:=Go.V.nth .bp fr.loc k
section
variable{A:List bt} {N kS kd kv ks:Nat} {S s0:St} {p:Pg} {pl:Nat} {ld:D} {L:List VL} {h:List UInt8} {H:List bt}
theorem SH.pull (A:List bt) (hM:SH [] N S s0 kS kd kv ks p pl ld L h (A++H)):SH A N S s0 kS kd kv ks p pl ld L h H:=by
 obtain⟨pd,qd,P,Q,sn,js,hH,h1,h2,h3⟩:=hM;refine⟨pd,qd,P,Q,sn,js,?_,h1,h2,h3⟩;have:=Has.kE (_::_::eU ks kv p pl ld pd qd P Q L) A (H:=H) (by simpa only[List.nil_append,List.cons_append,List.append_assoc] using hH)
 simpa only[List.cons_append,List.append_assoc] using this
theorem SH.push (hM:SH A N S s0 kS kd kv ks p pl ld L h H):SH [] N S s0 kS kd kv ks p pl ld L h (A++H):=by
 obtain⟨pd,qd,P,Q,sn,js,hH,h1,h2,h3⟩:=hM;refine⟨pd,qd,P,Q,sn,js,?_,h1,h2,h3⟩;have:=Has.kE A (_::_::eU ks kv p pl ld pd qd P Q L) (H:=H) (by simpa only[List.cons_append,List.append_assoc] using hH)
 simpa only[List.nil_append,List.cons_append,List.append_assoc] using this
theorem SH.has (hM:SH A N S s0 kS kd kv ks p pl ld L h H):Has N S s0 A:=by
 obtain⟨pd,qd,P,Q,sn,js,hH,h1,h2,h3⟩:=hM;have:=hH.take A.length
 rwa [List.take_left] at this
end
theorem vw (code:List aO) (ss:List Nat) (x:List UInt8×Nat×List PL) (c:UInt8):cE (lX code ss x c).1=true∨(lX code ss x c).1=[]:=(pF _ _ (by simp)).symm
theorem mJ (pl:Nat) (L:List PL):iY pl L=.agg [.int .i64 (pl:Nat),dB L]:=rfl
theorem CB (dE:∀st,Ev pv 67 [] st (.agg (aF b4)) st) {s0:St} {p:Pg} {x:D} {h:List UInt8} {pl:Nat} {ls:List PL} {c:UInt8} (hp:p.ok) (hR:bz p) (hx:eE x 1 (byteCells h)) (h3:h.length≤3) (iq:pl≤900000000000) (o4:ls.length=p.aw.length) (bc:∀l∈ls,l.ok p.code.length):
  Ev pv 32 [p.d,xR x pl ls,.int .u8 (c.toNat:Nat)] s0 (xR (dG (cD h c).2) (dY p.code (au p) (cD h c).1 pl ls).1 (dY p.code (au p) (cD h c).1 pl ls).2) s0:=by
 have nu:=mg (h:=h) (c:=c);have hrb:=fun st=>Cy (st:=st) (x:=x) (h:=h) (c:=c) (hx.rows st) h3;have gf:=fun(st:St) (pl:Nat) (L:List PL) (r n:Int) (h1:pl≤1000000000000) (h2:L.length=p.aw.length) (h3:∀l∈L,l.ok p.code.length)=>vN (s0:=st) (pl:=pl) (L:=L) (r:=r) (n:=n) dE hp hR h1 h2 h3;simp only[mJ] at gf;have hcl:=hx.cells;generalize hX:cD h c=X at*;obtain⟨gs,h'⟩:=X;simp only at nu hrb⊢;have Ad:∀N S,Arg N S 2 (dJ gs) (gs.map aQ):=fun N S=>Arg.pure (fun st=>dF st gs);have Ad:=Ad s0.bs.length;unfold xR Pg.d at*;refine Ev.iS rfl Yb rfl rfl rfl ?_;dsimp only[u3,u4,List.length,Nat.reduceSub,Nat.reduceAdd,w1,w2];obtain⟨bT,hF,hH⟩:=ri s0;generalize ag .ro s0=S at*;have Ad:=Ad S;refine qq<|qj fun K hK=>qb hH fun k3 st EU hH=>?_;dsimp only[u2,u1,u3,u4,setMany,u5,u6,D.cells,Nat.reduceAdd,Pg.cs,aQ] at hH;refine qb hH fun k4 st Ry hH=>?_;refine qa hH fun k6 st Me hH=>?_;refine qe hK<|qq<|qj fun K hK=>qp (o:=0) ?_;refine ql hH bF ?_;refine qm ?_;refine qv ((hrb _)) ?_;refine qm ?_;refine qg ?_;refine qg ?_;refine qm ?_;refine qm ?_;refine qe hK<|qq<|qj fun K hK=>qp (o:=1) ?_;refine aa.aT (m:=2) hH rfl (ev rfl) (by exact bF) (by dsimp only[List.drop_succ_cons,List.drop_zero,List.take_succ_cons,List.take_zero,Pg.cs,aQ]<;>rfl) rfl rfl (ah rfl _) ?_;refine qa hH fun k9 st U2 hH=>?_;refine qS hH aB fun st hH=>?_;dsimp only[u2,u1,u3,u4,setMany,u5,u6,D.cells,Nat.reduceAdd,Pg.cs,aQ] at hH;refine qe hK<|qq<|qq<|qj fun K hK=>qm ?_;refine qe hK<|ab.block<|ab.loop (fun mm fr st=>∃(i lS:Nat) (xx:List PL),fr.clean=⟨11,[jj fr 0,jj fr 1,jj fr 2,.ptr k3 0 0,jj fr 4,jj fr 5,.ptr k6 0 0,dG h',dJ gs,.ptr k9 0 0,.int .i64 (i:Nat)],[]⟩∧Has s0.bs.length S st [.box k9 (.mem 0 false [.int .i64 (lS:Nat),dB xx]),.box k6 (.mem 0 false [.nul,.int .i64 0,.nul]),.box k3 (.mem 0 false [p.cd,p.sd])]∧(i+mm=gs.length)∧(dY p.code (au p) (gs.drop i) lS xx=dY p.code (au p) gs pl ls)∧(lS≤pl+4*i)∧(xx.length=p.aw.length)∧(∀l∈xx,l.ok p.code.length)) (gs.length) ?_ ?_
 ·exact⟨0,pl,ls,rfl,(hH.erase 2),by omega,rfl,by omega,o4,bc⟩
 rintro mm fr st ⟨i,lS,xx,hfr,hH,hi,gI,SS,Bp,fN⟩;rw[hfr];clear hfr;generalize jj fr=ee;clear fr;refine qq<|qq<|qj fun K hK=>qm ?_;refine qm ?_;refine qn ?_;simp only[List.length_map];refine qg ?_;refine qe hK ?_;refine ab.cond (by rfl) (fun hlt=>?_) (fun hlt=>?_)<;>try simp only[decide_eq_true_eq,decide_eq_false_iff_not] at hlt
 ·refine ab.skip ?_;have hil:i<gs.length:=by omega
  obtain⟨g,Qy⟩:∃g,gs[i]?=some g:=⟨gs[i]'hil,List.getElem?_eq_getElem _⟩
  have gJ:(gs.map aQ)[i]?=some (aQ g):=by rw[List.getElem?_map,Qy];rfl
  have U5:=iu ((g.2:Nat):Int)
  have q_:gs.drop i=g::gs.drop (i+1):=by
   rw[List.drop_eq_getElem_cons hil]
   congr 1
   exact Option.some.inj ((List.getElem?_eq_getElem _).symm.trans Qy)
  refine qq<|ab.block<|qj fun K hK=>?_;refine aa.aT (m:=2) hH rfl (ev rfl) (by exact dL) (by dsimp only[List.drop_succ_cons,List.drop_zero,List.take_succ_cons,List.take_zero,Pg.cs,aQ]<;>rfl) rfl rfl (ah rfl _) ?_;refine aa.aT (m:=2) hH rfl (ev rfl) (by exact aB) (by dsimp only[List.drop_succ_cons,List.drop_zero,List.take_succ_cons,List.take_zero,Pg.cs,aQ]<;>rfl) rfl rfl (ah rfl _) ?_;refine qm ?_;refine qm ?_;refine qr fun Vt Qf=>?_;refine qf (fo:=0) fun p31 Wv=>?_;refine qR ?_;refine qm ?_;refine qm ?_;refine qr fun UQ Ld=>?_;refine qf (fo:=1) fun Vs Qe=>?_;refine qR ?_;refine qv ((gf _ _ _ _ _ (by omega) Bp fN)) ?_;refine qS hH aB fun st hH=>?_;dsimp only[u2,u1,u3,u4,setMany,u5,u6,D.cells,Nat.reduceAdd,Pg.cs,aQ] at hH;refine qe hK<|qj fun K hK=>qm ?_;refine qA ?_;refine qm ?_;refine qe hK ?_;exact⟨mm-1,by omega,⟨i+1,lS+di ((g.2:Nat):Int),da p.code lS ((g.1:Nat):Int) (au p) xx,rfl,hH,by omega,(by rw[←gI,q_];rfl),by omega,(by rw[fq _ _ _ _ _ (by unfold au;rw[List.length_map];omega)];exact Bp),(fun l hl=>jx hR (jV hR) l hl)⟩⟩
 ·refine ab.exit ?_;have q_:gs.drop i=[]:=by rw[List.drop_eq_nil_iff];omega
  rw[q_] at gI;have gI:(lS,xx)=dY p.code (au p) gs pl ls:=gI;rw[←gI];refine qq<|qj fun K hK=>qm ?_;refine aa.aT (m:=2) hH rfl (ev rfl) (by exact aB) (by dsimp only[List.drop_succ_cons,List.drop_zero,List.take_succ_cons,List.take_zero,Pg.cs,aQ]<;>rfl) rfl rfl (ah rfl _) ?_;refine aa.go (d:=.agg [dG h',.int .i64 (lS:Nat),dB xx]) (st1:=_) rfl rfl rfl (ah rfl _) ?_;refine qS hH bF fun st hH=>?_;dsimp only[u2,u1,u3,u4,setMany,u5,u6,D.cells,Nat.reduceAdd,Pg.cs,aQ] at hH;refine qe hK<|ab.ret ⟨rx,_,hH.j5 rfl bF rfl,rl bT hH (rfl)⟩
theorem tO (dE:∀st,Ev pv 67 [] st (.agg (aF b4)) st) {s0:St} {p:Pg} {x:D} {h:List UInt8} {pl:Nat} {ls:List PL} (hp:p.ok) (hR:bz p) (hx:eE x 1 (byteCells h)) (h3:h.length≤3) (iq:pl≤900000000000) (o4:ls.length=p.aw.length) (bc:∀l∈ls,l.ok p.code.length):
  Ev pv 36 [p.d,xR x pl ls] s0 (dB ((dY p.code (au p) (gN h.length) pl ls).2.map (iU p.code (dY p.code (au p) (gN h.length) pl ls).1))) s0:=by
 have hbl:(gN h.length).length=h.length:=by unfold gN;rw[List.length_replicate]
 have gf:=fun(st:St) (pl:Nat) (L:List PL) (r n:Int) (h1:pl≤1000000000000) (h2:L.length=p.aw.length) (h3:∀l∈L,l.ok p.code.length)=>vN (s0:=st) (pl:=pl) (L:=L) (r:=r) (n:=n) dE hp hR h1 h2 h3;have ZC:=fun(st:St) (pl:Nat) (L:List PL) (h1:pl≤1099511627776) (h2:L.length=p.aw.length) (h3:∀l∈L,l.ok p.code.length)=>CA (s0:=st) (pl:=pl) (L:=L) hp hR h1 h2 h3;simp only[mJ] at gf ZC;have hcl:=hx.cells;have QJ:=aG h;have Rp:=hx.arg s0.bs.length;unfold xR Pg.d at*;refine Ev.iS rfl X9 rfl rfl rfl ?_;dsimp only[u3,u4,List.length,Nat.reduceSub,Nat.reduceAdd,w1,w2];obtain⟨bT,hF,hH⟩:=ri s0;generalize ag .ro s0=S at*;have Rp:=Rp S;refine qq<|qj fun K hK=>qb hH fun k2 st hk2 hH=>?_;dsimp only[u2,u1,u3,u4,setMany,u5,u6,D.cells,Nat.reduceAdd,Pg.cs,aQ] at hH;refine qb hH fun k3 st EU hH=>?_;refine qm ?_;refine qe hK<|qq<|qj fun K hK=>qp (o:=1) ?_;refine aa.aT (m:=2) hH rfl (ev rfl) (by exact aB) (by dsimp only[List.drop_succ_cons,List.drop_zero,List.take_succ_cons,List.take_zero,Pg.cs,aQ]<;>rfl) rfl rfl (ah rfl _) ?_;refine qa hH fun k5 st Aa hH=>?_;refine qS hH aB fun st hH=>?_;dsimp only[u2,u1,u3,u4,setMany,u5,u6,D.cells,Nat.reduceAdd,Pg.cs,aQ] at hH;refine qe hK<|qq<|qq<|qj fun K hK=>qm ?_;refine qe hK<|ab.block<|ab.loop (fun mm fr st=>∃(i lS:Nat) (xx:List PL),fr.clean=⟨7,[jj fr 0,jj fr 1,.ptr k2 0 0,.ptr k3 0 0,jj fr 4,.ptr k5 0 0,.int .i64 (i:Nat)],[]⟩∧Has s0.bs.length S st [.box k5 (.mem 0 false [.int .i64 (lS:Nat),dB xx]),.box k3 (.mem 0 false [x,.int .i64 (pl:Nat),dB ls]),.box k2 (.mem 0 false [p.cd,p.sd])]∧(i+mm=h.length)∧(dY p.code (au p) (gN mm) lS xx=dY p.code (au p) (gN h.length) pl ls)∧(lS≤pl+4*i)∧(xx.length=p.aw.length)∧(∀l∈xx,l.ok p.code.length)) (h.length) ?_ ?_
 ·exact⟨0,pl,ls,rfl,hH,by omega,rfl,by omega,o4,bc⟩
 rintro mm fr st ⟨i,lS,xx,hfr,hH,hi,gI,SS,Bp,fN⟩;rw[hfr];clear hfr;generalize jj fr=ee;clear fr;refine qq<|qq<|qj fun K hK=>qm ?_;refine qp (o:=0) ?_;refine ql hH bF ?_;refine qn ?_;refine qg ?_;refine qe hK ?_;rw[QJ];refine ab.cond (by rfl) (fun hlt=>?_) (fun hlt=>?_)<;>try simp only[decide_eq_true_eq,decide_eq_false_iff_not] at hlt
 ·refine ab.skip ?_;have U5:=iu 1;refine qq<|ab.block<|qj fun K hK=>?_;refine aa.aT (m:=2) hH rfl (ev rfl) (by exact dL) (by dsimp only[List.drop_succ_cons,List.drop_zero,List.take_succ_cons,List.take_zero,Pg.cs,aQ]<;>rfl) rfl rfl (ah rfl _) ?_;refine aa.aT (m:=2) hH rfl (ev rfl) (by exact aB) (by dsimp only[List.drop_succ_cons,List.drop_zero,List.take_succ_cons,List.take_zero,Pg.cs,aQ]<;>rfl) rfl rfl (ah rfl _) ?_;refine qv ((gf _ _ _ _ _ (by omega) Bp fN)) ?_;refine qS hH aB fun st hH=>?_;dsimp only[u2,u1,u3,u4,setMany,u5,u6,D.cells,Nat.reduceAdd,Pg.cs,aQ] at hH;refine qe hK<|qj fun K hK=>qm ?_;refine qA ?_;refine qm ?_;refine qe hK ?_
  obtain⟨m,rfl⟩:∃m,mm=m+1:=⟨mm-1,by omega⟩
  exact⟨m,by omega,⟨i+1,lS+di 1,da p.code lS 65533 (au p) xx,rfl,hH,by omega,(by rw[←gI];rfl),by omega,(by rw[fq _ _ _ _ _ (by unfold au;rw[List.length_map];omega)];exact Bp),(fun l hl=>jx hR (jV hR) l hl)⟩⟩
 ·refine ab.exit ?_;have jM:mm=0:=by omega
  subst jM;have gI:(lS,xx)=dY p.code (au p) (gN h.length) pl ls:=gI;rw[←gI];refine qq<|qj fun K hK=>?_;refine aa.aT (m:=2) hH rfl (ev rfl) (by exact dL) (by dsimp only[List.drop_succ_cons,List.drop_zero,List.take_succ_cons,List.take_zero,Pg.cs,aQ]<;>rfl) rfl rfl (ah rfl _) ?_;refine aa.aT (m:=2) hH rfl (ev rfl) (by exact aB) (by dsimp only[List.drop_succ_cons,List.drop_zero,List.take_succ_cons,List.take_zero,Pg.cs,aQ]<;>rfl) rfl rfl (ah rfl _) ?_;refine qv ((ZC _ _ _ (by omega) Bp fN)) ?_;refine qm ?_;refine qe hK<|ab.ret ⟨rx,_,rfl,rl bT hH (rfl)⟩
theorem vq {s0:St} {x y:D} {h:List UInt8} {pl:Nat} {L:List PL} (hx:eE x 1 (byteCells h)) (hy:eE y 1 (byteCells h)) (hhl:h.length≤1048576) (hl:L.length≤1000) (z6:∀l∈L,l.cT.length≤1000):Ev pv 33 [xR x pl L,xR y pl L] s0 (.bool true) s0:=by
 have hsb:=fun st=>sE (st:=st) (x:=x) (y:=y) (l:=h) (hx.rows st) (hy.rows st) (by omega);have hm:=fun st=>wj (s0:=st) (pl:=pl) (L:=L) hl z6;simp only[mJ] at hm;have hcl:=hx.cells;have mQ:=hy.cells;unfold xR;refine Ev.iS rfl Ya rfl rfl rfl ?_;dsimp only[u3,u4,List.length,Nat.reduceSub,Nat.reduceAdd,w1,w2];obtain⟨bT,hF,hH⟩:=ri s0;generalize ag .ro s0=S at*;refine qq<|qj fun K hK=>qb hH fun k2 st hk2 hH=>?_;refine qb hH fun k3 st EU hH=>?_;refine qm ?_;refine qe hK ?_;have bd:true=true:=rfl;refine qq<|qj fun K hK=>qp (o:=0) ?_;refine ql hH bF ?_;refine qp (o:=0) ?_;refine ql hH aB ?_;refine qv ((hsb _)) ?_;refine qm ?_;refine qp (o:=1) ?_ (hg:=wi bd);refine aa.aT (m:=2) hH (aD rfl rfl rfl bd) (ev rfl) (by exact bF) (by dsimp only[List.drop_succ_cons,List.drop_zero,List.take_succ_cons,List.take_zero,Pg.cs,aQ]<;>rfl) rfl rfl (ah rfl _) ?_;refine qp (o:=1) ?_ (hg:=wi bd);refine aa.aT (m:=2) hH (aD rfl rfl rfl bd) (ev rfl) (by exact aB) (by dsimp only[List.drop_succ_cons,List.drop_zero,List.take_succ_cons,List.take_zero,Pg.cs,aQ]<;>rfl) rfl rfl (ah rfl _) ?_;refine qv ((hm _)) ?_ (hg:=wi bd);refine qt bd ?_;refine qm ?_;refine qe hK<|ab.ret ⟨rx,_,rfl,rl bT hH (rfl)⟩
end Go.Proofs.YtbdnabmmlbiomaaGreat
