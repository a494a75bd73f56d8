/-
 A set's bytes.
-/
import Derived.Test.YthahmilhpmfkfaaGreatVHr
import Derived.Test.YthahmilhpmfkfaaGreatVGEj
import Derived.Test.YthahmilhpmfkfaaGreatVGEd
import Derived.Test.YthahmilhpmfkfaaGreatVGCa
import Derived.Test.YthahmilhpmfkfaaGreatVDig
import Derived.Test.YthahmilhpmfkfaaGreatVGQa
set_option maxRecDepth 100000
set_option maxHeartbeats 4000000
set_option linter.unusedSimpArgs false
set_option linter.unusedVariables false
namespace Go.Proofs.YthahmilhpmfkfaaGreat
open Go.V Go
def gR (fr:Go.V.Fr) (k:Nat):Go.V.D:=Go.V.nth .bf fr.loc k
structure iv where
 nm:List UInt8
 tx:List UInt8
def aY (p:iv):List D:=[.str p.nm,.str p.tx]
def iv.fit (p:iv):Prop:=p.nm.length≤1048576∧p.tx.length≤1048576
def ft (p:iv):List UInt8:=gg p.nm++gg p.tx
def iN (l:List iv) (c:List UInt8):List UInt8:=ga (l.length:Nat)++((l.map ft).flatten++gg c)
theorem nF (t:List UInt8):(gg t).length≤9+t.length:=by unfold gg;have:=nQ (t.length:Nat);rw[List.length_append];omega
theorem wb {p:iv} (h:p.fit):(ft p).length≤2097170:=by
 unfold ft;have:=nF p.nm;have:=nF p.tx;have:=h.1;have:=h.2;rw[List.length_append];omega
theorem lv {st:St} {s:Nat} {x:D} {es:List (List D)} (h:V.Rows st s x es):x.cells?=some [x]:=by cases h<;>rfl
theorem wa {l:List iv} {i:Nat} {p:iv} (h:l[i]?=some p):(l.map aY)[i]?=some (aY p):=by rw[List.getElem?_map,h];rfl
theorem HM {s0:St} {x:D} {b:List UInt8} {p:iv} (hx:V.Rows s0 1 x (V.byteCells b)) (hl:b.length≤40000000000) (hp:p.fit):
  Ev pv 27 [x,.agg (aY p)] s0 (nr (b++ft p)) s0:=by
 have h1:=nF p.nm;have h2:=hp.1;have h3:b++ft p=(b++gg p.nm)++gg p.tx:=by unfold ft;rw[List.append_assoc]
 rw[h3];refine Ev.iZ rfl S7 rfl rfl rfl ?_;refine zE ?_;obtain⟨aU,hF,hH⟩:=ri s0;generalize ag .ro s0=S at*;have hx:=Arg.of hx aU;refine zQ 2 ?_;refine qb hH fun k3 st DQ hH=>?_;dsimp only[u2,u1,u3,u4,setMany,u5,u6,D.cells,Nat.reduceAdd,aY] at hH;refine zQ 7 ?_;refine qv (rz (hx.rows hH) (by omega) hp.1) ?_;refine zQ 2 ?_;refine qv (rz (f_ _ _) (by rw[List.length_append];omega) hp.2) ?_;refine zQ 2 ?_;refine ai.ret ⟨rx,_,rfl,rl aU hH (rfl)⟩
theorem CS {s0:St} {x y:D} {b:List UInt8} {l:List iv} (hx:V.Rows s0 1 x (V.byteCells b)) (hy:V.Rows s0 2 y (l.map aY)) (hl:b.length≤30000000000) (nc:l.length≤1000) (wG:∀p∈l,p.fit):
  Ev pv 26 [x,y,.fn 27 []] s0 (nr (b++(ga (l.length:Nat)++(l.map ft).flatten))) s0:=by
 have tQ:=nQ (l.length:Nat);refine Ev.iZ rfl S8 rfl rfl rfl ?_;refine zE ?_;obtain⟨aU,hF,hH⟩:=ri s0;generalize ag .ro s0=S at*;have hx:=Arg.of hx aU;have hy:=Arg.of hy aU;refine zQ 8 ?_;refine qn ?_;simp only[List.length_map];obtain⟨wT,wS⟩:=hH.Jj hF;obtain⟨d13,st,aC,ho⟩:=Bq (x:=x) (b:=b) wT wS (hx.rows hH) (by omega) (l.length:Nat) (by omega);have hH:=hH.Md ho
 (try dsimp only[u3,u4] at hH)
 refine qv aC ?_;refine zQ 6 ?_;refine qn ?_;simp only[List.length_map];refine zQ 3 ?_;refine ai.loop (fun mm fr st=>∃(i:Nat) (o:D) (E:List aZ),fr.clean=⟨17,[gR fr 0,gR fr 1,.fn 27 [],gR fr 3,gR fr 4,gR fr 5,gR fr 6,o,gR fr 8,gR fr 9,gR fr 10,gR fr 11,gR fr 12,gR fr 13,y,.int .i64 (l.length:Nat),.int .i64 (i:Nat)],[]⟩∧Has s0.bs.length S st (E)∧(i+mm=l.length)∧(E=[.aB o 1 (V.byteCells (b++(ga (l.length:Nat)++((l.take i).map ft).flatten)))]∨o=nr (b++(ga (l.length:Nat)++((l.take i).map ft).flatten)))) (l.length) ?_ ?_
 ·exact⟨0,d13,_,rfl,(by simpa using hH),by omega,.inl rfl⟩
 rintro mm fr st ⟨i,o,E,hfr,hH,hi,hE⟩;rw[hfr];clear hfr;generalize gR fr=ee;clear fr;refine zQ 5 ?_;refine zP (fun hlt=>?_) fun hlt=>?_
 ·refine zQ 1 ?_
  obtain⟨v,hv⟩:∃v,l[i]?=some v:=⟨l[i]'(by omega),List.getElem?_eq_getElem _⟩
  have O7:=List.mem_of_getElem? hv;have gr:=wa hv;have oA:=Ji (f:=ft) hv;have I6:=Cw (f:=ft) (n:=2097170) (l:=l.take i) (fun x hx=>wb (wG x (List.mem_of_mem_take hx)));have htl:(l.take i).length=i:=by rw[List.length_take];omega
  have lg:(b++(ga (l.length:Nat)++((l.take i).map ft).flatten)).length≤40000000000:=by simp only[List.length_append];omega
  have Qt:b++(ga (l.length:Nat)++((l.take (i+1)).map ft).flatten)=(b++(ga (l.length:Nat)++((l.take i).map ft).flatten))++ft v:=by rw[oA];simp only[List.append_assoc]
  generalize hP:b++(ga (l.length:Nat)++((l.take i).map ft).flatten)=P at*
  have yM:∀{st:St},Has s0.bs.length S st E→V.Rows st 1 o (V.byteCells P):=fun h=>by
   rcases hE with rfl|rfl
   ·exact h.rows aG
   ·exact f_ _ _
  refine zQ 4 ?_;refine qr fun TV Nz=>?_;refine ae.cA rfl (ev rfl) (by assumption) rfl (aa rfl _) ?_;refine qa hH fun k9 st Re hH=>?_;refine qS hH aG fun st hH=>?_;dsimp only[u2,u1,u3,u4,setMany,u5,u6,D.cells,Nat.reduceAdd,aY] at hH;refine zQ 4 ?_;refine ae.aN (m:=2) hH rfl (ev rfl) (by exact aG) (by dsimp only[List.drop_succ_cons,List.drop_zero,List.take_succ_cons,List.take_zero,aY]<;>rfl) rfl rfl (aa rfl _) ?_;refine qv (HM (yM (hH.drop 1)) lg (wG v O7)) ?_;refine zQ 6 ?_;exact⟨mm-1,by omega,⟨i+1,nr (P++ft v),[],rfl,(hH.take 0),by omega,.inr (by rw[Qt])⟩⟩
 ·refine zQ 1 ?_;rw[List.take_of_length_le (by omega)] at hE;refine zQ 5 ?_;refine ai.ret ⟨rx,_,rfl,rl aU hH ?_⟩
  rcases hE with rfl|rfl
  ·exact hH.w5 aG (iF _) (by decide)
  ·rfl
theorem uB {s0:St} {x y:D} {b c:List UInt8} {l:List iv} (hx:V.Rows s0 1 x (V.byteCells b)) (hy:V.Rows s0 2 y (l.map aY)) (hl:b.length≤30000000000) (nc:l.length≤1000) (wG:∀p∈l,p.fit) (hc:c.length≤1048576):
  Ev pv 8 [x,.agg [y,.str c]] s0 (nr (b++iN l c)) s0:=by
 have tQ:=nQ (l.length:Nat);have I6:=Cw (f:=ft) (n:=2097170) (l:=l) (fun x hx=>wb (wG x hx));have h3:b++iN l c=(b++(ga (l.length:Nat)++(l.map ft).flatten))++gg c:=by unfold iN;simp only[List.append_assoc]
 rw[h3];have hcl:=lv hy;refine Ev.iZ rfl XL rfl rfl rfl ?_;refine zE ?_;obtain⟨aU,hF,hH⟩:=ri s0;generalize ag .ro s0=S at*;have hx:=Arg.of hx aU;have hy:=Arg.of hy aU;refine zQ 2 ?_;refine qb hH fun k3 st DQ hH=>?_;refine zQ 7 ?_;refine qv (CS (hx.rows hH) (hy.rows hH) hl nc wG) ?_;refine zQ 7 ?_;refine qv (rz (f_ _ _) (by simp only[List.length_append];omega) hc) ?_;refine zQ 2 ?_;refine ai.ret ⟨rx,_,rfl,rl aU hH (rfl)⟩
def fc (fr:Go.V.Fr) (k:Nat):Go.V.D:=Go.V.nth .bf fr.loc k
inductive PR (α:Type) where
 |ok (a:α) (i:Nat)
 |er (e:Int) (w:Nat)
def yl:List Rg→Int→List Rg
 |[],n=>[(n,1114111)]
 |q::m,n=>(n,aW .i32 (q.1-1))::yl m (aW .i32 (q.2+1))
noncomputable def qG (l:List Rg):List Rg:=cm (yl (cm l) 0)
theorem yk:∀(l:List Rg) (n:Int),(yl l n).length=l.length+1
 |[],_=>rfl
 |q::m,n=>by simp only[yl,List.length_cons,yk m]
theorem wh {s0:St} {x:D} {l:List Rg} (hx:V.Rows s0 2 x (l.map av)) (hl:l.length≤131072):Ev pv 111 [x] s0 (aQ (qG l)) s0∧(qG l).length≤4*l.length+2:=by
 suffices hg:∃d,Ev pv 111 [x] s0 d s0∧d=aQ (qG l)∧(qG l).length≤4*l.length+2 by
  obtain⟨d,h1,rfl,h2⟩:=hg;exact⟨h1,h2⟩
 have hN:qG l=cm (yl (cm l) 0):=rfl;refine Ev.JW rfl Oy rfl rfl rfl ?_;refine zE ?_;obtain⟨aU,hF,hH⟩:=ri s0;generalize ag .ro s0=S at*;have hx:=Arg.of hx aU;refine zQ 12 ?_;obtain⟨aC,oB,_⟩:=nT (hx.rows hH) (by omega);have hla:=(gJ (cm l)).arg s0.bs.length S;generalize cm l=m at*;refine zQ 4 ?_;refine qv (aC) ?_;refine qn ?_;simp only[List.length_map];refine zQ 2 ?_;have hH:=hH.eC 2;refine zQ 1 ?_;refine ai.loop (fun mm fr st=>∃(i:Nat) (n:Int) (o:D) (out:List Rg),fr.clean=⟨11,[fc fr 0,fc fr 1,fc fr 2,o,.int .i32 n,fc fr 5,fc fr 6,fc fr 7,aQ m,.int .i64 (m.length:Nat),.int .i64 (i:Nat)],[]⟩∧Has s0.bs.length S st [.aB o 2 (out.map av)]∧(i+mm=m.length)∧(out.length=i)∧(out++yl (m.drop i) n=yl m 0)) (m.length) ?_ ?_
 ·exact⟨0,0,.nul,[],rfl,hH,by omega,rfl,rfl⟩
 rintro mm fr st ⟨i,n,o,out,hfr,hH,hi,ho,hn⟩;rw[hfr];clear hfr;generalize fc fr=ee;clear fr;refine zQ 5 ?_;refine zP (fun h1=>?_) fun h1=>?_
 ·refine zQ 1 ?_
  obtain⟨q,hq⟩:∃q,m[i]?=some q:=⟨m[i]'(by omega),List.getElem?_eq_getElem _⟩
  have hr:=fY hq
  have yU:m.drop i=q::m.drop (i+1):=by
   have:=List.drop_eq_getElem_cons (l:=m) (i:=i) (by omega);rw[this];congr 1;rw[List.getElem?_eq_getElem (by omega)] at hq;exact Option.some.inj hq
  rw[yU] at hn;refine zQ 4 ?_;refine qr fun P0 Lb=>?_;refine ae.cA rfl (ev rfl) (by assumption) rfl (aa rfl _) ?_;refine qa hH fun k6 st J' hH=>?_;refine qS hH aG fun st hH=>?_;dsimp only[u2,u1,u3,u4,setMany,u5,u6,D.cells,Nat.reduceAdd,av] at hH;refine zQ 7 ?_;refine ae.mQ (z:=aW .i32 (q.1-1)) rfl (ev rfl) (ev rfl) rfl (aa rfl _) ?_;refine ae.iC (qs:=[(0,_),(1,_)]) rfl rfl rfl rfl ⟨rfl,(ev rfl),(by rfl),rfl,(ev rfl),(by rfl),trivial⟩ (by intro q hq;simp only[List.mem_cons,List.not_mem_nil,or_false] at hq;rcases hq with rfl|rfl<;>exact⟨rfl,by exact Nat.le_of_ble_eq_true rfl⟩) (by show List.foldl _ [_,_] _=_;dsimp only[List.foldl_cons,List.foldl_nil,u2,u1]<;>rfl) (aa rfl _) ?_;refine qh (s:=2) (vs:=[_]) hH fun k20 st Ro hH=>?_;refine ae.ew (s:=2) hH rfl (ev rfl) (ev rfl) (by exact bE) (by exact hH.rows (by exact aG)) rfl rfl rfl rfl rfl rfl rfl ⟨(Nat.le_of_ble_eq_true rfl),(Nat.le_of_ble_eq_true rfl)⟩ (fun _=>(aa rfl _)) (by simp only[List.length_cons,List.length_nil,List.length_map]<;>omega) (by exact .inl hF) (fun TG st hH=>?_);dsimp only[u2,u1,u3,u4,setMany,u5,u6,D.cells,Nat.reduceAdd,av] at hH;refine zQ 5 ?_;refine ae.eN (z:=aW .i32 (q.2+1)) rfl (ev rfl) (ev rfl) rfl (aa rfl _) ?_;refine zQ 6 ?_;exact⟨mm-1,by omega,⟨i+1,_,_,out++[(n,aW .i32 (q.1-1))],rfl,(by rw[List.map_append];exact hH.drop 2),by omega,by simp[ho],(by rw[←hn,List.append_assoc];rfl)⟩⟩
 ·refine zQ 1 ?_;have wR:m.drop i=[]:=List.drop_eq_nil_of_le (by omega);rw[wR] at hn;have hn:out++[(n,1114111)]=yl m 0:=hn;refine zQ 4 ?_;refine ae.iC (qs:=[(0,_),(1,_)]) rfl rfl rfl rfl ⟨rfl,(ev rfl),(by rfl),rfl,(ev rfl),(by rfl),trivial⟩ (by intro q hq;simp only[List.mem_cons,List.not_mem_nil,or_false] at hq;rcases hq with rfl|rfl<;>exact⟨rfl,by exact Nat.le_of_ble_eq_true rfl⟩) (by show List.foldl _ [_,_] _=_;dsimp only[List.foldl_cons,List.foldl_nil,u2,u1]<;>rfl) (aa rfl _) ?_;refine qh (s:=2) (vs:=[_]) hH fun k29 st Rl hH=>?_;refine ae.ew (s:=2) hH rfl (ev rfl) (ev rfl) (by exact aV) (by exact hH.rows (by exact aG)) rfl rfl rfl rfl rfl rfl rfl ⟨(Nat.le_of_ble_eq_true rfl),(Nat.le_of_ble_eq_true rfl)⟩ (fun _=>(aa rfl _)) (by simp only[List.length_cons,List.length_nil,List.length_map]<;>omega) (by exact .inl hF) (fun PE st hH=>?_);dsimp only[u2,u1,u3,u4,setMany,u5,u6,D.cells,Nat.reduceAdd,av] at hH;obtain⟨aC,yS,_⟩:=nT (l:=out++[(n,1114111)]) (by rw[List.map_append];exact hH.rows aV) (by simp;omega);refine qv aC ?_;refine zQ 2 ?_;rw[hn] at yS⊢;refine ai.ret ⟨rx,_,_,rfl,rl aU hH (rfl),?_⟩;rw[yk] at yS;exact⟨by rw[hN];rfl,by rw[hN];omega⟩
noncomputable def D5:List Rg:=qG [(10,10)]
theorem Jo {s0:St}:Ev pv 100 [] s0 (aQ D5) s0∧D5.length≤6:=by
 have hl:(qG [(10,10)]).length≤4*1+2:=(wh (s0:=s0) (gJ [(10,10)]|>.rows s0) (by simp)).2;refine⟨?_,hl⟩;unfold D5;refine Ev.iZ rfl OH rfl rfl rfl ?_;refine zE ?_;obtain⟨aU,hF,hH⟩:=ri s0;generalize ag .ro s0=S at*;refine zQ 6 ?_;refine ae.iC (qs:=[(0,_),(1,_)]) rfl rfl rfl rfl ⟨rfl,(ev rfl),(by rfl),rfl,(ev rfl),(by rfl),trivial⟩ (by intro q hq;simp only[List.mem_cons,List.not_mem_nil,or_false] at hq;rcases hq with rfl|rfl<;>exact⟨rfl,by exact Nat.le_of_ble_eq_true rfl⟩) (by show List.foldl _ [_,_] _=_;dsimp only[List.foldl_cons,List.foldl_nil,u2,u1]<;>rfl) (aa rfl _) ?_;refine qh (s:=2) (vs:=[_]) hH fun k2 st hk2 hH=>?_;obtain⟨aC,_⟩:=wh (l:=[(10,10)]) (hH.rows aG) (by simp);refine qv aC ?_;refine zQ 2 ?_;refine ai.ret ⟨rx,_,rfl,rl aU hH (rfl)⟩
def pR (a b:List UInt8):Bool:=decide ((a.length:Int)<b.length)||(((a.length:Int)==b.length) &&Op.bytesLess a b)
theorem FV {s0:St} (a b:List UInt8):Ev pv 103 [.str a,.str b] s0 (.bool (pR a b)) s0:=by
 unfold pR;refine Ev.iZ rfl OE rfl rfl rfl ?_;refine zE ?_;obtain⟨aU,hF,hH⟩:=ri s0;generalize ag .ro s0=S at*;refine zQ 5 ?_;refine ai.qX 4 (.bool (decide ((a.length:Int)<b.length)||(((a.length:Int)==b.length) &&Op.bytesLess a b))) [] ?_ (fun ff tmp=>?_)
 ·refine qm ?_;refine ae.jY rfl rfl rfl (aa rfl _) ?_;refine qm ?_;refine ae.jY rfl rfl rfl (aa rfl _) ?_;refine zQ 2 ?_;refine ae.two 10 rfl (fun dQ=>?_) (fun dQ=>?_)
  ·refine zQ 12 ?_;refine ae.nil (aO ?_);refine zG ?_
   all_goals(simp_all;done)
  ·refine zQ 1 ?_;refine ae.jY (aj rfl rfl rfl dQ) rfl rfl (aa rfl _) ?_;refine zQ 1 ?_;refine ae.jY (aj rfl rfl rfl dQ) rfl rfl (aa rfl _) ?_;refine zQ 2 ?_;refine ae.two 16 rfl (fun eD=>?_) (fun eD=>?_)
   ·refine zQ 3 ?_;refine ae.cQ (aj rfl rfl rfl dQ) rfl eD (aa rfl _) ?_;refine zQ 2 ?_;refine ae.nil (aO ?_);refine zG ?_
    all_goals(simp_all;done)
   ·refine zQ 3 ?_;refine ae.cC (aj rfl rfl rfl dQ) rfl eD (aa rfl _) ?_;refine zQ 2 ?_;refine ae.nil (aO ?_);refine zG ?_
    all_goals(simp_all;done)
 dsimp only[bk,List.foldl,nth,u2,u1];refine ai.ret ⟨rx,_,rfl,rl aU hH (rfl)⟩
def CT:List UInt8→Int→Int
 |[],n=>n
 |c::l,n=>CT l (aW .i64 (aW .i64 (10*n)+aW .i64 (aW .u8 ((c.toNat:Nat)-48))))
def iS (b:List UInt8):Int×Bool:=if 2<b.length then(0,false) else(CT b 0,decide (CT b 0≤30))
theorem lT {s0:St} (b:List UInt8) (hb:b.length≤1048576):Ev pv 104 [.str b] s0 (.tup [.int .i64 (iS b).1,.bool (iS b).2]) s0:=by
 suffices hg:∃d,Ev pv 104 [.str b] s0 d s0∧d=.tup [.int .i64 (iS b).1,.bool (iS b).2] by
  obtain⟨d,h1,rfl⟩:=hg;exact h1
 unfold iS;refine Ev.JW rfl OD rfl rfl rfl ?_;refine zE ?_;obtain⟨aU,hF,hH⟩:=ri s0;generalize ag .ro s0=S at*;refine zQ 9 ?_;refine ae.jY rfl rfl rfl (by dsimp only[Fr.put,u1,u2]<;>rfl) ?_;refine zQ 2 ?_;refine zP (fun h0=>?_) fun h0=>?_
 ·rw[if_pos (by omega)];refine zQ 5 ?_;refine ai.ret ⟨rx,_,_,rfl,rl aU hH (rfl),?_⟩
  rfl
 ·rw[if_neg (by omega)];refine zQ 9 ?_;refine ae.jY rfl rfl rfl (by dsimp only[Fr.put,u1,u2]<;>rfl) ?_;refine zQ 3 ?_;refine ai.loop (fun mm fr st=>∃(i:Nat) (n:Int),fr.clean=⟨12,[.str b,fc fr 1,fc fr 2,fc fr 3,.int .i64 n,fc fr 5,fc fr 6,fc fr 7,fc fr 8,fc fr 9,.int .i64 (b.length:Nat),.int .i64 (i:Nat)],[]⟩∧Has s0.bs.length S st []∧(i+mm=b.length)∧(CT (b.drop i) n=CT b 0)) (b.length) ?_ ?_
  ·exact⟨0,0,rfl,hH,by omega,rfl⟩
  rintro mm fr st ⟨i,n,hfr,hH,hi,hn⟩;rw[hfr];clear hfr;generalize fc fr=ee;clear fr;refine zQ 5 ?_;refine zP (fun h1=>?_) fun h1=>?_
  ·refine zQ 1 ?_
   obtain⟨c,hc⟩:∃c,b[i]?=some c:=⟨b[i]'(by omega),List.getElem?_eq_getElem _⟩
   have yU:b.drop i=c::b.drop (i+1):=by
    have:=List.drop_eq_getElem_cons (l:=b) (i:=i) (by omega);rw[this];congr 1;rw[List.getElem?_eq_getElem (by omega)] at hc;exact Option.some.inj hc
   rw[yU] at hn;refine zQ 9 ?_;refine ae.Ap (z:=aW .i64 (10*n)) rfl (ev rfl) (ev rfl) rfl (aa rfl _) ?_;refine zQ 2 ?_;refine ae.PI rfl (ev rfl) (ev rfl) rfl (by assumption) (aa rfl _) ?_;refine ae.go (d:=.int .u8 (aW .u8 ((c.toNat:Nat)-48))) (st1:=_) rfl rfl rfl (aa rfl _) ?_;refine qg ?_;refine ae.eN (z:=aW .i64 (aW .i64 (10*n)+aW .i64 (aW .u8 ((c.toNat:Nat)-48)))) rfl (ev rfl) (ev rfl) rfl (aa rfl _) ?_;refine zQ 6 ?_;exact⟨mm-1,by omega,⟨i+1,_,rfl,hH,by omega,hn⟩⟩
  ·refine zQ 1 ?_;have wR:b.drop i=[]:=List.drop_eq_nil_of_le (by omega);rw[wR] at hn;have hn:n=CT b 0:=hn;rw[←hn];refine zQ 8 ?_;refine ai.ret ⟨rx,_,_,rfl,rl aU hH (rfl),?_⟩
   rfl
def eO {α:Type} (R:PR α) (a_:List Int) (s':eA):Prop:=∃e w,R=.er e w∧e≠0∧s'.e=e∧s'.w=a_.getD w 0
theorem eO.ne {α:Type} {R:PR α} {a_:List Int} {s':eA} (h:eO R a_ s'):s'.e≠0:=by
 obtain⟨e,w,_,h1,h2,_⟩:=h;rw[h2];exact h1
theorem eO.map {α β:Type} {R:PR α} {R':PR β} {a_:List Int} {s':eA} (h:eO R a_ s') (hR:∀e w,R=.er e w→R'=.er e w):eO R' a_ s':=by
 obtain⟨e,w,h0,h1,h2,h3⟩:=h;exact⟨e,w,hR e w h0,h1,h2,h3⟩
theorem g_ {α:Type} {R:PR α} {a_:List Int} {s:eA} {i:Nat} {e:Int} (he:s.e=0) (h:e≠0) (hR:R=.er e i):eO R a_ (jJ a_ s i e)∧(jJ a_ s i e).i=s.i∧(jJ a_ s i e).o=s.o∧(jJ a_ s i e).g=s.g:=by
 unfold jJ;rw[if_pos he];exact⟨⟨e,i,hR,h,rfl,rfl⟩,rfl,rfl,rfl⟩
def gz (gs:List (Nat×Nat)) (i:Nat):List Int:=(gs.map fun g=>((g.1:Nat):Int)).drop i
theorem s_ {N k:Nat} {S s0:St} {H:List aZ} {gs:List (Nat×Nat)} {bB:D} {s:eA} (tU:gs.length≤120) (hi:s.i≤gs.length) (hne:gs≠[]) (hH:Has N S s0 (.box k (.mem 0 false (aP gs bB s))::H)):
  ∃d ah,Ev pv 102 [.ptr k 0 0] s0 d ah∧d=.tup [.str (digS (gz gs s.i) []).1,.bool (decide (0<(digS (gz gs s.i) []).2))]∧(digS (gz gs s.i) []).1.length≤120∧s.i+(digS (gz gs s.i) []).2≤gs.length∧Has N S ah (.box k (.mem 0 false (aP gs bB {s with i:=s.i+(digS (gz gs s.i) []).2}))::H):=by
 have hb:=hH.at aG;have hw:=eL (cs:=[.int .i64 0]) hH (hH.ge aG).1 (.inr rfl);have hl:=zc (gz gs s.i) [];unfold gz at*;obtain⟨h1,h2⟩:=hl;simp only[List.length_drop,List.length_map,List.length_nil] at h1 h2;refine⟨_,_,Ev.kU rfl ?_,rfl,by omega,by omega,hH.zY (au:=0) aG⟩
 have hd:decide ((gs.map fun g=>((g.1:Nat):Int))≠[]∧(0:Int)≤(s.i:Nat)∧((s.i:Nat):Int).toNat≤(gs.map fun g=>((g.1:Nat):Int)).length∧(gs.map fun g=>((g.1:Nat):Int)).length<1099511627776)=true:=by
  rw[decide_eq_true];refine⟨by simpa using hne,by omega,by simp;omega,by simp;omega⟩
 show D7 [.ptr k 0 0] s0=_;simp only[D7,St.mem_of hb];show(match km ((gs.map bq).map (kY 2)) with|some rs=>Jp s0 k 0 0 rs (s.i:Nat)|none=>none)=_;rw[pF];simp only[Jp,hd];have hwr:=jK (cs:=[.int .i64 ((s.i+(digS ((gs.map fun g=>((g.1:Nat):Int)).drop s.i) []).2:Nat))]) (off:=2) hb (by show 2+1≤7;omega) hw;simp only[Int.toNat_natCast,Nat.zero_add];rw[hwr]
 rfl
noncomputable def mI (gs:List (Nat×Nat)) (f:Nat):PR (List Rg×Bool):=
 match gs[f+1]? with
 |none=>.er 4 f
 |some g=>
  if Ei gs (f+1)=true then .er 4 (f+1)
  else if((g.1:Nat):Int)=110 then .ok (cm [(10,10)],true) (f+2)
  else if((g.1:Nat):Int)=116 then .ok (cm [(9,9)],true) (f+2)
  else if((g.1:Nat):Int)=114 then .ok (cm [(13,13)],true) (f+2)
  else if((g.1:Nat):Int)=100 then .ok (cm [(48,57)],false) (f+2)
  else if((g.1:Nat):Int)=115 then .ok (cm [(9,10),(13,13),(32,32)],false) (f+2)
  else if((g.1:Nat):Int)=119 then .ok (cm [(48,57),(65,90),(95,95),(97,122)],false) (f+2)
  else if(33≤((g.1:Nat):Int)∧((g.1:Nat):Int)≤47∨58≤((g.1:Nat):Int)∧((g.1:Nat):Int)≤64∨91≤((g.1:Nat):Int)∧((g.1:Nat):Int)≤96∨123≤((g.1:Nat):Int)∧((g.1:Nat):Int)≤126) then .ok (cm [(((g.1:Nat):Int),((g.1:Nat):Int))],true) (f+2)
  else .er 4 f
def Ki (gs:List (Nat×Nat)) (a_:List Int) (R:PR (List Rg×Bool)) (s s':eA) (d1:D) (b:Bool):Prop:=
 s'.o=s.o∧s'.g=s.g∧s.i≤s'.i∧s'.i≤gs.length∧(eO R a_ s'∧d1=.nul∨s'.e=0∧s.i<s'.i∧∃a,R=.ok (a,b) s'.i∧d1=aQ a∧a.length≤8∧a≠[])
theorem xB {N k:Nat} {S s0:St} {H:List aZ} {gs:List (Nat×Nat)} {bB:D} {a_:List Int} {s:eA} (cn:lS gs a_) (he:s.e=0) (hi:s.i<gs.length) (hH:Has N S s0 (.box k (.mem 0 false (aP gs bB s))::.aB bB 1 (a_.map ay)::H)):
  ∃d ah,Ev pv 99 [.ptr k 0 0] s0 d ah∧∃(d1:D) (b:Bool) (s':eA),d=.tup [d1,.bool b]∧Ki gs a_ (mI gs s.i) s s' d1 b∧Has N S ah (.box k (.mem 0 false (aP gs bB s'))::.aB bB 1 (a_.map ay)::H):=by
 have tU:=cn.gl;have lg:=cn.pl;refine Ev.jN rfl R2 rfl rfl rfl ?_;refine zE ?_;have bS:=hH;have hH:=hH.bG;have bO:(ag .rw s0).bs=s0.bs:=rfl;generalize ag .rw s0=S2 at*;have zy:Arg N S2 2 (iq gs) (gs.map bq):=Arg.pure (fun st=>eT st gs);refine zQ 22 ?_;refine qT hH aG fun st hH=>?_;dsimp only[u2,u1,u3,u4,setMany,u5,u6,D.cells,Nat.reduceAdd,aP,bq,ay,av] at hH;refine zQ 12 ?_;refine qn ?_;simp only[List.length_map];refine zQ 2 ?_;refine zP (fun h0=>?_) fun h0=>?_
 ·have hv:mI gs s.i=.er 4 s.i:=by
   unfold mI;rw[List.getElem?_eq_none (by omega)]
  refine zQ 4 ?_;obtain⟨_,st,aC,rfl,hH⟩:=eI (s:={s with i:=s.i+1}) s.i 4 (by omega) hH;refine qv aC ?_;refine zQ 6 ?_;obtain⟨h1,h2,h3,h4⟩:=g_ (a_:=a_) (s:={s with i:=s.i+1}) (i:=s.i) (e:=4) he (by decide) hv;refine ai.ret ⟨rx,_,_,_,rfl,ak (rfl),?_⟩;exact⟨_,_,_,rfl,⟨h3,h4,by rw[h2];simp,by rw[h2];exact hi,.inl ⟨h1,rfl⟩⟩,bS.aq bO hH⟩
 ·obtain⟨g,hg⟩:∃g,gs[s.i+1]?=some g:=⟨gs[s.i+1]'(by omega),List.getElem?_eq_getElem _⟩
  have gr:(gs.map bq)[s.i+1]?=some (bq g):=by rw[List.getElem?_map,hg];rfl
  have hlt:=bX hg;have hv:mI gs s.i=mI gs s.i:=rfl
  conv at hv=>rhs;unfold mI;simp only[hg]
  refine zQ 9 ?_;obtain⟨_,st,aC,rfl,hH⟩:=Bh (s:={s with i:=s.i+1}) (s.i+1) hlt hH;refine qv aC ?_;refine zQ 1 ?_;dsimp only[aP] at hH;refine qc (fun hb=>?_) (fun hb=>?_)<;>try simp only[cs] at hb
  ·rw[if_pos hb] at hv;refine zQ 7 ?_;obtain⟨_,st,aC,rfl,hH⟩:=eI (s:={s with i:=s.i+1}) (s.i+1) 4 (by omega) hH;refine qv aC ?_;refine zQ 6 ?_;obtain⟨h1,h2,h3,h4⟩:=g_ (a_:=a_) (s:={s with i:=s.i+1}) (i:=s.i+1) (e:=4) he (by decide) hv;refine ai.ret ⟨rx,_,_,_,rfl,ak (rfl),?_⟩;exact⟨_,_,_,rfl,⟨h3,h4,by rw[h2];simp,by rw[h2];exact hi,.inl ⟨h1,rfl⟩⟩,bS.aq bO hH⟩
  ·rw[if_neg (by rw[hb];simp)] at hv;refine zQ 11 ?_;refine qr fun U7 QP=>?_;refine qf (fo:=0) fun U6 QO=>?_;refine zQ 12 ?_;refine qT hH aG fun st hH=>?_;dsimp only[u2,u1,u3,u4,setMany,u5,u6,D.cells,Nat.reduceAdd,aP,bq,ay,av] at hH;refine zQ 6 ?_
   have iP:∀(a:List Rg) (b:Bool),mI gs s.i=.ok (a,b) (s.i+2)→a.length≤8→a≠[]→Ki gs a_ (mI gs s.i) s {s with i:=s.i+1+1} (aQ a) b:=fun a b h0 h1 h2=>⟨rfl,rfl,by show s.i≤s.i+1+1;omega,by show s.i+1+1≤_;omega,.inr ⟨he,by show s.i<s.i+1+1;omega,a,h0,rfl,h1,h2⟩⟩
   have kH:∀(r:Int),0≤r→r<55296→(cm [(r,r)]).length≤8∧cm [(r,r)]≠[]:=by
    intro r h1 h2;obtain⟨_,h3,h4⟩:=nT (s0:=s0) (x:=aQ [(r,r)]) (l:=[(r,r)]) (cE _ _) (by simp);exact⟨by simp at h3;omega,yv h1 h2 h4⟩
   refine zQ 6 ?_;refine zI (fun q1=>?_) fun q1=>?_
   ·rw[if_pos q1] at hv;refine zQ 2 ?_;refine qv (jZ 10) ?_;refine zQ 3 ?_;refine ai.ret ⟨rx,_,_,_,rfl,ak (rfl),?_⟩;exact⟨_,_,_,rfl,iP _ _ hv (kH 10 (by decide) (by decide)).1 (kH 10 (by decide) (by decide)).2,bS.aq bO hH⟩
   ·rw[if_neg q1] at hv;refine zQ 5 ?_;refine zI (fun q2=>?_) fun q2=>?_
    ·rw[if_pos q2] at hv;refine zQ 2 ?_;refine qv (jZ 9) ?_;refine zQ 3 ?_;refine ai.ret ⟨rx,_,_,_,rfl,ak (rfl),?_⟩;exact⟨_,_,_,rfl,iP _ _ hv (kH 9 (by decide) (by decide)).1 (kH 9 (by decide) (by decide)).2,bS.aq bO hH⟩
    ·rw[if_neg q2] at hv;refine zQ 5 ?_;refine zI (fun q3=>?_) fun q3=>?_
     ·rw[if_pos q3] at hv;refine zQ 2 ?_;refine qv (jZ 13) ?_;refine zQ 3 ?_;refine ai.ret ⟨rx,_,_,_,rfl,ak (rfl),?_⟩;exact⟨_,_,_,rfl,iP _ _ hv (kH 13 (by decide) (by decide)).1 (kH 13 (by decide) (by decide)).2,bS.aq bO hH⟩
     ·rw[if_neg q3] at hv;refine zQ 5 ?_;refine zI (fun q4=>?_) fun q4=>?_
      ·rw[if_pos q4] at hv;refine zQ 2 ?_;refine ae.iC (qs:=[(0,_),(1,_)]) rfl rfl rfl rfl ⟨rfl,(ev rfl),(by rfl),rfl,(ev rfl),(by rfl),trivial⟩ (by intro q hq;simp only[List.mem_cons,List.not_mem_nil,or_false] at hq;rcases hq with rfl|rfl<;>exact⟨rfl,by exact Nat.le_of_ble_eq_true rfl⟩) (by show List.foldl _ [_,_] _=_;dsimp only[List.foldl_cons,List.foldl_nil,u2,u1]<;>rfl) (aa rfl _) ?_;refine qh (s:=2) (vs:=[_]) hH fun k73 st WD hH=>?_;obtain⟨aC,hl,Eu⟩:=nT (l:=[(48,57)]) (hH.rows aG) (by simp);refine qv aC ?_;refine zQ 3 ?_;refine ai.ret ⟨rx,_,_,_,rfl,ak (rfl),?_⟩;exact⟨_,_,_,rfl,iP _ _ hv (by simp at hl;omega) (wv (r:=48) (by decide) (by decide) ⟨_,List.mem_cons_self ..,by decide,by decide⟩ Eu),bS.aq bO (hH.drop 1)⟩
      ·rw[if_neg q4] at hv;refine zQ 5 ?_;refine zI (fun q5=>?_) fun q5=>?_
       ·rw[if_pos q5] at hv;refine zQ 2 ?_;refine ae.iC (qs:=[(0,_),(1,_)]) rfl rfl rfl rfl ⟨rfl,(ev rfl),(by rfl),rfl,(ev rfl),(by rfl),trivial⟩ (by intro q hq;simp only[List.mem_cons,List.not_mem_nil,or_false] at hq;rcases hq with rfl|rfl<;>exact⟨rfl,by exact Nat.le_of_ble_eq_true rfl⟩) (by show List.foldl _ [_,_] _=_;dsimp only[List.foldl_cons,List.foldl_nil,u2,u1]<;>rfl) (aa rfl _) ?_;refine ae.iC (qs:=[(0,_),(1,_)]) rfl rfl rfl rfl ⟨rfl,(ev rfl),(by rfl),rfl,(ev rfl),(by rfl),trivial⟩ (by intro q hq;simp only[List.mem_cons,List.not_mem_nil,or_false] at hq;rcases hq with rfl|rfl<;>exact⟨rfl,by exact Nat.le_of_ble_eq_true rfl⟩) (by show List.foldl _ [_,_] _=_;dsimp only[List.foldl_cons,List.foldl_nil,u2,u1]<;>rfl) (aa rfl _) ?_;refine ae.iC (qs:=[(0,_),(1,_)]) rfl rfl rfl rfl ⟨rfl,(ev rfl),(by rfl),rfl,(ev rfl),(by rfl),trivial⟩ (by intro q hq;simp only[List.mem_cons,List.not_mem_nil,or_false] at hq;rcases hq with rfl|rfl<;>exact⟨rfl,by exact Nat.le_of_ble_eq_true rfl⟩) (by show List.foldl _ [_,_] _=_;dsimp only[List.foldl_cons,List.foldl_nil,u2,u1]<;>rfl) (aa rfl _) ?_;refine qh (s:=2) (vs:=[_,_,_]) hH fun k80 st WB hH=>?_;obtain⟨aC,hl,Eu⟩:=nT (l:=[(9,10),(13,13),(32,32)]) (hH.rows aG) (by simp);refine qv aC ?_;refine zQ 3 ?_;refine ai.ret ⟨rx,_,_,_,rfl,ak (rfl),?_⟩;exact⟨_,_,_,rfl,iP _ _ hv (by simp at hl;omega) (wv (r:=9) (by decide) (by decide) ⟨_,List.mem_cons_self ..,by decide,by decide⟩ Eu),bS.aq bO (hH.drop 1)⟩
       ·rw[if_neg q5] at hv;refine zQ 5 ?_;refine zI (fun q6=>?_) fun q6=>?_
        ·rw[if_pos q6] at hv;refine zQ 2 ?_;refine ae.iC (qs:=[(0,_),(1,_)]) rfl rfl rfl rfl ⟨rfl,(ev rfl),(by rfl),rfl,(ev rfl),(by rfl),trivial⟩ (by intro q hq;simp only[List.mem_cons,List.not_mem_nil,or_false] at hq;rcases hq with rfl|rfl<;>exact⟨rfl,by exact Nat.le_of_ble_eq_true rfl⟩) (by show List.foldl _ [_,_] _=_;dsimp only[List.foldl_cons,List.foldl_nil,u2,u1]<;>rfl) (aa rfl _) ?_;refine ae.iC (qs:=[(0,_),(1,_)]) rfl rfl rfl rfl ⟨rfl,(ev rfl),(by rfl),rfl,(ev rfl),(by rfl),trivial⟩ (by intro q hq;simp only[List.mem_cons,List.not_mem_nil,or_false] at hq;rcases hq with rfl|rfl<;>exact⟨rfl,by exact Nat.le_of_ble_eq_true rfl⟩) (by show List.foldl _ [_,_] _=_;dsimp only[List.foldl_cons,List.foldl_nil,u2,u1]<;>rfl) (aa rfl _) ?_;refine ae.iC (qs:=[(0,_),(1,_)]) rfl rfl rfl rfl ⟨rfl,(ev rfl),(by rfl),rfl,(ev rfl),(by rfl),trivial⟩ (by intro q hq;simp only[List.mem_cons,List.not_mem_nil,or_false] at hq;rcases hq with rfl|rfl<;>exact⟨rfl,by exact Nat.le_of_ble_eq_true rfl⟩) (by show List.foldl _ [_,_] _=_;dsimp only[List.foldl_cons,List.foldl_nil,u2,u1]<;>rfl) (aa rfl _) ?_;refine ae.iC (qs:=[(0,_),(1,_)]) rfl rfl rfl rfl ⟨rfl,(ev rfl),(by rfl),rfl,(ev rfl),(by rfl),trivial⟩ (by intro q hq;simp only[List.mem_cons,List.not_mem_nil,or_false] at hq;rcases hq with rfl|rfl<;>exact⟨rfl,by exact Nat.le_of_ble_eq_true rfl⟩) (by show List.foldl _ [_,_] _=_;dsimp only[List.foldl_cons,List.foldl_nil,u2,u1]<;>rfl) (aa rfl _) ?_;refine qh (s:=2) (vs:=[_,_,_,_]) hH fun k88 st NX hH=>?_;obtain⟨aC,hl,Eu⟩:=nT (l:=[(48,57),(65,90),(95,95),(97,122)]) (hH.rows aG) (by simp);refine qv aC ?_;refine zQ 3 ?_;refine ai.ret ⟨rx,_,_,_,rfl,ak (rfl),?_⟩;exact⟨_,_,_,rfl,iP _ _ hv (by simp at hl;omega) (wv (r:=48) (by decide) (by decide) ⟨_,List.mem_cons_self ..,by decide,by decide⟩ Eu),bS.aq bO (hH.drop 1)⟩
        ·rw[if_neg q6] at hv;refine zQ 5 ?_;refine qv (IB _) ?_;refine zQ 2 ?_;refine ai.cond (by rfl) (fun q7=>?_) (fun q7=>?_)<;>try simp only[decide_eq_true_eq,decide_eq_false_iff_not,Bool.not_eq_true',Bool.not_eq_false'] at q7
         ·rw[if_neg q7] at hv;refine zQ 4 ?_;obtain⟨_,st,aC,rfl,hH⟩:=eI (s:={s with i:=s.i+1+1}) s.i 4 (by omega) hH;refine qv aC ?_;refine zQ 6 ?_;obtain⟨h1,h2,h3,h4⟩:=g_ (a_:=a_) (s:={s with i:=s.i+1+1}) (i:=s.i) (e:=4) he (by decide) hv;refine ai.ret ⟨rx,_,_,_,rfl,ak (rfl),?_⟩;exact⟨_,_,_,rfl,⟨h3,h4,by rw[h2];show s.i≤s.i+1+1;omega,by rw[h2];show s.i+1+1≤_;omega,.inl ⟨h1,rfl⟩⟩,bS.aq bO hH⟩
         ·rw[if_pos q7] at hv;refine zQ 4 ?_;refine qv (jZ _) ?_;refine zQ 3 ?_;have hm:=kH ((g.1:Nat):Int) (by omega) (by omega);refine ai.ret ⟨rx,_,_,_,rfl,ak (rfl),?_⟩;exact⟨_,_,_,rfl,iP _ _ hv hm.1 hm.2,bS.aq bO hH⟩
def AH (fr:Go.V.Fr) (k:Nat):Go.V.D:=Go.V.nth .bf fr.loc k
noncomputable def pJ (gs:List (Nat×Nat)) (i:Nat):PR (Option (List Rg×Bool)):=
 match gs[i]? with
 |none=>.er 4 i
 |some g=>
  if Ei gs i=true then .er 4 i
  else if((g.1:Nat):Int)=92 then
   match mI gs i with
   | .ok (a,b) j=>.ok (some (a,b)) j
   | .er e w=>.er e w
  else if((g.1:Nat):Int)=91∨((g.1:Nat):Int)=93∨((g.1:Nat):Int)=45 then .ok none i
  else .ok (some ([(((g.1:Nat):Int),((g.1:Nat):Int))],true)) (i+1)
def OX (gs:List (Nat×Nat)) (a_:List Int) (R:PR (Option (List Rg×Bool))) (s s':eA) (d1:D) (b:Bool):Prop:=
 s'.o=s.o∧s'.g=s.g∧s.i≤s'.i∧s'.i≤gs.length∧(eO R a_ s'∧d1=.nul∨(s'=s∧R=.ok none s.i∧d1=.nul∧b=false)∨(s'.e=0∧s.i<s'.i∧∃a,R=.ok (some (a,b)) s'.i∧d1=aQ a∧a.length≤8∧a≠[]))
theorem yc {N k:Nat} {S s0:St} {H:List aZ} {gs:List (Nat×Nat)} {bB:D} {a_:List Int} {s:eA} (cn:lS gs a_) (he:s.e=0) (hi:s.i<gs.length) (hH:Has N S s0 (.box k (.mem 0 false (aP gs bB s))::.aB bB 1 (a_.map ay)::H)):
  ∃d ah,Ev pv 118 [.ptr k 0 0] s0 d ah∧∃(d1:D) (b:Bool) (s':eA),d=.tup [d1,.bool b]∧OX gs a_ (pJ gs s.i) s s' d1 b∧Has N S ah (.box k (.mem 0 false (aP gs bB s'))::.aB bB 1 (a_.map ay)::H):=by
 have tU:=cn.gl;have lg:=cn.pl;refine Ev.jN rfl Ow rfl rfl rfl ?_;refine zE ?_;have bS:=hH;have hH:=hH.bG;have bO:(ag .rw s0).bs=s0.bs:=rfl;generalize ag .rw s0=S2 at*;have zy:Arg N S2 2 (iq gs) (gs.map bq):=Arg.pure (fun st=>eT st gs)
 obtain⟨g,hg⟩:∃g,gs[s.i]?=some g:=⟨gs[s.i]'hi,List.getElem?_eq_getElem _⟩
 have gr:(gs.map bq)[s.i]?=some (bq g):=by rw[List.getElem?_map,hg];rfl
 have hv:pJ gs s.i=pJ gs s.i:=rfl
 conv at hv=>rhs;unfold pJ;simp only[hg]
 refine zQ 13 ?_;obtain⟨_,st,aC,rfl,hH⟩:=Bh (s:=s) s.i hi hH;refine qv aC ?_;refine zQ 1 ?_;refine qc (fun hb=>?_) (fun hb=>?_)<;>try simp only[cs] at hb
 ·rw[if_pos hb] at hv;refine zQ 7 ?_;obtain⟨_,st,aC,rfl,hH⟩:=eI (s:=s) s.i 4 (by omega) hH;refine qv aC ?_;refine zQ 6 ?_;obtain⟨h1,h2,h3,h4⟩:=g_ (a_:=a_) (s:=s) (i:=s.i) (e:=4) he (by decide) hv;refine ai.ret ⟨rx,_,_,_,rfl,ak (rfl),?_⟩;exact⟨_,_,_,rfl,⟨h3,h4,by rw[h2];exact Nat.le_refl _,by rw[h2];omega,.inl ⟨h1,rfl⟩⟩,bS.aq bO hH⟩
 ·rw[if_neg (by rw[hb];simp)] at hv;refine zQ 11 ?_;refine qr fun PX K_=>?_;refine qf (fo:=0) fun TS Nv=>?_;refine zQ 13 ?_;refine zI (fun q1=>?_) fun q1=>?_
  ·rw[if_pos q1] at hv;refine zQ 3 ?_;obtain⟨_,st,aC,d1,b,s',rfl,⟨p1,p2,p3,p4,p5⟩,hH⟩:=xB (s:=s) cn he hi hH;refine qv aC ?_;refine zQ 5 ?_
   rcases p5 with⟨p5,rfl⟩|⟨p5,p6,a,p7,rfl,p8,p9⟩
   ·refine ai.ret ⟨rx,_,_,_,rfl,ak (rfl),?_⟩;exact⟨_,_,_,rfl,⟨p1,p2,p3,p4,.inl ⟨p5.map fun e w h=>by rw[hv,h],rfl⟩⟩,bS.aq bO hH⟩
   ·refine ai.ret ⟨rx,_,_,_,rfl,ak (rfl),?_⟩;exact⟨_,_,_,rfl,⟨p1,p2,p3,p4,.inr (.inr ⟨p5,p6,a,by rw[hv,p7],rfl,p8,p9⟩)⟩,bS.aq bO hH⟩
  ·rw[if_neg q1] at hv;refine zQ 6 ?_
   by_cases Ic:((g.1:Nat):Int)=91
   ·rw[if_pos (.inl Ic)] at hv;refine qD rfl (by simp[Ic]) ?_;refine zQ 1 ?_;refine qD rfl (by simp[Ic]) ?_;refine zQ 5 ?_;refine ai.ret ⟨rx,_,_,_,rfl,ak (rfl),?_⟩;exact⟨_,_,s,rfl,⟨rfl,rfl,Nat.le_refl _,by omega,.inr (.inl ⟨rfl,hv,rfl,rfl⟩)⟩,bS.aq bO hH⟩
   refine qE rfl (by simp[Ic]) ?_;refine zQ 5 ?_
   by_cases ML:((g.1:Nat):Int)=93
   ·rw[if_pos (.inr (.inl ML))] at hv;refine qD rfl (by simp[ML]) ?_;refine zQ 1 ?_;refine qD rfl (by simp[ML]) ?_;refine zQ 5 ?_;refine ai.ret ⟨rx,_,_,_,rfl,ak (rfl),?_⟩;exact⟨_,_,s,rfl,⟨rfl,rfl,Nat.le_refl _,by omega,.inr (.inl ⟨rfl,hv,rfl,rfl⟩)⟩,bS.aq bO hH⟩
   refine qE rfl (by simp[ML]) ?_;refine zQ 4 ?_
   by_cases O2:((g.1:Nat):Int)=45
   ·rw[if_pos (.inr (.inr O2))] at hv;refine qD rfl (by simp[O2]) ?_;refine zQ 5 ?_;refine ai.ret ⟨rx,_,_,_,rfl,ak (rfl),?_⟩;exact⟨_,_,s,rfl,⟨rfl,rfl,Nat.le_refl _,by omega,.inr (.inl ⟨rfl,hv,rfl,rfl⟩)⟩,bS.aq bO hH⟩
   refine qE rfl (by simp[O2]) ?_;rw[if_neg (by rintro(h|h|h);exact Ic h;exact ML h;exact O2 h)] at hv;refine zQ 9 ?_;refine qT hH aG fun st hH=>?_;dsimp only[u2,u1,u3,u4,setMany,u5,u6,D.cells,Nat.reduceAdd,aP,bq,ay,av] at hH;refine zQ 5 ?_;refine ae.iC (qs:=[(0,_),(1,_)]) rfl rfl rfl rfl ⟨rfl,(ev rfl),(by rfl),rfl,(ev rfl),(by rfl),trivial⟩ (by intro q hq;simp only[List.mem_cons,List.not_mem_nil,or_false] at hq;rcases hq with rfl|rfl<;>exact⟨rfl,by exact Nat.le_of_ble_eq_true rfl⟩) (by show List.foldl _ [_,_] _=_;dsimp only[List.foldl_cons,List.foldl_nil,u2,u1]<;>rfl) (aa rfl _) ?_;refine qh (s:=2) (vs:=[_]) hH fun k39 st WM hH=>?_;refine zQ 3 ?_;have hH:Has N S2 st (.aB (.win k39 0 0 1 2) 2 (([((g.1:Nat),(g.1:Nat))]:List Rg).map av)::.box k (.mem 0 false (aP gs bB {s with i:=s.i+1}))::.aB bB 1 (a_.map ay)::H):=hH;have hfz:=pX hH aG (L:=s0.bs.length) (n:=15) (fun k hk=>by simp only[D.ref] at hk;rw[←bO];omega) (by decide)
   have RA:aJ st s0.bs.length true 16 (tI [.win k39 0 0 1 2,.bool true])=some (.tup [aQ [(((g.1:Nat):Int),((g.1:Nat):Int))],.bool true]):=by
    show(ec (aJ st s0.bs.length true 15) [.win k39 0 0 1 2,.bool true]).map D.tup=_;simp only[ec,D1,hfz];rfl
   refine ai.ret ⟨rx,_,_,_,rfl,ak RA,⟨_,_,{s with i:=s.i+1},rfl,⟨rfl,rfl,?_,?_,.inr (.inr ⟨he,?_,_,hv,rfl,by simp,by simp⟩)⟩,bS.aq bO (hH.drop 1)⟩⟩
   ·show s.i≤s.i+1;omega
   ·show s.i+1≤_;omega
   ·show s.i<s.i+1;omega
def yA:List Rg→Int
 |[]=>0
 |q::_=>q.1
noncomputable def kQ (gs:List (Nat×Nat)) (i:Nat):PR (List Rg):=
 match pJ gs i with
 | .er e w=>.er e w
 | .ok none _=>.er 4 i
 | .ok (some (a,one)) j=>
  if eR gs j 45=true then
   if j+1<gs.length then
    match pJ gs (j+1) with
    | .er e w=>.er e w
    | .ok none _=>.er 4 i
    | .ok (some (b,two)) l=>if one=true∧two=true∧yA a≤yA b then .ok [(yA a,yA b)] l else .er 4 i
   else .er 4 i
  else .ok a j
def Kk (gs:List (Nat×Nat)) (a_:List Int) (R:PR (List Rg)) (s s':eA) (d:D):Prop:=
 s'.o=s.o∧s'.g=s.g∧s.i≤s'.i∧s'.i≤gs.length∧∃a:List Rg,d=aQ a∧a.length≤8∧(eO R a_ s'∨s'.e=0∧s.i<s'.i∧R=.ok a s'.i)
theorem F6 {N k:Nat} {S s0:St} {H:List aZ} {gs:List (Nat×Nat)} {bB:D} {a_:List Int} {s:eA} (cn:lS gs a_) (he:s.e=0) (hi:s.i<gs.length) (hH:Has N S s0 (.box k (.mem 0 false (aP gs bB s))::.aB bB 1 (a_.map ay)::H)):
  ∃d ah,Ev pv 110 [.ptr k 0 0] s0 d ah∧∃(s':eA),Kk gs a_ (kQ gs s.i) s s' d∧Has N S ah (.box k (.mem 0 false (aP gs bB s'))::.aB bB 1 (a_.map ay)::H):=by
 have tU:=cn.gl;have lg:=cn.pl;refine Ev.jN rfl Oz rfl rfl rfl ?_;refine zE ?_;have bS:=hH;have hH:=hH.bG;have bO:(ag .rw s0).bs=s0.bs:=rfl;generalize ag .rw s0=S2 at*;have zy:Arg N S2 2 (iq gs) (gs.map bq):=Arg.pure (fun st=>eT st gs)
 have hwr:∀(st:St) (s3:eA),s3.e=0→kQ gs s.i=.er 4 s.i→s3.o=s.o→s3.g=s.g→s.i≤s3.i→s3.i≤gs.length→Has N S2 st (.box k (.mem 0 false (aP gs bB s3))::.aB bB 1 (a_.map ay)::H)→∃d ah,Ev pv 43 [.ptr k 0 0,.int .i64 (s.i:Nat),.int .i64 4] st d ah∧d=.sl []∧∃s4:eA,s4.e≠0∧Kk gs a_ (kQ gs s.i) s s4 (.sl [])∧Has N S2 ah (.box k (.mem 0 false (aP gs bB s4))::.aB bB 1 (a_.map ay)::H):=by
  intro st s3 h1 hv h2 h3 h4 h5 hH;obtain⟨d,ah,aC,h6,hH⟩:=eI (s:=s3) s.i 4 (by omega) hH;obtain⟨w1,w2,w3,w4⟩:=g_ (a_:=a_) (s:=s3) (i:=s.i) (e:=4) h1 (by decide) hv;exact⟨d,ah,aC,h6,_,w1.ne,⟨w3.trans h2,w4.trans h3,by omega,by omega,[],rfl,by simp,.inl w1⟩,hH⟩
 have tE:kQ gs s.i=match pJ gs s.i with
  | .er e w=>.er e w
  | .ok none _=>.er 4 s.i
  | .ok (some (a,one)) j=>
   if eR gs j 45=true then
    if j+1<gs.length then
     match pJ gs (j+1) with
     | .er e w=>.er e w
     | .ok none _=>.er 4 s.i
     | .ok (some (b,two)) l=>if one=true∧two=true∧yA a≤yA b then .ok [(yA a,yA b)] l else .er 4 s.i
    else .er 4 s.i
   else .ok a j:=rfl
 refine zQ 15 ?_;obtain⟨_,st,aC,d1,b,s1,rfl,⟨p1,p2,p3,p4,p5⟩,hH⟩:=yc (s:=s) cn he hi hH;refine qv aC ?_;refine zQ 15 ?_
 rcases p5 with⟨p5,rfl⟩|⟨e1,e2,rfl,rfl⟩|⟨p6,p7,a,e2,rfl,p8,p9⟩
 ·have hne:=p5.ne;refine qD rfl (by simp[hne]) ?_;refine zQ 4 ?_;refine ai.ret ⟨rx,_,_,_,rfl,ak (rfl),?_⟩;exact⟨s1,⟨p1,p2,p3,p4,[],rfl,by simp,.inl (p5.map fun e w h=>by rw[tE,h])⟩,bS.aq bO hH⟩
 ·rw[e2] at tE;simp only at tE;have e3:s1.e=0:=by rw[e1];exact he
  refine qE rfl (by simp[e3]) ?_;refine zQ 5 ?_;refine ae.go (d:=.bool true) (st1:=_) rfl rfl rfl (aa rfl _) ?_;refine zQ 6 ?_;obtain⟨_,st,aC,rfl,s4,Wi,hX,hH⟩:=hwr _ s1 e3 tE p1 p2 p3 p4 hH;refine qv aC ?_;refine zQ 5 ?_;refine ai.ret ⟨rx,_,_,_,rfl,ak (rfl),?_⟩;exact⟨s4,hX,bS.aq bO hH⟩
 ·rw[e2] at tE;simp only at tE;obtain⟨q,a',rfl⟩:∃q a',a=q::a':=List.exists_cons_of_ne_nil p9;refine qE rfl (by simp[p6]) ?_;refine zQ 5 ?_;refine ae.go (d:=.bool false) (st1:=_) rfl rfl rfl (aa rfl _) ?_;refine zQ 3 ?_;obtain⟨k1,k2,k3,k4,k5⟩:=iz (gs:=gs) (s:=s1) (r:=45);have k5:=k5 p4;refine zQ 4 ?_;obtain⟨_,st,aC,rfl,hH⟩:=et (s:=s1) (by omega) 45 hH;refine qv aC ?_;refine zQ 2 ?_;have K1:eR gs s1.i 45=true→(bV gs s1 45).i=s1.i+1:=fun h=>by unfold bV;rw[if_pos h]
  have oA:eR gs s1.i 45=false→(bV gs s1 45).i=s1.i:=fun h=>by unfold bV;rw[if_neg (by rw[h];simp)]
  generalize bV gs s1 45=s2 at*
  cases hb:eR gs s1.i 45 with
  |false=>
   have oA:=oA hb;rw[hb,if_neg (by simp),←oA] at tE;refine zQ 6 ?_;refine ai.ret ⟨rx,_,_,_,rfl,ak (rfl),?_⟩;exact⟨s2,⟨k1.trans p1,k2.trans p2,by omega,k5,q::a',rfl,p8,.inr ⟨k3.trans p6,by omega,tE⟩⟩,bS.aq bO hH⟩
  |true=>
   have K1:=K1 hb;rw[hb,if_pos rfl,←K1] at tE;refine zQ 21 ?_;refine qn ?_;simp only[List.length_map];refine zQ 2 ?_;refine ai.merge (fun fr st=>∃(d2:D) (two:Bool) (s3:eA) (tmp:List (Nat×D)),fr=⟨8,[.ptr k 0 0,AH fr 1,AH fr 2,.int .i64 (s.i:Nat),aQ (q::a'),.bool b,d2,.bool two],tmp⟩∧Has N S2 st (.box k (.mem 0 false (aP gs bB s3))::.aB bB 1 (a_.map ay)::H)∧(s3.o=s.o)∧(s3.g=s.g)∧(s2.i≤s3.i)∧(s3.i≤gs.length)∧(eO (kQ gs s.i) a_ s3∨s3.e=0∧(two=false∧kQ gs s.i=.er 4 s.i∨∃a2:List Rg,d2=aQ a2∧a2≠[]∧kQ gs s.i=if b=true∧two=true∧yA (q::a')≤yA a2 then .ok [(yA (q::a'),yA a2)] s3.i else .er 4 s.i))) ?_ ?_
   ·refine zP (fun hlt=>?_) fun hlt=>?_
    ·have I6:s2.i<gs.length:=by omega
     rw[if_pos I6] at tE;refine zQ 2 ?_;obtain⟨_,st,aC,d2,two,s3,rfl,⟨r1,r2,r3,r4,r5⟩,hH⟩:=yc (s:=s2) cn (k3.trans p6) (by omega) hH;refine qv aC ?_;refine zQ 6 ?_
     rcases r5 with⟨r5,rfl⟩|⟨e4,e5,rfl,rfl⟩|⟨r6,r7,a2,e5,rfl,r8,r9⟩
     ·exact⟨.nul,two,s3,_,rfl,hH,r1.trans (k1.trans p1),r2.trans (k2.trans p2),r3,r4,.inl (r5.map fun e w h=>by rw[tE,h])⟩
     ·rw[e5] at tE;simp only at tE;exact⟨.nul,false,s3,_,rfl,hH,r1.trans (k1.trans p1),r2.trans (k2.trans p2),r3,r4,.inr ⟨by rw[e4];exact k3.trans p6,.inl ⟨rfl,tE⟩⟩⟩
     ·rw[e5] at tE;simp only at tE;exact⟨aQ a2,two,s3,_,rfl,hH,r1.trans (k1.trans p1),r2.trans (k2.trans p2),r3,r4,.inr ⟨r6,.inr ⟨a2,rfl,r9,tE⟩⟩⟩
    ·rw[if_neg (by omega)] at tE;refine zQ 1 ?_;exact⟨.nul,false,s2,_,rfl,hH,k1.trans p1,k2.trans p2,Nat.le_refl _,k5,.inr ⟨k3.trans p6,.inl ⟨rfl,tE⟩⟩⟩
   ·rintro fr st ⟨d2,two,s3,tmp,hfr,hH,h1,h2,h3,h4,h5⟩;rw[hfr];clear hfr;generalize AH fr=ee;clear fr
    rcases h5 with h5|⟨h5,h6⟩
    ·have hne:=h5.ne;have dQ:(s3.e==0)=false:=by simpa using hne
     refine zQ 39 ?_;refine qD rfl (by simp[hne]) ?_;refine zQ 4 ?_;refine ai.ret ⟨rx,_,_,_,rfl,ak (rfl),?_⟩;exact⟨s3,⟨h1,h2,by omega,h4,[],rfl,by simp,.inl h5⟩,bS.aq bO hH⟩
    ·have dQ:(s3.e==0)=true:=by simpa using h5
     cases b with
     |false=>
      have tD:kQ gs s.i=.er 4 s.i:=by
       rcases h6 with⟨_,h⟩|⟨a2,_,_,h⟩
       ·exact h
       ·rw[h,if_neg (by simp)]
      have dx:(!false)=true:=rfl;refine zQ 14 ?_;refine ae.cQ (aj rfl rfl rfl dQ) rfl dx (aa rfl _) ?_;refine zQ 17 ?_;obtain⟨_,st,aC,rfl,s4,w1,hX,hH⟩:=hwr _ s3 h5 tD h1 h2 (by omega) h4 hH;refine qv aC ?_;refine zQ 10 ?_;refine qD rfl (by simp[w1]) ?_;refine zQ 4 ?_;refine ai.ret ⟨rx,_,_,_,rfl,ak (rfl),?_⟩;exact⟨s4,hX,bS.aq bO hH⟩
     |true=>
      have dx:(!true)=false:=rfl
      cases two with
      |false=>
       have tD:kQ gs s.i=.er 4 s.i:=by
        rcases h6 with⟨_,h⟩|⟨a2,_,_,h⟩
        ·exact h
        ·rw[h,if_neg (by simp)]
       have fS:(!false)=true:=rfl;refine zQ 14 ?_;refine ae.cC (aj rfl rfl rfl dQ) rfl dx (aa rfl _) ?_;refine zQ 10 ?_;refine ae.cQ (aj rfl rfl rfl dQ) rfl fS (aa rfl _) ?_;refine zQ 6 ?_;obtain⟨_,st,aC,rfl,s4,w1,hX,hH⟩:=hwr _ s3 h5 tD h1 h2 (by omega) h4 hH;refine qv aC ?_;refine zQ 10 ?_;refine qD rfl (by simp[w1]) ?_;refine zQ 4 ?_;refine ai.ret ⟨rx,_,_,_,rfl,ak (rfl),?_⟩;exact⟨s4,hX,bS.aq bO hH⟩
      |true=>
       have fS:(!true)=false:=rfl
       obtain⟨a2,rfl,h7,tD⟩:∃a2:List Rg,d2=aQ a2∧a2≠[]∧kQ gs s.i=if true=true∧true=true∧yA (q::a')≤yA a2 then .ok [(yA (q::a'),yA a2)] s3.i else .er 4 s.i:=by
        rcases h6 with h6|h6
        ·cases h6.1
        ·exact h6
       obtain⟨q2,UF,rfl⟩:∃q a',a2=q::a':=List.exists_cons_of_ne_nil h7
       have tD:kQ gs s.i=if q.1≤q2.1 then .ok [(q.1,q2.1)] s3.i else .er 4 s.i:=by
        rw[tD];simp[yA]
       have VQ:=(gJ (q::a')).arg N S2;have VP:=(gJ (q2::UF)).arg N S2;have J5:((q::a').map av)[0]?=some (av q):=rfl;have gr:((q2::UF).map av)[0]?=some (av q2):=rfl;refine zQ 14 ?_;refine ae.cC (aj rfl rfl rfl dQ) rfl dx (aa rfl _) ?_;refine zQ 2 ?_;refine qr (fun X8 V8=>?_) (hg:=wi fS);refine qf (fo:=0) (fun U5 Nr=>?_) (hg:=wi fS);refine zQ 2 ?_;refine qr (fun TO Nq=>?_) (hg:=wi fS);refine qf (fo:=0) (fun U4 QN=>?_) (hg:=wi fS);refine zQ 2 ?_;refine ae.cC (aj rfl rfl rfl dQ) rfl fS (aa rfl _) ?_;refine zQ 2 ?_;refine zP (fun hgt=>?_) fun hgt=>?_
       ·rw[if_neg (by omega)] at tD;refine zQ 3 ?_;obtain⟨_,st,aC,rfl,s4,w1,hX,hH⟩:=hwr _ s3 h5 tD h1 h2 (by omega) h4 hH;refine qv aC ?_;refine zQ 10 ?_;refine qD rfl (by simp[w1]) ?_;refine zQ 4 ?_;refine ai.ret ⟨rx,_,_,_,rfl,ak (rfl),?_⟩;exact⟨s4,hX,bS.aq bO hH⟩
       ·rw[if_pos (by omega)] at tD;refine zQ 10 ?_;refine qE rfl (by simp[h5]) ?_;refine zQ 4 ?_;refine qr fun U2 QM=>?_;refine qf (fo:=0) fun X4 V4=>?_;refine zQ 2 ?_;refine qr fun X2 V0=>?_;refine qf (fo:=0) fun X1 VZ=>?_;refine qR ?_;refine ae.iC (qs:=[(0,_),(1,_)]) rfl rfl rfl rfl ⟨rfl,(ev rfl),(by rfl),rfl,(ev rfl),(by rfl),trivial⟩ (by intro q hq;simp only[List.mem_cons,List.not_mem_nil,or_false] at hq;rcases hq with rfl|rfl<;>exact⟨rfl,by exact Nat.le_of_ble_eq_true rfl⟩) (by show List.foldl _ [_,_] _=_;dsimp only[List.foldl_cons,List.foldl_nil,u2,u1]<;>rfl) (aa rfl _) ?_;refine qh (s:=2) (vs:=[_]) hH fun k87 st WA hH=>?_;dsimp only[u2,u1,u3,u4,setMany,u5,u6,D.cells,Nat.reduceAdd,aP,bq,ay,av] at hH;refine zQ 2 ?_;have hH:Has N S2 st (.aB (.win k87 0 0 1 2) 2 (([(q.1,q2.1)]:List Rg).map av)::.box k (.mem 0 false (aP gs bB s3))::.aB bB 1 (a_.map ay)::H):=hH;have hfz:=pX hH aG (L:=s0.bs.length) (n:=16) (fun k hk=>by simp only[D.ref] at hk;rw[←bO];omega) (by decide);refine ai.ret ⟨rx,_,_,_,rfl,ak hfz,⟨s3,⟨h1,h2,by omega,h4,[(q.1,q2.1)],rfl,by simp,.inr ⟨h5,by omega,tD⟩⟩,bS.aq bO (hH.drop 1)⟩⟩
def cB (fr:Go.V.Fr) (k:Nat):Go.V.D:=Go.V.nth .bf fr.loc k
noncomputable def lO (gs:List (Nat×Nat)) (f:Nat):Nat→Nat→List Rg→Bool→PR (List Rg)
 |0,_,_,_=>.er 4 f
 |n+1,i,l,nn=>
  if eR gs i 93=true then(if nn=true then .er 4 f else .ok l i)
  else if gs.length≤i then .er 4 f
  else match kQ gs i with
   | .er e w=>.er e w
   | .ok a j=>lO gs f n j (l++a) false
noncomputable def G9 (gs:List (Nat×Nat)) (i:Nat):PR (List Rg):=
 match lO gs i (gs.length+1) (if eR gs (i+1) 94=true then i+2 else i+1) [] true with
 | .er e w=>.er e w
 | .ok l k=>.ok (if eR gs (i+1) 94=true then qG (cm l) else cm l) (k+1)
def Bc (a:List Rg):bp:=jM 2 0 0 false 0 0 a
noncomputable def Bb (gs:List (Nat×Nat)) (i g:Nat):PR (List bp×Nat):=
 match G9 gs i with
 | .er e w=>.er e w
 | .ok a j=>.ok ([Bc a],g) j
def jU (gs:List (Nat×Nat)) (a_:List Int) (R:PR (List bp×Nat)) (s s':eA) (d:D) (c:Nat):Prop:=
 s'.o=s.o∧s'.g≤4∧s.i≤s'.i∧s'.i≤gs.length∧∃l:List bp,d=sx l∧(∀n∈l,nz n)∧l.length≤4*(s'.i-s.i)+1∧(eO R a_ s'∨s'.e=0∧R=.ok (l,s'.g) s'.i∧l.length+c≤4*(s'.i-s.i))
def ru (gs:List (Nat×Nat)) (a_:List Int) (R:PR (List bp×Nat)) (s s':eA) (d:D):Prop:=
 s'.o=s.o∧s'.g≤4∧s.i≤s'.i∧s'.i≤gs.length∧∃l:List bp,d=sx l∧(∀n∈l,nz n)∧l.length≤4*(s'.i-s.i)+1∧(eO R a_ s'∨s'.e=0∧R=.ok (l,s'.g) s'.i)
theorem fL {gs:List (Nat×Nat)} {a_:List Int} {R:PR (List bp×Nat)} {s s':eA} {c:Nat} (h1:s'.o=s.o) (h2:s'.g≤4) (h3:s.i≤s'.i) (h4:s'.i≤gs.length) (h5:eO R a_ s'):jU gs a_ R s s' (.sl []) c:=
 ⟨h1,h2,h3,h4,[],rfl,fun n hn=>(by cases hn),by simp,.inl h5⟩
theorem Ec {N k:Nat} {S s0:St} {H:List aZ} {gs:List (Nat×Nat)} {bB:D} {a_:List Int} {s:eA} (cn:lS gs a_) (he:s.e=0) (hi:s.i<gs.length) (hg:s.g≤4) (hH:Has N S s0 (.box k (.mem 0 false (aP gs bB s))::.aB bB 1 (a_.map ay)::H)):
  ∃d ah,Ev pv 98 [.ptr k 0 0] s0 d ah∧∃(s':eA),jU gs a_ (Bb gs s.i s.g) s s' d 2∧Has N S ah (.box k (.mem 0 false (aP gs bB s'))::.aB bB 1 (a_.map ay)::H):=by
 have tU:=cn.gl;have lg:=cn.pl;refine Ev.jN rfl R3 rfl rfl rfl ?_;refine zE ?_;have bS:=hH;have hH:=hH.bG;have bO:(ag .rw s0).bs=s0.bs:=rfl;generalize ag .rw s0=S2 at*;have zy:Arg N S2 2 (iq gs) (gs.map bq):=Arg.pure (fun st=>eT st gs);refine zQ 21 ?_;refine qT hH aG fun st hH=>?_;dsimp only[u2,u1,u3,u4,setMany,u5,u6,D.cells,Nat.reduceAdd,aP,bq,ay,av] at hH;refine zQ 1 ?_;have hH:Has N S2 st (.box k (.mem 0 false (aP gs bB {s with i:=s.i+1}))::.aB bB 1 (a_.map ay)::H):=hH;obtain⟨k1,k2,k3,k4,k5⟩:=iz (gs:=gs) (s:={s with i:=s.i+1}) (r:=94);have k5:=k5 (by show s.i+1≤_;omega);simp only at k1 k2 k3 k4
 have hst:(bV gs {s with i:=s.i+1} 94).i=if eR gs (s.i+1) 94=true then s.i+2 else s.i+1:=by
  unfold bV;simp only;split<;>rfl
 refine zQ 3 ?_;obtain⟨_,st,aC,rfl,hH⟩:=et (s:={s with i:=s.i+1}) (by omega) 94 hH;refine qv aC ?_;refine zQ 2 ?_
 have hcv:Bb gs s.i s.g=match lO gs s.i (gs.length+1) (if eR gs (s.i+1) 94=true then s.i+2 else s.i+1) [] true with
  | .er e w=>.er e w
  | .ok l k=>.ok ([Bc (if eR gs (s.i+1) 94=true then qG (cm l) else cm l)],s.g) (k+1):=by
  unfold Bb G9;cases lO gs s.i (gs.length+1) (if eR gs (s.i+1) 94=true then s.i+2 else s.i+1) [] true<;>rfl
 rw[←hst] at hcv
 change Bb gs s.i s.g=match lO gs s.i (gs.length+1) (bV gs {s with i:=s.i+1} 94).i [] true with
  | .er e w=>.er e w
  | .ok l k=>.ok ([Bc (if eR gs ({s with i:=s.i+1}:eA).i 94=true then qG (cm l) else cm l)],s.g) (k+1) at hcv
 generalize bV gs {s with i:=s.i+1} 94=s1 at*;generalize eR gs ({s with i:=s.i+1}:eA).i 94=nt at*;clear hst
 obtain⟨C0,Mn⟩:∃C0,lO gs s.i (gs.length+1) s1.i [] true=C0:=⟨_,rfl⟩
 rw[Mn] at hcv;have DU:∀s',eO C0 a_ s'→eO (Bb gs s.i s.g) a_ s':=fun s' h=>h.map fun e w hw=>by rw[hcv,hw]
 refine zQ 8 ?_
 have hH:Has N S2 st (.box k (.mem 0 false (aP gs bB s1))::.aB bB 1 (a_.map ay)::.aB .nul 2 (([]:List Rg).map av)::H):=((hH.eC 2).front aV|>.front bE|>fun h=>(h.front aV))
 refine zQ 2 ?_;refine ai.loop (fun mm fr st=>∃(s1:eA) (ld:D) (lr:List Rg) (nn:Bool),fr.clean=⟨7,[.ptr k 0 0,cB fr 1,cB fr 2,.int .i64 (s.i:Nat),.bool nt,ld,.bool nn],[]⟩∧Has N S2 st (.box k (.mem 0 false (aP gs bB s1))::.aB bB 1 (a_.map ay)::.aB ld 2 (lr.map av)::H)∧(s1.o=s.o)∧(s1.g=s.g)∧(s.i<s1.i)∧(s1.i≤gs.length)∧(lr.length≤8*s1.i+8)∧(s1.e=0→lr.length≤8*s1.i)∧(gs.length-s1.i+(if s1.e=0 then 1 else 0)≤mm)∧(eO C0 a_ s1∨s1.e=0∧∃n,gs.length<n+s1.i∧C0=lO gs s.i n s1.i lr nn)) (gs.length+1) ?_ ?_
 ·exact⟨s1,.nul,[],true,rfl,hH,k1,k2,by omega,k5,by simp,fun _=>by simp,by split<;>omega,.inr ⟨k3.trans he,gs.length+1,by omega,Mn.symm⟩⟩
 rintro mm fr st ⟨s1,ld,lr,nn,hfr,hH,h1,h2,h3,h4,h5,h6,AS,h7⟩;rw[hfr];clear hfr;generalize cB fr=ee;clear fr
 rcases h7 with h7|⟨he1,n,tQ,iR⟩
 ·have he1:=h7.ne;have dQ:(s1.e==0)=false:=by simpa using he1
  refine zQ 25 ?_;refine qD rfl (by simp[he1]) ?_;refine zQ 4 ?_;refine ai.ret ⟨rx,_,_,_,rfl,ak (rfl),?_⟩;exact⟨_,fL h1 (by omega) (by omega) h4 (DU _ h7),bS.aq bO (hH.erase 2)⟩
 ·rw[if_pos he1] at AS;have h6:=h6 he1;have dQ:(s1.e==0)=true:=by simpa using he1
  obtain⟨n,rfl⟩:∃m,n=m+1:=⟨n-1,by omega⟩
  unfold lO at iR;refine zQ 10 ?_;obtain⟨_,st,aC,rfl,hH⟩:=pT (s:=s1) (by omega) 93 hH;refine qv aC ?_ (hg:=wi dQ);refine zQ 3 ?_
  cases hb:eR gs s1.i 93 with
  |true=>
   have hlt:=sJ hb;rw[hb,if_pos rfl] at iR;refine zQ 11 ?_;refine qE rfl (by simp[he1]) ?_;refine zQ 6 ?_
   cases nn with
   |true=>
    rw[if_pos rfl] at iR;refine zQ 5 ?_;obtain⟨_,st,aC,rfl,hH⟩:=eI (s:=s1) s.i 4 (by omega) hH;refine qv aC ?_;refine zQ 2 ?_;obtain⟨w1,w2,w3,w4⟩:=g_ (a_:=a_) (s:=s1) (i:=s.i) (e:=4) he1 (by decide) iR;refine ai.ret ⟨rx,_,_,_,rfl,ak (rfl),?_⟩;exact⟨_,fL (by omega) (by omega) (by omega) (by omega) (DU _ w1),bS.aq bO (hH.erase 2)⟩
   |false=>
    rw[if_neg (by simp)] at iR;rw[iR] at hcv;simp only at hcv;refine zQ 11 ?_;refine qT hH aG fun st hH=>?_;dsimp only[u2,u1,u3,u4,setMany,u5,u6,D.cells,Nat.reduceAdd,aP,bq,ay,av] at hH;refine zQ 4 ?_;obtain⟨aC,oB,_⟩:=nT (l:=lr) (hH.rows bE) (by omega);refine qv aC ?_;refine zQ 2 ?_;generalize cm lr=m at*;refine zQ 5 ?_
    have iP:∀(st:St) (a:List Rg) (k70:Nat),a=(if nt=true then qG m else m)→a.length≤1048576→S2.bs.length≤k70→Has N S2 st (.aB (.win k70 0 0 1 7) 7 [[.int .i64 2,aQ a,.int .i64 0,.int .i64 0,.bool false,.int .i64 0,.int .i64 0]]::.box k (.mem 0 false (aP gs bB {s1 with i:=s1.i+1}))::.aB bB 1 (a_.map ay)::.aB ld 2 (lr.map av)::H)→
      ∃d ah,c8 .rw false s0 st (.win k70 0 0 1 7)=some (d,ah)∧∃(s':eA),jU gs a_ (Bb gs s.i s.g) s s' d 2∧Has N S ah (.box k (.mem 0 false (aP gs bB s'))::.aB bB 1 (a_.map ay)::H):=by
     intro st a k70 Xu ha hk hH;have hfz:=jA hH aG (L:=s0.bs.length) (.inl rfl) (fun k hk=>by simp only[D.ref] at hk;rw[←bO];omega);exact⟨_,_,ak hfz,{s1 with i:=s1.i+1},⟨h1,by show s1.g≤4;omega,by show s.i≤s1.i+1;omega,by show s1.i+1≤_;omega,_,rfl,FO ha (by omega),by simp,.inr ⟨he1,by rw[hcv,←Xu];show _=PR.ok (_,s1.g) _;rw[h2];rfl,by show 1+2≤4*(s1.i+1-s.i);omega⟩⟩,bS.aq bO ((hH.drop 1).erase 2)⟩
    cases nt with
    |true=>
     refine zQ 3 ?_;obtain⟨aC,hla⟩:=wh (l:=m) (cE _ _) (by omega);refine qv aC ?_;refine zQ 5 ?_;refine ae.iC (qs:=[(0,_),(1,_)]) rfl rfl rfl rfl ⟨rfl,(ev rfl),(by rfl),rfl,(ev rfl),(by rfl),trivial⟩ (by intro q hq;simp only[List.mem_cons,List.not_mem_nil,or_false] at hq;rcases hq with rfl|rfl<;>exact⟨rfl,by exact Nat.le_of_ble_eq_true rfl⟩) (by show List.foldl _ [_,_,_,_,_,_,_] _=_;dsimp only[List.foldl_cons,List.foldl_nil,u2,u1]<;>rfl) (aa rfl _) ?_;refine qh (s:=7) (vs:=[_]) hH fun k70 st Lm hH=>?_;refine zQ 2 ?_;obtain⟨d',ah,wQ,ef⟩:=iP _ (qG m) k70 rfl (by omega) Lm hH;refine ai.ret ⟨rx,_,d',ah,rfl,wQ,ef⟩
    |false=>
     refine zQ 5 ?_;refine ae.iC (qs:=[(0,_),(1,_)]) rfl rfl rfl rfl ⟨rfl,(ev rfl),(by rfl),rfl,(ev rfl),(by rfl),trivial⟩ (by intro q hq;simp only[List.mem_cons,List.not_mem_nil,or_false] at hq;rcases hq with rfl|rfl<;>exact⟨rfl,by exact Nat.le_of_ble_eq_true rfl⟩) (by show List.foldl _ [_,_,_,_,_,_,_] _=_;dsimp only[List.foldl_cons,List.foldl_nil,u2,u1]<;>rfl) (aa rfl _) ?_;refine qh (s:=7) (vs:=[_]) hH fun k70 st Lm hH=>?_;refine zQ 2 ?_;obtain⟨d',ah,wQ,ef⟩:=iP _ m k70 rfl (by omega) Lm hH;refine ai.ret ⟨rx,_,d',ah,rfl,wQ,ef⟩
  |false=>
   rw[hb,if_neg (by simp)] at iR;refine zQ 14 ?_;refine qn ?_;simp only[List.length_map];refine zQ 2 ?_;refine zP (fun hge=>?_) fun hge=>?_
   ·rw[if_pos (by omega)] at iR;refine zQ 4 ?_;obtain⟨_,st,aC,rfl,hH⟩:=eI (s:=s1) s.i 4 (by omega) hH;refine qv aC ?_;refine zQ 2 ?_;obtain⟨w1,w2,w3,w4⟩:=g_ (a_:=a_) (s:=s1) (i:=s.i) (e:=4) he1 (by decide) iR;refine ai.ret ⟨rx,_,_,_,rfl,ak (rfl),?_⟩;exact⟨_,fL (by omega) (by omega) (by omega) (by omega) (DU _ w1),bS.aq bO (hH.erase 2)⟩
   ·rw[if_neg (by omega)] at iR;refine zQ 5 ?_;obtain⟨_,st,aC,s2,⟨i1,i2,i3,i4,a,rfl,i5,i6⟩,hH⟩:=F6 (s:=s1) cn he1 (by omega) hH;have VQ:=(gJ a).arg N S2;have Mh:=Ad a;refine qv aC ?_;refine ae.ew (s:=2) hH rfl (ev rfl) (ev rfl) (by exact bE) (by exact Arg.rows (by assumption) hH) rfl rfl rfl rfl rfl rfl rfl ⟨(Nat.le_of_ble_eq_true rfl),(Nat.le_of_ble_eq_true rfl)⟩ (fun _=>(aa rfl _)) (by simp only[List.length_map]<;>omega) (by exact .inr (by assumption)) (fun TD st hH=>?_);dsimp only[u2,u1,u3,u4,setMany,u5,u6,D.cells,Nat.reduceAdd,aP,bq,ay,av] at hH;refine zQ 5 ?_
    rcases i6 with i6|⟨i6,i7,i8⟩
    ·have hne:=i6.ne;exact⟨mm-1,by omega,⟨s2,TD,lr++a,false,rfl,(by rw[List.map_append];exact hH),i1.trans h1,i2.trans h2,by omega,i4,by rw[List.length_append];omega,fun e=>absurd e hne,by rw[if_neg hne];omega,.inl (i6.map fun e w h=>by rw[iR,h])⟩⟩
    ·rw[i8] at iR;simp only at iR;exact⟨mm-1,by omega,⟨s2,TD,lr++a,false,rfl,(by rw[List.map_append];exact hH),i1.trans h1,i2.trans h2,by omega,i4,by rw[List.length_append];omega,fun e=>by rw[List.length_append];omega,by rw[if_pos i6];omega,.inr ⟨i6,n,by omega,iR⟩⟩⟩
def sf (gs:List (Nat×Nat)) (f:Nat):PR (Int×Int):=
 if(digS (gz gs (f+1)) []).2=0 then .er 4 f
 else if eR gs (f+1+(digS (gz gs (f+1)) []).2) 44=true then
  (if eR gs (f+1+(digS (gz gs (f+1)) []).2+1+(digS (gz gs (f+1+(digS (gz gs (f+1)) []).2+1)) []).2) 125=true then
   (if(digS (gz gs (f+1+(digS (gz gs (f+1)) []).2+1)) []).2=0 then
    (if(iS (digS (gz gs (f+1)) []).1).2=true then .ok ((iS (digS (gz gs (f+1)) []).1).1,-1) (f+1+(digS (gz gs (f+1)) []).2+1+(digS (gz gs (f+1+(digS (gz gs (f+1)) []).2+1)) []).2+1) else .er 2 f)
   else if pR (digS (gz gs (f+1+(digS (gz gs (f+1)) []).2+1)) []).1 (digS (gz gs (f+1)) []).1=true then .er 4 f
   else if(iS (digS (gz gs (f+1)) []).1).2=true∧(iS (digS (gz gs (f+1+(digS (gz gs (f+1)) []).2+1)) []).1).2=true then .ok ((iS (digS (gz gs (f+1)) []).1).1,(iS (digS (gz gs (f+1+(digS (gz gs (f+1)) []).2+1)) []).1).1) (f+1+(digS (gz gs (f+1)) []).2+1+(digS (gz gs (f+1+(digS (gz gs (f+1)) []).2+1)) []).2+1) else .er 2 f)
  else .er 4 f)
 else(if eR gs (f+1+(digS (gz gs (f+1)) []).2) 125=true then
   (if pR (digS (gz gs (f+1)) []).1 (digS (gz gs (f+1)) []).1=true then .er 4 f
   else if(iS (digS (gz gs (f+1)) []).1).2=true then .ok ((iS (digS (gz gs (f+1)) []).1).1,(iS (digS (gz gs (f+1)) []).1).1) (f+1+(digS (gz gs (f+1)) []).2+1) else .er 2 f)
  else .er 4 f)
def sa (gs:List (Nat×Nat)) (f:Nat) (m n:List UInt8) (ok en:Bool) (i:Nat):PR (Int×Int):=
 if ok=false then .er 4 f
 else if eR gs i 125=false then .er 4 f
 else if en=false∧pR n m=true then .er 4 f
 else if(iS m).2=true∧(iS (if en=true then[] else n)).2=true then .ok ((iS m).1,if en=true then-1 else(iS n).1) (i+1)
 else .er 2 f
theorem Dq (gs:List (Nat×Nat)) (f:Nat):sf gs f=
  if(digS (gz gs (f+1)) []).2≠0∧eR gs (f+1+(digS (gz gs (f+1)) []).2) 44=true then
   sa gs f (digS (gz gs (f+1)) []).1 (digS (gz gs (f+1+(digS (gz gs (f+1)) []).2+1)) []).1 true (!decide (0<(digS (gz gs (f+1+(digS (gz gs (f+1)) []).2+1)) []).2)) (f+1+(digS (gz gs (f+1)) []).2+1+(digS (gz gs (f+1+(digS (gz gs (f+1)) []).2+1)) []).2)
  else sa gs f (digS (gz gs (f+1)) []).1 (digS (gz gs (f+1)) []).1 (decide (0<(digS (gz gs (f+1)) []).2)) false (f+1+(digS (gz gs (f+1)) []).2):=by
 unfold sf sa;have tE:(iS []).2=true:=rfl;generalize(digS (gz gs (f+1)) [])=A;generalize(digS (gz gs (f+1+A.2+1)) [])=B;generalize eR gs (f+1+A.2) 44=c1;generalize eR gs (f+1+A.2) 125=c2;generalize eR gs (f+1+A.2+1+B.2) 125=c3;generalize pR A.1 A.1=c4;generalize pR B.1 A.1=c5
 by_cases h1:A.2=0
 ·simp[h1]
 ·have Kf:0<A.2:=by omega
  by_cases h2:B.2=0
  ·cases c1<;>cases c2<;>cases c3<;>cases c4<;>cases c5<;>simp[h1,Kf,h2,tE]
  ·have R0:0<B.2:=by omega
   cases c1<;>cases c2<;>cases c3<;>cases c4<;>cases c5<;>simp[h1,Kf,h2,R0,tE]
def gk (op:Int) (ps:List (List bp)):List bp:=
 match ps with
 |[]=>[jM 1 0 0 false 0 0 []]
 |[l]=>l
 |ps=>jM op 0 0 false 0 (ps.length:Nat) []::ps.flatten
theorem oF:∀l:List (List bp),fH l=l.flatten.length
 |[]=>rfl
 |a::l=>by rw[fH,List.flatten_cons,List.length_append,oF l]
theorem sG {s0:St} {x:D} {parts:List (List bp)} (op:Int) (hx:V.Rows s0 1 x (parts.map d_)) (hv:∀l∈parts,∀n∈l,nz n) (hp:parts.length≤100000) (hs:fH parts≤100000):Ev pv 62 [.int .i64 op,x] s0 (sx (gk op parts)) s0∧(∀n∈gk op parts,nz n)∧(parts.length=1→(gk op parts).length≤fH parts)∧(gk op parts).length≤fH parts+1:=by
 suffices hg:∃d,Ev pv 62 [.int .i64 op,x] s0 d s0∧d=sx (gk op parts)∧(∀n∈gk op parts,nz n)∧(parts.length=1→(gk op parts).length≤fH parts)∧(gk op parts).length≤fH parts+1 by
  obtain⟨d,h1,rfl,h2⟩:=hg;exact⟨h1,h2⟩
 refine Ev.JW rfl Sz rfl rfl rfl ?_;refine zE ?_;obtain⟨aU,hF,hH⟩:=ri s0;generalize ag .ro s0=S at*;have hx:=Arg.of hx aU;refine zQ 8 ?_;refine qn ?_;simp only[List.length_map];refine zQ 7 ?_
 by_cases h0:parts.length=0
 ·have QJ:parts=[]:=List.length_eq_zero_iff.1 h0;refine qD rfl (by simp[h0]) ?_;refine zQ 2 ?_;refine ae.go (d:=.agg [.int .i64 1,.nul,.int .i64 0,.int .i64 0,.bool false,.int .i64 0,.int .i64 0]) (st1:=_) rfl rfl rfl (by dsimp only[Fr.put,u1,u2]<;>rfl) ?_;refine qh (s:=7) (vs:=[_]) hH fun k13 st Rr hH=>?_;refine zQ 2 ?_;have hfz:=jA (L:=s0.bs.length) (a:=[]) hH aG (.inr ⟨rfl,rfl⟩) (fun k hk=>by have jy:k13+1=k+1:=hk;rw[←aU];omega);refine ai.ret ⟨rx,_,_,rfl,rl aU hH (hfz),?_⟩;rw[QJ];exact⟨rfl,FO (by simp) (by omega),fun h=>by simp at h,by simp[gk]⟩
 have Oa:(((parts.length:Nat):Int)==0)=false:=by rw[beq_eq_false_iff_ne];omega
 refine qE rfl (by rw[Oa]) ?_;refine zQ 5 ?_
 by_cases h1:parts.length=1
 ·obtain⟨q,hq⟩:∃q,parts[0]?=some q:=⟨parts[0]'(by omega),List.getElem?_eq_getElem _⟩
  have gr:=x_ hq
  have xg:parts=[q]:=by
   match parts,h1,hq with
   |[a],_,hq=>simp at hq;rw[hq]
  refine qD rfl (by simp[h1]) ?_;refine zQ 3 ?_;refine qr fun Vb QW=>?_;refine zQ 3 ?_;refine ai.ret ⟨rx,_,_,rfl,rl aU hH (rfl),?_⟩;have hj:gk op parts=q:=by rw[xg];rfl
  refine⟨by rw[hj];rfl,by rw[hj];exact hv q (List.mem_of_getElem? hq),fun _=>?_,?_⟩<;>rw[hj,xg]<;>simp[fH]
 have N':(((parts.length:Nat):Int)==1)=false:=by rw[beq_eq_false_iff_ne];omega
 have hj:gk op parts=jM op 0 0 false 0 (parts.length:Nat) []::parts.flatten:=by
  match parts,h0,h1 with
  |_::_::_,_,_=>rfl
 rw[hj];refine qE rfl (by rw[N']) ?_;refine zQ 5 ?_;refine qn ?_;simp only[List.length_map];refine ae.go (d:=.agg [.int .i64 op,.nul,.int .i64 0,.int .i64 0,.bool false,.int .i64 0,.int .i64 (parts.length:Nat)]) (st1:=_) rfl rfl rfl (by dsimp only[Fr.put,u1,u2]<;>rfl) ?_;refine qh (s:=7) (vs:=[_]) hH fun k23 st WQ hH=>?_;refine zQ 6 ?_;refine qn ?_;simp only[List.length_map];refine zQ 2 ?_;have hH:Has s0.bs.length S st (.aB (.win k23 0 0 1 7) 7 [[.int .i64 op,.nul,.int .i64 0,.int .i64 0,.bool false,.int .i64 0,.int .i64 (parts.length:Nat)]]::[]):=hH;refine zQ 1 ?_;refine ai.loop (fun mm fr st=>∃(i:Nat) (od:D) (es:List (List D)),fr.clean=⟨27,[cB fr 0,cB fr 1,cB fr 2,cB fr 3,cB fr 4,od,cB fr 6,cB fr 7,cB fr 8,cB fr 9,cB fr 10,cB fr 11,cB fr 12,cB fr 13,cB fr 14,cB fr 15,cB fr 16,cB fr 17,cB fr 18,cB fr 19,cB fr 20,cB fr 21,cB fr 22,cB fr 23,x,.int .i64 (parts.length:Nat),.int .i64 (i:Nat)],[]⟩∧Has s0.bs.length S st [.aB od 7 es]∧(i+mm=parts.length)∧(es.map (·.map nh)=(jM op 0 0 false 0 (parts.length:Nat) []::(parts.take i).flatten).map aH)∧(∀e∈es,∀d∈e,mG d=true)∧(∀k,od.ref=k+1→S.bs.length≤k)) (parts.length) ?_ ?_
 ·refine⟨0,.win k23 0 0 1 7,[[.int .i64 op,.nul,.int .i64 0,.int .i64 0,.bool false,.int .i64 0,.int .i64 (parts.length:Nat)]],rfl,hH,by omega,rfl,?_,fun k hk=>by simp only[D.ref] at hk;omega⟩;intro e he d hd;simp only[List.mem_cons,List.not_mem_nil,or_false] at he;subst he;simp only[List.mem_cons,List.not_mem_nil,or_false] at hd
  rcases hd with rfl|rfl|rfl|rfl|rfl|rfl|rfl<;>rfl
 rintro mm fr st ⟨i,od,es,hfr,hH,hi,u9,ht,gS⟩;rw[hfr];clear hfr;generalize cB fr=ee;clear fr;refine zQ 4 ?_
 by_cases hlt:i<parts.length
 ·obtain⟨q,hq⟩:∃q,parts[i]?=some q:=⟨parts[i]'hlt,List.getElem?_eq_getElem _⟩
  have gr:=x_ hq;have QD:=hv q (List.mem_of_getElem? hq)
  have tW:es.length=1+(parts.take i).flatten.length:=by
   have Xn:(List.length∘List.map aH:List bp→Nat)=List.length:=by funext l;simp
   have:=congrArg List.length u9;simp[Xn] at this
   simp;omega
  have KY:parts.take (i+1)=parts.take i++[q]:=by rw[List.take_add_one,hq];rfl
  have VD:fH (parts.take (i+1))=fH (parts.take i)+q.length:=by rw[KY,dR];simp[fH]
  have VH:fH (parts.take (i+1))≤fH parts:=by
   have:=dR (parts.take (i+1)) (parts.drop (i+1));rw[List.take_append_drop] at this;omega
  have hsf:=oF (parts.take i);refine qq<|qD rfl (by simp;omega) ?_;refine zQ 5 ?_;refine qr fun Va QV=>?_;refine zQ 6 ?_;refine ae.cJ (s:=7) hH rfl (ev rfl) (ev rfl) aG ((nR QD).rows st) rfl rfl rfl rfl rfl rfl rfl ⟨(Nat.le_of_ble_eq_true rfl),(Nat.le_of_ble_eq_true rfl)⟩ (fun _=>(aa rfl _)) (by rw[List.length_map];omega) (.inl hF) gS (fun UP st gS hH=>?_);dsimp only[u2] at hH;refine zQ 6 ?_;refine⟨mm-1,by omega,⟨i+1,UP,es++q.map aH,rfl,hH,by omega,by rw[List.map_append,u9,wj QD,KY,List.flatten_append,List.map_cons,List.map_cons,List.map_append];simp,?_,gS⟩⟩;intro e he
  rcases List.mem_append.1 he with he|he
  ·exact ht e he
  ·exact sv QD e he
 ·refine qq<|qE rfl (by simp;omega) ?_;refine zQ 6 ?_;have hik:i=parts.length:=by omega
  rw[hik,List.take_length] at u9
  have hall:∀n∈jM op 0 0 false 0 (parts.length:Nat) []::parts.flatten,nz n:=fun n hn=>by
   rcases List.mem_cons.1 hn with rfl|hn
   ·exact FO (by simp) (by omega) _ (List.mem_cons_self ..)
   ·obtain⟨l,hl,hn⟩:=List.mem_flatten.1 hn;exact hv l hl n hn
  refine ai.ret ⟨rx,_,_,rfl,rl aU hH (jz hH aG u9 ht (fun k hk=>by have:=gS k hk;rw[←aU];exact this) (by decide)),?_⟩;have hsf:=oF parts;exact⟨rfl,hall,by omega,by simp only[List.length_cons];omega⟩
def kC (fr:Go.V.Fr) (k:Nat):Go.V.D:=Go.V.nth .bf fr.loc k
def Kj (gs:List (Nat×Nat)) (a_:List Int) (R:PR (Int×Int)) (s s':eA) (n1 n2:Int):Prop:=
 vG gs s s'∧(eO R a_ s'∨s'.e=0∧R=.ok (n1,n2) s'.i)
theorem xA {gs:List (Nat×Nat)} {s:eA} {r:Int} (h:eR gs s.i r=false):bV gs s r=s:=by
 unfold bV;rw[if_neg (by rw[h];simp)]
theorem lY {gs:List (Nat×Nat)} {s:eA} {r:Int} (h:eR gs s.i r=true):(bV gs s r).i=s.i+1:=by
 unfold bV;rw[if_pos h]
theorem Dr {N k:Nat} {S s0:St} {H:List aZ} {gs:List (Nat×Nat)} {bB:D} {a_:List Int} {s:eA} (cn:lS gs a_) (he:s.e=0) (hi:s.i<gs.length) (hH:Has N S s0 (.box k (.mem 0 false (aP gs bB s))::.aB bB 1 (a_.map ay)::H)):
  ∃d ah,Ev pv 87 [.ptr k 0 0] s0 d ah∧∃(n1 n2:Int) (s':eA),d=.tup [.int .i64 n1,.int .i64 n2]∧Kj gs a_ (sf gs s.i) s s' n1 n2∧Has N S ah (.box k (.mem 0 false (aP gs bB s'))::.aB bB 1 (a_.map ay)::H):=by
 have tU:=cn.gl;have lg:=cn.pl;have hne:gs≠[]:=by rintro rfl;simp at hi
 refine Ev.jN rfl Sc rfl rfl rfl ?_;refine zE ?_;have bS:=hH;have hH:=hH.bG;have bO:(ag .rw s0).bs=s0.bs:=rfl;generalize ag .rw s0=S2 at*;refine zQ 22 ?_;refine qT hH aG fun st hH=>?_;dsimp only[u2,u1,u3,u4,setMany,u5,u6,D.cells,Nat.reduceAdd,aP,bq,ay,av] at hH;refine zQ 1 ?_;have hH:Has N S2 st (.box k (.mem 0 false (aP gs bB {s with i:=s.i+1}))::.aB bB 1 (a_.map ay)::H):=hH;have hall:=Dq gs s.i
 obtain⟨R,hR⟩:∃R,sf gs s.i=R:=⟨_,rfl⟩
 rw[hR] at hall⊢;clear hR
 have Gx:∀(st:St) (s3:eA) (e:Int),e≠0→s3.e=0→vG gs s s3→R=.er e s.i→Has N S2 st (.box k (.mem 0 false (aP gs bB s3))::.aB bB 1 (a_.map ay)::H)→∃d ah,Ev pv 43 [.ptr k 0 0,.int .i64 (s.i:Nat),.int .i64 e] st d ah∧d=.sl []∧∃s4,(∀n1 n2,Kj gs a_ R s s4 n1 n2)∧Has N S2 ah (.box k (.mem 0 false (aP gs bB s4))::.aB bB 1 (a_.map ay)::H):=by
  intro st s3 e h0 h1 h2 hv hH;obtain⟨d,ah,aC,h4,hH⟩:=eI (s:=s3) s.i e (by omega) hH;obtain⟨w1,w2,w3,w4⟩:=g_ (a_:=a_) (s:=s3) (i:=s.i) (e:=e) h1 h0 hv;exact⟨d,ah,aC,h4,_,fun _ _=>⟨⟨w3.trans h2.1,w4.trans h2.2.1,by rw[w2];exact h2.2.2.1,by rw[w2];exact h2.2.2.2⟩,.inl w1⟩,hH⟩
 obtain⟨A,hA⟩:∃A,digS (gz gs (s.i+1)) []=A:=⟨_,rfl⟩
 refine zQ 3 ?_;obtain⟨_,st,aC,rfl,oB,Pf,hH⟩:=s_ (s:={s with i:=s.i+1}) tU (by show s.i+1≤_;omega) hne hH;dsimp only at aC oB Pf hH;rw[hA] at aC oB Pf hH;refine qv aC ?_;refine zQ 6 ?_;rw[hA] at hall;obtain⟨m,a2⟩:=A;clear hA;dsimp only at hall oB Pf hH
 obtain⟨s1,IX⟩:∃s1:eA,({s with i:=s.i+1+a2}:eA)=s1:=⟨_,rfl⟩
 have K4:s1.e=0:=by rw[←IX];exact he
 have Qx:s1.i=s.i+1+a2:=by rw[←IX]
 have DL:vG gs s s1:=by rw[←IX];exact⟨rfl,rfl,by show s.i<s.i+1+a2;omega,Pf⟩
 have hH:Has N S2 st (.box k (.mem 0 false (aP gs bB s1))::.aB bB 1 (a_.map ay)::H):=by rw[←IX];exact hH
 clear IX;rw[←Qx] at hall
 obtain⟨ok,IZ⟩:∃ok,decide (0<a2)=ok:=⟨_,rfl⟩
 rw[IZ] at hall⊢;refine zQ 8 ?_;refine ai.oU (fun fr st=>∃(n:List UInt8) (en:Bool) (s3:eA) (tmp:List (Nat×D)),fr=⟨14,[.ptr k 0 0,kC fr 1,kC fr 2,kC fr 3,.int .i64 (s.i:Nat),.str m,.bool ok,.str n,.bool en,kC fr 9,kC fr 10,kC fr 11,kC fr 12,kC fr 13],tmp⟩∧Has N S2 st (.box k (.mem 0 false (aP gs bB s3))::.aB bB 1 (a_.map ay)::H)∧(s3.e=0)∧(vG gs s s3)∧(n.length≤120)∧(R=sa gs s.i m n ok en s3.i)) ?_ ?_
 ·cases ok with
  |false=>
   have Us:a2=0:=by have:=of_decide_eq_false IZ;omega
   have HJ:false=false:=rfl;refine zQ 9 ?_;exact⟨m,false,s1,_,rfl,hH,K4,DL,oB,by rw[hall,if_neg (fun h=>h.1 Us)]⟩
  |true=>
   have Us:0<a2:=of_decide_eq_true IZ;have HJ:true=true:=rfl;obtain⟨k1,k2,k3,k4,k5⟩:=iz (gs:=gs) (s:=s1) (r:=44);have k5:=k5 DL.2.2.2;have k6:=xA (gs:=gs) (s:=s1) (r:=44);have k7:=lY (gs:=gs) (s:=s1) (r:=44);refine zQ 4 ?_;obtain⟨_,st,aC,rfl,hH⟩:=et (s:=s1) (by omega) 44 hH;refine qv aC ?_ (hg:=wi HJ);refine zQ 2 ?_;generalize bV gs s1 44=s2 at*
   have K3:vG gs s s2:=⟨k1.trans DL.1,k2.trans DL.2.1,by have:=DL.2.2.1;omega,k5⟩
   cases hb:eR gs s1.i 44 with
   |false=>
    have k6:=k6 hb;rw[k6] at hH;refine zQ 2 ?_;exact⟨m,false,s1,_,rfl,hH,K4,DL,oB,by rw[hall,if_neg (fun h=>by rw[hb] at h;exact absurd h.2 (by simp))]⟩
   |true=>
    have k7:=k7 hb;refine zQ 5 ?_;rw[←k7] at hall
    obtain⟨B,hB⟩:∃B,digS (gz gs s2.i) []=B:=⟨_,rfl⟩
    rw[hB] at hall;refine zQ 3 ?_;obtain⟨_,st,aC,rfl,Lg,hni,hH⟩:=s_ (s:=s2) tU k5 hne hH;rw[hB] at aC Lg hni hH;refine qv aC ?_;refine zQ 6 ?_;clear hB;obtain⟨n,b2⟩:=B;dsimp only at hall Lg hni hH;refine zQ 5 ?_;exact⟨n,!decide (0<b2),{s2 with i:=s2.i+b2},_,rfl,hH,k3.trans K4,⟨K3.1,K3.2.1,by have:=K3.2.2.1;show s.i<s2.i+b2;omega,hni⟩,Lg,by rw[hall,if_pos ⟨by omega,hb⟩]⟩
 ·rintro fr st ⟨n,en,s3,tmp,hfr,hH,h1,h2,h3,hG⟩;rw[hfr];clear hfr;generalize kC fr=ee;clear fr;clear hall IZ;obtain⟨k1,k2,k3,k4,k5⟩:=iz (gs:=gs) (s:=s3) (r:=125);have k5:=k5 h2.2.2.2
  have DJ:vG gs s (bV gs s3 125):=⟨k1.trans h2.1,k2.trans h2.2.1,by have:=h2.2.2.1;omega,k5⟩
  have DK:(bV gs s3 125).e=0:=k3.trans h1;have k7:=lY (gs:=gs) (s:=s3) (r:=125);unfold sa at hG
  cases ok with
  |false=>
   rw[if_pos rfl] at hG;have bN:(!false)=true:=rfl;refine zQ 25 ?_;obtain⟨_,st,aC,rfl,s4,Wn,hH⟩:=Gx _ s3 4 (by decide) h1 h2 hG hH;refine qv aC ?_;refine zQ 6 ?_;refine ai.ret ⟨rx,_,_,_,rfl,ak (rfl),?_⟩;exact⟨_,_,s4,rfl,Wn _ _,bS.aq bO hH⟩
  |true=>
   rw[if_neg (by simp)] at hG;have bN:(!true)=false:=rfl
   cases Ew:(!eR gs s3.i 125) with
   |true=>
    rw[if_pos (by simpa using Ew)] at hG;refine zQ 7 ?_;obtain⟨_,st,aC,rfl,hH⟩:=et (s:=s3) (by omega) 125 hH;refine qv aC ?_ (hg:=wi bN);refine zQ 12 ?_;generalize bV gs s3 125=s4 at*;refine zQ 5 ?_;obtain⟨_,st,aC,rfl,s5,Li,hH⟩:=Gx _ s4 4 (by decide) DK DJ hG hH;refine qv aC ?_;refine zQ 6 ?_;refine ai.ret ⟨rx,_,_,_,rfl,ak (rfl),?_⟩;exact⟨_,_,s5,rfl,Li _ _,bS.aq bO hH⟩
   |false=>
    have Ui:eR gs s3.i 125=true:=by simpa using Ew
    have k7:=k7 Ui;rw[if_neg (by rw[Ui];simp)] at hG;rw[←k7] at hG
    cases en with
    |true=>
     rw[if_neg (fun h=>absurd h.1 (by simp))] at hG;have iO:(!true)=false:=rfl;have tD:=fun st=>lT (s0:=st) m (by omega);have wG:=fun st=>lT (s0:=st) [] (by simp);simp only[if_true] at hG;generalize iS m=V1 at*;generalize iS []=V2 at*;obtain⟨a1,f1⟩:=V1;obtain⟨b1,f2⟩:=V2;dsimp only at hG tD wG;refine zQ 7 ?_;obtain⟨_,st,aC,rfl,hH⟩:=et (s:=s3) (by omega) 125 hH;refine qv aC ?_ (hg:=wi bN);refine zQ 9 ?_;refine ae.cC (aj rfl rfl rfl Ew) rfl iO (aa rfl _) ?_;refine zQ 2 ?_;generalize bV gs s3 125=s4 at*;refine zQ 5 ?_;refine qv ((tD _)) ?_;refine zQ 18 ?_;refine qv ((wG _)) ?_;refine zQ 8 ?_;refine ai.mC 78 (.bool (!f1||!f2)) [] ?_ (fun ff tmp fv=>?_)
     ·refine zQ 3 ?_;refine ae.two 75 rfl (fun bN=>?_) (fun bN=>?_)
      ·refine zQ 3 ?_;refine ae.nil (c_ ?_ ?_)
       ·dsimp only[bk,List.foldl,nth,u2,u1]
        all_goals(first|rfl|simp)
       ·refine zF ?_
        all_goals(simp[bN];done)
      ·refine zQ 3 ?_;refine ae.nil (c_ ?_ ?_)
       ·dsimp only[bk,List.foldl,nth,u2,u1]
        all_goals(first|rfl|simp)
       ·refine zF ?_
        all_goals(simp[bN];done)
     dsimp only[bk,List.foldl,nth,u2,u1];refine qc (fun nv=>?_) (fun nv=>?_)<;>try simp only[cs] at nv
     ·rw[if_neg (fun h=>by rw[h.1,h.2] at nv;simp at nv)] at hG;refine zQ 4 ?_;obtain⟨_,st,aC,rfl,s5,Li,hH⟩:=Gx _ s4 2 (by decide) DK DJ hG hH;refine qv aC ?_;refine zQ 6 ?_;refine ai.ret ⟨rx,_,_,_,rfl,ak (rfl),?_⟩;exact⟨_,_,s5,rfl,Li _ _,bS.aq bO hH⟩
     ·rw[if_pos (by cases f1<;>cases f2<;>simp at nv⊢)] at hG;refine zQ 17 ?_;refine ai.ret ⟨rx,_,_,_,rfl,ak (rfl),?_⟩;exact⟨_,_,s4,rfl,⟨DJ,.inr ⟨DK,hG⟩⟩,bS.aq bO hH⟩
    |false=>
     have iO:(!false)=true:=rfl;have tD:=fun st=>lT (s0:=st) m (by omega);have wG:=fun st=>lT (s0:=st) n (by omega);have hle:=fun st=>FV (s0:=st) n m;have W6:∀(a b:Int),(if false=true then a else b)=b:=fun a b=>if_neg (by simp);have hil:∀(a b:List UInt8),(if false=true then a else b)=b:=fun a b=>if_neg (by simp);rw[W6,hil] at hG;generalize iS m=V1 at*;generalize iS n=V2 at*;obtain⟨a1,f1⟩:=V1;obtain⟨b1,f2⟩:=V2;dsimp only at hG tD wG;generalize pR n m=v at*;refine zQ 7 ?_;obtain⟨_,st,aC,rfl,hH⟩:=et (s:=s3) (by omega) 125 hH;refine qv aC ?_ (hg:=wi bN);refine zQ 8 ?_;refine qv ((hle _)) ?_ (hg:=wi iO);refine ae.cQ (aj rfl rfl rfl Ew) rfl iO (aa rfl _) ?_;refine zQ 2 ?_;generalize bV gs s3 125=s4 at*
     cases v with
     |true=>
      rw[if_pos ⟨rfl,rfl⟩] at hG;refine zQ 5 ?_;obtain⟨_,st,aC,rfl,s5,Li,hH⟩:=Gx _ s4 4 (by decide) DK DJ hG hH;refine qv aC ?_;refine zQ 6 ?_;refine ai.ret ⟨rx,_,_,_,rfl,ak (rfl),?_⟩;exact⟨_,_,s5,rfl,Li _ _,bS.aq bO hH⟩
     |false=>
      rw[if_neg (fun h=>absurd h.2 (by simp))] at hG;refine zQ 5 ?_;refine qv ((tD _)) ?_;refine zQ 16 ?_;refine qv ((wG _)) ?_;refine zQ 8 ?_;refine ai.mC 78 (.bool (!f1||!f2)) [] ?_ (fun ff tmp fv=>?_)
      ·refine zQ 3 ?_;refine ae.two 75 rfl (fun bN=>?_) (fun bN=>?_)
       ·refine zQ 3 ?_;refine ae.nil (c_ ?_ ?_)
        ·dsimp only[bk,List.foldl,nth,u2,u1]
         all_goals(first|rfl|simp)
        ·refine zF ?_
         all_goals(simp[bN];done)
       ·refine zQ 3 ?_;refine ae.nil (c_ ?_ ?_)
        ·dsimp only[bk,List.foldl,nth,u2,u1]
         all_goals(first|rfl|simp)
        ·refine zF ?_
         all_goals(simp[bN];done)
      dsimp only[bk,List.foldl,nth,u2,u1];refine qc (fun nv=>?_) (fun nv=>?_)<;>try simp only[cs] at nv
      ·rw[if_neg (fun h=>by rw[h.1,h.2] at nv;simp at nv)] at hG;refine zQ 4 ?_;obtain⟨_,st,aC,rfl,s5,Li,hH⟩:=Gx _ s4 2 (by decide) DK DJ hG hH;refine qv aC ?_;refine zQ 6 ?_;refine ai.ret ⟨rx,_,_,_,rfl,ak (rfl),?_⟩;exact⟨_,_,s5,rfl,Li _ _,bS.aq bO hH⟩
      ·rw[if_pos (by cases f1<;>cases f2<;>simp at nv⊢)] at hG;refine zQ 15 ?_;refine ai.ret ⟨rx,_,_,_,rfl,ak (rfl),?_⟩;exact⟨_,_,s4,rfl,⟨DJ,.inr ⟨DK,hG⟩⟩,bS.aq bO hH⟩
def gP (fr:Go.V.Fr) (k:Nat):Go.V.D:=Go.V.nth .bf fr.loc k
abbrev PF:=Nat→Nat→PR (List bp×Nat)
def pj (A:PF) (gs:List (Nat×Nat)) (m i g:Nat) (free:Bool) (j:Nat):PR (List bp×Nat):=
 if m=0 then .er 10 i
 else if free=false∧4≤g then .er 13 i
 else match A j (if free=true then g else g+1) with
  | .er e w=>.er e w
  | .ok (l,g2) j2=>
   if eR gs j2 41=true then .ok (if free=true then l else jM 6 0 0 false ((g+1:Nat):Int) 1 []::l,g2) (j2+1)
   else .er 4 i
def wY (A:PF) (gs:List (Nat×Nat)) (m i g:Nat):PR (List bp×Nat):=
 if eR gs (i+1) 63=true then
  (if eR gs (i+2) 58=true then pj A gs m i g true (i+3) else .er 4 i)
 else pj A gs m i g false (i+1)
theorem eO.to {α:Type} {R:PR α} {a_:List Int} {s s':eA} (h:eO R a_ s) (he:s'.e=s.e) (hw:s'.w=s.w):eO R a_ s':=by
 obtain⟨e,w,h0,h1,h2,h3⟩:=h;exact⟨e,w,h0,h1,he.trans h2,hw.trans h3⟩
def Bn (A:PF) (gs:List (Nat×Nat)) (m:Nat):Prop:=∀{N k:Nat} {S s0:St} {H:List aZ} {bB:D} {a_:List Int} {s:eA},lS gs a_→s.e=0→s.i≤gs.length→s.g≤4→s.o+m=20→Has N S s0 (.box k (.mem 0 false (aP gs bB s))::.aB bB 1 (a_.map ay)::H)→
 ∃d ah,Ev pv 42 [.ptr k 0 0] s0 d ah∧∃(s':eA),ru gs a_ (A s.i s.g) s s' d∧Has N S ah (.box k (.mem 0 false (aP gs bB s'))::.aB bB 1 (a_.map ay)::H)
theorem DW {m:Nat} {gs:List (Nat×Nat)} {A:PF} (hA:∀m',m'+1=m→Bn A gs m') {N k:Nat} {S s0:St} {H:List aZ} {bB:D} {a_:List Int} {s:eA} (cn:lS gs a_) (he:s.e=0) (hi:s.i<gs.length) (hg:s.g≤4) (ho:s.o+m=20) (hH:Has N S s0 (.box k (.mem 0 false (aP gs bB s))::.aB bB 1 (a_.map ay)::H)):
  ∃d ah,Ev pv 97 [.ptr k 0 0] s0 d ah∧∃(s':eA),jU gs a_ (wY A gs m s.i s.g) s s' d 2∧Has N S ah (.box k (.mem 0 false (aP gs bB s'))::.aB bB 1 (a_.map ay)::H):=by
 have tU:=cn.gl;have lg:=cn.pl;refine Ev.jN rfl R4 rfl rfl rfl ?_;refine zE ?_;have bS:=hH;have hH:=hH.bG;have bO:(ag .rw s0).bs=s0.bs:=rfl;generalize ag .rw s0=S2 at*
 obtain⟨R,hR⟩:∃R,wY A gs m s.i s.g=R:=⟨_,rfl⟩
 rw[hR];unfold wY at hR
 have hwr:∀(st:St) (s3:eA) (e:Int) (H2:List aZ),e≠0→s3.e=0→s3.o=s.o→s3.g≤4→s.i≤s3.i→s3.i≤gs.length→R=.er e s.i→Has N S2 st (.box k (.mem 0 false (aP gs bB s3))::.aB bB 1 (a_.map ay)::H2)→∃d ah,Ev pv 43 [.ptr k 0 0,.int .i64 (s.i:Nat),.int .i64 e] st d ah∧d=.sl []∧∃s4,jU gs a_ R s s4 (.sl []) 2∧Has N S2 ah (.box k (.mem 0 false (aP gs bB s4))::.aB bB 1 (a_.map ay)::H2):=by
  intro st s3 e H2 h0 h1 h2 h3 h4 h5 hv hH;obtain⟨d,ah,aC,h6,hH⟩:=eI (s:=s3) s.i e (by omega) hH;obtain⟨w1,w2,w3,w4⟩:=g_ (a_:=a_) (s:=s3) (i:=s.i) (e:=e) h1 h0 hv;exact⟨d,ah,aC,h6,_,fL (w3.trans h2) (by omega) (by omega) (by omega) w1,hH⟩
 refine zQ 21 ?_;refine qT hH aG fun st hH=>?_;dsimp only[u2,u1,u3,u4,setMany,u5,u6,D.cells,Nat.reduceAdd,aP,bq,ay,av,aH] at hH;refine zQ 1 ?_;have hH:Has N S2 st (.box k (.mem 0 false (aP gs bB {s with i:=s.i+1}))::.aB bB 1 (a_.map ay)::H):=hH
 obtain⟨s1,IX⟩:∃s1:eA,({s with i:=s.i+1}:eA)=s1:=⟨_,rfl⟩
 have Qy:s1.e=0∧s1.o=s.o∧s1.g=s.g∧s1.i=s.i+1:=by rw[←IX];exact⟨he,rfl,rfl,rfl⟩
 rw[IX] at hH;clear IX;obtain⟨f1,f2,f3,f4⟩:=Qy;refine zQ 6 ?_;refine ai.oU (fun fr st=>∃(free:Bool) (s2:eA) (tmp:List (Nat×D)),fr=⟨7,[.ptr k 0 0,gP fr 1,gP fr 2,.int .i64 (s.i:Nat),.bool free,gP fr 5,gP fr 6],tmp⟩∧Has N S2 st (.box k (.mem 0 false (aP gs bB s2))::.aB bB 1 (a_.map ay)::H)∧(s2.e=0)∧(s2.o=s.o)∧(s2.g=s.g)∧(s.i+1≤s2.i)∧(s2.i≤gs.length)∧(pj A gs m s.i s.g free s2.i=R)) ?_ ?_
 ·obtain⟨k1,k2,k3,k4,k5⟩:=iz (gs:=gs) (s:=s1) (r:=63);have k5:=k5 (by omega);have k6:=xA (gs:=gs) (s:=s1) (r:=63);have k7:=lY (gs:=gs) (s:=s1) (r:=63);refine zQ 2 ?_;obtain⟨_,st,aC,rfl,hH⟩:=et (s:=s1) (by omega) 63 hH;refine qv aC ?_;refine zQ 1 ?_;generalize bV gs s1 63=s2 at*
  cases hb:eR gs s1.i 63 with
  |false=>
   refine zQ 2 ?_;exact⟨false,s2,_,rfl,hH,by omega,by omega,by omega,by omega,by omega,(by rw[k6 hb,f4,←hR,if_neg (by rw[←f4,hb];simp)])⟩
  |true=>
   refine zQ 5 ?_;obtain⟨r1,r2,r3,r4,r5⟩:=iz (gs:=gs) (s:=s2) (r:=58);have r5:=r5 k5;have k7:=k7 hb;have r7:=lY (gs:=gs) (s:=s2) (r:=58);refine zQ 3 ?_;obtain⟨_,st,aC,rfl,hH⟩:=et (s:=s2) (by omega) 58 hH;refine qv aC ?_;refine zQ 2 ?_;generalize bV gs s2 58=s3 at*
   cases hb2:eR gs s2.i 58 with
   |false=>
    refine zQ 5 ?_;obtain⟨_,st,aC,rfl,s4,hN,hH⟩:=hwr _ s3 4 _ (by decide) (by omega) (by omega) (by omega) (by omega) (by omega) (by rw[←hR,if_pos (by rw[←f4];exact hb),if_neg (by rw[show s.i+2=s2.i by omega,hb2];simp)]) hH;refine qv aC ?_;refine zQ 2 ?_;refine ai.ret ⟨rx,_,_,_,rfl,ak (rfl),?_⟩;exact⟨s4,hN,bS.aq bO hH⟩
   |true=>
    refine zQ 2 ?_;exact⟨true,s3,_,rfl,hH,by omega,by omega,by omega,by omega,by omega,(by rw[←hR,if_pos (by rw[←f4];exact hb),if_pos (by rw[show s.i+2=s2.i by omega];exact hb2),show s3.i=s.i+3 by have:=r7 hb2;omega])⟩
 ·rintro fr st ⟨free,s2,tmp,hfr,hH,h1,h2,h3,h4,h5,hG⟩;rw[hfr];clear hfr;generalize gP fr=ee;clear fr;clear hR;refine zQ 9 ?_
  by_cases Up:20≤s2.o
  ·have gu:decide (((s2.o:Nat):Int)≥20)=true:=by rw[decide_eq_true_eq];omega
   refine qD rfl (by rw[gu]) ?_;refine zQ 4 ?_;obtain⟨_,st,aC,rfl,s4,hN,hH⟩:=hwr _ s2 10 _ (by decide) h1 h2 (by omega) (by omega) h5 (by rw[←hG];unfold pj;rw[if_pos (by omega)]) hH;refine qv aC ?_;refine zQ 2 ?_;refine ai.ret ⟨rx,_,_,_,rfl,ak (rfl),?_⟩;exact⟨s4,hN,bS.aq bO hH⟩
  have gu:decide (((s2.o:Nat):Int)≥20)=false:=by rw[decide_eq_false_iff_not];omega
  refine qE rfl (by rw[gu]) ?_;refine zQ 3 ?_;refine ae.go (d:=.agg [.int .i64 6,.nul,.int .i64 0,.int .i64 0,.bool false,.int .i64 0,.int .i64 1]) (st1:=_) rfl rfl rfl (aa rfl _) ?_;refine qa hH fun k5 st HG hH=>?_;dsimp only[u2,u1,u3,u4,setMany,u5,u6,D.cells,Nat.reduceAdd,aP,bq,ay,av,aH] at hH;refine qS hH aG fun st hH=>?_;dsimp only[u2,u1,u3,u4,setMany,u5,u6,D.cells,Nat.reduceAdd,aP,bq,ay,av,aH] at hH;refine zQ 1 ?_;have hH:Has N S2 st (.box k (.mem 0 false (aP gs bB s2))::.aB bB 1 (a_.map ay)::.box k5 (.mem 0 false [.int .i64 6,.nul,.int .i64 0,.int .i64 0,.bool false,.int .i64 0,.int .i64 1])::H):=ov hH;refine zQ 2 ?_;refine ai.oU (fun fr st=>∃(cap:Int) (s3:eA) (tmp:List (Nat×D)),fr=⟨7,[.ptr k 0 0,gP fr 1,gP fr 2,.int .i64 (s.i:Nat),.bool free,.ptr k5 0 0,gP fr 6],tmp⟩∧Has N S2 st (.box k (.mem 0 false (aP gs bB s3))::.aB bB 1 (a_.map ay)::.box k5 (.mem 0 false [.int .i64 6,.nul,.int .i64 0,.int .i64 0,.bool false,.int .i64 cap,.int .i64 1])::H)∧(s3.e=0)∧(s3.o=s.o)∧(s3.g≤4)∧(s3.i=s2.i)∧(s3.g=(if free=true then s.g else s.g+1))∧(cap=(if free=true then 0 else((s.g+1:Nat):Int)))∧(¬(free=false∧4≤s.g))) ?_ ?_
  ·refine zQ 4 ?_
   cases free with
   |true=>
    refine zQ 2 ?_;exact⟨0,s2,_,rfl,hH,h1,h2,by omega,rfl,(by rw[if_pos rfl];exact h3),(by rw[if_pos rfl]),(fun h=>absurd h.1 (by simp))⟩
   |false=>
    refine zQ 10 ?_
    by_cases Uh:4≤s2.g
    ·have gu:decide (((s2.g:Nat):Int)≥4)=true:=by rw[decide_eq_true_eq];omega
     refine qD rfl (by rw[gu]) ?_;refine zQ 4 ?_;obtain⟨_,st,aC,rfl,s4,hN,hH⟩:=hwr _ s2 13 _ (by decide) h1 h2 (by omega) (by omega) h5 (by rw[←hG];unfold pj;rw[if_neg (by omega),if_pos ⟨rfl,by omega⟩]) hH;refine qv aC ?_;refine zQ 2 ?_;refine ai.ret ⟨rx,_,_,_,rfl,ak (rfl),?_⟩;exact⟨s4,hN,bS.aq bO (hH.erase 2)⟩
    ·have gu:decide (((s2.g:Nat):Int)≥4)=false:=by rw[decide_eq_false_iff_not];omega
     refine qE rfl (by rw[gu]) ?_;refine zQ 10 ?_;refine qT hH aG fun st hH=>?_;dsimp only[u2,u1,u3,u4,setMany,u5,u6,D.cells,Nat.reduceAdd,aP,bq,ay,av,aH] at hH;refine zQ 7 ?_;refine qT hH bE fun st hH=>?_;dsimp only[u2,u1,u3,u4,setMany,u5,u6,D.cells,Nat.reduceAdd,aP,bq,ay,av,aH] at hH;refine zQ 1 ?_;exact⟨((s2.g+1:Nat):Int),{s2 with g:=s2.g+1},_,rfl,hH,h1,h2,by show s2.g+1≤4;omega,rfl,(by rw[if_neg (by simp)];show s2.g+1=_;omega),(by rw[if_neg (by simp),h3]),(fun h=>by have:=h.2;omega)⟩
  ·rintro fr st ⟨cap,s3,tmp,hfr,hH,e1,e2,e3,e4,e5,e6,e7⟩;rw[hfr];clear hfr;generalize gP fr=ee;clear fr
   have hv:R=match A s3.i s3.g with
    | .er e w=>.er e w
    | .ok (l,g2) j2=>if eR gs j2 41=true then .ok (if free=true then l else jM 6 0 0 false ((s.g+1:Nat):Int) 1 []::l,g2) (j2+1) else .er 4 s.i:=by
    rw[←hG,e4,e5];unfold pj;rw[if_neg (by omega),if_neg e7]
   refine zQ 9 ?_;refine qT hH aG fun st hH=>?_;dsimp only[u2,u1,u3,u4,setMany,u5,u6,D.cells,Nat.reduceAdd,aP,bq,ay,av,aH] at hH;refine zQ 1 ?_;have hH:Has N S2 st (.box k (.mem 0 false (aP gs bB {s3 with o:=s3.o+1}))::.aB bB 1 (a_.map ay)::.box k5 (.mem 0 false [.int .i64 6,.nul,.int .i64 0,.int .i64 0,.bool false,.int .i64 cap,.int .i64 1])::H):=hH;refine zQ 3 ?_;obtain⟨_,st,aC,s4,⟨a1,a2,a3,a4,l,rfl,a5,a6,a7⟩,hH⟩:=hA (m-1) (by omega) (s:={s3 with o:=s3.o+1}) cn e1 (by show s3.i≤_;omega) e3 (by show s3.o+1+(m-1)=20;omega) hH;refine qv aC ?_;refine zQ 2 ?_;have a7:eO (A s3.i s3.g) a_ s4∨s4.e=0∧A s3.i s3.g=.ok (l,s4.g) s4.i:=a7;have a1:s4.o=s3.o+1:=a1;have a3:s3.i≤s4.i:=a3;have a6:l.length≤4*(s4.i-s3.i)+1:=a6;have hla:=(nR a5).arg N S2;refine zQ 6 ?_;refine ae.mQ (z:=((s.o:Nat):Int)) rfl (ev rfl) (ev rfl) (by(try simp only[List.length_reverse,List.length_cons,List.length_nil,List.length_append,List.length_map,List.length_set]);rw[wrap_i64 (by omega) (by omega)]<;>omega) (aa rfl _) ?_;refine zQ 2 ?_;refine qT hH aG fun st hH=>?_;dsimp only[u2,u1,u3,u4,setMany,u5,u6,D.cells,Nat.reduceAdd,aP,bq,ay,av,aH] at hH;refine zQ 1 ?_
   obtain⟨s5,Qv⟩:∃s5:eA,({s4 with o:=s.o}:eA)=s5:=⟨_,rfl⟩
   have hH:Has N S2 st (.box k (.mem 0 false (aP gs bB s5))::.aB bB 1 (a_.map ay)::.box k5 (.mem 0 false [.int .i64 6,.nul,.int .i64 0,.int .i64 0,.bool false,.int .i64 cap,.int .i64 1])::H):=by rw[←Qv];exact hH
   have Qu:s5.o=s.o∧s5.g=s4.g∧s5.i=s4.i∧s5.e=s4.e∧s5.w=s4.w:=by rw[←Qv];exact⟨rfl,rfl,rfl,rfl,rfl⟩
   clear Qv;obtain⟨b1,b2,b3,b4,b5⟩:=Qu;refine zQ 2 ?_;refine ai.oU (fun fr st=>∃(s6:eA) (tmp:List (Nat×D)),fr=⟨7,[.ptr k 0 0,gP fr 1,gP fr 2,gP fr 3,.bool free,.ptr k5 0 0,sx l],tmp⟩∧Has N S2 st (.box k (.mem 0 false (aP gs bB s6))::.aB bB 1 (a_.map ay)::.box k5 (.mem 0 false [.int .i64 6,.nul,.int .i64 0,.int .i64 0,.bool false,.int .i64 cap,.int .i64 1])::H)∧(s6.o=s.o)∧(s6.g≤4)∧(s4.i≤s6.i)∧(s6.i≤gs.length)∧(eO R a_ s6∨s6.e=0∧s4.i<s6.i∧R=.ok (if free=true then l else jM 6 0 0 false ((s.g+1:Nat):Int) 1 []::l,s6.g) s6.i)) ?_ ?_
   ·by_cases Pp:s5.e=0
    ·have dQ:(s5.e==0)=true:=by simpa using Pp
     have a8:A s3.i s3.g=.ok (l,s4.g) s4.i:=by
      rcases a7 with a7|a7
      ·exact absurd (b4.symm.trans Pp) a7.ne
      ·exact a7.2
     rw[a8] at hv;simp only at hv;rw[←b3] at hv;obtain⟨k1,k2,k3,k4,TZ⟩:=iz (gs:=gs) (s:=s5) (r:=41);have TZ:=TZ (by omega);have K1:eR gs s5.i 41=true→(bV gs s5 41).i=s5.i+1:=fun h=>by unfold bV;rw[if_pos h]
     refine zQ 8 ?_;obtain⟨_,st,aC,rfl,hH⟩:=et (s:=s5) (by omega) 41 hH;refine qv aC ?_ (hg:=wi dQ);refine zQ 3 ?_;generalize bV gs s5 41=s6 at*
     cases hb:eR gs s5.i 41 with
     |false=>
      refine zQ 5 ?_;obtain⟨_,st,aC,rfl,s7,hN,hH⟩:=hwr _ s6 4 _ (by decide) (by omega) (by omega) (by omega) (by omega) (by omega) (by rw[hv,if_neg (by rw[hb];simp)]) hH;refine qv aC ?_;refine zQ 2 ?_;refine ai.ret ⟨rx,_,_,_,rfl,ak (rfl),?_⟩;exact⟨s7,hN,bS.aq bO (hH.erase 2)⟩
     |true=>
      have K1:=K1 hb;refine zQ 2 ?_;exact⟨s6,_,rfl,hH,by omega,by omega,by omega,by omega,.inr ⟨by omega,by omega,by rw[hv,if_pos hb,K1,show s6.g=s4.g by omega]⟩⟩
    ·have dQ:(s5.e==0)=false:=by simpa using Pp
     have Xv:¬s5.e=0→eO R a_ s4:=fun h=>by
      rcases a7 with a7|a7
      ·exact a7.map fun e w hw=>by rw[hv,hw]
      ·exact absurd (b4.trans a7.1) h
     refine zQ 14 ?_;exact⟨s5,_,rfl,hH,b1,by omega,by omega,by omega,.inl ((Xv Pp).to b4 b5)⟩
   ·rintro fr st ⟨s6,tmp,hfr,hH,c1,c2,c3,c4,c5⟩;rw[hfr];clear hfr;generalize gP fr=ee;clear fr;refine zQ 5 ?_
    cases free with
    |true=>
     refine zQ 6 ?_;refine ai.ret ⟨rx,_,_,_,rfl,ak (rfl),?_⟩;refine⟨s6,⟨c1,c2,by omega,c4,l,rfl,a5,by omega,?_⟩,bS.aq bO (hH.erase 2)⟩
     rcases c5 with c5|⟨c5,c6,c7⟩
     ·exact .inl c5
     ·exact .inr ⟨c5,by rw[c7,if_pos rfl],by omega⟩
    |false=>
     refine zQ 4 ?_;refine ae.aN (m:=7) hH rfl (ev rfl) (by exact bE) (by dsimp only[List.drop_succ_cons,List.drop_zero,List.take_succ_cons,List.take_zero,aP,bq,ay,av,aH]<;>rfl) rfl rfl (aa rfl _) ?_;refine qh (s:=7) (vs:=[_]) hH fun k89 st Wz hH=>?_;dsimp only[u2,u1,u3,u4,setMany,u5,u6,D.cells,Nat.reduceAdd,aP,bq,ay,av,aH] at hH;refine qm ?_;refine ae.cJ (s:=7) hH rfl (ev rfl) (ev rfl) aG ((nR a5).rows st) rfl rfl rfl rfl rfl rfl rfl ⟨(Nat.le_of_ble_eq_true rfl),(Nat.le_of_ble_eq_true rfl)⟩ (fun _=>(aa rfl _)) (by simp only[List.length_map,List.length_cons,List.length_nil];omega) (.inr (uG a5)) (fun k hk=>by have jy:k89+1=k+1:=hk;omega) (fun UJ st gS hH=>?_);dsimp only[u2] at hH;refine zQ 2 ?_;have hH:Has N S2 st (.aB UJ 7 ([.int .i64 6,.nul,.int .i64 0,.int .i64 0,.bool false,.int .i64 cap,.int .i64 1]::l.map aH)::.box k (.mem 0 false (aP gs bB s6))::.aB bB 1 (a_.map ay)::.box k5 (.mem 0 false [.int .i64 6,.nul,.int .i64 0,.int .i64 0,.bool false,.int .i64 cap,.int .i64 1])::H):=hH
     have hfz:=jz (L:=s0.bs.length) (l:=jM 6 0 0 false cap 1 []::l) hH aG (by rw[List.map_cons,wj a5];rfl) (fun e he d hd=>by
      rcases List.mem_cons.1 he with rfl|he
      ·simp only[List.mem_cons,List.not_mem_nil,or_false] at hd
       rcases hd with rfl|rfl|rfl|rfl|rfl|rfl|rfl<;>rfl
      ·exact sv a5 e he d hd) (fun k hk=>by rw[←bO];exact gS k hk) (n:=16) (by decide)
     refine ai.ret ⟨rx,_,_,_,rfl,ak hfz,⟨s6,⟨c1,c2,by omega,c4,_,rfl,?_,by simp only[List.length_cons];omega,?_⟩,bS.aq bO ((hH.drop 1).erase 2)⟩⟩
     ·intro n hn
      rcases List.mem_cons.1 hn with rfl|hn
      ·exact⟨rfl,by simp[jM],by simp[jM]⟩
      ·exact a5 n hn
     ·rcases c5 with c5|⟨c5,c6,c7⟩
      ·exact .inl c5
      ·exact .inr ⟨c5,by rw[c7,if_neg (by simp),e6,if_neg (by simp)],by simp only[List.length_cons];omega⟩
end Go.Proofs.YthahmilhpmfkfaaGreat
