/-
 Numbers, texts and flags are written behind bytes: texts and flags; the document's.
-/
import Derived.Test.YtecjacicdpejaaaGreatXGHr
import Derived.Test.YtecjacicdpejaaaGreatXGJp
import Derived.Test.YtecjacicdpejaaaGreatXM2
import Derived.Test.YtecjacicdpejaaaGreatXGJi
import Derived.Test.YtecjacicdpejaaaGreatXGCa
import Derived.Test.YtecjacicdpejaaaGreatXGQe
import Derived.Test.YtecjacicdpejaaaGreatXGUa
set_option maxRecDepth 100000
set_option maxHeartbeats 4000000
set_option linter.unusedSimpArgs false
set_option linter.unusedVariables false
set_option linter.unusedSectionVars false
namespace Go.Proofs.YtecjacicdpejaaaGreat
open Go.V Go
theorem jv {st:St} {x y:D} {l:List UInt8} (hx:Bytes st x l) (hy:Bytes st y l) (hl:l.length<4611686018427387904):Ev pv 21 [x,y] st (.bool true) st:=by
 refine Ev.gP rfl ab4 rfl rfl rfl ?_;refine zE ?_;have hx:=hx.enter .ro;have hy:=hy.enter .ro;have hlen:(byteCells l).length=l.length:=au l;refine zR ?_;refine zU ?_
 refine zW ?_
 refine ab.len rfl rfl rfl hx rfl ?_
 refine zW ?_
 refine ab.len rfl rfl rfl hy rfl ?_;refine zX ?_;refine zN ?_;(repeat refine qq ?_);refine qc (fun h1=>?_) (fun h1=>?_)<;>try simp only[cs] at h1
 ·exact absurd trivial h1
 refine ag.skip<|zR ?_;(repeat refine qq ?_);refine ag.block<|ag.loop (fun j fr ai=>∃i:Nat,fr.clean=⟨6,[x,y,.tup [],.tup [],.bool false,.int .i64 (i:Nat)],[]⟩∧ai=ae .ro st∧i+j=l.length) l.length ⟨0,rfl,rfl,by omega⟩ ?_;rintro j fr ai ⟨i,hfr,rfl,hij⟩;rw[hfr];refine zU ?_
 refine zW ?_
 refine zW ?_
 refine ab.len rfl rfl rfl hx rfl ?_;refine zX ?_;refine zN ?_;rw[hlen];(try refine qy ?_);(repeat refine qq ?_);refine qc (fun h2=>?_) (fun h2=>?_)<;>try simp only[cs] at h2
 ·refine ag.skip ?_;(try refine qy ?_)
  obtain⟨g,hg⟩:∃g,l[i]?=some g:=⟨l[i]'(by omega),List.getElem?_eq_getElem _⟩
  have hr:=kH hg;(try refine qy ?_);(repeat refine qq ?_);refine ag.block<|zU ?_
  refine zW ?_
  refine zW ?_
  refine ab.fp rfl rfl rfl (fun _=>rfl) rfl rfl hx rfl rfl (by omega) hr rfl (fun p=>?_)
  refine zW ?_
  refine zW ?_
  refine ab.fp rfl rfl rfl (fun _=>rfl) rfl rfl hy rfl rfl (by omega) hr rfl (fun p=>?_);refine zX ?_;refine zN ?_;(repeat refine qq ?_);refine qc (fun h3=>?_) (fun h3=>?_)<;>try simp only[cs] at h3
  ·exact absurd trivial h3
  refine ag.skip<|zR ?_;rw[wrap_i64 (by omega) (by omega)];exact⟨j-1,by omega,i+1,rfl,rfl,by omega⟩
 ·refine ag.exit<|zR ?_;refine ag.ret ⟨rx,_,rfl,aU (by simp) (by simp[ae]) ?_⟩
  rfl
def bF (b:List UInt8):D:=.sl ((byteCells b).map (ml 1))
theorem iQ (b:List UInt8):∀e∈byteCells b,e.length=1:=by
 intro e he;obtain⟨y,_,rfl⟩:=List.mem_map.1 he;rfl
theorem cq (b:List UInt8):∀e∈byteCells b,∀d∈e,dh d=true:=by
 intro e he d hd;obtain⟨y,_,rfl⟩:=List.mem_map.1 he;simp only[List.mem_cons,List.not_mem_nil,or_false] at hd;subst hd;rfl
theorem ig (st:St) (b:List UInt8):Bytes st (bF b) b:=Rows.sC (iQ b) (cq b)
def gH (y:UInt8):D:=.int .u8 (y.toNat:Nat)
theorem dK (b:List UInt8):(byteCells b).flatten=b.map gH:=by
 induction b with
 |nil=>rfl
 |cons y b ih=>simp only[byteCells,List.map_cons,List.flatten_cons] at ih⊢;rw[ih];rfl
def fR (fr:Go.V.Fr) (k:Nat):Go.V.D:=Go.V.nth .bI fr.loc k
def iw (f:Bool):List UInt8:=aQ (if f then 1 else 0)
def eK (t:List UInt8):List UInt8:=aQ (t.length:Nat)++t
theorem Ko {s0:St} {x:D} {b:List UInt8} (hx:V.Rows s0 1 x (byteCells b)) (hl:b.length≤60000000000) (f:Bool):
  Ev pv 86 [x,.bool f] s0 (bF (b++iw f)) s0:=by
 refine Ev.gP rfl abn rfl rfl rfl ?_;refine zE ?_;obtain⟨aN,hF,hH⟩:=ri s0;generalize ae .ro s0=S at*;have hx:=Arg.of hx aN;refine zQ 9 ?_;obtain⟨cO,cM⟩:=hH.de hF
 cases f with
 |true=>
  refine zQ 4 ?_;obtain⟨d7,st,ax,ho⟩:=eR (x:=x) (b:=b) cO cM (hx.rows hH) hl 1 (by omega);have hH:=hH.hY ho
  (try dsimp only[u3,u4] at hH)
  refine qv ax ?_;refine zQ 2 ?_;refine ag.ret ⟨rx,_,rfl,rl aN hH ?_⟩;exact hH.kE aB (cq _) (by decide)
 |false=>
  refine zQ 5 ?_;obtain⟨d7,st,ax,ho⟩:=eR (x:=x) (b:=b) cO cM (hx.rows hH) hl 0 (by omega);have hH:=hH.hY ho
  (try dsimp only[u3,u4] at hH)
  refine qv ax ?_;refine zQ 2 ?_;refine ag.ret ⟨rx,_,rfl,rl aN hH ?_⟩;exact hH.kE aB (cq _) (by decide)
theorem Kn {s0:St} {x:D} {b t:List UInt8} (hx:V.Rows s0 1 x (byteCells b)) (hl:b.length≤50000000000) (ht:t.length≤1048576):
  Ev pv 81 [x,.str t] s0 (bF (b++eK t)) s0:=by
 have Ax:=aV (t.length:Nat);refine Ev.gP rfl abt rfl rfl rfl ?_;refine zE ?_;obtain⟨aN,hF,hH⟩:=ri s0;generalize ae .ro s0=S at*;have hx:=Arg.of hx aN;refine zQ 4 ?_;obtain⟨cO,cM⟩:=hH.de hF;refine zQ 4 ?_;refine ab.oV rfl rfl rfl (aa rfl _) ?_;refine ab.e_ (z:=((9+t.length:Nat):Int)) rfl (ev rfl) (ev rfl) (by(try simp only[List.length_reverse,List.length_cons,List.length_nil,List.length_append,List.length_map,List.length_set]);rw[wrap_i64 (by omega) (by omega)]<;>omega) (aa rfl _) ?_;obtain⟨d10,st,ax,ho⟩:=CJ (x:=x) (b:=b) cO cM (hx.rows hH) (by omega) (9+t.length) (by omega);have hH:=hH.hY ho
 (try dsimp only[u3,u4] at hH)
 refine qv ax ?_;refine qm ?_;refine ab.oV rfl rfl rfl (aa rfl _) ?_;obtain⟨cO,cM⟩:=hH.de hF;obtain⟨d13,st,ax,ho⟩:=eR (x:=d10) (b:=b) cO cM (hH.rows aB) (by omega) (t.length:Nat) (by omega);have hH:=hH.hY ho
 (try dsimp only[u3,u4] at hH)
 refine qv ax ?_;refine zQ 2 ?_;have hbl:(byteCells (b++aQ (t.length:Nat))).length=b.length+(aQ (t.length:Nat)).length:=by rw[au,List.length_append]
 refine zQ 4 ?_;refine ab.Ef hH rfl (ev rfl) (ev rfl) aB rfl rfl rfl rfl rfl rfl rfl ⟨(Nat.le_of_ble_eq_true rfl),(Nat.le_of_ble_eq_true rfl)⟩ (fun _=>(aa rfl _)) rfl (by omega) (fun x16 st hH=>?_);dsimp only[u2] at hH;refine zQ 2 ?_
 have hH:Has s0.bs.length S st (.aF x16 1 (byteCells (b++eK t))::[.aF d10 1 (byteCells b)]):=by
  unfold eK;rw[←List.append_assoc,pN];exact hH
 refine ag.ret ⟨rx,_,rfl,rl aN hH ?_⟩;exact hH.kE aB (cq _) (by decide)
theorem KN (m:Nat) (st:St):(fw pv .shr 3 (.int .i64 (m:Nat)) (.int .i64 8)).map (fun d=>(d,st))=some (.int .i64 ((m/256:Nat):Int),st):=by
 show Option.map _ (some (D.int .i64 (Int.fdiv (m:Nat) (2^8))))=_;have:=M7 m 1;simp only[Nat.mul_one,Nat.pow_one] at this;rw[this];rfl
theorem KM (m k:Nat) (hk:k≤8) (st:St):(fw pv .shr 3 (.int .i64 (m:Nat)) (.int .i64 ((8*k:Nat):Int))).map (fun d=>(d,st))=some (.int .i64 ((m/256^k:Nat):Int),st):=by
 show Option.map _ (if((8*k:Nat):Int)<0 then none else some (D.int .i64 (Int.fdiv (m:Nat) (2^(min ((8*k:Nat):Int).toNat 64)))))=_;rw[if_neg (by omega),Int.toNat_natCast,Nat.min_eq_left (by omega),M7];rfl
theorem Qc (q:Nat) (st:St):j8 pv 3 5 (.int .i64 (q:Nat)) st=some (.int .u8 ((q %256:Nat):Int),st):=by
 show some (D.int .u8 (bJ .u8 (q:Nat)),st)=_;rw[Kk]
theorem eG {s0:St} {x:D} {b:List UInt8} (hF:s0.flr≤s0.bs.length) (du:s0.ro≤s0.bs.length) (hx:V.Rows s0 1 x (byteCells b)) (hl:b.length≤60000000000) (n:Int) (hn:n<9223372036854775808):
  ∃d ai,Ev pv 34 [x,.int .i64 n] s0 d ai∧kC s0 ai d (b++aQ n):=by
 obtain⟨m,hm⟩:∃m,n.toNat=m:=⟨_,rfl⟩
 have D9:m<256^8:=by omega
 obtain⟨rj,hk2⟩:=wu D9;have N':=HQ m;have TM:aQ n=UInt8.ofNat (kB m)::tA (kB m) m:=by unfold aQ;rw[hm]
 have uN:=au b;rw[TM];refine Ev.eN rfl abU rfl rfl rfl ?_;refine zE ?_;have aN:(ae .nw s0).bs=s0.bs:=rfl;have hF:(ae .nw s0).flr≤s0.bs.length:=hF;have hH:Has s0.bs.length (ae .nw s0) (ae .nw s0) []:=Has.start (Nat.le_refl _) (Nat.le_refl _);generalize ae .nw s0=S at*;have hx:=Arg.of hx aN;refine zQ 6 ?_;refine ab.Mp (s:=1) hH rfl rfl rfl rfl rfl (fun _=>(aa rfl _)) (fun k9 st PB hH=>?_);refine qm ?_;refine ab.iO (s:=1) hH rfl (ev rfl) (ev rfl) (by exact aB) (by exact Arg.rows (by assumption) hH) rfl rfl rfl rfl rfl rfl rfl ⟨(Nat.le_of_ble_eq_true rfl),(Nat.le_of_ble_eq_true rfl)⟩ (fun _=>(aa rfl _)) rfl (by simp only[List.length_nil]<;>omega) (by exact .inl hF) (fun TZ st hH=>?_);dsimp only[u2,u1,u3,u4,setMany,u5,u6,D.cells,Nat.reduceAdd] at hH;refine zQ 2 ?_;have hH:Has s0.bs.length S st [.aF TZ 1 (byteCells b)]:=hH;refine zQ 2 ?_;refine ag.jI (fun fr st=>∃(tmp:List (Nat×D)),fr=⟨9,[x,.int .i64 (m:Nat),fR fr 2,fR fr 3,fR fr 4,TZ,fR fr 6,fR fr 7,fR fr 8],tmp⟩∧Has s0.bs.length S st [.aF TZ 1 (byteCells b)]∧(True)) ?_ ?_
 ·refine zQ 4 ?_;refine zP (fun h0=>?_) fun h0=>?_
  ·refine zQ 3 ?_;have lC:m=0:=by omega
   subst lC;exact⟨_,rfl,hH,trivial⟩
  ·refine zQ 1 ?_;have Pw:n=(m:Nat):=by omega
   subst Pw;exact⟨_,rfl,hH,trivial⟩
 ·rintro fr st ⟨tmp,hfr,hH,ht⟩;rw[hfr];clear hfr;generalize fR fr=ee;clear fr;refine zQ 11 ?_;refine ag.loop (fun mm fr st=>∃(k q:Nat),fr.clean=⟨9,[fR fr 0,.int .i64 (m:Nat),fR fr 2,fR fr 3,fR fr 4,TZ,.int .i64 (k:Nat),.int .i64 (q:Nat),fR fr 8],[]⟩∧Has s0.bs.length S st [.aF TZ 1 (byteCells b)]∧(q=mm)∧(q=m/256^k)∧(k≤kB m)) (m) ?_ ?_
  ·exact⟨0,m,rfl,hH,rfl,by simp,by omega⟩
  rintro mm fr st ⟨k,q,hfr,hH,hq,hqk,hkk⟩;rw[hfr];clear hfr;generalize fR fr=ee;clear fr;refine zQ 6 ?_
  by_cases hq0:0<q
  ·have hlt:k<kB m:=by
    rcases Nat.lt_or_ge k (kB m) with h|h
    ·exact h
    ·have:k=kB m:=by omega
     subst this;omega
   have hc:decide (((q:Nat):Int)>0)=true:=by rw[decide_eq_true_eq];omega
   refine qD rfl (by rw[hc]) ?_;refine zQ 10 ?_;refine ab.go (d:=.int .i64 ((q/256:Nat):Int)) (st1:=_) rfl rfl (by exact KN q _) (aa rfl _) ?_;refine zQ 2 ?_;have hd:q/256<q:=Nat.div_lt_self hq0 (by decide);exact⟨q/256,by omega,k+1,q/256,rfl,hH,rfl,by rw[hqk,Nat.pow_succ,Nat.div_div_eq_div_mul],by omega⟩
  ·have hc:decide (((q:Nat):Int)>0)=false:=by rw[decide_eq_false_iff_not];omega
   have Vz:k=kB m:=by
    rcases Nat.lt_or_ge k (kB m) with h|h
    ·have:=hk2 k h;omega
    ·omega
   subst Vz;refine qE rfl (by rw[hc]) ?_;refine zQ 5 ?_;refine ab.go (d:=.int .u8 (kB m:Nat)) (st1:=_) rfl rfl (by show some (D.int .u8 (bJ .u8 (kB m:Nat)),_)=_;rw[ct (by simp only[ic];omega)]) (aa rfl _) ?_;refine qh (s:=1) (vs:=[_]) hH fun k24 st VF hH=>?_;refine ab.iO (s:=1) hH rfl (ev rfl) (ev rfl) (by exact aO) (by exact hH.rows (by exact aB)) rfl rfl rfl rfl rfl rfl rfl ⟨(Nat.le_of_ble_eq_true rfl),(Nat.le_of_ble_eq_true rfl)⟩ (fun _=>(aa rfl _)) rfl (by simp only[List.length_cons,List.length_nil,List.length_map]<;>omega) (by exact .inl hF) (fun Yk st hH=>?_);dsimp only[u2,u1,u3,u4,setMany,u5,u6,D.cells,Nat.reduceAdd] at hH;refine zQ 2 ?_
   have hH:Has s0.bs.length S st [.aF Yk 1 (byteCells (b++[UInt8.ofNat (kB m)]))]:=by
    rw[pN,Q4 (by omega)];exact hH.drop 1
   refine zQ 4 ?_;refine ab.KB rfl (ev rfl) (ev rfl) (by omega) (by omega) (aa rfl _) ?_;refine zQ 2 ?_;have hbl:∀j,(tA j m).length=j:=fun j=>q_ j m
   obtain⟨T,hT⟩:∃T,b++UInt8.ofNat (kB m)::tA (kB m) m=T:=⟨_,rfl⟩
   have Wc:T.length=b.length+kB m+1:=by rw[←hT];simp[hbl];omega
   refine zQ 1 ?_;refine ag.loop (fun mm fr st=>∃(j:Nat) (y:D) (pre:List UInt8),fr.clean=⟨9,[fR fr 0,.int .i64 (m:Nat),fR fr 2,fR fr 3,fR fr 4,y,fR fr 6,fR fr 7,.int .i64 ((j:Int)-1)],[]⟩∧Has s0.bs.length S st [.aF y 1 (byteCells pre)]∧(j=mm)∧(j≤kB m)∧(pre++tA j m=T)) (kB m) ?_ ?_
   ·exact⟨kB m,Yk,b++[UInt8.ofNat (kB m)],rfl,hH,rfl,Nat.le_refl _,(by rw[←hT,List.append_assoc];rfl)⟩
   rintro mm fr st ⟨j,y,pre,hfr,hH,hj,hjk,hp⟩;rw[hfr];clear hfr;generalize fR fr=ee;clear fr;have fT:pre.length+j=T.length:=by rw[←hp,List.length_append,hbl]
   have hbp:=au pre;refine zQ 6 ?_
   cases j with
   |succ j=>
    have hc:decide (((j+1:Nat):Int)-1≥0)=true:=by rw[decide_eq_true_eq];omega
    refine qD rfl (by rw[hc]) ?_;refine zQ 1 ?_;have SG:((j+1:Nat):Int)-1=(j:Nat):=by omega
    rw[SG];have hq:m/256^j %256<256:=Nat.mod_lt _ (by decide);refine zQ 6 ?_;refine ab.DE (z:=((8*j:Nat):Int)) rfl (ev rfl) (ev rfl) (by rw[show(8:Int)*(j:Nat)=((8*j:Nat):Int) by omega,ct (by simp only[ic];omega)]) (aa rfl _) ?_;refine ab.go (d:=.int .i64 ((m/256^j:Nat):Int)) (st1:=_) rfl rfl (by exact KM m j (by omega) _) (aa rfl _) ?_;refine ab.go (d:=.int .u8 ((m/256^j %256:Nat):Int)) (st1:=_) rfl rfl (by exact Qc _ _) (aa rfl _) ?_;refine qh (s:=1) (vs:=[_]) hH fun k38 st adw hH=>?_;refine ab.iO (s:=1) hH rfl (ev rfl) (ev rfl) (by exact aO) (by exact hH.rows (by exact aB)) rfl rfl rfl rfl rfl rfl rfl ⟨(Nat.le_of_ble_eq_true rfl),(Nat.le_of_ble_eq_true rfl)⟩ (fun _=>(aa rfl _)) rfl (by simp only[List.length_cons,List.length_nil,List.length_map]<;>omega) (by exact .inl hF) (fun x39 st hH=>?_);dsimp only[u2,u1,u3,u4,setMany,u5,u6,D.cells,Nat.reduceAdd] at hH;refine zQ 2 ?_
    have hH:Has s0.bs.length S st [.aF x39 1 (byteCells (pre++[UInt8.ofNat (m/256^j)]))]:=by
     rw[pN,Nw];exact hH.drop 1
    refine zQ 2 ?_;refine ab.gd (z:=((j:Int)-1)) rfl (ev rfl) (ev rfl) (by(try simp only[List.length_reverse,List.length_cons,List.length_nil,List.length_append,List.length_map,List.length_set]);rw[wrap_i64 (by omega) (by omega)]<;>omega) (aa rfl _) ?_;refine zQ 2 ?_;exact⟨j,by omega,⟨j,x39,pre++[UInt8.ofNat (m/256^j)],rfl,hH,rfl,by omega,(by rw[List.append_assoc];exact hp)⟩⟩
   |zero=>
    have hc:decide (((0:Nat):Int)-1≥0)=false:=rfl;refine qE rfl (by rw[hc]) ?_;refine zQ 1 ?_;have Z9:pre=T:=by rw[←hp];simp[tA]
    subst Z9;refine zQ 5 ?_;refine ag.ret ⟨rx,_,_,_,rfl,rfl,?_⟩;rw[hT];exact hH.dU aN du
theorem K7 {s0:St} {x:D} {b:List UInt8} (hx:V.Rows s0 1 x (byteCells b)) (hl:b.length≤60000000000) (f:Bool):
  Ev pv 90 [x,.bool f] s0 (bF (b++iw f)) s0:=by
 refine Ev.gP rfl abj rfl rfl rfl ?_;refine zE ?_;obtain⟨aN,hF,hH⟩:=ri s0;generalize ae .ro s0=S at*;have hx:=Arg.of hx aN;refine zQ 9 ?_;obtain⟨cO,cM⟩:=hH.de hF
 cases f with
 |true=>
  refine zQ 4 ?_;obtain⟨d7,st,ax,ho⟩:=eG (x:=x) (b:=b) cO cM (hx.rows hH) hl 1 (by omega);have hH:=hH.hY ho
  (try dsimp only[u3,u4] at hH)
  refine qv ax ?_;refine zQ 2 ?_;refine ag.ret ⟨rx,_,rfl,rl aN hH ?_⟩;exact hH.kE aB (cq _) (by decide)
 |false=>
  refine zQ 5 ?_;obtain⟨d7,st,ax,ho⟩:=eG (x:=x) (b:=b) cO cM (hx.rows hH) hl 0 (by omega);have hH:=hH.hY ho
  (try dsimp only[u3,u4] at hH)
  refine qv ax ?_;refine zQ 2 ?_;refine ag.ret ⟨rx,_,rfl,rl aN hH ?_⟩;exact hH.kE aB (cq _) (by decide)
theorem K5 {s0:St} {x:D} {b t:List UInt8} (hx:V.Rows s0 1 x (byteCells b)) (hl:b.length≤50000000000) (ht:t.length≤1048576):
  Ev pv 82 [x,.str t] s0 (bF (b++eK t)) s0:=by
 have Ax:=aV (t.length:Nat);refine Ev.gP rfl abr rfl rfl rfl ?_;refine zE ?_;obtain⟨aN,hF,hH⟩:=ri s0;generalize ae .ro s0=S at*;have hx:=Arg.of hx aN;refine zQ 4 ?_;obtain⟨cO,cM⟩:=hH.de hF;have hbl:(byteCells (b++aQ (t.length:Nat))).length=b.length+(aQ (t.length:Nat)).length:=by rw[au,List.length_append]
 refine zQ 4 ?_;refine ab.oV rfl rfl rfl (aa rfl _) ?_;obtain⟨d8,st,ax,ho⟩:=eG (x:=x) (b:=b) cO cM (hx.rows hH) (by omega) (t.length:Nat) (by omega);have hH:=hH.hY ho
 (try dsimp only[u3,u4] at hH)
 refine qv ax ?_;refine qm ?_;refine ab.Ef hH rfl (ev rfl) (ev rfl) aB rfl rfl rfl rfl rfl rfl rfl ⟨(Nat.le_of_ble_eq_true rfl),(Nat.le_of_ble_eq_true rfl)⟩ (fun _=>(aa rfl _)) rfl (by omega) (fun x10 st hH=>?_);dsimp only[u2] at hH;refine zQ 2 ?_
 have hH:Has s0.bs.length S st (.aF x10 1 (byteCells (b++eK t))::[]):=by
  unfold eK;rw[←List.append_assoc,pN];exact hH
 refine ag.ret ⟨rx,_,rfl,rl aN hH ?_⟩;exact hH.kE aB (cq _) (by decide)
def bX (fr:Go.V.Fr) (k:Nat):Go.V.D:=Go.V.nth .bI fr.loc k
def nf (s:BitVec 32):D:=.int .u32 (s.toNat:Nat)
def GL (s:BitVec 32):BitVec 32:=if s &&&1#32=1#32 then(s>>>1)^^^2197175160#32 else s>>>1
def vS:Nat→BitVec 32→BitVec 32
 |0,s=>s
 |k+1,s=>vS k (GL s)
def EC:BitVec 32→List UInt8→BitVec 32
 |s,[]=>s
 |s,c::l=>EC (vS 8 (s^^^BitVec.ofNat 32 c.toNat)) l
def k_ (c : BitVec 32) (b : List UInt8) : BitVec 32 := ~~~ (EC (~~~ c) b)
theorem wrap32 {n:Nat} (h:n<2^32):bJ .u32 (n:Nat)=(n:Int):=ct (by simp only[ic];omega)
theorem Lu (a:BitVec 32):BitVec.ofInt 32 (a.toNat:Nat)=a:=by
 rw[BitVec.ofInt_natCast,BitVec.ofNat_toNat,BitVec.setWidth_eq]
theorem Bb (a b:BitVec 32) (st:St):(fw pv .xor 121 (nf a) (nf b)).map (fun d=>(d,st))=some (nf (a^^^b),st):=by
 show Option.map _ (some (D.int .u32 (bJ .u32 ((BitVec.ofInt 32 (a.toNat:Nat)^^^BitVec.ofInt 32 (b.toNat:Nat)).toNat:Nat))))=_;rw[Lu,Lu,wrap32 (BitVec.isLt _)];rfl
theorem Cs (a b:BitVec 32) (st:St):(fw pv .and 121 (nf a) (nf b)).map (fun d=>(d,st))=some (nf (a &&&b),st):=by
 show Option.map _ (some (D.int .u32 (bJ .u32 ((BitVec.ofInt 32 (a.toNat:Nat) &&&BitVec.ofInt 32 (b.toNat:Nat)).toNat:Nat))))=_;rw[Lu,Lu,wrap32 (BitVec.isLt _)];rfl
theorem BC (a:BitVec 32) (st:St):(Yl .xor (nf a)).map (fun d=>(d,st))=some (nf (~~~a),st):=by
 show Option.map _ (some (D.int .u32 (bJ .u32 ((BitVec.ofInt 32 4294967295^^^BitVec.ofInt 32 (a.toNat:Nat)).toNat:Nat))))=_;rw[Lu,show BitVec.ofInt 32 4294967295=BitVec.allOnes 32 from rfl,BitVec.allOnes_xor,wrap32 (BitVec.isLt _)];rfl
theorem Fm (a:BitVec 32) (st:St):(fw pv .shr 121 (nf a) (.int .u64 1)).map (fun d=>(d,st))=some (nf (a>>>1),st):=by
 show Option.map _ (some (D.int .u32 (Int.fdiv (a.toNat:Nat) (2^1))))=_;rw[Int.fdiv_eq_ediv_of_nonneg _ (by decide)];show some (D.int .u32 ((a.toNat/2:Nat):Int),st)=_;rw[nf,BitVec.toNat_ushiftRight,Nat.shiftRight_succ,Nat.shiftRight_zero]
theorem Q3 (c:UInt8) (st:St):j8 pv 5 121 (.int .u8 (c.toNat:Nat)) st=some (nf (BitVec.ofNat 32 c.toNat),st):=by
 show some (D.int .u32 (bJ .u32 (c.toNat:Nat)),st)=_;have h:c.toNat<256:=c.toNat_lt;rw[wrap32 (by omega),nf,BitVec.toNat_ofNat,Nat.mod_eq_of_lt (by omega)]
theorem Qy {s0:St} {x:D} {b:List UInt8} (hx:V.Rows s0 1 x (byteCells b)) (hl:b.length≤1000000000000) (c:BitVec 32):Ev pv 71 [nf c,x] s0 (nf (k_ c b)) s0:=by
 have uN:=au b;refine Ev.gP rfl abC rfl rfl rfl ?_;refine zE ?_;obtain⟨aN,hF,hH⟩:=ri s0;generalize ae .ro s0=S at*;have hx:=Arg.of hx aN;refine zQ 7 ?_;refine ab.go (d:=nf (~~~c)) (st1:=_) rfl rfl (by exact BC c _) (by dsimp only[Fr.put,u1,u2]<;>rfl) ?_;refine zQ 6 ?_;refine qn ?_;refine zQ 2 ?_
 obtain⟨R,hR⟩:∃R,EC (~~~c) b=R:=⟨_,rfl⟩
 refine zQ 1 ?_;refine ag.loop (fun mm fr st=>∃(i:Nat) (s:BitVec 32),fr.clean=⟨22,[bX fr 0,bX fr 1,bX fr 2,bX fr 3,bX fr 4,nf s,bX fr 6,bX fr 7,bX fr 8,bX fr 9,bX fr 10,x,.int .i64 ((byteCells b).length:Nat),.int .i64 (i:Nat),bX fr 14,bX fr 15,bX fr 16,bX fr 17,bX fr 18,bX fr 19,bX fr 20,bX fr 21],[]⟩∧Has s0.bs.length S st []∧(i+mm=b.length)∧(EC s (b.drop i)=R)) (b.length) ?_ ?_
 ·exact⟨0,~~~c,rfl,hH,by omega,hR⟩
 rintro mm fr st ⟨i,s,hfr,hH,hi,hs⟩;rw[hfr];clear hfr;generalize bX fr=ee;clear fr;refine zQ 5 ?_;refine zP (fun h1=>?_) fun h1=>?_
 ·refine zQ 1 ?_
  obtain⟨q,hq⟩:∃q,b[i]?=some q:=⟨b[i]'(by omega),List.getElem?_eq_getElem _⟩
  have gw:(byteCells b)[i]?=some [.int .u8 (q.toNat:Nat)]:=by unfold byteCells;rw[List.getElem?_map,hq];rfl
  have vP:b.drop i=q::b.drop (i+1):=by
   have:=List.drop_eq_getElem_cons (l:=b) (i:=i) (by omega);rw[this];congr 1;rw[List.getElem?_eq_getElem (by omega)] at hq;exact Option.some.inj hq
  rw[vP] at hs;change EC (vS 8 (s^^^BitVec.ofNat 32 q.toNat)) (b.drop (i+1))=R at hs;refine zQ 4 ?_;refine qr fun Ys Ps=>?_;refine zQ 7 ?_;refine ab.go (d:=nf (BitVec.ofNat 32 q.toNat)) (st1:=_) rfl rfl (by exact Q3 q _) (by dsimp only[Fr.put,u1,u2]<;>rfl) ?_;refine ab.go (d:=nf (s^^^BitVec.ofNat 32 q.toNat)) (st1:=_) rfl rfl (by exact Bb _ _ _) (by dsimp only[Fr.put,u1,u2]<;>rfl) ?_;refine zQ 2 ?_;generalize s^^^BitVec.ofNat 32 q.toNat=s1 at*;refine zQ 5 ?_;refine ag.loop (fun mm fr st=>∃(j:Nat) (s2:BitVec 32),fr.clean=⟨22,[bX fr 0,bX fr 1,bX fr 2,bX fr 3,bX fr 4,nf s2,bX fr 6,bX fr 7,bX fr 8,bX fr 9,bX fr 10,x,.int .i64 ((byteCells b).length:Nat),.int .i64 (i:Nat),bX fr 14,bX fr 15,bX fr 16,bX fr 17,bX fr 18,bX fr 19,bX fr 20,.int .i64 (j:Nat)],[]⟩∧Has s0.bs.length S st []∧(j+mm=8)∧(vS (8-j) s2=vS 8 s1)) (8) ?_ ?_
  ·exact⟨0,s1,rfl,hH,by omega,rfl⟩
  rintro mm fr st ⟨j,s2,hfr,hH,hj,ht⟩;rw[hfr];clear hfr;generalize bX fr=ee;clear fr;refine zQ 5 ?_;refine zP (fun h2=>?_) fun h2=>?_
  ·refine zQ 1 ?_;have hk:8-j=(8-(j+1))+1:=by omega
   rw[hk] at ht;change vS (8-(j+1)) (GL s2)=_ at ht;refine zQ 5 ?_;refine ab.go (d:=nf (s2 &&&1#32)) (st1:=_) rfl rfl (by exact Cs s2 1#32 _) (aa rfl _) ?_;refine zQ 5 ?_;refine ab.go (d:=nf (s2>>>1)) (st1:=_) rfl rfl (by exact Fm s2 _) (aa rfl _) ?_;refine zQ 7 ?_
   by_cases hb:s2 &&&1#32=1#32
   ·have hc:((((s2 &&&1#32).toNat:Nat):Int)==1)=true:=by rw[hb];rfl
    refine ag.cond (v:=true) (by dsimp only[Fr.ev,Fr.get,nth,V.look];exact congrArg D.bool hc) (fun _=>?_) (fun h=>by cases h);refine zQ 2 ?_;refine ab.go (d:=nf ((s2>>>1)^^^2197175160#32)) (st1:=_) rfl rfl (by exact Bb (s2>>>1) 2197175160#32 _) (aa rfl _) ?_;refine zQ 2 ?_;rw[GL,if_pos hb] at ht;refine zQ 4 ?_;exact⟨mm-1,by omega,⟨j+1,_,rfl,hH,by omega,ht⟩⟩
   ·have hc:((((s2 &&&1#32).toNat:Nat):Int)==1)=false:=by
     rw[beq_eq_false_iff_ne];intro h;exact hb (BitVec.eq_of_toNat_eq (by have e:(1#32).toNat=1:=rfl;omega))
    refine ag.cond (v:=false) (by dsimp only[Fr.ev,Fr.get,nth,V.look];exact congrArg D.bool hc) (fun h=>by cases h) (fun _=>?_);refine zQ 1 ?_;rw[GL,if_neg hb] at ht;refine zQ 4 ?_;exact⟨mm-1,by omega,⟨j+1,_,rfl,hH,by omega,ht⟩⟩
  ·refine zQ 1 ?_;have hj8:j=8:=by omega
   subst hj8;have ht:s2=vS 8 s1:=ht;rw[←ht] at hs;refine zQ 4 ?_;exact⟨b.length-(i+1),by omega,⟨i+1,s2,rfl,hH,by omega,hs⟩⟩
 ·refine zQ 1 ?_;have hil:b.drop i=[]:=List.drop_eq_nil_of_le (by omega);rw[hil] at hs;have hs:s=R:=hs;subst hs;refine zQ 3 ?_;refine ab.go (d:=nf (~~~s)) (st1:=_) rfl rfl (by exact BC s _) (aa rfl _) ?_;refine zQ 2 ?_;unfold k_;rw[hR];refine ag.ret ⟨rx,_,rfl,rl aN hH (rfl)⟩
theorem K6 {s0:St} {x:D} {b:List UInt8} (hx:V.Rows s0 1 x (byteCells b)) (hl:b.length≤1000000000000) (c:BitVec 32):Ev pv 79 [nf c,x] s0 (nf (k_ c b)) s0:=by
 have uN:=au b;refine Ev.gP rfl abu rfl rfl rfl ?_;refine zE ?_;obtain⟨aN,hF,hH⟩:=ri s0;generalize ae .ro s0=S at*;have hx:=Arg.of hx aN;refine zQ 7 ?_;refine ab.go (d:=nf (~~~c)) (st1:=_) rfl rfl (by exact BC c _) (aa rfl _) ?_;refine zQ 7 ?_
 obtain⟨R,hR⟩:∃R,EC (~~~c) b=R:=⟨_,rfl⟩
 refine zQ 1 ?_;refine ag.loop (fun mm fr st=>∃(i:Nat) (s:BitVec 32),fr.clean=⟨8,[bX fr 0,x,bX fr 2,bX fr 3,bX fr 4,nf s,.int .i64 (i:Nat),bX fr 7],[]⟩∧Has s0.bs.length S st []∧(i+mm=b.length)∧(EC s (b.drop i)=R)) (b.length) ?_ ?_
 ·exact⟨0,~~~c,rfl,hH,by omega,hR⟩
 rintro mm fr st ⟨i,s,hfr,hH,hi,hs⟩;rw[hfr];clear hfr;generalize bX fr=ee;clear fr;refine zQ 5 ?_;refine qn ?_;refine zQ 2 ?_;refine zP (fun h1=>?_) fun h1=>?_
 ·refine zQ 1 ?_
  obtain⟨q,hq⟩:∃q,b[i]?=some q:=⟨b[i]'(by omega),List.getElem?_eq_getElem _⟩
  have gw:(byteCells b)[i]?=some [.int .u8 (q.toNat:Nat)]:=by unfold byteCells;rw[List.getElem?_map,hq];rfl
  have vP:b.drop i=q::b.drop (i+1):=by
   have:=List.drop_eq_getElem_cons (l:=b) (i:=i) (by omega);rw[this];congr 1;rw[List.getElem?_eq_getElem (by omega)] at hq;exact Option.some.inj hq
  rw[vP] at hs;change EC (vS 8 (s^^^BitVec.ofNat 32 q.toNat)) (b.drop (i+1))=R at hs;refine zQ 7 ?_;refine qr fun Yr Pr=>?_;refine qR ?_;refine ab.go (d:=nf (BitVec.ofNat 32 q.toNat)) (st1:=_) rfl rfl (by exact Q3 q _) (aa rfl _) ?_;refine ab.go (d:=nf (s^^^BitVec.ofNat 32 q.toNat)) (st1:=_) rfl rfl (by exact Bb _ _ _) (aa rfl _) ?_;refine zQ 2 ?_;generalize s^^^BitVec.ofNat 32 q.toNat=s1 at*;refine zQ 5 ?_;refine ag.loop (fun mm fr st=>∃(j:Nat) (s2:BitVec 32),fr.clean=⟨8,[bX fr 0,x,bX fr 2,bX fr 3,bX fr 4,nf s2,.int .i64 (i:Nat),.int .i64 (j:Nat)],[]⟩∧Has s0.bs.length S st []∧(j+mm=8)∧(vS (8-j) s2=vS 8 s1)) (8) ?_ ?_
  ·exact⟨0,s1,rfl,hH,by omega,rfl⟩
  rintro mm fr st ⟨j,s2,hfr,hH,hj,ht⟩;rw[hfr];clear hfr;generalize bX fr=ee;clear fr;refine zQ 6 ?_;refine zP (fun h2=>?_) fun h2=>?_
  ·refine zQ 1 ?_;have hk:8-j=(8-(j+1))+1:=by omega
   rw[hk] at ht;change vS (8-(j+1)) (GL s2)=_ at ht;refine zQ 5 ?_;refine ab.go (d:=nf (s2 &&&1#32)) (st1:=_) rfl rfl (by exact Cs s2 1#32 _) (aa rfl _) ?_;refine zQ 2 ?_
   by_cases hb:s2 &&&1#32=1#32
   ·have hc:((((s2 &&&1#32).toNat:Nat):Int)==1)=true:=by rw[hb];rfl
    refine ag.cond (v:=true) (by dsimp only[Fr.ev,Fr.get,nth,V.look];exact congrArg D.bool hc) (fun _=>?_) (fun h=>by cases h);refine zQ 2 ?_;refine ab.go (d:=nf (s2>>>1)) (st1:=_) rfl rfl (by exact Fm s2 _) (aa rfl _) ?_;refine ab.go (d:=nf ((s2>>>1)^^^2197175160#32)) (st1:=_) rfl rfl (by exact Bb (s2>>>1) 2197175160#32 _) (aa rfl _) ?_;refine zQ 2 ?_;rw[GL,if_pos hb] at ht;refine zQ 5 ?_;exact⟨mm-1,by omega,⟨j+1,_,rfl,hH,by omega,ht⟩⟩
   ·have hc:((((s2 &&&1#32).toNat:Nat):Int)==1)=false:=by
     rw[beq_eq_false_iff_ne];intro h;exact hb (BitVec.eq_of_toNat_eq (by have e:(1#32).toNat=1:=rfl;omega))
    refine ag.cond (v:=false) (by dsimp only[Fr.ev,Fr.get,nth,V.look];exact congrArg D.bool hc) (fun h=>by cases h) (fun _=>?_);refine zQ 2 ?_;refine ab.go (d:=nf (s2>>>1)) (st1:=_) rfl rfl (by exact Fm s2 _) (aa rfl _) ?_;refine zQ 2 ?_;rw[GL,if_neg hb] at ht;refine zQ 5 ?_;exact⟨mm-1,by omega,⟨j+1,_,rfl,hH,by omega,ht⟩⟩
  ·refine zQ 1 ?_;have hj8:j=8:=by omega
   subst hj8;have ht:s2=vS 8 s1:=ht;rw[←ht] at hs;refine zQ 5 ?_;exact⟨b.length-(i+1),by omega,⟨i+1,s2,rfl,hH,by omega,hs⟩⟩
 ·refine zQ 1 ?_;have hil:b.drop i=[]:=List.drop_eq_nil_of_le (by omega);rw[hil] at hs;have hs:s=R:=hs;subst hs;refine zQ 3 ?_;refine ab.go (d:=nf (~~~s)) (st1:=_) rfl rfl (by exact BC s _) (aa rfl _) ?_;refine zQ 2 ?_;unfold k_;rw[hR];refine ag.ret ⟨rx,_,rfl,rl aN hH (rfl)⟩
def cI (fr:Go.V.Fr) (k:Nat):Go.V.D:=Go.V.nth .bI fr.loc k
theorem g_ (b:List UInt8) (st:St):V.Rows st 1 (bF b) (byteCells b):=(dg.frozen (iQ b) (cq b)).rows st
def xA (l:List Int):List UInt8:=(l.map aQ).flatten
def Hw (r:Rg):List UInt8:=aQ r.1++aQ r.2
def w9 (l:List Rg):List UInt8:=(l.map Hw).flatten
def rf (i:aP):List UInt8:=aQ i.op++(aQ i.x++(aQ i.y++(aQ (i.rs.length:Nat)++w9 i.rs)))
def rA (l:List aP):List UInt8:=(l.map rf).flatten
def gy (c:List aP) (s:List Int):List UInt8:=aQ (s.length:Nat)++(xA s++(aQ (c.length:Nat)++rA c))
theorem kO {α:Type} {f:α→List UInt8} {n:Nat}:∀{l:List α},(∀x∈l,(f x).length≤n)→((l.map f).flatten).length≤n*l.length
 |[],_=>by simp
 |x::l,h=>by
  have ih:=kO (l:=l) fun y hy=>h y (List.mem_cons_of_mem _ hy);have:=h x (List.mem_cons_self ..);simp only[List.map_cons,List.flatten_cons,List.length_append,List.length_cons,Nat.mul_add,Nat.mul_one];omega
theorem jQ {α:Type} {f:α→List UInt8} {l:List α} {i:Nat} {x:α} (h:l[i]?=some x):(((l.take (i+1)).map f).flatten)=((l.take i).map f).flatten++f x:=by
 rw[List.take_add_one,h,Option.toList_some,List.map_append,List.flatten_append];simp
theorem xz (l:List Int):(xA l).length≤9*l.length:=kO fun v _=>aV v
theorem KZ (r:Rg):(Hw r).length≤18:=by unfold Hw;have:=aV r.1;have:=aV r.2;rw[List.length_append];omega
theorem Hu (l:List Rg):(w9 l).length≤18*l.length:=kO fun r _=>KZ r
structure aP.fit (i:aP):Prop where
 op:i.op<9223372036854775808
 x:i.x<9223372036854775808
 y:i.y<9223372036854775808
 r:∀g∈i.rs,-2147483648≤g.1∧g.1≤2147483647∧-2147483648≤g.2∧g.2≤2147483647
theorem HS {i:aP} (h:i.rs.length≤1048576):(rf i).length≤18874404:=by
 unfold rf;have:=aV i.op;have:=aV i.x;have:=aV i.y;have:=aV (i.rs.length:Nat);have:=Hu i.rs;simp only[List.length_append];omega
theorem Qe {v:Int} (h1:-2147483648≤v) (h2:v≤2147483647) (st:St):j8 pv 21 3 (.int .i32 v) st=some (.int .i64 v,st):=by
 show some (D.int .i64 (bJ .i64 v),st)=_;rw[wrap_i64 (by omega) (by omega)]
theorem Wf {s0:St} {x:D} {b:List UInt8} (hF:s0.flr≤s0.bs.length) (du:s0.ro≤s0.bs.length) (hx:V.Rows s0 1 x (byteCells b)) (hl:b.length≤50000000000) {r:Rg} (hr:-2147483648≤r.1∧r.1≤2147483647∧-2147483648≤r.2∧r.2≤2147483647):
  ∃d ai,Ev pv 77 [x,.agg (aw r)] s0 d ai∧kC s0 ai d (b++Hw r):=by
 have jX:=aV r.1;refine Ev.eN rfl abw rfl rfl rfl ?_;refine zE ?_;have aN:(ae .nw s0).bs=s0.bs:=rfl;have hF:(ae .nw s0).flr≤s0.bs.length:=hF;have hH:Has s0.bs.length (ae .nw s0) (ae .nw s0) []:=Has.start (Nat.le_refl _) (Nat.le_refl _);generalize ae .nw s0=S at*;have hx:=Arg.of hx aN;refine zQ 2 ?_;refine qb hH fun k3 st oC hH=>?_;dsimp only[u2,u1,u3,u4,setMany,u5,u6,D.cells,Nat.reduceAdd,aw] at hH;refine zQ 7 ?_;refine ab.go (d:=.int .i64 r.1) (st1:=_) rfl rfl (by exact Qe hr.1 hr.2.1 _) (aa rfl _) ?_;obtain⟨cO,cM⟩:=hH.de hF;obtain⟨d9,st,ax,ho⟩:=eR (x:=x) (b:=b) cO cM (hx.rows hH) (by omega) r.1 (by omega);have hH:=hH.hY ho
 (try dsimp only[u3,u4] at hH)
 refine qv ax ?_;refine zQ 2 ?_;refine ab.go (d:=.int .i64 r.2) (st1:=_) rfl rfl (by exact Qe hr.2.2.1 hr.2.2.2 _) (aa rfl _) ?_;obtain⟨cO,cM⟩:=hH.de hF;obtain⟨d13,st,ax,ho⟩:=eR (x:=d9) (b:=b++aQ r.1) cO cM (hH.rows aB) (by rw[List.length_append];omega) r.2 (by omega);have hH:=hH.hY ho
 (try dsimp only[u3,u4] at hH)
 refine qv ax ?_;refine zQ 2 ?_;refine ag.ret ⟨rx,_,_,_,rfl,rfl,?_⟩;have h1:=(hH.take 1).dU aN du;unfold kC Hw;rw[←List.append_assoc];exact h1
theorem IF {s0:St} {x y:D} {b:List UInt8} {l:List Int} (hF:s0.flr≤s0.bs.length) (du:s0.ro≤s0.bs.length) (hx:V.Rows s0 1 x (byteCells b)) (hy:V.Rows s0 1 y (l.map az)) (hl:b.length≤40000000000) (px:l.length≤1048576) (rO:∀v∈l,v<9223372036854775808):
  ∃d ai,Ev pv 72 [x,y,.fn 73 []] s0 d ai∧kC s0 ai d (b++(aQ (l.length:Nat)++((l.map aQ).flatten))):=by
 have jX:=aV (l.length:Nat);refine Ev.eN rfl abB rfl rfl rfl ?_;refine zE ?_;have aN:(ae .nw s0).bs=s0.bs:=rfl;have hF:(ae .nw s0).flr≤s0.bs.length:=hF;have hH:Has s0.bs.length (ae .nw s0) (ae .nw s0) []:=Has.start (Nat.le_refl _) (Nat.le_refl _);generalize ae .nw s0=S at*;have hx:=Arg.of hx aN;have hy:=Arg.of hy aN;refine zQ 8 ?_;refine qn ?_;simp only[List.length_map];obtain⟨cO,cM⟩:=hH.de hF;obtain⟨d13,st,ax,ho⟩:=eR (x:=x) (b:=b) cO cM (hx.rows hH) (by omega) (l.length:Nat) (by omega);have hH:=hH.hY ho
 (try dsimp only[u3,u4] at hH)
 refine qv ax ?_;refine zQ 6 ?_;refine qn ?_;simp only[List.length_map];refine zQ 3 ?_;refine ag.loop (fun mm fr st=>∃(i:Nat) (o:D),fr.clean=⟨17,[cI fr 0,cI fr 1,.fn 73 [],cI fr 3,cI fr 4,cI fr 5,cI fr 6,o,cI fr 8,cI fr 9,cI fr 10,cI fr 11,cI fr 12,cI fr 13,y,.int .i64 (l.length:Nat),.int .i64 (i:Nat)],[]⟩∧Has s0.bs.length S st [.aF o 1 (byteCells (b++(aQ (l.length:Nat)++(((l.take i).map aQ).flatten))))]∧(i+mm=l.length)) (l.length) ?_ ?_
 ·exact⟨0,d13,rfl,(by simpa using hH),by omega⟩
 rintro mm fr st ⟨i,o,hfr,hH,hi⟩;rw[hfr];clear hfr;generalize cI fr=ee;clear fr;refine zQ 5 ?_;refine zP (fun hlt=>?_) fun hlt=>?_
 ·refine zQ 1 ?_
  obtain⟨v,hv⟩:∃v,l[i]?=some v:=⟨l[i]'(by omega),List.getElem?_eq_getElem _⟩
  have E7:=List.mem_of_getElem? hv;have gw:(l.map az)[i]?=some (az v):=by rw[List.getElem?_map,hv];rfl
  have ej:=jQ (f:=aQ) hv;have Gh:=kO (f:=aQ) (n:=9) (l:=l.take i) (fun x hx=>aV x);have mO:(l.take i).length=i:=by rw[List.length_take];omega
  have fT:(b++(aQ (l.length:Nat)++(((l.take i).map aQ).flatten))).length≤50000000000:=by simp only[List.length_append];omega
  generalize hP:b++(aQ (l.length:Nat)++(((l.take i).map aQ).flatten))=P at*;refine zQ 4 ?_;refine qr fun Rq Gf=>?_;refine zQ 7 ?_;obtain⟨cO,cM⟩:=hH.de hF;obtain⟨d23,st,ax,ho⟩:=eR (x:=o) (b:=P) cO cM (hH.rows aB) (by omega) v (rO v E7);have hH:=hH.hY ho
  (try dsimp only[u3,u4] at hH)
  refine qv ax ?_;refine zQ 6 ?_;exact⟨mm-1,by omega,⟨i+1,d23,rfl,(by rw[ej,←List.append_assoc (aQ _),←List.append_assoc b,hP];exact hH.take 1),by omega⟩⟩
 ·refine zQ 1 ?_;rw[List.take_of_length_le (by omega)] at hH;refine zQ 5 ?_;refine ag.ret ⟨rx,_,_,_,rfl,rfl,?_⟩;exact hH.dU aN du
theorem ID {s0:St} {x y:D} {b:List UInt8} {l:List Rg} (hF:s0.flr≤s0.bs.length) (du:s0.ro≤s0.bs.length) (hx:V.Rows s0 1 x (byteCells b)) (hy:V.Rows s0 2 y (l.map aw)) (hl:b.length≤40000000000) (px:l.length≤1048576) (rO:∀g∈l,-2147483648≤g.1∧g.1≤2147483647∧-2147483648≤g.2∧g.2≤2147483647):
  ∃d ai,Ev pv 76 [x,y,.fn 77 []] s0 d ai∧kC s0 ai d (b++(aQ (l.length:Nat)++((l.map Hw).flatten))):=by
 have jX:=aV (l.length:Nat);refine Ev.eN rfl abx rfl rfl rfl ?_;refine zE ?_;have aN:(ae .nw s0).bs=s0.bs:=rfl;have hF:(ae .nw s0).flr≤s0.bs.length:=hF;have hH:Has s0.bs.length (ae .nw s0) (ae .nw s0) []:=Has.start (Nat.le_refl _) (Nat.le_refl _);generalize ae .nw s0=S at*;have hx:=Arg.of hx aN;have hy:=Arg.of hy aN;refine zQ 8 ?_;refine qn ?_;simp only[List.length_map];obtain⟨cO,cM⟩:=hH.de hF;obtain⟨d13,st,ax,ho⟩:=eR (x:=x) (b:=b) cO cM (hx.rows hH) (by omega) (l.length:Nat) (by omega);have hH:=hH.hY ho
 (try dsimp only[u3,u4] at hH)
 refine qv ax ?_;refine zQ 6 ?_;refine qn ?_;simp only[List.length_map];refine zQ 3 ?_;refine ag.loop (fun mm fr st=>∃(i:Nat) (o:D),fr.clean=⟨17,[cI fr 0,cI fr 1,.fn 77 [],cI fr 3,cI fr 4,cI fr 5,cI fr 6,o,cI fr 8,cI fr 9,cI fr 10,cI fr 11,cI fr 12,cI fr 13,y,.int .i64 (l.length:Nat),.int .i64 (i:Nat)],[]⟩∧Has s0.bs.length S st [.aF o 1 (byteCells (b++(aQ (l.length:Nat)++(((l.take i).map Hw).flatten))))]∧(i+mm=l.length)) (l.length) ?_ ?_
 ·exact⟨0,d13,rfl,(by simpa using hH),by omega⟩
 rintro mm fr st ⟨i,o,hfr,hH,hi⟩;rw[hfr];clear hfr;generalize cI fr=ee;clear fr;refine zQ 5 ?_;refine zP (fun hlt=>?_) fun hlt=>?_
 ·refine zQ 1 ?_
  obtain⟨v,hv⟩:∃v,l[i]?=some v:=⟨l[i]'(by omega),List.getElem?_eq_getElem _⟩
  have E7:=List.mem_of_getElem? hv;have gw:(l.map aw)[i]?=some (aw v):=by rw[List.getElem?_map,hv];rfl
  have ej:=jQ (f:=Hw) hv;have Gh:=kO (f:=Hw) (n:=18) (l:=l.take i) (fun x hx=>KZ x);have mO:(l.take i).length=i:=by rw[List.length_take];omega
  have fT:(b++(aQ (l.length:Nat)++(((l.take i).map Hw).flatten))).length≤50000000000:=by simp only[List.length_append];omega
  generalize hP:b++(aQ (l.length:Nat)++(((l.take i).map Hw).flatten))=P at*;refine zQ 4 ?_;refine qr fun Rq Gf=>?_;refine ab.c_ rfl (ev rfl) (by assumption) rfl (aa rfl _) ?_;refine qa hH fun k9 st PB hH=>?_;refine qS hH aB fun st hH=>?_;dsimp only[u2,u1,u3,u4,setMany,u5,u6,D.cells,Nat.reduceAdd,aw] at hH;refine zQ 4 ?_;refine ab.av (m:=2) hH rfl (ev rfl) (by exact aB) (by dsimp only[List.drop_succ_cons,List.drop_zero,List.take_succ_cons,List.take_zero,aw]<;>rfl) rfl rfl (aa rfl _) ?_;obtain⟨cO,cM⟩:=hH.de hF;obtain⟨d23,st,ax,ho⟩:=Wf (x:=o) (b:=P) cO cM (hH.rows aO) (by omega) (r:=v) (rO v E7);have hH:=hH.hY ho
  (try dsimp only[u3,u4] at hH)
  refine qv ax ?_;refine zQ 6 ?_;exact⟨mm-1,by omega,⟨i+1,d23,rfl,(by rw[ej,←List.append_assoc (aQ _),←List.append_assoc b,hP];exact hH.take 1),by omega⟩⟩
 ·refine zQ 1 ?_;rw[List.take_of_length_le (by omega)] at hH;refine zQ 5 ?_;refine ag.ret ⟨rx,_,_,_,rfl,rfl,?_⟩;exact hH.dU aN du
theorem Wi {s0:St} {x:D} {b:List UInt8} (hF:s0.flr≤s0.bs.length) (du:s0.ro≤s0.bs.length) (hx:V.Rows s0 1 x (byteCells b)) (hl:b.length≤30000000000) {i:aP} (hi:i.ok) (hf:i.fit):
  ∃d ai,Ev pv 75 [x,.agg (aJ i)] s0 d ai∧kC s0 ai d (b++rf i):=by
 obtain⟨SJ,AA⟩:=hi;have jX:=aV i.op;have CA:=aV i.x;have hn3:=aV i.y;have hcl:=SJ.cells.1;refine Ev.eN rfl aby rfl rfl rfl ?_;refine zE ?_;have aN:(ae .nw s0).bs=s0.bs:=rfl;have hF:(ae .nw s0).flr≤s0.bs.length:=hF;have hH:Has s0.bs.length (ae .nw s0) (ae .nw s0) []:=Has.start (Nat.le_refl _) (Nat.le_refl _);generalize ae .nw s0=S at*;have hx:=Arg.of hx aN;have L9:=SJ.arg s0.bs.length S;refine zQ 2 ?_;refine qb hH fun k3 st oC hH=>?_;dsimp only[u2,u1,u3,u4,setMany,u5,u6,D.cells,Nat.reduceAdd,aJ] at hH;refine zQ 7 ?_;obtain⟨cO,cM⟩:=hH.de hF;obtain⟨d8,st,ax,ho⟩:=eR (x:=x) (b:=b) cO cM (hx.rows hH) (by omega) i.op hf.op;have hH:=hH.hY ho
 (try dsimp only[u3,u4] at hH)
 refine qv ax ?_;refine zQ 2 ?_;obtain⟨cO,cM⟩:=hH.de hF;obtain⟨d11,st,ax,ho⟩:=eR (x:=d8) (b:=b++aQ i.op) cO cM (hH.rows aB) (by rw[List.length_append];omega) i.x hf.x;have hH:=hH.hY ho
 (try dsimp only[u3,u4] at hH)
 refine qv ax ?_;refine zQ 2 ?_;obtain⟨cO,cM⟩:=hH.de hF;obtain⟨d14,st,ax,ho⟩:=eR (x:=d11) (b:=(b++aQ i.op)++aQ i.x) cO cM (hH.rows aB) (by simp only[List.length_append];omega) i.y hf.y;have hH:=hH.hY ho
 (try dsimp only[u3,u4] at hH)
 refine qv ax ?_;refine zQ 7 ?_;obtain⟨cO,cM⟩:=hH.de hF;obtain⟨d18,st,ax,ho⟩:=ID (x:=d14) (b:=((b++aQ i.op)++aQ i.x)++aQ i.y) cO cM (hH.rows aB) (L9.rows hH) (by simp only[List.length_append];omega) AA hf.r;have hH:=hH.hY ho
 (try dsimp only[u3,u4] at hH)
 refine qv ax ?_;refine zQ 2 ?_;refine ag.ret ⟨rx,_,_,_,rfl,rfl,?_⟩;have h1:=(hH.take 1).dU aN du;unfold kC rf w9;simp only[List.append_assoc] at h1⊢;exact h1
theorem CK {s0:St} {x y:D} {b:List UInt8} {l:List aP} (hF:s0.flr≤s0.bs.length) (du:s0.ro≤s0.bs.length) (hx:V.Rows s0 1 x (byteCells b)) (hy:V.Rows s0 4 y (l.map aJ)) (hl:b.length≤10000000) (px:l.length≤1000) (ba:∀i∈l,i.ok) (rO:∀i∈l,i.fit):
  ∃d ai,Ev pv 74 [x,y,.fn 75 []] s0 d ai∧kC s0 ai d (b++(aQ (l.length:Nat)++((l.map rf).flatten))):=by
 have jX:=aV (l.length:Nat);refine Ev.eN rfl abz rfl rfl rfl ?_;refine zE ?_;have aN:(ae .nw s0).bs=s0.bs:=rfl;have hF:(ae .nw s0).flr≤s0.bs.length:=hF;have hH:Has s0.bs.length (ae .nw s0) (ae .nw s0) []:=Has.start (Nat.le_refl _) (Nat.le_refl _);generalize ae .nw s0=S at*;have hx:=Arg.of hx aN;have hy:=Arg.of hy aN;refine zQ 8 ?_;refine qn ?_;simp only[List.length_map];obtain⟨cO,cM⟩:=hH.de hF;obtain⟨d13,st,ax,ho⟩:=eR (x:=x) (b:=b) cO cM (hx.rows hH) (by omega) (l.length:Nat) (by omega);have hH:=hH.hY ho
 (try dsimp only[u3,u4] at hH)
 refine qv ax ?_;refine zQ 6 ?_;refine qn ?_;simp only[List.length_map];refine zQ 3 ?_;refine ag.loop (fun mm fr st=>∃(i:Nat) (o:D),fr.clean=⟨17,[cI fr 0,cI fr 1,.fn 75 [],cI fr 3,cI fr 4,cI fr 5,cI fr 6,o,cI fr 8,cI fr 9,cI fr 10,cI fr 11,cI fr 12,cI fr 13,y,.int .i64 (l.length:Nat),.int .i64 (i:Nat)],[]⟩∧Has s0.bs.length S st [.aF o 1 (byteCells (b++(aQ (l.length:Nat)++(((l.take i).map rf).flatten))))]∧(i+mm=l.length)) (l.length) ?_ ?_
 ·exact⟨0,d13,rfl,(by simpa using hH),by omega⟩
 rintro mm fr st ⟨i,o,hfr,hH,hi⟩;rw[hfr];clear hfr;generalize cI fr=ee;clear fr;refine zQ 5 ?_;refine zP (fun hlt=>?_) fun hlt=>?_
 ·refine zQ 1 ?_
  obtain⟨v,hv⟩:∃v,l[i]?=some v:=⟨l[i]'(by omega),List.getElem?_eq_getElem _⟩
  have E7:=List.mem_of_getElem? hv;have gw:(l.map aJ)[i]?=some (aJ v):=by rw[List.getElem?_map,hv];rfl
  have ej:=jQ (f:=rf) hv;have Gh:=kO (f:=rf) (n:=18874404) (l:=l.take i) (fun x hx=>HS (ba x (List.mem_of_mem_take hx)).2);have mO:(l.take i).length=i:=by rw[List.length_take];omega
  have fT:(b++(aQ (l.length:Nat)++(((l.take i).map rf).flatten))).length≤30000000000:=by simp only[List.length_append];omega
  generalize hP:b++(aQ (l.length:Nat)++(((l.take i).map rf).flatten))=P at*;refine zQ 4 ?_;refine qr fun Rq Gf=>?_;refine ab.c_ rfl (ev rfl) (by assumption) rfl (aa rfl _) ?_;refine qa hH fun k9 st PB hH=>?_;refine qS hH aB fun st hH=>?_;dsimp only[u2,u1,u3,u4,setMany,u5,u6,D.cells,Nat.reduceAdd,aJ] at hH;refine zQ 4 ?_;refine ab.av (m:=4) hH rfl (ev rfl) (by exact aB) (by dsimp only[List.drop_succ_cons,List.drop_zero,List.take_succ_cons,List.take_zero,aJ]<;>rfl) rfl rfl (aa rfl _) ?_;obtain⟨cO,cM⟩:=hH.de hF;obtain⟨d23,st,ax,ho⟩:=Wi (x:=o) (b:=P) cO cM (hH.rows aO) (by omega) (i:=v) (ba v E7) (rO v E7);have hH:=hH.hY ho
  (try dsimp only[u3,u4] at hH)
  refine qv ax ?_;refine zQ 6 ?_;exact⟨mm-1,by omega,⟨i+1,d23,rfl,(by rw[ej,←List.append_assoc (aQ _),←List.append_assoc b,hP];exact hH.take 1),by omega⟩⟩
 ·refine zQ 1 ?_;rw[List.take_of_length_le (by omega)] at hH;refine zQ 5 ?_;refine ag.ret ⟨rx,_,_,_,rfl,rfl,?_⟩;exact hH.dU aN du
end Go.Proofs.YtecjacicdpejaaaGreat
namespace Go.V
variable{N:Nat} {S st:St} {H:List bo}
theorem Has.jA (A B:List bo) (h:Has N S st (A++(B++H))):Has N S st (B++(A++H)):=by
 refine h.sub (fun i=>if i<B.length then i+A.length else if i<B.length+A.length then i-B.length else i) (fun a b e=>?_) fun i e hi=>?_
 ·have e':(if a<B.length then a+A.length else if a<B.length+A.length then a-B.length else a)=(if b<B.length then b+A.length else if b<B.length+A.length then b-B.length else b):=e
  repeat' split at e'
  all_goals omega
 ·show(A++(B++H))[if i<B.length then i+A.length else if i<B.length+A.length then i-B.length else i]?=some e
  by_cases h1:i<B.length
  ·rw[if_pos h1,List.getElem?_append_right (by omega),Nat.add_sub_cancel,List.getElem?_append_left h1]
   rwa [List.getElem?_append_left h1] at hi
  ·rw[List.getElem?_append_right (by omega)] at hi
   by_cases h2:i<B.length+A.length
   ·rw[if_neg h1,if_pos h2,List.getElem?_append_left (by omega)]
    rwa [List.getElem?_append_left (by omega)] at hi
   ·rw[if_neg h1,if_neg h2,List.getElem?_append_right (by omega),List.getElem?_append_right (by omega)];rw[List.getElem?_append_right (by omega)] at hi;rw[←hi];congr 1;omega
theorem Has.fV {j:Nat} {e:bo} (h:Has N S st (e::H)) (hj:j<H.length):Has N S st (H.set j e):=
 Has.back (h.erase (j+1)) hj
theorem Has.xV {j k:Nat} {e:bo} (h:Has N S st H) (hj:H[j]?=some e) (hk:e.K k):k+1≤st.bs.length:=((h.ok j e hj).2 k hk).2
theorem Has.clear {P:Pv} {j:Nat} {x:D} {s:Nat} {es:List (List D)} {t e:TypeId} {z:List D} (h:Has N S st H) (hj:H[j]?=some (.aF x s es)) (ht:P.db t=some (.slice e)) (hz:ec P e=some z) (oB:z.length=s) (hr:refs z=0):
  ∃ai,pJ P [t] x st=some (.tup [],ai)∧Has N S ai (H.set j (.aF x s (List.replicate es.length z))):=by
 have D_:=(h.ok j _ hj).2;have hown:=h.own hj
 have oH:j<H.length:=by
  rcases Nat.lt_or_ge j H.length with h'|h'
  ·exact h'
  ·rw[List.getElem?_eq_none h'] at hj;cases hj
 cases hown with
 |nul=>
  refine⟨st,by simp only[pJ,ht],?_⟩
  have:H.set j (.aF .nul s (List.replicate ([]:List (List D)).length z))=H:=by
   refine List.ext_getElem? fun i=>?_
   by_cases hi:i=j
   ·subst hi;rw[List.getElem?_set_self oH,hj];rfl
   ·rw[List.getElem?_set_ne (fun e=>hi e.symm)]
  rw[this];exact h
 |win k aE off es c hm hle hc he=>
  have hk:=D_ k (by simp only[bo.aF,D.ref])
  have Jr:∀n,refs (Go.V.fV n z)=0:=by
   intro n;unfold Go.V.fV
   induction n with
   |zero=>rfl
   |succ n ih=>
    rw[List.replicate_succ,List.flatten_cons]
    have PS:∀(a b:List D),refs a=0→refs b=0→refs (a++b)=0:=by
     intro a
     induction a with
     |nil=>intro b _ hb;exact hb
     |cons d a N4=>
      intro b ha hb;simp only[refs,List.cons_append] at ha⊢;have:=N4 b (by omega) hb;omega
    exact PS _ _ hr ih
  have sW:(Go.V.fV es.length z).length=es.length*s:=by
   unfold Go.V.fV;rw[dV (s:=s) (fun e he=>by rw[(List.mem_replicate.1 he).2];exact oB),List.length_replicate]
  have hw:st.wr k aE off (Go.V.fV es.length z)=some ⟨st.bs.set k (.mem aE true (c.take off++Go.V.fV es.length z++c.drop (off+(Go.V.fV es.length z).length))),st.flr,st.ro⟩:=nO hm (by omega) (jT h hk.1 (.inr (Jr _)));refine⟨_,by simp only[pJ,ht,hz,Option.bind_some];rw[if_pos oB,hw];rfl,?_⟩;refine h.Fc hj (fun n hn hne=>?_) (by simp) rfl rfl ?_ (fun n hn=>.inl hn) fun n hn=>?_
  ·simp only;rw[List.getElem?_set_ne (fun e=>hne (by simp only[bo.aF,D.ref];omega))]
  ·have Mq:∀e'∈List.replicate es.length z,e'.length=s:=fun e' vO=>by rw[(List.mem_replicate.1 vO).2];exact oB
   have:=kA.win (st:=⟨st.bs.set k (.mem aE true (c.take off++Go.V.fV es.length z++c.drop (off+(Go.V.fV es.length z).length))),st.flr,st.ro⟩) (s:=s) k aE off (List.replicate es.length z) (c.take off++Go.V.fV es.length z++c.drop (off+(Go.V.fV es.length z).length))
    (by simp only;rw[List.getElem?_set_self hk.2]) (by rw[List.length_replicate];simp;omega) ?_ Mq
   ·rw[List.length_replicate] at this;exact this
   ·rw[List.length_replicate,List.append_assoc,List.drop_append_of_le_length (by simp;omega),List.drop_take,Nat.sub_self,List.take_zero,List.nil_append,←sW,List.take_left']
    ·rfl
    ·rfl
  ·simp only[bo.aF,D.ref] at hn;have:n=k:=by omega
   subst this
   simpa using hk.2
variable{P:Pv} {ops:Array Oper} {rest:List Oper} {fr aM:Fr} {Q:Fr→St→Prop} {ty:TypeId} {pp:String} {a:Array Edge} {g:Option (Nat×Bool)} {dst:Nat}
theorem i7 {st:St} {s:Nat} {x:D} {es:List (List D)} (h:V.Rows st s x es):x.cells?=some [x]:=by cases h<;>rfl
end Go.V
namespace Go.Proofs.YtecjacicdpejaaaGreat
open Go.V Go
def jG (n:Nat):List D:=[.int .i64 (n:Nat)]
def sN (n:Nat):List D:=[.int .i64 (n:Nat),.bool true]
structure eQ (P Q:List Nat) (seen:List Bool):Prop where
 len:P.length=seen.length
 mem:∀(i p:Nat),P[i]?=some p→seen[i]?=some (decide (Q[p]?=some i))
 cnt:Q.length=seen.count true
 small:seen.length≤4096
theorem eQ.get {P Q:List Nat} {seen:List Bool} (h:eQ P Q seen) {i:Nat} {b:Bool} (hi:seen[i]?=some b):∃p,P[i]?=some p∧b=decide (Q[p]?=some i):=by
 have hl:=bp hi;have ry:=h.len;refine⟨P[i]'(by omega),List.getElem?_eq_getElem _,?_⟩;have:=h.mem i _ (List.getElem?_eq_getElem (by omega));rw[hi] at this;exact Option.some.inj this
theorem eQ.add {P Q:List Nat} {seen:List Bool} (h:eQ P Q seen) {i:Nat} (hi:seen[i]?=some false):eQ (P.set i Q.length) (Q++[i]) (seen.set i true):=by
 have hl:=bp hi;have ry:=h.len;refine⟨by simp[ry],fun j p hj=>?_,?_,by rw[List.length_set];exact h.small⟩
 ·by_cases hij:j=i
  ·subst hij;rw[List.getElem?_set_self (by omega)] at hj⊢;cases hj;simp
  ·rw[List.getElem?_set_ne (fun e=>hij e.symm)] at hj⊢;rw[h.mem j p hj]
   congr 2
   rcases Nat.lt_trichotomy p Q.length with hp|hp|hp
   ·rw[List.getElem?_append_left hp]
   ·subst hp;have hne:¬i=j:=fun e=>hij e.symm;simp[hne]
   ·rw[List.getElem?_eq_none (by omega),List.getElem?_eq_none (by simp;omega)]
 ·have h1:=List.length_eq_countP_add_countP (fun b=>b==true) (l:=seen);have h2:=List.length_eq_countP_add_countP (fun b=>b==true) (l:=seen.set i true);have h3:=count_set hi
  have e1:∀l:List Bool,l.countP (fun a=>decide (¬(a==true)=true))=l.count false:=by
   intro l;unfold List.count;congr 1;funext b;cases b<;>rfl
  have e2:∀l:List Bool,l.countP (fun a=>a==true)=l.count true:=fun l=>rfl;rw[e1,e2] at h1 h2;rw[List.length_append,h.cnt];simp only[List.length_set,List.length_cons,List.length_nil] at h2⊢;omega
theorem eQ.clear {P Q:List Nat} {seen:List Bool} (h:eQ P Q seen):eQ P [] (List.replicate seen.length false):=by
 refine⟨by rw[List.length_replicate];exact h.len,fun i p hi=>?_,?_,by rw[List.length_replicate];exact h.small⟩
 ·have:=bp hi;have:=h.len;rw[List.getElem?_replicate,if_pos (by omega)];simp
 ·rw[List.count_replicate];simp
theorem eQ.pj {P Q:List Nat} {seen:List Bool} (h:eQ P Q seen):Q.length≤4096:=by
 have:=h.cnt;have:=h.small;have:=List.count_le_length (a:=true) (l:=seen);omega
end Go.Proofs.YtecjacicdpejaaaGreat
namespace Go.Proofs.YtecjacicdpejaaaGreat
open Go.V Go
abbrev j4:=Nat→Int
def aA (f:j4):List D:=[.int .i64 (f 0),.int .i64 (f 1),.int .i64 (f 2),.int .i64 (f 3),.int .i64 (f 4),.int .i64 (f 5),.int .i64 (f 6),.int .i64 (f 7),.int .i64 (f 8),.int .i64 (f 9)]
def bK:j4:=fun _=>-1
end Go.Proofs.YtecjacicdpejaaaGreat
namespace Go.Proofs.YtecjacicdpejaaaGreat
open Go.V Go
structure hU where
 pc:Nat
 c:j4
def bw (t:hU):List D:=[.int .i64 (t.pc:Nat),.int .i64 (t.c 0),.int .i64 (t.c 1),.int .i64 (t.c 2),.int .i64 (t.c 3),.int .i64 (t.c 4),.int .i64 (t.c 5),.int .i64 (t.c 6),.int .i64 (t.c 7),.int .i64 (t.c 8),.int .i64 (t.c 9)]
def aX (dn:Bool) (f:j4) (d:D):List D:=[.bool dn,.int .i64 (f 0),.int .i64 (f 1),.int .i64 (f 2),.int .i64 (f 3),.int .i64 (f 4),.int .i64 (f 5),.int .i64 (f 6),.int .i64 (f 7),.int .i64 (f 8),.int .i64 (f 9),d]
structure Wk where
 seen:List Bool
 dn:Bool
 bf:j4
 rdy:List hU
def Good (code:List aP) (w w':Wk):Prop:=
 w'.seen.length=w.seen.length∧w'.seen.count false≤w.seen.count false∧w'.rdy.length+w'.seen.count false≤w.rdy.length+w.seen.count false∧∀t∈w'.rdy,t∈w.rdy∨∃i,code[t.pc]?=some i∧i.op=1
theorem Good.refl {code:List aP} {w:Wk}:Good code w w:=⟨rfl,Nat.le_refl _,Nat.le_refl _,fun t h=>.inl h⟩
theorem Good.trans {code:List aP} {a b c:Wk} (h:Good code a b) (k:Good code b c):Good code a c:=
 ⟨k.1.trans h.1,Nat.le_trans k.2.1 h.2.1,Nat.le_trans k.2.2.1 h.2.2.1,fun t ht=>by
  rcases k.2.2.2 t ht with q|q
  ·exact h.2.2.2 t q
  ·exact .inr q⟩
theorem Good.step {code:List aP} {w w':Wk} {j:Nat} (hj:w.seen[j]?=some false) (k:Good code ⟨w.seen.set j true,w.dn,w.bf,w.rdy⟩ w'):Good code w w':=by
 have hc:=count_set hj;refine Good.trans (b:=⟨w.seen.set j true,w.dn,w.bf,w.rdy⟩) ⟨?_,?_,?_,fun t h=>.inl h⟩ k
 ·simp
 ·show(w.seen.set j true).count false≤_;omega
 ·show w.rdy.length+(w.seen.set j true).count false≤_;omega
end Go.Proofs.YtecjacicdpejaaaGreat
