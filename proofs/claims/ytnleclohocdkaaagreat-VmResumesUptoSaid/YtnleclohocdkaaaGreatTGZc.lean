/-
 Any number of machines side by side in memory: one of them steps, the other ones stay.
-/
import Derived.Test.YtnleclohocdkaaaGreatTGYc
import Derived.Test.YtnleclohocdkaaaGreatTGQj
import Derived.Test.YtnleclohocdkaaaGreatTGPb
import Derived.Test.YtnleclohocdkaaaGreatTGPe
import Derived.Test.YtnleclohocdkaaaGreatTM2
import Derived.DataReads
import Derived.ChangeOld
import GoSem.ClaimChange
import Derived.Below
import Derived.Test.YtnleclohocdkaaaGreatRows
import Derived.Test.YtnleclohocdkaaaGreatTGHr
import Derived.Test.YtnleclohocdkaaaGreatTGCa
set_option maxRecDepth 100000
set_option maxHeartbeats 4000000
set_option linter.unusedSimpArgs false
set_option linter.unusedVariables false
set_option linter.unusedSectionVars false
set_option linter.unnecessarySimpa false
namespace Go.Proofs.YtnleclohocdkaaaGreat
open Go.V Go
structure Md where
 ks:Nat
 kv:Nat
 p:Pg
 pl:Nat
 ld:D
 L:List VL
structure Mi where
 pd:D
 qd:D
 P:List Nat
 Q:List Nat
 sn:List Bool
def lG (x:Md×Mi):List aN:=c_ x.1.ks x.1.kv x.1.p x.1.pl x.1.ld x.2.pd x.2.qd x.2.P x.2.Q x.1.L
def Jq (x:Md×Mi):Prop:=cj x.2.P x.2.Q x.2.sn∧x.2.sn.length=x.1.p.code.length
def jD (A:List aN) (N:Nat) (S st:St) (ms:List Md):Prop:=∃xs:List (Md×Mi),xs.map Prod.fst=ms∧Has N S st (A++(xs.map lG).flatten)∧∀x∈xs,Jq x
section
variable{A:List aN} {N:Nat} {S st:St}
theorem jD.nil (h:Has N S st A):jD A N S st []:=⟨[],rfl,by simpa using h,fun x hx=>by cases hx⟩
theorem jD.one {X Y:List Md} {m:Md} (h:jD A N S st (X++m::Y)):∃H,MH [] N S st m.ks m.kv m.p m.pl m.ld m.L H∧∀(B:List aN) (ae:St) (tb:Nat) (wk:D) (L':List VL),MH B N S ae m.ks m.kv m.p tb wk L' H→jD (B++A) N S ae (X++{m with pl:=tb,ld:=wk,L:=L'}::Y):=by
 obtain⟨xs,h1,h2,h3⟩:=h;obtain⟨xX,xr,rfl,e1,e2⟩:=List.map_eq_append_iff.1 h1;obtain⟨x,xY,rfl,e3,e4⟩:=List.map_eq_cons_iff.1 e2;obtain⟨m',i⟩:=x;simp only at e3;subst e3;have hx:=h3 (m',i) (by simp);simp only[List.map_append,List.map_cons,List.flatten_append,List.flatten_cons] at h2
 refine⟨(A++(xX.map lG).flatten)++(xY.map lG).flatten,uh (by
  have a:=Has.g_ (A++(xX.map lG).flatten) (lG (m',i)) (H:=(xY.map lG).flatten) (by simpa only[List.append_assoc] using h2)
  exact a) hx.1 hx.2,fun B ae tb wk L' hM=>?_⟩
 obtain⟨xG,xE,P',Q',GZ,L8,F5,IC⟩:=n_ hM;refine⟨xX++({m' with pl:=tb,ld:=wk,L:=L'},⟨xG,xE,P',Q',GZ⟩)::xY,?_,?_,?_⟩
 ·rw[List.map_append,List.map_cons,e1,e4]
 ·have a:=Has.g_ (B++c_ m'.ks m'.kv m'.p tb wk xG xE P' Q' L') (A++(xX.map lG).flatten) (H:=(xY.map lG).flatten) (by simpa only[List.append_assoc] using L8);have b:=Has.g_ (A++(xX.map lG).flatten) B (H:=c_ m'.ks m'.kv m'.p tb wk xG xE P' Q' L'++(xY.map lG).flatten) (by simpa only[List.append_assoc] using a);simp only[List.map_append,List.map_cons,List.flatten_append,List.flatten_cons]
  simpa only[List.append_assoc,lG] using b
 ·intro x hx
  rcases List.mem_append.1 hx with hx|hx
  ·exact h3 x (List.mem_append_left _ hx)
  rcases List.mem_cons.1 hx with rfl|hx
  ·exact⟨F5,IC⟩
  ·exact h3 x (List.mem_append_right _ (List.mem_cons_of_mem _ hx))
theorem jD.drop {ms:List Md} (n:Nat) (h:jD A N S st ms) (hn:n≤A.length):jD (A.drop n) N S st ms:=by
 obtain⟨xs,h1,h2,h3⟩:=h;refine⟨xs,h1,?_,h3⟩;have:=h2.drop n
 rwa [List.drop_append_of_le_length hn] at this
theorem jD.has {ms:List Md} (h:jD A N S st ms):Has N S st A:=by
 obtain⟨xs,_,h2,_⟩:=h;have:=h2.take A.length
 rwa [List.take_left] at this
theorem jD.more {ms:List Md} {xs:List (Md×Mi)} {m:Md} (h1:xs.map Prod.fst=ms) (h3:∀x∈xs,Jq x) (hM:MH [] N S st m.ks m.kv m.p m.pl m.ld m.L (A++(xs.map lG).flatten)):jD A N S st (m::ms):=by
 obtain⟨pd,qd,P,Q,sn,hH,q1,q2⟩:=n_ hM;refine⟨(m,⟨pd,qd,P,Q,sn⟩)::xs,by rw[List.map_cons,h1],?_,?_⟩
 ·have a:=Has.g_ (c_ m.ks m.kv m.p m.pl m.ld pd qd P Q m.L) A (H:=(xs.map lG).flatten) (by simpa only[List.nil_append] using hH)
  simpa only[List.map_cons,List.flatten_cons,lG] using a
 ·intro x hx
  rcases List.mem_cons.1 hx with rfl|hx
  ·exact⟨q1,q2⟩
  ·exact h3 x hx
end
end Go.Proofs.YtnleclohocdkaaaGreat
namespace Go.Proofs.YtnleclohocdkaaaGreat
open Go.V Go
def CB (p:Pg) (gs:List (Nat×Nat)) (t:vx):Prop:=t.pc<p.code.length∧t.at_≤gs.length
end Go.Proofs.YtnleclohocdkaaaGreat
namespace Go.Proofs.YtnleclohocdkaaaGreat
open Go.V Go
end Go.Proofs.YtnleclohocdkaaaGreat
namespace Go.Proofs.YtnleclohocdkaaaGreat
open Go.V Go
abbrev Sn:=Nat→Nat→Bool
def yB (s:Sn) (t:vx):Sn:=fun a b=>if a=t.pc∧b=t.at_ then true else s a b
inductive Ee (zT:vx→M3):Sn→List vx→Option j6→Sn→Prop
 |nil {s:Sn}:Ee zT s [] none s
 |pf {s s':Sn} {t:vx} {dV:List vx} {r:Option j6}:s t.pc t.at_=true→Ee zT s dV r s'→Ee zT s (t::dV) r s'
 |found {s:Sn} {t:vx} {dV:List vx}:s t.pc t.at_=false→zT t=.found→Ee zT s (t::dV) (some t.c) (yB s t)
 |more {s s':Sn} {t:vx} {dV l:List vx} {r:Option j6}:s t.pc t.at_=false→zT t=.more l→Ee zT (yB s t) (l++dV) r s'→Ee zT s (t::dV) r s'
theorem Ee.one {zT:vx→M3} {s s1 s2:Sn} {dV:List vx} {r1 r2:Option j6} (h1:Ee zT s dV r1 s1):Ee zT s dV r2 s2→r1=r2∧s1=s2:=by
 induction h1 with
 |nil=>intro h;cases h;exact⟨rfl,rfl⟩
 |pf h _ ih=>
  intro h2
  cases h2 with
  |pf _ h'=>exact ih h'
  |found h' _=>rw[h] at h';cases h'
  |more h' _ _=>rw[h] at h';cases h'
 |found h hf=>
  intro h2
  cases h2 with
  |pf h' _=>rw[h] at h';cases h'
  |found _ _=>exact⟨rfl,rfl⟩
  |more _ h' _=>rw[hf] at h';cases h'
 |more h hm _ ih=>
  intro h2
  cases h2 with
  |pf h' _=>rw[h] at h';cases h'
  |found _ h'=>rw[hm] at h';cases h'
  |more _ h' RB=>
   rw[hm] at h';cases h';exact ih RB
def Gp (idx:Nat→Nat→Nat) (ok:Nat→Nat→Prop) (arr:List Bool) (s:Sn):Prop:=∀a b,ok a b→arr[idx a b]?=some (s a b)
def M6 (idx:Nat→Nat→Nat) (ok:Nat→Nat→Prop):Prop:=∀a b a' b',ok a b→ok a' b'→idx a b=idx a' b'→a=a'∧b=b'
theorem Gp.yC {idx:Nat→Nat→Nat} {ok:Nat→Nat→Prop} {arr:List Bool} {s:Sn} {t:vx} (hI:M6 idx ok) (ht:ok t.pc t.at_) (h:Gp idx ok arr s):Gp idx ok (arr.set (idx t.pc t.at_) true) (yB s t):=by
 intro a b hab;unfold yB
 by_cases he:idx a b=idx t.pc t.at_
 ·rw[if_pos (hI _ _ _ _ hab ht he),he];have:=lt_get (h _ _ ht);rw[List.getElem?_set_self this]
 ·rw[if_neg (by rintro⟨rfl,rfl⟩;exact he rfl),List.getElem?_set_ne (fun e=>he e.symm)];exact h a b hab
end Go.Proofs.YtnleclohocdkaaaGreat
namespace Go.Proofs.YtnleclohocdkaaaGreat
open Go.V Go
section
variable{zT:vx→M3}
def Ag (k:Nat) (s s':Sn):Prop:=∀a b,k<b→s a b=s' a b
theorem Ag.symm {k:Nat} {s s':Sn} (h:Ag k s s'):Ag k s' s:=fun a b hb=>(h a b hb).symm
theorem Ag.trans {k:Nat} {s s' Ng:Sn} (h:Ag k s s') (h2:Ag k s' Ng):Ag k s Ng:=fun a b hb=>(h a b hb).trans (h2 a b hb)
theorem Ag.yC {k:Nat} {s:Sn} {t:vx} (ht:t.at_=k):Ag k s (yB s t):=fun a b hb=>by
 unfold yB;rw[if_neg (by omega)]
end
section
variable{code:List az} {ns:Nat} {gs:List (Nat×Nat)} {bo:List Int} {k pl:Nat} {e:Bool}
end
def uP (code:List az) (start:Nat):List (Nat×Nat)→Nat→PL→PL
 |[],pl,l=>lW code pl l
 |g::gs,pl,l=>uP code start gs (pl+dv (g.2:Nat)) (dA code pl start (g.1:Nat) l)
def ow (s:Nat):PL:=⟨false,bj,[⟨s,bj⟩]⟩
end Go.Proofs.YtnleclohocdkaaaGreat
namespace Go.Proofs.YtnleclohocdkaaaGreat
open Go.V Go
structure mS (p:Pg) (gs:List (Nat×Nat)) (i:Nat) (m:Md):Prop where
 q:kT p m.p
 n:m.L.length=p.aq.length
 o:∀l∈m.L,l.pl.ok p.code.length
 f:∀(r s:Nat) (l:VL),(aM p)[r]?=some s→m.L[r]?=some l→uP p.code s (gs.drop i) m.pl l.pl=uP p.code s gs 0 (ow s)
 b:m.pl≤4*i
theorem uo {p:Pg} {gs:List (Nat×Nat)} {ks kv:Nat} {q:Pg} {ld:D} {L:List VL} (hR:aR p) (hq:kT p q) (hL:L.map VL.pl=(aM p).map jL):mS p gs 0 ⟨ks,kv,q,0,ld,L⟩ where
 q:=hq
 n:=by
  have:=congrArg List.length hL;unfold aM at this
  simpa using this
 o:=fun l hl=>yW hR _ (by rw[←hL];exact List.mem_map_of_mem hl)
 f:=fun r s l h1 h2=>by
  have h3:(L.map VL.pl)[r]?=some l.pl:=by rw[List.getElem?_map,h2];rfl
  rw[hL,List.getElem?_map,h1] at h3;rw[←Option.some.inj h3];rfl
 b:=Nat.le_refl _
theorem ui {A:List aN} {N:Nat} {S st:St} {X Y:List Md} {m:Md} {p:Pg} {gs:List (Nat×Nat)} (hF:S.flr≤N) (hR:aR p) (hi:gs.length≤1000000) (fk:jD A N S st (X++m::Y)) (hm:mS p gs gs.length m):
  ∃(d:D) (ae:St) (E:List PL),Ev pv 23 [.ptr m.kv 0 0] st d ae∧jD (.lst d 12 (E.map sV)::A) N S ae (X++m::Y)∧E.length=p.aq.length∧∀(r s:Nat),(aM p)[r]?=some s→E[r]?=some (uP p.code s gs 0 (ow s)):=by
 obtain⟨hq,hn,ho,hf,hb⟩:=hm;have KU:=hq.right hR;have LN:m.p.code.length=p.code.length:=by rw[hq.code,List.length_map]
 have Fg:=hR.sl;have KR:m.L.length=m.p.aq.length:=by rw[hq.aq];exact hn
 have BR:∀l∈m.L,l.pl.ok m.p.code.length:=by rw[LN];exact ho
 obtain⟨H,hM,hb1⟩:=fk.one;obtain⟨d,ae,hev,EC⟩:=Ef hF hq.ok KU (by omega) KR BR hM
 have DT:(m.L.map fun l=>lW m.p.code m.pl l.pl)=(m.L.map VL.pl).map (lW p.code m.pl):=by
  rw[List.map_map,hq.code];refine List.map_congr_left fun x _=>?_;rw[zB];rfl
 rw[DT] at EC;refine⟨d,ae,(m.L.map VL.pl).map (lW p.code m.pl),hev,hb1 [_] _ _ _ _ EC,by simpa using hn,fun r s h1=>?_⟩
 have px:r<m.L.length:=by
  have:=lt_get h1;unfold aM at this;rw[List.length_map] at this;omega
 obtain⟨l0,h0⟩:∃l0,m.L[r]?=some l0:=⟨m.L[r]'px,List.getElem?_eq_getElem _⟩
 have h4:=hf r s l0 h1 h0;rw[List.drop_length] at h4;rw[List.getElem?_map,List.getElem?_map,h0,←h4];rfl
end Go.Proofs.YtnleclohocdkaaaGreat
namespace Go.V
open Go.RowKit
def lP {H:Type}:DataW H→Bool
 | .agg _=>true
 |_=>false
mutual
def tk {H:Type}:DataW H→List D
 | .lit (.bool b)=>[.bool b]
 | .lit (.int k n)=>[.int k n]
 | .lit (.string l)=>[.str l]
 | .lit _=>[.junk]
 | .nil=>[.nul]
 | .slice elems _=>[.sl (sZ elems)]
 | .agg parts=>jf parts
 | .ptr _=>[.junk]
 | .iface _ _=>[.junk]
 | .map _=>[.junk]
 | .held _=>[.junk]
def sZ {H:Type}:List (DataW H)→List D
 |[]=>[]
 |d::r=>(if lP d then .agg (tk d) else(tk d).headD .junk)::sZ r
def jf {H:Type}:List (DataW H)→List D
 |[]=>[]
 |d::r=>tk d++jf r
end
def dval {H:Type} (d:DataW H):D:=if lP d then .agg (tk d) else(tk d).headD .junk
theorem oU {H:Type}:∀l:List (DataW H),sZ l=l.map dval
 |[]=>rfl
 |d::r=>by simp only[sZ,List.map_cons,oU r];rfl
def oX (P:Program):Nat→List Field→Option Nat
 |o,[]=>some o
 |o,f::fs=>if f.offset=o then oX P (o+P.cellsOf f.type) fs else none
def CB (P:Program):Nat→TypeId→Bool
 |0,_=>false
 |n+1,t=>match P.underlying t with
  |some .bool=>true
  |some (.int _)=>true
  |some .string=>true
  |some (.slice e)=>CB P n e &&decide (0<P.cellsOf e)
  |some (.struct fs)=>(oX P 0 fs.toList==some (P.cellsOf t)) &&fs.toList.all fun f=>CB P n f.type
  |some (.array m e)=>CB P n e &&(P.cellsOf t==m*P.cellsOf e)
  |_=>false
structure CR (w:World) (Z:Nat→Prop) (cs:List D) (vs:List Value):Prop where
 len:cs.length=vs.length
 one:∀v∈vs,v.oneCell'=true
 onec:∀c∈cs,c.cells?=some [c]
 rel:∀(i:Nat) c v,cs[i]?=some c→vs[i]?=some v→IR w Z c v
theorem CR.nil {w:World} {Z:Nat→Prop}:CR w Z [] []:=⟨rfl,by simp,by simp,by simp⟩
theorem CR.single {w:World} {Z:Nat→Prop} {c:D} {v:Value} (h:IR w Z c v) (h1:v.oneCell'=true) (h2:c.cells?=some [c]):CR w Z [c] [v]:=
 ⟨rfl,by simpa using h1,by simpa using h2,fun i c' v' hc hv=>by
  cases i with
  |zero=>simp at hc hv;subst hc;subst hv;exact h
  |succ i=>simp at hc⟩
theorem CR.append {w:World} {Z:Nat→Prop} {cs cs':List D} {vs GQ:List Value} (h:CR w Z cs vs) (g:CR w Z cs' GQ):CR w Z (cs++cs') (vs++GQ):=by
 refine⟨by simp[h.len,g.len],fun v hv=>?_,fun c hc=>?_,fun i c v hc hv=>?_⟩
 ·rcases List.mem_append.1 hv with hv|hv
  ·exact h.one v hv
  ·exact g.one v hv
 ·rcases List.mem_append.1 hc with hc|hc
  ·exact h.onec c hc
  ·exact g.onec c hc
 ·rw[List.getElem?_append] at hc hv;have:=h.len
  split at hc
  ·rw[if_pos (by omega)] at hv;exact h.rel i c v hc hv
  ·rw[if_neg (by omega)] at hv;rw[←this] at hv;exact g.rel _ c v hc hv
theorem tT {H:Type} {P:Program} {w:World} {Z:Nat→Prop} {f:Field→Option (DataW H×List MemPlace)} {cs:List Value}:∀{fs:List Field} {o e:Nat} {xs:List (DataW H×List MemPlace)},oX P o fs=some e→e≤cs.length→fs.mapM f=some xs→
  (∀g∈fs,∀x,f g=some x→CR w Z (tk x.1) ((cs.drop g.offset).take (P.cellsOf g.type)))→CR w Z (jf (xs.map (·.1))) ((cs.drop o).take (e-o))∧o≤e
 |[],o,e,xs,hc,_,hm,_=>by
  simp[oX] at hc;subst hc;simp at hm;subst hm;simp[jf];exact CR.nil
 |g::fs,o,e,xs,hc,he,hm,hx=>by
  simp only[oX] at hc
  split at hc
  ·rename_i ho;rw[List.mapM_cons] at hm
   cases h1:f g with
   |none=>rw[h1] at hm;simp at hm
   |some x=>
    rw[h1] at hm
    cases h2:fs.mapM f with
    |none=>rw[h2] at hm;simp at hm
    |some ys=>
     rw[h2] at hm;simp at hm;subst hm;obtain⟨ih,hle⟩:=tT hc he h2 fun g' QY=>hx g' (List.mem_cons_of_mem _ QY);have hg:=hx g (List.mem_cons_self ..) x h1;rw[ho] at hg;refine⟨?_,by omega⟩;simp only[List.map_cons,jf]
     have:(cs.drop o).take (e-o)=(cs.drop o).take (P.cellsOf g.type)++(cs.drop (o+P.cellsOf g.type)).take (e-(o+P.cellsOf g.type)):=by
      rw[←List.drop_drop,show e-o=P.cellsOf g.type+(e-(o+P.cellsOf g.type)) by omega,List.take_add]
     rw[this];exact hg.append ih
  ·cases hc
theorem uS {H:Type} {w:World} {Z:Nat→Prop} {s:Nat} {f:Nat→Option (DataW H×List MemPlace)} {cs:List Value}:∀{m k:Nat} {xs:List (DataW H×List MemPlace)},(List.range' k m).mapM f=some xs→(k+m)*s≤cs.length→
  (∀i x,f i=some x→CR w Z (tk x.1) ((cs.drop (i*s)).take s))→CR w Z (jf (xs.map (·.1))) ((cs.drop (k*s)).take (m*s))
 |0,k,xs,hm,_,_=>by simp at hm;subst hm;simp[jf];exact CR.nil
 |m+1,k,xs,hm,hl,hx=>by
  rw[List.range'_succ,List.mapM_cons] at hm
  cases h1:f k with
  |none=>rw[h1] at hm;simp at hm
  |some x=>
   rw[h1] at hm
   cases h2:(List.range' (k+1) m).mapM f with
   |none=>rw[h2] at hm;simp at hm
   |some ys=>
    rw[h2] at hm;simp at hm;subst hm;have ih:=uS h2 (by rw[show k+1+m=k+(m+1) by omega];exact hl) hx;simp only[List.map_cons,jf];rw[show(m+1)*s=s+m*s by rw[Nat.add_mul];omega,List.take_add,List.drop_drop,show k*s+s=(k+1)*s by rw[Nat.add_mul];omega];exact(hx k x h1).append ih
theorem cells_one {c:D} (h:c.cells?=some [c]):c.cells=[c]:=by
 cases c<;>first|rfl|cases h|(simp only[D.cells?,Option.some.injEq] at h;simpa only[D.cells] using h)
theorem vg (b off n:Nat):(⟨b,off,none⟩:Addr).add n=⟨b,off+n,none⟩:=by
 cases n<;>simp[Addr.add]
theorem mX {H:Type} {enc:TypeId×Value→H} {P:Program} {w:World} {spare:Nat→Bool} {held:Bool}:∀(fuel:Nat) (t:TypeId) (cs:List Value) (d:DataW H) (ps:List MemPlace) (n:Nat),DataW.trod enc P w 0 spare held fuel t cs=some (d,ps)→CB P n t=true→
  CR w (fun b=>b<w.heap.size) (tk d) cs∧cs.length=(match P.underlying t with|some (.struct _)|some (.array _ _)=>P.cellsOf t|_=>1)∧(lP d=(match P.underlying t with|some (.struct _)|some (.array _ _)=>true|_=>false))
 |0,t,cs,d,ps,n,h,_=>by simp[DataW.trod] at h
 |fuel+1,t,cs,d,ps,0,h,ht=>by simp[CB] at ht
 |fuel+1,t,cs,d,ps,n+1,h,ht=>by
  simp only[CB] at ht;unfold DataW.trod at h
  cases hu:P.underlying t with
  |none=>rw[hu] at ht;simp at ht
  |some u=>
   rw[hu] at h ht
   cases u with
   |bool=>
    rcases cs with _|⟨v,_|⟨v2,cs⟩⟩<;>try(simp at h;done)
    cases v<;>simp at h
    obtain⟨rfl,rfl⟩:=h;exact⟨CR.single (.bool _) rfl rfl,rfl,rfl⟩
   |int k=>
    rcases cs with _|⟨v,_|⟨v2,cs⟩⟩<;>try(simp at h;done)
    cases v<;>simp at h
    obtain⟨⟨rfl,_⟩,rfl,rfl⟩:=h;exact⟨CR.single (.int _ _) rfl rfl,rfl,rfl⟩
   |string=>
    rcases cs with _|⟨v,_|⟨v2,cs⟩⟩<;>try(simp at h;done)
    cases v<;>simp at h
    rename_i b;obtain⟨_,rfl,rfl⟩:=h;refine⟨CR.single ?_ rfl rfl,rfl,rfl⟩;have:=IR.str (w:=w) (Z:=fun b=>b<w.heap.size) b.data.toList
    simpa using this
   |slice e=>
    simp only[Bool.and_eq_true,decide_eq_true_eq] at ht
    rcases cs with _|⟨v,_|⟨v2,cs⟩⟩<;>try(simp at h;done)
    cases v<;>try(simp at h;done)
    rename_i a len cap
    cases a with
    |none=>
     cases len<;>cases cap<;>simp at h
     obtain⟨rfl,rfl⟩:=h;exact⟨CR.single .nul rfl rfl,rfl,rfl⟩
    |some a=>
     simp only at h
     split at h
     ·rename_i hc;simp only[Option.bind_eq_some_iff,Option.map_eq_some_iff] at h;obtain⟨elems,he,rest,hr,hd⟩:=h;cases hd;refine⟨?_,rfl,rfl⟩;have hlen:elems.length=len:=by simpa using mapM_some_length he
      have hget:=mapM_some_get he
      have each:∀(i:Nat),i<len→∃x cs,elems[i]?=some x∧w.cells? 0 (a.add (i*P.cellsOf e)) (P.cellsOf e)=some cs∧CR w (fun b=>b<w.heap.size) (tk x.1) cs∧cs.length=P.cellsOf e∧(lP x.1=(match P.underlying e with|some (.struct _)|some (.array _ _)=>true|_=>false))∧cs.length=(match P.underlying e with|some (.struct _)|some (.array _ _)=>P.cellsOf e|_=>1):=by
       intro i hi;have h1:=hget i i (by simp[hi]);have h2:elems[i]?=some (elems[i]'(by omega)):=List.getElem?_eq_getElem _;rw[h2] at h1;obtain⟨cs,gy,hx⟩:=Option.bind_eq_some_iff.1 h1;obtain⟨q1,q2,q3⟩:=mX fuel e cs _ _ n hx ht.1;exact⟨_,cs,h2,gy,q1,(World.cells?_some gy).2.1,q3,q2⟩
      refine CR.single ?_ rfl rfl
      cases len with
      |zero=>
       have:elems=[]:=by cases elems with|nil=>rfl|cons _ _=>simp at hlen
       subst this;exact .emp _ _
      |succ m=>
       have NK:a.spot=none∧a.block<w.heap.size:=by
        obtain⟨x,cs,_,h2,_,_⟩:=each 0 (by omega);refine⟨?_,?_⟩
        ·have:=(World.cells?_some h2).2.2 0 ht.2;have hl:=(World.cells?_some h2).2.1
         obtain⟨c0,LU⟩:∃c0,cs[0]?=some c0:=⟨cs[0]'(by omega),List.getElem?_eq_getElem _⟩
         rw[LU] at this
         simpa[Addr.add] using World.cell?_spot this
        ·simpa[Addr.add] using World.cells?_block h2 ht.2
       obtain⟨b,off,spot⟩:=a;simp only at NK;obtain⟨rfl,hb⟩:=NK
       have hcell:∀(i j:Nat),i<m+1→j<P.cellsOf e→∃x cs v,elems[i]?=some x∧cs[j]?=some v∧w.cell? ⟨b,off+(i*P.cellsOf e+j),none⟩=some v∧CR w (fun b=>b<w.heap.size) (tk x.1) cs:=by
        intro i j hi hj;obtain⟨x,cs,h1,h2,h3,h4,_⟩:=each i hi;have:=(World.cells?_some h2).2.2 j hj
        obtain⟨v,hv⟩:∃v,cs[j]?=some v:=⟨cs[j]'(by omega),List.getElem?_eq_getElem _⟩
        rw[hv] at this;refine⟨x,cs,v,h1,hv,?_,h3⟩;rw[←this,vg,vg,Nat.add_assoc]
       have mO:(sZ (elems.map (·.1)))=elems.map fun x=>dval x.1:=by rw[oU,List.map_map];rfl
       have hE:∀(i:Nat) q,(sZ (elems.map (·.1)))[i]?=some q→∃x cs,i<m+1∧elems[i]?=some x∧q.cells?=some q.cells∧q.cells=tk x.1∧CR w (fun b=>b<w.heap.size) (tk x.1) cs∧cs.length=P.cellsOf e:=by
        intro i q hq;rw[mO,List.getElem?_map] at hq;obtain⟨x,hx,rfl⟩:=Option.map_eq_some_iff.1 hq
        have hi:i<m+1:=by
         rcases Nat.lt_or_ge i (m+1) with h'|h'
         ·exact h'
         ·rw[List.getElem?_eq_none (by omega)] at hx;cases hx
        obtain⟨x',cs,h1,h2,h3,h4,h5,h6⟩:=each i hi;rw[hx] at h1;cases h1;refine⟨x,cs,hi,hx,?_,?_,h3,h4⟩
        ·unfold dval
         split
         ·rfl
         ·rename_i FC
          have sN:(tk x.1).length=1:=by
           rw[h3.len,h6];rw[h5] at FC
           revert FC
           split<;>simp
          match hd:tk x.1,sN with
          |[c],_=>have:=h3.onec c (by rw[hd];simp);simp only[List.headD_cons];rw[cells_one this];exact this
        ·unfold dval
         split
         ·rfl
         ·rename_i FC
          have sN:(tk x.1).length=1:=by
           rw[h3.len,h6];rw[h5] at FC
           revert FC
           split<;>simp
          match hd:tk x.1,sN with
          |[c],_=>have:=h3.onec c (by rw[hd];simp);simp only[List.headD_cons];exact cells_one this
       have hL:(sZ (elems.map (·.1))).length=m+1:=by rw[mO];simp[hlen]
       have hf:=fun(i j:Nat) (hi:i<m+1) (hj:j<P.cellsOf e)=>hcell i j hi hj;have:=IR.sl (w:=w) (Z:=fun b=>b<w.heap.size) (sZ (elems.map (·.1))) b off cap (P.cellsOf e) (fun i j=>(w.cell? ⟨b,off+(i*P.cellsOf e+j),none⟩).getD undef) hb (by rw[hL];exact hc.2.1)
        (fun i q hq=>by
         obtain⟨x,cs,h1,h2,h3,h4,h5,h6⟩:=hE i q hq
         exact⟨h3,by rw[h4,h5.len,h6]⟩)
        (fun i q j c hq hj=>by
         obtain⟨x,cs,h1,h2,h3,h4,h5,h6⟩:=hE i q hq
         have iK:j<P.cellsOf e:=by
          rcases Nat.lt_or_ge j (P.cellsOf e) with h'|h'
          ·exact h'
          ·rw[h4,List.getElem?_eq_none (by rw[h5.len,h6];exact h')] at hj;cases hj
         obtain⟨x',cs',v,g1,g2,g3,g4⟩:=hf i j h1 iK;rw[g3]
         exact⟨rfl,g4.one v (List.mem_of_getElem? g2)⟩)
        (fun i q j c hq hj=>by
         obtain⟨x,cs,h1,h2,h3,h4,h5,h6⟩:=hE i q hq
         have iK:j<P.cellsOf e:=by
          rcases Nat.lt_or_ge j (P.cellsOf e) with h'|h'
          ·exact h'
          ·rw[h4,List.getElem?_eq_none (by rw[h5.len,h6];exact h')] at hj;cases hj
         obtain⟨x',cs',v,g1,g2,g3,g4⟩:=hf i j h1 iK;rw[g3];rw[h2] at g1;cases g1
         exact g4.rel j c v (by rw[←h4];exact hj) g2)
       rw[hL] at this;exact this
     ·cases h
   |struct fs=>
    simp only[Bool.and_eq_true,beq_iff_eq,List.all_eq_true] at ht;simp only at h
    split at h
    ·rename_i hl;obtain⟨xs,hx,hd⟩:=Option.map_eq_some_iff.1 h;cases hd;refine⟨?_,hl,rfl⟩;obtain⟨h1,_⟩:=tT (w:=w) (Z:=fun b=>b<w.heap.size) (cs:=cs) ht.1 (by omega) hx fun g hg x QV=>(mX fuel g.type _ _ _ n QV (ht.2 g hg)).1;rw[List.drop_zero,Nat.sub_zero,←hl,List.take_length] at h1;exact h1
    ·cases h
   |array m e=>
    simp only[Bool.and_eq_true,beq_iff_eq] at ht;simp only at h
    split at h
    ·rename_i hl;obtain⟨xs,hx,hd⟩:=Option.map_eq_some_iff.1 h;cases hd;refine⟨?_,hl,rfl⟩;rw[List.range_eq_range'] at hx;have h1:=uS (w:=w) (Z:=fun b=>b<w.heap.size) (s:=P.cellsOf e) (cs:=cs) hx (by rw[Nat.zero_add,←ht.2,hl];exact Nat.le_refl _) fun i x QQ=>(mX fuel e _ _ _ n QQ ht.1).1;rw[Nat.zero_mul,List.drop_zero,←ht.2,←hl,List.take_length] at h1;exact h1
    ·cases h
   |_=>simp at ht
theorem trod_ir {H:Type} {enc:TypeId×Value→H} {P:Program} {w:World} {spare:Nat→Bool} {held:Bool} {r:Reach} {base:Nat} {t:TypeId} {v:Value} {d:DataW H} {ps:List MemPlace} {n:Nat} (h:DataW.Trod enc P w 0 spare held t v d ps) (ht:CB P n t=true) (hv:Value.okWide P w r base t v):
  IR w (fun b=>b<w.heap.size) (dval d) v:=by
 obtain⟨fuel,hf⟩:=h;obtain⟨h1,h2,h3⟩:=mX fuel t _ d ps n hf ht
 have hu:∃u,P.underlying t=some u:=by
  cases n with
  |zero=>simp[CB] at ht
  |succ n=>
   simp only[CB] at ht
   cases hu:P.underlying t with
   |none=>rw[hu] at ht;simp at ht
   |some u=>exact⟨u,rfl⟩
 obtain⟨u,hu⟩:=hu;unfold Value.okWide at hv;rw[hu] at hv h2 h3
 have Iw:(∃cs:Array Value,v=.agg cs)→lP d=true→IR w (fun b=>b<w.heap.size) (dval d) v:=by
  rintro⟨cs,rfl⟩ hd;unfold dval;rw[if_pos hd];have:=IR.agg (w:=w) (Z:=fun b=>b<w.heap.size) (tk d) cs.toList (by simpa[Value.cells] using h1.len) (by simpa[Value.cells] using h1.one) (by simpa[Value.cells] using h1.rel)
  simpa using this
 have ir:lP d=false→v.cells.toList.length=1→(∀cs,v≠.agg cs)→IR w (fun b=>b<w.heap.size) (dval d) v:=by
  intro hd hl FC;unfold dval;rw[if_neg (by rw[hd];simp)]
  have hc:v.cells.toList=[v]:=by cases v<;>first|rfl|exact absurd rfl (FC _)
  rw[hc] at h1
  match hq:tk d,h1.len with
  |[c],_=>exact h1.rel 0 c v (by rw[hq];rfl) rfl
 have hcell:Cell.okWide P w r base t v→∀cs,v≠.agg cs:=by
  rintro hc cs rfl;unfold Cell.okWide at hc;rw[hu] at hc;cases u<;>simp[Cell.ok,hu] at hc
 cases u with
 |struct fs=>obtain⟨cs,h,_⟩:=hv;exact Iw ⟨cs,h⟩ h3
 |array m e=>obtain⟨cs,h,_⟩:=hv;exact Iw ⟨cs,h⟩ h3
 |_=>exact ir h3 h2 (hcell hv)
end Go.V
namespace Go.V
open Go.RowKit
theorem xe {H:Type} {enc:TypeId×Value→H} {P:Program} {w:World} {spare:Nat→Bool} {held:Bool} {t:TypeId} {v:Value} {d:DataW H} {ps:List MemPlace} (h:DataW.Trod enc P w 0 spare held t v d ps) (ht:P.underlying t=some .string):
  ∃l:List UInt8,dval d=.str l∧d=.lit (.string l):=by
 obtain⟨fuel,h⟩:=h
 cases fuel with
 |zero=>simp[DataW.trod] at h
 |succ fuel=>
  unfold DataW.trod at h;rw[ht] at h;generalize v.cells.toList=cs at h
  rcases cs with _|⟨v,_|⟨v2,cs⟩⟩<;>try(simp at h;done)
  cases v<;>simp at h
  obtain⟨_,rfl,_⟩:=h;exact⟨_,rfl,rfl⟩
theorem D' {H:Type} {enc:TypeId×Value→H} {P:Program} {w:World} {spare:Nat→Bool} {held:Bool} {t:TypeId} {v:Value} {d:DataW H} {ps:List MemPlace} {k:IntKind} (h:DataW.Trod enc P w 0 spare held t v d ps) (ht:P.underlying t=some (.int k)):
  ∃n:Int,dval d=.int k n∧d=.lit (.int k n)∧(Lit.int k n).wf=true:=by
 obtain⟨fuel,h⟩:=h
 cases fuel with
 |zero=>simp[DataW.trod] at h
 |succ fuel=>
  unfold DataW.trod at h;rw[ht] at h;generalize v.cells.toList=cs at h
  rcases cs with _|⟨v,_|⟨v2,cs⟩⟩<;>try(simp at h;done)
  cases v<;>simp at h
  obtain⟨⟨rfl,hw⟩,rfl,_⟩:=h;exact⟨_,rfl,rfl,hw⟩
theorem law_calls {pv:Pv} {P:Program} (h:pv.Ok P∧pv.fP∧e_ P pv (cQ pv)) {f:Nat} {ds:List D} {ae:St} (hs:Ev pv f ds ⟨[],0,0⟩ (.bool true) ae) {w:World} {us:List Value} (hl:ds.length=us.length)
  (hr:∀(i:Nat) c v,ds[i]?=some c→us[i]?=some v→IR w (fun b=>b<w.heap.size) c v):Calls P f us.toArray w fun e w'=>e=.returned (.bool true)∧Below w.heap.size w w':=by
 obtain⟨N,hN⟩:=Ev.out hs;refine(sound h (hN N (Nat.le_refl _)) (w:=w) (Z:=fun b=>b<w.heap.size) (fun _ h=>h) hl hr).mono fun e w'=>?_;rintro⟨v,β',Z',rfl,he,hv⟩;rw[cO hv];exact⟨rfl,⟨he.os,he.tape,he.output,he.size,fun k hk=>he.block k hk fun f=>f⟩⟩
end Go.V
namespace Go.V
open Go.RowKit
def Rd {H:Type} (enc:TypeId×Value→H) (P:Program) (w:World) (spare:Nat→Bool) (held:Bool) (t:TypeId) (d:DataW H):Prop:=
 ∃fuel cs ps,DataW.trod enc P w 0 spare held fuel t cs=some (d,ps)
section
variable{H:Type} {enc:TypeId×Value→H} {P:Program} {w:World} {spare:Nat→Bool} {held:Bool} {t e:TypeId} {d:DataW H}
theorem Rd.of {v:Value} {ps:List MemPlace} (h:DataW.Trod enc P w 0 spare held t v d ps):Rd enc P w spare held t d:=by
 obtain⟨fuel,h⟩:=h;exact⟨fuel,_,_,h⟩
theorem Rd.int {k:IntKind} (h:Rd enc P w spare held t d) (ht:P.underlying t=some (.int k)):∃n:Int,d=.lit (.int k n)∧(Lit.int k n).wf=true:=by
 obtain⟨fuel,cs,ps,h⟩:=h
 cases fuel with
 |zero=>simp[DataW.trod] at h
 |succ fuel=>
  unfold DataW.trod at h;rw[ht] at h
  rcases cs with _|⟨v,_|⟨v2,cs⟩⟩<;>try(simp at h;done)
  cases v<;>simp at h
  obtain⟨⟨rfl,hw⟩,rfl,_⟩:=h;exact⟨_,rfl,hw⟩
theorem Rd.bool (h:Rd enc P w spare held t d) (ht:P.underlying t=some .bool):∃b:Bool,d=.lit (.bool b):=by
 obtain⟨fuel,cs,ps,h⟩:=h
 cases fuel with
 |zero=>simp[DataW.trod] at h
 |succ fuel=>
  unfold DataW.trod at h;rw[ht] at h
  rcases cs with _|⟨v,_|⟨v2,cs⟩⟩<;>try(simp at h;done)
  cases v<;>simp at h
  obtain⟨rfl,_⟩:=h;exact⟨_,rfl⟩
theorem Rd.string (h:Rd enc P w spare held t d) (ht:P.underlying t=some .string):∃l:List UInt8,d=.lit (.string l):=by
 obtain⟨fuel,cs,ps,h⟩:=h
 cases fuel with
 |zero=>simp[DataW.trod] at h
 |succ fuel=>
  unfold DataW.trod at h;rw[ht] at h
  rcases cs with _|⟨v,_|⟨v2,cs⟩⟩<;>try(simp at h;done)
  cases v<;>simp at h
  obtain⟨_,rfl,_⟩:=h;exact⟨_,rfl⟩
theorem Rd.slice (h:Rd enc P w spare held t d) (ht:P.underlying t=some (.slice e)):d=.nil∨∃elems rest,d=.slice elems rest∧∀x∈elems,Rd enc P w spare held e x:=by
 obtain⟨fuel,cs,ps,h⟩:=h
 cases fuel with
 |zero=>simp[DataW.trod] at h
 |succ fuel=>
  unfold DataW.trod at h;rw[ht] at h
  rcases cs with _|⟨v,_|⟨v2,cs⟩⟩<;>try(simp at h;done)
  cases v<;>try(simp at h;done)
  rename_i a len cap
  cases a with
  |none=>
   cases len<;>cases cap<;>simp at h
   obtain⟨rfl,rfl⟩:=h;exact .inl rfl
  |some a=>
   simp only at h
   split at h
   ·simp only[Option.bind_eq_some_iff,Option.map_eq_some_iff] at h;obtain⟨elems,hm,rest,hr,hd⟩:=h;cases hd;refine .inr ⟨_,_,rfl,fun x hx=>?_⟩;obtain⟨y,hy,rfl⟩:=List.mem_map.1 hx;have hlen:elems.length=len:=by simpa using mapM_some_length hm
    have hget:=mapM_some_get hm;obtain⟨i,hi⟩:=List.getElem?_of_mem hy;have hil:i<len:=by have:=lt_get hi;omega
    have h1:=hget i i (by simp[hil]);rw[hi] at h1;obtain⟨cs,_,hx⟩:=Option.bind_eq_some_iff.1 h1;exact⟨fuel,cs,y.2,hx⟩
   ·cases h
theorem lI {α β:Type} {f:α→Option β}:∀{l:List α} {m:List β},l.mapM f=some m→bQ (fun a b=>f a=some b) l m
 |[],m,h=>by simp at h;subst h;exact .nil
 |a::l,m,h=>by
  rw[List.mapM_cons] at h
  cases h1:f a with
  |none=>rw[h1] at h;simp at h
  |some b=>
   rw[h1] at h
   cases h2:l.mapM f with
   |none=>rw[h2] at h;simp at h
   |some ys=>rw[h2] at h;simp at h;subst h;exact .cons h1 (lI h2)
theorem bQ.Hd {α β γ:Type} {R:α→γ→Prop} {f:β→γ}:∀{l:List α} {m:List β},bQ (fun a b=>R a (f b)) l m→bQ R l (m.map f)
 |_,_,.nil=>.nil
 |_,_,.cons a t=>.cons a t.Hd
theorem Rd.struct {fs:Array Field} (h:Rd enc P w spare held t d) (ht:P.underlying t=some (.struct fs)):∃parts,d=.agg parts∧bQ (fun(f:Field) x=>Rd enc P w spare held f.type x) fs.toList parts:=by
 obtain⟨fuel,cs,ps,h⟩:=h
 cases fuel with
 |zero=>simp[DataW.trod] at h
 |succ fuel=>
  unfold DataW.trod at h;rw[ht] at h;simp only at h
  split at h
  ·obtain⟨xs,hx,hd⟩:=Option.map_eq_some_iff.1 h;cases hd;refine⟨_,rfl,?_⟩;exact((lI hx).mono fun f x QZ=>(⟨fuel,_,_,QZ⟩:Rd enc P w spare held f.type x.1)).Hd
  ·cases h
theorem Rd.array {n:Nat} (h:Rd enc P w spare held t d) (ht:P.underlying t=some (.array n e)):∃parts,d=.agg parts∧parts.length=n∧∀x∈parts,Rd enc P w spare held e x:=by
 obtain⟨fuel,cs,ps,h⟩:=h
 cases fuel with
 |zero=>simp[DataW.trod] at h
 |succ fuel=>
  unfold DataW.trod at h;rw[ht] at h;simp only at h
  split at h
  ·obtain⟨xs,hx,hd⟩:=Option.map_eq_some_iff.1 h;cases hd;have h1:=lI hx;refine⟨_,rfl,by have:=h1.len;simp at this;simp[←this],fun x Ku=>?_⟩;obtain⟨y,hy,rfl⟩:=List.mem_map.1 Ku
   have key:∀{l:List Nat} {m:List (DataW H×List MemPlace)},bQ (fun i x=>DataW.trod enc P w 0 spare held fuel e ((cs.drop (i*P.cellsOf e)).take (P.cellsOf e))=some x) l m→∀y∈m,Rd enc P w spare held e y.1:=by
    intro l m h
    induction h with
    |nil=>intro y hy;cases hy
    |cons a t ih=>
     intro y hy
     rcases List.mem_cons.1 hy with rfl|hy
     ·exact⟨fuel,_,_,a⟩
     ·exact ih y hy
   exact key h1 y hy
  ·cases h
end
theorem G0 {H α:Type} {s:Nat} {f:α→List D} {Q:α→DataW H→Prop} {elems rest:List (DataW H)} (h:∀x∈elems,∃a,(dval x).cells?=some (dval x).cells∧(dval x).cells=f a∧(f a).length=s∧Q a x):
  ∃ws:List α,SlD (dval (.slice elems rest)) s (ws.map f)∧ws.length=elems.length∧∀a∈ws,∃x∈elems,Q a x:=by
 have key:∃ws:List α,(elems.map dval).map D.cells=ws.map f∧(∀d∈elems.map dval,d.cells?=some d.cells∧d.cells.length=s)∧ws.length=elems.length∧∀a∈ws,∃x∈elems,Q a x:=by
  induction elems with
  |nil=>exact⟨[],rfl,fun d hd=>(by cases hd),rfl,fun a ha=>by cases ha⟩
  |cons x l ih=>
   obtain⟨ws,h1,h2,h3,h4⟩:=ih fun y hy=>h y (List.mem_cons_of_mem _ hy);obtain⟨a,g1,g2,g3,g4⟩:=h x (List.mem_cons_self ..);refine⟨a::ws,by simp only[List.map_cons,h1,g2],fun d hd=>?_,by simp[h3],fun b hb=>?_⟩
   ·simp only[List.map_cons,List.mem_cons] at hd
    rcases hd with rfl|hd
    ·exact⟨g1,by rw[g2];exact g3⟩
    ·exact h2 d hd
   ·rcases List.mem_cons.1 hb with rfl|hb
    ·exact⟨x,List.mem_cons_self ..,g4⟩
    ·obtain⟨y,hy,hq⟩:=h4 b hb;exact⟨y,List.mem_cons_of_mem _ hy,hq⟩
 obtain⟨ws,h1,h2,h3,h4⟩:=key;refine⟨ws,.inr ⟨elems.map dval,?_,h1,h2⟩,h3,h4⟩;show D.sl (sZ elems)=_;rw[oU]
end Go.V
namespace Go.Proofs.YtnleclohocdkaaaGreat
theorem Cg {H:Type} (d:DataW H):1≤Rows.uptoBulk d:=by
 cases d with
 |lit l=>cases l<;>simp[Rows.uptoBulk]
 |_=>simp[Rows.uptoBulk]
theorem Ch {H:Type} (l:List (DataW H)):l.length≤Rows.uptoBulkAll l:=by
 induction l with
 |nil=>simp[Rows.uptoBulkAll]
 |cons x r ih=>have:=Cg x;simp only[Rows.uptoBulkAll,List.length_cons];omega
end Go.Proofs.YtnleclohocdkaaaGreat
namespace Go.Proofs.YtnleclohocdkaaaGreat
open Go.V Go Go.RowKit
variable{H:Type} {enc:TypeId×Value→H} {w:World} {spare:Nat→Bool} {held:Bool} {d:DataW H}
theorem Ci {H:Type} {l:List (DataW H)} {x:DataW H} (h:x∈l):Rows.uptoBulk x≤Rows.uptoBulkAll l:=by
 induction l with
 |nil=>cases h
 |cons y l ih=>
  simp only[Rows.uptoBulkAll]
  rcases List.mem_cons.1 h with rfl|h
  ·omega
  ·have:=ih h;omega
end Go.Proofs.YtnleclohocdkaaaGreat
namespace Go.Proofs.YtnleclohocdkaaaGreat
open Go.V Go Go.RowKit
variable{H:Type} {enc:TypeId×Value→H} {w:World} {spare:Nat→Bool} {held:Bool} {d:DataW H}
theorem arg_strs (h:Rd enc Tryz.prog w spare held 22 d):∃(y:D) (ps:List (List UInt8)),dval d=y∧SlD y 1 (ps.map strC)∧(Rows.uptoBulk d≤1048576→ps.length≤1048576∧∀b∈ps,b.length≤1048576):=by
 rcases h.slice Tryz.underlying22 with rfl|⟨elems,rest,rfl,he⟩
 ·exact⟨_,[],rfl,.inl ⟨rfl,rfl⟩,fun _=>⟨by simp,fun b hb=>(by cases hb)⟩⟩
 ·obtain⟨l,h1,h2,h3⟩:=G0 (s:=1) (f:=strC) (Q:=fun(b:List UInt8) x=>b.length≤Rows.uptoBulk x) (rest:=rest) fun x hx=>by
   obtain⟨b,rfl⟩:=(he x hx).string Tryz.underlying9;refine⟨b,rfl,rfl,rfl,?_⟩;simp only[Rows.uptoBulk];omega
  refine⟨_,l,rfl,h1,fun hb=>⟨?_,fun b cU=>?_⟩⟩
  ·have:=Ch elems;simp only[Rows.uptoBulk] at hb;omega
  ·obtain⟨x,hx,h4⟩:=h3 b cU;have:=Ci hx;simp only[Rows.uptoBulk] at hb;omega
end Go.Proofs.YtnleclohocdkaaaGreat
namespace Go.Proofs.YtnleclohocdkaaaGreat
open Go.V Go
def lL (fr:Go.V.Fr) (k:Nat):Go.V.D:=Go.V.nth .junk fr.loc k
theorem Has.over {N:Nat} {S st ae:St} {H H2:List aN} (h:Has N S st H) (h2:Has st.bs.length st ae H2):Has N S ae (H2++H):=by
 have hN:=h.hN;have hl:=h.ex.len;have oD:=h2.ex.len;refine⟨⟨fun k hk=>?_,by omega,h2.ex.flr.trans h.ex.flr,h2.ex.ro.trans h.ex.ro⟩,hN,h.er,fun i e hi=>?_,fun i j a b hij ha hb k pg fX=>?_⟩
 ·rw[h2.ex.low k (by omega)];exact h.ex.low k hk
 ·by_cases hlt:i<H2.length
  ·rw[List.getElem?_append_left hlt] at hi;obtain⟨h3,h4⟩:=h2.ok i e hi;exact⟨h3,fun k hk=>⟨by have:=(h4 k hk).1;omega,(h4 k hk).2⟩⟩
  ·rw[List.getElem?_append_right (by omega)] at hi;obtain⟨h3,h4⟩:=h.ok _ e hi;exact⟨e.loc (fun k hk=>h2.ex.low k (h4 k hk).2) h3,fun k hk=>⟨(h4 k hk).1,by have:=(h4 k hk).2;omega⟩⟩
 ·by_cases h1:i<H2.length<;>by_cases h3:j<H2.length
  ·rw[List.getElem?_append_left h1] at ha;rw[List.getElem?_append_left h3] at hb;exact h2.dis i j a b hij ha hb k pg fX
  ·rw[List.getElem?_append_left h1] at ha;rw[List.getElem?_append_right (by omega)] at hb;have:=((h2.ok _ a ha).2 k pg).1;have:=((h.ok _ b hb).2 k fX).2;omega
  ·rw[List.getElem?_append_right (by omega)] at ha;rw[List.getElem?_append_left h3] at hb;have:=((h2.ok _ b hb).2 k fX).1;have:=((h.ok _ a ha).2 k pg).2;omega
  ·rw[List.getElem?_append_right (by omega)] at ha hb;exact h.dis _ _ a b (by omega) ha hb k pg fX
theorem oW {N:Nat} {S s0:St} {H:List aN} {x:D} {L:List VL} (hF:S.flr≤N) (hLl:L.length≤1000) (hx:Arg N S 12 x (L.map dX)) (ht:∀l∈L,Arg N S 11 l.td (l.aV.map aL)∧l.aV.length≤1000) (hH:Has N S s0 H):
  ∃d ae,Ev pv 61 [x] s0 d ae∧∃L':List VL,L'.map VL.pl=L.map VL.pl∧Has N S ae (.lst d 12 (L'.map dX)::(L'.map j7++H)):=by
 refine Ev.iB rfl Ms rfl rfl rfl ?_;refine zE ?_;change EvC _ _ _ _ s0 _;refine zQ 12 ?_;refine qn ?_;simp only[List.length_map];refine zQ 3 ?_;refine EvC.loop (fun mm fr st=>∃(i:Nat) (y:D) (M:List VL),fr.clean=⟨9,[lL fr 0,lL fr 1,lL fr 2,y,lL fr 4,lL fr 5,x,.int .i64 (L.length:Nat),.int .i64 (i:Nat)],[]⟩∧Has N S st (.lst y 12 (M.map dX)::(M.map j7++H))∧(i+mm=L.length)∧(M.map VL.pl=(L.take i).map VL.pl)) (L.length) ?_ ?_
 ·exact⟨0,.nul,[],rfl,(hH.nulE 12),by omega,rfl⟩
 rintro mm fr st ⟨i,y,M,hfr,hH,hi,hM⟩;rw[hfr];clear hfr;generalize lL fr=ee;clear fr
 have SV:M.length=i:=by
  have:=congrArg List.length hM;rw[List.length_map,List.length_map,List.length_take] at this;omega
 refine zQ 5 ?_;refine zP (fun hlt=>?_) fun hlt=>?_
 ·refine zQ 1 ?_;have hil:i<L.length:=by omega
  obtain⟨l,hl⟩:∃l,L[i]?=some l:=⟨L[i]'hil,List.getElem?_eq_getElem _⟩
  obtain⟨Gy,mJ⟩:=ht l (List.mem_of_getElem? hl);have hr1:=vz hl;refine zQ 4 ?_;refine qr fun Ns HU=>?_;refine EvO.cq rfl (ev rfl) (by assumption) rfl (put_T rfl _) ?_;refine qa hH fun k5 st FJ hH=>?_;refine qS hH at0 fun st hH=>?_;dsimp only[u2,u1,u3,u4,setMany,u5,u6,D.cells,Nat.reduceAdd,aA,aL,aK,aC,dX,tQ] at hH;refine zQ 1 ?_;have hH:=hH.nulE 11;refine zQ 4 ?_;refine EvO.happend (s:=11) hH rfl (ev rfl) (ev rfl) (by exact at0) (by exact Arg.rows (by assumption) hH) rfl rfl rfl rfl rfl rfl rfl ⟨(Nat.le_of_ble_eq_true rfl),(Nat.le_of_ble_eq_true rfl)⟩ (fun _=>(put_T rfl _)) (by simp only[List.length_nil,List.length_map]<;>omega) (by exact .inl hF) (fun OC st hH=>?_);dsimp only[u2,u1,u3,u4,setMany,u5,u6,D.cells,Nat.reduceAdd,aA,aL,aK,aC,dX,tQ] at hH;refine zQ 1 ?_;refine qT hH at1 (fun st hH=>?_) (gy:=hH.ocells at0);dsimp only[u2,u1,u3,u4,setMany,u5,u6,D.cells,Nat.reduceAdd,aA,aL,aK,aC,dX,tQ] at hH;refine zQ 3 ?_;refine EvO.hloadS (m:=12) hH rfl (ev rfl) (by exact at1) (by dsimp only[List.drop_succ_cons,List.drop_zero,List.take_succ_cons,List.take_zero,aA,aL,aK,aC,dX,tQ]<;>rfl) rfl rfl (put_T rfl _) ?_;refine qh (s:=12) (vs:=[_]) hH fun k18 st QJ hH=>?_;refine EvO.happend (s:=12) hH rfl (ev rfl) (ev rfl) (by exact at3) (by exact hH.rows (by exact at0)) rfl rfl rfl rfl rfl rfl rfl ⟨(Nat.le_of_ble_eq_true rfl),(Nat.le_of_ble_eq_true rfl)⟩ (fun _=>(put_T rfl _)) (by simp only[List.length_cons,List.length_nil,List.length_map]<;>omega) (by exact .inl hF) (fun Ju st hH=>?_);dsimp only[u2,u1,u3,u4,setMany,u5,u6,D.cells,Nat.reduceAdd,aA,aL,aK,aC,dX,tQ] at hH;refine zQ 6 ?_;have hH:=(hH.drop 1).erase 1;have hH:=Has.g_ [_] (_::M.map j7) hH;refine⟨mm-1,by omega,⟨i+1,Ju,M++[⟨l.dn,l.aJ,OC,l.aV⟩],rfl,?_,by omega,?_⟩⟩
  ·rw[List.map_append,List.map_append,List.append_assoc];exact hH
  ·rw[List.map_append,hM,List.take_add_one,hl,Option.toList_some,List.map_append];rfl
 ·refine zQ 1 ?_;have hil:i=L.length:=by omega
  refine zQ 5 ?_;refine EvC.ret ⟨rx,_,_,_,rfl,rfl,?_⟩;rw[List.take_of_length_le (by omega)] at hM;exact⟨M,hM,hH⟩
end Go.Proofs.YtnleclohocdkaaaGreat
namespace Go.Proofs.YtnleclohocdkaaaGreat
open Go.V Go
end Go.Proofs.YtnleclohocdkaaaGreat
namespace Go.Proofs.YtnleclohocdkaaaGreat
open Go.V Go
end Go.Proofs.YtnleclohocdkaaaGreat
namespace Go.Proofs.YtnleclohocdkaaaGreat
open Go.V Go
/- the plain law: the two ways to look at the first rune -/
end Go.Proofs.YtnleclohocdkaaaGreat
namespace Go.Proofs.YtnleclohocdkaaaGreat
open Go.V Go
end Go.Proofs.YtnleclohocdkaaaGreat
namespace Go.Proofs.YtnleclohocdkaaaGreat
open Go.V Go
end Go.Proofs.YtnleclohocdkaaaGreat
namespace Go.Proofs.YtnleclohocdkaaaGreat
open Go.V Go
def OD (y:UInt8):D:=.int .u8 (y.toNat:Nat)
end Go.Proofs.YtnleclohocdkaaaGreat
namespace Go.Proofs.YtnleclohocdkaaaGreat
open Go.V Go
def Jl (h j:List UInt8):List D:=(h++j).map OD++[.int .i64 (h.length:Nat)]
end Go.Proofs.YtnleclohocdkaaaGreat
namespace Go.Proofs.YtnleclohocdkaaaGreat
open Go.V Go
end Go.Proofs.YtnleclohocdkaaaGreat
namespace Go.Proofs.YtnleclohocdkaaaGreat
open Go.V Go
/- the plain law: byte by byte is all at once -/
end Go.Proofs.YtnleclohocdkaaaGreat
namespace Go.Proofs.YtnleclohocdkaaaGreat
open Go.V Go
def SH (A:List aN) (N:Nat) (S st:St) (kS kd kv ks:Nat) (p:Pg) (pl:Nat) (ld:D) (L:List VL) (h:List UInt8) (H:List aN):Prop:=
 ∃pd qd P Q sn js,Has N S st (A++(.box kS (.mem 0 false [.ptr kd 0 0,.ptr kv 0 0])::.box kd (.mem 0 false (Jl h js))::(c_ ks kv p pl ld pd qd P Q L++H)))∧cj P Q sn∧sn.length=p.code.length∧(h++js).length=4
end Go.Proofs.YtnleclohocdkaaaGreat
namespace Go.Proofs.YtnleclohocdkaaaGreat
open Go.V Go
structure AS (st:St) (kS kd kv ks:Nat) (p:Pg) (pl:Nat) (ld:D) (L:List VL) (h js:List UInt8):Prop where
 s:st.bs[kS]?=some (.mem 0 false [.ptr kd 0 0,.ptr kv 0 0])
 sl:kS<st.bs.length
 d:st.bs[kd]?=some (.mem 0 false (Jl h js))
 dl:kd<st.bs.length
 hl:(h++js).length=4
 m:AM st.bs.length st kv ks p pl ld L
 ro:st.ro≤st.bs.length
theorem SH.as {N kS kd kv ks:Nat} {S s0:St} {H:List aN} {p:Pg} {pl:Nat} {ld:D} {L:List VL} {h:List UInt8} (hM:SH [] N S s0 kS kd kv ks p pl ld L h H):∃js,AS s0 kS kd kv ks p pl ld L h js:=by
 obtain⟨pd,qd,P,Q,sn,js,hH,hok,fg,hl⟩:=hM;dsimp only[u4] at hH;have hM:MH [] N S s0 ks kv p pl ld L ([_,_]++H):=MH.push [_,_] [] (H:=H) (uh hH hok fg);exact⟨js,hH.at at0,(hH.ge at0).2,hH.at at1,(hH.ge at1).2,hl,hM.am,hM.ro⟩
theorem AM.bs {N:Nat} {S S2:St} {kv ks:Nat} {p:Pg} {pl:Nat} {ld:D} {L:List VL} (h:AM N S kv ks p pl ld L) (hS:S2.bs=S.bs):AM N S2 kv ks p pl ld L:=
 ⟨h.lt,by rw[hS];exact h.le,by rw[hS];exact h.at_,⟨h.ld.1.bs hS,h.ld.2⟩,fun l hl=>⟨(h.td l hl).1.bs hS,(h.td l hl).2⟩,h.ksl⟩
end Go.Proofs.YtnleclohocdkaaaGreat
namespace Go.Proofs.YtnleclohocdkaaaGreat
open Go.V Go
section
variable{A:List aN} {N kS kd kv ks:Nat} {S s0:St} {p:Pg} {pl:Nat} {ld:D} {L:List VL} {h:List UInt8} {H:List aN}
theorem SH.pull (A:List aN) (hM:SH [] N S s0 kS kd kv ks p pl ld L h (A++H)):SH A N S s0 kS kd kv ks p pl ld L h H:=by
 obtain⟨pd,qd,P,Q,sn,js,hH,h1,h2,h3⟩:=hM;refine⟨pd,qd,P,Q,sn,js,?_,h1,h2,h3⟩;have:=Has.g_ (_::_::c_ ks kv p pl ld pd qd P Q L) A (H:=H) (by simpa only[List.nil_append,List.cons_append,List.append_assoc] using hH)
 simpa only[List.cons_append,List.append_assoc] using this
theorem SH.push (hM:SH A N S s0 kS kd kv ks p pl ld L h H):SH [] N S s0 kS kd kv ks p pl ld L h (A++H):=by
 obtain⟨pd,qd,P,Q,sn,js,hH,h1,h2,h3⟩:=hM;refine⟨pd,qd,P,Q,sn,js,?_,h1,h2,h3⟩;have:=Has.g_ A (_::_::c_ ks kv p pl ld pd qd P Q L) (H:=H) (by simpa only[List.cons_append,List.append_assoc] using hH)
 simpa only[List.nil_append,List.cons_append,List.append_assoc] using this
theorem SH.has (hM:SH A N S s0 kS kd kv ks p pl ld L h H):Has N S s0 A:=by
 obtain⟨pd,qd,P,Q,sn,js,hH,h1,h2,h3⟩:=hM;have:=hH.take A.length
 rwa [List.take_left] at this
end
end Go.Proofs.YtnleclohocdkaaaGreat
namespace Go.Proofs.YtnleclohocdkaaaGreat
open Go.V Go
def jX (fr:Go.V.Fr) (k:Nat):Go.V.D:=Go.V.nth .junk fr.loc k
def bp (f:j6) (to:Int):Prop:=∀i,i<10→-1≤f i∧f i≤to
theorem Ce {f:j6} {st:St} {i:Nat} (hi:i<10):(ox pv 55 (.agg (aC f)) (.int .i64 (i:Nat))).map (fun d=>(d,st))=some (.int .i64 (f i),st):=by
 match i,hi with
 |0,_=>rfl
 |1,_=>rfl
 |2,_=>rfl
 |3,_=>rfl
 |4,_=>rfl
 |5,_=>rfl
 |6,_=>rfl
 |7,_=>rfl
 |8,_=>rfl
 |9,_=>rfl
theorem lC {s0:St} (f:j6) (to:Int):Ev pv 64 [.agg (aC f),.int .i64 to] s0 (.bool (dec (bp f to))) s0:=by
 refine Ev.mk1 rfl Mq rfl rfl rfl ?_;refine zE ?_;obtain⟨hSb,hF,hH⟩:=ri s0;generalize enterSt .ro s0=S at*;refine zQ 2 ?_;refine qb hH fun k2 st hk2 hH=>?_;refine zQ 5 ?_;refine EvO.hloadS (m:=10) hH rfl (ev rfl) (by exact at0) (by dsimp only[List.drop_succ_cons,List.drop_zero,List.take_succ_cons,List.take_zero]<;>rfl) rfl rfl (by dsimp only[Fr.put,u1,u2]<;>rfl) ?_;refine zQ 3 ?_;refine EvC.loop (fun mm fr st=>∃(i:Nat),fr.clean=⟨9,[jX fr 0,.int .i64 to,jX fr 2,jX fr 3,jX fr 4,jX fr 5,jX fr 6,.agg (aC f),.int .i64 (i:Nat)],[]⟩∧Has s0.bs.length S st [.box k2 (.mem 0 false (aC f))]∧(i+mm=10)∧(∀j,j<i→-1≤f j∧f j≤to)) (10) ?_ ?_
 ·exact⟨0,rfl,hH,by omega,by intro j h;omega⟩
 rintro mm fr st ⟨i,hfr,hH,hi,hpre⟩;rw[hfr];clear hfr;generalize jX fr=ee;clear fr;refine zQ 5 ?_;refine zP (fun hlt=>?_) fun hlt=>?_
 ·refine zQ 5 ?_;refine EvO.go (d:=.int .i64 (f i)) (st1:=_) rfl rfl (Ce (by omega)) (put_T rfl _) ?_;refine zQ 3 ?_;refine EvC.cutT 17 (.bool (decide (f i< -1)||decide (f i>to))) [] ?_ (fun ff tmp htmp=>?_)
  ·refine zQ 3 ?_;refine EvO.two 13 rfl (fun bU=>?_) (fun bU=>?_)
   ·refine zQ 4 ?_;refine EvO.nil (leafT ?_ ?_)
    ·dsimp only[setW,List.foldl,nth,u2,u1]
     all_goals(first|rfl|simp)
    ·refine zF ?_
     all_goals(simp[bU];done)
   ·refine zQ 4 ?_;refine EvO.nil (leafT ?_ ?_)
    ·dsimp only[setW,List.foldl,nth,u2,u1]
     all_goals(first|rfl|simp)
    ·refine zF ?_
     all_goals(simp[bU];done)
  refine zG ?_;refine qc (fun h2=>?_) (fun h2=>?_)<;>try simp only[cs] at h2
  ·rw[iy (fun h=>by have:=h i (by omega);simp at h2;omega)];refine zQ 4 ?_;refine EvC.ret ⟨rx,_,rfl,rl hSb hH (rfl)⟩
  ·refine zQ 5 ?_;refine⟨mm-1,by omega,⟨i+1,rfl,hH,by omega,?_⟩⟩;intro j hj
   by_cases he:j=i
   ·subst he;simp at h2;omega
   ·exact hpre j (by omega)
 ·refine zQ 1 ?_;rw[cV (q:=bp f to) (fun j hj=>hpre j (by omega))];refine zQ 4 ?_;refine EvC.ret ⟨rx,_,rfl,rl hSb hH (rfl)⟩
end Go.Proofs.YtnleclohocdkaaaGreat
namespace Go.V
def gQ (l:List (Int×Int)):List (D×D):=l.map fun p=>(.int .i64 p.1,.int .i64 p.2)
def getM:List (Int×Int)→Int→Int
 |[],_=>0
 |(k,x)::l,n=>if n=k then x else getM l n
def lB:List (Int×Int)→Int→Int→List (Int×Int)
 |[],n,v=>[(n,v)]
 |(k,x)::l,n,v=>if n=k then(n,v)::l else(k,x)::lB l n v
theorem kG (n v m:Int):∀l,getM (lB l n v) m=if m=n then v else getM l m
 |[]=>rfl
 |(k,x)::l=>by
  unfold lB
  by_cases h:n=k
  ·subst h;rw[if_pos rfl];unfold getM
   by_cases h2:m=n<;>simp[h2]
  ·rw[if_neg h];unfold getM;rw[kG n v m l]
   by_cases h2:m=n
   ·subst h2;simp[h]
   ·simp[h2]
theorem oO (n:Int):∀(l:List (Int×Int)) (i:Nat),(eo .i64 n (gQ l) i=some none∧getM l n=0∧∀v,lB l n v=l++[(n,v)])∨∃j,eo .i64 n (gQ l) i=some (some (i+j,.int .i64 (getM l n)))∧∀v,lB l n v=l.set j (n,v)
 |[],i=>.inl ⟨rfl,rfl,fun v=>rfl⟩
 |(k,x)::l,i=>by
  by_cases h:n=k
  ·subst h;exact .inr ⟨0,by simp[gQ,eo,getM],fun v=>by simp[lB]⟩
  ·have hb:(n==k)=false:=by simpa using h
   rcases oO n l (i+1) with⟨h1,h2,h3⟩|⟨j,h1,h3⟩
   ·refine .inl ⟨?_,by simp[getM,h,h2],fun v=>by simp[lB,h,h3 v]⟩;show(if IntKind.i64=IntKind.i64 then(if(n==k)=true then some (some (i,D.int .i64 x)) else eo .i64 n (gQ l) (i+1)) else none)=_;rw[hb];exact h1
   ·refine .inr ⟨j+1,?_,fun v=>by simp[lB,h,h3 v]⟩;show(if IntKind.i64=IntKind.i64 then(if(n==k)=true then some (some (i,D.int .i64 x)) else eo .i64 n (gQ l) (i+1)) else none)=_;rw[hb];simp only[getM,h,if_false];rw[show i+(j+1)=i+1+j by omega];exact h1
variable{P:Pv}
theorem oe {st:St} {k:Nat} {l:List (Int×Int)} {t kt e:TypeId} {kk:IntKind} {n v:Int} (ht:P.bG t=some (.map kt e)) (hk:P.bG kt=some (.int kk)) (hb:st.bs[k]?=some (.map (gQ l))) (hw:st.jh k 0=true):
  f' P t (.mp k) (.int .i64 n) (.int .i64 v) st=some {st with bs:=st.bs.set k (.map (gQ (lB l n v)))}:=by
 unfold f';simp only[ht,hk,hb,hw]
 rcases oO n l 0 with⟨h1,_,h3⟩|⟨j,h1,h3⟩
 ·rw[h1,h3 v];simp[gQ]
 ·rw[h1,h3 v];simp[gQ]
theorem wj {st:St} {k:Nat} {l:List (Int×Int)} {t kt e:TypeId} {kk:IntKind} {n:Int} (ht:P.bG t=some (.map kt e)) (hk:P.bG kt=some (.int kk)) (he:pF P e=some (.int .i64 0)) (hb:st.bs[k]?=some (.map (gQ l))):
  ky P t (.mp k) (.int .i64 n) st=some (.int .i64 (getM l n)):=by
 unfold ky;simp only[ht,hk,hb]
 rcases oO n l 0 with⟨h1,h2,_⟩|⟨j,h1,_⟩
 ·rw[h1,h2];exact he
 ·rw[h1]
variable{N:Nat} {S st:St} {H:List aN} {fr ax:Fr} {ops:Array Oper} {rest:List Oper} {Q:Fr→St→Prop} {dst ty:Nat} {pp:String} {a:Array Edge} {g:Option (Nat×Bool)}
theorem EvO.Lk {t:TypeId} {ax:Nat→Fr} (hH:Has N S st H) (hg:av ops fr ⟨some dst,.makeMap t none,ty,pp,a,g⟩=some true) (hp:∀k,fr.put dst (.mp k)=ax k)
  (h:∀k ae,S.bs.length≤k→Has N S ae (.box k (.map (gQ []))::H)→EvO P ops rest (ax k) ae Q):EvO P ops (⟨some dst,.makeMap t none,ty,pp,a,g⟩::rest) fr st Q:=
 EvO.go hg rfl (d:=.mp st.bs.length) (st1:=st.push (.map [])) rfl (hp _) (h _ _ hH.len (hH.rX _))
theorem EvO.x4 {j k:Nat} {l:List (Int×Int)} {t kt e:TypeId} {kk:IntKind} {n v:Int} {mo ko vo:Operand} (hH:Has N S st H) (hg:av ops fr ⟨none,.mapUpdate t mo ko vo,ty,pp,a,g⟩=some true) (ht:P.bG t=some (.map kt e)) (hk:P.bG kt=some (.int kk)) (hm:fr.ev mo=.mp k) (hn:fr.ev ko=.int .i64 n) (hv:fr.ev vo=.int .i64 v) (hj:H[j]?=some (.box k (.map (gQ l))))
  (h:∀ae,Has N S ae (H.set j (.box k (.map (gQ (lB l n v)))))→EvO P ops rest fr ae Q):EvO P ops (⟨none,.mapUpdate t mo ko vo,ty,pp,a,g⟩::rest) fr st Q:=by
 refine EvO.N hg rfl (d:=.tup []) (st1:=⟨st.bs.set k (.map (gQ (lB l n v))),st.flr,st.ro⟩) ?_ (h _ (hH.rM (au:=0) hj));simp only[cF,hm,hn,hv,oe ht hk (hH.at hj) (eU hH (cs:=[]) (hH.ge hj).1 (.inr rfl)),Option.map_some]
theorem EvO.DL {j k:Nat} {l:List (Int×Int)} {t kt e:TypeId} {kk:IntKind} {n v:Int} {mo ko vo:Operand} (hH:Has N S st H) (hg:av ops fr ⟨none,.insert t mo ko vo,ty,pp,a,g⟩=some true) (ht:P.bG t=some (.map kt e)) (hk:P.bG kt=some (.int kk)) (hm:fr.ev mo=.mp k) (hn:fr.ev ko=.int .i64 n) (hv:fr.ev vo=.int .i64 v) (hj:H[j]?=some (.box k (.map (gQ l))))
  (h:∀ae,Has N S ae (H.set j (.box k (.map (gQ (lB l n v)))))→EvO P ops rest fr ae Q):EvO P ops (⟨none,.insert t mo ko vo,ty,pp,a,g⟩::rest) fr st Q:=by
 refine EvO.N hg rfl (d:=.tup []) (st1:=⟨st.bs.set k (.map (gQ (lB l n v))),st.flr,st.ro⟩) ?_ (h _ (hH.rM (au:=0) hj));simp only[cF,hm,hn,hv,oe ht hk (hH.at hj) (eU hH (cs:=[]) (hH.ge hj).1 (.inr rfl)),Option.map_some]
theorem EvO.DM {j k:Nat} {l:List (Int×Int)} {t kt e:TypeId} {kk:IntKind} {n:Int} {mo ko:Operand} (hH:Has N S st H) (hg:av ops fr ⟨some dst,.lookup t mo ko false,ty,pp,a,g⟩=some true) (ht:P.bG t=some (.map kt e)) (hk:P.bG kt=some (.int kk)) (he:pF P e=some (.int .i64 0)) (hm:fr.ev mo=.mp k) (hn:fr.ev ko=.int .i64 n) (hj:H[j]?=some (.box k (.map (gQ l)))) (hp:fr.put dst (.int .i64 (getM l n))=ax)
  (h:EvO P ops rest ax st Q):EvO P ops (⟨some dst,.lookup t mo ko false,ty,pp,a,g⟩::rest) fr st Q:=by
 refine EvO.go hg rfl (d:=.int .i64 (getM l n)) (st1:=st) ?_ hp h;simp only[cF,hm,hn,wj ht hk he (hH.at hj),Option.map_some]
end Go.V
namespace Go.Proofs.YtnleclohocdkaaaGreat
open Go.V Go
def aw (fr:Go.V.Fr) (k:Nat):Go.V.D:=Go.V.nth .junk fr.loc k
structure GT where
 pc:Int
 c:j6
def e5 (t:GT):List D:=[.int .i64 t.pc,.int .i64 (t.c 0),.int .i64 (t.c 1),.int .i64 (t.c 2),.int .i64 (t.c 3),.int .i64 (t.c 4),.int .i64 (t.c 5),.int .i64 (t.c 6),.int .i64 (t.c 7),.int .i64 (t.c 8),.int .i64 (t.c 9)]
theorem BU {l:List GT} {i:Nat} {q:GT} (h:l[i]?=some q):(l.map e5)[i]?=some (e5 q):=by rw[List.getElem?_map,h];rfl
def gj (p:Pg) (s:Int) (m:Nat) (n:Int):Prop:=n=s∨∃i q,i<m∧n=((i+1:Nat):Int)∧(a8 p.code s)[i]?=some true∧p.code[i]?=some q∧q.op=1
def mC (p:Pg) (s:Int) (aV:List GT) (m:Nat) (n:Int):Prop:=gj p s p.code.length n∧∀j t,j<m→aV[j]?=some t→t.pc≠n
def jO (p:Pg) (s:Int) (aV:List GT) (place:Int) (m:Nat):Prop:=∀j t,j<m→aV[j]?=some t→mC p s aV j t.pc∧bp t.c place
theorem oM {p:Pg} {s:Int} {m:Nat} {n:Int} {b:Bool} {q:az} (hb:(a8 p.code s)[m]?=some b) (hq:p.code[m]?=some q):gj p s (m+1) n↔gj p s m n∨(n=((m+1:Nat):Int)∧(b &&(q.op==1))=true):=by
 unfold gj;constructor
 ·rintro(h|⟨i,q',h1,h2,h3,h4,h5⟩)
  ·exact .inl (.inl h)
  ·by_cases he:i=m
   ·subst he;rw[hb] at h3;cases h3;rw[hq] at h4;cases h4;exact .inr ⟨h2,by simp[h5]⟩
   ·exact .inl (.inr ⟨i,q',by omega,h2,h3,h4,h5⟩)
 ·rintro((h|⟨i,q',h1,h2,h3,h4,h5⟩)|⟨h1,h2⟩)
  ·exact .inl h
  ·exact .inr ⟨i,q',by omega,h2,h3,h4,h5⟩
  ·simp only[Bool.and_eq_true,beq_iff_eq] at h2;obtain⟨rfl,h2⟩:=h2;exact .inr ⟨m,q,by omega,h1,hb,hq,h2⟩
theorem wP {p:Pg} {s:Int} {aV:List GT} {j:Nat} {n:Int} {t:GT} (ht:aV[j]?=some t):mC p s aV (j+1) n↔mC p s aV j n∧n≠t.pc:=by
 unfold mC;constructor
 ·rintro⟨h1,h2⟩;exact⟨⟨h1,fun j' t' hj h=>h2 j' t' (by omega) h⟩,fun h=>h2 j t (by omega) ht h.symm⟩
 ·rintro⟨⟨h1,h2⟩,h3⟩;refine⟨h1,fun j' t' hj h=>?_⟩
  by_cases he:j'=j
  ·subst he;rw[ht] at h;cases h;exact fun h=>h3 h.symm
  ·exact h2 j' t' (by omega) h
theorem tq {p:Pg} {s place:Int} {aV:List GT} {j:Nat} {t:GT} (ht:aV[j]?=some t) (h:jO p s aV place j) (h1:mC p s aV j t.pc) (h2:bp t.c place):jO p s aV place (j+1):=by
 intro j' t' hj h'
 by_cases he:j'=j
 ·subst he;rw[ht] at h';cases h';exact⟨h1,h2⟩
 ·exact h j' t' (by omega) h'
theorem Ab {s0:St} {p:Pg} (hp:p.ok) (hR:aR p) {r:Nat} {s:Int} (hr:p.aq[r]?=some s) {dn:Bool} {b:j6} {td:D} {aV:List GT} (Ht:V.Rows s0 11 td (aV.map e5)) (hl:aV.length≤1048576) (place:Int):
  Ev pv 65 [p.d,.int .i64 (r:Nat),.agg (aK dn b td),.int .i64 place] s0 (.bool (dec (jO p s aV place aV.length))) s0:=by
 have hcl:=hR.closed;have fv:=hR.st s (List.mem_of_getElem? hr);have Bt:=hp.c;have hlen:=hp.cl;have px:=nO p.code s;have PD:=hR.sl;have Pz:=lt_get hr;refine Ev.mk1 rfl Mp rfl rfl rfl ?_;refine zE ?_;obtain⟨hSb,hF,hH⟩:=ri s0;generalize enterSt .ro s0=S at*;have hc:=hp.c.arg s0.bs.length S;have hs:=hp.s.arg s0.bs.length S;have Gy:=Arg.of Ht hSb;have JA:=(rA (a8 p.code s)).arg s0.bs.length S;have hr1:=dI hr;unfold Pg.d;refine zQ 2 ?_;refine qb hH fun k4 st JF hH=>?_;dsimp only[u2,u1,u3,u4,setMany,u5,u6,D.cells,Nat.reduceAdd,aA,aK,aC,aj,Pg.cs,e5,df] at hH;refine qb hH fun k6 st DP hH=>?_;dsimp only[u2,u1,u3,u4,setMany,u5,u6,D.cells,Nat.reduceAdd,aA,aK,aC,aj,Pg.cs,e5,df] at hH;refine zQ 9 ?_;refine qr fun G6 Bv=>?_;refine qR ?_;refine qv ((yf Bt hlen hcl fv)) ?_;refine zQ 4 ?_;refine EvO.Lk hH rfl (fun _=>by dsimp only[Fr.put,u1,u2]<;>rfl) (fun km st Lm hH=>?_);refine zQ 3 ?_;refine qr fun p27 hp27=>?_;refine qR ?_;refine EvO.DL hH rfl rfl rfl rfl rfl rfl at0 (fun st hH=>?_);dsimp only[u2] at hH;refine zQ 7 ?_;refine qn ?_;simp only[List.length_map];refine zQ 3 ?_;refine EvC.loop (fun mm fr st=>∃(i:Nat) (M:List (Int×Int)),fr.clean=⟨55,[aw fr 0,.int .i64 (r:Nat),aw fr 2,.int .i64 place,.ptr k4 0 0,aw fr 5,.ptr k6 0 0,aw fr 7,aw fr 8,aw fr 9,.mp km,aw fr 11,aw fr 12,aw fr 13,aw fr 14,aw fr 15,aw fr 16,aw fr 17,aw fr 18,aw fr 19,aw fr 20,aw fr 21,aw fr 22,aw fr 23,aw fr 24,aw fr 25,aw fr 26,aw fr 27,aw fr 28,aw fr 29,s_ (a8 p.code s),.int .i64 ((a8 p.code s).length:Nat),.int .i64 (i:Nat),aw fr 33,aw fr 34,aw fr 35,aw fr 36,aw fr 37,aw fr 38,aw fr 39,aw fr 40,aw fr 41,aw fr 42,aw fr 43,aw fr 44,aw fr 45,aw fr 46,aw fr 47,aw fr 48,aw fr 49,aw fr 50,aw fr 51,aw fr 52,aw fr 53,aw fr 54],[]⟩∧Has s0.bs.length S st [.box km (.map (gQ M)),.box k6 (.mem 0 false (aK dn b td)),.box k4 (.mem 0 false [p.cd,p.sd])]∧(i+mm=p.code.length)∧(∀n,getM M n≠0↔gj p s i n)) (p.code.length) ?_ ?_
 ·refine⟨0,_,rfl,hH,by omega,?_⟩;intro n;rw[kG];unfold gj
  by_cases hn:n=s<;>simp[hn,getM]
 rintro mm fr st ⟨i,M,hfr,hH,hi,hM⟩;rw[hfr];clear hfr;generalize aw fr=ee;clear fr;refine zQ 5 ?_;refine zP (fun h1=>?_) fun h1=>?_
 ·refine zQ 1 ?_
  obtain⟨b,hb⟩:∃b,(a8 p.code s)[i]?=some b:=⟨(a8 p.code s)[i]'(by omega),List.getElem?_eq_getElem _⟩
  obtain⟨q,hq⟩:∃q,p.code[i]?=some q:=⟨p.code[i]'(by omega),List.getElem?_eq_getElem _⟩
  have hr1:=o4 hb;have mN:=ft hq;refine zQ 5 ?_;refine qr fun Jv DE=>?_;refine zQ 5 ?_;refine EvC.jI 46 (.bool (b &&(q.op==1))) [37,38,39,40,41,42,43,44,45] ?_ (fun ff tmp=>?_)
  ·refine zQ 2 ?_;refine EvO.two 38 rfl (fun hD=>?_) (fun hD=>?_)
   ·refine zQ 3 ?_;refine qr (fun OV K5=>?_) (hg:=wi hD);refine qf (fo:=0) (fun Su P0=>?_) (hg:=wi hD);refine zQ 3 ?_;refine EvO.nil (aI ?_);refine zG ?_
    all_goals(simp[hD];done)
   ·refine zQ 8 ?_;refine EvO.nil (aI ?_);refine zG ?_
    all_goals(simp[hD];done)
  dsimp only[setW,List.foldl,nth,u2,u1];generalize ff 37=S8;generalize ff 38=S7;generalize ff 39=S6;generalize ff 40=S5;generalize ff 41=S4;generalize ff 42=S3;generalize ff 43=S1;generalize ff 44=S0;generalize ff 45=SZ;refine zF ?_;refine qc (fun h2=>?_) (fun h2=>?_)<;>try simp only[cs] at h2
  ·refine zQ 4 ?_;refine EvO.x4 hH rfl rfl rfl rfl rfl rfl at0 (fun st hH=>?_);dsimp only[u2] at hH;refine zQ 5 ?_;refine⟨mm-1,by omega,⟨i+1,_,rfl,hH,by omega,?_⟩⟩;intro n;rw[kG,oM hb hq,h2,←hM n]
   by_cases hn:n=((i+1:Nat):Int)
   ·rw[if_pos (by rw[hn];omega)];simp[hn]
   ·rw[if_neg (by omega)];exact⟨.inl,fun h=>h.elim id fun h=>absurd h.1 hn⟩
  ·refine zQ 5 ?_;refine⟨mm-1,by omega,⟨i+1,_,rfl,hH,by omega,?_⟩⟩;intro n;rw[oM hb hq,←hM n];exact⟨.inl,fun h=>h.elim id fun h=>absurd h.2 (by rw[h2];decide)⟩
 ·refine zQ 1 ?_;have hM:∀n,getM M n≠0↔mC p s aV 0 n:=fun n=>by rw[hM n];unfold mC;rw[show i=p.code.length by omega];simp
  refine zQ 5 ?_;refine qn ?_;simp only[List.length_map];refine zQ 3 ?_;refine EvC.loop (fun mm fr st=>∃(j:Nat) (M:List (Int×Int)),fr.clean=⟨55,[aw fr 0,.int .i64 (r:Nat),aw fr 2,.int .i64 place,.ptr k4 0 0,aw fr 5,.ptr k6 0 0,aw fr 7,aw fr 8,aw fr 9,.mp km,aw fr 11,aw fr 12,aw fr 13,aw fr 14,aw fr 15,aw fr 16,aw fr 17,aw fr 18,aw fr 19,aw fr 20,aw fr 21,aw fr 22,aw fr 23,aw fr 24,aw fr 25,aw fr 26,aw fr 27,aw fr 28,aw fr 29,aw fr 30,aw fr 31,aw fr 32,aw fr 33,aw fr 34,aw fr 35,aw fr 36,aw fr 37,aw fr 38,aw fr 39,aw fr 40,aw fr 41,aw fr 42,aw fr 43,aw fr 44,aw fr 45,aw fr 46,aw fr 47,aw fr 48,aw fr 49,aw fr 50,aw fr 51,td,.int .i64 (aV.length:Nat),.int .i64 (j:Nat)],[]⟩∧Has s0.bs.length S st [.box km (.map (gQ M)),.box k6 (.mem 0 false (aK dn b td)),.box k4 (.mem 0 false [p.cd,p.sd])]∧(j+mm=aV.length)∧(∀n,getM M n≠0↔mC p s aV j n)∧(jO p s aV place j)) (aV.length) ?_ ?_
  ·exact⟨0,_,rfl,hH,by omega,hM,(by intro j t h;omega)⟩
  rintro mm fr st ⟨j,M,hfr,hH,hj,hM,hw⟩;rw[hfr];clear hfr;generalize aw fr=ee;clear fr;refine zQ 5 ?_;refine zP (fun h3=>?_) fun h3=>?_
  ·refine zQ 1 ?_
   obtain⟨t,ht⟩:∃t,aV[j]?=some t:=⟨aV[j]'(by omega),List.getElem?_eq_getElem _⟩
   have KP:=BU ht;refine zQ 4 ?_;refine qr fun OR K1=>?_;refine EvO.cq rfl (ev rfl) (by assumption) rfl (put_T rfl _) ?_;refine qa hH fun k14 st FL hH=>?_;dsimp only[u2,u1,u3,u4,setMany,u5,u6,D.cells,Nat.reduceAdd,aA,aK,aC,aj,Pg.cs,e5,df] at hH;refine qS hH at0 fun st hH=>?_;dsimp only[u2,u1,u3,u4,setMany,u5,u6,D.cells,Nat.reduceAdd,aA,aK,aC,aj,Pg.cs,e5,df] at hH;refine zQ 3 ?_;refine EvC.cutT 69 (.bool (getM M t.pc==0||!(dec (bp t.c place)))) [] ?_ (fun ff tmp htmp=>?_)
   ·refine zQ 3 ?_;refine EvO.DM hH rfl rfl rfl rfl rfl rfl at1 (put_T rfl _) ?_;refine zQ 2 ?_;refine EvO.two 63 rfl (fun gd=>?_) (fun gd=>?_)
    ·refine zQ 6 ?_;refine EvO.nil (leafT ?_ ?_)
     ·dsimp only[setW,List.foldl,nth,u2,u1]
      all_goals(first|rfl|simp)
     ·refine zF ?_
      all_goals(simp[gd];done)
    ·refine zQ 1 ?_;refine EvO.hloadS (m:=10) hH (wantD_is rfl rfl rfl gd) (ev rfl) (by exact at0) (by dsimp only[List.drop_succ_cons,List.drop_zero,List.take_succ_cons,List.take_zero,aA,aK,aC,aj,Pg.cs,e5,df]<;>rfl) rfl rfl (put_T rfl _) ?_;refine zQ 1 ?_;refine qv (lC t.c place) ?_ (hg:=wi gd);refine zQ 2 ?_;refine EvO.nil (leafT ?_ ?_)
     ·dsimp only[setW,List.foldl,nth,u2,u1]
      all_goals(first|rfl|simp)
     ·refine zF ?_
      all_goals(simp[gd];done)
   refine zG ?_;refine qc (fun h4=>?_) (fun h4=>?_)<;>try simp only[cs] at h4
   ·rw[iy (fun h=>by
     have:=h j t (by omega) ht;rw[cV this.2] at h4;have h5:=(hM t.pc).2 this.1
     simp[h5] at h4)]
    refine zQ 4 ?_;refine EvC.ret ⟨rx,_,rfl,rl hSb hH (rfl)⟩
   ·refine zQ 5 ?_;refine EvO.x4 hH rfl rfl rfl rfl rfl rfl at1 (fun st hH=>?_);dsimp only[u1,u2] at hH;refine zQ 5 ?_;refine⟨mm-1,by omega,⟨j+1,_,rfl,hH.drop 1,by omega,?_,?_⟩⟩
    ·intro n;rw[kG,wP ht,←hM n]
     by_cases hn:n=t.pc<;>simp[hn]
    ·simp only[Bool.or_eq_false_iff,beq_eq_false_iff_ne,ne_eq,Bool.not_eq_false'] at h4;exact tq ht hw ((hM t.pc).1 h4.1) (@of_decide_eq_true _ (Classical.propDecidable _) h4.2)
  ·refine zQ 1 ?_;rw[show aV.length=j by omega,cV hw];refine zQ 4 ?_;refine EvC.ret ⟨rx,_,rfl,rl hSb hH (rfl)⟩
end Go.Proofs.YtnleclohocdkaaaGreat
namespace Go.Proofs.YtnleclohocdkaaaGreat
open Go.V Go
def bB (fr:Go.V.Fr) (k:Nat):Go.V.D:=Go.V.nth .junk fr.loc k
structure GV where
 dn:Bool
 aJ:j6
 td:D
 aV:List GT
def gU (l:GV):List D:=aK l.dn l.aJ l.td
theorem wM {l:List GV} {i:Nat} {q:GV} (h:l[i]?=some q):(l.map gU)[i]?=some (gU q):=by rw[List.getElem?_map,h];rfl
def mj (f:j6):Prop:=∀i,i<10→f i=-1
theorem A4 (f:j6):dec (mj f)=(f 0==-1 &&(f 1==-1 &&(f 2==-1 &&(f 3==-1 &&(f 4==-1 &&(f 5==-1 &&(f 6==-1 &&(f 7==-1 &&(f 8==-1 &&f 9==-1))))))))):=by
 by_cases h:mj f
 ·rw[cV h,h 0 (by decide),h 1 (by decide),h 2 (by decide),h 3 (by decide),h 4 (by decide),h 5 (by decide),h 6 (by decide),h 7 (by decide),h 8 (by decide),h 9 (by decide)];rfl
 ·rw[iy h];refine(Bool.eq_false_iff.2 fun h2=>h ?_).symm;simp only[Bool.and_eq_true,beq_iff_eq] at h2;intro i hi
  match i,hi with
  |0,_=>exact h2.1
  |1,_=>exact h2.2.1
  |2,_=>exact h2.2.2.1
  |3,_=>exact h2.2.2.2.1
  |4,_=>exact h2.2.2.2.2.1
  |5,_=>exact h2.2.2.2.2.2.1
  |6,_=>exact h2.2.2.2.2.2.2.1
  |7,_=>exact h2.2.2.2.2.2.2.2.1
  |8,_=>exact h2.2.2.2.2.2.2.2.2.1
  |9,_=>exact h2.2.2.2.2.2.2.2.2.2
theorem A7 (f:j6):gX pv .neq 55 (.agg (aC f)) (.agg (aC bj))=some (.bool (!dec (mj f))):=by
 have h:∀a b c d e g i j k l n:Int,gX pv .neq 55 (.agg [.int .i64 a,.int .i64 b,.int .i64 c,.int .i64 d,.int .i64 e,.int .i64 g,.int .i64 i,.int .i64 j,.int .i64 k,.int .i64 l]) (.agg [.int .i64 n,.int .i64 n,.int .i64 n,.int .i64 n,.int .i64 n,.int .i64 n,.int .i64 n,.int .i64 n,.int .i64 n,.int .i64 n])=Option.map (fun b=>D.bool !b) (match some (a==n) with|some true=>(match some (b==n) with|some true=>(match some (c==n) with|some true=>(match some (d==n) with|some true=>(match some (e==n) with|some true=>(match some (g==n) with|some true=>(match some (i==n) with|some true=>(match some (j==n) with|some true=>(match some (k==n) with|some true=>(match some (l==n) with|some true=>some true|some false=>some false|none=>none)|some false=>some false|none=>none)|some false=>some false|none=>none)|some false=>some false|none=>none)|some false=>some false|none=>none)|some false=>some false|none=>none)|some false=>some false|none=>none)|some false=>some false|none=>none)|some false=>some false|none=>none)|some false=>some false|none=>none):=fun _ _ _ _ _ _ _ _ _ _ _=>rfl;rw[A4];unfold aC;rw[show bj 0=-1 from rfl,show bj 1=-1 from rfl,show bj 2=-1 from rfl,show bj 3=-1 from rfl,show bj 4=-1 from rfl,show bj 5=-1 from rfl,show bj 6=-1 from rfl,show bj 7=-1 from rfl,show bj 8=-1 from rfl,show bj 9=-1 from rfl];rw[h];generalize(f 0==-1)=b0;generalize(f 1==-1)=b1;generalize(f 2==-1)=b2;generalize(f 3==-1)=b3;generalize(f 4==-1)=b4;generalize(f 5==-1)=b5;generalize(f 6==-1)=b6;generalize(f 7==-1)=b7;generalize(f 8==-1)=b8;generalize(f 9==-1)=b9;cases b0
 ·rfl
 cases b1
 ·rfl
 cases b2
 ·rfl
 cases b3
 ·rfl
 cases b4
 ·rfl
 cases b5
 ·rfl
 cases b6
 ·rfl
 cases b7
 ·rfl
 cases b8
 ·rfl
 cases b9<;>rfl
def vi (p:Pg) (place:Int) (L:List GV) (m:Nat):Prop:=∀r l s,r<m→L[r]?=some l→p.aq[r]?=some s→(l.dn=true∨mj l.aJ)∧bp l.aJ place∧jO p s l.aV place l.aV.length
structure fS (p:Pg) (place:Int) (L:List GV):Prop where
 right:aR p
 ge:0≤place
 le:place≤1099511627776
 len:L.length=p.aq.length
 each:vi p place L L.length
theorem vi.succ {p:Pg} {place:Int} {L:List GV} {m:Nat} {l:GV} {s:Int} (h:vi p place L m) (hl:L[m]?=some l) (hs:p.aq[m]?=some s) (h1:(l.dn=true∨mj l.aJ)∧bp l.aJ place∧jO p s l.aV place l.aV.length):vi p place L (m+1):=by
 intro r l' s' hr hl' oC
 by_cases he:r=m
 ·subst he;rw[hl] at hl';cases hl';rw[hs] at oC;cases oC;exact h1
 ·exact h r l' s' (by omega) hl' oC
def mT (st:St) (x:D) (L:List GV):Prop:=V.Rows st 12 x (L.map gU)∧L.length≤1048576∧∀l∈L,V.Rows st 11 l.td (l.aV.map e5)∧l.aV.length≤1048576
theorem tv (gb:∀st,Ev pv 63 [] st (.agg (aC bj)) st) {s0:St} {p:Pg} (hp:p.ok) {x:D} {L:List GV} (hx:mT s0 x L) (place:Int):
  Ev pv 18 [p.d,.agg [.int .i64 place,x]] s0 (.bool (dec (fS p place L))) s0:=by
 obtain⟨hx,hLl,Fb⟩:=hx;have il:=hp.sl;refine Ev.mk1 rfl MG rfl rfl rfl ?_;refine zE ?_;obtain⟨hSb,hF,hH⟩:=ri s0;generalize enterSt .ro s0=S at*;have hs:=hp.s.arg s0.bs.length S;have hla:=Arg.of hx hSb;have hcr:=fun st=>jM (s0:=st) hp;have ND:=fun{st:St} (hR:aR p) {r:Nat} {s:Int} (hr:p.aq[r]?=some s) {dn:Bool} {b:j6} {td:D} {aV:List GT} (Ht:V.Rows st 11 td (aV.map e5)) (hl:aV.length≤1048576)=>Ab (s0:=st) hp hR hr (dn:=dn) (b:=b) Ht hl place;unfold Pg.d at*;refine zQ 2 ?_;refine qb hH fun k2 st hk2 hH=>?_;dsimp only[u2,u1,u3,u4,setMany,u5,u6,D.cells,Nat.reduceAdd,aA,aK,aC,aj,Pg.cs,e5,gU] at hH;refine qb hH fun k3 st FK hH=>?_;refine zQ 4 ?_;refine EvC.jI 28 (.bool (((!dec (aR p)||decide (place<0))||decide (place>1099511627776))||(((L.length:Nat):Int) !=((p.aq.length:Nat):Int)))) [7,8,9,10,11,12,13,14,15,16,17,18,19,20,21,22,23,24,25,26,27] ?_ (fun ff tmp=>?_)
 ·refine EvO.hloadS (m:=2) hH rfl (ev rfl) (by exact at1) (by dsimp only[List.drop_succ_cons,List.drop_zero,List.take_succ_cons,List.take_zero,aA,aK,aC,aj,Pg.cs,e5,gU]<;>rfl) rfl rfl (by dsimp only[Fr.put,u1,u2]<;>rfl) ?_;refine qv ((hcr _)) ?_;refine zQ 2 ?_;refine EvO.two 10 rfl (fun hg3=>?_) (fun hg3=>?_)
  ·refine zQ 18 ?_;refine EvO.nil (aI ?_);refine zG ?_
   all_goals(simp[hg3];done)
  ·refine zQ 5 ?_;refine EvO.two 15 rfl (fun hg8=>?_) (fun hg8=>?_)
   ·refine zQ 13 ?_;refine EvO.nil (aI ?_);refine zG ?_
    all_goals(simp[hg3,hg8];done)
   ·refine zQ 5 ?_;refine EvO.two 20 rfl (fun hg13=>?_) (fun hg13=>?_)
    ·refine zQ 8 ?_;refine EvO.nil (aI ?_);refine zG ?_
     all_goals(simp[hg3,hg8,hg13];done)
    ·refine zQ 2 ?_;refine qn ?_ (hg:=wi hg13);simp only[List.length_map];refine zQ 2 ?_;refine qn ?_ (hg:=wi hg13);simp only[List.length_map];refine zQ 2 ?_;refine EvO.nil (aI ?_);refine zG ?_
     all_goals(simp[hg3,hg8,hg13];done)
 dsimp only[setW,List.foldl,nth,u2,u1];generalize ff 7=e7;generalize ff 8=e8;generalize ff 9=e9;generalize ff 10=RV;generalize ff 11=RU;generalize ff 12=RT;generalize ff 13=RS;generalize ff 14=RR;generalize ff 15=RQ;generalize ff 16=RP;generalize ff 17=Tf;generalize ff 18=RO;generalize ff 19=RN;generalize ff 20=RM;generalize ff 21=RL;generalize ff 22=RK;generalize ff 23=RJ;generalize ff 24=RI;generalize ff 25=RH;generalize ff 26=RG;generalize ff 27=RF;refine qc (fun h0=>?_) (fun h0=>?_)<;>try simp only[cs] at h0
 ·rw[iy (q:=fS p place L) (fun h=>by
   rw[cV h.right] at h0;have h1:=h.ge;have h2:=h.le;have h3:=h.len
   simp at h0;omega)]
  refine zQ 4 ?_;refine EvC.ret ⟨rx,_,rfl,rl hSb hH (rfl)⟩
 ·refine zQ 1 ?_
  have h0:aR p∧0≤place∧place≤1099511627776∧L.length=p.aq.length:=by
   simp only[Bool.or_eq_false_iff,decide_eq_false_iff_not,Bool.not_eq_false'] at h0;obtain⟨⟨⟨h1,h2⟩,h3⟩,h4⟩:=h0;refine⟨@of_decide_eq_true _ (Classical.propDecidable _) h1,by omega,by omega,?_⟩;simp at h4;omega
  obtain⟨hR,hge,hle,Ro⟩:=h0;refine zQ 5 ?_;refine qn ?_;simp only[List.length_map];refine zQ 3 ?_;refine EvC.loop (fun mm fr st=>∃(r:Nat),fr.clean=⟨33,[bB fr 0,bB fr 1,.ptr k2 0 0,.ptr k3 0 0,bB fr 4,bB fr 5,bB fr 6,bB fr 7,bB fr 8,bB fr 9,bB fr 10,bB fr 11,bB fr 12,bB fr 13,bB fr 14,bB fr 15,bB fr 16,bB fr 17,bB fr 18,bB fr 19,bB fr 20,bB fr 21,bB fr 22,bB fr 23,bB fr 24,bB fr 25,bB fr 26,bB fr 27,bB fr 28,bB fr 29,x,.int .i64 (L.length:Nat),.int .i64 (r:Nat)],[]⟩∧Has s0.bs.length S st [.box k3 (.mem 0 false [.int .i64 place,x]),.box k2 (.mem 0 false [p.cd,p.sd])]∧(r+mm=L.length)∧(vi p place L r)) (L.length) ?_ ?_
  ·exact⟨0,rfl,hH,by omega,by intro r l s h;omega⟩
  rintro mm fr st ⟨r,hfr,hH,hi,hw⟩;rw[hfr];clear hfr;generalize bB fr=ee;clear fr;refine zQ 5 ?_;refine zP (fun h1=>?_) fun h1=>?_
  ·refine zQ 1 ?_
   obtain⟨l,hl⟩:∃l,L[r]?=some l:=⟨L[r]'(by omega),List.getElem?_eq_getElem _⟩
   obtain⟨s,kZ⟩:∃s,p.aq[r]?=some s:=⟨p.aq[r]'(by omega),List.getElem?_eq_getElem _⟩
   obtain⟨Ht,mJ⟩:=Fb l (List.mem_of_getElem? hl);have Gy:=Arg.of Ht hSb;have hr1:=wM hl;refine zQ 5 ?_;refine qr fun Jv DE=>?_;refine EvO.cq rfl (ev rfl) (by assumption) rfl (put_T rfl _) ?_;refine qa hH fun k6 st DP hH=>?_;refine qm ?_;refine qS hH at0 fun st hH=>?_;dsimp only[u2,u1,u3,u4,setMany,u5,u6,D.cells,Nat.reduceAdd,aA,aK,aC,aj,Pg.cs,e5,gU] at hH;refine zQ 2 ?_;refine EvC.cutT 62 (.bool (((!l.dn &&!dec (mj l.aJ))||!dec (bp l.aJ place))||!dec (jO p s l.aV place l.aV.length))) [] ?_ (fun ff tmp htmp=>?_)
   ·refine zQ 4 ?_;refine EvO.two 40 rfl (fun hg3=>?_) (fun hg3=>?_)
    ·refine zQ 1 ?_;refine EvO.hloadS (m:=10) hH (wantD_is rfl rfl rfl hg3) (ev rfl) (by exact at0) (by dsimp only[List.drop_succ_cons,List.drop_zero,List.take_succ_cons,List.take_zero,aA,aK,aC,aj,Pg.cs,e5,gU]<;>rfl) rfl rfl (put_T rfl _) ?_;refine qv (gb _) ?_ (hg:=wi hg3);refine EvO.Gw (wantD_is rfl rfl rfl hg3) (ev rfl) (ev rfl) (A7 l.aJ) (put_T rfl _) ?_;refine zQ 2 ?_;refine EvO.two 46 rfl (fun ez=>?_) (fun ez=>?_)
     ·refine zQ 16 ?_;refine EvO.nil (leafT ?_ ?_)
      ·dsimp only[setW,List.foldl,nth,u2,u1]
       all_goals(first|rfl|simp)
      ·refine zF ?_
       all_goals(simp[hg3,ez];done)
     ·refine zQ 1 ?_;refine EvO.hloadS (m:=10) hH (wantD_is rfl rfl rfl ez) (ev rfl) (by exact at0) (by dsimp only[List.drop_succ_cons,List.drop_zero,List.take_succ_cons,List.take_zero,aA,aK,aC,aj,Pg.cs,e5,gU]<;>rfl) rfl rfl (put_T rfl _) ?_;refine zQ 2 ?_;refine qv (lC l.aJ place) ?_ (hg:=wi ez);refine zQ 3 ?_;refine EvO.two 54 rfl (fun bu=>?_) (fun bu=>?_)
      ·refine zQ 8 ?_;refine EvO.nil (leafT ?_ ?_)
       ·dsimp only[setW,List.foldl,nth,u2,u1]
        all_goals(first|rfl|simp)
       ·refine zF ?_
        all_goals(simp[hg3,ez,bu];done)
      ·refine EvO.hloadS (m:=2) hH (wantD_is rfl rfl rfl bu) (ev rfl) (by exact at2) (by dsimp only[List.drop_succ_cons,List.drop_zero,List.take_succ_cons,List.take_zero,aA,aK,aC,aj,Pg.cs,e5,gU]<;>rfl) rfl rfl (put_T rfl _) ?_;refine zQ 1 ?_;refine EvO.hloadS (m:=12) hH (wantD_is rfl rfl rfl bu) (ev rfl) (by exact at0) (by dsimp only[List.drop_succ_cons,List.drop_zero,List.take_succ_cons,List.take_zero,aA,aK,aC,aj,Pg.cs,e5,gU]<;>rfl) rfl rfl (put_T rfl _) ?_;refine zQ 2 ?_;refine qv ((ND hR kZ (Gy.rows hH) mJ)) ?_ (hg:=wi bu);refine zQ 2 ?_;refine EvO.nil (leafT ?_ ?_)
       ·dsimp only[setW,List.foldl,nth,u2,u1]
        all_goals(first|rfl|simp)
       ·refine zF ?_
        all_goals(simp[hg3,ez,bu];done)
    ·refine zQ 7 ?_;refine EvO.hloadS (m:=10) hH rfl (ev rfl) (by exact at0) (by dsimp only[List.drop_succ_cons,List.drop_zero,List.take_succ_cons,List.take_zero,aA,aK,aC,aj,Pg.cs,e5,gU]<;>rfl) rfl rfl (put_T rfl _) ?_;refine zQ 2 ?_;refine qv (lC l.aJ place) ?_;refine zQ 3 ?_;refine EvO.two 54 rfl (fun bu=>?_) (fun bu=>?_)
     ·refine zQ 8 ?_;refine EvO.nil (leafT ?_ ?_)
      ·dsimp only[setW,List.foldl,nth,u2,u1]
       all_goals(first|rfl|simp)
      ·refine zF ?_
       all_goals(simp[hg3,bu];done)
     ·refine EvO.hloadS (m:=2) hH (wantD_is rfl rfl rfl bu) (ev rfl) (by exact at2) (by dsimp only[List.drop_succ_cons,List.drop_zero,List.take_succ_cons,List.take_zero,aA,aK,aC,aj,Pg.cs,e5,gU]<;>rfl) rfl rfl (put_T rfl _) ?_;refine zQ 1 ?_;refine EvO.hloadS (m:=12) hH (wantD_is rfl rfl rfl bu) (ev rfl) (by exact at0) (by dsimp only[List.drop_succ_cons,List.drop_zero,List.take_succ_cons,List.take_zero,aA,aK,aC,aj,Pg.cs,e5,gU]<;>rfl) rfl rfl (put_T rfl _) ?_;refine zQ 2 ?_;refine qv ((ND hR kZ (Gy.rows hH) mJ)) ?_ (hg:=wi bu);refine zQ 2 ?_;refine EvO.nil (leafT ?_ ?_)
      ·dsimp only[setW,List.foldl,nth,u2,u1]
       all_goals(first|rfl|simp)
      ·refine zF ?_
       all_goals(simp[hg3,bu];done)
   refine zG ?_;refine qc (fun h2=>?_) (fun h2=>?_)<;>try simp only[cs] at h2
   ·rw[iy (q:=fS p place L) (fun h=>by
     obtain⟨h3,h4,h5⟩:=h.each r l s (by omega) hl kZ;rw[cV h4,cV h5] at h2
     rcases h3 with h3|h3
     ·simp[h3] at h2
     ·simp[cV h3] at h2)]
    refine zQ 4 ?_;refine EvC.ret ⟨rx,_,rfl,rl hSb hH (rfl)⟩
   ·refine zQ 5 ?_;refine⟨mm-1,by omega,⟨r+1,rfl,hH.drop 1,by omega,?_⟩⟩;simp only[Bool.or_eq_false_iff,Bool.and_eq_false_iff,Bool.not_eq_false'] at h2;obtain⟨⟨h3,h4⟩,h5⟩:=h2;refine hw.succ hl kZ ⟨?_,@of_decide_eq_true _ (Classical.propDecidable _) h4,@of_decide_eq_true _ (Classical.propDecidable _) h5⟩
    rcases h3 with h3|h3
    ·exact .inl h3
    ·exact .inr (@of_decide_eq_true _ (Classical.propDecidable _) h3)
  ·refine zQ 1 ?_;rw[cV (q:=fS p place L) ⟨hR,hge,hle,Ro,by rw[show L.length=r by omega];exact hw⟩];refine zQ 4 ?_;refine EvC.ret ⟨rx,_,rfl,rl hSb hH (rfl)⟩
end Go.Proofs.YtnleclohocdkaaaGreat
namespace Go.Proofs.YtnleclohocdkaaaGreat
open Go.V Go
theorem BX {p:Pg} (hR:aR p) {s:Int} (hs:0≤s∧s<(p.code.length:Int)) {m:Nat} {n:Int} (h:gj p s m n):0≤n∧n<(p.code.length:Int):=by
 rcases h with rfl|⟨i,q,h1,rfl,h3,h4,h5⟩
 ·exact hs
 ·have h6:=hR.sh i q h4;unfold cw at h6;rw[if_pos h5] at h6;simp only[Bool.and_eq_true,decide_eq_true_eq] at h6;exact⟨by omega,h6.2.1.1⟩
def vj (aV:List GT) (j:Nat) (seen:List Bool):Prop:=∀(k:Nat) b,seen[k]?=some b→(b=true↔∃j' t,j'<j∧aV[j']?=some t∧t.pc=(k:Int))
theorem vj.nil (aV:List GT) (n:Nat):vj aV 0 (List.replicate n false):=by
 intro k b h;rw[List.getElem?_replicate] at h
 split at h
 ·cases h;simp
 ·cases h
theorem vj.set {aV:List GT} {j k:Nat} {seen:List Bool} {t:GT} (h:vj aV j seen) (ht:aV[j]?=some t) (hk:t.pc=(k:Int)):vj aV (j+1) (seen.set k true):=by
 intro k' b hb;rw[List.getElem?_set] at hb
 by_cases he:k=k'
 ·subst he;rw[if_pos rfl] at hb
  split at hb
  ·cases hb;exact⟨fun _=>⟨j,t,by omega,ht,hk⟩,fun _=>rfl⟩
  ·cases hb
 ·rw[if_neg he] at hb;rw[h k' b hb];constructor
  ·rintro⟨j',t',h1,h2,h3⟩;exact⟨j',t',by omega,h2,h3⟩
  ·rintro⟨j',t',h1,h2,h3⟩
   by_cases hj:j'=j
   ·subst hj;rw[ht] at h2;cases h2;omega
   ·exact⟨j',t',by omega,h2,h3⟩
end Go.Proofs.YtnleclohocdkaaaGreat
namespace Go.Proofs.YtnleclohocdkaaaGreat
open Go.V Go
def GT.Cw (t:GT):dx:=⟨t.pc.toNat,t.c⟩
def GV.v (l:GV):VL:=⟨l.dn,l.aJ,l.td,l.aV.map GT.Cw⟩
theorem BS (L:List GV):(L.map GV.v).map dX=L.map gU:=by rw[List.map_map];rfl
theorem yD {l:List GT} (h:∀t∈l,0≤t.pc):(l.map GT.Cw).map aL=l.map e5:=by
 rw[List.map_map];refine List.map_congr_left fun t ht=>?_;obtain⟨k,hk⟩:=Int.eq_ofNat_of_zero_le (h t ht);obtain⟨pc,c⟩:=t;simp only at hk;subst hk
 rfl
theorem fS.Cw {p:Pg} {place:Int} {L:List GV} (h:fS p place L) {l:GV} (hl:l∈L) {t:GT} (ht:t∈l.aV):0≤t.pc∧t.pc<(p.code.length:Int):=by
 obtain⟨r,hr⟩:=List.getElem?_of_mem hl;obtain⟨j,hj⟩:=List.getElem?_of_mem ht;have px:=lt_get hr;have hlen:=h.len
 obtain⟨s,hs⟩:∃s,p.aq[r]?=some s:=⟨p.aq[r]'(by omega),List.getElem?_eq_getElem _⟩
 exact BX h.right (h.right.st s (List.mem_of_getElem? hs)) ((h.each r l s px hr hs).2.2 j t (lt_get hj) hj).1.1
theorem fS.cells {p:Pg} {place:Int} {L:List GV} (h:fS p place L) {l:GV} (hl:l∈L):l.v.aV.map aL=l.aV.map e5:=yD fun t ht=>(h.Cw hl ht).1
theorem fS.ok {p:Pg} {place:Int} {L:List GV} (h:fS p place L) (ht:∀l∈L,l.aV.length≤1000):∀l∈(L.map GV.v).map VL.pl,l.ok p.code.length:=by
 intro q hq;obtain⟨v,hv,rfl⟩:=List.mem_map.1 hq;obtain⟨l,hl,rfl⟩:=List.mem_map.1 hv;refine⟨fun t h'=>?_,by show(l.aV.map GT.Cw).length≤1000;rw[List.length_map];exact ht l hl⟩;obtain⟨u,hu,rfl⟩:=List.mem_map.1 (show t∈l.aV.map GT.Cw from h');have:=h.Cw hl hu;show u.pc.toNat<_;omega
theorem EI (gb:∀st,Ev pv 63 [] st (.agg (aC bj)) st) {N:Nat} {S s0:St} {H:List aN} {p:Pg} {x:D} {L:List GV} {place:Int} (hF:S.flr≤N) (hp:p.ok) (hW:fS p place L) (hx:Arg N S 12 x (L.map gU)) (ht:∀l∈L,Arg N S 11 l.td (l.aV.map e5)∧l.aV.length≤1000) (hH:Has N S s0 H):
  ∃r ae,Ev pv 19 [p.d,.agg [.int .i64 place,x]] s0 r ae∧∃kv ks q ld L',r=.tup [.ptr kv 0 0,.int .i64 0]∧kT p q∧L'.map VL.pl=(L.map GV.v).map VL.pl∧MH [] N S ae ks kv q place.toNat ld L' H:=by
 have hR:=hW.right;have Fg:=hR.sl;have hLl:=hW.len;obtain⟨pn,rfl⟩:=Int.eq_ofNat_of_zero_le hW.ge;have CF:=fun{st:St} {H:List aN} (hH:Has N S st H)=>tu hF hp hR hH;have NG:=fun{st:St} (hx:mT st x L)=>tv gb hp hx ((pn:Nat):Int);rw[cV hW] at NG;have SC:=hx.2
 have Q6:=fun{st:St} {H:List aN} (hH:Has N S st H)=>oW (L:=L.map GV.v) (x:=x) hF (by rw[List.length_map];omega) (by rw[BS];exact hx) (fun l hl=>by
  obtain⟨g,hg,rfl⟩:=List.mem_map.1 hl;refine⟨?_,by show(g.aV.map GT.Cw).length≤1000;rw[List.length_map];exact(ht g hg).2⟩
  rw[hW.cells hg];exact(ht g hg).1) hH
 unfold Pg.d at*;refine Ev.iB rfl MF rfl rfl rfl ?_;refine zE ?_;change EvC _ _ _ _ s0 _;refine qq<|qj fun K hK=>qb hH fun k2 st hk2 hH=>?_;dsimp only[u2,u1,u3,u4,setMany,u5,u6,D.cells,Nat.reduceAdd,Pg.cs] at hH;refine qb hH fun k3 st FK hH=>?_;refine qm ?_;refine qm ?_;refine qe hK<|qq<|qj fun K hK=>?_;refine EvO.hloadS (m:=2) hH rfl (ev rfl) (by exact at1) (by dsimp only[List.drop_succ_cons,List.drop_zero,List.take_succ_cons,List.take_zero,Pg.cs]<;>rfl) rfl rfl (put_T rfl _) ?_;obtain⟨_,st,hev,kv,ks,q,rfl,hq,hM⟩:=CF hH;refine qv hev ?_;refine qm ?_;refine qg ?_;refine qg ?_;refine qm ?_;refine qm ?_;refine qe hK ?_;obtain⟨pd,qd,P,Q,sn,hH,hok,fg⟩:=hM;dsimp only[u4,u6] at hH;refine qq<|qq<|qj fun K hK=>qm ?_;refine qg ?_;refine qe hK<|EvC.cond (v:=false) (by dsimp only[Fr.ev,Fr.get,nth,V.look];rfl) (fun h=>by cases h) (fun _=>?_);refine EvC.skip<|qq<|qq<|qj fun K hK=>?_;refine EvO.hloadS (m:=2) hH rfl (ev rfl) (by exact at6) (by dsimp only[List.drop_succ_cons,List.drop_zero,List.take_succ_cons,List.take_zero,Pg.cs]<;>rfl) rfl rfl (put_T rfl _) ?_;refine EvO.hloadS (m:=2) hH rfl (ev rfl) (by exact at5) (by dsimp only[List.drop_succ_cons,List.drop_zero,List.take_succ_cons,List.take_zero,Pg.cs]<;>rfl) rfl rfl (put_T rfl _) ?_;refine qv ((NG ⟨hx.rows hH,by omega,fun l hl=>⟨(ht l hl).1.rows hH,by have:=(ht l hl).2;omega⟩⟩)) ?_;refine qg ?_;refine qe hK<|EvC.cond (v:=false) (by dsimp only[Fr.ev,Fr.get,nth,V.look];rfl) (fun h=>by cases h) (fun _=>?_);refine EvC.skip ?_;have hH:=Has.g_ [_,_,_,_,_] [_,_] hH;dsimp only[u3,u4] at hH;have vw:=hH;have FK:=hH.ge at0;change EvC _ _ _ _ _ _;refine qq ?_;generalize hK:SeqQ _ _ _ _=K;refine EvC.yV rfl ?_;refine cM.cons ?_;refine qm ?_;refine EvO.nil ⟨rfl,?_⟩;refine cM.cons ?_;refine qm ?_;refine EvO.nil ⟨rfl,?_⟩;refine cM.cons ?_;refine qp (o:=0) ?_;refine EvO.nil ⟨rfl,?_⟩;refine cM.cons ?_;refine ql hH at0 ?_;refine EvO.nil ⟨rfl,?_⟩;refine cM.cons ?_;refine qp (o:=1) ?_;refine EvO.nil ⟨rfl,?_⟩;refine cM.cons ?_;refine ql hH at0 ?_;refine EvO.nil ⟨rfl,?_⟩;refine cM.cons ?_;obtain⟨_,st,hev,L2,ED,hH⟩:=Q6 hH;have hH:=Has.g_ (_::L2.map j7) [_,_,_,_,_,_,_] hH;dsimp only[u3,u4] at hH;have DY:=hH;refine qv hev ?_;refine EvO.nil ⟨by exact Bool.and_eq_true_iff.2 ⟨gV rfl rfl rfl (vw.at at0) (DY.at at0) (vw.at at0) (by simp only[refs,D.ref];omega),rfl⟩,?_⟩;refine cM.cons ?_;refine qg ?_;refine EvO.nil ⟨rfl,?_⟩;refine cM.cons ?_;refine qp (o:=2) ?_;refine EvO.nil ⟨rfl,?_⟩;refine cM.cons ?_;refine qT hH at2 fun st hH=>?_;dsimp only[u2,u1,u3,u4,setMany,u5,u6,D.cells,Nat.reduceAdd,Pg.cs] at hH;refine EvO.nil ⟨rfl,?_⟩;refine cM.cons ?_;refine qg ?_;refine EvO.nil ⟨rfl,?_⟩;refine cM.cons ?_;refine qp (o:=3) ?_;refine EvO.nil ⟨rfl,?_⟩;refine cM.cons ?_;refine qT hH at2 (fun st hH=>?_) (gy:=hH.ocells at7);dsimp only[u2,u1,u3,u4,setMany,u5,u6,D.cells,Nat.reduceAdd,Pg.cs] at hH;refine EvO.nil ⟨rfl,?_⟩;refine cM.nil ?_;subst hK;refine qq<|qj fun K hK=>qm ?_;refine qm ?_;refine qm ?_;refine qe hK<|EvC.ret ⟨rx,_,_,_,rfl,rfl,?_⟩;rw[Int.toNat_natCast];exact⟨kv,ks,q,_,L2,rfl,hq,ED,pd,qd,P,Q,sn,(hH.drop 2).erase 4,hok,fg⟩
structure Jt (x:D) (L:List GV):Prop where
 sl:SlD x 12 (L.map gU)
 ln:L.length≤12
 th:∀l∈L,SlD l.td 11 (l.aV.map e5)∧l.aV.length≤500
theorem Jt.arg {x:D} {L:List GV} (h:Jt x L) (st:St):mT st x L:=⟨h.sl.rows st,by have:=h.ln;omega,fun l hl=>⟨(h.th l hl).1.rows st,by have:=(h.th l hl).2;omega⟩⟩
end Go.Proofs.YtnleclohocdkaaaGreat
namespace Go.Proofs.YtnleclohocdkaaaGreat
open Go.V Go
theorem BT (l:List GT):∀e∈l.map e5,∀d∈e,bD d=true:=by
 intro e he d hd;obtain⟨q,_,rfl⟩:=List.mem_map.1 he;simp only[e5,List.mem_cons,List.not_mem_nil,or_false] at hd
 rcases hd with rfl|rfl|rfl|rfl|rfl|rfl|rfl|rfl|rfl|rfl|rfl<;>rfl
theorem F8 (l:List GT):∀e∈l.map e5,e.length=11:=by
 intro e he;obtain⟨q,_,rfl⟩:=List.mem_map.1 he;rfl
def Ma (l:List GT):D:=.sl ((l.map e5).map (iC 11))
theorem ID (l:List GT):SlD (Ma l) 11 (l.map e5):=SlD.frozen (F8 l) (BT l)
def GV.told (l:GV):GV:=⟨l.dn,l.aJ,Ma l.aV,l.aV⟩
def E4 (L:List GV):D:=.sl (((L.map GV.told).map gU).map (iC 12))
theorem F6 (L:List GV):∀e∈L.map gU,e.length=12:=by
 intro e he;obtain⟨q,_,rfl⟩:=List.mem_map.1 he;rfl
theorem told_plain (L:List GV):∀e∈(L.map GV.told).map gU,∀d∈e,bD d=true:=by
 intro e he d hd;obtain⟨q,hq,rfl⟩:=List.mem_map.1 he;obtain⟨g,_,rfl⟩:=List.mem_map.1 hq;simp only[gU,aK,GV.told,Ma,List.mem_cons,List.not_mem_nil,or_false] at hd
 rcases hd with rfl|rfl|rfl|rfl|rfl|rfl|rfl|rfl|rfl|rfl|rfl|rfl<;>rfl
theorem Jt.told {x:D} {L:List GV} (h:Jt x L):Jt (E4 L) (L.map GV.told):=by
 refine⟨SlD.frozen (F6 _) (told_plain L),by rw[List.length_map];exact h.ln,fun l hl=>?_⟩;obtain⟨g,hg,rfl⟩:=List.mem_map.1 hl;exact⟨ID _,(h.th g hg).2⟩
end Go.Proofs.YtnleclohocdkaaaGreat
