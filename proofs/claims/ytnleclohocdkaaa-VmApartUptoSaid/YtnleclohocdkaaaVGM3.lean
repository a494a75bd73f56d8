/-
 Arguments as the row reads them are values of V; no conditions.
-/
import Derived.Test.YtnleclohocdkaaaVM2
import Derived.DataReads
import Derived.ChangeOld
import GoSem.ClaimChange
import Derived.Below
import Derived.Test.YtnleclohocdkaaaRows
import Derived.Test.YtnleclohocdkaaaVGQe
import Derived.Test.YtnleclohocdkaaaVGYg
import Derived.Test.YtnleclohocdkaaaVGJh
set_option linter.unusedSimpArgs false
set_option linter.unusedVariables false
set_option linter.unusedSectionVars false
set_option linter.unnecessarySimpa false
set_option maxRecDepth 100000
namespace Go.V
open Go.RowKit
def nL {H:Type}:DataW H→Bool
 | .agg _=>true
 |_=>false
mutual
def vj {H:Type}:DataW H→List D
 | .lit (.bool b)=>[.bool b]
 | .lit (.int k n)=>[.int k n]
 | .lit (.string l)=>[.str l]
 | .lit _=>[.bh]
 | .nil=>[.nul]
 | .slice elems _=>[.sl (xh elems)]
 | .agg parts=>kF parts
 | .ptr _=>[.bh]
 | .iface _ _=>[.bh]
 | .map _=>[.bh]
 | .held _=>[.bh]
def xh {H:Type}:List (DataW H)→List D
 |[]=>[]
 |d::r=>(if nL d then .agg (vj d) else(vj d).headD .bh)::xh r
def kF {H:Type}:List (DataW H)→List D
 |[]=>[]
 |d::r=>vj d++kF r
end
def lA {H:Type} (d:DataW H):D:=if nL d then .agg (vj d) else(vj d).headD .bh
theorem xg {H:Type}:∀l:List (DataW H),xh l=l.map lA
 |[]=>rfl
 |d::r=>by simp only[xh,List.map_cons,xg r];rfl
def rG (P:Program):Nat→List Field→Option Nat
 |o,[]=>some o
 |o,f::fs=>if f.offset=o then rG P (o+P.cellsOf f.type) fs else none
def Ce (P:Program):Nat→TypeId→Bool
 |0,_=>false
 |n+1,t=>match P.underlying t with
  |some .bool=>true
  |some (.int _)=>true
  |some .string=>true
  |some (.slice e)=>Ce P n e &&decide (0<P.cellsOf e)
  |some (.struct fs)=>(rG P 0 fs.toList==some (P.cellsOf t)) &&fs.toList.all fun f=>Ce P n f.type
  |some (.array m e)=>Ce P n e &&(P.cellsOf t==m*P.cellsOf e)
  |_=>false
structure CR (w:World) (Z:Nat→Prop) (cs:List D) (vs:List Value):Prop where
 len:cs.length=vs.length
 one:∀v∈vs,v.oneCell'=true
 onec:∀c∈cs,c.cells?=some [c]
 rel:∀(i:Nat) c v,cs[i]?=some c→vs[i]?=some v→IR w Z c v
theorem CR.nil {w:World} {Z:Nat→Prop}:CR w Z [] []:=⟨rfl,by simp,by simp,by simp⟩
theorem CR.single {w:World} {Z:Nat→Prop} {c:D} {v:Value} (h:IR w Z c v) (h1:v.oneCell'=true) (h2:c.cells?=some [c]):CR w Z [c] [v]:=
 ⟨rfl,by simpa using h1,by simpa using h2,fun i c' v' hc hv=>by
  cases i with
  |zero=>simp at hc hv;subst hc;subst hv;exact h
  |succ i=>simp at hc⟩
theorem CR.append {w:World} {Z:Nat→Prop} {cs cs':List D} {vs IZ:List Value} (h:CR w Z cs vs) (g:CR w Z cs' IZ):CR w Z (cs++cs') (vs++IZ):=by
 refine⟨by simp[h.len,g.len],fun v hv=>?_,fun c hc=>?_,fun i c v hc hv=>?_⟩
 ·rcases List.mem_append.1 hv with hv|hv
  ·exact h.one v hv
  ·exact g.one v hv
 ·rcases List.mem_append.1 hc with hc|hc
  ·exact h.onec c hc
  ·exact g.onec c hc
 ·rw[List.getElem?_append] at hc hv;have:=h.len
  split at hc
  ·rw[if_pos (by omega)] at hv;exact h.rel i c v hc hv
  ·rw[if_neg (by omega)] at hv;rw[←this] at hv;exact g.rel _ c v hc hv
theorem vU {H:Type} {P:Program} {w:World} {Z:Nat→Prop} {f:Field→Option (DataW H×List MemPlace)} {cs:List Value}:∀{fs:List Field} {o e:Nat} {xs:List (DataW H×List MemPlace)},rG P o fs=some e→e≤cs.length→fs.mapM f=some xs→
  (∀g∈fs,∀x,f g=some x→CR w Z (vj x.1) ((cs.drop g.offset).take (P.cellsOf g.type)))→CR w Z (kF (xs.map (·.1))) ((cs.drop o).take (e-o))∧o≤e
 |[],o,e,xs,hc,_,hm,_=>by
  simp[rG] at hc;subst hc;simp at hm;subst hm;simp[kF];exact CR.nil
 |g::fs,o,e,xs,hc,he,hm,hx=>by
  simp only[rG] at hc
  split at hc
  ·rename_i ho;rw[List.mapM_cons] at hm
   cases h1:f g with
   |none=>rw[h1] at hm;simp at hm
   |some x=>
    rw[h1] at hm
    cases h2:fs.mapM f with
    |none=>rw[h2] at hm;simp at hm
    |some ys=>
     rw[h2] at hm;simp at hm;subst hm;obtain⟨ih,hle⟩:=vU hc he h2 fun g' Tu=>hx g' (List.mem_cons_of_mem _ Tu);have hg:=hx g (List.mem_cons_self ..) x h1;rw[ho] at hg;refine⟨?_,by omega⟩;simp only[List.map_cons,kF]
     have:(cs.drop o).take (e-o)=(cs.drop o).take (P.cellsOf g.type)++(cs.drop (o+P.cellsOf g.type)).take (e-(o+P.cellsOf g.type)):=by
      rw[←List.drop_drop,show e-o=P.cellsOf g.type+(e-(o+P.cellsOf g.type)) by omega,List.take_add]
     rw[this];exact hg.append ih
  ·cases hc
theorem xb {H:Type} {w:World} {Z:Nat→Prop} {s:Nat} {f:Nat→Option (DataW H×List MemPlace)} {cs:List Value}:∀{m k:Nat} {xs:List (DataW H×List MemPlace)},(List.range' k m).mapM f=some xs→(k+m)*s≤cs.length→
  (∀i x,f i=some x→CR w Z (vj x.1) ((cs.drop (i*s)).take s))→CR w Z (kF (xs.map (·.1))) ((cs.drop (k*s)).take (m*s))
 |0,k,xs,hm,_,_=>by simp at hm;subst hm;simp[kF];exact CR.nil
 |m+1,k,xs,hm,hl,hx=>by
  rw[List.range'_succ,List.mapM_cons] at hm
  cases h1:f k with
  |none=>rw[h1] at hm;simp at hm
  |some x=>
   rw[h1] at hm
   cases h2:(List.range' (k+1) m).mapM f with
   |none=>rw[h2] at hm;simp at hm
   |some ys=>
    rw[h2] at hm;simp at hm;subst hm;have ih:=xb h2 (by rw[show k+1+m=k+(m+1) by omega];exact hl) hx;simp only[List.map_cons,kF];rw[show(m+1)*s=s+m*s by rw[Nat.add_mul];omega,List.take_add,List.drop_drop,show k*s+s=(k+1)*s by rw[Nat.add_mul];omega];exact(hx k x h1).append ih
theorem cells_one {c:D} (h:c.cells?=some [c]):c.cells=[c]:=by
 cases c<;>first|rfl|cases h|(simp only[D.cells?,Option.some.injEq] at h;simpa only[D.cells] using h)
theorem xC (b off n:Nat):(⟨b,off,none⟩:Addr).add n=⟨b,off+n,none⟩:=by
 cases n<;>simp[Addr.add]
theorem o0 {H:Type} {enc:TypeId×Value→H} {P:Program} {w:World} {spare:Nat→Bool} {held:Bool}:∀(fuel:Nat) (t:TypeId) (cs:List Value) (d:DataW H) (ps:List MemPlace) (n:Nat),DataW.trod enc P w 0 spare held fuel t cs=some (d,ps)→Ce P n t=true→
  CR w (fun b=>b<w.heap.size) (vj d) cs∧cs.length=(match P.underlying t with|some (.struct _)|some (.array _ _)=>P.cellsOf t|_=>1)∧(nL d=(match P.underlying t with|some (.struct _)|some (.array _ _)=>true|_=>false))
 |0,t,cs,d,ps,n,h,_=>by simp[DataW.trod] at h
 |fuel+1,t,cs,d,ps,0,h,ht=>by simp[Ce] at ht
 |fuel+1,t,cs,d,ps,n+1,h,ht=>by
  simp only[Ce] at ht;unfold DataW.trod at h
  cases hu:P.underlying t with
  |none=>rw[hu] at ht;simp at ht
  |some u=>
   rw[hu] at h ht
   cases u with
   |bool=>
    rcases cs with _|⟨v,_|⟨v2,cs⟩⟩<;>try(simp at h;done)
    cases v<;>simp at h
    obtain⟨rfl,rfl⟩:=h;exact⟨CR.single (.bool _) rfl rfl,rfl,rfl⟩
   |int k=>
    rcases cs with _|⟨v,_|⟨v2,cs⟩⟩<;>try(simp at h;done)
    cases v<;>simp at h
    obtain⟨⟨rfl,_⟩,rfl,rfl⟩:=h;exact⟨CR.single (.int _ _) rfl rfl,rfl,rfl⟩
   |string=>
    rcases cs with _|⟨v,_|⟨v2,cs⟩⟩<;>try(simp at h;done)
    cases v<;>simp at h
    rename_i b;obtain⟨_,rfl,rfl⟩:=h;refine⟨CR.single ?_ rfl rfl,rfl,rfl⟩;have:=IR.str (w:=w) (Z:=fun b=>b<w.heap.size) b.data.toList
    simpa using this
   |slice e=>
    simp only[Bool.and_eq_true,decide_eq_true_eq] at ht
    rcases cs with _|⟨v,_|⟨v2,cs⟩⟩<;>try(simp at h;done)
    cases v<;>try(simp at h;done)
    rename_i a len cap
    cases a with
    |none=>
     cases len<;>cases cap<;>simp at h
     obtain⟨rfl,rfl⟩:=h;exact⟨CR.single .nul rfl rfl,rfl,rfl⟩
    |some a=>
     simp only at h
     split at h
     ·rename_i hc;simp only[Option.bind_eq_some_iff,Option.map_eq_some_iff] at h;obtain⟨elems,he,rest,hr,hd⟩:=h;cases hd;refine⟨?_,rfl,rfl⟩;have hlen:elems.length=len:=by simpa using mapM_some_length he
      have hget:=mapM_some_get he
      have each:∀(i:Nat),i<len→∃x cs,elems[i]?=some x∧w.cells? 0 (a.add (i*P.cellsOf e)) (P.cellsOf e)=some cs∧CR w (fun b=>b<w.heap.size) (vj x.1) cs∧cs.length=P.cellsOf e∧(nL x.1=(match P.underlying e with|some (.struct _)|some (.array _ _)=>true|_=>false))∧cs.length=(match P.underlying e with|some (.struct _)|some (.array _ _)=>P.cellsOf e|_=>1):=by
       intro i hi;have h1:=hget i i (by simp[hi]);have h2:elems[i]?=some (elems[i]'(by omega)):=List.getElem?_eq_getElem _;rw[h2] at h1;obtain⟨cs,i_,hx⟩:=Option.bind_eq_some_iff.1 h1;obtain⟨q1,q2,q3⟩:=o0 fuel e cs _ _ n hx ht.1;exact⟨_,cs,h2,i_,q1,(World.cells?_some i_).2.1,q3,q2⟩
      refine CR.single ?_ rfl rfl
      cases len with
      |zero=>
       have:elems=[]:=by cases elems with|nil=>rfl|cons _ _=>simp at hlen
       subst this;exact .emp _ _
      |succ m=>
       have Qa:a.spot=none∧a.block<w.heap.size:=by
        obtain⟨x,cs,_,h2,_,_⟩:=each 0 (by omega);refine⟨?_,?_⟩
        ·have:=(World.cells?_some h2).2.2 0 ht.2;have hl:=(World.cells?_some h2).2.1
         obtain⟨c0,KE⟩:∃c0,cs[0]?=some c0:=⟨cs[0]'(by omega),List.getElem?_eq_getElem _⟩
         rw[KE] at this
         simpa[Addr.add] using World.cell?_spot this
        ·simpa[Addr.add] using World.cells?_block h2 ht.2
       obtain⟨b,off,spot⟩:=a;simp only at Qa;obtain⟨rfl,hb⟩:=Qa
       have hcell:∀(i j:Nat),i<m+1→j<P.cellsOf e→∃x cs v,elems[i]?=some x∧cs[j]?=some v∧w.cell? ⟨b,off+(i*P.cellsOf e+j),none⟩=some v∧CR w (fun b=>b<w.heap.size) (vj x.1) cs:=by
        intro i j hi hj;obtain⟨x,cs,h1,h2,h3,h4,_⟩:=each i hi;have:=(World.cells?_some h2).2.2 j hj
        obtain⟨v,hv⟩:∃v,cs[j]?=some v:=⟨cs[j]'(by omega),List.getElem?_eq_getElem _⟩
        rw[hv] at this;refine⟨x,cs,v,h1,hv,?_,h3⟩;rw[←this,xC,xC,Nat.add_assoc]
       have ti:(xh (elems.map (·.1)))=elems.map fun x=>lA x.1:=by rw[xg,List.map_map];rfl
       have hE:∀(i:Nat) q,(xh (elems.map (·.1)))[i]?=some q→∃x cs,i<m+1∧elems[i]?=some x∧q.cells?=some q.cells∧q.cells=vj x.1∧CR w (fun b=>b<w.heap.size) (vj x.1) cs∧cs.length=P.cellsOf e:=by
        intro i q hq;rw[ti,List.getElem?_map] at hq;obtain⟨x,hx,rfl⟩:=Option.map_eq_some_iff.1 hq
        have hi:i<m+1:=by
         rcases Nat.lt_or_ge i (m+1) with h'|h'
         ·exact h'
         ·rw[List.getElem?_eq_none (by omega)] at hx;cases hx
        obtain⟨x',cs,h1,h2,h3,h4,h5,h6⟩:=each i hi;rw[hx] at h1;cases h1;refine⟨x,cs,hi,hx,?_,?_,h3,h4⟩
        ·unfold lA
         split
         ·rfl
         ·rename_i HG
          have rQ:(vj x.1).length=1:=by
           rw[h3.len,h6];rw[h5] at HG
           revert HG
           split<;>simp
          match hd:vj x.1,rQ with
          |[c],_=>have:=h3.onec c (by rw[hd];simp);simp only[List.headD_cons];rw[cells_one this];exact this
        ·unfold lA
         split
         ·rfl
         ·rename_i HG
          have rQ:(vj x.1).length=1:=by
           rw[h3.len,h6];rw[h5] at HG
           revert HG
           split<;>simp
          match hd:vj x.1,rQ with
          |[c],_=>have:=h3.onec c (by rw[hd];simp);simp only[List.headD_cons];exact cells_one this
       have hL:(xh (elems.map (·.1))).length=m+1:=by rw[ti];simp[hlen]
       have hf:=fun(i j:Nat) (hi:i<m+1) (hj:j<P.cellsOf e)=>hcell i j hi hj;have:=IR.sl (w:=w) (Z:=fun b=>b<w.heap.size) (xh (elems.map (·.1))) b off cap (P.cellsOf e) (fun i j=>(w.cell? ⟨b,off+(i*P.cellsOf e+j),none⟩).getD undef) hb (by rw[hL];exact hc.2.1)
        (fun i q hq=>by
         obtain⟨x,cs,h1,h2,h3,h4,h5,h6⟩:=hE i q hq
         exact⟨h3,by rw[h4,h5.len,h6]⟩)
        (fun i q j c hq hj=>by
         obtain⟨x,cs,h1,h2,h3,h4,h5,h6⟩:=hE i q hq
         have jU:j<P.cellsOf e:=by
          rcases Nat.lt_or_ge j (P.cellsOf e) with h'|h'
          ·exact h'
          ·rw[h4,List.getElem?_eq_none (by rw[h5.len,h6];exact h')] at hj;cases hj
         obtain⟨x',cs',v,g1,g2,g3,g4⟩:=hf i j h1 jU;rw[g3]
         exact⟨rfl,g4.one v (List.mem_of_getElem? g2)⟩)
        (fun i q j c hq hj=>by
         obtain⟨x,cs,h1,h2,h3,h4,h5,h6⟩:=hE i q hq
         have jU:j<P.cellsOf e:=by
          rcases Nat.lt_or_ge j (P.cellsOf e) with h'|h'
          ·exact h'
          ·rw[h4,List.getElem?_eq_none (by rw[h5.len,h6];exact h')] at hj;cases hj
         obtain⟨x',cs',v,g1,g2,g3,g4⟩:=hf i j h1 jU;rw[g3];rw[h2] at g1;cases g1
         exact g4.rel j c v (by rw[←h4];exact hj) g2)
       rw[hL] at this;exact this
     ·cases h
   |struct fs=>
    simp only[Bool.and_eq_true,beq_iff_eq,List.all_eq_true] at ht;simp only at h
    split at h
    ·rename_i hl;obtain⟨xs,hx,hd⟩:=Option.map_eq_some_iff.1 h;cases hd;refine⟨?_,hl,rfl⟩;obtain⟨h1,_⟩:=vU (w:=w) (Z:=fun b=>b<w.heap.size) (cs:=cs) ht.1 (by omega) hx fun g hg x Tp=>(o0 fuel g.type _ _ _ n Tp (ht.2 g hg)).1;rw[List.drop_zero,Nat.sub_zero,←hl,List.take_length] at h1;exact h1
    ·cases h
   |array m e=>
    simp only[Bool.and_eq_true,beq_iff_eq] at ht;simp only at h
    split at h
    ·rename_i hl;obtain⟨xs,hx,hd⟩:=Option.map_eq_some_iff.1 h;cases hd;refine⟨?_,hl,rfl⟩;rw[List.range_eq_range'] at hx;have h1:=xb (w:=w) (Z:=fun b=>b<w.heap.size) (s:=P.cellsOf e) (cs:=cs) hx (by rw[Nat.zero_add,←ht.2,hl];exact Nat.le_refl _) fun i x Ti=>(o0 fuel e _ _ _ n Ti ht.1).1;rw[Nat.zero_mul,List.drop_zero,←ht.2,←hl,List.take_length] at h1;exact h1
    ·cases h
   |_=>simp at ht
theorem tO {H:Type} {enc:TypeId×Value→H} {P:Program} {w:World} {spare:Nat→Bool} {held:Bool} {r:Reach} {base:Nat} {t:TypeId} {v:Value} {d:DataW H} {ps:List MemPlace} {n:Nat} (h:DataW.Trod enc P w 0 spare held t v d ps) (ht:Ce P n t=true) (hv:Value.okWide P w r base t v):
  IR w (fun b=>b<w.heap.size) (lA d) v:=by
 obtain⟨fuel,hf⟩:=h;obtain⟨h1,h2,h3⟩:=o0 fuel t _ d ps n hf ht
 have hu:∃u,P.underlying t=some u:=by
  cases n with
  |zero=>simp[Ce] at ht
  |succ n=>
   simp only[Ce] at ht
   cases hu:P.underlying t with
   |none=>rw[hu] at ht;simp at ht
   |some u=>exact⟨u,rfl⟩
 obtain⟨u,hu⟩:=hu;unfold Value.okWide at hv;rw[hu] at hv h2 h3
 have KH:(∃cs:Array Value,v=.agg cs)→nL d=true→IR w (fun b=>b<w.heap.size) (lA d) v:=by
  rintro⟨cs,rfl⟩ hd;unfold lA;rw[if_pos hd];have:=IR.agg (w:=w) (Z:=fun b=>b<w.heap.size) (vj d) cs.toList (by simpa[Value.cells] using h1.len) (by simpa[Value.cells] using h1.one) (by simpa[Value.cells] using h1.rel)
  simpa using this
 have jL:nL d=false→v.cells.toList.length=1→(∀cs,v≠.agg cs)→IR w (fun b=>b<w.heap.size) (lA d) v:=by
  intro hd hl HG;unfold lA;rw[if_neg (by rw[hd];simp)]
  have hc:v.cells.toList=[v]:=by cases v<;>first|rfl|exact absurd rfl (HG _)
  rw[hc] at h1
  match hq:vj d,h1.len with
  |[c],_=>exact h1.rel 0 c v (by rw[hq];rfl) rfl
 have hcell:Cell.okWide P w r base t v→∀cs,v≠.agg cs:=by
  rintro hc cs rfl;unfold Cell.okWide at hc;rw[hu] at hc;cases u<;>simp[Cell.ok,hu] at hc
 cases u with
 |struct fs=>obtain⟨cs,h,_⟩:=hv;exact KH ⟨cs,h⟩ h3
 |array m e=>obtain⟨cs,h,_⟩:=hv;exact KH ⟨cs,h⟩ h3
 |_=>exact jL h3 h2 (hcell hv)
end Go.V
namespace Go.V
open Go.RowKit
theorem l3 {H:Type} {enc:TypeId×Value→H} {P:Program} {w:World} {spare:Nat→Bool} {held:Bool} {t:TypeId} {v:Value} {d:DataW H} {ps:List MemPlace} (h:DataW.Trod enc P w 0 spare held t v d ps) (ht:P.underlying t=some .string):
  ∃l:List UInt8,lA d=.str l∧d=.lit (.string l):=by
 obtain⟨fuel,h⟩:=h
 cases fuel with
 |zero=>simp[DataW.trod] at h
 |succ fuel=>
  unfold DataW.trod at h;rw[ht] at h;generalize v.cells.toList=cs at h
  rcases cs with _|⟨v,_|⟨v2,cs⟩⟩<;>try(simp at h;done)
  cases v<;>simp at h
  obtain⟨_,rfl,_⟩:=h;exact⟨_,rfl,rfl⟩
theorem Br {pv:Pv} {P:Program} (h:pv.Ok P∧pv.ig∧gE P pv (dL pv)) {f:Nat} {ds:List D} {af:St} (hs:Ev pv f ds ⟨[],0,0⟩ (.bool true) af) {w:World} {us:List Value} (hl:ds.length=us.length)
  (hr:∀(i:Nat) c v,ds[i]?=some c→us[i]?=some v→IR w (fun b=>b<w.heap.size) c v):Calls P f us.toArray w fun e w'=>e=.returned (.bool true)∧Below w.heap.size w w':=by
 obtain⟨N,hN⟩:=Ev.out hs;refine(sound h (hN N (Nat.le_refl _)) (w:=w) (Z:=fun b=>b<w.heap.size) (fun _ h=>h) hl hr).mono fun e w'=>?_;rintro⟨v,β',Z',rfl,he,hv⟩;rw[dJ hv];exact⟨rfl,⟨he.os,he.tape,he.output,he.size,fun k hk=>he.block k hk fun f=>f⟩⟩
end Go.V
namespace Go.V
open Go.RowKit
def Rd {H:Type} (enc:TypeId×Value→H) (P:Program) (w:World) (spare:Nat→Bool) (held:Bool) (t:TypeId) (d:DataW H):Prop:=
 ∃fuel cs ps,DataW.trod enc P w 0 spare held fuel t cs=some (d,ps)
section
variable{H:Type} {enc:TypeId×Value→H} {P:Program} {w:World} {spare:Nat→Bool} {held:Bool} {t e:TypeId} {d:DataW H}
theorem Rd.of {v:Value} {ps:List MemPlace} (h:DataW.Trod enc P w 0 spare held t v d ps):Rd enc P w spare held t d:=by
 obtain⟨fuel,h⟩:=h;exact⟨fuel,_,_,h⟩
theorem Rd.int {k:IntKind} (h:Rd enc P w spare held t d) (ht:P.underlying t=some (.int k)):∃n:Int,d=.lit (.int k n)∧(Lit.int k n).wf=true:=by
 obtain⟨fuel,cs,ps,h⟩:=h
 cases fuel with
 |zero=>simp[DataW.trod] at h
 |succ fuel=>
  unfold DataW.trod at h;rw[ht] at h
  rcases cs with _|⟨v,_|⟨v2,cs⟩⟩<;>try(simp at h;done)
  cases v<;>simp at h
  obtain⟨⟨rfl,hw⟩,rfl,_⟩:=h;exact⟨_,rfl,hw⟩
theorem Rd.bool (h:Rd enc P w spare held t d) (ht:P.underlying t=some .bool):∃b:Bool,d=.lit (.bool b):=by
 obtain⟨fuel,cs,ps,h⟩:=h
 cases fuel with
 |zero=>simp[DataW.trod] at h
 |succ fuel=>
  unfold DataW.trod at h;rw[ht] at h
  rcases cs with _|⟨v,_|⟨v2,cs⟩⟩<;>try(simp at h;done)
  cases v<;>simp at h
  obtain⟨rfl,_⟩:=h;exact⟨_,rfl⟩
theorem Rd.string (h:Rd enc P w spare held t d) (ht:P.underlying t=some .string):∃l:List UInt8,d=.lit (.string l):=by
 obtain⟨fuel,cs,ps,h⟩:=h
 cases fuel with
 |zero=>simp[DataW.trod] at h
 |succ fuel=>
  unfold DataW.trod at h;rw[ht] at h
  rcases cs with _|⟨v,_|⟨v2,cs⟩⟩<;>try(simp at h;done)
  cases v<;>simp at h
  obtain⟨_,rfl,_⟩:=h;exact⟨_,rfl⟩
theorem Rd.slice (h:Rd enc P w spare held t d) (ht:P.underlying t=some (.slice e)):d=.nil∨∃elems rest,d=.slice elems rest∧∀x∈elems,Rd enc P w spare held e x:=by
 obtain⟨fuel,cs,ps,h⟩:=h
 cases fuel with
 |zero=>simp[DataW.trod] at h
 |succ fuel=>
  unfold DataW.trod at h;rw[ht] at h
  rcases cs with _|⟨v,_|⟨v2,cs⟩⟩<;>try(simp at h;done)
  cases v<;>try(simp at h;done)
  rename_i a len cap
  cases a with
  |none=>
   cases len<;>cases cap<;>simp at h
   obtain⟨rfl,rfl⟩:=h;exact .inl rfl
  |some a=>
   simp only at h
   split at h
   ·simp only[Option.bind_eq_some_iff,Option.map_eq_some_iff] at h;obtain⟨elems,hm,rest,hr,hd⟩:=h;cases hd;refine .inr ⟨_,_,rfl,fun x hx=>?_⟩;obtain⟨y,hy,rfl⟩:=List.mem_map.1 hx;have hlen:elems.length=len:=by simpa using mapM_some_length hm
    have hget:=mapM_some_get hm;obtain⟨i,hi⟩:=List.getElem?_of_mem hy;have hil:i<len:=by have:=aR hi;omega
    have h1:=hget i i (by simp[hil]);rw[hi] at h1;obtain⟨cs,_,hx⟩:=Option.bind_eq_some_iff.1 h1;exact⟨fuel,cs,y.2,hx⟩
   ·cases h
theorem nF {α β:Type} {f:α→Option β}:∀{l:List α} {m:List β},l.mapM f=some m→cF (fun a b=>f a=some b) l m
 |[],m,h=>by simp at h;subst h;exact .nil
 |a::l,m,h=>by
  rw[List.mapM_cons] at h
  cases h1:f a with
  |none=>rw[h1] at h;simp at h
  |some b=>
   rw[h1] at h
   cases h2:l.mapM f with
   |none=>rw[h2] at h;simp at h
   |some ys=>rw[h2] at h;simp at h;subst h;exact .cons h1 (nF h2)
theorem cF.Jm {α β γ:Type} {R:α→γ→Prop} {f:β→γ}:∀{l:List α} {m:List β},cF (fun a b=>R a (f b)) l m→cF R l (m.map f)
 |_,_,.nil=>.nil
 |_,_,.cons a t=>.cons a t.Jm
theorem Rd.struct {fs:Array Field} (h:Rd enc P w spare held t d) (ht:P.underlying t=some (.struct fs)):∃parts,d=.agg parts∧cF (fun(f:Field) x=>Rd enc P w spare held f.type x) fs.toList parts:=by
 obtain⟨fuel,cs,ps,h⟩:=h
 cases fuel with
 |zero=>simp[DataW.trod] at h
 |succ fuel=>
  unfold DataW.trod at h;rw[ht] at h;simp only at h
  split at h
  ·obtain⟨xs,hx,hd⟩:=Option.map_eq_some_iff.1 h;cases hd;refine⟨_,rfl,?_⟩;exact((nF hx).mono fun f x Tw=>(⟨fuel,_,_,Tw⟩:Rd enc P w spare held f.type x.1)).Jm
  ·cases h
theorem Rd.array {n:Nat} (h:Rd enc P w spare held t d) (ht:P.underlying t=some (.array n e)):∃parts,d=.agg parts∧parts.length=n∧∀x∈parts,Rd enc P w spare held e x:=by
 obtain⟨fuel,cs,ps,h⟩:=h
 cases fuel with
 |zero=>simp[DataW.trod] at h
 |succ fuel=>
  unfold DataW.trod at h;rw[ht] at h;simp only at h
  split at h
  ·obtain⟨xs,hx,hd⟩:=Option.map_eq_some_iff.1 h;cases hd;have h1:=nF hx;refine⟨_,rfl,by have:=h1.len;simp at this;simp[←this],fun x MK=>?_⟩;obtain⟨y,hy,rfl⟩:=List.mem_map.1 MK
   have key:∀{l:List Nat} {m:List (DataW H×List MemPlace)},cF (fun i x=>DataW.trod enc P w 0 spare held fuel e ((cs.drop (i*P.cellsOf e)).take (P.cellsOf e))=some x) l m→∀y∈m,Rd enc P w spare held e y.1:=by
    intro l m h
    induction h with
    |nil=>intro y hy;cases hy
    |cons a t ih=>
     intro y hy
     rcases List.mem_cons.1 hy with rfl|hy
     ·exact⟨fuel,_,_,a⟩
     ·exact ih y hy
   exact key h1 y hy
  ·cases h
end
end Go.V
namespace Go.Proofs.Ytnleclohocdkaaa
end Go.Proofs.Ytnleclohocdkaaa
namespace Go.Proofs.Ytnleclohocdkaaa
open Go.V Go Go.RowKit
variable{H:Type} {enc:TypeId×Value→H} {w:World} {spare:Nat→Bool} {held:Bool} {d:DataW H}
end Go.Proofs.Ytnleclohocdkaaa
namespace Go.Proofs.Ytnleclohocdkaaa
open Go.V Go Go.RowKit
variable{H:Type} {enc:TypeId×Value→H} {w:World} {spare:Nat→Bool} {held:Bool} {d:DataW H}
end Go.Proofs.Ytnleclohocdkaaa
namespace Go.Proofs.Ytnleclohocdkaaa
open Go.V Go
def It (w w':Wk):Prop:=w'.dn=false→w.dn=false∧w'.aM=w.aM
theorem It.trans {a b c:Wk} (h:It a b) (k:It b c):It a c:=fun hc=>⟨(h (k hc).1).1,(k hc).2.trans (h (k hc).1).2⟩
theorem pw (code:List aC) (pl:Nat) (e:Bool):∀(f:Nat) (w:Wk) (t:fU),It w (bC code pl e f w t).1
 |0,w,t=>fun h=>⟨h,rfl⟩
 |f+1,w,t=>by
  have ih:=pw code pl e f;have i0:∀(s:List Bool) (u:fU),It w (bC code pl e f ⟨s,w.dn,w.aM,w.rdy⟩ u).1:=fun s u=>ih ⟨s,w.dn,w.aM,w.rdy⟩ u;unfold bC
  split
  ·exact fun h=>⟨h,rfl⟩
  split
  ·exact fun h=>⟨h,rfl⟩
  split
  ·intro h;cases h
  split
  ·split
   ·exact i0 _ _
   ·exact(i0 _ _).trans (ih _ _)
  split
  ·exact fun h=>⟨h,rfl⟩
  split
  ·exact i0 _ _
  split
  ·exact i0 _ _
  split
  ·split
   ·exact i0 _ _
   ·exact fun h=>⟨h,rfl⟩
  split
  ·exact i0 _ _
  ·exact fun h=>⟨h,rfl⟩
theorem yU (code:List aC) (pl:Nat) (e:Bool):∀(l:List fU) (w:Wk),It w (l8 code pl e l w)
 |[],w=>fun h=>⟨h,rfl⟩
 |t::ts,w=>by
  unfold l8
  split
  ·exact pw code pl e _ w t
  ·exact(pw code pl e _ w t).trans (yU code pl e ts _)
theorem rv (code:List aC) (start:Nat):∀(gs:List (Nat×Nat)) (pl:Nat) (l:PL),(iB code start gs pl l).dn=false→l.dn=false∧(iB code start gs pl l).aM=l.aM
 |[],pl,l=>fun h=>yU code pl true l.dV (jx code.length l.dn l.aM) h
 |g::gs,pl,l=>fun h=>by
  obtain⟨h1,h2⟩:=rv code start gs _ _ h;obtain⟨h3,h4⟩:=yU code pl false l.dV (jx code.length l.dn l.aM) h1;exact⟨h3,h2.trans h4⟩
theorem mC (code:List aC) (start:Nat):∀(gs:List (Nat×Nat)) (pl:Nat) (l:PL),(iB code start gs pl l).dV=[]
 |[],_,_=>rfl
 |g::gs,pl,l=>mC code start gs _ _
theorem w8 {p q:Pg} (hR:a_ p) (hQ:a_ q) {r r':Nat} {start d_:Int} (hs:p.av[r]?=some start) (rb:q.av[r']?=some d_) (b:List UInt8) (h:cY q (r':Nat) b=cY p (r:Nat) b):
  iB q.code d_.toNat (cK b) 0 (cQ d_.toNat)=iB p.code start.toNat (cK b) 0 (cQ start.toNat):=by
 obtain⟨g1,g2⟩:=vn hR hs b;obtain⟨k1,k2⟩:=vn hQ rb b;have e1:=rv p.code start.toNat (cK b) 0 (cQ start.toNat);have e2:=rv q.code d_.toNat (cK b) 0 (cQ d_.toNat);have e3:=mC p.code start.toNat (cK b) 0 (cQ start.toNat);have e4:=mC q.code d_.toNat (cK b) 0 (cQ d_.toNat);rw[h] at k1 k2;generalize iB p.code start.toNat (cK b) 0 (cQ start.toNat)=P at*;generalize iB q.code d_.toNat (cK b) 0 (cQ d_.toNat)=Q at*;obtain⟨d1,b1,t1⟩:=P;obtain⟨d2,b2,t2⟩:=Q;simp only at g1 g2 k1 k2 e1 e2 e3 e4;subst e3 e4;have hd:d2=d1:=k1.trans g1.symm;subst hd
 congr 1
 cases hf:cY p (r:Nat) b with
 |some c=>rw[k2 c hf,g2 c hf]
 |none=>
  rw[hf] at g1;have g1:d2=false:=g1;rw[(e1 g1).2,(e2 g1).2];rfl
end Go.Proofs.Ytnleclohocdkaaa
namespace Go.Proofs.Ytnleclohocdkaaa
open Go.V Go
structure kO (X:Nat→Prop) (c:List aC) (b:Nat) (A:Nat→Prop) (g:Nat→Nat→Prop):Prop where
 hd:g b=A
 tl:g (b+c.length)=A
 xs:∀n,X n→b≤n→n≤b+c.length→g n=A
 st:∀j i,c[j]?=some i→(∀v∈bB (b+j) i,∃n:Nat,v=(n:Int)∧((b≤n∧n≤b+c.length∧∀s,g n s→g (b+j) s∨(i.op=4∧i.x=(s:Int)))∨(X n∧∀s,A s→g (b+j) s∨(i.op=4∧i.x=(s:Int)))))∧
  i.op≠7∧(i.op=4→∃k:Nat,1≤k∧(i.x=((2*k:Nat):Int)∨(i.x=((2*k+1:Nat):Int)∧g (b+j) (2*k))))
theorem kO.nil (X:Nat→Prop) (b:Nat) (A:Nat→Prop):kO X [] b A fun _=>A:=⟨rfl,rfl,fun _ _ _ _=>rfl,fun j i h=>by simp at h⟩
theorem kO.one {X:Nat→Prop} {b:Nat} {A:Nat→Prop} {i:aC} (h4:i.op≠4) (h7:i.op≠7) (h:∀v∈bB b i,∃n:Nat,v=(n:Int)∧(n=b+1∨X n)):kO X [i] b A fun _=>A:=by
 refine⟨rfl,rfl,fun _ _ _ _=>rfl,fun j i' hj=>?_⟩
 cases j with
 |succ j=>simp at hj
 |zero=>
  simp only[List.getElem?_cons_zero,Option.some.injEq] at hj;subst hj;refine⟨fun v hv=>?_,h7,fun h=>absurd h h4⟩;obtain⟨n,h1,h2⟩:=h v hv;refine⟨n,h1,?_⟩
  rcases h2 with rfl|h2
  ·exact .inl ⟨by omega,by simp,fun s hs=>.inl hs⟩
  ·exact .inr ⟨h2,fun s hs=>.inl hs⟩
theorem kO.pt {X Y:Nat→Prop} {c:List aC} {b:Nat} {A:Nat→Prop} {g:Nat→Nat→Prop} (h:kO X c b A g) (h1:∀n,X n→Y n) (h2:∀n,Y n→X n∨n≤b∨b+c.length≤n):kO Y c b A g:=by
 refine⟨h.hd,h.tl,fun n hn h3 h4=>?_,fun j i hj=>⟨fun v hv=>?_,(h.st j i hj).2⟩⟩
 ·rcases h2 n hn with h5|h5|h5
  ·exact h.xs n h5 h3 h4
  ·rw[show n=b by omega];exact h.hd
  ·rw[show n=b+c.length by omega];exact h.tl
 ·obtain⟨n,e,h5⟩:=(h.st j i hj).1 v hv;refine⟨n,e,?_⟩
  rcases h5 with h5|⟨h5,h6⟩
  ·exact .inl h5
  ·exact .inr ⟨h1 n h5,h6⟩
theorem kO.close {X Y:Nat→Prop} {c:List aC} {b:Nat} {A:Nat→Prop} {g:Nat→Nat→Prop} (h:kO X c b A g) (h1:∀n,Y n→X n) (h2:∀n,X n→Y n∨(b≤n∧n≤b+c.length)):kO Y c b A g:=by
 refine⟨h.hd,h.tl,fun n hn=>h.xs n (h1 n hn),fun j i hj=>⟨fun v hv=>?_,(h.st j i hj).2⟩⟩;obtain⟨n,e,h5⟩:=(h.st j i hj).1 v hv;refine⟨n,e,?_⟩
 rcases h5 with h5|⟨h5,h6⟩
 ·exact .inl h5
 ·rcases h2 n h5 with h7|⟨h7,h8⟩
  ·exact .inr ⟨h7,h6⟩
  ·exact .inl ⟨h7,h8,fun s hs=>h6 s (by rw[h.xs n h5 h7 h8] at hs;exact hs)⟩
theorem kO.append {X:Nat→Prop} {c d:List aC} {b e:Nat} {A:Nat→Prop} {g f:Nat→Nat→Prop} (h:kO X c b A g) (he:e=b+c.length) (k:kO X d e A f):kO X (c++d) b A fun n=>if n<e then g n else f n:=by
 subst he;have hm:∀n,b+c.length=n→g n=f n:=fun n hn=>by subst hn;rw[h.tl,k.hd]
 refine⟨?_,?_,fun n hn h1 h2=>?_,fun j i hj=>?_⟩
 ·show(if b<b+c.length then g b else f b)=A
  split
  ·exact h.hd
  ·rw[show b=b+c.length by omega];exact k.hd
 ·show(if b+(c++d).length<b+c.length then g _ else f _)=A;rw[if_neg (by rw[List.length_append];omega),List.length_append,←Nat.add_assoc];exact k.tl
 ·show(if n<b+c.length then g n else f n)=A;rw[List.length_append] at h2
  split
  ·exact h.xs n hn h1 (by omega)
  ·exact k.xs n hn (by omega) (by omega)
 ·by_cases jU:j<c.length
  ·rw[List.getElem?_append_left jU] at hj;obtain⟨h1,h2⟩:=h.st j i hj;have hg:(if b+j<b+c.length then g (b+j) else f (b+j))=g (b+j):=if_pos (by omega);simp only[hg];refine⟨fun v hv=>?_,h2⟩;obtain⟨n,e1,h3⟩:=h1 v hv;refine⟨n,e1,?_⟩
   rcases h3 with⟨h3,h4,h5⟩|h3
   ·refine .inl ⟨h3,by rw[List.length_append];omega,fun s hs=>h5 s ?_⟩
    split at hs
    ·exact hs
    ·rw[hm n (by omega)];exact hs
   ·exact .inr h3
  ·rw[List.getElem?_append_right (by omega)] at hj;obtain⟨h1,h2⟩:=k.st (j-c.length) i hj;have IJ:b+c.length+(j-c.length)=b+j:=by omega
   rw[IJ] at h1 h2;have hg:(if b+j<b+c.length then g (b+j) else f (b+j))=f (b+j):=if_neg (by omega);simp only[hg];refine⟨fun v hv=>?_,h2⟩;obtain⟨n,e1,h3⟩:=h1 v hv;refine⟨n,e1,?_⟩
   rcases h3 with⟨h3,h4,h5⟩|h3
   ·refine .inl ⟨by omega,by rw[List.length_append];omega,fun s hs=>h5 s ?_⟩;rw[if_neg (by omega)] at hs;exact hs
   ·exact .inr h3
theorem kO.group {c:List aC} {b:Nat} {A:Nat→Prop} {g:Nat→Nat→Prop} {k:Nat} {q w:aC} (hk:1≤k) (hq:q.op=4∧q.x=((2*k:Nat):Int)) (hw:w.op=4∧w.x=((2*k+1:Nat):Int)) (h:kO (fun _=>False) c (b+1) (fun s=>A s∨s=2*k) g):
  kO (fun _=>False) (q::(c++[w])) b A fun n=>if n≤b∨b+1+c.length<n then A else g n:=by
 have BB:∀(i:aC) (m:Nat),i.op=4→bB m i=[((m+1:Nat):Int)]:=fun i m hi=>by unfold bB;rw[if_neg (by omega),if_neg (by omega),if_neg (by omega)]
 refine⟨if_pos (.inl (by omega)),if_pos (.inr (by simp;omega)),fun n hn=>hn.elim,fun j i hj=>?_⟩
 cases j with
 |zero=>
  simp only[List.getElem?_cons_zero,Option.some.injEq] at hj;subst hj;refine⟨fun v hv=>?_,by rw[hq.1];decide,fun _=>⟨k,hk,.inl hq.2⟩⟩;rw[BB q _ hq.1] at hv;simp only[List.mem_cons,List.not_mem_nil,or_false] at hv;subst hv;refine⟨b+0+1,rfl,.inl ⟨by omega,by simp,fun s hs=>?_⟩⟩;rw[if_neg (by omega)] at hs;rw[show b+0+1=b+1 by omega,h.hd] at hs
  rcases hs with hs|rfl
  ·exact .inl (by rw[if_pos (.inl (by omega))];exact hs)
  ·exact .inr ⟨hq.1,hq.2⟩
 |succ j=>
  rw[List.getElem?_cons_succ] at hj
  by_cases jU:j<c.length
  ·rw[List.getElem?_append_left jU] at hj;obtain⟨h1,h2⟩:=h.st j i hj;have IJ:b+1+j=b+(j+1):=by omega
   rw[IJ] at h1 h2;have hg:(if b+(j+1)≤b∨b+1+c.length<b+(j+1) then A else g (b+(j+1)))=g (b+(j+1)):=if_neg (by omega);simp only[hg];refine⟨fun v hv=>?_,h2⟩;obtain⟨n,e1,h3⟩:=h1 v hv;refine⟨n,e1,?_⟩
   rcases h3 with⟨h3,h4,h5⟩|⟨h3,_⟩
   ·refine .inl ⟨by omega,by simp;omega,fun s hs=>h5 s ?_⟩;rw[if_neg (by omega)] at hs;exact hs
   ·exact h3.elim
  ·rw[List.getElem?_append_right (by omega)] at hj
   have Te:j=c.length:=by
    rcases Nat.eq_or_lt_of_le (show c.length≤j by omega) with h'|h'
    ·exact h'.symm
    ·rw[List.getElem?_eq_none (by simp;omega)] at hj;cases hj
   subst Te;simp only[Nat.sub_self,List.getElem?_cons_zero,Option.some.injEq] at hj;subst hj;have hg:(if b+(c.length+1)≤b∨b+1+c.length<b+(c.length+1) then A else g (b+(c.length+1)))=g (b+(c.length+1)):=if_neg (by omega);have ht:g (b+(c.length+1))=fun s=>A s∨s=2*k:=by rw[←h.tl];congr 1;omega
   refine⟨fun v hv=>?_,by rw[hw.1];decide,fun _=>⟨k,hk,.inr ⟨hw.2,by rw[hg,ht];exact .inr rfl⟩⟩⟩;rw[BB w _ hw.1] at hv;simp only[List.mem_cons,List.not_mem_nil,or_false] at hv;subst hv;refine⟨b+(c.length+1)+1,rfl,.inl ⟨by omega,by simp;omega,fun s hs=>?_⟩⟩;rw[if_pos (.inr (by omega))] at hs;rw[hg,ht];exact .inl (.inl hs)
theorem kO.jp {b e:Nat} {X:Nat→Prop} (A:Nat→Prop) (he:X e):kO X [jk e] b A fun _=>A:=by
 refine kO.one (by simp[jk,bX]) (by simp[jk,bX]) fun v hv=>?_;simp only[bB,jk,bX,if_true,List.mem_cons,List.not_mem_nil,or_false] at hv;rw[if_neg (by decide)] at hv;simp only[List.mem_cons,List.not_mem_nil,or_false] at hv;exact⟨e,hv,.inr he⟩
theorem kO.sp {b o:Nat} {lz:Bool} {X:Nat→Prop} (A:Nat→Prop) (he:X o):kO X [kS b o lz] b A fun _=>A:=by
 have h2:(kS b o lz).op=2:=by unfold kS;split<;>rfl
 refine kO.one (by omega) (by omega) fun v hv=>?_;unfold bB at hv;rw[if_pos h2] at hv;unfold kS at hv
 split at hv
 ·simp only[bX,List.mem_cons,List.not_mem_nil,or_false] at hv
  rcases hv with rfl|rfl
  ·exact⟨o,rfl,.inr he⟩
  ·exact⟨b+1,rfl,.inl rfl⟩
 ·simp only[bX,List.mem_cons,List.not_mem_nil,or_false] at hv
  rcases hv with rfl|rfl
  ·exact⟨b+1,rfl,.inl rfl⟩
  ·exact⟨o,rfl,.inr he⟩
def eH (X:Nat→Prop) (c:List aC) (b:Nat) (A:Nat→Prop):Prop:=∃g,kO X c b A g
theorem eH.append {X:Nat→Prop} {c d:List aC} {b e:Nat} {A:Nat→Prop} (h:eH X c b A) (he:e=b+c.length) (k:eH X d e A):eH X (c++d) b A:=by
 obtain⟨g,h⟩:=h;obtain⟨f,k⟩:=k;exact⟨_,h.append he k⟩
theorem vK {A:Nat→Prop} {c:Nat→List aC} {z:Nat} (hl:∀b,(c b).length=z) (hc:∀b,eH (fun _=>False) (c b) b A):∀k b,eH (fun _=>False) (eC c z k b) b A
 |0,b=>⟨_,.nil _ b A⟩
 |k+1,b=>(hc b).append (by rw[hl]) (vK hl hc k (b+z))
theorem v_ {A:Nat→Prop} {c:Nat→List aC} {z e:Nat} {lz:Bool} (hl:∀b,(c b).length=z) (hc:∀b,eH (fun _=>False) (c b) b A):∀k b,b+k*(z+1)≤e→eH (fun n=>n=e) (eD (fun s=>kS s e lz) c z k b) b A
 |0,b,_=>⟨_,.nil _ b A⟩
 |k+1,b,he=>by
  rw[Nat.add_mul] at he;obtain⟨g,hg⟩:=hc (b+1)
  have h1:eH (fun n=>n=e) (c (b+1)) (b+1) A:=⟨g,hg.pt (fun n h=>h.elim) fun n h=>.inr (.inr (by rw[hl];omega))⟩
  have h2:=h1.append (e:=b+1+z) (by rw[hl]) (v_ (lz:=lz) hl hc k (b+1+z) (by omega));exact eH.append (c:=[_]) ⟨_,kO.sp A rfl⟩ (e:=b+1) rfl h2
theorem eH.pt {X Y:Nat→Prop} {c:List aC} {b:Nat} {A:Nat→Prop} (h:eH X c b A) (h1:∀n,X n→Y n) (h2:∀n,Y n→X n∨n≤b∨b+c.length≤n):eH Y c b A:=by
 obtain⟨g,h⟩:=h;exact⟨g,h.pt h1 h2⟩
theorem eH.close {X Y:Nat→Prop} {c:List aC} {b:Nat} {A:Nat→Prop} (h:eH X c b A) (h1:∀n,Y n→X n) (h2:∀n,X n→Y n∨(b≤n∧n≤b+c.length)):eH Y c b A:=by
 obtain⟨g,h⟩:=h;exact⟨g,h.close h1 h2⟩
theorem CQ {A:Nat→Prop} {n:cg} {c:Nat→List aC} {z:Nat} (hl:∀b,(c b).length=z) (hc:∀b,eH (fun _=>False) (c b) b A) (b:Nat):eH (fun _=>False) (lL n c z b) b A:=by
 have hr:=vK hl hc n.mn.toNat b;have rZ:(eC c z n.mn.toNat b).length=n.mn.toNat*z:=g_ hl _ _;unfold lL
 split
 ·refine hr.append (e:=b+n.mn.toNat*z) (by rw[rZ]) ?_;generalize b+n.mn.toNat*z=s;have h1:eH (fun n=>n=s∨n=s+z+2) (c (s+1)) (s+1) A:=(hc (s+1)).pt (fun n h=>h.elim) fun n h=>by rw[hl];omega
  have h2:eH (fun n=>n=s∨n=s+z+2) [jk s] (s+1+z) A:=⟨_,kO.jp A (.inl rfl)⟩
  have h3:=eH.append (c:=[kS s (s+z+2) n.lz]) (b:=s) ⟨_,kO.sp A (.inr rfl)⟩ (e:=s+1) rfl (h1.append (by rw[hl]) h2);refine eH.close h3 (fun n h=>h.elim) fun n h=>.inr ?_;simp only[List.length_append,List.length_cons,List.length_nil,hl];omega
 ·refine hr.append (e:=b+n.mn.toNat*z) (by rw[rZ]) ?_;generalize b+n.mn.toNat*z=s;have h1:=v_ (lz:=n.lz) (e:=s+(n.mx.toNat-n.mn.toNat)*(z+1)) hl hc (n.mx.toNat-n.mn.toNat) s (Nat.le_refl _);refine eH.close h1 (fun n h=>h.elim) fun n h=>.inr ?_;rw[mf hl];omega
mutual
theorem nV:∀(t:Tr) (b:Nat) (A:Nat→Prop),t.ok→eH (fun _=>False) (aF t b) b A
 | .mk n ks,b,A,h=>by
  have hlen:=bp (.mk n ks) b h;simp only[Tr.ok] at h;obtain⟨h1,h2⟩:=h;have hcl:=fun b=>kK ks b h2
  have BB:∀(op x y:Int) (rs:List Rg) (m:Nat),op≠2→op≠3→op≠7→∀v∈bB m (bX op x y rs),∃n:Nat,v=(n:Int)∧(n=m+1∨False):=by
   intro op x y rs m a1 a2 a3 v hv;unfold bB at hv;rw[if_neg (show¬(bX op x y rs).op=2 from a1),if_neg (show¬(bX op x y rs).op=3 from a2),if_neg (show¬(bX op x y rs).op=7 from a3)] at hv;simp only[List.mem_cons,List.not_mem_nil,or_false] at hv;exact⟨m+1,hv,.inl rfl⟩
  simp only[aF]
  split
  ·exact⟨_,kO.one (by simp[bX]) (by simp[bX]) (BB 1 0 0 _ b (by decide) (by decide) (by decide))⟩
  ·split
   ·exact⟨_,kO.one (by simp[bX]) (by simp[bX]) (BB 5 0 0 _ b (by decide) (by decide) (by decide))⟩
   ·split
    ·exact⟨_,kO.one (by simp[bX]) (by simp[bX]) (BB 6 0 0 _ b (by decide) (by decide) (by decide))⟩
    ·split
     ·exact mN ks b A h2
     ·split
      ·rename_i h4;have hz:bk n ks.sz ks.len=ks.sz+2*(ks.len-1):=by unfold bk;rw[if_neg (by omega),if_pos h4]
       have ha:=mS (jk (b+bk n ks.sz ks.len)) ks b h2;refine eH.close (X:=fun m=>m=b+bk n ks.sz ks.len) ?_ (fun n h=>h.elim) fun m hm=>.inr ?_
       ·exact xA _ ks b A h2 (by rw[ha,hz];omega)
       ·rw[ha];rw[hz] at hm;omega
      ·split
       ·exact CQ hcl (fun b=>mN ks b A h2) b
       ·split
        ·rename_i h6;obtain⟨g,hg⟩:=mN ks (b+1) (fun s=>A s∨s=2*n.cap.toNat) h2
         have kB:1≤n.cap:=by
          rcases h1.2 with h|h|h|h|h<;>omega
         exact⟨_,kO.group (k:=n.cap.toNat) (by omega) ⟨rfl,by show 2*n.cap=_;omega⟩ ⟨rfl,by show 2*n.cap+1=_;omega⟩ hg⟩
        ·exact⟨_,.nil _ b A⟩
theorem mN:∀(ts:bj) (b:Nat) (A:Nat→Prop),ts.ok→eH (fun _=>False) (eU ts b) b A
 | .nil,b,A,_=>by simp only[eU];exact⟨_,.nil _ b A⟩
 | .cons t ts,b,A,h=>by
  simp only[bj.ok] at h;simp only[eU];exact(nV t b A h.1).append (by rw[bp t b h.1]) (mN ts (b+t.sz) A h.2)
theorem xA (e:Nat):∀(ts:bj) (b:Nat) (A:Nat→Prop),ts.ok→b+(du (jk e) ts b).length≤e→eH (fun n=>n=e) (du (jk e) ts b) b A
 | .nil,b,A,_,_=>by simp only[du];exact⟨_,.nil _ b A⟩
 | .cons t ts,b,A,h,he=>by
  simp only[bj.ok] at h;simp only[du] at he⊢
  split
  ·rename_i h0;rw[if_pos h0] at he;exact(nV t b A h.1).pt (fun n h=>h.elim) fun n hn=>.inr (.inr (by omega))
  ·rename_i h0;rw[if_neg h0] at he;simp only[List.length_cons,List.length_append,bp t (b+1) h.1] at he;have h1:eH (fun n=>n=e∨n=b+1+t.sz+1) (aF t (b+1)) (b+1) A:=(nV t (b+1) A h.1).pt (fun n h=>h.elim) fun n hn=>.inr (.inr (by rw[bp t (b+1) h.1];omega));have h2:eH (fun n=>n=e∨n=b+1+t.sz+1) (du (jk e) ts (b+t.sz+2)) (b+t.sz+2) A:=(xA e ts (b+t.sz+2) A h.2 (by omega)).pt (fun n h=>.inl h) fun n hn=>by omega
   have h3:eH (fun n=>n=e∨n=b+1+t.sz+1) (jk e::du (jk e) ts (b+t.sz+2)) (b+1+t.sz) A:=eH.append (c:=[jk e]) ⟨_,kO.jp A (.inl rfl)⟩ (e:=b+t.sz+2) (by simp only[List.length_cons,List.length_nil];omega) h2;have h4:=eH.append (c:=[kS b (b+1+t.sz+1) false]) (b:=b) ⟨_,kO.sp A (.inr rfl)⟩ (e:=b+1) rfl (h1.append (by rw[bp t (b+1) h.1]) h3);refine eH.close h4 (fun n h=>.inl h) fun n hn=>?_
   rcases hn with hn|hn
   ·exact .inl hn
   ·refine .inr ?_;simp only[List.length_append,List.length_cons,List.length_nil,bp t (b+1) h.1];omega
end
end Go.Proofs.Ytnleclohocdkaaa
namespace Go.Proofs.Ytnleclohocdkaaa
open Go.V Go
structure IP (gs:List (Nat×Nat)) (pl:List Int) (g:Nat→Nat→Prop) (n i:Nat) (t:fx):Prop where
 le:i≤t.at_
 ml:t.at_≤gs.length
 z:t.pc=0→t.c=bt∧t.at_=i
 b0:1≤t.pc→t.c 0=pl.getD i 0
 b1:t.pc≤n+1→t.c 1=-1
 b2:t.pc=n+2→t.c 1=pl.getD t.at_ 0
 ins:∀s,2≤s→t.c s=-1∨∃a,i≤a∧a≤t.at_∧t.c s=pl.getD a 0
 gr:1≤t.pc→t.pc≤n+1→∀s,g t.pc s→s≠0→t.c s≠-1
 pr:∀k,1≤k→t.c (2*k+1)≠-1→t.c (2*k)≠-1
theorem IP.go {gs:List (Nat×Nat)} {pl:List Int} {g:Nat→Nat→Prop} {n i:Nat} {t:fx} {m a:Nat} (h:IP gs pl g n i t) (h1:1≤t.pc) (h2:t.pc≤n) (hm:1≤m∧m≤n+1) (ha:t.at_≤a∧a≤gs.length) (hg:∀s,g m s→g t.pc s):IP gs pl g n i ⟨m,a,t.c⟩:=by
 refine⟨Nat.le_trans h.le ha.1,ha.2,fun h0=>?_,fun _=>h.b0 h1,fun _=>h.b1 (by omega),fun h0=>?_,fun s hs=>?_,fun _ _ s hs h0=>h.gr h1 (by omega) s (hg s hs) h0,h.pr⟩
 ·simp only at h0;omega
 ·simp only at h0;omega
 ·rcases h.ins s hs with h3|⟨b,h3,h4,h5⟩
  ·exact .inl h3
  ·exact .inr ⟨b,h3,Nat.le_trans h4 ha.1,h5⟩
theorem IP.save {gs:List (Nat×Nat)} {pl:List Int} {g:Nat→Nat→Prop} {n i:Nat} {t:fx} {x:Nat} (gR:∀a,0≤pl.getD a 0) (h:IP gs pl g n i t) (h1:1≤t.pc) (h2:t.pc≤n) (hx:∃k,1≤k∧(x=2*k∨(x=2*k+1∧g t.pc (2*k)))) (hg:∀s,g (t.pc+1) s→g t.pc s∨x=s):IP gs pl g n i ⟨t.pc+1,t.at_,eN t.c x (pl.getD t.at_ 0)⟩:=by
 obtain⟨k,hk,hx⟩:=hx;have hp:=gR t.at_;refine⟨h.le,h.ml,fun h0=>?_,fun _=>?_,fun _=>?_,fun h0=>?_,fun s hs=>?_,fun _ _ s hs h0=>?_,fun q hq hn=>?_⟩
 ·simp only at h0;omega
 ·show eN t.c x _ 0=_;unfold eN;rw[if_neg (by omega)];exact h.b0 h1
 ·show eN t.c x _ 1=_;unfold eN;rw[if_neg (by omega)];exact h.b1 (by omega)
 ·simp only at h0;omega
 ·show eN t.c x _ s=_∨_
  by_cases he:s=x
  ·exact .inr ⟨t.at_,h.le,Nat.le_refl _,by show eN t.c x _ s=_;unfold eN;rw[if_pos he]⟩
  ·unfold eN;rw[if_neg he]
   rcases h.ins s hs with h3|h3
   ·exact .inl h3
   ·exact .inr (by simpa only[he,if_false] using h3)
 ·show eN t.c x _ s≠_;unfold eN
  split
  ·omega
  ·rename_i he
   rcases hg s hs with h3|h3
   ·exact h.gr h1 (by omega) s h3 h0
   ·exact absurd h3.symm he
 ·change eN t.c x _ (2*q+1)≠-1 at hn;show eN t.c x _ (2*q)≠-1;unfold eN at hn⊢
  split
  ·omega
  ·rename_i he
   split at hn
   ·rename_i yN
    rcases hx with hx|⟨hx,NW⟩
    ·omega
    ·have:q=k:=by omega
     subst this;exact h.gr h1 (by omega) _ NW (by omega)
   ·exact h.pr q hq hn
theorem IP.step {tr:Tr} {r:Nat} {gs:List (Nat×Nat)} {pl:List Int} {g:Nat→Nat→Prop} {i:Nat} {t:fx} {l:List fx} (gR:∀a,0≤pl.getD a 0) (hL:kO (fun _=>False) (aF tr 1) 1 (fun s=>s=0) g)
  (h:IP gs pl g (aF tr 1).length i t) (hs:ct (bK tr 0 r) gs pl t=.more l):∀t'∈l,IP gs pl g (aF tr 1).length i t':=by
 generalize hn:(aF tr 1).length=n at*;have Ck:(aF tr (0+1)).length=n:=hn;have KE:(bK tr 0 r)[0]?=some (bX 4 0 0 []):=rfl
 have LH:∀j,j<n→(bK tr 0 r)[j+1]?=(aF tr 1)[j]?:=fun j hj=>by
  show(bX 4 0 0 []::(aF tr (0+1)++_))[j+1]?=_;rw[List.getElem?_cons_succ,List.getElem?_append_left (by omega)]
 have xM:(bK tr 0 r)[n+1]?=some (bX 4 1 0 []):=by
  show(bX 4 0 0 []::(aF tr (0+1)++_))[n+1]?=_;rw[List.getElem?_cons_succ,List.getElem?_append_right (by omega),show n-(aF tr (0+1)).length=0 by omega];rfl
 have TI:∀j,n+1≤j→(bK tr 0 r)[j+1]?=none∨(bK tr 0 r)[j+1]?=some (bX 7 (r:Nat) 0 []):=fun j hj=>by
  show(bX 4 0 0 []::(aF tr (0+1)++_))[j+1]?=_∨(bX 4 0 0 []::(aF tr (0+1)++_))[j+1]?=_;rw[List.getElem?_cons_succ,List.getElem?_append_right (by omega)]
  obtain⟨q,hq⟩:∃q,j-(aF tr (0+1)).length=q+1:=⟨j-(aF tr (0+1)).length-1,by omega⟩
  rw[hq,List.getElem?_cons_succ]
  cases q with
  |zero=>exact .inr rfl
  |succ q=>exact .inl rfl
 unfold ct at hs;obtain⟨pc,at_,c⟩:=t;simp only at hs
 rcases pc with _|j
 ·rw[KE] at hs;obtain⟨hz,he⟩:=h.z rfl;simp only at hz he;subst hz;subst he;change zk.more [⟨0+1,at_,eN bt (Int.toNat 0) (pl.getD at_ 0)⟩]=.more l at hs;cases hs;intro t' ht;simp only[List.mem_cons,List.not_mem_nil,or_false] at ht;subst ht;refine⟨Nat.le_refl _,h.ml,fun h0=>by simp at h0,fun _=>rfl,fun _=>rfl,fun h0=>by simp at h0,fun s hs=>.inl ?_,fun _ _ s hs h0=>?_,fun q hq hn=>?_⟩
  ·show eN bt 0 _ s=-1;unfold eN;rw[if_neg (by omega)];rfl
  ·have h9:=hL.hd;change g 1 s at hs;rw[h9] at hs;exact absurd hs h0
  ·exact absurd (show eN bt (Int.toNat 0) (pl.getD at_ 0) (2*q+1)=-1 by unfold eN;rw[if_neg (by simp)];rfl) hn
 ·by_cases hj:j<n
  ·rw[LH j hj] at hs
   split at hs
   ·cases hs;intro t' ht;cases ht
   ·rename_i ins hi;obtain⟨BB,h7,h4⟩:=hL.st j ins hi;rw[show 1+j=j+1 by omega] at BB h4
    have Gv:∀v∈bB (j+1) ins,∃m:Nat,v=(m:Int)∧(1≤m∧m≤n+1)∧∀s,g m s→g (j+1) s∨(ins.op=4∧ins.x=(s:Int)):=fun v hv=>by
     obtain⟨m,e,h1⟩:=BB v hv
     rcases h1 with⟨h1,h2,h3⟩|⟨h1,_⟩
     ·exact⟨m,e,⟨h1,by omega⟩,h3⟩
     ·exact h1.elim
    have GH:ins.op≠4→∀v∈bB (j+1) ins,∀a,at_≤a→a≤gs.length→IP gs pl g n i ⟨v.toNat,a,c⟩:=fun h4 v hv a h1 h2=>by
     obtain⟨m,rfl,hm,hg⟩:=Gv v hv;exact h.go (by simp) (by simp;omega) (by simpa using hm) ⟨h1,h2⟩ fun s hs=>(hg s (by simpa using hs)).elim id fun h=>absurd h.1 h4
    rw[if_neg h7] at hs
    by_cases h2:ins.op=2
    ·rw[if_pos h2] at hs;cases hs;intro t' ht;simp only[List.mem_cons,List.not_mem_nil,or_false] at ht;have jn:bB (j+1) ins=[ins.x,ins.y]:=by unfold bB;rw[if_pos h2]
     rcases ht with rfl|rfl
     ·exact GH (by omega) _ (by rw[jn];simp) _ (Nat.le_refl _) h.ml
     ·exact GH (by omega) _ (by rw[jn];simp) _ (Nat.le_refl _) h.ml
    ·rw[if_neg h2] at hs
     by_cases h3:ins.op=3
     ·rw[if_pos h3] at hs;cases hs;intro t' ht;simp only[List.mem_cons,List.not_mem_nil,or_false] at ht;subst ht;exact GH (by omega) ins.x (by unfold bB;rw[if_neg h2,if_pos h3];simp) _ (Nat.le_refl _) h.ml
     ·rw[if_neg h3] at hs;have o_:bB (j+1) ins=[((j+1+1:Nat):Int)]:=by unfold bB;rw[if_neg h2,if_neg h3,if_neg h7]
      by_cases h4':ins.op=4
      ·rw[if_pos h4'] at hs;cases hs;intro t' ht;simp only[List.mem_cons,List.not_mem_nil,or_false] at ht;subst ht;obtain⟨k,hk,hx⟩:=h4 h4';obtain⟨m,e,hm,hg⟩:=Gv ((j+1+1:Nat):Int) (by rw[o_];simp);have SH:m=j+1+1:=by omega
       subst SH;refine h.save gR (by simp) (by simp;omega) ⟨k,hk,?_⟩ fun s hs=>?_
       ·rcases hx with hx|⟨hx,NW⟩
        ·exact .inl (by omega)
        ·exact .inr ⟨by omega,NW⟩
       ·rcases hg s hs with h5|⟨_,h5⟩
        ·exact .inl h5
        ·exact .inr (by omega)
      ·rw[if_neg h4'] at hs;have FZ:=GH h4' ((j+1+1:Nat):Int) (by rw[o_];simp);simp only[Int.toNat_natCast] at FZ
       split at hs
       ·cases hs;intro t' ht
        split at ht
        ·simp only[List.mem_cons,List.not_mem_nil,or_false] at ht;subst ht;exact FZ _ (Nat.le_refl _) h.ml
        ·cases ht
       ·split at hs
        ·cases hs;intro t' ht
         split at ht
         ·simp only[List.mem_cons,List.not_mem_nil,or_false] at ht;subst ht;exact FZ _ (Nat.le_refl _) h.ml
         ·cases ht
        ·cases hs;intro t' ht
         split at ht
         ·rename_i hlt;simp only[List.mem_cons,List.not_mem_nil,or_false] at ht;subst ht;exact FZ _ (by omega) (by omega)
         ·cases ht
  ·by_cases Th:j=n
   ·subst Th;rw[xM] at hs;change zk.more [⟨_+1,at_,eN c (Int.toNat 1) (pl.getD at_ 0)⟩]=.more l at hs;cases hs;intro t' ht;simp only[List.mem_cons,List.not_mem_nil,or_false] at ht;subst ht;refine⟨h.le,h.ml,fun h0=>by simp at h0,fun _=>?_,fun h0=>(by change j+1+1≤j+1 at h0;omega),fun _=>rfl,fun s hs=>?_,fun _ h0=>(by change j+1+1≤j+1 at h0;omega),fun q hq hn=>?_⟩
    ·exact h.b0 (by simp)
    ·have:=h.ins s hs;show eN c 1 _ s=_∨∃a,_∧_∧eN c 1 _ s=_;unfold eN;rw[if_neg (by omega)];exact this
    ·change eN c 1 _ (2*q+1)≠-1 at hn;show eN c 1 _ (2*q)≠-1;unfold eN at hn⊢;rw[if_neg (by omega)] at hn⊢;exact h.pr q hq hn
   ·rcases TI j (by omega) with h9|h9
    ·rw[h9] at hs;cases hs;intro t' ht;cases ht
    ·rw[h9] at hs;simp only[bX,if_true] at hs;cases hs
theorem IP.found {tr:Tr} {r:Nat} {gs:List (Nat×Nat)} {pl:List Int} {g:Nat→Nat→Prop} {i:Nat} {t:fx} (hL:kO (fun _=>False) (aF tr 1) 1 (fun s=>s=0) g)
  (h:IP gs pl g (aF tr 1).length i t) (hs:ct (bK tr 0 r) gs pl t=.found):t.c 0=pl.getD i 0∧t.c 1=pl.getD t.at_ 0:=by
 have fM:∃q,(bK tr 0 r)[t.pc]?=some q∧q.op=7:=by
  unfold ct at hs
  split at hs
  ·cases hs
  ·rename_i q hq;refine⟨q,hq,?_⟩
   split at hs
   ·assumption
   ·repeat' split at hs
    all_goals cases hs
 obtain⟨q,hq,h7⟩:=fM
 have hlen:(bK tr 0 r).length=(aF tr 1).length+3:=by
  show(bX 4 0 0 []::(aF tr (0+1)++_)).length=_;simp only[List.length_cons,List.length_append,List.length_nil]
 have hlt:=aR hq
 have DK:t.pc=(aF tr 1).length+2:=by
  rcases Nat.eq_zero_or_pos t.pc with h0|h0
  ·rw[h0] at hq;cases hq;cases h7
  ·obtain⟨j,hj⟩:∃j,t.pc=j+1:=⟨t.pc-1,by omega⟩
   rw[hj] at hq hlt
   by_cases h1:j<(aF tr 1).length
   ·have yE:(aF tr 1)[j]?=some q:=by
     rw[←hq];show _=(bX 4 0 0 []::(aF tr (0+1)++_))[j+1]?;rw[List.getElem?_cons_succ,List.getElem?_append_left h1]
    exact absurd h7 (hL.st j q yE).2.1
   ·by_cases h2:j=(aF tr 1).length
    ·have yE:(bK tr 0 r)[j+1]?=some (bX 4 1 0 []):=by
      show(bX 4 0 0 []::(aF tr (0+1)++_))[j+1]?=_;rw[List.getElem?_cons_succ,List.getElem?_append_right (by rw[h2];exact Nat.le_refl _),show j-(aF tr (0+1)).length=0 by rw[h2];exact Nat.sub_self _];rfl
     rw[yE] at hq;cases hq;cases h7
    ·omega
 exact⟨h.b0 (by omega),h.b2 DK⟩
end Go.Proofs.Ytnleclohocdkaaa
namespace Go.Proofs.Ytnleclohocdkaaa
open Go.V Go
theorem fN {a:List cg} (h:(aw [a]).e=0):dq a=true∧(aw [a]).code=bK (bD a) 0 0∧(aw [a]).av=[0]:=by
 rw[kG] at h⊢
 split at h
 ·cases h
 ·rename_i h1
  split at h
  ·cases h
  ·rename_i h2;rw[if_neg h1,if_neg h2];exact⟨by cases hr:dq a with|true=>rfl|false=>exact absurd hr h1,rfl,rfl⟩
end Go.Proofs.Ytnleclohocdkaaa
namespace Go.Proofs.Ytnleclohocdkaaa
open Go.V Go
def QK (n:Nat) (i i':aC):Prop:=i'.op=i.op∧i'.rs=i.rs∧(i.op=2→i'.x.toNat=i.x.toNat+n∧i'.y.toNat=i.y.toNat+n)∧(i.op=3→i'.x.toNat=i.x.toNat+n)∧(i.op=4→i'.x=i.x)
def Pu (n:Nat) (C C':List aC):Prop:=∀pc i,C[pc]?=some i→∃i',C'[pc+n]?=some i'∧QK n i i'
def Cb (n:Nat) (t:fx):fx:=⟨t.pc+n,t.at_,t.c⟩
def I8 (n:Nat):zk→zk
 | .found=>.found
 | .more l=>.more (l.map (Cb n))
theorem zx {n:Nat} {C C':List aC} (h:Pu n C C') {gs:List (Nat×Nat)} {pl:List Int} {t:fx} (ht:t.pc<C.length):ct C' gs pl (Cb n t)=I8 n (ct C gs pl t):=by
 obtain⟨i,hi⟩:∃i,C[t.pc]?=some i:=⟨C[t.pc]'ht,List.getElem?_eq_getElem _⟩
 obtain⟨i',gT,e1,e2,e3,e4,e5⟩:=h _ _ hi;unfold ct;show(match C'[t.pc+n]? with|none=>_|some i=>_)=_;rw[hi,gT];simp only[e1,e2];have hn:t.pc+n+1=t.pc+1+n:=by omega
 by_cases h7:i.op=7
 ·rw[if_pos h7,if_pos h7];rfl
 rw[if_neg h7,if_neg h7]
 by_cases h2:i.op=2
 ·rw[if_pos h2,if_pos h2,(e3 h2).1,(e3 h2).2];rfl
 rw[if_neg h2,if_neg h2]
 by_cases h3:i.op=3
 ·rw[if_pos h3,if_pos h3,e4 h3];rfl
 rw[if_neg h3,if_neg h3]
 by_cases h4:i.op=4
 ·rw[if_pos h4,if_pos h4,e5 h4];simp only[Cb,I8,List.map_cons,List.map_nil,hn]
 rw[if_neg h4,if_neg h4]
 by_cases h5:i.op=5
 ·rw[if_pos h5,if_pos h5];simp only[Cb,I8,hn]
  split<;>rfl
 rw[if_neg h5,if_neg h5]
 by_cases h6:i.op=6
 ·rw[if_pos h6,if_pos h6];simp only[Cb,I8,hn]
  split<;>rfl
 rw[if_neg h6,if_neg h6];simp only[Cb,I8,hn]
 split<;>rfl
theorem G3 {n:Nat} {C C':List aC} {gs:List (Nat×Nat)} {pl:List Int} (h:Pu n C C') (hK:∀t l,t.pc<C.length∧t.at_≤gs.length→ct C gs pl t=.more l→∀u∈l,u.pc<C.length∧u.at_≤gs.length) {s s1:Sn} {cS:List fx} {r:Option l5} (hr:j8 (ct C gs pl) s cS r s1):
  (∀t∈cS,t.pc<C.length∧t.at_≤gs.length)→∀z:Sn,(∀a b,a<C.length→z (a+n) b=s a b)→∃z1,j8 (ct C' gs pl) z (cS.map (Cb n)) r z1:=by
 have Hl:∀(z s:Sn) (t:fx),(∀a b,a<C.length→z (a+n) b=s a b)→∀a b,a<C.length→fy z (Cb n t) (a+n) b=fy s t a b:=by
  intro z s t hz a b ha;unfold fy Cb;simp only
  by_cases hc:a=t.pc∧b=t.at_
  ·rw[if_pos hc,if_pos ⟨by omega,hc.2⟩]
  ·rw[if_neg hc,if_neg (fun h=>hc ⟨by omega,h.2⟩)];exact hz a b ha
 induction hr with
 |nil=>intro _ z _;exact⟨z,.nil⟩
 |jX h1 _ ih=>
  intro hs z hz;obtain⟨z1,h2⟩:=ih (fun t ht=>hs t (List.mem_cons_of_mem _ ht)) z hz;exact⟨z1,.jX ((hz _ _ (hs _ (List.mem_cons_self ..)).1).trans h1) h2⟩
 |found h1 h2=>
  intro hs z hz;have ht:=hs _ (List.mem_cons_self ..);exact⟨_,.found (t:=Cb n _) ((hz _ _ ht.1).trans h1) (by rw[zx h ht.1,h2];rfl)⟩
 |more h1 h2 _ ih=>
  intro hs z hz;have ht:=hs _ (List.mem_cons_self ..)
  obtain⟨z1,h3⟩:=ih (fun t hm=>by
   rcases List.mem_append.1 hm with hm|hm
   ·exact hK _ _ ht h2 t hm
   ·exact hs t (List.mem_cons_of_mem _ hm)) (fy z (Cb n _)) (Hl z _ _ hz)
  rw[List.map_append] at h3;exact⟨z1,.more ((hz _ _ ht.1).trans h1) (by rw[zx h ht.1,h2];rfl) h3⟩
theorem w7 {p:Pg} (hR:a_ p) {r:Nat} {start:Int} (hs:p.av[r]?=some start) (b:List UInt8):∃s',j8 (ct p.code (cK b) (Cc 0 (cK b))) (fun _ _=>false) ((List.range' 0 ((cK b).length+1)).map fun j=>⟨start.toNat,j,bt⟩) (cY p (r:Nat) b) s':=by
 have df:=hR.st start (List.mem_of_getElem? hs);have hlt:=aR hs;unfold cY;rw[if_pos ⟨mG hR,by omega,by omega⟩]
 have BD:(p.av.getD ((r:Nat):Int).toNat 0).toNat=start.toNat:=by
  rw[Int.toNat_natCast,List.getD_eq_getElem?_getD,hs];rfl
 rw[BD];generalize cK b=gs at*
 exact nR (idx:=DB p.code.length) (ok:=fun a b=>a<p.code.length∧b≤gs.length) (fQ:=ct p.code gs (Cc 0 gs)) (fuel:=3*((gs.length+1)*p.code.length)+1) (start:=start.toNat) (by
   rintro a b a' b' ⟨q1,q2⟩ ⟨q3,q4⟩ he;obtain⟨r1,r2⟩:=z6 q1 q3 he
   exact⟨r2,r1⟩) (fun t l ht hl=>⟨vq _ _ _ _ _ hl,fun u hu=>tS (p:=p) hR ht l hl u hu⟩) (gs.length+1) 0 (List.replicate ((gs.length+1)*p.code.length) false) (fun _ _=>false) (by
   rintro a b ⟨q1,q2⟩;unfold DB
   rw[List.getElem?_replicate,if_pos (mul_lt (by omega) q1)]) (fun j hj=>⟨by omega,by omega⟩) (by rw[List.length_replicate];exact Nat.le_refl _)
theorem ru {p q:Pg} (hR:a_ p) (hQ:a_ q) {r r':Nat} {start d_:Int} (hs:p.av[r]?=some start) (rb:q.av[r']?=some d_) {n:Nat} (hC:Pu n p.code q.code) (df:d_.toNat=start.toNat+n) (b:List UInt8):cY q (r':Nat) b=cY p (r:Nat) b:=by
 obtain⟨s1,h1⟩:=w7 hR hs b;obtain⟨s2,h2⟩:=w7 hQ rb b;have GF:=hR.st start (List.mem_of_getElem? hs)
 obtain⟨z1,h3⟩:=G3 hC (fun t l ht hl u hu=>tS (p:=p) hR ht l hl u hu) h1 (fun t ht=>by
  obtain⟨j,hj,rfl⟩:=List.mem_map.1 ht;have:=List.mem_range'_1.1 hj
  exact⟨by show start.toNat<_;omega,by show j≤_;omega⟩) (fun _ _=>false) (fun _ _ _=>rfl)
 rw[List.map_map] at h3
 have he:(List.range' 0 ((cK b).length+1)).map (Cb n∘fun j=>(⟨start.toNat,j,bt⟩:fx))=(List.range' 0 ((cK b).length+1)).map fun j=>(⟨d_.toNat,j,bt⟩:fx):=by
  refine List.map_congr_left fun j _=>?_;show(⟨start.toNat+n,j,bt⟩:fx)=_;rw[df]
 rw[he] at h3;exact(h2.one h3).1
theorem yR {a b:List cg} {p q w:Pg} (hp:a_ p) (hq:a_ q) (hw:a_ w) (h1:(aw [a]).e=0) (h2:(aw [b]).e=0) (h3:(aw [a,b]).e=0) (p1:p.code=(aw [a]).code) (p2:p.av=(aw [a]).av) (q1:q.code=(aw [b]).code) (q2:q.av=(aw [b]).av) (w1:w.code=(aw [a,b]).code) (w2:w.av=(aw [a,b]).av) (t:List UInt8):
  cY w 0 t=cY p 0 t∧cY w 1 t=cY q 0 t:=by
 rcases oL a b with⟨_,hc,_⟩|⟨_,_,_,hc,_⟩|⟨_,_,_,_,c1,c2,c3⟩
 ·exact absurd h3 hc
 ·rw[hc] at h3;cases h3
 rw[c1] at w2;rw[c2,←p1,←q1] at w1;rw[←p1] at w2;have sp:=(fN h1).2.2;have sq:=(fN h2).2.2;rw[sp] at p2;rw[sq] at q2;rw[←q1] at c3;constructor
 ·refine ru (r:=0) (r':=0) (n:=0) (start:=0) (d_:=0) hp hw (by rw[p2];rfl) (by rw[w2];rfl) (fun pc i hi=>⟨i,?_,rfl,rfl,fun _=>⟨rfl,rfl⟩,fun _=>rfl,fun _=>rfl⟩) rfl t;rw[w1,Nat.add_zero,List.getElem?_append_left (aR hi)];exact hi
 ·refine ru (r:=0) (r':=1) (n:=p.code.length) (start:=0) (d_:=(p.code.length:Int)) hq hw (by rw[q2];rfl) (by rw[w2];rfl) (fun pc i hi=>⟨sx p.code.length i,?_,?_⟩) (by simp) t
  ·rw[w1,List.getElem?_append_right (by omega),Nat.add_sub_cancel,List.getElem?_map,hi];rfl
  ·have hx:=c3 i (List.mem_of_getElem? hi);unfold sx QK
   by_cases h2:i.op=2
   ·have:=hx (.inl h2);rw[if_pos h2];refine⟨h2.symm,rfl,fun _=>⟨?_,?_⟩,fun h=>?_,fun h=>?_⟩<;>simp only<;>omega
   rw[if_neg h2]
   by_cases h3:i.op=3
   ·have:=hx (.inr h3);rw[if_pos h3];refine⟨h3.symm,rfl,fun h=>?_,fun _=>?_,fun h=>?_⟩<;>simp only<;>omega
   rw[if_neg h3]
   by_cases h7:i.op=7
   ·rw[if_pos h7];refine⟨h7.symm,rfl,fun h=>?_,fun h=>?_,fun h=>?_⟩<;>simp only<;>omega
   rw[if_neg h7];exact⟨rfl,rfl,fun h=>absurd h h2,fun h=>absurd h h3,fun _=>rfl⟩
end Go.Proofs.Ytnleclohocdkaaa
