/-
 Arguments as the row reads them are values of V; no conditions.
-/
import Derived.Test.YtnleclohocdkaaaWM2
import Derived.DataReads
import Derived.ChangeOld
import GoSem.ClaimChange
import Derived.Below
import Derived.Test.YtnleclohocdkaaaRows
import Derived.Test.YtnleclohocdkaaaWGCa
import Derived.Test.YtnleclohocdkaaaWPx
import Derived.KernelRfl
set_option linter.unusedSimpArgs false
set_option linter.unusedVariables false
set_option linter.unusedSectionVars false
set_option linter.unnecessarySimpa false
set_option maxRecDepth 100000
set_option maxHeartbeats 4000000
namespace Go.V
open Go.RowKit
def nF {H:Type}:DataW H→Bool
 | .agg _=>true
 |_=>false
mutual
def uJ {H:Type}:DataW H→List D
 | .lit (.bool b)=>[.bool b]
 | .lit (.int k n)=>[.int k n]
 | .lit (.string l)=>[.str l]
 | .lit _=>[.bG]
 | .nil=>[.nul]
 | .slice elems _=>[.sl (wK elems)]
 | .agg parts=>kE parts
 | .ptr _=>[.bG]
 | .iface _ _=>[.bG]
 | .map _=>[.bG]
 | .held _=>[.bG]
def wK {H:Type}:List (DataW H)→List D
 |[]=>[]
 |d::r=>(if nF d then .agg (uJ d) else(uJ d).headD .bG)::wK r
def kE {H:Type}:List (DataW H)→List D
 |[]=>[]
 |d::r=>uJ d++kE r
end
def mC {H:Type} (d:DataW H):D:=if nF d then .agg (uJ d) else(uJ d).headD .bG
theorem wJ {H:Type}:∀l:List (DataW H),wK l=l.map mC
 |[]=>rfl
 |d::r=>by simp only[wK,List.map_cons,wJ r];rfl
def qW (P:Program):Nat→List Field→Option Nat
 |o,[]=>some o
 |o,f::fs=>if f.offset=o then qW P (o+P.cellsOf f.type) fs else none
def ze (P:Program):Nat→TypeId→Bool
 |0,_=>false
 |n+1,t=>match P.underlying t with
  |some .bool=>true
  |some (.int _)=>true
  |some .string=>true
  |some (.slice e)=>ze P n e &&decide (0<P.cellsOf e)
  |some (.struct fs)=>(qW P 0 fs.toList==some (P.cellsOf t)) &&fs.toList.all fun f=>ze P n f.type
  |some (.array m e)=>ze P n e &&(P.cellsOf t==m*P.cellsOf e)
  |_=>false
structure CR (w:World) (Z:Nat→Prop) (cs:List D) (vs:List Value):Prop where
 len:cs.length=vs.length
 one:∀v∈vs,v.oneCell'=true
 onec:∀c∈cs,c.cells?=some [c]
 rel:∀(i:Nat) c v,cs[i]?=some c→vs[i]?=some v→IR w Z c v
theorem CR.nil {w:World} {Z:Nat→Prop}:CR w Z [] []:=⟨rfl,by simp,by simp,by simp⟩
theorem CR.single {w:World} {Z:Nat→Prop} {c:D} {v:Value} (h:IR w Z c v) (h1:v.oneCell'=true) (h2:c.cells?=some [c]):CR w Z [c] [v]:=
 ⟨rfl,by simpa using h1,by simpa using h2,fun i c' v' hc hv=>by
  cases i with
  |zero=>simp at hc hv;subst hc;subst hv;exact h
  |succ i=>simp at hc⟩
theorem CR.append {w:World} {Z:Nat→Prop} {cs cs':List D} {vs Hv:List Value} (h:CR w Z cs vs) (g:CR w Z cs' Hv):CR w Z (cs++cs') (vs++Hv):=by
 refine⟨by simp[h.len,g.len],fun v hv=>?_,fun c hc=>?_,fun i c v hc hv=>?_⟩
 ·rcases List.mem_append.1 hv with hv|hv
  ·exact h.one v hv
  ·exact g.one v hv
 ·rcases List.mem_append.1 hc with hc|hc
  ·exact h.onec c hc
  ·exact g.onec c hc
 ·rw[List.getElem?_append] at hc hv;have:=h.len
  split at hc
  ·rw[if_pos (by omega)] at hv;exact h.rel i c v hc hv
  ·rw[if_neg (by omega)] at hv;rw[←this] at hv;exact g.rel _ c v hc hv
theorem vu {H:Type} {P:Program} {w:World} {Z:Nat→Prop} {f:Field→Option (DataW H×List MemPlace)} {cs:List Value}:∀{fs:List Field} {o e:Nat} {xs:List (DataW H×List MemPlace)},qW P o fs=some e→e≤cs.length→fs.mapM f=some xs→
  (∀g∈fs,∀x,f g=some x→CR w Z (uJ x.1) ((cs.drop g.offset).take (P.cellsOf g.type)))→CR w Z (kE (xs.map (·.1))) ((cs.drop o).take (e-o))∧o≤e
 |[],o,e,xs,hc,_,hm,_=>by
  simp[qW] at hc;subst hc;simp at hm;subst hm;simp[kE];exact CR.nil
 |g::fs,o,e,xs,hc,he,hm,hx=>by
  simp only[qW] at hc
  split at hc
  ·rename_i ho;rw[List.mapM_cons] at hm
   cases h1:f g with
   |none=>rw[h1] at hm;simp at hm
   |some x=>
    rw[h1] at hm
    cases h2:fs.mapM f with
    |none=>rw[h2] at hm;simp at hm
    |some ys=>
     rw[h2] at hm;simp at hm;subst hm;obtain⟨ih,hle⟩:=vu hc he h2 fun g' Ql=>hx g' (List.mem_cons_of_mem _ Ql);have hg:=hx g (List.mem_cons_self ..) x h1;rw[ho] at hg;refine⟨?_,by omega⟩;simp only[List.map_cons,kE]
     have:(cs.drop o).take (e-o)=(cs.drop o).take (P.cellsOf g.type)++(cs.drop (o+P.cellsOf g.type)).take (e-(o+P.cellsOf g.type)):=by
      rw[←List.drop_drop,show e-o=P.cellsOf g.type+(e-(o+P.cellsOf g.type)) by omega,List.take_add]
     rw[this];exact hg.append ih
  ·cases hc
theorem wG {H:Type} {w:World} {Z:Nat→Prop} {s:Nat} {f:Nat→Option (DataW H×List MemPlace)} {cs:List Value}:∀{m k:Nat} {xs:List (DataW H×List MemPlace)},(List.range' k m).mapM f=some xs→(k+m)*s≤cs.length→
  (∀i x,f i=some x→CR w Z (uJ x.1) ((cs.drop (i*s)).take s))→CR w Z (kE (xs.map (·.1))) ((cs.drop (k*s)).take (m*s))
 |0,k,xs,hm,_,_=>by simp at hm;subst hm;simp[kE];exact CR.nil
 |m+1,k,xs,hm,hl,hx=>by
  rw[List.range'_succ,List.mapM_cons] at hm
  cases h1:f k with
  |none=>rw[h1] at hm;simp at hm
  |some x=>
   rw[h1] at hm
   cases h2:(List.range' (k+1) m).mapM f with
   |none=>rw[h2] at hm;simp at hm
   |some ys=>
    rw[h2] at hm;simp at hm;subst hm;have ih:=wG h2 (by rw[show k+1+m=k+(m+1) by omega];exact hl) hx;simp only[List.map_cons,kE];rw[show(m+1)*s=s+m*s by rw[Nat.add_mul];omega,List.take_add,List.drop_drop,show k*s+s=(k+1)*s by rw[Nat.add_mul];omega];exact(hx k x h1).append ih
theorem cells_one {c:D} (h:c.cells?=some [c]):c.cells=[c]:=by
 cases c<;>first|rfl|cases h|(simp only[D.cells?,Option.some.injEq] at h;simpa only[D.cells] using h)
theorem w6 (b off n:Nat):(⟨b,off,none⟩:Addr).add n=⟨b,off+n,none⟩:=by
 cases n<;>simp[Addr.add]
theorem oK {H:Type} {enc:TypeId×Value→H} {P:Program} {w:World} {spare:Nat→Bool} {held:Bool}:∀(fuel:Nat) (t:TypeId) (cs:List Value) (d:DataW H) (ps:List MemPlace) (n:Nat),DataW.trod enc P w 0 spare held fuel t cs=some (d,ps)→ze P n t=true→
  CR w (fun b=>b<w.heap.size) (uJ d) cs∧cs.length=(match P.underlying t with|some (.struct _)|some (.array _ _)=>P.cellsOf t|_=>1)∧(nF d=(match P.underlying t with|some (.struct _)|some (.array _ _)=>true|_=>false))
 |0,t,cs,d,ps,n,h,_=>by simp[DataW.trod] at h
 |fuel+1,t,cs,d,ps,0,h,ht=>by simp[ze] at ht
 |fuel+1,t,cs,d,ps,n+1,h,ht=>by
  simp only[ze] at ht;unfold DataW.trod at h
  cases hu:P.underlying t with
  |none=>rw[hu] at ht;simp at ht
  |some u=>
   rw[hu] at h ht
   cases u with
   |bool=>
    rcases cs with _|⟨v,_|⟨v2,cs⟩⟩<;>try(simp at h;done)
    cases v<;>simp at h
    obtain⟨rfl,rfl⟩:=h;exact⟨CR.single (.bool _) rfl rfl,rfl,rfl⟩
   |int k=>
    rcases cs with _|⟨v,_|⟨v2,cs⟩⟩<;>try(simp at h;done)
    cases v<;>simp at h
    obtain⟨⟨rfl,_⟩,rfl,rfl⟩:=h;exact⟨CR.single (.int _ _) rfl rfl,rfl,rfl⟩
   |string=>
    rcases cs with _|⟨v,_|⟨v2,cs⟩⟩<;>try(simp at h;done)
    cases v<;>simp at h
    rename_i b;obtain⟨_,rfl,rfl⟩:=h;refine⟨CR.single ?_ rfl rfl,rfl,rfl⟩;have:=IR.str (w:=w) (Z:=fun b=>b<w.heap.size) b.data.toList
    simpa using this
   |slice e=>
    simp only[Bool.and_eq_true,decide_eq_true_eq] at ht
    rcases cs with _|⟨v,_|⟨v2,cs⟩⟩<;>try(simp at h;done)
    cases v<;>try(simp at h;done)
    rename_i a len cap
    cases a with
    |none=>
     cases len<;>cases cap<;>simp at h
     obtain⟨rfl,rfl⟩:=h;exact⟨CR.single .nul rfl rfl,rfl,rfl⟩
    |some a=>
     simp only at h
     split at h
     ·rename_i hc;simp only[Option.bind_eq_some_iff,Option.map_eq_some_iff] at h;obtain⟨elems,he,rest,hr,hd⟩:=h;cases hd;refine⟨?_,rfl,rfl⟩;have hlen:elems.length=len:=by simpa using mapM_some_length he
      have hget:=mapM_some_get he
      have each:∀(i:Nat),i<len→∃x cs,elems[i]?=some x∧w.cells? 0 (a.add (i*P.cellsOf e)) (P.cellsOf e)=some cs∧CR w (fun b=>b<w.heap.size) (uJ x.1) cs∧cs.length=P.cellsOf e∧(nF x.1=(match P.underlying e with|some (.struct _)|some (.array _ _)=>true|_=>false))∧cs.length=(match P.underlying e with|some (.struct _)|some (.array _ _)=>P.cellsOf e|_=>1):=by
       intro i hi;have h1:=hget i i (by simp[hi]);have h2:elems[i]?=some (elems[i]'(by omega)):=List.getElem?_eq_getElem _;rw[h2] at h1;obtain⟨cs,jF,hx⟩:=Option.bind_eq_some_iff.1 h1;obtain⟨q1,q2,q3⟩:=oK fuel e cs _ _ n hx ht.1;exact⟨_,cs,h2,jF,q1,(World.cells?_some jF).2.1,q3,q2⟩
      refine CR.single ?_ rfl rfl
      cases len with
      |zero=>
       have:elems=[]:=by cases elems with|nil=>rfl|cons _ _=>simp at hlen
       subst this;exact .emp _ _
      |succ m=>
       have KM:a.spot=none∧a.block<w.heap.size:=by
        obtain⟨x,cs,_,h2,_,_⟩:=each 0 (by omega);refine⟨?_,?_⟩
        ·have:=(World.cells?_some h2).2.2 0 ht.2;have hl:=(World.cells?_some h2).2.1
         obtain⟨c0,IU⟩:∃c0,cs[0]?=some c0:=⟨cs[0]'(by omega),List.getElem?_eq_getElem _⟩
         rw[IU] at this
         simpa[Addr.add] using World.cell?_spot this
        ·simpa[Addr.add] using World.cells?_block h2 ht.2
       obtain⟨b,off,spot⟩:=a;simp only at KM;obtain⟨rfl,hb⟩:=KM
       have hcell:∀(i j:Nat),i<m+1→j<P.cellsOf e→∃x cs v,elems[i]?=some x∧cs[j]?=some v∧w.cell? ⟨b,off+(i*P.cellsOf e+j),none⟩=some v∧CR w (fun b=>b<w.heap.size) (uJ x.1) cs:=by
        intro i j hi hj;obtain⟨x,cs,h1,h2,h3,h4,_⟩:=each i hi;have:=(World.cells?_some h2).2.2 j hj
        obtain⟨v,hv⟩:∃v,cs[j]?=some v:=⟨cs[j]'(by omega),List.getElem?_eq_getElem _⟩
        rw[hv] at this;refine⟨x,cs,v,h1,hv,?_,h3⟩;rw[←this,w6,w6,Nat.add_assoc]
       have xb:(wK (elems.map (·.1)))=elems.map fun x=>mC x.1:=by rw[wJ,List.map_map];rfl
       have hE:∀(i:Nat) q,(wK (elems.map (·.1)))[i]?=some q→∃x cs,i<m+1∧elems[i]?=some x∧q.cells?=some q.cells∧q.cells=uJ x.1∧CR w (fun b=>b<w.heap.size) (uJ x.1) cs∧cs.length=P.cellsOf e:=by
        intro i q hq;rw[xb,List.getElem?_map] at hq;obtain⟨x,hx,rfl⟩:=Option.map_eq_some_iff.1 hq
        have hi:i<m+1:=by
         rcases Nat.lt_or_ge i (m+1) with h'|h'
         ·exact h'
         ·rw[List.getElem?_eq_none (by omega)] at hx;cases hx
        obtain⟨x',cs,h1,h2,h3,h4,h5,h6⟩:=each i hi;rw[hx] at h1;cases h1;refine⟨x,cs,hi,hx,?_,?_,h3,h4⟩
        ·unfold mC
         split
         ·rfl
         ·rename_i Ge
          have uc:(uJ x.1).length=1:=by
           rw[h3.len,h6];rw[h5] at Ge
           revert Ge
           split<;>simp
          match hd:uJ x.1,uc with
          |[c],_=>have:=h3.onec c (by rw[hd];simp);simp only[List.headD_cons];rw[cells_one this];exact this
        ·unfold mC
         split
         ·rfl
         ·rename_i Ge
          have uc:(uJ x.1).length=1:=by
           rw[h3.len,h6];rw[h5] at Ge
           revert Ge
           split<;>simp
          match hd:uJ x.1,uc with
          |[c],_=>have:=h3.onec c (by rw[hd];simp);simp only[List.headD_cons];exact cells_one this
       have hL:(wK (elems.map (·.1))).length=m+1:=by rw[xb];simp[hlen]
       have hf:=fun(i j:Nat) (hi:i<m+1) (hj:j<P.cellsOf e)=>hcell i j hi hj;have:=IR.sl (w:=w) (Z:=fun b=>b<w.heap.size) (wK (elems.map (·.1))) b off cap (P.cellsOf e) (fun i j=>(w.cell? ⟨b,off+(i*P.cellsOf e+j),none⟩).getD undef) hb (by rw[hL];exact hc.2.1)
        (fun i q hq=>by
         obtain⟨x,cs,h1,h2,h3,h4,h5,h6⟩:=hE i q hq
         exact⟨h3,by rw[h4,h5.len,h6]⟩)
        (fun i q j c hq hj=>by
         obtain⟨x,cs,h1,h2,h3,h4,h5,h6⟩:=hE i q hq
         have lK:j<P.cellsOf e:=by
          rcases Nat.lt_or_ge j (P.cellsOf e) with h'|h'
          ·exact h'
          ·rw[h4,List.getElem?_eq_none (by rw[h5.len,h6];exact h')] at hj;cases hj
         obtain⟨x',cs',v,g1,g2,g3,g4⟩:=hf i j h1 lK;rw[g3]
         exact⟨rfl,g4.one v (List.mem_of_getElem? g2)⟩)
        (fun i q j c hq hj=>by
         obtain⟨x,cs,h1,h2,h3,h4,h5,h6⟩:=hE i q hq
         have lK:j<P.cellsOf e:=by
          rcases Nat.lt_or_ge j (P.cellsOf e) with h'|h'
          ·exact h'
          ·rw[h4,List.getElem?_eq_none (by rw[h5.len,h6];exact h')] at hj;cases hj
         obtain⟨x',cs',v,g1,g2,g3,g4⟩:=hf i j h1 lK;rw[g3];rw[h2] at g1;cases g1
         exact g4.rel j c v (by rw[←h4];exact hj) g2)
       rw[hL] at this;exact this
     ·cases h
   |struct fs=>
    simp only[Bool.and_eq_true,beq_iff_eq,List.all_eq_true] at ht;simp only at h
    split at h
    ·rename_i hl;obtain⟨xs,hx,hd⟩:=Option.map_eq_some_iff.1 h;cases hd;refine⟨?_,hl,rfl⟩;obtain⟨h1,_⟩:=vu (w:=w) (Z:=fun b=>b<w.heap.size) (cs:=cs) ht.1 (by omega) hx fun g hg x Qj=>(oK fuel g.type _ _ _ n Qj (ht.2 g hg)).1;rw[List.drop_zero,Nat.sub_zero,←hl,List.take_length] at h1;exact h1
    ·cases h
   |array m e=>
    simp only[Bool.and_eq_true,beq_iff_eq] at ht;simp only at h
    split at h
    ·rename_i hl;obtain⟨xs,hx,hd⟩:=Option.map_eq_some_iff.1 h;cases hd;refine⟨?_,hl,rfl⟩;rw[List.range_eq_range'] at hx;have h1:=wG (w:=w) (Z:=fun b=>b<w.heap.size) (s:=P.cellsOf e) (cs:=cs) hx (by rw[Nat.zero_add,←ht.2,hl];exact Nat.le_refl _) fun i x JY=>(oK fuel e _ _ _ n JY ht.1).1;rw[Nat.zero_mul,List.drop_zero,←ht.2,←hl,List.take_length] at h1;exact h1
    ·cases h
   |_=>simp at ht
theorem yR {H:Type} {enc:TypeId×Value→H} {P:Program} {w:World} {spare:Nat→Bool} {held:Bool} {r:Reach} {base:Nat} {t:TypeId} {v:Value} {d:DataW H} {ps:List MemPlace} {n:Nat} (h:DataW.Trod enc P w 0 spare held t v d ps) (ht:ze P n t=true) (hv:Value.okWide P w r base t v):
  IR w (fun b=>b<w.heap.size) (mC d) v:=by
 obtain⟨fuel,hf⟩:=h;obtain⟨h1,h2,h3⟩:=oK fuel t _ d ps n hf ht
 have hu:∃u,P.underlying t=some u:=by
  cases n with
  |zero=>simp[ze] at ht
  |succ n=>
   simp only[ze] at ht
   cases hu:P.underlying t with
   |none=>rw[hu] at ht;simp at ht
   |some u=>exact⟨u,rfl⟩
 obtain⟨u,hu⟩:=hu;unfold Value.okWide at hv;rw[hu] at hv h2 h3
 have IY:(∃cs:Array Value,v=.agg cs)→nF d=true→IR w (fun b=>b<w.heap.size) (mC d) v:=by
  rintro⟨cs,rfl⟩ hd;unfold mC;rw[if_pos hd];have:=IR.agg (w:=w) (Z:=fun b=>b<w.heap.size) (uJ d) cs.toList (by simpa[Value.cells] using h1.len) (by simpa[Value.cells] using h1.one) (by simpa[Value.cells] using h1.rel)
  simpa using this
 have jU:nF d=false→v.cells.toList.length=1→(∀cs,v≠.agg cs)→IR w (fun b=>b<w.heap.size) (mC d) v:=by
  intro hd hl Ge;unfold mC;rw[if_neg (by rw[hd];simp)]
  have hc:v.cells.toList=[v]:=by cases v<;>first|rfl|exact absurd rfl (Ge _)
  rw[hc] at h1
  match hq:uJ d,h1.len with
  |[c],_=>exact h1.rel 0 c v (by rw[hq];rfl) rfl
 have hcell:Cell.okWide P w r base t v→∀cs,v≠.agg cs:=by
  rintro hc cs rfl;unfold Cell.okWide at hc;rw[hu] at hc;cases u<;>simp[Cell.ok,hu] at hc
 cases u with
 |struct fs=>obtain⟨cs,h,_⟩:=hv;exact IY ⟨cs,h⟩ h3
 |array m e=>obtain⟨cs,h,_⟩:=hv;exact IY ⟨cs,h⟩ h3
 |_=>exact jU h3 h2 (hcell hv)
end Go.V
namespace Go.V
open Go.RowKit
theorem rk {H:Type} {enc:TypeId×Value→H} {P:Program} {w:World} {spare:Nat→Bool} {held:Bool} {t:TypeId} {v:Value} {d:DataW H} {ps:List MemPlace} (h:DataW.Trod enc P w 0 spare held t v d ps) (ht:P.underlying t=some .string):
  ∃l:List UInt8,mC d=.str l∧d=.lit (.string l):=by
 obtain⟨fuel,h⟩:=h
 cases fuel with
 |zero=>simp[DataW.trod] at h
 |succ fuel=>
  unfold DataW.trod at h;rw[ht] at h;generalize v.cells.toList=cs at h
  rcases cs with _|⟨v,_|⟨v2,cs⟩⟩<;>try(simp at h;done)
  cases v<;>simp at h
  obtain⟨_,rfl,_⟩:=h;exact⟨_,rfl,rfl⟩
theorem AL {pv:Pv} {P:Program} (h:pv.Ok P∧pv.gf∧f_ P pv (dt pv)) {f:Nat} {ds:List D} {ag:St} (hs:Ev pv f ds ⟨[],0,0⟩ (.bool true) ag) {w:World} {us:List Value} (hl:ds.length=us.length)
  (hr:∀(i:Nat) c v,ds[i]?=some c→us[i]?=some v→IR w (fun b=>b<w.heap.size) c v):Calls P f us.toArray w fun e w'=>e=.returned (.bool true)∧Below w.heap.size w w':=by
 obtain⟨N,hN⟩:=Ev.out hs;refine(sound h (hN N (Nat.le_refl _)) (w:=w) (Z:=fun b=>b<w.heap.size) (fun _ h=>h) hl hr).mono fun e w'=>?_;rintro⟨v,β',Z',rfl,he,hv⟩;rw[dR hv];exact⟨rfl,⟨he.os,he.tape,he.output,he.size,fun k hk=>he.block k hk fun f=>f⟩⟩
end Go.V
namespace Go.V
open Go.RowKit
def Rd {H:Type} (enc:TypeId×Value→H) (P:Program) (w:World) (spare:Nat→Bool) (held:Bool) (t:TypeId) (d:DataW H):Prop:=
 ∃fuel cs ps,DataW.trod enc P w 0 spare held fuel t cs=some (d,ps)
section
variable{H:Type} {enc:TypeId×Value→H} {P:Program} {w:World} {spare:Nat→Bool} {held:Bool} {t e:TypeId} {d:DataW H}
theorem Rd.of {v:Value} {ps:List MemPlace} (h:DataW.Trod enc P w 0 spare held t v d ps):Rd enc P w spare held t d:=by
 obtain⟨fuel,h⟩:=h;exact⟨fuel,_,_,h⟩
theorem Rd.int {k:IntKind} (h:Rd enc P w spare held t d) (ht:P.underlying t=some (.int k)):∃n:Int,d=.lit (.int k n)∧(Lit.int k n).wf=true:=by
 obtain⟨fuel,cs,ps,h⟩:=h
 cases fuel with
 |zero=>simp[DataW.trod] at h
 |succ fuel=>
  unfold DataW.trod at h;rw[ht] at h
  rcases cs with _|⟨v,_|⟨v2,cs⟩⟩<;>try(simp at h;done)
  cases v<;>simp at h
  obtain⟨⟨rfl,hw⟩,rfl,_⟩:=h;exact⟨_,rfl,hw⟩
theorem Rd.bool (h:Rd enc P w spare held t d) (ht:P.underlying t=some .bool):∃b:Bool,d=.lit (.bool b):=by
 obtain⟨fuel,cs,ps,h⟩:=h
 cases fuel with
 |zero=>simp[DataW.trod] at h
 |succ fuel=>
  unfold DataW.trod at h;rw[ht] at h
  rcases cs with _|⟨v,_|⟨v2,cs⟩⟩<;>try(simp at h;done)
  cases v<;>simp at h
  obtain⟨rfl,_⟩:=h;exact⟨_,rfl⟩
theorem Rd.string (h:Rd enc P w spare held t d) (ht:P.underlying t=some .string):∃l:List UInt8,d=.lit (.string l):=by
 obtain⟨fuel,cs,ps,h⟩:=h
 cases fuel with
 |zero=>simp[DataW.trod] at h
 |succ fuel=>
  unfold DataW.trod at h;rw[ht] at h
  rcases cs with _|⟨v,_|⟨v2,cs⟩⟩<;>try(simp at h;done)
  cases v<;>simp at h
  obtain⟨_,rfl,_⟩:=h;exact⟨_,rfl⟩
theorem Rd.slice (h:Rd enc P w spare held t d) (ht:P.underlying t=some (.slice e)):d=.nil∨∃elems rest,d=.slice elems rest∧∀x∈elems,Rd enc P w spare held e x:=by
 obtain⟨fuel,cs,ps,h⟩:=h
 cases fuel with
 |zero=>simp[DataW.trod] at h
 |succ fuel=>
  unfold DataW.trod at h;rw[ht] at h
  rcases cs with _|⟨v,_|⟨v2,cs⟩⟩<;>try(simp at h;done)
  cases v<;>try(simp at h;done)
  rename_i a len cap
  cases a with
  |none=>
   cases len<;>cases cap<;>simp at h
   obtain⟨rfl,rfl⟩:=h;exact .inl rfl
  |some a=>
   simp only at h
   split at h
   ·simp only[Option.bind_eq_some_iff,Option.map_eq_some_iff] at h;obtain⟨elems,hm,rest,hr,hd⟩:=h;cases hd;refine .inr ⟨_,_,rfl,fun x hx=>?_⟩;obtain⟨y,hy,rfl⟩:=List.mem_map.1 hx;have hlen:elems.length=len:=by simpa using mapM_some_length hm
    have hget:=mapM_some_get hm;obtain⟨i,hi⟩:=List.getElem?_of_mem hy;have hil:i<len:=by have:=bn hi;omega
    have h1:=hget i i (by simp[hil]);rw[hi] at h1;obtain⟨cs,_,hx⟩:=Option.bind_eq_some_iff.1 h1;exact⟨fuel,cs,y.2,hx⟩
   ·cases h
theorem nA {α β:Type} {f:α→Option β}:∀{l:List α} {m:List β},l.mapM f=some m→cK (fun a b=>f a=some b) l m
 |[],m,h=>by simp at h;subst h;exact .nil
 |a::l,m,h=>by
  rw[List.mapM_cons] at h
  cases h1:f a with
  |none=>rw[h1] at h;simp at h
  |some b=>
   rw[h1] at h
   cases h2:l.mapM f with
   |none=>rw[h2] at h;simp at h
   |some ys=>rw[h2] at h;simp at h;subst h;exact .cons h1 (nA h2)
theorem cK.HQ {α β γ:Type} {R:α→γ→Prop} {f:β→γ}:∀{l:List α} {m:List β},cK (fun a b=>R a (f b)) l m→cK R l (m.map f)
 |_,_,.nil=>.nil
 |_,_,.cons a t=>.cons a t.HQ
theorem Rd.struct {fs:Array Field} (h:Rd enc P w spare held t d) (ht:P.underlying t=some (.struct fs)):∃parts,d=.agg parts∧cK (fun(f:Field) x=>Rd enc P w spare held f.type x) fs.toList parts:=by
 obtain⟨fuel,cs,ps,h⟩:=h
 cases fuel with
 |zero=>simp[DataW.trod] at h
 |succ fuel=>
  unfold DataW.trod at h;rw[ht] at h;simp only at h
  split at h
  ·obtain⟨xs,hx,hd⟩:=Option.map_eq_some_iff.1 h;cases hd;refine⟨_,rfl,?_⟩;exact((nA hx).mono fun f x LJ=>(⟨fuel,_,_,LJ⟩:Rd enc P w spare held f.type x.1)).HQ
  ·cases h
theorem Rd.array {n:Nat} (h:Rd enc P w spare held t d) (ht:P.underlying t=some (.array n e)):∃parts,d=.agg parts∧parts.length=n∧∀x∈parts,Rd enc P w spare held e x:=by
 obtain⟨fuel,cs,ps,h⟩:=h
 cases fuel with
 |zero=>simp[DataW.trod] at h
 |succ fuel=>
  unfold DataW.trod at h;rw[ht] at h;simp only at h
  split at h
  ·obtain⟨xs,hx,hd⟩:=Option.map_eq_some_iff.1 h;cases hd;have h1:=nA hx;refine⟨_,rfl,by have:=h1.len;simp at this;simp[←this],fun x KD=>?_⟩;obtain⟨y,hy,rfl⟩:=List.mem_map.1 KD
   have key:∀{l:List Nat} {m:List (DataW H×List MemPlace)},cK (fun i x=>DataW.trod enc P w 0 spare held fuel e ((cs.drop (i*P.cellsOf e)).take (P.cellsOf e))=some x) l m→∀y∈m,Rd enc P w spare held e y.1:=by
    intro l m h
    induction h with
    |nil=>intro y hy;cases hy
    |cons a t ih=>
     intro y hy
     rcases List.mem_cons.1 hy with rfl|hy
     ·exact⟨fuel,_,_,a⟩
     ·exact ih y hy
   exact key h1 y hy
  ·cases h
end
end Go.V
namespace Go.Proofs.Ytnleclohocdkaaa
end Go.Proofs.Ytnleclohocdkaaa
namespace Go.Proofs.Ytnleclohocdkaaa
open Go.V Go Go.RowKit
variable{H:Type} {enc:TypeId×Value→H} {w:World} {spare:Nat→Bool} {held:Bool} {d:DataW H}
end Go.Proofs.Ytnleclohocdkaaa
namespace Go.V
variable{N:Nat} {S st:St} {H:List cx}
theorem Has.cV {s0:St} (h:Has N S s0 H):Has N (aj .rw s0) (aj .rw s0) H:=
 ⟨Ex.refl _ _,Nat.le_trans h.hN h.ex.len,by show s0.ro≤N;rw[h.ex.ro];exact h.fY,fun i e hi=>⟨e.loc (st:=s0) (ag:=aj .rw s0) (fun k _=>rfl) (h.ok i e hi).1,(h.ok i e hi).2⟩,h.dis⟩
theorem ak {kn:Bool} {s0 st:St} {d d':D} (hd:bQ st s0.bs.length kn 16 d=some d'):cY .rw kn s0 st d=some (d',⟨st.bs.take s0.bs.length,s0.flr,s0.ro⟩):=by
 simp only[cY,hd]
theorem Has.tT {s0 S2 st2:St} {H2:List cx} (h:Has N S s0 H) (hS:S2.bs=s0.bs) (h2:Has N S2 st2 H2) (hk:∀(i:Nat) e,H2[i]?=some e→∃e',H[i]?=some e'∧∀k,e.K k→e'.K k):Has N S ⟨st2.bs.take s0.bs.length,s0.flr,s0.ro⟩ H2:=by
 have hL:s0.bs.length≤st2.bs.length:=by have:=h2.ex.len;rw[hS] at this;exact this
 have RW:=h.ex.len;have RY:=h.hN;refine⟨⟨fun k jW=>?_,?_,h.ex.flr,h.ex.ro⟩,h.hN,h.fY,fun i e hi=>?_,h2.dis⟩
 ·show(st2.bs.take s0.bs.length)[k]?=_;rw[List.getElem?_take,if_pos (by omega),h2.ex.low k jW,hS];exact h.ex.low k jW
 ·show _≤(st2.bs.take s0.bs.length).length;rw[List.length_take];omega
 ·obtain⟨e',oS,hkk⟩:=hk i e hi;have h3:=(h.ok i e' oS).2;refine⟨e.loc (fun k jW=>?_) (h2.ok i e hi).1,fun k jW=>⟨(h3 k (hkk k jW)).1,?_⟩⟩
  ·show(st2.bs.take s0.bs.length)[k]?=_;rw[List.getElem?_take,if_pos (h3 k (hkk k jW)).2]
  ·show k<(st2.bs.take s0.bs.length).length;rw[List.length_take];have:=(h3 k (hkk k jW)).2;omega
theorem Has.ax {s0 S2 st2:St} {k:Nat} {b b':iL} (h:Has N S s0 (.box k b::H)) (hS:S2.bs=s0.bs) (h2:Has N S2 st2 (.box k b'::H)):Has N S ⟨st2.bs.take s0.bs.length,s0.flr,s0.ro⟩ (.box k b'::H):=by
 refine h.tT hS h2 fun i e hi=>?_
 cases i with
 |zero=>simp only[List.getElem?_cons_zero,Option.some.injEq] at hi;subst hi;exact⟨_,rfl,fun k hk=>hk⟩
 |succ i=>exact⟨e,hi,fun k hk=>hk⟩
theorem Has.EV {P:Pv} {j:Nat} {x y x':D} {s:Nat} {es ys:List (List D)} {ag:St} (hH:Has N S st H) (hj:H[j]?=some (.aR x s es)) (hy:Rows st s y ys) {t1 t2 e:TypeId} {td:TypeDesc} {inf:TypeInfo} {z:List D}
  (h1:P.cL t1=some (.slice e)) (h2:P.cL t2=some td) (h3:gu td=false) (h4:P.info e=some inf) (h5:dj P e=some z)
  (q1:bA P .append [t1,t2] [x,y] st=some (x',ag)):∀k,x'.ref=k+1→x.ref=k+1∨S.bs.length≤k:=by
 have hl:=hH.ex.len;have j6:=hy.row
 have Cy:∀e∈ys,e.length=s:=fun e he=>by
  obtain⟨i,hi⟩:=List.getElem?_of_mem he;exact hy.uo i e hi
 have hown:=hH.own hj;simp only[bA,gZ,h1,h2,h3,Bool.false_eq_true,if_false,h4,h5,j6,Option.bind_some] at q1
 split at q1
 ·cases q1
 ·cases hown with
  |nul=>
   simp only at q1
   split at q1
   ·cases q1;exact fun k hk=>.inl hk
   ·split at q1
    ·cases q1;exact fun k hk=>.inr (by simp only[D.ref] at hk;omega)
    ·cases q1
  |win k ay off es c hm hl hc he=>
   simp only[St.mem_of hm] at q1
   split at q1
   ·cases q1
   ·split at q1
    ·cases q1;exact fun k hk=>.inl hk
    ·split at q1
     ·cases q1;exact fun n hn=>.inl (by simp only[D.ref] at hn⊢;exact hn)
     ·cases q1
theorem ab.qH {P:Pv} {ops:Array Oper} {rest:List Oper} {fr:Fr} {Q:Fr→St→Prop} {ty:TypeId} {pp:String} {a:Array Edge} {g:Option (Nat×Bool)} {dst:Nat} {j:Nat} {x y:D} {s:Nat} {es ys:List (List D)} {t1 t2 e:TypeId} {td:TypeDesc} {inf:TypeInfo} {z:List D} {xo yo:Operand} {aF:D→Fr} (hH:Has N S st H) (hg:aB ops fr ⟨some dst,.call ⟨.builtin .append,#[xo,yo],#[t1,t2]⟩,ty,pp,a,g⟩=some true)
  (hx:fr.ev xo=x) (hy:fr.ev yo=y) (hj:H[j]?=some (.aR x s es)) (j9:Rows st s y ys)
  (h1:P.cL t1=some (.slice e)) (h2:P.cL t2=some td) (h3:gu td=false) (h4:P.info e=some inf) (h5:dj P e=some z) (h6:inf.size=s) (h7:z.length=s) (h8:0<inf.bytes∧inf.bytes≤1024)
  (hp:∀x',fr.put dst x'=aF x') (hb:es.length+ys.length≤1073741824) (hw:S.flr≤N∨refs ys.flatten=0) (h0:∀k,x.ref=k+1→S.bs.length≤k)
  (h:∀x' ag,(∀k,x'.ref=k+1→S.bs.length≤k)→Has N S ag (H.set j (.aR x' s (es++ys)))→ab P ops rest (aF x') ag Q):
  ab P ops (⟨some dst,.call ⟨.builtin .append,#[xo,yo],#[t1,t2]⟩,ty,pp,a,g⟩::rest) fr st Q:=by
 obtain⟨x',ag,q1,q2,q3⟩:=hH.append hj j9 h1 h2 h3 h4 h5 h6 h7 h8 hb hw;have QM:=hH.EV hj j9 h1 h2 h3 h4 h5 q1;refine ab.go hg rfl (d:=x') (st1:=ag) ?_ (hp _) (h x' ag (fun k hk=>?_) q2)
 ·simp only[dO,List.map_cons,List.map_nil,hx,hy];exact q1
 ·rcases QM k hk with h|h
  ·exact h0 k h
  ·exact h
def oC:D→D
 | .nul=>.sl []
 |d=>d
def nW (d:D):Bool:=match d with| .nul=>true|d=>cC d
theorem Af {st:St} {N n:Nat} {d:D} (h:nW d=true):eL st N (n+1) d=some (oC d):=by
 cases d<;>simp[nW,cC] at h<;>rfl
theorem sB {st:St} {N n:Nat}:∀{l:List D},(∀d∈l,nW d=true)→ju (eL st N (n+1)) l=some (l.map oC)
 |[],_=>rfl
 |d::l,h=>by simp only[ju,Af (h d (List.mem_cons_self ..)),sB (fun d hd=>h d (List.mem_cons_of_mem _ hd)),List.map_cons]
theorem Has.zE {L j:Nat} {x:D} {s:Nat} {es:List (List D)} (hH:Has N S st H) (hj:H[j]?=some (.aR x s es)) (hx:∀k,x.ref=k+1→L≤k) (hp:∀e∈es,∀d∈e,nW d=true) {n:Nat} (hn:3≤n):bQ st L false n x=some (.sl ((es.map (·.map oC)).map (lL s))):=by
 obtain⟨n,rfl⟩:∃m,n=m+3:=⟨n-3,by omega⟩
 have hown:=hH.own hj
 cases hown with
 |nul=>rfl
 |win k ay off es c hm hl hc he=>
  have hk:=hx k (by simp only[D.ref]);show(if k<L then some (D.win k ay off es.length s) else eL st L (n+2) (.win k ay off es.length s))=_;rw[if_neg (show¬k<L by omega),eL];simp only[if_neg (show¬k<L by omega),St.mem_of hm,Option.bind_some]
  rw[if_pos hl,hc,sB (fun d hd=>by
   obtain⟨e,oS,zz⟩:=List.mem_flatten.1 hd
   exact hp e oS d zz)]
  have h1:(es.map (·.map oC)).flatten=es.flatten.map oC:=by rw[List.map_flatten]
  have h2:(es.map (·.map oC)).length=es.length:=List.length_map _
  have h3:∀e∈es.map (·.map oC),e.length=s:=by
   intro e oS;obtain⟨e0,h0,rfl⟩:=List.mem_map.1 oS;rw[List.length_map];exact he e0 h0
  simp only[Option.map_some];rw[←h1,←h2,gy h3]
theorem ab.Kf {P:Pv} {ops:Array Oper} {rest:List Oper} {fr aF:Fr} {Q:Fr→St→Prop} {ty:TypeId} {pp:String} {a:Array Edge} {g:Option (Nat×Bool)} {dst:Nat} {t:TypeId} {xo io:Operand} {b:List UInt8} {kk:IntKind} {i:Nat} {c:UInt8} (hg:aB ops fr ⟨some dst,.index t xo io,ty,pp,a,g⟩=some true) (hx:fr.ev xo=.str b) (hi:fr.ev io=.int kk (i:Nat)) (ht:P.cL t=some .string) (hc:b[i]?=some c) (hp:fr.put dst (.int .u8 (c.toNat:Nat))=aF)
  (h:ab P ops rest aF st Q):ab P ops (⟨some dst,.index t xo io,ty,pp,a,g⟩::rest) fr st Q:=by
 refine ab.go hg rfl (d:=.int .u8 (c.toNat:Nat)) (st1:=st) ?_ hp h;simp only[dO,hx,hi,tU,ht];rw[if_pos (by omega),Int.toNat_natCast,hc];rfl
end Go.V
namespace Go.Proofs.Ytnleclohocdkaaa
open Go.V Go
def bu (c:Nat):Int×Nat×Nat:=
 if c<128 then(0,0,0) else if c<194 then(-1,0,0) else if c<224 then(1,128,191) else if c=224 then(2,160,191) else if c=237 then(2,128,159)
 else if c<240 then(2,128,191) else if c=240 then(3,144,191) else if c<244 then(3,128,191) else if c=244 then(3,128,143) else(-1,0,0)
theorem Eb (c:Nat) (st:St):Ev pv 85 [.int .u8 c] st (.tup [.int .i64 (bu c).1,.int .u8 (bu c).2.1,.int .u8 (bu c).2.2]) st:=by
 refine Ev.pJ rfl Ma rfl rfl rfl ?_;dsimp only[u3,u4,List.length,Nat.reduceSub,Nat.reduceAdd,w1,w2];(try refine qy ?_);(repeat refine qq ?_);(try generalize hK:bk _ _ _ _=K);refine af.c_ ?_;(repeat(first|refine xT ?_|refine xL ?_|refine xN ?_|refine xo ?_|refine xp ?_));refine ab.nil ?_;(try dsimp only[Fr.az,Fr.put,Fr.clean,Fr.ev,Fr.get,nth,V.look,u1,u2,v1,v2,v3,v4,v5,v6,v7,List.length,u3,u4,Nat.reduceSub,Nat.reduceAdd,List.map]);(try subst hK);(try refine qy ?_);refine af.seq (af.block ?_);(try refine qy ?_);(repeat refine qq ?_);(try generalize hK:bk _ _ _ _=K);refine af.c_ ?_;(repeat(first|refine xT ?_|refine xL ?_|refine xN ?_|refine xo ?_|refine xp ?_));refine ab.nil ?_;(try dsimp only[Fr.az,Fr.put,Fr.clean,Fr.ev,Fr.get,nth,V.look,u1,u2,v1,v2,v3,v4,v5,v6,v7,List.length,u3,u4,Nat.reduceSub,Nat.reduceAdd,List.map]);(try subst hK);(try refine qy ?_);(repeat refine qq ?_);refine qc (fun h1=>?_) (fun h1=>?_)<;>try simp only[cs] at h1
 ·(try refine qy ?_);(repeat refine qq ?_);(try generalize hK:bk _ _ _ _=K);refine af.c_ ?_;(repeat(first|refine xT ?_|refine xL ?_|refine xN ?_|refine xo ?_|refine xp ?_));refine ab.nil ?_;(try dsimp only[Fr.az,Fr.put,Fr.clean,Fr.ev,Fr.get,nth,V.look,u1,u2,v1,v2,v3,v4,v5,v6,v7,List.length,u3,u4,Nat.reduceSub,Nat.reduceAdd,List.map]);(try subst hK);(try refine qy ?_);refine af.ret ⟨rx,_,rfl,bL (by simp) (by simp[aj]) ?_⟩;rw[show bu c=(0,0,0) by unfold bu;rw[if_pos (by omega)]];rfl
 (try refine qy ?_);(repeat refine qq ?_);(try generalize hK:bk _ _ _ _=K);refine af.c_ ?_;(repeat(first|refine xT ?_|refine xL ?_|refine xN ?_|refine xo ?_|refine xp ?_));refine ab.nil ?_;(try dsimp only[Fr.az,Fr.put,Fr.clean,Fr.ev,Fr.get,nth,V.look,u1,u2,v1,v2,v3,v4,v5,v6,v7,List.length,u3,u4,Nat.reduceSub,Nat.reduceAdd,List.map]);(try subst hK);(try refine qy ?_);(repeat refine qq ?_);refine qc (fun h2=>?_) (fun h2=>?_)<;>try simp only[cs] at h2
 ·(try refine qy ?_);(repeat refine qq ?_);(try generalize hK:bk _ _ _ _=K);refine af.c_ ?_;(repeat(first|refine xT ?_|refine xL ?_|refine xN ?_|refine xo ?_|refine xp ?_));refine ab.nil ?_;(try dsimp only[Fr.az,Fr.put,Fr.clean,Fr.ev,Fr.get,nth,V.look,u1,u2,v1,v2,v3,v4,v5,v6,v7,List.length,u3,u4,Nat.reduceSub,Nat.reduceAdd,List.map]);(try subst hK);(try refine qy ?_);refine af.ret ⟨rx,_,rfl,bL (by simp) (by simp[aj]) ?_⟩;rw[show bu c=(-1,0,0) by unfold bu;rw[if_neg (by omega),if_pos (by omega)]];rfl
 (try refine qy ?_);(repeat refine qq ?_);(try generalize hK:bk _ _ _ _=K);refine af.c_ ?_;(repeat(first|refine xT ?_|refine xL ?_|refine xN ?_|refine xo ?_|refine xp ?_));refine ab.nil ?_;(try dsimp only[Fr.az,Fr.put,Fr.clean,Fr.ev,Fr.get,nth,V.look,u1,u2,v1,v2,v3,v4,v5,v6,v7,List.length,u3,u4,Nat.reduceSub,Nat.reduceAdd,List.map]);(try subst hK);(try refine qy ?_);(repeat refine qq ?_);refine qc (fun h3=>?_) (fun h3=>?_)<;>try simp only[cs] at h3
 ·(try refine qy ?_);(repeat refine qq ?_);(try generalize hK:bk _ _ _ _=K);refine af.c_ ?_;(repeat(first|refine xT ?_|refine xL ?_|refine xN ?_|refine xo ?_|refine xp ?_));refine ab.nil ?_;(try dsimp only[Fr.az,Fr.put,Fr.clean,Fr.ev,Fr.get,nth,V.look,u1,u2,v1,v2,v3,v4,v5,v6,v7,List.length,u3,u4,Nat.reduceSub,Nat.reduceAdd,List.map]);(try subst hK);(try refine qy ?_);refine af.ret ⟨rx,_,rfl,bL (by simp) (by simp[aj]) ?_⟩;rw[show bu c=(1,128,191) by unfold bu;rw[if_neg (by omega),if_neg (by omega),if_pos (by omega)]];rfl
 (try refine qy ?_);(repeat refine qq ?_);(try generalize hK:bk _ _ _ _=K);refine af.c_ ?_;(repeat(first|refine xT ?_|refine xL ?_|refine xN ?_|refine xo ?_|refine xp ?_));refine ab.nil ?_;(try dsimp only[Fr.az,Fr.put,Fr.clean,Fr.ev,Fr.get,nth,V.look,u1,u2,v1,v2,v3,v4,v5,v6,v7,List.length,u3,u4,Nat.reduceSub,Nat.reduceAdd,List.map]);(try subst hK);(try refine qy ?_);(repeat refine qq ?_);refine qc (fun h4=>?_) (fun h4=>?_)<;>try simp only[cs] at h4
 ·(try refine qy ?_);(repeat refine qq ?_);(try generalize hK:bk _ _ _ _=K);refine af.c_ ?_;(repeat(first|refine xT ?_|refine xL ?_|refine xN ?_|refine xo ?_|refine xp ?_));refine ab.nil ?_;(try dsimp only[Fr.az,Fr.put,Fr.clean,Fr.ev,Fr.get,nth,V.look,u1,u2,v1,v2,v3,v4,v5,v6,v7,List.length,u3,u4,Nat.reduceSub,Nat.reduceAdd,List.map]);(try subst hK);(try refine qy ?_);refine af.ret ⟨rx,_,rfl,bL (by simp) (by simp[aj]) ?_⟩;rw[show bu c=(2,160,191) by unfold bu;rw[if_neg (by omega),if_neg (by omega),if_neg (by omega),if_pos (by omega)]];rfl
 (try refine qy ?_);(repeat refine qq ?_);(try generalize hK:bk _ _ _ _=K);refine af.c_ ?_;(repeat(first|refine xT ?_|refine xL ?_|refine xN ?_|refine xo ?_|refine xp ?_));refine ab.nil ?_;(try dsimp only[Fr.az,Fr.put,Fr.clean,Fr.ev,Fr.get,nth,V.look,u1,u2,v1,v2,v3,v4,v5,v6,v7,List.length,u3,u4,Nat.reduceSub,Nat.reduceAdd,List.map]);(try subst hK);(try refine qy ?_);(repeat refine qq ?_);refine qc (fun h5=>?_) (fun h5=>?_)<;>try simp only[cs] at h5
 ·(try refine qy ?_);(repeat refine qq ?_);(try generalize hK:bk _ _ _ _=K);refine af.c_ ?_;(repeat(first|refine xT ?_|refine xL ?_|refine xN ?_|refine xo ?_|refine xp ?_));refine ab.nil ?_;(try dsimp only[Fr.az,Fr.put,Fr.clean,Fr.ev,Fr.get,nth,V.look,u1,u2,v1,v2,v3,v4,v5,v6,v7,List.length,u3,u4,Nat.reduceSub,Nat.reduceAdd,List.map]);(try subst hK);(try refine qy ?_);refine af.ret ⟨rx,_,rfl,bL (by simp) (by simp[aj]) ?_⟩;rw[show bu c=(2,128,159) by unfold bu;rw[if_neg (by omega),if_neg (by omega),if_neg (by omega),if_neg (by omega),if_pos (by omega)]];rfl
 (try refine qy ?_);(repeat refine qq ?_);(try generalize hK:bk _ _ _ _=K);refine af.c_ ?_;(repeat(first|refine xT ?_|refine xL ?_|refine xN ?_|refine xo ?_|refine xp ?_));refine ab.nil ?_;(try dsimp only[Fr.az,Fr.put,Fr.clean,Fr.ev,Fr.get,nth,V.look,u1,u2,v1,v2,v3,v4,v5,v6,v7,List.length,u3,u4,Nat.reduceSub,Nat.reduceAdd,List.map]);(try subst hK);(try refine qy ?_);(repeat refine qq ?_);refine qc (fun h6=>?_) (fun h6=>?_)<;>try simp only[cs] at h6
 ·(try refine qy ?_);(repeat refine qq ?_);(try generalize hK:bk _ _ _ _=K);refine af.c_ ?_;(repeat(first|refine xT ?_|refine xL ?_|refine xN ?_|refine xo ?_|refine xp ?_));refine ab.nil ?_;(try dsimp only[Fr.az,Fr.put,Fr.clean,Fr.ev,Fr.get,nth,V.look,u1,u2,v1,v2,v3,v4,v5,v6,v7,List.length,u3,u4,Nat.reduceSub,Nat.reduceAdd,List.map]);(try subst hK);(try refine qy ?_);refine af.ret ⟨rx,_,rfl,bL (by simp) (by simp[aj]) ?_⟩;rw[show bu c=(2,128,191) by unfold bu;rw[if_neg (by omega),if_neg (by omega),if_neg (by omega),if_neg (by omega),if_neg (by omega),if_pos (by omega)]];rfl
 (try refine qy ?_);(repeat refine qq ?_);(try generalize hK:bk _ _ _ _=K);refine af.c_ ?_;(repeat(first|refine xT ?_|refine xL ?_|refine xN ?_|refine xo ?_|refine xp ?_));refine ab.nil ?_;(try dsimp only[Fr.az,Fr.put,Fr.clean,Fr.ev,Fr.get,nth,V.look,u1,u2,v1,v2,v3,v4,v5,v6,v7,List.length,u3,u4,Nat.reduceSub,Nat.reduceAdd,List.map]);(try subst hK);(try refine qy ?_);(repeat refine qq ?_);refine qc (fun h7=>?_) (fun h7=>?_)<;>try simp only[cs] at h7
 ·(try refine qy ?_);(repeat refine qq ?_);(try generalize hK:bk _ _ _ _=K);refine af.c_ ?_;(repeat(first|refine xT ?_|refine xL ?_|refine xN ?_|refine xo ?_|refine xp ?_));refine ab.nil ?_;(try dsimp only[Fr.az,Fr.put,Fr.clean,Fr.ev,Fr.get,nth,V.look,u1,u2,v1,v2,v3,v4,v5,v6,v7,List.length,u3,u4,Nat.reduceSub,Nat.reduceAdd,List.map]);(try subst hK);(try refine qy ?_);refine af.ret ⟨rx,_,rfl,bL (by simp) (by simp[aj]) ?_⟩;rw[show bu c=(3,144,191) by unfold bu;rw[if_neg (by omega),if_neg (by omega),if_neg (by omega),if_neg (by omega),if_neg (by omega),if_neg (by omega),if_pos (by omega)]];rfl
 (try refine qy ?_);(repeat refine qq ?_);(try generalize hK:bk _ _ _ _=K);refine af.c_ ?_;(repeat(first|refine xT ?_|refine xL ?_|refine xN ?_|refine xo ?_|refine xp ?_));refine ab.nil ?_;(try dsimp only[Fr.az,Fr.put,Fr.clean,Fr.ev,Fr.get,nth,V.look,u1,u2,v1,v2,v3,v4,v5,v6,v7,List.length,u3,u4,Nat.reduceSub,Nat.reduceAdd,List.map]);(try subst hK);(try refine qy ?_);(repeat refine qq ?_);refine qc (fun h8=>?_) (fun h8=>?_)<;>try simp only[cs] at h8
 ·(try refine qy ?_);(repeat refine qq ?_);(try generalize hK:bk _ _ _ _=K);refine af.c_ ?_;(repeat(first|refine xT ?_|refine xL ?_|refine xN ?_|refine xo ?_|refine xp ?_));refine ab.nil ?_;(try dsimp only[Fr.az,Fr.put,Fr.clean,Fr.ev,Fr.get,nth,V.look,u1,u2,v1,v2,v3,v4,v5,v6,v7,List.length,u3,u4,Nat.reduceSub,Nat.reduceAdd,List.map]);(try subst hK);(try refine qy ?_);refine af.ret ⟨rx,_,rfl,bL (by simp) (by simp[aj]) ?_⟩;rw[show bu c=(3,128,191) by unfold bu;rw[if_neg (by omega),if_neg (by omega),if_neg (by omega),if_neg (by omega),if_neg (by omega),if_neg (by omega),if_neg (by omega),if_pos (by omega)]];rfl
 (try refine qy ?_);(repeat refine qq ?_);(try generalize hK:bk _ _ _ _=K);refine af.c_ ?_;(repeat(first|refine xT ?_|refine xL ?_|refine xN ?_|refine xo ?_|refine xp ?_));refine ab.nil ?_;(try dsimp only[Fr.az,Fr.put,Fr.clean,Fr.ev,Fr.get,nth,V.look,u1,u2,v1,v2,v3,v4,v5,v6,v7,List.length,u3,u4,Nat.reduceSub,Nat.reduceAdd,List.map]);(try subst hK);(try refine qy ?_);(repeat refine qq ?_);refine qc (fun h9=>?_) (fun h9=>?_)<;>try simp only[cs] at h9
 ·(try refine qy ?_);(repeat refine qq ?_);(try generalize hK:bk _ _ _ _=K);refine af.c_ ?_;(repeat(first|refine xT ?_|refine xL ?_|refine xN ?_|refine xo ?_|refine xp ?_));refine ab.nil ?_;(try dsimp only[Fr.az,Fr.put,Fr.clean,Fr.ev,Fr.get,nth,V.look,u1,u2,v1,v2,v3,v4,v5,v6,v7,List.length,u3,u4,Nat.reduceSub,Nat.reduceAdd,List.map]);(try subst hK);(try refine qy ?_);refine af.ret ⟨rx,_,rfl,bL (by simp) (by simp[aj]) ?_⟩;rw[show bu c=(3,128,143) by unfold bu;rw[if_neg (by omega),if_neg (by omega),if_neg (by omega),if_neg (by omega),if_neg (by omega),if_neg (by omega),if_neg (by omega),if_neg (by omega),if_pos (by omega)]];rfl
 refine af.skip ?_;(try refine qy ?_);(repeat refine qq ?_);(try generalize hK:bk _ _ _ _=K);refine af.c_ ?_;(repeat(first|refine xT ?_|refine xL ?_|refine xN ?_|refine xo ?_|refine xp ?_));refine ab.nil ?_;(try dsimp only[Fr.az,Fr.put,Fr.clean,Fr.ev,Fr.get,nth,V.look,u1,u2,v1,v2,v3,v4,v5,v6,v7,List.length,u3,u4,Nat.reduceSub,Nat.reduceAdd,List.map]);(try subst hK);(try refine qy ?_);refine af.ret ⟨rx,_,rfl,bL (by simp) (by simp[aj]) ?_⟩;rw[show bu c=(-1,0,0) by unfold bu;rw[if_neg (by omega),if_neg (by omega),if_neg (by omega),if_neg (by omega),if_neg (by omega),if_neg (by omega),if_neg (by omega),if_neg (by omega),if_neg (by omega)]];rfl
def dM:(left n r lo hi:Nat)→List UInt8→Nat×Nat×Bool
 |0,n,r,_,_,_=>(r,n,false)
 |left+1,n,r,lo,hi,[]=>(0,0,true)
 |left+1,n,r,lo,hi,x::xs=>if x.toNat<lo∨hi<x.toNat then(0,0,false) else dM left n (r*64+x.toNat %64) 128 191 xs
def eC:List UInt8→Nat×Nat×Bool
 |[]=>(0,0,false)
 |c::xs=>if(bu c.toNat).1<0 then(0,0,false)
   else dM (bu c.toNat).1.toNat ((bu c.toNat).1.toNat+1) (if(bu c.toNat).1>0 then c.toNat %(64/2^(bu c.toNat).1.toNat) else c.toNat) (bu c.toNat).2.1 (bu c.toNat).2.2 xs
theorem vQ (c:Nat):(bu c).1=-1∨(bu c).1=0∨(bu c).1=1∨(bu c).1=2∨(bu c).1=3:=by
 unfold bu
 repeat' split
 all_goals simp
theorem zR {w a j:Nat} (ha:a<2^w) (hj:2^j-1<2^w):(BitVec.ofInt w (a:Int) &&&BitVec.ofInt w ((2^j-1:Nat):Int)).toNat=a %2^j:=by
 rw[bv_and ha hj,Nat.and_two_pow_sub_one_eq_mod]
theorem gE (b:List UInt8):(V.byteCells b).length=b.length:=by simp[V.byteCells]
theorem rN {b:List UInt8} {i:Nat} {y:UInt8} (h:b[i]?=some y):(V.byteCells b)[i]?=some [.int .u8 (y.toNat:Nat)]:=by
 simp[V.byteCells,h]
theorem E5 (y:UInt8):y.toNat<256:=y.toNat_lt
theorem Ke {r y:Nat} (hr:r<33554432) (hy:y<256):bO .i32 ((BitVec.ofInt 32 (bO .i32 ((r:Int)*2^(min (Int.toNat 6) 32)))|||BitVec.ofInt 32 (bO .i32 (bO .u8 ((BitVec.ofInt 8 (y:Int) &&&BitVec.ofInt 8 63).toNat:Nat)))).toNat:Nat)=((r*64+y %64:Nat):Int):=by
 have h1:(BitVec.ofInt 8 (y:Int) &&&BitVec.ofInt 8 63).toNat=y %64:=zR (w:=8) (j:=6) hy (by decide);rw[h1]
 have h2:((r:Int)*2^(min (Int.toNat 6) 32))=((r*64:Nat):Int):=by
  have:(2:Int)^(min (Int.toNat 6) 32)=64:=by decide
  rw[this];simp
 rw[h2,ei (k:=.i32) (m:=r*64) (by simp only[lA];omega),ei (k:=.u8) (m:=y %64) (by simp only[lA];omega),ei (k:=.i32) (m:=y %64) (by simp only[lA];omega)];rw[Jw (by omega) (by omega)]
 have h3:(r*64)|||(y %64)=r*64+y %64:=by
  have:=Nat.two_pow_add_eq_or_of_lt (i:=6) (b:=y %64) (by omega) r;have e:(2:Nat)^6=64:=by decide
  rw[e] at this;rw[Nat.mul_comm r 64,this]
 rw[h3,ei (k:=.i32) (m:=r*64+y %64) (by simp only[lA];omega)]
theorem HP {c j:Nat} (hc:c<256) (hj:j≤8) {m:Int} (hm:m=((2^j-1:Nat):Int)):bO .i32 ((BitVec.ofInt 32 (bO .i32 (c:Nat)) &&&BitVec.ofInt 32 m).toNat:Nat)=((c %2^j:Nat):Int):=by
 have h1:2^j≤2^8:=Nat.pow_le_pow_right (by omega) hj;rw[hm,ei (k:=.i32) (m:=c) (by simp only[lA];omega),zR (w:=32) (by omega) (by omega)];have:c %2^j≤c:=Nat.mod_le _ _;rw[ei (k:=.i32) (by simp only[lA];omega)]
theorem mask {c j:Nat} (hc:c<256) (hj:j≤8) {m:Int} (hm:m=((2^j-1:Nat):Int)):bO .i32 ((BitVec.ofInt IntKind.i32.bits (bO .i32 (c:Nat)) &&&BitVec.ofInt IntKind.i32.bits m).toNat:Nat)=((c %2^j:Nat):Int):=HP hc hj hm
theorem N_ {r y:Nat} (hr:r<33554432) (hy:y<256):bO .i32 ((BitVec.ofInt IntKind.i32.bits (bO .i32 ((r:Int)*2^(min (Int.toNat 6) IntKind.i32.bits)))|||BitVec.ofInt IntKind.i32.bits (bO .i32 (bO .u8 ((BitVec.ofInt IntKind.u8.bits (y:Int) &&&BitVec.ofInt IntKind.u8.bits 63).toNat:Nat)))).toNat:Nat)=((r*64+y %64:Nat):Int):=Ke hr hy
theorem C3 {st:St} {x:D} {b:List UInt8} (hb:Bytes st x b):Ev pv 61 [x] st (.tup [.int .i32 ((eC b).1:Nat),.int .i64 ((eC b).2.1:Nat),.bool (eC b).2.2]) st:=by
 refine Ev.pJ rfl Mi rfl rfl rfl ?_;dsimp only[u3,u4,List.length,Nat.reduceSub,Nat.reduceAdd,w1,w2];have ec:=hb.enter .ro;(try refine qy ?_);(repeat refine qq ?_);(try generalize hK:bk _ _ _ _=K);refine af.c_ ?_;(repeat(first|refine xT ?_|refine xL ?_|refine xN ?_|refine xo ?_|refine xp ?_));refine ab.nil ?_;(try dsimp only[Fr.az,Fr.put,Fr.clean,Fr.ev,Fr.get,nth,V.look,u1,u2,v1,v2,v3,v4,v5,v6,v7,List.length,u3,u4,Nat.reduceSub,Nat.reduceAdd,List.map]);(try subst hK);(try refine qy ?_);(repeat refine qq ?_);(try generalize hK:bk _ _ _ _=K);refine af.c_ ?_
 (first|refine xT ?_|refine xL ?_|refine xN ?_|refine xo ?_|refine xp ?_)
 refine ab.len rfl rfl rfl ec rfl ?_;(repeat(first|refine xT ?_|refine xL ?_|refine xN ?_|refine xo ?_|refine xp ?_));refine ab.nil ?_;(try dsimp only[Fr.az,Fr.put,Fr.clean,Fr.ev,Fr.get,nth,V.look,u1,u2,v1,v2,v3,v4,v5,v6,v7,List.length,u3,u4,Nat.reduceSub,Nat.reduceAdd,List.map]);(try subst hK);(try refine qy ?_);(repeat refine qq ?_);refine qc (fun h1=>?_) (fun h1=>?_)<;>try simp only[cs] at h1
 ·(try refine qy ?_);(repeat refine qq ?_);(try generalize hK:bk _ _ _ _=K);refine af.c_ ?_;(repeat(first|refine xT ?_|refine xL ?_|refine xN ?_|refine xo ?_|refine xp ?_));refine ab.nil ?_;(try dsimp only[Fr.az,Fr.put,Fr.clean,Fr.ev,Fr.get,nth,V.look,u1,u2,v1,v2,v3,v4,v5,v6,v7,List.length,u3,u4,Nat.reduceSub,Nat.reduceAdd,List.map]);(try subst hK);(try refine qy ?_);refine af.ret ⟨rx,_,rfl,bL (by simp) (by simp[aj]) ?_⟩
  obtain rfl:b=[]:=by cases b with|nil=>rfl|cons c b=>simp[V.byteCells] at h1;omega
  rfl
 refine af.skip ?_
 obtain⟨c,xs,rfl⟩:∃c xs,b=c::xs:=by cases b with|nil=>simp[V.byteCells] at h1|cons c b=>exact⟨c,b,rfl⟩
 obtain⟨k,lo,hi,hm⟩:∃k lo hi,bu c.toNat=(k,lo,hi):=⟨_,_,_,rfl⟩
 have Lp:=Eb c.toNat (aj .ro st);rw[hm] at Lp;have hk:=vQ c.toNat;rw[hm] at hk;have hc:=E5 c;(try refine qy ?_);(repeat refine qq ?_);(try generalize hK:bk _ _ _ _=K);refine af.c_ ?_
 (first|refine xT ?_|refine xL ?_|refine xN ?_|refine xo ?_|refine xp ?_)
 refine ab.iQ rfl rfl rfl (fun _=>rfl) rfl rfl ec rfl rfl (by omega) rfl rfl (fun p=>?_);refine ab.Fv rfl rfl rfl Lp ?_;(repeat(first|refine xT ?_|refine xL ?_|refine xN ?_|refine xo ?_|refine xp ?_));refine ab.nil ?_;(try dsimp only[Fr.az,Fr.put,Fr.clean,Fr.ev,Fr.get,nth,V.look,u1,u2,v1,v2,v3,v4,v5,v6,v7,List.length,u3,u4,Nat.reduceSub,Nat.reduceAdd,List.map]);(try subst hK);(try refine qy ?_);(repeat refine qq ?_);(try generalize hK:bk _ _ _ _=K);refine af.c_ ?_;(repeat(first|refine xT ?_|refine xL ?_|refine xN ?_|refine xo ?_|refine xp ?_));refine ab.nil ?_;(try dsimp only[Fr.az,Fr.put,Fr.clean,Fr.ev,Fr.get,nth,V.look,u1,u2,v1,v2,v3,v4,v5,v6,v7,List.length,u3,u4,Nat.reduceSub,Nat.reduceAdd,List.map]);(try subst hK);(try refine qy ?_);(repeat refine qq ?_);refine qc (fun h2=>?_) (fun h2=>?_)<;>try simp only[cs] at h2
 ·(try refine qy ?_);(repeat refine qq ?_);(try generalize hK:bk _ _ _ _=K);refine af.c_ ?_;(repeat(first|refine xT ?_|refine xL ?_|refine xN ?_|refine xo ?_|refine xp ?_));refine ab.nil ?_;(try dsimp only[Fr.az,Fr.put,Fr.clean,Fr.ev,Fr.get,nth,V.look,u1,u2,v1,v2,v3,v4,v5,v6,v7,List.length,u3,u4,Nat.reduceSub,Nat.reduceAdd,List.map]);(try subst hK);(try refine qy ?_);refine af.ret ⟨rx,_,rfl,bL (by simp) (by simp[aj]) ?_⟩;simp only[eC,hm];rw[if_pos h2];rfl
 refine af.skip ?_;(try refine qy ?_);(repeat refine qq ?_);(try generalize hK:bk _ _ _ _=K);refine af.c_ ?_
 (first|refine xT ?_|refine xL ?_|refine xN ?_|refine xo ?_|refine xp ?_)
 refine ab.iQ rfl rfl rfl (fun _=>rfl) rfl rfl ec rfl rfl (by omega) rfl rfl (fun p=>?_);(repeat(first|refine xT ?_|refine xL ?_|refine xN ?_|refine xo ?_|refine xp ?_));refine ab.nil ?_;(try dsimp only[Fr.az,Fr.put,Fr.clean,Fr.ev,Fr.get,nth,V.look,u1,u2,v1,v2,v3,v4,v5,v6,v7,List.length,u3,u4,Nat.reduceSub,Nat.reduceAdd,List.map]);(try subst hK);(try refine qy ?_);(repeat refine qq ?_);(try generalize hK:bk _ _ _ _=K);refine af.c_ ?_;(repeat(first|refine xT ?_|refine xL ?_|refine xN ?_|refine xo ?_|refine xp ?_));refine ab.nil ?_;(try dsimp only[Fr.az,Fr.put,Fr.clean,Fr.ev,Fr.get,nth,V.look,u1,u2,v1,v2,v3,v4,v5,v6,v7,List.length,u3,u4,Nat.reduceSub,Nat.reduceAdd,List.map]);(try subst hK);(try refine qy ?_);generalize hK:bk _ _ _ _=K
 have H:∀(r kn:Nat) (m:List (Nat×D)),k=(kn:Int)→r=(if k>0 then c.toNat %(64/2^k.toNat) else c.toNat)→(r+1)*64^kn≤2097152→K .next ⟨9,[x,.tup [],.int .i32 r,.int .i64 0,.bool false,.int .i64 k,.int .u8 lo,.int .u8 hi,.tup []],m⟩ (aj .ro st):=by
  intro r kn m hkn hr m_
  have hR:eC (c::xs)=dM kn (kn+1) r lo hi xs:=by
   simp only[eC,hm];rw[if_neg h2,hr,hkn];rfl
  subst hK;rw[hR];generalize hS:dM kn (kn+1) r lo hi xs=R at hR⊢;subst hkn;(try refine qy ?_);(repeat refine qq ?_);(try generalize hK:bk _ _ _ _=K);refine af.c_ ?_;(repeat(first|refine xT ?_|refine xL ?_|refine xN ?_|refine xo ?_|refine xp ?_));refine ab.nil ?_;(try dsimp only[Fr.az,Fr.put,Fr.clean,Fr.ev,Fr.get,nth,V.look,u1,u2,v1,v2,v3,v4,v5,v6,v7,List.length,u3,u4,Nat.reduceSub,Nat.reduceAdd,List.map]);(try subst hK);(try refine qy ?_);refine af.block<|af.loop (fun j fr ag=>∃(i r lo hi:Nat),fr.clean=⟨9,[x,.tup [],.int .i32 r,.int .i64 0,.bool false,.int .i64 kn,.int .u8 lo,.int .u8 hi,.int .i64 (i:Nat)],[]⟩∧ag=aj .ro st∧1≤i∧i+j=kn+1∧dM j (kn+1) r lo hi (xs.drop (i-1))=R∧(r+1)*64^j≤2097152) kn ⟨1,r,lo,hi,rfl,rfl,by omega,by omega,hS,m_⟩ ?_;clear hr m_ hS r hm Lp m;rintro j fr ag ⟨i,r,lo,hi,hfr,rfl,RR,hij,hS,m_⟩;rw[hfr];(try refine qy ?_);(repeat refine qq ?_);(try generalize hK:bk _ _ _ _=K);refine af.c_ ?_;(repeat(first|refine xT ?_|refine xL ?_|refine xN ?_|refine xo ?_|refine xp ?_));refine ab.nil ?_;(try dsimp only[Fr.az,Fr.put,Fr.clean,Fr.ev,Fr.get,nth,V.look,u1,u2,v1,v2,v3,v4,v5,v6,v7,List.length,u3,u4,Nat.reduceSub,Nat.reduceAdd,List.map]);(try subst hK);(try refine qy ?_);(repeat refine qq ?_);refine qc (fun h4=>?_) (fun h4=>?_)<;>try simp only[cs] at h4
  ·refine af.skip ?_
   obtain⟨j,rfl⟩:∃j',j=j'+1:=⟨j-1,by omega⟩
   refine af.seq (af.block ?_);(try refine qy ?_);(repeat refine qq ?_);(try generalize hK:bk _ _ _ _=K);refine af.c_ ?_
   (first|refine xT ?_|refine xL ?_|refine xN ?_|refine xo ?_|refine xp ?_)
   (first|refine xT ?_|refine xL ?_|refine xN ?_|refine xo ?_|refine xp ?_)
   refine ab.len rfl rfl rfl ec rfl ?_;(repeat(first|refine xT ?_|refine xL ?_|refine xN ?_|refine xo ?_|refine xp ?_));refine ab.nil ?_;(try dsimp only[Fr.az,Fr.put,Fr.clean,Fr.ev,Fr.get,nth,V.look,u1,u2,v1,v2,v3,v4,v5,v6,v7,List.length,u3,u4,Nat.reduceSub,Nat.reduceAdd,List.map]);(try subst hK);(try refine qy ?_)
   have Bm:(xs.drop (i-1))=[]∨∃y ys,xs.drop (i-1)=y::ys:=by
    cases xs.drop (i-1) with
    |nil=>exact .inl rfl
    |cons y ys=>exact .inr ⟨y,ys,rfl⟩
   have JK:(xs.drop (i-1)).length=xs.length-(i-1):=List.length_drop ..;have hbl:(V.byteCells (c::xs)).length=xs.length+1:=by simp[V.byteCells]
   (try refine qy ?_);(repeat refine qq ?_);refine qc (fun h5=>?_) (fun h5=>?_)<;>try simp only[cs] at h5
   ·(try refine qy ?_);(repeat refine qq ?_);(try generalize hK:bk _ _ _ _=K);refine af.c_ ?_;(repeat(first|refine xT ?_|refine xL ?_|refine xN ?_|refine xo ?_|refine xp ?_));refine ab.nil ?_;(try dsimp only[Fr.az,Fr.put,Fr.clean,Fr.ev,Fr.get,nth,V.look,u1,u2,v1,v2,v3,v4,v5,v6,v7,List.length,u3,u4,Nat.reduceSub,Nat.reduceAdd,List.map]);(try subst hK);(try refine qy ?_);refine af.ret ⟨rx,_,rfl,bL (by simp) (by simp[aj]) ?_⟩
    rcases Bm with Bm|⟨y,ys,Bm⟩
    ·rw[Bm] at hS;simp only[dM] at hS;subst hS;rfl
    ·rw[Bm] at JK;simp only[List.length_cons] at JK;omega
   refine af.skip ?_
   rcases Bm with Bm|⟨y,ys,Bm⟩
   ·rw[Bm] at JK;simp only[List.length_nil] at JK;omega
   have hy:(c::xs)[i]?=some y:=by
    obtain⟨i,rfl⟩:∃i',i=i'+1:=⟨i-1,by omega⟩
    have:=congrArg (fun l=>l[0]?) Bm
    simpa using this
   have j9:xs.drop (i+1-1)=ys:=by
    have:=congrArg (fun l=>l.drop 1) Bm;simp only[List.drop_drop,List.drop_succ_cons,List.drop_zero] at this;rw[←this];congr 1;omega
   have KB:=rN hy;have OJ:=E5 y;rw[Bm] at hS;simp only[dM] at hS;(try refine qy ?_);(repeat refine qq ?_);(try generalize hK:bk _ _ _ _=K);refine af.c_ ?_
   (first|refine xT ?_|refine xL ?_|refine xN ?_|refine xo ?_|refine xp ?_)
   (first|refine xT ?_|refine xL ?_|refine xN ?_|refine xo ?_|refine xp ?_)
   refine ab.iQ rfl rfl rfl (fun _=>rfl) rfl rfl ec rfl rfl (by omega) KB rfl (fun p=>?_)
   (first|refine xT ?_|refine xL ?_|refine xN ?_|refine xo ?_|refine xp ?_)
   (first|refine xT ?_|refine xL ?_|refine xN ?_|refine xo ?_|refine xp ?_)
   (first|refine xT ?_|refine xL ?_|refine xN ?_|refine xo ?_|refine xp ?_)
   by_cases wm:(y.toNat:Int)<(lo:Int)
   ·rw[decide_eq_true wm];(repeat(first|refine xT ?_|refine xL ?_|refine xN ?_|refine xo ?_|refine xp ?_));refine ab.nil ?_;(try dsimp only[Fr.az,Fr.put,Fr.clean,Fr.ev,Fr.get,nth,V.look,u1,u2,v1,v2,v3,v4,v5,v6,v7,List.length,u3,u4,Nat.reduceSub,Nat.reduceAdd,List.map]);(try subst hK);(try refine qy ?_);refine af.cond (v:=true) rfl (fun _=>?_) (fun h=>by cases h);(try refine qy ?_);(repeat refine qq ?_);(try generalize hK:bk _ _ _ _=K);refine af.c_ ?_;(repeat(first|refine xT ?_|refine xL ?_|refine xN ?_|refine xo ?_|refine xp ?_));refine ab.nil ?_;(try dsimp only[Fr.az,Fr.put,Fr.clean,Fr.ev,Fr.get,nth,V.look,u1,u2,v1,v2,v3,v4,v5,v6,v7,List.length,u3,u4,Nat.reduceSub,Nat.reduceAdd,List.map]);(try subst hK);(try refine qy ?_);refine af.ret ⟨rx,_,rfl,bL (by simp) (by simp[aj]) ?_⟩;rw[if_pos (.inl (by omega))] at hS;subst hS;rfl
   rw[decide_eq_false wm]
   (first|refine xT ?_|refine xL ?_|refine xN ?_|refine xo ?_|refine xp ?_)
   (first|refine xT ?_|refine xL ?_|refine xN ?_|refine xo ?_|refine xp ?_)
   refine ab.iQ rfl rfl rfl (fun _=>rfl) rfl rfl ec rfl rfl (by omega) KB rfl (fun p=>?_);(repeat(first|refine xT ?_|refine xL ?_|refine xN ?_|refine xo ?_|refine xp ?_));refine ab.nil ?_;(try dsimp only[Fr.az,Fr.put,Fr.clean,Fr.ev,Fr.get,nth,V.look,u1,u2,v1,v2,v3,v4,v5,v6,v7,List.length,u3,u4,Nat.reduceSub,Nat.reduceAdd,List.map]);(try subst hK);(try refine qy ?_);(repeat refine qq ?_);refine qc (fun h6=>?_) (fun h6=>?_)<;>try simp only[cs] at h6
   ·(try refine qy ?_);(repeat refine qq ?_);(try generalize hK:bk _ _ _ _=K);refine af.c_ ?_;(repeat(first|refine xT ?_|refine xL ?_|refine xN ?_|refine xo ?_|refine xp ?_));refine ab.nil ?_;(try dsimp only[Fr.az,Fr.put,Fr.clean,Fr.ev,Fr.get,nth,V.look,u1,u2,v1,v2,v3,v4,v5,v6,v7,List.length,u3,u4,Nat.reduceSub,Nat.reduceAdd,List.map]);(try subst hK);(try refine qy ?_);refine af.ret ⟨rx,_,rfl,bL (by simp) (by simp[aj]) ?_⟩;rw[if_pos (.inr (by omega))] at hS;subst hS;rfl
   refine af.skip ?_;rw[if_neg (by omega)] at hS;(try refine qy ?_);(repeat refine qq ?_);(try generalize hK:bk _ _ _ _=K);refine af.c_ ?_
   (first|refine xT ?_|refine xL ?_|refine xN ?_|refine xo ?_|refine xp ?_)
   (first|refine xT ?_|refine xL ?_|refine xN ?_|refine xo ?_|refine xp ?_)
   (first|refine xT ?_|refine xL ?_|refine xN ?_|refine xo ?_|refine xp ?_)
   (first|refine xT ?_|refine xL ?_|refine xN ?_|refine xo ?_|refine xp ?_)
   refine ab.iQ rfl rfl rfl (fun _=>rfl) rfl rfl ec rfl rfl (by omega) KB rfl (fun p=>?_);(repeat(first|refine xT ?_|refine xL ?_|refine xN ?_|refine xo ?_|refine xp ?_));refine ab.nil ?_;(try dsimp only[Fr.az,Fr.put,Fr.clean,Fr.ev,Fr.get,nth,V.look,u1,u2,v1,v2,v3,v4,v5,v6,v7,List.length,u3,u4,Nat.reduceSub,Nat.reduceAdd,List.map]);(try subst hK);(try refine qy ?_);have O8:r+1≤(r+1)*64^(j+1):=Nat.le_mul_of_pos_right _ (Nat.pow_pos (by omega));rw[N_ (by omega) OJ];(try refine qy ?_);(repeat refine qq ?_);(try generalize hK:bk _ _ _ _=K);refine af.c_ ?_;(repeat(first|refine xT ?_|refine xL ?_|refine xN ?_|refine xo ?_|refine xp ?_));refine ab.nil ?_;(try dsimp only[Fr.az,Fr.put,Fr.clean,Fr.ev,Fr.get,nth,V.look,u1,u2,v1,v2,v3,v4,v5,v6,v7,List.length,u3,u4,Nat.reduceSub,Nat.reduceAdd,List.map]);(try subst hK);(try refine qy ?_);(repeat refine qq ?_);(try generalize hK:bk _ _ _ _=K);refine af.c_ ?_;(repeat(first|refine xT ?_|refine xL ?_|refine xN ?_|refine xo ?_|refine xp ?_));refine ab.nil ?_;(try dsimp only[Fr.az,Fr.put,Fr.clean,Fr.ev,Fr.get,nth,V.look,u1,u2,v1,v2,v3,v4,v5,v6,v7,List.length,u3,u4,Nat.reduceSub,Nat.reduceAdd,List.map]);(try subst hK);(try refine qy ?_);rw[wrap_i64 (by omega) (by omega)];refine⟨j,by omega,i+1,_,_,_,rfl,rfl,by omega,by omega,by rw[j9];exact hS,?_⟩;have e1:(r*64+y.toNat %64+1)≤(r+1)*64:=by omega
   have e2:=Nat.mul_le_mul_right (64^j) e1;have e3:64*64^j=64^(j+1):=by rw[Nat.pow_succ,Nat.mul_comm]
   rw[Nat.mul_assoc,e3] at e2;omega
  ·refine af.exit ?_;have:j=0:=by omega
   subst this;simp only[dM] at hS;subst hS;(try refine qy ?_);(repeat refine qq ?_);(try generalize hK:bk _ _ _ _=K);refine af.c_ ?_;(repeat(first|refine xT ?_|refine xL ?_|refine xN ?_|refine xo ?_|refine xp ?_));refine ab.nil ?_;(try dsimp only[Fr.az,Fr.put,Fr.clean,Fr.ev,Fr.get,nth,V.look,u1,u2,v1,v2,v3,v4,v5,v6,v7,List.length,u3,u4,Nat.reduceSub,Nat.reduceAdd,List.map]);(try subst hK);(try refine qy ?_);refine af.ret ⟨rx,_,rfl,bL (by simp) (by simp[aj]) ?_⟩;rw[wrap_i64 (by omega) (by omega)];rfl
 rcases hk with hk|hk|hk|hk|hk
 ·omega
 ·subst hk;refine af.cond (v:=false) rfl (fun h=>by cases h) fun _=>af.skip ?_;rw[ei (by simp only[lA];omega)];exact H _ 0 _ rfl rfl (by omega)
 ·subst hk;refine af.cond (v:=true) rfl (fun _=>?_) (fun h=>by cases h);refine af.c_ ?_
  (first|refine xT ?_|refine xL ?_|refine xN ?_|refine xo ?_|refine xp ?_)
  refine ab.iQ rfl rfl rfl (fun _=>rfl) rfl rfl ec rfl rfl (by omega) rfl rfl (fun p=>?_);(repeat(first|refine xT ?_|refine xL ?_|refine xN ?_|refine xo ?_|refine xp ?_));refine ab.nil ?_;(try dsimp only[Fr.az,Fr.put,Fr.clean,Fr.ev,Fr.get,nth,V.look,u1,u2,v1,v2,v3,v4,v5,v6,v7,List.length,u3,u4,Nat.reduceSub,Nat.reduceAdd,List.map]);rw[mask (j:=5) hc (by omega)]
  ·exact H _ 1 _ rfl rfl (by omega)
  ·decide
 ·subst hk;refine af.cond (v:=true) rfl (fun _=>?_) (fun h=>by cases h);refine af.c_ ?_
  (first|refine xT ?_|refine xL ?_|refine xN ?_|refine xo ?_|refine xp ?_)
  refine ab.iQ rfl rfl rfl (fun _=>rfl) rfl rfl ec rfl rfl (by omega) rfl rfl (fun p=>?_);(repeat(first|refine xT ?_|refine xL ?_|refine xN ?_|refine xo ?_|refine xp ?_));refine ab.nil ?_;(try dsimp only[Fr.az,Fr.put,Fr.clean,Fr.ev,Fr.get,nth,V.look,u1,u2,v1,v2,v3,v4,v5,v6,v7,List.length,u3,u4,Nat.reduceSub,Nat.reduceAdd,List.map]);rw[mask (j:=4) hc (by omega)]
  ·exact H _ 2 _ rfl rfl (by omega)
  ·decide
 ·subst hk;refine af.cond (v:=true) rfl (fun _=>?_) (fun h=>by cases h);refine af.c_ ?_
  (first|refine xT ?_|refine xL ?_|refine xN ?_|refine xo ?_|refine xp ?_)
  refine ab.iQ rfl rfl rfl (fun _=>rfl) rfl rfl ec rfl rfl (by omega) rfl rfl (fun p=>?_);(repeat(first|refine xT ?_|refine xL ?_|refine xN ?_|refine xo ?_|refine xp ?_));refine ab.nil ?_;(try dsimp only[Fr.az,Fr.put,Fr.clean,Fr.ev,Fr.get,nth,V.look,u1,u2,v1,v2,v3,v4,v5,v6,v7,List.length,u3,u4,Nat.reduceSub,Nat.reduceAdd,List.map]);rw[mask (j:=3) hc (by omega)]
  ·exact H _ 3 _ rfl rfl (by omega)
  ·decide
end Go.Proofs.Ytnleclohocdkaaa
namespace Go.Proofs.Ytnleclohocdkaaa
open Go.V Go
def gQ (b:List UInt8):Nat×Nat:=if(eC b).2.1=0 then(65533,1) else((eC b).1,(eC b).2.1)
def yG:Nat→List UInt8→List (Nat×Nat)
 |0,_=>[]
 |_+1,[]=>[]
 |n+1,b=>gQ b::yG n (b.drop (gQ b).2)
def aV (b:List UInt8):List (Nat×Nat):=yG b.length b
theorem km (b:List UInt8):1≤(gQ b).2:=by
 unfold gQ;split
 ·simp
 ·simp only;omega
theorem nT : ∀ (n : Nat) (b : List UInt8), b.length ≤ n → yG n b = aV b
 | 0, [], _ => rfl
 | 0, _ :: _, h => by simp at h
 | n + 1, [], _ => rfl
 | n + 1, c :: b, h => by
  have hp := km (c :: b);have h1 : ((c :: b).drop (gQ (c :: b)).2).length ≤ b.length := by rw [List.length_drop]; simp only [List.length_cons]; omega
  simp only [List.length_cons] at h;show gQ (c :: b) :: yG n ((c :: b).drop _) = gQ (c :: b) :: yG b.length ((c :: b).drop _);rw [nT n _ (by omega)]
  rcases Nat.lt_or_ge n b.length with h2 | h2
  ·omega
  ·rw [nT b.length _ h1]
termination_by n b => b.length
decreasing_by all_goals (simp_wf; omega)
theorem rp:aV []=[]:=rfl
theorem jC {b:List UInt8} (h:b≠[]):aV b=gQ b::aV (b.drop (gQ b).2):=by
 match b,h with
 |c::b,_=>
  show gQ (c::b)::yG b.length ((c::b).drop _)=_;rw[nT];have hp:=km (c::b);rw[List.length_drop];simp only[List.length_cons];omega
def bq (g:Nat×Nat):List D:=[.int .i32 (g.1:Nat),.int .i64 (g.2:Nat)]
def cO (l:List (Nat×Nat)):D:=.sl ((l.map bq).map (lL 2))
theorem CX {l:List (Nat×Nat)}:∀e∈l.map bq,e.length=2:=by
 intro e he;obtain⟨g,_,rfl⟩:=List.mem_map.1 he;rfl
theorem qJ {l:List (Nat×Nat)}:∀e∈l.map bq,∀d∈e,cC d=true:=by
 intro e he d hd;obtain⟨g,_,rfl⟩:=List.mem_map.1 he;simp only[bq,List.mem_cons,List.not_mem_nil,or_false] at hd
 rcases hd with rfl|rfl<;>rfl
theorem dw (st:St) (l:List (Nat×Nat)):V.Rows st 2 (cO l) (l.map bq):=Rows.vJ CX qJ
theorem vb:∀(left n r lo hi:Nat) (b:List UInt8),(dM left n r lo hi b).2.1≠0→(dM left n r lo hi b).2.1=n∧left≤b.length
 |0,n,r,lo,hi,b,h=>by simp[dM]
 |left+1,n,r,lo,hi,[],h=>by simp[dM] at h
 |left+1,n,r,lo,hi,x::xs,h=>by
  simp only[dM] at h⊢
  split at h
  ·simp at h
  ·rename_i hc;rw[if_neg hc];have:=vb left n _ _ _ xs h;exact⟨this.1,by simp;omega⟩
theorem tA {b:List UInt8} (h:b≠[]):(gQ b).2≤b.length:=by
 match b,h with
 |c::xs,_=>
  unfold gQ
  split
  ·simp
  ·rename_i hz;simp only[eC] at hz⊢
   split at hz
   ·simp at hz
   ·rename_i hk;rw[if_neg hk];have:=vb _ _ _ _ _ _ hz;rw[this.1];simp;omega
theorem Dt {st:St} {x:D} {b:List UInt8} (hb:Bytes st x b) (hlen:b.length≤1048576):Ev pv 28 [x] st (cO (aV b)) st:=by
 refine Ev.pJ rfl Mw rfl rfl rfl ?_;dsimp only[u3,u4,List.length,Nat.reduceSub,Nat.reduceAdd,w1,w2];have hx:=hb.ref;(try refine qy ?_);(repeat refine qq ?_);(try generalize hK:bk _ _ _ _=K);refine af.c_ ?_;(repeat(first|refine xT ?_|refine xL ?_|refine xN ?_|refine xo ?_|refine xp ?_));refine ab.nil ?_;(try dsimp only[Fr.az,Fr.put,Fr.clean,Fr.ev,Fr.get,nth,V.look,u1,u2,v1,v2,v3,v4,v5,v6,v7,List.length,u3,u4,Nat.reduceSub,Nat.reduceAdd,List.map]);(try subst hK);(try refine qy ?_);(repeat refine qq ?_);(try generalize hK:bk _ _ _ _=K);refine af.c_ ?_;(repeat(first|refine xT ?_|refine xL ?_|refine xN ?_|refine xo ?_|refine xp ?_));refine ab.nil ?_;(try dsimp only[Fr.az,Fr.put,Fr.clean,Fr.ev,Fr.get,nth,V.look,u1,u2,v1,v2,v3,v4,v5,v6,v7,List.length,u3,u4,Nat.reduceSub,Nat.reduceAdd,List.map]);(try subst hK);(try refine qy ?_);refine af.seq (af.block ?_)
 refine af.loop (fun j fr ag=>∃(y out r n:D) (b':List UInt8) (done:List (Nat×Nat)),fr.clean=⟨6,[y,.tup [],.nul,out,r,n],[]⟩∧Ex st.bs.length (aj .ro st) ag∧Bytes ag y b'∧y.ref≤st.bs.length∧
  Acc st.bs.length ag 2 out (done.map bq)∧j=b'.length∧done++aV b'=aV b∧done.length+b'.length≤b.length) b.length
  ⟨x,.nul,_,_,b,[],rfl,Ex.refl _ _,hb.enter .ro,hx,.nul,rfl,rfl,by simp⟩ ?_
 rintro j fr ag ⟨y,out,r,n,b',done,hfr,hex,hy,Nj,EF,rfl,fU,hl⟩;rw[hfr];(try refine qy ?_);(repeat refine qq ?_);(try generalize hK:bk _ _ _ _=K);refine af.c_ ?_
 (first|refine xT ?_|refine xL ?_|refine xN ?_|refine xo ?_|refine xp ?_)
 refine ab.len rfl rfl rfl hy rfl ?_;(repeat(first|refine xT ?_|refine xL ?_|refine xN ?_|refine xo ?_|refine xp ?_));refine ab.nil ?_;(try dsimp only[Fr.az,Fr.put,Fr.clean,Fr.ev,Fr.get,nth,V.look,u1,u2,v1,v2,v3,v4,v5,v6,v7,List.length,u3,u4,Nat.reduceSub,Nat.reduceAdd,List.map]);(try subst hK);(try refine qy ?_);rw[gE];(try refine qy ?_);(repeat refine qq ?_);refine qc (fun h1=>?_) (fun h1=>?_)<;>try simp only[cs] at h1
 ·refine af.skip ?_;have oB:b'≠[]:=by rintro rfl;simp at h1
  (try refine qy ?_);(repeat refine qq ?_);refine af.block ?_;(try refine qy ?_);(repeat refine qq ?_);(try generalize hK:bk _ _ _ _=K);refine af.c_ ?_
  (first|refine xT ?_|refine xL ?_|refine xN ?_|refine xo ?_|refine xp ?_)
  refine ab.Fv rfl rfl rfl (C3 hy) ?_;(repeat(first|refine xT ?_|refine xL ?_|refine xN ?_|refine xo ?_|refine xp ?_));refine ab.nil ?_;(try dsimp only[Fr.az,Fr.put,Fr.clean,Fr.ev,Fr.get,nth,V.look,u1,u2,v1,v2,v3,v4,v5,v6,v7,List.length,u3,u4,Nat.reduceSub,Nat.reduceAdd,List.map]);(try subst hK);(try refine qy ?_);generalize hf:eC b'=F at*;obtain⟨r0,n0,bg⟩:=F;(try refine qy ?_);(repeat refine qq ?_);(try generalize hK:bk _ _ _ _=K);refine af.c_ ?_;(repeat(first|refine xT ?_|refine xL ?_|refine xN ?_|refine xo ?_|refine xp ?_));refine ab.nil ?_;(try dsimp only[Fr.az,Fr.put,Fr.clean,Fr.ev,Fr.get,nth,V.look,u1,u2,v1,v2,v3,v4,v5,v6,v7,List.length,u3,u4,Nat.reduceSub,Nat.reduceAdd,List.map]);(try subst hK);(try refine qy ?_);generalize hK:bk _ _ _ _=K
  have H:∀m,K .next ⟨6,[y,.tup [],.nul,out,.int .i32 ((gQ b').1:Nat),.int .i64 ((gQ b').2:Nat)],m⟩ ag:=by
   intro m;subst hK;generalize hg:gQ b'=g;have hp:=km b';have hle:=tA oB;rw[hg] at hp hle;(try refine qy ?_);(repeat refine qq ?_);(try generalize hK:bk _ _ _ _=K);refine af.c_ ?_
   (first|refine xT ?_|refine xL ?_|refine xN ?_|refine xo ?_|refine xp ?_)
   (first|refine xT ?_|refine xL ?_|refine xN ?_|refine xo ?_|refine xp ?_)
   (first|refine xT ?_|refine xL ?_|refine xN ?_|refine xo ?_|refine xp ?_)
   refine ab.T rfl rfl rfl (d:=.agg (bq g)) (st1:=ag) rfl ?_;refine ab.T rfl rfl rfl (d:=.win ag.bs.length 0 0 1 2) (st1:=ag.push (.mem 0 true (bq g))) rfl ?_;have hN:st.bs.length≤ag.bs.length:=hex.len;have EB:=hex.trans (Ex.push hN (.mem 0 true (bq g)));refine ab.append rfl rfl rfl rfl (EF.push _) (Rows.one rfl) rfl rfl rfl rfl rfl rfl rfl (by decide) EB.len (by rw[EB.flr];exact Nat.le_refl _) (by rw[EB.ro];exact Nat.le_refl _) (by simp only[List.length_map,List.length_cons,List.length_nil];show(done.length+1)*16≤_;omega) fun Km st2 I0 IJ _ _ _=>?_;(repeat(first|refine xT ?_|refine xL ?_|refine xN ?_|refine xo ?_|refine xp ?_));refine ab.nil ?_;(try dsimp only[Fr.az,Fr.put,Fr.clean,Fr.ev,Fr.get,nth,V.look,u1,u2,v1,v2,v3,v4,v5,v6,v7,List.length,u3,u4,Nat.reduceSub,Nat.reduceAdd,List.map]);(try subst hK);(try refine qy ?_);have LM:=EB.trans IJ;have El:Bytes st2 y b':=Rows.ex ((Ex.push hN _).trans IJ) hy Nj;(try refine qy ?_);(repeat refine qq ?_);(try generalize hK:bk _ _ _ _=K);refine af.c_ ?_
   (first|refine xT ?_|refine xL ?_|refine xN ?_|refine xo ?_|refine xp ?_)
   (first|refine xT ?_|refine xL ?_|refine xN ?_|refine xo ?_|refine xp ?_)
   refine ab.slice rfl rfl rfl El rfl rfl (l:=g.2) (r:=b'.length) ?_ ⟨by omega,by rw[gE];omega⟩ fun y2 Ek KA=>?_
   ·show di (V.byteCells b').length (some (.int .i64 (g.2:Nat))) none=_;rw[gE];simp only[di,kl,l3,Option.bind_some];rw[if_pos ⟨by omega,by omega⟩];rfl
   (repeat(first|refine xT ?_|refine xL ?_|refine xN ?_|refine xo ?_|refine xp ?_));refine ab.nil ?_;(try dsimp only[Fr.az,Fr.put,Fr.clean,Fr.ev,Fr.get,nth,V.look,u1,u2,v1,v2,v3,v4,v5,v6,v7,List.length,u3,u4,Nat.reduceSub,Nat.reduceAdd,List.map]);(try subst hK);(try refine qy ?_);refine⟨(b'.drop g.2).length,by rw[List.length_drop];omega,y2,Km,_,_,b'.drop g.2,done++[g],rfl,LM,?_,Nat.le_trans KA Nj,?_,rfl,?_,?_⟩
   ·have:((V.byteCells b').take b'.length).drop g.2=V.byteCells (b'.drop g.2):=by
     rw[←gE,List.take_length];simp[V.byteCells]
    unfold Bytes;rw[←this];exact Ek
   ·rw[List.map_append];exact I0
   ·rw[List.append_assoc,List.singleton_append,←fU,jC oB,hg]
   ·rw[List.length_append,List.length_drop];simp only[List.length_cons,List.length_nil];omega
  (try refine qy ?_);(repeat refine qq ?_);refine qc (fun h2=>?_) (fun h2=>?_)<;>try simp only[cs] at h2
  ·refine af.c_ ?_;(repeat(first|refine xT ?_|refine xL ?_|refine xN ?_|refine xo ?_|refine xp ?_));refine ab.nil ?_;(try dsimp only[Fr.az,Fr.put,Fr.clean,Fr.ev,Fr.get,nth,V.look,u1,u2,v1,v2,v3,v4,v5,v6,v7,List.length,u3,u4,Nat.reduceSub,Nat.reduceAdd,List.map]);have:gQ b'=(65533,1):=by unfold gQ;rw[hf,if_pos (by simpa using h2)]
   rw[this] at H;exact H _
  ·refine af.skip ?_;have:gQ b'=(r0,n0):=by unfold gQ;rw[hf,if_neg (by simpa using h2)]
   rw[this] at H;exact H _
 ·refine af.exit ?_
  have oB:b'=[]:=by cases b' with|nil=>rfl|cons _ _=>simp at h1<;>omega
  subst oB;rw[rp,List.append_nil] at fU;(try refine qy ?_);(repeat refine qq ?_);(try generalize hK:bk _ _ _ _=K);refine af.c_ ?_;(repeat(first|refine xT ?_|refine xL ?_|refine xN ?_|refine xo ?_|refine xp ?_));refine ab.nil ?_;(try dsimp only[Fr.az,Fr.put,Fr.clean,Fr.ev,Fr.get,nth,V.look,u1,u2,v1,v2,v3,v4,v5,v6,v7,List.length,u3,u4,Nat.reduceSub,Nat.reduceAdd,List.map]);(try subst hK);(try refine qy ?_);refine af.ret ⟨rx,_,rfl,bL (by simp) (hex.take rfl) ?_⟩;rw[←fU];exact EF.freeze qJ (n:=15) (by decide)
end Go.Proofs.Ytnleclohocdkaaa
namespace Go.Proofs.Ytnleclohocdkaaa
open Go.V Go
structure dW where
 i:Nat
 o:Nat
 g:Nat
 e:Int
 w:Int
def aU (gs:List (Nat×Nat)) (bz:D) (s:dW):List D:=[cO gs,bz,.int .i64 (s.i:Nat),.int .i64 (s.o:Nat),.int .i64 (s.g:Nat),.int .i64 s.e,.int .i64 s.w]
def ct (gs:List (Nat×Nat)) (i:Nat) (r:Int):Bool:=match gs[i]? with
 |some g=>((g.1:Nat):Int)==r
 |none=>false
theorem dF {gs:List (Nat×Nat)} {i:Nat} {r:Int} (h:ct gs i r=true):i<gs.length:=by
 unfold ct at h
 split at h
 ·exact bn (by assumption)
 ·cases h
def b9 (gs:List (Nat×Nat)) (s:dW) (r:Int):dW:=if ct gs s.i r=true then{s with i:=s.i+1} else s
def nQ (gs:List (Nat×Nat)) (i:Nat):Bool:=match gs[i]? with
 |some g=>((g.1:Nat):Int)==65533 &&((g.2:Nat):Int)==1
 |none=>false
def iZ (aS:List Int) (s:dW) (i:Nat) (e:Int):dW:=if s.e=0 then{s with e:=e,w:=aS.getD i 0} else s
theorem oe {N k:Nat} {S s0:St} {H:List cx} {gs:List (Nat×Nat)} {bz:D} {s:dW} (qk:gs.length≤1048576) (r:Int) (hH:Has N S s0 (.box k (.mem 0 false (aU gs bz s))::H)):
  ∃d ag,Ev pv 98 [.ptr k 0 0,.int .i32 r] s0 d ag∧d=.bool (ct gs s.i r)∧Has N S ag (.box k (.mem 0 false (aU gs bz s))::H):=by
 refine Ev.ow rfl L_ rfl rfl rfl ?_;dsimp only[u3,u4,List.length,Nat.reduceSub,Nat.reduceAdd,w1,w2];have cU:=hH;have hH:=hH.cV;have cF:(aj .rw s0).bs=s0.bs:=rfl;generalize aj .rw s0=S2 at*;have Bv:Arg N S2 2 (cO gs) (gs.map bq):=Arg.pure (fun st=>dw st gs);refine qq<|qj fun K hK=>qm ?_;refine qe hK ?_
 by_cases ha:s.i<gs.length
 ·obtain⟨g,hg⟩:∃g,gs[s.i]?=some g:=⟨gs[s.i]'ha,List.getElem?_eq_getElem _⟩
  have jx:(gs.map bq)[s.i]?=some (bq g):=by rw[List.getElem?_map,hg];rfl
  have aT:decide ((s.i:Int)<(gs.length:Nat))=true:=by rw[decide_eq_true];simp;omega
  have hv:ct gs s.i r=(((g.1:Nat):Int)==r):=by unfold ct;rw[hg]
  refine qq<|af.lE 4 (.bool (((g.1:Nat):Int)==r)) [] ?_ (fun ff tmp=>?_)
  ·refine qm ?_;refine qg ?_;refine qp (o:=2) ?_;refine ql hH aC ?_;refine qm ?_;refine qg ?_;refine qp (o:=0) ?_;refine ql hH aC ?_;refine qn ?_;simp only[List.length_map];refine qg ?_;refine qm ?_;refine qm ?_ (hg:=wi aT);refine qg ?_ (hg:=wi aT);refine qp (o:=0) ?_ (hg:=wi aT);refine ql hH aC ?_ (hg:=wi aT);refine qm ?_ (hg:=wi aT);refine qg ?_ (hg:=wi aT);refine qp (o:=2) ?_ (hg:=wi aT);refine ql hH aC ?_ (hg:=wi aT);refine qr (fun Nb Ie=>?_) (hg:=wi aT);refine qf (fo:=0) (fun Kk F'=>?_) (hg:=wi aT);refine qR ?_ (hg:=wi aT);refine qm ?_ (hg:=wi aT);refine qg ?_ (hg:=wi aT);refine qt aT ?_;refine qm ?_;refine ab.nil (aQ ?_);dsimp only[aI,List.foldl,nth,u2,u1];dsimp only[Fr.az,Fr.put,Fr.clean,Fr.ev,Fr.get,nth,look,u1,u2,v1,v2,v4]
   all_goals(first|rfl|(simp[aT];done)|(simp_all;done)|(simp[aT];omega)|(simp_all;omega))
  dsimp only[aI,List.foldl,nth,u2,u1];refine af.ret ⟨rx,_,_,_,rfl,ak (rfl),?_⟩;exact⟨by rw[hv];rfl,cU.ax cF hH⟩
 ·have aT:decide ((s.i:Int)<(gs.length:Nat))=false:=by rw[decide_eq_false];simp;omega
  have hv:ct gs s.i r=false:=by
   cases h:ct gs s.i r with
   |true=>exact absurd (dF h) ha
   |false=>rfl
  refine qq<|af.lE 4 (.bool false) [] ?_ (fun ff tmp=>?_)
  ·refine qm ?_;refine qg ?_;refine qp (o:=2) ?_;refine ql hH aC ?_;refine qm ?_;refine qg ?_;refine qp (o:=0) ?_;refine ql hH aC ?_;refine qn ?_;simp only[List.length_map];refine qg ?_;refine qm ?_;refine qs ?_ (hg:=wn aT);refine qs ?_ (hg:=wn aT);refine qs ?_ (hg:=wn aT);refine qs ?_ (hg:=wn aT);refine qs ?_ (hg:=wn aT);refine qs ?_ (hg:=wn aT);refine qs ?_ (hg:=wn aT);refine qs ?_ (hg:=wn aT);refine qs ?_ (hg:=wn aT);refine qs ?_ (hg:=wn aT);refine qs ?_ (hg:=wn aT);refine qs ?_ (hg:=wn aT);refine qs ?_ (hg:=wn aT);refine qu aT ?_;refine qm ?_;refine ab.nil (aQ ?_);dsimp only[aI,List.foldl,nth,u2,u1];dsimp only[Fr.az,Fr.put,Fr.clean,Fr.ev,Fr.get,nth,look,u1,u2,v1,v2,v4]
   all_goals(first|rfl|(simp[aT];done)|(simp_all;done)|(simp[aT];omega)|(simp_all;omega))
  dsimp only[aI,List.foldl,nth,u2,u1];refine af.ret ⟨rx,_,_,_,rfl,ak (rfl),?_⟩;exact⟨by rw[hv];rfl,cU.ax cF hH⟩
theorem dS {N k:Nat} {S s0:St} {H:List cx} {gs:List (Nat×Nat)} {bz:D} {s:dW} (qk:gs.length≤1048576) (r:Int) (hH:Has N S s0 (.box k (.mem 0 false (aU gs bz s))::H)):
  ∃d ag,Ev pv 72 [.ptr k 0 0,.int .i32 r] s0 d ag∧d=.bool (ct gs s.i r)∧Has N S ag (.box k (.mem 0 false (aU gs bz (b9 gs s r)))::H):=by
 refine Ev.ow rfl Mg rfl rfl rfl ?_;dsimp only[u3,u4,List.length,Nat.reduceSub,Nat.reduceAdd,w1,w2];have cU:=hH;have hH:=hH.cV;have cF:(aj .rw s0).bs=s0.bs:=rfl;generalize aj .rw s0=S2 at*;refine qq<|qj fun K hK=>qm ?_;refine qe hK<|qq<|qq<|qj fun K hK=>qm ?_;refine qm ?_;obtain⟨_,st,aM,rfl,hH⟩:=oe qk r hH;refine qv aM ?_;refine qe hK ?_;unfold b9
 cases hb:ct gs s.i r with
 |true=>
  have hlt:=dF hb;dsimp only[aU] at hH;rw[if_pos rfl];refine qB ?_;refine qq<|qj fun K hK=>qm ?_;refine qg ?_;refine qp (o:=2) ?_;refine ql hH aC ?_;refine qA ?_;refine qg ?_;refine qp (o:=2) ?_;refine qT hH aC fun st hH=>?_;dsimp only[u2,u1,u3,u4,setMany,u5,u6,D.cells,Nat.reduceAdd,aU,bq,au] at hH;refine qe hK<|qq<|qj fun K hK=>qm ?_;refine qe hK<|af.ret ⟨rx,_,_,_,rfl,ak (rfl),?_⟩;exact⟨rfl,cU.ax cF hH⟩
 |false=>
  rw[if_neg (by simp)];refine qC ?_;refine af.skip<|qq<|qj fun K hK=>qm ?_;refine qe hK<|af.ret ⟨rx,_,_,_,rfl,ak (rfl),?_⟩;exact⟨rfl,cU.ax cF hH⟩
theorem yC {N k:Nat} {S s0:St} {H:List cx} {gs:List (Nat×Nat)} {bz:D} {s:dW} (i:Nat) (hi:i<gs.length) (hH:Has N S s0 (.box k (.mem 0 false (aU gs bz s))::H)):
  ∃d ag,Ev pv 120 [.ptr k 0 0,.int .i64 (i:Nat)] s0 d ag∧d=.bool (nQ gs i)∧Has N S ag (.box k (.mem 0 false (aU gs bz s))::H):=by
 refine Ev.ow rfl Jg rfl rfl rfl ?_;dsimp only[u3,u4,List.length,Nat.reduceSub,Nat.reduceAdd,w1,w2];have cU:=hH;have hH:=hH.cV;have cF:(aj .rw s0).bs=s0.bs:=rfl;generalize aj .rw s0=S2 at*;have Bv:Arg N S2 2 (cO gs) (gs.map bq):=Arg.pure (fun st=>dw st gs);refine qq<|qj fun K hK=>qm ?_;refine qe hK ?_
 obtain⟨g,hg⟩:∃g,gs[i]?=some g:=⟨gs[i]'hi,List.getElem?_eq_getElem _⟩
 have jx:(gs.map bq)[i]?=some (bq g):=by rw[List.getElem?_map,hg];rfl
 have hv:nQ gs i=(((g.1:Nat):Int)==65533 &&((g.2:Nat):Int)==1):=by unfold nQ;rw[hg]
 refine qq<|af.lE 4 (.bool (((g.1:Nat):Int)==65533 &&((g.2:Nat):Int)==1)) [] ?_ (fun ff tmp=>?_)
 ·refine qm ?_;refine qg ?_;refine qp (o:=0) ?_;refine ql hH aC ?_;refine qm ?_;refine qr fun OB Lk=>?_;refine qf (fo:=0) fun Nf Ii=>?_;refine qR ?_;refine qg ?_;refine qm ?_;refine ab.two 14 rfl (fun cN=>?_) (fun cN=>?_)
  ·refine qm ?_ (hg:=wi cN);refine qg ?_ (hg:=wi cN);refine qp (o:=0) ?_ (hg:=wi cN);refine ql hH aC ?_ (hg:=wi cN);refine qm ?_ (hg:=wi cN);refine qr (fun Nd Ih=>?_) (hg:=wi cN);refine qf (fo:=1) (fun JI Ep=>?_) (hg:=wi cN);refine qR ?_ (hg:=wi cN);refine qg ?_ (hg:=wi cN);refine qt cN ?_;refine qm ?_;refine ab.nil (aQ ?_);dsimp only[aI,List.foldl,nth,u2,u1];dsimp only[Fr.az,Fr.put,Fr.clean,Fr.ev,Fr.get,nth,V.look,u1,u2,v1,v2,v3,v4,v5,v6,v7,List.length,u3,u4,Nat.reduceSub,Nat.reduceAdd,List.map]
   all_goals(simp[cN];done)
  ·refine qs ?_ (hg:=wn cN);refine qs ?_ (hg:=wn cN);refine qs ?_ (hg:=wn cN);refine qs ?_ (hg:=wn cN);refine qs ?_ (hg:=wn cN);refine qs ?_ (hg:=wn cN);refine qs ?_ (hg:=wn cN);refine qs ?_ (hg:=wn cN);refine qs ?_ (hg:=wn cN);refine qu cN ?_;refine qm ?_;refine ab.nil (aQ ?_);dsimp only[aI,List.foldl,nth,u2,u1];dsimp only[Fr.az,Fr.put,Fr.clean,Fr.ev,Fr.get,nth,V.look,u1,u2,v1,v2,v3,v4,v5,v6,v7,List.length,u3,u4,Nat.reduceSub,Nat.reduceAdd,List.map]
   all_goals(simp[cN];done)
 dsimp only[aI,List.foldl,nth,u2,u1];refine af.ret ⟨rx,_,_,_,rfl,ak (rfl),?_⟩;exact⟨by rw[hv];rfl,cU.ax cF hH⟩
theorem ef {N k:Nat} {S s0:St} {H:List cx} {gs:List (Nat×Nat)} {bz:D} {aS:List Int} {s:dW} (i:Nat) (e:Int) (hi:i<aS.length) (hH:Has N S s0 (.box k (.mem 0 false (aU gs bz s))::.aR bz 1 (aS.map au)::H)):
  ∃d ag,Ev pv 39 [.ptr k 0 0,.int .i64 (i:Nat),.int .i64 e] s0 d ag∧d=.sl []∧Has N S ag (.box k (.mem 0 false (aU gs bz (iZ aS s i e)))::.aR bz 1 (aS.map au)::H):=by
 refine Ev.ow rfl Ms rfl rfl rfl ?_;dsimp only[u3,u4,List.length,Nat.reduceSub,Nat.reduceAdd,w1,w2];have cU:=hH;have hH:=hH.cV;have cF:(aj .rw s0).bs=s0.bs:=rfl;generalize aj .rw s0=S2 at*;refine qq<|qj fun K hK=>qm ?_;refine qe hK ?_
 obtain⟨v,hv⟩:∃v,aS[i]?=some v:=⟨aS[i]'hi,List.getElem?_eq_getElem _⟩
 have jx:=fR hv;unfold iZ;refine qq<|qq<|qj fun K hK=>qm ?_;refine qg ?_;refine qp (o:=5) ?_;refine ql hH aC ?_;refine qg ?_;refine qe hK ?_;refine af.cond (by rfl) (fun h0=>?_) (fun h0=>?_)<;>try simp only[beq_iff_eq,beq_eq_false_iff_ne,ne_eq] at h0
 ·rw[if_pos h0];have Gm:aS.getD i 0=v:=by rw[List.getD_eq_getElem?_getD,hv];rfl
  refine qj fun K hK=>qm ?_;refine qm ?_;refine qm ?_;refine qm ?_;refine qg ?_;refine qp (o:=1) ?_;refine ql hH aC ?_;refine qm ?_;refine qi hH cp fun Nd Ih=>?_;refine qo hH cp ?_;refine qg ?_;refine qp (o:=5) ?_;refine qT hH aC fun st hH=>?_;dsimp only[u2,u1,u3,u4,setMany,u5,u6,D.cells,Nat.reduceAdd,aU,bq,au] at hH;refine qg ?_;refine qp (o:=6) ?_;refine qT hH aC fun st hH=>?_;dsimp only[u2,u1,u3,u4,setMany,u5,u6,D.cells,Nat.reduceAdd,aU,bq,au] at hH;refine qe hK<|qq<|qj fun K hK=>qm ?_;refine qe hK<|af.ret ⟨rx,_,_,_,rfl,ak (rfl),?_⟩;exact⟨rfl,by rw[Gm];exact cU.ax cF hH⟩
 ·rw[if_neg h0];refine af.skip<|qq<|qj fun K hK=>qm ?_;refine qe hK<|af.ret ⟨rx,_,_,_,rfl,ak (rfl),?_⟩;exact⟨rfl,cU.ax cF hH⟩
end Go.Proofs.Ytnleclohocdkaaa
namespace Go.Proofs.Ytnleclohocdkaaa
open Go.V Go
noncomputable def da (l:List Rg):List Rg:=@dite _ (∃a,gB l a) (Classical.propDecidable _) (fun h=>Classical.choose h) (fun _=>[])
theorem Cn {l a:List Rg} (h:gB l a):da l=a:=by
 have hx:∃a,gB l a:=⟨a,h⟩
 unfold da;rw[dif_pos hx];exact(Classical.choose_spec hx).unique h
theorem mi {s0:St} {x:D} {l:List Rg} (hx:V.Rows s0 2 x (l.map aw)) (hl:l.length≤1048576):Ev pv 103 [x] s0 (bB (da l)) s0∧(da l).length≤2*l.length∧gB l (da l):=by
 obtain⟨_,aM,all,rfl,hperm,oh⟩:=zj hx (by omega);have hM:gB l (all.foldl dv []).reverse:=pL (fun x=>hperm.mem_iff) oh;have hlen:=hperm.length_eq;have qw:=iV l;have lK:=pS all;rw[Cn hM];exact⟨aM,by rw[List.length_reverse];omega,hM⟩
theorem hU (l:List Rg):iK (bB l) 2 (l.map aw):=by
 rw[←ig];refine iK.frozen ?_ ?_
 ·intro e he;obtain⟨x,_,rfl⟩:=List.mem_map.1 he;rfl
 ·intro e he d hd;obtain⟨x,_,rfl⟩:=List.mem_map.1 he;simp only[aw,List.mem_cons,List.not_mem_nil,or_false] at hd
  rcases hd with rfl|rfl<;>rfl
theorem tQ {r:Int} {l a:List Rg} (h0:0≤r) (h1:r<55296) (hr:fz l r) (h:gB l a):a≠[]:=by
 rintro rfl;have:=(h.2 r).2 ⟨by unfold nE;omega,hr⟩;obtain⟨x,hx,_⟩:=this;cases hx
theorem vT {r:Int} (h0:0≤r) (h1:r<55296) {a:List Rg} (h:gB [(r,r)] a):a≠[]:=by
 rintro rfl;have:=(h.2 r).2 ⟨?_,?_⟩
 ·obtain⟨x,hx,_⟩:=this;cases hx
 ·unfold nE;omega
 ·exact⟨(r,r),List.mem_cons_self ..,by simp⟩
theorem jm {s0:St} (r:Int):Ev pv 125 [.int .i32 r] s0 (bB (da [(r,r)])) s0:=by
 refine Ev.pJ rfl Jb rfl rfl rfl ?_;dsimp only[u3,u4,List.length,Nat.reduceSub,Nat.reduceAdd,w1,w2];obtain⟨cE,hF,hH⟩:=ri s0;generalize aj .ro s0=S at*;refine qq<|qj fun K hK=>qm ?_;refine qe hK<|qq<|qj fun K hK=>qm ?_;refine qm ?_;refine ab.ir (qs:=[(0,_),(1,_)]) rfl rfl rfl rfl ⟨rfl,(ev rfl),(by rfl),rfl,(ev rfl),(by rfl),trivial⟩ (by intro q hq;simp only[List.mem_cons,List.not_mem_nil,or_false] at hq;rcases hq with rfl|rfl<;>exact⟨rfl,by exact Nat.le_of_ble_eq_true rfl⟩) (by show List.foldl _ [_,_] _=_;dsimp only[List.foldl_cons,List.foldl_nil,u2,u1]<;>rfl) (aa rfl _) ?_;refine qh (s:=2) (vs:=[_]) hH fun k6 st Fl hH=>?_;obtain⟨aM,hl,_⟩:=mi (l:=[(r,r)]) (hH.rows aC) (by simp);refine qv aM ?_;refine qm ?_;refine qe hK<|af.ret ⟨rx,_,rfl,rl cE hH (rfl)⟩
theorem Ee {s0:St} (r:Int):Ev pv 133 [.int .i32 r] s0 (.bool (decide (33≤r∧r≤47∨58≤r∧r≤64∨91≤r∧r≤96∨123≤r∧r≤126))) s0:=by
 refine Ev.pJ rfl I8 rfl rfl rfl ?_;dsimp only[u3,u4,List.length,Nat.reduceSub,Nat.reduceAdd,w1,w2];obtain⟨cE,hF,hH⟩:=ri s0;generalize aj .ro s0=S at*;refine qq<|qj fun K hK=>qm ?_;refine qe hK<|qq<|af.lE 2 (.bool (decide (33≤r∧r≤47∨58≤r∧r≤64∨91≤r∧r≤96∨123≤r∧r≤126))) [] ?_ (fun ff tmp=>?_)
 ·refine qm ?_;refine qg ?_;refine qm ?_;refine ab.two 5 rfl (fun bd=>?_) (fun bd=>?_)
  ·refine qm ?_ (hg:=wi bd);refine qg ?_ (hg:=wi bd);refine qt bd ?_;refine qm ?_;refine ab.two 9 rfl (fun cQ=>?_) (fun cQ=>?_)
   ·refine qs ?_ (hg:=wn cQ);refine qs ?_ (hg:=wn cQ);refine qs ?_ (hg:=wn cQ);refine qs ?_;refine qs ?_;refine qs ?_ (hg:=wn cQ);refine qt cQ ?_;refine qm ?_;refine qs ?_;refine qs ?_;refine qs ?_;refine qs ?_;refine qs ?_;refine qs ?_;refine qg ?_;refine qm ?_;refine qs ?_;refine qs ?_;refine qs ?_;refine qs ?_;refine qs ?_;refine qs ?_;refine qg ?_;refine qm ?_;refine ab.nil (aQ ?_);dsimp only[aI,List.foldl,nth,u2,u1];dsimp only[Fr.az,Fr.put,Fr.clean,Fr.ev,Fr.get,nth,V.look,u1,u2,v1,v2,v3,v4,v5,v6,v7,List.length,u3,u4,Nat.reduceSub,Nat.reduceAdd,List.map]
    all_goals(simp[bd,cQ];done)
   ·refine qm ?_ (hg:=wi cQ);refine qg ?_ (hg:=wi cQ);refine qm ?_ (hg:=wi cQ);refine ab.two 12 rfl (fun cN=>?_) (fun cN=>?_)
    ·refine qm ?_ (hg:=wi cN);refine qg ?_ (hg:=wi cN);refine ab.b_ (ah rfl rfl rfl cQ) rfl cN (aa rfl _) ?_;refine qu cQ ?_;refine qm ?_;refine ab.two 17 rfl (fun dG=>?_) (fun dG=>?_)
     ·refine qs ?_ (hg:=wn dG);refine qs ?_ (hg:=wn dG);refine qs ?_ (hg:=wn dG);refine qs ?_;refine qs ?_;refine qs ?_ (hg:=wn dG);refine qt dG ?_;refine qm ?_;refine qs ?_;refine qs ?_;refine qs ?_;refine qs ?_;refine qs ?_;refine qs ?_;refine qg ?_;refine qm ?_;refine ab.nil (aQ ?_);dsimp only[aI,List.foldl,nth,u2,u1];dsimp only[Fr.az,Fr.put,Fr.clean,Fr.ev,Fr.get,nth,V.look,u1,u2,v1,v2,v3,v4,v5,v6,v7,List.length,u3,u4,Nat.reduceSub,Nat.reduceAdd,List.map]
      all_goals(simp[bd,cQ,cN,dG];done)
     ·refine qm ?_ (hg:=wi dG);refine qg ?_ (hg:=wi dG);refine qm ?_ (hg:=wi dG);refine ab.two 20 rfl (fun ba=>?_) (fun ba=>?_)
      ·refine qm ?_ (hg:=wi ba);refine qg ?_ (hg:=wi ba);refine ab.b_ (ah rfl rfl rfl dG) rfl ba (aa rfl _) ?_;refine qu dG ?_;refine qm ?_;refine ab.two 25 rfl (fun bh=>?_) (fun bh=>?_)
       ·refine qs ?_ (hg:=wn bh);refine qs ?_ (hg:=wn bh);refine qs ?_ (hg:=wn bh);refine qs ?_;refine qs ?_;refine qs ?_ (hg:=wn bh);refine qt bh ?_;refine qm ?_;refine ab.nil (aQ ?_);dsimp only[aI,List.foldl,nth,u2,u1];dsimp only[Fr.az,Fr.put,Fr.clean,Fr.ev,Fr.get,nth,V.look,u1,u2,v1,v2,v3,v4,v5,v6,v7,List.length,u3,u4,Nat.reduceSub,Nat.reduceAdd,List.map]
        all_goals(simp[bd,cQ,cN,dG,ba,bh];done)
       ·refine qm ?_ (hg:=wi bh);refine qg ?_ (hg:=wi bh);refine qm ?_ (hg:=wi bh);refine ab.two 28 rfl (fun bc=>?_) (fun bc=>?_)
        ·refine qm ?_ (hg:=wi bc);refine qg ?_ (hg:=wi bc);refine ab.b_ (ah rfl rfl rfl bh) rfl bc (aa rfl _) ?_;refine qu bh ?_;refine qm ?_;refine ab.nil (aQ ?_);dsimp only[aI,List.foldl,nth,u2,u1];dsimp only[Fr.az,Fr.put,Fr.clean,Fr.ev,Fr.get,nth,V.look,u1,u2,v1,v2,v3,v4,v5,v6,v7,List.length,u3,u4,Nat.reduceSub,Nat.reduceAdd,List.map]
         all_goals(simp[bd,cQ,cN,dG,ba,bh,bc];done)
        ·refine qs ?_ (hg:=wn bc);refine qs ?_ (hg:=wn bc);refine ab.bM (ah rfl rfl rfl bh) rfl bc (aa rfl _) ?_;refine qu bh ?_;refine qm ?_;refine ab.nil (aQ ?_);dsimp only[aI,List.foldl,nth,u2,u1];dsimp only[Fr.az,Fr.put,Fr.clean,Fr.ev,Fr.get,nth,V.look,u1,u2,v1,v2,v3,v4,v5,v6,v7,List.length,u3,u4,Nat.reduceSub,Nat.reduceAdd,List.map]
         all_goals(simp[bd,cQ,cN,dG,ba,bh,bc];done)
      ·refine qs ?_ (hg:=wn ba);refine qs ?_ (hg:=wn ba);refine ab.bM (ah rfl rfl rfl dG) rfl ba (aa rfl _) ?_;refine qu dG ?_;refine qm ?_;refine qm ?_;refine qg ?_;refine qm ?_;refine ab.two 28 rfl (fun bc=>?_) (fun bc=>?_)
       ·refine qm ?_ (hg:=wi bc);refine qg ?_ (hg:=wi bc);refine qt bc ?_;refine qg ?_;refine qm ?_;refine ab.nil (aQ ?_);dsimp only[aI,List.foldl,nth,u2,u1];dsimp only[Fr.az,Fr.put,Fr.clean,Fr.ev,Fr.get,nth,V.look,u1,u2,v1,v2,v3,v4,v5,v6,v7,List.length,u3,u4,Nat.reduceSub,Nat.reduceAdd,List.map]
        all_goals(simp[bd,cQ,cN,dG,ba,bc];done)
       ·refine qs ?_ (hg:=wn bc);refine qs ?_ (hg:=wn bc);refine qu bc ?_;refine qg ?_;refine qm ?_;refine ab.nil (aQ ?_);dsimp only[aI,List.foldl,nth,u2,u1];dsimp only[Fr.az,Fr.put,Fr.clean,Fr.ev,Fr.get,nth,V.look,u1,u2,v1,v2,v3,v4,v5,v6,v7,List.length,u3,u4,Nat.reduceSub,Nat.reduceAdd,List.map]
        all_goals(simp[bd,cQ,cN,dG,ba,bc];done)
    ·refine qs ?_ (hg:=wn cN);refine qs ?_ (hg:=wn cN);refine ab.bM (ah rfl rfl rfl cQ) rfl cN (aa rfl _) ?_;refine qu cQ ?_;refine qm ?_;refine qm ?_;refine qg ?_;refine qm ?_;refine ab.two 20 rfl (fun ba=>?_) (fun ba=>?_)
     ·refine qm ?_ (hg:=wi ba);refine qg ?_ (hg:=wi ba);refine qt ba ?_;refine qg ?_;refine qm ?_;refine ab.two 25 rfl (fun bh=>?_) (fun bh=>?_)
      ·refine qs ?_ (hg:=wn bh);refine qs ?_ (hg:=wn bh);refine qs ?_ (hg:=wn bh);refine qs ?_;refine qs ?_;refine qs ?_ (hg:=wn bh);refine qt bh ?_;refine qm ?_;refine ab.nil (aQ ?_);dsimp only[aI,List.foldl,nth,u2,u1];dsimp only[Fr.az,Fr.put,Fr.clean,Fr.ev,Fr.get,nth,V.look,u1,u2,v1,v2,v3,v4,v5,v6,v7,List.length,u3,u4,Nat.reduceSub,Nat.reduceAdd,List.map]
       all_goals(simp[bd,cQ,cN,ba,bh];done)
      ·refine qm ?_ (hg:=wi bh);refine qg ?_ (hg:=wi bh);refine qm ?_ (hg:=wi bh);refine ab.two 28 rfl (fun bc=>?_) (fun bc=>?_)
       ·refine qm ?_ (hg:=wi bc);refine qg ?_ (hg:=wi bc);refine ab.b_ (ah rfl rfl rfl bh) rfl bc (aa rfl _) ?_;refine qu bh ?_;refine qm ?_;refine ab.nil (aQ ?_);dsimp only[aI,List.foldl,nth,u2,u1];dsimp only[Fr.az,Fr.put,Fr.clean,Fr.ev,Fr.get,nth,V.look,u1,u2,v1,v2,v3,v4,v5,v6,v7,List.length,u3,u4,Nat.reduceSub,Nat.reduceAdd,List.map]
        all_goals(simp[bd,cQ,cN,ba,bh,bc];done)
       ·refine qs ?_ (hg:=wn bc);refine qs ?_ (hg:=wn bc);refine ab.bM (ah rfl rfl rfl bh) rfl bc (aa rfl _) ?_;refine qu bh ?_;refine qm ?_;refine ab.nil (aQ ?_);dsimp only[aI,List.foldl,nth,u2,u1];dsimp only[Fr.az,Fr.put,Fr.clean,Fr.ev,Fr.get,nth,V.look,u1,u2,v1,v2,v3,v4,v5,v6,v7,List.length,u3,u4,Nat.reduceSub,Nat.reduceAdd,List.map]
        all_goals(simp[bd,cQ,cN,ba,bh,bc];done)
     ·refine qs ?_ (hg:=wn ba);refine qs ?_ (hg:=wn ba);refine qu ba ?_;refine qg ?_;refine qm ?_;refine qm ?_;refine qg ?_;refine qm ?_;refine ab.two 28 rfl (fun bc=>?_) (fun bc=>?_)
      ·refine qm ?_ (hg:=wi bc);refine qg ?_ (hg:=wi bc);refine qt bc ?_;refine qg ?_;refine qm ?_;refine ab.nil (aQ ?_);dsimp only[aI,List.foldl,nth,u2,u1];dsimp only[Fr.az,Fr.put,Fr.clean,Fr.ev,Fr.get,nth,V.look,u1,u2,v1,v2,v3,v4,v5,v6,v7,List.length,u3,u4,Nat.reduceSub,Nat.reduceAdd,List.map]
       all_goals(simp[bd,cQ,cN,ba,bc];done)
      ·refine qs ?_ (hg:=wn bc);refine qs ?_ (hg:=wn bc);refine qu bc ?_;refine qg ?_;refine qm ?_;refine ab.nil (aQ ?_);dsimp only[aI,List.foldl,nth,u2,u1];dsimp only[Fr.az,Fr.put,Fr.clean,Fr.ev,Fr.get,nth,V.look,u1,u2,v1,v2,v3,v4,v5,v6,v7,List.length,u3,u4,Nat.reduceSub,Nat.reduceAdd,List.map]
       all_goals(simp[bd,cQ,cN,ba,bc];done)
  ·refine qs ?_ (hg:=wn bd);refine qs ?_ (hg:=wn bd);refine qu bd ?_;refine qm ?_;refine qm ?_;refine qg ?_;refine qm ?_;refine ab.two 12 rfl (fun cN=>?_) (fun cN=>?_)
   ·refine qm ?_ (hg:=wi cN);refine qg ?_ (hg:=wi cN);refine qt cN ?_;refine qg ?_;refine qm ?_;refine ab.two 17 rfl (fun dG=>?_) (fun dG=>?_)
    ·refine qs ?_ (hg:=wn dG);refine qs ?_ (hg:=wn dG);refine qs ?_ (hg:=wn dG);refine qs ?_;refine qs ?_;refine qs ?_ (hg:=wn dG);refine qt dG ?_;refine qm ?_;refine qs ?_;refine qs ?_;refine qs ?_;refine qs ?_;refine qs ?_;refine qs ?_;refine qg ?_;refine qm ?_;refine ab.nil (aQ ?_);dsimp only[aI,List.foldl,nth,u2,u1];dsimp only[Fr.az,Fr.put,Fr.clean,Fr.ev,Fr.get,nth,V.look,u1,u2,v1,v2,v3,v4,v5,v6,v7,List.length,u3,u4,Nat.reduceSub,Nat.reduceAdd,List.map]
     all_goals(simp[bd,cN,dG];done)
    ·refine qm ?_ (hg:=wi dG);refine qg ?_ (hg:=wi dG);refine qm ?_ (hg:=wi dG);refine ab.two 20 rfl (fun ba=>?_) (fun ba=>?_)
     ·refine qm ?_ (hg:=wi ba);refine qg ?_ (hg:=wi ba);refine ab.b_ (ah rfl rfl rfl dG) rfl ba (aa rfl _) ?_;refine qu dG ?_;refine qm ?_;refine ab.two 25 rfl (fun bh=>?_) (fun bh=>?_)
      ·refine qs ?_ (hg:=wn bh);refine qs ?_ (hg:=wn bh);refine qs ?_ (hg:=wn bh);refine qs ?_;refine qs ?_;refine qs ?_ (hg:=wn bh);refine qt bh ?_;refine qm ?_;refine ab.nil (aQ ?_);dsimp only[aI,List.foldl,nth,u2,u1];dsimp only[Fr.az,Fr.put,Fr.clean,Fr.ev,Fr.get,nth,V.look,u1,u2,v1,v2,v3,v4,v5,v6,v7,List.length,u3,u4,Nat.reduceSub,Nat.reduceAdd,List.map]
       all_goals(simp[bd,cN,dG,ba,bh];done)
      ·refine qm ?_ (hg:=wi bh);refine qg ?_ (hg:=wi bh);refine qm ?_ (hg:=wi bh);refine ab.two 28 rfl (fun bc=>?_) (fun bc=>?_)
       ·refine qm ?_ (hg:=wi bc);refine qg ?_ (hg:=wi bc);refine ab.b_ (ah rfl rfl rfl bh) rfl bc (aa rfl _) ?_;refine qu bh ?_;refine qm ?_;refine ab.nil (aQ ?_);dsimp only[aI,List.foldl,nth,u2,u1];dsimp only[Fr.az,Fr.put,Fr.clean,Fr.ev,Fr.get,nth,V.look,u1,u2,v1,v2,v3,v4,v5,v6,v7,List.length,u3,u4,Nat.reduceSub,Nat.reduceAdd,List.map]
        all_goals(simp[bd,cN,dG,ba,bh,bc];done)
       ·refine qs ?_ (hg:=wn bc);refine qs ?_ (hg:=wn bc);refine ab.bM (ah rfl rfl rfl bh) rfl bc (aa rfl _) ?_;refine qu bh ?_;refine qm ?_;refine ab.nil (aQ ?_);dsimp only[aI,List.foldl,nth,u2,u1];dsimp only[Fr.az,Fr.put,Fr.clean,Fr.ev,Fr.get,nth,V.look,u1,u2,v1,v2,v3,v4,v5,v6,v7,List.length,u3,u4,Nat.reduceSub,Nat.reduceAdd,List.map]
        all_goals(simp[bd,cN,dG,ba,bh,bc];done)
     ·refine qs ?_ (hg:=wn ba);refine qs ?_ (hg:=wn ba);refine ab.bM (ah rfl rfl rfl dG) rfl ba (aa rfl _) ?_;refine qu dG ?_;refine qm ?_;refine qm ?_;refine qg ?_;refine qm ?_;refine ab.two 28 rfl (fun bc=>?_) (fun bc=>?_)
      ·refine qm ?_ (hg:=wi bc);refine qg ?_ (hg:=wi bc);refine qt bc ?_;refine qg ?_;refine qm ?_;refine ab.nil (aQ ?_);dsimp only[aI,List.foldl,nth,u2,u1];dsimp only[Fr.az,Fr.put,Fr.clean,Fr.ev,Fr.get,nth,V.look,u1,u2,v1,v2,v3,v4,v5,v6,v7,List.length,u3,u4,Nat.reduceSub,Nat.reduceAdd,List.map]
       all_goals(simp[bd,cN,dG,ba,bc];done)
      ·refine qs ?_ (hg:=wn bc);refine qs ?_ (hg:=wn bc);refine qu bc ?_;refine qg ?_;refine qm ?_;refine ab.nil (aQ ?_);dsimp only[aI,List.foldl,nth,u2,u1];dsimp only[Fr.az,Fr.put,Fr.clean,Fr.ev,Fr.get,nth,V.look,u1,u2,v1,v2,v3,v4,v5,v6,v7,List.length,u3,u4,Nat.reduceSub,Nat.reduceAdd,List.map]
       all_goals(simp[bd,cN,dG,ba,bc];done)
   ·refine qs ?_ (hg:=wn cN);refine qs ?_ (hg:=wn cN);refine qu cN ?_;refine qg ?_;refine qm ?_;refine qm ?_;refine qg ?_;refine qm ?_;refine ab.two 20 rfl (fun ba=>?_) (fun ba=>?_)
    ·refine qm ?_ (hg:=wi ba);refine qg ?_ (hg:=wi ba);refine qt ba ?_;refine qg ?_;refine qm ?_;refine ab.two 25 rfl (fun bh=>?_) (fun bh=>?_)
     ·refine qs ?_ (hg:=wn bh);refine qs ?_ (hg:=wn bh);refine qs ?_ (hg:=wn bh);refine qs ?_;refine qs ?_;refine qs ?_ (hg:=wn bh);refine qt bh ?_;refine qm ?_;refine ab.nil (aQ ?_);dsimp only[aI,List.foldl,nth,u2,u1];dsimp only[Fr.az,Fr.put,Fr.clean,Fr.ev,Fr.get,nth,V.look,u1,u2,v1,v2,v3,v4,v5,v6,v7,List.length,u3,u4,Nat.reduceSub,Nat.reduceAdd,List.map]
      all_goals(simp[bd,cN,ba,bh];done)
     ·refine qm ?_ (hg:=wi bh);refine qg ?_ (hg:=wi bh);refine qm ?_ (hg:=wi bh);refine ab.two 28 rfl (fun bc=>?_) (fun bc=>?_)
      ·refine qm ?_ (hg:=wi bc);refine qg ?_ (hg:=wi bc);refine ab.b_ (ah rfl rfl rfl bh) rfl bc (aa rfl _) ?_;refine qu bh ?_;refine qm ?_;refine ab.nil (aQ ?_);dsimp only[aI,List.foldl,nth,u2,u1];dsimp only[Fr.az,Fr.put,Fr.clean,Fr.ev,Fr.get,nth,V.look,u1,u2,v1,v2,v3,v4,v5,v6,v7,List.length,u3,u4,Nat.reduceSub,Nat.reduceAdd,List.map]
       all_goals(simp[bd,cN,ba,bh,bc];done)
      ·refine qs ?_ (hg:=wn bc);refine qs ?_ (hg:=wn bc);refine ab.bM (ah rfl rfl rfl bh) rfl bc (aa rfl _) ?_;refine qu bh ?_;refine qm ?_;refine ab.nil (aQ ?_);dsimp only[aI,List.foldl,nth,u2,u1];dsimp only[Fr.az,Fr.put,Fr.clean,Fr.ev,Fr.get,nth,V.look,u1,u2,v1,v2,v3,v4,v5,v6,v7,List.length,u3,u4,Nat.reduceSub,Nat.reduceAdd,List.map]
       all_goals(simp[bd,cN,ba,bh,bc];done)
    ·refine qs ?_ (hg:=wn ba);refine qs ?_ (hg:=wn ba);refine qu ba ?_;refine qg ?_;refine qm ?_;refine qm ?_;refine qg ?_;refine qm ?_;refine ab.two 28 rfl (fun bc=>?_) (fun bc=>?_)
     ·refine qm ?_ (hg:=wi bc);refine qg ?_ (hg:=wi bc);refine qt bc ?_;refine qg ?_;refine qm ?_;refine ab.nil (aQ ?_);dsimp only[aI,List.foldl,nth,u2,u1];dsimp only[Fr.az,Fr.put,Fr.clean,Fr.ev,Fr.get,nth,V.look,u1,u2,v1,v2,v3,v4,v5,v6,v7,List.length,u3,u4,Nat.reduceSub,Nat.reduceAdd,List.map]
      all_goals(simp[bd,cN,ba,bc];done)
     ·refine qs ?_ (hg:=wn bc);refine qs ?_ (hg:=wn bc);refine qu bc ?_;refine qg ?_;refine qm ?_;refine ab.nil (aQ ?_);dsimp only[aI,List.foldl,nth,u2,u1];dsimp only[Fr.az,Fr.put,Fr.clean,Fr.ev,Fr.get,nth,V.look,u1,u2,v1,v2,v3,v4,v5,v6,v7,List.length,u3,u4,Nat.reduceSub,Nat.reduceAdd,List.map]
      all_goals(simp[bd,cN,ba,bc];done)
 dsimp only[aI,List.foldl,nth,u2,u1];refine af.ret ⟨rx,_,rfl,rl cE hH (rfl)⟩
end Go.Proofs.Ytnleclohocdkaaa
