/-
 Arguments as the row reads them are values of V; no conditions.
-/
import Derived.Test.YtajblankjjmonaaGreatWM2
import Derived.DataReads
import Derived.ChangeOld
import GoSem.ClaimChange
import Derived.Below
import Derived.Test.YtajblankjjmonaaGreatRows
import Derived.Test.YtajblankjjmonaaGreatWGCa
import Derived.Test.YtajblankjjmonaaGreatWGHr
import Derived.Test.YtajblankjjmonaaGreatWPx
import Derived.KernelRfl
import Derived.Test.YtajblankjjmonaaGreatWDgp
set_option linter.unusedSimpArgs false
set_option linter.unusedVariables false
set_option linter.unusedSectionVars false
set_option linter.unnecessarySimpa false
set_option maxRecDepth 100000
set_option maxHeartbeats 4000000
namespace Go.V
open Go.RowKit
def ni {H:Type}:DataW H→Bool
 | .agg _=>true
 |_=>false
mutual
def ua {H:Type}:DataW H→List D
 | .lit (.bool b)=>[.bool b]
 | .lit (.int k n)=>[.int k n]
 | .lit (.string l)=>[.str l]
 | .lit _=>[.junk]
 | .nil=>[.nul]
 | .slice elems _=>[.sl (tM elems)]
 | .agg parts=>j9 parts
 | .ptr _=>[.junk]
 | .iface _ _=>[.junk]
 | .map _=>[.junk]
 | .held _=>[.junk]
def tM {H:Type}:List (DataW H)→List D
 |[]=>[]
 |d::r=>(if ni d then .agg (ua d) else(ua d).headD .junk)::tM r
def j9 {H:Type}:List (DataW H)→List D
 |[]=>[]
 |d::r=>ua d++j9 r
end
def dval {H:Type} (d:DataW H):D:=if ni d then .agg (ua d) else(ua d).headD .junk
theorem p_ {H:Type}:∀l:List (DataW H),tM l=l.map dval
 |[]=>rfl
 |d::r=>by simp only[tM,List.map_cons,p_ r];rfl
def qd (P:Program):Nat→List Field→Option Nat
 |o,[]=>some o
 |o,f::fs=>if f.offset=o then qd P (o+P.cellsOf f.type) fs else none
def DP (P:Program):Nat→TypeId→Bool
 |0,_=>false
 |n+1,t=>match P.underlying t with
  |some .bool=>true
  |some (.int _)=>true
  |some .string=>true
  |some (.slice e)=>DP P n e &&decide (0<P.cellsOf e)
  |some (.struct fs)=>(qd P 0 fs.toList==some (P.cellsOf t)) &&fs.toList.all fun f=>DP P n f.type
  |some (.array m e)=>DP P n e &&(P.cellsOf t==m*P.cellsOf e)
  |_=>false
structure CR (w:World) (Z:Nat→Prop) (cs:List D) (vs:List Value):Prop where
 len:cs.length=vs.length
 one:∀v∈vs,v.oneCell'=true
 onec:∀c∈cs,c.cells?=some [c]
 rel:∀(i:Nat) c v,cs[i]?=some c→vs[i]?=some v→IR w Z c v
theorem CR.nil {w:World} {Z:Nat→Prop}:CR w Z [] []:=⟨rfl,by simp,by simp,by simp⟩
theorem CR.single {w:World} {Z:Nat→Prop} {c:D} {v:Value} (h:IR w Z c v) (h1:v.oneCell'=true) (h2:c.cells?=some [c]):CR w Z [c] [v]:=
 ⟨rfl,by simpa using h1,by simpa using h2,fun i c' v' hc hv=>by
  cases i with
  |zero=>simp at hc hv;subst hc;subst hv;exact h
  |succ i=>simp at hc⟩
theorem CR.append {w:World} {Z:Nat→Prop} {cs cs':List D} {vs Ho:List Value} (h:CR w Z cs vs) (g:CR w Z cs' Ho):CR w Z (cs++cs') (vs++Ho):=by
 refine⟨by simp[h.len,g.len],fun v hv=>?_,fun c hc=>?_,fun i c v hc hv=>?_⟩
 ·rcases List.mem_append.1 hv with hv|hv
  ·exact h.one v hv
  ·exact g.one v hv
 ·rcases List.mem_append.1 hc with hc|hc
  ·exact h.onec c hc
  ·exact g.onec c hc
 ·rw[List.getElem?_append] at hc hv;have:=h.len
  split at hc
  ·rw[if_pos (by omega)] at hv;exact h.rel i c v hc hv
  ·rw[if_neg (by omega)] at hv;rw[←this] at hv;exact g.rel _ c v hc hv
theorem uU {H:Type} {P:Program} {w:World} {Z:Nat→Prop} {f:Field→Option (DataW H×List MemPlace)} {cs:List Value}:∀{fs:List Field} {o e:Nat} {xs:List (DataW H×List MemPlace)},qd P o fs=some e→e≤cs.length→fs.mapM f=some xs→
  (∀g∈fs,∀x,f g=some x→CR w Z (ua x.1) ((cs.drop g.offset).take (P.cellsOf g.type)))→CR w Z (j9 (xs.map (·.1))) ((cs.drop o).take (e-o))∧o≤e
 |[],o,e,xs,hc,_,hm,_=>by
  simp[qd] at hc;subst hc;simp at hm;subst hm;simp[j9];exact CR.nil
 |g::fs,o,e,xs,hc,he,hm,hx=>by
  simp only[qd] at hc
  split at hc
  ·rename_i ho;rw[List.mapM_cons] at hm
   cases h1:f g with
   |none=>rw[h1] at hm;simp at hm
   |some x=>
    rw[h1] at hm
    cases h2:fs.mapM f with
    |none=>rw[h2] at hm;simp at hm
    |some ys=>
     rw[h2] at hm;simp at hm;subst hm;obtain⟨ih,hle⟩:=uU hc he h2 fun g' Rx=>hx g' (List.mem_cons_of_mem _ Rx);have hg:=hx g (List.mem_cons_self ..) x h1;rw[ho] at hg;refine⟨?_,by omega⟩;simp only[List.map_cons,j9]
     have:(cs.drop o).take (e-o)=(cs.drop o).take (P.cellsOf g.type)++(cs.drop (o+P.cellsOf g.type)).take (e-(o+P.cellsOf g.type)):=by
      rw[←List.drop_drop,show e-o=P.cellsOf g.type+(e-(o+P.cellsOf g.type)) by omega,List.take_add]
     rw[this];exact hg.append ih
  ·cases hc
theorem vQ {H:Type} {w:World} {Z:Nat→Prop} {s:Nat} {f:Nat→Option (DataW H×List MemPlace)} {cs:List Value}:∀{m k:Nat} {xs:List (DataW H×List MemPlace)},(List.range' k m).mapM f=some xs→(k+m)*s≤cs.length→
  (∀i x,f i=some x→CR w Z (ua x.1) ((cs.drop (i*s)).take s))→CR w Z (j9 (xs.map (·.1))) ((cs.drop (k*s)).take (m*s))
 |0,k,xs,hm,_,_=>by simp at hm;subst hm;simp[j9];exact CR.nil
 |m+1,k,xs,hm,hl,hx=>by
  rw[List.range'_succ,List.mapM_cons] at hm
  cases h1:f k with
  |none=>rw[h1] at hm;simp at hm
  |some x=>
   rw[h1] at hm
   cases h2:(List.range' (k+1) m).mapM f with
   |none=>rw[h2] at hm;simp at hm
   |some ys=>
    rw[h2] at hm;simp at hm;subst hm;have ih:=vQ h2 (by rw[show k+1+m=k+(m+1) by omega];exact hl) hx;simp only[List.map_cons,j9];rw[show(m+1)*s=s+m*s by rw[Nat.add_mul];omega,List.take_add,List.drop_drop,show k*s+s=(k+1)*s by rw[Nat.add_mul];omega];exact(hx k x h1).append ih
theorem cells_one {c:D} (h:c.cells?=some [c]):c.cells=[c]:=by
 cases c<;>first|rfl|cases h|(simp only[D.cells?,Option.some.injEq] at h;simpa only[D.cells] using h)
theorem wu (b off n:Nat):(⟨b,off,none⟩:Addr).add n=⟨b,off+n,none⟩:=by
 cases n<;>simp[Addr.add]
theorem oA {H:Type} {enc:TypeId×Value→H} {P:Program} {w:World} {spare:Nat→Bool} {held:Bool}:∀(fuel:Nat) (t:TypeId) (cs:List Value) (d:DataW H) (ps:List MemPlace) (n:Nat),DataW.trod enc P w 0 spare held fuel t cs=some (d,ps)→DP P n t=true→
  CR w (fun b=>b<w.heap.size) (ua d) cs∧cs.length=(match P.underlying t with|some (.struct _)|some (.array _ _)=>P.cellsOf t|_=>1)∧(ni d=(match P.underlying t with|some (.struct _)|some (.array _ _)=>true|_=>false))
 |0,t,cs,d,ps,n,h,_=>by simp[DataW.trod] at h
 |fuel+1,t,cs,d,ps,0,h,ht=>by simp[DP] at ht
 |fuel+1,t,cs,d,ps,n+1,h,ht=>by
  simp only[DP] at ht;unfold DataW.trod at h
  cases hu:P.underlying t with
  |none=>rw[hu] at ht;simp at ht
  |some u=>
   rw[hu] at h ht
   cases u with
   |bool=>
    rcases cs with _|⟨v,_|⟨v2,cs⟩⟩<;>try(simp at h;done)
    cases v<;>simp at h
    obtain⟨rfl,rfl⟩:=h;exact⟨CR.single (.bool _) rfl rfl,rfl,rfl⟩
   |int k=>
    rcases cs with _|⟨v,_|⟨v2,cs⟩⟩<;>try(simp at h;done)
    cases v<;>simp at h
    obtain⟨⟨rfl,_⟩,rfl,rfl⟩:=h;exact⟨CR.single (.int _ _) rfl rfl,rfl,rfl⟩
   |string=>
    rcases cs with _|⟨v,_|⟨v2,cs⟩⟩<;>try(simp at h;done)
    cases v<;>simp at h
    rename_i b;obtain⟨_,rfl,rfl⟩:=h;refine⟨CR.single ?_ rfl rfl,rfl,rfl⟩;have:=IR.str (w:=w) (Z:=fun b=>b<w.heap.size) b.data.toList
    simpa using this
   |slice e=>
    simp only[Bool.and_eq_true,decide_eq_true_eq] at ht
    rcases cs with _|⟨v,_|⟨v2,cs⟩⟩<;>try(simp at h;done)
    cases v<;>try(simp at h;done)
    rename_i a len cap
    cases a with
    |none=>
     cases len<;>cases cap<;>simp at h
     obtain⟨rfl,rfl⟩:=h;exact⟨CR.single .nul rfl rfl,rfl,rfl⟩
    |some a=>
     simp only at h
     split at h
     ·rename_i hc;simp only[Option.bind_eq_some_iff,Option.map_eq_some_iff] at h;obtain⟨elems,he,rest,hr,hd⟩:=h;cases hd;refine⟨?_,rfl,rfl⟩;have hlen:elems.length=len:=by simpa using mapM_some_length he
      have hget:=mapM_some_get he
      have each:∀(i:Nat),i<len→∃x cs,elems[i]?=some x∧w.cells? 0 (a.add (i*P.cellsOf e)) (P.cellsOf e)=some cs∧CR w (fun b=>b<w.heap.size) (ua x.1) cs∧cs.length=P.cellsOf e∧(ni x.1=(match P.underlying e with|some (.struct _)|some (.array _ _)=>true|_=>false))∧cs.length=(match P.underlying e with|some (.struct _)|some (.array _ _)=>P.cellsOf e|_=>1):=by
       intro i hi;have h1:=hget i i (by simp[hi]);have h2:elems[i]?=some (elems[i]'(by omega)):=List.getElem?_eq_getElem _;rw[h2] at h1;obtain⟨cs,jk,hx⟩:=Option.bind_eq_some_iff.1 h1;obtain⟨q1,q2,q3⟩:=oA fuel e cs _ _ n hx ht.1;exact⟨_,cs,h2,jk,q1,(World.cells?_some jk).2.1,q3,q2⟩
      refine CR.single ?_ rfl rfl
      cases len with
      |zero=>
       have:elems=[]:=by cases elems with|nil=>rfl|cons _ _=>simp at hlen
       subst this;exact .emp _ _
      |succ m=>
       have JM:a.spot=none∧a.block<w.heap.size:=by
        obtain⟨x,cs,_,h2,_,_⟩:=each 0 (by omega);refine⟨?_,?_⟩
        ·have:=(World.cells?_some h2).2.2 0 ht.2;have hl:=(World.cells?_some h2).2.1
         obtain⟨c0,I6⟩:∃c0,cs[0]?=some c0:=⟨cs[0]'(by omega),List.getElem?_eq_getElem _⟩
         rw[I6] at this
         simpa[Addr.add] using World.cell?_spot this
        ·simpa[Addr.add] using World.cells?_block h2 ht.2
       obtain⟨b,off,spot⟩:=a;simp only at JM;obtain⟨rfl,hb⟩:=JM
       have hcell:∀(i j:Nat),i<m+1→j<P.cellsOf e→∃x cs v,elems[i]?=some x∧cs[j]?=some v∧w.cell? ⟨b,off+(i*P.cellsOf e+j),none⟩=some v∧CR w (fun b=>b<w.heap.size) (ua x.1) cs:=by
        intro i j hi hj;obtain⟨x,cs,h1,h2,h3,h4,_⟩:=each i hi;have:=(World.cells?_some h2).2.2 j hj
        obtain⟨v,hv⟩:∃v,cs[j]?=some v:=⟨cs[j]'(by omega),List.getElem?_eq_getElem _⟩
        rw[hv] at this;refine⟨x,cs,v,h1,hv,?_,h3⟩;rw[←this,wu,wu,Nat.add_assoc]
       have oP:(tM (elems.map (·.1)))=elems.map fun x=>dval x.1:=by rw[p_,List.map_map];rfl
       have hE:∀(i:Nat) q,(tM (elems.map (·.1)))[i]?=some q→∃x cs,i<m+1∧elems[i]?=some x∧q.cells?=some q.cells∧q.cells=ua x.1∧CR w (fun b=>b<w.heap.size) (ua x.1) cs∧cs.length=P.cellsOf e:=by
        intro i q hq;rw[oP,List.getElem?_map] at hq;obtain⟨x,hx,rfl⟩:=Option.map_eq_some_iff.1 hq
        have hi:i<m+1:=by
         rcases Nat.lt_or_ge i (m+1) with h'|h'
         ·exact h'
         ·rw[List.getElem?_eq_none (by omega)] at hx;cases hx
        obtain⟨x',cs,h1,h2,h3,h4,h5,h6⟩:=each i hi;rw[hx] at h1;cases h1;refine⟨x,cs,hi,hx,?_,?_,h3,h4⟩
        ·unfold dval
         split
         ·rfl
         ·rename_i F8
          have tw:(ua x.1).length=1:=by
           rw[h3.len,h6];rw[h5] at F8
           revert F8
           split<;>simp
          match hd:ua x.1,tw with
          |[c],_=>have:=h3.onec c (by rw[hd];simp);simp only[List.headD_cons];rw[cells_one this];exact this
        ·unfold dval
         split
         ·rfl
         ·rename_i F8
          have tw:(ua x.1).length=1:=by
           rw[h3.len,h6];rw[h5] at F8
           revert F8
           split<;>simp
          match hd:ua x.1,tw with
          |[c],_=>have:=h3.onec c (by rw[hd];simp);simp only[List.headD_cons];exact cells_one this
       have hL:(tM (elems.map (·.1))).length=m+1:=by rw[oP];simp[hlen]
       have hf:=fun(i j:Nat) (hi:i<m+1) (hj:j<P.cellsOf e)=>hcell i j hi hj;have:=IR.sl (w:=w) (Z:=fun b=>b<w.heap.size) (tM (elems.map (·.1))) b off cap (P.cellsOf e) (fun i j=>(w.cell? ⟨b,off+(i*P.cellsOf e+j),none⟩).getD undef) hb (by rw[hL];exact hc.2.1)
        (fun i q hq=>by
         obtain⟨x,cs,h1,h2,h3,h4,h5,h6⟩:=hE i q hq
         exact⟨h3,by rw[h4,h5.len,h6]⟩)
        (fun i q j c hq hj=>by
         obtain⟨x,cs,h1,h2,h3,h4,h5,h6⟩:=hE i q hq
         have jB:j<P.cellsOf e:=by
          rcases Nat.lt_or_ge j (P.cellsOf e) with h'|h'
          ·exact h'
          ·rw[h4,List.getElem?_eq_none (by rw[h5.len,h6];exact h')] at hj;cases hj
         obtain⟨x',cs',v,g1,g2,g3,g4⟩:=hf i j h1 jB;rw[g3]
         exact⟨rfl,g4.one v (List.mem_of_getElem? g2)⟩)
        (fun i q j c hq hj=>by
         obtain⟨x,cs,h1,h2,h3,h4,h5,h6⟩:=hE i q hq
         have jB:j<P.cellsOf e:=by
          rcases Nat.lt_or_ge j (P.cellsOf e) with h'|h'
          ·exact h'
          ·rw[h4,List.getElem?_eq_none (by rw[h5.len,h6];exact h')] at hj;cases hj
         obtain⟨x',cs',v,g1,g2,g3,g4⟩:=hf i j h1 jB;rw[g3];rw[h2] at g1;cases g1
         exact g4.rel j c v (by rw[←h4];exact hj) g2)
       rw[hL] at this;exact this
     ·cases h
   |struct fs=>
    simp only[Bool.and_eq_true,beq_iff_eq,List.all_eq_true] at ht;simp only at h
    split at h
    ·rename_i hl;obtain⟨xs,hx,hd⟩:=Option.map_eq_some_iff.1 h;cases hd;refine⟨?_,hl,rfl⟩;obtain⟨h1,_⟩:=uU (w:=w) (Z:=fun b=>b<w.heap.size) (cs:=cs) ht.1 (by omega) hx fun g hg x Ru=>(oA fuel g.type _ _ _ n Ru (ht.2 g hg)).1;rw[List.drop_zero,Nat.sub_zero,←hl,List.take_length] at h1;exact h1
    ·cases h
   |array m e=>
    simp only[Bool.and_eq_true,beq_iff_eq] at ht;simp only at h
    split at h
    ·rename_i hl;obtain⟨xs,hx,hd⟩:=Option.map_eq_some_iff.1 h;cases hd;refine⟨?_,hl,rfl⟩;rw[List.range_eq_range'] at hx;have h1:=vQ (w:=w) (Z:=fun b=>b<w.heap.size) (s:=P.cellsOf e) (cs:=cs) hx (by rw[Nat.zero_add,←ht.2,hl];exact Nat.le_refl _) fun i x ON=>(oA fuel e _ _ _ n ON ht.1).1;rw[Nat.zero_mul,List.drop_zero,←ht.2,←hl,List.take_length] at h1;exact h1
    ·cases h
   |_=>simp at ht
theorem trod_ir {H:Type} {enc:TypeId×Value→H} {P:Program} {w:World} {spare:Nat→Bool} {held:Bool} {r:Reach} {base:Nat} {t:TypeId} {v:Value} {d:DataW H} {ps:List MemPlace} {n:Nat} (h:DataW.Trod enc P w 0 spare held t v d ps) (ht:DP P n t=true) (hv:Value.okWide P w r base t v):
  IR w (fun b=>b<w.heap.size) (dval d) v:=by
 obtain⟨fuel,hf⟩:=h;obtain⟨h1,h2,h3⟩:=oA fuel t _ d ps n hf ht
 have hu:∃u,P.underlying t=some u:=by
  cases n with
  |zero=>simp[DP] at ht
  |succ n=>
   simp only[DP] at ht
   cases hu:P.underlying t with
   |none=>rw[hu] at ht;simp at ht
   |some u=>exact⟨u,rfl⟩
 obtain⟨u,hu⟩:=hu;unfold Value.okWide at hv;rw[hu] at hv h2 h3
 have Jb:(∃cs:Array Value,v=.agg cs)→ni d=true→IR w (fun b=>b<w.heap.size) (dval d) v:=by
  rintro⟨cs,rfl⟩ hd;unfold dval;rw[if_pos hd];have:=IR.agg (w:=w) (Z:=fun b=>b<w.heap.size) (ua d) cs.toList (by simpa[Value.cells] using h1.len) (by simpa[Value.cells] using h1.one) (by simpa[Value.cells] using h1.rel)
  simpa using this
 have fY:ni d=false→v.cells.toList.length=1→(∀cs,v≠.agg cs)→IR w (fun b=>b<w.heap.size) (dval d) v:=by
  intro hd hl F8;unfold dval;rw[if_neg (by rw[hd];simp)]
  have hc:v.cells.toList=[v]:=by cases v<;>first|rfl|exact absurd rfl (F8 _)
  rw[hc] at h1
  match hq:ua d,h1.len with
  |[c],_=>exact h1.rel 0 c v (by rw[hq];rfl) rfl
 have hcell:Cell.okWide P w r base t v→∀cs,v≠.agg cs:=by
  rintro hc cs rfl;unfold Cell.okWide at hc;rw[hu] at hc;cases u<;>simp[Cell.ok,hu] at hc
 cases u with
 |struct fs=>obtain⟨cs,h,_⟩:=hv;exact Jb ⟨cs,h⟩ h3
 |array m e=>obtain⟨cs,h,_⟩:=hv;exact Jb ⟨cs,h⟩ h3
 |_=>exact fY h3 h2 (hcell hv)
end Go.V
namespace Go.V
open Go.RowKit
theorem law_calls {pv:Pv} {P:Program} (h:pv.Ok P∧pv.jm∧gO P pv (eF pv)) {f:Nat} {ds:List D} {ae:St} (hs:Ev pv f ds ⟨[],0,0⟩ (.bool true) ae) {w:World} {us:List Value} (hl:ds.length=us.length)
  (hr:∀(i:Nat) c v,ds[i]?=some c→us[i]?=some v→IR w (fun b=>b<w.heap.size) c v):Calls P f us.toArray w fun e w'=>e=.returned (.bool true)∧Below w.heap.size w w':=by
 obtain⟨N,hN⟩:=Ev.out hs;refine(sound h (hN N (Nat.le_refl _)) (w:=w) (Z:=fun b=>b<w.heap.size) (fun _ h=>h) hl hr).mono fun e w'=>?_;rintro⟨v,β',Z',rfl,he,hv⟩;rw[dB hv];exact⟨rfl,⟨he.os,he.tape,he.output,he.size,fun k hk=>he.block k hk fun f=>f⟩⟩
end Go.V
namespace Go.V
open Go.RowKit
def Rd {H:Type} (enc:TypeId×Value→H) (P:Program) (w:World) (spare:Nat→Bool) (held:Bool) (t:TypeId) (d:DataW H):Prop:=
 ∃fuel cs ps,DataW.trod enc P w 0 spare held fuel t cs=some (d,ps)
section
variable{H:Type} {enc:TypeId×Value→H} {P:Program} {w:World} {spare:Nat→Bool} {held:Bool} {t e:TypeId} {d:DataW H}
theorem Rd.of {v:Value} {ps:List MemPlace} (h:DataW.Trod enc P w 0 spare held t v d ps):Rd enc P w spare held t d:=by
 obtain⟨fuel,h⟩:=h;exact⟨fuel,_,_,h⟩
theorem Rd.int {k:IntKind} (h:Rd enc P w spare held t d) (ht:P.underlying t=some (.int k)):∃n:Int,d=.lit (.int k n)∧(Lit.int k n).wf=true:=by
 obtain⟨fuel,cs,ps,h⟩:=h
 cases fuel with
 |zero=>simp[DataW.trod] at h
 |succ fuel=>
  unfold DataW.trod at h;rw[ht] at h
  rcases cs with _|⟨v,_|⟨v2,cs⟩⟩<;>try(simp at h;done)
  cases v<;>simp at h
  obtain⟨⟨rfl,hw⟩,rfl,_⟩:=h;exact⟨_,rfl,hw⟩
theorem Rd.bool (h:Rd enc P w spare held t d) (ht:P.underlying t=some .bool):∃b:Bool,d=.lit (.bool b):=by
 obtain⟨fuel,cs,ps,h⟩:=h
 cases fuel with
 |zero=>simp[DataW.trod] at h
 |succ fuel=>
  unfold DataW.trod at h;rw[ht] at h
  rcases cs with _|⟨v,_|⟨v2,cs⟩⟩<;>try(simp at h;done)
  cases v<;>simp at h
  obtain⟨rfl,_⟩:=h;exact⟨_,rfl⟩
theorem Rd.string (h:Rd enc P w spare held t d) (ht:P.underlying t=some .string):∃l:List UInt8,d=.lit (.string l):=by
 obtain⟨fuel,cs,ps,h⟩:=h
 cases fuel with
 |zero=>simp[DataW.trod] at h
 |succ fuel=>
  unfold DataW.trod at h;rw[ht] at h
  rcases cs with _|⟨v,_|⟨v2,cs⟩⟩<;>try(simp at h;done)
  cases v<;>simp at h
  obtain⟨_,rfl,_⟩:=h;exact⟨_,rfl⟩
theorem Rd.slice (h:Rd enc P w spare held t d) (ht:P.underlying t=some (.slice e)):d=.nil∨∃elems rest,d=.slice elems rest∧∀x∈elems,Rd enc P w spare held e x:=by
 obtain⟨fuel,cs,ps,h⟩:=h
 cases fuel with
 |zero=>simp[DataW.trod] at h
 |succ fuel=>
  unfold DataW.trod at h;rw[ht] at h
  rcases cs with _|⟨v,_|⟨v2,cs⟩⟩<;>try(simp at h;done)
  cases v<;>try(simp at h;done)
  rename_i a len cap
  cases a with
  |none=>
   cases len<;>cases cap<;>simp at h
   obtain⟨rfl,rfl⟩:=h;exact .inl rfl
  |some a=>
   simp only at h
   split at h
   ·simp only[Option.bind_eq_some_iff,Option.map_eq_some_iff] at h;obtain⟨elems,hm,rest,hr,hd⟩:=h;cases hd;refine .inr ⟨_,_,rfl,fun x hx=>?_⟩;obtain⟨y,hy,rfl⟩:=List.mem_map.1 hx;have hlen:elems.length=len:=by simpa using mapM_some_length hm
    have hget:=mapM_some_get hm;obtain⟨i,hi⟩:=List.getElem?_of_mem hy;have hil:i<len:=by have:=lt_get hi;omega
    have h1:=hget i i (by simp[hil]);rw[hi] at h1;obtain⟨cs,_,hx⟩:=Option.bind_eq_some_iff.1 h1;exact⟨fuel,cs,y.2,hx⟩
   ·cases h
theorem na {α β:Type} {f:α→Option β}:∀{l:List α} {m:List β},l.mapM f=some m→ck (fun a b=>f a=some b) l m
 |[],m,h=>by simp at h;subst h;exact .nil
 |a::l,m,h=>by
  rw[List.mapM_cons] at h
  cases h1:f a with
  |none=>rw[h1] at h;simp at h
  |some b=>
   rw[h1] at h
   cases h2:l.mapM f with
   |none=>rw[h2] at h;simp at h
   |some ys=>rw[h2] at h;simp at h;subst h;exact .cons h1 (na h2)
theorem ck.HQ {α β γ:Type} {R:α→γ→Prop} {f:β→γ}:∀{l:List α} {m:List β},ck (fun a b=>R a (f b)) l m→ck R l (m.map f)
 |_,_,.nil=>.nil
 |_,_,.cons a t=>.cons a t.HQ
theorem Rd.struct {fs:Array Field} (h:Rd enc P w spare held t d) (ht:P.underlying t=some (.struct fs)):∃parts,d=.agg parts∧ck (fun(f:Field) x=>Rd enc P w spare held f.type x) fs.toList parts:=by
 obtain⟨fuel,cs,ps,h⟩:=h
 cases fuel with
 |zero=>simp[DataW.trod] at h
 |succ fuel=>
  unfold DataW.trod at h;rw[ht] at h;simp only at h
  split at h
  ·obtain⟨xs,hx,hd⟩:=Option.map_eq_some_iff.1 h;cases hd;refine⟨_,rfl,?_⟩;exact((na hx).mono fun f x Ry=>(⟨fuel,_,_,Ry⟩:Rd enc P w spare held f.type x.1)).HQ
  ·cases h
theorem Rd.array {n:Nat} (h:Rd enc P w spare held t d) (ht:P.underlying t=some (.array n e)):∃parts,d=.agg parts∧parts.length=n∧∀x∈parts,Rd enc P w spare held e x:=by
 obtain⟨fuel,cs,ps,h⟩:=h
 cases fuel with
 |zero=>simp[DataW.trod] at h
 |succ fuel=>
  unfold DataW.trod at h;rw[ht] at h;simp only at h
  split at h
  ·obtain⟨xs,hx,hd⟩:=Option.map_eq_some_iff.1 h;cases hd;have h1:=na hx;refine⟨_,rfl,by have:=h1.len;simp at this;simp[←this],fun x Kx=>?_⟩;obtain⟨y,hy,rfl⟩:=List.mem_map.1 Kx
   have key:∀{l:List Nat} {m:List (DataW H×List MemPlace)},ck (fun i x=>DataW.trod enc P w 0 spare held fuel e ((cs.drop (i*P.cellsOf e)).take (P.cellsOf e))=some x) l m→∀y∈m,Rd enc P w spare held e y.1:=by
    intro l m h
    induction h with
    |nil=>intro y hy;cases hy
    |cons a t ih=>
     intro y hy
     rcases List.mem_cons.1 hy with rfl|hy
     ·exact⟨fuel,_,_,a⟩
     ·exact ih y hy
   exact key h1 y hy
  ·cases h
end
theorem Hw {H α:Type} {s:Nat} {f:α→List D} {Q:α→DataW H→Prop} {elems rest:List (DataW H)} (h:∀x∈elems,∃a,(dval x).cells?=some (dval x).cells∧(dval x).cells=f a∧(f a).length=s∧Q a x):
  ∃ws:List α,SlD (dval (.slice elems rest)) s (ws.map f)∧ws.length=elems.length∧∀a∈ws,∃x∈elems,Q a x:=by
 have key:∃ws:List α,(elems.map dval).map D.cells=ws.map f∧(∀d∈elems.map dval,d.cells?=some d.cells∧d.cells.length=s)∧ws.length=elems.length∧∀a∈ws,∃x∈elems,Q a x:=by
  induction elems with
  |nil=>exact⟨[],rfl,fun d hd=>(by cases hd),rfl,fun a ha=>by cases ha⟩
  |cons x l ih=>
   obtain⟨ws,h1,h2,h3,h4⟩:=ih fun y hy=>h y (List.mem_cons_of_mem _ hy);obtain⟨a,g1,g2,g3,g4⟩:=h x (List.mem_cons_self ..);refine⟨a::ws,by simp only[List.map_cons,h1,g2],fun d hd=>?_,by simp[h3],fun b hb=>?_⟩
   ·simp only[List.map_cons,List.mem_cons] at hd
    rcases hd with rfl|hd
    ·exact⟨g1,by rw[g2];exact g3⟩
    ·exact h2 d hd
   ·rcases List.mem_cons.1 hb with rfl|hb
    ·exact⟨x,List.mem_cons_self ..,g4⟩
    ·obtain⟨y,hy,hq⟩:=h4 b hb;exact⟨y,List.mem_cons_of_mem _ hy,hq⟩
 obtain⟨ws,h1,h2,h3,h4⟩:=key;refine⟨ws,.inr ⟨elems.map dval,?_,h1,h2⟩,h3,h4⟩;show D.sl (tM elems)=_;rw[p_]
end Go.V
namespace Go.Proofs.YtajblankjjmonaaGreat
theorem C6 {H:Type} (d:DataW H):1≤Rows.uptoBulk d:=by
 cases d with
 |lit l=>cases l<;>simp[Rows.uptoBulk]
 |_=>simp[Rows.uptoBulk]
theorem C7 {H:Type} (l:List (DataW H)):l.length≤Rows.uptoBulkAll l:=by
 induction l with
 |nil=>simp[Rows.uptoBulkAll]
 |cons x r ih=>have:=C6 x;simp only[Rows.uptoBulkAll,List.length_cons];omega
end Go.Proofs.YtajblankjjmonaaGreat
namespace Go.Proofs.YtajblankjjmonaaGreat
open Go.V Go Go.RowKit
variable{H:Type} {enc:TypeId×Value→H} {w:World} {spare:Nat→Bool} {held:Bool} {d:DataW H}
theorem C8 {H:Type} {l:List (DataW H)} {x:DataW H} (h:x∈l):Rows.uptoBulk x≤Rows.uptoBulkAll l:=by
 induction l with
 |nil=>cases h
 |cons y l ih=>
  simp only[Rows.uptoBulkAll]
  rcases List.mem_cons.1 h with rfl|h
  ·omega
  ·have:=ih h;omega
end Go.Proofs.YtajblankjjmonaaGreat
namespace Go.V
variable{N:Nat} {S st:St} {H:List bG}
theorem Has.aY {s0:St} (h:Has N S s0 H):Has N (enterSt .rw s0) (enterSt .rw s0) H:=
 ⟨Ex.refl _ _,Nat.le_trans h.hN h.ex.len,by show s0.ro≤N;rw[h.ex.ro];exact h.ft,fun i e hi=>⟨e.loc (st:=s0) (ae:=enterSt .rw s0) (fun k _=>rfl) (h.ok i e hi).1,(h.ok i e hi).2⟩,h.dis⟩
theorem ab {kn:Bool} {s0 st:St} {d d':D} (hd:aO st s0.bs.length kn 16 d=some d'):b8 .rw kn s0 st d=some (d',⟨st.bs.take s0.bs.length,s0.flr,s0.ro⟩):=by
 simp only[b8,hd]
theorem Has.tg {s0 S2 st2:St} {H2:List bG} (h:Has N S s0 H) (hS:S2.bs=s0.bs) (h2:Has N S2 st2 H2) (hk:∀(i:Nat) e,H2[i]?=some e→∃e',H[i]?=some e'∧∀k,e.K k→e'.K k):Has N S ⟨st2.bs.take s0.bs.length,s0.flr,s0.ro⟩ H2:=by
 have hL:s0.bs.length≤st2.bs.length:=by have:=h2.ex.len;rw[hS] at this;exact this
 have Tc:=h.ex.len;have Te:=h.hN;refine⟨⟨fun k jv=>?_,?_,h.ex.flr,h.ex.ro⟩,h.hN,h.ft,fun i e hi=>?_,h2.dis⟩
 ·show(st2.bs.take s0.bs.length)[k]?=_;rw[List.getElem?_take,if_pos (by omega),h2.ex.low k jv,hS];exact h.ex.low k jv
 ·show _≤(st2.bs.take s0.bs.length).length;rw[List.length_take];omega
 ·obtain⟨e',rT,hkk⟩:=hk i e hi;have h3:=(h.ok i e' rT).2;refine⟨e.loc (fun k jv=>?_) (h2.ok i e hi).1,fun k jv=>⟨(h3 k (hkk k jv)).1,?_⟩⟩
  ·show(st2.bs.take s0.bs.length)[k]?=_;rw[List.getElem?_take,if_pos (h3 k (hkk k jv)).2]
  ·show k<(st2.bs.take s0.bs.length).length;rw[List.length_take];have:=(h3 k (hkk k jv)).2;omega
theorem Has.af {s0 S2 st2:St} {k:Nat} {b b':gP} (h:Has N S s0 (.box k b::H)) (hS:S2.bs=s0.bs) (h2:Has N S2 st2 (.box k b'::H)):Has N S ⟨st2.bs.take s0.bs.length,s0.flr,s0.ro⟩ (.box k b'::H):=by
 refine h.tg hS h2 fun i e hi=>?_
 cases i with
 |zero=>simp only[List.getElem?_cons_zero,Option.some.injEq] at hi;subst hi;exact⟨_,rfl,fun k hk=>hk⟩
 |succ i=>exact⟨e,hi,fun k hk=>hk⟩
theorem Has.Ez {P:Pv} {j:Nat} {x y x':D} {s:Nat} {es ys:List (List D)} {ae:St} (hH:Has N S st H) (hj:H[j]?=some (.lst x s es)) (hy:Rows st s y ys) {t1 t2 e:TypeId} {td:TypeDesc} {inf:TypeInfo} {z:List D}
  (h1:P.b9 t1=some (.slice e)) (h2:P.b9 t2=some td) (h3:fJ td=false) (h4:P.info e=some inf) (h5:cT P e=some z)
  (q1:ba P .append [t1,t2] [x,y] st=some (x',ae)):∀k,x'.ref=k+1→x.ref=k+1∨S.bs.length≤k:=by
 have hl:=hH.ex.len;have jr:=hy.row
 have Cd:∀e∈ys,e.length=s:=fun e he=>by
  obtain⟨i,hi⟩:=List.getElem?_of_mem he;exact hy.tK i e hi
 have hown:=hH.own hj;simp only[ba,gp,h1,h2,h3,Bool.false_eq_true,if_false,h4,h5,jr,Option.bind_some] at q1
 split at q1
 ·cases q1
 ·cases hown with
  |nul=>
   simp only at q1
   split at q1
   ·cases q1;exact fun k hk=>.inl hk
   ·split at q1
    ·cases q1;exact fun k hk=>.inr (by simp only[D.ref] at hk;omega)
    ·cases q1
  |win k aq off es c hm hl hc he=>
   simp only[St.mem_of hm] at q1
   split at q1
   ·cases q1
   ·split at q1
    ·cases q1;exact fun k hk=>.inl hk
    ·split at q1
     ·cases q1;exact fun n hn=>.inl (by simp only[D.ref] at hn⊢;exact hn)
     ·cases q1
theorem EvO.gD {P:Pv} {ops:Array Oper} {rest:List Oper} {fr:Fr} {Q:Fr→St→Prop} {ty:TypeId} {pp:String} {a:Array Edge} {g:Option (Nat×Bool)} {dst:Nat} {j:Nat} {x y:D} {s:Nat} {es ys:List (List D)} {t1 t2 e:TypeId} {td:TypeDesc} {inf:TypeInfo} {z:List D} {xo yo:Operand} {aw:D→Fr} (hH:Has N S st H) (hg:au ops fr ⟨some dst,.call ⟨.builtin .append,#[xo,yo],#[t1,t2]⟩,ty,pp,a,g⟩=some true)
  (hx:fr.ev xo=x) (hy:fr.ev yo=y) (hj:H[j]?=some (.lst x s es)) (jh:Rows st s y ys)
  (h1:P.b9 t1=some (.slice e)) (h2:P.b9 t2=some td) (h3:fJ td=false) (h4:P.info e=some inf) (h5:cT P e=some z) (h6:inf.size=s) (h7:z.length=s) (h8:0<inf.bytes∧inf.bytes≤1024)
  (hp:∀x',fr.put dst x'=aw x') (hb:es.length+ys.length≤1073741824) (hw:S.flr≤N∨refs ys.flatten=0) (h0:∀k,x.ref=k+1→S.bs.length≤k)
  (h:∀x' ae,(∀k,x'.ref=k+1→S.bs.length≤k)→Has N S ae (H.set j (.lst x' s (es++ys)))→EvO P ops rest (aw x') ae Q):
  EvO P ops (⟨some dst,.call ⟨.builtin .append,#[xo,yo],#[t1,t2]⟩,ty,pp,a,g⟩::rest) fr st Q:=by
 obtain⟨x',ae,q1,q2,q3⟩:=hH.append hj jh h1 h2 h3 h4 h5 h6 h7 h8 hb hw;have R1:=hH.Ez hj jh h1 h2 h3 h4 h5 q1;refine EvO.go hg rfl (d:=x') (st1:=ae) ?_ (hp _) (h x' ae (fun k hk=>?_) q2)
 ·simp only[df,List.map_cons,List.map_nil,hx,hy];exact q1
 ·rcases R1 k hk with h|h
  ·exact h0 k h
  ·exact h
def nz:D→D
 | .nul=>.sl []
 |d=>d
def lT (d:D):Bool:=match d with| .nul=>true|d=>bS d
theorem zw {st:St} {N n:Nat} {d:D} (h:lT d=true):cH st N (n+1) d=some (nz d):=by
 cases d<;>simp[lT,bS] at h<;>rfl
theorem rL {st:St} {N n:Nat}:∀{l:List D},(∀d∈l,lT d=true)→eG (cH st N (n+1)) l=some (l.map nz)
 |[],_=>rfl
 |d::l,h=>by simp only[eG,zw (h d (List.mem_cons_self ..)),rL (fun d hd=>h d (List.mem_cons_of_mem _ hd)),List.map_cons]
theorem Has.y9 {L j:Nat} {x:D} {s:Nat} {es:List (List D)} (hH:Has N S st H) (hj:H[j]?=some (.lst x s es)) (hx:∀k,x.ref=k+1→L≤k) (hp:∀e∈es,∀d∈e,lT d=true) {n:Nat} (hn:3≤n):aO st L false n x=some (.sl ((es.map (·.map nz)).map (ic s))):=by
 obtain⟨n,rfl⟩:∃m,n=m+3:=⟨n-3,by omega⟩
 have hown:=hH.own hj
 cases hown with
 |nul=>rfl
 |win k aq off es c hm hl hc he=>
  have hk:=hx k (by simp only[D.ref]);show(if k<L then some (D.win k aq off es.length s) else cH st L (n+2) (.win k aq off es.length s))=_;rw[if_neg (show¬k<L by omega),cH];simp only[if_neg (show¬k<L by omega),St.mem_of hm,Option.bind_some]
  rw[if_pos hl,hc,rL (fun d hd=>by
   obtain⟨e,rT,n3⟩:=List.mem_flatten.1 hd
   exact hp e rT d n3)]
  have h1:(es.map (·.map nz)).flatten=es.flatten.map nz:=by rw[List.map_flatten]
  have h2:(es.map (·.map nz)).length=es.length:=List.length_map _
  have h3:∀e∈es.map (·.map nz),e.length=s:=by
   intro e rT;obtain⟨e0,h0,rfl⟩:=List.mem_map.1 rT;rw[List.length_map];exact he e0 h0
  simp only[Option.map_some];rw[←h1,←h2,eS h3]
theorem EvO.Hy {P:Pv} {ops:Array Oper} {rest:List Oper} {fr aw:Fr} {Q:Fr→St→Prop} {ty:TypeId} {pp:String} {a:Array Edge} {g:Option (Nat×Bool)} {dst:Nat} {t:TypeId} {xo io:Operand} {b:List UInt8} {kk:IntKind} {i:Nat} {c:UInt8} (hg:au ops fr ⟨some dst,.index t xo io,ty,pp,a,g⟩=some true) (hx:fr.ev xo=.str b) (hi:fr.ev io=.int kk (i:Nat)) (ht:P.b9 t=some .string) (hc:b[i]?=some c) (hp:fr.put dst (.int .u8 (c.toNat:Nat))=aw)
  (h:EvO P ops rest aw st Q):EvO P ops (⟨some dst,.index t xo io,ty,pp,a,g⟩::rest) fr st Q:=by
 refine EvO.go hg rfl (d:=.int .u8 (c.toNat:Nat)) (st1:=st) ?_ hp h;simp only[df,hx,hi,ti,ht];rw[if_pos (by omega),Int.toNat_natCast,hc];rfl
end Go.V
namespace Go.Proofs.YtajblankjjmonaaGreat
open Go.V Go
def aH (c:Nat):Int×Nat×Nat:=
 if c<128 then(0,0,0) else if c<194 then(-1,0,0) else if c<224 then(1,128,191) else if c=224 then(2,160,191) else if c=237 then(2,128,159)
 else if c<240 then(2,128,191) else if c=240 then(3,144,191) else if c<244 then(3,128,191) else if c=244 then(3,128,143) else(-1,0,0)
theorem DW (c:Nat) (st:St):Ev pv 68 [.int .u8 c] st (.tup [.int .i64 (aH c).1,.int .u8 (aH c).2.1,.int .u8 (aH c).2.2]) st:=by
 refine Ev.mk1 rfl MI rfl rfl rfl ?_;refine zE ?_;refine zR ?_;refine EvC.seq (EvC.block ?_);refine zR ?_;(repeat refine qq ?_);refine qc (fun h1=>?_) (fun h1=>?_)<;>try simp only[cs] at h1
 ·refine zR ?_;refine EvC.ret ⟨rx,_,rfl,aB (by simp) (by simp[enterSt]) ?_⟩;rw[show aH c=(0,0,0) by unfold aH;rw[if_pos (by omega)]];rfl
 refine zR ?_;(repeat refine qq ?_);refine qc (fun h2=>?_) (fun h2=>?_)<;>try simp only[cs] at h2
 ·refine zR ?_;refine EvC.ret ⟨rx,_,rfl,aB (by simp) (by simp[enterSt]) ?_⟩;rw[show aH c=(-1,0,0) by unfold aH;rw[if_neg (by omega),if_pos (by omega)]];rfl
 refine zR ?_;(repeat refine qq ?_);refine qc (fun h3=>?_) (fun h3=>?_)<;>try simp only[cs] at h3
 ·refine zR ?_;refine EvC.ret ⟨rx,_,rfl,aB (by simp) (by simp[enterSt]) ?_⟩;rw[show aH c=(1,128,191) by unfold aH;rw[if_neg (by omega),if_neg (by omega),if_pos (by omega)]];rfl
 refine zR ?_;(repeat refine qq ?_);refine qc (fun h4=>?_) (fun h4=>?_)<;>try simp only[cs] at h4
 ·refine zR ?_;refine EvC.ret ⟨rx,_,rfl,aB (by simp) (by simp[enterSt]) ?_⟩;rw[show aH c=(2,160,191) by unfold aH;rw[if_neg (by omega),if_neg (by omega),if_neg (by omega),if_pos (by omega)]];rfl
 refine zR ?_;(repeat refine qq ?_);refine qc (fun h5=>?_) (fun h5=>?_)<;>try simp only[cs] at h5
 ·refine zR ?_;refine EvC.ret ⟨rx,_,rfl,aB (by simp) (by simp[enterSt]) ?_⟩;rw[show aH c=(2,128,159) by unfold aH;rw[if_neg (by omega),if_neg (by omega),if_neg (by omega),if_neg (by omega),if_pos (by omega)]];rfl
 refine zR ?_;(repeat refine qq ?_);refine qc (fun h6=>?_) (fun h6=>?_)<;>try simp only[cs] at h6
 ·refine zR ?_;refine EvC.ret ⟨rx,_,rfl,aB (by simp) (by simp[enterSt]) ?_⟩;rw[show aH c=(2,128,191) by unfold aH;rw[if_neg (by omega),if_neg (by omega),if_neg (by omega),if_neg (by omega),if_neg (by omega),if_pos (by omega)]];rfl
 refine zR ?_;(repeat refine qq ?_);refine qc (fun h7=>?_) (fun h7=>?_)<;>try simp only[cs] at h7
 ·refine zR ?_;refine EvC.ret ⟨rx,_,rfl,aB (by simp) (by simp[enterSt]) ?_⟩;rw[show aH c=(3,144,191) by unfold aH;rw[if_neg (by omega),if_neg (by omega),if_neg (by omega),if_neg (by omega),if_neg (by omega),if_neg (by omega),if_pos (by omega)]];rfl
 refine zR ?_;(repeat refine qq ?_);refine qc (fun h8=>?_) (fun h8=>?_)<;>try simp only[cs] at h8
 ·refine zR ?_;refine EvC.ret ⟨rx,_,rfl,aB (by simp) (by simp[enterSt]) ?_⟩;rw[show aH c=(3,128,191) by unfold aH;rw[if_neg (by omega),if_neg (by omega),if_neg (by omega),if_neg (by omega),if_neg (by omega),if_neg (by omega),if_neg (by omega),if_pos (by omega)]];rfl
 refine zR ?_;(repeat refine qq ?_);refine qc (fun h9=>?_) (fun h9=>?_)<;>try simp only[cs] at h9
 ·refine zR ?_;refine EvC.ret ⟨rx,_,rfl,aB (by simp) (by simp[enterSt]) ?_⟩;rw[show aH c=(3,128,143) by unfold aH;rw[if_neg (by omega),if_neg (by omega),if_neg (by omega),if_neg (by omega),if_neg (by omega),if_neg (by omega),if_neg (by omega),if_neg (by omega),if_pos (by omega)]];rfl
 refine EvC.skip<|zR ?_;refine EvC.ret ⟨rx,_,rfl,aB (by simp) (by simp[enterSt]) ?_⟩;rw[show aH c=(-1,0,0) by unfold aH;rw[if_neg (by omega),if_neg (by omega),if_neg (by omega),if_neg (by omega),if_neg (by omega),if_neg (by omega),if_neg (by omega),if_neg (by omega),if_neg (by omega)]];rfl
def c_:(left n r lo hi:Nat)→List UInt8→Nat×Nat×Bool
 |0,n,r,_,_,_=>(r,n,false)
 |left+1,n,r,lo,hi,[]=>(0,0,true)
 |left+1,n,r,lo,hi,x::xs=>if x.toNat<lo∨hi<x.toNat then(0,0,false) else c_ left n (r*64+x.toNat %64) 128 191 xs
def dX:List UInt8→Nat×Nat×Bool
 |[]=>(0,0,false)
 |c::xs=>if(aH c.toNat).1<0 then(0,0,false)
   else c_ (aH c.toNat).1.toNat ((aH c.toNat).1.toNat+1) (if(aH c.toNat).1>0 then c.toNat %(64/2^(aH c.toNat).1.toNat) else c.toNat) (aH c.toNat).2.1 (aH c.toNat).2.2 xs
theorem vd (c:Nat):(aH c).1=-1∨(aH c).1=0∨(aH c).1=1∨(aH c).1=2∨(aH c).1=3:=by
 unfold aH
 repeat' split
 all_goals simp
theorem tR {w a j:Nat} (ha:a<2^w) (hj:2^j-1<2^w):(BitVec.ofInt w (a:Int) &&&BitVec.ofInt w ((2^j-1:Nat):Int)).toNat=a %2^j:=by
 rw[bv_and ha hj,Nat.and_two_pow_sub_one_eq_mod]
theorem bO (b:List UInt8):(V.byteCells b).length=b.length:=by simp[V.byteCells]
theorem lb {b:List UInt8} {i:Nat} {y:UInt8} (h:b[i]?=some y):(V.byteCells b)[i]?=some [.int .u8 (y.toNat:Nat)]:=by
 simp[V.byteCells,h]
theorem jf (y:UInt8):y.toNat<256:=y.toNat_lt
theorem J6 {r y:Nat} (hr:r<33554432) (hy:y<256):aV .i32 ((BitVec.ofInt 32 (aV .i32 ((r:Int)*2^(min (Int.toNat 6) 32)))|||BitVec.ofInt 32 (aV .i32 (aV .u8 ((BitVec.ofInt 8 (y:Int) &&&BitVec.ofInt 8 63).toNat:Nat)))).toNat:Nat)=((r*64+y %64:Nat):Int):=by
 have h1:(BitVec.ofInt 8 (y:Int) &&&BitVec.ofInt 8 63).toNat=y %64:=tR (w:=8) (j:=6) hy (by decide);rw[h1]
 have h2:((r:Int)*2^(min (Int.toNat 6) 32))=((r*64:Nat):Int):=by
  have:(2:Int)^(min (Int.toNat 6) 32)=64:=by decide
  rw[this];simp
 rw[h2,dQ (k:=.i32) (m:=r*64) (by simp only[kU];omega),dQ (k:=.u8) (m:=y %64) (by simp only[kU];omega),dQ (k:=.i32) (m:=y %64) (by simp only[kU];omega)];rw[E5 (by omega) (by omega)]
 have h3:(r*64)|||(y %64)=r*64+y %64:=by
  have:=Nat.two_pow_add_eq_or_of_lt (i:=6) (b:=y %64) (by omega) r;have e:(2:Nat)^6=64:=by decide
  rw[e] at this;rw[Nat.mul_comm r 64,this]
 rw[h3,dQ (k:=.i32) (m:=r*64+y %64) (by simp only[kU];omega)]
theorem HP {c j:Nat} (hc:c<256) (hj:j≤8) {m:Int} (hm:m=((2^j-1:Nat):Int)):aV .i32 ((BitVec.ofInt 32 (aV .i32 (c:Nat)) &&&BitVec.ofInt 32 m).toNat:Nat)=((c %2^j:Nat):Int):=by
 have h1:2^j≤2^8:=Nat.pow_le_pow_right (by omega) hj;rw[hm,dQ (k:=.i32) (m:=c) (by simp only[kU];omega),tR (w:=32) (by omega) (by omega)];have:c %2^j≤c:=Nat.mod_le _ _;rw[dQ (k:=.i32) (by simp only[kU];omega)]
theorem mask {c j:Nat} (hc:c<256) (hj:j≤8) {m:Int} (hm:m=((2^j-1:Nat):Int)):aV .i32 ((BitVec.ofInt IntKind.i32.bits (aV .i32 (c:Nat)) &&&BitVec.ofInt IntKind.i32.bits m).toNat:Nat)=((c %2^j:Nat):Int):=HP hc hj hm
theorem Pj {r y:Nat} (hr:r<33554432) (hy:y<256):aV .i32 ((BitVec.ofInt IntKind.i32.bits (aV .i32 ((r:Int)*2^(min (Int.toNat 6) IntKind.i32.bits)))|||BitVec.ofInt IntKind.i32.bits (aV .i32 (aV .u8 ((BitVec.ofInt IntKind.u8.bits (y:Int) &&&BitVec.ofInt IntKind.u8.bits 63).toNat:Nat)))).toNat:Nat)=((r*64+y %64:Nat):Int):=J6 hr hy
theorem CK {st:St} {x:D} {b:List UInt8} (hb:Bytes st x b):Ev pv 53 [x] st (.tup [.int .i32 ((dX b).1:Nat),.int .i64 ((dX b).2.1:Nat),.bool (dX b).2.2]) st:=by
 refine Ev.mk1 rfl MX rfl rfl rfl ?_;refine zE ?_;have ez:=hb.enter .ro;refine qy ?_;(repeat refine qq ?_);(generalize hK:SeqQ _ _ _ _=K);refine EvC.reg ?_;(repeat(refine xL ?_));refine EvO.nil ?_;refine zF ?_;subst hK;refine qy ?_;(repeat refine qq ?_);(generalize hK:SeqQ _ _ _ _=K);refine EvC.reg ?_
 (refine xT ?_)
 refine EvO.len rfl rfl rfl ez rfl ?_;(repeat(refine xT ?_));refine EvO.nil ?_;refine zF ?_;subst hK;refine qy ?_;(repeat refine qq ?_);refine qc (fun h1=>?_) (fun h1=>?_)<;>try simp only[cs] at h1
 ·(refine qy ?_);(repeat refine qq ?_);(generalize hK:SeqQ _ _ _ _=K);refine EvC.reg ?_;(repeat(refine xL ?_));refine EvO.nil ?_;refine zF ?_;subst hK;refine qy ?_;refine EvC.ret ⟨rx,_,rfl,aB (by simp) (by simp[enterSt]) ?_⟩
  obtain rfl:b=[]:=by cases b with|nil=>rfl|cons c b=>simp[V.byteCells] at h1;omega
  rfl
 refine EvC.skip ?_
 obtain⟨c,xs,rfl⟩:∃c xs,b=c::xs:=by cases b with|nil=>simp[V.byteCells] at h1|cons c b=>exact⟨c,b,rfl⟩
 obtain⟨k,lo,hi,hm⟩:∃k lo hi,aH c.toNat=(k,lo,hi):=⟨_,_,_,rfl⟩
 have Ln:=DW c.toNat (enterSt .ro st);rw[hm] at Ln;have hk:=vd c.toNat;rw[hm] at hk;have hc:=jf c;refine qy ?_;(repeat refine qq ?_);(generalize hK:SeqQ _ _ _ _=K);refine EvC.reg ?_
 (refine xT ?_)
 refine EvO.bQ rfl rfl rfl (fun _=>rfl) rfl rfl ez rfl rfl (by omega) rfl rfl (fun p=>?_);refine EvO.su rfl rfl rfl Ln ?_;(repeat(first|refine xT ?_|refine xL ?_));refine EvO.nil ?_;refine zF ?_;subst hK;refine qy ?_;(repeat refine qq ?_);(generalize hK:SeqQ _ _ _ _=K);refine EvC.reg ?_;(repeat(refine xT ?_));refine EvO.nil ?_;refine zF ?_;subst hK;refine qy ?_;(repeat refine qq ?_);refine qc (fun h2=>?_) (fun h2=>?_)<;>try simp only[cs] at h2
 ·(refine qy ?_);(repeat refine qq ?_);(generalize hK:SeqQ _ _ _ _=K);refine EvC.reg ?_;(repeat(refine xL ?_));refine EvO.nil ?_;refine zF ?_;subst hK;refine qy ?_;refine EvC.ret ⟨rx,_,rfl,aB (by simp) (by simp[enterSt]) ?_⟩;simp only[dX,hm];rw[if_pos h2];rfl
 refine EvC.skip ?_;refine qy ?_;(repeat refine qq ?_);(generalize hK:SeqQ _ _ _ _=K);refine EvC.reg ?_
 (refine xT ?_)
 refine EvO.bQ rfl rfl rfl (fun _=>rfl) rfl rfl ez rfl rfl (by omega) rfl rfl (fun p=>?_);(repeat(first|refine xT ?_|refine xL ?_));refine EvO.nil ?_;refine zF ?_;subst hK;refine qy ?_;(repeat refine qq ?_);(generalize hK:SeqQ _ _ _ _=K);refine EvC.reg ?_;(repeat(refine xT ?_));refine EvO.nil ?_;refine zF ?_;subst hK;refine qy ?_;generalize hK:SeqQ _ _ _ _=K
 have H:∀(r kn:Nat) (m:List (Nat×D)),k=(kn:Int)→r=(if k>0 then c.toNat %(64/2^k.toNat) else c.toNat)→(r+1)*64^kn≤2097152→K .next ⟨9,[x,.tup [],.int .i32 r,.int .i64 0,.bool false,.int .i64 k,.int .u8 lo,.int .u8 hi,.tup []],m⟩ (enterSt .ro st):=by
  intro r kn m hkn hr nY
  have hR:dX (c::xs)=c_ kn (kn+1) r lo hi xs:=by
   simp only[dX,hm];rw[if_neg h2,hr,hkn];rfl
  subst hK;rw[hR];generalize hS:c_ kn (kn+1) r lo hi xs=R at hR⊢;subst hkn;refine qy ?_;(repeat refine qq ?_);(generalize hK:SeqQ _ _ _ _=K);refine EvC.reg ?_;(repeat(refine xL ?_));refine EvO.nil ?_;refine zF ?_;subst hK;refine qy ?_;refine EvC.block<|EvC.loop (fun j fr ae=>∃(i r lo hi:Nat),fr.clean=⟨9,[x,.tup [],.int .i32 r,.int .i64 0,.bool false,.int .i64 kn,.int .u8 lo,.int .u8 hi,.int .i64 (i:Nat)],[]⟩∧ae=enterSt .ro st∧1≤i∧i+j=kn+1∧c_ j (kn+1) r lo hi (xs.drop (i-1))=R∧(r+1)*64^j≤2097152) kn ⟨1,r,lo,hi,rfl,rfl,by omega,by omega,hS,nY⟩ ?_;clear hr nY hS r hm Ln m;rintro j fr ae ⟨i,r,lo,hi,hfr,rfl,JU,hij,hS,nY⟩;rw[hfr];refine qy ?_;(repeat refine qq ?_);(generalize hK:SeqQ _ _ _ _=K);refine EvC.reg ?_;(repeat(refine xT ?_));refine EvO.nil ?_;refine zF ?_;subst hK;refine qy ?_;(repeat refine qq ?_);refine qc (fun h4=>?_) (fun h4=>?_)<;>try simp only[cs] at h4
  ·refine EvC.skip ?_
   obtain⟨j,rfl⟩:∃j',j=j'+1:=⟨j-1,by omega⟩
   refine EvC.seq (EvC.block ?_);refine qy ?_;(repeat refine qq ?_);(generalize hK:SeqQ _ _ _ _=K);refine EvC.reg ?_
   (refine xT ?_)
   (refine xT ?_)
   refine EvO.len rfl rfl rfl ez rfl ?_;(repeat(refine xT ?_));refine EvO.nil ?_;refine zF ?_;subst hK;refine qy ?_
   have vw:(xs.drop (i-1))=[]∨∃y ys,xs.drop (i-1)=y::ys:=by
    cases xs.drop (i-1) with
    |nil=>exact .inl rfl
    |cons y ys=>exact .inr ⟨y,ys,rfl⟩
   have EL:(xs.drop (i-1)).length=xs.length-(i-1):=List.length_drop ..;have hbl:(V.byteCells (c::xs)).length=xs.length+1:=by simp[V.byteCells]
   (refine qy ?_);(repeat refine qq ?_);refine qc (fun h5=>?_) (fun h5=>?_)<;>try simp only[cs] at h5
   ·(refine qy ?_);(repeat refine qq ?_);(generalize hK:SeqQ _ _ _ _=K);refine EvC.reg ?_;(repeat(refine xL ?_));refine EvO.nil ?_;refine zF ?_;subst hK;refine qy ?_;refine EvC.ret ⟨rx,_,rfl,aB (by simp) (by simp[enterSt]) ?_⟩
    rcases vw with vw|⟨y,ys,vw⟩
    ·rw[vw] at hS;simp only[c_] at hS;subst hS;rfl
    ·rw[vw] at EL;simp only[List.length_cons] at EL;omega
   refine EvC.skip ?_
   rcases vw with vw|⟨y,ys,vw⟩
   ·rw[vw] at EL;simp only[List.length_nil] at EL;omega
   have hy:(c::xs)[i]?=some y:=by
    obtain⟨i,rfl⟩:∃i',i=i'+1:=⟨i-1,by omega⟩
    have:=congrArg (fun l=>l[0]?) vw
    simpa using this
   have jh:xs.drop (i+1-1)=ys:=by
    have:=congrArg (fun l=>l.drop 1) vw;simp only[List.drop_drop,List.drop_succ_cons,List.drop_zero] at this;rw[←this];congr 1;omega
   have G7:=lb hy;have Og:=jf y;rw[vw] at hS;simp only[c_] at hS;refine qy ?_;(repeat refine qq ?_);(generalize hK:SeqQ _ _ _ _=K);refine EvC.reg ?_
   (refine xT ?_)
   (refine xT ?_)
   refine EvO.bQ rfl rfl rfl (fun _=>rfl) rfl rfl ez rfl rfl (by omega) G7 rfl (fun p=>?_)
   (refine xT ?_)
   (refine xT ?_)
   (refine xT ?_)
   by_cases wD:(y.toNat:Int)<(lo:Int)
   ·rw[decide_eq_true wD];(repeat(first|refine xT ?_|refine xo ?_));refine EvO.nil ?_;refine zF ?_;subst hK;refine qy ?_;refine EvC.cond (v:=true) rfl (fun _=>?_) (fun h=>by cases h);refine qy ?_;(repeat refine qq ?_);(generalize hK:SeqQ _ _ _ _=K);refine EvC.reg ?_;(repeat(refine xL ?_));refine EvO.nil ?_;refine zF ?_;subst hK;refine qy ?_;refine EvC.ret ⟨rx,_,rfl,aB (by simp) (by simp[enterSt]) ?_⟩;rw[if_pos (.inl (by omega))] at hS;subst hS;rfl
   rw[decide_eq_false wD]
   (refine xT ?_)
   (refine xT ?_)
   refine EvO.bQ rfl rfl rfl (fun _=>rfl) rfl rfl ez rfl rfl (by omega) G7 rfl (fun p=>?_);(repeat(refine xT ?_));refine EvO.nil ?_;refine zF ?_;subst hK;refine qy ?_;(repeat refine qq ?_);refine qc (fun h6=>?_) (fun h6=>?_)<;>try simp only[cs] at h6
   ·(refine qy ?_);(repeat refine qq ?_);(generalize hK:SeqQ _ _ _ _=K);refine EvC.reg ?_;(repeat(refine xL ?_));refine EvO.nil ?_;refine zF ?_;subst hK;refine qy ?_;refine EvC.ret ⟨rx,_,rfl,aB (by simp) (by simp[enterSt]) ?_⟩;rw[if_pos (.inr (by omega))] at hS;subst hS;rfl
   refine EvC.skip ?_;rw[if_neg (by omega)] at hS;refine qy ?_;(repeat refine qq ?_);(generalize hK:SeqQ _ _ _ _=K);refine EvC.reg ?_
   (refine xT ?_)
   (refine xT ?_)
   (refine xT ?_)
   (refine xT ?_)
   refine EvO.bQ rfl rfl rfl (fun _=>rfl) rfl rfl ez rfl rfl (by omega) G7 rfl (fun p=>?_);(repeat(first|refine xT ?_|refine xL ?_));refine EvO.nil ?_;refine zF ?_;subst hK;refine qy ?_;have Qh:r+1≤(r+1)*64^(j+1):=Nat.le_mul_of_pos_right _ (Nat.pow_pos (by omega));rw[Pj (by omega) Og];refine qy ?_;(repeat refine qq ?_);(generalize hK:SeqQ _ _ _ _=K);refine EvC.reg ?_;(repeat(refine xL ?_));refine EvO.nil ?_;refine zF ?_;subst hK;refine qy ?_;(repeat refine qq ?_);(generalize hK:SeqQ _ _ _ _=K);refine EvC.reg ?_;(repeat(first|refine xT ?_|refine xL ?_));refine EvO.nil ?_;refine zF ?_;subst hK;rw[wrap_i64 (by omega) (by omega)];refine⟨j,by omega,i+1,_,_,_,rfl,rfl,by omega,by omega,by rw[jh];exact hS,?_⟩;have e1:(r*64+y.toNat %64+1)≤(r+1)*64:=by omega
   have e2:=Nat.mul_le_mul_right (64^j) e1;have e3:64*64^j=64^(j+1):=by rw[Nat.pow_succ,Nat.mul_comm]
   rw[Nat.mul_assoc,e3] at e2;omega
  ·refine EvC.exit ?_;have:j=0:=by omega
   subst this;simp only[c_] at hS;subst hS;refine qy ?_;(repeat refine qq ?_);(generalize hK:SeqQ _ _ _ _=K);refine EvC.reg ?_;(repeat(first|refine xT ?_|refine xL ?_));refine EvO.nil ?_;refine zF ?_;subst hK;refine qy ?_;refine EvC.ret ⟨rx,_,rfl,aB (by simp) (by simp[enterSt]) ?_⟩;rw[wrap_i64 (by omega) (by omega)];rfl
 rcases hk with hk|hk|hk|hk|hk
 ·omega
 ·subst hk;refine EvC.cond (v:=false) rfl (fun h=>by cases h) fun _=>EvC.skip ?_;rw[dQ (by simp only[kU];omega)];exact H _ 0 _ rfl rfl (by omega)
 ·subst hk;refine EvC.cond (v:=true) rfl (fun _=>?_) (fun h=>by cases h);refine EvC.reg ?_
  (refine xT ?_)
  refine EvO.bQ rfl rfl rfl (fun _=>rfl) rfl rfl ez rfl rfl (by omega) rfl rfl (fun p=>?_);(repeat(first|refine xT ?_|refine xL ?_));refine EvO.nil ?_;refine zF ?_;rw[mask (j:=5) hc (by omega)]
  ·exact H _ 1 _ rfl rfl (by omega)
  ·decide
 ·subst hk;refine EvC.cond (v:=true) rfl (fun _=>?_) (fun h=>by cases h);refine EvC.reg ?_
  (refine xT ?_)
  refine EvO.bQ rfl rfl rfl (fun _=>rfl) rfl rfl ez rfl rfl (by omega) rfl rfl (fun p=>?_);(repeat(first|refine xT ?_|refine xL ?_));refine EvO.nil ?_;refine zF ?_;rw[mask (j:=4) hc (by omega)]
  ·exact H _ 2 _ rfl rfl (by omega)
  ·decide
 ·subst hk;refine EvC.cond (v:=true) rfl (fun _=>?_) (fun h=>by cases h);refine EvC.reg ?_
  (refine xT ?_)
  refine EvO.bQ rfl rfl rfl (fun _=>rfl) rfl rfl ez rfl rfl (by omega) rfl rfl (fun p=>?_);(repeat(first|refine xT ?_|refine xL ?_));refine EvO.nil ?_;refine zF ?_;rw[mask (j:=3) hc (by omega)]
  ·exact H _ 3 _ rfl rfl (by omega)
  ·decide
end Go.Proofs.YtajblankjjmonaaGreat
namespace Go.Proofs.YtajblankjjmonaaGreat
open Go.V Go
def eY (b:List UInt8):Nat×Nat:=if(dX b).2.1=0 then(65533,1) else((dX b).1,(dX b).2.1)
def rh:Nat→List UInt8→List (Nat×Nat)
 |0,_=>[]
 |_+1,[]=>[]
 |n+1,b=>eY b::rh n (b.drop (eY b).2)
def jc (b:List UInt8):List (Nat×Nat):=rh b.length b
theorem jM (b:List UInt8):1≤(eY b).2:=by
 unfold eY;split
 ·simp
 ·simp only;omega
theorem nI : ∀ (n : Nat) (b : List UInt8), b.length ≤ n → rh n b = jc b
 | 0, [], _ => rfl
 | 0, _ :: _, h => by simp at h
 | n + 1, [], _ => rfl
 | n + 1, c :: b, h => by
  have hp := jM (c :: b);have h1 : ((c :: b).drop (eY (c :: b)).2).length ≤ b.length := by rw [List.length_drop]; simp only [List.length_cons]; omega
  simp only [List.length_cons] at h;show eY (c :: b) :: rh n ((c :: b).drop _) = eY (c :: b) :: rh b.length ((c :: b).drop _);rw [nI n _ (by omega)]
  rcases Nat.lt_or_ge n b.length with h2 | h2
  ·omega
  ·rw [nI b.length _ h1]
termination_by n b => b.length
decreasing_by all_goals (simp_wf; omega)
theorem mE:jc []=[]:=rfl
theorem nH {b:List UInt8} (h:b≠[]):jc b=eY b::jc (b.drop (eY b).2):=by
 match b,h with
 |c::b,_=>
  show eY (c::b)::rh b.length ((c::b).drop _)=_;rw[nI];have hp:=jM (c::b);rw[List.length_drop];simp only[List.length_cons];omega
def aF (g:Nat×Nat):List D:=[.int .i32 (g.1:Nat),.int .i64 (g.2:Nat)]
def eo (l:List (Nat×Nat)):D:=.sl ((l.map aF).map (ic 2))
theorem CJ {l:List (Nat×Nat)}:∀e∈l.map aF,e.length=2:=by
 intro e he;obtain⟨g,_,rfl⟩:=List.mem_map.1 he;rfl
theorem lI {l:List (Nat×Nat)}:∀e∈l.map aF,∀d∈e,bS d=true:=by
 intro e he d hd;obtain⟨g,_,rfl⟩:=List.mem_map.1 he;simp only[aF,List.mem_cons,List.not_mem_nil,or_false] at hd
 rcases hd with rfl|rfl<;>rfl
theorem dt (st:St) (l:List (Nat×Nat)):V.Rows st 2 (eo l) (l.map aF):=Rows.l4 CJ lI
theorem uA:∀(left n r lo hi:Nat) (b:List UInt8),(c_ left n r lo hi b).2.1≠0→(c_ left n r lo hi b).2.1=n∧left≤b.length
 |0,n,r,lo,hi,b,h=>by simp[c_]
 |left+1,n,r,lo,hi,[],h=>by simp[c_] at h
 |left+1,n,r,lo,hi,x::xs,h=>by
  simp only[c_] at h⊢
  split at h
  ·simp at h
  ·rename_i hc;rw[if_neg hc];have:=uA left n _ _ _ xs h;exact⟨this.1,by simp;omega⟩
theorem sW {b:List UInt8} (h:b≠[]):(eY b).2≤b.length:=by
 match b,h with
 |c::xs,_=>
  unfold eY
  split
  ·simp
  ·rename_i hz;simp only[dX] at hz⊢
   split at hz
   ·simp at hz
   ·rename_i hk;rw[if_neg hk];have:=uA _ _ _ _ _ _ hz;rw[this.1];simp;omega
theorem GO {st:St} {x:D} {b:List UInt8} (hb:Bytes st x b) (hlen:b.length≤1048576):Ev pv 43 [x] st (eo (jc b)) st:=by
 refine Ev.mk1 rfl M8 rfl rfl rfl ?_;refine zE ?_;have hx:=hb.ref;refine qy ?_;(repeat refine qq ?_);(generalize hK:SeqQ _ _ _ _=K);refine EvC.reg ?_;(repeat(refine xL ?_));refine EvO.nil ?_;refine zF ?_;subst hK;refine qy ?_;(repeat refine qq ?_);(generalize hK:SeqQ _ _ _ _=K);refine EvC.reg ?_;(repeat(refine xL ?_));refine EvO.nil ?_;refine zF ?_;subst hK;refine qy ?_;refine EvC.seq (EvC.block ?_)
 refine EvC.loop (fun j fr ae=>∃(y out r n:D) (b':List UInt8) (done:List (Nat×Nat)),fr.clean=⟨6,[y,.tup [],.nul,out,r,n],[]⟩∧Ex st.bs.length (enterSt .ro st) ae∧Bytes ae y b'∧y.ref≤st.bs.length∧
  Acc st.bs.length ae 2 out (done.map aF)∧j=b'.length∧done++jc b'=jc b∧done.length+b'.length≤b.length) b.length
  ⟨x,.nul,_,_,b,[],rfl,Ex.refl _ _,hb.enter .ro,hx,.nul,rfl,rfl,by simp⟩ ?_
 rintro j fr ae ⟨y,out,r,n,b',done,hfr,hex,hy,HZ,vK,rfl,bV,hl⟩;rw[hfr];refine qy ?_;(repeat refine qq ?_);(generalize hK:SeqQ _ _ _ _=K);refine EvC.reg ?_
 (refine xT ?_)
 refine EvO.len rfl rfl rfl hy rfl ?_;(repeat(refine xT ?_));refine EvO.nil ?_;refine zF ?_;subst hK;refine qy ?_;rw[bO];refine qy ?_;(repeat refine qq ?_);refine qc (fun h1=>?_) (fun h1=>?_)<;>try simp only[cs] at h1
 ·refine EvC.skip ?_;have hb0:b'≠[]:=by rintro rfl;simp at h1
  (refine qy ?_);(repeat refine qq ?_);refine EvC.block ?_;refine qy ?_;(repeat refine qq ?_);(generalize hK:SeqQ _ _ _ _=K);refine EvC.reg ?_
  (refine xT ?_)
  refine EvO.su rfl rfl rfl (CK hy) ?_;(repeat(first|refine xT ?_|refine xL ?_));refine EvO.nil ?_;refine zF ?_;subst hK;refine qy ?_;generalize hf:dX b'=F at*;obtain⟨r0,n0,bg⟩:=F;refine qy ?_;(repeat refine qq ?_);(generalize hK:SeqQ _ _ _ _=K);refine EvC.reg ?_;(repeat(refine xT ?_));refine EvO.nil ?_;refine zF ?_;subst hK;refine qy ?_;generalize hK:SeqQ _ _ _ _=K
  have H:∀m,K .next ⟨6,[y,.tup [],.nul,out,.int .i32 ((eY b').1:Nat),.int .i64 ((eY b').2:Nat)],m⟩ ae:=by
   intro m;subst hK;generalize hg:eY b'=g;have hp:=jM b';have hle:=sW hb0;rw[hg] at hp hle;refine qy ?_;(repeat refine qq ?_);(generalize hK:SeqQ _ _ _ _=K);refine EvC.reg ?_
   (refine xT ?_)
   (refine xT ?_)
   (refine xT ?_)
   refine EvO.T rfl rfl rfl (d:=.agg (aF g)) (st1:=ae) rfl ?_;refine EvO.T rfl rfl rfl (d:=.win ae.bs.length 0 0 1 2) (st1:=ae.push (.mem 0 true (aF g))) rfl ?_;have hN:st.bs.length≤ae.bs.length:=hex.len;have tA:=hex.trans (Ex.push hN (.mem 0 true (aF g)));refine EvO.append rfl rfl rfl rfl (vK.push _) (Rows.one rfl) rfl rfl rfl rfl rfl rfl rfl (by decide) tA.len (by rw[tA.flr];exact Nat.le_refl _) (by rw[tA.ro];exact Nat.le_refl _) (by simp only[List.length_map,List.length_cons,List.length_nil];show(done.length+1)*16≤_;omega) fun Ft st2 CG xA _ _ _=>?_;(repeat(refine xL ?_));refine EvO.nil ?_;refine zF ?_;subst hK;refine qy ?_;have Ee:=tA.trans xA;have wz:Bytes st2 y b':=Rows.ex ((Ex.push hN _).trans xA) hy HZ;refine qy ?_;(repeat refine qq ?_);(generalize hK:SeqQ _ _ _ _=K);refine EvC.reg ?_
   (refine xT ?_)
   (refine xT ?_)
   refine EvO.slice rfl rfl rfl wz rfl rfl (l:=g.2) (r:=b'.length) ?_ ⟨by omega,by rw[bO];omega⟩ fun y2 Af FG=>?_
   ·show dH (V.byteCells b').length (some (.int .i64 (g.2:Nat))) none=_;rw[bO];simp only[dH,jL,lL,Option.bind_some];rw[if_pos ⟨by omega,by omega⟩];rfl
   (repeat(refine xL ?_));refine EvO.nil ?_;refine zF ?_;subst hK;refine⟨(b'.drop g.2).length,by rw[List.length_drop];omega,y2,Ft,_,_,b'.drop g.2,done++[g],rfl,Ee,?_,Nat.le_trans FG HZ,?_,rfl,?_,?_⟩
   ·have:((V.byteCells b').take b'.length).drop g.2=V.byteCells (b'.drop g.2):=by
     rw[←bO,List.take_length];simp[V.byteCells]
    unfold Bytes;rw[←this];exact Af
   ·rw[List.map_append];exact CG
   ·rw[List.append_assoc,List.singleton_append,←bV,nH hb0,hg]
   ·rw[List.length_append,List.length_drop];simp only[List.length_cons,List.length_nil];omega
  (refine qy ?_);(repeat refine qq ?_);refine qc (fun h2=>?_) (fun h2=>?_)<;>try simp only[cs] at h2
  ·refine EvC.reg ?_;(repeat(refine xL ?_));refine EvO.nil ?_;refine zF ?_;have:eY b'=(65533,1):=by unfold eY;rw[hf,if_pos (by simpa using h2)]
   rw[this] at H;exact H _
  ·refine EvC.skip ?_;have:eY b'=(r0,n0):=by unfold eY;rw[hf,if_neg (by simpa using h2)]
   rw[this] at H;exact H _
 ·refine EvC.exit ?_
  have hb0:b'=[]:=by cases b' with|nil=>rfl|cons _ _=>simp at h1<;>omega
  subst hb0;rw[mE,List.append_nil] at bV;refine qy ?_;(repeat refine qq ?_);(generalize hK:SeqQ _ _ _ _=K);refine EvC.reg ?_;(repeat(first|refine xT ?_|refine xL ?_));refine EvO.nil ?_;refine zF ?_;subst hK;refine qy ?_;refine EvC.ret ⟨rx,_,rfl,aB (by simp) (hex.take rfl) ?_⟩;rw[←bV];exact vK.freeze lI (n:=15) (by decide)
end Go.Proofs.YtajblankjjmonaaGreat
namespace Go.Proofs.YtajblankjjmonaaGreat
open Go.V Go
structure dI where
 i:Nat
 o:Nat
 g:Nat
 e:Int
 w:Int
def aG (gs:List (Nat×Nat)) (bj:D) (s:dI):List D:=[eo gs,bj,.int .i64 (s.i:Nat),.int .i64 (s.o:Nat),.int .i64 (s.g:Nat),.int .i64 s.e,.int .i64 s.w]
def bJ (gs:List (Nat×Nat)) (i:Nat) (r:Int):Bool:=match gs[i]? with
 |some g=>((g.1:Nat):Int)==r
 |none=>false
theorem cE {gs:List (Nat×Nat)} {i:Nat} {r:Int} (h:bJ gs i r=true):i<gs.length:=by
 unfold bJ at h
 split at h
 ·exact lt_get (by assumption)
 ·cases h
def bE (gs:List (Nat×Nat)) (s:dI) (r:Int):dI:=if bJ gs s.i r=true then{s with i:=s.i+1} else s
def tQ (gs:List (Nat×Nat)) (i:Nat):Bool:=match gs[i]? with
 |some g=>((g.1:Nat):Int)==65533 &&((g.2:Nat):Int)==1
 |none=>false
def gZ (aP:List Int) (s:dI) (i:Nat) (e:Int):dI:=if s.e=0 then{s with e:=e,w:=aP.getD i 0} else s
theorem nV {N k:Nat} {S s0:St} {H:List bG} {gs:List (Nat×Nat)} {bj:D} {s:dI} (kW:gs.length≤1048576) (r:Int) (hH:Has N S s0 (.box k (.mem 0 false (aG gs bj s))::H)):
  ∃d ae,Ev pv 69 [.ptr k 0 0,.int .i32 r] s0 d ae∧d=.bool (bJ gs s.i r)∧Has N S ae (.box k (.mem 0 false (aG gs bj s))::H):=by
 refine Ev.gT rfl MH rfl rfl rfl ?_;refine zE ?_;have a_:=hH;have hH:=hH.aY;have aU:(enterSt .rw s0).bs=s0.bs:=rfl;generalize enterSt .rw s0=S2 at*;have Ct:Arg N S2 2 (eo gs) (gs.map aF):=Arg.pure (fun st=>dt st gs);refine zQ 4 ?_
 by_cases ha:s.i<gs.length
 ·obtain⟨g,hg⟩:∃g,gs[s.i]?=some g:=⟨gs[s.i]'ha,List.getElem?_eq_getElem _⟩
  have hr1:(gs.map aF)[s.i]?=some (aF g):=by rw[List.getElem?_map,hg];rfl
  have bC:decide ((s.i:Int)<(gs.length:Nat))=true:=by rw[decide_eq_true];simp;omega
  have hv:bJ gs s.i r=(((g.1:Nat):Int)==r):=by unfold bJ;rw[hg]
  refine qq<|EvC.ml 4 (.bool (((g.1:Nat):Int)==r)) [] ?_ (fun ff tmp=>?_)
  ·refine zQ 8 ?_;refine qn ?_;simp only[List.length_map];refine zQ 10 ?_;refine qr (fun Fs xx=>?_) (hg:=wi bC);refine qf (fo:=0) (fun JH D'=>?_) (hg:=wi bC);refine zQ 5 ?_;refine EvO.nil (aI ?_);dsimp only[setW,List.foldl,nth,u2,u1];dsimp only[Fr.putO,Fr.put,Fr.clean,Fr.ev,Fr.get,nth,look,u1,u2,v1,v2,v4]
   all_goals(rfl)
  dsimp only[setW,List.foldl,nth,u2,u1];refine EvC.ret ⟨rx,_,_,_,rfl,ab (rfl),?_⟩;exact⟨by rw[hv];rfl,a_.af aU hH⟩
 ·have bC:decide ((s.i:Int)<(gs.length:Nat))=false:=by rw[decide_eq_false];simp;omega
  have hv:bJ gs s.i r=false:=by
   cases h:bJ gs s.i r with
   |true=>exact absurd (cE h) ha
   |false=>rfl
  refine qq<|EvC.ml 4 (.bool false) [] ?_ (fun ff tmp=>?_)
  ·refine zQ 8 ?_;refine qn ?_;simp only[List.length_map];refine zQ 17 ?_;refine EvO.nil (aI ?_);dsimp only[setW,List.foldl,nth,u2,u1];dsimp only[Fr.putO,Fr.put,Fr.clean,Fr.ev,Fr.get,nth,look,u1,u2,v1,v2,v4]
   all_goals(first|rfl|(simp[bC];done)|(simp_all;done)|(simp[bC];omega)|(simp_all;omega))
  dsimp only[setW,List.foldl,nth,u2,u1];refine EvC.ret ⟨rx,_,_,_,rfl,ab (rfl),?_⟩;exact⟨by rw[hv];rfl,a_.af aU hH⟩
theorem dC {N k:Nat} {S s0:St} {H:List bG} {gs:List (Nat×Nat)} {bj:D} {s:dI} (kW:gs.length≤1048576) (r:Int) (hH:Has N S s0 (.box k (.mem 0 false (aG gs bj s))::H)):
  ∃d ae,Ev pv 55 [.ptr k 0 0,.int .i32 r] s0 d ae∧d=.bool (bJ gs s.i r)∧Has N S ae (.box k (.mem 0 false (aG gs bj (bE gs s r)))::H):=by
 refine Ev.gT rfl MV rfl rfl rfl ?_;refine zE ?_;have a_:=hH;have hH:=hH.aY;have aU:(enterSt .rw s0).bs=s0.bs:=rfl;generalize enterSt .rw s0=S2 at*;refine zQ 9 ?_;obtain⟨_,st,hev,rfl,hH⟩:=nV kW r hH;refine qv hev ?_;refine zQ 1 ?_;unfold bE
 cases hb:bJ gs s.i r with
 |true=>
  have hlt:=cE hb;dsimp only[aG] at hH;rw[if_pos rfl];refine zQ 10 ?_;refine qT hH at0 fun st hH=>?_;dsimp only[u2,u1,u3,u4,setMany,u5,u6,D.cells,Nat.reduceAdd,aG,aF,ah] at hH;refine zQ 5 ?_;refine EvC.ret ⟨rx,_,_,_,rfl,ab (rfl),?_⟩;exact⟨rfl,a_.af aU hH⟩
 |false=>
  rw[if_neg (by simp)];refine zQ 6 ?_;refine EvC.ret ⟨rx,_,_,_,rfl,ab (rfl),?_⟩;exact⟨rfl,a_.af aU hH⟩
theorem x7 {N k:Nat} {S s0:St} {H:List bG} {gs:List (Nat×Nat)} {bj:D} {s:dI} (i:Nat) (hi:i<gs.length) (hH:Has N S s0 (.box k (.mem 0 false (aG gs bj s))::H)):
  ∃d ae,Ev pv 85 [.ptr k 0 0,.int .i64 (i:Nat)] s0 d ae∧d=.bool (tQ gs i)∧Has N S ae (.box k (.mem 0 false (aG gs bj s))::H):=by
 refine Ev.gT rfl Mv rfl rfl rfl ?_;refine zE ?_;have a_:=hH;have hH:=hH.aY;have aU:(enterSt .rw s0).bs=s0.bs:=rfl;generalize enterSt .rw s0=S2 at*;have Ct:Arg N S2 2 (eo gs) (gs.map aF):=Arg.pure (fun st=>dt st gs);refine zQ 4 ?_
 obtain⟨g,hg⟩:∃g,gs[i]?=some g:=⟨gs[i]'hi,List.getElem?_eq_getElem _⟩
 have hr1:(gs.map aF)[i]?=some (aF g):=by rw[List.getElem?_map,hg];rfl
 have hv:tQ gs i=(((g.1:Nat):Int)==65533 &&((g.2:Nat):Int)==1):=by unfold tQ;rw[hg]
 refine qq<|EvC.ml 4 (.bool (((g.1:Nat):Int)==65533 &&((g.2:Nat):Int)==1)) [] ?_ (fun ff tmp=>?_)
 ·refine zQ 5 ?_;refine qr fun Oc QL=>?_;refine qf (fo:=0) fun Kj F4=>?_;refine zQ 3 ?_;refine EvO.two 14 rfl (fun cZ=>?_) (fun cZ=>?_)
  ·refine zQ 5 ?_;refine qr (fun Kf F1=>?_) (hg:=wi cZ);refine qf (fo:=1) (fun G5 An=>?_) (hg:=wi cZ);refine zQ 4 ?_;refine EvO.nil (aI ?_);refine zG ?_
   all_goals(simp[cZ];done)
  ·refine zQ 11 ?_;refine EvO.nil (aI ?_);refine zG ?_
   all_goals(simp[cZ];done)
 dsimp only[setW,List.foldl,nth,u2,u1];refine EvC.ret ⟨rx,_,_,_,rfl,ab (rfl),?_⟩;exact⟨by rw[hv];rfl,a_.af aU hH⟩
theorem dP {N k:Nat} {S s0:St} {H:List bG} {gs:List (Nat×Nat)} {bj:D} {aP:List Int} {s:dI} (i:Nat) (e:Int) (hi:i<aP.length) (hH:Has N S s0 (.box k (.mem 0 false (aG gs bj s))::.lst bj 1 (aP.map ah)::H)):
  ∃d ae,Ev pv 45 [.ptr k 0 0,.int .i64 (i:Nat),.int .i64 e] s0 d ae∧d=.sl []∧Has N S ae (.box k (.mem 0 false (aG gs bj (gZ aP s i e)))::.lst bj 1 (aP.map ah)::H):=by
 refine Ev.gT rfl M6 rfl rfl rfl ?_;refine zE ?_;have a_:=hH;have hH:=hH.aY;have aU:(enterSt .rw s0).bs=s0.bs:=rfl;generalize enterSt .rw s0=S2 at*;refine zQ 4 ?_
 obtain⟨v,hv⟩:∃v,aP[i]?=some v:=⟨aP[i]'hi,List.getElem?_eq_getElem _⟩
 have hr1:=fe hv;unfold gZ;refine zQ 9 ?_;refine zI (fun h0=>?_) fun h0=>?_
 ·rw[if_pos h0];have Rw:aP.getD i 0=v:=by rw[List.getD_eq_getElem?_getD,hv];rfl
  refine zQ 9 ?_;refine qi hH at1 fun Kf F1=>?_;refine zQ 3 ?_;refine qT hH at0 fun st hH=>?_;dsimp only[u2,u1,u3,u4,setMany,u5,u6,D.cells,Nat.reduceAdd,aG,aF,ah] at hH;refine zQ 2 ?_;refine qT hH at0 fun st hH=>?_;dsimp only[u2,u1,u3,u4,setMany,u5,u6,D.cells,Nat.reduceAdd,aG,aF,ah] at hH;refine zQ 5 ?_;refine EvC.ret ⟨rx,_,_,_,rfl,ab (rfl),?_⟩;exact⟨rfl,by rw[Rw];exact a_.af aU hH⟩
 ·rw[if_neg h0];refine zQ 5 ?_;refine EvC.ret ⟨rx,_,_,_,rfl,ab (rfl),?_⟩;exact⟨rfl,a_.af aU hH⟩
end Go.Proofs.YtajblankjjmonaaGreat
namespace Go.Proofs.YtajblankjjmonaaGreat
open Go.V Go
noncomputable def bp (l:List Rg):List Rg:=@dite _ (∃a,di l a) (Classical.propDecidable _) (fun h=>Classical.choose h) (fun _=>[])
theorem iz {l a:List Rg} (h:di l a):bp l=a:=by
 have hx:∃a,di l a:=⟨a,h⟩
 unfold bp;rw[dif_pos hx];exact(Classical.choose_spec hx).unique h
theorem kZ {s0:St} {x:D} {l:List Rg} (hx:V.Rows s0 2 x (l.map ag)) (hl:l.length≤1048576):Ev pv 66 [x] s0 (aA (bp l)) s0∧(bp l).length≤2*l.length∧di l (bp l):=by
 obtain⟨_,hev,all,rfl,hperm,ji⟩:=yH hx (by omega);have hM:di l (all.foldl cY []).reverse:=lA (fun x=>hperm.mem_iff) ji;have hlen:=hperm.length_eq;have lD:=gW l;have jB:=pG all;rw[iz hM];exact⟨hev,by rw[List.length_reverse];omega,hM⟩
theorem dr (l:List Rg):SlD (aA l) 2 (l.map ag):=by
 rw[←dc];refine SlD.frozen ?_ ?_
 ·intro e he;obtain⟨x,_,rfl⟩:=List.mem_map.1 he;rfl
 ·intro e he d hd;obtain⟨x,_,rfl⟩:=List.mem_map.1 he;simp only[ag,List.mem_cons,List.not_mem_nil,or_false] at hd
  rcases hd with rfl|rfl<;>rfl
theorem tb {r:Int} {l a:List Rg} (h0:0≤r) (h1:r<55296) (hr:bX l r) (h:di l a):a≠[]:=by
 rintro rfl;have:=(h.2 r).2 ⟨by unfold bT;omega,hr⟩;obtain⟨x,hx,_⟩:=this;cases hx
theorem vh {r:Int} (h0:0≤r) (h1:r<55296) {a:List Rg} (h:di [(r,r)] a):a≠[]:=by
 rintro rfl;have:=(h.2 r).2 ⟨?_,?_⟩
 ·obtain⟨x,hx,_⟩:=this;cases hx
 ·unfold bT;omega
 ·exact⟨(r,r),List.mem_cons_self ..,by simp⟩
theorem iq {s0:St} (r:Int):Ev pv 90 [.int .i32 r] s0 (aA (bp [(r,r)])) s0:=by
 refine Ev.mk1 rfl Mq rfl rfl rfl ?_;refine zE ?_;obtain⟨hSb,hF,hH⟩:=ri s0;generalize enterSt .ro s0=S at*;refine zQ 8 ?_;refine EvO.c9 (qs:=[(0,_),(1,_)]) rfl rfl rfl rfl ⟨rfl,(ev rfl),(by rfl),rfl,(ev rfl),(by rfl),trivial⟩ (by intro q hq;simp only[List.mem_cons,List.not_mem_nil,or_false] at hq;rcases hq with rfl|rfl<;>exact⟨rfl,by exact Nat.le_of_ble_eq_true rfl⟩) (by show List.foldl _ [_,_] _=_;dsimp only[List.foldl_cons,List.foldl_nil,u2,u1]<;>rfl) (put_T rfl _) ?_;refine qh (s:=2) (vs:=[_]) hH fun k6 st EX hH=>?_;obtain⟨hev,hl,_⟩:=kZ (l:=[(r,r)]) (hH.rows at0) (by simp);refine qv hev ?_;refine zQ 2 ?_;refine EvC.ret ⟨rx,_,rfl,rl hSb hH (rfl)⟩
theorem DY {s0:St} (r:Int):Ev pv 106 [.int .i32 r] s0 (.bool (decide (33≤r∧r≤47∨58≤r∧r≤64∨91≤r∧r≤96∨123≤r∧r≤126))) s0:=by
 refine Ev.mk1 rfl Jo rfl rfl rfl ?_;refine zE ?_;obtain⟨hSb,hF,hH⟩:=ri s0;generalize enterSt .ro s0=S at*;refine zQ 5 ?_;refine EvC.ml 2 (.bool (decide (33≤r∧r≤47∨58≤r∧r≤64∨91≤r∧r≤96∨123≤r∧r≤126))) [] ?_ (fun ff tmp=>?_)
 ·refine zQ 3 ?_;refine EvO.two 5 rfl (fun bZ=>?_) (fun bZ=>?_)
  ·refine zQ 4 ?_;refine EvO.two 9 rfl (fun ig=>?_) (fun ig=>?_)
   ·refine zQ 24 ?_;refine EvO.nil (aI ?_);refine zG ?_
    all_goals(simp[bZ,ig];done)
   ·refine zQ 3 ?_;refine EvO.two 12 rfl (fun cZ=>?_) (fun cZ=>?_)
    ·refine zQ 2 ?_;refine EvO.pickT (wantD_is rfl rfl rfl ig) rfl cZ (put_T rfl _) ?_;refine zQ 2 ?_;refine EvO.two 17 rfl (fun b7=>?_) (fun b7=>?_)
     ·refine zQ 16 ?_;refine EvO.nil (aI ?_);refine zG ?_
      all_goals(simp[bZ,ig,cZ,b7];done)
     ·refine zQ 3 ?_;refine EvO.two 20 rfl (fun aW=>?_) (fun aW=>?_)
      ·refine zQ 2 ?_;refine EvO.pickT (wantD_is rfl rfl rfl b7) rfl aW (put_T rfl _) ?_;refine zQ 2 ?_;refine EvO.two 25 rfl (fun aZ=>?_) (fun aZ=>?_)
       ·refine zQ 8 ?_;refine EvO.nil (aI ?_);refine zG ?_
        all_goals(simp[bZ,ig,cZ,b7,aW,aZ];done)
       ·refine zQ 3 ?_;refine EvO.two 28 rfl (fun aQ=>?_) (fun aQ=>?_)
        ·refine zQ 2 ?_;refine EvO.pickT (wantD_is rfl rfl rfl aZ) rfl aQ (put_T rfl _) ?_;refine zQ 2 ?_;refine EvO.nil (aI ?_);refine zG ?_
         all_goals(simp[bZ,ig,cZ,b7,aW,aZ,aQ];done)
        ·refine zQ 2 ?_;refine EvO.pickF (wantD_is rfl rfl rfl aZ) rfl aQ (put_T rfl _) ?_;refine zQ 2 ?_;refine EvO.nil (aI ?_);refine zG ?_
         all_goals(simp[bZ,ig,cZ,b7,aW,aZ,aQ];done)
      ·refine zQ 2 ?_;refine EvO.pickF (wantD_is rfl rfl rfl b7) rfl aW (put_T rfl _) ?_;refine zQ 5 ?_;refine EvO.two 28 rfl (fun aQ=>?_) (fun aQ=>?_)
       ·refine zQ 5 ?_;refine EvO.nil (aI ?_);refine zG ?_
        all_goals(simp[bZ,ig,cZ,b7,aW,aQ];done)
       ·refine zQ 5 ?_;refine EvO.nil (aI ?_);refine zG ?_
        all_goals(simp[bZ,ig,cZ,b7,aW,aQ];done)
    ·refine zQ 2 ?_;refine EvO.pickF (wantD_is rfl rfl rfl ig) rfl cZ (put_T rfl _) ?_;refine zQ 5 ?_;refine EvO.two 20 rfl (fun aW=>?_) (fun aW=>?_)
     ·refine zQ 5 ?_;refine EvO.two 25 rfl (fun aZ=>?_) (fun aZ=>?_)
      ·refine zQ 8 ?_;refine EvO.nil (aI ?_);refine zG ?_
       all_goals(simp[bZ,ig,cZ,aW,aZ];done)
      ·refine zQ 3 ?_;refine EvO.two 28 rfl (fun aQ=>?_) (fun aQ=>?_)
       ·refine zQ 2 ?_;refine EvO.pickT (wantD_is rfl rfl rfl aZ) rfl aQ (put_T rfl _) ?_;refine zQ 2 ?_;refine EvO.nil (aI ?_);refine zG ?_
        all_goals(simp[bZ,ig,cZ,aW,aZ,aQ];done)
       ·refine zQ 2 ?_;refine EvO.pickF (wantD_is rfl rfl rfl aZ) rfl aQ (put_T rfl _) ?_;refine zQ 2 ?_;refine EvO.nil (aI ?_);refine zG ?_
        all_goals(simp[bZ,ig,cZ,aW,aZ,aQ];done)
     ·refine zQ 8 ?_;refine EvO.two 28 rfl (fun aQ=>?_) (fun aQ=>?_)
      ·refine zQ 5 ?_;refine EvO.nil (aI ?_);refine zG ?_
       all_goals(simp[bZ,ig,cZ,aW,aQ];done)
      ·refine zQ 5 ?_;refine EvO.nil (aI ?_);refine zG ?_
       all_goals(simp[bZ,ig,cZ,aW,aQ];done)
  ·refine zQ 7 ?_;refine EvO.two 12 rfl (fun cZ=>?_) (fun cZ=>?_)
   ·refine zQ 5 ?_;refine EvO.two 17 rfl (fun b7=>?_) (fun b7=>?_)
    ·refine zQ 16 ?_;refine EvO.nil (aI ?_);refine zG ?_
     all_goals(simp[bZ,cZ,b7];done)
    ·refine zQ 3 ?_;refine EvO.two 20 rfl (fun aW=>?_) (fun aW=>?_)
     ·refine zQ 2 ?_;refine EvO.pickT (wantD_is rfl rfl rfl b7) rfl aW (put_T rfl _) ?_;refine zQ 2 ?_;refine EvO.two 25 rfl (fun aZ=>?_) (fun aZ=>?_)
      ·refine zQ 8 ?_;refine EvO.nil (aI ?_);refine zG ?_
       all_goals(simp[bZ,cZ,b7,aW,aZ];done)
      ·refine zQ 3 ?_;refine EvO.two 28 rfl (fun aQ=>?_) (fun aQ=>?_)
       ·refine zQ 2 ?_;refine EvO.pickT (wantD_is rfl rfl rfl aZ) rfl aQ (put_T rfl _) ?_;refine zQ 2 ?_;refine EvO.nil (aI ?_);refine zG ?_
        all_goals(simp[bZ,cZ,b7,aW,aZ,aQ];done)
       ·refine zQ 2 ?_;refine EvO.pickF (wantD_is rfl rfl rfl aZ) rfl aQ (put_T rfl _) ?_;refine zQ 2 ?_;refine EvO.nil (aI ?_);refine zG ?_
        all_goals(simp[bZ,cZ,b7,aW,aZ,aQ];done)
     ·refine zQ 2 ?_;refine EvO.pickF (wantD_is rfl rfl rfl b7) rfl aW (put_T rfl _) ?_;refine zQ 5 ?_;refine EvO.two 28 rfl (fun aQ=>?_) (fun aQ=>?_)
      ·refine zQ 5 ?_;refine EvO.nil (aI ?_);refine zG ?_
       all_goals(simp[bZ,cZ,b7,aW,aQ];done)
      ·refine zQ 5 ?_;refine EvO.nil (aI ?_);refine zG ?_
       all_goals(simp[bZ,cZ,b7,aW,aQ];done)
   ·refine zQ 8 ?_;refine EvO.two 20 rfl (fun aW=>?_) (fun aW=>?_)
    ·refine zQ 5 ?_;refine EvO.two 25 rfl (fun aZ=>?_) (fun aZ=>?_)
     ·refine zQ 8 ?_;refine EvO.nil (aI ?_);refine zG ?_
      all_goals(simp[bZ,cZ,aW,aZ];done)
     ·refine zQ 3 ?_;refine EvO.two 28 rfl (fun aQ=>?_) (fun aQ=>?_)
      ·refine zQ 2 ?_;refine EvO.pickT (wantD_is rfl rfl rfl aZ) rfl aQ (put_T rfl _) ?_;refine zQ 2 ?_;refine EvO.nil (aI ?_);refine zG ?_
       all_goals(simp[bZ,cZ,aW,aZ,aQ];done)
      ·refine zQ 2 ?_;refine EvO.pickF (wantD_is rfl rfl rfl aZ) rfl aQ (put_T rfl _) ?_;refine zQ 2 ?_;refine EvO.nil (aI ?_);refine zG ?_
       all_goals(simp[bZ,cZ,aW,aZ,aQ];done)
    ·refine zQ 8 ?_;refine EvO.two 28 rfl (fun aQ=>?_) (fun aQ=>?_)
     ·refine zQ 5 ?_;refine EvO.nil (aI ?_);refine zG ?_
      all_goals(simp[bZ,cZ,aW,aQ];done)
     ·refine zQ 5 ?_;refine EvO.nil (aI ?_);refine zG ?_
      all_goals(simp[bZ,cZ,aW,aQ];done)
 dsimp only[setW,List.foldl,nth,u2,u1];refine EvC.ret ⟨rx,_,rfl,rl hSb hH (rfl)⟩
end Go.Proofs.YtajblankjjmonaaGreat
namespace Go.Proofs.YtajblankjjmonaaGreat
open Go.V Go
theorem nO:∀gs:List (Nat×Nat),iO ((gs.map aF).map (ic 2))=some (gs.map fun g=>((g.1:Nat):Int))
 |[]=>rfl
 |g::gs=>by
  have ih:=nO gs;simp only[List.map_cons];show(match iO ((gs.map aF).map (ic 2)) with|some rs=>some (((g.1:Nat):Int)::rs)|none=>none)=_;rw[ih]
theorem pZ:∀(rs:List Int) (acc:List UInt8),(digS rs acc).2≤rs.length∧(digS rs acc).1.length≤acc.length+(digS rs acc).2
 |[],acc=>by simp[digS]
 |r::rs,acc=>by
  unfold digS
  split
  ·have h:=pZ rs (if 48<r∨acc≠[] then acc++[UInt8.ofNat r.toNat] else acc);simp only[List.length_cons]
   have hl:(if 48<r∨acc≠[] then acc++[UInt8.ofNat r.toNat] else acc).length≤acc.length+1:=by
    split<;>simp
   omega
  ·simp
structure kh (gs:List (Nat×Nat)) (aP:List Int):Prop where
 gl:gs.length≤120
 pl:aP.length=gs.length
end Go.Proofs.YtajblankjjmonaaGreat
namespace Go.Proofs.YtajblankjjmonaaGreat
open Go.V Go
structure Nod where
 op:Int
 rd:D
 rs:List Rg
 mn:Int
 mx:Int
 lz:Bool
 cap:Int
 kids:Int
def ay (n:Nod):List D:=[.int .i64 n.op,n.rd,.int .i64 n.mn,.int .i64 n.mx,.bool n.lz,.int .i64 n.cap,.int .i64 n.kids]
def Nod.ok (n:Nod):Prop:=SlD n.rd 2 (n.rs.map ag)∧n.rs.length≤1048576∧n.kids≤9223372036854775807
structure Nl where
 d:D
 l:List Nod
structure Nl.ok (x:Nl):Prop where
 c:SlD x.d 7 (x.l.map ay)
 i:∀n∈x.l,n.ok
 nl:x.l.length≤1048576
theorem gi {l:List Nod} {i:Nat} {q:Nod} (h:l[i]?=some q):(l.map ay)[i]?=some (ay q):=by rw[List.getElem?_map,h];rfl
mutual
inductive Tr where
 |mk (n:Nod) (ks:aJ)
inductive aJ where
 |nil
 |cons (t:Tr) (ts:aJ)
end
def aJ.len:aJ→Nat
 | .nil=>0
 | .cons _ ts=>ts.len+1
mutual
def Tr.flat:Tr→List Nod
 | .mk n ks=>n::ks.flat
def aJ.flat:aJ→List Nod
 | .nil=>[]
 | .cons t ts=>t.flat++ts.flat
end
def jO (n:Nod) (nk:Nat):Prop:=
 n.kids=(nk:Int)∧(((n.op=1∨n.op=7∨n.op=8)∧nk=0)∨(n.op=2∧nk=0)∨((n.op=3∨n.op=4)∧2≤nk)∨
  (n.op=5∧nk=1∧0≤n.mn∧n.mn≤30∧(n.mx=-1∨(n.mn≤n.mx∧n.mx≤30)))∨(n.op=6∧nk=1∧1≤n.cap∧n.cap≤4))
mutual
def Tr.ok:Tr→Prop
 | .mk n ks=>jO n ks.len∧ks.ok
def aJ.ok:aJ→Prop
 | .nil=>True
 | .cons t ts=>t.ok∧ts.ok
end
def bk (n:Nod) (s k:Nat):Nat:=
 if n.op=2∨n.op=7∨n.op=8 then 1
 else if n.op=4 then s+2*(k-1)
 else if n.op=6 then s+2
 else if n.op=5 then(if n.mx=-1 then n.mn.toNat*s+s+2 else n.mn.toNat*s+(n.mx.toNat-n.mn.toNat)*(s+1))
 else s
mutual
def Tr.sz:Tr→Nat
 | .mk n ks=>bk n ks.sz ks.len
def aJ.sz:aJ→Nat
 | .nil=>0
 | .cons t ts=>t.sz+ts.sz
end
def bh (op x y:Int) (rs:List Rg):aN:=⟨op,x,y,.sl ((rs.map ag).map (ic 2)),rs⟩
def gJ (s o:Nat) (lz:Bool):aN:=if lz=true then bh 2 (o:Nat) ((s+1:Nat):Int) [] else bh 2 ((s+1:Nat):Int) (o:Nat) []
def eZ (e:Nat):aN:=bh 3 (e:Nat) 0 []
def ei (c:Nat→List aN) (z:Nat):Nat→Nat→List aN
 |0,_=>[]
 |k+1,b=>c b++ei c z k (b+z)
def dK (sp:Nat→aN) (c:Nat→List aN) (z:Nat):Nat→Nat→List aN
 |0,_=>[]
 |k+1,b=>sp b::(c (b+1)++dK sp c z k (b+1+z))
def kS (z:Nat):Nat→Nat→List Nat
 |0,_=>[]
 |k+1,b=>b::kS z k (b+1+z)
def n_ (n:Nod) (c:Nat→List aN) (z b:Nat):List aN:=
 if n.mx=-1 then ei c z n.mn.toNat b++(gJ (b+n.mn.toNat*z) (b+n.mn.toNat*z+z+2) n.lz::(c (b+n.mn.toNat*z+1)++[eZ (b+n.mn.toNat*z)]))
 else ei c z n.mn.toNat b++dK (fun s=>gJ s (b+n.mn.toNat*z+(n.mx.toNat-n.mn.toNat)*(z+1)) n.lz) c z (n.mx.toNat-n.mn.toNat) (b+n.mn.toNat*z)
mutual
def av:Tr→Nat→List aN
 | .mk n ks,b=>
  if n.op=2 then[bh 1 0 0 n.rs]
  else if n.op=7 then[bh 5 0 0 []]
  else if n.op=8 then[bh 6 0 0 []]
  else if n.op=3 then eT ks b
  else if n.op=4 then cA (eZ (b+bk n ks.sz ks.len)) ks b
  else if n.op=5 then n_ n (eT ks) ks.sz b
  else if n.op=6 then bh 4 (2*n.cap) 0 []::(eT ks (b+1)++[bh 4 (2*n.cap+1) 0 []])
  else[]
def eT:aJ→Nat→List aN
 | .nil,_=>[]
 | .cons t ts,b=>av t b++eT ts (b+t.sz)
def cA (jp:aN):aJ→Nat→List aN
 | .nil,_=>[]
 | .cons t ts,b=>if ts.len=0 then av t b else gJ b (b+1+t.sz+1) false::(av t (b+1)++jp::cA jp ts (b+t.sz+2))
end
def gN:aJ→Nat→List Nat
 | .nil,_=>[]
 | .cons t ts,b=>if ts.len=0 then[] else(b+1+t.sz)::gN ts (b+t.sz+2)
theorem iv {c:Nat→List aN} {z:Nat} (hc:∀b,(c b).length=z):∀k b,(ei c z k b).length=k*z
 |0,b=>by simp[ei]
 |k+1,b=>by rw[ei,List.length_append,hc,iv hc k,Nat.add_mul];omega
theorem gv {sp:Nat→aN} {c:Nat→List aN} {z:Nat} (hc:∀b,(c b).length=z):∀k b,(dK sp c z k b).length=k*(z+1)
 |0,b=>by simp[dK]
 |k+1,b=>by rw[dK,List.length_cons,List.length_append,hc,gv hc k,Nat.add_mul];omega
theorem Bo {n:Nod} {c:Nat→List aN} {z b:Nat} (hc:∀b,(c b).length=z) (h:n.op=5):(n_ n c z b).length=bk n z 1:=by
 unfold n_ bk;rw[if_neg (show¬(n.op=2∨n.op=7∨n.op=8) by omega),if_neg (show¬n.op=4 by omega),if_neg (show¬n.op=6 by omega),if_pos h]
 split
 ·rw[List.length_append,iv hc,List.length_cons,List.length_append,hc];simp only[List.length_cons,List.length_nil];omega
 ·rw[List.length_append,iv hc,gv hc]
theorem aJ.yN {ks:aJ} (h:ks.len=1):∃t,ks=.cons t .nil:=by
 cases ks with
 |nil=>simp[aJ.len] at h
 |cons t ts=>cases ts with
  |nil=>exact⟨t,rfl⟩
  |cons u us=>simp[aJ.len] at h
theorem aJ.len_nil {ks:aJ} (h:ks.len=0):ks=.nil:=by
 cases ks with
 |nil=>rfl
 |cons t ts=>simp[aJ.len] at h
mutual
theorem bw:∀(t:Tr) (b:Nat),t.ok→(av t b).length=t.sz
 | .mk n ks,b,h=>by
  simp only[Tr.ok] at h;obtain⟨h1,h2⟩:=h;have hc:=fun b=>mz ks b h2;have ha:=fun jp b=>kf jp ks b h2;simp only[av,Tr.sz];obtain⟨_,⟨h3,h4⟩|⟨h3,h4⟩|⟨h3,h4⟩|⟨h3,h4,h5⟩|⟨h3,h4,h5⟩⟩:=h1
  ·have hk:=aJ.len_nil h4;subst hk
   by_cases q7:n.op=7
   ·simp[q7,bk]
   ·by_cases q8:n.op=8
    ·simp[q8,bk]
    ·have q1:n.op=1:=by omega
     simp[q1,bk,aJ.sz]
  ·simp[h3,bk]
  ·rcases h3 with h3|h3
   ·simp[h3,bk,hc]
   ·simp[h3,bk,ha]
  ·have:=Bo (n:=n) (b:=b) hc h3;simp only[h3] at this⊢;simp only[show¬((5:Int)=2) by decide,show¬((5:Int)=7) by decide,show¬((5:Int)=8) by decide,show¬((5:Int)=3) by decide,show¬((5:Int)=4) by decide,if_false,if_true];rw[this,h4]
  ·simp[h3,bk,hc]
theorem mz:∀(ts:aJ) (b:Nat),ts.ok→(eT ts b).length=ts.sz
 | .nil,b,_=>by simp[eT,aJ.sz]
 | .cons t ts,b,h=>by
  simp only[aJ.ok] at h;simp only[eT,aJ.sz,List.length_append];rw[bw t b h.1,mz ts _ h.2]
theorem kf (jp:aN):∀(ts:aJ) (b:Nat),ts.ok→(cA jp ts b).length=ts.sz+2*(ts.len-1)
 | .nil,b,_=>by simp[cA,aJ.sz,aJ.len]
 | .cons t ts,b,h=>by
  simp only[aJ.ok] at h;have h1:=kf jp ts (b+t.sz+2) h.2;simp only[cA,aJ.sz,aJ.len]
  by_cases q:ts.len=0
  ·rw[if_pos q,bw t b h.1,q];have:=aJ.len_nil q;subst this;simp[aJ.sz]
  ·rw[if_neg q,List.length_cons,List.length_append,List.length_cons,bw t _ h.1,h1];omega
end
def dU (f:Nat→aN) (c:List aN) (l:List Nat):List aN:=l.foldl (fun c j=>c.set j (f j)) c
theorem ko {α:Type} (pre post:List α) (x y:α):(pre++x::post).set pre.length y=pre++y::post:=by
 rw[List.set_append_right _ _ (Nat.le_refl _),Nat.sub_self];rfl
theorem kJ {α:Type} (pre post:List α) (x:α):(pre++x::post)[pre.length]?=some x:=by
 rw[List.getElem?_append_right (Nat.le_refl _),Nat.sub_self];rfl
theorem kz {sp:Nat→aN} {c:Nat→List aN} {z:Nat} (hc:∀b,(c b).length=z) {i0:aN}:∀(k b:Nat) (pre post:List aN),pre.length=b→dU sp (pre++dK (fun _=>i0) c z k b++post) (kS z k b)=pre++dK sp c z k b++post∧∀j∈kS z k b,(pre++dK (fun _=>i0) c z k b++post)[j]?=some i0
 |0,b,pre,post,_=>⟨rfl,fun j hj=>by cases hj⟩
 |k+1,b,pre,post,h=>by
  have ih:=kz (sp:=sp) hc (i0:=i0) k (b+1+z) (pre++i0::c (b+1)) post (by rw[List.length_append,List.length_cons,hc];omega);have AU:=kz (sp:=sp) hc (i0:=i0) k (b+1+z) (pre++sp b::c (b+1)) post (by rw[List.length_append,List.length_cons,hc];omega);simp only[dK,kS];have e:pre++i0::(c (b+1)++dK (fun _=>i0) c z k (b+1+z))++post=pre++i0::(c (b+1)++dK (fun _=>i0) c z k (b+1+z)++post):=by simp
  have e2:pre++i0::c (b+1)++dK (fun _=>i0) c z k (b+1+z)++post=pre++i0::(c (b+1)++dK (fun _=>i0) c z k (b+1+z)++post):=by simp
  refine⟨?_,fun j hj=>?_⟩
  ·unfold dU at AU⊢;rw[List.foldl_cons,e]
   have hs:(pre++i0::(c (b+1)++dK (fun _=>i0) c z k (b+1+z)++post)).set b (sp b)=pre++sp b::c (b+1)++dK (fun _=>i0) c z k (b+1+z)++post:=by
    rw[←h,ko];simp
   rw[hs,AU.1];simp
  ·rw[e]
   rcases List.mem_cons.1 hj with rfl|hj
   ·rw[←h];exact kJ _ _ _
   ·rw[←e2];exact ih.2 j hj
theorem kQ {jp i0:aN}:∀(ts:aJ) (b:Nat) (pre post:List aN),ts.ok→pre.length=b→dU (fun _=>jp) (pre++cA i0 ts b++post) (gN ts b)=pre++cA jp ts b++post∧∀j∈gN ts b,(pre++cA i0 ts b++post)[j]?=some i0
 | .nil,b,pre,post,_,_=>⟨by simp[cA,gN,dU],fun j hj=>by simp[gN] at hj⟩
 | .cons t ts,b,pre,post,hok,h=>by
  simp only[aJ.ok] at hok
  by_cases q:ts.len=0
  ·simp only[cA,gN,if_pos q];exact⟨rfl,fun j hj=>by cases hj⟩
  ·simp only[cA,gN,if_neg q];generalize gJ b (b+1+t.sz+1) false=sp;have hcl:=bw t (b+1) hok.1;have ih:=kQ (jp:=jp) (i0:=i0) ts (b+t.sz+2) (pre++sp::(av t (b+1)++[i0])) post hok.2 (by simp only[List.length_append,List.length_cons,List.length_nil,hcl];omega);have AU:=kQ (jp:=jp) (i0:=i0) ts (b+t.sz+2) (pre++sp::(av t (b+1)++[jp])) post hok.2 (by simp only[List.length_append,List.length_cons,List.length_nil,hcl];omega);generalize cA i0 ts (b+t.sz+2)=A at*;have e:pre++sp::(av t (b+1)++i0::A)++post=(pre++sp::av t (b+1))++i0::(A++post):=by simp
   have hl:(pre++sp::av t (b+1)).length=b+1+t.sz:=by simp only[List.length_append,List.length_cons,hcl];omega
   refine⟨?_,fun j hj=>?_⟩
   ·unfold dU at AU⊢;rw[List.foldl_cons,e,←hl,ko];have:=AU.1;simp only[List.append_assoc,List.cons_append,List.nil_append] at this⊢;exact this
   ·rw[e]
    rcases List.mem_cons.1 hj with rfl|hj
    ·rw[←hl];exact kJ _ _ _
    ·have:=ih.2 j hj;simp only[List.append_assoc,List.cons_append,List.nil_append] at this⊢;exact this
def fp {α:Type} (L:List α) (at_:Nat) (M:List α):Prop:=∃post,L.drop at_=M++post
theorem fp.head {α:Type} {L M:List α} {a:α} {at_:Nat} (h:fp L at_ (a::M)):L[at_]?=some a:=by
 obtain⟨post,h⟩:=h;have:=congrArg (·[0]?) h
 simpa using this
theorem fp.tail {α:Type} {L M:List α} {a:α} {at_:Nat} (h:fp L at_ (a::M)):fp L (at_+1) M:=by
 obtain⟨post,h⟩:=h;refine⟨post,?_⟩;rw[←List.drop_drop,h];rfl
theorem fp.left {α:Type} {L M M':List α} {at_:Nat} (h:fp L at_ (M++M')):fp L at_ M:=by
 obtain⟨post,h⟩:=h;exact⟨M'++post,by rw[h,List.append_assoc]⟩
theorem fp.right {α:Type} {L M M':List α} {at_:Nat} (h:fp L at_ (M++M')):fp L (at_+M.length) M':=by
 obtain⟨post,h⟩:=h;refine⟨post,?_⟩;rw[←List.drop_drop,h,List.append_assoc,List.drop_left]
theorem fp.le {α:Type} {L M:List α} {at_:Nat} (h:fp L at_ M) (hM:M≠[]):at_+M.length≤L.length:=by
 obtain⟨post,h⟩:=h;have:=congrArg List.length h;simp only[List.length_drop,List.length_append] at this
 have:0<M.length:=by cases M with|nil=>exact absurd rfl hM|cons _ _=>simp
 omega
theorem fp.all {α:Type} (L:List α):fp L 0 L:=⟨[],by simp⟩
mutual
def Tr.zs:Tr→List Int
 | .mk n ks=>((min (bk n ks.sz ks.len) 401:Nat):Int)::ks.zs
def aJ.zs:aJ→List Int
 | .nil=>[]
 | .cons t ts=>t.zs++ts.zs
end
mutual
def Tr.es:Tr→Nat→List Int
 | .mk n ks,at_=>((at_+1+ks.flat.length:Nat):Int)::ks.es (at_+1)
def aJ.es:aJ→Nat→List Int
 | .nil,_=>[]
 | .cons t ts,at_=>t.es at_++ts.es (at_+t.flat.length)
end
mutual
theorem Tr.gY:∀t:Tr,t.zs.length=t.flat.length
 | .mk n ks=>by simp[Tr.zs,Tr.flat,aJ.gY ks]
theorem aJ.gY:∀ts:aJ,ts.zs.length=ts.flat.length
 | .nil=>rfl
 | .cons t ts=>by simp[aJ.zs,aJ.flat,Tr.gY t,aJ.gY ts]
end
mutual
theorem Tr.ib:∀(t:Tr) (a:Nat),(t.es a).length=t.flat.length
 | .mk n ks,a=>by simp[Tr.es,Tr.flat,aJ.ib ks]
theorem aJ.ib:∀(ts:aJ) (a:Nat),(ts.es a).length=ts.flat.length
 | .nil,_=>rfl
 | .cons t ts,a=>by simp[aJ.es,aJ.flat,Tr.ib t,aJ.ib ts]
end
theorem Tr.iD (t:Tr):0<t.flat.length:=by cases t;simp[Tr.flat]
theorem aJ.nb:∀ts:aJ,ts.len≤ts.flat.length
 | .nil=>Nat.le_refl _
 | .cons t ts=>by
  have h1:=aJ.nb ts;have h2:=t.iD;simp only[aJ.len,aJ.flat,List.length_append];omega
end Go.Proofs.YtajblankjjmonaaGreat
