/-
 Arguments as the row reads them are values of V; no conditions.
-/
import Derived.Test.YtbdnabmmlbiomaaXM2
import Derived.DataReads
import Derived.ChangeOld
import GoSem.ClaimChange
import Derived.Below
import Derived.Test.YtbdnabmmlbiomaaRows
import Derived.Test.YtbdnabmmlbiomaaXGCa
import Derived.Test.YtbdnabmmlbiomaaXPx
import Derived.KernelRfl
set_option linter.unusedSimpArgs false
set_option linter.unusedVariables false
set_option linter.unusedSectionVars false
set_option linter.unnecessarySimpa false
set_option maxRecDepth 100000
set_option maxHeartbeats 4000000
namespace Go.V
open Go.RowKit
def lj {H:Type}:DataW H→Bool
 | .agg _=>true
 |_=>false
mutual
def ra {H:Type}:DataW H→List D
 | .lit (.bool b)=>[.bool b]
 | .lit (.int k n)=>[.int k n]
 | .lit (.string l)=>[.str l]
 | .lit _=>[.bp]
 | .nil=>[.nul]
 | .slice elems _=>[.sl (sK elems)]
 | .agg parts=>iX parts
 | .ptr _=>[.bp]
 | .iface _ _=>[.bp]
 | .map _=>[.bp]
 | .held _=>[.bp]
def sK {H:Type}:List (DataW H)→List D
 |[]=>[]
 |d::r=>(if lj d then .agg (ra d) else(ra d).headD .bp)::sK r
def iX {H:Type}:List (DataW H)→List D
 |[]=>[]
 |d::r=>ra d++iX r
end
def ku {H:Type} (d:DataW H):D:=if lj d then .agg (ra d) else(ra d).headD .bp
theorem sJ {H:Type}:∀l:List (DataW H),sK l=l.map ku
 |[]=>rfl
 |d::r=>by simp only[sK,List.map_cons,sJ r];rfl
def nH (P:Program):Nat→List Field→Option Nat
 |o,[]=>some o
 |o,f::fs=>if f.offset=o then nH P (o+P.cellsOf f.type) fs else none
def va (P:Program):Nat→TypeId→Bool
 |0,_=>false
 |n+1,t=>match P.underlying t with
  |some .bool=>true
  |some (.int _)=>true
  |some .string=>true
  |some (.slice e)=>va P n e &&decide (0<P.cellsOf e)
  |some (.struct fs)=>(nH P 0 fs.toList==some (P.cellsOf t)) &&fs.toList.all fun f=>va P n f.type
  |some (.array m e)=>va P n e &&(P.cellsOf t==m*P.cellsOf e)
  |_=>false
structure CR (w:World) (Z:Nat→Prop) (cs:List D) (vs:List Value):Prop where
 len:cs.length=vs.length
 one:∀v∈vs,v.oneCell'=true
 onec:∀c∈cs,c.cells?=some [c]
 rel:∀(i:Nat) c v,cs[i]?=some c→vs[i]?=some v→IR w Z c v
theorem CR.nil {w:World} {Z:Nat→Prop}:CR w Z [] []:=⟨rfl,by simp,by simp,by simp⟩
theorem CR.single {w:World} {Z:Nat→Prop} {c:D} {v:Value} (h:IR w Z c v) (h1:v.oneCell'=true) (h2:c.cells?=some [c]):CR w Z [c] [v]:=
 ⟨rfl,by simpa using h1,by simpa using h2,fun i c' v' hc hv=>by
  cases i with
  |zero=>simp at hc hv;subst hc;subst hv;exact h
  |succ i=>simp at hc⟩
theorem CR.append {w:World} {Z:Nat→Prop} {cs cs':List D} {vs IH:List Value} (h:CR w Z cs vs) (g:CR w Z cs' IH):CR w Z (cs++cs') (vs++IH):=by
 refine⟨by simp[h.len,g.len],fun v hv=>?_,fun c hc=>?_,fun i c v hc hv=>?_⟩
 ·rcases List.mem_append.1 hv with hv|hv
  ·exact h.one v hv
  ·exact g.one v hv
 ·rcases List.mem_append.1 hc with hc|hc
  ·exact h.onec c hc
  ·exact g.onec c hc
 ·rw[List.getElem?_append] at hc hv;have:=h.len
  split at hc
  ·rw[if_pos (by omega)] at hv;exact h.rel i c v hc hv
  ·rw[if_neg (by omega)] at hv;rw[←this] at hv;exact g.rel _ c v hc hv
theorem rH {H:Type} {P:Program} {w:World} {Z:Nat→Prop} {f:Field→Option (DataW H×List MemPlace)} {cs:List Value}:∀{fs:List Field} {o e:Nat} {xs:List (DataW H×List MemPlace)},nH P o fs=some e→e≤cs.length→fs.mapM f=some xs→
  (∀g∈fs,∀x,f g=some x→CR w Z (ra x.1) ((cs.drop g.offset).take (P.cellsOf g.type)))→CR w Z (iX (xs.map (·.1))) ((cs.drop o).take (e-o))∧o≤e
 |[],o,e,xs,hc,_,hm,_=>by
  simp[nH] at hc;subst hc;simp at hm;subst hm;simp[iX];exact CR.nil
 |g::fs,o,e,xs,hc,he,hm,hx=>by
  simp only[nH] at hc
  split at hc
  ·rename_i ho;rw[List.mapM_cons] at hm
   cases h1:f g with
   |none=>rw[h1] at hm;simp at hm
   |some x=>
    rw[h1] at hm
    cases h2:fs.mapM f with
    |none=>rw[h2] at hm;simp at hm
    |some ys=>
     rw[h2] at hm;simp at hm;subst hm;obtain⟨ih,hle⟩:=rH hc he h2 fun g' RI=>hx g' (List.mem_cons_of_mem _ RI);have hg:=hx g (List.mem_cons_self ..) x h1;rw[ho] at hg;refine⟨?_,by omega⟩;simp only[List.map_cons,iX]
     have:(cs.drop o).take (e-o)=(cs.drop o).take (P.cellsOf g.type)++(cs.drop (o+P.cellsOf g.type)).take (e-(o+P.cellsOf g.type)):=by
      rw[←List.drop_drop,show e-o=P.cellsOf g.type+(e-(o+P.cellsOf g.type)) by omega,List.take_add]
     rw[this];exact hg.append ih
  ·cases hc
theorem sF {H:Type} {w:World} {Z:Nat→Prop} {s:Nat} {f:Nat→Option (DataW H×List MemPlace)} {cs:List Value}:∀{m k:Nat} {xs:List (DataW H×List MemPlace)},(List.range' k m).mapM f=some xs→(k+m)*s≤cs.length→
  (∀i x,f i=some x→CR w Z (ra x.1) ((cs.drop (i*s)).take s))→CR w Z (iX (xs.map (·.1))) ((cs.drop (k*s)).take (m*s))
 |0,k,xs,hm,_,_=>by simp at hm;subst hm;simp[iX];exact CR.nil
 |m+1,k,xs,hm,hl,hx=>by
  rw[List.range'_succ,List.mapM_cons] at hm
  cases h1:f k with
  |none=>rw[h1] at hm;simp at hm
  |some x=>
   rw[h1] at hm
   cases h2:(List.range' (k+1) m).mapM f with
   |none=>rw[h2] at hm;simp at hm
   |some ys=>
    rw[h2] at hm;simp at hm;subst hm;have ih:=sF h2 (by rw[show k+1+m=k+(m+1) by omega];exact hl) hx;simp only[List.map_cons,iX];rw[show(m+1)*s=s+m*s by rw[Nat.add_mul];omega,List.take_add,List.drop_drop,show k*s+s=(k+1)*s by rw[Nat.add_mul];omega];exact(hx k x h1).append ih
theorem cells_one {c:D} (h:c.cells?=some [c]):c.cells=[c]:=by
 cases c<;>first|rfl|cases h|(simp only[D.cells?,Option.some.injEq] at h;simpa only[D.cells] using h)
theorem tb (b off n:Nat):(⟨b,off,none⟩:Addr).add n=⟨b,off+n,none⟩:=by
 cases n<;>simp[Addr.add]
theorem mb {H:Type} {enc:TypeId×Value→H} {P:Program} {w:World} {spare:Nat→Bool} {held:Bool}:∀(fuel:Nat) (t:TypeId) (cs:List Value) (d:DataW H) (ps:List MemPlace) (n:Nat),DataW.trod enc P w 0 spare held fuel t cs=some (d,ps)→va P n t=true→
  CR w (fun b=>b<w.heap.size) (ra d) cs∧cs.length=(match P.underlying t with|some (.struct _)|some (.array _ _)=>P.cellsOf t|_=>1)∧(lj d=(match P.underlying t with|some (.struct _)|some (.array _ _)=>true|_=>false))
 |0,t,cs,d,ps,n,h,_=>by simp[DataW.trod] at h
 |fuel+1,t,cs,d,ps,0,h,ht=>by simp[va] at ht
 |fuel+1,t,cs,d,ps,n+1,h,ht=>by
  simp only[va] at ht;unfold DataW.trod at h
  cases hu:P.underlying t with
  |none=>rw[hu] at ht;simp at ht
  |some u=>
   rw[hu] at h ht
   cases u with
   |bool=>
    rcases cs with _|⟨v,_|⟨v2,cs⟩⟩<;>try(simp at h;done)
    cases v<;>simp at h
    obtain⟨rfl,rfl⟩:=h;exact⟨CR.single (.bool _) rfl rfl,rfl,rfl⟩
   |int k=>
    rcases cs with _|⟨v,_|⟨v2,cs⟩⟩<;>try(simp at h;done)
    cases v<;>simp at h
    obtain⟨⟨rfl,_⟩,rfl,rfl⟩:=h;exact⟨CR.single (.int _ _) rfl rfl,rfl,rfl⟩
   |string=>
    rcases cs with _|⟨v,_|⟨v2,cs⟩⟩<;>try(simp at h;done)
    cases v<;>simp at h
    rename_i b;obtain⟨_,rfl,rfl⟩:=h;refine⟨CR.single ?_ rfl rfl,rfl,rfl⟩;have:=IR.str (w:=w) (Z:=fun b=>b<w.heap.size) b.data.toList
    simpa using this
   |slice e=>
    simp only[Bool.and_eq_true,decide_eq_true_eq] at ht
    rcases cs with _|⟨v,_|⟨v2,cs⟩⟩<;>try(simp at h;done)
    cases v<;>try(simp at h;done)
    rename_i a len cap
    cases a with
    |none=>
     cases len<;>cases cap<;>simp at h
     obtain⟨rfl,rfl⟩:=h;exact⟨CR.single .nul rfl rfl,rfl,rfl⟩
    |some a=>
     simp only at h
     split at h
     ·rename_i hc;simp only[Option.bind_eq_some_iff,Option.map_eq_some_iff] at h;obtain⟨elems,he,rest,hr,hd⟩:=h;cases hd;refine⟨?_,rfl,rfl⟩;have hlen:elems.length=len:=by simpa using mapM_some_length he
      have hget:=mapM_some_get he
      have each:∀(i:Nat),i<len→∃x cs,elems[i]?=some x∧w.cells? 0 (a.add (i*P.cellsOf e)) (P.cellsOf e)=some cs∧CR w (fun b=>b<w.heap.size) (ra x.1) cs∧cs.length=P.cellsOf e∧(lj x.1=(match P.underlying e with|some (.struct _)|some (.array _ _)=>true|_=>false))∧cs.length=(match P.underlying e with|some (.struct _)|some (.array _ _)=>P.cellsOf e|_=>1):=by
       intro i hi;have h1:=hget i i (by simp[hi]);have h2:elems[i]?=some (elems[i]'(by omega)):=List.getElem?_eq_getElem _;rw[h2] at h1;obtain⟨cs,ij,hx⟩:=Option.bind_eq_some_iff.1 h1;obtain⟨q1,q2,q3⟩:=mb fuel e cs _ _ n hx ht.1;exact⟨_,cs,h2,ij,q1,(World.cells?_some ij).2.1,q3,q2⟩
      refine CR.single ?_ rfl rfl
      cases len with
      |zero=>
       have:elems=[]:=by cases elems with|nil=>rfl|cons _ _=>simp at hlen
       subst this;exact .emp _ _
      |succ m=>
       have ON:a.spot=none∧a.block<w.heap.size:=by
        obtain⟨x,cs,_,h2,_,_⟩:=each 0 (by omega);refine⟨?_,?_⟩
        ·have:=(World.cells?_some h2).2.2 0 ht.2;have hl:=(World.cells?_some h2).2.1
         obtain⟨c0,Kc⟩:∃c0,cs[0]?=some c0:=⟨cs[0]'(by omega),List.getElem?_eq_getElem _⟩
         rw[Kc] at this
         simpa[Addr.add] using World.cell?_spot this
        ·simpa[Addr.add] using World.cells?_block h2 ht.2
       obtain⟨b,off,spot⟩:=a;simp only at ON;obtain⟨rfl,hb⟩:=ON
       have hcell:∀(i j:Nat),i<m+1→j<P.cellsOf e→∃x cs v,elems[i]?=some x∧cs[j]?=some v∧w.cell? ⟨b,off+(i*P.cellsOf e+j),none⟩=some v∧CR w (fun b=>b<w.heap.size) (ra x.1) cs:=by
        intro i j hi hj;obtain⟨x,cs,h1,h2,h3,h4,_⟩:=each i hi;have:=(World.cells?_some h2).2.2 j hj
        obtain⟨v,hv⟩:∃v,cs[j]?=some v:=⟨cs[j]'(by omega),List.getElem?_eq_getElem _⟩
        rw[hv] at this;refine⟨x,cs,v,h1,hv,?_,h3⟩;rw[←this,tb,tb,Nat.add_assoc]
       have ua:(sK (elems.map (·.1)))=elems.map fun x=>ku x.1:=by rw[sJ,List.map_map];rfl
       have hE:∀(i:Nat) q,(sK (elems.map (·.1)))[i]?=some q→∃x cs,i<m+1∧elems[i]?=some x∧q.cells?=some q.cells∧q.cells=ra x.1∧CR w (fun b=>b<w.heap.size) (ra x.1) cs∧cs.length=P.cellsOf e:=by
        intro i q hq;rw[ua,List.getElem?_map] at hq;obtain⟨x,hx,rfl⟩:=Option.map_eq_some_iff.1 hq
        have hi:i<m+1:=by
         rcases Nat.lt_or_ge i (m+1) with h'|h'
         ·exact h'
         ·rw[List.getElem?_eq_none (by omega)] at hx;cases hx
        obtain⟨x',cs,h1,h2,h3,h4,h5,h6⟩:=each i hi;rw[hx] at h1;cases h1;refine⟨x,cs,hi,hx,?_,?_,h3,h4⟩
        ·unfold ku
         split
         ·rfl
         ·rename_i Hq
          have su:(ra x.1).length=1:=by
           rw[h3.len,h6];rw[h5] at Hq
           revert Hq
           split<;>simp
          match hd:ra x.1,su with
          |[c],_=>have:=h3.onec c (by rw[hd];simp);simp only[List.headD_cons];rw[cells_one this];exact this
        ·unfold ku
         split
         ·rfl
         ·rename_i Hq
          have su:(ra x.1).length=1:=by
           rw[h3.len,h6];rw[h5] at Hq
           revert Hq
           split<;>simp
          match hd:ra x.1,su with
          |[c],_=>have:=h3.onec c (by rw[hd];simp);simp only[List.headD_cons];exact cells_one this
       have hL:(sK (elems.map (·.1))).length=m+1:=by rw[ua];simp[hlen]
       have hf:=fun(i j:Nat) (hi:i<m+1) (hj:j<P.cellsOf e)=>hcell i j hi hj;have:=IR.sl (w:=w) (Z:=fun b=>b<w.heap.size) (sK (elems.map (·.1))) b off cap (P.cellsOf e) (fun i j=>(w.cell? ⟨b,off+(i*P.cellsOf e+j),none⟩).getD undef) hb (by rw[hL];exact hc.2.1)
        (fun i q hq=>by
         obtain⟨x,cs,h1,h2,h3,h4,h5,h6⟩:=hE i q hq
         exact⟨h3,by rw[h4,h5.len,h6]⟩)
        (fun i q j c hq hj=>by
         obtain⟨x,cs,h1,h2,h3,h4,h5,h6⟩:=hE i q hq
         have jT:j<P.cellsOf e:=by
          rcases Nat.lt_or_ge j (P.cellsOf e) with h'|h'
          ·exact h'
          ·rw[h4,List.getElem?_eq_none (by rw[h5.len,h6];exact h')] at hj;cases hj
         obtain⟨x',cs',v,g1,g2,g3,g4⟩:=hf i j h1 jT;rw[g3]
         exact⟨rfl,g4.one v (List.mem_of_getElem? g2)⟩)
        (fun i q j c hq hj=>by
         obtain⟨x,cs,h1,h2,h3,h4,h5,h6⟩:=hE i q hq
         have jT:j<P.cellsOf e:=by
          rcases Nat.lt_or_ge j (P.cellsOf e) with h'|h'
          ·exact h'
          ·rw[h4,List.getElem?_eq_none (by rw[h5.len,h6];exact h')] at hj;cases hj
         obtain⟨x',cs',v,g1,g2,g3,g4⟩:=hf i j h1 jT;rw[g3];rw[h2] at g1;cases g1
         exact g4.rel j c v (by rw[←h4];exact hj) g2)
       rw[hL] at this;exact this
     ·cases h
   |struct fs=>
    simp only[Bool.and_eq_true,beq_iff_eq,List.all_eq_true] at ht;simp only at h
    split at h
    ·rename_i hl;obtain⟨xs,hx,hd⟩:=Option.map_eq_some_iff.1 h;cases hd;refine⟨?_,hl,rfl⟩;obtain⟨h1,_⟩:=rH (w:=w) (Z:=fun b=>b<w.heap.size) (cs:=cs) ht.1 (by omega) hx fun g hg x RG=>(mb fuel g.type _ _ _ n RG (ht.2 g hg)).1;rw[List.drop_zero,Nat.sub_zero,←hl,List.take_length] at h1;exact h1
    ·cases h
   |array m e=>
    simp only[Bool.and_eq_true,beq_iff_eq] at ht;simp only at h
    split at h
    ·rename_i hl;obtain⟨xs,hx,hd⟩:=Option.map_eq_some_iff.1 h;cases hd;refine⟨?_,hl,rfl⟩;rw[List.range_eq_range'] at hx;have h1:=sF (w:=w) (Z:=fun b=>b<w.heap.size) (s:=P.cellsOf e) (cs:=cs) hx (by rw[Nat.zero_add,←ht.2,hl];exact Nat.le_refl _) fun i x KO=>(mb fuel e _ _ _ n KO ht.1).1;rw[Nat.zero_mul,List.drop_zero,←ht.2,←hl,List.take_length] at h1;exact h1
    ·cases h
   |_=>simp at ht
theorem uN {H:Type} {enc:TypeId×Value→H} {P:Program} {w:World} {spare:Nat→Bool} {held:Bool} {r:Reach} {base:Nat} {t:TypeId} {v:Value} {d:DataW H} {ps:List MemPlace} {n:Nat} (h:DataW.Trod enc P w 0 spare held t v d ps) (ht:va P n t=true) (hv:Value.okWide P w r base t v):
  IR w (fun b=>b<w.heap.size) (ku d) v:=by
 obtain⟨fuel,hf⟩:=h;obtain⟨h1,h2,h3⟩:=mb fuel t _ d ps n hf ht
 have hu:∃u,P.underlying t=some u:=by
  cases n with
  |zero=>simp[va] at ht
  |succ n=>
   simp only[va] at ht
   cases hu:P.underlying t with
   |none=>rw[hu] at ht;simp at ht
   |some u=>exact⟨u,rfl⟩
 obtain⟨u,hu⟩:=hu;unfold Value.okWide at hv;rw[hu] at hv h2 h3
 have Kf:(∃cs:Array Value,v=.agg cs)→lj d=true→IR w (fun b=>b<w.heap.size) (ku d) v:=by
  rintro⟨cs,rfl⟩ hd;unfold ku;rw[if_pos hd];have:=IR.agg (w:=w) (Z:=fun b=>b<w.heap.size) (ra d) cs.toList (by simpa[Value.cells] using h1.len) (by simpa[Value.cells] using h1.one) (by simpa[Value.cells] using h1.rel)
  simpa using this
 have hU:lj d=false→v.cells.toList.length=1→(∀cs,v≠.agg cs)→IR w (fun b=>b<w.heap.size) (ku d) v:=by
  intro hd hl Hq;unfold ku;rw[if_neg (by rw[hd];simp)]
  have hc:v.cells.toList=[v]:=by cases v<;>first|rfl|exact absurd rfl (Hq _)
  rw[hc] at h1
  match hq:ra d,h1.len with
  |[c],_=>exact h1.rel 0 c v (by rw[hq];rfl) rfl
 have hcell:Cell.okWide P w r base t v→∀cs,v≠.agg cs:=by
  rintro hc cs rfl;unfold Cell.okWide at hc;rw[hu] at hc;cases u<;>simp[Cell.ok,hu] at hc
 cases u with
 |struct fs=>obtain⟨cs,h,_⟩:=hv;exact Kf ⟨cs,h⟩ h3
 |array m e=>obtain⟨cs,h,_⟩:=hv;exact Kf ⟨cs,h⟩ h3
 |_=>exact hU h3 h2 (hcell hv)
end Go.V
namespace Go.V
open Go.RowKit
theorem nN {H:Type} {enc:TypeId×Value→H} {P:Program} {w:World} {spare:Nat→Bool} {held:Bool} {t:TypeId} {v:Value} {d:DataW H} {ps:List MemPlace} (h:DataW.Trod enc P w 0 spare held t v d ps) (ht:P.underlying t=some .string):
  ∃l:List UInt8,ku d=.str l∧d=.lit (.string l):=by
 obtain⟨fuel,h⟩:=h
 cases fuel with
 |zero=>simp[DataW.trod] at h
 |succ fuel=>
  unfold DataW.trod at h;rw[ht] at h;generalize v.cells.toList=cs at h
  rcases cs with _|⟨v,_|⟨v2,cs⟩⟩<;>try(simp at h;done)
  cases v<;>simp at h
  obtain⟨_,rfl,_⟩:=h;exact⟨_,rfl,rfl⟩
theorem wy {pv:Pv} {P:Program} (h:pv.Ok P∧pv.fU∧fv P pv (dg pv)) {f:Nat} {ds:List D} {ah:St} (hs:Ev pv f ds ⟨[],0,0⟩ (.bool true) ah) {w:World} {us:List Value} (hl:ds.length=us.length)
  (hr:∀(i:Nat) c v,ds[i]?=some c→us[i]?=some v→IR w (fun b=>b<w.heap.size) c v):Calls P f us.toArray w fun e w'=>e=.returned (.bool true)∧Below w.heap.size w w':=by
 obtain⟨N,hN⟩:=Ev.out hs;refine(sound h (hN N (Nat.le_refl _)) (w:=w) (Z:=fun b=>b<w.heap.size) (fun _ h=>h) hl hr).mono fun e w'=>?_;rintro⟨v,β',Z',rfl,he,hv⟩;rw[de hv];exact⟨rfl,⟨he.os,he.tape,he.output,he.size,fun k hk=>he.block k hk fun f=>f⟩⟩
end Go.V
namespace Go.V
open Go.RowKit
def Rd {H:Type} (enc:TypeId×Value→H) (P:Program) (w:World) (spare:Nat→Bool) (held:Bool) (t:TypeId) (d:DataW H):Prop:=
 ∃fuel cs ps,DataW.trod enc P w 0 spare held fuel t cs=some (d,ps)
section
variable{H:Type} {enc:TypeId×Value→H} {P:Program} {w:World} {spare:Nat→Bool} {held:Bool} {t e:TypeId} {d:DataW H}
theorem Rd.of {v:Value} {ps:List MemPlace} (h:DataW.Trod enc P w 0 spare held t v d ps):Rd enc P w spare held t d:=by
 obtain⟨fuel,h⟩:=h;exact⟨fuel,_,_,h⟩
theorem Rd.int {k:IntKind} (h:Rd enc P w spare held t d) (ht:P.underlying t=some (.int k)):∃n:Int,d=.lit (.int k n)∧(Lit.int k n).wf=true:=by
 obtain⟨fuel,cs,ps,h⟩:=h
 cases fuel with
 |zero=>simp[DataW.trod] at h
 |succ fuel=>
  unfold DataW.trod at h;rw[ht] at h
  rcases cs with _|⟨v,_|⟨v2,cs⟩⟩<;>try(simp at h;done)
  cases v<;>simp at h
  obtain⟨⟨rfl,hw⟩,rfl,_⟩:=h;exact⟨_,rfl,hw⟩
theorem Rd.bool (h:Rd enc P w spare held t d) (ht:P.underlying t=some .bool):∃b:Bool,d=.lit (.bool b):=by
 obtain⟨fuel,cs,ps,h⟩:=h
 cases fuel with
 |zero=>simp[DataW.trod] at h
 |succ fuel=>
  unfold DataW.trod at h;rw[ht] at h
  rcases cs with _|⟨v,_|⟨v2,cs⟩⟩<;>try(simp at h;done)
  cases v<;>simp at h
  obtain⟨rfl,_⟩:=h;exact⟨_,rfl⟩
theorem Rd.string (h:Rd enc P w spare held t d) (ht:P.underlying t=some .string):∃l:List UInt8,d=.lit (.string l):=by
 obtain⟨fuel,cs,ps,h⟩:=h
 cases fuel with
 |zero=>simp[DataW.trod] at h
 |succ fuel=>
  unfold DataW.trod at h;rw[ht] at h
  rcases cs with _|⟨v,_|⟨v2,cs⟩⟩<;>try(simp at h;done)
  cases v<;>simp at h
  obtain⟨_,rfl,_⟩:=h;exact⟨_,rfl⟩
theorem Rd.slice (h:Rd enc P w spare held t d) (ht:P.underlying t=some (.slice e)):d=.nil∨∃elems rest,d=.slice elems rest∧∀x∈elems,Rd enc P w spare held e x:=by
 obtain⟨fuel,cs,ps,h⟩:=h
 cases fuel with
 |zero=>simp[DataW.trod] at h
 |succ fuel=>
  unfold DataW.trod at h;rw[ht] at h
  rcases cs with _|⟨v,_|⟨v2,cs⟩⟩<;>try(simp at h;done)
  cases v<;>try(simp at h;done)
  rename_i a len cap
  cases a with
  |none=>
   cases len<;>cases cap<;>simp at h
   obtain⟨rfl,rfl⟩:=h;exact .inl rfl
  |some a=>
   simp only at h
   split at h
   ·simp only[Option.bind_eq_some_iff,Option.map_eq_some_iff] at h;obtain⟨elems,hm,rest,hr,hd⟩:=h;cases hd;refine .inr ⟨_,_,rfl,fun x hx=>?_⟩;obtain⟨y,hy,rfl⟩:=List.mem_map.1 hx;have hlen:elems.length=len:=by simpa using mapM_some_length hm
    have hget:=mapM_some_get hm;obtain⟨i,hi⟩:=List.getElem?_of_mem hy;have hil:i<len:=by have:=cq hi;omega
    have h1:=hget i i (by simp[hil]);rw[hi] at h1;obtain⟨cs,_,hx⟩:=Option.bind_eq_some_iff.1 h1;exact⟨fuel,cs,y.2,hx⟩
   ·cases h
theorem k_ {α β:Type} {f:α→Option β}:∀{l:List α} {m:List β},l.mapM f=some m→cg (fun a b=>f a=some b) l m
 |[],m,h=>by simp at h;subst h;exact .nil
 |a::l,m,h=>by
  rw[List.mapM_cons] at h
  cases h1:f a with
  |none=>rw[h1] at h;simp at h
  |some b=>
   rw[h1] at h
   cases h2:l.mapM f with
   |none=>rw[h2] at h;simp at h
   |some ys=>rw[h2] at h;simp at h;subst h;exact .cons h1 (k_ h2)
theorem cg.Jm {α β γ:Type} {R:α→γ→Prop} {f:β→γ}:∀{l:List α} {m:List β},cg (fun a b=>R a (f b)) l m→cg R l (m.map f)
 |_,_,.nil=>.nil
 |_,_,.cons a t=>.cons a t.Jm
theorem Rd.struct {fs:Array Field} (h:Rd enc P w spare held t d) (ht:P.underlying t=some (.struct fs)):∃parts,d=.agg parts∧cg (fun(f:Field) x=>Rd enc P w spare held f.type x) fs.toList parts:=by
 obtain⟨fuel,cs,ps,h⟩:=h
 cases fuel with
 |zero=>simp[DataW.trod] at h
 |succ fuel=>
  unfold DataW.trod at h;rw[ht] at h;simp only at h
  split at h
  ·obtain⟨xs,hx,hd⟩:=Option.map_eq_some_iff.1 h;cases hd;refine⟨_,rfl,?_⟩;exact((k_ hx).mono fun f x RJ=>(⟨fuel,_,_,RJ⟩:Rd enc P w spare held f.type x.1)).Jm
  ·cases h
theorem Rd.array {n:Nat} (h:Rd enc P w spare held t d) (ht:P.underlying t=some (.array n e)):∃parts,d=.agg parts∧parts.length=n∧∀x∈parts,Rd enc P w spare held e x:=by
 obtain⟨fuel,cs,ps,h⟩:=h
 cases fuel with
 |zero=>simp[DataW.trod] at h
 |succ fuel=>
  unfold DataW.trod at h;rw[ht] at h;simp only at h
  split at h
  ·obtain⟨xs,hx,hd⟩:=Option.map_eq_some_iff.1 h;cases hd;have h1:=k_ hx;refine⟨_,rfl,by have:=h1.len;simp at this;simp[←this],fun x Lt=>?_⟩;obtain⟨y,hy,rfl⟩:=List.mem_map.1 Lt
   have key:∀{l:List Nat} {m:List (DataW H×List MemPlace)},cg (fun i x=>DataW.trod enc P w 0 spare held fuel e ((cs.drop (i*P.cellsOf e)).take (P.cellsOf e))=some x) l m→∀y∈m,Rd enc P w spare held e y.1:=by
    intro l m h
    induction h with
    |nil=>intro y hy;cases hy
    |cons a t ih=>
     intro y hy
     rcases List.mem_cons.1 hy with rfl|hy
     ·exact⟨fuel,_,_,a⟩
     ·exact ih y hy
   exact key h1 y hy
  ·cases h
end
end Go.V
namespace Go.Proofs.Ytbdnabmmlbiomaa
end Go.Proofs.Ytbdnabmmlbiomaa
namespace Go.Proofs.Ytbdnabmmlbiomaa
open Go.V Go Go.RowKit
variable{H:Type} {enc:TypeId×Value→H} {w:World} {spare:Nat→Bool} {held:Bool} {d:DataW H}
end Go.Proofs.Ytbdnabmmlbiomaa
namespace Go.V
variable{N:Nat} {S st:St} {H:List bT}
theorem Has.cw {s0:St} (h:Has N S s0 H):Has N (aq .rw s0) (aq .rw s0) H:=
 ⟨Ex.refl _ _,Nat.le_trans h.hN h.ex.len,by show s0.ro≤N;rw[h.ex.ro];exact h.eS,fun i e hi=>⟨e.loc (st:=s0) (ah:=aq .rw s0) (fun k _=>rfl) (h.ok i e hi).1,(h.ok i e hi).2⟩,h.dis⟩
theorem ak {kn:Bool} {s0 st:St} {d d':D} (hd:bt st s0.bs.length kn 16 d=some d'):cy .rw kn s0 st d=some (d',⟨st.bs.take s0.bs.length,s0.flr,s0.ro⟩):=by
 simp only[cy,hd]
theorem Has.pO {s0 S2 st2:St} {H2:List bT} (h:Has N S s0 H) (hS:S2.bs=s0.bs) (h2:Has N S2 st2 H2) (hk:∀(i:Nat) e,H2[i]?=some e→∃e',H[i]?=some e'∧∀k,e.K k→e'.K k):Has N S ⟨st2.bs.take s0.bs.length,s0.flr,s0.ro⟩ H2:=by
 have hL:s0.bs.length≤st2.bs.length:=by have:=h2.ex.len;rw[hS] at this;exact this
 have Tq:=h.ex.len;have Tu:=h.hN;refine⟨⟨fun k h_=>?_,?_,h.ex.flr,h.ex.ro⟩,h.hN,h.eS,fun i e hi=>?_,h2.dis⟩
 ·show(st2.bs.take s0.bs.length)[k]?=_;rw[List.getElem?_take,if_pos (by omega),h2.ex.low k h_,hS];exact h.ex.low k h_
 ·show _≤(st2.bs.take s0.bs.length).length;rw[List.length_take];omega
 ·obtain⟨e',mo,hkk⟩:=hk i e hi;have h3:=(h.ok i e' mo).2;refine⟨e.loc (fun k h_=>?_) (h2.ok i e hi).1,fun k h_=>⟨(h3 k (hkk k h_)).1,?_⟩⟩
  ·show(st2.bs.take s0.bs.length)[k]?=_;rw[List.getElem?_take,if_pos (h3 k (hkk k h_)).2]
  ·show k<(st2.bs.take s0.bs.length).length;rw[List.length_take];have:=(h3 k (hkk k h_)).2;omega
theorem Has.ay {s0 S2 st2:St} {k:Nat} {b b':f_} (h:Has N S s0 (.box k b::H)) (hS:S2.bs=s0.bs) (h2:Has N S2 st2 (.box k b'::H)):Has N S ⟨st2.bs.take s0.bs.length,s0.flr,s0.ro⟩ (.box k b'::H):=by
 refine h.pO hS h2 fun i e hi=>?_
 cases i with
 |zero=>simp only[List.getElem?_cons_zero,Option.some.injEq] at hi;subst hi;exact⟨_,rfl,fun k hk=>hk⟩
 |succ i=>exact⟨e,hi,fun k hk=>hk⟩
theorem Has.Dj {P:Pv} {j:Nat} {x y x':D} {s:Nat} {es ys:List (List D)} {ah:St} (hH:Has N S st H) (hj:H[j]?=some (.aN x s es)) (hy:Rows st s y ys) {t1 t2 e:TypeId} {td:TypeDesc} {inf:TypeInfo} {z:List D}
  (h1:P.ch t1=some (.slice e)) (h2:P.ch t2=some td) (h3:eR td=false) (h4:P.info e=some inf) (h5:cK P e=some z)
  (q1:bj P .append [t1,t2] [x,y] st=some (x',ah)):∀k,x'.ref=k+1→x.ref=k+1∨S.bs.length≤k:=by
 have hl:=hH.ex.len;have iq:=hy.row
 have yv:∀e∈ys,e.length=s:=fun e he=>by
  obtain⟨i,hi⟩:=List.getElem?_of_mem he;exact hy.qH i e hi
 have hown:=hH.own hj;simp only[bj,fI,h1,h2,h3,Bool.false_eq_true,if_false,h4,h5,iq,Option.bind_some] at q1
 split at q1
 ·cases q1
 ·cases hown with
  |nul=>
   simp only at q1
   split at q1
   ·cases q1;exact fun k hk=>.inl hk
   ·split at q1
    ·cases q1;exact fun k hk=>.inr (by simp only[D.ref] at hk;omega)
    ·cases q1
  |win k az off es c hm hl hc he=>
   simp only[St.mem_of hm] at q1
   split at q1
   ·cases q1
   ·split at q1
    ·cases q1;exact fun k hk=>.inl hk
    ·split at q1
     ·cases q1;exact fun n hn=>.inl (by simp only[D.ref] at hn⊢;exact hn)
     ·cases q1
theorem ab.nx {P:Pv} {ops:Array Oper} {rest:List Oper} {fr:Fr} {Q:Fr→St→Prop} {ty:TypeId} {pp:String} {a:Array Edge} {g:Option (Nat×Bool)} {dst:Nat} {j:Nat} {x y:D} {s:Nat} {es ys:List (List D)} {t1 t2 e:TypeId} {td:TypeDesc} {inf:TypeInfo} {z:List D} {xo yo:Operand} {aF:D→Fr} (hH:Has N S st H) (hg:aA ops fr ⟨some dst,.call ⟨.builtin .append,#[xo,yo],#[t1,t2]⟩,ty,pp,a,g⟩=some true)
  (hx:fr.ev xo=x) (hy:fr.ev yo=y) (hj:H[j]?=some (.aN x s es)) (iy:Rows st s y ys)
  (h1:P.ch t1=some (.slice e)) (h2:P.ch t2=some td) (h3:eR td=false) (h4:P.info e=some inf) (h5:cK P e=some z) (h6:inf.size=s) (h7:z.length=s) (h8:0<inf.bytes∧inf.bytes≤1024)
  (hp:∀x',fr.put dst x'=aF x') (hb:es.length+ys.length≤1073741824) (hw:S.flr≤N∨refs ys.flatten=0) (h0:∀k,x.ref=k+1→S.bs.length≤k)
  (h:∀x' ah,(∀k,x'.ref=k+1→S.bs.length≤k)→Has N S ah (H.set j (.aN x' s (es++ys)))→ab P ops rest (aF x') ah Q):
  ab P ops (⟨some dst,.call ⟨.builtin .append,#[xo,yo],#[t1,t2]⟩,ty,pp,a,g⟩::rest) fr st Q:=by
 obtain⟨x',ah,q1,q2,q3⟩:=hH.append hj iy h1 h2 h3 h4 h5 h6 h7 h8 hb hw;have R8:=hH.Dj hj iy h1 h2 h3 h4 h5 q1;refine ab.go hg rfl (d:=x') (st1:=ah) ?_ (hp _) (h x' ah (fun k hk=>?_) q2)
 ·simp only[c_,List.map_cons,List.map_nil,hx,hy];exact q1
 ·rcases R8 k hk with h|h
  ·exact h0 k h
  ·exact h
def l5:D→D
 | .nul=>.sl []
 |d=>d
def lF (d:D):Bool:=match d with| .nul=>true|d=>bY d
theorem vU {st:St} {N n:Nat} {d:D} (h:lF d=true):dB st N (n+1) d=some (l5 d):=by
 cases d<;>simp[lF,bY] at h<;>rfl
theorem oG {st:St} {N n:Nat}:∀{l:List D},(∀d∈l,lF d=true)→gJ (dB st N (n+1)) l=some (l.map l5)
 |[],_=>rfl
 |d::l,h=>by simp only[gJ,vU (h d (List.mem_cons_self ..)),oG (fun d hd=>h d (List.mem_cons_of_mem _ hd)),List.map_cons]
theorem Has.vD {L j:Nat} {x:D} {s:Nat} {es:List (List D)} (hH:Has N S st H) (hj:H[j]?=some (.aN x s es)) (hx:∀k,x.ref=k+1→L≤k) (hp:∀e∈es,∀d∈e,lF d=true) {n:Nat} (hn:3≤n):bt st L false n x=some (.sl ((es.map (·.map l5)).map (jD s))):=by
 obtain⟨n,rfl⟩:∃m,n=m+3:=⟨n-3,by omega⟩
 have hown:=hH.own hj
 cases hown with
 |nul=>rfl
 |win k az off es c hm hl hc he=>
  have hk:=hx k (by simp only[D.ref]);show(if k<L then some (D.win k az off es.length s) else dB st L (n+2) (.win k az off es.length s))=_;rw[if_neg (show¬k<L by omega),dB];simp only[if_neg (show¬k<L by omega),St.mem_of hm,Option.bind_some]
  rw[if_pos hl,hc,oG (fun d hd=>by
   obtain⟨e,mo,vx⟩:=List.mem_flatten.1 hd
   exact hp e mo d vx)]
  have h1:(es.map (·.map l5)).flatten=es.flatten.map l5:=by rw[List.map_flatten]
  have h2:(es.map (·.map l5)).length=es.length:=List.length_map _
  have h3:∀e∈es.map (·.map l5),e.length=s:=by
   intro e mo;obtain⟨e0,h0,rfl⟩:=List.mem_map.1 mo;rw[List.length_map];exact he e0 h0
  simp only[Option.map_some];rw[←h1,←h2,eU h3]
theorem ab.K7 {P:Pv} {ops:Array Oper} {rest:List Oper} {fr aF:Fr} {Q:Fr→St→Prop} {ty:TypeId} {pp:String} {a:Array Edge} {g:Option (Nat×Bool)} {dst:Nat} {t:TypeId} {xo io:Operand} {b:List UInt8} {kk:IntKind} {i:Nat} {c:UInt8} (hg:aA ops fr ⟨some dst,.index t xo io,ty,pp,a,g⟩=some true) (hx:fr.ev xo=.str b) (hi:fr.ev io=.int kk (i:Nat)) (ht:P.ch t=some .string) (hc:b[i]?=some c) (hp:fr.put dst (.int .u8 (c.toNat:Nat))=aF)
  (h:ab P ops rest aF st Q):ab P ops (⟨some dst,.index t xo io,ty,pp,a,g⟩::rest) fr st Q:=by
 refine ab.go hg rfl (d:=.int .u8 (c.toNat:Nat)) (st1:=st) ?_ hp h;simp only[c_,hx,hi,pP,ht];rw[if_pos (by omega),Int.toNat_natCast,hc];rfl
end Go.V
namespace Go.Proofs.Ytbdnabmmlbiomaa
open Go.V Go
def bV (c:Nat):Int×Nat×Nat:=
 if c<128 then(0,0,0) else if c<194 then(-1,0,0) else if c<224 then(1,128,191) else if c=224 then(2,160,191) else if c=237 then(2,128,159)
 else if c<240 then(2,128,191) else if c=240 then(3,144,191) else if c<244 then(3,128,191) else if c=244 then(3,128,143) else(-1,0,0)
theorem Cz (c:Nat) (st:St):Ev pv 47 [.int .u8 c] st (.tup [.int .i64 (bV c).1,.int .u8 (bV c).2.1,.int .u8 (bV c).2.2]) st:=by
 refine Ev.nV rfl NF rfl rfl rfl ?_;dsimp only[u3,u4,List.length,Nat.reduceSub,Nat.reduceAdd,w1,w2];(try refine qy ?_);(repeat refine qq ?_);(try generalize hK:bZ _ _ _ _=K);refine ag.eF ?_;(repeat(first|refine xT ?_|refine xL ?_|refine xN ?_|refine xo ?_|refine xp ?_));refine ab.nil ?_;(try dsimp only[Fr.aC,Fr.put,Fr.clean,Fr.ev,Fr.get,nth,V.look,u1,u2,v1,v2,v3,v4,v5,v6,v7,List.length,u3,u4,Nat.reduceSub,Nat.reduceAdd,List.map]);(try subst hK);(try refine qy ?_);refine ag.seq (ag.block ?_);(try refine qy ?_);(repeat refine qq ?_);(try generalize hK:bZ _ _ _ _=K);refine ag.eF ?_;(repeat(first|refine xT ?_|refine xL ?_|refine xN ?_|refine xo ?_|refine xp ?_));refine ab.nil ?_;(try dsimp only[Fr.aC,Fr.put,Fr.clean,Fr.ev,Fr.get,nth,V.look,u1,u2,v1,v2,v3,v4,v5,v6,v7,List.length,u3,u4,Nat.reduceSub,Nat.reduceAdd,List.map]);(try subst hK);(try refine qy ?_);(repeat refine qq ?_);refine qc (fun h1=>?_) (fun h1=>?_)<;>try simp only[cs] at h1
 ·(try refine qy ?_);(repeat refine qq ?_);(try generalize hK:bZ _ _ _ _=K);refine ag.eF ?_;(repeat(first|refine xT ?_|refine xL ?_|refine xN ?_|refine xo ?_|refine xp ?_));refine ab.nil ?_;(try dsimp only[Fr.aC,Fr.put,Fr.clean,Fr.ev,Fr.get,nth,V.look,u1,u2,v1,v2,v3,v4,v5,v6,v7,List.length,u3,u4,Nat.reduceSub,Nat.reduceAdd,List.map]);(try subst hK);(try refine qy ?_);refine ag.ret ⟨rx,_,rfl,br (by simp) (by simp[aq]) ?_⟩;rw[show bV c=(0,0,0) by unfold bV;rw[if_pos (by omega)]];rfl
 (try refine qy ?_);(repeat refine qq ?_);(try generalize hK:bZ _ _ _ _=K);refine ag.eF ?_;(repeat(first|refine xT ?_|refine xL ?_|refine xN ?_|refine xo ?_|refine xp ?_));refine ab.nil ?_;(try dsimp only[Fr.aC,Fr.put,Fr.clean,Fr.ev,Fr.get,nth,V.look,u1,u2,v1,v2,v3,v4,v5,v6,v7,List.length,u3,u4,Nat.reduceSub,Nat.reduceAdd,List.map]);(try subst hK);(try refine qy ?_);(repeat refine qq ?_);refine qc (fun h2=>?_) (fun h2=>?_)<;>try simp only[cs] at h2
 ·(try refine qy ?_);(repeat refine qq ?_);(try generalize hK:bZ _ _ _ _=K);refine ag.eF ?_;(repeat(first|refine xT ?_|refine xL ?_|refine xN ?_|refine xo ?_|refine xp ?_));refine ab.nil ?_;(try dsimp only[Fr.aC,Fr.put,Fr.clean,Fr.ev,Fr.get,nth,V.look,u1,u2,v1,v2,v3,v4,v5,v6,v7,List.length,u3,u4,Nat.reduceSub,Nat.reduceAdd,List.map]);(try subst hK);(try refine qy ?_);refine ag.ret ⟨rx,_,rfl,br (by simp) (by simp[aq]) ?_⟩;rw[show bV c=(-1,0,0) by unfold bV;rw[if_neg (by omega),if_pos (by omega)]];rfl
 (try refine qy ?_);(repeat refine qq ?_);(try generalize hK:bZ _ _ _ _=K);refine ag.eF ?_;(repeat(first|refine xT ?_|refine xL ?_|refine xN ?_|refine xo ?_|refine xp ?_));refine ab.nil ?_;(try dsimp only[Fr.aC,Fr.put,Fr.clean,Fr.ev,Fr.get,nth,V.look,u1,u2,v1,v2,v3,v4,v5,v6,v7,List.length,u3,u4,Nat.reduceSub,Nat.reduceAdd,List.map]);(try subst hK);(try refine qy ?_);(repeat refine qq ?_);refine qc (fun h3=>?_) (fun h3=>?_)<;>try simp only[cs] at h3
 ·(try refine qy ?_);(repeat refine qq ?_);(try generalize hK:bZ _ _ _ _=K);refine ag.eF ?_;(repeat(first|refine xT ?_|refine xL ?_|refine xN ?_|refine xo ?_|refine xp ?_));refine ab.nil ?_;(try dsimp only[Fr.aC,Fr.put,Fr.clean,Fr.ev,Fr.get,nth,V.look,u1,u2,v1,v2,v3,v4,v5,v6,v7,List.length,u3,u4,Nat.reduceSub,Nat.reduceAdd,List.map]);(try subst hK);(try refine qy ?_);refine ag.ret ⟨rx,_,rfl,br (by simp) (by simp[aq]) ?_⟩;rw[show bV c=(1,128,191) by unfold bV;rw[if_neg (by omega),if_neg (by omega),if_pos (by omega)]];rfl
 (try refine qy ?_);(repeat refine qq ?_);(try generalize hK:bZ _ _ _ _=K);refine ag.eF ?_;(repeat(first|refine xT ?_|refine xL ?_|refine xN ?_|refine xo ?_|refine xp ?_));refine ab.nil ?_;(try dsimp only[Fr.aC,Fr.put,Fr.clean,Fr.ev,Fr.get,nth,V.look,u1,u2,v1,v2,v3,v4,v5,v6,v7,List.length,u3,u4,Nat.reduceSub,Nat.reduceAdd,List.map]);(try subst hK);(try refine qy ?_);(repeat refine qq ?_);refine qc (fun h4=>?_) (fun h4=>?_)<;>try simp only[cs] at h4
 ·(try refine qy ?_);(repeat refine qq ?_);(try generalize hK:bZ _ _ _ _=K);refine ag.eF ?_;(repeat(first|refine xT ?_|refine xL ?_|refine xN ?_|refine xo ?_|refine xp ?_));refine ab.nil ?_;(try dsimp only[Fr.aC,Fr.put,Fr.clean,Fr.ev,Fr.get,nth,V.look,u1,u2,v1,v2,v3,v4,v5,v6,v7,List.length,u3,u4,Nat.reduceSub,Nat.reduceAdd,List.map]);(try subst hK);(try refine qy ?_);refine ag.ret ⟨rx,_,rfl,br (by simp) (by simp[aq]) ?_⟩;rw[show bV c=(2,160,191) by unfold bV;rw[if_neg (by omega),if_neg (by omega),if_neg (by omega),if_pos (by omega)]];rfl
 (try refine qy ?_);(repeat refine qq ?_);(try generalize hK:bZ _ _ _ _=K);refine ag.eF ?_;(repeat(first|refine xT ?_|refine xL ?_|refine xN ?_|refine xo ?_|refine xp ?_));refine ab.nil ?_;(try dsimp only[Fr.aC,Fr.put,Fr.clean,Fr.ev,Fr.get,nth,V.look,u1,u2,v1,v2,v3,v4,v5,v6,v7,List.length,u3,u4,Nat.reduceSub,Nat.reduceAdd,List.map]);(try subst hK);(try refine qy ?_);(repeat refine qq ?_);refine qc (fun h5=>?_) (fun h5=>?_)<;>try simp only[cs] at h5
 ·(try refine qy ?_);(repeat refine qq ?_);(try generalize hK:bZ _ _ _ _=K);refine ag.eF ?_;(repeat(first|refine xT ?_|refine xL ?_|refine xN ?_|refine xo ?_|refine xp ?_));refine ab.nil ?_;(try dsimp only[Fr.aC,Fr.put,Fr.clean,Fr.ev,Fr.get,nth,V.look,u1,u2,v1,v2,v3,v4,v5,v6,v7,List.length,u3,u4,Nat.reduceSub,Nat.reduceAdd,List.map]);(try subst hK);(try refine qy ?_);refine ag.ret ⟨rx,_,rfl,br (by simp) (by simp[aq]) ?_⟩;rw[show bV c=(2,128,159) by unfold bV;rw[if_neg (by omega),if_neg (by omega),if_neg (by omega),if_neg (by omega),if_pos (by omega)]];rfl
 (try refine qy ?_);(repeat refine qq ?_);(try generalize hK:bZ _ _ _ _=K);refine ag.eF ?_;(repeat(first|refine xT ?_|refine xL ?_|refine xN ?_|refine xo ?_|refine xp ?_));refine ab.nil ?_;(try dsimp only[Fr.aC,Fr.put,Fr.clean,Fr.ev,Fr.get,nth,V.look,u1,u2,v1,v2,v3,v4,v5,v6,v7,List.length,u3,u4,Nat.reduceSub,Nat.reduceAdd,List.map]);(try subst hK);(try refine qy ?_);(repeat refine qq ?_);refine qc (fun h6=>?_) (fun h6=>?_)<;>try simp only[cs] at h6
 ·(try refine qy ?_);(repeat refine qq ?_);(try generalize hK:bZ _ _ _ _=K);refine ag.eF ?_;(repeat(first|refine xT ?_|refine xL ?_|refine xN ?_|refine xo ?_|refine xp ?_));refine ab.nil ?_;(try dsimp only[Fr.aC,Fr.put,Fr.clean,Fr.ev,Fr.get,nth,V.look,u1,u2,v1,v2,v3,v4,v5,v6,v7,List.length,u3,u4,Nat.reduceSub,Nat.reduceAdd,List.map]);(try subst hK);(try refine qy ?_);refine ag.ret ⟨rx,_,rfl,br (by simp) (by simp[aq]) ?_⟩;rw[show bV c=(2,128,191) by unfold bV;rw[if_neg (by omega),if_neg (by omega),if_neg (by omega),if_neg (by omega),if_neg (by omega),if_pos (by omega)]];rfl
 (try refine qy ?_);(repeat refine qq ?_);(try generalize hK:bZ _ _ _ _=K);refine ag.eF ?_;(repeat(first|refine xT ?_|refine xL ?_|refine xN ?_|refine xo ?_|refine xp ?_));refine ab.nil ?_;(try dsimp only[Fr.aC,Fr.put,Fr.clean,Fr.ev,Fr.get,nth,V.look,u1,u2,v1,v2,v3,v4,v5,v6,v7,List.length,u3,u4,Nat.reduceSub,Nat.reduceAdd,List.map]);(try subst hK);(try refine qy ?_);(repeat refine qq ?_);refine qc (fun h7=>?_) (fun h7=>?_)<;>try simp only[cs] at h7
 ·(try refine qy ?_);(repeat refine qq ?_);(try generalize hK:bZ _ _ _ _=K);refine ag.eF ?_;(repeat(first|refine xT ?_|refine xL ?_|refine xN ?_|refine xo ?_|refine xp ?_));refine ab.nil ?_;(try dsimp only[Fr.aC,Fr.put,Fr.clean,Fr.ev,Fr.get,nth,V.look,u1,u2,v1,v2,v3,v4,v5,v6,v7,List.length,u3,u4,Nat.reduceSub,Nat.reduceAdd,List.map]);(try subst hK);(try refine qy ?_);refine ag.ret ⟨rx,_,rfl,br (by simp) (by simp[aq]) ?_⟩;rw[show bV c=(3,144,191) by unfold bV;rw[if_neg (by omega),if_neg (by omega),if_neg (by omega),if_neg (by omega),if_neg (by omega),if_neg (by omega),if_pos (by omega)]];rfl
 (try refine qy ?_);(repeat refine qq ?_);(try generalize hK:bZ _ _ _ _=K);refine ag.eF ?_;(repeat(first|refine xT ?_|refine xL ?_|refine xN ?_|refine xo ?_|refine xp ?_));refine ab.nil ?_;(try dsimp only[Fr.aC,Fr.put,Fr.clean,Fr.ev,Fr.get,nth,V.look,u1,u2,v1,v2,v3,v4,v5,v6,v7,List.length,u3,u4,Nat.reduceSub,Nat.reduceAdd,List.map]);(try subst hK);(try refine qy ?_);(repeat refine qq ?_);refine qc (fun h8=>?_) (fun h8=>?_)<;>try simp only[cs] at h8
 ·(try refine qy ?_);(repeat refine qq ?_);(try generalize hK:bZ _ _ _ _=K);refine ag.eF ?_;(repeat(first|refine xT ?_|refine xL ?_|refine xN ?_|refine xo ?_|refine xp ?_));refine ab.nil ?_;(try dsimp only[Fr.aC,Fr.put,Fr.clean,Fr.ev,Fr.get,nth,V.look,u1,u2,v1,v2,v3,v4,v5,v6,v7,List.length,u3,u4,Nat.reduceSub,Nat.reduceAdd,List.map]);(try subst hK);(try refine qy ?_);refine ag.ret ⟨rx,_,rfl,br (by simp) (by simp[aq]) ?_⟩;rw[show bV c=(3,128,191) by unfold bV;rw[if_neg (by omega),if_neg (by omega),if_neg (by omega),if_neg (by omega),if_neg (by omega),if_neg (by omega),if_neg (by omega),if_pos (by omega)]];rfl
 (try refine qy ?_);(repeat refine qq ?_);(try generalize hK:bZ _ _ _ _=K);refine ag.eF ?_;(repeat(first|refine xT ?_|refine xL ?_|refine xN ?_|refine xo ?_|refine xp ?_));refine ab.nil ?_;(try dsimp only[Fr.aC,Fr.put,Fr.clean,Fr.ev,Fr.get,nth,V.look,u1,u2,v1,v2,v3,v4,v5,v6,v7,List.length,u3,u4,Nat.reduceSub,Nat.reduceAdd,List.map]);(try subst hK);(try refine qy ?_);(repeat refine qq ?_);refine qc (fun h9=>?_) (fun h9=>?_)<;>try simp only[cs] at h9
 ·(try refine qy ?_);(repeat refine qq ?_);(try generalize hK:bZ _ _ _ _=K);refine ag.eF ?_;(repeat(first|refine xT ?_|refine xL ?_|refine xN ?_|refine xo ?_|refine xp ?_));refine ab.nil ?_;(try dsimp only[Fr.aC,Fr.put,Fr.clean,Fr.ev,Fr.get,nth,V.look,u1,u2,v1,v2,v3,v4,v5,v6,v7,List.length,u3,u4,Nat.reduceSub,Nat.reduceAdd,List.map]);(try subst hK);(try refine qy ?_);refine ag.ret ⟨rx,_,rfl,br (by simp) (by simp[aq]) ?_⟩;rw[show bV c=(3,128,143) by unfold bV;rw[if_neg (by omega),if_neg (by omega),if_neg (by omega),if_neg (by omega),if_neg (by omega),if_neg (by omega),if_neg (by omega),if_neg (by omega),if_pos (by omega)]];rfl
 refine ag.skip ?_;(try refine qy ?_);(repeat refine qq ?_);(try generalize hK:bZ _ _ _ _=K);refine ag.eF ?_;(repeat(first|refine xT ?_|refine xL ?_|refine xN ?_|refine xo ?_|refine xp ?_));refine ab.nil ?_;(try dsimp only[Fr.aC,Fr.put,Fr.clean,Fr.ev,Fr.get,nth,V.look,u1,u2,v1,v2,v3,v4,v5,v6,v7,List.length,u3,u4,Nat.reduceSub,Nat.reduceAdd,List.map]);(try subst hK);(try refine qy ?_);refine ag.ret ⟨rx,_,rfl,br (by simp) (by simp[aq]) ?_⟩;rw[show bV c=(-1,0,0) by unfold bV;rw[if_neg (by omega),if_neg (by omega),if_neg (by omega),if_neg (by omega),if_neg (by omega),if_neg (by omega),if_neg (by omega),if_neg (by omega),if_neg (by omega)]];rfl
def gD:(left n r lo hi:Nat)→List UInt8→Nat×Nat×Bool
 |0,n,r,_,_,_=>(r,n,false)
 |left+1,n,r,lo,hi,[]=>(0,0,true)
 |left+1,n,r,lo,hi,x::xs=>if x.toNat<lo∨hi<x.toNat then(0,0,false) else gD left n (r*64+x.toNat %64) 128 191 xs
def fT:List UInt8→Nat×Nat×Bool
 |[]=>(0,0,false)
 |c::xs=>if(bV c.toNat).1<0 then(0,0,false)
   else gD (bV c.toNat).1.toNat ((bV c.toNat).1.toNat+1) (if(bV c.toNat).1>0 then c.toNat %(64/2^(bV c.toNat).1.toNat) else c.toNat) (bV c.toNat).2.1 (bV c.toNat).2.2 xs
theorem rT (c:Nat):(bV c).1=-1∨(bV c).1=0∨(bV c).1=1∨(bV c).1=2∨(bV c).1=3:=by
 unfold bV
 repeat' split
 all_goals simp
theorem vO {w a j:Nat} (ha:a<2^w) (hj:2^j-1<2^w):(BitVec.ofInt w (a:Int) &&&BitVec.ofInt w ((2^j-1:Nat):Int)).toNat=a %2^j:=by
 rw[bv_and ha hj,Nat.and_two_pow_sub_one_eq_mod]
theorem e7 (b:List UInt8):(byteCells b).length=b.length:=by simp[byteCells]
theorem oh {b:List UInt8} {i:Nat} {y:UInt8} (h:b[i]?=some y):(byteCells b)[i]?=some [.int .u8 (y.toNat:Nat)]:=by
 simp[byteCells,h]
theorem Dn (y:UInt8):y.toNat<256:=y.toNat_lt
theorem K6 {r y:Nat} (hr:r<33554432) (hy:y<256):bJ .i32 ((BitVec.ofInt 32 (bJ .i32 ((r:Int)*2^(min (Int.toNat 6) 32)))|||BitVec.ofInt 32 (bJ .i32 (bJ .u8 ((BitVec.ofInt 8 (y:Int) &&&BitVec.ofInt 8 63).toNat:Nat)))).toNat:Nat)=((r*64+y %64:Nat):Int):=by
 have h1:(BitVec.ofInt 8 (y:Int) &&&BitVec.ofInt 8 63).toNat=y %64:=vO (w:=8) (j:=6) hy (by decide);rw[h1]
 have h2:((r:Int)*2^(min (Int.toNat 6) 32))=((r*64:Nat):Int):=by
  have:(2:Int)^(min (Int.toNat 6) 32)=64:=by decide
  rw[this];simp
 rw[h2,du (k:=.i32) (m:=r*64) (by simp only[jy];omega),du (k:=.u8) (m:=y %64) (by simp only[jy];omega),du (k:=.i32) (m:=y %64) (by simp only[jy];omega)];rw[Kt (by omega) (by omega)]
 have h3:(r*64)|||(y %64)=r*64+y %64:=by
  have:=Nat.two_pow_add_eq_or_of_lt (i:=6) (b:=y %64) (by omega) r;have e:(2:Nat)^6=64:=by decide
  rw[e] at this;rw[Nat.mul_comm r 64,this]
 rw[h3,du (k:=.i32) (m:=r*64+y %64) (by simp only[jy];omega)]
theorem Jl {c j:Nat} (hc:c<256) (hj:j≤8) {m:Int} (hm:m=((2^j-1:Nat):Int)):bJ .i32 ((BitVec.ofInt 32 (bJ .i32 (c:Nat)) &&&BitVec.ofInt 32 m).toNat:Nat)=((c %2^j:Nat):Int):=by
 have h1:2^j≤2^8:=Nat.pow_le_pow_right (by omega) hj;rw[hm,du (k:=.i32) (m:=c) (by simp only[jy];omega),vO (w:=32) (by omega) (by omega)];have:c %2^j≤c:=Nat.mod_le _ _;rw[du (k:=.i32) (by simp only[jy];omega)]
theorem mask {c j:Nat} (hc:c<256) (hj:j≤8) {m:Int} (hm:m=((2^j-1:Nat):Int)):bJ .i32 ((BitVec.ofInt IntKind.i32.bits (bJ .i32 (c:Nat)) &&&BitVec.ofInt IntKind.i32.bits m).toNat:Nat)=((c %2^j:Nat):Int):=Jl hc hj hm
theorem Px {r y:Nat} (hr:r<33554432) (hy:y<256):bJ .i32 ((BitVec.ofInt IntKind.i32.bits (bJ .i32 ((r:Int)*2^(min (Int.toNat 6) IntKind.i32.bits)))|||BitVec.ofInt IntKind.i32.bits (bJ .i32 (bJ .u8 ((BitVec.ofInt IntKind.u8.bits (y:Int) &&&BitVec.ofInt IntKind.u8.bits 63).toNat:Nat)))).toNat:Nat)=((r*64+y %64:Nat):Int):=K6 hr hy
theorem yZ {st:St} {x:D} {b:List UInt8} (hb:Bytes st x b):Ev pv 28 [x] st (.tup [.int .i32 ((fT b).1:Nat),.int .i64 ((fT b).2.1:Nat),.bool (fT b).2.2]) st:=by
 refine Ev.nV rfl NP rfl rfl rfl ?_;dsimp only[u3,u4,List.length,Nat.reduceSub,Nat.reduceAdd,w1,w2];have dW:=hb.enter .ro;(try refine qy ?_);(repeat refine qq ?_);(try generalize hK:bZ _ _ _ _=K);refine ag.eF ?_;(repeat(first|refine xT ?_|refine xL ?_|refine xN ?_|refine xo ?_|refine xp ?_));refine ab.nil ?_;(try dsimp only[Fr.aC,Fr.put,Fr.clean,Fr.ev,Fr.get,nth,V.look,u1,u2,v1,v2,v3,v4,v5,v6,v7,List.length,u3,u4,Nat.reduceSub,Nat.reduceAdd,List.map]);(try subst hK);(try refine qy ?_);(repeat refine qq ?_);(try generalize hK:bZ _ _ _ _=K);refine ag.eF ?_
 (first|refine xT ?_|refine xL ?_|refine xN ?_|refine xo ?_|refine xp ?_)
 refine ab.len rfl rfl rfl dW rfl ?_;(repeat(first|refine xT ?_|refine xL ?_|refine xN ?_|refine xo ?_|refine xp ?_));refine ab.nil ?_;(try dsimp only[Fr.aC,Fr.put,Fr.clean,Fr.ev,Fr.get,nth,V.look,u1,u2,v1,v2,v3,v4,v5,v6,v7,List.length,u3,u4,Nat.reduceSub,Nat.reduceAdd,List.map]);(try subst hK);(try refine qy ?_);(repeat refine qq ?_);refine qc (fun h1=>?_) (fun h1=>?_)<;>try simp only[cs] at h1
 ·(try refine qy ?_);(repeat refine qq ?_);(try generalize hK:bZ _ _ _ _=K);refine ag.eF ?_;(repeat(first|refine xT ?_|refine xL ?_|refine xN ?_|refine xo ?_|refine xp ?_));refine ab.nil ?_;(try dsimp only[Fr.aC,Fr.put,Fr.clean,Fr.ev,Fr.get,nth,V.look,u1,u2,v1,v2,v3,v4,v5,v6,v7,List.length,u3,u4,Nat.reduceSub,Nat.reduceAdd,List.map]);(try subst hK);(try refine qy ?_);refine ag.ret ⟨rx,_,rfl,br (by simp) (by simp[aq]) ?_⟩
  obtain rfl:b=[]:=by cases b with|nil=>rfl|cons c b=>simp[byteCells] at h1;omega
  rfl
 refine ag.skip ?_
 obtain⟨c,xs,rfl⟩:∃c xs,b=c::xs:=by cases b with|nil=>simp[byteCells] at h1|cons c b=>exact⟨c,b,rfl⟩
 obtain⟨k,lo,hi,hm⟩:∃k lo hi,bV c.toNat=(k,lo,hi):=⟨_,_,_,rfl⟩
 have Mg:=Cz c.toNat (aq .ro st);rw[hm] at Mg;have hk:=rT c.toNat;rw[hm] at hk;have hc:=Dn c;(try refine qy ?_);(repeat refine qq ?_);(try generalize hK:bZ _ _ _ _=K);refine ag.eF ?_
 (first|refine xT ?_|refine xL ?_|refine xN ?_|refine xo ?_|refine xp ?_)
 refine ab.gd rfl rfl rfl (fun _=>rfl) rfl rfl dW rfl rfl (by omega) rfl rfl (fun p=>?_);refine ab.DL rfl rfl rfl Mg ?_;(repeat(first|refine xT ?_|refine xL ?_|refine xN ?_|refine xo ?_|refine xp ?_));refine ab.nil ?_;(try dsimp only[Fr.aC,Fr.put,Fr.clean,Fr.ev,Fr.get,nth,V.look,u1,u2,v1,v2,v3,v4,v5,v6,v7,List.length,u3,u4,Nat.reduceSub,Nat.reduceAdd,List.map]);(try subst hK);(try refine qy ?_);(repeat refine qq ?_);(try generalize hK:bZ _ _ _ _=K);refine ag.eF ?_;(repeat(first|refine xT ?_|refine xL ?_|refine xN ?_|refine xo ?_|refine xp ?_));refine ab.nil ?_;(try dsimp only[Fr.aC,Fr.put,Fr.clean,Fr.ev,Fr.get,nth,V.look,u1,u2,v1,v2,v3,v4,v5,v6,v7,List.length,u3,u4,Nat.reduceSub,Nat.reduceAdd,List.map]);(try subst hK);(try refine qy ?_);(repeat refine qq ?_);refine qc (fun h2=>?_) (fun h2=>?_)<;>try simp only[cs] at h2
 ·(try refine qy ?_);(repeat refine qq ?_);(try generalize hK:bZ _ _ _ _=K);refine ag.eF ?_;(repeat(first|refine xT ?_|refine xL ?_|refine xN ?_|refine xo ?_|refine xp ?_));refine ab.nil ?_;(try dsimp only[Fr.aC,Fr.put,Fr.clean,Fr.ev,Fr.get,nth,V.look,u1,u2,v1,v2,v3,v4,v5,v6,v7,List.length,u3,u4,Nat.reduceSub,Nat.reduceAdd,List.map]);(try subst hK);(try refine qy ?_);refine ag.ret ⟨rx,_,rfl,br (by simp) (by simp[aq]) ?_⟩;simp only[fT,hm];rw[if_pos h2];rfl
 refine ag.skip ?_;(try refine qy ?_);(repeat refine qq ?_);(try generalize hK:bZ _ _ _ _=K);refine ag.eF ?_
 (first|refine xT ?_|refine xL ?_|refine xN ?_|refine xo ?_|refine xp ?_)
 refine ab.gd rfl rfl rfl (fun _=>rfl) rfl rfl dW rfl rfl (by omega) rfl rfl (fun p=>?_);(repeat(first|refine xT ?_|refine xL ?_|refine xN ?_|refine xo ?_|refine xp ?_));refine ab.nil ?_;(try dsimp only[Fr.aC,Fr.put,Fr.clean,Fr.ev,Fr.get,nth,V.look,u1,u2,v1,v2,v3,v4,v5,v6,v7,List.length,u3,u4,Nat.reduceSub,Nat.reduceAdd,List.map]);(try subst hK);(try refine qy ?_);(repeat refine qq ?_);(try generalize hK:bZ _ _ _ _=K);refine ag.eF ?_;(repeat(first|refine xT ?_|refine xL ?_|refine xN ?_|refine xo ?_|refine xp ?_));refine ab.nil ?_;(try dsimp only[Fr.aC,Fr.put,Fr.clean,Fr.ev,Fr.get,nth,V.look,u1,u2,v1,v2,v3,v4,v5,v6,v7,List.length,u3,u4,Nat.reduceSub,Nat.reduceAdd,List.map]);(try subst hK);(try refine qy ?_);generalize hK:bZ _ _ _ _=K
 have H:∀(r kn:Nat) (m:List (Nat×D)),k=(kn:Int)→r=(if k>0 then c.toNat %(64/2^k.toNat) else c.toNat)→(r+1)*64^kn≤2097152→K .next ⟨9,[x,.tup [],.int .i32 r,.int .i64 0,.bool false,.int .i64 k,.int .u8 lo,.int .u8 hi,.tup []],m⟩ (aq .ro st):=by
  intro r kn m hkn hr nh
  have hR:fT (c::xs)=gD kn (kn+1) r lo hi xs:=by
   simp only[fT,hm];rw[if_neg h2,hr,hkn];rfl
  subst hK;rw[hR];generalize hS:gD kn (kn+1) r lo hi xs=R at hR⊢;subst hkn;(try refine qy ?_);(repeat refine qq ?_);(try generalize hK:bZ _ _ _ _=K);refine ag.eF ?_;(repeat(first|refine xT ?_|refine xL ?_|refine xN ?_|refine xo ?_|refine xp ?_));refine ab.nil ?_;(try dsimp only[Fr.aC,Fr.put,Fr.clean,Fr.ev,Fr.get,nth,V.look,u1,u2,v1,v2,v3,v4,v5,v6,v7,List.length,u3,u4,Nat.reduceSub,Nat.reduceAdd,List.map]);(try subst hK);(try refine qy ?_);refine ag.block<|ag.loop (fun j fr ah=>∃(i r lo hi:Nat),fr.clean=⟨9,[x,.tup [],.int .i32 r,.int .i64 0,.bool false,.int .i64 kn,.int .u8 lo,.int .u8 hi,.int .i64 (i:Nat)],[]⟩∧ah=aq .ro st∧1≤i∧i+j=kn+1∧gD j (kn+1) r lo hi (xs.drop (i-1))=R∧(r+1)*64^j≤2097152) kn ⟨1,r,lo,hi,rfl,rfl,by omega,by omega,hS,nh⟩ ?_;clear hr nh hS r hm Mg m;rintro j fr ah ⟨i,r,lo,hi,hfr,rfl,Tm,hij,hS,nh⟩;rw[hfr];(try refine qy ?_);(repeat refine qq ?_);(try generalize hK:bZ _ _ _ _=K);refine ag.eF ?_;(repeat(first|refine xT ?_|refine xL ?_|refine xN ?_|refine xo ?_|refine xp ?_));refine ab.nil ?_;(try dsimp only[Fr.aC,Fr.put,Fr.clean,Fr.ev,Fr.get,nth,V.look,u1,u2,v1,v2,v3,v4,v5,v6,v7,List.length,u3,u4,Nat.reduceSub,Nat.reduceAdd,List.map]);(try subst hK);(try refine qy ?_);(repeat refine qq ?_);refine qc (fun h4=>?_) (fun h4=>?_)<;>try simp only[cs] at h4
  ·refine ag.skip ?_
   obtain⟨j,rfl⟩:∃j',j=j'+1:=⟨j-1,by omega⟩
   refine ag.seq (ag.block ?_);(try refine qy ?_);(repeat refine qq ?_);(try generalize hK:bZ _ _ _ _=K);refine ag.eF ?_
   (first|refine xT ?_|refine xL ?_|refine xN ?_|refine xo ?_|refine xp ?_)
   (first|refine xT ?_|refine xL ?_|refine xN ?_|refine xo ?_|refine xp ?_)
   refine ab.len rfl rfl rfl dW rfl ?_;(repeat(first|refine xT ?_|refine xL ?_|refine xN ?_|refine xo ?_|refine xp ?_));refine ab.nil ?_;(try dsimp only[Fr.aC,Fr.put,Fr.clean,Fr.ev,Fr.get,nth,V.look,u1,u2,v1,v2,v3,v4,v5,v6,v7,List.length,u3,u4,Nat.reduceSub,Nat.reduceAdd,List.map]);(try subst hK);(try refine qy ?_)
   have w6:(xs.drop (i-1))=[]∨∃y ys,xs.drop (i-1)=y::ys:=by
    cases xs.drop (i-1) with
    |nil=>exact .inl rfl
    |cons y ys=>exact .inr ⟨y,ys,rfl⟩
   have KC:(xs.drop (i-1)).length=xs.length-(i-1):=List.length_drop ..;have hbl:(byteCells (c::xs)).length=xs.length+1:=by simp[byteCells]
   (try refine qy ?_);(repeat refine qq ?_);refine qc (fun h5=>?_) (fun h5=>?_)<;>try simp only[cs] at h5
   ·(try refine qy ?_);(repeat refine qq ?_);(try generalize hK:bZ _ _ _ _=K);refine ag.eF ?_;(repeat(first|refine xT ?_|refine xL ?_|refine xN ?_|refine xo ?_|refine xp ?_));refine ab.nil ?_;(try dsimp only[Fr.aC,Fr.put,Fr.clean,Fr.ev,Fr.get,nth,V.look,u1,u2,v1,v2,v3,v4,v5,v6,v7,List.length,u3,u4,Nat.reduceSub,Nat.reduceAdd,List.map]);(try subst hK);(try refine qy ?_);refine ag.ret ⟨rx,_,rfl,br (by simp) (by simp[aq]) ?_⟩
    rcases w6 with w6|⟨y,ys,w6⟩
    ·rw[w6] at hS;simp only[gD] at hS;subst hS;rfl
    ·rw[w6] at KC;simp only[List.length_cons] at KC;omega
   refine ag.skip ?_
   rcases w6 with w6|⟨y,ys,w6⟩
   ·rw[w6] at KC;simp only[List.length_nil] at KC;omega
   have hy:(c::xs)[i]?=some y:=by
    obtain⟨i,rfl⟩:∃i',i=i'+1:=⟨i-1,by omega⟩
    have:=congrArg (fun l=>l[0]?) w6
    simpa using this
   have iy:xs.drop (i+1-1)=ys:=by
    have:=congrArg (fun l=>l.drop 1) w6;simp only[List.drop_drop,List.drop_succ_cons,List.drop_zero] at this;rw[←this];congr 1;omega
   have Lr:=oh hy;have P7:=Dn y;rw[w6] at hS;simp only[gD] at hS;(try refine qy ?_);(repeat refine qq ?_);(try generalize hK:bZ _ _ _ _=K);refine ag.eF ?_
   (first|refine xT ?_|refine xL ?_|refine xN ?_|refine xo ?_|refine xp ?_)
   (first|refine xT ?_|refine xL ?_|refine xN ?_|refine xo ?_|refine xp ?_)
   refine ab.gd rfl rfl rfl (fun _=>rfl) rfl rfl dW rfl rfl (by omega) Lr rfl (fun p=>?_)
   (first|refine xT ?_|refine xL ?_|refine xN ?_|refine xo ?_|refine xp ?_)
   (first|refine xT ?_|refine xL ?_|refine xN ?_|refine xo ?_|refine xp ?_)
   (first|refine xT ?_|refine xL ?_|refine xN ?_|refine xo ?_|refine xp ?_)
   by_cases tY:(y.toNat:Int)<(lo:Int)
   ·rw[decide_eq_true tY];(repeat(first|refine xT ?_|refine xL ?_|refine xN ?_|refine xo ?_|refine xp ?_));refine ab.nil ?_;(try dsimp only[Fr.aC,Fr.put,Fr.clean,Fr.ev,Fr.get,nth,V.look,u1,u2,v1,v2,v3,v4,v5,v6,v7,List.length,u3,u4,Nat.reduceSub,Nat.reduceAdd,List.map]);(try subst hK);(try refine qy ?_);refine ag.cond (v:=true) rfl (fun _=>?_) (fun h=>by cases h);(try refine qy ?_);(repeat refine qq ?_);(try generalize hK:bZ _ _ _ _=K);refine ag.eF ?_;(repeat(first|refine xT ?_|refine xL ?_|refine xN ?_|refine xo ?_|refine xp ?_));refine ab.nil ?_;(try dsimp only[Fr.aC,Fr.put,Fr.clean,Fr.ev,Fr.get,nth,V.look,u1,u2,v1,v2,v3,v4,v5,v6,v7,List.length,u3,u4,Nat.reduceSub,Nat.reduceAdd,List.map]);(try subst hK);(try refine qy ?_);refine ag.ret ⟨rx,_,rfl,br (by simp) (by simp[aq]) ?_⟩;rw[if_pos (.inl (by omega))] at hS;subst hS;rfl
   rw[decide_eq_false tY]
   (first|refine xT ?_|refine xL ?_|refine xN ?_|refine xo ?_|refine xp ?_)
   (first|refine xT ?_|refine xL ?_|refine xN ?_|refine xo ?_|refine xp ?_)
   refine ab.gd rfl rfl rfl (fun _=>rfl) rfl rfl dW rfl rfl (by omega) Lr rfl (fun p=>?_);(repeat(first|refine xT ?_|refine xL ?_|refine xN ?_|refine xo ?_|refine xp ?_));refine ab.nil ?_;(try dsimp only[Fr.aC,Fr.put,Fr.clean,Fr.ev,Fr.get,nth,V.look,u1,u2,v1,v2,v3,v4,v5,v6,v7,List.length,u3,u4,Nat.reduceSub,Nat.reduceAdd,List.map]);(try subst hK);(try refine qy ?_);(repeat refine qq ?_);refine qc (fun h6=>?_) (fun h6=>?_)<;>try simp only[cs] at h6
   ·(try refine qy ?_);(repeat refine qq ?_);(try generalize hK:bZ _ _ _ _=K);refine ag.eF ?_;(repeat(first|refine xT ?_|refine xL ?_|refine xN ?_|refine xo ?_|refine xp ?_));refine ab.nil ?_;(try dsimp only[Fr.aC,Fr.put,Fr.clean,Fr.ev,Fr.get,nth,V.look,u1,u2,v1,v2,v3,v4,v5,v6,v7,List.length,u3,u4,Nat.reduceSub,Nat.reduceAdd,List.map]);(try subst hK);(try refine qy ?_);refine ag.ret ⟨rx,_,rfl,br (by simp) (by simp[aq]) ?_⟩;rw[if_pos (.inr (by omega))] at hS;subst hS;rfl
   refine ag.skip ?_;rw[if_neg (by omega)] at hS;(try refine qy ?_);(repeat refine qq ?_);(try generalize hK:bZ _ _ _ _=K);refine ag.eF ?_
   (first|refine xT ?_|refine xL ?_|refine xN ?_|refine xo ?_|refine xp ?_)
   (first|refine xT ?_|refine xL ?_|refine xN ?_|refine xo ?_|refine xp ?_)
   (first|refine xT ?_|refine xL ?_|refine xN ?_|refine xo ?_|refine xp ?_)
   (first|refine xT ?_|refine xL ?_|refine xN ?_|refine xo ?_|refine xp ?_)
   refine ab.gd rfl rfl rfl (fun _=>rfl) rfl rfl dW rfl rfl (by omega) Lr rfl (fun p=>?_);(repeat(first|refine xT ?_|refine xL ?_|refine xN ?_|refine xo ?_|refine xp ?_));refine ab.nil ?_;(try dsimp only[Fr.aC,Fr.put,Fr.clean,Fr.ev,Fr.get,nth,V.look,u1,u2,v1,v2,v3,v4,v5,v6,v7,List.length,u3,u4,Nat.reduceSub,Nat.reduceAdd,List.map]);(try subst hK);(try refine qy ?_);have Qs:r+1≤(r+1)*64^(j+1):=Nat.le_mul_of_pos_right _ (Nat.pow_pos (by omega));rw[Px (by omega) P7];(try refine qy ?_);(repeat refine qq ?_);(try generalize hK:bZ _ _ _ _=K);refine ag.eF ?_;(repeat(first|refine xT ?_|refine xL ?_|refine xN ?_|refine xo ?_|refine xp ?_));refine ab.nil ?_;(try dsimp only[Fr.aC,Fr.put,Fr.clean,Fr.ev,Fr.get,nth,V.look,u1,u2,v1,v2,v3,v4,v5,v6,v7,List.length,u3,u4,Nat.reduceSub,Nat.reduceAdd,List.map]);(try subst hK);(try refine qy ?_);(repeat refine qq ?_);(try generalize hK:bZ _ _ _ _=K);refine ag.eF ?_;(repeat(first|refine xT ?_|refine xL ?_|refine xN ?_|refine xo ?_|refine xp ?_));refine ab.nil ?_;(try dsimp only[Fr.aC,Fr.put,Fr.clean,Fr.ev,Fr.get,nth,V.look,u1,u2,v1,v2,v3,v4,v5,v6,v7,List.length,u3,u4,Nat.reduceSub,Nat.reduceAdd,List.map]);(try subst hK);(try refine qy ?_);rw[wrap_i64 (by omega) (by omega)];refine⟨j,by omega,i+1,_,_,_,rfl,rfl,by omega,by omega,by rw[iy];exact hS,?_⟩;have e1:(r*64+y.toNat %64+1)≤(r+1)*64:=by omega
   have e2:=Nat.mul_le_mul_right (64^j) e1;have e3:64*64^j=64^(j+1):=by rw[Nat.pow_succ,Nat.mul_comm]
   rw[Nat.mul_assoc,e3] at e2;omega
  ·refine ag.exit ?_;have:j=0:=by omega
   subst this;simp only[gD] at hS;subst hS;(try refine qy ?_);(repeat refine qq ?_);(try generalize hK:bZ _ _ _ _=K);refine ag.eF ?_;(repeat(first|refine xT ?_|refine xL ?_|refine xN ?_|refine xo ?_|refine xp ?_));refine ab.nil ?_;(try dsimp only[Fr.aC,Fr.put,Fr.clean,Fr.ev,Fr.get,nth,V.look,u1,u2,v1,v2,v3,v4,v5,v6,v7,List.length,u3,u4,Nat.reduceSub,Nat.reduceAdd,List.map]);(try subst hK);(try refine qy ?_);refine ag.ret ⟨rx,_,rfl,br (by simp) (by simp[aq]) ?_⟩;rw[wrap_i64 (by omega) (by omega)];rfl
 rcases hk with hk|hk|hk|hk|hk
 ·omega
 ·subst hk;refine ag.cond (v:=false) rfl (fun h=>by cases h) fun _=>ag.skip ?_;rw[du (by simp only[jy];omega)];exact H _ 0 _ rfl rfl (by omega)
 ·subst hk;refine ag.cond (v:=true) rfl (fun _=>?_) (fun h=>by cases h);refine ag.eF ?_
  (first|refine xT ?_|refine xL ?_|refine xN ?_|refine xo ?_|refine xp ?_)
  refine ab.gd rfl rfl rfl (fun _=>rfl) rfl rfl dW rfl rfl (by omega) rfl rfl (fun p=>?_);(repeat(first|refine xT ?_|refine xL ?_|refine xN ?_|refine xo ?_|refine xp ?_));refine ab.nil ?_;(try dsimp only[Fr.aC,Fr.put,Fr.clean,Fr.ev,Fr.get,nth,V.look,u1,u2,v1,v2,v3,v4,v5,v6,v7,List.length,u3,u4,Nat.reduceSub,Nat.reduceAdd,List.map]);rw[mask (j:=5) hc (by omega)]
  ·exact H _ 1 _ rfl rfl (by omega)
  ·decide
 ·subst hk;refine ag.cond (v:=true) rfl (fun _=>?_) (fun h=>by cases h);refine ag.eF ?_
  (first|refine xT ?_|refine xL ?_|refine xN ?_|refine xo ?_|refine xp ?_)
  refine ab.gd rfl rfl rfl (fun _=>rfl) rfl rfl dW rfl rfl (by omega) rfl rfl (fun p=>?_);(repeat(first|refine xT ?_|refine xL ?_|refine xN ?_|refine xo ?_|refine xp ?_));refine ab.nil ?_;(try dsimp only[Fr.aC,Fr.put,Fr.clean,Fr.ev,Fr.get,nth,V.look,u1,u2,v1,v2,v3,v4,v5,v6,v7,List.length,u3,u4,Nat.reduceSub,Nat.reduceAdd,List.map]);rw[mask (j:=4) hc (by omega)]
  ·exact H _ 2 _ rfl rfl (by omega)
  ·decide
 ·subst hk;refine ag.cond (v:=true) rfl (fun _=>?_) (fun h=>by cases h);refine ag.eF ?_
  (first|refine xT ?_|refine xL ?_|refine xN ?_|refine xo ?_|refine xp ?_)
  refine ab.gd rfl rfl rfl (fun _=>rfl) rfl rfl dW rfl rfl (by omega) rfl rfl (fun p=>?_);(repeat(first|refine xT ?_|refine xL ?_|refine xN ?_|refine xo ?_|refine xp ?_));refine ab.nil ?_;(try dsimp only[Fr.aC,Fr.put,Fr.clean,Fr.ev,Fr.get,nth,V.look,u1,u2,v1,v2,v3,v4,v5,v6,v7,List.length,u3,u4,Nat.reduceSub,Nat.reduceAdd,List.map]);rw[mask (j:=3) hc (by omega)]
  ·exact H _ 3 _ rfl rfl (by omega)
  ·decide
end Go.Proofs.Ytbdnabmmlbiomaa
namespace Go.Proofs.Ytbdnabmmlbiomaa
open Go.V Go
def gu (b:List UInt8):Nat×Nat:=if(fT b).2.1=0 then(65533,1) else((fT b).1,(fT b).2.1)
def ta:Nat→List UInt8→List (Nat×Nat)
 |0,_=>[]
 |_+1,[]=>[]
 |n+1,b=>gu b::ta n (b.drop (gu b).2)
def cQ (b:List UInt8):List (Nat×Nat):=ta b.length b
theorem iK (b:List UInt8):1≤(gu b).2:=by
 unfold gu;split
 ·simp
 ·simp only;omega
theorem lC : ∀ (n : Nat) (b : List UInt8), b.length ≤ n → ta n b = cQ b
 | 0, [], _ => rfl
 | 0, _ :: _, h => by simp at h
 | n + 1, [], _ => rfl
 | n + 1, c :: b, h => by
  have hp := iK (c :: b);have h1 : ((c :: b).drop (gu (c :: b)).2).length ≤ b.length := by rw [List.length_drop]; simp only [List.length_cons]; omega
  simp only [List.length_cons] at h;show gu (c :: b) :: ta n ((c :: b).drop _) = gu (c :: b) :: ta b.length ((c :: b).drop _);rw [lC n _ (by omega)]
  rcases Nat.lt_or_ge n b.length with h2 | h2
  ·omega
  ·rw [lC b.length _ h1]
termination_by n b => b.length
decreasing_by all_goals (simp_wf; omega)
theorem nP:cQ []=[]:=rfl
theorem o6 {b:List UInt8} (h:b≠[]):cQ b=gu b::cQ (b.drop (gu b).2):=by
 match b,h with
 |c::b,_=>
  show gu (c::b)::ta b.length ((c::b).drop _)=_;rw[lC];have hp:=iK (c::b);rw[List.length_drop];simp only[List.length_cons];omega
def aY (g:Nat×Nat):List D:=[.int .i32 (g.1:Nat),.int .i64 (g.2:Nat)]
def bX (l:List (Nat×Nat)):D:=.sl ((l.map aY).map (jD 2))
theorem yW {l:List (Nat×Nat)}:∀e∈l.map aY,e.length=2:=by
 intro e he;obtain⟨g,_,rfl⟩:=List.mem_map.1 he;rfl
theorem nz {l:List (Nat×Nat)}:∀e∈l.map aY,∀d∈e,bY d=true:=by
 intro e he d hd;obtain⟨g,_,rfl⟩:=List.mem_map.1 he;simp only[aY,List.mem_cons,List.not_mem_nil,or_false] at hd
 rcases hd with rfl|rfl<;>rfl
theorem cC (st:St) (l:List (Nat×Nat)):V.Rows st 2 (bX l) (l.map aY):=Rows.rP yW nz
theorem rr:∀(left n r lo hi:Nat) (b:List UInt8),(gD left n r lo hi b).2.1≠0→(gD left n r lo hi b).2.1=n∧left≤b.length
 |0,n,r,lo,hi,b,h=>by simp[gD]
 |left+1,n,r,lo,hi,[],h=>by simp[gD] at h
 |left+1,n,r,lo,hi,x::xs,h=>by
  simp only[gD] at h⊢
  split at h
  ·simp at h
  ·rename_i hc;rw[if_neg hc];have:=rr left n _ _ _ xs h;exact⟨this.1,by simp;omega⟩
theorem pB {b:List UInt8} (h:b≠[]):(gu b).2≤b.length:=by
 match b,h with
 |c::xs,_=>
  unfold gu
  split
  ·simp
  ·rename_i hz;simp only[fT] at hz⊢
   split at hz
   ·simp at hz
   ·rename_i hk;rw[if_neg hk];have:=rr _ _ _ _ _ _ hz;rw[this.1];simp;omega
theorem uG {st:St} {x:D} {b:List UInt8} (hb:Bytes st x b) (hlen:b.length≤1048576):Ev pv 11 [x] st (bX (cQ b)) st:=by
 refine Ev.nV rfl NV rfl rfl rfl ?_;dsimp only[u3,u4,List.length,Nat.reduceSub,Nat.reduceAdd,w1,w2];have hx:=hb.ref;(try refine qy ?_);(repeat refine qq ?_);(try generalize hK:bZ _ _ _ _=K);refine ag.eF ?_;(repeat(first|refine xT ?_|refine xL ?_|refine xN ?_|refine xo ?_|refine xp ?_));refine ab.nil ?_;(try dsimp only[Fr.aC,Fr.put,Fr.clean,Fr.ev,Fr.get,nth,V.look,u1,u2,v1,v2,v3,v4,v5,v6,v7,List.length,u3,u4,Nat.reduceSub,Nat.reduceAdd,List.map]);(try subst hK);(try refine qy ?_);(repeat refine qq ?_);(try generalize hK:bZ _ _ _ _=K);refine ag.eF ?_;(repeat(first|refine xT ?_|refine xL ?_|refine xN ?_|refine xo ?_|refine xp ?_));refine ab.nil ?_;(try dsimp only[Fr.aC,Fr.put,Fr.clean,Fr.ev,Fr.get,nth,V.look,u1,u2,v1,v2,v3,v4,v5,v6,v7,List.length,u3,u4,Nat.reduceSub,Nat.reduceAdd,List.map]);(try subst hK);(try refine qy ?_);refine ag.seq (ag.block ?_)
 refine ag.loop (fun j fr ah=>∃(y out r n:D) (b':List UInt8) (done:List (Nat×Nat)),fr.clean=⟨6,[y,.tup [],.nul,out,r,n],[]⟩∧Ex st.bs.length (aq .ro st) ah∧Bytes ah y b'∧y.ref≤st.bs.length∧
  Acc st.bs.length ah 2 out (done.map aY)∧j=b'.length∧done++cQ b'=cQ b∧done.length+b'.length≤b.length) b.length
  ⟨x,.nul,_,_,b,[],rfl,Ex.refl _ _,hb.enter .ro,hx,.nul,rfl,rfl,by simp⟩ ?_
 rintro j fr ah ⟨y,out,r,n,b',done,hfr,hex,hy,OH,C5,rfl,ko,hl⟩;rw[hfr];(try refine qy ?_);(repeat refine qq ?_);(try generalize hK:bZ _ _ _ _=K);refine ag.eF ?_
 (first|refine xT ?_|refine xL ?_|refine xN ?_|refine xo ?_|refine xp ?_)
 refine ab.len rfl rfl rfl hy rfl ?_;(repeat(first|refine xT ?_|refine xL ?_|refine xN ?_|refine xo ?_|refine xp ?_));refine ab.nil ?_;(try dsimp only[Fr.aC,Fr.put,Fr.clean,Fr.ev,Fr.get,nth,V.look,u1,u2,v1,v2,v3,v4,v5,v6,v7,List.length,u3,u4,Nat.reduceSub,Nat.reduceAdd,List.map]);(try subst hK);(try refine qy ?_);rw[e7];(try refine qy ?_);(repeat refine qq ?_);refine qc (fun h1=>?_) (fun h1=>?_)<;>try simp only[cs] at h1
 ·refine ag.skip ?_;have nv:b'≠[]:=by rintro rfl;simp at h1
  (try refine qy ?_);(repeat refine qq ?_);refine ag.block ?_;(try refine qy ?_);(repeat refine qq ?_);(try generalize hK:bZ _ _ _ _=K);refine ag.eF ?_
  (first|refine xT ?_|refine xL ?_|refine xN ?_|refine xo ?_|refine xp ?_)
  refine ab.DL rfl rfl rfl (yZ hy) ?_;(repeat(first|refine xT ?_|refine xL ?_|refine xN ?_|refine xo ?_|refine xp ?_));refine ab.nil ?_;(try dsimp only[Fr.aC,Fr.put,Fr.clean,Fr.ev,Fr.get,nth,V.look,u1,u2,v1,v2,v3,v4,v5,v6,v7,List.length,u3,u4,Nat.reduceSub,Nat.reduceAdd,List.map]);(try subst hK);(try refine qy ?_);generalize hf:fT b'=F at*;obtain⟨r0,n0,bg⟩:=F;(try refine qy ?_);(repeat refine qq ?_);(try generalize hK:bZ _ _ _ _=K);refine ag.eF ?_;(repeat(first|refine xT ?_|refine xL ?_|refine xN ?_|refine xo ?_|refine xp ?_));refine ab.nil ?_;(try dsimp only[Fr.aC,Fr.put,Fr.clean,Fr.ev,Fr.get,nth,V.look,u1,u2,v1,v2,v3,v4,v5,v6,v7,List.length,u3,u4,Nat.reduceSub,Nat.reduceAdd,List.map]);(try subst hK);(try refine qy ?_);generalize hK:bZ _ _ _ _=K
  have H:∀m,K .next ⟨6,[y,.tup [],.nul,out,.int .i32 ((gu b').1:Nat),.int .i64 ((gu b').2:Nat)],m⟩ ah:=by
   intro m;subst hK;generalize hg:gu b'=g;have hp:=iK b';have hle:=pB nv;rw[hg] at hp hle;(try refine qy ?_);(repeat refine qq ?_);(try generalize hK:bZ _ _ _ _=K);refine ag.eF ?_
   (first|refine xT ?_|refine xL ?_|refine xN ?_|refine xo ?_|refine xp ?_)
   (first|refine xT ?_|refine xL ?_|refine xN ?_|refine xo ?_|refine xp ?_)
   (first|refine xT ?_|refine xL ?_|refine xN ?_|refine xo ?_|refine xp ?_)
   refine ab.T rfl rfl rfl (d:=.agg (aY g)) (st1:=ah) rfl<|ab.T rfl rfl rfl (d:=.win ah.bs.length 0 0 1 2) (st1:=ah.push (.mem 0 true (aY g))) rfl ?_;have hN:st.bs.length≤ah.bs.length:=hex.len;have CZ:=hex.trans (Ex.push hN (.mem 0 true (aY g)));refine ab.append rfl rfl rfl rfl (C5.push _) (Rows.one rfl) rfl rfl rfl rfl rfl rfl rfl (by decide) CZ.len (by rw[CZ.flr];exact Nat.le_refl _) (by rw[CZ.ro];exact Nat.le_refl _) (by simp only[List.length_map,List.length_cons,List.length_nil];show(done.length+1)*16≤_;omega) fun Ld st2 Kh J8 _ _ _=>?_;(repeat(first|refine xT ?_|refine xL ?_|refine xN ?_|refine xo ?_|refine xp ?_));refine ab.nil ?_;(try dsimp only[Fr.aC,Fr.put,Fr.clean,Fr.ev,Fr.get,nth,V.look,u1,u2,v1,v2,v3,v4,v5,v6,v7,List.length,u3,u4,Nat.reduceSub,Nat.reduceAdd,List.map]);(try subst hK);(try refine qy ?_);have ME:=CZ.trans J8;have CJ:Bytes st2 y b':=Rows.ex ((Ex.push hN _).trans J8) hy OH;(try refine qy ?_);(repeat refine qq ?_);(try generalize hK:bZ _ _ _ _=K);refine ag.eF ?_
   (first|refine xT ?_|refine xL ?_|refine xN ?_|refine xo ?_|refine xp ?_)
   (first|refine xT ?_|refine xL ?_|refine xN ?_|refine xo ?_|refine xp ?_)
   refine ab.slice rfl rfl rfl CJ rfl rfl (l:=g.2) (r:=b'.length) ?_ ⟨by omega,by rw[e7];omega⟩ fun y2 CI Lq=>?_
   ·show cJ (byteCells b').length (some (.int .i64 (g.2:Nat))) none=_;rw[e7];simp only[cJ,iJ,jZ,Option.bind_some];rw[if_pos ⟨by omega,by omega⟩];rfl
   (repeat(first|refine xT ?_|refine xL ?_|refine xN ?_|refine xo ?_|refine xp ?_));refine ab.nil ?_;(try dsimp only[Fr.aC,Fr.put,Fr.clean,Fr.ev,Fr.get,nth,V.look,u1,u2,v1,v2,v3,v4,v5,v6,v7,List.length,u3,u4,Nat.reduceSub,Nat.reduceAdd,List.map]);(try subst hK);(try refine qy ?_);refine⟨(b'.drop g.2).length,by rw[List.length_drop];omega,y2,Ld,_,_,b'.drop g.2,done++[g],rfl,ME,?_,Nat.le_trans Lq OH,?_,rfl,?_,?_⟩
   ·have:((byteCells b').take b'.length).drop g.2=byteCells (b'.drop g.2):=by
     rw[←e7,List.take_length];simp[byteCells]
    unfold Bytes;rw[←this];exact CI
   ·rw[List.map_append];exact Kh
   ·rw[List.append_assoc,List.singleton_append,←ko,o6 nv,hg]
   ·rw[List.length_append,List.length_drop];simp only[List.length_cons,List.length_nil];omega
  (try refine qy ?_);(repeat refine qq ?_);refine qc (fun h2=>?_) (fun h2=>?_)<;>try simp only[cs] at h2
  ·refine ag.eF ?_;(repeat(first|refine xT ?_|refine xL ?_|refine xN ?_|refine xo ?_|refine xp ?_));refine ab.nil ?_;(try dsimp only[Fr.aC,Fr.put,Fr.clean,Fr.ev,Fr.get,nth,V.look,u1,u2,v1,v2,v3,v4,v5,v6,v7,List.length,u3,u4,Nat.reduceSub,Nat.reduceAdd,List.map]);have:gu b'=(65533,1):=by unfold gu;rw[hf,if_pos (by simpa using h2)]
   rw[this] at H;exact H _
  ·refine ag.skip ?_;have:gu b'=(r0,n0):=by unfold gu;rw[hf,if_neg (by simpa using h2)]
   rw[this] at H;exact H _
 ·refine ag.exit ?_
  have nv:b'=[]:=by cases b' with|nil=>rfl|cons _ _=>simp at h1<;>omega
  subst nv;rw[nP,List.append_nil] at ko;(try refine qy ?_);(repeat refine qq ?_);(try generalize hK:bZ _ _ _ _=K);refine ag.eF ?_;(repeat(first|refine xT ?_|refine xL ?_|refine xN ?_|refine xo ?_|refine xp ?_));refine ab.nil ?_;(try dsimp only[Fr.aC,Fr.put,Fr.clean,Fr.ev,Fr.get,nth,V.look,u1,u2,v1,v2,v3,v4,v5,v6,v7,List.length,u3,u4,Nat.reduceSub,Nat.reduceAdd,List.map]);(try subst hK);(try refine qy ?_);refine ag.ret ⟨rx,_,rfl,br (by simp) (hex.take rfl) ?_⟩;rw[←ko];exact C5.freeze nz (n:=15) (by decide)
end Go.Proofs.Ytbdnabmmlbiomaa
namespace Go.Proofs.Ytbdnabmmlbiomaa
open Go.V Go
structure dQ where
 i:Nat
 o:Nat
 g:Nat
 e:Int
 w:Int
def aQ (gs:List (Nat×Nat)) (bk:D) (s:dQ):List D:=[bX gs,bk,.int .i64 (s.i:Nat),.int .i64 (s.o:Nat),.int .i64 (s.g:Nat),.int .i64 s.e,.int .i64 s.w]
def iR (gs:List (Nat×Nat)) (i:Nat) (r:Int):Bool:=match gs[i]? with
 |some g=>((g.1:Nat):Int)==r
 |none=>false
theorem na {gs:List (Nat×Nat)} {i:Nat} {r:Int} (h:iR gs i r=true):i<gs.length:=by
 unfold iR at h
 split at h
 ·exact cq (by assumption)
 ·cases h
def cB (gs:List (Nat×Nat)) (s:dQ) (r:Int):dQ:=if iR gs s.i r=true then{s with i:=s.i+1} else s
def Ia (gs:List (Nat×Nat)) (i:Nat):Bool:=match gs[i]? with
 |some g=>((g.1:Nat):Int)==65533 &&((g.2:Nat):Int)==1
 |none=>false
def gp (ba:List Int) (s:dQ) (i:Nat) (e:Int):dQ:=if s.e=0 then{s with e:=e,w:=ba.getD i 0} else s
theorem lO {N k:Nat} {S s0:St} {H:List bT} {gs:List (Nat×Nat)} {bk:D} {s:dQ} (ni:gs.length≤1048576) (r:Int) (hH:Has N S s0 (.box k (.mem 0 false (aQ gs bk s))::H)):
  ∃d ah,Ev pv 69 [.ptr k 0 0,.int .i32 r] s0 d ah∧d=.bool (iR gs s.i r)∧Has N S ah (.box k (.mem 0 false (aQ gs bk s))::H):=by
 refine Ev.lX rfl Nr rfl rfl rfl ?_;dsimp only[u3,u4,List.length,Nat.reduceSub,Nat.reduceAdd,w1,w2];have cv:=hH;have hH:=hH.cw;have b4:(aq .rw s0).bs=s0.bs:=rfl;generalize aq .rw s0=S2 at*;have yI:Arg N S2 2 (bX gs) (gs.map aY):=Arg.pure (fun st=>cC st gs);refine qq<|qj fun K hK=>qm ?_;refine qe hK ?_
 by_cases ha:s.i<gs.length
 ·obtain⟨g,hg⟩:∃g,gs[s.i]?=some g:=⟨gs[s.i]'ha,List.getElem?_eq_getElem _⟩
  have gM:(gs.map aY)[s.i]?=some (aY g):=by rw[List.getElem?_map,hg];rfl
  have aX:decide ((s.i:Int)<(gs.length:Nat))=true:=by rw[decide_eq_true];simp;omega
  have hv:iR gs s.i r=(((g.1:Nat):Int)==r):=by unfold iR;rw[hg]
  refine qq<|ag.jY 4 (.bool (((g.1:Nat):Int)==r)) [] ?_ (fun ff tmp=>?_)
  ·refine qm ?_;refine qg ?_;refine qp (o:=2) ?_;refine ql hH aB ?_;refine qm ?_;refine qg ?_;refine qp (o:=0) ?_;refine ql hH aB ?_;refine qn ?_;simp only[List.length_map];refine qg ?_;refine qm ?_;refine qm ?_ (hg:=wi aX);refine qg ?_ (hg:=wi aX);refine qp (o:=0) ?_ (hg:=wi aX);refine ql hH aB ?_ (hg:=wi aX);refine qm ?_ (hg:=wi aX);refine qg ?_ (hg:=wi aX);refine qp (o:=2) ?_ (hg:=wi aX);refine ql hH aB ?_ (hg:=wi aX);refine qr (fun Oy JE=>?_) (hg:=wi aX);refine qf (fo:=0) (fun Lb Hl=>?_) (hg:=wi aX);refine qR ?_ (hg:=wi aX);refine qm ?_ (hg:=wi aX);refine qg ?_ (hg:=wi aX);refine qt aX ?_;refine qm ?_;refine ab.nil (aW ?_);dsimp only[aJ,List.foldl,nth,u2,u1];dsimp only[Fr.aC,Fr.put,Fr.clean,Fr.ev,Fr.get,nth,look,u1,u2,v1,v2,v4]
   all_goals(first|rfl|(simp[aX];done)|(simp_all;done)|(simp[aX];omega)|(simp_all;omega))
  dsimp only[aJ,List.foldl,nth,u2,u1];refine ag.ret ⟨rx,_,_,_,rfl,ak (rfl),?_⟩;exact⟨by rw[hv];rfl,cv.ay b4 hH⟩
 ·have aX:decide ((s.i:Int)<(gs.length:Nat))=false:=by rw[decide_eq_false];simp;omega
  have hv:iR gs s.i r=false:=by
   cases h:iR gs s.i r with
   |true=>exact absurd (na h) ha
   |false=>rfl
  refine qq<|ag.jY 4 (.bool false) [] ?_ (fun ff tmp=>?_)
  ·refine qm ?_;refine qg ?_;refine qp (o:=2) ?_;refine ql hH aB ?_;refine qm ?_;refine qg ?_;refine qp (o:=0) ?_;refine ql hH aB ?_;refine qn ?_;simp only[List.length_map];refine qg ?_;refine qm ?_;refine qs ?_ (hg:=wn aX);refine qs ?_ (hg:=wn aX);refine qs ?_ (hg:=wn aX);refine qs ?_ (hg:=wn aX);refine qs ?_ (hg:=wn aX);refine qs ?_ (hg:=wn aX);refine qs ?_ (hg:=wn aX);refine qs ?_ (hg:=wn aX);refine qs ?_ (hg:=wn aX);refine qs ?_ (hg:=wn aX);refine qs ?_ (hg:=wn aX);refine qs ?_ (hg:=wn aX);refine qs ?_ (hg:=wn aX);refine qu aX ?_;refine qm ?_;refine ab.nil (aW ?_);dsimp only[aJ,List.foldl,nth,u2,u1];dsimp only[Fr.aC,Fr.put,Fr.clean,Fr.ev,Fr.get,nth,look,u1,u2,v1,v2,v4]
   all_goals(first|rfl|(simp[aX];done)|(simp_all;done)|(simp[aX];omega)|(simp_all;omega))
  dsimp only[aJ,List.foldl,nth,u2,u1];refine ag.ret ⟨rx,_,_,_,rfl,ak (rfl),?_⟩;exact⟨by rw[hv];rfl,cv.ay b4 hH⟩
theorem df {N k:Nat} {S s0:St} {H:List bT} {gs:List (Nat×Nat)} {bk:D} {s:dQ} (ni:gs.length≤1048576) (r:Int) (hH:Has N S s0 (.box k (.mem 0 false (aQ gs bk s))::H)):
  ∃d ah,Ev pv 58 [.ptr k 0 0,.int .i32 r] s0 d ah∧d=.bool (iR gs s.i r)∧Has N S ah (.box k (.mem 0 false (aQ gs bk (cB gs s r)))::H):=by
 refine Ev.lX rfl Nw rfl rfl rfl ?_;dsimp only[u3,u4,List.length,Nat.reduceSub,Nat.reduceAdd,w1,w2];have cv:=hH;have hH:=hH.cw;have b4:(aq .rw s0).bs=s0.bs:=rfl;generalize aq .rw s0=S2 at*;refine qq<|qj fun K hK=>qm ?_;refine qe hK<|qq<|qq<|qj fun K hK=>qm ?_;refine qm ?_;obtain⟨_,st,aM,rfl,hH⟩:=lO ni r hH;refine qv aM ?_;refine qe hK ?_;unfold cB
 cases hb:iR gs s.i r with
 |true=>
  have hlt:=na hb;dsimp only[aQ] at hH;rw[if_pos rfl];refine qB ?_;refine qq<|qj fun K hK=>qm ?_;refine qg ?_;refine qp (o:=2) ?_;refine ql hH aB ?_;refine qA ?_;refine qg ?_;refine qp (o:=2) ?_;refine qT hH aB fun st hH=>?_;dsimp only[u2,u1,u3,u4,setMany,u5,u6,D.cells,Nat.reduceAdd,aQ,aY,av] at hH;refine qe hK<|qq<|qj fun K hK=>qm ?_;refine qe hK<|ag.ret ⟨rx,_,_,_,rfl,ak (rfl),?_⟩;exact⟨rfl,cv.ay b4 hH⟩
 |false=>
  rw[if_neg (by simp)];refine qC ?_;refine ag.skip<|qq<|qj fun K hK=>qm ?_;refine qe hK<|ag.ret ⟨rx,_,_,_,rfl,ak (rfl),?_⟩;exact⟨rfl,cv.ay b4 hH⟩
theorem uC {N k:Nat} {S s0:St} {H:List bT} {gs:List (Nat×Nat)} {bk:D} {s:dQ} (i:Nat) (hi:i<gs.length) (hH:Has N S s0 (.box k (.mem 0 false (aQ gs bk s))::H)):
  ∃d ah,Ev pv 83 [.ptr k 0 0,.int .i64 (i:Nat)] s0 d ah∧d=.bool (Ia gs i)∧Has N S ah (.box k (.mem 0 false (aQ gs bk s))::H):=by
 refine Ev.lX rfl Nd rfl rfl rfl ?_;dsimp only[u3,u4,List.length,Nat.reduceSub,Nat.reduceAdd,w1,w2];have cv:=hH;have hH:=hH.cw;have b4:(aq .rw s0).bs=s0.bs:=rfl;generalize aq .rw s0=S2 at*;have yI:Arg N S2 2 (bX gs) (gs.map aY):=Arg.pure (fun st=>cC st gs);refine qq<|qj fun K hK=>qm ?_;refine qe hK ?_
 obtain⟨g,hg⟩:∃g,gs[i]?=some g:=⟨gs[i]'hi,List.getElem?_eq_getElem _⟩
 have gM:(gs.map aY)[i]?=some (aY g):=by rw[List.getElem?_map,hg];rfl
 have hv:Ia gs i=(((g.1:Nat):Int)==65533 &&((g.2:Nat):Int)==1):=by unfold Ia;rw[hg]
 refine qq<|ag.jY 4 (.bool (((g.1:Nat):Int)==65533 &&((g.2:Nat):Int)==1)) [] ?_ (fun ff tmp=>?_)
 ·refine qm ?_;refine qg ?_;refine qp (o:=0) ?_;refine ql hH aB ?_;refine qm ?_;refine qr fun PZ Mb=>?_;refine qf (fo:=0) fun OB JH=>?_;refine qR ?_;refine qg ?_;refine qm ?_;refine ab.two 14 rfl (fun ck=>?_) (fun ck=>?_)
  ·refine qm ?_ (hg:=wi ck);refine qg ?_ (hg:=wi ck);refine qp (o:=0) ?_ (hg:=wi ck);refine ql hH aB ?_ (hg:=wi ck);refine qm ?_ (hg:=wi ck);refine qr (fun OA JG=>?_) (hg:=wi ck);refine qf (fo:=1) (fun KA CQ=>?_) (hg:=wi ck);refine qR ?_ (hg:=wi ck);refine qg ?_ (hg:=wi ck);refine qt ck ?_;refine qm ?_;refine ab.nil (aW ?_);dsimp only[aJ,List.foldl,nth,u2,u1];dsimp only[Fr.aC,Fr.put,Fr.clean,Fr.ev,Fr.get,nth,V.look,u1,u2,v1,v2,v3,v4,v5,v6,v7,List.length,u3,u4,Nat.reduceSub,Nat.reduceAdd,List.map]
   all_goals(simp[ck];done)
  ·refine qs ?_ (hg:=wn ck);refine qs ?_ (hg:=wn ck);refine qs ?_ (hg:=wn ck);refine qs ?_ (hg:=wn ck);refine qs ?_ (hg:=wn ck);refine qs ?_ (hg:=wn ck);refine qs ?_ (hg:=wn ck);refine qs ?_ (hg:=wn ck);refine qs ?_ (hg:=wn ck);refine qu ck ?_;refine qm ?_;refine ab.nil (aW ?_);dsimp only[aJ,List.foldl,nth,u2,u1];dsimp only[Fr.aC,Fr.put,Fr.clean,Fr.ev,Fr.get,nth,V.look,u1,u2,v1,v2,v3,v4,v5,v6,v7,List.length,u3,u4,Nat.reduceSub,Nat.reduceAdd,List.map]
   all_goals(simp[ck];done)
 dsimp only[aJ,List.foldl,nth,u2,u1];refine ag.ret ⟨rx,_,_,_,rfl,ak (rfl),?_⟩;exact⟨by rw[hv];rfl,cv.ay b4 hH⟩
theorem cD {N k:Nat} {S s0:St} {H:List bT} {gs:List (Nat×Nat)} {bk:D} {ba:List Int} {s:dQ} (i:Nat) (e:Int) (hi:i<ba.length) (hH:Has N S s0 (.box k (.mem 0 false (aQ gs bk s))::.aN bk 1 (ba.map av)::H)):
  ∃d ah,Ev pv 36 [.ptr k 0 0,.int .i64 (i:Nat),.int .i64 e] s0 d ah∧d=.sl []∧Has N S ah (.box k (.mem 0 false (aQ gs bk (gp ba s i e)))::.aN bk 1 (ba.map av)::H):=by
 refine Ev.lX rfl NL rfl rfl rfl ?_;dsimp only[u3,u4,List.length,Nat.reduceSub,Nat.reduceAdd,w1,w2];have cv:=hH;have hH:=hH.cw;have b4:(aq .rw s0).bs=s0.bs:=rfl;generalize aq .rw s0=S2 at*;refine qq<|qj fun K hK=>qm ?_;refine qe hK ?_
 obtain⟨v,hv⟩:∃v,ba[i]?=some v:=⟨ba[i]'hi,List.getElem?_eq_getElem _⟩
 have gM:=ey hv;unfold gp;refine qq<|qq<|qj fun K hK=>qm ?_;refine qg ?_;refine qp (o:=5) ?_;refine ql hH aB ?_;refine qg ?_;refine qe hK ?_;refine ag.cond (by rfl) (fun h0=>?_) (fun h0=>?_)<;>try simp only[beq_iff_eq,beq_eq_false_iff_ne,ne_eq] at h0
 ·rw[if_pos h0];have J3:ba.getD i 0=v:=by rw[List.getD_eq_getElem?_getD,hv];rfl
  refine qj fun K hK=>qm ?_;refine qm ?_;refine qm ?_;refine qm ?_;refine qg ?_;refine qp (o:=1) ?_;refine ql hH aB ?_;refine qm ?_;refine qi hH bN fun OA JG=>?_;refine qo hH bN ?_;refine qg ?_;refine qp (o:=5) ?_;refine qT hH aB fun st hH=>?_;dsimp only[u2,u1,u3,u4,setMany,u5,u6,D.cells,Nat.reduceAdd,aQ,aY,av] at hH;refine qg ?_;refine qp (o:=6) ?_;refine qT hH aB fun st hH=>?_;dsimp only[u2,u1,u3,u4,setMany,u5,u6,D.cells,Nat.reduceAdd,aQ,aY,av] at hH;refine qe hK<|qq<|qj fun K hK=>qm ?_;refine qe hK<|ag.ret ⟨rx,_,_,_,rfl,ak (rfl),?_⟩;exact⟨rfl,by rw[J3];exact cv.ay b4 hH⟩
 ·rw[if_neg h0];refine ag.skip<|qq<|qj fun K hK=>qm ?_;refine qe hK<|ag.ret ⟨rx,_,_,_,rfl,ak (rfl),?_⟩;exact⟨rfl,cv.ay b4 hH⟩
end Go.Proofs.Ytbdnabmmlbiomaa
