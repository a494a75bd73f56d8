/-
 Arguments as the row reads them are values of V; no conditions.
-/
import Derived.Test.YtbdilgkfnacahaaGreatXM2
import Derived.DataReads
import Derived.ChangeOld
import GoSem.ClaimChange
import Derived.Below
import Derived.Test.YtbdilgkfnacahaaGreatRows
import Derived.Test.YtbdilgkfnacahaaGreatXGJk
import Derived.Test.YtbdilgkfnacahaaGreatXGYf
set_option linter.unusedSimpArgs false
set_option linter.unusedVariables false
set_option linter.unusedSectionVars false
set_option linter.unnecessarySimpa false
set_option maxRecDepth 100000
set_option maxHeartbeats 4000000
namespace Go.V
open Go.RowKit
def jA {H:Type}:DataW H→Bool
 | .agg _=>true
 |_=>false
mutual
def jI {H:Type}:DataW H→List D
 | .lit (.bool b)=>[.bool b]
 | .lit (.int k n)=>[.int k n]
 | .lit (.string l)=>[.str l]
 | .lit _=>[.aZ]
 | .nil=>[.nul]
 | .slice elems _=>[.sl (nQ elems)]
 | .agg parts=>gv parts
 | .ptr _=>[.aZ]
 | .iface _ _=>[.aZ]
 | .map _=>[.aZ]
 | .held _=>[.aZ]
def nQ {H:Type}:List (DataW H)→List D
 |[]=>[]
 |d::r=>(if jA d then .agg (jI d) else(jI d).headD .aZ)::nQ r
def gv {H:Type}:List (DataW H)→List D
 |[]=>[]
 |d::r=>jI d++gv r
end
def cu {H:Type} (d:DataW H):D:=if jA d then .agg (jI d) else(jI d).headD .aZ
theorem lG {H:Type}:∀l:List (DataW H),nQ l=l.map cu
 |[]=>rfl
 |d::r=>by simp only[nQ,List.map_cons,lG r];rfl
def lJ (P:Program):Nat→List Field→Option Nat
 |o,[]=>some o
 |o,f::fs=>if f.offset=o then lJ P (o+P.cellsOf f.type) fs else none
def zM (P:Program):Nat→TypeId→Bool
 |0,_=>false
 |n+1,t=>match P.underlying t with
  |some .bool=>true
  |some (.int _)=>true
  |some .string=>true
  |some (.slice e)=>zM P n e &&decide (0<P.cellsOf e)
  |some (.struct fs)=>(lJ P 0 fs.toList==some (P.cellsOf t)) &&fs.toList.all fun f=>zM P n f.type
  |some (.array m e)=>zM P n e &&(P.cellsOf t==m*P.cellsOf e)
  |_=>false
structure CR (w:World) (Z:Nat→Prop) (cs:List D) (vs:List Value):Prop where
 len:cs.length=vs.length
 one:∀v∈vs,v.oneCell'=true
 onec:∀c∈cs,c.cells?=some [c]
 rel:∀(i:Nat) c v,cs[i]?=some c→vs[i]?=some v→IR w Z c v
theorem CR.nil {w:World} {Z:Nat→Prop}:CR w Z [] []:=⟨rfl,by simp,by simp,by simp⟩
theorem CR.single {w:World} {Z:Nat→Prop} {c:D} {v:Value} (h:IR w Z c v) (h1:v.oneCell'=true) (h2:c.cells?=some [c]):CR w Z [c] [v]:=
 ⟨rfl,by simpa using h1,by simpa using h2,fun i c' v' hc hv=>by
  cases i with
  |zero=>simp at hc hv;subst hc;subst hv;exact h
  |succ i=>simp at hc⟩
theorem CR.append {w:World} {Z:Nat→Prop} {cs cs':List D} {vs KR:List Value} (h:CR w Z cs vs) (g:CR w Z cs' KR):CR w Z (cs++cs') (vs++KR):=by
 refine⟨by simp[h.len,g.len],fun v hv=>?_,fun c hc=>?_,fun i c v hc hv=>?_⟩
 ·rcases List.mem_append.1 hv with hv|hv
  ·exact h.one v hv
  ·exact g.one v hv
 ·rcases List.mem_append.1 hc with hc|hc
  ·exact h.onec c hc
  ·exact g.onec c hc
 ·rw[List.getElem?_append] at hc hv;have:=h.len
  split at hc
  ·rw[if_pos (by omega)] at hv;exact h.rel i c v hc hv
  ·rw[if_neg (by omega)] at hv;rw[←this] at hv;exact g.rel _ c v hc hv
theorem oK {H:Type} {P:Program} {w:World} {Z:Nat→Prop} {f:Field→Option (DataW H×List MemPlace)} {cs:List Value}:∀{fs:List Field} {o e:Nat} {xs:List (DataW H×List MemPlace)},lJ P o fs=some e→e≤cs.length→fs.mapM f=some xs→
  (∀g∈fs,∀x,f g=some x→CR w Z (jI x.1) ((cs.drop g.offset).take (P.cellsOf g.type)))→CR w Z (gv (xs.map (·.1))) ((cs.drop o).take (e-o))∧o≤e
 |[],o,e,xs,hc,_,hm,_=>by
  simp[lJ] at hc;subst hc;simp at hm;subst hm;simp[gv];exact CR.nil
 |g::fs,o,e,xs,hc,he,hm,hx=>by
  simp only[lJ] at hc
  split at hc
  ·rename_i ho;rw[List.mapM_cons] at hm
   cases h1:f g with
   |none=>rw[h1] at hm;simp at hm
   |some x=>
    rw[h1] at hm
    cases h2:fs.mapM f with
    |none=>rw[h2] at hm;simp at hm
    |some ys=>
     rw[h2] at hm;simp at hm;subst hm;obtain⟨ih,hle⟩:=oK hc he h2 fun g' Oq=>hx g' (List.mem_cons_of_mem _ Oq);have hg:=hx g (List.mem_cons_self ..) x h1;rw[ho] at hg;refine⟨?_,by omega⟩;simp only[List.map_cons,gv]
     have:(cs.drop o).take (e-o)=(cs.drop o).take (P.cellsOf g.type)++(cs.drop (o+P.cellsOf g.type)).take (e-(o+P.cellsOf g.type)):=by
      rw[←List.drop_drop,show e-o=P.cellsOf g.type+(e-(o+P.cellsOf g.type)) by omega,List.take_add]
     rw[this];exact hg.append ih
  ·cases hc
theorem pz {H:Type} {w:World} {Z:Nat→Prop} {s:Nat} {f:Nat→Option (DataW H×List MemPlace)} {cs:List Value}:∀{m k:Nat} {xs:List (DataW H×List MemPlace)},(List.range' k m).mapM f=some xs→(k+m)*s≤cs.length→
  (∀i x,f i=some x→CR w Z (jI x.1) ((cs.drop (i*s)).take s))→CR w Z (gv (xs.map (·.1))) ((cs.drop (k*s)).take (m*s))
 |0,k,xs,hm,_,_=>by simp at hm;subst hm;simp[gv];exact CR.nil
 |m+1,k,xs,hm,hl,hx=>by
  rw[List.range'_succ,List.mapM_cons] at hm
  cases h1:f k with
  |none=>rw[h1] at hm;simp at hm
  |some x=>
   rw[h1] at hm
   cases h2:(List.range' (k+1) m).mapM f with
   |none=>rw[h2] at hm;simp at hm
   |some ys=>
    rw[h2] at hm;simp at hm;subst hm;have ih:=pz h2 (by rw[show k+1+m=k+(m+1) by omega];exact hl) hx;simp only[List.map_cons,gv];rw[show(m+1)*s=s+m*s by rw[Nat.add_mul];omega,List.take_add,List.drop_drop,show k*s+s=(k+1)*s by rw[Nat.add_mul];omega];exact(hx k x h1).append ih
theorem cells_one {c:D} (h:c.cells?=some [c]):c.cells=[c]:=by
 cases c<;>first|rfl|cases h|(simp only[D.cells?,Option.some.injEq] at h;simpa only[D.cells] using h)
theorem pK (b off n:Nat):(⟨b,off,none⟩:Addr).add n=⟨b,off+n,none⟩:=by
 cases n<;>simp[Addr.add]
theorem ke {H:Type} {enc:TypeId×Value→H} {P:Program} {w:World} {spare:Nat→Bool} {held:Bool}:∀(fuel:Nat) (t:TypeId) (cs:List Value) (d:DataW H) (ps:List MemPlace) (n:Nat),DataW.trod enc P w 0 spare held fuel t cs=some (d,ps)→zM P n t=true→
  CR w (fun b=>b<w.heap.size) (jI d) cs∧cs.length=(match P.underlying t with|some (.struct _)|some (.array _ _)=>P.cellsOf t|_=>1)∧(jA d=(match P.underlying t with|some (.struct _)|some (.array _ _)=>true|_=>false))
 |0,t,cs,d,ps,n,h,_=>by simp[DataW.trod] at h
 |fuel+1,t,cs,d,ps,0,h,ht=>by simp[zM] at ht
 |fuel+1,t,cs,d,ps,n+1,h,ht=>by
  simp only[zM] at ht;unfold DataW.trod at h
  cases hu:P.underlying t with
  |none=>rw[hu] at ht;simp at ht
  |some u=>
   rw[hu] at h ht
   cases u with
   |bool=>
    rcases cs with _|⟨v,_|⟨v2,cs⟩⟩<;>try(simp at h;done)
    cases v<;>simp at h
    obtain⟨rfl,rfl⟩:=h;exact⟨CR.single (.bool _) rfl rfl,rfl,rfl⟩
   |int k=>
    rcases cs with _|⟨v,_|⟨v2,cs⟩⟩<;>try(simp at h;done)
    cases v<;>simp at h
    obtain⟨⟨rfl,_⟩,rfl,rfl⟩:=h;exact⟨CR.single (.int _ _) rfl rfl,rfl,rfl⟩
   |string=>
    rcases cs with _|⟨v,_|⟨v2,cs⟩⟩<;>try(simp at h;done)
    cases v<;>simp at h
    rename_i b;obtain⟨_,rfl,rfl⟩:=h;refine⟨CR.single ?_ rfl rfl,rfl,rfl⟩;have:=IR.str (w:=w) (Z:=fun b=>b<w.heap.size) b.data.toList
    simpa using this
   |slice e=>
    simp only[Bool.and_eq_true,decide_eq_true_eq] at ht
    rcases cs with _|⟨v,_|⟨v2,cs⟩⟩<;>try(simp at h;done)
    cases v<;>try(simp at h;done)
    rename_i a len cap
    cases a with
    |none=>
     cases len<;>cases cap<;>simp at h
     obtain⟨rfl,rfl⟩:=h;exact⟨CR.single .nul rfl rfl,rfl,rfl⟩
    |some a=>
     simp only at h
     split at h
     ·rename_i hc;simp only[Option.bind_eq_some_iff,Option.map_eq_some_iff] at h;obtain⟨elems,he,rest,hr,hd⟩:=h;cases hd;refine⟨?_,rfl,rfl⟩;have hlen:elems.length=len:=by simpa using mapM_some_length he
      have hget:=mapM_some_get he
      have each:∀(i:Nat),i<len→∃x cs,elems[i]?=some x∧w.cells? 0 (a.add (i*P.cellsOf e)) (P.cellsOf e)=some cs∧CR w (fun b=>b<w.heap.size) (jI x.1) cs∧cs.length=P.cellsOf e∧(jA x.1=(match P.underlying e with|some (.struct _)|some (.array _ _)=>true|_=>false))∧cs.length=(match P.underlying e with|some (.struct _)|some (.array _ _)=>P.cellsOf e|_=>1):=by
       intro i hi;have h1:=hget i i (by simp[hi]);have h2:elems[i]?=some (elems[i]'(by omega)):=List.getElem?_eq_getElem _;rw[h2] at h1;obtain⟨cs,fM,hx⟩:=Option.bind_eq_some_iff.1 h1;obtain⟨q1,q2,q3⟩:=ke fuel e cs _ _ n hx ht.1;exact⟨_,cs,h2,fM,q1,(World.cells?_some fM).2.1,q3,q2⟩
      refine CR.single ?_ rfl rfl
      cases len with
      |zero=>
       have:elems=[]:=by cases elems with|nil=>rfl|cons _ _=>simp at hlen
       subst this;exact .emp _ _
      |succ m=>
       have iy:a.spot=none∧a.block<w.heap.size:=by
        obtain⟨x,cs,_,h2,_,_⟩:=each 0 (by omega);refine⟨?_,?_⟩
        ·have:=(World.cells?_some h2).2.2 0 ht.2;have hl:=(World.cells?_some h2).2.1
         obtain⟨c0,OH⟩:∃c0,cs[0]?=some c0:=⟨cs[0]'(by omega),List.getElem?_eq_getElem _⟩
         rw[OH] at this
         simpa[Addr.add] using World.cell?_spot this
        ·simpa[Addr.add] using World.cells?_block h2 ht.2
       obtain⟨b,off,spot⟩:=a;simp only at iy;obtain⟨rfl,hb⟩:=iy
       have hcell:∀(i j:Nat),i<m+1→j<P.cellsOf e→∃x cs v,elems[i]?=some x∧cs[j]?=some v∧w.cell? ⟨b,off+(i*P.cellsOf e+j),none⟩=some v∧CR w (fun b=>b<w.heap.size) (jI x.1) cs:=by
        intro i j hi hj;obtain⟨x,cs,h1,h2,h3,h4,_⟩:=each i hi;have:=(World.cells?_some h2).2.2 j hj
        obtain⟨v,hv⟩:∃v,cs[j]?=some v:=⟨cs[j]'(by omega),List.getElem?_eq_getElem _⟩
        rw[hv] at this;refine⟨x,cs,v,h1,hv,?_,h3⟩;rw[←this,pK,pK,Nat.add_assoc]
       have tg:(nQ (elems.map (·.1)))=elems.map fun x=>cu x.1:=by rw[lG,List.map_map];rfl
       have hE:∀(i:Nat) q,(nQ (elems.map (·.1)))[i]?=some q→∃x cs,i<m+1∧elems[i]?=some x∧q.cells?=some q.cells∧q.cells=jI x.1∧CR w (fun b=>b<w.heap.size) (jI x.1) cs∧cs.length=P.cellsOf e:=by
        intro i q hq;rw[tg,List.getElem?_map] at hq;obtain⟨x,hx,rfl⟩:=Option.map_eq_some_iff.1 hq
        have hi:i<m+1:=by
         rcases Nat.lt_or_ge i (m+1) with h'|h'
         ·exact h'
         ·rw[List.getElem?_eq_none (by omega)] at hx;cases hx
        obtain⟨x',cs,h1,h2,h3,h4,h5,h6⟩:=each i hi;rw[hx] at h1;cases h1;refine⟨x,cs,hi,hx,?_,?_,h3,h4⟩
        ·unfold cu
         split
         ·rfl
         ·rename_i A1
          have pb:(jI x.1).length=1:=by
           rw[h3.len,h6];rw[h5] at A1
           revert A1
           split<;>simp
          match hd:jI x.1,pb with
          |[c],_=>have:=h3.onec c (by rw[hd];simp);simp only[List.headD_cons];rw[cells_one this];exact this
        ·unfold cu
         split
         ·rfl
         ·rename_i A1
          have pb:(jI x.1).length=1:=by
           rw[h3.len,h6];rw[h5] at A1
           revert A1
           split<;>simp
          match hd:jI x.1,pb with
          |[c],_=>have:=h3.onec c (by rw[hd];simp);simp only[List.headD_cons];exact cells_one this
       have hL:(nQ (elems.map (·.1))).length=m+1:=by rw[tg];simp[hlen]
       have hf:=fun(i j:Nat) (hi:i<m+1) (hj:j<P.cellsOf e)=>hcell i j hi hj;have:=IR.sl (w:=w) (Z:=fun b=>b<w.heap.size) (nQ (elems.map (·.1))) b off cap (P.cellsOf e) (fun i j=>(w.cell? ⟨b,off+(i*P.cellsOf e+j),none⟩).getD undef) hb (by rw[hL];exact hc.2.1)
        (fun i q hq=>by
         obtain⟨x,cs,h1,h2,h3,h4,h5,h6⟩:=hE i q hq
         exact⟨h3,by rw[h4,h5.len,h6]⟩)
        (fun i q j c hq hj=>by
         obtain⟨x,cs,h1,h2,h3,h4,h5,h6⟩:=hE i q hq
         have gp:j<P.cellsOf e:=by
          rcases Nat.lt_or_ge j (P.cellsOf e) with h'|h'
          ·exact h'
          ·rw[h4,List.getElem?_eq_none (by rw[h5.len,h6];exact h')] at hj;cases hj
         obtain⟨x',cs',v,g1,g2,g3,g4⟩:=hf i j h1 gp;rw[g3]
         exact⟨rfl,g4.one v (List.mem_of_getElem? g2)⟩)
        (fun i q j c hq hj=>by
         obtain⟨x,cs,h1,h2,h3,h4,h5,h6⟩:=hE i q hq
         have gp:j<P.cellsOf e:=by
          rcases Nat.lt_or_ge j (P.cellsOf e) with h'|h'
          ·exact h'
          ·rw[h4,List.getElem?_eq_none (by rw[h5.len,h6];exact h')] at hj;cases hj
         obtain⟨x',cs',v,g1,g2,g3,g4⟩:=hf i j h1 gp;rw[g3];rw[h2] at g1;cases g1
         exact g4.rel j c v (by rw[←h4];exact hj) g2)
       rw[hL] at this;exact this
     ·cases h
   |struct fs=>
    simp only[Bool.and_eq_true,beq_iff_eq,List.all_eq_true] at ht;simp only at h
    split at h
    ·rename_i hl;obtain⟨xs,hx,hd⟩:=Option.map_eq_some_iff.1 h;cases hd;refine⟨?_,hl,rfl⟩;obtain⟨h1,_⟩:=oK (w:=w) (Z:=fun b=>b<w.heap.size) (cs:=cs) ht.1 (by omega) hx fun g hg x Om=>(ke fuel g.type _ _ _ n Om (ht.2 g hg)).1;rw[List.drop_zero,Nat.sub_zero,←hl,List.take_length] at h1;exact h1
    ·cases h
   |array m e=>
    simp only[Bool.and_eq_true,beq_iff_eq] at ht;simp only at h
    split at h
    ·rename_i hl;obtain⟨xs,hx,hd⟩:=Option.map_eq_some_iff.1 h;cases hd;refine⟨?_,hl,rfl⟩;rw[List.range_eq_range'] at hx;have h1:=pz (w:=w) (Z:=fun b=>b<w.heap.size) (s:=P.cellsOf e) (cs:=cs) hx (by rw[Nat.zero_add,←ht.2,hl];exact Nat.le_refl _) fun i x Og=>(ke fuel e _ _ _ n Og ht.1).1;rw[Nat.zero_mul,List.drop_zero,←ht.2,←hl,List.take_length] at h1;exact h1
    ·cases h
   |_=>simp at ht
theorem rH {H:Type} {enc:TypeId×Value→H} {P:Program} {w:World} {spare:Nat→Bool} {held:Bool} {r:Reach} {base:Nat} {t:TypeId} {v:Value} {d:DataW H} {ps:List MemPlace} {n:Nat} (h:DataW.Trod enc P w 0 spare held t v d ps) (ht:zM P n t=true) (hv:Value.okWide P w r base t v):
  IR w (fun b=>b<w.heap.size) (cu d) v:=by
 obtain⟨fuel,hf⟩:=h;obtain⟨h1,h2,h3⟩:=ke fuel t _ d ps n hf ht
 have hu:∃u,P.underlying t=some u:=by
  cases n with
  |zero=>simp[zM] at ht
  |succ n=>
   simp only[zM] at ht
   cases hu:P.underlying t with
   |none=>rw[hu] at ht;simp at ht
   |some u=>exact⟨u,rfl⟩
 obtain⟨u,hu⟩:=hu;unfold Value.okWide at hv;rw[hu] at hv h2 h3
 have Hp:(∃cs:Array Value,v=.agg cs)→jA d=true→IR w (fun b=>b<w.heap.size) (cu d) v:=by
  rintro⟨cs,rfl⟩ hd;unfold cu;rw[if_pos hd];have:=IR.agg (w:=w) (Z:=fun b=>b<w.heap.size) (jI d) cs.toList (by simpa[Value.cells] using h1.len) (by simpa[Value.cells] using h1.one) (by simpa[Value.cells] using h1.rel)
  simpa using this
 have EX:jA d=false→v.cells.toList.length=1→(∀cs,v≠.agg cs)→IR w (fun b=>b<w.heap.size) (cu d) v:=by
  intro hd hl A1;unfold cu;rw[if_neg (by rw[hd];simp)]
  have hc:v.cells.toList=[v]:=by cases v<;>first|rfl|exact absurd rfl (A1 _)
  rw[hc] at h1
  match hq:jI d,h1.len with
  |[c],_=>exact h1.rel 0 c v (by rw[hq];rfl) rfl
 have hcell:Cell.okWide P w r base t v→∀cs,v≠.agg cs:=by
  rintro hc cs rfl;unfold Cell.okWide at hc;rw[hu] at hc;cases u<;>simp[Cell.ok,hu] at hc
 cases u with
 |struct fs=>obtain⟨cs,h,_⟩:=hv;exact Hp ⟨cs,h⟩ h3
 |array m e=>obtain⟨cs,h,_⟩:=hv;exact Hp ⟨cs,h⟩ h3
 |_=>exact EX h3 h2 (hcell hv)
end Go.V
namespace Go.V
open Go.RowKit
theorem s7 {pv:Pv} {P:Program} (h:pv.Ok P∧pv.eI∧ej P pv (cA pv)) {f:Nat} {ds:List D} {ae:St} (hs:Ev pv f ds ⟨[],0,0⟩ (.bool true) ae) {w:World} {us:List Value} (hl:ds.length=us.length)
  (hr:∀(i:Nat) c v,ds[i]?=some c→us[i]?=some v→IR w (fun b=>b<w.heap.size) c v):Calls P f us.toArray w fun e w'=>e=.returned (.bool true)∧Below w.heap.size w w':=by
 obtain⟨N,hN⟩:=Ev.out hs;refine(sound h (hN N (Nat.le_refl _)) (w:=w) (Z:=fun b=>b<w.heap.size) (fun _ h=>h) hl hr).mono fun e w'=>?_;rintro⟨v,β',Z',rfl,he,hv⟩;rw[cz hv];exact⟨rfl,⟨he.os,he.tape,he.output,he.size,fun k hk=>he.block k hk fun f=>f⟩⟩
end Go.V
namespace Go.V
open Go.RowKit
def Rd {H:Type} (enc:TypeId×Value→H) (P:Program) (w:World) (spare:Nat→Bool) (held:Bool) (t:TypeId) (d:DataW H):Prop:=
 ∃fuel cs ps,DataW.trod enc P w 0 spare held fuel t cs=some (d,ps)
section
variable{H:Type} {enc:TypeId×Value→H} {P:Program} {w:World} {spare:Nat→Bool} {held:Bool} {t e:TypeId} {d:DataW H}
theorem Rd.of {v:Value} {ps:List MemPlace} (h:DataW.Trod enc P w 0 spare held t v d ps):Rd enc P w spare held t d:=by
 obtain⟨fuel,h⟩:=h;exact⟨fuel,_,_,h⟩
theorem Rd.int {k:IntKind} (h:Rd enc P w spare held t d) (ht:P.underlying t=some (.int k)):∃n:Int,d=.lit (.int k n)∧(Lit.int k n).wf=true:=by
 obtain⟨fuel,cs,ps,h⟩:=h
 cases fuel with
 |zero=>simp[DataW.trod] at h
 |succ fuel=>
  unfold DataW.trod at h;rw[ht] at h
  rcases cs with _|⟨v,_|⟨v2,cs⟩⟩<;>try(simp at h;done)
  cases v<;>simp at h
  obtain⟨⟨rfl,hw⟩,rfl,_⟩:=h;exact⟨_,rfl,hw⟩
theorem Rd.bool (h:Rd enc P w spare held t d) (ht:P.underlying t=some .bool):∃b:Bool,d=.lit (.bool b):=by
 obtain⟨fuel,cs,ps,h⟩:=h
 cases fuel with
 |zero=>simp[DataW.trod] at h
 |succ fuel=>
  unfold DataW.trod at h;rw[ht] at h
  rcases cs with _|⟨v,_|⟨v2,cs⟩⟩<;>try(simp at h;done)
  cases v<;>simp at h
  obtain⟨rfl,_⟩:=h;exact⟨_,rfl⟩
theorem Rd.string (h:Rd enc P w spare held t d) (ht:P.underlying t=some .string):∃l:List UInt8,d=.lit (.string l):=by
 obtain⟨fuel,cs,ps,h⟩:=h
 cases fuel with
 |zero=>simp[DataW.trod] at h
 |succ fuel=>
  unfold DataW.trod at h;rw[ht] at h
  rcases cs with _|⟨v,_|⟨v2,cs⟩⟩<;>try(simp at h;done)
  cases v<;>simp at h
  obtain⟨_,rfl,_⟩:=h;exact⟨_,rfl⟩
theorem Rd.slice (h:Rd enc P w spare held t d) (ht:P.underlying t=some (.slice e)):d=.nil∨∃elems rest,d=.slice elems rest∧∀x∈elems,Rd enc P w spare held e x:=by
 obtain⟨fuel,cs,ps,h⟩:=h
 cases fuel with
 |zero=>simp[DataW.trod] at h
 |succ fuel=>
  unfold DataW.trod at h;rw[ht] at h
  rcases cs with _|⟨v,_|⟨v2,cs⟩⟩<;>try(simp at h;done)
  cases v<;>try(simp at h;done)
  rename_i a len cap
  cases a with
  |none=>
   cases len<;>cases cap<;>simp at h
   obtain⟨rfl,rfl⟩:=h;exact .inl rfl
  |some a=>
   simp only at h
   split at h
   ·simp only[Option.bind_eq_some_iff,Option.map_eq_some_iff] at h;obtain⟨elems,hm,rest,hr,hd⟩:=h;cases hd;refine .inr ⟨_,_,rfl,fun x hx=>?_⟩;obtain⟨y,hy,rfl⟩:=List.mem_map.1 hx;have hlen:elems.length=len:=by simpa using mapM_some_length hm
    have hget:=mapM_some_get hm;obtain⟨i,hi⟩:=List.getElem?_of_mem hy;have hil:i<len:=by have:=bR hi;omega
    have h1:=hget i i (by simp[hil]);rw[hi] at h1;obtain⟨cs,_,hx⟩:=Option.bind_eq_some_iff.1 h1;exact⟨fuel,cs,y.2,hx⟩
   ·cases h
theorem jv {α β:Type} {f:α→Option β}:∀{l:List α} {m:List β},l.mapM f=some m→bN (fun a b=>f a=some b) l m
 |[],m,h=>by simp at h;subst h;exact .nil
 |a::l,m,h=>by
  rw[List.mapM_cons] at h
  cases h1:f a with
  |none=>rw[h1] at h;simp at h
  |some b=>
   rw[h1] at h
   cases h2:l.mapM f with
   |none=>rw[h2] at h;simp at h
   |some ys=>rw[h2] at h;simp at h;subst h;exact .cons h1 (jv h2)
theorem bN.Gp {α β γ:Type} {R:α→γ→Prop} {f:β→γ}:∀{l:List α} {m:List β},bN (fun a b=>R a (f b)) l m→bN R l (m.map f)
 |_,_,.nil=>.nil
 |_,_,.cons a t=>.cons a t.Gp
theorem Rd.struct {fs:Array Field} (h:Rd enc P w spare held t d) (ht:P.underlying t=some (.struct fs)):∃parts,d=.agg parts∧bN (fun(f:Field) x=>Rd enc P w spare held f.type x) fs.toList parts:=by
 obtain⟨fuel,cs,ps,h⟩:=h
 cases fuel with
 |zero=>simp[DataW.trod] at h
 |succ fuel=>
  unfold DataW.trod at h;rw[ht] at h;simp only at h
  split at h
  ·obtain⟨xs,hx,hd⟩:=Option.map_eq_some_iff.1 h;cases hd;refine⟨_,rfl,?_⟩;exact((jv hx).mono fun f x Ot=>(⟨fuel,_,_,Ot⟩:Rd enc P w spare held f.type x.1)).Gp
  ·cases h
theorem Rd.array {n:Nat} (h:Rd enc P w spare held t d) (ht:P.underlying t=some (.array n e)):∃parts,d=.agg parts∧parts.length=n∧∀x∈parts,Rd enc P w spare held e x:=by
 obtain⟨fuel,cs,ps,h⟩:=h
 cases fuel with
 |zero=>simp[DataW.trod] at h
 |succ fuel=>
  unfold DataW.trod at h;rw[ht] at h;simp only at h
  split at h
  ·obtain⟨xs,hx,hd⟩:=Option.map_eq_some_iff.1 h;cases hd;have h1:=jv hx;refine⟨_,rfl,by have:=h1.len;simp at this;simp[←this],fun x Iy=>?_⟩;obtain⟨y,hy,rfl⟩:=List.mem_map.1 Iy
   have key:∀{l:List Nat} {m:List (DataW H×List MemPlace)},bN (fun i x=>DataW.trod enc P w 0 spare held fuel e ((cs.drop (i*P.cellsOf e)).take (P.cellsOf e))=some x) l m→∀y∈m,Rd enc P w spare held e y.1:=by
    intro l m h
    induction h with
    |nil=>intro y hy;cases hy
    |cons a t ih=>
     intro y hy
     rcases List.mem_cons.1 hy with rfl|hy
     ·exact⟨fuel,_,_,a⟩
     ·exact ih y hy
   exact key h1 y hy
  ·cases h
end
theorem rJ {H α:Type} {s:Nat} {f:α→List D} {Q:α→DataW H→Prop} {elems rest:List (DataW H)} (h:∀x∈elems,∃a,(cu x).cells?=some (cu x).cells∧(cu x).cells=f a∧(f a).length=s∧Q a x):
  ∃ws:List α,dV (cu (.slice elems rest)) s (ws.map f)∧ws.length=elems.length∧∀a∈ws,∃x∈elems,Q a x:=by
 have key:∃ws:List α,(elems.map cu).map D.cells=ws.map f∧(∀d∈elems.map cu,d.cells?=some d.cells∧d.cells.length=s)∧ws.length=elems.length∧∀a∈ws,∃x∈elems,Q a x:=by
  induction elems with
  |nil=>exact⟨[],rfl,fun d hd=>(by cases hd),rfl,fun a ha=>by cases ha⟩
  |cons x l ih=>
   obtain⟨ws,h1,h2,h3,h4⟩:=ih fun y hy=>h y (List.mem_cons_of_mem _ hy);obtain⟨a,g1,g2,g3,g4⟩:=h x (List.mem_cons_self ..);refine⟨a::ws,by simp only[List.map_cons,h1,g2],fun d hd=>?_,by simp[h3],fun b hb=>?_⟩
   ·simp only[List.map_cons,List.mem_cons] at hd
    rcases hd with rfl|hd
    ·exact⟨g1,by rw[g2];exact g3⟩
    ·exact h2 d hd
   ·rcases List.mem_cons.1 hb with rfl|hb
    ·exact⟨x,List.mem_cons_self ..,g4⟩
    ·obtain⟨y,hy,hq⟩:=h4 b hb;exact⟨y,List.mem_cons_of_mem _ hy,hq⟩
 obtain⟨ws,h1,h2,h3,h4⟩:=key;refine⟨ws,.inr ⟨elems.map cu,?_,h1,h2⟩,h3,h4⟩;show D.sl (nQ elems)=_;rw[lG]
theorem mV {H α:Type} {s:Nat} {f:α→List D}:dV (cu (.nil:DataW H)) s (([]:List α).map f):=.inl ⟨rfl,rfl⟩
end Go.V
namespace Go.Proofs.YtbdilgkfnacahaaGreat
theorem vm {H:Type} (d:DataW H):1≤Rows.uptoBulk d:=by
 cases d with
 |lit l=>cases l<;>simp[Rows.uptoBulk]
 |_=>simp[Rows.uptoBulk]
theorem iW {H:Type} (l:List (DataW H)):l.length≤Rows.uptoBulkAll l:=by
 induction l with
 |nil=>simp[Rows.uptoBulkAll]
 |cons x r ih=>have:=vm x;simp only[Rows.uptoBulkAll,List.length_cons];omega
end Go.Proofs.YtbdilgkfnacahaaGreat
namespace Go.Proofs.YtbdilgkfnacahaaGreat
open Go.V Go Go.RowKit
variable{H:Type} {enc:TypeId×Value→H} {w:World} {spare:Nat→Bool} {held:Bool} {d:DataW H}
theorem vn {H:Type} {l:List (DataW H)} {x:DataW H} (h:x∈l):Rows.uptoBulk x≤Rows.uptoBulkAll l:=by
 induction l with
 |nil=>cases h
 |cons y l ih=>
  simp only[Rows.uptoBulkAll]
  rcases List.mem_cons.1 h with rfl|h
  ·omega
  ·have:=ih h;omega
theorem tv (h:Rd enc Tryz.prog w spare held 81 d):∃a:Rg,(cu d).cells?=some (cu d).cells∧(cu d).cells=av a:=by
 obtain⟨parts,rfl,hp⟩:=h.struct Tryz.underlying81
 cases hp with
 |cons a hp=>cases hp with
  |cons b hp=>cases hp with
   |nil=>
    obtain⟨x,rfl,_⟩:=a.int Tryz.underlying21;obtain⟨y,rfl,_⟩:=b.int Tryz.underlying21;exact⟨(x,y),rfl,rfl⟩
theorem rr (h:Rd enc Tryz.prog w spare held 64 d):∃rs:List Rg,dV (cu d) 2 (rs.map av)∧rs.length≤Rows.uptoBulk d:=by
 rcases h.slice Tryz.underlying64 with rfl|⟨elems,rest,rfl,he⟩
 ·exact⟨[],mV,by simp⟩
 ·obtain⟨rs,h1,h2,_⟩:=rJ (s:=2) (f:=av) (Q:=fun _ _=>True) (rest:=rest) fun x hx=>by
   obtain⟨a,h1,h2⟩:=tv (he x hx);exact⟨a,h1,h2,rfl,trivial⟩
  refine⟨rs,h1,?_⟩;have:=iW elems;simp only[Rows.uptoBulk];omega
theorem vw (h:Rd enc Tryz.prog w spare held 23 d):∃l:List Int,dV (cu d) 1 (l.map aG)∧l.length≤Rows.uptoBulk d:=by
 rcases h.slice Tryz.underlying23 with rfl|⟨elems,rest,rfl,he⟩
 ·exact⟨[],mV,by simp⟩
 ·obtain⟨rs,h1,h2,_⟩:=rJ (s:=1) (f:=aG) (Q:=fun _ _=>True) (rest:=rest) fun x hx=>by
   obtain⟨a,rfl,_⟩:=(he x hx).int Tryz.underlying3;exact⟨a,rfl,rfl,rfl,trivial⟩
  refine⟨rs,h1,?_⟩;have:=iW elems;simp only[Rows.uptoBulk];omega
theorem AF (h:Rd enc Tryz.prog w spare held 66 d):∃i:bo,(cu d).cells?=some (cu d).cells∧(cu d).cells=aq i∧dV i.rd 2 (i.rs.map av)∧i.rs.length≤Rows.uptoBulk d:=by
 obtain⟨parts,rfl,hp⟩:=h.struct Tryz.underlying66
 cases hp with
 |cons a hp=>cases hp with
  |cons b hp=>cases hp with
   |cons c hp=>cases hp with
    |cons e hp=>cases hp with
     |nil=>
      rename_i d1 d2 d3 d4;obtain⟨x,rfl,_⟩:=a.int Tryz.underlying3;obtain⟨y,rfl,_⟩:=b.int Tryz.underlying3;obtain⟨z,rfl,hz⟩:=c.int Tryz.underlying3;obtain⟨rs,h1,h2⟩:=rr e;refine⟨⟨x,y,z,cu d4,rs⟩,rfl,?_,h1,?_⟩
      ·have h3:jI d4=[cu d4]:=by
        rcases e.slice Tryz.underlying64 with rfl|⟨elems,rest,rfl,he⟩<;>rfl
       show jI _++(jI _++(jI _++(jI d4++[])))=_;rw[h3];rfl
      ·simp only[Rows.uptoBulk,Rows.uptoBulkAll];omega
theorem vy (h:Rd enc Tryz.prog w spare held 22 d):∃code:List bo,dV (cu d) 4 (code.map aq)∧code.length≤Rows.uptoBulk d∧∀i∈code,dV i.rd 2 (i.rs.map av)∧i.rs.length≤Rows.uptoBulk d:=by
 rcases h.slice Tryz.underlying22 with rfl|⟨elems,rest,rfl,he⟩
 ·exact⟨[],mV,by simp,fun i hi=>by cases hi⟩
 ·obtain⟨code,h1,h2,h3⟩:=rJ (s:=4) (f:=aq) (Q:=fun(i:bo) x=>dV i.rd 2 (i.rs.map av)∧i.rs.length≤Rows.uptoBulk x) (rest:=rest) fun x hx=>by
   obtain⟨a,h1,h2,h3,h4⟩:=AF (he x hx);exact⟨a,h1,h2,rfl,h3,h4⟩
  refine⟨code,h1,?_,fun i hi=>?_⟩
  ·have:=iW elems;simp only[Rows.uptoBulk];omega
  ·obtain⟨x,hx,h4,h5⟩:=h3 i hi;have:=vn hx;exact⟨h4,by simp only[Rows.uptoBulk];omega⟩
theorem vu (h:Rd enc Tryz.prog w spare held 25 d):∃p:Pg,cu d=p.d∧(Rows.uptoBulk d≤1048576→p.ok):=by
 obtain⟨parts,rfl,hp⟩:=h.struct Tryz.underlying25
 cases hp with
 |cons a hp=>cases hp with
  |cons b hp=>cases hp with
   |nil=>
    rename_i d1 d2;obtain⟨code,h1,h2,h3⟩:=vy a;obtain⟨l,h4,h5⟩:=vw b
    have e1:jI d1=[cu d1]:=by
     rcases a.slice Tryz.underlying22 with rfl|⟨elems,rest,rfl,he⟩<;>rfl
    have e2:jI d2=[cu d2]:=by
     rcases b.slice Tryz.underlying23 with rfl|⟨elems,rest,rfl,he⟩<;>rfl
    refine⟨⟨cu d1,code,cu d2,l⟩,?_,fun hb=>?_⟩
    ·show D.agg (jI d1++(jI d2++[]))=_;rw[e1,e2];rfl
    ·simp only[Rows.uptoBulk,Rows.uptoBulkAll] at hb;exact⟨h1,h4,fun i hi=>⟨(h3 i hi).1,by have:=(h3 i hi).2;omega⟩,by show code.length≤_;omega,by show l.length≤_;omega⟩
end Go.Proofs.YtbdilgkfnacahaaGreat
namespace Go.Proofs.YtbdilgkfnacahaaGreat
open Go.V Go Go.RowKit
theorem kD (code:List bo) (pl:Nat) (e:Bool):∀(f:Nat) (w:Wk) (t:eL),aW (code.map cM) pl e f w t=aW code pl e f w t
 |0,_,_=>rfl
 |f+1,w,t=>by
  unfold aW;simp only[kD code pl e f,List.getElem?_map]
  cases code[t.pc]? with
  |none=>rfl
  |some i=>rfl
theorem lD (code:List bo) (pl:Nat) (e:Bool):∀(l:List eL) (w:Wk),fZ (code.map cM) pl e l w=fZ code pl e l w
 |[],_=>rfl
 |t::ts,w=>by
  unfold fZ;simp only[kD,List.length_map,lD code pl e ts]
theorem sO (code:List bo) (k:Nat):oz (code.map cM) k=oz code k:=by
 unfold oz;rw[List.getElem?_map];cases code[k]?<;>rfl
theorem kV (code:List bo) (r:Int):∀(l a:List eL),du (code.map cM) r l a=du code r l a
 |[],_=>rfl
 |t::ts,a=>by unfold du;simp only[sO,kV code r ts]
theorem pV (code:List bo) (pl s:Nat) (r:Int) (l:PL):dt (code.map cM) pl s r l=dt code pl s r l:=by
 unfold dt;simp only[lD,kV,List.length_map]
theorem jQ (code:List bo) (pl:Nat) (r:Int):∀(ss:List Nat) (ls:List PL),cw (code.map cM) pl r ss ls=cw code pl r ss ls
 |[],_=>rfl
 |_::_,[]=>rfl
 |s::ss,l::ls=>by simp only[cw,pV,jQ code pl r ss ls]
theorem tm (code:List bo) (pl:Nat):fN (code.map cM) pl=fN code pl:=by
 funext l;unfold fN;simp only[lD,List.length_map]
theorem nV.aJ {p q:Pg} (h:nV p q):aJ q=aJ p:=by unfold Go.Proofs.YtbdilgkfnacahaaGreat.aJ;rw[h.starts]
theorem l6 {p:Pg} (hR:bf p) {pl:Nat} {r:Int}:∀{ss:List Nat} {ls:List PL},(∀s∈ss,s<p.code.length)→∀l∈cw p.code pl r ss ls,l.ok p.code.length
 |[],_,_,l,hl=>by cases hl
 |_::_,[],_,l,hl=>by cases hl
 |s::ss,x::ls,hs,l,hl=>by
  simp only[cw,List.mem_cons] at hl
  rcases hl with rfl|hl
  ·exact tQ hR (hs s (List.mem_cons_self ..))
  ·exact l6 hR (fun s h=>hs s (List.mem_cons_of_mem _ h)) l hl
theorem pW {p:Pg} (hR:bf p):∀s∈aJ p,s<p.code.length:=by
 intro s hs;obtain⟨v,hv,rfl⟩:=List.mem_map.1 hs;have:=hR.st v hv;omega
theorem jM {x y:Oper} {fi fj:Fr} {si kg sj vG:St} {a:Operand} {k aj off v:Nat} {ar:Bool} {c:List D} (hy:dL y.op=some a) (ha:fj.ev a=.ptr k aj off) (h1:si.bs[k]?=some (.mem v ar c)) (h2:kg.bs[k]?=some (.mem v ar c)):eE x fi si kg y fj sj vG=true:=by
 unfold eE;simp only[hy,ha,D.iv];exact jh h1 h2
def ky (g:Int×Int):List D:=[.int .i32 g.1,.int .i64 g.2]
theorem Fl {l:List (Int×Int)} {i:Nat} {q:Int×Int} (h:l[i]?=some q):(l.map ky)[i]?=some (ky q):=by rw[List.getElem?_map,h];rfl
variable{H:Type} {enc:TypeId×Value→H} {w:World} {spare:Nat→Bool} {held:Bool} {d:DataW H}
theorem vx (h:Rd enc Tryz.prog w spare held 35 d):∃(y:D) (l:List (Int×Int)),cu d=y∧dV y 2 (l.map ky)∧(Rows.uptoBulk d≤1048576→l.length≤1048576):=by
 rcases h.slice Tryz.underlying35 with rfl|⟨elems,rest,rfl,he⟩
 ·exact⟨_,[],rfl,mV,fun _=>by simp⟩
 ·obtain⟨l,h1,h2,_⟩:=rJ (s:=2) (f:=ky) (Q:=fun _ _=>True) (rest:=rest) fun x hx=>by
   obtain⟨parts,rfl,hp⟩:=(he x hx).struct Tryz.underlying52
   cases hp with
   |cons a hp=>cases hp with
    |cons b hp=>cases hp with
     |nil=>
      obtain⟨x,rfl,_⟩:=a.int Tryz.underlying21;obtain⟨y,rfl,_⟩:=b.int Tryz.underlying3;exact⟨(x,y),rfl,rfl,rfl,trivial⟩
  refine⟨_,l,rfl,h1,fun hb=>?_⟩;have:=iW elems;simp only[Rows.uptoBulk] at hb;omega
end Go.Proofs.YtbdilgkfnacahaaGreat
