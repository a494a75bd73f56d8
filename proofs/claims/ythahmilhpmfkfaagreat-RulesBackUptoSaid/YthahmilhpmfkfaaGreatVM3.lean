/-
 Arguments as the row reads them are values of V; no conditions.
-/
import Derived.Test.YthahmilhpmfkfaaGreatVM2
import Derived.DataReads
import Derived.ChangeOld
import GoSem.ClaimChange
import Derived.Below
set_option linter.unusedSimpArgs false
set_option linter.unusedVariables false
set_option linter.unusedSectionVars false
set_option linter.unnecessarySimpa false
namespace Go.V
open Go.RowKit
def o9 {H:Type}:DataW H→Bool
 | .agg _=>true
 |_=>false
mutual
def xi {H:Type}:DataW H→List D
 | .lit (.bool b)=>[.bool b]
 | .lit (.int k n)=>[.int k n]
 | .lit (.string l)=>[.str l]
 | .lit _=>[.bf]
 | .nil=>[.nul]
 | .slice elems _=>[.sl (w_ elems)]
 | .agg parts=>lN parts
 | .ptr _=>[.bf]
 | .iface _ _=>[.bf]
 | .map _=>[.bf]
 | .held _=>[.bf]
def w_ {H:Type}:List (DataW H)→List D
 |[]=>[]
 |d::r=>(if o9 d then .agg (xi d) else(xi d).headD .bf)::w_ r
def lN {H:Type}:List (DataW H)→List D
 |[]=>[]
 |d::r=>xi d++lN r
end
def jn {H:Type} (d:DataW H):D:=if o9 d then .agg (xi d) else(xi d).headD .bf
theorem ta {H:Type}:∀l:List (DataW H),w_ l=l.map jn
 |[]=>rfl
 |d::r=>by simp only[w_,List.map_cons,ta r];rfl
def ti (P:Program):Nat→List Field→Option Nat
 |o,[]=>some o
 |o,f::fs=>if f.offset=o then ti P (o+P.cellsOf f.type) fs else none
def Io (P:Program):Nat→TypeId→Bool
 |0,_=>false
 |n+1,t=>match P.underlying t with
  |some .bool=>true
  |some (.int _)=>true
  |some .string=>true
  |some (.slice e)=>Io P n e &&decide (0<P.cellsOf e)
  |some (.struct fs)=>(ti P 0 fs.toList==some (P.cellsOf t)) &&fs.toList.all fun f=>Io P n f.type
  |some (.array m e)=>Io P n e &&(P.cellsOf t==m*P.cellsOf e)
  |_=>false
structure CR (w:World) (Z:Nat→Prop) (cs:List D) (vs:List Value):Prop where
 len:cs.length=vs.length
 one:∀v∈vs,v.oneCell'=true
 onec:∀c∈cs,c.cells?=some [c]
 rel:∀(i:Nat) c v,cs[i]?=some c→vs[i]?=some v→IR w Z c v
theorem CR.nil {w:World} {Z:Nat→Prop}:CR w Z [] []:=⟨rfl,by simp,by simp,by simp⟩
theorem CR.single {w:World} {Z:Nat→Prop} {c:D} {v:Value} (h:IR w Z c v) (h1:v.oneCell'=true) (h2:c.cells?=some [c]):CR w Z [c] [v]:=
 ⟨rfl,by simpa using h1,by simpa using h2,fun i c' v' hc hv=>by
  cases i with
  |zero=>simp at hc hv;subst hc;subst hv;exact h
  |succ i=>simp at hc⟩
theorem CR.append {w:World} {Z:Nat→Prop} {cs cs':List D} {vs My:List Value} (h:CR w Z cs vs) (g:CR w Z cs' My):CR w Z (cs++cs') (vs++My):=by
 refine⟨by simp[h.len,g.len],fun v hv=>?_,fun c hc=>?_,fun i c v hc hv=>?_⟩
 ·rcases List.mem_append.1 hv with hv|hv
  ·exact h.one v hv
  ·exact g.one v hv
 ·rcases List.mem_append.1 hc with hc|hc
  ·exact h.onec c hc
  ·exact g.onec c hc
 ·rw[List.getElem?_append] at hc hv;have:=h.len
  split at hc
  ·rw[if_pos (by omega)] at hv;exact h.rel i c v hc hv
  ·rw[if_neg (by omega)] at hv;rw[←this] at hv;exact g.rel _ c v hc hv
theorem x9 {H:Type} {P:Program} {w:World} {Z:Nat→Prop} {f:Field→Option (DataW H×List MemPlace)} {cs:List Value}:∀{fs:List Field} {o e:Nat} {xs:List (DataW H×List MemPlace)},ti P o fs=some e→e≤cs.length→fs.mapM f=some xs→
  (∀g∈fs,∀x,f g=some x→CR w Z (xi x.1) ((cs.drop g.offset).take (P.cellsOf g.type)))→CR w Z (lN (xs.map (·.1))) ((cs.drop o).take (e-o))∧o≤e
 |[],o,e,xs,hc,_,hm,_=>by
  simp[ti] at hc;subst hc;simp at hm;subst hm;simp[lN];exact CR.nil
 |g::fs,o,e,xs,hc,he,hm,hx=>by
  simp only[ti] at hc
  split at hc
  ·rename_i ho;rw[List.mapM_cons] at hm
   cases h1:f g with
   |none=>rw[h1] at hm;simp at hm
   |some x=>
    rw[h1] at hm
    cases h2:fs.mapM f with
    |none=>rw[h2] at hm;simp at hm
    |some ys=>
     rw[h2] at hm;simp at hm;subst hm;obtain⟨ih,hle⟩:=x9 hc he h2 fun g' Xb=>hx g' (List.mem_cons_of_mem _ Xb);have hg:=hx g (List.mem_cons_self ..) x h1;rw[ho] at hg;refine⟨?_,by omega⟩;simp only[List.map_cons,lN]
     have:(cs.drop o).take (e-o)=(cs.drop o).take (P.cellsOf g.type)++(cs.drop (o+P.cellsOf g.type)).take (e-(o+P.cellsOf g.type)):=by
      rw[←List.drop_drop,show e-o=P.cellsOf g.type+(e-(o+P.cellsOf g.type)) by omega,List.take_add]
     rw[this];exact hg.append ih
  ·cases hc
theorem za {H:Type} {w:World} {Z:Nat→Prop} {s:Nat} {f:Nat→Option (DataW H×List MemPlace)} {cs:List Value}:∀{m k:Nat} {xs:List (DataW H×List MemPlace)},(List.range' k m).mapM f=some xs→(k+m)*s≤cs.length→
  (∀i x,f i=some x→CR w Z (xi x.1) ((cs.drop (i*s)).take s))→CR w Z (lN (xs.map (·.1))) ((cs.drop (k*s)).take (m*s))
 |0,k,xs,hm,_,_=>by simp at hm;subst hm;simp[lN];exact CR.nil
 |m+1,k,xs,hm,hl,hx=>by
  rw[List.range'_succ,List.mapM_cons] at hm
  cases h1:f k with
  |none=>rw[h1] at hm;simp at hm
  |some x=>
   rw[h1] at hm
   cases h2:(List.range' (k+1) m).mapM f with
   |none=>rw[h2] at hm;simp at hm
   |some ys=>
    rw[h2] at hm;simp at hm;subst hm;have ih:=za h2 (by rw[show k+1+m=k+(m+1) by omega];exact hl) hx;simp only[List.map_cons,lN];rw[show(m+1)*s=s+m*s by rw[Nat.add_mul];omega,List.take_add,List.drop_drop,show k*s+s=(k+1)*s by rw[Nat.add_mul];omega];exact(hx k x h1).append ih
theorem cells_one {c:D} (h:c.cells?=some [c]):c.cells=[c]:=by
 cases c<;>first|rfl|cases h|(simp only[D.cells?,Option.some.injEq] at h;simpa only[D.cells] using h)
theorem zt (b off n:Nat):(⟨b,off,none⟩:Addr).add n=⟨b,off+n,none⟩:=by
 cases n<;>simp[Addr.add]
theorem q' {H:Type} {enc:TypeId×Value→H} {P:Program} {w:World} {spare:Nat→Bool} {held:Bool}:∀(fuel:Nat) (t:TypeId) (cs:List Value) (d:DataW H) (ps:List MemPlace) (n:Nat),DataW.trod enc P w 0 spare held fuel t cs=some (d,ps)→Io P n t=true→
  CR w (fun b=>b<w.heap.size) (xi d) cs∧cs.length=(match P.underlying t with|some (.struct _)|some (.array _ _)=>P.cellsOf t|_=>1)∧(o9 d=(match P.underlying t with|some (.struct _)|some (.array _ _)=>true|_=>false))
 |0,t,cs,d,ps,n,h,_=>by simp[DataW.trod] at h
 |fuel+1,t,cs,d,ps,0,h,ht=>by simp[Io] at ht
 |fuel+1,t,cs,d,ps,n+1,h,ht=>by
  simp only[Io] at ht;unfold DataW.trod at h
  cases hu:P.underlying t with
  |none=>rw[hu] at ht;simp at ht
  |some u=>
   rw[hu] at h ht
   cases u with
   |bool=>
    rcases cs with _|⟨v,_|⟨v2,cs⟩⟩<;>try(simp at h;done)
    cases v<;>simp at h
    obtain⟨rfl,rfl⟩:=h;exact⟨CR.single (.bool _) rfl rfl,rfl,rfl⟩
   |int k=>
    rcases cs with _|⟨v,_|⟨v2,cs⟩⟩<;>try(simp at h;done)
    cases v<;>simp at h
    obtain⟨⟨rfl,_⟩,rfl,rfl⟩:=h;exact⟨CR.single (.int _ _) rfl rfl,rfl,rfl⟩
   |string=>
    rcases cs with _|⟨v,_|⟨v2,cs⟩⟩<;>try(simp at h;done)
    cases v<;>simp at h
    rename_i b;obtain⟨_,rfl,rfl⟩:=h;refine⟨CR.single ?_ rfl rfl,rfl,rfl⟩;have:=IR.str (w:=w) (Z:=fun b=>b<w.heap.size) b.data.toList
    simpa using this
   |slice e=>
    simp only[Bool.and_eq_true,decide_eq_true_eq] at ht
    rcases cs with _|⟨v,_|⟨v2,cs⟩⟩<;>try(simp at h;done)
    cases v<;>try(simp at h;done)
    rename_i a len cap
    cases a with
    |none=>
     cases len<;>cases cap<;>simp at h
     obtain⟨rfl,rfl⟩:=h;exact⟨CR.single .nul rfl rfl,rfl,rfl⟩
    |some a=>
     simp only at h
     split at h
     ·rename_i hc;simp only[Option.bind_eq_some_iff,Option.map_eq_some_iff] at h;obtain⟨elems,he,rest,hr,hd⟩:=h;cases hd;refine⟨?_,rfl,rfl⟩;have hlen:elems.length=len:=by simpa using mapM_some_length he
      have hget:=mapM_some_get he
      have each:∀(i:Nat),i<len→∃x cs,elems[i]?=some x∧w.cells? 0 (a.add (i*P.cellsOf e)) (P.cellsOf e)=some cs∧CR w (fun b=>b<w.heap.size) (xi x.1) cs∧cs.length=P.cellsOf e∧(o9 x.1=(match P.underlying e with|some (.struct _)|some (.array _ _)=>true|_=>false))∧cs.length=(match P.underlying e with|some (.struct _)|some (.array _ _)=>P.cellsOf e|_=>1):=by
       intro i hi;have h1:=hget i i (by simp[hi]);have h2:elems[i]?=some (elems[i]'(by omega)):=List.getElem?_eq_getElem _;rw[h2] at h1;obtain⟨cs,hcs,hx⟩:=Option.bind_eq_some_iff.1 h1;obtain⟨q1,q2,q3⟩:=q' fuel e cs _ _ n hx ht.1;exact⟨_,cs,h2,hcs,q1,(World.cells?_some hcs).2.1,q3,q2⟩
      refine CR.single ?_ rfl rfl
      cases len with
      |zero=>
       have:elems=[]:=by cases elems with|nil=>rfl|cons _ _=>simp at hlen
       subst this;exact .emp _ _
      |succ m=>
       have hsp:a.spot=none∧a.block<w.heap.size:=by
        obtain⟨x,cs,_,h2,_,_⟩:=each 0 (by omega);refine⟨?_,?_⟩
        ·have:=(World.cells?_some h2).2.2 0 ht.2;have hl:=(World.cells?_some h2).2.1
         obtain⟨c0,Oa⟩:∃c0,cs[0]?=some c0:=⟨cs[0]'(by omega),List.getElem?_eq_getElem _⟩
         rw[Oa] at this
         simpa[Addr.add] using World.cell?_spot this
        ·simpa[Addr.add] using World.cells?_block h2 ht.2
       obtain⟨b,off,spot⟩:=a;simp only at hsp;obtain⟨rfl,hb⟩:=hsp
       have hcell:∀(i j:Nat),i<m+1→j<P.cellsOf e→∃x cs v,elems[i]?=some x∧cs[j]?=some v∧w.cell? ⟨b,off+(i*P.cellsOf e+j),none⟩=some v∧CR w (fun b=>b<w.heap.size) (xi x.1) cs:=by
        intro i j hi hj;obtain⟨x,cs,h1,h2,h3,h4,_⟩:=each i hi;have:=(World.cells?_some h2).2.2 j hj
        obtain⟨v,hv⟩:∃v,cs[j]?=some v:=⟨cs[j]'(by omega),List.getElem?_eq_getElem _⟩
        rw[hv] at this;refine⟨x,cs,v,h1,hv,?_,h3⟩;rw[←this,zt,zt,Nat.add_assoc]
       have u9:(w_ (elems.map (·.1)))=elems.map fun x=>jn x.1:=by rw[ta,List.map_map];rfl
       have hE:∀(i:Nat) q,(w_ (elems.map (·.1)))[i]?=some q→∃x cs,i<m+1∧elems[i]?=some x∧q.cells?=some q.cells∧q.cells=xi x.1∧CR w (fun b=>b<w.heap.size) (xi x.1) cs∧cs.length=P.cellsOf e:=by
        intro i q hq;rw[u9,List.getElem?_map] at hq;obtain⟨x,hx,rfl⟩:=Option.map_eq_some_iff.1 hq
        have hi:i<m+1:=by
         rcases Nat.lt_or_ge i (m+1) with h'|h'
         ·exact h'
         ·rw[List.getElem?_eq_none (by omega)] at hx;cases hx
        obtain⟨x',cs,h1,h2,h3,h4,h5,h6⟩:=each i hi;rw[hx] at h1;cases h1;refine⟨x,cs,hi,hx,?_,?_,h3,h4⟩
        ·unfold jn
         split
         ·rfl
         ·rename_i Lh
          have u7:(xi x.1).length=1:=by
           rw[h3.len,h6];rw[h5] at Lh
           revert Lh
           split<;>simp
          match hd:xi x.1,u7 with
          |[c],_=>have:=h3.onec c (by rw[hd];simp);simp only[List.headD_cons];rw[cells_one this];exact this
        ·unfold jn
         split
         ·rfl
         ·rename_i Lh
          have u7:(xi x.1).length=1:=by
           rw[h3.len,h6];rw[h5] at Lh
           revert Lh
           split<;>simp
          match hd:xi x.1,u7 with
          |[c],_=>have:=h3.onec c (by rw[hd];simp);simp only[List.headD_cons];exact cells_one this
       have hL:(w_ (elems.map (·.1))).length=m+1:=by rw[u9];simp[hlen]
       have hf:=fun(i j:Nat) (hi:i<m+1) (hj:j<P.cellsOf e)=>hcell i j hi hj;have:=IR.sl (w:=w) (Z:=fun b=>b<w.heap.size) (w_ (elems.map (·.1))) b off cap (P.cellsOf e) (fun i j=>(w.cell? ⟨b,off+(i*P.cellsOf e+j),none⟩).getD undef) hb (by rw[hL];exact hc.2.1)
        (fun i q hq=>by
         obtain⟨x,cs,h1,h2,h3,h4,h5,h6⟩:=hE i q hq
         exact⟨h3,by rw[h4,h5.len,h6]⟩)
        (fun i q j c hq hj=>by
         obtain⟨x,cs,h1,h2,h3,h4,h5,h6⟩:=hE i q hq
         have hjl:j<P.cellsOf e:=by
          rcases Nat.lt_or_ge j (P.cellsOf e) with h'|h'
          ·exact h'
          ·rw[h4,List.getElem?_eq_none (by rw[h5.len,h6];exact h')] at hj;cases hj
         obtain⟨x',cs',v,g1,g2,g3,g4⟩:=hf i j h1 hjl;rw[g3]
         exact⟨rfl,g4.one v (List.mem_of_getElem? g2)⟩)
        (fun i q j c hq hj=>by
         obtain⟨x,cs,h1,h2,h3,h4,h5,h6⟩:=hE i q hq
         have hjl:j<P.cellsOf e:=by
          rcases Nat.lt_or_ge j (P.cellsOf e) with h'|h'
          ·exact h'
          ·rw[h4,List.getElem?_eq_none (by rw[h5.len,h6];exact h')] at hj;cases hj
         obtain⟨x',cs',v,g1,g2,g3,g4⟩:=hf i j h1 hjl;rw[g3];rw[h2] at g1;cases g1
         exact g4.rel j c v (by rw[←h4];exact hj) g2)
       rw[hL] at this;exact this
     ·cases h
   |struct fs=>
    simp only[Bool.and_eq_true,beq_iff_eq,List.all_eq_true] at ht;simp only at h
    split at h
    ·rename_i hl;obtain⟨xs,hx,hd⟩:=Option.map_eq_some_iff.1 h;cases hd;refine⟨?_,hl,rfl⟩;obtain⟨h1,_⟩:=x9 (w:=w) (Z:=fun b=>b<w.heap.size) (cs:=cs) ht.1 (by omega) hx fun g hg x W9=>(q' fuel g.type _ _ _ n W9 (ht.2 g hg)).1;rw[List.drop_zero,Nat.sub_zero,←hl,List.take_length] at h1;exact h1
    ·cases h
   |array m e=>
    simp only[Bool.and_eq_true,beq_iff_eq] at ht;simp only at h
    split at h
    ·rename_i hl;obtain⟨xs,hx,hd⟩:=Option.map_eq_some_iff.1 h;cases hd;refine⟨?_,hl,rfl⟩;rw[List.range_eq_range'] at hx;have h1:=za (w:=w) (Z:=fun b=>b<w.heap.size) (s:=P.cellsOf e) (cs:=cs) hx (by rw[Nat.zero_add,←ht.2,hl];exact Nat.le_refl _) fun i x WZ=>(q' fuel e _ _ _ n WZ ht.1).1;rw[Nat.zero_mul,List.drop_zero,←ht.2,←hl,List.take_length] at h1;exact h1
    ·cases h
   |_=>simp at ht
theorem HQ {H:Type} {enc:TypeId×Value→H} {P:Program} {w:World} {spare:Nat→Bool} {held:Bool} {r:Reach} {base:Nat} {t:TypeId} {v:Value} {d:DataW H} {ps:List MemPlace} {n:Nat} (h:DataW.Trod enc P w 0 spare held t v d ps) (ht:Io P n t=true) (hv:Value.okWide P w r base t v):
  IR w (fun b=>b<w.heap.size) (jn d) v:=by
 obtain⟨fuel,hf⟩:=h;obtain⟨h1,h2,h3⟩:=q' fuel t _ d ps n hf ht
 have hu:∃u,P.underlying t=some u:=by
  cases n with
  |zero=>simp[Io] at ht
  |succ n=>
   simp only[Io] at ht
   cases hu:P.underlying t with
   |none=>rw[hu] at ht;simp at ht
   |some u=>exact⟨u,rfl⟩
 obtain⟨u,hu⟩:=hu;unfold Value.okWide at hv;rw[hu] at hv h2 h3
 have Of:(∃cs:Array Value,v=.agg cs)→o9 d=true→IR w (fun b=>b<w.heap.size) (jn d) v:=by
  rintro⟨cs,rfl⟩ hd;unfold jn;rw[if_pos hd];have:=IR.agg (w:=w) (Z:=fun b=>b<w.heap.size) (xi d) cs.toList (by simpa[Value.cells] using h1.len) (by simpa[Value.cells] using h1.one) (by simpa[Value.cells] using h1.rel)
  simpa using this
 have kH:o9 d=false→v.cells.toList.length=1→(∀cs,v≠.agg cs)→IR w (fun b=>b<w.heap.size) (jn d) v:=by
  intro hd hl Lh;unfold jn;rw[if_neg (by rw[hd];simp)]
  have hc:v.cells.toList=[v]:=by cases v<;>first|rfl|exact absurd rfl (Lh _)
  rw[hc] at h1
  match hq:xi d,h1.len with
  |[c],_=>exact h1.rel 0 c v (by rw[hq];rfl) rfl
 have hcell:Cell.okWide P w r base t v→∀cs,v≠.agg cs:=by
  rintro hc cs rfl;unfold Cell.okWide at hc;rw[hu] at hc;cases u<;>simp[Cell.ok,hu] at hc
 cases u with
 |struct fs=>obtain⟨cs,h,_⟩:=hv;exact Of ⟨cs,h⟩ h3
 |array m e=>obtain⟨cs,h,_⟩:=hv;exact Of ⟨cs,h⟩ h3
 |_=>exact kH h3 h2 (hcell hv)
end Go.V
namespace Go.V
open Go.RowKit
theorem DB {pv:Pv} {P:Program} (h:pv.Ok P∧pv.gC∧gx P pv (dJ pv)) {f:Nat} {ds:List D} {ah:St} (hs:Ev pv f ds ⟨[],0,0⟩ (.bool true) ah) {w:World} {us:List Value} (hl:ds.length=us.length)
  (hr:∀(i:Nat) c v,ds[i]?=some c→us[i]?=some v→IR w (fun b=>b<w.heap.size) c v):Calls P f us.toArray w fun e w'=>e=.returned (.bool true)∧Below w.heap.size w w':=by
 obtain⟨N,hN⟩:=Ev.out hs;refine(sound h (hN N (Nat.le_refl _)) (w:=w) (Z:=fun b=>b<w.heap.size) (fun _ h=>h) hl hr).mono fun e w'=>?_;rintro⟨v,β',Z',rfl,he,hv⟩;rw[dS hv];exact⟨rfl,⟨he.os,he.tape,he.output,he.size,fun k hk=>he.block k hk fun f=>f⟩⟩
end Go.V
namespace Go.V
open Go.RowKit
def Rd {H:Type} (enc:TypeId×Value→H) (P:Program) (w:World) (spare:Nat→Bool) (held:Bool) (t:TypeId) (d:DataW H):Prop:=
 ∃fuel cs ps,DataW.trod enc P w 0 spare held fuel t cs=some (d,ps)
section
variable{H:Type} {enc:TypeId×Value→H} {P:Program} {w:World} {spare:Nat→Bool} {held:Bool} {t e:TypeId} {d:DataW H}
theorem Rd.of {v:Value} {ps:List MemPlace} (h:DataW.Trod enc P w 0 spare held t v d ps):Rd enc P w spare held t d:=by
 obtain⟨fuel,h⟩:=h;exact⟨fuel,_,_,h⟩
theorem Rd.int {k:IntKind} (h:Rd enc P w spare held t d) (ht:P.underlying t=some (.int k)):∃n:Int,d=.lit (.int k n)∧(Lit.int k n).wf=true:=by
 obtain⟨fuel,cs,ps,h⟩:=h
 cases fuel with
 |zero=>simp[DataW.trod] at h
 |succ fuel=>
  unfold DataW.trod at h;rw[ht] at h
  rcases cs with _|⟨v,_|⟨v2,cs⟩⟩<;>try(simp at h;done)
  cases v<;>simp at h
  obtain⟨⟨rfl,hw⟩,rfl,_⟩:=h;exact⟨_,rfl,hw⟩
theorem Rd.bool (h:Rd enc P w spare held t d) (ht:P.underlying t=some .bool):∃b:Bool,d=.lit (.bool b):=by
 obtain⟨fuel,cs,ps,h⟩:=h
 cases fuel with
 |zero=>simp[DataW.trod] at h
 |succ fuel=>
  unfold DataW.trod at h;rw[ht] at h
  rcases cs with _|⟨v,_|⟨v2,cs⟩⟩<;>try(simp at h;done)
  cases v<;>simp at h
  obtain⟨rfl,_⟩:=h;exact⟨_,rfl⟩
theorem Rd.string (h:Rd enc P w spare held t d) (ht:P.underlying t=some .string):∃l:List UInt8,d=.lit (.string l):=by
 obtain⟨fuel,cs,ps,h⟩:=h
 cases fuel with
 |zero=>simp[DataW.trod] at h
 |succ fuel=>
  unfold DataW.trod at h;rw[ht] at h
  rcases cs with _|⟨v,_|⟨v2,cs⟩⟩<;>try(simp at h;done)
  cases v<;>simp at h
  obtain⟨_,rfl,_⟩:=h;exact⟨_,rfl⟩
theorem Rd.slice (h:Rd enc P w spare held t d) (ht:P.underlying t=some (.slice e)):d=.nil∨∃elems rest,d=.slice elems rest∧∀x∈elems,Rd enc P w spare held e x:=by
 obtain⟨fuel,cs,ps,h⟩:=h
 cases fuel with
 |zero=>simp[DataW.trod] at h
 |succ fuel=>
  unfold DataW.trod at h;rw[ht] at h
  rcases cs with _|⟨v,_|⟨v2,cs⟩⟩<;>try(simp at h;done)
  cases v<;>try(simp at h;done)
  rename_i a len cap
  cases a with
  |none=>
   cases len<;>cases cap<;>simp at h
   obtain⟨rfl,rfl⟩:=h;exact .inl rfl
  |some a=>
   simp only at h
   split at h
   ·simp only[Option.bind_eq_some_iff,Option.map_eq_some_iff] at h;obtain⟨elems,hm,rest,hr,hd⟩:=h;cases hd;refine .inr ⟨_,_,rfl,fun x hx=>?_⟩;obtain⟨y,hy,rfl⟩:=List.mem_map.1 hx;have hlen:elems.length=len:=by simpa using mapM_some_length hm
    have hget:=mapM_some_get hm;obtain⟨i,hi⟩:=List.getElem?_of_mem hy;have hil:i<len:=by have:=bX hi;omega
    have h1:=hget i i (by simp[hil]);rw[hi] at h1;obtain⟨cs,_,hx⟩:=Option.bind_eq_some_iff.1 h1;exact⟨fuel,cs,y.2,hx⟩
   ·cases h
theorem oW {α β:Type} {f:α→Option β}:∀{l:List α} {m:List β},l.mapM f=some m→cN (fun a b=>f a=some b) l m
 |[],m,h=>by simp at h;subst h;exact .nil
 |a::l,m,h=>by
  rw[List.mapM_cons] at h
  cases h1:f a with
  |none=>rw[h1] at h;simp at h
  |some b=>
   rw[h1] at h
   cases h2:l.mapM f with
   |none=>rw[h2] at h;simp at h
   |some ys=>rw[h2] at h;simp at h;subst h;exact .cons h1 (oW h2)
theorem cN.M4 {α β γ:Type} {R:α→γ→Prop} {f:β→γ}:∀{l:List α} {m:List β},cN (fun a b=>R a (f b)) l m→cN R l (m.map f)
 |_,_,.nil=>.nil
 |_,_,.cons a t=>.cons a t.M4
theorem Rd.struct {fs:Array Field} (h:Rd enc P w spare held t d) (ht:P.underlying t=some (.struct fs)):∃parts,d=.agg parts∧cN (fun(f:Field) x=>Rd enc P w spare held f.type x) fs.toList parts:=by
 obtain⟨fuel,cs,ps,h⟩:=h
 cases fuel with
 |zero=>simp[DataW.trod] at h
 |succ fuel=>
  unfold DataW.trod at h;rw[ht] at h;simp only at h
  split at h
  ·obtain⟨xs,hx,hd⟩:=Option.map_eq_some_iff.1 h;cases hd;refine⟨_,rfl,?_⟩;exact((oW hx).mono fun f x RB=>(⟨fuel,_,_,RB⟩:Rd enc P w spare held f.type x.1)).M4
  ·cases h
theorem Rd.array {n:Nat} (h:Rd enc P w spare held t d) (ht:P.underlying t=some (.array n e)):∃parts,d=.agg parts∧parts.length=n∧∀x∈parts,Rd enc P w spare held e x:=by
 obtain⟨fuel,cs,ps,h⟩:=h
 cases fuel with
 |zero=>simp[DataW.trod] at h
 |succ fuel=>
  unfold DataW.trod at h;rw[ht] at h;simp only at h
  split at h
  ·obtain⟨xs,hx,hd⟩:=Option.map_eq_some_iff.1 h;cases hd;have h1:=oW hx;refine⟨_,rfl,by have:=h1.len;simp at this;simp[←this],fun x Qj=>?_⟩;obtain⟨y,hy,rfl⟩:=List.mem_map.1 Qj
   have key:∀{l:List Nat} {m:List (DataW H×List MemPlace)},cN (fun i x=>DataW.trod enc P w 0 spare held fuel e ((cs.drop (i*P.cellsOf e)).take (P.cellsOf e))=some x) l m→∀y∈m,Rd enc P w spare held e y.1:=by
    intro l m h
    induction h with
    |nil=>intro y hy;cases hy
    |cons a t ih=>
     intro y hy
     rcases List.mem_cons.1 hy with rfl|hy
     ·exact⟨fuel,_,_,a⟩
     ·exact ih y hy
   exact key h1 y hy
  ·cases h
end
theorem MG {H α:Type} {s:Nat} {f:α→List D} {Q:α→DataW H→Prop} {elems rest:List (DataW H)} (h:∀x∈elems,∃a,(jn x).cells?=some (jn x).cells∧(jn x).cells=f a∧(f a).length=s∧Q a x):
  ∃ws:List α,gY (jn (.slice elems rest)) s (ws.map f)∧ws.length=elems.length∧∀a∈ws,∃x∈elems,Q a x:=by
 have key:∃ws:List α,(elems.map jn).map D.cells=ws.map f∧(∀d∈elems.map jn,d.cells?=some d.cells∧d.cells.length=s)∧ws.length=elems.length∧∀a∈ws,∃x∈elems,Q a x:=by
  induction elems with
  |nil=>exact⟨[],rfl,fun d hd=>(by cases hd),rfl,fun a ha=>by cases ha⟩
  |cons x l ih=>
   obtain⟨ws,h1,h2,h3,h4⟩:=ih fun y hy=>h y (List.mem_cons_of_mem _ hy);obtain⟨a,g1,g2,g3,g4⟩:=h x (List.mem_cons_self ..);refine⟨a::ws,by simp only[List.map_cons,h1,g2],fun d hd=>?_,by simp[h3],fun b hb=>?_⟩
   ·simp only[List.map_cons,List.mem_cons] at hd
    rcases hd with rfl|hd
    ·exact⟨g1,by rw[g2];exact g3⟩
    ·exact h2 d hd
   ·rcases List.mem_cons.1 hb with rfl|hb
    ·exact⟨x,List.mem_cons_self ..,g4⟩
    ·obtain⟨y,hy,hq⟩:=h4 b hb;exact⟨y,List.mem_cons_of_mem _ hy,hq⟩
 obtain⟨ws,h1,h2,h3,h4⟩:=key;refine⟨ws,.inr ⟨elems.map jn,?_,h1,h2⟩,h3,h4⟩;show D.sl (w_ elems)=_;rw[ta]
end Go.V
