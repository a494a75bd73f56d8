/-
 Arguments as the row reads them are values of V; no conditions.
-/
import Derived.Test.YtappgjdiplibbaaGreatYM2
import Derived.DataReads
import Derived.ChangeOld
import GoSem.ClaimChange
import Derived.Below
set_option linter.all false
open Option renaming map_eq_some_iff->δ,bind_eq_some_iff->ζ
open Go.DataW renaming trod->ε,Trod->χ
open Go.World renaming cells?_some->η
open List renaming getElem?_eq_getElem->θ,getElem?_eq_none->ι,mem_cons_of_mem->κ,mem_cons_self->μ,mapM_cons->ν,take_length->ο,mem_append->π,drop_drop->ρ,drop_zero->ς,map_cons->τ,mem_cons->υ,take_add->φ,range'->ψ
open Nat renaming lt_or_ge->ξ,add_mul->ω,le_refl->Γ
namespace Go.V
open Go.RowKit
def sY {H:Type}:DataW H->Bool
 | .agg _=>true
 |_=>false
mutual
def BI {H:Type}:DataW H->List D
 | .lit (.bool b)=>[.bool b]
 | .lit (.int k n)=>[.int k n]
 | .lit (.string l)=>[.str l]
 | .lit _=>[.cT]
 | .nil=>[.nul]
 | .slice elems _=>[.sl (Bp elems)]
 | .agg parts=>nZ parts
 | .ptr _=>[.cT]
 | .iface _ _=>[.cT]
 | .map _=>[.cT]
 | .held _=>[.cT]
def Bp {H:Type}:List (DataW H)->List D
 |[]=>[]
 |d::r=>(if sY d then .agg (BI d) else(BI d).headD .cT)::Bp r
def nZ {H:Type}:List (DataW H)->List D
 |[]=>[]
 |d::r=>BI d++nZ r
end
def ku {H:Type} (d:DataW H):D:=if sY d then .agg (BI d) else(BI d).headD .cT
theorem w8 {H:Type}:∀l:List (DataW H),Bp l=l.map ku
 |[]=>rfl
 |d::r=>by simp only[Bp,τ,w8 r];rfl
def xb (P:Program):Nat->List Field->Option Nat
 |o,[]=>some o
 |o,f::fs=>if f.offset=o then xb P (o+P.cellsOf f.type) fs else none
def On (P:Program):Nat->TypeId->Bool
 |0,_=>false
 |n+1,t=>match P.underlying t with
  |some .bool=>true
  |some (.int _)=>true
  |some .string=>true
  |some (.slice e)=>On P n e &&decide (0<P.cellsOf e)
  |some (.struct fs)=>(xb P 0 fs.toList==some (P.cellsOf t)) &&fs.toList.all λf=>On P n f.type
  |some (.array m e)=>On P n e &&(P.cellsOf t==m*P.cellsOf e)
  |_=>false
structure CR (w:World) (Z:Nat->Prop) (cs:List D) (vs:List Value):Prop where
 len:cs.length=vs.length
 one:∀v∈vs,v.oneCell'=true
 onec:∀c∈cs,c.cells?=some [c]
 rel:∀(i:Nat) c v,cs[i]?=some c->vs[i]?=some v->IR w Z c v
variable{w:World}{Z:Nat->Prop}
def CR.nil:CR w Z [] []:=⟨rfl,by simp,by simp,by simp⟩
variable{c:D}{v:Value}
def CR.single (h:IR w Z c v) (h1:v.oneCell'=true) (X:c.cells?=some [c]):CR w Z [c] [v]:=
 ⟨rfl,by simpa using h1,by simpa using X,λi c' v' hc hv=>by
  cases i with
  |zero=>simp at hc hv;subst hc;subst hv;exact h
  |succ i=>simp at hc⟩
def CR.append {cs cs':List D} {vs UD:List Value} (h:CR w Z cs vs) (g:CR w Z cs' UD):CR w Z (cs++cs') (vs++UD):=by
 refine⟨by simp[h.len,g.len],λv hv=>?_,λc hc=>?_,λi c v hc hv=>?_⟩
 .rcases π.1 hv with hv|hv
  .exact h.one v hv
  .exact g.one v hv
 .rcases π.1 hc with hc|hc
  .exact h.onec c hc
  .exact g.onec c hc
 .rw[List.getElem?_append] at hc hv;have:=h.len
  split at hc
  .rw[if_pos (by omega)] at hv;exact h.rel i c v hc hv
  .rw[if_neg (by omega)] at hv;rw[<-this] at hv;exact g.rel _ c v hc hv
def CA {H:Type} {P:Program} {w:World} {Z:Nat->Prop} {f:Field->Option (DataW H×List MemPlace)} {cs:List Value}:∀{fs:List Field} {o e:Nat} {xs:List (DataW H×List MemPlace)},xb P o fs=some e->e<=cs.length->fs.mapM f=some xs->
  (∀g∈fs,∀x,f g=some x->CR w Z (BI x.1) ((cs.drop g.offset).take (P.cellsOf g.type)))->CR w Z (nZ (xs.map (·.1))) ((cs.drop o).take (e-o))/\o<=e
 |[],o,e,xs,hc,_,hm,_=>by
  simp[xb] at hc;subst hc;simp at hm;subst hm;simp[nZ];exact CR.nil
 |g::fs,o,e,xs,hc,he,hm,hx=>by
  simp only[xb] at hc
  split at hc
  .rename_i ho;rw[ν] at hm
   cases h1:f g with
   |none=>rw[h1] at hm;simp at hm
   |some x=>
    rw[h1] at hm
    cases X:fs.mapM f with
    |none=>rw[X] at hm;simp at hm
    |some ys=>
     rw[X] at hm;simp at hm;subst hm;obtain⟨ih,hle⟩:=CA hc he X λg' hg'=>hx g' (κ _ hg');have hg:=hx g (μ ..) x h1;rw[ho] at hg;refine⟨?_,by omega⟩;simp[nZ]
     have:(cs.drop o).take (e-o)=(cs.drop o).take (P.cellsOf g.type)++(cs.drop (o+P.cellsOf g.type)).take (e-(o+P.cellsOf g.type)):=by
      rw[<-ρ,show e-o=P.cellsOf g.type+(e-(o+P.cellsOf g.type)) by omega,φ]
     rw[this];exact hg.append ih
  .cases hc
def DN {H:Type} {w:World} {Z:Nat->Prop} {s:Nat} {f:Nat->Option (DataW H×List MemPlace)} {cs:List Value}:∀{m k:Nat} {xs:List (DataW H×List MemPlace)},(ψ k m).mapM f=some xs->(k+m)*s<=cs.length->
  (∀i x,f i=some x->CR w Z (BI x.1) ((cs.drop (i*s)).take s))->CR w Z (nZ (xs.map (·.1))) ((cs.drop (k*s)).take (m*s))
 |0,k,xs,hm,_,_=>by simp at hm;subst hm;simp[nZ];exact CR.nil
 |m+1,k,xs,hm,hl,hx=>by
  rw[List.range'_succ,ν] at hm
  cases h1:f k with
  |none=>rw[h1] at hm;simp at hm
  |some x=>
   rw[h1] at hm
   cases X:(ψ (k+1) m).mapM f with
   |none=>rw[X] at hm;simp at hm
   |some ys=>
    rw[X] at hm;simp at hm;subst hm;have ih:=DN X (by rw[show k+1+m=k+(m+1) by omega];exact hl) hx;simp[nZ];rw[show(m+1)*s=s+m*s by rw[ω];omega,φ,ρ,show k*s+s=(k+1)*s by rw[ω];omega];exact(hx k x h1).append ih
def cells_one (h:c.cells?=some [c]):c.cells=[c]:=by
 cases c<;>first|rfl|cases h|(simp only[D.cells?,Option.some.injEq] at h;simpa only[D.cells] using h)
def Ea (b off n:Nat):(⟨b,off,none⟩:Addr).add n=⟨b,off+n,none⟩:=by
 cases n<;>simp[Addr.add]
def uJ {H:Type} {enc:TypeId×Value->H} {P:Program} {w:World} {spare:Nat->Bool} {held:Bool}:∀(fuel:Nat) (t:TypeId) (cs:List Value) (d:DataW H) (ps:List MemPlace) (n:Nat),ε enc P w 0 spare held fuel t cs=some (d,ps)->On P n t=true->
  CR w (λb=>b<w.heap.size) (BI d) cs/\cs.length=(match P.underlying t with|some (.struct _)|some (.array _ _)=>P.cellsOf t|_=>1)/\(sY d=(match P.underlying t with|some (.struct _)|some (.array _ _)=>true|_=>false))
 |0,t,cs,d,ps,n,h,_=>by simp[ε] at h
 |fuel+1,t,cs,d,ps,0,h,ht=>by simp[On] at ht
 |fuel+1,t,cs,d,ps,n+1,h,ht=>by
  simp only[On] at ht;unfold ε at h
  cases hu:P.underlying t with
  |none=>rw[hu] at ht;simp at ht
  |some aa=>
   rw[hu] at h ht
   cases aa with
   |bool=>
    rcases cs with _|⟨v,_|⟨v2,cs⟩⟩<;>try(simp at h;done)
    cases v<;>simp at h
    obtain⟨rfl,rfl⟩:=h;exact⟨CR.single (.bool _) rfl rfl,rfl,rfl⟩
   |int k=>
    rcases cs with _|⟨v,_|⟨v2,cs⟩⟩<;>try(simp at h;done)
    cases v<;>simp at h
    obtain⟨⟨rfl,_⟩,rfl,rfl⟩:=h;exact⟨CR.single (.int _ _) rfl rfl,rfl,rfl⟩
   |string=>
    rcases cs with _|⟨v,_|⟨v2,cs⟩⟩<;>try(simp at h;done)
    cases v<;>simp at h
    rename_i b;obtain⟨_,rfl,rfl⟩:=h;refine⟨CR.single ?_ rfl rfl,rfl,rfl⟩;have:=IR.str (w:=w) (Z:=λb=>b<w.heap.size) b.data.toList
    simpa using this
   |slice e=>
    simp at ht
    rcases cs with _|⟨v,_|⟨v2,cs⟩⟩<;>try(simp at h;done)
    cases v<;>try(simp at h;done)
    rename_i a len cap
    cases a with
    |none=>
     cases len<;>cases cap<;>simp at h
     obtain⟨rfl,rfl⟩:=h;exact⟨CR.single .nul rfl rfl,rfl,rfl⟩
    |some a=>
     simp only at h
     split at h
     .rename_i hc;simp only[ζ,δ] at h;obtain⟨elems,he,rest,hr,hd⟩:=h;cases hd;refine⟨?_,rfl,rfl⟩;have hlen:elems.length=len:=by simpa using mapM_some_length he
      have hget:=mapM_some_get he
      have each:∀(i:Nat),i<len->∃x cs,elems[i]?=some x/\w.cells? 0 (a.add (i*P.cellsOf e)) (P.cellsOf e)=some cs/\CR w (λb=>b<w.heap.size) (BI x.1) cs/\cs.length=P.cellsOf e/\(sY x.1=(match P.underlying e with|some (.struct _)|some (.array _ _)=>true|_=>false))/\cs.length=(match P.underlying e with|some (.struct _)|some (.array _ _)=>P.cellsOf e|_=>1):=by
       intro i hi;have h1:=hget i i (by simp[hi]);have X:elems[i]?=some (elems[i]'(by omega)):=θ _;rw[X] at h1;obtain⟨cs,hcs,hx⟩:=ζ.1 h1;obtain⟨q1,q2,q3⟩:=uJ fuel e cs _ _ n hx ht.1;exact⟨_,cs,X,hcs,q1,(η hcs).2.1,q3,q2⟩
      refine CR.single ?_ rfl rfl
      cases len with
      |zero=>
       have:elems=[]:=by cases elems with|nil=>rfl|cons _ _=>simp at hlen
       subst this;exact .emp _ _
      |succ m=>
       have hsp:a.spot=none/\a.block<w.heap.size:=by
        obtain⟨x,cs,_,X,_,_⟩:=each 0 (by omega);refine⟨?_,?_⟩
        .have:=(η X).2.2 0 ht.2;have hl:=(η X).2.1
         obtain⟨c0,SE⟩:∃c0,cs[0]?=some c0:=⟨cs[0]'(by omega),θ _⟩
         rw[SE] at this
         simpa[Addr.add] using World.cell?_spot this
        .simpa[Addr.add] using World.cells?_block X ht.2
       obtain⟨b,off,spot⟩:=a;simp only at hsp;obtain⟨rfl,F⟩:=hsp
       have hcell:∀(i j:Nat),i<m+1->j<P.cellsOf e->∃x cs v,elems[i]?=some x/\cs[j]?=some v/\w.cell? ⟨b,off+(i*P.cellsOf e+j),none⟩=some v/\CR w (λb=>b<w.heap.size) (BI x.1) cs:=by
        intro i j hi hj;obtain⟨x,cs,h1,X,h3,h4,_⟩:=each i hi;have:=(η X).2.2 j hj
        obtain⟨v,hv⟩:∃v,cs[j]?=some v:=⟨cs[j]'(by omega),θ _⟩
        rw[hv] at this;refine⟨x,cs,v,h1,hv,?_,h3⟩;rw[<-this,Ea,Ea,Nat.add_assoc]
       have sE:(Bp (elems.map (·.1)))=elems.map λx=>ku x.1:=by rw[w8,List.map_map];rfl
       have hE:∀(i:Nat) q,(Bp (elems.map (·.1)))[i]?=some q->∃x cs,i<m+1/\elems[i]?=some x/\q.cells?=some q.cells/\q.cells=BI x.1/\CR w (λb=>b<w.heap.size) (BI x.1) cs/\cs.length=P.cellsOf e:=by
        intro i q hq;rw[sE,List.getElem?_map] at hq;obtain⟨x,hx,rfl⟩:=δ.1 hq
        have hi:i<m+1:=by
         rcases ξ i (m+1) with h'|h'
         .exact h'
         .rw[ι (by omega)] at hx;cases hx
        obtain⟨x',cs,h1,X,h3,h4,h5,h6⟩:=each i hi;rw[hx] at h1;cases h1;refine⟨x,cs,hi,hx,?_,?_,h3,h4⟩
        .unfold ku
         split
         .rfl
         .rename_i Sf
          have A6:(BI x.1).length=1:=by
           rw[h3.len,h6];rw[h5] at Sf
           revert Sf
           split<;>simp
          match hd:BI x.1,A6 with
          |[c],_=>have:=h3.onec c (by rw[hd];simp);simp;rw[cells_one this];exact this
        .unfold ku
         split
         .rfl
         .rename_i Sf
          have A6:(BI x.1).length=1:=by
           rw[h3.len,h6];rw[h5] at Sf
           revert Sf
           split<;>simp
          match hd:BI x.1,A6 with
          |[c],_=>have:=h3.onec c (by rw[hd];simp);simp;exact cells_one this
       have hL:(Bp (elems.map (·.1))).length=m+1:=by rw[sE];simp[hlen]
       have hf:=λ(i j:Nat) (hi:i<m+1) (hj:j<P.cellsOf e)=>hcell i j hi hj;have:=IR.sl (w:=w) (Z:=λb=>b<w.heap.size) (Bp (elems.map (·.1))) b off cap (P.cellsOf e) (λi j=>(w.cell? ⟨b,off+(i*P.cellsOf e+j),none⟩).getD undef) F (by rw[hL];exact hc.2.1)
        (λi q hq=>by
         obtain⟨x,cs,h1,X,h3,h4,h5,h6⟩:=hE i q hq
         exact⟨h3,by rw[h4,h5.len,h6]⟩)
        (λi q j c hq hj=>by
         obtain⟨x,cs,h1,X,h3,h4,h5,h6⟩:=hE i q hq
         have hjl:j<P.cellsOf e:=by
          rcases ξ j (P.cellsOf e) with h'|h'
          .exact h'
          .rw[h4,ι (by rw[h5.len,h6];exact h')] at hj;cases hj
         obtain⟨x',cs',v,g1,g2,g3,g4⟩:=hf i j h1 hjl;rw[g3]
         exact⟨rfl,g4.one v (List.mem_of_getElem? g2)⟩)
        (λi q j c hq hj=>by
         obtain⟨x,cs,h1,X,h3,h4,h5,h6⟩:=hE i q hq
         have hjl:j<P.cellsOf e:=by
          rcases ξ j (P.cellsOf e) with h'|h'
          .exact h'
          .rw[h4,ι (by rw[h5.len,h6];exact h')] at hj;cases hj
         obtain⟨x',cs',v,g1,g2,g3,g4⟩:=hf i j h1 hjl;rw[g3];rw[X] at g1;cases g1
         exact g4.rel j c v (by rw[<-h4];exact hj) g2)
       rw[hL] at this;exact this
     .cases h
   |struct fs=>
    simp only[Bool.and_eq_true,beq_iff_eq,List.all_eq_true] at ht;simp only at h
    split at h
    .rename_i hl;obtain⟨xs,hx,hd⟩:=δ.1 h;cases hd;refine⟨?_,hl,rfl⟩;obtain⟨h1,_⟩:=CA (w:=w) (Z:=λb=>b<w.heap.size) (cs:=cs) ht.1 (by omega) hx λg hg x hgx=>(uJ fuel g.type _ _ _ n hgx (ht.2 g hg)).1;rw[ς,Nat.sub_zero,<-hl,ο] at h1;exact h1
    .cases h
   |array m e=>
    simp at ht;simp only at h
    split at h
    .rename_i hl;obtain⟨xs,hx,hd⟩:=δ.1 h;cases hd;refine⟨?_,hl,rfl⟩;rw[List.range_eq_range'] at hx;have h1:=DN (w:=w) (Z:=λb=>b<w.heap.size) (s:=P.cellsOf e) (cs:=cs) hx (by rw[Nat.zero_add,<-ht.2,hl];exact Γ _) λi x hix=>(uJ fuel e _ _ _ n hix ht.1).1;rw[Nat.zero_mul,ς,<-ht.2,<-hl,ο] at h1;exact h1
    .cases h
   |_=>simp at ht
variable{P:Program}
def NQ {H:Type} {enc:TypeId×Value->H} {spare:Nat->Bool} {held:Bool} {r:Reach} {base:Nat} {t:TypeId} {d:DataW H} {ps:List MemPlace} {n:Nat} (h:χ enc P w 0 spare held t v d ps) (ht:On P n t=true) (hv:Value.okWide P w r base t v):
  IR w (λb=>b<w.heap.size) (ku d) v:=by
 obtain⟨fuel,hf⟩:=h;obtain⟨h1,X,h3⟩:=uJ fuel t _ d ps n hf ht
 have hu:∃aa,P.underlying t=some aa:=by
  cases n with
  |zero=>simp[On] at ht
  |succ n=>
   simp only[On] at ht
   cases hu:P.underlying t with
   |none=>rw[hu] at ht;simp at ht
   |some aa=>exact⟨aa,rfl⟩
 obtain⟨aa,hu⟩:=hu;unfold Value.okWide at hv;rw[hu] at hv X h3
 have WO:(∃cs:Array Value,v=.agg cs)->sY d=true->IR w (λb=>b<w.heap.size) (ku d) v:=by
  rintro⟨cs,rfl⟩ hd;unfold ku;rw[if_pos hd];have:=IR.agg (w:=w) (Z:=λb=>b<w.heap.size) (BI d) cs.toList (by simpa[Value.cells] using h1.len) (by simpa[Value.cells] using h1.one) (by simpa[Value.cells] using h1.rel)
  simpa using this
 have jv:sY d=false->v.cells.toList.length=1->(∀cs,v≠.agg cs)->IR w (λb=>b<w.heap.size) (ku d) v:=by
  intro hd hl Sf;unfold ku;rw[if_neg (by rw[hd];simp)]
  have hc:v.cells.toList=[v]:=by cases v<;>first|rfl|exact absurd rfl (Sf _)
  rw[hc] at h1
  match hq:BI d,h1.len with
  |[c],_=>exact h1.rel 0 c v (by rw[hq];rfl) rfl
 have hcell:Cell.okWide P w r base t v->∀cs,v≠.agg cs:=by
  rintro hc cs rfl;unfold Cell.okWide at hc;rw[hu] at hc;cases aa<;>simp[Cell.ok,hu] at hc
 cases aa with
 |struct fs=>obtain⟨cs,h,_⟩:=hv;exact WO ⟨cs,h⟩ h3
 |array m e=>obtain⟨cs,h,_⟩:=hv;exact WO ⟨cs,h⟩ h3
 |_=>exact jv h3 X (hcell hv)
def IH {pv:Pv} (h:pv.Ok P/\pv.fu/\gh P pv (dj pv)) {f:Nat} {ds:List D} {R:St} (hs:Ev pv f ds ⟨[],0,0⟩ (.bool true) R) {us:List Value} (hl:ds.length=us.length) (hr:∀(i:Nat) c v,ds[i]?=some c->us[i]?=some v->IR w (λb=>b<w.heap.size) c v):Calls P f us.toArray w λe w'=>e=.returned (.bool true)/\Below w.heap.size w w':=by
 obtain⟨N,hN⟩:=Ev.out hs;refine(sound h (hN N (Γ _)) (w:=w) (Z:=λb=>b<w.heap.size) (λ_ h=>h) hl hr).mono λe w'=>?_;rintro⟨v,β',Z',rfl,he,hv⟩;rw[eL hv];exact⟨rfl,⟨he.os,he.tape,he.output,he.size,λk A=>he.block k A λf=>f⟩⟩
def Rd {H:Type} (enc:TypeId×Value->H) (P:Program) (w:World) (spare:Nat->Bool) (held:Bool) (t:TypeId) (d:DataW H):Prop:=
 ∃fuel cs ps,ε enc P w 0 spare held fuel t cs=some (d,ps)
section
variable{H:Type} {enc:TypeId×Value->H} {P:Program} {w:World} {spare:Nat->Bool} {held:Bool} {t e:TypeId} {d:DataW H}
def Rd.of {v:Value} {ps:List MemPlace} (h:χ enc P w 0 spare held t v d ps):Rd enc P w spare held t d:=by
 obtain⟨fuel,h⟩:=h;exact⟨fuel,_,_,h⟩
def Rd.string (h:Rd enc P w spare held t d) (ht:P.underlying t=some .string):∃l:List UInt8,d=.lit (.string l):=by
 obtain⟨fuel,cs,ps,h⟩:=h
 cases fuel with
 |zero=>simp[ε] at h
 |succ fuel=>
  unfold ε at h;rw[ht] at h
  rcases cs with _|⟨v,_|⟨v2,cs⟩⟩<;>try(simp at h;done)
  cases v<;>simp at h
  obtain⟨_,rfl,_⟩:=h;exact⟨_,rfl⟩
def Rd.slice (h:Rd enc P w spare held t d) (ht:P.underlying t=some (.slice e)):d=.nil\/∃elems rest,d=.slice elems rest/\∀x∈elems,Rd enc P w spare held e x:=by
 obtain⟨fuel,cs,ps,h⟩:=h
 cases fuel with
 |zero=>simp[ε] at h
 |succ fuel=>
  unfold ε at h;rw[ht] at h
  rcases cs with _|⟨v,_|⟨v2,cs⟩⟩<;>try(simp at h;done)
  cases v<;>try(simp at h;done)
  rename_i a len cap
  cases a with
  |none=>
   cases len<;>cases cap<;>simp at h
   obtain⟨rfl,rfl⟩:=h;exact .inl rfl
  |some a=>
   simp only at h
   split at h
   .simp only[ζ,δ] at h;obtain⟨elems,hm,rest,hr,hd⟩:=h;cases hd;refine .inr ⟨_,_,rfl,λx hx=>?_⟩;obtain⟨y,hy,rfl⟩:=List.mem_map.1 hx;have hlen:elems.length=len:=by simpa using mapM_some_length hm
    have hget:=mapM_some_get hm;obtain⟨i,hi⟩:=List.getElem?_of_mem hy;have hil:i<len:=by have:=cI hi;omega
    have h1:=hget i i (by simp[hil]);rw[hi] at h1;obtain⟨cs,_,hx⟩:=ζ.1 h1;exact⟨fuel,cs,y.2,hx⟩
   .cases h
def yO {α β:Type} {f:α->Option β}:∀{l:List α} {m:List β},l.mapM f=some m->dt (λa b=>f a=some b) l m
 |[],m,h=>by simp at h;subst h;exact .nil
 |a::l,m,h=>by
  rw[ν] at h
  cases h1:f a with
  |none=>rw[h1] at h;simp at h
  |some b=>
   rw[h1] at h
   cases X:l.mapM f with
   |none=>rw[X] at h;simp at h
   |some ys=>rw[X] at h;simp at h;subst h;exact .cons h1 (yO X)
def dt.Vf {α β γ:Type} {af:α->γ->Prop} {f:β->γ}:∀{l:List α} {m:List β},dt (λa b=>af a (f b)) l m->dt af l (m.map f)
 |_,_,.nil=>.nil
 |_,_,.cons a t=>.cons a t.Vf
def Rd.struct {fs:Array Field} (h:Rd enc P w spare held t d) (ht:P.underlying t=some (.struct fs)):∃parts,d=.agg parts/\dt (λ(f:Field) x=>Rd enc P w spare held f.type x) fs.toList parts:=by
 obtain⟨fuel,cs,ps,h⟩:=h
 cases fuel with
 |zero=>simp[ε] at h
 |succ fuel=>
  unfold ε at h;rw[ht] at h;simp only at h
  split at h
  .obtain⟨xs,hx,hd⟩:=δ.1 h;cases hd;refine⟨_,rfl,?_⟩;exact((yO hx).mono λf x hfx=>(⟨fuel,_,_,hfx⟩:Rd enc P w spare held f.type x.1)).Vf
  .cases h
end
def UO {H α:Type} {s:Nat} {f:α->List D} {Tr:α->DataW H->Prop} {elems rest:List (DataW H)} (h:∀x∈elems,∃a,(ku x).cells?=some (ku x).cells/\(ku x).cells=f a/\(f a).length=s/\Tr a x):
  ∃ws:List α,fJ (ku (.slice elems rest)) s (ws.map f)/\ws.length=elems.length/\∀a∈ws,∃x∈elems,Tr a x:=by
 have key:∃ws:List α,(elems.map ku).map D.cells=ws.map f/\(∀d∈elems.map ku,d.cells?=some d.cells/\d.cells.length=s)/\ws.length=elems.length/\∀a∈ws,∃x∈elems,Tr a x:=by
  induction elems with
  |nil=>exact⟨[],rfl,λd hd=>(by cases hd),rfl,λa ha=>by cases ha⟩
  |cons x l ih=>
   obtain⟨ws,h1,X,h3,h4⟩:=ih λy hy=>h y (κ _ hy);obtain⟨a,g1,g2,g3,g4⟩:=h x (μ ..);refine⟨a::ws,by simp[h1,g2],λd hd=>?_,by simp[h3],λb F=>?_⟩
   .simp only[τ,υ] at hd
    rcases hd with rfl|hd
    .exact⟨g1,by rw[g2];exact g3⟩
    .exact X d hd
   .rcases υ.1 F with rfl|F
    .exact⟨x,μ ..,g4⟩
    .obtain⟨y,hy,hq⟩:=h4 b F;exact⟨y,κ _ hy,hq⟩
 obtain⟨ws,h1,X,h3,h4⟩:=key;refine⟨ws,.inr ⟨elems.map ku,?_,h1,X⟩,h3,h4⟩;show D.sl (Bp elems)=_;rw[w8]
end Go.V
