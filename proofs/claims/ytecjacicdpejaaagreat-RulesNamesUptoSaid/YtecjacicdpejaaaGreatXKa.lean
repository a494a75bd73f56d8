/-
 Functions that write what was there before, and forget what they made: entering, leaving. Lists that grow, and where they lie.
-/
import Derived.Test.YtecjacicdpejaaaGreatXM2
set_option linter.unusedSimpArgs false
set_option linter.unusedVariables false
set_option linter.unusedSectionVars false
namespace Go.V
variable{N:Nat} {S st:St} {H:List bj}
theorem Has.cE {s0:St} (h:Has N S s0 H):Has N (ai .rw s0) (ai .rw s0) H:=
 ⟨Ex.refl _ _,Nat.le_trans h.hN h.ex.len,by show s0.ro≤N;rw[h.ex.ro];exact h.eQ,fun i e hi=>⟨e.loc (st:=s0) (ah:=ai .rw s0) (fun k _=>rfl) (h.ok i e hi).1,(h.ok i e hi).2⟩,h.dis⟩
theorem ak {kn:Bool} {s0 st:St} {d d':D} (hd:aH st s0.bs.length kn 16 d=some d'):cT .rw kn s0 st d=some (d',⟨st.bs.take s0.bs.length,s0.flr,s0.ro⟩):=by
 simp only[cT,hd]
theorem Has.mE {s0 S2 st2:St} {H2:List bj} (h:Has N S s0 H) (hS:S2.bs=s0.bs) (h2:Has N S2 st2 H2) (hk:∀(i:Nat) e,H2[i]?=some e→∃e',H[i]?=some e'∧∀k,e.K k→e'.K k):Has N S ⟨st2.bs.take s0.bs.length,s0.flr,s0.ro⟩ H2:=by
 have hL:s0.bs.length≤st2.bs.length:=by have:=h2.ex.len;rw[hS] at this;exact this
 have UY:=h.ex.len;have U0:=h.hN;refine⟨⟨fun k iI=>?_,?_,h.ex.flr,h.ex.ro⟩,h.hN,h.eQ,fun i e hi=>?_,h2.dis⟩
 ·show(st2.bs.take s0.bs.length)[k]?=_;rw[List.getElem?_take,if_pos (by omega),h2.ex.low k iI,hS];exact h.ex.low k iI
 ·show _≤(st2.bs.take s0.bs.length).length;rw[List.length_take];omega
 ·obtain⟨e',lD,hkk⟩:=hk i e hi;have h3:=(h.ok i e' lD).2;refine⟨e.loc (fun k iI=>?_) (h2.ok i e hi).1,fun k iI=>⟨(h3 k (hkk k iI)).1,?_⟩⟩
  ·show(st2.bs.take s0.bs.length)[k]?=_;rw[List.getElem?_take,if_pos (h3 k (hkk k iI)).2]
  ·show k<(st2.bs.take s0.bs.length).length;rw[List.length_take];have:=(h3 k (hkk k iI)).2;omega
theorem Has.aw {s0 S2 st2:St} {k:Nat} {b b':iz} (h:Has N S s0 (.box k b::H)) (hS:S2.bs=s0.bs) (h2:Has N S2 st2 (.box k b'::H)):Has N S ⟨st2.bs.take s0.bs.length,s0.flr,s0.ro⟩ (.box k b'::H):=by
 refine h.mE hS h2 fun i e hi=>?_
 cases i with
 |zero=>simp only[List.getElem?_cons_zero,Option.some.injEq] at hi;subst hi;exact⟨_,rfl,fun k hk=>hk⟩
 |succ i=>exact⟨e,hi,fun k hk=>hk⟩
theorem Has.GJ {P:Pv} {j:Nat} {x y x':D} {s:Nat} {es ys:List (List D)} {ah:St} (hH:Has N S st H) (hj:H[j]?=some (.aE x s es)) (hy:Rows st s y ys) {t1 t2 e:TypeId} {td:TypeDesc} {inf:TypeInfo} {z:List D}
  (h1:P.cw t1=some (.slice e)) (h2:P.cw t2=some td) (h3:gq td=false) (h4:P.info e=some inf) (h5:cY P e=some z)
  (q1:bo P .append [t1,t2] [x,y] st=some (x',ah)):∀k,x'.ref=k+1→x.ref=k+1∨S.bs.length≤k:=by
 have hl:=hH.ex.len;have iC:=hy.row
 have DD:∀e∈ys,e.length=s:=fun e he=>by
  obtain⟨i,hi⟩:=List.getElem?_of_mem he;exact hy.uZ i e hi
 have hown:=hH.own hj;simp only[bo,df,h1,h2,h3,Bool.false_eq_true,if_false,h4,h5,iC,Option.bind_some] at q1
 split at q1
 ·cases q1
 ·cases hown with
  |nul=>
   simp only at q1
   split at q1
   ·cases q1;exact fun k hk=>.inl hk
   ·split at q1
    ·cases q1;exact fun k hk=>.inr (by simp only[D.ref] at hk;omega)
    ·cases q1
  |win k aq off es c hm hl hc he=>
   simp only[St.mem_of hm] at q1
   split at q1
   ·cases q1
   ·split at q1
    ·cases q1;exact fun k hk=>.inl hk
    ·split at q1
     ·cases q1;exact fun n hn=>.inl (by simp only[D.ref] at hn⊢;exact hn)
     ·cases q1
theorem ae.cB {P:Pv} {ops:Array Oper} {rest:List Oper} {fr:Fr} {Q:Fr→St→Prop} {ty:TypeId} {pp:String} {a:Array Edge} {g:Option (Nat×Bool)} {dst:Nat} {j:Nat} {x y:D} {s:Nat} {es ys:List (List D)} {t1 t2 e:TypeId} {td:TypeDesc} {inf:TypeInfo} {z:List D} {xo yo:Operand} {aA:D→Fr} (hH:Has N S st H) (hg:az ops fr ⟨some dst,.call ⟨.builtin .append,#[xo,yo],#[t1,t2]⟩,ty,pp,a,g⟩=some true)
  (hx:fr.ev xo=x) (hy:fr.ev yo=y) (hj:H[j]?=some (.aE x s es)) (jS:Rows st s y ys)
  (h1:P.cw t1=some (.slice e)) (h2:P.cw t2=some td) (h3:gq td=false) (h4:P.info e=some inf) (h5:cY P e=some z) (h6:inf.size=s) (h7:z.length=s) (h8:0<inf.bytes∧inf.bytes≤1024)
  (hp:∀x',fr.put dst x'=aA x') (hb:es.length+ys.length≤1073741824) (hw:S.flr≤N∨refs ys.flatten=0) (h0:∀k,x.ref=k+1→S.bs.length≤k)
  (h:∀x' ah,(∀k,x'.ref=k+1→S.bs.length≤k)→Has N S ah (H.set j (.aE x' s (es++ys)))→ae P ops rest (aA x') ah Q):
  ae P ops (⟨some dst,.call ⟨.builtin .append,#[xo,yo],#[t1,t2]⟩,ty,pp,a,g⟩::rest) fr st Q:=by
 obtain⟨x',ah,q1,q2,q3⟩:=hH.append hj jS h1 h2 h3 h4 h5 h6 h7 h8 hb hw;have Ll:=hH.GJ hj jS h1 h2 h3 h4 h5 q1;refine ae.go hg rfl (d:=x') (st1:=ah) ?_ (hp _) (h x' ah (fun k hk=>?_) q2)
 ·simp only[dK,List.map_cons,List.map_nil,hx,hy];exact q1
 ·rcases Ll k hk with h|h
  ·exact h0 k h
  ·exact h
def lT:D→D
 | .nul=>.sl []
 |d=>d
def lq (d:D):Bool:=match d with| .nul=>true|d=>cj d
theorem AQ {st:St} {N n:Nat} {d:D} (h:lq d=true):cG st N (n+1) d=some (lT d):=by
 cases d<;>simp[lq,cj] at h<;>rfl
theorem sZ {st:St} {N n:Nat}:∀{l:List D},(∀d∈l,lq d=true)→dH (cG st N (n+1)) l=some (l.map lT)
 |[],_=>rfl
 |d::l,h=>by simp only[dH,AQ (h d (List.mem_cons_self ..)),sZ (fun d hd=>h d (List.mem_cons_of_mem _ hd)),List.map_cons]
theorem Has.pk {L j:Nat} {x:D} {s:Nat} {es:List (List D)} (hH:Has N S st H) (hj:H[j]?=some (.aE x s es)) (hx:∀k,x.ref=k+1→L≤k) (hp:∀e∈es,∀d∈e,lq d=true) {n:Nat} (hn:3≤n):aH st L false n x=some (.sl ((es.map (·.map lT)).map (jr s))):=by
 obtain⟨n,rfl⟩:∃m,n=m+3:=⟨n-3,by omega⟩
 have hown:=hH.own hj
 cases hown with
 |nul=>rfl
 |win k aq off es c hm hl hc he=>
  have hk:=hx k (by simp only[D.ref]);show(if k<L then some (D.win k aq off es.length s) else cG st L (n+2) (.win k aq off es.length s))=_;rw[if_neg (show¬k<L by omega),cG];simp only[if_neg (show¬k<L by omega),St.mem_of hm,Option.bind_some]
  rw[if_pos hl,hc,sZ (fun d hd=>by
   obtain⟨e,lD,xH⟩:=List.mem_flatten.1 hd
   exact hp e lD d xH)]
  have h1:(es.map (·.map lT)).flatten=es.flatten.map lT:=by rw[List.map_flatten]
  have h2:(es.map (·.map lT)).length=es.length:=List.length_map _
  have h3:∀e∈es.map (·.map lT),e.length=s:=by
   intro e lD;obtain⟨e0,h0,rfl⟩:=List.mem_map.1 lD;rw[List.length_map];exact he e0 h0
  simp only[Option.map_some];rw[←h1,←h2,fp h3]
theorem ae.NB {P:Pv} {ops:Array Oper} {rest:List Oper} {fr aA:Fr} {Q:Fr→St→Prop} {ty:TypeId} {pp:String} {a:Array Edge} {g:Option (Nat×Bool)} {dst:Nat} {t:TypeId} {xo io:Operand} {b:List UInt8} {kk:IntKind} {i:Nat} {c:UInt8} (hg:az ops fr ⟨some dst,.index t xo io,ty,pp,a,g⟩=some true) (hx:fr.ev xo=.str b) (hi:fr.ev io=.int kk (i:Nat)) (ht:P.cw t=some .string) (hc:b[i]?=some c) (hp:fr.put dst (.int .u8 (c.toNat:Nat))=aA)
  (h:ae P ops rest aA st Q):ae P ops (⟨some dst,.index t xo io,ty,pp,a,g⟩::rest) fr st Q:=by
 refine ae.go hg rfl (d:=.int .u8 (c.toNat:Nat)) (st1:=st) ?_ hp h;simp only[dK,hx,hi,nS,ht];rw[if_pos (by omega),Int.toNat_natCast,hc];rfl
end Go.V
