/-
 Functions that write what was there before, and forget what they made: entering, leaving. Lists that grow, and where they lie.
-/
import Derived.Test.YthahmilhpmfkfaaGreatVM2
set_option linter.unusedSimpArgs false
set_option linter.unusedVariables false
set_option linter.unusedSectionVars false
namespace Go.V
variable{N:Nat} {S st:St} {H:List aZ}
theorem Has.bG {s0:St} (h:Has N S s0 H):Has N (ag .rw s0) (ag .rw s0) H:=
 ⟨Ex.refl _ _,Nat.le_trans h.hN h.ex.len,by show s0.ro≤N;rw[h.ex.ro];exact h.eG,fun i e hi=>⟨e.loc (st:=s0) (ah:=ag .rw s0) (fun k _=>rfl) (h.ok i e hi).1,(h.ok i e hi).2⟩,h.dis⟩
theorem ak {kn:Bool} {s0 st:St} {d d':D} (hd:aJ st s0.bs.length kn 16 d=some d'):c8 .rw kn s0 st d=some (d',⟨st.bs.take s0.bs.length,s0.flr,s0.ro⟩):=by
 simp only[c8,hd]
theorem Has.nX {s0 S2 st2:St} {H2:List aZ} (h:Has N S s0 H) (hS:S2.bs=s0.bs) (h2:Has N S2 st2 H2) (hk:∀(i:Nat) e,H2[i]?=some e→∃e',H[i]?=some e'∧∀k,e.K k→e'.K k):Has N S ⟨st2.bs.take s0.bs.length,s0.flr,s0.ro⟩ H2:=by
 have hL:s0.bs.length≤st2.bs.length:=by have:=h2.ex.len;rw[hS] at this;exact this
 have YL:=h.ex.len;have YM:=h.hN;refine⟨⟨fun k jy=>?_,?_,h.ex.flr,h.ex.ro⟩,h.hN,h.eG,fun i e hi=>?_,h2.dis⟩
 ·show(st2.bs.take s0.bs.length)[k]?=_;rw[List.getElem?_take,if_pos (by omega),h2.ex.low k jy,hS];exact h.ex.low k jy
 ·show _≤(st2.bs.take s0.bs.length).length;rw[List.length_take];omega
 ·obtain⟨e',mN,hkk⟩:=hk i e hi;have h3:=(h.ok i e' mN).2;refine⟨e.loc (fun k jy=>?_) (h2.ok i e hi).1,fun k jy=>⟨(h3 k (hkk k jy)).1,?_⟩⟩
  ·show(st2.bs.take s0.bs.length)[k]?=_;rw[List.getElem?_take,if_pos (h3 k (hkk k jy)).2]
  ·show k<(st2.bs.take s0.bs.length).length;rw[List.length_take];have:=(h3 k (hkk k jy)).2;omega
theorem Has.aq {s0 S2 st2:St} {k:Nat} {b b':jo} (h:Has N S s0 (.box k b::H)) (hS:S2.bs=s0.bs) (h2:Has N S2 st2 (.box k b'::H)):Has N S ⟨st2.bs.take s0.bs.length,s0.flr,s0.ro⟩ (.box k b'::H):=by
 refine h.nX hS h2 fun i e hi=>?_
 cases i with
 |zero=>simp only[List.getElem?_cons_zero,Option.some.injEq] at hi;subst hi;exact⟨_,rfl,fun k hk=>hk⟩
 |succ i=>exact⟨e,hi,fun k hk=>hk⟩
theorem Has.JH {P:Pv} {j:Nat} {x y x':D} {s:Nat} {es ys:List (List D)} {ah:St} (hH:Has N S st H) (hj:H[j]?=some (.aB x s es)) (hy:Rows st s y ys) {t1 t2 e:TypeId} {td:TypeDesc} {inf:TypeInfo} {z:List D}
  (h1:P.bZ t1=some (.slice e)) (h2:P.bZ t2=some td) (h3:ek td=false) (h4:P.info e=some inf) (h5:cI P e=some z)
  (q1:bd P .append [t1,t2] [x,y] st=some (x',ah)):∀k,x'.ref=k+1→x.ref=k+1∨S.bs.length≤k:=by
 have hl:=hH.ex.len;have ig:=hy.row
 have wF:∀e∈ys,e.length=s:=fun e he=>by
  obtain⟨i,hi⟩:=List.getElem?_of_mem he;exact hy.s8 i e hi
 have hown:=hH.own hj;simp only[bd,cX,h1,h2,h3,Bool.false_eq_true,if_false,h4,h5,ig,Option.bind_some] at q1
 split at q1
 ·cases q1
 ·cases hown with
  |nul=>
   simp only at q1
   split at q1
   ·cases q1;exact fun k hk=>.inl hk
   ·split at q1
    ·cases q1;exact fun k hk=>.inr (by simp only[D.ref] at hk;omega)
    ·cases q1
  |win k au off es c hm hl hc he=>
   simp only[St.mem_of hm] at q1
   split at q1
   ·cases q1
   ·split at q1
    ·cases q1;exact fun k hk=>.inl hk
    ·split at q1
     ·cases q1;exact fun n hn=>.inl (by simp only[D.ref] at hn⊢;exact hn)
     ·cases q1
theorem ae.cJ {P:Pv} {ops:Array Oper} {rest:List Oper} {fr:Fr} {Q:Fr→St→Prop} {ty:TypeId} {pp:String} {a:Array Edge} {g:Option (Nat×Bool)} {dst:Nat} {j:Nat} {x y:D} {s:Nat} {es ys:List (List D)} {t1 t2 e:TypeId} {td:TypeDesc} {inf:TypeInfo} {z:List D} {xo yo:Operand} {az:D→Fr} (hH:Has N S st H) (hg:ax ops fr ⟨some dst,.call ⟨.builtin .append,#[xo,yo],#[t1,t2]⟩,ty,pp,a,g⟩=some true)
  (hx:fr.ev xo=x) (hy:fr.ev yo=y) (hj:H[j]?=some (.aB x s es)) (j_:Rows st s y ys)
  (h1:P.bZ t1=some (.slice e)) (h2:P.bZ t2=some td) (h3:ek td=false) (h4:P.info e=some inf) (h5:cI P e=some z) (h6:inf.size=s) (h7:z.length=s) (h8:0<inf.bytes∧inf.bytes≤1024)
  (hp:∀x',fr.put dst x'=az x') (hb:es.length+ys.length≤1073741824) (hw:S.flr≤N∨refs ys.flatten=0) (h0:∀k,x.ref=k+1→S.bs.length≤k)
  (h:∀x' ah,(∀k,x'.ref=k+1→S.bs.length≤k)→Has N S ah (H.set j (.aB x' s (es++ys)))→ae P ops rest (az x') ah Q):
  ae P ops (⟨some dst,.call ⟨.builtin .append,#[xo,yo],#[t1,t2]⟩,ty,pp,a,g⟩::rest) fr st Q:=by
 obtain⟨x',ah,q1,q2,q3⟩:=hH.append hj j_ h1 h2 h3 h4 h5 h6 h7 h8 hb hw;have Oq:=hH.JH hj j_ h1 h2 h3 h4 h5 q1;refine ae.go hg rfl (d:=x') (st1:=ah) ?_ (hp _) (h x' ah (fun k hk=>?_) q2)
 ·simp only[dE,List.map_cons,List.map_nil,hx,hy];exact q1
 ·rcases Oq k hk with h|h
  ·exact h0 k h
  ·exact h
def nh:D→D
 | .nul=>.sl []
 |d=>d
def mG (d:D):Bool:=match d with| .nul=>true|d=>b_ d
theorem CY {st:St} {N n:Nat} {d:D} (h:mG d=true):cP st N (n+1) d=some (nh d):=by
 cases d<;>simp[mG,b_] at h<;>rfl
theorem uN {st:St} {N n:Nat}:∀{l:List D},(∀d∈l,mG d=true)→ec (cP st N (n+1)) l=some (l.map nh)
 |[],_=>rfl
 |d::l,h=>by simp only[ec,CY (h d (List.mem_cons_self ..)),uN (fun d hd=>h d (List.mem_cons_of_mem _ hd)),List.map_cons]
theorem Has.rp {L j:Nat} {x:D} {s:Nat} {es:List (List D)} (hH:Has N S st H) (hj:H[j]?=some (.aB x s es)) (hx:∀k,x.ref=k+1→L≤k) (hp:∀e∈es,∀d∈e,mG d=true) {n:Nat} (hn:3≤n):aJ st L false n x=some (.sl ((es.map (·.map nh)).map (kY s))):=by
 obtain⟨n,rfl⟩:∃m,n=m+3:=⟨n-3,by omega⟩
 have hown:=hH.own hj
 cases hown with
 |nul=>rfl
 |win k au off es c hm hl hc he=>
  have hk:=hx k (by simp only[D.ref]);show(if k<L then some (D.win k au off es.length s) else cP st L (n+2) (.win k au off es.length s))=_;rw[if_neg (show¬k<L by omega),cP];simp only[if_neg (show¬k<L by omega),St.mem_of hm,Option.bind_some]
  rw[if_pos hl,hc,uN (fun d hd=>by
   obtain⟨e,mN,zz⟩:=List.mem_flatten.1 hd
   exact hp e mN d zz)]
  have h1:(es.map (·.map nh)).flatten=es.flatten.map nh:=by rw[List.map_flatten]
  have h2:(es.map (·.map nh)).length=es.length:=List.length_map _
  have h3:∀e∈es.map (·.map nh),e.length=s:=by
   intro e mN;obtain⟨e0,h0,rfl⟩:=List.mem_map.1 mN;rw[List.length_map];exact he e0 h0
  simp only[Option.map_some];rw[←h1,←h2,fU h3]
theorem ae.PI {P:Pv} {ops:Array Oper} {rest:List Oper} {fr az:Fr} {Q:Fr→St→Prop} {ty:TypeId} {pp:String} {a:Array Edge} {g:Option (Nat×Bool)} {dst:Nat} {t:TypeId} {xo io:Operand} {b:List UInt8} {kk:IntKind} {i:Nat} {c:UInt8} (hg:ax ops fr ⟨some dst,.index t xo io,ty,pp,a,g⟩=some true) (hx:fr.ev xo=.str b) (hi:fr.ev io=.int kk (i:Nat)) (ht:P.bZ t=some .string) (hc:b[i]?=some c) (hp:fr.put dst (.int .u8 (c.toNat:Nat))=az)
  (h:ae P ops rest az st Q):ae P ops (⟨some dst,.index t xo io,ty,pp,a,g⟩::rest) fr st Q:=by
 refine ae.go hg rfl (d:=.int .u8 (c.toNat:Nat)) (st1:=st) ?_ hp h;simp only[dE,hx,hi,o_,ht];rw[if_pos (by omega),Int.toNat_natCast,hc];rfl
end Go.V
