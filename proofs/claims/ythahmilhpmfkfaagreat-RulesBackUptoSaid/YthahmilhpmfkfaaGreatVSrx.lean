/-
 The table's Set, given to V.
-/
import Derived.Test.YthahmilhpmfkfaaGreatVSrw
import Derived.Test.YthahmilhpmfkfaaGreatVView
import Derived.Test.YthahmilhpmfkfaaGreatVM2
import Derived.KernelRfl
set_option linter.unusedSimpArgs false
set_option linter.unusedVariables false
namespace Go.Proofs.YthahmilhpmfkfaaGreat
open Go.V Go Go.RowKit
structure iJ where
 k:List UInt8
 v:Int
def de (r:iJ):List D:=[.str r.k,.int .i64 r.v]
def pI:List D→Option (List iJ)
 |[]=>some []
 | .str a::.int .i64 b::l=>(pI l).map (⟨a,b⟩::·)
 |_=>none
theorem rP:∀{c:List D} {l:List iJ},pI c=some l→c=(l.map de).flatten
 |[],l,h=>by cases h;rfl
 |[_],l,h=>by
  unfold pI at h
  split at h
  ·rename_i he;cases he
  ·rename_i he;cases he
  ·cases h
 |d::e::c,l,h=>by
  unfold pI at h
  split at h
  ·rename_i he;cases he
  ·rename_i a b m he;cases he;obtain⟨r,h1,rfl⟩:=Option.map_eq_some_iff.1 h;rw[rP h1];rfl
  ·cases h
theorem xQ:∀l:List iJ,pI ((l.map de).flatten)=some l
 |[]=>rfl
 |r::l=>by
  show pI (.str r.k::.int .i64 r.v::(l.map de).flatten)=_;simp only[pI,xQ l,Option.map_some]
def iE (ks:List (List UInt8)) (key:List UInt8):Nat→Nat→Nat→Nat
 |0,lo,_=>lo
 |f+1,lo,hi=>if lo<hi then(if Op.bytesLess (ks.getD ((lo+hi)/2) []) key then iE ks key f ((lo+hi)/2+1) hi else iE ks key f lo ((lo+hi)/2)) else lo
def bu (l:List iJ) (key:List UInt8):Nat:=iE (l.map (·.k)) key l.length 0 l.length
def dh (l:List iJ) (key:List UInt8):Bool:=decide (bu l key<l.length) &&((l.map (·.k)).getD (bu l key) []==key)
theorem pq (ks:List (List UInt8)) (key:List UInt8):∀(f lo hi:Nat),lo≤hi→iE ks key f lo hi≤hi
 |0,lo,hi,h=>h
 |f+1,lo,hi,h=>by
  unfold iE
  split
  ·split
   ·exact pq ks key f _ _ (by omega)
   ·exact Nat.le_trans (pq ks key f _ _ (by omega)) (by omega)
  ·exact h
theorem y5 (l:List iJ) (key:List UInt8):bu l key≤l.length:=pq _ _ _ _ _ (Nat.zero_le _)
def oE (st:St):D→Option (List iJ)
 | .nul=>some []
 | .win kl vl ol len 2=>match st.bW kl vl with
  |some (true,c)=>if ol+len*2≤c.length∧len<1000000 then pI ((c.drop ol).take (len*2)) else none
  |_=>none
 |_=>none
def wD (l:List D) (n:Nat) (ys:List D):List D:=l.take n++(ys++l.drop n)
def vY (x:D) (i n:Nat) (mA ys:List D) (st:St):Option St:=
 if i<n then(match x with
  | .win kl vl ol _ 2=>st.wr kl vl ol (wD mA (i*2) ys)
  |_=>none) else some st
def Mf (k:Nat):D→Nat
 | .win kl _ _ _ _=>kl
 |_=>k+1
def HY (x:D) (i:Nat) (v:Int) (st:St):Option St:=match x with
 | .win kl vl ol _ 2=>st.wr kl vl (ol+i*2+1) [.int .i64 v]
 |_=>none
noncomputable def rF (k au off:Nat) (key:List UInt8) (v:Int) (st:St) (x:D) (l:List iJ):Option (D×St):=
 if Mf k x=k then none
 else if dh l key=true then(HY x (bu l key) v st).map fun ah=>(.bool false,ah)
 else match cX eQ [119,119] x (.win st.bs.length 0 0 1 2) (st.push (.mem 0 true [.str key,.int .i64 v])) with
  |some (x',st1)=>match vY x' (bu l key) l.length ((l.map de).flatten) [.str key,.int .i64 v] st1 with
   |some st2=>(st2.wr k au off [x']).map fun EU=>(.bool true,EU)
   |none=>none
  |none=>none
noncomputable def uh:List D→St→Option (D×St)
 |[.ptr k au off,.str key,.int .i64 v],st=>
  match st.bW k au with
  |some (_,ct)=>match ct[off]? with
   |some x=>match oE st x with
    |some l=>rF k au off key v st x l
    |none=>none
   |none=>none
  |none=>none
 |_,_=>none
theorem rE {ds:List D} {st:St} {r:D×St} (h:uh ds st=some r):∃k au off key v ar ct x l,ds=[.ptr k au off,.str key,.int .i64 v]∧st.bW k au=some (ar,ct)∧ct[off]?=some x∧oE st x=some l∧rF k au off key v st x l=some r:=by
 unfold uh at h
 split at h
 ·rename_i k au off key v
  split at h
  ·rename_i ar ct hm
   split at h
   ·rename_i x hx
    split at h
    ·rename_i l hl;exact⟨k,au,off,key,v,ar,ct,x,l,rfl,hm,hx,hl,h⟩
    ·cases h
   ·cases h
  ·cases h
 ·cases h
theorem iQ {st:St} {x:D} {l:List iJ} (h:oE st x=some l):(x=.nul∧l=[])∨∃kl vl ol c,x=.win kl vl ol l.length 2∧st.bW kl vl=some (true,c)∧ol+l.length*2≤c.length∧l.length<1000000∧(c.drop ol).take (l.length*2)=(l.map de).flatten:=by
 unfold oE at h
 split at h
 ·cases h;exact .inl ⟨rfl,rfl⟩
 ·rename_i kl vl ol len
  split at h
  ·rename_i c hm
   split at h
   ·rename_i hc;have hs:=rP h
    have hlen:l.length=len:=by
     have h1:=congrArg List.length hs
     have h2:∀l:List iJ,((l.map de).flatten).length=l.length*2:=by
      intro l
      induction l with
      |nil=>rfl
      |cons a l ih=>simp only[List.map_cons,List.flatten_cons,List.length_append,ih,List.length_cons];show 2+_=_;omega
     rw[h2] at h1;simp only[List.length_take,List.length_drop] at h1;omega
    subst hlen;exact .inr ⟨kl,vl,ol,c,rfl,hm,hc.1,hc.2,hs⟩
   ·cases h
  ·cases h
 ·cases h
theorem Aq {α:Type} (a:Array α) (b:Nat) (x y:α) (f:α→α) (h:a[b]?=some x) (hf:f x=y):a.modify b f=a.setIfInBounds b y:=by
 apply Array.ext_getElem?;intro j;rw[Array.getElem?_modify]
 by_cases hj:b=j
 ·subst hj;have hb:b<a.size:=(Array.getElem?_eq_some_iff.1 h).1;rw[if_pos rfl,h,Array.getElem?_setIfInBounds_self_of_lt hb,←hf];rfl
 ·rw[if_neg hj,Array.getElem?_setIfInBounds_ne hj]
theorem E4 {α:Type} (a:Array α) (b:Nat) (x:α) (h:a[b]?=some x):a.setIfInBounds b x=a:=by
 apply Array.ext_getElem?;intro j
 by_cases hj:b=j
 ·subst hj;rw[Array.getElem?_setIfInBounds_self_of_lt (Array.getElem?_eq_some_iff.1 h).1,h]
 ·rw[Array.getElem?_setIfInBounds_ne hj]
theorem rM {α:Type} (a:Array α) (b:Nat) (x y:α):(a.setIfInBounds b x).setIfInBounds b y=a.setIfInBounds b y:=by
 apply Array.ext_getElem?;intro j
 by_cases hj:b=j
 ·subst hj
  by_cases hb:b<a.size
  ·rw[Array.getElem?_setIfInBounds_self_of_lt (by simpa using hb),Array.getElem?_setIfInBounds_self_of_lt hb]
  ·simp[Array.getElem?_eq_none (Nat.le_of_not_lt hb)]
 ·rw[Array.getElem?_setIfInBounds_ne hj,Array.getElem?_setIfInBounds_ne hj,Array.getElem?_setIfInBounds_ne hj]
theorem zH {w:World} {b o:Nat} {cs:Array Value} {el:TypeId} {fr:Nat×Nat} (h:w.heap[b]?=some (.cells cs el fr)) (v:Value):w.setCell ⟨b,o,none⟩ v=wput w b (.cells (cs.setIfInBounds o v) el fr):=by
 unfold World.setCell wput;rw[Aq _ _ _ (.cells (cs.setIfInBounds o v) el fr) _ h rfl]
theorem gi {b:Nat} {el:TypeId} {fr:Nat×Nat}:∀(vs:List Value) (o:Nat) (w:World) (cs:Array Value),w.heap[b]?=some (.cells cs el fr)→w.setCells b o vs=wput w b (.cells (gh cs o vs) el fr)
 |[],o,w,cs,h=>by
  show w={w with heap:=_};rw[show gh cs o []=cs from rfl,E4 _ _ _ h]
 |v::vs,o,w,cs,h=>by
  have hb:b<w.heap.size:=(Array.getElem?_eq_some_iff.1 h).1;rw[World.setCells,zH h,gi vs (o+1) _ (cs.setIfInBounds o v) (by simp only[wput];rw[Array.getElem?_setIfInBounds_self_of_lt hb])];show({w with heap:=_}:World)=_;simp only[wput,rM,gh]
theorem Iw {W:World} {R:Array Value} {el:TypeId} (vs us:List Value) (o p:Nat):((((W.alloc (.cells R el)).drew.setCells W.heap.size o vs).drew).setCells W.heap.size p us).heap=W.heap.push (.cells (gh (gh R o vs) p us) el (0,0)):=by
 have h0:(W.alloc (.cells R el)).drew.heap[W.heap.size]?=some (.cells R el (0,0)):=by
  show(W.heap.push _)[W.heap.size]?=_;simp
 rw[gi vs o _ R h0]
 have h1:(wput (W.alloc (.cells R el)).drew W.heap.size (.cells (gh R o vs) el (0,0))).drew.heap[W.heap.size]?=some (.cells (gh R o vs) el (0,0)):=by
  show((W.heap.push _).setIfInBounds W.heap.size _)[W.heap.size]?=_;rw[Array.getElem?_setIfInBounds_self_of_lt (by simp)]
 rw[gi us p _ _ h1];show(((W.heap.push _).setIfInBounds W.heap.size _).setIfInBounds W.heap.size _)=_;rw[rM];apply Array.ext_getElem?;intro j
 by_cases hj:W.heap.size=j
 ·subst hj;rw[Array.getElem?_setIfInBounds_self_of_lt (by simp)];simp
 ·rw[Array.getElem?_setIfInBounds_ne hj,Array.getElem?_push,Array.getElem?_push,if_neg (fun e=>hj e.symm),if_neg (fun e=>hj e.symm)]
theorem EC {w:World} {st ah:St} {β:Nat→Option (Nat×Nat)} {Z:Nat→Prop} (h:fG w st β Z) {k au off:Nat} {ds:List D} {us:List Value} (hu:LR w (st.x β Z) ds us) (hw:st.wr k au off ds=some ah) {b base:Nat} (hb:β k=some (b,base)):
  Nx w st β Z (w.setCells b (base+off) us) ah β Z:=by
 obtain⟨w',h1,β',h2,rfl⟩:=xj (P:=Tryz.prog) h hu hw hb (.inr rfl);unfold St.wr at hw
 split at hw
 ·rename_i a c hm
  split at hw
  ·rename_i hc;obtain⟨cs,el,fr,r1,r2,r3,r4⟩:=h.row hm hb
   have h3:=run_storeCells_cells (P:=Tryz.prog) b (base+off) us 0 w (fun j hj=>by
    simp only[World.cell?,r1]
    rw[Array.getElem?_eq_getElem (by have:=hu.len;omega)];rfl) (fun j hj=>by
    simp only[World.frozen?,r1];have:=r3.2 (base+off+0+j) (by have:=hu.len;omega)
    simpa using this) hu.one
   rw[h1] at h3;cases h3;exact h2
  ·cases hw
 ·cases hw
theorem vI {w:World} {x:X} {k vr off:Nat} {v:Value} (h:VR w x (.ptr k vr off) v):∃a,v=.pointer (some a)∧(∃p,x.β k=some p)∧(x.au k=some vr→∃b base,x.β k=some (b,base)∧a=⟨b,base+off,none⟩):=by
 cases h with
 |im _ _ h=>cases h
 |ptr _ _ _ a hk hm h=>exact⟨a,rfl,hk,h⟩
theorem zD:∀(cs c:List D),cs.length=c.length→setMany c 0 cs=cs:=fun cs c h=>by
 apply List.ext_getElem?;intro j;rw[h_ cs c 0 j (by omega)]
 split
 ·rfl
 ·rw[List.getElem?_eq_none (by omega),List.getElem?_eq_none (by omega)]
theorem nI {st:St} {bx:jo} {k au:Nat} {ar:Bool} {c:List D} (h:st.bW k au=some (ar,c)):(st.push bx).bW k au=some (ar,c)∧k<st.bs.length:=by
 have hb:=(bm h).1;have hk:k<st.bs.length:=(List.getElem?_eq_some_iff.1 hb).1;refine⟨?_,hk⟩;unfold St.bW St.push;simp only;rw[List.getElem?_append_left hk];exact h
theorem EF:eQ.bZ 119=some (.slice 123):=by kernel_rfl
theorem Cb:∃i,eQ.info 123=some i∧i.size=2∧1≤i.bytes:=by
 have h:(match eQ.info 123 with|some i=>i.size==2 &&decide (1≤i.bytes)|none=>false)=true:=by kernel_rfl
 cases hi:eQ.info 123 with
 |none=>rw[hi] at h;cases h
 |some i=>rw[hi] at h;simp only[Bool.and_eq_true,beq_iff_eq,decide_eq_true_eq] at h;exact⟨i,rfl,h⟩
theorem tq {st st1:St} {x x':D} {y z:D} (h:cX eQ [119,119] x (.win st.bs.length 0 0 1 2) (st.push (.mem 0 true [y,z]))=some (x',st1)) {kl vl ol len:Nat} (hx:x=.win kl vl ol len 2) {c:List D} (hm:st.bW kl vl=some (true,c)):
  ol+len*2≤c.length∧x'=.win kl (vl+1) 0 (len+1) 2∧(st.push (.mem 0 true [y,z])).ro≤kl∧st1={(st.push (.mem 0 true [y,z])) with bs:=(st.push (.mem 0 true [y,z])).bs.set kl (.mem (vl+1) true ((c.take (ol+len*2)).drop ol++[y,z]))}:=by
 subst hx
 have ig:kT (st.push (.mem 0 true [y,z])) (.win st.bs.length 0 0 1 2)=some (1,[y,z]):=by
  have:(st.push (.mem 0 true [y,z])).bW st.bs.length 0=some (true,[y,z]):=by
   unfold St.bW St.push;simp
  simp[kT,this]
 obtain⟨i,hi,hs,hb⟩:=Cb;unfold cX at h;simp only[EF] at h
 split at h
 ·cases h
 ·rename_i I1;obtain⟨i',iw,h⟩:=Option.bind_eq_some_iff.1 h;rw[hi] at iw;cases iw;obtain⟨z',hz,h⟩:=Option.bind_eq_some_iff.1 h;rw[ig] at h;simp only[Option.bind_some] at h
  split at h
  ·cases h
  ·rename_i wU;rw[(nI hm).1] at h;simp only[hs] at h
   split at h
   ·cases h
   ·rename_i hsz;simp only[not_or,Nat.not_lt] at hsz
    split at h
    ·rename_i h1;cases h1
    ·split at h
     ·rename_i hc;cases h;exact⟨hsz.2,rfl,dG hc.2,rfl⟩
     ·cases h
theorem rI {w:World} {st:St} {β:Nat→Option (Nat×Nat)} {Z:Nat→Prop} (h:fG w st β Z) {k au off:Nat} {ar:Bool} {ct:List D} (hm:st.bW k au=some (ar,ct)) {kl vl ol len:Nat} (hx:ct[off]?=some (.win kl vl ol len 2)) {c:List D} (oB:st.bW kl vl=some (true,c)) (il:ol+len*2≤c.length) (hlen:1≤len) {bt base:Nat} (hb:β k=some (bt,base)) (hne:kl≠k):
  ∃bl dg cap cl el fr,β kl=some (bl,dg)∧w.heap[bl]?=some (.cells cl el fr)∧dg+c.length≤cl.size∧nu cl.size fr∧(∀(j:Nat) d,c[j]?=some d→∃u,cl[dg+j]?=some u∧u.oneCell'=true∧VR w (st.x β Z) d u)∧
   w.cell? ⟨bt,base+off,none⟩=some (.slice (some ⟨bl,dg+ol,none⟩) len cap)∧w.frozen? ⟨bt,base+off,none⟩=false∧bt≠bl∧len≤cap∧dg+ol+cap*2≤cl.size:=by
 obtain⟨cs,Mp,Mo,t1,t2,t3,t4⟩:=h.row hm hb;obtain⟨u,u1,u2,u3⟩:=t4 off _ hx;obtain⟨a,cap,rfl,hc,⟨p,hp⟩,_,hat⟩:=dv u3;obtain⟨bl,dg,sz,hbl,nb,tY⟩:=hat (bm oB).2;obtain⟨rfl,hsz⟩:=tY.resolve_left (by omega);have hbl:β kl=some (bl,dg):=hbl;obtain⟨cl,el,fr,l1,l2,l3,l4⟩:=h.row oB hbl;have hsz2:sz=cl.size:=by simp only[bF,l1] at nb;cases nb;rfl
 have Le:off<ct.length:=(List.getElem?_eq_some_iff.1 hx).1;refine⟨bl,dg,cap,cl,el,fr,hbl,l1,l2,l3,l4,?_,?_,?_,hc,by omega⟩
 ·simp only[World.cell?,t1];simpa using u1
 ·simp only[World.frozen?,t1];have:=t3.2 (base+off) (by omega)
  simpa using this
 ·intro e;subst e;exact hne (h.inj _ _ _ _ _ hbl hb)
theorem nO {w w1:World} {st:St} {β β1:Nat→Option (Nat×Nat)} {Z Z1:Nat→Prop} (hn:Nx w st β Z w1 st β1 Z1) {k au:Nat} {ar:Bool} {ct:List D} (hm:st.bW k au=some (ar,ct)) {b base:Nat} (hb:β k=some (b,base)):β1 k=some (b,base):=
 (hn.keeps.at_ k au (bm hm).2 (bm hm).2 b base hb).1
section
variable(hv:eQ.Ok Tryz.prog∧eQ.gC∧gx Tryz.prog eQ (dJ eQ)) {w:World} {st:St} {β:Nat→Option (Nat×Nat)} {Z:Nat→Prop} (df:fG w st β Z) {k au off:Nat} {key:List UInt8} {u0:Value} (h0:VR w (st.x β Z) (.ptr k au off) u0) {i:Nat} {b:Bool} (hf:Ev eQ 57 [.ptr k au off,.str key] st (.tup [.int .i64 (i:Nat),.bool b]) st)
include hv df h0 hf
theorem ni:Calls Tryz.prog 57 #[u0,.string ⟨key.toArray⟩] w fun e w1=>e=.returned (.tuple #[.int .i64 (i:Nat),.bool b])∧∃β1 Z1,Nx w st β Z w1 st β1 Z1:=by
 unfold Ev at hf;obtain⟨N,hN⟩:=hf;refine((mz hv.1 hv.2.1 hv.2.2 N).calls 57 _ st _ st (hN N (Nat.le_refl _)) w β Z [u0,.string ⟨key.toArray⟩] df rfl fun j c v hc Ce=>?_).mono fun e w1=>?_
 ·match j,hc,Ce with
  |0,hc,Ce=>cases hc;cases Ce;exact h0
  |1,hc,Ce=>cases hc;cases Ce;exact .im _ _ (.str _)
 ·rintro⟨v,β1,Z1,rfl,hn,Qo,_⟩;obtain⟨vs,rfl,hl,hvs⟩:=rA Qo
  match vs,hl with
  |[v0,v1],_=>
   have e0:=cj (hvs 0 _ v0 rfl rfl);have e1:=dS (hvs 1 _ v1 rfl rfl);subst e0 e1;exact⟨rfl,β1,Z1,hn⟩
end
theorem mZ {w:World} {x:X} (key:List UInt8) (v:Int):LR w x [.str key,.int .i64 v] [.string ⟨key.toArray⟩,.int .i64 v]:=by
 refine⟨rfl,?_,?_⟩
 ·intro u hu;simp only[List.mem_cons,List.not_mem_nil,or_false] at hu;rcases hu with rfl|rfl<;>rfl
 ·intro i c u hc hu
  match i,hc,hu with
  |0,hc,hu=>cases hc;cases hu;exact .im _ _ (.str _)
  |1,hc,hu=>cases hc;cases hu;exact .im _ _ (.int _ _)
  |i+2,hc,hu=>simp at hc
theorem Az {w:World} {x:X} {d:D} {u:Value} (h:VR w x d u) (h1:u.oneCell'=true):LR w x [d] [u]:=by
 refine⟨rfl,?_,?_⟩
 ·intro y hy;simp only[List.mem_cons,List.not_mem_nil,or_false] at hy;rw[hy];exact h1
 ·intro i c y hc hy
  match i,hc,hy with
  |0,hc,hy=>cases hc;cases hy;exact h
  |i+1,hc,hy=>simp at hc
section
variable(hv:eQ.Ok Tryz.prog∧eQ.gC∧gx Tryz.prog eQ (dJ eQ)) {w:World} {st ah:St} {β:Nat→Option (Nat×Nat)} {Z:Nat→Prop} (df:fG w st β Z) {k au off:Nat} {key:List UInt8} {v:Int} {u0:Value} (h0:VR w (st.x β Z) (.ptr k au off) u0) {l:List iJ} {x:D} {ar:Bool} {ct:List D} (hm:st.bW k au=some (ar,ct)) (hx:ct[off]?=some x) (ht:oE st x=some l)
 (hf:Ev eQ 57 [.ptr k au off,.str key] st (.tup [.int .i64 (bu l key:Nat),.bool (dh l key)]) st) (hk:Mf k x≠k)
include hv df h0 hm hx ht hf hk
theorem vN (sN:dh l key=true) (hw:HY x (bu l key) v st=some ah):Calls Tryz.prog 40 #[u0,.string ⟨key.toArray⟩,.int .i64 v] w fun e w'=>e=.returned (.bool false)∧∃β' Z',Nx w st β Z w' ah β' Z':=by
 obtain⟨a,rfl,_,hat⟩:=vI h0;obtain⟨bt,base,hb,rfl⟩:=hat (bm hm).2;have hb:β k=some (bt,base):=hb
 have hi:bu l key<l.length:=by
  unfold dh at sN;simp only[Bool.and_eq_true,decide_eq_true_eq] at sN;exact sN.1
 rcases iQ ht with⟨rfl,rfl⟩|⟨kl,vl,ol,c,rfl,oB,il,hlen,yM⟩
 ·cases hw
 have hne:kl≠k:=hk;obtain⟨bl,dg,cap,cl,el,fr,hbl,_⟩:=rI df hm hx oB il (by omega) hb hne;have hw:st.wr kl vl (ol+bu l key*2+1) [.int .i64 v]=some ah:=hw;rw[sN] at hf;refine(set_found bt (base+off) bl (dg+ol) l.length (bu l key) ⟨key.toArray⟩ v w (ni hv df h0 hf) hi (by omega) (fun w1 hR=>?_)).mono fun e w'=>?_
 ·obtain⟨β1,Z1,hn⟩:=hR;have hb1:=nO hn hm hb;obtain⟨UD,Hm,cap,cl,el,fr,DV,l1,l2,l3,l4,l5,l6,l7,l8,l9⟩:=rI hn.sim hm hx oB il (by omega) hb1 hne;have:=nO hn oB hbl;rw[DV] at this;cases this;refine⟨cap,_,l5,l8,by simp only[World.cell?,l1];rw[if_neg (by simp)];exact Array.getElem?_eq_getElem (by omega),?_⟩;simp only[World.frozen?,l1];have:=l3.2 (dg+ol+bu l key*2+1) (by omega)
  simpa using this
 ·rintro⟨rfl,w1,⟨β1,Z1,hn⟩,rfl⟩;have h9:=EC hn.sim (Az (w:=w1) (x:=st.x β1 Z1) (.im _ _ (.int .i64 v)) rfl) hw (nO hn oB hbl);have e:dg+(ol+bu l key*2+1)=dg+ol+bu l key*2+1:=by omega
  rw[e] at h9;exact⟨rfl,β1,Z1,hn.trans h9⟩
end
theorem pw {β:Nat→Option (Nat×Nat)} {n b i:Nat} (h:i≠n):db β n b i=β i:=by unfold db;rw[if_neg h]
theorem xG {st:St} {k au:Nat} {ar:Bool} {c cs:List D} {ah:St} (hm:st.bW k au=some (ar,c)) (hl:cs.length=c.length) (h:st.wr k au 0 cs=some ah):ah={st with bs:=st.bs.set k (.mem au ar cs)}:=by
 unfold St.wr at h;rw[hm] at h;simp only at h
 split at h
 ·cases h;rw[zD cs c hl]
 ·cases h
theorem yH (l ys:List D) {n:Nat} (h:n≤l.length):(wD l n ys).length=l.length+ys.length:=by
 unfold wD;simp only[List.length_append,List.length_take,List.length_drop];omega
theorem E9 (l:List iJ):((l.map de).flatten).length=l.length*2:=by
 induction l with
 |nil=>rfl
 |cons a l ih=>simp only[List.map_cons,List.flatten_cons,List.length_append,ih,List.length_cons];show 2+_=_;omega
theorem Ca {R:D→Value→Prop} {mA:List D} {cs:List Value} {i:Nat} {y1 y2:D} {v1 v2:Value} {cl:Array Value} {o n:Nat} (HD:mA.length=n*2) (hcl:cs.length=n*2) (hi:i<n) (il:o+(n+1)*2≤cl.size)
  (hr:∀(j:Nat) d,mA[j]?=some d→∃u,cs[j]?=some u∧u.oneCell'=true∧R d u) (wP:∀(j:Nat) u,(cs.take (i*2))[j]?=some u→cl[o+j]?=some u) (h1:R y1 v1∧v1.oneCell'=true) (h2:R y2 v2∧v2.oneCell'=true) {p q:Nat} {A B:List Value} {X:Array Value}
  (hX:(p=o+(i+1)*2∧A=cs.drop (i*2)∧q=o+i*2∧B=[v1,v2])∨(p=o+i*2∧A=[v1,v2]∧q=o+(i+1)*2∧B=cs.drop (i*2))) (Xw:X=gh (gh cl p A) q B):
  ∀(j:Nat) d,(wD mA (i*2) [y1,y2])[j]?=some d→∃u,X[o+j]?=some u∧u.oneCell'=true∧R d u:=by
 intro j d hd
 have hA:p+A.length≤cl.size:=by rcases hX with⟨rfl,rfl,rfl,rfl⟩|⟨rfl,rfl,rfl,rfl⟩<;>simp only[List.length_drop,List.length_cons,List.length_nil]<;>omega
 have hB:q+B.length≤(gh cl p A).size:=by rw[eS];rcases hX with⟨rfl,rfl,rfl,rfl⟩|⟨rfl,rfl,rfl,rfl⟩<;>simp only[List.length_drop,List.length_cons,List.length_nil]<;>omega
 have hget:X[o+j]?=if q≤o+j∧o+j<q+B.length then B[o+j-q]? else if p≤o+j∧o+j<p+A.length then A[o+j-p]? else cl[o+j]?:=by
  rw[Xw,lq _ _ _ _ hB,lq _ _ _ _ hA]
 have hdl:(cs.drop (i*2)).length=(n-i)*2:=by rw[List.length_drop];omega
 have hjl:j<(n+1)*2:=by
  have:=(List.getElem?_eq_some_iff.1 hd).1;rw[yH _ _ (by omega)] at this;simp only[List.length_cons,List.length_nil] at this;omega
 unfold wD at hd
 by_cases c1:j<i*2
 ·rw[List.getElem?_append_left (by rw[List.length_take];omega),List.getElem?_take,if_pos c1] at hd;obtain⟨u,u1,u2,u3⟩:=hr j d hd;refine⟨u,?_,u2,u3⟩;rw[hget];have h3:=wP j u (by rw[List.getElem?_take,if_pos c1];exact u1)
  rcases hX with⟨rfl,rfl,rfl,rfl⟩|⟨rfl,rfl,rfl,rfl⟩
  ·rw[if_neg (by omega),if_neg (by omega)];exact h3
  ·rw[if_neg (by omega),if_neg (by omega)];exact h3
 ·rw[List.getElem?_append_right (by rw[List.length_take];omega),List.length_take,Nat.min_eq_left (by omega)] at hd
  by_cases c2:j<(i+1)*2
  ·rw[List.getElem?_append_left (by simp only[List.length_cons,List.length_nil];omega)] at hd
   have hin:∃u,([v1,v2]:List Value)[j-i*2]?=some u∧u.oneCell'=true∧R d u:=by
    have:j-i*2=0∨j-i*2=1:=by omega
    rcases this with e|e
    ·rw[e] at hd⊢;cases hd;exact⟨v1,rfl,h1.2,h1.1⟩
    ·rw[e] at hd⊢;cases hd;exact⟨v2,rfl,h2.2,h2.1⟩
   obtain⟨u,u1,u2,u3⟩:=hin;refine⟨u,?_,u2,u3⟩;rw[hget]
   rcases hX with⟨rfl,rfl,rfl,rfl⟩|⟨rfl,rfl,rfl,rfl⟩
   ·rw[if_pos (by simp only[List.length_cons,List.length_nil];omega),←u1];congr 1;omega
   ·rw[if_neg (by omega),if_pos (by simp only[List.length_cons,List.length_nil];omega),←u1];congr 1;omega
  ·rw[List.getElem?_append_right (by simp only[List.length_cons,List.length_nil];omega)] at hd;simp only[List.length_cons,List.length_nil,List.getElem?_drop] at hd;obtain⟨u,u1,u2,u3⟩:=hr _ d hd;refine⟨u,?_,u2,u3⟩;rw[hget]
   rcases hX with⟨rfl,rfl,rfl,rfl⟩|⟨rfl,rfl,rfl,rfl⟩
   ·rw[if_neg (by simp only[List.length_cons,List.length_nil];omega),if_pos (by omega),←u1,List.getElem?_drop];congr 1;omega
   ·rw[if_pos (by omega),←u1,List.getElem?_drop];congr 1;omega
section
variable(hv:eQ.Ok Tryz.prog∧eQ.gC∧gx Tryz.prog eQ (dJ eQ)) {w:World} {st st1 st2 EU:St} {β:Nat→Option (Nat×Nat)} {Z:Nat→Prop} (df:fG w st β Z) {k au off:Nat} {key:List UInt8} {v:Int} {u0:Value} (h0:VR w (st.x β Z) (.ptr k au off) u0) {l:List iJ} {x x':D} {ar:Bool} {ct:List D} (hm:st.bW k au=some (ar,ct)) (hx:ct[off]?=some x) (ht:oE st x=some l)
 (hf:Ev eQ 57 [.ptr k au off,.str key] st (.tup [.int .i64 (bu l key:Nat),.bool (dh l key)]) st) (hk:Mf k x≠k)
include hv df h0 hm hx ht hf hk
theorem zV (sN:dh l key=false) (hi:bu l key<l.length) (ha:cX eQ [119,119] x (.win st.bs.length 0 0 1 2) (st.push (.mem 0 true [.str key,.int .i64 v]))=some (x',st1)) (hp:vY x' (bu l key) l.length ((l.map de).flatten) [.str key,.int .i64 v] st1=some st2) (hw:st2.wr k au off [x']=some EU):
  Calls Tryz.prog 40 #[u0,.string ⟨key.toArray⟩,.int .i64 v] w fun e w'=>e=.returned (.bool true)∧∃β' Z',Nx w st β Z w' EU β' Z':=by
 obtain⟨a,rfl,_,hat⟩:=vI h0;obtain⟨bt,base,hb,rfl⟩:=hat (bm hm).2;have hb:β k=some (bt,base):=hb
 rcases iQ ht with⟨rfl,rfl⟩|⟨kl,vl,ol,c,rfl,oB,il,hlen,yM⟩
 ·simp at hi
 have hne:kl≠k:=hk;obtain⟨bl,dg,_,_,_,_,hbl,_⟩:=rI df hm hx oB il (by omega) hb hne;have I4:=nI (bx:=.mem 0 true [.str key,.int .i64 v]) oB;have Pc:=nI (bx:=.mem 0 true [.str key,.int .i64 v]) hm;obtain⟨_,rfl,eG,IW⟩:=tq ha rfl oB;have Ql:(c.take (ol+l.length*2)).drop ol=(l.map de).flatten:=by rw[List.drop_take,Nat.add_sub_cancel_left];exact yM
 rw[Ql] at IW;have DM:=E9 l;generalize hold:(l.map de).flatten=mA at*;have hil:=yH mA [.str key,.int .i64 v] (n:=bu l key*2) (by omega);simp only[List.length_cons,List.length_nil] at hil
 have K0:st2={(st.push (.mem 0 true [.str key,.int .i64 v])) with bs:=(st.push (.mem 0 true [.str key,.int .i64 v])).bs.set kl (.mem (vl+1) true (wD mA (bu l key*2) [.str key,.int .i64 v]))}:=by
  unfold vY at hp;rw[if_pos hi] at hp;have NU:kl<(st.push (.mem 0 true [.str key,.int .i64 v])).bs.length:=by simp only[St.push,List.length_append,List.length_cons,List.length_nil];omega
  have Ci:st1.bW kl (vl+1)=some (true,mA++[.str key,.int .i64 v]):=by
   rw[IW];unfold St.bW;simp only;rw[List.getElem?_set_self NU];simp
  have:=xG Ci (by rw[hil,List.length_append];rfl) hp;rw[this,IW];simp only[List.set_set]
 clear IW hp ha;generalize hI:wD mA (bu l key*2) [.str key,.int .i64 v]=I at*;rw[sN] at hf;generalize bu l key=i at*;generalize hn:l.length=n at*
 have hR:∀w1,(∃β1 Z1,Nx w st β Z w1 st β1 Z1)→∃c cs,AtTab bt (base+off) bl (dg+ol) n w1 c cs:=by
  rintro w1 ⟨β1,Z1,pV⟩;obtain⟨UD,Hm,cap,cl,el,fr,DV,l1,l2,l3,l4,l5,l6,l7,l8,l9⟩:=rI pV.sim hm hx oB il (by omega) (nO pV hm hb) hne;have:=nO pV oB hbl;rw[DV] at this;cases this
  have hcs:∀(j:Nat) u,((cl.toList.drop (dg+ol)).take (n*2))[j]?=some u→j<n*2∧cl[dg+ol+j]?=some u:=fun j u hj=>by
   rw[List.getElem?_take] at hj
   split at hj
   ·rw[List.getElem?_drop] at hj;exact⟨by assumption,by simpa using hj⟩
   ·cases hj
  refine⟨cap,(cl.toList.drop (dg+ol)).take (n*2),l5,l6,l7,l8,by simp;omega,?_,?_,fun hroom=>⟨?_,?_,el,cl.size,by simp only[World.shape?,l1],by omega⟩⟩
  ·intro u hu;obtain⟨j,hj⟩:=List.getElem?_of_mem hu;obtain⟨h1,h2⟩:=hcs j u hj;obtain⟨u',h3,h4,_⟩:=l4 (ol+j) _ (List.getElem?_eq_getElem (by omega));rw[←Nat.add_assoc,h2] at h3;cases h3;exact h4
  ·intro j u hj;simp only[World.cell?,l1];rw[if_neg (by simp)];exact(hcs j u hj).2
  ·intro j hj;simp only[World.cell?,l1];rw[if_neg (by simp),Array.getElem?_eq_getElem (by omega)];rfl
  ·intro j hj;simp only[World.frozen?,l1];have:=l3.2 (dg+ol+j) (by omega)
   simpa using this
 refine(ts_mid bt (base+off) bl (dg+ol) n i ⟨key.toArray⟩ v w (ni hv df h0 hf) hi (by omega) hR).mono fun e w'=>?_;rintro⟨rfl,w1,cap,cs,⟨β1,Z1,pV⟩,XH,W2,hW2,N9⟩;obtain⟨a1,a2,a3,a4,a5,a6,a7,a8⟩:=XH;obtain⟨UD,Hm,L1,cl,el,fr,DV,l1,l2,l3,l4,l5,l6,l7,l8,l9⟩:=rI pV.sim hm hx oB il (by omega) (nO pV hm hb) hne;have:=nO pV oB hbl;rw[DV] at this;cases this;rw[l5] at a1;simp only[Option.some.injEq,Value.slice.injEq,true_and] at a1;subst a1;have I9:=nO pV hm hb
 have Nn:=Nx.iV (w':=W2) pV.sim true [.str key,.int .i64 v] #[.string ⟨key.toArray⟩,.int .i64 v] 123 (0,0) (by rw[hW2];rfl) (by rw[hW2];rfl) (by rw[hW2];rfl) (by rw[hW2];rfl) (by simp) (nu.zero _) (fun j d hd=>by
  obtain⟨u,u1,u2,u3⟩:=(mZ (w:=w1) (x:=st.x β1 Z1) key v).at_ hd
  exact⟨u,by simpa using u1,u2,u3⟩)
 obtain⟨J6,_,_,_⟩:=Nn;have NT:db β1 st.bs.length w1.heap.size kl=some (bl,dg):=by rw[pw (by have:=I4.2;omega)];exact DV
 have fQ:db β1 st.bs.length w1.heap.size k=some (bt,base):=by rw[pw (by have:=Pc.2;omega)];exact I9
 generalize db β1 st.bs.length w1.heap.size=β2 at*;have Xs:bl<w1.heap.size:=(Array.getElem?_eq_some_iff.1 l1).1
 have Oi:W2.heap[bl]?=some (.cells cl el fr):=by
  rw[hW2];show(w1.heap.push _)[bl]?=_;rw[Array.getElem?_push,if_neg (by omega)];exact l1
 have hrel:∀(j:Nat) d,mA[j]?=some d→∃u,cs[j]?=some u∧u.oneCell'=true∧VR W2 ((st.push (.mem 0 true [.str key,.int .i64 v])).x β2 Z1) d u:=by
  intro j d hd;have hjl:j<n*2:=by have:=(List.getElem?_eq_some_iff.1 hd).1;omega
  rw[←yM,List.getElem?_take,if_pos hjl,List.getElem?_drop] at hd;obtain⟨u,u1,u2,u3⟩:=l4 _ _ hd;refine⟨u,?_,u2,u3.mono J6.keeps⟩;have h1:cs[j]?=some (cs[j]'(by omega)):=List.getElem?_eq_getElem _;have h2:=a7 j _ h1;simp only[World.cell?,l1] at h2;rw[if_neg (by simp)] at h2;rw[←Nat.add_assoc] at u1;rw[u1] at h2;rw[h1,h2]
 have hnew:=mZ (w:=W2) (x:=(st.push (.mem 0 true [.str key,.int .i64 v])).x β2 Z1) key v;have hy1:=hnew.rel 0 _ _ rfl rfl;have uW:=hnew.rel 1 _ _ rfl rfl;have NS:kl<(st.push (.mem 0 true [.str key,.int .i64 v])).bs.length:=by have:=I4.2;simp only[St.push,List.length_append,List.length_cons,List.length_nil];omega
 have fin:∀(W3:World) (B O Ef sz:Nat),Nx W2 (st.push (.mem 0 true [.str key,.int .i64 v])) β2 Z1 W3 st2 (fun j=>if j=kl then some (B,O) else β2 j) Z1→bF W3 B=some sz→n+1≤Ef→O+Ef*2≤sz→
   ∃β' Z',Nx w st β Z (W3.setCell ⟨bt,base+off,none⟩ (.slice (some ⟨B,O,none⟩) (n+1) Ef)) EU β' Z':=by
  intro W3 B O Ef sz h3 nb N_ hsz
  have Qo:VR W3 (st2.x (fun j=>if j=kl then some (B,O) else β2 j) Z1) (.win kl (vl+1) 0 (n+1) 2) (.slice (some ⟨B,O,none⟩) (n+1) Ef):=by
   refine .win kl (vl+1) 0 (n+1) 2 _ Ef N_ ⟨(B,O),by simp[St.x]⟩ (fun q hq=>?_) fun _=>⟨B,O,sz,by simp[St.x],nb,.inr ⟨rfl,by omega⟩⟩
   rw[K0] at hq;simp[St.x,St.au,NS,cK] at hq;omega
  have h9:=EC h3.sim (Az Qo rfl) hw (b:=bt) (base:=base) (by simp only[if_neg (fun e:k=kl=>hne e.symm)];exact fQ);exact⟨_,_,pV.trans (J6.trans (h3.trans h9))⟩
 rcases N9 with⟨hroom,rfl⟩|⟨G,ROW,hG1,hG2,hG3,rfl⟩
 ·have Gz:W2.drew.heap[bl]?=some (.cells cl el fr):=Oi;have Xk:(cs.drop (i*2)).length=(n-i)*2:=by rw[List.length_drop];omega
  rw[gi _ _ _ _ Gz]
  have hput:(wput W2.drew bl (.cells (gh cl (dg+ol+(i+1)*2) (cs.drop (i*2))) el fr)).heap[bl]?=some (.cells (gh cl (dg+ol+(i+1)*2) (cs.drop (i*2))) el fr):=by
   simp only[wput];rw[Array.getElem?_setIfInBounds_self_of_lt];exact(Array.getElem?_eq_some_iff.1 Gz).1
  rw[gi _ _ _ _ hput]
  have uY:=Ca (R:=VR W2 ((st.push (.mem 0 true [.str key,.int .i64 v])).x β2 Z1)) (mA:=mA) (cs:=cs) (i:=i) (y1:=.str key) (y2:=.int .i64 v) (v1:=.string ⟨key.toArray⟩) (v2:=.int .i64 v) (cl:=cl) (o:=dg+ol) (n:=n) (by omega) a5 hi (by omega) hrel (fun j u hj=>by
   rw[List.getElem?_take] at hj
   split at hj
   ·have h2:=a7 j u hj;simp only[World.cell?,l1] at h2;rw[if_neg (by simp)] at h2;exact h2
   ·cases hj) ⟨hy1,rfl⟩ ⟨uW,rfl⟩ (.inl ⟨rfl,rfl,rfl,rfl⟩) rfl
  rw[hI] at uY;generalize hX:gh (gh cl (dg+ol+(i+1)*2) (cs.drop (i*2))) (dg+ol+i*2) [.string ⟨key.toArray⟩,.int .i64 v]=X at*;have Ps:X.size=cl.size:=by rw[←hX,eS,eS]
  have h3:=Nx.write (a':=true) (lj:=vl+1) (c':=I) (cU:=dg+ol) J6.sim I4.1 NT eG (by omega) (fun e=>by omega) Oi (cs':=X) Ps (by omega) uY;rw[←K0] at h3;have hst:=Nx.still (w':=wput (wput W2.drew bl (.cells (gh cl (dg+ol+(i+1)*2) (cs.drop (i*2))) el fr)) bl (.cells X el fr)) h3.sim (by simp only[wput,rM];rfl) rfl rfl rfl
  have RR:bF (wput (wput W2.drew bl (.cells (gh cl (dg+ol+(i+1)*2) (cs.drop (i*2))) el fr)) bl (.cells X el fr)) bl=some cl.size:=by
   simp only[bF,wput];rw[Array.getElem?_setIfInBounds_self_of_lt (by simp only[Array.size_setIfInBounds];exact(Array.getElem?_eq_some_iff.1 Gz).1)];simp only[Ps]
  exact⟨rfl,fin _ bl (dg+ol) L1 cl.size (h3.trans hst) RR hroom (by omega)⟩
 ·have hh:=Iw (W:=W2) (R:=ROW) (el:=123) [.string ⟨key.toArray⟩,.int .i64 v] (cs.drop (i*2)) (i*2) ((i+1)*2)
  have uY:=Ca (R:=VR W2 ((st.push (.mem 0 true [.str key,.int .i64 v])).x β2 Z1)) (mA:=mA) (cs:=cs) (i:=i) (y1:=.str key) (y2:=.int .i64 v) (v1:=.string ⟨key.toArray⟩) (v2:=.int .i64 v) (cl:=ROW) (o:=0) (n:=n) (by omega) a5 hi (by omega) hrel (fun j u hj=>by
   rw[Nat.zero_add];exact hG3 j u hj) ⟨hy1,rfl⟩ ⟨uW,rfl⟩ (p:=i*2) (q:=(i+1)*2) (.inr ⟨by omega,rfl,by omega,rfl⟩) rfl
  rw[hI] at uY;simp only[Nat.zero_add] at uY;generalize hX:gh (gh ROW (i*2) [.string ⟨key.toArray⟩,.int .i64 v]) ((i+1)*2) (cs.drop (i*2))=X at*;have Ps:X.size=ROW.size:=by rw[←hX,eS,eS]
  generalize hW3:((W2.alloc (Obj.cells ROW 123)).drew.setCells W2.heap.size (i*2) [Value.string ⟨key.toArray⟩,Value.int IntKind.i64 v]).drew.setCells W2.heap.size ((i+1)*2) (cs.drop (i*2))=W3 at*
  have Lc:W3.os=W2.os∧W3.tape=W2.tape∧W3.output=W2.output:=by
   have gw:∀(vs:List Value) (b o:Nat) (W:World),(W.setCells b o vs).os=W.os∧(W.setCells b o vs).tape=W.tape∧(W.setCells b o vs).output=W.output:=by
    intro vs
    induction vs with
    |nil=>intro b o W;exact⟨rfl,rfl,rfl⟩
    |cons x vs ih=>intro b o W;rw[World.setCells];exact ih b (o+1) _
   rw[←hW3];obtain⟨p1,p2,p3⟩:=gw (cs.drop (i*2)) W2.heap.size ((i+1)*2) ((W2.alloc (Obj.cells ROW 123)).drew.setCells W2.heap.size (i*2) [Value.string ⟨key.toArray⟩,Value.int IntKind.i64 v]).drew;obtain⟨q1,q2,q3⟩:=gw [Value.string ⟨key.toArray⟩,Value.int IntKind.i64 v] W2.heap.size (i*2) (W2.alloc (Obj.cells ROW 123)).drew;exact⟨p1.trans q1,p2.trans q2,p3.trans q3⟩
  have h3:=Nx.move (w':=W3) (a':=true) (c':=I) J6.sim I4.1 NT eG hh Lc.1 Lc.2.1 Lc.2.2 (by omega) uY;rw[←K0] at h3
  have RR:bF W3 W2.heap.size=some ROW.size:=by
   simp only[bF,hh];simp[Ps]
  exact⟨rfl,fin W3 W2.heap.size 0 G ROW.size h3 RR hG1 (by omega)⟩
end
section
variable(hv:eQ.Ok Tryz.prog∧eQ.gC∧gx Tryz.prog eQ (dJ eQ)) {w:World} {st st1 st2 EU:St} {β:Nat→Option (Nat×Nat)} {Z:Nat→Prop} (df:fG w st β Z) {k au off:Nat} {key:List UInt8} {v:Int} {u0:Value} (h0:VR w (st.x β Z) (.ptr k au off) u0) {l:List iJ} {x x':D} {ar:Bool} {ct:List D} (hm:st.bW k au=some (ar,ct)) (hx:ct[off]?=some x) (ht:oE st x=some l)
 (hf:Ev eQ 57 [.ptr k au off,.str key] st (.tup [.int .i64 (bu l key:Nat),.bool (dh l key)]) st) (hk:Mf k x≠k)
include hv df h0 hm hx ht hf hk
theorem zW (sN:dh l key=false) (hi:¬bu l key<l.length) (ha:cX eQ [119,119] x (.win st.bs.length 0 0 1 2) (st.push (.mem 0 true [.str key,.int .i64 v]))=some (x',st1)) (hp:vY x' (bu l key) l.length ((l.map de).flatten) [.str key,.int .i64 v] st1=some st2) (hw:st2.wr k au off [x']=some EU):
  Calls Tryz.prog 40 #[u0,.string ⟨key.toArray⟩,.int .i64 v] w fun e w'=>e=.returned (.bool true)∧∃β' Z',Nx w st β Z w' EU β' Z':=by
 obtain⟨a,rfl,_,hat⟩:=vI h0;obtain⟨bt,base,hb,rfl⟩:=hat (bm hm).2;have hb:β k=some (bt,base):=hb;have hle:=y5 l key;have hil:bu l key=l.length:=by omega
 have hst:st2=st1:=by
  unfold vY at hp;rw[if_neg hi] at hp;exact(Option.some.inj hp).symm
 subst hst;clear hp;have Pc:=nI (bx:=.mem 0 true [.str key,.int .i64 v]) hm;rw[sN,hil] at hf;clear hi
 have T2:x=.nul∧l.length=0∨∃kl vl ol,x=.win kl vl ol l.length 2:=by
  rcases iQ ht with⟨rfl,rfl⟩|⟨kl,vl,ol,c,rfl,_⟩
  ·exact .inl ⟨rfl,rfl⟩
  ·exact .inr ⟨kl,vl,ol,rfl⟩
 generalize l.length=n at*
 have run:∀w1 β1 Z1,Nx w st β Z w1 st β1 Z1→∃bs c a m c' w3 β3,w1.cell? ⟨bt,base+off,none⟩=some (.slice bs n c)∧w1.frozen? ⟨bt,base+off,none⟩=false∧n≤c∧(bs=none→n=0)∧
   (Builtin.append_ #[119,119] 119 #[.slice bs n c,.slice (some ⟨w1.heap.size,0,none⟩) 1 1]).run Tryz.prog (w1.alloc (.cells #[.string ⟨key.toArray⟩,.int .i64 v] 123))=.ok (.slice (some a) m c') w3∧
   Nx w st β Z w3 st2 β3 Z1∧β3 k=some (bt,base)∧VR w3 (st2.x β3 Z1) x' (.slice (some a) m c'):=by
  intro w1 β1 Z1 pV;have I9:=nO pV hm hb;obtain⟨cs,Mp,Mo,t1,t2,t3,t4⟩:=pV.sim.row hm I9;obtain⟨u,u1,u2,u3⟩:=t4 off _ hx;have Le:off<ct.length:=(List.getElem?_eq_some_iff.1 hx).1
  obtain⟨J6,p1,p2,p3⟩:=Nx.iV (w':=w1.alloc (.cells #[.string ⟨key.toArray⟩,.int .i64 v] 123)) pV.sim true [.str key,.int .i64 v] #[.string ⟨key.toArray⟩,.int .i64 v] 123 (0,0) rfl rfl rfl rfl (by simp) (nu.zero _) (fun j d hd=>by
   obtain⟨u,u1,u2,u3⟩:=(mZ (w:=w1) (x:=st.x β1 Z1) key v).at_ hd
   exact⟨u,by simpa using u1,u2,u3⟩)
  have fQ:db β1 st.bs.length w1.heap.size k=some (bt,base):=by rw[pw (by have:=Pc.2;omega)];exact I9
  have Ga:VR (w1.alloc (.cells #[.string ⟨key.toArray⟩,.int .i64 v] 123)) ((st.push (.mem 0 true [.str key,.int .i64 v])).x (db β1 st.bs.length w1.heap.size) Z1) (.win st.bs.length 0 0 1 2) (.slice (some ⟨w1.heap.size,0,none⟩) 1 1):=
   jW p2 p3 p1 (Nat.le_refl _) (by simp)
  have Vq:∃bs c,u=.slice bs n c∧n≤c∧(bs=none→n=0):=by
   rcases T2 with⟨rfl,h⟩|⟨kl,vl,ol,rfl⟩
   ·exact⟨none,0,by rw[ei u3,h],by omega,fun _=>h⟩
   ·obtain⟨a,cap,rfl,hc,_⟩:=dv u3;exact⟨some a,cap,rfl,hc,fun h=>by cases h⟩
  obtain⟨bs,c,rfl,N',ny⟩:=Vq;obtain⟨z,w3,β3,r1,r2,r3⟩:=vC hv.1 (ty:=119) J6.sim (u3.mono J6.keeps) Ga ha
  have hz:∃a m c',z=.slice (some a) m c'∧True:=by
   rcases T2 with⟨rfl,h⟩|⟨kl,vl,ol,rfl⟩
   ·have:∃p q o m s,x'=.win p q o m s:=by
     obtain⟨i,hi,hs,hb1⟩:=Cb
     have ig:kT (st.push (.mem 0 true [.str key,.int .i64 v])) (.win st.bs.length 0 0 1 2)=some (1,[.str key,.int .i64 v]):=by
      have:(st.push (.mem 0 true [.str key,.int .i64 v])).bW st.bs.length 0=some (true,[.str key,.int .i64 v]):=by
       unfold St.bW St.push;simp
      simp[kT,this]
     have ha:=ha;unfold cX at ha;simp only[EF] at ha
     split at ha
     ·cases ha
     ·obtain⟨i',iw,ha⟩:=Option.bind_eq_some_iff.1 ha;rw[hi] at iw;cases iw;obtain⟨z',hz,ha⟩:=Option.bind_eq_some_iff.1 ha;rw[ig] at ha;simp only[Option.bind_some] at ha
      split at ha
      ·cases ha
      ·split at ha
       ·rename_i h1;cases h1
       ·split at ha
        ·cases ha;exact⟨_,_,_,_,_,rfl⟩
        ·cases ha
    obtain⟨p,q,o,m,s,rfl⟩:=this;obtain⟨a,cap,rfl,_⟩:=dv r3;exact⟨a,m,cap,rfl,trivial⟩
   ·obtain⟨c9,NM⟩:∃c9,st.bW kl vl=some (true,c9):=by
     rcases iQ ht with⟨h,_⟩|⟨Yg,XZ,Yf,c',h,Wo,_⟩
     ·cases h
     ·cases h;exact⟨c',Wo⟩
    obtain⟨_,rfl,_,_⟩:=tq ha rfl NM;obtain⟨a,cap,rfl,_⟩:=dv r3;exact⟨a,_,cap,rfl,trivial⟩
  obtain⟨a,m,c',rfl,_⟩:=hz
  have jm:st2.au k=some au:=by
   have hw:=hw;unfold St.wr at hw
   split at hw
   ·rename_i a c Gn;exact(bm Gn).2
   ·cases hw
  have hb3:=(r2.keeps.at_ k au jm (bm Pc.1).2 bt base fQ).1;refine⟨bs,c,a,m,c',w3,β3,?_,?_,N',ny,r1,pV.trans (J6.trans r2),hb3,r3⟩
  ·simp only[World.cell?,t1];simpa using u1
  ·simp only[World.frozen?,t1];have:=t3.2 (base+off) (by omega)
   simpa using this
 refine(set_end bt (base+off) n ⟨key.toArray⟩ v w (ni hv df h0 hf) (fun w1 hR=>?_)).mono fun e w'=>?_
 ·obtain⟨β1,Z1,pV⟩:=hR;obtain⟨bs,c,a,m,c',w3,β3,q1,q2,q3,q4,q5,q6,q7,q8⟩:=run w1 β1 Z1 pV
  obtain⟨a9,c9,NM⟩:∃a9 c9,st2.bW k au=some (a9,c9)∧off<c9.length:=by
   have hw:=hw;unfold St.wr at hw
   split at hw
   ·rename_i a c Gn
    split at hw
    ·rename_i hc;simp only[List.length_cons,List.length_nil] at hc;exact⟨a,c,Gn,by omega⟩
    ·cases hw
   ·cases hw
  obtain⟨cs,Mp,Mo,t1,t2,t3,t4⟩:=q6.sim.row NM.1 q7;refine⟨bs,c,a,m,c',w3,q1,q3,q4,q5,⟨_,by simp only[World.cell?,t1];rw[if_neg (by simp)];exact Array.getElem?_eq_getElem (by have:=NM.2;omega)⟩,?_⟩;simp only[World.frozen?,t1];have:=t3.2 (base+off) (by have:=NM.2;omega)
  simpa using this
 ·rintro⟨rfl,w1,bs,c,a,m,c',w3,⟨β1,Z1,pV⟩,q1,q5,rfl⟩;obtain⟨bs',c2,a2,m2,c3,w4,β3,PU,_,_,_,PO,q6,q7,q8⟩:=run w1 β1 Z1 pV;rw[q1] at PU;simp only[Option.some.injEq,Value.slice.injEq,true_and] at PU;obtain⟨rfl,rfl⟩:=PU;rw[q5] at PO;simp only[Result.ok.injEq,Value.slice.injEq,Option.some.injEq] at PO;obtain⟨⟨rfl,rfl,rfl⟩,rfl⟩:=PO;exact⟨rfl,β3,Z1,q6.trans (EC q6.sim (Az q8 rfl) hw q7)⟩
end
theorem EI (hv:eQ.Ok Tryz.prog∧eQ.gC∧gx Tryz.prog eQ (dJ eQ)) (hfind:∀(st:St) (k au off:Nat) (key:List UInt8) (ar:Bool) (ct:List D) (x:D) (l:List iJ),st.bW k au=some (ar,ct)→ct[off]?=some x→oE st x=some l→Ev eQ 57 [.ptr k au off,.str key] st (.tup [.int .i64 (bu l key:Nat),.bool (dh l key)]) st)
  {pv:Pv} (eG:kD pv 40=false):jj Tryz.prog pv 40 uh:=by
 have EV:∀{k au off:Nat} {key:List UInt8} {v:Int} {st:St} {x:D} {l:List iJ} {d:D} {ah:St},rF k au off key v st x l=some (d,ah)→Mf k x≠k∧((dh l key=true∧d=.bool false∧HY x (bu l key) v st=some ah)∨
   (dh l key=false∧d=.bool true∧∃x' st1 st2,cX eQ [119,119] x (.win st.bs.length 0 0 1 2) (st.push (.mem 0 true [.str key,.int .i64 v]))=some (x',st1)∧vY x' (bu l key) l.length ((l.map de).flatten) [.str key,.int .i64 v] st1=some st2∧st2.wr k au off [x']=some ah)):=by
  intro k au off key v st x l d ah h;unfold rF at h
  split at h
  ·cases h
  ·rename_i hk;refine⟨hk,?_⟩
   split at h
   ·rename_i sN;obtain⟨s,h1,h2⟩:=Option.map_eq_some_iff.1 h;cases h2;exact .inl ⟨sN,rfl,h1⟩
   ·rename_i sN
    split at h
    ·rename_i x' st1 ha
     split at h
     ·rename_i st2 hp;obtain⟨s,h1,h2⟩:=Option.map_eq_some_iff.1 h;cases h2;exact .inr ⟨by simpa using sN,rfl,x',st1,st2,ha,hp,h1⟩
     ·cases h
    ·cases h
 refine⟨fun ds st r hp=>⟨Tryz.f40,_,Tryz.func40,rfl,by decide⟩,fun ds st d ah hp w β Z us df hle va=>?_,fun ds st d ah hp hr=>(by rw[eG] at hr;cases hr),fun ds st d ah hp=>?_⟩
 ·obtain⟨k,au,off,key,v,ar,ct,x,l,rfl,hm,hx,ht,hF⟩:=rE hp
  obtain⟨u0,u1,u2,rfl⟩:∃u0 u1 u2,us=[u0,u1,u2]:=by
   match us,hle with
   |[a,b,c],_=>exact⟨a,b,c,rfl⟩
  have h0:=va 0 _ u0 rfl rfl;have e1:=eY (va 1 _ u1 rfl rfl);have e2:=cj (va 2 _ u2 rfl rfl);subst e1 e2;have hf:=hfind st k au off key ar ct x l hm hx ht;obtain⟨hk,⟨sN,rfl,hw⟩|⟨sN,rfl,x',st1,st2,ha,qM,hw⟩⟩:=EV hF
  ·refine(vN (v:=v) hv df h0 hm hx ht hf hk sN hw).mono fun e w'=>?_;rintro⟨rfl,β',Z',hn⟩;exact⟨_,β',Z',rfl,hn,.im _ _ (.bool _),fun h=>by rw[eG] at h;cases h⟩
  ·by_cases hi:bu l key<l.length
   ·refine(zV hv df h0 hm hx ht hf hk sN hi ha qM hw).mono fun e w'=>?_;rintro⟨rfl,β',Z',hn⟩;exact⟨_,β',Z',rfl,hn,.im _ _ (.bool _),fun h=>by rw[eG] at h;cases h⟩
   ·refine(zW hv df h0 hm hx ht hf hk sN hi ha qM hw).mono fun e w'=>?_;rintro⟨rfl,β',Z',hn⟩;exact⟨_,β',Z',rfl,hn,.im _ _ (.bool _),fun h=>by rw[eG] at h;cases h⟩
 ·obtain⟨k,au,off,key,v,ar,ct,x,l,rfl,hm,hx,ht,hF⟩:=rE hp;obtain⟨hk,⟨sN,rfl,hw⟩|⟨sN,rfl,x',st1,st2,ha,qM,hw⟩⟩:=EV hF
  ·unfold HY at hw
   split at hw
   ·exact jq hw
   ·cases hw
  ·have g1:dt st (st.push (.mem 0 true [.str key,.int .i64 v])):=dt.push st _;have g2:dt (st.push (.mem 0 true [.str key,.int .i64 v])) st1:=qk ha
   have g3:dt st1 st2:=by
    unfold vY at qM
    split at qM
    ·split at qM
     ·exact jq qM
     ·cases qM
    ·cases qM;exact dt.refl _
   exact g1.trans (g2.trans (g3.trans (jq hw)))
end Go.Proofs.YthahmilhpmfkfaaGreat
