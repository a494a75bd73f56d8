/-
 The table's Set, given to V.
-/
import Derived.Test.YtpcicphadikioaaGreatTSrw
import Derived.Test.YtpcicphadikioaaGreatTView
import Derived.Test.YtpcicphadikioaaGreatTM2
import Derived.KernelRfl
set_option linter.unusedSimpArgs false
set_option linter.unusedVariables false
namespace Go.Proofs.YtpcicphadikioaaGreat
open Go.V Go Go.RowKit
structure ir where
 k:List UInt8
 v:Int
def cT (r:ir):List D:=[.str r.k,.int .i64 r.v]
def oh:List D→Option (List ir)
 |[]=>some []
 | .str a::.int .i64 b::l=>(oh l).map (⟨a,b⟩::·)
 |_=>none
theorem pE:∀{c:List D} {l:List ir},oh c=some l→c=(l.map cT).flatten
 |[],l,h=>by cases h;rfl
 |[_],l,h=>by
  unfold oh at h
  split at h
  ·rename_i he;cases he
  ·rename_i he;cases he
  ·cases h
 |d::e::c,l,h=>by
  unfold oh at h
  split at h
  ·rename_i he;cases he
  ·rename_i a b m he;cases he;obtain⟨r,h1,rfl⟩:=Option.map_eq_some_iff.1 h;rw[pE h1];rfl
  ·cases h
theorem vH:∀l:List ir,oh ((l.map cT).flatten)=some l
 |[]=>rfl
 |r::l=>by
  show oh (.str r.k::.int .i64 r.v::(l.map cT).flatten)=_;simp only[oh,vH l,Option.map_some]
def gG (ks:List (List UInt8)) (key:List UInt8):Nat→Nat→Nat→Nat
 |0,lo,_=>lo
 |f+1,lo,hi=>if lo<hi then(if Op.bytesLess (ks.getD ((lo+hi)/2) []) key then gG ks key f ((lo+hi)/2+1) hi else gG ks key f lo ((lo+hi)/2)) else lo
def bc (l:List ir) (key:List UInt8):Nat:=gG (l.map (·.k)) key l.length 0 l.length
def cP (l:List ir) (key:List UInt8):Bool:=decide (bc l key<l.length) &&((l.map (·.k)).getD (bc l key) []==key)
theorem nP (ks:List (List UInt8)) (key:List UInt8):∀(f lo hi:Nat),lo≤hi→gG ks key f lo hi≤hi
 |0,lo,hi,h=>h
 |f+1,lo,hi,h=>by
  unfold gG
  split
  ·split
   ·exact nP ks key f _ _ (by omega)
   ·exact Nat.le_trans (nP ks key f _ _ (by omega)) (by omega)
  ·exact h
theorem w9 (l:List ir) (key:List UInt8):bc l key≤l.length:=nP _ _ _ _ _ (Nat.zero_le _)
def ng (st:St):D→Option (List ir)
 | .nul=>some []
 | .win kl vl ol len 2=>match st.bM kl vl with
  |some (true,c)=>if ol+len*2≤c.length∧len<1000000 then oh ((c.drop ol).take (len*2)) else none
  |_=>none
 |_=>none
def ux (l:List D) (n:Nat) (ys:List D):List D:=l.take n++(ys++l.drop n)
def tS (x:D) (i n:Nat) (kS ys:List D) (st:St):Option St:=
 if i<n then(match x with
  | .win kl vl ol _ 2=>st.wr kl vl ol (ux kS (i*2) ys)
  |_=>none) else some st
def I1 (k:Nat):D→Nat
 | .win kl _ _ _ _=>kl
 |_=>k+1
def Fb (x:D) (i:Nat) (v:Int) (st:St):Option St:=match x with
 | .win kl vl ol _ 2=>st.wr kl vl (ol+i*2+1) [.int .i64 v]
 |_=>none
noncomputable def px (k aq off:Nat) (key:List UInt8) (v:Int) (st:St) (x:D) (l:List ir):Option (D×St):=
 if I1 k x=k then none
 else if cP l key=true then(Fb x (bc l key) v st).map fun ah=>(.bool false,ah)
 else match cN dN [116,116] x (.win st.bs.length 0 0 1 2) (st.push (.mem 0 true [.str key,.int .i64 v])) with
  |some (x',st1)=>match tS x' (bc l key) l.length ((l.map cT).flatten) [.str key,.int .i64 v] st1 with
   |some st2=>(st2.wr k aq off [x']).map fun vp=>(.bool true,vp)
   |none=>none
  |none=>none
noncomputable def rY:List D→St→Option (D×St)
 |[.ptr k aq off,.str key,.int .i64 v],st=>
  match st.bM k aq with
  |some (_,ct)=>match ct[off]? with
   |some x=>match ng st x with
    |some l=>px k aq off key v st x l
    |none=>none
   |none=>none
  |none=>none
 |_,_=>none
theorem pw {ds:List D} {st:St} {r:D×St} (h:rY ds st=some r):∃k aq off key v ar ct x l,ds=[.ptr k aq off,.str key,.int .i64 v]∧st.bM k aq=some (ar,ct)∧ct[off]?=some x∧ng st x=some l∧px k aq off key v st x l=some r:=by
 unfold rY at h
 split at h
 ·rename_i k aq off key v
  split at h
  ·rename_i ar ct hm
   split at h
   ·rename_i x hx
    split at h
    ·rename_i l hl;exact⟨k,aq,off,key,v,ar,ct,x,l,rfl,hm,hx,hl,h⟩
    ·cases h
   ·cases h
  ·cases h
 ·cases h
theorem gS {st:St} {x:D} {l:List ir} (h:ng st x=some l):(x=.nul∧l=[])∨∃kl vl ol c,x=.win kl vl ol l.length 2∧st.bM kl vl=some (true,c)∧ol+l.length*2≤c.length∧l.length<1000000∧(c.drop ol).take (l.length*2)=(l.map cT).flatten:=by
 unfold ng at h
 split at h
 ·cases h;exact .inl ⟨rfl,rfl⟩
 ·rename_i kl vl ol len
  split at h
  ·rename_i c hm
   split at h
   ·rename_i hc;have hs:=pE h
    have hlen:l.length=len:=by
     have h1:=congrArg List.length hs
     have h2:∀l:List ir,((l.map cT).flatten).length=l.length*2:=by
      intro l
      induction l with
      |nil=>rfl
      |cons a l ih=>simp only[List.map_cons,List.flatten_cons,List.length_append,ih,List.length_cons];show 2+_=_;omega
     rw[h2] at h1;simp only[List.length_take,List.length_drop] at h1;omega
    subst hlen;exact .inr ⟨kl,vl,ol,c,rfl,hm,hc.1,hc.2,hs⟩
   ·cases h
  ·cases h
 ·cases h
theorem yu {α:Type} (a:Array α) (b:Nat) (x y:α) (f:α→α) (h:a[b]?=some x) (hf:f x=y):a.modify b f=a.setIfInBounds b y:=by
 apply Array.ext_getElem?;intro j;rw[Array.getElem?_modify]
 by_cases hj:b=j
 ·subst hj;have hb:b<a.size:=(Array.getElem?_eq_some_iff.1 h).1;rw[if_pos rfl,h,Array.getElem?_setIfInBounds_self_of_lt hb,←hf];rfl
 ·rw[if_neg hj,Array.getElem?_setIfInBounds_ne hj]
theorem CC {α:Type} (a:Array α) (b:Nat) (x:α) (h:a[b]?=some x):a.setIfInBounds b x=a:=by
 apply Array.ext_getElem?;intro j
 by_cases hj:b=j
 ·subst hj;rw[Array.getElem?_setIfInBounds_self_of_lt (Array.getElem?_eq_some_iff.1 h).1,h]
 ·rw[Array.getElem?_setIfInBounds_ne hj]
theorem pB {α:Type} (a:Array α) (b:Nat) (x y:α):(a.setIfInBounds b x).setIfInBounds b y=a.setIfInBounds b y:=by
 apply Array.ext_getElem?;intro j
 by_cases hj:b=j
 ·subst hj
  by_cases hb:b<a.size
  ·rw[Array.getElem?_setIfInBounds_self_of_lt (by simpa using hb),Array.getElem?_setIfInBounds_self_of_lt hb]
  ·simp[Array.getElem?_eq_none (Nat.le_of_not_lt hb)]
 ·rw[Array.getElem?_setIfInBounds_ne hj,Array.getElem?_setIfInBounds_ne hj,Array.getElem?_setIfInBounds_ne hj]
theorem xR {w:World} {b o:Nat} {cs:Array Value} {el:TypeId} {fr:Nat×Nat} (h:w.heap[b]?=some (.cells cs el fr)) (v:Value):w.setCell ⟨b,o,none⟩ v=wput w b (.cells (cs.setIfInBounds o v) el fr):=by
 unfold World.setCell wput;rw[yu _ _ _ (.cells (cs.setIfInBounds o v) el fr) _ h rfl]
theorem ft {b:Nat} {el:TypeId} {fr:Nat×Nat}:∀(vs:List Value) (o:Nat) (w:World) (cs:Array Value),w.heap[b]?=some (.cells cs el fr)→w.setCells b o vs=wput w b (.cells (fq cs o vs) el fr)
 |[],o,w,cs,h=>by
  show w={w with heap:=_};rw[show fq cs o []=cs from rfl,CC _ _ _ h]
 |v::vs,o,w,cs,h=>by
  have hb:b<w.heap.size:=(Array.getElem?_eq_some_iff.1 h).1;rw[World.setCells,xR h,ft vs (o+1) _ (cs.setIfInBounds o v) (by simp only[wput];rw[Array.getElem?_setIfInBounds_self_of_lt hb])];show({w with heap:=_}:World)=_;simp only[wput,pB,fq]
theorem FK {W:World} {R:Array Value} {el:TypeId} (vs us:List Value) (o p:Nat):((((W.alloc (.cells R el)).drew.setCells W.heap.size o vs).drew).setCells W.heap.size p us).heap=W.heap.push (.cells (fq (fq R o vs) p us) el (0,0)):=by
 have h0:(W.alloc (.cells R el)).drew.heap[W.heap.size]?=some (.cells R el (0,0)):=by
  show(W.heap.push _)[W.heap.size]?=_;simp
 rw[ft vs o _ R h0]
 have h1:(wput (W.alloc (.cells R el)).drew W.heap.size (.cells (fq R o vs) el (0,0))).drew.heap[W.heap.size]?=some (.cells (fq R o vs) el (0,0)):=by
  show((W.heap.push _).setIfInBounds W.heap.size _)[W.heap.size]?=_;rw[Array.getElem?_setIfInBounds_self_of_lt (by simp)]
 rw[ft us p _ _ h1];show(((W.heap.push _).setIfInBounds W.heap.size _).setIfInBounds W.heap.size _)=_;rw[pB];apply Array.ext_getElem?;intro j
 by_cases hj:W.heap.size=j
 ·subst hj;rw[Array.getElem?_setIfInBounds_self_of_lt (by simp)];simp
 ·rw[Array.getElem?_setIfInBounds_ne hj,Array.getElem?_push,Array.getElem?_push,if_neg (fun e=>hj e.symm),if_neg (fun e=>hj e.symm)]
theorem Ci {w:World} {st ah:St} {β:Nat→Option (Nat×Nat)} {Z:Nat→Prop} (h:eK w st β Z) {k aq off:Nat} {ds:List D} {us:List Value} (hu:LR w (st.x β Z) ds us) (hw:st.wr k aq off ds=some ah) {b base:Nat} (hb:β k=some (b,base)):
  Nx w st β Z (w.setCells b (base+off) us) ah β Z:=by
 obtain⟨w',h1,β',h2,rfl⟩:=va (P:=Tryz.prog) h hu hw hb (.inr rfl);unfold St.wr at hw
 split at hw
 ·rename_i a c hm
  split at hw
  ·rename_i hc;obtain⟨cs,el,fr,r1,r2,r3,r4⟩:=h.row hm hb
   have h3:=run_storeCells_cells (P:=Tryz.prog) b (base+off) us 0 w (fun j hj=>by
    simp only[World.cell?,r1]
    rw[Array.getElem?_eq_getElem (by have:=hu.len;omega)];rfl) (fun j hj=>by
    simp only[World.frozen?,r1];have:=r3.2 (base+off+0+j) (by have:=hu.len;omega)
    simpa using this) hu.one
   rw[h1] at h3;cases h3;exact h2
  ·cases hw
 ·cases hw
theorem tE {w:World} {x:X} {k vr off:Nat} {v:Value} (h:VR w x (.ptr k vr off) v):∃a,v=.pointer (some a)∧(∃p,x.β k=some p)∧(x.aq k=some vr→∃b base,x.β k=some (b,base)∧a=⟨b,base+off,none⟩):=by
 cases h with
 |im _ _ h=>cases h
 |ptr _ _ _ a hk hm h=>exact⟨a,rfl,hk,h⟩
theorem xQ:∀(cs c:List D),cs.length=c.length→setMany c 0 cs=cs:=fun cs c h=>by
 apply List.ext_getElem?;intro j;rw[gh cs c 0 j (by omega)]
 split
 ·rfl
 ·rw[List.getElem?_eq_none (by omega),List.getElem?_eq_none (by omega)]
theorem me {st:St} {bx:iu} {k aq:Nat} {ar:Bool} {c:List D} (h:st.bM k aq=some (ar,c)):(st.push bx).bM k aq=some (ar,c)∧k<st.bs.length:=by
 have hb:=(aZ h).1;have hk:k<st.bs.length:=(List.getElem?_eq_some_iff.1 hb).1;refine⟨?_,hk⟩;unfold St.bM St.push;simp only;rw[List.getElem?_append_left hk];exact h
theorem Cl:dN.bY 116=some (.slice 122):=by kernel_rfl
theorem z_:∃i,dN.info 122=some i∧i.size=2∧1≤i.bytes:=by
 have h:(match dN.info 122 with|some i=>i.size==2 &&decide (1≤i.bytes)|none=>false)=true:=by kernel_rfl
 cases hi:dN.info 122 with
 |none=>rw[hi] at h;cases h
 |some i=>rw[hi] at h;simp only[Bool.and_eq_true,beq_iff_eq,decide_eq_true_eq] at h;exact⟨i,rfl,h⟩
theorem rp {st st1:St} {x x':D} {y z:D} (h:cN dN [116,116] x (.win st.bs.length 0 0 1 2) (st.push (.mem 0 true [y,z]))=some (x',st1)) {kl vl ol len:Nat} (hx:x=.win kl vl ol len 2) {c:List D} (hm:st.bM kl vl=some (true,c)):
  ol+len*2≤c.length∧x'=.win kl (vl+1) 0 (len+1) 2∧(st.push (.mem 0 true [y,z])).ro≤kl∧st1={(st.push (.mem 0 true [y,z])) with bs:=(st.push (.mem 0 true [y,z])).bs.set kl (.mem (vl+1) true ((c.take (ol+len*2)).drop ol++[y,z]))}:=by
 subst hx
 have gO:kR (st.push (.mem 0 true [y,z])) (.win st.bs.length 0 0 1 2)=some (1,[y,z]):=by
  have:(st.push (.mem 0 true [y,z])).bM st.bs.length 0=some (true,[y,z]):=by
   unfold St.bM St.push;simp
  simp[kR,this]
 obtain⟨i,hi,hs,hb⟩:=z_;unfold cN at h;simp only[Cl] at h
 split at h
 ·cases h
 ·rename_i F6;obtain⟨i',pb,h⟩:=Option.bind_eq_some_iff.1 h;rw[hi] at pb;cases pb;obtain⟨z',hz,h⟩:=Option.bind_eq_some_iff.1 h;rw[gO] at h;simp only[Option.bind_some] at h
  split at h
  ·cases h
  ·rename_i uJ;rw[(me hm).1] at h;simp only[hs] at h
   split at h
   ·cases h
   ·rename_i hsz;simp only[not_or,Nat.not_lt] at hsz
    split at h
    ·rename_i h1;cases h1
    ·split at h
     ·rename_i hc;cases h;exact⟨hsz.2,rfl,di hc.2,rfl⟩
     ·cases h
theorem pz {w:World} {st:St} {β:Nat→Option (Nat×Nat)} {Z:Nat→Prop} (h:eK w st β Z) {k aq off:Nat} {ar:Bool} {ct:List D} (hm:st.bM k aq=some (ar,ct)) {kl vl ol len:Nat} (hx:ct[off]?=some (.win kl vl ol len 2)) {c:List D} (na:st.bM kl vl=some (true,c)) (jN:ol+len*2≤c.length) (hlen:1≤len) {bt base:Nat} (hb:β k=some (bt,base)) (hne:kl≠k):
  ∃bl cO cap cl el fr,β kl=some (bl,cO)∧w.heap[bl]?=some (.cells cl el fr)∧cO+c.length≤cl.size∧lV cl.size fr∧(∀(j:Nat) d,c[j]?=some d→∃u,cl[cO+j]?=some u∧u.oneCell'=true∧VR w (st.x β Z) d u)∧
   w.cell? ⟨bt,base+off,none⟩=some (.slice (some ⟨bl,cO+ol,none⟩) len cap)∧w.frozen? ⟨bt,base+off,none⟩=false∧bt≠bl∧len≤cap∧cO+ol+cap*2≤cl.size:=by
 obtain⟨cs,Jc,Jb,t1,t2,t3,t4⟩:=h.row hm hb;obtain⟨u,u1,u2,u3⟩:=t4 off _ hx;obtain⟨a,cap,rfl,hc,⟨p,hp⟩,_,hat⟩:=c_ u3;obtain⟨bl,cO,sz,hbl,DC,rO⟩:=hat (aZ na).2;obtain⟨rfl,hsz⟩:=rO.resolve_left (by omega);have hbl:β kl=some (bl,cO):=hbl;obtain⟨cl,el,fr,l1,l2,l3,l4⟩:=h.row na hbl;have hsz2:sz=cl.size:=by simp only[bo,l1] at DC;cases DC;rfl
 have H0:off<ct.length:=(List.getElem?_eq_some_iff.1 hx).1;refine⟨bl,cO,cap,cl,el,fr,hbl,l1,l2,l3,l4,?_,?_,?_,hc,by omega⟩
 ·simp only[World.cell?,t1];simpa using u1
 ·simp only[World.frozen?,t1];have:=t3.2 (base+off) (by omega)
  simpa using this
 ·intro e;subst e;exact hne (h.inj _ _ _ _ _ hbl hb)
theorem mj {w w1:World} {st:St} {β β1:Nat→Option (Nat×Nat)} {Z Z1:Nat→Prop} (hn:Nx w st β Z w1 st β1 Z1) {k aq:Nat} {ar:Bool} {ct:List D} (hm:st.bM k aq=some (ar,ct)) {b base:Nat} (hb:β k=some (b,base)):β1 k=some (b,base):=
 (hn.keeps.at_ k aq (aZ hm).2 (aZ hm).2 b base hb).1
section
variable(hv:dN.Ok Tryz.prog∧dN.fc∧fk Tryz.prog dN (cW dN)) {w:World} {st:St} {β:Nat→Option (Nat×Nat)} {Z:Nat→Prop} (cI:eK w st β Z) {k aq off:Nat} {key:List UInt8} {u0:Value} (h0:VR w (st.x β Z) (.ptr k aq off) u0) {i:Nat} {b:Bool} (hf:Ev dN 41 [.ptr k aq off,.str key] st (.tup [.int .i64 (i:Nat),.bool b]) st)
include hv cI h0 hf
theorem lP:Calls Tryz.prog 41 #[u0,.string ⟨key.toArray⟩] w fun e w1=>e=.returned (.tuple #[.int .i64 (i:Nat),.bool b])∧∃β1 Z1,Nx w st β Z w1 st β1 Z1:=by
 unfold Ev at hf;obtain⟨N,hN⟩:=hf;refine((gf hv.1 hv.2.1 hv.2.2 N).calls 41 _ st _ st (hN N (Nat.le_refl _)) w β Z [u0,.string ⟨key.toArray⟩] cI rfl fun j c v hc Ab=>?_).mono fun e w1=>?_
 ·match j,hc,Ab with
  |0,hc,Ab=>cases hc;cases Ab;exact h0
  |1,hc,Ab=>cases hc;cases Ab;exact .im _ _ (.str _)
 ·rintro⟨v,β1,Z1,rfl,hn,Mw,_⟩;obtain⟨vs,rfl,hl,hvs⟩:=pr Mw
  match vs,hl with
  |[v0,v1],_=>
   have e0:=bU (hvs 0 _ v0 rfl rfl);have e1:=dA (hvs 1 _ v1 rfl rfl);subst e0 e1;exact⟨rfl,β1,Z1,hn⟩
end
theorem lH {w:World} {x:X} (key:List UInt8) (v:Int):LR w x [.str key,.int .i64 v] [.string ⟨key.toArray⟩,.int .i64 v]:=by
 refine⟨rfl,?_,?_⟩
 ·intro u hu;simp only[List.mem_cons,List.not_mem_nil,or_false] at hu;rcases hu with rfl|rfl<;>rfl
 ·intro i c u hc hu
  match i,hc,hu with
  |0,hc,hu=>cases hc;cases hu;exact .im _ _ (.str _)
  |1,hc,hu=>cases hc;cases hu;exact .im _ _ (.int _ _)
  |i+2,hc,hu=>simp at hc
theorem yA {w:World} {x:X} {d:D} {u:Value} (h:VR w x d u) (h1:u.oneCell'=true):LR w x [d] [u]:=by
 refine⟨rfl,?_,?_⟩
 ·intro y hy;simp only[List.mem_cons,List.not_mem_nil,or_false] at hy;rw[hy];exact h1
 ·intro i c y hc hy
  match i,hc,hy with
  |0,hc,hy=>cases hc;cases hy;exact h
  |i+1,hc,hy=>simp at hc
section
variable(hv:dN.Ok Tryz.prog∧dN.fc∧fk Tryz.prog dN (cW dN)) {w:World} {st ah:St} {β:Nat→Option (Nat×Nat)} {Z:Nat→Prop} (cI:eK w st β Z) {k aq off:Nat} {key:List UInt8} {v:Int} {u0:Value} (h0:VR w (st.x β Z) (.ptr k aq off) u0) {l:List ir} {x:D} {ar:Bool} {ct:List D} (hm:st.bM k aq=some (ar,ct)) (hx:ct[off]?=some x) (ht:ng st x=some l)
 (hf:Ev dN 41 [.ptr k aq off,.str key] st (.tup [.int .i64 (bc l key:Nat),.bool (cP l key)]) st) (hk:I1 k x≠k)
include hv cI h0 hm hx ht hf hk
theorem tK (qI:cP l key=true) (hw:Fb x (bc l key) v st=some ah):Calls Tryz.prog 24 #[u0,.string ⟨key.toArray⟩,.int .i64 v] w fun e w'=>e=.returned (.bool false)∧∃β' Z',Nx w st β Z w' ah β' Z':=by
 obtain⟨a,rfl,_,hat⟩:=tE h0;obtain⟨bt,base,hb,rfl⟩:=hat (aZ hm).2;have hb:β k=some (bt,base):=hb
 have hi:bc l key<l.length:=by
  unfold cP at qI;simp only[Bool.and_eq_true,decide_eq_true_eq] at qI;exact qI.1
 rcases gS ht with⟨rfl,rfl⟩|⟨kl,vl,ol,c,rfl,na,jN,hlen,DD⟩
 ·cases hw
 have hne:kl≠k:=hk;obtain⟨bl,cO,cap,cl,el,fr,hbl,_⟩:=pz cI hm hx na jN (by omega) hb hne;have hw:st.wr kl vl (ol+bc l key*2+1) [.int .i64 v]=some ah:=hw;rw[qI] at hf;refine(set_found bt (base+off) bl (cO+ol) l.length (bc l key) ⟨key.toArray⟩ v w (lP hv cI h0 hf) hi (by omega) (fun w1 hR=>?_)).mono fun e w'=>?_
 ·obtain⟨β1,Z1,hn⟩:=hR;have hb1:=mj hn hm hb;obtain⟨QF,EE,cap,cl,el,fr,BE,l1,l2,l3,l4,l5,l6,l7,l8,l9⟩:=pz hn.sim hm hx na jN (by omega) hb1 hne;have:=mj hn na hbl;rw[BE] at this;cases this;refine⟨cap,_,l5,l8,by simp only[World.cell?,l1];rw[if_neg (by simp)];exact Array.getElem?_eq_getElem (by omega),?_⟩;simp only[World.frozen?,l1];have:=l3.2 (cO+ol+bc l key*2+1) (by omega)
  simpa using this
 ·rintro⟨rfl,w1,⟨β1,Z1,hn⟩,rfl⟩;have h9:=Ci hn.sim (yA (w:=w1) (x:=st.x β1 Z1) (.im _ _ (.int .i64 v)) rfl) hw (mj hn na hbl);have e:cO+(ol+bc l key*2+1)=cO+ol+bc l key*2+1:=by omega
  rw[e] at h9;exact⟨rfl,β1,Z1,hn.trans h9⟩
end
theorem nT {β:Nat→Option (Nat×Nat)} {n b i:Nat} (h:i≠n):cM β n b i=β i:=by unfold cM;rw[if_neg h]
theorem vA {st:St} {k aq:Nat} {ar:Bool} {c cs:List D} {ah:St} (hm:st.bM k aq=some (ar,c)) (hl:cs.length=c.length) (h:st.wr k aq 0 cs=some ah):ah={st with bs:=st.bs.set k (.mem aq ar cs)}:=by
 unfold St.wr at h;rw[hm] at h;simp only at h
 split at h
 ·cases h;rw[xQ cs c hl]
 ·cases h
theorem wJ (l ys:List D) {n:Nat} (h:n≤l.length):(ux l n ys).length=l.length+ys.length:=by
 unfold ux;simp only[List.length_append,List.length_take,List.length_drop];omega
theorem CH (l:List ir):((l.map cT).flatten).length=l.length*2:=by
 induction l with
 |nil=>rfl
 |cons a l ih=>simp only[List.map_cons,List.flatten_cons,List.length_append,ih,List.length_cons];show 2+_=_;omega
theorem z8 {R:D→Value→Prop} {kS:List D} {cs:List Value} {i:Nat} {y1 y2:D} {v1 v2:Value} {cl:Array Value} {o n:Nat} (EX:kS.length=n*2) (hcl:cs.length=n*2) (hi:i<n) (jN:o+(n+1)*2≤cl.size)
  (hr:∀(j:Nat) d,kS[j]?=some d→∃u,cs[j]?=some u∧u.oneCell'=true∧R d u) (uG:∀(j:Nat) u,(cs.take (i*2))[j]?=some u→cl[o+j]?=some u) (h1:R y1 v1∧v1.oneCell'=true) (h2:R y2 v2∧v2.oneCell'=true) {p q:Nat} {A B:List Value} {X:Array Value}
  (hX:(p=o+(i+1)*2∧A=cs.drop (i*2)∧q=o+i*2∧B=[v1,v2])∨(p=o+i*2∧A=[v1,v2]∧q=o+(i+1)*2∧B=cs.drop (i*2))) (Tx:X=fq (fq cl p A) q B):
  ∀(j:Nat) d,(ux kS (i*2) [y1,y2])[j]?=some d→∃u,X[o+j]?=some u∧u.oneCell'=true∧R d u:=by
 intro j d hd
 have hA:p+A.length≤cl.size:=by rcases hX with⟨rfl,rfl,rfl,rfl⟩|⟨rfl,rfl,rfl,rfl⟩<;>simp only[List.length_drop,List.length_cons,List.length_nil]<;>omega
 have hB:q+B.length≤(fq cl p A).size:=by rw[ei];rcases hX with⟨rfl,rfl,rfl,rfl⟩|⟨rfl,rfl,rfl,rfl⟩<;>simp only[List.length_drop,List.length_cons,List.length_nil]<;>omega
 have hget:X[o+j]?=if q≤o+j∧o+j<q+B.length then B[o+j-q]? else if p≤o+j∧o+j<p+A.length then A[o+j-p]? else cl[o+j]?:=by
  rw[Tx,jW _ _ _ _ hB,jW _ _ _ _ hA]
 have hdl:(cs.drop (i*2)).length=(n-i)*2:=by rw[List.length_drop];omega
 have hjl:j<(n+1)*2:=by
  have:=(List.getElem?_eq_some_iff.1 hd).1;rw[wJ _ _ (by omega)] at this;simp only[List.length_cons,List.length_nil] at this;omega
 unfold ux at hd
 by_cases c1:j<i*2
 ·rw[List.getElem?_append_left (by rw[List.length_take];omega),List.getElem?_take,if_pos c1] at hd;obtain⟨u,u1,u2,u3⟩:=hr j d hd;refine⟨u,?_,u2,u3⟩;rw[hget];have h3:=uG j u (by rw[List.getElem?_take,if_pos c1];exact u1)
  rcases hX with⟨rfl,rfl,rfl,rfl⟩|⟨rfl,rfl,rfl,rfl⟩
  ·rw[if_neg (by omega),if_neg (by omega)];exact h3
  ·rw[if_neg (by omega),if_neg (by omega)];exact h3
 ·rw[List.getElem?_append_right (by rw[List.length_take];omega),List.length_take,Nat.min_eq_left (by omega)] at hd
  by_cases c2:j<(i+1)*2
  ·rw[List.getElem?_append_left (by simp only[List.length_cons,List.length_nil];omega)] at hd
   have hin:∃u,([v1,v2]:List Value)[j-i*2]?=some u∧u.oneCell'=true∧R d u:=by
    have:j-i*2=0∨j-i*2=1:=by omega
    rcases this with e|e
    ·rw[e] at hd⊢;cases hd;exact⟨v1,rfl,h1.2,h1.1⟩
    ·rw[e] at hd⊢;cases hd;exact⟨v2,rfl,h2.2,h2.1⟩
   obtain⟨u,u1,u2,u3⟩:=hin;refine⟨u,?_,u2,u3⟩;rw[hget]
   rcases hX with⟨rfl,rfl,rfl,rfl⟩|⟨rfl,rfl,rfl,rfl⟩
   ·rw[if_pos (by simp only[List.length_cons,List.length_nil];omega),←u1];congr 1;omega
   ·rw[if_neg (by omega),if_pos (by simp only[List.length_cons,List.length_nil];omega),←u1];congr 1;omega
  ·rw[List.getElem?_append_right (by simp only[List.length_cons,List.length_nil];omega)] at hd;simp only[List.length_cons,List.length_nil,List.getElem?_drop] at hd;obtain⟨u,u1,u2,u3⟩:=hr _ d hd;refine⟨u,?_,u2,u3⟩;rw[hget]
   rcases hX with⟨rfl,rfl,rfl,rfl⟩|⟨rfl,rfl,rfl,rfl⟩
   ·rw[if_neg (by simp only[List.length_cons,List.length_nil];omega),if_pos (by omega),←u1,List.getElem?_drop];congr 1;omega
   ·rw[if_pos (by omega),←u1,List.getElem?_drop];congr 1;omega
section
variable(hv:dN.Ok Tryz.prog∧dN.fc∧fk Tryz.prog dN (cW dN)) {w:World} {st st1 st2 vp:St} {β:Nat→Option (Nat×Nat)} {Z:Nat→Prop} (cI:eK w st β Z) {k aq off:Nat} {key:List UInt8} {v:Int} {u0:Value} (h0:VR w (st.x β Z) (.ptr k aq off) u0) {l:List ir} {x x':D} {ar:Bool} {ct:List D} (hm:st.bM k aq=some (ar,ct)) (hx:ct[off]?=some x) (ht:ng st x=some l)
 (hf:Ev dN 41 [.ptr k aq off,.str key] st (.tup [.int .i64 (bc l key:Nat),.bool (cP l key)]) st) (hk:I1 k x≠k)
include hv cI h0 hm hx ht hf hk
theorem x4 (qI:cP l key=false) (hi:bc l key<l.length) (ha:cN dN [116,116] x (.win st.bs.length 0 0 1 2) (st.push (.mem 0 true [.str key,.int .i64 v]))=some (x',st1)) (hp:tS x' (bc l key) l.length ((l.map cT).flatten) [.str key,.int .i64 v] st1=some st2) (hw:st2.wr k aq off [x']=some vp):
  Calls Tryz.prog 24 #[u0,.string ⟨key.toArray⟩,.int .i64 v] w fun e w'=>e=.returned (.bool true)∧∃β' Z',Nx w st β Z w' vp β' Z':=by
 obtain⟨a,rfl,_,hat⟩:=tE h0;obtain⟨bt,base,hb,rfl⟩:=hat (aZ hm).2;have hb:β k=some (bt,base):=hb
 rcases gS ht with⟨rfl,rfl⟩|⟨kl,vl,ol,c,rfl,na,jN,hlen,DD⟩
 ·simp at hi
 have hne:kl≠k:=hk;obtain⟨bl,cO,_,_,_,_,hbl,_⟩:=pz cI hm hx na jN (by omega) hb hne;have F9:=me (bx:=.mem 0 true [.str key,.int .i64 v]) na;have Km:=me (bx:=.mem 0 true [.str key,.int .i64 v]) hm;obtain⟨_,rfl,eL,F1⟩:=rp ha rfl na;have Mt:(c.take (ol+l.length*2)).drop ol=(l.map cT).flatten:=by rw[List.drop_take,Nat.add_sub_cancel_left];exact DD
 rw[Mt] at F1;have B':=CH l;generalize hold:(l.map cT).flatten=kS at*;have hil:=wJ kS [.str key,.int .i64 v] (n:=bc l key*2) (by omega);simp only[List.length_cons,List.length_nil] at hil
 have HL:st2={(st.push (.mem 0 true [.str key,.int .i64 v])) with bs:=(st.push (.mem 0 true [.str key,.int .i64 v])).bs.set kl (.mem (vl+1) true (ux kS (bc l key*2) [.str key,.int .i64 v]))}:=by
  unfold tS at hp;rw[if_pos hi] at hp;have Kv:kl<(st.push (.mem 0 true [.str key,.int .i64 v])).bs.length:=by simp only[St.push,List.length_append,List.length_cons,List.length_nil];omega
  have Ad:st1.bM kl (vl+1)=some (true,kS++[.str key,.int .i64 v]):=by
   rw[F1];unfold St.bM;simp only;rw[List.getElem?_set_self Kv];simp
  have:=vA Ad (by rw[hil,List.length_append];rfl) hp;rw[this,F1];simp only[List.set_set]
 clear F1 hp ha;generalize hI:ux kS (bc l key*2) [.str key,.int .i64 v]=I at*;rw[qI] at hf;generalize bc l key=i at*;generalize hn:l.length=n at*
 have hR:∀w1,(∃β1 Z1,Nx w st β Z w1 st β1 Z1)→∃c cs,AtTab bt (base+off) bl (cO+ol) n w1 c cs:=by
  rintro w1 ⟨β1,Z1,oA⟩;obtain⟨QF,EE,cap,cl,el,fr,BE,l1,l2,l3,l4,l5,l6,l7,l8,l9⟩:=pz oA.sim hm hx na jN (by omega) (mj oA hm hb) hne;have:=mj oA na hbl;rw[BE] at this;cases this
  have hcs:∀(j:Nat) u,((cl.toList.drop (cO+ol)).take (n*2))[j]?=some u→j<n*2∧cl[cO+ol+j]?=some u:=fun j u hj=>by
   rw[List.getElem?_take] at hj
   split at hj
   ·rw[List.getElem?_drop] at hj;exact⟨by assumption,by simpa using hj⟩
   ·cases hj
  refine⟨cap,(cl.toList.drop (cO+ol)).take (n*2),l5,l6,l7,l8,by simp;omega,?_,?_,fun hroom=>⟨?_,?_,el,cl.size,by simp only[World.shape?,l1],by omega⟩⟩
  ·intro u hu;obtain⟨j,hj⟩:=List.getElem?_of_mem hu;obtain⟨h1,h2⟩:=hcs j u hj;obtain⟨u',h3,h4,_⟩:=l4 (ol+j) _ (List.getElem?_eq_getElem (by omega));rw[←Nat.add_assoc,h2] at h3;cases h3;exact h4
  ·intro j u hj;simp only[World.cell?,l1];rw[if_neg (by simp)];exact(hcs j u hj).2
  ·intro j hj;simp only[World.cell?,l1];rw[if_neg (by simp),Array.getElem?_eq_getElem (by omega)];rfl
  ·intro j hj;simp only[World.frozen?,l1];have:=l3.2 (cO+ol+j) (by omega)
   simpa using this
 refine(ts_mid bt (base+off) bl (cO+ol) n i ⟨key.toArray⟩ v w (lP hv cI h0 hf) hi (by omega) hR).mono fun e w'=>?_;rintro⟨rfl,w1,cap,cs,⟨β1,Z1,oA⟩,TL,W2,hW2,KL⟩;obtain⟨a1,a2,a3,a4,a5,a6,a7,a8⟩:=TL;obtain⟨QF,EE,IH,cl,el,fr,BE,l1,l2,l3,l4,l5,l6,l7,l8,l9⟩:=pz oA.sim hm hx na jN (by omega) (mj oA hm hb) hne;have:=mj oA na hbl;rw[BE] at this;cases this;rw[l5] at a1;simp only[Option.some.injEq,Value.slice.injEq,true_and] at a1;subst a1;have Gb:=mj oA hm hb
 have JZ:=Nx.g_ (w':=W2) oA.sim true [.str key,.int .i64 v] #[.string ⟨key.toArray⟩,.int .i64 v] 122 (0,0) (by rw[hW2];rfl) (by rw[hW2];rfl) (by rw[hW2];rfl) (by rw[hW2];rfl) (by simp) (lV.zero _) (fun j d hd=>by
  obtain⟨u,u1,u2,u3⟩:=(lH (w:=w1) (x:=st.x β1 Z1) key v).at_ hd
  exact⟨u,by simpa using u1,u2,u3⟩)
 obtain⟨GS,_,_,_⟩:=JZ;have Ku:cM β1 st.bs.length w1.heap.size kl=some (bl,cO):=by rw[nT (by have:=F9.2;omega)];exact BE
 have fX:cM β1 st.bs.length w1.heap.size k=some (bt,base):=by rw[nT (by have:=Km.2;omega)];exact Gb
 generalize cM β1 st.bs.length w1.heap.size=β2 at*;have Tq:bl<w1.heap.size:=(Array.getElem?_eq_some_iff.1 l1).1
 have KV:W2.heap[bl]?=some (.cells cl el fr):=by
  rw[hW2];show(w1.heap.push _)[bl]?=_;rw[Array.getElem?_push,if_neg (by omega)];exact l1
 have hrel:∀(j:Nat) d,kS[j]?=some d→∃u,cs[j]?=some u∧u.oneCell'=true∧VR W2 ((st.push (.mem 0 true [.str key,.int .i64 v])).x β2 Z1) d u:=by
  intro j d hd;have hjl:j<n*2:=by have:=(List.getElem?_eq_some_iff.1 hd).1;omega
  rw[←DD,List.getElem?_take,if_pos hjl,List.getElem?_drop] at hd;obtain⟨u,u1,u2,u3⟩:=l4 _ _ hd;refine⟨u,?_,u2,u3.mono GS.keeps⟩;have h1:cs[j]?=some (cs[j]'(by omega)):=List.getElem?_eq_getElem _;have h2:=a7 j _ h1;simp only[World.cell?,l1] at h2;rw[if_neg (by simp)] at h2;rw[←Nat.add_assoc] at u1;rw[u1] at h2;rw[h1,h2]
 have hnew:=lH (w:=W2) (x:=(st.push (.mem 0 true [.str key,.int .i64 v])).x β2 Z1) key v;have hy1:=hnew.rel 0 _ _ rfl rfl;have wM:=hnew.rel 1 _ _ rfl rfl;have Kt:kl<(st.push (.mem 0 true [.str key,.int .i64 v])).bs.length:=by have:=F9.2;simp only[St.push,List.length_append,List.length_cons,List.length_nil];omega
 have fin:∀(W3:World) (B O BZ sz:Nat),Nx W2 (st.push (.mem 0 true [.str key,.int .i64 v])) β2 Z1 W3 st2 (fun j=>if j=kl then some (B,O) else β2 j) Z1→bo W3 B=some sz→n+1≤BZ→O+BZ*2≤sz→
   ∃β' Z',Nx w st β Z (W3.setCell ⟨bt,base+off,none⟩ (.slice (some ⟨B,O,none⟩) (n+1) BZ)) vp β' Z':=by
  intro W3 B O BZ sz h3 DC KM hsz
  have Mw:VR W3 (st2.x (fun j=>if j=kl then some (B,O) else β2 j) Z1) (.win kl (vl+1) 0 (n+1) 2) (.slice (some ⟨B,O,none⟩) (n+1) BZ):=by
   refine .win kl (vl+1) 0 (n+1) 2 _ BZ KM ⟨(B,O),by simp[St.x]⟩ (fun q hq=>?_) fun _=>⟨B,O,sz,by simp[St.x],DC,.inr ⟨rfl,by omega⟩⟩
   rw[HL] at hq;simp[St.x,St.aq,Kt,ck] at hq;omega
  have h9:=Ci h3.sim (yA Mw rfl) hw (b:=bt) (base:=base) (by simp only[if_neg (fun e:k=kl=>hne e.symm)];exact fX);exact⟨_,_,oA.trans (GS.trans (h3.trans h9))⟩
 rcases KL with⟨hroom,rfl⟩|⟨G,ROW,hG1,hG2,hG3,rfl⟩
 ·have D0:W2.drew.heap[bl]?=some (.cells cl el fr):=KV;have Ti:(cs.drop (i*2)).length=(n-i)*2:=by rw[List.length_drop];omega
  rw[ft _ _ _ _ D0]
  have hput:(wput W2.drew bl (.cells (fq cl (cO+ol+(i+1)*2) (cs.drop (i*2))) el fr)).heap[bl]?=some (.cells (fq cl (cO+ol+(i+1)*2) (cs.drop (i*2))) el fr):=by
   simp only[wput];rw[Array.getElem?_setIfInBounds_self_of_lt];exact(Array.getElem?_eq_some_iff.1 D0).1
  rw[ft _ _ _ _ hput]
  have sS:=z8 (R:=VR W2 ((st.push (.mem 0 true [.str key,.int .i64 v])).x β2 Z1)) (kS:=kS) (cs:=cs) (i:=i) (y1:=.str key) (y2:=.int .i64 v) (v1:=.string ⟨key.toArray⟩) (v2:=.int .i64 v) (cl:=cl) (o:=cO+ol) (n:=n) (by omega) a5 hi (by omega) hrel (fun j u hj=>by
   rw[List.getElem?_take] at hj
   split at hj
   ·have h2:=a7 j u hj;simp only[World.cell?,l1] at h2;rw[if_neg (by simp)] at h2;exact h2
   ·cases hj) ⟨hy1,rfl⟩ ⟨wM,rfl⟩ (.inl ⟨rfl,rfl,rfl,rfl⟩) rfl
  rw[hI] at sS;generalize hX:fq (fq cl (cO+ol+(i+1)*2) (cs.drop (i*2))) (cO+ol+i*2) [.string ⟨key.toArray⟩,.int .i64 v]=X at*;have LH:X.size=cl.size:=by rw[←hX,ei,ei]
  have h3:=Nx.write (a':=true) (jT:=vl+1) (c':=I) (cz:=cO+ol) GS.sim F9.1 Ku eL (by omega) (fun e=>by omega) KV (cs':=X) LH (by omega) sS;rw[←HL] at h3;have hst:=Nx.still (w':=wput (wput W2.drew bl (.cells (fq cl (cO+ol+(i+1)*2) (cs.drop (i*2))) el fr)) bl (.cells X el fr)) h3.sim (by simp only[wput,pB];rfl) rfl rfl rfl
  have N3:bo (wput (wput W2.drew bl (.cells (fq cl (cO+ol+(i+1)*2) (cs.drop (i*2))) el fr)) bl (.cells X el fr)) bl=some cl.size:=by
   simp only[bo,wput];rw[Array.getElem?_setIfInBounds_self_of_lt (by simp only[Array.size_setIfInBounds];exact(Array.getElem?_eq_some_iff.1 D0).1)];simp only[LH]
  exact⟨rfl,fin _ bl (cO+ol) IH cl.size (h3.trans hst) N3 hroom (by omega)⟩
 ·have hh:=FK (W:=W2) (R:=ROW) (el:=122) [.string ⟨key.toArray⟩,.int .i64 v] (cs.drop (i*2)) (i*2) ((i+1)*2)
  have sS:=z8 (R:=VR W2 ((st.push (.mem 0 true [.str key,.int .i64 v])).x β2 Z1)) (kS:=kS) (cs:=cs) (i:=i) (y1:=.str key) (y2:=.int .i64 v) (v1:=.string ⟨key.toArray⟩) (v2:=.int .i64 v) (cl:=ROW) (o:=0) (n:=n) (by omega) a5 hi (by omega) hrel (fun j u hj=>by
   rw[Nat.zero_add];exact hG3 j u hj) ⟨hy1,rfl⟩ ⟨wM,rfl⟩ (p:=i*2) (q:=(i+1)*2) (.inr ⟨by omega,rfl,by omega,rfl⟩) rfl
  rw[hI] at sS;simp only[Nat.zero_add] at sS;generalize hX:fq (fq ROW (i*2) [.string ⟨key.toArray⟩,.int .i64 v]) ((i+1)*2) (cs.drop (i*2))=X at*;have LH:X.size=ROW.size:=by rw[←hX,ei,ei]
  generalize hW3:((W2.alloc (Obj.cells ROW 122)).drew.setCells W2.heap.size (i*2) [Value.string ⟨key.toArray⟩,Value.int IntKind.i64 v]).drew.setCells W2.heap.size ((i+1)*2) (cs.drop (i*2))=W3 at*
  have HY:W3.os=W2.os∧W3.tape=W2.tape∧W3.output=W2.output:=by
   have fh:∀(vs:List Value) (b o:Nat) (W:World),(W.setCells b o vs).os=W.os∧(W.setCells b o vs).tape=W.tape∧(W.setCells b o vs).output=W.output:=by
    intro vs
    induction vs with
    |nil=>intro b o W;exact⟨rfl,rfl,rfl⟩
    |cons x vs ih=>intro b o W;rw[World.setCells];exact ih b (o+1) _
   rw[←hW3];obtain⟨p1,p2,p3⟩:=fh (cs.drop (i*2)) W2.heap.size ((i+1)*2) ((W2.alloc (Obj.cells ROW 122)).drew.setCells W2.heap.size (i*2) [Value.string ⟨key.toArray⟩,Value.int IntKind.i64 v]).drew;obtain⟨q1,q2,q3⟩:=fh [Value.string ⟨key.toArray⟩,Value.int IntKind.i64 v] W2.heap.size (i*2) (W2.alloc (Obj.cells ROW 122)).drew;exact⟨p1.trans q1,p2.trans q2,p3.trans q3⟩
  have h3:=Nx.move (w':=W3) (a':=true) (c':=I) GS.sim F9.1 Ku eL hh HY.1 HY.2.1 HY.2.2 (by omega) sS;rw[←HL] at h3
  have N3:bo W3 W2.heap.size=some ROW.size:=by
   simp only[bo,hh];simp[LH]
  exact⟨rfl,fin W3 W2.heap.size 0 G ROW.size h3 N3 hG1 (by omega)⟩
end
section
variable(hv:dN.Ok Tryz.prog∧dN.fc∧fk Tryz.prog dN (cW dN)) {w:World} {st st1 st2 vp:St} {β:Nat→Option (Nat×Nat)} {Z:Nat→Prop} (cI:eK w st β Z) {k aq off:Nat} {key:List UInt8} {v:Int} {u0:Value} (h0:VR w (st.x β Z) (.ptr k aq off) u0) {l:List ir} {x x':D} {ar:Bool} {ct:List D} (hm:st.bM k aq=some (ar,ct)) (hx:ct[off]?=some x) (ht:ng st x=some l)
 (hf:Ev dN 41 [.ptr k aq off,.str key] st (.tup [.int .i64 (bc l key:Nat),.bool (cP l key)]) st) (hk:I1 k x≠k)
include hv cI h0 hm hx ht hf hk
theorem x6 (qI:cP l key=false) (hi:¬bc l key<l.length) (ha:cN dN [116,116] x (.win st.bs.length 0 0 1 2) (st.push (.mem 0 true [.str key,.int .i64 v]))=some (x',st1)) (hp:tS x' (bc l key) l.length ((l.map cT).flatten) [.str key,.int .i64 v] st1=some st2) (hw:st2.wr k aq off [x']=some vp):
  Calls Tryz.prog 24 #[u0,.string ⟨key.toArray⟩,.int .i64 v] w fun e w'=>e=.returned (.bool true)∧∃β' Z',Nx w st β Z w' vp β' Z':=by
 obtain⟨a,rfl,_,hat⟩:=tE h0;obtain⟨bt,base,hb,rfl⟩:=hat (aZ hm).2;have hb:β k=some (bt,base):=hb;have hle:=w9 l key;have hil:bc l key=l.length:=by omega
 have hst:st2=st1:=by
  unfold tS at hp;rw[if_neg hi] at hp;exact(Option.some.inj hp).symm
 subst hst;clear hp;have Km:=me (bx:=.mem 0 true [.str key,.int .i64 v]) hm;rw[qI,hil] at hf;clear hi
 have P6:x=.nul∧l.length=0∨∃kl vl ol,x=.win kl vl ol l.length 2:=by
  rcases gS ht with⟨rfl,rfl⟩|⟨kl,vl,ol,c,rfl,_⟩
  ·exact .inl ⟨rfl,rfl⟩
  ·exact .inr ⟨kl,vl,ol,rfl⟩
 generalize l.length=n at*
 have run:∀w1 β1 Z1,Nx w st β Z w1 st β1 Z1→∃bs c a m c' w3 β3,w1.cell? ⟨bt,base+off,none⟩=some (.slice bs n c)∧w1.frozen? ⟨bt,base+off,none⟩=false∧n≤c∧(bs=none→n=0)∧
   (Builtin.append_ #[116,116] 116 #[.slice bs n c,.slice (some ⟨w1.heap.size,0,none⟩) 1 1]).run Tryz.prog (w1.alloc (.cells #[.string ⟨key.toArray⟩,.int .i64 v] 122))=.ok (.slice (some a) m c') w3∧
   Nx w st β Z w3 st2 β3 Z1∧β3 k=some (bt,base)∧VR w3 (st2.x β3 Z1) x' (.slice (some a) m c'):=by
  intro w1 β1 Z1 oA;have Gb:=mj oA hm hb;obtain⟨cs,Jc,Jb,t1,t2,t3,t4⟩:=oA.sim.row hm Gb;obtain⟨u,u1,u2,u3⟩:=t4 off _ hx;have H0:off<ct.length:=(List.getElem?_eq_some_iff.1 hx).1
  obtain⟨GS,p1,p2,p3⟩:=Nx.g_ (w':=w1.alloc (.cells #[.string ⟨key.toArray⟩,.int .i64 v] 122)) oA.sim true [.str key,.int .i64 v] #[.string ⟨key.toArray⟩,.int .i64 v] 122 (0,0) rfl rfl rfl rfl (by simp) (lV.zero _) (fun j d hd=>by
   obtain⟨u,u1,u2,u3⟩:=(lH (w:=w1) (x:=st.x β1 Z1) key v).at_ hd
   exact⟨u,by simpa using u1,u2,u3⟩)
  have fX:cM β1 st.bs.length w1.heap.size k=some (bt,base):=by rw[nT (by have:=Km.2;omega)];exact Gb
  have DB:VR (w1.alloc (.cells #[.string ⟨key.toArray⟩,.int .i64 v] 122)) ((st.push (.mem 0 true [.str key,.int .i64 v])).x (cM β1 st.bs.length w1.heap.size) Z1) (.win st.bs.length 0 0 1 2) (.slice (some ⟨w1.heap.size,0,none⟩) 1 1):=
   iV p2 p3 p1 (Nat.le_refl _) (by simp)
  have RE:∃bs c,u=.slice bs n c∧n≤c∧(bs=none→n=0):=by
   rcases P6 with⟨rfl,h⟩|⟨kl,vl,ol,rfl⟩
   ·exact⟨none,0,by rw[dM u3,h],by omega,fun _=>h⟩
   ·obtain⟨a,cap,rfl,hc,_⟩:=c_ u3;exact⟨some a,cap,rfl,hc,fun h=>by cases h⟩
  obtain⟨bs,c,rfl,KN,oC⟩:=RE;obtain⟨z,w3,β3,r1,r2,r3⟩:=tu hv.1 (ty:=116) GS.sim (u3.mono GS.keeps) DB ha
  have hz:∃a m c',z=.slice (some a) m c'∧True:=by
   rcases P6 with⟨rfl,h⟩|⟨kl,vl,ol,rfl⟩
   ·have:∃p q o m s,x'=.win p q o m s:=by
     obtain⟨i,hi,hs,hb1⟩:=z_
     have gO:kR (st.push (.mem 0 true [.str key,.int .i64 v])) (.win st.bs.length 0 0 1 2)=some (1,[.str key,.int .i64 v]):=by
      have:(st.push (.mem 0 true [.str key,.int .i64 v])).bM st.bs.length 0=some (true,[.str key,.int .i64 v]):=by
       unfold St.bM St.push;simp
      simp[kR,this]
     have ha:=ha;unfold cN at ha;simp only[Cl] at ha
     split at ha
     ·cases ha
     ·obtain⟨i',pb,ha⟩:=Option.bind_eq_some_iff.1 ha;rw[hi] at pb;cases pb;obtain⟨z',hz,ha⟩:=Option.bind_eq_some_iff.1 ha;rw[gO] at ha;simp only[Option.bind_some] at ha
      split at ha
      ·cases ha
      ·split at ha
       ·rename_i h1;cases h1
       ·split at ha
        ·cases ha;exact⟨_,_,_,_,_,rfl⟩
        ·cases ha
    obtain⟨p,q,o,m,s,rfl⟩:=this;obtain⟨a,cap,rfl,_⟩:=c_ r3;exact⟨a,m,cap,rfl,trivial⟩
   ·obtain⟨c9,Kn⟩:∃c9,st.bM kl vl=some (true,c9):=by
     rcases gS ht with⟨h,_⟩|⟨Uk,T5,Uj,c',h,Sr,_⟩
     ·cases h
     ·cases h;exact⟨c',Sr⟩
    obtain⟨_,rfl,_,_⟩:=rp ha rfl Kn;obtain⟨a,cap,rfl,_⟩:=c_ r3;exact⟨a,_,cap,rfl,trivial⟩
  obtain⟨a,m,c',rfl,_⟩:=hz
  have iw:st2.aq k=some aq:=by
   have hw:=hw;unfold St.wr at hw
   split at hw
   ·rename_i a c F';exact(aZ F').2
   ·cases hw
  have hb3:=(r2.keeps.at_ k aq iw (aZ Km.1).2 bt base fX).1;refine⟨bs,c,a,m,c',w3,β3,?_,?_,KN,oC,r1,oA.trans (GS.trans r2),hb3,r3⟩
  ·simp only[World.cell?,t1];simpa using u1
  ·simp only[World.frozen?,t1];have:=t3.2 (base+off) (by omega)
   simpa using this
 refine(set_end bt (base+off) n ⟨key.toArray⟩ v w (lP hv cI h0 hf) (fun w1 hR=>?_)).mono fun e w'=>?_
 ·obtain⟨β1,Z1,oA⟩:=hR;obtain⟨bs,c,a,m,c',w3,β3,q1,q2,q3,q4,q5,q6,q7,q8⟩:=run w1 β1 Z1 oA
  obtain⟨a9,c9,Kn⟩:∃a9 c9,st2.bM k aq=some (a9,c9)∧off<c9.length:=by
   have hw:=hw;unfold St.wr at hw
   split at hw
   ·rename_i a c F'
    split at hw
    ·rename_i hc;simp only[List.length_cons,List.length_nil] at hc;exact⟨a,c,F',by omega⟩
    ·cases hw
   ·cases hw
  obtain⟨cs,Jc,Jb,t1,t2,t3,t4⟩:=q6.sim.row Kn.1 q7;refine⟨bs,c,a,m,c',w3,q1,q3,q4,q5,⟨_,by simp only[World.cell?,t1];rw[if_neg (by simp)];exact Array.getElem?_eq_getElem (by have:=Kn.2;omega)⟩,?_⟩;simp only[World.frozen?,t1];have:=t3.2 (base+off) (by have:=Kn.2;omega)
  simpa using this
 ·rintro⟨rfl,w1,bs,c,a,m,c',w3,⟨β1,Z1,oA⟩,q1,q5,rfl⟩;obtain⟨bs',c2,a2,m2,c3,w4,β3,L6,_,_,_,L2,q6,q7,q8⟩:=run w1 β1 Z1 oA;rw[q1] at L6;simp only[Option.some.injEq,Value.slice.injEq,true_and] at L6;obtain⟨rfl,rfl⟩:=L6;rw[q5] at L2;simp only[Result.ok.injEq,Value.slice.injEq,Option.some.injEq] at L2;obtain⟨⟨rfl,rfl,rfl⟩,rfl⟩:=L2;exact⟨rfl,β3,Z1,q6.trans (Ci q6.sim (yA q8 rfl) hw q7)⟩
end
theorem Cn (hv:dN.Ok Tryz.prog∧dN.fc∧fk Tryz.prog dN (cW dN)) (hfind:∀(st:St) (k aq off:Nat) (key:List UInt8) (ar:Bool) (ct:List D) (x:D) (l:List ir),st.bM k aq=some (ar,ct)→ct[off]?=some x→ng st x=some l→Ev dN 41 [.ptr k aq off,.str key] st (.tup [.int .i64 (bc l key:Nat),.bool (cP l key)]) st)
  {pv:Pv} (eL:iO pv 24=false):eA Tryz.prog pv 24 rY:=by
 have Cw:∀{k aq off:Nat} {key:List UInt8} {v:Int} {st:St} {x:D} {l:List ir} {d:D} {ah:St},px k aq off key v st x l=some (d,ah)→I1 k x≠k∧((cP l key=true∧d=.bool false∧Fb x (bc l key) v st=some ah)∨
   (cP l key=false∧d=.bool true∧∃x' st1 st2,cN dN [116,116] x (.win st.bs.length 0 0 1 2) (st.push (.mem 0 true [.str key,.int .i64 v]))=some (x',st1)∧tS x' (bc l key) l.length ((l.map cT).flatten) [.str key,.int .i64 v] st1=some st2∧st2.wr k aq off [x']=some ah)):=by
  intro k aq off key v st x l d ah h;unfold px at h
  split at h
  ·cases h
  ·rename_i hk;refine⟨hk,?_⟩
   split at h
   ·rename_i qI;obtain⟨s,h1,h2⟩:=Option.map_eq_some_iff.1 h;cases h2;exact .inl ⟨qI,rfl,h1⟩
   ·rename_i qI
    split at h
    ·rename_i x' st1 ha
     split at h
     ·rename_i st2 hp;obtain⟨s,h1,h2⟩:=Option.map_eq_some_iff.1 h;cases h2;exact .inr ⟨by simpa using qI,rfl,x',st1,st2,ha,hp,h1⟩
     ·cases h
    ·cases h
 refine⟨fun ds st r hp=>⟨Tryz.f24,_,Tryz.func24,rfl,by decide⟩,fun ds st d ah hp w β Z us cI hle sY=>?_,fun ds st d ah hp hr=>(by rw[eL] at hr;cases hr),fun ds st d ah hp=>?_⟩
 ·obtain⟨k,aq,off,key,v,ar,ct,x,l,rfl,hm,hx,ht,hF⟩:=pw hp
  obtain⟨u0,u1,u2,rfl⟩:∃u0 u1 u2,us=[u0,u1,u2]:=by
   match us,hle with
   |[a,b,c],_=>exact⟨a,b,c,rfl⟩
  have h0:=sY 0 _ u0 rfl rfl;have e1:=et (sY 1 _ u1 rfl rfl);have e2:=bU (sY 2 _ u2 rfl rfl);subst e1 e2;have hf:=hfind st k aq off key ar ct x l hm hx ht;obtain⟨hk,⟨qI,rfl,hw⟩|⟨qI,rfl,x',st1,st2,ha,uA,hw⟩⟩:=Cw hF
  ·refine(tK (v:=v) hv cI h0 hm hx ht hf hk qI hw).mono fun e w'=>?_;rintro⟨rfl,β',Z',hn⟩;exact⟨_,β',Z',rfl,hn,.im _ _ (.bool _),fun h=>by rw[eL] at h;cases h⟩
  ·by_cases hi:bc l key<l.length
   ·refine(x4 hv cI h0 hm hx ht hf hk qI hi ha uA hw).mono fun e w'=>?_;rintro⟨rfl,β',Z',hn⟩;exact⟨_,β',Z',rfl,hn,.im _ _ (.bool _),fun h=>by rw[eL] at h;cases h⟩
   ·refine(x6 hv cI h0 hm hx ht hf hk qI hi ha uA hw).mono fun e w'=>?_;rintro⟨rfl,β',Z',hn⟩;exact⟨_,β',Z',rfl,hn,.im _ _ (.bool _),fun h=>by rw[eL] at h;cases h⟩
 ·obtain⟨k,aq,off,key,v,ar,ct,x,l,rfl,hm,hx,ht,hF⟩:=pw hp;obtain⟨hk,⟨qI,rfl,hw⟩|⟨qI,rfl,x',st1,st2,ha,uA,hw⟩⟩:=Cw hF
  ·unfold Fb at hw
   split at hw
   ·exact iy hw
   ·cases hw
  ·have g1:c8 st (st.push (.mem 0 true [.str key,.int .i64 v])):=c8.push st _;have g2:c8 (st.push (.mem 0 true [.str key,.int .i64 v])) st1:=oI ha
   have g3:c8 st1 st2:=by
    unfold tS at uA
    split at uA
    ·split at uA
     ·exact iy uA
     ·cases uA
    ·cases uA;exact c8.refl _
   exact g1.trans (g2.trans (g3.trans (iy hw)))
end Go.Proofs.YtpcicphadikioaaGreat
