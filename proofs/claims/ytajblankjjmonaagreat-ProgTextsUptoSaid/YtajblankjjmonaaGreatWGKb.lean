/-
 Own lists whose elements hold own lists: their length, a place in them, written in place.
-/
import Derived.Test.YtajblankjjmonaaGreatWGM3
import Derived.Test.YtajblankjjmonaaGreatWGHr
set_option linter.unusedSimpArgs false
set_option linter.unusedVariables false
set_option linter.unusedSectionVars false
set_option maxRecDepth 100000
set_option maxHeartbeats 4000000
namespace Go.V
variable{N:Nat} {S st:St} {H:List bG}
theorem ck.at_ {α β:Type} {R:α→β→Prop}:∀{l:List α} {m:List β} {i:Nat} {b:β},ck R l m→m[i]?=some b→∃a,l[i]?=some a∧R a b
 |_,_,_,_,.nil,h=>by simp at h
 |_,_,0,_,.cons a t,h=>by simp only[List.getElem?_cons_zero,Option.some.injEq] at h;subst h;exact⟨_,rfl,a⟩
 |_,_,i+1,_,.cons a t,h=>by simp only[List.getElem?_cons_succ] at h⊢;exact t.at_ h
theorem ck.set {α β:Type} {R:α→β→Prop} {a:α} {b:β} (r:R a b):∀{l:List α} {m:List β} (i:Nat),ck R l m→ck R (l.set i a) (m.set i b)
 |_,_,_,.nil=>.nil
 |_,_,0,.cons _ t=>.cons r t
 |_,_,i+1,.cons h t=>.cons h (t.set r i)
theorem ck.setMany {R:D→D→Prop}:∀{xs ys:List D} {c d:List D} (o:Nat),ck R xs ys→ck R c d→ck R (setMany c o xs) (setMany d o ys)
 |_,_,_,_,_,.nil,h=>h
 |_,_,_,_,o,.cons r t,h=>by simp only[Go.V.setMany];exact t.setMany (o+1) (h.set r o)
theorem ck.same {R:D→D→Prop}:∀{l:List D},(∀d∈l,R d d)→ck R l l
 |[],_=>.nil
 |d::l,h=>.cons (h d (List.mem_cons_self ..)) (ck.same fun x hx=>h x (List.mem_cons_of_mem _ hx))
theorem Has.Js {j:Nat} {x:D} {s:Nat} {bb:Bool} {ks:Nat→Prop} {vs:List (List D)} (hH:Has N S st H) (hj:H[j]?=some (.bR bb ks x s vs)):∃es,Rows st s x es∧es.length=vs.length:=by
 obtain⟨⟨es,h1,h2⟩,_⟩:=(hH.ok j _ hj).1;exact⟨es,h1.rows,h2.len⟩
theorem Has.NL {j k aq off len s:Nat} {bb:Bool} {ks:Nat→Prop} {vs:List (List D)} {i o:Nat} {v cs:List D} (h:Has N S st H) (hj:H[j]?=some (.bR bb ks (.win k aq off len s) s vs)) (hi:vs[i]?=some v) (hl:o+cs.length≤s) (hp:∀d∈cs,bS d=true) (hw:S.flr≤N∨refs cs=0) (vA:(cs.all (fun d=>!(B_ d))||bb)=true):
  ∃ae,st.wr k aq (off+i*s+o) cs=some ae∧Has N S ae (H.set j (.bR bb ks (.win k aq off len s) s (vs.set i (setMany v o cs)))):=by
 obtain⟨⟨es,he1,tD⟩,he3⟩:=(h.ok j _ hj).1;have hK:=(h.ok j _ hj).2;obtain⟨e,RC,hev⟩:=tD.at_ hi
 have Me:Has N S st [.lst (.win k aq off len s) s es]:=by
  refine⟨h.ex,h.hN,h.ft,fun i e hi=>?_,fun i i' a b hii ha hb k tX iK=>?_⟩
  ·cases i with
   |zero=>simp only[List.getElem?_cons_zero,Option.some.injEq] at hi;subst hi;exact⟨he1,fun k hk=>hK k (.inl hk)⟩
   |succ i=>simp at hi
  ·cases i with
   |zero=>cases i' with
    |zero=>exact hii rfl
    |succ i'=>simp at hb
   |succ i=>simp at ha
 obtain⟨ae,q1,q2⟩:=Me.yn (j:=0) at0 RC hl hw;refine⟨ae,q1,?_⟩;have hown:=q2.own (j:=0) at0
 have LZ:(∀n,n≠k→ae.bs[n]?=st.bs[n]?)∧st.bs.length=ae.bs.length∧ae.flr=st.flr∧ae.ro=st.ro:=by
  unfold St.wr at q1
  split at q1
  ·split at q1
   ·cases q1;exact⟨fun n hn=>by simp only;rw[List.getElem?_set_ne (fun e=>hn e.symm)],by simp,rfl,rfl⟩
   ·cases q1
  ·cases q1
 obtain⟨c1,c2,c3,c4⟩:=LZ;have hkk:=hK k (.inl (by simp only[D.ref]));have hne:∀n,ks n→n≠k:=fun n hn e=>he3 k (by simp only[D.ref]) (e▸hn);have vC:∀n,ks n→ae.bs[n]?=st.bs[n]?:=fun n hn=>c1 n (hne n hn);refine h.Dx hj (fun n hn hnot=>c1 n fun e=>hnot (.inl (by simp only[D.ref];omega))) (Nat.le_of_eq c2) c3 c4 ⟨⟨_,hown,?_⟩,he3⟩ (fun n hn=>.inl hn) fun n hn=>?_
 ·refine ck.set ?_ i (tD.mono fun a b=>ck.mono fun c d=>ef.move vC);exact(ck.same fun d hd=>.plain d (hp d hd) (by cases bb with|true=>simp|false=>simp only[Bool.or_false,List.all_eq_true] at vA⊢;exact vA d hd)).setMany o (hev.mono fun c d=>ef.move vC)
 ·rw[←c2];exact(hK n hn).2
variable{P:Pv} {ops:Array Oper} {rest:List Oper} {fr aw:Fr} {Q:Fr→St→Prop} {ty:TypeId} {pp:String} {a:Array Edge} {g:Option (Nat×Bool)} {dst:Nat}
theorem EvO.nA {t e:TypeId} {xo:Operand} {x:D} {s j:Nat} {bb:Bool} {ks:Nat→Prop} {vs:List (List D)} (hH:Has N S st H) (hg:au ops fr ⟨some dst,.call ⟨.builtin .len,#[xo],#[t]⟩,ty,pp,a,g⟩=some true) (hx:fr.ev xo=x) (hj:H[j]?=some (.bR bb ks x s vs)) (ht:P.b9 t=some (.slice e)) (hp:fr.put dst (.int .i64 (vs.length:Nat))=aw)
  (h:EvO P ops rest aw st Q):EvO P ops (⟨some dst,.call ⟨.builtin .len,#[xo],#[t]⟩,ty,pp,a,g⟩::rest) fr st Q:=by
 obtain⟨es,h1,h2⟩:=hH.Js hj;exact EvO.rlen hg hx h1 ht (by rw[h2];exact hp) h
theorem EvO.ou {t e:TypeId} {xo io:Operand} {x:D} {s i j:Nat} {kk:IntKind} {bb:Bool} {ks:Nat→Prop} {vs:List (List D)} {aw:D→Fr} (hH:Has N S st H) (hg:au ops fr ⟨some dst,.indexAddr t xo io,ty,pp,a,g⟩=some true) (hx:fr.ev xo=x) (hi:fr.ev io=.int kk (i:Nat)) (hj:H[j]?=some (.bR bb ks x s vs)) (ht:P.b9 t=some (.slice e)) (hs:bN P e=some s) (hr:i<vs.length) (hp:∀p,fr.put dst p=aw p)
  (h:∀p,nJ x s i 0 p→EvO P ops rest (aw p) st Q):EvO P ops (⟨some dst,.indexAddr t xo io,ty,pp,a,g⟩::rest) fr st Q:=by
 obtain⟨⟨es,he1,tD⟩,he3⟩:=(hH.ok j _ hj).1;have hlen:=tD.len
 cases he1 with
 |nul=>simp at hlen;omega
 |win k aq off es c hm hl hc he=>
  refine EvO.go hg rfl (d:=.ptr k aq (off+i*s)) (st1:=st) ?_ (hp _) (h _ ⟨k,aq,off,_,rfl,rfl⟩);simp only[df,hx,hi,br,ht,hs,Option.bind_some,St.mem_of hm,Option.isSome_some];rw[if_pos ⟨trivial,by omega,by omega,trivial⟩];rfl
theorem EvO.fZ {t:TypeId} {ao vo:Operand} {x y v:D} {s i o j:Nat} {bb:Bool} {ks:Nat→Prop} {vs:List (List D)} {r cs:List D} (hH:Has N S st H) (hg:au ops fr ⟨none,.store t ao vo,ty,pp,a,g⟩=some true) (ha:fr.ev ao=y) (hv:fr.ev vo=v) (hR:nJ x s i o y) (jk:v.cells?=some cs) (hs:bN P t=some cs.length) (hj:H[j]?=some (.bR bb ks x s vs)) (hr:vs[i]?=some r) (hl:o+cs.length≤s) (hq:∀d∈cs,bS d=true) (hw:S.flr≤N∨refs cs=0)
  (h:∀ae,Has N S ae (H.set j (.bR bb ks x s (vs.set i (setMany r o cs))))→EvO P ops rest fr ae Q) (tp:(cs.all (fun d=>!(B_ d))||bb)=true:=by rfl):EvO P ops (⟨none,.store t ao vo,ty,pp,a,g⟩::rest) fr st Q:=by
 obtain⟨k,aq,off,len,rfl,rfl⟩:=hR;obtain⟨ae,h1,h2⟩:=hH.NL hj hr hl hq hw tp;refine EvO.N hg rfl (d:=.tup []) (st1:=ae) ?_ (h _ h2);simp only[df,ha,hv,jF,jk,hs,if_pos trivial,h1];rfl
theorem EvC.GA {dy:Dy} {i:Nat} {l:List Oper} {d n loc tmp st} {Q:Out→Fr→St→Prop} (ws:List Nat) (F:(Nat→D)→Prop)
  (h1:EvO P l.toArray l ⟨n,loc,[]⟩ st fun aw ae=>∃f tmp,aw=⟨n,setW loc ws f,tmp⟩∧ae=st∧F f) (h2:∀f tmp,F f→Q .next ⟨n,setW loc ws f,tmp⟩ st) (h0:fH i dy=[]:=by rfl):EvC P dy (.region i l.toArray d) ⟨n,loc,tmp⟩ st Q:=by
 refine EvC.reg ?_ h0;unfold EvO at h1⊢;obtain⟨aw,ae,h3,f,Fc,rfl,rfl,h4⟩:=h1;exact⟨_,_,h3,h2 _ _ h4⟩
theorem jU {n:Nat} {L loc:List D} {sH:List (Nat×D)} {ws:List Nat} {F:(Nat→D)→Prop} {st:St} (h:L=setW loc ws (fun k=>nth .junk L k)) (h2:F (fun k=>nth .junk L k)):∃(f:Nat→D) (tmp:List (Nat×D)),(⟨n,L,sH⟩:Fr)=⟨n,setW loc ws f,tmp⟩∧st=st∧F f:=⟨_,sH,by rw[←h],rfl,h2⟩
theorem EvO.HO {t1 t2:TypeId} {xo yo:Operand} {x y z:Int} (hg:au ops fr ⟨some dst,.call ⟨.builtin .min,#[xo,yo],#[t1,t2]⟩,ty,pp,a,g⟩=some true) (hx:fr.ev xo=.int .i64 x) (hy:fr.ev yo=.int .i64 y) (hz:min x y=z) (hp:fr.put dst (.int .i64 z)=aw) (h:EvO P ops rest aw st Q):EvO P ops (⟨some dst,.call ⟨.builtin .min,#[xo,yo],#[t1,t2]⟩,ty,pp,a,g⟩::rest) fr st Q:=
 EvO.FB (t1:=t1) (t2:=t2) hg hx hy (by rw[hz];exact hp) h
theorem Has.vm {N:Nat} {S s0 S2 st2:St} {H:List bG} {x:D} {s:Nat} {es NI:List (List D)} (h:Has N S s0 (.lst x s es::H)) (hS:S2.bs=s0.bs) (h2:Has N S2 st2 (.lst x s NI::H)):Has N S ⟨st2.bs.take s0.bs.length,s0.flr,s0.ro⟩ (.lst x s NI::H):=by
 refine h.tg hS h2 fun i e hi=>?_
 cases i with
 |zero=>simp only[List.getElem?_cons_zero,Option.some.injEq] at hi;subst hi;exact⟨_,rfl,fun k hk=>hk⟩
 |succ i=>exact⟨e,hi,fun k hk=>hk⟩
theorem Has.l_ {N:Nat} {S s0 S2 st2:St} {H:List bG} {k:Nat} {b b':gP} {bb:Bool} {ks:Nat→Prop} {x:D} {s:Nat} {vs Ho:List (List D)} (h:Has N S s0 (.box k b::.bR bb ks x s vs::H)) (hS:S2.bs=s0.bs) (h2:Has N S2 st2 (.box k b'::.bR bb ks x s Ho::H)):Has N S ⟨st2.bs.take s0.bs.length,s0.flr,s0.ro⟩ (.box k b'::.bR bb ks x s Ho::H):=by
 refine h.tg hS h2 fun i e hi=>?_
 match i with
 |0=>simp only[List.getElem?_cons_zero,Option.some.injEq] at hi;subst hi;exact⟨_,rfl,fun k hk=>hk⟩
 |1=>simp only[List.getElem?_cons_succ,List.getElem?_cons_zero,Option.some.injEq] at hi;subst hi;exact⟨_,rfl,fun k hk=>hk⟩
 |i+2=>exact⟨e,hi,fun k hk=>hk⟩
theorem Has.DG {N:Nat} {S st:St} {H:List bG} {a b c d e:bG} (h:Has N S st (a::b::c::d::e::H)):Has N S st (b::c::d::e::a::H):=by
 refine h.sub (fun i=>if i=4 then 0 else if i<4 then i+1 else i) (fun i j hij=>?_) (fun i x hi=>?_)
 ·skip
  split at hij<;>split at hij<;>(try split at hij)<;>(try split at hij)<;>omega
 ·match i,hi with
  |0,hi=>exact hi
  |1,hi=>exact hi
  |2,hi=>exact hi
  |3,hi=>exact hi
  |4,hi=>exact hi
  |i+5,hi=>
   have h1:¬(i+5=4):=by omega
   have h2:¬(i+5<4):=by omega
   simp only[if_neg h1,if_neg h2];exact hi
theorem Has.eV {fr:Fr} {a k aq off j u u2:Nat} {t:TypeId} {ar:Bool} {c:List D} {d e e2:D} (hH:Has N S st H) (ha:fr.get a=.ptr k aq off) (hj:H[j]?=some (.box k (.mem aq ar c))) (hd:cP P t (c.drop off)=some d) (he:fr.get u=e) (tD:fr.get u2=e2):iR P fr st [.cell a t,.tmp u,.tmp u2]=some [d,e,e2]:=by
 simp only[iR,eW,ha,St.mem_of (hH.at hj),Option.bind_some,hd,Option.map_some,he,tD]
theorem EvC.fF {dy:Dy} {c1 c2:Code} {fr:Fr} {st:St} {Q:Out→Fr→St→Prop} (M:Fr→St→Prop) (h1:EvC P dy c1 fr st (SeqQ P dy c2 (Dg M Q))) (h2:∀aw ae,M aw ae→Q .next aw ae):EvC P dy c1 fr st (SeqQ P dy c2 Q):=
 h1.mono fun o aw ae h=>by
  cases o with
  |next=>exact EvC.merge M h h2
  |exit i=>exact h
  |ret=>exact h
end Go.V
namespace Go.Proofs.YtajblankjjmonaaGreat
open Go.V Go
theorem rW {st:St} {L n:Nat} {kn:Bool} {k aq off len s:Nat}:aO st L kn n (.win k aq off len s)=aO st L false n (.win k aq off len s):=by
 cases n<;>rfl
theorem Az (l:List Rg):(l.map ag).map (·.map nz)=l.map ag:=by
 rw[List.map_map];rfl
theorem wK (l:List Rg):∀e∈l.map ag,∀d∈e,lT d=true:=by
 intro e he d hd;obtain⟨x,_,rfl⟩:=List.mem_map.1 he;simp only[ag,List.mem_cons,List.not_mem_nil,or_false] at hd
 rcases hd with rfl|rfl<;>rfl
theorem gU {N L j:Nat} {S st:St} {H:List bG} {x:D} {l:List Rg} (hH:Has N S st H) (hj:H[j]?=some (.lst x 2 (l.map ag))) (hx:∀k,x.ref=k+1→L≤k) {n:Nat} (hn:3≤n):aO st L false n x=some (aA l):=by
 rw[hH.y9 hj hx (wK l) hn,Az,dc]
theorem fV {gs:List (Nat×Nat)} {s:dI} {r:Int}:(bE gs s r).o=s.o∧(bE gs s r).g=s.g∧(bE gs s r).e=s.e∧s.i≤(bE gs s r).i∧(s.i≤gs.length→(bE gs s r).i≤gs.length):=by
 unfold bE
 split
 ·rename_i h;have:=cE h;exact⟨rfl,rfl,rfl,by show s.i≤s.i+1;omega,fun _=>by show s.i+1≤_;omega⟩
 ·exact⟨rfl,rfl,rfl,Nat.le_refl _,fun h=>h⟩
end Go.Proofs.YtajblankjjmonaaGreat
namespace Go.Proofs.YtajblankjjmonaaGreat
open Go.V Go
def NdV (n:Nod):Prop:=n.rd=aA n.rs∧n.rs.length≤1048576∧n.kids≤1048576
def dw (op mn mx:Int) (lz:Bool) (cap kids:Int) (a:List Rg):Nod:=⟨op,aA a,a,mn,mx,lz,cap,kids⟩
def kT (l:List Nod):D:=.sl ((l.map ay).map (ic 7))
theorem DT (l:List Nod):∀e∈l.map ay,e.length=7:=by
 intro e he;obtain⟨x,_,rfl⟩:=List.mem_map.1 he;rfl
theorem mW {l:List Nod} (h:∀n∈l,NdV n):∀e∈l.map ay,∀d∈e,bS d=true:=by
 intro e he d hd;obtain⟨n,hn,rfl⟩:=List.mem_map.1 he;have hr:=(h n hn).1;simp only[ay,hr,List.mem_cons,List.not_mem_nil,or_false] at hd
 rcases hd with rfl|rfl|rfl|rfl|rfl|rfl|rfl<;>rfl
theorem jP {l:List Nod} (h:∀n∈l,NdV n):SlD (kT l) 7 (l.map ay):=SlD.frozen (DT l) (mW h)
theorem HK {l:List Nod} (h:∀n∈l,NdV n) (hl:l.length≤1048576):(⟨kT l,l⟩:Nl).ok:=by
 refine⟨jP h,fun n hn=>?_,hl⟩;obtain⟨h1,h2,h3⟩:=h n hn;exact⟨by rw[h1];exact dr _,h2,by omega⟩
theorem kD {l:List Nod} (h:∀n∈l,NdV n):(l.map ay).map (·.map nz)=l.map ay:=by
 rw[List.map_map];refine List.map_congr_left fun n hn=>?_;have hr:=(h n hn).1;show(ay n).map nz=ay n;unfold ay;rw[hr];rfl
theorem iw {l:List Nod} (h:∀n∈l,NdV n):∀e∈l.map ay,∀d∈e,lT d=true:=by
 intro e he d hd;have:=mW h e he d hd
 cases d<;>first|rfl|exact this
theorem dW {N L j:Nat} {S st:St} {H:List bG} {x:D} {es:List (List D)} {l:List Nod} (hH:Has N S st H) (hj:H[j]?=some (.lst x 7 es)) (he:es.map (·.map nz)=l.map ay) (ht:∀e∈es,∀d∈e,lT d=true) (hx:∀k,x.ref=k+1→L≤k) {n:Nat} (hn:3≤n):aO st L false n x=some (kT l):=by
 rw[hH.y9 hj hx ht hn,he];rfl
theorem eX {N L j:Nat} {S st:St} {H:List bG} {x w:D} {op mn mx cap kids:Int} {lz:Bool} {a:List Rg} (hH:Has N S st H) (hj:H[j]?=some (.lst x 7 [[.int .i64 op,w,.int .i64 mn,.int .i64 mx,.bool lz,.int .i64 cap,.int .i64 kids]])) (hw:w=aA a∨w=.nul∧a=[]) (hx:∀k,x.ref=k+1→L≤k):aO st L false 16 x=some (kT [dw op mn mx lz cap kids a]):=by
 refine dW hH hj ?_ (fun e he d hd=>?_) hx (by decide)
 ·rcases hw with rfl|⟨rfl,rfl⟩<;>rfl
 ·simp only[List.mem_cons,List.not_mem_nil,or_false] at he;subst he;simp only[List.mem_cons,List.not_mem_nil,or_false] at hd
  rcases hw with rfl|⟨rfl,rfl⟩<;>rcases hd with rfl|rfl|rfl|rfl|rfl|rfl|rfl<;>rfl
theorem s8 {op mn mx cap kids:Int} {lz:Bool} {a:List Rg} (h:a.length≤1048576) (hk:kids≤1048576):∀n∈[dw op mn mx lz cap kids a],NdV n:=by
 intro n hn;simp only[List.mem_cons,List.not_mem_nil,or_false] at hn;subst hn;exact⟨rfl,h,hk⟩
end Go.Proofs.YtajblankjjmonaaGreat
namespace Go.Proofs.YtajblankjjmonaaGreat
open Go.V Go
def sA (gs:List (Nat×Nat)) (s s':dI):Prop:=s'.o=s.o∧s'.g=s.g∧s.i<s'.i∧s'.i≤gs.length
end Go.Proofs.YtajblankjjmonaaGreat
namespace Go.Proofs.YtajblankjjmonaaGreat
open Go.V Go
theorem pb:∀{l:List D},(∀d∈l,bS d=true)→refs l=0
 |[],_=>rfl
 |d::l,h=>by
  have h1:=pb (l:=l) fun d hd=>h d (List.mem_cons_of_mem _ hd);have h2:=h d (List.mem_cons_self ..)
  have h3:d.ref=0:=by cases d<;>first|rfl|(simp[bS] at h2)
  simp only[refs,h1,h3,Nat.max_self]
theorem kC {l:List Nod} (h:∀n∈l,NdV n):refs (l.map ay).flatten=0:=
 pb fun d hd=>by
  obtain⟨e,he,n3⟩:=List.mem_flatten.1 hd;exact mW h e he d n3
def partC (l:List Nod):List D:=[kT l]
theorem l3 {l:List (List Nod)} {i:Nat} {q:List Nod} (h:l[i]?=some q):(l.map partC)[i]?=some (partC q):=by rw[List.getElem?_map,h];rfl
def b_:List (List Nod)→Nat
 |[]=>0
 |l::ls=>l.length+b_ ls
theorem bK:∀a b:List (List Nod),b_ (a++b)=b_ a+b_ b
 |[],b=>by simp[b_]
 |l::a,b=>by rw[List.cons_append,b_,b_,bK a b];omega
end Go.Proofs.YtajblankjjmonaaGreat
namespace Go.Proofs.YtajblankjjmonaaGreat
open Go.V Go
theorem mF {N:Nat} {S st:St} {H:List bG} {a b c:bG} (h:Has N S st (a::b::c::H)):Has N S st (b::c::a::H):=by
 have h1:=h.front at1;have h2:=h1.front at2;exact h2.front at1
end Go.Proofs.YtajblankjjmonaaGreat
namespace Go.Proofs.YtajblankjjmonaaGreat
open Go.V Go
theorem oC {gs:List (Nat×Nat)} {s:dI} {r:Int} (h:bJ gs s.i r=false):bE gs s r=s:=by
 unfold bE;rw[if_neg (by rw[h];simp)]
theorem lU {gs:List (Nat×Nat)} {s:dI} {r:Int} (h:bJ gs s.i r=true):(bE gs s r).i=s.i+1:=by
 unfold bE;rw[if_pos h]
end Go.Proofs.YtajblankjjmonaaGreat
namespace Go.Proofs.YtajblankjjmonaaGreat
open Go.V Go
end Go.Proofs.YtajblankjjmonaaGreat
namespace Go.Proofs.YtajblankjjmonaaGreat
open Go.V Go
theorem wo:∀(n:Nat) (b:List UInt8),b.length≤n→(jc b).length≤b.length∧∀g∈jc b,g.2≤b.length:=by
 intro n
 induction n with
 |zero=>
  intro b hb;have:b=[]:=List.length_eq_zero_iff.1 (by omega);subst this;rw[mE];exact⟨Nat.le_refl _,fun g hg=>by cases hg⟩
 |succ n ih=>
  intro b hb
  by_cases h:b=[]
  ·subst h;rw[mE];exact⟨Nat.le_refl _,fun g hg=>by cases hg⟩
  ·have hp:=jM b;have hl:=sW h;obtain⟨h1,h2⟩:=ih (b.drop (eY b).2) (by rw[List.length_drop];omega);rw[List.length_drop] at h1 h2;rw[nH h];refine⟨by rw[List.length_cons];omega,fun g hg=>?_⟩
   rcases List.mem_cons.1 hg with rfl|hg
   ·exact hl
   ·have:=h2 g hg;omega
end Go.Proofs.YtajblankjjmonaaGreat
namespace Go.Proofs.YtajblankjjmonaaGreat
open Go.V Go
end Go.Proofs.YtajblankjjmonaaGreat
namespace Go.Proofs.YtajblankjjmonaaGreat
open Go.V Go
def bI (n:Nod):Bool:=((n.op==2)||((n.rs.length:Nat):Int)==0) &&((n.op==5)||((n.mn==0) &&(n.mx==0) &&!n.lz)) &&((n.op==6)||(n.cap==0))
noncomputable def dv (n:Nod) (g:Int):Int×Bool:=
 if bI n=false then(0,false)
 else if n.op=1∨n.op=7∨n.op=8 then(0,n.kids==0)
 else if n.op=2 then(0,(n.kids==0) &&iQ n.rs)
 else if n.op=3∨n.op=4 then(n.kids,decide (n.kids≥2))
 else if n.op=5 then(1,(n.kids==1) &&decide (n.mn≥0) &&decide (n.mn≤30) &&((n.mx==-1)||(decide (n.mx≥n.mn) &&decide (n.mx≤30))))
 else if n.op=6 then(1,(n.kids==1) &&(n.cap==g+1) &&decide (n.cap≤4))
 else(0,false)
def gx (h:Nat→Nat→Option (Nat×Nat)):Nat→Nat→Nat→Option (Nat×Nat)
 |0,at_,g=>some (at_,g)
 |k+1,at_,g=>match h at_ g with
  |some r=>gx h k r.1 r.2
  |none=>none
noncomputable def fO (l:List Nod):Nat→Nat→Nat→Option (Nat×Nat)
 |0,_,_=>none
 |f+1,at_,g=>match l[at_]? with
  |none=>none
  |some n=>if(dv n (g:Nat)).2=true then gx (fO l f) (dv n (g:Nat)).1.toNat (at_+1) (if n.op=6 then g+1 else g) else none
theorem ur {n:Nod} {g:Nat} (h:(dv n (g:Nat)).2=true):jO n (dv n (g:Nat)).1.toNat∧0≤(dv n (g:Nat)).1∧(n.op=6→n.cap=g+1∧n.cap≤4):=by
 unfold dv at h⊢;unfold jO
 by_cases h0:bI n=false
 ·rw[if_pos h0] at h;cases h
 rw[if_neg h0] at h⊢
 by_cases h1:n.op=1∨n.op=7∨n.op=8
 ·rw[if_pos h1] at h⊢;simp only[beq_iff_eq] at h;exact⟨⟨h,.inl ⟨h1,rfl⟩⟩,Int.le_refl _,fun h6=>by omega⟩
 rw[if_neg h1] at h⊢
 by_cases h2:n.op=2
 ·rw[if_pos h2] at h⊢;simp only[Bool.and_eq_true,beq_iff_eq] at h;exact⟨⟨h.1,.inr (.inl ⟨h2,rfl⟩)⟩,Int.le_refl _,fun h6=>by omega⟩
 rw[if_neg h2] at h⊢
 by_cases h3:n.op=3∨n.op=4
 ·rw[if_pos h3] at h⊢;simp only[decide_eq_true_eq] at h;exact⟨⟨by simp only;omega,.inr (.inr (.inl ⟨h3,by simp only;omega⟩))⟩,by simp only;omega,fun h6=>by omega⟩
 rw[if_neg h3] at h⊢
 by_cases h5:n.op=5
 ·rw[if_pos h5] at h⊢;simp only[Bool.and_eq_true,Bool.or_eq_true,beq_iff_eq,decide_eq_true_eq] at h;exact⟨⟨by simp only;omega,.inr (.inr (.inr (.inl ⟨h5,by simp only;rfl,by omega,by omega,by omega⟩)))⟩,by simp only;omega,fun h6=>by omega⟩
 rw[if_neg h5] at h⊢
 by_cases h6:n.op=6
 ·rw[if_pos h6] at h⊢;simp only[Bool.and_eq_true,beq_iff_eq,decide_eq_true_eq] at h;exact⟨⟨by simp only;omega,.inr (.inr (.inr (.inr ⟨h6,by simp only;rfl,by omega,by omega⟩)))⟩,by simp only;omega,fun _=>⟨h.1.2,h.2⟩⟩
 rw[if_neg h6] at h;cases h
theorem fp.cons {α:Type} {L M:List α} {a:α} {at_:Nat} (h:L[at_]?=some a) (h2:fp L (at_+1) M):fp L at_ (a::M):=by
 obtain⟨post,h2⟩:=h2;refine⟨post,?_⟩;have h3:L[at_]'(lt_get h)=a:=Option.some.inj ((List.getElem?_eq_getElem _).symm.trans h);rw[List.drop_eq_getElem_cons (lt_get h),h2,h3];rfl
theorem fp.append {α:Type} {L M M':List α} {at_:Nat} (h:fp L at_ M) (h2:fp L (at_+M.length) M'):fp L at_ (M++M'):=by
 obtain⟨post,h⟩:=h;obtain⟨HD,h2⟩:=h2;refine⟨HD,?_⟩;rw[←List.drop_drop,h,List.drop_left] at h2;rw[h,h2,List.append_assoc]
theorem fp.none {α:Type} (L:List α) (at_:Nat):fp L at_ []:=⟨_,rfl⟩
theorem rO {l:List Nod} {h:Nat→Nat→Option (Nat×Nat)} (ih:∀at_ g r,h at_ g=some r→∃t:Tr,t.ok∧fp l at_ t.flat∧r.1=at_+t.flat.length):∀k at_ g r,gx h k at_ g=some r→∃ts:aJ,ts.len=k∧ts.ok∧fp l at_ ts.flat∧r.1=at_+ts.flat.length
 |0,at_,g,r,e=>by
  simp only[gx,Option.some.injEq] at e;subst e;exact⟨.nil,rfl,trivial,fp.none _ _,by simp[aJ.flat]⟩
 |k+1,at_,g,r,e=>by
  unfold gx at e
  cases hq:h at_ g with
  |none=>rw[hq] at e;cases e
  |some q=>
   rw[hq] at e;obtain⟨t,t1,t2,t3⟩:=ih _ _ _ hq;obtain⟨ts,u1,u2,u3,u4⟩:=rO ih k _ _ _ e;rw[t3] at u3 u4;exact⟨.cons t ts,by simp[aJ.len,u1],by simp only[aJ.ok];exact⟨t1,u2⟩,by simp only[aJ.flat];exact t2.append u3,by rw[u4];simp only[aJ.flat,List.length_append];omega⟩
theorem uZ {l:List Nod}:∀f at_ g r,fO l f at_ g=some r→∃t:Tr,t.ok∧fp l at_ t.flat∧r.1=at_+t.flat.length
 |0,_,_,_,e=>by simp[fO] at e
 |f+1,at_,g,r,e=>by
  unfold fO at e
  cases hn:l[at_]? with
  |none=>rw[hn] at e;cases e
  |some n=>
   rw[hn] at e;simp only at e
   split at e
   ·rename_i hs;obtain⟨ts,u1,u2,u3,u4⟩:=rO (uZ f) _ _ _ _ e;have:=(ur hs).1;rw[←u1] at this;exact⟨.mk n ts,by simp only[Tr.ok];exact⟨this,u2⟩,by simp only[Tr.flat];exact fp.cons hn u3,by rw[u4];simp only[Tr.flat,List.length_cons];omega⟩
   ·cases e
noncomputable def e_ (l:List Nod):Bool:=(decide (1≤l.length) &&decide (l.length≤480)) &&(match fO l 241 0 0 with|some r=>decide (r.1=l.length)|none=>false)
theorem pa {l:List Nod} (h:e_ l=true):∃t:Tr,t.ok∧t.flat=l:=by
 unfold e_ at h;simp only[Bool.and_eq_true] at h;obtain⟨_,h⟩:=h
 split at h
 ·rename_i r hr;obtain⟨t,h1,⟨post,h2⟩,h3⟩:=uZ _ _ _ _ hr;rw[decide_eq_true_eq] at h;refine⟨t,h1,?_⟩;rw[List.drop_zero] at h2;have h4:=congrArg List.length h2;rw[List.length_append] at h4;have h5:post=[]:=List.length_eq_zero_iff.1 (by omega);rw[h2,h5,List.append_nil]
 ·cases h
noncomputable def bP (l:List Nod):Tr:=@dite _ (∃t:Tr,t.ok∧t.flat=l) (Classical.propDecidable _) (fun h=>Classical.choose h) (fun _=>.mk ⟨0,.nul,[],0,0,false,0,0⟩ .nil)
theorem sG {l:List Nod} (h:e_ l=true):(bP l).ok∧(bP l).flat=l:=by
 unfold bP;rw[dif_pos (pa h)];exact Classical.choose_spec (pa h)
end Go.Proofs.YtajblankjjmonaaGreat
namespace Go.Proofs.YtajblankjjmonaaGreat
open Go.V Go
theorem Eu {n:Nod} {k s:Nat}:min (bk n (min s 401) k) 401=min (bk n s k) 401:=by
 by_cases hs:s≤401
 ·rw[Nat.min_eq_left hs]
 ·have hx:min s 401=401:=by omega
  rw[hx];unfold bk
  split
  ·rfl
  ·split
   ·omega
   ·split
    ·omega
    ·split
     ·split
      ·omega
      ·by_cases h0:n.mn.toNat=0
       ·rw[h0]
        by_cases hd:n.mx.toNat-0=0
        ·rw[hd];simp
        ·have h1:=Nat.le_mul_of_pos_left (401+1) (show 0<n.mx.toNat-0 by omega);have h2:=Nat.le_mul_of_pos_left (s+1) (show 0<n.mx.toNat-0 by omega);omega
       ·have h1:=Nat.le_mul_of_pos_left 401 (show 0<n.mn.toNat by omega);have h2:=Nat.le_mul_of_pos_left s (show 0<n.mn.toNat by omega);omega
     ·omega
def gR (t:Tr) (b r:Nat):List aN:=bh 4 0 0 []::(av t (b+1)++[bh 4 1 0 [],bh 7 (r:Nat) 0 []])
theorem mQ {t:Tr} {b r:Nat} (h:t.ok):(gR t b r).length=t.sz+3:=by
 unfold gR;rw[List.length_cons,List.length_append,bw t _ h];rfl
structure sB where
 code:List aN
 bf:List Int
 e:Int
 w:Int
noncomputable def gX:List (List Nod)→Nat→List aN→List Int→sB
 |[],_,c,s=>⟨c,s,0,0⟩
 |l::ls,r,c,s=>if e_ l=false then⟨[],[],1,(r:Nat)⟩ else if 400<c.length+min (bP l).sz 401+3 then⟨[],[],12,(r:Nat)⟩ else gX ls (r+1) (c++gR (bP l) c.length r) (s++[((c.length:Nat):Int)])
noncomputable def compileS (rules:List (List Nod)):sB:=if 8<rules.length then⟨[],[],13,8⟩ else gX rules 0 [] []
def pgV (code:List aN) (bf:List Int):Pg:=⟨.sl ((code.map aT).map (ic 4)),code,EK bf,bf⟩
def iI (i:aN):Prop:=i.rd=.sl ((i.rs.map ag).map (ic 2))∧i.rs.length≤1048576
theorem l6 (op x y:Int):iI (bh op x y []):=⟨rfl,by simp[bh]⟩
theorem HN (op x y:Int) {rs:List Rg} (h:rs.length≤1048576):iI (bh op x y rs):=⟨rfl,h⟩
theorem Bg (s o:Nat) (lz:Bool):iI (gJ s o lz):=by unfold gJ;split<;>exact l6 _ _ _
theorem EJ (e:Nat):iI (eZ e):=l6 _ _ _
theorem xu {code:List aN} (h:∀i∈code,iI i):∀e∈code.map aT,∀d∈e,bS d=true:=by
 intro e he d hd;obtain⟨q,hq,rfl⟩:=List.mem_map.1 he;have hr:=(h q hq).1;simp only[aT,hr,List.mem_cons,List.not_mem_nil,or_false] at hd
 rcases hd with rfl|rfl|rfl|rfl<;>rfl
theorem D3 (code:List aN):∀e∈code.map aT,e.length=4:=by
 intro e he;obtain⟨q,_,rfl⟩:=List.mem_map.1 he;rfl
theorem BD {code:List aN} {bf:List Int} (h:∀i∈code,iI i) (h1:code.length≤1048576) (h2:bf.length≤1048576):(pgV code bf).ok:=by
 refine⟨SlD.frozen (D3 code) (xu h),Ca _,fun i hi=>?_,h1,h2⟩;obtain⟨h3,h4⟩:=h i hi;refine⟨?_,h4⟩;rw[h3];exact SlD.frozen (mS _) (da _)
theorem wU {c:Nat→List aN} {z:Nat} (hc:∀b,∀i∈c b,iI i):∀k b,∀i∈ei c z k b,iI i
 |0,b,i,hi=>by cases hi
 |k+1,b,i,hi=>by
  simp only[ei] at hi
  rcases List.mem_append.1 hi with hi|hi
  ·exact hc b i hi
  ·exact wU hc k _ i hi
theorem BI {sp:Nat→aN} {c:Nat→List aN} {z:Nat} (hs:∀s,iI (sp s)) (hc:∀b,∀i∈c b,iI i):∀k b,∀i∈dK sp c z k b,iI i
 |0,b,i,hi=>by cases hi
 |k+1,b,i,hi=>by
  simp only[dK] at hi
  rcases List.mem_cons.1 hi with rfl|hi
  ·exact hs _
  ·rcases List.mem_append.1 hi with hi|hi
   ·exact hc _ i hi
   ·exact BI hs hc k _ i hi
mutual
theorem oS:∀(t:Tr) (b:Nat),(∀n∈t.flat,n.rs.length≤1048576)→∀i∈av t b,iI i
 | .mk n ks,b,h,i,hi=>by
  simp only[Tr.flat] at h;have hn:=h n (List.mem_cons_self ..);have hk:∀n∈ks.flat,n.rs.length≤1048576:=fun m hm=>h m (List.mem_cons_of_mem _ hm);have hc:=fun b=>C3 ks b hk;have ha:=fun jp (hj:iI jp) b=>Da jp hj ks b hk;simp only[av] at hi
  split at hi
  ·simp only[List.mem_cons,List.not_mem_nil,or_false] at hi;subst hi;exact HN _ _ _ hn
  split at hi
  ·simp only[List.mem_cons,List.not_mem_nil,or_false] at hi;subst hi;exact l6 _ _ _
  split at hi
  ·simp only[List.mem_cons,List.not_mem_nil,or_false] at hi;subst hi;exact l6 _ _ _
  split at hi
  ·exact hc b i hi
  split at hi
  ·exact ha _ (EJ _) b i hi
  split at hi
  ·unfold n_ at hi
   split at hi
   ·rcases List.mem_append.1 hi with hi|hi
    ·exact wU hc _ _ i hi
    ·rcases List.mem_cons.1 hi with rfl|hi
     ·exact Bg _ _ _
     ·rcases List.mem_append.1 hi with hi|hi
      ·exact hc _ i hi
      ·simp only[List.mem_cons,List.not_mem_nil,or_false] at hi;subst hi;exact EJ _
   ·rcases List.mem_append.1 hi with hi|hi
    ·exact wU hc _ _ i hi
    ·exact BI (fun s=>Bg _ _ _) hc _ _ i hi
  split at hi
  ·rcases List.mem_cons.1 hi with rfl|hi
   ·exact l6 _ _ _
   ·rcases List.mem_append.1 hi with hi|hi
    ·exact hc _ i hi
    ·simp only[List.mem_cons,List.not_mem_nil,or_false] at hi;subst hi;exact l6 _ _ _
  ·cases hi
theorem C3:∀(ts:aJ) (b:Nat),(∀n∈ts.flat,n.rs.length≤1048576)→∀i∈eT ts b,iI i
 | .nil,b,_,i,hi=>by simp[eT] at hi
 | .cons t ts,b,h,i,hi=>by
  simp only[aJ.flat] at h;simp only[eT] at hi
  rcases List.mem_append.1 hi with hi|hi
  ·exact oS t b (fun n hn=>h n (List.mem_append_left _ hn)) i hi
  ·exact C3 ts _ (fun n hn=>h n (List.mem_append_right _ hn)) i hi
theorem Da (jp:aN) (hj:iI jp):∀(ts:aJ) (b:Nat),(∀n∈ts.flat,n.rs.length≤1048576)→∀i∈cA jp ts b,iI i
 | .nil,b,_,i,hi=>by simp[cA] at hi
 | .cons t ts,b,h,i,hi=>by
  simp only[aJ.flat] at h;have h1:∀n∈t.flat,n.rs.length≤1048576:=fun n hn=>h n (List.mem_append_left _ hn);have h2:∀n∈ts.flat,n.rs.length≤1048576:=fun n hn=>h n (List.mem_append_right _ hn);simp only[cA] at hi
  split at hi
  ·exact oS t b h1 i hi
  ·rcases List.mem_cons.1 hi with rfl|hi
   ·exact Bg _ _ _
   ·rcases List.mem_append.1 hi with hi|hi
    ·exact oS t _ h1 i hi
    ·rcases List.mem_cons.1 hi with rfl|hi
     ·exact hj
     ·exact Da jp hj ts _ h2 i hi
end
theorem DD {t:Tr} {b r:Nat} (h:∀n∈t.flat,n.rs.length≤1048576):∀i∈gR t b r,iI i:=by
 intro i hi;unfold gR at hi
 rcases List.mem_cons.1 hi with rfl|hi
 ·exact l6 _ _ _
 ·rcases List.mem_append.1 hi with hi|hi
  ·exact oS t _ h i hi
  ·simp only[List.mem_cons,List.not_mem_nil,or_false] at hi
   rcases hi with rfl|rfl
   ·exact l6 _ _ _
   ·exact l6 _ _ _
end Go.Proofs.YtajblankjjmonaaGreat
namespace Go.Proofs.YtajblankjjmonaaGreat
open Go.V Go
def nf (fr:Go.V.Fr) (k:Nat):Go.V.D:=Go.V.nth .junk fr.loc k
theorem BB {s0:St} {n:Nod} (hn:n.ok):Ev pv 50 [.agg (ay n)] s0 (.bool (bI n)) s0:=by
 refine Ev.mk1 rfl M0 rfl rfl rfl ?_;refine zE ?_;obtain⟨hSb,hF,hH⟩:=ri s0;generalize enterSt .ro s0=S at*;have qJ:=hn.1.arg s0.bs.length S;have vz:=hn.2.1;refine zQ 2 ?_;refine qb hH fun k1 st nx hH=>?_;dsimp only[u2,u1,u3,u4,setMany,u5,u6,D.cells,Nat.reduceAdd,ay] at hH;refine zQ 10 ?_;refine EvC.ml 2 (.bool (((n.op==2)||((n.rs.length:Nat):Int)==0) &&((n.op==5)||((n.mn==0) &&(n.mx==0) &&!n.lz)) &&((n.op==6)||(n.cap==0)))) [] ?_ (fun ff tmp=>?_)
 ·refine zQ 4 ?_;refine EvO.two 10 rfl (fun hg3=>?_) (fun hg3=>?_)
  ·refine zQ 8 ?_;refine EvO.two 18 rfl (fun bA=>?_) (fun bA=>?_)
   ·refine zQ 20 ?_;refine EvO.two 38 rfl (fun iY=>?_) (fun iY=>?_)
    ·refine zQ 6 ?_;refine EvO.nil (aI ?_);refine zG ?_
     all_goals(simp[hg3,bA,iY];done)
    ·refine zQ 6 ?_;refine EvO.nil (aI ?_);refine zG ?_
     all_goals(simp[hg3,bA,iY];done)
   ·refine zQ 4 ?_;refine EvO.two 22 rfl (fun jY=>?_) (fun jY=>?_)
    ·refine zQ 3 ?_;refine EvO.pickT (wantD_is rfl rfl rfl bA) rfl jY (put_T rfl _) ?_;refine zQ 1 ?_;refine EvO.two 27 rfl (fun lC=>?_) (fun lC=>?_)
     ·refine zQ 3 ?_;refine EvO.pickT (wantD_is rfl rfl rfl bA) rfl lC (put_T rfl _) ?_;refine zQ 3 ?_;refine EvO.two 34 rfl (fun ny=>?_) (fun ny=>?_)
      ·refine zQ 4 ?_;refine EvO.two 38 rfl (fun iY=>?_) (fun iY=>?_)
       ·refine zQ 3 ?_;refine EvO.pickT (wantD_is rfl rfl rfl ny) rfl iY (put_T rfl _) ?_;refine zQ 2 ?_;refine EvO.nil (aI ?_);refine zG ?_
        all_goals(simp[hg3,bA,jY,lC,ny,iY];done)
       ·refine zQ 3 ?_;refine EvO.pickF (wantD_is rfl rfl rfl ny) rfl iY (put_T rfl _) ?_;refine zQ 2 ?_;refine EvO.nil (aI ?_);refine zG ?_
        all_goals(simp[hg3,bA,jY,lC,ny,iY];done)
      ·refine zQ 10 ?_;refine EvO.nil (aI ?_);refine zG ?_
       all_goals(simp[hg3,bA,jY,lC,ny];done)
     ·refine zQ 3 ?_;refine EvO.pickF (wantD_is rfl rfl rfl bA) rfl lC (put_T rfl _) ?_;refine zQ 13 ?_;refine EvO.nil (aI ?_);refine zG ?_
      all_goals(simp[hg3,bA,jY,lC];done)
    ·refine zQ 3 ?_;refine EvO.pickF (wantD_is rfl rfl rfl bA) rfl jY (put_T rfl _) ?_;refine zQ 18 ?_;refine EvO.nil (aI ?_);refine zG ?_
     all_goals(simp[hg3,bA,jY];done)
  ·refine zQ 2 ?_;refine qn ?_ (hg:=wi hg3);simp only[List.length_map];refine zQ 3 ?_;refine EvO.two 16 rfl (fun cZ=>?_) (fun cZ=>?_)
   ·refine zQ 2 ?_;refine EvO.two 18 rfl (fun bA=>?_) (fun bA=>?_)
    ·refine zQ 13 ?_;refine EvO.pickT (wantD_is rfl rfl rfl cZ) rfl bA (put_T rfl _) ?_;refine zQ 6 ?_;refine EvO.two 38 rfl (fun iY=>?_) (fun iY=>?_)
     ·refine zQ 6 ?_;refine EvO.nil (aI ?_);refine zG ?_
      all_goals(simp[hg3,cZ,bA,iY];done)
     ·refine zQ 6 ?_;refine EvO.nil (aI ?_);refine zG ?_
      all_goals(simp[hg3,cZ,bA,iY];done)
    ·refine zQ 4 ?_;refine EvO.two 22 rfl (fun jY=>?_) (fun jY=>?_)
     ·refine zQ 3 ?_;refine EvO.pickT (wantD_is rfl rfl rfl bA) rfl jY (put_T rfl _) ?_;refine zQ 1 ?_;refine EvO.two 27 rfl (fun lC=>?_) (fun lC=>?_)
      ·refine zQ 3 ?_;refine EvO.pickT (wantD_is rfl rfl rfl bA) rfl lC (put_T rfl _) ?_;refine EvO.pickF (wantD_is rfl rfl rfl cZ) rfl bA (put_T rfl _) ?_;refine zQ 2 ?_;refine EvO.two 34 rfl (fun ny=>?_) (fun ny=>?_)
       ·refine zQ 4 ?_;refine EvO.two 38 rfl (fun iY=>?_) (fun iY=>?_)
        ·refine zQ 3 ?_;refine EvO.pickT (wantD_is rfl rfl rfl ny) rfl iY (put_T rfl _) ?_;refine zQ 2 ?_;refine EvO.nil (aI ?_);refine zG ?_
         all_goals(simp[hg3,cZ,bA,jY,lC,ny,iY];done)
        ·refine zQ 3 ?_;refine EvO.pickF (wantD_is rfl rfl rfl ny) rfl iY (put_T rfl _) ?_;refine zQ 2 ?_;refine EvO.nil (aI ?_);refine zG ?_
         all_goals(simp[hg3,cZ,bA,jY,lC,ny,iY];done)
       ·refine zQ 10 ?_;refine EvO.nil (aI ?_);refine zG ?_
        all_goals(simp[hg3,cZ,bA,jY,lC,ny];done)
      ·refine zQ 3 ?_;refine EvO.pickF (wantD_is rfl rfl rfl bA) rfl lC (put_T rfl _) ?_;refine EvO.pickF (wantD_is rfl rfl rfl cZ) rfl bA (put_T rfl _) ?_;refine zQ 12 ?_;refine EvO.nil (aI ?_);refine zG ?_
       all_goals(simp[hg3,cZ,bA,jY,lC];done)
     ·refine zQ 3 ?_;refine EvO.pickF (wantD_is rfl rfl rfl bA) rfl jY (put_T rfl _) ?_;refine zQ 5 ?_;refine EvO.pickF (wantD_is rfl rfl rfl cZ) rfl bA (put_T rfl _) ?_;refine zQ 12 ?_;refine EvO.nil (aI ?_);refine zG ?_
      all_goals(simp[hg3,cZ,bA,jY];done)
   ·refine zQ 28 ?_;refine EvO.nil (aI ?_);refine zG ?_
    all_goals(simp[hg3,cZ];done)
 dsimp only[setW,List.foldl,nth,u2,u1];refine EvC.ret ⟨rx,_,rfl,rl hSb hH (rfl)⟩
theorem wP {s0:St} {n:Nod} (hn:n.ok) {g:Nat} (hg:g≤1048576):Ev pv 38 [.agg (ay n),.int .i64 (g:Nat)] s0 (.tup [.int .i64 (dv n (g:Nat)).1,.bool (dv n (g:Nat)).2]) s0:=by
 refine Ev.mk1 rfl Nb rfl rfl rfl ?_;refine zE ?_;obtain⟨hSb,hF,hH⟩:=ri s0;generalize enterSt .ro s0=S at*;have qJ:=hn.1.arg s0.bs.length S;have vz:=hn.2.1;refine zQ 2 ?_;refine qb hH fun k2 st nv hH=>?_;dsimp only[u2,u1,u3,u4,setMany,u5,u6,D.cells,Nat.reduceAdd,ay] at hH;refine zQ 6 ?_;refine EvO.hloadS (m:=7) hH rfl (ev rfl) (by exact at0) (by dsimp only[List.drop_succ_cons,List.drop_zero,List.take_succ_cons,List.take_zero,ay]<;>rfl) rfl rfl (by dsimp only[Fr.put,u1,u2]<;>rfl) ?_;refine qv (BB hn) ?_;refine zQ 2 ?_;unfold dv
 cases hp:bI n with
 |false=>
  rw[if_pos rfl];refine zQ 6 ?_;refine EvC.ret ⟨rx,_,rfl,rl hSb hH (rfl)⟩
 |true=>
  rw[if_neg (by simp)];refine zQ 15 ?_
  by_cases q1:n.op=1
  ·rw[if_pos (.inl q1)];refine qD rfl (by simp[q1]) ?_;refine zQ 1 ?_;refine qD rfl (by simp[q1]) ?_;refine zQ 8 ?_;refine EvC.ret ⟨rx,_,rfl,rl hSb hH (rfl)⟩
  refine qE rfl (by simp[q1]) ?_;refine zQ 5 ?_
  by_cases q7:n.op=7
  ·rw[if_pos (.inr (.inl q7))];refine qD rfl (by simp[q7]) ?_;refine zQ 1 ?_;refine qD rfl (by simp[q7]) ?_;refine zQ 8 ?_;refine EvC.ret ⟨rx,_,rfl,rl hSb hH (rfl)⟩
  refine qE rfl (by simp[q7]) ?_;refine zQ 4 ?_
  by_cases q8:n.op=8
  ·rw[if_pos (.inr (.inr q8))];refine qD rfl (by simp[q8]) ?_;refine zQ 8 ?_;refine EvC.ret ⟨rx,_,rfl,rl hSb hH (rfl)⟩
  refine qE rfl (by simp[q8]) ?_;rw[if_neg (by omega)];refine zQ 5 ?_;refine zI (fun q2=>?_) fun q2=>?_
  ·rw[if_pos q2];refine qq<|EvC.GA [4,5] (fun ff=>ff 4=.int .i64 0∧ff 5=.bool ((n.kids==0) &&iQ n.rs)) ?_ (fun ff tmp lE=>?_)
   ·refine zQ 4 ?_;refine EvO.two 23 rfl (fun hg3=>?_) (fun hg3=>?_)
    ·refine zQ 2 ?_;refine qv (Bq (qJ.rows hH) vz) ?_ (hg:=wi hg3);refine zQ 3 ?_;refine EvO.nil (jU ?_ ?_)
     ·dsimp only[setW,List.foldl,nth,u2,u1]
     ·dsimp only[nth];refine zF ?_;refine⟨?_,?_⟩<;>(first|rfl|(simp[hg3];done))
    ·refine zQ 6 ?_;refine EvO.nil (jU ?_ ?_)
     ·dsimp only[setW,List.foldl,nth,u2,u1]
     ·dsimp only[nth];refine zF ?_;refine⟨?_,?_⟩<;>(first|rfl|(simp[hg3];done))
   dsimp only[setW,List.foldl,nth,u2,u1];obtain⟨Cw,Cv⟩:=lE;rw[Cw,Cv];refine EvC.ret ⟨rx,_,rfl,rl hSb hH (rfl)⟩
  rw[if_neg q2];refine zQ 6 ?_
  by_cases q3:n.op=3
  ·rw[if_pos (.inl q3)];refine qD rfl (by simp[q3]) ?_;refine zQ 1 ?_;refine qD rfl (by simp[q3]) ?_;refine zQ 10 ?_;refine EvC.ret ⟨rx,_,rfl,rl hSb hH (rfl)⟩
  refine qE rfl (by simp[q3]) ?_;refine zQ 4 ?_
  by_cases q4:n.op=4
  ·rw[if_pos (.inr q4)];refine qD rfl (by simp[q4]) ?_;refine zQ 10 ?_;refine EvC.ret ⟨rx,_,rfl,rl hSb hH (rfl)⟩
  rw[if_neg (by omega)];refine qE rfl (by simp[q4]) ?_;refine zQ 5 ?_;refine zI (fun q5=>?_) fun q5=>?_
  ·rw[if_pos q5];refine qq<|EvC.GA [4,5] (fun ff=>ff 4=.int .i64 1∧ff 5=.bool ((n.kids==1) &&decide (n.mn≥0) &&decide (n.mn≤30) &&((n.mx==-1)||(decide (n.mx≥n.mn) &&decide (n.mx≤30))))) ?_ (fun ff tmp lE=>?_)
   ·refine zQ 4 ?_;refine EvO.two 41 rfl (fun hg3=>?_) (fun hg3=>?_)
    ·refine zQ 5 ?_;refine EvO.two 46 rfl (fun hg8=>?_) (fun hg8=>?_)
     ·refine zQ 5 ?_;refine EvO.two 51 rfl (fun hg13=>?_) (fun hg13=>?_)
      ·refine zQ 4 ?_;refine EvO.two 55 rfl (fun aW=>?_) (fun aW=>?_)
       ·refine zQ 10 ?_;refine EvO.pickT (wantD_is rfl rfl rfl hg13) rfl aW (put_T rfl _) ?_;refine zQ 3 ?_;refine EvO.nil (jU ?_ ?_)
        ·dsimp only[setW,List.foldl,nth,u2,u1]
        ·dsimp only[nth];refine zF ?_;refine⟨?_,?_⟩<;>(first|rfl|(simp[hg3,hg8,hg13,aW];done))
       ·refine zQ 6 ?_;refine EvO.two 61 rfl (fun oj=>?_) (fun oj=>?_)
        ·refine zQ 3 ?_;refine EvO.pickT (wantD_is rfl rfl rfl aW) rfl oj (put_T rfl _) ?_;refine EvO.pickF (wantD_is rfl rfl rfl hg13) rfl aW (put_T rfl _) ?_;refine zQ 3 ?_;refine EvO.nil (jU ?_ ?_)
         ·dsimp only[setW,List.foldl,nth,u2,u1]
         ·dsimp only[nth];refine zF ?_;refine⟨?_,?_⟩<;>(first|rfl|(simp[hg3,hg8,hg13,aW,oj];done))
        ·refine zQ 3 ?_;refine EvO.pickF (wantD_is rfl rfl rfl aW) rfl oj (put_T rfl _) ?_;refine EvO.pickF (wantD_is rfl rfl rfl hg13) rfl aW (put_T rfl _) ?_;refine zQ 3 ?_;refine EvO.nil (jU ?_ ?_)
         ·dsimp only[setW,List.foldl,nth,u2,u1]
         ·dsimp only[nth];refine zF ?_;refine⟨?_,?_⟩<;>(first|rfl|(simp[hg3,hg8,hg13,aW,oj];done))
      ·refine zQ 18 ?_;refine EvO.nil (jU ?_ ?_)
       ·dsimp only[setW,List.foldl,nth,u2,u1]
       ·dsimp only[nth];refine zF ?_;refine⟨?_,?_⟩<;>(first|rfl|(simp[hg3,hg8,hg13];done))
     ·refine zQ 23 ?_;refine EvO.nil (jU ?_ ?_)
      ·dsimp only[setW,List.foldl,nth,u2,u1]
      ·dsimp only[nth];refine zF ?_;refine⟨?_,?_⟩<;>(first|rfl|(simp[hg3,hg8];done))
    ·refine zQ 28 ?_;refine EvO.nil (jU ?_ ?_)
     ·dsimp only[setW,List.foldl,nth,u2,u1]
     ·dsimp only[nth];refine zF ?_;refine⟨?_,?_⟩<;>(first|rfl|(simp[hg3];done))
   dsimp only[setW,List.foldl,nth,u2,u1];obtain⟨Cw,Cv⟩:=lE;rw[Cw,Cv];refine EvC.ret ⟨rx,_,rfl,rl hSb hH (rfl)⟩
  rw[if_neg q5];refine zQ 5 ?_;refine zI (fun q6=>?_) fun q6=>?_
  ·rw[if_pos q6];refine qq<|EvC.GA [4,5] (fun ff=>ff 4=.int .i64 1∧ff 5=.bool ((n.kids==1) &&(n.cap==((g+1:Nat):Int)) &&decide (n.cap≤4))) ?_ (fun ff tmp lE=>?_)
   ·refine zQ 4 ?_;refine EvO.two 73 rfl (fun hg3=>?_) (fun hg3=>?_)
    ·refine zQ 7 ?_;refine EvO.two 80 rfl (fun bC=>?_) (fun bC=>?_)
     ·refine zQ 6 ?_;refine EvO.nil (jU ?_ ?_)
      ·dsimp only[setW,List.foldl,nth,u2,u1]
      ·dsimp only[nth];refine zF ?_;refine⟨?_,?_⟩<;>(first|rfl|(simp[hg3,bC];done))
     ·refine zQ 6 ?_;refine EvO.nil (jU ?_ ?_)
      ·dsimp only[setW,List.foldl,nth,u2,u1]
      ·dsimp only[nth];refine zF ?_;refine⟨?_,?_⟩<;>(first|rfl|(simp[hg3,bC];done))
    ·refine zQ 13 ?_;refine EvO.nil (jU ?_ ?_)
     ·dsimp only[setW,List.foldl,nth,u2,u1]
     ·dsimp only[nth];refine zF ?_;refine⟨?_,?_⟩<;>(first|rfl|(simp[hg3];done))
   dsimp only[setW,List.foldl,nth,u2,u1];obtain⟨Cw,Cv⟩:=lE;rw[Cw,Cv];refine EvC.ret ⟨rx,_,rfl,rl hSb hH (rfl)⟩
  ·rw[if_neg q6];refine zQ 6 ?_;refine EvC.ret ⟨rx,_,rfl,rl hSb hH (rfl)⟩
theorem py {n:Nod} (h:n.ok):refs (ay n)=0:=by
 have:=h.1.ref;simp only[ay,refs,D.ref,this,Nat.max_self]
def nK (d:D) (at_ g:Nat):List D:=[d,.int .i64 (at_:Nat),.int .i64 (g:Nat)]
theorem BN {l:List Nod} {d:D} (hl:l.length≤1048576) (hi:∀n∈l,n.ok) (hd:SlD d 7 (l.map ay)):∀(f:Nat) {N k:Nat} {S s0:St} {H:List bG} {at_ g:Nat},f≤241→g≤4→Has N S s0 (.box k (.mem 0 false (nK d at_ g))::H)→
  ∃r ae,Ev pv 29 [.ptr k 0 0,.int .i64 ((241-f:Nat):Int)] s0 r ae∧r=.bool (fO l f at_ g).isSome∧∃a' g',Has N S ae (.box k (.mem 0 false (nK d a' g'))::H)∧g'≤4∧∀q,fO l f at_ g=some q→a'=q.1∧g'=q.2:=by
 intro f
 induction f with
 |zero=>
  intro N k S s0 H at_ g hf hg hH;refine Ev.gT rfl Jm rfl rfl rfl ?_;refine zE ?_;have a_:=hH;have hH:=hH.aY;have aU:(enterSt .rw s0).bs=s0.bs:=rfl;generalize enterSt .rw s0=S2 at*;have hc:=hd.arg N S2;refine zQ 6 ?_;refine EvC.cutT 21 (.bool (decide ((at_:Int)≥(l.length:Nat))||decide (((241-0:Nat):Int)>240))) [] ?_ (fun ff tmp htmp=>?_)
  ·refine zQ 8 ?_;refine qn ?_;simp only[List.length_map];refine zQ 2 ?_;refine EvO.two 18 rfl (fun bC=>?_) (fun bC=>?_)
   ·refine zQ 3 ?_;refine EvO.nil (leafT ?_ ?_)
    ·dsimp only[setW,List.foldl,nth,u2,u1]
     all_goals(first|rfl|simp)
    ·refine zF ?_
     all_goals(simp[bC];done)
   ·refine zQ 3 ?_;refine EvO.nil (leafT ?_ ?_)
    ·dsimp only[setW,List.foldl,nth,u2,u1]
     all_goals(first|rfl|simp)
    ·refine zF ?_
     all_goals(simp[bC];done)
  dsimp only[setW,List.foldl,nth,u2,u1];have hT:(decide ((at_:Int)≥(l.length:Nat))||decide (((241-0:Nat):Int)>240))=true:=by simp
  rw[hT] at htmp;refine zQ 5 ?_;refine EvC.ret ⟨rx,_,_,_,rfl,ab (rfl),?_⟩;exact⟨rfl,_,_,a_.af aU hH,hg,fun q hq=>by simp[fO] at hq⟩
 |succ f ih=>
  intro N k S s0 H at_ g hf hg hH;refine Ev.gT rfl Jm rfl rfl rfl ?_;refine zE ?_;have a_:=hH;have hH:=hH.aY;have aU:(enterSt .rw s0).bs=s0.bs:=rfl;generalize enterSt .rw s0=S2 at*;have hc:=hd.arg N S2;refine zQ 6 ?_;refine EvC.cutT 21 (.bool (decide ((at_:Int)≥(l.length:Nat))||decide (((241-(f+1):Nat):Int)>240))) [] ?_ (fun ff tmp htmp=>?_)
  ·refine zQ 8 ?_;refine qn ?_;simp only[List.length_map];refine zQ 2 ?_;refine EvO.two 18 rfl (fun bC=>?_) (fun bC=>?_)
   ·refine zQ 3 ?_;refine EvO.nil (leafT ?_ ?_)
    ·dsimp only[setW,List.foldl,nth,u2,u1]
     all_goals(first|rfl|simp)
    ·refine zF ?_
     all_goals(simp_all;done)
   ·refine zQ 3 ?_;refine EvO.nil (leafT ?_ ?_)
    ·dsimp only[setW,List.foldl,nth,u2,u1]
     all_goals(first|rfl|simp)
    ·refine zF ?_
     all_goals(simp_all;omega)
  dsimp only[setW,List.foldl,nth,u2,u1]
  by_cases ha:l.length≤at_
  ·have hT:(decide ((at_:Int)≥(l.length:Nat))||decide (((241-(f+1):Nat):Int)>240))=true:=by
    rw[Bool.or_eq_true];exact .inl (by rw[decide_eq_true_eq];omega)
   rw[hT] at htmp;have hn:fO l (f+1) at_ g=none:=by unfold fO;rw[List.getElem?_eq_none ha]
   rw[hn];refine zQ 5 ?_;refine EvC.ret ⟨rx,_,_,_,rfl,ab (rfl),?_⟩;exact⟨rfl,_,_,a_.af aU hH,hg,fun q hq=>by cases hq⟩
  ·have hT:(decide ((at_:Int)≥(l.length:Nat))||decide (((241-(f+1):Nat):Int)>240))=false:=by
    rw[Bool.or_eq_false_iff];exact⟨by rw[decide_eq_false_iff_not];omega,by rw[decide_eq_false_iff_not];omega⟩
   rw[hT] at htmp
   obtain⟨n,hn⟩:∃n,l[at_]?=some n:=⟨l[at_]'(by omega),List.getElem?_eq_getElem _⟩
   have jj:=hi n (List.mem_of_getElem? hn);have hr1:=gi hn;have Dn:=py jj
   have fY:fO l (f+1) at_ g=if(dv n (g:Nat)).2=true then gx (fO l f) (dv n (g:Nat)).1.toNat (at_+1) (if n.op=6 then g+1 else g) else none:=by
    rw[fO,hn]
   rw[fY];clear fY;refine zQ 12 ?_;refine qr fun Px Ld=>?_;refine EvO.cx rfl (ev rfl) (by assumption) rfl (put_T rfl _) ?_;refine qa hH fun k5 st IG hH=>?_;dsimp only[u2,u1,u3,u4,setMany,u5,u6,D.cells,Nat.reduceAdd,nK,ay] at hH;refine EvO.hstoreA hH rfl (ev rfl) (ev rfl) (by rfl) (by exact rfl) (by exact at0) (by exact rfl) (by exact .inr (by assumption)) (fun st hH=>?_);dsimp only[u2,u1,u3,u4,setMany,u5,u6,D.cells,Nat.reduceAdd,nK,ay] at hH;refine zQ 3 ?_;refine EvO.hloadS (m:=7) hH rfl (ev rfl) (by exact at0) (by dsimp only[List.drop_succ_cons,List.drop_zero,List.take_succ_cons,List.take_zero,nK,ay]<;>rfl) rfl rfl (put_T rfl _) ?_;refine zQ 4 ?_;refine qv (wP jj (by omega)) ?_;refine zQ 12 ?_
   cases hsh:(dv n (g:Nat)).2 with
   |false=>
    rw[if_neg (by simp)];refine zQ 5 ?_;refine EvC.ret ⟨rx,_,_,_,rfl,ab (rfl),?_⟩;exact⟨rfl,_,_,a_.af aU (hH.drop 1),hg,fun q hq=>by cases hq⟩
   |true=>
    rw[if_pos rfl];obtain⟨⟨nx,_⟩,nv,Hb⟩:=ur hsh;have IJ:=jj.2.2;obtain⟨kd,EW⟩:∃kd:Nat,(dv n (g:Nat)).1=(kd:Int):=Int.eq_ofNat_of_zero_le nv;rw[EW,Int.toNat_natCast];rw[EW,Int.toNat_natCast] at nx;refine zQ 11 ?_;refine qT hH at1 fun st hH=>?_;dsimp only[u2,u1,u3,u4,setMany,u5,u6,D.cells,Nat.reduceAdd,nK,ay] at hH;refine zQ 8 ?_;refine EvC.merge (fun fr st=>∃(g2:Nat) (tmp:List (Nat×D)),fr=⟨8,[.ptr k 0 0,.int .i64 ((241-(f+1):Nat):Int),nf fr 2,nf fr 3,.bool false,.ptr k5 0 0,.int .i64 (kd:Nat),.bool true],tmp⟩∧Has N S2 st (.box k (.mem 0 false [d,.int .i64 ((at_+1:Nat):Int),.int .i64 (g2:Nat)])::.box k5 (.mem 0 false (ay n))::H)∧(g2=if n.op=6 then g+1 else g)∧(g2≤4)) ?_ ?_
    ·refine zI (fun q6=>?_) fun q6=>?_
     ·have:=Hb q6;refine zQ 8 ?_;refine qT hH at1 fun st hH=>?_;dsimp only[u2,u1,u3,u4,setMany,u5,u6,D.cells,Nat.reduceAdd,nK,ay] at hH;refine zQ 1 ?_;exact⟨g+1,_,rfl,(by have:=hH.front at1;exact this),by rw[if_pos q6],by omega⟩
     ·refine zQ 1 ?_;exact⟨g,_,rfl,(by have:=hH.front at1;exact this),by rw[if_neg q6],hg⟩
    ·rintro fr st ⟨g2,tmp,hfr,hH,bZ,hg3⟩;rw[hfr];clear hfr;generalize nf fr=ee;clear fr;rw[←bZ];refine zQ 2 ?_;refine EvC.loop (fun mm fr st=>∃(kk a2 g4:Nat),fr.clean=⟨8,[.ptr k 0 0,.int .i64 ((241-(f+1):Nat):Int),nf fr 2,nf fr 3,.bool false,.ptr k5 0 0,.int .i64 (kk:Nat),.bool true],[]⟩∧Has N S2 st (.box k (.mem 0 false [d,.int .i64 (a2:Nat),.int .i64 (g4:Nat)])::.box k5 (.mem 0 false (ay n))::H)∧(gx (fO l f) kk a2 g4=gx (fO l f) kd (at_+1) g2)∧(g4≤4)∧(kk=mm)∧(kk≤9223372036854775807)) (kd) ?_ ?_
     ·exact⟨kd,at_+1,g2,rfl,hH,rfl,hg3,rfl,by omega⟩
     rintro mm fr st ⟨kk,a2,g4,hfr,hH,hX,cQ,G_,hkk⟩;rw[hfr];clear hfr;generalize nf fr=ee;clear fr;refine zQ 6 ?_
     cases kk with
     |zero=>
      refine EvC.cond (v:=false) (by dsimp only[Fr.ev,Fr.get,nth,V.look];rfl) (fun h=>by cases h) (fun _=>?_);refine zQ 5 ?_;refine EvC.ret ⟨rx,_,_,_,rfl,ab (rfl),?_⟩;exact⟨by rw[←hX];rfl,_,_,a_.af aU (hH.erase 1),cQ,fun q hq=>by rw[←hX] at hq;simp only[gx,Option.some.injEq] at hq;subst hq;exact⟨rfl,rfl⟩⟩
     |succ kk=>
      rw[gx] at hX;refine qD rfl (by simp) ?_;refine zQ 7 ?_;refine EvO.fM (z:=((241-f:Nat):Int)) rfl (ev rfl) (ev rfl) (by rw[wrap_i64 (by omega) (by omega)]<;>omega) (put_T rfl _) ?_;obtain⟨_,st,hev,rfl,a',g',hH,ig,hq⟩:=ih (at_:=a2) (g:=g4) (by omega) cQ hH;refine qv hev ?_;refine zQ 2 ?_
      cases ho:fO l f a2 g4 with
      |none=>
       rw[ho] at hX;refine zQ 5 ?_;refine EvC.ret ⟨rx,_,_,_,rfl,ab (rfl),?_⟩;exact⟨by rw[←hX];rfl,_,_,a_.af aU (hH.erase 1),ig,fun q hq=>by rw[←hX] at hq;cases hq⟩
      |some q=>
       rw[ho] at hX;obtain⟨rfl,rfl⟩:=hq q ho;refine zQ 4 ?_;refine EvO.jo (z:=((kk:Nat):Int)) rfl (ev rfl) (ev rfl) (by rw[wrap_i64 (by omega) (by omega)]<;>omega) (put_T rfl _) ?_;refine zQ 2 ?_;exact⟨mm-1,by omega,⟨kk,q.1,q.2,rfl,hH,hX,ig,by omega,by omega⟩⟩
theorem zH {s0:St} {x:Nl} (hx:x.ok):Ev pv 13 [x.d] s0 (.bool (e_ x.l)) s0:=by
 refine Ev.mk1 rfl ND rfl rfl rfl ?_;refine zE ?_;obtain⟨hSb,hF,hH⟩:=ri s0;generalize enterSt .ro s0=S at*;have hc:=hx.c.arg s0.bs.length S;have hl:=hx.nl;have yY:=hx.c;refine zQ 6 ?_;refine EvC.cutT 11 (.bool (decide (((x.l.length:Nat):Int)<1)||decide (((x.l.length:Nat):Int)>480))) [] ?_ (fun ff tmp htmp=>?_)
 ·refine qm ?_;refine qn ?_;simp only[List.length_map];refine zQ 2 ?_;refine EvO.two 7 rfl (fun hg3=>?_) (fun hg3=>?_)
  ·refine zQ 4 ?_;refine EvO.nil (leafT ?_ ?_)
   ·dsimp only[setW,List.foldl,nth,u2,u1]
    all_goals(first|rfl|simp)
   ·refine zF ?_
    all_goals(simp[hg3];done)
  ·refine zQ 1 ?_;refine qn ?_ (hg:=wi hg3);simp only[List.length_map];refine zQ 2 ?_;refine EvO.nil (leafT ?_ ?_)
   ·dsimp only[setW,List.foldl,nth,u2,u1]
    all_goals(first|rfl|simp)
   ·refine zF ?_
    all_goals(simp[hg3];done)
 dsimp only[setW,List.foldl,nth,u2,u1]
 by_cases hlen:1≤x.l.length∧x.l.length≤480
 ·have hT:(decide (((x.l.length:Nat):Int)<1)||decide (((x.l.length:Nat):Int)>480))=false:=by
   rw[Bool.or_eq_false_iff];exact⟨by rw[decide_eq_false_iff_not];omega,by rw[decide_eq_false_iff_not];omega⟩
  rw[hT] at htmp
  have hR:e_ x.l=(match fO x.l 241 0 0 with|some r=>decide (r.1=x.l.length)|none=>false):=by
   unfold e_;rw[decide_eq_true hlen.1,decide_eq_true hlen.2];rfl
  rw[hR];clear hR;refine zQ 5 ?_;refine EvO.c9 (qs:=[(0,_)]) rfl rfl rfl rfl ⟨rfl,(ev rfl),(by exact(SlD.cells (by assumption)).1),trivial⟩ (by intro q hq;simp only[List.mem_cons,List.not_mem_nil,or_false] at hq;rcases hq with rfl<;>exact⟨rfl,by exact Nat.le_of_ble_eq_true rfl⟩) (by show List.foldl _ [_,_,_] _=_;dsimp only[List.foldl_cons,List.foldl_nil,u2,u1]<;>rfl) (put_T rfl _) ?_;refine qb hH fun k14 st Ge hH=>?_;refine zQ 2 ?_;have hH:Has s0.bs.length S st (.box k14 (.mem 0 false (nK x.d 0 0))::[]):=hH
  cases bZ:(fO x.l 241 0 0).isSome with
  |true=>
   obtain⟨q,hq⟩:=Option.isSome_iff_exists.1 bZ;refine zQ 3 ?_;obtain⟨_,st,hev,rfl,a',g',hH,ig,KS⟩:=BN hl hx.i hx.c 241 (by omega) (by omega) hH;refine qv hev ?_;refine zQ 6 ?_;refine qn ?_ (hg:=wi bZ);simp only[List.length_map];refine zQ 4 ?_;obtain⟨rfl,rfl⟩:=KS q hq;rw[hq]
   have he:decide (q.1=x.l.length)=(((q.1:Nat):Int)==((x.l.length:Nat):Int)):=by
    rw[Bool.eq_iff_iff];simp only[decide_eq_true_eq,beq_iff_eq];omega
   simp only[he];refine EvC.ret ⟨rx,_,rfl,rl hSb hH (rfl)⟩
  |false=>
   have hq:fO x.l 241 0 0=none:=by
    cases hq:fO x.l 241 0 0 with
    |none=>rfl
    |some q=>rw[hq] at bZ;cases bZ
   refine zQ 3 ?_;obtain⟨_,st,hev,rfl,a',g',hH,ig,KS⟩:=BN hl hx.i hx.c 241 (by omega) (by omega) hH;refine qv hev ?_;refine zQ 11 ?_;rw[hq];refine EvC.ret ⟨rx,_,rfl,rl hSb hH (rfl)⟩
 ·have hT:(decide (((x.l.length:Nat):Int)<1)||decide (((x.l.length:Nat):Int)>480))=true:=by
   rw[Bool.or_eq_true,decide_eq_true_eq,decide_eq_true_eq];omega
  rw[hT] at htmp
  have hR:e_ x.l=false:=by
   unfold e_
   by_cases h1:1≤x.l.length
   ·rw[decide_eq_true h1,decide_eq_false (fun h2=>hlen ⟨h1,h2⟩)];rfl
   ·rw[decide_eq_false h1];rfl
  rw[hR];refine zQ 5 ?_;refine EvC.ret ⟨rx,_,rfl,rl hSb hH (rfl)⟩
end Go.Proofs.YtajblankjjmonaaGreat
namespace Go.Proofs.YtajblankjjmonaaGreat
open Go.V Go
def aE (fr:Go.V.Fr) (k:Nat):Go.V.D:=Go.V.nth .junk fr.loc k
def mI (es:List Int) (a:Nat) (M:List Int):List Int:=es.take a++M++es.drop (a+M.length)
theorem yl {es M:List Int} {a:Nat} (h:a+M.length≤es.length):(mI es a M).length=es.length:=by
 unfold mI;simp only[List.length_append,List.length_take,List.length_drop];omega
theorem yk {es:List Int} {a:Nat}:mI es a []=es:=by
 unfold mI;simp
theorem DC {es M:List Int} {a:Nat} {x:Int} (h:a≤es.length):(mI es a (x::M))[a]?=some x:=by
 unfold mI;rw[List.append_assoc,List.getElem?_append_right (by simp only[List.length_take];omega)];simp[Nat.min_eq_left h]
theorem yi {es M M':List Int} {a:Nat} (h:a+M.length+M'.length≤es.length):mI (mI es a M) (a+M.length) M'=mI es a (M++M'):=by
 unfold mI;have h1:(es.take a++M).length=a+M.length:=by simp only[List.length_append,List.length_take];omega
 rw[List.take_append_of_le_length (by omega),List.take_of_length_le (by omega)];rw[←h1,List.drop_append,List.drop_eq_nil_of_le (by omega),List.nil_append,h1,List.drop_drop];simp only[List.append_assoc,List.length_append]
 congr 4
 omega
theorem yj {es M:List Int} {a:Nat} {v:Int} (h:a+1+M.length≤es.length):(mI es (a+1) M).set a v=mI es a (v::M):=by
 unfold mI;have h1:(es.take a).length=a:=by simp only[List.length_take];omega
 rw[List.append_assoc,List.take_add_one,List.getElem?_eq_getElem (by omega)];simp only[Option.toList_some,List.append_assoc,List.cons_append,List.nil_append,List.length_cons];rw[List.set_append_right _ _ (by omega),h1,Nat.sub_self,List.set_cons_zero]
 congr 4
 omega
theorem Bi {l:List Nod} {d:D} (hl:l.length≤1048576) (hi:∀n∈l,n.ok) (hd:SlD d 7 (l.map ay)):∀(m:Nat) (t:Tr),t.flat.length≤m→t.ok→∀{N:Nat} {S s0:St} {H:List bG} {out:D} {es:List Int} {at_:Nat},fp l at_ t.flat→es.length=l.length→Has N S s0 (.lst out 1 (es.map ah)::H)→
  ∃r ae,Ev pv 14 [d,out,.int .i64 (at_:Nat)] s0 r ae∧r=.int .i64 ((at_+t.flat.length:Nat):Int)∧Has N S ae (.lst out 1 ((mI es at_ t.zs).map ah)::H):=by
 intro m
 induction m with
 |zero=>intro t h;have:=t.iD;omega
 |succ m ih=>
  rintro⟨n,ks⟩ hm hok N S s0 H out es at_ mc tB hH;simp only[Tr.ok] at hok;obtain⟨jj,rS⟩:=hok;simp only[Tr.flat,List.length_cons] at hm;have hle:=mc.le (by simp[Tr.flat]);simp only[Tr.flat] at mc hle;simp only[List.length_cons] at hle;have hn:=mc.head;have mc:=mc.tail;have Cn:=hi n (List.mem_of_getElem? hn);have hr1:=gi hn;have Dn:=py Cn;have EW:=jj.1;have lD:=aJ.nb ks;refine Ev.gT rfl NC rfl rfl rfl ?_;refine zE ?_;have a_:=hH;have hH:=hH.aY;have aU:(enterSt .rw s0).bs=s0.bs:=rfl;generalize enterSt .rw s0=S2 at*;have hc:=hd.arg N S2;refine zQ 8 ?_;refine qr fun Ob Iq=>?_;refine EvO.cx rfl (ev rfl) (by assumption) rfl (by dsimp only[Fr.put,u1,u2]<;>rfl) ?_;refine qa hH fun k7 st Lt hH=>?_;refine EvO.hstoreA hH rfl (ev rfl) (ev rfl) (by rfl) (by exact rfl) (by exact at0) (by exact rfl) (by exact .inr (by assumption)) (fun st hH=>?_);dsimp only[u2,u1,u3,u4,setMany,u5,u6,D.cells,Nat.reduceAdd,ay,ah] at hH;refine zQ 19 ?_;refine EvC.loop (fun mm fr st=>∃(i j ss:Nat) (rest:aJ) (oq:List Int),fr.clean=⟨36,[d,out,.int .i64 (at_:Nat),aE fr 3,aE fr 4,aE fr 5,.int .i64 0,.ptr k7 0 0,.int .i64 (j:Nat),.int .i64 ((min ss 401:Nat):Int),aE fr 10,aE fr 11,aE fr 12,aE fr 13,aE fr 14,aE fr 15,aE fr 16,aE fr 17,.int .i64 n.kids,.int .i64 (i:Nat),aE fr 20,aE fr 21,aE fr 22,aE fr 23,aE fr 24,aE fr 25,aE fr 26,aE fr 27,aE fr 28,aE fr 29,aE fr 30,aE fr 31,aE fr 32,aE fr 33,aE fr 34,aE fr 35],[]⟩∧Has N S2 st (.lst out 1 (oq.map ah)::.box k7 (.mem 0 false (ay n))::H)∧(mm=rest.len)∧(i+rest.len=ks.len)∧(fp l j rest.flat)∧(rest.ok)∧(ss+rest.sz=ks.sz)∧(oq.length=l.length)∧(mI oq j rest.zs=mI es (at_+1) ks.zs)∧(j+rest.flat.length=at_+1+ks.flat.length)∧(rest.flat.length≤m)) (ks.len) ?_ ?_
  ·exact⟨0,at_+1,0,ks,es,rfl,(by have:=hH.front at1;exact this),rfl,by omega,mc,rS,by omega,tB,rfl,rfl,by omega⟩
  rintro mm fr st ⟨i,j,ss,rest,oq,hfr,hH,nr,nZ,kV,jt,yQ,xB,tm,hj,FW⟩;rw[hfr];clear hfr;generalize aE fr=ee;clear fr;refine zQ 4 ?_
  cases rest with
  |nil=>
   simp only[aJ.len] at nZ;simp only[aJ.sz] at yQ;simp only[aJ.flat,List.length_nil] at hj;simp only[aJ.zs,yk] at tm;have hcc:decide ((i:Int)<n.kids)=false:=by rw[decide_eq_false_iff_not];omega
   refine qq<|qE rfl (by rw[hcc]) ?_;refine zQ 1 ?_;obtain rfl:ss=ks.sz:=by omega
   have mc:=kV;refine zQ 6 ?_;refine EvC.merge (fun fr st=>∃(tmp:List (Nat×D)),fr=⟨36,[d,out,.int .i64 (at_:Nat),aE fr 3,aE fr 4,aE fr 5,.int .i64 0,.ptr k7 0 0,.int .i64 (j:Nat),.int .i64 ((bk n (min ks.sz 401) ks.len:Nat):Int),aE fr 10,aE fr 11,aE fr 12,aE fr 13,aE fr 14,aE fr 15,aE fr 16,aE fr 17,aE fr 18,aE fr 19,aE fr 20,aE fr 21,aE fr 22,aE fr 23,aE fr 24,aE fr 25,aE fr 26,aE fr 27,aE fr 28,aE fr 29,aE fr 30,aE fr 31,aE fr 32,aE fr 33,aE fr 34,aE fr 35],tmp⟩∧Has N S2 st (.lst out 1 (oq.map ah)::.box k7 (.mem 0 false (ay n))::H)) ?_ ?_
   ·refine zQ 7 ?_;generalize hw:min ks.sz 401=w;have Ky:w≤401:=by omega
    have nu:ks.len≤9223372036854775→True:=fun _=>trivial
    by_cases q2:n.op=2
    ·have hz:bk n w ks.len=1:=by unfold bk;rw[if_pos (.inl q2)]
     rw[hz];refine qD rfl (by simp[q2]) ?_;refine zQ 1 ?_;refine qD rfl (by simp[q2]) ?_;refine zQ 3 ?_;exact⟨_,rfl,hH⟩
    refine qE rfl (by simp[q2]) ?_;refine zQ 5 ?_
    by_cases q7:n.op=7
    ·have hz:bk n w ks.len=1:=by unfold bk;rw[if_pos (.inr (.inl q7))]
     rw[hz];refine qD rfl (by simp[q7]) ?_;refine zQ 1 ?_;refine qD rfl (by simp[q7]) ?_;refine zQ 3 ?_;exact⟨_,rfl,hH⟩
    refine qE rfl (by simp[q7]) ?_;refine zQ 4 ?_
    by_cases q8:n.op=8
    ·have hz:bk n w ks.len=1:=by unfold bk;rw[if_pos (.inr (.inr q8))]
     rw[hz];refine qD rfl (by simp[q8]) ?_;refine zQ 3 ?_;exact⟨_,rfl,hH⟩
    refine qE rfl (by simp[q8]) ?_
    have hz0:bk n w ks.len=if n.op=4 then w+2*(ks.len-1) else if n.op=6 then w+2 else if n.op=5 then(if n.mx=-1 then n.mn.toNat*w+w+2 else n.mn.toNat*w+(n.mx.toNat-n.mn.toNat)*(w+1)) else w:=by
     unfold bk;rw[if_neg (by omega)]
    rw[hz0];clear hz0;obtain⟨_,jk⟩:=jj;have hq:(n.op=1∧ks.len=0)∨((n.op=3∨n.op=4)∧2≤ks.len)∨(n.op=5∧ks.len=1∧0≤n.mn∧n.mn≤30∧(n.mx=-1∨(n.mn≤n.mx∧n.mx≤30)))∨(n.op=6∧ks.len=1∧1≤n.cap∧n.cap≤4):=by omega
    refine zQ 5 ?_
    by_cases q4:n.op=4
    ·rw[if_pos q4];have nv:2≤ks.len:=by omega
     refine qD rfl (by simp[q4]) ?_;refine zQ 4 ?_;refine EvO.jo (z:=((ks.len-1:Nat):Int)) rfl (ev rfl) (ev rfl) (by rw[wrap_i64 (by omega) (by omega)]<;>omega) (put_T rfl _) ?_;refine EvO.qZ (z:=((2*(ks.len-1):Nat):Int)) rfl (ev rfl) (ev rfl) (by rw[wrap_i64 (by omega) (by omega)]<;>omega) (put_T rfl _) ?_;refine EvO.fM (z:=((w+2*(ks.len-1):Nat):Int)) rfl (ev rfl) (ev rfl) (by rw[wrap_i64 (by omega) (by omega)]<;>omega) (put_T rfl _) ?_;refine zQ 2 ?_;exact⟨_,rfl,hH⟩
    rw[if_neg q4];refine qE rfl (by simp[q4]) ?_;refine zQ 5 ?_
    by_cases q6:n.op=6
    ·rw[if_pos q6];refine qD rfl (by simp[q6]) ?_;refine zQ 5 ?_;exact⟨_,rfl,hH⟩
    rw[if_neg q6];refine qE rfl (by simp[q6]) ?_;refine zQ 5 ?_
    by_cases q5:n.op=5
    ·rw[if_pos q5];refine qD rfl (by simp[q5]) ?_;refine zQ 6 ?_;have yV:0≤n.mn∧n.mn≤30∧(n.mx=-1∨(n.mn≤n.mx∧n.mx≤30)):=by omega
     obtain⟨a,ha⟩:∃a:Nat,n.mn=(a:Int):=Int.eq_ofNat_of_zero_le yV.1;have P3:n.mn.toNat=a:=by omega
     have h1:a*w≤30*401:=Nat.mul_le_mul (by omega) Ky;have hmul:n.mn*(w:Int)=((a*w:Nat):Int):=by rw[ha];push_cast;rfl
     rw[P3]
     by_cases wv:n.mx=-1
     ·rw[if_pos wv];refine qD rfl (by simp[wv]) ?_;refine zQ 4 ?_;refine EvO.qZ (z:=((a*w:Nat):Int)) rfl (ev rfl) (ev rfl) (by rw[wrap_i64 (by omega) (by omega)]<;>omega) (put_T rfl _) ?_;refine qm ?_;refine EvO.fM (z:=((a*w+w:Nat):Int)) rfl (ev rfl) (ev rfl) (by rw[wrap_i64 (by omega) (by omega)]<;>omega) (put_T rfl _) ?_;refine EvO.fM (z:=((a*w+w+2:Nat):Int)) rfl (ev rfl) (ev rfl) (by rw[wrap_i64 (by omega) (by omega)]<;>omega) (put_T rfl _) ?_;refine zQ 2 ?_;exact⟨_,rfl,hH⟩
     ·rw[if_neg wv];obtain⟨b,hb⟩:∃b:Nat,n.mx=(b:Int):=Int.eq_ofNat_of_zero_le (by omega);have P2:n.mx.toNat=b:=by omega
      have h2:(b-a)*(w+1)≤30*402:=Nat.mul_le_mul (by omega) (by omega);rw[P2];refine qE rfl (by simp[wv]) ?_;refine zQ 4 ?_;refine EvO.qZ (z:=((a*w:Nat):Int)) rfl (ev rfl) (ev rfl) (by rw[wrap_i64 (by omega) (by omega)]<;>omega) (put_T rfl _) ?_;refine zQ 4 ?_;refine EvO.jo (z:=((b-a:Nat):Int)) rfl (ev rfl) (ev rfl) (by rw[wrap_i64 (by omega) (by omega)]<;>omega) (put_T rfl _) ?_;refine qm ?_;refine EvO.fM (z:=((w+1:Nat):Int)) rfl (ev rfl) (ev rfl) (by rw[wrap_i64 (by omega) (by omega)]<;>omega) (put_T rfl _) ?_;refine EvO.qZ (z:=(((b-a)*(w+1):Nat):Int)) rfl (ev rfl) (ev rfl) (by rw[wrap_i64 (by omega) (by omega)]<;>omega) (put_T rfl _) ?_;refine EvO.fM (z:=((a*w+(b-a)*(w+1):Nat):Int)) rfl (ev rfl) (ev rfl) (by rw[wrap_i64 (by omega) (by omega)]<;>omega) (put_T rfl _) ?_;refine zQ 2 ?_;exact⟨_,rfl,hH⟩
    ·rw[if_neg q5];refine qE rfl (by simp[q5]) ?_;refine zQ 1 ?_;exact⟨_,rfl,hH⟩
   ·rintro fr st ⟨tmp,hfr,hH⟩;rw[hfr];clear hfr;generalize aE fr=ee;clear fr;have iC:=Eu (n:=n) (k:=ks.len) (s:=ks.sz);have h_:at_<oq.length:=by omega
    obtain⟨w,hw⟩:∃w,oq[at_]?=some w:=⟨oq[at_]'h_,List.getElem?_eq_getElem _⟩
    have Qg:=fe hw;refine zQ 5 ?_;refine EvO.HO (z:=((min (bk n ks.sz ks.len) 401:Nat):Int)) (t1:=_) (t2:=_) rfl (ev rfl) (ev rfl) (by omega) (put_T rfl _) ?_;refine qi hH at0 fun Pm K5=>?_;refine EvO.mU hH rfl (ev rfl) (ev rfl) (by assumption) rfl rfl (by exact at0) (by assumption) (Nat.le_of_ble_eq_true rfl) (by exact .inr rfl) (fun st hH=>?_);dsimp only[u2,u1,u3,u4,setMany,u5,u6,D.cells,Nat.reduceAdd,ay,ah] at hH;refine zQ 6 ?_;refine EvC.ret ⟨rx,_,_,_,rfl,ab (rfl),?_⟩;have EY:j=at_+(Tr.mk n ks).flat.length:=by simp only[Tr.flat,List.length_cons];omega
    refine⟨by rw[EY];rfl,?_⟩
    have cC:mI es at_ (Tr.zs (.mk n ks))=oq.set at_ ((min (bk n ks.sz ks.len) 401:Nat):Int):=by
     rw[tm,yj (by rw[aJ.gY];omega)];rfl
    rw[cC,List.map_set];exact a_.vm aU (hH.erase 1)
  |cons t ts=>
   simp only[aJ.len] at nZ nr;simp only[aJ.sz] at yQ;simp only[aJ.flat,List.length_append] at hj kV FW;simp only[aJ.zs] at tm;simp only[aJ.ok] at jt;have hcc:decide ((i:Int)<n.kids)=true:=by rw[decide_eq_true_eq];omega
   have PZ:=t.iD;have FL:=t.gY;have HX:=ts.gY;have Gj:(mI oq j t.zs).length=l.length:=by rw[yl (by omega)];exact xB
   have PQ:(mI oq j t.zs)[j]?=some ((min t.sz 401:Nat):Int):=by
    obtain⟨n',EI⟩:=t;simp only[Tr.zs,Tr.sz];exact DC (by omega)
   have SU:=fe PQ;refine qq<|qD rfl (by rw[hcc]) ?_;refine zQ 13 ?_;obtain⟨_,st,hev,rfl,hH⟩:=ih t (by omega) jt.1 kV.left xB hH;refine qv hev ?_;refine zQ 6 ?_;refine qi hH at0 fun JG D_=>?_;refine zQ 1 ?_;refine EvO.fM (z:=((min ss 401+min t.sz 401:Nat):Int)) rfl (ev rfl) (ev rfl) (by rw[wrap_i64 (by omega) (by omega)]<;>omega) (by dsimp only[Fr.put,u1,u2]<;>rfl) ?_;refine EvO.HO (z:=((min (ss+t.sz) 401:Nat):Int)) (t1:=_) (t2:=_) rfl (ev rfl) (ev rfl) (by omega) (by dsimp only[Fr.put,u1,u2]<;>rfl) ?_;refine zQ 6 ?_;exact⟨mm-1,by omega,⟨i+1,j+t.flat.length,ss+t.sz,ts,mI oq j t.zs,rfl,hH,by omega,by omega,kV.right,jt.2,by omega,Gj,by rw[←tm];have:=yi (es:=oq) (a:=j) (M:=t.zs) (M':=ts.zs) (by omega);rw[FL] at this;exact this,by omega,by omega⟩⟩
theorem Em {l:List Nod} {d:D} (hl:l.length≤1048576) (hi:∀n∈l,n.ok) (hd:SlD d 7 (l.map ay)):∀(m:Nat) (t:Tr),t.flat.length≤m→t.ok→∀{N:Nat} {S s0:St} {H:List bG} {out:D} {es:List Int} {at_:Nat},fp l at_ t.flat→es.length=l.length→Has N S s0 (.lst out 1 (es.map ah)::H)→
  ∃r ae,Ev pv 15 [d,out,.int .i64 (at_:Nat)] s0 r ae∧r=.int .i64 ((at_+t.flat.length:Nat):Int)∧Has N S ae (.lst out 1 ((mI es at_ (t.es at_)).map ah)::H):=by
 intro m
 induction m with
 |zero=>intro t h;have:=t.iD;omega
 |succ m ih=>
  rintro⟨n,ks⟩ hm hok N S s0 H out es at_ mc tB hH;simp only[Tr.ok] at hok;obtain⟨jj,rS⟩:=hok;simp only[Tr.flat,List.length_cons] at hm;have hle:=mc.le (by simp[Tr.flat]);simp only[Tr.flat] at mc hle;simp only[List.length_cons] at hle;have hn:=mc.head;have mc:=mc.tail;have Cn:=hi n (List.mem_of_getElem? hn);have hr1:=gi hn;have EW:=jj.1;have lD:=aJ.nb ks;refine Ev.gT rfl NB rfl rfl rfl ?_;refine zE ?_;have a_:=hH;have hH:=hH.aY;have aU:(enterSt .rw s0).bs=s0.bs:=rfl;generalize enterSt .rw s0=S2 at*;have hc:=hd.arg N S2;refine zQ 15 ?_;refine qr fun Kh F3=>?_;refine qf (fo:=6) fun Ob Iq=>?_;refine zQ 4 ?_;refine EvC.loop (fun mm fr st=>∃(i j:Nat) (rest:aJ) (oq:List Int),fr.clean=⟨16,[d,out,.int .i64 (at_:Nat),aE fr 3,aE fr 4,aE fr 5,.int .i64 0,.int .i64 (j:Nat),aE fr 8,aE fr 9,aE fr 10,aE fr 11,aE fr 12,aE fr 13,.int .i64 n.kids,.int .i64 (i:Nat)],[]⟩∧Has N S2 st (.lst out 1 (oq.map ah)::H)∧(mm=rest.len)∧(i+rest.len=ks.len)∧(fp l j rest.flat)∧(rest.ok)∧(oq.length=l.length)∧(mI oq j (rest.es j)=mI es (at_+1) (ks.es (at_+1)))∧(j+rest.flat.length=at_+1+ks.flat.length)∧(rest.flat.length≤m)) (ks.len) ?_ ?_
  ·exact⟨0,at_+1,ks,es,rfl,hH,rfl,by omega,mc,rS,tB,rfl,rfl,by omega⟩
  rintro mm fr st ⟨i,j,rest,oq,hfr,hH,nr,nZ,kV,jt,xB,tm,hj,FW⟩;rw[hfr];clear hfr;generalize aE fr=ee;clear fr;refine zQ 4 ?_
  cases rest with
  |nil=>
   simp only[aJ.len] at nZ;simp only[aJ.flat,List.length_nil] at hj;simp only[aJ.es,yk] at tm;have hcc:decide ((i:Int)<n.kids)=false:=by rw[decide_eq_false_iff_not];omega
   have h_:at_<oq.length:=by omega
   obtain⟨w,hw⟩:∃w,oq[at_]?=some w:=⟨oq[at_]'h_,List.getElem?_eq_getElem _⟩
   have Qg:=fe hw;refine qq<|qE rfl (by rw[hcc]) ?_;refine zQ 6 ?_;refine qi hH at0 fun JH D'=>?_;refine EvO.mU hH rfl (ev rfl) (ev rfl) (by assumption) rfl rfl (by exact at0) (by assumption) (Nat.le_of_ble_eq_true rfl) (by exact .inr rfl) (fun st hH=>?_);dsimp only[u2,u1,u3,u4,setMany,u5,u6,D.cells,Nat.reduceAdd,ay,ah] at hH;refine zQ 6 ?_;refine EvC.ret ⟨rx,_,_,_,rfl,ab (rfl),?_⟩;have EY:j=at_+(Tr.mk n ks).flat.length:=by simp only[Tr.flat,List.length_cons];omega
   refine⟨by rw[EY];rfl,?_⟩
   have cC:mI es at_ (Tr.es (.mk n ks) at_)=oq.set at_ ((j:Nat):Int):=by
    rw[tm,yj (by rw[aJ.ib];omega)];have:j=at_+1+ks.flat.length:=by omega
    rw[this];rfl
   rw[cC,List.map_set];exact a_.vm aU hH
  |cons t ts=>
   simp only[aJ.len] at nZ nr;simp only[aJ.flat,List.length_append] at hj kV FW;simp only[aJ.es] at tm;simp only[aJ.ok] at jt;have hcc:decide ((i:Int)<n.kids)=true:=by rw[decide_eq_true_eq];omega
   have PZ:=t.iD;have FL:=t.ib j;have HX:=ts.ib (j+t.flat.length);have Gj:(mI oq j (t.es j)).length=l.length:=by rw[yl (by omega)];exact xB
   refine qq<|qD rfl (by rw[hcc]) ?_;refine zQ 7 ?_;obtain⟨_,st,hev,rfl,hH⟩:=ih t (by omega) jt.1 kV.left xB hH;refine qv hev ?_;refine zQ 6 ?_;exact⟨mm-1,by omega,⟨i+1,j+t.flat.length,ts,mI oq j (t.es j),rfl,hH,by omega,by omega,kV.right,jt.2,Gj,by rw[←tm];have:=yi (es:=oq) (a:=j) (M:=t.es j) (M':=ts.es (j+t.flat.length)) (by omega);rw[FL] at this;exact this,by omega,by omega⟩⟩
end Go.Proofs.YtajblankjjmonaaGreat
namespace Go.Proofs.YtajblankjjmonaaGreat
open Go.V Go
variable{bb:Bool}
theorem fL {N k:Nat} {S s0:St} {H:List bG} {ks:Nat→Prop} {cd nd zd ed w:D} {code:List aN} {op x y:Int} {rs:List Rg} (hF:S.flr≤N) (hl:code.length≤1048576) (hH:Has N S s0 (.lst w 2 (rs.map ag)::.box k (.mem 0 false [cd,nd,zd,ed])::.bR bb ks cd 4 (code.map aT)::H)):
  ∃r ae,Ev pv 16 [.ptr k 0 0,.agg [.int .i64 op,.int .i64 x,.int .i64 y,w]] s0 r ae∧r=.int .i64 (code.length:Nat)∧∃O3 EI,Has N S ae (.box k (.mem 0 false [O3,nd,zd,ed])::.bR bb EI O3 4 ((code++[bh op x y rs]).map aT)::H):=by
 refine Ev.gT rfl NA rfl rfl rfl ?_;refine zE ?_;change EvC _ _ _ _ s0 _;refine zQ 2 ?_;refine qb hH fun k3 st Hb hH=>?_;refine zQ 9 ?_;refine EvO.hloadS (m:=4) hH rfl (ev rfl) (by exact at0) (by dsimp only[List.drop_succ_cons,List.drop_zero,List.take_succ_cons,List.take_zero,aT]<;>rfl) rfl rfl (put_T rfl _) ?_;refine qh (s:=4) (vs:=[_]) hH fun k11 st hk11 hH=>?_;obtain⟨hH,LW⟩:=hH.GQ (i:=2) (j:=4) (by decide) at2 at4 (da _);dsimp only[u1,u2] at hH;refine EvO.oR hH rfl (ev rfl) (ev rfl) at4 (hH.rows at0) (.cons (.cons (.plain _ rfl) (.cons (.plain _ rfl) (.cons (.plain _ rfl) (.cons LW .nil)))) .nil) rfl rfl rfl rfl rfl rfl rfl ⟨(Nat.le_of_ble_eq_true rfl),(Nat.le_of_ble_eq_true rfl)⟩ (fun _=>(put_T rfl _)) (by simp only[List.length_map,List.length_cons,List.length_nil];omega) (.inl hF) (fun Sm st hH=>?_);dsimp only[u1,u2] at hH;refine zQ 2 ?_;refine EvO.pL hH rfl (ev rfl) (ev rfl) (by exact hH.dcells (by exact at4)) (by exact rfl) (by exact at3) (by exact Nat.le_of_ble_eq_true rfl) (by exact .inl hF) (fun st hH=>?_);dsimp only[u2,u1,u3,u4,setMany,u5,u6,D.cells,Nat.reduceAdd,aT] at hH;refine zQ 7 ?_;refine EvO.nA hH rfl (ev rfl) (by exact at4) rfl (put_T rfl _) ?_;simp only[List.length_map,List.length_append,List.length_cons,List.length_nil];refine EvO.jo (z:=((code.length:Nat):Int)) rfl (ev rfl) (ev rfl) (by rw[wrap_i64 (by omega) (by omega)]<;>omega) (put_T rfl _) ?_;refine zQ 2 ?_;refine EvC.ret ⟨rx,_,_,_,rfl,rfl,?_⟩;exact⟨rfl,_,_,by rw[List.map_append];exact hH.drop 3⟩
theorem o0 {N k:Nat} {S s0:St} {H:List bG} {ks:Nat→Prop} {cd nd zd ed:D} {code:List aN} {at_ over:Nat} {lz:Bool} {x y:Int} (h_:code[at_]?=some (bh 2 x y [])) (hl:code.length≤1048576) (hH:Has N S s0 (.box k (.mem 0 false [cd,nd,zd,ed])::.bR bb ks cd 4 (code.map aT)::H)):
  ∃r ae,Ev pv 39 [.ptr k 0 0,.int .i64 (at_:Nat),.int .i64 (over:Nat),.bool lz] s0 r ae∧r=.tup []∧Has N S ae (.box k (.mem 0 false [cd,nd,zd,ed])::.bR bb ks cd 4 ((code.set at_ (gJ at_ over lz)).map aT)::H):=by
 have hlt:=lt_get h_;have hr1:(code.map aT)[at_]?=some [.int .i64 2,.int .i64 x,.int .i64 y,.sl []]:=kI h_;have cC:∀a b:List D,(code.map aT).set at_ a=(code.map aT).set at_ a:=fun _ _=>rfl;refine Ev.gT rfl Na rfl rfl rfl ?_;refine zE ?_;have a_:=hH;have hH:=hH.aY;have aU:(enterSt .rw s0).bs=s0.bs:=rfl;generalize enterSt .rw s0=S2 at*;refine zQ 13 ?_;refine EvO.fM (z:=((at_+1:Nat):Int)) rfl (ev rfl) (ev rfl) (by rw[wrap_i64 (by omega) (by omega)]<;>omega) (put_T rfl _) ?_;refine qm ?_;refine EvO.ou (s:=4) hH rfl (ev rfl) (ev rfl) (by exact at1) rfl rfl (by exact lt_get (by assumption)) (fun _=>(put_T rfl _)) (fun G5 An=>?_);refine EvO.cI (fo:=1) (m:=0) (o2:=1) rfl (ev rfl) (by assumption) rfl rfl rfl (fun _=>(put_T rfl _)) (fun G4 Am=>?_);refine EvO.fZ hH rfl (ev rfl) (ev rfl) (by assumption) rfl rfl (by exact at1) (by assumption) (Nat.le_of_ble_eq_true rfl) (by intro d hd;simp only[List.mem_cons,List.not_mem_nil,or_false] at hd;subst hd;rfl) (by exact .inr rfl) (fun st hH=>?_);dsimp only[u2,u1,u3,u4,setMany,u5,u6,D.cells,Nat.reduceAdd,aT] at hH;refine EvO.ou (s:=4) hH rfl (ev rfl) (ev rfl) (by exact at1) rfl rfl (by simp only[List.length_map,List.length_set]<;>omega) (fun _=>(put_T rfl _)) (fun HF Cl=>?_);refine EvO.cI (fo:=2) (m:=0) (o2:=2) rfl (ev rfl) (by assumption) rfl rfl rfl (fun _=>(put_T rfl _)) (fun Fs xx=>?_);refine EvO.fZ hH rfl (ev rfl) (ev rfl) (by assumption) rfl rfl (by exact at1) (List.getElem?_set_self (by simp only[List.length_map];omega)) (Nat.le_of_ble_eq_true rfl) (by intro d hd;simp only[List.mem_cons,List.not_mem_nil,or_false] at hd;subst hd;rfl) (by exact .inr rfl) (fun st hH=>?_);dsimp only[u1,u2,setMany] at hH;rw[List.set_set] at hH;refine zQ 5 ?_
 cases lz with
 |false=>
  refine zQ 2 ?_;refine⟨fun i h=>(by cases h),_,_,_,rfl,ab rfl,?_⟩;exact⟨rfl,by rw[List.map_set];exact a_.l_ aU hH⟩
 |true=>
  refine zQ 14 ?_;refine EvO.fM (z:=((at_+1:Nat):Int)) rfl (ev rfl) (ev rfl) (by rw[wrap_i64 (by omega) (by omega)]<;>omega) (put_T rfl _) ?_;refine EvO.ou (s:=4) hH rfl (ev rfl) (ev rfl) (by exact at1) rfl rfl (by simp only[List.length_map,List.length_set]<;>omega) (fun _=>(put_T rfl _)) (fun N' Im=>?_);refine EvO.cI (fo:=1) (m:=0) (o2:=1) rfl (ev rfl) (by assumption) rfl rfl rfl (fun _=>(put_T rfl _)) (fun Kd FZ=>?_);refine EvO.fZ hH rfl (ev rfl) (ev rfl) (by assumption) rfl rfl (by exact at1) (List.getElem?_set_self (by simp only[List.length_map];omega)) (Nat.le_of_ble_eq_true rfl) (by intro d hd;simp only[List.mem_cons,List.not_mem_nil,or_false] at hd;subst hd;rfl) (by exact .inr rfl) (fun st hH=>?_);dsimp only[u1,u2,setMany] at hH;rw[List.set_set] at hH;refine EvO.ou (s:=4) hH rfl (ev rfl) (ev rfl) (by exact at1) rfl rfl (by simp only[List.length_map,List.length_set]<;>omega) (fun _=>(put_T rfl _)) (fun Pr K'=>?_);refine EvO.cI (fo:=2) (m:=0) (o2:=2) rfl (ev rfl) (by assumption) rfl rfl rfl (fun _=>(put_T rfl _)) (fun N_ Il=>?_);refine EvO.fZ hH rfl (ev rfl) (ev rfl) (by assumption) rfl rfl (by exact at1) (List.getElem?_set_self (by simp only[List.length_map];omega)) (Nat.le_of_ble_eq_true rfl) (by intro d hd;simp only[List.mem_cons,List.not_mem_nil,or_false] at hd;subst hd;rfl) (by exact .inr rfl) (fun st hH=>?_);dsimp only[u1,u2,setMany] at hH;rw[List.set_set] at hH;refine zQ 1 ?_;refine⟨fun i h=>(by cases h),_,_,_,rfl,ab rfl,?_⟩;exact⟨rfl,by rw[List.map_set];exact a_.l_ aU hH⟩
end Go.Proofs.YtajblankjjmonaaGreat
namespace Go.Proofs.YtajblankjjmonaaGreat
open Go.V Go
def aj (fr:Go.V.Fr) (k:Nat):Go.V.D:=Go.V.nth .junk fr.loc k
variable{bb:Bool}
def ew (n:Nat):List D:=[.int .i64 (n:Nat)]
theorem l5 {l:List Nat} {i q:Nat} (h:l[i]?=some q):(l.map ew)[i]?=some (ew q):=by rw[List.getElem?_map,h];rfl
def Hi (bb:Bool) (N:Nat) (S st:St) (k:Nat) (nd zd ed:D) (Z E:List Int) (H:List bG) (code:List aN):Prop:=
 ∃cd ks,Has N S st (.box k (.mem 0 false [cd,nd,zd,ed])::.bR bb ks cd 4 (code.map aT)::.lst zd 1 (Z.map ah)::.lst ed 1 (E.map ah)::H)
def qF (bb:Bool) (l:List Nod) (t:Tr):Prop:=∀{N k:Nat} {S s0:St} {H:List bG} {nd zd ed:D} {code:List aN} {Z E:List Int} {at_:Nat},S.flr≤N→SlD nd 7 (l.map ay)→fp l at_ t.flat→fp Z at_ t.zs→fp E at_ (t.es at_)→t.ok→code.length+t.sz≤1000000→Hi bb N S s0 k nd zd ed Z E H code→
 ∃r ae,Ev pv 17 [.ptr k 0 0,.int .i64 (at_:Nat)] s0 r ae∧r=.tup []∧Hi bb N S ae k nd zd ed Z E H (code++av t code.length)
theorem ze {E:List Int} {t:Tr} {a:Nat} (h:fp E a (t.es a)):E[a]?=some ((a+t.flat.length:Nat):Int):=by
 obtain⟨n,ks⟩:=t;simp only[Tr.es] at h;rw[h.head];simp only[Tr.flat,List.length_cons]
 congr 2;omega
theorem ye {Z:List Int} {t:Tr} {a:Nat} (h:fp Z a t.zs):Z[a]?=some ((min t.sz 401:Nat):Int):=by
 obtain⟨n,ks⟩:=t;simp only[Tr.zs] at h;rw[h.head];rfl
theorem GN {l:List Nod} (hll:l.length≤1048576) {m:Nat} (ih:∀t:Tr,t.flat.length≤m→qF bb l t) {n:Nod} {ks:aJ} (fX:n.op=4) (OJ:ks.flat.length≤m) (jj:jO n ks.len) (rS:ks.ok) {N k:Nat} {S s0:St} {H:List bG} {nd zd ed:D} {code:List aN} {Z E:List Int} {at_:Nat} (hF:S.flr≤N) (hnd:SlD nd 7 (l.map ay)) (lN:fp l at_ (n::ks.flat)) (hsz:fp Z (at_+1) ks.zs) (wA:fp E (at_+1) (ks.es (at_+1))) (hb:code.length+bk n ks.sz ks.len≤1000000) (hM:Hi bb N S s0 k nd zd ed Z E H code):
  ∃r ae,Ev pv 30 [.ptr k 0 0,.int .i64 (at_:Nat)] s0 r ae∧r=.tup []∧Hi bb N S ae k nd zd ed Z E H (code++cA (eZ (code.length+bk n ks.sz ks.len)) ks code.length):=by
 obtain⟨cd,dk,hH⟩:=hM;have hle:=lN.le (by simp);simp only[List.length_cons] at hle;have hn:=lN.head;have lN:=lN.tail;have hr1:=gi hn;have EW:=jj.1;have nu:=aJ.nb ks
 have nv:2≤ks.len:=by
  obtain⟨_,hq⟩:=jj;omega
 have AY:bk n ks.sz ks.len=ks.sz+2*(ks.len-1):=by unfold bk;rw[if_neg (by omega),if_pos fX]
 rw[AY] at hb⊢;clear AY;refine Ev.gT rfl Nk rfl rfl rfl ?_;refine zE ?_;change EvC _ _ _ _ s0 _;have hc:=hnd.arg N S;refine zQ 18 ?_;refine qr fun HG Cm=>?_;refine qf (fo:=6) fun PA Lg=>?_;refine zQ 3 ?_;have hH:Has N S s0 (.box k (.mem 0 false [cd,nd,zd,ed])::.bR bb dk cd 4 (code.map aT)::.lst zd 1 (Z.map ah)::.lst ed 1 (E.map ah)::.lst .nul 1 (([]:List Nat).map ew)::H):=(hH.nulE 1).DG;refine zQ 1 ?_;refine EvC.loop (fun mm fr st=>∃(i j:Nat) (rest:aJ) (cd jd:D) (dk:Nat→Prop) (ak:List aN) (js:List Nat),fr.clean=⟨68,[.ptr k 0 0,.int .i64 (at_:Nat),aj fr 2,aj fr 3,jd,.int .i64 (j:Nat),aj fr 6,aj fr 7,aj fr 8,aj fr 9,aj fr 10,aj fr 11,aj fr 12,aj fr 13,aj fr 14,aj fr 15,aj fr 16,aj fr 17,aj fr 18,.int .i64 n.kids,.int .i64 (i:Nat),aj fr 21,aj fr 22,aj fr 23,aj fr 24,aj fr 25,aj fr 26,aj fr 27,aj fr 28,aj fr 29,aj fr 30,aj fr 31,aj fr 32,aj fr 33,aj fr 34,aj fr 35,aj fr 36,aj fr 37,aj fr 38,aj fr 39,aj fr 40,aj fr 41,aj fr 42,aj fr 43,aj fr 44,aj fr 45,aj fr 46,aj fr 47,aj fr 48,aj fr 49,aj fr 50,aj fr 51,aj fr 52,aj fr 53,aj fr 54,aj fr 55,aj fr 56,aj fr 57,aj fr 58,aj fr 59,aj fr 60,aj fr 61,aj fr 62,aj fr 63,aj fr 64,aj fr 65,aj fr 66,aj fr 67],[]⟩∧Has N S st (.box k (.mem 0 false [cd,nd,zd,ed])::.bR bb dk cd 4 (ak.map aT)::.lst zd 1 (Z.map ah)::.lst ed 1 (E.map ah)::.lst jd 1 (js.map ew)::H)∧(mm=rest.len)∧(i+rest.len=ks.len)∧(0<rest.len)∧(fp l j rest.flat)∧(fp Z j rest.zs)∧(fp E j (rest.es j))∧(rest.ok)∧(ak++cA (eZ 0) rest ak.length=code++cA (eZ 0) ks code.length)∧(js++gN rest ak.length=gN ks code.length)∧(ak.length+(rest.sz+2*(rest.len-1))=code.length+(ks.sz+2*(ks.len-1)))∧(rest.flat.length≤m)∧(js.length≤i)) (ks.len) ?_ ?_
 ·exact⟨0,at_+1,ks,cd,.nul,dk,code,[],rfl,hH,rfl,by omega,by omega,lN,hsz,wA,rS,rfl,rfl,rfl,OJ,by simp⟩
 rintro mm fr st ⟨i,j,rest,cd,jd,dk,ak,js,hfr,hH,nr,nZ,KR,kV,vy,oh,jt,cJ,hjs,hcl,FW,jB⟩;rw[hfr];clear hfr;generalize aj fr=ee;clear fr;refine zQ 4 ?_
 cases rest with
 |nil=>simp[aJ.len] at KR
 |cons t ts=>
  simp only[aJ.len] at nZ nr hcl;simp only[aJ.sz] at hcl;simp only[aJ.flat,List.length_append] at kV FW;simp only[aJ.zs] at vy;simp only[aJ.es] at oh;simp only[aJ.ok] at jt;have FL:=t.gY;have H3:=t.ib j;have oL:=bw t (ak.length+1) jt.1;have KQ:=fe (ze oh.left);have hcc:decide ((i:Int)<n.kids)=true:=by rw[decide_eq_true_eq];omega
  refine qq<|qD rfl (by rw[hcc]) ?_;refine zQ 17 ?_;refine qr fun JG D_=>?_;refine qf (fo:=6) fun Px Ld=>?_;refine qR ?_;refine EvO.jo (z:=((ks.len-1:Nat):Int)) rfl (ev rfl) (ev rfl) (by rw[wrap_i64 (by omega) (by omega)]<;>omega) (by dsimp only[Fr.put,u1,u2]<;>rfl) ?_;refine zQ 2 ?_
  by_cases mf:ts.len=0
  ·simp only[cA,gN,if_pos mf,List.append_nil] at cJ hjs;have P0:=aJ.len_nil mf;subst P0;simp only[aJ.sz,aJ.len] at hcl nZ;have xC:(((i:Nat):Int)==((ks.len-1:Nat):Int))=true:=by rw[beq_iff_eq];omega
   refine qD rfl (by rw[xC]) ?_;refine zQ 4 ?_;obtain⟨_,st,hev,rfl,cd,dk,hH⟩:=ih t (by omega) hF hnd kV.left vy.left oh.left jt.1 (by omega) ⟨cd,dk,hH⟩;refine qv hev ?_;refine zQ 5 ?_;refine qn ?_ (hR:=hH.rows at4);simp only[List.length_map];refine zQ 2 ?_;rw[cJ] at hH;have hal:=kf (eZ 0) ks code.length rS;obtain⟨wC,vA⟩:=kQ (jp:=eZ (code.length+(ks.sz+2*(ks.len-1)))) (i0:=eZ 0) ks code.length code [] rS rfl;simp only[List.append_nil] at wC vA;have t':(code++cA (eZ 0) ks code.length).length=code.length+(ks.sz+2*(ks.len-1)):=by rw[List.length_append,hal]
   rw[←hjs] at wC vA;rw[←wC];clear wC cJ;generalize code++cA (eZ 0) ks code.length=C0 at*;generalize code.length+(ks.sz+2*(ks.len-1))=e at*;refine zQ 1 ?_;refine EvC.loop (fun mm fr st=>∃(q:Nat) (C:List aN),fr.clean=⟨68,[.ptr k 0 0,aj fr 1,aj fr 2,aj fr 3,aj fr 4,aj fr 5,aj fr 6,aj fr 7,aj fr 8,aj fr 9,aj fr 10,aj fr 11,aj fr 12,aj fr 13,aj fr 14,aj fr 15,aj fr 16,aj fr 17,aj fr 18,aj fr 19,aj fr 20,aj fr 21,aj fr 22,aj fr 23,aj fr 24,aj fr 25,aj fr 26,aj fr 27,aj fr 28,aj fr 29,aj fr 30,aj fr 31,aj fr 32,aj fr 33,aj fr 34,aj fr 35,aj fr 36,aj fr 37,aj fr 38,aj fr 39,aj fr 40,aj fr 41,aj fr 42,aj fr 43,aj fr 44,aj fr 45,aj fr 46,aj fr 47,aj fr 48,aj fr 49,aj fr 50,aj fr 51,aj fr 52,aj fr 53,aj fr 54,aj fr 55,aj fr 56,aj fr 57,aj fr 58,aj fr 59,aj fr 60,aj fr 61,aj fr 62,aj fr 63,aj fr 64,jd,.int .i64 (js.length:Nat),.int .i64 (q:Nat)],[]⟩∧Has N S st (.box k (.mem 0 false [cd,nd,zd,ed])::.bR bb dk cd 4 (C.map aT)::.lst zd 1 (Z.map ah)::.lst ed 1 (E.map ah)::.lst jd 1 (js.map ew)::H)∧(q+mm=js.length)∧(dU (fun _=>eZ e) C (js.drop q)=dU (fun _=>eZ e) C0 js)∧(∀p∈js,∃v:Int,C[p]?=some (bh 3 v 0 []))∧(C.length=e)) (js.length) ?_ ?_
   ·exact⟨0,C0,rfl,hH,by omega,rfl,fun p hp=>⟨_,vA p hp⟩,t'⟩
   rintro mm fr st ⟨q,C,hfr,hH,hq,fq,bV,CH⟩;rw[hfr];clear hfr;generalize aj fr=ee;clear fr;refine zQ 5 ?_;refine zP (fun hlt=>?_) fun hlt=>?_
   ·refine zQ 1 ?_;have Dp:q<js.length:=by omega
    obtain⟨p,hp⟩:∃p,js[q]?=some p:=⟨js[q]'Dp,List.getElem?_eq_getElem _⟩
    obtain⟨v,hv⟩:=bV p (List.mem_of_getElem? hp);have hr1:=l5 hp;have nY:=kI hv;have hpl:=lt_get hv;refine zQ 4 ?_;refine qi hH at4 fun Po K8=>?_;refine zQ 13 ?_;refine EvO.nA hH rfl (ev rfl) (by exact at1) rfl (put_T rfl _) ?_;simp only[List.length_map];refine EvO.ou (s:=4) hH rfl (ev rfl) (ev rfl) (by exact at1) rfl rfl (by exact lt_get (by assumption)) (fun _=>(put_T rfl _)) (fun Pm K5=>?_);refine EvO.cI (fo:=1) (m:=0) (o2:=1) rfl (ev rfl) (by assumption) rfl rfl rfl (fun _=>(put_T rfl _)) (fun Sx Qt=>?_);refine EvO.fZ hH rfl (ev rfl) (ev rfl) (by assumption) rfl rfl (by exact at1) (by assumption) (Nat.le_of_ble_eq_true rfl) (by intro d hd;simp only[List.mem_cons,List.not_mem_nil,or_false] at hd;subst hd;rfl) (by exact .inl hF) (fun st hH=>?_);dsimp only[u2,u1,u3,u4,setMany,u5,u6,D.cells,Nat.reduceAdd,aT,ay,ah,ew] at hH;refine zQ 5 ?_
    have om:js.drop q=p::js.drop (q+1):=by
     rw[List.drop_eq_getElem_cons Dp]
     congr 1
     exact Option.some.inj ((List.getElem?_eq_getElem _).symm.trans hp)
    refine⟨mm-1,by omega,⟨q+1,C.set p (eZ e),rfl,(by rw[List.map_set,←CH];exact hH),by omega,by rw[om] at fq;exact fq,?_,by rw[List.length_set];exact CH⟩⟩;intro p' pM
    by_cases hpp:p'=p
    ·subst hpp;exact⟨_,List.getElem?_set_self hpl⟩
    ·rw[List.getElem?_set_ne (fun e=>hpp e.symm)];exact bV p' pM
   ·refine zQ 1 ?_;refine⟨fun i h=>(by cases h),_,_,_,rfl,rfl,?_⟩;have tp:q=js.length:=by omega
    rw[tp,List.drop_length] at fq;have fq:C=dU (fun _=>eZ e) C0 js:=fq;rw[←fq];exact⟨rfl,cd,dk,hH.erase 4⟩
  ·simp only[cA,gN,if_neg mf] at cJ hjs;have xC:(((i:Nat):Int)==((ks.len-1:Nat):Int))=false:=by rw[beq_eq_false_iff_ne];omega
   refine qE rfl (by rw[xC]) ?_;refine zQ 4 ?_;refine EvO.go (d:=.agg [.int .i64 2,.int .i64 0,.int .i64 0,.nul]) (st1:=_) rfl rfl rfl (by dsimp only[Fr.put,u1,u2]<;>rfl) ?_;have hH:=hH.nulE 2;obtain⟨_,st,hev,rfl,cd,dk,hH⟩:=fL (rs:=[]) hF (by omega) hH;refine qv hev ?_;refine zQ 2 ?_;have gM:(ak++[bh 2 0 0 []]).length=ak.length+1:=by simp
   refine zQ 4 ?_;obtain⟨_,st,hev,rfl,cd,dk,hH⟩:=ih t (by omega) hF hnd kV.left vy.left oh.left jt.1 (by omega) ⟨cd,dk,hH⟩;refine qv hev ?_;refine zQ 1 ?_;rw[gM] at hH;have ja:(ak++[bh 2 0 0 []]++av t (ak.length+1)).length=ak.length+1+t.sz:=by rw[List.length_append,gM,oL]
   refine zQ 4 ?_;refine EvO.go (d:=.agg [.int .i64 3,.int .i64 0,.int .i64 0,.nul]) (st1:=_) rfl rfl rfl (by dsimp only[Fr.put,u1,u2]<;>rfl) ?_;have hH:=hH.nulE 2;obtain⟨_,st,hev,rfl,cd,dk,hH⟩:=fL (rs:=[]) hF (by omega) hH;refine qv hev ?_;refine qh (s:=1) (vs:=[_]) hH fun k47 st LA hH=>?_;refine qP hH at5 (hH.rows at0) fun Hj st hH=>?_;dsimp only[u2,u1,u3,u4,setMany,u5,u6,D.cells,Nat.reduceAdd,aT,ay,ah,ew] at hH;refine zQ 2 ?_;have hH:=hH.drop 1
   have vJ:(ak++[bh 2 0 0 []]++av t (ak.length+1)++[bh 3 0 0 []])[ak.length]?=some (bh 2 0 0 []):=by
    rw[List.append_assoc,List.append_assoc];exact kJ _ _ _
   have vI:(ak++[bh 2 0 0 []]++av t (ak.length+1)++[bh 3 0 0 []]).length=ak.length+1+t.sz+1:=by rw[List.length_append,ja];rfl
   have tk:(ak++[bh 2 0 0 []]++av t (ak.length+1)++[bh 3 0 0 []]).set ak.length (gJ ak.length (ak.length+1+t.sz+1) false)=ak++(gJ ak.length (ak.length+1+t.sz+1) false::(av t (ak.length+1)++[eZ 0])):=by
    rw[List.append_assoc,List.append_assoc];exact ko _ _ _ _
   have tE:(ak++(gJ ak.length (ak.length+1+t.sz+1) false::(av t (ak.length+1)++[eZ 0]))).length=ak.length+t.sz+2:=by rw[←tk,List.length_set,vI];omega
   generalize ak++[bh 2 0 0 []]++av t (ak.length+1)++[bh 3 0 0 []]=aL at*;refine zQ 8 ?_;refine EvO.nA hH rfl (ev rfl) (by exact at1) rfl (by dsimp only[Fr.put,u1,u2]<;>rfl) ?_;simp only[List.length_map,List.length_append,List.length_cons,List.length_nil];obtain⟨_,st,hev,rfl,hH⟩:=o0 (at_:=ak.length) (over:=aL.length) (lz:=false) vJ (by omega) hH;refine qv hev ?_;refine zQ 1 ?_;rw[vI,tk] at hH;refine zQ 6 ?_;refine qi hH at3 fun SD Qz=>?_;refine zQ 7 ?_;exact⟨mm-1,by omega,⟨i+1,j+t.flat.length,ts,cd,Hj,dk,ak++(gJ ak.length (ak.length+1+t.sz+1) false::(av t (ak.length+1)++[eZ 0])),js++[ak.length+1+t.sz],rfl,(by rw[List.map_append (f:=ew)];rw[ja] at hH;exact hH),by omega,by omega,by omega,kV.right,by rw[←FL];exact vy.right,by rw[←H3];rw[←H3] at oh;exact oh.right,jt.2,by rw[tE,←cJ];simp only[List.append_assoc,List.cons_append,List.nil_append],by rw[tE,←hjs];simp only[List.append_assoc,List.cons_append,List.nil_append],by rw[tE];omega,by omega,by rw[List.length_append];simp only[List.length_cons,List.length_nil];omega⟩⟩
end Go.Proofs.YtajblankjjmonaaGreat
