/-
 The scanner: a decoder ahead of a machine.
-/
import Derived.Test.YtkbacjpologjbaaGreatWGHr
import Derived.Test.YtkbacjpologjbaaGreatWGJp
import Derived.Test.YtkbacjpologjbaaGreatWGNg
import Derived.Test.YtkbacjpologjbaaGreatWGYd
set_option maxRecDepth 100000
set_option maxHeartbeats 4000000
set_option linter.unusedSimpArgs false
set_option linter.unusedVariables false
open List renaming take_succ_cons→γ,drop_succ_cons→δ,length_map→ε,length_append→ζ,take_zero→η,drop_zero→θ,getElem?_eq_getElem→ι,length_drop→ν,foldl→ξ,length_cons→ρ,append_assoc→ς,mem_map→υ,take_of_length_le→φ,getElem?_of_mem→χ,append_nil→ω,nil_append→Γ,drop_eq_nil_of_le→Δ,getElem?_set_self→Θ,drop_append_of_le_length→Ψ,take_left→v8,getElem?_map→GB,cons_append→BY,map_append→IN,take_left'→IS,getElem?_eq_none→OF,drop_left→Pd,mem_of_getElem?→Pe,not_mem_nil→AI,getElem?_append_left→Qa1,map_cons→Qa2,map_drop→Qa3,mem_cons→Qa4,mem_map_of_mem→Qaa,getElem?_take→Qad,length_nil→Qae,replicate→Qah
open Go.V.ab renaming nil→κ,aH→Ω,load→Qa0,store→Qa5,two→Qa6,lv→Qaf,nD→Qag,copy→Qal,c9→Qam,c_→Qan,len→Qao,append→Qaq,cM→Qar
open Go.V renaming byteCells→μ,look→Qap
open Nat renaming le_refl→ο,reduceAdd→π,le_of_ble_eq_true→Ξ,le_trans→IT,zero_add→Qa8,mul_one→Qab,lt_or_ge→Qai,zero_le→Qak
open Bool renaming and_eq_true→τ,or_eq_false_iff→Φ,not_eq_false'→wt,and_eq_true_iff→Qa9
open Go.V.D renaming cells→ψ,int→AN
open Go.V.Ev renaming iu→AT,eH→Qac
open Int renaming eq_ofNat_of_zero_le→Qa7,le_refl→Qaj
namespace Go.Proofs.YtkbacjpologjbaaGreat
open Go.V Go
theorem zjua {A B:Prop} (h:A) (e:A→B:=by intro h;dsimp only[u2,u1,u3,u4,setMany,u5,u6,ψ,π,Pg.cs] at h;exact h):B:=e h
theorem zjub {A B:Prop} (h:A) (e:A→B:=by intro h;dsimp only[u2,u1,u3,u4,setMany,u5,u6,ψ,π,aK,aV,aE,ax,Pg.cs,fI,gW,bV] at h;exact h):B:=e h
def cY (h j:List UInt8):List D:=(h++j).map jG++[.int .i64 (h.length:Nat)]
variable{h j:List UInt8}
theorem pZ (hl:(h++j).length=4):(cY h j).length=5:=by simp[cY] at hl⊢;omega
theorem og (hl:(h++j).length=4):(cY h j).drop 4=[.int .i64 (h.length:Nat)]:=by
 unfold cY;have:((h++j).map jG).length=4:=by rw[ε,hl]
 rw[←this,Pd]
variable{st:St}{k:Nat}{b:List UInt8}
theorem sv {v:Nat} {ar:Bool} {rest:List D} (hm:st.bs[k]?=some (.mem v ar (b.map jG++rest))) {l r:Nat} (rX:l≤r) (hr:r≤b.length):Bytes st (.win k v l (r-l) 1) ((b.take r).drop l):=by
 have hlen:((b.take r).drop l).length=r-l:=by simp;omega
 have:=Rows.win (st:=st) (s:=1) k v l (μ ((b.take r).drop l)) ar (b.map jG++rest) (St.mem_of hm) (by rw[aw,hlen];simp;omega) fun i e hi=>by
  simp only[μ,GB] at hi;obtain⟨y,hy,rfl⟩:=Option.map_eq_some_iff.1 hi;rw[List.getElem?_drop,Qad] at hy
  split at hy
  ·rename_i hlt;have hb:b[l+i*1]?=some y:=by rw[Qab];exact hy
   have h2:(b.map jG++rest)[l+i*1]?=some (jG y):=by
    rw[Qa1 (by rw[ε];omega),GB,hb];rfl
   rw[List.take_one,List.head?_drop,h2];rfl
  ·cases hy
 rw[aw,hlen] at this;exact this
variable{n:Nat}
theorem Mm {v:Nat} (hm:st.bs[k]?=some (.mem v false (cY h j))) (hl:(h++j).length=4) (hn:n≤h.length) (db:st.ro≤k):
  Ev pv 125 [.ptr k v 0,.int .i64 (n:Nat)] st (.tup []) ⟨st.bs.set k (.mem v false (cY (h.drop n) ((h++j).drop (h.length-n)))),st.flr,st.ro⟩:=by
 refine AT rfl SQ rfl rfl rfl ?_;refine zE ?_;have j6:(ae .rw st).bs[k]?=some (.mem v false (cY h j)):=hm
 have jx:k<st.bs.length:=by
  rcases Qai k st.bs.length with h'|h'
  ·exact h'
  ·rw[OF h'] at hm;cases hm
 have oZ:=hl;rw[ζ] at oZ;have hcl:=pZ hl;have nY:=og hl;have vy:∀S:St,S.ro=st.ro→S.jr k 0=true:=fun S hS=>oi z0;refine qy ?_;(repeat refine qq ?_);(generalize hK:bS _ _ _ _=K);refine ag.ei ?_
 (refine xT ?_)
 (refine xT ?_)
 (refine xT ?_)
 refine Qaf (l:=0) (r:=4) rfl rfl rfl rfl rfl j6 (by rw[hcl];decide) rfl ?_
 (refine xT ?_)
 (refine xT ?_)
 (refine xT ?_)
 (refine xT ?_)
 (refine xT ?_)
 (refine xT ?_)
 (refine xT ?_)
 refine Qa0 (k:=k) (aB:=v) (off:=4) rfl rfl rfl j6 (d:=.int .i64 (h.length:Nat)) (by rw[nY];rfl) ?_;refine Qaf (l:=n) (r:=h.length) rfl rfl rfl rfl rfl j6 (by rw[hcl];decide) ?_ ?_
 ·show bZ 4 (some (.int .i64 (n:Nat))) (some (.int .i64 (h.length:Nat)))=_;simp only[bZ,gB,jt];rw[if_pos ⟨by omega,by omega⟩];simp only[Option.bind_some];rw[if_pos ⟨by omega,by omega⟩];rfl
 have QT:=sv (st:=ae .rw st) (l:=n) (r:=h.length) j6 hn (by rw[hl];omega);rw[v8] at QT;refine Qal (k:=k) (aB:=v) (off:=0) (len:=4) (s:=1) (ys:=μ (h.drop n)) (ar:=false) (c:=cY h j) rfl rfl rfl (by show D.win k v (0+n*1) (h.length-n) 1=D.win k v n (h.length-n) 1;congr 1;omega) QT rfl rfl j6 (by rw[hcl];decide) ?_ ?_
 ·rw[eD]
  have:∀(b:List UInt8) m,refs ((b.map jG).take m)=0:=by
   intro b m
   induction b generalizing m with
   |nil=>simp[refs]
   |cons y b ih=>cases m with
    |zero=>simp[refs]
    |succ m=>simp only[Qa2,γ,refs,ih];rfl
  rw[this];exact vy _ rfl
 have OX:(cY h j).take 0++(μ (h.drop n)).flatten.take (min (μ (h.drop n)).length 4*1)++(cY h j).drop (0+min (μ (h.drop n)).length 4*1)=(h.drop n++(h++j).drop (h.length-n)).map jG++[.int .i64 (h.length:Nat)]:=by
  have e1:min (μ (h.drop n)).length 4*1=h.length-n:=by rw[aw,ν];omega
  rw[e1,eD,η,Γ,Qa8];have e2:((h.drop n).map jG).take (h.length-n)=(h.drop n).map jG:=φ (by rw[ε,ν];omega);rw[e2];unfold cY;rw[Ψ (by rw[ε,hl];omega),←Qa3,IN,ς]
 rw[OX];generalize Df:(h++j).drop (h.length-n)=j';have Zc:(h.drop n++j').length=4:=by rw[←Df,ζ,ν,ν,hl];omega
 refine κ ?_;refine zF ?_;subst hK;refine qy ?_
 have vt:((ae .rw st).bs.set k (.mem v false ((h.drop n++j').map jG++[.int .i64 (h.length:Nat)])))[k]?=some (.mem v false ((h.drop n++j').map jG++[.int .i64 (h.length:Nat)])):=by
  rw[Θ (by exact jx)]
 have pN:((h.drop n++j').map jG).length=4:=by rw[ε,Zc]
 generalize hS:(⟨(ae .rw st).bs.set k (.mem v false ((h.drop n++j').map jG++[.int .i64 (h.length:Nat)])),(ae .rw st).flr,(ae .rw st).ro⟩:St)=S;have Bt:S.bs[k]?=some (.mem v false ((h.drop n++j').map jG++[.int .i64 (h.length:Nat)])):=by subst hS;exact vt
 refine ag.ei ?_
 (refine xT ?_)
 (refine xT ?_)
 (refine xT ?_)
 refine Qa0 (k:=k) (aB:=v) (off:=4) rfl rfl rfl Bt (d:=.int .i64 (h.length:Nat)) (by rw[←pN,Pd];rfl) ?_
 (refine xT ?_)
 (refine xT ?_)
 rw[wrap_i64 z0 z0]
 (refine xT ?_)
 (refine xT ?_)
 refine Qa5 (k:=k) (aB:=v) (off:=4) (cs:=[.int .i64 ((h.length:Nat)-(n:Nat):Int)]) rfl rfl rfl rfl rfl Bt (by rw[ζ,pN];exact ο _) (vy S (by subst hS;rfl)) ?_;refine κ ⟨fun i h=>(by cases h),[],rfl,Be ?_ rfl⟩;subst hS;simp only[ae,List.set_set];rw[φ (by simp)]
 congr 2
 unfold cY;rw[IS pN,ν];have:(((h.drop n++j').map jG++[AN .i64 (h.length:Nat)]).drop (4+[AN .i64 ((h.length:Nat)-(n:Nat):Int)].length))=[]:=Δ (by simp[pN];simp at pN;omega);have e4:((h.length:Nat):Int)-(n:Nat)=((h.length-n:Nat):Int):=by omega
 rw[this,ω,e4,Df]
def fL:Nat→List UInt8→List (Nat×Nat)×List UInt8
 |0,l=>([],l)
 |_+1,[]=>([],[])
 |f+1,c::l=>if bH (c::l)=true then([],c::l) else(d_ (c::l)::(fL f ((c::l).drop (d_ (c::l)).2)).1,(fL f ((c::l).drop (d_ (c::l)).2)).2)
def fR (h:List UInt8) (c:UInt8):List (Nat×Nat)×List UInt8:=fL (h.length+1) (h++[c])
def jF:Nat→List UInt8→List UInt8→List UInt8
 |0,_,j=>j
 |_+1,[],j=>j
 |f+1,c::l,j=>if bH (c::l)=true then j else jF f ((c::l).drop (d_ (c::l)).2) ((c::l++j).drop ((c::l).length-(d_ (c::l)).2))
variable{js:List UInt8}{j0 c:UInt8}
theorem JO (hl:(h++j0::js).length=4):(cY h (j0::js)).take (0+0+h.length*1)++[jG c]++(cY h (j0::js)).drop (0+0+h.length*1+1)=(h++c::js).map jG++[.int .i64 (h.length:Nat)]:=by
 have e:0+0+h.length*1=(h.map jG).length:=by rw[ε];omega
 have e2:cY h (j0::js)=h.map jG++(jG j0::(js.map jG++[.int .i64 (h.length:Nat)])):=by simp[cY]
 rw[e,e2,v8,←List.drop_drop,Pd];simp
variable{N:Nat}{x:D}
theorem DV {s:Nat} {es:List (List D)} (hk:k<N) (h:V.Acc N st s x es) (bx:jC):V.Acc N ⟨st.bs.set k bx,st.flr,st.ro⟩ s x es:=by
 cases h with
 |nul=>exact .nul
 |win k2 Ue es hN2 IU he=>exact .win k2 Ue _ hN2 (by simp only;rw[List.getElem?_set_ne z0];exact IU) he
theorem Mz {v:Nat} (hm:st.bs[k]?=some (.mem v false (cY h (j0::js)))) (hl:(h++j0::js).length=4) (db:st.ro≤k):
  Ev pv 89 [.ptr k v 0,.int .u8 (c.toNat:Nat)] st (gf (fR h c).1) ⟨st.bs.set k (.mem v false (cY (fR h c).2 (jF (h.length+1) (h++[c]) js))),st.flr,st.ro⟩:=by
 have jx:k<st.bs.length:=by
  rcases Qai k st.bs.length with h'|h'
  ·exact h'
  ·rw[OF h'] at hm;cases hm
 have oZ:=hl;rw[ζ,ρ] at oZ;refine AT rfl WN rfl rfl rfl ?_;refine zE ?_;have j6:(ae .rw st).bs[k]?=some (.mem v false (cY h (j0::js))):=hm;have nY:=og hl;have hcl:=pZ hl;have vy:∀S:St,S.ro=st.ro→S.jr k 0=true:=fun S hS=>oi z0;refine qy ?_;(repeat refine qq ?_);(generalize hK:bS _ _ _ _=K);refine ag.ei ?_;(repeat(refine xL ?_));refine κ ?_;refine zF ?_;subst hK;refine qy ?_;(repeat refine qq ?_);(generalize hK:bS _ _ _ _=K);refine ag.ei ?_
 (refine xT ?_)
 (refine xT ?_)
 (refine xT ?_)
 (refine xT ?_)
 refine Qa0 (k:=k) (aB:=v) (off:=4) rfl rfl rfl j6 (d:=.int .i64 (h.length:Nat)) (by rw[nY];rfl) ?_
 (refine xT ?_)
 (refine xT ?_)
 (refine xT ?_)
 refine ab.NT (k:=k) (v:=v) (off:=0+0) (m:=4) (s:=1) (i:=h.length) rfl rfl rfl rfl rfl rfl z0 ?_;refine Qa5 (k:=k) (aB:=v) (off:=0+0+h.length*1) (cs:=[jG c]) rfl rfl rfl rfl rfl j6 (by rw[hcl];simp;omega) (vy _ rfl) ?_;rw[show(cY h (j0::js)).take (0+0+h.length*1)++[jG c]++(cY h (j0::js)).drop (0+0+h.length*1+[jG c].length)=(h++c::js).map jG++[.int .i64 (h.length:Nat)] from JO hl];have pN:((h++c::js).map jG).length=4:=by simp;omega
 have hx0:GJ st.bs.length k (ae .rw st) ⟨(ae .rw st).bs.set k (.mem v false ((h++c::js).map jG++[.int .i64 (h.length:Nat)])),(ae .rw st).flr,(ae .rw st).ro⟩:=GJ.put ⟨fun _ _ _=>rfl,ο _,rfl,rfl⟩ _;generalize Wr:(⟨(ae .rw st).bs.set k (.mem v false ((h++c::js).map jG++[.int .i64 (h.length:Nat)])),(ae .rw st).flr,(ae .rw st).ro⟩:St)=S1 at hx0⊢;have vt:S1.bs[k]?=some (.mem v false ((h++c::js).map jG++[.int .i64 (h.length:Nat)])):=by subst Wr;exact Θ jx
 refine κ ?_;refine zF ?_;subst hK;refine qy ?_;(repeat refine qq ?_);(generalize hK:bS _ _ _ _=K);refine ag.ei ?_
 (refine xT ?_)
 (refine xT ?_)
 (refine xT ?_)
 refine Qa0 (k:=k) (aB:=v) (off:=4) rfl rfl rfl vt (d:=.int .i64 (h.length:Nat)) (by rw[←pN,Pd];rfl) ?_
 (refine xT ?_)
 rw[wrap_i64 z0 z0]
 (refine xT ?_)
 (refine xT ?_)
 refine Qa5 (k:=k) (aB:=v) (off:=4) (cs:=[.int .i64 ((h.length:Nat)+1:Int)]) rfl rfl rfl rfl rfl vt (by rw[ζ,pN];exact ο _) (vy S1 (by subst Wr;rfl)) ?_
 have nu:((h++c::js).map jG++[AN .i64 (h.length:Nat)]).take 4++[.int .i64 ((h.length:Nat)+1:Int)]++((h++c::js).map jG++[AN .i64 (h.length:Nat)]).drop (4+[AN .i64 ((h.length:Nat)+1:Int)].length)=cY (h++[c]) js:=by
  rw[IS pN,Δ (by rw[ζ,pN];exact ο _),ω];unfold cY;simp
 rw[nu];have hx1:=hx0.put (.mem v false (cY (h++[c]) js));have Bt:(⟨S1.bs.set k (.mem v false (cY (h++[c]) js)),S1.flr,S1.ro⟩:St).bs[k]?=some (.mem v false (cY (h++[c]) js)):=Θ (by have:=hx0.len;have e:(ae .rw st).bs.length=st.bs.length:=rfl;omega);generalize(⟨S1.bs.set k (.mem v false (cY (h++[c]) js)),S1.flr,S1.ro⟩:St)=S2 at hx1 Bt⊢;refine κ ?_;refine zF ?_;subst hK;refine qy ?_;(repeat refine qq ?_);(generalize hK:bS _ _ _ _=K);refine ag.ei ?_;(repeat(refine xL ?_));refine κ ?_;refine zF ?_;subst hK;refine qy ?_;(repeat refine qq ?_);refine ag.block ?_;have hlt:((h++[c])++js).length=4:=by simp;omega
 generalize Mb:bS _ _ _ _=K0
 have fin:∀(ah:St) (done:List (Nat×Nat)) (out r n bg:D) (m2:List (Nat×D)) (j:List UInt8),GJ st.bs.length k (ae .rw st) ah→Acc st.bs.length ah 2 out (done.map bF)→ah.bs[k]?=some (.mem v false (cY (fR h c).2 j))→done=(fR h c).1→j=jF (h.length+1) (h++[c]) js→
   K0 .next ⟨9,[.ptr k v 0,.int .u8 (c.toNat:Nat),.tup [],.tup [],.nul,out,r,n,bg],m2⟩ ah:=by
  intro ah done out r n bg m2 j hx sa hm hd hj;subst Mb;refine qy ?_;(repeat refine qq ?_);(generalize hK:bS _ _ _ _=K);refine ag.ei ?_;(repeat(first|refine xT ?_|refine xL ?_));refine κ ?_;refine zF ?_;subst hK;refine qy ?_;refine ag.ret ⟨rx,_,rfl,Be ?_ ?_⟩
  ·have:=hx.take (a:=ae .rw st) jx hm;rw[←hj];exact this
  ·rw[←hd];exact sa.freeze oR (n:=15) (by decide)
 refine ag.loop (fun m fr ah=>∃(f:Nat) (l j:List UInt8) (done:List (Nat×Nat)) (out r n bg:D),fr.clean=⟨9,[.ptr k v 0,.int .u8 (c.toNat:Nat),.tup [],.tup [],.nul,out,r,n,bg],[]⟩∧ah.bs[k]?=some (.mem v false (cY l j))∧(l++j).length=4∧GJ st.bs.length k (ae .rw st) ah∧
  Acc st.bs.length ah 2 out (done.map bF)∧m=l.length∧l.length≤f∧done++(fL f l).1=(fR h c).1∧(fL f l).2=(fR h c).2∧jF f l j=jF (h.length+1) (h++[c]) js∧done.length+l.length≤4) (h.length+1)
  ⟨h.length+1,h++[c],js,[],.nul,_,_,_,rfl,Bt,hlt,hx1,.nul,by simp,by simp,rfl,rfl,rfl,by simp;omega⟩ ?_
 clear Bt hx1 nu vt hx0 Wr;rintro m fr ah ⟨f,l,j,done,out,r,n,bg,hfr,Dc,PQ,hx,sa,rfl,VC,Ls,N3,hj,GR⟩;rw[hfr];have Zo:=og PQ;have hN:st.bs.length≤ah.bs.length:=hx.len;have LX:ah.flr=st.bs.length:=by rw[hx.flr];rfl
 have N':ah.ro=st.ro:=by rw[hx.ro];rfl
 (refine qy ?_);(repeat refine qq ?_);(generalize hK:bS _ _ _ _=K);refine ag.ei ?_
 (refine xT ?_)
 (refine xT ?_)
 (refine xT ?_)
 refine Qa0 (k:=k) (aB:=v) (off:=4) rfl rfl rfl Dc (d:=.int .i64 (l.length:Nat)) (by rw[Zo];rfl) ?_;(repeat(refine xT ?_));refine κ ?_;refine zF ?_;subst hK;refine qy ?_;(repeat refine qq ?_);refine qc (fun h1=>?_) (fun h1=>?_)<;>try simp only[cs] at h1
 ·refine ag.skip ?_;refine qy ?_
  obtain⟨c0,l,rfl⟩:∃a b,l=a::b:=by cases l with|nil=>simp at h1|cons a b=>exact⟨a,b,rfl⟩
  obtain⟨f,rfl⟩:∃f',f=f'+1:=⟨f-1,by simp only[ρ] at VC;omega⟩
  have hl5:=PQ;rw[ζ] at hl5;have hne:(c0::l)≠[]:=by simp
  have L7:bH (c0::l)=(df (c0::l)).2.2:=rfl;generalize rY:c0::l=ll at*;have MX:fL (f+1) ll=if bH ll=true then([],ll) else(d_ ll::(fL f (ll.drop (d_ ll).2)).1,(fL f (ll.drop (d_ ll).2)).2):=by rw[←rY];rfl
  have Zf:jF (f+1) ll j=if bH ll=true then j else jF f (ll.drop (d_ ll).2) ((ll++j).drop (ll.length-(d_ ll).2)):=by rw[←rY];rfl
  have Wg:=pZ PQ;have Iv:=sv (st:=ah) (l:=0) (r:=ll.length) Dc (Qak _) (by rw[ζ];omega);rw[v8,θ] at Iv;refine qy ?_;(repeat refine qq ?_);refine ag.block ?_;refine qy ?_;(repeat refine qq ?_);(generalize hK:bS _ _ _ _=K);refine ag.ei ?_
  (refine xT ?_)
  (refine xT ?_)
  (refine xT ?_)
  (refine xT ?_)
  (refine xT ?_)
  (refine xT ?_)
  refine Qa0 (k:=k) (aB:=v) (off:=4) rfl rfl rfl Dc (d:=.int .i64 (ll.length:Nat)) (by rw[Zo];rfl) ?_;refine Qaf (l:=0) (r:=ll.length) rfl rfl rfl rfl rfl Dc (by rw[Wg];decide) ?_ ?_
  ·show bZ 4 none (some (.int .i64 (ll.length:Nat)))=_;simp only[bZ,gB,jt];rw[if_pos ⟨by omega,by omega⟩];rfl
  refine Qag rfl rfl rfl (d:=.tup [.int .i32 ((df ll).1:Nat),.int .i64 ((df ll).2.1:Nat),.bool (df ll).2.2]) (st1:=ah) (pW Iv) ?_;(repeat(first|refine xT ?_|refine xL ?_));refine κ ?_;refine zF ?_;subst hK;refine qy ?_;(repeat refine qq ?_);(generalize hK:bS _ _ _ _=K);refine ag.ei ?_;(repeat(refine xT ?_));refine κ ?_;refine zF ?_;subst hK;refine qy ?_;(repeat refine qq ?_);refine qc (fun h2=>?_) (fun h2=>?_)<;>try simp only[cs] at h2
  ·refine ag.exit ?_;rw[←L7] at h2;rw[MX,if_pos h2] at Ls N3;rw[Zf,if_pos h2] at hj;refine fin ah done out _ _ _ _ j hx sa ?_ ?_ hj
   ·rw[←N3];exact Dc
   ·rw[←Ls,ω]
  refine ag.skip ?_;refine qy ?_;have PY:¬bH ll=true:=by rw[L7,h2];simp
  rw[MX,if_neg PY] at Ls N3;rw[Zf,if_neg PY] at hj;have lR:=tP hne;have hgp:=jc ll;generalize hf:df ll=F at*;obtain⟨r0,n0,bg0⟩:=F;refine qy ?_;(repeat refine qq ?_);(generalize hK:bS _ _ _ _=K);refine ag.ei ?_;(repeat(refine xT ?_));refine κ ?_;refine zF ?_;subst hK;refine qy ?_;generalize hK:bS _ _ _ _=K
  have H:∀m2,K .next ⟨9,[.ptr k v 0,.int .u8 (c.toNat:Nat),.tup [],.tup [],.nul,out,.int .i32 ((d_ ll).1:Nat),.int .i64 ((d_ ll).2:Nat),.bool bg0],m2⟩ ah:=by
   intro m2;subst hK;generalize hg:d_ ll=g at*;refine qy ?_;(repeat refine qq ?_);(generalize hK:bS _ _ _ _=K);refine ag.ei ?_
   (refine xT ?_)
   (refine xT ?_)
   (refine xT ?_)
   refine ab.T rfl rfl rfl (d:=.agg (bF g)) (st1:=ah) rfl ?_;refine ab.T rfl rfl rfl (d:=.win ah.bs.length 0 0 1 2) (st1:=ah.push (.mem 0 true (bF g))) rfl ?_;refine Qaq rfl rfl rfl rfl (sa.push _) (Rows.one rfl) rfl rfl rfl rfl rfl rfl rfl (by decide) (by simp[St.push];omega) (by show ah.flr≤_;omega) (by show ah.ro≤_;omega) (by simp only[ε,ρ,Qae];show(done.length+1)*16≤_;omega) fun NB st2 Jk I7 _ Bp _=>?_;(repeat(refine xL ?_));refine κ ?_;refine zF ?_;subst hK;refine qy ?_;have NX:GJ st.bs.length k (ae .rw st) st2:=(hx.of (Ex.push hN (.mem 0 true (bF g)))).of I7
   have TT:st2.bs[k]?=some (.mem v false (cY ll j)):=by
    rw[I7.low k z0];simp only[St.push];rw[Qa1 z0];exact Dc
   have aaq:st2.ro=st.ro:=by rw[NX.ro];rfl
   (refine qy ?_);(repeat refine qq ?_);(generalize hK:bS _ _ _ _=K);refine ag.ei ?_
   (refine xT ?_)
   (refine xT ?_)
   refine Qag rfl rfl rfl (Mm TT PQ lR z0) ?_;(repeat(first|refine xT ?_|refine xL ?_|refine xN ?_|refine xo ?_|refine xp ?_));refine κ ?_;refine zF ?_;subst hK;have hk2:k<st2.bs.length:=by have:=NX.len;have e:(ae .rw st).bs.length=st.bs.length:=rfl;omega
   refine⟨(ll.drop g.2).length,by rw[ν];omega,f,ll.drop g.2,(ll++j).drop (ll.length-g.2),done++[g],NB,_,_,_,rfl,Θ hk2,?_,NX.put _,?_,rfl,?_,?_,N3,hj,?_⟩
   ·rw[ζ,ν,ν,PQ];omega
   ·rw[IN];exact DV jx Jk _
   ·rw[ν];omega
   ·rw[←Ls,ς,List.singleton_append]
   ·rw[ζ,ν];simp only[ρ,Qae];omega
  (refine qy ?_);(repeat refine qq ?_);refine qc (fun h5=>?_) (fun h5=>?_)<;>try simp only[cs] at h5
  ·refine ag.ei ?_;(repeat(refine xL ?_));refine κ ?_;refine zF ?_;have:d_ ll=(65533,1):=by unfold d_;rw[hf,if_pos (by simpa using h5)]
   rw[this] at H;exact H _
  ·refine ag.skip ?_;have:d_ ll=(r0,n0):=by unfold d_;rw[hf,if_neg (by simpa using h5)]
   rw[this] at H;exact H _
 ·refine ag.exit ?_
  obtain rfl:l=[]:=by cases l with|nil=>rfl|cons a b=>simp at h1<;>omega
  refine fin ah done out r n bg _ j hx sa ?_ ?_ ?_
  ·have:(fR h c).2=[]:=by rw[←N3];cases f<;>rfl
   rw[this];exact Dc
  ·have:(fL f ([]:List UInt8)).1=[]:=by cases f<;>rfl
   rw[←Ls,this,ω]
  ·rw[←hj];cases f<;>rfl
theorem L5 {v:Nat} (hm:st.bs[k]?=some (.mem v false (cY h j))) (hl:(h++j).length=4) (db:st.ro≤st.bs.length):Ev pv 51 [.ptr k v 0] st (cA h) st:=by
 refine AT rfl Xo rfl rfl rfl ?_;refine zE ?_;have j6:(ae .rw st).bs[k]?=some (.mem v false (cY h j)):=hm;have oZ:=hl;rw[ζ] at oZ;have hcl:=pZ hl;have nY:=og hl;have Iv:=sv (st:=ae .rw st) (l:=0) (r:=h.length) j6 (Qak _) (by rw[hl];omega);rw[v8,θ] at Iv;refine zR ?_;refine zU ?_
 refine zW ?_
 refine zW ?_
 refine zW ?_
 refine zW ?_
 refine zW ?_
 refine zW ?_
 refine Qa0 (k:=k) (aB:=v) (off:=4) rfl rfl rfl j6 (d:=.int .i64 (h.length:Nat)) (by rw[nY];rfl) ?_;refine Qaf (l:=0) (r:=h.length) rfl rfl rfl rfl rfl j6 (by rw[hcl];decide) ?_ ?_
 ·show bZ 4 none (some (.int .i64 (h.length:Nat)))=_;simp only[bZ,gB,jt];rw[if_pos ⟨by omega,by omega⟩];rfl
 refine Qaq (N:=st.bs.length) (x:=.nul) (es:=[]) (y:=.win k v 0 (h.length-0) 1) (ys:=μ h) rfl rfl rfl rfl .nul Iv rfl rfl rfl rfl rfl rfl rfl (by decide) (ο _) (ο _) db (by rw[aw];show(0+h.length)*1≤_;omega) fun x' st2 sa hex _ _ _=>?_;rw[Γ] at sa;refine zX ?_;refine zN ?_;refine ag.ret ⟨rx,_,rfl,aP (by simp) (hex.take rfl) ?_⟩;exact sa.freeze (cS h) (n:=15) (by decide)
theorem CJ (st:St):Ev pv 49 [] st (.ptr st.bs.length 0 0) (st.push (.mem 0 false (cY [] [0,0,0,0]))):=by
 refine AT rfl Xq rfl rfl rfl ?_;refine zE ?_;refine zR ?_;refine zR ?_;exact ag.ret ⟨rx,_,rfl,rfl⟩
theorem Qo (hb:Bytes st x h) (aT:bH h=true∨h=[]) (h3:h.length≤3) (db:st.ro≤st.bs.length):
  Ev pv 72 [x] st (.tup [.ptr st.bs.length 0 0,.int .i64 0]) (st.push (.mem 0 false (cY h (([0,0,0,0]:List UInt8).drop h.length)))):=by
 have hx:=hb.ref;have hbl:=aw h;refine AT rfl Sg rfl rfl rfl ?_;refine zE ?_;refine zR ?_;refine zU ?_
 refine zW ?_
 refine Qag rfl rfl rfl (pW hb) ?_;refine zX ?_;refine zN ?_;have L7:(df h).2.2=bH h:=rfl;rw[L7];generalize(df h).1=r0;generalize(df h).2.1=n0
 cases Wl:bH h with
 |true=>
  refine zR ?_;(repeat refine qq ?_);refine ag.cond (v:=false) rfl (fun h=>by cases h) fun _=>?_;refine qy ?_;refine ag.skip ?_;refine qy ?_;have j6:(st.push (.mem 0 false (cY [] [0,0,0,0]))).bs[st.bs.length]?=some (.mem 0 false (cY [] [0,0,0,0])):=ky st _;have hb1:Bytes (st.push (.mem 0 false (cY [] [0,0,0,0]))) x h:=hb.ex (Ex.push (ο _) _) hx;have vy:∀S:St,S.ro=st.ro→S.jr st.bs.length 0=true:=fun S hS=>oi z0;refine zU ?_;refine Qag rfl rfl rfl (CJ st) ?_;refine zX ?_;refine zN ?_;refine zU ?_
  refine zW ?_
  refine zW ?_
  refine zW ?_
  refine zW ?_
  refine Qaf (k:=st.bs.length) (v:=0) (off:=0) (l:=0) (r:=4) rfl rfl rfl rfl rfl j6 (by decide) rfl ?_
  refine zW ?_
  refine Qal (k:=st.bs.length) (aB:=0) (off:=0) (len:=4) (s:=1) (ys:=μ h) (ar:=false) (c:=cY [] [0,0,0,0]) rfl rfl rfl rfl hb1 rfl rfl j6 (by decide) ?_ ?_
  ·rw[eD]
   have:∀(b:List UInt8) m,refs ((b.map jG).take m)=0:=by
    intro b m
    induction b generalizing m with
    |nil=>simp[refs]
    |cons y b ih=>cases m with
     |zero=>simp[refs]
     |succ m=>simp only[Qa2,γ,refs,ih];rfl
   rw[this];exact vy _ rfl
  have Bs:min (μ h).length 4=h.length:=by omega
  rw[Bs,eD]
  have OX:(cY [] [0,0,0,0]).take 0++(h.map jG).take (h.length*1)++(cY [] [0,0,0,0]).drop (0+h.length*1)=(h++([0,0,0,0]:List UInt8).drop h.length).map jG++[.int .i64 0]:=by
   rw[η,Γ,Qab,Qa8];have e1:(h.map jG).take h.length=h.map jG:=φ (by simp);rw[e1,IN,ς]
   congr 1
   show([0,0,0,0].map jG++[AN .i64 0]).drop h.length=_;rw[Ψ (by simp;omega),Qa3]
  rw[OX];have hlt:((h++([0,0,0,0]:List UInt8).drop h.length).map jG).length=4:=by simp;omega
  have hT:∃T:List D,T=(h++([0,0,0,0]:List UInt8).drop h.length).map jG:=⟨_,rfl⟩
  obtain⟨T,hT⟩:=hT;rw[←hT] at hlt⊢;have EO:∀b b':jC,(⟨(st.push b).bs.set st.bs.length b',(st.push b).flr,(st.push b).ro⟩:St)=st.push b':=fun b b'=>AK rfl
  refine zW ?_
  refine zW ?_
  rw[EO];refine Qa5 (k:=st.bs.length) (aB:=0) (off:=4) (cs:=[.int .i64 (h.length:Nat)]) rfl rfl rfl rfl rfl (ky st _) (by rw[ζ,hlt];exact ο _) (vy _ rfl) ?_;rw[EO]
  have nu:(T++[AN .i64 0]).take 4++[.int .i64 (h.length:Nat)]++(T++[AN .i64 0]).drop (4+[AN .i64 (h.length:Nat)].length)=cY h (([0,0,0,0]:List UInt8).drop h.length):=by
   rw[IS hlt,Δ (by rw[ζ,hlt];exact ο _),ω,hT]
   rfl
  rw[nu];refine zN ?_;refine zR ?_;exact ag.ret ⟨rx,_,rfl,rfl⟩
 |false=>
  have Cc:h.length=0:=by
   rcases aT with h'|h'
   ·rw[Wl] at h';cases h'
   ·rw[h'];rfl
  refine zU ?_
  refine zW ?_
  refine zW ?_
  refine zW ?_
  refine zW ?_
  refine Qao rfl rfl rfl hb rfl ?_;rw[hbl];refine zY ?_;refine zN ?_;(repeat refine qq ?_);refine ag.cond (v:=false) rfl (fun h=>by cases h) fun _=>?_;refine qy ?_;refine ag.skip ?_;refine qy ?_;have j6:(st.push (.mem 0 false (cY [] [0,0,0,0]))).bs[st.bs.length]?=some (.mem 0 false (cY [] [0,0,0,0])):=ky st _;have hb1:Bytes (st.push (.mem 0 false (cY [] [0,0,0,0]))) x h:=hb.ex (Ex.push (ο _) _) hx;have vy:∀S:St,S.ro=st.ro→S.jr st.bs.length 0=true:=fun S hS=>oi z0;refine zU ?_;refine Qag rfl rfl rfl (CJ st) ?_;refine zX ?_;refine zN ?_;refine zU ?_
  refine zW ?_
  refine zW ?_
  refine zW ?_
  refine zW ?_
  refine Qaf (k:=st.bs.length) (v:=0) (off:=0) (l:=0) (r:=4) rfl rfl rfl rfl rfl j6 (by decide) rfl ?_
  refine zW ?_
  refine Qal (k:=st.bs.length) (aB:=0) (off:=0) (len:=4) (s:=1) (ys:=μ h) (ar:=false) (c:=cY [] [0,0,0,0]) rfl rfl rfl rfl hb1 rfl rfl j6 (by decide) ?_ ?_
  ·rw[eD]
   have:∀(b:List UInt8) m,refs ((b.map jG).take m)=0:=by
    intro b m
    induction b generalizing m with
    |nil=>simp[refs]
    |cons y b ih=>cases m with
     |zero=>simp[refs]
     |succ m=>simp only[Qa2,γ,refs,ih];rfl
   rw[this];exact vy _ rfl
  have Bs:min (μ h).length 4=h.length:=by omega
  rw[Bs,eD]
  have OX:(cY [] [0,0,0,0]).take 0++(h.map jG).take (h.length*1)++(cY [] [0,0,0,0]).drop (0+h.length*1)=(h++([0,0,0,0]:List UInt8).drop h.length).map jG++[.int .i64 0]:=by
   rw[η,Γ,Qab,Qa8];have e1:(h.map jG).take h.length=h.map jG:=φ (by simp);rw[e1,IN,ς]
   congr 1
   show([0,0,0,0].map jG++[AN .i64 0]).drop h.length=_;rw[Ψ (by simp;omega),Qa3]
  rw[OX];have hlt:((h++([0,0,0,0]:List UInt8).drop h.length).map jG).length=4:=by simp;omega
  have hT:∃T:List D,T=(h++([0,0,0,0]:List UInt8).drop h.length).map jG:=⟨_,rfl⟩
  obtain⟨T,hT⟩:=hT;rw[←hT] at hlt⊢;have EO:∀b b':jC,(⟨(st.push b).bs.set st.bs.length b',(st.push b).flr,(st.push b).ro⟩:St)=st.push b':=fun b b'=>AK rfl
  refine zW ?_
  refine zW ?_
  rw[EO];refine Qa5 (k:=st.bs.length) (aB:=0) (off:=4) (cs:=[.int .i64 (h.length:Nat)]) rfl rfl rfl rfl rfl (ky st _) (by rw[ζ,hlt];exact ο _) (vy _ rfl) ?_;rw[EO]
  have nu:(T++[AN .i64 0]).take 4++[.int .i64 (h.length:Nat)]++(T++[AN .i64 0]).drop (4+[AN .i64 (h.length:Nat)].length)=cY h (([0,0,0,0]:List UInt8).drop h.length):=by
   rw[IS hlt,Δ (by rw[ζ,hlt];exact ο _),ω,hT]
   rfl
  rw[nu];refine zN ?_;refine zR ?_;exact ag.ret ⟨rx,_,rfl,rfl⟩
def rP (fr:Go.V.Fr) (k:Nat):Go.V.D:=Go.V.nth .bo fr.loc k
def kV (code:List aL) (ss:List Nat):List (Nat×Nat)→Nat→List PL→Nat×List PL
 |[],pl,ls=>(pl,ls)
 |g::gs,pl,ls=>kV code ss gs (pl+k_ (g.2:Nat)) (ig code pl (g.1:Nat) ss ls)
theorem Eg (code:List aL) (ss:List Nat):∀(a:List (Nat×Nat)) (pl:Nat) (ls:List PL),(kV code ss a pl ls).1≤pl+4*a.length
 |[],_,_=>ο _
 |g::a,pl,ls=>by
  simp only[kV,ρ];have:=Eg code ss a (pl+k_ (g.2:Nat)) (ig code pl (g.1:Nat) ss ls);have:=sq ((g.2:Nat):Int);omega
theorem Eh {p:Pg} (hR:a7 p):∀(a:List (Nat×Nat)) (pl:Nat) (ls:List PL),ls.length=p.ak.length→(∀l∈ls,l.ok p.code.length)→(kV p.code (aM p) a pl ls).2.length=p.ak.length∧∀l∈(kV p.code (aM p) a pl ls).2,l.ok p.code.length
 |[],_,_,h1,h2=>⟨h1,h2⟩
 |g::a,pl,ls,h1,h2=>by
  simp only[kV];refine Eh hR a _ _ ?_ (fun l hl=>rf hR (ue hR) l hl);rw[jU _ _ _ _ _ (by unfold aM;rw[ε];omega)];exact h1
theorem wZ (code:List aL) (ss:List Nat):∀(a:List (Nat×Nat)) (pl:Nat) (ls:List PL),kV (code.map e_) ss a pl ls=kV code ss a pl ls
 |[],_,_=>rfl
 |g::a,pl,ls=>by simp only[kV,sH,wZ code ss a]
variable{L:List VL}
theorem rD (h:∀l∈L.map VL.pl,l.ok n):∀l∈L,l.pl.ok n:=fun l hl=>h _ (Qaa hl)
variable{ks kv pl:Nat}{S s0:St}{H:List a8}{p:Pg}{ld:D}
theorem Hf (dL:∀st,Ev pv 107 [] st (.agg (aE bN)) st) {gs:List (Nat×Nat)} (hF:S.flr≤N) (hp:p.ok) (hR:a7 p) (ia:pl+4*gs.length≤3000000000000) (vw:gs.length≤1048576) (E1:L.length=p.ak.length) (aT:∀l∈L,l.pl.ok p.code.length) (hM:MH [] N S s0 ks kv p pl ld L H):
  ∃d ah,Ev pv 88 [.ptr kv 0 0,gf gs] s0 d ah∧d=.tup []∧∃CW L',L'.map VL.pl=(kV p.code (aM p) gs pl (L.map VL.pl)).2∧MH [] N S ah ks kv p (kV p.code (aM p) gs pl (L.map VL.pl)).1 CW L' H:=by
 obtain⟨pd,qd,P,Q,sn,hH,kX,eI⟩:=hM;have LW:Arg N S 2 (gf gs) (gs.map bF):=Arg.pure (fun st=>fe st gs);dsimp only[u4] at hH;refine Qac rfl WO rfl rfl rfl ?_;refine zE ?_;change ag _ _ _ _ s0 _;refine zQ 3 ?_;refine qn ?_;simp only[ε];refine zQ 3 ?_;refine ag.loop (fun mm fr st=>∃(i wu:Nat) (ld pd qd:D) (L':List VL) (P Q:List Nat) (sn:List Bool),fr.clean=⟨9,[.ptr kv 0 0,rP fr 1,rP fr 2,rP fr 3,rP fr 4,rP fr 5,gf gs,.int .i64 (gs.length:Nat),.int .i64 (i:Nat)],[]⟩∧Has N S st (.box kv (.mem 0 false [p.cd,p.sd,.int .i64 (wu:Nat),ld,.ptr ks 0 0])::.box ks (.mem 0 false [pd,qd])::.aC pd 1 (P.map iJ)::.aC qd 2 (Q.map qY)::.aC ld 12 (L'.map jl)::(L'.map wo++H))∧(i+mm=gs.length)∧(dM P Q sn)∧(sn.length=p.code.length)∧(kV p.code (aM p) (gs.drop i) wu (L'.map VL.pl)=kV p.code (aM p) gs pl (L.map VL.pl))∧(wu≤pl+4*i)∧(L'.length=p.ak.length)∧(∀l∈L',l.pl.ok p.code.length)) (gs.length) ?_ ?_
 ·exact⟨0,pl,ld,pd,qd,L,P,Q,sn,rfl,hH,by omega,kX,eI,rfl,by omega,E1,aT⟩
 rintro mm fr st ⟨i,wu,ld,pd,qd,L',P,Q,sn,hfr,hH,hi,kX,eI,oN,Vb,Wu,Dn⟩;rw[hfr];clear hfr;generalize rP fr=ee;clear fr;have UX:=hR.sl;refine zQ 5 ?_;refine zP (fun hlt=>?_) fun hlt=>?_
 ·refine zQ 1 ?_;have hil:i<gs.length:=by omega
  obtain⟨g,TV⟩:∃g,gs[i]?=some g:=⟨gs[i]'hil,ι _⟩
  have fU:(gs.map bF)[i]?=some (bF g):=by rw[GB,TV];rfl
  have PV:=sq ((g.2:Nat):Int)
  have tw:gs.drop i=g::gs.drop (i+1):=by
   rw[List.drop_eq_getElem_cons hil]
   congr 1
   exact Option.some.inj ((ι _).symm.trans TV)
  refine zQ 4 ?_;refine qr fun Ql IJ=>?_;refine Qar rfl z3 z5 rfl (aa rfl _) ?_;refine qa hH fun k5 st LS hH=>?_;refine qS hH aJ fun st hH=>?_;dsimp only[u2,u1,u3,u4,setMany,u5,u6,ψ,π,bF] at hH;refine zQ 7 ?_;obtain⟨_,st,aA,rfl,L1,R_,hM⟩:=MG (r:=((g.1:Nat):Int)) (n:=((g.2:Nat):Int)) dL hF hp hR z0 Wu Dn (MH.push [_] [] (H:=H) ⟨pd,qd,P,Q,sn,hH,kX,eI⟩);obtain⟨pd,qd,P,Q,sn,hH,kX,eI⟩:=MH.pull [_] [] (H:=H) hM;dsimp only[u3,u4] at hH;refine qv aA ?_;refine zQ 1 ?_
  have abc:L1.length=L'.length:=by
   have:=congrArg List.length R_;rw[ε,jU _ _ _ _ _ (by unfold aM;simp;omega),ε] at this;exact this
  have Wt:∀l∈L1,l.pl.ok p.code.length:=fun l hl=>rf hR (ue hR) _ (by rw[←R_];exact Qaa hl);refine zQ 4 ?_;exact⟨mm-1,by omega,⟨i+1,wu+k_ ((g.2:Nat):Int),_,pd,qd,L1,P,Q,sn,rfl,(hH.drop 1),by omega,kX,eI,(by rw[←oN,tw,R_];rfl),by omega,by omega,Wt⟩⟩
 ·refine zQ 1 ?_;refine⟨fun i h=>(by cases h),_,_,_,rfl,rfl,?_⟩;have tw:gs.drop i=[]:=by rw[List.drop_eq_nil_iff];omega
  rw[tw] at oN;have oN:(wu,L'.map VL.pl)=kV p.code (aM p) gs pl (L.map VL.pl):=oN;rw[←oN];exact⟨rfl,ld,L',rfl,pd,qd,P,Q,sn,hH,kX,eI⟩
theorem J_ (hb:Bytes st x b) (hlen:b.length≤1048576):Ev pv 61 [x] st (.bool (bH b)) st:=by
 refine AT rfl Xe rfl rfl rfl ?_;refine zE ?_;have hb:=hb.enter .ro;have hbl:=aw b;have hf:=(vJ b).1;refine zR ?_;refine zU ?_
 refine zW ?_
 refine Qag rfl rfl rfl (Mj hb hlen) ?_;refine zX ?_;refine zN ?_;generalize(dt b).1=k at*;generalize(dt b).2=n at*
 by_cases h1:0<k
 ·by_cases h2:k<n
  ·by_cases h3:k=b.length
   ·rw[hf.2 ⟨h1,h2,h3⟩];refine zU ?_;refine zY ?_;refine Qao rfl rfl rfl hb rfl ?_;rw[hbl];refine zY ?_;refine zN ?_;refine ag.ret ⟨rx,_,rfl,aP (by simp) (by simp[ae]) ?_⟩
    rfl
   ·have:bH b=false:=by
     cases h:bH b with
     |false=>rfl
     |true=>have:=hf.1 h;omega
    rw[this];refine zU ?_;refine zY ?_;refine Qao rfl rfl rfl hb rfl ?_;rw[hbl];refine zY ?_;refine zN ?_;refine ag.ret ⟨rx,_,rfl,aP (by simp) (by simp[ae]) ?_⟩
    rfl
  ·have:bH b=false:=by
    cases h:bH b with
    |false=>rfl
    |true=>have:=hf.1 h;omega
   rw[this];refine zV ?_;refine ag.ret ⟨rx,_,rfl,aP (by simp) (by simp[ae]) ?_⟩
   rfl
 ·have:bH b=false:=by
   cases h:bH b with
   |false=>rfl
   |true=>have:=hf.1 h;omega
  rw[this];refine zV ?_;refine ag.ret ⟨rx,_,rfl,aP (by simp) (by simp[ae]) ?_⟩
  rfl
theorem B3 {l:List UInt8} (h:bH l=true):l.length≤3:=by
 obtain⟨h1,h2,h3⟩:=(vJ l).1.1 h
 cases l with
 |nil=>simp
 |cons c xs=>
  have:=uX c.toNat;simp only[dt] at h2 h3
  split at h2
  ·simp at h2
  ·split at h2
   ·split at h2
    ·rw[←h3];rename_i a1 a2 a3;rw[if_neg a1,if_pos a2,if_pos a3];simp only;omega
    ·simp at h2
   ·simp at h2
theorem D6:∀(f:Nat) (l:List UInt8),l.length≤f→(fL f l).2.length≤3
 |0,l,h=>by
  simp[fL];have:l=[]:=List.length_eq_zero_iff.1 z0;subst this;simp
 |f+1,[],_=>by simp[fL]
 |f+1,c::l,h=>by
  simp only[fL]
  split
  ·rename_i hb;exact B3 hb
  ·have hp:=jc (c::l);exact D6 f _ (by rw[ν];simp only[ρ] at h⊢;omega)
theorem Ha:∀(f:Nat) (l:List UInt8),(fL f l).1.length≤f
 |0,l=>by simp[fL]
 |f+1,[]=>by simp[fL]
 |f+1,c::l=>by
  simp only[fL]
  split
  ·simp
  ·simp only[ρ];have:=Ha f ((c::l).drop (d_ (c::l)).2);omega
theorem Io:∀(f:Nat) (l j:List UInt8),(l++j).length=4→l.length≤f→((fL f l).2++jF f l j).length=4
 |0,l,j,h,hf=>by
  have:l=[]:=by cases l with|nil=>rfl|cons _ _=>simp at hf
  subst this;exact h
 |f+1,[],j,h,_=>by simpa[fL,jF] using h
 |f+1,c::l,j,h,hf=>by
  simp only[fL,jF]
  split
  ·exact h
  ·have hp:=jc (c::l);have hle:=tP (b:=c::l) (by simp);rw[ζ] at h;refine Io f _ _ ?_ ?_
   ·rw[ζ,ν,ν,ζ];omega
   ·rw[ν];simp only[ρ] at hf⊢;omega
/- the plain law: byte by byte is all at once -/
theorem ud:∀(f:Nat) (l:List UInt8),l.length≤f→(fL f l).2=[]∨bH (fL f l).2=true
 |0,l,h=>by
  have:l=[]:=by cases l with|nil=>rfl|cons _ _=>simp at h
  subst this;exact .inl rfl
 |f+1,[],_=>.inl rfl
 |f+1,c::l,h=>by
  simp only[fL]
  split
  ·rename_i hb;exact .inr hb
  ·have hp:=jc (c::l);exact ud f _ (by rw[ν];simp only[ρ] at h⊢;omega)
def SH (A:List a8) (N:Nat) (S st:St) (kS kd kv ks:Nat) (p:Pg) (pl:Nat) (ld:D) (L:List VL) (h:List UInt8) (H:List a8):Prop:=
 ∃pd qd P Q sn js,Has N S st (A++(.box kS (.mem 0 false [.ptr kd 0 0,.ptr kv 0 0])::.box kd (.mem 0 false (cY h js))::(gC ks kv p pl ld pd qd P Q L++H)))∧dM P Q sn∧sn.length=p.code.length∧(h++js).length=4
def sK (code:List aL) (ss:List Nat) (x:List UInt8×Nat×List PL) (c:UInt8):List UInt8×Nat×List PL:=
 ((fR x.1 c).2,kV code ss (fR x.1 c).1 x.2.1 x.2.2)
def dD (code:List aL) (ss:List Nat) (b:List UInt8) (x:List UInt8×Nat×List PL):List UInt8×Nat×List PL:=b.foldl (sK code ss) x
theorem DL:(fR h c).2.length≤3:=D6 _ _ (by simp)
theorem vX:(fR h c).1.length≤h.length+1:=by
 unfold fR;exact Ha _ _
theorem KG (hH:Has N S s0 H):∃kd ah,Ev pv 49 [] s0 (.ptr kd 0 0) ah∧Has N S ah (.box kd (.mem 0 false (cY [] [0,0,0,0]))::H):=
 ⟨_,_,CJ s0,hH.pt _⟩
variable{i kd:Nat}
theorem JP (hH:Has N S s0 H) (hi:H[i]?=some (.box kd (.mem 0 false (cY h js)))) (hl:(h++js).length=4) (h3:h.length≤3):
  ∃ah YO,Ev pv 89 [.ptr kd 0 0,.int .u8 (c.toNat:Nat)] s0 (gf (fR h c).1) ah∧((fR h c).2++YO).length=4∧Has N S ah (H.set i (.box kd (.mem 0 false (cY (fR h c).2 YO)))):=by
 obtain⟨j0,js,rfl⟩:∃a b,js=a::b:=by
  cases js with
  |nil=>simp at hl;omega
  |cons a b=>exact⟨a,b,rfl⟩
 have hge:=hH.ge hi;refine⟨_,_,Mz (hH.at hi) hl (by rw[hH.ex.ro];exact IT hH.db hge.1),?_,hH.rj (aB:=0) hi⟩;unfold fR;exact Io _ _ _ (by simp at hl⊢;omega) (by simp)
theorem KV (dL:∀st,Ev pv 107 [] st (.agg (aE bN)) st) (hF:S.flr≤N) (hp:p.ok) (hR:a7 p) (hH:Has N S s0 H):
  ∃r ah,Ev pv 15 [p.d] s0 r ah∧∃kS kd kv ks q ld L,r=.tup [.ptr kS 0 0,.int .i64 0]∧wh p q∧L.map VL.pl=(aM p).map je∧SH [] N S ah kS kd kv ks q 0 ld L [] H:=by
 have Vx:∀{st H},Has N S st H→∃r ah,Ev pv 48 [p.d] st r ah∧∃kv ks q ld L,r=.tup [.ptr kv 0 0,.int .i64 0]∧wh p q∧L.map VL.pl=(aM p).map je∧MH [] N S ah ks kv q 0 ld L H:=fun{st H} h=>KF dL hF hp hR h;unfold Pg.d at*;refine Qac rfl XV rfl rfl rfl ?_;refine zE ?_;change ag _ _ _ _ s0 _;refine zQ 2 ?_;refine qb hH fun k1 st oO hH=>?_;have hH:=zjua hH;refine zQ 5 ?_;refine Ω (m:=2) hH rfl z3 (by exact aJ) (by dsimp only[δ,θ,γ,η,Pg.cs]<;>rfl) rfl rfl (aa rfl _) ?_;obtain⟨_,st,aA,kv,ks,q,ld,L,rfl,hq,hL,hM⟩:=Vx hH;refine qv aA ?_;refine zQ 12 ?_;refine ag.cond (v:=false) (by dsimp only[Fr.ev,Fr.get,nth,Qap];rfl) (fun h=>by cases h) (fun _=>?_);refine zQ 1 ?_;obtain⟨pd,qd,P,Q,sn,hH,aT,eI⟩:=A8 hM;dsimp only[u4] at hH;refine zQ 2 ?_;obtain⟨kd,st,aA,hH⟩:=KG hH;refine qv aA ?_;refine qm ?_;refine ab.hU (qs:=[(0,_),(1,_)]) rfl rfl rfl rfl ⟨rfl,z3,(by rfl),rfl,z3,(by rfl),trivial⟩ (by intro q hq;simp only[Qa4,AI,or_false] at hq;rcases hq with rfl|rfl<;>exact⟨rfl,by exact Ξ rfl⟩) (by show ξ _ [_,_] _=_;dsimp only[List.foldl_cons,List.foldl_nil,u2,u1]<;>rfl) (aa rfl _) ?_;refine qb hH fun k17 st OK hH=>?_;refine zQ 3 ?_;refine ag.ret ⟨rx,_,_,_,rfl,rfl,?_⟩;refine⟨k17,kd,kv,ks,q,ld,L,rfl,hq,hL,pd,qd,P,Q,sn,[0,0,0,0],?_,aT,eI,rfl⟩;have hH:=Has.ki (_::_::gC ks kv q 0 ld pd qd P Q L) [_] (H:=H) hH;exact hH.drop 1
variable{kS:Nat}
theorem Hu (dL:∀st,Ev pv 107 [] st (.agg (aE bN)) st) (hF:S.flr≤N) (hp:p.ok) (hR:a7 p) (ia:pl≤2000000000000) (h3:h.length≤3) (E1:L.length=p.ak.length) (Dn:∀l∈L,l.pl.ok p.code.length) (hM:SH [] N S s0 kS kd kv ks p pl ld L h H):
  ∃d ah,Ev pv 50 [.ptr kS 0 0,.int .u8 (c.toNat:Nat)] s0 d ah∧d=.tup []∧∃CW L',L'.map VL.pl=(kV p.code (aM p) (fR h c).1 pl (L.map VL.pl)).2∧SH [] N S ah kS kd kv ks p (kV p.code (aM p) (fR h c).1 pl (L.map VL.pl)).1 CW L' (fR h c).2 H:=by
 obtain⟨pd,qd,P,Q,sn,js,hH,aT,eI,hl⟩:=hM;have mA:=vX (h:=h) (c:=c);dsimp only[u4] at hH;have OG:=(hH.ge bt).2;have VF:=hH.vd (j:=2) (k:=kv) rfl rfl;refine Qac rfl Xp rfl rfl rfl ?_;refine zE ?_;change ag _ _ _ _ s0 _;have zg:=hH;change ag _ _ _ _ _ _;generalize hK:bS _ _ _ _=K;refine ag.yx rfl ?_;refine dg.cons ?_;refine qm ?_;refine κ ⟨rfl,?_⟩;refine dg.cons ?_;refine qg ?_;refine κ ⟨rfl,?_⟩;refine dg.cons ?_;refine qp (o:=1) ?_;refine κ ⟨rfl,?_⟩;refine dg.cons ?_;refine ql hH aJ ?_;refine κ ⟨rfl,?_⟩;refine dg.cons ?_;refine qm ?_;refine κ ⟨rfl,?_⟩;refine dg.cons ?_;refine qg ?_;refine κ ⟨rfl,?_⟩;refine dg.cons ?_;refine qp (o:=0) ?_;refine κ ⟨rfl,?_⟩;refine dg.cons ?_;refine ql hH aJ ?_;refine κ ⟨rfl,?_⟩;refine dg.cons ?_;refine qm ?_;refine κ ⟨rfl,?_⟩;refine dg.cons ?_;obtain⟨st,js,aA,hl,hH⟩:=JP (c:=c) hH bt hl h3;dsimp only[u1,u2] at hH;refine qv aA ?_;refine κ ⟨by exact Qa9.2 ⟨jT rfl rfl rfl (zg.at aJ) (hH.at aJ) (zg.at aJ) (by simp only[refs,D.ref];omega),rfl⟩,?_⟩;refine dg.cons ?_;obtain⟨_,st,aA,rfl,CW,L',hL',hM⟩:=Hf (gs:=(fR h c).1) dL hF hp hR z0 z0 E1 Dn (MH.push [_,_] [] (H:=H) (Ey hH aT eI));refine qv aA ?_;refine κ ⟨rfl,?_⟩;refine dg.nil ?_;subst hK;refine⟨fun i h=>(by cases h),_,_,_,rfl,rfl,?_⟩;obtain⟨pd,qd,P,Q,sn,hH,aT,eI⟩:=A8 (MH.pull [_,_] [] (H:=H) hM);exact⟨rfl,CW,L',hL',pd,qd,P,Q,sn,js,hH,aT,eI,hl⟩
def rO (fr:Go.V.Fr) (k:Nat):Go.V.D:=Go.V.nth .bo fr.loc k
theorem GA (h:b[i]?=some c):(μ b)[i]?=some [.int .u8 (c.toNat:Nat)]:=by unfold μ;rw[GB,h];rfl
theorem sx (b:List UInt8):fg (cA b) 1 (μ b):=fg.frozen (lg b) (cS b)
theorem Cq (code:List aL) (ss:List Nat) (b:List UInt8) (c:UInt8) (x:List UInt8×Nat×List PL):dD code ss (b++[c]) x=sK code ss (dD code ss b x) c:=by unfold dD;rw[List.foldl_append];rfl
theorem Cr (code:List aL) (ss:List Nat) (b:List UInt8) (x:List UInt8×Nat×List PL):dD (code.map e_) ss b x=dD code ss b x:=by
 have:sK (code.map e_) ss=sK code ss:=by funext x c;unfold sK;rw[wZ]
 unfold dD;rw[this]
theorem ur {p:Pg} (hR:a7 p):∀(b:List UInt8) (x:List UInt8×Nat×List PL),x.1.length≤3→x.2.2.length=p.ak.length→(∀l∈x.2.2,l.ok p.code.length)→(dD p.code (aM p) b x).1.length≤3∧(dD p.code (aM p) b x).2.1≤x.2.1+16*b.length∧(dD p.code (aM p) b x).2.2.length=p.ak.length∧∀l∈(dD p.code (aM p) b x).2.2,l.ok p.code.length
 |[],x,h1,h2,h3=>⟨h1,ο _,h2,h3⟩
 |c::b,x,h1,h2,h3=>by
  obtain⟨g1,g2⟩:=Eh hR (fR x.1 c).1 x.2.1 x.2.2 h2 h3;have g3:=Eg p.code (aM p) (fR x.1 c).1 x.2.1 x.2.2;have g4:=vX (h:=x.1) (c:=c);obtain⟨q1,q2,q3,q4⟩:=ur hR b (sK p.code (aM p) x c) DL g1 g2;have q2:(dD p.code (aM p) (c::b) x).2.1≤(kV p.code (aM p) (fR x.1 c).1 x.2.1 x.2.2).1+16*b.length:=q2;exact⟨q1,by simp only[ρ];omega,q3,q4⟩
theorem Ht (dL:∀st,Ev pv 107 [] st (.agg (aE bN)) st) (hF:S.flr≤N) (hp:p.ok) (hR:a7 p) (hx:Arg N S 1 x (μ b)) (hbl:b.length≤1048576) (ia:pl+16*b.length≤2000000000000) (h3:h.length≤3) (E1:L.length=p.ak.length) (Dn:∀l∈L,l.pl.ok p.code.length) (hM:SH [] N S s0 kS kd kv ks p pl ld L h H):
  ∃d ah,Ev pv 16 [.ptr kS 0 0,x] s0 d ah∧d=.tup []∧∃CW L',L'.map VL.pl=(dD p.code (aM p) b (h,pl,L.map VL.pl)).2.2∧SH [] N S ah kS kd kv ks p (dD p.code (aM p) b (h,pl,L.map VL.pl)).2.1 CW L' (dD p.code (aM p) b (h,pl,L.map VL.pl)).1 H:=by
 obtain⟨pd,qd,P,Q,sn,js,hH,aT,eI,hl⟩:=hM;dsimp only[u4] at hH;have tS:=aw b;have Vy:∀l∈L.map VL.pl,l.ok p.code.length:=fun l hl=>by obtain⟨y,hy,rfl⟩:=υ.1 hl;exact Dn y hy
 have Db:(L.map VL.pl).length=p.ak.length:=by rw[ε];exact E1
 have UT:=fun(i:Nat)=>ur hR (b.take i) (h,pl,L.map VL.pl) h3 Db Vy;have US:dD p.code (aM p) (b.take 0) (h,pl,L.map VL.pl)=(h,pl,L.map VL.pl):=rfl;refine Qac rfl XU rfl rfl rfl ?_;refine zE ?_;change ag _ _ _ _ s0 _;refine zQ 3 ?_;refine qn ?_;refine zQ 2 ?_;rw[tS];refine zQ 1 ?_;refine ag.loop (fun mm fr st=>∃(i:Nat) (wu:Nat) (h':List UInt8) (ld pd qd:D) (L':List VL) (P Q:List Nat) (sn:List Bool) (js:List UInt8),fr.clean=⟨9,[.ptr kS 0 0,rO fr 1,rO fr 2,rO fr 3,rO fr 4,rO fr 5,x,.int .i64 (b.length:Nat),.int .i64 (i:Nat)],[]⟩∧Has N S st (.box kS (.mem 0 false [.ptr kd 0 0,.ptr kv 0 0])::.box kd (.mem 0 false (cY h' js))::(gC ks kv p wu ld pd qd P Q L'++H))∧(i+mm=b.length)∧(dM P Q sn)∧(sn.length=p.code.length)∧((h'++js).length=4)∧(dD p.code (aM p) (b.take i) (h,pl,L.map VL.pl)=(h',wu,L'.map VL.pl))) (b.length) ?_ ?_
 ·exact⟨0,pl,h,ld,pd,qd,L,P,Q,sn,js,rfl,hH,by omega,aT,eI,hl,US⟩
 rintro mm fr st ⟨i,wu,h',ld,pd,qd,L',P,Q,sn,js,hfr,hH,hi,aT,eI,hl,hX⟩;rw[hfr];clear hfr;generalize rO fr=ee;clear fr;obtain⟨g1,g2,g3,g4⟩:=UT i;rw[hX] at g1 g2 g3 g4;simp only at g1 g2 g3 g4;have Ww:L'.length=p.ak.length:=by rw[←g3,ε]
 refine zQ 5 ?_;refine zP (fun hlt=>?_) fun hlt=>?_
 ·refine zQ 1 ?_;have hil:i<b.length:=by omega
  obtain⟨c,jy⟩:∃c,b[i]?=some c:=⟨b[i]'hil,ι _⟩
  have fU:=GA jy;have QN:b.take (i+1)=b.take i++[c]:=by rw[List.take_add_one,jy];rfl
  have hti:(b.take i).length=i:=by rw[List.length_take];omega
  refine zQ 4 ?_;refine qr fun Ql IJ=>?_;refine zQ 6 ?_;obtain⟨_,st,aA,rfl,CW,L1,R_,hM⟩:=Hu (c:=c) dL hF hp hR z0 g1 Ww (rD g4) ⟨pd,qd,P,Q,sn,js,hH,aT,eI,hl⟩;obtain⟨pd,qd,P,Q,sn,js,hH,aT,eI,hl⟩:=hM;dsimp only[u4] at hH;refine qv aA ?_;refine zQ 5 ?_;exact⟨mm-1,by omega,⟨i+1,_,_,CW,pd,qd,L1,P,Q,sn,js,rfl,hH,by omega,aT,eI,hl,(by rw[QN,Cq,hX,R_];rfl)⟩⟩
 ·refine zQ 1 ?_;refine⟨fun i h=>(by cases h),_,_,_,rfl,rfl,?_⟩;have QN:b.take i=b:=φ z0;rw[QN] at hX;rw[hX];exact⟨rfl,ld,L',rfl,pd,qd,P,Q,sn,js,hH,aT,eI,hl⟩
def Km (x:D) (pl:Nat) (L:List PL):D:=.agg [x,.int .i64 (pl:Nat),yX L]
structure AS (st:St) (kS kd kv ks:Nat) (p:Pg) (pl:Nat) (ld:D) (L:List VL) (h js:List UInt8):Prop where
 s:st.bs[kS]?=some (.mem 0 false [.ptr kd 0 0,.ptr kv 0 0])
 sl:kS<st.bs.length
 d:st.bs[kd]?=some (.mem 0 false (cY h js))
 dl:kd<st.bs.length
 hl:(h++js).length=4
 m:AM st.bs.length st kv ks p pl ld L
 ro:st.ro≤st.bs.length
theorem SH.as (hM:SH [] N S s0 kS kd kv ks p pl ld L h H):∃js,AS s0 kS kd kv ks p pl ld L h js:=by
 obtain⟨pd,qd,P,Q,sn,js,hH,aT,eI,hl⟩:=hM;dsimp only[u4] at hH;have hM:MH [] N S s0 ks kv p pl ld L ([_,_]++H):=MH.push [_,_] [] (H:=H) (Ey hH aT eI);exact⟨js,hH.at aJ,(hH.ge aJ).2,hH.at bt,(hH.ge bt).2,hl,hM.am,hM.ro⟩
theorem AM.bs {S2:St} (h:AM N S kv ks p pl ld L) (hS:S2.bs=S.bs):AM N S2 kv ks p pl ld L:=
 ⟨h.lt,by rw[hS];exact h.le,by rw[hS];exact h.at_,⟨h.ld.1.bs hS,h.ld.2⟩,fun l hl=>⟨(h.td l hl).1.bs hS,(h.td l hl).2⟩,h.ksl⟩
theorem AM.lift (h:AM N S kv ks p pl ld L) (hH:Has N S st H):AM st.bs.length st kv ks p pl ld L:=by
 have h1:=h.le;have h2:=hH.ex.len;have h3:=h.lt;have h4:=h.ksl;exact⟨by omega,ο _,h.box hH,⟨h.ld.rows hH,by have:=h.ld.2;omega⟩,fun l hl=>⟨(h.td l hl).rows hH,by have:=(h.td l hl).2;omega⟩,by omega⟩
theorem Ik {cs:List D} (hH:Has N S st H) (hk:k<N) (h:S.bs[k]?=some (.mem 0 false cs)) (o:Nat):lj st (.ptr k 0 o) (cs.drop o):=
 .inl ⟨k,0,o,false,_,rfl,St.mem_of (by rw[hH.ex.low k hk];exact h),List.take_length ..⟩
theorem back_eq (hH:Has s0.bs.length S st H) (aR:S.bs=s0.bs):(⟨st.bs.take s0.bs.length,s0.flr,s0.ro⟩:St)=s0:=by
 have Wi:st.bs.take s0.bs.length=s0.bs:=by
  refine List.ext_getElem? fun j=>?_;rw[Qad]
  by_cases hj:j<s0.bs.length
  ·rw[if_pos hj,hH.ex.low j hj,aR]
  ·rw[if_neg hj,OF z0]
 rw[Wi]
theorem Qe (h:∀l∈L,l.pl.ok n):∀l∈L,l.bn.length≤1000:=fun l hl=>(h l hl).2
theorem Hr (hp:p.ok) (E1:L.length≤1000) (aT:∀l∈L,l.bn.length≤1000) (hA:AS s0 kS kd kv ks p pl ld L h js):
  ∃d ah,Ev pv 17 [.ptr kS 0 0] s0 d ah∧d=Km (cA h) pl (L.map VL.pl)∧ah=s0:=by
 have db:=hA.ro;refine Qac rfl XT rfl rfl rfl ?_;refine zE ?_;have aR:(ae .rw s0).bs=s0.bs:=rfl;have hF:(ae .rw s0).flr≤s0.bs.length:=ο _;have hH:Has s0.bs.length (ae .rw s0) (ae .rw s0) []:=Has.start (ο _) db;generalize ae .rw s0=S2 at*;have hm:=hA.m.bs aR;have bA:S2.bs[kS]?=some (.mem 0 false [.ptr kd 0 0,.ptr kv 0 0]):=by rw[aR];exact hA.s
 have hD2:S2.bs[kd]?=some (.mem 0 false (cY h js)):=by rw[aR];exact hA.d
 refine qq<|qj fun K hK=>qa hH fun k2 st hk2 hH=>?_;refine qe hK ?_;have Y7:=Ik hH hA.sl bA 0;have ER:=Ik hH hA.sl bA 1;have N':st.ro≤st.bs.length:=by rw[hH.ex.ro];exact IT hH.db (IT hH.hN hH.ex.len)
 obtain⟨_,st1,RP,rfl,QS⟩:=B8 hp E1 aT (hm.lift hH) N';rw[QS] at RP;clear QS st1;have OS:=L5 (st:=st) (k:=kd) (v:=0) (h:=h) (j:=js) (by rw[hH.ex.low kd hA.dl];exact hD2) hA.hl N';have Zq:st.bs[kS]?=some (.mem 0 false [.ptr kd 0 0,.ptr kv 0 0]):=by rw[hH.ex.low kS hA.sl];exact bA
 change ag _ _ _ _ _ _;refine qq ?_;generalize hK:bS _ _ _ _=K;refine ag.yx rfl ?_;refine dg.cons ?_;refine qm ?_;refine κ ⟨rfl,?_⟩;refine dg.cons ?_;refine qg ?_;refine κ ⟨rfl,?_⟩;refine dg.cons ?_;refine qp (o:=0) ?_;refine κ ⟨rfl,?_⟩;refine dg.cons ?_;refine qR ?_;refine κ ⟨rfl,?_⟩;refine dg.cons ?_;refine ab.iN rfl rfl OS (aa rfl _) ?_;refine κ ⟨rfl,?_⟩;refine dg.cons ?_;refine qm ?_;refine κ ⟨rfl,?_⟩;refine dg.cons ?_;refine qg ?_;refine κ ⟨rfl,?_⟩;refine dg.cons ?_;refine qp (o:=1) ?_;refine κ ⟨rfl,?_⟩;refine dg.cons ?_;refine qR ?_;refine κ ⟨by exact Qa9.2 ⟨Pj rfl rfl Zq Zq,rfl⟩,?_⟩;refine dg.cons ?_;refine ab.iN rfl rfl RP (aa rfl _) ?_;refine κ ⟨rfl,?_⟩;refine dg.cons ?_;refine ab.go (d:=Km (cA h) pl (L.map VL.pl)) (st1:=_) rfl rfl rfl (aa rfl _) ?_;refine κ ⟨rfl,?_⟩;refine dg.cons ?_;refine qS hH aJ fun st hH=>?_;dsimp only[u2,u1,u3,u4,setMany,u5,u6,ψ,π] at hH;refine κ ⟨rfl,?_⟩;refine dg.nil ?_;subst hK;refine ag.ret ⟨rx,_,_,_,hH.i_ rfl aJ rfl,ai (show ba st s0.bs.length false 16 (Km (cA h) pl (L.map VL.pl))=some (Km (cA h) pl (L.map VL.pl)) from rfl),rfl,back_eq hH aR⟩
section
variable{A:List a8} {N kS kd kv ks:Nat} {S s0:St} {p:Pg} {pl:Nat} {ld:D} {L:List VL} {h:List UInt8} {H:List a8}
theorem SH.pull (A:List a8) (hM:SH [] N S s0 kS kd kv ks p pl ld L h (A++H)):SH A N S s0 kS kd kv ks p pl ld L h H:=by
 obtain⟨pd,qd,P,Q,sn,js,hH,h1,h2,h3⟩:=hM;refine⟨pd,qd,P,Q,sn,js,?_,h1,h2,h3⟩;have:=Has.ki (_::_::gC ks kv p pl ld pd qd P Q L) A (H:=H) (by simpa only[Γ,BY,ς] using hH)
 simpa only[BY,ς] using this
theorem SH.push (hM:SH A N S s0 kS kd kv ks p pl ld L h H):SH [] N S s0 kS kd kv ks p pl ld L h (A++H):=by
 obtain⟨pd,qd,P,Q,sn,js,hH,h1,h2,h3⟩:=hM;refine⟨pd,qd,P,Q,sn,js,?_,h1,h2,h3⟩;have:=Has.ki A (_::_::gC ks kv p pl ld pd qd P Q L) (H:=H) (by simpa only[BY,ς] using hH)
 simpa only[Γ,BY,ς] using this
theorem SH.has (hM:SH A N S s0 kS kd kv ks p pl ld L h H):Has N S s0 A:=by
 obtain⟨pd,qd,P,Q,sn,js,hH,h1,h2,h3⟩:=hM;have:=hH.take A.length
 rwa [v8] at this
end
theorem Ar (code:List aL) (ss:List Nat) (x:List UInt8×Nat×List PL) (c:UInt8):bH (sK code ss x c).1=true∨(sK code ss x c).1=[]:=(ud _ _ (by simp)).symm
end Go.Proofs.YtkbacjpologjbaaGreat
namespace Go.Proofs.YtkbacjpologjbaaGreat
open Go.V Go
def iw (fr:Go.V.Fr) (k:Nat):Go.V.D:=Go.V.nth .bo fr.loc k
variable{q:Prop}
theorem zt (h:dec q=true):q:=@of_decide_eq_true _ (Classical.propDecidable _) h
variable{p:Pg}
theorem vG (hR:a7 p) {s:Int} (hs:0≤s∧s<(p.code.length:Int)) {m:Nat} {n:Int} (h:kL p s m n):0≤n∧n<(p.code.length:Int):=by
 rcases h with rfl|⟨i,q,h1,rfl,h3,h4,h5⟩
 ·exact hs
 ·have h6:=hR.sh i q h4;unfold cE at h6;rw[if_pos h5] at h6;simp only[τ,decide_eq_true_eq] at h6;exact⟨by omega,h6.2.1.1⟩
def wg (bn:List GT) (j:Nat) (seen:List Bool):Prop:=∀(k:Nat) b,seen[k]?=some b→(b=true↔∃j' t,j'<j∧bn[j']?=some t∧t.pc=(k:Int))
theorem wg.nil (bn:List GT) (n:Nat):wg bn 0 (Qah n false):=by
 intro k b h;rw[List.getElem?_replicate] at h
 split at h
 ·cases h;simp
 ·cases h
variable{t:GT}
theorem wg.set {bn:List GT} {j k:Nat} {seen:List Bool} (h:wg bn j seen) (ht:bn[j]?=some t) (hk:t.pc=(k:Int)):wg bn (j+1) (seen.set k true):=by
 intro k' b hb;rw[List.getElem?_set] at hb
 by_cases he:k=k'
 ·subst he;rw[if_pos rfl] at hb
  split at hb
  ·cases hb;exact⟨fun _=>⟨j,t,by omega,ht,hk⟩,fun _=>rfl⟩
  ·cases hb
 ·rw[if_neg he] at hb;rw[h k' b hb];constructor
  ·rintro⟨j',t',h1,h2,h3⟩;exact⟨j',t',by omega,h2,h3⟩
  ·rintro⟨j',t',h1,h2,h3⟩
   by_cases hj:j'=j
   ·subst hj;rw[ht] at h2;cases h2;omega
   ·exact⟨j',t',by omega,h2,h3⟩
variable{s0:St}{x:D}{L:List GV}
theorem HD (dL:∀st,Ev pv 95 [] st (.agg (aE bN)) st) (hp:p.ok) (hx:GI s0 x L) (place:Int):
  Ev pv 60 [p.d,.agg [.int .i64 place,x]] s0 (.bool (dec (dz p place L))) s0:=by
 obtain⟨hx,E1,It⟩:=hx;have jS:=hp.sl;have I':=hp.cl;refine AT rfl Xf rfl rfl rfl ?_;refine zE ?_;obtain⟨aR,hF,hH⟩:=ri s0;generalize ae .ro s0=S at*;have hc:=hp.c.arg s0.bs.length S;have hs:=hp.s.arg s0.bs.length S;have hla:=Arg.of hx aR;have hcr:=fun st=>po (s0:=st) hp
 have U6:=fun(hR:a7 p) {r:Nat} {s:Int} (hr:p.ak[r]?=some s) (st:St)=>(show l6 p (r:Nat)=br p.code s by
      unfold l6
      rw[if_pos (ek.2 ⟨by omega,by have:=bc hr;omega⟩),Int.toNat_natCast,List.getD_eq_getElem?_getD,hr];rfl)▸sP (s0:=st) (p:=p) (lY:=(r:Nat)) hp hR.closed hR.st
 unfold Pg.d at*;refine zQ 2 ?_;refine qb hH fun k2 st hk2 hH=>?_;have hH:=zjub hH;refine qb hH fun k3 st tt hH=>?_;refine zQ 4 ?_;refine ag.da 32 (.bool (((!dec (a7 p)||decide (place<0))||decide (place>1099511627776))||(((L.length:Nat):Int) !=((p.ak.length:Nat):Int)))) [] ?_ (fun ff tmp cI=>?_)
 ·refine Ω (m:=2) hH rfl z3 (by exact bt) (by dsimp only[δ,θ,γ,η,aK,aV,aE,ax,Pg.cs,fI,gW,bV]<;>rfl) rfl rfl (aa rfl _) ?_;refine qv ((hcr _)) ?_;refine zQ 2 ?_;refine Qa6 14 rfl (fun bB=>?_) (fun bB=>?_)
  ·refine zQ 18 ?_;refine κ (aO ?_ ?_)
   ·dsimp only[aI,ξ,nth,u2,u1]
    all_goals(first|rfl|simp)
   ·refine zF ?_
    all_goals(simp[bB];done)
  ·refine zQ 5 ?_;refine Qa6 19 rfl (fun gv=>?_) (fun gv=>?_)
   ·refine zQ 13 ?_;refine κ (aO ?_ ?_)
    ·dsimp only[aI,ξ,nth,u2,u1]
     all_goals(first|rfl|simp)
    ·refine zF ?_
     all_goals(simp[bB,gv];done)
   ·refine zQ 5 ?_;refine Qa6 24 rfl (fun e6=>?_) (fun e6=>?_)
    ·refine zQ 8 ?_;refine κ (aO ?_ ?_)
     ·dsimp only[aI,ξ,nth,u2,u1]
      all_goals(first|rfl|simp)
     ·refine zF ?_
      all_goals(simp[bB,gv,e6];done)
    ·refine zQ 2 ?_;refine qn ?_ (hg:=wi e6);simp only[ε];refine zQ 2 ?_;refine qn ?_ (hg:=wi e6);simp only[ε];refine zQ 2 ?_;refine κ (aO ?_ ?_)
     ·dsimp only[aI,ξ,nth,u2,u1]
      all_goals(first|rfl|simp)
     ·refine zF ?_
      all_goals(simp[bB,gv,e6];done)
 dsimp only[aI,ξ,nth,u2,u1];refine qc (fun h0=>?_) (fun h0=>?_)<;>try simp only[cs] at h0
 ·rw[cL (q:=dz p place L) (fun h=>by
   rw[bY h.right] at h0;have h1:=h.ge;have h2:=h.le;have h3:=h.len
   simp at h0;omega)]
  refine zQ 4 ?_;refine ag.ret ⟨rx,_,rfl,rl aR hH (rfl)⟩
 ·refine zQ 1 ?_
  have h0:a7 p∧0≤place∧place≤1099511627776∧L.length=p.ak.length:=by
   simp only[Φ,decide_eq_false_iff_not,wt] at h0;obtain⟨⟨⟨h1,h2⟩,h3⟩,h4⟩:=h0;refine⟨zt h1,by omega,by omega,?_⟩;simp at h4;omega
  obtain⟨hR,hge,hle,Ws⟩:=h0;refine zQ 6 ?_;refine ag.loop (fun mm fr st=>∃(r:Nat),fr.clean=⟨11,[iw fr 0,iw fr 1,.ptr k2 0 0,.ptr k3 0 0,iw fr 4,.int .i64 (r:Nat),iw fr 6,iw fr 7,iw fr 8,iw fr 9,iw fr 10],[]⟩∧Has s0.bs.length S st [.box k3 (.mem 0 false [.int .i64 place,x]),.box k2 (.mem 0 false [p.cd,p.sd])]∧(r+mm=L.length)∧(ye p place L r)) (L.length) ?_ ?_
  ·exact⟨0,rfl,hH,by omega,by intro r l s h;omega⟩
  rintro mm fr st ⟨r,hfr,hH,hi,hw⟩;rw[hfr];clear hfr;generalize iw fr=ee;clear fr;refine zQ 6 ?_;refine qn ?_;simp only[ε];refine zQ 2 ?_;refine zP (fun h1=>?_) fun h1=>?_
  ·refine zQ 1 ?_
   obtain⟨l,hl⟩:∃l,L[r]?=some l:=⟨L[r]' z0,ι _⟩
   obtain⟨s,lL⟩:∃s,p.ak[r]?=some s:=⟨p.ak[r]' z0,ι _⟩
   obtain⟨zK,mA⟩:=It l (Pe hl);have MY:=Arg.of zK aR;have fU:=zi hl;have mB:=ej lL;have iA:=hR.st s (Pe lL);refine zQ 7 ?_;refine qr fun Up Om=>?_;refine Qar rfl z3 z5 rfl (aa rfl _) ?_;refine qa hH fun k6 st De hH=>?_;refine qS hH aJ fun st hH=>?_;have hH:=zjub hH;refine zQ 3 ?_;refine ag.da 61 (.bool (!dec (bL l.aY place)||(!l.dn &&!dec (oy l.aY)))) [] ?_ (fun ff tmp cI=>?_)
   ·refine zQ 1 ?_;refine Ω (m:=10) hH rfl z3 (by exact aJ) (by dsimp only[δ,θ,γ,η,aK,aV,aE,ax,Pg.cs,fI,gW,bV]<;>rfl) rfl rfl (aa rfl _) ?_;refine zQ 2 ?_;refine qv (uD l.aY place) ?_;refine zQ 2 ?_;refine Qa6 51 rfl (fun kG=>?_) (fun kG=>?_)
    ·refine zQ 10 ?_;refine κ (aO ?_ ?_)
     ·dsimp only[aI,ξ,nth,u2,u1]
      all_goals(first|rfl|simp)
     ·refine zF ?_
      all_goals(simp[kG];done)
    ·refine zQ 4 ?_;refine Qa6 55 rfl (fun dA=>?_) (fun dA=>?_)
     ·refine zQ 1 ?_;refine Ω (m:=10) hH (aj rfl rfl rfl dA) z3 (by exact aJ) (by dsimp only[δ,θ,γ,η,aK,aV,aE,ax,Pg.cs,fI,gW,bV]<;>rfl) rfl rfl (aa rfl _) ?_;refine qv (dL _) ?_ (hg:=wi dA);refine ab.PE (aj rfl rfl rfl dA) z3 z3 (A4 l.aY) (aa rfl _) ?_;refine Qam (aj rfl rfl rfl kG) rfl dA (aa rfl _) ?_;refine zQ 1 ?_;refine κ (aO ?_ ?_)
      ·dsimp only[aI,ξ,nth,u2,u1]
       all_goals(first|rfl|simp)
      ·refine zF ?_
       all_goals(simp[kG,dA];done)
     ·refine zQ 4 ?_;refine Qan (aj rfl rfl rfl kG) rfl dA (aa rfl _) ?_;refine zQ 1 ?_;refine κ (aO ?_ ?_)
      ·dsimp only[aI,ξ,nth,u2,u1]
       all_goals(first|rfl|simp)
      ·refine zF ?_
       all_goals(simp[kG,dA];done)
   refine zG ?_;refine qc (fun h2=>?_) (fun h2=>?_)<;>try simp only[cs] at h2
   ·rw[cL (q:=dz p place L) (fun h=>by
     obtain⟨h3,h4,h5⟩:=h.each r l s z0 hl lL;rw[bY h4] at h2
     rcases h3 with h3|h3
     ·simp[h3] at h2
     ·simp[bY h3] at h2)]
    refine zQ 4 ?_;refine ag.ret ⟨rx,_,rfl,rl aR hH (rfl)⟩
   ·refine zQ 1 ?_
    have h2:bL l.aY place∧(l.dn=true∨oy l.aY):=by
     simp only[Φ,Bool.and_eq_false_iff,wt] at h2;obtain⟨h3,h4⟩:=h2;refine⟨zt h3,?_⟩
     rcases h4 with h4|h4
     ·exact .inl h4
     ·exact .inr (zt h4)
    have wv:=l5 p.code s;have LB:=(oj (br p.code s)).arg s0.bs.length S;refine zQ 2 ?_;refine Ω (m:=2) hH rfl z3 (by exact cU) (by dsimp only[δ,θ,γ,η,aK,aV,aE,ax,Pg.cs,fI,gW,bV]<;>rfl) rfl rfl (aa rfl _) ?_;refine qm ?_;refine qv ((U6 hR lL _)) ?_;refine zQ 6 ?_;refine qn ?_;simp only[ε];refine ab.xD (s:=1) hH rfl rfl rfl rfl rfl rfl rfl rfl (Ξ rfl) z0 (fun _=>(aa rfl _)) (fun k68 st aaY hH=>?_);refine zQ 7 ?_;refine ag.loop (fun mm fr st=>∃(j:Nat) (y:D) (seen:List Bool),fr.clean=⟨11,[iw fr 0,iw fr 1,.ptr k2 0 0,.ptr k3 0 0,iw fr 4,.int .i64 (r:Nat),.ptr k6 0 0,oW (br p.code s),y,.int .i64 (j:Nat),iw fr 10],[]⟩∧Has s0.bs.length S st [.aC y 1 (seen.map bV),.box k6 (.mem 0 false (aV l.dn l.aY l.td)),.box k3 (.mem 0 false [.int .i64 place,x]),.box k2 (.mem 0 false [p.cd,p.sd])]∧(j+mm=l.bn.length)∧(seen.length=p.code.length)∧(wg l.bn j seen)∧(lT p s l.bn place j)) (l.bn.length) ?_ ?_
    ·exact⟨0,_,Qah p.code.length false,rfl,(by rw[List.map_replicate];exact hH),by omega,by simp,wg.nil _ _,(by intro j t h;omega)⟩
    rintro mm fr st ⟨j,y,seen,hfr,hH,hj,eI,pH,QG⟩;rw[hfr];clear hfr;generalize iw fr=ee;clear fr;refine zQ 6 ?_;refine qn ?_;simp only[ε];refine zQ 2 ?_;refine zP (fun h3=>?_) fun h3=>?_
    ·refine zQ 1 ?_
     obtain⟨⟨pc,tc⟩,ht⟩:∃t,l.bn[j]?=some t:=⟨l.bn[j]' z0,ι _⟩
     have C8:=zj ht;have mK:¬(oB p s l.bn j pc∧bL tc place)→¬dz p place L:=fun h2 h=>h2 ((h.each r l s z0 hl lL).2.2 j _ z0 ht);have QD:oB p s l.bn j pc→bL tc place→lT p s l.bn place (j+1):=fun h1 h2=>sG ht QG h1 h2;refine zQ 7 ?_;refine qr fun TF LF=>?_;refine Qar rfl z3 z5 rfl (aa rfl _) ?_;refine qa hH fun k10 st RF hH=>?_;have hH:=zjub hH;refine qS hH aJ fun st hH=>?_;have hH:=zjub hH;refine zQ 1 ?_
     by_cases ER:pc<0
     ·have bB:decide (pc<0)=true:=decide_eq_true ER;refine zQ 2 ?_;refine ag.da 106 (.bool true) [] ?_ (fun ff tmp cI=>?_)
      ·refine zQ 26 ?_;refine κ (aO ?_ ?_)
       ·dsimp only[aI,ξ,nth,u2,u1]
        all_goals(first|rfl|simp)
       ·exact zS
        all_goals(first|rfl|(simp[bB];done)|(simp_all;done)|(simp[bB];omega)|(simp_all;omega))
      refine zG ?_;refine qB ?_;rw[cL (mK fun h=>by have:=vG hR iA h.1.1;omega)];refine zQ 4 ?_;refine ag.ret ⟨rx,_,rfl,rl aR hH (rfl)⟩
     ·have bB:decide (pc<0)=false:=decide_eq_false ER
      by_cases EP:pc≥(p.code.length:Int)
      ·have cG:decide (pc≥(p.code.length:Int))=true:=decide_eq_true EP;refine zQ 2 ?_;refine ag.da 106 (.bool true) [] ?_ (fun ff tmp cI=>?_)
       ·refine zQ 8 ?_;refine qn ?_ (hg:=wi bB);simp only[ε];refine zQ 17 ?_;refine κ (aO ?_ ?_)
        ·dsimp only[aI,ξ,nth,u2,u1]
         all_goals(first|rfl|simp)
        ·exact zS
         all_goals(first|rfl|(simp[bB,cG];done)|(simp_all;done)|(simp[bB,cG];omega)|(simp_all;omega))
       refine zG ?_;refine qB ?_;rw[cL (mK fun h=>by have:=vG hR iA h.1.1;omega)];refine zQ 4 ?_;refine ag.ret ⟨rx,_,rfl,rl aR hH (rfl)⟩
      ·have cG:decide (pc≥(p.code.length:Int))=false:=decide_eq_false EP;obtain⟨k,rfl⟩:=Qa7 (show 0≤pc by omega)
       obtain⟨b,hb⟩:∃b,seen[k]?=some b:=⟨seen[k]' z0,ι _⟩
       have hr4:=kb hb;have gD:(seen.set k true).map bV=(seen.map bV).set k [.bool true]:=by rw[List.map_set];rfl
       refine zQ 2 ?_;refine ag.da 106 (.bool (b||!dec (bL tc place))) [] ?_ (fun ff tmp cI=>?_)
       ·refine zQ 8 ?_;refine qn ?_ (hg:=wi bB);simp only[ε];refine zQ 6 ?_;refine qi hH bt (fun p96 aaw=>?_) (hg:=wi cG);refine zQ 3 ?_;refine Qa6 99 rfl (fun I3=>?_) (fun I3=>?_)
        ·refine zQ 7 ?_;refine κ (aO ?_ ?_)
         ·dsimp only[aI,ξ,nth,u2,u1]
          all_goals(first|rfl|simp)
         ·refine zF ?_
          all_goals(simp[bB,cG,I3];done)
        ·refine zQ 1 ?_;refine Ω (m:=10) hH (aj rfl rfl rfl I3) z3 (by exact aJ) (by dsimp only[δ,θ,γ,η,aK,aV,aE,ax,Pg.cs,fI,gW,bV]<;>rfl) rfl rfl (aa rfl _) ?_;refine zQ 2 ?_;refine qv (uD tc place) ?_ (hg:=wi I3);refine zQ 2 ?_;refine κ (aO ?_ ?_)
         ·dsimp only[aI,ξ,nth,u2,u1]
          all_goals(first|rfl|simp)
         ·refine zF ?_
          all_goals(simp[bB,cG,I3];done)
       refine zG ?_;refine qc (fun h4=>?_) (fun h4=>?_)<;>try simp only[cs] at h4
       ·rw[cL (mK fun h=>by
         rw[bY h.2] at h4;simp at h4;obtain⟨j',t',h5,h6,h7⟩:=(pH k b hb).1 h4
         exact h.1.2 j' t' h5 h6 h7)]
        refine zQ 4 ?_;refine ag.ret ⟨rx,_,rfl,rl aR hH (rfl)⟩
       ·refine zQ 1 ?_;simp only[Φ,wt] at h4;obtain⟨rfl,h4⟩:=h4;have ia:=zt h4;have IM:∀j' t',j'<j→l.bn[j']?=some t'→t'.pc≠(k:Int):=fun j' t' h5 h6 h7=>by have:=(pH k false hb).2 ⟨j',t',h5,h6,h7⟩;cases this
        by_cases kE:(k:Int)=s
        ·have gv:((k:Int) !=s)=false:=by simp[kE]
         refine zQ 2 ?_;refine ag.da 139 (.bool false) [] ?_ (fun ff tmp cI=>?_)
         ·refine zQ 5 ?_;refine qr fun Qk M1=>?_;refine zQ 27 ?_;refine κ (aO ?_ ?_)
          ·dsimp only[aI,ξ,nth,u2,u1]
           all_goals(first|rfl|simp)
          ·exact zS
           all_goals(first|rfl|(simp[gv];done)|(simp_all;done)|(simp[gv];omega)|(simp_all;omega))
         dsimp only[aI,ξ,nth,u2,u1];refine zQ 6 ?_;refine qi hH bt fun Uv Rl=>?_;refine ab.il hH rfl z3 z3 z5 rfl rfl (by exact bt) z5 (Ξ rfl) (by exact .inl hF) (fun st hH=>?_);have hH:=zjub hH;refine zQ 6 ?_;exact⟨mm-1,by omega,⟨j+1,y,seen.set k true,rfl,(by rw[gD];exact hH.drop 1),by omega,by simpa using eI,pH.set ht rfl,QD ⟨.inl kE,IM⟩ ia⟩⟩
        ·have gv:((k:Int) !=s)=true:=by simp[kE]
         by_cases Bu:k=0
         ·subst Bu;have dV:(((0:Nat):Int)==0)=true:=rfl;refine zQ 2 ?_;refine ag.da 139 (.bool true) [] ?_ (fun ff tmp cI=>?_)
          ·refine zQ 5 ?_;refine qr fun Qk M1=>?_;refine zQ 14 ?_;refine Qam (aj rfl rfl rfl gv) rfl dV (aa rfl _) ?_;refine zQ 12 ?_;refine κ (aO ?_ ?_)
           ·dsimp only[aI,ξ,nth,u2,u1]
            all_goals(first|rfl|simp)
           ·exact zS
            all_goals(first|rfl|(simp[gv,dV];done)|(simp_all;done)|(simp[gv,dV];omega)|(simp_all;omega))
          dsimp only[aI,ξ,nth,u2,u1];refine qB ?_
          rw[cL (mK fun h=>by
           rcases h.1.1 with h|⟨i,q,h5,h6,_⟩
           ·exact kE h
           ·omega)]
          refine zQ 4 ?_;refine ag.ret ⟨rx,_,rfl,rl aR hH (rfl)⟩
         ·obtain⟨k',rfl⟩:∃k',k=k'+1:=⟨k-1,by omega⟩
          have dV:(((k'+1:Nat):Int)==0)=false:=by simp;omega
          obtain⟨b2,hb2⟩:∃b,(br p.code s)[k']?=some b:=⟨(br p.code s)[k']' z0,ι _⟩
          obtain⟨q,hq⟩:∃q,p.code[k']?=some q:=⟨p.code[k']' z0,ι _⟩
          have hr5:=kb hb2;have hr6:=fy hq;refine zQ 2 ?_;refine ag.da 139 (.bool (!b2||(q.op !=1))) [] ?_ (fun ff tmp cI=>?_)
          ·refine zQ 5 ?_;refine qr fun Qk M1=>?_;refine zQ 10 ?_;refine ab.eK (z:=((k':Nat):Int)) (aj rfl rfl rfl dV) z3 z3 (by rw[wrap_i64 z0 z0]<;>omega) (aa rfl _) ?_;refine qr (fun aac Y1=>?_) (hg:=wi dV);refine zQ 2 ?_;refine Qan (aj rfl rfl rfl gv) rfl dV (aa rfl _) ?_;refine zQ 1 ?_;refine Qa6 128 rfl (fun jq=>?_) (fun jq=>?_)
           ·refine zQ 9 ?_;refine Qam (aj rfl rfl rfl gv) rfl jq (aa rfl _) ?_;refine zQ 1 ?_;refine κ (aO ?_ ?_)
            ·dsimp only[aI,ξ,nth,u2,u1]
             all_goals(first|rfl|simp)
            ·refine zF ?_
             all_goals(simp[gv,dV,jq];done)
           ·refine zQ 4 ?_;refine ab.eK (z:=((k':Nat):Int)) (aj rfl rfl rfl jq) z3 z3 (by rw[wrap_i64 z0 z0]<;>omega) (aa rfl _) ?_;refine qr (fun aab Y0=>?_) (hg:=wi jq);refine qf (fo:=0) (fun aaa YZ=>?_) (hg:=wi jq);refine zQ 2 ?_;refine Qan (aj rfl rfl rfl gv) rfl jq (aa rfl _) ?_;refine zQ 1 ?_;refine κ (aO ?_ ?_)
            ·dsimp only[aI,ξ,nth,u2,u1]
             all_goals(first|rfl|simp)
            ·refine zF ?_
             all_goals(simp[gv,dV,jq];done)
          dsimp only[aI,ξ,nth,u2,u1];refine qc (fun h5=>?_) (fun h5=>?_)<;>try simp only[cs] at h5
          ·rw[cL (mK fun h=>by
            rcases h.1.1 with h|⟨i,q',h6,h7,h8,h9,h10⟩
            ·exact kE h
            ·have:i=k':=by omega
             subst this;rw[hb2] at h8;cases h8;rw[hq] at h9;cases h9
             simp[h10] at h5)]
           refine zQ 4 ?_;refine ag.ret ⟨rx,_,rfl,rl aR hH (rfl)⟩
          ·refine zQ 1 ?_;simp only[Φ,wt,bne_eq_false_iff_eq] at h5;obtain⟨rfl,h5⟩:=h5;refine zQ 4 ?_;refine qi hH bt fun Uv Rl=>?_;refine ab.il hH rfl z3 z3 z5 rfl rfl (by exact bt) z5 (Ξ rfl) (by exact .inl hF) (fun st hH=>?_);have hH:=zjub hH;refine zQ 6 ?_;exact⟨mm-1,by omega,⟨j+1,y,seen.set (k'+1) true,rfl,(by rw[gD];exact hH.drop 1),by omega,by simpa using eI,pH.set ht rfl,QD ⟨.inr ⟨k',q,by omega,rfl,hb2,hq,h5⟩,IM⟩ ia⟩⟩
    ·refine zQ 6 ?_;exact⟨L.length-(r+1),by omega,⟨r+1,rfl,hH.drop 2,by omega,hw.succ hl lL ⟨h2.2,h2.1,by rw[show l.bn.length=j by omega];exact QG⟩⟩⟩
  ·refine zQ 1 ?_;rw[bY (q:=dz p place L) ⟨hR,hge,hle,Ws,by rw[show L.length=r by omega];exact hw⟩];refine zQ 4 ?_;refine ag.ret ⟨rx,_,rfl,rl aR hH (rfl)⟩
def GT.MK (t:GT):gH:=⟨t.pc.toNat,t.c⟩
def GV.v (l:GV):VL:=⟨l.dn,l.aY,l.td,l.bn.map GT.MK⟩
theorem Fv {l:List GT} (h:∀t∈l,0≤t.pc):(l.map GT.MK).map bM=l.map fI:=by
 rw[List.map_map];refine List.map_congr_left fun t ht=>?_;obtain⟨k,hk⟩:=Qa7 (h t ht);obtain⟨pc,c⟩:=t;simp only at hk;subst hk
 rfl
variable{l:GV}{place:Int}
theorem dz.MK (h:dz p place L) (hl:l∈L) (ht:t∈l.bn):0≤t.pc∧t.pc<(p.code.length:Int):=by
 obtain⟨r,hr⟩:=χ hl;obtain⟨j,hj⟩:=χ ht;have wv:=bc hr;have hlen:=h.len
 obtain⟨s,hs⟩:∃s,p.ak[r]?=some s:=⟨p.ak[r]' z0,ι _⟩
 exact vG h.right (h.right.st s (Pe hs)) ((h.each r l s wv hr hs).2.2 j t (bc hj) hj).1.1
theorem dz.cells (h:dz p place L) (hl:l∈L):l.v.bn.map bM=l.bn.map fI:=Fv fun t ht=>(h.MK hl ht).1
theorem dz.ok (h:dz p place L) (ht:∀l∈L,l.bn.length≤1000):∀l∈(L.map GV.v).map VL.pl,l.ok p.code.length:=by
 intro q hq;obtain⟨v,hv,rfl⟩:=υ.1 hq;obtain⟨l,hl,rfl⟩:=υ.1 hv;refine⟨fun t h'=>?_,by show(l.bn.map GT.MK).length≤1000;rw[ε];exact ht l hl⟩;obtain⟨u,hu,rfl⟩:=υ.1 (show t∈l.bn.map GT.MK from h');have:=h.MK hl hu;show u.pc.toNat<_;omega
variable{N:Nat}{S:St}{H:List a8}{h:List UInt8}
theorem G8 (hx:Arg N S 1 x (μ h)) (OQ:h.length≤1048576) (hb:bH h=false) (hne:h≠[]) (hH:Has N S s0 H):
  ∃d ah,Ev pv 72 [x] s0 d ah∧d=.tup [.pnil,.int .i64 4]∧Has N S ah H:=by
 have tS:=aw h
 have Cc:0<h.length:=by cases h with
  |nil=>exact absurd rfl hne
  |cons a b=>simp
 have eW:(df h).2.2=false:=hb;have hfi:=fun{st:St} (hb:Bytes st x h)=>pW hb;rw[eW] at hfi;generalize(df h).1=r0 at*;generalize(df h).2.1=n0 at*;refine Qac rfl Sg rfl rfl rfl ?_;refine zE ?_;change ag _ _ _ _ s0 _;refine zQ 8 ?_;refine qv ((hfi (hx.rows hH))) ?_;refine zQ 8 ?_;have cj:(!false)=true:=rfl;refine zQ 2 ?_;refine ag.da 20 (.bool (decide (((μ h).length:Int)>0))) [] ?_ (fun ff tmp cI=>?_)
 ·refine zQ 4 ?_;refine qn ?_ (hg:=wi cj);refine zQ 2 ?_;refine κ (aO ?_ ?_)
  ·dsimp only[aI,ξ,nth,u2,u1]
   all_goals(first|rfl|simp)
  ·dsimp only[Fr.fN,Fr.put,Fr.clean,Fr.ev,Fr.get,nth,look,u1,u2,v1,v2,v4]
   all_goals(rfl)
 dsimp only[aI,ξ,nth,u2,u1];refine ag.cond (v:=true) (by dsimp only[Fr.ev,Fr.get,nth,Qap];exact cI.trans (congrArg D.bool (decide_eq_true z0))) (fun _=>?_) (fun h=>by cases h);refine zQ 5 ?_;refine ag.ret ⟨rx,_,_,_,rfl,rfl,?_⟩;exact⟨rfl,hH⟩
theorem Nj (hx:Arg N S 1 x (μ h)) (hb:bH h=true∨h=[]) (h3:h.length≤3) (hH:Has N S s0 H):
  ∃kd ah,Ev pv 72 [x] s0 (.tup [.ptr kd 0 0,.int .i64 0]) ah∧Has N S ah (.box kd (.mem 0 false (cY h (([0,0,0,0]:List UInt8).drop h.length)))::H):=
 ⟨_,_,Qo (hx.rows hH) hb h3 (by rw[hH.ex.ro];exact IT hH.db (IT hH.hN hH.len)),hH.pt _⟩
theorem JN {p:Prop} (h:p↔q):dec p=dec q:=by rw[show p=q from propext h]
structure GS (x:D) (L:List GV):Prop where
 sl:fg x 12 (L.map gW)
 ln:L.length≤12
 th:∀l∈L,fg l.td 11 (l.bn.map fI)∧l.bn.length≤500
theorem GS.arg (h:GS x L) (st:St):GI st x L:=⟨h.sl.rows st,by have:=h.ln;omega,fun l hl=>⟨(h.th l hl).1.rows st,by have:=(h.th l hl).2;omega⟩⟩
variable{y:D}
theorem Hq (dL:∀st,Ev pv 107 [] st (.agg (aE bN)) st) (hp:p.ok) (hx:GS x L) (hy:fg y 1 (μ h)) (OQ:h.length≤1048576):
  Ev pv 32 [p.d,.agg [y,.int .i64 place,x]] s0 (.bool (dec (dz p place L∧(bH h=true∨h=[])))) s0:=by
 have Kw:=fun(st:St)=>G7 dL hp (hx.arg st) place;have hcl:=hx.sl.cells;have np:=hy.cells
 by_cases hb:bH h=true∨h=[]
 ·have h3:h.length≤3:=by
   rcases hb with hb|rfl
   ·exact B3 hb
   ·simp
  rw[JN (q:=dz p place L) ⟨fun h=>h.1,fun h=>⟨h,hb⟩⟩];unfold Pg.d at*;refine AT rfl Sh rfl rfl rfl ?_;refine zE ?_;obtain⟨aR,hF,hH⟩:=ri s0;generalize ae .ro s0=S at*;have PH:=hy.arg s0.bs.length S;refine zQ 2 ?_;refine qb hH fun k2 st hk2 hH=>?_;have hH:=zjua hH;refine qb hH fun k3 st tt hH=>?_;refine zQ 6 ?_;obtain⟨kd,st,aA,hH⟩:=Nj PH hb h3 hH;refine qv aA ?_;refine zQ 6 ?_;have cj:true=true:=rfl;refine zQ 5 ?_;refine Ω (m:=2) hH (aj rfl rfl rfl cj) z3 (by exact cU) (by dsimp only[δ,θ,γ,η,Pg.cs]<;>rfl) rfl rfl (aa rfl _) ?_;refine zQ 1 ?_;refine Ω (m:=2) hH (aj rfl rfl rfl cj) z3 (by exact bt) (by dsimp only[δ,θ,γ,η,Pg.cs]<;>rfl) rfl rfl (aa rfl _) ?_;refine qv ((Kw _)) ?_ (hg:=wi cj);refine zQ 3 ?_;refine ag.ret ⟨rx,_,rfl,rl aR hH (rfl)⟩
 ·rw[cL (fun h=>hb h.2)]
  have hb1:bH h=false:=by
   cases hb1:bH h with
   |false=>rfl
   |true=>exact absurd (.inl hb1) hb
  have hne:h≠[]:=fun e=>hb (.inr e);unfold Pg.d at*;refine AT rfl Sh rfl rfl rfl ?_;refine zE ?_;obtain⟨aR,hF,hH⟩:=ri s0;generalize ae .ro s0=S at*;have PH:=hy.arg s0.bs.length S;refine zQ 2 ?_;refine qb hH fun k2 st hk2 hH=>?_;have hH:=zjua hH;refine qb hH fun k3 st tt hH=>?_;refine zQ 6 ?_;obtain⟨_,st,aA,rfl,hH⟩:=G8 PH OQ hb1 hne hH;refine qv aA ?_;refine zQ 6 ?_;have cj:false=false:=rfl;refine zQ 12 ?_;refine ag.ret ⟨rx,_,rfl,rl aR hH (rfl)⟩
theorem pr (dL:∀st,Ev pv 95 [] st (.agg (aE bN)) st) (hp:p.ok) (hx:GS x L) (hy:fg y 1 (μ h)) (OQ:h.length≤1048576):
  Ev pv 22 [p.d,.agg [y,.int .i64 place,x]] s0 (.bool (dec (dz p place L∧(bH h=true∨h=[])))) s0:=by
 have Kw:=fun(st:St)=>HD dL hp (hx.arg st) place;have Wl:=fun{st:St} (hb:Bytes st y h)=>J_ hb OQ;have hcl:=hx.sl.cells;have np:=hy.cells;have tS:=aw h
 by_cases hW:dz p place L
 ·rw[bY hW] at Kw;have lR:true=true:=rfl
  by_cases hh:h=[]
  ·rw[bY ⟨hW,.inr hh⟩];subst hh;have fc:((((μ []).length:Nat):Int)==0)=true:=rfl;unfold Pg.d at*;refine AT rfl O' rfl rfl rfl ?_;refine zE ?_;obtain⟨aR,hF,hH⟩:=ri s0;generalize ae .ro s0=S at*;have PH:=hy.arg s0.bs.length S;refine zQ 2 ?_;refine qb hH fun k2 st hk2 hH=>?_;have hH:=zjua hH;refine qb hH fun k3 st tt hH=>?_;refine zQ 4 ?_;refine Ω (m:=2) hH rfl z3 (by exact bt) (by dsimp only[δ,θ,γ,η,Pg.cs]<;>rfl) rfl rfl (aa rfl _) ?_;refine zQ 1 ?_;refine Ω (m:=2) hH rfl z3 (by exact aJ) (by dsimp only[δ,θ,γ,η,Pg.cs]<;>rfl) rfl rfl (aa rfl _) ?_;refine qv ((Kw _)) ?_;refine zQ 3 ?_;refine qn ?_ (hg:=wi lR);refine zQ 5 ?_;refine Qam (aj rfl rfl rfl lR) rfl fc (aa rfl _) ?_;refine zQ 3 ?_;refine ag.ret ⟨rx,_,rfl,rl aR hH (rfl)⟩
  ·have Cc:h.length≠0:=fun e=>hh (List.eq_nil_of_length_eq_zero e);have fc:((((μ h).length:Nat):Int)==0)=false:=by rw[tS];simp;exact hh
   rw[show dec (dz p place L∧(bH h=true∨h=[]))=bH h by
    cases hb:bH h with
    |true=>exact bY ⟨hW,.inl rfl⟩
    |false=>exact cL (fun h=>by rcases h.2 with h|h;cases h;exact hh h)]
   unfold Pg.d at*;refine AT rfl O' rfl rfl rfl ?_;refine zE ?_;obtain⟨aR,hF,hH⟩:=ri s0;generalize ae .ro s0=S at*;have PH:=hy.arg s0.bs.length S;refine zQ 2 ?_;refine qb hH fun k2 st hk2 hH=>?_;have hH:=zjua hH;refine qb hH fun k3 st tt hH=>?_;refine zQ 4 ?_;refine Ω (m:=2) hH rfl z3 (by exact bt) (by dsimp only[δ,θ,γ,η,Pg.cs]<;>rfl) rfl rfl (aa rfl _) ?_;refine zQ 1 ?_;refine Ω (m:=2) hH rfl z3 (by exact aJ) (by dsimp only[δ,θ,γ,η,Pg.cs]<;>rfl) rfl rfl (aa rfl _) ?_;refine qv ((Kw _)) ?_;refine zQ 3 ?_;refine qn ?_ (hg:=wi lR);refine zQ 4 ?_;refine qv ((Wl (PH.rows hH))) ?_ (hg:=wi fc);refine Qan (aj rfl rfl rfl lR) rfl fc (aa rfl _) ?_;refine zQ 3 ?_;refine ag.ret ⟨rx,_,rfl,rl aR hH (rfl)⟩
 ·rw[cL hW] at Kw;rw[cL (fun h=>hW h.1)];have lR:false=false:=rfl;unfold Pg.d at*;refine AT rfl O' rfl rfl rfl ?_;refine zE ?_;obtain⟨aR,hF,hH⟩:=ri s0;generalize ae .ro s0=S at*;refine zQ 2 ?_;refine qb hH fun k2 st hk2 hH=>?_;have hH:=zjua hH;refine qb hH fun k3 st tt hH=>?_;refine zQ 4 ?_;refine Ω (m:=2) hH rfl z3 (by exact bt) (by dsimp only[δ,θ,γ,η,Pg.cs]<;>rfl) rfl rfl (aa rfl _) ?_;refine zQ 1 ?_;refine Ω (m:=2) hH rfl z3 (by exact aJ) (by dsimp only[δ,θ,γ,η,Pg.cs]<;>rfl) rfl rfl (aa rfl _) ?_;refine qv ((Kw _)) ?_;refine zQ 13 ?_;refine ag.ret ⟨rx,_,rfl,rl aR hH (rfl)⟩
theorem rv (h:a7 p):p.fit:=by
 have hcl:=h.cl;have jS:=h.sl;refine⟨fun i hi=>?_,fun v hv=>by have:=(h.st v hv).2;omega,by omega⟩;obtain⟨pc,B'⟩:=χ hi;have hs:=h.sh pc i B'
 have o0:∀{v n:Int},kC v n=true→n≤1000→v<9223372036854775808:=fun{v n} h1 h2=>by
  unfold kC at h1;simp only[τ,decide_eq_true_eq] at h1;omega
 unfold cE at hs
 by_cases h1:i.op=1
 ·rw[if_pos h1] at hs;simp only[τ,decide_eq_true_eq,beq_iff_eq] at hs;obtain⟨hy,⟨_,hx⟩,hr⟩:=hs;refine⟨by omega,by omega,by omega,fun g hg=>?_⟩
  have hm:gu i.rs i.rs:=by
   unfold eN at hr;exact(@decide_eq_true_iff _ (Classical.propDecidable _)).1 hr
  have hle:=hm.1.1 g hg;have a1:=((hm.2 g.1).1 ⟨g,hg,Qaj _,hle⟩).1;have a2:=((hm.2 g.2).1 ⟨g,hg,hle,Qaj _⟩).1;unfold iY at a1 a2;omega
 ·rw[if_neg h1,τ] at hs;obtain⟨he,hs⟩:=hs
  have wH:∀g∈i.rs,-2147483648≤g.1∧g.1≤2147483647∧-2147483648≤g.2∧g.2≤2147483647:=fun g hg=>by
   rw[List.isEmpty_iff.1 he] at hg;cases hg
  by_cases h2:i.op=2
  ·rw[if_pos h2,τ] at hs;exact⟨by omega,o0 hs.1 z0,o0 hs.2 z0,wH⟩
  ·rw[if_neg h2,τ,beq_iff_eq] at hs;obtain⟨hy,hs⟩:=hs
   by_cases h3:i.op=3
   ·rw[if_pos h3] at hs;exact⟨by omega,o0 hs z0,by omega,wH⟩
   ·rw[if_neg h3] at hs
    by_cases h4:i.op=4
    ·rw[if_pos h4,τ] at hs;exact⟨by omega,o0 hs.2 z0,by omega,wH⟩
    ·rw[if_neg h4] at hs
     by_cases h5:i.op=5∨i.op=6
     ·rw[if_pos h5] at hs;simp only[τ,beq_iff_eq] at hs;exact⟨by omega,by omega,by omega,wH⟩
     ·rw[if_neg h5] at hs
      by_cases h7:i.op=7
      ·rw[if_pos h7] at hs;exact⟨by omega,o0 hs z0,by omega,wH⟩
      ·rw[if_neg h7] at hs;cases hs
theorem uI {f:kq} {pl:Int} (h:bL f pl) (hp:pl≤1099511627776):kq.fit f:=fun i hi=>by have:=(h i hi).2;omega
theorem GY (h:dz p place L):∀l∈L,l.fit:=by
 intro l hl;have LD:=h.le;have hcl:=h.right.cl;obtain⟨r,hr⟩:=χ hl;have hlen:=h.len;have wv:=bc hr
 obtain⟨s,hs⟩:∃s,p.ak[r]?=some s:=⟨p.ak[r]' z0,ι _⟩
 obtain⟨_,h2,h3⟩:=h.each r l s wv hr hs;refine⟨uI h2 LD,fun t ht=>?_⟩;obtain⟨j,hj⟩:=χ ht;have h4:=h.MK hl ht;exact⟨by omega,uI (h3 j t (bc hj) hj).2 LD⟩
theorem GS.UC {st:St} (h:GS x L) (hf:∀l∈L,l.fit):Px st x L:=
 ⟨h.sl.rows st,by have:=h.ln;omega,fun l hl=>⟨(h.th l hl).1.rows st,by have:=(h.th l hl).2;omega⟩,hf⟩
noncomputable def JK (p:Pg) (h:List UInt8) (place:Int) (L:List GV):List UInt8:=aZ (gF p)++KU h place L
theorem CA (dL:∀st,Ev pv 95 [] st (.agg (aE bN)) st) (hF:s0.flr≤s0.bs.length) (db:s0.ro≤s0.bs.length) (hp:p.ok) (hx:GS x L) (hy:fg y 1 (μ h)) (OQ:h.length≤1048576) (hW:dz p place L∧(bH h=true∨h=[])):
  ∃d ah,Ev pv 8 [p.d,.agg [y,.int .i64 place,x]] s0 d ah∧nH s0 ah d (JK p h place L):=by
 have Kw:=fun(st:St)=>pr (s0:=st) (place:=place) dL hp hx hy OQ;rw[bY hW] at Kw;have nY:=hp.c;have hsd:=hp.s;have hcl:=hx.sl.cells.1;have np:=hy.cells.1;have Q4:=rv hW.1.right;have VC:=GY hW.1;have LD:=hW.1.le;have PS:=fun(st:St)=>AJ (s0:=st) hp Q4;have V0:=Jd (mj 0#32 (ij p.code p.ak)) (mj 1#32 (ij p.code p.ak));have pM:=bj (gF p);change 0≤gF p∧gF p<_ at V0;unfold Pg.d at*;refine Qac rfl fi8 rfl rfl rfl ?_;refine zE ?_;have aR:(ae .nw s0).bs=s0.bs:=rfl;have hF:(ae .nw s0).flr≤s0.bs.length:=hF;have hH:Has s0.bs.length (ae .nw s0) (ae .nw s0) []:=Has.start (ο _) (ο _);generalize ae .nw s0=S at*;refine zQ 2 ?_;refine qb hH fun k2 st hk2 hH=>?_;have hH:=zjua hH;refine qb hH fun k3 st tt hH=>?_;refine zQ 5 ?_;refine Ω (m:=2) hH rfl z3 (by exact bt) (by dsimp only[δ,θ,γ,η,Pg.cs]<;>rfl) rfl rfl (aa rfl _) ?_;refine Ω (m:=3) hH rfl z3 (by exact aJ) (by dsimp only[δ,θ,γ,η,Pg.cs]<;>rfl) rfl rfl (aa rfl _) ?_;refine qv ((Kw _)) ?_;refine zQ 2 ?_;refine ag.cond (v:=false) (by dsimp only[Fr.ev,Fr.get,nth,Qap];rfl) (fun h=>by cases h) (fun _=>?_);refine zQ 3 ?_;refine Ω (m:=2) hH rfl z3 (by exact bt) (by dsimp only[δ,θ,γ,η,Pg.cs]<;>rfl) rfl rfl (aa rfl _) ?_;refine qv ((PS _)) ?_;obtain⟨eC,er⟩:=hH.eQ hF;obtain⟨d11,st,aA,ho⟩:=dH (x:=.nul) (b:=[]) eC er (uy _) (by simp) (gF p) z0;have hH:=hH.lD ho
 (dsimp only[u3,u4] at hH)
 refine qv aA ?_;refine Ω (m:=3) hH rfl z3 (by exact bt) (by dsimp only[δ,θ,γ,η,Pg.cs]<;>rfl) rfl rfl (aa rfl _) ?_;obtain⟨eC,er⟩:=hH.eQ hF;obtain⟨d13,st,aA,ho⟩:=AH (x:=d11) (b:=aZ (gF p)) (place:=place) eC er (hH.rows aJ) z0 hy OQ z0 (hx.UC VC);have hH:=hH.lD ho
 (dsimp only[u3,u4] at hH)
 refine qv aA ?_;refine zQ 2 ?_;refine ag.ret ⟨rx,_,_,_,rfl,rfl,?_⟩;exact(hH.take 1).fx aR db
theorem BC (l:List GT):∀e∈l.map fI,∀d∈e,cD d=true:=by
 intro e he d hd;obtain⟨q,_,rfl⟩:=υ.1 he;simp only[fI,Qa4,AI,or_false] at hd
 rcases hd with rfl|rfl|rfl|rfl|rfl|rfl|rfl|rfl|rfl|rfl|rfl<;>rfl
theorem O7 (l:List GT):∀e∈l.map fI,e.length=11:=by
 intro e he;obtain⟨q,_,rfl⟩:=υ.1 he;rfl
def ta (l:List GT):D:=.sl ((l.map fI).map (kO 11))
theorem Na (l:List GT):fg (ta l) 11 (l.map fI):=fg.frozen (O7 l) (BC l)
def GV.told (l:GV):GV:=⟨l.dn,l.aY,ta l.bn,l.bn⟩
def NP (L:List GV):D:=.sl (((L.map GV.told).map gW).map (kO 12))
theorem Jr (L:List GV):∀e∈L.map gW,e.length=12:=by
 intro e he;obtain⟨q,_,rfl⟩:=υ.1 he;rfl
theorem told_plain (L:List GV):∀e∈(L.map GV.told).map gW,∀d∈e,cD d=true:=by
 intro e he d hd;obtain⟨q,hq,rfl⟩:=υ.1 he;obtain⟨g,_,rfl⟩:=υ.1 hq;simp only[gW,aV,GV.told,ta,Qa4,AI,or_false] at hd
 rcases hd with rfl|rfl|rfl|rfl|rfl|rfl|rfl|rfl|rfl|rfl|rfl|rfl<;>rfl
theorem GS.told (h:GS x L):GS (NP L) (L.map GV.told):=by
 refine⟨fg.frozen (Jr _) (told_plain L),by rw[ε];exact h.ln,fun l hl=>?_⟩;obtain⟨g,hg,rfl⟩:=υ.1 hl;exact⟨Na _,(h.th g hg).2⟩
end Go.Proofs.YtkbacjpologjbaaGreat
