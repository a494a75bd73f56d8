/-
 The scanner: a decoder ahead of a machine.
-/
import Derived.Test.YtecjacicdpejaaaGreatWGHr
import Derived.Test.YtecjacicdpejaaaGreatWGUo
import Derived.Test.YtecjacicdpejaaaGreatWGYv
set_option maxRecDepth 100000
set_option maxHeartbeats 4000000
set_option linter.unusedSimpArgs false
set_option linter.unusedVariables false
open List renaming length_append→γ,length_map→δ,length_drop→η,getElem?_eq_getElem→θ,length_cons→ι,foldl→κ,take_succ_cons→μ,append_assoc→ν,getElem?_set_self→ξ,take_zero→ο,drop_succ_cons→ρ,drop_zero→ς,drop_eq_nil_of_le→τ,take_of_length_le→υ,append_nil→φ,nil_append→χ,drop_left→ψ,getElem?_eq_none→ω,drop_append_of_le_length→Θ,length_nil→Ξ,map_append→Φ,take_left'→Ψ,take_left→Q5,getElem?_append_left→Wh,getElem?_map→Z5,map_cons→ZD,cons_append→Zt,replicate→wt,map_drop→xw,mem_map→ki,length_replicate→VQ,mem_of_getElem?→BY,length_reverse→Cf,mem_map_of_mem→Cr,getElem?_take→IS,length_set→LL,length→Pe
open Go.V.ab renaming nil→ε,load→Y',store→JS,two→v8,aS→GB,av→OF,nb→P8,oF→PR,append→Pd,copy→R3,len→AN,T→AT,bN→AI,cA→bU,c_→cg
open Nat renaming le_refl→ζ,reduceAdd→π,le_of_ble_eq_true→Γ,le_trans→YQ,lt_or_ge→VM,zero_add→VT,mul_one→IN,zero_le→R2
open Bool renaming or_eq_false_iff→Δ,not_eq_false'→Ω,and_eq_true_iff→Bv
open Go.V.D renaming int→Zn,cells→YH
open Go.V.Ev renaming gP→Ut,eN→IT
namespace Go.Proofs.YtecjacicdpejaaaGreat
open Go.V Go
def dw (h j:List UInt8):List D:=(h++j).map gH++[.int .i64 (h.length:Nat)]
variable{h j:List UInt8}
theorem tj (hl:(h++j).length=4):(dw h j).length=5:=by simp[dw] at hl⊢;omega
theorem qN (hl:(h++j).length=4):(dw h j).drop 4=[.int .i64 (h.length:Nat)]:=by
 unfold dw;have:((h++j).map gH).length=4:=by rw[δ,hl]
 rw[←this,ψ]
variable{st:St}{k v:Nat}{b:List UInt8}
theorem uU {ar:Bool} {rest:List D} (hm:st.bs[k]?=some (.mem v ar (b.map gH++rest))) {l r:Nat} (sW:l≤r) (hr:r≤b.length):Bytes st (.win k v l (r-l) 1) ((b.take r).drop l):=by
 have hlen:((b.take r).drop l).length=r-l:=by simp;omega
 have:=Rows.win (st:=st) (s:=1) k v l (byteCells ((b.take r).drop l)) ar (b.map gH++rest) (St.mem_of hm) (by rw[au,hlen];simp;omega) fun i e hi=>by
  simp only[byteCells,Z5] at hi;obtain⟨y,hy,rfl⟩:=Option.map_eq_some_iff.1 hi;rw[List.getElem?_drop,IS] at hy
  split at hy
  ·rename_i hlt;have hb:b[l+i*1]?=some y:=by rw[IN];exact hy
   have h2:(b.map gH++rest)[l+i*1]?=some (gH y):=by
    rw[Wh (by rw[δ];omega),Z5,hb];rfl
   rw[List.take_one,List.head?_drop,h2];rfl
  ·cases hy
 rw[au,hlen] at this;exact this
variable{n:Nat}
theorem P9 (hm:st.bs[k]?=some (.mem v false (dw h j))) (hl:(h++j).length=4) (hn:n≤h.length) (du:st.ro≤k):
  Ev pv 201 [.ptr k v 0,.int .i64 (n:Nat)] st (.tup []) ⟨st.bs.set k (.mem v false (dw (h.drop n) ((h++j).drop (h.length-n)))),st.flr,st.ro⟩:=by
 refine Ut rfl W6 rfl rfl rfl<|zE ?_;have lC:(ae .rw st).bs[k]?=some (.mem v false (dw h j)):=hm
 have kq:k<st.bs.length:=by
  rcases VM k st.bs.length with h'|h'
  ·exact h'
  ·rw[ω h'] at hm;cases hm
 have ry:=hl;rw[γ] at ry;have hcl:=tj hl;have nM:=qN hl;have uM:∀S:St,S.ro=st.ro→S.ku k 0=true:=fun S hS=>nH (by omega);(try refine qy ?_);(repeat refine qq ?_);(try generalize hK:aZ _ _ _ _=K);refine ag.cT ?_
 (first|refine xT ?_|refine xL ?_|refine xN ?_|refine xo ?_|refine xp ?_)
 (first|refine xT ?_|refine xL ?_|refine xN ?_|refine xo ?_|refine xp ?_)
 (first|refine xT ?_|refine xL ?_|refine xN ?_|refine xo ?_|refine xp ?_)
 refine P8 (l:=0) (r:=4) rfl rfl rfl rfl rfl lC (by rw[hcl];decide) rfl ?_
 (first|refine xT ?_|refine xL ?_|refine xN ?_|refine xo ?_|refine xp ?_)
 (first|refine xT ?_|refine xL ?_|refine xN ?_|refine xo ?_|refine xp ?_)
 (first|refine xT ?_|refine xL ?_|refine xN ?_|refine xo ?_|refine xp ?_)
 (first|refine xT ?_|refine xL ?_|refine xN ?_|refine xo ?_|refine xp ?_)
 (first|refine xT ?_|refine xL ?_|refine xN ?_|refine xo ?_|refine xp ?_)
 (first|refine xT ?_|refine xL ?_|refine xN ?_|refine xo ?_|refine xp ?_)
 (first|refine xT ?_|refine xL ?_|refine xN ?_|refine xo ?_|refine xp ?_)
 refine Y' (k:=k) (aE:=v) (off:=4) rfl rfl rfl lC (d:=.int .i64 (h.length:Nat)) (by rw[nM];rfl)<|P8 (l:=n) (r:=h.length) rfl rfl rfl rfl rfl lC (by rw[hcl];decide) ?_ ?_
 ·show cF 4 (some (.int .i64 (n:Nat))) (some (.int .i64 (h.length:Nat)))=_;simp only[cF,gW,ky];rw[if_pos ⟨by omega,by omega⟩];simp only[Option.bind_some];rw[if_pos ⟨by omega,by omega⟩];rfl
 have UZ:=uU (st:=ae .rw st) (l:=n) (r:=h.length) lC hn (by rw[hl];omega);rw[Q5] at UZ;refine R3 (k:=k) (aE:=v) (off:=0) (len:=4) (s:=1) (ys:=byteCells (h.drop n)) (ar:=false) (c:=dw h j) rfl rfl rfl (by show D.win k v (0+n*1) (h.length-n) 1=D.win k v n (h.length-n) 1;congr 1;omega) UZ rfl rfl lC (by rw[hcl];decide) ?_ ?_
 ·rw[dK]
  have:∀(b:List UInt8) m,refs ((b.map gH).take m)=0:=by
   intro b m
   induction b generalizing m with
   |nil=>simp[refs]
   |cons y b ih=>cases m with
    |zero=>simp[refs]
    |succ m=>simp only[ZD,μ,refs,ih];rfl
  rw[this];exact uM _ rfl
 have PM:(dw h j).take 0++(byteCells (h.drop n)).flatten.take (min (byteCells (h.drop n)).length 4*1)++(dw h j).drop (0+min (byteCells (h.drop n)).length 4*1)=(h.drop n++(h++j).drop (h.length-n)).map gH++[.int .i64 (h.length:Nat)]:=by
  have e1:min (byteCells (h.drop n)).length 4*1=h.length-n:=by rw[au,η];omega
  rw[e1,dK,ο,χ,VT];have e2:((h.drop n).map gH).take (h.length-n)=(h.drop n).map gH:=υ (by rw[δ,η];omega);rw[e2];unfold dw;rw[Θ (by rw[δ,hl];omega),←xw,Φ,ν]
 rw[PM];generalize Gk:(h++j).drop (h.length-n)=j';have hl3:(h.drop n++j').length=4:=by rw[←Gk,γ,η,η,hl];omega
 refine ε ?_;(try refine zF ?_);(try subst hK);(try refine qy ?_)
 have yf:((ae .rw st).bs.set k (.mem v false ((h.drop n++j').map gH++[.int .i64 (h.length:Nat)])))[k]?=some (.mem v false ((h.drop n++j').map gH++[.int .i64 (h.length:Nat)])):=by
  rw[ξ (by exact kq)]
 have nC:((h.drop n++j').map gH).length=4:=by rw[δ,hl3]
 generalize hS:(⟨(ae .rw st).bs.set k (.mem v false ((h.drop n++j').map gH++[.int .i64 (h.length:Nat)])),(ae .rw st).flr,(ae .rw st).ro⟩:St)=S;have D9:S.bs[k]?=some (.mem v false ((h.drop n++j').map gH++[.int .i64 (h.length:Nat)])):=by subst hS;exact yf
 refine ag.cT ?_
 (first|refine xT ?_|refine xL ?_|refine xN ?_|refine xo ?_|refine xp ?_)
 (first|refine xT ?_|refine xL ?_|refine xN ?_|refine xo ?_|refine xp ?_)
 (first|refine xT ?_|refine xL ?_|refine xN ?_|refine xo ?_|refine xp ?_)
 refine Y' (k:=k) (aE:=v) (off:=4) rfl rfl rfl D9 (d:=.int .i64 (h.length:Nat)) (by rw[←nC,ψ];rfl) ?_
 (first|refine xT ?_|refine xL ?_|refine xN ?_|refine xo ?_|refine xp ?_)
 (first|refine xT ?_|refine xL ?_|refine xN ?_|refine xo ?_|refine xp ?_)
 rw[wrap_i64 (by omega) (by omega)]
 (first|refine xT ?_|refine xL ?_|refine xN ?_|refine xo ?_|refine xp ?_)
 (first|refine xT ?_|refine xL ?_|refine xN ?_|refine xo ?_|refine xp ?_)
 refine JS (k:=k) (aE:=v) (off:=4) (cs:=[.int .i64 ((h.length:Nat)-(n:Nat):Int)]) rfl rfl rfl rfl rfl D9 (by rw[γ,nC];exact ζ _) (uM S (by subst hS;rfl))<|ε ⟨fun i h=>(by cases h),[],rfl,xR ?_ rfl⟩;subst hS;simp only[ae,List.set_set];rw[υ (by simp)]
 congr 2
 unfold dw;rw[Ψ nC,η];have:(((h.drop n++j').map gH++[Zn .i64 (h.length:Nat)]).drop (4+[Zn .i64 ((h.length:Nat)-(n:Nat):Int)].length))=[]:=τ (by simp[nC];simp at nC;omega);have e4:((h.length:Nat):Int)-(n:Nat)=((h.length-n:Nat):Int):=by omega
 rw[this,φ,e4,Gk]
def gU:Nat→List UInt8→List (Nat×Nat)×List UInt8
 |0,l=>([],l)
 |_+1,[]=>([],[])
 |f+1,c::l=>if bO (c::l)=true then([],c::l) else(fF (c::l)::(gU f ((c::l).drop (fF (c::l)).2)).1,(gU f ((c::l).drop (fF (c::l)).2)).2)
def hO (h:List UInt8) (c:UInt8):List (Nat×Nat)×List UInt8:=gU (h.length+1) (h++[c])
def jF:Nat→List UInt8→List UInt8→List UInt8
 |0,_,j=>j
 |_+1,[],j=>j
 |f+1,c::l,j=>if bO (c::l)=true then j else jF f ((c::l).drop (fF (c::l)).2) ((c::l++j).drop ((c::l).length-(fF (c::l)).2))
variable{js:List UInt8}{j0 c:UInt8}
theorem Ni (hl:(h++j0::js).length=4):(dw h (j0::js)).take (0+0+h.length*1)++[gH c]++(dw h (j0::js)).drop (0+0+h.length*1+1)=(h++c::js).map gH++[.int .i64 (h.length:Nat)]:=by
 have e:0+0+h.length*1=(h.map gH).length:=by rw[δ];omega
 have e2:dw h (j0::js)=h.map gH++(gH j0::(js.map gH++[.int .i64 (h.length:Nat)])):=by simp[dw]
 rw[e,e2,Q5,←List.drop_drop,ψ];simp
variable{N:Nat}{x:D}
theorem yZ {s:Nat} {es:List (List D)} (hk:k<N) (h:V.Acc N st s x es) (bx:lu):V.Acc N ⟨st.bs.set k bx,st.flr,st.ro⟩ s x es:=by
 cases h with
 |nul=>exact .nul
 |win k2 Y2 es hN2 Mn he=>exact .win k2 Y2 _ hN2 (by simp only;rw[List.getElem?_set_ne (by omega)];exact Mn) he
theorem Qk (hm:st.bs[k]?=some (.mem v false (dw h (j0::js)))) (hl:(h++j0::js).length=4) (du:st.ro≤k):
  Ev pv 165 [.ptr k v 0,.int .u8 (c.toNat:Nat)] st (gY (hO h c).1) ⟨st.bs.set k (.mem v false (dw (hO h c).2 (jF (h.length+1) (h++[c]) js))),st.flr,st.ro⟩:=by
 have kq:k<st.bs.length:=by
  rcases VM k st.bs.length with h'|h'
  ·exact h'
  ·rw[ω h'] at hm;cases hm
 have ry:=hl;rw[γ,ι] at ry;refine Ut rfl Xn rfl rfl rfl<|zE ?_;have lC:(ae .rw st).bs[k]?=some (.mem v false (dw h (j0::js))):=hm;have nM:=qN hl;have hcl:=tj hl;have uM:∀S:St,S.ro=st.ro→S.ku k 0=true:=fun S hS=>nH (by omega);(try refine qy ?_);(repeat refine qq ?_);(try generalize hK:aZ _ _ _ _=K);refine ag.cT ?_;(repeat(first|refine xT ?_|refine xL ?_|refine xN ?_|refine xo ?_|refine xp ?_));refine ε ?_;(try refine zF ?_);(try subst hK);(try refine qy ?_);(repeat refine qq ?_);(try generalize hK:aZ _ _ _ _=K);refine ag.cT ?_
 (first|refine xT ?_|refine xL ?_|refine xN ?_|refine xo ?_|refine xp ?_)
 (first|refine xT ?_|refine xL ?_|refine xN ?_|refine xo ?_|refine xp ?_)
 (first|refine xT ?_|refine xL ?_|refine xN ?_|refine xo ?_|refine xp ?_)
 (first|refine xT ?_|refine xL ?_|refine xN ?_|refine xo ?_|refine xp ?_)
 refine Y' (k:=k) (aE:=v) (off:=4) rfl rfl rfl lC (d:=.int .i64 (h.length:Nat)) (by rw[nM];rfl) ?_
 (first|refine xT ?_|refine xL ?_|refine xN ?_|refine xo ?_|refine xp ?_)
 (first|refine xT ?_|refine xL ?_|refine xN ?_|refine xo ?_|refine xp ?_)
 (first|refine xT ?_|refine xL ?_|refine xN ?_|refine xo ?_|refine xp ?_)
 refine ab.RI (k:=k) (v:=v) (off:=0+0) (m:=4) (s:=1) (i:=h.length) rfl rfl rfl rfl rfl rfl (by omega)<|JS (k:=k) (aE:=v) (off:=0+0+h.length*1) (cs:=[gH c]) rfl rfl rfl rfl rfl lC (by rw[hcl];simp;omega) (uM _ rfl) ?_;rw[show(dw h (j0::js)).take (0+0+h.length*1)++[gH c]++(dw h (j0::js)).drop (0+0+h.length*1+[gH c].length)=(h++c::js).map gH++[.int .i64 (h.length:Nat)] from Ni hl];have nC:((h++c::js).map gH).length=4:=by simp;omega
 have hx0:G9 st.bs.length k (ae .rw st) ⟨(ae .rw st).bs.set k (.mem v false ((h++c::js).map gH++[.int .i64 (h.length:Nat)])),(ae .rw st).flr,(ae .rw st).ro⟩:=G9.put ⟨fun _ _ _=>rfl,ζ _,rfl,rfl⟩ _;generalize hS1:(⟨(ae .rw st).bs.set k (.mem v false ((h++c::js).map gH++[.int .i64 (h.length:Nat)])),(ae .rw st).flr,(ae .rw st).ro⟩:St)=S1 at hx0⊢;have yf:S1.bs[k]?=some (.mem v false ((h++c::js).map gH++[.int .i64 (h.length:Nat)])):=by subst hS1;exact ξ kq
 refine ε ?_;(try refine zF ?_);(try subst hK);(try refine qy ?_);(repeat refine qq ?_);(try generalize hK:aZ _ _ _ _=K);refine ag.cT ?_
 (first|refine xT ?_|refine xL ?_|refine xN ?_|refine xo ?_|refine xp ?_)
 (first|refine xT ?_|refine xL ?_|refine xN ?_|refine xo ?_|refine xp ?_)
 (first|refine xT ?_|refine xL ?_|refine xN ?_|refine xo ?_|refine xp ?_)
 refine Y' (k:=k) (aE:=v) (off:=4) rfl rfl rfl yf (d:=.int .i64 (h.length:Nat)) (by rw[←nC,ψ];rfl) ?_
 (first|refine xT ?_|refine xL ?_|refine xN ?_|refine xo ?_|refine xp ?_)
 rw[wrap_i64 (by omega) (by omega)]
 (first|refine xT ?_|refine xL ?_|refine xN ?_|refine xo ?_|refine xp ?_)
 (first|refine xT ?_|refine xL ?_|refine xN ?_|refine xo ?_|refine xp ?_)
 refine JS (k:=k) (aE:=v) (off:=4) (cs:=[.int .i64 ((h.length:Nat)+1:Int)]) rfl rfl rfl rfl rfl yf (by rw[γ,nC];exact ζ _) (uM S1 (by subst hS1;rfl)) ?_
 have oK:((h++c::js).map gH++[Zn .i64 (h.length:Nat)]).take 4++[.int .i64 ((h.length:Nat)+1:Int)]++((h++c::js).map gH++[Zn .i64 (h.length:Nat)]).drop (4+[Zn .i64 ((h.length:Nat)+1:Int)].length)=dw (h++[c]) js:=by
  rw[Ψ nC,τ (by rw[γ,nC];exact ζ _),φ];unfold dw;simp
 rw[oK];have hx1:=hx0.put (.mem v false (dw (h++[c]) js));have D9:(⟨S1.bs.set k (.mem v false (dw (h++[c]) js)),S1.flr,S1.ro⟩:St).bs[k]?=some (.mem v false (dw (h++[c]) js)):=ξ (by have:=hx0.len;have e:(ae .rw st).bs.length=st.bs.length:=rfl;omega);generalize(⟨S1.bs.set k (.mem v false (dw (h++[c]) js)),S1.flr,S1.ro⟩:St)=S2 at hx1 D9⊢;refine ε ?_;(try refine zF ?_);(try subst hK);(try refine qy ?_);(repeat refine qq ?_);(try generalize hK:aZ _ _ _ _=K);refine ag.cT ?_;(repeat(first|refine xT ?_|refine xL ?_|refine xN ?_|refine xo ?_|refine xp ?_));refine ε ?_;(try refine zF ?_);(try subst hK);(try refine qy ?_);(repeat refine qq ?_);refine ag.block ?_;have hlt:((h++[c])++js).length=4:=by simp;omega
 generalize PV:aZ _ _ _ _=K0
 have fin:∀(ai:St) (done:List (Nat×Nat)) (out r n bg:D) (m2:List (Nat×D)) (j:List UInt8),G9 st.bs.length k (ae .rw st) ai→Acc st.bs.length ai 2 out (done.map bD)→ai.bs[k]?=some (.mem v false (dw (hO h c).2 j))→done=(hO h c).1→j=jF (h.length+1) (h++[c]) js→
   K0 .next ⟨9,[.ptr k v 0,.int .u8 (c.toNat:Nat),.tup [],.tup [],.nul,out,r,n,bg],m2⟩ ai:=by
  intro ai done out r n bg m2 j hx rk hm hd hj;subst PV;(try refine qy ?_);(repeat refine qq ?_);(try generalize hK:aZ _ _ _ _=K);refine ag.cT ?_;(repeat(first|refine xT ?_|refine xL ?_|refine xN ?_|refine xo ?_|refine xp ?_));refine ε ?_;(try refine zF ?_);(try subst hK);(try refine qy ?_);refine ag.ret ⟨rx,_,rfl,xR ?_ ?_⟩
  ·have:=hx.take (a:=ae .rw st) kq hm;rw[←hj];exact this
  ·rw[←hd];exact rk.freeze oj (n:=15) (by decide)
 refine ag.loop (fun m fr ai=>∃(f:Nat) (l j:List UInt8) (done:List (Nat×Nat)) (out r n bg:D),fr.clean=⟨9,[.ptr k v 0,.int .u8 (c.toNat:Nat),.tup [],.tup [],.nul,out,r,n,bg],[]⟩∧ai.bs[k]?=some (.mem v false (dw l j))∧(l++j).length=4∧G9 st.bs.length k (ae .rw st) ai∧
  Acc st.bs.length ai 2 out (done.map bD)∧m=l.length∧l.length≤f∧done++(gU f l).1=(hO h c).1∧(gU f l).2=(hO h c).2∧jF f l j=jF (h.length+1) (h++[c]) js∧done.length+l.length≤4) (h.length+1)
  ⟨h.length+1,h++[c],js,[],.nul,_,_,_,rfl,D9,hlt,hx1,.nul,by simp,by simp,rfl,rfl,rfl,by simp;omega⟩ ?_
 clear D9 hx1 oK yf hx0 hS1;rintro m fr ai ⟨f,l,j,done,out,r,n,bg,hfr,B2,QP,hx,rk,rfl,Ke,Pa,RQ,hj,Kg⟩;rw[hfr];have hd4:=qN QP;have hN:st.bs.length≤ai.bs.length:=hx.len;have Mx:ai.flr=st.bs.length:=by rw[hx.flr];rfl
 have F':ai.ro=st.ro:=by rw[hx.ro];rfl
 (try refine qy ?_);(repeat refine qq ?_);(try generalize hK:aZ _ _ _ _=K);refine ag.cT ?_
 (first|refine xT ?_|refine xL ?_|refine xN ?_|refine xo ?_|refine xp ?_)
 (first|refine xT ?_|refine xL ?_|refine xN ?_|refine xo ?_|refine xp ?_)
 (first|refine xT ?_|refine xL ?_|refine xN ?_|refine xo ?_|refine xp ?_)
 refine Y' (k:=k) (aE:=v) (off:=4) rfl rfl rfl B2 (d:=.int .i64 (l.length:Nat)) (by rw[hd4];rfl) ?_;(repeat(first|refine xT ?_|refine xL ?_|refine xN ?_|refine xo ?_|refine xp ?_));refine ε ?_;(try refine zF ?_);(try subst hK);(try refine qy ?_);(repeat refine qq ?_);refine qc (fun h1=>?_) (fun h1=>?_)<;>try simp only[cs] at h1
 ·refine ag.skip ?_;(try refine qy ?_)
  obtain⟨c0,l,rfl⟩:∃a b,l=a::b:=by cases l with|nil=>simp at h1|cons a b=>exact⟨a,b,rfl⟩
  obtain⟨f,rfl⟩:∃f',f=f'+1:=⟨f-1,by simp only[ι] at Ke;omega⟩
  have hl5:=QP;rw[γ] at hl5;have hne:(c0::l)≠[]:=by simp
  have PN:bO (c0::l)=(ef (c0::l)).2.2:=rfl;generalize px:c0::l=ll at*;have QH:gU (f+1) ll=if bO ll=true then([],ll) else(fF ll::(gU f (ll.drop (fF ll).2)).1,(gU f (ll.drop (fF ll).2)).2):=by rw[←px];rfl
  have hjF:jF (f+1) ll j=if bO ll=true then j else jF f (ll.drop (fF ll).2) ((ll++j).drop (ll.length-(fF ll).2)):=by rw[←px];rfl
  have aaY:=tj QP;have LZ:=uU (st:=ai) (l:=0) (r:=ll.length) B2 (R2 _) (by rw[γ];omega);rw[Q5,ς] at LZ;(try refine qy ?_);(repeat refine qq ?_);refine ag.block ?_;(try refine qy ?_);(repeat refine qq ?_);(try generalize hK:aZ _ _ _ _=K);refine ag.cT ?_
  (first|refine xT ?_|refine xL ?_|refine xN ?_|refine xo ?_|refine xp ?_)
  (first|refine xT ?_|refine xL ?_|refine xN ?_|refine xo ?_|refine xp ?_)
  (first|refine xT ?_|refine xL ?_|refine xN ?_|refine xo ?_|refine xp ?_)
  (first|refine xT ?_|refine xL ?_|refine xN ?_|refine xo ?_|refine xp ?_)
  (first|refine xT ?_|refine xL ?_|refine xN ?_|refine xo ?_|refine xp ?_)
  (first|refine xT ?_|refine xL ?_|refine xN ?_|refine xo ?_|refine xp ?_)
  refine Y' (k:=k) (aE:=v) (off:=4) rfl rfl rfl B2 (d:=.int .i64 (ll.length:Nat)) (by rw[hd4];rfl)<|P8 (l:=0) (r:=ll.length) rfl rfl rfl rfl rfl B2 (by rw[aaY];decide) ?_ ?_
  ·show cF 4 none (some (.int .i64 (ll.length:Nat)))=_;simp only[cF,gW,ky];rw[if_pos ⟨by omega,by omega⟩];rfl
  refine PR rfl rfl rfl (d:=.tup [.int .i32 ((ef ll).1:Nat),.int .i64 ((ef ll).2.1:Nat),.bool (ef ll).2.2]) (st1:=ai) (tg LZ) ?_;(repeat(first|refine xT ?_|refine xL ?_|refine xN ?_|refine xo ?_|refine xp ?_));refine ε ?_;(try refine zF ?_);(try subst hK);(try refine qy ?_);(repeat refine qq ?_);(try generalize hK:aZ _ _ _ _=K);refine ag.cT ?_;(repeat(first|refine xT ?_|refine xL ?_|refine xN ?_|refine xo ?_|refine xp ?_));refine ε ?_;(try refine zF ?_);(try subst hK);(try refine qy ?_);(repeat refine qq ?_);refine qc (fun h2=>?_) (fun h2=>?_)<;>try simp only[cs] at h2
  ·refine ag.exit ?_;rw[←PN] at h2;rw[QH,if_pos h2] at Pa RQ;rw[hjF,if_pos h2] at hj;refine fin ai done out _ _ _ _ j hx rk ?_ ?_ hj
   ·rw[←RQ];exact B2
   ·rw[←Pa,φ]
  refine ag.skip ?_;(try refine qy ?_);have TW:¬bO ll=true:=by rw[PN,h2];simp
  rw[QH,if_neg TW] at Pa RQ;rw[hjF,if_neg TW] at hj;have iN:=wm hne;have hgp:=kK ll;generalize hf:ef ll=F at*;obtain⟨r0,n0,bg0⟩:=F;(try refine qy ?_);(repeat refine qq ?_);(try generalize hK:aZ _ _ _ _=K);refine ag.cT ?_;(repeat(first|refine xT ?_|refine xL ?_|refine xN ?_|refine xo ?_|refine xp ?_));refine ε ?_;(try refine zF ?_);(try subst hK);(try refine qy ?_);generalize hK:aZ _ _ _ _=K
  have H:∀m2,K .next ⟨9,[.ptr k v 0,.int .u8 (c.toNat:Nat),.tup [],.tup [],.nul,out,.int .i32 ((fF ll).1:Nat),.int .i64 ((fF ll).2:Nat),.bool bg0],m2⟩ ai:=by
   intro m2;subst hK;generalize hg:fF ll=g at*;(try refine qy ?_);(repeat refine qq ?_);(try generalize hK:aZ _ _ _ _=K);refine ag.cT ?_
   (first|refine xT ?_|refine xL ?_|refine xN ?_|refine xo ?_|refine xp ?_)
   (first|refine xT ?_|refine xL ?_|refine xN ?_|refine xo ?_|refine xp ?_)
   (first|refine xT ?_|refine xL ?_|refine xN ?_|refine xo ?_|refine xp ?_)
   refine AT rfl rfl rfl (d:=.agg (bD g)) (st1:=ai) rfl<|AT rfl rfl rfl (d:=.win ai.bs.length 0 0 1 2) (st1:=ai.push (.mem 0 true (bD g))) rfl<|Pd rfl rfl rfl rfl (rk.push _) (Rows.one rfl) rfl rfl rfl rfl rfl rfl rfl (by decide) (by simp[St.push];omega) (by show ai.flr≤_;omega) (by show ai.ro≤_;omega) (by simp only[δ,ι,Ξ];show(done.length+1)*16≤_;omega) fun Li st2 Eg Ea _ Av _=>?_;(repeat(first|refine xT ?_|refine xL ?_|refine xN ?_|refine xo ?_|refine xp ?_));refine ε ?_;(try refine zF ?_);(try subst hK);(try refine qy ?_);have Jm:G9 st.bs.length k (ae .rw st) st2:=(hx.of (Ex.push hN (.mem 0 true (bD g)))).of Ea
   have Ss:st2.bs[k]?=some (.mem v false (dw ll j)):=by
    rw[Ea.low k (by omega)];simp only[St.push];rw[Wh (by omega)];exact B2
   have U5:st2.ro=st.ro:=by rw[Jm.ro];rfl
   (try refine qy ?_);(repeat refine qq ?_);(try generalize hK:aZ _ _ _ _=K);refine ag.cT ?_
   (first|refine xT ?_|refine xL ?_|refine xN ?_|refine xo ?_|refine xp ?_)
   (first|refine xT ?_|refine xL ?_|refine xN ?_|refine xo ?_|refine xp ?_)
   refine PR rfl rfl rfl (P9 Ss QP iN (by omega)) ?_;(repeat(first|refine xT ?_|refine xL ?_|refine xN ?_|refine xo ?_|refine xp ?_));refine ε ?_;(try refine zF ?_);(try subst hK);(try refine qy ?_);have hk2:k<st2.bs.length:=by have:=Jm.len;have e:(ae .rw st).bs.length=st.bs.length:=rfl;omega
   refine⟨(ll.drop g.2).length,by rw[η];omega,f,ll.drop g.2,(ll++j).drop (ll.length-g.2),done++[g],Li,_,_,_,rfl,ξ hk2,?_,Jm.put _,?_,rfl,?_,?_,RQ,hj,?_⟩
   ·rw[γ,η,η,QP];omega
   ·rw[Φ];exact yZ kq Eg _
   ·rw[η];omega
   ·rw[←Pa,ν,List.singleton_append]
   ·rw[γ,η];simp only[ι,Ξ];omega
  (try refine qy ?_);(repeat refine qq ?_);refine qc (fun h5=>?_) (fun h5=>?_)<;>try simp only[cs] at h5
  ·refine ag.cT ?_;(repeat(first|refine xT ?_|refine xL ?_|refine xN ?_|refine xo ?_|refine xp ?_));refine ε ?_;(try refine zF ?_);have:fF ll=(65533,1):=by unfold fF;rw[hf,if_pos (by simpa using h5)]
   rw[this] at H;exact H _
  ·refine ag.skip ?_;have:fF ll=(r0,n0):=by unfold fF;rw[hf,if_neg (by simpa using h5)]
   rw[this] at H;exact H _
 ·refine ag.exit ?_
  obtain rfl:l=[]:=by cases l with|nil=>rfl|cons a b=>simp at h1<;>omega
  refine fin ai done out r n bg _ j hx rk ?_ ?_ ?_
  ·have:(hO h c).2=[]:=by rw[←RQ];cases f<;>rfl
   rw[this];exact B2
  ·have:(gU f ([]:List UInt8)).1=[]:=by cases f<;>rfl
   rw[←Pa,this,φ]
  ·rw[←hj];cases f<;>rfl
theorem H4 (hm:st.bs[k]?=some (.mem v false (dw h j))) (hl:(h++j).length=4) (du:st.ro≤st.bs.length):Ev pv 106 [.ptr k v 0] st (bF h) st:=by
 refine Ut rfl XZ rfl rfl rfl ?_;refine zE ?_;have lC:(ae .rw st).bs[k]?=some (.mem v false (dw h j)):=hm;have ry:=hl;rw[γ] at ry;have hcl:=tj hl;have nM:=qN hl;have LZ:=uU (st:=ae .rw st) (l:=0) (r:=h.length) lC (R2 _) (by rw[hl];omega);rw[Q5,ς] at LZ;refine zR ?_;refine zU ?_
 refine zW ?_
 refine zW ?_
 refine zW ?_
 refine zW ?_
 refine zW ?_
 refine zW ?_
 refine Y' (k:=k) (aE:=v) (off:=4) rfl rfl rfl lC (d:=.int .i64 (h.length:Nat)) (by rw[nM];rfl) ?_;refine P8 (l:=0) (r:=h.length) rfl rfl rfl rfl rfl lC (by rw[hcl];decide) ?_ ?_
 ·show cF 4 none (some (.int .i64 (h.length:Nat)))=_;simp only[cF,gW,ky];rw[if_pos ⟨by omega,by omega⟩];rfl
 refine Pd (N:=st.bs.length) (x:=.nul) (es:=[]) (y:=.win k v 0 (h.length-0) 1) (ys:=byteCells h) rfl rfl rfl rfl .nul LZ rfl rfl rfl rfl rfl rfl rfl (by decide) (ζ _) (ζ _) du (by rw[au];show(0+h.length)*1≤_;omega) fun x' st2 rk hex _ _ _=>?_;rw[χ] at rk;refine zX ?_;refine zN ?_;refine ag.ret ⟨rx,_,rfl,aU (by simp) (hex.take rfl) ?_⟩;exact rk.freeze (cq h) (n:=15) (by decide)
theorem FN (st:St):Ev pv 103 [] st (.ptr st.bs.length 0 0) (st.push (.mem 0 false (dw [] [0,0,0,0]))):=by
 refine Ut rfl X2 rfl rfl rfl ?_;refine zE ?_;refine zR ?_;refine zR ?_;exact ag.ret ⟨rx,_,rfl,rfl⟩
theorem Qz (hb:Bytes st x h) (ba:bO h=true∨h=[]) (h3:h.length≤3) (du:st.ro≤st.bs.length):
  Ev pv 95 [x] st (.tup [.ptr st.bs.length 0 0,.int .i64 0]) (st.push (.mem 0 false (dw h (([0,0,0,0]:List UInt8).drop h.length)))):=by
 have hx:=hb.ref;have hbl:=au h;refine Ut rfl Wq rfl rfl rfl ?_;refine zE ?_;refine zR ?_;refine zU ?_
 refine zW ?_
 refine PR rfl rfl rfl (tg hb) ?_;refine zX ?_;refine zN ?_;have PN:(ef h).2.2=bO h:=rfl;rw[PN];generalize(ef h).1=r0;generalize(ef h).2.1=n0
 cases hbg:bO h with
 |true=>
  refine zR ?_;(repeat refine qq ?_);refine ag.cond (v:=false) rfl (fun h=>by cases h) fun _=>?_;(try refine qy ?_);refine ag.skip ?_;(try refine qy ?_);have lC:(st.push (.mem 0 false (dw [] [0,0,0,0]))).bs[st.bs.length]?=some (.mem 0 false (dw [] [0,0,0,0])):=iS st _;have hb1:Bytes (st.push (.mem 0 false (dw [] [0,0,0,0]))) x h:=hb.ex (Ex.push (ζ _) _) hx;have uM:∀S:St,S.ro=st.ro→S.ku st.bs.length 0=true:=fun S hS=>nH (by omega);refine zU ?_;refine PR rfl rfl rfl (FN st) ?_;refine zX ?_;refine zN ?_;refine zU ?_
  refine zW ?_
  refine zW ?_
  refine zW ?_
  refine zW ?_
  refine P8 (k:=st.bs.length) (v:=0) (off:=0) (l:=0) (r:=4) rfl rfl rfl rfl rfl lC (by decide) rfl ?_
  refine zW ?_
  refine R3 (k:=st.bs.length) (aE:=0) (off:=0) (len:=4) (s:=1) (ys:=byteCells h) (ar:=false) (c:=dw [] [0,0,0,0]) rfl rfl rfl rfl hb1 rfl rfl lC (by decide) ?_ ?_
  ·rw[dK]
   have:∀(b:List UInt8) m,refs ((b.map gH).take m)=0:=by
    intro b m
    induction b generalizing m with
    |nil=>simp[refs]
    |cons y b ih=>cases m with
     |zero=>simp[refs]
     |succ m=>simp only[ZD,μ,refs,ih];rfl
   rw[this];exact uM _ rfl
  have D8:min (byteCells h).length 4=h.length:=by omega
  rw[D8,dK]
  have PM:(dw [] [0,0,0,0]).take 0++(h.map gH).take (h.length*1)++(dw [] [0,0,0,0]).drop (0+h.length*1)=(h++([0,0,0,0]:List UInt8).drop h.length).map gH++[.int .i64 0]:=by
   rw[ο,χ,IN,VT];have e1:(h.map gH).take h.length=h.map gH:=υ (by simp);rw[e1,Φ,ν]
   congr 1
   show([0,0,0,0].map gH++[Zn .i64 0]).drop h.length=_;rw[Θ (by simp;omega),xw]
  rw[PM];have hlt:((h++([0,0,0,0]:List UInt8).drop h.length).map gH).length=4:=by simp;omega
  have hT:∃T:List D,T=(h++([0,0,0,0]:List UInt8).drop h.length).map gH:=⟨_,rfl⟩
  obtain⟨T,hT⟩:=hT;rw[←hT] at hlt⊢;have Cz:∀b b':lu,(⟨(st.push b).bs.set st.bs.length b',(st.push b).flr,(st.push b).ro⟩:St)=st.push b':=fun b b'=>sB rfl
  refine zW ?_
  refine zW ?_
  rw[Cz];refine JS (k:=st.bs.length) (aE:=0) (off:=4) (cs:=[.int .i64 (h.length:Nat)]) rfl rfl rfl rfl rfl (iS st _) (by rw[γ,hlt];exact ζ _) (uM _ rfl) ?_;rw[Cz]
  have oK:(T++[Zn .i64 0]).take 4++[.int .i64 (h.length:Nat)]++(T++[Zn .i64 0]).drop (4+[Zn .i64 (h.length:Nat)].length)=dw h (([0,0,0,0]:List UInt8).drop h.length):=by
   rw[Ψ hlt,τ (by rw[γ,hlt];exact ζ _),φ,hT]
   rfl
  rw[oK];refine zN ?_;refine zR ?_;exact ag.ret ⟨rx,_,rfl,rfl⟩
 |false=>
  have Fa:h.length=0:=by
   rcases ba with h'|h'
   ·rw[hbg] at h';cases h'
   ·rw[h'];rfl
  refine zU ?_
  refine zW ?_
  refine zW ?_
  refine zW ?_
  refine zW ?_
  refine AN rfl rfl rfl hb rfl ?_;rw[hbl];refine zY ?_;refine zN ?_;(repeat refine qq ?_);refine ag.cond (v:=false) rfl (fun h=>by cases h) fun _=>?_;(try refine qy ?_);refine ag.skip ?_;(try refine qy ?_);have lC:(st.push (.mem 0 false (dw [] [0,0,0,0]))).bs[st.bs.length]?=some (.mem 0 false (dw [] [0,0,0,0])):=iS st _;have hb1:Bytes (st.push (.mem 0 false (dw [] [0,0,0,0]))) x h:=hb.ex (Ex.push (ζ _) _) hx;have uM:∀S:St,S.ro=st.ro→S.ku st.bs.length 0=true:=fun S hS=>nH (by omega);refine zU ?_;refine PR rfl rfl rfl (FN st) ?_;refine zX ?_;refine zN ?_;refine zU ?_
  refine zW ?_
  refine zW ?_
  refine zW ?_
  refine zW ?_
  refine P8 (k:=st.bs.length) (v:=0) (off:=0) (l:=0) (r:=4) rfl rfl rfl rfl rfl lC (by decide) rfl ?_
  refine zW ?_
  refine R3 (k:=st.bs.length) (aE:=0) (off:=0) (len:=4) (s:=1) (ys:=byteCells h) (ar:=false) (c:=dw [] [0,0,0,0]) rfl rfl rfl rfl hb1 rfl rfl lC (by decide) ?_ ?_
  ·rw[dK]
   have:∀(b:List UInt8) m,refs ((b.map gH).take m)=0:=by
    intro b m
    induction b generalizing m with
    |nil=>simp[refs]
    |cons y b ih=>cases m with
     |zero=>simp[refs]
     |succ m=>simp only[ZD,μ,refs,ih];rfl
   rw[this];exact uM _ rfl
  have D8:min (byteCells h).length 4=h.length:=by omega
  rw[D8,dK]
  have PM:(dw [] [0,0,0,0]).take 0++(h.map gH).take (h.length*1)++(dw [] [0,0,0,0]).drop (0+h.length*1)=(h++([0,0,0,0]:List UInt8).drop h.length).map gH++[.int .i64 0]:=by
   rw[ο,χ,IN,VT];have e1:(h.map gH).take h.length=h.map gH:=υ (by simp);rw[e1,Φ,ν]
   congr 1
   show([0,0,0,0].map gH++[Zn .i64 0]).drop h.length=_;rw[Θ (by simp;omega),xw]
  rw[PM];have hlt:((h++([0,0,0,0]:List UInt8).drop h.length).map gH).length=4:=by simp;omega
  have hT:∃T:List D,T=(h++([0,0,0,0]:List UInt8).drop h.length).map gH:=⟨_,rfl⟩
  obtain⟨T,hT⟩:=hT;rw[←hT] at hlt⊢;have Cz:∀b b':lu,(⟨(st.push b).bs.set st.bs.length b',(st.push b).flr,(st.push b).ro⟩:St)=st.push b':=fun b b'=>sB rfl
  refine zW ?_
  refine zW ?_
  rw[Cz];refine JS (k:=st.bs.length) (aE:=0) (off:=4) (cs:=[.int .i64 (h.length:Nat)]) rfl rfl rfl rfl rfl (iS st _) (by rw[γ,hlt];exact ζ _) (uM _ rfl) ?_;rw[Cz]
  have oK:(T++[Zn .i64 0]).take 4++[.int .i64 (h.length:Nat)]++(T++[Zn .i64 0]).drop (4+[Zn .i64 (h.length:Nat)].length)=dw h (([0,0,0,0]:List UInt8).drop h.length):=by
   rw[Ψ hlt,τ (by rw[γ,hlt];exact ζ _),φ,hT]
   rfl
  rw[oK];refine zN ?_;refine zR ?_;exact ag.ret ⟨rx,_,rfl,rfl⟩
def uC (fr:Go.V.Fr) (k:Nat):Go.V.D:=Go.V.nth .bI fr.loc k
def iJ (code:List aP) (ss:List Nat):List (Nat×Nat)→Nat→List PL→Nat×List PL
 |[],pl,ls=>(pl,ls)
 |g::gs,pl,ls=>iJ code ss gs (pl+mS (g.2:Nat)) (jE code pl (g.1:Nat) ss ls)
theorem Bo (code:List aP) (ss:List Nat):∀(a:List (Nat×Nat)) (pl:Nat) (ls:List PL),(iJ code ss a pl ls).1≤pl+4*a.length
 |[],_,_=>ζ _
 |g::a,pl,ls=>by
  simp only[iJ,ι];have:=Bo code ss a (pl+mS (g.2:Nat)) (jE code pl (g.1:Nat) ss ls);have:=uR ((g.2:Nat):Int);omega
theorem wg {p:Pg} (hR:bm p):∀(a:List (Nat×Nat)) (pl:Nat) (ls:List PL),ls.length=p.ak.length→(∀l∈ls,l.ok p.code.length)→(iJ p.code (aG p) a pl ls).2.length=p.ak.length∧∀l∈(iJ p.code (aG p) a pl ls).2,l.ok p.code.length
 |[],_,_,h1,h2=>⟨h1,h2⟩
 |g::a,pl,ls,h1,h2=>by
  simp only[iJ];refine wg hR a _ _ ?_ (fun l hl=>tT hR (wK hR) l hl);rw[lS _ _ _ _ _ (by unfold aG;rw[δ];omega)];exact h1
theorem pV (code:List aP) (ss:List Nat):∀(a:List (Nat×Nat)) (pl:Nat) (ls:List PL),iJ (code.map ga) ss a pl ls=iJ code ss a pl ls
 |[],_,_=>rfl
 |g::a,pl,ls=>by simp only[iJ,va,pV code ss a]
variable{L:List VL}
theorem ia (h:∀l∈L.map VL.pl,l.ok n):∀l∈L,l.pl.ok n:=fun l hl=>h _ (Cr hl)
variable{ks kv pl:Nat}{S s0:St}{H:List bo}{p:Pg}{ld:D}
theorem CQ (dE:∀st,Ev pv 149 [] st (.agg (aA bK)) st) {gs:List (Nat×Nat)} (hF:S.flr≤N) (hp:p.ok) (hR:bm p) (fT:pl+4*gs.length≤3000000000000) (yh:gs.length≤1048576) (zq:L.length=p.ak.length) (ba:∀l∈L,l.pl.ok p.code.length) (hM:MH [] N S s0 ks kv p pl ld L H):
  ∃d ai,Ev pv 110 [.ptr kv 0 0,gY gs] s0 d ai∧d=.tup []∧∃F3 L',L'.map VL.pl=(iJ p.code (aG p) gs pl (L.map VL.pl)).2∧MH [] N S ai ks kv p (iJ p.code (aG p) gs pl (L.map VL.pl)).1 F3 L' H:=by
 obtain⟨pd,qd,P,Q,sn,hH,jj,ej⟩:=hM;have PE:Arg N S 2 (gY gs) (gs.map bD):=Arg.pure (fun st=>gC st gs);dsimp only[u4] at hH;refine IT rfl XW rfl rfl rfl ?_;refine zE ?_;change ag _ _ _ _ s0 _;refine zQ 3 ?_;refine qn ?_;simp only[δ];refine zQ 3 ?_;refine ag.loop (fun mm fr st=>∃(i y8:Nat) (ld pd qd:D) (L':List VL) (P Q:List Nat) (sn:List Bool),fr.clean=⟨9,[.ptr kv 0 0,uC fr 1,uC fr 2,uC fr 3,uC fr 4,uC fr 5,gY gs,.int .i64 (gs.length:Nat),.int .i64 (i:Nat)],[]⟩∧Has N S st (.box kv (.mem 0 false [p.cd,p.sd,.int .i64 (y8:Nat),ld,.ptr ks 0 0])::.box ks (.mem 0 false [pd,qd])::.aF pd 1 (P.map jG)::.aF qd 2 (Q.map sN)::.aF ld 12 (L'.map iR)::(L'.map tG++H))∧(i+mm=gs.length)∧(eQ P Q sn)∧(sn.length=p.code.length)∧(iJ p.code (aG p) (gs.drop i) y8 (L'.map VL.pl)=iJ p.code (aG p) gs pl (L.map VL.pl))∧(y8≤pl+4*i)∧(L'.length=p.ak.length)∧(∀l∈L',l.pl.ok p.code.length)) (gs.length) ?_ ?_
 ·exact⟨0,pl,ld,pd,qd,L,P,Q,sn,rfl,hH,by omega,jj,ej,rfl,by omega,zq,ba⟩
 rintro mm fr st ⟨i,y8,ld,pd,qd,L',P,Q,sn,hfr,hH,hi,jj,ej,rP,Ma,aa4,vQ⟩;rw[hfr];clear hfr;generalize uC fr=ee;clear fr;have RY:=hR.sl;refine zQ 5 ?_;refine zP (fun hlt=>?_) fun hlt=>?_
 ·refine zQ 1 ?_;have hil:i<gs.length:=by omega
  obtain⟨g,YJ⟩:∃g,gs[i]?=some g:=⟨gs[i]'hil,θ _⟩
  have gw:(gs.map bD)[i]?=some (bD g):=by rw[Z5,YJ];rfl
  have TR:=uR ((g.2:Nat):Int)
  have vP:gs.drop i=g::gs.drop (i+1):=by
   rw[List.drop_eq_getElem_cons hil]
   congr 1
   exact Option.some.inj ((θ _).symm.trans YJ)
  refine zQ 4 ?_;refine qr fun TE Jt=>?_;refine cg rfl (ev rfl) (by assumption) rfl (aa rfl _) ?_;refine qa hH fun k5 st Kf hH=>?_;refine qS hH aB fun st hH=>?_;dsimp only[u2,u1,u3,u4,setMany,u5,u6,YH,π,bD] at hH;refine zQ 7 ?_;obtain⟨_,st,ax,rfl,L1,TU,hM⟩:=Qp (r:=((g.1:Nat):Int)) (n:=((g.2:Nat):Int)) dE hF hp hR (by omega) aa4 vQ (MH.push [_] [] (H:=H) ⟨pd,qd,P,Q,sn,hH,jj,ej⟩);obtain⟨pd,qd,P,Q,sn,hH,jj,ej⟩:=MH.pull [_] [] (H:=H) hM;dsimp only[u3,u4] at hH;refine qv ax ?_;refine zQ 1 ?_
  have adK:L1.length=L'.length:=by
   have:=congrArg Pe TU;rw[δ,lS _ _ _ _ _ (by unfold aG;simp;omega),δ] at this;exact this
  have aa3:∀l∈L1,l.pl.ok p.code.length:=fun l hl=>tT hR (wK hR) _ (by rw[←TU];exact Cr hl);refine zQ 4 ?_;exact⟨mm-1,by omega,⟨i+1,y8+mS ((g.2:Nat):Int),_,pd,qd,L1,P,Q,sn,rfl,(hH.drop 1),by omega,jj,ej,(by rw[←rP,vP,TU];rfl),by omega,by omega,aa3⟩⟩
 ·refine zQ 1 ?_;refine⟨fun i h=>(by cases h),_,_,_,rfl,rfl,?_⟩;have vP:gs.drop i=[]:=by rw[List.drop_eq_nil_iff];omega
  rw[vP] at rP;have rP:(y8,L'.map VL.pl)=iJ p.code (aG p) gs pl (L.map VL.pl):=rP;rw[←rP];exact⟨rfl,ld,L',rfl,pd,qd,P,Q,sn,hH,jj,ej⟩
theorem NF (hb:Bytes st x b) (hlen:b.length≤1048576):Ev pv 142 [x] st (.bool (bO b)) st:=by
 refine Ut rfl XI rfl rfl rfl ?_;refine zE ?_;have hb:=hb.enter .ro;have hbl:=au b;have hf:=(yx b).1;refine zR ?_;refine zU ?_
 refine zW ?_
 refine PR rfl rfl rfl (P5 hb hlen) ?_;refine zX ?_;refine zN ?_;generalize(eE b).1=k at*;generalize(eE b).2=n at*
 by_cases h1:0<k
 ·by_cases h2:k<n
  ·by_cases h3:k=b.length
   ·rw[hf.2 ⟨h1,h2,h3⟩];refine zU ?_;refine zY ?_;refine AN rfl rfl rfl hb rfl ?_;rw[hbl];refine zY ?_;refine zN ?_;refine ag.ret ⟨rx,_,rfl,aU (by simp) (by simp[ae]) ?_⟩
    rfl
   ·have:bO b=false:=by
     cases h:bO b with
     |false=>rfl
     |true=>have:=hf.1 h;omega
    rw[this];refine zU ?_;refine zY ?_;refine AN rfl rfl rfl hb rfl ?_;rw[hbl];refine zY ?_;refine zN ?_;refine ag.ret ⟨rx,_,rfl,aU (by simp) (by simp[ae]) ?_⟩
    rfl
  ·have:bO b=false:=by
    cases h:bO b with
    |false=>rfl
    |true=>have:=hf.1 h;omega
   rw[this];refine zV ?_;refine ag.ret ⟨rx,_,rfl,aU (by simp) (by simp[ae]) ?_⟩
   rfl
 ·have:bO b=false:=by
   cases h:bO b with
   |false=>rfl
   |true=>have:=hf.1 h;omega
  rw[this];refine zV ?_;refine ag.ret ⟨rx,_,rfl,aU (by simp) (by simp[ae]) ?_⟩
  rfl
theorem ES {l:List UInt8} (h:bO l=true):l.length≤3:=by
 obtain⟨h1,h2,h3⟩:=(yx l).1.1 h
 cases l with
 |nil=>simp
 |cons c xs=>
  have:=xG c.toNat;simp only[eE] at h2 h3
  split at h2
  ·simp at h2
  ·split at h2
   ·split at h2
    ·rw[←h3];rename_i a1 a2 a3;rw[if_neg a1,if_pos a2,if_pos a3];simp only;omega
    ·simp at h2
   ·simp at h2
theorem Hf:∀(f:Nat) (l:List UInt8),l.length≤f→(gU f l).2.length≤3
 |0,l,h=>by
  simp[gU];have:l=[]:=List.length_eq_zero_iff.1 (by omega);subst this;simp
 |f+1,[],_=>by simp[gU]
 |f+1,c::l,h=>by
  simp only[gU]
  split
  ·rename_i hb;exact ES hb
  ·have hp:=kK (c::l);exact Hf f _ (by rw[η];simp only[ι] at h⊢;omega)
theorem Kz:∀(f:Nat) (l:List UInt8),(gU f l).1.length≤f
 |0,l=>by simp[gU]
 |f+1,[]=>by simp[gU]
 |f+1,c::l=>by
  simp only[gU]
  split
  ·simp
  ·simp only[ι];have:=Kz f ((c::l).drop (fF (c::l)).2);omega
theorem LS:∀(f:Nat) (l j:List UInt8),(l++j).length=4→l.length≤f→((gU f l).2++jF f l j).length=4
 |0,l,j,h,hf=>by
  have:l=[]:=by cases l with|nil=>rfl|cons _ _=>simp at hf
  subst this;exact h
 |f+1,[],j,h,_=>by simpa[gU,jF] using h
 |f+1,c::l,j,h,hf=>by
  simp only[gU,jF]
  split
  ·exact h
  ·have hp:=kK (c::l);have hle:=wm (b:=c::l) (by simp);rw[γ] at h;refine LS f _ _ ?_ ?_
   ·rw[γ,η,η,γ];omega
   ·rw[η];simp only[ι] at hf⊢;omega
theorem wJ:∀(f:Nat) (l:List UInt8),l.length≤f→(gU f l).2=[]∨bO (gU f l).2=true
 |0,l,h=>by
  have:l=[]:=by cases l with|nil=>rfl|cons _ _=>simp at h
  subst this;exact .inl rfl
 |f+1,[],_=>.inl rfl
 |f+1,c::l,h=>by
  simp only[gU]
  split
  ·rename_i hb;exact .inr hb
  ·have hp:=kK (c::l);exact wJ f _ (by rw[η];simp only[ι] at h⊢;omega)
def SH (A:List bo) (N:Nat) (S st:St) (kS kd kv ks:Nat) (p:Pg) (pl:Nat) (ld:D) (L:List VL) (h:List UInt8) (H:List bo):Prop:=
 ∃pd qd P Q sn js,Has N S st (A++(.box kS (.mem 0 false [.ptr kd 0 0,.ptr kv 0 0])::.box kd (.mem 0 false (dw h js))::(iu ks kv p pl ld pd qd P Q L++H)))∧eQ P Q sn∧sn.length=p.code.length∧(h++js).length=4
def vd (code:List aP) (ss:List Nat) (x:List UInt8×Nat×List PL) (c:UInt8):List UInt8×Nat×List PL:=
 ((hO x.1 c).2,iJ code ss (hO x.1 c).1 x.2.1 x.2.2)
def dH (code:List aP) (ss:List Nat) (b:List UInt8) (x:List UInt8×Nat×List PL):List UInt8×Nat×List PL:=b.foldl (vd code ss) x
theorem GU:(hO h c).2.length≤3:=Hf _ _ (by simp)
theorem yQ:(hO h c).1.length≤h.length+1:=by
 unfold hO;exact Kz _ _
theorem Om (hH:Has N S s0 H):∃kd ai,Ev pv 103 [] s0 (.ptr kd 0 0) ai∧Has N S ai (.box kd (.mem 0 false (dw [] [0,0,0,0]))::H):=
 ⟨_,_,FN s0,hH.p_ _⟩
variable{i kd:Nat}
theorem Nj (hH:Has N S s0 H) (hi:H[i]?=some (.box kd (.mem 0 false (dw h js)))) (hl:(h++js).length=4) (h3:h.length≤3):
  ∃ai js',Ev pv 165 [.ptr kd 0 0,.int .u8 (c.toNat:Nat)] s0 (gY (hO h c).1) ai∧((hO h c).2++js').length=4∧Has N S ai (H.set i (.box kd (.mem 0 false (dw (hO h c).2 js')))):=by
 obtain⟨j0,js,rfl⟩:∃a b,js=a::b:=by
  cases js with
  |nil=>simp at hl;omega
  |cons a b=>exact⟨a,b,rfl⟩
 have hge:=hH.ge hi;refine⟨_,_,Qk (hH.at hi) hl (by rw[hH.ex.ro];exact YQ hH.du hge.1),?_,hH.rE (aE:=0) hi⟩;unfold hO;exact LS _ _ _ (by simp at hl⊢;omega) (by simp)
theorem Ht (dE:∀st,Ev pv 149 [] st (.agg (aA bK)) st) (hF:S.flr≤N) (hp:p.ok) (hR:bm p) (hH:Has N S s0 H):
  ∃r ai,Ev pv 43 [p.d] s0 r ai∧∃kS kd kv ks q ld L,r=.tup [.ptr kS 0 0,.int .i64 0]∧uY p q∧L.map VL.pl=(aG p).map jN∧SH [] N S ai kS kd kv ks q 0 ld L [] H:=by
 have Vt:∀{st H},Has N S st H→∃r ai,Ev pv 102 [p.d] st r ai∧∃kv ks q ld L,r=.tup [.ptr kv 0 0,.int .i64 0]∧uY p q∧L.map VL.pl=(aG p).map jN∧MH [] N S ai ks kv q 0 ld L H:=fun{st H} h=>Ol dE hF hp hR h;unfold Pg.d at*;refine IT rfl abL rfl rfl rfl ?_;refine zE ?_;change ag _ _ _ _ s0 _;refine zQ 2 ?_;refine qb hH fun k1 st rj hH=>?_;dsimp only[u2,u1,u3,u4,setMany,u5,u6,YH,π,Pg.cs] at hH;refine zQ 5 ?_;refine OF (m:=2) hH rfl (ev rfl) (by exact aB) (by dsimp only[ρ,ς,μ,ο,Pg.cs]<;>rfl) rfl rfl (aa rfl _) ?_;obtain⟨_,st,ax,kv,ks,q,ld,L,rfl,hq,hL,hM⟩:=Vt hH;refine qv ax ?_;refine zQ 12 ?_;refine ag.cond (v:=false) (by dsimp only[Fr.ev,Fr.get,nth,V.look];rfl) (fun h=>by cases h) (fun _=>?_);refine zQ 1 ?_;obtain⟨pd,qd,P,Q,sn,hH,ba,ej⟩:=vm hM;dsimp only[u4] at hH;refine zQ 2 ?_;obtain⟨kd,st,ax,hH⟩:=Om hH;refine qv ax ?_;refine qm ?_;refine ab.jc (qs:=[(0,_),(1,_)]) rfl rfl rfl rfl ⟨rfl,(ev rfl),(by rfl),rfl,(ev rfl),(by rfl),trivial⟩ (by intro q hq;simp only[List.mem_cons,List.not_mem_nil,or_false] at hq;rcases hq with rfl|rfl<;>exact⟨rfl,by exact Γ rfl⟩) (by show κ _ [_,_] _=_;dsimp only[List.foldl_cons,List.foldl_nil,u2,u1]<;>rfl) (aa rfl _) ?_;refine qb hH fun k17 st SF hH=>?_;refine zQ 3 ?_;refine ag.ret ⟨rx,_,_,_,rfl,rfl,?_⟩;refine⟨k17,kd,kv,ks,q,ld,L,rfl,hq,hL,pd,qd,P,Q,sn,[0,0,0,0],?_,ba,ej,rfl⟩;have hH:=Has.jA (_::_::iu ks kv q 0 ld pd qd P Q L) [_] (H:=H) hH;exact hH.drop 1
variable{kS:Nat}
theorem KR (dE:∀st,Ev pv 149 [] st (.agg (aA bK)) st) (hF:S.flr≤N) (hp:p.ok) (hR:bm p) (fT:pl≤2000000000000) (h3:h.length≤3) (zq:L.length=p.ak.length) (vQ:∀l∈L,l.pl.ok p.code.length) (hM:SH [] N S s0 kS kd kv ks p pl ld L h H):
  ∃d ai,Ev pv 105 [.ptr kS 0 0,.int .u8 (c.toNat:Nat)] s0 d ai∧d=.tup []∧∃F3 L',L'.map VL.pl=(iJ p.code (aG p) (hO h c).1 pl (L.map VL.pl)).2∧SH [] N S ai kS kd kv ks p (iJ p.code (aG p) (hO h c).1 pl (L.map VL.pl)).1 F3 L' (hO h c).2 H:=by
 obtain⟨pd,qd,P,Q,sn,js,hH,ba,ej,hl⟩:=hM;have mO:=yQ (h:=h) (c:=c);dsimp only[u4] at hH;have Sz:=(hH.ge aO).2;have hkv:=hH.xV (j:=2) (k:=kv) rfl rfl;refine IT rfl X0 rfl rfl rfl<|zE ?_;change ag _ _ _ _ s0 _;have za:=hH;change ag _ _ _ _ _ _;generalize hK:aZ _ _ _ _=K;refine ag.uc rfl<|bP.cons<|qm<|ε ⟨rfl,?_⟩;refine bP.cons<|qg<|ε ⟨rfl,?_⟩;refine bP.cons<|qp (o:=1)<|ε ⟨rfl,?_⟩;refine bP.cons<|ql hH aB<|ε ⟨rfl,?_⟩;refine bP.cons<|qm<|ε ⟨rfl,?_⟩;refine bP.cons<|qg<|ε ⟨rfl,?_⟩;refine bP.cons<|qp (o:=0)<|ε ⟨rfl,?_⟩;refine bP.cons<|ql hH aB<|ε ⟨rfl,?_⟩;refine bP.cons<|qm<|ε ⟨rfl,?_⟩;refine bP.cons ?_;obtain⟨st,js,ax,hl,hH⟩:=Nj (c:=c) hH aO hl h3;dsimp only[u1,u2] at hH;refine qv ax<|ε ⟨by exact Bv.2 ⟨jy rfl rfl rfl (za.at aB) (hH.at aB) (za.at aB) (by simp only[refs,D.ref];omega),rfl⟩,?_⟩;refine bP.cons ?_;obtain⟨_,st,ax,rfl,F3,L',hL',hM⟩:=CQ (gs:=(hO h c).1) dE hF hp hR (by omega) (by omega) zq vQ (MH.push [_,_] [] (H:=H) (DG hH ba ej));refine qv ax<|ε ⟨rfl,?_⟩;refine bP.nil ?_;subst hK;refine⟨fun i h=>(by cases h),_,_,_,rfl,rfl,?_⟩;obtain⟨pd,qd,P,Q,sn,hH,ba,ej⟩:=vm (MH.pull [_,_] [] (H:=H) hM);exact⟨rfl,F3,L',hL',pd,qd,P,Q,sn,js,hH,ba,ej,hl⟩
def uB (fr:Go.V.Fr) (k:Nat):Go.V.D:=Go.V.nth .bI fr.loc k
theorem JZ (h:b[i]?=some c):(byteCells b)[i]?=some [.int .u8 (c.toNat:Nat)]:=by unfold byteCells;rw[Z5,h];rfl
theorem eM (b:List UInt8):dg (bF b) 1 (byteCells b):=dg.frozen (iQ b) (cq b)
theorem Fu (code:List aP) (ss:List Nat) (b:List UInt8) (c:UInt8) (x:List UInt8×Nat×List PL):dH code ss (b++[c]) x=vd code ss (dH code ss b x) c:=by unfold dH;rw[List.foldl_append];rfl
theorem rF (code:List aP) (ss:List Nat) (b:List UInt8) (x:List UInt8×Nat×List PL):dH (code.map ga) ss b x=dH code ss b x:=by
 have:vd (code.map ga) ss=vd code ss:=by funext x c;unfold vd;rw[pV]
 unfold dH;rw[this]
theorem wV {p:Pg} (hR:bm p):∀(b:List UInt8) (x:List UInt8×Nat×List PL),x.1.length≤3→x.2.2.length=p.ak.length→(∀l∈x.2.2,l.ok p.code.length)→(dH p.code (aG p) b x).1.length≤3∧(dH p.code (aG p) b x).2.1≤x.2.1+16*b.length∧(dH p.code (aG p) b x).2.2.length=p.ak.length∧∀l∈(dH p.code (aG p) b x).2.2,l.ok p.code.length
 |[],x,h1,h2,h3=>⟨h1,ζ _,h2,h3⟩
 |c::b,x,h1,h2,h3=>by
  obtain⟨g1,g2⟩:=wg hR (hO x.1 c).1 x.2.1 x.2.2 h2 h3;have g3:=Bo p.code (aG p) (hO x.1 c).1 x.2.1 x.2.2;have g4:=yQ (h:=x.1) (c:=c);obtain⟨q1,q2,q3,q4⟩:=wV hR b (vd p.code (aG p) x c) GU g1 g2;have q2:(dH p.code (aG p) (c::b) x).2.1≤(iJ p.code (aG p) (hO x.1 c).1 x.2.1 x.2.2).1+16*b.length:=q2;exact⟨q1,by simp only[ι];omega,q3,q4⟩
theorem wY (dE:∀st,Ev pv 149 [] st (.agg (aA bK)) st) (hF:S.flr≤N) (hp:p.ok) (hR:bm p) (hx:Arg N S 1 x (byteCells b)) (hbl:b.length≤1048576) (fT:pl+16*b.length≤2000000000000) (h3:h.length≤3) (zq:L.length=p.ak.length) (vQ:∀l∈L,l.pl.ok p.code.length) (hM:SH [] N S s0 kS kd kv ks p pl ld L h H):
  ∃d ai,Ev pv 45 [.ptr kS 0 0,x] s0 d ai∧d=.tup []∧∃F3 L',L'.map VL.pl=(dH p.code (aG p) b (h,pl,L.map VL.pl)).2.2∧SH [] N S ai kS kd kv ks p (dH p.code (aG p) b (h,pl,L.map VL.pl)).2.1 F3 L' (dH p.code (aG p) b (h,pl,L.map VL.pl)).1 H:=by
 obtain⟨pd,qd,P,Q,sn,js,hH,ba,ej,hl⟩:=hM;dsimp only[u4] at hH;have uN:=au b;have Px:∀l∈L.map VL.pl,l.ok p.code.length:=fun l hl=>by obtain⟨y,hy,rfl⟩:=ki.1 hl;exact vQ y hy
 have D7:(L.map VL.pl).length=p.ak.length:=by rw[δ];exact zq
 have ZN:=fun(i:Nat)=>wV hR (b.take i) (h,pl,L.map VL.pl) h3 D7 Px;have ZM:dH p.code (aG p) (b.take 0) (h,pl,L.map VL.pl)=(h,pl,L.map VL.pl):=rfl;refine IT rfl abJ rfl rfl rfl ?_;refine zE ?_;change ag _ _ _ _ s0 _;refine zQ 3 ?_;refine qn ?_;refine zQ 2 ?_;rw[uN];refine zQ 1 ?_;refine ag.loop (fun mm fr st=>∃(i:Nat) (y8:Nat) (h':List UInt8) (ld pd qd:D) (L':List VL) (P Q:List Nat) (sn:List Bool) (js:List UInt8),fr.clean=⟨9,[.ptr kS 0 0,uB fr 1,uB fr 2,uB fr 3,uB fr 4,uB fr 5,x,.int .i64 (b.length:Nat),.int .i64 (i:Nat)],[]⟩∧Has N S st (.box kS (.mem 0 false [.ptr kd 0 0,.ptr kv 0 0])::.box kd (.mem 0 false (dw h' js))::(iu ks kv p y8 ld pd qd P Q L'++H))∧(i+mm=b.length)∧(eQ P Q sn)∧(sn.length=p.code.length)∧((h'++js).length=4)∧(dH p.code (aG p) (b.take i) (h,pl,L.map VL.pl)=(h',y8,L'.map VL.pl))) (b.length) ?_ ?_
 ·exact⟨0,pl,h,ld,pd,qd,L,P,Q,sn,js,rfl,hH,by omega,ba,ej,hl,ZM⟩
 rintro mm fr st ⟨i,y8,h',ld,pd,qd,L',P,Q,sn,js,hfr,hH,hi,ba,ej,hl,hX⟩;rw[hfr];clear hfr;generalize uB fr=ee;clear fr;obtain⟨g1,g2,g3,g4⟩:=ZN i;rw[hX] at g1 g2 g3 g4;simp only at g1 g2 g3 g4;have aa9:L'.length=p.ak.length:=by rw[←g3,δ]
 refine zQ 5 ?_;refine zP (fun hlt=>?_) fun hlt=>?_
 ·refine zQ 1 ?_;have hil:i<b.length:=by omega
  obtain⟨c,lh⟩:∃c,b[i]?=some c:=⟨b[i]'hil,θ _⟩
  have gw:=JZ lh;have LX:b.take (i+1)=b.take i++[c]:=by rw[List.take_add_one,lh];rfl
  have hti:(b.take i).length=i:=by rw[List.length_take];omega
  refine zQ 4 ?_;refine qr fun TE Jt=>?_;refine zQ 6 ?_;obtain⟨_,st,ax,rfl,F3,L1,TU,hM⟩:=KR (c:=c) dE hF hp hR (by omega) g1 aa9 (ia g4) ⟨pd,qd,P,Q,sn,js,hH,ba,ej,hl⟩;obtain⟨pd,qd,P,Q,sn,js,hH,ba,ej,hl⟩:=hM;dsimp only[u4] at hH;refine qv ax ?_;refine zQ 5 ?_;exact⟨mm-1,by omega,⟨i+1,_,_,F3,pd,qd,L1,P,Q,sn,js,rfl,hH,by omega,ba,ej,hl,(by rw[LX,Fu,hX,TU];rfl)⟩⟩
 ·refine zQ 1 ?_;refine⟨fun i h=>(by cases h),_,_,_,rfl,rfl,?_⟩;have LX:b.take i=b:=υ (by omega);rw[LX] at hX;rw[hX];exact⟨rfl,ld,L',rfl,pd,qd,P,Q,sn,js,hH,ba,ej,hl⟩
def KQ (x:D) (pl:Nat) (L:List PL):D:=.agg [x,.int .i64 (pl:Nat),rL L]
structure AS (st:St) (kS kd kv ks:Nat) (p:Pg) (pl:Nat) (ld:D) (L:List VL) (h js:List UInt8):Prop where
 s:st.bs[kS]?=some (.mem 0 false [.ptr kd 0 0,.ptr kv 0 0])
 sl:kS<st.bs.length
 d:st.bs[kd]?=some (.mem 0 false (dw h js))
 dl:kd<st.bs.length
 hl:(h++js).length=4
 m:AM st.bs.length st kv ks p pl ld L
 ro:st.ro≤st.bs.length
theorem SH.as (hM:SH [] N S s0 kS kd kv ks p pl ld L h H):∃js,AS s0 kS kd kv ks p pl ld L h js:=by
 obtain⟨pd,qd,P,Q,sn,js,hH,ba,ej,hl⟩:=hM;dsimp only[u4] at hH;have hM:MH [] N S s0 ks kv p pl ld L ([_,_]++H):=MH.push [_,_] [] (H:=H) (DG hH ba ej);exact⟨js,hH.at aB,(hH.ge aB).2,hH.at aO,(hH.ge aO).2,hl,hM.am,hM.ro⟩
theorem AM.bs {S2:St} (h:AM N S kv ks p pl ld L) (hS:S2.bs=S.bs):AM N S2 kv ks p pl ld L:=
 ⟨h.lt,by rw[hS];exact h.le,by rw[hS];exact h.at_,⟨h.ld.1.bs hS,h.ld.2⟩,fun l hl=>⟨(h.td l hl).1.bs hS,(h.td l hl).2⟩,h.ksl⟩
theorem AM.lift (h:AM N S kv ks p pl ld L) (hH:Has N S st H):AM st.bs.length st kv ks p pl ld L:=by
 have h1:=h.le;have h2:=hH.ex.len;have h3:=h.lt;have h4:=h.ksl;exact⟨by omega,ζ _,h.box hH,⟨h.ld.rows hH,by have:=h.ld.2;omega⟩,fun l hl=>⟨(h.td l hl).rows hH,by have:=(h.td l hl).2;omega⟩,by omega⟩
theorem BS {cs:List D} (hH:Has N S st H) (hk:k<N) (h:S.bs[k]?=some (.mem 0 false cs)) (o:Nat):mV st (.ptr k 0 o) (cs.drop o):=
 .inl ⟨k,0,o,false,_,rfl,St.mem_of (by rw[hH.ex.low k hk];exact h),List.take_length ..⟩
theorem back_eq (hH:Has s0.bs.length S st H) (aN:S.bs=s0.bs):(⟨st.bs.take s0.bs.length,s0.flr,s0.ro⟩:St)=s0:=by
 have hbs:st.bs.take s0.bs.length=s0.bs:=by
  refine List.ext_getElem? fun j=>?_;rw[IS]
  by_cases hj:j<s0.bs.length
  ·rw[if_pos hj,hH.ex.low j hj,aN]
  ·rw[if_neg hj,ω (by omega)]
 rw[hbs]
theorem Hz (h:∀l∈L,l.pl.ok n):∀l∈L,l.bn.length≤1000:=fun l hl=>(h l hl).2
theorem wX (hp:p.ok) (zq:L.length≤1000) (ba:∀l∈L,l.bn.length≤1000) (hA:AS s0 kS kd kv ks p pl ld L h js):
  ∃d ai,Ev pv 46 [.ptr kS 0 0] s0 d ai∧d=KQ (bF h) pl (L.map VL.pl)∧ai=s0:=by
 have du:=hA.ro;refine IT rfl abI rfl rfl rfl<|zE ?_;have aN:(ae .rw s0).bs=s0.bs:=rfl;have hF:(ae .rw s0).flr≤s0.bs.length:=ζ _;have hH:Has s0.bs.length (ae .rw s0) (ae .rw s0) []:=Has.start (ζ _) du;generalize ae .rw s0=S2 at*;have hm:=hA.m.bs aN;have bV:S2.bs[kS]?=some (.mem 0 false [.ptr kd 0 0,.ptr kv 0 0]):=by rw[aN];exact hA.s
 have hD2:S2.bs[kd]?=some (.mem 0 false (dw h js)):=by rw[aN];exact hA.d
 refine qq<|qj fun K hK=>qa hH fun k2 st hk2 hH=>qe hK ?_;have Ju:=BS hH hA.sl bV 0;have Gg:=BS hH hA.sl bV 1;have F':st.ro≤st.bs.length:=by rw[hH.ex.ro];exact YQ hH.du (YQ hH.hN hH.ex.len)
 obtain⟨_,st1,VW,rfl,UY⟩:=EZ hp zq ba (hm.lift hH) F';rw[UY] at VW;clear UY st1;have sZ:=H4 (st:=st) (k:=kd) (v:=0) (h:=h) (j:=js) (by rw[hH.ex.low kd hA.dl];exact hD2) hA.hl F';have hbS:st.bs[kS]?=some (.mem 0 false [.ptr kd 0 0,.ptr kv 0 0]):=by rw[hH.ex.low kS hA.sl];exact bV
 change ag _ _ _ _ _ _;refine qq ?_;generalize hK:aZ _ _ _ _=K;refine ag.uc rfl<|bP.cons<|qm<|ε ⟨rfl,?_⟩;refine bP.cons<|qg<|ε ⟨rfl,?_⟩;refine bP.cons<|qp (o:=0)<|ε ⟨rfl,?_⟩;refine bP.cons<|qR<|ε ⟨rfl,?_⟩;refine bP.cons<|GB rfl rfl sZ (aa rfl _)<|ε ⟨rfl,?_⟩;refine bP.cons<|qm<|ε ⟨rfl,?_⟩;refine bP.cons<|qg<|ε ⟨rfl,?_⟩;refine bP.cons<|qp (o:=1)<|ε ⟨rfl,?_⟩;refine bP.cons<|qR<|ε ⟨by exact Bv.2 ⟨yM rfl rfl hbS hbS,rfl⟩,?_⟩;refine bP.cons<|GB rfl rfl VW (aa rfl _)<|ε ⟨rfl,?_⟩;refine bP.cons<|ab.go (d:=KQ (bF h) pl (L.map VL.pl)) (st1:=_) rfl rfl rfl (aa rfl _)<|ε ⟨rfl,?_⟩;refine bP.cons<|qS hH aB fun st hH=>?_;dsimp only[u2,u1,u3,u4,setMany,u5,u6,YH,π] at hH;refine ε ⟨rfl,?_⟩;refine bP.nil ?_;subst hK;refine ag.ret ⟨rx,_,_,_,hH.kD rfl aB rfl,aj (show bA st s0.bs.length false 16 (KQ (bF h) pl (L.map VL.pl))=some (KQ (bF h) pl (L.map VL.pl)) from rfl),rfl,back_eq hH aN⟩
section
variable{A:List bo} {N kS kd kv ks:Nat} {S s0:St} {p:Pg} {pl:Nat} {ld:D} {L:List VL} {h:List UInt8} {H:List bo}
theorem SH.pull (A:List bo) (hM:SH [] N S s0 kS kd kv ks p pl ld L h (A++H)):SH A N S s0 kS kd kv ks p pl ld L h H:=by
 obtain⟨pd,qd,P,Q,sn,js,hH,h1,h2,h3⟩:=hM;refine⟨pd,qd,P,Q,sn,js,?_,h1,h2,h3⟩;have:=Has.jA (_::_::iu ks kv p pl ld pd qd P Q L) A (H:=H) (by simpa only[χ,Zt,ν] using hH)
 simpa only[Zt,ν] using this
theorem SH.push (hM:SH A N S s0 kS kd kv ks p pl ld L h H):SH [] N S s0 kS kd kv ks p pl ld L h (A++H):=by
 obtain⟨pd,qd,P,Q,sn,js,hH,h1,h2,h3⟩:=hM;refine⟨pd,qd,P,Q,sn,js,?_,h1,h2,h3⟩;have:=Has.jA A (_::_::iu ks kv p pl ld pd qd P Q L) (H:=H) (by simpa only[Zt,ν] using hH)
 simpa only[χ,Zt,ν] using this
theorem SH.has (hM:SH A N S s0 kS kd kv ks p pl ld L h H):Has N S s0 A:=by
 obtain⟨pd,qd,P,Q,sn,js,hH,h1,h2,h3⟩:=hM;have:=hH.take A.length
 rwa [Q5] at this
end
theorem C7 (code:List aP) (ss:List Nat) (x:List UInt8×Nat×List PL) (c:UInt8):bO (vd code ss x c).1=true∨(vd code ss x c).1=[]:=(wJ _ _ (by simp)).symm
end Go.Proofs.YtecjacicdpejaaaGreat
namespace Go.Proofs.YtecjacicdpejaaaGreat
open Go.V Go
def jK (fr:Go.V.Fr) (k:Nat):Go.V.D:=Go.V.nth .bI fr.loc k
theorem Ck {q:Prop} (h:dec q=true):q:=@of_decide_eq_true _ (Classical.propDecidable _) h
theorem yt {p:Pg} (hR:bm p) {s:Int} (hs:0≤s∧s<(p.code.length:Int)) {m:Nat} {n:Int} (h:mF p s m n):0≤n∧n<(p.code.length:Int):=by
 rcases h with rfl|⟨i,q,h1,rfl,h3,h4,h5⟩
 ·exact hs
 ·have h6:=hR.sh i q h4;unfold dv at h6;rw[if_pos h5] at h6;simp only[Bool.and_eq_true,decide_eq_true_eq] at h6;exact⟨by omega,h6.2.1.1⟩
def y4 (bn:List GT) (j:Nat) (seen:List Bool):Prop:=∀(k:Nat) b,seen[k]?=some b→(b=true↔∃j' t,j'<j∧bn[j']?=some t∧t.pc=(k:Int))
theorem y4.nil (bn:List GT) (n:Nat):y4 bn 0 (wt n false):=by
 intro k b h;rw[List.getElem?_replicate] at h
 split at h
 ·cases h;simp
 ·cases h
theorem y4.set {bn:List GT} {j k:Nat} {seen:List Bool} {t:GT} (h:y4 bn j seen) (ht:bn[j]?=some t) (hk:t.pc=(k:Int)):y4 bn (j+1) (seen.set k true):=by
 intro k' b hb;rw[List.getElem?_set] at hb
 by_cases he:k=k'
 ·subst he;rw[if_pos rfl] at hb
  split at hb
  ·cases hb;exact⟨fun _=>⟨j,t,by omega,ht,hk⟩,fun _=>rfl⟩
  ·cases hb
 ·rw[if_neg he] at hb;rw[h k' b hb];constructor
  ·rintro⟨j',t',h1,h2,h3⟩;exact⟨j',t',by omega,h2,h3⟩
  ·rintro⟨j',t',h1,h2,h3⟩
   by_cases hj:j'=j
   ·subst hj;rw[ht] at h2;cases h2;omega
   ·exact⟨j',t',by omega,h2,h3⟩
theorem K4 (dE:∀st,Ev pv 193 [] st (.agg (aA bK)) st) {s0:St} {p:Pg} (hp:p.ok) {x:D} {L:List GV} (hx:G8 s0 x L) (place:Int):
  Ev pv 141 [p.d,.agg [.int .i64 place,x]] s0 (.bool (dec (dr p place L))) s0:=by
 obtain⟨hx,zq,LY⟩:=hx;have kX:=hp.sl;have JC:=hp.cl;refine Ut rfl XJ rfl rfl rfl ?_;refine zE ?_;obtain⟨aN,hF,hH⟩:=ri s0;generalize ae .ro s0=S at*;have hc:=hp.c.arg s0.bs.length S;have hs:=hp.s.arg s0.bs.length S;have hla:=Arg.of hx aN;have hcr:=fun st=>sv (s0:=st) hp
 have ZY:=fun(hR:bm p) {r:Nat} {s:Int} (hr:p.ak[r]?=some s) (st:St)=>(show nV p (r:Nat)=bR p.code s by
      unfold nV
      rw[if_pos (fK.2 ⟨by omega,by have:=bp hr;omega⟩),Int.toNat_natCast,List.getD_eq_getElem?_getD,hr];rfl)▸vi (s0:=st) (p:=p) (nS:=(r:Nat)) hp hR.closed hR.st
 unfold Pg.d at*;refine zQ 2 ?_;refine qb hH fun k2 st hk2 hH=>?_;dsimp only[u2,u1,u3,u4,setMany,u5,u6,YH,π,aJ,aX,aA,az,Pg.cs,dA,eo,cQ] at hH;refine qb hH fun k3 st oC hH=>?_;refine zQ 4 ?_;refine ag.dM 32 (.bool (((!dec (bm p)||decide (place<0))||decide (place>1099511627776))||(((L.length:Nat):Int) !=((p.ak.length:Nat):Int)))) [] ?_ (fun ff tmp dj=>?_)
 ·refine OF (m:=2) hH rfl (ev rfl) (by exact aO) (by dsimp only[ρ,ς,μ,ο,aJ,aX,aA,az,Pg.cs,dA,eo,cQ]<;>rfl) rfl rfl (aa rfl _) ?_;refine qv ((hcr _)) ?_;refine zQ 2 ?_;refine v8 14 rfl (fun bZ=>?_) (fun bZ=>?_)
  ·refine zQ 18 ?_;refine ε (aR ?_ ?_)
   ·dsimp only[aK,κ,nth,u2,u1]
    all_goals(first|rfl|simp)
   ·refine zF ?_
    all_goals(simp[bZ];done)
  ·refine zQ 5 ?_;refine v8 19 rfl (fun dL=>?_) (fun dL=>?_)
   ·refine zQ 13 ?_;refine ε (aR ?_ ?_)
    ·dsimp only[aK,κ,nth,u2,u1]
     all_goals(first|rfl|simp)
    ·refine zF ?_
     all_goals(simp[bZ,dL];done)
   ·refine zQ 5 ?_;refine v8 24 rfl (fun gA=>?_) (fun gA=>?_)
    ·refine zQ 8 ?_;refine ε (aR ?_ ?_)
     ·dsimp only[aK,κ,nth,u2,u1]
      all_goals(first|rfl|simp)
     ·refine zF ?_
      all_goals(simp[bZ,dL,gA];done)
    ·refine zQ 2 ?_;refine qn ?_ (hg:=wi gA);simp only[δ];refine zQ 2 ?_;refine qn ?_ (hg:=wi gA);simp only[δ];refine zQ 2 ?_;refine ε (aR ?_ ?_)
     ·dsimp only[aK,κ,nth,u2,u1]
      all_goals(first|rfl|simp)
     ·refine zF ?_
      all_goals(simp[bZ,dL,gA];done)
 dsimp only[aK,κ,nth,u2,u1];refine qc (fun h0=>?_) (fun h0=>?_)<;>try simp only[cs] at h0
 ·rw[dp (q:=dr p place L) (fun h=>by
   rw[b_ h.right] at h0;have h1:=h.ge;have h2:=h.le;have h3:=h.len
   simp at h0;omega)]
  refine zQ 4 ?_;refine ag.ret ⟨rx,_,rfl,rl aN hH (rfl)⟩
 ·refine zQ 1 ?_
  have h0:bm p∧0≤place∧place≤1099511627776∧L.length=p.ak.length:=by
   simp only[Δ,decide_eq_false_iff_not,Ω] at h0;obtain⟨⟨⟨h1,h2⟩,h3⟩,h4⟩:=h0;refine⟨Ck h1,by omega,by omega,?_⟩;simp at h4;omega
  obtain⟨hR,hge,hle,hLs⟩:=h0;refine zQ 6 ?_;refine ag.loop (fun mm fr st=>∃(r:Nat),fr.clean=⟨11,[jK fr 0,jK fr 1,.ptr k2 0 0,.ptr k3 0 0,jK fr 4,.int .i64 (r:Nat),jK fr 6,jK fr 7,jK fr 8,jK fr 9,jK fr 10],[]⟩∧Has s0.bs.length S st [.box k3 (.mem 0 false [.int .i64 place,x]),.box k2 (.mem 0 false [p.cd,p.sd])]∧(r+mm=L.length)∧(A' p place L r)) (L.length) ?_ ?_
  ·exact⟨0,rfl,hH,by omega,by intro r l s h;omega⟩
  rintro mm fr st ⟨r,hfr,hH,hi,hw⟩;rw[hfr];clear hfr;generalize jK fr=ee;clear fr;refine zQ 6 ?_;refine qn ?_;simp only[δ];refine zQ 2 ?_;refine zP (fun h1=>?_) fun h1=>?_
  ·refine zQ 1 ?_
   obtain⟨l,hl⟩:∃l,L[r]?=some l:=⟨L[r]'(by omega),θ _⟩
   obtain⟨s,nA⟩:∃s,p.ak[r]?=some s:=⟨p.ak[r]'(by omega),θ _⟩
   obtain⟨Au,mO⟩:=LY l (BY hl);have N6:=Arg.of Au aN;have gw:=yp hl;have nB:=fJ nA;have jO:=hR.st s (BY nA);refine zQ 7 ?_;refine qr fun Ze Sh=>?_;refine cg rfl (ev rfl) (by assumption) rfl (aa rfl _) ?_;refine qa hH fun k6 st Gj hH=>?_;refine qS hH aB fun st hH=>?_;dsimp only[u2,u1,u3,u4,setMany,u5,u6,YH,π,aJ,aX,aA,az,Pg.cs,dA,eo,cQ] at hH;refine zQ 3 ?_;refine ag.dM 61 (.bool (!dec (cz l.bf place)||(!l.dn &&!dec (rq l.bf)))) [] ?_ (fun ff tmp dj=>?_)
   ·refine zQ 1 ?_;refine OF (m:=10) hH rfl (ev rfl) (by exact aB) (by dsimp only[ρ,ς,μ,ο,aJ,aX,aA,az,Pg.cs,dA,eo,cQ]<;>rfl) rfl rfl (aa rfl _) ?_;refine zQ 2 ?_;refine qv (xb l.bf place) ?_;refine zQ 2 ?_;refine v8 51 rfl (fun gR=>?_) (fun gR=>?_)
    ·refine zQ 10 ?_;refine ε (aR ?_ ?_)
     ·dsimp only[aK,κ,nth,u2,u1]
      all_goals(first|rfl|simp)
     ·refine zF ?_
      all_goals(simp[gR];done)
    ·refine zQ 4 ?_;refine v8 55 rfl (fun ek=>?_) (fun ek=>?_)
     ·refine zQ 1 ?_;refine OF (m:=10) hH (af rfl rfl rfl ek) (ev rfl) (by exact aB) (by dsimp only[ρ,ς,μ,ο,aJ,aX,aA,az,Pg.cs,dA,eo,cQ]<;>rfl) rfl rfl (aa rfl _) ?_;refine qv (dE _) ?_ (hg:=wi ek);refine ab.QA (af rfl rfl rfl ek) (ev rfl) (ev rfl) (DB l.bf) (aa rfl _) ?_;refine AI (af rfl rfl rfl gR) rfl ek (aa rfl _) ?_;refine zQ 1 ?_;refine ε (aR ?_ ?_)
      ·dsimp only[aK,κ,nth,u2,u1]
       all_goals(first|rfl|simp)
      ·refine zF ?_
       all_goals(simp[gR,ek];done)
     ·refine zQ 4 ?_;refine bU (af rfl rfl rfl gR) rfl ek (aa rfl _) ?_;refine zQ 1 ?_;refine ε (aR ?_ ?_)
      ·dsimp only[aK,κ,nth,u2,u1]
       all_goals(first|rfl|simp)
      ·refine zF ?_
       all_goals(simp[gR,ek];done)
   refine zG ?_;refine qc (fun h2=>?_) (fun h2=>?_)<;>try simp only[cs] at h2
   ·rw[dp (q:=dr p place L) (fun h=>by
     obtain⟨h3,h4,h5⟩:=h.each r l s (by omega) hl nA;rw[b_ h4] at h2
     rcases h3 with h3|h3
     ·simp[h3] at h2
     ·simp[b_ h3] at h2)]
    refine zQ 4 ?_;refine ag.ret ⟨rx,_,rfl,rl aN hH (rfl)⟩
   ·refine zQ 1 ?_
    have h2:cz l.bf place∧(l.dn=true∨rq l.bf):=by
     simp only[Δ,Bool.and_eq_false_iff,Ω] at h2;obtain⟨h3,h4⟩:=h2;refine⟨Ck h3,?_⟩
     rcases h4 with h4|h4
     ·exact .inl h4
     ·exact .inr (Ck h4)
    have sQ:=nU p.code s;have L9:=(qX (bR p.code s)).arg s0.bs.length S;refine zQ 2 ?_;refine OF (m:=2) hH rfl (ev rfl) (by exact a_) (by dsimp only[ρ,ς,μ,ο,aJ,aX,aA,az,Pg.cs,dA,eo,cQ]<;>rfl) rfl rfl (aa rfl _) ?_;refine qm ?_;refine qv ((ZY hR nA _)) ?_;refine zQ 6 ?_;refine qn ?_;simp only[δ];refine ab.Az (s:=1) hH rfl rfl rfl rfl rfl rfl rfl rfl (Γ rfl) (by omega) (fun _=>(aa rfl _)) (fun k68 st adp hH=>?_);refine zQ 7 ?_;refine ag.loop (fun mm fr st=>∃(j:Nat) (y:D) (seen:List Bool),fr.clean=⟨11,[jK fr 0,jK fr 1,.ptr k2 0 0,.ptr k3 0 0,jK fr 4,.int .i64 (r:Nat),.ptr k6 0 0,rV (bR p.code s),y,.int .i64 (j:Nat),jK fr 10],[]⟩∧Has s0.bs.length S st [.aF y 1 (seen.map cQ),.box k6 (.mem 0 false (aX l.dn l.bf l.td)),.box k3 (.mem 0 false [.int .i64 place,x]),.box k2 (.mem 0 false [p.cd,p.sd])]∧(j+mm=l.bn.length)∧(seen.length=p.code.length)∧(y4 l.bn j seen)∧(lP p s l.bn place j)) (l.bn.length) ?_ ?_
    ·exact⟨0,_,wt p.code.length false,rfl,(by rw[List.map_replicate];exact hH),by omega,by simp,y4.nil _ _,(by intro j t h;omega)⟩
    rintro mm fr st ⟨j,y,seen,hfr,hH,hj,ej,sP,UN⟩;rw[hfr];clear hfr;generalize jK fr=ee;clear fr;refine zQ 6 ?_;refine qn ?_;simp only[δ];refine zQ 2 ?_;refine zP (fun h3=>?_) fun h3=>?_
    ·refine zQ 1 ?_
     obtain⟨⟨pc,tc⟩,ht⟩:∃t,l.bn[j]?=some t:=⟨l.bn[j]'(by omega),θ _⟩
     have Gc:=Ca ht;have oQ:¬(oE p s l.bn j pc∧cz tc place)→¬dr p place L:=fun h2 h=>h2 ((h.each r l s (by omega) hl nA).2.2 j _ (by omega) ht);have UG:oE p s l.bn j pc→cz tc place→lP p s l.bn place (j+1):=fun h1 h2=>u_ ht UN h1 h2;refine zQ 7 ?_;refine qr fun Ym Pm=>?_;refine cg rfl (ev rfl) (by assumption) rfl (aa rfl _) ?_;refine qa hH fun k10 st VI hH=>?_;dsimp only[u2,u1,u3,u4,setMany,u5,u6,YH,π,aJ,aX,aA,az,Pg.cs,dA,eo,cQ] at hH;refine qS hH aB fun st hH=>?_;dsimp only[u2,u1,u3,u4,setMany,u5,u6,YH,π,aJ,aX,aA,az,Pg.cs,dA,eo,cQ] at hH;refine zQ 1 ?_
     by_cases Gg:pc<0
     ·have bZ:decide (pc<0)=true:=decide_eq_true Gg;refine zQ 2 ?_;refine ag.dM 106 (.bool true) [] ?_ (fun ff tmp dj=>?_)
      ·refine zQ 26 ?_;refine ε (aR ?_ ?_)
       ·dsimp only[aK,κ,nth,u2,u1]
        all_goals(first|rfl|simp)
       ·exact zS
        all_goals(first|rfl|(simp[bZ];done)|(simp_all;done)|(simp[bZ];omega)|(simp_all;omega))
      refine zG ?_;refine qB ?_;rw[dp (oQ fun h=>by have:=yt hR jO h.1.1;omega)];refine zQ 4 ?_;refine ag.ret ⟨rx,_,rfl,rl aN hH (rfl)⟩
     ·have bZ:decide (pc<0)=false:=decide_eq_false Gg
      by_cases D4:pc≥(p.code.length:Int)
      ·have ck:decide (pc≥(p.code.length:Int))=true:=decide_eq_true D4;refine zQ 2 ?_;refine ag.dM 106 (.bool true) [] ?_ (fun ff tmp dj=>?_)
       ·refine zQ 8 ?_;refine qn ?_ (hg:=wi bZ);simp only[δ];refine zQ 17 ?_;refine ε (aR ?_ ?_)
        ·dsimp only[aK,κ,nth,u2,u1]
         all_goals(first|rfl|simp)
        ·exact zS
         all_goals(first|rfl|(simp[bZ,ck];done)|(simp_all;done)|(simp[bZ,ck];omega)|(simp_all;omega))
       refine zG ?_;refine qB ?_;rw[dp (oQ fun h=>by have:=yt hR jO h.1.1;omega)];refine zQ 4 ?_;refine ag.ret ⟨rx,_,rfl,rl aN hH (rfl)⟩
      ·have ck:decide (pc≥(p.code.length:Int))=false:=decide_eq_false D4;obtain⟨k,rfl⟩:=Int.eq_ofNat_of_zero_le (show 0≤pc by omega)
       obtain⟨b,hb⟩:∃b,seen[k]?=some b:=⟨seen[k]'(by omega),θ _⟩
       have hr4:=mb hb;have iM:(seen.set k true).map cQ=(seen.map cQ).set k [.bool true]:=by rw[List.map_set];rfl
       refine zQ 2 ?_;refine ag.dM 106 (.bool (b||!dec (cz tc place))) [] ?_ (fun ff tmp dj=>?_)
       ·refine zQ 8 ?_;refine qn ?_ (hg:=wi bZ);simp only[δ];refine zQ 6 ?_;refine qi hH aO (fun p96 acW=>?_) (hg:=wi ck);refine zQ 3 ?_;refine v8 99 rfl (fun zo=>?_) (fun zo=>?_)
        ·refine zQ 7 ?_;refine ε (aR ?_ ?_)
         ·dsimp only[aK,κ,nth,u2,u1]
          all_goals(first|rfl|simp)
         ·refine zF ?_
          all_goals(simp[bZ,ck,zo];done)
        ·refine zQ 1 ?_;refine OF (m:=10) hH (af rfl rfl rfl zo) (ev rfl) (by exact aB) (by dsimp only[ρ,ς,μ,ο,aJ,aX,aA,az,Pg.cs,dA,eo,cQ]<;>rfl) rfl rfl (aa rfl _) ?_;refine zQ 2 ?_;refine qv (xb tc place) ?_ (hg:=wi zo);refine zQ 2 ?_;refine ε (aR ?_ ?_)
         ·dsimp only[aK,κ,nth,u2,u1]
          all_goals(first|rfl|simp)
         ·refine zF ?_
          all_goals(simp[bZ,ck,zo];done)
       refine zG ?_;refine qc (fun h4=>?_) (fun h4=>?_)<;>try simp only[cs] at h4
       ·rw[dp (oQ fun h=>by
         rw[b_ h.2] at h4;simp at h4;obtain⟨j',t',h5,h6,h7⟩:=(sP k b hb).1 h4
         exact h.1.2 j' t' h5 h6 h7)]
        refine zQ 4 ?_;refine ag.ret ⟨rx,_,rfl,rl aN hH (rfl)⟩
       ·refine zQ 1 ?_;simp only[Δ,Ω] at h4;obtain⟨rfl,h4⟩:=h4;have fT:=Ck h4;have Ml:∀j' t',j'<j→l.bn[j']?=some t'→t'.pc≠(k:Int):=fun j' t' h5 h6 h7=>by have:=(sP k false hb).2 ⟨j',t',h5,h6,h7⟩;cases this
        by_cases mA:(k:Int)=s
        ·have dL:((k:Int) !=s)=false:=by simp[mA]
         refine zQ 2 ?_;refine ag.dM 139 (.bool false) [] ?_ (fun ff tmp dj=>?_)
         ·refine zQ 5 ?_;refine qr fun Uk QK=>?_;refine zQ 27 ?_;refine ε (aR ?_ ?_)
          ·dsimp only[aK,κ,nth,u2,u1]
           all_goals(first|rfl|simp)
          ·exact zS
           all_goals(first|rfl|(simp[dL];done)|(simp_all;done)|(simp[dL];omega)|(simp_all;omega))
         dsimp only[aK,κ,nth,u2,u1];refine zQ 6 ?_;refine qi hH aO fun Zk Vo=>?_;refine ab.jb hH rfl (ev rfl) (ev rfl) (by assumption) rfl rfl (by exact aO) (by assumption) (Γ rfl) (by exact .inl hF) (fun st hH=>?_);dsimp only[u2,u1,u3,u4,setMany,u5,u6,YH,π,aJ,aX,aA,az,Pg.cs,dA,eo,cQ] at hH;refine zQ 6 ?_;exact⟨mm-1,by omega,⟨j+1,y,seen.set k true,rfl,(by rw[iM];exact hH.drop 1),by omega,by simpa using ej,sP.set ht rfl,UG ⟨.inl mA,Ml⟩ fT⟩⟩
        ·have dL:((k:Int) !=s)=true:=by simp[mA]
         by_cases D_:k=0
         ·subst D_;have eV:(((0:Nat):Int)==0)=true:=rfl;refine zQ 2 ?_;refine ag.dM 139 (.bool true) [] ?_ (fun ff tmp dj=>?_)
          ·refine zQ 5 ?_;refine qr fun Uk QK=>?_;refine zQ 14 ?_;refine AI (af rfl rfl rfl dL) rfl eV (aa rfl _) ?_;refine zQ 12 ?_;refine ε (aR ?_ ?_)
           ·dsimp only[aK,κ,nth,u2,u1]
            all_goals(first|rfl|simp)
           ·exact zS
            all_goals(first|rfl|(simp[dL,eV];done)|(simp_all;done)|(simp[dL,eV];omega)|(simp_all;omega))
          dsimp only[aK,κ,nth,u2,u1];refine qB ?_
          rw[dp (oQ fun h=>by
           rcases h.1.1 with h|⟨i,q,h5,h6,_⟩
           ·exact mA h
           ·omega)]
          refine zQ 4 ?_;refine ag.ret ⟨rx,_,rfl,rl aN hH (rfl)⟩
         ·obtain⟨k',rfl⟩:∃k',k=k'+1:=⟨k-1,by omega⟩
          have eV:(((k'+1:Nat):Int)==0)=false:=by simp;omega
          obtain⟨b2,hb2⟩:∃b,(bR p.code s)[k']?=some b:=⟨(bR p.code s)[k']'(by omega),θ _⟩
          obtain⟨q,hq⟩:∃q,p.code[k']?=some q:=⟨p.code[k']'(by omega),θ _⟩
          have hr5:=mb hb2;have hr6:=gM hq;refine zQ 2 ?_;refine ag.dM 139 (.bool (!b2||(q.op !=1))) [] ?_ (fun ff tmp dj=>?_)
          ·refine zQ 5 ?_;refine qr fun Uk QK=>?_;refine zQ 10 ?_;refine ab.gd (z:=((k':Nat):Int)) (af rfl rfl rfl eV) (ev rfl) (ev rfl) (by(try simp only[Cf,ι,Ξ,γ,δ,LL]);rw[wrap_i64 (by omega) (by omega)]<;>omega) (aa rfl _) ?_;refine qr (fun acB acm=>?_) (hg:=wi eV);refine zQ 2 ?_;refine bU (af rfl rfl rfl dL) rfl eV (aa rfl _) ?_;refine zQ 1 ?_;refine v8 128 rfl (fun kY=>?_) (fun kY=>?_)
           ·refine zQ 9 ?_;refine AI (af rfl rfl rfl dL) rfl kY (aa rfl _) ?_;refine zQ 1 ?_;refine ε (aR ?_ ?_)
            ·dsimp only[aK,κ,nth,u2,u1]
             all_goals(first|rfl|simp)
            ·refine zF ?_
             all_goals(simp[dL,eV,kY];done)
           ·refine zQ 4 ?_;refine ab.gd (z:=((k':Nat):Int)) (af rfl rfl rfl kY) (ev rfl) (ev rfl) (by(try simp only[Cf,ι,Ξ,γ,δ,LL]);rw[wrap_i64 (by omega) (by omega)]<;>omega) (aa rfl _) ?_;refine qr (fun acA ack=>?_) (hg:=wi kY);refine qf (fo:=0) (fun acz acj=>?_) (hg:=wi kY);refine zQ 2 ?_;refine bU (af rfl rfl rfl dL) rfl kY (aa rfl _) ?_;refine zQ 1 ?_;refine ε (aR ?_ ?_)
            ·dsimp only[aK,κ,nth,u2,u1]
             all_goals(first|rfl|simp)
            ·refine zF ?_
             all_goals(simp[dL,eV,kY];done)
          dsimp only[aK,κ,nth,u2,u1];refine qc (fun h5=>?_) (fun h5=>?_)<;>try simp only[cs] at h5
          ·rw[dp (oQ fun h=>by
            rcases h.1.1 with h|⟨i,q',h6,h7,h8,h9,h10⟩
            ·exact mA h
            ·have:i=k':=by omega
             subst this;rw[hb2] at h8;cases h8;rw[hq] at h9;cases h9
             simp[h10] at h5)]
           refine zQ 4 ?_;refine ag.ret ⟨rx,_,rfl,rl aN hH (rfl)⟩
          ·refine zQ 1 ?_;simp only[Δ,Ω,bne_eq_false_iff_eq] at h5;obtain⟨rfl,h5⟩:=h5;refine zQ 4 ?_;refine qi hH aO fun Zk Vo=>?_;refine ab.jb hH rfl (ev rfl) (ev rfl) (by assumption) rfl rfl (by exact aO) (by assumption) (Γ rfl) (by exact .inl hF) (fun st hH=>?_);dsimp only[u2,u1,u3,u4,setMany,u5,u6,YH,π,aJ,aX,aA,az,Pg.cs,dA,eo,cQ] at hH;refine zQ 6 ?_;exact⟨mm-1,by omega,⟨j+1,y,seen.set (k'+1) true,rfl,(by rw[iM];exact hH.drop 1),by omega,by simpa using ej,sP.set ht rfl,UG ⟨.inr ⟨k',q,by omega,rfl,hb2,hq,h5⟩,Ml⟩ fT⟩⟩
    ·refine zQ 6 ?_;exact⟨L.length-(r+1),by omega,⟨r+1,rfl,hH.drop 2,by omega,hw.succ hl nA ⟨h2.2,h2.1,by rw[show l.bn.length=j by omega];exact UN⟩⟩⟩
  ·refine zQ 1 ?_;rw[b_ (q:=dr p place L) ⟨hR,hge,hle,hLs,by rw[show L.length=r by omega];exact hw⟩];refine zQ 4 ?_;refine ag.ret ⟨rx,_,rfl,rl aN hH (rfl)⟩
end Go.Proofs.YtecjacicdpejaaaGreat
