/-
 Numbers, texts and flags are written behind bytes: texts and flags; the document's.
-/
import Derived.Test.YtecjacicdpejaaaGreatWGHr
import Derived.Test.YtecjacicdpejaaaGreatWGJp
import Derived.Test.YtecjacicdpejaaaGreatWM2
import Derived.Test.YtecjacicdpejaaaGreatWGJi
import Derived.Test.YtecjacicdpejaaaGreatWGCa
import Derived.Test.YtecjacicdpejaaaGreatWGQe
import Derived.Test.YtecjacicdpejaaaGreatWGUa
set_option maxRecDepth 100000
set_option maxHeartbeats 4000000
set_option linter.unusedSimpArgs false
set_option linter.unusedVariables false
set_option linter.unusedSectionVars false
open List renaming replicate→γ,length_append→δ,length_map→ζ,getElem?_eq_getElem→η,append_assoc→κ,length_replicate→μ,drop_succ_cons→ν,length_cons→ξ,take_succ_cons→ο,length_nil→π,getElem?_append_right→ρ,take_zero→ς,drop_zero→τ,getElem?_append_left→χ,getElem?_map→ψ,getElem?_set_self→Γ,length_set→Δ,getElem?_set_ne→Ξ,map_append→Ω,getElem?_eq_none→Z5,length_take→ZD,mem_of_getElem?→Zt,length_reverse→YQ,foldl→Y',getElem?_replicate→JS,take_of_length_le→xw,map_cons→VQ,ext_getElem?→VM,flatten_cons→VT,length_eq_countP_add_countP→GB,not_mem_nil→BY,getD_eq_getElem?_getD→Cf,drop_eq_getElem_cons→Cr,mem_cons→IS,drop_eq_nil_of_le→P8,mem_map→PR,count_replicate→AN,replicate_succ→AI,map_replicate→bU,mem_replicate→cg,length_drop→lx,take_length→tn,nil_append→Qa1
open Nat renaming le_of_ble_eq_true→ε,le_refl→θ,reduceAdd→ι,lt_or_ge→Pe,le_trans→Qa4,zero_add→Qa5,mul_one→Qa6
open Go.V.D renaming cells→υ,int→Ut,bool→AT
open BitVec renaming ofNat→φ,ofInt→Θ,eq_of_toNat_eq→LL,isLt→OF
open Bool renaming and_eq_true→ω
open Go.V.ab renaming nil→Φ,go→Ψ,len→v8,av→IT,c_→Qa7,fp→Qa8,iO→Qa9,oV→Qaa
open Go.V renaming Rows→Q5,look→Qa2
open Int renaming eq_ofNat_of_zero_le→Wh,fdiv→Qa3
open Go.V.Arg renaming of→Zn
open UInt8 renaming ofNat→YH
open Option renaming map→wt,some→Pd,bind_some→hD
open Go.V.Has renaming start→ki
open Go.V.Ev renaming eN→Bv,gP→IN
open Go.V.Fr renaming get→R2,put→R3,ev→Qa0
namespace Go.Proofs.YtecjacicdpejaaaGreat
open Go.V Go
variable{st:St}{x y:D}
theorem jv {l:List UInt8} (hx:Bytes st x l) (hy:Bytes st y l) (hl:l.length<4611686018427387904):Ev pv 21 [x,y] st (.bool true) st:=by
 refine IN rfl ab4 rfl rfl rfl ?_;refine zE ?_;have hx:=hx.enter .ro;have hy:=hy.enter .ro;have hlen:(byteCells l).length=l.length:=au l;refine zR ?_;refine zU ?_
 refine zW ?_
 refine v8 rfl rfl rfl hx rfl ?_
 refine zW ?_
 refine v8 rfl rfl rfl hy rfl ?_;refine zX ?_;refine zN ?_;(repeat refine qq ?_);refine qc (fun h1=>?_) (fun h1=>?_)<;>try simp only[cs] at h1
 ·exact absurd trivial h1
 refine ag.skip<|zR ?_;(repeat refine qq ?_);refine ag.block<|ag.loop (fun j fr ai=>∃i:Nat,fr.clean=⟨6,[x,y,.tup [],.tup [],.bool false,.int .i64 (i:Nat)],[]⟩∧ai=ae .ro st∧i+j=l.length) l.length ⟨0,rfl,rfl,by omega⟩ ?_;rintro j fr ai ⟨i,hfr,rfl,hij⟩;rw[hfr];refine zU ?_
 refine zW ?_
 refine zW ?_
 refine v8 rfl rfl rfl hx rfl ?_;refine zX ?_;refine zN ?_;rw[hlen];(try refine qy ?_);(repeat refine qq ?_);refine qc (fun h2=>?_) (fun h2=>?_)<;>try simp only[cs] at h2
 ·refine ag.skip ?_;(try refine qy ?_)
  obtain⟨g,hg⟩:∃g,l[i]?=some g:=⟨l[i]'(by omega),η _⟩
  have hr:=kH hg;(try refine qy ?_);(repeat refine qq ?_);refine ag.block<|zU ?_
  refine zW ?_
  refine zW ?_
  refine Qa8 rfl rfl rfl (fun _=>rfl) rfl rfl hx rfl rfl (by omega) hr rfl (fun p=>?_)
  refine zW ?_
  refine zW ?_
  refine Qa8 rfl rfl rfl (fun _=>rfl) rfl rfl hy rfl rfl (by omega) hr rfl (fun p=>?_);refine zX ?_;refine zN ?_;(repeat refine qq ?_);refine qc (fun h3=>?_) (fun h3=>?_)<;>try simp only[cs] at h3
  ·exact absurd trivial h3
  refine ag.skip<|zR ?_;rw[wrap_i64 (by omega) (by omega)];exact⟨j-1,by omega,i+1,rfl,rfl,by omega⟩
 ·refine ag.exit<|zR ?_;refine ag.ret ⟨rx,_,rfl,aU (by simp) (by simp[ae]) ?_⟩
  rfl
def bF (b:List UInt8):D:=.sl ((byteCells b).map (ml 1))
theorem iQ (b:List UInt8):∀e∈byteCells b,e.length=1:=by
 intro e he;obtain⟨y,_,rfl⟩:=PR.1 he;rfl
theorem cq (b:List UInt8):∀e∈byteCells b,∀d∈e,dh d=true:=by
 intro e he d hd;obtain⟨y,_,rfl⟩:=PR.1 he;simp only[IS,BY,or_false] at hd;subst hd;rfl
theorem ig (st:St) (b:List UInt8):Bytes st (bF b) b:=Rows.sC (iQ b) (cq b)
def gH (y:UInt8):D:=.int .u8 (y.toNat:Nat)
theorem dK (b:List UInt8):(byteCells b).flatten=b.map gH:=by
 induction b with
 |nil=>rfl
 |cons y b ih=>simp only[byteCells,VQ,VT] at ih⊢;rw[ih];rfl
variable{k aE:Nat}{b:List UInt8}
theorem JY {ar:Bool} (hm:st.bs[k]?=some (.mem aE ar (b.map gH))):Bytes st (.win k aE 0 b.length 1) b:=by
 have:=Rows.win (st:=st) (s:=1) k aE 0 (byteCells b) ar (b.map gH) (St.mem_of hm) (by simp[byteCells]) fun i e hi=>by
  rw[←dK,Qa5];exact oq (iQ b) i e hi
 rwa [au] at this
theorem Cb {N:Nat} (hN:N≤k) (hm:st.bs[k]?=some (.mem aE true (b.map gH))):bA st N false 16 (.win k aE 0 b.length 1)=some (bF b):=by
 have:=(Acc.win (N:=N) (st:=st) (s:=1) k aE (byteCells b) hN (by rw[dK];exact hm) (iQ b)).freeze (cq b) (n:=15) (by decide)
 rwa [au] at this
variable{m:UInt8}
theorem KW (hb:Bytes st x b) (hlen:b.length≤1048576):Ev pv 18 [x,.int .u8 (m.toNat:Nat)] st (bF (b++γ 80 m)) st:=by
 refine IN rfl ab7 rfl rfl rfl ?_;refine zE ?_;have hx:=hb.ref;have hb1:=hb.enter .ro;refine zR ?_;refine zU ?_
 refine zW ?_
 refine v8 rfl rfl rfl hb1 rfl ?_
 refine zW ?_
 rw[show bJ .i64 (((byteCells b).length:Nat)+80:Int)=((b.length+80:Nat):Int) by rw[au,wrap_i64 (by omega) (by omega)];rfl];refine ab.makeSlice rfl rfl rfl rfl rfl rfl rfl rfl (by show(b.length+80)*1≤_;omega) (by omega) ?_;refine zX ?_;refine zN ?_;have aaO:Ex st.bs.length (ae .ro st) ((ae .ro st).push (.mem 0 true (fV (b.length+80) [jw (.int .u8 0)]))):=Ex.push (st:=ae .ro st) (θ _) _;have hb2:=Rows.ex aaO hb1 hx;refine zU ?_
 refine zW ?_
 refine zW ?_
 refine ab.copy (k:=st.bs.length) (aE:=0) (off:=0) (len:=b.length+80) (s:=1) (ys:=byteCells b) (ar:=true) (c:=fV (b.length+80) [.int .u8 0]) rfl rfl rfl rfl hb2 rfl rfl (iS (ae .ro st) _) (by rw[De];simp) (yP (N:=st.bs.length) (θ _) (θ _) (θ _)) ?_;refine zX ?_;refine zN ?_;rw[sB (st:=ae .ro st) (k:=st.bs.length) rfl]
 have JD:(fV (b.length+80) [Ut .u8 0]).take 0++(byteCells b).flatten.take (min (byteCells b).length (b.length+80)*1)++(fV (b.length+80) [Ut .u8 0]).drop (0+min (byteCells b).length (b.length+80)*1)=(b++γ 80 0).map gH:=by
  have h1:min (byteCells b).length (b.length+80)*1=b.length:=by rw[au];omega
  have h2:(b.map gH).length=b.length:=ζ ..;rw[h1,dK,De,ς,Qa1,Qa5,List.drop_replicate,Ω]
  congr 1
  ·rw[←h2,tn]
  ·rw[bU];congr 1;omega
 rw[JD];generalize hS:(ae .ro st).push (.mem 0 true ((b++γ 80 0).map gH))=st1;have B6:Q5 st1 1 x (byteCells b):=by subst hS;exact hb1.ex (N:=st.bs.length) (Ex.push (st:=ae .ro st) (θ _) _) hx
 refine zU ?_
 refine zW ?_
 refine v8 rfl rfl rfl B6 rfl ?_;refine zX ?_;refine zN ?_;rw[au];(try refine qy ?_);(repeat refine qq ?_);refine ag.block<|ag.loop (fun j fr ai=>∃i:Nat,fr.clean=⟨7,[x,.int .u8 (m.toNat:Nat),.tup [],.tup [],.nul,.win st.bs.length 0 0 (b.length+80) 1,.int .i64 ((b.length+i:Nat):Int)],[]⟩∧ai=(ae .ro st).push (.mem 0 true ((b++(γ i m++γ j 0)).map gH))∧i+j=80) 80 ⟨0,rfl,hS.symm,by omega⟩ ?_;rintro j fr ai ⟨i,hfr,rfl,hij⟩;rw[hfr];have hbl:(b++(γ i m++γ j 0)).length=b.length+80:=by simp;omega
 have ZC:∀(st:St) (j:Nat),i+j=80→Bytes ((ae .ro st).push (.mem 0 true ((b++(γ i m++γ j 0)).map gH))) (.win st.bs.length 0 0 (b.length+80) 1) (b++(γ i m++γ j 0)):=by
  intro st j hij;have:=JY (st:=(ae .ro st).push (.mem 0 true ((b++(γ i m++γ j 0)).map gH))) (k:=st.bs.length) (aE:=0) (ar:=true) (b:=b++(γ i m++γ j 0)) (iS (ae .ro st) _);have e:(b++(γ i m++γ j 0)).length=b.length+80:=by simp;omega
  rwa [e] at this
 refine zU ?_
 refine zW ?_
 refine zW ?_
 refine v8 rfl rfl rfl (ZC st j hij) rfl ?_;refine zX ?_;refine zN ?_;rw[au,hbl];(try refine qy ?_);(repeat refine qq ?_);refine qc (fun h1=>?_) (fun h1=>?_)<;>try simp only[cs] at h1
 ·refine ag.skip ?_;(try refine qy ?_);(repeat refine qq ?_);refine ag.block ?_
  obtain⟨j,rfl⟩:∃j',j=j'+1:=⟨j-1,by omega⟩
  refine zU ?_
  refine zW ?_
  refine zW ?_
  refine zW ?_
  refine ab.LV (kk:=.i64) (i:=((b.length+i:Nat):Int)) (k:=st.bs.length) (aE:=0) (off:=0) (len:=b.length+80) (s:=1) (v:=.int .u8 (m.toNat:Nat)) (cs:=[gH m]) (ar:=true) (c:=(b++(γ i m++γ (j+1) 0)).map gH) rfl rfl rfl rfl rfl rfl rfl rfl rfl rfl (by omega) (by omega) (iS (ae .ro st) _) (by rw[ζ,hbl];omega) (yP (N:=st.bs.length) (θ _) (θ _) (θ _)) ?_;refine zN ?_;rw[sB (st:=ae .ro st) (k:=st.bs.length) rfl]
  have PM:((b++(γ i m++γ (j+1) 0)).map gH).take (0+((b.length+i:Nat):Int).toNat*1)++[gH m]++((b++(γ i m++γ (j+1) 0)).map gH).drop (0+((b.length+i:Nat):Int).toNat*1+1)=(b++(γ (i+1) m++γ j 0)).map gH:=by
   have e:0+((b.length+i:Nat):Int).toNat*1=(b++γ i m).length:=by rw[δ,μ];omega
   rw[e,←κ,AI (n:=j),Ω,VQ];have e2:(b++γ i m).length=((b++γ i m).map gH).length:=by rw[ζ]
   rw[e2,List.take_left,←List.drop_drop,List.drop_left,ν,τ];rw[List.replicate_succ'];simp[Ω]
  rw[PM];refine zR ?_;rw[wrap_i64 (by omega) (by omega)];refine⟨j,by omega,i+1,rfl,rfl,by omega⟩
 ·refine ag.exit ?_;have hj:j=0:=by omega
  have hi:i=80:=by omega
  subst hj hi;refine zR ?_;have aaM:=Ex.push (N:=st.bs.length) (st:=ae .ro st) (θ _) (.mem 0 true ((b++(γ 80 m++γ 0 0)).map gH));refine ag.ret ⟨rx,_,rfl,aU (by simp) (aaM.take rfl) ?_⟩;have:=Cb (N:=st.bs.length) (st:=(ae .ro st).push (.mem 0 true ((b++(γ 80 m++γ 0 0)).map gH))) (k:=st.bs.length) (aE:=0) (b:=b++γ 80 m) (θ _) (iS (ae .ro st) _);rw[show(b++γ 80 m).length=b.length+80 by simp] at this;exact this
theorem Jl (hx:Bytes st x (b++γ 80 m)) (hy:Bytes st y b) (hlen:b.length≤1048576):Ev pv 28 [x,y,.int .u8 (m.toNat:Nat)] st (.bool true) st:=by
 refine IN rfl abZ rfl rfl rfl ?_;refine zE ?_;have hx1:=hx.enter .ro;have hy1:=hy.enter .ro;have QE:(byteCells (b++γ 80 m)).length=b.length+80:=by rw[au];simp
 have zj:=au b;refine zR ?_;refine zU ?_
 refine zW ?_
 refine v8 rfl rfl rfl hx1 rfl ?_
 refine zW ?_
 refine v8 rfl rfl rfl hy1 rfl ?_
 refine zW ?_
 rw[QE,zj,show bJ .i64 ((b.length:Int)+80)=((b.length+80:Nat):Int) by rw[wrap_i64 (by omega) (by omega)];rfl];refine ab.T rfl rfl rfl (d:=.bool false) (st1:=ae .ro st) ?_ ?_
 ·show some (AT (((b.length+80:Nat):Int) !=((b.length+80:Nat):Int)),ae .ro st)=_;simp
 refine zW ?_
 refine zW ?_
 refine zW ?_
 refine v8 rfl rfl rfl hy1 rfl ?_;refine ab.slice rfl rfl rfl hx1 rfl rfl (l:=0) (r:=b.length) ?_ ⟨by omega,by omega⟩ fun y2 BV UF=>?_
 ·show cF _ none (some (.int .i64 ((byteCells b).length:Nat)))=_;rw[QE,zj];simp only[cF,gW,ky,hD];rw[if_pos ⟨by omega,by omega⟩];rfl
 have hy4:Bytes (ae .ro st) y2 b:=by
  have:((byteCells (b++γ 80 m)).take b.length).drop 0=byteCells b:=by
   rw[←zj];simp[byteCells]
  unfold Bytes;rw[←this];exact BV
 refine zW ?_
 refine ab.oF rfl rfl rfl (jv hy4 hy1 (by omega)) ?_;refine zX ?_;refine zN ?_;refine ag.cond (v:=false) rfl (fun h=>by cases h) fun _=>?_;refine ag.skip<|zU ?_
 refine zW ?_
 refine v8 rfl rfl rfl hy1 rfl ?_;refine zX ?_;refine zN ?_;rw[zj];(try refine qy ?_);(repeat refine qq ?_);refine ag.block<|ag.loop (fun j fr ai=>∃i:Nat,fr.clean=⟨8,[x,y,.int .u8 (m.toNat:Nat),.tup [],.tup [],.tup [],.bool false,.int .i64 ((b.length+i:Nat):Int)],[]⟩∧ai=ae .ro st∧i+j=80) 80 ⟨0,rfl,rfl,by omega⟩ ?_;rintro j fr ai ⟨i,hfr,rfl,hij⟩;rw[hfr];refine zU ?_
 refine zW ?_
 refine zW ?_
 refine v8 rfl rfl rfl hx1 rfl ?_;refine zX ?_;refine zN ?_;rw[QE];(try refine qy ?_);(repeat refine qq ?_);refine qc (fun h1=>?_) (fun h1=>?_)<;>try simp only[cs] at h1
 ·refine ag.skip ?_;(try refine qy ?_);(repeat refine qq ?_);refine ag.block ?_
  have hr:(b++γ 80 m)[b.length+i]?=some m:=by
   rw[ρ (by omega),JS];rw[if_pos (by omega)]
  have nB:=kH hr;refine zU ?_
  refine zW ?_
  refine zW ?_
  refine Qa8 rfl rfl rfl (fun _=>rfl) rfl rfl hx1 rfl rfl (by omega) nB rfl (fun p=>?_);refine zX ?_;refine zN ?_;(repeat refine qq ?_);refine qc (fun h3=>?_) (fun h3=>?_)<;>try simp only[cs] at h3
  ·exact absurd trivial h3
  refine ag.skip<|zR ?_;rw[wrap_i64 (by omega) (by omega)];exact⟨j-1,by omega,i+1,rfl,rfl,by omega⟩
 ·refine ag.exit<|zR ?_;refine ag.ret ⟨rx,_,rfl,aU (by simp) (by simp[ae]) ?_⟩
  rfl
def fR (fr:Go.V.Fr) (k:Nat):Go.V.D:=Go.V.nth .bI fr.loc k
def iw (f:Bool):List UInt8:=aQ (if f then 1 else 0)
def eK (t:List UInt8):List UInt8:=aQ (t.length:Nat)++t
variable{s0:St}
theorem Ko (hx:Q5 s0 1 x (byteCells b)) (hl:b.length≤60000000000) (f:Bool):
  Ev pv 86 [x,.bool f] s0 (bF (b++iw f)) s0:=by
 refine IN rfl abn rfl rfl rfl ?_;refine zE ?_;obtain⟨aN,hF,hH⟩:=ri s0;generalize ae .ro s0=S at*;have hx:=Zn hx aN;refine zQ 9 ?_;obtain⟨cO,cM⟩:=hH.de hF
 cases f with
 |true=>
  refine zQ 4 ?_;obtain⟨d7,st,ax,ho⟩:=eR (x:=x) (b:=b) cO cM (hx.rows hH) hl 1 (by omega);have hH:=hH.hY ho
  (try dsimp only[u3,u4] at hH)
  refine qv ax ?_;refine zQ 2 ?_;refine ag.ret ⟨rx,_,rfl,rl aN hH ?_⟩;exact hH.kE aB (cq _) (by decide)
 |false=>
  refine zQ 5 ?_;obtain⟨d7,st,ax,ho⟩:=eR (x:=x) (b:=b) cO cM (hx.rows hH) hl 0 (by omega);have hH:=hH.hY ho
  (try dsimp only[u3,u4] at hH)
  refine qv ax ?_;refine zQ 2 ?_;refine ag.ret ⟨rx,_,rfl,rl aN hH ?_⟩;exact hH.kE aB (cq _) (by decide)
variable{t:List UInt8}
theorem Kn (hx:Q5 s0 1 x (byteCells b)) (hl:b.length≤50000000000) (ht:t.length≤1048576):
  Ev pv 81 [x,.str t] s0 (bF (b++eK t)) s0:=by
 have Ax:=aV (t.length:Nat);refine IN rfl abt rfl rfl rfl ?_;refine zE ?_;obtain⟨aN,hF,hH⟩:=ri s0;generalize ae .ro s0=S at*;have hx:=Zn hx aN;refine zQ 4 ?_;obtain⟨cO,cM⟩:=hH.de hF;refine zQ 4 ?_;refine Qaa rfl rfl rfl (aa rfl _) ?_;refine ab.e_ (z:=((9+t.length:Nat):Int)) rfl (ev rfl) (ev rfl) (by(try simp only[YQ,ξ,π,δ,ζ,Δ]);rw[wrap_i64 (by omega) (by omega)]<;>omega) (aa rfl _) ?_;obtain⟨d10,st,ax,ho⟩:=CJ (x:=x) (b:=b) cO cM (hx.rows hH) (by omega) (9+t.length) (by omega);have hH:=hH.hY ho
 (try dsimp only[u3,u4] at hH)
 refine qv ax ?_;refine qm ?_;refine Qaa rfl rfl rfl (aa rfl _) ?_;obtain⟨cO,cM⟩:=hH.de hF;obtain⟨d13,st,ax,ho⟩:=eR (x:=d10) (b:=b) cO cM (hH.rows aB) (by omega) (t.length:Nat) (by omega);have hH:=hH.hY ho
 (try dsimp only[u3,u4] at hH)
 refine qv ax ?_;refine zQ 2 ?_;have hbl:(byteCells (b++aQ (t.length:Nat))).length=b.length+(aQ (t.length:Nat)).length:=by rw[au,δ]
 refine zQ 4 ?_;refine ab.Ef hH rfl (ev rfl) (ev rfl) aB rfl rfl rfl rfl rfl rfl rfl ⟨(ε rfl),(ε rfl)⟩ (fun _=>(aa rfl _)) rfl (by omega) (fun x16 st hH=>?_);dsimp only[u2] at hH;refine zQ 2 ?_
 have hH:Has s0.bs.length S st (.aF x16 1 (byteCells (b++eK t))::[.aF d10 1 (byteCells b)]):=by
  unfold eK;rw[←κ,pN];exact hH
 refine ag.ret ⟨rx,_,rfl,rl aN hH ?_⟩;exact hH.kE aB (cq _) (by decide)
theorem KN (m:Nat) (st:St):(fw pv .shr 3 (.int .i64 (m:Nat)) (.int .i64 8)).map (fun d=>(d,st))=some (.int .i64 ((m/256:Nat):Int),st):=by
 show wt _ (some (Ut .i64 (Qa3 (m:Nat) (2^8))))=_;have:=M7 m 1;simp only[Qa6,Nat.pow_one] at this;rw[this];rfl
theorem KM (m k:Nat) (hk:k≤8) (st:St):(fw pv .shr 3 (.int .i64 (m:Nat)) (.int .i64 ((8*k:Nat):Int))).map (fun d=>(d,st))=some (.int .i64 ((m/256^k:Nat):Int),st):=by
 show wt _ (if((8*k:Nat):Int)<0 then none else some (Ut .i64 (Qa3 (m:Nat) (2^(min ((8*k:Nat):Int).toNat 64)))))=_;rw[if_neg (by omega),Int.toNat_natCast,Nat.min_eq_left (by omega),M7];rfl
theorem Qc (q:Nat) (st:St):j8 pv 3 5 (.int .i64 (q:Nat)) st=some (.int .u8 ((q %256:Nat):Int),st):=by
 show some (Ut .u8 (bJ .u8 (q:Nat)),st)=_;rw[Kk]
theorem eG (hF:s0.flr≤s0.bs.length) (du:s0.ro≤s0.bs.length) (hx:Q5 s0 1 x (byteCells b)) (hl:b.length≤60000000000) (n:Int) (hn:n<9223372036854775808):
  ∃d ai,Ev pv 34 [x,.int .i64 n] s0 d ai∧kC s0 ai d (b++aQ n):=by
 obtain⟨m,hm⟩:∃m,n.toNat=m:=⟨_,rfl⟩
 have D9:m<256^8:=by omega
 obtain⟨rj,hk2⟩:=wu D9;have N':=HQ m;have TM:aQ n=YH (kB m)::tA (kB m) m:=by unfold aQ;rw[hm]
 have uN:=au b;rw[TM];refine Bv rfl abU rfl rfl rfl ?_;refine zE ?_;have aN:(ae .nw s0).bs=s0.bs:=rfl;have hF:(ae .nw s0).flr≤s0.bs.length:=hF;have hH:Has s0.bs.length (ae .nw s0) (ae .nw s0) []:=ki (θ _) (θ _);generalize ae .nw s0=S at*;have hx:=Zn hx aN;refine zQ 6 ?_;refine ab.Mp (s:=1) hH rfl rfl rfl rfl rfl (fun _=>(aa rfl _)) (fun k9 st PB hH=>?_);refine qm ?_;refine Qa9 (s:=1) hH rfl (ev rfl) (ev rfl) (by exact aB) (by exact Arg.rows (by assumption) hH) rfl rfl rfl rfl rfl rfl rfl ⟨(ε rfl),(ε rfl)⟩ (fun _=>(aa rfl _)) rfl (by simp only[π]<;>omega) (by exact .inl hF) (fun TZ st hH=>?_);dsimp only[u2,u1,u3,u4,setMany,u5,u6,υ,ι] at hH;refine zQ 2 ?_;have hH:Has s0.bs.length S st [.aF TZ 1 (byteCells b)]:=hH;refine zQ 2 ?_;refine ag.jI (fun fr st=>∃(tmp:List (Nat×D)),fr=⟨9,[x,.int .i64 (m:Nat),fR fr 2,fR fr 3,fR fr 4,TZ,fR fr 6,fR fr 7,fR fr 8],tmp⟩∧Has s0.bs.length S st [.aF TZ 1 (byteCells b)]∧(True)) ?_ ?_
 ·refine zQ 4 ?_;refine zP (fun h0=>?_) fun h0=>?_
  ·refine zQ 3 ?_;have lC:m=0:=by omega
   subst lC;exact⟨_,rfl,hH,trivial⟩
  ·refine zQ 1 ?_;have Pw:n=(m:Nat):=by omega
   subst Pw;exact⟨_,rfl,hH,trivial⟩
 ·rintro fr st ⟨tmp,hfr,hH,ht⟩;rw[hfr];clear hfr;generalize fR fr=ee;clear fr;refine zQ 11 ?_;refine ag.loop (fun mm fr st=>∃(k q:Nat),fr.clean=⟨9,[fR fr 0,.int .i64 (m:Nat),fR fr 2,fR fr 3,fR fr 4,TZ,.int .i64 (k:Nat),.int .i64 (q:Nat),fR fr 8],[]⟩∧Has s0.bs.length S st [.aF TZ 1 (byteCells b)]∧(q=mm)∧(q=m/256^k)∧(k≤kB m)) (m) ?_ ?_
  ·exact⟨0,m,rfl,hH,rfl,by simp,by omega⟩
  rintro mm fr st ⟨k,q,hfr,hH,hq,hqk,hkk⟩;rw[hfr];clear hfr;generalize fR fr=ee;clear fr;refine zQ 6 ?_
  by_cases hq0:0<q
  ·have hlt:k<kB m:=by
    rcases Pe k (kB m) with h|h
    ·exact h
    ·have:k=kB m:=by omega
     subst this;omega
   have hc:decide (((q:Nat):Int)>0)=true:=by rw[decide_eq_true_eq];omega
   refine qD rfl (by rw[hc]) ?_;refine zQ 10 ?_;refine Ψ (d:=.int .i64 ((q/256:Nat):Int)) (st1:=_) rfl rfl (by exact KN q _) (aa rfl _) ?_;refine zQ 2 ?_;have hd:q/256<q:=Nat.div_lt_self hq0 (by decide);exact⟨q/256,by omega,k+1,q/256,rfl,hH,rfl,by rw[hqk,Nat.pow_succ,Nat.div_div_eq_div_mul],by omega⟩
  ·have hc:decide (((q:Nat):Int)>0)=false:=by rw[decide_eq_false_iff_not];omega
   have Vz:k=kB m:=by
    rcases Pe k (kB m) with h|h
    ·have:=hk2 k h;omega
    ·omega
   subst Vz;refine qE rfl (by rw[hc]) ?_;refine zQ 5 ?_;refine Ψ (d:=.int .u8 (kB m:Nat)) (st1:=_) rfl rfl (by show some (Ut .u8 (bJ .u8 (kB m:Nat)),_)=_;rw[ct (by simp only[ic];omega)]) (aa rfl _) ?_;refine qh (s:=1) (vs:=[_]) hH fun k24 st VF hH=>?_;refine Qa9 (s:=1) hH rfl (ev rfl) (ev rfl) (by exact aO) (by exact hH.rows (by exact aB)) rfl rfl rfl rfl rfl rfl rfl ⟨(ε rfl),(ε rfl)⟩ (fun _=>(aa rfl _)) rfl (by simp only[ξ,π,ζ]<;>omega) (by exact .inl hF) (fun Yk st hH=>?_);dsimp only[u2,u1,u3,u4,setMany,u5,u6,υ,ι] at hH;refine zQ 2 ?_
   have hH:Has s0.bs.length S st [.aF Yk 1 (byteCells (b++[YH (kB m)]))]:=by
    rw[pN,Q4 (by omega)];exact hH.drop 1
   refine zQ 4 ?_;refine ab.KB rfl (ev rfl) (ev rfl) (by omega) (by omega) (aa rfl _) ?_;refine zQ 2 ?_;have hbl:∀j,(tA j m).length=j:=fun j=>q_ j m
   obtain⟨T,hT⟩:∃T,b++YH (kB m)::tA (kB m) m=T:=⟨_,rfl⟩
   have Wc:T.length=b.length+kB m+1:=by rw[←hT];simp[hbl];omega
   refine zQ 1 ?_;refine ag.loop (fun mm fr st=>∃(j:Nat) (y:D) (pre:List UInt8),fr.clean=⟨9,[fR fr 0,.int .i64 (m:Nat),fR fr 2,fR fr 3,fR fr 4,y,fR fr 6,fR fr 7,.int .i64 ((j:Int)-1)],[]⟩∧Has s0.bs.length S st [.aF y 1 (byteCells pre)]∧(j=mm)∧(j≤kB m)∧(pre++tA j m=T)) (kB m) ?_ ?_
   ·exact⟨kB m,Yk,b++[YH (kB m)],rfl,hH,rfl,θ _,(by rw[←hT,κ];rfl)⟩
   rintro mm fr st ⟨j,y,pre,hfr,hH,hj,hjk,hp⟩;rw[hfr];clear hfr;generalize fR fr=ee;clear fr;have fT:pre.length+j=T.length:=by rw[←hp,δ,hbl]
   have hbp:=au pre;refine zQ 6 ?_
   cases j with
   |succ j=>
    have hc:decide (((j+1:Nat):Int)-1≥0)=true:=by rw[decide_eq_true_eq];omega
    refine qD rfl (by rw[hc]) ?_;refine zQ 1 ?_;have SG:((j+1:Nat):Int)-1=(j:Nat):=by omega
    rw[SG];have hq:m/256^j %256<256:=Nat.mod_lt _ (by decide);refine zQ 6 ?_;refine ab.DE (z:=((8*j:Nat):Int)) rfl (ev rfl) (ev rfl) (by rw[show(8:Int)*(j:Nat)=((8*j:Nat):Int) by omega,ct (by simp only[ic];omega)]) (aa rfl _) ?_;refine Ψ (d:=.int .i64 ((m/256^j:Nat):Int)) (st1:=_) rfl rfl (by exact KM m j (by omega) _) (aa rfl _) ?_;refine Ψ (d:=.int .u8 ((m/256^j %256:Nat):Int)) (st1:=_) rfl rfl (by exact Qc _ _) (aa rfl _) ?_;refine qh (s:=1) (vs:=[_]) hH fun k38 st adw hH=>?_;refine Qa9 (s:=1) hH rfl (ev rfl) (ev rfl) (by exact aO) (by exact hH.rows (by exact aB)) rfl rfl rfl rfl rfl rfl rfl ⟨(ε rfl),(ε rfl)⟩ (fun _=>(aa rfl _)) rfl (by simp only[ξ,π,ζ]<;>omega) (by exact .inl hF) (fun x39 st hH=>?_);dsimp only[u2,u1,u3,u4,setMany,u5,u6,υ,ι] at hH;refine zQ 2 ?_
    have hH:Has s0.bs.length S st [.aF x39 1 (byteCells (pre++[YH (m/256^j)]))]:=by
     rw[pN,Nw];exact hH.drop 1
    refine zQ 2 ?_;refine ab.gd (z:=((j:Int)-1)) rfl (ev rfl) (ev rfl) (by(try simp only[YQ,ξ,π,δ,ζ,Δ]);rw[wrap_i64 (by omega) (by omega)]<;>omega) (aa rfl _) ?_;refine zQ 2 ?_;exact⟨j,by omega,⟨j,x39,pre++[YH (m/256^j)],rfl,hH,rfl,by omega,(by rw[κ];exact hp)⟩⟩
   |zero=>
    have hc:decide (((0:Nat):Int)-1≥0)=false:=rfl;refine qE rfl (by rw[hc]) ?_;refine zQ 1 ?_;have Z9:pre=T:=by rw[←hp];simp[tA]
    subst Z9;refine zQ 5 ?_;refine ag.ret ⟨rx,_,_,_,rfl,rfl,?_⟩;rw[hT];exact hH.dU aN du
theorem K7 (hx:Q5 s0 1 x (byteCells b)) (hl:b.length≤60000000000) (f:Bool):
  Ev pv 90 [x,.bool f] s0 (bF (b++iw f)) s0:=by
 refine IN rfl abj rfl rfl rfl ?_;refine zE ?_;obtain⟨aN,hF,hH⟩:=ri s0;generalize ae .ro s0=S at*;have hx:=Zn hx aN;refine zQ 9 ?_;obtain⟨cO,cM⟩:=hH.de hF
 cases f with
 |true=>
  refine zQ 4 ?_;obtain⟨d7,st,ax,ho⟩:=eG (x:=x) (b:=b) cO cM (hx.rows hH) hl 1 (by omega);have hH:=hH.hY ho
  (try dsimp only[u3,u4] at hH)
  refine qv ax ?_;refine zQ 2 ?_;refine ag.ret ⟨rx,_,rfl,rl aN hH ?_⟩;exact hH.kE aB (cq _) (by decide)
 |false=>
  refine zQ 5 ?_;obtain⟨d7,st,ax,ho⟩:=eG (x:=x) (b:=b) cO cM (hx.rows hH) hl 0 (by omega);have hH:=hH.hY ho
  (try dsimp only[u3,u4] at hH)
  refine qv ax ?_;refine zQ 2 ?_;refine ag.ret ⟨rx,_,rfl,rl aN hH ?_⟩;exact hH.kE aB (cq _) (by decide)
theorem K5 (hx:Q5 s0 1 x (byteCells b)) (hl:b.length≤50000000000) (ht:t.length≤1048576):
  Ev pv 82 [x,.str t] s0 (bF (b++eK t)) s0:=by
 have Ax:=aV (t.length:Nat);refine IN rfl abr rfl rfl rfl ?_;refine zE ?_;obtain⟨aN,hF,hH⟩:=ri s0;generalize ae .ro s0=S at*;have hx:=Zn hx aN;refine zQ 4 ?_;obtain⟨cO,cM⟩:=hH.de hF;have hbl:(byteCells (b++aQ (t.length:Nat))).length=b.length+(aQ (t.length:Nat)).length:=by rw[au,δ]
 refine zQ 4 ?_;refine Qaa rfl rfl rfl (aa rfl _) ?_;obtain⟨d8,st,ax,ho⟩:=eG (x:=x) (b:=b) cO cM (hx.rows hH) (by omega) (t.length:Nat) (by omega);have hH:=hH.hY ho
 (try dsimp only[u3,u4] at hH)
 refine qv ax ?_;refine qm ?_;refine ab.Ef hH rfl (ev rfl) (ev rfl) aB rfl rfl rfl rfl rfl rfl rfl ⟨(ε rfl),(ε rfl)⟩ (fun _=>(aa rfl _)) rfl (by omega) (fun x10 st hH=>?_);dsimp only[u2] at hH;refine zQ 2 ?_
 have hH:Has s0.bs.length S st (.aF x10 1 (byteCells (b++eK t))::[]):=by
  unfold eK;rw[←κ,pN];exact hH
 refine ag.ret ⟨rx,_,rfl,rl aN hH ?_⟩;exact hH.kE aB (cq _) (by decide)
def bX (fr:Go.V.Fr) (k:Nat):Go.V.D:=Go.V.nth .bI fr.loc k
def nf (s:BitVec 32):D:=.int .u32 (s.toNat:Nat)
def GL (s:BitVec 32):BitVec 32:=if s &&&1#32=1#32 then(s>>>1)^^^2197175160#32 else s>>>1
def vS:Nat→BitVec 32→BitVec 32
 |0,s=>s
 |k+1,s=>vS k (GL s)
def EC:BitVec 32→List UInt8→BitVec 32
 |s,[]=>s
 |s,c::l=>EC (vS 8 (s^^^φ 32 c.toNat)) l
def k_ (c : BitVec 32) (b : List UInt8) : BitVec 32 := ~~~ (EC (~~~ c) b)
theorem wrap32 {n:Nat} (h:n<2^32):bJ .u32 (n:Nat)=(n:Int):=ct (by simp only[ic];omega)
theorem Lu (a:BitVec 32):Θ 32 (a.toNat:Nat)=a:=by
 rw[BitVec.ofInt_natCast,BitVec.ofNat_toNat,BitVec.setWidth_eq]
theorem Bb (a b:BitVec 32) (st:St):(fw pv .xor 121 (nf a) (nf b)).map (fun d=>(d,st))=some (nf (a^^^b),st):=by
 show wt _ (some (Ut .u32 (bJ .u32 ((Θ 32 (a.toNat:Nat)^^^Θ 32 (b.toNat:Nat)).toNat:Nat))))=_;rw[Lu,Lu,wrap32 (OF _)];rfl
theorem Cs (a b:BitVec 32) (st:St):(fw pv .and 121 (nf a) (nf b)).map (fun d=>(d,st))=some (nf (a &&&b),st):=by
 show wt _ (some (Ut .u32 (bJ .u32 ((Θ 32 (a.toNat:Nat) &&&Θ 32 (b.toNat:Nat)).toNat:Nat))))=_;rw[Lu,Lu,wrap32 (OF _)];rfl
theorem BC (a:BitVec 32) (st:St):(Yl .xor (nf a)).map (fun d=>(d,st))=some (nf (~~~a),st):=by
 show wt _ (some (Ut .u32 (bJ .u32 ((Θ 32 4294967295^^^Θ 32 (a.toNat:Nat)).toNat:Nat))))=_;rw[Lu,show Θ 32 4294967295=BitVec.allOnes 32 from rfl,BitVec.allOnes_xor,wrap32 (OF _)];rfl
theorem Fm (a:BitVec 32) (st:St):(fw pv .shr 121 (nf a) (.int .u64 1)).map (fun d=>(d,st))=some (nf (a>>>1),st):=by
 show wt _ (some (Ut .u32 (Qa3 (a.toNat:Nat) (2^1))))=_;rw[Int.fdiv_eq_ediv_of_nonneg _ (by decide)];show some (Ut .u32 ((a.toNat/2:Nat):Int),st)=_;rw[nf,BitVec.toNat_ushiftRight,Nat.shiftRight_succ,Nat.shiftRight_zero]
theorem Q3 (c:UInt8) (st:St):j8 pv 5 121 (.int .u8 (c.toNat:Nat)) st=some (nf (φ 32 c.toNat),st):=by
 show some (Ut .u32 (bJ .u32 (c.toNat:Nat)),st)=_;have h:c.toNat<256:=c.toNat_lt;rw[wrap32 (by omega),nf,BitVec.toNat_ofNat,Nat.mod_eq_of_lt (by omega)]
theorem Qy (hx:Q5 s0 1 x (byteCells b)) (hl:b.length≤1000000000000) (c:BitVec 32):Ev pv 71 [nf c,x] s0 (nf (k_ c b)) s0:=by
 have uN:=au b;refine IN rfl abC rfl rfl rfl ?_;refine zE ?_;obtain⟨aN,hF,hH⟩:=ri s0;generalize ae .ro s0=S at*;have hx:=Zn hx aN;refine zQ 7 ?_;refine Ψ (d:=nf (~~~c)) (st1:=_) rfl rfl (by exact BC c _) (by dsimp only[R3,u1,u2]<;>rfl) ?_;refine zQ 6 ?_;refine qn ?_;refine zQ 2 ?_
 obtain⟨R,hR⟩:∃R,EC (~~~c) b=R:=⟨_,rfl⟩
 refine zQ 1 ?_;refine ag.loop (fun mm fr st=>∃(i:Nat) (s:BitVec 32),fr.clean=⟨22,[bX fr 0,bX fr 1,bX fr 2,bX fr 3,bX fr 4,nf s,bX fr 6,bX fr 7,bX fr 8,bX fr 9,bX fr 10,x,.int .i64 ((byteCells b).length:Nat),.int .i64 (i:Nat),bX fr 14,bX fr 15,bX fr 16,bX fr 17,bX fr 18,bX fr 19,bX fr 20,bX fr 21],[]⟩∧Has s0.bs.length S st []∧(i+mm=b.length)∧(EC s (b.drop i)=R)) (b.length) ?_ ?_
 ·exact⟨0,~~~c,rfl,hH,by omega,hR⟩
 rintro mm fr st ⟨i,s,hfr,hH,hi,hs⟩;rw[hfr];clear hfr;generalize bX fr=ee;clear fr;refine zQ 5 ?_;refine zP (fun h1=>?_) fun h1=>?_
 ·refine zQ 1 ?_
  obtain⟨q,hq⟩:∃q,b[i]?=some q:=⟨b[i]'(by omega),η _⟩
  have gw:(byteCells b)[i]?=some [.int .u8 (q.toNat:Nat)]:=by unfold byteCells;rw[ψ,hq];rfl
  have vP:b.drop i=q::b.drop (i+1):=by
   have:=Cr (l:=b) (i:=i) (by omega);rw[this];congr 1;rw[η (by omega)] at hq;exact Pd.inj hq
  rw[vP] at hs;change EC (vS 8 (s^^^φ 32 q.toNat)) (b.drop (i+1))=R at hs;refine zQ 4 ?_;refine qr fun Ys Ps=>?_;refine zQ 7 ?_;refine Ψ (d:=nf (φ 32 q.toNat)) (st1:=_) rfl rfl (by exact Q3 q _) (by dsimp only[R3,u1,u2]<;>rfl) ?_;refine Ψ (d:=nf (s^^^φ 32 q.toNat)) (st1:=_) rfl rfl (by exact Bb _ _ _) (by dsimp only[R3,u1,u2]<;>rfl) ?_;refine zQ 2 ?_;generalize s^^^φ 32 q.toNat=s1 at*;refine zQ 5 ?_;refine ag.loop (fun mm fr st=>∃(j:Nat) (s2:BitVec 32),fr.clean=⟨22,[bX fr 0,bX fr 1,bX fr 2,bX fr 3,bX fr 4,nf s2,bX fr 6,bX fr 7,bX fr 8,bX fr 9,bX fr 10,x,.int .i64 ((byteCells b).length:Nat),.int .i64 (i:Nat),bX fr 14,bX fr 15,bX fr 16,bX fr 17,bX fr 18,bX fr 19,bX fr 20,.int .i64 (j:Nat)],[]⟩∧Has s0.bs.length S st []∧(j+mm=8)∧(vS (8-j) s2=vS 8 s1)) (8) ?_ ?_
  ·exact⟨0,s1,rfl,hH,by omega,rfl⟩
  rintro mm fr st ⟨j,s2,hfr,hH,hj,ht⟩;rw[hfr];clear hfr;generalize bX fr=ee;clear fr;refine zQ 5 ?_;refine zP (fun h2=>?_) fun h2=>?_
  ·refine zQ 1 ?_;have hk:8-j=(8-(j+1))+1:=by omega
   rw[hk] at ht;change vS (8-(j+1)) (GL s2)=_ at ht;refine zQ 5 ?_;refine Ψ (d:=nf (s2 &&&1#32)) (st1:=_) rfl rfl (by exact Cs s2 1#32 _) (aa rfl _) ?_;refine zQ 5 ?_;refine Ψ (d:=nf (s2>>>1)) (st1:=_) rfl rfl (by exact Fm s2 _) (aa rfl _) ?_;refine zQ 7 ?_
   by_cases hb:s2 &&&1#32=1#32
   ·have hc:((((s2 &&&1#32).toNat:Nat):Int)==1)=true:=by rw[hb];rfl
    refine ag.cond (v:=true) (by dsimp only[Qa0,R2,nth,Qa2];exact congrArg AT hc) (fun _=>?_) (fun h=>by cases h);refine zQ 2 ?_;refine Ψ (d:=nf ((s2>>>1)^^^2197175160#32)) (st1:=_) rfl rfl (by exact Bb (s2>>>1) 2197175160#32 _) (aa rfl _) ?_;refine zQ 2 ?_;rw[GL,if_pos hb] at ht;refine zQ 4 ?_;exact⟨mm-1,by omega,⟨j+1,_,rfl,hH,by omega,ht⟩⟩
   ·have hc:((((s2 &&&1#32).toNat:Nat):Int)==1)=false:=by
     rw[beq_eq_false_iff_ne];intro h;exact hb (LL (by have e:(1#32).toNat=1:=rfl;omega))
    refine ag.cond (v:=false) (by dsimp only[Qa0,R2,nth,Qa2];exact congrArg AT hc) (fun h=>by cases h) (fun _=>?_);refine zQ 1 ?_;rw[GL,if_neg hb] at ht;refine zQ 4 ?_;exact⟨mm-1,by omega,⟨j+1,_,rfl,hH,by omega,ht⟩⟩
  ·refine zQ 1 ?_;have hj8:j=8:=by omega
   subst hj8;have ht:s2=vS 8 s1:=ht;rw[←ht] at hs;refine zQ 4 ?_;exact⟨b.length-(i+1),by omega,⟨i+1,s2,rfl,hH,by omega,hs⟩⟩
 ·refine zQ 1 ?_;have hil:b.drop i=[]:=P8 (by omega);rw[hil] at hs;have hs:s=R:=hs;subst hs;refine zQ 3 ?_;refine Ψ (d:=nf (~~~s)) (st1:=_) rfl rfl (by exact BC s _) (aa rfl _) ?_;refine zQ 2 ?_;unfold k_;rw[hR];refine ag.ret ⟨rx,_,rfl,rl aN hH (rfl)⟩
theorem K6 (hx:Q5 s0 1 x (byteCells b)) (hl:b.length≤1000000000000) (c:BitVec 32):Ev pv 79 [nf c,x] s0 (nf (k_ c b)) s0:=by
 have uN:=au b;refine IN rfl abu rfl rfl rfl ?_;refine zE ?_;obtain⟨aN,hF,hH⟩:=ri s0;generalize ae .ro s0=S at*;have hx:=Zn hx aN;refine zQ 7 ?_;refine Ψ (d:=nf (~~~c)) (st1:=_) rfl rfl (by exact BC c _) (aa rfl _) ?_;refine zQ 7 ?_
 obtain⟨R,hR⟩:∃R,EC (~~~c) b=R:=⟨_,rfl⟩
 refine zQ 1 ?_;refine ag.loop (fun mm fr st=>∃(i:Nat) (s:BitVec 32),fr.clean=⟨8,[bX fr 0,x,bX fr 2,bX fr 3,bX fr 4,nf s,.int .i64 (i:Nat),bX fr 7],[]⟩∧Has s0.bs.length S st []∧(i+mm=b.length)∧(EC s (b.drop i)=R)) (b.length) ?_ ?_
 ·exact⟨0,~~~c,rfl,hH,by omega,hR⟩
 rintro mm fr st ⟨i,s,hfr,hH,hi,hs⟩;rw[hfr];clear hfr;generalize bX fr=ee;clear fr;refine zQ 5 ?_;refine qn ?_;refine zQ 2 ?_;refine zP (fun h1=>?_) fun h1=>?_
 ·refine zQ 1 ?_
  obtain⟨q,hq⟩:∃q,b[i]?=some q:=⟨b[i]'(by omega),η _⟩
  have gw:(byteCells b)[i]?=some [.int .u8 (q.toNat:Nat)]:=by unfold byteCells;rw[ψ,hq];rfl
  have vP:b.drop i=q::b.drop (i+1):=by
   have:=Cr (l:=b) (i:=i) (by omega);rw[this];congr 1;rw[η (by omega)] at hq;exact Pd.inj hq
  rw[vP] at hs;change EC (vS 8 (s^^^φ 32 q.toNat)) (b.drop (i+1))=R at hs;refine zQ 7 ?_;refine qr fun Yr Pr=>?_;refine qR ?_;refine Ψ (d:=nf (φ 32 q.toNat)) (st1:=_) rfl rfl (by exact Q3 q _) (aa rfl _) ?_;refine Ψ (d:=nf (s^^^φ 32 q.toNat)) (st1:=_) rfl rfl (by exact Bb _ _ _) (aa rfl _) ?_;refine zQ 2 ?_;generalize s^^^φ 32 q.toNat=s1 at*;refine zQ 5 ?_;refine ag.loop (fun mm fr st=>∃(j:Nat) (s2:BitVec 32),fr.clean=⟨8,[bX fr 0,x,bX fr 2,bX fr 3,bX fr 4,nf s2,.int .i64 (i:Nat),.int .i64 (j:Nat)],[]⟩∧Has s0.bs.length S st []∧(j+mm=8)∧(vS (8-j) s2=vS 8 s1)) (8) ?_ ?_
  ·exact⟨0,s1,rfl,hH,by omega,rfl⟩
  rintro mm fr st ⟨j,s2,hfr,hH,hj,ht⟩;rw[hfr];clear hfr;generalize bX fr=ee;clear fr;refine zQ 6 ?_;refine zP (fun h2=>?_) fun h2=>?_
  ·refine zQ 1 ?_;have hk:8-j=(8-(j+1))+1:=by omega
   rw[hk] at ht;change vS (8-(j+1)) (GL s2)=_ at ht;refine zQ 5 ?_;refine Ψ (d:=nf (s2 &&&1#32)) (st1:=_) rfl rfl (by exact Cs s2 1#32 _) (aa rfl _) ?_;refine zQ 2 ?_
   by_cases hb:s2 &&&1#32=1#32
   ·have hc:((((s2 &&&1#32).toNat:Nat):Int)==1)=true:=by rw[hb];rfl
    refine ag.cond (v:=true) (by dsimp only[Qa0,R2,nth,Qa2];exact congrArg AT hc) (fun _=>?_) (fun h=>by cases h);refine zQ 2 ?_;refine Ψ (d:=nf (s2>>>1)) (st1:=_) rfl rfl (by exact Fm s2 _) (aa rfl _) ?_;refine Ψ (d:=nf ((s2>>>1)^^^2197175160#32)) (st1:=_) rfl rfl (by exact Bb (s2>>>1) 2197175160#32 _) (aa rfl _) ?_;refine zQ 2 ?_;rw[GL,if_pos hb] at ht;refine zQ 5 ?_;exact⟨mm-1,by omega,⟨j+1,_,rfl,hH,by omega,ht⟩⟩
   ·have hc:((((s2 &&&1#32).toNat:Nat):Int)==1)=false:=by
     rw[beq_eq_false_iff_ne];intro h;exact hb (LL (by have e:(1#32).toNat=1:=rfl;omega))
    refine ag.cond (v:=false) (by dsimp only[Qa0,R2,nth,Qa2];exact congrArg AT hc) (fun h=>by cases h) (fun _=>?_);refine zQ 2 ?_;refine Ψ (d:=nf (s2>>>1)) (st1:=_) rfl rfl (by exact Fm s2 _) (aa rfl _) ?_;refine zQ 2 ?_;rw[GL,if_neg hb] at ht;refine zQ 5 ?_;exact⟨mm-1,by omega,⟨j+1,_,rfl,hH,by omega,ht⟩⟩
  ·refine zQ 1 ?_;have hj8:j=8:=by omega
   subst hj8;have ht:s2=vS 8 s1:=ht;rw[←ht] at hs;refine zQ 5 ?_;exact⟨b.length-(i+1),by omega,⟨i+1,s2,rfl,hH,by omega,hs⟩⟩
 ·refine zQ 1 ?_;have hil:b.drop i=[]:=P8 (by omega);rw[hil] at hs;have hs:s=R:=hs;subst hs;refine zQ 3 ?_;refine Ψ (d:=nf (~~~s)) (st1:=_) rfl rfl (by exact BC s _) (aa rfl _) ?_;refine zQ 2 ?_;unfold k_;rw[hR];refine ag.ret ⟨rx,_,rfl,rl aN hH (rfl)⟩
def cI (fr:Go.V.Fr) (k:Nat):Go.V.D:=Go.V.nth .bI fr.loc k
theorem g_ (b:List UInt8) (st:St):Q5 st 1 (bF b) (byteCells b):=(dg.frozen (iQ b) (cq b)).rows st
def xA (l:List Int):List UInt8:=(l.map aQ).flatten
def Hw (r:Rg):List UInt8:=aQ r.1++aQ r.2
def w9 (l:List Rg):List UInt8:=(l.map Hw).flatten
def rf (i:aP):List UInt8:=aQ i.op++(aQ i.x++(aQ i.y++(aQ (i.rs.length:Nat)++w9 i.rs)))
def rA (l:List aP):List UInt8:=(l.map rf).flatten
def gy (c:List aP) (s:List Int):List UInt8:=aQ (s.length:Nat)++(xA s++(aQ (c.length:Nat)++rA c))
theorem kO {α:Type} {f:α→List UInt8} {n:Nat}:∀{l:List α},(∀x∈l,(f x).length≤n)→((l.map f).flatten).length≤n*l.length
 |[],_=>by simp
 |x::l,h=>by
  have ih:=kO (l:=l) fun y hy=>h y (List.mem_cons_of_mem _ hy);have:=h x (List.mem_cons_self ..);simp only[VQ,VT,δ,ξ,Nat.mul_add,Qa6];omega
theorem jQ {α:Type} {f:α→List UInt8} {l:List α} {i:Nat} {x:α} (h:l[i]?=some x):(((l.take (i+1)).map f).flatten)=((l.take i).map f).flatten++f x:=by
 rw[List.take_add_one,h,Option.toList_some,Ω,List.flatten_append];simp
theorem xz (l:List Int):(xA l).length≤9*l.length:=kO fun v _=>aV v
theorem KZ (r:Rg):(Hw r).length≤18:=by unfold Hw;have:=aV r.1;have:=aV r.2;rw[δ];omega
theorem Hu (l:List Rg):(w9 l).length≤18*l.length:=kO fun r _=>KZ r
structure aP.fit (i:aP):Prop where
 op:i.op<9223372036854775808
 x:i.x<9223372036854775808
 y:i.y<9223372036854775808
 r:∀g∈i.rs,-2147483648≤g.1∧g.1≤2147483647∧-2147483648≤g.2∧g.2≤2147483647
variable{i:aP}
theorem HS (h:i.rs.length≤1048576):(rf i).length≤18874404:=by
 unfold rf;have:=aV i.op;have:=aV i.x;have:=aV i.y;have:=aV (i.rs.length:Nat);have:=Hu i.rs;simp only[δ];omega
theorem Qe {v:Int} (h1:-2147483648≤v) (h2:v≤2147483647) (st:St):j8 pv 21 3 (.int .i32 v) st=some (.int .i64 v,st):=by
 show some (Ut .i64 (bJ .i64 v),st)=_;rw[wrap_i64 (by omega) (by omega)]
theorem Wf (hF:s0.flr≤s0.bs.length) (du:s0.ro≤s0.bs.length) (hx:Q5 s0 1 x (byteCells b)) (hl:b.length≤50000000000) {r:Rg} (hr:-2147483648≤r.1∧r.1≤2147483647∧-2147483648≤r.2∧r.2≤2147483647):
  ∃d ai,Ev pv 77 [x,.agg (aw r)] s0 d ai∧kC s0 ai d (b++Hw r):=by
 have jX:=aV r.1;refine Bv rfl abw rfl rfl rfl ?_;refine zE ?_;have aN:(ae .nw s0).bs=s0.bs:=rfl;have hF:(ae .nw s0).flr≤s0.bs.length:=hF;have hH:Has s0.bs.length (ae .nw s0) (ae .nw s0) []:=ki (θ _) (θ _);generalize ae .nw s0=S at*;have hx:=Zn hx aN;refine zQ 2 ?_;refine qb hH fun k3 st oC hH=>?_;dsimp only[u2,u1,u3,u4,setMany,u5,u6,υ,ι,aw] at hH;refine zQ 7 ?_;refine Ψ (d:=.int .i64 r.1) (st1:=_) rfl rfl (by exact Qe hr.1 hr.2.1 _) (aa rfl _) ?_;obtain⟨cO,cM⟩:=hH.de hF;obtain⟨d9,st,ax,ho⟩:=eR (x:=x) (b:=b) cO cM (hx.rows hH) (by omega) r.1 (by omega);have hH:=hH.hY ho
 (try dsimp only[u3,u4] at hH)
 refine qv ax ?_;refine zQ 2 ?_;refine Ψ (d:=.int .i64 r.2) (st1:=_) rfl rfl (by exact Qe hr.2.2.1 hr.2.2.2 _) (aa rfl _) ?_;obtain⟨cO,cM⟩:=hH.de hF;obtain⟨d13,st,ax,ho⟩:=eR (x:=d9) (b:=b++aQ r.1) cO cM (hH.rows aB) (by rw[δ];omega) r.2 (by omega);have hH:=hH.hY ho
 (try dsimp only[u3,u4] at hH)
 refine qv ax ?_;refine zQ 2 ?_;refine ag.ret ⟨rx,_,_,_,rfl,rfl,?_⟩;have h1:=(hH.take 1).dU aN du;unfold kC Hw;rw[←κ];exact h1
theorem IF {l:List Int} (hF:s0.flr≤s0.bs.length) (du:s0.ro≤s0.bs.length) (hx:Q5 s0 1 x (byteCells b)) (hy:Q5 s0 1 y (l.map az)) (hl:b.length≤40000000000) (px:l.length≤1048576) (rO:∀v∈l,v<9223372036854775808):
  ∃d ai,Ev pv 72 [x,y,.fn 73 []] s0 d ai∧kC s0 ai d (b++(aQ (l.length:Nat)++((l.map aQ).flatten))):=by
 have jX:=aV (l.length:Nat);refine Bv rfl abB rfl rfl rfl ?_;refine zE ?_;have aN:(ae .nw s0).bs=s0.bs:=rfl;have hF:(ae .nw s0).flr≤s0.bs.length:=hF;have hH:Has s0.bs.length (ae .nw s0) (ae .nw s0) []:=ki (θ _) (θ _);generalize ae .nw s0=S at*;have hx:=Zn hx aN;have hy:=Zn hy aN;refine zQ 8 ?_;refine qn ?_;simp only[ζ];obtain⟨cO,cM⟩:=hH.de hF;obtain⟨d13,st,ax,ho⟩:=eR (x:=x) (b:=b) cO cM (hx.rows hH) (by omega) (l.length:Nat) (by omega);have hH:=hH.hY ho
 (try dsimp only[u3,u4] at hH)
 refine qv ax ?_;refine zQ 6 ?_;refine qn ?_;simp only[ζ];refine zQ 3 ?_;refine ag.loop (fun mm fr st=>∃(i:Nat) (o:D),fr.clean=⟨17,[cI fr 0,cI fr 1,.fn 73 [],cI fr 3,cI fr 4,cI fr 5,cI fr 6,o,cI fr 8,cI fr 9,cI fr 10,cI fr 11,cI fr 12,cI fr 13,y,.int .i64 (l.length:Nat),.int .i64 (i:Nat)],[]⟩∧Has s0.bs.length S st [.aF o 1 (byteCells (b++(aQ (l.length:Nat)++(((l.take i).map aQ).flatten))))]∧(i+mm=l.length)) (l.length) ?_ ?_
 ·exact⟨0,d13,rfl,(by simpa using hH),by omega⟩
 rintro mm fr st ⟨i,o,hfr,hH,hi⟩;rw[hfr];clear hfr;generalize cI fr=ee;clear fr;refine zQ 5 ?_;refine zP (fun hlt=>?_) fun hlt=>?_
 ·refine zQ 1 ?_
  obtain⟨v,hv⟩:∃v,l[i]?=some v:=⟨l[i]'(by omega),η _⟩
  have E7:=Zt hv;have gw:(l.map az)[i]?=some (az v):=by rw[ψ,hv];rfl
  have ej:=jQ (f:=aQ) hv;have Gh:=kO (f:=aQ) (n:=9) (l:=l.take i) (fun x hx=>aV x);have mO:(l.take i).length=i:=by rw[ZD];omega
  have fT:(b++(aQ (l.length:Nat)++(((l.take i).map aQ).flatten))).length≤50000000000:=by simp only[δ];omega
  generalize hP:b++(aQ (l.length:Nat)++(((l.take i).map aQ).flatten))=P at*;refine zQ 4 ?_;refine qr fun Rq Gf=>?_;refine zQ 7 ?_;obtain⟨cO,cM⟩:=hH.de hF;obtain⟨d23,st,ax,ho⟩:=eR (x:=o) (b:=P) cO cM (hH.rows aB) (by omega) v (rO v E7);have hH:=hH.hY ho
  (try dsimp only[u3,u4] at hH)
  refine qv ax ?_;refine zQ 6 ?_;exact⟨mm-1,by omega,⟨i+1,d23,rfl,(by rw[ej,←κ (aQ _),←κ b,hP];exact hH.take 1),by omega⟩⟩
 ·refine zQ 1 ?_;rw[xw (by omega)] at hH;refine zQ 5 ?_;refine ag.ret ⟨rx,_,_,_,rfl,rfl,?_⟩;exact hH.dU aN du
theorem ID {l:List Rg} (hF:s0.flr≤s0.bs.length) (du:s0.ro≤s0.bs.length) (hx:Q5 s0 1 x (byteCells b)) (hy:Q5 s0 2 y (l.map aw)) (hl:b.length≤40000000000) (px:l.length≤1048576) (rO:∀g∈l,-2147483648≤g.1∧g.1≤2147483647∧-2147483648≤g.2∧g.2≤2147483647):
  ∃d ai,Ev pv 76 [x,y,.fn 77 []] s0 d ai∧kC s0 ai d (b++(aQ (l.length:Nat)++((l.map Hw).flatten))):=by
 have jX:=aV (l.length:Nat);refine Bv rfl abx rfl rfl rfl ?_;refine zE ?_;have aN:(ae .nw s0).bs=s0.bs:=rfl;have hF:(ae .nw s0).flr≤s0.bs.length:=hF;have hH:Has s0.bs.length (ae .nw s0) (ae .nw s0) []:=ki (θ _) (θ _);generalize ae .nw s0=S at*;have hx:=Zn hx aN;have hy:=Zn hy aN;refine zQ 8 ?_;refine qn ?_;simp only[ζ];obtain⟨cO,cM⟩:=hH.de hF;obtain⟨d13,st,ax,ho⟩:=eR (x:=x) (b:=b) cO cM (hx.rows hH) (by omega) (l.length:Nat) (by omega);have hH:=hH.hY ho
 (try dsimp only[u3,u4] at hH)
 refine qv ax ?_;refine zQ 6 ?_;refine qn ?_;simp only[ζ];refine zQ 3 ?_;refine ag.loop (fun mm fr st=>∃(i:Nat) (o:D),fr.clean=⟨17,[cI fr 0,cI fr 1,.fn 77 [],cI fr 3,cI fr 4,cI fr 5,cI fr 6,o,cI fr 8,cI fr 9,cI fr 10,cI fr 11,cI fr 12,cI fr 13,y,.int .i64 (l.length:Nat),.int .i64 (i:Nat)],[]⟩∧Has s0.bs.length S st [.aF o 1 (byteCells (b++(aQ (l.length:Nat)++(((l.take i).map Hw).flatten))))]∧(i+mm=l.length)) (l.length) ?_ ?_
 ·exact⟨0,d13,rfl,(by simpa using hH),by omega⟩
 rintro mm fr st ⟨i,o,hfr,hH,hi⟩;rw[hfr];clear hfr;generalize cI fr=ee;clear fr;refine zQ 5 ?_;refine zP (fun hlt=>?_) fun hlt=>?_
 ·refine zQ 1 ?_
  obtain⟨v,hv⟩:∃v,l[i]?=some v:=⟨l[i]'(by omega),η _⟩
  have E7:=Zt hv;have gw:(l.map aw)[i]?=some (aw v):=by rw[ψ,hv];rfl
  have ej:=jQ (f:=Hw) hv;have Gh:=kO (f:=Hw) (n:=18) (l:=l.take i) (fun x hx=>KZ x);have mO:(l.take i).length=i:=by rw[ZD];omega
  have fT:(b++(aQ (l.length:Nat)++(((l.take i).map Hw).flatten))).length≤50000000000:=by simp only[δ];omega
  generalize hP:b++(aQ (l.length:Nat)++(((l.take i).map Hw).flatten))=P at*;refine zQ 4 ?_;refine qr fun Rq Gf=>?_;refine Qa7 rfl (ev rfl) (by assumption) rfl (aa rfl _) ?_;refine qa hH fun k9 st PB hH=>?_;refine qS hH aB fun st hH=>?_;dsimp only[u2,u1,u3,u4,setMany,u5,u6,υ,ι,aw] at hH;refine zQ 4 ?_;refine IT (m:=2) hH rfl (ev rfl) (by exact aB) (by dsimp only[ν,τ,ο,ς,aw]<;>rfl) rfl rfl (aa rfl _) ?_;obtain⟨cO,cM⟩:=hH.de hF;obtain⟨d23,st,ax,ho⟩:=Wf (x:=o) (b:=P) cO cM (hH.rows aO) (by omega) (r:=v) (rO v E7);have hH:=hH.hY ho
  (try dsimp only[u3,u4] at hH)
  refine qv ax ?_;refine zQ 6 ?_;exact⟨mm-1,by omega,⟨i+1,d23,rfl,(by rw[ej,←κ (aQ _),←κ b,hP];exact hH.take 1),by omega⟩⟩
 ·refine zQ 1 ?_;rw[xw (by omega)] at hH;refine zQ 5 ?_;refine ag.ret ⟨rx,_,_,_,rfl,rfl,?_⟩;exact hH.dU aN du
theorem Wi (hF:s0.flr≤s0.bs.length) (du:s0.ro≤s0.bs.length) (hx:Q5 s0 1 x (byteCells b)) (hl:b.length≤30000000000) (hi:i.ok) (hf:i.fit):
  ∃d ai,Ev pv 75 [x,.agg (aJ i)] s0 d ai∧kC s0 ai d (b++rf i):=by
 obtain⟨SJ,AA⟩:=hi;have jX:=aV i.op;have CA:=aV i.x;have hn3:=aV i.y;have hcl:=SJ.cells.1;refine Bv rfl aby rfl rfl rfl ?_;refine zE ?_;have aN:(ae .nw s0).bs=s0.bs:=rfl;have hF:(ae .nw s0).flr≤s0.bs.length:=hF;have hH:Has s0.bs.length (ae .nw s0) (ae .nw s0) []:=ki (θ _) (θ _);generalize ae .nw s0=S at*;have hx:=Zn hx aN;have L9:=SJ.arg s0.bs.length S;refine zQ 2 ?_;refine qb hH fun k3 st oC hH=>?_;dsimp only[u2,u1,u3,u4,setMany,u5,u6,υ,ι,aJ] at hH;refine zQ 7 ?_;obtain⟨cO,cM⟩:=hH.de hF;obtain⟨d8,st,ax,ho⟩:=eR (x:=x) (b:=b) cO cM (hx.rows hH) (by omega) i.op hf.op;have hH:=hH.hY ho
 (try dsimp only[u3,u4] at hH)
 refine qv ax ?_;refine zQ 2 ?_;obtain⟨cO,cM⟩:=hH.de hF;obtain⟨d11,st,ax,ho⟩:=eR (x:=d8) (b:=b++aQ i.op) cO cM (hH.rows aB) (by rw[δ];omega) i.x hf.x;have hH:=hH.hY ho
 (try dsimp only[u3,u4] at hH)
 refine qv ax ?_;refine zQ 2 ?_;obtain⟨cO,cM⟩:=hH.de hF;obtain⟨d14,st,ax,ho⟩:=eR (x:=d11) (b:=(b++aQ i.op)++aQ i.x) cO cM (hH.rows aB) (by simp only[δ];omega) i.y hf.y;have hH:=hH.hY ho
 (try dsimp only[u3,u4] at hH)
 refine qv ax ?_;refine zQ 7 ?_;obtain⟨cO,cM⟩:=hH.de hF;obtain⟨d18,st,ax,ho⟩:=ID (x:=d14) (b:=((b++aQ i.op)++aQ i.x)++aQ i.y) cO cM (hH.rows aB) (L9.rows hH) (by simp only[δ];omega) AA hf.r;have hH:=hH.hY ho
 (try dsimp only[u3,u4] at hH)
 refine qv ax ?_;refine zQ 2 ?_;refine ag.ret ⟨rx,_,_,_,rfl,rfl,?_⟩;have h1:=(hH.take 1).dU aN du;unfold kC rf w9;simp only[κ] at h1⊢;exact h1
theorem CK {l:List aP} (hF:s0.flr≤s0.bs.length) (du:s0.ro≤s0.bs.length) (hx:Q5 s0 1 x (byteCells b)) (hy:Q5 s0 4 y (l.map aJ)) (hl:b.length≤10000000) (px:l.length≤1000) (ba:∀i∈l,i.ok) (rO:∀i∈l,i.fit):
  ∃d ai,Ev pv 74 [x,y,.fn 75 []] s0 d ai∧kC s0 ai d (b++(aQ (l.length:Nat)++((l.map rf).flatten))):=by
 have jX:=aV (l.length:Nat);refine Bv rfl abz rfl rfl rfl ?_;refine zE ?_;have aN:(ae .nw s0).bs=s0.bs:=rfl;have hF:(ae .nw s0).flr≤s0.bs.length:=hF;have hH:Has s0.bs.length (ae .nw s0) (ae .nw s0) []:=ki (θ _) (θ _);generalize ae .nw s0=S at*;have hx:=Zn hx aN;have hy:=Zn hy aN;refine zQ 8 ?_;refine qn ?_;simp only[ζ];obtain⟨cO,cM⟩:=hH.de hF;obtain⟨d13,st,ax,ho⟩:=eR (x:=x) (b:=b) cO cM (hx.rows hH) (by omega) (l.length:Nat) (by omega);have hH:=hH.hY ho
 (try dsimp only[u3,u4] at hH)
 refine qv ax ?_;refine zQ 6 ?_;refine qn ?_;simp only[ζ];refine zQ 3 ?_;refine ag.loop (fun mm fr st=>∃(i:Nat) (o:D),fr.clean=⟨17,[cI fr 0,cI fr 1,.fn 75 [],cI fr 3,cI fr 4,cI fr 5,cI fr 6,o,cI fr 8,cI fr 9,cI fr 10,cI fr 11,cI fr 12,cI fr 13,y,.int .i64 (l.length:Nat),.int .i64 (i:Nat)],[]⟩∧Has s0.bs.length S st [.aF o 1 (byteCells (b++(aQ (l.length:Nat)++(((l.take i).map rf).flatten))))]∧(i+mm=l.length)) (l.length) ?_ ?_
 ·exact⟨0,d13,rfl,(by simpa using hH),by omega⟩
 rintro mm fr st ⟨i,o,hfr,hH,hi⟩;rw[hfr];clear hfr;generalize cI fr=ee;clear fr;refine zQ 5 ?_;refine zP (fun hlt=>?_) fun hlt=>?_
 ·refine zQ 1 ?_
  obtain⟨v,hv⟩:∃v,l[i]?=some v:=⟨l[i]'(by omega),η _⟩
  have E7:=Zt hv;have gw:(l.map aJ)[i]?=some (aJ v):=by rw[ψ,hv];rfl
  have ej:=jQ (f:=rf) hv;have Gh:=kO (f:=rf) (n:=18874404) (l:=l.take i) (fun x hx=>HS (ba x (List.mem_of_mem_take hx)).2);have mO:(l.take i).length=i:=by rw[ZD];omega
  have fT:(b++(aQ (l.length:Nat)++(((l.take i).map rf).flatten))).length≤30000000000:=by simp only[δ];omega
  generalize hP:b++(aQ (l.length:Nat)++(((l.take i).map rf).flatten))=P at*;refine zQ 4 ?_;refine qr fun Rq Gf=>?_;refine Qa7 rfl (ev rfl) (by assumption) rfl (aa rfl _) ?_;refine qa hH fun k9 st PB hH=>?_;refine qS hH aB fun st hH=>?_;dsimp only[u2,u1,u3,u4,setMany,u5,u6,υ,ι,aJ] at hH;refine zQ 4 ?_;refine IT (m:=4) hH rfl (ev rfl) (by exact aB) (by dsimp only[ν,τ,ο,ς,aJ]<;>rfl) rfl rfl (aa rfl _) ?_;obtain⟨cO,cM⟩:=hH.de hF;obtain⟨d23,st,ax,ho⟩:=Wi (x:=o) (b:=P) cO cM (hH.rows aO) (by omega) (i:=v) (ba v E7) (rO v E7);have hH:=hH.hY ho
  (try dsimp only[u3,u4] at hH)
  refine qv ax ?_;refine zQ 6 ?_;exact⟨mm-1,by omega,⟨i+1,d23,rfl,(by rw[ej,←κ (aQ _),←κ b,hP];exact hH.take 1),by omega⟩⟩
 ·refine zQ 1 ?_;rw[xw (by omega)] at hH;refine zQ 5 ?_;refine ag.ret ⟨rx,_,_,_,rfl,rfl,?_⟩;exact hH.dU aN du
end Go.Proofs.YtecjacicdpejaaaGreat
namespace Go.V
variable{N:Nat} {S st:St} {H:List bo}
theorem Has.jA (A B:List bo) (h:Has N S st (A++(B++H))):Has N S st (B++(A++H)):=by
 refine h.sub (fun i=>if i<B.length then i+A.length else if i<B.length+A.length then i-B.length else i) (fun a b e=>?_) fun i e hi=>?_
 ·have e':(if a<B.length then a+A.length else if a<B.length+A.length then a-B.length else a)=(if b<B.length then b+A.length else if b<B.length+A.length then b-B.length else b):=e
  repeat' split at e'
  all_goals omega
 ·show(A++(B++H))[if i<B.length then i+A.length else if i<B.length+A.length then i-B.length else i]?=some e
  by_cases h1:i<B.length
  ·rw[if_pos h1,ρ (by omega),Nat.add_sub_cancel,χ h1]
   rwa [χ h1] at hi
  ·rw[ρ (by omega)] at hi
   by_cases h2:i<B.length+A.length
   ·rw[if_neg h1,if_pos h2,χ (by omega)]
    rwa [χ (by omega)] at hi
   ·rw[if_neg h1,if_neg h2,ρ (by omega),ρ (by omega)];rw[ρ (by omega)] at hi;rw[←hi];congr 1;omega
variable{j:Nat}{e:bo}
theorem Has.fV (h:Has N S st (e::H)) (hj:j<H.length):Has N S st (H.set j e):=
 Has.back (h.erase (j+1)) hj
variable{k:Nat}
theorem Has.xV (h:Has N S st H) (hj:H[j]?=some e) (hk:e.K k):k+1≤st.bs.length:=((h.ok j e hj).2 k hk).2
theorem jy {x y:Oper} {fi fj:Fr} {si wb sj NW:St} {a:Operand} {aE off v:Nat} {ar:Bool} {c:List D} (hy:kJ y.op=none) (hx:kJ x.op=some a) (ha:fi.ev a=.ptr k aE off) (h1:sj.bs[k]?=some (.mem v ar c)) (h2:NW.bs[k]?=some (.mem v ar c)) (h3:si.bs[k]?=some (.mem v ar c)) (hr:refs c≤si.bs.length):lU x fi si wb y fj sj NW=true:=by
 unfold lU;simp only[hy,hx,ha,D.rU,ω];refine⟨tR h1 h2,?_⟩;unfold rD;simp only[h3]
 split
 ·rfl
 ·simpa using hr
variable{x:D}{s:Nat}{es:List (List D)}{z:List D}
theorem Has.clear {P:Pv} {t e:TypeId} (h:Has N S st H) (hj:H[j]?=some (.aF x s es)) (ht:P.db t=some (.slice e)) (hz:ec P e=some z) (oB:z.length=s) (hr:refs z=0):
  ∃ai,pJ P [t] x st=some (.tup [],ai)∧Has N S ai (H.set j (.aF x s (γ es.length z))):=by
 have D_:=(h.ok j _ hj).2;have hown:=h.own hj
 have oH:j<H.length:=by
  rcases Pe j H.length with h'|h'
  ·exact h'
  ·rw[Z5 h'] at hj;cases hj
 cases hown with
 |nul=>
  refine⟨st,by simp only[pJ,ht],?_⟩
  have:H.set j (.aF .nul s (γ ([]:List (List D)).length z))=H:=by
   refine VM fun i=>?_
   by_cases hi:i=j
   ·subst hi;rw[Γ oH,hj];rfl
   ·rw[Ξ (fun e=>hi e.symm)]
  rw[this];exact h
 |win k aE off es c hm hle hc he=>
  have hk:=D_ k (by simp only[bo.aF,D.ref])
  have Jr:∀n,refs (Go.V.fV n z)=0:=by
   intro n;unfold Go.V.fV
   induction n with
   |zero=>rfl
   |succ n ih=>
    rw[AI,VT]
    have PS:∀(a b:List D),refs a=0→refs b=0→refs (a++b)=0:=by
     intro a
     induction a with
     |nil=>intro b _ hb;exact hb
     |cons d a N4=>
      intro b ha hb;simp only[refs,List.cons_append] at ha⊢;have:=N4 b (by omega) hb;omega
    exact PS _ _ hr ih
  have sW:(Go.V.fV es.length z).length=es.length*s:=by
   unfold Go.V.fV;rw[dV (s:=s) (fun e he=>by rw[(cg.1 he).2];exact oB),μ]
  have hw:st.wr k aE off (Go.V.fV es.length z)=some ⟨st.bs.set k (.mem aE true (c.take off++Go.V.fV es.length z++c.drop (off+(Go.V.fV es.length z).length))),st.flr,st.ro⟩:=nO hm (by omega) (jT h hk.1 (.inr (Jr _)));refine⟨_,by simp only[pJ,ht,hz,hD];rw[if_pos oB,hw];rfl,?_⟩;refine h.Fc hj (fun n hn hne=>?_) (by simp) rfl rfl ?_ (fun n hn=>.inl hn) fun n hn=>?_
  ·simp only;rw[Ξ (fun e=>hne (by simp only[bo.aF,D.ref];omega))]
  ·have Mq:∀e'∈γ es.length z,e'.length=s:=fun e' vO=>by rw[(cg.1 vO).2];exact oB
   have:=kA.win (st:=⟨st.bs.set k (.mem aE true (c.take off++Go.V.fV es.length z++c.drop (off+(Go.V.fV es.length z).length))),st.flr,st.ro⟩) (s:=s) k aE off (γ es.length z) (c.take off++Go.V.fV es.length z++c.drop (off+(Go.V.fV es.length z).length))
    (by simp only;rw[Γ hk.2]) (by rw[μ];simp;omega) ?_ Mq
   ·rw[μ] at this;exact this
   ·rw[μ,κ,List.drop_append_of_le_length (by simp;omega),List.drop_take,Nat.sub_self,ς,Qa1,←sW,List.take_left']
    ·rfl
    ·rfl
  ·simp only[bo.aF,D.ref] at hn;have:n=k:=by omega
   subst this
   simpa using hk.2
variable{P:Pv} {ops:Array Oper} {rest:List Oper} {fr aM:Fr} {Q:Fr→St→Prop} {ty:TypeId} {pp:String} {a:Array Edge} {g:Option (Nat×Bool)} {dst:Nat}
theorem ab.Rz {t e:TypeId} {xo:Operand} (hH:Has N S st H) (hg:aH ops fr ⟨none,.call ⟨.builtin .clear,#[xo],#[t]⟩,ty,pp,a,g⟩=some true) (hx:fr.ev xo=x) (hj:H[j]?=some (.aF x s es)) (ht:P.db t=some (.slice e)) (hz:ec P e=some z) (oB:z.length=s) (hr:refs z=0) (h:∀ai,Has N S ai (H.set j (.aF x s (γ es.length z)))→ab P ops rest fr ai Q):ab P ops (⟨none,.call ⟨.builtin .clear,#[xo],#[t]⟩,ty,pp,a,g⟩::rest) fr st Q:=by
 obtain⟨ai,h1,h2⟩:=hH.clear hj ht hz oB hr;refine ab.N hg rfl (d:=.tup []) (st1:=ai) ?_ (h _ h2);simp only[eS,VQ,List.map_nil,hx,bW,List.toList_toArray];exact h1
theorem i7 {st:St} (h:Q5 st s x es):x.cells?=some [x]:=by cases h<;>rfl
end Go.V
namespace Go.Proofs.YtecjacicdpejaaaGreat
open Go.V Go
def jG (n:Nat):List D:=[.int .i64 (n:Nat)]
def sN (n:Nat):List D:=[.int .i64 (n:Nat),.bool true]
variable{l:List Nat}{i q:Nat}
theorem Dx (h:l[i]?=some q):(l.map jG)[i]?=some (jG q):=by rw[ψ,h];rfl
theorem O8 (h:l[i]?=some q):(l.map sN)[i]?=some (sN q):=by rw[ψ,h];rfl
structure eQ (P Q:List Nat) (seen:List Bool):Prop where
 len:P.length=seen.length
 mem:∀(i p:Nat),P[i]?=some p→seen[i]?=some (decide (Q[p]?=some i))
 cnt:Q.length=seen.count true
 small:seen.length≤4096
def NO (N:Nat) (S st:St) (ks:Nat) (seen:List Bool) (H:List bo):Prop:=
 ∃pd qd P Q,Has N S st (.box ks (.mem 0 false [pd,qd])::.aF pd 1 (P.map jG)::.aF qd 2 (Q.map sN)::H)∧eQ P Q seen
variable{P Q:List Nat}{seen:List Bool}{b:Bool}
theorem eQ.get (h:eQ P Q seen) (hi:seen[i]?=some b):∃p,P[i]?=some p∧b=decide (Q[p]?=some i):=by
 have hl:=bp hi;have ry:=h.len;refine⟨P[i]'(by omega),η _,?_⟩;have:=h.mem i _ (η (by omega));rw[hi] at this;exact Pd.inj this
theorem eQ.add (h:eQ P Q seen) (hi:seen[i]?=some false):eQ (P.set i Q.length) (Q++[i]) (seen.set i true):=by
 have hl:=bp hi;have ry:=h.len;refine⟨by simp[ry],fun j p hj=>?_,?_,by rw[Δ];exact h.small⟩
 ·by_cases hij:j=i
  ·subst hij;rw[Γ (by omega)] at hj⊢;cases hj;simp
  ·rw[Ξ (fun e=>hij e.symm)] at hj⊢;rw[h.mem j p hj]
   congr 2
   rcases Nat.lt_trichotomy p Q.length with hp|hp|hp
   ·rw[χ hp]
   ·subst hp;have hne:¬i=j:=fun e=>hij e.symm;simp[hne]
   ·rw[Z5 (by omega),Z5 (by simp;omega)]
 ·have h1:=GB (fun b=>b==true) (l:=seen);have h2:=GB (fun b=>b==true) (l:=seen.set i true);have h3:=count_set hi
  have e1:∀l:List Bool,l.countP (fun a=>decide (¬(a==true)=true))=l.count false:=by
   intro l;unfold List.count;congr 1;funext b;cases b<;>rfl
  have e2:∀l:List Bool,l.countP (fun a=>a==true)=l.count true:=fun l=>rfl;rw[e1,e2] at h1 h2;rw[δ,h.cnt];simp only[Δ,ξ,π] at h2⊢;omega
theorem eQ.clear (h:eQ P Q seen):eQ P [] (γ seen.length false):=by
 refine⟨by rw[μ];exact h.len,fun i p hi=>?_,?_,by rw[μ];exact h.small⟩
 ·have:=bp hi;have:=h.len;rw[JS,if_pos (by omega)];simp
 ·rw[AN];simp
theorem eQ.pj (h:eQ P Q seen):Q.length≤4096:=by
 have:=h.cnt;have:=h.small;have:=List.count_le_length (a:=true) (l:=seen);omega
variable{N ks:Nat}{S s0:St}{H:List bo}{pd qd:D}
theorem IQ (hi:seen[i]?=some b) (ba:eQ P Q seen) (hH:Has N S s0 (.box ks (.mem 0 false [pd,qd])::.aF pd 1 (P.map jG)::.aF qd 2 (Q.map sN)::H)):
  ∃r ai,Ev pv 256 [.ptr ks 0 0,.int .i64 (i:Nat)] s0 r ai∧r=.bool b∧ai=s0:=by
 obtain⟨p,hp,rfl⟩:=ba.get hi;have hl:=bp hp;have ry:=ba.len;have hsm:=ba.small;have gw:=Dx hp
 have jl:(⟨(ae .rw s0).bs.take s0.bs.length,s0.flr,s0.ro⟩:St)=s0:=by
  show(⟨s0.bs.take s0.bs.length,s0.flr,s0.ro⟩:St)=s0;rw[tn]
 refine Bv rfl WG rfl rfl rfl ?_;refine zE ?_;have cj:=hH;have hH:=hH.bE;have bV:(ae .rw s0).bs=s0.bs:=rfl;generalize ae .rw s0=S2 at*;refine zQ 4 ?_;have br:decide (((i:Nat):Int)<0)=false:=by rw[decide_eq_false];omega
 refine zQ 2 ?_;refine ag.dM 16 (.bool false) [] ?_ (fun ff tmp dj=>?_)
 ·refine zQ 8 ?_;refine qn ?_ (hR:=hH.rows aO) (hg:=wi br);simp only[ζ];refine zQ 2 ?_;refine Φ (aR ?_ ?_)
  ·dsimp only[aK,Y',nth,u2,u1]
   all_goals(first|rfl|simp)
  ·refine zF ?_
   all_goals(simp_all;done)
 dsimp only[aK,Y',nth,u2,u1];refine zQ 9 ?_;refine qi hH aO fun Ui Mh=>?_;refine zQ 3 ?_
 by_cases hq:p<Q.length
 ·obtain⟨q,Va⟩:∃q,Q[p]?=some q:=⟨Q[p]'hq,η _⟩
  have nB:=O8 Va;have sY:decide (((p:Nat):Int)<((Q.length:Nat):Int))=true:=by rw[decide_eq_true_eq];omega
  refine zQ 7 ?_;refine qn ?_ (hR:=hH.rows a_);simp only[ζ];refine zQ 7 ?_;refine qi hH a_ (fun Yp Pp=>?_) (hg:=wi sY);refine ab.iU (fo:=0) (m:=0) (o2:=0) (af rfl rfl rfl sY) (ev rfl) (by assumption) rfl rfl rfl (fun _=>(aa rfl _)) (fun p38 aaj=>?_);refine zQ 6 ?_;refine ag.ret ⟨rx,_,_,_,rfl,aj (rfl),?_⟩;refine⟨?_,jl⟩
  have hd:(((q:Nat):Int)==((i:Nat):Int))=decide (Q[p]?=some i):=by
   rw[Va]
   by_cases h:q=i
   ·simp[h]
   ·simp[h];omega
  exact congrArg AT hd
 ·have sY:decide (((p:Nat):Int)<((Q.length:Nat):Int))=false:=by rw[decide_eq_false];omega
  refine zQ 7 ?_;refine qn ?_ (hR:=hH.rows a_);simp only[ζ];refine zQ 15 ?_;refine ag.ret ⟨rx,_,_,_,rfl,aj (rfl),?_⟩;refine⟨?_,jl⟩;rw[Z5 (by omega)];rfl
theorem IU (hF:S.flr≤N) (hi:seen[i]?=some b) (hH:NO N S s0 ks seen H):
  ∃r ai,Ev pv 229 [.ptr ks 0 0,.int .i64 (i:Nat),.bool true] s0 r ai∧r=.bool (!b)∧NO N S ai ks (seen.set i true) H:=by
 obtain⟨pd,qd,P,Q,hH,ba⟩:=hH;have hl:=bp hi;have ry:=ba.len;have hsm:=ba.small;have Kb:=ba.pj;obtain⟨p0,Ju,_⟩:=ba.get hi;have gw:=Dx Ju;refine Bv rfl WQ rfl rfl rfl ?_;refine zE ?_;change ag _ _ _ _ s0 _;refine zQ 4 ?_;have br:decide (((i:Nat):Int)<0)=false:=by rw[decide_eq_false];omega
 have ck:decide (((i:Nat):Int)≥((P.length:Nat):Int))=false:=by rw[decide_eq_false];omega
 obtain⟨_,st,ax,rfl,rfl⟩:=IQ hi ba hH;refine zQ 2 ?_;refine ag.dM 22 (.bool b) [] ?_ (fun ff tmp dj=>?_)
 ·refine zQ 8 ?_;refine qn ?_ (hR:=hH.rows aO) (hg:=wi br);simp only[ζ];refine zQ 5 ?_;refine qv ax ?_ (hg:=wi ck);refine zQ 1 ?_;refine Φ (aR ?_ ?_)
  ·dsimp only[aK,Y',nth,u2,u1]
   all_goals(first|rfl|simp)
  ·dsimp only[Fr.eH,R3,Fr.clean,Qa0,R2,nth,look,u1,u2,v1,v2,v4]
   all_goals(first|rfl|(simp[br,ck];done)|(simp_all;done)|(simp[br,ck];omega)|(simp_all;omega))
 dsimp only[aK,Y',nth,u2,u1]
 cases b with
 |true=>
  refine zQ 5 ?_;refine ag.ret ⟨rx,_,_,_,rfl,rfl,?_⟩;refine⟨rfl,pd,qd,P,Q,hH,?_⟩
  have:seen.set i true=seen:=by
   refine VM fun j=>?_
   by_cases hj:j=i
   ·subst hj;rw[Γ hl,hi]
   ·rw[Ξ (fun e=>hj e.symm)]
  rw[this];exact ba
 |false=>
  refine zQ 13 ?_;refine qn ?_ (hR:=hH.rows a_);simp only[ζ];refine qi hH aO fun p33 aak=>?_;refine ab.jb hH rfl (ev rfl) (ev rfl) (by assumption) rfl rfl (by exact aO) (by assumption) (ε rfl) (by exact .inl hF) (fun st hH=>?_);dsimp only[u2,u1,u3,u4,setMany,u5,u6,υ,ι,jG,sN] at hH;refine zQ 11 ?_;refine qh (s:=2) (vs:=[_]) hH fun k42 st adu hH=>?_;dsimp only[u2,u1,u3,u4,setMany,u5,u6,υ,ι,jG,sN] at hH;refine ab.cL (s:=2) hH rfl (ev rfl) (ev rfl) (by exact bh) (by exact hH.rows (by exact aB)) rfl rfl rfl rfl rfl rfl rfl ⟨(ε rfl),(ε rfl)⟩ (fun _=>(aa rfl _)) (by simp only[ξ,π,ζ]<;>omega) (by exact .inl hF) (fun x43 st hH=>?_);dsimp only[u2,u1,u3,u4,setMany,u5,u6,υ,ι,jG,sN] at hH;refine zQ 2 ?_;refine qT hH aO (fun st hH=>?_) (kZ:=hH.cX bh);dsimp only[u2,u1,u3,u4,setMany,u5,u6,υ,ι,jG,sN] at hH;refine zQ 5 ?_;refine ag.ret ⟨rx,_,_,_,rfl,rfl,?_⟩;refine⟨rfl,pd,x43,P.set i Q.length,Q++[i],?_,ba.add hi⟩;rw[List.map_set,Ω];exact hH.drop 1
theorem C3 (hF:S.flr≤N) (hH:NO N S s0 ks seen H):
  ∃r ai,Ev pv 203 [.ptr ks 0 0] s0 r ai∧r=.tup []∧NO N S ai ks (γ seen.length false) H:=by
 obtain⟨pd,qd,P,Q,hH,ba⟩:=hH;have Kb:=ba.pj;refine Bv rfl W4 rfl rfl rfl ?_;refine zE ?_;change ag _ _ _ _ s0 _;refine zQ 6 ?_;refine ab.Rz hH rfl (ev rfl) a_ rfl rfl rfl rfl (fun st hH=>?_);dsimp only[u1,u2] at hH;refine zQ 7 ?_;refine ab.o8 hH rfl (ev rfl) (by exact a_) rfl rfl (et (by simp only[ζ,YQ,ξ,δ,π,ZD,lx,Δ,μ];omega)) ⟨(by omega),(by simp only[ζ,YQ,ξ,δ,π,ZD,lx,Δ,μ];omega)⟩ (fun _=>(aa rfl _)) (fun y11 hH=>?_);refine zQ 2 ?_;refine qT hH aB (fun st hH=>?_) (kZ:=hH.cX a_);dsimp only[u2,u1,u3,u4,setMany,u5,u6,υ,ι,jG,sN] at hH;refine zQ 1 ?_;refine⟨fun i h=>(by cases h),_,_,_,rfl,rfl,?_⟩;exact⟨rfl,pd,_,P,[],hH,ba.clear⟩
variable{n:Nat}
theorem zK (hF:S.flr≤N) (hn:n≤4096) (hH:Has N S s0 H):
  ∃r ai,Ev pv 199 [.int .i64 (n:Nat)] s0 r ai∧∃ks,r=.tup [.ptr ks 0 0,.int .i64 0]∧NO N S ai ks (γ n false) H:=by
 refine Bv rfl W8 rfl rfl rfl ?_;refine zE ?_;change ag _ _ _ _ s0 _;refine zQ 5 ?_;have br:decide (((n:Nat):Int)<0)=false:=by rw[decide_eq_false];omega
 refine zQ 2 ?_;refine ag.dM 9 (.bool false) [] ?_ (fun ff tmp dj=>?_)
 ·refine zQ 6 ?_;refine Φ (aR ?_ ?_)
  ·dsimp only[aK,Y',nth,u2,u1]
   all_goals(first|rfl|simp)
  ·refine zF ?_
   all_goals(simp[br];omega)
 dsimp only[aK,Y',nth,u2,u1];refine zQ 5 ?_;refine ab.Az (s:=1) hH rfl rfl rfl rfl rfl rfl rfl rfl (ε rfl) (by omega) (fun _=>(aa rfl _)) (fun k11 st Jv hH=>?_);refine ab.jc (qs:=[(0,_)]) rfl rfl rfl rfl ⟨rfl,(ev rfl),(by rfl),trivial⟩ (by intro q hq;simp only[IS,BY,or_false] at hq;rcases hq with rfl<;>exact⟨rfl,by exact ε rfl⟩) (by show Y' _ [_,_] _=_;dsimp only[List.foldl_cons,List.foldl_nil,u2,u1]<;>rfl) (aa rfl _) ?_;refine qb hH fun k13 st Ms hH=>?_;refine zQ 3 ?_;refine ag.ret ⟨rx,_,_,_,rfl,rfl,?_⟩;refine⟨k13,rfl,.win k11 0 0 n 1,.nul,γ n 0,[],?_,?_⟩
 ·rw[bU];exact Has.jA [_] [_,_] (hH.fW 2)
 ·refine⟨by simp,fun i p hi=>?_,by rw[AN];simp,by simpa using hn⟩;have:=bp hi;rw[μ] at this;rw[JS,if_pos this];simp
abbrev j4:=Nat→Int
def aA (f:j4):List D:=[.int .i64 (f 0),.int .i64 (f 1),.int .i64 (f 2),.int .i64 (f 3),.int .i64 (f 4),.int .i64 (f 5),.int .i64 (f 6),.int .i64 (f 7),.int .i64 (f 8),.int .i64 (f 9)]
def bK:j4:=fun _=>-1
def cG:j4:=fun _=>0
def ze (f:j4) (x:Nat) (v:Int):j4:=fun j=>if j=x then v else f j
theorem sm {ns pc:Nat} {i:aP} (h:dv n ns pc i=true):
  i.op=7∨(i.op=2∧(0≤i.x∧i.x<(n:Int))∧0≤i.y∧i.y<(n:Int))∨(i.op=3∧0≤i.x∧i.x<(n:Int))∨(i.op=4∧pc+1<n∧0≤i.x∧i.x<10)∨(i.op=5∧pc+1<n)∨(i.op=6∧pc+1<n)∨(i.op=1∧pc+1<n):=by
 unfold dv at h
 split at h
 ·rename_i h1;simp only[ω,decide_eq_true_eq] at h;refine .inr (.inr (.inr (.inr (.inr (.inr ⟨h1,?_⟩)))));omega
 ·simp only[ω] at h;obtain⟨_,h⟩:=h
  split at h
  ·rename_i h2;simp only[ω] at h;exact .inr (.inl ⟨h2,fK.1 h.1,fK.1 h.2⟩)
  ·simp only[ω] at h;obtain⟨_,h⟩:=h
   split at h
   ·rename_i h3;exact .inr (.inr (.inl ⟨h3,fK.1 h⟩))
   ·split at h
    ·rename_i h4;simp only[ω,decide_eq_true_eq] at h;exact .inr (.inr (.inr (.inl ⟨h4,by omega,fK.1 h.2⟩)))
    ·split at h
     ·rename_i h5;simp only[ω,decide_eq_true_eq] at h
      rcases h5 with h5|h5
      ·exact .inr (.inr (.inr (.inr (.inl ⟨h5,by omega⟩))))
      ·exact .inr (.inr (.inr (.inr (.inr (.inl ⟨h5,by omega⟩)))))
     ·split at h
      ·rename_i h7;exact .inl h7
      ·cases h
def dR (fr:Go.V.Fr) (k:Nat):Go.V.D:=Go.V.nth .bI fr.loc k
structure hU where
 pc:Nat
 c:j4
def bw (t:hU):List D:=[.int .i64 (t.pc:Nat),.int .i64 (t.c 0),.int .i64 (t.c 1),.int .i64 (t.c 2),.int .i64 (t.c 3),.int .i64 (t.c 4),.int .i64 (t.c 5),.int .i64 (t.c 6),.int .i64 (t.c 7),.int .i64 (t.c 8),.int .i64 (t.c 9)]
def aX (dn:Bool) (f:j4) (d:D):List D:=[.bool dn,.int .i64 (f 0),.int .i64 (f 1),.int .i64 (f 2),.int .i64 (f 3),.int .i64 (f 4),.int .i64 (f 5),.int .i64 (f 6),.int .i64 (f 7),.int .i64 (f 8),.int .i64 (f 9),d]
theorem OE {a:D} {f:j4} {x:Nat} {v:Int} (hx:x<10):setMany (a::aA f) (1+x) [.int .i64 v]=a::aA (ze f x v):=by
 match x,hx with
 |0,_=>rfl
 |1,_=>rfl
 |2,_=>rfl
 |3,_=>rfl
 |4,_=>rfl
 |5,_=>rfl
 |6,_=>rfl
 |7,_=>rfl
 |8,_=>rfl
 |9,_=>rfl
structure Wk where
 seen:List Bool
 dn:Bool
 bf:j4
 rdy:List hU
def er (code:List aP) (pl:Nat) (e:Bool):Nat→Wk→hU→Wk×Bool
 |0,w,_=>(w,false)
 |f+1,w,t=>
  if w.seen.getD t.pc true=true then(w,false) else
  match code[t.pc]? with
  |none=>(w,false)
  |some i=>
   if i.op=7 then(⟨w.seen.set t.pc true,true,t.c,w.rdy⟩,true)
   else if i.op=2 then
    if(er code pl e f ⟨w.seen.set t.pc true,w.dn,w.bf,w.rdy⟩ ⟨i.x.toNat,t.c⟩).2=true then er code pl e f ⟨w.seen.set t.pc true,w.dn,w.bf,w.rdy⟩ ⟨i.x.toNat,t.c⟩
    else er code pl e f (er code pl e f ⟨w.seen.set t.pc true,w.dn,w.bf,w.rdy⟩ ⟨i.x.toNat,t.c⟩).1 ⟨i.y.toNat,t.c⟩
   else if i.op=1 then(⟨w.seen.set t.pc true,w.dn,w.bf,w.rdy++[t]⟩,false)
   else if i.op=3 then er code pl e f ⟨w.seen.set t.pc true,w.dn,w.bf,w.rdy⟩ ⟨i.x.toNat,t.c⟩
   else if i.op=4 then er code pl e f ⟨w.seen.set t.pc true,w.dn,w.bf,w.rdy⟩ ⟨t.pc+1,ze t.c i.x.toNat (pl:Nat)⟩
   else if i.op=5 then if pl=0 then er code pl e f ⟨w.seen.set t.pc true,w.dn,w.bf,w.rdy⟩ ⟨t.pc+1,t.c⟩ else(⟨w.seen.set t.pc true,w.dn,w.bf,w.rdy⟩,false)
   else if e=true then er code pl e f ⟨w.seen.set t.pc true,w.dn,w.bf,w.rdy⟩ ⟨t.pc+1,t.c⟩ else(⟨w.seen.set t.pc true,w.dn,w.bf,w.rdy⟩,false)
def Good (code:List aP) (w w':Wk):Prop:=
 w'.seen.length=w.seen.length∧w'.seen.count false≤w.seen.count false∧w'.rdy.length+w'.seen.count false≤w.rdy.length+w.seen.count false∧∀t∈w'.rdy,t∈w.rdy∨∃i,code[t.pc]?=some i∧i.op=1
variable{code:List aP}{w:Wk}
theorem Good.refl:Good code w w:=⟨rfl,θ _,θ _,fun t h=>.inl h⟩
theorem Good.trans {a b c:Wk} (h:Good code a b) (k:Good code b c):Good code a c:=
 ⟨k.1.trans h.1,Qa4 k.2.1 h.2.1,Qa4 k.2.2.1 h.2.2.1,fun t ht=>by
  rcases k.2.2.2 t ht with q|q
  ·exact h.2.2.2 t q
  ·exact .inr q⟩
variable{j:Nat}
theorem Good.step {w':Wk} (hj:w.seen[j]?=some false) (k:Good code ⟨w.seen.set j true,w.dn,w.bf,w.rdy⟩ w'):Good code w w':=by
 have hc:=count_set hj;refine Good.trans (b:=⟨w.seen.set j true,w.dn,w.bf,w.rdy⟩) ⟨?_,?_,?_,fun t h=>.inl h⟩ k
 ·simp
 ·show(w.seen.set j true).count false≤_;omega
 ·show w.rdy.length+(w.seen.set j true).count false≤_;omega
theorem Fs {l:List Bool} (h:¬l.getD j true=true):l[j]?=some false:=by
 rw[Cf] at h
 cases hq:l[j]? with
 |none=>rw[hq] at h;exact absurd rfl h
 |some b=>rw[hq] at h;cases b with
  |false=>rfl
  |true=>exact absurd rfl h
theorem IV {l:List Bool} (h:l[j]?=some b):l.getD j true=b:=by
 rw[Cf,h];rfl
theorem eO (code:List aP) (pl:Nat) (e:Bool):∀(f:Nat) (w:Wk) (t:hU),Good code w (er code pl e f w t).1
 |0,w,t=>.refl
 |f+1,w,t=>by
  unfold er
  split
  ·exact .refl
  ·rename_i hs;have hs:=Fs hs;have hc:=count_set hs
   split
   ·exact .refl
   ·rename_i i hi
    split
    ·exact Good.step hs ⟨rfl,θ _,θ _,fun t h=>.inl h⟩
    ·split
     ·split
      ·exact Good.step hs (eO code pl e f _ _)
      ·exact Good.step hs ((eO code pl e f _ _).trans (eO code pl e f _ _))
     ·split
      ·rename_i h1;refine⟨by simp,by show(w.seen.set t.pc true).count false≤_;omega,by show(w.rdy++[t]).length+(w.seen.set t.pc true).count false≤_;rw[δ];simp only[ξ,π];omega,fun t' h=>?_⟩
       rcases List.mem_append.1 h with h|h
       ·exact .inl h
       ·simp only[IS,BY,or_false] at h;subst h;exact .inr ⟨i,hi,h1⟩
      ·split
       ·exact Good.step hs (eO code pl e f _ _)
       ·split
        ·exact Good.step hs (eO code pl e f _ _)
        ·split
         ·split
          ·exact Good.step hs (eO code pl e f _ _)
          ·exact Good.step hs .refl
         ·split
          ·exact Good.step hs (eO code pl e f _ _)
          ·exact Good.step hs .refl
theorem tV (A:List bo) (hF:S.flr≤N) (hi:seen[i]?=some b) (ba:eQ P Q seen) (hH:Has N S s0 (A++(.box ks (.mem 0 false [pd,qd])::.aF pd 1 (P.map jG)::.aF qd 2 (Q.map sN)::H))):
  ∃r ai,Ev pv 229 [.ptr ks 0 0,.int .i64 (i:Nat),.bool true] s0 r ai∧r=.bool (!b)∧∃pd qd P Q,Has N S ai (A++(.box ks (.mem 0 false [pd,qd])::.aF pd 1 (P.map jG)::.aF qd 2 (Q.map sN)::H))∧eQ P Q (seen.set i true):=by
 obtain⟨r,ai,h1,h2,N2,N0,P',Q',h3,h4⟩:=IU (H:=A++H) hF hi ⟨pd,qd,P,Q,Has.jA A [_,_,_] hH,ba⟩;exact⟨r,ai,h1,h2,N2,N0,P',Q',Has.jA [_,_,_] A h3,h4⟩
theorem vc (A:List bo) (hF:S.flr≤N) (ba:eQ P Q seen) (hH:Has N S s0 (A++(.box ks (.mem 0 false [pd,qd])::.aF pd 1 (P.map jG)::.aF qd 2 (Q.map sN)::H))):
  ∃r ai,Ev pv 203 [.ptr ks 0 0] s0 r ai∧r=.tup []∧∃pd qd P Q,Has N S ai (A++(.box ks (.mem 0 false [pd,qd])::.aF pd 1 (P.map jG)::.aF qd 2 (Q.map sN)::H))∧eQ P Q (γ seen.length false):=by
 obtain⟨r,ai,h1,h2,N2,N0,P',Q',h3,h4⟩:=C3 (H:=A++H) hF ⟨pd,qd,P,Q,Has.jA A [_,_,_] hH,ba⟩;exact⟨r,ai,h1,h2,N2,N0,P',Q',Has.jA [_,_,_] A h3,h4⟩
def ToH (N:Nat) (S st:St) (ks kv kw kl:Nat) (p:Pg) (pl:Nat) (ld:D) (e:Bool) (w:Wk) (H:List bo):Prop:=
 ∃rd pd qd P Q,Has N S st (.box kv (.mem 0 false [p.cd,p.sd,.int .i64 (pl:Nat),ld,.ptr ks 0 0])::.box kw (.mem 0 false [.ptr kl 0 0,rd,.bool e])::.box kl (.mem 0 false (aX w.dn w.bf .nul))::.aF rd 11 (w.rdy.map bw)::.box ks (.mem 0 false [pd,qd])::.aF pd 1 (P.map jG)::.aF qd 2 (Q.map sN)::H)∧eQ P Q w.seen
theorem Qu {N ks kv kw kl:Nat} {S:St} {H:List bo} {p:Pg} {pl:Nat} {ld:D} {e:Bool} (hF:S.flr≤N) (hp:p.ok) (hR:bm p) (fT:pl≤4000000000000):∀(f:Nat) (w:Wk) (t:hU) (s0:St) (H:List bo),t.pc<p.code.length→w.seen.length=p.code.length→w.seen.count false<f→w.rdy.length+w.seen.count false≤1048576→ToH N S s0 ks kv kw kl p pl ld e w H→
  ∃r ai,Ev pv 204 [.ptr kv 0 0,.ptr kw 0 0,.agg (bw t)] s0 r ai∧r=.bool (er p.code pl e f w t).2∧ToH N S ai ks kv kw kl p pl ld e (er p.code pl e f w t).1 H
 |0,_,_,_,_,_,_,h,_,_=>absurd h (Nat.not_lt_zero _)
 |f+1,w,t,s0,H,E8,kX,gF,sQ,hT=>by
  have ih:=Qu (ks:=ks) (kv:=kv) (kw:=kw) (kl:=kl) (S:=S) (H:=H) (ld:=ld) (e:=e) hF hp hR fT f;obtain⟨rd,pd,qd,P,Q,hH,ba⟩:=hT;have hc:=hp.c.arg N S;have hlen:=hp.cl
  obtain⟨i,hi⟩:∃i,p.code[t.pc]?=some i:=⟨p.code[t.pc]'E8,η _⟩
  obtain⟨b,hb⟩:∃b,w.seen[t.pc]?=some b:=⟨w.seen[t.pc]'(by omega),η _⟩
  have hr:=gM hi;have Gb:=(hp.i i (Zt hi)).1;have Gp:=sm (hR.sh t.pc i hi);have TP:=IV hb;have oG:er p.code pl e (f+1) w t=er p.code pl e (f+1) w t:=rfl
  conv at oG=>rhs;unfold er
  rw[TP] at oG;simp only[hi] at oG;generalize er p.code pl e (f+1) w t=R at*;obtain⟨op,x,y,rdd,rs⟩:=i;obtain⟨pc,c⟩:=t;simp only at*;refine Bv rfl W3 rfl rfl rfl ?_;refine zE ?_;change ag _ _ _ _ s0 _;refine qq<|qj fun K hK=>qb hH fun k5 st Kf hH=>?_;dsimp only[u2,u1,u3,u4,setMany,u5,u6,υ,ι,aJ,bw,aX,aA] at hH;refine qm ?_;refine qe hK<|qq<|qq<|qj fun K hK=>qm ?_;refine qg ?_;refine qp (o:=4) ?_;refine ql hH aO ?_;refine qp (o:=0) ?_;refine ql hH aB ?_;obtain⟨_,st,ax,rfl,pd,qd,P,Q,hH,ba⟩:=tV [_,_,_,_,_] hF hb ba hH;dsimp only[u3,u4] at hH;refine qv ax ?_;refine qg ?_;refine qe hK ?_
  cases b with
  |true=>
   rw[if_pos rfl] at oG;subst oG;refine qB ?_;refine qq<|qj fun K hK=>qm ?_;refine qe hK<|ag.ret ⟨rx,_,_,_,rfl,rfl,?_⟩;refine⟨rfl,rd,pd,qd,P,Q,hH.drop 1,?_⟩
   have:w.seen.set pc true=w.seen:=by
    refine VM fun j=>?_
    by_cases hj:j=pc
    ·subst hj;rw[Γ (by omega),hb]
    ·rw[Ξ (fun e=>hj e.symm)]
   rw[←this];exact ba
  |false=>
   rw[if_neg (by decide)] at oG;have JB:=count_set hb;have L5:(w.seen.set pc true).length=p.code.length:=by rw[Δ];exact kX
   have V4:(w.seen.set pc true).count false<f:=by omega
   have U6:w.rdy.length+(w.seen.set pc true).count false≤1048576:=by omega
   generalize w.seen.set pc true=sn at*;clear hb TP JB kX gF sQ;refine qC ?_;refine ag.skip<|qq<|qj fun K hK=>qm ?_;refine qg ?_;refine qp (o:=0) ?_;refine qp (o:=0) ?_;refine ql hH aO ?_;refine qp (o:=0) ?_;refine ql hH aB ?_;refine qr fun Qw D3=>?_;refine Qa7 rfl (ev rfl) (by assumption) rfl (by dsimp only[R3,u1,u2]<;>rfl) ?_;refine qa hH fun k7 st SB hH=>?_;refine qS hH aB fun st hH=>?_;dsimp only[u2,u1,u3,u4,setMany,u5,u6,υ,ι,aJ,bw,aX,aA] at hH;refine qe hK<|qq<|qj fun K hK=>?_;refine IT (m:=11) hH rfl (ev rfl) (by exact aO) (by dsimp only[ν,τ,ο,ς,aJ,bw,aX,aA]<;>rfl) rfl rfl (by dsimp only[R3,u1,u2]<;>rfl) ?_;refine qa hH fun k8 st N' hH=>?_;refine qS hH aB fun st hH=>?_;dsimp only[u2,u1,u3,u4,setMany,u5,u6,υ,ι,aJ,bw,aX,aA] at hH;refine qe hK<|qq<|qj fun K hK=>qp (o:=0) ?_;refine ql hH aB ?_;refine qA ?_;refine qp (o:=0) ?_;refine qT hH aB fun st hH=>?_;dsimp only[u2,u1,u3,u4,setMany,u5,u6,υ,ι,aJ,bw,aX,aA] at hH;refine qe hK<|qq<|qq<|qj fun K hK=>qp (o:=0) ?_;refine ql hH aO ?_;refine qe hK<|ag.merge (fun fr st=>∃(t':hU) (tmp:List (Nat×D)),fr=⟨33,[.ptr kv 0 0,.ptr kw 0 0,dR fr 2,dR fr 3,dR fr 4,.ptr k5 0 0,.bool false,.ptr k7 0 0,.ptr k8 0 0,dR fr 9,dR fr 10,dR fr 11,dR fr 12,dR fr 13,dR fr 14,dR fr 15,dR fr 16,dR fr 17,dR fr 18,dR fr 19,dR fr 20,dR fr 21,dR fr 22,dR fr 23,dR fr 24,dR fr 25,dR fr 26,dR fr 27,dR fr 28,dR fr 29,dR fr 30,dR fr 31,dR fr 32],tmp⟩∧Has N S st (.box k8 (.mem 0 false (bw t'))::.box k7 (.mem 0 false [.int .i64 op,.int .i64 x,.int .i64 y,rdd])::.box k5 (.mem 0 false (bw ⟨pc,c⟩))::.box kv (.mem 0 false [p.cd,p.sd,.int .i64 (pl:Nat),ld,.ptr ks 0 0])::.box kw (.mem 0 false [.ptr kl 0 0,rd,.bool e])::.box kl (.mem 0 false (aX w.dn w.bf .nul))::.aF rd 11 (w.rdy.map bw)::.box ks (.mem 0 false [pd,qd])::.aF pd 1 (P.map jG)::.aF qd 2 (Q.map sN)::H)∧(R=er p.code pl e f ⟨sn,w.dn,w.bf,w.rdy⟩ t')∧(t'.pc<p.code.length)) ?_ ?_
   ·refine ag.block<|qq<|qj fun K hK=>qg ?_;refine qm ?_;refine qe hK<|zI (fun h7=>?_) fun h7=>?_
    ·rw[if_pos h7] at oG;subst oG;have za:=hH;change ag _ _ _ _ _ _;refine qq ?_;generalize hK:aZ _ _ _ _=K;refine ag.uc rfl ?_;refine bP.cons ?_;refine qm ?_;refine Φ ⟨rfl,?_⟩;refine bP.cons ?_;refine qg ?_;refine Φ ⟨rfl,?_⟩;refine bP.cons ?_;refine qp (o:=0) ?_;refine Φ ⟨rfl,?_⟩;refine bP.cons ?_;refine ql hH bL ?_;refine Φ ⟨rfl,?_⟩;refine bP.cons ?_;refine qm ?_;refine Φ ⟨rfl,?_⟩;refine bP.cons ?_;refine qg ?_;refine Φ ⟨rfl,?_⟩;refine bP.cons ?_;refine qp (o:=0) ?_;refine Φ ⟨rfl,?_⟩;refine bP.cons ?_;refine ql hH bL ?_;refine Φ ⟨rfl,?_⟩;refine bP.cons ?_;refine qp (o:=1) ?_;refine Φ ⟨rfl,?_⟩;refine bP.cons ?_;refine IT (m:=10) hH rfl (ev rfl) (by exact a_) (by dsimp only[ν,τ,ο,ς,aJ,bw,aX,aA]<;>rfl) rfl rfl (aa rfl _) ?_;refine Φ ⟨rfl,?_⟩;refine bP.cons ?_;refine qg ?_;refine Φ ⟨rfl,?_⟩;refine bP.cons ?_;refine qp (o:=0) ?_;refine Φ ⟨rfl,?_⟩;refine bP.cons ?_;refine qT hH bT fun st hH=>?_;dsimp only[u2,u1,u3,u4,setMany,u5,u6,υ,ι,aJ,bw,aX,aA] at hH;refine Φ ⟨by exact Bool.and_eq_true_iff.2 ⟨A3 rfl rfl rfl (za.at a_) (hH.at a_) (za.at a_) rfl,rfl⟩,?_⟩;refine bP.cons ?_;refine qg ?_;refine Φ ⟨rfl,?_⟩;refine bP.cons ?_;refine qp (o:=1) ?_;refine Φ ⟨rfl,?_⟩;refine bP.cons ?_;refine qT hH bT fun st hH=>?_;dsimp only[u2,u1,u3,u4,setMany,u5,u6,υ,ι,aJ,bw,aX,aA] at hH;refine Φ ⟨rfl,?_⟩;refine bP.nil ?_;subst hK;refine qq<|qj fun K hK=>qm ?_;refine qe hK<|ag.ret ⟨rx,_,_,_,rfl,rfl,?_⟩;exact⟨rfl,rd,pd,qd,P,Q,hH.drop 3,ba⟩
    ·rw[if_neg h7] at oG;refine qq<|qj fun K hK=>qg ?_;refine qm ?_;refine qe hK<|zI (fun h2=>?_) fun h2=>?_
     ·rw[if_pos h2] at oG;obtain⟨_,⟨hx0,hx1⟩,hy0,hy1⟩:=(Gp.resolve_left h7).resolve_right (by omega);obtain⟨xn,rfl⟩:=Wh hx0;obtain⟨yn,rfl⟩:=Wh hy0;have hgo:=eO p.code pl e f ⟨sn,w.dn,w.bf,w.rdy⟩ ⟨xn,c⟩;have QV:=Has.jA [_,_,_] [_,_,_,_,_,_,_] hH;obtain⟨_,st1,ax,rfl,hT⟩:=ih ⟨sn,w.dn,w.bf,w.rdy⟩ ⟨xn,c⟩ _ _ (by show xn<_;omega) L5 V4 U6 ⟨rd,pd,qd,P,Q,QV,ba⟩;clear QV;have oG:R=if(er p.code pl e f ⟨sn,w.dn,w.bf,w.rdy⟩ ⟨xn,c⟩).2=true then er p.code pl e f ⟨sn,w.dn,w.bf,w.rdy⟩ ⟨xn,c⟩ else er p.code pl e f (er p.code pl e f ⟨sn,w.dn,w.bf,w.rdy⟩ ⟨xn,c⟩).1 ⟨yn,c⟩:=oG;generalize er p.code pl e f ⟨sn,w.dn,w.bf,w.rdy⟩ ⟨xn,c⟩=R1 at*;obtain⟨w1,b1⟩:=R1;obtain⟨mY,br,bZ,iN⟩:=hgo;simp only at mY br bZ iN ax hT oG;obtain⟨rd1,pd1,qd1,P1,Q1,QV,sV⟩:=hT;have QV:=Has.jA [_,_,_,_,_,_,_] [_,_,_] QV;dsimp only[u3,u4] at QV
      cases b1 with
      |true=>
       rw[if_pos rfl] at oG;subst oG;have dL:true=true:=rfl;refine qq<|qj fun K hK=>qm ?_;refine qm ?_;refine qp (o:=1) ?_;refine ql hH aO ?_;refine qp (o:=1) ?_;refine IT (m:=10) hH rfl (ev rfl) (by exact a_) (by dsimp only[ν,τ,ο,ς,aJ,bw,aX,aA]<;>rfl) rfl rfl (aa rfl _) ?_;refine Ψ (d:=.agg (bw ⟨xn,c⟩)) (st1:=_) rfl rfl rfl (aa rfl _) ?_;refine qv ax ?_;refine qm ?_;refine qs ?_ (hg:=wn dL);refine qs ?_ (hg:=wn dL);refine qs ?_ (hg:=wn dL);refine qs ?_ (hg:=wn dL);refine qs ?_ (hg:=wn dL);refine qs ?_ (hg:=wn dL);refine qs ?_ (hg:=wn dL);refine qs ?_ (hg:=wn dL);refine qt dL ?_;refine qm ?_;refine qe hK<|ag.ret ⟨rx,_,_,_,rfl,rfl,?_⟩;exact⟨rfl,rd1,pd1,qd1,P1,Q1,QV.drop 3,sV⟩
      |false=>
       rw[if_neg (by decide)] at oG;have dL:false=false:=rfl;refine qq<|qj fun K hK=>qm ?_;refine qm ?_;refine qp (o:=1) ?_;refine ql hH aO ?_;refine qp (o:=1) ?_;refine IT (m:=10) hH rfl (ev rfl) (by exact a_) (by dsimp only[ν,τ,ο,ς,aJ,bw,aX,aA]<;>rfl) rfl rfl (aa rfl _) ?_;refine Ψ (d:=.agg (bw ⟨xn,c⟩)) (st1:=_) rfl rfl rfl (aa rfl _) ?_;have hH:=QV;refine qv ax ?_;refine qm ?_;refine qm ?_ (hg:=wi dL);refine qm ?_ (hg:=wi dL);refine qp (o:=2) ?_ (hg:=wi dL);refine ql hH aO ?_ (hg:=wi dL);refine qp (o:=1) ?_ (hg:=wi dL);refine IT (m:=10) hH (af rfl rfl rfl dL) (ev rfl) (by exact a_) (by dsimp only[ν,τ,ο,ς,aJ,bw,aX,aA]<;>rfl) rfl rfl (aa rfl _) ?_;refine Ψ (d:=.agg (bw ⟨yn,c⟩)) (st1:=_) (af rfl rfl rfl dL) rfl rfl (aa rfl _) ?_;obtain⟨_,st,ax,rfl,hT⟩:=ih w1 ⟨yn,c⟩ _ _ (by show yn<_;omega) (by omega) (by omega) (by omega) ⟨rd1,pd1,qd1,P1,Q1,hH.drop 3,sV⟩;refine qv ax ?_ (hg:=wi dL);refine qu dL ?_;refine qm ?_;refine qe hK<|ag.ret ⟨rx,_,_,_,rfl,rfl,?_⟩;rw[oG];exact⟨rfl,hT⟩
     ·rw[if_neg h2] at oG;refine qq<|qj fun K hK=>qg ?_;refine qm ?_;refine qe hK<|zI (fun h1=>?_) fun h1=>?_
      ·rw[if_pos h1] at oG;subst oG;refine qq<|qj fun K hK=>qm ?_;refine qm ?_;refine qg ?_;refine qp (o:=1) ?_;refine ql hH bL ?_;refine IT (m:=11) hH rfl (ev rfl) (by exact a_) (by dsimp only[ν,τ,ο,ς,aJ,bw,aX,aA]<;>rfl) rfl rfl (aa rfl _) ?_;refine qh (s:=11) (vs:=[_]) hH fun k77 st VB hH=>?_;refine ab.cL (s:=11) hH rfl (ev rfl) (ev rfl) (by exact cm) (by exact hH.rows (by exact aB)) rfl rfl rfl rfl rfl rfl rfl ⟨(ε rfl),(ε rfl)⟩ (fun _=>(aa rfl _)) (by simp only[ξ,π,ζ]<;>omega) (by exact .inl hF) (fun x78 st hH=>?_);dsimp only[u2,u1,u3,u4,setMany,u5,u6,υ,ι,aJ,bw,aX,aA] at hH;refine qg ?_;refine qp (o:=1) ?_;refine qT hH bT (fun st hH=>?_) (kZ:=hH.cX cm);dsimp only[u2,u1,u3,u4,setMany,u5,u6,υ,ι,aJ,bw,aX,aA] at hH;refine qe hK<|qq<|qj fun K hK=>qm ?_;refine qe hK<|ag.ret ⟨rx,_,_,_,rfl,rfl,?_⟩;refine⟨rfl,x78,pd,qd,P,Q,?_,ba⟩;rw[Ω];exact hH.drop 4
      ·rw[if_neg h1] at oG;refine qq<|qj fun K hK=>qg ?_;refine qm ?_;refine qe hK<|zI (fun h3=>?_) fun h3=>?_
       ·rw[if_pos h3] at oG;obtain⟨_,hx0,hx1⟩:=((Gp.resolve_left h7).resolve_left (by omega)).resolve_right (by omega);obtain⟨xn,rfl⟩:=Wh hx0;refine qj fun K hK=>qp (o:=1) ?_;refine ql hH aO ?_;refine qp (o:=0) ?_;refine qT hH aB fun st hH=>?_;dsimp only[u2,u1,u3,u4,setMany,u5,u6,υ,ι,aJ,bw,aX,aA] at hH;refine qe hK ?_;exact⟨⟨xn,c⟩,_,rfl,hH,oG,by show xn<_;omega⟩
       ·rw[if_neg h3] at oG;refine qq<|qj fun K hK=>qg ?_;refine qm ?_;refine qe hK<|zI (fun h4=>?_) fun h4=>?_
        ·rw[if_pos h4] at oG;obtain⟨_,Mb,hx0,hx1⟩:=(((Gp.resolve_left h7).resolve_left (by omega)).resolve_left (by omega)).resolve_right (by omega);obtain⟨xn,rfl⟩:=Wh hx0;refine qj fun K hK=>qp (o:=1) ?_;refine ql hH aO ?_;refine qm ?_;refine qg ?_;refine qp (o:=2) ?_;refine ql hH bh ?_;refine qp (o:=1) ?_;refine ab.ML (m:=10) (s:=1) (i:=xn) (o:=1+xn) rfl (ev rfl) (ev rfl) rfl rfl (by omega) (by omega) (aa rfl _) ?_;refine ab.gE hH rfl (ev rfl) (ev rfl) rfl (by exact rfl) aB (by show 1+xn+1≤11;omega) (.inl hF) (fun st hH=>?_);change Has _ _ _ (.box k8 (.mem 0 false (setMany (_::aA c) (1+xn) [.int .i64 (pl:Nat)]))::_) at hH;rw[OE (by omega)] at hH;refine qe hK ?_;exact⟨⟨pc+1,ze c xn (pl:Nat)⟩,_,rfl,hH,oG,Mb⟩
        ·rw[if_neg h4] at oG;refine qq<|qj fun K hK=>qg ?_;refine qm ?_;refine qe hK<|zI (fun h5=>?_) fun h5=>?_
         ·rw[if_pos h5] at oG;have Mb:pc+1<p.code.length:=by omega
          refine qq<|qj fun K hK=>qm ?_;refine qg ?_;refine qp (o:=2) ?_;refine ql hH bh ?_;refine qg ?_;refine qe hK ?_
          by_cases ha:pl=0
          ·rw[if_pos ha] at oG;subst ha;refine ag.cond (v:=false) (by dsimp only[Qa0,R2,nth,Qa2];rfl) (fun h=>by cases h) (fun _=>?_);refine ag.skip ?_;exact⟨⟨pc+1,c⟩,_,rfl,hH,oG,Mb⟩
          ·rw[if_neg ha] at oG;subst oG;refine qD rfl (by simp;omega) ?_;refine qq<|qj fun K hK=>qm ?_;refine qe hK<|ag.ret ⟨rx,_,_,_,rfl,rfl,?_⟩;exact⟨rfl,rd,pd,qd,P,Q,hH.drop 3,ba⟩
         ·rw[if_neg h5] at oG;have h6:op=6:=by omega
          have Mb:pc+1<p.code.length:=by omega
          refine qq<|qj fun K hK=>qg ?_;refine qm ?_;refine qe hK<|qD rfl (by simp[h6]) ?_;refine qq<|qj fun K hK=>qm ?_;refine qg ?_;refine qp (o:=2) ?_;refine ql hH bL ?_;refine qg ?_;refine qe hK ?_
          cases e with
          |true=>
           rw[if_pos rfl] at oG;refine qC ?_;refine ag.skip ?_;exact⟨⟨pc+1,c⟩,_,rfl,hH,oG,Mb⟩
          |false=>
           rw[if_neg (by decide)] at oG;subst oG;refine qB ?_;refine qq<|qj fun K hK=>qm ?_;refine qe hK<|ag.ret ⟨rx,_,_,_,rfl,rfl,?_⟩;exact⟨rfl,rd,pd,qd,P,Q,hH.drop 3,ba⟩
   ·rintro fr st ⟨t',tmp,hfr,hH,S3,aaa⟩;rw[hfr];clear hfr;generalize dR fr=ee;clear fr;obtain⟨pc',c'⟩:=t';dsimp only[bw] at hH;refine qq<|qj fun K hK=>qm ?_;refine qm ?_;refine IT (m:=11) hH rfl (ev rfl) (by exact aB) (by dsimp only[ν,τ,ο,ς,aJ,bw,aX,aA]<;>rfl) rfl rfl (aa rfl _) ?_;have hH:=hH.drop 3;obtain⟨_,st,ax,rfl,hT⟩:=ih ⟨sn,w.dn,w.bf,w.rdy⟩ ⟨pc',c'⟩ _ _ aaa L5 V4 U6 ⟨rd,pd,qd,P,Q,hH,ba⟩;refine qv ax ?_;refine qm ?_;refine qe hK<|ag.ret ⟨rx,_,_,_,rfl,rfl,?_⟩;rw[S3];exact⟨rfl,hT⟩
end Go.Proofs.YtecjacicdpejaaaGreat
