/-
 The parser of patterns, told exactly: classes; how often; lists of nodes joined.
-/
import Derived.Test.YtappgjdiplibbaaGreatYGHs
import Derived.Test.YtappgjdiplibbaaGreatYGUe
import Derived.Test.YtappgjdiplibbaaGreatYGPb
import Derived.Test.YtappgjdiplibbaaGreatYGEh
import Derived.Test.YtappgjdiplibbaaGreatYGQg
set_option maxRecDepth 100000
set_option maxHeartbeats 4000000
set_option linter.all false
open List renaming length_cons->γ,length_append->δ,length_map->ε,length_nil->ζ,map_append->η,mem_of_getElem?->κ,getElem?_eq_getElem->μ,mem_cons->ν,mem_append->ξ,map_cons->ο,getElem?_map->π,drop_eq_getElem_cons->ρ,length_eq_zero_iff->ς,mem_map->τ,length->υ,take_add_one->φ,not_mem_nil->χ
open Nat renaming le_of_ble_eq_true->θ,reduceAdd->ι,le_refl->ψ
namespace Go.Proofs.YtappgjdiplibbaaGreat
open Go.V Go
noncomputable def iU (gs:List (Nat×Nat)) (f:Nat):Nat->Nat->List Rg->Bool->PR (List Rg)
 |0,_,_,_=>.er 4 f
 |n+1,i,l,nn=>
  if cy gs i 93=true then(if nn=true then .er 4 f else .ok l i)
  else if gs.length<=i then .er 4 f
  else match gA gs i with
   | .er e w=>.er e w
   | .ok a j=>iU gs f n j (l++a) false
noncomputable def tm (gs:List (Nat×Nat)) (i:Nat):PR (List Rg):=
 match iU gs i (gs.length+1) (if cy gs (i+1) 94=true then i+2 else i+1) [] true with
 | .er e w=>.er e w
 | .ok l k=>.ok (if cy gs (i+1) 94=true then kY (bB l) else bB l) (k+1)
def FX (a:List Rg):aQ:=fk 2 0 0 false 0 0 a
noncomputable def DU (gs:List (Nat×Nat)) (i g:Nat):PR (List aQ×Nat):=
 match tm gs i with
 | .er e w=>.er e w
 | .ok a j=>.ok ([FX a],g) j
def lu (gs:List (Nat×Nat)) (a_:List Int) (af:PR (List aQ×Nat)) (s s':fw) (d:D) (c:Nat):Prop:=
 s'.o=s.o/\s'.g<=4/\s.i<=s'.i/\s'.i<=gs.length/\∃l:List aQ,d=jO l/\(∀n∈l,ki n)/\l.length<=4*(s'.i-s.i)+1/\(ga af a_ s'\/s'.e=0/\af=.ok (l,s'.g) s'.i/\l.length+c<=4*(s'.i-s.i))
def ve (gs:List (Nat×Nat)) (a_:List Int) (af:PR (List aQ×Nat)) (s s':fw) (d:D):Prop:=
 s'.o=s.o/\s'.g<=4/\s.i<=s'.i/\s'.i<=gs.length/\∃l:List aQ,d=jO l/\(∀n∈l,ki n)/\l.length<=4*(s'.i-s.i)+1/\(ga af a_ s'\/s'.e=0/\af=.ok (l,s'.g) s'.i)
variable{gs:List (Nat×Nat)}{a_:List Int}{s s':fw}
def gN {af:PR (List aQ×Nat)} {c:Nat} (h1:s'.o=s.o) (X:s'.g<=4) (h3:s.i<=s'.i) (h4:s'.i<=gs.length) (h5:ga af a_ s'):lu gs a_ af s s' (.sl []) c:=
 ⟨h1,X,h3,h4,[],rfl,λn hn=>(by cases hn),by simp,.inl h5⟩
variable{N k:Nat}{S Y:St}{H:List aX}{bP:D}
def Js (bK:oa gs a_) (he:s.e=0) (hi:s.i<gs.length) (hg:s.g<=4) (O:Has N S Y (.box k (.mem 0 false (bH gs bP s))::.ai bP 1 (a_.map av)::H)):
  ∃d R,Ev pv 135 [.ptr k 0 0] Y d R/\∃(s':fw),lu gs a_ (DU gs s.i s.g) s s' d 2/\Has N S R (.box k (.mem 0 false (bH gs bP s'))::.ai bP 1 (a_.map av)::H):=by
 have nS:=bK.gl;have eY:=bK.pl;have br:=O;refine zO XA λS2 bj O=>?_;have xq:Arg N S2 2 (gC gs) (gs.map bz):=Arg.pure (λU=>eZ U gs);refine M 23 λU O=>?_;have O:Has N S2 U (.box k (.mem 0 false (bH gs bP {s with i:=s.i+1}))::.ai bP 1 (a_.map av)::H):=O;obtain⟨k1,k2,k3,k4,k5⟩:=jq (gs:=gs) (s:={s with i:=s.i+1}) (r:=94);have k5:=k5 (by show s.i+1<=_;omega);simp only at k1 k2 k3 k4
 have hst:(cu gs {s with i:=s.i+1} 94).i=if cy gs (s.i+1) 94=true then s.i+2 else s.i+1:=by
  unfold cu;simp only;split<;>rfl
 refine G 3 ?_;obtain⟨_,U,aK,rfl,O⟩:=fq (s:={s with i:=s.i+1}) (by omega) 94 O;refine M 3 ?_
 have hcv:DU gs s.i s.g=match iU gs s.i (gs.length+1) (if cy gs (s.i+1) 94=true then s.i+2 else s.i+1) [] true with
  | .er e w=>.er e w
  | .ok l k=>.ok ([FX (if cy gs (s.i+1) 94=true then kY (bB l) else bB l)],s.g) (k+1):=by
  unfold DU tm;cases iU gs s.i (gs.length+1) (if cy gs (s.i+1) 94=true then s.i+2 else s.i+1) [] true<;>rfl
 rw[<-hst] at hcv
 change DU gs s.i s.g=match iU gs s.i (gs.length+1) (cu gs {s with i:=s.i+1} 94).i [] true with
  | .er e w=>.er e w
  | .ok l k=>.ok ([FX (if cy gs ({s with i:=s.i+1}:fw).i 94=true then kY (bB l) else bB l)],s.g) (k+1) at hcv
 generalize cu gs {s with i:=s.i+1} 94=s1 at*;generalize cy gs ({s with i:=s.i+1}:fw).i 94=nt at*;clear hst
 obtain⟨C0,BG⟩:∃C0,iU gs s.i (gs.length+1) s1.i [] true=C0:=⟨_,rfl⟩
 rw[BG] at hcv;have ua:∀s',ga C0 a_ s'->ga (DU gs s.i s.g) a_ s':=λs' h=>h.map λe w hw=>by rw[hcv,hw]
 refine G 8 ?_
 have O:Has N S2 U (.box k (.mem 0 false (bH gs bP s1))::.ai bP 1 (a_.map av)::.ai .nul 2 (([]:List Rg).map ak)::H):=((O.cY 2).front bf|>.front dh|>λh=>(h.front bf))
 refine G 2 ?_;refine ah.loop (λmm I U=>∃(s1:fw) (ld:D) (lr:List Rg) (nn:Bool),I.clean=⟨7,[.ptr k 0 0,ay I 1,ay I 2,.int .i64 (s.i:Nat),.bool nt,ld,.bool nn],[]⟩/\Has N S2 U (.box k (.mem 0 false (bH gs bP s1))::.ai bP 1 (a_.map av)::.ai ld 2 (lr.map ak)::H)/\(s1.o=s.o)/\(s1.g=s.g)/\(s.i<s1.i)/\(s1.i<=gs.length)/\(lr.length<=8*s1.i+8)/\(s1.e=0->lr.length<=8*s1.i)/\(gs.length-s1.i+(if s1.e=0 then 1 else 0)<=mm)/\(ga C0 a_ s1\/s1.e=0/\∃n,gs.length<n+s1.i/\C0=iU gs s.i n s1.i lr nn)) (gs.length+1) ?_ ?_
 .exact⟨s1,.nul,[],true,rfl,O,k1,k2,by omega,k5,by simp,λ_=>by simp,by split<;>omega,.inr ⟨k3.trans he,gs.length+1,by omega,BG.symm⟩⟩
 rintro mm I U ⟨s1,ld,lr,nn,hfr,O,h1,X,h3,h4,h5,h6,sC,h7⟩;rw[hfr];(try dsimp only[fL,fG,ι]);clear hfr;generalize ay I=ee;clear I
 rcases h7 with h7|⟨he1,n,sB,dZ⟩
 .have he1:=h7.ne;have iF:(s1.e==0)=false:=by simpa using he1
  refine G 25 ?_;refine vX ?_;refine M 5 ?_;exact⟨_,gN h1 (by omega) (by omega) h4 (ua _ h7),br.ag bj (O.erase 2)⟩
 .rw[if_pos he1] at sC;have h6:=h6 he1;have iF:(s1.e==0)=true:=by simpa using he1
  obtain⟨n,rfl⟩:∃m,n=m+1:=⟨n-1,by omega⟩
  unfold iU at dZ;refine G 10 ?_;obtain⟨_,U,aK,rfl,O⟩:=tU (s:=s1) (by omega) 93 O;refine M 4 ?_
  cases F:cy gs s1.i 93 with
  |true=>
   have hlt:=dR F;rw[F,if_pos rfl] at dZ;refine G 11 ?_;refine vY ?_;refine G 6 ?_
   cases nn with
   |true=>
    rw[if_pos rfl] at dZ;refine G 5 ?_;obtain⟨_,U,aK,rfl,O⟩:=fK (s:=s1) s.i 4 (by omega) O;refine M 3 ?_;obtain⟨w1,w2,w3,w4⟩:=iY (a_:=a_) (s:=s1) (i:=s.i) (e:=4) he1 (by decide) dZ;refine ah.ret ⟨rx,_,_,_,rfl,aH (rfl),?_⟩;exact⟨_,gN (by omega) (by omega) (by omega) (by omega) (ua _ w1),br.ag bj (O.erase 2)⟩
   |false=>
    rw[if_neg (by simp)] at dZ;rw[dZ] at hcv;simp only at hcv;refine M 16 λU O=>?_;obtain⟨aK,mG,_⟩:=o_ (l:=lr) (O.rows dh) (by omega);refine M 3 ?_;generalize bB lr=m at*;refine G 5 ?_
    have dC:∀(U:St) (a:List Rg) (k70:Nat),a=(if nt=true then kY m else m)->a.length<=1048576->S2.bs.length<=k70->Has N S2 U (.ai (.win k70 0 0 1 7) 7 [[.int .i64 2,az a,.int .i64 0,.int .i64 0,.bool false,.int .i64 0,.int .i64 0]]::.box k (.mem 0 false (bH gs bP {s1 with i:=s1.i+1}))::.ai bP 1 (a_.map av)::.ai ld 2 (lr.map ak)::H)->
      ∃d R,cZ .rw false Y U (.win k70 0 0 1 7)=some (d,R)/\∃(s':fw),lu gs a_ (DU gs s.i s.g) s s' d 2/\Has N S R (.box k (.mem 0 false (bH gs bP s'))::.ai bP 1 (a_.map av)::H):=by
     intro U a k70 hav ha A O;have hfz:=gZ O aV (L:=Y.bs.length) (.inl rfl) (λk A=>by simp only[D.ref] at A;rw[<-bj];omega);exact⟨_,_,aH hfz,{s1 with i:=s1.i+1},⟨h1,by show s1.g<=4;omega,by show s.i<=s1.i+1;omega,by show s1.i+1<=_;omega,_,rfl,AF ha (by omega),by simp,.inr ⟨he1,by rw[hcv,<-hav];show _=PR.ok (_,s1.g) _;rw[X];rfl,by show 1+2<=4*(s1.i+1-s.i);omega⟩⟩,br.ag bj ((O.drop 1).erase 2)⟩
    cases nt with
    |true=>
     refine G 3 ?_;obtain⟨aK,hla⟩:=uT (l:=m) (bC _ _) (by omega);refine M 10 λk70 U Pa O=>?_;obtain⟨d',R,ng,eX⟩:=dC _ (kY m) k70 rfl (by omega) Pa O;refine ah.ret ⟨rx,_,d',R,rfl,ng,eX⟩
    |false=>
     refine M 9 λk70 U Pa O=>?_;obtain⟨d',R,ng,eX⟩:=dC _ m k70 rfl (by omega) Pa O;refine ah.ret ⟨rx,_,d',R,rfl,ng,eX⟩
  |false=>
   rw[F,if_neg (by simp)] at dZ;refine G 14 ?_;refine qn ?_;simp only[ε];refine G 2 ?_;refine zP (λhge=>?_) λhge=>?_
   .rw[if_pos (by omega)] at dZ;refine G 4 ?_;obtain⟨_,U,aK,rfl,O⟩:=fK (s:=s1) s.i 4 (by omega) O;refine qv aK ?_;refine G 2 ?_;obtain⟨w1,w2,w3,w4⟩:=iY (a_:=a_) (s:=s1) (i:=s.i) (e:=4) he1 (by decide) dZ;refine ah.ret ⟨rx,_,_,_,rfl,aH (rfl),?_⟩;exact⟨_,gN (by omega) (by omega) (by omega) (by omega) (ua _ w1),br.ag bj (O.erase 2)⟩
   .rw[if_neg (by omega)] at dZ;refine G 5 ?_;obtain⟨_,U,aK,s2,⟨i1,i2,i3,i4,a,rfl,i5,i6⟩,O⟩:=Ly (s:=s1) bK he1 (by omega) O;have BB:=(dU a).arg N S2;have Hi:=pJ a;refine qv aK ?_;refine u.oK (s:=2) O rfl (ev rfl) (ev rfl) (by exact dh) (by exact Arg.rows (by assumption) O) rfl rfl rfl rfl rfl rfl rfl ⟨(θ rfl),(θ rfl)⟩ (λ_=>(ae rfl _)) (by simp<;>omega) (by exact .inr (by assumption)) (λP5 U O=>?_);dsimp[u2,u1,u3,u4,setMany,u5,u6,D.cells,ι,bH,bz,av,ak] at O;refine G 5 ?_
    rcases i6 with i6|⟨i6,i7,i8⟩
    .have hne:=i6.ne;exact⟨mm-1,by omega,s2,P5,lr++a,false,rfl,(by rw[η];exact O),i1.trans h1,i2.trans X,by omega,i4,by rw[δ];omega,λe=>absurd e hne,by rw[if_neg hne];omega,.inl (i6.map λe w h=>by rw[dZ,h])⟩
    .rw[i8] at dZ;simp only at dZ;exact⟨mm-1,by omega,s2,P5,lr++a,false,rfl,(by rw[η];exact O),i1.trans h1,i2.trans X,by omega,i4,by rw[δ];omega,λe=>by rw[δ];omega,by rw[if_pos i6];omega,.inr ⟨i6,n,by omega,dZ⟩⟩
def pU (gs:List (Nat×Nat)) (f:Nat):PR (Int×Int):=
 if(digS (ft gs (f+1)) []).2=0 then .er 4 f
 else if cy gs (f+1+(digS (ft gs (f+1)) []).2) 44=true then
  (if cy gs (f+1+(digS (ft gs (f+1)) []).2+1+(digS (ft gs (f+1+(digS (ft gs (f+1)) []).2+1)) []).2) 125=true then
   (if(digS (ft gs (f+1+(digS (ft gs (f+1)) []).2+1)) []).2=0 then
    (if(fg (digS (ft gs (f+1)) []).1).2=true then .ok ((fg (digS (ft gs (f+1)) []).1).1,-1) (f+1+(digS (ft gs (f+1)) []).2+1+(digS (ft gs (f+1+(digS (ft gs (f+1)) []).2+1)) []).2+1) else .er 2 f)
   else if nP (digS (ft gs (f+1+(digS (ft gs (f+1)) []).2+1)) []).1 (digS (ft gs (f+1)) []).1=true then .er 4 f
   else if(fg (digS (ft gs (f+1)) []).1).2=true/\(fg (digS (ft gs (f+1+(digS (ft gs (f+1)) []).2+1)) []).1).2=true then .ok ((fg (digS (ft gs (f+1)) []).1).1,(fg (digS (ft gs (f+1+(digS (ft gs (f+1)) []).2+1)) []).1).1) (f+1+(digS (ft gs (f+1)) []).2+1+(digS (ft gs (f+1+(digS (ft gs (f+1)) []).2+1)) []).2+1) else .er 2 f)
  else .er 4 f)
 else(if cy gs (f+1+(digS (ft gs (f+1)) []).2) 125=true then
   (if nP (digS (ft gs (f+1)) []).1 (digS (ft gs (f+1)) []).1=true then .er 4 f
   else if(fg (digS (ft gs (f+1)) []).1).2=true then .ok ((fg (digS (ft gs (f+1)) []).1).1,(fg (digS (ft gs (f+1)) []).1).1) (f+1+(digS (ft gs (f+1)) []).2+1) else .er 2 f)
  else .er 4 f)
def pQ (gs:List (Nat×Nat)) (f:Nat) (m n:List UInt8) (ok en:Bool) (i:Nat):PR (Int×Int):=
 if ok=false then .er 4 f
 else if cy gs i 125=false then .er 4 f
 else if en=false/\nP n m=true then .er 4 f
 else if(fg m).2=true/\(fg (if en=true then[] else n)).2=true then .ok ((fg m).1,if en=true then-1 else(fg n).1) (i+1)
 else .er 2 f
def yD (gs:List (Nat×Nat)) (f:Nat):pU gs f=
  if(digS (ft gs (f+1)) []).2≠0/\cy gs (f+1+(digS (ft gs (f+1)) []).2) 44=true then
   pQ gs f (digS (ft gs (f+1)) []).1 (digS (ft gs (f+1+(digS (ft gs (f+1)) []).2+1)) []).1 true (!decide (0<(digS (ft gs (f+1+(digS (ft gs (f+1)) []).2+1)) []).2)) (f+1+(digS (ft gs (f+1)) []).2+1+(digS (ft gs (f+1+(digS (ft gs (f+1)) []).2+1)) []).2)
  else pQ gs f (digS (ft gs (f+1)) []).1 (digS (ft gs (f+1)) []).1 (decide (0<(digS (ft gs (f+1)) []).2)) false (f+1+(digS (ft gs (f+1)) []).2):=by
 unfold pU pQ;have uW:(fg []).2=true:=rfl;generalize(digS (ft gs (f+1)) [])=hk;generalize(digS (ft gs (f+1+hk.2+1)) [])=hp;generalize cy gs (f+1+hk.2) 44=c1;generalize cy gs (f+1+hk.2) 125=c2;generalize cy gs (f+1+hk.2+1+hp.2) 125=c3;generalize nP hk.1 hk.1=c4;generalize nP hp.1 hk.1=c5
 by_cases h1:hk.2=0
 .simp[h1]
 .have QI:0<hk.2:=by omega
  by_cases X:hp.2=0
  .cases c1<;>cases c2<;>cases c3<;>cases c4<;>cases c5<;>simp[h1,QI,X,uW]
  .have h2':0<hp.2:=by omega
   cases c1<;>cases c2<;>cases c3<;>cases c4<;>cases c5<;>simp[h1,QI,X,h2',uW]
def cV (op:Int) (ps:List (List aQ)):List aQ:=
 match ps with
 |[]=>[fk 1 0 0 false 0 0 []]
 |[l]=>l
 |ps=>fk op 0 0 false 0 (ps.length:Nat) []::ps.flatten
def lE:∀l:List (List aQ),df l=l.flatten.length
 |[]=>rfl
 |a::l=>by rw[df,List.flatten_cons,δ,lE l]
variable{x:D}
def wj {parts:List (List aQ)} (op:Int) (hx:V.Rows Y 1 x (parts.map cU)) (hv:∀l∈parts,∀n∈l,ki n) (B:parts.length<=100000) (hs:df parts<=100000):Ev pv 73 [.int .i64 op,x] Y (jO (cV op parts)) Y/\(∀n∈cV op parts,ki n)/\(parts.length=1->(cV op parts).length<=df parts)/\(cV op parts).length<=df parts+1:=by
 suffices hg:∃d,Ev pv 73 [.int .i64 op,x] Y d Y/\d=jO (cV op parts)/\(∀n∈cV op parts,ki n)/\(parts.length=1->(cV op parts).length<=df parts)/\(cV op parts).length<=df parts+1 by
  obtain⟨d,h1,rfl,X⟩:=hg;exact⟨h1,X⟩
 refine zM abQ λS aP hF O=>?_;have hx:=Arg.of hx aP;refine M 16 ?_
 by_cases h0:parts.length=0
 .have RX:parts=[]:=ς.1 h0;refine vX ?_;refine G 2 ?_;refine u.go (d:=.agg [.int .i64 1,.nul,.int .i64 0,.int .i64 0,.bool false,.int .i64 0,.int .i64 0]) (st1:=_) rfl rfl rfl (by dsimp<;>rfl) ?_;refine M 3 λk13 U aem O=>?_;have hfz:=gZ (L:=Y.bs.length) (a:=[]) O aV (.inr ⟨rfl,rfl⟩) (λk A=>by have lx:k13+1=k+1:=A;rw[<-aP];omega);refine ah.ret ⟨rx,_,_,rfl,rl aP O (hfz),?_⟩;rw[RX];exact⟨rfl,AF (by simp) (by omega),λh=>by simp at h,by simp[cV]⟩
 have SE:(((parts.length:Nat):Int)==0)=false:=by rw[beq_eq_false_iff_ne];omega
 refine vY ?_;refine G 5 ?_
 by_cases h1:parts.length=1
 .obtain⟨q,hq⟩:=gx (l:=parts) (i:=0)
  have dO:=rq hq
  have xE:parts=[q]:=by
   match parts,h1,hq with
   |[a],_,hq=>simp at hq;rw[hq]
  refine vX ?_;refine M 8 λQd Di=>?_;have hj:cV op parts=q:=by rw[xE];rfl
  refine⟨by rw[hj];rfl,by rw[hj];exact hv q (κ hq),λ_=>?_,?_⟩<;>rw[hj,xE]<;>simp[df]
 have Dv:(((parts.length:Nat):Int)==1)=false:=by rw[beq_eq_false_iff_ne];omega
 have hj:cV op parts=fk op 0 0 false 0 (parts.length:Nat) []::parts.flatten:=by
  match parts,h0,h1 with
  |_::_::_,_,_=>rfl
 rw[hj];refine vY ?_;refine G 5 ?_;refine qn ?_;simp only[ε];refine u.go (d:=.agg [.int .i64 op,.nul,.int .i64 0,.int .i64 0,.bool false,.int .i64 0,.int .i64 (parts.length:Nat)]) (st1:=_) rfl rfl rfl (by dsimp<;>rfl) ?_;refine qh (s:=7) (vs:=[_]) O λk23 U aeh O=>?_;refine G 6 ?_;refine qn ?_;simp only[ε];refine G 2 ?_;have O:Has Y.bs.length S U (.ai (.win k23 0 0 1 7) 7 [[.int .i64 op,.nul,.int .i64 0,.int .i64 0,.bool false,.int .i64 0,.int .i64 (parts.length:Nat)]]::[]):=O;refine G 1 ?_;refine ah.loop (λmm I U=>∃(i:Nat) (od:D) (es:List (List D)),I.clean=fL I 27 [(5,od),(18,x),(0,.int .i64 (parts.length:Nat)),(0,.int .i64 (i:Nat))]/\Has Y.bs.length S U [.ai od 7 es]/\(i+mm=parts.length)/\(es.map (·.map oX)=(fk op 0 0 false 0 (parts.length:Nat) []::(parts.take i).flatten).map aO)/\(∀e∈es,∀d∈e,nB d=true)/\(∀k,od.ref=k+1->S.bs.length<=k)) (parts.length) ?_ ?_
 .refine⟨0,.win k23 0 0 1 7,[[.int .i64 op,.nul,.int .i64 0,.int .i64 0,.bool false,.int .i64 0,.int .i64 (parts.length:Nat)]],rfl,O,by omega,rfl,?_,λk A=>by simp only[D.ref] at A;omega⟩;intro e he d hd;simp at he;subst he;simp only[ν,χ,or_false] at hd
  rcases hd with rfl|rfl|rfl|rfl|rfl|rfl|rfl<;>rfl
 rintro mm I U ⟨i,od,es,hfr,O,hi,sE,ht,gb⟩;rw[hfr];(try dsimp only[fL,fG,ι]);clear hfr;generalize ay I=ee;clear I;refine G 4 ?_
 by_cases hlt:i<parts.length
 .obtain⟨q,hq⟩:∃q,parts[i]?=some q:=⟨parts[i]'hlt,μ _⟩
  have dO:=rq hq;have LM:=hv q (κ hq)
  have sF:es.length=1+(parts.take i).flatten.length:=by
   have hco:(υ∘List.map aO:List aQ->Nat)=υ:=by funext l;simp
   have:=congrArg υ sE;simp[hco] at this
   simp;omega
  have xC:parts.take (i+1)=parts.take i++[q]:=by rw[φ,hq];rfl
  have Z7:df (parts.take (i+1))=df (parts.take i)+q.length:=by rw[xC,cz];simp[df]
  have Z8:df (parts.take (i+1))<=df parts:=by
   have:=cz (parts.take (i+1)) (parts.drop (i+1));rw[List.take_append_drop] at this;omega
  have hsf:=lE (parts.take i);refine qq<|qD rfl (by simp;omega) ?_;refine G 5 ?_;refine qr λTK I2=>?_;refine G 6 ?_;refine y5 O aV ((iq LM).rows U) (by rw[ε];omega) gb λx32 U gb O=>?_;dsimp at O;refine G 6 ?_;refine⟨mm-1,by omega,⟨i+1,x32,es++q.map aO,rfl,O,by omega,by rw[η,sE,oF LM,xC,List.flatten_append,ο,ο,η];simp,?_,gb⟩⟩;intro e he
  rcases ξ.1 he with he|he
  .exact ht e he
  .exact lN LM e he
 .refine qq<|qE rfl (by simp;omega) ?_;refine G 6 ?_;have hik:i=parts.length:=by omega
  rw[hik,List.take_length] at sE
  have hall:∀n∈fk op 0 0 false 0 (parts.length:Nat) []::parts.flatten,ki n:=λn hn=>by
   rcases ν.1 hn with rfl|hn
   .exact AF (by simp) (by omega) _ (List.mem_cons_self ..)
   .obtain⟨l,hl,hn⟩:=List.mem_flatten.1 hn;exact hv l hl n hn
  refine ah.ret ⟨rx,_,_,rfl,rl aP O (fV O aV sE ht (λk A=>by have:=gb k A;rw[<-aP];exact this) (by decide)),?_⟩;have hsf:=lE parts;exact⟨rfl,hall,by omega,by simp only[γ];omega⟩
def QP (gs:List (Nat×Nat)) (a_:List Int) (af:PR (Int×Int)) (s s':fw) (n1 n2:Int):Prop:=
 zz gs s s'/\(ga af a_ s'\/s'.e=0/\af=.ok (n1,n2) s'.i)
variable{r:Int}
def B4 (h:cy gs s.i r=false):cu gs s r=s:=by
 unfold cu;rw[if_neg (by rw[h];simp)]
def oj (h:cy gs s.i r=true):(cu gs s r).i=s.i+1:=by
 unfold cu;rw[if_pos h]
def Iy (bK:oa gs a_) (he:s.e=0) (hi:s.i<gs.length) (O:Has N S Y (.box k (.mem 0 false (bH gs bP s))::.ai bP 1 (a_.map av)::H)):
  ∃d R,Ev pv 117 [.ptr k 0 0] Y d R/\∃(n1 n2:Int) (s':fw),d=.tup [.int .i64 n1,.int .i64 n2]/\QP gs a_ (pU gs s.i) s s' n1 n2/\Has N S R (.box k (.mem 0 false (bH gs bP s'))::.ai bP 1 (a_.map av)::H):=by
 have nS:=bK.gl;have eY:=bK.pl;have hne:gs≠[]:=by rintro rfl;simp at hi
 have br:=O;refine zO XR λS2 bj O=>?_;refine M 24 λU O=>?_;have O:Has N S2 U (.box k (.mem 0 false (bH gs bP {s with i:=s.i+1}))::.ai bP 1 (a_.map av)::H):=O;have hall:=yD gs s.i
 obtain⟨af,hR⟩:∃af,pU gs s.i=af:=⟨_,rfl⟩
 rw[hR] at hall|-;clear hR
 have ko:∀(U:St) (s3:fw) (e:Int),e≠0->s3.e=0->zz gs s s3->af=.er e s.i->Has N S2 U (.box k (.mem 0 false (bH gs bP s3))::.ai bP 1 (a_.map av)::H)->∃d R,Ev pv 43 [.ptr k 0 0,.int .i64 (s.i:Nat),.int .i64 e] U d R/\d=.sl []/\∃s4,(∀n1 n2,QP gs a_ af s s4 n1 n2)/\Has N S2 R (.box k (.mem 0 false (bH gs bP s4))::.ai bP 1 (a_.map av)::H):=by
  intro U s3 e h0 h1 X hv O;obtain⟨d,R,aK,h4,O⟩:=fK (s:=s3) s.i e (by omega) O;obtain⟨w1,w2,w3,w4⟩:=iY (a_:=a_) (s:=s3) (i:=s.i) (e:=e) h1 h0 hv;exact⟨d,R,aK,h4,_,λ_ _=>⟨⟨w3.trans X.1,w4.trans X.2.1,by rw[w2];exact X.2.2.1,by rw[w2];exact X.2.2.2⟩,.inl w1⟩,O⟩
 obtain⟨hk,hA⟩:∃hk,digS (ft gs (s.i+1)) []=hk:=⟨_,rfl⟩
 refine G 3 ?_;obtain⟨_,U,aK,rfl,mG,Qx,O⟩:=w6 (s:={s with i:=s.i+1}) nS (by show s.i+1<=_;omega) hne O;dsimp only at aK mG Qx O;rw[hA] at aK mG Qx O;refine M 7 ?_;rw[hA] at hall;obtain⟨m,a2⟩:=hk;clear hA;dsimp only at hall mG Qx O
 obtain⟨s1,xn⟩:∃s1:fw,({s with i:=s.i+1+a2}:fw)=s1:=⟨_,rfl⟩
 have RS:s1.e=0:=by rw[<-xn];exact he
 have aaa:s1.i=s.i+1+a2:=by rw[<-xn]
 have IY:zz gs s s1:=by rw[<-xn];exact⟨rfl,rfl,by show s.i<s.i+1+a2;omega,Qx⟩
 have O:Has N S2 U (.box k (.mem 0 false (bH gs bP s1))::.ai bP 1 (a_.map av)::H):=by rw[<-xn];exact O
 clear xn;rw[<-aaa] at hall
 obtain⟨ok,A0⟩:∃ok,decide (0<a2)=ok:=⟨_,rfl⟩
 rw[A0] at hall|-;refine G 8 ?_;refine ah.ir (λI U=>∃(n:List UInt8) (en:Bool) (s3:fw) (tmp:List (Nat×D)),I=⟨14,[.ptr k 0 0,ay I 1,ay I 2,ay I 3,.int .i64 (s.i:Nat),.str m,.bool ok,.str n,.bool en,ay I 9,ay I 10,ay I 11,ay I 12,ay I 13],tmp⟩/\Has N S2 U (.box k (.mem 0 false (bH gs bP s3))::.ai bP 1 (a_.map av)::H)/\(s3.e=0)/\(zz gs s s3)/\(n.length<=120)/\(af=pQ gs s.i m n ok en s3.i)) ?_ ?_
 .cases ok with
  |false=>
   have WT:a2=0:=by have:=of_decide_eq_false A0;omega
   have tZ:false=false:=rfl;refine G 9 ?_;exact⟨m,false,s1,_,rfl,O,RS,IY,mG,by rw[hall,if_neg (λh=>h.1 WT)]⟩
  |true=>
   have WT:0<a2:=of_decide_eq_true A0;have tZ:true=true:=rfl;obtain⟨k1,k2,k3,k4,k5⟩:=jq (gs:=gs) (s:=s1) (r:=44);have k5:=k5 IY.2.2.2;have k6:=B4 (gs:=gs) (s:=s1) (r:=44);have k7:=oj (gs:=gs) (s:=s1) (r:=44);refine G 4 ?_;obtain⟨_,U,aK,rfl,O⟩:=fq (s:=s1) (by omega) 44 O;refine M 3 ?_;generalize cu gs s1 44=s2 at*
   have RQ:zz gs s s2:=⟨k1.trans IY.1,k2.trans IY.2.1,by have:=IY.2.2.1;omega,k5⟩
   cases F:cy gs s1.i 44 with
   |false=>
    have k6:=k6 F;rw[k6] at O;refine G 2 ?_;exact⟨m,false,s1,_,rfl,O,RS,IY,mG,by rw[hall,if_neg (λh=>by rw[F] at h;exact absurd h.2 (by simp))]⟩
   |true=>
    have k7:=k7 F;refine G 5 ?_;rw[<-k7] at hall
    obtain⟨hp,hB⟩:∃hp,digS (ft gs s2.i) []=hp:=⟨_,rfl⟩
    rw[hB] at hall;refine G 3 ?_;obtain⟨_,U,aK,rfl,A3,hni,O⟩:=w6 (s:=s2) nS k5 hne O;rw[hB] at aK A3 hni O;refine M 7 ?_;clear hB;obtain⟨n,b2⟩:=hp;dsimp only at hall A3 hni O;refine G 5 ?_;exact⟨n,!decide (0<b2),{s2 with i:=s2.i+b2},_,rfl,O,k3.trans RS,⟨RQ.1,RQ.2.1,by have:=RQ.2.2.1;show s.i<s2.i+b2;omega,hni⟩,A3,by rw[hall,if_pos ⟨by omega,F⟩]⟩
 .rintro I U ⟨n,en,s3,tmp,hfr,O,h1,X,h3,hG⟩;rw[hfr];clear hfr;generalize ay I=ee;clear I;clear hall A0;obtain⟨k1,k2,k3,k4,k5⟩:=jq (gs:=gs) (s:=s3) (r:=125);have k5:=k5 X.2.2.2
  have IW:zz gs s (cu gs s3 125):=⟨k1.trans X.1,k2.trans X.2.1,by have:=X.2.2.1;omega,k5⟩
  have IX:(cu gs s3 125).e=0:=k3.trans h1;have k7:=oj (gs:=gs) (s:=s3) (r:=125);unfold pQ at hG
  cases ok with
  |false=>
   rw[if_pos rfl] at hG;have ba:(!false)=true:=rfl;refine G 25 ?_;obtain⟨_,U,aK,rfl,s4,hm4,O⟩:=ko _ s3 4 (by decide) h1 X hG O;refine M 8 ?_;exact⟨_,_,s4,rfl,hm4 _ _,br.ag bj O⟩
  |true=>
   rw[if_neg (by simp)] at hG;have ba:(!true)=false:=rfl
   cases Mb:(!cy gs s3.i 125) with
   |true=>
    rw[if_pos (by simpa using Mb)] at hG;refine G 7 ?_;obtain⟨_,U,aK,rfl,O⟩:=fq (s:=s3) (by omega) 125 O;refine M 13 ?_;generalize cu gs s3 125=s4 at*;refine G 5 ?_;obtain⟨_,U,aK,rfl,s5,Sh,O⟩:=ko _ s4 4 (by decide) IX IW hG O;refine M 8 ?_;exact⟨_,_,s5,rfl,Sh _ _,br.ag bj O⟩
   |false=>
    have Wt:cy gs s3.i 125=true:=by simpa using Mb
    have k7:=k7 Wt;rw[if_neg (by rw[Wt];simp)] at hG;rw[<-k7] at hG
    cases en with
    |true=>
     rw[if_neg (λh=>absurd h.1 (by simp))] at hG;have dw:(!true)=false:=rfl;have uV:=λU=>og (Y:=U) m (by omega);have uU:=λU=>og (Y:=U) [] (by simp);simp at hG;generalize fg m=V1 at*;generalize fg []=V2 at*;obtain⟨a1,f1⟩:=V1;obtain⟨b1,f2⟩:=V2;dsimp only at hG uV uU;refine G 7 ?_;obtain⟨_,U,aK,rfl,O⟩:=fq (s:=s3) (by omega) 125 O;refine M 13 ?_;generalize cu gs s3 125=s4 at*;refine M (t:=((uV _))) 24 ?_;refine M (t:=((uU _))) 9 ?_;refine ah.dM 78 (.bool (!f1||!f2)) [] ?_ (λff tmp bp=>?_)
     .refine G 3 ?_;refine y2 75 (λba=>?_) λba=>?_
      .refine G 3 ?_;exact vV
      .refine G 3 ?_;exact vV
     refine zd ?_;refine qc (λly=>?_) (λly=>?_)<;>try simp only[cs] at ly
     .rw[if_neg (λh=>by rw[h.1,h.2] at ly;simp at ly)] at hG;refine G 4 ?_;obtain⟨_,U,aK,rfl,s5,Sh,O⟩:=ko _ s4 2 (by decide) IX IW hG O;refine M 8 ?_;exact⟨_,_,s5,rfl,Sh _ _,br.ag bj O⟩
     .rw[if_pos (by cases f1<;>cases f2<;>simp at ly|-)] at hG;refine M 18 ?_;exact⟨_,_,s4,rfl,⟨IW,.inr ⟨IX,hG⟩⟩,br.ag bj O⟩
    |false=>
     have dw:(!false)=true:=rfl;have uV:=λU=>og (Y:=U) m (by omega);have uU:=λU=>og (Y:=U) n (by omega);have hle:=λU=>Lo (Y:=U) n m;have hif:∀(a b:Int),(if false=true then a else b)=b:=λa b=>if_neg (by simp);have hil:∀(a b:List UInt8),(if false=true then a else b)=b:=λa b=>if_neg (by simp);rw[hif,hil] at hG;generalize fg m=V1 at*;generalize fg n=V2 at*;obtain⟨a1,f1⟩:=V1;obtain⟨b1,f2⟩:=V2;dsimp only at hG uV uU;generalize nP n m=v at*;refine G 7 ?_;obtain⟨_,U,aK,rfl,O⟩:=fq (s:=s3) (by omega) 125 O;refine M (t:=((hle _))) 13 ?_;generalize cu gs s3 125=s4 at*
     cases v with
     |true=>
      rw[if_pos ⟨rfl,rfl⟩] at hG;refine G 5 ?_;obtain⟨_,U,aK,rfl,s5,Sh,O⟩:=ko _ s4 4 (by decide) IX IW hG O;refine M 8 ?_;exact⟨_,_,s5,rfl,Sh _ _,br.ag bj O⟩
     |false=>
      rw[if_neg (λh=>absurd h.2 (by simp))] at hG;refine M (t:=((uV _))) 22 ?_;refine M (t:=((uU _))) 9 ?_;refine ah.dM 78 (.bool (!f1||!f2)) [] ?_ (λff tmp bp=>?_)
      .refine G 3 ?_;refine y2 75 (λba=>?_) λba=>?_
       .refine G 3 ?_;exact vV
       .refine G 3 ?_;exact vV
      refine zd ?_;refine qc (λly=>?_) (λly=>?_)<;>try simp only[cs] at ly
      .rw[if_neg (λh=>by rw[h.1,h.2] at ly;simp at ly)] at hG;refine G 4 ?_;obtain⟨_,U,aK,rfl,s5,Sh,O⟩:=ko _ s4 2 (by decide) IX IW hG O;refine M 8 ?_;exact⟨_,_,s5,rfl,Sh _ _,br.ag bj O⟩
      .rw[if_pos (by cases f1<;>cases f2<;>simp at ly|-)] at hG;refine M 16 ?_;exact⟨_,_,s4,rfl,⟨IW,.inr ⟨IX,hG⟩⟩,br.ag bj O⟩
abbrev PF:=Nat->Nat->PR (List aQ×Nat)
def nV (hk:PF) (gs:List (Nat×Nat)) (m i g:Nat) (free:Bool) (j:Nat):PR (List aQ×Nat):=
 if m=0 then .er 10 i
 else if free=false/\4<=g then .er 13 i
 else match hk j (if free=true then g else g+1) with
  | .er e w=>.er e w
  | .ok (l,g2) j2=>
   if cy gs j2 41=true then .ok (if free=true then l else fk 6 0 0 false ((g+1:Nat):Int) 1 []::l,g2) (j2+1)
   else .er 4 i
def qu (hk:PF) (gs:List (Nat×Nat)) (m i g:Nat):PR (List aQ×Nat):=
 if cy gs (i+1) 63=true then
  (if cy gs (i+2) 58=true then nV hk gs m i g true (i+3) else .er 4 i)
 else nV hk gs m i g false (i+1)
def ga.to {α:Type} {af:PR α} (h:ga af a_ s) (he:s'.e=s.e) (hw:s'.w=s.w):ga af a_ s':=by
 obtain⟨e,w,h0,h1,X,h3⟩:=h;exact⟨e,w,h0,h1,he.trans X,hw.trans h3⟩
def Gc (hk:PF) (gs:List (Nat×Nat)) (m:Nat):Prop:=∀{N k:Nat} {S Y:St} {H:List aX} {bP:D} {a_:List Int} {s:fw},oa gs a_->s.e=0->s.i<=gs.length->s.g<=4->s.o+m=20->Has N S Y (.box k (.mem 0 false (bH gs bP s))::.ai bP 1 (a_.map av)::H)->
 ∃d R,Ev pv 42 [.ptr k 0 0] Y d R/\∃(s':fw),ve gs a_ (hk s.i s.g) s s' d/\Has N S R (.box k (.mem 0 false (bH gs bP s'))::.ai bP 1 (a_.map av)::H)
variable{m:Nat}{hk:PF}
def Jh (hA:∀m',m'+1=m->Gc hk gs m') (bK:oa gs a_) (he:s.e=0) (hi:s.i<gs.length) (hg:s.g<=4) (ho:s.o+m=20) (O:Has N S Y (.box k (.mem 0 false (bH gs bP s))::.ai bP 1 (a_.map av)::H)):
  ∃d R,Ev pv 134 [.ptr k 0 0] Y d R/\∃(s':fw),lu gs a_ (qu hk gs m s.i s.g) s s' d 2/\Has N S R (.box k (.mem 0 false (bH gs bP s'))::.ai bP 1 (a_.map av)::H):=by
 have nS:=bK.gl;have eY:=bK.pl;have br:=O;refine zO XB λS2 bj O=>?_
 obtain⟨af,hR⟩:∃af,qu hk gs m s.i s.g=af:=⟨_,rfl⟩
 rw[hR];unfold qu at hR
 have hwr:∀(U:St) (s3:fw) (e:Int) (H2:List aX),e≠0->s3.e=0->s3.o=s.o->s3.g<=4->s.i<=s3.i->s3.i<=gs.length->af=.er e s.i->Has N S2 U (.box k (.mem 0 false (bH gs bP s3))::.ai bP 1 (a_.map av)::H2)->∃d R,Ev pv 43 [.ptr k 0 0,.int .i64 (s.i:Nat),.int .i64 e] U d R/\d=.sl []/\∃s4,lu gs a_ af s s4 (.sl []) 2/\Has N S2 R (.box k (.mem 0 false (bH gs bP s4))::.ai bP 1 (a_.map av)::H2):=by
  intro U s3 e H2 h0 h1 X h3 h4 h5 hv O;obtain⟨d,R,aK,h6,O⟩:=fK (s:=s3) s.i e (by omega) O;obtain⟨w1,w2,w3,w4⟩:=iY (a_:=a_) (s:=s3) (i:=s.i) (e:=e) h1 h0 hv;exact⟨d,R,aK,h6,_,gN (w3.trans X) (by omega) (by omega) (by omega) w1,O⟩
 refine M 23 λU O=>?_;have O:Has N S2 U (.box k (.mem 0 false (bH gs bP {s with i:=s.i+1}))::.ai bP 1 (a_.map av)::H):=O
 obtain⟨s1,xn⟩:∃s1:fw,({s with i:=s.i+1}:fw)=s1:=⟨_,rfl⟩
 have RR:s1.e=0/\s1.o=s.o/\s1.g=s.g/\s1.i=s.i+1:=by rw[<-xn];exact⟨he,rfl,rfl,rfl⟩
 rw[xn] at O;clear xn;obtain⟨f1,f2,f3,f4⟩:=RR;refine G 6 ?_;refine ah.ir (λI U=>∃(free:Bool) (s2:fw) (tmp:List (Nat×D)),I=⟨7,[.ptr k 0 0,ay I 1,ay I 2,.int .i64 (s.i:Nat),.bool free,ay I 5,ay I 6],tmp⟩/\Has N S2 U (.box k (.mem 0 false (bH gs bP s2))::.ai bP 1 (a_.map av)::H)/\(s2.e=0)/\(s2.o=s.o)/\(s2.g=s.g)/\(s.i+1<=s2.i)/\(s2.i<=gs.length)/\(nV hk gs m s.i s.g free s2.i=af)) ?_ ?_
 .obtain⟨k1,k2,k3,k4,k5⟩:=jq (gs:=gs) (s:=s1) (r:=63);have k5:=k5 (by omega);have k6:=B4 (gs:=gs) (s:=s1) (r:=63);have k7:=oj (gs:=gs) (s:=s1) (r:=63);refine G 2 ?_;obtain⟨_,U,aK,rfl,O⟩:=fq (s:=s1) (by omega) 63 O;refine M 2 ?_;generalize cu gs s1 63=s2 at*
  cases F:cy gs s1.i 63 with
  |false=>
   refine G 2 ?_;exact⟨false,s2,_,rfl,O,by omega,by omega,by omega,by omega,by omega,(by rw[k6 F,f4,<-hR,if_neg (by rw[<-f4,F];simp)])⟩
  |true=>
   refine G 5 ?_;obtain⟨r1,r2,r3,r4,r5⟩:=jq (gs:=gs) (s:=s2) (r:=58);have r5:=r5 k5;have k7:=k7 F;have r7:=oj (gs:=gs) (s:=s2) (r:=58);refine G 3 ?_;obtain⟨_,U,aK,rfl,O⟩:=fq (s:=s2) (by omega) 58 O;refine M 3 ?_;generalize cu gs s2 58=s3 at*
   cases hb2:cy gs s2.i 58 with
   |false=>
    refine G 5 ?_;obtain⟨_,U,aK,rfl,s4,hN,O⟩:=hwr _ s3 4 _ (by decide) (by omega) (by omega) (by omega) (by omega) (by omega) (by rw[<-hR,if_pos (by rw[<-f4];exact F),if_neg (by rw[show s.i+2=s2.i by omega,hb2];simp)]) O;refine M 4 ?_;exact⟨s4,hN,br.ag bj O⟩
   |true=>
    refine G 2 ?_;exact⟨true,s3,_,rfl,O,by omega,by omega,by omega,by omega,by omega,(by rw[<-hR,if_pos (by rw[<-f4];exact F),if_pos (by rw[show s.i+2=s2.i by omega];exact hb2),show s3.i=s.i+3 by have:=r7 hb2;omega])⟩
 .rintro I U ⟨free,s2,tmp,hfr,O,h1,X,h3,h4,h5,hG⟩;refine zK λee=>?_;clear hR;refine G 9 ?_
  by_cases WB:20<=s2.o
  .have c_:decide (((s2.o:Nat):Int)>=20)=true:=by rw[decide_eq_true_eq];omega
   refine vX ?_;refine G 4 ?_;obtain⟨_,U,aK,rfl,s4,hN,O⟩:=hwr _ s2 10 _ (by decide) h1 X (by omega) (by omega) h5 (by rw[<-hG];unfold nV;rw[if_pos (by omega)]) O;refine M 4 ?_;exact⟨s4,hN,br.ag bj O⟩
  have c_:decide (((s2.o:Nat):Int)>=20)=false:=by rw[decide_eq_false_iff_not];omega
  refine vY ?_;refine G 3 ?_;refine qg (d:=.agg [.int .i64 6,.nul,.int .i64 0,.int .i64 0,.bool false,.int .i64 0,.int .i64 1]) ?_;refine M 3 λk5 U FA O U O=>?_;have O:Has N S2 U (.box k (.mem 0 false (bH gs bP s2))::.ai bP 1 (a_.map av)::_::H):=sn O;refine G 2 ?_;refine ah.ir (λI U=>∃(cap:Int) (s3:fw) (tmp:List (Nat×D)),I=⟨7,[.ptr k 0 0,ay I 1,ay I 2,.int .i64 (s.i:Nat),.bool free,.ptr k5 0 0,ay I 6],tmp⟩/\Has N S2 U (.box k (.mem 0 false (bH gs bP s3))::.ai bP 1 (a_.map av)::.box k5 (.mem 0 false [.int .i64 6,.nul,.int .i64 0,.int .i64 0,.bool false,.int .i64 cap,.int .i64 1])::H)/\(s3.e=0)/\(s3.o=s.o)/\(s3.g<=4)/\(s3.i=s2.i)/\(s3.g=(if free=true then s.g else s.g+1))/\(cap=(if free=true then 0 else((s.g+1:Nat):Int)))/\(¬(free=false/\4<=s.g))) ?_ ?_
  .refine G 4 ?_
   cases free with
   |true=>
    refine G 2 ?_;exact⟨0,s2,_,rfl,O,h1,X,by omega,rfl,(by rw[if_pos rfl];exact h3),(by rw[if_pos rfl]),(λh=>absurd h.1 (by simp))⟩
   |false=>
    refine G 10 ?_
    by_cases hmany:4<=s2.g
    .have c_:decide (((s2.g:Nat):Int)>=4)=true:=by rw[decide_eq_true_eq];omega
     refine vX ?_;refine G 4 ?_;obtain⟨_,U,aK,rfl,s4,hN,O⟩:=hwr _ s2 13 _ (by decide) h1 X (by omega) (by omega) h5 (by rw[<-hG];unfold nV;rw[if_neg (by omega),if_pos ⟨rfl,by omega⟩]) O;refine M 4 ?_;exact⟨s4,hN,br.ag bj (O.erase 2)⟩
    .have c_:decide (((s2.g:Nat):Int)>=4)=false:=by rw[decide_eq_false_iff_not];omega
     refine vY ?_;refine M 20 λU O U O=>?_;exact⟨((s2.g+1:Nat):Int),{s2 with g:=s2.g+1},_,rfl,O,h1,X,by show s2.g+1<=4;omega,rfl,(by rw[if_neg (by simp)];show s2.g+1=_;omega),(by rw[if_neg (by simp),h3]),(λh=>by have:=h.2;omega)⟩
  .rintro I U ⟨cap,s3,tmp,hfr,O,e1,e2,e3,e4,e5,e6,e7⟩;rw[hfr];clear hfr;generalize ay I=ee;clear I
   have hv:af=match hk s3.i s3.g with
    | .er e w=>.er e w
    | .ok (l,g2) j2=>if cy gs j2 41=true then .ok (if free=true then l else fk 6 0 0 false ((s.g+1:Nat):Int) 1 []::l,g2) (j2+1) else .er 4 s.i:=by
    rw[<-hG,e4,e5];unfold nV;rw[if_neg (by omega),if_neg e7]
   refine M 11 λU O=>?_;have O:Has N S2 U (.box k (.mem 0 false (bH gs bP {s3 with o:=s3.o+1}))::.ai bP 1 (a_.map av)::.box k5 (.mem 0 false [.int .i64 6,.nul,.int .i64 0,.int .i64 0,.bool false,.int .i64 cap,.int .i64 1])::H):=O;refine G 3 ?_;obtain⟨_,U,aK,s4,⟨a1,a2,a3,a4,l,rfl,a5,a6,a7⟩,O⟩:=hA (m-1) (by omega) (s:={s3 with o:=s3.o+1}) bK e1 (by show s3.i<=_;omega) e3 (by show s3.o+1+(m-1)=20;omega) O;refine M 3 ?_;have a7:ga (hk s3.i s3.g) a_ s4\/s4.e=0/\hk s3.i s3.g=.ok (l,s4.g) s4.i:=a7;have a1:s4.o=s3.o+1:=a1;have a3:s3.i<=s4.i:=a3;have a6:l.length<=4*(s4.i-s3.i)+1:=a6;have hla:=(iq a5).arg N S2;refine G 6 ?_;refine yB (z:=((s.o:Nat):Int)) ?_;refine M 4 λU O=>?_
   obtain⟨s5,RP⟩:∃s5:fw,({s4 with o:=s.o}:fw)=s5:=⟨_,rfl⟩
   have O:Has N S2 U (.box k (.mem 0 false (bH gs bP s5))::.ai bP 1 (a_.map av)::.box k5 (.mem 0 false [.int .i64 6,.nul,.int .i64 0,.int .i64 0,.bool false,.int .i64 cap,.int .i64 1])::H):=by rw[<-RP];exact O
   have RO:s5.o=s.o/\s5.g=s4.g/\s5.i=s4.i/\s5.e=s4.e/\s5.w=s4.w:=by rw[<-RP];exact⟨rfl,rfl,rfl,rfl,rfl⟩
   clear RP;obtain⟨b1,b2,b3,b4,b5⟩:=RO;refine G 2 ?_;refine ah.ir (λI U=>∃(s6:fw) (tmp:List (Nat×D)),I=⟨7,[.ptr k 0 0,ay I 1,ay I 2,ay I 3,.bool free,.ptr k5 0 0,jO l],tmp⟩/\Has N S2 U (.box k (.mem 0 false (bH gs bP s6))::.ai bP 1 (a_.map av)::.box k5 (.mem 0 false [.int .i64 6,.nul,.int .i64 0,.int .i64 0,.bool false,.int .i64 cap,.int .i64 1])::H)/\(s6.o=s.o)/\(s6.g<=4)/\(s4.i<=s6.i)/\(s6.i<=gs.length)/\(ga af a_ s6\/s6.e=0/\s4.i<s6.i/\af=.ok (if free=true then l else fk 6 0 0 false ((s.g+1:Nat):Int) 1 []::l,s6.g) s6.i)) ?_ ?_
   .by_cases YV:s5.e=0
    .have iF:(s5.e==0)=true:=by simpa using YV
     have a8:hk s3.i s3.g=.ok (l,s4.g) s4.i:=by
      rcases a7 with a7|a7
      .exact absurd (b4.symm.trans YV) a7.ne
      .exact a7.2
     rw[a8] at hv;simp only at hv;rw[<-b3] at hv;obtain⟨k1,k2,k3,k4,k5'⟩:=jq (gs:=gs) (s:=s5) (r:=41);have k5':=k5' (by omega);have JC:cy gs s5.i 41=true->(cu gs s5 41).i=s5.i+1:=λh=>by unfold cu;rw[if_pos h]
     refine G 8 ?_;obtain⟨_,U,aK,rfl,O⟩:=fq (s:=s5) (by omega) 41 O;refine M 4 ?_;generalize cu gs s5 41=s6 at*
     cases F:cy gs s5.i 41 with
     |false=>
      refine G 5 ?_;obtain⟨_,U,aK,rfl,s7,hN,O⟩:=hwr _ s6 4 _ (by decide) (by omega) (by omega) (by omega) (by omega) (by omega) (by rw[hv,if_neg (by rw[F];simp)]) O;refine M 4 ?_;exact⟨s7,hN,br.ag bj (O.erase 2)⟩
     |true=>
      have JC:=JC F;refine G 2 ?_;exact⟨s6,_,rfl,O,by omega,by omega,by omega,by omega,.inr ⟨by omega,by omega,by rw[hv,if_pos F,JC,show s6.g=s4.g by omega]⟩⟩
    .have iF:(s5.e==0)=false:=by simpa using YV
     have hae:¬s5.e=0->ga af a_ s4:=λh=>by
      rcases a7 with a7|a7
      .exact a7.map λe w hw=>by rw[hv,hw]
      .exact absurd (b4.trans a7.1) h
     refine G 14 ?_;exact⟨s5,_,rfl,O,b1,by omega,by omega,by omega,.inl ((hae YV).to b4 b5)⟩
   .rintro I U ⟨s6,tmp,hfr,O,c1,c2,c3,c4,c5⟩;refine zK λee=>?_;refine G 5 ?_
    cases free with
    |true=>
     refine M 7 ?_;refine⟨s6,⟨c1,c2,by omega,c4,l,rfl,a5,by omega,?_⟩,br.ag bj (O.erase 2)⟩
     rcases c5 with c5|⟨c5,c6,c7⟩
     .exact .inl c5
     .exact .inr ⟨c5,by rw[c7,if_pos rfl],by omega⟩
    |false=>
     refine M 7 λk89 U ad1 O=>?_;refine u.nU (s:=7) O rfl (ev rfl) (ev rfl) aV ((iq a5).rows U) rfl rfl rfl rfl rfl rfl rfl ⟨(θ rfl),(θ rfl)⟩ (λ_=>(ae rfl _)) (by simp only[ε,γ,ζ];omega) (.inr (oE a5)) (λk A=>by have lx:k89+1=k+1:=A;omega) (λTy U gb O=>?_);dsimp at O;refine G 2 ?_;have O:Has N S2 U (.ai Ty 7 ([.int .i64 6,.nul,.int .i64 0,.int .i64 0,.bool false,.int .i64 cap,.int .i64 1]::l.map aO)::.box k (.mem 0 false (bH gs bP s6))::.ai bP 1 (a_.map av)::.box k5 (.mem 0 false [.int .i64 6,.nul,.int .i64 0,.int .i64 0,.bool false,.int .i64 cap,.int .i64 1])::H):=O
     have hfz:=fV (L:=Y.bs.length) (l:=fk 6 0 0 false cap 1 []::l) O aV (by rw[ο,oF a5];rfl) (λe he d hd=>by
      rcases ν.1 he with rfl|he
      .simp only[ν,χ,or_false] at hd
       rcases hd with rfl|rfl|rfl|rfl|rfl|rfl|rfl<;>rfl
      .exact lN a5 e he d hd) (λk A=>by rw[<-bj];exact gb k A) (n:=16) (by decide)
     refine ah.ret ⟨rx,_,_,_,rfl,aH hfz,⟨s6,⟨c1,c2,by omega,c4,_,rfl,?_,by simp only[γ];omega,?_⟩,br.ag bj ((O.drop 1).erase 2)⟩⟩
     .intro n hn
      rcases ν.1 hn with rfl|hn
      .exact⟨rfl,by simp[fk],by simp[fk]⟩
      .exact a5 n hn
     .rcases c5 with c5|⟨c5,c6,c7⟩
      .exact .inl c5
      .exact .inr ⟨c5,by rw[c7,if_neg (by simp),e6,if_neg (by simp)],by simp;omega⟩
noncomputable def U6 (r:Int):List Rg:=bB [(r,r)]
noncomputable def lY (hk:PF) (gs:List (Nat×Nat)) (m i g:Nat) (r:Int):PR (List aQ×Nat):=
 if r=40 then qu hk gs m i g
 else if r=91 then DU gs i g
 else if r=92 then
  match lH gs i with
  | .er e w=>.er e w
  | .ok (a,_) j=>.ok ([FX a],g) j
 else if r=46 then .ok ([FX uA],g) (i+1)
 else if r=94 then .ok ([fk 7 0 0 false 0 0 []],g) (i+1)
 else if r=36 then .ok ([fk 8 0 0 false 0 0 []],g) (i+1)
 else if r=42\/r=43\/r=63\/r=41\/r=93\/r=123\/r=125\/r=124 then .er 4 i
 else .ok ([FX (U6 r)],g) (i+1)
noncomputable def ui (hk:PF) (gs:List (Nat×Nat)) (m i g:Nat):PR (List aQ×Nat):=
 match gs[i]? with
 |none=>.er 4 i
 |some q=>if Bs gs i=true then .er 4 i else lY hk gs m i g ((q.1:Nat):Int)
def um (gs:List (Nat×Nat)) (l:List aQ) (g:Nat) (mn mx:Int) (j:Nat):PR (List aQ×Nat):=
 .ok (fk 5 mn mx (cy gs j 63) 0 1 []::l,g) (if cy gs j 63=true then j+1 else j)
noncomputable def Ri (gs:List (Nat×Nat)) (l:List aQ) (g j:Nat):PR (List aQ×Nat):=
 if cy gs j 42=true then um gs l g 0 (-1) (j+1)
 else if cy gs j 43=true then um gs l g 1 (-1) (j+1)
 else if cy gs j 63=true then um gs l g 0 1 (j+1)
 else if cy gs j 123=true then
  match pU gs j with
  | .er e w=>.er e w
  | .ok (mn,mx) j2=>um gs l g mn mx j2
 else .ok (l,g) j
noncomputable def Al (hk:PF) (gs:List (Nat×Nat)) (m i g:Nat):PR (List aQ×Nat):=
 match ui hk gs m i g with
 | .er e w=>.er e w
 | .ok (l,g1) j=>Ri gs l g1 j
def Na (hA:∀m',m'+1=m->Gc hk gs m') (bK:oa gs a_) (he:s.e=0) (hi:s.i<gs.length) (hg:s.g<=4) (ho:s.o+m=20) (O:Has N S Y (.box k (.mem 0 false (bH gs bP s))::.ai bP 1 (a_.map av)::H)):
  ∃d R,Ev pv 116 [.ptr k 0 0] Y d R/\∃(s':fw),lu gs a_ (ui hk gs m s.i s.g) s s' d 2/\Has N S R (.box k (.mem 0 false (bH gs bP s'))::.ai bP 1 (a_.map av)::H):=by
 have nS:=bK.gl;have eY:=bK.pl;have br:=O;refine zO XS λS2 bj O=>?_;have xq:Arg N S2 2 (gC gs) (gs.map bz):=Arg.pure (λU=>eZ U gs)
 obtain⟨g,Ds⟩:∃g,gs[s.i]?=some g:=⟨gs[s.i]'hi,μ _⟩
 have dO:(gs.map bz)[s.i]?=some (bz g):=by rw[π,Ds];rfl
 obtain⟨af,hR⟩:∃af,ui hk gs m s.i s.g=af:=⟨_,rfl⟩
 rw[hR];unfold ui at hR;rw[Ds] at hR;simp only at hR
 have hwr:∀(U:St),af=.er 4 s.i->Has N S2 U (.box k (.mem 0 false (bH gs bP s))::.ai bP 1 (a_.map av)::H)->∃d R,Ev pv 43 [.ptr k 0 0,.int .i64 (s.i:Nat),.int .i64 4] U d R/\d=.sl []/\∃s4,lu gs a_ af s s4 (.sl []) 2/\Has N S2 R (.box k (.mem 0 false (bH gs bP s4))::.ai bP 1 (a_.map av)::H):=by
  intro U hv O;obtain⟨d,R,aK,h6,O⟩:=fK (s:=s) s.i 4 (by omega) O;obtain⟨w1,w2,w3,w4⟩:=iY (a_:=a_) (s:=s) (i:=s.i) (e:=4) he (by decide) hv;exact⟨d,R,aK,h6,_,gN w3 (by omega) (by omega) (by omega) w1,O⟩
 have jv:∀(U:St) (s1:fw) (op:Int) (w:D) (a:List Rg) (kk:Nat),(w=az a\/w=.nul/\a=[])->a.length<=1048576->s1.o=s.o->s1.g<=4->s.i<s1.i->s1.i<=gs.length->s1.e=0->af=.ok ([fk op 0 0 false 0 0 a],s1.g) s1.i->S2.bs.length<=kk->Has N S2 U (.ai (.win kk 0 0 1 7) 7 [[.int .i64 op,w,.int .i64 0,.int .i64 0,.bool false,.int .i64 0,.int .i64 0]]::.box k (.mem 0 false (bH gs bP s1))::.ai bP 1 (a_.map av)::H)->
   ∃d R,cZ .rw false Y U (.win kk 0 0 1 7)=some (d,R)/\∃(s':fw),lu gs a_ af s s' d 2/\Has N S R (.box k (.mem 0 false (bH gs bP s'))::.ai bP 1 (a_.map av)::H):=by
  intro U s1 op w a kk hw ha h1 X h3 h4 he1 hv A O;have hfz:=gZ O aV (L:=Y.bs.length) hw (λk A=>by simp only[D.ref] at A;rw[<-bj];omega);refine⟨_,_,aH hfz,s1,⟨h1,X,by omega,h4,_,rfl,AF ha (by omega),by simp,?_⟩,br.ag bj (O.drop 1)⟩;exact .inr ⟨he1,hv,by simp only[γ,ζ];omega⟩
 refine G 17 ?_;obtain⟨_,U,aK,rfl,O⟩:=F7 (s:=s) s.i hi O;refine M 2 ?_;refine qc (λF=>?_) (λF=>?_)<;>try simp only[cs] at F
 .rw[if_pos F] at hR;refine G 4 ?_;obtain⟨_,U,aK,rfl,s4,hN,O⟩:=hwr _ hR.symm O;refine M 4 ?_;exact⟨s4,hN,br.ag bj O⟩
 rw[if_neg (by rw[F];simp)] at hR;unfold lY at hR;refine M 23 λNu xF Qb Dg=>?_;refine zI (λTF=>?_) λTF=>?_
 .rw[if_pos TF] at hR;refine G 3 ?_;obtain⟨_,U,aK,s4,⟨p1,p2,p3,p4,l,rfl,p5,p6,p7⟩,O⟩:=Jh hA bK he hi hg ho O;refine M 3 ?_;rw[hR] at p7;refine ah.ret ⟨rx,_,_,_,rfl,aH (rfl),?_⟩;exact⟨s4,⟨p1,p2,p3,p4,l,rfl,p5,p6,p7⟩,br.ag bj O⟩
 rw[if_neg TF] at hR;refine G 5 ?_;refine zI (λEd=>?_) λEd=>?_
 .rw[if_pos Ed] at hR;refine G 3 ?_;obtain⟨_,U,aK,s4,⟨p1,p2,p3,p4,l,rfl,p5,p6,p7⟩,O⟩:=Js bK he hi hg O;refine M 3 ?_;rw[hR] at p7;refine ah.ret ⟨rx,_,_,_,rfl,aH (rfl),?_⟩;exact⟨s4,⟨p1,p2,p3,p4,l,rfl,p5,p6,p7⟩,br.ag bj O⟩
 rw[if_neg Ed] at hR;refine G 5 ?_;refine zI (λTD=>?_) λTD=>?_
 .rw[if_pos TD] at hR;refine G 3 ?_;obtain⟨_,U,aK,d1,b,s4,rfl,⟨p1,p2,p3,p4,p5⟩,O⟩:=B5 (s:=s) bK he hi O;refine M 7 ?_
  have Pc:∀(U:St) (w:D) (a:List Rg) (kk:Nat),(w=az a\/w=.nul/\a=[])->a.length<=8->(ga af a_ s4\/s4.e=0/\s.i<s4.i/\af=.ok ([FX a],s4.g) s4.i)->S2.bs.length<=kk->Has N S2 U (.ai (.win kk 0 0 1 7) 7 [[.int .i64 2,w,.int .i64 0,.int .i64 0,.bool false,.int .i64 0,.int .i64 0]]::.box k (.mem 0 false (bH gs bP s4))::.ai bP 1 (a_.map av)::H)->∃d R,cZ .rw false Y U (.win kk 0 0 1 7)=some (d,R)/\∃(s':fw),lu gs a_ af s s' d 2/\Has N S R (.box k (.mem 0 false (bH gs bP s'))::.ai bP 1 (a_.map av)::H):=by
   intro U w a kk hw ha p6 A O;have hfz:=gZ O aV (L:=Y.bs.length) hw (λk A=>by simp only[D.ref] at A;rw[<-bj];omega);refine⟨_,_,aH hfz,s4,⟨p1,by omega,by omega,p4,_,rfl,AF (by omega) (by omega),by simp,?_⟩,br.ag bj (O.drop 1)⟩
   rcases p6 with p6|⟨p6,p7,p8⟩
   .exact .inl p6
   .exact .inr ⟨p6,p8,by simp only[γ,ζ];omega⟩
  rcases p5 with⟨p5,rfl⟩|⟨p5,p6,a,p7,rfl,ha,_⟩
  .refine M 7 λk54 U Dp O=>?_;obtain⟨d',R,ng,eX⟩:=Pc _ .nul [] k54 (.inr ⟨rfl,rfl⟩) (by simp) (.inl (p5.map λe w h=>by rw[<-hR,h])) Dp O;refine ah.ret ⟨rx,_,d',R,rfl,ng,eX⟩
  .refine M 7 λk54 U Dp O=>?_;obtain⟨d',R,ng,eX⟩:=Pc _ (az a) a k54 (.inl rfl) ha (.inr ⟨p5,p6,by rw[<-hR,p7,p2]⟩) Dp O;refine ah.ret ⟨rx,_,d',R,rfl,ng,eX⟩
 rw[if_neg TD] at hR;refine G 5 ?_;refine zI (λTE=>?_) λTE=>?_
 .rw[if_pos TE] at hR;refine M 11 λU O=>?_;obtain⟨abe,hla⟩:=HG (Y:=U);refine M (t:=(abe)) 7 λk66 U aaO O=>?_;obtain⟨d',R,ng,eX⟩:=jv _ {s with i:=s.i+1} 2 (az uA) uA k66 (.inl rfl) (by omega) rfl hg (by show s.i<s.i+1;omega) (by show s.i+1<=_;omega) he hR.symm aaO O;refine ah.ret ⟨rx,_,d',R,rfl,ng,eX⟩
 rw[if_neg TE] at hR;refine G 5 ?_;refine zI (λTC=>?_) λTC=>?_
 .rw[if_pos TC] at hR;refine M 13 λU O=>?_;refine qg (d:=.agg [.int .i64 7,.nul,.int .i64 0,.int .i64 0,.bool false,.int .i64 0,.int .i64 0]) ?_;refine M 3 λk77 U aaL O=>?_;obtain⟨d',R,ng,eX⟩:=jv _ {s with i:=s.i+1} 7 .nul [] k77 (.inr ⟨rfl,rfl⟩) (by simp) rfl hg (by show s.i<s.i+1;omega) (by show s.i+1<=_;omega) he hR.symm aaL O;refine ah.ret ⟨rx,_,d',R,rfl,ng,eX⟩
 rw[if_neg TC] at hR;refine G 5 ?_;refine zI (λTG=>?_) λTG=>?_
 .rw[if_pos TG] at hR;refine M 13 λU O=>?_;refine qg (d:=.agg [.int .i64 8,.nul,.int .i64 0,.int .i64 0,.bool false,.int .i64 0,.int .i64 0]) ?_;refine M 3 λk88 U Wd O=>?_;obtain⟨d',R,ng,eX⟩:=jv _ {s with i:=s.i+1} 8 .nul [] k88 (.inr ⟨rfl,rfl⟩) (by simp) rfl hg (by show s.i<s.i+1;omega) (by show s.i+1<=_;omega) he hR.symm Wd O;refine ah.ret ⟨rx,_,d',R,rfl,ng,eX⟩
 rw[if_neg TG] at hR;have hbad:((((g.1:Nat):Int))=42\/(((g.1:Nat):Int))=43\/(((g.1:Nat):Int))=63\/(((g.1:Nat):Int))=41\/(((g.1:Nat):Int))=93\/(((g.1:Nat):Int))=123\/(((g.1:Nat):Int))=125\/(((g.1:Nat):Int))=124)->af=.er 4 s.i:=λh=>by rw[<-hR,if_pos h]
 refine G 6 ?_
 by_cases Th:((g.1:Nat):Int)=42
 .refine vX ?_;refine G 1 ?_;refine vX ?_;refine G 4 ?_;obtain⟨_,U,aK,rfl,s4,hN,O⟩:=hwr _ (hbad (by omega)) O;refine M 4 ?_;exact⟨s4,hN,br.ag bj O⟩
 refine vY ?_;refine G 5 ?_
 by_cases Tf:((g.1:Nat):Int)=43
 .refine vX ?_;refine G 1 ?_;refine vX ?_;refine G 4 ?_;obtain⟨_,U,aK,rfl,s4,hN,O⟩:=hwr _ (hbad (by omega)) O;refine M 4 ?_;exact⟨s4,hN,br.ag bj O⟩
 refine vY ?_;refine G 5 ?_
 by_cases Te:((g.1:Nat):Int)=63
 .refine vX ?_;refine G 1 ?_;refine vX ?_;refine G 4 ?_;obtain⟨_,U,aK,rfl,s4,hN,O⟩:=hwr _ (hbad (by omega)) O;refine M 4 ?_;exact⟨s4,hN,br.ag bj O⟩
 refine vY ?_;refine G 5 ?_
 by_cases Ti:((g.1:Nat):Int)=41
 .refine vX ?_;refine G 1 ?_;refine vX ?_;refine G 4 ?_;obtain⟨_,U,aK,rfl,s4,hN,O⟩:=hwr _ (hbad (by omega)) O;refine M 4 ?_;exact⟨s4,hN,br.ag bj O⟩
 refine vY ?_;refine G 5 ?_
 by_cases Td:((g.1:Nat):Int)=93
 .refine vX ?_;refine G 1 ?_;refine vX ?_;refine G 4 ?_;obtain⟨_,U,aK,rfl,s4,hN,O⟩:=hwr _ (hbad (by omega)) O;refine M 4 ?_;exact⟨s4,hN,br.ag bj O⟩
 refine vY ?_;refine G 5 ?_
 by_cases F2:((g.1:Nat):Int)=123
 .refine vX ?_;refine G 1 ?_;refine vX ?_;refine G 4 ?_;obtain⟨_,U,aK,rfl,s4,hN,O⟩:=hwr _ (hbad (by omega)) O;refine M 4 ?_;exact⟨s4,hN,br.ag bj O⟩
 refine vY ?_;refine G 5 ?_
 by_cases F1:((g.1:Nat):Int)=125
 .refine vX ?_;refine G 1 ?_;refine vX ?_;refine G 4 ?_;obtain⟨_,U,aK,rfl,s4,hN,O⟩:=hwr _ (hbad (by omega)) O;refine M 4 ?_;exact⟨s4,hN,br.ag bj O⟩
 refine vY ?_;refine G 4 ?_
 by_cases Jv:((g.1:Nat):Int)=124
 .refine vX ?_;refine G 4 ?_;obtain⟨_,U,aK,rfl,s4,hN,O⟩:=hwr _ (hbad (by omega)) O;refine M 4 ?_;exact⟨s4,hN,br.ag bj O⟩
 refine vY ?_;rw[if_neg (by omega)] at hR;refine M 11 λU O=>?_;obtain⟨_,mG,_⟩:=o_ (Y:=Y) (x:=az [(((g.1:Nat):Int),((g.1:Nat):Int))]) (l:=[(((g.1:Nat):Int),((g.1:Nat):Int))]) (bC _ _) (by simp);simp only[γ,ζ] at mG;refine M (t:=(lG _)) 8 λk36 U Wl O=>?_;obtain⟨d',R,ng,eX⟩:=jv _ {s with i:=s.i+1} 2 _ (bB [(((g.1:Nat):Int),((g.1:Nat):Int))]) k36 (.inl rfl) (by omega) rfl hg (by show s.i<s.i+1;omega) (by show s.i+1<=_;omega) he hR.symm Wl O;refine ah.ret ⟨rx,_,d',R,rfl,ng,eX⟩
def Gw (hA:∀m',m'+1=m->Gc hk gs m') (bK:oa gs a_) (he:s.e=0) (hi:s.i<gs.length) (hg:s.g<=4) (ho:s.o+m=20) (O:Has N S Y (.box k (.mem 0 false (bH gs bP s))::.ai bP 1 (a_.map av)::H)):
  ∃d R,Ev pv 96 [.ptr k 0 0] Y d R/\∃(s':fw),lu gs a_ (Al hk gs m s.i s.g) s s' d 1/\Has N S R (.box k (.mem 0 false (bH gs bP s'))::.ai bP 1 (a_.map av)::H):=by
 have nS:=bK.gl;have eY:=bK.pl;have br:=O;refine zO abw λS2 bj O=>?_
 obtain⟨af,hR⟩:∃af,Al hk gs m s.i s.g=af:=⟨_,rfl⟩
 rw[hR];unfold Al at hR;refine G 7 ?_;obtain⟨_,U,aK,s1,⟨p1,p2,p3,p4,l,rfl,p5,p6,p7⟩,O⟩:=Na hA bK he hi hg ho O;refine M 12 ?_
 rcases p7 with p7|⟨p7,p9,p8⟩
 .have hne:=p7.ne;refine vX ?_;refine M 5 ?_;exact⟨s1,gN p1 p2 p3 p4 (p7.map λe w h=>by rw[<-hR,h]),br.ag bj O⟩
 rw[p9] at hR;simp only at hR;unfold Ri at hR;refine vY ?_;refine G 3 ?_;refine qg (d:=.agg [.int .i64 5,.nul,.int .i64 0,.int .i64 0,.bool false,.int .i64 0,.int .i64 1]) ?_;refine M 3 λk4 U QA O U O=>?_;have O:Has N S2 U (.box k (.mem 0 false (bH gs bP s1))::.ai bP 1 (a_.map av)::_::H):=sn O;refine qq<|ah.merge (λI U=>∃(mn mx:Int) (s2:fw) (tmp:List (Nat×D)),I=⟨5,[.ptr k 0 0,ay I 1,ay I 2,jO l,.ptr k4 0 0],tmp⟩/\Has N S2 U (.box k (.mem 0 false (bH gs bP s2))::.ai bP 1 (a_.map av)::.box k4 (.mem 0 false [.int .i64 5,.nul,.int .i64 mn,.int .i64 mx,.bool false,.int .i64 0,.int .i64 1])::H)/\(s2.o=s.o)/\(s2.g<=4)/\(s1.i<s2.i)/\(s2.i<=gs.length)/\(ga af a_ s2\/s2.e=0/\af=um gs l s2.g mn mx s2.i)) ?_ ?_
 .refine G 4 ?_;obtain⟨_,U,aK,rfl,O⟩:=fq (s:=s1) (by omega) 42 O;refine M 3 ?_
  cases hb1:cy gs s1.i 42 with
  |true=>
   obtain⟨k1,k2,k3,ZP,k5⟩:=jq (gs:=gs) (s:=s1) (r:=42);have k6:=qY hb1;have k7:=k5 p4;generalize cu gs s1 42=s2 at*;refine M 5 λU O=>?_;exact⟨0,-1,s2,_,rfl,O,by omega,by omega,by omega,k7,.inr ⟨by omega,by rw[<-hR,if_pos hb1,k6,show s2.g=s1.g by omega]⟩⟩
  |false=>
   rw[uL hb1] at O;rw[if_neg (by rw[hb1];simp)] at hR;refine G 4 ?_;obtain⟨_,U,aK,rfl,O⟩:=fq (s:=s1) (by omega) 43 O;refine M 3 ?_
   cases hb2:cy gs s1.i 43 with
   |true=>
    obtain⟨k1,k2,k3,ZP,k5⟩:=jq (gs:=gs) (s:=s1) (r:=43);have k6:=qY hb2;have k7:=k5 p4;generalize cu gs s1 43=s2 at*;refine M 7 λU O U O=>?_;exact⟨1,-1,s2,_,rfl,O,by omega,by omega,by omega,k7,.inr ⟨by omega,by rw[<-hR,if_pos hb2,k6,show s2.g=s1.g by omega]⟩⟩
   |false=>
    rw[uL hb2] at O;rw[if_neg (by rw[hb2];simp)] at hR;refine G 4 ?_;obtain⟨_,U,aK,rfl,O⟩:=fq (s:=s1) (by omega) 63 O;refine M 3 ?_
    cases hb3:cy gs s1.i 63 with
    |true=>
     obtain⟨k1,k2,k3,ZP,k5⟩:=jq (gs:=gs) (s:=s1) (r:=63);have k6:=qY hb3;have k7:=k5 p4;generalize cu gs s1 63=s2 at*;refine M 5 λU O=>?_;exact⟨0,1,s2,_,rfl,O,by omega,by omega,by omega,k7,.inr ⟨by omega,by rw[<-hR,if_pos hb3,k6,show s2.g=s1.g by omega]⟩⟩
    |false=>
     rw[uL hb3] at O;rw[if_neg (by rw[hb3];simp)] at hR;refine G 4 ?_;obtain⟨_,U,aK,rfl,O⟩:=tU (s:=s1) (by omega) 123 O;refine M 3 ?_
     cases hb4:cy gs s1.i 123 with
     |true=>
      have hlt:=dR hb4;refine G 3 ?_;obtain⟨_,U,aK,n1,n2,s2,rfl,⟨⟨m1,m2,m3,m4⟩,m5⟩,O⟩:=Iy bK p7 hlt O;refine M 9 λU O U O=>?_;rw[if_pos hb4] at hR
      have h5:ga af a_ s2\/s2.e=0/\af=um gs l s2.g n1 n2 s2.i:=by
       rcases m5 with m5|⟨m5,m6⟩
       .exact .inl (m5.map λe w h=>by rw[<-hR,h])
       .exact .inr ⟨m5,by rw[<-hR,m6,m2]⟩
      exact⟨n1,n2,s2,_,rfl,O,by omega,by omega,m3,m4,h5⟩
     |false=>
      rw[if_neg (by rw[hb4];simp)] at hR;refine M 7 ?_;exact⟨s1,⟨p1,p2,p3,p4,l,rfl,p5,p6,.inr ⟨p7,hR.symm,by omega⟩⟩,br.ag bj (O.erase 2)⟩
 .rintro I U ⟨mn,mx,s2,tmp,hfr,O,h1,X,h3,h4,h5⟩;refine zK λee=>?_;refine G 9 ?_
  by_cases Bc:s2.e=0
  .refine vY ?_;refine G 1 ?_;obtain⟨k1,k2,k3,ZP,k5⟩:=jq (gs:=gs) (s:=s2) (r:=63);have k7:=k5 h4
   have h6:af=um gs l s2.g mn mx s2.i:=by
    rcases h5 with h5|h5
    .exact absurd Bc h5.ne
    .exact h5.2
   have hsi:(cu gs s2 63).i=if cy gs s2.i 63=true then s2.i+1 else s2.i:=by unfold cu;split<;>rfl
   unfold um at h6;rw[<-hsi] at h6;clear hsi;refine G 3 ?_;obtain⟨_,U,aK,rfl,O⟩:=fq (s:=s2) (by omega) 63 O;refine M 4 λU O=>?_;generalize cu gs s2 63=s3 at*;generalize cy gs s2.i 63=lz at*;have hla:=(iq p5).arg N S2;refine M 5 λk46 U Wi O=>?_;refine u.nU (s:=7) O rfl (ev rfl) (ev rfl) aV ((iq p5).rows U) rfl rfl rfl rfl rfl rfl rfl ⟨(θ rfl),(θ rfl)⟩ (λ_=>(ae rfl _)) (by simp only[ε,γ,ζ];omega) (.inr (oE p5)) (λk A=>by have lx:k46+1=k+1:=A;omega) (λUw U gb O=>?_);dsimp only[u2] at O;refine G 2 ?_;have O:Has N S2 U (.ai Uw 7 ([.int .i64 5,.nul,.int .i64 mn,.int .i64 mx,.bool lz,.int .i64 0,.int .i64 1]::l.map aO)::.box k (.mem 0 false (bH gs bP s3))::.ai bP 1 (a_.map av)::.box k4 (.mem 0 false [.int .i64 5,.nul,.int .i64 mn,.int .i64 mx,.bool lz,.int .i64 0,.int .i64 1])::H):=O
   have hfz:=fV (L:=Y.bs.length) (l:=fk 5 mn mx lz 0 1 []::l) O aV (by rw[ο,oF p5];rfl) (λe he d hd=>by
    rcases ν.1 he with rfl|he
    .simp at hd
     rcases hd with rfl|rfl|rfl|rfl|rfl|rfl|rfl<;>rfl
    .exact lN p5 e he d hd) (λk A=>by rw[<-bj];exact gb k A) (n:=16) (by decide)
   refine ah.ret ⟨rx,_,_,_,rfl,aH hfz,⟨s3,⟨by omega,by omega,by omega,k7,_,rfl,?_,by simp only[γ];omega,.inr ⟨by omega,by rw[h6,show s3.g=s2.g by omega],by simp;omega⟩⟩,br.ag bj ((O.drop 1).erase 2)⟩⟩;intro n hn
   rcases ν.1 hn with rfl|hn
   .exact⟨rfl,by simp[fk],by simp[fk]⟩
   .exact p5 n hn
  .refine vX ?_;refine M 5 ?_;exact⟨s2,gN h1 X (by omega) h4 (h5.resolve_right λh=>Bc h.1),br.ag bj (O.erase 2)⟩
noncomputable def Br (hk:PF) (gs:List (Nat×Nat)) (m:Nat):Nat->Nat->Nat->List (List aQ)->PR (List aQ×Nat)
 |0,i,g,ps=>.ok (cV 3 ps,g) i
 |n+1,i,g,ps=>
  if i<gs.length/\cy gs i 124=false/\(cy gs i 41=false\/m=20) then
   match Al hk gs m i g with
   | .er e w=>.er e w
   | .ok (l,g2) j=>Br hk gs m n j g2 (ps++[l])
  else .ok (cV 3 ps,g) i
noncomputable def DZ (hk:PF) (gs:List (Nat×Nat)) (m i g:Nat):PR (List aQ×Nat):=Br hk gs m (gs.length+1) i g []
noncomputable def uD (hk:PF) (gs:List (Nat×Nat)) (m:Nat):Nat->Nat->Nat->List (List aQ)->PR (List aQ×Nat)
 |0,i,g,ps=>.ok (cV 4 ps,g) i
 |n+1,i,g,ps=>
  if cy gs i 124=true then
   match DZ hk gs m (i+1) g with
   | .er e w=>.er e w
   | .ok (l,g2) j=>uD hk gs m n j g2 (ps++[l])
  else .ok (cV 4 ps,g) i
noncomputable def D9 (hk:PF) (gs:List (Nat×Nat)) (m:Nat):PF:=λi g=>
 match DZ hk gs m i g with
 | .er e w=>.er e w
 | .ok (l,g1) j=>uD hk gs m (gs.length+1) j g1 [l]
noncomputable def xk (gs:List (Nat×Nat)):Nat->PF
 |0=>D9 (λi _=>.er 10 i) gs 0
 |m+1=>D9 (xk gs m) gs (m+1)
variable{hp:Prop}
def T9.zD {hk:Prop} (e:hk->hp:=by intro h;dsimp only[u2,u1,u3,u4,setMany,u5,u6,D.cells,Nat.reduceAdd,bH,bz,av,ak,cU] at h;exact h):hk->hp:=e
def HJ (hA:∀m',m'+1=m->Gc hk gs m') (bK:oa gs a_) (he:s.e=0) (hi:s.i<=gs.length) (hg:s.g<=4) (ho:s.o+m=20) (O:Has N S Y (.box k (.mem 0 false (bH gs bP s))::.ai bP 1 (a_.map av)::H)):
  ∃d R,Ev pv 71 [.ptr k 0 0] Y d R/\∃(s':fw),ve gs a_ (DZ hk gs m s.i s.g) s s' d/\Has N S R (.box k (.mem 0 false (bH gs bP s'))::.ai bP 1 (a_.map av)::H):=by
 have nS:=bK.gl;have eY:=bK.pl;have br:=O;refine zO abS λS2 bj O=>?_
 obtain⟨af,hR⟩:∃af,DZ hk gs m s.i s.g=af:=⟨_,rfl⟩
 rw[hR];unfold DZ at hR;have xq:Arg N S2 2 (gC gs) (gs.map bz):=Arg.pure (λU=>eZ U gs);refine G 8 ?_;have O:Has N S2 S2 (.box k (.mem 0 false (bH gs bP s))::.ai bP 1 (a_.map av)::.ai .nul 1 (([]:List (List aQ)).map cU)::H):=sn (O.cY 1);refine G 2 ?_;refine ah.loop (λmm I U=>∃(s1:fw) (pd:D) (parts:List (List aQ)),I.clean=fL I 4 [(0,.ptr k 0 0),(2,pd)]/\Has N S2 U (.box k (.mem 0 false (bH gs bP s1))::.ai bP 1 (a_.map av)::.ai pd 1 (parts.map cU)::H)/\(s1.o=s.o)/\(s1.g<=4)/\(s.i<=s1.i)/\(s1.i<=gs.length)/\(∀l∈parts,∀n∈l,ki n)/\(df parts+parts.length<=4*(s1.i-s.i)+2)/\(s1.e=0->df parts+parts.length<=4*(s1.i-s.i))/\(ga af a_ s1\/s1.e=0/\∃n,gs.length-s1.i<n/\Br hk gs m n s1.i s1.g parts=af)/\(gs.length-s1.i+(if s1.e=0 then 1 else 0)<=mm)) (gs.length+1) ?_ ?_
 .exact⟨s,.nul,[],rfl,O,rfl,hg,ψ _,hi,λl hl=>(by cases hl),by simp[df],λ_=>by simp[df],.inr ⟨he,gs.length+1,by omega,hR⟩,by split<;>omega⟩
 rintro mm I U ⟨s1,pd,parts,hfr,O,h1,X,h3,h4,h5,h6,h7,h8,sC⟩;rw[hfr];(try dsimp only[fL,fG,ι]);clear hfr;generalize ay I=ee;clear I
 have j9:∀U:St,(ga af a_ s1\/s1.e=0/\af=.ok (cV 3 parts,s1.g) s1.i)->Has N S2 U (.box k (.mem 0 false (bH gs bP s1))::.ai bP 1 (a_.map av)::.ai pd 1 (parts.map cU)::H)->∃d,Ev pv 73 [.int .i64 3,pd] U d U/\ve gs a_ af s s1 d/\∃l,d=jO l:=by
  intro U hv O;obtain⟨aK,j1,j2,j3⟩:=wj 3 (O.rows dh) h5 (by omega) (by omega);refine⟨_,aK,⟨h1,X,h3,h4,cV 3 parts,rfl,j1,?_,hv⟩,_,rfl⟩
  by_cases q1:parts.length=1
  .have:=j2 q1;omega
  .by_cases q0:parts.length=0
   .have:parts=[]:=ς.1 q0;rw[this];show 1<=_;omega
   .omega
 by_cases he1:s1.e=0
 .obtain⟨n,sB,dZ⟩:=(h8.resolve_left λh=>absurd he1 h.ne).2
  obtain⟨n,rfl⟩:∃m,n=m+1:=⟨n-1,by omega⟩
  unfold Br at dZ;rw[if_pos he1] at sC;have h7:=h7 he1;have iF:(s1.e==0)=true:=by simpa using he1
  by_cases hlt:s1.i<gs.length
  .have aL:decide (((s1.i:Nat):Int)<((gs.length:Nat):Int))=true:=by rw[decide_eq_true_eq];omega
   cases aZ:(!cy gs s1.i 124) with
   |false=>
    refine G 17 ?_;refine qn ?_ (hg:=wi iF);simp only[ε];refine G 4 ?_;obtain⟨_,U,aK,rfl,O⟩:=tU (s:=s1) (by omega) 124 O;refine qv aK ?_ (hg:=wi aL);refine G 17 ?_;obtain⟨_,wG,hQ,l,rfl⟩:=j9 _ (.inr ⟨he1,by rw[<-dZ,if_neg (λh=>by rw[h.2.1] at aZ;simp at aZ)]⟩) O;refine G 3 ?_;refine qv (wG) ?_;refine G 2 ?_;refine ah.ret ⟨rx,_,_,_,rfl,aH (rfl),?_⟩;exact⟨s1,hQ,br.ag bj (O.erase 2)⟩
   |true=>
    cases bM:cy gs s1.i 41 with
    |false=>
     refine G 17 ?_;refine qn ?_ (hg:=wi iF);simp only[ε];refine G 4 ?_;obtain⟨_,U,aK,rfl,O⟩:=tU (s:=s1) (by omega) 124 O;refine qv aK ?_ (hg:=wi aL);refine G 4 ?_;obtain⟨_,U,aK,rfl,O⟩:=tU (s:=s1) (by omega) 41 O;refine qv aK ?_ (hg:=wi aZ);refine M 13 ?_;rw[if_pos ⟨hlt,by simpa using aZ,.inl bM⟩] at dZ;refine G 3 ?_;obtain⟨_,U,aK,s2,⟨r1,r2,r3,r4,l,rfl,r5,r6,r7⟩,O⟩:=Gw hA bK (s:=s1) he1 hlt X (by omega) O;refine qv aK ?_;refine qh (s:=1) (vs:=[_]) O λk41 U Wj O=>?_;dsimp[u2,u1,u3,u4,setMany,u5,u6,D.cells,ι,bH,bz,av,ak,cU] at O;refine yH O d_ (by exact O.rows (by exact aV)) (by simp only[γ,ζ,ε]<;>omega) λUx U O=>?_;dsimp at O;refine G 2 ?_;have O:=O.drop 1
     have r8:s2.e=0->l.length+1<=4*(s2.i-s1.i):=λe=>by
      rcases r7 with r7|r7
      .exact absurd e r7.ne
      .exact r7.2.2
     have r9:ga af a_ s2\/s2.e=0/\∃n,gs.length-s2.i<n/\Br hk gs m n s2.i s2.g (parts++[l])=af:=by
      rcases r7 with r7|⟨r7,P8,Zk⟩
      .exact .inl (r7.map λe w h=>by rw[<-dZ,h])
      .rw[P8] at dZ;exact .inr ⟨r7,n,by omega,dZ⟩
     have UR:gs.length-s2.i+(if s2.e=0 then 1 else 0)<=mm-1:=by
      by_cases e:s2.e=0
      .have:=r8 e;rw[if_pos e];omega
      .rw[if_neg e];omega
     refine⟨mm-1,by omega,⟨s2,Ux,parts++[l],rfl,(by rw[η];exact O),by omega,r2,by omega,r4,?_,by rw[cz,δ];simp only[df,γ,ζ];omega,(λe=>by have:=r8 e;rw[cz,δ];simp only[df,γ,ζ];omega),r9,UR⟩⟩;intro l' iv
     rcases ξ.1 iv with iv|iv
     .exact h5 l' iv
     .simp at iv;subst iv;exact r5
    |true=>
     refine G 17 ?_;refine qn ?_ (hg:=wi iF);simp only[ε];refine G 4 ?_;obtain⟨_,U,aK,rfl,O⟩:=tU (s:=s1) (by omega) 124 O;refine qv aK ?_ (hg:=wi aL);refine G 4 ?_;obtain⟨_,U,aK,rfl,O⟩:=tU (s:=s1) (by omega) 41 O;refine qv aK ?_ (hg:=wi aZ);refine M 10 ?_
     by_cases hop:0<s1.o
     .have c_:(!decide (((s1.o:Nat):Int)>0))=false:=by rw[decide_eq_true (by omega)];rfl
      refine vY ?_;refine G 1 ?_;obtain⟨_,wG,hQ,l,rfl⟩:=j9 _ (.inr ⟨he1,by rw[<-dZ,if_neg (λh=>by rcases h.2.2 with h|h;rw[bM] at h;exact absurd h (by simp);omega)]⟩) O;refine M (t:=(wG)) 7 ?_;exact⟨s1,hQ,br.ag bj (O.erase 2)⟩
     .have c_:(!decide (((s1.o:Nat):Int)>0))=true:=by rw[decide_eq_false (by omega)];rfl
      refine vX ?_;refine G 2 ?_;rw[if_pos ⟨hlt,by simpa using aZ,.inr (by omega)⟩] at dZ;refine G 3 ?_;obtain⟨_,U,aK,s2,⟨r1,r2,r3,r4,l,rfl,r5,r6,r7⟩,O⟩:=Gw hA bK (s:=s1) he1 hlt X (by omega) O;refine M 5 λk41 U Wj O Ux U O=>?_;have O:=O.drop 1
      have r8:s2.e=0->l.length+1<=4*(s2.i-s1.i):=λe=>by
       rcases r7 with r7|r7
       .exact absurd e r7.ne
       .exact r7.2.2
      have r9:ga af a_ s2\/s2.e=0/\∃n,gs.length-s2.i<n/\Br hk gs m n s2.i s2.g (parts++[l])=af:=by
       rcases r7 with r7|⟨r7,P8,Zk⟩
       .exact .inl (r7.map λe w h=>by rw[<-dZ,h])
       .rw[P8] at dZ;exact .inr ⟨r7,n,by omega,dZ⟩
      have UR:gs.length-s2.i+(if s2.e=0 then 1 else 0)<=mm-1:=by
       by_cases e:s2.e=0
       .have:=r8 e;rw[if_pos e];omega
       .rw[if_neg e];omega
      refine⟨mm-1,by omega,⟨s2,Ux,parts++[l],rfl,(by rw[η];exact O),by omega,r2,by omega,r4,?_,by rw[cz,δ];simp only[df,γ,ζ];omega,(λe=>by have:=r8 e;rw[cz,δ];simp only[df,γ,ζ];omega),r9,UR⟩⟩;intro l' iv
      rcases ξ.1 iv with iv|iv
      .exact h5 l' iv
      .simp at iv;subst iv;exact r5
  .have aL:decide (((s1.i:Nat):Int)<((gs.length:Nat):Int))=false:=by rw[decide_eq_false_iff_not];omega
   refine G 17 ?_;refine qn ?_ (hg:=wi iF);simp only[ε];refine G 22 ?_;obtain⟨_,wG,hQ,l,rfl⟩:=j9 _ (.inr ⟨he1,by rw[<-dZ,if_neg (λh=>hlt h.1)]⟩) O;refine G 3 ?_;refine qv (wG) ?_;refine G 2 ?_;refine ah.ret ⟨rx,_,_,_,rfl,aH (rfl),?_⟩;exact⟨s1,hQ,br.ag bj (O.erase 2)⟩
 .have iF:(s1.e==0)=false:=by simpa using he1
  refine G 40 ?_;obtain⟨_,wG,hQ,l,rfl⟩:=j9 _ (.inl (h8.resolve_right λh=>he1 h.1)) O;refine M (t:=(wG)) 7 ?_;exact⟨s1,hQ,br.ag bj (O.erase 2)⟩
def HS (hA:∀m',m'+1=m->Gc hk gs m'):Gc (D9 hk gs m) gs m:=by
 open T9 in
 intro N k S Y H bP a_ s bK he hi hg ho O;have nS:=bK.gl;have eY:=bK.pl;have br:=O;refine zO aci λS2 bj O=>?_
 obtain⟨af,hR⟩:∃af,D9 hk gs m s.i s.g=af:=⟨_,rfl⟩
 rw[hR];unfold D9 at hR;refine G 7 ?_;obtain⟨_,U,aK,s1,⟨p1,p2,p3,p4,l,rfl,p5,p6,p7⟩,O⟩:=HJ hA bK he hi hg ho O;refine M 4 λk6 U L' O=>?_
 have h80:ga af a_ s1\/s1.e=0/\∃n,gs.length-s1.i<n/\uD hk gs m n s1.i s1.g [l]=af:=by
  rcases p7 with p7|⟨p7,TI⟩
  .exact .inl (p7.map λe w h=>by rw[<-hR,h])
  .rw[TI] at hR;exact .inr ⟨p7,_,by omega,hR⟩
 have O:Has N S2 U (.box k (.mem 0 false (bH gs bP s1))::.ai bP 1 (a_.map av)::.ai (.win k6 0 0 1 1) 1 ([l].map cU)::H):=sn O;refine G 2 ?_;refine ah.loop (λmm I U=>∃(s1:fw) (pd:D) (parts:List (List aQ)),I.clean=fL I 4 [(0,.ptr k 0 0),(2,pd)]/\Has N S2 U (.box k (.mem 0 false (bH gs bP s1))::.ai bP 1 (a_.map av)::.ai pd 1 (parts.map cU)::H)/\(s1.o=s.o)/\(s1.g<=4)/\(s.i<=s1.i)/\(s1.i<=gs.length)/\(∀l∈parts,∀n∈l,ki n)/\(df parts+3*parts.length<=4*(s1.i-s.i)+4)/\(1<=parts.length)/\(ga af a_ s1\/s1.e=0/\∃n,gs.length-s1.i<n/\uD hk gs m n s1.i s1.g parts=af)/\(gs.length-s1.i<=mm)) (gs.length) ?_ ?_
 .exact⟨s1,.win k6 0 0 1 1,[l],rfl,O,p1,p2,p3,p4,(λl' iv=>by simp at iv;subst iv;exact p5),by simp only[df,γ,ζ];omega,by simp,h80,by omega⟩
 rintro mm I U ⟨s1,pd,parts,hfr,O,h1,X,h3,h4,h5,h6,h8,h9,sC⟩;rw[hfr];(try dsimp only[fL,fG,ι]);clear hfr;generalize ay I=ee;clear I
 have j9:∀U:St,(ga af a_ s1\/s1.e=0/\af=.ok (cV 4 parts,s1.g) s1.i)->Has N S2 U (.box k (.mem 0 false (bH gs bP s1))::.ai bP 1 (a_.map av)::.ai pd 1 (parts.map cU)::H)->∃d,Ev pv 73 [.int .i64 4,pd] U d U/\ve gs a_ af s s1 d/\∃l,d=jO l:=by
  intro U hv O;obtain⟨aK,j1,j2,j3⟩:=wj 4 (O.rows dh) h5 (by omega) (by omega);refine⟨_,aK,⟨h1,X,h3,h4,cV 4 parts,rfl,j1,?_,hv⟩,_,rfl⟩
  by_cases q1:parts.length=1
  .have:=j2 q1;omega
  .omega
 by_cases he1:s1.e=0
 .obtain⟨n,sB,dZ⟩:=(h9.resolve_left λh=>absurd he1 h.ne).2
  obtain⟨n,rfl⟩:∃m,n=m+1:=⟨n-1,by omega⟩
  unfold uD at dZ;have iF:(s1.e==0)=true:=by simpa using he1
  obtain⟨k1,k2,k3,k4,k5⟩:=jq (gs:=gs) (s:=s1) (r:=124);have k5:=k5 h4;refine G 10 ?_;obtain⟨_,U,aK,rfl,O⟩:=fq (s:=s1) (by omega) 124 O;refine M 3 ?_
  cases F:cy gs s1.i 124 with
  |false=>
   rw[uL F] at O;refine G 2 ?_;obtain⟨_,wG,hQ,l,rfl⟩:=j9 _ (.inr ⟨he1,by rw[<-dZ,if_neg (by rw[F];simp)]⟩) O;refine M (t:=(wG)) 7 ?_;exact⟨s1,hQ,br.ag bj (O.erase 2)⟩
  |true=>
   have k6:=qY F;rw[if_pos F] at dZ;generalize cu gs s1 124=s2 at*;refine G 6 ?_;obtain⟨_,U,aK,s3,⟨r1,r2,r3,r4,l,rfl,r5,r6,r7⟩,O⟩:=HJ hA bK (s:=s2) (by omega) k5 (by omega) (by omega) O;refine M 5 λk19 U aej O NK U O=>?_;have O:=O.drop 1;rw[k6,show s2.g=s1.g by omega] at r7
   have r9:ga af a_ s3\/s3.e=0/\∃n,gs.length-s3.i<n/\uD hk gs m n s3.i s3.g (parts++[l])=af:=by
    rcases r7 with r7|⟨r7,P8⟩
    .exact .inl (r7.map λe w h=>by rw[<-dZ,h])
    .rw[P8] at dZ;exact .inr ⟨r7,n,by omega,dZ⟩
   refine⟨mm-1,by omega,⟨s3,NK,parts++[l],rfl,(by rw[η];exact O),by omega,r2,by omega,r4,?_,by rw[cz,δ];simp only[df,γ,ζ];omega,by rw[δ];omega,r9,by omega⟩⟩;intro l' iv
   rcases ξ.1 iv with iv|iv
   .exact h5 l' iv
   .simp at iv;subst iv;exact r5
 .have iF:(s1.e==0)=false:=by simpa using he1
  refine G 15 ?_;obtain⟨_,wG,hQ,l,rfl⟩:=j9 _ (.inl (h9.resolve_right λh=>he1 h.1)) O;refine M (t:=(wG)) 7 ?_;exact⟨s1,hQ,br.ag bj (O.erase 2)⟩
def PS (gs:List (Nat×Nat)) (m:Nat):Gc (xk gs m) gs m:=by
 induction m with
 |zero=>exact HS (λm' h=>by omega)
 |succ m ih=>exact HS (λm' h=>by cases h;exact@ih)
def As:List (Nat×Nat)->Nat->List Int
 |[],_=>[]
 |q::l,a=>((a:Nat):Int)::As l (a+q.2)
noncomputable def E6 (gs:List (Nat×Nat)) (af:PR (List aQ×Nat)):List aQ×Int×Int:=
 match af with
 | .er e w=>([],e,(As gs 0).getD w 0)
 | .ok (l,_) j=>if j<gs.length then([],4,(As gs 0).getD j 0) else(l,0,0)
noncomputable def aT (b:List UInt8):List aQ×Int×Int:=
 if 120<b.length then([],2,0) else E6 (mP b) (xk (mP b) 20 0 0)
def KV (q:List aQ×Int×Int):D:=.tup [jO q.1,.int .i64 q.2.1,.int .i64 q.2.2]
def T8.zD {hk:Prop} (e:hk->hp:=by intro h;dsimp only[u2,u1,u3,u4,setMany,u5,u6,D.cells,Nat.reduceAdd,bH,bz,av] at h;exact h):hk->hp:=e
def jN {b:List UInt8} (hbl:b.length<=1048576):Ev pv 18 [.str b] Y (KV (aT b)) Y/\(∀n∈(aT b).1,ki n)/\(aT b).1.length<=500:=by
 open T8 in
 suffices hg:∃d,Ev pv 18 [.str b] Y d Y/\d=KV (aT b)/\(∀n∈(aT b).1,ki n)/\(aT b).1.length<=500 by
  obtain⟨d,h1,rfl,X⟩:=hg;exact⟨h1,X⟩
 obtain⟨h2,hX⟩:∃h2,aT b=h2:=⟨_,rfl⟩
 rw[hX];unfold aT at hX;obtain⟨nS,hgs⟩:=D' _ b (ψ _);have aK:∀(U:St) (x:D),Bytes U x b->Ev pv 41 [x] U (gC (mP b)) U:=λU x h=>Tp h hbl;generalize mP b=gs at*;refine zM acC λS aP hF O=>?_;have xq:Arg Y.bs.length S 2 (gC gs) (gs.map bz):=Arg.pure (λU=>eZ U gs);refine M 13 ?_
 by_cases Dn:120<b.length
 .have c_:decide (((b.length:Nat):Int)>120)=true:=by rw[decide_eq_true_eq];omega
  refine vX ?_;refine M 7 ?_;rw[if_pos Dn] at hX;rw[<-hX];exact⟨rfl,λn hn=>(by cases hn),by simp⟩
 rw[if_neg Dn] at hX;have c_:decide (((b.length:Nat):Int)>120)=false:=by rw[decide_eq_false_iff_not];omega
 refine vY ?_;refine G 4 ?_;refine u.Mj O rfl rfl rfl rfl rfl (by omega) (λ_=>by dsimp<;>rfl) (λk14 U Sn O=>?_);refine qv ((aK _ _ (O.rows aV))) ?_;refine u.go (d:=.agg [gC gs,.nul,.int .i64 0,.int .i64 0,.int .i64 0,.int .i64 0,.int .i64 0]) (st1:=_) rfl rfl rfl (by dsimp<;>rfl) ?_;refine qb O λk17 U Sm O=>?_;refine G 13 ?_;refine qn ?_;simp only[ε];refine G 2 ?_;have O:Has Y.bs.length S U (_::.ai .nul 1 (([]:List Int).map av)::[]):=((O.erase 1).cY 1).front bf;refine G 1 ?_;refine ah.loop (λmm I U=>∃(i a:Nat) (pd:D) (a_:List Int),I.clean=fL I 24 [(5,.ptr k17 0 0),(0,.int .i64 (a:Nat)),(14,gC gs),(0,.int .i64 (gs.length:Nat)),(0,.int .i64 (i:Nat))]/\Has Y.bs.length S U [.box k17 (.mem 0 false [gC gs,pd,.int .i64 0,.int .i64 0,.int .i64 0,.int .i64 0,.int .i64 0]),.ai pd 1 (a_.map av)]/\(i+mm=gs.length)/\(a_.length=i)/\(a_++As (gs.drop i) a=As gs 0)/\(a<=120*i)) (gs.length) ?_ ?_
 .exact⟨0,0,.nul,[],rfl,O,by omega,rfl,rfl,by omega⟩
 rintro mm I U ⟨i,a,pd,a_,hfr,O,hi,eY,AW,ha⟩;refine zK λee=>?_;refine G 4 ?_
 by_cases hlt:i<gs.length
 .obtain⟨g,hg⟩:∃g,gs[i]?=some g:=⟨gs[i]'hlt,μ _⟩
  have dO:(gs.map bz)[i]?=some (bz g):=by rw[π,hg];rfl
  have ba:=hgs g (κ hg)
  have qd:gs.drop i=g::gs.drop (i+1):=by
   have:=ρ (l:=gs) (i:=i) hlt;rw[this];congr 1;rw[μ hlt] at hg;exact Option.some.inj hg
  rw[qd] at AW
  have AW:(a_++[((a:Nat):Int)])++As (gs.drop (i+1)) (a+g.2)=As gs 0:=by
   rw[List.append_assoc];exact AW
  have h_:decide (((i:Nat):Int)<((gs.length:Nat):Int))=true:=by rw[decide_eq_true_eq];omega
  refine qq<|vX ?_;refine M 22 λU0 LU k8 U O' O U O k33 U Sl O QU U O=>?_;refine qT O dh (λU O=>?_) (hcs:=O.dv d_);dsimp[u2,u1,u3,u4,setMany,u5,u6,D.cells,ι,bH,bz,av] at O;refine M 12 ?_;exact⟨mm-1,by omega,i+1,a+g.2,QU,a_++[((a:Nat):Int)],rfl,(by rw[η];exact O.drop 2),by omega,by rw[δ,eY];rfl,AW,by omega⟩
 .have h_:decide (((i:Nat):Int)<((gs.length:Nat):Int))=false:=by rw[decide_eq_false_iff_not];omega
  refine qq<|vY ?_;refine G 1 ?_
  have bK:oa gs a_:=⟨by omega,by omega⟩
  have AW:a_=As gs 0:=by
   rw[List.drop_eq_nil_of_le (by omega)] at AW;rw[<-AW];simp[As]
  have O:Has Y.bs.length S U (.box k17 (.mem 0 false (bH gs pd ⟨0,0,0,0,0⟩))::.ai pd 1 (a_.map av)::[]):=O;refine G 3 ?_;obtain⟨_,U,aK,s1,⟨p1,p2,p3,p4,l,rfl,p5,p6,p7⟩,O⟩:=PS gs 20 (s:=⟨0,0,0,0,0⟩) bK rfl (by simp) (by simp) rfl O;refine M 3 ?_;have p6:l.length<=4*(s1.i-0)+1:=p6;have p7:ga (xk gs 20 0 0) a_ s1\/s1.e=0/\xk gs 20 0 0=.ok (l,s1.g) s1.i:=p7;generalize xk gs 20 0 0=af at*;unfold E6 at hX;rw[<-AW] at hX;refine G 2 ?_;refine ah.ir (λI U=>∃(s2:fw) (tmp:List (Nat×D)),I=⟨24,[ay I 0,ay I 1,ay I 2,ay I 3,ay I 4,.ptr k17 0 0,ay I 6,ay I 7,ay I 8,jO l,ay I 10,ay I 11,ay I 12,ay I 13,ay I 14,ay I 15,ay I 16,ay I 17,ay I 18,ay I 19,ay I 20,ay I 21,ay I 22,ay I 23],tmp⟩/\Has Y.bs.length S U (.box k17 (.mem 0 false (bH gs pd s2))::.ai pd 1 (a_.map av)::[])/\(s2.e≠0/\h2=([],s2.e,s2.w)\/s2.e=0/\h2=(l,0,0))) ?_ ?_
  .by_cases he1:s1.e=0
   .have iF:(s1.e==0)=true:=by simpa using he1
    have hR:af=.ok (l,s1.g) s1.i:=by
     rcases p7 with p7|p7
     .exact absurd he1 p7.ne
     .exact p7.2
    rw[hR] at hX;simp only at hX;refine G 15 ?_;refine qn ?_ (hg:=wi iF);simp only[ε];refine G 3 ?_;refine zP (λhin=>?_) λhin=>?_
    .refine G 6 ?_;obtain⟨_,U,aK,rfl,O⟩:=fK (s:=s1) s1.i 4 (by omega) O;refine qv aK ?_;refine G 1 ?_;rw[if_pos (by omega)] at hX;have hw:(kV a_ s1 s1.i 4).e=4/\(kV a_ s1 s1.i 4).w=a_.getD s1.i 0:=by unfold kV;rw[if_pos he1];exact⟨rfl,rfl⟩
     exact⟨_,_,rfl,O,.inl ⟨by rw[hw.1];decide,by rw[hw.1,hw.2];exact hX.symm⟩⟩
    .rw[if_neg (by omega)] at hX;refine G 1 ?_;exact⟨s1,_,rfl,O,.inr ⟨he1,hX.symm⟩⟩
   .have iF:(s1.e==0)=false:=by simpa using he1
    refine G 19 ?_
    have hE:h2=([],s1.e,s1.w):=by
     obtain⟨e,w,h0,h1,X,h3⟩:=p7.resolve_right λh=>he1 h.1;rw[h0] at hX;rw[<-hX,X,h3]
    refine G 2 ?_;exact⟨s1,_,rfl,O,.inl ⟨he1,hE⟩⟩
  .rintro I U ⟨s2,tmp,hfr,O,ht⟩;refine zK λee=>?_;refine G 9 ?_;refine ah.cond (by rfl) (λhne=>?_) (λhne=>?_)<;>try simp at hne
   .refine M 15 ?_
    rcases ht with⟨h1,X⟩|⟨h1,X⟩
    .rw[X];exact⟨rfl,λn hn=>(by cases hn),by simp⟩
    .exact absurd h1 hne
   .refine M 9 ?_
    rcases ht with⟨h1,X⟩|⟨h1,X⟩
    .exact absurd h1 (by omega)
    .rw[X];exact⟨rfl,p5,by show l.length<=500;omega⟩
def uq (c:Int):Bool:=decide (c>=97) &&decide (c<=122)||decide (c>=65) &&decide (c<=90)||decide (c>=48) &&decide (c<=57)||c==45||c==95||c==46
def jA (s:List UInt8):Bool:=!(s==[]) &&decide (s.length<=32) &&s.all λc=>uq (c.toNat:Nat)
variable{i:Nat}
def Hb {t:TypeId} (ht:pv.cF t=some .string) {s:List UInt8} {c:UInt8} (h:s[i]?=some c):s8 pv t (.str s) (.int .i64 (i:Nat))=some (.int .u8 (c.toNat:Nat)):=by
 unfold s8;simp only[ht];rw[if_pos (by omega),Int.toNat_natCast,h];rfl
def Li {s:List UInt8} (hl:s.length<=1048576):Ev pv 39 [.str s] Y (.bool (jA s)) Y:=by
 refine zM ack λS aP hF O=>?_;refine G 6 ?_;refine ah.ni 12 (.bool ((s==[])||decide (((s.length:Nat):Int)>32))) [6,7,8,9,10,11] ?_ (λff tmp=>?_)
 .refine G 3 ?_;refine y2 8 (λba=>?_) λba=>?_
  .refine M 6 ?_
   all_goals(simp[ba];done)
  .refine G 1 ?_;refine u.B3 (wi ba) rfl rfl (by dsimp<;>rfl) ?_;refine M 4 ?_
   all_goals(simp[ba];done)
 dsimp only[aC,List.foldl,nth,u2,u1];generalize ff 6=e6;generalize ff 7=e7;generalize ff 8=e8;generalize ff 9=e9;generalize ff 10=e10;generalize ff 11=e11
 by_cases h1:s≠[]/\s.length<=32
 .have hc:((s==[])||decide (((s.length:Nat):Int)>32))=false:=by
   rw[Bool.or_eq_false_iff];exact⟨by simpa using h1.1,by rw[decide_eq_false_iff_not];omega⟩
  have hn:jA s=s.all λc=>uq (c.toNat:Nat):=by
   unfold jA;rw[decide_eq_true h1.2];simp[h1.1]
  rw[hn];refine vY ?_;refine M 9 ?_;refine ah.loop (λmm I U=>∃(i:Nat),I.clean=fL I 16 [(0,.str s),(13,.int .i64 (s.length:Nat)),(0,.int .i64 (i:Nat))]/\Has Y.bs.length S U []/\(i+mm=s.length)/\((s.take i).all (λc=>uq (c.toNat:Nat))=true)) (s.length) ?_ ?_
  .exact⟨0,rfl,O,by omega,rfl⟩
  rintro mm I U ⟨i,hfr,O,hi,ht⟩;refine zK λee=>?_;refine G 5 ?_;refine zP (λX=>?_) λX=>?_
  .refine G 1 ?_
   obtain⟨c,hc⟩:=gx (l:=s) (i:=i)
   refine G 11 ?_;refine u.go (d:=.int .u8 (c.toNat:Nat)) (st1:=_) rfl rfl (by exact congrArg (Option.map λd=>(d,_)) (Hb rfl hc)) (ae rfl _) ?_;refine G 3 ?_;refine ah.ni 5 (.bool (decide (((c.toNat:Nat):Int)>=97) &&decide (((c.toNat:Nat):Int)<=122)||decide (((c.toNat:Nat):Int)>=65) &&decide (((c.toNat:Nat):Int)<=90)||decide (((c.toNat:Nat):Int)>=48) &&decide (((c.toNat:Nat):Int)<=57)||((c.toNat:Nat):Int)==45||((c.toNat:Nat):Int)==95||((c.toNat:Nat):Int)==46)) [] ?_ (λff tmp=>?_)
   .refine G 3 ?_;refine y2 23 (λba=>?_) λba=>?_
    .refine G 4 ?_;refine y2 27 (λfI=>?_) λfI=>?_
     .refine M 30 ?_
      all_goals(simp[ba,fI];done)
     .refine G 3 ?_;refine y2 30 (λb6=>?_) λb6=>?_
      .refine M 5 ?_;refine y2 35 (λbL=>?_) λbL=>?_
       .refine M 22 ?_
        all_goals(simp[ba,fI,b6,bL];done)
       .refine G 3 ?_;refine y2 38 (λaL=>?_) λaL=>?_
        .refine M 5 ?_;refine y2 43 (λaZ=>?_) λaZ=>?_
         .refine M 14 ?_
          all_goals(simp[ba,fI,b6,bL,aL,aZ];done)
         .refine G 4 ?_;refine y2 47 (λbG=>?_) λbG=>?_
          .refine M 10 ?_
           all_goals(simp[ba,fI,b6,bL,aL,aZ,bG];done)
          .refine G 4 ?_;refine y2 51 (λcw=>?_) λcw=>?_
           .refine M 6 ?_
            all_goals(simp[ba,fI,b6,bL,aL,aZ,bG,cw];done)
           .refine M 6 ?_
            all_goals(simp[ba,fI,b6,bL,aL,aZ,bG,cw];done)
        .refine M 9 ?_;refine y2 47 (λbG=>?_) λbG=>?_
         .refine M 10 ?_
          all_goals(simp[ba,fI,b6,bL,aL,bG];done)
         .refine G 4 ?_;refine y2 51 (λcw=>?_) λcw=>?_
          .refine M 6 ?_
           all_goals(simp[ba,fI,b6,bL,aL,bG,cw];done)
          .refine M 6 ?_
           all_goals(simp[ba,fI,b6,bL,aL,bG,cw];done)
      .refine M 8 ?_;refine y2 38 (λaL=>?_) λaL=>?_
       .refine G 5 ?_;refine y2 43 (λaZ=>?_) λaZ=>?_
        .refine M 14 ?_
         all_goals(simp[ba,fI,b6,aL,aZ];done)
        .refine G 4 ?_;refine y2 47 (λbG=>?_) λbG=>?_
         .refine M 10 ?_
          all_goals(simp[ba,fI,b6,aL,aZ,bG];done)
         .refine G 4 ?_;refine y2 51 (λcw=>?_) λcw=>?_
          .refine M 6 ?_
           all_goals(simp[ba,fI,b6,aL,aZ,bG,cw];done)
          .refine M 6 ?_
           all_goals(simp[ba,fI,b6,aL,aZ,bG,cw];done)
       .refine G 9 ?_;refine y2 47 (λbG=>?_) λbG=>?_
        .refine M 10 ?_
         all_goals(simp[ba,fI,b6,aL,bG];done)
        .refine G 4 ?_;refine y2 51 (λcw=>?_) λcw=>?_
         .refine M 6 ?_
          all_goals(simp[ba,fI,b6,aL,bG,cw];done)
         .refine M 6 ?_
          all_goals(simp[ba,fI,b6,aL,bG,cw];done)
    .refine G 7 ?_;refine y2 30 (λb6=>?_) λb6=>?_
     .refine G 5 ?_;refine y2 35 (λbL=>?_) λbL=>?_
      .refine M 22 ?_
       all_goals(simp[ba,b6,bL];done)
      .refine G 3 ?_;refine y2 38 (λaL=>?_) λaL=>?_
       .refine M 5 ?_;refine y2 43 (λaZ=>?_) λaZ=>?_
        .refine M 14 ?_
         all_goals(simp[ba,b6,bL,aL,aZ];done)
        .refine G 4 ?_;refine y2 47 (λbG=>?_) λbG=>?_
         .refine M 10 ?_
          all_goals(simp[ba,b6,bL,aL,aZ,bG];done)
         .refine G 4 ?_;refine y2 51 (λcw=>?_) λcw=>?_
          .refine M 6 ?_
           all_goals(simp[ba,b6,bL,aL,aZ,bG,cw];done)
          .refine M 6 ?_
           all_goals(simp[ba,b6,bL,aL,aZ,bG,cw];done)
       .refine M 9 ?_;refine y2 47 (λbG=>?_) λbG=>?_
        .refine M 10 ?_
         all_goals(simp[ba,b6,bL,aL,bG];done)
        .refine G 4 ?_;refine y2 51 (λcw=>?_) λcw=>?_
         .refine M 6 ?_
          all_goals(simp[ba,b6,bL,aL,bG,cw];done)
         .refine M 6 ?_
          all_goals(simp[ba,b6,bL,aL,bG,cw];done)
     .refine G 8 ?_;refine y2 38 (λaL=>?_) λaL=>?_
      .refine G 5 ?_;refine y2 43 (λaZ=>?_) λaZ=>?_
       .refine M 14 ?_
        all_goals(simp[ba,b6,aL,aZ];done)
       .refine G 4 ?_;refine y2 47 (λbG=>?_) λbG=>?_
        .refine M 10 ?_
         all_goals(simp[ba,b6,aL,aZ,bG];done)
        .refine G 4 ?_;refine y2 51 (λcw=>?_) λcw=>?_
         .refine M 6 ?_
          all_goals(simp[ba,b6,aL,aZ,bG,cw];done)
         .refine M 6 ?_
          all_goals(simp[ba,b6,aL,aZ,bG,cw];done)
      .refine G 9 ?_;refine y2 47 (λbG=>?_) λbG=>?_
       .refine M 10 ?_
        all_goals(simp[ba,b6,aL,bG];done)
       .refine G 4 ?_;refine y2 51 (λcw=>?_) λcw=>?_
        .refine M 6 ?_
         all_goals(simp[ba,b6,aL,bG,cw];done)
        .refine M 6 ?_
         all_goals(simp[ba,b6,aL,bG,cw];done)
   refine zG ?_;have Qw:(decide (((c.toNat:Nat):Int)>=97) &&decide (((c.toNat:Nat):Int)<=122)||decide (((c.toNat:Nat):Int)>=65) &&decide (((c.toNat:Nat):Int)<=90)||decide (((c.toNat:Nat):Int)>=48) &&decide (((c.toNat:Nat):Int)<=57)||((c.toNat:Nat):Int)==45||((c.toNat:Nat):Int)==95||((c.toNat:Nat):Int)==46)=uq (c.toNat:Nat):=rfl;refine G 5 ?_
   cases F:uq (c.toNat:Nat) with
   |true=>
    refine ah.cond (v:=false) (by dsimp[Fr.ev,Fr.get,nth,V.look];(rw[Qw,F];rfl)) (λh=>by cases h) (λ_=>?_);refine G 5 ?_;exact⟨mm-1,by omega,i+1,rfl,O,by omega,(by rw[φ,hc,List.all_append,ht];simp[F])⟩
   |false=>
    refine ah.cond (v:=true) (by dsimp[Fr.ev,Fr.get,nth,V.look];(rw[Qw,F];rfl)) (λ_=>?_) (λh=>by cases h);refine G 4 ?_;have hf:(s.all λc=>uq (c.toNat:Nat))=false:=by rw[List.all_eq_false];exact⟨c,κ hc,by rw[F];simp⟩
    rw[hf];exact M 0 trivial
  .refine G 5 ?_;rw[List.take_of_length_le (by omega)] at ht;rw[ht];exact M 0 trivial
 .have hc:((s==[])||decide (((s.length:Nat):Int)>32))=true:=by
   rw[Bool.or_eq_true,decide_eq_true_eq]
   by_cases X:s=[]
   .exact .inl (by simpa using X)
   .exact .inr (by have:¬s.length<=32:=λh3=>h1 ⟨X,h3⟩;omega)
  have hn:jA s=false:=by
   unfold jA
   by_cases X:s=[]
   .simp[X]
   .have:¬s.length<=32:=λh3=>h1 ⟨X,h3⟩;rw[decide_eq_false this];simp
  rw[hn];refine vX ?_;exact M 4 trivial
def NR (hF:S.flr<=N) (O:Has N S Y H):
  ∃d R,Ev pv 38 [] Y d R/\∃k,d=.ptr k 0 0/\Has N S R (.box k (.mem 0 false [.nul])::.ai .nul 2 (([]:List gI).map dV)::H):=by
 refine Ev.sv rfl acm rfl rfl rfl ?_;refine zE ?_;change ah _ _ _ _ Y _;refine M 11 λk2 U jn O=>?_;exact⟨_,rfl,Has.EN [_] [_] (O.cY 2)⟩
noncomputable def bX:List jm->Nat->List gI->List (List aQ)->Except (Int×Nat) (List gI×List (List aQ))
 |[],_,T,out=>.ok (T,out)
 |p::ps,i,T,out=>
  if jA p.nm=false then .error (14,i)
  else if ck T p.nm=true then .error (8,i)
  else if(aT p.tx).2.1≠0 then .error ((aT p.tx).2.1,i)
  else bX ps (i+1) (ie T p.nm i) (out++[bO (aT p.tx).1])
variable{l:List jm}
def lK {q:jm} (h:l[i]?=some q):(l.map cD)[i]?=some (cD q):=by rw[π,h];rfl
def Ob (N:Nat) (S U:St) (H:List aX) (d:D):Except (Int×Nat) (List gI×List (List aQ))->Prop
 | .error r=>d=.tup [.nul,.pnil,.int .i64 r.1,.int .i64 (r.2:Nat)]/\Has N S U H
 | .ok r=>∃y k xt,d=.tup [y,.ptr k 0 0,.int .i64 0,.int .i64 0]/\Has N S U (.box k (.mem 0 false [xt])::.ai xt 2 (r.1.map dV)::.ai y 1 (r.2.map cU)::H)
def EG (T:List gI) (key:List UInt8) (v:Int):(ie T key v).length<=T.length+1:=by
 unfold ie
 split
 .rw[List.length_set];omega
 .unfold sZ;simp;omega
def Is {cont:List UInt8} (hF:S.flr<=N) (hx:Arg N S 2 x (l.map cD)) (hl:l.length<=100) (gS:∀p∈l,p.fit) (O:Has N S Y H):
  ∃d R,Ev pv 16 [.agg [x,.str cont]] Y d R/\Ob N S R H d (bX l 0 [] []):=by
 have NB:=gX hx.1;refine Ev.sv rfl acE rfl rfl rfl ?_;refine zE ?_;change ah _ _ _ _ Y _;refine M 8 λk1 U jo O=>?_;obtain⟨_,st1,aK,kt,rfl,JK⟩:=NR hF O;refine M 5 ?_;have O:=JK;refine M 12 ?_
 have O:Has N S st1 (.box kt (.mem 0 false [.nul])::.ai .nul 2 (([]:List gI).map dV)::.ai .nul 1 (([]:List (List aQ)).map cU)::H):=by
  have h1:=Has.EN [_] [_,_] (O.cY 1);exact h1.erase 3
 refine G 1 ?_;refine ah.loop (λmm I U=>∃(i:Nat) (xt y:D) (T:List gI) (out:List (List aQ)),I.clean=fL I 18 [(6,.ptr kt 0 0),(0,y),(7,x),(0,.int .i64 (l.length:Nat)),(0,.int .i64 (i:Nat))]/\Has N S U (.box kt (.mem 0 false [xt])::.ai xt 2 (T.map dV)::.ai y 1 (out.map cU)::H)/\(i+mm=l.length)/\(T.length<=i)/\(out.length=i)/\(bX (l.drop i) i T out=bX l 0 [] [])/\(∀k,y.ref=k+1->S.bs.length<=k)) (l.length) ?_ ?_
 .exact⟨0,.nul,.nul,[],[],rfl,O,by omega,by simp,rfl,rfl,(λk A=>by simp only[D.ref] at A;omega)⟩
 rintro mm I U ⟨i,xt,y,T,out,hfr,O,hi,hT,JE,nf,gb⟩;refine zK λee=>?_;refine G 5 ?_;refine zP (λh1=>?_) λh1=>?_
 .refine G 1 ?_
  obtain⟨p,B⟩:=gx (l:=l) (i:=i)
  have gi:=κ B;obtain⟨wK,uY⟩:=gS p gi;have dO:=lK B;obtain⟨hil,hig⟩:=List.getElem?_eq_some_iff.1 B;rw[ρ hil,hig] at nf;have Se:=λU=>Li (Y:=U) (s:=p.nm) wK;have ta:=λU=>jN (Y:=U) (b:=p.tx) uY;refine M 11 λOc AX k9 U TX O U O=>?_;have O:Has N S U (_::.ai xt 2 (T.map dV)::.box k9 (.mem 0 false (cD p))::.ai y 1 (out.map cU)::H):=Has.EN [_] [_,_] O;refine M (t:=(Se _)) 8 ?_
  cases F:jA p.nm with
  |false=>
   have wC:bX (p::l.drop (i+1)) i T out=.error (14,i):=by unfold bX;rw[if_pos F]
   refine M 10 ?_;rw[<-nf,wC];exact⟨rfl,O.drop 4⟩
  |true=>
   refine M 2 ?_;obtain⟨stt,xt2,hts,ub⟩:=JW (key:=p.nm) (v:=(i:Nat)) O hF (by omega);refine M (t:=(Ev.jG rfl hts)) 10 ?_;have O:=ub
   cases Z4:ck T p.nm with
   |true=>
    have wC:bX (p::l.drop (i+1)) i T out=.error (8,i):=by unfold bX;rw[if_neg (by rw[F];simp),if_pos Z4]
    refine M 10 ?_;rw[<-nf,wC];exact⟨rfl,O.drop 4⟩
   |false=>
    refine M 2 ?_;obtain⟨aae,OZ,eY⟩:=ta stt;refine G 4 ?_;refine u.dP rfl rfl aae (ae rfl _) ?_;refine G 14 ?_
    by_cases he:(aT p.tx).2.1=0
    .have hc:((aT p.tx).2.1 !=0)=false:=by rw[he];rfl
     have wC:bX (p::l.drop (i+1)) i T out=bX (l.drop (i+1)) (i+1) (ie T p.nm i) (out++[bO (aT p.tx).1]):=by
      conv=>lhs;unfold bX
      rw[if_neg (by rw[F];simp),if_neg (by rw[Z4];simp),if_neg (λh=>h he)]
     rw[wC] at nf;have JG:=λU=>CU (Y:=U) (iq OZ) OZ eY;have pb:=EG T p.nm (i:Nat);refine vY ?_;refine M (t:=(JG _)) 6 λk48 U Wh O=>?_;refine y5 O kS (O.rows aV) (by simp only[ε,γ,ζ];omega) gb λx49 U gb O=>?_;dsimp at O;refine G 2 ?_;have O:=(O.drop 1).erase 2;refine G 4 ?_;exact⟨mm-1,by omega,i+1,xt2,x49,ie T p.nm (i:Nat),out++[bO (aT p.tx).1],rfl,(by rw[η];exact O),by omega,by omega,(by rw[δ];simp only[γ,ζ];omega),nf,gb⟩
    .have hc:((aT p.tx).2.1 !=0)=true:=by simpa using he
     have wC:bX (p::l.drop (i+1)) i T out=.error ((aT p.tx).2.1,i):=by
      conv=>lhs;unfold bX
      rw[if_neg (by rw[F];simp),if_neg (by rw[Z4];simp),if_pos he]
     refine vX ?_;refine M 10 ?_;rw[<-nf,wC];exact⟨rfl,O.drop 4⟩
 .refine G 1 ?_;have YR:i=l.length:=by omega
  rw[YR,List.drop_length] at nf;refine M 10 ?_;rw[<-nf];exact⟨y,kt,xt,rfl,O⟩
def rn (l:List jm):D:=.sl ((l.map cD).map (jK 2))
def KU (l:List jm):(∀e∈l.map cD,∀d∈e,nB d=true)/\(l.map cD).map (·.map oX)=l.map cD:=by
 constructor
 .intro e he d hd;obtain⟨q,hq,rfl⟩:=τ.1 he;simp[cD] at hd
  rcases hd with rfl|rfl<;>rfl
 .rw[List.map_map];rfl
def Ir (l:List jm):∀e∈l.map cD,∀d∈e,cv d=true:=by
 intro e he d hd;obtain⟨q,hq,rfl⟩:=τ.1 he;simp[cD] at hd
 rcases hd with rfl|rfl<;>rfl
def Oa (l:List jm):∀e∈l.map cD,e.length=2:=by
 intro e he;obtain⟨q,hq,rfl⟩:=τ.1 he;rfl
def Rk (l:List jm):fJ (rn l) 2 (l.map cD):=fJ.frozen (Oa l) (Ir l)
end Go.Proofs.YtappgjdiplibbaaGreat
