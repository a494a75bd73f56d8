/-
 Numbers, texts and flags are written behind bytes: texts and flags; the document's.
-/
import Derived.Test.YtappgjdiplibbaaGreatYGHs
import Derived.Test.YtappgjdiplibbaaGreatYGEh
import Derived.Test.YtappgjdiplibbaaGreatYM2
import Derived.Test.YtappgjdiplibbaaGreatYGPb
import Derived.Test.YtappgjdiplibbaaGreatYKa
import Derived.Test.YtappgjdiplibbaaGreatYGCa
import Derived.Test.YtappgjdiplibbaaGreatYGQg
import Derived.Test.YtappgjdiplibbaaGreatYDig
set_option maxRecDepth 100000
set_option maxHeartbeats 4000000
set_option linter.all false
open Go.V renaming byteCells->γ,Rows->ς
open List renaming length_append->δ,getElem?_eq_getElem->θ,append_assoc->κ,length_cons->μ,drop_eq_nil_of_le->ν,length_map->ξ,drop_eq_getElem_cons->ο,length_nil->π,getElem?_map->τ,mem_cons_self->χ,map_append->Θ,length_drop->Ψ,exists_cons_of_ne_nil->Q4,take_of_length_le->Q9,mem_of_getElem?->QQ,mem_of_mem_take->QX,length_take->QV,mem_map->QC
open Nat renaming le_of_ble_eq_true->ε,le_refl->η,reduceAdd->ρ,lt_or_ge->QS,mul_one->QT
open BitVec renaming ofInt->ζ,ofNat->ι,eq_of_toNat_eq->Q6,isLt->Q7
open Go.V.u renaming nil->υ,go->φ,cJ->Δ,len->Ω,store->QK,zr->Qe,lU->Qu
open Go.V.Arg renaming of->ψ,pure->QG
open UInt8 renaming ofNat->ω
open Option renaming map->Γ,some->Φ,bind_some->QY
open Go.IntKind renaming i32->Ξ,u8->QH
open Go.V.D renaming int->Q2,cells->QW
namespace Go.Proofs.YtappgjdiplibbaaGreat
open Go.V Go
def m_ (c i y:Nat):Bool:=if i=1 then decide (Fm c<=y/\y<=Ho c) else decide (128<=y/\y<=191)
def jx (c:Nat):(left i:Nat)->List UInt8->Bool
 |0,_,_=>true
 |_+1,_,[]=>true
 |left+1,i,y::ys=>m_ c i y.toNat &&jx c left (i+1) ys
def dA:List UInt8->Nat×Nat
 |[]=>(0,0)
 |c::xs=>if dH c.toNat=0 then(0,0) else if jx c.toNat (dH c.toNat-1) 1 xs=true then(if xs.length+1<dH c.toNat then(xs.length+1,dH c.toNat) else(dH c.toNat,dH c.toNat)) else(0,0)
def CL (c:Nat):dH c<=4:=by
 unfold dH
 repeat' split
 all_goals omega
variable{U:St}{x:D}{b:List UInt8}
def Pp (F:Bytes U x b) (hlen:b.length<=1048576):Ev pv 107 [x] U (.tup [.int .i64 ((dA b).1:Nat),.int .i64 ((dA b).2:Nat)]) U:=by
 refine Ev.sU rfl XZ rfl rfl rfl ?_;refine zE ?_;have F:=F.enter .ro;have hbl:=aY b;refine zR ?_;refine zU ?_
 refine zW ?_
 refine Ω rfl rfl rfl F rfl ?_
 refine zW ?_
 refine zW ?_
 rw[hbl]
 cases b with
 |nil=>
  refine zY ?_;refine zN ?_;refine ah.cond (v:=true) rfl (λ_=>?_) (λh=>by cases h);refine zR ?_;refine zs ?_
  rfl
 |cons c xs=>
 simp only[μ] at hlen hbl;have hc:=mQ c;simp only[μ];simp(disch:=omega) only[decide_eq_true,decide_eq_false,eR,gV,eQ,gU]
 refine zW ?_
 refine Δ rfl rfl rfl (λ_=>rfl) rfl rfl F rfl rfl (by omega) (i:=0) (r:=[.int .u8 (c.toNat:Nat)]) rfl rfl (λp=>?_);refine Qe rfl rfl rfl (GQ _ _) ?_;refine zX ?_;refine zN ?_;(repeat refine qq ?_);refine qc (λh1=>?_) (λh1=>?_)<;>try simp only[cs] at h1
 .refine zR ?_;refine zs ?_;rw[show dA (c::xs)=(0,0) by simp only[dA];rw[if_pos (by omega)]];rfl
 have A3:=CL c.toNat;refine ah.skip<|zU ?_
 refine zW ?_
 refine Δ rfl rfl rfl (λ_=>rfl) rfl rfl F rfl rfl (by omega) (i:=0) (r:=[.int .u8 (c.toNat:Nat)]) rfl rfl (λp=>?_);refine Qe rfl rfl rfl (GQ _ _) ?_;refine zX ?_;refine zN ?_;refine zR ?_;(repeat refine qq ?_);refine ah.block ?_;generalize hn:dH c.toNat=n at*;refine ah.loop (λj I R=>∃(i:Nat),I.clean=⟨6,[x,.tup [],.int .i64 0,.int .i64 0,.int .i64 (n:Nat),.int .i64 (i:Nat)],[]⟩/\R=aw .ro U/\1<=i/\i+j=n/\jx c.toNat j i (xs.drop (i-1))=jx c.toNat (n-1) 1 xs/\i<=xs.length+1) (n-1) ⟨1,rfl,rfl,by omega,by omega,rfl,by omega⟩ ?_;rintro j I R ⟨i,hfr,rfl,YT,hij,hS,hix⟩;rw[hfr]
 have fin:(n<=i\/xs.length+1<=i)->dA (c::xs)=if xs.length+1<n then(xs.length+1,n) else(n,n):=by
  intro h
  have ht:jx c.toNat (n-1) 1 xs=true:=by
   rw[<-hS]
   rcases h with h|h
   .have:j=0:=by omega
    subst this;rfl
   .have:xs.drop (i-1)=[]:=ν (by omega);rw[this];cases j<;>rfl
  simp[dA,hn];rw[if_neg (by omega),if_pos ht]
 by_cases h4:i<n
 .by_cases h5:i<xs.length+1
  .refine zU ?_
   refine zW ?_
   refine zW ?_
   refine zW ?_
   simp(disch:=omega) only[decide_eq_true,decide_eq_false,eR,gV,eQ,gU]
   refine zW ?_
   refine zW ?_
   refine zW ?_
   refine Ω rfl rfl rfl F rfl ?_;rw[hbl];refine zY ?_;refine zN ?_;refine M 2 ?_;(try refine qy ?_);(repeat refine qq ?_);refine ah.block ?_
   obtain⟨j,rfl⟩:∃l,j=l+1:=⟨j-1,by omega⟩
   obtain⟨y,ys,Dd⟩:∃y ys,xs.drop (i-1)=y::ys:=by
    cases h:xs.drop (i-1) with
    |nil=>have:=congrArg List.length h;simp at this;omega
    |cons y ys=>exact⟨y,ys,rfl⟩
   have hy:(c::xs)[i]?=some y:=by
    obtain⟨i,rfl⟩:∃i',i=i'+1:=⟨i-1,by omega⟩
    have:=congrArg (λl=>l[0]?) Dd
    simpa using this
   have j8:xs.drop (i+1-1)=ys:=by
    have:=congrArg (λl=>l.drop 1) Dd;simp at this;rw[<-this];congr 1;omega
   have TR:=pq hy;have hyb:=mQ y;rw[Dd] at hS;simp[jx] at hS;generalize Y7:dN _ _ _ _=K0
   have step:m_ c.toNat i y.toNat=true->∀m,K0 .next ⟨6,[x,.tup [],.int .i64 0,.int .i64 0,.int .i64 (n:Nat),.int .i64 (i:Nat)],m⟩ (aw .ro U):=by
    intro hg m;subst Y7;refine zR ?_;rw[wrap_i64 (by omega) (by omega)];rw[hg,Bool.true_and] at hS;exact⟨j,by omega,i+1,rfl,rfl,by omega,by omega,by rw[j8];exact hS,by omega⟩
   by_cases sD:i=1
   .subst sD;have hx0:xs=y::ys:=Dd;subst hx0;refine zU ?_
    refine zW ?_
    refine zW ?_
    refine zW ?_
    refine zW ?_
    refine Δ rfl rfl rfl (λ_=>rfl) rfl rfl F rfl rfl (by omega) (i:=0) (r:=[.int .u8 (c.toNat:Nat)]) rfl rfl (λp=>?_)
    refine zW ?_
    refine Δ rfl rfl rfl (λ_=>rfl) rfl rfl F rfl rfl (by omega) (i:=1) (r:=[.int .u8 (y.toNat:Nat)]) rfl rfl (λp=>?_);refine Qe rfl rfl rfl (H5 _ _ _) ?_
    by_cases hg:Fm c.toNat<=y.toNat/\y.toNat<=Ho c.toNat
    .rw[decide_eq_true hg];refine zX ?_;refine zN ?_;refine M 2 ?_;exact step (by unfold m_;rw[if_pos rfl,decide_eq_true hg]) _
    .rw[decide_eq_false hg];refine zX ?_;refine zN ?_;refine ah.cond (v:=true) rfl (λ_=>?_) (λh=>by cases h);refine zR ?_;subst Y7;refine zs ?_;have:jx c.toNat (n-1) 1 (y::ys)=false:=by rw[<-hS];unfold m_;rw[if_pos rfl,decide_eq_false hg];rfl
     rw[show dA (c::y::ys)=(0,0) by simp only[dA,hn];rw[if_neg (by omega),this];rfl];rfl
   .refine zU ?_
    refine zW ?_
    refine zW ?_
    simp(disch:=omega) only[decide_eq_true,decide_eq_false,eR,gV,eQ,gU]
    refine zW ?_
    refine zW ?_
    refine zW ?_
    refine zW ?_
    refine zW ?_
    refine zW ?_
    refine zW ?_
    refine zW ?_
    refine zW ?_
    refine zW ?_
    refine zW ?_
    refine zW ?_
    refine zW ?_
    simp(disch:=omega) only[decide_eq_true,decide_eq_false,eR,gV,eQ,gU]
    refine zW ?_
    refine zW ?_
    refine zW ?_
    refine Δ rfl rfl rfl (λ_=>rfl) rfl rfl F rfl rfl (by omega) TR rfl (λp=>?_)
    by_cases Eh:y.toNat<128
    .refine zY ?_;refine zN ?_;refine ah.cond (v:=true) rfl (λ_=>?_) (λh=>by cases h);refine zR ?_;subst Y7;refine zs ?_;have hf:m_ c.toNat i y.toNat=false:=by unfold m_;rw[if_neg sD,decide_eq_false (by omega)]
     have:jx c.toNat (n-1) 1 xs=false:=by rw[<-hS,hf];rfl
     rw[show dA (c::xs)=(0,0) by simp only[dA,hn];rw[if_neg (by omega),this];rfl];rfl
    .refine zW ?_
     simp(disch:=omega) only[decide_eq_true,decide_eq_false,eR,gV,eQ,gU]
     refine zW ?_
     refine zW ?_
     refine zW ?_
     refine Δ rfl rfl rfl (λ_=>rfl) rfl rfl F rfl rfl (by omega) TR rfl (λp=>?_)
     by_cases Hp:191<y.toNat
     .refine zY ?_;refine zN ?_;refine ah.cond (v:=true) rfl (λ_=>?_) (λh=>by cases h);refine zR ?_;subst Y7;refine zs ?_;have hf:m_ c.toNat i y.toNat=false:=by unfold m_;rw[if_neg sD,decide_eq_false (by omega)]
      have:jx c.toNat (n-1) 1 xs=false:=by rw[<-hS,hf];rfl
      rw[show dA (c::xs)=(0,0) by simp only[dA,hn];rw[if_neg (by omega),this];rfl];rfl
     .refine zY ?_;refine zN ?_;refine M 2 ?_;exact step (by unfold m_;rw[if_neg sD,decide_eq_true (by omega)]) _
  .refine zU ?_
   refine zW ?_
   refine zW ?_
   refine zW ?_
   simp(disch:=omega) only[decide_eq_true,decide_eq_false,eR,gV,eQ,gU]
   refine zW ?_
   refine zW ?_
   refine zW ?_
   refine Ω rfl rfl rfl F rfl ?_;rw[hbl];refine zY ?_;refine zN ?_;refine M 2 ?_;rw[fin (by omega)];refine zU ?_
   refine zW ?_
   refine Ω rfl rfl rfl F rfl ?_;rw[hbl];refine zX ?_;refine zN ?_;refine ah.cond (v:=true) (by dsimp only[Fr.ev,Fr.get,V.look];rw[decide_eq_true (by omega)]) (λ_=>?_) (λh=>by cases h);refine zU ?_
   refine zW ?_
   refine Ω rfl rfl rfl F rfl ?_;rw[hbl];refine zX ?_;refine zN ?_;refine zs ?_;rw[if_pos (by omega)];rfl
 .refine zU ?_
  refine zW ?_
  refine zW ?_
  refine zW ?_
  refine zY ?_;refine zN ?_;refine M 2 ?_;rw[fin (by omega)];refine zU ?_
  refine zW ?_
  refine Ω rfl rfl rfl F rfl ?_;rw[hbl];refine zX ?_;refine zN ?_;(repeat refine qq ?_);refine qc (λh9=>?_) (λh9=>?_)<;>try simp only[cs] at h9
  .refine zU ?_
   refine zW ?_
   refine Ω rfl rfl rfl F rfl ?_;rw[hbl];refine zX ?_;refine zN ?_;refine zs ?_;rw[if_pos (by omega)];rfl
  .refine ah.skip<|zR ?_;refine zs ?_;rw[if_neg (by omega)];rfl
/- the plain law: the two ways to look at the first rune -/
def IC (c:Nat):(dH c=0/\(aU c).1=-1)\/(dH c=1/\(aU c).1=0)\/(2<=dH c/\(aU c).1=(dH c:Int)-1/\(aU c).2.1=Fm c/\(aU c).2.2=Ho c):=by
 unfold dH aU Fm Ho
 by_cases h1:c<128
 .simp[h1]
 by_cases X:c<194
 .simp[h1,X]
 by_cases h0:245<=c
 .left;rw[if_neg (by omega),if_neg (by omega),if_neg (by omega),if_neg (by omega),if_neg (by omega),if_neg (by omega),if_neg (by omega),if_neg (by omega),if_neg (by omega),if_neg (by omega),if_neg (by omega),if_neg (by omega),if_neg (by omega),if_neg (by omega)];simp
 right;right
 by_cases h3:c<224
 .simp only[h1,X,h3,if_true,if_false];rw[if_neg (by omega),if_neg (by omega),if_neg (by omega),if_neg (by omega),if_neg (by omega),if_neg (by omega),if_neg (by omega)];simp
 by_cases h4:c=224
 .subst h4;simp
 by_cases h5:c=237
 .subst h5;simp
 by_cases h6:c<240
 .simp only[h1,X,h3,h4,h5,h6,if_true,if_false];rw[if_neg (by omega),if_neg (by omega),if_neg (by omega)];simp
 by_cases h7:c=240
 .subst h7;simp
 by_cases h8:c<244
 .simp only[h1,X,h3,h4,h5,h6,h7,h8,if_true,if_false];rw[if_pos (by omega),if_neg (by omega)];simp
 by_cases h9:c=244
 .subst h9;simp
 omega
def nW (r:Nat):Nat->List UInt8->Nat
 |0,_=>r
 |_+1,[]=>r
 |left+1,y::ys=>nW (r*64+y.toNat %64) left ys
def yk (c n:Nat):∀(left i r lo hi:Nat) (xs:List UInt8),1<=i->(∀y,m_ c i y=(decide (lo<=y/\y<=hi)))->
  eF left n r lo hi xs=if jx c left i xs=true then(if xs.length<left then(0,0,true) else(nW r left xs,n,false)) else(0,0,false)
 |0,i,r,lo,hi,xs,_,_=>by simp[eF,jx,nW]
 |left+1,i,r,lo,hi,[],_,_=>by simp[eF,jx]
 |left+1,i,r,lo,hi,y::ys,YT,hg=>by
  simp only[eF,jx,hg,nW]
  by_cases F:lo<=y.toNat/\y.toNat<=hi
  .rw[if_neg (by omega),decide_eq_true F,Bool.true_and];rw[yk c n left (i+1) _ 128 191 ys (by omega) (λz=>by unfold m_;rw[if_neg (by omega)])];simp
  .rw[if_pos (by omega),decide_eq_false F];simp
def mg (c n:Nat):Nat:=if n<=1 then c else c %(64/2^(n-1))
theorem Jk (c:UInt8) (xs:List UInt8):fW (c::xs)=if dH c.toNat=0 then(0,0,false) else if jx c.toNat (dH c.toNat-1) 1 xs=true then(if xs.length<dH c.toNat-1 then(0,0,true) else(nW (mg c.toNat (dH c.toNat)) (dH c.toNat-1) xs,dH c.toNat,false)) else(0,0,false):=by
 simp only[fW]
 rcases IC c.toNat with⟨h1,X⟩|⟨h1,X⟩|⟨h1,X,h3,h4⟩
 .rw[h1,X];simp
 .rw[h1,X];simp[eF,jx,nW,mg]
 .have A:(aU c.toNat).1.toNat=dH c.toNat-1:=by omega
  rw[if_neg (show¬(aU c.toNat).1<0 by omega),if_neg (show¬dH c.toNat=0 by omega),if_pos (show(aU c.toNat).1>0 by omega),A,h3,h4];rw[yk c.toNat _ _ 1 _ _ _ _ (by omega) (λy=>by unfold m_;rw[if_pos rfl])];have:dH c.toNat-1+1=dH c.toNat:=by omega
  rw[this];have h5:mg c.toNat (dH c.toNat)=c.toNat %(64/2^(dH c.toNat-1)):=by unfold mg;rw[if_neg (by omega)]
  rw[h5]
def F5 (b:List UInt8):Bool:=(fW b).2.2
def FK (b:List UInt8):(F5 b=true↔(0<(dA b).1/\(dA b).1<(dA b).2/\(dA b).1=b.length))/\
  (((dA b).1=0\/(dA b).1<(dA b).2)->hD b=(65533,1))/\
  (¬((dA b).1=0\/(dA b).1<(dA b).2)->∃c xs,b=c::xs/\1<=(dA b).2/\(dA b).2<=4/\(dA b).2-1<=xs.length/\hD b=(nW (mg c.toNat (dA b).2) ((dA b).2-1) xs,(dA b).2)):=by
 cases b with
 |nil=>simp[F5,fW,dA,hD]
 |cons c xs=>
  have hn:=CL c.toNat;simp only[F5,hD,Jk,dA]
  by_cases h1:dH c.toNat=0
  .simp[h1]
  rw[if_neg h1,if_neg h1]
  by_cases X:jx c.toNat (dH c.toNat-1) 1 xs=true
  .rw[if_pos X,if_pos X]
   by_cases h3:xs.length+1<dH c.toNat
   .rw[if_pos (by omega),if_pos h3];simp<;>omega
   .rw[if_neg (by omega),if_neg h3];refine⟨by simp<;>omega,by simp<;>omega,λ_=>⟨c,xs,rfl,by simp only;omega,by simp only;omega,by simp only;omega,?_⟩⟩;simp only;rw[if_neg h1]
  .rw[if_neg X,if_neg X];simp
variable{c:Nat}
def Bv {j:Nat} (hc:c<256) (hj:j<=8) {m:Int} (hm:m=((2^j-1:Nat):Int)):aR .u8 ((ζ QH.bits (c:Nat) &&&ζ QH.bits m).toNat:Nat)=((c %2^j:Nat):Int):=by
 have h1:2^j<=2^8:=Nat.pow_le_pow_right (by omega) hj;subst hm;show aR .u8 ((ζ 8 (c:Nat) &&&ζ 8 ((2^j-1:Nat):Int)).toNat:Nat)=_;rw[Bu (w:=8) (by omega) (by omega)];have:c %2^j<=c:=Nat.mod_le _ _;rw[b7 (k:=.u8) (by simp[iQ];omega)]
def JA (h:c<2147483648):aR .i32 (c:Nat)=(c:Nat):=b7 (by simp[iQ];omega)
variable{a:Nat}{e:Int}
def yj (i:Nat) (he:e=(i:Nat)) (hi:i<=31) (h:a*2^i<2147483648):aR .i32 ((a:Int)*2^(min e.toNat Ξ.bits))=((a*2^i:Nat):Int):=by
 subst he;have:min ((i:Nat):Int).toNat Ξ.bits=i:=by show min ((i:Nat):Int).toNat 32=i;omega
 rw[this];have:(a:Int)*2^i=((a*2^i:Nat):Int):=by simp
 rw[this,JA h]
def Iu {x b:Nat} (i:Nat) (hx:x=a*2^i) (F:b<2^i) (h:a*2^i+b<2147483648):aR .i32 ((ζ Ξ.bits (x:Nat)|||ζ Ξ.bits (b:Nat)).toNat:Nat)=((a*2^i+b:Nat):Int):=by
 subst hx;show aR .i32 ((ζ 32 ((a*2^i:Nat):Int)|||ζ 32 (b:Nat)).toNat:Nat)=_;rw[QN (by omega) (by omega)]
 have h3:(a*2^i)|||b=a*2^i+b:=by
  rw[Nat.mul_comm a,Nat.two_pow_add_eq_or_of_lt F]
 rw[h3,JA h]
def Ie (F:Bytes U x b) (hlen:b.length<=1048576):Ev pv 80 [x] U (.agg (bz (hD b))) U:=by
 refine Ev.sU rfl abK rfl rfl rfl ?_;refine zE ?_;have hx:=F.ref;have qM:=F.enter .ro;have hbl:=aY b;obtain⟨_,hz,L0⟩:=FK b;refine zR ?_;generalize hS:(aw .ro U).push _=S;have F:Bytes S x b:=by subst hS;exact Rows.ex (Ex.push (U:=aw .ro U) (N:=U.bs.length) (η _) _) qM hx
 refine zU ?_
 refine zW ?_
 refine u.Yd rfl rfl rfl (Pp F hlen) ?_;refine zX ?_;refine zN ?_;generalize A:(dA b).1=k at*;generalize hn:(dA b).2=n at*;have hSN:S.bs[U.bs.length]?=some (.mem 0 false [.int .i32 0,.int .i64 0]):=by subst hS;exact kI (aw .ro U) _
 have hSw:∀r,S.qH U.bs.length r=true:=λr=>by subst hS;exact D1 (N:=U.bs.length) (η _) (η _) (η _)
 have done:∀(q:Nat×Nat) (I:Fr) (s1:St),I.get 2=.ptr U.bs.length 0 0->s1={S with bs:=S.bs.set U.bs.length (.mem 0 false (bz q))}->
   (∀i,Out.ret≠.exit i)/\∃ds,jr pv I s1 Tryz.f80.results.toList=some ds/\cZ .ro false U s1 (qP ds)=some (.agg (bz q),U):=by
  intro q I s1 hg hs
  have OW:s1=(aw .ro U).push (.mem 0 false (bz q)):=by
   rw[hs,<-hS];exact Cw (U:=aw .ro U) (k:=U.bs.length) rfl
  have hm:s1.cp U.bs.length 0=some (false,bz q):=by rw[OW];exact mem_push (aw .ro U) 0 false (bz q)
  have hl:gy pv 95 (.ptr U.bs.length 0 0) s1=some (.agg (bz q)):=by
   simp only[gy,hm,QY];rfl
  have hr:jr pv I s1 Tryz.f80.results.toList=some [.agg (bz q)]:=by
   show(gy pv 95 (I.get 2) s1).bind _=_;rw[hg,hl];rfl
  refine⟨λi h=>(by cases h),_,hr,dg (by simp) ?_ rfl⟩;have aa9:=Ex.push (N:=U.bs.length) (U:=aw .ro U) (η _) (.mem 0 false (bz q));rw[OW];exact aa9.take rfl
 by_cases h1:k=0\/k<n
 .have ho:=hz h1;rw[ho]
  by_cases X:k=0
  .subst X;refine zV ?_;refine ah.cond (v:=true) rfl (λ_=>?_) (λh=>by cases h);refine zU ?_
   refine zW ?_
   refine QK (k:=U.bs.length) (aj:=0) (off:=0) (cs:=bz (65533,1)) rfl rfl rfl rfl rfl hSN (by decide) (hSw _) ?_;refine υ ?_;(try refine zF ?_);(try subst hK);(try refine qy ?_);exact ah.ret (done _ _ _ rfl rfl)
  .refine zV ?_;refine ah.cond (v:=true) rfl (λ_=>?_) (λh=>by cases h);refine zU ?_
   refine zW ?_
   refine QK (k:=U.bs.length) (aj:=0) (off:=0) (cs:=bz (65533,1)) rfl rfl rfl rfl rfl hSN (by decide) (hSw _) ?_;refine υ ?_;(try refine zF ?_);(try subst hK);(try refine qy ?_);exact ah.ret (done _ _ _ rfl rfl)
 obtain⟨c,xs,rfl,sB,hn4,Qo,ho⟩:=L0 h1;rw[ho];have hc:=mQ c;refine zV ?_;refine M 2 ?_;refine zU ?_
 refine zW ?_
 refine u.LI rfl rfl rfl (λ_=>rfl) (by simp) rfl rfl F rfl rfl (by omega) (i:=0) (r:=[.int .u8 (c.toNat:Nat)]) rfl rfl (λp=>?_);(repeat(first|refine xT ?_|refine xL ?_|refine xN ?_|refine xo ?_|refine xp ?_));refine υ ?_;(try refine zF ?_);(try subst hK);(try refine qy ?_);(repeat refine qq ?_);(try generalize hK:dN _ _ _ _=K);refine ah.jy ?_;(repeat(first|refine xT ?_|refine xL ?_|refine xN ?_|refine xo ?_|refine xp ?_));refine υ ?_;(try refine zF ?_);(try subst hK);(try refine qy ?_);rw[JA (by omega)];have hq:n=1\/n=2\/n=3\/n=4:=by omega
 generalize hK:dN _ _ _ _=K
 have H:∀(r:Nat) (m:List (Nat×D)) (l2:List D),r=(hD (c::xs)).1->l2.length=18->K .next ⟨24,x::.tup []::.ptr U.bs.length 0 0::.int .i64 (k:Nat)::.int .i64 (n:Nat)::.int .i32 r::l2,m⟩ S:=by
  intro r m l2 hr tY;subst hK;(try refine qy ?_);(repeat refine qq ?_);(try generalize hK:dN _ _ _ _=K);refine ah.jy ?_
  (first|refine xT ?_|refine xL ?_|refine xN ?_|refine xo ?_|refine xp ?_)
  (first|refine xT ?_|refine xL ?_|refine xN ?_|refine xo ?_|refine xp ?_)
  refine u.T rfl rfl rfl (d:=.agg (bz (r,n))) (st1:=S) rfl ?_;refine QK (k:=U.bs.length) (aj:=0) (off:=0) (cs:=bz (r,n)) rfl rfl rfl rfl rfl hSN (by simp[bz]) (hSw _) ?_;refine υ ?_;(try refine zF ?_);(try subst hK);(try refine qy ?_);rw[<-ho];have e:hD (c::xs)=(r,n):=by rw[hr,ho]
  rw[e];exact ah.ret (done _ _ _ rfl rfl)
 rcases hq with hq|hq|hq|hq
 .subst hq;(try refine qy ?_);(repeat refine qq ?_);refine ah.block ?_;(try refine qy ?_);(repeat refine qq ?_);(try generalize hK:dN _ _ _ _=K);refine ah.jy ?_;(repeat(first|refine xT ?_|refine xL ?_|refine xN ?_|refine xo ?_|refine xp ?_));refine υ ?_;(try refine zF ?_);(try subst hK);(try refine qy ?_);refine ah.cond (v:=false) rfl (λh=>by cases h) λ_=>?_;(try refine qy ?_);(repeat refine qq ?_);(try generalize hK:dN _ _ _ _=K);refine ah.jy ?_;(repeat(first|refine xT ?_|refine xL ?_|refine xN ?_|refine xo ?_|refine xp ?_));refine υ ?_;(try refine zF ?_);(try subst hK);(try refine qy ?_);refine ah.cond (v:=false) rfl (λh=>by cases h) λ_=>?_;(try refine qy ?_);(repeat refine qq ?_);(try generalize hK:dN _ _ _ _=K);refine ah.jy ?_;(repeat(first|refine xT ?_|refine xL ?_|refine xN ?_|refine xo ?_|refine xp ?_));refine υ ?_;(try refine zF ?_);(try subst hK);(try refine qy ?_);refine ah.cond (v:=false) rfl (λh=>by cases h) λ_=>?_;(try refine qy ?_);refine ah.skip<|H _ _ _ ?_ rfl;rw[ho];simp[nW,mg]
 .subst hq
  obtain⟨y1,ys,rfl⟩:∃y1 ys,xs=y1::ys:=by
   match xs,Qo with
   |y1::ys,_=>exact⟨y1,ys,rfl⟩
  have hy1:=mQ y1;(try refine qy ?_);(repeat refine qq ?_);refine ah.block ?_;(try refine qy ?_);(repeat refine qq ?_);(try generalize hK:dN _ _ _ _=K);refine ah.jy ?_;(repeat(first|refine xT ?_|refine xL ?_|refine xN ?_|refine xo ?_|refine xp ?_));refine υ ?_;(try refine zF ?_);(try subst hK);(try refine qy ?_);refine ah.cond (v:=true) rfl (λ_=>?_) (λh=>by cases h);(try refine qy ?_);(repeat refine qq ?_);(try generalize hK:dN _ _ _ _=K);refine ah.jy ?_
  refine zW ?_
  refine Δ rfl rfl rfl (λ_=>rfl) rfl rfl F rfl rfl (by omega) (i:=0) (r:=[.int .u8 (c.toNat:Nat)]) rfl rfl (λp=>?_);(repeat(first|refine xT ?_|refine xL ?_|refine xN ?_|refine xo ?_|refine xp ?_));refine Δ rfl rfl rfl (λ_=>rfl) rfl rfl F rfl rfl (by omega) (i:=1) (r:=[.int .u8 (y1.toNat:Nat)]) rfl rfl (λp=>?_);(repeat(first|refine xT ?_|refine xL ?_|refine xN ?_|refine xo ?_|refine xp ?_));refine υ ?_;(try refine zF ?_);(try subst hK);(try refine qy ?_);rw[Bv (j:=5) (m:=31) hc (by omega) (by decide),Bv (j:=6) (m:=63) hy1 (by omega) (by decide),JA (c:=c.toNat %2^5) (by omega),JA (c:=y1.toNat %2^6) (by omega),yj 6 (by decide) (by omega) (by omega),Iu 6 rfl (by omega) (by omega)];refine H _ _ _ ?_ rfl;rw[ho];simp[nW,mg]
 .subst hq
  obtain⟨y1,y2,ys,rfl⟩:∃y1 y2 ys,xs=y1::y2::ys:=by
   match xs,Qo with
   |y1::y2::ys,_=>exact⟨y1,y2,ys,rfl⟩
  have hy1:=mQ y1;have wv:=mQ y2;(try refine qy ?_);(repeat refine qq ?_);refine ah.block ?_;(try refine qy ?_);(repeat refine qq ?_);(try generalize hK:dN _ _ _ _=K);refine ah.jy ?_;(repeat(first|refine xT ?_|refine xL ?_|refine xN ?_|refine xo ?_|refine xp ?_));refine υ ?_;(try refine zF ?_);(try subst hK);(try refine qy ?_);refine ah.cond (v:=false) rfl (λh=>by cases h) λ_=>?_;(try refine qy ?_);(repeat refine qq ?_);(try generalize hK:dN _ _ _ _=K);refine ah.jy ?_;(repeat(first|refine xT ?_|refine xL ?_|refine xN ?_|refine xo ?_|refine xp ?_));refine υ ?_;(try refine zF ?_);(try subst hK);(try refine qy ?_);refine ah.cond (v:=true) rfl (λ_=>?_) (λh=>by cases h);(try refine qy ?_);(repeat refine qq ?_);(try generalize hK:dN _ _ _ _=K);refine ah.jy ?_
  refine zW ?_
  refine Δ rfl rfl rfl (λ_=>rfl) rfl rfl F rfl rfl (by omega) (i:=0) (r:=[.int .u8 (c.toNat:Nat)]) rfl rfl (λp=>?_);(repeat(first|refine xT ?_|refine xL ?_|refine xN ?_|refine xo ?_|refine xp ?_));refine Δ rfl rfl rfl (λ_=>rfl) rfl rfl F rfl rfl (by omega) (i:=1) (r:=[.int .u8 (y1.toNat:Nat)]) rfl rfl (λp=>?_);(repeat(first|refine xT ?_|refine xL ?_|refine xN ?_|refine xo ?_|refine xp ?_));refine Δ rfl rfl rfl (λ_=>rfl) rfl rfl F rfl rfl (by omega) (i:=2) (r:=[.int .u8 (y2.toNat:Nat)]) rfl rfl (λp=>?_);(repeat(first|refine xT ?_|refine xL ?_|refine xN ?_|refine xo ?_|refine xp ?_));refine υ ?_;(try refine zF ?_);(try subst hK);(try refine qy ?_);rw[Bv (j:=4) (m:=15) hc (by omega) (by decide),Bv (j:=6) (m:=63) hy1 (by omega) (by decide),Bv (j:=6) (m:=63) wv (by omega) (by decide),JA (c:=c.toNat %2^4) (by omega),JA (c:=y1.toNat %2^6) (by omega),JA (c:=y2.toNat %2^6) (by omega),yj 12 (by decide) (by omega) (by omega),yj 6 (by decide) (by omega) (by omega),Iu 12 rfl (by omega) (by omega),Iu (a:=c.toNat %2^4*64+y1.toNat %2^6) 6 (by omega) (by omega) (by omega)];refine H _ _ _ ?_ rfl;rw[ho];simp[nW,mg]
 .subst hq
  obtain⟨y1,y2,y3,ys,rfl⟩:∃y1 y2 y3 ys,xs=y1::y2::y3::ys:=by
   match xs,Qo with
   |y1::y2::y3::ys,_=>exact⟨y1,y2,y3,ys,rfl⟩
  have hy1:=mQ y1;have wv:=mQ y2;have IQ:=mQ y3;(try refine qy ?_);(repeat refine qq ?_);refine ah.block ?_;(try refine qy ?_);(repeat refine qq ?_);(try generalize hK:dN _ _ _ _=K);refine ah.jy ?_;(repeat(first|refine xT ?_|refine xL ?_|refine xN ?_|refine xo ?_|refine xp ?_));refine υ ?_;(try refine zF ?_);(try subst hK);(try refine qy ?_);refine ah.cond (v:=false) rfl (λh=>by cases h) λ_=>?_;(try refine qy ?_);(repeat refine qq ?_);(try generalize hK:dN _ _ _ _=K);refine ah.jy ?_;(repeat(first|refine xT ?_|refine xL ?_|refine xN ?_|refine xo ?_|refine xp ?_));refine υ ?_;(try refine zF ?_);(try subst hK);(try refine qy ?_);refine ah.cond (v:=false) rfl (λh=>by cases h) λ_=>?_;(try refine qy ?_);(repeat refine qq ?_);(try generalize hK:dN _ _ _ _=K);refine ah.jy ?_;(repeat(first|refine xT ?_|refine xL ?_|refine xN ?_|refine xo ?_|refine xp ?_));refine υ ?_;(try refine zF ?_);(try subst hK);(try refine qy ?_);refine ah.cond (v:=true) rfl (λ_=>?_) (λh=>by cases h);(try refine qy ?_);(repeat refine qq ?_);(try generalize hK:dN _ _ _ _=K);refine ah.jy ?_
  refine zW ?_
  refine Δ rfl rfl rfl (λ_=>rfl) rfl rfl F rfl rfl (by omega) (i:=0) (r:=[.int .u8 (c.toNat:Nat)]) rfl rfl (λp=>?_);refine zX ?_;refine Δ rfl rfl rfl (λ_=>rfl) rfl rfl F rfl rfl (by omega) (i:=1) (r:=[.int .u8 (y1.toNat:Nat)]) rfl rfl (λp=>?_);refine zX ?_;refine Δ rfl rfl rfl (λ_=>rfl) rfl rfl F rfl rfl (by omega) (i:=2) (r:=[.int .u8 (y2.toNat:Nat)]) rfl rfl (λp=>?_);refine zX ?_;refine Δ rfl rfl rfl (λ_=>rfl) rfl rfl F rfl rfl (by omega) (i:=3) (r:=[.int .u8 (y3.toNat:Nat)]) rfl rfl (λp=>?_);refine zX ?_;refine zN ?_;rw[Bv (j:=3) (m:=7) hc (by omega) (by decide),Bv (j:=6) (m:=63) hy1 (by omega) (by decide),Bv (j:=6) (m:=63) wv (by omega) (by decide),Bv (j:=6) (m:=63) IQ (by omega) (by decide),JA (c:=c.toNat %2^3) (by omega),JA (c:=y1.toNat %2^6) (by omega),JA (c:=y2.toNat %2^6) (by omega),JA (c:=y3.toNat %2^6) (by omega),yj 18 (by decide) (by omega) (by omega),yj 12 (by decide) (by omega) (by omega),yj 6 (by decide) (by omega) (by omega),Iu 18 rfl (by omega) (by omega),Iu (a:=c.toNat %2^3*64+y1.toNat %2^6) 12 (by omega) (by omega) (by omega),Iu (a:=(c.toNat %2^3*64+y1.toNat %2^6)*64+y2.toNat %2^6) 6 (by omega) (by omega) (by omega)];refine H _ _ _ ?_ rfl;rw[ho];simp[nW,mg]
def N8 (F:Bytes U x b) (hlen:b.length<=1048576):Ev pv 52 [x] U (gC (mP b)) U:=by
 refine Ev.sU rfl ab7 rfl rfl rfl ?_;refine zE ?_;have hx:=F.ref;refine zR ?_;refine zR ?_;(repeat refine qq ?_);refine ah.block ?_
 refine ah.loop (λj I R=>∃(y out g:D) (b':List UInt8) (done:List (Nat×Nat)),I.clean=⟨5,[y,.tup [],.nul,out,g],[]⟩/\Ex U.bs.length (aw .ro U) R/\Bytes R y b'/\y.ref<=U.bs.length/\
  Acc U.bs.length R 2 out (done.map bz)/\j=b'.length/\done++mP b'=mP b/\done.length+b'.length<=b.length) b.length
  ⟨x,.nul,_,b,[],rfl,Ex.refl _ _,F.enter .ro,hx,.nul,rfl,rfl,by simp⟩ ?_
 rintro j I R ⟨y,out,g0,b',done,hfr,hex,hy,Vp,Dz,rfl,hall,hl⟩;rw[hfr];refine zU ?_
 refine zW ?_
 refine Ω rfl rfl rfl hy rfl ?_;refine zX ?_;refine zN ?_;rw[aY];(try refine qy ?_);(repeat refine qq ?_);refine qc (λh1=>?_) (λh1=>?_)<;>try simp only[cs] at h1
 .refine ah.skip ?_;(try refine qy ?_);have qM:b'≠[]:=by rintro rfl;simp at h1
  (try refine qy ?_);(repeat refine qq ?_);refine ah.block ?_;have Qv:=Ie hy (by omega);generalize hg:hD b'=g at Qv;have B:=nK b';have hle:=Ay qM;rw[hg] at B hle;have hN:U.bs.length<=R.bs.length:=hex.len;have hf:R.flr=U.bs.length:=by rw[hex.flr];rfl
  have fx:R.ro=U.bs.length:=by rw[hex.ro];rfl
  refine zU ?_
  refine zW ?_
  refine Qe rfl rfl rfl Qv ?_;refine u.L rfl rfl rfl (d:=.ptr R.bs.length 0 0) (st1:=R.push (.mem 0 false (bz (0,0)))) rfl ?_;refine QK (k:=R.bs.length) (aj:=0) (off:=0) (cs:=bz g) rfl rfl rfl rfl rfl (kI R _) (by simp[bz]) (D1 (N:=U.bs.length) hN (by rw[<-hf];exact η _) (by rw[<-fx];exact η _)) ?_;refine zN ?_;rw[show(⟨(R.push (.mem 0 false (bz (0,0)))).bs.set R.bs.length (.mem 0 false ((bz (0,0)).take 0++bz g++(bz (0,0)).drop (0+(bz g).length))),(R.push (.mem 0 false (bz (0,0)))).flr,(R.push (.mem 0 false (bz (0,0)))).ro⟩:St)=R.push (.mem 0 false (bz g)) from Cw rfl];have Ba:=hex.trans (Ex.push hN (.mem 0 false (bz g)));generalize WX:R.push (.mem 0 false (bz g))=S1 at Ba;have tZ:S1.bs[R.bs.length]?=some (.mem 0 false (bz g)):=by subst WX;exact kI R _
  have WS:V.Acc U.bs.length S1 2 out (done.map bz):=by subst WX;exact Dz.push _
  have A6:R.bs.length<S1.bs.length:=by subst WX;simp[St.push]
  refine zU ?_
  refine zW ?_
  refine u.load (k:=R.bs.length) (aj:=0) (off:=0) (ar:=false) (c:=bz g) (d:=.agg (bz g)) rfl rfl rfl tZ rfl ?_;refine u.T rfl rfl rfl (d:=.win S1.bs.length 0 0 1 2) (st1:=S1.push (.mem 0 true (bz g))) rfl ?_;have FB:=Ba.trans (Ex.push Ba.len (.mem 0 true (bz g)));refine u.append rfl rfl rfl rfl (WS.push _) (Rows.one rfl) rfl rfl rfl rfl rfl rfl rfl (by decide) FB.len (by rw[FB.flr];exact η _) (by rw[FB.ro];exact η _) (by simp only[ξ,μ,π];show(done.length+1)*16<=_;omega) λOe st2 Mq Pb _ tW _=>?_;refine zX ?_;refine zN ?_;have aba:=FB.trans Pb;have wv:Bytes st2 y b':=Rows.ex ((Ex.push hN _).trans ((Ex.push (by rw[WX];exact Ba.len) _).trans (by rw[WX];exact Pb))) hy Vp
  have ba:st2.bs[R.bs.length]?=some (.mem 0 false (bz g)):=by
   rw[tW R.bs.length (by simp[St.push];omega) ?_]
   .simp[St.push];rw[List.getElem?_append_left A6];exact tZ
   .have:=Dz.ref;show R.bs.length+1≠out.ref;omega
  refine zU ?_
  refine zW ?_
  refine zW ?_
  refine u.load (k:=R.bs.length) (aj:=0) (off:=1) (ar:=false) (c:=bz g) (d:=.int .i64 (g.2:Nat)) rfl rfl rfl ba rfl ?_;refine u.slice rfl rfl rfl wv rfl rfl (l:=g.2) (r:=b'.length) ?_ ⟨by omega,by rw[aY];omega⟩ λy2 IQ RE=>?_
  .show cL (γ b').length (some (.int .i64 (g.2:Nat))) none=_;rw[aY];simp only[cL,ik,ke,QY];rw[if_pos ⟨by omega,by omega⟩];rfl
  refine zX ?_;refine zN ?_;refine⟨(b'.drop g.2).length,by rw[Ψ];omega,y2,Oe,_,b'.drop g.2,done++[g],rfl,aba,?_,Nat.le_trans RE Vp,?_,rfl,?_,?_⟩
  .have:((γ b').take b'.length).drop g.2=γ (b'.drop g.2):=by
    rw[<-aY,List.take_length];simp[γ]
   unfold Bytes;rw[<-this];exact IQ
  .rw[Θ];exact Mq
  .rw[κ,List.singleton_append,<-hall,tv qM,hg]
  .rw[δ,Ψ];simp only[μ,π];omega
 .refine ah.exit ?_
  have qM:b'=[]:=by cases b' with|nil=>rfl|cons _ _=>simp at h1<;>omega
  subst qM;rw[sm,List.append_nil] at hall;refine zR ?_;refine ah.ret ⟨rx,_,rfl,dg (by simp) (hex.take rfl) ?_⟩;rw[<-hall];exact Dz.freeze qw (n:=15) (by decide)
def lp (b:List UInt8):D:=.sl ((γ b).map (jK 1))
def xP (b:List UInt8):∀e∈γ b,e.length=1:=by
 intro e he;obtain⟨y,_,rfl⟩:=QC.1 he;rfl
def gH (b:List UInt8):∀e∈γ b,∀d∈e,cv d=true:=by
 intro e he d hd;obtain⟨y,_,rfl⟩:=QC.1 he;simp at hd;subst hd;rfl
def jb (t:List UInt8):List UInt8:=gw (t.length:Nat)++t
variable{Y:St}{t:List UInt8}
def vg (hx:ς Y 1 x (γ b)) (hl:b.length<=50000000000) (ht:t.length<=1048576):
  Ev pv 65 [x,.str t] Y (lp (b++jb t)) Y:=by
 have A3:=mA (t.length:Nat);refine zM abW λS aP hF O=>?_;have hx:=ψ hx aP;refine G 4 ?_;obtain⟨wK,uY⟩:=O.My hF;refine M 5 ?_;refine yA (z:=((9+t.length:Nat):Int)) ?_;obtain⟨d10,U,aK,ho⟩:=BN (x:=x) (b:=b) wK uY (hx.rows O) (by omega) (9+t.length) (by omega);have O:=O.TO ho
 (try dsimp at O)
 refine M 3 ?_;obtain⟨wK,uY⟩:=O.My hF;obtain⟨d13,U,aK,ho⟩:=Ge (x:=d10) (b:=b) wK uY (O.rows aV) (by omega) (t.length:Nat) (by omega);have O:=O.TO ho
 (try dsimp at O)
 refine M 3 ?_;have hbl:(γ (b++gw (t.length:Nat))).length=b.length+(gw (t.length:Nat)).length:=by rw[aY,δ]
 refine G 4 ?_;refine u.Dx O rfl (ev rfl) (ev rfl) aV rfl rfl rfl rfl rfl rfl rfl ⟨(ε rfl),(ε rfl)⟩ (λ_=>(ae rfl _)) rfl (by omega) (λx16 U O=>?_);dsimp at O;refine G 2 ?_
 have O:Has Y.bs.length S U (.ai x16 1 (γ (b++jb t))::[.ai d10 1 (γ b)]):=by
  unfold jb;rw[<-κ,tu];exact O
 refine ah.ret ⟨rx,_,rfl,rl aP O ?_⟩;exact O.oM aV (gH _) (by decide)
def Ki (m:Nat) (U:St):(iC pv .shr 3 (.int .i64 (m:Nat)) (.int .i64 8)).map (λd=>(d,U))=some (.int .i64 ((m/256:Nat):Int),U):=by
 show Γ _ (some (Q2 .i64 (Int.fdiv (m:Nat) (2^8))))=_;have:=Mz m 1;simp only[QT,Nat.pow_one] at this;rw[this];rfl
def Kh (m k:Nat) (A:k<=8) (U:St):(iC pv .shr 3 (.int .i64 (m:Nat)) (.int .i64 ((8*k:Nat):Int))).map (λd=>(d,U))=some (.int .i64 ((m/256^k:Nat):Int),U):=by
 show Γ _ (if((8*k:Nat):Int)<0 then none else some (Q2 .i64 (Int.fdiv (m:Nat) (2^(min ((8*k:Nat):Int).toNat 64)))))=_;rw[if_neg (by omega),Int.toNat_natCast,Nat.min_eq_left (by omega),Mz];rfl
def Pw (q:Nat) (U:St):pk pv 3 5 (.int .i64 (q:Nat)) U=some (.int .u8 ((q %256:Nat):Int),U):=by
 show some (Q2 .u8 (aR .u8 (q:Nat)),U)=_;rw[JR]
def GA (hF:Y.flr<=Y.bs.length) (fx:Y.ro<=Y.bs.length) (hx:ς Y 1 x (γ b)) (hl:b.length<=60000000000) (n:Int) (hn:n<9223372036854775808):
  ∃d R,Ev pv 66 [x,.int .i64 n] Y d R/\Tw Y R d (b++gw n):=by
 obtain⟨m,hm⟩:∃m,n.toNat=m:=⟨_,rfl⟩
 have Fy:m<256^8:=by omega
 obtain⟨jo,jn⟩:=G7 Fy;have O':=Lu m;have Qw:gw n=ω (kB m)::HO (kB m) m:=by unfold gw;rw[hm]
 have YW:=aY b;rw[Qw];refine Ev.sv rfl abV rfl rfl rfl ?_;refine zE ?_;have aP:(aw .nw Y).bs=Y.bs:=rfl;have hF:(aw .nw Y).flr<=Y.bs.length:=hF;have O:Has Y.bs.length (aw .nw Y) (aw .nw Y) []:=Has.start (η _) (η _);generalize aw .nw Y=S at*;have hx:=ψ hx aP;refine G 6 ?_;refine u.A5 (s:=1) O rfl rfl rfl rfl rfl (λ_=>(ae rfl _)) (λk9 U TX O=>?_);refine qm ?_;refine Qu (s:=1) O rfl (ev rfl) (ev rfl) (by exact aV) (by exact Arg.rows (by assumption) O) rfl rfl rfl rfl rfl rfl rfl ⟨(ε rfl),(ε rfl)⟩ (λ_=>(ae rfl _)) rfl (by simp only[π]<;>omega) (by exact .inl hF) (λUz U O=>?_);dsimp at O;refine G 2 ?_;have O:Has Y.bs.length S U [.ai Uz 1 (γ b)]:=O;refine G 2 ?_;refine ah.ir (λI U=>∃(tmp:List (Nat×D)),I=⟨9,[x,.int .i64 (m:Nat),ay I 2,ay I 3,ay I 4,Uz,ay I 6,ay I 7,ay I 8],tmp⟩/\Has Y.bs.length S U [.ai Uz 1 (γ b)]/\(True)) ?_ ?_
 .refine G 4 ?_;refine zP (λh0=>?_) λh0=>?_
  .refine G 3 ?_;have pf:m=0:=by omega
   subst pf;exact⟨_,rfl,O,trivial⟩
  .refine G 1 ?_;have Se:n=(m:Nat):=by omega
   subst Se;exact⟨_,rfl,O,trivial⟩
 .rintro I U ⟨tmp,hfr,O,ht⟩;refine zK λee=>?_;refine G 11 ?_;refine ah.loop (λmm I U=>∃(k q:Nat),I.clean=fL I 9 [(1,.int .i64 (m:Nat)),(3,Uz),(0,.int .i64 (k:Nat)),(0,.int .i64 (q:Nat))]/\Has Y.bs.length S U [.ai Uz 1 (γ b)]/\(q=mm)/\(q=m/256^k)/\(k<=kB m)) (m) ?_ ?_
  .exact⟨0,m,rfl,O,rfl,by simp,by omega⟩
  rintro mm I U ⟨k,q,hfr,O,hq,hqk,hkk⟩;refine zK λee=>?_;refine G 6 ?_
  by_cases hq0:0<q
  .have hlt:k<kB m:=by
    rcases QS k (kB m) with h|h
    .exact h
    .have:k=kB m:=by omega
     subst this;omega
   have hc:decide (((q:Nat):Int)>0)=true:=by rw[decide_eq_true_eq];omega
   refine vX ?_;refine G 10 ?_;refine φ (d:=.int .i64 ((q/256:Nat):Int)) (st1:=_) rfl rfl (by exact Ki q _) (ae rfl _) ?_;refine G 2 ?_;have hd:q/256<q:=Nat.div_lt_self hq0 (by decide);exact⟨q/256,by omega,k+1,q/256,rfl,O,rfl,by rw[hqk,Nat.pow_succ,Nat.div_div_eq_div_mul],by omega⟩
  .have hc:decide (((q:Nat):Int)>0)=false:=by rw[decide_eq_false_iff_not];omega
   have Wc:k=kB m:=by
    rcases QS k (kB m) with h|h
    .have:=jn k h;omega
    .omega
   subst Wc;refine vY ?_;refine G 5 ?_;refine φ (d:=.int .u8 (kB m:Nat)) (st1:=_) rfl rfl (by show some (Q2 .u8 (aR .u8 (kB m:Nat)),_)=_;rw[b7 (by simp[iQ];omega)]) (ae rfl _) ?_;refine qh (s:=1) (vs:=[_]) O λk24 U aaZ O=>?_;refine Qu (s:=1) O rfl (ev rfl) (ev rfl) (by exact bf) (by exact O.rows (by exact aV)) rfl rfl rfl rfl rfl rfl rfl ⟨(ε rfl),(ε rfl)⟩ (λ_=>(ae rfl _)) rfl (by simp only[μ,π,ξ]<;>omega) (by exact .inl hF) (λYo U O=>?_);dsimp[u2,u1,u3,u4,setMany,u5,u6,QW,ρ] at O;refine G 2 ?_
   have O:Has Y.bs.length S U [.ai Yo 1 (γ (b++[ω (kB m)]))]:=by
    rw[tu,QM (by omega)];exact O.drop 1
   refine G 4 ?_;refine u.J9 rfl (ev rfl) (ev rfl) (by omega) (by omega) (ae rfl _) ?_;refine G 2 ?_;have hbl:∀j,(HO j m).length=j:=λj=>va j m
   obtain⟨T,hT⟩:∃T,b++ω (kB m)::HO (kB m) m=T:=⟨_,rfl⟩
   have hTl:T.length=b.length+kB m+1:=by rw[<-hT];simp[hbl];omega
   refine G 1 ?_;refine ah.loop (λmm I U=>∃(j:Nat) (y:D) (pre:List UInt8),I.clean=fL I 9 [(1,.int .i64 (m:Nat)),(3,y),(2,.int .i64 ((j:Int)-1))]/\Has Y.bs.length S U [.ai y 1 (γ pre)]/\(j=mm)/\(j<=kB m)/\(pre++HO j m=T)) (kB m) ?_ ?_
   .exact⟨kB m,Yo,b++[ω (kB m)],rfl,O,rfl,η _,(by rw[<-hT,κ];rfl)⟩
   rintro mm I U ⟨j,y,pre,hfr,O,hj,hjk,B⟩;rw[hfr];(try dsimp only[fL,fG,ρ]);clear hfr;generalize ay I=ee;clear I;have eY:pre.length+j=T.length:=by rw[<-B,δ,hbl]
   have hbp:=aY pre;refine G 6 ?_
   cases j with
   |succ j=>
    have hc:decide (((j+1:Nat):Int)-1>=0)=true:=by rw[decide_eq_true_eq];omega
    refine vX ?_;refine G 1 ?_;have A9:((j+1:Nat):Int)-1=(j:Nat):=by omega
    rw[A9];have hq:m/256^j %256<256:=Nat.mod_lt _ (by decide);refine G 6 ?_;refine u.vT (z:=((8*j:Nat):Int)) rfl (ev rfl) (ev rfl) (by rw[show(8:Int)*(j:Nat)=((8*j:Nat):Int) by omega,b7 (by simp[iQ];omega)]) (ae rfl _) ?_;refine φ (d:=.int .i64 ((m/256^j:Nat):Int)) (st1:=_) rfl rfl (by exact Kh m j (by omega) _) (ae rfl _) ?_;refine φ (d:=.int .u8 ((m/256^j %256:Nat):Int)) (st1:=_) rfl rfl (by exact Pw _ _) (ae rfl _) ?_;refine qh (s:=1) (vs:=[_]) O λk38 U aaV O=>?_;refine Qu (s:=1) O rfl (ev rfl) (ev rfl) (by exact bf) (by exact O.rows (by exact aV)) rfl rfl rfl rfl rfl rfl rfl ⟨(ε rfl),(ε rfl)⟩ (λ_=>(ae rfl _)) rfl (by simp only[μ,π,ξ]<;>omega) (by exact .inl hF) (λx39 U O=>?_);dsimp only[u2,u1,u3,u4,setMany,u5,u6,QW,ρ] at O;refine G 2 ?_
    have O:Has Y.bs.length S U [.ai x39 1 (γ (pre++[ω (m/256^j)]))]:=by
     rw[tu,MT];exact O.drop 1
    refine G 2 ?_;refine yB (z:=((j:Int)-1)) ?_;refine G 2 ?_;exact⟨j,by omega,⟨j,x39,pre++[ω (m/256^j)],rfl,O,rfl,by omega,(by rw[κ];exact B)⟩⟩
   |zero=>
    have hc:decide (((0:Nat):Int)-1>=0)=false:=rfl;refine vY ?_;refine G 1 ?_;have RX:pre=T:=by rw[<-B];simp[HO]
    subst RX;refine M 6 ?_;rw[hT];exact O.AQ aP fx
def vK (hx:ς Y 1 x (γ b)) (hl:b.length<=50000000000) (ht:t.length<=1048576):
  Ev pv 67 [x,.str t] Y (lp (b++jb t)) Y:=by
 have A3:=mA (t.length:Nat);refine zM abU λS aP hF O=>?_;have hx:=ψ hx aP;refine G 4 ?_;obtain⟨wK,uY⟩:=O.My hF;have hbl:(γ (b++gw (t.length:Nat))).length=b.length+(gw (t.length:Nat)).length:=by rw[aY,δ]
 refine M 5 ?_;obtain⟨d8,U,aK,ho⟩:=GA (x:=x) (b:=b) wK uY (hx.rows O) (by omega) (t.length:Nat) (by omega);have O:=O.TO ho
 (try dsimp at O)
 refine M 2 ?_;refine u.Dx O rfl (ev rfl) (ev rfl) aV rfl rfl rfl rfl rfl rfl rfl ⟨(ε rfl),(ε rfl)⟩ (λ_=>(ae rfl _)) rfl (by omega) (λx10 U O=>?_);dsimp at O;refine G 2 ?_
 have O:Has Y.bs.length S U (.ai x10 1 (γ (b++jb t))::[]):=by
  unfold jb;rw[<-κ,tu];exact O
 refine ah.ret ⟨rx,_,rfl,rl aP O ?_⟩;exact O.oM aV (gH _) (by decide)
def lJ (s:BitVec 32):D:=.int .u32 (s.toNat:Nat)
def FQ (s:BitVec 32):BitVec 32:=if s &&&1#32=1#32 then(s>>>1)^^^2197175160#32 else s>>>1
def uC:Nat->BitVec 32->BitVec 32
 |0,s=>s
 |k+1,s=>uC k (FQ s)
def DP:BitVec 32->List UInt8->BitVec 32
 |s,[]=>s
 |s,c::l=>DP (uC 8 (s^^^ι 32 c.toNat)) l
def n3 (c : BitVec 32) (b : List UInt8) : BitVec 32 := ~~~ (DP (~~~ c) b)
def wrap32 {n:Nat} (h:n<2^32):aR .u32 (n:Nat)=(n:Int):=b7 (by simp[iQ];omega)
def Lb (a:BitVec 32):ζ 32 (a.toNat:Nat)=a:=by
 rw[BitVec.ofInt_natCast,BitVec.ofNat_toNat,BitVec.setWidth_eq]
def zA (a b:BitVec 32) (U:St):(iC pv .xor 83 (lJ a) (lJ b)).map (λd=>(d,U))=some (lJ (a^^^b),U):=by
 show Γ _ (some (Q2 .u32 (aR .u32 ((ζ 32 (a.toNat:Nat)^^^ζ 32 (b.toNat:Nat)).toNat:Nat))))=_;rw[Lb,Lb,wrap32 (Q7 _)];rfl
def Bt (a b:BitVec 32) (U:St):(iC pv .and 83 (lJ a) (lJ b)).map (λd=>(d,U))=some (lJ (a &&&b),U):=by
 show Γ _ (some (Q2 .u32 (aR .u32 ((ζ 32 (a.toNat:Nat) &&&ζ 32 (b.toNat:Nat)).toNat:Nat))))=_;rw[Lb,Lb,wrap32 (Q7 _)];rfl
def AD (a:BitVec 32) (U:St):(Yq .xor (lJ a)).map (λd=>(d,U))=some (lJ (~~~a),U):=by
 show Γ _ (some (Q2 .u32 (aR .u32 ((ζ 32 4294967295^^^ζ 32 (a.toNat:Nat)).toNat:Nat))))=_;rw[Lb,show ζ 32 4294967295=BitVec.allOnes 32 from rfl,BitVec.allOnes_xor,wrap32 (Q7 _)];rfl
def EB (a:BitVec 32) (U:St):(iC pv .shr 83 (lJ a) (.int .u64 1)).map (λd=>(d,U))=some (lJ (a>>>1),U):=by
 show Γ _ (some (Q2 .u32 (Int.fdiv (a.toNat:Nat) (2^1))))=_;rw[Int.fdiv_eq_ediv_of_nonneg _ (by decide)];show some (Q2 .u32 ((a.toNat/2:Nat):Int),U)=_;rw[lJ,BitVec.toNat_ushiftRight,Nat.shiftRight_succ,Nat.shiftRight_zero]
def QL (c:UInt8) (U:St):pk pv 5 83 (.int .u8 (c.toNat:Nat)) U=some (lJ (ι 32 c.toNat),U):=by
 show some (Q2 .u32 (aR .u32 (c.toNat:Nat)),U)=_;have h:c.toNat<256:=c.toNat_lt;rw[wrap32 (by omega),lJ,BitVec.toNat_ofNat,Nat.mod_eq_of_lt (by omega)]
def Qi (hx:ς Y 1 x (γ b)) (hl:b.length<=1000000000000) (c:BitVec 32):Ev pv 35 [lJ c,x] Y (lJ (n3 c b)) Y:=by
 have YW:=aY b;refine zM acp λS aP hF O=>?_;have hx:=ψ hx aP;refine G 7 ?_;refine φ (d:=lJ (~~~c)) (st1:=_) rfl rfl (by exact AD c _) (by dsimp<;>rfl) ?_;refine M 9 ?_
 obtain⟨af,hR⟩:∃af,DP (~~~c) b=af:=⟨_,rfl⟩
 refine G 1 ?_;refine ah.loop (λmm I U=>∃(i:Nat) (s:BitVec 32),I.clean=fL I 22 [(5,lJ s),(5,x),(0,.int .i64 ((γ b).length:Nat)),(0,.int .i64 (i:Nat))]/\Has Y.bs.length S U []/\(i+mm=b.length)/\(DP s (b.drop i)=af)) (b.length) ?_ ?_
 .exact⟨0,~~~c,rfl,O,by omega,hR⟩
 rintro mm I U ⟨i,s,hfr,O,hi,hs⟩;refine zK λee=>?_;refine G 5 ?_;refine zP (λh1=>?_) λh1=>?_
 .refine G 1 ?_
  obtain⟨q,hq⟩:=gx (l:=b) (i:=i)
  have dO:(γ b)[i]?=some [.int .u8 (q.toNat:Nat)]:=by unfold γ;rw[τ,hq];rfl
  have qd:b.drop i=q::b.drop (i+1):=by
   have:=ο (l:=b) (i:=i) (by omega);rw[this];congr 1;rw[θ (by omega)] at hq;exact Φ.inj hq
  rw[qd] at hs;change DP (uC 8 (s^^^ι 32 q.toNat)) (b.drop (i+1))=af at hs;refine M 12 λTN I5=>?_;refine φ (d:=lJ (ι 32 q.toNat)) (st1:=_) rfl rfl (by exact QL q _) (by dsimp<;>rfl) ?_;refine φ (d:=lJ (s^^^ι 32 q.toNat)) (st1:=_) rfl rfl (by exact zA _ _ _) (by dsimp<;>rfl) ?_;refine G 2 ?_;generalize s^^^ι 32 q.toNat=s1 at*;refine G 5 ?_;refine ah.loop (λmm I U=>∃(j:Nat) (s2:BitVec 32),I.clean=fL I 22 [(5,lJ s2),(5,x),(0,.int .i64 ((γ b).length:Nat)),(0,.int .i64 (i:Nat)),(7,.int .i64 (j:Nat))]/\Has Y.bs.length S U []/\(j+mm=8)/\(uC (8-j) s2=uC 8 s1)) (8) ?_ ?_
  .exact⟨0,s1,rfl,O,by omega,rfl⟩
  rintro mm I U ⟨j,s2,hfr,O,hj,ht⟩;refine zK λee=>?_;refine G 5 ?_;refine zP (λX=>?_) λX=>?_
  .refine G 1 ?_;have A:8-j=(8-(j+1))+1:=by omega
   rw[A] at ht;change uC (8-(j+1)) (FQ s2)=_ at ht;refine G 5 ?_;refine φ (d:=lJ (s2 &&&1#32)) (st1:=_) rfl rfl (by exact Bt s2 1#32 _) (ae rfl _) ?_;refine G 5 ?_;refine φ (d:=lJ (s2>>>1)) (st1:=_) rfl rfl (by exact EB s2 _) (ae rfl _) ?_;refine G 7 ?_
   by_cases F:s2 &&&1#32=1#32
   .have hc:((((s2 &&&1#32).toNat:Nat):Int)==1)=true:=by rw[F];rfl
    refine M 3 ?_;refine φ (d:=lJ ((s2>>>1)^^^2197175160#32)) (st1:=_) rfl rfl (by exact zA (s2>>>1) 2197175160#32 _) (ae rfl _) ?_;refine G 2 ?_;rw[FQ,if_pos F] at ht;refine G 4 ?_;exact⟨mm-1,by omega,j+1,_,rfl,O,by omega,ht⟩
   .have hc:((((s2 &&&1#32).toNat:Nat):Int)==1)=false:=by
     rw[beq_eq_false_iff_ne];intro h;exact F (Q6 (by have e:(1#32).toNat=1:=rfl;omega))
    refine M 2 ?_;rw[FQ,if_neg F] at ht;refine G 4 ?_;exact⟨mm-1,by omega,j+1,_,rfl,O,by omega,ht⟩
  .refine G 1 ?_;have hj8:j=8:=by omega
   subst hj8;have ht:s2=uC 8 s1:=ht;rw[<-ht] at hs;refine G 4 ?_;exact⟨b.length-(i+1),by omega,⟨i+1,s2,rfl,O,by omega,hs⟩⟩
 .refine G 1 ?_;have hil:b.drop i=[]:=ν (by omega);rw[hil] at hs;have hs:s=af:=hs;subst hs;refine G 3 ?_;refine φ (d:=lJ (~~~s)) (st1:=_) rfl rfl (by exact AD s _) (ae rfl _) ?_;refine G 2 ?_;unfold n3;rw[hR];exact M 0 trivial
def KF (hx:ς Y 1 x (γ b)) (hl:b.length<=1000000000000) (c:BitVec 32):Ev pv 37 [lJ c,x] Y (lJ (n3 c b)) Y:=by
 have YW:=aY b;refine zM acn λS aP hF O=>?_;have hx:=ψ hx aP;refine G 7 ?_;refine φ (d:=lJ (~~~c)) (st1:=_) rfl rfl (by exact AD c _) (ae rfl _) ?_;refine G 7 ?_
 obtain⟨af,hR⟩:∃af,DP (~~~c) b=af:=⟨_,rfl⟩
 refine G 1 ?_;refine ah.loop (λmm I U=>∃(i:Nat) (s:BitVec 32),I.clean=fL I 8 [(1,x),(3,lJ s),(0,.int .i64 (i:Nat))]/\Has Y.bs.length S U []/\(i+mm=b.length)/\(DP s (b.drop i)=af)) (b.length) ?_ ?_
 .exact⟨0,~~~c,rfl,O,by omega,hR⟩
 rintro mm I U ⟨i,s,hfr,O,hi,hs⟩;refine zK λee=>?_;refine M 8 ?_;refine zP (λh1=>?_) λh1=>?_
 .refine G 1 ?_
  obtain⟨q,hq⟩:=gx (l:=b) (i:=i)
  have dO:(γ b)[i]?=some [.int .u8 (q.toNat:Nat)]:=by unfold γ;rw[τ,hq];rfl
  have qd:b.drop i=q::b.drop (i+1):=by
   have:=ο (l:=b) (i:=i) (by omega);rw[this];congr 1;rw[θ (by omega)] at hq;exact Φ.inj hq
  rw[qd] at hs;change DP (uC 8 (s^^^ι 32 q.toNat)) (b.drop (i+1))=af at hs;refine M 9 λZB R8=>?_;refine φ (d:=lJ (ι 32 q.toNat)) (st1:=_) rfl rfl (by exact QL q _) (ae rfl _) ?_;refine φ (d:=lJ (s^^^ι 32 q.toNat)) (st1:=_) rfl rfl (by exact zA _ _ _) (ae rfl _) ?_;refine G 2 ?_;generalize s^^^ι 32 q.toNat=s1 at*;refine G 5 ?_;refine ah.loop (λmm I U=>∃(j:Nat) (s2:BitVec 32),I.clean=fL I 8 [(1,x),(3,lJ s2),(0,.int .i64 (i:Nat)),(0,.int .i64 (j:Nat))]/\Has Y.bs.length S U []/\(j+mm=8)/\(uC (8-j) s2=uC 8 s1)) (8) ?_ ?_
  .exact⟨0,s1,rfl,O,by omega,rfl⟩
  rintro mm I U ⟨j,s2,hfr,O,hj,ht⟩;refine zK λee=>?_;refine G 6 ?_;refine zP (λX=>?_) λX=>?_
  .refine G 1 ?_;have A:8-j=(8-(j+1))+1:=by omega
   rw[A] at ht;change uC (8-(j+1)) (FQ s2)=_ at ht;refine G 5 ?_;refine φ (d:=lJ (s2 &&&1#32)) (st1:=_) rfl rfl (by exact Bt s2 1#32 _) (ae rfl _) ?_;refine G 2 ?_
   by_cases F:s2 &&&1#32=1#32
   .have hc:((((s2 &&&1#32).toNat:Nat):Int)==1)=true:=by rw[F];rfl
    refine M 3 ?_;refine φ (d:=lJ (s2>>>1)) (st1:=_) rfl rfl (by exact EB s2 _) (ae rfl _) ?_;refine φ (d:=lJ ((s2>>>1)^^^2197175160#32)) (st1:=_) rfl rfl (by exact zA (s2>>>1) 2197175160#32 _) (ae rfl _) ?_;refine G 2 ?_;rw[FQ,if_pos F] at ht;refine G 5 ?_;exact⟨mm-1,by omega,j+1,_,rfl,O,by omega,ht⟩
   .have hc:((((s2 &&&1#32).toNat:Nat):Int)==1)=false:=by
     rw[beq_eq_false_iff_ne];intro h;exact F (Q6 (by have e:(1#32).toNat=1:=rfl;omega))
    refine M 3 ?_;refine φ (d:=lJ (s2>>>1)) (st1:=_) rfl rfl (by exact EB s2 _) (ae rfl _) ?_;refine G 2 ?_;rw[FQ,if_neg F] at ht;refine G 5 ?_;exact⟨mm-1,by omega,j+1,_,rfl,O,by omega,ht⟩
  .refine G 1 ?_;have hj8:j=8:=by omega
   subst hj8;have ht:s2=uC 8 s1:=ht;rw[<-ht] at hs;refine G 5 ?_;exact⟨b.length-(i+1),by omega,⟨i+1,s2,rfl,O,by omega,hs⟩⟩
 .refine G 1 ?_;have hil:b.drop i=[]:=ν (by omega);rw[hil] at hs;have hs:s=af:=hs;subst hs;refine G 3 ?_;refine φ (d:=lJ (~~~s)) (st1:=_) rfl rfl (by exact AD s _) (ae rfl _) ?_;refine G 2 ?_;unfold n3;rw[hR];exact M 0 trivial
def dX (b:List UInt8) (U:St):ς U 1 (lp b) (γ b):=(fJ.frozen (xP b) (gH b)).rows U
def DC {α:Type} {f:α->List UInt8} {n:Nat}:∀{l:List α},(∀x∈l,(f x).length<=n)->((l.map f).flatten).length<=n*l.length
 |[],_=>by simp
 |x::l,h=>by
  have ih:=DC (l:=l) λy hy=>h y (List.mem_cons_of_mem _ hy);have:=h x (χ ..);simp only[List.map_cons,List.flatten_cons,δ,μ,Nat.mul_add,QT];omega
variable{i:Nat}
def HD {α:Type} {f:α->List UInt8} {l:List α} {x:α} (h:l[i]?=some x):(((l.take (i+1)).map f).flatten)=((l.take i).map f).flatten++f x:=by
 rw[List.take_add_one,h,Option.toList_some,Θ,List.flatten_append];simp
structure jm where
 nm:List UInt8
 tx:List UInt8
def cD (p:jm):List D:=[.str p.nm,.str p.tx]
def jm.fit (p:jm):Prop:=p.nm.length<=1048576/\p.tx.length<=1048576
def gL (p:jm):List UInt8:=jb p.nm++jb p.tx
def na (l:List jm) (c:List UInt8):List UInt8:=gw (l.length:Nat)++((l.map gL).flatten++jb c)
def nA (t:List UInt8):(jb t).length<=9+t.length:=by unfold jb;have:=mA (t.length:Nat);rw[δ];omega
variable{p:jm}
def uP (h:p.fit):(gL p).length<=2097170:=by
 unfold gL;have:=nA p.nm;have:=nA p.tx;have:=h.1;have:=h.2;rw[δ];omega
def kG {s:Nat} {es:List (List D)} (h:ς U s x es):x.cells?=some [x]:=by cases h<;>rfl
variable{l:List jm}
def Av (h:l[i]?=some p):(l.map cD)[i]?=some (cD p):=by rw[τ,h];rfl
def NM (hx:ς Y 1 x (γ b)) (hl:b.length<=40000000000) (B:p.fit):
  Ev pv 64 [x,.agg (cD p)] Y (lp (b++gL p)) Y:=by
 have h1:=nA p.nm;have X:=B.1;have h3:b++gL p=(b++jb p.nm)++jb p.tx:=by unfold gL;rw[κ]
 rw[h3];refine Ev.sU rfl abX rfl rfl rfl ?_;refine zE ?_;obtain⟨aP,hF,O⟩:=ri Y;generalize aw .ro Y=S at*;have hx:=ψ hx aP;refine M 10 λk3 U A7 O=>?_;refine qv (vg (hx.rows O) (by omega) B.1) ?_;refine G 2 ?_;refine qv (vg (dX _ _) (by rw[δ];omega) B.2) ?_;exact M 2 trivial
variable{y:D}
def HW (hx:ς Y 1 x (γ b)) (hy:ς Y 2 y (l.map cD)) (hl:b.length<=30000000000) (pg:l.length<=1000) (uU:∀p∈l,p.fit):
  Ev pv 63 [x,y,.fn 64 []] Y (lp (b++(gw (l.length:Nat)++(l.map gL).flatten))) Y:=by
 have sB:=mA (l.length:Nat);refine zM abY λS aP hF O=>?_;have hx:=ψ hx aP;have hy:=ψ hy aP;refine M 9 ?_;obtain⟨wK,uY⟩:=O.My hF;obtain⟨d13,U,aK,ho⟩:=Ge (x:=x) (b:=b) wK uY (hx.rows O) (by omega) (l.length:Nat) (by omega);have O:=O.TO ho
 (try dsimp at O)
 refine M 11 ?_;refine ah.loop (λmm I U=>∃(i:Nat) (o:D) (E:List aX),I.clean=fL I 17 [(2,.fn 64 []),(4,o),(6,y),(0,.int .i64 (l.length:Nat)),(0,.int .i64 (i:Nat))]/\Has Y.bs.length S U (E)/\(i+mm=l.length)/\(E=[.ai o 1 (γ (b++(gw (l.length:Nat)++((l.take i).map gL).flatten)))]\/o=lp (b++(gw (l.length:Nat)++((l.take i).map gL).flatten)))) (l.length) ?_ ?_
 .exact⟨0,d13,_,rfl,(by simpa using O),by omega,.inl rfl⟩
 rintro mm I U ⟨i,o,E,hfr,O,hi,hE⟩;refine zK λee=>?_;refine G 5 ?_;refine zP (λhlt=>?_) λhlt=>?_
 .refine G 1 ?_
  obtain⟨v,hv⟩:=gx (l:=l) (i:=i)
  have TT:=QQ hv;have dO:=Av hv;have jg:=HD (f:=gL) hv;have I6:=DC (f:=gL) (n:=2097170) (l:=l.take i) (λx hx=>uP (uU x (QX hx)));have htl:(l.take i).length=i:=by rw[QV];omega
  have eY:(b++(gw (l.length:Nat)++((l.take i).map gL).flatten)).length<=40000000000:=by simp only[δ];omega
  have RM:b++(gw (l.length:Nat)++((l.take (i+1)).map gL).flatten)=(b++(gw (l.length:Nat)++((l.take i).map gL).flatten))++gL v:=by rw[jg];simp
  generalize hP:b++(gw (l.length:Nat)++((l.take i).map gL).flatten)=P at*
  have rL:∀{U:St},Has Y.bs.length S U E->ς U 1 o (γ P):=λh=>by
   rcases hE with rfl|rfl
   .exact h.rows aV
   .exact dX _ _
  refine M 8 λYw O5 k9 U TX O U O=>?_;dsimp[u2,u1,u3,u4,setMany,u5,u6,QW,ρ,cD] at O;refine M (t:=(NM (rL (O.drop 1)) eY (uU v TT))) 12 ?_;exact⟨mm-1,by omega,i+1,lp (P++gL v),[],rfl,(O.take 0),by omega,.inr (by rw[RM])⟩
 .refine G 1 ?_;rw[Q9 (by omega)] at hE;refine G 5 ?_;refine ah.ret ⟨rx,_,rfl,rl aP O ?_⟩
  rcases hE with rfl|rfl
  .exact O.oM aV (gH _) (by decide)
  .rfl
def Im {c:List UInt8} (hx:ς Y 1 x (γ b)) (hy:ς Y 2 y (l.map cD)) (hl:b.length<=30000000000) (pg:l.length<=1000) (uU:∀p∈l,p.fit) (hc:c.length<=1048576):
  Ev pv 33 [x,.agg [y,.str c]] Y (lp (b++na l c)) Y:=by
 have sB:=mA (l.length:Nat);have I6:=DC (f:=gL) (n:=2097170) (l:=l) (λx hx=>uP (uU x hx));have h3:b++na l c=(b++(gw (l.length:Nat)++(l.map gL).flatten))++jb c:=by unfold na;simp
 rw[h3];have hcl:=kG hy;refine Ev.sU rfl acr rfl rfl rfl ?_;refine zE ?_;obtain⟨aP,hF,O⟩:=ri Y;generalize aw .ro Y=S at*;have hx:=ψ hx aP;have hy:=ψ hy aP;refine M 10 λk3 U A7 O=>?_;refine qv (HW (hx.rows O) (hy.rows O) hl pg uU) ?_;refine G 7 ?_;refine qv (vg (dX _ _) (by simp only[δ];omega) hc) ?_;exact M 2 trivial
def EY {c:List UInt8} (hx:ς Y 1 x (γ b)) (hy:ς Y 2 y (l.map cD)) (hl:b.length<=30000000000) (pg:l.length<=1000) (uU:∀p∈l,p.fit) (hc:c.length<=1048576):
  Ev pv 36 [x,.agg [y,.str c]] Y (lp (b++na l c)) Y:=by
 have sB:=mA (l.length:Nat);have h3:b++na l c=(b++(gw (l.length:Nat)++(l.map gL).flatten))++jb c:=by unfold na;simp
 rw[h3];have hcl:=kG hy;refine zM aco λS aP hF O=>?_;have hx:=ψ hx aP;have hy:=ψ hy aP;refine M 11 λk3 U A7 O=>?_;obtain⟨wK,uY⟩:=O.My hF;obtain⟨d10,U,aK,ho⟩:=GA (x:=x) (b:=b) wK uY (hx.rows O) (by omega) (l.length:Nat) (by omega);have O:=O.TO ho
 (try dsimp at O)
 refine M 8 ?_;have O:Has Y.bs.length S U ([_]++[.ai d10 1 (γ (b++gw (l.length:Nat)))]):=Has.EN [_] [_] O;refine G 1 ?_;refine ah.loop (λmm I U=>∃(i:Nat) (o:D) (E:List aX),I.clean=fL I 6 [(0,o),(2,.ptr k3 0 0),(1,.int .i64 (i:Nat))]/\Has Y.bs.length S U (.box k3 (.mem 0 false [y,.str c])::E)/\(i+mm=l.length)/\(E=[.ai o 1 (γ (b++(gw (l.length:Nat)++((l.take i).map gL).flatten)))]\/o=lp (b++(gw (l.length:Nat)++((l.take i).map gL).flatten)))) (l.length) ?_ ?_
 .exact⟨0,d10,_,rfl,(by simpa using O),by omega,.inl rfl⟩
 rintro mm I U ⟨i,o,E,hfr,O,hi,hE⟩;rw[hfr];(try dsimp only[fL,fG,ρ]);clear hfr;generalize ay I=ee;clear I;have I6:=DC (f:=gL) (n:=2097170) (l:=l.take i) (λx hx=>uP (uU x (QX hx)));have htl:(l.take i).length<=1000:=by rw[QV];omega
 have eY:(b++(gw (l.length:Nat)++((l.take i).map gL).flatten)).length<=40000000000:=by simp only[δ];omega
 have rL:∀{U:St},Has Y.bs.length S U E->ς U 1 o (γ (b++(gw (l.length:Nat)++((l.take i).map gL).flatten))):=λh=>by
  rcases hE with rfl|rfl
  .exact h.rows aV
  .exact dX _ _
 refine M 9 ?_;refine zP (λhlt=>?_) λhlt=>?_
 .refine G 1 ?_
  obtain⟨v,hv⟩:=gx (l:=l) (i:=i)
  have TT:=QQ hv;have dO:=Av hv;have jg:=HD (f:=gL) hv;have RM:b++(gw (l.length:Nat)++((l.take (i+1)).map gL).flatten)=((b++(gw (l.length:Nat)++((l.take i).map gL).flatten))++jb v.nm)++jb v.tx:=by rw[jg];unfold gL;simp
  have hn:=uU v TT;have dZ:=nA v.nm;have hn3:=hn.1;generalize hP:b++(gw (l.length:Nat)++((l.take i).map gL).flatten)=P at*;refine M 10 λNu xF Qb Dg=>?_;refine qv (vK (rL (O.drop 1)) (by omega) hn.1) ?_;refine M 6 λRm Fx Yv O4=>?_;refine qv (vK (dX _ _) (by rw[δ];omega) hn.2) ?_;refine G 7 ?_;exact⟨mm-1,by omega,i+1,_,[],rfl,(O.take 1),by omega,.inr (by rw[RM])⟩
 .refine G 1 ?_;rw[Q9 (by omega)] at hE rL eY;exact M (t:=(vK (rL (O.drop 1)) (by omega) hc)) 8 trivial
inductive PR (α:Type) where
 |ok (a:α) (i:Nat)
 |er (e:Int) (w:Nat)
def uo:List Rg->Int->List Rg
 |[],n=>[(n,1114111)]
 |q::m,n=>(n,aR .i32 (q.1-1))::uo m (aR .i32 (q.2+1))
noncomputable def kY (l:List Rg):List Rg:=bB (uo (bB l) 0)
theorem CK:∀(l:List Rg) (n:Int),(uo l n).length=l.length+1
 |[],_=>rfl
 |q::m,n=>by simp[uo,CK m]
def T_.zD {hk hp:Prop} (e:hk->hp:=by intro h;dsimp only[u2,u1,u3,u4,setMany,u5,u6,D.cells,Nat.reduceAdd,ak] at h;exact h):hk->hp:=e
def uT {l:List Rg} (hx:ς Y 2 x (l.map ak)) (hl:l.length<=131072):Ev pv 159 [x] Y (az (kY l)) Y/\(kY l).length<=4*l.length+2:=by
 open T_ in
 suffices hg:∃d,Ev pv 159 [x] Y d Y/\d=az (kY l)/\(kY l).length<=4*l.length+2 by
  obtain⟨d,h1,rfl,X⟩:=hg;exact⟨h1,X⟩
 have hN:kY l=bB (uo (bB l) 0):=rfl;refine Ev.Yz rfl Xe rfl rfl rfl ?_;refine zE ?_;obtain⟨aP,hF,O⟩:=ri Y;generalize aw .ro Y=S at*;have hx:=ψ hx aP;refine G 12 ?_;obtain⟨aK,mG,_⟩:=o_ (hx.rows O) (by omega);have hla:=(dU (bB l)).arg Y.bs.length S;generalize bB l=m at*;refine G 4 ?_;refine qv (aK) ?_;refine qn ?_;simp only[ξ];refine G 2 ?_;have O:=O.cY 2;refine G 1 ?_;refine ah.loop (λmm I U=>∃(i:Nat) (n:Int) (o:D) (out:List Rg),I.clean=fL I 11 [(3,o),(0,.int .i32 n),(3,az m),(0,.int .i64 (m.length:Nat)),(0,.int .i64 (i:Nat))]/\Has Y.bs.length S U [.ai o 2 (out.map ak)]/\(i+mm=m.length)/\(out.length=i)/\(out++uo (m.drop i) n=uo m 0)) (m.length) ?_ ?_
 .exact⟨0,0,.nul,[],rfl,O,by omega,rfl,rfl⟩
 rintro mm I U ⟨i,n,o,out,hfr,O,hi,ho,hn⟩;refine zK λee=>?_;refine G 5 ?_;refine zP (λh1=>?_) λh1=>?_
 .refine G 1 ?_
  obtain⟨q,hq⟩:=gx (l:=m) (i:=i)
  have hr:=db hq
  have qd:m.drop i=q::m.drop (i+1):=by
   have:=ο (l:=m) (i:=i) (by omega);rw[this];congr 1;rw[θ (by omega)] at hq;exact Φ.inj hq
  rw[qd] at hn;refine M 15 λRo Dj k6 U L' O U O=>?_;refine u.Aa (z:=aR .i32 (q.1-1)) rfl (ev rfl) (ev rfl) rfl (ae rfl _) ?_;refine M 8 λk20 U Wn O Ze U O=>?_;refine u.uE (z:=aR .i32 (q.2+1)) rfl (ev rfl) (ev rfl) rfl (ae rfl _) ?_;refine G 6 ?_;exact⟨mm-1,by omega,i+1,_,_,out++[(n,aR .i32 (q.1-1))],rfl,(by rw[Θ];exact O.drop 2),by omega,by simp[ho],(by rw[<-hn,κ];rfl)⟩
 .refine G 1 ?_;have sD:m.drop i=[]:=ν (by omega);rw[sD] at hn;have hn:out++[(n,1114111)]=uo m 0:=hn;refine M 7 λk29 U aaY O Zd U O=>?_;obtain⟨aK,tY,_⟩:=o_ (l:=out++[(n,1114111)]) (by rw[Θ];exact O.rows bf) (by simp;omega);refine M 3 ?_;rw[hn] at tY|-;refine ah.ret ⟨rx,_,_,rfl,rl aP O (rfl),?_⟩;rw[CK] at tY;exact⟨by rw[hN];rfl,by rw[hN];omega⟩
noncomputable def uA:List Rg:=kY [(10,10)]
def HG:Ev pv 137 [] Y (az uA) Y/\uA.length<=6:=by
 have hl:(kY [(10,10)]).length<=4*1+2:=(uT (Y:=Y) (dU [(10,10)]|>.rows Y) (by simp)).2;refine⟨?_,hl⟩;unfold uA;refine zM Xy λS aP hF O=>?_;refine M 7 ?_;refine qh (s:=2) (vs:=[_]) O λk2 U jn O=>?_;obtain⟨aK,_⟩:=uT (l:=[(10,10)]) (O.rows aV) (by simp);exact M 3 trivial
def nP (a b:List UInt8):Bool:=decide ((a.length:Int)<b.length)||(((a.length:Int)==b.length) &&Op.bytesLess a b)
def Lo (a b:List UInt8):Ev pv 140 [.str a,.str b] Y (.bool (nP a b)) Y:=by
 unfold nP;refine zM Xw λS aP hF O=>?_;refine G 5 ?_;refine ah.ni 4 (.bool (decide ((a.length:Int)<b.length)||(((a.length:Int)==b.length) &&Op.bytesLess a b))) [] ?_ (λff tmp=>?_)
 .refine M 6 ?_;refine y2 10 (λiF=>?_) λiF=>?_
  .refine M 14 ?_
   all_goals(simp_all;done)
  .refine G 1 ?_;refine u.B3 (wi iF) rfl rfl (ae rfl _) ?_;refine G 1 ?_;refine u.B3 (wi iF) rfl rfl (ae rfl _) ?_;refine G 2 ?_;refine y2 16 (λdS=>?_) λdS=>?_
   .refine M 8 ?_
    all_goals(simp_all;done)
   .refine M 8 ?_
    all_goals(simp_all;done)
 dsimp only[aC,List.foldl,nth,u2,u1];exact M 0 trivial
def zL:List UInt8->Int->Int
 |[],n=>n
 |c::l,n=>zL l (aR .i64 (aR .i64 (10*n)+aR .i64 (aR .u8 ((c.toNat:Nat)-48))))
def fg (b:List UInt8):Int×Bool:=if 2<b.length then(0,false) else(zL b 0,decide (zL b 0<=30))
def og (b:List UInt8) (F:b.length<=1048576):Ev pv 141 [.str b] Y (.tup [.int .i64 (fg b).1,.bool (fg b).2]) Y:=by
 suffices hg:∃d,Ev pv 141 [.str b] Y d Y/\d=.tup [.int .i64 (fg b).1,.bool (fg b).2] by
  obtain⟨d,h1,rfl⟩:=hg;exact h1
 unfold fg;refine zM Xv λS aP hF O=>?_;refine M 12 ?_;refine zP (λh0=>?_) λh0=>?_
 .rw[if_pos (by omega)];refine M 6 ?_
  rfl
 .rw[if_neg (by omega)];refine M 13 ?_;refine ah.loop (λmm I U=>∃(i:Nat) (n:Int),I.clean=fL I 12 [(0,.str b),(3,.int .i64 n),(5,.int .i64 (b.length:Nat)),(0,.int .i64 (i:Nat))]/\Has Y.bs.length S U []/\(i+mm=b.length)/\(zL (b.drop i) n=zL b 0)) (b.length) ?_ ?_
  .exact⟨0,0,rfl,O,by omega,rfl⟩
  rintro mm I U ⟨i,n,hfr,O,hi,hn⟩;refine zK λee=>?_;refine G 5 ?_;refine zP (λh1=>?_) λh1=>?_
  .refine G 1 ?_
   obtain⟨c,hc⟩:=gx (l:=b) (i:=i)
   have qd:b.drop i=c::b.drop (i+1):=by
    have:=ο (l:=b) (i:=i) (by omega);rw[this];congr 1;rw[θ (by omega)] at hc;exact Φ.inj hc
   rw[qd] at hn;refine G 9 ?_;refine u.vT (z:=aR .i64 (10*n)) rfl (ev rfl) (ev rfl) rfl (ae rfl _) ?_;refine G 2 ?_;refine u.UP rfl (ev rfl) (ev rfl) rfl (by assumption) (ae rfl _) ?_;refine qg (d:=.int .u8 (aR .u8 ((c.toNat:Nat)-48))) ?_;refine qg ?_;refine u.uE (z:=aR .i64 (aR .i64 (10*n)+aR .i64 (aR .u8 ((c.toNat:Nat)-48)))) rfl (ev rfl) (ev rfl) rfl (ae rfl _) ?_;refine G 6 ?_;exact⟨mm-1,by omega,i+1,_,rfl,O,by omega,hn⟩
  .refine G 1 ?_;have sD:b.drop i=[]:=ν (by omega);rw[sD] at hn;have hn:n=zL b 0:=hn;rw[<-hn];refine M 9 ?_
   rfl
def ga {α:Type} (af:PR α) (a_:List Int) (s':fw):Prop:=∃e w,af=.er e w/\e≠0/\s'.e=e/\s'.w=a_.getD w 0
variable{a_:List Int}{s':fw}
theorem ga.ne {α:Type} {af:PR α} (h:ga af a_ s'):s'.e≠0:=by
 obtain⟨e,w,_,h1,X,_⟩:=h;rw[X];exact h1
theorem ga.map {α β:Type} {af:PR α} {R':PR β} (h:ga af a_ s') (hR:∀e w,af=.er e w->R'=.er e w):ga R' a_ s':=by
 obtain⟨e,w,h0,h1,X,h3⟩:=h;exact⟨e,w,hR e w h0,h1,X,h3⟩
variable{s:fw}
def iY {α:Type} {af:PR α} (he:s.e=0) (h:e≠0) (hR:af=.er e i):ga af a_ (kV a_ s i e)/\(kV a_ s i e).i=s.i/\(kV a_ s i e).o=s.o/\(kV a_ s i e).g=s.g:=by
 unfold kV;rw[if_pos he];exact⟨⟨e,i,hR,h,rfl,rfl⟩,rfl,rfl,rfl⟩
def ft (gs:List (Nat×Nat)) (i:Nat):List Int:=(gs.map λg=>((g.1:Nat):Int)).drop i
variable{N k:Nat}{S:St}{H:List aX}{gs:List (Nat×Nat)}{bP:D}
def w6 (nS:gs.length<=120) (hi:s.i<=gs.length) (hne:gs≠[]) (O:Has N S Y (.box k (.mem 0 false (bH gs bP s))::H)):
  ∃d R,Ev pv 139 [.ptr k 0 0] Y d R/\d=.tup [.str (digS (ft gs s.i) []).1,.bool (decide (0<(digS (ft gs s.i) []).2))]/\(digS (ft gs s.i) []).1.length<=120/\s.i+(digS (ft gs s.i) []).2<=gs.length/\Has N S R (.box k (.mem 0 false (bH gs bP {s with i:=s.i+(digS (ft gs s.i) []).2}))::H):=by
 have F:=O.at aV;have hw:=iB (cs:=[.int .i64 0]) O (O.ge aV).1 (.inr rfl);have hl:=w7 (ft gs s.i) [];unfold ft at*;obtain⟨h1,X⟩:=hl;simp only[Ψ,ξ,π] at h1 X;refine⟨_,_,Ev.jG rfl ?_,rfl,by omega,by omega,O.EH (aj:=0) aV⟩
 have hd:decide ((gs.map λg=>((g.1:Nat):Int))≠[]/\(0:Int)<=(s.i:Nat)/\((s.i:Nat):Int).toNat<=(gs.map λg=>((g.1:Nat):Int)).length/\(gs.map λg=>((g.1:Nat):Int)).length<1099511627776)=true:=by
  rw[decide_eq_true];refine⟨by simpa using hne,by omega,by simp;omega,by simp;omega⟩
 show xM [.ptr k 0 0] Y=_;simp only[xM,St.mem_of F];show(match ml ((gs.map bz).map (jK 2)) with|some rs=>Pu Y k 0 0 rs (s.i:Nat)|none=>none)=_;rw[tG];simp only[Pu,hd];have hwr:=nx (cs:=[.int .i64 ((s.i+(digS ((gs.map λg=>((g.1:Nat):Int)).drop s.i) []).2:Nat))]) (off:=2) F (by show 2+1<=7;omega) hw;simp only[Int.toNat_natCast,Nat.zero_add];rw[hwr]
 rfl
noncomputable def lH (gs:List (Nat×Nat)) (f:Nat):PR (List Rg×Bool):=
 match gs[f+1]? with
 |none=>.er 4 f
 |some g=>
  if Bs gs (f+1)=true then .er 4 (f+1)
  else if((g.1:Nat):Int)=110 then .ok (bB [(10,10)],true) (f+2)
  else if((g.1:Nat):Int)=116 then .ok (bB [(9,9)],true) (f+2)
  else if((g.1:Nat):Int)=114 then .ok (bB [(13,13)],true) (f+2)
  else if((g.1:Nat):Int)=100 then .ok (bB [(48,57)],false) (f+2)
  else if((g.1:Nat):Int)=115 then .ok (bB [(9,10),(13,13),(32,32)],false) (f+2)
  else if((g.1:Nat):Int)=119 then .ok (bB [(48,57),(65,90),(95,95),(97,122)],false) (f+2)
  else if(33<=((g.1:Nat):Int)/\((g.1:Nat):Int)<=47\/58<=((g.1:Nat):Int)/\((g.1:Nat):Int)<=64\/91<=((g.1:Nat):Int)/\((g.1:Nat):Int)<=96\/123<=((g.1:Nat):Int)/\((g.1:Nat):Int)<=126) then .ok (bB [(((g.1:Nat):Int),((g.1:Nat):Int))],true) (f+2)
  else .er 4 f
def QO (gs:List (Nat×Nat)) (a_:List Int) (af:PR (List Rg×Bool)) (s s':fw) (d1:D) (b:Bool):Prop:=
 s'.o=s.o/\s'.g=s.g/\s.i<=s'.i/\s'.i<=gs.length/\(ga af a_ s'/\d1=.nul\/s'.e=0/\s.i<s'.i/\∃a,af=.ok (a,b) s'.i/\d1=az a/\a.length<=8/\a≠[])
def B5 (bK:oa gs a_) (he:s.e=0) (hi:s.i<gs.length) (O:Has N S Y (.box k (.mem 0 false (bH gs bP s))::.ai bP 1 (a_.map av)::H)):
  ∃d R,Ev pv 136 [.ptr k 0 0] Y d R/\∃(d1:D) (b:Bool) (s':fw),d=.tup [d1,.bool b]/\QO gs a_ (lH gs s.i) s s' d1 b/\Has N S R (.box k (.mem 0 false (bH gs bP s'))::.ai bP 1 (a_.map av)::H):=by
 have nS:=bK.gl;have eY:=bK.pl;refine Ev.sv rfl Xz rfl rfl rfl ?_;refine zE ?_;have br:=O;have O:=O.HF;have bj:(aw .rw Y).bs=Y.bs:=rfl;generalize aw .rw Y=S2 at*;have xq:Arg N S2 2 (gC gs) (gs.map bz):=QG (λU=>eZ U gs);refine G 22 ?_;refine qT O aV λU O=>?_;dsimp[u2,u1,u3,u4,setMany,u5,u6,QW,ρ,bH,bz,av,ak] at O;refine G 12 ?_;refine qn ?_;simp only[ξ];refine G 2 ?_;refine zP (λh0=>?_) λh0=>?_
 .have hv:lH gs s.i=.er 4 s.i:=by
   unfold lH;rw[List.getElem?_eq_none (by omega)]
  refine G 4 ?_;obtain⟨_,U,aK,rfl,O⟩:=fK (s:={s with i:=s.i+1}) s.i 4 (by omega) O;refine qv aK ?_;refine G 6 ?_;obtain⟨h1,X,h3,h4⟩:=iY (a_:=a_) (s:={s with i:=s.i+1}) (i:=s.i) (e:=4) he (by decide) hv;refine ah.ret ⟨rx,_,_,_,rfl,aH (rfl),?_⟩;exact⟨_,_,_,rfl,⟨h3,h4,by rw[X];simp,by rw[X];exact hi,.inl ⟨h1,rfl⟩⟩,br.ag bj O⟩
 .obtain⟨g,hg⟩:∃g,gs[s.i+1]?=some g:=⟨gs[s.i+1]'(by omega),θ _⟩
  have dO:(gs.map bz)[s.i+1]?=some (bz g):=by rw[τ,hg];rfl
  have hlt:=cI hg;have hv:lH gs s.i=lH gs s.i:=rfl
  conv at hv=>rhs;unfold lH;simp only[hg]
  refine G 9 ?_;obtain⟨_,U,aK,rfl,O⟩:=F7 (s:={s with i:=s.i+1}) (s.i+1) hlt O;refine M 2 ?_;dsimp only[bH] at O;refine qc (λF=>?_) (λF=>?_)<;>try simp only[cs] at F
  .rw[if_pos F] at hv;refine G 7 ?_;obtain⟨_,U,aK,rfl,O⟩:=fK (s:={s with i:=s.i+1}) (s.i+1) 4 (by omega) O;refine M 7 ?_;obtain⟨h1,X,h3,h4⟩:=iY (a_:=a_) (s:={s with i:=s.i+1}) (i:=s.i+1) (e:=4) he (by decide) hv;refine ah.ret ⟨rx,_,_,_,rfl,aH (rfl),?_⟩;exact⟨_,_,_,rfl,⟨h3,h4,by rw[X];simp,by rw[X];exact hi,.inl ⟨h1,rfl⟩⟩,br.ag bj O⟩
  .rw[if_neg (by rw[F];simp)] at hv;refine M 32 λYt O1 UY I0 U O=>?_
   have dC:∀(a:List Rg) (b:Bool),lH gs s.i=.ok (a,b) (s.i+2)->a.length<=8->a≠[]->QO gs a_ (lH gs s.i) s {s with i:=s.i+1+1} (az a) b:=λa b h0 h1 X=>⟨rfl,rfl,by show s.i<=s.i+1+1;omega,by show s.i+1+1<=_;omega,.inr ⟨he,by show s.i<s.i+1+1;omega,a,h0,rfl,h1,X⟩⟩
   have jv:∀(r:Int),0<=r->r<55296->(bB [(r,r)]).length<=8/\bB [(r,r)]≠[]:=by
    intro r h1 X;obtain⟨_,h3,h4⟩:=o_ (Y:=Y) (x:=az [(r,r)]) (l:=[(r,r)]) (bC _ _) (by simp);exact⟨by simp at h3;omega,CT h1 X h4⟩
   refine G 6 ?_;refine zI (λq1=>?_) λq1=>?_
   .rw[if_pos q1] at hv;refine M (t:=(lG 10)) 7 ?_;exact⟨_,_,_,rfl,dC _ _ hv (jv 10 (by decide) (by decide)).1 (jv 10 (by decide) (by decide)).2,br.ag bj O⟩
   .rw[if_neg q1] at hv;refine G 5 ?_;refine zI (λq2=>?_) λq2=>?_
    .rw[if_pos q2] at hv;refine M (t:=(lG 9)) 7 ?_;exact⟨_,_,_,rfl,dC _ _ hv (jv 9 (by decide) (by decide)).1 (jv 9 (by decide) (by decide)).2,br.ag bj O⟩
    .rw[if_neg q2] at hv;refine G 5 ?_;refine zI (λq3=>?_) λq3=>?_
     .rw[if_pos q3] at hv;refine M (t:=(lG 13)) 7 ?_;exact⟨_,_,_,rfl,dC _ _ hv (jv 13 (by decide) (by decide)).1 (jv 13 (by decide) (by decide)).2,br.ag bj O⟩
     .rw[if_neg q3] at hv;refine G 5 ?_;refine zI (λq4=>?_) λq4=>?_
      .rw[if_pos q4] at hv;refine M 3 ?_;refine qh (s:=2) (vs:=[_]) O λk73 U ad7 O=>?_;obtain⟨aK,hl,JG⟩:=o_ (l:=[(48,57)]) (O.rows aV) (by simp);refine M 5 ?_;exact⟨_,_,_,rfl,dC _ _ hv (by simp at hl;omega) (AK (r:=48) (by decide) (by decide) ⟨_,χ ..,by decide,by decide⟩ JG),br.ag bj (O.drop 1)⟩
      .rw[if_neg q4] at hv;refine G 5 ?_;refine zI (λq5=>?_) λq5=>?_
       .rw[if_pos q5] at hv;refine M 5 ?_;refine qh (s:=2) (vs:=[_,_,_]) O λk80 U ad5 O=>?_;obtain⟨aK,hl,JG⟩:=o_ (l:=[(9,10),(13,13),(32,32)]) (O.rows aV) (by simp);refine M 5 ?_;exact⟨_,_,_,rfl,dC _ _ hv (by simp at hl;omega) (AK (r:=9) (by decide) (by decide) ⟨_,χ ..,by decide,by decide⟩ JG),br.ag bj (O.drop 1)⟩
       .rw[if_neg q5] at hv;refine G 5 ?_;refine zI (λq6=>?_) λq6=>?_
        .rw[if_pos q6] at hv;refine M 6 ?_;refine qh (s:=2) (vs:=[_,_,_,_]) O λk88 U Wd O=>?_;obtain⟨aK,hl,JG⟩:=o_ (l:=[(48,57),(65,90),(95,95),(97,122)]) (O.rows aV) (by simp);refine M 5 ?_;exact⟨_,_,_,rfl,dC _ _ hv (by simp at hl;omega) (AK (r:=48) (by decide) (by decide) ⟨_,χ ..,by decide,by decide⟩ JG),br.ag bj (O.drop 1)⟩
        .rw[if_neg q6] at hv;refine M (t:=(OE _)) 8 ?_;refine ah.cond (by rfl) (λq7=>?_) (λq7=>?_)<;>try simp only[decide_eq_true_eq,decide_eq_false_iff_not,Bool.not_eq_true',Bool.not_eq_false'] at q7
         .rw[if_neg q7] at hv;refine G 4 ?_;obtain⟨_,U,aK,rfl,O⟩:=fK (s:={s with i:=s.i+1+1}) s.i 4 (by omega) O;refine M 7 ?_;obtain⟨h1,X,h3,h4⟩:=iY (a_:=a_) (s:={s with i:=s.i+1+1}) (i:=s.i) (e:=4) he (by decide) hv;refine ah.ret ⟨rx,_,_,_,rfl,aH (rfl),?_⟩;exact⟨_,_,_,rfl,⟨h3,h4,by rw[X];show s.i<=s.i+1+1;omega,by rw[X];show s.i+1+1<=_;omega,.inl ⟨h1,rfl⟩⟩,br.ag bj O⟩
         .rw[if_pos q7] at hv;refine M (t:=(lG _)) 8 ?_;have hm:=jv ((g.1:Nat):Int) (by omega) (by omega);refine ah.ret ⟨rx,_,_,_,rfl,aH (rfl),?_⟩;exact⟨_,_,_,rfl,dC _ _ hv hm.1 hm.2,br.ag bj O⟩
noncomputable def fR (gs:List (Nat×Nat)) (i:Nat):PR (Option (List Rg×Bool)):=
 match gs[i]? with
 |none=>.er 4 i
 |some g=>
  if Bs gs i=true then .er 4 i
  else if((g.1:Nat):Int)=92 then
   match lH gs i with
   | .ok (a,b) j=>.ok (some (a,b)) j
   | .er e w=>.er e w
  else if((g.1:Nat):Int)=91\/((g.1:Nat):Int)=93\/((g.1:Nat):Int)=45 then .ok none i
  else .ok (some ([(((g.1:Nat):Int),((g.1:Nat):Int))],true)) (i+1)
def Yj (gs:List (Nat×Nat)) (a_:List Int) (af:PR (Option (List Rg×Bool))) (s s':fw) (d1:D) (b:Bool):Prop:=
 s'.o=s.o/\s'.g=s.g/\s.i<=s'.i/\s'.i<=gs.length/\(ga af a_ s'/\d1=.nul\/(s'=s/\af=.ok none s.i/\d1=.nul/\b=false)\/(s'.e=0/\s.i<s'.i/\∃a,af=.ok (some (a,b)) s'.i/\d1=az a/\a.length<=8/\a≠[]))
def CB (bK:oa gs a_) (he:s.e=0) (hi:s.i<gs.length) (O:Has N S Y (.box k (.mem 0 false (bH gs bP s))::.ai bP 1 (a_.map av)::H)):
  ∃d R,Ev pv 170 [.ptr k 0 0] Y d R/\∃(d1:D) (b:Bool) (s':fw),d=.tup [d1,.bool b]/\Yj gs a_ (fR gs s.i) s s' d1 b/\Has N S R (.box k (.mem 0 false (bH gs bP s'))::.ai bP 1 (a_.map av)::H):=by
 have nS:=bK.gl;have eY:=bK.pl;have br:=O;refine zO W9 λS2 bj O=>?_;have xq:Arg N S2 2 (gC gs) (gs.map bz):=QG (λU=>eZ U gs)
 obtain⟨g,hg⟩:∃g,gs[s.i]?=some g:=⟨gs[s.i]'hi,θ _⟩
 have dO:(gs.map bz)[s.i]?=some (bz g):=by rw[τ,hg];rfl
 have hv:fR gs s.i=fR gs s.i:=rfl
 conv at hv=>rhs;unfold fR;simp only[hg]
 refine G 13 ?_;obtain⟨_,U,aK,rfl,O⟩:=F7 (s:=s) s.i hi O;refine M 2 ?_;refine qc (λF=>?_) (λF=>?_)<;>try simp only[cs] at F
 .rw[if_pos F] at hv;refine G 7 ?_;obtain⟨_,U,aK,rfl,O⟩:=fK (s:=s) s.i 4 (by omega) O;refine M 7 ?_;obtain⟨h1,X,h3,h4⟩:=iY (a_:=a_) (s:=s) (i:=s.i) (e:=4) he (by decide) hv;refine ah.ret ⟨rx,_,_,_,rfl,aH (rfl),?_⟩;exact⟨_,_,_,rfl,⟨h3,h4,by rw[X];exact η _,by rw[X];omega,.inl ⟨h1,rfl⟩⟩,br.ag bj O⟩
 .rw[if_neg (by rw[F];simp)] at hv;refine M 26 λU0 LU TM I4=>?_;refine zI (λq1=>?_) λq1=>?_
  .rw[if_pos q1] at hv;refine G 3 ?_;obtain⟨_,U,aK,d1,b,s',rfl,⟨p1,p2,p3,p4,p5⟩,O⟩:=B5 (s:=s) bK he hi O;refine M 6 ?_
   rcases p5 with⟨p5,rfl⟩|⟨p5,p6,a,p7,rfl,p8,p9⟩
   .refine ah.ret ⟨rx,_,_,_,rfl,aH (rfl),?_⟩;exact⟨_,_,_,rfl,⟨p1,p2,p3,p4,.inl ⟨p5.map λe w h=>by rw[hv,h],rfl⟩⟩,br.ag bj O⟩
   .refine ah.ret ⟨rx,_,_,_,rfl,aH (rfl),?_⟩;exact⟨_,_,_,rfl,⟨p1,p2,p3,p4,.inr (.inr ⟨p5,p6,a,by rw[hv,p7],rfl,p8,p9⟩)⟩,br.ag bj O⟩
  .rw[if_neg q1] at hv;refine G 6 ?_
   by_cases Ed:((g.1:Nat):Int)=91
   .rw[if_pos (.inl Ed)] at hv;refine vX ?_;refine G 1 ?_;refine vX ?_;refine M 6 ?_;exact⟨_,_,s,rfl,⟨rfl,rfl,η _,by omega,.inr (.inl ⟨rfl,hv,rfl,rfl⟩)⟩,br.ag bj O⟩
   refine vY ?_;refine G 5 ?_
   by_cases US:((g.1:Nat):Int)=93
   .rw[if_pos (.inr (.inl US))] at hv;refine vX ?_;refine G 1 ?_;refine vX ?_;refine M 6 ?_;exact⟨_,_,s,rfl,⟨rfl,rfl,η _,by omega,.inr (.inl ⟨rfl,hv,rfl,rfl⟩)⟩,br.ag bj O⟩
   refine vY ?_;refine G 4 ?_
   by_cases P9:((g.1:Nat):Int)=45
   .rw[if_pos (.inr (.inr P9))] at hv;refine vX ?_;refine M 6 ?_;exact⟨_,_,s,rfl,⟨rfl,rfl,η _,by omega,.inr (.inl ⟨rfl,hv,rfl,rfl⟩)⟩,br.ag bj O⟩
   refine vY ?_;rw[if_neg (by rintro(h|h|h);exact Ed h;exact US h;exact P9 h)] at hv;refine M 20 λU O k39 U aef O=>?_;have O:Has N S2 U (.ai (.win k39 0 0 1 2) 2 (([((g.1:Nat),(g.1:Nat))]:List Rg).map ak)::.box k (.mem 0 false (bH gs bP {s with i:=s.i+1}))::.ai bP 1 (a_.map av)::H):=O;have hfz:=kM O aV (L:=Y.bs.length) (n:=15) (λk A=>by simp only[D.ref] at A;rw[<-bj];omega) (by decide)
   have Su:aB U Y.bs.length true 16 (qP [.win k39 0 0 1 2,.bool true])=some (.tup [az [(((g.1:Nat):Int),((g.1:Nat):Int))],.bool true]):=by
    show(cE (aB U Y.bs.length true 15) [.win k39 0 0 1 2,.bool true]).map D.tup=_;simp only[cE,za,hfz];rfl
   refine ah.ret ⟨rx,_,_,_,rfl,aH Su,⟨_,_,{s with i:=s.i+1},rfl,⟨rfl,rfl,?_,?_,.inr (.inr ⟨he,?_,_,hv,rfl,by simp,by simp⟩)⟩,br.ag bj (O.drop 1)⟩⟩
   .show s.i<=s.i+1;omega
   .show s.i+1<=_;omega
   .show s.i<s.i+1;omega
def CZ:List Rg->Int
 |[]=>0
 |q::_=>q.1
noncomputable def gA (gs:List (Nat×Nat)) (i:Nat):PR (List Rg):=
 match fR gs i with
 | .er e w=>.er e w
 | .ok none _=>.er 4 i
 | .ok (some (a,one)) j=>
  if cy gs j 45=true then
   if j+1<gs.length then
    match fR gs (j+1) with
    | .er e w=>.er e w
    | .ok none _=>.er 4 i
    | .ok (some (b,two)) l=>if one=true/\two=true/\CZ a<=CZ b then .ok [(CZ a,CZ b)] l else .er 4 i
   else .er 4 i
  else .ok a j
def QR (gs:List (Nat×Nat)) (a_:List Int) (af:PR (List Rg)) (s s':fw) (d:D):Prop:=
 s'.o=s.o/\s'.g=s.g/\s.i<=s'.i/\s'.i<=gs.length/\∃a:List Rg,d=az a/\a.length<=8/\(ga af a_ s'\/s'.e=0/\s.i<s'.i/\af=.ok a s'.i)
def Ly (bK:oa gs a_) (he:s.e=0) (hi:s.i<gs.length) (O:Has N S Y (.box k (.mem 0 false (bH gs bP s))::.ai bP 1 (a_.map av)::H)):
  ∃d R,Ev pv 158 [.ptr k 0 0] Y d R/\∃(s':fw),QR gs a_ (gA gs s.i) s s' d/\Has N S R (.box k (.mem 0 false (bH gs bP s'))::.ai bP 1 (a_.map av)::H):=by
 have nS:=bK.gl;have eY:=bK.pl;have br:=O;refine zO Xf λS2 bj O=>?_;have xq:Arg N S2 2 (gC gs) (gs.map bz):=QG (λU=>eZ U gs)
 have hwr:∀(U:St) (s3:fw),s3.e=0->gA gs s.i=.er 4 s.i->s3.o=s.o->s3.g=s.g->s.i<=s3.i->s3.i<=gs.length->Has N S2 U (.box k (.mem 0 false (bH gs bP s3))::.ai bP 1 (a_.map av)::H)->∃d R,Ev pv 43 [.ptr k 0 0,.int .i64 (s.i:Nat),.int .i64 4] U d R/\d=.sl []/\∃s4:fw,s4.e≠0/\QR gs a_ (gA gs s.i) s s4 (.sl [])/\Has N S2 R (.box k (.mem 0 false (bH gs bP s4))::.ai bP 1 (a_.map av)::H):=by
  intro U s3 h1 hv X h3 h4 h5 O;obtain⟨d,R,aK,h6,O⟩:=fK (s:=s3) s.i 4 (by omega) O;obtain⟨w1,w2,w3,w4⟩:=iY (a_:=a_) (s:=s3) (i:=s.i) (e:=4) h1 (by decide) hv;exact⟨d,R,aK,h6,_,w1.ne,⟨w3.trans X,w4.trans h3,by omega,by omega,[],rfl,by simp,.inl w1⟩,O⟩
 have uW:gA gs s.i=match fR gs s.i with
  | .er e w=>.er e w
  | .ok none _=>.er 4 s.i
  | .ok (some (a,one)) j=>
   if cy gs j 45=true then
    if j+1<gs.length then
     match fR gs (j+1) with
     | .er e w=>.er e w
     | .ok none _=>.er 4 s.i
     | .ok (some (b,two)) l=>if one=true/\two=true/\CZ a<=CZ b then .ok [(CZ a,CZ b)] l else .er 4 s.i
    else .er 4 s.i
   else .ok a j:=rfl
 refine G 15 ?_;obtain⟨_,U,aK,d1,b,s1,rfl,⟨p1,p2,p3,p4,p5⟩,O⟩:=CB (s:=s) bK he hi O;refine M 16 ?_
 rcases p5 with⟨p5,rfl⟩|⟨e1,e2,rfl,rfl⟩|⟨p6,p7,a,e2,rfl,p8,p9⟩
 .have hne:=p5.ne;refine vX ?_;refine M 5 ?_;exact⟨s1,⟨p1,p2,p3,p4,[],rfl,by simp,.inl (p5.map λe w h=>by rw[uW,h])⟩,br.ag bj O⟩
 .rw[e2] at uW;simp only at uW;have e3:s1.e=0:=by rw[e1];exact he
  refine vY ?_;refine G 5 ?_;refine qg (d:=.bool true) ?_;refine G 6 ?_;obtain⟨_,U,aK,rfl,s4,adU,hX,O⟩:=hwr _ s1 e3 uW p1 p2 p3 p4 O;refine M 7 ?_;exact⟨s4,hX,br.ag bj O⟩
 .rw[e2] at uW;simp only at uW;obtain⟨q,a',rfl⟩:∃q a',a=q::a':=Q4 p9;refine vY ?_;refine G 5 ?_;refine qg (d:=.bool false) ?_;refine G 3 ?_;obtain⟨k1,k2,k3,k4,k5⟩:=jq (gs:=gs) (s:=s1) (r:=45);have k5:=k5 p4;refine G 4 ?_;obtain⟨_,U,aK,rfl,O⟩:=fq (s:=s1) (by omega) 45 O;refine M 3 ?_;have JC:cy gs s1.i 45=true->(cu gs s1 45).i=s1.i+1:=λh=>by unfold cu;rw[if_pos h]
  have jg:cy gs s1.i 45=false->(cu gs s1 45).i=s1.i:=λh=>by unfold cu;rw[if_neg (by rw[h];simp)]
  generalize cu gs s1 45=s2 at*
  cases F:cy gs s1.i 45 with
  |false=>
   have jg:=jg F;rw[F,if_neg (by simp),<-jg] at uW;refine M 7 ?_;exact⟨s2,⟨k1.trans p1,k2.trans p2,by omega,k5,q::a',rfl,p8,.inr ⟨k3.trans p6,by omega,uW⟩⟩,br.ag bj O⟩
  |true=>
   have JC:=JC F;rw[F,if_pos rfl,<-JC] at uW;refine G 21 ?_;refine qn ?_;simp only[ξ];refine G 2 ?_;refine ah.merge (λI U=>∃(d2:D) (two:Bool) (s3:fw) (tmp:List (Nat×D)),I=⟨8,[.ptr k 0 0,ay I 1,ay I 2,.int .i64 (s.i:Nat),az (q::a'),.bool b,d2,.bool two],tmp⟩/\Has N S2 U (.box k (.mem 0 false (bH gs bP s3))::.ai bP 1 (a_.map av)::H)/\(s3.o=s.o)/\(s3.g=s.g)/\(s2.i<=s3.i)/\(s3.i<=gs.length)/\(ga (gA gs s.i) a_ s3\/s3.e=0/\(two=false/\gA gs s.i=.er 4 s.i\/∃a2:List Rg,d2=az a2/\a2≠[]/\gA gs s.i=if b=true/\two=true/\CZ (q::a')<=CZ a2 then .ok [(CZ (q::a'),CZ a2)] s3.i else .er 4 s.i))) ?_ ?_
   .refine zP (λhlt=>?_) λhlt=>?_
    .have I6:s2.i<gs.length:=by omega
     rw[if_pos I6] at uW;refine G 2 ?_;obtain⟨_,U,aK,d2,two,s3,rfl,⟨r1,r2,r3,r4,r5⟩,O⟩:=CB (s:=s2) bK (k3.trans p6) (by omega) O;refine qv aK ?_;refine G 6 ?_
     rcases r5 with⟨r5,rfl⟩|⟨e4,e5,rfl,rfl⟩|⟨r6,r7,a2,e5,rfl,r8,r9⟩
     .exact⟨.nul,two,s3,_,rfl,O,r1.trans (k1.trans p1),r2.trans (k2.trans p2),r3,r4,.inl (r5.map λe w h=>by rw[uW,h])⟩
     .rw[e5] at uW;simp only at uW;exact⟨.nul,false,s3,_,rfl,O,r1.trans (k1.trans p1),r2.trans (k2.trans p2),r3,r4,.inr ⟨by rw[e4];exact k3.trans p6,.inl ⟨rfl,uW⟩⟩⟩
     .rw[e5] at uW;simp only at uW;exact⟨az a2,two,s3,_,rfl,O,r1.trans (k1.trans p1),r2.trans (k2.trans p2),r3,r4,.inr ⟨r6,.inr ⟨a2,rfl,r9,uW⟩⟩⟩
    .rw[if_neg (by omega)] at uW;refine G 1 ?_;exact⟨.nul,false,s2,_,rfl,O,k1.trans p1,k2.trans p2,η _,k5,.inr ⟨k3.trans p6,.inl ⟨rfl,uW⟩⟩⟩
   .rintro I U ⟨d2,two,s3,tmp,hfr,O,h1,X,h3,h4,h5⟩;rw[hfr];clear hfr;generalize ay I=ee;clear I
    rcases h5 with h5|⟨h5,h6⟩
    .have hne:=h5.ne;have iF:(s3.e==0)=false:=by simpa using hne
     refine G 39 ?_;refine vX ?_;refine M 5 ?_;exact⟨s3,⟨h1,X,by omega,h4,[],rfl,by simp,.inl h5⟩,br.ag bj O⟩
    .have iF:(s3.e==0)=true:=by simpa using h5
     cases b with
     |false=>
      have uV:gA gs s.i=.er 4 s.i:=by
       rcases h6 with⟨_,h⟩|⟨a2,_,_,h⟩
       .exact h
       .rw[h,if_neg (by simp)]
      have eO:(!false)=true:=rfl;refine M 32 ?_;obtain⟨_,U,aK,rfl,s4,w1,hX,O⟩:=hwr _ s3 h5 uV h1 X (by omega) h4 O;refine M 11 ?_;refine vX ?_;refine M 5 ?_;exact⟨s4,hX,br.ag bj O⟩
     |true=>
      have eO:(!true)=false:=rfl
      cases two with
      |false=>
       have uV:gA gs s.i=.er 4 s.i:=by
        rcases h6 with⟨_,h⟩|⟨a2,_,_,h⟩
        .exact h
        .rw[h,if_neg (by simp)]
       have mI:(!false)=true:=rfl;refine M 32 ?_;obtain⟨_,U,aK,rfl,s4,w1,hX,O⟩:=hwr _ s3 h5 uV h1 X (by omega) h4 O;refine M 11 ?_;refine vX ?_;refine M 5 ?_;exact⟨s4,hX,br.ag bj O⟩
      |true=>
       have mI:(!true)=false:=rfl
       obtain⟨a2,rfl,h7,uV⟩:∃a2:List Rg,d2=az a2/\a2≠[]/\gA gs s.i=if true=true/\true=true/\CZ (q::a')<=CZ a2 then .ok [(CZ (q::a'),CZ a2)] s3.i else .er 4 s.i:=by
        rcases h6 with h6|h6
        .cases h6.1
        .exact h6
       obtain⟨q2,a2',rfl⟩:∃q a',a2=q::a':=Q4 h7
       have uV:gA gs s.i=if q.1<=q2.1 then .ok [(q.1,q2.1)] s3.i else .er 4 s.i:=by
        rw[uV];simp[CZ]
       have BB:=(dU (q::a')).arg N S2;have adA:=(dU (q2::a2')).arg N S2;have OY:((q::a').map ak)[0]?=some (ak q):=rfl;have dO:((q2::a2').map ak)[0]?=some (ak q2):=rfl;refine M 28 λp60 VJ Zs R0 Ys O0 p65 VI=>?_;refine zP (λWu=>?_) λWu=>?_
       .rw[if_neg (by omega)] at uV;refine G 3 ?_;obtain⟨_,U,aK,rfl,s4,w1,hX,O⟩:=hwr _ s3 h5 uV h1 X (by omega) h4 O;refine M 11 ?_;refine vX ?_;refine M 5 ?_;exact⟨s4,hX,br.ag bj O⟩
       .rw[if_pos (by omega)] at uV;refine G 10 ?_;refine vY ?_;refine M 15 λp79 VE p80 aao p83 aal p84 adK k87 U ad2 O=>?_;have O:Has N S2 U (.ai (.win k87 0 0 1 2) 2 (([(q.1,q2.1)]:List Rg).map ak)::.box k (.mem 0 false (bH gs bP s3))::.ai bP 1 (a_.map av)::H):=O;have hfz:=kM O aV (L:=Y.bs.length) (n:=16) (λk A=>by simp only[D.ref] at A;rw[<-bj];omega) (by decide);refine ah.ret ⟨rx,_,_,_,rfl,aH hfz,⟨s3,⟨h1,X,by omega,h4,[(q.1,q2.1)],rfl,by simp,.inr ⟨h5,by omega,uV⟩⟩,br.ag bj (O.drop 1)⟩⟩
end Go.Proofs.YtappgjdiplibbaaGreat
