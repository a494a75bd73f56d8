/-
 The parser of patterns: what stands at a rune; errors.
-/
import Derived.Test.YtkbacjpologjbaaGreatWGHr
import Derived.Test.YtkbacjpologjbaaGreatWPx
import Derived.Test.YtkbacjpologjbaaGreatWM2
import Derived.KernelRfl
import Derived.Test.YtkbacjpologjbaaGreatWGCa
import Derived.Test.YtkbacjpologjbaaGreatWDgp
set_option maxRecDepth 100000
set_option maxHeartbeats 4000000
set_option linter.unusedSimpArgs false
set_option linter.unusedVariables false
open Nat renaming le_of_ble_eq_true→γ,reduceAdd→ι,mul_comm→Qa5,le_refl→Qa6
open Go.V.ab renaming nil→δ,two→π,hU→Ω,c9→IN,c_→IS,eo→OF,Ag→Qa0,ck→Qa4,len→Qa8,cM→Qac,eK→Qad
open List renaming foldl→ε,not_mem_nil→ζ,length_map→η,length_cons→θ,mem_cons→κ,length_reverse→μ,getElem?_eq_getElem→ν,foldl_cons→ο,foldl_nil→ρ,length_nil→ς,length_drop→χ,mem_map→ψ,mem_cons_self→ω,getElem?_map→Δ,map_append→Θ,length_append→Pe,reverse_cons→AT,append_nil→AI,drop_zero→Qa1,replicate→Qa2
open BitVec renaming ofInt→ξ
open Go.V.D renaming cells→τ
open Go.V renaming byteCells→υ,Rows→Qa9
open Bool renaming and_eq_true→φ,and_false→Γ,not_true→Ψ,not_or→v8,not_eq_false'→Pd,not_eq_true'→AN
open Go.IntKind renaming i32→Ξ,u8→Qa3
open Go.V.Fr renaming put→Φ,get→Qa7,clean→Qaa,ev→Qab
open Int renaming toNat_natCast→wt,not_le→GB,not_lt→BY,toNat→IT
namespace Go.Proofs.YtkbacjpologjbaaGreat
open Go.V Go
theorem zjma {A B:Prop} (h:A) (e:A→B:=by intro h;dsimp only[u2,u1,u3,u4,setMany,u5,u6,τ,ι,Pg.cs,aK,ax] at h;exact h):B:=e h
theorem zjmb {A B:Prop} (h:A) (e:A→B:=by intro h;dsimp only[u2,u1,u3,u4,setMany,u5,u6,τ,ι,aK,ax,bV] at h;exact h):B:=e h
def cu (c:Nat):Int×Nat×Nat:=
 if c<128 then(0,0,0) else if c<194 then(-1,0,0) else if c<224 then(1,128,191) else if c=224 then(2,160,191) else if c=237 then(2,128,159)
 else if c<240 then(2,128,191) else if c=240 then(3,144,191) else if c<244 then(3,128,191) else if c=244 then(3,128,143) else(-1,0,0)
theorem Lf (c:Nat) (st:St):Ev pv 117 [.int .u8 c] st (.tup [.int .i64 (cu c).1,.int .u8 (cu c).2.1,.int .u8 (cu c).2.2]) st:=by
 refine Ev.iu rfl S0 rfl rfl rfl ?_;refine zE ?_;refine zR ?_;refine ag.seq (ag.block ?_);refine zR ?_;(repeat refine qq ?_);refine qc (fun h1=>?_) (fun h1=>?_)<;>try simp only[cs] at h1
 ·refine zR ?_;refine ag.ret ⟨rx,_,rfl,aP (by simp) (by simp[ae]) ?_⟩;rw[show cu c=(0,0,0) by unfold cu;rw[if_pos z0]];rfl
 refine zR ?_;(repeat refine qq ?_);refine qc (fun h2=>?_) (fun h2=>?_)<;>try simp only[cs] at h2
 ·refine zR ?_;refine ag.ret ⟨rx,_,rfl,aP (by simp) (by simp[ae]) ?_⟩;rw[show cu c=(-1,0,0) by unfold cu;rw[if_neg z0,if_pos z0]];rfl
 refine zR ?_;(repeat refine qq ?_);refine qc (fun h3=>?_) (fun h3=>?_)<;>try simp only[cs] at h3
 ·refine zR ?_;refine ag.ret ⟨rx,_,rfl,aP (by simp) (by simp[ae]) ?_⟩;rw[show cu c=(1,128,191) by unfold cu;rw[if_neg z0,if_neg z0,if_pos z0]];rfl
 refine zR ?_;(repeat refine qq ?_);refine qc (fun h4=>?_) (fun h4=>?_)<;>try simp only[cs] at h4
 ·refine zR ?_;refine ag.ret ⟨rx,_,rfl,aP (by simp) (by simp[ae]) ?_⟩;rw[show cu c=(2,160,191) by unfold cu;rw[if_neg z0,if_neg z0,if_neg z0,if_pos z0]];rfl
 refine zR ?_;(repeat refine qq ?_);refine qc (fun h5=>?_) (fun h5=>?_)<;>try simp only[cs] at h5
 ·refine zR ?_;refine ag.ret ⟨rx,_,rfl,aP (by simp) (by simp[ae]) ?_⟩;rw[show cu c=(2,128,159) by unfold cu;rw[if_neg z0,if_neg z0,if_neg z0,if_neg z0,if_pos z0]];rfl
 refine zR ?_;(repeat refine qq ?_);refine qc (fun h6=>?_) (fun h6=>?_)<;>try simp only[cs] at h6
 ·refine zR ?_;refine ag.ret ⟨rx,_,rfl,aP (by simp) (by simp[ae]) ?_⟩;rw[show cu c=(2,128,191) by unfold cu;rw[if_neg z0,if_neg z0,if_neg z0,if_neg z0,if_neg z0,if_pos z0]];rfl
 refine zR ?_;(repeat refine qq ?_);refine qc (fun h7=>?_) (fun h7=>?_)<;>try simp only[cs] at h7
 ·refine zR ?_;refine ag.ret ⟨rx,_,rfl,aP (by simp) (by simp[ae]) ?_⟩;rw[show cu c=(3,144,191) by unfold cu;rw[if_neg z0,if_neg z0,if_neg z0,if_neg z0,if_neg z0,if_neg z0,if_pos z0]];rfl
 refine zR ?_;(repeat refine qq ?_);refine qc (fun h8=>?_) (fun h8=>?_)<;>try simp only[cs] at h8
 ·refine zR ?_;refine ag.ret ⟨rx,_,rfl,aP (by simp) (by simp[ae]) ?_⟩;rw[show cu c=(3,128,191) by unfold cu;rw[if_neg z0,if_neg z0,if_neg z0,if_neg z0,if_neg z0,if_neg z0,if_neg z0,if_pos z0]];rfl
 refine zR ?_;(repeat refine qq ?_);refine qc (fun h9=>?_) (fun h9=>?_)<;>try simp only[cs] at h9
 ·refine zR ?_;refine ag.ret ⟨rx,_,rfl,aP (by simp) (by simp[ae]) ?_⟩;rw[show cu c=(3,128,143) by unfold cu;rw[if_neg z0,if_neg z0,if_neg z0,if_neg z0,if_neg z0,if_neg z0,if_neg z0,if_neg z0,if_pos z0]];rfl
 refine ag.skip<|zR ?_;refine ag.ret ⟨rx,_,rfl,aP (by simp) (by simp[ae]) ?_⟩;rw[show cu c=(-1,0,0) by unfold cu;rw[if_neg z0,if_neg z0,if_neg z0,if_neg z0,if_neg z0,if_neg z0,if_neg z0,if_neg z0,if_neg z0]];rfl
def iL:(left n r lo hi:Nat)→List UInt8→Nat×Nat×Bool
 |0,n,r,_,_,_=>(r,n,false)
 |left+1,n,r,lo,hi,[]=>(0,0,true)
 |left+1,n,r,lo,hi,x::xs=>if x.toNat<lo∨hi<x.toNat then(0,0,false) else iL left n (r*64+x.toNat %64) 128 191 xs
def df:List UInt8→Nat×Nat×Bool
 |[]=>(0,0,false)
 |c::xs=>if(cu c.toNat).1<0 then(0,0,false)
   else iL (cu c.toNat).1.toNat ((cu c.toNat).1.toNat+1) (if(cu c.toNat).1>0 then c.toNat %(64/2^(cu c.toNat).1.toNat) else c.toNat) (cu c.toNat).2.1 (cu c.toNat).2.2 xs
theorem A7 (c:Nat):(cu c).1=-1∨(cu c).1=0∨(cu c).1=1∨(cu c).1=2∨(cu c).1=3:=by
 unfold cu
 repeat' split
 all_goals simp
variable{j:Nat}
theorem Fl {w a:Nat} (ha:a<2^w) (hj:2^j-1<2^w):(ξ w (a:Int) &&&ξ w ((2^j-1:Nat):Int)).toNat=a %2^j:=by
 rw[bv_and ha hj,Nat.and_two_pow_sub_one_eq_mod]
theorem aw (b:List UInt8):(υ b).length=b.length:=by simp[υ]
variable{b:List UInt8}{i:Nat}
theorem lh {y:UInt8} (h:b[i]?=some y):(υ b)[i]?=some [.int .u8 (y.toNat:Nat)]:=by
 simp[υ,h]
theorem D3 (y:UInt8):y.toNat<256:=y.toNat_lt
variable{y:Nat}
theorem Ug {r:Nat} (hr:r<33554432) (hy:y<256):bp .i32 ((ξ 32 (bp .i32 ((r:Int)*2^(min (IT 6) 32)))|||ξ 32 (bp .i32 (bp .u8 ((ξ 8 (y:Int) &&&ξ 8 63).toNat:Nat)))).toNat:Nat)=((r*64+y %64:Nat):Int):=by
 have h1:(ξ 8 (y:Int) &&&ξ 8 63).toNat=y %64:=Fl (w:=8) (j:=6) hy (by decide);rw[h1]
 have h2:((r:Int)*2^(min (IT 6) 32))=((r*64:Nat):Int):=by
  have:(2:Int)^(min (IT 6) 32)=64:=by decide
  rw[this];simp
 rw[h2,bI (k:=.i32) (m:=r*64) (by simp only[gh];omega),bI (k:=.u8) (m:=y %64) (by simp only[gh];omega),bI (k:=.i32) (m:=y %64) (by simp only[gh];omega)];rw[Tq z0 z0]
 have h3:(r*64)|||(y %64)=r*64+y %64:=by
  have:=Nat.two_pow_add_eq_or_of_lt (i:=6) (b:=y %64) z0 r;have e:(2:Nat)^6=64:=by decide
  rw[e] at this;rw[Qa5 r 64,this]
 rw[h3,bI (k:=.i32) (m:=r*64+y %64) (by simp only[gh];omega)]
variable{c:Nat}{m:Int}
theorem Qt (hc:c<256) (hj:j≤8) (hm:m=((2^j-1:Nat):Int)):bp .i32 ((ξ 32 (bp .i32 (c:Nat)) &&&ξ 32 m).toNat:Nat)=((c %2^j:Nat):Int):=by
 have h1:2^j≤2^8:=Nat.pow_le_pow_right z0 hj;rw[hm,bI (k:=.i32) (m:=c) (by simp only[gh];omega),Fl (w:=32) z0 z0];have:c %2^j≤c:=Nat.mod_le _ _;rw[bI (k:=.i32) (by simp only[gh];omega)]
theorem mask (hc:c<256) (hj:j≤8) (hm:m=((2^j-1:Nat):Int)):bp .i32 ((ξ Ξ.bits (bp .i32 (c:Nat)) &&&ξ Ξ.bits m).toNat:Nat)=((c %2^j:Nat):Int):=Qt hc hj hm
theorem ZX {r:Nat} (hr:r<33554432) (hy:y<256):bp .i32 ((ξ Ξ.bits (bp .i32 ((r:Int)*2^(min (IT 6) Ξ.bits)))|||ξ Ξ.bits (bp .i32 (bp .u8 ((ξ Qa3.bits (y:Int) &&&ξ Qa3.bits 63).toNat:Nat)))).toNat:Nat)=((r*64+y %64:Nat):Int):=Ug hr hy
variable{st:St}{x:D}
theorem pW (hb:Bytes st x b):Ev pv 79 [x] st (.tup [.int .i32 ((df b).1:Nat),.int .i64 ((df b).2.1:Nat),.bool (df b).2.2]) st:=by
 refine Ev.iu rfl WX rfl rfl rfl ?_;refine zE ?_;have eW:=hb.enter .ro;refine qy ?_;(repeat refine qq ?_);(generalize hK:bS _ _ _ _=K);refine ag.ei ?_;(repeat(refine xL ?_));refine δ ?_;refine zF ?_;subst hK;refine qy ?_;(repeat refine qq ?_);(generalize hK:bS _ _ _ _=K);refine ag.ei ?_
 (refine xT ?_)
 refine Qa8 rfl rfl rfl eW rfl ?_;(repeat(refine xT ?_));refine δ ?_;refine zF ?_;subst hK;refine qy ?_;(repeat refine qq ?_);refine qc (fun h1=>?_) (fun h1=>?_)<;>try simp only[cs] at h1
 ·(refine qy ?_);(repeat refine qq ?_);(generalize hK:bS _ _ _ _=K);refine ag.ei ?_;(repeat(refine xL ?_));refine δ ?_;refine zF ?_;subst hK;refine qy ?_;refine ag.ret ⟨rx,_,rfl,aP (by simp) (by simp[ae]) ?_⟩
  obtain rfl:b=[]:=by cases b with|nil=>rfl|cons c b=>simp[υ] at h1;omega
  rfl
 refine ag.skip ?_
 obtain⟨c,xs,rfl⟩:∃c xs,b=c::xs:=by cases b with|nil=>simp[υ] at h1|cons c b=>exact⟨c,b,rfl⟩
 obtain⟨k,lo,hi,hm⟩:∃k lo hi,cu c.toNat=(k,lo,hi):=⟨_,_,_,rfl⟩
 have VA:=Lf c.toNat (ae .ro st);rw[hm] at VA;have hk:=A7 c.toNat;rw[hm] at hk;have hc:=D3 c;refine qy ?_;(repeat refine qq ?_);(generalize hK:bS _ _ _ _=K);refine ag.ei ?_
 (refine xT ?_)
 refine OF rfl rfl rfl (fun _=>rfl) rfl rfl eW rfl rfl z0 rfl rfl (fun p=>?_);refine ab.nD rfl rfl rfl VA ?_;(repeat(first|refine xT ?_|refine xL ?_));refine δ ?_;refine zF ?_;subst hK;refine qy ?_;(repeat refine qq ?_);(generalize hK:bS _ _ _ _=K);refine ag.ei ?_;(repeat(refine xT ?_));refine δ ?_;refine zF ?_;subst hK;refine qy ?_;(repeat refine qq ?_);refine qc (fun h2=>?_) (fun h2=>?_)<;>try simp only[cs] at h2
 ·(refine qy ?_);(repeat refine qq ?_);(generalize hK:bS _ _ _ _=K);refine ag.ei ?_;(repeat(refine xL ?_));refine δ ?_;refine zF ?_;subst hK;refine qy ?_;refine ag.ret ⟨rx,_,rfl,aP (by simp) (by simp[ae]) ?_⟩;simp only[df,hm];rw[if_pos h2];rfl
 refine ag.skip ?_;refine qy ?_;(repeat refine qq ?_);(generalize hK:bS _ _ _ _=K);refine ag.ei ?_
 (refine xT ?_)
 refine OF rfl rfl rfl (fun _=>rfl) rfl rfl eW rfl rfl z0 rfl rfl (fun p=>?_);(repeat(first|refine xT ?_|refine xL ?_));refine δ ?_;refine zF ?_;subst hK;refine qy ?_;(repeat refine qq ?_);(generalize hK:bS _ _ _ _=K);refine ag.ei ?_;(repeat(refine xT ?_));refine δ ?_;refine zF ?_;subst hK;refine qy ?_;generalize hK:bS _ _ _ _=K
 have H:∀(r kn:Nat) (m:List (Nat×D)),k=(kn:Int)→r=(if k>0 then c.toNat %(64/2^k.toNat) else c.toNat)→(r+1)*64^kn≤2097152→K .next ⟨9,[x,.tup [],.int .i32 r,.int .i64 0,.bool false,.int .i64 k,.int .u8 lo,.int .u8 hi,.tup []],m⟩ (ae .ro st):=by
  intro r kn m hkn hr mB
  have hR:df (c::xs)=iL kn (kn+1) r lo hi xs:=by
   simp only[df,hm];rw[if_neg h2,hr,hkn];rfl
  subst hK;rw[hR];generalize hS:iL kn (kn+1) r lo hi xs=R at hR⊢;subst hkn;refine qy ?_;(repeat refine qq ?_);(generalize hK:bS _ _ _ _=K);refine ag.ei ?_;(repeat(refine xL ?_));refine δ ?_;refine zF ?_;subst hK;refine qy ?_;refine ag.block<|ag.loop (fun j fr ah=>∃(i r lo hi:Nat),fr.clean=⟨9,[x,.tup [],.int .i32 r,.int .i64 0,.bool false,.int .i64 kn,.int .u8 lo,.int .u8 hi,.int .i64 (i:Nat)],[]⟩∧ah=ae .ro st∧1≤i∧i+j=kn+1∧iL j (kn+1) r lo hi (xs.drop (i-1))=R∧(r+1)*64^j≤2097152) kn ⟨1,r,lo,hi,rfl,rfl,by omega,by omega,hS,mB⟩ ?_;clear hr mB hS r hm VA m;rintro j fr ah ⟨i,r,lo,hi,hfr,rfl,OP,hij,hS,mB⟩;rw[hfr];refine qy ?_;(repeat refine qq ?_);(generalize hK:bS _ _ _ _=K);refine ag.ei ?_;(repeat(refine xT ?_));refine δ ?_;refine zF ?_;subst hK;refine qy ?_;(repeat refine qq ?_);refine qc (fun h4=>?_) (fun h4=>?_)<;>try simp only[cs] at h4
  ·refine ag.skip ?_
   obtain⟨j,rfl⟩:∃j',j=j'+1:=⟨j-1,by omega⟩
   refine ag.seq (ag.block ?_);refine qy ?_;(repeat refine qq ?_);(generalize hK:bS _ _ _ _=K);refine ag.ei ?_
   (refine xT ?_)
   (refine xT ?_)
   refine Qa8 rfl rfl rfl eW rfl ?_;(repeat(refine xT ?_));refine δ ?_;refine zF ?_;subst hK;refine qy ?_
   have Bk:(xs.drop (i-1))=[]∨∃y ys,xs.drop (i-1)=y::ys:=by
    cases xs.drop (i-1) with
    |nil=>exact .inl rfl
    |cons y ys=>exact .inr ⟨y,ys,rfl⟩
   have TL:(xs.drop (i-1)).length=xs.length-(i-1):=χ ..;have hbl:(υ (c::xs)).length=xs.length+1:=by simp[υ]
   (refine qy ?_);(repeat refine qq ?_);refine qc (fun h5=>?_) (fun h5=>?_)<;>try simp only[cs] at h5
   ·(refine qy ?_);(repeat refine qq ?_);(generalize hK:bS _ _ _ _=K);refine ag.ei ?_;(repeat(refine xL ?_));refine δ ?_;refine zF ?_;subst hK;refine qy ?_;refine ag.ret ⟨rx,_,rfl,aP (by simp) (by simp[ae]) ?_⟩
    rcases Bk with Bk|⟨y,ys,Bk⟩
    ·rw[Bk] at hS;simp only[iL] at hS;subst hS;rfl
    ·rw[Bk] at TL;simp only[θ] at TL;omega
   refine ag.skip ?_
   rcases Bk with Bk|⟨y,ys,Bk⟩
   ·rw[Bk] at TL;simp only[ς] at TL;omega
   have hy:(c::xs)[i]?=some y:=by
    obtain⟨i,rfl⟩:∃i',i=i'+1:=⟨i-1,by omega⟩
    have:=congrArg (fun l=>l[0]?) Bk
    simpa using this
   have kD:xs.drop (i+1-1)=ys:=by
    have:=congrArg (fun l=>l.drop 1) Bk;simp only[List.drop_drop,List.drop_succ_cons,Qa1] at this;rw[←this];congr 1;omega
   have PG:=lh hy;have YR:=D3 y;rw[Bk] at hS;simp only[iL] at hS;refine qy ?_;(repeat refine qq ?_);(generalize hK:bS _ _ _ _=K);refine ag.ei ?_
   (refine xT ?_)
   (refine xT ?_)
   refine OF rfl rfl rfl (fun _=>rfl) rfl rfl eW rfl rfl z0 PG rfl (fun p=>?_)
   (refine xT ?_)
   (refine xT ?_)
   (refine xT ?_)
   by_cases Cb:(y.toNat:Int)<(lo:Int)
   ·rw[decide_eq_true Cb];(repeat(first|refine xT ?_|refine xo ?_));refine δ ?_;refine zF ?_;subst hK;refine qy ?_;refine ag.cond (v:=true) rfl (fun _=>?_) (fun h=>by cases h);refine qy ?_;(repeat refine qq ?_);(generalize hK:bS _ _ _ _=K);refine ag.ei ?_;(repeat(refine xL ?_));refine δ ?_;refine zF ?_;subst hK;refine qy ?_;refine ag.ret ⟨rx,_,rfl,aP (by simp) (by simp[ae]) ?_⟩;rw[if_pos (.inl z0)] at hS;subst hS;rfl
   rw[decide_eq_false Cb]
   (refine xT ?_)
   (refine xT ?_)
   refine OF rfl rfl rfl (fun _=>rfl) rfl rfl eW rfl rfl z0 PG rfl (fun p=>?_);(repeat(refine xT ?_));refine δ ?_;refine zF ?_;subst hK;refine qy ?_;(repeat refine qq ?_);refine qc (fun h6=>?_) (fun h6=>?_)<;>try simp only[cs] at h6
   ·(refine qy ?_);(repeat refine qq ?_);(generalize hK:bS _ _ _ _=K);refine ag.ei ?_;(repeat(refine xL ?_));refine δ ?_;refine zF ?_;subst hK;refine qy ?_;refine ag.ret ⟨rx,_,rfl,aP (by simp) (by simp[ae]) ?_⟩;rw[if_pos (.inr z0)] at hS;subst hS;rfl
   refine ag.skip ?_;rw[if_neg z0] at hS;refine qy ?_;(repeat refine qq ?_);(generalize hK:bS _ _ _ _=K);refine ag.ei ?_
   (refine xT ?_)
   (refine xT ?_)
   (refine xT ?_)
   (refine xT ?_)
   refine OF rfl rfl rfl (fun _=>rfl) rfl rfl eW rfl rfl z0 PG rfl (fun p=>?_);(repeat(first|refine xT ?_|refine xL ?_));refine δ ?_;refine zF ?_;subst hK;refine qy ?_;have C8:r+1≤(r+1)*64^(j+1):=Nat.le_mul_of_pos_right _ (Nat.pow_pos z0);rw[ZX z0 YR];refine qy ?_;(repeat refine qq ?_);(generalize hK:bS _ _ _ _=K);refine ag.ei ?_;(repeat(refine xL ?_));refine δ ?_;refine zF ?_;subst hK;refine qy ?_;(repeat refine qq ?_);(generalize hK:bS _ _ _ _=K);refine ag.ei ?_;(repeat(first|refine xT ?_|refine xL ?_));refine δ ?_;refine zF ?_;subst hK;rw[wrap_i64 z0 z0];refine⟨j,by omega,i+1,_,_,_,rfl,rfl,by omega,by omega,by rw[kD];exact hS,?_⟩;have e1:(r*64+y.toNat %64+1)≤(r+1)*64:=by omega
   have e2:=Nat.mul_le_mul_right (64^j) e1;have e3:64*64^j=64^(j+1):=by rw[Nat.pow_succ,Qa5]
   rw[Nat.mul_assoc,e3] at e2;omega
  ·refine ag.exit ?_;have:j=0:=by omega
   subst this;simp only[iL] at hS;subst hS;refine qy ?_;(repeat refine qq ?_);(generalize hK:bS _ _ _ _=K);refine ag.ei ?_;(repeat(first|refine xT ?_|refine xL ?_));refine δ ?_;refine zF ?_;subst hK;refine qy ?_;refine ag.ret ⟨rx,_,rfl,aP (by simp) (by simp[ae]) ?_⟩;rw[wrap_i64 z0 z0];rfl
 rcases hk with hk|hk|hk|hk|hk
 ·omega
 ·subst hk;refine ag.cond (v:=false) rfl (fun h=>by cases h) fun _=>ag.skip ?_;rw[bI (by simp only[gh];omega)];exact H _ 0 _ rfl rfl z0
 ·subst hk;refine ag.cond (v:=true) rfl (fun _=>?_) (fun h=>by cases h);refine ag.ei ?_
  (refine xT ?_)
  refine OF rfl rfl rfl (fun _=>rfl) rfl rfl eW rfl rfl z0 rfl rfl (fun p=>?_);(repeat(first|refine xT ?_|refine xL ?_));refine δ ?_;refine zF ?_;rw[mask (j:=5) hc z0]
  ·exact H _ 1 _ rfl rfl z0
  ·decide
 ·subst hk;refine ag.cond (v:=true) rfl (fun _=>?_) (fun h=>by cases h);refine ag.ei ?_
  (refine xT ?_)
  refine OF rfl rfl rfl (fun _=>rfl) rfl rfl eW rfl rfl z0 rfl rfl (fun p=>?_);(repeat(first|refine xT ?_|refine xL ?_));refine δ ?_;refine zF ?_;rw[mask (j:=4) hc z0]
  ·exact H _ 2 _ rfl rfl z0
  ·decide
 ·subst hk;refine ag.cond (v:=true) rfl (fun _=>?_) (fun h=>by cases h);refine ag.ei ?_
  (refine xT ?_)
  refine OF rfl rfl rfl (fun _=>rfl) rfl rfl eW rfl rfl z0 rfl rfl (fun p=>?_);(repeat(first|refine xT ?_|refine xL ?_));refine δ ?_;refine zF ?_;rw[mask (j:=3) hc z0]
  ·exact H _ 3 _ rfl rfl z0
  ·decide
def d_ (b:List UInt8):Nat×Nat:=if(df b).2.1=0 then(65533,1) else((df b).1,(df b).2.1)
def GG:Nat→List UInt8→List (Nat×Nat)
 |0,_=>[]
 |_+1,[]=>[]
 |n+1,b=>d_ b::GG n (b.drop (d_ b).2)
def wb (b:List UInt8):List (Nat×Nat):=GG b.length b
theorem jc (b:List UInt8):1≤(d_ b).2:=by
 unfold d_;split
 ·simp
 ·simp only;omega
theorem sB : ∀ (n : Nat) (b : List UInt8), b.length ≤ n → GG n b = wb b
 | 0, [], _ => rfl
 | 0, _ :: _, h => by simp at h
 | n + 1, [], _ => rfl
 | n + 1, c :: b, h => by
  have hp := jc (c :: b);have h1 : ((c :: b).drop (d_ (c :: b)).2).length ≤ b.length := by rw [χ]; simp only [θ]; omega
  simp only [θ] at h;show d_ (c :: b) :: GG n ((c :: b).drop _) = d_ (c :: b) :: GG b.length ((c :: b).drop _);rw [sB n _ z0]
  rcases Nat.lt_or_ge n b.length with h2 | h2
  ·omega
  ·rw [sB b.length _ h1]
termination_by n b => b.length
decreasing_by all_goals (simp_wf; omega)
theorem wa:wb []=[]:=rfl
theorem ya (h:b≠[]):wb b=d_ b::wb (b.drop (d_ b).2):=by
 match b,h with
 |c::b,_=>
  show d_ (c::b)::GG b.length ((c::b).drop _)=_;rw[sB];have hp:=jc (c::b);rw[χ];simp only[θ];omega
def bF (g:Nat×Nat):List D:=[.int .i32 (g.1:Nat),.int .i64 (g.2:Nat)]
def gf (l:List (Nat×Nat)):D:=.sl ((l.map bF).map (kO 2))
theorem Ju {l:List (Nat×Nat)}:∀e∈l.map bF,e.length=2:=by
 intro e he;obtain⟨g,_,rfl⟩:=ψ.1 he;rfl
theorem oR {l:List (Nat×Nat)}:∀e∈l.map bF,∀d∈e,cD d=true:=by
 intro e he d hd;obtain⟨g,_,rfl⟩:=ψ.1 he;simp only[bF,κ,ζ,or_false] at hd
 rcases hd with rfl|rfl<;>rfl
theorem fe (st:St) (l:List (Nat×Nat)):Qa9 st 2 (gf l) (l.map bF):=Rows.px Ju oR
theorem Ap:∀(left n r lo hi:Nat) (b:List UInt8),(iL left n r lo hi b).2.1≠0→(iL left n r lo hi b).2.1=n∧left≤b.length
 |0,n,r,lo,hi,b,h=>by simp[iL]
 |left+1,n,r,lo,hi,[],h=>by simp[iL] at h
 |left+1,n,r,lo,hi,x::xs,h=>by
  simp only[iL] at h⊢
  split at h
  ·simp at h
  ·rename_i hc;rw[if_neg hc];have:=Ap left n _ _ _ xs h;exact⟨this.1,by simp;omega⟩
theorem tP (h:b≠[]):(d_ b).2≤b.length:=by
 match b,h with
 |c::xs,_=>
  unfold d_
  split
  ·simp
  ·rename_i hz;simp only[df] at hz⊢
   split at hz
   ·simp at hz
   ·rename_i hk;rw[if_neg hk];have:=Ap _ _ _ _ _ _ hz;rw[this.1];simp;omega
theorem Pp (hb:Bytes st x b) (hlen:b.length≤1048576):Ev pv 40 [x] st (gf (wb b)) st:=by
 refine Ev.iu rfl Xz rfl rfl rfl ?_;refine zE ?_;have hx:=hb.ref;refine qy ?_;(repeat refine qq ?_);(generalize hK:bS _ _ _ _=K);refine ag.ei ?_;(repeat(refine xL ?_));refine δ ?_;refine zF ?_;subst hK;refine qy ?_;(repeat refine qq ?_);(generalize hK:bS _ _ _ _=K);refine ag.ei ?_;(repeat(refine xL ?_));refine δ ?_;refine zF ?_;subst hK;refine qy ?_;refine ag.seq (ag.block ?_)
 refine ag.loop (fun j fr ah=>∃(y out r n:D) (b':List UInt8) (done:List (Nat×Nat)),fr.clean=⟨6,[y,.tup [],.nul,out,r,n],[]⟩∧Ex st.bs.length (ae .ro st) ah∧Bytes ah y b'∧y.ref≤st.bs.length∧
  Acc st.bs.length ah 2 out (done.map bF)∧j=b'.length∧done++wb b'=wb b∧done.length+b'.length≤b.length) b.length
  ⟨x,.nul,_,_,b,[],rfl,Ex.refl _ _,hb.enter .ro,hx,.nul,rfl,rfl,by simp⟩ ?_
 rintro j fr ah ⟨y,out,r,n,b',done,hfr,hex,hy,TK,sa,rfl,pQ,hl⟩;rw[hfr];refine qy ?_;(repeat refine qq ?_);(generalize hK:bS _ _ _ _=K);refine ag.ei ?_
 (refine xT ?_)
 refine Qa8 rfl rfl rfl hy rfl ?_;(repeat(refine xT ?_));refine δ ?_;refine zF ?_;subst hK;refine qy ?_;rw[aw];refine qy ?_;(repeat refine qq ?_);refine qc (fun h1=>?_) (fun h1=>?_)<;>try simp only[cs] at h1
 ·refine ag.skip ?_;have o6:b'≠[]:=by rintro rfl;simp at h1
  (refine qy ?_);(repeat refine qq ?_);refine ag.block ?_;refine qy ?_;(repeat refine qq ?_);(generalize hK:bS _ _ _ _=K);refine ag.ei ?_
  (refine xT ?_)
  refine ab.nD rfl rfl rfl (pW hy) ?_;(repeat(first|refine xT ?_|refine xL ?_));refine δ ?_;refine zF ?_;subst hK;refine qy ?_;generalize hf:df b'=F at*;obtain⟨r0,n0,bg⟩:=F;refine qy ?_;(repeat refine qq ?_);(generalize hK:bS _ _ _ _=K);refine ag.ei ?_;(repeat(refine xT ?_));refine δ ?_;refine zF ?_;subst hK;refine qy ?_;generalize hK:bS _ _ _ _=K
  have H:∀m,K .next ⟨6,[y,.tup [],.nul,out,.int .i32 ((d_ b').1:Nat),.int .i64 ((d_ b').2:Nat)],m⟩ ah:=by
   intro m;subst hK;generalize hg:d_ b'=g;have hp:=jc b';have hle:=tP o6;rw[hg] at hp hle;refine qy ?_;(repeat refine qq ?_);(generalize hK:bS _ _ _ _=K);refine ag.ei ?_
   (refine xT ?_)
   (refine xT ?_)
   (refine xT ?_)
   refine ab.T rfl rfl rfl (d:=.agg (bF g)) (st1:=ah) rfl ?_;refine ab.T rfl rfl rfl (d:=.win ah.bs.length 0 0 1 2) (st1:=ah.push (.mem 0 true (bF g))) rfl ?_;have hN:st.bs.length≤ah.bs.length:=hex.len;have LZ:=hex.trans (Ex.push hN (.mem 0 true (bF g)));refine ab.append rfl rfl rfl rfl (sa.push _) (Rows.one rfl) rfl rfl rfl rfl rfl rfl rfl (by decide) LZ.len (by rw[LZ.flr];exact Qa6 _) (by rw[LZ.ro];exact Qa6 _) (by simp only[η,θ,ς];show(done.length+1)*16≤_;omega) fun NB st2 Jk I7 _ _ _=>?_;(repeat(refine xL ?_));refine δ ?_;refine zF ?_;subst hK;refine qy ?_;have V8:=LZ.trans I7;have GL:Bytes st2 y b':=Rows.ex ((Ex.push hN _).trans I7) hy TK;refine qy ?_;(repeat refine qq ?_);(generalize hK:bS _ _ _ _=K);refine ag.ei ?_
   (refine xT ?_)
   (refine xT ?_)
   refine ab.slice rfl rfl rfl GL rfl rfl (l:=g.2) (r:=b'.length) ?_ ⟨by omega,by rw[aw];omega⟩ fun y2 Ir UI=>?_
   ·show bZ (υ b').length (some (.int .i64 (g.2:Nat))) none=_;rw[aw];simp only[bZ,gB,jt,Option.bind_some];rw[if_pos ⟨by omega,by omega⟩];rfl
   (repeat(refine xL ?_));refine δ ?_;refine zF ?_;subst hK;refine⟨(b'.drop g.2).length,by rw[χ];omega,y2,NB,_,_,b'.drop g.2,done++[g],rfl,V8,?_,Nat.le_trans UI TK,?_,rfl,?_,?_⟩
   ·have:((υ b').take b'.length).drop g.2=υ (b'.drop g.2):=by
     rw[←aw,List.take_length];simp[υ]
    unfold Bytes;rw[←this];exact Ir
   ·rw[Θ];exact Jk
   ·rw[List.append_assoc,List.singleton_append,←pQ,ya o6,hg]
   ·rw[Pe,χ];simp only[θ,ς];omega
  (refine qy ?_);(repeat refine qq ?_);refine qc (fun h2=>?_) (fun h2=>?_)<;>try simp only[cs] at h2
  ·refine ag.ei ?_;(repeat(refine xL ?_));refine δ ?_;refine zF ?_;have:d_ b'=(65533,1):=by unfold d_;rw[hf,if_pos (by simpa using h2)]
   rw[this] at H;exact H _
  ·refine ag.skip ?_;have:d_ b'=(r0,n0):=by unfold d_;rw[hf,if_neg (by simpa using h2)]
   rw[this] at H;exact H _
 ·refine ag.exit ?_
  have o6:b'=[]:=by cases b' with|nil=>rfl|cons _ _=>simp at h1<;>omega
  subst o6;rw[wa,AI] at pQ;refine qy ?_;(repeat refine qq ?_);(generalize hK:bS _ _ _ _=K);refine ag.ei ?_;(repeat(first|refine xT ?_|refine xL ?_));refine δ ?_;refine zF ?_;subst hK;refine qy ?_;refine ag.ret ⟨rx,_,rfl,aP (by simp) (hex.take rfl) ?_⟩;rw[←pQ];exact sa.freeze oR (n:=15) (by decide)
structure gJ where
 i:Nat
 o:Nat
 g:Nat
 e:Int
 w:Int
def aW (gs:List (Nat×Nat)) (ch:D) (s:gJ):List D:=[gf gs,ch,.int .i64 (s.i:Nat),.int .i64 (s.o:Nat),.int .i64 (s.g:Nat),.int .i64 s.e,.int .i64 s.w]
def lQ (gs:List (Nat×Nat)) (i:Nat) (r:Int):Bool:=match gs[i]? with
 |some g=>((g.1:Nat):Int)==r
 |none=>false
variable{r:Int}{gs:List (Nat×Nat)}
theorem vh (h:lQ gs i r=true):i<gs.length:=by
 unfold lQ at h
 split at h
 ·exact bc z5
 ·cases h
def dK (gs:List (Nat×Nat)) (s:gJ) (r:Int):gJ:=if lQ gs s.i r=true then{s with i:=s.i+1} else s
def Pn (gs:List (Nat×Nat)) (i:Nat):Bool:=match gs[i]? with
 |some g=>((g.1:Nat):Int)==65533 &&((g.2:Nat):Int)==1
 |none=>false
def kT (cC:List Int) (s:gJ) (i:Nat) (e:Int):gJ:=if s.e=0 then{s with e:=e,w:=cC.getD i 0} else s
variable{N k:Nat}{S s0:St}{H:List a8}{ch:D}{s:gJ}
theorem sX (vw:gs.length≤1048576) (r:Int) (hH:Has N S s0 (.box k (.mem 0 false (aW gs ch s))::H)):
  ∃d ah,Ev pv 118 [.ptr k 0 0,.int .i32 r] s0 d ah∧d=.bool (lQ gs s.i r)∧Has N S ah (.box k (.mem 0 false (aW gs ch s))::H):=by
 refine Ev.eH rfl SZ rfl rfl rfl ?_;refine zE ?_;have bD:=hH;have hH:=hH.bf;have bA:(ae .rw s0).bs=s0.bs:=rfl;generalize ae .rw s0=S2 at*;have LW:Arg N S2 2 (gf gs) (gs.map bF):=Arg.pure (fun st=>fe st gs);refine zQ 4 ?_
 by_cases ha:s.i<gs.length
 ·obtain⟨g,hg⟩:∃g,gs[s.i]?=some g:=⟨gs[s.i]'ha,ν _⟩
  have fU:(gs.map bF)[s.i]?=some (bF g):=by rw[Δ,hg];rfl
  have dA:decide ((s.i:Int)<(gs.length:Nat))=true:=by rw[decide_eq_true];simp;omega
  have hv:lQ gs s.i r=(((g.1:Nat):Int)==r):=by unfold lQ;rw[hg]
  refine qq<|ag.mH 4 (.bool (((g.1:Nat):Int)==r)) [] ?_ (fun ff tmp=>?_)
  ·refine zQ 8 ?_;refine qn ?_;simp only[η];refine zQ 10 ?_;refine qr (fun NA C9=>?_) (hg:=wi dA);refine qf (fo:=0) (fun PB Ga=>?_) (hg:=wi dA);refine zQ 5 ?_;refine δ (aX ?_);dsimp only[aI,ε,nth,u2,u1];dsimp only[Fr.fN,Φ,Qaa,Qab,Qa7,nth,look,u1,u2,v1,v2,v4]
   all_goals(rfl)
  dsimp only[aI,ε,nth,u2,u1];refine ag.ret ⟨rx,_,_,_,rfl,ai (rfl),?_⟩;exact⟨by rw[hv];rfl,bD.aq bA hH⟩
 ·have dA:decide ((s.i:Int)<(gs.length:Nat))=false:=by rw[decide_eq_false];simp;omega
  have hv:lQ gs s.i r=false:=by
   cases h:lQ gs s.i r with
   |true=>exact absurd (vh h) ha
   |false=>rfl
  refine qq<|ag.mH 4 (.bool false) [] ?_ (fun ff tmp=>?_)
  ·refine zQ 8 ?_;refine qn ?_;simp only[η];refine zQ 17 ?_;refine δ (aX ?_);dsimp only[aI,ε,nth,u2,u1];dsimp only[Fr.fN,Φ,Qaa,Qab,Qa7,nth,look,u1,u2,v1,v2,v4]
   all_goals(first|rfl|(simp[dA];done)|(simp_all;done)|(simp[dA];omega)|(simp_all;omega))
  dsimp only[aI,ε,nth,u2,u1];refine ag.ret ⟨rx,_,_,_,rfl,ai (rfl),?_⟩;exact⟨by rw[hv];rfl,bD.aq bA hH⟩
theorem ft (vw:gs.length≤1048576) (r:Int) (hH:Has N S s0 (.box k (.mem 0 false (aW gs ch s))::H)):
  ∃d ah,Ev pv 81 [.ptr k 0 0,.int .i32 r] s0 d ah∧d=.bool (lQ gs s.i r)∧Has N S ah (.box k (.mem 0 false (aW gs ch (dK gs s r)))::H):=by
 refine Ev.eH rfl WV rfl rfl rfl ?_;refine zE ?_;have bD:=hH;have hH:=hH.bf;have bA:(ae .rw s0).bs=s0.bs:=rfl;generalize ae .rw s0=S2 at*;refine zQ 9 ?_;obtain⟨_,st,aA,rfl,hH⟩:=sX vw r hH;refine qv aA ?_;refine zQ 1 ?_;unfold dK
 cases hb:lQ gs s.i r with
 |true=>
  have hlt:=vh hb;dsimp only[aW] at hH;rw[if_pos rfl];refine zQ 10 ?_;refine qT hH aJ fun st hH=>?_;dsimp only[u2,u1,u3,u4,setMany,u5,u6,τ,ι,aW,bF,ax] at hH;refine zQ 5 ?_;refine ag.ret ⟨rx,_,_,_,rfl,ai (rfl),?_⟩;exact⟨rfl,bD.aq bA hH⟩
 |false=>
  rw[if_neg (by simp)];refine zQ 6 ?_;refine ag.ret ⟨rx,_,_,_,rfl,ai (rfl),?_⟩;exact⟨rfl,bD.aq bA hH⟩
theorem DQ (i:Nat) (hi:i<gs.length) (hH:Has N S s0 (.box k (.mem 0 false (aW gs ch s))::H)):
  ∃d ah,Ev pv 147 [.ptr k 0 0,.int .i64 (i:Nat)] s0 d ah∧d=.bool (Pn gs i)∧Has N S ah (.box k (.mem 0 false (aW gs ch s))::H):=by
 refine Ev.eH rfl SB rfl rfl rfl ?_;refine zE ?_;have bD:=hH;have hH:=hH.bf;have bA:(ae .rw s0).bs=s0.bs:=rfl;generalize ae .rw s0=S2 at*;have LW:Arg N S2 2 (gf gs) (gs.map bF):=Arg.pure (fun st=>fe st gs);refine zQ 4 ?_
 obtain⟨g,hg⟩:∃g,gs[i]?=some g:=⟨gs[i]'hi,ν _⟩
 have fU:(gs.map bF)[i]?=some (bF g):=by rw[Δ,hg];rfl
 have hv:Pn gs i=(((g.1:Nat):Int)==65533 &&((g.2:Nat):Int)==1):=by unfold Pn;rw[hg]
 refine qq<|ag.mH 4 (.bool (((g.1:Nat):Int)==65533 &&((g.2:Nat):Int)==1)) [] ?_ (fun ff tmp=>?_)
 ·refine zQ 5 ?_;refine qr fun Ql IJ=>?_;refine qf (fo:=0) fun YL Ro=>?_;refine zQ 3 ?_;refine π 14 rfl (fun fc=>?_) (fun fc=>?_)
  ·refine zQ 5 ?_;refine qr (fun PC Gb=>?_) (hg:=wi fc);refine qf (fo:=1) (fun Qi IH=>?_) (hg:=wi fc);refine zQ 4 ?_;refine δ (aX ?_);refine zG ?_
   all_goals(simp[fc];done)
  ·refine zQ 11 ?_;refine δ (aX ?_);refine zG ?_
   all_goals(simp[fc];done)
 dsimp only[aI,ε,nth,u2,u1];refine ag.ret ⟨rx,_,_,_,rfl,ai (rfl),?_⟩;exact⟨by rw[hv];rfl,bD.aq bA hH⟩
variable{cC:List Int}
theorem dQ (i:Nat) (e:Int) (hi:i<cC.length) (hH:Has N S s0 (.box k (.mem 0 false (aW gs ch s))::.aC ch 1 (cC.map ax)::H)):
  ∃d ah,Ev pv 42 [.ptr k 0 0,.int .i64 (i:Nat),.int .i64 e] s0 d ah∧d=.sl []∧Has N S ah (.box k (.mem 0 false (aW gs ch (kT cC s i e)))::.aC ch 1 (cC.map ax)::H):=by
 refine Ev.eH rfl Xx rfl rfl rfl ?_;refine zE ?_;have bD:=hH;have hH:=hH.bf;have bA:(ae .rw s0).bs=s0.bs:=rfl;generalize ae .rw s0=S2 at*;refine zQ 4 ?_
 obtain⟨v,hv⟩:∃v,cC[i]?=some v:=⟨cC[i]'hi,ν _⟩
 have fU:=ej hv;unfold kT;refine zQ 9 ?_;refine zI (fun h0=>?_) fun h0=>?_
 ·rw[if_pos h0];have PU:cC.getD i 0=v:=by rw[List.getD_eq_getElem?_getD,hv];rfl
  refine zQ 9 ?_;refine qi hH bt fun PC Gb=>?_;refine zQ 3 ?_;refine qT hH aJ fun st hH=>?_;dsimp only[u2,u1,u3,u4,setMany,u5,u6,τ,ι,aW,bF,ax] at hH;refine zQ 2 ?_;refine qT hH aJ fun st hH=>?_;dsimp only[u2,u1,u3,u4,setMany,u5,u6,τ,ι,aW,bF,ax] at hH;refine zQ 5 ?_;refine ag.ret ⟨rx,_,_,_,rfl,ai (rfl),?_⟩;exact⟨rfl,by rw[PU];exact bD.aq bA hH⟩
 ·rw[if_neg h0];refine zQ 5 ?_;refine ag.ret ⟨rx,_,_,_,rfl,ai (rfl),?_⟩;exact⟨rfl,bD.aq bA hH⟩
def gi (fr:Go.V.Fr) (k:Nat):Go.V.D:=Go.V.nth .bo fr.loc k
noncomputable def mZ (l:List Rg):List Rg:=@dite _ (∃a,gu l a) (Classical.propDecidable _) (fun h=>Classical.choose h) (fun _=>[])
variable{a l:List Rg}
theorem Ij (h:gu l a):mZ l=a:=by
 have hx:∃a,gu l a:=⟨a,h⟩
 unfold mZ;rw[dif_pos hx];exact(Classical.choose_spec hx).unique h
theorem py (hx:Qa9 s0 2 x (l.map au)) (hl:l.length≤1048576):Ev pv 135 [x] s0 (bK (mZ l)) s0∧(mZ l).length≤2*l.length∧gu l (mZ l):=by
 obtain⟨_,aA,all,rfl,hperm,oA⟩:=EA hx z0;have hM:gu l (all.foldl eA []).reverse:=u7 (fun x=>hperm.mem_iff) oA;have hlen:=hperm.length_eq;have mi:=kM l;have nX:=ve all;rw[Ij hM];exact⟨aA,by rw[μ];omega,hM⟩
theorem lC (l:List Rg):fg (bK l) 2 (l.map au):=by
 rw[←iS];refine fg.frozen ?_ ?_
 ·intro e he;obtain⟨x,_,rfl⟩:=ψ.1 he;rfl
 ·intro e he d hd;obtain⟨x,_,rfl⟩:=ψ.1 he;simp only[au,κ,ζ,or_false] at hd
  rcases hd with rfl|rfl<;>rfl
theorem yU (h0:0≤r) (h1:r<55296) (hr:ec l r) (h:gu l a):a≠[]:=by
 rintro rfl;have:=(h.2 r).2 ⟨by unfold iY;omega,hr⟩;obtain⟨x,hx,_⟩:=this;cases hx
theorem Ba (h0:0≤r) (h1:r<55296) (h:gu [(r,r)] a):a≠[]:=by
 rintro rfl;have:=(h.2 r).2 ⟨?_,?_⟩
 ·obtain⟨x,hx,_⟩:=this;cases hx
 ·unfold iY;omega
 ·exact⟨(r,r),ω ..,by simp⟩
theorem lx (r:Int):Ev pv 152 [.int .i32 r] s0 (bK (mZ [(r,r)])) s0:=by
 refine Ev.iu rfl Sw rfl rfl rfl ?_;refine zE ?_;obtain⟨aR,hF,hH⟩:=ri s0;generalize ae .ro s0=S at*;refine zQ 8 ?_;refine Ω (qs:=[(0,_),(1,_)]) rfl rfl rfl rfl ⟨rfl,z3,(by rfl),rfl,z3,(by rfl),trivial⟩ (by intro q hq;simp only[κ,ζ,or_false] at hq;rcases hq with rfl|rfl<;>exact⟨rfl,by exact γ rfl⟩) (by show ε _ [_,_] _=_;dsimp only[ο,ρ,u2,u1]<;>rfl) (aa rfl _) ?_;refine qh (s:=2) (vs:=[_]) hH fun k6 st De hH=>?_;obtain⟨aA,hl,_⟩:=py (l:=[(r,r)]) (hH.rows aJ) (by simp);refine qv aA ?_;refine zQ 2 ?_;refine ag.ret ⟨rx,_,rfl,rl aR hH (rfl)⟩
theorem H6 (hx:Qa9 s0 2 x (l.map au)) (hl:l.length≤131072):∃d,Ev pv 163 [x] s0 d s0∧∃a:List Rg,d=bK a∧a.length≤4*l.length+2:=by
 refine Ev.CL rfl Sm rfl rfl rfl ?_;refine zE ?_;obtain⟨aR,hF,hH⟩:=ri s0;generalize ae .ro s0=S at*;have hx:=Arg.of hx aR;refine zQ 12 ?_;obtain⟨aA,Db,_⟩:=py (hx.rows hH) z0;have hla:=(lC (mZ l)).arg s0.bs.length S;generalize mZ l=m at*;refine zQ 4 ?_;refine qv (aA) ?_;refine qn ?_;simp only[η];refine zQ 2 ?_;have hH:=hH.fG 2;refine zQ 1 ?_;refine ag.loop (fun mm fr st=>∃(i:Nat) (n:Int) (o:D) (out:List Rg),fr.clean=⟨11,[gi fr 0,gi fr 1,gi fr 2,o,.int .i32 n,gi fr 5,gi fr 6,gi fr 7,bK m,.int .i64 (m.length:Nat),.int .i64 (i:Nat)],[]⟩∧Has s0.bs.length S st [.aC o 2 (out.map au)]∧(i+mm=m.length)∧(out.length=i)) (m.length) ?_ ?_
 ·exact⟨0,0,.nul,[],rfl,hH,by omega,rfl⟩
 rintro mm fr st ⟨i,n,o,out,hfr,hH,hi,ho⟩;rw[hfr];clear hfr;generalize gi fr=ee;clear fr;refine zQ 5 ?_;refine zP (fun h1=>?_) fun h1=>?_
 ·refine zQ 1 ?_
  obtain⟨q,hq⟩:∃q,m[i]?=some q:=⟨m[i]' z0,ν _⟩
  have hr:=dP hq;refine zQ 4 ?_;refine qr fun Uw Ov=>?_;refine Qac rfl z3 z5 rfl (aa rfl _) ?_;refine qa hH fun k6 st De hH=>?_;refine qS hH aJ fun st hH=>?_;dsimp only[u2,u1,u3,u4,setMany,u5,u6,τ,ι,au] at hH;refine zQ 7 ?_;refine Qad (z:=bp .i32 (q.1-1)) rfl z3 z3 rfl (aa rfl _) ?_;refine Ω (qs:=[(0,_),(1,_)]) rfl rfl rfl rfl ⟨rfl,z3,(by rfl),rfl,z3,(by rfl),trivial⟩ (by intro q hq;simp only[κ,ζ,or_false] at hq;rcases hq with rfl|rfl<;>exact⟨rfl,by exact γ rfl⟩) (by show ε _ [_,_] _=_;dsimp only[ο,ρ,u2,u1]<;>rfl) (aa rfl _) ?_;refine qh (s:=2) (vs:=[_]) hH fun k20 st VU hH=>?_;refine Qa4 (s:=2) hH rfl z3 z3 (by exact cU) (by exact hH.rows (by exact aJ)) rfl rfl rfl rfl rfl rfl rfl ⟨(γ rfl),(γ rfl)⟩ (fun _=>(aa rfl _)) (by simp only[θ,ς,η]<;>omega) (by exact .inl hF) (fun x21 st hH=>?_);dsimp only[u2,u1,u3,u4,setMany,u5,u6,τ,ι,au] at hH;refine zQ 5 ?_;refine ab.dX (z:=bp .i32 (q.2+1)) rfl z3 z3 rfl (aa rfl _) ?_;refine zQ 6 ?_;exact⟨mm-1,by omega,⟨i+1,_,_,out++[(n,bp .i32 (q.1-1))],rfl,(by rw[Θ];exact hH.drop 2),by omega,by simp[ho]⟩⟩
 ·refine zQ 5 ?_;refine Ω (qs:=[(0,_),(1,_)]) rfl rfl rfl rfl ⟨rfl,z3,(by rfl),rfl,z3,(by rfl),trivial⟩ (by intro q hq;simp only[κ,ζ,or_false] at hq;rcases hq with rfl|rfl<;>exact⟨rfl,by exact γ rfl⟩) (by show ε _ [_,_] _=_;dsimp only[ο,ρ,u2,u1]<;>rfl) (aa rfl _) ?_;refine qh (s:=2) (vs:=[_]) hH fun k29 st RC hH=>?_;refine Qa4 (s:=2) hH rfl z3 z3 (by exact bt) (by exact hH.rows (by exact aJ)) rfl rfl rfl rfl rfl rfl rfl ⟨(γ rfl),(γ rfl)⟩ (fun _=>(aa rfl _)) (by simp only[θ,ς,η]<;>omega) (by exact .inl hF) (fun Ud st hH=>?_);dsimp only[u2,u1,u3,u4,setMany,u5,u6,τ,ι,au] at hH;obtain⟨aA,oZ,_⟩:=py (l:=out++[(n,1114111)]) (by rw[Θ];exact hH.rows bt) (by simp;omega);refine qv aA ?_;refine zQ 2 ?_;refine ag.ret ⟨rx,_,_,rfl,rl aR hH (rfl),?_⟩;exact⟨_,rfl,by simp at oZ;omega⟩
theorem Pa:∃d,Ev pv 151 [] s0 d s0∧∃a:List Rg,d=bK a∧a.length≤6:=by
 refine Ev.CL rfl Sx rfl rfl rfl ?_;refine zE ?_;obtain⟨aR,hF,hH⟩:=ri s0;generalize ae .ro s0=S at*;refine zQ 6 ?_;refine Ω (qs:=[(0,_),(1,_)]) rfl rfl rfl rfl ⟨rfl,z3,(by rfl),rfl,z3,(by rfl),trivial⟩ (by intro q hq;simp only[κ,ζ,or_false] at hq;rcases hq with rfl|rfl<;>exact⟨rfl,by exact γ rfl⟩) (by show ε _ [_,_] _=_;dsimp only[ο,ρ,u2,u1]<;>rfl) (aa rfl _) ?_;refine qh (s:=2) (vs:=[_]) hH fun k2 st hk2 hH=>?_;obtain⟨_,aA,a,rfl,hl⟩:=H6 (l:=[(10,10)]) (hH.rows aJ) (by simp);refine qv aA ?_;refine zQ 2 ?_;refine ag.ret ⟨rx,_,_,rfl,rl aR hH (rfl),?_⟩;exact⟨a,rfl,hl⟩
theorem Li (r:Int):Ev pv 164 [.int .i32 r] s0 (.bool (decide (33≤r∧r≤47∨58≤r∧r≤64∨91≤r∧r≤96∨123≤r∧r≤126))) s0:=by
 refine Ev.iu rfl Sl rfl rfl rfl ?_;refine zE ?_;obtain⟨aR,hF,hH⟩:=ri s0;generalize ae .ro s0=S at*;refine zQ 5 ?_;refine ag.mH 2 (.bool (decide (33≤r∧r≤47∨58≤r∧r≤64∨91≤r∧r≤96∨123≤r∧r≤126))) [] ?_ (fun ff tmp=>?_)
 ·refine zQ 3 ?_;refine π 5 rfl (fun cj=>?_) (fun cj=>?_)
  ·refine zQ 4 ?_;refine π 9 rfl (fun kG=>?_) (fun kG=>?_)
   ·refine zQ 24 ?_;refine δ (aX ?_);refine zG ?_
    all_goals(simp[cj,kG];done)
   ·refine zQ 3 ?_;refine π 12 rfl (fun fc=>?_) (fun fc=>?_)
    ·refine zQ 2 ?_;refine IN (aj rfl rfl rfl kG) rfl fc (aa rfl _) ?_;refine zQ 2 ?_;refine π 17 rfl (fun gm=>?_) (fun gm=>?_)
     ·refine zQ 16 ?_;refine δ (aX ?_);refine zG ?_
      all_goals(simp[cj,kG,fc,gm];done)
     ·refine zQ 3 ?_;refine π 20 rfl (fun cJ=>?_) (fun cJ=>?_)
      ·refine zQ 2 ?_;refine IN (aj rfl rfl rfl gm) rfl cJ (aa rfl _) ?_;refine zQ 2 ?_;refine π 25 rfl (fun gE=>?_) (fun gE=>?_)
       ·refine zQ 8 ?_;refine δ (aX ?_);refine zG ?_
        all_goals(simp[cj,kG,fc,gm,cJ,gE];done)
       ·refine zQ 3 ?_;refine π 28 rfl (fun ef=>?_) (fun ef=>?_)
        ·refine zQ 2 ?_;refine IN (aj rfl rfl rfl gE) rfl ef (aa rfl _) ?_;refine zQ 2 ?_;refine δ (aX ?_);refine zG ?_
         all_goals(simp[cj,kG,fc,gm,cJ,gE,ef];done)
        ·refine zQ 2 ?_;refine IS (aj rfl rfl rfl gE) rfl ef (aa rfl _) ?_;refine zQ 2 ?_;refine δ (aX ?_);refine zG ?_
         all_goals(simp[cj,kG,fc,gm,cJ,gE,ef];done)
      ·refine zQ 2 ?_;refine IS (aj rfl rfl rfl gm) rfl cJ (aa rfl _) ?_;refine zQ 5 ?_;refine π 28 rfl (fun ef=>?_) (fun ef=>?_)
       ·refine zQ 5 ?_;refine δ (aX ?_);refine zG ?_
        all_goals(simp[cj,kG,fc,gm,cJ,ef];done)
       ·refine zQ 5 ?_;refine δ (aX ?_);refine zG ?_
        all_goals(simp[cj,kG,fc,gm,cJ,ef];done)
    ·refine zQ 2 ?_;refine IS (aj rfl rfl rfl kG) rfl fc (aa rfl _) ?_;refine zQ 5 ?_;refine π 20 rfl (fun cJ=>?_) (fun cJ=>?_)
     ·refine zQ 5 ?_;refine π 25 rfl (fun gE=>?_) (fun gE=>?_)
      ·refine zQ 8 ?_;refine δ (aX ?_);refine zG ?_
       all_goals(simp[cj,kG,fc,cJ,gE];done)
      ·refine zQ 3 ?_;refine π 28 rfl (fun ef=>?_) (fun ef=>?_)
       ·refine zQ 2 ?_;refine IN (aj rfl rfl rfl gE) rfl ef (aa rfl _) ?_;refine zQ 2 ?_;refine δ (aX ?_);refine zG ?_
        all_goals(simp[cj,kG,fc,cJ,gE,ef];done)
       ·refine zQ 2 ?_;refine IS (aj rfl rfl rfl gE) rfl ef (aa rfl _) ?_;refine zQ 2 ?_;refine δ (aX ?_);refine zG ?_
        all_goals(simp[cj,kG,fc,cJ,gE,ef];done)
     ·refine zQ 8 ?_;refine π 28 rfl (fun ef=>?_) (fun ef=>?_)
      ·refine zQ 5 ?_;refine δ (aX ?_);refine zG ?_
       all_goals(simp[cj,kG,fc,cJ,ef];done)
      ·refine zQ 5 ?_;refine δ (aX ?_);refine zG ?_
       all_goals(simp[cj,kG,fc,cJ,ef];done)
  ·refine zQ 7 ?_;refine π 12 rfl (fun fc=>?_) (fun fc=>?_)
   ·refine zQ 5 ?_;refine π 17 rfl (fun gm=>?_) (fun gm=>?_)
    ·refine zQ 16 ?_;refine δ (aX ?_);refine zG ?_
     all_goals(simp[cj,fc,gm];done)
    ·refine zQ 3 ?_;refine π 20 rfl (fun cJ=>?_) (fun cJ=>?_)
     ·refine zQ 2 ?_;refine IN (aj rfl rfl rfl gm) rfl cJ (aa rfl _) ?_;refine zQ 2 ?_;refine π 25 rfl (fun gE=>?_) (fun gE=>?_)
      ·refine zQ 8 ?_;refine δ (aX ?_);refine zG ?_
       all_goals(simp[cj,fc,gm,cJ,gE];done)
      ·refine zQ 3 ?_;refine π 28 rfl (fun ef=>?_) (fun ef=>?_)
       ·refine zQ 2 ?_;refine IN (aj rfl rfl rfl gE) rfl ef (aa rfl _) ?_;refine zQ 2 ?_;refine δ (aX ?_);refine zG ?_
        all_goals(simp[cj,fc,gm,cJ,gE,ef];done)
       ·refine zQ 2 ?_;refine IS (aj rfl rfl rfl gE) rfl ef (aa rfl _) ?_;refine zQ 2 ?_;refine δ (aX ?_);refine zG ?_
        all_goals(simp[cj,fc,gm,cJ,gE,ef];done)
     ·refine zQ 2 ?_;refine IS (aj rfl rfl rfl gm) rfl cJ (aa rfl _) ?_;refine zQ 5 ?_;refine π 28 rfl (fun ef=>?_) (fun ef=>?_)
      ·refine zQ 5 ?_;refine δ (aX ?_);refine zG ?_
       all_goals(simp[cj,fc,gm,cJ,ef];done)
      ·refine zQ 5 ?_;refine δ (aX ?_);refine zG ?_
       all_goals(simp[cj,fc,gm,cJ,ef];done)
   ·refine zQ 8 ?_;refine π 20 rfl (fun cJ=>?_) (fun cJ=>?_)
    ·refine zQ 5 ?_;refine π 25 rfl (fun gE=>?_) (fun gE=>?_)
     ·refine zQ 8 ?_;refine δ (aX ?_);refine zG ?_
      all_goals(simp[cj,fc,cJ,gE];done)
     ·refine zQ 3 ?_;refine π 28 rfl (fun ef=>?_) (fun ef=>?_)
      ·refine zQ 2 ?_;refine IN (aj rfl rfl rfl gE) rfl ef (aa rfl _) ?_;refine zQ 2 ?_;refine δ (aX ?_);refine zG ?_
       all_goals(simp[cj,fc,cJ,gE,ef];done)
      ·refine zQ 2 ?_;refine IS (aj rfl rfl rfl gE) rfl ef (aa rfl _) ?_;refine zQ 2 ?_;refine δ (aX ?_);refine zG ?_
       all_goals(simp[cj,fc,cJ,gE,ef];done)
    ·refine zQ 8 ?_;refine π 28 rfl (fun ef=>?_) (fun ef=>?_)
     ·refine zQ 5 ?_;refine δ (aX ?_);refine zG ?_
      all_goals(simp[cj,fc,cJ,ef];done)
     ·refine zQ 5 ?_;refine δ (aX ?_);refine zG ?_
      all_goals(simp[cj,fc,cJ,ef];done)
 dsimp only[aI,ε,nth,u2,u1];refine ag.ret ⟨rx,_,rfl,rl aR hH (rfl)⟩
theorem Lj (a b:List UInt8):∃d,Ev pv 154 [.str a,.str b] s0 d s0∧∃v:Bool,d=.bool v:=by
 refine Ev.CL rfl Sv rfl rfl rfl ?_;refine zE ?_;obtain⟨aR,hF,hH⟩:=ri s0;generalize ae .ro s0=S at*;refine zQ 5 ?_;refine ag.mH 4 (.bool (decide ((a.length:Int)<b.length)||(((a.length:Int)==b.length) &&Op.bytesLess a b))) [] ?_ (fun ff tmp=>?_)
 ·refine qm ?_;refine Qa0 rfl rfl rfl (aa rfl _) ?_;refine qm ?_;refine Qa0 rfl rfl rfl (aa rfl _) ?_;refine zQ 2 ?_;refine π 10 rfl (fun de=>?_) (fun de=>?_)
  ·refine zQ 12 ?_;refine δ (aX ?_);refine zG ?_
   all_goals(simp_all;done)
  ·refine zQ 1 ?_;refine Qa0 (aj rfl rfl rfl de) rfl rfl (aa rfl _) ?_;refine zQ 1 ?_;refine Qa0 (aj rfl rfl rfl de) rfl rfl (aa rfl _) ?_;refine zQ 2 ?_;refine π 16 rfl (fun cG=>?_) (fun cG=>?_)
   ·refine zQ 3 ?_;refine IN (aj rfl rfl rfl de) rfl cG (aa rfl _) ?_;refine zQ 2 ?_;refine δ (aX ?_);refine zG ?_
    all_goals(simp_all;done)
   ·refine zQ 3 ?_;refine IS (aj rfl rfl rfl de) rfl cG (aa rfl _) ?_;refine zQ 2 ?_;refine δ (aX ?_);refine zG ?_
    all_goals(simp_all;done)
 dsimp only[aI,ε,nth,u2,u1];refine ag.ret ⟨rx,_,_,rfl,rl aR hH (rfl),?_⟩;exact⟨_,rfl⟩
theorem o9 (b:List UInt8) (hb:b.length≤1048576):∃d,Ev pv 155 [.str b] s0 d s0∧∃(n:Int) (v:Bool),d=.tup [.int .i64 n,.bool v]:=by
 refine Ev.CL rfl Su rfl rfl rfl ?_;refine zE ?_;obtain⟨aR,hF,hH⟩:=ri s0;generalize ae .ro s0=S at*;refine zQ 9 ?_;refine Qa0 rfl rfl rfl (by dsimp only[Φ,u1,u2]<;>rfl) ?_;refine zQ 2 ?_;refine zP (fun h0=>?_) fun h0=>?_
 ·refine zQ 5 ?_;refine ag.ret ⟨rx,_,_,rfl,rl aR hH (rfl),?_⟩;exact⟨_,_,rfl⟩
 ·refine zQ 9 ?_;refine Qa0 rfl rfl rfl (by dsimp only[Φ,u1,u2]<;>rfl) ?_;refine zQ 3 ?_;refine ag.loop (fun mm fr st=>∃(i:Nat) (n:Int),fr.clean=⟨12,[.str b,gi fr 1,gi fr 2,gi fr 3,.int .i64 n,gi fr 5,gi fr 6,gi fr 7,gi fr 8,gi fr 9,.int .i64 (b.length:Nat),.int .i64 (i:Nat)],[]⟩∧Has s0.bs.length S st []∧(i+mm=b.length)) (b.length) ?_ ?_
  ·exact⟨0,0,rfl,hH,by omega⟩
  rintro mm fr st ⟨i,n,hfr,hH,hi⟩;rw[hfr];clear hfr;generalize gi fr=ee;clear fr;refine zQ 5 ?_;refine zP (fun h1=>?_) fun h1=>?_
  ·refine zQ 1 ?_
   obtain⟨c,hc⟩:∃c,b[i]?=some c:=⟨b[i]' z0,ν _⟩
   refine zQ 9 ?_;refine ab.A6 (z:=bp .i64 (10*n)) rfl z3 z3 rfl (aa rfl _) ?_;refine zQ 2 ?_;refine ab.Uh rfl z3 z3 rfl z5 (aa rfl _) ?_;refine ab.go (d:=.int .u8 (bp .u8 ((c.toNat:Nat)-48))) (st1:=_) rfl rfl rfl (aa rfl _) ?_;refine qg ?_;refine ab.dX (z:=bp .i64 (bp .i64 (10*n)+bp .i64 (bp .u8 ((c.toNat:Nat)-48)))) rfl z3 z3 rfl (aa rfl _) ?_;refine zQ 6 ?_;exact⟨mm-1,by omega,⟨i+1,_,rfl,hH,by omega⟩⟩
  ·refine zQ 9 ?_;refine ag.ret ⟨rx,_,_,rfl,rl aR hH (rfl),?_⟩;exact⟨_,_,rfl⟩
theorem sM:∀gs:List (Nat×Nat),lW ((gs.map bF).map (kO 2))=some (gs.map fun g=>((g.1:Nat):Int))
 |[]=>rfl
 |g::gs=>by
  have ih:=sM gs;simp only[List.map_cons];show(match lW ((gs.map bF).map (kO 2)) with|some rs=>some (((g.1:Nat):Int)::rs)|none=>none)=_;rw[ih]
theorem BM:∀(rs:List Int) (acc:List UInt8),(digS rs acc).2≤rs.length∧(digS rs acc).1.length≤acc.length+(digS rs acc).2
 |[],acc=>by simp[digS]
 |r::rs,acc=>by
  unfold digS
  split
  ·have h:=BM rs (if 48<r∨acc≠[] then acc++[UInt8.ofNat r.toNat] else acc);simp only[θ]
   have hl:(if 48<r∨acc≠[] then acc++[UInt8.ofNat r.toNat] else acc).length≤acc.length+1:=by
    split<;>simp
   omega
  ·simp
structure nG (gs:List (Nat×Nat)) (cC:List Int):Prop where
 gl:gs.length≤120
 pl:cC.length=gs.length
theorem xR (vw:gs.length≤120) (hi:s.i≤gs.length) (hne:gs≠[]) (hH:Has N S s0 (.box k (.mem 0 false (aW gs ch s))::H)):
  ∃d ah,Ev pv 153 [.ptr k 0 0] s0 d ah∧∃(t:List UInt8) (v:Bool) (m:Nat),d=.tup [.str t,.bool v]∧t.length≤120∧s.i+m≤gs.length∧Has N S ah (.box k (.mem 0 false (aW gs ch {s with i:=s.i+m}))::H):=by
 have hb:=hH.at aJ;have hw:=iE (cs:=[.int .i64 0]) hH (hH.ge aJ).1 (.inr rfl);have hl:=BM ((gs.map fun g=>((g.1:Nat):Int)).drop s.i) [];obtain⟨h1,h2⟩:=hl;simp only[χ,η,ς] at h1 h2;refine⟨_,_,Ev.l7 rfl ?_,(digS ((gs.map fun g=>((g.1:Nat):Int)).drop s.i) []).1,decide (0<(digS ((gs.map fun g=>((g.1:Nat):Int)).drop s.i) []).2),(digS ((gs.map fun g=>((g.1:Nat):Int)).drop s.i) []).2,rfl,by omega,by omega,hH.rj (aB:=0) aJ⟩
 have hd:decide ((gs.map fun g=>((g.1:Nat):Int))≠[]∧(0:Int)≤(s.i:Nat)∧((s.i:Nat):Int).toNat≤(gs.map fun g=>((g.1:Nat):Int)).length∧(gs.map fun g=>((g.1:Nat):Int)).length<1099511627776)=true:=by
  rw[decide_eq_true];refine⟨by simpa using hne,by omega,by simp;omega,by simp;omega⟩
 show Gu [.ptr k 0 0] s0=_;simp only[Gu,St.mem_of hb];show(match lW ((gs.map bF).map (kO 2)) with|some rs=>Mo s0 k 0 0 rs (s.i:Nat)|none=>none)=_;rw[sM];simp only[Mo,hd];have hwr:=mL (cs:=[.int .i64 ((s.i+(digS ((gs.map fun g=>((g.1:Nat):Int)).drop s.i) []).2:Nat))]) (off:=2) hb (by show 2+1≤7;omega) hw;simp only[wt,Nat.zero_add];rw[hwr]
 rfl
def Kh (gs:List (Nat×Nat)) (s s':gJ) (d1:D) (b:Bool):Prop:=
 s'.o=s.o∧s'.g=s.g∧s.i≤s'.i∧s'.i≤gs.length∧(d1=.nul∨∃a,d1=bK a∧a.length≤8)∧(s'.e≠0∨s'.e=0∧s.i<s'.i∧∃a,d1=bK a∧a.length≤8∧a≠[])
theorem et {e:Int} (he:s.e=0) (h:e≠0):(kT cC s i e).e≠0∧(kT cC s i e).i=s.i∧(kT cC s i e).o=s.o∧(kT cC s i e).g=s.g:=by
 unfold kT;rw[if_pos he];exact⟨h,rfl,rfl,rfl⟩
theorem Eb (aT:nG gs cC) (he:s.e=0) (hi:s.i<gs.length) (hH:Has N S s0 (.box k (.mem 0 false (aW gs ch s))::.aC ch 1 (cC.map ax)::H)):
  ∃d ah,Ev pv 150 [.ptr k 0 0] s0 d ah∧∃(d1:D) (b:Bool) (s':gJ),d=.tup [d1,.bool b]∧Kh gs s s' d1 b∧Has N S ah (.box k (.mem 0 false (aW gs ch s'))::.aC ch 1 (cC.map ax)::H):=by
 have vw:=aT.gl;have ia:=aT.pl;refine Ev.eH rfl Sy rfl rfl rfl ?_;refine zE ?_;have bD:=hH;have hH:=hH.bf;have bA:(ae .rw s0).bs=s0.bs:=rfl;generalize ae .rw s0=S2 at*;have LW:Arg N S2 2 (gf gs) (gs.map bF):=Arg.pure (fun st=>fe st gs);refine zQ 22 ?_;refine qT hH aJ fun st hH=>?_;dsimp only[u2,u1,u3,u4,setMany,u5,u6,τ,ι,aW,bF,ax,au] at hH;refine zQ 12 ?_;refine qn ?_;simp only[η];refine zQ 2 ?_;refine zP (fun h0=>?_) fun h0=>?_
 ·refine zQ 4 ?_;obtain⟨_,st,aA,rfl,hH⟩:=dQ (s:={s with i:=s.i+1}) s.i 4 z0 hH;refine qv aA ?_;refine zQ 6 ?_;obtain⟨h1,h2,h3,h4⟩:=et (cC:=cC) (s:={s with i:=s.i+1}) (i:=s.i) (e:=4) he (by decide);refine ag.ret ⟨rx,_,_,_,rfl,ai (rfl),?_⟩;exact⟨_,_,_,rfl,⟨h3,h4,by rw[h2];simp,by rw[h2];exact hi,.inl rfl,.inl h1⟩,bD.aq bA hH⟩
 ·obtain⟨g,hg⟩:∃g,gs[s.i+1]?=some g:=⟨gs[s.i+1]' z0,ν _⟩
  have fU:(gs.map bF)[s.i+1]?=some (bF g):=by rw[Δ,hg];rfl
  have hlt:=bc hg;refine zQ 9 ?_;obtain⟨_,st,aA,rfl,hH⟩:=DQ (s:={s with i:=s.i+1}) (s.i+1) hlt hH;refine qv aA ?_;refine zQ 1 ?_;dsimp only[aW] at hH;refine qc (fun hb=>?_) (fun hb=>?_)<;>try simp only[cs] at hb
  ·refine zQ 7 ?_;obtain⟨_,st,aA,rfl,hH⟩:=dQ (s:={s with i:=s.i+1}) (s.i+1) 4 z0 hH;refine qv aA ?_;refine zQ 6 ?_;obtain⟨h1,h2,h3,h4⟩:=et (cC:=cC) (s:={s with i:=s.i+1}) (i:=s.i+1) (e:=4) he (by decide);refine ag.ret ⟨rx,_,_,_,rfl,ai (rfl),?_⟩;exact⟨_,_,_,rfl,⟨h3,h4,by rw[h2];simp,by rw[h2];exact hi,.inl rfl,.inl h1⟩,bD.aq bA hH⟩
  ·refine zQ 11 ?_;refine qr fun Uo Ol=>?_;refine qf (fo:=0) fun Un Oj=>?_;refine zQ 12 ?_;refine qT hH aJ fun st hH=>?_;dsimp only[u2,u1,u3,u4,setMany,u5,u6,τ,ι,aW,bF,ax,au] at hH;refine zQ 6 ?_
   have gV:∀(a:List Rg) (b:Bool),a.length≤8→a≠[]→Kh gs s {s with i:=s.i+1+1} (bK a) b:=fun a b h1 h2=>⟨rfl,rfl,by show s.i≤s.i+1+1;omega,by show s.i+1+1≤_;omega,.inr ⟨a,rfl,h1⟩,.inr ⟨he,by show s.i<s.i+1+1;omega,a,rfl,h1,h2⟩⟩
   have me:∀(r:Int),0≤r→r<55296→(mZ [(r,r)]).length≤8∧mZ [(r,r)]≠[]:=by
    intro r h1 h2;obtain⟨_,h3,h4⟩:=py (s0:=s0) (x:=bK [(r,r)]) (l:=[(r,r)]) (fW _ _) (by simp);exact⟨by simp at h3;omega,Ba h1 h2 h4⟩
   refine zQ 6 ?_;refine zI (fun q1=>?_) fun q1=>?_
   ·refine zQ 2 ?_;refine qv (lx 10) ?_;refine zQ 3 ?_;refine ag.ret ⟨rx,_,_,_,rfl,ai (rfl),?_⟩;exact⟨_,_,_,rfl,gV _ _ (me 10 (by decide) (by decide)).1 (me 10 (by decide) (by decide)).2,bD.aq bA hH⟩
   ·refine zQ 5 ?_;refine zI (fun q2=>?_) fun q2=>?_
    ·refine zQ 2 ?_;refine qv (lx 9) ?_;refine zQ 3 ?_;refine ag.ret ⟨rx,_,_,_,rfl,ai (rfl),?_⟩;exact⟨_,_,_,rfl,gV _ _ (me 9 (by decide) (by decide)).1 (me 9 (by decide) (by decide)).2,bD.aq bA hH⟩
    ·refine zQ 5 ?_;refine zI (fun q3=>?_) fun q3=>?_
     ·refine zQ 2 ?_;refine qv (lx 13) ?_;refine zQ 3 ?_;refine ag.ret ⟨rx,_,_,_,rfl,ai (rfl),?_⟩;exact⟨_,_,_,rfl,gV _ _ (me 13 (by decide) (by decide)).1 (me 13 (by decide) (by decide)).2,bD.aq bA hH⟩
     ·refine zQ 5 ?_;refine zI (fun q4=>?_) fun q4=>?_
      ·refine zQ 2 ?_;refine Ω (qs:=[(0,_),(1,_)]) rfl rfl rfl rfl ⟨rfl,z3,(by rfl),rfl,z3,(by rfl),trivial⟩ (by intro q hq;simp only[κ,ζ,or_false] at hq;rcases hq with rfl|rfl<;>exact⟨rfl,by exact γ rfl⟩) (by show ε _ [_,_] _=_;dsimp only[ο,ρ,u2,u1]<;>rfl) (aa rfl _) ?_;refine qh (s:=2) (vs:=[_]) hH fun k73 st aaX hH=>?_;obtain⟨aA,hl,M5⟩:=py (l:=[(48,57)]) (hH.rows aJ) (by simp);refine qv aA ?_;refine zQ 3 ?_;refine ag.ret ⟨rx,_,_,_,rfl,ai (rfl),?_⟩;exact⟨_,_,_,rfl,gV _ _ (by simp at hl;omega) (yU (r:=48) (by decide) (by decide) ⟨_,ω ..,by decide,by decide⟩ M5),bD.aq bA (hH.drop 1)⟩
      ·refine zQ 5 ?_;refine zI (fun q5=>?_) fun q5=>?_
       ·refine zQ 2 ?_;refine Ω (qs:=[(0,_),(1,_)]) rfl rfl rfl rfl ⟨rfl,z3,(by rfl),rfl,z3,(by rfl),trivial⟩ (by intro q hq;simp only[κ,ζ,or_false] at hq;rcases hq with rfl|rfl<;>exact⟨rfl,by exact γ rfl⟩) (by show ε _ [_,_] _=_;dsimp only[ο,ρ,u2,u1]<;>rfl) (aa rfl _) ?_;refine Ω (qs:=[(0,_),(1,_)]) rfl rfl rfl rfl ⟨rfl,z3,(by rfl),rfl,z3,(by rfl),trivial⟩ (by intro q hq;simp only[κ,ζ,or_false] at hq;rcases hq with rfl|rfl<;>exact⟨rfl,by exact γ rfl⟩) (by show ε _ [_,_] _=_;dsimp only[ο,ρ,u2,u1]<;>rfl) (aa rfl _) ?_;refine Ω (qs:=[(0,_),(1,_)]) rfl rfl rfl rfl ⟨rfl,z3,(by rfl),rfl,z3,(by rfl),trivial⟩ (by intro q hq;simp only[κ,ζ,or_false] at hq;rcases hq with rfl|rfl<;>exact⟨rfl,by exact γ rfl⟩) (by show ε _ [_,_] _=_;dsimp only[ο,ρ,u2,u1]<;>rfl) (aa rfl _) ?_;refine qh (s:=2) (vs:=[_,_,_]) hH fun k80 st aaV hH=>?_;obtain⟨aA,hl,M5⟩:=py (l:=[(9,10),(13,13),(32,32)]) (hH.rows aJ) (by simp);refine qv aA ?_;refine zQ 3 ?_;refine ag.ret ⟨rx,_,_,_,rfl,ai (rfl),?_⟩;exact⟨_,_,_,rfl,gV _ _ (by simp at hl;omega) (yU (r:=9) (by decide) (by decide) ⟨_,ω ..,by decide,by decide⟩ M5),bD.aq bA (hH.drop 1)⟩
       ·refine zQ 5 ?_;refine zI (fun q6=>?_) fun q6=>?_
        ·refine zQ 2 ?_;refine Ω (qs:=[(0,_),(1,_)]) rfl rfl rfl rfl ⟨rfl,z3,(by rfl),rfl,z3,(by rfl),trivial⟩ (by intro q hq;simp only[κ,ζ,or_false] at hq;rcases hq with rfl|rfl<;>exact⟨rfl,by exact γ rfl⟩) (by show ε _ [_,_] _=_;dsimp only[ο,ρ,u2,u1]<;>rfl) (aa rfl _) ?_;refine Ω (qs:=[(0,_),(1,_)]) rfl rfl rfl rfl ⟨rfl,z3,(by rfl),rfl,z3,(by rfl),trivial⟩ (by intro q hq;simp only[κ,ζ,or_false] at hq;rcases hq with rfl|rfl<;>exact⟨rfl,by exact γ rfl⟩) (by show ε _ [_,_] _=_;dsimp only[ο,ρ,u2,u1]<;>rfl) (aa rfl _) ?_;refine Ω (qs:=[(0,_),(1,_)]) rfl rfl rfl rfl ⟨rfl,z3,(by rfl),rfl,z3,(by rfl),trivial⟩ (by intro q hq;simp only[κ,ζ,or_false] at hq;rcases hq with rfl|rfl<;>exact⟨rfl,by exact γ rfl⟩) (by show ε _ [_,_] _=_;dsimp only[ο,ρ,u2,u1]<;>rfl) (aa rfl _) ?_;refine Ω (qs:=[(0,_),(1,_)]) rfl rfl rfl rfl ⟨rfl,z3,(by rfl),rfl,z3,(by rfl),trivial⟩ (by intro q hq;simp only[κ,ζ,or_false] at hq;rcases hq with rfl|rfl<;>exact⟨rfl,by exact γ rfl⟩) (by show ε _ [_,_] _=_;dsimp only[ο,ρ,u2,u1]<;>rfl) (aa rfl _) ?_;refine qh (s:=2) (vs:=[_,_,_,_]) hH fun k88 st Rx hH=>?_;obtain⟨aA,hl,M5⟩:=py (l:=[(48,57),(65,90),(95,95),(97,122)]) (hH.rows aJ) (by simp);refine qv aA ?_;refine zQ 3 ?_;refine ag.ret ⟨rx,_,_,_,rfl,ai (rfl),?_⟩;exact⟨_,_,_,rfl,gV _ _ (by simp at hl;omega) (yU (r:=48) (by decide) (by decide) ⟨_,ω ..,by decide,by decide⟩ M5),bD.aq bA (hH.drop 1)⟩
        ·refine zQ 5 ?_;refine qv (Li _) ?_;refine zQ 2 ?_;refine ag.cond (by rfl) (fun q7=>?_) (fun q7=>?_)<;>try simp only[decide_eq_true_eq,decide_eq_false_iff_not,AN,Pd] at q7
         ·refine zQ 4 ?_;obtain⟨_,st,aA,rfl,hH⟩:=dQ (s:={s with i:=s.i+1+1}) s.i 4 z0 hH;refine qv aA ?_;refine zQ 6 ?_;obtain⟨h1,h2,h3,h4⟩:=et (cC:=cC) (s:={s with i:=s.i+1+1}) (i:=s.i) (e:=4) he (by decide);refine ag.ret ⟨rx,_,_,_,rfl,ai (rfl),?_⟩;exact⟨_,_,_,rfl,⟨h3,h4,by rw[h2];show s.i≤s.i+1+1;omega,by rw[h2];show s.i+1+1≤_;omega,.inl rfl,.inl h1⟩,bD.aq bA hH⟩
         ·refine zQ 4 ?_;refine qv (lx _) ?_;refine zQ 3 ?_;have hm:=me ((g.1:Nat):Int) z0 z0;refine ag.ret ⟨rx,_,_,_,rfl,ai (rfl),?_⟩;exact⟨_,_,_,rfl,gV _ _ hm.1 hm.2,bD.aq bA hH⟩
def gk (fr:Go.V.Fr) (k:Nat):Go.V.D:=Go.V.nth .bo fr.loc k
variable{pc:Nat}
theorem NR {p:Pg} {i:aL} (hp:p.ok) (hi:p.code[pc]?=some i):Ev pv 74 [p.d,.int .i64 (pc:Nat)] s0 (.bool (cE p.code.length p.ak.length pc i)) s0:=by
 refine Ev.iu rfl W3 rfl rfl rfl ?_;refine zE ?_;obtain⟨aR,hF,hH⟩:=ri s0;generalize ae .ro s0=S at*;have hc:=hp.c.arg s0.bs.length S;have hs:=hp.s.arg s0.bs.length S;have LV:=hp.i i (List.mem_of_getElem? hi);have C7:=LV.1;have RG:=LV.1.arg s0.bs.length S;have hil:=LV.2;have hcl:=hp.cl;have jS:=hp.sl;have hr:=fy hi;have hlt:=bc hi;unfold Pg.d;refine qq<|qj fun K hK=>qb hH fun k2 st hk2 hH=>?_;have hH:=zjma hH;refine qm ?_;refine qe hK<|qq<|qj fun K hK=>qp (o:=0) ?_;refine ql hH aJ ?_;refine qm ?_;refine qr fun Uw Ov=>?_;refine Qac rfl z3 z5 rfl (by dsimp only[Φ,u1,u2]<;>rfl) ?_;refine qa hH fun k5 st LS hH=>?_;refine qS hH aJ fun st hH=>?_;have hH:=zjma hH;refine qe hK<|qq<|qj fun K hK=>qp (o:=0) ?_;refine ql hH bt ?_;refine qn ?_;simp only[η];refine qm ?_;refine qe hK<|qq<|qj fun K hK=>qp (o:=0) ?_;refine ql hH aJ ?_;refine ab.go (d:=.agg [.int .i64 i.op,.int .i64 0,.int .i64 0,.nul]) (st1:=_) rfl rfl rfl (by dsimp only[Φ,u1,u2]<;>rfl) ?_;refine qa hH fun k7 st Rz hH=>?_;refine qS hH aJ fun st hH=>?_;have hH:=zjma hH;refine qe hK<|qq<|qj fun K hK=>qm ?_;refine qe hK<|qq<|qq<|qj fun K hK=>qp (o:=0) ?_;refine ql hH bt ?_;refine qe hK<|ag.merge (fun fr st=>∃(bx bz:Int) (Yd:D) (fl:Bool) (T9:List Rg) (tmp:List (Nat×D)),fr=⟨22,[gk fr 0,.int .i64 (pc:Nat),.ptr k2 0 0,gk fr 3,.bool false,.ptr k5 0 0,.int .i64 (p.code.length:Nat),.ptr k7 0 0,.bool fl,gk fr 9,gk fr 10,gk fr 11,gk fr 12,gk fr 13,gk fr 14,gk fr 15,gk fr 16,gk fr 17,gk fr 18,gk fr 19,gk fr 20,gk fr 21],tmp⟩∧Has s0.bs.length S st [.box k7 (.mem 0 false [.int .i64 i.op,.int .i64 bx,.int .i64 bz,Yd]),.box k5 (.mem 0 false [.int .i64 i.op,.int .i64 i.x,.int .i64 i.y,i.rd]),.box k2 (.mem 0 false [p.cd,p.sd])]∧(fg Yd 2 (T9.map au))∧(cE p.code.length p.ak.length pc i=(((i.x==bx) &&(i.y==bz)) &&((i.rs.length:Int)==T9.length) &&(!fl||decide (((pc+1:Nat):Int)<p.code.length))))) ?_ ?_
 ·refine ag.block<|qq<|qj fun K hK=>qg ?_;refine qm ?_;refine qe hK<|zI (fun h1=>?_) fun h1=>?_
  ·have oY:cE p.code.length p.ak.length pc i=(i.y==0 &&(decide (((pc+1:Nat):Int)<p.code.length) &&i.x==0 &&eN i.rs)):=by unfold cE;rw[if_pos h1]
   refine qq<|qj fun K hK=>qp (o:=3) ?_;refine ql hH bt ?_;refine qp (o:=3) ?_;refine qT hH aJ fun st hH=>?_;have hH:=zjma hH;refine qe hK<|qq<|ag.da 30 (.bool (!eN i.rs)) [] ?_ (fun ff tmp cI=>?_)
   ·refine qp (o:=3) ?_;refine ql hH bt ?_;refine qv (AD (RG.rows hH) hil) ?_;refine qg ?_;refine δ (aO ?_ ?_)
    ·dsimp only[aI,ε,nth,u2,u1]
     all_goals(first|rfl|simp)
    ·exact zS
     all_goals(first|rfl|(simp[];done)|(simp_all;done)|(simp[];omega)|(simp_all;omega))
   dsimp only[aI,ε,nth,u2,u1];refine ag.cond z5 (fun h2=>?_) (fun h2=>?_)<;>try simp only[AN,Pd] at h2
   ·refine qq<|qj fun K hK=>qm ?_;refine qe hK ?_;rw[oY,h2];simp only[Γ];refine ag.ret ⟨rx,_,rfl,rl aR hH (rfl)⟩
   ·refine ag.skip ?_;refine⟨0,0,i.rd,true,i.rs,_,rfl,hH,C7,?_⟩;rw[oY,h2];cases hx:(i.x==0)<;>cases hy:(i.y==0)<;>simp
  ·have oY:cE p.code.length p.ak.length pc i=(i.rs.isEmpty &&(if i.op=2 then kC i.x p.code.length &&kC i.y p.code.length
  else i.y==0 &&
   (if i.op=3 then kC i.x p.code.length
   else if i.op=4 then decide (((pc+1:Nat):Int)<p.code.length) &&kC i.x 10
   else if i.op=5∨i.op=6 then decide (((pc+1:Nat):Int)<p.code.length) &&i.x==0
   else if i.op=7 then kC i.x p.ak.length
   else false))):=by unfold cE;rw[if_neg h1]
   have L4:i.rs.isEmpty=((i.rs.length:Int)==(([]:List Rg).length:Int)):=by cases i.rs<;>simp<;>omega
   have C_:fg .nul 2 (([]:List Rg).map au):=.inl ⟨rfl,rfl⟩;refine qq<|qj fun K hK=>qg ?_;refine qm ?_;refine qe hK<|zI (fun h2=>?_) fun h2=>?_
   ·rw[if_pos h2] at oY;refine qq<|qj fun K hK=>qm ?_;refine qe hK ?_;have bD:=hH;change ag _ _ _ _ _ _;refine qq ?_;generalize hK:bS _ _ _ _=K;refine ag.yx rfl ?_;refine dg.cons ?_;refine qp (o:=1) ?_;refine δ ⟨rfl,?_⟩;refine dg.cons ?_;refine ql hH bt ?_;refine δ ⟨rfl,?_⟩;refine dg.cons ?_;refine qp (o:=2) ?_;refine δ ⟨rfl,?_⟩;refine dg.cons ?_;refine ql hH bt ?_;refine δ ⟨rfl,?_⟩;refine dg.cons ?_;refine qp (o:=1) ?_;refine δ ⟨rfl,?_⟩;refine dg.cons ?_;refine qT hH aJ fun st hH=>?_;have hH:=zjma hH;refine δ ⟨by exact Bool.and_eq_true_iff.2 ⟨xZ rfl rfl rfl (bD.at bt) (hH.at bt) (bD.at bt) (by simp[refs,D.ref,C7.ref]),rfl⟩,?_⟩;refine dg.cons ?_;refine qp (o:=2) ?_;refine δ ⟨rfl,?_⟩;refine dg.cons ?_;refine qT hH aJ fun st hH=>?_;have hH:=zjma hH;refine δ ⟨rfl,?_⟩;refine dg.nil ?_;subst hK;refine qq<|ag.da 58 (.bool (((decide (i.x<0)||decide (i.x≥p.code.length))||decide (i.y<0))||decide (i.y≥p.code.length))) [] ?_ (fun ff tmp cI=>?_)
    ·refine qp (o:=1) ?_;refine ql hH bt ?_;refine qg ?_;refine qm ?_;refine π 42 rfl (fun bB=>?_) (fun bB=>?_)
     ·refine qs ?_ (hg:=wn bB);refine qs ?_ (hg:=wn bB);refine qs ?_ (hg:=wn bB);refine qs ?_ (hg:=wn bB);refine qt bB ?_;refine qm ?_;refine qs ?_;refine qs ?_;refine qs ?_;refine qg ?_;refine qm ?_;refine qs ?_;refine qs ?_;refine qs ?_;refine qs ?_;refine qg ?_;refine δ (aO ?_ ?_)
      ·dsimp only[aI,ε,nth,u2,u1]
       all_goals(first|rfl|simp)
      ·refine zF ?_
       all_goals(simp[bB];done)
     ·refine qp (o:=1) ?_ (hg:=wi bB);refine ql hH bt ?_ (hg:=wi bB);refine qm ?_ (hg:=wi bB);refine qg ?_ (hg:=wi bB);refine qu bB ?_;refine qm ?_;refine π 48 rfl (fun fc=>?_) (fun fc=>?_)
      ·refine qs ?_ (hg:=wn fc);refine qs ?_ (hg:=wn fc);refine qs ?_ (hg:=wn fc);refine qt fc ?_;refine qm ?_;refine qs ?_;refine qs ?_;refine qs ?_;refine qs ?_;refine qg ?_;refine δ (aO ?_ ?_)
       ·dsimp only[aI,ε,nth,u2,u1]
        all_goals(first|rfl|simp)
       ·refine zF ?_
        all_goals(simp[bB,fc];done)
      ·refine qp (o:=2) ?_ (hg:=wi fc);refine ql hH bt ?_ (hg:=wi fc);refine qg ?_ (hg:=wi fc);refine qu fc ?_;refine qm ?_;refine π 53 rfl (fun gm=>?_) (fun gm=>?_)
       ·refine qs ?_ (hg:=wn gm);refine qs ?_ (hg:=wn gm);refine qs ?_ (hg:=wn gm);refine qs ?_ (hg:=wn gm);refine qt gm ?_;refine δ (aO ?_ ?_)
        ·dsimp only[aI,ε,nth,u2,u1]
         all_goals(first|rfl|simp)
        ·refine zF ?_
         all_goals(simp[bB,fc,gm];done)
       ·refine qp (o:=2) ?_ (hg:=wi gm);refine ql hH bt ?_ (hg:=wi gm);refine qm ?_ (hg:=wi gm);refine qg ?_ (hg:=wi gm);refine qu gm ?_;refine δ (aO ?_ ?_)
        ·dsimp only[aI,ε,nth,u2,u1]
         all_goals(first|rfl|simp)
        ·refine zF ?_
         all_goals(simp[bB,fc,gm];done)
    dsimp only[aI,ε,nth,u2,u1]
    have o0:(kC i.x p.code.length &&kC i.y p.code.length)=!(((decide (i.x<0)||decide (i.x≥p.code.length))||decide (i.y<0))||decide (i.y≥p.code.length)):=by
     unfold kC;simp only[v8,←decide_not,BY,GB,ge_iff_le,Bool.and_assoc]
    refine qc (fun h3=>?_) (fun h3=>?_)<;>try simp only[cs] at h3
    ·refine qq<|qj fun K hK=>qm ?_;refine qe hK ?_;rw[oY,o0,h3];simp only[Ψ,Γ];refine ag.ret ⟨rx,_,rfl,rl aR hH (rfl)⟩
    ·refine ag.skip ?_;exact⟨i.x,i.y,.nul,false,[],_,rfl,hH,C_,by rw[oY,o0,h3,L4];simp⟩
   ·rw[if_neg h2] at oY;refine qq<|qj fun K hK=>qg ?_;refine qm ?_;refine qe hK<|zI (fun h3=>?_) fun h3=>?_
    ·rw[if_pos h3] at oY;refine qq<|qj fun K hK=>qm ?_;refine qe hK<|qq<|qj fun K hK=>qp (o:=1) ?_;refine ql hH bt ?_;refine qp (o:=1) ?_;refine qT hH aJ fun st hH=>?_;have hH:=zjma hH;refine qe hK<|qq<|ag.da 72 (.bool (decide (i.x<0)||decide (i.x≥p.code.length))) [] ?_ (fun ff tmp cI=>?_)
     ·refine qp (o:=1) ?_;refine ql hH bt ?_;refine qg ?_;refine qm ?_;refine π 67 rfl (fun bB=>?_) (fun bB=>?_)
      ·refine qs ?_ (hg:=wn bB);refine qs ?_ (hg:=wn bB);refine qs ?_ (hg:=wn bB);refine qs ?_ (hg:=wn bB);refine qt bB ?_;refine δ (aO ?_ ?_)
       ·dsimp only[aI,ε,nth,u2,u1]
        all_goals(first|rfl|simp)
       ·refine zF ?_
        all_goals(simp[bB];done)
      ·refine qp (o:=1) ?_ (hg:=wi bB);refine ql hH bt ?_ (hg:=wi bB);refine qm ?_ (hg:=wi bB);refine qg ?_ (hg:=wi bB);refine qu bB ?_;refine δ (aO ?_ ?_)
       ·dsimp only[aI,ε,nth,u2,u1]
        all_goals(first|rfl|simp)
       ·refine zF ?_
        all_goals(simp[bB];done)
     dsimp only[aI,ε,nth,u2,u1]
     have o0:kC i.x p.code.length=!(decide (i.x<0)||decide (i.x≥p.code.length)):=by
      unfold kC;simp only[v8,←decide_not,BY,GB,ge_iff_le]
     refine qc (fun h4=>?_) (fun h4=>?_)<;>try simp only[cs] at h4
     ·refine qq<|qj fun K hK=>qm ?_;refine qe hK ?_;rw[oY,o0,h4];simp only[Ψ,Γ];refine ag.ret ⟨rx,_,rfl,rl aR hH (rfl)⟩
     ·refine ag.skip ?_;exact⟨i.x,0,.nul,false,[],_,rfl,hH,C_,by rw[oY,o0,h4,L4];cases(i.y==0)<;>simp⟩
    ·rw[if_neg h3] at oY;refine qq<|qj fun K hK=>qg ?_;refine qm ?_;refine qe hK<|zI (fun h4=>?_) fun h4=>?_
     ·rw[if_pos h4] at oY;refine qq<|qj fun K hK=>qp (o:=1) ?_;refine ql hH bt ?_;refine qp (o:=1) ?_;refine qT hH aJ fun st hH=>?_;have hH:=zjma hH;refine qe hK<|qq<|ag.da 85 (.bool (decide (i.x<0)||decide (i.x≥10))) [] ?_ (fun ff tmp cI=>?_)
      ·refine qp (o:=1) ?_;refine ql hH bt ?_;refine qg ?_;refine qm ?_;refine π 81 rfl (fun bB=>?_) (fun bB=>?_)
       ·refine qs ?_ (hg:=wn bB);refine qs ?_ (hg:=wn bB);refine qs ?_ (hg:=wn bB);refine qt bB ?_;refine δ (aO ?_ ?_)
        ·dsimp only[aI,ε,nth,u2,u1]
         all_goals(first|rfl|simp)
        ·refine zF ?_
         all_goals(simp[bB];done)
       ·refine qp (o:=1) ?_ (hg:=wi bB);refine ql hH bt ?_ (hg:=wi bB);refine qg ?_ (hg:=wi bB);refine qu bB ?_;refine δ (aO ?_ ?_)
        ·dsimp only[aI,ε,nth,u2,u1]
         all_goals(first|rfl|simp)
        ·refine zF ?_
         all_goals(simp[bB];done)
      dsimp only[aI,ε,nth,u2,u1]
      have o0:kC i.x 10=!(decide (i.x<0)||decide (i.x≥10)):=by
       unfold kC;simp only[v8,←decide_not,BY,GB,ge_iff_le]
      refine qc (fun h5=>?_) (fun h5=>?_)<;>try simp only[cs] at h5
      ·refine qq<|qj fun K hK=>qm ?_;refine qe hK ?_;rw[oY,o0,h5];simp only[Ψ,Γ];refine ag.ret ⟨rx,_,rfl,rl aR hH (rfl)⟩
      ·refine ag.skip ?_;exact⟨i.x,0,.nul,true,[],_,rfl,hH,C_,by rw[oY,o0,h5,L4];cases(i.y==0)<;>simp⟩
     ·rw[if_neg h4] at oY;refine qq<|qq<|qj fun K hK=>qg ?_;refine qm ?_;refine qe hK ?_
      by_cases h5:i.op=5
      ·rw[if_pos (.inl h5)] at oY;refine qD rfl (by simp[h5]) ?_;refine ag.skip<|qD rfl (by simp[h5]) ?_;refine ag.skip ?_;exact⟨0,0,.nul,true,[],_,rfl,hH,C_,by rw[oY,L4];cases(i.y==0)<;>cases(i.x==0)<;>simp⟩
      ·refine qE rfl (by simp[h5]) ?_;refine qj fun K hK=>qg ?_;refine qm ?_;refine qe hK<|zI (fun h6=>?_) fun h6=>?_
       ·rw[if_pos (.inr h6)] at oY;refine ag.skip ?_;exact⟨0,0,.nul,true,[],_,rfl,hH,C_,by rw[oY,L4];cases(i.y==0)<;>cases(i.x==0)<;>simp⟩
       ·rw[if_neg z0] at oY;refine qq<|qj fun K hK=>qg ?_;refine qm ?_;refine qe hK<|zI (fun h7=>?_) fun h7=>?_
        ·rw[if_pos h7] at oY;refine qq<|qj fun K hK=>qm ?_;refine qe hK<|qq<|qj fun K hK=>qp (o:=1) ?_;refine ql hH bt ?_;refine qp (o:=1) ?_;refine qT hH aJ fun st hH=>?_;have hH:=zjma hH;refine qe hK<|qq<|ag.da 104 (.bool (decide (i.x<0)||decide (i.x≥p.ak.length))) [] ?_ (fun ff tmp cI=>?_)
         ·refine qp (o:=1) ?_;refine ql hH bt ?_;refine qg ?_;refine qm ?_;refine π 97 rfl (fun bB=>?_) (fun bB=>?_)
          ·refine qs ?_ (hg:=wn bB);refine qs ?_ (hg:=wn bB);refine qs ?_ (hg:=wn bB);refine qs ?_ (hg:=wn bB);refine qs ?_ (hg:=wn bB);refine qs ?_ (hg:=wn bB);refine qt bB ?_;refine δ (aO ?_ ?_)
           ·dsimp only[aI,ε,nth,u2,u1]
            all_goals(first|rfl|simp)
           ·refine zF ?_
            all_goals(simp[bB];done)
          ·refine qp (o:=1) ?_ (hg:=wi bB);refine ql hH bt ?_ (hg:=wi bB);refine qp (o:=1) ?_ (hg:=wi bB);refine ql hH cU ?_ (hg:=wi bB);refine qn ?_ (hg:=wi bB);simp only[η];refine qg ?_ (hg:=wi bB);refine qu bB ?_;refine δ (aO ?_ ?_)
           ·dsimp only[aI,ε,nth,u2,u1]
            all_goals(first|rfl|simp)
           ·refine zF ?_
            all_goals(simp[bB];done)
         dsimp only[aI,ε,nth,u2,u1]
         have o0:kC i.x p.ak.length=!(decide (i.x<0)||decide (i.x≥p.ak.length)):=by
          unfold kC;simp only[v8,←decide_not,BY,GB,ge_iff_le]
         refine qc (fun h8=>?_) (fun h8=>?_)<;>try simp only[cs] at h8
         ·refine qq<|qj fun K hK=>qm ?_;refine qe hK ?_;rw[oY,o0,h8];simp only[Ψ,Γ];refine ag.ret ⟨rx,_,rfl,rl aR hH (rfl)⟩
         ·refine ag.skip ?_;exact⟨i.x,0,.nul,false,[],_,rfl,hH,C_,by rw[oY,o0,h8,L4];cases(i.y==0)<;>simp⟩
        ·rw[if_neg h7] at oY;refine qq<|qj fun K hK=>qm ?_;refine qe hK ?_;rw[oY];simp only[Γ];refine ag.ret ⟨rx,_,rfl,rl aR hH (rfl)⟩
 ·rintro fr st ⟨bx,bz,Yd,fl,T9,tmp,hfr,hH,Zp,hsh⟩;rw[hfr];clear hfr;generalize gk fr=ee;clear fr;have abb:=Zp.arg s0.bs.length S;refine qq<|ag.mH 4 (.bool ((((i.x==bx) &&(i.y==bz)) &&((i.rs.length:Int)==T9.length)) &&(!fl||decide (((pc+1:Nat):Int)<p.code.length)))) [] ?_ (fun ff tmp=>?_)
  ·refine qp (o:=1) ?_;refine ql hH bt ?_;refine qp (o:=1) ?_;refine ql hH aJ ?_;refine qg ?_;refine qm ?_;refine π 110 rfl (fun de=>?_) (fun de=>?_)
   ·refine qp (o:=2) ?_ (hg:=wi de);refine ql hH bt ?_ (hg:=wi de);refine qp (o:=2) ?_ (hg:=wi de);refine ql hH aJ ?_ (hg:=wi de);refine qg ?_ (hg:=wi de);refine qt de ?_;refine qm ?_;refine π 117 rfl (fun dV=>?_) (fun dV=>?_)
    ·refine qp (o:=3) ?_ (hg:=wi dV);refine ql hH bt ?_ (hg:=wi dV);refine qn ?_ (hg:=wi dV);simp only[η];refine qp (o:=3) ?_ (hg:=wi dV);refine ql hH aJ ?_ (hg:=wi dV);refine qn ?_ (hg:=wi dV);simp only[η];refine qg ?_ (hg:=wi dV);refine qt dV ?_;refine qm ?_;refine π 126 rfl (fun jq=>?_) (fun jq=>?_)
     ·refine qm ?_ (hg:=wi jq);refine qg ?_ (hg:=wi jq);refine qm ?_ (hg:=wi jq);refine π 129 rfl (fun jo=>?_) (fun jo=>?_)
      ·refine qs ?_ (hg:=wn jo);refine qs ?_ (hg:=wn jo);refine qs ?_ (hg:=wn jo);refine qs ?_ (hg:=wn jo);refine IN (aj rfl rfl rfl jq) rfl jo (aa rfl _) ?_;refine qt jq ?_;refine qm ?_;refine δ (aX ?_);refine zG ?_
       all_goals(simp[de,dV,jq,jo];done)
      ·refine qm ?_ (hg:=wi jo);refine qA ?_ (hg:=wi jo);refine qm ?_ (hg:=wi jo);refine qg ?_ (hg:=wi jo);refine IS (aj rfl rfl rfl jq) rfl jo (aa rfl _) ?_;refine qt jq ?_;refine qm ?_;refine δ (aX ?_);refine zG ?_
       all_goals(simp[de,dV,jq,jo];done)
     ·refine qs ?_ (hg:=wn jq);refine qs ?_ (hg:=wn jq);refine qs ?_ (hg:=wn jq);refine qs ?_;refine qs ?_;refine qs ?_;refine qs ?_;refine qs ?_ (hg:=wn jq);refine qu jq ?_;refine qm ?_;refine δ (aX ?_);refine zG ?_
      all_goals(simp[de,dV,jq];done)
    ·refine qs ?_ (hg:=wn dV);refine qs ?_ (hg:=wn dV);refine qs ?_ (hg:=wn dV);refine qs ?_ (hg:=wn dV);refine qs ?_ (hg:=wn dV);refine qs ?_ (hg:=wn dV);refine qs ?_ (hg:=wn dV);refine qu dV ?_;refine qm ?_;refine qs ?_;refine qs ?_;refine qs ?_;refine qs ?_;refine qs ?_;refine qs ?_;refine qs ?_;refine qs ?_;refine qg ?_;refine qm ?_;refine δ (aX ?_);refine zG ?_
     all_goals(simp[de,dV];done)
   ·refine qs ?_ (hg:=wn de);refine qs ?_ (hg:=wn de);refine qs ?_ (hg:=wn de);refine qs ?_ (hg:=wn de);refine qs ?_ (hg:=wn de);refine qu de ?_;refine qm ?_;refine qs ?_;refine qs ?_;refine qs ?_;refine qs ?_;refine qs ?_;refine qs ?_;refine qs ?_;refine qg ?_;refine qm ?_;refine qs ?_;refine qs ?_;refine qs ?_;refine qs ?_;refine qs ?_;refine qs ?_;refine qs ?_;refine qs ?_;refine qg ?_;refine qm ?_;refine δ (aX ?_);refine zG ?_
    all_goals(simp[de];done)
  dsimp only[aI,ε,nth,u2,u1];rw[hsh];refine ag.ret ⟨rx,_,rfl,rl aR hH (rfl)⟩
def aQ (fr:Go.V.Fr) (k:Nat):Go.V.D:=Go.V.nth .bo fr.loc k
def bV (b:Bool):List D:=[.bool b]
theorem kb {l:List Bool} {q:Bool} (h:l[i]?=some q):(l.map bV)[i]?=some (bV q):=by rw[Δ,h];rfl
theorem mw (l:List Bool):∀e∈l.map bV,∀d∈e,cD d=true:=by
 intro e he d hd;obtain⟨x,_,rfl⟩:=ψ.1 he;simp only[bV,κ,ζ,or_false] at hd;subst hd;rfl
theorem J9 (l:List Bool):∀e∈l.map bV,e.length=1:=by
 intro e he;obtain⟨x,_,rfl⟩:=ψ.1 he;rfl
def oW (l:List Bool):D:=.sl ((l.map bV).map (kO 1))
theorem oj (l:List Bool):fg (oW l) 1 (l.map bV):=fg.frozen (J9 l) (mw l)
theorem jR (l:List Int):∀e∈l.map ax,∀d∈e,cD d=true:=by
 intro e he d hd;obtain⟨x,_,rfl⟩:=ψ.1 he;simp only[ax,κ,ζ,or_false] at hd;subst hd;rfl
theorem Lo (l:List Int):∀e∈l.map ax,e.length=1:=by
 intro e he;obtain⟨x,_,rfl⟩:=ψ.1 he;rfl
def EJ (l:List Int):D:=.sl ((l.map ax).map (kO 1))
theorem vl (l:List Int):fg (EJ l) 1 (l.map ax):=fg.frozen (Lo l) (jR l)
def bR (pc:Nat) (i:aL):List Int:=
 if i.op=2 then[i.x,i.y] else if i.op=3 then[i.x] else if i.op=7 then[] else[((pc+1:Nat):Int)]
def jL (code:List aL):Prop:=∀pc i,code[pc]?=some i→∀v∈bR pc i,0≤v∧v<code.length
theorem Aj {n ns:Nat} {i:aL} (h:cE n ns pc i=true):∀v∈bR pc i,0≤v∧v<n:=by
 intro v hv
 have ek:∀a b:Int,kC a b=true→0≤a∧a<b:=fun a b h=>by
  unfold kC at h;simp only[φ,decide_eq_true_eq] at h;exact⟨h.1,h.2⟩
 unfold cE at h;unfold bR at hv
 split at h
 ·rename_i h1;rw[if_neg z0,if_neg z0,if_neg z0] at hv;simp only[φ,decide_eq_true_eq] at h;simp only[κ,ζ,or_false] at hv;subst hv;omega
 ·simp only[φ] at h;obtain⟨_,h⟩:=h
  split at h
  ·rename_i h2;rw[if_pos h2] at hv;simp only[φ] at h;simp only[κ,ζ,or_false] at hv
   rcases hv with rfl|rfl
   ·exact ek _ _ h.1
   ·exact ek _ _ h.2
  ·rename_i h2;rw[if_neg h2] at hv;simp only[φ] at h;obtain⟨_,h⟩:=h
   split at h
   ·rename_i h3;rw[if_pos h3] at hv;simp only[κ,ζ,or_false] at hv;subst hv;exact ek _ _ h
   ·rename_i h3;rw[if_neg h3] at hv
    split at h
    ·rename_i h4;rw[if_neg z0] at hv;simp only[φ,decide_eq_true_eq] at h;simp only[κ,ζ,or_false] at hv;subst hv;omega
    ·split at h
     ·rename_i h5;rw[if_neg z0] at hv;simp only[φ,decide_eq_true_eq] at h;simp only[κ,ζ,or_false] at hv;subst hv;omega
     ·split at h
      ·rename_i h7;rw[if_pos h7] at hv;cases hv
      ·cases h
def zM (code:List aL):Nat→List Bool→List Int→List Bool
 |0,seen,_=>seen
 |_+1,seen,[]=>seen
 |f+1,seen,v::ga=>match seen[v.toNat]? with
  |some false=>match code[v.toNat]? with
   |some i=>zM code f (seen.set v.toNat true) ((bR v.toNat i).reverse++ga)
   |none=>seen
  |_=>zM code f seen ga
def br (code:List aL) (start:Int):List Bool:=zM code (3*code.length+1) (Qa2 code.length false) [start]
theorem zq (code:List aL):∀(f:Nat) (seen:List Bool) (ga:List Int),(zM code f seen ga).length=seen.length
 |0,_,_=>rfl
 |_+1,_,[]=>rfl
 |f+1,seen,v::ga=>by
  unfold zM
  split
  ·split
   ·rw[zq code f];simp
   ·rfl
  ·exact zq code f seen ga
theorem l5 (code:List aL) (s:Int):(br code s).length=code.length:=by
 unfold br;rw[zq];simp
theorem count_set {seen:List Bool} (h:seen[k]?=some false):(seen.set k true).count false+1=seen.count false:=by
 induction seen generalizing k with
 |nil=>simp at h
 |cons b l ih=>
  cases k with
  |zero=>simp at h;subst h;simp
  |succ k=>
   have:=ih (k:=k) (by simpa using h);simp only[List.set_cons_succ,List.count_cons];omega
theorem uU (pc:Nat) (i:aL):(bR pc i).length≤2:=by
 unfold bR;split
 ·simp
 ·split
  ·simp
  ·split<;>simp
theorem Ac (v:Int) (r:List Int):((v::r).reverse.map ax)[r.length]?=some (ax v):=by
 rw[Δ,AT,List.getElem?_append_right (by simp)];simp
theorem D7 (v:Int) (r:List Int):(((v::r).reverse.map ax).take r.length).drop 0=r.reverse.map ax:=by
 rw[AT,Θ,Qa1,List.take_left' (by simp)]
theorem E7 {cd:D} {code:List aL} {start:Int} (nY:fg cd 4 (code.map aK)) (hlen:code.length≤1048576) (hcl:jL code) (iA:0≤start∧start<code.length):Ev pv 68 [cd,.int .i64 start] s0 (oW (br code start)) s0:=by
 refine Ev.iu rfl W8 rfl rfl rfl ?_;refine zE ?_;obtain⟨aR,hF,hH⟩:=ri s0;generalize ae .ro s0=S at*;have hc:=nY.arg s0.bs.length S;refine zQ 7 ?_;refine qn ?_;simp only[η];refine ab.xD (s:=1) hH rfl rfl rfl rfl rfl rfl rfl rfl (γ rfl) z0 (fun _=>by dsimp only[Φ,u1,u2]<;>rfl) (fun k11 st LU hH=>?_);refine zQ 5 ?_;refine qh (s:=1) (vs:=[_]) hH fun k13 st OM hH=>?_;refine zQ 4 ?_;refine ag.loop (fun mm fr st=>∃(y z:D) (seen:List Bool) (ga:List Int),fr.clean=⟨41,[cd,aQ fr 1,aQ fr 2,aQ fr 3,.nul,y,z,aQ fr 7,aQ fr 8,aQ fr 9,aQ fr 10,aQ fr 11,aQ fr 12,aQ fr 13,aQ fr 14,aQ fr 15,aQ fr 16,aQ fr 17,aQ fr 18,aQ fr 19,aQ fr 20,aQ fr 21,aQ fr 22,aQ fr 23,aQ fr 24,aQ fr 25,aQ fr 26,aQ fr 27,aQ fr 28,aQ fr 29,aQ fr 30,aQ fr 31,aQ fr 32,aQ fr 33,aQ fr 34,aQ fr 35,aQ fr 36,aQ fr 37,aQ fr 38,aQ fr 39,aQ fr 40],[]⟩∧Has s0.bs.length S st [.aC z 1 (ga.reverse.map ax),.aC y 1 (seen.map bV)]∧(zM code mm seen ga=br code start)∧(3*seen.count false+ga.length≤mm)∧(seen.length=code.length)∧(∀v∈ga,0≤v∧v<(code.length:Int))∧(mm≤3*code.length+1)) (3*code.length+1) ?_ ?_
 ·exact⟨_,_,Qa2 code.length false,[start],rfl,(by rw[List.map_replicate];exact hH),rfl,by simp,by simp,by simpa using iA,by omega⟩
 rintro mm fr st ⟨y,z,seen,ga,hfr,hH,hd,hm,jS,hsk,Ca⟩;rw[hfr];clear hfr;generalize aQ fr=ee;clear fr
 rcases ga with _|⟨v,ga⟩
 ·refine zQ 4 ?_;refine qn ?_ (hR:=hH.rows aJ);simp only[η,ς,μ];refine zQ 2 ?_;refine ag.cond (v:=false) (by dsimp only[Qab,Qa7,nth,V.look];rfl) (fun h=>by cases h) (fun _=>?_);refine zQ 6 ?_;have gV:seen=br code start:=by rw[←hd];cases mm<;>rfl
  rw[←gV];refine ag.ret ⟨rx,_,rfl,rl aR hH ?_⟩;exact hH.freeze bt (mw _) (n:=15) (by decide)
 ·have hv:=hsk v (ω ..);obtain⟨k,rfl⟩:=Int.eq_ofNat_of_zero_le hv.1;have hk:k<code.length:=by omega
  simp only[θ] at hm
  obtain⟨mm,rfl⟩:∃m',mm=m'+1:=⟨mm-1,by omega⟩
  obtain⟨b,hb⟩:∃b,seen[k]?=some b:=⟨seen[k]' z0,ν _⟩
  obtain⟨i,hi⟩:∃i,code[k]?=some i:=⟨code[k]' z0,ν _⟩
  have fU:=Ac (k:Int) ga;have mB:=kb hb;have C8:=fy hi;refine zQ 4 ?_;refine qn ?_ (hR:=hH.rows aJ);simp only[η,θ,μ];refine zQ 2 ?_;refine qD rfl (by simp) ?_;refine zQ 6 ?_;refine qn ?_ (hR:=hH.rows aJ);simp only[η,θ,μ];refine Qad (z:=((ga.length:Nat):Int)) rfl z3 z3 (by rw[wrap_i64 z0 z0]<;>omega) (by dsimp only[Φ,u1,u2]<;>rfl) ?_;refine qi hH aJ fun Qi IH=>?_;refine zQ 7 ?_;refine qn ?_ (hR:=hH.rows aJ);simp only[η,θ,μ];refine Qad (z:=((ga.length:Nat):Int)) rfl z3 z3 (by rw[wrap_i64 z0 z0]<;>omega) (by dsimp only[Φ,u1,u2]<;>rfl) ?_;refine ab.yD hH rfl z3 (by exact aJ) rfl rfl (lN (by simp only[η,μ,θ];omega)) ⟨z0,(by simp only[η,μ,θ];omega)⟩ (fun _=>by dsimp only[Φ,u1,u2]<;>rfl) (fun y27 hH=>?_);refine zQ 2 ?_;dsimp only[u2] at hH;rw[D7] at hH;have iA:∀w∈ga,0≤w∧w<(code.length:Int):=fun w hw=>hsk w (List.mem_cons_of_mem _ hw);refine zQ 5 ?_;refine qi hH bt fun YG Rf=>?_;refine zQ 2 ?_
  cases b with
  |true=>
   refine zQ 2 ?_;simp only[zM,wt,hb] at hd;exact⟨mm,by omega,⟨_,_,seen,ga,rfl,hH,hd,by omega,jS,iA,by omega⟩⟩
  |false=>
   have Gf:=count_set hb;have gD:(seen.set k true).map bV=(seen.map bV).set k [.bool true]:=by rw[List.map_set];rfl
   simp only[zM,wt,hb,hi] at hd;have Vw:=hcl k i hi;have C_:=uU k i
   have N7:∀w∈(bR k i).reverse++ga,0≤w∧w<(code.length:Int):=fun w hw=>by
    rcases List.mem_append.1 hw with hw|hw
    ·exact Vw w (List.mem_reverse.1 hw)
    ·exact iA w hw
   have Ob:(((bR k i).reverse++ga).reverse).map ax=ga.reverse.map ax++(bR k i).map ax:=by
    rw[List.reverse_append,List.reverse_reverse,Θ]
   refine zQ 6 ?_;refine qi hH bt fun YE Re=>?_;refine ab.il hH rfl z3 z3 z5 rfl rfl (by exact bt) z5 (γ rfl) (by exact .inl hF) (fun st hH=>?_);have hH:=zjmb hH;refine zQ 5 ?_;refine qr fun Uq On=>?_;refine Qac rfl z3 z5 rfl (by dsimp only[Φ,u1,u2]<;>rfl) ?_;refine qa hH fun k8 st LQ hH=>?_;refine qS hH aJ fun st hH=>?_;have hH:=zjmb hH;refine zQ 6 ?_;refine ag.merge (fun fr st=>∃(z:D) (tmp:List (Nat×D)),fr=⟨41,[cd,aQ fr 1,aQ fr 2,aQ fr 3,.nul,y,z,aQ fr 7,aQ fr 8,aQ fr 9,aQ fr 10,aQ fr 11,aQ fr 12,aQ fr 13,aQ fr 14,aQ fr 15,aQ fr 16,aQ fr 17,aQ fr 18,aQ fr 19,aQ fr 20,aQ fr 21,aQ fr 22,aQ fr 23,aQ fr 24,aQ fr 25,aQ fr 26,aQ fr 27,aQ fr 28,aQ fr 29,aQ fr 30,aQ fr 31,aQ fr 32,aQ fr 33,aQ fr 34,aQ fr 35,aQ fr 36,aQ fr 37,aQ fr 38,aQ fr 39,aQ fr 40],tmp⟩∧Has s0.bs.length S st [.aC z 1 (ga.reverse.map ax++(bR k i).map ax),.aC y 1 ((seen.map bV).set k [.bool true])]) ?_ ?_
   ·refine zQ 6 ?_;refine zI (fun h2=>?_) fun h2=>?_
    ·have:bR k i=[i.x,i.y]:=by unfold bR;rw[if_pos h2]
     rw[this];refine zQ 6 ?_;refine qh (s:=1) (vs:=[_,_]) hH fun k53 st VM hH=>?_;refine Qa4 (s:=1) hH rfl z3 z3 (by exact cU) (by exact hH.rows (by exact aJ)) rfl rfl rfl rfl rfl rfl rfl ⟨(γ rfl),(γ rfl)⟩ (fun _=>(aa rfl _)) (by simp only[θ,ς,η,μ]<;>omega) (by exact .inl hF) (fun TA st hH=>?_);have hH:=zjmb hH;refine zQ 2 ?_;exact⟨_,_,rfl,(by have:=hH.drop 2;exact this)⟩
    ·refine zQ 5 ?_;refine zI (fun h3=>?_) fun h3=>?_
     ·have:bR k i=[i.x]:=by unfold bR;rw[if_neg h2,if_pos h3]
      rw[this];refine zQ 4 ?_;refine qh (s:=1) (vs:=[_]) hH fun k60 st aaZ hH=>?_;refine Qa4 (s:=1) hH rfl z3 z3 (by exact cU) (by exact hH.rows (by exact aJ)) rfl rfl rfl rfl rfl rfl rfl ⟨(γ rfl),(γ rfl)⟩ (fun _=>(aa rfl _)) (by simp only[θ,ς,η,μ]<;>omega) (by exact .inl hF) (fun x61 st hH=>?_);have hH:=zjmb hH;refine zQ 2 ?_;exact⟨_,_,rfl,(by have:=hH.drop 2;exact this)⟩
     ·refine zQ 5 ?_;refine zI (fun h7=>?_) fun h7=>?_
      ·have:bR k i=[]:=by unfold bR;rw[if_neg h2,if_neg h3,if_pos h7]
       rw[this,List.map_nil,AI];refine zQ 1 ?_;exact⟨_,_,rfl,(by have:=hH.drop 1;exact this)⟩
      ·have:bR k i=[((k+1:Nat):Int)]:=by unfold bR;rw[if_neg h2,if_neg h3,if_neg h7]
       rw[this];refine zQ 4 ?_;refine qh (s:=1) (vs:=[_]) hH fun k44 st VO hH=>?_;refine Qa4 (s:=1) hH rfl z3 z3 (by exact cU) (by exact hH.rows (by exact aJ)) rfl rfl rfl rfl rfl rfl rfl ⟨(γ rfl),(γ rfl)⟩ (fun _=>(aa rfl _)) (by simp only[θ,ς,η,μ]<;>omega) (by exact .inl hF) (fun Uc st hH=>?_);have hH:=zjmb hH;refine zQ 2 ?_;exact⟨_,_,rfl,(by have:=hH.drop 2;exact this)⟩
   ·rintro fr st ⟨z,tmp,hfr,hH⟩;rw[hfr];clear hfr;generalize aQ fr=ee;clear fr;exact⟨mm,by omega,⟨y,z,seen.set k true,(bR k i).reverse++ga,rfl,(by rw[Ob,gD];exact hH),hd,by simp only[Pe,μ];omega,by simp only[List.length_set];exact jS,N7,by omega⟩⟩
end Go.Proofs.YtkbacjpologjbaaGreat
