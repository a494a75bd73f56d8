/-
 The parser of patterns: what stands at a rune; errors.
-/
import Derived.Test.YtecjacicdpejaaaGreatWGHr
import Derived.Test.YtecjacicdpejaaaGreatWPx
import Derived.Test.YtecjacicdpejaaaGreatWM2
import Derived.KernelRfl
import Derived.Test.YtecjacicdpejaaaGreatWGCa
import Derived.Test.YtecjacicdpejaaaGreatWDgp
set_option maxRecDepth 100000
set_option maxHeartbeats 4000000
set_option linter.unusedSimpArgs false
set_option linter.unusedVariables false
open Nat renaming le_of_ble_eq_true→γ,reduceAdd→ι,mul_comm→BY,le_refl→Cf
open Go.V.ab renaming nil→δ,two→ρ,jc→Q5,bN→Zt,cA→YQ,fp→JS,oV→VQ,cL→Bv,len→IN,c_→LL,gd→OF
open List renaming length_map→ε,foldl→ζ,not_mem_nil→η,length_cons→θ,mem_cons→κ,length_reverse→μ,length_nil→ν,getElem?_eq_getElem→ξ,foldl_cons→π,foldl_nil→ς,length_drop→υ,length_append→χ,mem_map→ψ,mem_cons_self→ω,getElem?_map→Δ,length_set→Θ,map_append→Ξ,length_replicate→YH,reverse_cons→v8,length_take→ki,append_nil→Ut,drop_zero→VM,replicate→VT
open BitVec renaming ofInt→ο
open Go.V.D renaming cells→τ
open Bool renaming and_eq_true→φ,and_false→Γ,not_true→Ω,not_or→Z5,not_eq_false'→wt,not_eq_true'→xw
open Go.IntKind renaming i32→Φ,u8→GB
open Go.V.Fr renaming put→Ψ,get→Cr,clean→IS,ev→IT
open Int renaming toNat_natCast→Wh,not_le→ZD,not_lt→Zn,toNat→Y'
namespace Go.Proofs.YtecjacicdpejaaaGreat
open Go.V Go
def c7 (c:Nat):Int×Nat×Nat:=
 if c<128 then(0,0,0) else if c<194 then(-1,0,0) else if c<224 then(1,128,191) else if c=224 then(2,160,191) else if c=237 then(2,128,159)
 else if c<240 then(2,128,191) else if c=240 then(3,144,191) else if c<244 then(3,128,191) else if c=244 then(3,128,143) else(-1,0,0)
theorem OZ (c:Nat) (st:St):Ev pv 198 [.int .u8 c] st (.tup [.int .i64 (c7 c).1,.int .u8 (c7 c).2.1,.int .u8 (c7 c).2.2]) st:=by
 refine Ev.gP rfl W9 rfl rfl rfl ?_;refine zE ?_;refine zR ?_;refine ag.seq (ag.block ?_);refine zR ?_;(repeat refine qq ?_);refine qc (fun h1=>?_) (fun h1=>?_)<;>try simp only[cs] at h1
 ·refine zR ?_;refine ag.ret ⟨rx,_,rfl,aU (by simp) (by simp[ae]) ?_⟩;rw[show c7 c=(0,0,0) by unfold c7;rw[if_pos (by omega)]];rfl
 refine zR ?_;(repeat refine qq ?_);refine qc (fun h2=>?_) (fun h2=>?_)<;>try simp only[cs] at h2
 ·refine zR ?_;refine ag.ret ⟨rx,_,rfl,aU (by simp) (by simp[ae]) ?_⟩;rw[show c7 c=(-1,0,0) by unfold c7;rw[if_neg (by omega),if_pos (by omega)]];rfl
 refine zR ?_;(repeat refine qq ?_);refine qc (fun h3=>?_) (fun h3=>?_)<;>try simp only[cs] at h3
 ·refine zR ?_;refine ag.ret ⟨rx,_,rfl,aU (by simp) (by simp[ae]) ?_⟩;rw[show c7 c=(1,128,191) by unfold c7;rw[if_neg (by omega),if_neg (by omega),if_pos (by omega)]];rfl
 refine zR ?_;(repeat refine qq ?_);refine qc (fun h4=>?_) (fun h4=>?_)<;>try simp only[cs] at h4
 ·refine zR ?_;refine ag.ret ⟨rx,_,rfl,aU (by simp) (by simp[ae]) ?_⟩;rw[show c7 c=(2,160,191) by unfold c7;rw[if_neg (by omega),if_neg (by omega),if_neg (by omega),if_pos (by omega)]];rfl
 refine zR ?_;(repeat refine qq ?_);refine qc (fun h5=>?_) (fun h5=>?_)<;>try simp only[cs] at h5
 ·refine zR ?_;refine ag.ret ⟨rx,_,rfl,aU (by simp) (by simp[ae]) ?_⟩;rw[show c7 c=(2,128,159) by unfold c7;rw[if_neg (by omega),if_neg (by omega),if_neg (by omega),if_neg (by omega),if_pos (by omega)]];rfl
 refine zR ?_;(repeat refine qq ?_);refine qc (fun h6=>?_) (fun h6=>?_)<;>try simp only[cs] at h6
 ·refine zR ?_;refine ag.ret ⟨rx,_,rfl,aU (by simp) (by simp[ae]) ?_⟩;rw[show c7 c=(2,128,191) by unfold c7;rw[if_neg (by omega),if_neg (by omega),if_neg (by omega),if_neg (by omega),if_neg (by omega),if_pos (by omega)]];rfl
 refine zR ?_;(repeat refine qq ?_);refine qc (fun h7=>?_) (fun h7=>?_)<;>try simp only[cs] at h7
 ·refine zR ?_;refine ag.ret ⟨rx,_,rfl,aU (by simp) (by simp[ae]) ?_⟩;rw[show c7 c=(3,144,191) by unfold c7;rw[if_neg (by omega),if_neg (by omega),if_neg (by omega),if_neg (by omega),if_neg (by omega),if_neg (by omega),if_pos (by omega)]];rfl
 refine zR ?_;(repeat refine qq ?_);refine qc (fun h8=>?_) (fun h8=>?_)<;>try simp only[cs] at h8
 ·refine zR ?_;refine ag.ret ⟨rx,_,rfl,aU (by simp) (by simp[ae]) ?_⟩;rw[show c7 c=(3,128,191) by unfold c7;rw[if_neg (by omega),if_neg (by omega),if_neg (by omega),if_neg (by omega),if_neg (by omega),if_neg (by omega),if_neg (by omega),if_pos (by omega)]];rfl
 refine zR ?_;(repeat refine qq ?_);refine qc (fun h9=>?_) (fun h9=>?_)<;>try simp only[cs] at h9
 ·refine zR ?_;refine ag.ret ⟨rx,_,rfl,aU (by simp) (by simp[ae]) ?_⟩;rw[show c7 c=(3,128,143) by unfold c7;rw[if_neg (by omega),if_neg (by omega),if_neg (by omega),if_neg (by omega),if_neg (by omega),if_neg (by omega),if_neg (by omega),if_neg (by omega),if_pos (by omega)]];rfl
 refine ag.skip<|zR ?_;refine ag.ret ⟨rx,_,rfl,aU (by simp) (by simp[ae]) ?_⟩;rw[show c7 c=(-1,0,0) by unfold c7;rw[if_neg (by omega),if_neg (by omega),if_neg (by omega),if_neg (by omega),if_neg (by omega),if_neg (by omega),if_neg (by omega),if_neg (by omega),if_neg (by omega)]];rfl
def j5:(left n r lo hi:Nat)→List UInt8→Nat×Nat×Bool
 |0,n,r,_,_,_=>(r,n,false)
 |left+1,n,r,lo,hi,[]=>(0,0,true)
 |left+1,n,r,lo,hi,x::xs=>if x.toNat<lo∨hi<x.toNat then(0,0,false) else j5 left n (r*64+x.toNat %64) 128 191 xs
def ef:List UInt8→Nat×Nat×Bool
 |[]=>(0,0,false)
 |c::xs=>if(c7 c.toNat).1<0 then(0,0,false)
   else j5 (c7 c.toNat).1.toNat ((c7 c.toNat).1.toNat+1) (if(c7 c.toNat).1>0 then c.toNat %(64/2^(c7 c.toNat).1.toNat) else c.toNat) (c7 c.toNat).2.1 (c7 c.toNat).2.2 xs
theorem DF (c:Nat):(c7 c).1=-1∨(c7 c).1=0∨(c7 c).1=1∨(c7 c).1=2∨(c7 c).1=3:=by
 unfold c7
 repeat' split
 all_goals simp
variable{j:Nat}
theorem Iw {w a:Nat} (ha:a<2^w) (hj:2^j-1<2^w):(ο w (a:Int) &&&ο w ((2^j-1:Nat):Int)).toNat=a %2^j:=by
 rw[bv_and ha hj,Nat.and_two_pow_sub_one_eq_mod]
theorem au (b:List UInt8):(byteCells b).length=b.length:=by simp[byteCells]
variable{b:List UInt8}{i:Nat}
theorem kH {y:UInt8} (h:b[i]?=some y):(byteCells b)[i]?=some [.int .u8 (y.toNat:Nat)]:=by
 simp[byteCells,h]
theorem He (y:UInt8):y.toNat<256:=y.toNat_lt
variable{y:Nat}
theorem Y5 {r:Nat} (hr:r<33554432) (hy:y<256):bJ .i32 ((ο 32 (bJ .i32 ((r:Int)*2^(min (Y' 6) 32)))|||ο 32 (bJ .i32 (bJ .u8 ((ο 8 (y:Int) &&&ο 8 63).toNat:Nat)))).toNat:Nat)=((r*64+y %64:Nat):Int):=by
 have h1:(ο 8 (y:Int) &&&ο 8 63).toNat=y %64:=Iw (w:=8) (j:=6) hy (by decide);rw[h1]
 have h2:((r:Int)*2^(min (Y' 6) 32))=((r*64:Nat):Int):=by
  have:(2:Int)^(min (Y' 6) 32)=64:=by decide
  rw[this];simp
 rw[h2,ct (k:=.i32) (m:=r*64) (by simp only[ic];omega),ct (k:=.u8) (m:=y %64) (by simp only[ic];omega),ct (k:=.i32) (m:=y %64) (by simp only[ic];omega)];rw[Ya (by omega) (by omega)]
 have h3:(r*64)|||(y %64)=r*64+y %64:=by
  have:=Nat.two_pow_add_eq_or_of_lt (i:=6) (b:=y %64) (by omega) r;have e:(2:Nat)^6=64:=by decide
  rw[e] at this;rw[BY r 64,this]
 rw[h3,ct (k:=.i32) (m:=r*64+y %64) (by simp only[ic];omega)]
variable{c:Nat}{m:Int}
theorem Ur (hc:c<256) (hj:j≤8) (hm:m=((2^j-1:Nat):Int)):bJ .i32 ((ο 32 (bJ .i32 (c:Nat)) &&&ο 32 m).toNat:Nat)=((c %2^j:Nat):Int):=by
 have h1:2^j≤2^8:=Nat.pow_le_pow_right (by omega) hj;rw[hm,ct (k:=.i32) (m:=c) (by simp only[ic];omega),Iw (w:=32) (by omega) (by omega)];have:c %2^j≤c:=Nat.mod_le _ _;rw[ct (k:=.i32) (by simp only[ic];omega)]
theorem mask (hc:c<256) (hj:j≤8) (hm:m=((2^j-1:Nat):Int)):bJ .i32 ((ο Φ.bits (bJ .i32 (c:Nat)) &&&ο Φ.bits m).toNat:Nat)=((c %2^j:Nat):Int):=Ur hc hj hm
theorem six {r:Nat} (hr:r<33554432) (hy:y<256):bJ .i32 ((ο Φ.bits (bJ .i32 ((r:Int)*2^(min (Y' 6) Φ.bits)))|||ο Φ.bits (bJ .i32 (bJ .u8 ((ο GB.bits (y:Int) &&&ο GB.bits 63).toNat:Nat)))).toNat:Nat)=((r*64+y %64:Nat):Int):=Y5 hr hy
variable{st:St}{x:D}
theorem tg (hb:Bytes st x b):Ev pv 148 [x] st (.tup [.int .i32 ((ef b).1:Nat),.int .i64 ((ef b).2.1:Nat),.bool (ef b).2.2]) st:=by
 refine Ev.gP rfl XC rfl rfl rfl<|zE ?_;have gx:=hb.enter .ro;(try refine qy ?_);(repeat refine qq ?_);(try generalize hK:aZ _ _ _ _=K);refine ag.cT ?_;(repeat(first|refine xT ?_|refine xL ?_|refine xN ?_|refine xo ?_|refine xp ?_));refine δ ?_;(try refine zF ?_);(try subst hK);(try refine qy ?_);(repeat refine qq ?_);(try generalize hK:aZ _ _ _ _=K);refine ag.cT ?_
 (first|refine xT ?_|refine xL ?_|refine xN ?_|refine xo ?_|refine xp ?_)
 refine IN rfl rfl rfl gx rfl ?_;(repeat(first|refine xT ?_|refine xL ?_|refine xN ?_|refine xo ?_|refine xp ?_));refine δ ?_;(try refine zF ?_);(try subst hK);(try refine qy ?_);(repeat refine qq ?_);refine qc (fun h1=>?_) (fun h1=>?_)<;>try simp only[cs] at h1
 ·(try refine qy ?_);(repeat refine qq ?_);(try generalize hK:aZ _ _ _ _=K);refine ag.cT ?_;(repeat(first|refine xT ?_|refine xL ?_|refine xN ?_|refine xo ?_|refine xp ?_));refine δ ?_;(try refine zF ?_);(try subst hK);(try refine qy ?_);refine ag.ret ⟨rx,_,rfl,aU (by simp) (by simp[ae]) ?_⟩
  obtain rfl:b=[]:=by cases b with|nil=>rfl|cons c b=>simp[byteCells] at h1;omega
  rfl
 refine ag.skip ?_
 obtain⟨c,xs,rfl⟩:∃c xs,b=c::xs:=by cases b with|nil=>simp[byteCells] at h1|cons c b=>exact⟨c,b,rfl⟩
 obtain⟨k,lo,hi,hm⟩:∃k lo hi,c7 c.toNat=(k,lo,hi):=⟨_,_,_,rfl⟩
 have hme:=OZ c.toNat (ae .ro st);rw[hm] at hme;have hk:=DF c.toNat;rw[hm] at hk;have hc:=He c;(try refine qy ?_);(repeat refine qq ?_);(try generalize hK:aZ _ _ _ _=K);refine ag.cT ?_
 (first|refine xT ?_|refine xL ?_|refine xN ?_|refine xo ?_|refine xp ?_)
 refine JS rfl rfl rfl (fun _=>rfl) rfl rfl gx rfl rfl (by omega) rfl rfl (fun p=>?_);refine ab.oF rfl rfl rfl hme ?_;(repeat(first|refine xT ?_|refine xL ?_|refine xN ?_|refine xo ?_|refine xp ?_));refine δ ?_;(try refine zF ?_);(try subst hK);(try refine qy ?_);(repeat refine qq ?_);(try generalize hK:aZ _ _ _ _=K);refine ag.cT ?_;(repeat(first|refine xT ?_|refine xL ?_|refine xN ?_|refine xo ?_|refine xp ?_));refine δ ?_;(try refine zF ?_);(try subst hK);(try refine qy ?_);(repeat refine qq ?_);refine qc (fun h2=>?_) (fun h2=>?_)<;>try simp only[cs] at h2
 ·(try refine qy ?_);(repeat refine qq ?_);(try generalize hK:aZ _ _ _ _=K);refine ag.cT ?_;(repeat(first|refine xT ?_|refine xL ?_|refine xN ?_|refine xo ?_|refine xp ?_));refine δ ?_;(try refine zF ?_);(try subst hK);(try refine qy ?_);refine ag.ret ⟨rx,_,rfl,aU (by simp) (by simp[ae]) ?_⟩;simp only[ef,hm];rw[if_pos h2];rfl
 refine ag.skip ?_;(try refine qy ?_);(repeat refine qq ?_);(try generalize hK:aZ _ _ _ _=K);refine ag.cT ?_
 (first|refine xT ?_|refine xL ?_|refine xN ?_|refine xo ?_|refine xp ?_)
 refine JS rfl rfl rfl (fun _=>rfl) rfl rfl gx rfl rfl (by omega) rfl rfl (fun p=>?_);(repeat(first|refine xT ?_|refine xL ?_|refine xN ?_|refine xo ?_|refine xp ?_));refine δ ?_;(try refine zF ?_);(try subst hK);(try refine qy ?_);(repeat refine qq ?_);(try generalize hK:aZ _ _ _ _=K);refine ag.cT ?_;(repeat(first|refine xT ?_|refine xL ?_|refine xN ?_|refine xo ?_|refine xp ?_));refine δ ?_;(try refine zF ?_);(try subst hK);(try refine qy ?_);generalize hK:aZ _ _ _ _=K
 have H:∀(r kn:Nat) (m:List (Nat×D)),k=(kn:Int)→r=(if k>0 then c.toNat %(64/2^k.toNat) else c.toNat)→(r+1)*64^kn≤2097152→K .next ⟨9,[x,.tup [],.int .i32 r,.int .i64 0,.bool false,.int .i64 k,.int .u8 lo,.int .u8 hi,.tup []],m⟩ (ae .ro st):=by
  intro r kn m hkn hr nB
  have hR:ef (c::xs)=j5 kn (kn+1) r lo hi xs:=by
   simp only[ef,hm];rw[if_neg h2,hr,hkn];rfl
  subst hK;rw[hR];generalize hS:j5 kn (kn+1) r lo hi xs=R at hR⊢;subst hkn;(try refine qy ?_);(repeat refine qq ?_);(try generalize hK:aZ _ _ _ _=K);refine ag.cT ?_;(repeat(first|refine xT ?_|refine xL ?_|refine xN ?_|refine xo ?_|refine xp ?_));refine δ ?_;(try refine zF ?_);(try subst hK);(try refine qy ?_);refine ag.block<|ag.loop (fun j fr ai=>∃(i r lo hi:Nat),fr.clean=⟨9,[x,.tup [],.int .i32 r,.int .i64 0,.bool false,.int .i64 kn,.int .u8 lo,.int .u8 hi,.int .i64 (i:Nat)],[]⟩∧ai=ae .ro st∧1≤i∧i+j=kn+1∧j5 j (kn+1) r lo hi (xs.drop (i-1))=R∧(r+1)*64^j≤2097152) kn ⟨1,r,lo,hi,rfl,rfl,by omega,by omega,hS,nB⟩ ?_;clear hr nB hS r hm hme m;rintro j fr ai ⟨i,r,lo,hi,hfr,rfl,SJ,hij,hS,nB⟩;rw[hfr];(try refine qy ?_);(repeat refine qq ?_);(try generalize hK:aZ _ _ _ _=K);refine ag.cT ?_;(repeat(first|refine xT ?_|refine xL ?_|refine xN ?_|refine xo ?_|refine xp ?_));refine δ ?_;(try refine zF ?_);(try subst hK);(try refine qy ?_);(repeat refine qq ?_);refine qc (fun h4=>?_) (fun h4=>?_)<;>try simp only[cs] at h4
  ·refine ag.skip ?_
   obtain⟨j,rfl⟩:∃j',j=j'+1:=⟨j-1,by omega⟩
   refine ag.seq (ag.block ?_);(try refine qy ?_);(repeat refine qq ?_);(try generalize hK:aZ _ _ _ _=K);refine ag.cT ?_
   (first|refine xT ?_|refine xL ?_|refine xN ?_|refine xo ?_|refine xp ?_)
   (first|refine xT ?_|refine xL ?_|refine xN ?_|refine xo ?_|refine xp ?_)
   refine IN rfl rfl rfl gx rfl ?_;(repeat(first|refine xT ?_|refine xL ?_|refine xN ?_|refine xo ?_|refine xp ?_));refine δ ?_;(try refine zF ?_);(try subst hK);(try refine qy ?_)
   have DX:(xs.drop (i-1))=[]∨∃y ys,xs.drop (i-1)=y::ys:=by
    cases xs.drop (i-1) with
    |nil=>exact .inl rfl
    |cons y ys=>exact .inr ⟨y,ys,rfl⟩
   have QE:(xs.drop (i-1)).length=xs.length-(i-1):=υ ..;have hbl:(byteCells (c::xs)).length=xs.length+1:=by simp[byteCells]
   (try refine qy ?_);(repeat refine qq ?_);refine qc (fun h5=>?_) (fun h5=>?_)<;>try simp only[cs] at h5
   ·(try refine qy ?_);(repeat refine qq ?_);(try generalize hK:aZ _ _ _ _=K);refine ag.cT ?_;(repeat(first|refine xT ?_|refine xL ?_|refine xN ?_|refine xo ?_|refine xp ?_));refine δ ?_;(try refine zF ?_);(try subst hK);(try refine qy ?_);refine ag.ret ⟨rx,_,rfl,aU (by simp) (by simp[ae]) ?_⟩
    rcases DX with DX|⟨y,ys,DX⟩
    ·rw[DX] at hS;simp only[j5] at hS;subst hS;rfl
    ·rw[DX] at QE;simp only[θ] at QE;omega
   refine ag.skip ?_
   rcases DX with DX|⟨y,ys,DX⟩
   ·rw[DX] at QE;simp only[ν] at QE;omega
   have hy:(c::xs)[i]?=some y:=by
    obtain⟨i,rfl⟩:∃i',i=i'+1:=⟨i-1,by omega⟩
    have:=congrArg (fun l=>l[0]?) DX
    simpa using this
   have mz:xs.drop (i+1-1)=ys:=by
    have:=congrArg (fun l=>l.drop 1) DX;simp only[List.drop_drop,List.drop_succ_cons,VM] at this;rw[←this];congr 1;omega
   have TI:=kH hy;have hyb:=He y;rw[DX] at hS;simp only[j5] at hS;(try refine qy ?_);(repeat refine qq ?_);(try generalize hK:aZ _ _ _ _=K);refine ag.cT ?_
   (first|refine xT ?_|refine xL ?_|refine xN ?_|refine xo ?_|refine xp ?_)
   (first|refine xT ?_|refine xL ?_|refine xN ?_|refine xo ?_|refine xp ?_)
   refine JS rfl rfl rfl (fun _=>rfl) rfl rfl gx rfl rfl (by omega) TI rfl (fun p=>?_)
   (first|refine xT ?_|refine xL ?_|refine xN ?_|refine xo ?_|refine xp ?_)
   (first|refine xT ?_|refine xL ?_|refine xN ?_|refine xo ?_|refine xp ?_)
   (first|refine xT ?_|refine xL ?_|refine xN ?_|refine xo ?_|refine xp ?_)
   by_cases E_:(y.toNat:Int)<(lo:Int)
   ·rw[decide_eq_true E_];(repeat(first|refine xT ?_|refine xL ?_|refine xN ?_|refine xo ?_|refine xp ?_));refine δ ?_;(try refine zF ?_);(try subst hK);(try refine qy ?_);refine ag.cond (v:=true) rfl (fun _=>?_) (fun h=>by cases h);(try refine qy ?_);(repeat refine qq ?_);(try generalize hK:aZ _ _ _ _=K);refine ag.cT ?_;(repeat(first|refine xT ?_|refine xL ?_|refine xN ?_|refine xo ?_|refine xp ?_));refine δ ?_;(try refine zF ?_);(try subst hK);(try refine qy ?_);refine ag.ret ⟨rx,_,rfl,aU (by simp) (by simp[ae]) ?_⟩;rw[if_pos (.inl (by omega))] at hS;subst hS;rfl
   rw[decide_eq_false E_]
   (first|refine xT ?_|refine xL ?_|refine xN ?_|refine xo ?_|refine xp ?_)
   (first|refine xT ?_|refine xL ?_|refine xN ?_|refine xo ?_|refine xp ?_)
   refine JS rfl rfl rfl (fun _=>rfl) rfl rfl gx rfl rfl (by omega) TI rfl (fun p=>?_);(repeat(first|refine xT ?_|refine xL ?_|refine xN ?_|refine xo ?_|refine xp ?_));refine δ ?_;(try refine zF ?_);(try subst hK);(try refine qy ?_);(repeat refine qq ?_);refine qc (fun h6=>?_) (fun h6=>?_)<;>try simp only[cs] at h6
   ·(try refine qy ?_);(repeat refine qq ?_);(try generalize hK:aZ _ _ _ _=K);refine ag.cT ?_;(repeat(first|refine xT ?_|refine xL ?_|refine xN ?_|refine xo ?_|refine xp ?_));refine δ ?_;(try refine zF ?_);(try subst hK);(try refine qy ?_);refine ag.ret ⟨rx,_,rfl,aU (by simp) (by simp[ae]) ?_⟩;rw[if_pos (.inr (by omega))] at hS;subst hS;rfl
   refine ag.skip ?_;rw[if_neg (by omega)] at hS;(try refine qy ?_);(repeat refine qq ?_);(try generalize hK:aZ _ _ _ _=K);refine ag.cT ?_
   (first|refine xT ?_|refine xL ?_|refine xN ?_|refine xo ?_|refine xp ?_)
   (first|refine xT ?_|refine xL ?_|refine xN ?_|refine xo ?_|refine xp ?_)
   (first|refine xT ?_|refine xL ?_|refine xN ?_|refine xo ?_|refine xp ?_)
   (first|refine xT ?_|refine xL ?_|refine xN ?_|refine xo ?_|refine xp ?_)
   refine JS rfl rfl rfl (fun _=>rfl) rfl rfl gx rfl rfl (by omega) TI rfl (fun p=>?_);(repeat(first|refine xT ?_|refine xL ?_|refine xN ?_|refine xo ?_|refine xp ?_));refine δ ?_;(try refine zF ?_);(try subst hK);(try refine qy ?_);have Gc:r+1≤(r+1)*64^(j+1):=Nat.le_mul_of_pos_right _ (Nat.pow_pos (by omega));rw[six (by omega) hyb];(try refine qy ?_);(repeat refine qq ?_);(try generalize hK:aZ _ _ _ _=K);refine ag.cT ?_;(repeat(first|refine xT ?_|refine xL ?_|refine xN ?_|refine xo ?_|refine xp ?_));refine δ ?_;(try refine zF ?_);(try subst hK);(try refine qy ?_);(repeat refine qq ?_);(try generalize hK:aZ _ _ _ _=K);refine ag.cT ?_;(repeat(first|refine xT ?_|refine xL ?_|refine xN ?_|refine xo ?_|refine xp ?_));refine δ ?_;(try refine zF ?_);(try subst hK);(try refine qy ?_);rw[wrap_i64 (by omega) (by omega)];refine⟨j,by omega,i+1,_,_,_,rfl,rfl,by omega,by omega,by rw[mz];exact hS,?_⟩;have e1:(r*64+y.toNat %64+1)≤(r+1)*64:=by omega
   have e2:=Nat.mul_le_mul_right (64^j) e1;have e3:64*64^j=64^(j+1):=by rw[Nat.pow_succ,BY]
   rw[Nat.mul_assoc,e3] at e2;omega
  ·refine ag.exit ?_;have:j=0:=by omega
   subst this;simp only[j5] at hS;subst hS;(try refine qy ?_);(repeat refine qq ?_);(try generalize hK:aZ _ _ _ _=K);refine ag.cT ?_;(repeat(first|refine xT ?_|refine xL ?_|refine xN ?_|refine xo ?_|refine xp ?_));refine δ ?_;(try refine zF ?_);(try subst hK);(try refine qy ?_);refine ag.ret ⟨rx,_,rfl,aU (by simp) (by simp[ae]) ?_⟩;rw[wrap_i64 (by omega) (by omega)];rfl
 rcases hk with hk|hk|hk|hk|hk
 ·omega
 ·subst hk;refine ag.cond (v:=false) rfl (fun h=>by cases h) fun _=>ag.skip ?_;rw[ct (by simp only[ic];omega)];exact H _ 0 _ rfl rfl (by omega)
 ·subst hk;refine ag.cond (v:=true) rfl (fun _=>?_) (fun h=>by cases h);refine ag.cT ?_
  (first|refine xT ?_|refine xL ?_|refine xN ?_|refine xo ?_|refine xp ?_)
  refine JS rfl rfl rfl (fun _=>rfl) rfl rfl gx rfl rfl (by omega) rfl rfl (fun p=>?_);(repeat(first|refine xT ?_|refine xL ?_|refine xN ?_|refine xo ?_|refine xp ?_));refine δ ?_;(try refine zF ?_);rw[mask (j:=5) hc (by omega)]
  ·exact H _ 1 _ rfl rfl (by omega)
  ·decide
 ·subst hk;refine ag.cond (v:=true) rfl (fun _=>?_) (fun h=>by cases h);refine ag.cT ?_
  (first|refine xT ?_|refine xL ?_|refine xN ?_|refine xo ?_|refine xp ?_)
  refine JS rfl rfl rfl (fun _=>rfl) rfl rfl gx rfl rfl (by omega) rfl rfl (fun p=>?_);(repeat(first|refine xT ?_|refine xL ?_|refine xN ?_|refine xo ?_|refine xp ?_));refine δ ?_;(try refine zF ?_);rw[mask (j:=4) hc (by omega)]
  ·exact H _ 2 _ rfl rfl (by omega)
  ·decide
 ·subst hk;refine ag.cond (v:=true) rfl (fun _=>?_) (fun h=>by cases h);refine ag.cT ?_
  (first|refine xT ?_|refine xL ?_|refine xN ?_|refine xo ?_|refine xp ?_)
  refine JS rfl rfl rfl (fun _=>rfl) rfl rfl gx rfl rfl (by omega) rfl rfl (fun p=>?_);(repeat(first|refine xT ?_|refine xL ?_|refine xN ?_|refine xo ?_|refine xp ?_));refine δ ?_;(try refine zF ?_);rw[mask (j:=3) hc (by omega)]
  ·exact H _ 3 _ rfl rfl (by omega)
  ·decide
def fF (b:List UInt8):Nat×Nat:=if(ef b).2.1=0 then(65533,1) else((ef b).1,(ef b).2.1)
def J7:Nat→List UInt8→List (Nat×Nat)
 |0,_=>[]
 |_+1,[]=>[]
 |n+1,b=>fF b::J7 n (b.drop (fF b).2)
def yW (b:List UInt8):List (Nat×Nat):=J7 b.length b
theorem kK (b:List UInt8):1≤(fF b).2:=by
 unfold fF;split
 ·simp
 ·simp only;omega
theorem uW : ∀ (n : Nat) (b : List UInt8), b.length ≤ n → J7 n b = yW b
 | 0, [], _ => rfl
 | 0, _ :: _, h => by simp at h
 | n + 1, [], _ => rfl
 | n + 1, c :: b, h => by
  have hp := kK (c :: b);have h1 : ((c :: b).drop (fF (c :: b)).2).length ≤ b.length := by rw [υ]; simp only [θ]; omega
  simp only [θ] at h;show fF (c :: b) :: J7 n ((c :: b).drop _) = fF (c :: b) :: J7 b.length ((c :: b).drop _);rw [uW n _ (by omega)]
  rcases Nat.lt_or_ge n b.length with h2 | h2
  ·omega
  ·rw [uW b.length _ h1]
termination_by n b => b.length
decreasing_by all_goals (simp_wf; omega)
theorem yV:yW []=[]:=rfl
theorem A9 (h:b≠[]):yW b=fF b::yW (b.drop (fF b).2):=by
 match b,h with
 |c::b,_=>
  show fF (c::b)::J7 b.length ((c::b).drop _)=_;rw[uW];have hp:=kK (c::b);rw[υ];simp only[θ];omega
def bD (g:Nat×Nat):List D:=[.int .i32 (g.1:Nat),.int .i64 (g.2:Nat)]
def gY (l:List (Nat×Nat)):D:=.sl ((l.map bD).map (ml 2))
theorem MZ {l:List (Nat×Nat)}:∀e∈l.map bD,e.length=2:=by
 intro e he;obtain⟨g,_,rfl⟩:=ψ.1 he;rfl
theorem oj {l:List (Nat×Nat)}:∀e∈l.map bD,∀d∈e,dh d=true:=by
 intro e he d hd;obtain⟨g,_,rfl⟩:=ψ.1 he;simp only[bD,κ,η,or_false] at hd
 rcases hd with rfl|rfl<;>rfl
theorem gC (st:St) (l:List (Nat×Nat)):V.Rows st 2 (gY l) (l.map bD):=Rows.sC MZ oj
theorem C6:∀(left n r lo hi:Nat) (b:List UInt8),(j5 left n r lo hi b).2.1≠0→(j5 left n r lo hi b).2.1=n∧left≤b.length
 |0,n,r,lo,hi,b,h=>by simp[j5]
 |left+1,n,r,lo,hi,[],h=>by simp[j5] at h
 |left+1,n,r,lo,hi,x::xs,h=>by
  simp only[j5] at h⊢
  split at h
  ·simp at h
  ·rename_i hc;rw[if_neg hc];have:=C6 left n _ _ _ xs h;exact⟨this.1,by simp;omega⟩
theorem wm (h:b≠[]):(fF b).2≤b.length:=by
 match b,h with
 |c::xs,_=>
  unfold fF
  split
  ·simp
  ·rename_i hz;simp only[ef] at hz⊢
   split at hz
   ·simp at hz
   ·rename_i hk;rw[if_neg hk];have:=C6 _ _ _ _ _ _ hz;rw[this.1];simp;omega
theorem Tq (hb:Bytes st x b) (hlen:b.length≤1048576):Ev pv 132 [x] st (gY (yW b)) st:=by
 refine Ev.gP rfl XS rfl rfl rfl<|zE ?_;have hx:=hb.ref;(try refine qy ?_);(repeat refine qq ?_);(try generalize hK:aZ _ _ _ _=K);refine ag.cT ?_;(repeat(first|refine xT ?_|refine xL ?_|refine xN ?_|refine xo ?_|refine xp ?_));refine δ ?_;(try refine zF ?_);(try subst hK);(try refine qy ?_);(repeat refine qq ?_);(try generalize hK:aZ _ _ _ _=K);refine ag.cT ?_;(repeat(first|refine xT ?_|refine xL ?_|refine xN ?_|refine xo ?_|refine xp ?_));refine δ ?_;(try refine zF ?_);(try subst hK);(try refine qy ?_);refine ag.seq (ag.block ?_)
 refine ag.loop (fun j fr ai=>∃(y out r n:D) (b':List UInt8) (done:List (Nat×Nat)),fr.clean=⟨6,[y,.tup [],.nul,out,r,n],[]⟩∧Ex st.bs.length (ae .ro st) ai∧Bytes ai y b'∧y.ref≤st.bs.length∧
  Acc st.bs.length ai 2 out (done.map bD)∧j=b'.length∧done++yW b'=yW b∧done.length+b'.length≤b.length) b.length
  ⟨x,.nul,_,_,b,[],rfl,Ex.refl _ _,hb.enter .ro,hx,.nul,rfl,rfl,by simp⟩ ?_
 rintro j fr ai ⟨y,out,r,n,b',done,hfr,hex,hy,TH,rk,rfl,s9,hl⟩;rw[hfr];(try refine qy ?_);(repeat refine qq ?_);(try generalize hK:aZ _ _ _ _=K);refine ag.cT ?_
 (first|refine xT ?_|refine xL ?_|refine xN ?_|refine xo ?_|refine xp ?_)
 refine IN rfl rfl rfl hy rfl ?_;(repeat(first|refine xT ?_|refine xL ?_|refine xN ?_|refine xo ?_|refine xp ?_));refine δ ?_;(try refine zF ?_);(try subst hK);(try refine qy ?_);rw[au];(try refine qy ?_);(repeat refine qq ?_);refine qc (fun h1=>?_) (fun h1=>?_)<;>try simp only[cs] at h1
 ·refine ag.skip ?_;have nN:b'≠[]:=by rintro rfl;simp at h1
  (try refine qy ?_);(repeat refine qq ?_);refine ag.block ?_;(try refine qy ?_);(repeat refine qq ?_);(try generalize hK:aZ _ _ _ _=K);refine ag.cT ?_
  (first|refine xT ?_|refine xL ?_|refine xN ?_|refine xo ?_|refine xp ?_)
  refine ab.oF rfl rfl rfl (tg hy) ?_;(repeat(first|refine xT ?_|refine xL ?_|refine xN ?_|refine xo ?_|refine xp ?_));refine δ ?_;(try refine zF ?_);(try subst hK);(try refine qy ?_);generalize hf:ef b'=F at*;obtain⟨r0,n0,bg⟩:=F;(try refine qy ?_);(repeat refine qq ?_);(try generalize hK:aZ _ _ _ _=K);refine ag.cT ?_;(repeat(first|refine xT ?_|refine xL ?_|refine xN ?_|refine xo ?_|refine xp ?_));refine δ ?_;(try refine zF ?_);(try subst hK);(try refine qy ?_);generalize hK:aZ _ _ _ _=K
  have H:∀m,K .next ⟨6,[y,.tup [],.nul,out,.int .i32 ((fF b').1:Nat),.int .i64 ((fF b').2:Nat)],m⟩ ai:=by
   intro m;subst hK;generalize hg:fF b'=g;have hp:=kK b';have hle:=wm nN;rw[hg] at hp hle;(try refine qy ?_);(repeat refine qq ?_);(try generalize hK:aZ _ _ _ _=K);refine ag.cT ?_
   (first|refine xT ?_|refine xL ?_|refine xN ?_|refine xo ?_|refine xp ?_)
   (first|refine xT ?_|refine xL ?_|refine xN ?_|refine xo ?_|refine xp ?_)
   (first|refine xT ?_|refine xL ?_|refine xN ?_|refine xo ?_|refine xp ?_)
   refine ab.T rfl rfl rfl (d:=.agg (bD g)) (st1:=ai) rfl<|ab.T rfl rfl rfl (d:=.win ai.bs.length 0 0 1 2) (st1:=ai.push (.mem 0 true (bD g))) rfl ?_;have hN:st.bs.length≤ai.bs.length:=hex.len;have PH:=hex.trans (Ex.push hN (.mem 0 true (bD g)));refine ab.append rfl rfl rfl rfl (rk.push _) (Rows.one rfl) rfl rfl rfl rfl rfl rfl rfl (by decide) PH.len (by rw[PH.flr];exact Cf _) (by rw[PH.ro];exact Cf _) (by simp only[ε,θ,ν];show(done.length+1)*16≤_;omega) fun Li st2 Eg Ea _ _ _=>?_;(repeat(first|refine xT ?_|refine xL ?_|refine xN ?_|refine xo ?_|refine xp ?_));refine δ ?_;(try refine zF ?_);(try subst hK);(try refine qy ?_);have aaN:=PH.trans Ea;have F_:Bytes st2 y b':=Rows.ex ((Ex.push hN _).trans Ea) hy TH;(try refine qy ?_);(repeat refine qq ?_);(try generalize hK:aZ _ _ _ _=K);refine ag.cT ?_
   (first|refine xT ?_|refine xL ?_|refine xN ?_|refine xo ?_|refine xp ?_)
   (first|refine xT ?_|refine xL ?_|refine xN ?_|refine xo ?_|refine xp ?_)
   refine ab.slice rfl rfl rfl F_ rfl rfl (l:=g.2) (r:=b'.length) ?_ ⟨by omega,by rw[au];omega⟩ fun y2 BV UF=>?_
   ·show cF (byteCells b').length (some (.int .i64 (g.2:Nat))) none=_;rw[au];simp only[cF,gW,ky,Option.bind_some];rw[if_pos ⟨by omega,by omega⟩];rfl
   (repeat(first|refine xT ?_|refine xL ?_|refine xN ?_|refine xo ?_|refine xp ?_));refine δ ?_;(try refine zF ?_);(try subst hK);(try refine qy ?_);refine⟨(b'.drop g.2).length,by rw[υ];omega,y2,Li,_,_,b'.drop g.2,done++[g],rfl,aaN,?_,Nat.le_trans UF TH,?_,rfl,?_,?_⟩
   ·have:((byteCells b').take b'.length).drop g.2=byteCells (b'.drop g.2):=by
     rw[←au,List.take_length];simp[byteCells]
    unfold Bytes;rw[←this];exact BV
   ·rw[Ξ];exact Eg
   ·rw[List.append_assoc,List.singleton_append,←s9,A9 nN,hg]
   ·rw[χ,υ];simp only[θ,ν];omega
  (try refine qy ?_);(repeat refine qq ?_);refine qc (fun h2=>?_) (fun h2=>?_)<;>try simp only[cs] at h2
  ·refine ag.cT ?_;(repeat(first|refine xT ?_|refine xL ?_|refine xN ?_|refine xo ?_|refine xp ?_));refine δ ?_;(try refine zF ?_);have:fF b'=(65533,1):=by unfold fF;rw[hf,if_pos (by simpa using h2)]
   rw[this] at H;exact H _
  ·refine ag.skip ?_;have:fF b'=(r0,n0):=by unfold fF;rw[hf,if_neg (by simpa using h2)]
   rw[this] at H;exact H _
 ·refine ag.exit ?_
  have nN:b'=[]:=by cases b' with|nil=>rfl|cons _ _=>simp at h1<;>omega
  subst nN;rw[yV,Ut] at s9;(try refine qy ?_);(repeat refine qq ?_);(try generalize hK:aZ _ _ _ _=K);refine ag.cT ?_;(repeat(first|refine xT ?_|refine xL ?_|refine xN ?_|refine xo ?_|refine xp ?_));refine δ ?_;(try refine zF ?_);(try subst hK);(try refine qy ?_);refine ag.ret ⟨rx,_,rfl,aU (by simp) (hex.take rfl) ?_⟩;rw[←s9];exact rk.freeze oj (n:=15) (by decide)
structure iV where
 i:Nat
 o:Nat
 g:Nat
 e:Int
 w:Int
def bt (gs:List (Nat×Nat)) (cU:D) (s:iV):List D:=[gY gs,cU,.int .i64 (s.i:Nat),.int .i64 (s.o:Nat),.int .i64 (s.g:Nat),.int .i64 s.e,.int .i64 s.w]
def nL (gs:List (Nat×Nat)) (i:Nat) (r:Int):Bool:=match gs[i]? with
 |some g=>((g.1:Nat):Int)==r
 |none=>false
variable{r:Int}{gs:List (Nat×Nat)}
theorem x0 (h:nL gs i r=true):i<gs.length:=by
 unfold nL at h
 split at h
 ·exact bp (by assumption)
 ·cases h
def eW (gs:List (Nat×Nat)) (s:iV) (r:Int):iV:=if nL gs s.i r=true then{s with i:=s.i+1} else s
def To (gs:List (Nat×Nat)) (i:Nat):Bool:=match gs[i]? with
 |some g=>((g.1:Nat):Int)==65533 &&((g.2:Nat):Int)==1
 |none=>false
def mJ (dt:List Int) (s:iV) (i:Nat) (e:Int):iV:=if s.e=0 then{s with e:=e,w:=dt.getD i 0} else s
variable{N k:Nat}{S s0:St}{H:List bo}{cU:D}{s:iV}
theorem vw (yh:gs.length≤1048576) (r:Int) (hH:Has N S s0 (.box k (.mem 0 false (bt gs cU s))::H)):
  ∃d ai,Ev pv 219 [.ptr k 0 0,.int .i32 r] s0 d ai∧d=.bool (nL gs s.i r)∧Has N S ai (.box k (.mem 0 false (bt gs cU s))::H):=by
 refine Ev.eN rfl W2 rfl rfl rfl ?_;refine zE ?_;have cj:=hH;have hH:=hH.bE;have bV:(ae .rw s0).bs=s0.bs:=rfl;generalize ae .rw s0=S2 at*;have PE:Arg N S2 2 (gY gs) (gs.map bD):=Arg.pure (fun st=>gC st gs);refine zQ 4 ?_
 by_cases ha:s.i<gs.length
 ·obtain⟨g,hg⟩:∃g,gs[s.i]?=some g:=⟨gs[s.i]'ha,ξ _⟩
  have gw:(gs.map bD)[s.i]?=some (bD g):=by rw[Δ,hg];rfl
  have ek:decide ((s.i:Int)<(gs.length:Nat))=true:=by rw[decide_eq_true];simp;omega
  have hv:nL gs s.i r=(((g.1:Nat):Int)==r):=by unfold nL;rw[hg]
  refine qq<|ag.oM 4 (.bool (((g.1:Nat):Int)==r)) [] ?_ (fun ff tmp=>?_)
  ·refine zQ 8 ?_;refine qn ?_;simp only[ε];refine zQ 10 ?_;refine qr (fun Qw D3=>?_) (hg:=wi ek);refine qf (fo:=0) (fun Ro Gd=>?_) (hg:=wi ek);refine zQ 5 ?_;refine δ (bu ?_);dsimp only[aK,ζ,nth,u2,u1];dsimp only[Fr.eH,Ψ,IS,IT,Cr,nth,look,u1,u2,v1,v2,v4]
   all_goals(first|rfl|(simp[ek];done)|(simp_all;done)|(simp[ek];omega)|(simp_all;omega))
  dsimp only[aK,ζ,nth,u2,u1];refine ag.ret ⟨rx,_,_,_,rfl,aj (rfl),?_⟩;exact⟨by rw[hv];rfl,cj.aq bV hH⟩
 ·have ek:decide ((s.i:Int)<(gs.length:Nat))=false:=by rw[decide_eq_false];simp;omega
  have hv:nL gs s.i r=false:=by
   cases h:nL gs s.i r with
   |true=>exact absurd (x0 h) ha
   |false=>rfl
  refine qq<|ag.oM 4 (.bool false) [] ?_ (fun ff tmp=>?_)
  ·refine zQ 8 ?_;refine qn ?_;simp only[ε];refine zQ 17 ?_;refine δ (bu ?_);dsimp only[aK,ζ,nth,u2,u1];dsimp only[Fr.eH,Ψ,IS,IT,Cr,nth,look,u1,u2,v1,v2,v4]
   all_goals(first|rfl|(simp[ek];done)|(simp_all;done)|(simp[ek];omega)|(simp_all;omega))
  dsimp only[aK,ζ,nth,u2,u1];refine ag.ret ⟨rx,_,_,_,rfl,aj (rfl),?_⟩;exact⟨by rw[hv];rfl,cj.aq bV hH⟩
theorem gI (yh:gs.length≤1048576) (r:Int) (hH:Has N S s0 (.box k (.mem 0 false (bt gs cU s))::H)):
  ∃d ai,Ev pv 187 [.ptr k 0 0,.int .i32 r] s0 d ai∧d=.bool (nL gs s.i r)∧Has N S ai (.box k (.mem 0 false (bt gs cU (eW gs s r)))::H):=by
 refine Ev.eN rfl Xh rfl rfl rfl ?_;refine zE ?_;have cj:=hH;have hH:=hH.bE;have bV:(ae .rw s0).bs=s0.bs:=rfl;generalize ae .rw s0=S2 at*;refine zQ 9 ?_;obtain⟨_,st,ax,rfl,hH⟩:=vw yh r hH;refine qv ax ?_;refine zQ 1 ?_;unfold eW
 cases hb:nL gs s.i r with
 |true=>
  have hlt:=x0 hb;dsimp only[bt] at hH;rw[if_pos rfl];refine zQ 10 ?_;refine qT hH aB fun st hH=>?_;dsimp only[u2,u1,u3,u4,setMany,u5,u6,τ,ι,bt,bD,az] at hH;refine zQ 5 ?_;refine ag.ret ⟨rx,_,_,_,rfl,aj (rfl),?_⟩;exact⟨rfl,cj.aq bV hH⟩
 |false=>
  rw[if_neg (by simp)];refine zQ 6 ?_;refine ag.ret ⟨rx,_,_,_,rfl,aj (rfl),?_⟩;exact⟨rfl,cj.aq bV hH⟩
theorem GZ (i:Nat) (hi:i<gs.length) (hH:Has N S s0 (.box k (.mem 0 false (bt gs cU s))::H)):
  ∃d ai,Ev pv 265 [.ptr k 0 0,.int .i64 (i:Nat)] s0 d ai∧d=.bool (To gs i)∧Has N S ai (.box k (.mem 0 false (bt gs cU s))::H):=by
 refine Ev.eN rfl WE rfl rfl rfl ?_;refine zE ?_;have cj:=hH;have hH:=hH.bE;have bV:(ae .rw s0).bs=s0.bs:=rfl;generalize ae .rw s0=S2 at*;have PE:Arg N S2 2 (gY gs) (gs.map bD):=Arg.pure (fun st=>gC st gs);refine zQ 4 ?_
 obtain⟨g,hg⟩:∃g,gs[i]?=some g:=⟨gs[i]'hi,ξ _⟩
 have gw:(gs.map bD)[i]?=some (bD g):=by rw[Δ,hg];rfl
 have hv:To gs i=(((g.1:Nat):Int)==65533 &&((g.2:Nat):Int)==1):=by unfold To;rw[hg]
 refine qq<|ag.oM 4 (.bool (((g.1:Nat):Int)==65533 &&((g.2:Nat):Int)==1)) [] ?_ (fun ff tmp=>?_)
 ·refine zQ 5 ?_;refine qr fun TE Jt=>?_;refine qf (fo:=0) fun p11 Vq=>?_;refine zQ 3 ?_;refine ρ 14 rfl (fun gk=>?_) (fun gk=>?_)
  ·refine zQ 5 ?_;refine qr (fun Rp Ge=>?_) (hg:=wi gk);refine qf (fo:=1) (fun Uj Mi=>?_) (hg:=wi gk);refine zQ 4 ?_;refine δ (bu ?_);refine zG ?_
   all_goals(simp[gk];done)
  ·refine zQ 11 ?_;refine δ (bu ?_);refine zG ?_
   all_goals(simp[gk];done)
 dsimp only[aK,ζ,nth,u2,u1];refine ag.ret ⟨rx,_,_,_,rfl,aj (rfl),?_⟩;exact⟨by rw[hv];rfl,cj.aq bV hH⟩
variable{dt:List Int}
theorem fk (i:Nat) (e:Int) (hi:i<dt.length) (hH:Has N S s0 (.box k (.mem 0 false (bt gs cU s))::.aF cU 1 (dt.map az)::H)):
  ∃d ai,Ev pv 134 [.ptr k 0 0,.int .i64 (i:Nat),.int .i64 e] s0 d ai∧d=.sl []∧Has N S ai (.box k (.mem 0 false (bt gs cU (mJ dt s i e)))::.aF cU 1 (dt.map az)::H):=by
 refine Ev.eN rfl XQ rfl rfl rfl ?_;refine zE ?_;have cj:=hH;have hH:=hH.bE;have bV:(ae .rw s0).bs=s0.bs:=rfl;generalize ae .rw s0=S2 at*;refine zQ 4 ?_
 obtain⟨v,hv⟩:∃v,dt[i]?=some v:=⟨dt[i]'hi,ξ _⟩
 have gw:=fJ hv;unfold mJ;refine zQ 9 ?_;refine zI (fun h0=>?_) fun h0=>?_
 ·rw[if_pos h0];have TP:dt.getD i 0=v:=by rw[List.getD_eq_getElem?_getD,hv];rfl
  refine zQ 9 ?_;refine qi hH aO fun Rp Ge=>?_;refine zQ 3 ?_;refine qT hH aB fun st hH=>?_;dsimp only[u2,u1,u3,u4,setMany,u5,u6,τ,ι,bt,bD,az] at hH;refine zQ 2 ?_;refine qT hH aB fun st hH=>?_;dsimp only[u2,u1,u3,u4,setMany,u5,u6,τ,ι,bt,bD,az] at hH;refine zQ 5 ?_;refine ag.ret ⟨rx,_,_,_,rfl,aj (rfl),?_⟩;exact⟨rfl,by rw[TP];exact cj.aq bV hH⟩
 ·rw[if_neg h0];refine zQ 5 ?_;refine ag.ret ⟨rx,_,_,_,rfl,aj (rfl),?_⟩;exact⟨rfl,cj.aq bV hH⟩
def iz (fr:Go.V.Fr) (k:Nat):Go.V.D:=Go.V.nth .bI fr.loc k
noncomputable def pe (l:List Rg):List Rg:=@dite _ (∃a,iF l a) (Classical.propDecidable _) (fun h=>Classical.choose h) (fun _=>[])
variable{a l:List Rg}
theorem LK (h:iF l a):pe l=a:=by
 have hx:∃a,iF l a:=⟨a,h⟩
 unfold pe;rw[dif_pos hx];exact(Classical.choose_spec hx).unique h
theorem sE (hx:V.Rows s0 2 x (l.map aw)) (hl:l.length≤1048576):Ev pv 226 [x] s0 (cC (pe l)) s0∧(pe l).length≤2*l.length∧iF l (pe l):=by
 obtain⟨_,ax,all,rfl,hperm,rv⟩:=HL hx (by omega);have hM:iF l (all.foldl fQ []).reverse:=xJ (fun x=>hperm.mem_iff) rv;have hlen:=hperm.length_eq;have mZ:=mG l;have oH:=xW all;rw[LK hM];exact⟨ax,by rw[μ];omega,hM⟩
theorem ni (l:List Rg):dg (cC l) 2 (l.map aw):=by
 rw[←kc];refine dg.frozen ?_ ?_
 ·intro e he;obtain⟨x,_,rfl⟩:=ψ.1 he;rfl
 ·intro e he d hd;obtain⟨x,_,rfl⟩:=ψ.1 he;simp only[aw,κ,η,or_false] at hd
  rcases hd with rfl|rfl<;>rfl
theorem BP (h0:0≤r) (h1:r<55296) (hr:fG l r) (h:iF l a):a≠[]:=by
 rintro rfl;have:=(h.2 r).2 ⟨by unfold kj;omega,hr⟩;obtain⟨x,hx,_⟩:=this;cases hx
theorem DL (h0:0≤r) (h1:r<55296) (h:iF [(r,r)] a):a≠[]:=by
 rintro rfl;have:=(h.2 r).2 ⟨?_,?_⟩
 ·obtain⟨x,hx,_⟩:=this;cases hx
 ·unfold kj;omega
 ·exact⟨(r,r),ω ..,by simp⟩
theorem nc (r:Int):Ev pv 270 [.int .i32 r] s0 (cC (pe [(r,r)])) s0:=by
 refine Ev.gP rfl Wz rfl rfl rfl ?_;refine zE ?_;obtain⟨aN,hF,hH⟩:=ri s0;generalize ae .ro s0=S at*;refine zQ 8 ?_;refine Q5 (qs:=[(0,_),(1,_)]) rfl rfl rfl rfl ⟨rfl,(ev rfl),(by rfl),rfl,(ev rfl),(by rfl),trivial⟩ (by intro q hq;simp only[κ,η,or_false] at hq;rcases hq with rfl|rfl<;>exact⟨rfl,by exact γ rfl⟩) (by show ζ _ [_,_] _=_;dsimp only[π,ς,u2,u1]<;>rfl) (aa rfl _) ?_;refine qh (s:=2) (vs:=[_]) hH fun k6 st Gj hH=>?_;obtain⟨ax,hl,_⟩:=sE (l:=[(r,r)]) (hH.rows aB) (by simp);refine qv ax ?_;refine zQ 2 ?_;refine ag.ret ⟨rx,_,rfl,rl aN hH (rfl)⟩
theorem Lx (hx:V.Rows s0 2 x (l.map aw)) (hl:l.length≤131072):∃d,Ev pv 287 [x] s0 d s0∧∃a:List Rg,d=cC a∧a.length≤4*l.length+2:=by
 refine Ev.FP rfl Wv rfl rfl rfl ?_;refine zE ?_;obtain⟨aN,hF,hH⟩:=ri s0;generalize ae .ro s0=S at*;have hx:=Arg.of hx aN;refine zQ 12 ?_;obtain⟨ax,D7,_⟩:=sE (hx.rows hH) (by omega);have hla:=(ni (pe l)).arg s0.bs.length S;generalize pe l=m at*;refine zQ 4 ?_;refine qv (ax) ?_;refine qn ?_;simp only[ε];refine zQ 2 ?_;have hH:=hH.fW 2;refine zQ 1 ?_;refine ag.loop (fun mm fr st=>∃(i:Nat) (n:Int) (o:D) (out:List Rg),fr.clean=⟨11,[iz fr 0,iz fr 1,iz fr 2,o,.int .i32 n,iz fr 5,iz fr 6,iz fr 7,cC m,.int .i64 (m.length:Nat),.int .i64 (i:Nat)],[]⟩∧Has s0.bs.length S st [.aF o 2 (out.map aw)]∧(i+mm=m.length)∧(out.length=i)) (m.length) ?_ ?_
 ·exact⟨0,0,.nul,[],rfl,hH,by omega,rfl⟩
 rintro mm fr st ⟨i,n,o,out,hfr,hH,hi,ho⟩;rw[hfr];clear hfr;generalize iz fr=ee;clear fr;refine zQ 5 ?_;refine zP (fun h1=>?_) fun h1=>?_
 ·refine zQ 1 ?_
  obtain⟨q,hq⟩:∃q,m[i]?=some q:=⟨m[i]'(by omega),ξ _⟩
  have hr:=fc hq;refine zQ 4 ?_;refine qr fun Zm Sm=>?_;refine LL rfl (ev rfl) (by assumption) rfl (aa rfl _) ?_;refine qa hH fun k6 st Gj hH=>?_;refine qS hH aB fun st hH=>?_;dsimp only[u2,u1,u3,u4,setMany,u5,u6,τ,ι,aw] at hH;refine zQ 7 ?_;refine OF (z:=bJ .i32 (q.1-1)) rfl (ev rfl) (ev rfl) rfl (aa rfl _) ?_;refine Q5 (qs:=[(0,_),(1,_)]) rfl rfl rfl rfl ⟨rfl,(ev rfl),(by rfl),rfl,(ev rfl),(by rfl),trivial⟩ (by intro q hq;simp only[κ,η,or_false] at hq;rcases hq with rfl|rfl<;>exact⟨rfl,by exact γ rfl⟩) (by show ζ _ [_,_] _=_;dsimp only[π,ς,u2,u1]<;>rfl) (aa rfl _) ?_;refine qh (s:=2) (vs:=[_]) hH fun k20 st aaF hH=>?_;refine Bv (s:=2) hH rfl (ev rfl) (ev rfl) (by exact a_) (by exact hH.rows (by exact aB)) rfl rfl rfl rfl rfl rfl rfl ⟨(γ rfl),(γ rfl)⟩ (fun _=>(aa rfl _)) (by simp only[θ,ν,ε]<;>omega) (by exact .inl hF) (fun x21 st hH=>?_);dsimp only[u2,u1,u3,u4,setMany,u5,u6,τ,ι,aw] at hH;refine zQ 5 ?_;refine ab.e_ (z:=bJ .i32 (q.2+1)) rfl (ev rfl) (ev rfl) rfl (aa rfl _) ?_;refine zQ 6 ?_;exact⟨mm-1,by omega,⟨i+1,_,_,out++[(n,bJ .i32 (q.1-1))],rfl,(by rw[Ξ];exact hH.drop 2),by omega,by simp[ho]⟩⟩
 ·refine zQ 5 ?_;refine Q5 (qs:=[(0,_),(1,_)]) rfl rfl rfl rfl ⟨rfl,(ev rfl),(by rfl),rfl,(ev rfl),(by rfl),trivial⟩ (by intro q hq;simp only[κ,η,or_false] at hq;rcases hq with rfl|rfl<;>exact⟨rfl,by exact γ rfl⟩) (by show ζ _ [_,_] _=_;dsimp only[π,ς,u2,u1]<;>rfl) (aa rfl _) ?_;refine qh (s:=2) (vs:=[_]) hH fun k29 st VE hH=>?_;refine Bv (s:=2) hH rfl (ev rfl) (ev rfl) (by exact aO) (by exact hH.rows (by exact aB)) rfl rfl rfl rfl rfl rfl rfl ⟨(γ rfl),(γ rfl)⟩ (fun _=>(aa rfl _)) (by simp only[θ,ν,ε]<;>omega) (by exact .inl hF) (fun Y1 st hH=>?_);dsimp only[u2,u1,u3,u4,setMany,u5,u6,τ,ι,aw] at hH;obtain⟨ax,ry,_⟩:=sE (l:=out++[(n,1114111)]) (by rw[Ξ];exact hH.rows aO) (by simp;omega);refine qv ax ?_;refine zQ 2 ?_;refine ag.ret ⟨rx,_,_,rfl,rl aN hH (rfl),?_⟩;exact⟨_,rfl,by simp at ry;omega⟩
theorem Te:∃d,Ev pv 269 [] s0 d s0∧∃a:List Rg,d=cC a∧a.length≤6:=by
 refine Ev.FP rfl WA rfl rfl rfl ?_;refine zE ?_;obtain⟨aN,hF,hH⟩:=ri s0;generalize ae .ro s0=S at*;refine zQ 6 ?_;refine Q5 (qs:=[(0,_),(1,_)]) rfl rfl rfl rfl ⟨rfl,(ev rfl),(by rfl),rfl,(ev rfl),(by rfl),trivial⟩ (by intro q hq;simp only[κ,η,or_false] at hq;rcases hq with rfl|rfl<;>exact⟨rfl,by exact γ rfl⟩) (by show ζ _ [_,_] _=_;dsimp only[π,ς,u2,u1]<;>rfl) (aa rfl _) ?_;refine qh (s:=2) (vs:=[_]) hH fun k2 st hk2 hH=>?_;obtain⟨_,ax,a,rfl,hl⟩:=Lx (l:=[(10,10)]) (hH.rows aB) (by simp);refine qv ax ?_;refine zQ 2 ?_;refine ag.ret ⟨rx,_,_,rfl,rl aN hH (rfl),?_⟩;exact⟨a,rfl,hl⟩
theorem O1 (r:Int):Ev pv 288 [.int .i32 r] s0 (.bool (decide (33≤r∧r≤47∨58≤r∧r≤64∨91≤r∧r≤96∨123≤r∧r≤126))) s0:=by
 refine Ev.gP rfl Wu rfl rfl rfl ?_;refine zE ?_;obtain⟨aN,hF,hH⟩:=ri s0;generalize ae .ro s0=S at*;refine zQ 5 ?_;refine ag.oM 2 (.bool (decide (33≤r∧r≤47∨58≤r∧r≤64∨91≤r∧r≤96∨123≤r∧r≤126))) [] ?_ (fun ff tmp=>?_)
 ·refine zQ 3 ?_;refine ρ 5 rfl (fun br=>?_) (fun br=>?_)
  ·refine zQ 4 ?_;refine ρ 9 rfl (fun gR=>?_) (fun gR=>?_)
   ·refine zQ 24 ?_;refine δ (bu ?_);refine zG ?_
    all_goals(simp[br,gR];done)
   ·refine zQ 3 ?_;refine ρ 12 rfl (fun gk=>?_) (fun gk=>?_)
    ·refine zQ 2 ?_;refine Zt (af rfl rfl rfl gR) rfl gk (aa rfl _) ?_;refine zQ 2 ?_;refine ρ 17 rfl (fun dF=>?_) (fun dF=>?_)
     ·refine zQ 16 ?_;refine δ (bu ?_);refine zG ?_
      all_goals(simp[br,gR,gk,dF];done)
     ·refine zQ 3 ?_;refine ρ 20 rfl (fun dz=>?_) (fun dz=>?_)
      ·refine zQ 2 ?_;refine Zt (af rfl rfl rfl dF) rfl dz (aa rfl _) ?_;refine zQ 2 ?_;refine ρ 25 rfl (fun fI=>?_) (fun fI=>?_)
       ·refine zQ 8 ?_;refine δ (bu ?_);refine zG ?_
        all_goals(simp[br,gR,gk,dF,dz,fI];done)
       ·refine zQ 3 ?_;refine ρ 28 rfl (fun fH=>?_) (fun fH=>?_)
        ·refine zQ 2 ?_;refine Zt (af rfl rfl rfl fI) rfl fH (aa rfl _) ?_;refine zQ 2 ?_;refine δ (bu ?_);refine zG ?_
         all_goals(simp[br,gR,gk,dF,dz,fI,fH];done)
        ·refine zQ 2 ?_;refine YQ (af rfl rfl rfl fI) rfl fH (aa rfl _) ?_;refine zQ 2 ?_;refine δ (bu ?_);refine zG ?_
         all_goals(simp[br,gR,gk,dF,dz,fI,fH];done)
      ·refine zQ 2 ?_;refine YQ (af rfl rfl rfl dF) rfl dz (aa rfl _) ?_;refine zQ 5 ?_;refine ρ 28 rfl (fun fH=>?_) (fun fH=>?_)
       ·refine zQ 5 ?_;refine δ (bu ?_);refine zG ?_
        all_goals(simp[br,gR,gk,dF,dz,fH];done)
       ·refine zQ 5 ?_;refine δ (bu ?_);refine zG ?_
        all_goals(simp[br,gR,gk,dF,dz,fH];done)
    ·refine zQ 2 ?_;refine YQ (af rfl rfl rfl gR) rfl gk (aa rfl _) ?_;refine zQ 5 ?_;refine ρ 20 rfl (fun dz=>?_) (fun dz=>?_)
     ·refine zQ 5 ?_;refine ρ 25 rfl (fun fI=>?_) (fun fI=>?_)
      ·refine zQ 8 ?_;refine δ (bu ?_);refine zG ?_
       all_goals(simp[br,gR,gk,dz,fI];done)
      ·refine zQ 3 ?_;refine ρ 28 rfl (fun fH=>?_) (fun fH=>?_)
       ·refine zQ 2 ?_;refine Zt (af rfl rfl rfl fI) rfl fH (aa rfl _) ?_;refine zQ 2 ?_;refine δ (bu ?_);refine zG ?_
        all_goals(simp[br,gR,gk,dz,fI,fH];done)
       ·refine zQ 2 ?_;refine YQ (af rfl rfl rfl fI) rfl fH (aa rfl _) ?_;refine zQ 2 ?_;refine δ (bu ?_);refine zG ?_
        all_goals(simp[br,gR,gk,dz,fI,fH];done)
     ·refine zQ 8 ?_;refine ρ 28 rfl (fun fH=>?_) (fun fH=>?_)
      ·refine zQ 5 ?_;refine δ (bu ?_);refine zG ?_
       all_goals(simp[br,gR,gk,dz,fH];done)
      ·refine zQ 5 ?_;refine δ (bu ?_);refine zG ?_
       all_goals(simp[br,gR,gk,dz,fH];done)
  ·refine zQ 7 ?_;refine ρ 12 rfl (fun gk=>?_) (fun gk=>?_)
   ·refine zQ 5 ?_;refine ρ 17 rfl (fun dF=>?_) (fun dF=>?_)
    ·refine zQ 16 ?_;refine δ (bu ?_);refine zG ?_
     all_goals(simp[br,gk,dF];done)
    ·refine zQ 3 ?_;refine ρ 20 rfl (fun dz=>?_) (fun dz=>?_)
     ·refine zQ 2 ?_;refine Zt (af rfl rfl rfl dF) rfl dz (aa rfl _) ?_;refine zQ 2 ?_;refine ρ 25 rfl (fun fI=>?_) (fun fI=>?_)
      ·refine zQ 8 ?_;refine δ (bu ?_);refine zG ?_
       all_goals(simp[br,gk,dF,dz,fI];done)
      ·refine zQ 3 ?_;refine ρ 28 rfl (fun fH=>?_) (fun fH=>?_)
       ·refine zQ 2 ?_;refine Zt (af rfl rfl rfl fI) rfl fH (aa rfl _) ?_;refine zQ 2 ?_;refine δ (bu ?_);refine zG ?_
        all_goals(simp[br,gk,dF,dz,fI,fH];done)
       ·refine zQ 2 ?_;refine YQ (af rfl rfl rfl fI) rfl fH (aa rfl _) ?_;refine zQ 2 ?_;refine δ (bu ?_);refine zG ?_
        all_goals(simp[br,gk,dF,dz,fI,fH];done)
     ·refine zQ 2 ?_;refine YQ (af rfl rfl rfl dF) rfl dz (aa rfl _) ?_;refine zQ 5 ?_;refine ρ 28 rfl (fun fH=>?_) (fun fH=>?_)
      ·refine zQ 5 ?_;refine δ (bu ?_);refine zG ?_
       all_goals(simp[br,gk,dF,dz,fH];done)
      ·refine zQ 5 ?_;refine δ (bu ?_);refine zG ?_
       all_goals(simp[br,gk,dF,dz,fH];done)
   ·refine zQ 8 ?_;refine ρ 20 rfl (fun dz=>?_) (fun dz=>?_)
    ·refine zQ 5 ?_;refine ρ 25 rfl (fun fI=>?_) (fun fI=>?_)
     ·refine zQ 8 ?_;refine δ (bu ?_);refine zG ?_
      all_goals(simp[br,gk,dz,fI];done)
     ·refine zQ 3 ?_;refine ρ 28 rfl (fun fH=>?_) (fun fH=>?_)
      ·refine zQ 2 ?_;refine Zt (af rfl rfl rfl fI) rfl fH (aa rfl _) ?_;refine zQ 2 ?_;refine δ (bu ?_);refine zG ?_
       all_goals(simp[br,gk,dz,fI,fH];done)
      ·refine zQ 2 ?_;refine YQ (af rfl rfl rfl fI) rfl fH (aa rfl _) ?_;refine zQ 2 ?_;refine δ (bu ?_);refine zG ?_
       all_goals(simp[br,gk,dz,fI,fH];done)
    ·refine zQ 8 ?_;refine ρ 28 rfl (fun fH=>?_) (fun fH=>?_)
     ·refine zQ 5 ?_;refine δ (bu ?_);refine zG ?_
      all_goals(simp[br,gk,dz,fH];done)
     ·refine zQ 5 ?_;refine δ (bu ?_);refine zG ?_
      all_goals(simp[br,gk,dz,fH];done)
 dsimp only[aK,ζ,nth,u2,u1];refine ag.ret ⟨rx,_,rfl,rl aN hH (rfl)⟩
theorem O4 (a b:List UInt8):∃d,Ev pv 272 [.str a,.str b] s0 d s0∧∃v:Bool,d=.bool v:=by
 refine Ev.FP rfl Wy rfl rfl rfl ?_;refine zE ?_;obtain⟨aN,hF,hH⟩:=ri s0;generalize ae .ro s0=S at*;refine zQ 5 ?_;refine ag.oM 4 (.bool (decide ((a.length:Int)<b.length)||(((a.length:Int)==b.length) &&Op.bytesLess a b))) [] ?_ (fun ff tmp=>?_)
 ·refine qm ?_;refine VQ rfl rfl rfl (aa rfl _) ?_;refine qm ?_;refine VQ rfl rfl rfl (aa rfl _) ?_;refine zQ 2 ?_;refine ρ 10 rfl (fun cK=>?_) (fun cK=>?_)
  ·refine zQ 12 ?_;refine δ (bu ?_);refine zG ?_
   all_goals(simp_all;done)
  ·refine zQ 1 ?_;refine VQ (af rfl rfl rfl cK) rfl rfl (aa rfl _) ?_;refine zQ 1 ?_;refine VQ (af rfl rfl rfl cK) rfl rfl (aa rfl _) ?_;refine zQ 2 ?_;refine ρ 16 rfl (fun ck=>?_) (fun ck=>?_)
   ·refine zQ 3 ?_;refine Zt (af rfl rfl rfl cK) rfl ck (aa rfl _) ?_;refine zQ 2 ?_;refine δ (bu ?_);refine zG ?_
    all_goals(simp_all;done)
   ·refine zQ 3 ?_;refine YQ (af rfl rfl rfl cK) rfl ck (aa rfl _) ?_;refine zQ 2 ?_;refine δ (bu ?_);refine zG ?_
    all_goals(simp_all;done)
 dsimp only[aK,ζ,nth,u2,u1];refine ag.ret ⟨rx,_,_,rfl,rl aN hH (rfl),?_⟩;exact⟨_,rfl⟩
theorem rZ (b:List UInt8) (hb:b.length≤1048576):∃d,Ev pv 273 [.str b] s0 d s0∧∃(n:Int) (v:Bool),d=.tup [.int .i64 n,.bool v]:=by
 refine Ev.FP rfl Wx rfl rfl rfl ?_;refine zE ?_;obtain⟨aN,hF,hH⟩:=ri s0;generalize ae .ro s0=S at*;refine zQ 9 ?_;refine VQ rfl rfl rfl (by dsimp only[Ψ,u1,u2]<;>rfl) ?_;refine zQ 2 ?_;refine zP (fun h0=>?_) fun h0=>?_
 ·refine zQ 5 ?_;refine ag.ret ⟨rx,_,_,rfl,rl aN hH (rfl),?_⟩;exact⟨_,_,rfl⟩
 ·refine zQ 9 ?_;refine VQ rfl rfl rfl (by dsimp only[Ψ,u1,u2]<;>rfl) ?_;refine zQ 3 ?_;refine ag.loop (fun mm fr st=>∃(i:Nat) (n:Int),fr.clean=⟨12,[.str b,iz fr 1,iz fr 2,iz fr 3,.int .i64 n,iz fr 5,iz fr 6,iz fr 7,iz fr 8,iz fr 9,.int .i64 (b.length:Nat),.int .i64 (i:Nat)],[]⟩∧Has s0.bs.length S st []∧(i+mm=b.length)) (b.length) ?_ ?_
  ·exact⟨0,0,rfl,hH,by omega⟩
  rintro mm fr st ⟨i,n,hfr,hH,hi⟩;rw[hfr];clear hfr;generalize iz fr=ee;clear fr;refine zQ 5 ?_;refine zP (fun h1=>?_) fun h1=>?_
  ·refine zQ 1 ?_
   obtain⟨c,hc⟩:∃c,b[i]?=some c:=⟨b[i]'(by omega),ξ _⟩
   refine zQ 9 ?_;refine ab.DE (z:=bJ .i64 (10*n)) rfl (ev rfl) (ev rfl) rfl (aa rfl _) ?_;refine zQ 2 ?_;refine ab.Y6 rfl (ev rfl) (ev rfl) rfl (by assumption) (aa rfl _) ?_;refine ab.go (d:=.int .u8 (bJ .u8 ((c.toNat:Nat)-48))) (st1:=_) rfl rfl rfl (aa rfl _) ?_;refine qg ?_;refine ab.e_ (z:=bJ .i64 (bJ .i64 (10*n)+bJ .i64 (bJ .u8 ((c.toNat:Nat)-48)))) rfl (ev rfl) (ev rfl) rfl (aa rfl _) ?_;refine zQ 6 ?_;exact⟨mm-1,by omega,⟨i+1,_,rfl,hH,by omega⟩⟩
  ·refine zQ 9 ?_;refine ag.ret ⟨rx,_,_,rfl,rl aN hH (rfl),?_⟩;exact⟨_,_,rfl⟩
theorem vf:∀gs:List (Nat×Nat),nQ ((gs.map bD).map (ml 2))=some (gs.map fun g=>((g.1:Nat):Int))
 |[]=>rfl
 |g::gs=>by
  have ih:=vf gs;simp only[List.map_cons];show(match nQ ((gs.map bD).map (ml 2)) with|some rs=>some (((g.1:Nat):Int)::rs)|none=>none)=_;rw[ih]
theorem EA:∀(rs:List Int) (acc:List UInt8),(digS rs acc).2≤rs.length∧(digS rs acc).1.length≤acc.length+(digS rs acc).2
 |[],acc=>by simp[digS]
 |r::rs,acc=>by
  unfold digS
  split
  ·have h:=EA rs (if 48<r∨acc≠[] then acc++[UInt8.ofNat r.toNat] else acc);simp only[θ]
   have hl:(if 48<r∨acc≠[] then acc++[UInt8.ofNat r.toNat] else acc).length≤acc.length+1:=by
    split<;>simp
   omega
  ·simp
structure pP (gs:List (Nat×Nat)) (dt:List Int):Prop where
 gl:gs.length≤120
 pl:dt.length=gs.length
theorem AW (yh:gs.length≤120) (hi:s.i≤gs.length) (hne:gs≠[]) (hH:Has N S s0 (.box k (.mem 0 false (bt gs cU s))::H)):
  ∃d ai,Ev pv 271 [.ptr k 0 0] s0 d ai∧∃(t:List UInt8) (v:Bool) (m:Nat),d=.tup [.str t,.bool v]∧t.length≤120∧s.i+m≤gs.length∧Has N S ai (.box k (.mem 0 false (bt gs cU {s with i:=s.i+m}))::H):=by
 have hb:=hH.at aB;have hw:=jT (cs:=[.int .i64 0]) hH (hH.ge aB).1 (.inr rfl);have hl:=EA ((gs.map fun g=>((g.1:Nat):Int)).drop s.i) [];obtain⟨h1,h2⟩:=hl;simp only[υ,ε,ν] at h1 h2;refine⟨_,_,Ev.fz rfl ?_,(digS ((gs.map fun g=>((g.1:Nat):Int)).drop s.i) []).1,decide (0<(digS ((gs.map fun g=>((g.1:Nat):Int)).drop s.i) []).2),(digS ((gs.map fun g=>((g.1:Nat):Int)).drop s.i) []).2,rfl,by omega,by omega,hH.rE (aE:=0) aB⟩
 have hd:decide ((gs.map fun g=>((g.1:Nat):Int))≠[]∧(0:Int)≤(s.i:Nat)∧((s.i:Nat):Int).toNat≤(gs.map fun g=>((g.1:Nat):Int)).length∧(gs.map fun g=>((g.1:Nat):Int)).length<1099511627776)=true:=by
  rw[decide_eq_true];refine⟨by simpa using hne,by omega,by simp;omega,by simp;omega⟩
 show JR [.ptr k 0 0] s0=_;simp only[JR,St.mem_of hb];show(match nQ ((gs.map bD).map (ml 2)) with|some rs=>Qa s0 k 0 0 rs (s.i:Nat)|none=>none)=_;rw[vf];simp only[Qa,hd];have hwr:=nO (cs:=[.int .i64 ((s.i+(digS ((gs.map fun g=>((g.1:Nat):Int)).drop s.i) []).2:Nat))]) (off:=2) hb (by show 2+1≤7;omega) hw;simp only[Wh,Nat.zero_add];rw[hwr]
 rfl
def NQ (gs:List (Nat×Nat)) (s s':iV) (d1:D) (b:Bool):Prop:=
 s'.o=s.o∧s'.g=s.g∧s.i≤s'.i∧s'.i≤gs.length∧(d1=.nul∨∃a,d1=cC a∧a.length≤8)∧(s'.e≠0∨s'.e=0∧s.i<s'.i∧∃a,d1=cC a∧a.length≤8∧a≠[])
theorem fL {e:Int} (he:s.e=0) (h:e≠0):(mJ dt s i e).e≠0∧(mJ dt s i e).i=s.i∧(mJ dt s i e).o=s.o∧(mJ dt s i e).g=s.g:=by
 unfold mJ;rw[if_pos he];exact⟨h,rfl,rfl,rfl⟩
theorem Hm (ba:pP gs dt) (he:s.e=0) (hi:s.i<gs.length) (hH:Has N S s0 (.box k (.mem 0 false (bt gs cU s))::.aF cU 1 (dt.map az)::H)):
  ∃d ai,Ev pv 268 [.ptr k 0 0] s0 d ai∧∃(d1:D) (b:Bool) (s':iV),d=.tup [d1,.bool b]∧NQ gs s s' d1 b∧Has N S ai (.box k (.mem 0 false (bt gs cU s'))::.aF cU 1 (dt.map az)::H):=by
 have yh:=ba.gl;have fT:=ba.pl;refine Ev.eN rfl WB rfl rfl rfl ?_;refine zE ?_;have cj:=hH;have hH:=hH.bE;have bV:(ae .rw s0).bs=s0.bs:=rfl;generalize ae .rw s0=S2 at*;have PE:Arg N S2 2 (gY gs) (gs.map bD):=Arg.pure (fun st=>gC st gs);refine zQ 22 ?_;refine qT hH aB fun st hH=>?_;dsimp only[u2,u1,u3,u4,setMany,u5,u6,τ,ι,bt,bD,az,aw] at hH;refine zQ 12 ?_;refine qn ?_;simp only[ε];refine zQ 2 ?_;refine zP (fun h0=>?_) fun h0=>?_
 ·refine zQ 4 ?_;obtain⟨_,st,ax,rfl,hH⟩:=fk (s:={s with i:=s.i+1}) s.i 4 (by omega) hH;refine qv ax ?_;refine zQ 6 ?_;obtain⟨h1,h2,h3,h4⟩:=fL (dt:=dt) (s:={s with i:=s.i+1}) (i:=s.i) (e:=4) he (by decide);refine ag.ret ⟨rx,_,_,_,rfl,aj (rfl),?_⟩;exact⟨_,_,_,rfl,⟨h3,h4,by rw[h2];simp,by rw[h2];exact hi,.inl rfl,.inl h1⟩,cj.aq bV hH⟩
 ·obtain⟨g,hg⟩:∃g,gs[s.i+1]?=some g:=⟨gs[s.i+1]'(by omega),ξ _⟩
  have gw:(gs.map bD)[s.i+1]?=some (bD g):=by rw[Δ,hg];rfl
  have hlt:=bp hg;refine zQ 9 ?_;obtain⟨_,st,ax,rfl,hH⟩:=GZ (s:={s with i:=s.i+1}) (s.i+1) hlt hH;refine qv ax ?_;refine zQ 1 ?_;dsimp only[bt] at hH;refine qc (fun hb=>?_) (fun hb=>?_)<;>try simp only[cs] at hb
  ·refine zQ 7 ?_;obtain⟨_,st,ax,rfl,hH⟩:=fk (s:={s with i:=s.i+1}) (s.i+1) 4 (by omega) hH;refine qv ax ?_;refine zQ 6 ?_;obtain⟨h1,h2,h3,h4⟩:=fL (dt:=dt) (s:={s with i:=s.i+1}) (i:=s.i+1) (e:=4) he (by decide);refine ag.ret ⟨rx,_,_,_,rfl,aj (rfl),?_⟩;exact⟨_,_,_,rfl,⟨h3,h4,by rw[h2];simp,by rw[h2];exact hi,.inl rfl,.inl h1⟩,cj.aq bV hH⟩
  ·refine zQ 11 ?_;refine qr fun Yn Pn=>?_;refine qf (fo:=0) fun Zb Se=>?_;refine zQ 12 ?_;refine qT hH aB fun st hH=>?_;dsimp only[u2,u1,u3,u4,setMany,u5,u6,τ,ι,bt,bD,az,aw] at hH;refine zQ 6 ?_
   have jl:∀(a:List Rg) (b:Bool),a.length≤8→a≠[]→NQ gs s {s with i:=s.i+1+1} (cC a) b:=fun a b h1 h2=>⟨rfl,rfl,by show s.i≤s.i+1+1;omega,by show s.i+1+1≤_;omega,.inr ⟨a,rfl,h1⟩,.inr ⟨he,by show s.i<s.i+1+1;omega,a,rfl,h1,h2⟩⟩
   have oc:∀(r:Int),0≤r→r<55296→(pe [(r,r)]).length≤8∧pe [(r,r)]≠[]:=by
    intro r h1 h2;obtain⟨_,h3,h4⟩:=sE (s0:=s0) (x:=cC [(r,r)]) (l:=[(r,r)]) (h_ _ _) (by simp);exact⟨by simp at h3;omega,DL h1 h2 h4⟩
   refine zQ 6 ?_;refine zI (fun q1=>?_) fun q1=>?_
   ·refine zQ 2 ?_;refine qv (nc 10) ?_;refine zQ 3 ?_;refine ag.ret ⟨rx,_,_,_,rfl,aj (rfl),?_⟩;exact⟨_,_,_,rfl,jl _ _ (oc 10 (by decide) (by decide)).1 (oc 10 (by decide) (by decide)).2,cj.aq bV hH⟩
   ·refine zQ 5 ?_;refine zI (fun q2=>?_) fun q2=>?_
    ·refine zQ 2 ?_;refine qv (nc 9) ?_;refine zQ 3 ?_;refine ag.ret ⟨rx,_,_,_,rfl,aj (rfl),?_⟩;exact⟨_,_,_,rfl,jl _ _ (oc 9 (by decide) (by decide)).1 (oc 9 (by decide) (by decide)).2,cj.aq bV hH⟩
    ·refine zQ 5 ?_;refine zI (fun q3=>?_) fun q3=>?_
     ·refine zQ 2 ?_;refine qv (nc 13) ?_;refine zQ 3 ?_;refine ag.ret ⟨rx,_,_,_,rfl,aj (rfl),?_⟩;exact⟨_,_,_,rfl,jl _ _ (oc 13 (by decide) (by decide)).1 (oc 13 (by decide) (by decide)).2,cj.aq bV hH⟩
     ·refine zQ 5 ?_;refine zI (fun q4=>?_) fun q4=>?_
      ·refine zQ 2 ?_;refine Q5 (qs:=[(0,_),(1,_)]) rfl rfl rfl rfl ⟨rfl,(ev rfl),(by rfl),rfl,(ev rfl),(by rfl),trivial⟩ (by intro q hq;simp only[κ,η,or_false] at hq;rcases hq with rfl|rfl<;>exact⟨rfl,by exact γ rfl⟩) (by show ζ _ [_,_] _=_;dsimp only[π,ς,u2,u1]<;>rfl) (aa rfl _) ?_;refine qh (s:=2) (vs:=[_]) hH fun k73 st ado hH=>?_;obtain⟨ax,hl,N_⟩:=sE (l:=[(48,57)]) (hH.rows aB) (by simp);refine qv ax ?_;refine zQ 3 ?_;refine ag.ret ⟨rx,_,_,_,rfl,aj (rfl),?_⟩;exact⟨_,_,_,rfl,jl _ _ (by simp at hl;omega) (BP (r:=48) (by decide) (by decide) ⟨_,ω ..,by decide,by decide⟩ N_),cj.aq bV (hH.drop 1)⟩
      ·refine zQ 5 ?_;refine zI (fun q5=>?_) fun q5=>?_
       ·refine zQ 2 ?_;refine Q5 (qs:=[(0,_),(1,_)]) rfl rfl rfl rfl ⟨rfl,(ev rfl),(by rfl),rfl,(ev rfl),(by rfl),trivial⟩ (by intro q hq;simp only[κ,η,or_false] at hq;rcases hq with rfl|rfl<;>exact⟨rfl,by exact γ rfl⟩) (by show ζ _ [_,_] _=_;dsimp only[π,ς,u2,u1]<;>rfl) (aa rfl _) ?_;refine Q5 (qs:=[(0,_),(1,_)]) rfl rfl rfl rfl ⟨rfl,(ev rfl),(by rfl),rfl,(ev rfl),(by rfl),trivial⟩ (by intro q hq;simp only[κ,η,or_false] at hq;rcases hq with rfl|rfl<;>exact⟨rfl,by exact γ rfl⟩) (by show ζ _ [_,_] _=_;dsimp only[π,ς,u2,u1]<;>rfl) (aa rfl _) ?_;refine Q5 (qs:=[(0,_),(1,_)]) rfl rfl rfl rfl ⟨rfl,(ev rfl),(by rfl),rfl,(ev rfl),(by rfl),trivial⟩ (by intro q hq;simp only[κ,η,or_false] at hq;rcases hq with rfl|rfl<;>exact⟨rfl,by exact γ rfl⟩) (by show ζ _ [_,_] _=_;dsimp only[π,ς,u2,u1]<;>rfl) (aa rfl _) ?_;refine qh (s:=2) (vs:=[_,_,_]) hH fun k80 st adm hH=>?_;obtain⟨ax,hl,N_⟩:=sE (l:=[(9,10),(13,13),(32,32)]) (hH.rows aB) (by simp);refine qv ax ?_;refine zQ 3 ?_;refine ag.ret ⟨rx,_,_,_,rfl,aj (rfl),?_⟩;exact⟨_,_,_,rfl,jl _ _ (by simp at hl;omega) (BP (r:=9) (by decide) (by decide) ⟨_,ω ..,by decide,by decide⟩ N_),cj.aq bV (hH.drop 1)⟩
       ·refine zQ 5 ?_;refine zI (fun q6=>?_) fun q6=>?_
        ·refine zQ 2 ?_;refine Q5 (qs:=[(0,_),(1,_)]) rfl rfl rfl rfl ⟨rfl,(ev rfl),(by rfl),rfl,(ev rfl),(by rfl),trivial⟩ (by intro q hq;simp only[κ,η,or_false] at hq;rcases hq with rfl|rfl<;>exact⟨rfl,by exact γ rfl⟩) (by show ζ _ [_,_] _=_;dsimp only[π,ς,u2,u1]<;>rfl) (aa rfl _) ?_;refine Q5 (qs:=[(0,_),(1,_)]) rfl rfl rfl rfl ⟨rfl,(ev rfl),(by rfl),rfl,(ev rfl),(by rfl),trivial⟩ (by intro q hq;simp only[κ,η,or_false] at hq;rcases hq with rfl|rfl<;>exact⟨rfl,by exact γ rfl⟩) (by show ζ _ [_,_] _=_;dsimp only[π,ς,u2,u1]<;>rfl) (aa rfl _) ?_;refine Q5 (qs:=[(0,_),(1,_)]) rfl rfl rfl rfl ⟨rfl,(ev rfl),(by rfl),rfl,(ev rfl),(by rfl),trivial⟩ (by intro q hq;simp only[κ,η,or_false] at hq;rcases hq with rfl|rfl<;>exact⟨rfl,by exact γ rfl⟩) (by show ζ _ [_,_] _=_;dsimp only[π,ς,u2,u1]<;>rfl) (aa rfl _) ?_;refine Q5 (qs:=[(0,_),(1,_)]) rfl rfl rfl rfl ⟨rfl,(ev rfl),(by rfl),rfl,(ev rfl),(by rfl),trivial⟩ (by intro q hq;simp only[κ,η,or_false] at hq;rcases hq with rfl|rfl<;>exact⟨rfl,by exact γ rfl⟩) (by show ζ _ [_,_] _=_;dsimp only[π,ς,u2,u1]<;>rfl) (aa rfl _) ?_;refine qh (s:=2) (vs:=[_,_,_,_]) hH fun k88 st VA hH=>?_;obtain⟨ax,hl,N_⟩:=sE (l:=[(48,57),(65,90),(95,95),(97,122)]) (hH.rows aB) (by simp);refine qv ax ?_;refine zQ 3 ?_;refine ag.ret ⟨rx,_,_,_,rfl,aj (rfl),?_⟩;exact⟨_,_,_,rfl,jl _ _ (by simp at hl;omega) (BP (r:=48) (by decide) (by decide) ⟨_,ω ..,by decide,by decide⟩ N_),cj.aq bV (hH.drop 1)⟩
        ·refine zQ 5 ?_;refine qv (O1 _) ?_;refine zQ 2 ?_;refine ag.cond (by rfl) (fun q7=>?_) (fun q7=>?_)<;>try simp only[decide_eq_true_eq,decide_eq_false_iff_not,xw,wt] at q7
         ·refine zQ 4 ?_;obtain⟨_,st,ax,rfl,hH⟩:=fk (s:={s with i:=s.i+1+1}) s.i 4 (by omega) hH;refine qv ax ?_;refine zQ 6 ?_;obtain⟨h1,h2,h3,h4⟩:=fL (dt:=dt) (s:={s with i:=s.i+1+1}) (i:=s.i) (e:=4) he (by decide);refine ag.ret ⟨rx,_,_,_,rfl,aj (rfl),?_⟩;exact⟨_,_,_,rfl,⟨h3,h4,by rw[h2];show s.i≤s.i+1+1;omega,by rw[h2];show s.i+1+1≤_;omega,.inl rfl,.inl h1⟩,cj.aq bV hH⟩
         ·refine zQ 4 ?_;refine qv (nc _) ?_;refine zQ 3 ?_;have hm:=oc ((g.1:Nat):Int) (by omega) (by omega);refine ag.ret ⟨rx,_,_,_,rfl,aj (rfl),?_⟩;exact⟨_,_,_,rfl,jl _ _ hm.1 hm.2,cj.aq bV hH⟩
def iB (fr:Go.V.Fr) (k:Nat):Go.V.D:=Go.V.nth .bI fr.loc k
variable{pc:Nat}
theorem RG {p:Pg} {i:aP} (hp:p.ok) (hi:p.code[pc]?=some i):Ev pv 146 [p.d,.int .i64 (pc:Nat)] s0 (.bool (dv p.code.length p.ak.length pc i)) s0:=by
 refine Ev.gP rfl XE rfl rfl rfl ?_;refine zE ?_;obtain⟨aN,hF,hH⟩:=ri s0;generalize ae .ro s0=S at*;have hc:=hp.c.arg s0.bs.length S;have hs:=hp.s.arg s0.bs.length S;have PD:=hp.i i (List.mem_of_getElem? hi);have Gb:=PD.1;have Gl:=PD.1.arg s0.bs.length S;have hil:=PD.2;have hcl:=hp.cl;have kX:=hp.sl;have hr:=gM hi;have hlt:=bp hi;unfold Pg.d;refine qq<|qj fun K hK=>qb hH fun k2 st hk2 hH=>?_;dsimp only[u2,u1,u3,u4,setMany,u5,u6,τ,ι,Pg.cs,aJ,az] at hH;refine qm ?_;refine qe hK<|qq<|qj fun K hK=>qp (o:=0) ?_;refine ql hH aB ?_;refine qm ?_;refine qr fun Zm Sm=>?_;refine LL rfl (ev rfl) (by assumption) rfl (by dsimp only[Ψ,u1,u2]<;>rfl) ?_;refine qa hH fun k5 st Kf hH=>?_;refine qS hH aB fun st hH=>?_;dsimp only[u2,u1,u3,u4,setMany,u5,u6,τ,ι,Pg.cs,aJ,az] at hH;refine qe hK<|qq<|qj fun K hK=>qp (o:=0) ?_;refine ql hH aO ?_;refine qn ?_;simp only[ε];refine qm ?_;refine qe hK<|qq<|qj fun K hK=>qp (o:=0) ?_;refine ql hH aB ?_;refine ab.go (d:=.agg [.int .i64 i.op,.int .i64 0,.int .i64 0,.nul]) (st1:=_) rfl rfl rfl (by dsimp only[Ψ,u1,u2]<;>rfl) ?_;refine qa hH fun k7 st SB hH=>?_;refine qS hH aB fun st hH=>?_;dsimp only[u2,u1,u3,u4,setMany,u5,u6,τ,ι,Pg.cs,aJ,az] at hH;refine qe hK<|qq<|qj fun K hK=>qm ?_;refine qe hK<|qq<|qq<|qj fun K hK=>qp (o:=0) ?_;refine ql hH aO ?_;refine qe hK<|ag.merge (fun fr st=>∃(bx bz:Int) (brd:D) (fl:Bool) (YW:List Rg) (tmp:List (Nat×D)),fr=⟨22,[iB fr 0,.int .i64 (pc:Nat),.ptr k2 0 0,iB fr 3,.bool false,.ptr k5 0 0,.int .i64 (p.code.length:Nat),.ptr k7 0 0,.bool fl,iB fr 9,iB fr 10,iB fr 11,iB fr 12,iB fr 13,iB fr 14,iB fr 15,iB fr 16,iB fr 17,iB fr 18,iB fr 19,iB fr 20,iB fr 21],tmp⟩∧Has s0.bs.length S st [.box k7 (.mem 0 false [.int .i64 i.op,.int .i64 bx,.int .i64 bz,brd]),.box k5 (.mem 0 false [.int .i64 i.op,.int .i64 i.x,.int .i64 i.y,i.rd]),.box k2 (.mem 0 false [p.cd,p.sd])]∧(dg brd 2 (YW.map aw))∧(dv p.code.length p.ak.length pc i=(((i.x==bx) &&(i.y==bz)) &&((i.rs.length:Int)==YW.length) &&(!fl||decide (((pc+1:Nat):Int)<p.code.length))))) ?_ ?_
 ·refine ag.block<|qq<|qj fun K hK=>qg ?_;refine qm ?_;refine qe hK<|zI (fun h1=>?_) fun h1=>?_
  ·have rW:dv p.code.length p.ak.length pc i=(i.y==0 &&(decide (((pc+1:Nat):Int)<p.code.length) &&i.x==0 &&gh i.rs)):=by unfold dv;rw[if_pos h1]
   refine qq<|qj fun K hK=>qp (o:=3) ?_;refine ql hH aO ?_;refine qp (o:=3) ?_;refine qT hH aB fun st hH=>?_;dsimp only[u2,u1,u3,u4,setMany,u5,u6,τ,ι,Pg.cs,aJ,az] at hH;refine qe hK<|qq<|ag.dM 30 (.bool (!gh i.rs)) [] ?_ (fun ff tmp dj=>?_)
   ·refine qp (o:=3) ?_;refine ql hH aO ?_;refine qv (Di (Gl.rows hH) hil) ?_;refine qg ?_;refine δ (aR ?_ ?_)
    ·dsimp only[aK,ζ,nth,u2,u1]
     all_goals(first|rfl|simp)
    ·exact zS
     all_goals(first|rfl|(simp[];done)|(simp_all;done)|(simp[];omega)|(simp_all;omega))
   dsimp only[aK,ζ,nth,u2,u1];refine ag.cond (by assumption) (fun h2=>?_) (fun h2=>?_)<;>try simp only[xw,wt] at h2
   ·refine qq<|qj fun K hK=>qm ?_;refine qe hK ?_;rw[rW,h2];simp only[Γ];refine ag.ret ⟨rx,_,rfl,rl aN hH (rfl)⟩
   ·refine ag.skip ?_;refine⟨0,0,i.rd,true,i.rs,_,rfl,hH,Gb,?_⟩;rw[rW,h2];cases hx:(i.x==0)<;>cases hy:(i.y==0)<;>simp
  ·have rW:dv p.code.length p.ak.length pc i=(i.rs.isEmpty &&(if i.op=2 then my i.x p.code.length &&my i.y p.code.length
  else i.y==0 &&
   (if i.op=3 then my i.x p.code.length
   else if i.op=4 then decide (((pc+1:Nat):Int)<p.code.length) &&my i.x 10
   else if i.op=5∨i.op=6 then decide (((pc+1:Nat):Int)<p.code.length) &&i.x==0
   else if i.op=7 then my i.x p.ak.length
   else false))):=by unfold dv;rw[if_neg h1]
   have PJ:i.rs.isEmpty=((i.rs.length:Int)==(([]:List Rg).length:Int)):=by cases i.rs<;>simp<;>omega
   have Ax:dg .nul 2 (([]:List Rg).map aw):=.inl ⟨rfl,rfl⟩;refine qq<|qj fun K hK=>qg ?_;refine qm ?_;refine qe hK<|zI (fun h2=>?_) fun h2=>?_
   ·rw[if_pos h2] at rW;refine qq<|qj fun K hK=>qm ?_;refine qe hK ?_;have cj:=hH;change ag _ _ _ _ _ _;refine qq ?_;generalize hK:aZ _ _ _ _=K;refine ag.uc rfl ?_;refine bP.cons ?_;refine qp (o:=1) ?_;refine δ ⟨rfl,?_⟩;refine bP.cons ?_;refine ql hH aO ?_;refine δ ⟨rfl,?_⟩;refine bP.cons ?_;refine qp (o:=2) ?_;refine δ ⟨rfl,?_⟩;refine bP.cons ?_;refine ql hH aO ?_;refine δ ⟨rfl,?_⟩;refine bP.cons ?_;refine qp (o:=1) ?_;refine δ ⟨rfl,?_⟩;refine bP.cons ?_;refine qT hH aB fun st hH=>?_;dsimp only[u2,u1,u3,u4,setMany,u5,u6,τ,ι,Pg.cs,aJ,az] at hH;refine δ ⟨by exact Bool.and_eq_true_iff.2 ⟨A3 rfl rfl rfl (cj.at aO) (hH.at aO) (cj.at aO) (by simp[refs,D.ref,Gb.ref]),rfl⟩,?_⟩;refine bP.cons ?_;refine qp (o:=2) ?_;refine δ ⟨rfl,?_⟩;refine bP.cons ?_;refine qT hH aB fun st hH=>?_;dsimp only[u2,u1,u3,u4,setMany,u5,u6,τ,ι,Pg.cs,aJ,az] at hH;refine δ ⟨rfl,?_⟩;refine bP.nil ?_;subst hK;refine qq<|ag.dM 58 (.bool (((decide (i.x<0)||decide (i.x≥p.code.length))||decide (i.y<0))||decide (i.y≥p.code.length))) [] ?_ (fun ff tmp dj=>?_)
    ·refine qp (o:=1) ?_;refine ql hH aO ?_;refine qg ?_;refine qm ?_;refine ρ 42 rfl (fun bZ=>?_) (fun bZ=>?_)
     ·refine qs ?_ (hg:=wn bZ);refine qs ?_ (hg:=wn bZ);refine qs ?_ (hg:=wn bZ);refine qs ?_ (hg:=wn bZ);refine qt bZ ?_;refine qm ?_;refine qs ?_;refine qs ?_;refine qs ?_;refine qg ?_;refine qm ?_;refine qs ?_;refine qs ?_;refine qs ?_;refine qs ?_;refine qg ?_;refine δ (aR ?_ ?_)
      ·dsimp only[aK,ζ,nth,u2,u1]
       all_goals(first|rfl|simp)
      ·refine zF ?_
       all_goals(simp[bZ];done)
     ·refine qp (o:=1) ?_ (hg:=wi bZ);refine ql hH aO ?_ (hg:=wi bZ);refine qm ?_ (hg:=wi bZ);refine qg ?_ (hg:=wi bZ);refine qu bZ ?_;refine qm ?_;refine ρ 48 rfl (fun gk=>?_) (fun gk=>?_)
      ·refine qs ?_ (hg:=wn gk);refine qs ?_ (hg:=wn gk);refine qs ?_ (hg:=wn gk);refine qt gk ?_;refine qm ?_;refine qs ?_;refine qs ?_;refine qs ?_;refine qs ?_;refine qg ?_;refine δ (aR ?_ ?_)
       ·dsimp only[aK,ζ,nth,u2,u1]
        all_goals(first|rfl|simp)
       ·refine zF ?_
        all_goals(simp[bZ,gk];done)
      ·refine qp (o:=2) ?_ (hg:=wi gk);refine ql hH aO ?_ (hg:=wi gk);refine qg ?_ (hg:=wi gk);refine qu gk ?_;refine qm ?_;refine ρ 53 rfl (fun dF=>?_) (fun dF=>?_)
       ·refine qs ?_ (hg:=wn dF);refine qs ?_ (hg:=wn dF);refine qs ?_ (hg:=wn dF);refine qs ?_ (hg:=wn dF);refine qt dF ?_;refine δ (aR ?_ ?_)
        ·dsimp only[aK,ζ,nth,u2,u1]
         all_goals(first|rfl|simp)
        ·refine zF ?_
         all_goals(simp[bZ,gk,dF];done)
       ·refine qp (o:=2) ?_ (hg:=wi dF);refine ql hH aO ?_ (hg:=wi dF);refine qm ?_ (hg:=wi dF);refine qg ?_ (hg:=wi dF);refine qu dF ?_;refine δ (aR ?_ ?_)
        ·dsimp only[aK,ζ,nth,u2,u1]
         all_goals(first|rfl|simp)
        ·refine zF ?_
         all_goals(simp[bZ,gk,dF];done)
    dsimp only[aK,ζ,nth,u2,u1]
    have rz:(my i.x p.code.length &&my i.y p.code.length)=!(((decide (i.x<0)||decide (i.x≥p.code.length))||decide (i.y<0))||decide (i.y≥p.code.length)):=by
     unfold my;simp only[Z5,←decide_not,Zn,ZD,ge_iff_le,Bool.and_assoc]
    refine qc (fun h3=>?_) (fun h3=>?_)<;>try simp only[cs] at h3
    ·refine qq<|qj fun K hK=>qm ?_;refine qe hK ?_;rw[rW,rz,h3];simp only[Ω,Γ];refine ag.ret ⟨rx,_,rfl,rl aN hH (rfl)⟩
    ·refine ag.skip ?_;exact⟨i.x,i.y,.nul,false,[],_,rfl,hH,Ax,by rw[rW,rz,h3,PJ];simp⟩
   ·rw[if_neg h2] at rW;refine qq<|qj fun K hK=>qg ?_;refine qm ?_;refine qe hK<|zI (fun h3=>?_) fun h3=>?_
    ·rw[if_pos h3] at rW;refine qq<|qj fun K hK=>qm ?_;refine qe hK<|qq<|qj fun K hK=>qp (o:=1) ?_;refine ql hH aO ?_;refine qp (o:=1) ?_;refine qT hH aB fun st hH=>?_;dsimp only[u2,u1,u3,u4,setMany,u5,u6,τ,ι,Pg.cs,aJ,az] at hH;refine qe hK<|qq<|ag.dM 72 (.bool (decide (i.x<0)||decide (i.x≥p.code.length))) [] ?_ (fun ff tmp dj=>?_)
     ·refine qp (o:=1) ?_;refine ql hH aO ?_;refine qg ?_;refine qm ?_;refine ρ 67 rfl (fun bZ=>?_) (fun bZ=>?_)
      ·refine qs ?_ (hg:=wn bZ);refine qs ?_ (hg:=wn bZ);refine qs ?_ (hg:=wn bZ);refine qs ?_ (hg:=wn bZ);refine qt bZ ?_;refine δ (aR ?_ ?_)
       ·dsimp only[aK,ζ,nth,u2,u1]
        all_goals(first|rfl|simp)
       ·refine zF ?_
        all_goals(simp[bZ];done)
      ·refine qp (o:=1) ?_ (hg:=wi bZ);refine ql hH aO ?_ (hg:=wi bZ);refine qm ?_ (hg:=wi bZ);refine qg ?_ (hg:=wi bZ);refine qu bZ ?_;refine δ (aR ?_ ?_)
       ·dsimp only[aK,ζ,nth,u2,u1]
        all_goals(first|rfl|simp)
       ·refine zF ?_
        all_goals(simp[bZ];done)
     dsimp only[aK,ζ,nth,u2,u1]
     have rz:my i.x p.code.length=!(decide (i.x<0)||decide (i.x≥p.code.length)):=by
      unfold my;simp only[Z5,←decide_not,Zn,ZD,ge_iff_le]
     refine qc (fun h4=>?_) (fun h4=>?_)<;>try simp only[cs] at h4
     ·refine qq<|qj fun K hK=>qm ?_;refine qe hK ?_;rw[rW,rz,h4];simp only[Ω,Γ];refine ag.ret ⟨rx,_,rfl,rl aN hH (rfl)⟩
     ·refine ag.skip ?_;exact⟨i.x,0,.nul,false,[],_,rfl,hH,Ax,by rw[rW,rz,h4,PJ];cases(i.y==0)<;>simp⟩
    ·rw[if_neg h3] at rW;refine qq<|qj fun K hK=>qg ?_;refine qm ?_;refine qe hK<|zI (fun h4=>?_) fun h4=>?_
     ·rw[if_pos h4] at rW;refine qq<|qj fun K hK=>qp (o:=1) ?_;refine ql hH aO ?_;refine qp (o:=1) ?_;refine qT hH aB fun st hH=>?_;dsimp only[u2,u1,u3,u4,setMany,u5,u6,τ,ι,Pg.cs,aJ,az] at hH;refine qe hK<|qq<|ag.dM 85 (.bool (decide (i.x<0)||decide (i.x≥10))) [] ?_ (fun ff tmp dj=>?_)
      ·refine qp (o:=1) ?_;refine ql hH aO ?_;refine qg ?_;refine qm ?_;refine ρ 81 rfl (fun bZ=>?_) (fun bZ=>?_)
       ·refine qs ?_ (hg:=wn bZ);refine qs ?_ (hg:=wn bZ);refine qs ?_ (hg:=wn bZ);refine qt bZ ?_;refine δ (aR ?_ ?_)
        ·dsimp only[aK,ζ,nth,u2,u1]
         all_goals(first|rfl|simp)
        ·refine zF ?_
         all_goals(simp[bZ];done)
       ·refine qp (o:=1) ?_ (hg:=wi bZ);refine ql hH aO ?_ (hg:=wi bZ);refine qg ?_ (hg:=wi bZ);refine qu bZ ?_;refine δ (aR ?_ ?_)
        ·dsimp only[aK,ζ,nth,u2,u1]
         all_goals(first|rfl|simp)
        ·refine zF ?_
         all_goals(simp[bZ];done)
      dsimp only[aK,ζ,nth,u2,u1]
      have rz:my i.x 10=!(decide (i.x<0)||decide (i.x≥10)):=by
       unfold my;simp only[Z5,←decide_not,Zn,ZD,ge_iff_le]
      refine qc (fun h5=>?_) (fun h5=>?_)<;>try simp only[cs] at h5
      ·refine qq<|qj fun K hK=>qm ?_;refine qe hK ?_;rw[rW,rz,h5];simp only[Ω,Γ];refine ag.ret ⟨rx,_,rfl,rl aN hH (rfl)⟩
      ·refine ag.skip ?_;exact⟨i.x,0,.nul,true,[],_,rfl,hH,Ax,by rw[rW,rz,h5,PJ];cases(i.y==0)<;>simp⟩
     ·rw[if_neg h4] at rW;refine qq<|qq<|qj fun K hK=>qg ?_;refine qm ?_;refine qe hK ?_
      by_cases h5:i.op=5
      ·rw[if_pos (.inl h5)] at rW;refine qD rfl (by simp[h5]) ?_;refine ag.skip<|qD rfl (by simp[h5]) ?_;refine ag.skip ?_;exact⟨0,0,.nul,true,[],_,rfl,hH,Ax,by rw[rW,PJ];cases(i.y==0)<;>cases(i.x==0)<;>simp⟩
      ·refine qE rfl (by simp[h5]) ?_;refine qj fun K hK=>qg ?_;refine qm ?_;refine qe hK<|zI (fun h6=>?_) fun h6=>?_
       ·rw[if_pos (.inr h6)] at rW;refine ag.skip ?_;exact⟨0,0,.nul,true,[],_,rfl,hH,Ax,by rw[rW,PJ];cases(i.y==0)<;>cases(i.x==0)<;>simp⟩
       ·rw[if_neg (by omega)] at rW;refine qq<|qj fun K hK=>qg ?_;refine qm ?_;refine qe hK<|zI (fun h7=>?_) fun h7=>?_
        ·rw[if_pos h7] at rW;refine qq<|qj fun K hK=>qm ?_;refine qe hK<|qq<|qj fun K hK=>qp (o:=1) ?_;refine ql hH aO ?_;refine qp (o:=1) ?_;refine qT hH aB fun st hH=>?_;dsimp only[u2,u1,u3,u4,setMany,u5,u6,τ,ι,Pg.cs,aJ,az] at hH;refine qe hK<|qq<|ag.dM 104 (.bool (decide (i.x<0)||decide (i.x≥p.ak.length))) [] ?_ (fun ff tmp dj=>?_)
         ·refine qp (o:=1) ?_;refine ql hH aO ?_;refine qg ?_;refine qm ?_;refine ρ 97 rfl (fun bZ=>?_) (fun bZ=>?_)
          ·refine qs ?_ (hg:=wn bZ);refine qs ?_ (hg:=wn bZ);refine qs ?_ (hg:=wn bZ);refine qs ?_ (hg:=wn bZ);refine qs ?_ (hg:=wn bZ);refine qs ?_ (hg:=wn bZ);refine qt bZ ?_;refine δ (aR ?_ ?_)
           ·dsimp only[aK,ζ,nth,u2,u1]
            all_goals(first|rfl|simp)
           ·refine zF ?_
            all_goals(simp[bZ];done)
          ·refine qp (o:=1) ?_ (hg:=wi bZ);refine ql hH aO ?_ (hg:=wi bZ);refine qp (o:=1) ?_ (hg:=wi bZ);refine ql hH a_ ?_ (hg:=wi bZ);refine qn ?_ (hg:=wi bZ);simp only[ε];refine qg ?_ (hg:=wi bZ);refine qu bZ ?_;refine δ (aR ?_ ?_)
           ·dsimp only[aK,ζ,nth,u2,u1]
            all_goals(first|rfl|simp)
           ·refine zF ?_
            all_goals(simp[bZ];done)
         dsimp only[aK,ζ,nth,u2,u1]
         have rz:my i.x p.ak.length=!(decide (i.x<0)||decide (i.x≥p.ak.length)):=by
          unfold my;simp only[Z5,←decide_not,Zn,ZD,ge_iff_le]
         refine qc (fun h8=>?_) (fun h8=>?_)<;>try simp only[cs] at h8
         ·refine qq<|qj fun K hK=>qm ?_;refine qe hK ?_;rw[rW,rz,h8];simp only[Ω,Γ];refine ag.ret ⟨rx,_,rfl,rl aN hH (rfl)⟩
         ·refine ag.skip ?_;exact⟨i.x,0,.nul,false,[],_,rfl,hH,Ax,by rw[rW,rz,h8,PJ];cases(i.y==0)<;>simp⟩
        ·rw[if_neg h7] at rW;refine qq<|qj fun K hK=>qm ?_;refine qe hK ?_;rw[rW];simp only[Γ];refine ag.ret ⟨rx,_,rfl,rl aN hH (rfl)⟩
 ·rintro fr st ⟨bx,bz,brd,fl,YW,tmp,hfr,hH,hbr,hsh⟩;rw[hfr];clear hfr;generalize iB fr=ee;clear fr;have adI:=hbr.arg s0.bs.length S;refine qq<|ag.oM 4 (.bool ((((i.x==bx) &&(i.y==bz)) &&((i.rs.length:Int)==YW.length)) &&(!fl||decide (((pc+1:Nat):Int)<p.code.length)))) [] ?_ (fun ff tmp=>?_)
  ·refine qp (o:=1) ?_;refine ql hH aO ?_;refine qp (o:=1) ?_;refine ql hH aB ?_;refine qg ?_;refine qm ?_;refine ρ 110 rfl (fun cK=>?_) (fun cK=>?_)
   ·refine qp (o:=2) ?_ (hg:=wi cK);refine ql hH aO ?_ (hg:=wi cK);refine qp (o:=2) ?_ (hg:=wi cK);refine ql hH aB ?_ (hg:=wi cK);refine qg ?_ (hg:=wi cK);refine qt cK ?_;refine qm ?_;refine ρ 117 rfl (fun eV=>?_) (fun eV=>?_)
    ·refine qp (o:=3) ?_ (hg:=wi eV);refine ql hH aO ?_ (hg:=wi eV);refine qn ?_ (hg:=wi eV);simp only[ε];refine qp (o:=3) ?_ (hg:=wi eV);refine ql hH aB ?_ (hg:=wi eV);refine qn ?_ (hg:=wi eV);simp only[ε];refine qg ?_ (hg:=wi eV);refine qt eV ?_;refine qm ?_;refine ρ 126 rfl (fun kY=>?_) (fun kY=>?_)
     ·refine qm ?_ (hg:=wi kY);refine qg ?_ (hg:=wi kY);refine qm ?_ (hg:=wi kY);refine ρ 129 rfl (fun jk=>?_) (fun jk=>?_)
      ·refine qs ?_ (hg:=wn jk);refine qs ?_ (hg:=wn jk);refine qs ?_ (hg:=wn jk);refine qs ?_ (hg:=wn jk);refine Zt (af rfl rfl rfl kY) rfl jk (aa rfl _) ?_;refine qt kY ?_;refine qm ?_;refine δ (bu ?_);refine zG ?_
       all_goals(simp[cK,eV,kY,jk];done)
      ·refine qm ?_ (hg:=wi jk);refine qA ?_ (hg:=wi jk);refine qm ?_ (hg:=wi jk);refine qg ?_ (hg:=wi jk);refine YQ (af rfl rfl rfl kY) rfl jk (aa rfl _) ?_;refine qt kY ?_;refine qm ?_;refine δ (bu ?_);refine zG ?_
       all_goals(simp[cK,eV,kY,jk];done)
     ·refine qs ?_ (hg:=wn kY);refine qs ?_ (hg:=wn kY);refine qs ?_ (hg:=wn kY);refine qs ?_;refine qs ?_;refine qs ?_;refine qs ?_;refine qs ?_ (hg:=wn kY);refine qu kY ?_;refine qm ?_;refine δ (bu ?_);refine zG ?_
      all_goals(simp[cK,eV,kY];done)
    ·refine qs ?_ (hg:=wn eV);refine qs ?_ (hg:=wn eV);refine qs ?_ (hg:=wn eV);refine qs ?_ (hg:=wn eV);refine qs ?_ (hg:=wn eV);refine qs ?_ (hg:=wn eV);refine qs ?_ (hg:=wn eV);refine qu eV ?_;refine qm ?_;refine qs ?_;refine qs ?_;refine qs ?_;refine qs ?_;refine qs ?_;refine qs ?_;refine qs ?_;refine qs ?_;refine qg ?_;refine qm ?_;refine δ (bu ?_);refine zG ?_
     all_goals(simp[cK,eV];done)
   ·refine qs ?_ (hg:=wn cK);refine qs ?_ (hg:=wn cK);refine qs ?_ (hg:=wn cK);refine qs ?_ (hg:=wn cK);refine qs ?_ (hg:=wn cK);refine qu cK ?_;refine qm ?_;refine qs ?_;refine qs ?_;refine qs ?_;refine qs ?_;refine qs ?_;refine qs ?_;refine qs ?_;refine qg ?_;refine qm ?_;refine qs ?_;refine qs ?_;refine qs ?_;refine qs ?_;refine qs ?_;refine qs ?_;refine qs ?_;refine qs ?_;refine qg ?_;refine qm ?_;refine δ (bu ?_);refine zG ?_
    all_goals(simp[cK];done)
  dsimp only[aK,ζ,nth,u2,u1];rw[hsh];refine ag.ret ⟨rx,_,rfl,rl aN hH (rfl)⟩
def aY (fr:Go.V.Fr) (k:Nat):Go.V.D:=Go.V.nth .bI fr.loc k
def cQ (b:Bool):List D:=[.bool b]
theorem mb {l:List Bool} {q:Bool} (h:l[i]?=some q):(l.map cQ)[i]?=some (cQ q):=by rw[Δ,h];rfl
theorem oz (l:List Bool):∀e∈l.map cQ,∀d∈e,dh d=true:=by
 intro e he d hd;obtain⟨x,_,rfl⟩:=ψ.1 he;simp only[cQ,κ,η,or_false] at hd;subst hd;rfl
theorem ND (l:List Bool):∀e∈l.map cQ,e.length=1:=by
 intro e he;obtain⟨x,_,rfl⟩:=ψ.1 he;rfl
def rV (l:List Bool):D:=.sl ((l.map cQ).map (ml 1))
theorem qX (l:List Bool):dg (rV l) 1 (l.map cQ):=dg.frozen (ND l) (oz l)
theorem lO (l:List Int):∀e∈l.map az,∀d∈e,dh d=true:=by
 intro e he d hd;obtain⟨x,_,rfl⟩:=ψ.1 he;simp only[az,κ,η,or_false] at hd;subst hd;rfl
theorem O9 (l:List Int):∀e∈l.map az,e.length=1:=by
 intro e he;obtain⟨x,_,rfl⟩:=ψ.1 he;rfl
def HR (l:List Int):D:=.sl ((l.map az).map (ml 1))
theorem x9 (l:List Int):dg (HR l) 1 (l.map az):=dg.frozen (O9 l) (lO l)
def cH (pc:Nat) (i:aP):List Int:=
 if i.op=2 then[i.x,i.y] else if i.op=3 then[i.x] else if i.op=7 then[] else[((pc+1:Nat):Int)]
def lF (code:List aP):Prop:=∀pc i,code[pc]?=some i→∀v∈cH pc i,0≤v∧v<code.length
theorem CX {n ns:Nat} {i:aP} (h:dv n ns pc i=true):∀v∈cH pc i,0≤v∧v<n:=by
 intro v hv
 have fK:∀a b:Int,my a b=true→0≤a∧a<b:=fun a b h=>by
  unfold my at h;simp only[φ,decide_eq_true_eq] at h;exact⟨h.1,h.2⟩
 unfold dv at h;unfold cH at hv
 split at h
 ·rename_i h1;rw[if_neg (by omega),if_neg (by omega),if_neg (by omega)] at hv;simp only[φ,decide_eq_true_eq] at h;simp only[κ,η,or_false] at hv;subst hv;omega
 ·simp only[φ] at h;obtain⟨_,h⟩:=h
  split at h
  ·rename_i h2;rw[if_pos h2] at hv;simp only[φ] at h;simp only[κ,η,or_false] at hv
   rcases hv with rfl|rfl
   ·exact fK _ _ h.1
   ·exact fK _ _ h.2
  ·rename_i h2;rw[if_neg h2] at hv;simp only[φ] at h;obtain⟨_,h⟩:=h
   split at h
   ·rename_i h3;rw[if_pos h3] at hv;simp only[κ,η,or_false] at hv;subst hv;exact fK _ _ h
   ·rename_i h3;rw[if_neg h3] at hv
    split at h
    ·rename_i h4;rw[if_neg (by omega)] at hv;simp only[φ,decide_eq_true_eq] at h;simp only[κ,η,or_false] at hv;subst hv;omega
    ·split at h
     ·rename_i h5;rw[if_neg (by omega)] at hv;simp only[φ,decide_eq_true_eq] at h;simp only[κ,η,or_false] at hv;subst hv;omega
     ·split at h
      ·rename_i h7;rw[if_pos h7] at hv;cases hv
      ·cases h
def CB (code:List aP):Nat→List Bool→List Int→List Bool
 |0,seen,_=>seen
 |_+1,seen,[]=>seen
 |f+1,seen,v::il=>match seen[v.toNat]? with
  |some false=>match code[v.toNat]? with
   |some i=>CB code f (seen.set v.toNat true) ((cH v.toNat i).reverse++il)
   |none=>seen
  |_=>CB code f seen il
def bR (code:List aP) (start:Int):List Bool:=CB code (3*code.length+1) (VT code.length false) [start]
theorem Ci (code:List aP):∀(f:Nat) (seen:List Bool) (il:List Int),(CB code f seen il).length=seen.length
 |0,_,_=>rfl
 |_+1,_,[]=>rfl
 |f+1,seen,v::il=>by
  unfold CB
  split
  ·split
   ·rw[Ci code f];simp
   ·rfl
  ·exact Ci code f seen il
theorem nU (code:List aP) (s:Int):(bR code s).length=code.length:=by
 unfold bR;rw[Ci];simp
theorem count_set {seen:List Bool} (h:seen[k]?=some false):(seen.set k true).count false+1=seen.count false:=by
 induction seen generalizing k with
 |nil=>simp at h
 |cons b l ih=>
  cases k with
  |zero=>simp at h;subst h;simp
  |succ k=>
   have:=ih (k:=k) (by simpa using h);simp only[List.set_cons_succ,List.count_cons];omega
theorem xD (pc:Nat) (i:aP):(cH pc i).length≤2:=by
 unfold cH;split
 ·simp
 ·split
  ·simp
  ·split<;>simp
theorem CP (v:Int) (r:List Int):((v::r).reverse.map az)[r.length]?=some (az v):=by
 rw[Δ,v8,List.getElem?_append_right (by simp)];simp
theorem Hg (v:Int) (r:List Int):(((v::r).reverse.map az).take r.length).drop 0=r.reverse.map az:=by
 rw[v8,Ξ,VM,List.take_left' (by simp)]
theorem Ig {cd:D} {code:List aP} {start:Int} (nM:dg cd 4 (code.map aJ)) (hlen:code.length≤1048576) (hcl:lF code) (jO:0≤start∧start<code.length):Ev pv 145 [cd,.int .i64 start] s0 (rV (bR code start)) s0:=by
 refine Ev.gP rfl XF rfl rfl rfl ?_;refine zE ?_;obtain⟨aN,hF,hH⟩:=ri s0;generalize ae .ro s0=S at*;have hc:=nM.arg s0.bs.length S;refine zQ 7 ?_;refine qn ?_;simp only[ε];refine ab.Az (s:=1) hH rfl rfl rfl rfl rfl rfl rfl rfl (γ rfl) (by omega) (fun _=>by dsimp only[Ψ,u1,u2]<;>rfl) (fun k11 st Jv hH=>?_);refine zQ 5 ?_;refine qh (s:=1) (vs:=[_]) hH fun k13 st Ms hH=>?_;refine zQ 4 ?_;refine ag.loop (fun mm fr st=>∃(y z:D) (seen:List Bool) (il:List Int),fr.clean=⟨41,[cd,aY fr 1,aY fr 2,aY fr 3,.nul,y,z,aY fr 7,aY fr 8,aY fr 9,aY fr 10,aY fr 11,aY fr 12,aY fr 13,aY fr 14,aY fr 15,aY fr 16,aY fr 17,aY fr 18,aY fr 19,aY fr 20,aY fr 21,aY fr 22,aY fr 23,aY fr 24,aY fr 25,aY fr 26,aY fr 27,aY fr 28,aY fr 29,aY fr 30,aY fr 31,aY fr 32,aY fr 33,aY fr 34,aY fr 35,aY fr 36,aY fr 37,aY fr 38,aY fr 39,aY fr 40],[]⟩∧Has s0.bs.length S st [.aF z 1 (il.reverse.map az),.aF y 1 (seen.map cQ)]∧(CB code mm seen il=bR code start)∧(3*seen.count false+il.length≤mm)∧(seen.length=code.length)∧(∀v∈il,0≤v∧v<(code.length:Int))∧(mm≤3*code.length+1)) (3*code.length+1) ?_ ?_
 ·exact⟨_,_,VT code.length false,[start],rfl,(by rw[List.map_replicate];exact hH),rfl,by simp,by simp,by simpa using jO,by omega⟩
 rintro mm fr st ⟨y,z,seen,il,hfr,hH,hd,hm,kX,hsk,E9⟩;rw[hfr];clear hfr;generalize aY fr=ee;clear fr
 rcases il with _|⟨v,il⟩
 ·refine zQ 4 ?_;refine qn ?_ (hR:=hH.rows aB);simp only[ε,ν,μ];refine zQ 2 ?_;refine ag.cond (v:=false) (by dsimp only[IT,Cr,nth,V.look];rfl) (fun h=>by cases h) (fun _=>?_);refine zQ 6 ?_;have jl:seen=bR code start:=by rw[←hd];cases mm<;>rfl
  rw[←jl];refine ag.ret ⟨rx,_,rfl,rl aN hH ?_⟩;exact hH.freeze aO (oz _) (n:=15) (by decide)
 ·have hv:=hsk v (ω ..);obtain⟨k,rfl⟩:=Int.eq_ofNat_of_zero_le hv.1;have hk:k<code.length:=by omega
  simp only[θ] at hm
  obtain⟨mm,rfl⟩:∃m',mm=m'+1:=⟨mm-1,by omega⟩
  obtain⟨b,hb⟩:∃b,seen[k]?=some b:=⟨seen[k]'(by omega),ξ _⟩
  obtain⟨i,hi⟩:∃i,code[k]?=some i:=⟨code[k]'(by omega),ξ _⟩
  have gw:=CP (k:Int) il;have nB:=mb hb;have Gc:=gM hi;refine zQ 4 ?_;refine qn ?_ (hR:=hH.rows aB);simp only[ε,θ,μ];refine zQ 2 ?_;refine qD rfl (by simp) ?_;refine zQ 6 ?_;refine qn ?_ (hR:=hH.rows aB);simp only[ε,θ,μ];refine OF (z:=((il.length:Nat):Int)) rfl (ev rfl) (ev rfl) (by(try simp only[μ,θ,ν,χ,ε,Θ]);rw[wrap_i64 (by omega) (by omega)]<;>omega) (by dsimp only[Ψ,u1,u2]<;>rfl) ?_;refine qi hH aB fun Uj Mi=>?_;refine zQ 7 ?_;refine qn ?_ (hR:=hH.rows aB);simp only[ε,θ,μ];refine OF (z:=((il.length:Nat):Int)) rfl (ev rfl) (ev rfl) (by(try simp only[μ,θ,ν,χ,ε,Θ]);rw[wrap_i64 (by omega) (by omega)]<;>omega) (by dsimp only[Ψ,u1,u2]<;>rfl) ?_;refine ab.o8 hH rfl (ev rfl) (by exact aB) rfl rfl (et (by simp only[ε,μ,θ,χ,ν,ki,υ,Θ,YH];omega)) ⟨(by omega),(by simp only[ε,μ,θ,χ,ν,ki,υ,Θ,YH];omega)⟩ (fun _=>by dsimp only[Ψ,u1,u2]<;>rfl) (fun y27 hH=>?_);refine zQ 2 ?_;dsimp only[u2] at hH;rw[Hg] at hH;have jO:∀w∈il,0≤w∧w<(code.length:Int):=fun w hw=>hsk w (List.mem_cons_of_mem _ hw);refine zQ 5 ?_;refine qi hH aO fun p30 Vk=>?_;refine zQ 2 ?_
  cases b with
  |true=>
   refine zQ 2 ?_;simp only[CB,Wh,hb] at hd;exact⟨mm,by omega,⟨_,_,seen,il,rfl,hH,hd,by omega,kX,jO,by omega⟩⟩
  |false=>
   have JB:=count_set hb;have iM:(seen.set k true).map cQ=(seen.map cQ).set k [.bool true]:=by rw[List.map_set];rfl
   simp only[CB,Wh,hb,hi] at hd;have hnx:=hcl k i hi;have Ax:=xD k i
   have RU:∀w∈(cH k i).reverse++il,0≤w∧w<(code.length:Int):=fun w hw=>by
    rcases List.mem_append.1 hw with hw|hw
    ·exact hnx w (List.mem_reverse.1 hw)
    ·exact jO w hw
   have R6:(((cH k i).reverse++il).reverse).map az=il.reverse.map az++(cH k i).map az:=by
    rw[List.reverse_append,List.reverse_reverse,Ξ]
   refine zQ 6 ?_;refine qi hH aO fun p34 Vj=>?_;refine ab.jb hH rfl (ev rfl) (ev rfl) (by assumption) rfl rfl (by exact aO) (by assumption) (γ rfl) (by exact .inl hF) (fun st hH=>?_);dsimp only[u2,u1,u3,u4,setMany,u5,u6,τ,ι,aJ,az,cQ] at hH;refine zQ 5 ?_;refine qr fun Yp Pp=>?_;refine LL rfl (ev rfl) (by assumption) rfl (by dsimp only[Ψ,u1,u2]<;>rfl) ?_;refine qa hH fun k8 st N' hH=>?_;refine qS hH aB fun st hH=>?_;dsimp only[u2,u1,u3,u4,setMany,u5,u6,τ,ι,aJ,az,cQ] at hH;refine zQ 6 ?_;refine ag.merge (fun fr st=>∃(z:D) (tmp:List (Nat×D)),fr=⟨41,[cd,aY fr 1,aY fr 2,aY fr 3,.nul,y,z,aY fr 7,aY fr 8,aY fr 9,aY fr 10,aY fr 11,aY fr 12,aY fr 13,aY fr 14,aY fr 15,aY fr 16,aY fr 17,aY fr 18,aY fr 19,aY fr 20,aY fr 21,aY fr 22,aY fr 23,aY fr 24,aY fr 25,aY fr 26,aY fr 27,aY fr 28,aY fr 29,aY fr 30,aY fr 31,aY fr 32,aY fr 33,aY fr 34,aY fr 35,aY fr 36,aY fr 37,aY fr 38,aY fr 39,aY fr 40],tmp⟩∧Has s0.bs.length S st [.aF z 1 (il.reverse.map az++(cH k i).map az),.aF y 1 ((seen.map cQ).set k [.bool true])]) ?_ ?_
   ·refine zQ 6 ?_;refine zI (fun h2=>?_) fun h2=>?_
    ·have:cH k i=[i.x,i.y]:=by unfold cH;rw[if_pos h2]
     rw[this];refine zQ 6 ?_;refine qh (s:=1) (vs:=[_,_]) hH fun k53 st aaz hH=>?_;refine Bv (s:=1) hH rfl (ev rfl) (ev rfl) (by exact a_) (by exact hH.rows (by exact aB)) rfl rfl rfl rfl rfl rfl rfl ⟨(γ rfl),(γ rfl)⟩ (fun _=>(aa rfl _)) (by simp only[θ,ν,ε,μ]<;>omega) (by exact .inl hF) (fun Yj st hH=>?_);dsimp only[u2,u1,u3,u4,setMany,u5,u6,τ,ι,aJ,az,cQ] at hH;refine zQ 2 ?_;exact⟨_,_,rfl,(by have:=hH.drop 2;exact this)⟩
    ·refine zQ 5 ?_;refine zI (fun h3=>?_) fun h3=>?_
     ·have:cH k i=[i.x]:=by unfold cH;rw[if_neg h2,if_pos h3]
      rw[this];refine zQ 4 ?_;refine qh (s:=1) (vs:=[_]) hH fun k60 st adq hH=>?_;refine Bv (s:=1) hH rfl (ev rfl) (ev rfl) (by exact a_) (by exact hH.rows (by exact aB)) rfl rfl rfl rfl rfl rfl rfl ⟨(γ rfl),(γ rfl)⟩ (fun _=>(aa rfl _)) (by simp only[θ,ν,ε,μ]<;>omega) (by exact .inl hF) (fun x61 st hH=>?_);dsimp only[u2,u1,u3,u4,setMany,u5,u6,τ,ι,aJ,az,cQ] at hH;refine zQ 2 ?_;exact⟨_,_,rfl,(by have:=hH.drop 2;exact this)⟩
     ·refine zQ 5 ?_;refine zI (fun h7=>?_) fun h7=>?_
      ·have:cH k i=[]:=by unfold cH;rw[if_neg h2,if_neg h3,if_pos h7]
       rw[this,List.map_nil,Ut];refine zQ 1 ?_;exact⟨_,_,rfl,(by have:=hH.drop 1;exact this)⟩
      ·have:cH k i=[((k+1:Nat):Int)]:=by unfold cH;rw[if_neg h2,if_neg h3,if_neg h7]
       rw[this];refine zQ 4 ?_;refine qh (s:=1) (vs:=[_]) hH fun k44 st aaB hH=>?_;refine Bv (s:=1) hH rfl (ev rfl) (ev rfl) (by exact a_) (by exact hH.rows (by exact aB)) rfl rfl rfl rfl rfl rfl rfl ⟨(γ rfl),(γ rfl)⟩ (fun _=>(aa rfl _)) (by simp only[θ,ν,ε,μ]<;>omega) (by exact .inl hF) (fun Y0 st hH=>?_);dsimp only[u2,u1,u3,u4,setMany,u5,u6,τ,ι,aJ,az,cQ] at hH;refine zQ 2 ?_;exact⟨_,_,rfl,(by have:=hH.drop 2;exact this)⟩
   ·rintro fr st ⟨z,tmp,hfr,hH⟩;rw[hfr];clear hfr;generalize aY fr=ee;clear fr;exact⟨mm,by omega,⟨y,z,seen.set k true,(cH k i).reverse++il,rfl,(by rw[R6,iM];exact hH),hd,by simp only[χ,μ];omega,by simp only[Θ];exact kX,RU,by omega⟩⟩
end Go.Proofs.YtecjacicdpejaaaGreat
