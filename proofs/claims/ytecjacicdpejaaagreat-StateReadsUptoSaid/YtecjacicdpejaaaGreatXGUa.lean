/-
 The parser of patterns: what stands at a rune; errors.
-/
import Derived.Test.YtecjacicdpejaaaGreatXGHr
import Derived.Test.YtecjacicdpejaaaGreatXPx
import Derived.Test.YtecjacicdpejaaaGreatXM2
import Derived.KernelRfl
import Derived.Test.YtecjacicdpejaaaGreatXGCa
import Derived.Test.YtecjacicdpejaaaGreatXDgp
set_option maxRecDepth 100000
set_option maxHeartbeats 4000000
set_option linter.unusedSimpArgs false
set_option linter.unusedVariables false
namespace Go.Proofs.YtecjacicdpejaaaGreat
open Go.V Go
def bS (c:Nat):Int×Nat×Nat:=
 if c<128 then(0,0,0) else if c<194 then(-1,0,0) else if c<224 then(1,128,191) else if c=224 then(2,160,191) else if c=237 then(2,128,159)
 else if c<240 then(2,128,191) else if c=240 then(3,144,191) else if c<244 then(3,128,191) else if c=244 then(3,128,143) else(-1,0,0)
theorem Hj (c:Nat) (st:St):Ev pv 198 [.int .u8 c] st (.tup [.int .i64 (bS c).1,.int .u8 (bS c).2.1,.int .u8 (bS c).2.2]) st:=by
 refine Ev.ia rfl NR rfl rfl rfl ?_;refine zE ?_;refine zU ?_;refine zX ?_;refine aa.nil ?_;refine zF ?_;refine qy ?_;refine ak.seq (ak.block ?_);refine zU ?_;refine zX ?_;refine aa.nil ?_;refine zF ?_;refine qy ?_;(repeat refine qq ?_);refine qc (fun h1=>?_) (fun h1=>?_)<;>try simp only[cs] at h1
 ·refine zU ?_;refine zX ?_;refine aa.nil ?_;refine zF ?_;refine qy ?_;refine ak.ret ⟨rx,_,rfl,aH (by simp) (by simp[ae]) ?_⟩;rw[show bS c=(0,0,0) by unfold bS;rw[if_pos (by omega)]];rfl
 refine zU ?_;refine zX ?_;refine aa.nil ?_;refine zF ?_;refine qy ?_;(repeat refine qq ?_);refine qc (fun h2=>?_) (fun h2=>?_)<;>try simp only[cs] at h2
 ·refine zU ?_;refine zX ?_;refine aa.nil ?_;refine zF ?_;refine qy ?_;refine ak.ret ⟨rx,_,rfl,aH (by simp) (by simp[ae]) ?_⟩;rw[show bS c=(-1,0,0) by unfold bS;rw[if_neg (by omega),if_pos (by omega)]];rfl
 refine zU ?_;refine zX ?_;refine aa.nil ?_;refine zF ?_;refine qy ?_;(repeat refine qq ?_);refine qc (fun h3=>?_) (fun h3=>?_)<;>try simp only[cs] at h3
 ·refine zU ?_;refine zX ?_;refine aa.nil ?_;refine zF ?_;refine qy ?_;refine ak.ret ⟨rx,_,rfl,aH (by simp) (by simp[ae]) ?_⟩;rw[show bS c=(1,128,191) by unfold bS;rw[if_neg (by omega),if_neg (by omega),if_pos (by omega)]];rfl
 refine zU ?_;refine zX ?_;refine aa.nil ?_;refine zF ?_;refine qy ?_;(repeat refine qq ?_);refine qc (fun h4=>?_) (fun h4=>?_)<;>try simp only[cs] at h4
 ·refine zU ?_;refine zX ?_;refine aa.nil ?_;refine zF ?_;refine qy ?_;refine ak.ret ⟨rx,_,rfl,aH (by simp) (by simp[ae]) ?_⟩;rw[show bS c=(2,160,191) by unfold bS;rw[if_neg (by omega),if_neg (by omega),if_neg (by omega),if_pos (by omega)]];rfl
 refine zU ?_;refine zX ?_;refine aa.nil ?_;refine zF ?_;refine qy ?_;(repeat refine qq ?_);refine qc (fun h5=>?_) (fun h5=>?_)<;>try simp only[cs] at h5
 ·refine zU ?_;refine zX ?_;refine aa.nil ?_;refine zF ?_;refine qy ?_;refine ak.ret ⟨rx,_,rfl,aH (by simp) (by simp[ae]) ?_⟩;rw[show bS c=(2,128,159) by unfold bS;rw[if_neg (by omega),if_neg (by omega),if_neg (by omega),if_neg (by omega),if_pos (by omega)]];rfl
 refine zU ?_;refine zX ?_;refine aa.nil ?_;refine zF ?_;refine qy ?_;(repeat refine qq ?_);refine qc (fun h6=>?_) (fun h6=>?_)<;>try simp only[cs] at h6
 ·refine zU ?_;refine zX ?_;refine aa.nil ?_;refine zF ?_;refine qy ?_;refine ak.ret ⟨rx,_,rfl,aH (by simp) (by simp[ae]) ?_⟩;rw[show bS c=(2,128,191) by unfold bS;rw[if_neg (by omega),if_neg (by omega),if_neg (by omega),if_neg (by omega),if_neg (by omega),if_pos (by omega)]];rfl
 refine zU ?_;refine zX ?_;refine aa.nil ?_;refine zF ?_;refine qy ?_;(repeat refine qq ?_);refine qc (fun h7=>?_) (fun h7=>?_)<;>try simp only[cs] at h7
 ·refine zU ?_;refine zX ?_;refine aa.nil ?_;refine zF ?_;refine qy ?_;refine ak.ret ⟨rx,_,rfl,aH (by simp) (by simp[ae]) ?_⟩;rw[show bS c=(3,144,191) by unfold bS;rw[if_neg (by omega),if_neg (by omega),if_neg (by omega),if_neg (by omega),if_neg (by omega),if_neg (by omega),if_pos (by omega)]];rfl
 refine zU ?_;refine zX ?_;refine aa.nil ?_;refine zF ?_;refine qy ?_;(repeat refine qq ?_);refine qc (fun h8=>?_) (fun h8=>?_)<;>try simp only[cs] at h8
 ·refine zU ?_;refine zX ?_;refine aa.nil ?_;refine zF ?_;refine qy ?_;refine ak.ret ⟨rx,_,rfl,aH (by simp) (by simp[ae]) ?_⟩;rw[show bS c=(3,128,191) by unfold bS;rw[if_neg (by omega),if_neg (by omega),if_neg (by omega),if_neg (by omega),if_neg (by omega),if_neg (by omega),if_neg (by omega),if_pos (by omega)]];rfl
 refine zU ?_;refine zX ?_;refine aa.nil ?_;refine zF ?_;refine qy ?_;(repeat refine qq ?_);refine qc (fun h9=>?_) (fun h9=>?_)<;>try simp only[cs] at h9
 ·refine zU ?_;refine zX ?_;refine aa.nil ?_;refine zF ?_;refine qy ?_;refine ak.ret ⟨rx,_,rfl,aH (by simp) (by simp[ae]) ?_⟩;rw[show bS c=(3,128,143) by unfold bS;rw[if_neg (by omega),if_neg (by omega),if_neg (by omega),if_neg (by omega),if_neg (by omega),if_neg (by omega),if_neg (by omega),if_neg (by omega),if_pos (by omega)]];rfl
 refine ak.skip<|zU ?_;refine zX ?_;refine aa.nil ?_;refine zF ?_;refine qy ?_;refine ak.ret ⟨rx,_,rfl,aH (by simp) (by simp[ae]) ?_⟩;rw[show bS c=(-1,0,0) by unfold bS;rw[if_neg (by omega),if_neg (by omega),if_neg (by omega),if_neg (by omega),if_neg (by omega),if_neg (by omega),if_neg (by omega),if_neg (by omega),if_neg (by omega)]];rfl
def gF:(left n r lo hi:Nat)→List UInt8→Nat×Nat×Bool
 |0,n,r,_,_,_=>(r,n,false)
 |left+1,n,r,lo,hi,[]=>(0,0,true)
 |left+1,n,r,lo,hi,x::xs=>if x.toNat<lo∨hi<x.toNat then(0,0,false) else gF left n (r*64+x.toNat %64) 128 191 xs
def dt:List UInt8→Nat×Nat×Bool
 |[]=>(0,0,false)
 |c::xs=>if(bS c.toNat).1<0 then(0,0,false)
   else gF (bS c.toNat).1.toNat ((bS c.toNat).1.toNat+1) (if(bS c.toNat).1>0 then c.toNat %(64/2^(bS c.toNat).1.toNat) else c.toNat) (bS c.toNat).2.1 (bS c.toNat).2.2 xs
theorem xZ (c:Nat):(bS c).1=-1∨(bS c).1=0∨(bS c).1=1∨(bS c).1=2∨(bS c).1=3:=by
 unfold bS
 repeat' split
 all_goals simp
theorem Cb {w a j:Nat} (ha:a<2^w) (hj:2^j-1<2^w):(BitVec.ofInt w (a:Int) &&&BitVec.ofInt w ((2^j-1:Nat):Int)).toNat=a %2^j:=by
 rw[bv_and ha hj,Nat.and_two_pow_sub_one_eq_mod]
theorem ay (b:List UInt8):(byteCells b).length=b.length:=by simp[byteCells]
theorem jJ {b:List UInt8} {i:Nat} {y:UInt8} (h:b[i]?=some y):(byteCells b)[i]?=some [.int .u8 (y.toNat:Nat)]:=by
 simp[byteCells,h]
theorem A3 (y:UInt8):y.toNat<256:=y.toNat_lt
theorem Pw {r y:Nat} (hr:r<33554432) (hy:y<256):a7 .i32 ((BitVec.ofInt 32 (a7 .i32 ((r:Int)*2^(min (Int.toNat 6) 32)))|||BitVec.ofInt 32 (a7 .i32 (a7 .u8 ((BitVec.ofInt 8 (y:Int) &&&BitVec.ofInt 8 63).toNat:Nat)))).toNat:Nat)=((r*64+y %64:Nat):Int):=by
 have h1:(BitVec.ofInt 8 (y:Int) &&&BitVec.ofInt 8 63).toNat=y %64:=Cb (w:=8) (j:=6) hy (by decide);rw[h1]
 have h2:((r:Int)*2^(min (Int.toNat 6) 32))=((r*64:Nat):Int):=by
  have:(2:Int)^(min (Int.toNat 6) 32)=64:=by decide
  rw[this];simp
 rw[h2,bA (k:=.i32) (m:=r*64) (by simp only[fQ];omega),bA (k:=.u8) (m:=y %64) (by simp only[fQ];omega),bA (k:=.i32) (m:=y %64) (by simp only[fQ];omega)];rw[OK (by omega) (by omega)]
 have h3:(r*64)|||(y %64)=r*64+y %64:=by
  have:=Nat.two_pow_add_eq_or_of_lt (i:=6) (b:=y %64) (by omega) r;have e:(2:Nat)^6=64:=by decide
  rw[e] at this;rw[Nat.mul_comm r 64,this]
 rw[h3,bA (k:=.i32) (m:=r*64+y %64) (by simp only[fQ];omega)]
theorem LH {c j:Nat} (hc:c<256) (hj:j≤8) {m:Int} (hm:m=((2^j-1:Nat):Int)):a7 .i32 ((BitVec.ofInt 32 (a7 .i32 (c:Nat)) &&&BitVec.ofInt 32 m).toNat:Nat)=((c %2^j:Nat):Int):=by
 have h1:2^j≤2^8:=Nat.pow_le_pow_right (by omega) hj;rw[hm,bA (k:=.i32) (m:=c) (by simp only[fQ];omega),Cb (w:=32) (by omega) (by omega)];have:c %2^j≤c:=Nat.mod_le _ _;rw[bA (k:=.i32) (by simp only[fQ];omega)]
theorem mask {c j:Nat} (hc:c<256) (hj:j≤8) {m:Int} (hm:m=((2^j-1:Nat):Int)):a7 .i32 ((BitVec.ofInt IntKind.i32.bits (a7 .i32 (c:Nat)) &&&BitVec.ofInt IntKind.i32.bits m).toNat:Nat)=((c %2^j:Nat):Int):=LH hc hj hm
theorem Ua {r y:Nat} (hr:r<33554432) (hy:y<256):a7 .i32 ((BitVec.ofInt IntKind.i32.bits (a7 .i32 ((r:Int)*2^(min (Int.toNat 6) IntKind.i32.bits)))|||BitVec.ofInt IntKind.i32.bits (a7 .i32 (a7 .u8 ((BitVec.ofInt IntKind.u8.bits (y:Int) &&&BitVec.ofInt IntKind.u8.bits 63).toNat:Nat)))).toNat:Nat)=((r*64+y %64:Nat):Int):=Pw hr hy
theorem sR {st:St} {x:D} {b:List UInt8} (hb:Bytes st x b):Ev pv 148 [x] st (.tup [.int .i32 ((dt b).1:Nat),.int .i64 ((dt b).2.1:Nat),.bool (dt b).2.2]) st:=by
 refine Ev.ia rfl Oc rfl rfl rfl<|zE ?_;have dW:=hb.enter .ro;refine qy ?_;(repeat refine qq ?_);(generalize hK:eD _ _ _ _=K);refine ak.jg ?_;(repeat(refine xL ?_));refine aa.nil ?_;refine zF ?_;subst hK;refine qy ?_;(repeat refine qq ?_);(generalize hK:eD _ _ _ _=K);refine ak.jg ?_
 (refine xT ?_)
 refine aa.len rfl rfl rfl dW rfl ?_;(repeat(refine xT ?_));refine aa.nil ?_;refine zF ?_;subst hK;refine qy ?_;(repeat refine qq ?_);refine qc (fun h1=>?_) (fun h1=>?_)<;>try simp only[cs] at h1
 ·(refine qy ?_);(repeat refine qq ?_);(generalize hK:eD _ _ _ _=K);refine ak.jg ?_;(repeat(refine xL ?_));refine aa.nil ?_;refine zF ?_;subst hK;refine qy ?_;refine ak.ret ⟨rx,_,rfl,aH (by simp) (by simp[ae]) ?_⟩
  obtain rfl:b=[]:=by cases b with|nil=>rfl|cons c b=>simp[byteCells] at h1;omega
  rfl
 refine ak.skip ?_
 obtain⟨c,xs,rfl⟩:∃c xs,b=c::xs:=by cases b with|nil=>simp[byteCells] at h1|cons c b=>exact⟨c,b,rfl⟩
 obtain⟨k,lo,hi,hm⟩:∃k lo hi,bS c.toNat=(k,lo,hi):=⟨_,_,_,rfl⟩
 have QH:=Hj c.toNat (ae .ro st);rw[hm] at QH;have hk:=xZ c.toNat;rw[hm] at hk;have hc:=A3 c;refine qy ?_;(repeat refine qq ?_);(generalize hK:eD _ _ _ _=K);refine ak.jg ?_
 (refine xT ?_)
 refine aa.dz rfl rfl rfl (fun _=>rfl) rfl rfl dW rfl rfl (by omega) rfl rfl (fun p=>?_);refine aa.oa rfl rfl rfl QH ?_;(repeat(first|refine xT ?_|refine xL ?_));refine aa.nil ?_;refine zF ?_;subst hK;refine qy ?_;(repeat refine qq ?_);(generalize hK:eD _ _ _ _=K);refine ak.jg ?_;(repeat(refine xT ?_));refine aa.nil ?_;refine zF ?_;subst hK;refine qy ?_;(repeat refine qq ?_);refine qc (fun h2=>?_) (fun h2=>?_)<;>try simp only[cs] at h2
 ·(refine qy ?_);(repeat refine qq ?_);(generalize hK:eD _ _ _ _=K);refine ak.jg ?_;(repeat(refine xL ?_));refine aa.nil ?_;refine zF ?_;subst hK;refine qy ?_;refine ak.ret ⟨rx,_,rfl,aH (by simp) (by simp[ae]) ?_⟩;simp only[dt,hm];rw[if_pos h2];rfl
 refine ak.skip ?_;refine qy ?_;(repeat refine qq ?_);(generalize hK:eD _ _ _ _=K);refine ak.jg ?_
 (refine xT ?_)
 refine aa.dz rfl rfl rfl (fun _=>rfl) rfl rfl dW rfl rfl (by omega) rfl rfl (fun p=>?_);(repeat(first|refine xT ?_|refine xL ?_));refine aa.nil ?_;refine zF ?_;subst hK;refine qy ?_;(repeat refine qq ?_);(generalize hK:eD _ _ _ _=K);refine ak.jg ?_;(repeat(refine xT ?_));refine aa.nil ?_;refine zF ?_;subst hK;refine qy ?_;generalize hK:eD _ _ _ _=K
 have H:∀(r kn:Nat) (m:List (Nat×D)),k=(kn:Int)→r=(if k>0 then c.toNat %(64/2^k.toNat) else c.toNat)→(r+1)*64^kn≤2097152→K .next ⟨9,[x,.tup [],.int .i32 r,.int .i64 0,.bool false,.int .i64 k,.int .u8 lo,.int .u8 hi,.tup []],m⟩ (ae .ro st):=by
  intro r kn m hkn hr mA
  have hR:dt (c::xs)=gF kn (kn+1) r lo hi xs:=by
   simp only[dt,hm];rw[if_neg h2,hr,hkn];rfl
  subst hK;rw[hR];generalize hS:gF kn (kn+1) r lo hi xs=R at hR⊢;subst hkn;refine qy ?_;(repeat refine qq ?_);(generalize hK:eD _ _ _ _=K);refine ak.jg ?_;(repeat(refine xL ?_));refine aa.nil ?_;refine zF ?_;subst hK;refine qy ?_;refine ak.block<|ak.loop (fun j fr ah=>∃(i r lo hi:Nat),fr.clean=⟨9,[x,.tup [],.int .i32 r,.int .i64 0,.bool false,.int .i64 kn,.int .u8 lo,.int .u8 hi,.int .i64 (i:Nat)],[]⟩∧ah=ae .ro st∧1≤i∧i+j=kn+1∧gF j (kn+1) r lo hi (xs.drop (i-1))=R∧(r+1)*64^j≤2097152) kn ⟨1,r,lo,hi,rfl,rfl,by omega,by omega,hS,mA⟩ ?_;clear hr mA hS r hm QH m;rintro j fr ah ⟨i,r,lo,hi,hfr,rfl,MP,hij,hS,mA⟩;rw[hfr];refine qy ?_;(repeat refine qq ?_);(generalize hK:eD _ _ _ _=K);refine ak.jg ?_;(repeat(refine xT ?_));refine aa.nil ?_;refine zF ?_;subst hK;refine qy ?_;(repeat refine qq ?_);refine qc (fun h4=>?_) (fun h4=>?_)<;>try simp only[cs] at h4
  ·refine ak.skip ?_
   obtain⟨j,rfl⟩:∃j',j=j'+1:=⟨j-1,by omega⟩
   refine ak.seq (ak.block ?_);refine qy ?_;(repeat refine qq ?_);(generalize hK:eD _ _ _ _=K);refine ak.jg ?_
   (refine xT ?_)
   (refine xT ?_)
   refine aa.len rfl rfl rfl dW rfl ?_;(repeat(refine xT ?_));refine aa.nil ?_;refine zF ?_;subst hK;refine qy ?_
   have yh:(xs.drop (i-1))=[]∨∃y ys,xs.drop (i-1)=y::ys:=by
    cases xs.drop (i-1) with
    |nil=>exact .inl rfl
    |cons y ys=>exact .inr ⟨y,ys,rfl⟩
   have O0:(xs.drop (i-1)).length=xs.length-(i-1):=List.length_drop ..;have hbl:(byteCells (c::xs)).length=xs.length+1:=by simp[byteCells]
   (refine qy ?_);(repeat refine qq ?_);refine qc (fun h5=>?_) (fun h5=>?_)<;>try simp only[cs] at h5
   ·(refine qy ?_);(repeat refine qq ?_);(generalize hK:eD _ _ _ _=K);refine ak.jg ?_;(repeat(refine xL ?_));refine aa.nil ?_;refine zF ?_;subst hK;refine qy ?_;refine ak.ret ⟨rx,_,rfl,aH (by simp) (by simp[ae]) ?_⟩
    rcases yh with yh|⟨y,ys,yh⟩
    ·rw[yh] at hS;simp only[gF] at hS;subst hS;rfl
    ·rw[yh] at O0;simp only[List.length_cons] at O0;omega
   refine ak.skip ?_
   rcases yh with yh|⟨y,ys,yh⟩
   ·rw[yh] at O0;simp only[List.length_nil] at O0;omega
   have hy:(c::xs)[i]?=some y:=by
    obtain⟨i,rfl⟩:∃i',i=i'+1:=⟨i-1,by omega⟩
    have:=congrArg (fun l=>l[0]?) yh
    simpa using this
   have jr:xs.drop (i+1-1)=ys:=by
    have:=congrArg (fun l=>l.drop 1) yh;simp only[List.drop_drop,List.drop_succ_cons,List.drop_zero] at this;rw[←this];congr 1;omega
   have K2:=jJ hy;have S6:=A3 y;rw[yh] at hS;simp only[gF] at hS;refine qy ?_;(repeat refine qq ?_);(generalize hK:eD _ _ _ _=K);refine ak.jg ?_
   (refine xT ?_)
   (refine xT ?_)
   refine aa.dz rfl rfl rfl (fun _=>rfl) rfl rfl dW rfl rfl (by omega) K2 rfl (fun p=>?_)
   (refine xT ?_)
   (refine xT ?_)
   (refine xT ?_)
   by_cases y7:(y.toNat:Int)<(lo:Int)
   ·rw[decide_eq_true y7];(repeat(first|refine xT ?_|refine xo ?_));refine aa.nil ?_;refine zF ?_;subst hK;refine qy ?_;refine ak.cond (v:=true) rfl (fun _=>?_) (fun h=>by cases h);refine qy ?_;(repeat refine qq ?_);(generalize hK:eD _ _ _ _=K);refine ak.jg ?_;(repeat(refine xL ?_));refine aa.nil ?_;refine zF ?_;subst hK;refine qy ?_;refine ak.ret ⟨rx,_,rfl,aH (by simp) (by simp[ae]) ?_⟩;rw[if_pos (.inl (by omega))] at hS;subst hS;rfl
   rw[decide_eq_false y7]
   (refine xT ?_)
   (refine xT ?_)
   refine aa.dz rfl rfl rfl (fun _=>rfl) rfl rfl dW rfl rfl (by omega) K2 rfl (fun p=>?_);(repeat(refine xT ?_));refine aa.nil ?_;refine zF ?_;subst hK;refine qy ?_;(repeat refine qq ?_);refine qc (fun h6=>?_) (fun h6=>?_)<;>try simp only[cs] at h6
   ·(refine qy ?_);(repeat refine qq ?_);(generalize hK:eD _ _ _ _=K);refine ak.jg ?_;(repeat(refine xL ?_));refine aa.nil ?_;refine zF ?_;subst hK;refine qy ?_;refine ak.ret ⟨rx,_,rfl,aH (by simp) (by simp[ae]) ?_⟩;rw[if_pos (.inr (by omega))] at hS;subst hS;rfl
   refine ak.skip ?_;rw[if_neg (by omega)] at hS;refine qy ?_;(repeat refine qq ?_);(generalize hK:eD _ _ _ _=K);refine ak.jg ?_
   (refine xT ?_)
   (refine xT ?_)
   (refine xT ?_)
   (refine xT ?_)
   refine aa.dz rfl rfl rfl (fun _=>rfl) rfl rfl dW rfl rfl (by omega) K2 rfl (fun p=>?_);(repeat(first|refine xT ?_|refine xL ?_));refine aa.nil ?_;refine zF ?_;subst hK;refine qy ?_;have Ae:r+1≤(r+1)*64^(j+1):=Nat.le_mul_of_pos_right _ (Nat.pow_pos (by omega));rw[Ua (by omega) S6];refine qy ?_;(repeat refine qq ?_);(generalize hK:eD _ _ _ _=K);refine ak.jg ?_;(repeat(refine xL ?_));refine aa.nil ?_;refine zF ?_;subst hK;refine qy ?_;(repeat refine qq ?_);(generalize hK:eD _ _ _ _=K);refine ak.jg ?_;(repeat(first|refine xT ?_|refine xL ?_));refine aa.nil ?_;refine zF ?_;subst hK;rw[wrap_i64 (by omega) (by omega)];refine⟨j,by omega,i+1,_,_,_,rfl,rfl,by omega,by omega,by rw[jr];exact hS,?_⟩;have e1:(r*64+y.toNat %64+1)≤(r+1)*64:=by omega
   have e2:=Nat.mul_le_mul_right (64^j) e1;have e3:64*64^j=64^(j+1):=by rw[Nat.pow_succ,Nat.mul_comm]
   rw[Nat.mul_assoc,e3] at e2;omega
  ·refine ak.exit ?_;have:j=0:=by omega
   subst this;simp only[gF] at hS;subst hS;refine qy ?_;(repeat refine qq ?_);(generalize hK:eD _ _ _ _=K);refine ak.jg ?_;(repeat(first|refine xT ?_|refine xL ?_));refine aa.nil ?_;refine zF ?_;subst hK;refine qy ?_;refine ak.ret ⟨rx,_,rfl,aH (by simp) (by simp[ae]) ?_⟩;rw[wrap_i64 (by omega) (by omega)];rfl
 rcases hk with hk|hk|hk|hk|hk
 ·omega
 ·subst hk;refine ak.cond (v:=false) rfl (fun h=>by cases h) fun _=>ak.skip ?_;rw[bA (by simp only[fQ];omega)];exact H _ 0 _ rfl rfl (by omega)
 ·subst hk;refine ak.cond (v:=true) rfl (fun _=>?_) (fun h=>by cases h);refine ak.jg ?_
  (refine xT ?_)
  refine aa.dz rfl rfl rfl (fun _=>rfl) rfl rfl dW rfl rfl (by omega) rfl rfl (fun p=>?_);(repeat(first|refine xT ?_|refine xL ?_));refine aa.nil ?_;refine zF ?_;rw[mask (j:=5) hc (by omega)]
  ·exact H _ 1 _ rfl rfl (by omega)
  ·decide
 ·subst hk;refine ak.cond (v:=true) rfl (fun _=>?_) (fun h=>by cases h);refine ak.jg ?_
  (refine xT ?_)
  refine aa.dz rfl rfl rfl (fun _=>rfl) rfl rfl dW rfl rfl (by omega) rfl rfl (fun p=>?_);(repeat(first|refine xT ?_|refine xL ?_));refine aa.nil ?_;refine zF ?_;rw[mask (j:=4) hc (by omega)]
  ·exact H _ 2 _ rfl rfl (by omega)
  ·decide
 ·subst hk;refine ak.cond (v:=true) rfl (fun _=>?_) (fun h=>by cases h);refine ak.jg ?_
  (refine xT ?_)
  refine aa.dz rfl rfl rfl (fun _=>rfl) rfl rfl dW rfl rfl (by omega) rfl rfl (fun p=>?_);(repeat(first|refine xT ?_|refine xL ?_));refine aa.nil ?_;refine zF ?_;rw[mask (j:=3) hc (by omega)]
  ·exact H _ 3 _ rfl rfl (by omega)
  ·decide
def iG (b:List UInt8):Nat×Nat:=if(dt b).2.1=0 then(65533,1) else((dt b).1,(dt b).2.1)
def Dl:Nat→List UInt8→List (Nat×Nat)
 |0,_=>[]
 |_+1,[]=>[]
 |n+1,b=>iG b::Dl n (b.drop (iG b).2)
def tg (b:List UInt8):List (Nat×Nat):=Dl b.length b
theorem nB (b:List UInt8):1≤(iG b).2:=by
 unfold iG;split
 ·simp
 ·simp only;omega
theorem pf : ∀ (n : Nat) (b : List UInt8), b.length ≤ n → Dl n b = tg b
 | 0, [], _ => rfl
 | 0, _ :: _, h => by simp at h
 | n + 1, [], _ => rfl
 | n + 1, c :: b, h => by
  have hp := nB (c :: b);have h1 : ((c :: b).drop (iG (c :: b)).2).length ≤ b.length := by rw [List.length_drop]; simp only [List.length_cons]; omega
  simp only [List.length_cons] at h;show iG (c :: b) :: Dl n ((c :: b).drop _) = iG (c :: b) :: Dl b.length ((c :: b).drop _);rw [pf n _ (by omega)]
  rcases Nat.lt_or_ge n b.length with h2 | h2
  ·omega
  ·rw [pf b.length _ h1]
termination_by n b => b.length
decreasing_by all_goals (simp_wf; omega)
theorem tf:tg []=[]:=rfl
theorem vg {b:List UInt8} (h:b≠[]):tg b=iG b::tg (b.drop (iG b).2):=by
 match b,h with
 |c::b,_=>
  show iG (c::b)::Dl b.length ((c::b).drop _)=_;rw[pf];have hp:=nB (c::b);rw[List.length_drop];simp only[List.length_cons];omega
def bC (g:Nat×Nat):List D:=[.int .i32 (g.1:Nat),.int .i64 (g.2:Nat)]
def hU (l:List (Nat×Nat)):D:=.sl ((l.map bC).map (j7 2))
theorem FK {l:List (Nat×Nat)}:∀e∈l.map bC,e.length=2:=by
 intro e he;obtain⟨g,_,rfl⟩:=List.mem_map.1 he;rfl
theorem sK {l:List (Nat×Nat)}:∀e∈l.map bC,∀d∈e,ck d=true:=by
 intro e he d hd;obtain⟨g,_,rfl⟩:=List.mem_map.1 he;simp only[bC,List.mem_cons,List.not_mem_nil,or_false] at hd
 rcases hd with rfl|rfl<;>rfl
theorem eR (st:St) (l:List (Nat×Nat)):V.Rows st 2 (hU l) (l.map bC):=Rows.nC FK sK
theorem xl:∀(left n r lo hi:Nat) (b:List UInt8),(gF left n r lo hi b).2.1≠0→(gF left n r lo hi b).2.1=n∧left≤b.length
 |0,n,r,lo,hi,b,h=>by simp[gF]
 |left+1,n,r,lo,hi,[],h=>by simp[gF] at h
 |left+1,n,r,lo,hi,x::xs,h=>by
  simp only[gF] at h⊢
  split at h
  ·simp at h
  ·rename_i hc;rw[if_neg hc];have:=xl left n _ _ _ xs h;exact⟨this.1,by simp;omega⟩
theorem Bm {b:List UInt8} (h:b≠[]):(iG b).2≤b.length:=by
 match b,h with
 |c::xs,_=>
  unfold iG
  split
  ·simp
  ·rename_i hz;simp only[dt] at hz⊢
   split at hz
   ·simp at hz
   ·rename_i hk;rw[if_neg hk];have:=xl _ _ _ _ _ _ hz;rw[this.1];simp;omega
theorem KJ {st:St} {x:D} {b:List UInt8} (hb:Bytes st x b) (hlen:b.length≤1048576):Ev pv 132 [x] st (hU (tg b)) st:=by
 refine Ev.ia rfl Ow rfl rfl rfl<|zE ?_;have hx:=hb.ref;refine qy ?_;(repeat refine qq ?_);(generalize hK:eD _ _ _ _=K);refine ak.jg ?_;(repeat(refine xL ?_));refine aa.nil ?_;refine zF ?_;subst hK;refine qy ?_;(repeat refine qq ?_);(generalize hK:eD _ _ _ _=K);refine ak.jg ?_;(repeat(refine xL ?_));refine aa.nil ?_;refine zF ?_;subst hK;refine qy ?_;refine ak.seq (ak.block ?_)
 refine ak.loop (fun j fr ah=>∃(y out r n:D) (b':List UInt8) (done:List (Nat×Nat)),fr.clean=⟨6,[y,.tup [],.nul,out,r,n],[]⟩∧Ex st.bs.length (ae .ro st) ah∧Bytes ah y b'∧y.ref≤st.bs.length∧
  Acc st.bs.length ah 2 out (done.map bC)∧j=b'.length∧done++tg b'=tg b∧done.length+b'.length≤b.length) b.length
  ⟨x,.nul,_,_,b,[],rfl,Ex.refl _ _,hb.enter .ro,hx,.nul,rfl,rfl,by simp⟩ ?_
 rintro j fr ah ⟨y,out,r,n,b',done,hfr,hex,hy,S5,H4,rfl,nQ,hl⟩;rw[hfr];refine qy ?_;(repeat refine qq ?_);(generalize hK:eD _ _ _ _=K);refine ak.jg ?_
 (refine xT ?_)
 refine aa.len rfl rfl rfl hy rfl ?_;(repeat(refine xT ?_));refine aa.nil ?_;refine zF ?_;subst hK;refine qy ?_;rw[ay];refine qy ?_;(repeat refine qq ?_);refine qc (fun h1=>?_) (fun h1=>?_)<;>try simp only[cs] at h1
 ·refine ak.skip ?_;have oq:b'≠[]:=by rintro rfl;simp at h1
  (refine qy ?_);(repeat refine qq ?_);refine ak.block ?_;refine qy ?_;(repeat refine qq ?_);(generalize hK:eD _ _ _ _=K);refine ak.jg ?_
  (refine xT ?_)
  refine aa.oa rfl rfl rfl (sR hy) ?_;(repeat(first|refine xT ?_|refine xL ?_));refine aa.nil ?_;refine zF ?_;subst hK;refine qy ?_;generalize hf:dt b'=F at*;obtain⟨r0,n0,bg⟩:=F;refine qy ?_;(repeat refine qq ?_);(generalize hK:eD _ _ _ _=K);refine ak.jg ?_;(repeat(refine xT ?_));refine aa.nil ?_;refine zF ?_;subst hK;refine qy ?_;generalize hK:eD _ _ _ _=K
  have H:∀m,K .next ⟨6,[y,.tup [],.nul,out,.int .i32 ((iG b').1:Nat),.int .i64 ((iG b').2:Nat)],m⟩ ah:=by
   intro m;subst hK;generalize hg:iG b'=g;have hp:=nB b';have hle:=Bm oq;rw[hg] at hp hle;refine qy ?_;(repeat refine qq ?_);(generalize hK:eD _ _ _ _=K);refine ak.jg ?_
   (refine xT ?_)
   (refine xT ?_)
   (refine xT ?_)
   refine aa.T rfl rfl rfl (d:=.agg (bC g)) (st1:=ah) rfl<|aa.T rfl rfl rfl (d:=.win ah.bs.length 0 0 1 2) (st1:=ah.push (.mem 0 true (bC g))) rfl ?_;have hN:st.bs.length≤ah.bs.length:=hex.len;have HT:=hex.trans (Ex.push hN (.mem 0 true (bC g)));refine aa.append rfl rfl rfl rfl (H4.push _) (Rows.one rfl) rfl rfl rfl rfl rfl rfl rfl (by decide) HT.len (by rw[HT.flr];exact Nat.le_refl _) (by rw[HT.ro];exact Nat.le_refl _) (by simp only[List.length_map,List.length_cons,List.length_nil];show(done.length+1)*16≤_;omega) fun PJ st2 M9 MU _ _ _=>?_;(repeat(refine xL ?_));refine aa.nil ?_;refine zF ?_;subst hK;refine qy ?_;have Q9:=HT.trans MU;have Dr:Bytes st2 y b':=Rows.ex ((Ex.push hN _).trans MU) hy S5;refine qy ?_;(repeat refine qq ?_);(generalize hK:eD _ _ _ _=K);refine ak.jg ?_
   (refine xT ?_)
   (refine xT ?_)
   refine aa.slice rfl rfl rfl Dr rfl rfl (l:=g.2) (r:=b'.length) ?_ ⟨by omega,by rw[ay];omega⟩ fun y2 Hu PX=>?_
   ·show cC (byteCells b').length (some (.int .i64 (g.2:Nat))) none=_;rw[ay];simp only[cC,iQ,kN,Option.bind_some];rw[if_pos ⟨by omega,by omega⟩];rfl
   (repeat(refine xL ?_));refine aa.nil ?_;refine zF ?_;subst hK;refine⟨(b'.drop g.2).length,by rw[List.length_drop];omega,y2,PJ,_,_,b'.drop g.2,done++[g],rfl,Q9,?_,Nat.le_trans PX S5,?_,rfl,?_,?_⟩
   ·have:((byteCells b').take b'.length).drop g.2=byteCells (b'.drop g.2):=by
     rw[←ay,List.take_length];simp[byteCells]
    unfold Bytes;rw[←this];exact Hu
   ·rw[List.map_append];exact M9
   ·rw[List.append_assoc,List.singleton_append,←nQ,vg oq,hg]
   ·rw[List.length_append,List.length_drop];simp only[List.length_cons,List.length_nil];omega
  (refine qy ?_);(repeat refine qq ?_);refine qc (fun h2=>?_) (fun h2=>?_)<;>try simp only[cs] at h2
  ·refine ak.jg ?_;(repeat(refine xL ?_));refine aa.nil ?_;refine zF ?_;have:iG b'=(65533,1):=by unfold iG;rw[hf,if_pos (by simpa using h2)]
   rw[this] at H;exact H _
  ·refine ak.skip ?_;have:iG b'=(r0,n0):=by unfold iG;rw[hf,if_neg (by simpa using h2)]
   rw[this] at H;exact H _
 ·refine ak.exit ?_
  have oq:b'=[]:=by cases b' with|nil=>rfl|cons _ _=>simp at h1<;>omega
  subst oq;rw[tf,List.append_nil] at nQ;refine qy ?_;(repeat refine qq ?_);(generalize hK:eD _ _ _ _=K);refine ak.jg ?_;(repeat(first|refine xT ?_|refine xL ?_));refine aa.nil ?_;refine zF ?_;subst hK;refine qy ?_;refine ak.ret ⟨rx,_,rfl,aH (by simp) (hex.take rfl) ?_⟩;rw[←nQ];exact H4.freeze sK (n:=15) (by decide)
structure fJ where
 i:Nat
 o:Nat
 g:Nat
 e:Int
 w:Int
def aQ (gs:List (Nat×Nat)) (bJ:D) (s:fJ):List D:=[hU gs,bJ,.int .i64 (s.i:Nat),.int .i64 (s.o:Nat),.int .i64 (s.g:Nat),.int .i64 s.e,.int .i64 s.w]
def j_ (gs:List (Nat×Nat)) (i:Nat) (r:Int):Bool:=match gs[i]? with
 |some g=>((g.1:Nat):Int)==r
 |none=>false
theorem su {gs:List (Nat×Nat)} {i:Nat} {r:Int} (h:j_ gs i r=true):i<gs.length:=by
 unfold j_ at h
 split at h
 ·exact bo (by assumption)
 ·cases h
def df (gs:List (Nat×Nat)) (s:fJ) (r:Int):fJ:=if j_ gs s.i r=true then{s with i:=s.i+1} else s
def KH (gs:List (Nat×Nat)) (i:Nat):Bool:=match gs[i]? with
 |some g=>((g.1:Nat):Int)==65533 &&((g.2:Nat):Int)==1
 |none=>false
def jC (b_:List Int) (s:fJ) (i:Nat) (e:Int):fJ:=if s.e=0 then{s with e:=e,w:=b_.getD i 0} else s
theorem pE {N k:Nat} {S s0:St} {H:List a_} {gs:List (Nat×Nat)} {bJ:D} {s:fJ} (tq:gs.length≤1048576) (r:Int) (hH:Has N S s0 (.box k (.mem 0 false (aQ gs bJ s))::H)):
  ∃d ah,Ev pv 219 [.ptr k 0 0,.int .i32 r] s0 d ah∧d=.bool (j_ gs s.i r)∧Has N S ah (.box k (.mem 0 false (aQ gs bJ s))::H):=by
 refine Ev.gA rfl NQ rfl rfl rfl ?_;refine zE ?_;have bn:=hH;have hH:=hH.aW;have bh:(ae .rw s0).bs=s0.bs:=rfl;generalize ae .rw s0=S2 at*;have IZ:Arg N S2 2 (hU gs) (gs.map bC):=Arg.pure (fun st=>eR st gs);refine zQ 4 ?_
 by_cases ha:s.i<gs.length
 ·obtain⟨g,hg⟩:∃g,gs[s.i]?=some g:=⟨gs[s.i]'ha,List.getElem?_eq_getElem _⟩
  have gm:(gs.map bC)[s.i]?=some (bC g):=by rw[List.getElem?_map,hg];rfl
  have c7:decide ((s.i:Int)<(gs.length:Nat))=true:=by rw[decide_eq_true];simp;omega
  have hv:j_ gs s.i r=(((g.1:Nat):Int)==r):=by unfold j_;rw[hg]
  refine qq<|ak.kW 4 (.bool (((g.1:Nat):Int)==r)) [] ?_ (fun ff tmp=>?_)
  ·refine zQ 8 ?_;refine qn ?_;simp only[List.length_map];refine zQ 10 ?_;refine qr (fun Lv E7=>?_) (hg:=wi c7);refine qf (fo:=0) (fun KW CT=>?_) (hg:=wi c7);refine zQ 5 ?_;refine aa.nil (aR ?_);dsimp only[aF,List.foldl,nth,u2,u1];dsimp only[Fr.e5,Fr.put,Fr.clean,Fr.ev,Fr.get,nth,look,u1,u2,v1,v2,v4]
   all_goals(rfl)
  dsimp only[aF,List.foldl,nth,u2,u1];refine ak.ret ⟨rx,_,_,_,rfl,ag (rfl),?_⟩;exact⟨by rw[hv];rfl,bn.aj bh hH⟩
 ·have c7:decide ((s.i:Int)<(gs.length:Nat))=false:=by rw[decide_eq_false];simp;omega
  have hv:j_ gs s.i r=false:=by
   cases h:j_ gs s.i r with
   |true=>exact absurd (su h) ha
   |false=>rfl
  refine qq<|ak.kW 4 (.bool false) [] ?_ (fun ff tmp=>?_)
  ·refine zQ 8 ?_;refine qn ?_;simp only[List.length_map];refine zQ 17 ?_;refine aa.nil (aR ?_);dsimp only[aF,List.foldl,nth,u2,u1];dsimp only[Fr.e5,Fr.put,Fr.clean,Fr.ev,Fr.get,nth,look,u1,u2,v1,v2,v4]
   all_goals(first|rfl|(simp[c7];done)|(simp_all;done)|(simp[c7];omega)|(simp_all;omega))
  dsimp only[aF,List.foldl,nth,u2,u1];refine ak.ret ⟨rx,_,_,_,rfl,ag (rfl),?_⟩;exact⟨by rw[hv];rfl,bn.aj bh hH⟩
theorem ei {N k:Nat} {S s0:St} {H:List a_} {gs:List (Nat×Nat)} {bJ:D} {s:fJ} (tq:gs.length≤1048576) (r:Int) (hH:Has N S s0 (.box k (.mem 0 false (aQ gs bJ s))::H)):
  ∃d ah,Ev pv 187 [.ptr k 0 0,.int .i32 r] s0 d ah∧d=.bool (j_ gs s.i r)∧Has N S ah (.box k (.mem 0 false (aQ gs bJ (df gs s r)))::H):=by
 refine Ev.gA rfl N0 rfl rfl rfl ?_;refine zE ?_;have bn:=hH;have hH:=hH.aW;have bh:(ae .rw s0).bs=s0.bs:=rfl;generalize ae .rw s0=S2 at*;refine zQ 9 ?_;obtain⟨_,st,aB,rfl,hH⟩:=pE tq r hH;refine qv aB ?_;refine zQ 1 ?_;unfold df
 cases hb:j_ gs s.i r with
 |true=>
  have hlt:=su hb;dsimp only[aQ] at hH;rw[if_pos rfl];refine zQ 10 ?_;refine qT hH aN fun st hH=>?_;dsimp only[u2,u1,u3,u4,setMany,u5,u6,D.cells,Nat.reduceAdd,aQ,bC,ax] at hH;refine zQ 5 ?_;refine ak.ret ⟨rx,_,_,_,rfl,ag (rfl),?_⟩;exact⟨rfl,bn.aj bh hH⟩
 |false=>
  rw[if_neg (by simp)];refine zQ 6 ?_;refine ak.ret ⟨rx,_,_,_,rfl,ag (rfl),?_⟩;exact⟨rfl,bn.aj bh hH⟩
theorem AQ {N k:Nat} {S s0:St} {H:List a_} {gs:List (Nat×Nat)} {bJ:D} {s:fJ} (i:Nat) (hi:i<gs.length) (hH:Has N S s0 (.box k (.mem 0 false (aQ gs bJ s))::H)):
  ∃d ah,Ev pv 265 [.ptr k 0 0,.int .i64 (i:Nat)] s0 d ah∧d=.bool (KH gs i)∧Has N S ah (.box k (.mem 0 false (aQ gs bJ s))::H):=by
 refine Ev.gA rfl Nz rfl rfl rfl ?_;refine zE ?_;have bn:=hH;have hH:=hH.aW;have bh:(ae .rw s0).bs=s0.bs:=rfl;generalize ae .rw s0=S2 at*;have IZ:Arg N S2 2 (hU gs) (gs.map bC):=Arg.pure (fun st=>eR st gs);refine zQ 4 ?_
 obtain⟨g,hg⟩:∃g,gs[i]?=some g:=⟨gs[i]'hi,List.getElem?_eq_getElem _⟩
 have gm:(gs.map bC)[i]?=some (bC g):=by rw[List.getElem?_map,hg];rfl
 have hv:KH gs i=(((g.1:Nat):Int)==65533 &&((g.2:Nat):Int)==1):=by unfold KH;rw[hg]
 refine qq<|ak.kW 4 (.bool (((g.1:Nat):Int)==65533 &&((g.2:Nat):Int)==1)) [] ?_ (fun ff tmp=>?_)
 ·refine zQ 5 ?_;refine qr fun SZ Mv=>?_;refine qf (fo:=0) fun UD Qy=>?_;refine zQ 3 ?_;refine aa.two 14 rfl (fun ec=>?_) (fun ec=>?_)
  ·refine zQ 5 ?_;refine qr (fun Lw E8=>?_) (hg:=wi ec);refine qf (fo:=1) (fun OV HI=>?_) (hg:=wi ec);refine zQ 4 ?_;refine aa.nil (aR ?_);refine zG ?_
   all_goals(simp[ec];done)
  ·refine zQ 11 ?_;refine aa.nil (aR ?_);refine zG ?_
   all_goals(simp[ec];done)
 dsimp only[aF,List.foldl,nth,u2,u1];refine ak.ret ⟨rx,_,_,_,rfl,ag (rfl),?_⟩;exact⟨by rw[hv];rfl,bn.aj bh hH⟩
theorem dh {N k:Nat} {S s0:St} {H:List a_} {gs:List (Nat×Nat)} {bJ:D} {b_:List Int} {s:fJ} (i:Nat) (e:Int) (hi:i<b_.length) (hH:Has N S s0 (.box k (.mem 0 false (aQ gs bJ s))::.aC bJ 1 (b_.map ax)::H)):
  ∃d ah,Ev pv 134 [.ptr k 0 0,.int .i64 (i:Nat),.int .i64 e] s0 d ah∧d=.sl []∧Has N S ah (.box k (.mem 0 false (aQ gs bJ (jC b_ s i e)))::.aC bJ 1 (b_.map ax)::H):=by
 refine Ev.gA rfl Ou rfl rfl rfl ?_;refine zE ?_;have bn:=hH;have hH:=hH.aW;have bh:(ae .rw s0).bs=s0.bs:=rfl;generalize ae .rw s0=S2 at*;refine zQ 4 ?_
 obtain⟨v,hv⟩:∃v,b_[i]?=some v:=⟨b_[i]'hi,List.getElem?_eq_getElem _⟩
 have gm:=er hv;unfold jC;refine zQ 9 ?_;refine zI (fun h0=>?_) fun h0=>?_
 ·rw[if_pos h0];have Q6:b_.getD i 0=v:=by rw[List.getD_eq_getElem?_getD,hv];rfl
  refine zQ 9 ?_;refine qi hH bV fun Lw E8=>?_;refine zQ 3 ?_;refine qT hH aN fun st hH=>?_;dsimp only[u2,u1,u3,u4,setMany,u5,u6,D.cells,Nat.reduceAdd,aQ,bC,ax] at hH;refine zQ 2 ?_;refine qT hH aN fun st hH=>?_;dsimp only[u2,u1,u3,u4,setMany,u5,u6,D.cells,Nat.reduceAdd,aQ,bC,ax] at hH;refine zQ 5 ?_;refine ak.ret ⟨rx,_,_,_,rfl,ag (rfl),?_⟩;exact⟨rfl,by rw[Q6];exact bn.aj bh hH⟩
 ·rw[if_neg h0];refine zQ 5 ?_;refine ak.ret ⟨rx,_,_,_,rfl,ag (rfl),?_⟩;exact⟨rfl,bn.aj bh hH⟩
def e6 (fr:Go.V.Fr) (k:Nat):Go.V.D:=Go.V.nth .bj fr.loc k
noncomputable def lE (l:List Rg):List Rg:=@dite _ (∃a,fq l a) (Classical.propDecidable _) (fun h=>Classical.choose h) (fun _=>[])
theorem ET {l a:List Rg} (h:fq l a):lE l=a:=by
 have hx:∃a,fq l a:=⟨a,h⟩
 unfold lE;rw[dif_pos hx];exact(Classical.choose_spec hx).unique h
theorem nD {s0:St} {x:D} {l:List Rg} (hx:V.Rows s0 2 x (l.map au)) (hl:l.length≤1048576):Ev pv 226 [x] s0 (bt (lE l)) s0∧(lE l).length≤2*l.length∧fq l (lE l):=by
 obtain⟨_,aB,all,rfl,hperm,mH⟩:=Bt hx (by omega);have hM:fq l (all.foldl dF []).reverse:=rZ (fun x=>hperm.mem_iff) mH;have hlen:=hperm.length_eq;have mb:=jz l;have oo:=sk all;rw[ET hM];exact⟨aB,by rw[List.length_reverse];omega,hM⟩
theorem jR (l:List Rg):gd (bt l) 2 (l.map au):=by
 rw[←gM];refine gd.frozen ?_ ?_
 ·intro e he;obtain⟨x,_,rfl⟩:=List.mem_map.1 he;rfl
 ·intro e he d hd;obtain⟨x,_,rfl⟩:=List.mem_map.1 he;simp only[au,List.mem_cons,List.not_mem_nil,or_false] at hd
  rcases hd with rfl|rfl<;>rfl
theorem vV {r:Int} {l a:List Rg} (h0:0≤r) (h1:r<55296) (hr:dw l r) (h:fq l a):a≠[]:=by
 rintro rfl;have:=(h.2 r).2 ⟨by unfold gR;omega,hr⟩;obtain⟨x,hx,_⟩:=this;cases hx
theorem x8 {r:Int} (h0:0≤r) (h1:r<55296) {a:List Rg} (h:fq [(r,r)] a):a≠[]:=by
 rintro rfl;have:=(h.2 r).2 ⟨?_,?_⟩
 ·obtain⟨x,hx,_⟩:=this;cases hx
 ·unfold gR;omega
 ·exact⟨(r,r),List.mem_cons_self ..,by simp⟩
theorem jO {s0:St} (r:Int):Ev pv 270 [.int .i32 r] s0 (bt (lE [(r,r)])) s0:=by
 refine Ev.ia rfl Nt rfl rfl rfl ?_;refine zE ?_;obtain⟨aP,hF,hH⟩:=ri s0;generalize ae .ro s0=S at*;refine zQ 8 ?_;refine aa.ij (qs:=[(0,_),(1,_)]) rfl rfl rfl rfl ⟨rfl,(ev rfl),(by rfl),rfl,(ev rfl),(by rfl),trivial⟩ (by intro q hq;simp only[List.mem_cons,List.not_mem_nil,or_false] at hq;rcases hq with rfl|rfl<;>exact⟨rfl,by exact Nat.le_of_ble_eq_true rfl⟩) (by show List.foldl _ [_,_] _=_;dsimp only[List.foldl_cons,List.foldl_nil,u2,u1]<;>rfl) (ab rfl _) ?_;refine qh (s:=2) (vs:=[_]) hH fun k6 st Dx hH=>?_;obtain⟨aB,hl,_⟩:=nD (l:=[(r,r)]) (hH.rows aN) (by simp);refine qv aB ?_;refine zQ 2 ?_;refine ak.ret ⟨rx,_,rfl,rl aP hH (rfl)⟩
theorem ED {s0:St} {x:D} {l:List Rg} (hx:V.Rows s0 2 x (l.map au)) (hl:l.length≤131072):∃d,Ev pv 287 [x] s0 d s0∧∃a:List Rg,d=bt a∧a.length≤4*l.length+2:=by
 refine Ev.Dq rfl Np rfl rfl rfl ?_;refine zE ?_;obtain⟨aP,hF,hH⟩:=ri s0;generalize ae .ro s0=S at*;have hx:=Arg.of hx aP;refine zQ 12 ?_;obtain⟨aB,CU,_⟩:=nD (hx.rows hH) (by omega);have hla:=(jR (lE l)).arg s0.bs.length S;generalize lE l=m at*;refine zQ 4 ?_;refine qv (aB) ?_;refine qn ?_;simp only[List.length_map];refine zQ 2 ?_;have hH:=hH.gf 2;refine zQ 1 ?_;refine ak.loop (fun mm fr st=>∃(i:Nat) (n:Int) (o:D) (out:List Rg),fr.clean=⟨11,[e6 fr 0,e6 fr 1,e6 fr 2,o,.int .i32 n,e6 fr 5,e6 fr 6,e6 fr 7,bt m,.int .i64 (m.length:Nat),.int .i64 (i:Nat)],[]⟩∧Has s0.bs.length S st [.aC o 2 (out.map au)]∧(i+mm=m.length)∧(out.length=i)) (m.length) ?_ ?_
 ·exact⟨0,0,.nul,[],rfl,hH,by omega,rfl⟩
 rintro mm fr st ⟨i,n,o,out,hfr,hH,hi,ho⟩;rw[hfr];clear hfr;generalize e6 fr=ee;clear fr;refine zQ 5 ?_;refine zP (fun h1=>?_) fun h1=>?_
 ·refine zQ 1 ?_
  obtain⟨q,hq⟩:∃q,m[i]?=some q:=⟨m[i]'(by omega),List.getElem?_eq_getElem _⟩
  have hr:=dD hq;refine zQ 4 ?_;refine qr fun SY Mt=>?_;refine aa.cV rfl (ev rfl) (by assumption) rfl (ab rfl _) ?_;refine qa hH fun k6 st Dx hH=>?_;refine qS hH aN fun st hH=>?_;dsimp only[u2,u1,u3,u4,setMany,u5,u6,D.cells,Nat.reduceAdd,au] at hH;refine zQ 7 ?_;refine aa.eY (z:=a7 .i32 (q.1-1)) rfl (ev rfl) (ev rfl) rfl (ab rfl _) ?_;refine aa.ij (qs:=[(0,_),(1,_)]) rfl rfl rfl rfl ⟨rfl,(ev rfl),(by rfl),rfl,(ev rfl),(by rfl),trivial⟩ (by intro q hq;simp only[List.mem_cons,List.not_mem_nil,or_false] at hq;rcases hq with rfl|rfl<;>exact⟨rfl,by exact Nat.le_of_ble_eq_true rfl⟩) (by show List.foldl _ [_,_] _=_;dsimp only[List.foldl_cons,List.foldl_nil,u2,u1]<;>rfl) (ab rfl _) ?_;refine qh (s:=2) (vs:=[_]) hH fun k20 st V8 hH=>?_;refine aa.cJ (s:=2) hH rfl (ev rfl) (ev rfl) (by exact fm) (by exact hH.rows (by exact aN)) rfl rfl rfl rfl rfl rfl rfl ⟨(Nat.le_of_ble_eq_true rfl),(Nat.le_of_ble_eq_true rfl)⟩ (fun _=>(ab rfl _)) (by simp only[List.length_cons,List.length_nil,List.length_map]<;>omega) (by exact .inl hF) (fun Xj st hH=>?_);dsimp only[u2,u1,u3,u4,setMany,u5,u6,D.cells,Nat.reduceAdd,au] at hH;refine zQ 5 ?_;refine aa.eC (z:=a7 .i32 (q.2+1)) rfl (ev rfl) (ev rfl) rfl (ab rfl _) ?_;refine zQ 6 ?_;exact⟨mm-1,by omega,⟨i+1,_,_,out++[(n,a7 .i32 (q.1-1))],rfl,(by rw[List.map_append];exact hH.drop 2),by omega,by simp[ho]⟩⟩
 ·refine zQ 5 ?_;refine aa.ij (qs:=[(0,_),(1,_)]) rfl rfl rfl rfl ⟨rfl,(ev rfl),(by rfl),rfl,(ev rfl),(by rfl),trivial⟩ (by intro q hq;simp only[List.mem_cons,List.not_mem_nil,or_false] at hq;rcases hq with rfl|rfl<;>exact⟨rfl,by exact Nat.le_of_ble_eq_true rfl⟩) (by show List.foldl _ [_,_] _=_;dsimp only[List.foldl_cons,List.foldl_nil,u2,u1]<;>rfl) (ab rfl _) ?_;refine qh (s:=2) (vs:=[_]) hH fun k29 st MJ hH=>?_;refine aa.cJ (s:=2) hH rfl (ev rfl) (ev rfl) (by exact bV) (by exact hH.rows (by exact aN)) rfl rfl rfl rfl rfl rfl rfl ⟨(Nat.le_of_ble_eq_true rfl),(Nat.le_of_ble_eq_true rfl)⟩ (fun _=>(ab rfl _)) (by simp only[List.length_cons,List.length_nil,List.length_map]<;>omega) (by exact .inl hF) (fun Pt st hH=>?_);dsimp only[u2,u1,u3,u4,setMany,u5,u6,D.cells,Nat.reduceAdd,au] at hH;obtain⟨aB,wk,_⟩:=nD (l:=out++[(n,1114111)]) (by rw[List.map_append];exact hH.rows bV) (by simp;omega);refine qv aB ?_;refine zQ 2 ?_;refine ak.ret ⟨rx,_,_,rfl,rl aP hH (rfl),?_⟩;exact⟨_,rfl,by simp at wk;omega⟩
theorem Ky {s0:St}:∃d,Ev pv 269 [] s0 d s0∧∃a:List Rg,d=bt a∧a.length≤6:=by
 refine Ev.Dq rfl Nu rfl rfl rfl ?_;refine zE ?_;obtain⟨aP,hF,hH⟩:=ri s0;generalize ae .ro s0=S at*;refine zQ 6 ?_;refine aa.ij (qs:=[(0,_),(1,_)]) rfl rfl rfl rfl ⟨rfl,(ev rfl),(by rfl),rfl,(ev rfl),(by rfl),trivial⟩ (by intro q hq;simp only[List.mem_cons,List.not_mem_nil,or_false] at hq;rcases hq with rfl|rfl<;>exact⟨rfl,by exact Nat.le_of_ble_eq_true rfl⟩) (by show List.foldl _ [_,_] _=_;dsimp only[List.foldl_cons,List.foldl_nil,u2,u1]<;>rfl) (ab rfl _) ?_;refine qh (s:=2) (vs:=[_]) hH fun k2 st hk2 hH=>?_;obtain⟨_,aB,a,rfl,hl⟩:=ED (l:=[(10,10)]) (hH.rows aN) (by simp);refine qv aB ?_;refine zQ 2 ?_;refine ak.ret ⟨rx,_,_,rfl,rl aP hH (rfl),?_⟩;exact⟨a,rfl,hl⟩
theorem Hm {s0:St} (r:Int):Ev pv 288 [.int .i32 r] s0 (.bool (decide (33≤r∧r≤47∨58≤r∧r≤64∨91≤r∧r≤96∨123≤r∧r≤126))) s0:=by
 refine Ev.ia rfl Nn rfl rfl rfl ?_;refine zE ?_;obtain⟨aP,hF,hH⟩:=ri s0;generalize ae .ro s0=S at*;refine zQ 5 ?_;refine ak.kW 2 (.bool (decide (33≤r∧r≤47∨58≤r∧r≤64∨91≤r∧r≤96∨123≤r∧r≤126))) [] ?_ (fun ff tmp=>?_)
 ·refine zQ 3 ?_;refine aa.two 5 rfl (fun cu=>?_) (fun cu=>?_)
  ·refine zQ 4 ?_;refine aa.two 9 rfl (fun ju=>?_) (fun ju=>?_)
   ·refine zQ 24 ?_;refine aa.nil (aR ?_);refine zG ?_
    all_goals(simp[cu,ju];done)
   ·refine zQ 3 ?_;refine aa.two 12 rfl (fun ec=>?_) (fun ec=>?_)
    ·refine zQ 2 ?_;refine aa.cQ (ai rfl rfl rfl ju) rfl ec (ab rfl _) ?_;refine zQ 2 ?_;refine aa.two 17 rfl (fun fg=>?_) (fun fg=>?_)
     ·refine zQ 16 ?_;refine aa.nil (aR ?_);refine zG ?_
      all_goals(simp[cu,ju,ec,fg];done)
     ·refine zQ 3 ?_;refine aa.two 20 rfl (fun bZ=>?_) (fun bZ=>?_)
      ·refine zQ 2 ?_;refine aa.cQ (ai rfl rfl rfl fg) rfl bZ (ab rfl _) ?_;refine zQ 2 ?_;refine aa.two 25 rfl (fun fz=>?_) (fun fz=>?_)
       ·refine zQ 8 ?_;refine aa.nil (aR ?_);refine zG ?_
        all_goals(simp[cu,ju,ec,fg,bZ,fz];done)
       ·refine zQ 3 ?_;refine aa.two 28 rfl (fun dx=>?_) (fun dx=>?_)
        ·refine zQ 2 ?_;refine aa.cQ (ai rfl rfl rfl fz) rfl dx (ab rfl _) ?_;refine zQ 2 ?_;refine aa.nil (aR ?_);refine zG ?_
         all_goals(simp[cu,ju,ec,fg,bZ,fz,dx];done)
        ·refine zQ 2 ?_;refine aa.cH (ai rfl rfl rfl fz) rfl dx (ab rfl _) ?_;refine zQ 2 ?_;refine aa.nil (aR ?_);refine zG ?_
         all_goals(simp[cu,ju,ec,fg,bZ,fz,dx];done)
      ·refine zQ 2 ?_;refine aa.cH (ai rfl rfl rfl fg) rfl bZ (ab rfl _) ?_;refine zQ 5 ?_;refine aa.two 28 rfl (fun dx=>?_) (fun dx=>?_)
       ·refine zQ 5 ?_;refine aa.nil (aR ?_);refine zG ?_
        all_goals(simp[cu,ju,ec,fg,bZ,dx];done)
       ·refine zQ 5 ?_;refine aa.nil (aR ?_);refine zG ?_
        all_goals(simp[cu,ju,ec,fg,bZ,dx];done)
    ·refine zQ 2 ?_;refine aa.cH (ai rfl rfl rfl ju) rfl ec (ab rfl _) ?_;refine zQ 5 ?_;refine aa.two 20 rfl (fun bZ=>?_) (fun bZ=>?_)
     ·refine zQ 5 ?_;refine aa.two 25 rfl (fun fz=>?_) (fun fz=>?_)
      ·refine zQ 8 ?_;refine aa.nil (aR ?_);refine zG ?_
       all_goals(simp[cu,ju,ec,bZ,fz];done)
      ·refine zQ 3 ?_;refine aa.two 28 rfl (fun dx=>?_) (fun dx=>?_)
       ·refine zQ 2 ?_;refine aa.cQ (ai rfl rfl rfl fz) rfl dx (ab rfl _) ?_;refine zQ 2 ?_;refine aa.nil (aR ?_);refine zG ?_
        all_goals(simp[cu,ju,ec,bZ,fz,dx];done)
       ·refine zQ 2 ?_;refine aa.cH (ai rfl rfl rfl fz) rfl dx (ab rfl _) ?_;refine zQ 2 ?_;refine aa.nil (aR ?_);refine zG ?_
        all_goals(simp[cu,ju,ec,bZ,fz,dx];done)
     ·refine zQ 8 ?_;refine aa.two 28 rfl (fun dx=>?_) (fun dx=>?_)
      ·refine zQ 5 ?_;refine aa.nil (aR ?_);refine zG ?_
       all_goals(simp[cu,ju,ec,bZ,dx];done)
      ·refine zQ 5 ?_;refine aa.nil (aR ?_);refine zG ?_
       all_goals(simp[cu,ju,ec,bZ,dx];done)
  ·refine zQ 7 ?_;refine aa.two 12 rfl (fun ec=>?_) (fun ec=>?_)
   ·refine zQ 5 ?_;refine aa.two 17 rfl (fun fg=>?_) (fun fg=>?_)
    ·refine zQ 16 ?_;refine aa.nil (aR ?_);refine zG ?_
     all_goals(simp[cu,ec,fg];done)
    ·refine zQ 3 ?_;refine aa.two 20 rfl (fun bZ=>?_) (fun bZ=>?_)
     ·refine zQ 2 ?_;refine aa.cQ (ai rfl rfl rfl fg) rfl bZ (ab rfl _) ?_;refine zQ 2 ?_;refine aa.two 25 rfl (fun fz=>?_) (fun fz=>?_)
      ·refine zQ 8 ?_;refine aa.nil (aR ?_);refine zG ?_
       all_goals(simp[cu,ec,fg,bZ,fz];done)
      ·refine zQ 3 ?_;refine aa.two 28 rfl (fun dx=>?_) (fun dx=>?_)
       ·refine zQ 2 ?_;refine aa.cQ (ai rfl rfl rfl fz) rfl dx (ab rfl _) ?_;refine zQ 2 ?_;refine aa.nil (aR ?_);refine zG ?_
        all_goals(simp[cu,ec,fg,bZ,fz,dx];done)
       ·refine zQ 2 ?_;refine aa.cH (ai rfl rfl rfl fz) rfl dx (ab rfl _) ?_;refine zQ 2 ?_;refine aa.nil (aR ?_);refine zG ?_
        all_goals(simp[cu,ec,fg,bZ,fz,dx];done)
     ·refine zQ 2 ?_;refine aa.cH (ai rfl rfl rfl fg) rfl bZ (ab rfl _) ?_;refine zQ 5 ?_;refine aa.two 28 rfl (fun dx=>?_) (fun dx=>?_)
      ·refine zQ 5 ?_;refine aa.nil (aR ?_);refine zG ?_
       all_goals(simp[cu,ec,fg,bZ,dx];done)
      ·refine zQ 5 ?_;refine aa.nil (aR ?_);refine zG ?_
       all_goals(simp[cu,ec,fg,bZ,dx];done)
   ·refine zQ 8 ?_;refine aa.two 20 rfl (fun bZ=>?_) (fun bZ=>?_)
    ·refine zQ 5 ?_;refine aa.two 25 rfl (fun fz=>?_) (fun fz=>?_)
     ·refine zQ 8 ?_;refine aa.nil (aR ?_);refine zG ?_
      all_goals(simp[cu,ec,bZ,fz];done)
     ·refine zQ 3 ?_;refine aa.two 28 rfl (fun dx=>?_) (fun dx=>?_)
      ·refine zQ 2 ?_;refine aa.cQ (ai rfl rfl rfl fz) rfl dx (ab rfl _) ?_;refine zQ 2 ?_;refine aa.nil (aR ?_);refine zG ?_
       all_goals(simp[cu,ec,bZ,fz,dx];done)
      ·refine zQ 2 ?_;refine aa.cH (ai rfl rfl rfl fz) rfl dx (ab rfl _) ?_;refine zQ 2 ?_;refine aa.nil (aR ?_);refine zG ?_
       all_goals(simp[cu,ec,bZ,fz,dx];done)
    ·refine zQ 8 ?_;refine aa.two 28 rfl (fun dx=>?_) (fun dx=>?_)
     ·refine zQ 5 ?_;refine aa.nil (aR ?_);refine zG ?_
      all_goals(simp[cu,ec,bZ,dx];done)
     ·refine zQ 5 ?_;refine aa.nil (aR ?_);refine zG ?_
      all_goals(simp[cu,ec,bZ,dx];done)
 dsimp only[aF,List.foldl,nth,u2,u1];refine ak.ret ⟨rx,_,rfl,rl aP hH (rfl)⟩
theorem Hn {s0:St} (a b:List UInt8):∃d,Ev pv 272 [.str a,.str b] s0 d s0∧∃v:Bool,d=.bool v:=by
 refine Ev.Dq rfl Ns rfl rfl rfl ?_;refine zE ?_;obtain⟨aP,hF,hH⟩:=ri s0;generalize ae .ro s0=S at*;refine zQ 5 ?_;refine ak.kW 4 (.bool (decide ((a.length:Int)<b.length)||(((a.length:Int)==b.length) &&Op.bytesLess a b))) [] ?_ (fun ff tmp=>?_)
 ·refine qm ?_;refine aa.ze rfl rfl rfl (ab rfl _) ?_;refine qm ?_;refine aa.ze rfl rfl rfl (ab rfl _) ?_;refine zQ 2 ?_;refine aa.two 10 rfl (fun cK=>?_) (fun cK=>?_)
  ·refine zQ 12 ?_;refine aa.nil (aR ?_);refine zG ?_
   all_goals(simp_all;done)
  ·refine zQ 1 ?_;refine aa.ze (ai rfl rfl rfl cK) rfl rfl (ab rfl _) ?_;refine zQ 1 ?_;refine aa.ze (ai rfl rfl rfl cK) rfl rfl (ab rfl _) ?_;refine zQ 2 ?_;refine aa.two 16 rfl (fun bR=>?_) (fun bR=>?_)
   ·refine zQ 3 ?_;refine aa.cQ (ai rfl rfl rfl cK) rfl bR (ab rfl _) ?_;refine zQ 2 ?_;refine aa.nil (aR ?_);refine zG ?_
    all_goals(simp_all;done)
   ·refine zQ 3 ?_;refine aa.cH (ai rfl rfl rfl cK) rfl bR (ab rfl _) ?_;refine zQ 2 ?_;refine aa.nil (aR ?_);refine zG ?_
    all_goals(simp_all;done)
 dsimp only[aF,List.foldl,nth,u2,u1];refine ak.ret ⟨rx,_,_,rfl,rl aP hH (rfl),?_⟩;exact⟨_,rfl⟩
theorem ni {s0:St} (b:List UInt8) (hb:b.length≤1048576):∃d,Ev pv 273 [.str b] s0 d s0∧∃(n:Int) (v:Bool),d=.tup [.int .i64 n,.bool v]:=by
 refine Ev.Dq rfl Nr rfl rfl rfl ?_;refine zE ?_;obtain⟨aP,hF,hH⟩:=ri s0;generalize ae .ro s0=S at*;refine zQ 9 ?_;refine aa.ze rfl rfl rfl (by dsimp only[Fr.put,u1,u2]<;>rfl) ?_;refine zQ 2 ?_;refine zP (fun h0=>?_) fun h0=>?_
 ·refine zQ 5 ?_;refine ak.ret ⟨rx,_,_,rfl,rl aP hH (rfl),?_⟩;exact⟨_,_,rfl⟩
 ·refine zQ 9 ?_;refine aa.ze rfl rfl rfl (by dsimp only[Fr.put,u1,u2]<;>rfl) ?_;refine zQ 3 ?_;refine ak.loop (fun mm fr st=>∃(i:Nat) (n:Int),fr.clean=⟨12,[.str b,e6 fr 1,e6 fr 2,e6 fr 3,.int .i64 n,e6 fr 5,e6 fr 6,e6 fr 7,e6 fr 8,e6 fr 9,.int .i64 (b.length:Nat),.int .i64 (i:Nat)],[]⟩∧Has s0.bs.length S st []∧(i+mm=b.length)) (b.length) ?_ ?_
  ·exact⟨0,0,rfl,hH,by omega⟩
  rintro mm fr st ⟨i,n,hfr,hH,hi⟩;rw[hfr];clear hfr;generalize e6 fr=ee;clear fr;refine zQ 5 ?_;refine zP (fun h1=>?_) fun h1=>?_
  ·refine zQ 1 ?_
   obtain⟨c,hc⟩:∃c,b[i]?=some c:=⟨b[i]'(by omega),List.getElem?_eq_getElem _⟩
   refine zQ 9 ?_;refine aa.xY (z:=a7 .i64 (10*n)) rfl (ev rfl) (ev rfl) rfl (ab rfl _) ?_;refine zQ 2 ?_;refine aa.Px rfl (ev rfl) (ev rfl) rfl (by assumption) (ab rfl _) ?_;refine aa.go (d:=.int .u8 (a7 .u8 ((c.toNat:Nat)-48))) (st1:=_) rfl rfl rfl (ab rfl _) ?_;refine qg ?_;refine aa.eC (z:=a7 .i64 (a7 .i64 (10*n)+a7 .i64 (a7 .u8 ((c.toNat:Nat)-48)))) rfl (ev rfl) (ev rfl) rfl (ab rfl _) ?_;refine zQ 6 ?_;exact⟨mm-1,by omega,⟨i+1,_,rfl,hH,by omega⟩⟩
  ·refine zQ 9 ?_;refine ak.ret ⟨rx,_,_,rfl,rl aP hH (rfl),?_⟩;exact⟨_,_,rfl⟩
theorem pr:∀gs:List (Nat×Nat),kf ((gs.map bC).map (j7 2))=some (gs.map fun g=>((g.1:Nat):Int))
 |[]=>rfl
 |g::gs=>by
  have ih:=pr gs;simp only[List.map_cons];show(match kf ((gs.map bC).map (j7 2)) with|some rs=>some (((g.1:Nat):Int)::rs)|none=>none)=_;rw[ih]
theorem yG:∀(rs:List Int) (acc:List UInt8),(digS rs acc).2≤rs.length∧(digS rs acc).1.length≤acc.length+(digS rs acc).2
 |[],acc=>by simp[digS]
 |r::rs,acc=>by
  unfold digS
  split
  ·have h:=yG rs (if 48<r∨acc≠[] then acc++[UInt8.ofNat r.toNat] else acc);simp only[List.length_cons]
   have hl:(if 48<r∨acc≠[] then acc++[UInt8.ofNat r.toNat] else acc).length≤acc.length+1:=by
    split<;>simp
   omega
  ·simp
structure lV (gs:List (Nat×Nat)) (b_:List Int):Prop where
 gl:gs.length≤120
 pl:b_.length=gs.length
theorem uU {N k:Nat} {S s0:St} {H:List a_} {gs:List (Nat×Nat)} {bJ:D} {s:fJ} (tq:gs.length≤120) (hi:s.i≤gs.length) (hne:gs≠[]) (hH:Has N S s0 (.box k (.mem 0 false (aQ gs bJ s))::H)):
  ∃d ah,Ev pv 271 [.ptr k 0 0] s0 d ah∧∃(t:List UInt8) (v:Bool) (m:Nat),d=.tup [.str t,.bool v]∧t.length≤120∧s.i+m≤gs.length∧Has N S ah (.box k (.mem 0 false (aQ gs bJ {s with i:=s.i+m}))::H):=by
 have hb:=hH.at aN;have hw:=gq (cs:=[.int .i64 0]) hH (hH.ge aN).1 (.inr rfl);have hl:=yG ((gs.map fun g=>((g.1:Nat):Int)).drop s.i) [];obtain⟨h1,h2⟩:=hl;simp only[List.length_drop,List.length_map,List.length_nil] at h1 h2;refine⟨_,_,Ev.jS rfl ?_,(digS ((gs.map fun g=>((g.1:Nat):Int)).drop s.i) []).1,decide (0<(digS ((gs.map fun g=>((g.1:Nat):Int)).drop s.i) []).2),(digS ((gs.map fun g=>((g.1:Nat):Int)).drop s.i) []).2,rfl,by omega,by omega,hH.ry (az:=0) aN⟩
 have hd:decide ((gs.map fun g=>((g.1:Nat):Int))≠[]∧(0:Int)≤(s.i:Nat)∧((s.i:Nat):Int).toNat≤(gs.map fun g=>((g.1:Nat):Int)).length∧(gs.map fun g=>((g.1:Nat):Int)).length<1099511627776)=true:=by
  rw[decide_eq_true];refine⟨by simpa using hne,by omega,by simp;omega,by simp;omega⟩
 show Dd [.ptr k 0 0] s0=_;simp only[Dd,St.mem_of hb];show(match kf ((gs.map bC).map (j7 2)) with|some rs=>Ih s0 k 0 0 rs (s.i:Nat)|none=>none)=_;rw[pr];simp only[Ih,hd];have hwr:=lg (cs:=[.int .i64 ((s.i+(digS ((gs.map fun g=>((g.1:Nat):Int)).drop s.i) []).2:Nat))]) (off:=2) hb (by show 2+1≤7;omega) hw;simp only[Int.toNat_natCast,Nat.zero_add];rw[hwr]
 rfl
def Gu (gs:List (Nat×Nat)) (s s':fJ) (d1:D) (b:Bool):Prop:=
 s'.o=s.o∧s'.g=s.g∧s.i≤s'.i∧s'.i≤gs.length∧(d1=.nul∨∃a,d1=bt a∧a.length≤8)∧(s'.e≠0∨s'.e=0∧s.i<s'.i∧∃a,d1=bt a∧a.length≤8∧a≠[])
theorem dA {b_:List Int} {s:fJ} {i:Nat} {e:Int} (he:s.e=0) (h:e≠0):(jC b_ s i e).e≠0∧(jC b_ s i e).i=s.i∧(jC b_ s i e).o=s.o∧(jC b_ s i e).g=s.g:=by
 unfold jC;rw[if_pos he];exact⟨h,rfl,rfl,rfl⟩
theorem A' {N k:Nat} {S s0:St} {H:List a_} {gs:List (Nat×Nat)} {bJ:D} {b_:List Int} {s:fJ} (bq:lV gs b_) (he:s.e=0) (hi:s.i<gs.length) (hH:Has N S s0 (.box k (.mem 0 false (aQ gs bJ s))::.aC bJ 1 (b_.map ax)::H)):
  ∃d ah,Ev pv 268 [.ptr k 0 0] s0 d ah∧∃(d1:D) (b:Bool) (s':fJ),d=.tup [d1,.bool b]∧Gu gs s s' d1 b∧Has N S ah (.box k (.mem 0 false (aQ gs bJ s'))::.aC bJ 1 (b_.map ax)::H):=by
 have tq:=bq.gl;have jL:=bq.pl;refine Ev.gA rfl Nv rfl rfl rfl ?_;refine zE ?_;have bn:=hH;have hH:=hH.aW;have bh:(ae .rw s0).bs=s0.bs:=rfl;generalize ae .rw s0=S2 at*;have IZ:Arg N S2 2 (hU gs) (gs.map bC):=Arg.pure (fun st=>eR st gs);refine zQ 22 ?_;refine qT hH aN fun st hH=>?_;dsimp only[u2,u1,u3,u4,setMany,u5,u6,D.cells,Nat.reduceAdd,aQ,bC,ax,au] at hH;refine zQ 12 ?_;refine qn ?_;simp only[List.length_map];refine zQ 2 ?_;refine zP (fun h0=>?_) fun h0=>?_
 ·refine zQ 4 ?_;obtain⟨_,st,aB,rfl,hH⟩:=dh (s:={s with i:=s.i+1}) s.i 4 (by omega) hH;refine qv aB ?_;refine zQ 6 ?_;obtain⟨h1,h2,h3,h4⟩:=dA (b_:=b_) (s:={s with i:=s.i+1}) (i:=s.i) (e:=4) he (by decide);refine ak.ret ⟨rx,_,_,_,rfl,ag (rfl),?_⟩;exact⟨_,_,_,rfl,⟨h3,h4,by rw[h2];simp,by rw[h2];exact hi,.inl rfl,.inl h1⟩,bn.aj bh hH⟩
 ·obtain⟨g,hg⟩:∃g,gs[s.i+1]?=some g:=⟨gs[s.i+1]'(by omega),List.getElem?_eq_getElem _⟩
  have gm:(gs.map bC)[s.i+1]?=some (bC g):=by rw[List.getElem?_map,hg];rfl
  have hlt:=bo hg;refine zQ 9 ?_;obtain⟨_,st,aB,rfl,hH⟩:=AQ (s:={s with i:=s.i+1}) (s.i+1) hlt hH;refine qv aB ?_;refine zQ 1 ?_;dsimp only[aQ] at hH;refine qc (fun hb=>?_) (fun hb=>?_)<;>try simp only[cs] at hb
  ·refine zQ 7 ?_;obtain⟨_,st,aB,rfl,hH⟩:=dh (s:={s with i:=s.i+1}) (s.i+1) 4 (by omega) hH;refine qv aB ?_;refine zQ 6 ?_;obtain⟨h1,h2,h3,h4⟩:=dA (b_:=b_) (s:={s with i:=s.i+1}) (i:=s.i+1) (e:=4) he (by decide);refine ak.ret ⟨rx,_,_,_,rfl,ag (rfl),?_⟩;exact⟨_,_,_,rfl,⟨h3,h4,by rw[h2];simp,by rw[h2];exact hi,.inl rfl,.inl h1⟩,bn.aj bh hH⟩
  ·refine zQ 11 ?_;refine qr fun PC JV=>?_;refine qf (fo:=0) fun SL Mi=>?_;refine zQ 12 ?_;refine qT hH aN fun st hH=>?_;dsimp only[u2,u1,u3,u4,setMany,u5,u6,D.cells,Nat.reduceAdd,aQ,bC,ax,au] at hH;refine zQ 6 ?_
   have gD:∀(a:List Rg) (b:Bool),a.length≤8→a≠[]→Gu gs s {s with i:=s.i+1+1} (bt a) b:=fun a b h1 h2=>⟨rfl,rfl,by show s.i≤s.i+1+1;omega,by show s.i+1+1≤_;omega,.inr ⟨a,rfl,h1⟩,.inr ⟨he,by show s.i<s.i+1+1;omega,a,rfl,h1,h2⟩⟩
   have kD:∀(r:Int),0≤r→r<55296→(lE [(r,r)]).length≤8∧lE [(r,r)]≠[]:=by
    intro r h1 h2;obtain⟨_,h3,h4⟩:=nD (s0:=s0) (x:=bt [(r,r)]) (l:=[(r,r)]) (eO _ _) (by simp);exact⟨by simp at h3;omega,x8 h1 h2 h4⟩
   refine zQ 6 ?_;refine zI (fun q1=>?_) fun q1=>?_
   ·refine zQ 2 ?_;refine qv (jO 10) ?_;refine zQ 3 ?_;refine ak.ret ⟨rx,_,_,_,rfl,ag (rfl),?_⟩;exact⟨_,_,_,rfl,gD _ _ (kD 10 (by decide) (by decide)).1 (kD 10 (by decide) (by decide)).2,bn.aj bh hH⟩
   ·refine zQ 5 ?_;refine zI (fun q2=>?_) fun q2=>?_
    ·refine zQ 2 ?_;refine qv (jO 9) ?_;refine zQ 3 ?_;refine ak.ret ⟨rx,_,_,_,rfl,ag (rfl),?_⟩;exact⟨_,_,_,rfl,gD _ _ (kD 9 (by decide) (by decide)).1 (kD 9 (by decide) (by decide)).2,bn.aj bh hH⟩
    ·refine zQ 5 ?_;refine zI (fun q3=>?_) fun q3=>?_
     ·refine zQ 2 ?_;refine qv (jO 13) ?_;refine zQ 3 ?_;refine ak.ret ⟨rx,_,_,_,rfl,ag (rfl),?_⟩;exact⟨_,_,_,rfl,gD _ _ (kD 13 (by decide) (by decide)).1 (kD 13 (by decide) (by decide)).2,bn.aj bh hH⟩
     ·refine zQ 5 ?_;refine zI (fun q4=>?_) fun q4=>?_
      ·refine zQ 2 ?_;refine aa.ij (qs:=[(0,_),(1,_)]) rfl rfl rfl rfl ⟨rfl,(ev rfl),(by rfl),rfl,(ev rfl),(by rfl),trivial⟩ (by intro q hq;simp only[List.mem_cons,List.not_mem_nil,or_false] at hq;rcases hq with rfl|rfl<;>exact⟨rfl,by exact Nat.le_of_ble_eq_true rfl⟩) (by show List.foldl _ [_,_] _=_;dsimp only[List.foldl_cons,List.foldl_nil,u2,u1]<;>rfl) (ab rfl _) ?_;refine qh (s:=2) (vs:=[_]) hH fun k73 st VX hH=>?_;obtain⟨aB,hl,K7⟩:=nD (l:=[(48,57)]) (hH.rows aN) (by simp);refine qv aB ?_;refine zQ 3 ?_;refine ak.ret ⟨rx,_,_,_,rfl,ag (rfl),?_⟩;exact⟨_,_,_,rfl,gD _ _ (by simp at hl;omega) (vV (r:=48) (by decide) (by decide) ⟨_,List.mem_cons_self ..,by decide,by decide⟩ K7),bn.aj bh (hH.drop 1)⟩
      ·refine zQ 5 ?_;refine zI (fun q5=>?_) fun q5=>?_
       ·refine zQ 2 ?_;refine aa.ij (qs:=[(0,_),(1,_)]) rfl rfl rfl rfl ⟨rfl,(ev rfl),(by rfl),rfl,(ev rfl),(by rfl),trivial⟩ (by intro q hq;simp only[List.mem_cons,List.not_mem_nil,or_false] at hq;rcases hq with rfl|rfl<;>exact⟨rfl,by exact Nat.le_of_ble_eq_true rfl⟩) (by show List.foldl _ [_,_] _=_;dsimp only[List.foldl_cons,List.foldl_nil,u2,u1]<;>rfl) (ab rfl _) ?_;refine aa.ij (qs:=[(0,_),(1,_)]) rfl rfl rfl rfl ⟨rfl,(ev rfl),(by rfl),rfl,(ev rfl),(by rfl),trivial⟩ (by intro q hq;simp only[List.mem_cons,List.not_mem_nil,or_false] at hq;rcases hq with rfl|rfl<;>exact⟨rfl,by exact Nat.le_of_ble_eq_true rfl⟩) (by show List.foldl _ [_,_] _=_;dsimp only[List.foldl_cons,List.foldl_nil,u2,u1]<;>rfl) (ab rfl _) ?_;refine aa.ij (qs:=[(0,_),(1,_)]) rfl rfl rfl rfl ⟨rfl,(ev rfl),(by rfl),rfl,(ev rfl),(by rfl),trivial⟩ (by intro q hq;simp only[List.mem_cons,List.not_mem_nil,or_false] at hq;rcases hq with rfl|rfl<;>exact⟨rfl,by exact Nat.le_of_ble_eq_true rfl⟩) (by show List.foldl _ [_,_] _=_;dsimp only[List.foldl_cons,List.foldl_nil,u2,u1]<;>rfl) (ab rfl _) ?_;refine qh (s:=2) (vs:=[_,_,_]) hH fun k80 st VV hH=>?_;obtain⟨aB,hl,K7⟩:=nD (l:=[(9,10),(13,13),(32,32)]) (hH.rows aN) (by simp);refine qv aB ?_;refine zQ 3 ?_;refine ak.ret ⟨rx,_,_,_,rfl,ag (rfl),?_⟩;exact⟨_,_,_,rfl,gD _ _ (by simp at hl;omega) (vV (r:=9) (by decide) (by decide) ⟨_,List.mem_cons_self ..,by decide,by decide⟩ K7),bn.aj bh (hH.drop 1)⟩
       ·refine zQ 5 ?_;refine zI (fun q6=>?_) fun q6=>?_
        ·refine zQ 2 ?_;refine aa.ij (qs:=[(0,_),(1,_)]) rfl rfl rfl rfl ⟨rfl,(ev rfl),(by rfl),rfl,(ev rfl),(by rfl),trivial⟩ (by intro q hq;simp only[List.mem_cons,List.not_mem_nil,or_false] at hq;rcases hq with rfl|rfl<;>exact⟨rfl,by exact Nat.le_of_ble_eq_true rfl⟩) (by show List.foldl _ [_,_] _=_;dsimp only[List.foldl_cons,List.foldl_nil,u2,u1]<;>rfl) (ab rfl _) ?_;refine aa.ij (qs:=[(0,_),(1,_)]) rfl rfl rfl rfl ⟨rfl,(ev rfl),(by rfl),rfl,(ev rfl),(by rfl),trivial⟩ (by intro q hq;simp only[List.mem_cons,List.not_mem_nil,or_false] at hq;rcases hq with rfl|rfl<;>exact⟨rfl,by exact Nat.le_of_ble_eq_true rfl⟩) (by show List.foldl _ [_,_] _=_;dsimp only[List.foldl_cons,List.foldl_nil,u2,u1]<;>rfl) (ab rfl _) ?_;refine aa.ij (qs:=[(0,_),(1,_)]) rfl rfl rfl rfl ⟨rfl,(ev rfl),(by rfl),rfl,(ev rfl),(by rfl),trivial⟩ (by intro q hq;simp only[List.mem_cons,List.not_mem_nil,or_false] at hq;rcases hq with rfl|rfl<;>exact⟨rfl,by exact Nat.le_of_ble_eq_true rfl⟩) (by show List.foldl _ [_,_] _=_;dsimp only[List.foldl_cons,List.foldl_nil,u2,u1]<;>rfl) (ab rfl _) ?_;refine aa.ij (qs:=[(0,_),(1,_)]) rfl rfl rfl rfl ⟨rfl,(ev rfl),(by rfl),rfl,(ev rfl),(by rfl),trivial⟩ (by intro q hq;simp only[List.mem_cons,List.not_mem_nil,or_false] at hq;rcases hq with rfl|rfl<;>exact⟨rfl,by exact Nat.le_of_ble_eq_true rfl⟩) (by show List.foldl _ [_,_] _=_;dsimp only[List.foldl_cons,List.foldl_nil,u2,u1]<;>rfl) (ab rfl _) ?_;refine qh (s:=2) (vs:=[_,_,_,_]) hH fun k88 st MF hH=>?_;obtain⟨aB,hl,K7⟩:=nD (l:=[(48,57),(65,90),(95,95),(97,122)]) (hH.rows aN) (by simp);refine qv aB ?_;refine zQ 3 ?_;refine ak.ret ⟨rx,_,_,_,rfl,ag (rfl),?_⟩;exact⟨_,_,_,rfl,gD _ _ (by simp at hl;omega) (vV (r:=48) (by decide) (by decide) ⟨_,List.mem_cons_self ..,by decide,by decide⟩ K7),bn.aj bh (hH.drop 1)⟩
        ·refine zQ 5 ?_;refine qv (Hm _) ?_;refine zQ 2 ?_;refine ak.cond (by rfl) (fun q7=>?_) (fun q7=>?_)<;>try simp only[decide_eq_true_eq,decide_eq_false_iff_not,Bool.not_eq_true',Bool.not_eq_false'] at q7
         ·refine zQ 4 ?_;obtain⟨_,st,aB,rfl,hH⟩:=dh (s:={s with i:=s.i+1+1}) s.i 4 (by omega) hH;refine qv aB ?_;refine zQ 6 ?_;obtain⟨h1,h2,h3,h4⟩:=dA (b_:=b_) (s:={s with i:=s.i+1+1}) (i:=s.i) (e:=4) he (by decide);refine ak.ret ⟨rx,_,_,_,rfl,ag (rfl),?_⟩;exact⟨_,_,_,rfl,⟨h3,h4,by rw[h2];show s.i≤s.i+1+1;omega,by rw[h2];show s.i+1+1≤_;omega,.inl rfl,.inl h1⟩,bn.aj bh hH⟩
         ·refine zQ 4 ?_;refine qv (jO _) ?_;refine zQ 3 ?_;have hm:=kD ((g.1:Nat):Int) (by omega) (by omega);refine ak.ret ⟨rx,_,_,_,rfl,ag (rfl),?_⟩;exact⟨_,_,_,rfl,gD _ _ hm.1 hm.2,bn.aj bh hH⟩
def fc (fr:Go.V.Fr) (k:Nat):Go.V.D:=Go.V.nth .bj fr.loc k
theorem JA {s0:St} {p:Pg} {pc:Nat} {i:aK} (hp:p.ok) (hi:p.code[pc]?=some i):Ev pv 146 [p.d,.int .i64 (pc:Nat)] s0 (.bool (cv p.code.length p.aq.length pc i)) s0:=by
 refine Ev.ia rfl Oe rfl rfl rfl ?_;refine zE ?_;obtain⟨aP,hF,hH⟩:=ri s0;generalize ae .ro s0=S at*;have hc:=hp.c.arg s0.bs.length S;have hs:=hp.s.arg s0.bs.length S;have Lb:=hp.i i (List.mem_of_getElem? hi);have CQ:=Lb.1;have ML:=Lb.1.arg s0.bs.length S;have hil:=Lb.2;have hcl:=hp.cl;have ka:=hp.sl;have hr:=gk hi;have hlt:=bo hi;unfold Pg.d;refine qq<|qj fun K hK=>qb hH fun k2 st hk2 hH=>?_;dsimp only[u2,u1,u3,u4,setMany,u5,u6,D.cells,Nat.reduceAdd,Pg.cs,aT,ax] at hH;refine qm ?_;refine qe hK<|qq<|qj fun K hK=>qp (o:=0) ?_;refine ql hH aN ?_;refine qm ?_;refine qr fun SY Mt=>?_;refine aa.cV rfl (ev rfl) (by assumption) rfl (by dsimp only[Fr.put,u1,u2]<;>rfl) ?_;refine qa hH fun k5 st K' hH=>?_;refine qS hH aN fun st hH=>?_;dsimp only[u2,u1,u3,u4,setMany,u5,u6,D.cells,Nat.reduceAdd,Pg.cs,aT,ax] at hH;refine qe hK<|qq<|qj fun K hK=>qp (o:=0) ?_;refine ql hH bV ?_;refine qn ?_;simp only[List.length_map];refine qm ?_;refine qe hK<|qq<|qj fun K hK=>qp (o:=0) ?_;refine ql hH aN ?_;refine aa.go (d:=.agg [.int .i64 i.op,.int .i64 0,.int .i64 0,.nul]) (st1:=_) rfl rfl rfl (by dsimp only[Fr.put,u1,u2]<;>rfl) ?_;refine qa hH fun k7 st O6 hH=>?_;refine qS hH aN fun st hH=>?_;dsimp only[u2,u1,u3,u4,setMany,u5,u6,D.cells,Nat.reduceAdd,Pg.cs,aT,ax] at hH;refine qe hK<|qq<|qj fun K hK=>qm ?_;refine qe hK<|qq<|qq<|qj fun K hK=>qp (o:=0) ?_;refine ql hH bV ?_;refine qe hK<|ak.merge (fun fr st=>∃(bx bz:Int) (Sr:D) (fl:Bool) (Pn:List Rg) (tmp:List (Nat×D)),fr=⟨22,[fc fr 0,.int .i64 (pc:Nat),.ptr k2 0 0,fc fr 3,.bool false,.ptr k5 0 0,.int .i64 (p.code.length:Nat),.ptr k7 0 0,.bool fl,fc fr 9,fc fr 10,fc fr 11,fc fr 12,fc fr 13,fc fr 14,fc fr 15,fc fr 16,fc fr 17,fc fr 18,fc fr 19,fc fr 20,fc fr 21],tmp⟩∧Has s0.bs.length S st [.box k7 (.mem 0 false [.int .i64 i.op,.int .i64 bx,.int .i64 bz,Sr]),.box k5 (.mem 0 false [.int .i64 i.op,.int .i64 i.x,.int .i64 i.y,i.rd]),.box k2 (.mem 0 false [p.cd,p.sd])]∧(gd Sr 2 (Pn.map au))∧(cv p.code.length p.aq.length pc i=(((i.x==bx) &&(i.y==bz)) &&((i.rs.length:Int)==Pn.length) &&(!fl||decide (((pc+1:Nat):Int)<p.code.length))))) ?_ ?_
 ·refine ak.block<|qq<|qj fun K hK=>qg ?_;refine qm ?_;refine qe hK<|zI (fun h1=>?_) fun h1=>?_
  ·have nb:cv p.code.length p.aq.length pc i=(i.y==0 &&(decide (((pc+1:Nat):Int)<p.code.length) &&i.x==0 &&dO i.rs)):=by unfold cv;rw[if_pos h1]
   refine qq<|qj fun K hK=>qp (o:=3) ?_;refine ql hH bV ?_;refine qp (o:=3) ?_;refine qT hH aN fun st hH=>?_;dsimp only[u2,u1,u3,u4,setMany,u5,u6,D.cells,Nat.reduceAdd,Pg.cs,aT,ax] at hH;refine qe hK<|qq<|ak.cY 30 (.bool (!dO i.rs)) [] ?_ (fun ff tmp cx=>?_)
   ·refine qp (o:=3) ?_;refine ql hH bV ?_;refine qv (xB (ML.rows hH) hil) ?_;refine qg ?_;refine aa.nil (aJ ?_ ?_)
    ·dsimp only[aF,List.foldl,nth,u2,u1]
     all_goals(first|rfl|simp)
    ·exact zS
     all_goals(first|rfl|(simp[];done)|(simp_all;done)|(simp[];omega)|(simp_all;omega))
   dsimp only[aF,List.foldl,nth,u2,u1];refine ak.cond (by assumption) (fun h2=>?_) (fun h2=>?_)<;>try simp only[Bool.not_eq_true',Bool.not_eq_false'] at h2
   ·refine qq<|qj fun K hK=>qm ?_;refine qe hK ?_;rw[nb,h2];simp only[Bool.and_false];refine ak.ret ⟨rx,_,rfl,rl aP hH (rfl)⟩
   ·refine ak.skip ?_;refine⟨0,0,i.rd,true,i.rs,_,rfl,hH,CQ,?_⟩;rw[nb,h2];cases hx:(i.x==0)<;>cases hy:(i.y==0)<;>simp
  ·have nb:cv p.code.length p.aq.length pc i=(i.rs.isEmpty &&(if i.op=2 then jq i.x p.code.length &&jq i.y p.code.length
  else i.y==0 &&
   (if i.op=3 then jq i.x p.code.length
   else if i.op=4 then decide (((pc+1:Nat):Int)<p.code.length) &&jq i.x 10
   else if i.op=5∨i.op=6 then decide (((pc+1:Nat):Int)<p.code.length) &&i.x==0
   else if i.op=7 then jq i.x p.aq.length
   else false))):=by unfold cv;rw[if_neg h1]
   have HU:i.rs.isEmpty=((i.rs.length:Int)==(([]:List Rg).length:Int)):=by cases i.rs<;>simp<;>omega
   have Dv:gd .nul 2 (([]:List Rg).map au):=.inl ⟨rfl,rfl⟩;refine qq<|qj fun K hK=>qg ?_;refine qm ?_;refine qe hK<|zI (fun h2=>?_) fun h2=>?_
   ·rw[if_pos h2] at nb;refine qq<|qj fun K hK=>qm ?_;refine qe hK ?_;have bn:=hH;change ak _ _ _ _ _ _;refine qq ?_;generalize hK:eD _ _ _ _=K;refine ak.Lp rfl ?_;refine qw.cons ?_;refine qp (o:=1) ?_;refine aa.nil ⟨rfl,?_⟩;refine qw.cons ?_;refine ql hH bV ?_;refine aa.nil ⟨rfl,?_⟩;refine qw.cons ?_;refine qp (o:=2) ?_;refine aa.nil ⟨rfl,?_⟩;refine qw.cons ?_;refine ql hH bV ?_;refine aa.nil ⟨rfl,?_⟩;refine qw.cons ?_;refine qp (o:=1) ?_;refine aa.nil ⟨rfl,?_⟩;refine qw.cons ?_;refine qT hH aN fun st hH=>?_;dsimp only[u2,u1,u3,u4,setMany,u5,u6,D.cells,Nat.reduceAdd,Pg.cs,aT,ax] at hH;refine aa.nil ⟨by exact Bool.and_eq_true_iff.2 ⟨Dh rfl rfl rfl (bn.at bV) (hH.at bV) (bn.at bV) (by simp[refs,D.ref,CQ.ref]),rfl⟩,?_⟩;refine qw.cons ?_;refine qp (o:=2) ?_;refine aa.nil ⟨rfl,?_⟩;refine qw.cons ?_;refine qT hH aN fun st hH=>?_;dsimp only[u2,u1,u3,u4,setMany,u5,u6,D.cells,Nat.reduceAdd,Pg.cs,aT,ax] at hH;refine aa.nil ⟨rfl,?_⟩;refine qw.nil ?_;subst hK;refine qq<|ak.cY 58 (.bool (((decide (i.x<0)||decide (i.x≥p.code.length))||decide (i.y<0))||decide (i.y≥p.code.length))) [] ?_ (fun ff tmp cx=>?_)
    ·refine qp (o:=1) ?_;refine ql hH bV ?_;refine qg ?_;refine qm ?_;refine aa.two 42 rfl (fun bk=>?_) (fun bk=>?_)
     ·refine qs ?_ (hg:=wn bk);refine qs ?_ (hg:=wn bk);refine qs ?_ (hg:=wn bk);refine qs ?_ (hg:=wn bk);refine qt bk ?_;refine qm ?_;refine qs ?_;refine qs ?_;refine qs ?_;refine qg ?_;refine qm ?_;refine qs ?_;refine qs ?_;refine qs ?_;refine qs ?_;refine qg ?_;refine aa.nil (aJ ?_ ?_)
      ·dsimp only[aF,List.foldl,nth,u2,u1]
       all_goals(first|rfl|simp)
      ·refine zF ?_
       all_goals(simp[bk];done)
     ·refine qp (o:=1) ?_ (hg:=wi bk);refine ql hH bV ?_ (hg:=wi bk);refine qm ?_ (hg:=wi bk);refine qg ?_ (hg:=wi bk);refine qu bk ?_;refine qm ?_;refine aa.two 48 rfl (fun ec=>?_) (fun ec=>?_)
      ·refine qs ?_ (hg:=wn ec);refine qs ?_ (hg:=wn ec);refine qs ?_ (hg:=wn ec);refine qt ec ?_;refine qm ?_;refine qs ?_;refine qs ?_;refine qs ?_;refine qs ?_;refine qg ?_;refine aa.nil (aJ ?_ ?_)
       ·dsimp only[aF,List.foldl,nth,u2,u1]
        all_goals(first|rfl|simp)
       ·refine zF ?_
        all_goals(simp[bk,ec];done)
      ·refine qp (o:=2) ?_ (hg:=wi ec);refine ql hH bV ?_ (hg:=wi ec);refine qg ?_ (hg:=wi ec);refine qu ec ?_;refine qm ?_;refine aa.two 53 rfl (fun fg=>?_) (fun fg=>?_)
       ·refine qs ?_ (hg:=wn fg);refine qs ?_ (hg:=wn fg);refine qs ?_ (hg:=wn fg);refine qs ?_ (hg:=wn fg);refine qt fg ?_;refine aa.nil (aJ ?_ ?_)
        ·dsimp only[aF,List.foldl,nth,u2,u1]
         all_goals(first|rfl|simp)
        ·refine zF ?_
         all_goals(simp[bk,ec,fg];done)
       ·refine qp (o:=2) ?_ (hg:=wi fg);refine ql hH bV ?_ (hg:=wi fg);refine qm ?_ (hg:=wi fg);refine qg ?_ (hg:=wi fg);refine qu fg ?_;refine aa.nil (aJ ?_ ?_)
        ·dsimp only[aF,List.foldl,nth,u2,u1]
         all_goals(first|rfl|simp)
        ·refine zF ?_
         all_goals(simp[bk,ec,fg];done)
    dsimp only[aF,List.foldl,nth,u2,u1]
    have nf:(jq i.x p.code.length &&jq i.y p.code.length)=!(((decide (i.x<0)||decide (i.x≥p.code.length))||decide (i.y<0))||decide (i.y≥p.code.length)):=by
     unfold jq;simp only[Bool.not_or,←decide_not,Int.not_lt,Int.not_le,ge_iff_le,Bool.and_assoc]
    refine qc (fun h3=>?_) (fun h3=>?_)<;>try simp only[cs] at h3
    ·refine qq<|qj fun K hK=>qm ?_;refine qe hK ?_;rw[nb,nf,h3];simp only[Bool.not_true,Bool.and_false];refine ak.ret ⟨rx,_,rfl,rl aP hH (rfl)⟩
    ·refine ak.skip ?_;exact⟨i.x,i.y,.nul,false,[],_,rfl,hH,Dv,by rw[nb,nf,h3,HU];simp⟩
   ·rw[if_neg h2] at nb;refine qq<|qj fun K hK=>qg ?_;refine qm ?_;refine qe hK<|zI (fun h3=>?_) fun h3=>?_
    ·rw[if_pos h3] at nb;refine qq<|qj fun K hK=>qm ?_;refine qe hK<|qq<|qj fun K hK=>qp (o:=1) ?_;refine ql hH bV ?_;refine qp (o:=1) ?_;refine qT hH aN fun st hH=>?_;dsimp only[u2,u1,u3,u4,setMany,u5,u6,D.cells,Nat.reduceAdd,Pg.cs,aT,ax] at hH;refine qe hK<|qq<|ak.cY 72 (.bool (decide (i.x<0)||decide (i.x≥p.code.length))) [] ?_ (fun ff tmp cx=>?_)
     ·refine qp (o:=1) ?_;refine ql hH bV ?_;refine qg ?_;refine qm ?_;refine aa.two 67 rfl (fun bk=>?_) (fun bk=>?_)
      ·refine qs ?_ (hg:=wn bk);refine qs ?_ (hg:=wn bk);refine qs ?_ (hg:=wn bk);refine qs ?_ (hg:=wn bk);refine qt bk ?_;refine aa.nil (aJ ?_ ?_)
       ·dsimp only[aF,List.foldl,nth,u2,u1]
        all_goals(first|rfl|simp)
       ·refine zF ?_
        all_goals(simp[bk];done)
      ·refine qp (o:=1) ?_ (hg:=wi bk);refine ql hH bV ?_ (hg:=wi bk);refine qm ?_ (hg:=wi bk);refine qg ?_ (hg:=wi bk);refine qu bk ?_;refine aa.nil (aJ ?_ ?_)
       ·dsimp only[aF,List.foldl,nth,u2,u1]
        all_goals(first|rfl|simp)
       ·refine zF ?_
        all_goals(simp[bk];done)
     dsimp only[aF,List.foldl,nth,u2,u1]
     have nf:jq i.x p.code.length=!(decide (i.x<0)||decide (i.x≥p.code.length)):=by
      unfold jq;simp only[Bool.not_or,←decide_not,Int.not_lt,Int.not_le,ge_iff_le]
     refine qc (fun h4=>?_) (fun h4=>?_)<;>try simp only[cs] at h4
     ·refine qq<|qj fun K hK=>qm ?_;refine qe hK ?_;rw[nb,nf,h4];simp only[Bool.not_true,Bool.and_false];refine ak.ret ⟨rx,_,rfl,rl aP hH (rfl)⟩
     ·refine ak.skip ?_;exact⟨i.x,0,.nul,false,[],_,rfl,hH,Dv,by rw[nb,nf,h4,HU];cases(i.y==0)<;>simp⟩
    ·rw[if_neg h3] at nb;refine qq<|qj fun K hK=>qg ?_;refine qm ?_;refine qe hK<|zI (fun h4=>?_) fun h4=>?_
     ·rw[if_pos h4] at nb;refine qq<|qj fun K hK=>qp (o:=1) ?_;refine ql hH bV ?_;refine qp (o:=1) ?_;refine qT hH aN fun st hH=>?_;dsimp only[u2,u1,u3,u4,setMany,u5,u6,D.cells,Nat.reduceAdd,Pg.cs,aT,ax] at hH;refine qe hK<|qq<|ak.cY 85 (.bool (decide (i.x<0)||decide (i.x≥10))) [] ?_ (fun ff tmp cx=>?_)
      ·refine qp (o:=1) ?_;refine ql hH bV ?_;refine qg ?_;refine qm ?_;refine aa.two 81 rfl (fun bk=>?_) (fun bk=>?_)
       ·refine qs ?_ (hg:=wn bk);refine qs ?_ (hg:=wn bk);refine qs ?_ (hg:=wn bk);refine qt bk ?_;refine aa.nil (aJ ?_ ?_)
        ·dsimp only[aF,List.foldl,nth,u2,u1]
         all_goals(first|rfl|simp)
        ·refine zF ?_
         all_goals(simp[bk];done)
       ·refine qp (o:=1) ?_ (hg:=wi bk);refine ql hH bV ?_ (hg:=wi bk);refine qg ?_ (hg:=wi bk);refine qu bk ?_;refine aa.nil (aJ ?_ ?_)
        ·dsimp only[aF,List.foldl,nth,u2,u1]
         all_goals(first|rfl|simp)
        ·refine zF ?_
         all_goals(simp[bk];done)
      dsimp only[aF,List.foldl,nth,u2,u1]
      have nf:jq i.x 10=!(decide (i.x<0)||decide (i.x≥10)):=by
       unfold jq;simp only[Bool.not_or,←decide_not,Int.not_lt,Int.not_le,ge_iff_le]
      refine qc (fun h5=>?_) (fun h5=>?_)<;>try simp only[cs] at h5
      ·refine qq<|qj fun K hK=>qm ?_;refine qe hK ?_;rw[nb,nf,h5];simp only[Bool.not_true,Bool.and_false];refine ak.ret ⟨rx,_,rfl,rl aP hH (rfl)⟩
      ·refine ak.skip ?_;exact⟨i.x,0,.nul,true,[],_,rfl,hH,Dv,by rw[nb,nf,h5,HU];cases(i.y==0)<;>simp⟩
     ·rw[if_neg h4] at nb;refine qq<|qq<|qj fun K hK=>qg ?_;refine qm ?_;refine qe hK ?_
      by_cases h5:i.op=5
      ·rw[if_pos (.inl h5)] at nb;refine qD rfl (by simp[h5]) ?_;refine ak.skip<|qD rfl (by simp[h5]) ?_;refine ak.skip ?_;exact⟨0,0,.nul,true,[],_,rfl,hH,Dv,by rw[nb,HU];cases(i.y==0)<;>cases(i.x==0)<;>simp⟩
      ·refine qE rfl (by simp[h5]) ?_;refine qj fun K hK=>qg ?_;refine qm ?_;refine qe hK<|zI (fun h6=>?_) fun h6=>?_
       ·rw[if_pos (.inr h6)] at nb;refine ak.skip ?_;exact⟨0,0,.nul,true,[],_,rfl,hH,Dv,by rw[nb,HU];cases(i.y==0)<;>cases(i.x==0)<;>simp⟩
       ·rw[if_neg (by omega)] at nb;refine qq<|qj fun K hK=>qg ?_;refine qm ?_;refine qe hK<|zI (fun h7=>?_) fun h7=>?_
        ·rw[if_pos h7] at nb;refine qq<|qj fun K hK=>qm ?_;refine qe hK<|qq<|qj fun K hK=>qp (o:=1) ?_;refine ql hH bV ?_;refine qp (o:=1) ?_;refine qT hH aN fun st hH=>?_;dsimp only[u2,u1,u3,u4,setMany,u5,u6,D.cells,Nat.reduceAdd,Pg.cs,aT,ax] at hH;refine qe hK<|qq<|ak.cY 104 (.bool (decide (i.x<0)||decide (i.x≥p.aq.length))) [] ?_ (fun ff tmp cx=>?_)
         ·refine qp (o:=1) ?_;refine ql hH bV ?_;refine qg ?_;refine qm ?_;refine aa.two 97 rfl (fun bk=>?_) (fun bk=>?_)
          ·refine qs ?_ (hg:=wn bk);refine qs ?_ (hg:=wn bk);refine qs ?_ (hg:=wn bk);refine qs ?_ (hg:=wn bk);refine qs ?_ (hg:=wn bk);refine qs ?_ (hg:=wn bk);refine qt bk ?_;refine aa.nil (aJ ?_ ?_)
           ·dsimp only[aF,List.foldl,nth,u2,u1]
            all_goals(first|rfl|simp)
           ·refine zF ?_
            all_goals(simp[bk];done)
          ·refine qp (o:=1) ?_ (hg:=wi bk);refine ql hH bV ?_ (hg:=wi bk);refine qp (o:=1) ?_ (hg:=wi bk);refine ql hH fm ?_ (hg:=wi bk);refine qn ?_ (hg:=wi bk);simp only[List.length_map];refine qg ?_ (hg:=wi bk);refine qu bk ?_;refine aa.nil (aJ ?_ ?_)
           ·dsimp only[aF,List.foldl,nth,u2,u1]
            all_goals(first|rfl|simp)
           ·refine zF ?_
            all_goals(simp[bk];done)
         dsimp only[aF,List.foldl,nth,u2,u1]
         have nf:jq i.x p.aq.length=!(decide (i.x<0)||decide (i.x≥p.aq.length)):=by
          unfold jq;simp only[Bool.not_or,←decide_not,Int.not_lt,Int.not_le,ge_iff_le]
         refine qc (fun h8=>?_) (fun h8=>?_)<;>try simp only[cs] at h8
         ·refine qq<|qj fun K hK=>qm ?_;refine qe hK ?_;rw[nb,nf,h8];simp only[Bool.not_true,Bool.and_false];refine ak.ret ⟨rx,_,rfl,rl aP hH (rfl)⟩
         ·refine ak.skip ?_;exact⟨i.x,0,.nul,false,[],_,rfl,hH,Dv,by rw[nb,nf,h8,HU];cases(i.y==0)<;>simp⟩
        ·rw[if_neg h7] at nb;refine qq<|qj fun K hK=>qm ?_;refine qe hK ?_;rw[nb];simp only[Bool.and_false];refine ak.ret ⟨rx,_,rfl,rl aP hH (rfl)⟩
 ·rintro fr st ⟨bx,bz,Sr,fl,Pn,tmp,hfr,hH,TH,hsh⟩;rw[hfr];clear hfr;generalize fc fr=ee;clear fr;have Ww:=TH.arg s0.bs.length S;refine qq<|ak.kW 4 (.bool ((((i.x==bx) &&(i.y==bz)) &&((i.rs.length:Int)==Pn.length)) &&(!fl||decide (((pc+1:Nat):Int)<p.code.length)))) [] ?_ (fun ff tmp=>?_)
  ·refine qp (o:=1) ?_;refine ql hH bV ?_;refine qp (o:=1) ?_;refine ql hH aN ?_;refine qg ?_;refine qm ?_;refine aa.two 110 rfl (fun cK=>?_) (fun cK=>?_)
   ·refine qp (o:=2) ?_ (hg:=wi cK);refine ql hH bV ?_ (hg:=wi cK);refine qp (o:=2) ?_ (hg:=wi cK);refine ql hH aN ?_ (hg:=wi cK);refine qg ?_ (hg:=wi cK);refine qt cK ?_;refine qm ?_;refine aa.two 117 rfl (fun dR=>?_) (fun dR=>?_)
    ·refine qp (o:=3) ?_ (hg:=wi dR);refine ql hH bV ?_ (hg:=wi dR);refine qn ?_ (hg:=wi dR);simp only[List.length_map];refine qp (o:=3) ?_ (hg:=wi dR);refine ql hH aN ?_ (hg:=wi dR);refine qn ?_ (hg:=wi dR);simp only[List.length_map];refine qg ?_ (hg:=wi dR);refine qt dR ?_;refine qm ?_;refine aa.two 126 rfl (fun iq=>?_) (fun iq=>?_)
     ·refine qm ?_ (hg:=wi iq);refine qg ?_ (hg:=wi iq);refine qm ?_ (hg:=wi iq);refine aa.two 129 rfl (fun il=>?_) (fun il=>?_)
      ·refine qs ?_ (hg:=wn il);refine qs ?_ (hg:=wn il);refine qs ?_ (hg:=wn il);refine qs ?_ (hg:=wn il);refine aa.cQ (ai rfl rfl rfl iq) rfl il (ab rfl _) ?_;refine qt iq ?_;refine qm ?_;refine aa.nil (aR ?_);refine zG ?_
       all_goals(simp[cK,dR,iq,il];done)
      ·refine qm ?_ (hg:=wi il);refine qA ?_ (hg:=wi il);refine qm ?_ (hg:=wi il);refine qg ?_ (hg:=wi il);refine aa.cH (ai rfl rfl rfl iq) rfl il (ab rfl _) ?_;refine qt iq ?_;refine qm ?_;refine aa.nil (aR ?_);refine zG ?_
       all_goals(simp[cK,dR,iq,il];done)
     ·refine qs ?_ (hg:=wn iq);refine qs ?_ (hg:=wn iq);refine qs ?_ (hg:=wn iq);refine qs ?_;refine qs ?_;refine qs ?_;refine qs ?_;refine qs ?_ (hg:=wn iq);refine qu iq ?_;refine qm ?_;refine aa.nil (aR ?_);refine zG ?_
      all_goals(simp[cK,dR,iq];done)
    ·refine qs ?_ (hg:=wn dR);refine qs ?_ (hg:=wn dR);refine qs ?_ (hg:=wn dR);refine qs ?_ (hg:=wn dR);refine qs ?_ (hg:=wn dR);refine qs ?_ (hg:=wn dR);refine qs ?_ (hg:=wn dR);refine qu dR ?_;refine qm ?_;refine qs ?_;refine qs ?_;refine qs ?_;refine qs ?_;refine qs ?_;refine qs ?_;refine qs ?_;refine qs ?_;refine qg ?_;refine qm ?_;refine aa.nil (aR ?_);refine zG ?_
     all_goals(simp[cK,dR];done)
   ·refine qs ?_ (hg:=wn cK);refine qs ?_ (hg:=wn cK);refine qs ?_ (hg:=wn cK);refine qs ?_ (hg:=wn cK);refine qs ?_ (hg:=wn cK);refine qu cK ?_;refine qm ?_;refine qs ?_;refine qs ?_;refine qs ?_;refine qs ?_;refine qs ?_;refine qs ?_;refine qs ?_;refine qg ?_;refine qm ?_;refine qs ?_;refine qs ?_;refine qs ?_;refine qs ?_;refine qs ?_;refine qs ?_;refine qs ?_;refine qs ?_;refine qg ?_;refine qm ?_;refine aa.nil (aR ?_);refine zG ?_
    all_goals(simp[cK];done)
  dsimp only[aF,List.foldl,nth,u2,u1];rw[hsh];refine ak.ret ⟨rx,_,rfl,rl aP hH (rfl)⟩
def aI (fr:Go.V.Fr) (k:Nat):Go.V.D:=Go.V.nth .bj fr.loc k
def bE (b:Bool):List D:=[.bool b]
theorem jb {l:List Bool} {i:Nat} {q:Bool} (h:l[i]?=some q):(l.map bE)[i]?=some (bE q):=by rw[List.getElem?_map,h];rfl
theorem kO (l:List Bool):∀e∈l.map bE,∀d∈e,ck d=true:=by
 intro e he d hd;obtain⟨x,_,rfl⟩:=List.mem_map.1 he;simp only[bE,List.mem_cons,List.not_mem_nil,or_false] at hd;subst hd;rfl
theorem Gj (l:List Bool):∀e∈l.map bE,e.length=1:=by
 intro e he;obtain⟨x,_,rfl⟩:=List.mem_map.1 he;rfl
def na (l:List Bool):D:=.sl ((l.map bE).map (j7 1))
theorem mq (l:List Bool):gd (na l) 1 (l.map bE):=gd.frozen (Gj l) (kO l)
theorem jZ (l:List Int):∀e∈l.map ax,∀d∈e,ck d=true:=by
 intro e he d hd;obtain⟨x,_,rfl⟩:=List.mem_map.1 he;simp only[ax,List.mem_cons,List.not_mem_nil,or_false] at hd;subst hd;rfl
theorem Hr (l:List Int):∀e∈l.map ax,e.length=1:=by
 intro e he;obtain⟨x,_,rfl⟩:=List.mem_map.1 he;rfl
def EZ (l:List Int):D:=.sl ((l.map ax).map (j7 1))
theorem yg (l:List Int):gd (EZ l) 1 (l.map ax):=gd.frozen (Hr l) (jZ l)
def bI (pc:Nat) (i:aK):List Int:=
 if i.op=2 then[i.x,i.y] else if i.op=3 then[i.x] else if i.op=7 then[] else[((pc+1:Nat):Int)]
def iI (code:List aK):Prop:=∀pc i,code[pc]?=some i→∀v∈bI pc i,0≤v∧v<code.length
theorem xf {n ns pc:Nat} {i:aK} (h:cv n ns pc i=true):∀v∈bI pc i,0≤v∧v<n:=by
 intro v hv
 have fH:∀a b:Int,jq a b=true→0≤a∧a<b:=fun a b h=>by
  unfold jq at h;simp only[Bool.and_eq_true,decide_eq_true_eq] at h;exact⟨h.1,h.2⟩
 unfold cv at h;unfold bI at hv
 split at h
 ·rename_i h1;rw[if_neg (by omega),if_neg (by omega),if_neg (by omega)] at hv;simp only[Bool.and_eq_true,decide_eq_true_eq] at h;simp only[List.mem_cons,List.not_mem_nil,or_false] at hv;subst hv;omega
 ·simp only[Bool.and_eq_true] at h;obtain⟨_,h⟩:=h
  split at h
  ·rename_i h2;rw[if_pos h2] at hv;simp only[Bool.and_eq_true] at h;simp only[List.mem_cons,List.not_mem_nil,or_false] at hv
   rcases hv with rfl|rfl
   ·exact fH _ _ h.1
   ·exact fH _ _ h.2
  ·rename_i h2;rw[if_neg h2] at hv;simp only[Bool.and_eq_true] at h;obtain⟨_,h⟩:=h
   split at h
   ·rename_i h3;rw[if_pos h3] at hv;simp only[List.mem_cons,List.not_mem_nil,or_false] at hv;subst hv;exact fH _ _ h
   ·rename_i h3;rw[if_neg h3] at hv
    split at h
    ·rename_i h4;rw[if_neg (by omega)] at hv;simp only[Bool.and_eq_true,decide_eq_true_eq] at h;simp only[List.mem_cons,List.not_mem_nil,or_false] at hv;subst hv;omega
    ·split at h
     ·rename_i h5;rw[if_neg (by omega)] at hv;simp only[Bool.and_eq_true,decide_eq_true_eq] at h;simp only[List.mem_cons,List.not_mem_nil,or_false] at hv;subst hv;omega
     ·split at h
      ·rename_i h7;rw[if_pos h7] at hv;cases hv
      ·cases h
def wV (code:List aK):Nat→List Bool→List Int→List Bool
 |0,seen,_=>seen
 |_+1,seen,[]=>seen
 |f+1,seen,v::eU=>match seen[v.toNat]? with
  |some false=>match code[v.toNat]? with
   |some i=>wV code f (seen.set v.toNat true) ((bI v.toNat i).reverse++eU)
   |none=>seen
  |_=>wV code f seen eU
def ba (code:List aK) (start:Int):List Bool:=wV code (3*code.length+1) (List.replicate code.length false) [start]
theorem wE (code:List aK):∀(f:Nat) (seen:List Bool) (eU:List Int),(wV code f seen eU).length=seen.length
 |0,_,_=>rfl
 |_+1,_,[]=>rfl
 |f+1,seen,v::eU=>by
  unfold wV
  split
  ·split
   ·rw[wE code f];simp
   ·rfl
  ·exact wE code f seen eU
theorem kj (code:List aK) (s:Int):(ba code s).length=code.length:=by
 unfold ba;rw[wE];simp
theorem count_set {seen:List Bool} {k:Nat} (h:seen[k]?=some false):(seen.set k true).count false+1=seen.count false:=by
 induction seen generalizing k with
 |nil=>simp at h
 |cons b l ih=>
  cases k with
  |zero=>simp at h;subst h;simp
  |succ k=>
   have:=ih (k:=k) (by simpa using h);simp only[List.set_cons_succ,List.count_cons];omega
theorem rV (pc:Nat) (i:aK):(bI pc i).length≤2:=by
 unfold bI;split
 ·simp
 ·split
  ·simp
  ·split<;>simp
theorem w7 (v:Int) (r:List Int):((v::r).reverse.map ax)[r.length]?=some (ax v):=by
 rw[List.getElem?_map,List.reverse_cons,List.getElem?_append_right (by simp)];simp
theorem A5 (v:Int) (r:List Int):(((v::r).reverse.map ax).take r.length).drop 0=r.reverse.map ax:=by
 rw[List.reverse_cons,List.map_append,List.drop_zero,List.take_left' (by simp)]
theorem BZ {s0:St} {cd:D} {code:List aK} {start:Int} (pK:gd cd 4 (code.map aT)) (hlen:code.length≤1048576) (hcl:iI code) (gC:0≤start∧start<code.length):Ev pv 145 [cd,.int .i64 start] s0 (na (ba code start)) s0:=by
 refine Ev.ia rfl Of rfl rfl rfl ?_;refine zE ?_;obtain⟨aP,hF,hH⟩:=ri s0;generalize ae .ro s0=S at*;have hc:=pK.arg s0.bs.length S;refine zQ 7 ?_;refine qn ?_;simp only[List.length_map];refine aa.yp (s:=1) hH rfl rfl rfl rfl rfl rfl rfl rfl (Nat.le_of_ble_eq_true rfl) (by omega) (fun _=>by dsimp only[Fr.put,u1,u2]<;>rfl) (fun k11 st MK hH=>?_);refine zQ 5 ?_;refine qh (s:=1) (vs:=[_]) hH fun k13 st QY hH=>?_;refine zQ 4 ?_;refine ak.loop (fun mm fr st=>∃(y z:D) (seen:List Bool) (eU:List Int),fr.clean=⟨41,[cd,aI fr 1,aI fr 2,aI fr 3,.nul,y,z,aI fr 7,aI fr 8,aI fr 9,aI fr 10,aI fr 11,aI fr 12,aI fr 13,aI fr 14,aI fr 15,aI fr 16,aI fr 17,aI fr 18,aI fr 19,aI fr 20,aI fr 21,aI fr 22,aI fr 23,aI fr 24,aI fr 25,aI fr 26,aI fr 27,aI fr 28,aI fr 29,aI fr 30,aI fr 31,aI fr 32,aI fr 33,aI fr 34,aI fr 35,aI fr 36,aI fr 37,aI fr 38,aI fr 39,aI fr 40],[]⟩∧Has s0.bs.length S st [.aC z 1 (eU.reverse.map ax),.aC y 1 (seen.map bE)]∧(wV code mm seen eU=ba code start)∧(3*seen.count false+eU.length≤mm)∧(seen.length=code.length)∧(∀v∈eU,0≤v∧v<(code.length:Int))∧(mm≤3*code.length+1)) (3*code.length+1) ?_ ?_
 ·exact⟨_,_,List.replicate code.length false,[start],rfl,(by rw[List.map_replicate];exact hH),rfl,by simp,by simp,by simpa using gC,by omega⟩
 rintro mm fr st ⟨y,z,seen,eU,hfr,hH,hd,hm,ka,hsk,y5⟩;rw[hfr];clear hfr;generalize aI fr=ee;clear fr
 rcases eU with _|⟨v,eU⟩
 ·refine zQ 4 ?_;refine qn ?_ (hR:=hH.rows aN);simp only[List.length_map,List.length_nil,List.length_reverse];refine zQ 2 ?_;refine ak.cond (v:=false) (by dsimp only[Fr.ev,Fr.get,nth,V.look];rfl) (fun h=>by cases h) (fun _=>?_);refine zQ 6 ?_;have gD:seen=ba code start:=by rw[←hd];cases mm<;>rfl
  rw[←gD];refine ak.ret ⟨rx,_,rfl,rl aP hH ?_⟩;exact hH.freeze bV (kO _) (n:=15) (by decide)
 ·have hv:=hsk v (List.mem_cons_self ..);obtain⟨k,rfl⟩:=Int.eq_ofNat_of_zero_le hv.1;have hk:k<code.length:=by omega
  simp only[List.length_cons] at hm
  obtain⟨mm,rfl⟩:∃m',mm=m'+1:=⟨mm-1,by omega⟩
  obtain⟨b,hb⟩:∃b,seen[k]?=some b:=⟨seen[k]'(by omega),List.getElem?_eq_getElem _⟩
  obtain⟨i,hi⟩:∃i,code[k]?=some i:=⟨code[k]'(by omega),List.getElem?_eq_getElem _⟩
  have gm:=w7 (k:Int) eU;have mA:=jb hb;have Ae:=gk hi;refine zQ 4 ?_;refine qn ?_ (hR:=hH.rows aN);simp only[List.length_map,List.length_cons,List.length_reverse];refine zQ 2 ?_;refine qD rfl (by simp) ?_;refine zQ 6 ?_;refine qn ?_ (hR:=hH.rows aN);simp only[List.length_map,List.length_cons,List.length_reverse];refine aa.eY (z:=((eU.length:Nat):Int)) rfl (ev rfl) (ev rfl) (by rw[wrap_i64 (by omega) (by omega)]<;>omega) (by dsimp only[Fr.put,u1,u2]<;>rfl) ?_;refine qi hH aN fun OV HI=>?_;refine zQ 7 ?_;refine qn ?_ (hR:=hH.rows aN);simp only[List.length_map,List.length_cons,List.length_reverse];refine aa.eY (z:=((eU.length:Nat):Int)) rfl (ev rfl) (ev rfl) (by rw[wrap_i64 (by omega) (by omega)]<;>omega) (by dsimp only[Fr.put,u1,u2]<;>rfl) ?_;refine aa.Em hH rfl (ev rfl) (by exact aN) rfl rfl (vd (by simp only[List.length_map,List.length_reverse,List.length_cons];omega)) ⟨(by omega),(by simp only[List.length_map,List.length_reverse,List.length_cons];omega)⟩ (fun _=>by dsimp only[Fr.put,u1,u2]<;>rfl) (fun Xg hH=>?_);refine zQ 2 ?_;dsimp only[u2] at hH;rw[A5] at hH;have gC:∀w∈eU,0≤w∧w<(code.length:Int):=fun w hw=>hsk w (List.mem_cons_of_mem _ hw);refine zQ 5 ?_;refine qi hH bV fun SR Mn=>?_;refine zQ 2 ?_
  cases b with
  |true=>
   refine zQ 2 ?_;simp only[wV,Int.toNat_natCast,hb] at hd;exact⟨mm,by omega,⟨_,_,seen,eU,rfl,hH,hd,by omega,ka,gC,by omega⟩⟩
  |false=>
   have Kh:=count_set hb;have fy:(seen.set k true).map bE=(seen.map bE).set k [.bool true]:=by rw[List.map_set];rfl
   simp only[wV,Int.toNat_natCast,hb,hi] at hd;have QE:=hcl k i hi;have Dv:=rV k i
   have JN:∀w∈(bI k i).reverse++eU,0≤w∧w<(code.length:Int):=fun w hw=>by
    rcases List.mem_append.1 hw with hw|hw
    ·exact QE w (List.mem_reverse.1 hw)
    ·exact gC w hw
   have JS:(((bI k i).reverse++eU).reverse).map ax=eU.reverse.map ax++(bI k i).map ax:=by
    rw[List.reverse_append,List.reverse_reverse,List.map_append]
   refine zQ 6 ?_;refine qi hH bV fun Ut Qw=>?_;refine aa.jE hH rfl (ev rfl) (ev rfl) (by assumption) rfl rfl (by exact bV) (by assumption) (Nat.le_of_ble_eq_true rfl) (by exact .inl hF) (fun st hH=>?_);dsimp only[u2,u1,u3,u4,setMany,u5,u6,D.cells,Nat.reduceAdd,aT,ax,bE] at hH;refine zQ 5 ?_;refine qr fun SP Mm=>?_;refine aa.cV rfl (ev rfl) (by assumption) rfl (by dsimp only[Fr.put,u1,u2]<;>rfl) ?_;refine qa hH fun k8 st J_ hH=>?_;refine qS hH aN fun st hH=>?_;dsimp only[u2,u1,u3,u4,setMany,u5,u6,D.cells,Nat.reduceAdd,aT,ax,bE] at hH;refine zQ 6 ?_;refine ak.merge (fun fr st=>∃(z:D) (tmp:List (Nat×D)),fr=⟨41,[cd,aI fr 1,aI fr 2,aI fr 3,.nul,y,z,aI fr 7,aI fr 8,aI fr 9,aI fr 10,aI fr 11,aI fr 12,aI fr 13,aI fr 14,aI fr 15,aI fr 16,aI fr 17,aI fr 18,aI fr 19,aI fr 20,aI fr 21,aI fr 22,aI fr 23,aI fr 24,aI fr 25,aI fr 26,aI fr 27,aI fr 28,aI fr 29,aI fr 30,aI fr 31,aI fr 32,aI fr 33,aI fr 34,aI fr 35,aI fr 36,aI fr 37,aI fr 38,aI fr 39,aI fr 40],tmp⟩∧Has s0.bs.length S st [.aC z 1 (eU.reverse.map ax++(bI k i).map ax),.aC y 1 ((seen.map bE).set k [.bool true])]) ?_ ?_
   ·refine zQ 6 ?_;refine zI (fun h2=>?_) fun h2=>?_
    ·have:bI k i=[i.x,i.y]:=by unfold bI;rw[if_pos h2]
     rw[this];refine zQ 6 ?_;refine qh (s:=1) (vs:=[_,_]) hH fun k53 st QQ hH=>?_;refine aa.cJ (s:=1) hH rfl (ev rfl) (ev rfl) (by exact fm) (by exact hH.rows (by exact aN)) rfl rfl rfl rfl rfl rfl rfl ⟨(Nat.le_of_ble_eq_true rfl),(Nat.le_of_ble_eq_true rfl)⟩ (fun _=>(ab rfl _)) (by simp only[List.length_cons,List.length_nil,List.length_map,List.length_reverse]<;>omega) (by exact .inl hF) (fun OQ st hH=>?_);dsimp only[u2,u1,u3,u4,setMany,u5,u6,D.cells,Nat.reduceAdd,aT,ax,bE] at hH;refine zQ 2 ?_;exact⟨_,_,rfl,(by have:=hH.drop 2;exact this)⟩
    ·refine zQ 5 ?_;refine zI (fun h3=>?_) fun h3=>?_
     ·have:bI k i=[i.x]:=by unfold bI;rw[if_neg h2,if_pos h3]
      rw[this];refine zQ 4 ?_;refine qh (s:=1) (vs:=[_]) hH fun k60 st V0 hH=>?_;refine aa.cJ (s:=1) hH rfl (ev rfl) (ev rfl) (by exact fm) (by exact hH.rows (by exact aN)) rfl rfl rfl rfl rfl rfl rfl ⟨(Nat.le_of_ble_eq_true rfl),(Nat.le_of_ble_eq_true rfl)⟩ (fun _=>(ab rfl _)) (by simp only[List.length_cons,List.length_nil,List.length_map,List.length_reverse]<;>omega) (by exact .inl hF) (fun Xh st hH=>?_);dsimp only[u2,u1,u3,u4,setMany,u5,u6,D.cells,Nat.reduceAdd,aT,ax,bE] at hH;refine zQ 2 ?_;exact⟨_,_,rfl,(by have:=hH.drop 2;exact this)⟩
     ·refine zQ 5 ?_;refine zI (fun h7=>?_) fun h7=>?_
      ·have:bI k i=[]:=by unfold bI;rw[if_neg h2,if_neg h3,if_pos h7]
       rw[this,List.map_nil,List.append_nil];refine zQ 1 ?_;exact⟨_,_,rfl,(by have:=hH.drop 1;exact this)⟩
      ·have:bI k i=[((k+1:Nat):Int)]:=by unfold bI;rw[if_neg h2,if_neg h3,if_neg h7]
       rw[this];refine zQ 4 ?_;refine qh (s:=1) (vs:=[_]) hH fun k44 st QS hH=>?_;refine aa.cJ (s:=1) hH rfl (ev rfl) (ev rfl) (by exact fm) (by exact hH.rows (by exact aN)) rfl rfl rfl rfl rfl rfl rfl ⟨(Nat.le_of_ble_eq_true rfl),(Nat.le_of_ble_eq_true rfl)⟩ (fun _=>(ab rfl _)) (by simp only[List.length_cons,List.length_nil,List.length_map,List.length_reverse]<;>omega) (by exact .inl hF) (fun Ps st hH=>?_);dsimp only[u2,u1,u3,u4,setMany,u5,u6,D.cells,Nat.reduceAdd,aT,ax,bE] at hH;refine zQ 2 ?_;exact⟨_,_,rfl,(by have:=hH.drop 2;exact this)⟩
   ·rintro fr st ⟨z,tmp,hfr,hH⟩;rw[hfr];clear hfr;generalize aI fr=ee;clear fr;exact⟨mm,by omega,⟨y,z,seen.set k true,(bI k i).reverse++eU,rfl,(by rw[JS,fy];exact hH),hd,by simp only[List.length_append,List.length_reverse];omega,by simp only[List.length_set];exact ka,JN,by omega⟩⟩
end Go.Proofs.YtecjacicdpejaaaGreat
