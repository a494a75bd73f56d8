/-
 The parser of patterns: what stands at a rune; errors.
-/
import Derived.Test.YtnleclohocdkaaaGreatVGHr
import Derived.Test.YtnleclohocdkaaaGreatVPx
import Derived.Test.YtnleclohocdkaaaGreatVM2
import Derived.KernelRfl
import Derived.Test.YtnleclohocdkaaaGreatVGCa
import Derived.Test.YtnleclohocdkaaaGreatVDgp
set_option maxRecDepth 100000
set_option maxHeartbeats 4000000
set_option linter.unusedSimpArgs false
set_option linter.unusedVariables false
namespace Go.Proofs.YtnleclohocdkaaaGreat
open Go.V Go
def bS (c:Nat):Int×Nat×Nat:=
 if c<128 then(0,0,0) else if c<194 then(-1,0,0) else if c<224 then(1,128,191) else if c=224 then(2,160,191) else if c=237 then(2,128,159)
 else if c<240 then(2,128,191) else if c=240 then(3,144,191) else if c<244 then(3,128,191) else if c=244 then(3,128,143) else(-1,0,0)
theorem ET (c:Nat) (st:St):Ev pv 98 [.int .u8 c] st (.tup [.int .i64 (bS c).1,.int .u8 (bS c).2.1,.int .u8 (bS c).2.2]) st:=by
 refine Ev.mk1 rfl OH rfl rfl rfl ?_;refine zE ?_;refine zR ?_;refine EvC.seq (EvC.block ?_);refine zR ?_;(repeat refine qq ?_);refine qc (fun h1=>?_) (fun h1=>?_)<;>try simp only[cs] at h1
 ·refine zR ?_;refine EvC.ret ⟨rx,_,rfl,bf (by simp) (by simp[enterSt]) ?_⟩;rw[show bS c=(0,0,0) by unfold bS;rw[if_pos (by omega)]];rfl
 refine zR ?_;(repeat refine qq ?_);refine qc (fun h2=>?_) (fun h2=>?_)<;>try simp only[cs] at h2
 ·refine zR ?_;refine EvC.ret ⟨rx,_,rfl,bf (by simp) (by simp[enterSt]) ?_⟩;rw[show bS c=(-1,0,0) by unfold bS;rw[if_neg (by omega),if_pos (by omega)]];rfl
 refine zR ?_;(repeat refine qq ?_);refine qc (fun h3=>?_) (fun h3=>?_)<;>try simp only[cs] at h3
 ·refine zR ?_;refine EvC.ret ⟨rx,_,rfl,bf (by simp) (by simp[enterSt]) ?_⟩;rw[show bS c=(1,128,191) by unfold bS;rw[if_neg (by omega),if_neg (by omega),if_pos (by omega)]];rfl
 refine zR ?_;(repeat refine qq ?_);refine qc (fun h4=>?_) (fun h4=>?_)<;>try simp only[cs] at h4
 ·refine zR ?_;refine EvC.ret ⟨rx,_,rfl,bf (by simp) (by simp[enterSt]) ?_⟩;rw[show bS c=(2,160,191) by unfold bS;rw[if_neg (by omega),if_neg (by omega),if_neg (by omega),if_pos (by omega)]];rfl
 refine zR ?_;(repeat refine qq ?_);refine qc (fun h5=>?_) (fun h5=>?_)<;>try simp only[cs] at h5
 ·refine zR ?_;refine EvC.ret ⟨rx,_,rfl,bf (by simp) (by simp[enterSt]) ?_⟩;rw[show bS c=(2,128,159) by unfold bS;rw[if_neg (by omega),if_neg (by omega),if_neg (by omega),if_neg (by omega),if_pos (by omega)]];rfl
 refine zR ?_;(repeat refine qq ?_);refine qc (fun h6=>?_) (fun h6=>?_)<;>try simp only[cs] at h6
 ·refine zR ?_;refine EvC.ret ⟨rx,_,rfl,bf (by simp) (by simp[enterSt]) ?_⟩;rw[show bS c=(2,128,191) by unfold bS;rw[if_neg (by omega),if_neg (by omega),if_neg (by omega),if_neg (by omega),if_neg (by omega),if_pos (by omega)]];rfl
 refine zR ?_;(repeat refine qq ?_);refine qc (fun h7=>?_) (fun h7=>?_)<;>try simp only[cs] at h7
 ·refine zR ?_;refine EvC.ret ⟨rx,_,rfl,bf (by simp) (by simp[enterSt]) ?_⟩;rw[show bS c=(3,144,191) by unfold bS;rw[if_neg (by omega),if_neg (by omega),if_neg (by omega),if_neg (by omega),if_neg (by omega),if_neg (by omega),if_pos (by omega)]];rfl
 refine zR ?_;(repeat refine qq ?_);refine qc (fun h8=>?_) (fun h8=>?_)<;>try simp only[cs] at h8
 ·refine zR ?_;refine EvC.ret ⟨rx,_,rfl,bf (by simp) (by simp[enterSt]) ?_⟩;rw[show bS c=(3,128,191) by unfold bS;rw[if_neg (by omega),if_neg (by omega),if_neg (by omega),if_neg (by omega),if_neg (by omega),if_neg (by omega),if_neg (by omega),if_pos (by omega)]];rfl
 refine zR ?_;(repeat refine qq ?_);refine qc (fun h9=>?_) (fun h9=>?_)<;>try simp only[cs] at h9
 ·refine zR ?_;refine EvC.ret ⟨rx,_,rfl,bf (by simp) (by simp[enterSt]) ?_⟩;rw[show bS c=(3,128,143) by unfold bS;rw[if_neg (by omega),if_neg (by omega),if_neg (by omega),if_neg (by omega),if_neg (by omega),if_neg (by omega),if_neg (by omega),if_neg (by omega),if_pos (by omega)]];rfl
 refine EvC.skip<|zR ?_;refine EvC.ret ⟨rx,_,rfl,bf (by simp) (by simp[enterSt]) ?_⟩;rw[show bS c=(-1,0,0) by unfold bS;rw[if_neg (by omega),if_neg (by omega),if_neg (by omega),if_neg (by omega),if_neg (by omega),if_neg (by omega),if_neg (by omega),if_neg (by omega),if_neg (by omega)]];rfl
def iC:(left n r lo hi:Nat)→List UInt8→Nat×Nat×Bool
 |0,n,r,_,_,_=>(r,n,false)
 |left+1,n,r,lo,hi,[]=>(0,0,true)
 |left+1,n,r,lo,hi,x::xs=>if x.toNat<lo∨hi<x.toNat then(0,0,false) else iC left n (r*64+x.toNat %64) 128 191 xs
def gK:List UInt8→Nat×Nat×Bool
 |[]=>(0,0,false)
 |c::xs=>if(bS c.toNat).1<0 then(0,0,false)
   else iC (bS c.toNat).1.toNat ((bS c.toNat).1.toNat+1) (if(bS c.toNat).1>0 then c.toNat %(64/2^(bS c.toNat).1.toNat) else c.toNat) (bS c.toNat).2.1 (bS c.toNat).2.2 xs
theorem vT (c:Nat):(bS c).1=-1∨(bS c).1=0∨(bS c).1=1∨(bS c).1=2∨(bS c).1=3:=by
 unfold bS
 repeat' split
 all_goals simp
theorem Ai {w a j:Nat} (ha:a<2^w) (hj:2^j-1<2^w):(BitVec.ofInt w (a:Int) &&&BitVec.ofInt w ((2^j-1:Nat):Int)).toNat=a %2^j:=by
 rw[bv_and ha hj,Nat.and_two_pow_sub_one_eq_mod]
theorem fN (b:List UInt8):(V.byteCells b).length=b.length:=by simp[V.byteCells]
theorem rT {b:List UInt8} {i:Nat} {y:UInt8} (h:b[i]?=some y):(V.byteCells b)[i]?=some [.int .u8 (y.toNat:Nat)]:=by
 simp[V.byteCells,h]
theorem F5 (y:UInt8):y.toNat<256:=y.toNat_lt
theorem Mm {r y:Nat} (hr:r<33554432) (hy:y<256):bD .i32 ((BitVec.ofInt 32 (bD .i32 ((r:Int)*2^(min (Int.toNat 6) 32)))|||BitVec.ofInt 32 (bD .i32 (bD .u8 ((BitVec.ofInt 8 (y:Int) &&&BitVec.ofInt 8 63).toNat:Nat)))).toNat:Nat)=((r*64+y %64:Nat):Int):=by
 have h1:(BitVec.ofInt 8 (y:Int) &&&BitVec.ofInt 8 63).toNat=y %64:=Ai (w:=8) (j:=6) hy (by decide);rw[h1]
 have h2:((r:Int)*2^(min (Int.toNat 6) 32))=((r*64:Nat):Int):=by
  have:(2:Int)^(min (Int.toNat 6) 32)=64:=by decide
  rw[this];simp
 rw[h2,dD (k:=.i32) (m:=r*64) (by simp only[kP];omega),dD (k:=.u8) (m:=y %64) (by simp only[kP];omega),dD (k:=.i32) (m:=y %64) (by simp only[kP];omega)];rw[LA (by omega) (by omega)]
 have h3:(r*64)|||(y %64)=r*64+y %64:=by
  have:=Nat.two_pow_add_eq_or_of_lt (i:=6) (b:=y %64) (by omega) r;have e:(2:Nat)^6=64:=by decide
  rw[e] at this;rw[Nat.mul_comm r 64,this]
 rw[h3,dD (k:=.i32) (m:=r*64+y %64) (by simp only[kP];omega)]
theorem Jm {c j:Nat} (hc:c<256) (hj:j≤8) {m:Int} (hm:m=((2^j-1:Nat):Int)):bD .i32 ((BitVec.ofInt 32 (bD .i32 (c:Nat)) &&&BitVec.ofInt 32 m).toNat:Nat)=((c %2^j:Nat):Int):=by
 have h1:2^j≤2^8:=Nat.pow_le_pow_right (by omega) hj;rw[hm,dD (k:=.i32) (m:=c) (by simp only[kP];omega),Ai (w:=32) (by omega) (by omega)];have:c %2^j≤c:=Nat.mod_le _ _;rw[dD (k:=.i32) (by simp only[kP];omega)]
theorem mask {c j:Nat} (hc:c<256) (hj:j≤8) {m:Int} (hm:m=((2^j-1:Nat):Int)):bD .i32 ((BitVec.ofInt IntKind.i32.bits (bD .i32 (c:Nat)) &&&BitVec.ofInt IntKind.i32.bits m).toNat:Nat)=((c %2^j:Nat):Int):=Jm hc hj hm
theorem Ro {r y:Nat} (hr:r<33554432) (hy:y<256):bD .i32 ((BitVec.ofInt IntKind.i32.bits (bD .i32 ((r:Int)*2^(min (Int.toNat 6) IntKind.i32.bits)))|||BitVec.ofInt IntKind.i32.bits (bD .i32 (bD .u8 ((BitVec.ofInt IntKind.u8.bits (y:Int) &&&BitVec.ofInt IntKind.u8.bits 63).toNat:Nat)))).toNat:Nat)=((r*64+y %64:Nat):Int):=Mm hr hy
theorem Du {st:St} {x:D} {b:List UInt8} (hb:Bytes st x b):Ev pv 60 [x] st (.tup [.int .i32 ((gK b).1:Nat),.int .i64 ((gK b).2.1:Nat),.bool (gK b).2.2]) st:=by
 refine Ev.mk1 rfl O0 rfl rfl rfl ?_;refine zE ?_;have dr:=hb.enter .ro;(try refine qy ?_);(repeat refine qq ?_);(try generalize hK:SeqQ _ _ _ _=K);refine EvC.reg ?_;(repeat(first|refine xT ?_|refine xL ?_|refine xN ?_|refine xo ?_|refine xp ?_));refine EvO.nil ?_;(try refine zF ?_);(try subst hK);(try refine qy ?_);(repeat refine qq ?_);(try generalize hK:SeqQ _ _ _ _=K);refine EvC.reg ?_
 (first|refine xT ?_|refine xL ?_|refine xN ?_|refine xo ?_|refine xp ?_)
 refine EvO.len rfl rfl rfl dr rfl ?_;(repeat(first|refine xT ?_|refine xL ?_|refine xN ?_|refine xo ?_|refine xp ?_));refine EvO.nil ?_;(try refine zF ?_);(try subst hK);(try refine qy ?_);(repeat refine qq ?_);refine qc (fun h1=>?_) (fun h1=>?_)<;>try simp only[cs] at h1
 ·(try refine qy ?_);(repeat refine qq ?_);(try generalize hK:SeqQ _ _ _ _=K);refine EvC.reg ?_;(repeat(first|refine xT ?_|refine xL ?_|refine xN ?_|refine xo ?_|refine xp ?_));refine EvO.nil ?_;(try refine zF ?_);(try subst hK);(try refine qy ?_);refine EvC.ret ⟨rx,_,rfl,bf (by simp) (by simp[enterSt]) ?_⟩
  obtain rfl:b=[]:=by cases b with|nil=>rfl|cons c b=>simp[V.byteCells] at h1;omega
  rfl
 refine EvC.skip ?_
 obtain⟨c,xs,rfl⟩:∃c xs,b=c::xs:=by cases b with|nil=>simp[V.byteCells] at h1|cons c b=>exact⟨c,b,rfl⟩
 obtain⟨k,lo,hi,hm⟩:∃k lo hi,bS c.toNat=(k,lo,hi):=⟨_,_,_,rfl⟩
 have NG:=ET c.toNat (enterSt .ro st);rw[hm] at NG;have hk:=vT c.toNat;rw[hm] at hk;have hc:=F5 c;(try refine qy ?_);(repeat refine qq ?_);(try generalize hK:SeqQ _ _ _ _=K);refine EvC.reg ?_
 (first|refine xT ?_|refine xL ?_|refine xN ?_|refine xo ?_|refine xp ?_)
 refine EvO.gZ rfl rfl rfl (fun _=>rfl) rfl rfl dr rfl rfl (by omega) rfl rfl (fun p=>?_);refine EvO.Gy rfl rfl rfl NG ?_;(repeat(first|refine xT ?_|refine xL ?_|refine xN ?_|refine xo ?_|refine xp ?_));refine EvO.nil ?_;(try refine zF ?_);(try subst hK);(try refine qy ?_);(repeat refine qq ?_);(try generalize hK:SeqQ _ _ _ _=K);refine EvC.reg ?_;(repeat(first|refine xT ?_|refine xL ?_|refine xN ?_|refine xo ?_|refine xp ?_));refine EvO.nil ?_;(try refine zF ?_);(try subst hK);(try refine qy ?_);(repeat refine qq ?_);refine qc (fun h2=>?_) (fun h2=>?_)<;>try simp only[cs] at h2
 ·(try refine qy ?_);(repeat refine qq ?_);(try generalize hK:SeqQ _ _ _ _=K);refine EvC.reg ?_;(repeat(first|refine xT ?_|refine xL ?_|refine xN ?_|refine xo ?_|refine xp ?_));refine EvO.nil ?_;(try refine zF ?_);(try subst hK);(try refine qy ?_);refine EvC.ret ⟨rx,_,rfl,bf (by simp) (by simp[enterSt]) ?_⟩;simp only[gK,hm];rw[if_pos h2];rfl
 refine EvC.skip ?_;(try refine qy ?_);(repeat refine qq ?_);(try generalize hK:SeqQ _ _ _ _=K);refine EvC.reg ?_
 (first|refine xT ?_|refine xL ?_|refine xN ?_|refine xo ?_|refine xp ?_)
 refine EvO.gZ rfl rfl rfl (fun _=>rfl) rfl rfl dr rfl rfl (by omega) rfl rfl (fun p=>?_);(repeat(first|refine xT ?_|refine xL ?_|refine xN ?_|refine xo ?_|refine xp ?_));refine EvO.nil ?_;(try refine zF ?_);(try subst hK);(try refine qy ?_);(repeat refine qq ?_);(try generalize hK:SeqQ _ _ _ _=K);refine EvC.reg ?_;(repeat(first|refine xT ?_|refine xL ?_|refine xN ?_|refine xo ?_|refine xp ?_));refine EvO.nil ?_;(try refine zF ?_);(try subst hK);(try refine qy ?_);generalize hK:SeqQ _ _ _ _=K
 have H:∀(r kn:Nat) (m:List (Nat×D)),k=(kn:Int)→r=(if k>0 then c.toNat %(64/2^k.toNat) else c.toNat)→(r+1)*64^kn≤2097152→K .next ⟨9,[x,.tup [],.int .i32 r,.int .i64 0,.bool false,.int .i64 k,.int .u8 lo,.int .u8 hi,.tup []],m⟩ (enterSt .ro st):=by
  intro r kn m hkn hr kW
  have hR:gK (c::xs)=iC kn (kn+1) r lo hi xs:=by
   simp only[gK,hm];rw[if_neg h2,hr,hkn];rfl
  subst hK;rw[hR];generalize hS:iC kn (kn+1) r lo hi xs=R at hR⊢;subst hkn;(try refine qy ?_);(repeat refine qq ?_);(try generalize hK:SeqQ _ _ _ _=K);refine EvC.reg ?_;(repeat(first|refine xT ?_|refine xL ?_|refine xN ?_|refine xo ?_|refine xp ?_));refine EvO.nil ?_;(try refine zF ?_);(try subst hK);(try refine qy ?_);refine EvC.block<|EvC.loop (fun j fr ab=>∃(i r lo hi:Nat),fr.clean=⟨9,[x,.tup [],.int .i32 r,.int .i64 0,.bool false,.int .i64 kn,.int .u8 lo,.int .u8 hi,.int .i64 (i:Nat)],[]⟩∧ab=enterSt .ro st∧1≤i∧i+j=kn+1∧iC j (kn+1) r lo hi (xs.drop (i-1))=R∧(r+1)*64^j≤2097152) kn ⟨1,r,lo,hi,rfl,rfl,by omega,by omega,hS,kW⟩ ?_;clear hr kW hS r hm NG m;rintro j fr ab ⟨i,r,lo,hi,hfr,rfl,L5,hij,hS,kW⟩;rw[hfr];(try refine qy ?_);(repeat refine qq ?_);(try generalize hK:SeqQ _ _ _ _=K);refine EvC.reg ?_;(repeat(first|refine xT ?_|refine xL ?_|refine xN ?_|refine xo ?_|refine xp ?_));refine EvO.nil ?_;(try refine zF ?_);(try subst hK);(try refine qy ?_);(repeat refine qq ?_);refine qc (fun h4=>?_) (fun h4=>?_)<;>try simp only[cs] at h4
  ·refine EvC.skip ?_
   obtain⟨j,rfl⟩:∃j',j=j'+1:=⟨j-1,by omega⟩
   refine EvC.seq (EvC.block ?_);(try refine qy ?_);(repeat refine qq ?_);(try generalize hK:SeqQ _ _ _ _=K);refine EvC.reg ?_
   (first|refine xT ?_|refine xL ?_|refine xN ?_|refine xo ?_|refine xp ?_)
   (first|refine xT ?_|refine xL ?_|refine xN ?_|refine xo ?_|refine xp ?_)
   refine EvO.len rfl rfl rfl dr rfl ?_;(repeat(first|refine xT ?_|refine xL ?_|refine xN ?_|refine xo ?_|refine xp ?_));refine EvO.nil ?_;(try refine zF ?_);(try subst hK);(try refine qy ?_)
   have Bz:(xs.drop (i-1))=[]∨∃y ys,xs.drop (i-1)=y::ys:=by
    cases xs.drop (i-1) with
    |nil=>exact .inl rfl
    |cons y ys=>exact .inr ⟨y,ys,rfl⟩
   have LS:(xs.drop (i-1)).length=xs.length-(i-1):=List.length_drop ..;have hbl:(V.byteCells (c::xs)).length=xs.length+1:=by simp[V.byteCells]
   (try refine qy ?_);(repeat refine qq ?_);refine qc (fun h5=>?_) (fun h5=>?_)<;>try simp only[cs] at h5
   ·(try refine qy ?_);(repeat refine qq ?_);(try generalize hK:SeqQ _ _ _ _=K);refine EvC.reg ?_;(repeat(first|refine xT ?_|refine xL ?_|refine xN ?_|refine xo ?_|refine xp ?_));refine EvO.nil ?_;(try refine zF ?_);(try subst hK);(try refine qy ?_);refine EvC.ret ⟨rx,_,rfl,bf (by simp) (by simp[enterSt]) ?_⟩
    rcases Bz with Bz|⟨y,ys,Bz⟩
    ·rw[Bz] at hS;simp only[iC] at hS;subst hS;rfl
    ·rw[Bz] at LS;simp only[List.length_cons] at LS;omega
   refine EvC.skip ?_
   rcases Bz with Bz|⟨y,ys,Bz⟩
   ·rw[Bz] at LS;simp only[List.length_nil] at LS;omega
   have hy:(c::xs)[i]?=some y:=by
    obtain⟨i,rfl⟩:∃i',i=i'+1:=⟨i-1,by omega⟩
    have:=congrArg (fun l=>l[0]?) Bz
    simpa using this
   have jG:xs.drop (i+1-1)=ys:=by
    have:=congrArg (fun l=>l.drop 1) Bz;simp only[List.drop_drop,List.drop_succ_cons,List.drop_zero] at this;rw[←this];congr 1;omega
   have MP:=rT hy;have RY:=F5 y;rw[Bz] at hS;simp only[iC] at hS;(try refine qy ?_);(repeat refine qq ?_);(try generalize hK:SeqQ _ _ _ _=K);refine EvC.reg ?_
   (first|refine xT ?_|refine xL ?_|refine xN ?_|refine xo ?_|refine xp ?_)
   (first|refine xT ?_|refine xL ?_|refine xN ?_|refine xo ?_|refine xp ?_)
   refine EvO.gZ rfl rfl rfl (fun _=>rfl) rfl rfl dr rfl rfl (by omega) MP rfl (fun p=>?_)
   (first|refine xT ?_|refine xL ?_|refine xN ?_|refine xo ?_|refine xp ?_)
   (first|refine xT ?_|refine xL ?_|refine xN ?_|refine xo ?_|refine xp ?_)
   (first|refine xT ?_|refine xL ?_|refine xN ?_|refine xo ?_|refine xp ?_)
   by_cases wC:(y.toNat:Int)<(lo:Int)
   ·rw[decide_eq_true wC];(repeat(first|refine xT ?_|refine xL ?_|refine xN ?_|refine xo ?_|refine xp ?_));refine EvO.nil ?_;(try refine zF ?_);(try subst hK);(try refine qy ?_);refine EvC.cond (v:=true) rfl (fun _=>?_) (fun h=>by cases h);(try refine qy ?_);(repeat refine qq ?_);(try generalize hK:SeqQ _ _ _ _=K);refine EvC.reg ?_;(repeat(first|refine xT ?_|refine xL ?_|refine xN ?_|refine xo ?_|refine xp ?_));refine EvO.nil ?_;(try refine zF ?_);(try subst hK);(try refine qy ?_);refine EvC.ret ⟨rx,_,rfl,bf (by simp) (by simp[enterSt]) ?_⟩;rw[if_pos (.inl (by omega))] at hS;subst hS;rfl
   rw[decide_eq_false wC]
   (first|refine xT ?_|refine xL ?_|refine xN ?_|refine xo ?_|refine xp ?_)
   (first|refine xT ?_|refine xL ?_|refine xN ?_|refine xo ?_|refine xp ?_)
   refine EvO.gZ rfl rfl rfl (fun _=>rfl) rfl rfl dr rfl rfl (by omega) MP rfl (fun p=>?_);(repeat(first|refine xT ?_|refine xL ?_|refine xN ?_|refine xo ?_|refine xp ?_));refine EvO.nil ?_;(try refine zF ?_);(try subst hK);(try refine qy ?_);(repeat refine qq ?_);refine qc (fun h6=>?_) (fun h6=>?_)<;>try simp only[cs] at h6
   ·(try refine qy ?_);(repeat refine qq ?_);(try generalize hK:SeqQ _ _ _ _=K);refine EvC.reg ?_;(repeat(first|refine xT ?_|refine xL ?_|refine xN ?_|refine xo ?_|refine xp ?_));refine EvO.nil ?_;(try refine zF ?_);(try subst hK);(try refine qy ?_);refine EvC.ret ⟨rx,_,rfl,bf (by simp) (by simp[enterSt]) ?_⟩;rw[if_pos (.inr (by omega))] at hS;subst hS;rfl
   refine EvC.skip ?_;rw[if_neg (by omega)] at hS;(try refine qy ?_);(repeat refine qq ?_);(try generalize hK:SeqQ _ _ _ _=K);refine EvC.reg ?_
   (first|refine xT ?_|refine xL ?_|refine xN ?_|refine xo ?_|refine xp ?_)
   (first|refine xT ?_|refine xL ?_|refine xN ?_|refine xo ?_|refine xp ?_)
   (first|refine xT ?_|refine xL ?_|refine xN ?_|refine xo ?_|refine xp ?_)
   (first|refine xT ?_|refine xL ?_|refine xN ?_|refine xo ?_|refine xp ?_)
   refine EvO.gZ rfl rfl rfl (fun _=>rfl) rfl rfl dr rfl rfl (by omega) MP rfl (fun p=>?_);(repeat(first|refine xT ?_|refine xL ?_|refine xN ?_|refine xo ?_|refine xp ?_));refine EvO.nil ?_;(try refine zF ?_);(try subst hK);(try refine qy ?_);have LX:r+1≤(r+1)*64^(j+1):=Nat.le_mul_of_pos_right _ (Nat.pow_pos (by omega));rw[Ro (by omega) RY];(try refine qy ?_);(repeat refine qq ?_);(try generalize hK:SeqQ _ _ _ _=K);refine EvC.reg ?_;(repeat(first|refine xT ?_|refine xL ?_|refine xN ?_|refine xo ?_|refine xp ?_));refine EvO.nil ?_;(try refine zF ?_);(try subst hK);(try refine qy ?_);(repeat refine qq ?_);(try generalize hK:SeqQ _ _ _ _=K);refine EvC.reg ?_;(repeat(first|refine xT ?_|refine xL ?_|refine xN ?_|refine xo ?_|refine xp ?_));refine EvO.nil ?_;(try refine zF ?_);(try subst hK);(try refine qy ?_);rw[wrap_i64 (by omega) (by omega)];refine⟨j,by omega,i+1,_,_,_,rfl,rfl,by omega,by omega,by rw[jG];exact hS,?_⟩;have e1:(r*64+y.toNat %64+1)≤(r+1)*64:=by omega
   have e2:=Nat.mul_le_mul_right (64^j) e1;have e3:64*64^j=64^(j+1):=by rw[Nat.pow_succ,Nat.mul_comm]
   rw[Nat.mul_assoc,e3] at e2;omega
  ·refine EvC.exit ?_;have:j=0:=by omega
   subst this;simp only[iC] at hS;subst hS;(try refine qy ?_);(repeat refine qq ?_);(try generalize hK:SeqQ _ _ _ _=K);refine EvC.reg ?_;(repeat(first|refine xT ?_|refine xL ?_|refine xN ?_|refine xo ?_|refine xp ?_));refine EvO.nil ?_;(try refine zF ?_);(try subst hK);(try refine qy ?_);refine EvC.ret ⟨rx,_,rfl,bf (by simp) (by simp[enterSt]) ?_⟩;rw[wrap_i64 (by omega) (by omega)];rfl
 rcases hk with hk|hk|hk|hk|hk
 ·omega
 ·subst hk;refine EvC.cond (v:=false) rfl (fun h=>by cases h) fun _=>EvC.skip ?_;rw[dD (by simp only[kP];omega)];exact H _ 0 _ rfl rfl (by omega)
 ·subst hk;refine EvC.cond (v:=true) rfl (fun _=>?_) (fun h=>by cases h);refine EvC.reg ?_
  (first|refine xT ?_|refine xL ?_|refine xN ?_|refine xo ?_|refine xp ?_)
  refine EvO.gZ rfl rfl rfl (fun _=>rfl) rfl rfl dr rfl rfl (by omega) rfl rfl (fun p=>?_);(repeat(first|refine xT ?_|refine xL ?_|refine xN ?_|refine xo ?_|refine xp ?_));refine EvO.nil ?_;(try refine zF ?_);rw[mask (j:=5) hc (by omega)]
  ·exact H _ 1 _ rfl rfl (by omega)
  ·decide
 ·subst hk;refine EvC.cond (v:=true) rfl (fun _=>?_) (fun h=>by cases h);refine EvC.reg ?_
  (first|refine xT ?_|refine xL ?_|refine xN ?_|refine xo ?_|refine xp ?_)
  refine EvO.gZ rfl rfl rfl (fun _=>rfl) rfl rfl dr rfl rfl (by omega) rfl rfl (fun p=>?_);(repeat(first|refine xT ?_|refine xL ?_|refine xN ?_|refine xo ?_|refine xp ?_));refine EvO.nil ?_;(try refine zF ?_);rw[mask (j:=4) hc (by omega)]
  ·exact H _ 2 _ rfl rfl (by omega)
  ·decide
 ·subst hk;refine EvC.cond (v:=true) rfl (fun _=>?_) (fun h=>by cases h);refine EvC.reg ?_
  (first|refine xT ?_|refine xL ?_|refine xN ?_|refine xo ?_|refine xp ?_)
  refine EvO.gZ rfl rfl rfl (fun _=>rfl) rfl rfl dr rfl rfl (by omega) rfl rfl (fun p=>?_);(repeat(first|refine xT ?_|refine xL ?_|refine xN ?_|refine xo ?_|refine xp ?_));refine EvO.nil ?_;(try refine zF ?_);rw[mask (j:=3) hc (by omega)]
  ·exact H _ 3 _ rfl rfl (by omega)
  ·decide
def iG (b:List UInt8):Nat×Nat:=if(gK b).2.1=0 then(65533,1) else((gK b).1,(gK b).2.1)
def Bu:Nat→List UInt8→List (Nat×Nat)
 |0,_=>[]
 |_+1,[]=>[]
 |n+1,b=>iG b::Bu n (b.drop (iG b).2)
def ry (b:List UInt8):List (Nat×Nat):=Bu b.length b
theorem lU (b:List UInt8):1≤(iG b).2:=by
 unfold iG;split
 ·simp
 ·simp only;omega
theorem nH : ∀ (n : Nat) (b : List UInt8), b.length ≤ n → Bu n b = ry b
 | 0, [], _ => rfl
 | 0, _ :: _, h => by simp at h
 | n + 1, [], _ => rfl
 | n + 1, c :: b, h => by
  have hp := lU (c :: b);have h1 : ((c :: b).drop (iG (c :: b)).2).length ≤ b.length := by rw [List.length_drop]; simp only [List.length_cons]; omega
  simp only [List.length_cons] at h;show iG (c :: b) :: Bu n ((c :: b).drop _) = iG (c :: b) :: Bu b.length ((c :: b).drop _);rw [nH n _ (by omega)]
  rcases Nat.lt_or_ge n b.length with h2 | h2
  ·omega
  ·rw [nH b.length _ h1]
termination_by n b => b.length
decreasing_by all_goals (simp_wf; omega)
theorem rv:ry []=[]:=rfl
theorem tu {b:List UInt8} (h:b≠[]):ry b=iG b::ry (b.drop (iG b).2):=by
 match b,h with
 |c::b,_=>
  show iG (c::b)::Bu b.length ((c::b).drop _)=_;rw[nH];have hp:=lU (c::b);rw[List.length_drop];simp only[List.length_cons];omega
def aN (g:Nat×Nat):List D:=[.int .i32 (g.1:Nat),.int .i64 (g.2:Nat)]
def fR (l:List (Nat×Nat)):D:=.sl ((l.map aN).map (iR 2))
theorem Dt {l:List (Nat×Nat)}:∀e∈l.map aN,e.length=2:=by
 intro e he;obtain⟨g,_,rfl⟩:=List.mem_map.1 he;rfl
theorem qG {l:List (Nat×Nat)}:∀e∈l.map aN,∀d∈e,bC d=true:=by
 intro e he d hd;obtain⟨g,_,rfl⟩:=List.mem_map.1 he;simp only[aN,List.mem_cons,List.not_mem_nil,or_false] at hd
 rcases hd with rfl|rfl<;>rfl
theorem dP (st:St) (l:List (Nat×Nat)):V.Rows st 2 (fR l) (l.map aN):=Rows.pr Dt qG
theorem vj:∀(left n r lo hi:Nat) (b:List UInt8),(iC left n r lo hi b).2.1≠0→(iC left n r lo hi b).2.1=n∧left≤b.length
 |0,n,r,lo,hi,b,h=>by simp[iC]
 |left+1,n,r,lo,hi,[],h=>by simp[iC] at h
 |left+1,n,r,lo,hi,x::xs,h=>by
  simp only[iC] at h⊢
  split at h
  ·simp at h
  ·rename_i hc;rw[if_neg hc];have:=vj left n _ _ _ xs h;exact⟨this.1,by simp;omega⟩
theorem zm {b:List UInt8} (h:b≠[]):(iG b).2≤b.length:=by
 match b,h with
 |c::xs,_=>
  unfold iG
  split
  ·simp
  ·rename_i hz;simp only[gK] at hz⊢
   split at hz
   ·simp at hz
   ·rename_i hk;rw[if_neg hk];have:=vj _ _ _ _ _ _ hz;rw[this.1];simp;omega
theorem Ip {st:St} {x:D} {b:List UInt8} (hb:Bytes st x b) (hlen:b.length≤1048576):Ev pv 15 [x] st (fR (ry b)) st:=by
 refine Ev.mk1 rfl Pj rfl rfl rfl ?_;refine zE ?_;have hx:=hb.ref;(try refine qy ?_);(repeat refine qq ?_);(try generalize hK:SeqQ _ _ _ _=K);refine EvC.reg ?_;(repeat(first|refine xT ?_|refine xL ?_|refine xN ?_|refine xo ?_|refine xp ?_));refine EvO.nil ?_;(try refine zF ?_);(try subst hK);(try refine qy ?_);(repeat refine qq ?_);(try generalize hK:SeqQ _ _ _ _=K);refine EvC.reg ?_;(repeat(first|refine xT ?_|refine xL ?_|refine xN ?_|refine xo ?_|refine xp ?_));refine EvO.nil ?_;(try refine zF ?_);(try subst hK);(try refine qy ?_);refine EvC.seq (EvC.block ?_)
 refine EvC.loop (fun j fr ab=>∃(y out r n:D) (b':List UInt8) (done:List (Nat×Nat)),fr.clean=⟨6,[y,.tup [],.nul,out,r,n],[]⟩∧Ex st.bs.length (enterSt .ro st) ab∧Bytes ab y b'∧y.ref≤st.bs.length∧
  Acc st.bs.length ab 2 out (done.map aN)∧j=b'.length∧done++ry b'=ry b∧done.length+b'.length≤b.length) b.length
  ⟨x,.nul,_,_,b,[],rfl,Ex.refl _ _,hb.enter .ro,hx,.nul,rfl,rfl,by simp⟩ ?_
 rintro j fr ab ⟨y,out,r,n,b',done,hfr,hex,hy,P_,FJ,rfl,l9,hl⟩;rw[hfr];(try refine qy ?_);(repeat refine qq ?_);(try generalize hK:SeqQ _ _ _ _=K);refine EvC.reg ?_
 (first|refine xT ?_|refine xL ?_|refine xN ?_|refine xo ?_|refine xp ?_)
 refine EvO.len rfl rfl rfl hy rfl ?_;(repeat(first|refine xT ?_|refine xL ?_|refine xN ?_|refine xo ?_|refine xp ?_));refine EvO.nil ?_;(try refine zF ?_);(try subst hK);(try refine qy ?_);rw[fN];(try refine qy ?_);(repeat refine qq ?_);refine qc (fun h1=>?_) (fun h1=>?_)<;>try simp only[cs] at h1
 ·refine EvC.skip ?_;have hb0:b'≠[]:=by rintro rfl;simp at h1
  (try refine qy ?_);(repeat refine qq ?_);refine EvC.block ?_;(try refine qy ?_);(repeat refine qq ?_);(try generalize hK:SeqQ _ _ _ _=K);refine EvC.reg ?_
  (first|refine xT ?_|refine xL ?_|refine xN ?_|refine xo ?_|refine xp ?_)
  refine EvO.Gy rfl rfl rfl (Du hy) ?_;(repeat(first|refine xT ?_|refine xL ?_|refine xN ?_|refine xo ?_|refine xp ?_));refine EvO.nil ?_;(try refine zF ?_);(try subst hK);(try refine qy ?_);generalize hf:gK b'=F at*;obtain⟨r0,n0,bg⟩:=F;(try refine qy ?_);(repeat refine qq ?_);(try generalize hK:SeqQ _ _ _ _=K);refine EvC.reg ?_;(repeat(first|refine xT ?_|refine xL ?_|refine xN ?_|refine xo ?_|refine xp ?_));refine EvO.nil ?_;(try refine zF ?_);(try subst hK);(try refine qy ?_);generalize hK:SeqQ _ _ _ _=K
  have H:∀m,K .next ⟨6,[y,.tup [],.nul,out,.int .i32 ((iG b').1:Nat),.int .i64 ((iG b').2:Nat)],m⟩ ab:=by
   intro m;subst hK;generalize hg:iG b'=g;have hp:=lU b';have hle:=zm hb0;rw[hg] at hp hle;(try refine qy ?_);(repeat refine qq ?_);(try generalize hK:SeqQ _ _ _ _=K);refine EvC.reg ?_
   (first|refine xT ?_|refine xL ?_|refine xN ?_|refine xo ?_|refine xp ?_)
   (first|refine xT ?_|refine xL ?_|refine xN ?_|refine xo ?_|refine xp ?_)
   (first|refine xT ?_|refine xL ?_|refine xN ?_|refine xo ?_|refine xp ?_)
   refine EvO.T rfl rfl rfl (d:=.agg (aN g)) (st1:=ab) rfl ?_;refine EvO.T rfl rfl rfl (d:=.win ab.bs.length 0 0 1 2) (st1:=ab.push (.mem 0 true (aN g))) rfl ?_;have hN:st.bs.length≤ab.bs.length:=hex.len;have FD:=hex.trans (Ex.push hN (.mem 0 true (aN g)));refine EvO.append rfl rfl rfl rfl (FJ.push _) (Rows.one rfl) rfl rfl rfl rfl rfl rfl rfl (by decide) FD.len (by rw[FD.flr];exact Nat.le_refl _) (by rw[FD.ro];exact Nat.le_refl _) (by simp only[List.length_map,List.length_cons,List.length_nil];show(done.length+1)*16≤_;omega) fun MC st2 KA nv _ _ _=>?_;(repeat(first|refine xT ?_|refine xL ?_|refine xN ?_|refine xo ?_|refine xp ?_));refine EvO.nil ?_;(try refine zF ?_);(try subst hK);(try refine qy ?_);have N8:=FD.trans nv;have E6:Bytes st2 y b':=Rows.ex ((Ex.push hN _).trans nv) hy P_;(try refine qy ?_);(repeat refine qq ?_);(try generalize hK:SeqQ _ _ _ _=K);refine EvC.reg ?_
   (first|refine xT ?_|refine xL ?_|refine xN ?_|refine xo ?_|refine xp ?_)
   (first|refine xT ?_|refine xL ?_|refine xN ?_|refine xo ?_|refine xp ?_)
   refine EvO.slice rfl rfl rfl E6 rfl rfl (l:=g.2) (r:=b'.length) ?_ ⟨by omega,by rw[fN];omega⟩ fun y2 E5 MO=>?_
   ·show di (V.byteCells b').length (some (.int .i64 (g.2:Nat))) none=_;rw[fN];simp only[di,jS,lG,Option.bind_some];rw[if_pos ⟨by omega,by omega⟩];rfl
   (repeat(first|refine xT ?_|refine xL ?_|refine xN ?_|refine xo ?_|refine xp ?_));refine EvO.nil ?_;(try refine zF ?_);(try subst hK);(try refine qy ?_);refine⟨(b'.drop g.2).length,by rw[List.length_drop];omega,y2,MC,_,_,b'.drop g.2,done++[g],rfl,N8,?_,Nat.le_trans MO P_,?_,rfl,?_,?_⟩
   ·have:((V.byteCells b').take b'.length).drop g.2=V.byteCells (b'.drop g.2):=by
     rw[←fN,List.take_length];simp[V.byteCells]
    unfold Bytes;rw[←this];exact E5
   ·rw[List.map_append];exact KA
   ·rw[List.append_assoc,List.singleton_append,←l9,tu hb0,hg]
   ·rw[List.length_append,List.length_drop];simp only[List.length_cons,List.length_nil];omega
  (try refine qy ?_);(repeat refine qq ?_);refine qc (fun h2=>?_) (fun h2=>?_)<;>try simp only[cs] at h2
  ·refine EvC.reg ?_;(repeat(first|refine xT ?_|refine xL ?_|refine xN ?_|refine xo ?_|refine xp ?_));refine EvO.nil ?_;(try refine zF ?_);have:iG b'=(65533,1):=by unfold iG;rw[hf,if_pos (by simpa using h2)]
   rw[this] at H;exact H _
  ·refine EvC.skip ?_;have:iG b'=(r0,n0):=by unfold iG;rw[hf,if_neg (by simpa using h2)]
   rw[this] at H;exact H _
 ·refine EvC.exit ?_
  have hb0:b'=[]:=by cases b' with|nil=>rfl|cons _ _=>simp at h1<;>omega
  subst hb0;rw[rv,List.append_nil] at l9;(try refine qy ?_);(repeat refine qq ?_);(try generalize hK:SeqQ _ _ _ _=K);refine EvC.reg ?_;(repeat(first|refine xT ?_|refine xL ?_|refine xN ?_|refine xo ?_|refine xp ?_));refine EvO.nil ?_;(try refine zF ?_);(try subst hK);(try refine qy ?_);refine EvC.ret ⟨rx,_,rfl,bf (by simp) (hex.take rfl) ?_⟩;rw[←l9];exact FJ.freeze qG (n:=15) (by decide)
structure eC where
 i:Nat
 o:Nat
 g:Nat
 e:Int
 w:Int
def aJ (gs:List (Nat×Nat)) (bk:D) (s:eC):List D:=[fR gs,bk,.int .i64 (s.i:Nat),.int .i64 (s.o:Nat),.int .i64 (s.g:Nat),.int .i64 s.e,.int .i64 s.w]
def iv (gs:List (Nat×Nat)) (i:Nat) (r:Int):Bool:=match gs[i]? with
 |some g=>((g.1:Nat):Int)==r
 |none=>false
theorem pN {gs:List (Nat×Nat)} {i:Nat} {r:Int} (h:iv gs i r=true):i<gs.length:=by
 unfold iv at h
 split at h
 ·exact lt_get (by assumption)
 ·cases h
def cA (gs:List (Nat×Nat)) (s:eC) (r:Int):eC:=if iv gs s.i r=true then{s with i:=s.i+1} else s
def Im (gs:List (Nat×Nat)) (i:Nat):Bool:=match gs[i]? with
 |some g=>((g.1:Nat):Int)==65533 &&((g.2:Nat):Int)==1
 |none=>false
def ib (bB:List Int) (s:eC) (i:Nat) (e:Int):eC:=if s.e=0 then{s with e:=e,w:=bB.getD i 0} else s
theorem nY {N k:Nat} {S s0:St} {H:List aP} {gs:List (Nat×Nat)} {bk:D} {s:eC} (uy:gs.length≤1048576) (r:Int) (hH:Has N S s0 (.box k (.mem 0 false (aJ gs bk s))::H)):
  ∃d ab,Ev pv 130 [.ptr k 0 0,.int .i32 r] s0 d ab∧d=.bool (iv gs s.i r)∧Has N S ab (.box k (.mem 0 false (aJ gs bk s))::H):=by
 refine Ev.iI rfl Ld rfl rfl rfl ?_;refine zE ?_;have bY:=hH;have hH:=hH.cg;have bZ:(enterSt .rw s0).bs=s0.bs:=rfl;generalize enterSt .rw s0=S2 at*;have Gs:Arg N S2 2 (fR gs) (gs.map aN):=Arg.pure (fun st=>dP st gs);refine zQ 4 ?_
 by_cases ha:s.i<gs.length
 ·obtain⟨g,hg⟩:∃g,gs[s.i]?=some g:=⟨gs[s.i]'ha,List.getElem?_eq_getElem _⟩
  have hr1:(gs.map aN)[s.i]?=some (aN g):=by rw[List.getElem?_map,hg];rfl
  have cv:decide ((s.i:Int)<(gs.length:Nat))=true:=by rw[decide_eq_true];simp;omega
  have hv:iv gs s.i r=(((g.1:Nat):Int)==r):=by unfold iv;rw[hg]
  refine qq<|EvC.j9 4 (.bool (((g.1:Nat):Int)==r)) [] ?_ (fun ff tmp=>?_)
  ·refine zQ 8 ?_;refine qn ?_;simp only[List.length_map];refine zQ 10 ?_;refine qr (fun F9 wx=>?_) (hg:=wi cv);refine qf (fo:=0) (fun GP yj=>?_) (hg:=wi cv);refine zQ 5 ?_;refine EvO.nil (aK ?_);dsimp only[setW,List.foldl,nth,u2,u1];dsimp only[Fr.putO,Fr.put,Fr.clean,Fr.ev,Fr.get,nth,look,u1,u2,v1,v2,v4]
   all_goals(first|rfl|(simp[cv];done)|(simp_all;done)|(simp[cv];omega)|(simp_all;omega))
  dsimp only[setW,List.foldl,nth,u2,u1];refine EvC.ret ⟨rx,_,_,_,rfl,ag (rfl),?_⟩;exact⟨by rw[hv];rfl,bY.au bZ hH⟩
 ·have cv:decide ((s.i:Int)<(gs.length:Nat))=false:=by rw[decide_eq_false];simp;omega
  have hv:iv gs s.i r=false:=by
   cases h:iv gs s.i r with
   |true=>exact absurd (pN h) ha
   |false=>rfl
  refine qq<|EvC.j9 4 (.bool false) [] ?_ (fun ff tmp=>?_)
  ·refine zQ 8 ?_;refine qn ?_;simp only[List.length_map];refine zQ 17 ?_;refine EvO.nil (aK ?_);dsimp only[setW,List.foldl,nth,u2,u1];dsimp only[Fr.putO,Fr.put,Fr.clean,Fr.ev,Fr.get,nth,look,u1,u2,v1,v2,v4]
   all_goals(first|rfl|(simp[cv];done)|(simp_all;done)|(simp[cv];omega)|(simp_all;omega))
  dsimp only[setW,List.foldl,nth,u2,u1];refine EvC.ret ⟨rx,_,_,_,rfl,ag (rfl),?_⟩;exact⟨by rw[hv];rfl,bY.au bZ hH⟩
theorem dw {N k:Nat} {S s0:St} {H:List aP} {gs:List (Nat×Nat)} {bk:D} {s:eC} (uy:gs.length≤1048576) (r:Int) (hH:Has N S s0 (.box k (.mem 0 false (aJ gs bk s))::H)):
  ∃d ab,Ev pv 119 [.ptr k 0 0,.int .i32 r] s0 d ab∧d=.bool (iv gs s.i r)∧Has N S ab (.box k (.mem 0 false (aJ gs bk (cA gs s r)))::H):=by
 refine Ev.iI rfl Lj rfl rfl rfl ?_;refine zE ?_;have bY:=hH;have hH:=hH.cg;have bZ:(enterSt .rw s0).bs=s0.bs:=rfl;generalize enterSt .rw s0=S2 at*;refine zQ 9 ?_;obtain⟨_,st,hev,rfl,hH⟩:=nY uy r hH;refine qv hev ?_;refine zQ 1 ?_;unfold cA
 cases hb:iv gs s.i r with
 |true=>
  have hlt:=pN hb;dsimp only[aJ] at hH;rw[if_pos rfl];refine zQ 10 ?_;refine qT hH at0 fun st hH=>?_;dsimp only[u2,u1,u3,u4,setMany,u5,u6,D.cells,Nat.reduceAdd,aJ,aN,ae] at hH;refine zQ 5 ?_;refine EvC.ret ⟨rx,_,_,_,rfl,ag (rfl),?_⟩;exact⟨rfl,bY.au bZ hH⟩
 |false=>
  rw[if_neg (by simp)];refine zQ 6 ?_;refine EvC.ret ⟨rx,_,_,_,rfl,ag (rfl),?_⟩;exact⟨rfl,bY.au bZ hH⟩
theorem yQ {N k:Nat} {S s0:St} {H:List aP} {gs:List (Nat×Nat)} {bk:D} {s:eC} (i:Nat) (hi:i<gs.length) (hH:Has N S s0 (.box k (.mem 0 false (aJ gs bk s))::H)):
  ∃d ab,Ev pv 154 [.ptr k 0 0,.int .i64 (i:Nat)] s0 d ab∧d=.bool (Im gs i)∧Has N S ab (.box k (.mem 0 false (aJ gs bk s))::H):=by
 refine Ev.iI rfl K5 rfl rfl rfl ?_;refine zE ?_;have bY:=hH;have hH:=hH.cg;have bZ:(enterSt .rw s0).bs=s0.bs:=rfl;generalize enterSt .rw s0=S2 at*;have Gs:Arg N S2 2 (fR gs) (gs.map aN):=Arg.pure (fun st=>dP st gs);refine zQ 4 ?_
 obtain⟨g,hg⟩:∃g,gs[i]?=some g:=⟨gs[i]'hi,List.getElem?_eq_getElem _⟩
 have hr1:(gs.map aN)[i]?=some (aN g):=by rw[List.getElem?_map,hg];rfl
 have hv:Im gs i=(((g.1:Nat):Int)==65533 &&((g.2:Nat):Int)==1):=by unfold Im;rw[hg]
 refine qq<|EvC.j9 4 (.bool (((g.1:Nat):Int)==65533 &&((g.2:Nat):Int)==1)) [] ?_ (fun ff tmp=>?_)
 ·refine zQ 5 ?_;refine qr fun P6 J1=>?_;refine qf (fo:=0) fun P5 J0=>?_;refine zQ 3 ?_;refine EvO.two 14 rfl (fun dI=>?_) (fun dI=>?_)
  ·refine zQ 5 ?_;refine qr (fun F_ wy=>?_) (hg:=wi dI);refine qf (fo:=1) (fun Jd C6=>?_) (hg:=wi dI);refine zQ 4 ?_;refine EvO.nil (aK ?_);refine zG ?_
   all_goals(simp[dI];done)
  ·refine zQ 11 ?_;refine EvO.nil (aK ?_);refine zG ?_
   all_goals(simp[dI];done)
 dsimp only[setW,List.foldl,nth,u2,u1];refine EvC.ret ⟨rx,_,_,_,rfl,ag (rfl),?_⟩;exact⟨by rw[hv];rfl,bY.au bZ hH⟩
theorem cF {N k:Nat} {S s0:St} {H:List aP} {gs:List (Nat×Nat)} {bk:D} {bB:List Int} {s:eC} (i:Nat) (e:Int) (hi:i<bB.length) (hH:Has N S s0 (.box k (.mem 0 false (aJ gs bk s))::.lst bk 1 (bB.map ae)::H)):
  ∃d ab,Ev pv 95 [.ptr k 0 0,.int .i64 (i:Nat),.int .i64 e] s0 d ab∧d=.sl []∧Has N S ab (.box k (.mem 0 false (aJ gs bk (ib bB s i e)))::.lst bk 1 (bB.map ae)::H):=by
 refine Ev.iI rfl OK rfl rfl rfl ?_;refine zE ?_;have bY:=hH;have hH:=hH.cg;have bZ:(enterSt .rw s0).bs=s0.bs:=rfl;generalize enterSt .rw s0=S2 at*;refine zQ 4 ?_
 obtain⟨v,hv⟩:∃v,bB[i]?=some v:=⟨bB[i]'hi,List.getElem?_eq_getElem _⟩
 have hr1:=dc hv;unfold ib;refine zQ 9 ?_;refine zI (fun h0=>?_) fun h0=>?_
 ·rw[if_pos h0];have FB:bB.getD i 0=v:=by rw[List.getD_eq_getElem?_getD,hv];rfl
  refine zQ 9 ?_;refine qi hH at1 fun F_ wy=>?_;refine zQ 3 ?_;refine qT hH at0 fun st hH=>?_;dsimp only[u2,u1,u3,u4,setMany,u5,u6,D.cells,Nat.reduceAdd,aJ,aN,ae] at hH;refine zQ 2 ?_;refine qT hH at0 fun st hH=>?_;dsimp only[u2,u1,u3,u4,setMany,u5,u6,D.cells,Nat.reduceAdd,aJ,aN,ae] at hH;refine zQ 5 ?_;refine EvC.ret ⟨rx,_,_,_,rfl,ag (rfl),?_⟩;exact⟨rfl,by rw[FB];exact bY.au bZ hH⟩
 ·rw[if_neg h0];refine zQ 5 ?_;refine EvC.ret ⟨rx,_,_,_,rfl,ag (rfl),?_⟩;exact⟨rfl,bY.au bZ hH⟩
def d_ (fr:Go.V.Fr) (k:Nat):Go.V.D:=Go.V.nth .junk fr.loc k
noncomputable def jW (l:List Rg):List Rg:=@dite _ (∃a,eP l a) (Classical.propDecidable _) (fun h=>Classical.choose h) (fun _=>[])
theorem CM {l a:List Rg} (h:eP l a):jW l=a:=by
 have hx:∃a,eP l a:=⟨a,h⟩
 unfold jW;rw[dif_pos hx];exact(Classical.choose_spec hx).unique h
theorem lV {s0:St} {x:D} {l:List Rg} (hx:V.Rows s0 2 x (l.map ah)) (hl:l.length≤1048576):Ev pv 133 [x] s0 (aY (jW l)) s0∧(jW l).length≤2*l.length∧eP l (jW l):=by
 obtain⟨_,hev,all,rfl,hperm,kX⟩:=zr hx (by omega);have hM:eP l (all.foldl cY []).reverse:=pE (fun x=>hperm.mem_iff) kX;have hlen:=hperm.length_eq;have lC:=h_ l;have iV:=pK all;rw[CM hM];exact⟨hev,by rw[List.length_reverse];omega,hM⟩
theorem iF (l:List Rg):SlD (aY l) 2 (l.map ah):=by
 rw[←fz];refine SlD.frozen ?_ ?_
 ·intro e he;obtain⟨x,_,rfl⟩:=List.mem_map.1 he;rfl
 ·intro e he d hd;obtain⟨x,_,rfl⟩:=List.mem_map.1 he;simp only[ah,List.mem_cons,List.not_mem_nil,or_false] at hd
  rcases hd with rfl|rfl<;>rfl
theorem ub {r:Int} {l a:List Rg} (h0:0≤r) (h1:r<55296) (hr:cP l r) (h:eP l a):a≠[]:=by
 rintro rfl;have:=(h.2 r).2 ⟨by unfold f';omega,hr⟩;obtain⟨x,hx,_⟩:=this;cases hx
theorem vY {r:Int} (h0:0≤r) (h1:r<55296) {a:List Rg} (h:eP [(r,r)] a):a≠[]:=by
 rintro rfl;have:=(h.2 r).2 ⟨?_,?_⟩
 ·obtain⟨x,hx,_⟩:=this;cases hx
 ·unfold f';omega
 ·exact⟨(r,r),List.mem_cons_self ..,by simp⟩
theorem iB {s0:St} (r:Int):Ev pv 159 [.int .i32 r] s0 (aY (jW [(r,r)])) s0:=by
 refine Ev.mk1 rfl K0 rfl rfl rfl ?_;refine zE ?_;obtain⟨hSb,hF,hH⟩:=ri s0;generalize enterSt .ro s0=S at*;refine zQ 8 ?_;refine EvO.eX (qs:=[(0,_),(1,_)]) rfl rfl rfl rfl ⟨rfl,(ev rfl),(by rfl),rfl,(ev rfl),(by rfl),trivial⟩ (by intro q hq;simp only[List.mem_cons,List.not_mem_nil,or_false] at hq;rcases hq with rfl|rfl<;>exact⟨rfl,by exact Nat.le_of_ble_eq_true rfl⟩) (by show List.foldl _ [_,_] _=_;dsimp only[List.foldl_cons,List.foldl_nil,u2,u1]<;>rfl) (put_T rfl _) ?_;refine qh (s:=2) (vs:=[_]) hH fun k6 st Ef hH=>?_;obtain⟨hev,hl,_⟩:=lV (l:=[(r,r)]) (hH.rows at0) (by simp);refine qv hev ?_;refine zQ 2 ?_;refine EvC.ret ⟨rx,_,rfl,rl hSb hH (rfl)⟩
theorem CC {s0:St} {x:D} {l:List Rg} (hx:V.Rows s0 2 x (l.map ah)) (hl:l.length≤131072):∃d,Ev pv 166 [x] s0 d s0∧∃a:List Rg,d=aY a∧a.length≤4*l.length+2:=by
 refine Ev.Bx rfl KV rfl rfl rfl ?_;refine zE ?_;obtain⟨hSb,hF,hH⟩:=ri s0;generalize enterSt .ro s0=S at*;have hx:=Arg.of hx hSb;refine zQ 12 ?_;obtain⟨hev,A',_⟩:=lV (hx.rows hH) (by omega);have hla:=(iF (jW l)).arg s0.bs.length S;generalize jW l=m at*;refine zQ 4 ?_;refine qv (hev) ?_;refine qn ?_;simp only[List.length_map];refine zQ 2 ?_;have hH:=hH.nulE 2;refine zQ 1 ?_;refine EvC.loop (fun mm fr st=>∃(i:Nat) (n:Int) (o:D) (out:List Rg),fr.clean=⟨11,[d_ fr 0,d_ fr 1,d_ fr 2,o,.int .i32 n,d_ fr 5,d_ fr 6,d_ fr 7,aY m,.int .i64 (m.length:Nat),.int .i64 (i:Nat)],[]⟩∧Has s0.bs.length S st [.lst o 2 (out.map ah)]∧(i+mm=m.length)∧(out.length=i)) (m.length) ?_ ?_
 ·exact⟨0,0,.nul,[],rfl,hH,by omega,rfl⟩
 rintro mm fr st ⟨i,n,o,out,hfr,hH,hi,ho⟩;rw[hfr];clear hfr;generalize d_ fr=ee;clear fr;refine zQ 5 ?_;refine zP (fun h1=>?_) fun h1=>?_
 ·refine zQ 1 ?_
  obtain⟨q,hq⟩:∃q,m[i]?=some q:=⟨m[i]'(by omega),List.getElem?_eq_getElem _⟩
  have hr:=cW hq;refine zQ 4 ?_;refine qr fun P4 JX=>?_;refine EvO.bF rfl (ev rfl) (by assumption) rfl (put_T rfl _) ?_;refine qa hH fun k6 st Ef hH=>?_;refine qS hH at0 fun st hH=>?_;dsimp only[u2,u1,u3,u4,setMany,u5,u6,D.cells,Nat.reduceAdd,ah] at hH;refine zQ 7 ?_;refine EvO.gR (z:=bD .i32 (q.1-1)) rfl (ev rfl) (ev rfl) rfl (put_T rfl _) ?_;refine EvO.eX (qs:=[(0,_),(1,_)]) rfl rfl rfl rfl ⟨rfl,(ev rfl),(by rfl),rfl,(ev rfl),(by rfl),trivial⟩ (by intro q hq;simp only[List.mem_cons,List.not_mem_nil,or_false] at hq;rcases hq with rfl|rfl<;>exact⟨rfl,by exact Nat.le_of_ble_eq_true rfl⟩) (by show List.foldl _ [_,_] _=_;dsimp only[List.foldl_cons,List.foldl_nil,u2,u1]<;>rfl) (put_T rfl _) ?_;refine qh (s:=2) (vs:=[_]) hH fun k20 st NU hH=>?_;refine EvO.happend (s:=2) hH rfl (ev rfl) (ev rfl) (by exact at2) (by exact hH.rows (by exact at0)) rfl rfl rfl rfl rfl rfl rfl ⟨(Nat.le_of_ble_eq_true rfl),(Nat.le_of_ble_eq_true rfl)⟩ (fun _=>(put_T rfl _)) (by simp only[List.length_cons,List.length_nil,List.length_map]<;>omega) (by exact .inl hF) (fun UK st hH=>?_);dsimp only[u2,u1,u3,u4,setMany,u5,u6,D.cells,Nat.reduceAdd,ah] at hH;refine zQ 5 ?_;refine EvO.ke (z:=bD .i32 (q.2+1)) rfl (ev rfl) (ev rfl) rfl (put_T rfl _) ?_;refine zQ 6 ?_;exact⟨mm-1,by omega,⟨i+1,_,_,out++[(n,bD .i32 (q.1-1))],rfl,(by rw[List.map_append];exact hH.drop 2),by omega,by simp[ho]⟩⟩
 ·refine zQ 5 ?_;refine EvO.eX (qs:=[(0,_),(1,_)]) rfl rfl rfl rfl ⟨rfl,(ev rfl),(by rfl),rfl,(ev rfl),(by rfl),trivial⟩ (by intro q hq;simp only[List.mem_cons,List.not_mem_nil,or_false] at hq;rcases hq with rfl|rfl<;>exact⟨rfl,by exact Nat.le_of_ble_eq_true rfl⟩) (by show List.foldl _ [_,_] _=_;dsimp only[List.foldl_cons,List.foldl_nil,u2,u1]<;>rfl) (put_T rfl _) ?_;refine qh (s:=2) (vs:=[_]) hH fun k29 st NQ hH=>?_;refine EvO.happend (s:=2) hH rfl (ev rfl) (ev rfl) (by exact at1) (by exact hH.rows (by exact at0)) rfl rfl rfl rfl rfl rfl rfl ⟨(Nat.le_of_ble_eq_true rfl),(Nat.le_of_ble_eq_true rfl)⟩ (fun _=>(put_T rfl _)) (by simp only[List.length_cons,List.length_nil,List.length_map]<;>omega) (by exact .inl hF) (fun UJ st hH=>?_);dsimp only[u2,u1,u3,u4,setMany,u5,u6,D.cells,Nat.reduceAdd,ah] at hH;obtain⟨hev,pX,_⟩:=lV (l:=out++[(n,1114111)]) (by rw[List.map_append];exact hH.rows at1) (by simp;omega);refine qv hev ?_;refine zQ 2 ?_;refine EvC.ret ⟨rx,_,_,rfl,rl hSb hH (rfl),?_⟩;exact⟨_,rfl,by simp at pX;omega⟩
theorem Ic {s0:St}:∃d,Ev pv 158 [] s0 d s0∧∃a:List Rg,d=aY a∧a.length≤6:=by
 refine Ev.Bx rfl K1 rfl rfl rfl ?_;refine zE ?_;obtain⟨hSb,hF,hH⟩:=ri s0;generalize enterSt .ro s0=S at*;refine zQ 6 ?_;refine EvO.eX (qs:=[(0,_),(1,_)]) rfl rfl rfl rfl ⟨rfl,(ev rfl),(by rfl),rfl,(ev rfl),(by rfl),trivial⟩ (by intro q hq;simp only[List.mem_cons,List.not_mem_nil,or_false] at hq;rcases hq with rfl|rfl<;>exact⟨rfl,by exact Nat.le_of_ble_eq_true rfl⟩) (by show List.foldl _ [_,_] _=_;dsimp only[List.foldl_cons,List.foldl_nil,u2,u1]<;>rfl) (put_T rfl _) ?_;refine qh (s:=2) (vs:=[_]) hH fun k2 st hk2 hH=>?_;obtain⟨_,hev,a,rfl,hl⟩:=CC (l:=[(10,10)]) (hH.rows at0) (by simp);refine qv hev ?_;refine zQ 2 ?_;refine EvC.ret ⟨rx,_,_,rfl,rl hSb hH (rfl),?_⟩;exact⟨a,rfl,hl⟩
theorem EX {s0:St} (r:Int):Ev pv 167 [.int .i32 r] s0 (.bool (decide (33≤r∧r≤47∨58≤r∧r≤64∨91≤r∧r≤96∨123≤r∧r≤126))) s0:=by
 refine Ev.mk1 rfl KU rfl rfl rfl ?_;refine zE ?_;obtain⟨hSb,hF,hH⟩:=ri s0;generalize enterSt .ro s0=S at*;refine zQ 5 ?_;refine EvC.j9 2 (.bool (decide (33≤r∧r≤47∨58≤r∧r≤64∨91≤r∧r≤96∨123≤r∧r≤126))) [] ?_ (fun ff tmp=>?_)
 ·refine zQ 3 ?_;refine EvO.two 5 rfl (fun bL=>?_) (fun bL=>?_)
  ·refine zQ 4 ?_;refine EvO.two 9 rfl (fun ft=>?_) (fun ft=>?_)
   ·refine zQ 24 ?_;refine EvO.nil (aK ?_);refine zG ?_
    all_goals(simp[bL,ft];done)
   ·refine zQ 3 ?_;refine EvO.two 12 rfl (fun dI=>?_) (fun dI=>?_)
    ·refine zQ 2 ?_;refine EvO.pickT (wantD_is rfl rfl rfl ft) rfl dI (put_T rfl _) ?_;refine zQ 2 ?_;refine EvO.two 17 rfl (fun ef=>?_) (fun ef=>?_)
     ·refine zQ 16 ?_;refine EvO.nil (aK ?_);refine zG ?_
      all_goals(simp[bL,ft,dI,ef];done)
     ·refine zQ 3 ?_;refine EvO.two 20 rfl (fun bH=>?_) (fun bH=>?_)
      ·refine zQ 2 ?_;refine EvO.pickT (wantD_is rfl rfl rfl ef) rfl bH (put_T rfl _) ?_;refine zQ 2 ?_;refine EvO.two 25 rfl (fun ez=>?_) (fun ez=>?_)
       ·refine zQ 8 ?_;refine EvO.nil (aK ?_);refine zG ?_
        all_goals(simp[bL,ft,dI,ef,bH,ez];done)
       ·refine zQ 3 ?_;refine EvO.two 28 rfl (fun cQ=>?_) (fun cQ=>?_)
        ·refine zQ 2 ?_;refine EvO.pickT (wantD_is rfl rfl rfl ez) rfl cQ (put_T rfl _) ?_;refine zQ 2 ?_;refine EvO.nil (aK ?_);refine zG ?_
         all_goals(simp[bL,ft,dI,ef,bH,ez,cQ];done)
        ·refine zQ 2 ?_;refine EvO.pickF (wantD_is rfl rfl rfl ez) rfl cQ (put_T rfl _) ?_;refine zQ 2 ?_;refine EvO.nil (aK ?_);refine zG ?_
         all_goals(simp[bL,ft,dI,ef,bH,ez,cQ];done)
      ·refine zQ 2 ?_;refine EvO.pickF (wantD_is rfl rfl rfl ef) rfl bH (put_T rfl _) ?_;refine zQ 5 ?_;refine EvO.two 28 rfl (fun cQ=>?_) (fun cQ=>?_)
       ·refine zQ 5 ?_;refine EvO.nil (aK ?_);refine zG ?_
        all_goals(simp[bL,ft,dI,ef,bH,cQ];done)
       ·refine zQ 5 ?_;refine EvO.nil (aK ?_);refine zG ?_
        all_goals(simp[bL,ft,dI,ef,bH,cQ];done)
    ·refine zQ 2 ?_;refine EvO.pickF (wantD_is rfl rfl rfl ft) rfl dI (put_T rfl _) ?_;refine zQ 5 ?_;refine EvO.two 20 rfl (fun bH=>?_) (fun bH=>?_)
     ·refine zQ 5 ?_;refine EvO.two 25 rfl (fun ez=>?_) (fun ez=>?_)
      ·refine zQ 8 ?_;refine EvO.nil (aK ?_);refine zG ?_
       all_goals(simp[bL,ft,dI,bH,ez];done)
      ·refine zQ 3 ?_;refine EvO.two 28 rfl (fun cQ=>?_) (fun cQ=>?_)
       ·refine zQ 2 ?_;refine EvO.pickT (wantD_is rfl rfl rfl ez) rfl cQ (put_T rfl _) ?_;refine zQ 2 ?_;refine EvO.nil (aK ?_);refine zG ?_
        all_goals(simp[bL,ft,dI,bH,ez,cQ];done)
       ·refine zQ 2 ?_;refine EvO.pickF (wantD_is rfl rfl rfl ez) rfl cQ (put_T rfl _) ?_;refine zQ 2 ?_;refine EvO.nil (aK ?_);refine zG ?_
        all_goals(simp[bL,ft,dI,bH,ez,cQ];done)
     ·refine zQ 8 ?_;refine EvO.two 28 rfl (fun cQ=>?_) (fun cQ=>?_)
      ·refine zQ 5 ?_;refine EvO.nil (aK ?_);refine zG ?_
       all_goals(simp[bL,ft,dI,bH,cQ];done)
      ·refine zQ 5 ?_;refine EvO.nil (aK ?_);refine zG ?_
       all_goals(simp[bL,ft,dI,bH,cQ];done)
  ·refine zQ 7 ?_;refine EvO.two 12 rfl (fun dI=>?_) (fun dI=>?_)
   ·refine zQ 5 ?_;refine EvO.two 17 rfl (fun ef=>?_) (fun ef=>?_)
    ·refine zQ 16 ?_;refine EvO.nil (aK ?_);refine zG ?_
     all_goals(simp[bL,dI,ef];done)
    ·refine zQ 3 ?_;refine EvO.two 20 rfl (fun bH=>?_) (fun bH=>?_)
     ·refine zQ 2 ?_;refine EvO.pickT (wantD_is rfl rfl rfl ef) rfl bH (put_T rfl _) ?_;refine zQ 2 ?_;refine EvO.two 25 rfl (fun ez=>?_) (fun ez=>?_)
      ·refine zQ 8 ?_;refine EvO.nil (aK ?_);refine zG ?_
       all_goals(simp[bL,dI,ef,bH,ez];done)
      ·refine zQ 3 ?_;refine EvO.two 28 rfl (fun cQ=>?_) (fun cQ=>?_)
       ·refine zQ 2 ?_;refine EvO.pickT (wantD_is rfl rfl rfl ez) rfl cQ (put_T rfl _) ?_;refine zQ 2 ?_;refine EvO.nil (aK ?_);refine zG ?_
        all_goals(simp[bL,dI,ef,bH,ez,cQ];done)
       ·refine zQ 2 ?_;refine EvO.pickF (wantD_is rfl rfl rfl ez) rfl cQ (put_T rfl _) ?_;refine zQ 2 ?_;refine EvO.nil (aK ?_);refine zG ?_
        all_goals(simp[bL,dI,ef,bH,ez,cQ];done)
     ·refine zQ 2 ?_;refine EvO.pickF (wantD_is rfl rfl rfl ef) rfl bH (put_T rfl _) ?_;refine zQ 5 ?_;refine EvO.two 28 rfl (fun cQ=>?_) (fun cQ=>?_)
      ·refine zQ 5 ?_;refine EvO.nil (aK ?_);refine zG ?_
       all_goals(simp[bL,dI,ef,bH,cQ];done)
      ·refine zQ 5 ?_;refine EvO.nil (aK ?_);refine zG ?_
       all_goals(simp[bL,dI,ef,bH,cQ];done)
   ·refine zQ 8 ?_;refine EvO.two 20 rfl (fun bH=>?_) (fun bH=>?_)
    ·refine zQ 5 ?_;refine EvO.two 25 rfl (fun ez=>?_) (fun ez=>?_)
     ·refine zQ 8 ?_;refine EvO.nil (aK ?_);refine zG ?_
      all_goals(simp[bL,dI,bH,ez];done)
     ·refine zQ 3 ?_;refine EvO.two 28 rfl (fun cQ=>?_) (fun cQ=>?_)
      ·refine zQ 2 ?_;refine EvO.pickT (wantD_is rfl rfl rfl ez) rfl cQ (put_T rfl _) ?_;refine zQ 2 ?_;refine EvO.nil (aK ?_);refine zG ?_
       all_goals(simp[bL,dI,bH,ez,cQ];done)
      ·refine zQ 2 ?_;refine EvO.pickF (wantD_is rfl rfl rfl ez) rfl cQ (put_T rfl _) ?_;refine zQ 2 ?_;refine EvO.nil (aK ?_);refine zG ?_
       all_goals(simp[bL,dI,bH,ez,cQ];done)
    ·refine zQ 8 ?_;refine EvO.two 28 rfl (fun cQ=>?_) (fun cQ=>?_)
     ·refine zQ 5 ?_;refine EvO.nil (aK ?_);refine zG ?_
      all_goals(simp[bL,dI,bH,cQ];done)
     ·refine zQ 5 ?_;refine EvO.nil (aK ?_);refine zG ?_
      all_goals(simp[bL,dI,bH,cQ];done)
 dsimp only[setW,List.foldl,nth,u2,u1];refine EvC.ret ⟨rx,_,rfl,rl hSb hH (rfl)⟩
theorem EY {s0:St} (a b:List UInt8):∃d,Ev pv 161 [.str a,.str b] s0 d s0∧∃v:Bool,d=.bool v:=by
 refine Ev.Bx rfl KZ rfl rfl rfl ?_;refine zE ?_;obtain⟨hSb,hF,hH⟩:=ri s0;generalize enterSt .ro s0=S at*;refine zQ 5 ?_;refine EvC.j9 4 (.bool (decide ((a.length:Int)<b.length)||(((a.length:Int)==b.length) &&Op.bytesLess a b))) [] ?_ (fun ff tmp=>?_)
 ·refine qm ?_;refine EvO.slen rfl rfl rfl (put_T rfl _) ?_;refine qm ?_;refine EvO.slen rfl rfl rfl (put_T rfl _) ?_;refine zQ 2 ?_;refine EvO.two 10 rfl (fun cI=>?_) (fun cI=>?_)
  ·refine zQ 12 ?_;refine EvO.nil (aK ?_);refine zG ?_
   all_goals(simp_all;done)
  ·refine zQ 1 ?_;refine EvO.slen (wantD_is rfl rfl rfl cI) rfl rfl (put_T rfl _) ?_;refine zQ 1 ?_;refine EvO.slen (wantD_is rfl rfl rfl cI) rfl rfl (put_T rfl _) ?_;refine zQ 2 ?_;refine EvO.two 16 rfl (fun bt=>?_) (fun bt=>?_)
   ·refine zQ 3 ?_;refine EvO.pickT (wantD_is rfl rfl rfl cI) rfl bt (put_T rfl _) ?_;refine zQ 2 ?_;refine EvO.nil (aK ?_);refine zG ?_
    all_goals(simp_all;done)
   ·refine zQ 3 ?_;refine EvO.pickF (wantD_is rfl rfl rfl cI) rfl bt (put_T rfl _) ?_;refine zQ 2 ?_;refine EvO.nil (aK ?_);refine zG ?_
    all_goals(simp_all;done)
 dsimp only[setW,List.foldl,nth,u2,u1];refine EvC.ret ⟨rx,_,_,rfl,rl hSb hH (rfl),?_⟩;exact⟨_,rfl⟩
theorem lM {s0:St} (b:List UInt8) (hb:b.length≤1048576):∃d,Ev pv 162 [.str b] s0 d s0∧∃(n:Int) (v:Bool),d=.tup [.int .i64 n,.bool v]:=by
 refine Ev.Bx rfl KY rfl rfl rfl ?_;refine zE ?_;obtain⟨hSb,hF,hH⟩:=ri s0;generalize enterSt .ro s0=S at*;refine zQ 9 ?_;refine EvO.slen rfl rfl rfl (by dsimp only[Fr.put,u1,u2]<;>rfl) ?_;refine zQ 2 ?_;refine zP (fun h0=>?_) fun h0=>?_
 ·refine zQ 5 ?_;refine EvC.ret ⟨rx,_,_,rfl,rl hSb hH (rfl),?_⟩;exact⟨_,_,rfl⟩
 ·refine zQ 9 ?_;refine EvO.slen rfl rfl rfl (by dsimp only[Fr.put,u1,u2]<;>rfl) ?_;refine zQ 3 ?_;refine EvC.loop (fun mm fr st=>∃(i:Nat) (n:Int),fr.clean=⟨12,[.str b,d_ fr 1,d_ fr 2,d_ fr 3,.int .i64 n,d_ fr 5,d_ fr 6,d_ fr 7,d_ fr 8,d_ fr 9,.int .i64 (b.length:Nat),.int .i64 (i:Nat)],[]⟩∧Has s0.bs.length S st []∧(i+mm=b.length)) (b.length) ?_ ?_
  ·exact⟨0,0,rfl,hH,by omega⟩
  rintro mm fr st ⟨i,n,hfr,hH,hi⟩;rw[hfr];clear hfr;generalize d_ fr=ee;clear fr;refine zQ 5 ?_;refine zP (fun h1=>?_) fun h1=>?_
  ·refine zQ 1 ?_
   obtain⟨c,hc⟩:∃c,b[i]?=some c:=⟨b[i]'(by omega),List.getElem?_eq_getElem _⟩
   refine zQ 9 ?_;refine EvO.xU (z:=bD .i64 (10*n)) rfl (ev rfl) (ev rfl) rfl (put_T rfl _) ?_;refine zQ 2 ?_;refine EvO.Mn rfl (ev rfl) (ev rfl) rfl (by assumption) (put_T rfl _) ?_;refine EvO.go (d:=.int .u8 (bD .u8 ((c.toNat:Nat)-48))) (st1:=_) rfl rfl rfl (put_T rfl _) ?_;refine qg ?_;refine EvO.ke (z:=bD .i64 (bD .i64 (10*n)+bD .i64 (bD .u8 ((c.toNat:Nat)-48)))) rfl (ev rfl) (ev rfl) rfl (put_T rfl _) ?_;refine zQ 6 ?_;exact⟨mm-1,by omega,⟨i+1,_,rfl,hH,by omega⟩⟩
  ·refine zQ 9 ?_;refine EvC.ret ⟨rx,_,_,rfl,rl hSb hH (rfl),?_⟩;exact⟨_,_,rfl⟩
theorem nQ:∀gs:List (Nat×Nat),i7 ((gs.map aN).map (iR 2))=some (gs.map fun g=>((g.1:Nat):Int))
 |[]=>rfl
 |g::gs=>by
  have ih:=nQ gs;simp only[List.map_cons];show(match i7 ((gs.map aN).map (iR 2)) with|some rs=>some (((g.1:Nat):Int)::rs)|none=>none)=_;rw[ih]
theorem wU:∀(rs:List Int) (acc:List UInt8),(digS rs acc).2≤rs.length∧(digS rs acc).1.length≤acc.length+(digS rs acc).2
 |[],acc=>by simp[digS]
 |r::rs,acc=>by
  unfold digS
  split
  ·have h:=wU rs (if 48<r∨acc≠[] then acc++[UInt8.ofNat r.toNat] else acc);simp only[List.length_cons]
   have hl:(if 48<r∨acc≠[] then acc++[UInt8.ofNat r.toNat] else acc).length≤acc.length+1:=by
    split<;>simp
   omega
  ·simp
structure kf (gs:List (Nat×Nat)) (bB:List Int):Prop where
 gl:gs.length≤120
 pl:bB.length=gs.length
theorem te {N k:Nat} {S s0:St} {H:List aP} {gs:List (Nat×Nat)} {bk:D} {s:eC} (uy:gs.length≤120) (hi:s.i≤gs.length) (hne:gs≠[]) (hH:Has N S s0 (.box k (.mem 0 false (aJ gs bk s))::H)):
  ∃d ab,Ev pv 160 [.ptr k 0 0] s0 d ab∧∃(t:List UInt8) (v:Bool) (m:Nat),d=.tup [.str t,.bool v]∧t.length≤120∧s.i+m≤gs.length∧Has N S ab (.box k (.mem 0 false (aJ gs bk {s with i:=s.i+m}))::H):=by
 have hb:=hH.at at0;have hw:=fS (cs:=[.int .i64 0]) hH (hH.ge at0).1 (.inr rfl);have hl:=wU ((gs.map fun g=>((g.1:Nat):Int)).drop s.i) [];obtain⟨h1,h2⟩:=hl;simp only[List.length_drop,List.length_map,List.length_nil] at h1 h2;refine⟨_,_,Ev.prim rfl ?_,(digS ((gs.map fun g=>((g.1:Nat):Int)).drop s.i) []).1,decide (0<(digS ((gs.map fun g=>((g.1:Nat):Int)).drop s.i) []).2),(digS ((gs.map fun g=>((g.1:Nat):Int)).drop s.i) []).2,rfl,by omega,by omega,hH.tB (av:=0) at0⟩
 have hd:decide ((gs.map fun g=>((g.1:Nat):Int))≠[]∧(0:Int)≤(s.i:Nat)∧((s.i:Nat):Int).toNat≤(gs.map fun g=>((g.1:Nat):Int)).length∧(gs.map fun g=>((g.1:Nat):Int)).length<1099511627776)=true:=by
  rw[decide_eq_true];refine⟨by simpa using hne,by omega,by simp;omega,by simp;omega⟩
 show Bm [.ptr k 0 0] s0=_;simp only[Bm,St.mem_of hb];show(match i7 ((gs.map aN).map (iR 2)) with|some rs=>FQ s0 k 0 0 rs (s.i:Nat)|none=>none)=_;rw[nQ];simp only[FQ,hd];have hwr:=lf (cs:=[.int .i64 ((s.i+(digS ((gs.map fun g=>((g.1:Nat):Int)).drop s.i) []).2:Nat))]) (off:=2) hb (by show 2+1≤7;omega) hw;simp only[Int.toNat_natCast,Nat.zero_add];rw[hwr]
 rfl
def D2 (gs:List (Nat×Nat)) (s s':eC) (d1:D) (b:Bool):Prop:=
 s'.o=s.o∧s'.g=s.g∧s.i≤s'.i∧s'.i≤gs.length∧(d1=.nul∨∃a,d1=aY a∧a.length≤8)∧(s'.e≠0∨s'.e=0∧s.i<s'.i∧∃a,d1=aY a∧a.length≤8∧a≠[])
theorem cT {bB:List Int} {s:eC} {i:Nat} {e:Int} (he:s.e=0) (h:e≠0):(ib bB s i e).e≠0∧(ib bB s i e).i=s.i∧(ib bB s i e).o=s.o∧(ib bB s i e).g=s.g:=by
 unfold ib;rw[if_pos he];exact⟨h,rfl,rfl,rfl⟩
theorem zb {N k:Nat} {S s0:St} {H:List aP} {gs:List (Nat×Nat)} {bk:D} {bB:List Int} {s:eC} (hok:kf gs bB) (he:s.e=0) (hi:s.i<gs.length) (hH:Has N S s0 (.box k (.mem 0 false (aJ gs bk s))::.lst bk 1 (bB.map ae)::H)):
  ∃d ab,Ev pv 157 [.ptr k 0 0] s0 d ab∧∃(d1:D) (b:Bool) (s':eC),d=.tup [d1,.bool b]∧D2 gs s s' d1 b∧Has N S ab (.box k (.mem 0 false (aJ gs bk s'))::.lst bk 1 (bB.map ae)::H):=by
 have uy:=hok.gl;have hpl:=hok.pl;refine Ev.iI rfl K2 rfl rfl rfl ?_;refine zE ?_;have bY:=hH;have hH:=hH.cg;have bZ:(enterSt .rw s0).bs=s0.bs:=rfl;generalize enterSt .rw s0=S2 at*;have Gs:Arg N S2 2 (fR gs) (gs.map aN):=Arg.pure (fun st=>dP st gs);refine zQ 22 ?_;refine qT hH at0 fun st hH=>?_;dsimp only[u2,u1,u3,u4,setMany,u5,u6,D.cells,Nat.reduceAdd,aJ,aN,ae,ah] at hH;refine zQ 12 ?_;refine qn ?_;simp only[List.length_map];refine zQ 2 ?_;refine zP (fun h0=>?_) fun h0=>?_
 ·refine zQ 4 ?_;obtain⟨_,st,hev,rfl,hH⟩:=cF (s:={s with i:=s.i+1}) s.i 4 (by omega) hH;refine qv hev ?_;refine zQ 6 ?_;obtain⟨h1,h2,h3,h4⟩:=cT (bB:=bB) (s:={s with i:=s.i+1}) (i:=s.i) (e:=4) he (by decide);refine EvC.ret ⟨rx,_,_,_,rfl,ag (rfl),?_⟩;exact⟨_,_,_,rfl,⟨h3,h4,by rw[h2];simp,by rw[h2];exact hi,.inl rfl,.inl h1⟩,bY.au bZ hH⟩
 ·obtain⟨g,hg⟩:∃g,gs[s.i+1]?=some g:=⟨gs[s.i+1]'(by omega),List.getElem?_eq_getElem _⟩
  have hr1:(gs.map aN)[s.i+1]?=some (aN g):=by rw[List.getElem?_map,hg];rfl
  have hlt:=lt_get hg;refine zQ 9 ?_;obtain⟨_,st,hev,rfl,hH⟩:=yQ (s:={s with i:=s.i+1}) (s.i+1) hlt hH;refine qv hev ?_;refine zQ 1 ?_;dsimp only[aJ] at hH;refine qc (fun hb=>?_) (fun hb=>?_)<;>try simp only[cs] at hb
  ·refine zQ 7 ?_;obtain⟨_,st,hev,rfl,hH⟩:=cF (s:={s with i:=s.i+1}) (s.i+1) 4 (by omega) hH;refine qv hev ?_;refine zQ 6 ?_;obtain⟨h1,h2,h3,h4⟩:=cT (bB:=bB) (s:={s with i:=s.i+1}) (i:=s.i+1) (e:=4) he (by decide);refine EvC.ret ⟨rx,_,_,_,rfl,ag (rfl),?_⟩;exact⟨_,_,_,rfl,⟨h3,h4,by rw[h2];simp,by rw[h2];exact hi,.inl rfl,.inl h1⟩,bY.au bZ hH⟩
  ·refine zQ 11 ?_;refine qr fun LJ Fp=>?_;refine qf (fo:=0) fun PU JO=>?_;refine zQ 12 ?_;refine qT hH at0 fun st hH=>?_;dsimp only[u2,u1,u3,u4,setMany,u5,u6,D.cells,Nat.reduceAdd,aJ,aN,ae,ah] at hH;refine zQ 6 ?_
   have eM:∀(a:List Rg) (b:Bool),a.length≤8→a≠[]→D2 gs s {s with i:=s.i+1+1} (aY a) b:=fun a b h1 h2=>⟨rfl,rfl,by show s.i≤s.i+1+1;omega,by show s.i+1+1≤_;omega,.inr ⟨a,rfl,h1⟩,.inr ⟨he,by show s.i<s.i+1+1;omega,a,rfl,h1,h2⟩⟩
   have jo:∀(r:Int),0≤r→r<55296→(jW [(r,r)]).length≤8∧jW [(r,r)]≠[]:=by
    intro r h1 h2;obtain⟨_,h3,h4⟩:=lV (s0:=s0) (x:=aY [(r,r)]) (l:=[(r,r)]) (dN _ _) (by simp);exact⟨by simp at h3;omega,vY h1 h2 h4⟩
   refine zQ 6 ?_;refine zI (fun q1=>?_) fun q1=>?_
   ·refine zQ 2 ?_;refine qv (iB 10) ?_;refine zQ 3 ?_;refine EvC.ret ⟨rx,_,_,_,rfl,ag (rfl),?_⟩;exact⟨_,_,_,rfl,eM _ _ (jo 10 (by decide) (by decide)).1 (jo 10 (by decide) (by decide)).2,bY.au bZ hH⟩
   ·refine zQ 5 ?_;refine zI (fun q2=>?_) fun q2=>?_
    ·refine zQ 2 ?_;refine qv (iB 9) ?_;refine zQ 3 ?_;refine EvC.ret ⟨rx,_,_,_,rfl,ag (rfl),?_⟩;exact⟨_,_,_,rfl,eM _ _ (jo 9 (by decide) (by decide)).1 (jo 9 (by decide) (by decide)).2,bY.au bZ hH⟩
    ·refine zQ 5 ?_;refine zI (fun q3=>?_) fun q3=>?_
     ·refine zQ 2 ?_;refine qv (iB 13) ?_;refine zQ 3 ?_;refine EvC.ret ⟨rx,_,_,_,rfl,ag (rfl),?_⟩;exact⟨_,_,_,rfl,eM _ _ (jo 13 (by decide) (by decide)).1 (jo 13 (by decide) (by decide)).2,bY.au bZ hH⟩
     ·refine zQ 5 ?_;refine zI (fun q4=>?_) fun q4=>?_
      ·refine zQ 2 ?_;refine EvO.eX (qs:=[(0,_),(1,_)]) rfl rfl rfl rfl ⟨rfl,(ev rfl),(by rfl),rfl,(ev rfl),(by rfl),trivial⟩ (by intro q hq;simp only[List.mem_cons,List.not_mem_nil,or_false] at hq;rcases hq with rfl|rfl<;>exact⟨rfl,by exact Nat.le_of_ble_eq_true rfl⟩) (by show List.foldl _ [_,_] _=_;dsimp only[List.foldl_cons,List.foldl_nil,u2,u1]<;>rfl) (put_T rfl _) ?_;refine qh (s:=2) (vs:=[_]) hH fun k73 st S' hH=>?_;obtain⟨hev,hl,Ee⟩:=lV (l:=[(48,57)]) (hH.rows at0) (by simp);refine qv hev ?_;refine zQ 3 ?_;refine EvC.ret ⟨rx,_,_,_,rfl,ag (rfl),?_⟩;exact⟨_,_,_,rfl,eM _ _ (by simp at hl;omega) (ub (r:=48) (by decide) (by decide) ⟨_,List.mem_cons_self ..,by decide,by decide⟩ Ee),bY.au bZ (hH.drop 1)⟩
      ·refine zQ 5 ?_;refine zI (fun q5=>?_) fun q5=>?_
       ·refine zQ 2 ?_;refine EvO.eX (qs:=[(0,_),(1,_)]) rfl rfl rfl rfl ⟨rfl,(ev rfl),(by rfl),rfl,(ev rfl),(by rfl),trivial⟩ (by intro q hq;simp only[List.mem_cons,List.not_mem_nil,or_false] at hq;rcases hq with rfl|rfl<;>exact⟨rfl,by exact Nat.le_of_ble_eq_true rfl⟩) (by show List.foldl _ [_,_] _=_;dsimp only[List.foldl_cons,List.foldl_nil,u2,u1]<;>rfl) (put_T rfl _) ?_;refine EvO.eX (qs:=[(0,_),(1,_)]) rfl rfl rfl rfl ⟨rfl,(ev rfl),(by rfl),rfl,(ev rfl),(by rfl),trivial⟩ (by intro q hq;simp only[List.mem_cons,List.not_mem_nil,or_false] at hq;rcases hq with rfl|rfl<;>exact⟨rfl,by exact Nat.le_of_ble_eq_true rfl⟩) (by show List.foldl _ [_,_] _=_;dsimp only[List.foldl_cons,List.foldl_nil,u2,u1]<;>rfl) (put_T rfl _) ?_;refine EvO.eX (qs:=[(0,_),(1,_)]) rfl rfl rfl rfl ⟨rfl,(ev rfl),(by rfl),rfl,(ev rfl),(by rfl),trivial⟩ (by intro q hq;simp only[List.mem_cons,List.not_mem_nil,or_false] at hq;rcases hq with rfl|rfl<;>exact⟨rfl,by exact Nat.le_of_ble_eq_true rfl⟩) (by show List.foldl _ [_,_] _=_;dsimp only[List.foldl_cons,List.foldl_nil,u2,u1]<;>rfl) (put_T rfl _) ?_;refine qh (s:=2) (vs:=[_,_,_]) hH fun k80 st S9 hH=>?_;obtain⟨hev,hl,Ee⟩:=lV (l:=[(9,10),(13,13),(32,32)]) (hH.rows at0) (by simp);refine qv hev ?_;refine zQ 3 ?_;refine EvC.ret ⟨rx,_,_,_,rfl,ag (rfl),?_⟩;exact⟨_,_,_,rfl,eM _ _ (by simp at hl;omega) (ub (r:=9) (by decide) (by decide) ⟨_,List.mem_cons_self ..,by decide,by decide⟩ Ee),bY.au bZ (hH.drop 1)⟩
       ·refine zQ 5 ?_;refine zI (fun q6=>?_) fun q6=>?_
        ·refine zQ 2 ?_;refine EvO.eX (qs:=[(0,_),(1,_)]) rfl rfl rfl rfl ⟨rfl,(ev rfl),(by rfl),rfl,(ev rfl),(by rfl),trivial⟩ (by intro q hq;simp only[List.mem_cons,List.not_mem_nil,or_false] at hq;rcases hq with rfl|rfl<;>exact⟨rfl,by exact Nat.le_of_ble_eq_true rfl⟩) (by show List.foldl _ [_,_] _=_;dsimp only[List.foldl_cons,List.foldl_nil,u2,u1]<;>rfl) (put_T rfl _) ?_;refine EvO.eX (qs:=[(0,_),(1,_)]) rfl rfl rfl rfl ⟨rfl,(ev rfl),(by rfl),rfl,(ev rfl),(by rfl),trivial⟩ (by intro q hq;simp only[List.mem_cons,List.not_mem_nil,or_false] at hq;rcases hq with rfl|rfl<;>exact⟨rfl,by exact Nat.le_of_ble_eq_true rfl⟩) (by show List.foldl _ [_,_] _=_;dsimp only[List.foldl_cons,List.foldl_nil,u2,u1]<;>rfl) (put_T rfl _) ?_;refine EvO.eX (qs:=[(0,_),(1,_)]) rfl rfl rfl rfl ⟨rfl,(ev rfl),(by rfl),rfl,(ev rfl),(by rfl),trivial⟩ (by intro q hq;simp only[List.mem_cons,List.not_mem_nil,or_false] at hq;rcases hq with rfl|rfl<;>exact⟨rfl,by exact Nat.le_of_ble_eq_true rfl⟩) (by show List.foldl _ [_,_] _=_;dsimp only[List.foldl_cons,List.foldl_nil,u2,u1]<;>rfl) (put_T rfl _) ?_;refine EvO.eX (qs:=[(0,_),(1,_)]) rfl rfl rfl rfl ⟨rfl,(ev rfl),(by rfl),rfl,(ev rfl),(by rfl),trivial⟩ (by intro q hq;simp only[List.mem_cons,List.not_mem_nil,or_false] at hq;rcases hq with rfl|rfl<;>exact⟨rfl,by exact Nat.le_of_ble_eq_true rfl⟩) (by show List.foldl _ [_,_] _=_;dsimp only[List.foldl_cons,List.foldl_nil,u2,u1]<;>rfl) (put_T rfl _) ?_;refine qh (s:=2) (vs:=[_,_,_,_]) hH fun k88 st J' hH=>?_;obtain⟨hev,hl,Ee⟩:=lV (l:=[(48,57),(65,90),(95,95),(97,122)]) (hH.rows at0) (by simp);refine qv hev ?_;refine zQ 3 ?_;refine EvC.ret ⟨rx,_,_,_,rfl,ag (rfl),?_⟩;exact⟨_,_,_,rfl,eM _ _ (by simp at hl;omega) (ub (r:=48) (by decide) (by decide) ⟨_,List.mem_cons_self ..,by decide,by decide⟩ Ee),bY.au bZ (hH.drop 1)⟩
        ·refine zQ 5 ?_;refine qv (EX _) ?_;refine zQ 2 ?_;refine EvC.cond (by rfl) (fun q7=>?_) (fun q7=>?_)<;>try simp only[decide_eq_true_eq,decide_eq_false_iff_not,Bool.not_eq_true',Bool.not_eq_false'] at q7
         ·refine zQ 4 ?_;obtain⟨_,st,hev,rfl,hH⟩:=cF (s:={s with i:=s.i+1+1}) s.i 4 (by omega) hH;refine qv hev ?_;refine zQ 6 ?_;obtain⟨h1,h2,h3,h4⟩:=cT (bB:=bB) (s:={s with i:=s.i+1+1}) (i:=s.i) (e:=4) he (by decide);refine EvC.ret ⟨rx,_,_,_,rfl,ag (rfl),?_⟩;exact⟨_,_,_,rfl,⟨h3,h4,by rw[h2];show s.i≤s.i+1+1;omega,by rw[h2];show s.i+1+1≤_;omega,.inl rfl,.inl h1⟩,bY.au bZ hH⟩
         ·refine zQ 4 ?_;refine qv (iB _) ?_;refine zQ 3 ?_;have hm:=jo ((g.1:Nat):Int) (by omega) (by omega);refine EvC.ret ⟨rx,_,_,_,rfl,ag (rfl),?_⟩;exact⟨_,_,_,rfl,eM _ _ hm.1 hm.2,bY.au bZ hH⟩
def ec (fr:Go.V.Fr) (k:Nat):Go.V.D:=Go.V.nth .junk fr.loc k
theorem G5 {s0:St} {p:Pg} {pc:Nat} {i:aC} (hp:p.ok) (hi:p.code[pc]?=some i):Ev pv 106 [p.d,.int .i64 (pc:Nat)] s0 (.bool (bI p.code.length p.af.length pc i)) s0:=by
 refine Ev.mk1 rfl Lp rfl rfl rfl ?_;refine zE ?_;obtain⟨hSb,hF,hH⟩:=ri s0;generalize enterSt .ro s0=S at*;have hc:=hp.c.arg s0.bs.length S;have hs:=hp.s.arg s0.bs.length S;have BE:=hp.i i (List.mem_of_getElem? hi);have uo:=BE.1;have hir:=BE.1.arg s0.bs.length S;have hil:=BE.2;have hcl:=hp.cl;have gi:=hp.sl;have hr:=de hi;have hlt:=lt_get hi;unfold Pg.d;refine qq<|qj fun K hK=>qb hH fun k2 st hk2 hH=>?_;dsimp only[u2,u1,u3,u4,setMany,u5,u6,D.cells,Nat.reduceAdd,Pg.cs,aq,ae] at hH;refine qm ?_;refine qe hK<|qq<|qj fun K hK=>qp (o:=0) ?_;refine ql hH at0 ?_;refine qm ?_;refine qr fun P4 JX=>?_;refine EvO.bF rfl (ev rfl) (by assumption) rfl (by dsimp only[Fr.put,u1,u2]<;>rfl) ?_;refine qa hH fun k5 st zO hH=>?_;refine qS hH at0 fun st hH=>?_;dsimp only[u2,u1,u3,u4,setMany,u5,u6,D.cells,Nat.reduceAdd,Pg.cs,aq,ae] at hH;refine qe hK<|qq<|qj fun K hK=>qp (o:=0) ?_;refine ql hH at1 ?_;refine qn ?_;simp only[List.length_map];refine qm ?_;refine qe hK<|qq<|qj fun K hK=>qp (o:=0) ?_;refine ql hH at0 ?_;refine EvO.go (d:=.agg [.int .i64 i.op,.int .i64 0,.int .i64 0,.nul]) (st1:=_) rfl rfl rfl (by dsimp only[Fr.put,u1,u2]<;>rfl) ?_;refine qa hH fun k7 st IL hH=>?_;refine qS hH at0 fun st hH=>?_;dsimp only[u2,u1,u3,u4,setMany,u5,u6,D.cells,Nat.reduceAdd,Pg.cs,aq,ae] at hH;refine qe hK<|qq<|qj fun K hK=>qm ?_;refine qe hK<|qq<|qq<|qj fun K hK=>qp (o:=0) ?_;refine ql hH at1 ?_;refine qe hK<|EvC.merge (fun fr st=>∃(bx bz:Int) (PA:D) (fl:Bool) (Md:List Rg) (tmp:List (Nat×D)),fr=⟨22,[ec fr 0,.int .i64 (pc:Nat),.ptr k2 0 0,ec fr 3,.bool false,.ptr k5 0 0,.int .i64 (p.code.length:Nat),.ptr k7 0 0,.bool fl,ec fr 9,ec fr 10,ec fr 11,ec fr 12,ec fr 13,ec fr 14,ec fr 15,ec fr 16,ec fr 17,ec fr 18,ec fr 19,ec fr 20,ec fr 21],tmp⟩∧Has s0.bs.length S st [.box k7 (.mem 0 false [.int .i64 i.op,.int .i64 bx,.int .i64 bz,PA]),.box k5 (.mem 0 false [.int .i64 i.op,.int .i64 i.x,.int .i64 i.y,i.rd]),.box k2 (.mem 0 false [p.cd,p.sd])]∧(SlD PA 2 (Md.map ah))∧(bI p.code.length p.af.length pc i=(((i.x==bx) &&(i.y==bz)) &&((i.rs.length:Int)==Md.length) &&(!fl||decide (((pc+1:Nat):Int)<p.code.length))))) ?_ ?_
 ·refine EvC.block<|qq<|qj fun K hK=>qg ?_;refine qm ?_;refine qe hK<|zI (fun h1=>?_) fun h1=>?_
  ·have lJ:bI p.code.length p.af.length pc i=(i.y==0 &&(decide (((pc+1:Nat):Int)<p.code.length) &&i.x==0 &&dt i.rs)):=by unfold bI;rw[if_pos h1]
   refine qq<|qj fun K hK=>qp (o:=3) ?_;refine ql hH at1 ?_;refine qp (o:=3) ?_;refine qT hH at0 fun st hH=>?_;dsimp only[u2,u1,u3,u4,setMany,u5,u6,D.cells,Nat.reduceAdd,Pg.cs,aq,ae] at hH;refine qe hK<|qq<|EvC.cutT 30 (.bool (!dt i.rs)) [] ?_ (fun ff tmp htmp=>?_)
   ·refine qp (o:=3) ?_;refine ql hH at1 ?_;refine qv (vz (hir.rows hH) hil) ?_;refine qg ?_;refine EvO.nil (leafT ?_ ?_)
    ·dsimp only[setW,List.foldl,nth,u2,u1]
     all_goals(first|rfl|simp)
    ·exact zS
     all_goals(first|rfl|(simp[];done)|(simp_all;done)|(simp[];omega)|(simp_all;omega))
   dsimp only[setW,List.foldl,nth,u2,u1];refine EvC.cond (by assumption) (fun h2=>?_) (fun h2=>?_)<;>try simp only[Bool.not_eq_true',Bool.not_eq_false'] at h2
   ·refine qq<|qj fun K hK=>qm ?_;refine qe hK ?_;rw[lJ,h2];simp only[Bool.and_false];refine EvC.ret ⟨rx,_,rfl,rl hSb hH (rfl)⟩
   ·refine EvC.skip ?_;refine⟨0,0,i.rd,true,i.rs,_,rfl,hH,uo,?_⟩;rw[lJ,h2];cases hx:(i.x==0)<;>cases hy:(i.y==0)<;>simp
  ·have lJ:bI p.code.length p.af.length pc i=(i.rs.isEmpty &&(if i.op=2 then iw i.x p.code.length &&iw i.y p.code.length
  else i.y==0 &&
   (if i.op=3 then iw i.x p.code.length
   else if i.op=4 then decide (((pc+1:Nat):Int)<p.code.length) &&iw i.x 10
   else if i.op=5∨i.op=6 then decide (((pc+1:Nat):Int)<p.code.length) &&i.x==0
   else if i.op=7 then iw i.x p.af.length
   else false))):=by unfold bI;rw[if_neg h1]
   have FF:i.rs.isEmpty=((i.rs.length:Int)==(([]:List Rg).length:Int)):=by cases i.rs<;>simp<;>omega
   have C8:SlD .nul 2 (([]:List Rg).map ah):=.inl ⟨rfl,rfl⟩;refine qq<|qj fun K hK=>qg ?_;refine qm ?_;refine qe hK<|zI (fun h2=>?_) fun h2=>?_
   ·rw[if_pos h2] at lJ;refine qq<|qj fun K hK=>qm ?_;refine qe hK ?_;have bY:=hH;change EvC _ _ _ _ _ _;refine qq ?_;generalize hK:SeqQ _ _ _ _=K;refine EvC.lT rfl ?_;refine ba.cons ?_;refine qp (o:=1) ?_;refine EvO.nil ⟨rfl,?_⟩;refine ba.cons ?_;refine ql hH at1 ?_;refine EvO.nil ⟨rfl,?_⟩;refine ba.cons ?_;refine qp (o:=2) ?_;refine EvO.nil ⟨rfl,?_⟩;refine ba.cons ?_;refine ql hH at1 ?_;refine EvO.nil ⟨rfl,?_⟩;refine ba.cons ?_;refine qp (o:=1) ?_;refine EvO.nil ⟨rfl,?_⟩;refine ba.cons ?_;refine qT hH at0 fun st hH=>?_;dsimp only[u2,u1,u3,u4,setMany,u5,u6,D.cells,Nat.reduceAdd,Pg.cs,aq,ae] at hH;refine EvO.nil ⟨by exact Bool.and_eq_true_iff.2 ⟨tl rfl rfl rfl (bY.at at1) (hH.at at1) (bY.at at1) (by simp[refs,D.ref,uo.ref]),rfl⟩,?_⟩;refine ba.cons ?_;refine qp (o:=2) ?_;refine EvO.nil ⟨rfl,?_⟩;refine ba.cons ?_;refine qT hH at0 fun st hH=>?_;dsimp only[u2,u1,u3,u4,setMany,u5,u6,D.cells,Nat.reduceAdd,Pg.cs,aq,ae] at hH;refine EvO.nil ⟨rfl,?_⟩;refine ba.nil ?_;subst hK;refine qq<|EvC.cutT 58 (.bool (((decide (i.x<0)||decide (i.x≥p.code.length))||decide (i.y<0))||decide (i.y≥p.code.length))) [] ?_ (fun ff tmp htmp=>?_)
    ·refine qp (o:=1) ?_;refine ql hH at1 ?_;refine qg ?_;refine qm ?_;refine EvO.two 42 rfl (fun hg3=>?_) (fun hg3=>?_)
     ·refine qs ?_ (hg:=wn hg3);refine qs ?_ (hg:=wn hg3);refine qs ?_ (hg:=wn hg3);refine qs ?_ (hg:=wn hg3);refine qt hg3 ?_;refine qm ?_;refine qs ?_;refine qs ?_;refine qs ?_;refine qg ?_;refine qm ?_;refine qs ?_;refine qs ?_;refine qs ?_;refine qs ?_;refine qg ?_;refine EvO.nil (leafT ?_ ?_)
      ·dsimp only[setW,List.foldl,nth,u2,u1]
       all_goals(first|rfl|simp)
      ·refine zF ?_
       all_goals(simp[hg3];done)
     ·refine qp (o:=1) ?_ (hg:=wi hg3);refine ql hH at1 ?_ (hg:=wi hg3);refine qm ?_ (hg:=wi hg3);refine qg ?_ (hg:=wi hg3);refine qu hg3 ?_;refine qm ?_;refine EvO.two 48 rfl (fun dI=>?_) (fun dI=>?_)
      ·refine qs ?_ (hg:=wn dI);refine qs ?_ (hg:=wn dI);refine qs ?_ (hg:=wn dI);refine qt dI ?_;refine qm ?_;refine qs ?_;refine qs ?_;refine qs ?_;refine qs ?_;refine qg ?_;refine EvO.nil (leafT ?_ ?_)
       ·dsimp only[setW,List.foldl,nth,u2,u1]
        all_goals(first|rfl|simp)
       ·refine zF ?_
        all_goals(simp[hg3,dI];done)
      ·refine qp (o:=2) ?_ (hg:=wi dI);refine ql hH at1 ?_ (hg:=wi dI);refine qg ?_ (hg:=wi dI);refine qu dI ?_;refine qm ?_;refine EvO.two 53 rfl (fun ef=>?_) (fun ef=>?_)
       ·refine qs ?_ (hg:=wn ef);refine qs ?_ (hg:=wn ef);refine qs ?_ (hg:=wn ef);refine qs ?_ (hg:=wn ef);refine qt ef ?_;refine EvO.nil (leafT ?_ ?_)
        ·dsimp only[setW,List.foldl,nth,u2,u1]
         all_goals(first|rfl|simp)
        ·refine zF ?_
         all_goals(simp[hg3,dI,ef];done)
       ·refine qp (o:=2) ?_ (hg:=wi ef);refine ql hH at1 ?_ (hg:=wi ef);refine qm ?_ (hg:=wi ef);refine qg ?_ (hg:=wi ef);refine qu ef ?_;refine EvO.nil (leafT ?_ ?_)
        ·dsimp only[setW,List.foldl,nth,u2,u1]
         all_goals(first|rfl|simp)
        ·refine zF ?_
         all_goals(simp[hg3,dI,ef];done)
    dsimp only[setW,List.foldl,nth,u2,u1]
    have oN:(iw i.x p.code.length &&iw i.y p.code.length)=!(((decide (i.x<0)||decide (i.x≥p.code.length))||decide (i.y<0))||decide (i.y≥p.code.length)):=by
     unfold iw;simp only[Bool.not_or,←decide_not,Int.not_lt,Int.not_le,ge_iff_le,Bool.and_assoc]
    refine qc (fun h3=>?_) (fun h3=>?_)<;>try simp only[cs] at h3
    ·refine qq<|qj fun K hK=>qm ?_;refine qe hK ?_;rw[lJ,oN,h3];simp only[Bool.not_true,Bool.and_false];refine EvC.ret ⟨rx,_,rfl,rl hSb hH (rfl)⟩
    ·refine EvC.skip ?_;exact⟨i.x,i.y,.nul,false,[],_,rfl,hH,C8,by rw[lJ,oN,h3,FF];simp⟩
   ·rw[if_neg h2] at lJ;refine qq<|qj fun K hK=>qg ?_;refine qm ?_;refine qe hK<|zI (fun h3=>?_) fun h3=>?_
    ·rw[if_pos h3] at lJ;refine qq<|qj fun K hK=>qm ?_;refine qe hK<|qq<|qj fun K hK=>qp (o:=1) ?_;refine ql hH at1 ?_;refine qp (o:=1) ?_;refine qT hH at0 fun st hH=>?_;dsimp only[u2,u1,u3,u4,setMany,u5,u6,D.cells,Nat.reduceAdd,Pg.cs,aq,ae] at hH;refine qe hK<|qq<|EvC.cutT 72 (.bool (decide (i.x<0)||decide (i.x≥p.code.length))) [] ?_ (fun ff tmp htmp=>?_)
     ·refine qp (o:=1) ?_;refine ql hH at1 ?_;refine qg ?_;refine qm ?_;refine EvO.two 67 rfl (fun hg3=>?_) (fun hg3=>?_)
      ·refine qs ?_ (hg:=wn hg3);refine qs ?_ (hg:=wn hg3);refine qs ?_ (hg:=wn hg3);refine qs ?_ (hg:=wn hg3);refine qt hg3 ?_;refine EvO.nil (leafT ?_ ?_)
       ·dsimp only[setW,List.foldl,nth,u2,u1]
        all_goals(first|rfl|simp)
       ·refine zF ?_
        all_goals(simp[hg3];done)
      ·refine qp (o:=1) ?_ (hg:=wi hg3);refine ql hH at1 ?_ (hg:=wi hg3);refine qm ?_ (hg:=wi hg3);refine qg ?_ (hg:=wi hg3);refine qu hg3 ?_;refine EvO.nil (leafT ?_ ?_)
       ·dsimp only[setW,List.foldl,nth,u2,u1]
        all_goals(first|rfl|simp)
       ·refine zF ?_
        all_goals(simp[hg3];done)
     dsimp only[setW,List.foldl,nth,u2,u1]
     have oN:iw i.x p.code.length=!(decide (i.x<0)||decide (i.x≥p.code.length)):=by
      unfold iw;simp only[Bool.not_or,←decide_not,Int.not_lt,Int.not_le,ge_iff_le]
     refine qc (fun h4=>?_) (fun h4=>?_)<;>try simp only[cs] at h4
     ·refine qq<|qj fun K hK=>qm ?_;refine qe hK ?_;rw[lJ,oN,h4];simp only[Bool.not_true,Bool.and_false];refine EvC.ret ⟨rx,_,rfl,rl hSb hH (rfl)⟩
     ·refine EvC.skip ?_;exact⟨i.x,0,.nul,false,[],_,rfl,hH,C8,by rw[lJ,oN,h4,FF];cases(i.y==0)<;>simp⟩
    ·rw[if_neg h3] at lJ;refine qq<|qj fun K hK=>qg ?_;refine qm ?_;refine qe hK<|zI (fun h4=>?_) fun h4=>?_
     ·rw[if_pos h4] at lJ;refine qq<|qj fun K hK=>qp (o:=1) ?_;refine ql hH at1 ?_;refine qp (o:=1) ?_;refine qT hH at0 fun st hH=>?_;dsimp only[u2,u1,u3,u4,setMany,u5,u6,D.cells,Nat.reduceAdd,Pg.cs,aq,ae] at hH;refine qe hK<|qq<|EvC.cutT 85 (.bool (decide (i.x<0)||decide (i.x≥10))) [] ?_ (fun ff tmp htmp=>?_)
      ·refine qp (o:=1) ?_;refine ql hH at1 ?_;refine qg ?_;refine qm ?_;refine EvO.two 81 rfl (fun hg3=>?_) (fun hg3=>?_)
       ·refine qs ?_ (hg:=wn hg3);refine qs ?_ (hg:=wn hg3);refine qs ?_ (hg:=wn hg3);refine qt hg3 ?_;refine EvO.nil (leafT ?_ ?_)
        ·dsimp only[setW,List.foldl,nth,u2,u1]
         all_goals(first|rfl|simp)
        ·refine zF ?_
         all_goals(simp[hg3];done)
       ·refine qp (o:=1) ?_ (hg:=wi hg3);refine ql hH at1 ?_ (hg:=wi hg3);refine qg ?_ (hg:=wi hg3);refine qu hg3 ?_;refine EvO.nil (leafT ?_ ?_)
        ·dsimp only[setW,List.foldl,nth,u2,u1]
         all_goals(first|rfl|simp)
        ·refine zF ?_
         all_goals(simp[hg3];done)
      dsimp only[setW,List.foldl,nth,u2,u1]
      have oN:iw i.x 10=!(decide (i.x<0)||decide (i.x≥10)):=by
       unfold iw;simp only[Bool.not_or,←decide_not,Int.not_lt,Int.not_le,ge_iff_le]
      refine qc (fun h5=>?_) (fun h5=>?_)<;>try simp only[cs] at h5
      ·refine qq<|qj fun K hK=>qm ?_;refine qe hK ?_;rw[lJ,oN,h5];simp only[Bool.not_true,Bool.and_false];refine EvC.ret ⟨rx,_,rfl,rl hSb hH (rfl)⟩
      ·refine EvC.skip ?_;exact⟨i.x,0,.nul,true,[],_,rfl,hH,C8,by rw[lJ,oN,h5,FF];cases(i.y==0)<;>simp⟩
     ·rw[if_neg h4] at lJ;refine qq<|qq<|qj fun K hK=>qg ?_;refine qm ?_;refine qe hK ?_
      by_cases h5:i.op=5
      ·rw[if_pos (.inl h5)] at lJ;refine qD rfl (by simp[h5]) ?_;refine EvC.skip<|qD rfl (by simp[h5]) ?_;refine EvC.skip ?_;exact⟨0,0,.nul,true,[],_,rfl,hH,C8,by rw[lJ,FF];cases(i.y==0)<;>cases(i.x==0)<;>simp⟩
      ·refine qE rfl (by simp[h5]) ?_;refine qj fun K hK=>qg ?_;refine qm ?_;refine qe hK<|zI (fun h6=>?_) fun h6=>?_
       ·rw[if_pos (.inr h6)] at lJ;refine EvC.skip ?_;exact⟨0,0,.nul,true,[],_,rfl,hH,C8,by rw[lJ,FF];cases(i.y==0)<;>cases(i.x==0)<;>simp⟩
       ·rw[if_neg (by omega)] at lJ;refine qq<|qj fun K hK=>qg ?_;refine qm ?_;refine qe hK<|zI (fun h7=>?_) fun h7=>?_
        ·rw[if_pos h7] at lJ;refine qq<|qj fun K hK=>qm ?_;refine qe hK<|qq<|qj fun K hK=>qp (o:=1) ?_;refine ql hH at1 ?_;refine qp (o:=1) ?_;refine qT hH at0 fun st hH=>?_;dsimp only[u2,u1,u3,u4,setMany,u5,u6,D.cells,Nat.reduceAdd,Pg.cs,aq,ae] at hH;refine qe hK<|qq<|EvC.cutT 104 (.bool (decide (i.x<0)||decide (i.x≥p.af.length))) [] ?_ (fun ff tmp htmp=>?_)
         ·refine qp (o:=1) ?_;refine ql hH at1 ?_;refine qg ?_;refine qm ?_;refine EvO.two 97 rfl (fun hg3=>?_) (fun hg3=>?_)
          ·refine qs ?_ (hg:=wn hg3);refine qs ?_ (hg:=wn hg3);refine qs ?_ (hg:=wn hg3);refine qs ?_ (hg:=wn hg3);refine qs ?_ (hg:=wn hg3);refine qs ?_ (hg:=wn hg3);refine qt hg3 ?_;refine EvO.nil (leafT ?_ ?_)
           ·dsimp only[setW,List.foldl,nth,u2,u1]
            all_goals(first|rfl|simp)
           ·refine zF ?_
            all_goals(simp[hg3];done)
          ·refine qp (o:=1) ?_ (hg:=wi hg3);refine ql hH at1 ?_ (hg:=wi hg3);refine qp (o:=1) ?_ (hg:=wi hg3);refine ql hH at2 ?_ (hg:=wi hg3);refine qn ?_ (hg:=wi hg3);simp only[List.length_map];refine qg ?_ (hg:=wi hg3);refine qu hg3 ?_;refine EvO.nil (leafT ?_ ?_)
           ·dsimp only[setW,List.foldl,nth,u2,u1]
            all_goals(first|rfl|simp)
           ·refine zF ?_
            all_goals(simp[hg3];done)
         dsimp only[setW,List.foldl,nth,u2,u1]
         have oN:iw i.x p.af.length=!(decide (i.x<0)||decide (i.x≥p.af.length)):=by
          unfold iw;simp only[Bool.not_or,←decide_not,Int.not_lt,Int.not_le,ge_iff_le]
         refine qc (fun h8=>?_) (fun h8=>?_)<;>try simp only[cs] at h8
         ·refine qq<|qj fun K hK=>qm ?_;refine qe hK ?_;rw[lJ,oN,h8];simp only[Bool.not_true,Bool.and_false];refine EvC.ret ⟨rx,_,rfl,rl hSb hH (rfl)⟩
         ·refine EvC.skip ?_;exact⟨i.x,0,.nul,false,[],_,rfl,hH,C8,by rw[lJ,oN,h8,FF];cases(i.y==0)<;>simp⟩
        ·rw[if_neg h7] at lJ;refine qq<|qj fun K hK=>qm ?_;refine qe hK ?_;rw[lJ];simp only[Bool.and_false];refine EvC.ret ⟨rx,_,rfl,rl hSb hH (rfl)⟩
 ·rintro fr st ⟨bx,bz,PA,fl,Md,tmp,hfr,hH,QJ,hsh⟩;rw[hfr];clear hfr;generalize ec fr=ee;clear fr;have TP:=QJ.arg s0.bs.length S;refine qq<|EvC.j9 4 (.bool ((((i.x==bx) &&(i.y==bz)) &&((i.rs.length:Int)==Md.length)) &&(!fl||decide (((pc+1:Nat):Int)<p.code.length)))) [] ?_ (fun ff tmp=>?_)
  ·refine qp (o:=1) ?_;refine ql hH at1 ?_;refine qp (o:=1) ?_;refine ql hH at0 ?_;refine qg ?_;refine qm ?_;refine EvO.two 110 rfl (fun cI=>?_) (fun cI=>?_)
   ·refine qp (o:=2) ?_ (hg:=wi cI);refine ql hH at1 ?_ (hg:=wi cI);refine qp (o:=2) ?_ (hg:=wi cI);refine ql hH at0 ?_ (hg:=wi cI);refine qg ?_ (hg:=wi cI);refine qt cI ?_;refine qm ?_;refine EvO.two 117 rfl (fun cJ=>?_) (fun cJ=>?_)
    ·refine qp (o:=3) ?_ (hg:=wi cJ);refine ql hH at1 ?_ (hg:=wi cJ);refine qn ?_ (hg:=wi cJ);simp only[List.length_map];refine qp (o:=3) ?_ (hg:=wi cJ);refine ql hH at0 ?_ (hg:=wi cJ);refine qn ?_ (hg:=wi cJ);simp only[List.length_map];refine qg ?_ (hg:=wi cJ);refine qt cJ ?_;refine qm ?_;refine EvO.two 126 rfl (fun ga=>?_) (fun ga=>?_)
     ·refine qm ?_ (hg:=wi ga);refine qg ?_ (hg:=wi ga);refine qm ?_ (hg:=wi ga);refine EvO.two 129 rfl (fun eL=>?_) (fun eL=>?_)
      ·refine qs ?_ (hg:=wn eL);refine qs ?_ (hg:=wn eL);refine qs ?_ (hg:=wn eL);refine qs ?_ (hg:=wn eL);refine EvO.pickT (wantD_is rfl rfl rfl ga) rfl eL (put_T rfl _) ?_;refine qt ga ?_;refine qm ?_;refine EvO.nil (aK ?_);refine zG ?_
       all_goals(simp[cI,cJ,ga,eL];done)
      ·refine qm ?_ (hg:=wi eL);refine qA ?_ (hg:=wi eL);refine qm ?_ (hg:=wi eL);refine qg ?_ (hg:=wi eL);refine EvO.pickF (wantD_is rfl rfl rfl ga) rfl eL (put_T rfl _) ?_;refine qt ga ?_;refine qm ?_;refine EvO.nil (aK ?_);refine zG ?_
       all_goals(simp[cI,cJ,ga,eL];done)
     ·refine qs ?_ (hg:=wn ga);refine qs ?_ (hg:=wn ga);refine qs ?_ (hg:=wn ga);refine qs ?_;refine qs ?_;refine qs ?_;refine qs ?_;refine qs ?_ (hg:=wn ga);refine qu ga ?_;refine qm ?_;refine EvO.nil (aK ?_);refine zG ?_
      all_goals(simp[cI,cJ,ga];done)
    ·refine qs ?_ (hg:=wn cJ);refine qs ?_ (hg:=wn cJ);refine qs ?_ (hg:=wn cJ);refine qs ?_ (hg:=wn cJ);refine qs ?_ (hg:=wn cJ);refine qs ?_ (hg:=wn cJ);refine qs ?_ (hg:=wn cJ);refine qu cJ ?_;refine qm ?_;refine qs ?_;refine qs ?_;refine qs ?_;refine qs ?_;refine qs ?_;refine qs ?_;refine qs ?_;refine qs ?_;refine qg ?_;refine qm ?_;refine EvO.nil (aK ?_);refine zG ?_
     all_goals(simp[cI,cJ];done)
   ·refine qs ?_ (hg:=wn cI);refine qs ?_ (hg:=wn cI);refine qs ?_ (hg:=wn cI);refine qs ?_ (hg:=wn cI);refine qs ?_ (hg:=wn cI);refine qu cI ?_;refine qm ?_;refine qs ?_;refine qs ?_;refine qs ?_;refine qs ?_;refine qs ?_;refine qs ?_;refine qs ?_;refine qg ?_;refine qm ?_;refine qs ?_;refine qs ?_;refine qs ?_;refine qs ?_;refine qs ?_;refine qs ?_;refine qs ?_;refine qs ?_;refine qg ?_;refine qm ?_;refine EvO.nil (aK ?_);refine zG ?_
    all_goals(simp[cI];done)
  dsimp only[setW,List.foldl,nth,u2,u1];rw[hsh];refine EvC.ret ⟨rx,_,rfl,rl hSb hH (rfl)⟩
def aE (fr:Go.V.Fr) (k:Nat):Go.V.D:=Go.V.nth .junk fr.loc k
def aI (b:Bool):List D:=[.bool b]
theorem fU {l:List Bool} {i:Nat} {q:Bool} (h:l[i]?=some q):(l.map aI)[i]?=some (aI q):=by rw[List.getElem?_map,h];rfl
theorem jx (l:List Bool):∀e∈l.map aI,∀d∈e,bC d=true:=by
 intro e he d hd;obtain⟨x,_,rfl⟩:=List.mem_map.1 he;simp only[aI,List.mem_cons,List.not_mem_nil,or_false] at hd;subst hd;rfl
theorem DT (l:List Bool):∀e∈l.map aI,e.length=1:=by
 intro e he;obtain⟨x,_,rfl⟩:=List.mem_map.1 he;rfl
def lH (l:List Bool):D:=.sl ((l.map aI).map (iR 1))
theorem kM (l:List Bool):SlD (lH l) 1 (l.map aI):=SlD.frozen (DT l) (jx l)
theorem gy (l:List Int):∀e∈l.map ae,∀d∈e,bC d=true:=by
 intro e he d hd;obtain⟨x,_,rfl⟩:=List.mem_map.1 he;simp only[ae,List.mem_cons,List.not_mem_nil,or_false] at hd;subst hd;rfl
theorem E3 (l:List Int):∀e∈l.map ae,e.length=1:=by
 intro e he;obtain⟨x,_,rfl⟩:=List.mem_map.1 he;rfl
def zB (l:List Int):D:=.sl ((l.map ae).map (iR 1))
theorem pQ (l:List Int):SlD (zB l) 1 (l.map ae):=SlD.frozen (E3 l) (gy l)
def bj (pc:Nat) (i:aC):List Int:=
 if i.op=2 then[i.x,i.y] else if i.op=3 then[i.x] else if i.op=7 then[] else[((pc+1:Nat):Int)]
def gr (code:List aC):Prop:=∀pc i,code[pc]?=some i→∀v∈bj pc i,0≤v∧v<code.length
theorem vd {n ns pc:Nat} {i:aC} (h:bI n ns pc i=true):∀v∈bj pc i,0≤v∧v<n:=by
 intro v hv
 have cS:∀a b:Int,iw a b=true→0≤a∧a<b:=fun a b h=>by
  unfold iw at h;simp only[Bool.and_eq_true,decide_eq_true_eq] at h;exact⟨h.1,h.2⟩
 unfold bI at h;unfold bj at hv
 split at h
 ·rename_i h1;rw[if_neg (by omega),if_neg (by omega),if_neg (by omega)] at hv;simp only[Bool.and_eq_true,decide_eq_true_eq] at h;simp only[List.mem_cons,List.not_mem_nil,or_false] at hv;subst hv;omega
 ·simp only[Bool.and_eq_true] at h;obtain⟨_,h⟩:=h
  split at h
  ·rename_i h2;rw[if_pos h2] at hv;simp only[Bool.and_eq_true] at h;simp only[List.mem_cons,List.not_mem_nil,or_false] at hv
   rcases hv with rfl|rfl
   ·exact cS _ _ h.1
   ·exact cS _ _ h.2
  ·rename_i h2;rw[if_neg h2] at hv;simp only[Bool.and_eq_true] at h;obtain⟨_,h⟩:=h
   split at h
   ·rename_i h3;rw[if_pos h3] at hv;simp only[List.mem_cons,List.not_mem_nil,or_false] at hv;subst hv;exact cS _ _ h
   ·rename_i h3;rw[if_neg h3] at hv
    split at h
    ·rename_i h4;rw[if_neg (by omega)] at hv;simp only[Bool.and_eq_true,decide_eq_true_eq] at h;simp only[List.mem_cons,List.not_mem_nil,or_false] at hv;subst hv;omega
    ·split at h
     ·rename_i h5;rw[if_neg (by omega)] at hv;simp only[Bool.and_eq_true,decide_eq_true_eq] at h;simp only[List.mem_cons,List.not_mem_nil,or_false] at hv;subst hv;omega
     ·split at h
      ·rename_i h7;rw[if_pos h7] at hv;cases hv
      ·cases h
def uV (code:List aC):Nat→List Bool→List Int→List Bool
 |0,seen,_=>seen
 |_+1,seen,[]=>seen
 |f+1,seen,v::dS=>match seen[v.toNat]? with
  |some false=>match code[v.toNat]? with
   |some i=>uV code f (seen.set v.toNat true) ((bj v.toNat i).reverse++dS)
   |none=>seen
  |_=>uV code f seen dS
def aR (code:List aC) (start:Int):List Bool:=uV code (3*code.length+1) (List.replicate code.length false) [start]
theorem uI (code:List aC):∀(f:Nat) (seen:List Bool) (dS:List Int),(uV code f seen dS).length=seen.length
 |0,_,_=>rfl
 |_+1,_,[]=>rfl
 |f+1,seen,v::dS=>by
  unfold uV
  split
  ·split
   ·rw[uI code f];simp
   ·rfl
  ·exact uI code f seen dS
theorem jc (code:List aC) (s:Int):(aR code s).length=code.length:=by
 unfold aR;rw[uI];simp
theorem count_set {seen:List Bool} {k:Nat} (h:seen[k]?=some false):(seen.set k true).count false+1=seen.count false:=by
 induction seen generalizing k with
 |nil=>simp at h
 |cons b l ih=>
  cases k with
  |zero=>simp at h;subst h;simp
  |succ k=>
   have:=ih (k:=k) (by simpa using h);simp only[List.set_cons_succ,List.count_cons];omega
theorem py (pc:Nat) (i:aC):(bj pc i).length≤2:=by
 unfold bj;split
 ·simp
 ·split
  ·simp
  ·split<;>simp
theorem u7 (v:Int) (r:List Int):((v::r).reverse.map ae)[r.length]?=some (ae v):=by
 rw[List.getElem?_map,List.reverse_cons,List.getElem?_append_right (by simp)];simp
theorem y5 (v:Int) (r:List Int):(((v::r).reverse.map ae).take r.length).drop 0=r.reverse.map ae:=by
 rw[List.reverse_cons,List.map_append,List.drop_zero,List.take_left' (by simp)]
theorem z6 {s0:St} {cd:D} {code:List aC} {start:Int} (sV:SlD cd 4 (code.map aq)) (hlen:code.length≤1048576) (hcl:gr code) (e_:0≤start∧start<code.length):Ev pv 101 [cd,.int .i64 start] s0 (lH (aR code start)) s0:=by
 refine Ev.mk1 rfl Lu rfl rfl rfl ?_;refine zE ?_;obtain⟨hSb,hF,hH⟩:=ri s0;generalize enterSt .ro s0=S at*;have hc:=sV.arg s0.bs.length S;refine zQ 7 ?_;refine qn ?_;simp only[List.length_map];refine EvO.pW (s:=1) hH rfl rfl rfl rfl rfl rfl rfl rfl (Nat.le_of_ble_eq_true rfl) (by omega) (fun _=>by dsimp only[Fr.put,u1,u2]<;>rfl) (fun k11 st hk11 hH=>?_);refine zQ 5 ?_;refine qh (s:=1) (vs:=[_]) hH fun k13 st Ke hH=>?_;refine zQ 4 ?_;refine EvC.loop (fun mm fr st=>∃(y z:D) (seen:List Bool) (dS:List Int),fr.clean=⟨41,[cd,aE fr 1,aE fr 2,aE fr 3,.nul,y,z,aE fr 7,aE fr 8,aE fr 9,aE fr 10,aE fr 11,aE fr 12,aE fr 13,aE fr 14,aE fr 15,aE fr 16,aE fr 17,aE fr 18,aE fr 19,aE fr 20,aE fr 21,aE fr 22,aE fr 23,aE fr 24,aE fr 25,aE fr 26,aE fr 27,aE fr 28,aE fr 29,aE fr 30,aE fr 31,aE fr 32,aE fr 33,aE fr 34,aE fr 35,aE fr 36,aE fr 37,aE fr 38,aE fr 39,aE fr 40],[]⟩∧Has s0.bs.length S st [.lst z 1 (dS.reverse.map ae),.lst y 1 (seen.map aI)]∧(uV code mm seen dS=aR code start)∧(3*seen.count false+dS.length≤mm)∧(seen.length=code.length)∧(∀v∈dS,0≤v∧v<(code.length:Int))∧(mm≤3*code.length+1)) (3*code.length+1) ?_ ?_
 ·exact⟨_,_,List.replicate code.length false,[start],rfl,(by rw[List.map_replicate];exact hH),rfl,by simp,by simp,by simpa using e_,by omega⟩
 rintro mm fr st ⟨y,z,seen,dS,hfr,hH,hd,hm,gi,hsk,xk⟩;rw[hfr];clear hfr;generalize aE fr=ee;clear fr
 rcases dS with _|⟨v,dS⟩
 ·refine zQ 4 ?_;refine qn ?_ (hR:=hH.rows at0);simp only[List.length_map,List.length_nil,List.length_reverse];refine zQ 2 ?_;refine EvC.cond (v:=false) (by dsimp only[Fr.ev,Fr.get,nth,V.look];rfl) (fun h=>by cases h) (fun _=>?_);refine zQ 6 ?_;have eM:seen=aR code start:=by rw[←hd];cases mm<;>rfl
  rw[←eM];refine EvC.ret ⟨rx,_,rfl,rl hSb hH ?_⟩;exact hH.freeze at1 (jx _) (n:=15) (by decide)
 ·have hv:=hsk v (List.mem_cons_self ..);obtain⟨k,rfl⟩:=Int.eq_ofNat_of_zero_le hv.1;have hk:k<code.length:=by omega
  simp only[List.length_cons] at hm
  obtain⟨mm,rfl⟩:∃m',mm=m'+1:=⟨mm-1,by omega⟩
  obtain⟨b,hb⟩:∃b,seen[k]?=some b:=⟨seen[k]'(by omega),List.getElem?_eq_getElem _⟩
  obtain⟨i,hi⟩:∃i,code[k]?=some i:=⟨code[k]'(by omega),List.getElem?_eq_getElem _⟩
  have hr1:=u7 (k:Int) dS;have kW:=fU hb;have LX:=de hi;refine zQ 4 ?_;refine qn ?_ (hR:=hH.rows at0);simp only[List.length_map,List.length_cons,List.length_reverse];refine zQ 2 ?_;refine qD rfl (by simp) ?_;refine zQ 6 ?_;refine qn ?_ (hR:=hH.rows at0);simp only[List.length_map,List.length_cons,List.length_reverse];refine EvO.gR (z:=((dS.length:Nat):Int)) rfl (ev rfl) (ev rfl) (by(try simp only[List.length_reverse,List.length_cons,List.length_nil,List.length_append,List.length_map,List.length_set]);rw[wrap_i64 (by omega) (by omega)]<;>omega) (by dsimp only[Fr.put,u1,u2]<;>rfl) ?_;refine qi hH at0 fun Jd C6=>?_;refine zQ 7 ?_;refine qn ?_ (hR:=hH.rows at0);simp only[List.length_map,List.length_cons,List.length_reverse];refine EvO.gR (z:=((dS.length:Nat):Int)) rfl (ev rfl) (ev rfl) (by(try simp only[List.length_reverse,List.length_cons,List.length_nil,List.length_append,List.length_map,List.length_set]);rw[wrap_i64 (by omega) (by omega)]<;>omega) (by dsimp only[Fr.put,u1,u2]<;>rfl) ?_;refine EvO.xP hH rfl (ev rfl) (by exact at0) rfl rfl (nF (by simp only[List.length_map,List.length_reverse,List.length_cons,List.length_append,List.length_nil,List.length_take,List.length_drop,List.length_set,List.length_replicate];omega)) ⟨(by omega),(by simp only[List.length_map,List.length_reverse,List.length_cons,List.length_append,List.length_nil,List.length_take,List.length_drop,List.length_set,List.length_replicate];omega)⟩ (fun _=>by dsimp only[Fr.put,u1,u2]<;>rfl) (fun UD hH=>?_);refine zQ 2 ?_;dsimp only[u2] at hH;rw[y5] at hH;have e_:∀w∈dS,0≤w∧w<(code.length:Int):=fun w hw=>hsk w (List.mem_cons_of_mem _ hw);refine zQ 5 ?_;refine qi hH at1 fun PW JQ=>?_;refine zQ 2 ?_
  cases b with
  |true=>
   refine zQ 2 ?_;simp only[uV,Int.toNat_natCast,hb] at hd;exact⟨mm,by omega,⟨_,_,seen,dS,rfl,hH,hd,by omega,gi,e_,by omega⟩⟩
  |false=>
   have uz:=count_set hb;have ew:(seen.set k true).map aI=(seen.map aI).set k [.bool true]:=by rw[List.map_set];rfl
   simp only[uV,Int.toNat_natCast,hb,hi] at hd;have ND:=hcl k i hi;have C8:=py k i
   have Hf:∀w∈(bj k i).reverse++dS,0≤w∧w<(code.length:Int):=fun w hw=>by
    rcases List.mem_append.1 hw with hw|hw
    ·exact ND w (List.mem_reverse.1 hw)
    ·exact e_ w hw
   have Hn:(((bj k i).reverse++dS).reverse).map ae=dS.reverse.map ae++(bj k i).map ae:=by
    rw[List.reverse_append,List.reverse_reverse,List.map_append]
   refine zQ 6 ?_;refine qi hH at1 fun RH Nv=>?_;refine EvO.eW hH rfl (ev rfl) (ev rfl) (by assumption) rfl rfl (by exact at1) (by assumption) (Nat.le_of_ble_eq_true rfl) (by exact .inl hF) (fun st hH=>?_);dsimp only[u2,u1,u3,u4,setMany,u5,u6,D.cells,Nat.reduceAdd,aq,ae,aI] at hH;refine zQ 5 ?_;refine qr fun LK Fq=>?_;refine EvO.bF rfl (ev rfl) (by assumption) rfl (by dsimp only[Fr.put,u1,u2]<;>rfl) ?_;refine qa hH fun k8 st hk8 hH=>?_;refine qS hH at0 fun st hH=>?_;dsimp only[u2,u1,u3,u4,setMany,u5,u6,D.cells,Nat.reduceAdd,aq,ae,aI] at hH;refine zQ 6 ?_;refine EvC.merge (fun fr st=>∃(z:D) (tmp:List (Nat×D)),fr=⟨41,[cd,aE fr 1,aE fr 2,aE fr 3,.nul,y,z,aE fr 7,aE fr 8,aE fr 9,aE fr 10,aE fr 11,aE fr 12,aE fr 13,aE fr 14,aE fr 15,aE fr 16,aE fr 17,aE fr 18,aE fr 19,aE fr 20,aE fr 21,aE fr 22,aE fr 23,aE fr 24,aE fr 25,aE fr 26,aE fr 27,aE fr 28,aE fr 29,aE fr 30,aE fr 31,aE fr 32,aE fr 33,aE fr 34,aE fr 35,aE fr 36,aE fr 37,aE fr 38,aE fr 39,aE fr 40],tmp⟩∧Has s0.bs.length S st [.lst z 1 (dS.reverse.map ae++(bj k i).map ae),.lst y 1 ((seen.map aI).set k [.bool true])]) ?_ ?_
   ·refine zQ 6 ?_;refine zI (fun h2=>?_) fun h2=>?_
    ·have:bj k i=[i.x,i.y]:=by unfold bj;rw[if_pos h2]
     rw[this];refine zQ 6 ?_;refine qh (s:=1) (vs:=[_,_]) hH fun k53 st Te hH=>?_;refine EvO.happend (s:=1) hH rfl (ev rfl) (ev rfl) (by exact at2) (by exact hH.rows (by exact at0)) rfl rfl rfl rfl rfl rfl rfl ⟨(Nat.le_of_ble_eq_true rfl),(Nat.le_of_ble_eq_true rfl)⟩ (fun _=>(put_T rfl _)) (by simp only[List.length_cons,List.length_nil,List.length_map,List.length_reverse]<;>omega) (by exact .inl hF) (fun UG st hH=>?_);dsimp only[u2,u1,u3,u4,setMany,u5,u6,D.cells,Nat.reduceAdd,aq,ae,aI] at hH;refine zQ 2 ?_;exact⟨_,_,rfl,(by have:=hH.drop 2;exact this)⟩
    ·refine zQ 5 ?_;refine zI (fun h3=>?_) fun h3=>?_
     ·have:bj k i=[i.x]:=by unfold bj;rw[if_neg h2,if_pos h3]
      rw[this];refine zQ 4 ?_;refine qh (s:=1) (vs:=[_]) hH fun k60 st Tc hH=>?_;refine EvO.happend (s:=1) hH rfl (ev rfl) (ev rfl) (by exact at2) (by exact hH.rows (by exact at0)) rfl rfl rfl rfl rfl rfl rfl ⟨(Nat.le_of_ble_eq_true rfl),(Nat.le_of_ble_eq_true rfl)⟩ (fun _=>(put_T rfl _)) (by simp only[List.length_cons,List.length_nil,List.length_map,List.length_reverse]<;>omega) (by exact .inl hF) (fun UF st hH=>?_);dsimp only[u2,u1,u3,u4,setMany,u5,u6,D.cells,Nat.reduceAdd,aq,ae,aI] at hH;refine zQ 2 ?_;exact⟨_,_,rfl,(by have:=hH.drop 2;exact this)⟩
     ·refine zQ 5 ?_;refine zI (fun h7=>?_) fun h7=>?_
      ·have:bj k i=[]:=by unfold bj;rw[if_neg h2,if_neg h3,if_pos h7]
       rw[this,List.map_nil,List.append_nil];refine zQ 1 ?_;exact⟨_,_,rfl,(by have:=hH.drop 1;exact this)⟩
      ·have:bj k i=[((k+1:Nat):Int)]:=by unfold bj;rw[if_neg h2,if_neg h3,if_neg h7]
       rw[this];refine zQ 4 ?_;refine qh (s:=1) (vs:=[_]) hH fun k44 st Th hH=>?_;refine EvO.happend (s:=1) hH rfl (ev rfl) (ev rfl) (by exact at2) (by exact hH.rows (by exact at0)) rfl rfl rfl rfl rfl rfl rfl ⟨(Nat.le_of_ble_eq_true rfl),(Nat.le_of_ble_eq_true rfl)⟩ (fun _=>(put_T rfl _)) (by simp only[List.length_cons,List.length_nil,List.length_map,List.length_reverse]<;>omega) (by exact .inl hF) (fun UI st hH=>?_);dsimp only[u2,u1,u3,u4,setMany,u5,u6,D.cells,Nat.reduceAdd,aq,ae,aI] at hH;refine zQ 2 ?_;exact⟨_,_,rfl,(by have:=hH.drop 2;exact this)⟩
   ·rintro fr st ⟨z,tmp,hfr,hH⟩;rw[hfr];clear hfr;generalize aE fr=ee;clear fr;exact⟨mm,by omega,⟨y,z,seen.set k true,(bj k i).reverse++dS,rfl,(by rw[Hn,ew];exact hH),hd,by simp only[List.length_append,List.length_reverse];omega,by simp only[List.length_set];exact gi,Hf,by omega⟩⟩
end Go.Proofs.YtnleclohocdkaaaGreat
