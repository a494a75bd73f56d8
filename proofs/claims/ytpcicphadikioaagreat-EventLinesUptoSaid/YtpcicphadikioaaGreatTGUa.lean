/-
 Chapter 19 without a Cont: which spans a text has (plain).
-/
import Derived.Test.YtpcicphadikioaaGreatTGHr
import Derived.Test.YtpcicphadikioaaGreatTPx
import Derived.Test.YtpcicphadikioaaGreatTM2
import Derived.KernelRfl
import Derived.Test.YtpcicphadikioaaGreatTDgp
set_option maxRecDepth 100000
set_option maxHeartbeats 4000000
set_option linter.unusedSimpArgs false
set_option linter.unusedVariables false
set_option linter.unusedSectionVars false
namespace Go.Proofs.YtpcicphadikioaaGreat
open Go.V Go
def b6 (c:Nat):Int×Nat×Nat:=
 if c<128 then(0,0,0) else if c<194 then(-1,0,0) else if c<224 then(1,128,191) else if c=224 then(2,160,191) else if c=237 then(2,128,159)
 else if c<240 then(2,128,191) else if c=240 then(3,144,191) else if c<244 then(3,128,191) else if c=244 then(3,128,143) else(-1,0,0)
theorem FL (c:Nat) (st:St):Ev pv 57 [.int .u8 c] st (.tup [.int .i64 (b6 c).1,.int .u8 (b6 c).2.1,.int .u8 (b6 c).2.2]) st:=by
 refine Ev.jL rfl OM rfl rfl rfl ?_;refine zE ?_;refine zR ?_;refine ag.seq (ag.block ?_);refine zR ?_;(repeat refine qq ?_);refine qc (fun h1=>?_) (fun h1=>?_)<;>try simp only[cs] at h1
 ·refine zR ?_;refine ag.ret ⟨rx,_,rfl,bk (by simp) (by simp[ai]) ?_⟩;rw[show b6 c=(0,0,0) by unfold b6;rw[if_pos (by omega)]];rfl
 refine zR ?_;(repeat refine qq ?_);refine qc (fun h2=>?_) (fun h2=>?_)<;>try simp only[cs] at h2
 ·refine zR ?_;refine ag.ret ⟨rx,_,rfl,bk (by simp) (by simp[ai]) ?_⟩;rw[show b6 c=(-1,0,0) by unfold b6;rw[if_neg (by omega),if_pos (by omega)]];rfl
 refine zR ?_;(repeat refine qq ?_);refine qc (fun h3=>?_) (fun h3=>?_)<;>try simp only[cs] at h3
 ·refine zR ?_;refine ag.ret ⟨rx,_,rfl,bk (by simp) (by simp[ai]) ?_⟩;rw[show b6 c=(1,128,191) by unfold b6;rw[if_neg (by omega),if_neg (by omega),if_pos (by omega)]];rfl
 refine zR ?_;(repeat refine qq ?_);refine qc (fun h4=>?_) (fun h4=>?_)<;>try simp only[cs] at h4
 ·refine zR ?_;refine ag.ret ⟨rx,_,rfl,bk (by simp) (by simp[ai]) ?_⟩;rw[show b6 c=(2,160,191) by unfold b6;rw[if_neg (by omega),if_neg (by omega),if_neg (by omega),if_pos (by omega)]];rfl
 refine zR ?_;(repeat refine qq ?_);refine qc (fun h5=>?_) (fun h5=>?_)<;>try simp only[cs] at h5
 ·refine zR ?_;refine ag.ret ⟨rx,_,rfl,bk (by simp) (by simp[ai]) ?_⟩;rw[show b6 c=(2,128,159) by unfold b6;rw[if_neg (by omega),if_neg (by omega),if_neg (by omega),if_neg (by omega),if_pos (by omega)]];rfl
 refine zR ?_;(repeat refine qq ?_);refine qc (fun h6=>?_) (fun h6=>?_)<;>try simp only[cs] at h6
 ·refine zR ?_;refine ag.ret ⟨rx,_,rfl,bk (by simp) (by simp[ai]) ?_⟩;rw[show b6 c=(2,128,191) by unfold b6;rw[if_neg (by omega),if_neg (by omega),if_neg (by omega),if_neg (by omega),if_neg (by omega),if_pos (by omega)]];rfl
 refine zR ?_;(repeat refine qq ?_);refine qc (fun h7=>?_) (fun h7=>?_)<;>try simp only[cs] at h7
 ·refine zR ?_;refine ag.ret ⟨rx,_,rfl,bk (by simp) (by simp[ai]) ?_⟩;rw[show b6 c=(3,144,191) by unfold b6;rw[if_neg (by omega),if_neg (by omega),if_neg (by omega),if_neg (by omega),if_neg (by omega),if_neg (by omega),if_pos (by omega)]];rfl
 refine zR ?_;(repeat refine qq ?_);refine qc (fun h8=>?_) (fun h8=>?_)<;>try simp only[cs] at h8
 ·refine zR ?_;refine ag.ret ⟨rx,_,rfl,bk (by simp) (by simp[ai]) ?_⟩;rw[show b6 c=(3,128,191) by unfold b6;rw[if_neg (by omega),if_neg (by omega),if_neg (by omega),if_neg (by omega),if_neg (by omega),if_neg (by omega),if_neg (by omega),if_pos (by omega)]];rfl
 refine zR ?_;(repeat refine qq ?_);refine qc (fun h9=>?_) (fun h9=>?_)<;>try simp only[cs] at h9
 ·refine zR ?_;refine ag.ret ⟨rx,_,rfl,bk (by simp) (by simp[ai]) ?_⟩;rw[show b6 c=(3,128,143) by unfold b6;rw[if_neg (by omega),if_neg (by omega),if_neg (by omega),if_neg (by omega),if_neg (by omega),if_neg (by omega),if_neg (by omega),if_neg (by omega),if_pos (by omega)]];rfl
 refine ag.skip<|zR ?_;refine ag.ret ⟨rx,_,rfl,bk (by simp) (by simp[ai]) ?_⟩;rw[show b6 c=(-1,0,0) by unfold b6;rw[if_neg (by omega),if_neg (by omega),if_neg (by omega),if_neg (by omega),if_neg (by omega),if_neg (by omega),if_neg (by omega),if_neg (by omega),if_neg (by omega)]];rfl
def iY:(left n r lo hi:Nat)→List UInt8→Nat×Nat×Bool
 |0,n,r,_,_,_=>(r,n,false)
 |left+1,n,r,lo,hi,[]=>(0,0,true)
 |left+1,n,r,lo,hi,x::xs=>if x.toNat<lo∨hi<x.toNat then(0,0,false) else iY left n (r*64+x.toNat %64) 128 191 xs
def ie:List UInt8→Nat×Nat×Bool
 |[]=>(0,0,false)
 |c::xs=>if(b6 c.toNat).1<0 then(0,0,false)
   else iY (b6 c.toNat).1.toNat ((b6 c.toNat).1.toNat+1) (if(b6 c.toNat).1>0 then c.toNat %(64/2^(b6 c.toNat).1.toNat) else c.toNat) (b6 c.toNat).2.1 (b6 c.toNat).2.2 xs
theorem wj (c:Nat):(b6 c).1=-1∨(b6 c).1=0∨(b6 c).1=1∨(b6 c).1=2∨(b6 c).1=3:=by
 unfold b6
 repeat' split
 all_goals simp
theorem AA {w a j:Nat} (ha:a<2^w) (hj:2^j-1<2^w):(BitVec.ofInt w (a:Int) &&&BitVec.ofInt w ((2^j-1:Nat):Int)).toNat=a %2^j:=by
 rw[bv_and ha hj,Nat.and_two_pow_sub_one_eq_mod]
theorem dL (b:List UInt8):(V.byteCells b).length=b.length:=by simp[V.byteCells]
theorem iS {b:List UInt8} {i:Nat} {y:UInt8} (h:b[i]?=some y):(V.byteCells b)[i]?=some [.int .u8 (y.toNat:Nat)]:=by
 simp[V.byteCells,h]
theorem GD (y:UInt8):y.toNat<256:=y.toNat_lt
theorem LV {r y:Nat} (hr:r<33554432) (hy:y<256):bj .i32 ((BitVec.ofInt 32 (bj .i32 ((r:Int)*2^(min (Int.toNat 6) 32)))|||BitVec.ofInt 32 (bj .i32 (bj .u8 ((BitVec.ofInt 8 (y:Int) &&&BitVec.ofInt 8 63).toNat:Nat)))).toNat:Nat)=((r*64+y %64:Nat):Int):=by
 have h1:(BitVec.ofInt 8 (y:Int) &&&BitVec.ofInt 8 63).toNat=y %64:=AA (w:=8) (j:=6) hy (by decide);rw[h1]
 have h2:((r:Int)*2^(min (Int.toNat 6) 32))=((r*64:Nat):Int):=by
  have:(2:Int)^(min (Int.toNat 6) 32)=64:=by decide
  rw[this];simp
 rw[h2,eD (k:=.i32) (m:=r*64) (by simp only[lF];omega),eD (k:=.u8) (m:=y %64) (by simp only[lF];omega),eD (k:=.i32) (m:=y %64) (by simp only[lF];omega)];rw[Li (by omega) (by omega)]
 have h3:(r*64)|||(y %64)=r*64+y %64:=by
  have:=Nat.two_pow_add_eq_or_of_lt (i:=6) (b:=y %64) (by omega) r;have e:(2:Nat)^6=64:=by decide
  rw[e] at this;rw[Nat.mul_comm r 64,this]
 rw[h3,eD (k:=.i32) (m:=r*64+y %64) (by simp only[lF];omega)]
theorem JI {c j:Nat} (hc:c<256) (hj:j≤8) {m:Int} (hm:m=((2^j-1:Nat):Int)):bj .i32 ((BitVec.ofInt 32 (bj .i32 (c:Nat)) &&&BitVec.ofInt 32 m).toNat:Nat)=((c %2^j:Nat):Int):=by
 have h1:2^j≤2^8:=Nat.pow_le_pow_right (by omega) hj;rw[hm,eD (k:=.i32) (m:=c) (by simp only[lF];omega),AA (w:=32) (by omega) (by omega)];have:c %2^j≤c:=Nat.mod_le _ _;rw[eD (k:=.i32) (by simp only[lF];omega)]
theorem mask {c j:Nat} (hc:c<256) (hj:j≤8) {m:Int} (hm:m=((2^j-1:Nat):Int)):bj .i32 ((BitVec.ofInt IntKind.i32.bits (bj .i32 (c:Nat)) &&&BitVec.ofInt IntKind.i32.bits m).toNat:Nat)=((c %2^j:Nat):Int):=JI hc hj hm
theorem QY {r y:Nat} (hr:r<33554432) (hy:y<256):bj .i32 ((BitVec.ofInt IntKind.i32.bits (bj .i32 ((r:Int)*2^(min (Int.toNat 6) IntKind.i32.bits)))|||BitVec.ofInt IntKind.i32.bits (bj .i32 (bj .u8 ((BitVec.ofInt IntKind.u8.bits (y:Int) &&&BitVec.ofInt IntKind.u8.bits 63).toNat:Nat)))).toNat:Nat)=((r*64+y %64:Nat):Int):=LV hr hy
theorem Ea {st:St} {x:D} {b:List UInt8} (hb:Bytes st x b):Ev pv 43 [x] st (.tup [.int .i32 ((ie b).1:Nat),.int .i64 ((ie b).2.1:Nat),.bool (ie b).2.2]) st:=by
 refine Ev.jL rfl OV rfl rfl rfl ?_;refine zE ?_;have eV:=hb.enter .ro;(try refine qy ?_);(repeat refine qq ?_);(try generalize hK:bf _ _ _ _=K);refine ag.dD ?_;(repeat(first|refine xT ?_|refine xL ?_|refine xN ?_|refine xo ?_|refine xp ?_));refine ae.nil ?_;(try refine zF ?_);(try subst hK);(try refine qy ?_);(repeat refine qq ?_);(try generalize hK:bf _ _ _ _=K);refine ag.dD ?_
 (first|refine xT ?_|refine xL ?_|refine xN ?_|refine xo ?_|refine xp ?_)
 refine ae.len rfl rfl rfl eV rfl ?_;(repeat(first|refine xT ?_|refine xL ?_|refine xN ?_|refine xo ?_|refine xp ?_));refine ae.nil ?_;(try refine zF ?_);(try subst hK);(try refine qy ?_);(repeat refine qq ?_);refine qc (fun h1=>?_) (fun h1=>?_)<;>try simp only[cs] at h1
 ·(try refine qy ?_);(repeat refine qq ?_);(try generalize hK:bf _ _ _ _=K);refine ag.dD ?_;(repeat(first|refine xT ?_|refine xL ?_|refine xN ?_|refine xo ?_|refine xp ?_));refine ae.nil ?_;(try refine zF ?_);(try subst hK);(try refine qy ?_);refine ag.ret ⟨rx,_,rfl,bk (by simp) (by simp[ai]) ?_⟩
  obtain rfl:b=[]:=by cases b with|nil=>rfl|cons c b=>simp[V.byteCells] at h1;omega
  rfl
 refine ag.skip ?_
 obtain⟨c,xs,rfl⟩:∃c xs,b=c::xs:=by cases b with|nil=>simp[V.byteCells] at h1|cons c b=>exact⟨c,b,rfl⟩
 obtain⟨k,lo,hi,hm⟩:∃k lo hi,b6 c.toNat=(k,lo,hi):=⟨_,_,_,rfl⟩
 have Ng:=FL c.toNat (ai .ro st);rw[hm] at Ng;have hk:=wj c.toNat;rw[hm] at hk;have hc:=GD c;(try refine qy ?_);(repeat refine qq ?_);(try generalize hK:bf _ _ _ _=K);refine ag.dD ?_
 (first|refine xT ?_|refine xL ?_|refine xN ?_|refine xo ?_|refine xp ?_)
 refine ae.iB rfl rfl rfl (fun _=>rfl) rfl rfl eV rfl rfl (by omega) rfl rfl (fun p=>?_);refine ae.G2 rfl rfl rfl Ng ?_;(repeat(first|refine xT ?_|refine xL ?_|refine xN ?_|refine xo ?_|refine xp ?_));refine ae.nil ?_;(try refine zF ?_);(try subst hK);(try refine qy ?_);(repeat refine qq ?_);(try generalize hK:bf _ _ _ _=K);refine ag.dD ?_;(repeat(first|refine xT ?_|refine xL ?_|refine xN ?_|refine xo ?_|refine xp ?_));refine ae.nil ?_;(try refine zF ?_);(try subst hK);(try refine qy ?_);(repeat refine qq ?_);refine qc (fun h2=>?_) (fun h2=>?_)<;>try simp only[cs] at h2
 ·(try refine qy ?_);(repeat refine qq ?_);(try generalize hK:bf _ _ _ _=K);refine ag.dD ?_;(repeat(first|refine xT ?_|refine xL ?_|refine xN ?_|refine xo ?_|refine xp ?_));refine ae.nil ?_;(try refine zF ?_);(try subst hK);(try refine qy ?_);refine ag.ret ⟨rx,_,rfl,bk (by simp) (by simp[ai]) ?_⟩;simp only[ie,hm];rw[if_pos h2];rfl
 refine ag.skip ?_;(try refine qy ?_);(repeat refine qq ?_);(try generalize hK:bf _ _ _ _=K);refine ag.dD ?_
 (first|refine xT ?_|refine xL ?_|refine xN ?_|refine xo ?_|refine xp ?_)
 refine ae.iB rfl rfl rfl (fun _=>rfl) rfl rfl eV rfl rfl (by omega) rfl rfl (fun p=>?_);(repeat(first|refine xT ?_|refine xL ?_|refine xN ?_|refine xo ?_|refine xp ?_));refine ae.nil ?_;(try refine zF ?_);(try subst hK);(try refine qy ?_);(repeat refine qq ?_);(try generalize hK:bf _ _ _ _=K);refine ag.dD ?_;(repeat(first|refine xT ?_|refine xL ?_|refine xN ?_|refine xo ?_|refine xp ?_));refine ae.nil ?_;(try refine zF ?_);(try subst hK);(try refine qy ?_);generalize hK:bf _ _ _ _=K
 have H:∀(r kn:Nat) (m:List (Nat×D)),k=(kn:Int)→r=(if k>0 then c.toNat %(64/2^k.toNat) else c.toNat)→(r+1)*64^kn≤2097152→K .next ⟨9,[x,.tup [],.int .i32 r,.int .i64 0,.bool false,.int .i64 k,.int .u8 lo,.int .u8 hi,.tup []],m⟩ (ai .ro st):=by
  intro r kn m hkn hr m_
  have hR:ie (c::xs)=iY kn (kn+1) r lo hi xs:=by
   simp only[ie,hm];rw[if_neg h2,hr,hkn];rfl
  subst hK;rw[hR];generalize hS:iY kn (kn+1) r lo hi xs=R at hR⊢;subst hkn;(try refine qy ?_);(repeat refine qq ?_);(try generalize hK:bf _ _ _ _=K);refine ag.dD ?_;(repeat(first|refine xT ?_|refine xL ?_|refine xN ?_|refine xo ?_|refine xp ?_));refine ae.nil ?_;(try refine zF ?_);(try subst hK);(try refine qy ?_);refine ag.block<|ag.loop (fun j fr ah=>∃(i r lo hi:Nat),fr.clean=⟨9,[x,.tup [],.int .i32 r,.int .i64 0,.bool false,.int .i64 kn,.int .u8 lo,.int .u8 hi,.int .i64 (i:Nat)],[]⟩∧ah=ai .ro st∧1≤i∧i+j=kn+1∧iY j (kn+1) r lo hi (xs.drop (i-1))=R∧(r+1)*64^j≤2097152) kn ⟨1,r,lo,hi,rfl,rfl,by omega,by omega,hS,m_⟩ ?_;clear hr m_ hS r hm Ng m;rintro j fr ah ⟨i,r,lo,hi,hfr,rfl,UD,hij,hS,m_⟩;rw[hfr];(try refine qy ?_);(repeat refine qq ?_);(try generalize hK:bf _ _ _ _=K);refine ag.dD ?_;(repeat(first|refine xT ?_|refine xL ?_|refine xN ?_|refine xo ?_|refine xp ?_));refine ae.nil ?_;(try refine zF ?_);(try subst hK);(try refine qy ?_);(repeat refine qq ?_);refine qc (fun h4=>?_) (fun h4=>?_)<;>try simp only[cs] at h4
  ·refine ag.skip ?_
   obtain⟨j,rfl⟩:∃j',j=j'+1:=⟨j-1,by omega⟩
   refine ag.seq (ag.block ?_);(try refine qy ?_);(repeat refine qq ?_);(try generalize hK:bf _ _ _ _=K);refine ag.dD ?_
   (first|refine xT ?_|refine xL ?_|refine xN ?_|refine xo ?_|refine xp ?_)
   (first|refine xT ?_|refine xL ?_|refine xN ?_|refine xo ?_|refine xp ?_)
   refine ae.len rfl rfl rfl eV rfl ?_;(repeat(first|refine xT ?_|refine xL ?_|refine xN ?_|refine xo ?_|refine xp ?_));refine ae.nil ?_;(try refine zF ?_);(try subst hK);(try refine qy ?_)
   have B9:(xs.drop (i-1))=[]∨∃y ys,xs.drop (i-1)=y::ys:=by
    cases xs.drop (i-1) with
    |nil=>exact .inl rfl
    |cons y ys=>exact .inr ⟨y,ys,rfl⟩
   have JV:(xs.drop (i-1)).length=xs.length-(i-1):=List.length_drop ..;have hbl:(V.byteCells (c::xs)).length=xs.length+1:=by simp[V.byteCells]
   (try refine qy ?_);(repeat refine qq ?_);refine qc (fun h5=>?_) (fun h5=>?_)<;>try simp only[cs] at h5
   ·(try refine qy ?_);(repeat refine qq ?_);(try generalize hK:bf _ _ _ _=K);refine ag.dD ?_;(repeat(first|refine xT ?_|refine xL ?_|refine xN ?_|refine xo ?_|refine xp ?_));refine ae.nil ?_;(try refine zF ?_);(try subst hK);(try refine qy ?_);refine ag.ret ⟨rx,_,rfl,bk (by simp) (by simp[ai]) ?_⟩
    rcases B9 with B9|⟨y,ys,B9⟩
    ·rw[B9] at hS;simp only[iY] at hS;subst hS;rfl
    ·rw[B9] at JV;simp only[List.length_cons] at JV;omega
   refine ag.skip ?_
   rcases B9 with B9|⟨y,ys,B9⟩
   ·rw[B9] at JV;simp only[List.length_nil] at JV;omega
   have hy:(c::xs)[i]?=some y:=by
    obtain⟨i,rfl⟩:∃i',i=i'+1:=⟨i-1,by omega⟩
    have:=congrArg (fun l=>l[0]?) B9
    simpa using this
   have jQ:xs.drop (i+1-1)=ys:=by
    have:=congrArg (fun l=>l.drop 1) B9;simp only[List.drop_drop,List.drop_succ_cons,List.drop_zero] at this;rw[←this];congr 1;omega
   have Mo:=iS hy;have Rx:=GD y;rw[B9] at hS;simp only[iY] at hS;(try refine qy ?_);(repeat refine qq ?_);(try generalize hK:bf _ _ _ _=K);refine ag.dD ?_
   (first|refine xT ?_|refine xL ?_|refine xN ?_|refine xo ?_|refine xp ?_)
   (first|refine xT ?_|refine xL ?_|refine xN ?_|refine xo ?_|refine xp ?_)
   refine ae.iB rfl rfl rfl (fun _=>rfl) rfl rfl eV rfl rfl (by omega) Mo rfl (fun p=>?_)
   (first|refine xT ?_|refine xL ?_|refine xN ?_|refine xo ?_|refine xp ?_)
   (first|refine xT ?_|refine xL ?_|refine xN ?_|refine xo ?_|refine xp ?_)
   (first|refine xT ?_|refine xL ?_|refine xN ?_|refine xo ?_|refine xp ?_)
   by_cases yN:(y.toNat:Int)<(lo:Int)
   ·rw[decide_eq_true yN];(repeat(first|refine xT ?_|refine xL ?_|refine xN ?_|refine xo ?_|refine xp ?_));refine ae.nil ?_;(try refine zF ?_);(try subst hK);(try refine qy ?_);refine ag.cond (v:=true) rfl (fun _=>?_) (fun h=>by cases h);(try refine qy ?_);(repeat refine qq ?_);(try generalize hK:bf _ _ _ _=K);refine ag.dD ?_;(repeat(first|refine xT ?_|refine xL ?_|refine xN ?_|refine xo ?_|refine xp ?_));refine ae.nil ?_;(try refine zF ?_);(try subst hK);(try refine qy ?_);refine ag.ret ⟨rx,_,rfl,bk (by simp) (by simp[ai]) ?_⟩;rw[if_pos (.inl (by omega))] at hS;subst hS;rfl
   rw[decide_eq_false yN]
   (first|refine xT ?_|refine xL ?_|refine xN ?_|refine xo ?_|refine xp ?_)
   (first|refine xT ?_|refine xL ?_|refine xN ?_|refine xo ?_|refine xp ?_)
   refine ae.iB rfl rfl rfl (fun _=>rfl) rfl rfl eV rfl rfl (by omega) Mo rfl (fun p=>?_);(repeat(first|refine xT ?_|refine xL ?_|refine xN ?_|refine xo ?_|refine xp ?_));refine ae.nil ?_;(try refine zF ?_);(try subst hK);(try refine qy ?_);(repeat refine qq ?_);refine qc (fun h6=>?_) (fun h6=>?_)<;>try simp only[cs] at h6
   ·(try refine qy ?_);(repeat refine qq ?_);(try generalize hK:bf _ _ _ _=K);refine ag.dD ?_;(repeat(first|refine xT ?_|refine xL ?_|refine xN ?_|refine xo ?_|refine xp ?_));refine ae.nil ?_;(try refine zF ?_);(try subst hK);(try refine qy ?_);refine ag.ret ⟨rx,_,rfl,bk (by simp) (by simp[ai]) ?_⟩;rw[if_pos (.inr (by omega))] at hS;subst hS;rfl
   refine ag.skip ?_;rw[if_neg (by omega)] at hS;(try refine qy ?_);(repeat refine qq ?_);(try generalize hK:bf _ _ _ _=K);refine ag.dD ?_
   (first|refine xT ?_|refine xL ?_|refine xN ?_|refine xo ?_|refine xp ?_)
   (first|refine xT ?_|refine xL ?_|refine xN ?_|refine xo ?_|refine xp ?_)
   (first|refine xT ?_|refine xL ?_|refine xN ?_|refine xo ?_|refine xp ?_)
   (first|refine xT ?_|refine xL ?_|refine xN ?_|refine xo ?_|refine xp ?_)
   refine ae.iB rfl rfl rfl (fun _=>rfl) rfl rfl eV rfl rfl (by omega) Mo rfl (fun p=>?_);(repeat(first|refine xT ?_|refine xL ?_|refine xN ?_|refine xo ?_|refine xp ?_));refine ae.nil ?_;(try refine zF ?_);(try subst hK);(try refine qy ?_);have Up:r+1≤(r+1)*64^(j+1):=Nat.le_mul_of_pos_right _ (Nat.pow_pos (by omega));rw[QY (by omega) Rx];(try refine qy ?_);(repeat refine qq ?_);(try generalize hK:bf _ _ _ _=K);refine ag.dD ?_;(repeat(first|refine xT ?_|refine xL ?_|refine xN ?_|refine xo ?_|refine xp ?_));refine ae.nil ?_;(try refine zF ?_);(try subst hK);(try refine qy ?_);(repeat refine qq ?_);(try generalize hK:bf _ _ _ _=K);refine ag.dD ?_;(repeat(first|refine xT ?_|refine xL ?_|refine xN ?_|refine xo ?_|refine xp ?_));refine ae.nil ?_;(try refine zF ?_);(try subst hK);(try refine qy ?_);rw[wrap_i64 (by omega) (by omega)];refine⟨j,by omega,i+1,_,_,_,rfl,rfl,by omega,by omega,by rw[jQ];exact hS,?_⟩;have e1:(r*64+y.toNat %64+1)≤(r+1)*64:=by omega
   have e2:=Nat.mul_le_mul_right (64^j) e1;have e3:64*64^j=64^(j+1):=by rw[Nat.pow_succ,Nat.mul_comm]
   rw[Nat.mul_assoc,e3] at e2;omega
  ·refine ag.exit ?_;have:j=0:=by omega
   subst this;simp only[iY] at hS;subst hS;(try refine qy ?_);(repeat refine qq ?_);(try generalize hK:bf _ _ _ _=K);refine ag.dD ?_;(repeat(first|refine xT ?_|refine xL ?_|refine xN ?_|refine xo ?_|refine xp ?_));refine ae.nil ?_;(try refine zF ?_);(try subst hK);(try refine qy ?_);refine ag.ret ⟨rx,_,rfl,bk (by simp) (by simp[ai]) ?_⟩;rw[wrap_i64 (by omega) (by omega)];rfl
 rcases hk with hk|hk|hk|hk|hk
 ·omega
 ·subst hk;refine ag.cond (v:=false) rfl (fun h=>by cases h) fun _=>ag.skip ?_;rw[eD (by simp only[lF];omega)];exact H _ 0 _ rfl rfl (by omega)
 ·subst hk;refine ag.cond (v:=true) rfl (fun _=>?_) (fun h=>by cases h);refine ag.dD ?_
  (first|refine xT ?_|refine xL ?_|refine xN ?_|refine xo ?_|refine xp ?_)
  refine ae.iB rfl rfl rfl (fun _=>rfl) rfl rfl eV rfl rfl (by omega) rfl rfl (fun p=>?_);(repeat(first|refine xT ?_|refine xL ?_|refine xN ?_|refine xo ?_|refine xp ?_));refine ae.nil ?_;(try refine zF ?_);rw[mask (j:=5) hc (by omega)]
  ·exact H _ 1 _ rfl rfl (by omega)
  ·decide
 ·subst hk;refine ag.cond (v:=true) rfl (fun _=>?_) (fun h=>by cases h);refine ag.dD ?_
  (first|refine xT ?_|refine xL ?_|refine xN ?_|refine xo ?_|refine xp ?_)
  refine ae.iB rfl rfl rfl (fun _=>rfl) rfl rfl eV rfl rfl (by omega) rfl rfl (fun p=>?_);(repeat(first|refine xT ?_|refine xL ?_|refine xN ?_|refine xo ?_|refine xp ?_));refine ae.nil ?_;(try refine zF ?_);rw[mask (j:=4) hc (by omega)]
  ·exact H _ 2 _ rfl rfl (by omega)
  ·decide
 ·subst hk;refine ag.cond (v:=true) rfl (fun _=>?_) (fun h=>by cases h);refine ag.dD ?_
  (first|refine xT ?_|refine xL ?_|refine xN ?_|refine xo ?_|refine xp ?_)
  refine ae.iB rfl rfl rfl (fun _=>rfl) rfl rfl eV rfl rfl (by omega) rfl rfl (fun p=>?_);(repeat(first|refine xT ?_|refine xL ?_|refine xN ?_|refine xo ?_|refine xp ?_));refine ae.nil ?_;(try refine zF ?_);rw[mask (j:=3) hc (by omega)]
  ·exact H _ 3 _ rfl rfl (by omega)
  ·decide
def ja (b:List UInt8):Nat×Nat:=if(ie b).2.1=0 then(65533,1) else((ie b).1,(ie b).2.1)
def B5:Nat→List UInt8→List (Nat×Nat)
 |0,_=>[]
 |_+1,[]=>[]
 |n+1,b=>ja b::B5 n (b.drop (ja b).2)
def nV (b:List UInt8):List (Nat×Nat):=B5 b.length b
theorem mh (b:List UInt8):1≤(ja b).2:=by
 unfold ja;split
 ·simp
 ·simp only;omega
theorem nW : ∀ (n : Nat) (b : List UInt8), b.length ≤ n → B5 n b = nV b
 | 0, [], _ => rfl
 | 0, _ :: _, h => by simp at h
 | n + 1, [], _ => rfl
 | n + 1, c :: b, h => by
  have hp := mh (c :: b);have h1 : ((c :: b).drop (ja (c :: b)).2).length ≤ b.length := by rw [List.length_drop]; simp only [List.length_cons]; omega
  simp only [List.length_cons] at h;show ja (c :: b) :: B5 n ((c :: b).drop _) = ja (c :: b) :: B5 b.length ((c :: b).drop _);rw [nW n _ (by omega)]
  rcases Nat.lt_or_ge n b.length with h2 | h2
  ·omega
  ·rw [nW b.length _ h1]
termination_by n b => b.length
decreasing_by all_goals (simp_wf; omega)
theorem rr:nV []=[]:=rfl
theorem tw {b:List UInt8} (h:b≠[]):nV b=ja b::nV (b.drop (ja b).2):=by
 match b,h with
 |c::b,_=>
  show ja (c::b)::B5 b.length ((c::b).drop _)=_;rw[nW];have hp:=mh (c::b);rw[List.length_drop];simp only[List.length_cons];omega
def ba (g:Nat×Nat):List D:=[.int .i32 (g.1:Nat),.int .i64 (g.2:Nat)]
def gv (l:List (Nat×Nat)):D:=.sl ((l.map ba).map (jn 2))
theorem D8 {l:List (Nat×Nat)}:∀e∈l.map ba,e.length=2:=by
 intro e he;obtain⟨g,_,rfl⟩:=List.mem_map.1 he;rfl
theorem qX {l:List (Nat×Nat)}:∀e∈l.map ba,∀d∈e,bK d=true:=by
 intro e he d hd;obtain⟨g,_,rfl⟩:=List.mem_map.1 he;simp only[ba,List.mem_cons,List.not_mem_nil,or_false] at hd
 rcases hd with rfl|rfl<;>rfl
theorem ej (st:St) (l:List (Nat×Nat)):V.Rows st 2 (gv l) (l.map ba):=Rows.pQ D8 qX
theorem vE:∀(left n r lo hi:Nat) (b:List UInt8),(iY left n r lo hi b).2.1≠0→(iY left n r lo hi b).2.1=n∧left≤b.length
 |0,n,r,lo,hi,b,h=>by simp[iY]
 |left+1,n,r,lo,hi,[],h=>by simp[iY] at h
 |left+1,n,r,lo,hi,x::xs,h=>by
  simp only[iY] at h⊢
  split at h
  ·simp at h
  ·rename_i hc;rw[if_neg hc];have:=vE left n _ _ _ xs h;exact⟨this.1,by simp;omega⟩
theorem zJ {b:List UInt8} (h:b≠[]):(ja b).2≤b.length:=by
 match b,h with
 |c::xs,_=>
  unfold ja
  split
  ·simp
  ·rename_i hz;simp only[ie] at hz⊢
   split at hz
   ·simp at hz
   ·rename_i hk;rw[if_neg hk];have:=vE _ _ _ _ _ _ hz;rw[this.1];simp;omega
theorem IP {st:St} {x:D} {b:List UInt8} (hb:Bytes st x b) (hlen:b.length≤1048576):Ev pv 25 [x] st (gv (nV b)) st:=by
 refine Ev.jL rfl O8 rfl rfl rfl ?_;refine zE ?_;have hx:=hb.ref;(try refine qy ?_);(repeat refine qq ?_);(try generalize hK:bf _ _ _ _=K);refine ag.dD ?_;(repeat(first|refine xT ?_|refine xL ?_|refine xN ?_|refine xo ?_|refine xp ?_));refine ae.nil ?_;(try refine zF ?_);(try subst hK);(try refine qy ?_);(repeat refine qq ?_);(try generalize hK:bf _ _ _ _=K);refine ag.dD ?_;(repeat(first|refine xT ?_|refine xL ?_|refine xN ?_|refine xo ?_|refine xp ?_));refine ae.nil ?_;(try refine zF ?_);(try subst hK);(try refine qy ?_);refine ag.seq (ag.block ?_)
 refine ag.loop (fun j fr ah=>∃(y out r n:D) (b':List UInt8) (done:List (Nat×Nat)),fr.clean=⟨6,[y,.tup [],.nul,out,r,n],[]⟩∧Ex st.bs.length (ai .ro st) ah∧Bytes ah y b'∧y.ref≤st.bs.length∧
  Acc st.bs.length ah 2 out (done.map ba)∧j=b'.length∧done++nV b'=nV b∧done.length+b'.length≤b.length) b.length
  ⟨x,.nul,_,_,b,[],rfl,Ex.refl _ _,hb.enter .ro,hx,.nul,rfl,rfl,by simp⟩ ?_
 rintro j fr ah ⟨y,out,r,n,b',done,hfr,hex,hy,P5,Gc,rfl,hall,hl⟩;rw[hfr];(try refine qy ?_);(repeat refine qq ?_);(try generalize hK:bf _ _ _ _=K);refine ag.dD ?_
 (first|refine xT ?_|refine xL ?_|refine xN ?_|refine xo ?_|refine xp ?_)
 refine ae.len rfl rfl rfl hy rfl ?_;(repeat(first|refine xT ?_|refine xL ?_|refine xN ?_|refine xo ?_|refine xp ?_));refine ae.nil ?_;(try refine zF ?_);(try subst hK);(try refine qy ?_);rw[dL];(try refine qy ?_);(repeat refine qq ?_);refine qc (fun h1=>?_) (fun h1=>?_)<;>try simp only[cs] at h1
 ·refine ag.skip ?_;have oQ:b'≠[]:=by rintro rfl;simp at h1
  (try refine qy ?_);(repeat refine qq ?_);refine ag.block ?_;(try refine qy ?_);(repeat refine qq ?_);(try generalize hK:bf _ _ _ _=K);refine ag.dD ?_
  (first|refine xT ?_|refine xL ?_|refine xN ?_|refine xo ?_|refine xp ?_)
  refine ae.G2 rfl rfl rfl (Ea hy) ?_;(repeat(first|refine xT ?_|refine xL ?_|refine xN ?_|refine xo ?_|refine xp ?_));refine ae.nil ?_;(try refine zF ?_);(try subst hK);(try refine qy ?_);generalize hf:ie b'=F at*;obtain⟨r0,n0,bg⟩:=F;(try refine qy ?_);(repeat refine qq ?_);(try generalize hK:bf _ _ _ _=K);refine ag.dD ?_;(repeat(first|refine xT ?_|refine xL ?_|refine xN ?_|refine xo ?_|refine xp ?_));refine ae.nil ?_;(try refine zF ?_);(try subst hK);(try refine qy ?_);generalize hK:bf _ _ _ _=K
  have H:∀m,K .next ⟨6,[y,.tup [],.nul,out,.int .i32 ((ja b').1:Nat),.int .i64 ((ja b').2:Nat)],m⟩ ah:=by
   intro m;subst hK;generalize hg:ja b'=g;have hp:=mh b';have hle:=zJ oQ;rw[hg] at hp hle;(try refine qy ?_);(repeat refine qq ?_);(try generalize hK:bf _ _ _ _=K);refine ag.dD ?_
   (first|refine xT ?_|refine xL ?_|refine xN ?_|refine xo ?_|refine xp ?_)
   (first|refine xT ?_|refine xL ?_|refine xN ?_|refine xo ?_|refine xp ?_)
   (first|refine xT ?_|refine xL ?_|refine xN ?_|refine xo ?_|refine xp ?_)
   refine ae.T rfl rfl rfl (d:=.agg (ba g)) (st1:=ah) rfl ?_;refine ae.T rfl rfl rfl (d:=.win ah.bs.length 0 0 1 2) (st1:=ah.push (.mem 0 true (ba g))) rfl ?_;have hN:st.bs.length≤ah.bs.length:=hex.len;have Ga:=hex.trans (Ex.push hN (.mem 0 true (ba g)));refine ae.append rfl rfl rfl rfl (Gc.push _) (Rows.one rfl) rfl rfl rfl rfl rfl rfl rfl (by decide) Ga.len (by rw[Ga.flr];exact Nat.le_refl _) (by rw[Ga.ro];exact Nat.le_refl _) (by simp only[List.length_map,List.length_cons,List.length_nil];show(done.length+1)*16≤_;omega) fun Md st2 KU KH _ _ _=>?_;(repeat(first|refine xT ?_|refine xL ?_|refine xN ?_|refine xo ?_|refine xp ?_));refine ae.nil ?_;(try refine zF ?_);(try subst hK);(try refine qy ?_);have NO:=Ga.trans KH;have wM:Bytes st2 y b':=Rows.ex ((Ex.push hN _).trans KH) hy P5;(try refine qy ?_);(repeat refine qq ?_);(try generalize hK:bf _ _ _ _=K);refine ag.dD ?_
   (first|refine xT ?_|refine xL ?_|refine xN ?_|refine xo ?_|refine xp ?_)
   (first|refine xT ?_|refine xL ?_|refine xN ?_|refine xo ?_|refine xp ?_)
   refine ae.slice rfl rfl rfl wM rfl rfl (l:=g.2) (r:=b'.length) ?_ ⟨by omega,by rw[dL];omega⟩ fun y2 FX Mn=>?_
   ·show cD (V.byteCells b').length (some (.int .i64 (g.2:Nat))) none=_;rw[dL];simp only[cD,hD,jF,Option.bind_some];rw[if_pos ⟨by omega,by omega⟩];rfl
   (repeat(first|refine xT ?_|refine xL ?_|refine xN ?_|refine xo ?_|refine xp ?_));refine ae.nil ?_;(try refine zF ?_);(try subst hK);(try refine qy ?_);refine⟨(b'.drop g.2).length,by rw[List.length_drop];omega,y2,Md,_,_,b'.drop g.2,done++[g],rfl,NO,?_,Nat.le_trans Mn P5,?_,rfl,?_,?_⟩
   ·have:((V.byteCells b').take b'.length).drop g.2=V.byteCells (b'.drop g.2):=by
     rw[←dL,List.take_length];simp[V.byteCells]
    unfold Bytes;rw[←this];exact FX
   ·rw[List.map_append];exact KU
   ·rw[List.append_assoc,List.singleton_append,←hall,tw oQ,hg]
   ·rw[List.length_append,List.length_drop];simp only[List.length_cons,List.length_nil];omega
  (try refine qy ?_);(repeat refine qq ?_);refine qc (fun h2=>?_) (fun h2=>?_)<;>try simp only[cs] at h2
  ·refine ag.dD ?_;(repeat(first|refine xT ?_|refine xL ?_|refine xN ?_|refine xo ?_|refine xp ?_));refine ae.nil ?_;(try refine zF ?_);have:ja b'=(65533,1):=by unfold ja;rw[hf,if_pos (by simpa using h2)]
   rw[this] at H;exact H _
  ·refine ag.skip ?_;have:ja b'=(r0,n0):=by unfold ja;rw[hf,if_neg (by simpa using h2)]
   rw[this] at H;exact H _
 ·refine ag.exit ?_
  have oQ:b'=[]:=by cases b' with|nil=>rfl|cons _ _=>simp at h1<;>omega
  subst oQ;rw[rr,List.append_nil] at hall;(try refine qy ?_);(repeat refine qq ?_);(try generalize hK:bf _ _ _ _=K);refine ag.dD ?_;(repeat(first|refine xT ?_|refine xL ?_|refine xN ?_|refine xo ?_|refine xp ?_));refine ae.nil ?_;(try refine zF ?_);(try subst hK);(try refine qy ?_);refine ag.ret ⟨rx,_,rfl,bk (by simp) (hex.take rfl) ?_⟩;rw[←hall];exact Gc.freeze qX (n:=15) (by decide)
/- the plain law: the two ways to look at the first rune -/
theorem rT (b:List UInt8):∀e∈V.byteCells b,e.length=1:=by
 intro e he;obtain⟨y,_,rfl⟩:=List.mem_map.1 he;rfl
theorem oT (b:List UInt8):∀e∈V.byteCells b,∀d∈e,bK d=true:=by
 intro e he d hd;obtain⟨y,_,rfl⟩:=List.mem_map.1 he;simp only[List.mem_cons,List.not_mem_nil,or_false] at hd;subst hd;rfl
open Go.V Go.RowKit
structure Sp where
 fr:Nat
 to:Nat
 lg:Bool
def ly (s:Sp):List D:=[.int .i64 (s.fr:Nat),.int .i64 (s.to:Nat),.bool s.lg]
def zW (c:UInt8) (n:Nat) (lg:Bool):Nat×Nat×Bool:=
 if c.toNat=10 then(if lg then(5,0,false) else(2,0,false))
 else if lg then(4,n,lg)
 else if 200≤n then(3,0,true)
 else(1,n+1,false)
def sk:List UInt8→Nat→Nat→Nat→Bool→List Sp
 |[],_,_,_,_=>[]
 |c::b,i,fr,n,lg=>
  if c.toNat=10 then(if lg then sk b (i+1) (i+1) 0 false else⟨fr,i,false⟩::sk b (i+1) (i+1) 0 false)
  else if lg then sk b (i+1) fr n true
  else if 200≤n then⟨fr,i,true⟩::sk b (i+1) fr 0 true
  else sk b (i+1) fr (n+1) false
theorem kv:∀(b:List UInt8) (i fr n:Nat) (lg:Bool),(sk b i fr n lg).length≤b.length
 |[],_,_,_,_=>Nat.le_refl _
 |c::b,i,fr,n,lg=>by
  have h1:=kv b (i+1) (i+1) 0 false;have h2:=kv b (i+1) fr n true;have h3:=kv b (i+1) fr 0 true;have h4:=kv b (i+1) fr (n+1) false;unfold sk;simp only[List.length_cons]
  split
  ·split<;>(try simp only[List.length_cons])<;>omega
  ·split
   ·omega
   ·split<;>(try simp only[List.length_cons])<;>omega
structure lU (b:List UInt8) (X:List Sp) (i fr k n:Nat) (lg:Bool):Prop where
 ma:∃L,X.drop k=L++sk (b.drop i) i fr n lg∧∀s∈L,s.lg=true
 aG:lg=false→fr+n=i∧n≤200
 aV:lg=true→fr+200<i
theorem lU.start (b:List UInt8):lU b (sk b 0 0 0 false) 0 0 0 0 false:=
 ⟨⟨[],by simp,by simp⟩,fun _=>⟨rfl,by omega⟩,fun h=>by cases h⟩
theorem drop_cons {b:List UInt8} {i:Nat} {c:UInt8} (h:b[i]?=some c):b.drop i=c::b.drop (i+1):=by
 obtain⟨h1,h2⟩:=List.getElem?_eq_some_iff.1 h;rw[←h2];exact List.drop_eq_getElem_cons h1
theorem lU.other {b:List UInt8} {X:List Sp} {i fr k n:Nat} {lg:Bool} (h:lU b X i fr k n lg) {c:UInt8} (hc:b[i]?=some c) (rP:c.toNat≠10):∃n' Rr,lU b X (i+1) fr k n' Rr:=by
 obtain⟨⟨L,h1,h2⟩,h3,h4⟩:=h;rw[drop_cons hc,sk,if_neg rP] at h1
 cases lg with
 |true=>exact⟨n,true,⟨L,by simpa using h1,h2⟩,fun h=>(by cases h),fun _=>by have:=h4 rfl;omega⟩
 |false=>
  have:=h3 rfl;rw[if_neg (by simp)] at h1
  by_cases hn:200≤n
  ·rw[if_pos hn] at h1;refine⟨0,true,⟨L++[⟨fr,i,true⟩],by rw[h1];simp,?_⟩,fun h=>(by cases h),fun _=>by omega⟩;intro s hs
   rcases List.mem_append.1 hs with hs|hs
   ·exact h2 s hs
   ·rw[List.mem_singleton.1 hs]
  ·rw[if_neg hn] at h1;exact⟨n+1,false,⟨L,h1,h2⟩,fun _=>by omega,fun h=>by cases h⟩
theorem lU.ends {b:List UInt8} {X:List Sp} {i fr k n:Nat} {lg:Bool} (h:lU b X i fr k n lg) {c:UInt8} (hc:b[i]?=some c) (rP:c.toNat=10):
  (200<i-fr∧fr≤i∧lU b X (i+1) (i+1) k 0 false)∨(i-fr≤200∧fr≤i∧∃L R,X.drop k=L++⟨fr,i,false⟩::R∧(∀s∈L,s.lg=true)∧R=sk (b.drop (i+1)) (i+1) (i+1) 0 false):=by
 obtain⟨⟨L,h1,h2⟩,h3,h4⟩:=h;rw[drop_cons hc,sk,if_pos rP] at h1
 cases lg with
 |true=>
  have:=h4 rfl;exact .inl ⟨by omega,by omega,⟨L,by simpa using h1,h2⟩,fun _=>⟨rfl,by omega⟩,fun h=>by cases h⟩
 |false=>
  have:=h3 rfl;exact .inr ⟨by omega,by omega,L,_,by simpa using h1,h2,rfl⟩
theorem lU.next {b:List UInt8} {X:List Sp} {i k:Nat} {s:Sp} {R:List Sp} (h:X.drop k=s::R) (hR:R=sk (b.drop (i+1)) (i+1) (i+1) 0 false):lU b X (i+1) (i+1) (k+1) 0 false:=by
 refine⟨⟨[],?_,by simp⟩,fun _=>⟨rfl,by omega⟩,fun h=>by cases h⟩;rw[List.nil_append,←hR,←List.drop_drop,h];rfl
theorem lU.all {b:List UInt8} {X:List Sp} {fr k n:Nat} {lg:Bool} (h:lU b X b.length fr k n lg):∀s∈X.drop k,s.lg=true:=by
 obtain⟨⟨L,h1,h2⟩,_,_⟩:=h;rw[List.drop_length,sk,List.append_nil] at h1;rw[h1];exact h2
end Go.Proofs.YtpcicphadikioaaGreat
namespace Go.V
variable{N:Nat} {S st:St} {H:List bh}
theorem Has.cq {s0:St} (h:Has N S s0 H):Has N (ai .rw s0) (ai .rw s0) H:=
 ⟨Ex.refl _ _,Nat.le_trans h.hN h.ex.len,by show s0.ro≤N;rw[h.ex.ro];exact h.eL,fun i e hi=>⟨e.loc (st:=s0) (ah:=ai .rw s0) (fun k _=>rfl) (h.ok i e hi).1,(h.ok i e hi).2⟩,h.dis⟩
theorem ak {kn:Bool} {s0 st:St} {d d':D} (hd:aB st s0.bs.length kn 16 d=some d'):cK .rw kn s0 st d=some (d',⟨st.bs.take s0.bs.length,s0.flr,s0.ro⟩):=by
 simp only[cK,hd]
theorem Has.my {s0 S2 st2:St} {H2:List bh} (h:Has N S s0 H) (hS:S2.bs=s0.bs) (h2:Has N S2 st2 H2) (hk:∀(i:Nat) e,H2[i]?=some e→∃e',H[i]?=some e'∧∀k,e.K k→e'.K k):Has N S ⟨st2.bs.take s0.bs.length,s0.flr,s0.ro⟩ H2:=by
 have hL:s0.bs.length≤st2.bs.length:=by have:=h2.ex.len;rw[hS] at this;exact this
 have UL:=h.ex.len;have UM:=h.hN;refine⟨⟨fun k jA=>?_,?_,h.ex.flr,h.ex.ro⟩,h.hN,h.eL,fun i e hi=>?_,h2.dis⟩
 ·show(st2.bs.take s0.bs.length)[k]?=_;rw[List.getElem?_take,if_pos (by omega),h2.ex.low k jA,hS];exact h.ex.low k jA
 ·show _≤(st2.bs.take s0.bs.length).length;rw[List.length_take];omega
 ·obtain⟨e',oB,hkk⟩:=hk i e hi;have h3:=(h.ok i e' oB).2;refine⟨e.loc (fun k jA=>?_) (h2.ok i e hi).1,fun k jA=>⟨(h3 k (hkk k jA)).1,?_⟩⟩
  ·show(st2.bs.take s0.bs.length)[k]?=_;rw[List.getElem?_take,if_pos (h3 k (hkk k jA)).2]
  ·show k<(st2.bs.take s0.bs.length).length;rw[List.length_take];have:=(h3 k (hkk k jA)).2;omega
theorem Has.ax {s0 S2 st2:St} {k:Nat} {b b':iu} (h:Has N S s0 (.box k b::H)) (hS:S2.bs=s0.bs) (h2:Has N S2 st2 (.box k b'::H)):Has N S ⟨st2.bs.take s0.bs.length,s0.flr,s0.ro⟩ (.box k b'::H):=by
 refine h.my hS h2 fun i e hi=>?_
 cases i with
 |zero=>simp only[List.getElem?_cons_zero,Option.some.injEq] at hi;subst hi;exact⟨_,rfl,fun k hk=>hk⟩
 |succ i=>exact⟨e,hi,fun k hk=>hk⟩
theorem Has.Gx {P:Pv} {j:Nat} {x y x':D} {s:Nat} {es ys:List (List D)} {ah:St} (hH:Has N S st H) (hj:H[j]?=some (.aD x s es)) (hy:Rows st s y ys) {t1 t2 e:TypeId} {td:TypeDesc} {inf:TypeInfo} {z:List D}
  (h1:P.bY t1=some (.slice e)) (h2:P.bY t2=some td) (h3:eT td=false) (h4:P.info e=some inf) (h5:cE P e=some z)
  (q1:aS P .append [t1,t2] [x,y] st=some (x',ah)):∀k,x'.ref=k+1→x.ref=k+1∨S.bs.length≤k:=by
 have hl:=hH.ex.len;have gO:=hy.row
 have wL:∀e∈ys,e.length=s:=fun e he=>by
  obtain⟨i,hi⟩:=List.getElem?_of_mem he;exact hy.uS i e hi
 have hown:=hH.own hj;simp only[aS,cN,h1,h2,h3,Bool.false_eq_true,if_false,h4,h5,gO,Option.bind_some] at q1
 split at q1
 ·cases q1
 ·cases hown with
  |nul=>
   simp only at q1
   split at q1
   ·cases q1;exact fun k hk=>.inl hk
   ·split at q1
    ·cases q1;exact fun k hk=>.inr (by simp only[D.ref] at hk;omega)
    ·cases q1
  |win k aq off es c hm hl hc he=>
   simp only[St.mem_of hm] at q1
   split at q1
   ·cases q1
   ·split at q1
    ·cases q1;exact fun k hk=>.inl hk
    ·split at q1
     ·cases q1;exact fun n hn=>.inl (by simp only[D.ref] at hn⊢;exact hn)
     ·cases q1
theorem ae.cj {P:Pv} {ops:Array Oper} {rest:List Oper} {fr:Fr} {Q:Fr→St→Prop} {ty:TypeId} {pp:String} {a:Array Edge} {g:Option (Nat×Bool)} {dst:Nat} {j:Nat} {x y:D} {s:Nat} {es ys:List (List D)} {t1 t2 e:TypeId} {td:TypeDesc} {inf:TypeInfo} {z:List D} {xo yo:Operand} {aA:D→Fr} (hH:Has N S st H) (hg:ay ops fr ⟨some dst,.call ⟨.builtin .append,#[xo,yo],#[t1,t2]⟩,ty,pp,a,g⟩=some true)
  (hx:fr.ev xo=x) (hy:fr.ev yo=y) (hj:H[j]?=some (.aD x s es)) (jQ:Rows st s y ys)
  (h1:P.bY t1=some (.slice e)) (h2:P.bY t2=some td) (h3:eT td=false) (h4:P.info e=some inf) (h5:cE P e=some z) (h6:inf.size=s) (h7:z.length=s) (h8:0<inf.bytes∧inf.bytes≤1024)
  (hp:∀x',fr.put dst x'=aA x') (hb:es.length+ys.length≤1073741824) (hw:S.flr≤N∨refs ys.flatten=0) (h0:∀k,x.ref=k+1→S.bs.length≤k)
  (h:∀x' ah,(∀k,x'.ref=k+1→S.bs.length≤k)→Has N S ah (H.set j (.aD x' s (es++ys)))→ae P ops rest (aA x') ah Q):
  ae P ops (⟨some dst,.call ⟨.builtin .append,#[xo,yo],#[t1,t2]⟩,ty,pp,a,g⟩::rest) fr st Q:=by
 obtain⟨x',ah,q1,q2,q3⟩:=hH.append hj jQ h1 h2 h3 h4 h5 h6 h7 h8 hb hw;have K2:=hH.Gx hj jQ h1 h2 h3 h4 h5 q1;refine ae.go hg rfl (d:=x') (st1:=ah) ?_ (hp _) (h x' ah (fun k hk=>?_) q2)
 ·simp only[dJ,List.map_cons,List.map_nil,hx,hy];exact q1
 ·rcases K2 k hk with h|h
  ·exact h0 k h
  ·exact h
def lO:D→D
 | .nul=>.sl []
 |d=>d
def lj (d:D):Bool:=match d with| .nul=>true|d=>bK d
theorem AK {st:St} {N n:Nat} {d:D} (h:lj d=true):cw st N (n+1) d=some (lO d):=by
 cases d<;>simp[lj,bK] at h<;>rfl
theorem sN {st:St} {N n:Nat}:∀{l:List D},(∀d∈l,lj d=true)→cH (cw st N (n+1)) l=some (l.map lO)
 |[],_=>rfl
 |d::l,h=>by simp only[cH,AK (h d (List.mem_cons_self ..)),sN (fun d hd=>h d (List.mem_cons_of_mem _ hd)),List.map_cons]
theorem Has.pf {L j:Nat} {x:D} {s:Nat} {es:List (List D)} (hH:Has N S st H) (hj:H[j]?=some (.aD x s es)) (hx:∀k,x.ref=k+1→L≤k) (hp:∀e∈es,∀d∈e,lj d=true) {n:Nat} (hn:3≤n):aB st L false n x=some (.sl ((es.map (·.map lO)).map (jn s))):=by
 obtain⟨n,rfl⟩:∃m,n=m+3:=⟨n-3,by omega⟩
 have hown:=hH.own hj
 cases hown with
 |nul=>rfl
 |win k aq off es c hm hl hc he=>
  have hk:=hx k (by simp only[D.ref]);show(if k<L then some (D.win k aq off es.length s) else cw st L (n+2) (.win k aq off es.length s))=_;rw[if_neg (show¬k<L by omega),cw];simp only[if_neg (show¬k<L by omega),St.mem_of hm,Option.bind_some]
  rw[if_pos hl,hc,sN (fun d hd=>by
   obtain⟨e,oB,xJ⟩:=List.mem_flatten.1 hd
   exact hp e oB d xJ)]
  have h1:(es.map (·.map lO)).flatten=es.flatten.map lO:=by rw[List.map_flatten]
  have h2:(es.map (·.map lO)).length=es.length:=List.length_map _
  have h3:∀e∈es.map (·.map lO),e.length=s:=by
   intro e oB;obtain⟨e0,h0,rfl⟩:=List.mem_map.1 oB;rw[List.length_map];exact he e0 h0
  simp only[Option.map_some];rw[←h1,←h2,eX h3]
theorem ae.LW {P:Pv} {ops:Array Oper} {rest:List Oper} {fr aA:Fr} {Q:Fr→St→Prop} {ty:TypeId} {pp:String} {a:Array Edge} {g:Option (Nat×Bool)} {dst:Nat} {t:TypeId} {xo io:Operand} {b:List UInt8} {kk:IntKind} {i:Nat} {c:UInt8} (hg:ay ops fr ⟨some dst,.index t xo io,ty,pp,a,g⟩=some true) (hx:fr.ev xo=.str b) (hi:fr.ev io=.int kk (i:Nat)) (ht:P.bY t=some .string) (hc:b[i]?=some c) (hp:fr.put dst (.int .u8 (c.toNat:Nat))=aA)
  (h:ae P ops rest aA st Q):ae P ops (⟨some dst,.index t xo io,ty,pp,a,g⟩::rest) fr st Q:=by
 refine ae.go hg rfl (d:=.int .u8 (c.toNat:Nat)) (st1:=st) ?_ hp h;simp only[dJ,hx,hi,nI,ht];rw[if_pos (by omega),Int.toNat_natCast,hc];rfl
end Go.V
namespace Go.V
abbrev Rg:=Int×Int
def fu (l:List Rg) (r:Int):Prop:=∃x,x∈l∧x.1≤r∧r≤x.2
theorem gk (r:Int):¬fu [] r:=by rintro⟨x,h,_⟩;cases h
theorem bD {x:Rg} {l:List Rg} {r:Int}:fu (x::l) r↔(x.1≤r∧r≤x.2)∨fu l r:=by
 constructor
 ·rintro⟨y,hy,h⟩
  rcases List.mem_cons.1 hy with rfl|hy
  ·exact .inl h
  ·exact .inr ⟨y,hy,h⟩
 ·rintro(h|⟨y,hy,h⟩)
  ·exact⟨x,List.mem_cons_self ..,h⟩
  ·exact⟨y,List.mem_cons_of_mem _ hy,h⟩
theorem wo {a b:List Rg} {r:Int}:fu (a++b) r↔fu a r∨fu b r:=by
 constructor
 ·rintro⟨y,hy,h⟩
  rcases List.mem_append.1 hy with hy|hy
  ·exact .inl ⟨y,hy,h⟩
  ·exact .inr ⟨y,hy,h⟩
 ·rintro(⟨y,hy,h⟩|⟨y,hy,h⟩)
  ·exact⟨y,List.mem_append_left _ hy,h⟩
  ·exact⟨y,List.mem_append_right _ hy,h⟩
theorem sL {a b:List Rg} (h:∀x,x∈a↔x∈b) (r:Int):fu a r↔fu b r:=by
 constructor
 ·rintro⟨y,hy,hh⟩;exact⟨y,(h y).1 hy,hh⟩
 ·rintro⟨y,hy,hh⟩;exact⟨y,(h y).2 hy,hh⟩
def canon (l:List Rg):Prop:=(∀x∈l,x.1≤x.2)∧l.Pairwise fun x y=>x.2+1<y.1
theorem ig {x:Rg} {l:List Rg} (h:canon (x::l)):canon l∧x.1≤x.2∧∀r,fu l r→x.2+1<r:=by
 obtain⟨h1,h2⟩:=h;rw[List.pairwise_cons] at h2;refine⟨⟨fun y hy=>h1 y (List.mem_cons_of_mem _ hy),h2.2⟩,h1 x (List.mem_cons_self ..),?_⟩;rintro r ⟨y,hy,h3,h4⟩;have:=h2.1 y hy;omega
theorem mR:∀{a b:List Rg},canon a→canon b→(∀r,fu a r↔fu b r)→a=b
 |[],[],_,_,_=>rfl
 |[],y::b,_,hb,h=>by
  obtain⟨_,h1,_⟩:=ig hb;exact absurd ((h y.1).2 (bD.2 (.inl ⟨Int.le_refl _,h1⟩))) (gk _)
 |x::a,[],ha,_,h=>by
  obtain⟨_,h1,_⟩:=ig ha;exact absurd ((h x.1).1 (bD.2 (.inl ⟨Int.le_refl _,h1⟩))) (gk _)
 |x::a,y::b,ha,hb,h=>by
  obtain⟨ca,xa,fa⟩:=ig ha;obtain⟨cb,yb,fb⟩:=ig hb
  have low:∀{x y:Rg} {a b:List Rg},x.1≤x.2→(∀r,fu b r→y.2+1<r)→y.1≤y.2→(∀r,fu (x::a) r→fu (y::b) r)→y.1≤x.1:=by
   intro x y a b hx hf hy hh
   rcases bD.1 (hh x.1 (bD.2 (.inl ⟨Int.le_refl _,hx⟩))) with h|h
   ·exact h.1
   ·have:=hf _ h;omega
  have e1:x.1=y.1:=Int.le_antisymm (low yb fa xa fun r=>(h r).2) (low xa fb yb fun r=>(h r).1)
  have up:∀{x y:Rg} {a b:List Rg},x.1≤x.2→x.1=y.1→(∀r,fu a r→x.2+1<r)→(∀r,fu (y::b) r→fu (x::a) r)→y.2≤x.2:=by
   intro x y a b hx he hf hh
   rcases Int.lt_or_le x.2 y.2 with h'|h'
   ·rcases bD.1 (hh (x.2+1) (bD.2 (.inl ⟨by omega,by omega⟩))) with h|h
    ·omega
    ·have:=hf _ h;omega
   ·exact h'
  have e2:x.2=y.2:=Int.le_antisymm (up yb e1.symm fb fun r=>(h r).1) (up xa e1 fa fun r=>(h r).2);have e:x=y:=Prod.ext e1 e2;subst e
  congr 1
  refine mR ca cb fun r=>⟨fun hr=>?_,fun hr=>?_⟩
  ·have:=fa r hr
   rcases bD.1 ((h r).1 (bD.2 (.inr hr))) with h|h
   ·omega
   ·exact h
  ·have:=fb r hr
   rcases bD.1 ((h r).2 (bD.2 (.inr hr))) with h|h
   ·omega
   ·exact h
def df (acc:List Rg) (r:Rg):List Rg:=
 match acc with
 |[]=>[r]
 |k::rest=>if r.1≤k.2+1 then(k.1,max k.2 r.2)::rest else r::k::rest
theorem mA:∀(l acc:List Rg),(∀x∈l,x.1≤x.2)→l.Pairwise (fun x y=>x.1≤y.1)→(∀k∈acc.head?,∀x∈l,k.1≤x.1)→(∀x∈acc,x.1≤x.2)→acc.Pairwise (fun x y=>y.2+1<x.1)→
  (∀x∈l.foldl df acc,x.1≤x.2)∧(l.foldl df acc).Pairwise (fun x y=>y.2+1<x.1)∧∀r,fu (l.foldl df acc) r↔fu acc r∨fu l r
 |[],acc,_,_,_,h1,h2=>⟨h1,h2,fun r=>⟨.inl,fun h=>h.resolve_right (gk r)⟩⟩
 |x::l,acc,hl,hp,hk,h1,h2=>by
  rw[List.pairwise_cons] at hp;have hx:=hl x (List.mem_cons_self ..);have jm:∀y∈l,y.1≤y.2:=fun y hy=>hl y (List.mem_cons_of_mem _ hy);rw[List.foldl_cons]
  cases acc with
  |nil=>
   obtain⟨g1,g2,g3⟩:=mA l [x] jm hp.2 (fun k jA y hy=>by simp at jA;subst jA;exact hp.1 y hy) (fun y hy=>by simp at hy;subst hy;exact hx) (by simp);refine⟨g1,g2,fun r=>(g3 r).trans ?_⟩;rw[bD (l:=l),bD (l:=[])];constructor
   ·rintro((h|h)|h)
    ·exact .inr (.inl h)
    ·exact absurd h (gk r)
    ·exact .inr (.inr h)
   ·rintro(h|h|h)
    ·exact absurd h (gk r)
    ·exact .inl (.inl h)
    ·exact .inr h
  |cons k rest=>
   have UC:=hk k rfl x (List.mem_cons_self ..);have hkk:=h1 k (List.mem_cons_self ..);rw[List.pairwise_cons] at h2;unfold df
   by_cases hc:x.1≤k.2+1
   ·simp only[if_pos hc]
    obtain⟨g1,g2,g3⟩:=mA l ((k.1,max k.2 x.2)::rest) jm hp.2 (fun q hq y hy=>by simp at hq;subst hq;have:=hp.1 y hy;simp only;omega) (fun y hy=>by
     rcases List.mem_cons.1 hy with rfl|hy
     ·simp only;omega
     ·exact h1 y (List.mem_cons_of_mem _ hy)) (by rw[List.pairwise_cons];exact⟨h2.1,h2.2⟩)
    refine⟨g1,g2,fun r=>(g3 r).trans ?_⟩;rw[bD (l:=rest),bD (l:=rest),bD (l:=l)];constructor
    ·rintro((h|h)|h)
     ·simp only at h
      by_cases hr:r≤k.2
      ·exact .inl (.inl ⟨h.1,hr⟩)
      ·exact .inr (.inl ⟨by omega,by omega⟩)
     ·exact .inl (.inr h)
     ·exact .inr (.inr h)
    ·rintro((h|h)|h|h)
     ·exact .inl (.inl ⟨h.1,by simp only;omega⟩)
     ·exact .inl (.inr h)
     ·exact .inl (.inl ⟨by simp only;omega,by simp only;omega⟩)
     ·exact .inr h
   ·simp only[if_neg hc]
    obtain⟨g1,g2,g3⟩:=mA l (x::k::rest) jm hp.2 (fun q hq y hy=>by simp at hq;subst hq;exact hp.1 y hy) (fun y hy=>by
     rcases List.mem_cons.1 hy with rfl|hy
     ·exact hx
     ·exact h1 y hy) (by
     rw[List.pairwise_cons];refine⟨fun y hy=>?_,by rw[List.pairwise_cons];exact h2⟩
     rcases List.mem_cons.1 hy with rfl|hy
     ·omega
     ·have:=h2.1 y hy;omega)
    refine⟨g1,g2,fun r=>(g3 r).trans ?_⟩;rw[bD (l:=k::rest),bD (l:=l)];constructor
    ·rintro((h|h)|h)
     ·exact .inr (.inl h)
     ·exact .inl h
     ·exact .inr (.inr h)
    ·rintro(h|h|h)
     ·exact .inl (.inr h)
     ·exact .inl (.inl h)
     ·exact .inr h
theorem yC {l:List Rg} (h1:∀x∈l,x.1≤x.2) (h2:l.Pairwise fun x y=>x.1≤y.1):canon (l.foldl df []).reverse∧∀r,fu (l.foldl df []).reverse r↔fu l r:=by
 obtain⟨g1,g2,g3⟩:=mA l [] h1 h2 (fun k hk=>by simp at hk) (fun x hx=>by simp at hx) List.Pairwise.nil;refine⟨⟨fun x hx=>g1 x (List.mem_reverse.1 hx),by rw[List.pairwise_reverse];exact g2⟩,fun r=>?_⟩;rw[sL (fun x=>List.mem_reverse) r,g3 r];exact⟨fun h=>h.resolve_left (gk r),.inr⟩
def lK (r:Int):Prop:=0≤r∧r≤1114111∧¬(55296≤r∧r≤57343)
def dB (x:Rg):List Rg:=
 (if max (max x.1 0) 0≤min (min x.2 1114111) 55295 then[(max (max x.1 0) 0,min (min x.2 1114111) 55295)] else[])++
 (if max (max x.1 0) 57344≤min (min x.2 1114111) 1114111 then[(max (max x.1 0) 57344,min (min x.2 1114111) 1114111)] else[])
theorem pC (x:Rg) (r:Int):fu (dB x) r↔lK r∧x.1≤r∧r≤x.2:=by
 unfold dB lK;rw[wo]
 have one:∀(a b:Int),fu (if a≤b then[(a,b)] else[]) r↔a≤r∧r≤b:=by
  intro a b
  split
  ·rw[bD];exact⟨fun h=>h.elim id fun h=>absurd h (gk r),.inl⟩
  ·exact⟨fun h=>absurd h (gk r),fun h=>by omega⟩
 rw[one,one];omega
theorem np (x:Rg):∀y∈dB x,y.1≤y.2∧0≤y.1∧y.2≤1114111:=by
 intro y hy;unfold dB at hy
 rcases List.mem_append.1 hy with h|h<;>split at h<;>simp at h<;>subst h<;>simp only<;>omega
theorem lG {l all:List Rg} (hp:∀x,x∈all↔x∈l.flatMap dB) (hs:all.Pairwise fun x y=>x.1≤y.1):canon (all.foldl df []).reverse∧∀r,fu (all.foldl df []).reverse r↔lK r∧fu l r:=by
 have hle:∀x∈all,x.1≤x.2:=fun x hx=>by
  obtain⟨y,_,hy⟩:=List.mem_flatMap.1 ((hp x).1 hx);exact(np y x hy).1
 obtain⟨g1,g2⟩:=yC hle hs;refine⟨g1,fun r=>(g2 r).trans ((sL hp r).trans ?_)⟩;constructor
 ·rintro⟨y,hy,h⟩;obtain⟨x,hx,hy⟩:=List.mem_flatMap.1 hy;have:=(pC x r).1 ⟨y,hy,h⟩;exact⟨this.1,x,hx,this.2⟩
 ·rintro⟨hr,x,hx,h⟩;obtain⟨y,hy,h'⟩:=(pC x r).2 ⟨hr,h⟩;exact⟨y,List.mem_flatMap.2 ⟨x,hx,hy⟩,h'⟩
end Go.V
namespace Go.V
end Go.V
namespace Go.Proofs.YtpcicphadikioaaGreat
open Go.V Go
def av (x:Rg):List D:=[.int .i32 x.1,.int .i32 x.2]
def aL (l:List Rg):D:=.sl (l.map fun x=>.agg (av x))
theorem fS (l:List Rg):D.sl ((l.map av).map (jn 2))=aL l:=by
 unfold aL;rw[List.map_map];rfl
theorem dX (l:List Rg):∀e∈l.map av,∀d∈e,bK d=true:=by
 intro e he d hd;obtain⟨x,_,rfl⟩:=List.mem_map.1 he;simp only[av,List.mem_cons,List.not_mem_nil,or_false] at hd
 rcases hd with rfl|rfl<;>rfl
theorem yg (l:List Rg):refs (l.map av).flatten=0:=by
 induction l with
 |nil=>rfl
 |cons x l ih=>simp only[List.map_cons,List.flatten_cons,av,List.cons_append,List.nil_append,refs,D.ref,ih];rfl
theorem nv (l:List Rg):∀e∈l.map av,e.length=2:=by
 intro e he;obtain⟨x,_,rfl⟩:=List.mem_map.1 he;rfl
theorem b_ (st:St) (l:List Rg):V.Rows st 2 (aL l) (l.map av):=by
 rw[←fS];exact Rows.pQ (nv l) (dX l)
theorem gT {l:List Rg} {i:Nat} {q:Rg} (h:l[i]?=some q):(l.map av)[i]?=some (av q):=by rw[List.getElem?_map,h];rfl
end Go.Proofs.YtpcicphadikioaaGreat
namespace Go.Proofs.YtpcicphadikioaaGreat
open Go.V Go
def aM (fr:Go.V.Fr) (k:Nat):Go.V.D:=Go.V.nth .aY fr.loc k
def eN:List Rg:=[(0,55295),(57344,1114111)]
def rF (lo hi:Int) (p:Rg):List Rg:=if max lo p.1≤min hi p.2 then[(max lo p.1,min hi p.2)] else[]
theorem tM (q:Rg):dB q=eN.flatMap (rF (max q.1 0) (min q.2 1114111)):=by
 simp[dB,eN,rF]
theorem CD {s0:St} (q:Rg):Ev pv 97 [.agg (av q)] s0 (aL (dB q)) s0:=by
 refine Ev.jL rfl Oc rfl rfl rfl ?_;refine zE ?_;obtain⟨aW,hF,hH⟩:=ri s0;generalize ai .ro s0=S at*;refine zQ 2 ?_;refine qb hH fun k1 st lL hH=>?_;dsimp only[u2,u1,u3,u4,setMany,u5,u6,D.cells,Nat.reduceAdd,av] at hH;refine zQ 6 ?_;refine ae.Hz (t1:=0) (t2:=0) rfl (ev rfl) (ev rfl) (by dsimp only[Fr.put,u1,u2]<;>rfl) ?_;refine zQ 2 ?_;refine ae.Hy (t1:=0) (t2:=0) rfl (ev rfl) (ev rfl) (by dsimp only[Fr.put,u1,u2]<;>rfl) ?_;refine zQ 1 ?_;refine qT hH aG fun st hH=>?_;dsimp only[u2,u1,u3,u4,setMany,u5,u6,D.cells,Nat.reduceAdd,av] at hH;refine zQ 1 ?_;refine qT hH aG fun st hH=>?_;dsimp only[u2,u1,u3,u4,setMany,u5,u6,D.cells,Nat.reduceAdd,av] at hH;refine zQ 1 ?_;generalize yN:max q.1 0=lo at*;generalize Bx:min q.2 1114111=hi at*;refine zQ 4 ?_;have hH:=hH.dU 2;refine zQ 5 ?_;refine qh (s:=2) (vs:=[_,_]) hH fun k17 st KB hH=>?_;dsimp only[u2,u1,u3,u4,setMany,u5,u6,D.cells,Nat.reduceAdd,av] at hH;refine qn ?_ (hR:=hH.rows aG);simp only[List.length_map,List.length_cons,List.length_nil];refine zQ 3 ?_;refine ag.loop (fun mm fr st=>∃(i:Nat) (x:D),fr.clean=⟨20,[.agg (av q),.ptr k1 0 0,.nul,x,aM fr 4,aM fr 5,aM fr 6,aM fr 7,aM fr 8,aM fr 9,aM fr 10,aM fr 11,aM fr 12,aM fr 13,aM fr 14,aM fr 15,aM fr 16,.win k17 0 0 2 2,.int .i64 2,.int .i64 (i:Nat)],[]⟩∧Has s0.bs.length S st [.aD (.win k17 0 0 2 2) 2 (eN.map av),.aD x 2 (((eN.take i).flatMap (rF lo hi)).map av),.box k1 (.mem 0 false [.int .i32 lo,.int .i32 hi])]∧(i+mm=2)∧(((eN.take i).flatMap (rF lo hi)).length≤i)) (2) ?_ ?_
 ·exact⟨0,.nul,rfl,hH,by omega,by simp⟩
 rintro mm fr st ⟨i,x,hfr,hH,hij,hb⟩;rw[hfr];clear hfr;generalize aM fr=ee;clear fr;refine zQ 5 ?_;refine zP (fun h1=>?_) fun h1=>?_
 ·refine zQ 1 ?_
  obtain⟨p,hp⟩:∃p,eN[i]?=some p:=⟨eN[i]'(by simp[eN];omega),List.getElem?_eq_getElem _⟩
  have hr:=gT hp;refine zQ 4 ?_;refine qi hH aG fun PX J7=>?_;refine ae.tW hH rfl (ev rfl) (by assumption) (by exact aG) (by assumption) rfl (aa rfl _) ?_;refine qa hH fun k5 st DQ hH=>?_;refine qS hH aG fun st hH=>?_;dsimp only[u2,u1,u3,u4,setMany,u5,u6,D.cells,Nat.reduceAdd,av] at hH;refine zQ 7 ?_;refine ae.Hz (t1:=0) (t2:=0) rfl (ev rfl) (ev rfl) (aa rfl _) ?_;refine zQ 4 ?_;refine ae.Hy (t1:=0) (t2:=0) rfl (ev rfl) (ev rfl) (aa rfl _) ?_;refine qg ?_;refine qa hH fun k6 st I9 hH=>?_;refine qS hH aG fun st hH=>?_;dsimp only[u2,u1,u3,u4,setMany,u5,u6,D.cells,Nat.reduceAdd,av] at hH;refine zQ 9 ?_;refine zP (fun h2=>?_) fun h2=>?_
  ·refine zQ 2 ?_;refine ae.aO (m:=2) hH rfl (ev rfl) (by exact aG) (by dsimp only[List.drop_succ_cons,List.drop_zero,List.take_succ_cons,List.take_zero,av]<;>rfl) rfl rfl (aa rfl _) ?_;refine qh (s:=2) (vs:=[_]) hH fun k41 st Kz hH=>?_;refine ae.dh (s:=2) hH rfl (ev rfl) (ev rfl) (by exact eo) (by exact hH.rows (by exact aG)) rfl rfl rfl rfl rfl rfl rfl ⟨(Nat.le_of_ble_eq_true rfl),(Nat.le_of_ble_eq_true rfl)⟩ (fun _=>(aa rfl _)) (by simp only[List.length_cons,List.length_nil,List.length_map]<;>omega) (by exact .inl hF) (fun Jf st hH=>?_);dsimp only[u2,u1,u3,u4,setMany,u5,u6,D.cells,Nat.reduceAdd,av] at hH;refine zQ 6 ?_
   have h3:(eN.take (i+1)).flatMap (rF lo hi)=(eN.take i).flatMap (rF lo hi)++[(max lo p.1,min hi p.2)]:=by
    rw[List.take_add_one,hp,List.flatMap_append];simp[rF,h2]
   exact⟨mm-1,by omega,⟨i+1,Jf,rfl,(by rw[h3,List.map_append];exact hH.drop 3),by omega,by rw[h3];simp only[List.length_append,List.length_cons,List.length_nil];omega⟩⟩
  ·refine zQ 5 ?_
   have h3:(eN.take (i+1)).flatMap (rF lo hi)=(eN.take i).flatMap (rF lo hi):=by
    rw[List.take_add_one,hp,List.flatMap_append];simp[rF,h2]
   exact⟨mm-1,by omega,⟨i+1,x,rfl,(by rw[h3];exact hH.drop 2),by omega,by rw[h3];omega⟩⟩
 ·refine zQ 6 ?_;rw[←fS];have h3:eN.take i=eN:=List.take_of_length_le (by simp[eN];omega);rw[h3] at hH;refine ag.ret ⟨rx,_,rfl,rl aW hH ?_⟩;refine Eq.trans (hH.freeze aV (dX _) (n:=15) (by decide)) ?_;rw[tM,yN,Bx]
theorem AR (q x:Rg) (h:x∈dB q):0≤x.1∧x.1≤1114111:=by
 obtain⟨h1,h2,h3⟩:=np q x h;omega
theorem pD (q:Rg):(dB q).length≤2:=by
 unfold dB;split<;>split<;>simp
theorem iF (l:List Rg):(l.flatMap dB).length≤2*l.length:=by
 induction l with
 |nil=>simp
 |cons x l ih=>simp only[List.flatMap_cons,List.length_append,List.length_cons];have:=pD x;omega
theorem rZ:∀{l:List Rg},(∀x∈l,0≤x.1∧x.1≤1114111)→∃m:List Rs,eG m=(l.map av).flatten∧m.map (fun x=>(x.lo,x.hi))=l
 |[],_=>⟨[],rfl,rfl⟩
 |x::l,h=>by
  obtain⟨m,h1,h2⟩:=rZ (l:=l) fun y hy=>h y (List.mem_cons_of_mem _ hy);obtain⟨h3,h4⟩:=h x (List.mem_cons_self ..);exact⟨⟨x.1,x.2,h3,h4⟩::m,by simp only[eG,h1,List.map_cons,List.flatten_cons,av,List.cons_append,List.nil_append],by simp[h2]⟩
theorem yY (m:List Rs):eG m=((m.map fun x=>((x.lo,x.hi):Rg)).map av).flatten:=by
 induction m with
 |nil=>rfl
 |cons x m ih=>simp only[eG,ih,List.map_cons,List.flatten_cons,av,List.cons_append,List.nil_append]
theorem D5 {N:Nat} {S st:St} {H:List bh} {j:Nat} {x:D} {l:List Rg} (hH:Has N S st H) (hj:H[j]?=some (.aD x 2 (l.map av))) (h0:l=[]→x=.nul) (hl:l.length≤1073741824) (hr:∀y∈l,0≤y.1∧y.1≤1114111):
  ∃(ah:St) (l':List Rg),Ev pv 98 [x,.fn 99 []] st (.tup []) ah∧Has N S ah (H.set j (.aD x 2 (l'.map av)))∧l'.Perm l∧l'.Pairwise fun a b=>a.1≤b.1:=by
 obtain⟨m,h1,h2⟩:=rZ hr;obtain⟨h3,h4⟩:=srt_facts m;have na:m.length=l.length:=by rw[←h2];simp
 have hperm:((srt m).map fun x=>((x.lo,x.hi):Rg)).Perm l:=by rw[←h2];exact h3.map _
 have lx:((srt m).map fun x=>((x.lo,x.hi):Rg)).Pairwise fun a b=>a.1≤b.1:=by rw[List.pairwise_map];exact h4
 have hlen:(srt m).length=l.length:=h3.length_eq.trans na;have hown:=hH.own hj;generalize sX:l.map av=es at*;have rN:es.length=l.length:=by rw[←sX];simp
 cases hown with
 |nul=>
  have Kq:l=[]:=by cases l with|nil=>rfl|cons _ _=>simp at rN
  refine⟨st,(srt m).map fun x=>(x.lo,x.hi),Ev.jK rfl rfl,?_,hperm,lx⟩
  have:(srt m).map (fun x=>((x.lo,x.hi):Rg))=[]:=by
   cases hs:srt m with
   |nil=>rfl
   |cons a b=>rw[hs,Kq] at hlen;simp at hlen
  rw[this];exact hH.zn hj (fun _ _ _=>rfl) (Nat.le_refl _) rfl rfl .nul (fun k hk=>.inl hk) fun k hk=>by simp only[bh.aD,D.ref] at hk;omega
 |win k aq off es c hm hle hc he=>
  have hne:l≠[]:=fun e=>by have:=h0 e;cases this
  have wW:1≤l.length:=by cases l with|nil=>exact absurd rfl hne|cons _ _=>simp
  have hk:=(hH.ok j _ hj).2 k (by simp only[bh.aD,D.ref]);have yP:(eG (srt m)).length=es.length*2:=by rw[mI,hlen,rN];omega
  have hwr:st.wr k aq off (eG (srt m))=some ⟨st.bs.set k (.mem aq true (c.take off++eG (srt m)++c.drop (off+(eG (srt m)).length))),st.flr,st.ro⟩:=
   iJ hm (by omega) (eJ hH hk.1 (.inr (tg _)))
  refine⟨⟨st.bs.set k (.mem aq true (c.take off++eG (srt m)++c.drop (off+(eG (srt m)).length))),st.flr,st.ro⟩,(srt m).map fun x=>(x.lo,x.hi),Ev.jK rfl ?_,?_,hperm,lx⟩
  ·show AM [.win k aq off es.length 2,.fn 99 []] st=_;have fJ:(c.drop off).take (2*es.length)=eG m:=by rw[Nat.mul_comm,hc,h1]
   simp only[AM,St.mem_of hm,fJ,zB,Hc];rw[decide_eq_true (⟨by rw[na,rN],by omega,by omega⟩:m.length=es.length∧1≤es.length∧es.length<1099511627776)];simp only[hwr]
  ·refine hH.zn hj (fun n hn hne=>?_) (by simp) rfl rfl ?_ (fun n hn=>.inl hn) fun n hn=>?_
   ·simp only;rw[List.getElem?_set_ne (fun e=>hne (by simp only[bh.aD,D.ref];omega))]
   ·have h9:=fF.win (st:=⟨st.bs.set k (.mem aq true (c.take off++eG (srt m)++c.drop (off+(eG (srt m)).length))),st.flr,st.ro⟩) (s:=2) k aq off (((srt m).map fun x=>((x.lo,x.hi):Rg)).map av) (c.take off++eG (srt m)++c.drop (off+(eG (srt m)).length))
     (by simp only;rw[List.getElem?_set_self hk.2]) (by simp only[List.length_append,List.length_take,List.length_map,List.length_drop,yP];omega) ?_ (nv _)
    ·simp only[List.length_map,hlen] at h9;rw[rN];exact h9
    ·have Nc:(c.take off).length=off:=by simp;omega
     rw[List.append_assoc,List.drop_left' Nc,←yY,List.take_left' (by simp only[List.length_map,hlen];omega)]
   ·simp only[bh.aD,D.ref] at hn;simp only[List.length_set];omega
theorem qw (l:List Rg):(l.foldl df []).length≤l.length:=by
 have key:∀(l acc:List Rg),(l.foldl df acc).length≤acc.length+l.length:=by
  intro l
  induction l with
  |nil=>intro acc;simp
  |cons x l ih=>
   intro acc;simp only[List.foldl_cons,List.length_cons];have:=ih (df acc x)
   have h2:(df acc x).length≤acc.length+1:=by
    unfold df;split
    ·simp
    ·split<;>simp
   omega
 have:=key l []
 simpa using this
theorem FR {l:List Rg} (h:∀x∈l,0≤x.2∧x.2≤1114111):∀x∈l.foldl df [],0≤x.2∧x.2≤1114111:=by
 have key:∀(l acc:List Rg),(∀x∈l,0≤x.2∧x.2≤1114111)→(∀x∈acc,0≤x.2∧x.2≤1114111)→∀x∈l.foldl df acc,0≤x.2∧x.2≤1114111:=by
  intro l
  induction l with
  |nil=>intro acc _ h x hx;exact h x hx
  |cons y l ih=>
   intro acc h1 h2;refine ih _ (fun x hx=>h1 x (List.mem_cons_of_mem _ hx)) fun x hx=>?_;have hy:=h1 y (List.mem_cons_self ..);unfold df at hx
   split at hx
   ·simp only[List.mem_cons,List.not_mem_nil,or_false] at hx;rw[hx];exact hy
   ·rename_i k rest;have hk:=h2 k (List.mem_cons_self ..)
    split at hx
    ·rcases List.mem_cons.1 hx with rfl|hx
     ·simp only;omega
     ·exact h2 x (List.mem_cons_of_mem _ hx)
    ·rcases List.mem_cons.1 hx with rfl|hx
     ·exact hy
     ·exact h2 x hx
 exact key l [] h (fun x hx=>by cases hx)
theorem Dn (h:Rg) (t:List Rg):((h::t).reverse.map av)[t.length]?=some (av h):=by
 rw[List.getElem?_map,List.reverse_cons,List.getElem?_append_right (by simp)];simp
theorem Dm (h h':Rg) (t:List Rg):((h::t).reverse.map av).set t.length (av h')=(h'::t).reverse.map av:=by
 rw[List.reverse_cons,List.map_append,List.set_append_right _ _ (by simp)];simp
theorem uj {s0:St} {x:D} {l:List Rg} (hx:V.Rows s0 2 x (l.map av)) (hl:l.length≤268435456):∃d,Ev pv 81 [x] s0 d s0∧∃all:List Rg,d=aL (all.foldl df []).reverse∧all.Perm (l.flatMap dB)∧all.Pairwise fun a b=>a.1≤b.1:=by
 refine Ev.Bd rfl Ot rfl rfl rfl ?_;refine zE ?_;obtain⟨aW,hF,hH⟩:=ri s0;generalize ai .ro s0=S at*;have hx:=Arg.of hx aW;have iU:=iF l
 have hfi:∀i,((l.take i).flatMap dB).length≤2*l.length:=fun i=>by
  have:=iF (l.take i);simp only[List.length_take] at this;omega
 refine zQ 13 ?_;refine qn ?_;simp only[List.length_map];refine zQ 2 ?_;have hH:=hH.dU 2;refine zQ 1 ?_;refine ag.loop (fun mm fr st=>∃(i:Nat) (y:D),fr.clean=⟨26,[x,aM fr 1,aM fr 2,y,.nul,aM fr 5,aM fr 6,aM fr 7,aM fr 8,aM fr 9,x,.int .i64 (l.length:Nat),.int .i64 (i:Nat),aM fr 13,aM fr 14,aM fr 15,aM fr 16,aM fr 17,aM fr 18,aM fr 19,aM fr 20,aM fr 21,aM fr 22,aM fr 23,aM fr 24,aM fr 25],[]⟩∧Has s0.bs.length S st [.aD y 2 (((l.take i).flatMap dB).map av)]∧(i+mm=l.length)∧((l.take i).flatMap dB=[]→y=.nul)) (l.length) ?_ ?_
 ·exact⟨0,.nul,rfl,hH,by omega,fun _=>rfl⟩
 rintro mm fr st ⟨i,y,hfr,hH,hi,H4⟩;rw[hfr];clear hfr;generalize aM fr=ee;clear fr;refine zQ 4 ?_;have hm:=hfi i;refine qq<|zP (fun h1=>?_) fun h1=>?_
 ·refine zQ 1 ?_
  obtain⟨q,hq⟩:∃q,l[i]?=some q:=⟨l[i]'(by omega),List.getElem?_eq_getElem _⟩
  have hr:=gT hq
  have Ad:(l.take (i+1)).flatMap dB=(l.take i).flatMap dB++dB q:=by
   rw[List.take_add_one,hq];simp
  have Qa:=pD q;refine zQ 4 ?_;refine qr fun P1 J'=>?_;refine ae.cJ rfl (ev rfl) (by assumption) rfl (by dsimp only[Fr.put,u1,u2]<;>rfl) ?_;refine qa hH fun k6 st I9 hH=>?_;refine qS hH aG fun st hH=>?_;dsimp only[u2,u1,u3,u4,setMany,u5,u6,D.cells,Nat.reduceAdd,av] at hH;refine zQ 3 ?_;refine ae.aO (m:=2) hH rfl (ev rfl) (by exact aG) (by dsimp only[List.drop_succ_cons,List.drop_zero,List.take_succ_cons,List.take_zero,av]<;>rfl) rfl rfl (by dsimp only[Fr.put,u1,u2]<;>rfl) ?_;refine qv (CD q) ?_;refine ae.D7 hH rfl rfl rfl (by exact aV) (b_ _ _) rfl rfl rfl rfl rfl rfl rfl ⟨(Nat.le_of_ble_eq_true rfl),(Nat.le_of_ble_eq_true rfl)⟩ (fun _=>by dsimp only[Fr.put,u1,u2]<;>rfl) (by simp only[List.length_map];omega) (.inl hF) (fun Lm st Kh hH=>?_);dsimp only[u2,u1] at hH;refine zQ 6 ?_;exact⟨mm-1,by omega,⟨i+1,Lm,rfl,(by rw[Ad,List.map_append];exact hH.drop 1),by omega,by rw[Ad];intro h;obtain⟨h3,h4⟩:=List.append_eq_nil_iff.1 h;rw[Kh (by rw[h4];rfl)];exact H4 h3⟩⟩
 ·refine zQ 1 ?_;have hT:l.take i=l:=List.take_of_length_le (by omega);rw[hT] at hH H4 hm
  obtain⟨st2,all,aF,s8,hperm,lx⟩:=D5 hH aG H4 (by omega) (fun z hz=>by
   obtain⟨w,_,hw⟩:=List.mem_flatMap.1 hz
   exact AR w z hw)
  have hlen:=hperm.length_eq
  have hbd:∀z∈all,0≤z.2∧z.2≤1114111:=fun z hz=>by
   obtain⟨w,_,hw⟩:=List.mem_flatMap.1 (hperm.mem_iff.1 hz);have:=np w z hw;omega
  refine zQ 3 ?_;refine qv (aF) ?_;refine zQ 1 ?_;have hH:=s8;dsimp only[u2] at hH;clear s8 aF;have hR:=hH.rows aG;have hH:=hH.dU 2;refine zQ 4 ?_;refine qn ?_ (hR:=hH.rows aV);simp only[List.length_map];refine zQ 3 ?_;refine ag.loop (fun mm fr st=>∃(i:Nat) (z:D),fr.clean=⟨26,[x,aM fr 1,aM fr 2,y,z,aM fr 5,aM fr 6,aM fr 7,aM fr 8,aM fr 9,aM fr 10,aM fr 11,aM fr 12,aM fr 13,aM fr 14,aM fr 15,aM fr 16,aM fr 17,aM fr 18,aM fr 19,aM fr 20,aM fr 21,aM fr 22,y,.int .i64 (all.length:Nat),.int .i64 (i:Nat)],[]⟩∧Has s0.bs.length S st [.aD z 2 (((all.take i).foldl df []).reverse.map av),.aD y 2 (all.map av)]∧(i+mm=all.length)) (all.length) ?_ ?_
  ·exact⟨0,.nul,rfl,hH,by omega⟩
  rintro mm fr st ⟨i,z,hfr,hH,hi⟩;rw[hfr];clear hfr;generalize aM fr=ee;clear fr;refine zQ 4 ?_
  have hjl:((all.take i).foldl df []).length≤all.length:=by
   have:=qw (all.take i);simp only[List.length_take] at this;omega
  refine qq<|zP (fun h1=>?_) fun h1=>?_
  ·refine zQ 1 ?_
   obtain⟨q,hq⟩:∃q,all[i]?=some q:=⟨all[i]'(by omega),List.getElem?_eq_getElem _⟩
   have hr:=gT hq
   have ND:(all.take (i+1)).foldl df []=df ((all.take i).foldl df []) q:=by
    rw[List.take_add_one,hq,List.foldl_append];rfl
   generalize Gc:(all.take i).foldl df []=acc at*;refine zQ 4 ?_;refine qi hH aV fun PU J4=>?_;refine ae.tW hH rfl (ev rfl) (by assumption) (by exact aV) (by assumption) rfl (aa rfl _) ?_;refine qa hH fun k8 st Qm hH=>?_;refine qS hH aG fun st hH=>?_;dsimp only[u2,u1,u3,u4,setMany,u5,u6,D.cells,Nat.reduceAdd,av] at hH;refine zQ 1 ?_
   rcases acc with _|⟨h,t⟩
   ·refine zQ 3 ?_;refine qn ?_ (hR:=hH.rows aV);simp only[List.length_map,List.length_nil,List.length_reverse];refine ae.kQ (z:=(-1)) rfl (ev rfl) (ev rfl) (by(try simp only[List.length_reverse,List.length_cons,List.length_nil,List.length_append,List.length_map,List.length_set]);rw[wrap_i64 (by omega) (by omega)]<;>omega) (aa rfl _) ?_;refine zQ 2 ?_;have bH:decide ((-1:Int)≥0)=false:=by decide
    refine qq<|ag.mJ 44 (.bool false) [] ?_ (fun ff tmp fg=>?_)
    ·refine zQ 13 ?_;refine ae.nil (dn ?_ ?_)
     ·dsimp only[bd,List.foldl,nth,u2,u1]
      all_goals(first|rfl|simp)
     ·dsimp only[Fr.fT,Fr.put,Fr.clean,Fr.ev,Fr.get,nth,look,u1,u2,v1,v2,v4]
      all_goals(first|rfl|(simp[bH];done)|(simp_all;done)|(simp[bH];omega)|(simp_all;omega))
    dsimp only[bd,List.foldl,nth,u2,u1];dsimp only[Fr.fT,Fr.put,Fr.clean,Fr.ev,Fr.get,nth,look,u1,u2,v1,v2,v4];refine zQ 3 ?_;refine ae.aO (m:=2) hH rfl (ev rfl) (by exact aG) (by dsimp only[List.drop_succ_cons,List.drop_zero,List.take_succ_cons,List.take_zero,av]<;>rfl) rfl rfl (aa rfl _) ?_;refine qh (s:=2) (vs:=[_]) hH fun k59 st Nv hH=>?_;refine ae.dh (s:=2) hH rfl (ev rfl) (ev rfl) (by exact b8) (by exact hH.rows (by exact aG)) rfl rfl rfl rfl rfl rfl rfl ⟨(Nat.le_of_ble_eq_true rfl),(Nat.le_of_ble_eq_true rfl)⟩ (fun _=>(aa rfl _)) (by simp only[List.length_cons,List.length_nil,List.length_map,List.length_reverse]<;>omega) (by exact .inl hF) (fun LP st hH=>?_);dsimp only[u2,u1,u3,u4,setMany,u5,u6,D.cells,Nat.reduceAdd,av] at hH;refine zQ 6 ?_;exact⟨mm-1,by omega,⟨i+1,LP,rfl,(by rw[ND];exact hH.drop 2),by omega⟩⟩
   ·simp only[List.length_cons] at hjl;refine zQ 3 ?_;refine qn ?_ (hR:=hH.rows aV);simp only[List.length_map,List.length_cons,List.length_reverse];refine ae.kQ (z:=((t.length:Nat):Int)) rfl (ev rfl) (ev rfl) (by(try simp only[List.length_reverse,List.length_cons,List.length_nil,List.length_append,List.length_map,List.length_set]);rw[wrap_i64 (by omega) (by omega)]<;>omega) (aa rfl _) ?_;refine zQ 2 ?_;have Af:=Dn h t;have fh:=Dm h (h.1,max h.2 q.2) t;have Bx:=FR (l:=all.take i) (fun x hx=>hbd x (List.mem_of_mem_take hx)) h (by rw[Gc];exact List.mem_cons_self ..);have bH:decide (((t.length:Nat):Int)≥0)=true:=by rw[decide_eq_true];omega
    refine qq<|ag.mJ 44 (.bool (decide (q.1≤h.2+1))) [] ?_ (fun ff tmp fg=>?_)
    ·refine zQ 7 ?_;refine qi hH aV (fun Rb M4=>?_) (hg:=wi bH);refine ae.cX (fo:=1) (m:=0) (o2:=1) (aj rfl rfl rfl bH) (ev rfl) (by assumption) rfl rfl rfl (fun _=>(aa rfl _)) (fun Ra M3=>?_);refine zQ 1 ?_;refine ae.IV (aj rfl rfl rfl bH) (ev rfl) (ev rfl) (by omega) (by omega) (aa rfl _) ?_;refine zQ 2 ?_;refine ae.nil (dn ?_ ?_)
     ·dsimp only[bd,List.foldl,nth,u2,u1]
      all_goals(first|rfl|simp)
     ·dsimp only[Fr.fT,Fr.put,Fr.clean,Fr.ev,Fr.get,nth,look,u1,u2,v1,v2,v4]
      all_goals(first|rfl|(simp[bH];done)|(simp_all;done)|(simp[bH];omega)|(simp_all;omega))
    dsimp only[bd,List.foldl,nth,u2,u1];dsimp only[Fr.fT,Fr.put,Fr.clean,Fr.ev,Fr.get,nth,look,u1,u2,v1,v2,v4];refine ag.cond (by assumption) (fun h2=>?_) (fun h2=>?_)<;>try simp only[decide_eq_true_eq,decide_eq_false_iff_not] at h2
    ·refine zQ 5 ?_;refine qi hH aV fun L_ HV=>?_;refine ae.cX (fo:=1) (m:=0) (o2:=1) rfl (ev rfl) (by assumption) rfl rfl rfl (fun _=>(aa rfl _)) (fun Q7 MX=>?_);refine zQ 3 ?_;refine ae.Hz (t1:=0) (t2:=0) rfl (ev rfl) (ev rfl) (aa rfl _) ?_;refine qi hH aV fun Uf Se=>?_;refine ae.cX (fo:=1) (m:=0) (o2:=1) rfl (ev rfl) (by assumption) rfl rfl rfl (fun _=>(aa rfl _)) (fun Ue Sd=>?_);refine ae.pJ hH rfl (ev rfl) (ev rfl) (by assumption) rfl rfl (by exact aV) (by assumption) (Nat.le_of_ble_eq_true rfl) (by exact .inl hF) (fun st hH=>?_);dsimp only[u2,u1,u3,u4,setMany,u5,u6,D.cells,Nat.reduceAdd,av] at hH;refine zQ 5 ?_;exact⟨mm-1,by omega,⟨i+1,z,rfl,(by rw[ND];simp only[df,if_pos h2];rw[←fh];exact hH.drop 1),by omega⟩⟩
    ·refine zQ 2 ?_;refine ae.aO (m:=2) hH rfl (ev rfl) (by exact aG) (by dsimp only[List.drop_succ_cons,List.drop_zero,List.take_succ_cons,List.take_zero,av]<;>rfl) rfl rfl (aa rfl _) ?_;refine qh (s:=2) (vs:=[_]) hH fun k59 st Nv hH=>?_;refine ae.dh (s:=2) hH rfl (ev rfl) (ev rfl) (by exact b8) (by exact hH.rows (by exact aG)) rfl rfl rfl rfl rfl rfl rfl ⟨(Nat.le_of_ble_eq_true rfl),(Nat.le_of_ble_eq_true rfl)⟩ (fun _=>(aa rfl _)) (by simp only[List.length_cons,List.length_nil,List.length_map,List.length_reverse]<;>omega) (by exact .inl hF) (fun LP st hH=>?_);dsimp only[u2,u1,u3,u4,setMany,u5,u6,D.cells,Nat.reduceAdd,av] at hH;refine zQ 6 ?_;exact⟨mm-1,by omega,⟨i+1,LP,rfl,(by rw[ND];simp only[df,if_neg h2];rw[List.reverse_cons (a:=q),List.map_append];exact hH.drop 2),by omega⟩⟩
  ·refine zQ 6 ?_;rw[List.take_of_length_le (by omega)] at hH;refine ag.ret ⟨rx,_,_,rfl,rl aW hH ((hH.freeze aG (dX _) (n:=15) (by decide))),?_⟩;exact⟨all,by rw[fS],hperm,lx⟩
end Go.Proofs.YtpcicphadikioaaGreat
namespace Go.Proofs.YtpcicphadikioaaGreat
open Go.V Go
end Go.Proofs.YtpcicphadikioaaGreat
namespace Go.Proofs.YtpcicphadikioaaGreat
open Go.V Go
def iN (fr:Go.V.Fr) (k:Nat):Go.V.D:=Go.V.nth .aY fr.loc k
def e_ (l a:List Rg):Prop:=canon a∧∀r,fu a r↔lK r∧fu l r
theorem e_.unique {l a b:List Rg} (h:e_ l a) (g:e_ l b):a=b:=mR h.1 g.1 fun r=>(h.2 r).trans (g.2 r).symm
noncomputable def nu (l:List Rg):Bool:=@decide (e_ l l) (Classical.propDecidable _)
theorem AV {l a:List Rg} (h:e_ l a):nu l=decide (l=a):=by
 unfold nu
 by_cases hl:l=a
 ·rw[decide_eq_true hl];exact@decide_eq_true _ (Classical.propDecidable _) (by rw[hl] at h⊢;exact h)
 ·rw[decide_eq_false hl];exact@decide_eq_false _ (Classical.propDecidable _) (fun g=>hl (g.unique h))
theorem Ba (p q:Rg):kY pv .neq 176 (.agg (av p)) (.agg (av q))=some (.bool (!decide (p=q))):=by
 have h:∀a b a' b':Int,kY pv .neq 176 (.agg [.int .i32 a,.int .i32 b]) (.agg [.int .i32 a',.int .i32 b'])=Option.map (fun b=>D.bool !b) (match some (a==a') with|some true=>(match some (b==b') with|some true=>some true|some false=>some false|none=>none)|some false=>some false|none=>none):=fun _ _ _ _=>rfl;obtain⟨a,b⟩:=p;obtain⟨a',b'⟩:=q;simp only[av,h]
 by_cases h1:a=a'
 ·subst h1
  by_cases h2:b=b'
  ·subst h2;simp
  ·have:(b==b')=false:=by simpa using h2
   simp[this,h2]
 ·have:(a==a')=false:=by simpa using h1
  simp[this,h1]
theorem tI {α:Type} {a b:List α} {i:Nat} {x y:α} (ha:a[i]?=some x) (hb:b[i]?=some y) (h:a.take i=b.take i) (JU:x=y):a.take (i+1)=b.take (i+1):=by
 rw[List.take_add_one,List.take_add_one,h,ha,hb,JU]
theorem Bb {α:Type} {a b:List α} {i:Nat} {x y:α} (ha:a[i]?=some x) (hb:b[i]?=some y) (JU:¬x=y):¬a=b:=by
 intro h;subst h;rw[ha] at hb;exact JU (Option.some.inj hb)
theorem xf {s0:St} {x y:D} {l m:List Rg} (hx:V.Rows s0 2 x (l.map av)) (hy:V.Rows s0 2 y (m.map av)) (hl:l.length≤1073741824) (hm:m.length≤1073741824):Ev pv 96 [x,y] s0 (.bool (decide (l=m))) s0:=by
 refine Ev.jL rfl Od rfl rfl rfl ?_;refine zE ?_;obtain⟨aW,hF,hH⟩:=ri s0;generalize ai .ro s0=S at*;have hx:=Arg.of hx aW;have hy:=Arg.of hy aW;refine zQ 8 ?_;refine qn ?_;simp only[List.length_map];refine qm ?_;refine qn ?_;simp only[List.length_map];refine zQ 2 ?_
 by_cases hlen:l.length=m.length
 ·refine ag.cond (v:=false) ?_ (fun h=>by cases h) (fun _=>?_)
  ·dsimp only[Fr.ev,Fr.get,nth,V.look];rw[hlen];simp
  refine zQ 5 ?_;refine qn ?_;simp only[List.length_map];refine zQ 3 ?_;refine ag.loop (fun mm fr st=>∃(i:Nat),fr.clean=⟨14,[x,y,iN fr 2,iN fr 3,.bool false,iN fr 5,iN fr 6,iN fr 7,iN fr 8,iN fr 9,iN fr 10,iN fr 11,.int .i64 (l.length:Nat),.int .i64 (i:Nat)],[]⟩∧Has s0.bs.length S st []∧(i+mm=l.length)∧(l.take i=m.take i)) (l.length) ?_ ?_
  ·exact⟨0,rfl,hH,by omega,rfl⟩
  rintro mm fr st ⟨i,hfr,hH,hi,ht⟩;rw[hfr];clear hfr;generalize iN fr=ee;clear fr;refine zQ 5 ?_;refine zP (fun h1=>?_) fun h1=>?_
  ·refine zQ 1 ?_
   obtain⟨p,hp⟩:∃p,l[i]?=some p:=⟨l[i]'(by omega),List.getElem?_eq_getElem _⟩
   obtain⟨q,hq⟩:∃q,m[i]?=some q:=⟨m[i]'(by omega),List.getElem?_eq_getElem _⟩
   have gJ:=gT hp;have m_:=gT hq;refine zQ 11 ?_;refine qr fun PY J8=>?_;refine ae.cJ rfl (ev rfl) (by assumption) rfl (aa rfl _) ?_;refine zQ 2 ?_;refine qr fun PW J6=>?_;refine ae.cJ rfl (ev rfl) (by assumption) rfl (aa rfl _) ?_;refine ae.P2 rfl (ev rfl) (ev rfl) (Ba p q) (aa rfl _) ?_;refine zQ 1 ?_;refine ag.cond (by rfl) (fun h2=>?_) (fun h2=>?_)<;>try simp only[decide_eq_true_eq,decide_eq_false_iff_not,Bool.not_eq_true',Bool.not_eq_false'] at h2
   ·refine zQ 4 ?_;rw[decide_eq_false (Bb hp hq (by simpa using h2))];refine ag.ret ⟨rx,_,rfl,rl aW hH (rfl)⟩
   ·refine zQ 5 ?_;exact⟨mm-1,by omega,⟨i+1,rfl,hH,by omega,tI hp hq ht (by simpa using h2)⟩⟩
  ·refine zQ 5 ?_;rw[decide_eq_true (by rw[List.take_of_length_le (by omega),List.take_of_length_le (by omega)] at ht;exact ht)];refine ag.ret ⟨rx,_,rfl,rl aW hH (rfl)⟩
 ·refine ag.cond (v:=true) ?_ (fun _=>?_) (fun h=>by cases h)
  ·dsimp only[Fr.ev,Fr.get,nth,V.look];simp;omega
  refine zQ 4 ?_;rw[decide_eq_false (fun h=>hlen (by rw[h]))];refine ag.ret ⟨rx,_,rfl,rl aW hH (rfl)⟩
theorem CI {s0:St} {x:D} {l:List Rg} (hx:V.Rows s0 2 x (l.map av)) (hl:l.length≤1048576):Ev pv 79 [x] s0 (.bool (nu l)) s0:=by
 refine Ev.jL rfl Ov rfl rfl rfl ?_;refine zE ?_;obtain⟨aW,hF,hH⟩:=ri s0;generalize ai .ro s0=S at*;have hx:=Arg.of hx aW;refine zQ 4 ?_;obtain⟨_,aF,all,rfl,hperm,lx⟩:=uj (hx.rows hH) (by omega);have hM:e_ l (all.foldl df []).reverse:=lG (fun x=>hperm.mem_iff) lx;have hlen:=hperm.length_eq;have iU:=iF l;have hjl:=qw all;rw[AV hM];refine zQ 4 ?_;refine qv (aF) ?_;refine qv (xf (hx.rows hH) (b_ _ _) (by omega) (by rw[List.length_reverse];omega)) ?_;refine zQ 2 ?_;refine ag.ret ⟨rx,_,rfl,rl aW hH (rfl)⟩
end Go.Proofs.YtpcicphadikioaaGreat
namespace Go.Proofs.YtpcicphadikioaaGreat
open Go.V Go
structure aT where
 op:Int
 x:Int
 y:Int
 rd:D
 rs:List Rg
def bS (i:aT):List D:=[.int .i64 i.op,.int .i64 i.x,.int .i64 i.y,i.rd]
def aT.ok (i:aT):Prop:=eZ i.rd 2 (i.rs.map av)∧i.rs.length≤1048576
def az (n:Int):List D:=[.int .i64 n]
structure Pg where
 cd:D
 code:List aT
 sd:D
 bp:List Int
structure Pg.ok (p:Pg):Prop where
 c:eZ p.cd 4 (p.code.map bS)
 s:eZ p.sd 1 (p.bp.map az)
 i:∀x∈p.code,x.ok
 cl:p.code.length≤1048576
 sl:p.bp.length≤1048576
def Pg.cs (p:Pg):List D:=[p.cd,p.sd]
def Pg.d (p:Pg):D:=.agg p.cs
theorem uw {l:List aT} {i:Nat} {q:aT} (h:l[i]?=some q):(l.map bS)[i]?=some (bS q):=by rw[List.getElem?_map,h];rfl
theorem iA {l:List Int} {i:Nat} {q:Int} (h:l[i]?=some q):(l.map az)[i]?=some (az q):=by rw[List.getElem?_map,h];rfl
def FV (v n:Int):Bool:=decide (v≥0) &&decide (v<n)
noncomputable def o3 (n ns pc:Nat) (i:aT):Bool:=
 if i.op=1 then i.y==0 &&(decide (((pc+1:Nat):Int)<n) &&i.x==0 &&nu i.rs)
 else i.rs.isEmpty &&
  (if i.op=2 then FV i.x n &&FV i.y n
  else i.y==0 &&
   (if i.op=3 then FV i.x n
   else if i.op=4 then decide (((pc+1:Nat):Int)<n) &&FV i.x 10
   else if i.op=5∨i.op=6 then decide (((pc+1:Nat):Int)<n) &&i.x==0
   else if i.op=7 then FV i.x ns
   else false))
end Go.Proofs.YtpcicphadikioaaGreat
namespace Go.Proofs.YtpcicphadikioaaGreat
open Go.V Go
structure dR where
 i:Nat
 o:Nat
 g:Nat
 e:Int
 w:Int
def aK (gs:List (Nat×Nat)) (bm:D) (s:dR):List D:=[gv gs,bm,.int .i64 (s.i:Nat),.int .i64 (s.o:Nat),.int .i64 (s.g:Nat),.int .i64 s.e,.int .i64 s.w]
def dG (gs:List (Nat×Nat)) (i:Nat) (r:Int):Bool:=match gs[i]? with
 |some g=>((g.1:Nat):Int)==r
 |none=>false
theorem qz {gs:List (Nat×Nat)} {i:Nat} {r:Int} (h:dG gs i r=true):i<gs.length:=by
 unfold dG at h
 split at h
 ·exact cQ (by assumption)
 ·cases h
def bF (gs:List (Nat×Nat)) (s:dR) (r:Int):dR:=if dG gs s.i r=true then{s with i:=s.i+1} else s
def B1 (gs:List (Nat×Nat)) (i:Nat):Bool:=match gs[i]? with
 |some g=>((g.1:Nat):Int)==65533 &&((g.2:Nat):Int)==1
 |none=>false
def iI (aQ:List Int) (s:dR) (i:Nat) (e:Int):dR:=if s.e=0 then{s with e:=e,w:=aQ.getD i 0} else s
theorem ox {N k:Nat} {S s0:St} {H:List bh} {gs:List (Nat×Nat)} {bm:D} {s:dR} (rM:gs.length≤1048576) (r:Int) (hH:Has N S s0 (.box k (.mem 0 false (aK gs bm s))::H)):
  ∃d ah,Ev pv 58 [.ptr k 0 0,.int .i32 r] s0 d ah∧d=.bool (dG gs s.i r)∧Has N S ah (.box k (.mem 0 false (aK gs bm s))::H):=by
 refine Ev.kT rfl OL rfl rfl rfl ?_;refine zE ?_;have cm:=hH;have hH:=hH.cq;have b9:(ai .rw s0).bs=s0.bs:=rfl;generalize ai .rw s0=S2 at*;have xH:Arg N S2 2 (gv gs) (gs.map ba):=Arg.pure (fun st=>ej st gs);refine zQ 4 ?_
 by_cases ha:s.i<gs.length
 ·obtain⟨g,hg⟩:∃g,gs[s.i]?=some g:=⟨gs[s.i]'ha,List.getElem?_eq_getElem _⟩
  have gJ:(gs.map ba)[s.i]?=some (ba g):=by rw[List.getElem?_map,hg];rfl
  have gQ:decide ((s.i:Int)<(gs.length:Nat))=true:=by rw[decide_eq_true];simp;omega
  have hv:dG gs s.i r=(((g.1:Nat):Int)==r):=by unfold dG;rw[hg]
  refine qq<|ag.rR 4 (.bool (((g.1:Nat):Int)==r)) [] ?_ (fun ff tmp=>?_)
  ·refine zQ 8 ?_;refine qn ?_;simp only[List.length_map];refine zQ 10 ?_;refine qr (fun Jy DH=>?_) (hg:=wi gQ);refine qf (fo:=0) (fun L' HW=>?_) (hg:=wi gQ);refine zQ 5 ?_;refine ae.nil (aI ?_);dsimp only[bd,List.foldl,nth,u2,u1];dsimp only[Fr.fT,Fr.put,Fr.clean,Fr.ev,Fr.get,nth,look,u1,u2,v1,v2,v4]
   all_goals(first|rfl|(simp[gQ];done)|(simp_all;done)|(simp[gQ];omega)|(simp_all;omega))
  dsimp only[bd,List.foldl,nth,u2,u1];refine ag.ret ⟨rx,_,_,_,rfl,ak (rfl),?_⟩;exact⟨by rw[hv];rfl,cm.ax b9 hH⟩
 ·have gQ:decide ((s.i:Int)<(gs.length:Nat))=false:=by rw[decide_eq_false];simp;omega
  have hv:dG gs s.i r=false:=by
   cases h:dG gs s.i r with
   |true=>exact absurd (qz h) ha
   |false=>rfl
  refine qq<|ag.rR 4 (.bool false) [] ?_ (fun ff tmp=>?_)
  ·refine zQ 8 ?_;refine qn ?_;simp only[List.length_map];refine zQ 17 ?_;refine ae.nil (aI ?_);dsimp only[bd,List.foldl,nth,u2,u1];dsimp only[Fr.fT,Fr.put,Fr.clean,Fr.ev,Fr.get,nth,look,u1,u2,v1,v2,v4]
   all_goals(first|rfl|(simp[gQ];done)|(simp_all;done)|(simp[gQ];omega)|(simp_all;omega))
  dsimp only[bd,List.foldl,nth,u2,u1];refine ag.ret ⟨rx,_,_,_,rfl,ak (rfl),?_⟩;exact⟨by rw[hv];rfl,cm.ax b9 hH⟩
theorem dP {N k:Nat} {S s0:St} {H:List bh} {gs:List (Nat×Nat)} {bm:D} {s:dR} (rM:gs.length≤1048576) (r:Int) (hH:Has N S s0 (.box k (.mem 0 false (aK gs bm s))::H)):
  ∃d ah,Ev pv 45 [.ptr k 0 0,.int .i32 r] s0 d ah∧d=.bool (dG gs s.i r)∧Has N S ah (.box k (.mem 0 false (aK gs bm (bF gs s r)))::H):=by
 refine Ev.kT rfl OT rfl rfl rfl ?_;refine zE ?_;have cm:=hH;have hH:=hH.cq;have b9:(ai .rw s0).bs=s0.bs:=rfl;generalize ai .rw s0=S2 at*;refine zQ 9 ?_;obtain⟨_,st,aF,rfl,hH⟩:=ox rM r hH;refine qv aF ?_;refine zQ 1 ?_;unfold bF
 cases hb:dG gs s.i r with
 |true=>
  have hlt:=qz hb;dsimp only[aK] at hH;rw[if_pos rfl];refine zQ 10 ?_;refine qT hH aG fun st hH=>?_;dsimp only[u2,u1,u3,u4,setMany,u5,u6,D.cells,Nat.reduceAdd,aK,ba,az] at hH;refine zQ 5 ?_;refine ag.ret ⟨rx,_,_,_,rfl,ak (rfl),?_⟩;exact⟨rfl,cm.ax b9 hH⟩
 |false=>
  rw[if_neg (by simp)];refine zQ 6 ?_;refine ag.ret ⟨rx,_,_,_,rfl,ak (rfl),?_⟩;exact⟨rfl,cm.ax b9 hH⟩
theorem zb {N k:Nat} {S s0:St} {H:List bh} {gs:List (Nat×Nat)} {bm:D} {s:dR} (i:Nat) (hi:i<gs.length) (hH:Has N S s0 (.box k (.mem 0 false (aK gs bm s))::H)):
  ∃d ah,Ev pv 87 [.ptr k 0 0,.int .i64 (i:Nat)] s0 d ah∧d=.bool (B1 gs i)∧Has N S ah (.box k (.mem 0 false (aK gs bm s))::H):=by
 refine Ev.kT rfl Om rfl rfl rfl ?_;refine zE ?_;have cm:=hH;have hH:=hH.cq;have b9:(ai .rw s0).bs=s0.bs:=rfl;generalize ai .rw s0=S2 at*;have xH:Arg N S2 2 (gv gs) (gs.map ba):=Arg.pure (fun st=>ej st gs);refine zQ 4 ?_
 obtain⟨g,hg⟩:∃g,gs[i]?=some g:=⟨gs[i]'hi,List.getElem?_eq_getElem _⟩
 have gJ:(gs.map ba)[i]?=some (ba g):=by rw[List.getElem?_map,hg];rfl
 have hv:B1 gs i=(((g.1:Nat):Int)==65533 &&((g.2:Nat):Int)==1):=by unfold B1;rw[hg]
 refine qq<|ag.rR 4 (.bool (((g.1:Nat):Int)==65533 &&((g.2:Nat):Int)==1)) [] ?_ (fun ff tmp=>?_)
 ·refine zQ 5 ?_;refine qr fun Rk Na=>?_;refine qf (fo:=0) fun Rj M_=>?_;refine zQ 3 ?_;refine ae.two 14 rfl (fun dt=>?_) (fun dt=>?_)
  ·refine zQ 5 ?_;refine qr (fun Jz DJ=>?_) (hg:=wi dt);refine qf (fo:=1) (fun PX J7=>?_) (hg:=wi dt);refine zQ 4 ?_;refine ae.nil (aI ?_);refine zG ?_
   all_goals(simp[dt];done)
  ·refine zQ 11 ?_;refine ae.nil (aI ?_);refine zG ?_
   all_goals(simp[dt];done)
 dsimp only[bd,List.foldl,nth,u2,u1];refine ag.ret ⟨rx,_,_,_,rfl,ak (rfl),?_⟩;exact⟨by rw[hv];rfl,cm.ax b9 hH⟩
theorem dW {N k:Nat} {S s0:St} {H:List bh} {gs:List (Nat×Nat)} {bm:D} {aQ:List Int} {s:dR} (i:Nat) (e:Int) (hi:i<aQ.length) (hH:Has N S s0 (.box k (.mem 0 false (aK gs bm s))::.aD bm 1 (aQ.map az)::H)):
  ∃d ah,Ev pv 27 [.ptr k 0 0,.int .i64 (i:Nat),.int .i64 e] s0 d ah∧d=.sl []∧Has N S ah (.box k (.mem 0 false (aK gs bm (iI aQ s i e)))::.aD bm 1 (aQ.map az)::H):=by
 refine Ev.kT rfl O6 rfl rfl rfl ?_;refine zE ?_;have cm:=hH;have hH:=hH.cq;have b9:(ai .rw s0).bs=s0.bs:=rfl;generalize ai .rw s0=S2 at*;refine zQ 4 ?_
 obtain⟨v,hv⟩:∃v,aQ[i]?=some v:=⟨aQ[i]'hi,List.getElem?_eq_getElem _⟩
 have gJ:=iA hv;unfold iI;refine zQ 9 ?_;refine zI (fun h0=>?_) fun h0=>?_
 ·rw[if_pos h0];have hgd:aQ.getD i 0=v:=by rw[List.getD_eq_getElem?_getD,hv];rfl
  refine zQ 9 ?_;refine qi hH aV fun Jz DJ=>?_;refine zQ 3 ?_;refine qT hH aG fun st hH=>?_;dsimp only[u2,u1,u3,u4,setMany,u5,u6,D.cells,Nat.reduceAdd,aK,ba,az] at hH;refine zQ 2 ?_;refine qT hH aG fun st hH=>?_;dsimp only[u2,u1,u3,u4,setMany,u5,u6,D.cells,Nat.reduceAdd,aK,ba,az] at hH;refine zQ 5 ?_;refine ag.ret ⟨rx,_,_,_,rfl,ak (rfl),?_⟩;exact⟨rfl,by rw[hgd];exact cm.ax b9 hH⟩
 ·rw[if_neg h0];refine zQ 5 ?_;refine ag.ret ⟨rx,_,_,_,rfl,ak (rfl),?_⟩;exact⟨rfl,cm.ax b9 hH⟩
end Go.Proofs.YtpcicphadikioaaGreat
namespace Go.Proofs.YtpcicphadikioaaGreat
open Go.V Go
noncomputable def bV (l:List Rg):List Rg:=@dite _ (∃a,e_ l a) (Classical.propDecidable _) (fun h=>Classical.choose h) (fun _=>[])
theorem wz {l a:List Rg} (h:e_ l a):bV l=a:=by
 have hx:∃a,e_ l a:=⟨a,h⟩
 unfold bV;rw[dif_pos hx];exact(Classical.choose_spec hx).unique h
theorem mo {s0:St} {x:D} {l:List Rg} (hx:V.Rows s0 2 x (l.map av)) (hl:l.length≤1048576):Ev pv 81 [x] s0 (aL (bV l)) s0∧(bV l).length≤2*l.length∧e_ l (bV l):=by
 obtain⟨_,aF,all,rfl,hperm,lx⟩:=uj hx (by omega);have hM:e_ l (all.foldl df []).reverse:=lG (fun x=>hperm.mem_iff) lx;have hlen:=hperm.length_eq;have iU:=iF l;have hjl:=qw all;rw[wz hM];exact⟨aF,by rw[List.length_reverse];omega,hM⟩
theorem fR (l:List Rg):eZ (aL l) 2 (l.map av):=by
 rw[←fS];refine eZ.frozen ?_ ?_
 ·intro e he;obtain⟨x,_,rfl⟩:=List.mem_map.1 he;rfl
 ·intro e he d hd;obtain⟨x,_,rfl⟩:=List.mem_map.1 he;simp only[av,List.mem_cons,List.not_mem_nil,or_false] at hd
  rcases hd with rfl|rfl<;>rfl
theorem ui {r:Int} {l a:List Rg} (h0:0≤r) (h1:r<55296) (hr:fu l r) (h:e_ l a):a≠[]:=by
 rintro rfl;have:=(h.2 r).2 ⟨by unfold lK;omega,hr⟩;obtain⟨x,hx,_⟩:=this;cases hx
theorem wx {r:Int} (h0:0≤r) (h1:r<55296) {a:List Rg} (h:e_ [(r,r)] a):a≠[]:=by
 rintro rfl;have:=(h.2 r).2 ⟨?_,?_⟩
 ·obtain⟨x,hx,_⟩:=this;cases hx
 ·unfold lK;omega
 ·exact⟨(r,r),List.mem_cons_self ..,by simp⟩
theorem iX {s0:St} (r:Int):Ev pv 92 [.int .i32 r] s0 (aL (bV [(r,r)])) s0:=by
 refine Ev.jL rfl Og rfl rfl rfl ?_;refine zE ?_;obtain⟨aW,hF,hH⟩:=ri s0;generalize ai .ro s0=S at*;refine zQ 8 ?_;refine ae.gE (qs:=[(0,_),(1,_)]) rfl rfl rfl rfl ⟨rfl,(ev rfl),(by rfl),rfl,(ev rfl),(by rfl),trivial⟩ (by intro q hq;simp only[List.mem_cons,List.not_mem_nil,or_false] at hq;rcases hq with rfl|rfl<;>exact⟨rfl,by exact Nat.le_of_ble_eq_true rfl⟩) (by show List.foldl _ [_,_] _=_;dsimp only[List.foldl_cons,List.foldl_nil,u2,u1]<;>rfl) (aa rfl _) ?_;refine qh (s:=2) (vs:=[_]) hH fun k6 st I9 hH=>?_;obtain⟨aF,hl,_⟩:=mo (l:=[(r,r)]) (hH.rows aG) (by simp);refine qv aF ?_;refine zQ 2 ?_;refine ag.ret ⟨rx,_,rfl,rl aW hH (rfl)⟩
theorem FN {s0:St} (r:Int):Ev pv 103 [.int .i32 r] s0 (.bool (decide (33≤r∧r≤47∨58≤r∧r≤64∨91≤r∧r≤96∨123≤r∧r≤126))) s0:=by
 refine Ev.jL rfl K8 rfl rfl rfl ?_;refine zE ?_;obtain⟨aW,hF,hH⟩:=ri s0;generalize ai .ro s0=S at*;refine zQ 5 ?_;refine ag.rR 2 (.bool (decide (33≤r∧r≤47∨58≤r∧r≤64∨91≤r∧r≤96∨123≤r∧r≤126))) [] ?_ (fun ff tmp=>?_)
 ·refine zQ 3 ?_;refine ae.two 5 rfl (fun bH=>?_) (fun bH=>?_)
  ·refine zQ 4 ?_;refine ae.two 9 rfl (fun iP=>?_) (fun iP=>?_)
   ·refine zQ 24 ?_;refine ae.nil (aI ?_);refine zG ?_
    all_goals(simp[bH,iP];done)
   ·refine zQ 3 ?_;refine ae.two 12 rfl (fun dt=>?_) (fun dt=>?_)
    ·refine zQ 2 ?_;refine ae.cF (aj rfl rfl rfl iP) rfl dt (aa rfl _) ?_;refine zQ 2 ?_;refine ae.two 17 rfl (fun da=>?_) (fun da=>?_)
     ·refine zQ 16 ?_;refine ae.nil (aI ?_);refine zG ?_
      all_goals(simp[bH,iP,dt,da];done)
     ·refine zQ 3 ?_;refine ae.two 20 rfl (fun aR=>?_) (fun aR=>?_)
      ·refine zQ 2 ?_;refine ae.cF (aj rfl rfl rfl da) rfl aR (aa rfl _) ?_;refine zQ 2 ?_;refine ae.two 25 rfl (fun bT=>?_) (fun bT=>?_)
       ·refine zQ 8 ?_;refine ae.nil (aI ?_);refine zG ?_
        all_goals(simp[bH,iP,dt,da,aR,bT];done)
       ·refine zQ 3 ?_;refine ae.two 28 rfl (fun cY=>?_) (fun cY=>?_)
        ·refine zQ 2 ?_;refine ae.cF (aj rfl rfl rfl bT) rfl cY (aa rfl _) ?_;refine zQ 2 ?_;refine ae.nil (aI ?_);refine zG ?_
         all_goals(simp[bH,iP,dt,da,aR,bT,cY];done)
        ·refine zQ 2 ?_;refine ae.cp (aj rfl rfl rfl bT) rfl cY (aa rfl _) ?_;refine zQ 2 ?_;refine ae.nil (aI ?_);refine zG ?_
         all_goals(simp[bH,iP,dt,da,aR,bT,cY];done)
      ·refine zQ 2 ?_;refine ae.cp (aj rfl rfl rfl da) rfl aR (aa rfl _) ?_;refine zQ 5 ?_;refine ae.two 28 rfl (fun cY=>?_) (fun cY=>?_)
       ·refine zQ 5 ?_;refine ae.nil (aI ?_);refine zG ?_
        all_goals(simp[bH,iP,dt,da,aR,cY];done)
       ·refine zQ 5 ?_;refine ae.nil (aI ?_);refine zG ?_
        all_goals(simp[bH,iP,dt,da,aR,cY];done)
    ·refine zQ 2 ?_;refine ae.cp (aj rfl rfl rfl iP) rfl dt (aa rfl _) ?_;refine zQ 5 ?_;refine ae.two 20 rfl (fun aR=>?_) (fun aR=>?_)
     ·refine zQ 5 ?_;refine ae.two 25 rfl (fun bT=>?_) (fun bT=>?_)
      ·refine zQ 8 ?_;refine ae.nil (aI ?_);refine zG ?_
       all_goals(simp[bH,iP,dt,aR,bT];done)
      ·refine zQ 3 ?_;refine ae.two 28 rfl (fun cY=>?_) (fun cY=>?_)
       ·refine zQ 2 ?_;refine ae.cF (aj rfl rfl rfl bT) rfl cY (aa rfl _) ?_;refine zQ 2 ?_;refine ae.nil (aI ?_);refine zG ?_
        all_goals(simp[bH,iP,dt,aR,bT,cY];done)
       ·refine zQ 2 ?_;refine ae.cp (aj rfl rfl rfl bT) rfl cY (aa rfl _) ?_;refine zQ 2 ?_;refine ae.nil (aI ?_);refine zG ?_
        all_goals(simp[bH,iP,dt,aR,bT,cY];done)
     ·refine zQ 8 ?_;refine ae.two 28 rfl (fun cY=>?_) (fun cY=>?_)
      ·refine zQ 5 ?_;refine ae.nil (aI ?_);refine zG ?_
       all_goals(simp[bH,iP,dt,aR,cY];done)
      ·refine zQ 5 ?_;refine ae.nil (aI ?_);refine zG ?_
       all_goals(simp[bH,iP,dt,aR,cY];done)
  ·refine zQ 7 ?_;refine ae.two 12 rfl (fun dt=>?_) (fun dt=>?_)
   ·refine zQ 5 ?_;refine ae.two 17 rfl (fun da=>?_) (fun da=>?_)
    ·refine zQ 16 ?_;refine ae.nil (aI ?_);refine zG ?_
     all_goals(simp[bH,dt,da];done)
    ·refine zQ 3 ?_;refine ae.two 20 rfl (fun aR=>?_) (fun aR=>?_)
     ·refine zQ 2 ?_;refine ae.cF (aj rfl rfl rfl da) rfl aR (aa rfl _) ?_;refine zQ 2 ?_;refine ae.two 25 rfl (fun bT=>?_) (fun bT=>?_)
      ·refine zQ 8 ?_;refine ae.nil (aI ?_);refine zG ?_
       all_goals(simp[bH,dt,da,aR,bT];done)
      ·refine zQ 3 ?_;refine ae.two 28 rfl (fun cY=>?_) (fun cY=>?_)
       ·refine zQ 2 ?_;refine ae.cF (aj rfl rfl rfl bT) rfl cY (aa rfl _) ?_;refine zQ 2 ?_;refine ae.nil (aI ?_);refine zG ?_
        all_goals(simp[bH,dt,da,aR,bT,cY];done)
       ·refine zQ 2 ?_;refine ae.cp (aj rfl rfl rfl bT) rfl cY (aa rfl _) ?_;refine zQ 2 ?_;refine ae.nil (aI ?_);refine zG ?_
        all_goals(simp[bH,dt,da,aR,bT,cY];done)
     ·refine zQ 2 ?_;refine ae.cp (aj rfl rfl rfl da) rfl aR (aa rfl _) ?_;refine zQ 5 ?_;refine ae.two 28 rfl (fun cY=>?_) (fun cY=>?_)
      ·refine zQ 5 ?_;refine ae.nil (aI ?_);refine zG ?_
       all_goals(simp[bH,dt,da,aR,cY];done)
      ·refine zQ 5 ?_;refine ae.nil (aI ?_);refine zG ?_
       all_goals(simp[bH,dt,da,aR,cY];done)
   ·refine zQ 8 ?_;refine ae.two 20 rfl (fun aR=>?_) (fun aR=>?_)
    ·refine zQ 5 ?_;refine ae.two 25 rfl (fun bT=>?_) (fun bT=>?_)
     ·refine zQ 8 ?_;refine ae.nil (aI ?_);refine zG ?_
      all_goals(simp[bH,dt,aR,bT];done)
     ·refine zQ 3 ?_;refine ae.two 28 rfl (fun cY=>?_) (fun cY=>?_)
      ·refine zQ 2 ?_;refine ae.cF (aj rfl rfl rfl bT) rfl cY (aa rfl _) ?_;refine zQ 2 ?_;refine ae.nil (aI ?_);refine zG ?_
       all_goals(simp[bH,dt,aR,bT,cY];done)
      ·refine zQ 2 ?_;refine ae.cp (aj rfl rfl rfl bT) rfl cY (aa rfl _) ?_;refine zQ 2 ?_;refine ae.nil (aI ?_);refine zG ?_
       all_goals(simp[bH,dt,aR,bT,cY];done)
    ·refine zQ 8 ?_;refine ae.two 28 rfl (fun cY=>?_) (fun cY=>?_)
     ·refine zQ 5 ?_;refine ae.nil (aI ?_);refine zG ?_
      all_goals(simp[bH,dt,aR,cY];done)
     ·refine zQ 5 ?_;refine ae.nil (aI ?_);refine zG ?_
      all_goals(simp[bH,dt,aR,cY];done)
 dsimp only[bd,List.foldl,nth,u2,u1];refine ag.ret ⟨rx,_,rfl,rl aW hH (rfl)⟩
end Go.Proofs.YtpcicphadikioaaGreat
namespace Go.Proofs.YtpcicphadikioaaGreat
open Go.V Go
theorem oc:∀gs:List (Nat×Nat),jr ((gs.map ba).map (jn 2))=some (gs.map fun g=>((g.1:Nat):Int))
 |[]=>rfl
 |g::gs=>by
  have ih:=oc gs;simp only[List.map_cons];show(match jr ((gs.map ba).map (jn 2)) with|some rs=>some (((g.1:Nat):Int)::rs)|none=>none)=_;rw[ih]
theorem xj:∀(rs:List Int) (acc:List UInt8),(digS rs acc).2≤rs.length∧(digS rs acc).1.length≤acc.length+(digS rs acc).2
 |[],acc=>by simp[digS]
 |r::rs,acc=>by
  unfold digS
  split
  ·have h:=xj rs (if 48<r∨acc≠[] then acc++[UInt8.ofNat r.toNat] else acc);simp only[List.length_cons]
   have hl:(if 48<r∨acc≠[] then acc++[UInt8.ofNat r.toNat] else acc).length≤acc.length+1:=by
    split<;>simp
   omega
  ·simp
structure km (gs:List (Nat×Nat)) (aQ:List Int):Prop where
 gl:gs.length≤120
 pl:aQ.length=gs.length
end Go.Proofs.YtpcicphadikioaaGreat
namespace Go.Proofs.YtpcicphadikioaaGreat
open Go.V Go
end Go.Proofs.YtpcicphadikioaaGreat
