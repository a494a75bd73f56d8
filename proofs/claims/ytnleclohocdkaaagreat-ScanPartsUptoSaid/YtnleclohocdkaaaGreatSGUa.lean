/-
 The search that goes back: one step of a try.
-/
import Derived.Test.YtnleclohocdkaaaGreatSGHr
import Derived.Test.YtnleclohocdkaaaGreatSPx
import Derived.Test.YtnleclohocdkaaaGreatSM2
import Derived.KernelRfl
import Derived.Test.YtnleclohocdkaaaGreatSGCa
set_option maxRecDepth 100000
set_option maxHeartbeats 4000000
set_option linter.unusedSimpArgs false
set_option linter.unusedVariables false
namespace Go.Proofs.YtnleclohocdkaaaGreat
open Go.V Go
def bm (c:Nat):Int×Nat×Nat:=
 if c<128 then(0,0,0) else if c<194 then(-1,0,0) else if c<224 then(1,128,191) else if c=224 then(2,160,191) else if c=237 then(2,128,159)
 else if c<240 then(2,128,191) else if c=240 then(3,144,191) else if c<244 then(3,128,191) else if c=244 then(3,128,143) else(-1,0,0)
theorem Fc (c:Nat) (st:St):Ev pv 98 [.int .u8 c] st (.tup [.int .i64 (bm c).1,.int .u8 (bm c).2.1,.int .u8 (bm c).2.2]) st:=by
 refine Ev.mk1 rfl OP rfl rfl rfl ?_;refine zE ?_;refine zR ?_;refine EvC.seq (EvC.block ?_);refine zR ?_;(repeat refine qq ?_);refine qc (fun h1=>?_) (fun h1=>?_)<;>try simp only[cs] at h1
 ·refine zR ?_;refine EvC.ret ⟨rx,_,rfl,aY (by simp) (by simp[enterSt]) ?_⟩;rw[show bm c=(0,0,0) by unfold bm;rw[if_pos (by omega)]];rfl
 refine zR ?_;(repeat refine qq ?_);refine qc (fun h2=>?_) (fun h2=>?_)<;>try simp only[cs] at h2
 ·refine zR ?_;refine EvC.ret ⟨rx,_,rfl,aY (by simp) (by simp[enterSt]) ?_⟩;rw[show bm c=(-1,0,0) by unfold bm;rw[if_neg (by omega),if_pos (by omega)]];rfl
 refine zR ?_;(repeat refine qq ?_);refine qc (fun h3=>?_) (fun h3=>?_)<;>try simp only[cs] at h3
 ·refine zR ?_;refine EvC.ret ⟨rx,_,rfl,aY (by simp) (by simp[enterSt]) ?_⟩;rw[show bm c=(1,128,191) by unfold bm;rw[if_neg (by omega),if_neg (by omega),if_pos (by omega)]];rfl
 refine zR ?_;(repeat refine qq ?_);refine qc (fun h4=>?_) (fun h4=>?_)<;>try simp only[cs] at h4
 ·refine zR ?_;refine EvC.ret ⟨rx,_,rfl,aY (by simp) (by simp[enterSt]) ?_⟩;rw[show bm c=(2,160,191) by unfold bm;rw[if_neg (by omega),if_neg (by omega),if_neg (by omega),if_pos (by omega)]];rfl
 refine zR ?_;(repeat refine qq ?_);refine qc (fun h5=>?_) (fun h5=>?_)<;>try simp only[cs] at h5
 ·refine zR ?_;refine EvC.ret ⟨rx,_,rfl,aY (by simp) (by simp[enterSt]) ?_⟩;rw[show bm c=(2,128,159) by unfold bm;rw[if_neg (by omega),if_neg (by omega),if_neg (by omega),if_neg (by omega),if_pos (by omega)]];rfl
 refine zR ?_;(repeat refine qq ?_);refine qc (fun h6=>?_) (fun h6=>?_)<;>try simp only[cs] at h6
 ·refine zR ?_;refine EvC.ret ⟨rx,_,rfl,aY (by simp) (by simp[enterSt]) ?_⟩;rw[show bm c=(2,128,191) by unfold bm;rw[if_neg (by omega),if_neg (by omega),if_neg (by omega),if_neg (by omega),if_neg (by omega),if_pos (by omega)]];rfl
 refine zR ?_;(repeat refine qq ?_);refine qc (fun h7=>?_) (fun h7=>?_)<;>try simp only[cs] at h7
 ·refine zR ?_;refine EvC.ret ⟨rx,_,rfl,aY (by simp) (by simp[enterSt]) ?_⟩;rw[show bm c=(3,144,191) by unfold bm;rw[if_neg (by omega),if_neg (by omega),if_neg (by omega),if_neg (by omega),if_neg (by omega),if_neg (by omega),if_pos (by omega)]];rfl
 refine zR ?_;(repeat refine qq ?_);refine qc (fun h8=>?_) (fun h8=>?_)<;>try simp only[cs] at h8
 ·refine zR ?_;refine EvC.ret ⟨rx,_,rfl,aY (by simp) (by simp[enterSt]) ?_⟩;rw[show bm c=(3,128,191) by unfold bm;rw[if_neg (by omega),if_neg (by omega),if_neg (by omega),if_neg (by omega),if_neg (by omega),if_neg (by omega),if_neg (by omega),if_pos (by omega)]];rfl
 refine zR ?_;(repeat refine qq ?_);refine qc (fun h9=>?_) (fun h9=>?_)<;>try simp only[cs] at h9
 ·refine zR ?_;refine EvC.ret ⟨rx,_,rfl,aY (by simp) (by simp[enterSt]) ?_⟩;rw[show bm c=(3,128,143) by unfold bm;rw[if_neg (by omega),if_neg (by omega),if_neg (by omega),if_neg (by omega),if_neg (by omega),if_neg (by omega),if_neg (by omega),if_neg (by omega),if_pos (by omega)]];rfl
 refine EvC.skip<|zR ?_;refine EvC.ret ⟨rx,_,rfl,aY (by simp) (by simp[enterSt]) ?_⟩;rw[show bm c=(-1,0,0) by unfold bm;rw[if_neg (by omega),if_neg (by omega),if_neg (by omega),if_neg (by omega),if_neg (by omega),if_neg (by omega),if_neg (by omega),if_neg (by omega),if_neg (by omega)]];rfl
def eV:(left n r lo hi:Nat)→List UInt8→Nat×Nat×Bool
 |0,n,r,_,_,_=>(r,n,false)
 |left+1,n,r,lo,hi,[]=>(0,0,true)
 |left+1,n,r,lo,hi,x::xs=>if x.toNat<lo∨hi<x.toNat then(0,0,false) else eV left n (r*64+x.toNat %64) 128 191 xs
def cn:List UInt8→Nat×Nat×Bool
 |[]=>(0,0,false)
 |c::xs=>if(bm c.toNat).1<0 then(0,0,false)
   else eV (bm c.toNat).1.toNat ((bm c.toNat).1.toNat+1) (if(bm c.toNat).1>0 then c.toNat %(64/2^(bm c.toNat).1.toNat) else c.toNat) (bm c.toNat).2.1 (bm c.toNat).2.2 xs
theorem vt (c:Nat):(bm c).1=-1∨(bm c).1=0∨(bm c).1=1∨(bm c).1=2∨(bm c).1=3:=by
 unfold bm
 repeat' split
 all_goals simp
theorem zL {w a j:Nat} (ha:a<2^w) (hj:2^j-1<2^w):(BitVec.ofInt w (a:Int) &&&BitVec.ofInt w ((2^j-1:Nat):Int)).toNat=a %2^j:=by
 rw[bv_and ha hj,Nat.and_two_pow_sub_one_eq_mod]
theorem aS (b:List UInt8):(V.byteCells b).length=b.length:=by simp[V.byteCells]
theorem hY {b:List UInt8} {i:Nat} {y:UInt8} (h:b[i]?=some y):(V.byteCells b)[i]?=some [.int .u8 (y.toNat:Nat)]:=by
 simp[V.byteCells,h]
theorem Gi (y:UInt8):y.toNat<256:=y.toNat_lt
theorem Mf {r y:Nat} (hr:r<33554432) (hy:y<256):bw .i32 ((BitVec.ofInt 32 (bw .i32 ((r:Int)*2^(min (Int.toNat 6) 32)))|||BitVec.ofInt 32 (bw .i32 (bw .u8 ((BitVec.ofInt 8 (y:Int) &&&BitVec.ofInt 8 63).toNat:Nat)))).toNat:Nat)=((r*64+y %64:Nat):Int):=by
 have h1:(BitVec.ofInt 8 (y:Int) &&&BitVec.ofInt 8 63).toNat=y %64:=zL (w:=8) (j:=6) hy (by decide);rw[h1]
 have h2:((r:Int)*2^(min (Int.toNat 6) 32))=((r*64:Nat):Int):=by
  have:(2:Int)^(min (Int.toNat 6) 32)=64:=by decide
  rw[this];simp
 rw[h2,di (k:=.i32) (m:=r*64) (by simp only[ke];omega),di (k:=.u8) (m:=y %64) (by simp only[ke];omega),di (k:=.i32) (m:=y %64) (by simp only[ke];omega)];rw[Lu (by omega) (by omega)]
 have h3:(r*64)|||(y %64)=r*64+y %64:=by
  have:=Nat.two_pow_add_eq_or_of_lt (i:=6) (b:=y %64) (by omega) r;have e:(2:Nat)^6=64:=by decide
  rw[e] at this;rw[Nat.mul_comm r 64,this]
 rw[h3,di (k:=.i32) (m:=r*64+y %64) (by simp only[ke];omega)]
theorem Jq {c j:Nat} (hc:c<256) (hj:j≤8) {m:Int} (hm:m=((2^j-1:Nat):Int)):bw .i32 ((BitVec.ofInt 32 (bw .i32 (c:Nat)) &&&BitVec.ofInt 32 m).toNat:Nat)=((c %2^j:Nat):Int):=by
 have h1:2^j≤2^8:=Nat.pow_le_pow_right (by omega) hj;rw[hm,di (k:=.i32) (m:=c) (by simp only[ke];omega),zL (w:=32) (by omega) (by omega)];have:c %2^j≤c:=Nat.mod_le _ _;rw[di (k:=.i32) (by simp only[ke];omega)]
theorem mask {c j:Nat} (hc:c<256) (hj:j≤8) {m:Int} (hm:m=((2^j-1:Nat):Int)):bw .i32 ((BitVec.ofInt IntKind.i32.bits (bw .i32 (c:Nat)) &&&BitVec.ofInt IntKind.i32.bits m).toNat:Nat)=((c %2^j:Nat):Int):=Jq hc hj hm
theorem Rj {r y:Nat} (hr:r<33554432) (hy:y<256):bw .i32 ((BitVec.ofInt IntKind.i32.bits (bw .i32 ((r:Int)*2^(min (Int.toNat 6) IntKind.i32.bits)))|||BitVec.ofInt IntKind.i32.bits (bw .i32 (bw .u8 ((BitVec.ofInt IntKind.u8.bits (y:Int) &&&BitVec.ofInt IntKind.u8.bits 63).toNat:Nat)))).toNat:Nat)=((r*64+y %64:Nat):Int):=Mf hr hy
theorem pX {st:St} {x:D} {b:List UInt8} (hb:Bytes st x b):Ev pv 60 [x] st (.tup [.int .i32 ((cn b).1:Nat),.int .i64 ((cn b).2.1:Nat),.bool (cn b).2.2]) st:=by
 refine Ev.mk1 rfl O_ rfl rfl rfl ?_;refine zE ?_;have db:=hb.enter .ro;(try refine qy ?_);(repeat refine qq ?_);(try generalize hK:SeqQ _ _ _ _=K);refine EvC.reg ?_;(repeat(first|refine xT ?_|refine xL ?_|refine xN ?_|refine xo ?_|refine xp ?_));refine EvO.nil ?_;(try refine zF ?_);(try subst hK);(try refine qy ?_);(repeat refine qq ?_);(try generalize hK:SeqQ _ _ _ _=K);refine EvC.reg ?_
 (first|refine xT ?_|refine xL ?_|refine xN ?_|refine xo ?_|refine xp ?_)
 refine EvO.len rfl rfl rfl db rfl ?_;(repeat(first|refine xT ?_|refine xL ?_|refine xN ?_|refine xo ?_|refine xp ?_));refine EvO.nil ?_;(try refine zF ?_);(try subst hK);(try refine qy ?_);(repeat refine qq ?_);refine qc (fun h1=>?_) (fun h1=>?_)<;>try simp only[cs] at h1
 ·(try refine qy ?_);(repeat refine qq ?_);(try generalize hK:SeqQ _ _ _ _=K);refine EvC.reg ?_;(repeat(first|refine xT ?_|refine xL ?_|refine xN ?_|refine xo ?_|refine xp ?_));refine EvO.nil ?_;(try refine zF ?_);(try subst hK);(try refine qy ?_);refine EvC.ret ⟨rx,_,rfl,aY (by simp) (by simp[enterSt]) ?_⟩
  obtain rfl:b=[]:=by cases b with|nil=>rfl|cons c b=>simp[V.byteCells] at h1;omega
  rfl
 refine EvC.skip ?_
 obtain⟨c,xs,rfl⟩:∃c xs,b=c::xs:=by cases b with|nil=>simp[V.byteCells] at h1|cons c b=>exact⟨c,b,rfl⟩
 obtain⟨k,lo,hi,hm⟩:∃k lo hi,bm c.toNat=(k,lo,hi):=⟨_,_,_,rfl⟩
 have NI:=Fc c.toNat (enterSt .ro st);rw[hm] at NI;have hk:=vt c.toNat;rw[hm] at hk;have hc:=Gi c;(try refine qy ?_);(repeat refine qq ?_);(try generalize hK:SeqQ _ _ _ _=K);refine EvC.reg ?_
 (first|refine xT ?_|refine xL ?_|refine xN ?_|refine xo ?_|refine xp ?_)
 refine EvO.fy rfl rfl rfl (fun _=>rfl) rfl rfl db rfl rfl (by omega) rfl rfl (fun p=>?_);refine EvO.qK rfl rfl rfl NI ?_;(repeat(first|refine xT ?_|refine xL ?_|refine xN ?_|refine xo ?_|refine xp ?_));refine EvO.nil ?_;(try refine zF ?_);(try subst hK);(try refine qy ?_);(repeat refine qq ?_);(try generalize hK:SeqQ _ _ _ _=K);refine EvC.reg ?_;(repeat(first|refine xT ?_|refine xL ?_|refine xN ?_|refine xo ?_|refine xp ?_));refine EvO.nil ?_;(try refine zF ?_);(try subst hK);(try refine qy ?_);(repeat refine qq ?_);refine qc (fun h2=>?_) (fun h2=>?_)<;>try simp only[cs] at h2
 ·(try refine qy ?_);(repeat refine qq ?_);(try generalize hK:SeqQ _ _ _ _=K);refine EvC.reg ?_;(repeat(first|refine xT ?_|refine xL ?_|refine xN ?_|refine xo ?_|refine xp ?_));refine EvO.nil ?_;(try refine zF ?_);(try subst hK);(try refine qy ?_);refine EvC.ret ⟨rx,_,rfl,aY (by simp) (by simp[enterSt]) ?_⟩;simp only[cn,hm];rw[if_pos h2];rfl
 refine EvC.skip ?_;(try refine qy ?_);(repeat refine qq ?_);(try generalize hK:SeqQ _ _ _ _=K);refine EvC.reg ?_
 (first|refine xT ?_|refine xL ?_|refine xN ?_|refine xo ?_|refine xp ?_)
 refine EvO.fy rfl rfl rfl (fun _=>rfl) rfl rfl db rfl rfl (by omega) rfl rfl (fun p=>?_);(repeat(first|refine xT ?_|refine xL ?_|refine xN ?_|refine xo ?_|refine xp ?_));refine EvO.nil ?_;(try refine zF ?_);(try subst hK);(try refine qy ?_);(repeat refine qq ?_);(try generalize hK:SeqQ _ _ _ _=K);refine EvC.reg ?_;(repeat(first|refine xT ?_|refine xL ?_|refine xN ?_|refine xo ?_|refine xp ?_));refine EvO.nil ?_;(try refine zF ?_);(try subst hK);(try refine qy ?_);generalize hK:SeqQ _ _ _ _=K
 have H:∀(r kn:Nat) (m:List (Nat×D)),k=(kn:Int)→r=(if k>0 then c.toNat %(64/2^k.toNat) else c.toNat)→(r+1)*64^kn≤2097152→K .next ⟨9,[x,.tup [],.int .i32 r,.int .i64 0,.bool false,.int .i64 k,.int .u8 lo,.int .u8 hi,.tup []],m⟩ (enterSt .ro st):=by
  intro r kn m hkn hr n5
  have hR:cn (c::xs)=eV kn (kn+1) r lo hi xs:=by
   simp only[cn,hm];rw[if_neg h2,hr,hkn];rfl
  subst hK;rw[hR];generalize hS:eV kn (kn+1) r lo hi xs=R at hR⊢;subst hkn;(try refine qy ?_);(repeat refine qq ?_);(try generalize hK:SeqQ _ _ _ _=K);refine EvC.reg ?_;(repeat(first|refine xT ?_|refine xL ?_|refine xN ?_|refine xo ?_|refine xp ?_));refine EvO.nil ?_;(try refine zF ?_);(try subst hK);(try refine qy ?_);refine EvC.block<|EvC.loop (fun j fr ab=>∃(i r lo hi:Nat),fr.clean=⟨9,[x,.tup [],.int .i32 r,.int .i64 0,.bool false,.int .i64 kn,.int .u8 lo,.int .u8 hi,.int .i64 (i:Nat)],[]⟩∧ab=enterSt .ro st∧1≤i∧i+j=kn+1∧eV j (kn+1) r lo hi (xs.drop (i-1))=R∧(r+1)*64^j≤2097152) kn ⟨1,r,lo,hi,rfl,rfl,by omega,by omega,hS,n5⟩ ?_;clear hr n5 hS r hm NI m;rintro j fr ab ⟨i,r,lo,hi,hfr,rfl,NX,hij,hS,n5⟩;rw[hfr];(try refine qy ?_);(repeat refine qq ?_);(try generalize hK:SeqQ _ _ _ _=K);refine EvC.reg ?_;(repeat(first|refine xT ?_|refine xL ?_|refine xN ?_|refine xo ?_|refine xp ?_));refine EvO.nil ?_;(try refine zF ?_);(try subst hK);(try refine qy ?_);(repeat refine qq ?_);refine qc (fun h4=>?_) (fun h4=>?_)<;>try simp only[cs] at h4
  ·refine EvC.skip ?_
   obtain⟨j,rfl⟩:∃j',j=j'+1:=⟨j-1,by omega⟩
   refine EvC.seq (EvC.block ?_);(try refine qy ?_);(repeat refine qq ?_);(try generalize hK:SeqQ _ _ _ _=K);refine EvC.reg ?_
   (first|refine xT ?_|refine xL ?_|refine xN ?_|refine xo ?_|refine xp ?_)
   (first|refine xT ?_|refine xL ?_|refine xN ?_|refine xo ?_|refine xp ?_)
   refine EvO.len rfl rfl rfl db rfl ?_;(repeat(first|refine xT ?_|refine xL ?_|refine xN ?_|refine xo ?_|refine xp ?_));refine EvO.nil ?_;(try refine zF ?_);(try subst hK);(try refine qy ?_)
   have Bv:(xs.drop (i-1))=[]∨∃y ys,xs.drop (i-1)=y::ys:=by
    cases xs.drop (i-1) with
    |nil=>exact .inl rfl
    |cons y ys=>exact .inr ⟨y,ys,rfl⟩
   have LJ:(xs.drop (i-1)).length=xs.length-(i-1):=List.length_drop ..;have hbl:(V.byteCells (c::xs)).length=xs.length+1:=by simp[V.byteCells]
   (try refine qy ?_);(repeat refine qq ?_);refine qc (fun h5=>?_) (fun h5=>?_)<;>try simp only[cs] at h5
   ·(try refine qy ?_);(repeat refine qq ?_);(try generalize hK:SeqQ _ _ _ _=K);refine EvC.reg ?_;(repeat(first|refine xT ?_|refine xL ?_|refine xN ?_|refine xo ?_|refine xp ?_));refine EvO.nil ?_;(try refine zF ?_);(try subst hK);(try refine qy ?_);refine EvC.ret ⟨rx,_,rfl,aY (by simp) (by simp[enterSt]) ?_⟩
    rcases Bv with Bv|⟨y,ys,Bv⟩
    ·rw[Bv] at hS;simp only[eV] at hS;subst hS;rfl
    ·rw[Bv] at LJ;simp only[List.length_cons] at LJ;omega
   refine EvC.skip ?_
   rcases Bv with Bv|⟨y,ys,Bv⟩
   ·rw[Bv] at LJ;simp only[List.length_nil] at LJ;omega
   have hy:(c::xs)[i]?=some y:=by
    obtain⟨i,rfl⟩:∃i',i=i'+1:=⟨i-1,by omega⟩
    have:=congrArg (fun l=>l[0]?) Bv
    simpa using this
   have jh:xs.drop (i+1-1)=ys:=by
    have:=congrArg (fun l=>l.drop 1) Bv;simp only[List.drop_drop,List.drop_succ_cons,List.drop_zero] at this;rw[←this];congr 1;omega
   have MB:=hY hy;have R0:=Gi y;rw[Bv] at hS;simp only[eV] at hS;(try refine qy ?_);(repeat refine qq ?_);(try generalize hK:SeqQ _ _ _ _=K);refine EvC.reg ?_
   (first|refine xT ?_|refine xL ?_|refine xN ?_|refine xo ?_|refine xp ?_)
   (first|refine xT ?_|refine xL ?_|refine xN ?_|refine xo ?_|refine xp ?_)
   refine EvO.fy rfl rfl rfl (fun _=>rfl) rfl rfl db rfl rfl (by omega) MB rfl (fun p=>?_)
   (first|refine xT ?_|refine xL ?_|refine xN ?_|refine xo ?_|refine xp ?_)
   (first|refine xT ?_|refine xL ?_|refine xN ?_|refine xo ?_|refine xp ?_)
   (first|refine xT ?_|refine xL ?_|refine xN ?_|refine xo ?_|refine xp ?_)
   by_cases wM:(y.toNat:Int)<(lo:Int)
   ·rw[decide_eq_true wM];(repeat(first|refine xT ?_|refine xL ?_|refine xN ?_|refine xo ?_|refine xp ?_));refine EvO.nil ?_;(try refine zF ?_);(try subst hK);(try refine qy ?_);refine EvC.cond (v:=true) rfl (fun _=>?_) (fun h=>by cases h);(try refine qy ?_);(repeat refine qq ?_);(try generalize hK:SeqQ _ _ _ _=K);refine EvC.reg ?_;(repeat(first|refine xT ?_|refine xL ?_|refine xN ?_|refine xo ?_|refine xp ?_));refine EvO.nil ?_;(try refine zF ?_);(try subst hK);(try refine qy ?_);refine EvC.ret ⟨rx,_,rfl,aY (by simp) (by simp[enterSt]) ?_⟩;rw[if_pos (.inl (by omega))] at hS;subst hS;rfl
   rw[decide_eq_false wM]
   (first|refine xT ?_|refine xL ?_|refine xN ?_|refine xo ?_|refine xp ?_)
   (first|refine xT ?_|refine xL ?_|refine xN ?_|refine xo ?_|refine xp ?_)
   refine EvO.fy rfl rfl rfl (fun _=>rfl) rfl rfl db rfl rfl (by omega) MB rfl (fun p=>?_);(repeat(first|refine xT ?_|refine xL ?_|refine xN ?_|refine xo ?_|refine xp ?_));refine EvO.nil ?_;(try refine zF ?_);(try subst hK);(try refine qy ?_);(repeat refine qq ?_);refine qc (fun h6=>?_) (fun h6=>?_)<;>try simp only[cs] at h6
   ·(try refine qy ?_);(repeat refine qq ?_);(try generalize hK:SeqQ _ _ _ _=K);refine EvC.reg ?_;(repeat(first|refine xT ?_|refine xL ?_|refine xN ?_|refine xo ?_|refine xp ?_));refine EvO.nil ?_;(try refine zF ?_);(try subst hK);(try refine qy ?_);refine EvC.ret ⟨rx,_,rfl,aY (by simp) (by simp[enterSt]) ?_⟩;rw[if_pos (.inr (by omega))] at hS;subst hS;rfl
   refine EvC.skip ?_;rw[if_neg (by omega)] at hS;(try refine qy ?_);(repeat refine qq ?_);(try generalize hK:SeqQ _ _ _ _=K);refine EvC.reg ?_
   (first|refine xT ?_|refine xL ?_|refine xN ?_|refine xo ?_|refine xp ?_)
   (first|refine xT ?_|refine xL ?_|refine xN ?_|refine xo ?_|refine xp ?_)
   (first|refine xT ?_|refine xL ?_|refine xN ?_|refine xo ?_|refine xp ?_)
   (first|refine xT ?_|refine xL ?_|refine xN ?_|refine xo ?_|refine xp ?_)
   refine EvO.fy rfl rfl rfl (fun _=>rfl) rfl rfl db rfl rfl (by omega) MB rfl (fun p=>?_);(repeat(first|refine xT ?_|refine xL ?_|refine xN ?_|refine xo ?_|refine xp ?_));refine EvO.nil ?_;(try refine zF ?_);(try subst hK);(try refine qy ?_);have M9:r+1≤(r+1)*64^(j+1):=Nat.le_mul_of_pos_right _ (Nat.pow_pos (by omega));rw[Rj (by omega) R0];(try refine qy ?_);(repeat refine qq ?_);(try generalize hK:SeqQ _ _ _ _=K);refine EvC.reg ?_;(repeat(first|refine xT ?_|refine xL ?_|refine xN ?_|refine xo ?_|refine xp ?_));refine EvO.nil ?_;(try refine zF ?_);(try subst hK);(try refine qy ?_);(repeat refine qq ?_);(try generalize hK:SeqQ _ _ _ _=K);refine EvC.reg ?_;(repeat(first|refine xT ?_|refine xL ?_|refine xN ?_|refine xo ?_|refine xp ?_));refine EvO.nil ?_;(try refine zF ?_);(try subst hK);(try refine qy ?_);rw[wrap_i64 (by omega) (by omega)];refine⟨j,by omega,i+1,_,_,_,rfl,rfl,by omega,by omega,by rw[jh];exact hS,?_⟩;have e1:(r*64+y.toNat %64+1)≤(r+1)*64:=by omega
   have e2:=Nat.mul_le_mul_right (64^j) e1;have e3:64*64^j=64^(j+1):=by rw[Nat.pow_succ,Nat.mul_comm]
   rw[Nat.mul_assoc,e3] at e2;omega
  ·refine EvC.exit ?_;have:j=0:=by omega
   subst this;simp only[eV] at hS;subst hS;(try refine qy ?_);(repeat refine qq ?_);(try generalize hK:SeqQ _ _ _ _=K);refine EvC.reg ?_;(repeat(first|refine xT ?_|refine xL ?_|refine xN ?_|refine xo ?_|refine xp ?_));refine EvO.nil ?_;(try refine zF ?_);(try subst hK);(try refine qy ?_);refine EvC.ret ⟨rx,_,rfl,aY (by simp) (by simp[enterSt]) ?_⟩;rw[wrap_i64 (by omega) (by omega)];rfl
 rcases hk with hk|hk|hk|hk|hk
 ·omega
 ·subst hk;refine EvC.cond (v:=false) rfl (fun h=>by cases h) fun _=>EvC.skip ?_;rw[di (by simp only[ke];omega)];exact H _ 0 _ rfl rfl (by omega)
 ·subst hk;refine EvC.cond (v:=true) rfl (fun _=>?_) (fun h=>by cases h);refine EvC.reg ?_
  (first|refine xT ?_|refine xL ?_|refine xN ?_|refine xo ?_|refine xp ?_)
  refine EvO.fy rfl rfl rfl (fun _=>rfl) rfl rfl db rfl rfl (by omega) rfl rfl (fun p=>?_);(repeat(first|refine xT ?_|refine xL ?_|refine xN ?_|refine xo ?_|refine xp ?_));refine EvO.nil ?_;(try refine zF ?_);rw[mask (j:=5) hc (by omega)]
  ·exact H _ 1 _ rfl rfl (by omega)
  ·decide
 ·subst hk;refine EvC.cond (v:=true) rfl (fun _=>?_) (fun h=>by cases h);refine EvC.reg ?_
  (first|refine xT ?_|refine xL ?_|refine xN ?_|refine xo ?_|refine xp ?_)
  refine EvO.fy rfl rfl rfl (fun _=>rfl) rfl rfl db rfl rfl (by omega) rfl rfl (fun p=>?_);(repeat(first|refine xT ?_|refine xL ?_|refine xN ?_|refine xo ?_|refine xp ?_));refine EvO.nil ?_;(try refine zF ?_);rw[mask (j:=4) hc (by omega)]
  ·exact H _ 2 _ rfl rfl (by omega)
  ·decide
 ·subst hk;refine EvC.cond (v:=true) rfl (fun _=>?_) (fun h=>by cases h);refine EvC.reg ?_
  (first|refine xT ?_|refine xL ?_|refine xN ?_|refine xo ?_|refine xp ?_)
  refine EvO.fy rfl rfl rfl (fun _=>rfl) rfl rfl db rfl rfl (by omega) rfl rfl (fun p=>?_);(repeat(first|refine xT ?_|refine xL ?_|refine xN ?_|refine xo ?_|refine xp ?_));refine EvO.nil ?_;(try refine zF ?_);rw[mask (j:=3) hc (by omega)]
  ·exact H _ 3 _ rfl rfl (by omega)
  ·decide
def cD (b:List UInt8):Nat×Nat:=if(cn b).2.1=0 then(65533,1) else((cn b).1,(cn b).2.1)
def Br:Nat→List UInt8→List (Nat×Nat)
 |0,_=>[]
 |_+1,[]=>[]
 |n+1,b=>cD b::Br n (b.drop (cD b).2)
def rb (b:List UInt8):List (Nat×Nat):=Br b.length b
theorem fF (b:List UInt8):1≤(cD b).2:=by
 unfold cD;split
 ·simp
 ·simp only;omega
theorem ng : ∀ (n : Nat) (b : List UInt8), b.length ≤ n → Br n b = rb b
 | 0, [], _ => rfl
 | 0, _ :: _, h => by simp at h
 | n + 1, [], _ => rfl
 | n + 1, c :: b, h => by
  have hp := fF (c :: b);have h1 : ((c :: b).drop (cD (c :: b)).2).length ≤ b.length := by rw [List.length_drop]; simp only [List.length_cons]; omega
  simp only [List.length_cons] at h;show cD (c :: b) :: Br n ((c :: b).drop _) = cD (c :: b) :: Br b.length ((c :: b).drop _);rw [ng n _ (by omega)]
  rcases Nat.lt_or_ge n b.length with h2 | h2
  ·omega
  ·rw [ng b.length _ h1]
termination_by n b => b.length
decreasing_by all_goals (simp_wf; omega)
theorem ra:rb []=[]:=rfl
theorem s8 {b:List UInt8} (h:b≠[]):rb b=cD b::rb (b.drop (cD b).2):=by
 match b,h with
 |c::b,_=>
  show cD (c::b)::Br b.length ((c::b).drop _)=_;rw[ng];have hp:=fF (c::b);rw[List.length_drop];simp only[List.length_cons];omega
def aL (g:Nat×Nat):List D:=[.int .i32 (g.1:Nat),.int .i64 (g.2:Nat)]
def dv (l:List (Nat×Nat)):D:=.sl ((l.map aL).map (iV 2))
theorem DB {l:List (Nat×Nat)}:∀e∈l.map aL,e.length=2:=by
 intro e he;obtain⟨g,_,rfl⟩:=List.mem_map.1 he;rfl
theorem iU {l:List (Nat×Nat)}:∀e∈l.map aL,∀d∈e,bC d=true:=by
 intro e he d hd;obtain⟨g,_,rfl⟩:=List.mem_map.1 he;simp only[aL,List.mem_cons,List.not_mem_nil,or_false] at hd
 rcases hd with rfl|rfl<;>rfl
theorem c7 (st:St) (l:List (Nat×Nat)):V.Rows st 2 (dv l) (l.map aL):=Rows.vh DB iU
theorem uM:∀(left n r lo hi:Nat) (b:List UInt8),(eV left n r lo hi b).2.1≠0→(eV left n r lo hi b).2.1=n∧left≤b.length
 |0,n,r,lo,hi,b,h=>by simp[eV]
 |left+1,n,r,lo,hi,[],h=>by simp[eV] at h
 |left+1,n,r,lo,hi,x::xs,h=>by
  simp only[eV] at h⊢
  split at h
  ·simp at h
  ·rename_i hc;rw[if_neg hc];have:=uM left n _ _ _ xs h;exact⟨this.1,by simp;omega⟩
theorem oy {b:List UInt8} (h:b≠[]):(cD b).2≤b.length:=by
 match b,h with
 |c::xs,_=>
  unfold cD
  split
  ·simp
  ·rename_i hz;simp only[cn] at hz⊢
   split at hz
   ·simp at hz
   ·rename_i hk;rw[if_neg hk];have:=uM _ _ _ _ _ _ hz;rw[this.1];simp;omega
theorem Iv {st:St} {x:D} {b:List UInt8} (hb:Bytes st x b) (hlen:b.length≤1048576):Ev pv 15 [x] st (dv (rb b)) st:=by
 refine Ev.mk1 rfl PD rfl rfl rfl ?_;refine zE ?_;have hx:=hb.ref;(try refine qy ?_);(repeat refine qq ?_);(try generalize hK:SeqQ _ _ _ _=K);refine EvC.reg ?_;(repeat(first|refine xT ?_|refine xL ?_|refine xN ?_|refine xo ?_|refine xp ?_));refine EvO.nil ?_;(try refine zF ?_);(try subst hK);(try refine qy ?_);(repeat refine qq ?_);(try generalize hK:SeqQ _ _ _ _=K);refine EvC.reg ?_;(repeat(first|refine xT ?_|refine xL ?_|refine xN ?_|refine xo ?_|refine xp ?_));refine EvO.nil ?_;(try refine zF ?_);(try subst hK);(try refine qy ?_);refine EvC.seq (EvC.block ?_)
 refine EvC.loop (fun j fr ab=>∃(y out r n:D) (b':List UInt8) (done:List (Nat×Nat)),fr.clean=⟨6,[y,.tup [],.nul,out,r,n],[]⟩∧Ex st.bs.length (enterSt .ro st) ab∧Bytes ab y b'∧y.ref≤st.bs.length∧
  Acc st.bs.length ab 2 out (done.map aL)∧j=b'.length∧done++rb b'=rb b∧done.length+b'.length≤b.length) b.length
  ⟨x,.nul,_,_,b,[],rfl,Ex.refl _ _,hb.enter .ro,hx,.nul,rfl,rfl,by simp⟩ ?_
 rintro j fr ab ⟨y,out,r,n,b',done,hfr,hex,hy,Qj,mW,rfl,lM,hl⟩;rw[hfr];(try refine qy ?_);(repeat refine qq ?_);(try generalize hK:SeqQ _ _ _ _=K);refine EvC.reg ?_
 (first|refine xT ?_|refine xL ?_|refine xN ?_|refine xo ?_|refine xp ?_)
 refine EvO.len rfl rfl rfl hy rfl ?_;(repeat(first|refine xT ?_|refine xL ?_|refine xN ?_|refine xo ?_|refine xp ?_));refine EvO.nil ?_;(try refine zF ?_);(try subst hK);(try refine qy ?_);rw[aS];(try refine qy ?_);(repeat refine qq ?_);refine qc (fun h1=>?_) (fun h1=>?_)<;>try simp only[cs] at h1
 ·refine EvC.skip ?_;have hb0:b'≠[]:=by rintro rfl;simp at h1
  (try refine qy ?_);(repeat refine qq ?_);refine EvC.block ?_;(try refine qy ?_);(repeat refine qq ?_);(try generalize hK:SeqQ _ _ _ _=K);refine EvC.reg ?_
  (first|refine xT ?_|refine xL ?_|refine xN ?_|refine xo ?_|refine xp ?_)
  refine EvO.qK rfl rfl rfl (pX hy) ?_;(repeat(first|refine xT ?_|refine xL ?_|refine xN ?_|refine xo ?_|refine xp ?_));refine EvO.nil ?_;(try refine zF ?_);(try subst hK);(try refine qy ?_);generalize hf:cn b'=F at*;obtain⟨r0,n0,bg⟩:=F;(try refine qy ?_);(repeat refine qq ?_);(try generalize hK:SeqQ _ _ _ _=K);refine EvC.reg ?_;(repeat(first|refine xT ?_|refine xL ?_|refine xN ?_|refine xo ?_|refine xp ?_));refine EvO.nil ?_;(try refine zF ?_);(try subst hK);(try refine qy ?_);generalize hK:SeqQ _ _ _ _=K
  have H:∀m,K .next ⟨6,[y,.tup [],.nul,out,.int .i32 ((cD b').1:Nat),.int .i64 ((cD b').2:Nat)],m⟩ ab:=by
   intro m;subst hK;generalize hg:cD b'=g;have hp:=fF b';have hle:=oy hb0;rw[hg] at hp hle;(try refine qy ?_);(repeat refine qq ?_);(try generalize hK:SeqQ _ _ _ _=K);refine EvC.reg ?_
   (first|refine xT ?_|refine xL ?_|refine xN ?_|refine xo ?_|refine xp ?_)
   (first|refine xT ?_|refine xL ?_|refine xN ?_|refine xo ?_|refine xp ?_)
   (first|refine xT ?_|refine xL ?_|refine xN ?_|refine xo ?_|refine xp ?_)
   refine EvO.T rfl rfl rfl (d:=.agg (aL g)) (st1:=ab) rfl ?_;refine EvO.T rfl rfl rfl (d:=.win ab.bs.length 0 0 1 2) (st1:=ab.push (.mem 0 true (aL g))) rfl ?_;have hN:st.bs.length≤ab.bs.length:=hex.len;have FN:=hex.trans (Ex.push hN (.mem 0 true (aL g)));refine EvO.append rfl rfl rfl rfl (mW.push _) (Rows.one rfl) rfl rfl rfl rfl rfl rfl rfl (by decide) FN.len (by rw[FN.flr];exact Nat.le_refl _) (by rw[FN.ro];exact Nat.le_refl _) (by simp only[List.length_map,List.length_cons,List.length_nil];show(done.length+1)*16≤_;omega) fun Cl st2 vX vR _ _ _=>?_;(repeat(first|refine xT ?_|refine xL ?_|refine xN ?_|refine xo ?_|refine xp ?_));refine EvO.nil ?_;(try refine zF ?_);(try subst hK);(try refine qy ?_);have N2:=FN.trans vR;have Bu:Bytes st2 y b':=Rows.ex ((Ex.push hN _).trans vR) hy Qj;(try refine qy ?_);(repeat refine qq ?_);(try generalize hK:SeqQ _ _ _ _=K);refine EvC.reg ?_
   (first|refine xT ?_|refine xL ?_|refine xN ?_|refine xo ?_|refine xp ?_)
   (first|refine xT ?_|refine xL ?_|refine xN ?_|refine xo ?_|refine xp ?_)
   refine EvO.slice rfl rfl rfl Bu rfl rfl (l:=g.2) (r:=b'.length) ?_ ⟨by omega,by rw[aS];omega⟩ fun y2 Fs MA=>?_
   ·show bd (V.byteCells b').length (some (.int .i64 (g.2:Nat))) none=_;rw[aS];simp only[bd,dS,fQ,Option.bind_some];rw[if_pos ⟨by omega,by omega⟩];rfl
   (repeat(first|refine xT ?_|refine xL ?_|refine xN ?_|refine xo ?_|refine xp ?_));refine EvO.nil ?_;(try refine zF ?_);(try subst hK);(try refine qy ?_);refine⟨(b'.drop g.2).length,by rw[List.length_drop];omega,y2,Cl,_,_,b'.drop g.2,done++[g],rfl,N2,?_,Nat.le_trans MA Qj,?_,rfl,?_,?_⟩
   ·have:((V.byteCells b').take b'.length).drop g.2=V.byteCells (b'.drop g.2):=by
     rw[←aS,List.take_length];simp[V.byteCells]
    unfold Bytes;rw[←this];exact Fs
   ·rw[List.map_append];exact vX
   ·rw[List.append_assoc,List.singleton_append,←lM,s8 hb0,hg]
   ·rw[List.length_append,List.length_drop];simp only[List.length_cons,List.length_nil];omega
  (try refine qy ?_);(repeat refine qq ?_);refine qc (fun h2=>?_) (fun h2=>?_)<;>try simp only[cs] at h2
  ·refine EvC.reg ?_;(repeat(first|refine xT ?_|refine xL ?_|refine xN ?_|refine xo ?_|refine xp ?_));refine EvO.nil ?_;(try refine zF ?_);have:cD b'=(65533,1):=by unfold cD;rw[hf,if_pos (by simpa using h2)]
   rw[this] at H;exact H _
  ·refine EvC.skip ?_;have:cD b'=(r0,n0):=by unfold cD;rw[hf,if_neg (by simpa using h2)]
   rw[this] at H;exact H _
 ·refine EvC.exit ?_
  have hb0:b'=[]:=by cases b' with|nil=>rfl|cons _ _=>simp at h1<;>omega
  subst hb0;rw[ra,List.append_nil] at lM;(try refine qy ?_);(repeat refine qq ?_);(try generalize hK:SeqQ _ _ _ _=K);refine EvC.reg ?_;(repeat(first|refine xT ?_|refine xL ?_|refine xN ?_|refine xo ?_|refine xp ?_));refine EvO.nil ?_;(try refine zF ?_);(try subst hK);(try refine qy ?_);refine EvC.ret ⟨rx,_,rfl,aY (by simp) (hex.take rfl) ?_⟩;rw[←lM];exact mW.freeze iU (n:=15) (by decide)
abbrev np:=Nat→Int
def ay (f:np):List D:=[.int .i64 (f 0),.int .i64 (f 1),.int .i64 (f 2),.int .i64 (f 3),.int .i64 (f 4),.int .i64 (f 5),.int .i64 (f 6),.int .i64 (f 7),.int .i64 (f 8),.int .i64 (f 9)]
def aZ:np:=fun _=>-1
def oF:np:=fun _=>0
def B2 (f:np) (x:Nat) (v:Int):np:=fun j=>if j=x then v else f j
theorem lg {n ns pc:Nat} {i:aA} (h:cF n ns pc i=true):
  i.op=7∨(i.op=2∧(0≤i.x∧i.x<(n:Int))∧0≤i.y∧i.y<(n:Int))∨(i.op=3∧0≤i.x∧i.x<(n:Int))∨(i.op=4∧pc+1<n∧0≤i.x∧i.x<10)∨(i.op=5∧pc+1<n)∨(i.op=6∧pc+1<n)∨(i.op=1∧pc+1<n):=by
 unfold cF at h
 split at h
 ·rename_i h1;simp only[Bool.and_eq_true,decide_eq_true_eq] at h;refine .inr (.inr (.inr (.inr (.inr (.inr ⟨h1,?_⟩)))));omega
 ·simp only[Bool.and_eq_true] at h;obtain⟨_,h⟩:=h
  split at h
  ·rename_i h2;simp only[Bool.and_eq_true] at h;exact .inr (.inl ⟨h2,da.1 h.1,da.1 h.2⟩)
  ·simp only[Bool.and_eq_true] at h;obtain⟨_,h⟩:=h
   split at h
   ·rename_i h3;exact .inr (.inr (.inl ⟨h3,da.1 h⟩))
   ·split at h
    ·rename_i h4;simp only[Bool.and_eq_true,decide_eq_true_eq] at h;exact .inr (.inr (.inr (.inl ⟨h4,by omega,da.1 h.2⟩)))
    ·split at h
     ·rename_i h5;simp only[Bool.and_eq_true,decide_eq_true_eq] at h
      rcases h5 with h5|h5
      ·exact .inr (.inr (.inr (.inr (.inl ⟨h5,by omega⟩))))
      ·exact .inr (.inr (.inr (.inr (.inr (.inl ⟨h5,by omega⟩)))))
     ·split at h
      ·rename_i h7;exact .inl h7
      ·cases h
def bJ (fr:Go.V.Fr) (k:Nat):Go.V.D:=Go.V.nth .junk fr.loc k
structure dA where
 pc:Nat
 c:np
def aI (t:dA):List D:=[.int .i64 (t.pc:Nat),.int .i64 (t.c 0),.int .i64 (t.c 1),.int .i64 (t.c 2),.int .i64 (t.c 3),.int .i64 (t.c 4),.int .i64 (t.c 5),.int .i64 (t.c 6),.int .i64 (t.c 7),.int .i64 (t.c 8),.int .i64 (t.c 9)]
def aG (dn:Bool) (f:np) (d:D):List D:=[.bool dn,.int .i64 (f 0),.int .i64 (f 1),.int .i64 (f 2),.int .i64 (f 3),.int .i64 (f 4),.int .i64 (f 5),.int .i64 (f 6),.int .i64 (f 7),.int .i64 (f 8),.int .i64 (f 9),d]
theorem EK {a:D} {f:np} {x:Nat} {v:Int} (hx:x<10):setMany (a::ay f) (1+x) [.int .i64 v]=a::ay (B2 f x v):=by
 match x,hx with
 |0,_=>rfl
 |1,_=>rfl
 |2,_=>rfl
 |3,_=>rfl
 |4,_=>rfl
 |5,_=>rfl
 |6,_=>rfl
 |7,_=>rfl
 |8,_=>rfl
 |9,_=>rfl
structure Wk where
 seen:List Bool
 dn:Bool
 aM:np
 rdy:List dA
def bR (code:List aA) (pl:Nat) (e:Bool):Nat→Wk→dA→Wk×Bool
 |0,w,_=>(w,false)
 |f+1,w,t=>
  if w.seen.getD t.pc true=true then(w,false) else
  match code[t.pc]? with
  |none=>(w,false)
  |some i=>
   if i.op=7 then(⟨w.seen.set t.pc true,true,t.c,w.rdy⟩,true)
   else if i.op=2 then
    if(bR code pl e f ⟨w.seen.set t.pc true,w.dn,w.aM,w.rdy⟩ ⟨i.x.toNat,t.c⟩).2=true then bR code pl e f ⟨w.seen.set t.pc true,w.dn,w.aM,w.rdy⟩ ⟨i.x.toNat,t.c⟩
    else bR code pl e f (bR code pl e f ⟨w.seen.set t.pc true,w.dn,w.aM,w.rdy⟩ ⟨i.x.toNat,t.c⟩).1 ⟨i.y.toNat,t.c⟩
   else if i.op=1 then(⟨w.seen.set t.pc true,w.dn,w.aM,w.rdy++[t]⟩,false)
   else if i.op=3 then bR code pl e f ⟨w.seen.set t.pc true,w.dn,w.aM,w.rdy⟩ ⟨i.x.toNat,t.c⟩
   else if i.op=4 then bR code pl e f ⟨w.seen.set t.pc true,w.dn,w.aM,w.rdy⟩ ⟨t.pc+1,B2 t.c i.x.toNat (pl:Nat)⟩
   else if i.op=5 then if pl=0 then bR code pl e f ⟨w.seen.set t.pc true,w.dn,w.aM,w.rdy⟩ ⟨t.pc+1,t.c⟩ else(⟨w.seen.set t.pc true,w.dn,w.aM,w.rdy⟩,false)
   else if e=true then bR code pl e f ⟨w.seen.set t.pc true,w.dn,w.aM,w.rdy⟩ ⟨t.pc+1,t.c⟩ else(⟨w.seen.set t.pc true,w.dn,w.aM,w.rdy⟩,false)
def Good (code:List aA) (w w':Wk):Prop:=
 w'.seen.length=w.seen.length∧w'.seen.count false≤w.seen.count false∧w'.rdy.length+w'.seen.count false≤w.rdy.length+w.seen.count false∧∀t∈w'.rdy,t∈w.rdy∨∃i,code[t.pc]?=some i∧i.op=1
theorem Good.refl {code:List aA} {w:Wk}:Good code w w:=⟨rfl,Nat.le_refl _,Nat.le_refl _,fun t h=>.inl h⟩
theorem Good.trans {code:List aA} {a b c:Wk} (h:Good code a b) (k:Good code b c):Good code a c:=
 ⟨k.1.trans h.1,Nat.le_trans k.2.1 h.2.1,Nat.le_trans k.2.2.1 h.2.2.1,fun t ht=>by
  rcases k.2.2.2 t ht with q|q
  ·exact h.2.2.2 t q
  ·exact .inr q⟩
theorem Good.step {code:List aA} {w w':Wk} {j:Nat} (hj:w.seen[j]?=some false) (k:Good code ⟨w.seen.set j true,w.dn,w.aM,w.rdy⟩ w'):Good code w w':=by
 have hc:=count_set hj;refine Good.trans (b:=⟨w.seen.set j true,w.dn,w.aM,w.rdy⟩) ⟨?_,?_,?_,fun t h=>.inl h⟩ k
 ·simp
 ·show(w.seen.set j true).count false≤_;omega
 ·show w.rdy.length+(w.seen.set j true).count false≤_;omega
theorem w6 {l:List Bool} {j:Nat} (h:¬l.getD j true=true):l[j]?=some false:=by
 rw[List.getD_eq_getElem?_getD] at h
 cases hq:l[j]? with
 |none=>rw[hq] at h;exact absurd rfl h
 |some b=>rw[hq] at h;cases b with
  |false=>rfl
  |true=>exact absurd rfl h
theorem Ac {l:List Bool} {j:Nat} {b:Bool} (h:l[j]?=some b):l.getD j true=b:=by
 rw[List.getD_eq_getElem?_getD,h];rfl
theorem cm (code:List aA) (pl:Nat) (e:Bool):∀(f:Nat) (w:Wk) (t:dA),Good code w (bR code pl e f w t).1
 |0,w,t=>.refl
 |f+1,w,t=>by
  unfold bR
  split
  ·exact .refl
  ·rename_i hs;have hs:=w6 hs;have hc:=count_set hs
   split
   ·exact .refl
   ·rename_i i hi
    split
    ·exact Good.step hs ⟨rfl,Nat.le_refl _,Nat.le_refl _,fun t h=>.inl h⟩
    ·split
     ·split
      ·exact Good.step hs (cm code pl e f _ _)
      ·exact Good.step hs ((cm code pl e f _ _).trans (cm code pl e f _ _))
     ·split
      ·rename_i h1;refine⟨by simp,by show(w.seen.set t.pc true).count false≤_;omega,by show(w.rdy++[t]).length+(w.seen.set t.pc true).count false≤_;rw[List.length_append];simp only[List.length_cons,List.length_nil];omega,fun t' h=>?_⟩
       rcases List.mem_append.1 h with h|h
       ·exact .inl h
       ·simp only[List.mem_cons,List.not_mem_nil,or_false] at h;subst h;exact .inr ⟨i,hi,h1⟩
      ·split
       ·exact Good.step hs (cm code pl e f _ _)
       ·split
        ·exact Good.step hs (cm code pl e f _ _)
        ·split
         ·split
          ·exact Good.step hs (cm code pl e f _ _)
          ·exact Good.step hs .refl
         ·split
          ·exact Good.step hs (cm code pl e f _ _)
          ·exact Good.step hs .refl
theorem EC (l:List dA):∀e∈l.map aI,e.length=11:=by
 intro e he;obtain⟨x,_,rfl⟩:=List.mem_map.1 he;rfl
theorem mh (A:List aN) {N ks:Nat} {S s0:St} {H:List aN} {seen:List Bool} {i:Nat} {b:Bool} {pd qd:D} {P Q:List Nat} (hF:S.flr≤N) (hi:seen[i]?=some b) (hok:cp P Q seen) (hH:Has N S s0 (A++(.box ks (.mem 0 false [pd,qd])::.lst pd 1 (P.map eG)::.lst qd 2 (Q.map lG)::H))):
  ∃r ab,Ev pv 104 [.ptr ks 0 0,.int .i64 (i:Nat),.bool true] s0 r ab∧r=.bool (!b)∧∃pd qd P Q,Has N S ab (A++(.box ks (.mem 0 false [pd,qd])::.lst pd 1 (P.map eG)::.lst qd 2 (Q.map lG)::H))∧cp P Q (seen.set i true):=by
 obtain⟨r,ab,h1,h2,Eh,Eg,P',Q',h3,h4⟩:=Ab (H:=A++H) hF hi ⟨pd,qd,P,Q,Has.e5 A [_,_,_] hH,hok⟩;exact⟨r,ab,h1,h2,Eh,Eg,P',Q',Has.e5 [_,_,_] A h3,h4⟩
theorem nz (A:List aN) {N ks:Nat} {S s0:St} {H:List aN} {seen:List Bool} {pd qd:D} {P Q:List Nat} (hF:S.flr≤N) (hok:cp P Q seen) (hH:Has N S s0 (A++(.box ks (.mem 0 false [pd,qd])::.lst pd 1 (P.map eG)::.lst qd 2 (Q.map lG)::H))):
  ∃r ab,Ev pv 102 [.ptr ks 0 0] s0 r ab∧r=.tup []∧∃pd qd P Q,Has N S ab (A++(.box ks (.mem 0 false [pd,qd])::.lst pd 1 (P.map eG)::.lst qd 2 (Q.map lG)::H))∧cp P Q (List.replicate seen.length false):=by
 obtain⟨r,ab,h1,h2,Eh,Eg,P',Q',h3,h4⟩:=uJ (H:=A++H) hF ⟨pd,qd,P,Q,Has.e5 A [_,_,_] hH,hok⟩;exact⟨r,ab,h1,h2,Eh,Eg,P',Q',Has.e5 [_,_,_] A h3,h4⟩
def QX (N:Nat) (S st:St) (ks kv kw kl:Nat) (p:Pg) (pl:Nat) (ld:D) (e:Bool) (w:Wk) (H:List aN):Prop:=
 ∃rd pd qd P Q,Has N S st (.box kv (.mem 0 false [p.cd,p.sd,.int .i64 (pl:Nat),ld,.ptr ks 0 0])::.box kw (.mem 0 false [.ptr kl 0 0,rd,.bool e])::.box kl (.mem 0 false (aG w.dn w.aM .nul))::.lst rd 11 (w.rdy.map aI)::.box ks (.mem 0 false [pd,qd])::.lst pd 1 (P.map eG)::.lst qd 2 (Q.map lG)::H)∧cp P Q w.seen
theorem Gj {N ks kv kw kl:Nat} {S:St} {H:List aN} {p:Pg} {pl:Nat} {ld:D} {e:Bool} (hF:S.flr≤N) (hp:p.ok) (hR:aO p) (hpl:pl≤4000000000000):∀(f:Nat) (w:Wk) (t:dA) (s0:St) (H:List aN),t.pc<p.code.length→w.seen.length=p.code.length→w.seen.count false<f→w.rdy.length+w.seen.count false≤1048576→QX N S s0 ks kv kw kl p pl ld e w H→
  ∃r ab,Ev pv 105 [.ptr kv 0 0,.ptr kw 0 0,.agg (aI t)] s0 r ab∧r=.bool (bR p.code pl e f w t).2∧QX N S ab ks kv kw kl p pl ld e (bR p.code pl e f w t).1 H
 |0,_,_,_,_,_,_,h,_,_=>absurd h (Nat.not_lt_zero _)
 |f+1,w,t,s0,H,C4,iN,dg,pL,hT=>by
  have ih:=Gj (ks:=ks) (kv:=kv) (kw:=kw) (kl:=kl) (S:=S) (H:=H) (ld:=ld) (e:=e) hF hp hR hpl f;obtain⟨rd,pd,qd,P,Q,hH,hok⟩:=hT;have hc:=hp.c.arg N S;have hlen:=hp.cl
  obtain⟨i,hi⟩:∃i,p.code[t.pc]?=some i:=⟨p.code[t.pc]'C4,List.getElem?_eq_getElem _⟩
  obtain⟨b,hb⟩:∃b,w.seen[t.pc]?=some b:=⟨w.seen[t.pc]'(by omega),List.getElem?_eq_getElem _⟩
  have hr:=fY hi;have CY:=(hp.i i (List.mem_of_getElem? hi)).1;have x4:=lg (hR.sh t.pc i hi);have IW:=Ac hb;have jb:bR p.code pl e (f+1) w t=bR p.code pl e (f+1) w t:=rfl
  conv at jb=>rhs;unfold bR
  rw[IW] at jb;simp only[hi] at jb;generalize bR p.code pl e (f+1) w t=R at*;obtain⟨op,x,y,Rl,rs⟩:=i;obtain⟨pc,c⟩:=t;simp only at*;refine Ev.fX rfl Ll rfl rfl rfl ?_;refine zE ?_;change EvC _ _ _ _ s0 _;refine qq<|qj fun K hK=>qb hH fun k5 st Ep hH=>?_;dsimp only[u2,u1,u3,u4,setMany,u5,u6,D.cells,Nat.reduceAdd,aB,aI,aG,ay] at hH;refine qm ?_;refine qe hK<|qq<|qq<|qj fun K hK=>qm ?_;refine qg ?_;refine qp (o:=4) ?_;refine ql hH at1 ?_;refine qp (o:=0) ?_;refine ql hH at0 ?_;obtain⟨_,st,hev,rfl,pd,qd,P,Q,hH,hok⟩:=mh [_,_,_,_,_] hF hb hok hH;dsimp only[u3,u4] at hH;refine qv hev ?_;refine qg ?_;refine qe hK ?_
  cases b with
  |true=>
   rw[if_pos rfl] at jb;subst jb;refine qB ?_;refine qq<|qj fun K hK=>qm ?_;refine qe hK<|EvC.ret ⟨rx,_,_,_,rfl,rfl,?_⟩;refine⟨rfl,rd,pd,qd,P,Q,hH.drop 1,?_⟩
   have:w.seen.set pc true=w.seen:=by
    refine List.ext_getElem? fun j=>?_
    by_cases hj:j=pc
    ·subst hj;rw[List.getElem?_set_self (by omega),hb]
    ·rw[List.getElem?_set_ne (fun e=>hj e.symm)]
   rw[←this];exact hok
  |false=>
   rw[if_neg (by decide)] at jb;have Dn:=count_set hb;have CV:(w.seen.set pc true).length=p.code.length:=by rw[List.length_set];exact iN
   have Kr:(w.seen.set pc true).count false<f:=by omega
   have JS:w.rdy.length+(w.seen.set pc true).count false≤1048576:=by omega
   generalize w.seen.set pc true=sn at*;clear hb IW Dn iN dg pL;refine qC ?_;refine EvC.skip<|qq<|qj fun K hK=>qm ?_;refine qg ?_;refine qp (o:=0) ?_;refine qp (o:=0) ?_;refine ql hH at1 ?_;refine qp (o:=0) ?_;refine ql hH at0 ?_;refine qr fun IF AY=>?_;refine EvO.cu rfl (ev rfl) (by assumption) rfl (by dsimp only[Fr.put,u1,u2]<;>rfl) ?_;refine qa hH fun k7 st NN hH=>?_;refine qS hH at0 fun st hH=>?_;dsimp only[u2,u1,u3,u4,setMany,u5,u6,D.cells,Nat.reduceAdd,aB,aI,aG,ay] at hH;refine qe hK<|qq<|qj fun K hK=>?_;refine EvO.hloadS (m:=11) hH rfl (ev rfl) (by exact at1) (by dsimp only[List.drop_succ_cons,List.drop_zero,List.take_succ_cons,List.take_zero,aB,aI,aG,ay]<;>rfl) rfl rfl (by dsimp only[Fr.put,u1,u2]<;>rfl) ?_;refine qa hH fun k8 st hk8 hH=>?_;refine qS hH at0 fun st hH=>?_;dsimp only[u2,u1,u3,u4,setMany,u5,u6,D.cells,Nat.reduceAdd,aB,aI,aG,ay] at hH;refine qe hK<|qq<|qj fun K hK=>qp (o:=0) ?_;refine ql hH at0 ?_;refine qA ?_;refine qp (o:=0) ?_;refine qT hH at0 fun st hH=>?_;dsimp only[u2,u1,u3,u4,setMany,u5,u6,D.cells,Nat.reduceAdd,aB,aI,aG,ay] at hH;refine qe hK<|qq<|qq<|qj fun K hK=>qp (o:=0) ?_;refine ql hH at1 ?_;refine qe hK<|EvC.merge (fun fr st=>∃(t':dA) (tmp:List (Nat×D)),fr=⟨33,[.ptr kv 0 0,.ptr kw 0 0,bJ fr 2,bJ fr 3,bJ fr 4,.ptr k5 0 0,.bool false,.ptr k7 0 0,.ptr k8 0 0,bJ fr 9,bJ fr 10,bJ fr 11,bJ fr 12,bJ fr 13,bJ fr 14,bJ fr 15,bJ fr 16,bJ fr 17,bJ fr 18,bJ fr 19,bJ fr 20,bJ fr 21,bJ fr 22,bJ fr 23,bJ fr 24,bJ fr 25,bJ fr 26,bJ fr 27,bJ fr 28,bJ fr 29,bJ fr 30,bJ fr 31,bJ fr 32],tmp⟩∧Has N S st (.box k8 (.mem 0 false (aI t'))::.box k7 (.mem 0 false [.int .i64 op,.int .i64 x,.int .i64 y,Rl])::.box k5 (.mem 0 false (aI ⟨pc,c⟩))::.box kv (.mem 0 false [p.cd,p.sd,.int .i64 (pl:Nat),ld,.ptr ks 0 0])::.box kw (.mem 0 false [.ptr kl 0 0,rd,.bool e])::.box kl (.mem 0 false (aG w.dn w.aM .nul))::.lst rd 11 (w.rdy.map aI)::.box ks (.mem 0 false [pd,qd])::.lst pd 1 (P.map eG)::.lst qd 2 (Q.map lG)::H)∧(R=bR p.code pl e f ⟨sn,w.dn,w.aM,w.rdy⟩ t')∧(t'.pc<p.code.length)) ?_ ?_
   ·refine EvC.block<|qq<|qj fun K hK=>qg ?_;refine qm ?_;refine qe hK<|zI (fun h7=>?_) fun h7=>?_
    ·rw[if_pos h7] at jb;subst jb;have jE:=hH;change EvC _ _ _ _ _ _;refine qq ?_;generalize hK:SeqQ _ _ _ _=K;refine EvC.tm rfl ?_;refine bD.cons ?_;refine qm ?_;refine EvO.nil ⟨rfl,?_⟩;refine bD.cons ?_;refine qg ?_;refine EvO.nil ⟨rfl,?_⟩;refine bD.cons ?_;refine qp (o:=0) ?_;refine EvO.nil ⟨rfl,?_⟩;refine bD.cons ?_;refine ql hH at4 ?_;refine EvO.nil ⟨rfl,?_⟩;refine bD.cons ?_;refine qm ?_;refine EvO.nil ⟨rfl,?_⟩;refine bD.cons ?_;refine qg ?_;refine EvO.nil ⟨rfl,?_⟩;refine bD.cons ?_;refine qp (o:=0) ?_;refine EvO.nil ⟨rfl,?_⟩;refine bD.cons ?_;refine ql hH at4 ?_;refine EvO.nil ⟨rfl,?_⟩;refine bD.cons ?_;refine qp (o:=1) ?_;refine EvO.nil ⟨rfl,?_⟩;refine bD.cons ?_;refine EvO.hloadS (m:=10) hH rfl (ev rfl) (by exact at2) (by dsimp only[List.drop_succ_cons,List.drop_zero,List.take_succ_cons,List.take_zero,aB,aI,aG,ay]<;>rfl) rfl rfl (put_T rfl _) ?_;refine EvO.nil ⟨rfl,?_⟩;refine bD.cons ?_;refine qg ?_;refine EvO.nil ⟨rfl,?_⟩;refine bD.cons ?_;refine qp (o:=0) ?_;refine EvO.nil ⟨rfl,?_⟩;refine bD.cons ?_;refine qT hH at5 fun st hH=>?_;dsimp only[u2,u1,u3,u4,setMany,u5,u6,D.cells,Nat.reduceAdd,aB,aI,aG,ay] at hH;refine EvO.nil ⟨by exact Bool.and_eq_true_iff.2 ⟨Bm rfl rfl rfl (jE.at at2) (hH.at at2) (jE.at at2) rfl,rfl⟩,?_⟩;refine bD.cons ?_;refine qg ?_;refine EvO.nil ⟨rfl,?_⟩;refine bD.cons ?_;refine qp (o:=1) ?_;refine EvO.nil ⟨rfl,?_⟩;refine bD.cons ?_;refine qT hH at5 fun st hH=>?_;dsimp only[u2,u1,u3,u4,setMany,u5,u6,D.cells,Nat.reduceAdd,aB,aI,aG,ay] at hH;refine EvO.nil ⟨rfl,?_⟩;refine bD.nil ?_;subst hK;refine qq<|qj fun K hK=>qm ?_;refine qe hK<|EvC.ret ⟨rx,_,_,_,rfl,rfl,?_⟩;exact⟨rfl,rd,pd,qd,P,Q,hH.drop 3,hok⟩
    ·rw[if_neg h7] at jb;refine qq<|qj fun K hK=>qg ?_;refine qm ?_;refine qe hK<|zI (fun h2=>?_) fun h2=>?_
     ·rw[if_pos h2] at jb;obtain⟨_,⟨hx0,hx1⟩,hy0,hy1⟩:=(x4.resolve_left h7).resolve_right (by omega);obtain⟨xn,rfl⟩:=Int.eq_ofNat_of_zero_le hx0;obtain⟨yn,rfl⟩:=Int.eq_ofNat_of_zero_le hy0;have hgo:=cm p.code pl e f ⟨sn,w.dn,w.aM,w.rdy⟩ ⟨xn,c⟩;have GG:=Has.e5 [_,_,_] [_,_,_,_,_,_,_] hH;obtain⟨_,st1,hev,rfl,hT⟩:=ih ⟨sn,w.dn,w.aM,w.rdy⟩ ⟨xn,c⟩ _ _ (by show xn<_;omega) CV Kr JS ⟨rd,pd,qd,P,Q,GG,hok⟩;clear GG;have jb:R=if(bR p.code pl e f ⟨sn,w.dn,w.aM,w.rdy⟩ ⟨xn,c⟩).2=true then bR p.code pl e f ⟨sn,w.dn,w.aM,w.rdy⟩ ⟨xn,c⟩ else bR p.code pl e f (bR p.code pl e f ⟨sn,w.dn,w.aM,w.rdy⟩ ⟨xn,c⟩).1 ⟨yn,c⟩:=jb;generalize bR p.code pl e f ⟨sn,w.dn,w.aM,w.rdy⟩ ⟨xn,c⟩=R1 at*;obtain⟨w1,b1⟩:=R1;obtain⟨iD,bS,hg3,hg4⟩:=hgo;simp only at iD bS hg3 hg4 hev hT jb;obtain⟨P7,P_,P8,P1,Q1,GG,J2⟩:=hT;have GG:=Has.e5 [_,_,_,_,_,_,_] [_,_,_] GG;dsimp only[u3,u4] at GG
      cases b1 with
      |true=>
       rw[if_pos rfl] at jb;subst jb;have hg8:true=true:=rfl;refine qq<|qj fun K hK=>qm ?_;refine qm ?_;refine qp (o:=1) ?_;refine ql hH at1 ?_;refine qp (o:=1) ?_;refine EvO.hloadS (m:=10) hH rfl (ev rfl) (by exact at2) (by dsimp only[List.drop_succ_cons,List.drop_zero,List.take_succ_cons,List.take_zero,aB,aI,aG,ay]<;>rfl) rfl rfl (put_T rfl _) ?_;refine EvO.go (d:=.agg (aI ⟨xn,c⟩)) (st1:=_) rfl rfl rfl (put_T rfl _) ?_;refine qv hev ?_;refine qm ?_;refine qs ?_ (hg:=wn hg8);refine qs ?_ (hg:=wn hg8);refine qs ?_ (hg:=wn hg8);refine qs ?_ (hg:=wn hg8);refine qs ?_ (hg:=wn hg8);refine qs ?_ (hg:=wn hg8);refine qs ?_ (hg:=wn hg8);refine qs ?_ (hg:=wn hg8);refine qt hg8 ?_;refine qm ?_;refine qe hK<|EvC.ret ⟨rx,_,_,_,rfl,rfl,?_⟩;exact⟨rfl,P7,P_,P8,P1,Q1,GG.drop 3,J2⟩
      |false=>
       rw[if_neg (by decide)] at jb;have hg8:false=false:=rfl;refine qq<|qj fun K hK=>qm ?_;refine qm ?_;refine qp (o:=1) ?_;refine ql hH at1 ?_;refine qp (o:=1) ?_;refine EvO.hloadS (m:=10) hH rfl (ev rfl) (by exact at2) (by dsimp only[List.drop_succ_cons,List.drop_zero,List.take_succ_cons,List.take_zero,aB,aI,aG,ay]<;>rfl) rfl rfl (put_T rfl _) ?_;refine EvO.go (d:=.agg (aI ⟨xn,c⟩)) (st1:=_) rfl rfl rfl (put_T rfl _) ?_;have hH:=GG;refine qv hev ?_;refine qm ?_;refine qm ?_ (hg:=wi hg8);refine qm ?_ (hg:=wi hg8);refine qp (o:=2) ?_ (hg:=wi hg8);refine ql hH at1 ?_ (hg:=wi hg8);refine qp (o:=1) ?_ (hg:=wi hg8);refine EvO.hloadS (m:=10) hH (wantD_is rfl rfl rfl hg8) (ev rfl) (by exact at2) (by dsimp only[List.drop_succ_cons,List.drop_zero,List.take_succ_cons,List.take_zero,aB,aI,aG,ay]<;>rfl) rfl rfl (put_T rfl _) ?_;refine EvO.go (d:=.agg (aI ⟨yn,c⟩)) (st1:=_) (wantD_is rfl rfl rfl hg8) rfl rfl (put_T rfl _) ?_;obtain⟨_,st,hev,rfl,hT⟩:=ih w1 ⟨yn,c⟩ _ _ (by show yn<_;omega) (by omega) (by omega) (by omega) ⟨P7,P_,P8,P1,Q1,hH.drop 3,J2⟩;refine qv hev ?_ (hg:=wi hg8);refine qu hg8 ?_;refine qm ?_;refine qe hK<|EvC.ret ⟨rx,_,_,_,rfl,rfl,?_⟩;rw[jb];exact⟨rfl,hT⟩
     ·rw[if_neg h2] at jb;refine qq<|qj fun K hK=>qg ?_;refine qm ?_;refine qe hK<|zI (fun h1=>?_) fun h1=>?_
      ·rw[if_pos h1] at jb;subst jb;refine qq<|qj fun K hK=>qm ?_;refine qm ?_;refine qg ?_;refine qp (o:=1) ?_;refine ql hH at4 ?_;refine EvO.hloadS (m:=11) hH rfl (ev rfl) (by exact at2) (by dsimp only[List.drop_succ_cons,List.drop_zero,List.take_succ_cons,List.take_zero,aB,aI,aG,ay]<;>rfl) rfl rfl (put_T rfl _) ?_;refine qh (s:=11) (vs:=[_]) hH fun k77 st J' hH=>?_;refine EvO.happend (s:=11) hH rfl (ev rfl) (ev rfl) (by exact at7) (by exact hH.rows (by exact at0)) rfl rfl rfl rfl rfl rfl rfl ⟨(Nat.le_of_ble_eq_true rfl),(Nat.le_of_ble_eq_true rfl)⟩ (fun _=>(put_T rfl _)) (by simp only[List.length_cons,List.length_nil,List.length_map]<;>omega) (by exact .inl hF) (fun Q3 st hH=>?_);dsimp only[u2,u1,u3,u4,setMany,u5,u6,D.cells,Nat.reduceAdd,aB,aI,aG,ay] at hH;refine qg ?_;refine qp (o:=1) ?_;refine qT hH at5 (fun st hH=>?_) (gM:=hH.ocells at7);dsimp only[u2,u1,u3,u4,setMany,u5,u6,D.cells,Nat.reduceAdd,aB,aI,aG,ay] at hH;refine qe hK<|qq<|qj fun K hK=>qm ?_;refine qe hK<|EvC.ret ⟨rx,_,_,_,rfl,rfl,?_⟩;refine⟨rfl,Q3,pd,qd,P,Q,?_,hok⟩;rw[List.map_append];exact hH.drop 4
      ·rw[if_neg h1] at jb;refine qq<|qj fun K hK=>qg ?_;refine qm ?_;refine qe hK<|zI (fun h3=>?_) fun h3=>?_
       ·rw[if_pos h3] at jb;obtain⟨_,hx0,hx1⟩:=((x4.resolve_left h7).resolve_left (by omega)).resolve_right (by omega);obtain⟨xn,rfl⟩:=Int.eq_ofNat_of_zero_le hx0;refine qj fun K hK=>qp (o:=1) ?_;refine ql hH at1 ?_;refine qp (o:=0) ?_;refine qT hH at0 fun st hH=>?_;dsimp only[u2,u1,u3,u4,setMany,u5,u6,D.cells,Nat.reduceAdd,aB,aI,aG,ay] at hH;refine qe hK ?_;exact⟨⟨xn,c⟩,_,rfl,hH,jb,by show xn<_;omega⟩
       ·rw[if_neg h3] at jb;refine qq<|qj fun K hK=>qg ?_;refine qm ?_;refine qe hK<|zI (fun h4=>?_) fun h4=>?_
        ·rw[if_pos h4] at jb;obtain⟨_,C3,hx0,hx1⟩:=(((x4.resolve_left h7).resolve_left (by omega)).resolve_left (by omega)).resolve_right (by omega);obtain⟨xn,rfl⟩:=Int.eq_ofNat_of_zero_le hx0;refine qj fun K hK=>qp (o:=1) ?_;refine ql hH at1 ?_;refine qm ?_;refine qg ?_;refine qp (o:=2) ?_;refine ql hH at3 ?_;refine qp (o:=1) ?_;refine EvO.HZ (m:=10) (s:=1) (i:=xn) (o:=1+xn) rfl (ev rfl) (ev rfl) rfl rfl (by omega) (by omega) (put_T rfl _) ?_;refine EvO.pJ hH rfl (ev rfl) (ev rfl) rfl (by exact rfl) at0 (by show 1+xn+1≤11;omega) (.inl hF) (fun st hH=>?_);change Has _ _ _ (.box k8 (.mem 0 false (setMany (_::ay c) (1+xn) [.int .i64 (pl:Nat)]))::_) at hH;rw[EK (by omega)] at hH;refine qe hK ?_;exact⟨⟨pc+1,B2 c xn (pl:Nat)⟩,_,rfl,hH,jb,C3⟩
        ·rw[if_neg h4] at jb;refine qq<|qj fun K hK=>qg ?_;refine qm ?_;refine qe hK<|zI (fun h5=>?_) fun h5=>?_
         ·rw[if_pos h5] at jb;have C3:pc+1<p.code.length:=by omega
          refine qq<|qj fun K hK=>qm ?_;refine qg ?_;refine qp (o:=2) ?_;refine ql hH at3 ?_;refine qg ?_;refine qe hK ?_
          by_cases ha:pl=0
          ·rw[if_pos ha] at jb;subst ha;refine EvC.cond (v:=false) (by dsimp only[Fr.ev,Fr.get,nth,V.look];rfl) (fun h=>by cases h) (fun _=>?_);refine EvC.skip ?_;exact⟨⟨pc+1,c⟩,_,rfl,hH,jb,C3⟩
          ·rw[if_neg ha] at jb;subst jb;refine qD rfl (by simp;omega) ?_;refine qq<|qj fun K hK=>qm ?_;refine qe hK<|EvC.ret ⟨rx,_,_,_,rfl,rfl,?_⟩;exact⟨rfl,rd,pd,qd,P,Q,hH.drop 3,hok⟩
         ·rw[if_neg h5] at jb;have h6:op=6:=by omega
          have C3:pc+1<p.code.length:=by omega
          refine qq<|qj fun K hK=>qg ?_;refine qm ?_;refine qe hK<|qD rfl (by simp[h6]) ?_;refine qq<|qj fun K hK=>qm ?_;refine qg ?_;refine qp (o:=2) ?_;refine ql hH at4 ?_;refine qg ?_;refine qe hK ?_
          cases e with
          |true=>
           rw[if_pos rfl] at jb;refine qC ?_;refine EvC.skip ?_;exact⟨⟨pc+1,c⟩,_,rfl,hH,jb,C3⟩
          |false=>
           rw[if_neg (by decide)] at jb;subst jb;refine qB ?_;refine qq<|qj fun K hK=>qm ?_;refine qe hK<|EvC.ret ⟨rx,_,_,_,rfl,rfl,?_⟩;exact⟨rfl,rd,pd,qd,P,Q,hH.drop 3,hok⟩
   ·rintro fr st ⟨t',tmp,hfr,hH,Ul,Nd⟩;rw[hfr];clear hfr;generalize bJ fr=ee;clear fr;obtain⟨Rt,c'⟩:=t';dsimp only[aI] at hH;refine qq<|qj fun K hK=>qm ?_;refine qm ?_;refine EvO.hloadS (m:=11) hH rfl (ev rfl) (by exact at0) (by dsimp only[List.drop_succ_cons,List.drop_zero,List.take_succ_cons,List.take_zero,aB,aI,aG,ay]<;>rfl) rfl rfl (put_T rfl _) ?_;have hH:=hH.drop 3;obtain⟨_,st,hev,rfl,hT⟩:=ih ⟨sn,w.dn,w.aM,w.rdy⟩ ⟨Rt,c'⟩ _ _ Nd CV Kr JS ⟨rd,pd,qd,P,Q,hH,hok⟩;refine qv hev ?_;refine qm ?_;refine qe hK<|EvC.ret ⟨rx,_,_,_,rfl,rfl,?_⟩;rw[Ul];exact⟨rfl,hT⟩
def bM (fr:Go.V.Fr) (k:Nat):Go.V.D:=Go.V.nth .junk fr.loc k
structure VL where
 dn:Bool
 aM:np
 td:D
 aU:List dA
def dW (l:VL):List D:=aG l.dn l.aM l.td
def jR (l:VL):aN:=.lst l.td 11 (l.aU.map aI)
theorem BH (A:List aN) {n:Nat} (hn:A.length=n) {L:List VL} {i:Nat} {l:VL} (h:L[i]?=some l) {H:List aN}:(A++(L.map jR++H))[n+i]?=some (jR l):=by
 have hi:=lt_get h;rw[List.getElem?_append_right (by omega),List.getElem?_append_left (by simp;omega),hn,Nat.add_sub_cancel_left,List.getElem?_map,h];rfl
theorem wQ {L:List VL} {i:Nat} {l:VL} (h:L[i]?=some l):(L.map dW)[i]?=some (dW l):=by rw[List.getElem?_map,h];rfl
theorem te {l:List dA} {i:Nat} {q:dA} (h:l[i]?=some q):(l.map aI)[i]?=some (aI q):=by rw[List.getElem?_map,h];rfl
theorem pq {N:Nat} {S st:St} {H:List aN} {j:Nat} {x:D} {s:Nat} {es:List (List D)} (h:Has N S st H) (hj:H[j]?=some (.lst x s es)):x.ref≤st.bs.length:=by
 rcases Nat.eq_zero_or_pos x.ref with h0|h0
 ·omega
 ·have:=h.sB hj (k:=x.ref-1) (by show x.ref=x.ref-1+1;omega);omega
def MH (A:List aN) (N:Nat) (S st:St) (ks kv:Nat) (p:Pg) (pl:Nat) (ld:D) (L:List VL) (H:List aN):Prop:=
 ∃pd qd P Q sn,Has N S st (A++(.box kv (.mem 0 false [p.cd,p.sd,.int .i64 (pl:Nat),ld,.ptr ks 0 0])::.box ks (.mem 0 false [pd,qd])::.lst pd 1 (P.map eG)::.lst qd 2 (Q.map lG)::.lst ld 12 (L.map dW)::(L.map jR++H)))∧cp P Q sn∧sn.length=p.code.length
theorem MH.push (A B:List aN) {N:Nat} {S st:St} {ks kv:Nat} {p:Pg} {pl:Nat} {ld:D} {L:List VL} {H:List aN} (h:MH (A++B) N S st ks kv p pl ld L H):MH B N S st ks kv p pl ld L (A++H):=by
 obtain⟨pd,qd,P,Q,sn,hH,hok,cY⟩:=h;refine⟨pd,qd,P,Q,sn,?_,hok,cY⟩;have:=Has.e5 (H:=H) A (B++(.box kv (.mem 0 false [p.cd,p.sd,.int .i64 (pl:Nat),ld,.ptr ks 0 0])::.box ks (.mem 0 false [pd,qd])::.lst pd 1 (P.map eG)::.lst qd 2 (Q.map lG)::.lst ld 12 (L.map dW)::L.map jR)) (by simpa only[List.append_assoc,List.cons_append] using hH)
 simpa only[List.append_assoc,List.cons_append] using this
theorem MH.pull (A B:List aN) {N:Nat} {S st:St} {ks kv:Nat} {p:Pg} {pl:Nat} {ld:D} {L:List VL} {H:List aN} (h:MH B N S st ks kv p pl ld L (A++H)):MH (A++B) N S st ks kv p pl ld L H:=by
 obtain⟨pd,qd,P,Q,sn,hH,hok,cY⟩:=h;refine⟨pd,qd,P,Q,sn,?_,hok,cY⟩;have:=Has.e5 (H:=H) (B++(.box kv (.mem 0 false [p.cd,p.sd,.int .i64 (pl:Nat),ld,.ptr ks 0 0])::.box ks (.mem 0 false [pd,qd])::.lst pd 1 (P.map eG)::.lst qd 2 (Q.map lG)::.lst ld 12 (L.map dW)::L.map jR)) A (by simpa only[List.append_assoc,List.cons_append] using hH)
 simpa only[List.append_assoc,List.cons_append] using this
def nR (code:List aA) (pl:Nat) (e:Bool):List dA→Wk→Wk
 |[],w=>w
 |t::ts,w=>if(bR code pl e (code.length+1) w t).2=true then(bR code pl e (code.length+1) w t).1 else nR code pl e ts (bR code pl e (code.length+1) w t).1
def l_ (n:Nat) (dn:Bool) (aM:np):Wk:=⟨List.replicate n false,dn,aM,[]⟩
theorem pZ (code:List aA) (pl:Nat) (e:Bool):∀(l:List dA) (w:Wk),Good code w (nR code pl e l w)
 |[],w=>.refl
 |t::ts,w=>by
  unfold nR
  split
  ·exact cm ..
  ·exact(cm ..).trans (pZ code pl e ts _)
theorem sK {N ks kv:Nat} {S s0:St} {H:List aN} {p:Pg} {pl:Nat} {ld:D} {L:List VL} {i:Nat} {l:VL} {e:Bool} (hF:S.flr≤N) (hp:p.ok) (hR:aO p) (hpl:pl≤4000000000000) (hl:L[i]?=some l) (uh:∀t∈l.aU,t.pc<p.code.length) (lH:l.aU.length≤1048576) (hM:MH [] N S s0 ks kv p pl ld L H):
  ∃r ab,Ev pv 68 [.ptr kv 0 0,.int .i64 (i:Nat),.bool e] s0 r ab∧∃rd,r=.tup [.agg (aG (nR p.code pl e l.aU (l_ p.code.length l.dn l.aM)).dn (nR p.code pl e l.aU (l_ p.code.length l.dn l.aM)).aM .nul),rd]∧MH [.lst rd 11 ((nR p.code pl e l.aU (l_ p.code.length l.dn l.aM)).rdy.map aI)] N S ab ks kv p pl ld L H:=by
 obtain⟨pd,qd,P,Q,sn,hH,hok,cY⟩:=hM;have hcl:=hR.cl;have hr1:=wQ hl;have hil:=lt_get hl;generalize hW:nR p.code pl e l.aU (l_ p.code.length l.dn l.aM)=W at*;obtain⟨dn,aM,td,aU⟩:=l;simp only at hW uh lH;dsimp only[u4] at hH;refine Ev.fX rfl O4 rfl rfl rfl ?_;refine zE ?_;change EvC _ _ _ _ s0 _;refine qq<|qj fun K hK=>qa hH fun k6 st A0 hH=>?_;refine qm ?_;refine qe hK<|qq<|qj fun K hK=>qm ?_;refine qg ?_;refine qp (o:=3) ?_;refine ql hH at1 ?_;refine qm ?_;refine qi hH at5 fun Qb JZ=>?_;refine EvO.tw hH rfl (ev rfl) (by assumption) (by exact at5) (by assumption) rfl (by dsimp only[Fr.put,u1,u2]<;>rfl) ?_;refine qa hH fun k8 st hk8 hH=>?_;refine qS hH at0 fun st hH=>?_;dsimp only[u2,u1,u3,u4,setMany,u5,u6,D.cells,Nat.reduceAdd,aB,aI,aG,ay,dW] at hH;refine qe hK<|qq<|qj fun K hK=>qp (o:=0) ?_;refine ql hH at0 ?_;refine qp (o:=1) ?_;refine EvO.hloadS (m:=10) hH rfl (ev rfl) (by exact at0) (by dsimp only[List.drop_succ_cons,List.drop_zero,List.take_succ_cons,List.take_zero,aB,aI,aG,ay,dW]<;>rfl) rfl rfl (by dsimp only[Fr.put,u1,u2]<;>rfl) ?_;refine EvO.go (d:=.agg (aG dn aM .nul)) (st1:=_) rfl rfl rfl (by dsimp only[Fr.put,u1,u2]<;>rfl) ?_;refine qa hH fun k9 st Tj hH=>?_;refine qS hH at0 fun st hH=>?_;dsimp only[u2,u1,u3,u4,setMany,u5,u6,D.cells,Nat.reduceAdd,aB,aI,aG,ay,dW] at hH;refine qe hK<|qq<|qj fun K hK=>qm ?_;refine EvO.eE (qs:=[(0,_),(2,_)]) rfl rfl rfl rfl ⟨rfl,(ev rfl),(by rfl),rfl,(ev rfl),(by rfl),trivial⟩ (by intro q hq;simp only[List.mem_cons,List.not_mem_nil,or_false] at hq;rcases hq with rfl|rfl<;>exact⟨rfl,by exact Nat.le_of_ble_eq_true rfl⟩) (by show List.foldl _ [_,_,_] _=_;dsimp only[List.foldl_cons,List.foldl_nil,u2,u1]<;>rfl) (by dsimp only[Fr.put,u1,u2]<;>rfl) ?_;refine qb hH fun k27 st TE hH=>?_;refine qm ?_;refine qe hK ?_;have bP:=hH;refine qq<|qj fun K hK=>qm ?_;refine qg ?_;refine qp (o:=4) ?_;refine ql hH at4 ?_;obtain⟨_,st,hev,rfl,pd,qd,P,Q,hH,hok⟩:=nz [_,_,_,_,_] hF hok hH;dsimp only[u3,u4] at hH;refine qv hev ?_;refine qe hK ?_;clear bP;rw[cY] at hok;have hH:=Has.e5 [_,_,_,_] [_] hH;have hH:=Has.e5 [_,_,_,_,_] [_,_,_] hH;have hH:=Has.e5 [_,_,_] [_,_,_] hH;have hH:=Has.e5 [_] [_,_,_] (hH.nulE 11);dsimp only[u3,u4] at hH;have M3:=hH.rows (BH [_,_,_,_,_,_,_,_,_,_] rfl hl);have Qy:=pZ p.code pl e aU (l_ p.code.length dn aM);refine qq<|qq<|qj fun K hK=>qp (o:=11) ?_;refine ql hH at7 ?_;refine EvO.rlen rfl (ev rfl) M3 rfl (by dsimp only[Fr.put,u1,u2]<;>rfl) ?_;simp only[List.length_map];refine qm ?_;refine qe hK<|EvC.block<|EvC.loop (fun mm fr st=>∃(j:Nat) (w:Wk) (rest:List dA) (rd pd qd:D) (P Q:List Nat),fr.clean=⟨37,[.ptr kv 0 0,.int .i64 (i:Nat),.bool e,bM fr 3,bM fr 4,bM fr 5,.ptr k6 0 0,.nul,.ptr k8 0 0,.ptr k9 0 0,.ptr k27 0 0,bM fr 11,bM fr 12,bM fr 13,bM fr 14,bM fr 15,bM fr 16,bM fr 17,bM fr 18,bM fr 19,bM fr 20,bM fr 21,bM fr 22,bM fr 23,bM fr 24,bM fr 25,bM fr 26,bM fr 27,bM fr 28,bM fr 29,bM fr 30,bM fr 31,bM fr 32,bM fr 33,td,.int .i64 (aU.length:Nat),.int .i64 (j:Nat)],[]⟩∧Has N S st (.box kv (.mem 0 false [p.cd,p.sd,.int .i64 (pl:Nat),ld,.ptr ks 0 0])::.box k27 (.mem 0 false [.ptr k9 0 0,rd,.bool e])::.box k9 (.mem 0 false (aG w.dn w.aM .nul))::.lst rd 11 (w.rdy.map aI)::.box ks (.mem 0 false [pd,qd])::.lst pd 1 (P.map eG)::.lst qd 2 (Q.map lG)::.box k8 (.mem 0 false (aG dn aM td))::.box k6 (.mem 0 false (aG false oF .nul))::.lst ld 12 (L.map dW)::(L.map jR++H))∧(j+mm=aU.length)∧(rest=aU.drop j)∧(nR p.code pl e rest w=W)∧(w.seen.length=p.code.length)∧(w.rdy.length+w.seen.count false≤1048576)∧(cp P Q w.seen)) (aU.length) ?_ ?_
 ·exact⟨0,l_ p.code.length dn aM,aU,.nul,_,_,_,_,rfl,hH,by omega,rfl,hW,by simp[l_],by(have:=List.count_le_length (a:=false) (l:=(l_ p.code.length dn aM).seen);simp[l_] at this⊢;omega),hok⟩
 rintro mm fr st ⟨j,w,rest,rd,pd,qd,P,Q,hfr,hH,hj,lI,hex,iN,pL,hok⟩;rw[hfr];clear hfr;generalize bM fr=ee;clear fr;refine qq<|qj fun K hK=>qg ?_;refine qe hK ?_;have M3:=hH.rows (BH [_,_,_,_,_,_,_,_,_,_] rfl hl);refine qq<|zP (fun hlt=>?_) fun hlt=>?_
 ·refine EvC.skip ?_;have iS:j<aU.length:=by omega
  obtain⟨t,ht⟩:∃t,aU[j]?=some t:=⟨aU[j]'iS,List.getElem?_eq_getElem _⟩
  have JP:=te ht;have MO:=uh t (List.mem_of_getElem? ht)
  have vT:rest=t::aU.drop (j+1):=by
   rw[lI,List.drop_eq_getElem_cons iS]
   congr 1
   exact Option.some.inj ((List.getElem?_eq_getElem _).symm.trans ht)
  have Dn:=List.count_le_length (a:=false) (l:=w.seen);have hgo:=cm p.code pl e (p.code.length+1) w t;rw[vT] at hex;have hex:(if(bR p.code pl e (p.code.length+1) w t).2=true then(bR p.code pl e (p.code.length+1) w t).1 else nR p.code pl e (aU.drop (j+1)) (bR p.code pl e (p.code.length+1) w t).1)=W:=hex;refine qq<|EvC.block<|qq<|qj fun K hK=>EvO.ridx rfl (ev rfl) (ev rfl) M3 rfl rfl JP (fun _=>(put_T rfl _)) (fun RF Nt=>?_);refine qR ?_;refine qa hH fun k12 st TL hH=>?_;dsimp only[u2,u1,u3,u4,setMany,u5,u6,D.cells,Nat.reduceAdd,aB,aI,aG,ay,dW] at hH;refine qS hH at0 fun st hH=>?_;dsimp only[u2,u1,u3,u4,setMany,u5,u6,D.cells,Nat.reduceAdd,aB,aI,aG,ay,dW] at hH;refine qe hK<|qq<|qj fun K hK=>qm ?_;refine qm ?_;refine EvO.hloadS (m:=11) hH rfl (ev rfl) (by exact at0) (by dsimp only[List.drop_succ_cons,List.drop_zero,List.take_succ_cons,List.take_zero,aB,aI,aG,ay,dW]<;>rfl) rfl rfl (put_T rfl _) ?_;have hH:=hH.drop 1;obtain⟨_,st,hev,rfl,hT⟩:=Gj (ks:=ks) (kv:=kv) (kw:=k27) (kl:=k9) (S:=S) (H:=H) (ld:=ld) (e:=e) hF hp hR hpl (p.code.length+1) w t _ _ MO iN (by omega) pL ⟨rd,pd,qd,P,Q,hH,hok⟩;refine qv hev ?_;refine qe hK ?_;generalize bR p.code pl e (p.code.length+1) w t=R1 at*;obtain⟨w1,b1⟩:=R1;obtain⟨iD,bS,hg3,hg4⟩:=hgo;simp only at iD bS hg3 hg4 hT hex;obtain⟨rd,pd,qd,P,Q,hH,hok⟩:=hT;have CV:w1.seen.length=p.code.length:=iD.trans iN
  cases b1 with
  |true=>
   rw[if_pos rfl] at hex;subst hex;refine qB ?_;refine EvC.exit ?_;have hH:=Has.e5 [_,_,_,_,_,_,_] [_,_] hH;dsimp only[u3,u4] at hH;have jE:=hH;have JU:=pq hH at5;have JT:=hH.sB at4 (k:=k9) rfl;change EvC _ _ _ _ _ _;refine qq ?_;generalize hK:SeqQ _ _ _ _=K;refine EvC.tm rfl ?_;refine bD.cons ?_;refine EvO.hloadS (m:=12) hH rfl (ev rfl) (by exact at4) (by dsimp only[List.drop_succ_cons,List.drop_zero,List.take_succ_cons,List.take_zero,aB,aI,aG,ay,dW]<;>rfl) rfl rfl (put_T rfl _) ?_;refine EvO.nil ⟨rfl,?_⟩;refine bD.cons ?_;refine qm ?_;refine EvO.nil ⟨rfl,?_⟩;refine bD.cons ?_;refine qg ?_;refine EvO.nil ⟨rfl,?_⟩;refine bD.cons ?_;refine qp (o:=1) ?_;refine EvO.nil ⟨rfl,?_⟩;refine bD.cons ?_;refine ql hH at3 ?_;refine EvO.nil ⟨rfl,?_⟩;refine bD.cons ?_;refine qS hH at1 fun st hH=>?_;dsimp only[u2,u1,u3,u4,setMany,u5,u6,D.cells,Nat.reduceAdd,aB,aI,aG,ay,dW] at hH;refine EvO.nil ⟨by exact Bool.and_eq_true_iff.2 ⟨fu rfl rfl rfl (jE.at at3) (hH.at at3) (jE.at at3) (by simp only[refs,D.ref];omega),rfl⟩,?_⟩;refine bD.cons ?_;refine qm ?_;refine EvO.nil ⟨rfl,?_⟩;refine bD.nil ?_;subst hK;refine EvC.ret ⟨rx,_,_,_,hH.oZ rfl at1 rfl rfl,rfl,rd,rfl,pd,qd,P,Q,_,?_,hok,CV⟩;exact((Has.e5 [_,_,_] [_] (hH.drop 2)).erase 2).erase 2
  |false=>
   rw[if_neg (by decide)] at hex;refine qC ?_;refine EvC.skip<|qj fun K hK=>qA ?_;refine qm ?_;refine qe hK ?_;exact⟨mm-1,by omega,⟨j+1,w1,aU.drop (j+1),rd,pd,qd,P,Q,rfl,hH,by omega,rfl,hex,CV,by omega,hok⟩⟩
 ·refine EvC.exit ?_;have C9:rest=[]:=by rw[lI,List.drop_eq_nil_iff];omega
  subst C9;have hex:w=W:=hex;subst hex;have hH:=Has.e5 [_,_,_,_,_,_,_] [_,_] hH;dsimp only[u3,u4] at hH;have jE:=hH;have JU:=pq hH at5;have JT:=hH.sB at4 (k:=k9) rfl;change EvC _ _ _ _ _ _;refine qq ?_;generalize hK:SeqQ _ _ _ _=K;refine EvC.tm rfl ?_;refine bD.cons ?_;refine EvO.hloadS (m:=12) hH rfl (ev rfl) (by exact at4) (by dsimp only[List.drop_succ_cons,List.drop_zero,List.take_succ_cons,List.take_zero,aB,aI,aG,ay,dW]<;>rfl) rfl rfl (put_T rfl _) ?_;refine EvO.nil ⟨rfl,?_⟩;refine bD.cons ?_;refine qm ?_;refine EvO.nil ⟨rfl,?_⟩;refine bD.cons ?_;refine qg ?_;refine EvO.nil ⟨rfl,?_⟩;refine bD.cons ?_;refine qp (o:=1) ?_;refine EvO.nil ⟨rfl,?_⟩;refine bD.cons ?_;refine ql hH at3 ?_;refine EvO.nil ⟨rfl,?_⟩;refine bD.cons ?_;refine qS hH at1 fun st hH=>?_;dsimp only[u2,u1,u3,u4,setMany,u5,u6,D.cells,Nat.reduceAdd,aB,aI,aG,ay,dW] at hH;refine EvO.nil ⟨by exact Bool.and_eq_true_iff.2 ⟨fu rfl rfl rfl (jE.at at3) (hH.at at3) (jE.at at3) (by simp only[refs,D.ref];omega),rfl⟩,?_⟩;refine bD.cons ?_;refine qm ?_;refine EvO.nil ⟨rfl,?_⟩;refine bD.nil ?_;subst hK;refine EvC.ret ⟨rx,_,_,_,hH.oZ rfl at1 rfl rfl,rfl,rd,rfl,pd,qd,P,Q,_,?_,hok,iN⟩;exact((Has.e5 [_,_,_] [_] (hH.drop 2)).erase 2).erase 2
def aV (fr:Go.V.Fr) (k:Nat):Go.V.D:=Go.V.nth .junk fr.loc k
def gZ (l:List dA) (k:Nat):Bool:=l.any fun x=>x.pc==k
def nh (l:List dA) (t:dA):List dA:=if gZ l t.pc=true then l else l++[t]
def Ak (code:List aA) (pc:Nat):List Rg:=match code[pc]? with
 |some i=>i.rs
 |none=>[]
def eH (code:List aA) (r:Int):List dA→List dA→List dA
 |[],a=>a
 |t::ts,a=>eH code r ts (if kL (Ak code t.pc) r=true then nh a ⟨t.pc+1,t.c⟩ else a)
structure PL where
 dn:Bool
 aM:np
 aU:List dA
def et (code:List aA) (pl start:Nat) (r:Int) (l:PL):PL:=
 ⟨(nR code pl false l.aU (l_ code.length l.dn l.aM)).dn,(nR code pl false l.aU (l_ code.length l.dn l.aM)).aM,
  if(nR code pl false l.aU (l_ code.length l.dn l.aM)).dn=true then eH code r (nR code pl false l.aU (l_ code.length l.dn l.aM)).rdy []
  else nh (eH code r (nR code pl false l.aU (l_ code.length l.dn l.aM)).rdy []) ⟨start,aZ⟩⟩
theorem x6 (l:List dA) (t:dA) (k:Nat):gZ (l++[t]) k=(gZ l k||t.pc==k):=by
 unfold gZ;rw[List.any_append];simp
theorem wF (l:List dA) (t:dA):(nh l t).length≤l.length+1:=by
 unfold nh;split
 ·omega
 ·simp
theorem rf {l:List dA} {t x:dA} (h:x∈nh l t):x∈l∨x=t:=by
 unfold nh at h;split at h
 ·exact .inl h
 ·rcases List.mem_append.1 h with h|h
  ·exact .inl h
  ·exact .inr (by simpa using h)
theorem pf {code:List aA} {r:Int}:∀(l a:List dA),(eH code r l a).length≤l.length+a.length∧∀x∈eH code r l a,x∈a∨∃t∈l,x.pc=t.pc+1
 |[],a=>⟨by simp[eH],fun x h=>.inl h⟩
 |t::ts,a=>by
  unfold eH
  split
  ·obtain⟨h1,h2⟩:=pf (code:=code) (r:=r) ts (nh a ⟨t.pc+1,t.c⟩);have:=wF a ⟨t.pc+1,t.c⟩;refine⟨by simp only[List.length_cons];omega,fun x hx=>?_⟩
   rcases h2 x hx with h|⟨y,hy,he⟩
   ·rcases rf h with h|h
    ·exact .inl h
    ·exact .inr ⟨t,List.mem_cons_self ..,by rw[h]⟩
   ·exact .inr ⟨y,List.mem_cons_of_mem _ hy,he⟩
  ·obtain⟨h1,h2⟩:=pf (code:=code) (r:=r) ts a;refine⟨by simp only[List.length_cons];omega,fun x hx=>?_⟩
   rcases h2 x hx with h|⟨y,hy,he⟩
   ·exact .inl h
   ·exact .inr ⟨y,List.mem_cons_of_mem _ hy,he⟩
def PL.ok (n:Nat) (l:PL):Prop:=(∀t∈l.aU,t.pc<n)∧l.aU.length≤1000
theorem rK {code:List aA} {pl:Nat} {e:Bool} {l:List dA} {dn:Bool} {aM:np}:(nR code pl e l (l_ code.length dn aM)).rdy.length≤code.length∧∀t∈(nR code pl e l (l_ code.length dn aM)).rdy,∃i,code[t.pc]?=some i∧i.op=1:=by
 obtain⟨_,_,h3,h4⟩:=pZ code pl e l (l_ code.length dn aM);have:=List.count_le_length (a:=false) (l:=(l_ code.length dn aM).seen);simp only[l_,List.length_replicate,List.length_nil] at h3 this;refine⟨by simp only[l_];omega,fun t ht=>?_⟩
 rcases h4 t ht with h|h
 ·simp[l_] at h
 ·exact h
theorem uW {p:Pg} (hR:aO p) {t:dA} (h:∃i,p.code[t.pc]?=some i∧i.op=1):t.pc+1<p.code.length:=by
 obtain⟨i,hi,h1⟩:=h;have:=lg (hR.sh t.pc i hi);omega
theorem BR {p:Pg} (hR:aO p) {pl start:Nat} {r:Int} {l:PL} (hs:start<p.code.length):(et p.code pl start r l).ok p.code.length:=by
 obtain⟨h1,h2⟩:=rK (code:=p.code) (pl:=pl) (e:=false) (l:=l.aU) (dn:=l.dn) (aM:=l.aM);have hcl:=hR.cl;unfold et PL.ok;generalize nR p.code pl false l.aU (l_ p.code.length l.dn l.aM)=w at*;obtain⟨h3,h4⟩:=pf (code:=p.code) (r:=r) w.rdy []
 have h5:∀x∈eH p.code r w.rdy [],x.pc<p.code.length:=fun x hx=>by
  rcases h4 x hx with h|⟨t,ht,he⟩
  ·cases h
  ·have:=uW hR (h2 t ht);omega
 simp only[List.length_nil] at h3;simp only
 split
 ·exact⟨h5,by omega⟩
 ·refine⟨fun x hx=>?_,?_⟩
  ·rcases rf hx with h|h
   ·exact h5 x h
   ·rw[h];exact hs
  ·have:=wF (eH p.code r w.rdy []) ⟨start,aZ⟩;omega
theorem BQ (cC:∀st,Ev pv 63 [] st (.agg (ay aZ)) st) {N ks kv:Nat} {S s0:St} {H:List aN} {p:Pg} {pl:Nat} {ld:D} {L:List VL} {i start:Nat} {l:VL} {r:Int} (hF:S.flr≤N) (hp:p.ok) (hR:aO p) (hpl:pl≤4000000000000) (hl:L[i]?=some l) (Hn:p.ah[i]?=some ((start:Nat):Int)) (uh:(⟨l.dn,l.aM,l.aU⟩:PL).ok p.code.length) (hM:MH [] N S s0 ks kv p pl ld L H):
  ∃d ab,Ev pv 66 [.ptr kv 0 0,.int .i64 (i:Nat),.int .i32 r] s0 d ab∧∃td,d=.agg (aG (et p.code pl start r ⟨l.dn,l.aM,l.aU⟩).dn (et p.code pl start r ⟨l.dn,l.aM,l.aU⟩).aM td)∧MH [.lst td 11 ((et p.code pl start r ⟨l.dn,l.aM,l.aU⟩).aU.map aI)] N S ab ks kv p pl ld L H:=by
 have hcl:=hR.cl;have hc:=hp.c.arg N S;have hs:=hp.s.arg N S;have hlen:=hp.cl;have Hk:start<p.code.length:=by have:=(hR.st _ (List.mem_of_getElem? Hn)).2;omega
 have LO:=dX Hn;obtain⟨JH,MP⟩:=uh;simp only at JH MP;obtain⟨hb1,hb2⟩:=rK (code:=p.code) (pl:=pl) (e:=false) (l:=l.aU) (dn:=l.dn) (aM:=l.aM);obtain⟨pd,qd,P,Q,sn,hH,hok,cY⟩:=hM;dsimp only[u4] at hH;unfold et;simp only;refine Ev.fX rfl O5 rfl rfl rfl ?_;refine zE ?_;change EvC _ _ _ _ s0 _;refine zQ 2 ?_;refine qa hH fun k6 st A0 hH=>?_;refine zQ 1 ?_;obtain⟨_,st1,hev,rd,rfl,hM⟩:=sK (e:=false) hF hp hR hpl hl JH (by omega) (MH.push [_] [] ⟨pd,qd,P,Q,sn,hH,hok,cY⟩);clear hok cY;have hM:=MH.pull [_] [_] hM;generalize nR p.code pl false l.aU (l_ p.code.length l.dn l.aM)=W at*;obtain⟨pd,qd,P,Q,sn,H6,hok,cY⟩:=hM;dsimp only[u3,u4] at H6;refine zQ 4 ?_;have hH:=H6;refine qv hev ?_;refine zQ 3 ?_;refine qa hH fun k7 st NN hH=>?_;refine qS hH at0 fun st hH=>?_;dsimp only[u2,u1,u3,u4,setMany,u5,u6,D.cells,Nat.reduceAdd,aB,aI,aG,ay,dW] at hH;refine zQ 2 ?_;clear H6;refine zQ 6 ?_;obtain⟨_,st,hev,rfl,pd,qd,P,Q,hH,hok⟩:=nz [_,_,_,_] hF hok hH;dsimp only[u3,u4] at hH;refine qv hev ?_;refine zQ 1 ?_;rw[cY] at hok;refine zQ 4 ?_;refine qn ?_ (hR:=hH.rows at2);simp only[List.length_map];refine zQ 2 ?_;have hH:=Has.e5 [_] [_] (hH.nulE 11);dsimp only[u3,u4] at hH
 obtain⟨A,hA⟩:∃A,eH p.code r W.rdy []=A:=⟨_,rfl⟩
 rw[hA];refine zQ 1 ?_;refine EvC.loop (fun mm fr st=>∃(j:Nat) (acc rest:List dA) (td pd qd:D) (P Q:List Nat) (sn:List Bool),fr.clean=⟨25,[.ptr kv 0 0,.int .i64 (i:Nat),.int .i32 r,aV fr 3,aV fr 4,aV fr 5,.ptr k6 0 0,.ptr k7 0 0,rd,aV fr 9,aV fr 10,aV fr 11,aV fr 12,aV fr 13,aV fr 14,aV fr 15,aV fr 16,aV fr 17,aV fr 18,aV fr 19,aV fr 20,aV fr 21,rd,.int .i64 (W.rdy.length:Nat),.int .i64 (j:Nat)],[]⟩∧Has N S st (.box k7 (.mem 0 false (aG W.dn W.aM td))::.lst td 11 (acc.map aI)::.box k6 (.mem 0 false (aG false oF .nul))::.lst rd 11 (W.rdy.map aI)::.box kv (.mem 0 false [p.cd,p.sd,.int .i64 (pl:Nat),ld,.ptr ks 0 0])::.box ks (.mem 0 false [pd,qd])::.lst pd 1 (P.map eG)::.lst qd 2 (Q.map lG)::.lst ld 12 (L.map dW)::(L.map jR++H))∧(j+mm=W.rdy.length)∧(rest=W.rdy.drop j)∧(eH p.code r rest acc=A)∧(acc.length≤j)∧(cp P Q sn)∧(sn.length=p.code.length)∧(∀k,k<p.code.length→sn[k]?=some (gZ acc k))) (W.rdy.length) ?_ ?_
 ·refine⟨0,[],W.rdy,.nul,_,_,_,_,_,rfl,hH,by omega,rfl,hA,by simp,hok,by simp,(fun k hk=>by rw[List.getElem?_replicate,if_pos hk];rfl)⟩
 rintro mm fr st ⟨j,acc,rest,td,pd,qd,P,Q,sn,hfr,hH,hj,lI,hex,hal,hok,cY,ui⟩;rw[hfr];clear hfr;generalize aV fr=ee;clear fr;refine zQ 5 ?_;refine zP (fun hlt=>?_) fun hlt=>?_
 ·refine zQ 1 ?_;have iS:j<W.rdy.length:=by omega
  obtain⟨t,ht⟩:∃t,W.rdy[j]?=some t:=⟨W.rdy[j]'iS,List.getElem?_eq_getElem _⟩
  have JP:=te ht;obtain⟨ii,hii,NX⟩:=hb2 t (List.mem_of_getElem? ht);have Hi:=uW hR ⟨ii,hii,NX⟩;have n5:=fY hii;have Kg:=hp.i ii (List.mem_of_getElem? hii);have Hr:=Kg.1;have Ht:=Hr.arg N S;have Sp:=Kg.2
  have vT:rest=t::W.rdy.drop (j+1):=by
   rw[lI,List.drop_eq_getElem_cons iS]
   congr 1
   exact Option.some.inj ((List.getElem?_eq_getElem _).symm.trans ht)
  rw[vT] at hex;have M4:Ak p.code t.pc=ii.rs:=by unfold Ak;rw[hii]
  unfold eH at hex;rw[M4] at hex;have Nc:gZ acc (t.pc+1)=gZ acc (t.pc+1):=rfl;generalize On:gZ acc (t.pc+1)=bq at Nc;have Fw:=ui (t.pc+1) Hi;rw[On] at Fw;refine zQ 4 ?_;refine qi hH at3 fun RJ Ny=>?_;refine EvO.tw hH rfl (ev rfl) (by assumption) (by exact at3) (by assumption) rfl (put_T rfl _) ?_;refine qa hH fun k10 st TM hH=>?_;dsimp only[u2,u1,u3,u4,setMany,u5,u6,D.cells,Nat.reduceAdd,aB,aI,aG,ay,dW] at hH;refine qS hH at0 fun st hH=>?_;dsimp only[u2,u1,u3,u4,setMany,u5,u6,D.cells,Nat.reduceAdd,aB,aI,aG,ay,dW] at hH;refine zQ 1 ?_
  cases lK:kL ii.rs r with
  |false=>
   rw[lK,if_neg (by decide)] at hex;refine zQ 9 ?_;refine qr fun Jg C6=>?_;refine qf (fo:=3) fun LD FC=>?_;refine zQ 2 ?_;refine qv (Dt (Ht.rows hH) (by omega)) ?_;refine zQ 17 ?_;exact⟨mm-1,by omega,⟨j+1,acc,W.rdy.drop (j+1),td,pd,qd,P,Q,sn,rfl,(hH.drop 1),by omega,rfl,hex,by omega,hok,cY,ui⟩⟩
  |true=>
   rw[lK,if_pos rfl] at hex;have hex:eH p.code r (W.rdy.drop (j+1)) (if gZ acc (t.pc+1)=true then acc else acc++[⟨t.pc+1,t.c⟩])=A:=hex;rw[On] at hex;have lH:t.pc+1<sn.length:=by omega
   refine zQ 9 ?_;refine qr fun Jg C6=>?_;refine qf (fo:=3) fun LD FC=>?_;refine zQ 2 ?_;refine qv (Dt (Ht.rows hH) (by omega)) ?_;refine zQ 8 ?_;obtain⟨_,st,hev,rfl,pd,qd,P,Q,hH,hok⟩:=mh [_,_,_,_,_,_] hF Fw hok hH;dsimp only[u3,u4] at hH;refine qv hev ?_ (hg:=wi lK);refine zQ 2 ?_
   cases bq with
   |true=>
    rw[if_pos rfl] at hex;refine zQ 6 ?_;refine⟨mm-1,by omega,⟨j+1,acc,W.rdy.drop (j+1),td,pd,qd,P,Q,sn.set (t.pc+1) true,rfl,(hH.drop 1),by omega,rfl,hex,by omega,hok,by rw[List.length_set];exact cY,?_⟩⟩;intro k hk
    by_cases hkk:k=t.pc+1
    ·subst hkk;rw[List.getElem?_set_self lH,On]
    ·rw[List.getElem?_set_ne (fun e=>hkk e.symm)];exact ui k hk
   |false=>
    rw[if_neg (by decide)] at hex;refine zQ 7 ?_;refine qT hH at0 fun st hH=>?_;dsimp only[u2,u1,u3,u4,setMany,u5,u6,D.cells,Nat.reduceAdd,aB,aI,aG,ay,dW] at hH;refine zQ 4 ?_;refine EvO.hloadS (m:=11) hH rfl (ev rfl) (by exact at0) (by dsimp only[List.drop_succ_cons,List.drop_zero,List.take_succ_cons,List.take_zero,aB,aI,aG,ay,dW]<;>rfl) rfl rfl (put_T rfl _) ?_;refine qh (s:=11) (vs:=[_]) hH fun k57 st Tt hH=>?_;refine EvO.happend (s:=11) hH rfl (ev rfl) (ev rfl) (by exact at3) (by exact hH.rows (by exact at0)) rfl rfl rfl rfl rfl rfl rfl ⟨(Nat.le_of_ble_eq_true rfl),(Nat.le_of_ble_eq_true rfl)⟩ (fun _=>(put_T rfl _)) (by simp only[List.length_cons,List.length_nil,List.length_map]<;>omega) (by exact .inl hF) (fun Q6 st hH=>?_);dsimp only[u2,u1,u3,u4,setMany,u5,u6,D.cells,Nat.reduceAdd,aB,aI,aG,ay,dW] at hH;refine zQ 1 ?_;refine qT hH at2 (fun st hH=>?_) (gM:=hH.ocells at3);dsimp only[u2,u1,u3,u4,setMany,u5,u6,D.cells,Nat.reduceAdd,aB,aI,aG,ay,dW] at hH;refine zQ 5 ?_;refine⟨mm-1,by omega,⟨j+1,acc++[⟨t.pc+1,t.c⟩],W.rdy.drop (j+1),Q6,pd,qd,P,Q,sn.set (t.pc+1) true,rfl,(by rw[List.map_append];exact hH.drop 2),by omega,rfl,hex,by simp;omega,hok,by rw[List.length_set];exact cY,?_⟩⟩;intro k hk;rw[x6]
    by_cases hkk:k=t.pc+1
    ·subst hkk;rw[List.getElem?_set_self lH];simp
    ·rw[List.getElem?_set_ne (fun e=>hkk e.symm),ui k hk];have:(t.pc+1==k)=false:=by rw[beq_eq_false_iff_ne];omega
     simp only[this,Bool.or_false]
 ·refine zQ 1 ?_;have C9:rest=[]:=by rw[lI,List.drop_eq_nil_iff];omega
  subst C9;have hex:acc=A:=hex;subst hex;clear hA lI;have Fw:=ui start Hk;refine zQ 2 ?_;refine EvC.mF (fun fr st=>∃(aU:List dA) (td pd qd:D) (P Q:List Nat) (sn:List Bool) (tmp:List (Nat×D)),fr=⟨25,[aV fr 0,aV fr 1,aV fr 2,aV fr 3,aV fr 4,aV fr 5,.ptr k6 0 0,.ptr k7 0 0,aV fr 8,aV fr 9,aV fr 10,aV fr 11,aV fr 12,aV fr 13,aV fr 14,aV fr 15,aV fr 16,aV fr 17,aV fr 18,aV fr 19,aV fr 20,aV fr 21,aV fr 22,aV fr 23,aV fr 24],tmp⟩∧Has N S st (.box k7 (.mem 0 false (aG W.dn W.aM td))::.lst td 11 (aU.map aI)::.box k6 (.mem 0 false (aG false oF .nul))::.lst rd 11 (W.rdy.map aI)::.box kv (.mem 0 false [p.cd,p.sd,.int .i64 (pl:Nat),ld,.ptr ks 0 0])::.box ks (.mem 0 false [pd,qd])::.lst pd 1 (P.map eG)::.lst qd 2 (Q.map lG)::.lst ld 12 (L.map dW)::(L.map jR++H))∧(aU=(if W.dn=true then acc else nh acc ⟨start,aZ⟩))∧(cp P Q sn)∧(sn.length=p.code.length)) ?_ ?_
  ·cases QC:W.dn with
   |true=>
    rw[QC] at hH;have hg3:(!true)=false:=rfl;refine zQ 22 ?_;exact⟨acc,td,pd,qd,P,Q,sn,_,rfl,hH,rfl,hok,cY⟩
   |false=>
    rw[QC] at hH;have hg3:(!false)=true:=rfl;refine zQ 15 ?_;refine qr (fun Vn SE=>?_) (hg:=wi hg3);refine zQ 1 ?_;obtain⟨_,st,hev,rfl,pd,qd,P,Q,hH,hok⟩:=mh [_,_,_,_,_] hF Fw hok hH;dsimp only[u3,u4] at hH;refine qv hev ?_ (hg:=wi hg3);refine zQ 2 ?_
    by_cases zh:gZ acc start=true
    ·refine qE rfl (by rw[zh];rfl) ?_;refine zQ 1 ?_;exact⟨acc,td,pd,qd,P,Q,sn.set start true,_,rfl,hH,by unfold nh;rw[if_neg (by decide),if_pos zh],hok,by rw[List.length_set];exact cY⟩
    ·refine qD rfl (by rw[Bool.eq_false_iff.2 zh];rfl) ?_;refine zQ 9 ?_;refine qr fun Vi Sz=>?_;refine qR ?_;refine qv (cC _) ?_;refine EvO.go (d:=.agg (aI ⟨start,aZ⟩)) (st1:=_) rfl rfl rfl (put_T rfl _) ?_;refine qh (s:=11) (vs:=[_]) hH fun k91 st Ti hH=>?_;dsimp only[u2,u1,u3,u4,setMany,u5,u6,D.cells,Nat.reduceAdd,aB,aI,aG,ay,dW] at hH;refine EvO.happend (s:=11) hH rfl (ev rfl) (ev rfl) (by exact at2) (by exact hH.rows (by exact at0)) rfl rfl rfl rfl rfl rfl rfl ⟨(Nat.le_of_ble_eq_true rfl),(Nat.le_of_ble_eq_true rfl)⟩ (fun _=>(put_T rfl _)) (by simp only[List.length_cons,List.length_nil,List.length_map]<;>omega) (by exact .inl hF) (fun QZ st hH=>?_);dsimp only[u2,u1,u3,u4,setMany,u5,u6,D.cells,Nat.reduceAdd,aB,aI,aG,ay,dW] at hH;refine zQ 1 ?_;refine qT hH at1 (fun st hH=>?_) (gM:=hH.ocells at2);dsimp only[u2,u1,u3,u4,setMany,u5,u6,D.cells,Nat.reduceAdd,aB,aI,aG,ay,dW] at hH;refine zQ 1 ?_;exact⟨acc++[⟨start,aZ⟩],QZ,pd,qd,P,Q,sn.set start true,_,rfl,(by rw[List.map_append];exact hH.drop 1),by unfold nh;rw[if_neg (by decide),if_neg zh],hok,by rw[List.length_set];exact cY⟩
  ·rintro fr st ⟨aU,td,pd,qd,P,Q,sn,tmp,hfr,hH,Hh,hok,cY⟩;rw[hfr];clear hfr;generalize aV fr=ee;clear fr;refine zQ 2 ?_;refine EvO.hloadS (m:=12) hH rfl (ev rfl) (by exact at0) (by dsimp only[List.drop_succ_cons,List.drop_zero,List.take_succ_cons,List.take_zero,aB,aI,aG,ay,dW]<;>rfl) rfl rfl (put_T rfl _) ?_;refine qS hH at2 fun st hH=>?_;dsimp only[u2,u1,u3,u4,setMany,u5,u6,D.cells,Nat.reduceAdd,aB,aI,aG,ay,dW] at hH;refine zQ 1 ?_;refine EvC.ret ⟨rx,_,_,_,hH.ov rfl at2 rfl,rfl,td,rfl,pd,qd,P,Q,sn,?_,hok,cY⟩;rw[←Hh];exact((hH.drop 1).erase 1).erase 1
def cU (fr:Go.V.Fr) (k:Nat):Go.V.D:=Go.V.nth .junk fr.loc k
def VL.pl (l:VL):PL:=⟨l.dn,l.aM,l.aU⟩
def au (p:Pg):List Nat:=p.ah.map Int.toNat
def eC (code:List aA) (pl:Nat) (r:Int):List Nat→List PL→List PL
 |s::ss,l::ls=>et code pl s r l::eC code pl r ss ls
 |_,_=>[]
def hO (n:Int):Nat:=(min (max n 0) 4).toNat
theorem m_ (n:Int):hO n≤4:=by unfold hO;omega
theorem gj (code:List aA) (pl:Nat) (r:Int):∀(ss:List Nat) (ls:List PL),ss.length=ls.length→(eC code pl r ss ls).length=ls.length
 |[],[],_=>rfl
 |s::ss,l::ls,h=>by simp only[eC,List.length_cons];rw[gj code pl r ss ls (by simpa using h)]
theorem kz (code:List aA) (pl:Nat) (r:Int):∀(ss:List Nat) (ls:List PL) (i:Nat) (s:Nat) (l:PL),ss[i]?=some s→ls[i]?=some l→(eC code pl r ss ls)[i]?=some (et code pl s r l)
 |[],_,_,_,_,h,_=>by simp at h
 |_::_,[],_,_,_,_,h=>by simp at h
 |s::ss,l::ls,0,_,_,h1,h2=>by simp only[List.getElem?_cons_zero,Option.some.injEq] at h1 h2;subst h1;subst h2;rfl
 |s::ss,l::ls,i+1,_,_,h1,h2=>by simp only[List.getElem?_cons_succ] at h1 h2;simp only[eC,List.getElem?_cons_succ];exact kz code pl r ss ls i _ _ h1 h2
theorem MH.mono {A:List aN} {N:Nat} {S st:St} {ks kv:Nat} {p:Pg} {pl:Nat} {ld:D} {L:List VL} {H:List aN} (n:Nat) (h:MH A N S st ks kv p pl ld L H):MH (A.drop n) N S st ks kv p pl ld L H:=by
 obtain⟨pd,qd,P,Q,sn,hH,hok,cY⟩:=h;refine⟨pd,qd,P,Q,sn,?_,hok,cY⟩
 rcases Nat.le_total n A.length with hn|hn
 ·have:=hH.drop n
  rwa [List.drop_append_of_le_length hn] at this
 ·have:=hH.drop A.length;rw[List.drop_append_of_le_length (Nat.le_refl _),List.drop_length] at this;rw[List.drop_eq_nil_of_le hn];exact this
theorem Eu (L:List VL) (i:Nat) (l:VL):(L.set i l).map jR=(L.map jR).set i (jR l):=List.map_set ..
theorem MH.EL {N:Nat} {S st:St} {ks kv:Nat} {p:Pg} {pl:Nat} {ld:D} {L:List VL} {H:List aN} {i:Nat} {l:VL} {pd qd:D} {P Q:List Nat} (hi:i<L.length)
  (h:Has N S st (.lst l.td 11 (l.aU.map aI)::.box kv (.mem 0 false [p.cd,p.sd,.int .i64 (pl:Nat),ld,.ptr ks 0 0])::.box ks (.mem 0 false [pd,qd])::.lst pd 1 (P.map eG)::.lst qd 2 (Q.map lG)::.lst ld 12 ((L.map dW).set i (dW l))::(L.map jR++H))):
  Has N S st (.box kv (.mem 0 false [p.cd,p.sd,.int .i64 (pl:Nat),ld,.ptr ks 0 0])::.box ks (.mem 0 false [pd,qd])::.lst pd 1 (P.map eG)::.lst qd 2 (Q.map lG)::.lst ld 12 ((L.set i l).map dW)::((L.set i l).map jR++H)):=by
 have h1:=h.dB (j:=5+i) (by simp;omega);rw[List.map_set,Eu]
 have h2:∀(a b c d e:aN),(a::b::c::d::e::(L.map jR++H)).set (5+i) (.lst l.td 11 (l.aU.map aI))=a::b::c::d::e::((L.map jR).set i (jR l)++H):=by
  intro a b c d e;rw[Nat.add_comm 5 i];simp only[List.set_cons_succ];rw[List.set_append_left _ _ (by simpa using hi)];rfl
 rw[h2] at h1;exact h1
theorem Gf (cC:∀st,Ev pv 63 [] st (.agg (ay aZ)) st) {N ks kv:Nat} {S s0:St} {H:List aN} {p:Pg} {pl:Nat} {ld:D} {L:List VL} {r n:Int} (hF:S.flr≤N) (hp:p.ok) (hR:aO p) (hpl:pl≤3000000000000) (hLl:L.length=p.ah.length) (hok:∀l∈L,l.pl.ok p.code.length) (hM:MH [] N S s0 ks kv p pl ld L H):
  ∃d ab,Ev pv 20 [.ptr kv 0 0,.int .i32 r,.int .i64 n] s0 d ab∧d=.tup []∧∃L',L'.map VL.pl=eC p.code pl r (au p) (L.map VL.pl)∧MH [] N S ab ks kv p (pl+hO n) ld L' H:=by
 have IJ:=hR.sl;refine Ev.fX rfl Py rfl rfl rfl ?_;refine zE ?_;change EvC _ _ _ _ s0 _;obtain⟨pd,qd,P,Q,sn,hH,fP,cY⟩:=hM;dsimp only[u4] at hH;refine qq<|qq<|qj fun K hK=>qm ?_;refine qg ?_;refine qp (o:=3) ?_;refine ql hH at0 ?_;refine qn ?_ (hR:=hH.rows at4);simp only[List.length_map];refine qm ?_;refine qe hK<|EvC.block<|EvC.loop (fun mm fr st=>∃(i:Nat) (L2:List VL) (pd qd:D) (P Q:List Nat) (sn:List Bool),fr.clean=⟨13,[.ptr kv 0 0,.int .i32 r,.int .i64 n,cU fr 3,cU fr 4,cU fr 5,cU fr 6,cU fr 7,cU fr 8,cU fr 9,cU fr 10,.int .i64 (L.length:Nat),.int .i64 (i:Nat)],[]⟩∧Has N S st (.box kv (.mem 0 false [p.cd,p.sd,.int .i64 (pl:Nat),ld,.ptr ks 0 0])::.box ks (.mem 0 false [pd,qd])::.lst pd 1 (P.map eG)::.lst qd 2 (Q.map lG)::.lst ld 12 (L2.map dW)::(L2.map jR++H))∧(i+mm=L.length)∧(L2.length=L.length)∧(∀j l s,j<i→L[j]?=some l→p.ah[j]?=some s→(L2.map VL.pl)[j]?=some (et p.code pl s.toNat r l.pl))∧(∀j,i≤j→L2[j]?=L[j]?)∧(cp P Q sn)∧(sn.length=p.code.length)) (L.length) ?_ ?_
 ·exact⟨0,L,_,_,_,_,_,rfl,hH,by omega,rfl,(by intro j l s h;omega),(fun j _=>rfl),fP,cY⟩
 rintro mm fr st ⟨i,L2,pd,qd,P,Q,sn,hfr,hH,hi,hll,QB,Qn,fP,cY⟩;rw[hfr];clear hfr;generalize cU fr=ee;clear fr;refine qq<|qj fun K hK=>qg ?_;refine qe hK<|qq<|zP (fun hlt=>?_) fun hlt=>?_
 ·refine EvC.skip ?_;have hil:i<L.length:=by omega
  obtain⟨l,hl⟩:∃l,L[i]?=some l:=⟨L[i]'hil,List.getElem?_eq_getElem _⟩
  have jC:L2[i]?=some l:=by rw[Qn i (Nat.le_refl _)];exact hl
  obtain⟨s,hs⟩:∃s,p.ah[i]?=some s:=⟨p.ah[i]'(by omega),List.getElem?_eq_getElem _⟩
  obtain⟨rp,Gw⟩:=hR.st s (List.mem_of_getElem? hs);obtain⟨IC,rfl⟩:=Int.eq_ofNat_of_zero_le rp;have hr1:=wQ jC;refine qq<|EvC.block<|qq<|qj fun K hK=>qm ?_;refine qm ?_;refine qe hK ?_;have bP:=hH;have JU:=pq hH at4;have JT:=hH.sB at1 (k:=ks) rfl;have M7:=hp.c.ref;have M6:=hp.s.ref;have Ek:refs [p.cd,p.sd,.int .i64 (pl:Nat),ld,.ptr ks 0 0]≤st.bs.length:=by simp only[refs,D.ref,M7,M6];omega
  change EvC _ _ _ _ _ _;generalize hK:SeqQ _ _ _ _=K;refine EvC.tm rfl ?_;refine bD.cons ?_;refine qm ?_;refine EvO.nil ⟨rfl,?_⟩;refine bD.cons ?_;refine qg ?_;refine EvO.nil ⟨rfl,?_⟩;refine bD.cons ?_;refine qp (o:=3) ?_;refine EvO.nil ⟨rfl,?_⟩;refine bD.cons ?_;refine ql hH at0 ?_;refine EvO.nil ⟨rfl,?_⟩;refine bD.cons ?_;refine qm ?_;refine EvO.nil ⟨rfl,?_⟩;refine bD.cons ?_;refine qm ?_;refine EvO.nil ⟨rfl,?_⟩;refine bD.cons ?_;refine qm ?_;refine EvO.nil ⟨rfl,?_⟩;refine bD.cons ?_;refine qm ?_;refine EvO.nil ⟨rfl,?_⟩;refine bD.cons ?_;obtain⟨_,st,hev,td,rfl,hM⟩:=BQ cC hF hp hR (by omega) jC hs (hok l (List.mem_of_getElem? hl)) ⟨pd,qd,P,Q,sn,hH,fP,cY⟩;obtain⟨pd,qd,P,Q,sn,hH,fP,cY⟩:=hM;dsimp only[u3,u4] at hH;refine qv hev ?_;refine EvO.nil ⟨by exact Bool.and_eq_true_iff.2 ⟨fu rfl rfl rfl (bP.at at0) (hH.at at1) (bP.at at0) Ek,rfl⟩,?_⟩;refine bD.cons ?_;refine qi hH at5 fun IF AY=>?_;refine EvO.nil ⟨rfl,?_⟩;refine bD.cons ?_;refine EvO.iK hH rfl (ev rfl) (ev rfl) (by assumption) rfl rfl (by exact at5) (by assumption) (Nat.le_of_ble_eq_true rfl) (by exact .inl hF) (fun st hH=>?_);dsimp only[u2,u1,u3,u4,setMany,u5,u6,D.cells,Nat.reduceAdd,aB,aI,aG,ay,dW] at hH;refine EvO.nil ⟨rfl,?_⟩;refine bD.nil ?_;subst hK;have hH:=MH.EL (l:=⟨(et p.code pl IC r l.pl).dn,(et p.code pl IC r l.pl).aM,td,(et p.code pl IC r l.pl).aU⟩) (by omega) hH;refine qj fun K hK=>qA ?_;refine qm ?_;refine qe hK ?_;refine⟨mm-1,by omega,⟨i+1,L2.set i ⟨(et p.code pl IC r l.pl).dn,(et p.code pl IC r l.pl).aM,td,(et p.code pl IC r l.pl).aU⟩,pd,qd,P,Q,sn,rfl,hH,by omega,by rw[List.length_set];exact hll,?_,(fun j hj=>by rw[List.getElem?_set_ne (by omega)];exact Qn j (by omega)),fP,cY⟩⟩;intro j l' s' hj hl' pK;rw[List.map_set]
  by_cases hji:j=i
  ·subst hji;rw[hl] at hl';rw[hs] at pK;cases hl';cases pK;rw[List.getElem?_set_self (by rw[List.length_map];omega)];rfl
  ·rw[List.getElem?_set_ne (fun e=>hji e.symm)];exact QB j l' s' (by omega) hl' pK
 ·refine EvC.exit ?_;have hil:i=L.length:=by omega
  have IZ:=m_ n;have T2:((pl:Nat):Int)+min (max n 0) 4=((pl+hO n:Nat):Int):=by unfold hO;omega
  refine qj fun K hK=>qm ?_;refine qg ?_;refine qp (o:=2) ?_;refine ql hH at0 ?_;refine qm ?_;refine EvO.Ff (t1:=0) (t2:=0) rfl (ev rfl) (ev rfl) (put_T rfl _) ?_;refine EvO.Fe (t1:=0) (t2:=0) rfl (ev rfl) (ev rfl) (put_T rfl _) ?_;refine EvO.gI (z:=((pl+hO n:Nat):Int)) rfl (ev rfl) (ev rfl) (by rw[T2];exact di (by simp only[ke];omega)) (put_T rfl _) ?_;refine qg ?_;refine qp (o:=2) ?_;refine qT hH at0 fun st hH=>?_;dsimp only[u2,u1,u3,u4,setMany,u5,u6,D.cells,Nat.reduceAdd,aB,aI,aG,ay,dW] at hH;refine qe hK ?_;refine⟨fun i h=>(by cases h),_,_,_,rfl,rfl,?_⟩;refine⟨rfl,L2,?_,pd,qd,P,Q,sn,hH,fP,cY⟩;refine List.ext_getElem? fun j=>?_
  by_cases hj:j<L.length
  ·obtain⟨l,hl⟩:∃l,L[j]?=some l:=⟨L[j]'hj,List.getElem?_eq_getElem _⟩
   obtain⟨s,hs⟩:∃s,p.ah[j]?=some s:=⟨p.ah[j]'(by omega),List.getElem?_eq_getElem _⟩
   rw[QB j l s (by omega) hl hs,kz (s:=s.toNat) (l:=l.pl)]
   ·unfold au;rw[List.getElem?_map,hs];rfl
   ·rw[List.getElem?_map,hl];rfl
  ·rw[List.getElem?_eq_none (by simp;omega),List.getElem?_eq_none];rw[gj]
   ·simp;omega
   ·unfold au;simp;omega
def kM (code:List aA) (pl:Nat) (l:PL):PL:=⟨(nR code pl true l.aU (l_ code.length l.dn l.aM)).dn,(nR code pl true l.aU (l_ code.length l.dn l.aM)).aM,[]⟩
def tY (l:PL):List D:=aG l.dn l.aM .nul
theorem Gg {N ks kv:Nat} {S s0:St} {H:List aN} {p:Pg} {pl:Nat} {ld:D} {L:List VL} (hF:S.flr≤N) (hp:p.ok) (hR:aO p) (hpl:pl≤4000000000000) (hLl:L.length=p.ah.length) (hok:∀l∈L,l.pl.ok p.code.length) (hM:MH [] N S s0 ks kv p pl ld L H):
  ∃d ab,Ev pv 23 [.ptr kv 0 0] s0 d ab∧MH [.lst d 12 ((L.map fun l=>kM p.code pl l.pl).map tY)] N S ab ks kv p pl ld L H:=by
 have IJ:=hR.sl;refine Ev.fX rfl Pw rfl rfl rfl ?_;refine zE ?_;change EvC _ _ _ _ s0 _;obtain⟨pd,qd,P,Q,sn,hH,fP,cY⟩:=hM;dsimp only[u4] at hH;refine zQ 15 ?_;refine qn ?_ (hR:=hH.rows at4);simp only[List.length_map];refine zQ 3 ?_;refine EvC.loop (fun mm fr st=>∃(i:Nat) (od pd qd:D) (P Q:List Nat) (sn:List Bool),fr.clean=⟨13,[.ptr kv 0 0,cU fr 1,cU fr 2,od,cU fr 4,cU fr 5,cU fr 6,cU fr 7,cU fr 8,cU fr 9,cU fr 10,.int .i64 (L.length:Nat),.int .i64 (i:Nat)],[]⟩∧Has N S st (.lst od 12 (((L.map fun l=>kM p.code pl l.pl).take i).map tY)::.box kv (.mem 0 false [p.cd,p.sd,.int .i64 (pl:Nat),ld,.ptr ks 0 0])::.box ks (.mem 0 false [pd,qd])::.lst pd 1 (P.map eG)::.lst qd 2 (Q.map lG)::.lst ld 12 (L.map dW)::(L.map jR++H))∧(i+mm=L.length)∧(cp P Q sn)∧(sn.length=p.code.length)) (L.length) ?_ ?_
 ·exact⟨0,.nul,_,_,_,_,_,rfl,(hH.nulE 12),by omega,fP,cY⟩
 rintro mm fr st ⟨i,od,pd,qd,P,Q,sn,hfr,hH,hi,fP,cY⟩;rw[hfr];clear hfr;generalize cU fr=ee;clear fr;refine zQ 5 ?_;refine zP (fun hlt=>?_) fun hlt=>?_
 ·refine zQ 1 ?_;have hil:i<L.length:=by omega
  obtain⟨l,hl⟩:∃l,L[i]?=some l:=⟨L[i]'hil,List.getElem?_eq_getElem _⟩
  obtain⟨vL,sF⟩:=hok l (List.mem_of_getElem? hl);simp only[VL.pl] at vL sF;have hge:(L.map fun l=>kM p.code pl l.pl)[i]?=some (kM p.code pl l.pl):=by rw[List.getElem?_map,hl];rfl
  have pL:(((L.map fun l=>kM p.code pl l.pl).take i).map tY).length=i:=by simp;omega
  refine zQ 7 ?_;obtain⟨_,st1,hev,rd,rfl,hM⟩:=sK (e:=true) hF hp hR hpl hl vL (by omega) (MH.push [_] [] ⟨pd,qd,P,Q,sn,hH,fP,cY⟩);clear fP cY;have hM:=MH.pull [_] [] (MH.mono 1 hM);obtain⟨pd,qd,P,Q,sn,H6,fP,cY⟩:=hM;dsimp only[u3,u4] at H6;generalize hB:((L.map fun l=>kM p.code pl l.pl).take i).map tY=B at*;refine zQ 4 ?_;have hH:=H6;refine qv hev ?_;refine zQ 3 ?_;refine qa hH fun k5 st Ep hH=>?_;refine qS hH at0 fun st hH=>?_;dsimp only[u2,u1,u3,u4,setMany,u5,u6,D.cells,Nat.reduceAdd,aB,aI,aG,ay,dW,tY] at hH;refine zQ 2 ?_;clear H6;refine zQ 2 ?_;refine EvO.hloadS (m:=12) hH rfl (ev rfl) (by exact at0) (by dsimp only[List.drop_succ_cons,List.drop_zero,List.take_succ_cons,List.take_zero,aB,aI,aG,ay,dW,tY]<;>rfl) rfl rfl (put_T rfl _) ?_;refine qh (s:=12) (vs:=[_]) hH fun k23 st Kd hH=>?_;refine EvO.happend (s:=12) hH rfl (ev rfl) (ev rfl) (by exact at2) (by exact hH.rows (by exact at0)) rfl rfl rfl rfl rfl rfl rfl ⟨(Nat.le_of_ble_eq_true rfl),(Nat.le_of_ble_eq_true rfl)⟩ (fun _=>(put_T rfl _)) (by simp only[List.length_cons,List.length_nil,List.length_map]<;>omega) (by exact .inl hF) (fun Re st hH=>?_);dsimp only[u2,u1,u3,u4,setMany,u5,u6,D.cells,Nat.reduceAdd,aB,aI,aG,ay,dW,tY] at hH;refine zQ 6 ?_;exact⟨mm-1,by omega,⟨i+1,Re,pd,qd,P,Q,sn,rfl,(by rw[List.take_add_one,hge,Option.toList_some,List.map_append,hB];exact hH.drop 2),by omega,fP,cY⟩⟩
 ·refine zQ 1 ?_;have hil:i=L.length:=by omega
  refine zQ 5 ?_;refine EvC.ret ⟨rx,_,_,_,rfl,rfl,?_⟩;rw[List.take_of_length_le (by simp;omega)] at hH;exact⟨pd,qd,P,Q,sn,hH,fP,cY⟩
end Go.Proofs.YtnleclohocdkaaaGreat
