/-
 The document's parser of patterns, whole.
-/
import Derived.Test.YtajblankjjmonaaGreatWGHr
import Derived.Test.YtajblankjjmonaaGreatWGFe
import Derived.Test.YtajblankjjmonaaGreatWGTe
set_option maxRecDepth 100000
set_option maxHeartbeats 4000000
set_option linter.unusedSimpArgs false
set_option linter.unusedVariables false
namespace Go.Proofs.YtajblankjjmonaaGreat
open Go.V Go
theorem tS {c j:Nat} (hc:c<256) (hj:j≤8) {m:Int} (hm:m=((2^j-1:Nat):Int)):aV .u8 ((BitVec.ofInt IntKind.u8.bits (c:Nat) &&&BitVec.ofInt IntKind.u8.bits m).toNat:Nat)=((c %2^j:Nat):Int):=by
 have h1:2^j≤2^8:=Nat.pow_le_pow_right (by omega) hj;subst hm;show aV .u8 ((BitVec.ofInt 8 (c:Nat) &&&BitVec.ofInt 8 ((2^j-1:Nat):Int)).toNat:Nat)=_;rw[tR (w:=8) (by omega) (by omega)];have:c %2^j≤c:=Nat.mod_le _ _;rw[dQ (k:=.u8) (by simp only[kU];omega)]
theorem AS {c:Nat} (h:c<2147483648):aV .i32 (c:Nat)=(c:Nat):=dQ (by simp only[kU];omega)
theorem rv {a:Nat} (i:Nat) {e:Int} (he:e=(i:Nat)) (hi:i≤31) (h:a*2^i<2147483648):aV .i32 ((a:Int)*2^(min e.toNat IntKind.i32.bits))=((a*2^i:Nat):Int):=by
 subst he;have:min ((i:Nat):Int).toNat IntKind.i32.bits=i:=by show min ((i:Nat):Int).toNat 32=i;omega
 rw[this];have:(a:Int)*2^i=((a*2^i:Nat):Int):=by simp
 rw[this,AS h]
theorem zV {x a b:Nat} (i:Nat) (hx:x=a*2^i) (hb:b<2^i) (h:a*2^i+b<2147483648):aV .i32 ((BitVec.ofInt IntKind.i32.bits (x:Nat)|||BitVec.ofInt IntKind.i32.bits (b:Nat)).toNat:Nat)=((a*2^i+b:Nat):Int):=by
 subst hx;show aV .i32 ((BitVec.ofInt 32 ((a*2^i:Nat):Int)|||BitVec.ofInt 32 (b:Nat)).toNat:Nat)=_;rw[E5 (by omega) (by omega)]
 have h3:(a*2^i)|||b=a*2^i+b:=by
  rw[Nat.mul_comm a,Nat.two_pow_add_eq_or_of_lt hb]
 rw[h3,AS h]
theorem zJ {st:St} {x:D} {b:List UInt8} (hb:Bytes st x b) (hlen:b.length≤1048576):Ev pv 25 [x] st (.agg (aF (eY b))) st:=by
 refine Ev.mk1 rfl Nr rfl rfl rfl ?_;refine zE ?_;have hx:=hb.ref;have hb0:=hb.enter .ro;have hbl:=bO b;obtain⟨_,hz,Dr⟩:=xF b;refine qy ?_;(repeat refine qq ?_);(generalize hK:SeqQ _ _ _ _=K);refine EvC.reg ?_;(repeat(refine xL ?_));refine EvO.nil ?_;refine zF ?_;subst hK;refine qy ?_;generalize hS:(enterSt .ro st).push _=S;have hb:Bytes S x b:=by subst hS;exact Rows.ex (Ex.push (st:=enterSt .ro st) (N:=st.bs.length) (Nat.le_refl _) _) hb0 hx
 (refine qy ?_);(repeat refine qq ?_);(generalize hK:SeqQ _ _ _ _=K);refine EvC.reg ?_
 (refine xL ?_)
 refine EvO.Jv rfl rfl rfl (Ek hb hlen) ?_;(repeat(refine xL ?_));refine EvO.nil ?_;refine zF ?_;subst hK;refine qy ?_;generalize hk:(ct b).1=k at*;generalize hn:(ct b).2=n at*;have Ma:S.bs[st.bs.length]?=some (.mem 0 false [.int .i32 0,.int .i64 0]):=by subst hS;exact iS (enterSt .ro st) _
 have L':∀r,S.jb st.bs.length r=true:=fun r=>by subst hS;exact wa (N:=st.bs.length) (Nat.le_refl _) (Nat.le_refl _) (Nat.le_refl _)
 have done:∀(q:Nat×Nat) (fr:Fr) (s1:St),fr.get 2=.ptr st.bs.length 0 0→s1={S with bs:=S.bs.set st.bs.length (.mem 0 false (aF q))}→
   (∀i,Out.ret≠.exit i)∧∃ds,iR pv fr s1 Tryz.f25.results.toList=some ds∧b8 .ro false st s1 (lQ ds)=some (.agg (aF q),st):=by
  intro q fr s1 hg hs
  have D6:s1=(enterSt .ro st).push (.mem 0 false (aF q)):=by
   rw[hs,←hS];exact uP (st:=enterSt .ro st) (k:=st.bs.length) rfl
  have hm:s1.dL st.bs.length 0=some (false,aF q):=by rw[D6];exact mem_push (enterSt .ro st) 0 false (aF q)
  have hl:eW pv 47 (.ptr st.bs.length 0 0) s1=some (.agg (aF q)):=by
   simp only[eW,hm,Option.bind_some];rfl
  have hr:iR pv fr s1 Tryz.f25.results.toList=some [.agg (aF q)]:=by
   show(eW pv 47 (fr.get 2) s1).bind _=_;rw[hg,hl];rfl
  refine⟨fun i h=>(by cases h),_,hr,aB (by simp) ?_ rfl⟩;have LN:=Ex.push (N:=st.bs.length) (st:=enterSt .ro st) (Nat.le_refl _) (.mem 0 false (aF q));rw[D6];exact LN.take rfl
 by_cases h1:k=0∨k<n
 ·have ho:=hz h1;rw[ho]
  by_cases h2:k=0
  ·subst h2;refine qy ?_;(repeat refine qq ?_);(generalize hK:SeqQ _ _ _ _=K);refine EvC.reg ?_;(repeat(first|refine xL ?_|refine xp ?_|simp(disch:=omega) only[decide_eq_true,decide_eq_false,cL,d_,cK,dZ]));refine EvO.nil ?_;refine zF ?_;subst hK;refine qy ?_;refine EvC.cond (v:=true) rfl (fun _=>?_) (fun h=>by cases h);refine qy ?_;(repeat refine qq ?_);(generalize hK:SeqQ _ _ _ _=K);refine EvC.reg ?_
   (refine xL ?_)
   refine EvO.store (k:=st.bs.length) (aq:=0) (off:=0) (cs:=aF (65533,1)) rfl rfl rfl rfl rfl Ma (by decide) (L' _) ?_;refine EvO.nil ?_;refine zF ?_;subst hK;refine qy ?_;exact EvC.ret (done _ _ _ rfl rfl)
  ·(refine qy ?_);(repeat refine qq ?_);(generalize hK:SeqQ _ _ _ _=K);refine EvC.reg ?_;(repeat(first|refine xL ?_|simp(disch:=omega) only[decide_eq_true,decide_eq_false,cL,d_,cK,dZ]));refine EvO.nil ?_;refine zF ?_;subst hK;refine qy ?_;refine EvC.cond (v:=true) rfl (fun _=>?_) (fun h=>by cases h);refine qy ?_;(repeat refine qq ?_);(generalize hK:SeqQ _ _ _ _=K);refine EvC.reg ?_
   (refine xL ?_)
   refine EvO.store (k:=st.bs.length) (aq:=0) (off:=0) (cs:=aF (65533,1)) rfl rfl rfl rfl rfl Ma (by decide) (L' _) ?_;refine EvO.nil ?_;refine zF ?_;subst hK;refine qy ?_;exact EvC.ret (done _ _ _ rfl rfl)
 obtain⟨c,xs,rfl,tV,SZ,EL,ho⟩:=Dr h1;rw[ho];have hc:=jf c;refine qy ?_;(repeat refine qq ?_);(generalize hK:SeqQ _ _ _ _=K);refine EvC.reg ?_;(repeat(first|refine xL ?_|simp(disch:=omega) only[decide_eq_true,decide_eq_false,cL,d_,cK,dZ]));refine EvO.nil ?_;refine zF ?_;subst hK;refine qy ?_;refine EvC.cond (v:=false) rfl (fun h=>by cases h) fun _=>?_;refine EvC.skip ?_;refine qy ?_;(repeat refine qq ?_);(generalize hK:SeqQ _ _ _ _=K);refine EvC.reg ?_
 (refine xL ?_)
 refine EvO.Cc rfl rfl rfl (fun _=>rfl) (by simp) rfl rfl hb rfl rfl (by omega) (i:=0) (r:=[.int .u8 (c.toNat:Nat)]) rfl rfl (fun p=>?_);(repeat(refine xL ?_));refine EvO.nil ?_;refine zF ?_;subst hK;refine qy ?_;(repeat refine qq ?_);(generalize hK:SeqQ _ _ _ _=K);refine EvC.reg ?_;(repeat(refine xL ?_));refine EvO.nil ?_;refine zF ?_;subst hK;refine qy ?_;rw[AS (by omega)];have hq:n=1∨n=2∨n=3∨n=4:=by omega
 generalize hK:SeqQ _ _ _ _=K
 have H:∀(r:Nat) (m:List (Nat×D)) (l2:List D),r=(eY (c::xs)).1→l2.length=18→K .next ⟨24,x::.tup []::.ptr st.bs.length 0 0::.int .i64 (k:Nat)::.int .i64 (n:Nat)::.int .i32 r::l2,m⟩ S:=by
  intro r m l2 hr oN;subst hK;refine qy ?_;(repeat refine qq ?_);(generalize hK:SeqQ _ _ _ _=K);refine EvC.reg ?_
  (refine xT ?_)
  (refine xT ?_)
  refine EvO.T rfl rfl rfl (d:=.agg (aF (r,n))) (st1:=S) rfl ?_;refine EvO.store (k:=st.bs.length) (aq:=0) (off:=0) (cs:=aF (r,n)) rfl rfl rfl rfl rfl Ma (by simp[aF]) (L' _) ?_;refine EvO.nil ?_;refine zF ?_;subst hK;refine qy ?_;rw[←ho];have e:eY (c::xs)=(r,n):=by rw[hr,ho]
  rw[e];exact EvC.ret (done _ _ _ rfl rfl)
 rcases hq with hq|hq|hq|hq
 ·subst hq;refine qy ?_;(repeat refine qq ?_);refine EvC.block ?_;refine qy ?_;(repeat refine qq ?_);(generalize hK:SeqQ _ _ _ _=K);refine EvC.reg ?_;(repeat(refine xT ?_));refine EvO.nil ?_;refine zF ?_;subst hK;refine qy ?_;refine EvC.cond (v:=false) rfl (fun h=>by cases h) fun _=>?_;refine qy ?_;(repeat refine qq ?_);(generalize hK:SeqQ _ _ _ _=K);refine EvC.reg ?_;(repeat(refine xT ?_));refine EvO.nil ?_;refine zF ?_;subst hK;refine qy ?_;refine EvC.cond (v:=false) rfl (fun h=>by cases h) fun _=>?_;refine qy ?_;(repeat refine qq ?_);(generalize hK:SeqQ _ _ _ _=K);refine EvC.reg ?_;(repeat(refine xT ?_));refine EvO.nil ?_;refine zF ?_;subst hK;refine qy ?_;refine EvC.cond (v:=false) rfl (fun h=>by cases h) fun _=>?_;refine qy ?_;refine EvC.skip<|H _ _ _ ?_ rfl;rw[ho];simp[j0,iM]
 ·subst hq
  obtain⟨y1,ys,rfl⟩:∃y1 ys,xs=y1::ys:=by
   match xs,EL with
   |y1::ys,_=>exact⟨y1,ys,rfl⟩
  have hy1:=jf y1;refine qy ?_;(repeat refine qq ?_);refine EvC.block ?_;refine qy ?_;(repeat refine qq ?_);(generalize hK:SeqQ _ _ _ _=K);refine EvC.reg ?_;(repeat(refine xT ?_));refine EvO.nil ?_;refine zF ?_;subst hK;refine qy ?_;refine EvC.cond (v:=true) rfl (fun _=>?_) (fun h=>by cases h);refine qy ?_;(repeat refine qq ?_);(generalize hK:SeqQ _ _ _ _=K);refine EvC.reg ?_
  (refine xT ?_)
  refine EvO.bQ rfl rfl rfl (fun _=>rfl) rfl rfl hb rfl rfl (by omega) (i:=0) (r:=[.int .u8 (c.toNat:Nat)]) rfl rfl (fun p=>?_);(repeat(refine xT ?_));refine EvO.bQ rfl rfl rfl (fun _=>rfl) rfl rfl hb rfl rfl (by omega) (i:=1) (r:=[.int .u8 (y1.toNat:Nat)]) rfl rfl (fun p=>?_);(repeat(first|refine xT ?_|refine xL ?_));refine EvO.nil ?_;refine zF ?_;subst hK;rw[tS (j:=5) (m:=31) hc (by omega) (by decide),tS (j:=6) (m:=63) hy1 (by omega) (by decide),AS (c:=c.toNat %2^5) (by omega),AS (c:=y1.toNat %2^6) (by omega),rv 6 (by decide) (by omega) (by omega),zV 6 rfl (by omega) (by omega)];refine H _ _ _ ?_ rfl;rw[ho];simp[j0,iM]
 ·subst hq
  obtain⟨y1,y2,ys,rfl⟩:∃y1 y2 ys,xs=y1::y2::ys:=by
   match xs,EL with
   |y1::y2::ys,_=>exact⟨y1,y2,ys,rfl⟩
  have hy1:=jf y1;have wz:=jf y2;refine qy ?_;(repeat refine qq ?_);refine EvC.block ?_;refine qy ?_;(repeat refine qq ?_);(generalize hK:SeqQ _ _ _ _=K);refine EvC.reg ?_;(repeat(refine xT ?_));refine EvO.nil ?_;refine zF ?_;subst hK;refine qy ?_;refine EvC.cond (v:=false) rfl (fun h=>by cases h) fun _=>?_;refine qy ?_;(repeat refine qq ?_);(generalize hK:SeqQ _ _ _ _=K);refine EvC.reg ?_;(repeat(refine xT ?_));refine EvO.nil ?_;refine zF ?_;subst hK;refine qy ?_;refine EvC.cond (v:=true) rfl (fun _=>?_) (fun h=>by cases h);refine qy ?_;(repeat refine qq ?_);(generalize hK:SeqQ _ _ _ _=K);refine EvC.reg ?_
  (refine xT ?_)
  refine EvO.bQ rfl rfl rfl (fun _=>rfl) rfl rfl hb rfl rfl (by omega) (i:=0) (r:=[.int .u8 (c.toNat:Nat)]) rfl rfl (fun p=>?_);(repeat(refine xT ?_));refine EvO.bQ rfl rfl rfl (fun _=>rfl) rfl rfl hb rfl rfl (by omega) (i:=1) (r:=[.int .u8 (y1.toNat:Nat)]) rfl rfl (fun p=>?_);(repeat(refine xT ?_));refine EvO.bQ rfl rfl rfl (fun _=>rfl) rfl rfl hb rfl rfl (by omega) (i:=2) (r:=[.int .u8 (y2.toNat:Nat)]) rfl rfl (fun p=>?_);(repeat(first|refine xT ?_|refine xL ?_));refine EvO.nil ?_;refine zF ?_;subst hK;rw[tS (j:=4) (m:=15) hc (by omega) (by decide),tS (j:=6) (m:=63) hy1 (by omega) (by decide),tS (j:=6) (m:=63) wz (by omega) (by decide),AS (c:=c.toNat %2^4) (by omega),AS (c:=y1.toNat %2^6) (by omega),AS (c:=y2.toNat %2^6) (by omega),rv 12 (by decide) (by omega) (by omega),rv 6 (by decide) (by omega) (by omega),zV 12 rfl (by omega) (by omega),zV (a:=c.toNat %2^4*64+y1.toNat %2^6) 6 (by omega) (by omega) (by omega)];refine H _ _ _ ?_ rfl;rw[ho];simp[j0,iM]
 ·subst hq
  obtain⟨y1,y2,y3,ys,rfl⟩:∃y1 y2 y3 ys,xs=y1::y2::y3::ys:=by
   match xs,EL with
   |y1::y2::y3::ys,_=>exact⟨y1,y2,y3,ys,rfl⟩
  have hy1:=jf y1;have wz:=jf y2;have Af:=jf y3;refine qy ?_;(repeat refine qq ?_);refine EvC.block ?_;refine qy ?_;(repeat refine qq ?_);(generalize hK:SeqQ _ _ _ _=K);refine EvC.reg ?_;(repeat(refine xT ?_));refine EvO.nil ?_;refine zF ?_;subst hK;refine qy ?_;refine EvC.cond (v:=false) rfl (fun h=>by cases h) fun _=>?_;refine qy ?_;(repeat refine qq ?_);(generalize hK:SeqQ _ _ _ _=K);refine EvC.reg ?_;(repeat(refine xT ?_));refine EvO.nil ?_;refine zF ?_;subst hK;refine qy ?_;refine EvC.cond (v:=false) rfl (fun h=>by cases h) fun _=>?_;refine qy ?_;(repeat refine qq ?_);(generalize hK:SeqQ _ _ _ _=K);refine EvC.reg ?_;(repeat(refine xT ?_));refine EvO.nil ?_;refine zF ?_;subst hK;refine qy ?_;refine EvC.cond (v:=true) rfl (fun _=>?_) (fun h=>by cases h);refine qy ?_;(repeat refine qq ?_);(generalize hK:SeqQ _ _ _ _=K);refine EvC.reg ?_
  (refine xT ?_)
  refine EvO.bQ rfl rfl rfl (fun _=>rfl) rfl rfl hb rfl rfl (by omega) (i:=0) (r:=[.int .u8 (c.toNat:Nat)]) rfl rfl (fun p=>?_);(repeat(refine xT ?_));refine EvO.bQ rfl rfl rfl (fun _=>rfl) rfl rfl hb rfl rfl (by omega) (i:=1) (r:=[.int .u8 (y1.toNat:Nat)]) rfl rfl (fun p=>?_);(repeat(refine xT ?_));refine EvO.bQ rfl rfl rfl (fun _=>rfl) rfl rfl hb rfl rfl (by omega) (i:=2) (r:=[.int .u8 (y2.toNat:Nat)]) rfl rfl (fun p=>?_);(repeat(refine xT ?_));refine EvO.bQ rfl rfl rfl (fun _=>rfl) rfl rfl hb rfl rfl (by omega) (i:=3) (r:=[.int .u8 (y3.toNat:Nat)]) rfl rfl (fun p=>?_);(repeat(first|refine xT ?_|refine xL ?_));refine EvO.nil ?_;refine zF ?_;subst hK;rw[tS (j:=3) (m:=7) hc (by omega) (by decide),tS (j:=6) (m:=63) hy1 (by omega) (by decide),tS (j:=6) (m:=63) wz (by omega) (by decide),tS (j:=6) (m:=63) Af (by omega) (by decide),AS (c:=c.toNat %2^3) (by omega),AS (c:=y1.toNat %2^6) (by omega),AS (c:=y2.toNat %2^6) (by omega),AS (c:=y3.toNat %2^6) (by omega),rv 18 (by decide) (by omega) (by omega),rv 12 (by decide) (by omega) (by omega),rv 6 (by decide) (by omega) (by omega),zV 18 rfl (by omega) (by omega),zV (a:=c.toNat %2^3*64+y1.toNat %2^6) 12 (by omega) (by omega) (by omega),zV (a:=(c.toNat %2^3*64+y1.toNat %2^6)*64+y2.toNat %2^6) 6 (by omega) (by omega) (by omega)];refine H _ _ _ ?_ rfl;rw[ho];simp[j0,iM]
theorem DM {st:St} {x:D} {b:List UInt8} (hb:Bytes st x b) (hlen:b.length≤1048576):Ev pv 9 [x] st (eo (jc b)) st:=by
 refine Ev.mk1 rfl R3 rfl rfl rfl ?_;refine zE ?_;have hx:=hb.ref;refine zR ?_;refine zR ?_;(repeat refine qq ?_);refine EvC.block ?_
 refine EvC.loop (fun j fr ae=>∃(y out g:D) (b':List UInt8) (done:List (Nat×Nat)),fr.clean=⟨5,[y,.tup [],.nul,out,g],[]⟩∧Ex st.bs.length (enterSt .ro st) ae∧Bytes ae y b'∧y.ref≤st.bs.length∧
  Acc st.bs.length ae 2 out (done.map aF)∧j=b'.length∧done++jc b'=jc b∧done.length+b'.length≤b.length) b.length
  ⟨x,.nul,_,b,[],rfl,Ex.refl _ _,hb.enter .ro,hx,.nul,rfl,rfl,by simp⟩ ?_
 rintro j fr ae ⟨y,out,g0,b',done,hfr,hex,hy,HZ,vK,rfl,bV,hl⟩;rw[hfr];refine zU ?_
 refine zW ?_
 refine EvO.len rfl rfl rfl hy rfl ?_;refine zX ?_;refine zN ?_;rw[bO];refine qy ?_;(repeat refine qq ?_);refine qc (fun h1=>?_) (fun h1=>?_)<;>try simp only[cs] at h1
 ·refine EvC.skip ?_;refine qy ?_;have hb0:b'≠[]:=by rintro rfl;simp at h1
  (refine qy ?_);(repeat refine qq ?_);refine EvC.block ?_;have OE:=zJ hy (by omega);generalize hg:eY b'=g at OE;have hp:=jM b';have hle:=sW hb0;rw[hg] at hp hle;have hN:st.bs.length≤ae.bs.length:=hex.len;have hf:ae.flr=st.bs.length:=by rw[hex.flr];rfl
  have ft:ae.ro=st.bs.length:=by rw[hex.ro];rfl
  refine zU ?_
  refine zW ?_
  refine EvO.su rfl rfl rfl OE ?_;refine EvO.L rfl rfl rfl (d:=.ptr ae.bs.length 0 0) (st1:=ae.push (.mem 0 false (aF (0,0)))) rfl ?_;refine EvO.store (k:=ae.bs.length) (aq:=0) (off:=0) (cs:=aF g) rfl rfl rfl rfl rfl (iS ae _) (by simp[aF]) (wa (N:=st.bs.length) hN (by rw[←hf];exact Nat.le_refl _) (by rw[←ft];exact Nat.le_refl _)) ?_;refine zN ?_;rw[show(⟨(ae.push (.mem 0 false (aF (0,0)))).bs.set ae.bs.length (.mem 0 false ((aF (0,0)).take 0++aF g++(aF (0,0)).drop (0+(aF g).length))),(ae.push (.mem 0 false (aF (0,0)))).flr,(ae.push (.mem 0 false (aF (0,0)))).ro⟩:St)=ae.push (.mem 0 false (aF g)) from uP rfl];have tA:=hex.trans (Ex.push hN (.mem 0 false (aF g)));generalize Jh:ae.push (.mem 0 false (aF g))=S1 at tA;have fu:S1.bs[ae.bs.length]?=some (.mem 0 false (aF g)):=by subst Jh;exact iS ae _
  have Jd:V.Acc st.bs.length S1 2 out (done.map aF):=by subst Jh;exact vK.push _
  have tw:ae.bs.length<S1.bs.length:=by subst Jh;simp[St.push]
  refine zU ?_
  refine zW ?_
  refine EvO.load (k:=ae.bs.length) (aq:=0) (off:=0) (ar:=false) (c:=aF g) (d:=.agg (aF g)) rfl rfl rfl fu rfl ?_;refine EvO.T rfl rfl rfl (d:=.win S1.bs.length 0 0 1 2) (st1:=S1.push (.mem 0 true (aF g))) rfl ?_;have xA:=tA.trans (Ex.push tA.len (.mem 0 true (aF g)));refine EvO.append rfl rfl rfl rfl (Jd.push _) (Rows.one rfl) rfl rfl rfl rfl rfl rfl rfl (by decide) xA.len (by rw[xA.flr];exact Nat.le_refl _) (by rw[xA.ro];exact Nat.le_refl _) (by simp only[List.length_map,List.length_cons,List.length_nil];show(done.length+1)*16≤_;omega) fun Ft st2 CG Ee _ nX _=>?_;refine zX ?_;refine zN ?_;have LO:=xA.trans Ee;have wz:Bytes st2 y b':=Rows.ex ((Ex.push hN _).trans ((Ex.push (by rw[Jh];exact tA.len) _).trans (by rw[Jh];exact Ee))) hy HZ
  have bZ:st2.bs[ae.bs.length]?=some (.mem 0 false (aF g)):=by
   rw[nX ae.bs.length (by simp[St.push];omega) ?_]
   ·simp only[St.push];rw[List.getElem?_append_left tw];exact fu
   ·have:=vK.ref;show ae.bs.length+1≠out.ref;omega
  refine zU ?_
  refine zW ?_
  refine zW ?_
  refine EvO.load (k:=ae.bs.length) (aq:=0) (off:=1) (ar:=false) (c:=aF g) (d:=.int .i64 (g.2:Nat)) rfl rfl rfl bZ rfl ?_;refine EvO.slice rfl rfl rfl wz rfl rfl (l:=g.2) (r:=b'.length) ?_ ⟨by omega,by rw[bO];omega⟩ fun y2 Af FG=>?_
  ·show dH (V.byteCells b').length (some (.int .i64 (g.2:Nat))) none=_;rw[bO];simp only[dH,jL,lL,Option.bind_some];rw[if_pos ⟨by omega,by omega⟩];rfl
  refine zX ?_;refine zN ?_;refine⟨(b'.drop g.2).length,by rw[List.length_drop];omega,y2,Ft,_,b'.drop g.2,done++[g],rfl,LO,?_,Nat.le_trans FG HZ,?_,rfl,?_,?_⟩
  ·have:((V.byteCells b').take b'.length).drop g.2=V.byteCells (b'.drop g.2):=by
    rw[←bO,List.take_length];simp[V.byteCells]
   unfold Bytes;rw[←this];exact Af
  ·rw[List.map_append];exact CG
  ·rw[List.append_assoc,List.singleton_append,←bV,nH hb0,hg]
  ·rw[List.length_append,List.length_drop];simp only[List.length_cons,List.length_nil];omega
 ·refine EvC.exit ?_
  have hb0:b'=[]:=by cases b' with|nil=>rfl|cons _ _=>simp at h1<;>omega
  subst hb0;rw[mE,List.append_nil] at bV;refine zR ?_;refine EvC.ret ⟨rx,_,rfl,aB (by simp) (hex.take rfl) ?_⟩;rw[←bV];exact vK.freeze lI (n:=15) (by decide)
def cz (fr:Go.V.Fr) (k:Nat):Go.V.D:=Go.V.nth .junk fr.loc k
theorem iu {left n r lo hi:Nat} {xs:List UInt8} (h:(c_ (left+1) n r lo hi xs).2.1≠0):∃y ys,lo≤y∧y≤hi∧c_ (left+1) n r lo hi xs=c_ left n (r*64+y %64) 128 191 ys:=by
 cases xs with
 |nil=>exact absurd rfl h
 |cons x xs=>
  have e:c_ (left+1) n r lo hi (x::xs)=if x.toNat<lo∨hi<x.toNat then(0,0,false) else c_ left n (r*64+x.toNat %64) 128 191 xs:=rfl;rw[e] at h⊢
  by_cases h1:x.toNat<lo∨hi<x.toNat
  ·rw[if_pos h1] at h;exact absurd rfl h
  ·rw[if_neg h1];exact⟨x.toNat,xs,by omega,by omega,rfl⟩
theorem BM (b:List UInt8):hI (eY b).1:=by
 unfold eY
 split
 ·unfold hI;simp only;omega
 ·rename_i h0;show hI (dX b).1
  cases b with
  |nil=>exact absurd rfl h0
  |cons c xs=>
   have hc:=jf c;have e:dX (c::xs)=if(aH c.toNat).1<0 then(0,0,false) else c_ (aH c.toNat).1.toNat ((aH c.toNat).1.toNat+1) (if(aH c.toNat).1>0 then c.toNat %(64/2^(aH c.toNat).1.toNat) else c.toNat) (aH c.toNat).2.1 (aH c.toNat).2.2 xs:=rfl;rw[e] at h0⊢;clear e;generalize c.toNat=c at*
   have key:∀(k lo hi:Nat),aH c=(((k:Nat):Int),lo,hi)→(k=0→c<128)→(k=1→c<224)→(k=2→224≤c∧c<240∧(c=237→hi≤159)∧128≤lo∧hi≤191)→(k=3→240≤c∧c≤244∧(c=244→hi≤143)∧(c=240→144≤lo)∧128≤lo∧hi≤191)→k≤3→hI (if(aH c).1<0 then(0,0,false) else c_ (aH c).1.toNat ((aH c).1.toNat+1) (if(aH c).1>0 then c %(64/2^(aH c).1.toNat) else c) (aH c).2.1 (aH c).2.2 xs).1:=by
    intro k lo hi hm k0 k1 k2 k3 hk;rw[hm] at h0⊢;rw[if_neg (by simp only;omega)] at h0⊢;simp only[Int.toNat_natCast] at h0⊢;unfold hI
    match k,hk with
    |0,_=>
     have:=k0 rfl;show c<55296∨_;omega
    |1,_=>
     obtain⟨y,ys,h1,h2,h3⟩:=iu h0;rw[h3];show(if((1:Nat):Int)>0 then c %(64/2^1) else c)*64+y %64<55296∨_;rw[if_pos (by omega)];omega
    |2,_=>
     have k2:=k2 rfl;obtain⟨y,ys,h1,h2,h3⟩:=iu h0;rw[h3] at h0⊢;obtain⟨z,zs,h4,h5,h6⟩:=iu h0;rw[h6];show((if((2:Nat):Int)>0 then c %(64/2^2) else c)*64+y %64)*64+z %64<55296∨(57344≤((if((2:Nat):Int)>0 then c %(64/2^2) else c)*64+y %64)*64+z %64∧((if((2:Nat):Int)>0 then c %(64/2^2) else c)*64+y %64)*64+z %64≤1114111);rw[if_pos (by omega)];omega
    |3,_=>
     have k3:=k3 rfl;obtain⟨y,ys,h1,h2,h3⟩:=iu h0;rw[h3] at h0⊢;obtain⟨z,zs,h4,h5,h6⟩:=iu h0;rw[h6] at h0⊢;obtain⟨u,us,h7,h8,h9⟩:=iu h0;rw[h9];show(((if((3:Nat):Int)>0 then c %(64/2^3) else c)*64+y %64)*64+z %64)*64+u %64<55296∨(57344≤(((if((3:Nat):Int)>0 then c %(64/2^3) else c)*64+y %64)*64+z %64)*64+u %64∧(((if((3:Nat):Int)>0 then c %(64/2^3) else c)*64+y %64)*64+z %64)*64+u %64≤1114111);rw[if_pos (by omega)];omega
   have bad:aH c=(-1,0,0)→hI (if(aH c).1<0 then(0,0,false) else c_ (aH c).1.toNat ((aH c).1.toNat+1) (if(aH c).1>0 then c %(64/2^(aH c).1.toNat) else c) (aH c).2.1 (aH c).2.2 xs).1:=by
    intro hm;rw[hm,if_pos (by decide)] at h0;exact absurd rfl h0
   by_cases a1:c<128
   ·exact key 0 0 0 (by unfold aH;rw[if_pos a1];rfl) (by omega) (by omega) (by omega) (by omega) (by omega)
   by_cases a2:c<194
   ·exact bad (by unfold aH;rw[if_neg a1,if_pos a2])
   by_cases a3:c<224
   ·exact key 1 128 191 (by unfold aH;rw[if_neg a1,if_neg a2,if_pos a3];rfl) (by omega) (by omega) (by omega) (by omega) (by omega)
   by_cases a4:c=224
   ·exact key 2 160 191 (by unfold aH;rw[if_neg a1,if_neg a2,if_neg a3,if_pos a4];rfl) (by omega) (by omega) (by omega) (by omega) (by omega)
   by_cases a5:c=237
   ·exact key 2 128 159 (by unfold aH;rw[if_neg a1,if_neg a2,if_neg a3,if_neg a4,if_pos a5];rfl) (by omega) (by omega) (by omega) (by omega) (by omega)
   by_cases a6:c<240
   ·exact key 2 128 191 (by unfold aH;rw[if_neg a1,if_neg a2,if_neg a3,if_neg a4,if_neg a5,if_pos a6];rfl) (by omega) (by omega) (by omega) (by omega) (by omega)
   by_cases a7:c=240
   ·exact key 3 144 191 (by unfold aH;rw[if_neg a1,if_neg a2,if_neg a3,if_neg a4,if_neg a5,if_neg a6,if_pos a7];rfl) (by omega) (by omega) (by omega) (by omega) (by omega)
   by_cases a8:c<244
   ·exact key 3 128 191 (by unfold aH;rw[if_neg a1,if_neg a2,if_neg a3,if_neg a4,if_neg a5,if_neg a6,if_neg a7,if_pos a8];rfl) (by omega) (by omega) (by omega) (by omega) (by omega)
   by_cases a9:c=244
   ·exact key 3 128 143 (by unfold aH;rw[if_neg a1,if_neg a2,if_neg a3,if_neg a4,if_neg a5,if_neg a6,if_neg a7,if_neg a8,if_pos a9];rfl) (by omega) (by omega) (by omega) (by omega) (by omega)
   exact bad (by unfold aH;rw[if_neg a1,if_neg a2,if_neg a3,if_neg a4,if_neg a5,if_neg a6,if_neg a7,if_neg a8,if_neg a9])
theorem wm:∀(n:Nat) (b:List UInt8),∀g∈rh n b,hI g.1
 |0,_,g,h=>by simp[rh] at h
 |n+1,[],g,h=>by simp[rh] at h
 |n+1,c::b,g,h=>by
  simp only[rh,List.mem_cons] at h
  rcases h with rfl|h
  ·exact BM _
  ·exact wm n _ g h
theorem refParse_ev {s0:St} {b:List UInt8} (hbl:b.length≤1048576):∃w:Int,Ev pv 4 [.str b] s0 (.tup [kT (parseX b).1,.int .i64 (parseX b).2.1,.int .i64 w]) s0:=by
 suffices hg:∃d,Ev pv 4 [.str b] s0 d s0∧∃w:Int,d=.tup [kT (parseX b).1,.int .i64 (parseX b).2.1,.int .i64 w] by
  obtain⟨d,h1,w,rfl⟩:=hg;exact⟨w,h1⟩
 obtain⟨X,hX⟩:∃X,parseX b=X:=⟨_,rfl⟩
 rw[hX];unfold parseX at hX;obtain⟨kW,LJ⟩:=wo _ b (Nat.le_refl _);have Qa:∀g∈jc b,hI g.1:=wm _ b;have hev:∀(st:St) (x:D),Bytes st x b→Ev pv 9 [x] st (eo (jc b)) st:=fun st x h=>DM h hbl;generalize jc b=gs at*;refine Ev.yE rfl R7 rfl rfl rfl ?_;refine zE ?_;obtain⟨hSb,hF,hH⟩:=ri s0;generalize enterSt .ro s0=S at*;have Ct:Arg s0.bs.length S 2 (eo gs) (gs.map aF):=Arg.pure (fun st=>dt st gs);refine zQ 10 ?_;refine EvO.slen rfl rfl rfl (put_T rfl _) ?_;refine zQ 2 ?_
 by_cases vD:120<b.length
 ·have hcc:decide (((b.length:Nat):Int)>120)=true:=by rw[decide_eq_true_eq];omega
  refine qD rfl (by rw[hcc]) ?_;refine zQ 6 ?_;refine EvC.ret ⟨rx,_,_,rfl,rl hSb hH (rfl),?_⟩;rw[if_pos vD] at hX;rw[←hX];exact⟨0,rfl⟩
 rw[if_neg vD] at hX;have hcc:decide (((b.length:Nat):Int)>120)=false:=by rw[decide_eq_false_iff_not];omega
 refine qE rfl (by rw[hcc]) ?_;refine zQ 3 ?_;refine EvO.go (d:=.agg [.nul,.nul,.int .i64 0,.int .i64 0,.int .i64 0,.int .i64 0]) (st1:=_) rfl rfl rfl (put_T rfl _) ?_;refine qb hH fun k14 st Ge hH=>?_;refine zQ 9 ?_;refine EvO.Cz hH rfl rfl rfl rfl rfl (by omega) (fun _=>(put_T rfl _)) (fun k16 st Rk hH=>?_);refine qv ((hev _ _ (hH.rows at0))) ?_;refine zQ 7 ?_;have hH:Has s0.bs.length S st (.box k14 (.mem 0 false [.nul,.nul,.int .i64 0,.int .i64 0,.int .i64 0,.int .i64 0])::.lst .nul 1 (([]:List Int).map ai)::.lst .nul 1 (([]:List Int).map ah)::[]):=(((hH.drop 1).nulE 1).nulE 1).front at2;refine zQ 1 ?_;refine EvC.loop (fun mm fr st=>∃(i a:Nat) (rD aD:D) (aP:List Int),fr.clean=⟨10,[cz fr 0,cz fr 1,cz fr 2,cz fr 3,cz fr 4,.ptr k14 0 0,.int .i64 (a:Nat),eo gs,.int .i64 (i:Nat),cz fr 9],[]⟩∧Has s0.bs.length S st [.box k14 (.mem 0 false [rD,aD,.int .i64 0,.int .i64 0,.int .i64 0,.int .i64 0]),.lst rD 1 (((gs.take i).map bm).map ai),.lst aD 1 (aP.map ah)]∧(i+mm=gs.length)∧(aP.length=i)∧(a≤120*i)) (gs.length) ?_ ?_
 ·exact⟨0,0,.nul,.nul,[],rfl,hH,by omega,rfl,by omega⟩
 rintro mm fr st ⟨i,a,rD,aD,aP,hfr,hH,hi,hpl,ha⟩;rw[hfr];clear hfr;generalize cz fr=ee;clear fr;refine zQ 5 ?_;refine qn ?_;simp only[List.length_map];refine zQ 2 ?_
 by_cases hlt:i<gs.length
 ·obtain⟨g,hg⟩:∃g,gs[i]?=some g:=⟨gs[i]'hlt,List.getElem?_eq_getElem _⟩
  have hr1:(gs.map aF)[i]?=some (aF g):=by rw[List.getElem?_map,hg];rfl
  have bZ:=LJ g (List.mem_of_getElem? hg);have EO:(gs.take (i+1)).map bm=(gs.take i).map bm++[bm g]:=by rw[List.take_add_one,hg,Option.toList_some,List.map_append];rfl
  have lF:decide (((i:Nat):Int)<((gs.length:Nat):Int))=true:=by rw[decide_eq_true_eq];omega
  have yP:((gs.take i).map bm).length≤120:=by simp;omega
  have P1:(gs.take i).length≤120:=by simp;omega
  refine qD rfl (by rw[lF]) ?_;refine zQ 5 ?_;refine EvC.cutT 37 (.bool ((((g.1:Nat):Int)==65533) &&(((g.2:Nat):Int)==1))) [] ?_ (fun ff tmp htmp=>?_)
  ·refine zQ 2 ?_;refine qr fun Py Le=>?_;refine qf (fo:=0) fun p27 hp27=>?_;refine zQ 3 ?_;refine EvO.two 30 rfl (fun ig=>?_) (fun ig=>?_)
   ·refine zQ 2 ?_;refine qr (fun Pw Lc=>?_) (hg:=wi ig);refine qf (fo:=1) (fun Ke F0=>?_) (hg:=wi ig);refine zQ 3 ?_;refine EvO.nil (leafT ?_ ?_)
    ·dsimp only[setW,List.foldl,nth,u2,u1]
     all_goals(first|rfl|simp)
    ·refine zF ?_
     all_goals(simp[ig];done)
   ·refine zQ 7 ?_;refine EvO.nil (leafT ?_ ?_)
    ·dsimp only[setW,List.foldl,nth,u2,u1]
     all_goals(first|rfl|simp)
    ·refine zF ?_
     all_goals(simp[ig];done)
  refine zG ?_;refine EvC.merge (fun fr st=>∃(JE:D) (tmp:List (Nat×D)),fr=⟨10,[cz fr 0,cz fr 1,cz fr 2,cz fr 3,cz fr 4,.ptr k14 0 0,.int .i64 (a:Nat),eo gs,.int .i64 (i:Nat),cz fr 9],tmp⟩∧Has s0.bs.length S st [.box k14 (.mem 0 false [JE,aD,.int .i64 0,.int .i64 0,.int .i64 0,.int .i64 0]),.lst JE 1 (((gs.take (i+1)).map bm).map ai),.lst aD 1 (aP.map ah)]) ?_ ?_
  ·by_cases hbad:((g.1:Nat):Int)=65533∧((g.2:Nat):Int)=1
   ·have hcc:((((g.1:Nat):Int)==65533) &&(((g.2:Nat):Int)==1))=true:=by rw[beq_iff_eq.2 hbad.1,beq_iff_eq.2 hbad.2];rfl
    have hv:bm g=-1:=by unfold bm;rw[if_pos hbad]
    refine EvC.cond (v:=true) (by dsimp only[Fr.ev,Fr.get,nth,V.look];exact htmp.trans (congrArg D.bool hcc)) (fun _=>?_) (fun h=>by cases h);refine zQ 6 ?_;refine qh (s:=1) (vs:=[_]) hH fun k43 st LB hH=>?_;refine EvO.happend (s:=1) hH rfl (ev rfl) (ev rfl) (by exact at2) (by exact hH.rows (by exact at0)) rfl rfl rfl rfl rfl rfl rfl ⟨(Nat.le_of_ble_eq_true rfl),(Nat.le_of_ble_eq_true rfl)⟩ (fun _=>(put_T rfl _)) (by simp only[List.length_cons,List.length_nil,List.length_map]<;>omega) (by exact .inl hF) (fun Sk st hH=>?_);dsimp only[u2,u1,u3,u4,setMany,u5,u6,D.cells,Nat.reduceAdd,aC,ai,ah,aF] at hH;refine zQ 2 ?_;refine qT hH at1 (fun st hH=>?_) (jk:=hH.ocells at2);dsimp only[u2,u1,u3,u4,setMany,u5,u6,D.cells,Nat.reduceAdd,aC,ai,ah,aF] at hH;refine zQ 1 ?_;exact⟨_,_,rfl,(by rw[EO,hv,List.map_append];exact(hH.drop 1))⟩
   ·have hcc:((((g.1:Nat):Int)==65533) &&(((g.2:Nat):Int)==1))=false:=by
     rw[Bool.and_eq_false_iff,beq_eq_false_iff_ne,beq_eq_false_iff_ne]
     by_cases h1:((g.1:Nat):Int)=65533
     ·exact .inr fun h2=>hbad ⟨h1,h2⟩
     ·exact .inl h1
    have hv:bm g=((g.1:Nat):Int):=by unfold bm;rw[if_neg hbad]
    refine EvC.cond (v:=false) (by dsimp only[Fr.ev,Fr.get,nth,V.look];exact htmp.trans (congrArg D.bool hcc)) (fun h=>by cases h) (fun _=>?_);refine zQ 8 ?_;refine qr fun SH QD=>?_;refine qf (fo:=0) fun N7 Ii=>?_;refine qR ?_;refine qh (s:=1) (vs:=[_]) hH fun k57 st Q_ hH=>?_;refine EvO.happend (s:=1) hH rfl (ev rfl) (ev rfl) (by exact at2) (by exact hH.rows (by exact at0)) rfl rfl rfl rfl rfl rfl rfl ⟨(Nat.le_of_ble_eq_true rfl),(Nat.le_of_ble_eq_true rfl)⟩ (fun _=>(put_T rfl _)) (by simp only[List.length_cons,List.length_nil,List.length_map]<;>omega) (by exact .inl hF) (fun Sj st hH=>?_);dsimp only[u2,u1,u3,u4,setMany,u5,u6,D.cells,Nat.reduceAdd,aC,ai,ah,aF] at hH;refine zQ 2 ?_;refine qT hH at1 (fun st hH=>?_) (jk:=hH.ocells at2);dsimp only[u2,u1,u3,u4,setMany,u5,u6,D.cells,Nat.reduceAdd,aC,ai,ah,aF] at hH;refine zQ 1 ?_;exact⟨_,_,rfl,(by rw[EO,hv,List.map_append];exact(hH.drop 1))⟩
  ·rintro fr st ⟨JE,tmp,hfr,hH⟩;rw[hfr];clear hfr;generalize cz fr=ee;clear fr;refine zQ 8 ?_;refine qh (s:=1) (vs:=[_]) hH fun k67 st Q8 hH=>?_;refine EvO.happend (s:=1) hH rfl (ev rfl) (ev rfl) (by exact at3) (by exact hH.rows (by exact at0)) rfl rfl rfl rfl rfl rfl rfl ⟨(Nat.le_of_ble_eq_true rfl),(Nat.le_of_ble_eq_true rfl)⟩ (fun _=>(put_T rfl _)) (by simp only[List.length_cons,List.length_nil,List.length_map]<;>omega) (by exact .inl hF) (fun Si st hH=>?_);dsimp only[u2,u1,u3,u4,setMany,u5,u6,D.cells,Nat.reduceAdd,aC,ai,ah,aF] at hH;refine zQ 2 ?_;refine qT hH at1 (fun st hH=>?_) (jk:=hH.ocells at3);dsimp only[u2,u1,u3,u4,setMany,u5,u6,D.cells,Nat.reduceAdd,aC,ai,ah,aF] at hH;refine zQ 5 ?_;refine qr fun Sz Qv=>?_;refine qf (fo:=1) fun Sy Qu=>?_;refine qR ?_;refine EvO.addN rfl (ev rfl) (ev rfl) (by omega) (put_T rfl _) ?_;refine zQ 7 ?_;exact⟨mm-1,by omega,⟨i+1,a+g.2,JE,_,aP++[((a:Nat):Int)],rfl,(by rw[List.map_append];exact hH.drop 1),by omega,by rw[List.length_append,hpl];rfl,by omega⟩⟩
 ·have lF:decide (((i:Nat):Int)<((gs.length:Nat):Int))=false:=by rw[decide_eq_false_iff_not];omega
  refine qE rfl (by rw[lF]) ?_;refine zQ 1 ?_;rw[List.take_of_length_le (by omega)] at hH;refine zQ 8 ?_;refine qh (s:=1) (vs:=[_]) hH fun k84 st Q2 hH=>?_;refine EvO.happend (s:=1) hH rfl (ev rfl) (ev rfl) (by exact at3) (by exact hH.rows (by exact at0)) rfl rfl rfl rfl rfl rfl rfl ⟨(Nat.le_of_ble_eq_true rfl),(Nat.le_of_ble_eq_true rfl)⟩ (fun _=>(put_T rfl _)) (by simp only[List.length_cons,List.length_nil,List.length_map]<;>omega) (by exact .inl hF) (fun JD st hH=>?_);dsimp only[u2,u1,u3,u4,setMany,u5,u6,D.cells,Nat.reduceAdd,aC,ai,ah,aF] at hH;refine zQ 2 ?_;refine qT hH at1 (fun st hH=>?_) (jk:=hH.ocells at3);dsimp only[u2,u1,u3,u4,setMany,u5,u6,D.cells,Nat.reduceAdd,aC,ai,ah,aF] at hH;refine zQ 1 ?_
  obtain⟨bB,I'⟩:∃bB,aP++[((a:Nat):Int)]=bB:=⟨_,rfl⟩
  have hok:ow gs bB:=⟨by omega,by rw[←I',List.length_append,hpl];simp only[List.length_cons,List.length_nil];omega,Qa⟩
  have hH:Has s0.bs.length S st (.box k14 (.mem 0 false (aC rD JD ⟨0,0,0,0⟩))::.lst rD 1 ((gs.map bm).map ai)::.lst JD 1 (bB.map ah)::[]):=by rw[←I',List.map_append];exact hH.drop 1
  refine zQ 3 ?_;obtain⟨_,st,hev,s1,⟨p2,p3,l,rfl,p5,p6,p7⟩,hH⟩:=wX gs 20 (s:=⟨0,0,0,0⟩) 0 hok rfl (by simp) (by simp) rfl hH;refine qv hev ?_;refine zQ 2 ?_;have p7:(dN (qz gs 20 0 0) s1.e∧s1.i≤gs.length+1+20)∨(s1.e=0∧s1.i≤gs.length∧qz gs 20 0 0=.ok (l,s1.g) s1.i)∨(20=20∧s1.e=0∧bJ gs s1.i 41=true∧∃w,qz gs 20 0 0=.er 4 w):=p7;generalize qz gs 20 0 0=R at*;unfold w_ at hX;refine zQ 2 ?_;refine EvC.fF (fun fr st=>∃(s2:et) (tmp:List (Nat×D)),fr=⟨10,[cz fr 0,cz fr 1,cz fr 2,cz fr 3,cz fr 4,.ptr k14 0 0,cz fr 6,cz fr 7,cz fr 8,kT l],tmp⟩∧Has s0.bs.length S st (.box k14 (.mem 0 false (aC rD JD s2))::.lst rD 1 ((gs.map bm).map ai)::.lst JD 1 (bB.map ah)::[])∧(s2.e≠0∧(∃w,X=([],s2.e,w))∨s2.e=0∧X=(l,0,0))) ?_ ?_
  ·by_cases he1:s1.e=0
   ·have cQ:(s1.e==0)=true:=by simpa using he1
    have OX:(s1.i≤gs.length∧R=.ok (l,s1.g) s1.i)∨(bJ gs s1.i 41=true∧∃w,R=.er 4 w):=by
     rcases p7 with p7|p7|p7
     ·exact absurd he1 p7.1.1
     ·exact .inl p7.2
     ·exact .inr p7.2.2
    refine zQ 15 ?_;refine qn ?_ (hR:=hH.rows at1) (hg:=wi cQ);simp only[List.length_map];refine zQ 3 ?_
    by_cases IQ:s1.i<gs.length
    ·have L2:decide (((s1.i:Nat):Int)<((gs.length:Nat):Int))=true:=by rw[decide_eq_true_eq];omega
     refine EvC.cond (v:=true) (by dsimp only[Fr.ev,Fr.get,nth,V.look];exact congrArg D.bool L2) (fun _=>?_) (fun h=>by cases h);have hal:=hok.al;refine zQ 3 ?_;obtain⟨_,st,hev,⟨v,rfl⟩,hH⟩:=gu (s:=s1) (by omega) hH;refine qv hev ?_;obtain⟨_,st,hev,rfl,hH⟩:=bc (s:=s1) 4 v hH;refine qv hev ?_;refine zQ 1 ?_;have Gh:(fh s1 4 v).e=4:=cS he1
     have hj:(fh s1 4 v).e≠0∧(∃w,X=([],(fh s1 4 v).e,w)):=by
      rw[Gh];refine⟨by decide,?_⟩
      rcases OX with⟨_,hR⟩|⟨_,w,hR⟩
      ·rw[hR] at hX;simp only at hX;rw[if_pos IQ] at hX;exact⟨_,hX.symm⟩
      ·rw[hR] at hX;exact⟨_,hX.symm⟩
     exact⟨_,_,rfl,hH,.inl hj⟩
    ·have L2:decide (((s1.i:Nat):Int)<((gs.length:Nat):Int))=false:=by rw[decide_eq_false_iff_not];omega
     refine EvC.cond (v:=false) (by dsimp only[Fr.ev,Fr.get,nth,V.look];exact congrArg D.bool L2) (fun h=>by cases h) (fun _=>?_);refine zQ 1 ?_
     have hj:X=(l,0,0):=by
      rcases OX with⟨_,hR⟩|⟨Mk,_⟩
      ·rw[hR] at hX;simp only at hX;rw[if_neg IQ] at hX;exact hX.symm
      ·exact absurd (cE Mk) IQ
     exact⟨s1,_,rfl,hH,.inr ⟨he1,hj⟩⟩
   ·have cQ:(s1.e==0)=false:=by simpa using he1
    refine zQ 21 ?_
    have hj:∃w,X=([],s1.e,w):=by
     rcases p7 with p7|p7|p7
     ·obtain⟨⟨_,w,hR⟩,_⟩:=p7;rw[hR] at hX;exact⟨_,hX.symm⟩
     ·exact absurd p7.1 he1
     ·exact absurd p7.2.1 he1
    exact⟨s1,_,rfl,hH,.inl ⟨he1,hj⟩⟩
  ·rintro fr st ⟨s2,tmp,hfr,hH,ht⟩;rw[hfr];clear hfr;generalize cz fr=ee;clear fr;refine zQ 9 ?_;refine EvC.cond (by rfl) (fun hne=>?_) (fun hne=>?_)<;>try simp only[bne_iff_ne,bne_eq_false_iff_eq,ne_eq] at hne
   ·refine zQ 14 ?_;refine EvC.ret ⟨rx,_,_,rfl,rl hSb hH (rfl),?_⟩
    rcases ht with⟨h1,w,h2⟩|⟨h1,h2⟩
    ·rw[h2];exact⟨_,rfl⟩
    ·exact absurd h1 hne
   ·refine zQ 8 ?_;refine EvC.ret ⟨rx,_,_,rfl,rl hSb hH (rfl),?_⟩
    rcases ht with⟨h1,h2⟩|⟨h1,h2⟩
    ·exact absurd h1 (by omega)
    ·rw[h2];exact⟨0,rfl⟩
end Go.Proofs.YtajblankjjmonaaGreat
