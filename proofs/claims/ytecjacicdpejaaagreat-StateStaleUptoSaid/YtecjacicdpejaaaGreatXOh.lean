/-
 What is written is read, what is read has its bytes; a number within bounds.
-/
import Derived.Test.YtecjacicdpejaaaGreatXGHr
import Derived.Test.YtecjacicdpejaaaGreatXGOe
set_option maxRecDepth 100000
set_option maxHeartbeats 4000000
set_option linter.unusedSimpArgs false
set_option linter.unusedVariables false
namespace Go.Proofs.YtecjacicdpejaaaGreat
open Go.V Go
theorem Ir (j z r:Nat):∀i,i≤j→tA i (z*256^j+r)=tA i r
 |0,_=>rfl
 |i+1,h=>by
  simp only[tA];rw[Ir j z r i (by omega)]
  congr 1
  have e:z*256^j=(z*256^(j-i-1)*256)*256^i:=by
   rw[show j=(j-i-1)+1+i by omega,Nat.pow_add,Nat.pow_succ];simp only[show(j-i-1+1+i)-i-1=j-i-1 by omega];rw[←Nat.mul_assoc,←Nat.mul_assoc]
  rw[e,Nat.add_comm,Nat.add_mul_div_right _ _ (Nat.pow_pos (by decide))];rw[←UInt8.toNat_inj,UInt8.toNat_ofNat',UInt8.toNat_ofNat',Nat.add_mul_mod_self_right]
theorem lQ:∀(l:List UInt8) (u:Nat),dX u l=u*256^l.length+dX 0 l
 |[],u=>by simp[dX]
 |c::l,u=>by
  simp only[dX,List.length_cons];rw[lQ l (u*256+c.toNat),lQ l (0*256+c.toNat),Nat.pow_succ,Nat.add_mul,Nat.zero_mul,Nat.zero_add,Nat.mul_assoc,Nat.mul_comm 256];omega
theorem Iq:∀l:List UInt8,tA l.length (dX 0 l)=l
 |[]=>rfl
 |c::l=>by
  have h1:=r_ l 0;rw[Nat.zero_add,Nat.one_mul] at h1
  have h2:dX 0 (c::l)=c.toNat*256^l.length+dX 0 l:=by
   show dX (0*256+c.toNat) l=_;rw[Nat.zero_mul,Nat.zero_add];exact lQ l _
  rw[h2,List.length_cons];simp only[tA];rw[Ir _ _ _ _ (Nat.le_refl _),Iq l]
  congr 1
  rw[Nat.mul_comm,Nat.mul_add_div (Nat.pow_pos (by decide)),Nat.div_eq_of_lt h1,Nat.add_zero];exact UInt8.ofNat_toNat
theorem Hd:∀(k m:Nat),dX 0 (tA k m)=m %256^k
 |0,m=>by simp[tA,dX,Nat.mod_one]
 |k+1,m=>by
  simp only[tA]
  have h2:dX 0 (UInt8.ofNat (m/256^k)::tA k m)=(UInt8.ofNat (m/256^k)).toNat*256^(tA k m).length+dX 0 (tA k m):=by
   show dX (0*256+_) _=_;rw[Nat.zero_mul,Nat.zero_add];exact lQ _ _
  rw[h2,q_,Hd k m,UInt8.toNat_ofNat'];show m/256^k %256*256^k+m %256^k=m %(256^k*256);rw[show m %(256^k*256)=m %256^k+256^k*(m/256^k %256) from Nat.mod_mul,Nat.mul_comm,Nat.add_comm]
theorem UA {l:List UInt8} (hl:l.length≤8) (h:l.length=0∨∃z l',l=z::l'∧z≠0):kB (dX 0 l)=l.length:=by
 have h1:=r_ l 0;rw[Nat.zero_add,Nat.one_mul] at h1;have hlt:dX 0 l<256^8:=Nat.lt_of_lt_of_le h1 (Nat.pow_le_pow_right (by decide) hl);obtain⟨k1,k2⟩:=wu hlt
 rcases Nat.lt_trichotomy (kB (dX 0 l)) l.length with hc|hc|hc
 ·exfalso
  rcases h with h|⟨z,l',rfl,hz⟩
  ·omega
  ·have h2:dX 0 (z::l')=z.toNat*256^l'.length+dX 0 l':=by
    show dX (0*256+z.toNat) l'=_;rw[Nat.zero_mul,Nat.zero_add];exact lQ l' _
   have hz0:0<z.toNat:=by
    rcases Nat.eq_zero_or_pos z.toNat with h|h
    ·exact absurd (by rw[←UInt8.toNat_inj];exact h) hz
    ·exact h
   have h3:256^kB (dX 0 (z::l'))≤256^l'.length:=Nat.pow_le_pow_right (by decide) (by simp only[List.length_cons] at hc;omega);have h4:256^l'.length≤z.toNat*256^l'.length:=Nat.le_mul_of_pos_left _ hz0;have h5:0<dX 0 (z::l')/256^kB (dX 0 (z::l')):=Nat.div_pos (by omega) (Nat.pow_pos (by decide));omega
 ·exact hc
 ·exfalso
  have:=k2 l.length hc;rw[Nat.div_eq_of_lt h1] at this;omega
theorem jx {b:List UInt8} {s:df} (h:s.e=0) (h2:(bc b s).2.e=0):b.drop s.at_=aQ (bc b s).1++b.drop (bc b s).2.at_:=by
 unfold bc at*;rw[if_neg (by simpa using h)] at*
 split at h2
 ·simp at h2
 ·rename_i k rest hd;rw[hd]
  by_cases h8:8<k.toNat
  ·rw[if_pos h8] at h2;simp at h2
  rw[if_neg h8] at*
  by_cases hs:rest.length<k.toNat
  ·rw[if_pos hs] at h2;simp at h2
  rw[if_neg hs] at*
  by_cases hb:(0<k.toNat∧rest.head?=some 0)∨9223372036854775808≤dX 0 (rest.take k.toNat)
  ·rw[if_pos hb] at h2;simp at h2
  rw[if_neg hb] at*;have hl:(rest.take k.toNat).length=k.toNat:=by rw[List.length_take];omega
  have hkB:=UA (l:=rest.take k.toNat) (by omega) (by
   rcases Nat.eq_zero_or_pos k.toNat with h0|h0
   ·exact .inl (by omega)
   ·cases rest with
    |nil=>simp at hs;omega
    |cons z l=>
     obtain⟨m,hm⟩:∃m,k.toNat=m+1:=⟨k.toNat-1,by omega⟩
     rw[hm]
     exact .inr ⟨z,l.take m,rfl,fun e=>hb (.inl ⟨h0,by rw[e];rfl⟩)⟩)
  have tK:=Iq (rest.take k.toNat);rw[hl] at hkB tK;show k::rest=aQ ((dX 0 (rest.take k.toNat):Nat):Int)++b.drop (s.at_+1+k.toNat)
  have SQ:b.drop (s.at_+1+k.toNat)=rest.drop k.toNat:=by
   rw[Nat.add_assoc,←List.drop_drop,hd,Nat.add_comm 1,List.drop_succ_cons]
  rw[SQ];unfold aQ;rw[Int.toNat_natCast,hkB,tK,UInt8.ofNat_toNat,List.cons_append,List.take_append_drop]
theorem gi {b post:List UInt8} {s:df} (h:s.e=0) {n:Int} (hn:0≤n∧n<9223372036854775808) (hd:b.drop s.at_=aQ n++post):bc b s=(n,⟨s.at_+(aQ n).length,0⟩):=by
 obtain⟨m,rfl⟩:∃m:Nat,n=(m:Nat):=⟨n.toNat,by omega⟩
 have hm:m<9223372036854775808:=by omega
 have kq:=HQ m;obtain⟨k1,k2⟩:=wu (m:=m) (by omega);unfold bc;rw[if_neg (by simpa using h),hd];unfold aQ;rw[Int.toNat_natCast,List.cons_append];have hk:(UInt8.ofNat (kB m)).toNat=kB m:=by rw[UInt8.toNat_ofNat',Nat.mod_eq_of_lt (by omega)]
 simp only[hk];have hbl:=q_ (kB m) m;have aaq:m %256^kB m=m:=Nat.mod_eq_of_lt (Nat.lt_of_div_eq_zero (Nat.pow_pos (by decide)) k1)
 have LX:(tA (kB m) m++post).take (kB m)=tA (kB m) m:=by
  have:=List.take_left (l₁:=tA (kB m) m) (l₂:=post)
  rwa [hbl] at this
 rw[if_neg (by omega),if_neg (by rw[List.length_append,hbl];omega),LX,Hd,aaq,if_neg]
 ·simp only[List.length_cons,hbl]
  congr 2;omega
 ·rintro(⟨h0,h1⟩|h1)
  ·obtain⟨q,hq⟩:∃q,kB m=q+1:=⟨kB m-1,by omega⟩
   rw[hq] at h1;simp only[tA,List.cons_append,List.head?_cons,Option.some.injEq] at h1;have h3:=k2 q (by omega)
   have h4:m/256^q<256:=by
    rw[hq,Nat.pow_succ,←Nat.div_div_eq_div_mul] at k1;exact Nat.lt_of_div_eq_zero (by decide) k1
   have h5:=congrArg UInt8.toNat h1;rw[UInt8.toNat_ofNat',Nat.mod_eq_of_lt h4] at h5;have h6:m/256^q=0:=h5;omega
  ·omega
theorem JL (b:List UInt8) (s:df) (hs:s.at_≤b.length) (h:s.e=0) (h2:(dq b s).2.e=0):b.drop s.at_=iw (dq b s).1++b.drop (dq b s).2.at_:=by
 have o3:=(dB (b:=b) (s:=s) hs).2.2.1;unfold dq at*
 by_cases hc:(bc b s).2.e=0∧(bc b s).1>1
 ·rw[if_pos hc] at h2;simp at h2
 rw[if_neg hc] at*;simp only at h2⊢;rw[jx h h2]
 congr 1
 unfold iw
 congr 1
 by_cases h1:(bc b s).1=1
 ·rw[decide_eq_true ⟨h2,h1⟩,h1];rfl
 ·rw[decide_eq_false (fun h=>h1 h.2)];have:¬(bc b s).1>1:=fun h=>hc ⟨h2,h⟩;show(bc b s).1=0;omega
theorem zA {b:List UInt8} {m:Int} {s:df} (h:s.e=0) (h2:(bM b m s).2.e=0):bM b m s=bc b s:=by
 unfold bM at*
 by_cases hc:(bc b s).2.e=0∧(bc b s).1>m
 ·rw[if_pos hc] at h2;simp at h2
 ·rw[if_neg hc]
theorem IJ {b:List UInt8} {m:Int} {s:df} (hs:s.at_≤b.length) (h:s.e=0) (h2:(d_ b m s).2.e=0):b.drop s.at_=eK (d_ b m s).1++b.drop (d_ b m s).2.at_:=by
 obtain⟨u1,u2,u3,u4⟩:=m_ (m:=m) hs;unfold d_ at*
 by_cases hc:(bM b m s).2.e≠0
 ·rw[if_pos hc] at h2;exact absurd h2 hc
 rw[if_neg hc] at*;have hu:=zA h (by simpa using hc)
 by_cases hl:((b.length:Int)-(bM b m s).2.at_)<(bM b m s).1
 ·rw[if_pos hl] at h2;simp at h2
 rw[if_neg hl] at*;rw[hu] at hl u1 u2 hc⊢;have hb:=jx h (by simpa using hc);rw[hb]
 obtain⟨k,hk⟩:∃k:Nat,(bc b s).1=(k:Nat):=⟨(bc b s).1.toNat,by omega⟩
 rw[hk] at hl⊢;simp only[Int.toNat_natCast];unfold eK;have hlen:((b.drop (bc b s).2.at_).take k).length=k:=by rw[List.length_take,List.length_drop];omega
 rw[hlen,List.append_assoc]
 congr 1
 rw[←List.drop_drop,List.take_append_drop]
theorem Co {b:List UInt8} {s:df}:∀n m,n≤m→(gp b m s).e=0→(gp b n s).e=0
 |n,0,h,h2=>by
  have:n=0:=by omega
  subst this;exact h2
 |n,m+1,h,h2=>by
  by_cases hn:n=m+1
  ·subst hn;exact h2
  ·refine Co n m (by omega) ?_
   rcases Classical.em ((gp b m s).e=0) with h3|h3
   ·exact h3
   ·simp only[gp] at h2;rw[sD h3] at h2;exact absurd h2 h3
def jS (f:j4) (n:Nat):List UInt8:=((List.range n).map fun i=>aQ (ei (f i)+1)).flatten
theorem ow (f:j4) (n:Nat):jS f (n+1)=jS f n++aQ (ei (f n)+1):=by
 unfold jS;rw[List.range_succ,List.map_append,List.flatten_append];simp
theorem uT {b:List UInt8} {s:df} (hs:s.at_≤b.length):∀n,(gp b n s).e=0→b.drop s.at_=jS (lG b s) n++b.drop (gp b n s).at_
 |0,h=>rfl
 |n+1,h=>by
  have h1:=Co n (n+1) (by omega) h;have ih:=uT hs n h1;obtain⟨_,_,o3,o4,_⟩:=dB (b:=b) (kG hs n);rw[ow,List.append_assoc,ih]
  congr 1
  have h2:=jx h1 (show(bc b (gp b n s)).2.e=0 from h);rw[h2]
  congr 2
  unfold ei lG;omega
theorem DU {b:List UInt8} {m:Int} {s:df} (h:s.e≠0):bS b m s=(0,s):=by
 unfold bS;rw[tO h,if_neg (fun h'=>h h'.1)]
theorem xY {b:List UInt8} {m:Int} {s:df} (h:s.e=0) (h2:(bS b m s).2.e=0):bS b m s=bc b s:=by
 unfold bS at*
 by_cases hc:(bM b m s).2.e=0∧(bM b m s).1>(b.length:Int)-(bM b m s).2.at_
 ·rw[if_pos hc] at h2;simp at h2
 ·rw[if_neg hc] at*;exact zA h h2
theorem sM {α:Type} {one:df→α×df}:∀n (s:df),(bj one n s).2.e=0→s.e=0
 |0,s,h=>h
 |n+1,s,h=>by
  rcases Classical.em (s.e=0) with h1|h1
  ·exact h1
  ·rw[eA _ h1] at h;exact h
theorem pr {α:Type} {b:List UInt8} {one:df→α×df} {enc:α→List UInt8} (ba:∀s:df,s.at_≤b.length→(one s).2.at_≤b.length) (hb:∀s:df,s.at_≤b.length→s.e=0→(one s).2.e=0→b.drop s.at_=enc (one s).1++b.drop (one s).2.at_):
  ∀n (s:df),s.at_≤b.length→(bj one n s).2.e=0→(bj one n s).1.length=n∧b.drop s.at_=((bj one n s).1.map enc).flatten++b.drop (bj one n s).2.at_
 |0,s,_,h=>⟨rfl,rfl⟩
 |n+1,s,hs,h=>by
  have h1:=sM (n+1) s h;unfold bj at*;rw[if_neg (by simpa using h1)] at*;simp only at h⊢;have h2:=sM n _ h;obtain⟨g1,g2⟩:=pr ba hb n (one s).2 (ba s hs) h;refine⟨by rw[List.length_cons,g1],?_⟩;rw[hb s hs h1 h2,List.map_cons,List.flatten_cons,List.append_assoc,g2]
theorem Ky {b:List UInt8} {s:df} (hs:s.at_≤b.length) (h:s.e=0) (h2:(eT b s).2.e=0):b.drop s.at_=iX (eT b s).1++b.drop (eT b s).2.at_:=by
 have h1:(bc b s).2.e=0:=Co 0 10 (by omega) h2;have hb:=jx h h1;have hc:=uT (dB (b:=b) hs).1 10 h2;rw[hb,hc,←List.append_assoc];rfl
theorem Kw {b:List UInt8} {s:df} (hs:s.at_≤b.length) (h:s.e=0) (h2:(lA b s).2.e=0):b.drop s.at_=(aQ ((lA b s).1.length:Nat)++((lA b s).1.map iX).flatten)++b.drop (lA b s).2.at_:=by
 obtain⟨i1,i2,i3,i4⟩:=fS (m:=400) hs;have h1:(bS b 400 s).2.e=0:=sM _ _ h2;have hi:=xY h h1;obtain⟨g1,g2⟩:=pr (one:=eT b) (enc:=iX) (fun _ h=>vX h) (fun _ h=>Ky h) _ _ i1 h2;rw[jx h (by rw[←hi];exact h1),←hi,g2,List.append_assoc];show _++(_++_)=aQ (((bj (eT b) (bS b 400 s).1.toNat (bS b 400 s).2).1.length:Nat):Int)++_;rw[g1,Int.toNat_of_nonneg i2];rfl
theorem Jj {b:List UInt8} {s:df} (hs:s.at_≤b.length) (h:s.e=0) (h2:(dc b s).2.e=0):b.drop s.at_=eX (dc b s).1++b.drop (dc b s).2.at_:=by
 have JD:(gp b 10 (dq b s).2).e=0:=by
  rcases Classical.em ((gp b 10 (dq b s).2).e=0) with h1|h1
  ·exact h1
  ·exfalso
   have:(lA b (gp b 10 (dq b s).2)).2.e=0:=h2;unfold lA at this;rw[DU h1,eA _ h1] at this;exact h1 this
 have TQ:=Co 0 10 (by omega) JD;have ho:=pz (b:=b) hs;have hb1:=JL b s hs h TQ;have hb2:=uT ho 10 JD;have B6:=Kw (kG ho 10) JD h2;rw[hb1,hb2,B6];show _=eX ⟨(dq b s).1,lG b (dq b s).2,_,(lA b (gp b 10 (dq b s).2)).1⟩++b.drop (lA b (gp b 10 (dq b s).2)).2.at_;unfold eX;simp only[List.append_assoc];rfl
theorem FZ {b:List UInt8} {s:df} (hs:s.at_≤b.length) (h:s.e=0) (h2:(dD b s).2.e=0):b.drop s.at_=mM (dD b s).1++b.drop (dD b s).2.at_:=by
 obtain⟨i1,i2,i3,i4⟩:=fS (m:=8) hs;have h1:(bS b 8 s).2.e=0:=sM _ _ h2;have hi:=xY h h1;obtain⟨g1,g2⟩:=pr (one:=dc b) (enc:=eX) (fun _ h=>pg h) (fun _ h=>Jj h) _ _ i1 h2;rw[jx h (by rw[←hi];exact h1),←hi,g2];show _=(aQ (((bj (dc b) (bS b 8 s).1.toNat (bS b 8 s).2).1.length:Nat):Int)++_)++_;rw[g1,Int.toNat_of_nonneg i2,List.append_assoc];rfl
theorem IX {b:List UInt8} {s:df} (hs:s.at_≤b.length) (h:s.e=0) (h2:(cB b s).2.e=0):b.drop s.at_=kV (cB b s).1.1 (cB b s).1.2.1 (cB b s).1.2.2++b.drop (cB b s).2.at_:=by
 have h3:(bc b (d_ b 3 s).2).2.e=0:=by
  rcases Classical.em ((bc b (d_ b 3 s).2).2.e=0) with h1|h1
  ·exact h1
  ·exfalso
   have:(dD b (bc b (d_ b 3 s).2).2).2.e=0:=h2;unfold dD at this;rw[DU h1,eA _ h1] at this;exact h1 this
 have h4:(d_ b 3 s).2.e=0:=by
  rcases Classical.em ((d_ b 3 s).2.e=0) with h1|h1
  ·exact h1
  ·rw[sD h1] at h3;exact absurd h3 h1
 have o1:=(lR (m:=3) hs).1;have hb1:=IJ (m:=3) hs h h4;have hb2:=jx h4 h3;have B6:=FZ (dB (b:=b) o1).1 h3 h2;rw[hb1,hb2,B6];unfold kV;simp only[List.append_assoc];rfl
theorem Nh {p:Pg} {b:List UInt8} (h:(jn p b).1=0):l9 p (jn p b).2.1 (jn p b).2.2.1 (jn p b).2.2.2=b:=by
 have o1:=(dB (b:=b) (s:=⟨0,0⟩) (Nat.zero_le _)).1;unfold jn at*
 by_cases h1:(bc b ⟨0,0⟩).2.e≠0
 ·rw[if_pos h1] at h;exact absurd h h1
 rw[if_neg h1] at*
 by_cases h2:(bc b ⟨0,0⟩).1≠cx p
 ·rw[if_pos h2] at h;simp at h
 rw[if_neg h2] at*
 by_cases h3:(l8 b (cB b (bc b ⟨0,0⟩).2).2).e≠0
 ·rw[if_pos h3] at h;exact absurd h h3
 rw[if_neg h3] at*;have h1:(bc b ⟨0,0⟩).2.e=0:=by simpa using h1
 have h2:(bc b ⟨0,0⟩).1=cx p:=by simpa using h2
 have h3:(l8 b (cB b (bc b ⟨0,0⟩).2).2).e=0:=by simpa using h3
 have h5:=GF h3
 have h4:(cB b (bc b ⟨0,0⟩).2).2.at_=b.length:=by
  have ho:=wW o1;unfold l8 at h3
  split at h3
  ·simp at h3
  ·rename_i hn;have:¬(cB b (bc b ⟨0,0⟩).2).2.at_<b.length:=fun h=>hn ⟨h5,h⟩;omega
 split at h
 ·rename_i hW;rw[if_pos hW];have hb:=IX o1 h1 h5;have ha:=jx (s:=⟨0,0⟩) rfl h1;rw[h4,List.drop_length,List.append_nil] at hb;rw[h2,hb] at ha;exact ha.symm
 ·simp at h
end Go.Proofs.YtecjacicdpejaaaGreat
