/-
 What is written is read, what is read has its bytes; a number within bounds.
-/
import Derived.Test.YtecjacicdpejaaaGreatVGHr
import Derived.Test.YtecjacicdpejaaaGreatVGOe
set_option maxRecDepth 100000
set_option maxHeartbeats 4000000
set_option linter.unusedSimpArgs false
set_option linter.unusedVariables false
open List renaming append_assoc→γ,length_append→δ,length_cons→ε,length_reverse→ζ,range→η,length_map→θ,length_nil→ι,length_set→κ,take_append_drop→ν,flatten_append→ς,cons_append→υ,length_drop→φ,map_append→ψ,drop_drop→Γ,length_take→Zt,take_range→Y',take_left→JS,length→xw
open UInt8 renaming toNat_ofNat'→μ,ofNat→Ψ,ofNat_toNat→Wh,toNat_inj→YQ
open Int renaming toNat_of_nonneg→ξ,toNat_natCast→ρ,lt_tmod_of_pos→Z5,tmod_lt_of_pos→ZD
open Nat renaming zero_add→ο,zero_mul→τ,mod_eq_of_lt→χ,pow_pos→ω,mul_assoc→Δ,add_comm→Θ,mul_comm→Ξ,pow_succ→Φ,lt_of_div_eq_zero→Ω,pow_le_pow_right→Q5,eq_zero_or_pos→Zn,div_eq_of_lt→YH,min_eq_left→wt,le_refl→v8,one_mul→ki
open Classical renaming em→π
namespace Go.Proofs.YtecjacicdpejaaaGreat
open Go.V Go
theorem Rj (a:Int) (n:Nat) (hn:n≤100000000) (st:St):(fw pv .rem 3 (.int .i64 a) (.int .i64 (((n:Nat):Int)+1))).map (fun d=>(d,st))=some (.int .i64 (a.tmod ((n:Nat)+1)),st):=by
 have h1:a.tmod ((n:Nat)+1)<(n:Nat)+1:=ZD a (by omega);have h2:-((n:Nat)+1:Int)<a.tmod ((n:Nat)+1):=Z5 a (by omega);show Option.map _ (if((n:Nat):Int)+1=0 then none else some (D.int .i64 (a.tmod ((n:Nat)+1))))=_;rw[if_neg (by omega)];rfl
theorem oR {s0:St} (a:Int) (n:Nat) (hn:n≤100000000):∃d,Ev pv 33 [.int .i64 a,.int .i64 0,.int .i64 (n:Nat)] s0 d s0∧∃k:Nat,d=.int .i64 (k:Nat)∧k≤n:=by
 have h1:a.tmod ((n:Nat)+1)<(n:Nat)+1:=ZD a (by omega);have h2:-((n:Nat)+1:Int)<a.tmod ((n:Nat)+1):=Z5 a (by omega);refine Ev.FP rfl abV rfl rfl rfl ?_;refine zE ?_;obtain⟨aN,hF,hH⟩:=ri s0;generalize ae .ro s0=S at*;refine zQ 9 ?_;refine ab.gd (z:=((n:Nat):Int)) rfl (ev rfl) (ev rfl) (by(try simp only[ζ,ε,ι,δ,θ,κ]);rw[wrap_i64 (by omega) (by omega)]<;>omega) (aa rfl _) ?_;refine ab.e_ (z:=(((n:Nat):Int)+1)) rfl (ev rfl) (ev rfl) (by(try simp only[ζ,ε,ι,δ,θ,κ]);rw[wrap_i64 (by omega) (by omega)]<;>omega) (aa rfl _) ?_;refine ab.go (d:=.int .i64 (a.tmod ((n:Nat)+1))) (st1:=_) rfl rfl (by exact Rj a n hn _) (aa rfl _) ?_;refine zQ 2 ?_;generalize a.tmod ((n:Nat)+1)=m at*;refine zQ 6 ?_;refine zP (fun hc=>?_) fun hc=>?_
 ·refine zQ 3 ?_;refine ab.e_ (z:=(m+(n:Nat))) rfl (ev rfl) (ev rfl) (by(try simp only[ζ,ε,ι,δ,θ,κ]);rw[wrap_i64 (by omega) (by omega)]<;>omega) (aa rfl _) ?_;refine qm ?_;refine ab.gd (z:=(m+(n:Nat))) rfl (ev rfl) (ev rfl) (by(try simp only[ζ,ε,ι,δ,θ,κ]);rw[wrap_i64 (by omega) (by omega)]<;>omega) (aa rfl _) ?_;refine ab.e_ (z:=(m+(n:Nat)+1)) rfl (ev rfl) (ev rfl) (by(try simp only[ζ,ε,ι,δ,θ,κ]);rw[wrap_i64 (by omega) (by omega)]<;>omega) (aa rfl _) ?_;refine zQ 6 ?_;refine ab.e_ (z:=(m+(n:Nat)+1)) rfl (ev rfl) (ev rfl) (by(try simp only[ζ,ε,ι,δ,θ,κ]);rw[wrap_i64 (by omega) (by omega)]<;>omega) (aa rfl _) ?_;refine zQ 2 ?_;refine ag.ret ⟨rx,_,_,rfl,rl aN hH (rfl),?_⟩;exact⟨(m+(n:Nat)+1).toNat,by rw[ξ (by omega)];rfl,by omega⟩
 ·refine zQ 5 ?_;refine ab.e_ (z:=m) rfl (ev rfl) (ev rfl) (by(try simp only[ζ,ε,ι,δ,θ,κ]);rw[wrap_i64 (by omega) (by omega)]<;>omega) (aa rfl _) ?_;refine zQ 2 ?_;refine ag.ret ⟨rx,_,_,rfl,rl aN hH (rfl),?_⟩;exact⟨m.toNat,by rw[ξ (by omega)];rfl,by omega⟩
theorem lQ:∀(l:List UInt8) (u:Nat),dX u l=u*256^l.length+dX 0 l
 |[],u=>by simp[dX]
 |c::l,u=>by
  simp only[dX,ε];rw[lQ l (u*256+c.toNat),lQ l (0*256+c.toNat),Φ,Nat.add_mul,τ,ο,Δ,Ξ 256];omega
theorem Hd:∀(k m:Nat),dX 0 (tA k m)=m %256^k
 |0,m=>by simp[tA,dX,Nat.mod_one]
 |k+1,m=>by
  simp only[tA]
  have h2:dX 0 (Ψ (m/256^k)::tA k m)=(Ψ (m/256^k)).toNat*256^(tA k m).length+dX 0 (tA k m):=by
   show dX (0*256+_) _=_;rw[τ,ο];exact lQ _ _
  rw[h2,q_,Hd k m,μ];show m/256^k %256*256^k+m %256^k=m %(256^k*256);rw[show m %(256^k*256)=m %256^k+256^k*(m/256^k %256) from Nat.mod_mul,Ξ,Θ]
variable{b:List UInt8}{s:df}
variable{post:List UInt8}
theorem gi (h:s.e=0) {n:Int} (hn:0≤n∧n<9223372036854775808) (hd:b.drop s.at_=aQ n++post):bc b s=(n,⟨s.at_+(aQ n).length,0⟩):=by
 obtain⟨m,rfl⟩:∃m:Nat,n=(m:Nat):=⟨n.toNat,by omega⟩
 have hm:m<9223372036854775808:=by omega
 have kq:=HQ m;obtain⟨k1,k2⟩:=wu (m:=m) (by omega);unfold bc;rw[if_neg (by simpa using h),hd];unfold aQ;rw[ρ,υ];have hk:(Ψ (kB m)).toNat=kB m:=by rw[μ,χ (by omega)]
 simp only[hk];have hbl:=q_ (kB m) m;have aaq:m %256^kB m=m:=χ (Ω (ω (by decide)) k1)
 have LX:(tA (kB m) m++post).take (kB m)=tA (kB m) m:=by
  have:=JS (l₁:=tA (kB m) m) (l₂:=post)
  rwa [hbl] at this
 rw[if_neg (by omega),if_neg (by rw[δ,hbl];omega),LX,Hd,aaq,if_neg]
 ·simp only[ε,hbl]
  congr 2;omega
 ·rintro(⟨h0,h1⟩|h1)
  ·obtain⟨q,hq⟩:∃q,kB m=q+1:=⟨kB m-1,by omega⟩
   rw[hq] at h1;simp only[tA,υ,List.head?_cons,Option.some.injEq] at h1;have h3:=k2 q (by omega)
   have h4:m/256^q<256:=by
    rw[hq,Φ,←Nat.div_div_eq_div_mul] at k1;exact Ω (by decide) k1
   have h5:=congrArg UInt8.toNat h1;rw[μ,χ h4] at h5;have h6:m/256^q=0:=h5;omega
  ·omega
def Yh {α:Type} (b:List UInt8) (one:df→α×df) (enc:α→List UInt8) (ok:α→Prop):Prop:=
 ∀(s:df) (a:α) (post:List UInt8),s.e=0→ok a→b.drop s.at_=enc a++post→one s=(a,⟨s.at_+(enc a).length,0⟩)
theorem gB {p q:List UInt8} {i:Nat} (h:b.drop i=p++q):b.drop (i+p.length)=q:=by
 rw[←Γ,h,List.drop_left]
theorem Gy (b:List UInt8):Yh b (dq b) iw (fun _=>True):=fun s f post h _ hd=>by
 have hn:=gi h (n:=if f then 1 else 0) (by split<;>simp) hd;unfold dq;rw[hn]
 cases f with
 |true=>
  rw[if_neg (by simp)];rfl
 |false=>
  rw[if_neg (by simp)];rfl
variable{m:Int}
theorem Ff (h:s.e=0) {t:List UInt8} (ht:(t.length:Int)≤m) (hm:m<1000000) (hd:b.drop s.at_=eK t++post):d_ b m s=(t,⟨s.at_+(eK t).length,0⟩):=by
 unfold eK at hd;rw[γ] at hd;have hn:=gi h (n:=(t.length:Nat)) (by omega) hd
 have hu:bM b m s=((((t.length:Nat):Int),⟨s.at_+(aQ (t.length:Nat)).length,0⟩):Int×df):=by
  unfold bM;rw[hn,if_neg (by simp;omega)]
 have hd2:=gB hd
 have hle:s.at_+(aQ (t.length:Nat)).length+t.length≤b.length:=by
  have:=congrArg xw hd2;rw[φ,δ] at this;have h3:=congrArg xw hd;rw[φ,δ,δ] at h3;have h4:=o_ (t.length:Nat);omega
 unfold d_;rw[hu,if_neg (by simp),if_neg (by simp;omega)];simp only[ρ];rw[hd2,JS];unfold eK;rw[δ]
 congr 2;omega
def jS (f:j4) (n:Nat):List UInt8:=((η n).map fun i=>aQ (ei (f i)+1)).flatten
theorem ow (f:j4) (n:Nat):jS f (n+1)=jS f n++aQ (ei (f n)+1):=by
 unfold jS;rw[List.range_succ,ψ,ς];simp
theorem yN (h:s.e=0) {f:j4} (hf:∀i,i<10→-1≤f i∧f i≤9223372036854775806) (hd:b.drop s.at_=jS f 10++post):gp b 10 s=⟨s.at_+(jS f 10).length,0⟩∧∀i,i<10→lG b s i=f i:=by
 have key:∀n,n≤10→gp b n s=⟨s.at_+(jS f n).length,0⟩:=by
  intro n
  induction n with
  |zero=>intro _;obtain⟨a,e⟩:=s;simp only at h;subst h;rfl
  |succ n ih=>
   intro hn;have ih:=ih (by omega)
   have hd2:∃xk,b.drop (s.at_+(jS f n).length)=aQ (ei (f n)+1)++xk:=by
    have:∃q,jS f 10=jS f n++(aQ (ei (f n)+1)++q):=by
     refine⟨(((η 10).drop (n+1)).map fun i=>aQ (ei (f i)+1)).flatten,?_⟩
     have e:η 10=η (n+1)++(η 10).drop (n+1):=by
      have:=(ν (n+1) (η 10)).symm
      rwa [Y',wt (by omega)] at this
     rw[←γ,←ow];unfold jS
     conv=>lhs;rw[e]
     rw[ψ,ς]
    obtain⟨q,hq⟩:=this;rw[hq,γ,γ] at hd;exact⟨_,gB hd⟩
   obtain⟨xk,hd2⟩:=hd2;have hfi:=hf n (by omega);have hc:ei (f n)=f n:=by unfold ei;omega
   simp only[gp];rw[ih,gi (b:=b) (s:=⟨s.at_+(jS f n).length,0⟩) rfl (n:=ei (f n)+1) (by omega) hd2,ow,δ];simp only
   congr 1;omega
 refine⟨key 10 (v8 _),fun i hi=>?_⟩;have h1:=key i (by omega);have h2:=key (i+1) (by omega)
 have hd2:∃xk,b.drop (s.at_+(jS f i).length)=aQ (ei (f i)+1)++xk:=by
  refine⟨(((η 10).drop (i+1)).map fun i=>aQ (ei (f i)+1)).flatten++post,?_⟩
  have e:η 10=η (i+1)++(η 10).drop (i+1):=by
   have:=(ν (i+1) (η 10)).symm
   rwa [Y',wt (by omega)] at this
  have hq:jS f 10=jS f i++(aQ (ei (f i)+1)++(((η 10).drop (i+1)).map fun i=>aQ (ei (f i)+1)).flatten):=by
   rw[←γ,←ow];unfold jS
   conv=>lhs;rw[e]
   rw[ψ,ς]
  rw[hq,γ,γ] at hd;exact gB hd
 obtain⟨xk,hd2⟩:=hd2;have hfi:=hf i hi;have hc:ei (f i)=f i:=by unfold ei;omega
 unfold lG;rw[h1,gi (b:=b) (s:=⟨s.at_+(jS f i).length,0⟩) rfl (n:=ei (f i)+1) (by omega) hd2,hc];simp only;omega
theorem yO (f:j4):jS f 10=pK f:=rfl
end Go.Proofs.YtecjacicdpejaaaGreat
