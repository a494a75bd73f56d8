/-
 What is written is read: a scan's bytes, decoded.
-/
import Derived.Test.YtecjacicdpejaaaGreatVOh
set_option maxRecDepth 100000
set_option maxHeartbeats 4000000
set_option linter.unusedSimpArgs false
set_option linter.unusedVariables false
open List renaming length_append→γ,append_assoc→δ,map_cons→ε,flatten_cons→ζ,getElem?_of_mem→η,mem_of_getElem?→θ,map_map→ι,length→μ,cons→ν
namespace Go.Proofs.YtecjacicdpejaaaGreat
open Go.V Go
variable{t t':GT}
theorem S_ (h:t'.pc=t.pc) (hc:∀i,i<10→t'.c i=t.c i):dA t'=dA t:=by
 unfold dA;rw[h,hc 0 (by decide),hc 1 (by decide),hc 2 (by decide),hc 3 (by decide),hc 4 (by decide),hc 5 (by decide),hc 6 (by decide),hc 7 (by decide),hc 8 (by decide),hc 9 (by decide)]
variable{dn:Bool}{f:j4}{d:D}
theorem O3 {g:j4} (hc:∀i,i<10→g i=f i):aX dn g d=aX dn f d:=by
 unfold aX;rw[hc 0 (by decide),hc 1 (by decide),hc 2 (by decide),hc 3 (by decide),hc 4 (by decide),hc 5 (by decide),hc 6 (by decide),hc 7 (by decide),hc 8 (by decide),hc 9 (by decide)]
theorem MX (h:dA t'=dA t):t'.pc=t.pc∧∀i,i<10→t'.c i=t.c i:=by
 unfold dA at h;simp only[ν.injEq,D.int.injEq,true_and,and_true] at h;obtain⟨h,h0,h1,h2,h3,h4,h5,h6,h7,h8,h9⟩:=h;refine⟨h,fun i hi=>?_⟩
 match i,hi with
 |0,_=>exact h0
 |1,_=>exact h1
 |2,_=>exact h2
 |3,_=>exact h3
 |4,_=>exact h4
 |5,_=>exact h5
 |6,_=>exact h6
 |7,_=>exact h7
 |8,_=>exact h8
 |9,_=>exact h9
theorem O2 {dn':Bool} {f':j4} {d':D} (h:aX dn' f' d'=aX dn f d):dn'=dn∧(∀i,i<10→f' i=f i)∧d'=d:=by
 unfold aX at h;simp only[ν.injEq,D.int.injEq,D.bool.injEq,true_and,and_true] at h;obtain⟨h,h0,h1,h2,h3,h4,h5,h6,h7,h8,h9,hd⟩:=h;refine⟨h,fun i hi=>?_,hd⟩
 match i,hi with
 |0,_=>exact h0
 |1,_=>exact h1
 |2,_=>exact h2
 |3,_=>exact h3
 |4,_=>exact h4
 |5,_=>exact h5
 |6,_=>exact h6
 |7,_=>exact h7
 |8,_=>exact h8
 |9,_=>exact h9
def j4.DW (f:j4):Prop:=∀i,i<10→-1≤f i∧f i≤9223372036854775806
def GT.DW (t:GT):Prop:=(0≤t.pc∧t.pc<9223372036854775808)∧t.c.DW
def GV.DW (l:GV):Prop:=l.bf.DW∧(∀t∈l.bn,t.DW)∧l.bn.length≤400∧l.td=qI l.bn
variable{b post:List UInt8}{s:df}
theorem IH (h:s.e=0) (ht:t.DW) (hd:b.drop s.at_=iX t++post):∃t',eT b s=(t',⟨s.at_+(iX t).length,0⟩)∧dA t'=dA t:=by
 unfold iX at hd;rw[δ] at hd;have hn:=gi h ht.1 hd;have hd2:=gB hd;obtain⟨h1,h2⟩:=yN (b:=b) (s:=⟨s.at_+(aQ t.pc).length,0⟩) (f:=t.c) rfl ht.2 hd2;refine⟨⟨t.pc,lG b ⟨s.at_+(aQ t.pc).length,0⟩⟩,?_,S_ rfl h2⟩;unfold eT;rw[hn];simp only;rw[h1];unfold iX;rw[γ,yO];simp only
 congr 2;omega
theorem n_ {α κ:Type} {b:List UInt8} {one:df→α×df} {enc:α→List UInt8} {key:α→κ} {ok:α→Prop} (ho:∀(s:df) (a:α) (post:List UInt8),s.e=0→ok a→b.drop s.at_=enc a++post→∃a',one s=(a',⟨s.at_+(enc a).length,0⟩)∧key a'=key a):
  ∀(l:List α) (s:df) (post:List UInt8),s.e=0→(∀a∈l,ok a)→b.drop s.at_=(l.map enc).flatten++post→∃l',bj one l.length s=(l',⟨s.at_+(l.map enc).flatten.length,0⟩)∧l'.map key=l.map key
 |[],s,post,h,_,_=>⟨[],by obtain⟨a,e⟩:=s;simp only at h;subst h;rfl,rfl⟩
 |a::l,s,post,h,hk,hd=>by
  rw[ε,ζ,δ] at hd;obtain⟨a',e1,k1⟩:=ho s a _ h (hk a (List.mem_cons_self ..)) hd;obtain⟨l',e2,k2⟩:=n_ ho l ⟨s.at_+(enc a).length,0⟩ post rfl (fun x hx=>hk x (List.mem_cons_of_mem _ hx)) (gB hd);refine⟨a'::l',?_,by rw[ε,ε,k1,k2]⟩;show bj one (l.length+1) s=_;unfold bj;rw[if_neg (by simpa using h),e1];simp only;rw[e2,ε,ζ,γ];simp only
  congr 2;omega
theorem vu {m:Int} (h:s.e=0) {n:Nat} (hn:(n:Int)≤m) (hm:m<1000000) (hp:n≤post.length) (hd:b.drop s.at_=aQ (n:Nat)++post):bS b m s=(((n:Nat):Int),⟨s.at_+(aQ (n:Nat)).length,0⟩):=by
 have hq:=gi h (n:=(n:Nat)) (by omega) hd
 have hu:bM b m s=((((n:Nat):Int),⟨s.at_+(aQ (n:Nat)).length,0⟩):Int×df):=by
  unfold bM;rw[hq,if_neg (by simp;omega)]
 have h3:=congrArg μ hd;rw[List.length_drop,γ] at h3;have h4:=o_ (n:Nat);unfold bS;rw[hu,if_neg (by simp;omega)]
theorem M5 {α:Type} {f:α→List UInt8} (h:∀a,1≤(f a).length):∀l:List α,l.length≤(l.map f).flatten.length
 |[]=>Nat.le_refl _
 |a::l=>by
  have:=h a;have:=M5 h l;rw[ε,ζ,γ,List.length_cons];omega
theorem HD (n:Int):1≤(aQ n).length:=by rw[o_];omega
variable{l:List GT}
theorem IG (h:s.e=0) (hl:l.length≤400) (hi:∀t∈l,t.DW) (hd:b.drop s.at_=(aQ (l.length:Nat)++(l.map iX).flatten)++post):∃l',lA b s=(l',⟨s.at_+(aQ (l.length:Nat)++(l.map iX).flatten).length,0⟩)∧l'.map dA=l.map dA:=by
 rw[δ] at hd;have hg:=M5 (f:=iX) (fun a=>by unfold iX;rw[γ];have:=HD a.pc;omega) l;have hq:=vu (m:=400) h (by omega) (by omega) (by rw[γ];omega) hd;obtain⟨l',e,k⟩:=n_ (b:=b) (one:=eT b) (enc:=iX) (key:=dA) (ok:=GT.DW) (fun _ _ _ h ht hd=>IH h ht hd) l ⟨s.at_+(aQ (l.length:Nat)).length,0⟩ post rfl hi (gB hd);refine⟨l',?_,k⟩;unfold lA;rw[hq];simp only[Int.toNat_natCast];rw[e,γ];simp only
 congr 2;omega
theorem F1 {l:GV} (h:s.e=0) (hl:l.DW) (hd:b.drop s.at_=eX l++post):∃l',dc b s=(l',⟨s.at_+(eX l).length,0⟩)∧eo l'=eo l:=by
 obtain⟨i1,i2,i3,i4⟩:=hl;have hd0:=hd;unfold eX at hd;simp only[δ] at hd;have h1:=Gy b s l.dn _ h trivial hd;have hd2:=gB hd;obtain⟨h2,h3⟩:=yN (b:=b) (s:=⟨s.at_+(iw l.dn).length,0⟩) (f:=l.bf) rfl i1 hd2;have Ob:=gB (i:=s.at_+(iw l.dn).length) hd2;rw[←δ] at Ob;rw[←yO] at Ob;obtain⟨l',e,k⟩:=IG (b:=b) (s:=⟨s.at_+(iw l.dn).length+(jS l.bf 10).length,0⟩) rfl i3 i2 Ob;refine⟨⟨l.dn,lG b ⟨s.at_+(iw l.dn).length,0⟩,qI l',l'⟩,?_,?_⟩
 ·unfold dc;rw[h1];simp only;rw[h2,e];simp only
  congr 2
  unfold eX;rw[yO];simp only[γ];omega
 ·show aX l.dn (lG b ⟨s.at_+(iw l.dn).length,0⟩) (qI l')=aX l.dn l.bf l.td;rw[O3 h3,i4];unfold qI;rw[k]
variable{L:List GV}
theorem DO (h:s.e=0) (hl:L.length≤8) (hi:∀l∈L,l.DW) (hd:b.drop s.at_=mM L++post):∃L',dD b s=(L',⟨s.at_+(mM L).length,0⟩)∧L'.map eo=L.map eo:=by
 unfold mM at hd;rw[δ] at hd;have hg:=M5 (f:=eX) (fun a=>by unfold eX iw;rw[γ];have:=HD (if a.dn then 1 else 0);omega) L;have hq:=vu (m:=8) h (by omega) (by omega) (by rw[γ];omega) hd;obtain⟨l',e,k⟩:=n_ (b:=b) (one:=dc b) (enc:=eX) (key:=eo) (ok:=GV.DW) (fun _ _ _ h ht hd=>F1 h ht hd) L ⟨s.at_+(aQ (L.length:Nat)).length,0⟩ post rfl hi (gB hd);refine⟨l',?_,k⟩;unfold dD;rw[hq];simp only[Int.toNat_natCast];rw[e];unfold mM;rw[γ];simp only
 congr 2;omega
variable{h0:List UInt8}{pl:Int}
theorem Ft (h:s.e=0) (h3:h0.length≤3) (hp:0≤pl∧pl<9223372036854775808) (hl:L.length≤8) (hi:∀l∈L,l.DW) (hd:b.drop s.at_=kV h0 pl L++post):∃L',cB b s=((h0,pl,L'),⟨s.at_+(kV h0 pl L).length,0⟩)∧L'.map eo=L.map eo:=by
 unfold kV at hd;simp only[δ] at hd;have h1:=Ff (m:=3) h (by omega) (by omega) hd;have hd2:=gB hd;have h2:=gi (b:=b) (s:=⟨s.at_+(eK h0).length,0⟩) rfl hp hd2;have Ob:=gB (i:=s.at_+(eK h0).length) hd2;obtain⟨L',e,k⟩:=DO (b:=b) (s:=⟨s.at_+(eK h0).length+(aQ pl).length,0⟩) rfl hl hi Ob;refine⟨L',?_,k⟩;unfold cB;rw[h1];simp only;rw[h2];simp only;rw[e];unfold kV;simp only[γ]
 congr 2;omega
theorem FT {α κ:Type} {f:α→κ} {l l':List α} (h:l'.map f=l.map f) {i:Nat} {a':α} (ha:l'[i]?=some a'):∃a,l[i]?=some a∧f a'=f a:=by
 have:=congrArg (·[i]?) h;simp only[List.getElem?_map,ha,Option.map_some] at this
 cases hl:l[i]? with
 |none=>rw[hl] at this;cases this
 |some a=>rw[hl] at this;exact⟨a,rfl,Option.some.inj this⟩
theorem HK {α κ:Type} {f:α→κ} {l l':List α} (h:l'.map f=l.map f):l'.length=l.length:=by
 have:=congrArg μ h
 simpa using this
variable{l':List GT}
theorem S9 (h:qI l'=qI l):l'.map dA=l.map dA:=by
 have e:∀k:List GT,((k.map dA).map (ml 11)).map (fun d=>match d with| .agg e=>e|_=>[])=k.map dA:=fun k=>by
  rw[ι,ι];rfl
 have:=congrArg (List.map fun d=>match d with| .agg e=>e|_=>[]) (D.sl.inj h)
 rwa [e,e] at this
variable{m:Nat}{p:Pg}
theorem Gx {s:Int} {n:Int} (h:l'.map dA=l.map dA) (hf:oE p s l m n):oE p s l' m n:=
 ⟨hf.1,fun j t hj ht=>by
  obtain⟨a,ha,he⟩:=FT h ht
  rw[(MX he).1];exact hf.2 j a hj ha⟩
theorem Fb {s:Int} (h:l'.map dA=l.map dA) (hw:lP p s l pl m):lP p s l' pl m:=by
 intro j t hj ht;obtain⟨a,ha,he⟩:=FT h ht;obtain⟨h1,h2⟩:=hw j a hj ha;obtain⟨e1,e2⟩:=MX he;rw[e1];exact⟨Gx h h1,fun i hi=>by rw[e2 i hi];exact h2 i hi⟩
theorem IB {L':List GV} (h:L'.map eo=L.map eo) (ht:∀l∈L,l.td=qI l.bn) (Jp:∀l∈L',l.td=qI l.bn) (hW:dr p pl L):dr p pl L':=by
 have hl:=HK h;refine⟨hW.right,hW.ge,hW.le,by rw[hl];exact hW.len,fun r l s hr hg hs=>?_⟩;obtain⟨a,ha,he⟩:=FT h hg;obtain⟨h1,h2,h3⟩:=hW.each r a s (by omega) ha hs;obtain⟨e1,e2,e3⟩:=O2 (show aX l.dn l.bf l.td=aX a.dn a.bf a.td from he);rw[Jp l (θ hg),ht a (θ ha)] at e3;have e4:=S9 e3;have e5:=HK e4;refine⟨?_,fun i hi=>by rw[e2 i hi];exact h2 i hi,by rw[e5];exact Fb e4 h3⟩
 rcases h1 with h1|h1
 ·exact .inl (by rw[e1];exact h1)
 ·exact .inr fun i hi=>by rw[e2 i hi];exact h1 i hi
theorem Kl (hW:dr p pl L) (hg:Kh L):∀l∈L,l.DW:=by
 intro l hl;have zn:=hW.le;have hcl:=hW.right.cl;obtain⟨r,hr⟩:=η hl;have hlen:=hW.len;have sQ:=bp hr
 obtain⟨s,hs⟩:∃s,p.ak[r]?=some s:=⟨p.ak[r]'(by omega),List.getElem?_eq_getElem _⟩
 obtain⟨_,h2,h3⟩:=hW.each r l s sQ hr hs;have DW:∀f:j4,cz f pl→f.DW:=fun f hf i hi=>by have:=hf i hi;omega
 refine⟨DW _ h2,fun t ht=>?_,(hg.t l hl).2,(hg.t l hl).1⟩;obtain⟨j,hj⟩:=η ht;have h4:=hW.J9 hl ht;exact⟨by omega,DW _ (h3 j t (bp hj) hj).2⟩
theorem JT (hW:dr p pl L) (hg:Kh L) (h3:h0.length≤3) (hb:bO h0=true∨h0=[]):∃L',jn p (l9 p h0 pl L)=(0,h0,pl,L')∧L'.map eo=L.map eo∧Kh L'∧dr p pl L':=by
 obtain⟨b,tK⟩:∃b,l9 p h0 pl L=b:=⟨_,rfl⟩
 have hh:=s8 (k_ 0#32 (gy p.code p.ak)) (k_ 1#32 (gy p.code p.ak));have hd:b.drop 0=aQ (cx p)++kV h0 pl L:=by rw[List.drop_zero,←tK];rfl
 have hn:=gi (b:=b) (s:=⟨0,0⟩) rfl (n:=cx p) (by unfold cx;omega) hd;have hd2:=gB hd;have zn:=hW.le;have acU:=hW.ge;obtain⟨L',e,k⟩:=Ft (b:=b) (s:=⟨0+(aQ (cx p)).length,0⟩) (post:=[]) (h0:=h0) (pl:=pl) (L:=L) rfl h3 (by omega) hg.n (Kl hW hg) (by rw[List.append_nil];exact hd2)
 have U':=tW (b:=b) (s:=⟨0+(aQ (cx p)).length,0⟩) (by
  show 0+(aQ (cx p)).length≤b.length
  rw[←tK];unfold l9;rw[γ];omega)
 rw[e] at U';have YL:Kh L':=U'.g;have H7:=IB k (fun l hl=>(hg.t l hl).1) (fun l hl=>(YL.t l hl).1) hW;refine⟨L',?_,k,YL,H7⟩;rw[tK];unfold jn;rw[hn];simp only;rw[if_neg (by simp),if_neg (by simp),e];simp only;have hlen:0+(aQ (cx p)).length+(kV h0 pl L).length=b.length:=by rw[←tK];unfold l9;rw[γ];omega
 have he:l8 b ⟨0+(aQ (cx p)).length+(kV h0 pl L).length,0⟩=⟨0+(aQ (cx p)).length+(kV h0 pl L).length,0⟩:=by
  unfold l8;rw[if_neg];rintro⟨_,h⟩;simp only at h;omega
 rw[he,if_neg (by simp),if_pos];exact b_ ⟨H7,hb⟩
end Go.Proofs.YtecjacicdpejaaaGreat
