/-
 The document's reader: places, threads, lists.
-/
import Derived.Test.YtecjacicdpejaaaGreatWGHr
import Derived.Test.YtecjacicdpejaaaGreatWGOa
import Derived.Test.YtecjacicdpejaaaGreatWGUp
import Derived.Test.YtecjacicdpejaaaGreatWGYd
import Derived.Test.YtecjacicdpejaaaGreatWGJp
set_option maxRecDepth 100000
set_option maxHeartbeats 4000000
set_option linter.unusedSimpArgs false
set_option linter.unusedVariables false
open Nat renaming le_of_ble_eq_true→γ,reduceAdd→η,zero_le→Ω,eq_zero_or_pos→Q5,le_refl→Zt
open List renaming length_map→δ,drop_succ_cons→ε,take_succ_cons→ζ,getElem?_map→θ,drop_zero→ι,take_zero→κ,length_cons→μ,not_mem_nil→ν,getElem?_eq_getElem→ο,mem_cons→π,foldl→ρ,mem_of_getElem?→τ,length_nil→υ,length_append→ψ,mem_cons_self→ω,map_map→Θ,mem_map→Ξ,append_assoc→Wh,map_append→Zn,getElem?_cons_zero→Y',getElem?_of_mem→JS,mem_cons_of_mem→wt,length_reverse→xw,append_nil→VM,length_set→VT,mem_append→GB,map_cons→Bv,map_nil→Cf,length→Cr
open Go.V.D renaming cells→ξ,ref→YQ,bool→IS
open Option renaming map_eq_some_iff→ς,bind_some→ki,map_some→VQ,some→BY
open Go.V.ab renaming av→φ,nil→χ,bQ→Φ,go→Z5,gE→Ut,two→IN
open Go.V renaming Rows→Γ,look→v8
open Go.V.Has renaming jA→Δ
open Go.V.Arg renaming of→Ψ
open Go.V.Fr renaming get→ZD,ev→YH,clean→IT
namespace Go.Proofs.YtecjacicdpejaaaGreat
open Go.V Go
variable{N j:Nat}{S st:St}{H:List bo}{x:D}{ks:Nat→Prop}{vs:List (List D)}
variable{P:Pv}{y:D}{ys Kp:List (List D)}{z:List D}
variable{ops:Array Oper}{rest:List Oper}{fr:Fr}{Q:Fr→St→Prop}{pp:String}{a:Array Edge}{k:Nat}
variable{s:df}{b:List UInt8}{m:Int}
variable{s0:St}
structure Kh (L:List GV):Prop where
 n:L.length≤8
 t:∀g∈L,g.td=qI g.bn∧g.bn.length≤400
variable{L:List GV}
theorem MS (h:∀g∈L,g.td=qI g.bn):∀e∈L.map eo,∀d∈e,dh d=true:=by
 intro e he d hd;obtain⟨q,hq,rfl⟩:=Ξ.1 he;have:=h q hq;simp only[eo,aX,this,qI,π,ν,or_false] at hd
 rcases hd with rfl|rfl|rfl|rfl|rfl|rfl|rfl|rfl|rfl|rfl|rfl|rfl<;>rfl
theorem Kh.Od (h:Kh L):CD (oL L) L:=
 ⟨dg.frozen (MT L) (MS fun g hg=>(h.t g hg).1),by have:=h.n;omega,fun g hg=>⟨by rw[(h.t g hg).1];exact QX _,by have:=(h.t g hg).2;omega⟩⟩
def mh (q:List UInt8×Int×List GV):D:=.agg [bF q.1,.int .i64 q.2.1,oL q.2.2]
variable{p:Pg}
def pQ (code:List aP) (R:List Bool):Prop:=∀(u:Nat) i,R[u]?=some true→code[u]?=some i→∀w∈cH u i,R[w.toNat]?=some true
structure G6 (code:List aP) (R:List Bool) (pl:Int) (w:Wk):Prop where
 b:w.dn=true∨rq w.bf
 p:cz w.bf pl
 r:∀t∈w.rdy,R[t.pc]?=some true∧(∃i,code[t.pc]?=some i∧i.op=1)∧cz t.c pl
variable{code:List aP}{pl:Int}
theorem G6.seen {R:List Bool} {w:Wk} (h:G6 code R pl w) (s:List Bool):G6 code R pl ⟨s,w.dn,w.bf,w.rdy⟩:=⟨h.b,h.p,h.r⟩
variable{f:j4}
theorem FI {x:Nat} {pl:Nat} (h:cz f (pl:Int)):cz (ze f x (pl:Nat)) (pl:Int):=by
 intro i hi;unfold ze
 split
 ·omega
 ·exact h i hi
theorem o6 (h:0≤pl):cz bK pl:=fun i _=>⟨by show(-1:Int)≤-1;omega,by show(-1:Int)≤pl;omega⟩
variable{y8:Int}
theorem z7 (h:cz f pl) (hp:pl≤y8):cz f y8:=fun i hi=>⟨(h i hi).1,by have:=(h i hi).2;omega⟩
theorem CI {code:List aP} {R:List Bool} (hc:pQ code R) (pl:Nat) (e:Bool):∀(f:Nat) (w:Wk) (t:hU),G6 code R (pl:Int) w→R[t.pc]?=some true→cz t.c (pl:Int)→G6 code R (pl:Int) (er code pl e f w t).1
 |0,w,t,h,_,_=>h
 |f+1,w,t,h,hr,hp=>by
  have ih:=CI hc pl e f;unfold er
  split
  ·exact h
  ·split
   ·exact h
   ·rename_i i hi;have TR:=hc t.pc i hr hi;have hs:=h.seen (w.seen.set t.pc true)
    have hn:¬i.op=2→¬i.op=3→¬i.op=7→R[t.pc+1]?=some true:=fun h1 h2 h3=>by
     have:=TR ((t.pc+1:Nat):Int) (by unfold cH;rw[if_neg h1,if_neg h2,if_neg h3];simp)
     simpa using this
    split
    ·exact⟨.inl rfl,hp,h.r⟩
    ·rename_i h7
     split
     ·rename_i h2;have hx:=TR i.x (by unfold cH;rw[if_pos h2];simp);have hy:=TR i.y (by unfold cH;rw[if_pos h2];simp)
      split
      ·exact ih _ _ hs hx hp
      ·exact ih _ _ (ih _ _ hs hx hp) hy hp
     ·rename_i h2
      split
      ·rename_i h1;refine⟨h.b,h.p,fun t' ht=>?_⟩
       rcases GB.1 ht with ht|ht
       ·exact h.r t' ht
       ·simp only[π,ν,or_false] at ht;subst ht;exact⟨hr,⟨i,hi,h1⟩,hp⟩
      ·split
       ·rename_i h3;exact ih _ _ hs (TR i.x (by unfold cH;rw[if_neg h2,if_pos h3];simp)) hp
       ·rename_i h3;have jX:=hn h2 h3 h7
        split
        ·exact ih _ _ hs jX (FI hp)
        ·split
         ·split
          ·exact ih _ _ hs jX hp
          ·exact hs
         ·split
          ·exact ih _ _ hs jX hp
          ·exact hs
theorem M8 {code:List aP} {R:List Bool} (hc:pQ code R) (pl:Nat) (e:Bool):∀(l:List hU) (w:Wk),G6 code R (pl:Int) w→(∀t∈l,R[t.pc]?=some true∧cz t.c (pl:Int))→G6 code R (pl:Int) (vE code pl e l w)
 |[],w,h,_=>h
 |t::ts,w,h,ht=>by
  have h1:=CI hc pl e (code.length+1) w t h (ht t (ω ..)).1 (ht t (ω ..)).2;unfold vE
  split
  ·exact h1
  ·exact M8 hc pl e ts _ h1 fun t' h'=>ht t' (wt _ h')
structure Ba (p:Pg) (s:Int) (pl:Int) (l:PL):Prop where
 b:l.dn=true∨rq l.bf
 c:cz l.bf pl
 t:∀t∈l.bn,mF p s p.code.length (t.pc:Int)∧cz t.c pl
 d:(l.bn.map hU.pc).Nodup
theorem tm (hR:bm p) {s:Int} (hs:0≤s∧s<(p.code.length:Int)):pQ p.code (bR p.code s):=by
 intro u i hu hi w hw
 rcases(sx hR.closed hs).a u i hu hi w hw with h|h
 ·exact h.2
 ·cases h
theorem Gv (hR:bm p) {s:Int} (hs:0≤s∧s<(p.code.length:Int)) (h:mF p s p.code.length (k:Int)):(bR p.code s)[k]?=some true:=by
 rcases h with rfl|⟨i,q,_,h2,h3,h4,h5⟩
 ·rcases(sx hR.closed hs).d with h|h
  ·simpa using h.2
  ·cases h
 ·have hk:k=i+1:=by omega
  subst hk;have:=tm hR hs i q h3 h4 ((i+1:Nat):Int) (by unfold cH;rw[if_neg (by omega),if_neg (by omega),if_neg (by omega)];simp)
  simpa using this
variable{l:List hU}
theorem A_ {s:Int} {x:hU} (h:∀t∈l,mF p s p.code.length (t.pc:Int)∧cz t.c pl) (hx:mF p s p.code.length (x.pc:Int)∧cz x.c pl):∀t∈uX l x,mF p s p.code.length (t.pc:Int)∧cz t.c pl:=by
 intro t ht
 rcases yY ht with ht|ht
 ·exact h t ht
 ·subst ht;exact hx
theorem yX {x:hU} (h:(l.map hU.pc).Nodup):((uX l x).map hU.pc).Nodup:=by
 unfold uX
 split
 ·exact h
 ·rename_i hn;rw[Zn,List.nodup_append];refine⟨h,by simp,fun a ha b hb=>?_⟩;simp only[Bv,Cf,π,ν,or_false] at hb;subst hb;rintro rfl;obtain⟨y,hy,he⟩:=Ξ.1 ha;exact hn (List.any_eq_true.2 ⟨y,hy,by simpa using he⟩)
theorem rI {p:Pg} {s pl r:Int}:∀(l a:List hU),(∀t∈l,(bR p.code s)[t.pc]?=some true∧(∃i,p.code[t.pc]?=some i∧i.op=1)∧cz t.c pl)→(∀t∈a,mF p s p.code.length (t.pc:Int)∧cz t.c pl)→(a.map hU.pc).Nodup→
  (∀t∈jH p.code r l a,mF p s p.code.length (t.pc:Int)∧cz t.c pl)∧((jH p.code r l a).map hU.pc).Nodup
 |[],a,_,h2,h3=>⟨h2,h3⟩
 |t::ts,a,h1,h2,h3=>by
  unfold jH;obtain⟨g1,⟨i,g2,g3⟩,g4⟩:=h1 t (ω ..);have Yy:=fun t' h'=>h1 t' (wt _ h')
  split
  ·refine rI ts _ Yy (A_ h2 ⟨.inr ⟨t.pc,i,bp g2,rfl,g1,g2,g3⟩,g4⟩) (yX h3)
  ·exact rI ts _ Yy h2 h3
variable{r:Int}
theorem Fk (hR:bm p) {s:Nat} (hs:s<p.code.length) {pl:Nat} {l:PL} (h:Ba p (s:Int) (pl:Int) l):Ba p (s:Int) (pl:Int) (ju p.code pl s r l):=by
 have L6:0≤(s:Int)∧(s:Int)<(p.code.length:Int):=⟨by omega,by omega⟩
 have hw:=M8 (tm hR L6) pl false l.bn (tM p.code.length l.dn l.bf) ⟨h.b,h.c,fun t ht=>by cases ht⟩ fun t ht=>⟨Gv hR L6 (h.t t ht).1,(h.t t ht).2⟩
 obtain⟨n1,n2⟩:=rI (r:=r) (vE p.code pl false l.bn (tM p.code.length l.dn l.bf)).rdy [] hw.r (fun t ht=>by cases ht) (by simp);unfold ju;refine⟨hw.b,hw.p,?_,?_⟩
 ·dsimp only
  split
  ·exact n1
  ·exact A_ n1 ⟨.inl rfl,o6 (by omega)⟩
 ·dsimp only
  split
  ·exact n2
  ·exact yX n2
theorem Ba.up {s:Int} {l:PL} (h:Ba p s pl l) (hp:pl≤y8):Ba p s y8 l:=⟨h.b,z7 h.c hp,fun t ht=>⟨(h.t t ht).1,z7 (h.t t ht).2 hp⟩,h.d⟩
def tC (p:Pg) (pl:Nat) (ls:List PL):Prop:=ls.length=p.ak.length∧∀(i:Nat) l s,ls[i]?=some l→p.ak[i]?=some s→Ba p s (pl:Int) l
theorem wL (hR:bm p) {i:Nat} {s:Int} (h:p.ak[i]?=some s):∃k:Nat,s=(k:Int)∧k<p.code.length∧(aG p)[i]?=some k:=by
 obtain⟨h1,h2⟩:=hR.st s (τ h);obtain⟨k,rfl⟩:=Int.eq_ofNat_of_zero_le h1;exact⟨k,rfl,by omega,by unfold aG;rw[θ,h];rfl⟩
theorem wF (hR:bm p):tC p 0 ((aG p).map jN):=by
 refine⟨by unfold aG;simp,fun i l s hl hs=>?_⟩;obtain⟨k,rfl,hk,ej⟩:=wL hR hs;rw[θ,ej] at hl;cases hl;refine⟨.inr fun i _=>rfl,o6 (by omega),fun t ht=>?_,by simp[jN]⟩;simp only[jN,π,ν,or_false] at ht;subst ht;exact⟨.inl rfl,o6 (by omega)⟩
variable{ls:List PL}
theorem CG (hR:bm p) {pl:Nat} {n:Int} (h:tC p pl ls):tC p (pl+mS n) (jE p.code pl r (aG p) ls):=by
 have hl:(aG p).length=ls.length:=by unfold aG;rw[δ,h.1]
 refine⟨by rw[lS _ _ _ _ _ hl];exact h.1,fun i l s hi hs=>?_⟩;obtain⟨k,rfl,hk,ej⟩:=wL hR hs;have hil:i<ls.length:=by have:=bp hs;have:=h.1;omega
 obtain⟨l0,Fa⟩:∃l,ls[i]?=some l:=⟨ls[i]'hil,ο _⟩
 rw[rC p.code pl r (aG p) ls i k l0 ej Fa] at hi;cases hi;exact(Fk hR hk (h.2 i l0 _ Fa hs)).up (by omega)
def hU.g (t:hU):GT:=⟨(t.pc:Int),t.c⟩
def VL.g (l:VL):GV:=⟨l.dn,l.bf,l.td,l.bn.map hU.g⟩
theorem P0 (l:List hU):(l.map hU.g).map dA=l.map bw:=by rw[Θ];rfl
theorem CF (hR:bm p) {pl:Nat} {V:List VL} (h:tC p pl (V.map VL.pl)) (fT:pl≤1099511627776):dr p (pl:Int) (V.map VL.g):=by
 have hlen:=h.1;rw[δ] at hlen;refine⟨hR,by omega,by omega,by rw[δ,hlen],fun r l s hr hl hs=>?_⟩;rw[θ] at hl;obtain⟨v,hv,rfl⟩:=ς.1 hl;have hw:=h.2 r v.pl s (by rw[θ,hv];rfl) hs;refine⟨hw.b,hw.c,fun j t hj ht=>?_⟩;change(v.bn.map hU.g)[j]?=some t at ht;rw[θ] at ht;obtain⟨u,hu,rfl⟩:=ς.1 ht;have lB:=hw.t u (τ hu);refine⟨⟨lB.1,fun j' t' Gk Jp he=>?_⟩,lB.2⟩;change(v.bn.map hU.g)[j']?=some t' at Jp;rw[θ] at Jp;obtain⟨u',UT,rfl⟩:=ς.1 Jp;have hd:(v.bn.map hU.pc).Nodup:=hw.d;have hpp:=List.pairwise_iff_getElem.1 hd j' j (by rw[δ];exact bp UT) (by rw[δ];exact bp hu) Gk;have e1:(v.bn.map hU.pc)[j']?=some u'.pc:=by rw[θ,UT];rfl
 have e2:(v.bn.map hU.pc)[j]?=some u.pc:=by rw[θ,hu];rfl
 rw[List.getElem?_eq_some_iff] at e1 e2;obtain⟨_,e1⟩:=e1;obtain⟨_,e2⟩:=e2;rw[e1,e2] at hpp;have vO:((u'.pc:Nat):Int)=((u.pc:Nat):Int):=he;exact hpp (by omega)
theorem MH.over {A H2:List bo} {ai:St} {ks kv:Nat} {pl:Nat} {ld:D} {L:List VL} (hM:MH A N S st ks kv p pl ld L H) (h2:Has st.bs.length st ai H2):MH (H2++A) N S ai ks kv p pl ld L H:=by
 obtain⟨pd,qd,P,Q,sn,hH,h3,h4⟩:=vm hM;exact DG (by simpa only[Wh] using Has.over hH h2) h3 h4
def mg (st:St) (es:List (List D)) (L:List GV):Prop:=es.length=L.length∧∀(i:Nat) l,L[i]?=some l→∃d,Γ st 11 d (l.bn.map dA)∧es[i]?=some (aX l.dn l.bf d)
variable{L':List GV}
variable{es:List (List D)}
theorem mg.ex (h:mg s0 es L) (hS:S.bs=s0.bs) (hH:Has s0.bs.length S st H):mg st es L:=⟨h.1,fun i l hl=>by
 obtain⟨d,h1,h2⟩:=h.2 i l hl
 exact⟨d,(Ψ h1 hS).rows hH,h2⟩⟩
variable{fs:List (List D)}
structure Yd (q:List UInt8×Int×List GV):Prop where
 h:q.1.length≤3
 g:Kh q.2.2
def PL.gt (l:PL):GV:=⟨l.dn,l.bf,qI (l.bn.map hU.g),l.bn.map hU.g⟩
theorem MW (ls:List PL):(ls.map PL.gt).map eo=ls.map mX:=by
 rw[Θ];refine List.map_congr_left fun l _=>?_;show aX l.dn l.bf (qI (l.bn.map hU.g))=aX l.dn l.bf (TA l.bn);unfold qI TA;rw[P0]
theorem MV (h:List UInt8) (pl:Nat) (ls:List PL):KQ (bF h) pl ls=mh (h,(pl:Int),ls.map PL.gt):=by
 unfold KQ mh rL oL;rw[MW]
theorem zz {p:Pg} (hR:bm p):∀(gs:List (Nat×Nat)) (pl:Nat) (ls:List PL),tC p pl ls→tC p (iJ p.code (aG p) gs pl ls).1 (iJ p.code (aG p) gs pl ls).2
 |[],_,_,h=>h
 |g::gs,pl,ls,h=>by
  simp only[iJ];exact zz hR gs _ _ (CG hR h)
theorem rB {p:Pg} (hR:bm p):∀(b:List UInt8) (x:List UInt8×Nat×List PL),tC p x.2.1 x.2.2→tC p (dH p.code (aG p) b x).2.1 (dH p.code (aG p) b x).2.2
 |[],x,h=>h
 |c::b,x,h=>rB hR b _ (zz hR _ _ _ h)
theorem GY {ss:List Nat} (b:List UInt8) {x:List UInt8×Nat×List PL} (hx:bO x.1=true∨x.1=[]):bO (dH code ss b x).1=true∨(dH code ss b x).1=[]:=by
 induction b generalizing x with
 |nil=>exact hx
 |cons c b ih=>exact ih (C7 code ss x c)
theorem Of (hR:bm p) {pl:Nat} (h:tC p pl ls) (fT:pl≤1099511627776):dr p (pl:Int) (ls.map PL.gt):=by
 have h1:=CF hR (V:=ls.map fun l=>(⟨l.dn,l.bf,qI (l.bn.map hU.g),l.bn⟩:VL)) (pl:=pl) (by rw[Θ];exact(List.map_id ls).symm▸h) fT;rw[Θ] at h1;exact h1
def rm (p:Pg) (b:List UInt8):List UInt8×Nat×List PL:=dH p.code (aG p) b ([],0,(aG p).map jN)
def rn (p:Pg) (b:List UInt8):List UInt8×Int×List GV:=((rm p b).1,((rm p b).2.1:Nat),(rm p b).2.2.map PL.gt)
theorem pM (hR:bm p) (hb:b.length≤100):(rm p b).1.length≤3∧(rm p b).2.1≤1600∧(rm p b).2.2.length=p.ak.length∧(∀l∈(rm p b).2.2,l.ok p.code.length)∧dr p (rn p b).2.1 (rn p b).2.2∧(bO (rn p b).1=true∨(rn p b).1=[]):=by
 obtain⟨g1,g2,g3,g4⟩:=wV hR b ([],0,(aG p).map jN) (by simp) (by unfold aG;simp) (uf hR);refine⟨g1,by unfold rm;simp only at g2;omega,g3,g4,Of hR (rB hR b ([],0,(aG p).map jN) (wF hR)) (by unfold rm;simp only at g2;omega),GY b (.inr rfl)⟩
theorem xB:∀(n:Nat) (l:List Nat),l.Nodup→(∀x∈l,x<n)→l.length≤n
 |0,l,_,h=>by
  cases l with
  |nil=>simp
  |cons a l=>exact absurd (h a (ω ..)) (by omega)
 |n+1,l,hd,h=>by
  by_cases hm:n∈l
  ·have h1:=xB n (l.erase n) (hd.erase n) fun x hx=>by
    have h2:=(hd.mem_erase_iff).1 hx;have:=h x h2.2;have:=h2.1;omega
   rw[List.length_erase_of_mem hm] at h1;omega
  ·have:=xB n l hd fun x hx=>by
    have:=h x hx;have:x≠n:=fun e=>hm (e▸hx);omega
   omega
theorem qZ (hR:bm p) (hb:b.length≤100):Yd (rn p b):=by
 obtain⟨g1,g2,g3,g4,_,_⟩:=pM hR hb;obtain⟨w1,w2⟩:=rB hR b ([],0,(aG p).map jN) (wF hR);have hcl:=hR.cl;have kX:=hR.sl;refine⟨g1,by show((rm p b).2.2.map PL.gt).length≤8;rw[δ];omega,fun g hg=>?_⟩;obtain⟨l,hl,rfl⟩:=Ξ.1 hg;refine⟨rfl,?_⟩;show(l.bn.map hU.g).length≤400;rw[δ];obtain⟨i,hi⟩:=JS hl;have hil:=bp hi
 obtain⟨s,hs⟩:∃s,p.ak[i]?=some s:=⟨p.ak[i]'(by omega),ο _⟩
 have hd:=(w2 i l s hi hs).d
 have h1:=xB p.code.length (l.bn.map hU.pc) hd fun x hx=>by
  obtain⟨t,ht,rfl⟩:=Ξ.1 hx;exact(g4 l hl).1 t ht
 rw[δ] at h1;omega
theorem nJ (jX:∀st,Ev pv 149 [] st (.agg (aA bK)) st) (hp:p.ok) (hR:bm p) (hx:dg x 1 (byteCells b)) (hbl:b.length≤100):
  Ev pv 15 [p.d,x] s0 (.tup [mh (rn p b),.bool true]) s0:=by
 obtain⟨g1,g2,g3,g4,_,_⟩:=pM hR hbl;have JC:=hR.cl;have RY:=hR.sl;have S7:∀l∈(aG p).map jN,l.ok p.code.length:=uf hR;have h0l:((aG p).map jN).length=p.ak.length:=by unfold aG;simp
 have Vt:∀{N S st H},S.flr≤N→Has N S st H→_:=fun{N S st H} hF hH=>Ht (N:=N) (S:=S) (s0:=st) (H:=H) jX hF hp hR hH
 obtain⟨h,pl,ls,hX⟩:∃h pl ls,rm p b=(h,pl,ls):=⟨_,_,_,rfl⟩
 have hQ:mh (rn p b)=KQ (bF h) pl ls:=by
  unfold rn;rw[hX];exact(MV h pl ls).symm
 rw[hX] at g1 g2 g3 g4;unfold rm at hX;dsimp only at g1 g2 g3 g4;rw[hQ];have nM:=hp.c;have hsd:=hp.s;unfold Pg.d at*;refine Ev.gP rfl ab9 rfl rfl rfl ?_;refine zE ?_;obtain⟨aN,hF,hH⟩:=ri s0;generalize ae .ro s0=S at*;have UM:=hx.arg s0.bs.length S;refine zQ 2 ?_;refine qb hH fun k2 st hk2 hH=>?_;dsimp only[u2,u1,u3,u4,setMany,u5,u6,ξ,η,Pg.cs] at hH;refine qa hH fun k4 st QQ hH=>?_;refine zQ 4 ?_;refine φ (m:=2) hH rfl (ev rfl) (by exact aO) (by dsimp only[ε,ι,ζ,κ,Pg.cs]<;>rfl) rfl rfl (aa rfl _) ?_;obtain⟨_,st,ax,kS,kd,kv,ks,q,ld,L,rfl,hq,hL,hM⟩:=Vt hF hH;refine qv ax ?_;refine zQ 6 ?_;obtain⟨pd,qd,P,Q,sn,js,hH,ba,ej,hl⟩:=SH.pull [_,_] (H:=[]) hM;dsimp only[u3,u4] at hH
 have hM:SH [_,_] s0.bs.length S st kS kd kv ks q 0 ld L [] []:=⟨pd,qd,P,Q,sn,js,hH,ba,ej,hl⟩
 have hM:=SH.push (A:=[_,_]) (H:=[]) hM;refine zQ 2 ?_;refine ag.dM 18 (.bool false) [] ?_ (fun ff tmp dj=>?_)
 ·refine zQ 3 ?_;refine IN 15 rfl (fun br=>?_) (fun br=>?_)
  ·refine zQ 3 ?_;refine χ (aR ?_ ?_)
   ·dsimp only[aK,ρ,nth,u2,u1]
    all_goals(first|rfl|simp)
   ·refine zF ?_
    all_goals(simp[br];done)
  ·refine zQ 3 ?_;refine χ (aR ?_ ?_)
   ·dsimp only[aK,ρ,nth,u2,u1]
    all_goals(first|rfl|simp)
   ·refine zF ?_
    all_goals(rfl)
 dsimp only[aK,ρ,nth,u2,u1];refine zQ 2 ?_;have YD:=hq.right hR;have YN:q.code.length=p.code.length:=by rw[hq.code,δ]
 have TS:L.length=q.ak.length:=by
  have:=congrArg Cr hL;rw[δ,h0l] at this;rw[hq.ak];exact this
 have vQ:∀l∈L,l.pl.ok q.code.length:=by rw[YN];exact ia (by rw[hL];exact S7)
 have RW:∀b x,dH q.code (aG q) b x=dH p.code (aG p) b x:=fun b x=>by rw[hq.code,hq.aG,rF]
 refine zQ 4 ?_;obtain⟨_,st,ax,rfl,ld3,L3,Ek,PU⟩:=wY (b:=b) jX hF hq.ok YD UM (by omega) (by omega) (by simp) TS vQ hM;rw[RW,hL,hX] at Ek PU;have hH:=(SH.pull [_,_] (H:=_) PU).has;refine qv ax ?_;refine zQ 1 ?_;dsimp only at Ek PU;obtain⟨js2,hAS⟩:=PU.as;have Wg:L3.length=p.ak.length:=by rw[←g3,←Ek,δ]
 have AG:∀l∈L3,l.pl.ok p.code.length:=ia (by rw[Ek];exact g4);obtain⟨_,st2,PI,rfl,sO⟩:=wX hq.ok (by omega) (Hz AG) hAS;rw[sO,Ek] at PI;clear sO st2;have kZ:(KQ (bF h) pl ls).cells?=some [bF h,.int .i64 (pl:Nat),rL ls]:=rfl;refine zQ 3 ?_;refine ab.aS rfl rfl PI (aa rfl _) ?_;refine Φ hH rfl (ev rfl) (ev rfl) kZ (by exact rfl) aB (by exact rfl) (.inr rfl) (fun st hH=>?_);dsimp only[u1,u2] at hH;refine zQ 2 ?_;refine ag.ret ⟨rx,_,hH.fm rfl aB rfl rfl,rl aN hH (show bA st s0.bs.length false 16 (D.tup [KQ (bF h) pl ls,IS true])=some (D.tup [KQ (bF h) pl ls,IS true]) from rfl)⟩
theorem nE (hx:dg x 1 (byteCells b)) (n:Nat):∃d,Ev pv 16 [x,.int .i64 (n:Nat)] s0 d s0∧dg d 1 (byteCells (b.take n)):=by
 have uN:=au b;refine Ev.FP rfl ab8 rfl rfl rfl ?_;refine zE ?_;obtain⟨aN,hF,hH⟩:=ri s0;generalize ae .ro s0=S at*;have UM:=hx.arg s0.bs.length S;refine zQ 8 ?_;refine qn ?_;refine zQ 3 ?_;rw[uN];refine zP (fun h0=>?_) fun h0=>?_
 ·have TM:n≤(byteCells b).length:=by omega
  refine zQ 4 ?_;refine ab.xi rfl (ev rfl) (by assumption) rfl rfl (et (by omega)) (fun _=>(aa rfl _)) (fun y11 ZA=>?_);refine zQ 2 ?_;obtain⟨z,hz1,hz2⟩:=ZA.freeze S s0.bs.length 15;refine ag.ret ⟨rx,_,_,rfl,rl aN hH (hz1),?_⟩;rw[ι] at hz2;unfold byteCells at hz2⊢;rw[List.map_take];exact hz2
 ·refine zQ 6 ?_;obtain⟨z,hz1,hz2⟩:=hx.freeze S s0.bs.length 15;refine ag.ret ⟨rx,_,_,rfl,rl aN hH (hz1),?_⟩;rw[List.take_of_length_le (by omega)];exact hz2
end Go.Proofs.YtecjacicdpejaaaGreat
