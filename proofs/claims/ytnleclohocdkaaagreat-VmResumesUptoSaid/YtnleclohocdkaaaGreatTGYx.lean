/-
 What a machine has that was begun is Well, behind any runes.
-/
import Derived.Test.YtnleclohocdkaaaGreatTGZc
import Derived.Test.YtnleclohocdkaaaGreatTGYc
import Derived.Test.YtnleclohocdkaaaGreatTGQj
import Derived.Test.YtnleclohocdkaaaGreatTGHr
set_option maxRecDepth 100000
set_option linter.unusedSimpArgs false
set_option linter.unusedVariables false
set_option maxHeartbeats 4000000
namespace Go.Proofs.YtnleclohocdkaaaGreat
open Go.V Go
def jk (code:List az) (R:List Bool):Prop:=∀(u:Nat) i,R[u]?=some true→code[u]?=some i→∀w∈bA u i,R[w.toNat]?=some true
structure xi (code:List az) (R:List Bool) (pl:Int) (w:Wk):Prop where
 b:w.dn=true∨mj w.aJ
 p:bp w.aJ pl
 r:∀t∈w.rdy,R[t.pc]?=some true∧(∃i,code[t.pc]?=some i∧i.op=1)∧bp t.c pl
theorem xi.seen {code:List az} {R:List Bool} {pl:Int} {w:Wk} (h:xi code R pl w) (s:List Bool):xi code R pl ⟨s,w.dn,w.aJ,w.rdy⟩:=⟨h.b,h.p,h.r⟩
theorem vX {f:j6} {x:Nat} {pl:Nat} (h:bp f (pl:Int)):bp (Av f x (pl:Nat)) (pl:Int):=by
 intro i hi;unfold Av
 split
 ·omega
 ·exact h i hi
theorem iR {pl:Int} (h:0≤pl):bp bj pl:=fun i _=>⟨by show(-1:Int)≤-1;omega,by show(-1:Int)≤pl;omega⟩
theorem pP {f:j6} {pl tb:Int} (h:bp f pl) (hp:pl≤tb):bp f tb:=fun i hi=>⟨(h i hi).1,by have:=(h i hi).2;omega⟩
theorem tp {code:List az} {R:List Bool} (hc:jk code R) (pl:Nat) (e:Bool):∀(f:Nat) (w:Wk) (t:dx),xi code R (pl:Int) w→R[t.pc]?=some true→bp t.c (pl:Int)→xi code R (pl:Int) (bN code pl e f w t).1
 |0,w,t,h,_,_=>h
 |f+1,w,t,h,hr,hp=>by
  have ih:=tp hc pl e f;unfold bN
  split
  ·exact h
  ·split
   ·exact h
   ·rename_i i hi;have GJ:=hc t.pc i hr hi;have hs:=h.seen (w.seen.set t.pc true)
    have hn:¬i.op=2→¬i.op=3→¬i.op=7→R[t.pc+1]?=some true:=fun h1 h2 h3=>by
     have:=GJ ((t.pc+1:Nat):Int) (by unfold bA;rw[if_neg h1,if_neg h2,if_neg h3];simp)
     simpa using this
    split
    ·exact⟨.inl rfl,hp,h.r⟩
    ·rename_i h7
     split
     ·rename_i h2;have hx:=GJ i.x (by unfold bA;rw[if_pos h2];simp);have hy:=GJ i.y (by unfold bA;rw[if_pos h2];simp)
      split
      ·exact ih _ _ hs hx hp
      ·exact ih _ _ (ih _ _ hs hx hp) hy hp
     ·rename_i h2
      split
      ·rename_i h1;refine⟨h.b,h.p,fun t' ht=>?_⟩
       rcases List.mem_append.1 ht with ht|ht
       ·exact h.r t' ht
       ·simp only[List.mem_cons,List.not_mem_nil,or_false] at ht;subst ht;exact⟨hr,⟨i,hi,h1⟩,hp⟩
      ·split
       ·rename_i h3;exact ih _ _ hs (GJ i.x (by unfold bA;rw[if_neg h2,if_pos h3];simp)) hp
       ·rename_i h3;have pz:=hn h2 h3 h7
        split
        ·exact ih _ _ hs pz (vX hp)
        ·split
         ·split
          ·exact ih _ _ hs pz hp
          ·exact hs
         ·split
          ·exact ih _ _ hs pz hp
          ·exact hs
theorem B1 {code:List az} {R:List Bool} (hc:jk code R) (pl:Nat) (e:Bool):∀(l:List dx) (w:Wk),xi code R (pl:Int) w→(∀t∈l,R[t.pc]?=some true∧bp t.c (pl:Int))→xi code R (pl:Int) (mF code pl e l w)
 |[],w,h,_=>h
 |t::ts,w,h,ht=>by
  have h1:=tp hc pl e (code.length+1) w t h (ht t (List.mem_cons_self ..)).1 (ht t (List.mem_cons_self ..)).2;unfold mF
  split
  ·exact h1
  ·exact B1 hc pl e ts _ h1 fun t' h'=>ht t' (List.mem_cons_of_mem _ h')
structure rF (p:Pg) (s:Int) (pl:Int) (l:PL):Prop where
 b:l.dn=true∨mj l.aJ
 c:bp l.aJ pl
 t:∀t∈l.aV,gj p s p.code.length (t.pc:Int)∧bp t.c pl
 d:(l.aV.map dx.pc).Nodup
theorem kJ {p:Pg} (hR:aR p) {s:Int} (hs:0≤s∧s<(p.code.length:Int)):jk p.code (a8 p.code s):=by
 intro u i hu hi w hw
 rcases(kg hR.closed hs).a u i hu hi w hw with h|h
 ·exact h.2
 ·cases h
theorem wO {p:Pg} (hR:aR p) {s:Int} (hs:0≤s∧s<(p.code.length:Int)) {k:Nat} (h:gj p s p.code.length (k:Int)):(a8 p.code s)[k]?=some true:=by
 rcases h with rfl|⟨i,q,_,h2,h3,h4,h5⟩
 ·rcases(kg hR.closed hs).d with h|h
  ·simpa using h.2
  ·cases h
 ·have hk:k=i+1:=by omega
  subst hk;have:=kJ hR hs i q h3 h4 ((i+1:Nat):Int) (by unfold bA;rw[if_neg (by omega),if_neg (by omega),if_neg (by omega)];simp)
  simpa using this
theorem rE {p:Pg} {s pl:Int} {l:List dx} {x:dx} (h:∀t∈l,gj p s p.code.length (t.pc:Int)∧bp t.c pl) (hx:gj p s p.code.length (x.pc:Int)∧bp x.c pl):∀t∈l7 l x,gj p s p.code.length (t.pc:Int)∧bp t.c pl:=by
 intro t ht
 rcases o_ ht with ht|ht
 ·exact h t ht
 ·subst ht;exact hx
theorem o9 {l:List dx} {x:dx} (h:(l.map dx.pc).Nodup):((l7 l x).map dx.pc).Nodup:=by
 unfold l7
 split
 ·exact h
 ·rename_i hn;rw[List.map_append,List.nodup_append];refine⟨h,by simp,fun a ha b hb=>?_⟩;simp only[List.map_cons,List.map_nil,List.mem_cons,List.not_mem_nil,or_false] at hb;subst hb;rintro rfl;obtain⟨y,hy,he⟩:=List.mem_map.1 ha;exact hn (List.any_eq_true.2 ⟨y,hy,by simpa using he⟩)
theorem jS {p:Pg} {s pl r:Int}:∀(l a:List dx),(∀t∈l,(a8 p.code s)[t.pc]?=some true∧(∃i,p.code[t.pc]?=some i∧i.op=1)∧bp t.c pl)→(∀t∈a,gj p s p.code.length (t.pc:Int)∧bp t.c pl)→(a.map dx.pc).Nodup→
  (∀t∈ej p.code r l a,gj p s p.code.length (t.pc:Int)∧bp t.c pl)∧((ej p.code r l a).map dx.pc).Nodup
 |[],a,_,h2,h3=>⟨h2,h3⟩
 |t::ts,a,h1,h2,h3=>by
  unfold ej;obtain⟨g1,⟨i,g2,g3⟩,g4⟩:=h1 t (List.mem_cons_self ..);have NI:=fun t' h'=>h1 t' (List.mem_cons_of_mem _ h')
  split
  ·refine jS ts _ NI (rE h2 ⟨.inr ⟨t.pc,i,lt_get g2,rfl,g1,g2,g3⟩,g4⟩) (o9 h3)
  ·exact jS ts _ NI h2 h3
theorem vE {p:Pg} (hR:aR p) {s:Nat} (hs:s<p.code.length) {pl:Nat} {r:Int} {l:PL} (h:rF p (s:Int) (pl:Int) l):rF p (s:Int) (pl:Int) (dA p.code pl s r l):=by
 have zi:0≤(s:Int)∧(s:Int)<(p.code.length:Int):=⟨by omega,by omega⟩
 have hw:=B1 (kJ hR zi) pl false l.aV (lb p.code.length l.dn l.aJ) ⟨h.b,h.c,fun t ht=>by cases ht⟩ fun t ht=>⟨wO hR zi (h.t t ht).1,(h.t t ht).2⟩
 obtain⟨n1,n2⟩:=jS (r:=r) (mF p.code pl false l.aV (lb p.code.length l.dn l.aJ)).rdy [] hw.r (fun t ht=>by cases ht) (by simp);unfold dA;refine⟨hw.b,hw.p,?_,?_⟩
 ·dsimp only
  split
  ·exact n1
  ·exact rE n1 ⟨.inl rfl,iR (by omega)⟩
 ·dsimp only
  split
  ·exact n2
  ·exact o9 n2
theorem rF.up {p:Pg} {s pl tb:Int} {l:PL} (h:rF p s pl l) (hp:pl≤tb):rF p s tb l:=⟨h.b,pP h.c hp,fun t ht=>⟨(h.t t ht).1,pP (h.t t ht).2 hp⟩,h.d⟩
def rG (p:Pg) (pl:Nat) (ls:List PL):Prop:=ls.length=p.aq.length∧∀(i:Nat) l s,ls[i]?=some l→p.aq[i]?=some s→rF p s (pl:Int) l
theorem nA {p:Pg} (hR:aR p) {i:Nat} {s:Int} (h:p.aq[i]?=some s):∃k:Nat,s=(k:Int)∧k<p.code.length∧(aM p)[i]?=some k:=by
 obtain⟨h1,h2⟩:=hR.st s (List.mem_of_getElem? h);obtain⟨k,rfl⟩:=Int.eq_ofNat_of_zero_le h1;exact⟨k,rfl,by omega,by unfold aM;rw[List.getElem?_map,h];rfl⟩
theorem vy {p:Pg} (hR:aR p):rG p 0 ((aM p).map jL):=by
 refine⟨by unfold aM;simp,fun i l s hl hs=>?_⟩;obtain⟨k,rfl,hk,fg⟩:=nA hR hs;rw[List.getElem?_map,fg] at hl;cases hl;refine⟨.inr fun i _=>rfl,iR (by omega),fun t ht=>?_,by simp[jL]⟩;simp only[jL,List.mem_cons,List.not_mem_nil,or_false] at ht;subst ht;exact⟨.inl rfl,iR (by omega)⟩
theorem tm {p:Pg} (hR:aR p) {pl:Nat} {r n:Int} {ls:List PL} (h:rG p pl ls):rG p (pl+dv n) (eE p.code pl r (aM p) ls):=by
 have hl:(aM p).length=ls.length:=by unfold aM;rw[List.length_map,h.1]
 refine⟨by rw[hO _ _ _ _ _ hl];exact h.1,fun i l s hi hs=>?_⟩;obtain⟨k,rfl,hk,fg⟩:=nA hR hs;have hil:i<ls.length:=by have:=lt_get hs;have:=h.1;omega
 obtain⟨l0,DO⟩:∃l,ls[i]?=some l:=⟨ls[i]'hil,List.getElem?_eq_getElem _⟩
 rw[hU p.code pl r (aM p) ls i k l0 fg DO] at hi;cases hi;exact(vE hR hk (h.2 i l0 _ DO hs)).up (by omega)
def dx.g (t:dx):GT:=⟨(t.pc:Int),t.c⟩
def VL.g (l:VL):GV:=⟨l.dn,l.aJ,l.td,l.aV.map dx.g⟩
theorem DZ (l:List dx):(l.map dx.g).map e5=l.map aL:=by rw[List.map_map];rfl
theorem Af (V:List VL):(V.map VL.g).map gU=V.map dX:=by rw[List.map_map];rfl
theorem tl {p:Pg} (hR:aR p) {pl:Nat} {V:List VL} (h:rG p pl (V.map VL.pl)) (hpl:pl≤1099511627776):fS p (pl:Int) (V.map VL.g):=by
 have hlen:=h.1;rw[List.length_map] at hlen;refine⟨hR,by omega,by omega,by rw[List.length_map,hlen],fun r l s hr hl hs=>?_⟩;rw[List.getElem?_map] at hl;obtain⟨v,hv,rfl⟩:=Option.map_eq_some_iff.1 hl;have hw:=h.2 r v.pl s (by rw[List.getElem?_map,hv];rfl) hs;refine⟨hw.b,hw.c,fun j t hj ht=>?_⟩;change(v.aV.map dx.g)[j]?=some t at ht;rw[List.getElem?_map] at ht;obtain⟨u,hu,rfl⟩:=Option.map_eq_some_iff.1 ht;have fu:=hw.t u (List.mem_of_getElem? hu);refine⟨⟨fu.1,fun j' t' z7 Bl he=>?_⟩,fu.2⟩;change(v.aV.map dx.g)[j']?=some t' at Bl;rw[List.getElem?_map] at Bl;obtain⟨u',Hp,rfl⟩:=Option.map_eq_some_iff.1 Bl;have hd:(v.aV.map dx.pc).Nodup:=hw.d;have hpp:=List.pairwise_iff_getElem.1 hd j' j (by rw[List.length_map];exact lt_get Hp) (by rw[List.length_map];exact lt_get hu) z7;have e1:(v.aV.map dx.pc)[j']?=some u'.pc:=by rw[List.getElem?_map,Hp];rfl
 have e2:(v.aV.map dx.pc)[j]?=some u.pc:=by rw[List.getElem?_map,hu];rfl
 rw[List.getElem?_eq_some_iff] at e1 e2;obtain⟨_,e1⟩:=e1;obtain⟨_,e2⟩:=e2;rw[e1,e2] at hpp;have mP:((u'.pc:Nat):Int)=((u.pc:Nat):Int):=he;exact hpp (by omega)
def lK (fr:Go.V.Fr) (k:Nat):Go.V.D:=Go.V.nth .junk fr.loc k
theorem vm {kv ks:Nat} {s0:St} {p:Pg} {pl:Nat} {ld:D} {L:List VL} (hp:p.ok) (hLl:L.length≤1000) (hok:∀l∈L,l.aV.length≤1000) (hA:AM s0.bs.length s0 kv ks p pl ld L) (hF:s0.flr≤s0.bs.length) (er:s0.ro≤s0.bs.length):
  ∃r ae,Ev pv 17 [.ptr kv 0 0] s0 r ae∧∃(d:D) (L':List VL),r=.agg [.int .i64 (pl:Nat),d]∧L'.map VL.pl=L.map VL.pl∧Has s0.bs.length s0 ae (.lst d 12 (L'.map dX)::L'.map j7):=by
 have hH:Has s0.bs.length s0 s0 []:=Has.start (Nat.le_refl _) er;refine Ev.iB rfl MI rfl rfl rfl ?_;refine zE ?_;change EvC _ _ _ _ s0 _;refine qq<|qj fun K hK=>qa hH fun k2 st hk2 hH=>?_;refine qe hK ?_;have zZ:=hA.to hH 2;have SI:=hA.to hH 3;have hb2:=hA.box hH;have Es:=hA.refs hp hH;change EvC _ _ _ _ _ _;refine qq ?_;generalize hK:SeqQ _ _ _ _=K;refine EvC.yV rfl ?_;refine cM.cons ?_;refine qm ?_;refine EvO.nil ⟨rfl,?_⟩;refine cM.cons ?_;refine qg ?_;refine EvO.nil ⟨rfl,?_⟩;refine cM.cons ?_;refine qp (o:=2) ?_;refine EvO.nil ⟨rfl,?_⟩;refine cM.cons ?_;refine qR ?_;refine EvO.nil ⟨rfl,?_⟩;refine cM.cons ?_;refine qm ?_;refine EvO.nil ⟨rfl,?_⟩;refine cM.cons ?_;refine qg ?_;refine EvO.nil ⟨rfl,?_⟩;refine cM.cons ?_;refine qp (o:=3) ?_;refine EvO.nil ⟨rfl,?_⟩;refine cM.cons ?_;refine qR ?_;refine EvO.nil ⟨rfl,?_⟩;refine cM.cons ?_;obtain⟨_,st,hev,L2,ED,hH⟩:=oW hF hLl hA.ld (fun l hl=>⟨hA.td l hl,hok l hl⟩) hH;have hH:=Has.g_ (_::L2.map j7) [_] hH;dsimp only[u3,u4] at hH;refine qv hev ?_;refine EvO.nil ⟨by exact Bool.and_eq_true_iff.2 ⟨gV rfl rfl rfl hb2 (hA.box hH) hb2 Es,rfl⟩,?_⟩;refine cM.cons ?_;refine EvO.eI (qs:=[(0,_),(1,_)]) rfl rfl rfl rfl ⟨rfl,(ev rfl),(by rfl),rfl,(ev rfl),(by exact hH.ocells (by exact at1)),trivial⟩ (by intro q hq;simp only[List.mem_cons,List.not_mem_nil,or_false] at hq;rcases hq with rfl|rfl<;>exact⟨rfl,by exact Nat.le_of_ble_eq_true rfl⟩) (by show List.foldl _ [_,_] _=_;dsimp only[List.foldl_cons,List.foldl_nil,u2,u1]<;>rfl) (put_T rfl _) ?_;refine EvO.nil ⟨rfl,?_⟩;refine cM.cons ?_;refine qS hH at0 fun st hH=>?_;dsimp only[u2,u1,u3,u4,setMany,u5,u6,D.cells,Nat.reduceAdd,aA,aL,aK,aC,dX,tQ] at hH;refine EvO.nil ⟨rfl,?_⟩;refine cM.nil ?_;subst hK;refine EvC.ret ⟨rx,_,_,_,hH.rP rfl at0 rfl,rfl,?_⟩;refine⟨_,L2,rfl,ED,?_⟩;have h1:=hH.drop 1
 simpa only[List.drop_succ_cons,List.drop_zero,List.append_nil] using h1
def F7 (l:GV):aN:=.lst l.td 11 (l.aV.map e5)
def sc (d:D) (L:List GV):List aN:=.lst d 12 (L.map gU)::L.map F7
theorem sa {N:Nat} {S st:St} {A B:List aN} {d:D} {L:List GV} (hH:Has N S st (A++(sc d L++B))) (hl:L.length≤1000) (ht:∀l∈L,l.aV.length≤1000):mT st d L:=by
 have h0:(A++(sc d L++B))[A.length]?=some (.lst d 12 (L.map gU)):=by
  rw[List.getElem?_append_right (Nat.le_refl _),Nat.sub_self];rfl
 refine⟨hH.rows h0,by omega,fun l hm=>⟨?_,by have:=ht l hm;omega⟩⟩;obtain⟨i,hi⟩:=List.getElem?_of_mem hm;have hil:=lt_get hi
 have h1:(A++(sc d L++B))[A.length+(1+i)]?=some (F7 l):=by
  rw[List.getElem?_append_right (by omega),show A.length+(1+i)-A.length=i+1 by omega];show(aN.lst d 12 (L.map gU)::(L.map F7++B))[i+1]?=_;rw[List.getElem?_cons_succ,List.getElem?_append_left (by rw[List.length_map];exact hil),List.getElem?_map,hi];rfl
 exact hH.rows h1
theorem Ei {N:Nat} {S s0:St} {H:List aN} (hF:S.flr≤N) (hH:Has N S s0 H):s0.flr≤s0.bs.length∧s0.ro≤s0.bs.length:=by
 have h1:=hH.ex.flr;have h2:=hH.ex.ro;have h3:=hH.er;have h4:=hH.hN;have h5:=hH.ex.len;constructor<;>omega
theorem MH.over {A H2:List aN} {N:Nat} {S st ae:St} {ks kv:Nat} {p:Pg} {pl:Nat} {ld:D} {L:List VL} {H:List aN} (hM:MH A N S st ks kv p pl ld L H) (h2:Has st.bs.length st ae H2):MH (H2++A) N S ae ks kv p pl ld L H:=by
 obtain⟨pd,qd,P,Q,sn,hH,h3,h4⟩:=n_ hM;exact uh (by simpa only[List.append_assoc] using Has.over hH h2) h3 h4
theorem Has.Gc {N:Nat} {S st:St} (A B C:List aN) (h:Has N S st (A++(B++C))):Has N S st (A++C):=by
 have h1:=(Has.g_ A B h).drop B.length
 rwa [List.drop_left] at h1
theorem Has.EK {N:Nat} {S st:St} (A B C D:List aN) (h:Has N S st (A++(B++(C++D)))):Has N S st (A++(C++(B++D))):=by
 have h1:=Has.g_ A (B++(C++D)) (H:=[]) (by rw[List.append_nil];exact h);rw[List.append_nil,List.append_assoc,List.append_assoc] at h1;have h2:=Has.g_ B C h1;have h3:=Has.g_ (C++(B++D)) A (H:=[]) (by rw[List.append_nil];simpa only[List.append_assoc] using h2);rw[List.append_nil] at h3;exact h3
theorem vl {N kv ks:Nat} {S s0:St} {H:List aN} {p:Pg} {pl:Nat} {ld:D} {L:List VL} (hF:S.flr≤N) (hp:p.ok) (hLl:L.length≤1000) (hok:∀l∈L,l.aV.length≤1000) (hM:MH [] N S s0 ks kv p pl ld L H):
  ∃r ae,Ev pv 17 [.ptr kv 0 0] s0 r ae∧∃(d:D) (L':List VL),r=.agg [.int .i64 (pl:Nat),d]∧L'.map VL.pl=L.map VL.pl∧MH (sc d (L'.map VL.g)) N S ae ks kv p pl ld L H:=by
 obtain⟨_,_,_,_,_,hH,_,_⟩:=n_ hM;obtain⟨h1,h2⟩:=Ei hF hH;obtain⟨r,ae,hev,d,L',hr,hL,DY⟩:=vm hp hLl hok hM.am h1 h2
 have e:(.lst d 12 (L'.map dX)::L'.map j7:List aN)=sc d (L'.map VL.g):=by
  unfold sc;rw[Af,List.map_map]
  congr 1
  refine List.map_congr_left fun l _=>?_;show j7 l=aN.lst l.td 11 ((l.aV.map dx.g).map e5);rw[DZ];rfl
 rw[e] at DY;have:=MH.over hM DY;rw[List.append_nil] at this;exact⟨r,ae,hev,d,L',hr,hL,this⟩
theorem CL (gb:∀st,Ev pv 63 [] st (.agg (aC bj)) st) {N:Nat} {S s0:St} {H:List aN} {p:Pg} {x:D} {L:List GV} {place:Int} (hF:S.flr≤N) (hp:p.ok) (hW:fS p place L) (hx:mT s0 x L) (ht:∀l∈L,l.aV.length≤1000) (hH:Has N S s0 H):
  ∃r ae,Ev pv 19 [p.d,.agg [.int .i64 place,x]] s0 r ae∧∃kv ks q ld L',r=.tup [.ptr kv 0 0,.int .i64 0]∧kT p q∧L'.map VL.pl=(L.map GV.v).map VL.pl∧MH [] N S ae ks kv q place.toNat ld L' H:=by
 obtain⟨h1,h2⟩:=Ei hF hH;obtain⟨r,ae,hev,kv,ks,q,ld,L',hr,hq,hL,hM⟩:=EI (N:=s0.bs.length) (S:=s0) gb h1 hp hW (Arg.of hx.1 rfl) (fun l hl=>⟨Arg.of (hx.2.2 l hl).1 rfl,ht l hl⟩) (Has.start (Nat.le_refl _) h2);obtain⟨pd,qd,P,Q,sn,DY,h3,h4⟩:=n_ hM;refine⟨r,ae,hev,kv,ks,q,ld,L',hr,hq,hL,uh (A:=[]) (H:=H) (pd:=pd) (qd:=qd) ?_ h3 h4⟩;have:=Has.over hH DY
 simpa only[List.nil_append,List.append_nil] using this
def gE (st:St) (es:List (List D)) (L:List GV):Prop:=es.length=L.length∧∀(i:Nat) l,L[i]?=some l→∃d,V.Rows st 11 d (l.aV.map e5)∧es[i]?=some (aK l.dn l.aJ d)
theorem CN {L L':List GV} (h:L'.map GV.told=L.map GV.told):L'.length=L.length∧∀(i:Nat) l,L[i]?=some l→∃l',L'[i]?=some l'∧l'.dn=l.dn∧l'.aJ=l.aJ∧l'.aV=l.aV:=by
 refine⟨by have:=congrArg List.length h;simpa using this,fun i l hl=>?_⟩;have h1:(L'.map GV.told)[i]?=some l.told:=by rw[h,List.getElem?_map,hl];rfl
 rw[List.getElem?_map] at h1;obtain⟨l',h2,h3⟩:=Option.map_eq_some_iff.1 h1;refine⟨l',h2,?_⟩;simp only[GV.told,GV.mk.injEq] at h3;exact⟨h3.1,h3.2.1,h3.2.2.2⟩
theorem mT.Em {st:St} {x:D} {L L':List GV} (hx:mT st x L') (h:L'.map GV.told=L.map GV.told):gE st (L'.map gU) L:=by
 obtain⟨h1,h2⟩:=CN h;refine⟨by rw[List.length_map];exact h1,fun i l hl=>?_⟩;obtain⟨l',h3,h4,h5,h6⟩:=h2 i l hl;refine⟨l'.td,by rw[←h6];exact(hx.2.2 l' (List.mem_of_getElem? h3)).1,?_⟩;rw[wM h3,←h4,←h5];rfl
theorem gE.ex {s0 S st:St} {H:List aN} {es:List (List D)} {L:List GV} (h:gE s0 es L) (hS:S.bs=s0.bs) (hH:Has s0.bs.length S st H):gE st es L:=⟨h.1,fun i l hl=>by
 obtain⟨d,h1,h2⟩:=h.2 i l hl
 exact⟨d,(Arg.of h1 hS).rows hH,h2⟩⟩
def PL.gv (l:PL):GV:=⟨l.dn,l.aJ,.nul,l.aV.map dx.g⟩
theorem xt {L:List VL} {P:List PL} (h:L.map VL.pl=P):(L.map VL.g).map GV.told=(P.map PL.gv).map GV.told:=by
 rw[←h,List.map_map,List.map_map,List.map_map];rfl
theorem E3 (t:GT):gX pv .neq 60 (.agg (e5 t)) (.agg (e5 t))=some (.bool false):=by
 have h:∀a b c d e g i j k l m:Int,gX pv .neq 60 (.agg [.int .i64 a,.int .i64 b,.int .i64 c,.int .i64 d,.int .i64 e,.int .i64 g,.int .i64 i,.int .i64 j,.int .i64 k,.int .i64 l,.int .i64 m]) (.agg [.int .i64 a,.int .i64 b,.int .i64 c,.int .i64 d,.int .i64 e,.int .i64 g,.int .i64 i,.int .i64 j,.int .i64 k,.int .i64 l,.int .i64 m])=Option.map (fun b=>D.bool !b) (match some (a==a) with|some true=>(match(match some (b==b) with|some true=>(match some (c==c) with|some true=>(match some (d==d) with|some true=>(match some (e==e) with|some true=>(match some (g==g) with|some true=>(match some (i==i) with|some true=>(match some (j==j) with|some true=>(match some (k==k) with|some true=>(match some (l==l) with|some true=>(match some (m==m) with|some true=>some true|some false=>some false|none=>none)|some false=>some false|none=>none)|some false=>some false|none=>none)|some false=>some false|none=>none)|some false=>some false|none=>none)|some false=>some false|none=>none)|some false=>some false|none=>none)|some false=>some false|none=>none)|some false=>some false|none=>none)|some false=>some false|none=>none) with|some true=>some true|some false=>some false|none=>none)|some false=>some false|none=>none):=fun _ _ _ _ _ _ _ _ _ _ _=>rfl;unfold e5;rw[h];simp only[beq_self_eq_true,Option.map_some,Bool.not_true]
theorem yM {s0:St} {x y:D} {l:List GT} (hx:V.Rows s0 11 x (l.map e5)) (hy:V.Rows s0 11 y (l.map e5)) (hl:l.length≤1073741824):Ev pv 67 [x,y] s0 (.bool true) s0:=by
 refine Ev.mk1 rfl IH rfl rfl rfl ?_;refine zE ?_;obtain⟨hSb,hF,hH⟩:=ri s0;generalize enterSt .ro s0=S at*;have hx:=Arg.of hx hSb;have hy:=Arg.of hy hSb;refine zQ 8 ?_;refine qn ?_;simp only[List.length_map];refine qm ?_;refine qn ?_;simp only[List.length_map];refine zQ 2 ?_;refine qE rfl (by simp) ?_;refine zQ 7 ?_;refine EvC.loop (fun mm fr st=>∃(i:Nat),fr.clean=⟨6,[x,y,lK fr 2,lK fr 3,.bool false,.int .i64 (i:Nat)],[]⟩∧Has s0.bs.length S st []∧(i+mm=l.length)) (l.length) ?_ ?_
 ·exact⟨0,rfl,hH,by omega⟩
 rintro mm fr st ⟨i,hfr,hH,hi⟩;rw[hfr];clear hfr;generalize lK fr=ee;clear fr;refine zQ 5 ?_;refine qn ?_;simp only[List.length_map];refine zQ 2 ?_;refine zP (fun h1=>?_) fun h1=>?_
 ·refine zQ 1 ?_
  obtain⟨p,hp⟩:∃p,l[i]?=some p:=⟨l[i]'(by omega),List.getElem?_eq_getElem _⟩
  have hr1:=BU hp;refine zQ 6 ?_;refine qr fun J5 Fy=>?_;refine EvO.cq rfl (ev rfl) (by assumption) rfl (put_T rfl _) ?_;refine zQ 2 ?_;refine qr fun J2 Fv=>?_;refine EvO.cq rfl (ev rfl) (by assumption) rfl (put_T rfl _) ?_;refine EvO.Gw rfl (ev rfl) (ev rfl) (E3 p) (put_T rfl _) ?_;refine zQ 8 ?_;exact⟨mm-1,by omega,⟨i+1,rfl,hH,by omega⟩⟩
 ·refine zQ 5 ?_;refine EvC.ret ⟨rx,_,rfl,rl hSb hH (rfl)⟩
theorem zb {s0:St} {x y:D} {es fs:List (List D)} {L:List GV} (hx:V.Rows s0 12 x es) (hy:V.Rows s0 12 y fs) (mO:gE s0 es L) (DR:gE s0 fs L) (hl:L.length≤1073741824) (vt:∀l∈L,l.aV.length≤1000):Ev pv 22 [x,y] s0 (.bool true) s0:=by
 obtain⟨ng,LG⟩:=mO;obtain⟨lU,Ly⟩:=DR;refine Ev.mk1 rfl II rfl rfl rfl ?_;refine zE ?_;obtain⟨hSb,hF,hH⟩:=ri s0;generalize enterSt .ro s0=S at*;have hx:=Arg.of hx hSb;have hy:=Arg.of hy hSb;refine zQ 8 ?_;refine qn ?_;refine qm ?_;refine qn ?_;refine zQ 2 ?_;refine qE rfl (by rw[ng,lU];simp) ?_;refine zQ 7 ?_;refine EvC.loop (fun mm fr st=>∃(i:Nat),fr.clean=⟨6,[x,y,lK fr 2,lK fr 3,.bool false,.int .i64 (i:Nat)],[]⟩∧Has s0.bs.length S st []∧(i+mm=es.length)) (es.length) ?_ ?_
 ·exact⟨0,rfl,hH,by omega⟩
 rintro mm fr st ⟨i,hfr,hH,hi⟩;rw[hfr];clear hfr;generalize lK fr=ee;clear fr;refine zQ 5 ?_;refine qn ?_;refine zQ 2 ?_;refine zP (fun h1=>?_) fun h1=>?_
 ·refine zQ 1 ?_
  obtain⟨l,hll⟩:∃l,L[i]?=some l:=⟨L[i]'(by omega),List.getElem?_eq_getElem _⟩
  obtain⟨d1,wH,hr1⟩:=LG i l hll;obtain⟨d2,tg,mN⟩:=Ly i l hll;have mJ:=vt l (List.mem_of_getElem? hll);have bX:(l.dn !=l.dn)=false:=by simp
  have oF:false=false:=rfl;refine zQ 3 ?_;refine EvC.cutT 54 (.bool false) [] ?_ (fun ff tmp htmp=>?_)
  ·refine zQ 2 ?_;refine qr fun J5 Fy=>?_;refine qf (fo:=0) fun G6 Bv=>?_;refine zQ 3 ?_;refine qr fun Gv zk=>?_;refine qf (fo:=0) fun Gu zj=>?_;refine zQ 5 ?_;refine qr (fun O0 K_=>?_) (hg:=wi bX);refine qf (fo:=1) (fun OZ K9=>?_) (hg:=wi bX);refine zQ 3 ?_;refine qr (fun J1 Fu=>?_) (hg:=wi bX);refine qf (fo:=1) (fun J0 Ft=>?_) (hg:=wi bX);refine zQ 1 ?_;refine EvO.Gw (wantD_is rfl rfl rfl bX) (ev rfl) (ev rfl) (ue l.aJ) (put_T rfl _) ?_;refine zQ 4 ?_;refine qr (fun OU K4=>?_) (hg:=wi oF);refine qf (fo:=11) (fun OT K3=>?_) (hg:=wi oF);refine zQ 3 ?_;refine qr (fun JZ Fs=>?_) (hg:=wi oF);refine qf (fo:=11) (fun JY Fq=>?_) (hg:=wi oF);refine zQ 1 ?_;refine qv (yM ((Arg.of wH hSb).rows hH) ((Arg.of tg hSb).rows hH) (by omega)) ?_ (hg:=wi oF);refine zQ 2 ?_;refine EvO.nil (leafT ?_ ?_)
   ·dsimp only[setW,List.foldl,nth,u2,u1]
    all_goals(first|rfl|simp)
   ·dsimp only[Fr.putO,Fr.put,Fr.clean,Fr.ev,Fr.get,nth,look,u1,u2,v1,v2,v4]
    all_goals(rfl)
  dsimp only[setW,List.foldl,nth,u2,u1];dsimp only[Fr.putO,Fr.put,Fr.clean,Fr.ev,Fr.get,nth,look,u1,u2,v1,v2,v4];refine zQ 7 ?_;exact⟨mm-1,by omega,⟨i+1,rfl,hH,by omega⟩⟩
 ·refine zQ 5 ?_;refine EvC.ret ⟨rx,_,rfl,rl hSb hH (rfl)⟩
theorem sF {s0:St} {pl:Int} {x y:D} {es fs:List (List D)} {L:List GV} (hx:V.Rows s0 12 x es) (hy:V.Rows s0 12 y fs) (mO:gE s0 es L) (DR:gE s0 fs L) (hl:L.length≤1000) (vt:∀l∈L,l.aV.length≤1000):Ev pv 21 [.agg [.int .i64 pl,x],.agg [.int .i64 pl,y]] s0 (.bool true) s0:=by
 have Ll:=fun{st:St} (hx:V.Rows st 12 x es) (hy:V.Rows st 12 y fs) (mO:gE st es L) (DR:gE st fs L)=>zb (s0:=st) hx hy mO DR (by omega) vt;have SO:=nH hx;have SN:=nH hy;refine Ev.mk1 rfl MD rfl rfl rfl ?_;refine zE ?_;obtain⟨hSb,hF,hH⟩:=ri s0;generalize enterSt .ro s0=S at*;have gd:(pl==pl)=true:=by simp
 have hx:=Arg.of hx hSb;have hy:=Arg.of hy hSb;refine zQ 2 ?_;refine qb hH fun k2 st hk2 hH=>?_;refine qb hH fun k3 st FK hH=>?_;refine zQ 14 ?_;refine qv (Ll (hx.rows hH) (hy.rows hH) (mO.ex hSb hH) (DR.ex hSb hH)) ?_ (hg:=wi gd);refine zQ 3 ?_;refine EvC.ret ⟨rx,_,rfl,rl hSb hH (rfl)⟩
def JO (w w':Wk):Prop:=w'.dn=false→w.dn=false∧w'.aJ=w.aJ
theorem JO.trans {a b c:Wk} (h:JO a b) (k:JO b c):JO a c:=fun hc=>⟨(h (k hc).1).1,(k hc).2.trans (h (k hc).1).2⟩
theorem yi (code:List az) (start:Nat):∀(gs:List (Nat×Nat)) (pl:Nat) (l:PL),(uP code start gs pl l).aV=[]
 |[],_,_=>rfl
 |g::gs,pl,l=>yi code start gs _ _
end Go.Proofs.YtnleclohocdkaaaGreat
