/-
 A machine of a program in new memory goes on as the program's own; runes that are told, as arguments.
-/
import Derived.Test.YtbdnabmmlbiomaaGreatXGYj
import Derived.Test.YtbdnabmmlbiomaaGreatXGJf
import Derived.Test.YtbdnabmmlbiomaaGreatXM2
set_option maxRecDepth 100000
set_option maxHeartbeats 4000000
set_option linter.unusedSimpArgs false
set_option linter.unusedVariables false
open Nat renaming reduceAdd→γ,reduceSub→δ,le_refl→ψ,le_of_ble_eq_true→QQ,mul_one→QD,zero_add→QS
open List renaming length→ε,map→ζ,length_map→ν,getElem?_append_left→ρ,length_append→τ,append_assoc→φ,append_nil→χ,map_append→Δ,getElem?_append_right→Θ,length_cons→Ξ,getElem?_eq_getElem→Φ,drop_eq_nil_of_le→Ψ,getElem?_map→Ω,drop_append_of_le_length→QX,take_of_length_le→QJ,nil_append→Qq,take_succ_cons→Qx,length_nil→Qv,take_left'→Qk,drop_left→Qy,drop_zero→Qw,take_zero→QW,map_cons→QK,mem_map→QV,length_replicate→QU,drop_succ_cons→QB,mem_map_of_mem→QF,cons_append→QP,take_left→QL,map_drop→QM,mem_cons→QN
open Go.V.Fr renaming clean→η,get→ι,put→μ,ev→ξ,aj→ο
open Go.V.aa renaming nil→θ,len→QZ,dU→QG,oh→QC,store→QR,load→QT,append→QA,rp→QE
open Go.V renaming look→κ
open Go.V.ab renaming cH→π,cond→ς,ret→υ,block→ω,skip→Γ,exit→QY,loop→QH
open Go.V.D renaming cells→Qz,int→Qj
namespace Go.Proofs.YtbdnabmmlbiomaaGreat
open Go.V Go Go.RowKit
theorem rh (code:List aQ) (pl:Nat) (e:Bool):∀(f:Nat) (w:Wk) (t:iS),b_ (code.map eQ) pl e f w t=b_ code pl e f w t
 |0,_,_=>rfl
 |f+1,w,t=>by
  unfold b_;simp only[rh code pl e f,Ω]
  cases code[t.pc]? with
  |none=>rfl
  |some i=>rfl
theorem sU (code:List aQ) (pl:Nat) (e:Bool):∀(l:List iS) (w:Wk),lp (code.map eQ) pl e l w=lp code pl e l w
 |[],_=>rfl
 |t::ts,w=>by
  unfold lp;simp only[rh,ν,sU code pl e ts]
theorem B5 (code:List aQ) (k:Nat):xe (code.map eQ) k=xe code k:=by
 unfold xe;rw[Ω];cases code[k]?<;>rfl
theorem rT (code:List aQ) (r:Int):∀(l a:List iS),gx (code.map eQ) r l a=gx code r l a
 |[],_=>rfl
 |t::ts,a=>by unfold gx;simp only[B5,rT code r ts]
theorem y7 (code:List aQ) (pl s:Nat) (r:Int) (l:PL):gw (code.map eQ) pl s r l=gw code pl s r l:=by
 unfold gw;simp only[sU,rT,ν]
theorem pz (code:List aQ) (pl:Nat) (r:Int):∀(ss:List Nat) (ls:List PL),dj (code.map eQ) pl r ss ls=dj code pl r ss ls
 |[],_=>rfl
 |_::_,[]=>rfl
 |s::ss,l::ls=>by simp only[dj,y7,pz code pl r ss ls]
theorem CP (code:List aQ) (pl:Nat):jc (code.map eQ) pl=jc code pl:=by
 funext l;unfold jc;simp only[sU,ν]
variable{p:Pg}{A H:List bJ}{N ks kv pl:Nat}{S st:St}{ld:D}{L:List VL}
theorem wB.ba {q:Pg} (h:wB p q):ba q=ba p:=by unfold Go.Proofs.YtbdnabmmlbiomaaGreat.ba;rw[h.ak]
theorem l6 {p:Pg} (hR:bE p) {pl:Nat} {r:Int}:∀{ss:List Nat} {ls:List PL},(∀s∈ss,s<p.code.length)→∀l∈dj p.code pl r ss ls,l.ok p.code.length
 |[],_,_,l,hl=>by cases hl
 |_::_,[],_,l,hl=>by cases hl
 |s::ss,x::ls,hs,l,hl=>by
  simp only[dj,QN] at hl
  rcases hl with rfl|hl
  ·exact Dz hR (hs s (List.mem_cons_self ..))
  ·exact l6 hR (fun s h=>hs s (List.mem_cons_of_mem _ h)) l hl
theorem mM (hR:bE p):∀s∈ba p,s<p.code.length:=by
 intro s hs;obtain⟨v,hv,rfl⟩:=QV.1 hs;have:=hR.st v hv;omega
theorem pf {x y:Oper} {fi fj:Fr} {si qN sj FX:St} {a:Operand} {k aG off v:Nat} {ar:Bool} {c:List D} (hy:ia y.op=some a) (ha:fj.ev a=.ptr k aG off) (h1:si.bs[k]?=some (.mem v ar c)) (h2:qN.bs[k]?=some (.mem v ar c)):iW x fi si qN y fj sj FX=true:=by
 unfold iW;simp only[hy,ha,D.na];exact oA h1 h2
def gh (ks kv:Nat) (p:Pg) (pl:Nat) (ld pd qd:D) (P Q:List Nat) (L:List VL):List bJ:=
 .box kv (.mem 0 false [p.cd,p.sd,.int .i64 (pl:Nat),ld,.ptr ks 0 0])::.box ks (.mem 0 false [pd,qd])::.aO pd 1 (P.map gL)::.aO qd 2 (Q.map ov)::.aO ld 12 (L.map dP)::L.map pX
theorem ur (h:MH A N S st ks kv p pl ld L H):∃pd qd P Q sn,Has N S st (A++(gh ks kv p pl ld pd qd P Q L++H))∧dC P Q sn∧sn.length=p.code.length:=by
 obtain⟨pd,qd,P,Q,sn,hH,h1,h2⟩:=h;exact⟨pd,qd,P,Q,sn,by simpa only[gh,QP] using hH,h1,h2⟩
theorem Es {pd qd:D} {P Q:List Nat} {sn:List Bool} (hH:Has N S st (A++(gh ks kv p pl ld pd qd P Q L++H))) (h1:dC P Q sn) (h2:sn.length=p.code.length):MH A N S st ks kv p pl ld L H:=
 ⟨pd,qd,P,Q,sn,by simpa only[gh,QP] using hH,h1,h2⟩
def MM (A:List bJ) (N:Nat) (S st:St) (ks kv:Nat) (p:Pg) (pl:Nat) (ld:D) (L:List VL) (qW r_:Nat) (p2:Pg) (A6:Nat) (xS:D) (L2:List VL):Prop:=
 ∃pd qd P Q sn F2 F0 P2 Q2 NU,Has N S st (A++(gh ks kv p pl ld pd qd P Q L++gh qW r_ p2 A6 xS F2 F0 P2 Q2 L2))∧dC P Q sn∧sn.length=p.code.length∧dC P2 Q2 NU∧NU.length=p2.code.length
section
variable{A:List bJ} {N:Nat} {S st:St} {ks kv qW r_:Nat} {p p2:Pg} {pl A6:Nat} {ld xS:D} {L L2:List VL}
theorem MM.one (h:MM A N S st ks kv p pl ld L qW r_ p2 A6 xS L2):∃H,MH [] N S st ks kv p pl ld L H∧∀(B:List bJ) (ai:St) (tu:Nat) (Rl:D) (L':List VL),MH B N S ai ks kv p tu Rl L' H→MM (B++A) N S ai ks kv p tu Rl L' qW r_ p2 A6 xS L2:=by
 obtain⟨pd,qd,P,Q,sn,F2,F0,P2,Q2,NU,hH,h1,h2,h3,h4⟩:=h
 refine⟨gh qW r_ p2 A6 xS F2 F0 P2 Q2 L2++A,Es (by
  have a:=Has.lA A (gh ks kv p pl ld pd qd P Q L++gh qW r_ p2 A6 xS F2 F0 P2 Q2 L2) (H:=[]) (by rw[χ];exact hH);rw[χ,φ] at a
  exact a) h1 h2,fun B ai tu Rl L' hM=>?_⟩
 obtain⟨F3,F1,P',Q',Xh,hH',Vu,Zs⟩:=ur hM;refine⟨F3,F1,P',Q',Xh,F2,F0,P2,Q2,NU,?_,Vu,Zs,h3,h4⟩
 have a:=Has.lA (B++(gh ks kv p tu Rl F3 F1 P' Q' L'++gh qW r_ p2 A6 xS F2 F0 P2 Q2 L2)) A (H:=[]) (by rw[χ];simpa only[φ] using hH');have b:Has N S ai (A++(B++((gh ks kv p tu Rl F3 F1 P' Q' L'++gh qW r_ p2 A6 xS F2 F0 P2 Q2 L2)++[]))):=by simpa only[φ] using a
 have c:=Has.lA _ _ b;rw[χ] at c
 simpa only[φ] using c
theorem MM.drop (n:Nat) (h:MM A N S st ks kv p pl ld L qW r_ p2 A6 xS L2) (hn:n≤A.length):MM (A.drop n) N S st ks kv p pl ld L qW r_ p2 A6 xS L2:=by
 obtain⟨pd,qd,P,Q,sn,F2,F0,P2,Q2,NU,hH,h1,h2,h3,h4⟩:=h;refine⟨pd,qd,P,Q,sn,F2,F0,P2,Q2,NU,?_,h1,h2,h3,h4⟩;have:=hH.drop n
 rwa [QX hn] at this
theorem MM.has (h:MM A N S st ks kv p pl ld L qW r_ p2 A6 xS L2):Has N S st A:=by
 obtain⟨pd,qd,P,Q,sn,F2,F0,P2,Q2,NU,hH,_⟩:=h;have:=hH.take A.length
 rwa [QL] at this
theorem MM.made {pd qd:D} {P Q:List Nat} {sn:List Bool} (h:MH [] N S st ks kv p pl ld L (gh qW r_ p2 A6 xS pd qd P Q L2++A)) (h1:dC P Q sn) (h2:sn.length=p2.code.length):MM A N S st ks kv p pl ld L qW r_ p2 A6 xS L2:=by
 obtain⟨F3,F1,P',Q',Xh,hH,h3,h4⟩:=ur h;refine⟨F3,F1,P',Q',Xh,pd,qd,P,Q,sn,?_,h3,h4,h1,h2⟩;have a:=Has.lA (gh ks kv p pl ld F3 F1 P' Q' L++gh qW r_ p2 A6 xS pd qd P Q L2) A (H:=[]) (by rw[χ];simpa only[Qq,φ] using hH)
 rwa [χ] at a
end
end Go.Proofs.YtbdnabmmlbiomaaGreat
namespace Go.Proofs.YtbdnabmmlbiomaaGreat
open Go.V Go
def oZ (fr:Go.V.Fr) (k:Nat):Go.V.D:=Go.V.nth .bD fr.loc k
variable{N ks kv pl k v:Nat}{S st s0:St}{H:List bJ}{x ld:D}{L:List VL}{p:Pg}{b l h j:List UInt8}
theorem Has.over {ai:St} {H2:List bJ} (h:Has N S st H) (h2:Has st.bs.length st ai H2):Has N S ai (H2++H):=by
 have hN:=h.hN;have hl:=h.ex.len;have o7:=h2.ex.len;refine⟨⟨fun k hk=>?_,by omega,h2.ex.flr.trans h.ex.flr,h2.ex.ro.trans h.ex.ro⟩,hN,h.eT,fun i e hi=>?_,fun i j a b hij ha hb k tw jl=>?_⟩
 ·rw[h2.ex.low k (by omega)];exact h.ex.low k hk
 ·by_cases hlt:i<H2.length
  ·rw[ρ hlt] at hi;obtain⟨h3,h4⟩:=h2.ok i e hi;exact⟨h3,fun k hk=>⟨by have:=(h4 k hk).1;omega,(h4 k hk).2⟩⟩
  ·rw[Θ (by omega)] at hi;obtain⟨h3,h4⟩:=h.ok _ e hi;exact⟨e.loc (fun k hk=>h2.ex.low k (h4 k hk).2) h3,fun k hk=>⟨(h4 k hk).1,by have:=(h4 k hk).2;omega⟩⟩
 ·by_cases h1:i<H2.length<;>by_cases h3:j<H2.length
  ·rw[ρ h1] at ha;rw[ρ h3] at hb;exact h2.dis i j a b hij ha hb k tw jl
  ·rw[ρ h1] at ha;rw[Θ (by omega)] at hb;have:=((h2.ok _ a ha).2 k tw).1;have:=((h.ok _ b hb).2 k jl).2;omega
  ·rw[Θ (by omega)] at ha;rw[ρ h3] at hb;have:=((h2.ok _ b hb).2 k jl).1;have:=((h.ok _ a ha).2 k tw).2;omega
  ·rw[Θ (by omega)] at ha hb;exact h.dis _ _ a b (by omega) ha hb k tw jl
theorem s9 (hF:S.flr≤N) (pR:L.length≤1000) (hx:Arg N S 12 x (L.map dP)) (ht:∀l∈L,Arg N S 11 l.td (l.bB.map aK)∧l.bB.length≤1000) (hH:Has N S s0 H):
  ∃d ai,Ev pv 57 [x] s0 d ai∧∃L':List VL,L'.map VL.pl=L.map VL.pl∧Has N S ai (.aO d 12 (L'.map dP)::(L'.map pX++H)):=by
 refine Ev.iD rfl Vz rfl rfl rfl ?_;dsimp only[u3,u4,ε,δ,γ,w1,w2];change ab _ _ _ _ s0 _;refine qq<|qj fun K hK=>qm ?_;refine qe hK<|qq<|qj fun K hK=>qm ?_;refine qe hK<|qq<|qq<|qj fun K hK=>qm ?_;refine qn ?_;simp only[ν];refine qm ?_;refine qe hK<|ω<|QH (fun mm fr st=>∃(i:Nat) (y:D) (M:List VL),fr.clean=⟨9,[oZ fr 0,oZ fr 1,oZ fr 2,y,oZ fr 4,oZ fr 5,x,.int .i64 (L.length:Nat),.int .i64 (i:Nat)],[]⟩∧Has N S st (.aO y 12 (M.map dP)::(M.map pX++H))∧(i+mm=L.length)∧(M.map VL.pl=(L.take i).map VL.pl)) (L.length) ?_ ?_
 ·exact⟨0,.nul,[],rfl,(hH.ew 12),by omega,rfl⟩
 rintro mm fr st ⟨i,y,M,hfr,hH,hi,hM⟩;rw[hfr];clear hfr;generalize oZ fr=ee;clear fr
 have hMl:M.length=i:=by
  have:=congrArg ε hM;rw[ν,ν,List.length_take] at this;omega
 refine qq<|qj fun K hK=>qg ?_;refine qe hK<|qq ?_;refine ς (by rfl) (fun hlt=>?_) (fun hlt=>?_)<;>try simp only[decide_eq_true_eq,decide_eq_false_iff_not] at hlt
 ·refine Γ ?_;have hil:i<L.length:=by omega
  obtain⟨l,hl⟩:∃l,L[i]?=some l:=⟨L[i]'hil,Φ _⟩
  obtain⟨F6,ng⟩:=ht l (List.mem_of_getElem? hl);have gB:=oy hl;refine qq<|ω<|qq<|qj fun K hK=>qr fun WK MA=>?_;refine aa.cA rfl (ev rfl) (by assumption) rfl (ae rfl _) ?_;refine qa hH fun k5 st yh hH=>?_;refine qS hH av fun st hH=>?_;dsimp only[u2,u1,u3,u4,setMany,u5,u6,Qz,γ,aC,aK,aJ,ay,dP,jr] at hH;refine qe hK ?_;have hH:=hH.ew 11;refine qq<|qj fun K hK=>qp (o:=11) ?_;refine ql hH bh ?_;refine aa.bL (s:=11) hH rfl (ev rfl) (ev rfl) (by exact av) (by exact Arg.rows (by assumption) hH) rfl rfl rfl rfl rfl rfl rfl ⟨(QQ rfl),(QQ rfl)⟩ (fun _=>(ae rfl _)) (by simp only[Qv,ν]<;>omega) (by exact .inl hF) (fun x14 st hH=>?_);dsimp only[u2,u1,u3,u4,setMany,u5,u6,Qz,γ,aC,aK,aJ,ay,dP,jr] at hH;refine qp (o:=11) ?_;refine qT hH bh (fun st hH=>?_) (iy:=hH.eJ av);dsimp only[u2,u1,u3,u4,setMany,u5,u6,Qz,γ,aC,aK,aJ,ay,dP,jr] at hH;refine qe hK<|qj fun K hK=>qm ?_;refine aa.aF (m:=12) hH rfl (ev rfl) (by exact bh) (by dsimp only[QB,Qw,Qx,QW,aC,aK,aJ,ay,dP,jr]<;>rfl) rfl rfl (ae rfl _) ?_;refine qh (s:=12) (vs:=[_]) hH fun k18 st YM hH=>?_;refine aa.bL (s:=12) hH rfl (ev rfl) (ev rfl) (by exact fm) (by exact hH.rows (by exact av)) rfl rfl rfl rfl rfl rfl rfl ⟨(QQ rfl),(QQ rfl)⟩ (fun _=>(ae rfl _)) (by simp only[Ξ,Qv,ν]<;>omega) (by exact .inl hF) (fun SV st hH=>?_);dsimp only[u2,u1,u3,u4,setMany,u5,u6,Qz,γ,aC,aK,aJ,ay,dP,jr] at hH;refine qm ?_;refine qe hK<|qj fun K hK=>qA ?_;refine qm ?_;refine qe hK ?_;have hH:=(hH.drop 1).erase 1;have hH:=Has.lA [_] (_::M.map pX) hH;refine⟨mm-1,by omega,⟨i+1,SV,M++[⟨l.dn,l.aU,x14,l.bB⟩],rfl,?_,by omega,?_⟩⟩
  ·rw[Δ,Δ,φ];exact hH
  ·rw[Δ,hM,List.take_add_one,hl,Option.toList_some,Δ];rfl
 ·refine QY ?_;have hil:i=L.length:=by omega
  refine qq<|qj fun K hK=>qm ?_;refine qm ?_;refine qe hK<|υ ⟨rx,_,_,_,rfl,rfl,?_⟩;rw[QJ (by omega)] at hM;exact⟨M,hM,hH⟩
theorem Gg (hF:S.flr≤N) (hp:p.ok) (hR:bE p) (hA:AM N S kv ks p pl ld L) (hH:Has N S s0 H):
  ∃r ai,Ev pv 116 [.ptr kv 0 0] s0 r ai∧∃r_ qW,r=.ptr r_ 0 0∧MH [] N S ai qW r_ p 0 .nul [] H:=by
 have hcl:=hR.cl;have hc:=hp.c.arg N S;refine Ev.iD rfl Wd rfl rfl rfl ?_;dsimp only[u3,u4,ε,δ,γ,w1,w2];change ab _ _ _ _ s0 _;refine qq<|qj fun K hK=>qm ?_;refine qe hK ?_;have S':=hA.to hH 0;refine qq<|qj fun K hK=>qm ?_;refine qg ?_;refine qp (o:=0) ?_;refine qp (o:=0) ?_;refine qR ?_;refine qn ?_;simp only[ν];obtain⟨_,st,aL,qW,rfl,pd,qd,P,Q,hH,bA⟩:=tW (n:=p.code.length) hF (by omega) hH;refine qv aL ?_;refine qm ?_;refine qg ?_;refine qg ?_;refine qm ?_;refine qm ?_;refine qe hK ?_;have S':=hA.to hH 0;refine qq<|qj fun K hK=>qm ?_;refine qg ?_;refine qp (o:=0) ?_;refine aa.DQ (d:=.agg [p.cd,p.sd]) rfl (ev rfl) S' rfl (ae rfl _) ?_;refine qm ?_;refine aa.go (d:=.agg [p.cd,p.sd,.int .i64 0,.nul,.ptr qW 0 0]) (st1:=_) rfl rfl rfl (ae rfl _) ?_;refine qb hH fun k21 st abM hH=>?_;refine qm ?_;refine qe hK<|υ ⟨rx,_,_,_,rfl,rfl,?_⟩;exact⟨k21,qW,rfl,pd,qd,P,Q,_,Has.lA [_] [_,_,_,_] (hH.ew 12),bA,by rw[QU]⟩
theorem Nj (hF:S.flr≤N) (hp:p.ok) (hR:bE p) (pR:L.length≤1000) (tv:∀l∈L,l.bB.length≤1000) (hA:AM N S kv ks p pl ld L) (hH:Has N S s0 H):
  ∃r ai,Ev pv 79 [.ptr kv 0 0] s0 r ai∧∃r_ qW xS L2,r=.ptr r_ 0 0∧L2.map VL.pl=L.map VL.pl∧MH [] N S ai qW r_ p pl xS L2 H:=by
 obtain⟨_,st,aL,r_,qW,rfl,pd,qd,P,Q,sn,hH,bA,gj⟩:=Gg hF hp hR hA hH;dsimp only[u3,u4,u6] at hH;refine Ev.iD rfl ZE rfl rfl rfl ?_;dsimp only[u3,u4,ε,δ,γ,w1,w2];change ab _ _ _ _ s0 _;refine qq<|qj fun K hK=>qm ?_;refine qe hK<|qq<|qj fun K hK=>qm ?_;refine qv aL ?_;refine qm ?_;refine qe hK ?_;have Df:=hA.to hH 2;have hp3:=hA.to hH 3;have hb2:=hA.box hH;have Mu:=hA.refs hp hH;change ab _ _ _ _ _ _;refine qq ?_;generalize hK:bj _ _ _ _=K;refine ab.oK rfl ?_;refine bP.cons ?_;refine qm ?_;refine θ ⟨rfl,?_⟩;refine bP.cons ?_;refine qm ?_;refine θ ⟨rfl,?_⟩;refine bP.cons ?_;refine qm ?_;refine θ ⟨rfl,?_⟩;refine bP.cons ?_;refine qg ?_;refine θ ⟨rfl,?_⟩;refine bP.cons ?_;refine qp (o:=2) ?_;refine θ ⟨rfl,?_⟩;refine bP.cons ?_;refine qR ?_;refine θ ⟨rfl,?_⟩;refine bP.cons ?_;refine qm ?_;refine θ ⟨rfl,?_⟩;refine bP.cons ?_;refine qg ?_;refine θ ⟨rfl,?_⟩;refine bP.cons ?_;refine qp (o:=3) ?_;refine θ ⟨rfl,?_⟩;refine bP.cons ?_;refine qR ?_;refine θ ⟨rfl,?_⟩;refine bP.cons ?_;obtain⟨_,st,aL,L2,Ac,hH⟩:=s9 hF pR hA.ld (fun l hl=>⟨hA.td l hl,tv l hl⟩) hH;have hH:=Has.lA (_::L2.map pX) [_,_,_,_,_] hH;dsimp only[u3,u4] at hH;refine qv aL ?_;refine θ ⟨by exact Bool.and_eq_true_iff.2 ⟨gk rfl rfl rfl hb2 (hA.box hH) hb2 Mu,rfl⟩,?_⟩;refine bP.cons ?_;refine qg ?_;refine θ ⟨rfl,?_⟩;refine bP.cons ?_;refine qp (o:=2) ?_;refine θ ⟨rfl,?_⟩;refine bP.cons ?_;refine qT hH av fun st hH=>?_;dsimp only[u2,u1,u3,u4,setMany,u5,u6,Qz,γ,Pg.cs,aC,aw] at hH;refine θ ⟨rfl,?_⟩;refine bP.cons ?_;refine qg ?_;refine θ ⟨rfl,?_⟩;refine bP.cons ?_;refine qp (o:=3) ?_;refine θ ⟨rfl,?_⟩;refine bP.cons ?_;refine qT hH av (fun st hH=>?_) (iy:=hH.eJ qG);dsimp only[u2,u1,u3,u4,setMany,u5,u6,Qz,γ,Pg.cs,aC,aw] at hH;refine θ ⟨rfl,?_⟩;refine bP.nil ?_;subst hK;refine qq<|qj fun K hK=>qm ?_;refine qm ?_;refine qe hK<|υ ⟨rx,_,_,_,rfl,rfl,?_⟩;exact⟨r_,qW,_,L2,rfl,Ac,pd,qd,P,Q,sn,hH.erase 4,bA,gj⟩
def du (c:Nat):Nat:=if c<128 then 1 else if c<194 then 0 else if c<224 then 2 else if c<240 then 3 else if c<245 then 4 else 0
theorem Bb (c : Nat) (st : St) : Ev pv 135 [.int .u8 c] st (.int .i64 (du c : Nat)) st := by
 refine Ev.h_ rfl V4 rfl rfl rfl ?_;dsimp only [u3, u4, ε, δ, γ, w1, w2];unfold du
 repeat' split
 ·(repeat (first | refine xT ?_ | refine xL ?_ | refine xN ?_ | refine xo ?_ | refine xp ?_ | (refine θ ?_; try dsimp only [ο, μ, η, ξ, ι, nth, κ, u1, u2, v1, v2, v3, v4, v5, v6, v7, ε, u3, u4, δ, γ, ζ]) | refine qq ?_ | refine π ?_ | refine ς (v := true) rfl (fun _ => ?_) (fun h => by cases h) | refine ς (v := false) rfl (fun h => by cases h) (fun _ => ?_) | refine Γ ?_ | refine ω ?_ | simp (disch := omega) only [decide_eq_true, decide_eq_false, cu, cU, ct, cT]));refine υ ⟨rx, _, rfl, aP (by simp) (by simp [ah]) ?_⟩
  rfl
 ·(repeat (first | refine xT ?_ | refine xL ?_ | refine xN ?_ | refine xo ?_ | refine xp ?_ | (refine θ ?_; try dsimp only [ο, μ, η, ξ, ι, nth, κ, u1, u2, v1, v2, v3, v4, v5, v6, v7, ε, u3, u4, δ, γ, ζ]) | refine qq ?_ | refine π ?_ | refine ς (v := true) rfl (fun _ => ?_) (fun h => by cases h) | refine ς (v := false) rfl (fun h => by cases h) (fun _ => ?_) | refine Γ ?_ | refine ω ?_ | simp (disch := omega) only [decide_eq_true, decide_eq_false, cu, cU, ct, cT]));refine υ ⟨rx, _, rfl, aP (by simp) (by simp [ah]) ?_⟩
  rfl
 ·(repeat (first | refine xT ?_ | refine xL ?_ | refine xN ?_ | refine xo ?_ | refine xp ?_ | (refine θ ?_; try dsimp only [ο, μ, η, ξ, ι, nth, κ, u1, u2, v1, v2, v3, v4, v5, v6, v7, ε, u3, u4, δ, γ, ζ]) | refine qq ?_ | refine π ?_ | refine ς (v := true) rfl (fun _ => ?_) (fun h => by cases h) | refine ς (v := false) rfl (fun h => by cases h) (fun _ => ?_) | refine Γ ?_ | refine ω ?_ | simp (disch := omega) only [decide_eq_true, decide_eq_false, cu, cU, ct, cT]));refine υ ⟨rx, _, rfl, aP (by simp) (by simp [ah]) ?_⟩
  rfl
 ·(repeat (first | refine xT ?_ | refine xL ?_ | refine xN ?_ | refine xo ?_ | refine xp ?_ | (refine θ ?_; try dsimp only [ο, μ, η, ξ, ι, nth, κ, u1, u2, v1, v2, v3, v4, v5, v6, v7, ε, u3, u4, δ, γ, ζ]) | refine qq ?_ | refine π ?_ | refine ς (v := true) rfl (fun _ => ?_) (fun h => by cases h) | refine ς (v := false) rfl (fun h => by cases h) (fun _ => ?_) | refine Γ ?_ | refine ω ?_ | simp (disch := omega) only [decide_eq_true, decide_eq_false, cu, cU, ct, cT]));refine υ ⟨rx, _, rfl, aP (by simp) (by simp [ah]) ?_⟩
  rfl
 ·(repeat (first | refine xT ?_ | refine xL ?_ | refine xN ?_ | refine xo ?_ | refine xp ?_ | (refine θ ?_; try dsimp only [ο, μ, η, ξ, ι, nth, κ, u1, u2, v1, v2, v3, v4, v5, v6, v7, ε, u3, u4, δ, γ, ζ]) | refine qq ?_ | refine π ?_ | refine ς (v := true) rfl (fun _ => ?_) (fun h => by cases h) | refine ς (v := false) rfl (fun h => by cases h) (fun _ => ?_) | refine Γ ?_ | refine ω ?_ | simp (disch := omega) only [decide_eq_true, decide_eq_false, cu, cU, ct, cT]));refine υ ⟨rx, _, rfl, aP (by simp) (by simp [ah]) ?_⟩
  rfl
 ·(repeat (first | refine xT ?_ | refine xL ?_ | refine xN ?_ | refine xo ?_ | refine xp ?_ | (refine θ ?_; try dsimp only [ο, μ, η, ξ, ι, nth, κ, u1, u2, v1, v2, v3, v4, v5, v6, v7, ε, u3, u4, δ, γ, ζ]) | refine qq ?_ | refine π ?_ | refine ς (v := true) rfl (fun _ => ?_) (fun h => by cases h) | refine ς (v := false) rfl (fun h => by cases h) (fun _ => ?_) | refine Γ ?_ | refine ω ?_ | simp (disch := omega) only [decide_eq_true, decide_eq_false, cu, cU, ct, cT]));refine υ ⟨rx, _, rfl, aP (by simp) (by simp [ah]) ?_⟩
  rfl
def zJ (c:Nat):Nat:=if c=224 then 160 else if c=237 then 128 else if c=240 then 144 else 128
def Br (c:Nat):Nat:=if c=224 then 191 else if c=237 then 159 else if c=240 then 191 else if c=244 then 143 else 191
theorem B1 (c d : Nat) (st : St) : Ev pv 136 [.int .u8 c, .int .u8 d] st (.bool (decide (zJ c ≤ d ∧ d ≤ Br c))) st := by
 refine Ev.h_ rfl V3 rfl rfl rfl ?_;dsimp only [u3, u4, ε, δ, γ, w1, w2]
 have key : (c = 224 ∧ zJ c = 160 ∧ Br c = 191) ∨ (c = 237 ∧ zJ c = 128 ∧ Br c = 159) ∨ (c = 240 ∧ zJ c = 144 ∧ Br c = 191) ∨ (c = 244 ∧ zJ c = 128 ∧ Br c = 143) ∨ (c ≠ 224 ∧ c ≠ 237 ∧ c ≠ 240 ∧ c ≠ 244 ∧ zJ c = 128 ∧ Br c = 191) := by
  unfold zJ Br
  split
  ·omega
  split
  ·omega
  split
  ·omega
  split
  ·omega
  ·omega
 have XI : d < zJ c ∨ (zJ c ≤ d ∧ Br c < d) ∨ (zJ c ≤ d ∧ d ≤ Br c) := by omega
 generalize zJ c = lo at *;generalize Br c = hi at *
 rcases key with ⟨h, rfl, rfl⟩ | ⟨h, rfl, rfl⟩ | ⟨h, rfl, rfl⟩ | ⟨h, rfl, rfl⟩ | ⟨h1, h2, h3, h4, rfl, rfl⟩ <;> rcases XI with k | ⟨k1, k2⟩ | ⟨k1, k2⟩
 all_goals
  (repeat (first | refine xT ?_ | refine xL ?_ | refine xN ?_ | refine xo ?_ | refine xp ?_ | (refine θ ?_; try dsimp only [ο, μ, η, ξ, ι, nth, κ, u1, u2, v1, v2, v3, v4, v5, v6, v7, ε, u3, u4, δ, γ, ζ]) | refine qq ?_ | refine π ?_ | refine ς (v := true) rfl (fun _ => ?_) (fun h => by cases h) | refine ς (v := false) rfl (fun h => by cases h) (fun _ => ?_) | refine Γ ?_ | refine ω ?_ | simp (disch := omega) only [decide_eq_true, decide_eq_false, cu, cU, ct, cT]));refine υ ⟨rx, _, rfl, aP (by simp) (by simp [ah]) ?_⟩;simp (disch := omega) only [decide_eq_true, decide_eq_false]
  rfl
def kX (c i y:Nat):Bool:=if i=1 then decide (zJ c≤y∧y≤Br c) else decide (128≤y∧y≤191)
def iC (c:Nat):(left i:Nat)→List UInt8→Bool
 |0,_,_=>true
 |_+1,_,[]=>true
 |left+1,i,y::ys=>kX c i y.toNat &&iC c left (i+1) ys
def dh:List UInt8→Nat×Nat
 |[]=>(0,0)
 |c::xs=>if du c.toNat=0 then(0,0) else if iC c.toNat (du c.toNat-1) 1 xs=true then(if xs.length+1<du c.toNat then(xs.length+1,du c.toNat) else(du c.toNat,du c.toNat)) else(0,0)
theorem rU (c:Nat):du c≤4:=by
 unfold du
 repeat' split
 all_goals omega
theorem MZ (hb:Bytes st x b) (hlen:b.length≤1048576):Ev pv 117 [x] st (.tup [.int .i64 ((dh b).1:Nat),.int .i64 ((dh b).2:Nat)]) st:=by
 refine Ev.h_ rfl Wc rfl rfl rfl ?_;dsimp only[u3,u4,ε,δ,γ,w1,w2];have hb:=hb.enter .ro;have hbl:=bI b;refine qy ?_;(repeat refine qq ?_);(generalize hK:bj _ _ _ _=K);refine π ?_;(repeat(refine xL ?_));refine θ ?_;dsimp only[ο,μ,η,ξ,ι,nth,κ,u1,u2,v1,v2,v3,v4,v5,v6,v7,ε,u3,u4,δ,γ,ζ];subst hK;refine qy ?_;(repeat refine qq ?_);(generalize hK:bj _ _ _ _=K);refine π ?_
 (refine xT ?_)
 refine QZ rfl rfl rfl hb rfl ?_
 (refine xT ?_)
 (refine xT ?_)
 rw[hbl]
 cases b with
 |nil=>
  (repeat(first|refine xT ?_|refine xo ?_));refine θ ?_;dsimp only[ο,μ,η,ξ,ι,nth,κ,u1,u2,v1,v2,v3,v4,v5,v6,v7,ε,u3,u4,δ,γ,ζ];subst hK;refine qy ?_;refine ς (v:=true) rfl (fun _=>?_) (fun h=>by cases h);refine qy ?_;(repeat refine qq ?_);(generalize hK:bj _ _ _ _=K);refine π ?_;(repeat(refine xL ?_));refine θ ?_;dsimp only[ο,μ,η,ξ,ι,nth,κ,u1,u2,v1,v2,v3,v4,v5,v6,v7,ε,u3,u4,δ,γ,ζ];subst hK;refine qy ?_;refine υ ⟨rx,_,rfl,aP (by simp) (by simp[ah]) ?_⟩
  rfl
 |cons c xs=>
 simp only[Ξ] at hlen hbl;have hc:=AL c;simp only[Ξ];simp(disch:=omega) only[decide_eq_true,decide_eq_false,cu,cU,ct,cT]
 (refine xT ?_)
 refine QG rfl rfl rfl (fun _=>rfl) rfl rfl hb rfl rfl (by omega) (i:=0) (r:=[.int .u8 (c.toNat:Nat)]) rfl rfl (fun p=>?_);refine QC rfl rfl rfl (Bb _ _) ?_;(repeat(refine xT ?_));refine θ ?_;dsimp only[ο,μ,η,ξ,ι,nth,κ,u1,u2,v1,v2,v3,v4,v5,v6,v7,ε,u3,u4,δ,γ,ζ];subst hK;refine qy ?_;(repeat refine qq ?_);refine qc (fun h1=>?_) (fun h1=>?_)<;>try simp only[cs] at h1
 ·(refine qy ?_);(repeat refine qq ?_);(generalize hK:bj _ _ _ _=K);refine π ?_;(repeat(refine xL ?_));refine θ ?_;dsimp only[ο,μ,η,ξ,ι,nth,κ,u1,u2,v1,v2,v3,v4,v5,v6,v7,ε,u3,u4,δ,γ,ζ];subst hK;refine qy ?_;refine υ ⟨rx,_,rfl,aP (by simp) (by simp[ah]) ?_⟩;rw[show dh (c::xs)=(0,0) by simp only[dh];rw[if_pos (by omega)]];rfl
 have Dg:=rU c.toNat;refine Γ ?_;refine qy ?_;(repeat refine qq ?_);(generalize hK:bj _ _ _ _=K);refine π ?_
 (refine xT ?_)
 refine QG rfl rfl rfl (fun _=>rfl) rfl rfl hb rfl rfl (by omega) (i:=0) (r:=[.int .u8 (c.toNat:Nat)]) rfl rfl (fun p=>?_);refine QC rfl rfl rfl (Bb _ _) ?_;(repeat(refine xL ?_));refine θ ?_;dsimp only[ο,μ,η,ξ,ι,nth,κ,u1,u2,v1,v2,v3,v4,v5,v6,v7,ε,u3,u4,δ,γ,ζ];subst hK;refine qy ?_;(repeat refine qq ?_);(generalize hK:bj _ _ _ _=K);refine π ?_;(repeat(refine xL ?_));refine θ ?_;dsimp only[ο,μ,η,ξ,ι,nth,κ,u1,u2,v1,v2,v3,v4,v5,v6,v7,ε,u3,u4,δ,γ,ζ];subst hK;refine qy ?_;(repeat refine qq ?_);refine ω ?_;generalize hn:du c.toNat=n at*;refine QH (fun j fr ai=>∃(i:Nat),fr.clean=⟨6,[x,.tup [],.int .i64 0,.int .i64 0,.int .i64 (n:Nat),.int .i64 (i:Nat)],[]⟩∧ai=ah .ro st∧1≤i∧i+j=n∧iC c.toNat j i (xs.drop (i-1))=iC c.toNat (n-1) 1 xs∧i≤xs.length+1) (n-1) ⟨1,rfl,rfl,by omega,by omega,rfl,by omega⟩ ?_;rintro j fr ai ⟨i,hfr,rfl,Th,hij,hS,hix⟩;rw[hfr]
 have fin:(n≤i∨xs.length+1≤i)→dh (c::xs)=if xs.length+1<n then(xs.length+1,n) else(n,n):=by
  intro h
  have ht:iC c.toNat (n-1) 1 xs=true:=by
   rw[←hS]
   rcases h with h|h
   ·have:j=0:=by omega
    subst this;rfl
   ·have:xs.drop (i-1)=[]:=Ψ (by omega);rw[this];cases j<;>rfl
  simp only[dh,hn];rw[if_neg (by omega),if_pos ht]
 by_cases h4:i<n
 ·by_cases h5:i<xs.length+1
  ·(refine qy ?_);(repeat refine qq ?_);(generalize hK:bj _ _ _ _=K);refine π ?_
   (refine xT ?_)
   (refine xT ?_)
   (refine xT ?_)
   simp(disch:=omega) only[decide_eq_true,decide_eq_false,cu,cU,ct,cT]
   (refine xT ?_)
   (refine xT ?_)
   (refine xT ?_)
   refine QZ rfl rfl rfl hb rfl ?_;rw[hbl];(repeat(first|refine xT ?_|simp(disch:=omega) only[decide_eq_true,decide_eq_false,cu,cU,ct,cT]));refine θ ?_;dsimp only[ο,μ,η,ξ,ι,nth,κ,u1,u2,v1,v2,v3,v4,v5,v6,v7,ε,u3,u4,δ,γ,ζ];subst hK;refine qy ?_;refine ς (v:=true) rfl (fun _=>?_) (fun h=>by cases h);refine Γ ?_;refine qy ?_;(repeat refine qq ?_);refine ω ?_
   obtain⟨j,rfl⟩:∃l,j=l+1:=⟨j-1,by omega⟩
   obtain⟨y,ys,xW⟩:∃y ys,xs.drop (i-1)=y::ys:=by
    cases h:xs.drop (i-1) with
    |nil=>have:=congrArg ε h;simp at this;omega
    |cons y ys=>exact⟨y,ys,rfl⟩
   have hy:(c::xs)[i]?=some y:=by
    obtain⟨i,rfl⟩:∃i',i=i'+1:=⟨i-1,by omega⟩
    have:=congrArg (fun l=>l[0]?) xW
    simpa using this
   have kU:xs.drop (i+1-1)=ys:=by
    have:=congrArg (fun l=>l.drop 1) xW;simp only[List.drop_drop,QB,Qw] at this;rw[←this];congr 1;omega
   have S8:=jM hy;have hyb:=AL y;rw[xW] at hS;simp only[iC] at hS;generalize W4:bj _ _ _ _=K0
   have step:kX c.toNat i y.toNat=true→∀m,K0 .next ⟨6,[x,.tup [],.int .i64 0,.int .i64 0,.int .i64 (n:Nat),.int .i64 (i:Nat)],m⟩ (ah .ro st):=by
    intro hg m;subst W4;refine qy ?_;(repeat refine qq ?_);(generalize hK:bj _ _ _ _=K);refine π ?_;(repeat(first|refine xT ?_|refine xL ?_));refine θ ?_;dsimp only[ο,μ,η,ξ,ι,nth,κ,u1,u2,v1,v2,v3,v4,v5,v6,v7,ε,u3,u4,δ,γ,ζ];subst hK;rw[wrap_i64 (by omega) (by omega)];rw[hg,Bool.true_and] at hS;exact⟨j,by omega,i+1,rfl,rfl,by omega,by omega,by rw[kU];exact hS,by omega⟩
   by_cases wH:i=1
   ·subst wH;have hx0:xs=y::ys:=xW;subst hx0;refine qy ?_;(repeat refine qq ?_);(generalize hK:bj _ _ _ _=K);refine π ?_
    (refine xT ?_)
    (refine xT ?_)
    (refine xT ?_)
    (refine xT ?_)
    refine QG rfl rfl rfl (fun _=>rfl) rfl rfl hb rfl rfl (by omega) (i:=0) (r:=[.int .u8 (c.toNat:Nat)]) rfl rfl (fun p=>?_)
    (refine xT ?_)
    refine QG rfl rfl rfl (fun _=>rfl) rfl rfl hb rfl rfl (by omega) (i:=1) (r:=[.int .u8 (y.toNat:Nat)]) rfl rfl (fun p=>?_);refine QC rfl rfl rfl (B1 _ _ _) ?_
    by_cases hg:zJ c.toNat≤y.toNat∧y.toNat≤Br c.toNat
    ·rw[decide_eq_true hg];(repeat(first|refine xT ?_|refine xo ?_));refine θ ?_;dsimp only[ο,μ,η,ξ,ι,nth,κ,u1,u2,v1,v2,v3,v4,v5,v6,v7,ε,u3,u4,δ,γ,ζ];subst hK;refine qy ?_;refine ς (v:=false) rfl (fun h=>by cases h) fun _=>Γ ?_;exact step (by unfold kX;rw[if_pos rfl,decide_eq_true hg]) _
    ·rw[decide_eq_false hg];(repeat(first|refine xT ?_|refine xo ?_));refine θ ?_;dsimp only[ο,μ,η,ξ,ι,nth,κ,u1,u2,v1,v2,v3,v4,v5,v6,v7,ε,u3,u4,δ,γ,ζ];subst hK;refine qy ?_;refine ς (v:=true) rfl (fun _=>?_) (fun h=>by cases h);refine qy ?_;(repeat refine qq ?_);(generalize hK:bj _ _ _ _=K);refine π ?_;(repeat(refine xL ?_));refine θ ?_;dsimp only[ο,μ,η,ξ,ι,nth,κ,u1,u2,v1,v2,v3,v4,v5,v6,v7,ε,u3,u4,δ,γ,ζ];subst hK;refine qy ?_;subst W4;refine υ ⟨rx,_,rfl,aP (by simp) (by simp[ah]) ?_⟩;have:iC c.toNat (n-1) 1 (y::ys)=false:=by rw[←hS];unfold kX;rw[if_pos rfl,decide_eq_false hg];rfl
     rw[show dh (c::y::ys)=(0,0) by simp only[dh,hn];rw[if_neg (by omega),this];rfl];rfl
   ·(refine qy ?_);(repeat refine qq ?_);(generalize hK:bj _ _ _ _=K);refine π ?_
    (refine xT ?_)
    (refine xT ?_)
    simp(disch:=omega) only[decide_eq_true,decide_eq_false,cu,cU,ct,cT]
    (refine xT ?_)
    (refine xo ?_)
    (refine xo ?_)
    (refine xo ?_)
    (refine xo ?_)
    (refine xo ?_)
    (refine xo ?_)
    (refine xo ?_)
    (refine xo ?_)
    (refine xT ?_)
    (refine xT ?_)
    (refine xT ?_)
    (refine xT ?_)
    simp(disch:=omega) only[decide_eq_true,decide_eq_false,cu,cU,ct,cT]
    (refine xT ?_)
    (refine xT ?_)
    (refine xT ?_)
    refine QG rfl rfl rfl (fun _=>rfl) rfl rfl hb rfl rfl (by omega) S8 rfl (fun p=>?_)
    by_cases wF:y.toNat<128
    ·(repeat(first|refine xT ?_|refine xo ?_|simp(disch:=omega) only[decide_eq_true,decide_eq_false,cu,cU,ct,cT]));refine θ ?_;dsimp only[ο,μ,η,ξ,ι,nth,κ,u1,u2,v1,v2,v3,v4,v5,v6,v7,ε,u3,u4,δ,γ,ζ];subst hK;refine qy ?_;refine ς (v:=true) rfl (fun _=>?_) (fun h=>by cases h);refine qy ?_;(repeat refine qq ?_);(generalize hK:bj _ _ _ _=K);refine π ?_;(repeat(refine xL ?_));refine θ ?_;dsimp only[ο,μ,η,ξ,ι,nth,κ,u1,u2,v1,v2,v3,v4,v5,v6,v7,ε,u3,u4,δ,γ,ζ];subst hK;refine qy ?_;subst W4;refine υ ⟨rx,_,rfl,aP (by simp) (by simp[ah]) ?_⟩;have hf:kX c.toNat i y.toNat=false:=by unfold kX;rw[if_neg wH,decide_eq_false (by omega)]
     have:iC c.toNat (n-1) 1 xs=false:=by rw[←hS,hf];rfl
     rw[show dh (c::xs)=(0,0) by simp only[dh,hn];rw[if_neg (by omega),this];rfl];rfl
    ·(refine xT ?_)
     simp(disch:=omega) only[decide_eq_true,decide_eq_false,cu,cU,ct,cT]
     (refine xT ?_)
     (refine xT ?_)
     (refine xT ?_)
     refine QG rfl rfl rfl (fun _=>rfl) rfl rfl hb rfl rfl (by omega) S8 rfl (fun p=>?_)
     by_cases Bs:191<y.toNat
     ·(repeat(first|refine xT ?_|simp(disch:=omega) only[decide_eq_true,decide_eq_false,cu,cU,ct,cT]));refine θ ?_;dsimp only[ο,μ,η,ξ,ι,nth,κ,u1,u2,v1,v2,v3,v4,v5,v6,v7,ε,u3,u4,δ,γ,ζ];subst hK;refine qy ?_;refine ς (v:=true) rfl (fun _=>?_) (fun h=>by cases h);refine qy ?_;(repeat refine qq ?_);(generalize hK:bj _ _ _ _=K);refine π ?_;(repeat(refine xL ?_));refine θ ?_;dsimp only[ο,μ,η,ξ,ι,nth,κ,u1,u2,v1,v2,v3,v4,v5,v6,v7,ε,u3,u4,δ,γ,ζ];subst hK;refine qy ?_;subst W4;refine υ ⟨rx,_,rfl,aP (by simp) (by simp[ah]) ?_⟩;have hf:kX c.toNat i y.toNat=false:=by unfold kX;rw[if_neg wH,decide_eq_false (by omega)]
      have:iC c.toNat (n-1) 1 xs=false:=by rw[←hS,hf];rfl
      rw[show dh (c::xs)=(0,0) by simp only[dh,hn];rw[if_neg (by omega),this];rfl];rfl
     ·(repeat(first|refine xT ?_|simp(disch:=omega) only[decide_eq_true,decide_eq_false,cu,cU,ct,cT]));refine θ ?_;dsimp only[ο,μ,η,ξ,ι,nth,κ,u1,u2,v1,v2,v3,v4,v5,v6,v7,ε,u3,u4,δ,γ,ζ];subst hK;refine qy ?_;refine ς (v:=false) rfl (fun h=>by cases h) fun _=>Γ ?_;exact step (by unfold kX;rw[if_neg wH,decide_eq_true (by omega)]) _
  ·(refine qy ?_);(repeat refine qq ?_);(generalize hK:bj _ _ _ _=K);refine π ?_
   (refine xT ?_)
   (refine xT ?_)
   (refine xT ?_)
   simp(disch:=omega) only[decide_eq_true,decide_eq_false,cu,cU,ct,cT]
   (refine xT ?_)
   (refine xT ?_)
   (refine xT ?_)
   refine QZ rfl rfl rfl hb rfl ?_;rw[hbl];(repeat(first|refine xT ?_|simp(disch:=omega) only[decide_eq_true,decide_eq_false,cu,cU,ct,cT]));refine θ ?_;dsimp only[ο,μ,η,ξ,ι,nth,κ,u1,u2,v1,v2,v3,v4,v5,v6,v7,ε,u3,u4,δ,γ,ζ];subst hK;refine qy ?_;refine ς (v:=false) rfl (fun h=>by cases h) fun _=>QY ?_;rw[fin (by omega)];refine qy ?_;(repeat refine qq ?_);(generalize hK:bj _ _ _ _=K);refine π ?_
   (refine xT ?_)
   refine QZ rfl rfl rfl hb rfl ?_;rw[hbl];(repeat(refine xT ?_));refine θ ?_;dsimp only[ο,μ,η,ξ,ι,nth,κ,u1,u2,v1,v2,v3,v4,v5,v6,v7,ε,u3,u4,δ,γ,ζ];subst hK;refine qy ?_;refine ς (v:=true) (by dsimp only[ξ,ι,κ];rw[decide_eq_true (by omega)]) (fun _=>?_) (fun h=>by cases h);refine qy ?_;(repeat refine qq ?_);(generalize hK:bj _ _ _ _=K);refine π ?_
   (refine xT ?_)
   refine QZ rfl rfl rfl hb rfl ?_;rw[hbl];(repeat(first|refine xT ?_|refine xL ?_));refine θ ?_;dsimp only[ο,μ,η,ξ,ι,nth,κ,u1,u2,v1,v2,v3,v4,v5,v6,v7,ε,u3,u4,δ,γ,ζ];subst hK;refine qy ?_;refine υ ⟨rx,_,rfl,aP (by simp) (by simp[ah]) ?_⟩;rw[if_pos (by omega)];rfl
 ·(refine qy ?_);(repeat refine qq ?_);(generalize hK:bj _ _ _ _=K);refine π ?_
  (refine xT ?_)
  (refine xT ?_)
  (refine xT ?_)
  (repeat(first|refine xT ?_|refine xo ?_|simp(disch:=omega) only[decide_eq_true,decide_eq_false,cu,cU,ct,cT]));refine θ ?_;dsimp only[ο,μ,η,ξ,ι,nth,κ,u1,u2,v1,v2,v3,v4,v5,v6,v7,ε,u3,u4,δ,γ,ζ];subst hK;refine qy ?_;refine ς (v:=false) rfl (fun h=>by cases h) fun _=>QY ?_;rw[fin (by omega)];refine qy ?_;(repeat refine qq ?_);(generalize hK:bj _ _ _ _=K);refine π ?_
  (refine xT ?_)
  refine QZ rfl rfl rfl hb rfl ?_;rw[hbl];(repeat(refine xT ?_));refine θ ?_;dsimp only[ο,μ,η,ξ,ι,nth,κ,u1,u2,v1,v2,v3,v4,v5,v6,v7,ε,u3,u4,δ,γ,ζ];subst hK;refine qy ?_;(repeat refine qq ?_);refine qc (fun h9=>?_) (fun h9=>?_)<;>try simp only[cs] at h9
  ·(refine qy ?_);(repeat refine qq ?_);(generalize hK:bj _ _ _ _=K);refine π ?_
   (refine xT ?_)
   refine QZ rfl rfl rfl hb rfl ?_;rw[hbl];(repeat(first|refine xT ?_|refine xL ?_));refine θ ?_;dsimp only[ο,μ,η,ξ,ι,nth,κ,u1,u2,v1,v2,v3,v4,v5,v6,v7,ε,u3,u4,δ,γ,ζ];subst hK;refine qy ?_;refine υ ⟨rx,_,rfl,aP (by simp) (by simp[ah]) ?_⟩;rw[if_pos (by omega)];rfl
  ·refine Γ ?_;refine qy ?_;(repeat refine qq ?_);(generalize hK:bj _ _ _ _=K);refine π ?_;(repeat(first|refine xT ?_|refine xL ?_));refine θ ?_;dsimp only[ο,μ,η,ξ,ι,nth,κ,u1,u2,v1,v2,v3,v4,v5,v6,v7,ε,u3,u4,δ,γ,ζ];subst hK;refine qy ?_;refine υ ⟨rx,_,rfl,aP (by simp) (by simp[ah]) ?_⟩;rw[if_neg (by omega)];rfl
/- the plain law: the two ways to look at the first rune -/
theorem Cl (c:Nat):(du c=0∧(cn c).1=-1)∨(du c=1∧(cn c).1=0)∨(2≤du c∧(cn c).1=(du c:Int)-1∧(cn c).2.1=zJ c∧(cn c).2.2=Br c):=by
 unfold du cn zJ Br
 by_cases h1:c<128
 ·simp[h1]
 by_cases h2:c<194
 ·simp[h1,h2]
 by_cases h0:245≤c
 ·left;rw[if_neg (by omega),if_neg (by omega),if_neg (by omega),if_neg (by omega),if_neg (by omega),if_neg (by omega),if_neg (by omega),if_neg (by omega),if_neg (by omega),if_neg (by omega),if_neg (by omega),if_neg (by omega),if_neg (by omega),if_neg (by omega)];simp
 right;right
 by_cases h3:c<224
 ·simp only[h1,h2,h3,if_true,if_false];rw[if_neg (by omega),if_neg (by omega),if_neg (by omega),if_neg (by omega),if_neg (by omega),if_neg (by omega),if_neg (by omega)];simp
 by_cases h4:c=224
 ·subst h4;simp
 by_cases h5:c=237
 ·subst h5;simp
 by_cases h6:c<240
 ·simp only[h1,h2,h3,h4,h5,h6,if_true,if_false];rw[if_neg (by omega),if_neg (by omega),if_neg (by omega)];simp
 by_cases h7:c=240
 ·subst h7;simp
 by_cases h8:c<244
 ·simp only[h1,h2,h3,h4,h5,h6,h7,h8,if_true,if_false];rw[if_pos (by omega),if_neg (by omega)];simp
 by_cases h9:c=244
 ·subst h9;simp
 omega
def sO (r:Nat):Nat→List UInt8→Nat
 |0,_=>r
 |_+1,[]=>r
 |left+1,y::ys=>sO (r*64+y.toNat %64) left ys
theorem tY (c n:Nat):∀(left i r lo hi:Nat) (xs:List UInt8),1≤i→(∀y,kX c i y=(decide (lo≤y∧y≤hi)))→
  gN left n r lo hi xs=if iC c left i xs=true then(if xs.length<left then(0,0,true) else(sO r left xs,n,false)) else(0,0,false)
 |0,i,r,lo,hi,xs,_,_=>by simp[gN,iC,sO]
 |left+1,i,r,lo,hi,[],_,_=>by simp[gN,iC]
 |left+1,i,r,lo,hi,y::ys,Th,hg=>by
  simp only[gN,iC,hg,sO]
  by_cases hb:lo≤y.toNat∧y.toNat≤hi
  ·rw[if_neg (by omega),decide_eq_true hb,Bool.true_and];rw[tY c n left (i+1) _ 128 191 ys (by omega) (fun z=>by unfold kX;rw[if_neg (by omega)])];simp only[Ξ,Nat.add_lt_add_iff_right]
  ·rw[if_pos (by omega),decide_eq_false hb];simp
def rm (c n:Nat):Nat:=if n≤1 then c else c %(64/2^(n-1))
theorem CM (c:UInt8) (xs:List UInt8):dN (c::xs)=if du c.toNat=0 then(0,0,false) else if iC c.toNat (du c.toNat-1) 1 xs=true then(if xs.length<du c.toNat-1 then(0,0,true) else(sO (rm c.toNat (du c.toNat)) (du c.toNat-1) xs,du c.toNat,false)) else(0,0,false):=by
 simp only[dN]
 rcases Cl c.toNat with⟨h1,h2⟩|⟨h1,h2⟩|⟨h1,h2,h3,h4⟩
 ·rw[h1,h2];simp
 ·rw[h1,h2];simp[gN,iC,sO,rm]
 ·have hk:(cn c.toNat).1.toNat=du c.toNat-1:=by omega
  rw[if_neg (show¬(cn c.toNat).1<0 by omega),if_neg (show¬du c.toNat=0 by omega),if_pos (show(cn c.toNat).1>0 by omega),hk,h3,h4];rw[tY c.toNat _ _ 1 _ _ _ _ (by omega) (fun y=>by unfold kX;rw[if_pos rfl])];have:du c.toNat-1+1=du c.toNat:=by omega
  rw[this];have h5:rm c.toNat (du c.toNat)=c.toNat %(64/2^(du c.toNat-1)):=by unfold rm;rw[if_neg (by omega)]
  rw[h5]
def cF (b:List UInt8):Bool:=(dN b).2.2
theorem sP (b:List UInt8):(cF b=true↔(0<(dh b).1∧(dh b).1<(dh b).2∧(dh b).1=b.length))∧
  (((dh b).1=0∨(dh b).1<(dh b).2)→iK b=(65533,1))∧
  (¬((dh b).1=0∨(dh b).1<(dh b).2)→∃c xs,b=c::xs∧1≤(dh b).2∧(dh b).2≤4∧(dh b).2-1≤xs.length∧iK b=(sO (rm c.toNat (dh b).2) ((dh b).2-1) xs,(dh b).2)):=by
 cases b with
 |nil=>simp[cF,dN,dh,iK]
 |cons c xs=>
  have hn:=rU c.toNat;simp only[cF,iK,CM,dh]
  by_cases h1:du c.toNat=0
  ·simp[h1]
  rw[if_neg h1,if_neg h1]
  by_cases h2:iC c.toNat (du c.toNat-1) 1 xs=true
  ·rw[if_pos h2,if_pos h2]
   by_cases h3:xs.length+1<du c.toNat
   ·rw[if_pos (by omega),if_pos h3];simp<;>omega
   ·rw[if_neg (by omega),if_neg h3];refine⟨by simp<;>omega,by simp<;>omega,fun _=>⟨c,xs,rfl,by simp only;omega,by simp only;omega,by simp only;omega,?_⟩⟩;simp only;rw[if_neg h1]
  ·rw[if_neg h2,if_neg h2];simp
theorem B3 {y:D} (hx:Bytes st x l) (hy:Bytes st y l) (hl:l.length<4611686018427387904):Ev pv 73 [x,y] st (.bool true) st:=by
 refine Ev.h_ rfl ZH rfl rfl rfl ?_;dsimp only[u3,u4,ε,δ,γ,w1,w2];have hx:=hx.enter .ro;have hy:=hy.enter .ro;have hlen:(byteCells l).length=l.length:=bI l;refine qy ?_;(repeat refine qq ?_);(generalize hK:bj _ _ _ _=K);refine π ?_;(repeat(refine xL ?_));refine θ ?_;dsimp only[ο,μ,η,ξ,ι,nth,κ,u1,u2,v1,v2,v3,v4,v5,v6,v7,ε,u3,u4,δ,γ,ζ];subst hK;refine qy ?_;(repeat refine qq ?_);(generalize hK:bj _ _ _ _=K);refine π ?_
 (refine xT ?_)
 refine QZ rfl rfl rfl hx rfl ?_
 (refine xT ?_)
 refine QZ rfl rfl rfl hy rfl ?_;(repeat(refine xT ?_));refine θ ?_;dsimp only[ο,μ,η,ξ,ι,nth,κ,u1,u2,v1,v2,v3,v4,v5,v6,v7,ε,u3,u4,δ,γ,ζ];subst hK;refine qy ?_;(repeat refine qq ?_);refine qc (fun h1=>?_) (fun h1=>?_)<;>try simp only[cs] at h1
 ·exact absurd trivial h1
 refine Γ ?_;refine qy ?_;(repeat refine qq ?_);(generalize hK:bj _ _ _ _=K);refine π ?_;(repeat(refine xL ?_));refine θ ?_;dsimp only[ο,μ,η,ξ,ι,nth,κ,u1,u2,v1,v2,v3,v4,v5,v6,v7,ε,u3,u4,δ,γ,ζ];subst hK;refine qy ?_;(repeat refine qq ?_);refine ω<|QH (fun j fr ai=>∃i:Nat,fr.clean=⟨6,[x,y,.tup [],.tup [],.bool false,.int .i64 (i:Nat)],[]⟩∧ai=ah .ro st∧i+j=l.length) l.length ⟨0,rfl,rfl,by omega⟩ ?_;rintro j fr ai ⟨i,hfr,rfl,hij⟩;rw[hfr];refine qy ?_;(repeat refine qq ?_);(generalize hK:bj _ _ _ _=K);refine π ?_
 (refine xT ?_)
 (refine xT ?_)
 refine QZ rfl rfl rfl hx rfl ?_;(repeat(refine xT ?_));refine θ ?_;dsimp only[ο,μ,η,ξ,ι,nth,κ,u1,u2,v1,v2,v3,v4,v5,v6,v7,ε,u3,u4,δ,γ,ζ];subst hK;refine qy ?_;rw[hlen];refine qy ?_;(repeat refine qq ?_);refine qc (fun h2=>?_) (fun h2=>?_)<;>try simp only[cs] at h2
 ·refine Γ ?_;refine qy ?_
  obtain⟨g,hg⟩:∃g,l[i]?=some g:=⟨l[i]'(by omega),Φ _⟩
  have hr:=jM hg;refine qy ?_;(repeat refine qq ?_);refine ω ?_;refine qy ?_;(repeat refine qq ?_);(generalize hK:bj _ _ _ _=K);refine π ?_
  (refine xT ?_)
  (refine xT ?_)
  refine QG rfl rfl rfl (fun _=>rfl) rfl rfl hx rfl rfl (by omega) hr rfl (fun p=>?_)
  (refine xT ?_)
  (refine xT ?_)
  refine QG rfl rfl rfl (fun _=>rfl) rfl rfl hy rfl rfl (by omega) hr rfl (fun p=>?_);(repeat(refine xT ?_));refine θ ?_;dsimp only[ο,μ,η,ξ,ι,nth,κ,u1,u2,v1,v2,v3,v4,v5,v6,v7,ε,u3,u4,δ,γ,ζ];subst hK;refine qy ?_;(repeat refine qq ?_);refine qc (fun h3=>?_) (fun h3=>?_)<;>try simp only[cs] at h3
  ·exact absurd trivial h3
  refine Γ ?_;refine qy ?_;(repeat refine qq ?_);(generalize hK:bj _ _ _ _=K);refine π ?_;(repeat(first|refine xT ?_|refine xL ?_));refine θ ?_;dsimp only[ο,μ,η,ξ,ι,nth,κ,u1,u2,v1,v2,v3,v4,v5,v6,v7,ε,u3,u4,δ,γ,ζ];subst hK;rw[wrap_i64 (by omega) (by omega)];exact⟨j-1,by omega,i+1,rfl,rfl,by omega⟩
 ·refine QY ?_;refine qy ?_;(repeat refine qq ?_);(generalize hK:bj _ _ _ _=K);refine π ?_;(repeat(refine xL ?_));refine θ ?_;dsimp only[ο,μ,η,ξ,ι,nth,κ,u1,u2,v1,v2,v3,v4,v5,v6,v7,ε,u3,u4,δ,γ,ζ];subst hK;refine qy ?_;refine υ ⟨rx,_,rfl,aP (by simp) (by simp[ah]) ?_⟩
  rfl
def je (b:List UInt8):D:=.sl ((byteCells b).map (jR 1))
theorem mI (b:List UInt8):∀e∈byteCells b,e.length=1:=by
 intro e he;obtain⟨y,_,rfl⟩:=QV.1 he;rfl
theorem fT (b:List UInt8):∀e∈byteCells b,∀d∈e,cv d=true:=by
 intro e he d hd;obtain⟨y,_,rfl⟩:=QV.1 he;simp only[QN,List.not_mem_nil,or_false] at hd;subst hd;rfl
theorem C3 (st:St) (b:List UInt8):Bytes st (je b) b:=Rows.nF (mI b) (fT b)
def nf (y:UInt8):D:=.int .u8 (y.toNat:Nat)
theorem gF (b:List UInt8):(byteCells b).flatten=b.map nf:=by
 induction b with
 |nil=>rfl
 |cons y b ih=>simp only[byteCells,QK,List.flatten_cons] at ih⊢;rw[ih];rfl
def fG (h j:List UInt8):List D:=(h++j).map nf++[.int .i64 (h.length:Nat)]
theorem Ft (hl:(h++j).length=4):(fG h j).length=5:=by simp[fG] at hl⊢;omega
theorem CU (hl:(h++j).length=4):(fG h j).drop 4=[.int .i64 (h.length:Nat)]:=by
 unfold fG;have:((h++j).map nf).length=4:=by rw[ν,hl]
 rw[←this,Qy]
theorem CZ {ar:Bool} {rest:List D} (hm:st.bs[k]?=some (.mem v ar (b.map nf++rest))) {l r:Nat} (yg:l≤r) (hr:r≤b.length):Bytes st (.win k v l (r-l) 1) ((b.take r).drop l):=by
 have hlen:((b.take r).drop l).length=r-l:=by simp;omega
 have:=Rows.win (st:=st) (s:=1) k v l (byteCells ((b.take r).drop l)) ar (b.map nf++rest) (St.mem_of hm) (by rw[bI,hlen];simp;omega) fun i e hi=>by
  simp only[byteCells,Ω] at hi;obtain⟨y,hy,rfl⟩:=Option.map_eq_some_iff.1 hi;rw[List.getElem?_drop,List.getElem?_take] at hy
  split at hy
  ·rename_i hlt;have hb:b[l+i*1]?=some y:=by rw[QD];exact hy
   have h2:(b.map nf++rest)[l+i*1]?=some (nf y):=by
    rw[ρ (by rw[ν];omega),Ω,hb];rfl
   rw[List.take_one,List.head?_drop,h2];rfl
  ·cases hy
 rw[bI,hlen] at this;exact this
theorem AE {s:Nat} {es:List (List D)} (hk:k<N) (h:V.Acc N st s x es) (bx:iI):V.Acc N ⟨st.bs.set k bx,st.flr,st.ro⟩ s x es:=by
 cases h with
 |nul=>exact .nul
 |win k2 Xb es hN2 MF he=>exact .win k2 Xb _ hN2 (by simp only;rw[List.getElem?_set_ne (by omega)];exact MF) he
theorem Bt (hm:st.bs[k]?=some (.mem v false (fG h j))) (hl:(h++j).length=4) (eT:st.ro≤st.bs.length):Ev pv 77 [.ptr k v 0] st (je h) st:=by
 refine Ev.h_ rfl ZF rfl rfl rfl ?_;dsimp only[u3,u4,ε,δ,γ,w1,w2];have kW:(ah .rw st).bs[k]?=some (.mem v false (fG h j)):=hm;have o7:=hl;rw[τ] at o7;have hcl:=Ft hl;have tA:=CU hl;have Us:=CZ (st:=ah .rw st) (l:=0) (r:=h.length) kW (Nat.zero_le _) (by rw[hl];omega);rw[QL,Qw] at Us;refine qy ?_;(repeat refine qq ?_);(generalize hK:bj _ _ _ _=K);refine π ?_;(repeat(refine xL ?_));refine θ ?_;dsimp only[ο,μ,η,ξ,ι,nth,κ,u1,u2,v1,v2,v3,v4,v5,v6,v7,ε,u3,u4,δ,γ,ζ];subst hK;refine qy ?_;(repeat refine qq ?_);(generalize hK:bj _ _ _ _=K);refine π ?_
 (refine xT ?_)
 (refine xT ?_)
 (refine xT ?_)
 (refine xT ?_)
 (refine xT ?_)
 (refine xT ?_)
 refine QT (k:=k) (aG:=v) (off:=4) rfl rfl rfl kW (d:=.int .i64 (h.length:Nat)) (by rw[tA];rfl)<|QE (l:=0) (r:=h.length) rfl rfl rfl rfl rfl kW (by rw[hcl];decide) ?_ ?_
 ·show dw 4 none (some (.int .i64 (h.length:Nat)))=_;simp only[dw,jY,lX];rw[if_pos ⟨by omega,by omega⟩];rfl
 refine QA (N:=st.bs.length) (x:=.nul) (es:=[]) (y:=.win k v 0 (h.length-0) 1) (ys:=byteCells h) rfl rfl rfl rfl .nul Us rfl rfl rfl rfl rfl rfl rfl (by decide) (ψ _) (ψ _) eT (by rw[bI];show(0+h.length)*1≤_;omega) fun x' st2 tJ hex _ _ _=>?_;rw[Qq] at tJ;(repeat(refine xL ?_));refine θ ?_;dsimp only[ο,μ,η,ξ,ι,nth,κ,u1,u2,v1,v2,v3,v4,v5,v6,v7,ε,u3,u4,δ,γ,ζ];subst hK;refine qy ?_;refine υ ⟨rx,_,rfl,aP (by simp) (hex.take rfl) ?_⟩;exact tJ.freeze (fT h) (n:=15) (by decide)
def iq (n:Nat):List (Nat×Nat):=List.replicate n (65533,1)
theorem SE (hm:st.bs[k]?=some (.mem v false (fG h j))) (hl:(h++j).length=4) (eT:st.ro≤k):
  Ev pv 80 [.ptr k v 0] st (fP (iq h.length)) ⟨st.bs.set k (.mem v false (fG [] (h++j))),st.flr,st.ro⟩:=by
 have iL:k<st.bs.length:=by
  rcases Nat.lt_or_ge k st.bs.length with h'|h'
  ·exact h'
  ·rw[List.getElem?_eq_none h'] at hm;cases hm
 have o7:=hl;rw[τ] at o7;refine Ev.h_ rfl ZD rfl rfl rfl ?_;dsimp only[u3,u4,ε,δ,γ,w1,w2];have v_:((h++j).map nf).length=4:=by rw[ν,hl]
 have z8:∀S:St,S.ro=st.ro→S.jn k 0=true:=fun S hS=>pg (by omega);have Yw:(ah .rw st).bs[k]?=some (.mem v false ((h++j).map nf++[.int .i64 (h.length:Nat)])):=hm;refine qy ?_;(repeat refine qq ?_);(generalize hK:bj _ _ _ _=K);refine π ?_;(repeat(refine xL ?_));refine θ ?_;dsimp only[ο,μ,η,ξ,ι,nth,κ,u1,u2,v1,v2,v3,v4,v5,v6,v7,ε,u3,u4,δ,γ,ζ];subst hK;refine qy ?_;(repeat refine qq ?_);(generalize hK:bj _ _ _ _=K);refine π ?_;(repeat(refine xL ?_));refine θ ?_;dsimp only[ο,μ,η,ξ,ι,nth,κ,u1,u2,v1,v2,v3,v4,v5,v6,v7,ε,u3,u4,δ,γ,ζ];subst hK;refine qy ?_;(repeat refine qq ?_);refine ω<|QH (fun m fr ai=>∃(done:Nat) (out:D),fr.clean=⟨4,[.ptr k v 0,.tup [],.nul,out],[]⟩∧ai.bs[k]?=some (.mem v false ((h++j).map nf++[.int .i64 (m:Nat)]))∧Gb st.bs.length k (ah .rw st) ai∧Acc st.bs.length ai 2 out ((iq done).map bo)∧done+m=h.length) h.length
  ⟨0,.nul,rfl,Yw,⟨fun _ _ _=>rfl,ψ _,rfl,rfl⟩,.nul,by omega⟩ ?_
 rintro m fr ai ⟨done,out,hfr,MG,hx,tJ,hdm⟩;rw[hfr];have hN:st.bs.length≤ai.bs.length:=hx.len;have MQ:ai.flr=st.bs.length:=by rw[hx.flr];rfl
 have Cz:ai.ro=st.ro:=by rw[hx.ro];rfl
 (refine qy ?_);(repeat refine qq ?_);(generalize hK:bj _ _ _ _=K);refine π ?_
 (refine xT ?_)
 (refine xT ?_)
 (refine xT ?_)
 refine QT (k:=k) (aG:=v) (off:=4) rfl rfl rfl MG (d:=.int .i64 (m:Nat)) (by rw[←v_,Qy];rfl) ?_;(repeat(refine xT ?_));refine θ ?_;dsimp only[ο,μ,η,ξ,ι,nth,κ,u1,u2,v1,v2,v3,v4,v5,v6,v7,ε,u3,u4,δ,γ,ζ];subst hK;refine qy ?_;(repeat refine qq ?_);refine qc (fun h1=>?_) (fun h1=>?_)<;>try simp only[cs] at h1
 ·refine Γ ?_;refine qy ?_
  obtain⟨m,rfl⟩:∃m',m=m'+1:=⟨m-1,by omega⟩
  (refine qy ?_);(repeat refine qq ?_);refine ω ?_;refine qy ?_;(repeat refine qq ?_);(generalize hK:bj _ _ _ _=K);refine π ?_
  (refine xT ?_)
  refine aa.T rfl rfl rfl (d:=.agg (bo (65533,1))) (st1:=ai) rfl<|aa.T rfl rfl rfl (d:=.win ai.bs.length 0 0 1 2) (st1:=ai.push (.mem 0 true (bo (65533,1)))) rfl<|QA rfl rfl rfl rfl (tJ.push _) (Rows.one rfl) rfl rfl rfl rfl rfl rfl rfl (by decide) (by simp[St.push];omega) (by show ai.flr≤_;omega) (by show ai.ro≤_;omega) (by simp only[ν,Ξ,Qv,iq,QU];show(done+1)*16≤_;omega) fun Ra st2 Fb mB _ xZ _=>?_;(repeat(refine xL ?_));refine θ ?_;dsimp only[ο,μ,η,ξ,ι,nth,κ,u1,u2,v1,v2,v3,v4,v5,v6,v7,ε,u3,u4,δ,γ,ζ];subst hK;refine qy ?_;have Rr:Gb st.bs.length k (ah .rw st) st2:=(hx.of (Ex.push hN (.mem 0 true (bo (65533,1))))).of mB
  have WT:st2.bs[k]?=some (.mem v false ((h++j).map nf++[.int .i64 ((m+1:Nat):Int)])):=by
   rw[mB.low k (by omega)];simp only[St.push];rw[ρ (by omega)];exact MG
  have X5:st2.ro=st.ro:=by rw[Rr.ro];rfl
  have hk2:k<st2.bs.length:=by have:=Rr.len;have e:(ah .rw st).bs.length=st.bs.length:=rfl;omega
  (refine qy ?_);(repeat refine qq ?_);(generalize hK:bj _ _ _ _=K);refine π ?_
  (refine xT ?_)
  (refine xT ?_)
  (refine xT ?_)
  refine QT (k:=k) (aG:=v) (off:=4) rfl rfl rfl WT (d:=.int .i64 ((m+1:Nat):Int)) (by rw[←v_,Qy];rfl) ?_
  (refine xT ?_)
  rw[wrap_i64 (by omega) (by omega),show((m+1:Nat):Int)-1=(m:Nat) by omega]
  (refine xT ?_)
  (refine xT ?_)
  refine QR (k:=k) (aG:=v) (off:=4) (cs:=[.int .i64 (m:Nat)]) rfl rfl rfl rfl rfl WT (by rw[τ,v_];exact ψ _) (z8 st2 X5) ?_
  have uI:((h++j).map nf++[Qj .i64 ((m+1:Nat):Int)]).take 4++[.int .i64 (m:Nat)]++((h++j).map nf++[Qj .i64 ((m+1:Nat):Int)]).drop (4+[Qj .i64 (m:Nat)].length)=(h++j).map nf++[.int .i64 (m:Nat)]:=by
   rw[Qk v_,Ψ (by rw[τ,v_];exact ψ _),χ]
  rw[uI];refine θ ?_;dsimp only[ο,μ,η,ξ,ι,nth,κ,u1,u2,v1,v2,v3,v4,v5,v6,v7,ε,u3,u4,δ,γ,ζ];subst hK;refine⟨m,by omega,done+1,Ra,rfl,List.getElem?_set_self hk2,Rr.put _,?_,by omega⟩
  have:(iq (done+1)).map bo=(iq done).map bo++[bo (65533,1)]:=by
   unfold iq;rw[List.replicate_succ',Δ];rfl
  rw[this];exact AE iL Fb _
 ·refine QY ?_;have kW:m=0:=by omega
  subst kW;have hd:done=h.length:=by omega
  subst hd;refine qy ?_;(repeat refine qq ?_);(generalize hK:bj _ _ _ _=K);refine π ?_;(repeat(first|refine xT ?_|refine xL ?_));refine θ ?_;dsimp only[ο,μ,η,ξ,ι,nth,κ,u1,u2,v1,v2,v3,v4,v5,v6,v7,ε,u3,u4,δ,γ,ζ];subst hK;refine qy ?_;refine υ ⟨rx,_,rfl,EB ?_ ?_⟩
  ·exact hx.take (a:=ah .rw st) iL MG
  ·exact tJ.freeze mY (n:=15) (by decide)
theorem En (st:St):Ev pv 72 [] st (.ptr st.bs.length 0 0) (st.push (.mem 0 false (fG [] [0,0,0,0]))):=by
 refine Ev.h_ rfl ZI rfl rfl rfl ?_;dsimp only[u3,u4,ε,δ,γ,w1,w2];refine qy ?_;(repeat refine qq ?_);(generalize hK:bj _ _ _ _=K);refine π ?_;(repeat(refine xL ?_));refine θ ?_;dsimp only[ο,μ,η,ξ,ι,nth,κ,u1,u2,v1,v2,v3,v4,v5,v6,v7,ε,u3,u4,δ,γ,ζ];subst hK;refine qy ?_;(repeat refine qq ?_);(generalize hK:bj _ _ _ _=K);refine π ?_;(repeat(first|refine xT ?_|refine xL ?_));refine θ ?_;dsimp only[ο,μ,η,ξ,ι,nth,κ,u1,u2,v1,v2,v3,v4,v5,v6,v7,ε,u3,u4,δ,γ,ζ];subst hK;refine qy ?_;exact υ ⟨rx,_,rfl,rfl⟩
theorem Nu (hb:Bytes st x h) (bA:cF h=true∨h=[]) (h3:h.length≤3) (eT:st.ro≤st.bs.length):
  Ev pv 78 [x] st (.tup [.ptr st.bs.length 0 0,.int .i64 0]) (st.push (.mem 0 false (fG h (([0,0,0,0]:List UInt8).drop h.length)))):=by
 have hx:=hb.ref;have hbl:=bI h;refine Ev.h_ rfl Vy rfl rfl rfl ?_;dsimp only[u3,u4,ε,δ,γ,w1,w2];refine qy ?_;(repeat refine qq ?_);(generalize hK:bj _ _ _ _=K);refine π ?_;(repeat(refine xL ?_));refine θ ?_;dsimp only[ο,μ,η,ξ,ι,nth,κ,u1,u2,v1,v2,v3,v4,v5,v6,v7,ε,u3,u4,δ,γ,ζ];subst hK;refine qy ?_;(repeat refine qq ?_);(generalize hK:bj _ _ _ _=K);refine π ?_
 (refine xT ?_)
 refine QC rfl rfl rfl (sQ hb) ?_;(repeat(first|refine xT ?_|refine xL ?_));refine θ ?_;dsimp only[ο,μ,η,ξ,ι,nth,κ,u1,u2,v1,v2,v3,v4,v5,v6,v7,ε,u3,u4,δ,γ,ζ];subst hK;refine qy ?_;have Zb:(dN h).2.2=cF h:=rfl;rw[Zb];generalize(dN h).1=r0;generalize(dN h).2.1=n0
 cases Sl:cF h with
 |true=>
  (refine qy ?_);(repeat refine qq ?_);(generalize hK:bj _ _ _ _=K);refine π ?_;(repeat(first|refine xT ?_|refine xo ?_));refine θ ?_;dsimp only[ο,μ,η,ξ,ι,nth,κ,u1,u2,v1,v2,v3,v4,v5,v6,v7,ε,u3,u4,δ,γ,ζ];subst hK;refine qy ?_;(repeat refine qq ?_);refine ς (v:=false) rfl (fun h=>by cases h) fun _=>?_;refine qy ?_;refine Γ ?_;refine qy ?_;have kW:(st.push (.mem 0 false (fG [] [0,0,0,0]))).bs[st.bs.length]?=some (.mem 0 false (fG [] [0,0,0,0])):=kC st _;have hb1:Bytes (st.push (.mem 0 false (fG [] [0,0,0,0]))) x h:=hb.ex (Ex.push (ψ _) _) hx;have z8:∀S:St,S.ro=st.ro→S.jn st.bs.length 0=true:=fun S hS=>pg (by omega);refine qy ?_;(repeat refine qq ?_);(generalize hK:bj _ _ _ _=K);refine π<|QC rfl rfl rfl (En st) ?_;(repeat(refine xL ?_));refine θ ?_;dsimp only[ο,μ,η,ξ,ι,nth,κ,u1,u2,v1,v2,v3,v4,v5,v6,v7,ε,u3,u4,δ,γ,ζ];subst hK;refine qy ?_;(repeat refine qq ?_);(generalize hK:bj _ _ _ _=K);refine π ?_
  (refine xT ?_)
  (refine xT ?_)
  (refine xT ?_)
  (refine xT ?_)
  refine QE (k:=st.bs.length) (v:=0) (off:=0) (l:=0) (r:=4) rfl rfl rfl rfl rfl kW (by decide) rfl ?_
  (refine xT ?_)
  refine aa.copy (k:=st.bs.length) (aG:=0) (off:=0) (len:=4) (s:=1) (ys:=byteCells h) (ar:=false) (c:=fG [] [0,0,0,0]) rfl rfl rfl rfl hb1 rfl rfl kW (by decide) ?_ ?_
  ·rw[gF]
   have:∀(b:List UInt8) m,refs ((b.map nf).take m)=0:=by
    intro b m
    induction b generalizing m with
    |nil=>simp[refs]
    |cons y b ih=>cases m with
     |zero=>simp[refs]
     |succ m=>simp only[QK,Qx,refs,ih];rfl
   rw[this];exact z8 _ rfl
  have yf:min (byteCells h).length 4=h.length:=by omega
  rw[yf,gF]
  have Vh:(fG [] [0,0,0,0]).take 0++(h.map nf).take (h.length*1)++(fG [] [0,0,0,0]).drop (0+h.length*1)=(h++([0,0,0,0]:List UInt8).drop h.length).map nf++[.int .i64 0]:=by
   rw[QW,Qq,QD,QS];have e1:(h.map nf).take h.length=h.map nf:=QJ (by simp);rw[e1,Δ,φ]
   congr 1
   show([0,0,0,0].map nf++[Qj .i64 0]).drop h.length=_;rw[QX (by simp;omega),QM]
  rw[Vh];have hlt:((h++([0,0,0,0]:List UInt8).drop h.length).map nf).length=4:=by simp;omega
  have hT:∃T:List D,T=(h++([0,0,0,0]:List UInt8).drop h.length).map nf:=⟨_,rfl⟩
  obtain⟨T,hT⟩:=hT;rw[←hT] at hlt⊢;have Bo:∀b b':iI,(⟨(st.push b).bs.set st.bs.length b',(st.push b).flr,(st.push b).ro⟩:St)=st.push b':=fun b b'=>xr rfl
  (refine xT ?_)
  (refine xT ?_)
  rw[Bo];refine QR (k:=st.bs.length) (aG:=0) (off:=4) (cs:=[.int .i64 (h.length:Nat)]) rfl rfl rfl rfl rfl (kC st _) (by rw[τ,hlt];exact ψ _) (z8 _ rfl) ?_;rw[Bo]
  have uI:(T++[Qj .i64 0]).take 4++[.int .i64 (h.length:Nat)]++(T++[Qj .i64 0]).drop (4+[Qj .i64 (h.length:Nat)].length)=fG h (([0,0,0,0]:List UInt8).drop h.length):=by
   rw[Qk hlt,Ψ (by rw[τ,hlt];exact ψ _),χ,hT]
   rfl
  rw[uI];refine θ ?_;dsimp only[ο,μ,η,ξ,ι,nth,κ,u1,u2,v1,v2,v3,v4,v5,v6,v7,ε,u3,u4,δ,γ,ζ];subst hK;refine qy ?_;(repeat refine qq ?_);(generalize hK:bj _ _ _ _=K);refine π ?_;(repeat(first|refine xT ?_|refine xL ?_));refine θ ?_;dsimp only[ο,μ,η,ξ,ι,nth,κ,u1,u2,v1,v2,v3,v4,v5,v6,v7,ε,u3,u4,δ,γ,ζ];subst hK;refine qy ?_;exact υ ⟨rx,_,rfl,rfl⟩
 |false=>
  have MK:h.length=0:=by
   rcases bA with h'|h'
   ·rw[Sl] at h';cases h'
   ·rw[h'];rfl
  (refine qy ?_);(repeat refine qq ?_);(generalize hK:bj _ _ _ _=K);refine π ?_
  (refine xT ?_)
  (refine xT ?_)
  (refine xT ?_)
  (refine xT ?_)
  refine QZ rfl rfl rfl hb rfl ?_;rw[hbl];(repeat(first|refine xT ?_|simp(disch:=omega) only[decide_eq_true,decide_eq_false,cu,cU,ct,cT]));refine θ ?_;dsimp only[ο,μ,η,ξ,ι,nth,κ,u1,u2,v1,v2,v3,v4,v5,v6,v7,ε,u3,u4,δ,γ,ζ];subst hK;refine qy ?_;(repeat refine qq ?_);refine ς (v:=false) rfl (fun h=>by cases h) fun _=>?_;refine qy ?_;refine Γ ?_;refine qy ?_;have kW:(st.push (.mem 0 false (fG [] [0,0,0,0]))).bs[st.bs.length]?=some (.mem 0 false (fG [] [0,0,0,0])):=kC st _;have hb1:Bytes (st.push (.mem 0 false (fG [] [0,0,0,0]))) x h:=hb.ex (Ex.push (ψ _) _) hx;have z8:∀S:St,S.ro=st.ro→S.jn st.bs.length 0=true:=fun S hS=>pg (by omega);refine qy ?_;(repeat refine qq ?_);(generalize hK:bj _ _ _ _=K);refine π<|QC rfl rfl rfl (En st) ?_;(repeat(refine xL ?_));refine θ ?_;dsimp only[ο,μ,η,ξ,ι,nth,κ,u1,u2,v1,v2,v3,v4,v5,v6,v7,ε,u3,u4,δ,γ,ζ];subst hK;refine qy ?_;(repeat refine qq ?_);(generalize hK:bj _ _ _ _=K);refine π ?_
  (refine xT ?_)
  (refine xT ?_)
  (refine xT ?_)
  (refine xT ?_)
  refine QE (k:=st.bs.length) (v:=0) (off:=0) (l:=0) (r:=4) rfl rfl rfl rfl rfl kW (by decide) rfl ?_
  (refine xT ?_)
  refine aa.copy (k:=st.bs.length) (aG:=0) (off:=0) (len:=4) (s:=1) (ys:=byteCells h) (ar:=false) (c:=fG [] [0,0,0,0]) rfl rfl rfl rfl hb1 rfl rfl kW (by decide) ?_ ?_
  ·rw[gF]
   have:∀(b:List UInt8) m,refs ((b.map nf).take m)=0:=by
    intro b m
    induction b generalizing m with
    |nil=>simp[refs]
    |cons y b ih=>cases m with
     |zero=>simp[refs]
     |succ m=>simp only[QK,Qx,refs,ih];rfl
   rw[this];exact z8 _ rfl
  have yf:min (byteCells h).length 4=h.length:=by omega
  rw[yf,gF]
  have Vh:(fG [] [0,0,0,0]).take 0++(h.map nf).take (h.length*1)++(fG [] [0,0,0,0]).drop (0+h.length*1)=(h++([0,0,0,0]:List UInt8).drop h.length).map nf++[.int .i64 0]:=by
   rw[QW,Qq,QD,QS];have e1:(h.map nf).take h.length=h.map nf:=QJ (by simp);rw[e1,Δ,φ]
   congr 1
   show([0,0,0,0].map nf++[Qj .i64 0]).drop h.length=_;rw[QX (by simp;omega),QM]
  rw[Vh];have hlt:((h++([0,0,0,0]:List UInt8).drop h.length).map nf).length=4:=by simp;omega
  have hT:∃T:List D,T=(h++([0,0,0,0]:List UInt8).drop h.length).map nf:=⟨_,rfl⟩
  obtain⟨T,hT⟩:=hT;rw[←hT] at hlt⊢;have Bo:∀b b':iI,(⟨(st.push b).bs.set st.bs.length b',(st.push b).flr,(st.push b).ro⟩:St)=st.push b':=fun b b'=>xr rfl
  (refine xT ?_)
  (refine xT ?_)
  rw[Bo];refine QR (k:=st.bs.length) (aG:=0) (off:=4) (cs:=[.int .i64 (h.length:Nat)]) rfl rfl rfl rfl rfl (kC st _) (by rw[τ,hlt];exact ψ _) (z8 _ rfl) ?_;rw[Bo]
  have uI:(T++[Qj .i64 0]).take 4++[.int .i64 (h.length:Nat)]++(T++[Qj .i64 0]).drop (4+[Qj .i64 (h.length:Nat)].length)=fG h (([0,0,0,0]:List UInt8).drop h.length):=by
   rw[Qk hlt,Ψ (by rw[τ,hlt];exact ψ _),χ,hT]
   rfl
  rw[uI];refine θ ?_;dsimp only[ο,μ,η,ξ,ι,nth,κ,u1,u2,v1,v2,v3,v4,v5,v6,v7,ε,u3,u4,δ,γ,ζ];subst hK;refine qy ?_;(repeat refine qq ?_);(generalize hK:bj _ _ _ _=K);refine π ?_;(repeat(first|refine xT ?_|refine xL ?_));refine θ ?_;dsimp only[ο,μ,η,ξ,ι,nth,κ,u1,u2,v1,v2,v3,v4,v5,v6,v7,ε,u3,u4,δ,γ,ζ];subst hK;refine qy ?_;exact υ ⟨rx,_,rfl,rfl⟩
def oY (fr:Go.V.Fr) (k:Nat):Go.V.D:=Go.V.nth .bD fr.loc k
def gJ (code:List aQ) (ss:List Nat):List (Nat×Nat)→Nat→List PL→Nat×List PL
 |[],pl,ls=>(pl,ls)
 |g::gs,pl,ls=>gJ code ss gs (pl+dO (g.2:Nat)) (dj code pl (g.1:Nat) ss ls)
theorem A4 (code:List aQ) (ss:List Nat):∀(a:List (Nat×Nat)) (pl:Nat) (ls:List PL),(gJ code ss a pl ls).1≤pl+4*a.length
 |[],_,_=>ψ _
 |g::a,pl,ls=>by
  simp only[gJ,Ξ];have:=A4 code ss a (pl+dO (g.2:Nat)) (dj code pl (g.1:Nat) ss ls);have:=ke ((g.2:Nat):Int);omega
theorem vj {p:Pg} (hR:bE p):∀(a:List (Nat×Nat)) (pl:Nat) (ls:List PL),ls.length=p.ak.length→(∀l∈ls,l.ok p.code.length)→(gJ p.code (ba p) a pl ls).2.length=p.ak.length∧∀l∈(gJ p.code (ba p) a pl ls).2,l.ok p.code.length
 |[],_,_,h1,h2=>⟨h1,h2⟩
 |g::a,pl,ls,h1,h2=>by
  simp only[gJ];refine vj hR a _ _ ?_ (fun l hl=>l6 hR (mM hR) l hl);rw[gR _ _ _ _ _ (by unfold ba;rw[ν];omega)];exact h1
theorem tZ (code:List aQ) (ss:List Nat):∀(a:List (Nat×Nat)) (pl:Nat) (ls:List PL),gJ (code.map eQ) ss a pl ls=gJ code ss a pl ls
 |[],_,_=>rfl
 |g::a,pl,ls=>by simp only[gJ,pz,tZ code ss a]
theorem oO {n:Nat} (h:∀l∈L.map VL.pl,l.ok n):∀l∈L,l.pl.ok n:=fun l hl=>h _ (QF hl)
theorem Dw (dB:∀st,Ev pv 59 [] st (.agg (ay bX)) st) {gs:List (Nat×Nat)} (hF:S.flr≤N) (hp:p.ok) (hR:bE p) (ib:pl+4*gs.length≤3000000000000) (uH:gs.length≤1048576) (pR:L.length=p.ak.length) (bA:∀l∈L,l.pl.ok p.code.length) (hM:MH [] N S s0 ks kv p pl ld L H):
  ∃d ai,Ev pv 74 [.ptr kv 0 0,fP gs] s0 d ai∧d=.tup []∧∃Rl L',L'.map VL.pl=(gJ p.code (ba p) gs pl (L.map VL.pl)).2∧MH [] N S ai ks kv p (gJ p.code (ba p) gs pl (L.map VL.pl)).1 Rl L' H:=by
 obtain⟨pd,qd,P,Q,sn,hH,gM,gj⟩:=hM;have MO:Arg N S 2 (fP gs) (gs.map bo):=Arg.pure (fun st=>eH st gs);dsimp only[u4] at hH;refine Ev.iD rfl ZG rfl rfl rfl ?_;dsimp only[u3,u4,ε,δ,γ,w1,w2];change ab _ _ _ _ s0 _;refine qq<|qj fun K hK=>qm ?_;refine qn ?_;simp only[ν];refine qm ?_;refine qe hK<|ω<|QH (fun mm fr st=>∃(i tu:Nat) (ld pd qd:D) (L':List VL) (P Q:List Nat) (sn:List Bool),fr.clean=⟨9,[.ptr kv 0 0,oY fr 1,oY fr 2,oY fr 3,oY fr 4,oY fr 5,fP gs,.int .i64 (gs.length:Nat),.int .i64 (i:Nat)],[]⟩∧Has N S st (.box kv (.mem 0 false [p.cd,p.sd,.int .i64 (tu:Nat),ld,.ptr ks 0 0])::.box ks (.mem 0 false [pd,qd])::.aO pd 1 (P.map gL)::.aO qd 2 (Q.map ov)::.aO ld 12 (L'.map dP)::(L'.map pX++H))∧(i+mm=gs.length)∧(dC P Q sn)∧(sn.length=p.code.length)∧(gJ p.code (ba p) (gs.drop i) tu (L'.map VL.pl)=gJ p.code (ba p) gs pl (L.map VL.pl))∧(tu≤pl+4*i)∧(L'.length=p.ak.length)∧(∀l∈L',l.pl.ok p.code.length)) (gs.length) ?_ ?_
 ·exact⟨0,pl,ld,pd,qd,L,P,Q,sn,rfl,hH,by omega,gM,gj,rfl,by omega,pR,bA⟩
 rintro mm fr st ⟨i,tu,ld,pd,qd,L',P,Q,sn,hfr,hH,hi,gM,gj,j_,Yb,Zi,MY⟩;rw[hfr];clear hfr;generalize oY fr=ee;clear fr;have RD:=hR.sl;refine qq<|qj fun K hK=>qg ?_;refine qe hK<|qq ?_;refine ς (by rfl) (fun hlt=>?_) (fun hlt=>?_)<;>try simp only[decide_eq_true_eq,decide_eq_false_iff_not] at hlt
 ·refine Γ ?_;have hil:i<gs.length:=by omega
  obtain⟨g,WW⟩:∃g,gs[i]?=some g:=⟨gs[i]'hil,Φ _⟩
  have gB:(gs.map bo)[i]?=some (bo g):=by rw[Ω,WW];rfl
  have Y7:=ke ((g.2:Nat):Int)
  have tI:gs.drop i=g::gs.drop (i+1):=by
   rw[List.drop_eq_getElem_cons hil]
   congr 1
   exact Option.some.inj ((Φ _).symm.trans WW)
  refine qq<|ω<|qq<|qj fun K hK=>qr fun WK MA=>?_;refine aa.cA rfl (ev rfl) (by assumption) rfl (ae rfl _) ?_;refine qa hH fun k5 st yh hH=>?_;refine qS hH av fun st hH=>?_;dsimp only[u2,u1,u3,u4,setMany,u5,u6,Qz,γ,bo] at hH;refine qe hK<|qj fun K hK=>qm ?_;refine qp (o:=0) ?_;refine ql hH av ?_;refine qp (o:=1) ?_;refine ql hH av ?_;obtain⟨_,st,aL,rfl,L1,Zo,hM⟩:=Nh (r:=((g.1:Nat):Int)) (n:=((g.2:Nat):Int)) dB hF hp hR (by omega) Zi MY (MH.push [_] [] (H:=H) ⟨pd,qd,P,Q,sn,hH,gM,gj⟩);obtain⟨pd,qd,P,Q,sn,hH,gM,gj⟩:=MH.pull [_] [] (H:=H) hM;dsimp only[u3,u4] at hH;refine qv aL ?_;refine qe hK ?_
  have abV:L1.length=L'.length:=by
   have:=congrArg ε Zo;rw[ν,gR _ _ _ _ _ (by unfold ba;simp;omega),ν] at this;exact this
  have Zh:∀l∈L1,l.pl.ok p.code.length:=fun l hl=>l6 hR (mM hR) _ (by rw[←Zo];exact QF hl);refine qj fun K hK=>qA ?_;refine qm ?_;refine qe hK ?_;exact⟨mm-1,by omega,⟨i+1,tu+dO ((g.2:Nat):Int),_,pd,qd,L1,P,Q,sn,rfl,(hH.drop 1),by omega,gM,gj,(by rw[←j_,tI,Zo];rfl),by omega,by omega,Zh⟩⟩
 ·refine QY ?_;refine⟨fun i h=>(by cases h),_,_,_,rfl,rfl,?_⟩;have tI:gs.drop i=[]:=by rw[List.drop_eq_nil_iff];omega
  rw[tI] at j_;have j_:(tu,L'.map VL.pl)=gJ p.code (ba p) gs pl (L.map VL.pl):=j_;rw[←j_];exact⟨rfl,ld,L',rfl,pd,qd,P,Q,sn,hH,gM,gj⟩
theorem FI (hb:Bytes st x b) (hlen:b.length≤1048576):Ev pv 81 [x] st (.bool (cF b)) st:=by
 refine Ev.h_ rfl ZC rfl rfl rfl ?_;dsimp only[u3,u4,ε,δ,γ,w1,w2];have hb:=hb.enter .ro;have hbl:=bI b;have hf:=(sP b).1;refine qy ?_;(repeat refine qq ?_);(generalize hK:bj _ _ _ _=K);refine π ?_;(repeat(refine xL ?_));refine θ ?_;dsimp only[ο,μ,η,ξ,ι,nth,κ,u1,u2,v1,v2,v3,v4,v5,v6,v7,ε,u3,u4,δ,γ,ζ];subst hK;refine qy ?_;(repeat refine qq ?_);(generalize hK:bj _ _ _ _=K);refine π ?_
 (refine xT ?_)
 refine QC rfl rfl rfl (MZ hb hlen) ?_;(repeat(first|refine xT ?_|refine xL ?_));refine θ ?_;dsimp only[ο,μ,η,ξ,ι,nth,κ,u1,u2,v1,v2,v3,v4,v5,v6,v7,ε,u3,u4,δ,γ,ζ];subst hK;refine qy ?_;generalize(dh b).1=k at*;generalize(dh b).2=n at*
 by_cases h1:0<k
 ·by_cases h2:k<n
  ·by_cases h3:k=b.length
   ·rw[hf.2 ⟨h1,h2,h3⟩];refine qy ?_;(repeat refine qq ?_);(generalize hK:bj _ _ _ _=K);refine π ?_;(repeat(first|refine xT ?_|simp(disch:=omega) only[decide_eq_true,decide_eq_false,cu,cU,ct,cT]));refine QZ rfl rfl rfl hb rfl ?_;rw[hbl];(repeat(first|refine xT ?_|refine xL ?_|simp(disch:=omega) only[decide_eq_true,decide_eq_false,cu,cU,ct,cT]));refine θ ?_;dsimp only[ο,μ,η,ξ,ι,nth,κ,u1,u2,v1,v2,v3,v4,v5,v6,v7,ε,u3,u4,δ,γ,ζ];subst hK;refine qy ?_;refine υ ⟨rx,_,rfl,aP (by simp) (by simp[ah]) ?_⟩
    rfl
   ·have:cF b=false:=by
     cases h:cF b with
     |false=>rfl
     |true=>have:=hf.1 h;omega
    rw[this];refine qy ?_;(repeat refine qq ?_);(generalize hK:bj _ _ _ _=K);refine π ?_;(repeat(first|refine xT ?_|simp(disch:=omega) only[decide_eq_true,decide_eq_false,cu,cU,ct,cT]));refine QZ rfl rfl rfl hb rfl ?_;rw[hbl];(repeat(first|refine xT ?_|refine xL ?_|simp(disch:=omega) only[decide_eq_true,decide_eq_false,cu,cU,ct,cT]));refine θ ?_;dsimp only[ο,μ,η,ξ,ι,nth,κ,u1,u2,v1,v2,v3,v4,v5,v6,v7,ε,u3,u4,δ,γ,ζ];subst hK;refine qy ?_;refine υ ⟨rx,_,rfl,aP (by simp) (by simp[ah]) ?_⟩
    rfl
  ·have:cF b=false:=by
    cases h:cF b with
    |false=>rfl
    |true=>have:=hf.1 h;omega
   rw[this];refine qy ?_;(repeat refine qq ?_);(generalize hK:bj _ _ _ _=K);refine π ?_;(repeat(first|refine xT ?_|refine xL ?_|refine xo ?_|simp(disch:=omega) only[decide_eq_true,decide_eq_false,cu,cU,ct,cT]));refine θ ?_;dsimp only[ο,μ,η,ξ,ι,nth,κ,u1,u2,v1,v2,v3,v4,v5,v6,v7,ε,u3,u4,δ,γ,ζ];subst hK;refine qy ?_;refine υ ⟨rx,_,rfl,aP (by simp) (by simp[ah]) ?_⟩
   rfl
 ·have:cF b=false:=by
   cases h:cF b with
   |false=>rfl
   |true=>have:=hf.1 h;omega
  rw[this];refine qy ?_;(repeat refine qq ?_);(generalize hK:bj _ _ _ _=K);refine π ?_;(repeat(first|refine xT ?_|refine xL ?_|refine xo ?_|simp(disch:=omega) only[decide_eq_true,decide_eq_false,cu,cU,ct,cT]));refine θ ?_;dsimp only[ο,μ,η,ξ,ι,nth,κ,u1,u2,v1,v2,v3,v4,v5,v6,v7,ε,u3,u4,δ,γ,ζ];subst hK;refine qy ?_;refine υ ⟨rx,_,rfl,aP (by simp) (by simp[ah]) ?_⟩
  rfl
theorem yN (h:cF l=true):l.length≤3:=by
 obtain⟨h1,h2,h3⟩:=(sP l).1.1 h
 cases l with
 |nil=>simp
 |cons c xs=>
  have:=rU c.toNat;simp only[dh] at h2 h3
  split at h2
  ·simp at h2
  ·split at h2
   ·split at h2
    ·rw[←h3];rename_i a1 a2 a3;rw[if_neg a1,if_pos a2,if_pos a3];simp only;omega
    ·simp at h2
   ·simp at h2
/- the plain law: byte by byte is all at once -/
def SH (A:List bJ) (N:Nat) (S st:St) (kS kd kv ks:Nat) (p:Pg) (pl:Nat) (ld:D) (L:List VL) (h:List UInt8) (H:List bJ):Prop:=
 ∃pd qd P Q sn js,Has N S st (A++(.box kS (.mem 0 false [.ptr kd 0 0,.ptr kv 0 0])::.box kd (.mem 0 false (fG h js))::(gh ks kv p pl ld pd qd P Q L++H)))∧dC P Q sn∧sn.length=p.code.length∧(h++js).length=4
end Go.Proofs.YtbdnabmmlbiomaaGreat
