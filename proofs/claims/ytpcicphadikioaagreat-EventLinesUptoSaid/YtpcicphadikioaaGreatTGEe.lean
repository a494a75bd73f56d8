/-
 simple: what is asked of trees: open, groups, same; a list under an Op.
-/
import Derived.Test.YtpcicphadikioaaGreatTGHr
import Derived.Test.YtpcicphadikioaaGreatTGQe
import Derived.Test.YtpcicphadikioaaGreatTGUa
import Derived.Test.YtpcicphadikioaaGreatTGJh
import Derived.Test.YtpcicphadikioaaGreatTSrx
set_option maxRecDepth 100000
set_option maxHeartbeats 4000000
set_option linter.unusedSimpArgs false
set_option linter.unusedVariables false
set_option linter.unusedSectionVars false
namespace Go.Proofs.YtpcicphadikioaaGreat
open Go.V Go
def nF (fr:Go.V.Fr) (k:Nat):Go.V.D:=Go.V.nth .aY fr.loc k
def tC (t:Tr):List D:=bR t.n (dq t.ks)
theorem Jq:Tr.c=tC:=by funext t;exact Tr.Pt t
theorem lI (l:List Tr):dq l=.sl ((l.map tC).map (jn 8)):=by unfold dq;rw[Jq]
theorem lp {l:List Tr} {i:Nat} {q:Tr} (h:l[i]?=some q):(l.map tC)[i]?=some (tC q):=by rw[List.getElem?_map,h];rfl
theorem Jp (l:List Tr):∀e∈l.map tC,e.length=8:=by
 intro e he;obtain⟨r,_,rfl⟩:=List.mem_map.1 he;rfl
theorem ku {l:List Tr} (h:∀t∈l,t.fa lY):∀e∈l.map tC,∀d∈e,bK d=true:=by
 intro e he d hd;obtain⟨r,hr,rfl⟩:=List.mem_map.1 he;have h1:=(Tr.dQ.1 (h r hr)).1.1;simp only[tC,bR,dq,List.mem_cons,List.not_mem_nil,or_false] at hd
 rcases hd with rfl|rfl|rfl|rfl|rfl|rfl|rfl|rfl<;>try rfl
 rw[h1];rfl
theorem gg {t:Tr} (h:t.fa lY) (st:St) (N n:Nat):aB st N false (n+2) (.agg (tC t))=some (.agg (tC t)):=by
 have h1:=(Tr.dQ.1 h).1.1;unfold tC bR;rw[h1];rfl
theorem dY (st:St) {l:List Tr} (h:∀t∈l,t.fa lY):V.Rows st 8 (dq l) (l.map tC):=by
 rw[lI];exact Rows.pQ (Jp l) (ku h)
theorem zH {s0:St} {n:bn}:Ev pv 69 [.agg (aE n)] s0 (.bool (gH n)) s0:=by
 unfold gH;refine Ev.jL rfl Oz rfl rfl rfl ?_;refine zE ?_;obtain⟨aW,hF,hH⟩:=ri s0;generalize ai .ro s0=S at*;refine zQ 2 ?_;refine qb hH fun k1 st lL hH=>?_;dsimp only[u2,u1,u3,u4,setMany,u5,u6,D.cells,Nat.reduceAdd,aE] at hH;refine zQ 3 ?_;refine ag.rR 2 (.bool (n.op==5 &&!n.lz &&n.mx==-1 &&decide (n.mn≤1))) [] ?_ (fun ff tmp=>?_)
 ·refine zQ 4 ?_;refine ae.two 6 rfl (fun dK=>?_) (fun dK=>?_)
  ·refine zQ 5 ?_;refine ae.two 11 rfl (fun dv=>?_) (fun dv=>?_)
   ·refine zQ 5 ?_;refine ae.two 16 rfl (fun kW=>?_) (fun kW=>?_)
    ·refine zQ 5 ?_;refine ae.nil (aI ?_);refine zG ?_
     all_goals(simp[dK,dv,kW];done)
    ·refine zQ 5 ?_;refine ae.nil (aI ?_);refine zG ?_
     all_goals(simp[dK,dv,kW];done)
   ·refine zQ 10 ?_;refine ae.nil (aI ?_);refine zG ?_
    all_goals(simp[dK,dv];done)
  ·refine zQ 15 ?_;refine ae.nil (aI ?_);refine zG ?_
   all_goals(simp[dK];done)
 dsimp only[bd,List.foldl,nth,u2,u1];refine ag.ret ⟨rx,_,rfl,rl aW hH (rfl)⟩
theorem wK {s0:St} {x:D} {l:List Tr} {g:Nat} {eI:List D} {p:Tr→Bool} (hx:V.Rows s0 8 x (l.map tC)) (hl:l.length≤1048576) (hf:∀(st:St),(∀k,k<s0.bs.length→st.bs[k]?=s0.bs[k]?)→∀t∈l,Ev pv g ([.agg (tC t)]++eI) st (.bool (p t)) st):
  ∃d,Ev pv 80 [x,.fn g eI] s0 d s0∧∃i:Int,d=.int .i64 i∧((i=-1∧∀t∈l,p t=false)∨(∃j:Nat,i=(j:Nat)∧j<l.length∧(∀t∈l.take j,p t=false)∧∃t,l[j]?=some t∧p t=true)):=by
 refine Ev.Bd rfl Ou rfl rfl rfl ?_;refine zE ?_;obtain⟨aW,hF,hH⟩:=ri s0;generalize ai .ro s0=S at*;have hx:=Arg.of hx aW;refine zQ 8 ?_;refine qn ?_;simp only[List.length_map];refine zQ 3 ?_;refine ag.loop (fun mm fr st=>∃(i:Nat),fr.clean=⟨9,[x,.fn g eI,nF fr 2,nF fr 3,nF fr 4,nF fr 5,nF fr 6,.int .i64 (l.length:Nat),.int .i64 (i:Nat)],[]⟩∧Has s0.bs.length S st []∧(i+mm=l.length)∧(∀t∈l.take i,p t=false)) (l.length) ?_ ?_
 ·exact⟨0,rfl,hH,by omega,by simp⟩
 rintro mm fr st ⟨i,hfr,hH,hi,ht⟩;rw[hfr];clear hfr;generalize nF fr=ee;clear fr;refine zQ 5 ?_;refine zP (fun h1=>?_) fun h1=>?_
 ·refine zQ 1 ?_
  obtain⟨q,hq⟩:∃q,l[i]?=some q:=⟨l[i]'(by omega),List.getElem?_eq_getElem _⟩
  have gJ:=lp hq;refine zQ 12 ?_;refine qr fun P1 J'=>?_;refine ae.cJ rfl (ev rfl) (by assumption) rfl (aa rfl _) ?_;refine qv (hf _ (fun k hk=>by rw[hH.ex.low k hk,aW]) q (List.mem_of_getElem? hq)) ?_;refine zQ 1 ?_
  cases hp:p q with
  |true=>
   refine ag.cond (v:=true) (by dsimp only[Fr.ev,Fr.get,nth,V.look];done) (fun _=>?_) (fun h=>by cases h);refine zQ 5 ?_;refine ag.ret ⟨rx,_,_,rfl,rl aW hH (rfl),?_⟩;exact⟨(i:Nat),rfl,.inr ⟨i,rfl,by omega,ht,q,hq,hp⟩⟩
  |false=>
   refine ag.cond (v:=false) (by dsimp only[Fr.ev,Fr.get,nth,V.look];done) (fun h=>by cases h) (fun _=>?_);refine zQ 5 ?_;exact⟨mm-1,by omega,⟨i+1,rfl,hH,by omega,(by rw[List.take_add_one,hq];intro t h;rcases List.mem_append.1 h with h|h;exact ht t h;simp at h;rw[h];exact hp)⟩⟩
 ·refine zQ 5 ?_;refine ag.ret ⟨rx,_,_,rfl,rl aW hH (rfl),?_⟩;exact⟨_,rfl,.inl ⟨rfl,by rw[List.take_of_length_le (by omega)] at ht;exact ht⟩⟩
theorem oG {s0:St} {x:D} {l:List Tr} {g:Nat} {eI:List D} {p:Tr→Bool} (hx:V.Rows s0 8 x (l.map tC)) (hl:l.length≤1048576) (hf:∀(st:St),(∀k,k<s0.bs.length→st.bs[k]?=s0.bs[k]?)→∀t∈l,Ev pv g ([.agg (tC t)]++eI) st (.bool (p t)) st):
  Ev pv 82 [x,.fn g eI] s0 (.bool (l.any p)) s0:=by
 refine Ev.jL rfl Oq rfl rfl rfl ?_;refine zE ?_;obtain⟨aW,hF,hH⟩:=ri s0;generalize ai .ro s0=S at*;have hx:=Arg.of hx aW;obtain⟨d,aF,i,rfl,hi⟩:=wK (s0:=S) hx.1 hl (p:=p) (g:=g) (eI:=eI) (fun st h=>hf st (fun k hk=>by rw[h k (by rw[aW];exact hk),aW]))
 have hv:l.any p=decide (i≥0):=by
  rcases hi with⟨rfl,h⟩|⟨j,rfl,h1,h2,t,h3,h4⟩
  ·rw[show decide ((-1:Int)≥0)=false from rfl,List.any_eq_false];intro t ht;rw[h t ht];simp
  ·rw[decide_eq_true (by omega),List.any_eq_true];exact⟨t,List.mem_of_getElem? h3,h4⟩
 rw[hv];refine zQ 8 ?_;refine qv aF ?_;refine zQ 3 ?_;refine ag.ret ⟨rx,_,rfl,rl aW hH (rfl)⟩
theorem s9:∀(n:Nat) (t:Tr),t.eW≤n→n≤1048576→t.fa lY→∀s0:St,Ev pv 68 [.agg (tC t)] s0 (.bool t.qQ) s0
 |0,t,h,_,_,_=>by have:=Tr.dF t;omega
 |n+1,t,h,hn,hfa,s0=>by
  have Kx:=Tr.dF t;have gU:=cy t.ks;have rL:=(Tr.dQ.1 hfa).2;have yK:∀(st s:St),(∀k,k<st.bs.length→s.bs[k]?=st.bs[k]?)→∀k∈t.ks,Ev pv 68 ([.agg (tC k)]++[]) s (.bool (Tr.qQ k)) s:=fun st s _ k hk=>s9 n k (by have:=eH hk;omega) (by omega) (rL k hk) s;have D1:∀st,Ev pv 82 [dq t.ks,.fn 68 []] st (.bool (t.ks.any Tr.qQ)) st:=fun st=>oG (dY st rL) (by omega) (yK st);rw[Tr.Iv];refine Ev.jL rfl OA rfl rfl rfl ?_;refine zE ?_;obtain⟨aW,hF,hH⟩:=ri s0;generalize ai .ro s0=S at*;refine zQ 2 ?_;refine qb hH fun k1 st lL hH=>?_;dsimp only[u2,u1,u3,u4,setMany,u5,u6,D.cells,Nat.reduceAdd,tC,bR] at hH;refine zQ 3 ?_;refine ag.rR 2 (.bool (t.n.op==6||t.ks.any Tr.qQ)) [] ?_ (fun ff tmp=>?_)
  ·refine zQ 5 ?_;refine ae.two 7 rfl (fun gP=>?_) (fun gP=>?_)
   ·refine zQ 5 ?_;refine ae.nil (aI ?_);refine zG ?_
    all_goals(simp[gP];done)
   ·refine zQ 2 ?_;refine qv (D1 _) ?_ (hg:=wi gP);refine zQ 2 ?_;refine ae.nil (aI ?_);refine zG ?_
    all_goals(simp[gP];done)
  dsimp only[bd,List.foldl,nth,u2,u1];refine ag.ret ⟨rx,_,rfl,rl aW hH (rfl)⟩
theorem og {st:St} {s N:Nat} {x:D} {es:List (List D)} (h:V.Rows st s x es) (hN:st.bs.length≤N) (hne:es≠[]) (ah:St) (n:Nat):aB ah N false (n+1) x=some x:=by
 have hr:=Rows.ref h
 cases h with
 |nul=>exact absurd rfl hne
 |sl es h=>rfl
 |win k aq off es ar c hm hl he=>
  simp only[D.ref] at hr;show(if k<N then some (D.win k aq off es.length s) else _)=_;rw[if_pos (by omega)]
theorem ED {op x:D} (h:x.cells?=some [x]) (ho:∃i,op=.int .i64 i):lS pv 104 [(0,.agg [op,.nul,.int .i64 0,.int .i64 0,.bool false,.int .i64 0,.int .i64 0]),(1,x)]=some (.agg [op,.nul,.int .i64 0,.int .i64 0,.bool false,.int .i64 0,.int .i64 0,x]):=by
 obtain⟨i,rfl⟩:=ho
 cases x<;>first|rfl|(exfalso;simp[D.cells?] at h;done)|(exfalso;simp only[D.cells?,Option.some.injEq] at h;have h2:=congrArg (fun l:List D=>SizeOf.sizeOf l) h;simp at h2;done)|(exfalso;simp only[D.cells?,Option.some.injEq] at h;have h2:=congrArg (fun l:List D=>SizeOf.sizeOf l) h;simp at h2;omega)
theorem gi {st:St} {s:Nat} {x:D} {es:List (List D)} (h:V.Rows st s x es):x.cells?=some [x]:=by cases h<;>rfl
def xO (op:Int) (x:D) (l:List Tr):List D:=match l with
 |[]=>tC (AG 1 [])
 |[t]=>tC t
 |_=>bR (EV op) x
theorem vi {s0:St} {x:D} {l:List Tr} {op:Int} (hx:V.Rows s0 8 x (l.map tC)) (hl:l.length≤1048576) (Ag:jP l):Ev pv 65 [.int .i64 op,x] s0 (.agg (xO op x l)) s0:=by
 have hfz:l≠[]→∀ah n,aB ah s0.bs.length false (n+1) x=some x:=fun h=>og hx (Nat.le_refl _) (by simpa using h);have Um:=hx;have KJ:=gi hx;refine Ev.jL rfl OD rfl rfl rfl ?_;refine zE ?_;obtain⟨aW,hF,hH⟩:=ri s0;generalize ai .ro s0=S at*;have hx:=Arg.of hx aW;refine zQ 2 ?_;refine qa hH fun k4 st I_ hH=>?_;refine zQ 5 ?_;refine qn ?_;simp only[List.length_map];refine zQ 2 ?_
 rcases l with _|⟨t,_|⟨u,l⟩⟩
 ·refine zQ 8 ?_;refine ae.go (d:=.agg [.int .i64 1,.nul,.int .i64 0,.int .i64 0,.bool false,.int .i64 0,.int .i64 0]) (st1:=_) rfl rfl rfl (aa rfl _) ?_;refine ae.go (d:=.agg [.int .i64 1,.nul,.int .i64 0,.int .i64 0,.bool false,.int .i64 0,.int .i64 0,.nul]) (st1:=_) rfl rfl rfl (aa rfl _) ?_;refine ae.bP hH rfl (ev rfl) (ev rfl) rfl (by exact rfl) aG (by exact rfl) (.inl hF) (fun st hH=>?_);dsimp only[u1,u2] at hH;refine zQ 1 ?_;refine ag.ret ⟨rx,_,hH.cB rfl aG rfl,rl aW hH rfl⟩
 ·refine zQ 12 ?_;have gJ:([t].map tC)[0]?=some (tC t):=rfl;have hn:=(Tr.dQ.1 (Ag t (List.mem_singleton.2 rfl))).1.1;refine zQ 3 ?_;refine qr fun P1 J'=>?_;refine ae.cJ rfl (ev rfl) (by assumption) rfl (aa rfl _) ?_;refine ae.bP hH rfl (ev rfl) (ev rfl) rfl (by exact rfl) aG (by exact rfl) (.inl hF) (fun st hH=>?_);dsimp only[u1,u2] at hH;refine zQ 1 ?_;refine ag.ret ⟨rx,_,hH.cB rfl aG rfl,rl aW hH ?_⟩;exact gg (Ag t (List.mem_singleton.2 rfl)) _ _ _
 ·have KN:((((t::u::l).length:Nat):Int)==0)=false:=by simp;omega
  have oC:((((t::u::l).length:Nat):Int)==1)=false:=by simp;omega
  have gr:xO op x (t::u::l)=bR (EV op) x:=rfl;rw[gr];have h8:=fun ah=>hfz (by simp) ah 14;generalize(t::u::l)=l at*;refine zQ 5 ?_;refine qE rfl (by rw[KN]) ?_;refine zQ 5 ?_;refine qE rfl (by rw[oC]) ?_;refine zQ 4 ?_;refine ae.go (d:=.agg [.int .i64 op,.nul,.int .i64 0,.int .i64 0,.bool false,.int .i64 0,.int .i64 0]) (st1:=_) rfl rfl rfl (aa rfl _) ?_;refine qm ?_;refine ae.go (d:=.agg [.int .i64 op,.nul,.int .i64 0,.int .i64 0,.bool false,.int .i64 0,.int .i64 0,x]) (st1:=_) rfl rfl (by exact congrArg (Option.map fun d=>(d,_)) (ED KJ ⟨_,rfl⟩)) (aa rfl _) ?_;refine ae.bP hH rfl (ev rfl) (ev rfl) rfl (by exact rfl) aG (by exact rfl) (.inl hF) (fun st hH=>?_);dsimp only[u1,u2] at hH;refine zQ 1 ?_;refine ag.ret ⟨rx,_,hH.cB rfl aG rfl,rl aW hH ?_⟩;show(cH (aB st s0.bs.length false 15) [.int .i64 op,.nul,.int .i64 0,.int .i64 0,.bool false,.int .i64 0,.int .i64 0,x]).map D.agg=_;simp only[cH,h8]
  rfl
def gF (fr:Go.V.Fr) (k:Nat):Go.V.D:=Go.V.nth .aY fr.loc k
theorem x_ {l k:List Tr} {i:Nat} {t u:Tr} (h:l[i]?=some t) (h2:k[i]?=some u):fH (l.drop i) (k.drop i)=(t.same u &&fH (l.drop (i+1)) (k.drop (i+1))):=by
 obtain⟨h3,h4⟩:=List.getElem?_eq_some_iff.1 h;obtain⟨h5,h6⟩:=List.getElem?_eq_some_iff.1 h2;rw[List.drop_eq_getElem_cons h3,List.drop_eq_getElem_cons h5,h4,h6,fH]
theorem Ee {s0:St} {x y:D} {l k:List Tr} {g:Nat} (hx:V.Rows s0 8 x (l.map tC)) (hy:V.Rows s0 8 y (k.map tC)) (hl:l.length≤1048576) (hk:k.length≤1048576)
  (hf:∀(st:St),∀t∈l,∀u∈k,Ev pv g ([.agg (tC t),.agg (tC u)]++[]) st (.bool (t.same u)) st):Ev pv 100 [x,y,.fn g []] s0 (.bool (fH l k)) s0:=by
 refine Ev.jL rfl K' rfl rfl rfl ?_;refine zE ?_;obtain⟨aW,hF,hH⟩:=ri s0;generalize ai .ro s0=S at*;have hx:=Arg.of hx aW;have hy:=Arg.of hy aW;refine zQ 8 ?_;refine qn ?_;simp only[List.length_map];refine qm ?_;refine qn ?_;simp only[List.length_map];refine zQ 2 ?_
 by_cases hlen:l.length=k.length
 ·have hc:((((l.length:Nat):Int) !=((k.length:Nat):Int)))=false:=by rw[hlen];simp
  refine qE rfl (by rw[hc]) ?_;refine zQ 5 ?_;refine qn ?_;simp only[List.length_map];refine zQ 3 ?_;refine ag.loop (fun mm fr st=>∃(i:Nat),fr.clean=⟨18,[x,y,.fn g [],gF fr 3,gF fr 4,gF fr 5,.bool false,gF fr 7,gF fr 8,gF fr 9,gF fr 10,gF fr 11,gF fr 12,gF fr 13,gF fr 14,x,.int .i64 (l.length:Nat),.int .i64 (i:Nat)],[]⟩∧Has s0.bs.length S st []∧(i+mm=l.length)∧(fH (l.drop i) (k.drop i)=fH l k)) (l.length) ?_ ?_
  ·exact⟨0,rfl,hH,by omega,rfl⟩
  rintro mm fr st ⟨i,hfr,hH,hi,ht⟩;rw[hfr];clear hfr;generalize gF fr=ee;clear fr;refine zQ 5 ?_;refine zP (fun h1=>?_) fun h1=>?_
  ·refine zQ 1 ?_
   obtain⟨p,hp⟩:∃p,l[i]?=some p:=⟨l[i]'(by omega),List.getElem?_eq_getElem _⟩
   obtain⟨q,hq⟩:∃q,k[i]?=some q:=⟨k[i]'(by omega),List.getElem?_eq_getElem _⟩
   have gJ:=lp hp;have m_:=lp hq;rw[x_ hp hq] at ht;refine zQ 5 ?_;refine qr fun Jz DJ=>?_;refine ae.cJ rfl (ev rfl) (by assumption) rfl (aa rfl _) ?_;refine qa hH fun k8 st Qm hH=>?_;refine qm ?_;refine qS hH aG fun st hH=>?_;dsimp only[u2,u1,u3,u4,setMany,u5,u6,D.cells,Nat.reduceAdd,tC,bR] at hH;refine zQ 5 ?_;refine qr fun Jy DH=>?_;refine ae.cJ rfl (ev rfl) (by assumption) rfl (aa rfl _) ?_;refine qa hH fun k9 st Ql hH=>?_;refine qS hH aG fun st hH=>?_;dsimp only[u2,u1,u3,u4,setMany,u5,u6,D.cells,Nat.reduceAdd,tC,bR] at hH;refine zQ 4 ?_;refine ae.aO (m:=8) (r:=tC p) hH rfl (ev rfl) aV rfl rfl rfl (aa rfl _) ?_;refine ae.aO (m:=8) (r:=tC q) hH rfl (ev rfl) aG rfl rfl rfl (aa rfl _) ?_;refine qv (hf _ p (List.mem_of_getElem? hp) q (List.mem_of_getElem? hq)) ?_;refine zQ 2 ?_
   cases hs:p.same q with
   |false=>
    refine ag.cond (v:=true) (by dsimp only[Fr.ev,Fr.get,nth,V.look];rfl) (fun _=>?_) (fun h=>by cases h);rw[hs,Bool.false_and] at ht;refine zQ 4 ?_;rw[←ht];refine ag.ret ⟨rx,_,rfl,rl aW hH (rfl)⟩
   |true=>
    refine ag.cond (v:=false) (by dsimp only[Fr.ev,Fr.get,nth,V.look];rfl) (fun h=>by cases h) (fun _=>?_);rw[hs,Bool.true_and] at ht;refine zQ 1 ?_;have hH:=hH.drop 2;refine zQ 4 ?_;exact⟨mm-1,by omega,⟨i+1,rfl,hH,by omega,ht⟩⟩
  ·refine zQ 5 ?_;rw[←ht];have he:i=l.length:=by omega
   rw[he,List.drop_length,show l.length=k.length from hlen,List.drop_length];refine ag.ret ⟨rx,_,rfl,rl aW hH (rfl)⟩
 ·have hc:((((l.length:Nat):Int) !=((k.length:Nat):Int)))=true:=by simp;omega
  refine qD rfl (by rw[hc]) ?_;refine zQ 4 ?_
  have hn:fH l k=false:=by
   cases hs:fH l k with
   |false=>rfl
   |true=>exact absurd (sn _ _ hs) hlen
  rw[hn];refine ag.ret ⟨rx,_,rfl,rl aW hH (rfl)⟩
theorem AQ (a b c d e f g:Bool):(a &&b &&c &&d &&e &&f &&g)=(!(!a||!b||!c||!d||!e||!f) &&g):=by
 cases a<;>cases b<;>cases c<;>cases d<;>cases e<;>cases f<;>rfl
theorem zz:∀(n:Nat) (t u:Tr),t.eW≤n→n≤1048576→u.eW≤1048576→t.fa lY→u.fa lY→∀s0:St,Ev pv 84 [.agg (tC t),.agg (tC u)] s0 (.bool (t.same u)) s0
 |0,t,u,h,_,_,_,_,_=>by have:=Tr.dF t;omega
 |n+1,t,u,h,hn,hu,hfa,hfb,s0=>by
  have Kx:=Tr.dF t;have gU:=cy t.ks;have rL:=(Tr.dQ.1 hfa).2;have Sz:=Tr.dF u;have Kv:=cy u.ks;have Kw:=(Tr.dQ.1 hfb).2;obtain⟨u7,gr⟩:=(Tr.dQ.1 hfa).1;obtain⟨Ad,F'⟩:=(Tr.dQ.1 hfb).1;have yK:∀st:St,∀k∈t.ks,∀j∈u.ks,Ev pv 84 ([.agg (tC k),.agg (tC j)]++[]) st (.bool (k.same j)) st:=fun st k hk j hj=>zz n k j (by have:=eH hk;omega) (by omega) (by have:=eH hj;omega) (rL k hk) (Kw j hj) st;have D1:∀st,Ev pv 100 [dq t.ks,dq u.ks,.fn 84 []] st (.bool (fH t.ks u.ks)) st:=fun st=>Ee (dY st rL) (dY st Kw) (by omega) (by omega) yK;have heq:∀st,Ev pv 96 [t.n.rd,u.n.rd] st (.bool (decide (t.n.rs=u.n.rs))) st:=fun st=>by rw[u7,Ad];exact xf (b_ st _) (b_ st _) (by omega) (by omega)
  have Tt:(t.n.rs==u.n.rs)=decide (t.n.rs=u.n.rs):=by rw[Bool.eq_iff_iff,beq_iff_eq,decide_eq_true_eq]
  rw[Tr.Fc,Tt,AQ];refine Ev.jL rfl On rfl rfl rfl ?_;refine zE ?_;obtain⟨aW,hF,hH⟩:=ri s0;generalize ai .ro s0=S at*;refine qq<|qj fun K hK=>qb hH fun k2 st hk2 hH=>?_;dsimp only[u2,u1,u3,u4,setMany,u5,u6,D.cells,Nat.reduceAdd,tC,bR,aE] at hH;refine qb hH fun k3 st Ib hH=>?_;dsimp only[u2,u1,u3,u4,setMany,u5,u6,D.cells,Nat.reduceAdd,tC,bR,aE] at hH;refine qm ?_;refine qe hK ?_;have hA:=hH;change ag _ _ _ _ _ _;refine qq ?_;generalize hK:bf _ _ _ _=K;refine ag.Fo rfl ?_;refine fm.cons ?_;refine qp (o:=0) ?_;refine ae.nil ⟨rfl,?_⟩;refine fm.cons ?_;refine ae.aO (m:=7) hH rfl (ev rfl) (by exact aV) (by dsimp only[List.drop_succ_cons,List.drop_zero,List.take_succ_cons,List.take_zero,tC,bR,aE]<;>rfl) rfl rfl (aa rfl _) ?_;refine ae.nil ⟨rfl,?_⟩;refine fm.cons ?_;refine qp (o:=0) ?_;refine ae.nil ⟨rfl,?_⟩;refine fm.cons ?_;refine ae.aO (m:=7) hH rfl (ev rfl) (by exact aG) (by dsimp only[List.drop_succ_cons,List.drop_zero,List.take_succ_cons,List.take_zero,tC,bR,aE]<;>rfl) rfl rfl (aa rfl _) ?_;refine ae.nil ⟨rfl,?_⟩;refine fm.cons ?_;refine qa hH fun k5 st DQ hH=>?_;refine ae.nil ⟨rfl,?_⟩;refine fm.cons ?_;refine qa hH fun k6 st I9 hH=>?_;refine ae.nil ⟨rfl,?_⟩;refine fm.cons ?_;have hB:=hH;refine ae.bP hH rfl (ev rfl) (ev rfl) rfl (by exact rfl) aV (by exact rfl) (.inl hF) (fun st hH=>?_);dsimp only[u1,u2] at hH;refine ae.nil ⟨by exact Bool.and_eq_true_iff.2 ⟨BW rfl rfl rfl (hB.at b8) (hH.at b8) (hA.at aG) (by simp[refs,D.ref,Ad,aL,dq]),rfl⟩,?_⟩;refine fm.cons ?_;refine qS hH aG fun st hH=>?_;dsimp only[u2,u1,u3,u4,setMany,u5,u6,D.cells,Nat.reduceAdd,tC,bR,aE] at hH;refine ae.nil ⟨rfl,?_⟩;refine fm.nil ?_;subst hK;refine qq<|qq<|ag.mJ 51 (.bool (t.n.op !=u.n.op||t.n.mn !=u.n.mn||t.n.mx !=u.n.mx||t.n.lz !=u.n.lz||t.n.cap !=u.n.cap||!decide (t.n.rs=u.n.rs))) [] ?_ (fun ff tmp fg=>?_)
  ·refine qp (o:=0) ?_;refine ql hH aV ?_;refine qp (o:=0) ?_;refine ql hH aG ?_;refine qg ?_;refine qm ?_;refine ae.two 16 rfl (fun fY=>?_) (fun fY=>?_)
   ·refine qs ?_ (hg:=wn fY);refine qs ?_ (hg:=wn fY);refine qs ?_ (hg:=wn fY);refine qs ?_ (hg:=wn fY);refine qs ?_ (hg:=wn fY);refine qt fY ?_;refine qm ?_;refine qs ?_;refine qs ?_;refine qs ?_;refine qs ?_;refine qs ?_;refine qg ?_;refine qm ?_;refine qs ?_;refine qs ?_;refine qs ?_;refine qs ?_;refine qs ?_;refine qg ?_;refine qm ?_;refine qs ?_;refine qs ?_;refine qs ?_;refine qs ?_;refine qs ?_;refine qg ?_;refine qm ?_;refine qs ?_;refine qs ?_;refine qs ?_;refine qs ?_;refine qs ?_;refine qs ?_;refine qg ?_;refine ae.nil (dn ?_ ?_)
    ·dsimp only[bd,List.foldl,nth,u2,u1]
     all_goals(first|rfl|simp)
    ·refine zF ?_
     all_goals(simp[fY];done)
   ·refine qp (o:=2) ?_ (hg:=wi fY);refine ql hH aV ?_ (hg:=wi fY);refine qp (o:=2) ?_ (hg:=wi fY);refine ql hH aG ?_ (hg:=wi fY);refine qg ?_ (hg:=wi fY);refine qu fY ?_;refine qm ?_;refine ae.two 23 rfl (fun gu=>?_) (fun gu=>?_)
    ·refine qs ?_ (hg:=wn gu);refine qs ?_ (hg:=wn gu);refine qs ?_ (hg:=wn gu);refine qs ?_ (hg:=wn gu);refine qs ?_ (hg:=wn gu);refine qt gu ?_;refine qm ?_;refine qs ?_;refine qs ?_;refine qs ?_;refine qs ?_;refine qs ?_;refine qg ?_;refine qm ?_;refine qs ?_;refine qs ?_;refine qs ?_;refine qs ?_;refine qs ?_;refine qg ?_;refine qm ?_;refine qs ?_;refine qs ?_;refine qs ?_;refine qs ?_;refine qs ?_;refine qs ?_;refine qg ?_;refine ae.nil (dn ?_ ?_)
     ·dsimp only[bd,List.foldl,nth,u2,u1]
      all_goals(first|rfl|simp)
     ·refine zF ?_
      all_goals(simp[fY,gu];done)
    ·refine qp (o:=3) ?_ (hg:=wi gu);refine ql hH aV ?_ (hg:=wi gu);refine qp (o:=3) ?_ (hg:=wi gu);refine ql hH aG ?_ (hg:=wi gu);refine qg ?_ (hg:=wi gu);refine qu gu ?_;refine qm ?_;refine ae.two 30 rfl (fun lN=>?_) (fun lN=>?_)
     ·refine qs ?_ (hg:=wn lN);refine qs ?_ (hg:=wn lN);refine qs ?_ (hg:=wn lN);refine qs ?_ (hg:=wn lN);refine qs ?_ (hg:=wn lN);refine qt lN ?_;refine qm ?_;refine qs ?_;refine qs ?_;refine qs ?_;refine qs ?_;refine qs ?_;refine qg ?_;refine qm ?_;refine qs ?_;refine qs ?_;refine qs ?_;refine qs ?_;refine qs ?_;refine qs ?_;refine qg ?_;refine ae.nil (dn ?_ ?_)
      ·dsimp only[bd,List.foldl,nth,u2,u1]
       all_goals(first|rfl|simp)
      ·refine zF ?_
       all_goals(simp[fY,gu,lN];done)
     ·refine qp (o:=4) ?_ (hg:=wi lN);refine ql hH aV ?_ (hg:=wi lN);refine qp (o:=4) ?_ (hg:=wi lN);refine ql hH aG ?_ (hg:=wi lN);refine qg ?_ (hg:=wi lN);refine qu lN ?_;refine qm ?_;refine ae.two 37 rfl (fun cg=>?_) (fun cg=>?_)
      ·refine qs ?_ (hg:=wn cg);refine qs ?_ (hg:=wn cg);refine qs ?_ (hg:=wn cg);refine qs ?_ (hg:=wn cg);refine qs ?_ (hg:=wn cg);refine qt cg ?_;refine qm ?_;refine qs ?_;refine qs ?_;refine qs ?_;refine qs ?_;refine qs ?_;refine qs ?_;refine qg ?_;refine ae.nil (dn ?_ ?_)
       ·dsimp only[bd,List.foldl,nth,u2,u1]
        all_goals(first|rfl|simp)
       ·refine zF ?_
        all_goals(simp_all;done)
      ·refine qp (o:=5) ?_ (hg:=wi cg);refine ql hH aV ?_ (hg:=wi cg);refine qp (o:=5) ?_ (hg:=wi cg);refine ql hH aG ?_ (hg:=wi cg);refine qg ?_ (hg:=wi cg);refine qu cg ?_;refine qm ?_;refine ae.two 44 rfl (fun kV=>?_) (fun kV=>?_)
       ·refine qs ?_ (hg:=wn kV);refine qs ?_ (hg:=wn kV);refine qs ?_ (hg:=wn kV);refine qs ?_ (hg:=wn kV);refine qs ?_ (hg:=wn kV);refine qs ?_ (hg:=wn kV);refine qt kV ?_;refine ae.nil (dn ?_ ?_)
        ·dsimp only[bd,List.foldl,nth,u2,u1]
         all_goals(first|rfl|simp)
        ·refine zF ?_
         all_goals(simp[fY,gu,lN,cg,kV];done)
       ·refine qp (o:=1) ?_ (hg:=wi kV);refine ql hH aV ?_ (hg:=wi kV);refine qp (o:=1) ?_ (hg:=wi kV);refine ql hH aG ?_ (hg:=wi kV);refine qv (heq _) ?_ (hg:=wi kV);refine qg ?_ (hg:=wi kV);refine qu kV ?_;refine ae.nil (dn ?_ ?_)
        ·dsimp only[bd,List.foldl,nth,u2,u1]
         all_goals(first|rfl|simp)
        ·refine zF ?_
         all_goals(simp_all;done)
  dsimp only[bd,List.foldl,nth,u2,u1];show ag _ _ _ _ _ _;have hE:(!(t.n.op==u.n.op)||!(t.n.mn==u.n.mn)||!(t.n.mx==u.n.mx)||!(t.n.lz==u.n.lz)||!(t.n.cap==u.n.cap)||!decide (t.n.rs=u.n.rs))=(t.n.op !=u.n.op||t.n.mn !=u.n.mn||t.n.mx !=u.n.mx||t.n.lz !=u.n.lz||t.n.cap !=u.n.cap||!decide (t.n.rs=u.n.rs)):=rfl;rw[hE]
  cases he:(t.n.op !=u.n.op||t.n.mn !=u.n.mn||t.n.mx !=u.n.mx||t.n.lz !=u.n.lz||t.n.cap !=u.n.cap||!decide (t.n.rs=u.n.rs)) with
  |true=>
   rw[he] at fg;refine qB ?_;refine qq<|qj fun K hK=>qm ?_;refine qe hK<|ag.ret ⟨rx,_,rfl,rl aW hH (rfl)⟩
  |false=>
   rw[he] at fg;refine qC ?_;refine ag.skip<|qq<|qj fun K hK=>qp (o:=7) ?_;refine ql hH dw ?_;refine qp (o:=7) ?_;refine ql hH b8 ?_;refine qv (D1 _) ?_;refine qm ?_;refine qe hK<|ag.ret ⟨rx,_,rfl,rl aW hH (rfl)⟩
end Go.Proofs.YtpcicphadikioaaGreat
namespace Go.V
variable{N:Nat} {S st:St} {H:List bh}
theorem Has.Fk (A B:List bh) (h:Has N S st (A++(B++H))):Has N S st (B++(A++H)):=by
 refine h.sub (fun i=>if i<B.length then i+A.length else if i<B.length+A.length then i-B.length else i) (fun a b e=>?_) fun i e hi=>?_
 ·have e':(if a<B.length then a+A.length else if a<B.length+A.length then a-B.length else a)=(if b<B.length then b+A.length else if b<B.length+A.length then b-B.length else b):=e
  repeat' split at e'
  all_goals omega
 ·show(A++(B++H))[if i<B.length then i+A.length else if i<B.length+A.length then i-B.length else i]?=some e
  by_cases h1:i<B.length
  ·rw[if_pos h1,List.getElem?_append_right (by omega),Nat.add_sub_cancel,List.getElem?_append_left h1]
   rwa [List.getElem?_append_left h1] at hi
  ·rw[List.getElem?_append_right (by omega)] at hi
   by_cases h2:i<B.length+A.length
   ·rw[if_neg h1,if_pos h2,List.getElem?_append_left (by omega)]
    rwa [List.getElem?_append_left (by omega)] at hi
   ·rw[if_neg h1,if_neg h2,List.getElem?_append_right (by omega),List.getElem?_append_right (by omega)];rw[List.getElem?_append_right (by omega)] at hi;rw[←hi];congr 1;omega
theorem Has.cV {j:Nat} {e:bh} (h:Has N S st (e::H)) (hj:j<H.length):Has N S st (H.set j e):=
 Has.back (h.erase (j+1)) hj
theorem tn {x y:Oper} {fi fj:Fr} {si o0 sj ES:St} {a:Operand} {k aq off v:Nat} {ar:Bool} {c:List D} (hy:gj y.op=none) (hx:gj x.op=some a) (ha:fi.ev a=.ptr k aq off) (h1:sj.bs[k]?=some (.mem v ar c)) (h2:ES.bs[k]?=some (.mem v ar c)) (h3:si.bs[k]?=some (.mem v ar c)) (hr:refs c≤si.bs.length):hC x fi si o0 y fj sj ES=true:=by
 unfold hC;simp only[hy,hx,ha,D.lT,Bool.and_eq_true];refine⟨ni h1 h2,?_⟩;unfold lA;simp only[h3]
 split
 ·rfl
 ·simpa using hr
theorem Has.clear {P:Pv} {j:Nat} {x:D} {s:Nat} {es:List (List D)} {t e:TypeId} {z:List D} (h:Has N S st H) (hj:H[j]?=some (.aD x s es)) (ht:P.bY t=some (.slice e)) (hz:cE P e=some z) (jJ:z.length=s) (hr:refs z=0):
  ∃ah,iR P [t] x st=some (.tup [],ah)∧Has N S ah (H.set j (.aD x s (List.replicate es.length z))):=by
 have uH:=(h.ok j _ hj).2;have hown:=h.own hj
 have hjl:j<H.length:=by
  rcases Nat.lt_or_ge j H.length with h'|h'
  ·exact h'
  ·rw[List.getElem?_eq_none h'] at hj;cases hj
 cases hown with
 |nul=>
  refine⟨st,by simp only[iR,ht],?_⟩
  have:H.set j (.aD .nul s (List.replicate ([]:List (List D)).length z))=H:=by
   refine List.ext_getElem? fun i=>?_
   by_cases hi:i=j
   ·subst hi;rw[List.getElem?_set_self hjl,hj];rfl
   ·rw[List.getElem?_set_ne (fun e=>hi e.symm)]
  rw[this];exact h
 |win k aq off es c hm hle hc he=>
  have hk:=uH k (by simp only[bh.aD,D.ref])
  have EW:∀n,refs (Go.V.cV n z)=0:=by
   intro n;unfold Go.V.cV
   induction n with
   |zero=>rfl
   |succ n ih=>
    rw[List.replicate_succ,List.flatten_cons]
    have uK:∀(a b:List D),refs a=0→refs b=0→refs (a++b)=0:=by
     intro a
     induction a with
     |nil=>intro b _ hb;exact hb
     |cons d a B7=>
      intro b ha hb;simp only[refs,List.cons_append] at ha⊢;have:=B7 b (by omega) hb;omega
    exact uK _ _ hr ih
  have xF:(Go.V.cV es.length z).length=es.length*s:=by
   unfold Go.V.cV;rw[bN (s:=s) (fun e he=>by rw[(List.mem_replicate.1 he).2];exact jJ),List.length_replicate]
  have hw:st.wr k aq off (Go.V.cV es.length z)=some ⟨st.bs.set k (.mem aq true (c.take off++Go.V.cV es.length z++c.drop (off+(Go.V.cV es.length z).length))),st.flr,st.ro⟩:=iJ hm (by omega) (eJ h hk.1 (.inr (EW _)));refine⟨_,by simp only[iR,ht,hz,Option.bind_some];rw[if_pos jJ,hw];rfl,?_⟩;refine h.zn hj (fun n hn hne=>?_) (by simp) rfl rfl ?_ (fun n hn=>.inl hn) fun n hn=>?_
  ·simp only;rw[List.getElem?_set_ne (fun e=>hne (by simp only[bh.aD,D.ref];omega))]
  ·have wV:∀e'∈List.replicate es.length z,e'.length=s:=fun e' oB=>by rw[(List.mem_replicate.1 oB).2];exact jJ
   have:=fF.win (st:=⟨st.bs.set k (.mem aq true (c.take off++Go.V.cV es.length z++c.drop (off+(Go.V.cV es.length z).length))),st.flr,st.ro⟩) (s:=s) k aq off (List.replicate es.length z) (c.take off++Go.V.cV es.length z++c.drop (off+(Go.V.cV es.length z).length))
    (by simp only;rw[List.getElem?_set_self hk.2]) (by rw[List.length_replicate];simp;omega) ?_ wV
   ·rw[List.length_replicate] at this;exact this
   ·rw[List.length_replicate,List.append_assoc,List.drop_append_of_le_length (by simp;omega),List.drop_take,Nat.sub_self,List.take_zero,List.nil_append,←xF,List.take_left']
    ·rfl
    ·rfl
  ·simp only[bh.aD,D.ref] at hn;have:n=k:=by omega
   subst this
   simpa using hk.2
variable{P:Pv} {ops:Array Oper} {rest:List Oper} {fr aA:Fr} {Q:Fr→St→Prop} {ty:TypeId} {pp:String} {a:Array Edge} {g:Option (Nat×Bool)} {dst:Nat}
end Go.V
namespace Go.Proofs.YtpcicphadikioaaGreat
open Go.V Go
def bL (fr:Go.V.Fr) (k:Nat):Go.V.D:=Go.V.nth .aY fr.loc k
theorem G8 {P:bn→Prop} (l:List Tr):(∀n∈(dH l).flat,P n)↔∀t∈l,t.fa P:=by rw[←aJ.fx,tF,lh]
theorem rD {l:List Tr} {i:Nat} {t:Tr} (h:l[i]?=some t):(dH (l.drop i)).flat=t.flat++(dH (l.drop (i+1))).flat:=by
 obtain⟨h3,h4⟩:=List.getElem?_eq_some_iff.1 h;rw[List.drop_eq_getElem_cons h3,h4];rfl
theorem Tr.Gf (t:Tr):t.flat=t.n::(dH t.ks).flat:=by
 cases t;simp only[Tr.flat,Tr.n,Tr.ks,Co]
theorem Tr.JB {t:Tr}:t.ok↔sC t.n t.ks.length∧∀k∈t.ks,k.ok:=by
 cases t with
 |mk n ks=>
  have:∀ks:aJ,ks.ok↔∀k∈ks.l,k.ok:=by
   intro ks
   induction ks using aJ.rec (motive_1:=fun _=>True) with
   |mk n ks _=>trivial
   |nil=>simp[aJ.ok,aJ.l]
   |cons t ts _ ih=>simp only[aJ.ok,aJ.l,List.mem_cons,forall_eq_or_imp,ih]
  simp only[Tr.ok,Tr.n,Tr.ks,lZ,this]
theorem EA {n:Nat} (h:1≤n):cD n (some (.int .i64 1)) none=some (1,n):=by
 have h1:(1:Int)≤(n:Int):=by omega
 simp[cD,hD,jF,h1]
theorem Cs {α:Type} (l:List α) (n:Nat) (h:l.length≤n):l.take n=l:=List.take_of_length_le h
def tz:List D:=[.int .i64 0,.nul,.int .i64 0,.int .i64 0,.bool false,.int .i64 0,.int .i64 0,.nul]
theorem Ak : ∀ (m : Nat) (t : Tr) (rest : List bn), t.eW ≤ m → m ≤ 1048576 → t.ok → (∀ n ∈ t.flat ++ rest, lX n) → ∀ (s0 : St) (x : D), eZ x 7 ((t.flat ++ rest).map aE) → ∃ d, Ev pv 33 [x] s0 d s0 ∧ ∃ y, d = .tup [.agg (tC t), y] ∧ eZ y 7 (rest.map aE)
 | 0, t, rest, h, _, _, _, _, _, _ => by have := Tr.dF t; omega
 | m + 1, t, rest, h, hm, eC, hv, s0, x, Mp => by
  have Kx := Tr.dF t;have gU := cy t.ks;obtain ⟨ho, sW⟩ := Tr.JB.1 eC;have hkk : t.n.kids = (t.ks.length : Nat) := ho.1;have iU := Tr.Gf t;rw [iU, List.cons_append] at hv Mp;have gJ : ((t.n :: ((dH t.ks).flat ++ rest)).map aE)[0]? = some (aE t.n) := rfl;have Sk := hv t.n (List.mem_cons_self ..);refine Ev.Bd rfl O0 rfl rfl rfl ?_;refine zE ?_;obtain ⟨aW, hF, hH⟩ := ri s0;generalize ai .ro s0 = S at *;have hx := Mp.arg s0.bs.length S;refine zQ 2 ?_;refine qa hH fun k2 st hk2 hH => ?_;refine zQ 5 ?_;refine qr fun p7 Uu => ?_;refine ae.cJ rfl (ev rfl) (by assumption) rfl (by dsimp only [Fr.put, u1, u2] <;> rfl) ?_;refine ae.go (d := .agg (aE t.n ++ [.nul])) (st1 := _) rfl rfl rfl (by dsimp only [Fr.put, u1, u2] <;> rfl) ?_;refine qa hH fun k4 st I_ hH => ?_;refine qS hH aG fun st hH => ?_;dsimp only [u2, u1, u3, u4, setMany, u5, u6, D.cells, Nat.reduceAdd, tC, bR, aE] at hH;refine zQ 4 ?_;refine ae.Hm (l := 1) (r := ((t.n :: ((dH t.ks).flat ++ rest)).map aE).length) rfl (ev rfl) Mp rfl rfl (EA (by simp)) (fun _ => by dsimp only [Fr.put, u1, u2] <;> rfl) (fun QJ JT => ?_);refine zQ 2 ?_;rw [Cs _ _ (Nat.le_refl _), List.map_cons, List.drop_succ_cons, List.drop_zero] at JT;refine zQ 8 ?_;have hH : Has s0.bs.length S st (.box k4 (.mem 0 false (bR t.n .nul)) :: .aD .nul 8 (([] : List Tr).map tC) :: .box k2 (.mem 0 false tz) :: []) := Has.Fk [_] [_] (hH.dU 8);refine zQ 1 ?_;refine ag.loop (fun mm fr st => ∃ (i : Nat) (y kd : D), fr.clean = ⟨16, [y, bL fr 1, .ptr k2 0 0, bL fr 3, .ptr k4 0 0, bL fr 5, bL fr 6, bL fr 7, bL fr 8, bL fr 9, bL fr 10, bL fr 11, bL fr 12, bL fr 13, .int .i64 t.n.kids, .int .i64 (i : Nat)], []⟩ ∧ Has s0.bs.length S st (.box k4 (.mem 0 false (bR t.n kd)) :: .aD kd 8 ((t.ks.take i).map tC) :: .box k2 (.mem 0 false tz) :: []) ∧ (i + mm = t.ks.length) ∧ (eZ y 7 (((dH (t.ks.drop i)).flat ++ rest).map aE)) ∧ (∀ k, kd.ref = k + 1 → S.bs.length ≤ k)) (t.ks.length) ?_ ?_
  ·exact ⟨0, QJ, .nul, rfl, hH, by omega, JT, fun k hk => by simp only [D.ref] at hk; omega⟩
  rintro mm fr st ⟨i, y, kd, hfr, hH, hi, hy, gA⟩;rw [hfr];clear hfr;generalize bL fr = ee;clear fr;refine zQ 5 ?_;refine zP (fun h1 => ?_) fun h1 => ?_
  ·refine zQ 1 ?_
   obtain ⟨p, hp⟩ : ∃ p, t.ks[i]? = some p := ⟨t.ks[i]'(by omega), List.getElem?_eq_getElem _⟩
   have uB := List.mem_of_getElem? hp;have Qg := eH uB;rw [rD hp, List.append_assoc] at hy;have hall := (G8 (P := lX) t.ks).1 (fun n hn => hv n (List.mem_cons_of_mem _ (List.mem_append_left _ hn)))
   have HS : ∀ n ∈ p.flat ++ ((dH (t.ks.drop (i + 1))).flat ++ rest), lX n := by
    intro n hn
    rcases List.mem_append.1 hn with hn | hn
    ·exact (Tr.fx p).1 (hall p uB) n hn
    rcases List.mem_append.1 hn with hn | hn
    ·exact (G8 _).2 (fun k hk => hall k (List.mem_of_mem_drop hk)) n hn
    ·exact hv n (List.mem_cons_of_mem _ (List.mem_append_right _ hn))
   have xH := fun st => Ak m p _ (by omega) (by omega) (sW p uB) HS st y hy;refine zQ 4 ?_;refine qa hH fun k5 st DQ hH => ?_;dsimp only [u2, u1, u3, u4, setMany, u5, u6, D.cells, Nat.reduceAdd, tC, bR, aE] at hH;refine zQ 4 ?_;obtain ⟨d, aF, y2, rfl, wM⟩ := xH st;refine qv aF ?_;refine zQ 3 ?_;refine qS hH aG fun st hH => ?_;dsimp only [u2, u1, u3, u4, setMany, u5, u6, D.cells, Nat.reduceAdd, tC, bR, aE] at hH;refine zQ 2 ?_;have hH : Has s0.bs.length S st (.box k5 (.mem 0 false (tC p)) :: .box k4 (.mem 0 false (bR t.n kd)) :: .aD kd 8 ((t.ks.take i).map tC) :: .box k2 (.mem 0 false tz) :: []) := hH;refine zQ 2 ?_;refine ae.ib hH rfl (ev rfl) aV rfl (aa rfl _) ?_;refine ae.aO (m := 8) (r := tC p) hH rfl (ev rfl) aG rfl rfl rfl (aa rfl _) ?_;refine qh (s := 8) (vs := [_]) hH fun k25 st Nz hH => ?_;dsimp only [u2, u1, u3, u4, setMany, u5, u6, D.cells, Nat.reduceAdd, tC, bR, aE] at hH;refine ae.cj (s := 8) hH rfl (ev rfl) (ev rfl) dw (hH.rows aG) rfl rfl rfl rfl rfl rfl rfl ⟨(Nat.le_of_ble_eq_true rfl), (Nat.le_of_ble_eq_true rfl)⟩ (fun _ => (aa rfl _)) (by simp only [List.length_map, List.length_take, List.length_cons, List.length_nil]; omega) (.inl hF) gA (fun LS st gA hH => ?_);dsimp only [u1, u2] at hH;refine zQ 1 ?_;refine qT hH b8 (fun st hH => ?_) (hcs := hH.eO dw);dsimp only [u2, u1, u3, u4, setMany, u5, u6, D.cells, Nat.reduceAdd, tC, bR, aE] at hH;refine zQ 1 ?_;have hH := hH.drop 2;refine zQ 4 ?_;exact ⟨mm - 1, by omega, ⟨i + 1, y2, LS, rfl, (by rw [List.take_add_one, hp, List.map_append]; exact hH), by omega, wM, gA⟩⟩
  ·refine zQ 1 ?_;have he : i = t.ks.length := by rw [hkk] at h1; omega
   rw [he, List.drop_length] at hy;rw [he, List.take_length] at hH;have hall := (G8 (P := lX) t.ks).1 (fun n hn => hv n (List.mem_cons_of_mem _ (List.mem_append_left _ hn)));have NM : ∀ k ∈ t.ks, k.fa lY := fun k hk => (Tr.fx k).2 (fun n hn => ⟨((Tr.fx k).1 (hall k hk) n hn).1, ((Tr.fx k).1 (hall k hk) n hn).2.1⟩);refine zQ 2 ?_;refine ae.aO (m := 8) (r := bR t.n kd) hH rfl (ev rfl) aG rfl rfl rfl (aa rfl _) ?_;refine qm ?_;refine ae.bP hH rfl (ev rfl) (ev rfl) rfl (by exact rfl) b8 (by exact rfl) (.inl hF) (fun st hH => ?_);dsimp only [u1, u2] at hH;refine zQ 2 ?_;have hH : Has s0.bs.length S st (.box k4 (.mem 0 false (bR t.n kd)) :: .aD kd 8 (t.ks.map tC) :: .box k2 (.mem 0 false (bR t.n kd)) :: []) := hH;obtain ⟨y', hy1, wM⟩ := hy.freeze st s0.bs.length 14;have Bv : aB st s0.bs.length false 14 kd = some (dq t.ks) := by rw [lI]; exact hH.freeze aV (ku NM) (n := 13) (by decide)
   have N4 : aB st s0.bs.length false 15 (.agg (bR t.n kd)) = some (.agg (tC t)) := by
    show (cH (aB st s0.bs.length false 14) (bR t.n kd)).map D.agg = _;have xD : aB st s0.bs.length false 14 t.n.rd = some t.n.rd := by rw [Sk.1]; rfl
    simp only [bR, cH, Bv, xD]
    rfl
   refine ag.ret ⟨rx, _, _, hH.vK rfl b8 rfl rfl, rl aW hH (d' := .tup [.agg (tC t), y']) ?_, y', rfl, ?_⟩
   ·show (cH (aB st s0.bs.length false 15) [.agg (bR t.n kd), y]).map D.tup = _;simp only [cH, N4, hy1]
    rfl
   ·exact wM
theorem wv {g:D→Option D} {f:D→D}:∀{l:List D},(∀d∈l,g d=some (f d))→cH g l=some (l.map f)
 |[],_=>rfl
 |d::l,h=>by simp only[cH,h d (List.mem_cons_self ..),wv (fun d hd=>h d (List.mem_cons_of_mem _ hd)),List.map_cons]
theorem BJ {N L j:Nat} {S st:St} {H:List bh} {x:D} {s:Nat} {es:List (List D)} {f:D→D} (hH:Has N S st H) (hj:H[j]?=some (.aD x s es)) (hx:∀k,x.ref=k+1→L≤k) {n:Nat} (hp:∀e∈es,∀d∈e,cw st L (n+1) d=some (f d)):aB st L false (n+3) x=some (.sl ((es.map (·.map f)).map (jn s))):=by
 have hown:=hH.own hj
 cases hown with
 |nul=>rfl
 |win k aq off es c hm hl hc he=>
  have hk:=hx k (by simp only[D.ref]);show(if k<L then some (D.win k aq off es.length s) else cw st L (n+2) (.win k aq off es.length s))=_;rw[if_neg (show¬k<L by omega),cw];simp only[if_neg (show¬k<L by omega),St.mem_of hm,Option.bind_some]
  rw[if_pos hl,hc,wv (f:=f) (fun d hd=>by
   obtain⟨e,oB,xJ⟩:=List.mem_flatten.1 hd
   exact hp e oB d xJ)]
  have h1:(es.map (·.map f)).flatten=es.flatten.map f:=by rw[List.map_flatten]
  have h2:(es.map (·.map f)).length=es.length:=List.length_map _
  have h3:∀e∈es.map (·.map f),e.length=s:=by
   intro e oB;obtain⟨e0,h0,rfl⟩:=List.mem_map.1 oB;rw[List.length_map];exact he e0 h0
  simp only[Option.map_some];rw[←h1,←h2,eX h3]
theorem Fx {N L j:Nat} {S st:St} {H:List bh} {x v:D} {s:Nat} {es:List (List D)} (hH:Has N S st H) (hj:H[j]?=some (.aD x s es)) (hx:∀k,x.ref=k+1→L≤k) {n:Nat} (h:aB st L false (n+2) x=some v):cw st L (n+1) x=some v:=by
 have hown:=hH.own hj
 cases hown with
 |nul=>exact h
 |win k aq off es c hm hl hc he=>
  have hk:=hx k (by simp only[D.ref]);have h2:(if k<L then some (D.win k aq off es.length s) else cw st L (n+1) (.win k aq off es.length s))=some v:=h
  rwa [if_neg (show¬k<L by omega)] at h2
theorem An:∀l:List Tr,(l.flatMap Tr.nN).length=bO l
 |[]=>rfl
 |t::l=>by rw[List.flatMap_cons,List.length_append,Tr.jD,bE,An l]
theorem kP {l:List Tr} {i:Nat} {k:Tr} (h:l[i]?=some k):bO (l.take i)+k.eW≤bO l:=by
 have h1:l.take (i+1)=l.take i++[k]:=by rw[List.take_add_one,h];rfl
 have h2:=ji (l.take (i+1)) (l.drop (i+1));rw[List.take_append_drop,h1,ji] at h2;have h3:bO [k]=k.eW:=by simp[bO]
 omega
theorem yj {st:St} {N n:Nat} {d:D} (h:bK d=true):cw st N (n+1) d=some d:=by
 cases d<;>simp[bK] at h<;>rfl
def fN (n:bn) (x:D) (k:Nat):List D:=[.int .i64 n.op,x,.int .i64 n.mn,.int .i64 n.mx,.bool n.lz,.int .i64 n.cap,.int .i64 (k:Nat)]
theorem Df {f:D→D} {l:List bn} (h:∀n∈l,∀d∈aE n,f d=d):(l.map aE).map (·.map f)=l.map aE:=by
 rw[List.map_map];apply List.map_congr_left;intro n hn;have h1:(aE n).map f=(aE n).map id:=List.map_congr_left (fun d hd=>h n hn d hd);show(aE n).map f=aE n;rw[h1,List.map_id]
theorem Ao:∀(m:Nat) (t:Tr),t.eW≤m→m≤1048576→t.fa lY→∀s0:St,Ev pv 35 [.agg (tC t)] s0 (pT t.nN) s0
 |0,t,h,_,_,_=>by have:=Tr.dF t;omega
 |m+1,t,h,hm,hfa,s0=>by
  have Kx:=Tr.dF t;have gU:=cy t.ks;have rL:=(Tr.dQ.1 hfa).2;obtain⟨u7,gr⟩:=(Tr.dQ.1 hfa).1;rw[Tr.D'];refine Ev.jL rfl OY rfl rfl rfl ?_;refine zE ?_;obtain⟨aW,hF,hH⟩:=ri s0;generalize ai .ro s0=S at*;have rK:V.Rows s0 8 (dq t.ks) (t.ks.map tC):=dY s0 rL;have mD:=Arg.of rK aW;refine zQ 2 ?_;refine qb hH fun k1 st lL hH=>?_;dsimp only[u2,u1,u3,u4,setMany,u5,u6,D.cells,Nat.reduceAdd,tC,bR,aE] at hH;refine zQ 5 ?_;refine ae.aO (m:=7) hH rfl (ev rfl) (by exact aG) (by dsimp only[List.drop_succ_cons,List.drop_zero,List.take_succ_cons,List.take_zero,tC,bR,aE]<;>rfl) rfl rfl (by dsimp only[Fr.put,u1,u2]<;>rfl) ?_;refine qa hH fun k3 st Ib hH=>?_;refine qS hH aG fun st hH=>?_;dsimp only[u2,u1,u3,u4,setMany,u5,u6,D.cells,Nat.reduceAdd,tC,bR,aE] at hH;refine zQ 5 ?_;refine qn ?_;simp only[List.length_map];refine zQ 1 ?_;refine qT hH aG fun st hH=>?_;dsimp only[u2,u1,u3,u4,setMany,u5,u6,D.cells,Nat.reduceAdd,tC,bR,aE] at hH;refine zQ 1 ?_;have hH:Has s0.bs.length S st (.aD .nul 2 []::.box k3 (.mem 0 false [.int .i64 t.n.op,t.n.rd,.int .i64 t.n.mn,.int .i64 t.n.mx,.bool t.n.lz,.int .i64 t.n.cap,.int .i64 (t.ks.length:Nat)])::.box k1 (.mem 0 false (tC t))::[]):=hH.dU 2;have P':∀st,V.Rows st 2 t.n.rd (t.n.rs.map av):=fun st=>by rw[u7];exact b_ st _
  refine zQ 4 ?_;refine ae.cj (s:=2) hH rfl (ev rfl) (ev rfl) aG (P' _) rfl rfl rfl rfl rfl rfl rfl ⟨(Nat.le_of_ble_eq_true rfl),(Nat.le_of_ble_eq_true rfl)⟩ (fun _=>by dsimp only[Fr.put,u1,u2]<;>rfl) (by simp only[List.length_map,List.length_nil];omega) (.inl hF) (fun k hk=>by simp only[D.ref] at hk;omega) (fun E1 st Kc hH=>?_);dsimp only[u1,u2,u4] at hH;refine zQ 1 ?_;refine qT hH aV (fun st hH=>?_) (hcs:=hH.eO aG);dsimp only[u2,u1,u3,u4,setMany,u5,u6,D.cells,Nat.reduceAdd,tC,bR,aE] at hH;refine zQ 3 ?_;refine ae.aO (m:=7) hH rfl (ev rfl) (by exact aV) (by dsimp only[List.drop_succ_cons,List.drop_zero,List.take_succ_cons,List.take_zero,tC,bR,aE]<;>rfl) rfl rfl (by dsimp only[Fr.put,u1,u2]<;>rfl) ?_;refine qh (s:=7) (vs:=[_]) hH fun k18 st NB hH=>?_;refine zQ 7 ?_;refine qn ?_;simp only[List.length_map];refine zQ 2 ?_;have hH:Has s0.bs.length S st (.aD (.win k18 0 0 1 7) 7 (fN t.n E1 t.ks.length::(([]:List bn)).map aE)::.aD E1 2 (t.n.rs.map av)::[]):=hH.take 2;refine zQ 1 ?_;refine ag.loop (fun mm fr st=>∃(i:Nat) (od:D),fr.clean=⟨23,[bL fr 0,.ptr k1 0 0,bL fr 2,bL fr 3,od,bL fr 5,bL fr 6,bL fr 7,bL fr 8,bL fr 9,bL fr 10,bL fr 11,bL fr 12,bL fr 13,bL fr 14,bL fr 15,bL fr 16,bL fr 17,bL fr 18,bL fr 19,dq t.ks,.int .i64 (t.ks.length:Nat),.int .i64 (i:Nat)],[]⟩∧Has s0.bs.length S st (.aD od 7 (fN t.n E1 t.ks.length::((t.ks.take i).flatMap Tr.nN).map aE)::.aD E1 2 (t.n.rs.map av)::[])∧(i+mm=t.ks.length)∧(∀k,od.ref=k+1→S.bs.length≤k)) (t.ks.length) ?_ ?_
  ·exact⟨0,.win k18 0 0 1 7,rfl,hH,by omega,(fun k hk=>by simp only[D.ref] at hk;omega)⟩
  rintro mm fr st ⟨i,od,hfr,hH,hi,gA⟩;rw[hfr];clear hfr;generalize bL fr=ee;clear fr;refine zQ 5 ?_;refine zP (fun h1=>?_) fun h1=>?_
  ·refine zQ 1 ?_
   obtain⟨p,hp⟩:∃p,t.ks[i]?=some p:=⟨t.ks[i]'(by omega),List.getElem?_eq_getElem _⟩
   have uB:=List.mem_of_getElem? hp;have Qg:=eH uB;have uA:=kP hp;have gJ:=lp hp;have LC:=Tr.qZ p (rL p uB) (by omega);have hlen:=An (t.ks.take i);have DN:=Tr.jD p;have yK:=fun st=>Ao m p (by omega) (by omega) (rL p uB) st;refine zQ 4 ?_;refine qr fun Jy DH=>?_;refine ae.cJ rfl (ev rfl) (by assumption) rfl (aa rfl _) ?_;refine qa hH fun k6 st I9 hH=>?_;refine qS hH aG fun st hH=>?_;dsimp only[u2,u1,u3,u4,setMany,u5,u6,D.cells,Nat.reduceAdd,tC,bR,aE] at hH;refine zQ 1 ?_;have hH:Has s0.bs.length S st (.box k6 (.mem 0 false (tC p))::.aD od 7 (fN t.n E1 t.ks.length::((t.ks.take i).flatMap Tr.nN).map aE)::.aD E1 2 (t.n.rs.map av)::[]):=hH;refine zQ 2 ?_;refine ae.aO (m:=8) (r:=tC p) hH rfl (ev rfl) aG rfl rfl rfl (aa rfl _) ?_;refine qv (yK _) ?_;refine ae.cj (s:=7) hH rfl (ev rfl) (ev rfl) aV ((ml LC).rows _) rfl rfl rfl rfl rfl rfl rfl ⟨(Nat.le_of_ble_eq_true rfl),(Nat.le_of_ble_eq_true rfl)⟩ (fun _=>(aa rfl _)) (by simp only[List.length_map,List.length_cons];omega) (.inl hF) gA (fun QS st gA hH=>?_);dsimp only[u1,u2,u4] at hH;refine zQ 2 ?_;have hH:=hH.drop 1;refine zQ 4 ?_;exact⟨mm-1,by omega,⟨i+1,QS,rfl,(by rw[List.take_add_one,hp,List.flatMap_append,List.map_append];simpa using hH),by omega,gA⟩⟩
  ·refine zQ 1 ?_;have he:i=t.ks.length:=by omega
   rw[he,List.take_length] at hH;refine zQ 5 ?_
   have LC:=(Tr.qZ t hfa (by omega))
   rw[Tr.D'] at LC;have ka:∀n∈t.ks.flatMap Tr.nN,∀d∈aE n,cw st s0.bs.length 14 d=some d:=fun n hn d hd=>yj (kI LC (aE n) (List.mem_map.2 ⟨n,List.mem_cons_of_mem _ hn,rfl⟩) d hd)
   have hx1:cw st s0.bs.length 14 E1=some (aL t.n.rs):=by
    refine Fx hH aV (fun k hk=>by rw[←aW];exact Kc k hk) (n:=13) ?_;rw[←fS];exact hH.freeze aV (dX _) (n:=14) (by decide)
   let f:D→D:=fun d=>(cw st s0.bs.length 14 d).getD d
   have hfp:∀d v,cw st s0.bs.length 14 d=some v→f d=v:=fun d v h=>by show(cw st s0.bs.length 14 d).getD d=v;rw[h];rfl
   have hfz:=BJ (L:=s0.bs.length) (f:=f) (n:=13) hH aG (fun k hk=>by rw[←aW];exact gA k hk) (by
    intro e he d hd
    rcases List.mem_cons.1 he with rfl|he
    ·simp only[fN,List.mem_cons,List.not_mem_nil,or_false] at hd
     rcases hd with rfl|rfl|rfl|rfl|rfl|rfl|rfl
     ·rfl
     ·rw[hfp _ _ hx1];exact hx1
     all_goals rfl
    ·obtain⟨n,hn,rfl⟩:=List.mem_map.1 he
     rw[hfp _ _ (ka n hn d hd)];exact ka n hn d hd)
   have Tc:((fN t.n E1 t.ks.length::(t.ks.flatMap Tr.nN).map aE).map (·.map f))=(({t.n with kids:=(t.ks.length:Nat)}::t.ks.flatMap Tr.nN).map aE):=by
    rw[List.map_cons,List.map_cons,Df (fun n hn d hd=>hfp _ _ (ka n hn d hd))]
    congr 1
    show[f _,f E1,f _,f _,f _,f _,f _]=_;rw[hfp _ _ hx1];simp only[aE,u7]
    rfl
   rw[Tc] at hfz;exact ag.ret ⟨rx,_,rfl,rl aW hH hfz⟩
end Go.Proofs.YtpcicphadikioaaGreat
namespace Go.Proofs.YtpcicphadikioaaGreat
open Go.V Go
def fW (fr:Go.V.Fr) (k:Nat):Go.V.D:=Go.V.nth .aY fr.loc k
theorem tJ (op:Int) (l:List Tr) (t:Tr):aX op (l++[t])=aX op l++(if t.n.op=op then t.ks else[t]):=by
 unfold aX;rw[List.flatMap_append]
 congr 1
 rw[List.flatMap_cons,List.flatMap_nil,List.append_nil]
theorem vt (op:Int) (l:List Tr):(aX op l).length≤bO l:=by
 have:=fO op l;have:=cy (aX op l);omega
theorem sf {N:Nat} {S s0:St} {H:List bh} {x:D} {l:List Tr} {op:Int} (hF:S.flr≤N) (Ag:jP l) (hcl:bO l≤1048576) (hx:Arg N S 8 x (l.map tC)) (hH:Has N S s0 H):
  ∃d ah,Ev pv 62 [.int .i64 op,x] s0 d ah∧Has N S ah (.aD d 8 ((aX op l).map tC)::H)∧(∀k,d.ref=k+1→S.bs.length≤k):=by
 have oP:=cy l;refine Ev.kT rfl OH rfl rfl rfl ?_;refine zE ?_;change ag _ _ _ _ s0 _;refine zQ 12 ?_;refine qn ?_;simp only[List.length_map];refine zQ 3 ?_;refine ag.loop (fun mm fr st=>∃(i:Nat) (y:D),fr.clean=⟨11,[.int .i64 op,fW fr 1,fW fr 2,fW fr 3,fW fr 4,y,fW fr 6,fW fr 7,x,.int .i64 (l.length:Nat),.int .i64 (i:Nat)],[]⟩∧Has N S st (.aD y 8 ((aX op (l.take i)).map tC)::H)∧(i+mm=l.length)∧(∀k,y.ref=k+1→S.bs.length≤k)) (l.length) ?_ ?_
 ·exact⟨0,.nul,rfl,(hH.dU 8),by omega,(fun k hk=>by simp only[D.ref] at hk;omega)⟩
 rintro mm fr st ⟨i,y,hfr,hH,hi,gA⟩;rw[hfr];clear hfr;generalize fW fr=ee;clear fr;refine zQ 5 ?_;refine zP (fun h1=>?_) fun h1=>?_
 ·refine zQ 1 ?_
  obtain⟨p,hp⟩:∃p,l[i]?=some p:=⟨l[i]'(by omega),List.getElem?_eq_getElem _⟩
  have uB:=List.mem_of_getElem? hp;have uA:=kP hp;have Us:=Tr.dF p;have R3:=cy p.ks;have rJ:=vt op (l.take i);have gJ:=lp hp;have Nn:∀st,V.Rows st 8 (dq p.ks) (p.ks.map tC):=fun st=>dY st (Tr.dQ.1 (Ag p uB)).2;have oz:=tJ op (l.take i) p;rw[show l.take i++[p]=l.take (i+1) by rw[List.take_add_one,hp];rfl] at oz;refine zQ 4 ?_;refine qr fun Ma HX=>?_;refine ae.cJ rfl (ev rfl) (by assumption) rfl (aa rfl _) ?_;refine qa hH fun k7 st Nt hH=>?_;refine qS hH aG fun st hH=>?_;dsimp only[u2,u1,u3,u4,setMany,u5,u6,D.cells,Nat.reduceAdd,tC,bR] at hH;refine zQ 1 ?_;have hH:Has N S st (.box k7 (.mem 0 false (tC p))::.aD y 8 ((aX op (l.take i)).map tC)::H):=hH;refine zQ 8 ?_
  by_cases hop:p.n.op=op
  ·have hc:(p.n.op==op)=true:=by simpa using hop
   rw[if_pos hop] at oz;refine qD rfl (by rw[hc]) ?_;refine zQ 4 ?_;refine ae.cj (s:=8) hH rfl (ev rfl) (ev rfl) aV (Nn _) rfl rfl rfl rfl rfl rfl rfl ⟨(Nat.le_of_ble_eq_true rfl),(Nat.le_of_ble_eq_true rfl)⟩ (fun _=>(aa rfl _)) (by simp only[List.length_map];omega) (.inl hF) gA (fun QU st gA hH=>?_);dsimp only[u1,u2] at hH;refine zQ 2 ?_;have hH:=hH.drop 1;refine zQ 4 ?_;exact⟨mm-1,by omega,⟨i+1,QU,rfl,(by rw[oz,List.map_append];exact hH),by omega,gA⟩⟩
  ·have hc:(p.n.op==op)=false:=by simpa using hop
   rw[if_neg hop] at oz;refine qE rfl (by rw[hc]) ?_;refine zQ 2 ?_;refine ae.aO (m:=8) (r:=tC p) hH rfl (ev rfl) aG rfl rfl rfl (aa rfl _) ?_;refine qh (s:=8) (vs:=[_]) hH fun k25 st Nz hH=>?_;dsimp only[u2,u1,u3,u4,setMany,u5,u6,D.cells,Nat.reduceAdd,tC,bR] at hH;refine ae.cj (s:=8) hH rfl (ev rfl) (ev rfl) b8 (hH.rows aG) rfl rfl rfl rfl rfl rfl rfl ⟨(Nat.le_of_ble_eq_true rfl),(Nat.le_of_ble_eq_true rfl)⟩ (fun _=>(aa rfl _)) (by simp only[List.length_map,List.length_cons,List.length_nil];omega) (.inl hF) gA (fun LS st gA hH=>?_);dsimp only[u1,u2] at hH;refine zQ 2 ?_;have hH:=hH.drop 2;refine zQ 4 ?_;exact⟨mm-1,by omega,⟨i+1,LS,rfl,(by rw[oz,List.map_append];exact hH),by omega,gA⟩⟩
 ·refine zQ 1 ?_;have hil:i=l.length:=by omega
  refine zQ 5 ?_;refine ag.ret ⟨rx,_,_,_,rfl,rfl,?_⟩;rw[hil,List.take_length] at hH;exact⟨hH,gA⟩
theorem C5 {s0:St} {k:Nat} {ar:Bool} {t p:Tr} (hb:s0.bs[k]?=some (.mem 0 ar (tC p))) (ht:t.fa lY) (hp:p.fa lY) (htl:t.eW≤1048576) (ka:p.eW≤1048576):Ev pv 83 [.agg (tC t),.ptr k 0 0] s0 (.bool (t.same p)) s0:=by
 have gU:k<s0.bs.length:=(List.getElem?_eq_some_iff.1 hb).1;have RR:=zz _ t p (Nat.le_refl _) htl ka ht hp;refine Ev.jL rfl Oo rfl rfl rfl ?_;refine zE ?_;obtain⟨aW,hF,hH⟩:=ri s0;generalize ai .ro s0=S at*
 have uA:∀{st:St} {H:List bh},Has s0.bs.length S st H→jl st (.ptr k 0 0) (tC p):=fun{st H} h=>by
  refine .inl ⟨k,0,0,ar,tC p,rfl,?_,rfl⟩;unfold St.bM;rw[h.ex.low k gU,aW,hb];simp
 refine zQ 2 ?_;refine qb hH fun k2 st hk2 hH=>?_;dsimp only[u2,u1,u3,u4,setMany,u5,u6,D.cells,Nat.reduceAdd,tC,bR] at hH;refine zQ 2 ?_;have wS:=uA hH;refine zQ 2 ?_;refine ae.aO (m:=8) hH rfl (ev rfl) (by exact aG) (by dsimp only[List.drop_succ_cons,List.drop_zero,List.take_succ_cons,List.take_zero,tC,bR]<;>rfl) rfl rfl (aa rfl _) ?_;refine ae.gY (d:=.agg (tC p)) rfl (ev rfl) wS rfl (aa rfl _) ?_;refine qv (RR _) ?_;refine zQ 2 ?_;refine ag.ret ⟨rx,_,rfl,rl aW hH (rfl)⟩
theorem yp (l:List Tr) (p:Tr):cG (l++[p])=if(cG l).any (fun x=>x.same p)=true then cG l else cG l++[p]:=by
 unfold cG;rw[List.foldl_append];rfl
theorem FA {s0:St} {x:D} {l:List Tr} (hx:V.Rows s0 8 x (l.map tC)) (Ag:jP l) (hcl:bO l≤1048576):Ev pv 67 [x] s0 (dq (cG l)) s0:=by
 have oP:=cy l;refine Ev.jL rfl OB rfl rfl rfl ?_;refine zE ?_;obtain⟨aW,hF,hH⟩:=ri s0;generalize ai .ro s0=S at*;have hx:=Arg.of hx aW;refine zQ 12 ?_;refine qn ?_;simp only[List.length_map];refine zQ 3 ?_;refine ag.loop (fun mm fr st=>∃(i:Nat) (y:D),fr.clean=⟨9,[fW fr 0,fW fr 1,fW fr 2,y,fW fr 4,fW fr 5,x,.int .i64 (l.length:Nat),.int .i64 (i:Nat)],[]⟩∧Has s0.bs.length S st (.aD y 8 ((cG (l.take i)).map tC)::[])∧(i+mm=l.length)∧(∀k,y.ref=k+1→S.bs.length≤k)) (l.length) ?_ ?_
 ·exact⟨0,.nul,rfl,(hH.dU 8),by omega,(fun k hk=>by simp only[D.ref] at hk;omega)⟩
 rintro mm fr st ⟨i,y,hfr,hH,hi,gA⟩;rw[hfr];clear hfr;generalize fW fr=ee;clear fr;refine zQ 5 ?_;refine zP (fun h1=>?_) fun h1=>?_
 ·refine zQ 1 ?_
  obtain⟨p,hp⟩:∃p,l[i]?=some p:=⟨l[i]'(by omega),List.getElem?_eq_getElem _⟩
  have uB:=List.mem_of_getElem? hp;have uA:=kP hp;have Kg:jP (cG (l.take i)):=mi (fun t ht=>Ag t (List.mem_of_mem_take ht));have Sj:=pM (l.take i);have EX:=cy (cG (l.take i));have gJ:=lp hp;have oz:=yp (l.take i) p;rw[show l.take i++[p]=l.take (i+1) by rw[List.take_add_one,hp];rfl] at oz;refine zQ 4 ?_;refine qr fun Rk Na=>?_;refine ae.cJ rfl (ev rfl) (by assumption) rfl (aa rfl _) ?_;refine qa hH fun k5 st DQ hH=>?_;refine qS hH aG fun st hH=>?_;dsimp only[u2,u1,u3,u4,setMany,u5,u6,D.cells,Nat.reduceAdd,tC,bR] at hH;refine zQ 1 ?_;have hH:Has s0.bs.length S st (.box k5 (.mem 0 false (tC p))::.aD y 8 ((cG (l.take i)).map tC)::[]):=hH;have fZ:=hH.at aG;have gU:k5<st.bs.length:=(List.getElem?_eq_some_iff.1 fZ).1;have D1:=oG (g:=83) (eI:=[.ptr k5 0 0]) (p:=fun x=>x.same p) (hH.rows aV) (by omega) (fun st2 h2 t ht=>C5 (k:=k5) (ar:=false) (by rw[h2 k5 gU];exact fZ) (Kg t ht) (Ag p uB) (by have:=eH ht;omega) (by omega));refine zQ 3 ?_;refine ae.go (d:=.fn 83 [.ptr k5 0 0]) (st1:=_) rfl rfl rfl (aa rfl _) ?_;refine ae.dz rfl rfl D1 (aa rfl _) ?_;refine zQ 2 ?_
  cases ha:(cG (l.take i)).any (fun x=>x.same p) with
  |true=>
   rw[ha,if_pos rfl] at oz;refine ag.cond (v:=false) (by dsimp only[Fr.ev,Fr.get,nth,V.look];rfl) (fun h=>by cases h) (fun _=>?_);refine zQ 1 ?_;have hH:=hH.drop 1;refine zQ 4 ?_;exact⟨mm-1,by omega,⟨i+1,y,rfl,(by rw[oz];exact hH),by omega,gA⟩⟩
  |false=>
   rw[ha,if_neg (by simp)] at oz;refine ag.cond (v:=true) (by dsimp only[Fr.ev,Fr.get,nth,V.look];rfl) (fun _=>?_) (fun h=>by cases h);refine zQ 2 ?_;refine ae.aO (m:=8) (r:=tC p) hH rfl (ev rfl) aG rfl rfl rfl (aa rfl _) ?_;refine qh (s:=8) (vs:=[_]) hH fun k18 st NB hH=>?_;dsimp only[u2,u1,u3,u4,setMany,u5,u6,D.cells,Nat.reduceAdd,tC,bR] at hH;refine ae.cj (s:=8) hH rfl (ev rfl) (ev rfl) b8 (hH.rows aG) rfl rfl rfl rfl rfl rfl rfl ⟨(Nat.le_of_ble_eq_true rfl),(Nat.le_of_ble_eq_true rfl)⟩ (fun _=>(aa rfl _)) (by simp only[List.length_map,List.length_cons,List.length_nil];omega) (.inl hF) gA (fun Lm st gA hH=>?_);dsimp only[u1,u2] at hH;refine zQ 2 ?_;have hH:=hH.drop 2;refine zQ 4 ?_;exact⟨mm-1,by omega,⟨i+1,Lm,rfl,(by rw[oz,List.map_append];exact hH),by omega,gA⟩⟩
 ·refine zQ 1 ?_;have hil:i=l.length:=by omega
  rw[hil,List.take_length] at hH;refine zQ 5 ?_;have Bv:aB st s0.bs.length false 16 y=some (dq (cG l)):=by rw[lI];exact hH.freeze aG (ku (mi Ag)) (n:=15) (by decide)
  refine ag.ret ⟨rx,_,rfl,rl aW hH (Bv)⟩
end Go.Proofs.YtpcicphadikioaaGreat
namespace Go.Proofs.YtpcicphadikioaaGreat
open Go.V Go
def j_ (fr:Go.V.Fr) (k:Nat):Go.V.D:=Go.V.nth .aY fr.loc k
theorem Hx {s0:St} {x:D} {l:List Rg} (hx:V.Rows s0 2 x (l.map av)) (hl:l.length≤268435456):Ev pv 81 [x] s0 (aL (bV l)) s0:=by
 obtain⟨_,aF,all,rfl,hperm,lx⟩:=uj hx hl;have hM:e_ l (all.foldl df []).reverse:=lG (fun x=>hperm.mem_iff) lx;rw[wz hM];exact aF
theorem Gs {x y:Oper} {fi fj:Fr} {si o0 sj ES:St} {a:Operand} {k aq off v:Nat} {ar:Bool} {c:List D} (hy:gj y.op=some a) (ha:fj.ev a=.ptr k aq off) (h1:si.bs[k]?=some (.mem v ar c)) (h2:o0.bs[k]?=some (.mem v ar c)):hC x fi si o0 y fj sj ES=true:=by
 unfold hC;simp only[hy,ha,D.lT];exact ni h1 h2
def jC (q:Tr×Bool):List D:=bR q.1.n (if q.2=true then .nul else dq q.1.ks)
def Lp (M:List (Tr×Bool)):Prop:=∀q∈M,q.2=true→q.1.ks=[]
theorem mz {M:List (Tr×Bool)} {q:Tr×Bool} (h:Lp M) (hq:q.2=true→q.1.ks=[]):Lp (M++[q]):=by
 intro x hx
 rcases List.mem_append.1 hx with hx|hx
 ·exact h x hx
 ·rw[List.mem_singleton.1 hx];exact hq
theorem JP {M:List (Tr×Bool)} (h:Lp M) (hf:jP (M.map (·.1))):(∀e∈M.map jC,∀d∈e,lj d=true)∧(M.map jC).map (·.map lO)=(M.map (·.1)).map tC:=by
 constructor
 ·intro e he d hd;obtain⟨q,hq,rfl⟩:=List.mem_map.1 he;have h1:=(Tr.dQ.1 (hf q.1 (List.mem_map.2 ⟨q,hq,rfl⟩))).1.1;simp only[jC,bR,dq,List.mem_cons,List.not_mem_nil,or_false] at hd
  rcases hd with rfl|rfl|rfl|rfl|rfl|rfl|rfl|rfl<;>try rfl
  ·rw[h1];rfl
  ·split<;>rfl
 ·rw[List.map_map,List.map_map];apply List.map_congr_left;intro q hq;have h1:=(Tr.dQ.1 (hf q.1 (List.mem_map.2 ⟨q,hq,rfl⟩))).1.1;obtain⟨t,b⟩:=q;show(jC (t,b)).map lO=tC t;unfold jC tC bR;dsimp only at h1⊢;rw[h1]
  cases b with
  |false=>rfl
  |true=>rw[show t.ks=[] from h _ hq rfl];rfl
theorem yD (l:List Tr) (p:Tr):bZ (l++[p])=gp (bZ l) p:=by
 unfold bZ;rw[List.foldl_append];rfl
theorem yE {M:List Tr} {q p:Tr}:gp (M++[q]) p=if p.n.op=2∧q.n.op=2 then M++[oS q.n.rs p.n.rs] else M++[q]++[p]:=by
 unfold gp;rw[List.getLast?_append];simp only[List.getLast?_singleton,Option.some_or]
 split
 ·rw[List.length_append,List.set_append_right _ _ (by simp)];simp
 ·rfl
theorem Bk {p:Tr}:gp [] p=[p]:=rfl
theorem yB {s0:St} {x:D} {l:List Tr} (hx:V.Rows s0 8 x (l.map tC)) (Ag:jP l) (hcl:bO l≤1048576):Ev pv 66 [x] s0 (dq (bZ l)) s0:=by
 have oP:=cy l;refine Ev.jL rfl OC rfl rfl rfl ?_;refine zE ?_;obtain⟨aW,hF,hH⟩:=ri s0;generalize ai .ro s0=S at*;have hx:=Arg.of hx aW;refine qq<|qj fun K hK=>qm ?_;refine qe hK<|qq<|qj fun K hK=>qm ?_;refine qe hK<|qq<|qq<|qj fun K hK=>qm ?_;refine qn ?_;simp only[List.length_map];refine qm ?_;refine qe hK<|ag.block<|ag.loop (fun mm fr st=>∃(i:Nat) (y:D) (M:List (Tr×Bool)),fr.clean=⟨11,[j_ fr 0,j_ fr 1,j_ fr 2,y,j_ fr 4,j_ fr 5,j_ fr 6,j_ fr 7,x,.int .i64 (l.length:Nat),.int .i64 (i:Nat)],[]⟩∧Has s0.bs.length S st (.aD y 8 (M.map jC)::[])∧(i+mm=l.length)∧(∀k,y.ref=k+1→S.bs.length≤k)∧(M.map (·.1)=bZ (l.take i))∧(Lp M)) (l.length) ?_ ?_
 ·exact⟨0,.nul,[],rfl,(hH.dU 8),by omega,(fun k hk=>by simp only[D.ref] at hk;omega),rfl,(fun q hq=>by cases hq)⟩
 rintro mm fr st ⟨i,y,M,hfr,hH,hi,gA,Is,KZ⟩;rw[hfr];clear hfr;generalize j_ fr=ee;clear fr;refine qq<|qj fun K hK=>qg ?_;refine qe hK<|qq<|zP (fun h1=>?_) fun h1=>?_
 ·refine ag.skip ?_
  obtain⟨p,hp⟩:∃p,l[i]?=some p:=⟨l[i]'(by omega),List.getElem?_eq_getElem _⟩
  have uB:=List.mem_of_getElem? hp;have uA:=kP hp;obtain⟨wS,F3⟩:=(Tr.dQ.1 (Ag p uB)).1;have Ly:jP (M.map (·.1)):=by rw[Is];exact jw (fun t ht=>Ag t (List.mem_of_mem_take ht))
  have LK:M.length≤l.length:=by
   have h1:=congrArg List.length Is;have h2:=ow (l.take i) [];rw[List.length_map] at h1;unfold bZ at h1;simp only[List.length_nil,List.length_take] at h2;omega
  have gJ:=lp hp;have oz:=yD (l.take i) p;rw[show l.take i++[p]=l.take (i+1) by rw[List.take_add_one,hp];rfl] at oz;refine qq<|ag.block<|qq<|qj fun K hK=>qr fun Ma HX=>?_;refine ae.cJ rfl (ev rfl) (by assumption) rfl (aa rfl _) ?_;refine qa hH fun k5 st DQ hH=>?_;refine qS hH aG fun st hH=>?_;dsimp only[u2,u1,u3,u4,setMany,u5,u6,D.cells,Nat.reduceAdd,tC,bR,jC] at hH;refine qe hK ?_;have hH:Has s0.bs.length S st (.box k5 (.mem 0 false (tC p))::.aD y 8 (M.map jC)::[]):=hH
  rcases List.eq_nil_or_concat M with hM|⟨M0,q,hM⟩
  ·subst hM;rw[←Is,List.map_nil,Bk] at oz;refine qq<|qj fun K hK=>qm ?_;refine qn ?_ (hR:=hH.rows aV);simp only[List.length_map,List.length_nil];refine ae.kQ (z:=(-1:Int)) rfl (ev rfl) (ev rfl) (by(try simp only[List.length_reverse,List.length_cons,List.length_nil,List.length_append,List.length_map,List.length_set]);rw[wrap_i64 (by omega) (by omega)]<;>omega) (aa rfl _) ?_;refine qm ?_;refine qe hK ?_;have bH:decide ((-1:Int)≥0)=false:=rfl;have dv:false=false:=rfl;refine qq<|qj fun K hK=>qm ?_;refine qg ?_;refine qm ?_;refine qs ?_ (hg:=wn bH);refine qs ?_ (hg:=wn bH);refine qs ?_ (hg:=wn bH);refine qs ?_ (hg:=wn bH);refine qu bH ?_;refine qm ?_;refine qs ?_;refine qs ?_;refine qs ?_;refine qs ?_;refine qs ?_;refine qs ?_;refine qs ?_;refine qg ?_;refine qe hK<|qC ?_;refine qj fun K hK=>qm ?_;refine ae.aO (m:=8) (r:=tC p) hH rfl (ev rfl) aG rfl rfl rfl (aa rfl _) ?_;refine qh (s:=8) (vs:=[_]) hH fun k54 st Bw hH=>?_;dsimp only[u2,u1,u3,u4,setMany,u5,u6,D.cells,Nat.reduceAdd,tC,bR,jC] at hH;refine ae.cj (s:=8) hH rfl (ev rfl) (ev rfl) b8 (hH.rows aG) rfl rfl rfl rfl rfl rfl rfl ⟨(Nat.le_of_ble_eq_true rfl),(Nat.le_of_ble_eq_true rfl)⟩ (fun _=>(aa rfl _)) (by simp only[List.length_map,List.length_cons,List.length_nil] at LK⊢;omega) (.inl hF) gA (fun Je st gA hH=>?_);dsimp only[u1,u2] at hH;refine qm ?_;refine qe hK ?_;have hH:=hH.drop 2;refine qj fun K hK=>qA ?_;refine qm ?_;refine qe hK ?_;refine⟨mm-1,by omega,⟨i+1,Je,([]:List (Tr×Bool))++[(p,false)],rfl,(by rw[List.map_append];exact hH),by omega,gA,?_,?_⟩⟩
   ·rw[oz];rfl
   ·exact mz KZ (fun h=>by cases h)
  ·rw[List.concat_eq_append] at hM;subst hM;have R2:=(Tr.dQ.1 (Ly q.1 (by simp))).1;obtain⟨wR,Bs⟩:=R2;rw[←Is,List.map_append,List.map_cons,List.map_nil,yE] at oz;have TG:M0.length<1048576:=by have:=LK;simp only[List.length_append,List.length_cons,List.length_nil] at this;omega
   have rM:((M0++[q]).map jC)[M0.length]?=some (jC q):=by rw[List.getElem?_map];simp
   have UA:((M0++[q]).map jC).length=M0.length+1:=by simp
   refine qq<|qj fun K hK=>qm ?_;refine qn ?_ (hR:=hH.rows aV);simp only[List.length_map,List.length_append,List.length_cons,List.length_nil];refine ae.kQ (z:=((M0.length:Nat):Int)) rfl (ev rfl) (ev rfl) (by(try simp only[List.length_reverse,List.length_cons,List.length_nil,List.length_append,List.length_map,List.length_set]);rw[wrap_i64 (by omega) (by omega)]<;>omega) (aa rfl _) ?_;refine qm ?_;refine qe hK ?_;have bH:decide (((M0.length:Nat):Int)≥0)=true:=by rw[decide_eq_true_eq];omega
   by_cases hpo:p.n.op=2
   ·have dv:(p.n.op==2)=true:=by simpa using hpo
    refine qq<|qj fun K hK=>qm ?_;refine qg ?_;refine qm ?_;refine qp (o:=0) ?_ (hg:=wi bH);refine qp (o:=0) ?_ (hg:=wi bH);refine ql hH aG ?_ (hg:=wi bH);refine qg ?_ (hg:=wi bH);refine qt bH ?_;refine qm ?_;refine qm ?_ (hg:=wi dv);refine qm ?_ (hg:=wi dv);refine qi hH aV (fun Rf M7=>?_) (hg:=wi dv);refine ae.cX (fo:=0) (m:=6) (o2:=0) (aj rfl rfl rfl dv) (ev rfl) (by assumption) rfl rfl rfl (fun _=>(aa rfl _)) (fun PT J3=>?_);refine ae.cX (fo:=0) (m:=0) (o2:=0) (aj rfl rfl rfl dv) (ev rfl) (by assumption) rfl rfl rfl (fun _=>(aa rfl _)) (fun PS J2=>?_);refine qo hH aV ?_ (hg:=wi dv);refine qg ?_ (hg:=wi dv);refine qt dv ?_;refine qe hK ?_
    by_cases hqo:q.1.n.op=2
    ·have hc:(q.1.n.op==2)=true:=by simpa using hqo
     rw[if_pos ⟨hpo,hqo⟩] at oz;refine qD rfl (by rw[hc]) ?_;have hH:Has s0.bs.length S st (.aD .nul 2 (([]:List Rg).map av)::.box k5 (.mem 0 false (tC p))::.aD y 8 ((M0++[q]).map jC)::[]):=hH.dU 2;have Qa:∀st,V.Rows st 2 q.1.n.rd (q.1.n.rs.map av):=fun st=>by rw[wR];exact b_ st _
     have Qb:∀st,V.Rows st 2 p.n.rd (p.n.rs.map av):=fun st=>by rw[wS];exact b_ st _
     have hA:=hH;change ag _ _ _ _ _ _;refine qq ?_;generalize hK:bf _ _ _ _=K;refine ag.Fo rfl ?_;refine fm.cons ?_;refine qm ?_;refine ae.nil ⟨rfl,?_⟩;refine fm.cons ?_;refine qm ?_;refine ae.nil ⟨rfl,?_⟩;refine fm.cons ?_;refine qi hH b8 fun Rc M5=>?_;refine ae.nil ⟨rfl,?_⟩;refine fm.cons ?_;refine ae.cX (fo:=0) (m:=6) (o2:=0) rfl (ev rfl) (by assumption) rfl rfl rfl (fun _=>(aa rfl _)) (fun Uh Sg=>?_);refine ae.nil ⟨rfl,?_⟩;refine fm.cons ?_;refine ae.cX (fo:=1) (m:=0) (o2:=1) rfl (ev rfl) (by assumption) rfl rfl rfl (fun _=>(aa rfl _)) (fun Ug Sf=>?_);refine ae.nil ⟨rfl,?_⟩;refine fm.cons ?_;refine qo hH b8 ?_;refine ae.nil ⟨rfl,?_⟩;refine fm.cons ?_;refine ae.cj (s:=2) hH rfl (ev rfl) (ev rfl) aG (Qa _) rfl rfl rfl rfl rfl rfl rfl ⟨(Nat.le_of_ble_eq_true rfl),(Nat.le_of_ble_eq_true rfl)⟩ (fun _=>(aa rfl _)) (by simp only[List.length_map,List.length_nil];omega) (.inl hF) (fun k hk=>by simp only[D.ref] at hk;omega) (fun TY st uF hH=>?_);dsimp only[u1,u2] at hH;have hB:=hH;refine ae.nil ⟨rfl,?_⟩;refine fm.cons ?_;refine qp (o:=0) ?_;refine ae.nil ⟨rfl,?_⟩;refine fm.cons ?_;refine qp (o:=1) ?_;refine ae.nil ⟨rfl,?_⟩;refine fm.cons ?_;refine ql hH aV ?_;refine ae.nil ⟨by exact Bool.and_eq_true_iff.2 ⟨Gs rfl rfl (hA.at aV) (hB.at aV),rfl⟩,?_⟩;refine fm.cons ?_;refine ae.cj (s:=2) hH rfl (ev rfl) (ev rfl) aG (Qb _) rfl rfl rfl rfl rfl rfl rfl ⟨(Nat.le_of_ble_eq_true rfl),(Nat.le_of_ble_eq_true rfl)⟩ (fun _=>(aa rfl _)) (by simp only[List.length_map,List.length_nil,List.length_append];omega) (.inl hF) uF (fun PG st Ux hH=>?_);dsimp only[u1,u2] at hH;refine ae.nil ⟨rfl,?_⟩;refine fm.cons ?_;refine qm ?_;refine ae.nil ⟨rfl,?_⟩;refine fm.nil ?_;subst hK;have hH:Has s0.bs.length S st (.aD PG 2 ((q.1.n.rs++p.n.rs).map av)::.box k5 (.mem 0 false (tC p))::.aD y 8 ((M0++[q]).map jC)::[]):=by rw[List.map_append];exact hH
     have Cd:=fun ah (h:V.Rows ah 2 PG ((q.1.n.rs++p.n.rs).map av))=>Hx h (by rw[List.length_append];omega);refine qj fun K hK=>qm ?_;refine qm ?_;refine qm ?_;refine qv (Cd _ (hH.rows aG)) ?_;refine ae.go (d:=.agg [.int .i64 2,aL (bV (q.1.n.rs++p.n.rs)),.int .i64 0,.int .i64 0,.bool false,.int .i64 0,.int .i64 0]) (st1:=_) rfl rfl rfl (aa rfl _) ?_;refine ae.go (d:=.agg [.int .i64 2,aL (bV (q.1.n.rs++p.n.rs)),.int .i64 0,.int .i64 0,.bool false,.int .i64 0,.int .i64 0,.nul]) (st1:=_) rfl rfl rfl (aa rfl _) ?_;refine qi hH b8 fun Q6 MW=>?_;refine ae.pJ hH rfl (ev rfl) (ev rfl) (by assumption) rfl rfl (by exact b8) (by assumption) (Nat.le_of_ble_eq_true rfl) (by exact .inl hF) (fun st hH=>?_);dsimp only[u2,u1,u3,u4,setMany,u5,u6,D.cells,Nat.reduceAdd,tC,bR,jC] at hH;refine qe hK ?_
     have fh:((M0++[q]).map jC).set M0.length [.int .i64 2,aL (bV (q.1.n.rs++p.n.rs)),.int .i64 0,.int .i64 0,.bool false,.int .i64 0,.int .i64 0,.nul]=(M0++[(oS q.1.n.rs p.n.rs,true)]).map jC:=by
      rw[List.map_append,List.set_append_right _ _ (by simp),List.length_map,Nat.sub_self,List.map_append];rfl
     have hH:Has s0.bs.length S st (.aD y 8 ((M0++[(oS q.1.n.rs p.n.rs,true)]).map jC)::[]):=by rw[←fh];exact hH.drop 2
     refine qj fun K hK=>qA ?_;refine qm ?_;refine qe hK ?_;refine⟨mm-1,by omega,⟨i+1,y,M0++[(oS q.1.n.rs p.n.rs,true)],rfl,hH,by omega,gA,?_,?_⟩⟩
     ·rw[oz];simp
     ·refine mz (fun x hx=>KZ x (List.mem_append_left _ hx)) (fun _=>rfl)
    ·have hc:(q.1.n.op==2)=false:=by simpa using hqo
     rw[if_neg (fun h=>hqo h.2)] at oz;refine qE rfl (by rw[hc]) ?_;refine qj fun K hK=>qm ?_;refine ae.aO (m:=8) (r:=tC p) hH rfl (ev rfl) aG rfl rfl rfl (aa rfl _) ?_;refine qh (s:=8) (vs:=[_]) hH fun k54 st Bw hH=>?_;dsimp only[u2,u1,u3,u4,setMany,u5,u6,D.cells,Nat.reduceAdd,tC,bR,jC] at hH;refine ae.cj (s:=8) hH rfl (ev rfl) (ev rfl) b8 (hH.rows aG) rfl rfl rfl rfl rfl rfl rfl ⟨(Nat.le_of_ble_eq_true rfl),(Nat.le_of_ble_eq_true rfl)⟩ (fun _=>(aa rfl _)) (by simp only[List.length_map,List.length_append,List.length_cons,List.length_nil] at LK⊢;omega) (.inl hF) gA (fun Je st gA hH=>?_);dsimp only[u1,u2] at hH;refine qm ?_;refine qe hK ?_;have hH:=hH.drop 2;refine qj fun K hK=>qA ?_;refine qm ?_;refine qe hK ?_;refine⟨mm-1,by omega,⟨i+1,Je,(M0++[q])++[(p,false)],rfl,(by rw[List.map_append];exact hH),by omega,gA,?_,?_⟩⟩
     ·rw[oz];simp
     ·exact mz KZ (fun h=>by cases h)
   ·have dv:(p.n.op==2)=false:=by simpa using hpo
    rw[if_neg (fun h=>hpo h.1)] at oz;refine qq<|qj fun K hK=>qm ?_;refine qg ?_;refine qm ?_;refine qp (o:=0) ?_ (hg:=wi bH);refine qp (o:=0) ?_ (hg:=wi bH);refine ql hH aG ?_ (hg:=wi bH);refine qg ?_ (hg:=wi bH);refine qt bH ?_;refine qm ?_;refine qs ?_ (hg:=wn dv);refine qs ?_ (hg:=wn dv);refine qs ?_ (hg:=wn dv);refine qs ?_ (hg:=wn dv);refine qs ?_ (hg:=wn dv);refine qs ?_ (hg:=wn dv);refine qs ?_ (hg:=wn dv);refine qu dv ?_;refine qe hK<|qC ?_;refine qj fun K hK=>qm ?_;refine ae.aO (m:=8) (r:=tC p) hH rfl (ev rfl) aG rfl rfl rfl (aa rfl _) ?_;refine qh (s:=8) (vs:=[_]) hH fun k54 st Bw hH=>?_;dsimp only[u2,u1,u3,u4,setMany,u5,u6,D.cells,Nat.reduceAdd,tC,bR,jC] at hH;refine ae.cj (s:=8) hH rfl (ev rfl) (ev rfl) b8 (hH.rows aG) rfl rfl rfl rfl rfl rfl rfl ⟨(Nat.le_of_ble_eq_true rfl),(Nat.le_of_ble_eq_true rfl)⟩ (fun _=>(aa rfl _)) (by simp only[List.length_map,List.length_append,List.length_cons,List.length_nil] at LK⊢;omega) (.inl hF) gA (fun Je st gA hH=>?_);dsimp only[u1,u2] at hH;refine qm ?_;refine qe hK ?_;have hH:=hH.drop 2;refine qj fun K hK=>qA ?_;refine qm ?_;refine qe hK ?_;refine⟨mm-1,by omega,⟨i+1,Je,(M0++[q])++[(p,false)],rfl,(by rw[List.map_append];exact hH),by omega,gA,?_,?_⟩⟩
    ·rw[oz];simp
    ·exact mz KZ (fun h=>by cases h)
 ·refine ag.exit ?_;have hil:i=l.length:=by omega
  rw[hil,List.take_length] at Is;refine qq<|qj fun K hK=>qm ?_;refine qm ?_;refine qe hK ?_;have hz:=JP KZ (by rw[Is];exact jw Ag);have Bv:=hH.pf (L:=s0.bs.length) (n:=16) aG (fun k hk=>by rw[←aW];exact gA k hk) hz.1 (by decide);rw[hz.2,Is,←lI] at Bv;refine ag.ret ⟨rx,_,rfl,rl aW hH (Bv)⟩
end Go.Proofs.YtpcicphadikioaaGreat
namespace Go.Proofs.YtpcicphadikioaaGreat
open Go.V Go
def qx (fr:Go.V.Fr) (k:Nat):Go.V.D:=Go.V.nth .aY fr.loc k
theorem AY {z:List D} (hr:refs z=0):∀n,refs (Go.V.cV n z)=0:=by
 intro n;unfold Go.V.cV
 induction n with
 |zero=>rfl
 |succ n ih=>
  rw[List.replicate_succ,List.flatten_cons]
  have uK:∀(a b:List D),refs a=0→refs b=0→refs (a++b)=0:=by
   intro a
   induction a with
   |nil=>intro b _ hb;exact hb
   |cons d a B7=>
    intro b ha hb;simp only[refs,List.cons_append] at ha⊢;have:=B7 b (by omega) hb;omega
  exact uK _ _ hr ih
theorem nO {s:Nat} {es:List (List D)} (he:∀e∈es,e.length=s) (i:Nat) (hi:i≤es.length):es.flatten.take (i*s)=(es.take i).flatten:=by
 have h1:es.flatten=(es.take i).flatten++(es.drop i).flatten:=by rw[←List.flatten_append,List.take_append_drop]
 have h2:(es.take i).flatten.length=i*s:=by rw[bN (fun e h=>he e (List.mem_of_mem_take h)),List.length_take,Nat.min_eq_left hi]
 rw[h1,List.take_append_of_le_length (by omega),←h2,List.take_length]
theorem BU {N:Nat} {S st:St} {H:List bh} {P:Pv} {j k aq off s n i:Nat} {es:List (List D)} {t e:TypeId} {z:List D} (h:Has N S st H) (hj:H[j]?=some (.aD (.win k aq off n s) s es)) (ht:P.bY t=some (.slice e)) (hz:cE P e=some z) (jJ:z.length=s) (hr:refs z=0) (hi:i≤n):
  ∃ah,iR P [t] (.win k aq (off+i*s) (n-i) s) st=some (.tup [],ah)∧Has N S ah (H.set j (.aD (.win k aq off n s) s (es.take i++List.replicate (n-i) z))):=by
 have uH:=(h.ok j _ hj).2;have hown:=h.own hj
 cases hown with
 |win k aq off es c hm hle hc he=>
  have hk:=uH k (by simp only[bh.aD,D.ref]);have EW:=AY hr
  have xF:(Go.V.cV (es.length-i) z).length=(es.length-i)*s:=by
   unfold Go.V.cV;rw[bN (s:=s) (fun e he=>by rw[(List.mem_replicate.1 he).2];exact jJ),List.length_replicate]
  have hmul:i*s+(es.length-i)*s=es.length*s:=by rw[←Nat.add_mul];congr 1;omega
  have hw:st.wr k aq (off+i*s) (Go.V.cV (es.length-i) z)=some ⟨st.bs.set k (.mem aq true (c.take (off+i*s)++Go.V.cV (es.length-i) z++c.drop (off+i*s+(Go.V.cV (es.length-i) z).length))),st.flr,st.ro⟩:=iJ hm (by omega) (eJ h hk.1 (.inr (EW _)));refine⟨_,by simp only[iR,ht,hz,Option.bind_some];rw[if_pos jJ,hw];rfl,?_⟩;refine h.zn hj (fun n hn hne=>?_) (by simp) rfl rfl ?_ (fun n hn=>.inl hn) fun n hn=>?_
  ·simp only;rw[List.getElem?_set_ne (fun e=>hne (by simp only[bh.aD,D.ref];omega))]
  ·have wV:∀e'∈es.take i++List.replicate (es.length-i) z,e'.length=s:=fun e' oB=>by
    rcases List.mem_append.1 oB with h'|h'
    ·exact he e' (List.mem_of_mem_take h')
    ·rw[(List.mem_replicate.1 h').2];exact jJ
   have oP:(es.take i++List.replicate (es.length-i) z).length=es.length:=by rw[List.length_append,List.length_take,List.length_replicate];omega
   have:=fF.win (st:=⟨st.bs.set k (.mem aq true (c.take (off+i*s)++Go.V.cV (es.length-i) z++c.drop (off+i*s+(Go.V.cV (es.length-i) z).length))),st.flr,st.ro⟩) (s:=s) k aq off (es.take i++List.replicate (es.length-i) z) (c.take (off+i*s)++Go.V.cV (es.length-i) z++c.drop (off+i*s+(Go.V.cV (es.length-i) z).length))
    (by simp only;rw[List.getElem?_set_self hk.2]) (by rw[oP];simp;omega) ?_ wV
   ·rw[oP] at this;exact this
   ·rw[oP,List.append_assoc,List.drop_append_of_le_length (by simp;omega),List.drop_take,Nat.add_sub_cancel_left]
    have e2:(c.drop off).take (i*s)=(es.take i).flatten:=by
     rw[←nO he i hi,←hc,List.take_take,Nat.min_eq_left (by omega)]
    have e3:(es.take i).flatten.length=i*s:=by rw[←nO he i hi,List.length_take,bN he];omega
    rw[e2,List.take_append,e3,List.take_of_length_le (by omega),←hmul,Nat.add_sub_cancel_left,←xF,List.take_left']
    ·rw[List.flatten_append];rfl
    ·rfl
  ·simp only[bh.aD,D.ref] at hn;have:n=k:=by omega
   subst this;simp only[List.length_set];exact hk.2
theorem o8 {N:Nat} {S st:St} {H:List bh} {j s:Nat} {x:D} {es:List (List D)} (h:Has N S st H) (hj:H[j]?=some (.aD x s es)) (hne:es≠[]):∃k aq off,x=.win k aq off es.length s:=by
 cases h.own hj with
 |nul=>exact absurd rfl hne
 |win k aq off es c hm hle hc he=>exact⟨k,aq,off,rfl⟩
theorem Ha {t:Tr} (h:t.fa lY):refs (tC t)=0:=by
 have h1:=(Tr.dQ.1 h).1.1;simp[tC,bR,refs,D.ref,h1,aL,dq]
theorem CB {L:List Tr} {i:Nat} {v:Tr} (hi:i<L.length):(L.set i v).take (i+1)=L.take i++[v]:=by
 rw[List.take_add_one,List.getElem?_set_self hi,List.take_set_of_le (Nat.le_refl _)];rfl
theorem EB {n i:Nat} (h:i≤n):cD n (some (.int .i64 (i:Nat))) none=some (i,n):=by
 have h1:(i:Int)≤(n:Int):=by omega
 simp[cD,hD,jF,h1,h]
theorem IK {n i:Nat} (h:i≤n):cD n none (some (.int .i64 (i:Nat)))=some (0,i):=by
 have h1:(i:Int)≤(n:Int):=by omega
 simp[cD,hD,jF,h1,h]
theorem AP {P:Pv} {t e:TypeId} {k aq off n s i:Nat} (ht:P.bY t=some (.slice e)) (hs:bG P e=some s) (hi:i≤n) (st:St):fp P t (.win k aq off n s) (some (.int .i64 (i:Nat))) none st=some (.win k aq (off+i*s) (n-i) s):=by
 simp only[fp,ht,hs,Option.bind_some,if_pos,EB hi,Option.map_some]
theorem Ei {N:Nat} {S st:St} {H:List bh} {j k aq off s n i:Nat} {es:List (List D)} (hH:Has N S st H) (hj:H[j]?=some (.aD (.win k aq off n s) s es)) (hi:i≤es.length):Has N S st (H.set j (.aD (.win k aq (off+0*s) (i-0) s) s (es.take i))):=by
 have hown:=hH.own hj
 cases hown with
 |win k aq off es c hm hl hc he=>
  have hlen:(es.take i).length=i:=by rw[List.length_take];omega
  have h1:i*s≤es.length*s:=Nat.mul_le_mul_right s hi;have hk:=(hH.ok j _ hj).2 k (by simp only[bh.aD,D.ref]);rw[Nat.zero_mul,Nat.add_zero,Nat.sub_zero];refine hH.zn hj (fun _ _ _=>rfl) (Nat.le_refl _) rfl rfl ?_ (fun k' jA=>.inl ?_) fun k' jA=>?_
  ·have:=fF.win (st:=st) (s:=s) k aq off (es.take i) c hm (by rw[hlen];omega) ?_ (fun e oB=>he e (List.mem_of_mem_take oB))
   ·rw[hlen] at this;exact this
   ·rw[hlen,←nO he i hi,←hc,List.take_take,Nat.min_eq_left h1]
  ·simp only[bh.aD,D.ref] at jA⊢;exact jA
  ·simp only[bh.aD,D.ref] at jA;omega
theorem n_ {P:Pv} {t e:TypeId} {k aq off n s i:Nat} (ht:P.bY t=some (.slice e)) (hs:bG P e=some s) (hi:i≤n) (st:St):fp P t (.win k aq off n s) none (some (.int .i64 (i:Nat))) st=some (.win k aq (off+0*s) (i-0) s):=by
 simp only[fp,ht,hs,Option.bind_some,if_pos,IK hi,Option.map_some]
theorem BP {N:Nat} {S s0:St} {H:List bh} {x:D} {l:List Tr} {g:Nat} {p:Tr→Bool} (hH:Has N S s0 (.aD x 8 (l.map tC)::H)) (Ag:jP l) (hl:l.length≤1048576) (hf:∀(st:St),∀t∈l,Ev pv g ([.agg (tC t)]++[]) st (.bool (p t)) st):
  ∃d ah,Ev pv 63 [x,.fn g []] s0 d ah∧(Has N S ah (.aD d 8 ((l.filter (fun t=>!p t)).map tC)::H)∨(d=.sl []∧l.filter (fun t=>!p t)=[]∧Has N S ah H)):=by
 have NG:=fun st (h:V.Rows st 8 x (l.map tC))=>wK (g:=g) (eI:=[]) (p:=p) h hl (fun st2 _ t ht=>hf st2 t ht);refine Ev.kT rfl OG rfl rfl rfl ?_;refine zE ?_;have cm:=hH;have hH:=hH.cq;have b9:(ai .rw s0).bs=s0.bs:=rfl;generalize ai .rw s0=S2 at*;refine zQ 4 ?_;obtain⟨d,aF,i0,rfl,hi0⟩:=NG _ (hH.rows aG);refine zQ 4 ?_;refine qv aF ?_;refine zQ 8 ?_
 rcases hi0 with⟨rfl,hall⟩|⟨j0,rfl,S0,SX,t0,RM,MQ⟩
 ·refine ag.cond (v:=true) (by dsimp only[Fr.ev,Fr.get,nth,V.look];rfl) (fun _=>?_) (fun h=>by cases h);refine zQ 5 ?_;have iU:l.filter (fun t=>!p t)=l:=List.filter_eq_self.2 (fun t ht=>by rw[hall t ht];rfl);rw[iU];have hown:=cm.own aG;have uH:=(cm.ok 0 _ rfl).2;generalize sX:l.map tC=es at*
  cases hown with
  |nul=>
   refine ag.ret ⟨rx,_,_,_,rfl,ak (rfl),?_⟩;refine .inr ⟨rfl,by simpa using sX,?_⟩;exact(cm.drop 1).my b9 (hH.drop 1) (fun i e hi=>⟨e,hi,fun k hk=>hk⟩)
  |win k aq off es c hm hle fJ he=>
   have hk:=uH k (by simp only[bh.aD,D.ref]);refine ag.ret ⟨rx,_,_,_,rfl,ak ((show aB _ s0.bs.length false 16 (D.win k aq off es.length 8)=some (D.win k aq off es.length 8) from by show(if k<s0.bs.length then some (D.win k aq off es.length 8) else _)=_;rw[if_pos hk.2])),?_⟩;exact .inl (cm.pZ b9 hH)
 ·have hc:(((j0:Nat):Int)==-1)=false:=by simp
  refine qE rfl (by rw[hc]) ?_;refine zQ 1 ?_;obtain⟨k,aq,off,HE⟩:=o8 hH aG (by intro h;rw[List.map_eq_nil_iff] at h;subst h;simp at S0);rw[List.length_map] at HE;subst HE;refine zQ 4 ?_;refine ae.cS (z:=(((j0+1:Nat)):Int)) rfl (ev rfl) (ev rfl) (by(try simp only[List.length_reverse,List.length_cons,List.length_nil,List.length_append,List.length_map,List.length_set]);rw[wrap_i64 (by omega) (by omega)]<;>omega) (aa rfl _) ?_;refine zQ 3 ?_;refine ag.loop (fun mm fr st=>∃(i j:Nat) (L:List Tr),fr.clean=⟨8,[.win k aq off l.length 8,.fn g [],qx fr 2,qx fr 3,qx fr 4,.int .i64 (i:Nat),.int .i64 (j:Nat),qx fr 7],[]⟩∧Has N S2 st (.aD (.win k aq off l.length 8) 8 (L.map tC)::H)∧(l.length-j≤mm)∧(i<j)∧(j≤l.length)∧(L.length=l.length)∧(L.take i=(l.take j).filter (fun t=>!p t))∧(L.drop j=l.drop j)) (l.length) ?_ ?_
  ·refine⟨j0,j0+1,l,rfl,hH,by omega,by omega,by omega,rfl,?_,rfl⟩;rw[List.take_add_one,RM,List.filter_append,List.filter_eq_self.2 (fun t ht=>by rw[SX t ht];rfl)];simp[MQ]
  rintro mm fr st ⟨i,j,L,hfr,hH,hi,hij,hjl,N9,K0,Qz⟩;rw[hfr];clear hfr;generalize qx fr=ee;clear fr;refine zQ 5 ?_;refine qn ?_ (hR:=hH.rows aG);simp only[List.length_map];refine zQ 2 ?_;rw[N9];refine zP (fun h1=>?_) fun h1=>?_
  ·refine zQ 1 ?_
   obtain⟨v,hv⟩:∃v,l[j]?=some v:=⟨l[j]'(by omega),List.getElem?_eq_getElem _⟩
   have P8:=List.mem_of_getElem? hv
   have RD:L[j]?=some v:=by
    have h2:=congrArg (·[0]?) Qz;simp only[List.getElem?_drop,Nat.add_zero] at h2;rw[h2,hv]
   have gJ:=lp RD;have HJ:l.take (j+1)=l.take j++[v]:=by rw[List.take_add_one,hv];rfl
   have Ah:L.drop (j+1)=l.drop (j+1):=by
    have h2:=congrArg (List.drop 1) Qz
    simpa[List.drop_drop] using h2
   have hrz:=Ha (Ag v P8);refine zQ 6 ?_;refine qi hH aG fun Jy DH=>?_;refine ae.tW hH rfl (ev rfl) (by assumption) (by exact aG) (by assumption) rfl (aa rfl _) ?_;refine qa hH fun k7 st Nt hH=>?_;refine ae.bP hH rfl (ev rfl) (ev rfl) (by rfl) (by exact rfl) (by exact aG) (by exact rfl) (by exact .inr (by assumption)) (fun st hH=>?_);dsimp only[u2,u1,u3,u4,setMany,u5,u6,D.cells,Nat.reduceAdd,tC,bR] at hH;refine zQ 1 ?_;have hH:Has N S2 st (.box k7 (.mem 0 false (tC v))::.aD (.win k aq off l.length 8) 8 (L.map tC)::H):=hH;refine zQ 3 ?_;refine ae.aO (m:=8) (r:=tC v) hH rfl (ev rfl) aG rfl rfl rfl (aa rfl _) ?_;refine qv (hf _ v P8) ?_;refine zQ 2 ?_
   cases HS:p v with
   |true=>
    refine ag.cond (v:=false) (by dsimp only[Fr.ev,Fr.get,nth,V.look];rfl) (fun h=>by cases h) (fun _=>?_);refine zQ 1 ?_;have hH:=hH.drop 1;refine zQ 2 ?_;refine ae.cS (z:=((j+1:Nat):Int)) rfl (ev rfl) (ev rfl) (by(try simp only[List.length_reverse,List.length_cons,List.length_nil,List.length_append,List.length_map,List.length_set]);rw[wrap_i64 (by omega) (by omega)]<;>omega) (aa rfl _) ?_;refine zQ 2 ?_;exact⟨mm-1,by omega,⟨i,j+1,L,rfl,hH,by omega,by omega,by omega,N9,(by rw[HJ,List.filter_append,←K0];simp[HS]),Ah⟩⟩
   |false=>
    refine ag.cond (v:=true) (by dsimp only[Fr.ev,Fr.get,nth,V.look];rfl) (fun _=>?_) (fun h=>by cases h)
    obtain⟨u,hu⟩:∃u,L[i]?=some u:=⟨L[i]'(by omega),List.getElem?_eq_getElem _⟩
    have m_:=lp hu;refine zQ 4 ?_;refine ae.aO (m:=8) (r:=tC v) hH rfl (ev rfl) aG rfl rfl rfl (aa rfl _) ?_;refine qi hH aV fun Ui Sh=>?_;refine ae.pJ hH rfl (ev rfl) (ev rfl) (by assumption) rfl rfl aV m_ (by exact Nat.le_refl 8) (.inr hrz) (fun st hH=>?_);dsimp only[u1,u2] at hH;refine zQ 1 ?_;have hst:(L.map tC).set i (tC v)=(L.set i v).map tC:=by rw[List.map_set]
    have hH:Has N S2 st (.aD (.win k aq off l.length 8) 8 ((L.set i v).map tC)::H):=by rw[←hst];exact hH.drop 1
    refine zQ 2 ?_;refine ae.cS (z:=((i+1:Nat):Int)) rfl (ev rfl) (ev rfl) (by(try simp only[List.length_reverse,List.length_cons,List.length_nil,List.length_append,List.length_map,List.length_set]);rw[wrap_i64 (by omega) (by omega)]<;>omega) (aa rfl _) ?_;refine zQ 4 ?_;refine ae.cS (z:=((j+1:Nat):Int)) rfl (ev rfl) (ev rfl) (by(try simp only[List.length_reverse,List.length_cons,List.length_nil,List.length_append,List.length_map,List.length_set]);rw[wrap_i64 (by omega) (by omega)]<;>omega) (aa rfl _) ?_;refine zQ 2 ?_;exact⟨mm-1,by omega,⟨i+1,j+1,L.set i v,rfl,hH,by omega,by omega,by omega,(by rw[List.length_set];exact N9),(by rw[CB (by omega),K0,HJ,List.filter_append];simp[HS]),(by rw[List.drop_set_of_lt (by omega)];exact Ah)⟩⟩
  ·refine zQ 1 ?_;have KD:j=l.length:=by omega
   rw[KD,List.take_length] at K0;have Ru:cE pv 104=some [.int .i64 0,.nul,.int .i64 0,.int .i64 0,.bool false,.int .i64 0,.int .i64 0,.nul]:=rfl;have hsz:bG pv 104=some 8:=rfl;have Dz:pv.bY 102=some (.slice 104):=rfl;obtain⟨QW,hcl,N'⟩:=BU (i:=i) (n:=l.length) hH aG Dz Ru rfl rfl (by omega);rw[←List.map_take,K0] at N';dsimp only[u2] at N';refine zQ 4 ?_;refine ae.go (d:=.win k aq (off+i*8) (l.length-i) 8) (st1:=_) rfl rfl (by exact congrArg (Option.map fun d=>(d,_)) (AP Dz hsz (by omega) _)) (aa rfl _) ?_;refine ae.N rfl rfl (d:=.tup []) (st1:=QW) (by exact hcl) ?_;refine zQ 1 ?_;have hH:=N';have iU:(l.filter (fun t=>!p t)).length=i:=by rw[←K0,List.length_take];omega
   have u9:=Ei (i:=i) hH aG (by rw[List.length_append,List.length_map,List.length_replicate];omega);rw[List.take_append_of_le_length (by rw[List.length_map,iU];omega),List.take_of_length_le (by rw[List.length_map,iU];omega)] at u9;dsimp only[u2] at u9;have hk:=(cm.ok 0 _ rfl).2 k (by simp only[bh.aD,D.ref]);refine zQ 4 ?_;refine ae.go (d:=.win k aq (off+0*8) (i-0) 8) (st1:=_) rfl rfl (by exact congrArg (Option.map fun d=>(d,_)) (n_ Dz hsz (by omega) _)) (aa rfl _) ?_;refine zQ 2 ?_;refine ag.ret ⟨rx,_,_,_,rfl,ak ((show aB _ s0.bs.length false 16 (D.win k aq (off+0*8) (i-0) 8)=some (D.win k aq (off+0*8) (i-0) 8) from by show(if k<s0.bs.length then some (D.win k aq (off+0*8) (i-0) 8) else _)=_;rw[if_pos hk.2])),?_⟩;refine .inl (cm.my b9 u9 (fun i e hi=>?_))
   cases i with
   |zero=>simp only[List.getElem?_cons_zero,Option.some.injEq] at hi;subst hi;exact⟨_,rfl,fun k hk=>hk⟩
   |succ i=>exact⟨e,hi,fun k hk=>hk⟩
end Go.Proofs.YtpcicphadikioaaGreat
namespace Go.Proofs.YtpcicphadikioaaGreat
open Go.V Go
theorem Jg {N:Nat} {S st:St} {H:List bh} {j k aq off s n:Nat} {es xM:List (List D)} (h:Has N S st H) (hj:H[j]?=some (.aD (.win k aq off n s) s es)) (jm:xM.length=n) (hs:∀e∈xM,e.length=s) (hw:S.flr≤N∨refs xM.flatten=0):
  ∃ah,st.wr k aq off xM.flatten=some ah∧Has N S ah (H.set j (.aD (.win k aq off n s) s xM)):=by
 have uH:=(h.ok j _ hj).2;have hown:=h.own hj
 cases hown with
 |win k aq off es c hm hle hc he=>
  have hk:=uH k (by simp only[bh.aD,D.ref]);have xF:xM.flatten.length=es.length*s:=by rw[bN hs,jm]
  refine⟨_,iJ hm (by omega) (eJ h hk.1 hw),?_⟩;refine h.zn hj (fun n hn hne=>?_) (by simp) rfl rfl ?_ (fun n hn=>.inl hn) fun n hn=>?_
  ·simp only;rw[List.getElem?_set_ne (fun e=>hne (by simp only[bh.aD,D.ref];omega))]
  ·have:=fF.win (st:=⟨st.bs.set k (.mem aq true (c.take off++xM.flatten++c.drop (off+xM.flatten.length))),st.flr,st.ro⟩) (s:=s) k aq off xM (c.take off++xM.flatten++c.drop (off+xM.flatten.length))
    (by simp only;rw[List.getElem?_set_self hk.2]) (by rw[jm];simp;omega) ?_ hs
   ·rw[jm] at this;exact this
   ·rw[jm,List.append_assoc,List.drop_append_of_le_length (by simp;omega),List.drop_take,Nat.sub_self,List.take_zero,List.nil_append,←xF,List.take_left']
    rfl
  ·simp only[bh.aD,D.ref] at hn;have:n=k:=by omega
   subst this;simp only[List.length_set];exact hk.2
def rH (l:List ir) (i:Nat) (r:ir):List ir:=l.take i++r::l.drop i
def iK (l:List ir) (key:List UInt8) (v:Int):List ir:=
 if cP l key=true then l.set (bc l key) ⟨(l.map (·.k)).getD (bc l key) [],v⟩ else rH l (bc l key) ⟨key,v⟩
theorem vm (l:List ir):∀e∈l.map cT,e.length=2:=by
 intro e he;obtain⟨r,_,rfl⟩:=List.mem_map.1 he;rfl
theorem Dw (l:List ir) (i:Nat) (hi:i≤l.length) (r:ir):ux ((l.map cT).flatten) (i*2) (cT r)=((rH l i r).map cT).flatten:=by
 have h1:(l.map cT).flatten=((l.take i).map cT).flatten++((l.drop i).map cT).flatten:=by rw[←List.flatten_append,←List.map_append,List.take_append_drop]
 have h2:((l.take i).map cT).flatten.length=i*2:=by rw[bN (vm _),List.length_map,List.length_take,Nat.min_eq_left hi]
 unfold ux rH;rw[h1,List.take_left' h2,List.drop_left' h2,List.map_append,List.flatten_append,List.map_cons,List.flatten_cons]
theorem G_ {N:Nat} {S st:St} {H:List bh} {j:Nat} {x:D} {l:List ir} (h:Has N S st H) (hj:H[j]?=some (.aD x 2 (l.map cT))) (hl:l.length<1000000):ng st x=some l:=by
 have hown:=h.own hj;have hr:=vH l;have oP:(l.map cT).length=l.length:=List.length_map _;generalize sX:l.map cT=es at*
 cases hown with
 |nul=>
  cases l with
  |nil=>rfl
  |cons a b=>cases sX
 |win k aq off es c hm hle hc he=>
  unfold ng;simp only[St.mem_of hm];rw[if_pos ⟨hle,by omega⟩,hc];exact hr
theorem Cm {N k : Nat} {S st : St} {H : List bh} {x : D} {l : List ir} {key : List UInt8} {v : Int} (h : Has N S st (.box k (.mem 0 false [x]) :: .aD x 2 (l.map cT) :: H)) (hF : S.flr ≤ N) (hl : l.length < 999999) :
  ∃ ah x', rY [.ptr k 0 0, .str key, .int .i64 v] st = some (.bool (!cP l key), ah) ∧ Has N S ah (.box k (.mem 0 false [x']) :: .aD x' 2 ((iK l key v).map cT) :: H) := by
 have hm := St.mem_of (h.at aG);have MB := G_ h aV (by omega)
 have Sv : I1 k x ≠ k := by
  cases x with
  | win kl vl ol ln s =>
   intro he;exact h.dis 0 1 _ _ (by decide) rfl rfl k rfl (by simp only [bh.aD, D.ref]; exact congrArg (· + 1) he)
  | _ => show k + 1 ≠ k; omega
 have NF := w9 l key
 have hP : rY [.ptr k 0 0, .str key, .int .i64 v] st = px k 0 0 key v st x l := by
  show (match st.bM k 0 with | some (_, ct) => _ | none => none) = _;rw [hm];show (match ng st x with | some l => px k 0 0 key v st x l | none => none) = _;rw [MB]
 rw [hP];unfold px;rw [if_neg Sv]
 cases ht : cP l key with
 | true =>
  have hil : bc l key < l.length := by
   unfold cP at ht;rw [Bool.and_eq_true, decide_eq_true_eq] at ht;exact ht.1
  obtain ⟨r, hr⟩ : ∃ r, l[bc l key]? = some r := ⟨l[bc l key]'hil, List.getElem?_eq_getElem _⟩
  have LA : (l.map (·.k)).getD (bc l key) [] = r.k := by rw [List.getD_eq_getElem?_getD, List.getElem?_map, hr]; rfl
  obtain ⟨kl, vl, ol, HE⟩ := o8 h aV (by intro h; rw [List.map_eq_nil_iff] at h; subst h; simp at hil);subst HE;obtain ⟨ah, h1, h2⟩ := h.tL (i := bc l key) (o := 1) (e := cT r) (cs := [.int .i64 v]) aV (by rw [List.getElem?_map, hr]; rfl) (Nat.le_refl 2) (.inl hF);refine ⟨ah, .win kl vl ol (l.map cT).length 2, ?_, ?_⟩
  ·rw [if_pos rfl];show (st.wr kl vl (ol + bc l key * 2 + 1) [.int .i64 v]).map _ = _;rw [h1]; rfl
  ·have xC : iK l key v = l.set (bc l key) ⟨r.k, v⟩ := by unfold iK; rw [if_pos ht, LA]
   rw [xC, List.map_set];exact h2
 | false =>
  rw [if_neg (by simp)];have xC : iK l key v = rH l (bc l key) ⟨key, v⟩ := by unfold iK; rw [if_neg (by rw [ht]; simp)]
  rw [xC];have hp := h.mf (s := 2) (es := [[D.str key, D.int .i64 v]]) (cs := [D.str key, D.int .i64 v]) (m := 1) rfl rfl (by intro e he; rw [List.mem_singleton.1 he]; rfl);obtain ⟨x', st1, h1, h2, _⟩ := hp.append (P := dN) (j := 2) (t1 := 116) (t2 := 116) (y := .win st.bs.length 0 0 1 2) rfl (hp.rows aG) rfl rfl rfl rfl rfl rfl rfl ⟨by decide, by decide⟩ (by simp only [List.length_map, List.length_cons, List.length_nil]; omega) (.inl hF);have GZ : cN dN [116, 116] x (.win st.bs.length 0 0 1 2) (st.push (.mem 0 true [.str key, .int .i64 v])) = some (x', st1) := h1;rw [GZ];have h3 : Has N S st1 (.box k (.mem 0 false [x]) :: .aD x' 2 (l.map cT ++ [[D.str key, D.int .i64 v]]) :: H) := h2.drop 1
  have hput : ∃ st2, tS x' (bc l key) l.length ((l.map cT).flatten) [.str key, .int .i64 v] st1 = some st2 ∧ Has N S st2 (.box k (.mem 0 false [x]) :: .aD x' 2 ((rH l (bc l key) ⟨key, v⟩).map cT) :: H) := by
   unfold tS
   by_cases hlt : bc l key < l.length
   ·rw [if_pos hlt];obtain ⟨kl, vl, ol, HE⟩ := o8 h3 aV (by simp);have I6 : (l.map cT ++ [[D.str key, D.int .i64 v]]).length = l.length + 1 := by simp
    rw [I6] at HE;subst HE;obtain ⟨st2, h4, h5⟩ := Jg (xM := (rH l (bc l key) ⟨key, v⟩).map cT) h3 aV (by unfold rH; simp; omega) (vm _) (.inl hF);rw [← Dw l _ NF] at h4;exact ⟨st2, h4, h5⟩
   ·rw [if_neg hlt];have he : bc l key = l.length := by omega
    refine ⟨st1, rfl, ?_⟩;have hi : rH l (bc l key) ⟨key, v⟩ = l ++ [⟨key, v⟩] := by rw [he]; unfold rH; rw [List.take_length, List.drop_length]
    rw [hi, List.map_append];exact h3
  obtain ⟨st2, h4, h5⟩ := hput;dsimp only;rw [h4];dsimp only;have hb := h5.at aG;have hk := (h5.ok 0 _ rfl).2 k rfl;have hw : st2.wr k 0 0 [x'] = some { st2 with bs := st2.bs.set k (.mem 0 false ([x].take 0 ++ [x'] ++ [x].drop (0 + [x'].length))) } := iJ hb (Nat.le_refl 1) (eJ h5 hk.1 (.inl hF));rw [hw];exact ⟨_, x', rfl, h5.x9 (aq := 0) aG⟩
end Go.Proofs.YtpcicphadikioaaGreat
namespace Go.Proofs.YtpcicphadikioaaGreat
open Go.V Go
def uu (fr:Go.V.Fr) (k:Nat):Go.V.D:=Go.V.nth .aY fr.loc k
def Jm (op:Int) (F:List Tr):bn:=match F with
 |[]=>EV 1
 |[t]=>t.n
 |_=>EV op
def Jn (x:D) (F:List Tr):D:=match F with
 |[]=>dq []
 |[t]=>dq t.ks
 |_=>x
theorem vg (op:Int) (x:D) (F:List Tr):xO op x F=bR (Jm op F) (Jn x F):=by
 rcases F with _|⟨t,_|⟨u,r⟩⟩<;>rfl
theorem rV {st:St} {N:Nat} {op:Int} {x:D} {F:List Tr} (hf:jP F) (hx:aB st N false 15 x=some (dq F)):aB st N false 16 (.agg (bR (Jm op F) (Jn x F)))=some (.agg (tC (fM op F))):=by
 rcases F with _|⟨t,_|⟨u,r⟩⟩
 ·rfl
 ·exact gg (hf t (List.mem_singleton.2 rfl)) _ _ _
 ·show(cH (aB st N false 15) (bR (EV op) x)).map D.agg=_
  have h8:tC (fM op (t::u::r))=bR (EV op) (dq (t::u::r)):=by
   show tC (AG op _)=_;unfold tC AG;simp only[Tr.n,Tr.ks,lh]
  rw[h8];simp only[bR,cH,hx]
  rfl
theorem Gu {s0:St} {t:Tr}:Ev pv 64 [.agg (tC t)] s0 (.bool (t.n.op==1)) s0:=by
 refine Ev.jL rfl OE rfl rfl rfl ?_;refine zE ?_;obtain⟨aW,hF,hH⟩:=ri s0;generalize ai .ro s0=S at*;refine zQ 2 ?_;refine qb hH fun k1 st lL hH=>?_;dsimp only[u2,u1,u3,u4,setMany,u5,u6,D.cells,Nat.reduceAdd,tC,bR] at hH;refine zQ 10 ?_;refine ag.ret ⟨rx,_,rfl,rl aW hH (rfl)⟩
theorem Gt {s0:St} {n:bn} {x:D} {l:List Tr} (rK:V.Rows s0 8 x (l.map tC)) (rL:jP l) (hcl:bO l≤1048575):Ev pv 50 [.agg (bR n x)] s0 (.agg (tC (fM 3 ((aX 3 l).filter fun t=>t.n.op !=1)))) s0:=by
 have hsf:jP (aX 3 l):=jo rL;have RT:=fO 3 l;have kU:=cy (aX 3 l);have lW:jP ((aX 3 l).filter fun t=>!(t.n.op==1)):=fun k hk=>hsf k (List.mem_filter.1 hk).1;have iU:=List.length_filter_le (fun t:Tr=>!(t.n.op==1)) (aX 3 l);show Ev pv _ _ _ (.agg (tC (fM 3 ((aX 3 l).filter fun t=>!(t.n.op==1))))) _;refine Ev.jL rfl OP rfl rfl rfl ?_;refine zE ?_;obtain⟨aW,hF,hH⟩:=ri s0;generalize ai .ro s0=S at*;have mD:=Arg.of rK aW;refine zQ 2 ?_;refine qb hH fun k1 st lL hH=>?_;dsimp only[u2,u1,u3,u4,setMany,u5,u6,D.cells,Nat.reduceAdd,tC,bR] at hH;refine qa hH fun k2 st hk2 hH=>?_;refine zQ 1 ?_;have hH:Has s0.bs.length S st (.box k2 (.mem 0 false tz)::.box k1 (.mem 0 false (bR n x))::[]):=hH;obtain⟨d1,st1,Bz,Ge,Nd⟩:=sf (op:=3) hF rL (by omega) mD hH;refine zQ 4 ?_;refine ae.dz rfl rfl Bz (aa rfl _) ?_;refine zQ 2 ?_;have hH:=Ge;obtain⟨d2,st2,NQ,s8⟩:=BP (g:=64) (p:=fun t=>t.n.op==1) hH hsf (by omega) (fun st t ht=>Gu);refine zQ 3 ?_;refine ae.dz rfl rfl NQ (aa rfl _) ?_;refine zQ 2 ?_
 have gR:∃(H2:List bh) (j2:Nat),Has s0.bs.length S st2 H2∧H2[j2]?=some (.box k2 (.mem 0 false tz))∧V.Rows st2 8 d2 (((aX 3 l).filter fun t=>!(t.n.op==1)).map tC)∧(∀ah H3,Has s0.bs.length S ah H3→(∀j e,j≠j2→H2[j]?=some e→H3[j]?=some e)→aB ah s0.bs.length false 15 d2=some (dq ((aX 3 l).filter fun t=>!(t.n.op==1)))):=by
  rcases s8 with hH|⟨rfl,Iu,hH⟩
  ·refine⟨_,1,hH,rfl,hH.rows aG,fun ah H3 h3 h4=>?_⟩;rw[lI];exact h3.freeze (h4 0 _ (by decide) rfl) (ku lW) (n:=14) (by decide)
  ·rw[Iu];exact⟨_,0,hH,rfl,dY _ (l:=[]) (fun k hk=>by cases hk),fun ah H3 h3 h4=>rfl⟩
 obtain⟨H2,j2,hH,Qn,DB,hfz⟩:=gR;generalize((aX 3 l).filter fun t=>!(t.n.op==1))=F at*;have Dz:=vi (op:=3) DB (by omega) lW;rw[vg] at Dz;refine zQ 3 ?_;refine ae.dz rfl rfl Dz (aa rfl _) ?_;refine ae.bP hH rfl (ev rfl) (ev rfl) rfl (by exact rfl) Qn (by exact rfl) (.inl hF) (fun st hH=>?_);refine zQ 1 ?_;have hb2:(H2.set j2 (bh.box k2 (.mem 0 false (bR (Jm 3 F) (Jn d2 F)))))[j2]?=some (bh.box k2 (.mem 0 false (bR (Jm 3 F) (Jn d2 F)))):=List.getElem?_set_self (List.getElem?_eq_some_iff.1 Qn).1;have hz:=rV (op:=3) lW (hfz st _ hH (fun j e hj he=>by rw[List.getElem?_set_ne (fun h=>hj h.symm)];exact he));exact ag.ret ⟨rx,_,hH.cB rfl hb2 rfl,rl aW hH hz⟩
theorem GA {s0:St} {n:bn} {x:D} {l:List Tr} (rK:V.Rows s0 8 x (l.map tC)) (rL:jP l) (hcl:bO l≤1048575):Ev pv 51 [.agg (bR n x)] s0 (.agg (tC (fM 4 (iG (aX 4 l).length (aX 4 l))))) s0:=by
 have hsf:jP (aX 4 l):=jo rL;have RT:=fO 4 l;refine Ev.jL rfl OO rfl rfl rfl ?_;refine zE ?_;obtain⟨aW,hF,hH⟩:=ri s0;generalize ai .ro s0=S at*;have mD:=Arg.of rK aW;refine zQ 2 ?_;refine qb hH fun k1 st lL hH=>?_;dsimp only[u2,u1,u3,u4,setMany,u5,u6,D.cells,Nat.reduceAdd,tC,bR] at hH;refine qa hH fun k2 st hk2 hH=>?_;refine zQ 1 ?_;have hH:Has s0.bs.length S st (.box k2 (.mem 0 false tz)::.box k1 (.mem 0 false (bR n x))::[]):=hH;obtain⟨d1,st1,Bz,Ge,Nd⟩:=sf (op:=4) hF rL (by omega) mD hH;refine zQ 4 ?_;refine ae.dz rfl rfl Bz (aa rfl _) ?_;refine zQ 2 ?_;have hH:=Ge.take 2;generalize aX 4 l=F0 at*;refine zQ 1 ?_;refine ag.loop (fun mm fr st=>∃(f:Nat) (y:D) (F:List Tr),fr.clean=⟨5,[uu fr 0,uu fr 1,.ptr k2 0 0,y,uu fr 4],[]⟩∧Has s0.bs.length S st (.aD d1 8 (F0.map tC)::.box k2 (.mem 0 false tz)::[])∧(F.length≤mm)∧(jP F)∧(bO F≤bO F0)∧((y=d1∧F=F0)∨y=dq F)∧(iG f F=iG F0.length F0)∧(F.length≤f)) (F0.length) ?_ ?_
 ·exact⟨F0.length,d1,F0,rfl,hH,Nat.le_refl _,hsf,Nat.le_refl _,.inl ⟨rfl,rfl⟩,rfl,Nat.le_refl _⟩
 rintro mm fr st ⟨f,y,F,hfr,hH,UG,lW,UH,hy,hal,UI⟩;rw[hfr];clear hfr;generalize uu fr=ee;clear fr
 have DB:V.Rows st 8 y (F.map tC):=by
  rcases hy with⟨rfl,rfl⟩|rfl
  ·exact hH.rows aG
  ·exact dY st lW
 have UN:=cy F;have Kg:jP (cG F):=mi lW;have Sj:=pM F;have Qq:jP (bZ (cG F)):=jw Kg;have UF:=qd (cG F);have rM:=AH F;have ho:=FA DB lW (by omega);have hj:=yB (dY st Kg) Kg (by omega);have xH:=dY st Qq;refine zQ 4 ?_;refine ae.dz rfl rfl ho (aa rfl _) ?_;refine ae.dz rfl rfl hj (aa rfl _) ?_;refine zQ 6 ?_;refine ae.iZ rfl (ev rfl) xH rfl (aa rfl _) ?_;refine qm ?_;refine ae.iZ rfl (ev rfl) DB rfl (aa rfl _) ?_;refine zQ 2 ?_;rw[List.length_map,List.length_map]
 by_cases hlen:(bZ (cG F)).length=F.length
 ·have hc:((((bZ (cG F)).length:Nat):Int)==((F.length:Nat):Int))=true:=by rw[hlen];simp
  have TK:iG f F=F:=by
   cases f with
   |zero=>rfl
   |succ f=>rw[iG,if_pos hlen]
  rw[←hal,TK];refine qD rfl (by rw[hc]) ?_;have Dz:=vi (op:=4) DB (by omega) lW;rw[vg] at Dz;refine zQ 3 ?_;refine ae.dz rfl rfl Dz (aa rfl _) ?_;refine ae.bP hH rfl (ev rfl) (ev rfl) rfl (by exact rfl) aV (by exact rfl) (.inl hF) (fun st hH=>?_);dsimp only[u1,u2] at hH;refine zQ 1 ?_;have hH:Has s0.bs.length S st (.aD d1 8 (F0.map tC)::.box k2 (.mem 0 false (bR (Jm 4 F) (Jn y F)))::[]):=hH
  have Lr:aB st s0.bs.length false 15 y=some (dq F):=by
   rcases hy with⟨rfl,rfl⟩|rfl
   ·rw[lI];exact hH.freeze aG (ku lW) (n:=14) (by decide)
   ·rfl
  exact ag.ret ⟨rx,_,hH.cB rfl aV rfl,rl aW hH (rV lW Lr)⟩
 ·have hc:((((bZ (cG F)).length:Nat):Int)==((F.length:Nat):Int))=false:=by simp;omega
  obtain⟨f',rfl⟩:∃f',f=f'+1:=⟨f-1,by omega⟩
  rw[iG,if_neg hlen] at hal;refine qE rfl (by rw[hc]) ?_;refine zQ 5 ?_;exact⟨mm-1,by omega,⟨f',dq (bZ (cG F)),bZ (cG F),rfl,hH,by omega,Qq,by omega,.inr rfl,hal,by omega⟩⟩
end Go.Proofs.YtpcicphadikioaaGreat
