/-
 simple: a list of nodes as a tree, and a tree as a list of nodes.
-/
import Derived.Test.YtecjacicdpejaaaGreatXGQh
import Derived.Test.YtecjacicdpejaaaGreatXKa
import Derived.Test.YtecjacicdpejaaaGreatXGPb
import Derived.Test.YtecjacicdpejaaaGreatXSrx
import Derived.Test.YtecjacicdpejaaaGreatXM2
set_option maxRecDepth 100000
set_option maxHeartbeats 4000000
set_option linter.unusedSimpArgs false
set_option linter.unusedVariables false
set_option linter.unusedSectionVars false
namespace Go.Proofs.YtecjacicdpejaaaGreat
open Go.V Go
def b6 (fr:Go.V.Fr) (k:Nat):Go.V.D:=Go.V.nth .bp fr.loc k
theorem Hh {P:bB→Prop} (l:List Tr):(∀n∈(dR l).flat,P n)↔∀t∈l,t.fa P:=by rw[←aO.fK,tP,lp]
theorem rQ {l:List Tr} {i:Nat} {t:Tr} (h:l[i]?=some t):(dR (l.drop i)).flat=t.flat++(dR (l.drop (i+1))).flat:=by
 obtain⟨h3,h4⟩:=List.getElem?_eq_some_iff.1 h;rw[List.drop_eq_getElem_cons h3,h4];rfl
theorem Tr.Gm (t:Tr):t.flat=t.n::(dR t.ks).flat:=by
 cases t;simp only[Tr.flat,Tr.n,Tr.ks,Cq]
theorem Tr.J2 {t:Tr}:t.ok↔sS t.n t.ks.length∧∀k∈t.ks,k.ok:=by
 cases t with
 |mk n ks=>
  have:∀ks:aO,ks.ok↔∀k∈ks.l,k.ok:=by
   intro ks
   induction ks using aO.rec (motive_1:=fun _=>True) with
   |mk n ks _=>trivial
   |nil=>simp[aO.ok,aO.l]
   |cons t ts _ ih=>simp only[aO.ok,aO.l,List.mem_cons,forall_eq_or_imp,ih]
  simp only[Tr.ok,Tr.n,Tr.ks,mf,this]
theorem EC {n:Nat} (h:1≤n):cn n (some (.int .i64 1)) none=some (1,n):=by
 have h1:(1:Int)≤(n:Int):=by omega
 simp[cn,gF,iX,h1]
theorem Cu {α:Type} (l:List α) (n:Nat) (h:l.length≤n):l.take n=l:=List.take_of_length_le h
def tz:List D:=[.int .i64 0,.nul,.int .i64 0,.int .i64 0,.bool false,.int .i64 0,.int .i64 0,.nul]
theorem Al : ∀ (m : Nat) (t : Tr) (rest : List bB), t.eM ≤ m → m ≤ 1048576 → t.ok → (∀ n ∈ t.flat ++ rest, l_ n) → ∀ (s0 : St) (x : D), gv x 7 ((t.flat ++ rest).map aG) → ∃ d, Ev pv 172 [x] s0 d s0 ∧ ∃ y, d = .tup [.agg (tC t), y] ∧ gv y 7 (rest.map aG)
 | 0, t, rest, h, _, _, _, _, _, _ => by have := Tr.dQ t; omega
 | m + 1, t, rest, h, hm, eo, hv, s0, x, N2 => by
  have KR := Tr.dQ t;have jF := cK t.ks;obtain ⟨ho, tf⟩ := Tr.J2.1 eo;have hkk : t.n.kids = (t.ks.length : Nat) := ho.1;have jU := Tr.Gm t;rw [jU, List.cons_append] at hv N2;have gN : ((t.n :: ((dR t.ks).flat ++ rest)).map aG)[0]? = some (aG t.n) := rfl;have SR := hv t.n (List.mem_cons_self ..);refine Ev.GW rfl Mg rfl rfl rfl ?_;dsimp only [u3, u4, List.length, Nat.reduceSub, Nat.reduceAdd, w1, w2];obtain ⟨bf, hF, hH⟩ := ri s0;generalize ai .ro s0 = S at *;have hx := N2.arg s0.bs.length S;refine qq ?_;refine qj fun K hK => ?_;refine qa hH fun k2 st hk2 hH => ?_;refine qm ?_;refine qe hK ?_;refine qq ?_;refine qj fun K hK => ?_;refine qm ?_;refine qr fun p7 UM => ?_;refine ae.dj rfl (ev rfl) (by assumption) rfl (by dsimp only [Fr.put, u1, u2] <;> rfl) ?_;refine ae.go (d := .agg (aG t.n ++ [.nul])) (st1 := _) rfl rfl rfl (by dsimp only [Fr.put, u1, u2] <;> rfl) ?_;refine qa hH fun k4 st KV hH => ?_;refine qS hH ax fun st hH => ?_;dsimp only [u2, u1, u3, u4, setMany, u5, u6, D.cells, Nat.reduceAdd, tC, b_, aG] at hH;refine qe hK ?_;refine qq ?_;refine qj fun K hK => ?_;refine qm ?_;refine ae.CV (l := 1) (r := ((t.n :: ((dR t.ks).flat ++ rest)).map aG).length) rfl (ev rfl) N2 rfl rfl (EC (by simp)) (fun _ => by dsimp only [Fr.put, u1, u2] <;> rfl) (fun Rb Kl => ?_);refine qm ?_;refine qe hK ?_;rw [Cu _ _ (Nat.le_refl _), List.map_cons, List.drop_succ_cons, List.drop_zero] at Kl;refine qq ?_;refine qq ?_;refine qj fun K hK => ?_;refine qp (o := 0) ?_;refine qp (o := 6) ?_;refine ql hH ax ?_;refine qm ?_;refine qe hK ?_;have hH : Has s0.bs.length S st (.box k4 (.mem 0 false (b_ t.n .nul)) :: .aE .nul 8 (([] : List Tr).map tC) :: .box k2 (.mem 0 false tz) :: []) := Has.ES [_] [_] (hH.eP 8);refine ag.block ?_;refine ag.loop (fun mm fr st => ∃ (i : Nat) (y kd : D), fr.clean = ⟨16, [y, b6 fr 1, .ptr k2 0 0, b6 fr 3, .ptr k4 0 0, b6 fr 5, b6 fr 6, b6 fr 7, b6 fr 8, b6 fr 9, b6 fr 10, b6 fr 11, b6 fr 12, b6 fr 13, .int .i64 t.n.kids, .int .i64 (i : Nat)], []⟩ ∧ Has s0.bs.length S st (.box k4 (.mem 0 false (b_ t.n kd)) :: .aE kd 8 ((t.ks.take i).map tC) :: .box k2 (.mem 0 false tz) :: []) ∧ (i + mm = t.ks.length) ∧ (gv y 7 (((dR (t.ks.drop i)).flat ++ rest).map aG)) ∧ (∀ k, kd.ref = k + 1 → S.bs.length ≤ k)) (t.ks.length) ?_ ?_
  ·exact ⟨0, Rb, .nul, rfl, hH, by omega, Kl, fun k hk => by simp only [D.ref] at hk; omega⟩
  rintro mm fr st ⟨i, y, kd, hfr, hH, hi, hy, gO⟩;rw [hfr];clear hfr;generalize b6 fr = ee;clear fr;refine qq ?_;refine qj fun K hK => ?_;refine qg ?_;refine qe hK ?_;refine qq ?_;refine ag.cond (by rfl) (fun h1 => ?_) (fun h1 => ?_) <;> try simp only [decide_eq_true_eq, decide_eq_false_iff_not] at h1
  ·refine ag.skip ?_
   obtain ⟨p, hp⟩ : ∃ p, t.ks[i]? = some p := ⟨t.ks[i]'(by omega), List.getElem?_eq_getElem _⟩
   have uK := List.mem_of_getElem? hp;have Jn := eT uK;rw [rQ hp, List.append_assoc] at hy;have hall := (Hh (P := l_) t.ks).1 (fun n hn => hv n (List.mem_cons_of_mem _ (List.mem_append_left _ hn)))
   have H4 : ∀ n ∈ p.flat ++ ((dR (t.ks.drop (i + 1))).flat ++ rest), l_ n := by
    intro n hn
    rcases List.mem_append.1 hn with hn | hn
    ·exact (Tr.fK p).1 (hall p uK) n hn
    rcases List.mem_append.1 hn with hn | hn
    ·exact (Hh _).2 (fun k hk => hall k (List.mem_of_mem_drop hk)) n hn
    ·exact hv n (List.mem_cons_of_mem _ (List.mem_append_right _ hn))
   have xG := fun st => Al m p _ (by omega) (by omega) (tf p uK) H4 st y hy;refine qq ?_;refine ag.block ?_;refine qq ?_;refine qj fun K hK => ?_;refine qa hH fun k5 st Gb hH => ?_;dsimp only [u2, u1, u3, u4, setMany, u5, u6, D.cells, Nat.reduceAdd, tC, b_, aG] at hH;refine qe hK ?_;refine qq ?_;refine qj fun K hK => ?_;refine qm ?_;obtain ⟨d, aI, y2, rfl, wM⟩ := xG st;refine qv aI ?_;refine qm ?_;refine qg ?_;refine qg ?_;refine qS hH ax fun st hH => ?_;dsimp only [u2, u1, u3, u4, setMany, u5, u6, D.cells, Nat.reduceAdd, tC, b_, aG] at hH;refine qm ?_;refine qe hK ?_;have hH : Has s0.bs.length S st (.box k5 (.mem 0 false (tC p)) :: .box k4 (.mem 0 false (b_ t.n kd)) :: .aE kd 8 ((t.ks.take i).map tC) :: .box k2 (.mem 0 false tz) :: []) := hH;refine qj fun K hK => ?_;refine qp (o := 7) ?_;refine ae.eR hH rfl (ev rfl) aX rfl (aa rfl _) ?_;refine ae.aV (m := 8) (r := tC p) hH rfl (ev rfl) ax rfl rfl rfl (aa rfl _) ?_;refine qh (s := 8) (vs := [_]) hH fun k25 st O5 hH => ?_;dsimp only [u2, u1, u3, u4, setMany, u5, u6, D.cells, Nat.reduceAdd, tC, b_, aG] at hH;refine ae.cB (s := 8) hH rfl (ev rfl) (ev rfl) da (hH.rows ax) rfl rfl rfl rfl rfl rfl rfl ⟨(Nat.le_of_ble_eq_true rfl), (Nat.le_of_ble_eq_true rfl)⟩ (fun _ => (aa rfl _)) (by simp only [List.length_map, List.length_take, List.length_cons, List.length_nil]; omega) (.inl hF) gO (fun Nv st gO hH => ?_);dsimp only [u1, u2] at hH;refine qp (o := 7) ?_;refine qT hH bV (fun st hH => ?_) (hcs := hH.iR da);dsimp only [u2, u1, u3, u4, setMany, u5, u6, D.cells, Nat.reduceAdd, tC, b_, aG] at hH;refine qe hK ?_;have hH := hH.drop 2;refine qj fun K hK => ?_;refine qA ?_;refine qm ?_;refine qe hK ?_;exact ⟨mm - 1, by omega, ⟨i + 1, y2, Nv, rfl, (by rw [List.take_add_one, hp, List.map_append]; exact hH), by omega, wM, gO⟩⟩
  ·refine ag.exit ?_;have he : i = t.ks.length := by rw [hkk] at h1; omega
   rw [he, List.drop_length] at hy;rw [he, List.take_length] at hH;have hall := (Hh (P := l_) t.ks).1 (fun n hn => hv n (List.mem_cons_of_mem _ (List.mem_append_left _ hn)));have Gd : ∀ k ∈ t.ks, k.fa ma := fun k hk => (Tr.fK k).2 (fun n hn => ⟨((Tr.fK k).1 (hall k hk) n hn).1, ((Tr.fK k).1 (hall k hk) n hn).2.1⟩);refine qq ?_;refine qj fun K hK => ?_;refine ae.aV (m := 8) (r := b_ t.n kd) hH rfl (ev rfl) ax rfl rfl rfl (aa rfl _) ?_;refine qm ?_;refine ae.b8 hH rfl (ev rfl) (ev rfl) rfl (by exact rfl) bV (by exact rfl) (.inl hF) (fun st hH => ?_);dsimp only [u1, u2] at hH;refine qm ?_;refine qe hK ?_;have hH : Has s0.bs.length S st (.box k4 (.mem 0 false (b_ t.n kd)) :: .aE kd 8 (t.ks.map tC) :: .box k2 (.mem 0 false (b_ t.n kd)) :: []) := hH;obtain ⟨y', hy1, wM⟩ := hy.freeze st s0.bs.length 14;have BA : aH st s0.bs.length false 14 kd = some (dD t.ks) := by rw [lO]; exact hH.freeze aX (kG Gd) (n := 13) (by decide)
   have PB : aH st s0.bs.length false 15 (.agg (b_ t.n kd)) = some (.agg (tC t)) := by
    show (dH (aH st s0.bs.length false 14) (b_ t.n kd)).map D.agg = _;have yM : aH st s0.bs.length false 14 t.n.rd = some t.n.rd := by rw [SR.1]; rfl
    simp only [b_, dH, BA, yM]
    rfl
   refine ag.ret ⟨rx, _, _, hH.CN rfl bV rfl rfl, rl bf hH (d' := .tup [.agg (tC t), y']) ?_, y', rfl, ?_⟩
   ·show (dH (aH st s0.bs.length false 15) [.agg (b_ t.n kd), y]).map D.tup = _;simp only [dH, PB, hy1]
    rfl
   ·exact wM
theorem wx {g:D→Option D} {f:D→D}:∀{l:List D},(∀d∈l,g d=some (f d))→dH g l=some (l.map f)
 |[],_=>rfl
 |d::l,h=>by simp only[dH,h d (List.mem_cons_self ..),wx (fun d hd=>h d (List.mem_cons_of_mem _ hd)),List.map_cons]
theorem BL {N L j:Nat} {S st:St} {H:List bj} {x:D} {s:Nat} {es:List (List D)} {f:D→D} (hH:Has N S st H) (hj:H[j]?=some (.aE x s es)) (hx:∀k,x.ref=k+1→L≤k) {n:Nat} (hp:∀e∈es,∀d∈e,cG st L (n+1) d=some (f d)):aH st L false (n+3) x=some (.sl ((es.map (·.map f)).map (jr s))):=by
 have hown:=hH.own hj
 cases hown with
 |nul=>rfl
 |win k aq off es c hm hl hc he=>
  have hk:=hx k (by simp only[D.ref]);show(if k<L then some (D.win k aq off es.length s) else cG st L (n+2) (.win k aq off es.length s))=_;rw[if_neg (show¬k<L by omega),cG];simp only[if_neg (show¬k<L by omega),St.mem_of hm,Option.bind_some]
  rw[if_pos hl,hc,wx (f:=f) (fun d hd=>by
   obtain⟨e,lD,xH⟩:=List.mem_flatten.1 hd
   exact hp e lD d xH)]
  have h1:(es.map (·.map f)).flatten=es.flatten.map f:=by rw[List.map_flatten]
  have h2:(es.map (·.map f)).length=es.length:=List.length_map _
  have h3:∀e∈es.map (·.map f),e.length=s:=by
   intro e lD;obtain⟨e0,h0,rfl⟩:=List.mem_map.1 lD;rw[List.length_map];exact he e0 h0
  simp only[Option.map_some];rw[←h1,←h2,fp h3]
theorem Fv {N L j:Nat} {S st:St} {H:List bj} {x v:D} {s:Nat} {es:List (List D)} (hH:Has N S st H) (hj:H[j]?=some (.aE x s es)) (hx:∀k,x.ref=k+1→L≤k) {n:Nat} (h:aH st L false (n+2) x=some v):cG st L (n+1) x=some v:=by
 have hown:=hH.own hj
 cases hown with
 |nul=>exact h
 |win k aq off es c hm hl hc he=>
  have hk:=hx k (by simp only[D.ref]);have h2:(if k<L then some (D.win k aq off es.length s) else cG st L (n+1) (.win k aq off es.length s))=some v:=h
  rwa [if_neg (show¬k<L by omega)] at h2
theorem Ao:∀l:List Tr,(l.flatMap Tr.nY).length=b7 l
 |[]=>rfl
 |t::l=>by rw[List.flatMap_cons,List.length_append,Tr.jI,bU,Ao l]
theorem kY {l:List Tr} {i:Nat} {k:Tr} (h:l[i]?=some k):b7 (l.take i)+k.eM≤b7 l:=by
 have h1:l.take (i+1)=l.take i++[k]:=by rw[List.take_add_one,h];rfl
 have h2:=jm (l.take (i+1)) (l.drop (i+1));rw[List.take_append_drop,h1,jm] at h2;have h3:b7 [k]=k.eM:=by simp[b7]
 omega
theorem yh {st:St} {N n:Nat} {d:D} (h:cj d=true):cG st N (n+1) d=some d:=by
 cases d<;>simp[cj] at h<;>rfl
def fN (n:bB) (x:D) (k:Nat):List D:=[.int .i64 n.op,x,.int .i64 n.mn,.int .i64 n.mx,.bool n.lz,.int .i64 n.cap,.int .i64 (k:Nat)]
theorem Dl {f:D→D} {l:List bB} (h:∀n∈l,∀d∈aG n,f d=d):(l.map aG).map (·.map f)=l.map aG:=by
 rw[List.map_map];apply List.map_congr_left;intro n hn;have h1:(aG n).map f=(aG n).map id:=List.map_congr_left (fun d hd=>h n hn d hd);show(aG n).map f=aG n;rw[h1,List.map_id]
theorem Ap:∀(m:Nat) (t:Tr),t.eM≤m→m≤1048576→t.fa ma→∀s0:St,Ev pv 174 [.agg (tC t)] s0 (p_ t.nY) s0
 |0,t,h,_,_,_=>by have:=Tr.dQ t;omega
 |m+1,t,h,hm,hfa,s0=>by
  have KR:=Tr.dQ t;have jF:=cK t.ks;have rZ:=(Tr.d_.1 hfa).2;obtain⟨rW,gV⟩:=(Tr.d_.1 hfa).1;rw[Tr.Ec];refine Ev.jq rfl Me rfl rfl rfl ?_;dsimp only[u3,u4,List.length,Nat.reduceSub,Nat.reduceAdd,w1,w2];obtain⟨bf,hF,hH⟩:=ri s0;generalize ai .ro s0=S at*;have rY:V.Rows s0 8 (dD t.ks) (t.ks.map tC):=ew s0 rZ;have kV:=Arg.of rY bf;refine qq<|qj fun K hK=>qb hH fun k1 st lR hH=>?_;dsimp only[u2,u1,u3,u4,setMany,u5,u6,D.cells,Nat.reduceAdd,tC,b_,aG] at hH;refine qm ?_;refine qe hK<|qq<|qj fun K hK=>qp (o:=0) ?_;refine ae.aV (m:=7) hH rfl (ev rfl) (by exact ax) (by dsimp only[List.drop_succ_cons,List.drop_zero,List.take_succ_cons,List.take_zero,tC,b_,aG]<;>rfl) rfl rfl (by dsimp only[Fr.put,u1,u2]<;>rfl) ?_;refine qa hH fun k3 st Iq hH=>?_;refine qS hH ax fun st hH=>?_;dsimp only[u2,u1,u3,u4,setMany,u5,u6,D.cells,Nat.reduceAdd,tC,b_,aG] at hH;refine qe hK<|qq<|qj fun K hK=>qp (o:=7) ?_;refine ql hH aX ?_;refine qn ?_;simp only[List.length_map];refine qp (o:=6) ?_;refine qT hH ax fun st hH=>?_;dsimp only[u2,u1,u3,u4,setMany,u5,u6,D.cells,Nat.reduceAdd,tC,b_,aG] at hH;refine qe hK ?_;have hH:Has s0.bs.length S st (.aE .nul 2 []::.box k3 (.mem 0 false [.int .i64 t.n.op,t.n.rd,.int .i64 t.n.mn,.int .i64 t.n.mx,.bool t.n.lz,.int .i64 t.n.cap,.int .i64 (t.ks.length:Nat)])::.box k1 (.mem 0 false (tC t))::[]):=hH.eP 2;have QF:∀st,V.Rows st 2 t.n.rd (t.n.rs.map au):=fun st=>by rw[rW];exact cz st _
  refine qq<|qj fun K hK=>qp (o:=1) ?_;refine ql hH aX ?_;refine ae.cB (s:=2) hH rfl (ev rfl) (ev rfl) ax (QF _) rfl rfl rfl rfl rfl rfl rfl ⟨(Nat.le_of_ble_eq_true rfl),(Nat.le_of_ble_eq_true rfl)⟩ (fun _=>by dsimp only[Fr.put,u1,u2]<;>rfl) (by simp only[List.length_map,List.length_nil];omega) (.inl hF) (fun k hk=>by simp only[D.ref] at hk;omega) (fun E4 st Kz hH=>?_);dsimp only[u1,u2,u4] at hH;refine qp (o:=1) ?_;refine qT hH aX (fun st hH=>?_) (hcs:=hH.iR ax);dsimp only[u2,u1,u3,u4,setMany,u5,u6,D.cells,Nat.reduceAdd,tC,b_,aG] at hH;refine qe hK<|qq<|qj fun K hK=>?_;refine ae.aV (m:=7) hH rfl (ev rfl) (by exact aX) (by dsimp only[List.drop_succ_cons,List.drop_zero,List.take_succ_cons,List.take_zero,tC,b_,aG]<;>rfl) rfl rfl (by dsimp only[Fr.put,u1,u2]<;>rfl) ?_;refine qh (s:=7) (vs:=[_]) hH fun k18 st O7 hH=>?_;refine qm ?_;refine qe hK<|qq<|qq<|qj fun K hK=>qp (o:=7) ?_;refine ql hH da ?_;refine qn ?_;simp only[List.length_map];refine qm ?_;refine qe hK ?_;have hH:Has s0.bs.length S st (.aE (.win k18 0 0 1 7) 7 (fN t.n E4 t.ks.length::(([]:List bB)).map aG)::.aE E4 2 (t.n.rs.map au)::[]):=hH.take 2;refine ag.block<|ag.loop (fun mm fr st=>∃(i:Nat) (od:D),fr.clean=⟨23,[b6 fr 0,.ptr k1 0 0,b6 fr 2,b6 fr 3,od,b6 fr 5,b6 fr 6,b6 fr 7,b6 fr 8,b6 fr 9,b6 fr 10,b6 fr 11,b6 fr 12,b6 fr 13,b6 fr 14,b6 fr 15,b6 fr 16,b6 fr 17,b6 fr 18,b6 fr 19,dD t.ks,.int .i64 (t.ks.length:Nat),.int .i64 (i:Nat)],[]⟩∧Has s0.bs.length S st (.aE od 7 (fN t.n E4 t.ks.length::((t.ks.take i).flatMap Tr.nY).map aG)::.aE E4 2 (t.n.rs.map au)::[])∧(i+mm=t.ks.length)∧(∀k,od.ref=k+1→S.bs.length≤k)) (t.ks.length) ?_ ?_
  ·exact⟨0,.win k18 0 0 1 7,rfl,hH,by omega,(fun k hk=>by simp only[D.ref] at hk;omega)⟩
  rintro mm fr st ⟨i,od,hfr,hH,hi,gO⟩;rw[hfr];clear hfr;generalize b6 fr=ee;clear fr;refine qq<|qj fun K hK=>qg ?_;refine qe hK<|qq ?_;refine ag.cond (by rfl) (fun h1=>?_) (fun h1=>?_)<;>try simp only[decide_eq_true_eq,decide_eq_false_iff_not] at h1
  ·refine ag.skip ?_
   obtain⟨p,hp⟩:∃p,t.ks[i]?=some p:=⟨t.ks[i]'(by omega),List.getElem?_eq_getElem _⟩
   have uK:=List.mem_of_getElem? hp;have Jn:=eT uK;have oY:=kY hp;have gN:=lu hp;have Nf:=Tr.re p (rZ p uK) (by omega);have hlen:=Ao (t.ks.take i);have DT:=Tr.jI p;have yL:=fun st=>Ap m p (by omega) (by omega) (rZ p uK) st;refine qq<|ag.block<|qq<|qj fun K hK=>qr fun Hy yN=>?_;refine ae.dj rfl (ev rfl) (by assumption) rfl (aa rfl _) ?_;refine qa hH fun k6 st Jr hH=>?_;refine qS hH ax fun st hH=>?_;dsimp only[u2,u1,u3,u4,setMany,u5,u6,D.cells,Nat.reduceAdd,tC,b_,aG] at hH;refine qe hK ?_;have hH:Has s0.bs.length S st (.box k6 (.mem 0 false (tC p))::.aE od 7 (fN t.n E4 t.ks.length::((t.ks.take i).flatMap Tr.nY).map aG)::.aE E4 2 (t.n.rs.map au)::[]):=hH;refine qj fun K hK=>qm ?_;refine ae.aV (m:=8) (r:=tC p) hH rfl (ev rfl) ax rfl rfl rfl (aa rfl _) ?_;refine qv (yL _) ?_;refine ae.cB (s:=7) hH rfl (ev rfl) (ev rfl) aX ((mA Nf).rows _) rfl rfl rfl rfl rfl rfl rfl ⟨(Nat.le_of_ble_eq_true rfl),(Nat.le_of_ble_eq_true rfl)⟩ (fun _=>(aa rfl _)) (by simp only[List.length_map,List.length_cons];omega) (.inl hF) gO (fun Rl st gO hH=>?_);dsimp only[u1,u2,u4] at hH;refine qm ?_;refine qe hK ?_;have hH:=hH.drop 1;refine qj fun K hK=>qA ?_;refine qm ?_;refine qe hK ?_;exact⟨mm-1,by omega,⟨i+1,Rl,rfl,(by rw[List.take_add_one,hp,List.flatMap_append,List.map_append];simpa using hH),by omega,gO⟩⟩
  ·refine ag.exit ?_;have he:i=t.ks.length:=by omega
   rw[he,List.take_length] at hH;refine qq<|qj fun K hK=>qm ?_;refine qm ?_;refine qe hK ?_
   have Nf:=(Tr.re t hfa (by omega))
   rw[Tr.Ec] at Nf;have lY:∀n∈t.ks.flatMap Tr.nY,∀d∈aG n,cG st s0.bs.length 14 d=some d:=fun n hn d hd=>yh (kO Nf (aG n) (List.mem_map.2 ⟨n,List.mem_cons_of_mem _ hn,rfl⟩) d hd)
   have hx1:cG st s0.bs.length 14 E4=some (aQ t.n.rs):=by
    refine Fv hH aX (fun k hk=>by rw[←bf];exact Kz k hk) (n:=13) ?_;rw[←gj];exact hH.freeze aX (gE _) (n:=14) (by decide)
   let f:D→D:=fun d=>(cG st s0.bs.length 14 d).getD d
   have hfp:∀d v,cG st s0.bs.length 14 d=some v→f d=v:=fun d v h=>by show(cG st s0.bs.length 14 d).getD d=v;rw[h];rfl
   have hfz:=BL (L:=s0.bs.length) (f:=f) (n:=13) hH ax (fun k hk=>by rw[←bf];exact gO k hk) (by
    intro e he d hd
    rcases List.mem_cons.1 he with rfl|he
    ·simp only[fN,List.mem_cons,List.not_mem_nil,or_false] at hd
     rcases hd with rfl|rfl|rfl|rfl|rfl|rfl|rfl
     ·rfl
     ·rw[hfp _ _ hx1];exact hx1
     all_goals rfl
    ·obtain⟨n,hn,rfl⟩:=List.mem_map.1 he
     rw[hfp _ _ (lY n hn d hd)];exact lY n hn d hd)
   have TG:((fN t.n E4 t.ks.length::(t.ks.flatMap Tr.nY).map aG).map (·.map f))=(({t.n with kids:=(t.ks.length:Nat)}::t.ks.flatMap Tr.nY).map aG):=by
    rw[List.map_cons,List.map_cons,Dl (fun n hn d hd=>hfp _ _ (lY n hn d hd))]
    congr 1
    show[f _,f E4,f _,f _,f _,f _,f _]=_;rw[hfp _ _ hx1];simp only[aG,rW]
    rfl
   rw[TG] at hfz;exact ag.ret ⟨rx,_,rfl,rl bf hH hfz⟩
end Go.Proofs.YtecjacicdpejaaaGreat
namespace Go.Proofs.YtecjacicdpejaaaGreat
open Go.V Go
def gp (fr:Go.V.Fr) (k:Nat):Go.V.D:=Go.V.nth .bp fr.loc k
theorem tU (op:Int) (l:List Tr) (t:Tr):bm op (l++[t])=bm op l++(if t.n.op=op then t.ks else[t]):=by
 unfold bm;rw[List.flatMap_append]
 congr 1
 rw[List.flatMap_cons,List.flatMap_nil,List.append_nil]
theorem vy (op:Int) (l:List Tr):(bm op l).length≤b7 l:=by
 have:=gb op l;have:=cK (bm op l);omega
theorem sH {N:Nat} {S s0:St} {H:List bj} {x:D} {l:List Tr} {op:Int} (hF:S.flr≤N) (Ae:jR l) (hcl:b7 l≤1048576) (hx:Arg N S 8 x (l.map tC)) (hH:Has N S s0 H):
  ∃d ah,Ev pv 232 [.int .i64 op,x] s0 d ah∧Has N S ah (.aE d 8 ((bm op l).map tC)::H)∧(∀k,d.ref=k+1→S.bs.length≤k):=by
 have qX:=cK l;refine Ev.nj rfl LW rfl rfl rfl ?_;dsimp only[u3,u4,List.length,Nat.reduceSub,Nat.reduceAdd,w1,w2];change ag _ _ _ _ s0 _;refine qq<|qj fun K hK=>qm ?_;refine qe hK<|qq<|qj fun K hK=>qm ?_;refine qe hK<|qq<|qq<|qj fun K hK=>qm ?_;refine qn ?_;simp only[List.length_map];refine qm ?_;refine qe hK<|ag.block<|ag.loop (fun mm fr st=>∃(i:Nat) (y:D),fr.clean=⟨11,[.int .i64 op,gp fr 1,gp fr 2,gp fr 3,gp fr 4,y,gp fr 6,gp fr 7,x,.int .i64 (l.length:Nat),.int .i64 (i:Nat)],[]⟩∧Has N S st (.aE y 8 ((bm op (l.take i)).map tC)::H)∧(i+mm=l.length)∧(∀k,y.ref=k+1→S.bs.length≤k)) (l.length) ?_ ?_
 ·exact⟨0,.nul,rfl,(hH.eP 8),by omega,(fun k hk=>by simp only[D.ref] at hk;omega)⟩
 rintro mm fr st ⟨i,y,hfr,hH,hi,gO⟩;rw[hfr];clear hfr;generalize gp fr=ee;clear fr;refine qq<|qj fun K hK=>qg ?_;refine qe hK<|qq ?_;refine ag.cond (by rfl) (fun h1=>?_) (fun h1=>?_)<;>try simp only[decide_eq_true_eq,decide_eq_false_iff_not] at h1
 ·refine ag.skip ?_
  obtain⟨p,hp⟩:∃p,l[i]?=some p:=⟨l[i]'(by omega),List.getElem?_eq_getElem _⟩
  have uK:=List.mem_of_getElem? hp;have oY:=kY hp;have UL:=Tr.dQ p;have Sw:=cK p.ks;have rU:=vy op (l.take i);have gN:=lu hp;have OX:∀st,V.Rows st 8 (dD p.ks) (p.ks.map tC):=fun st=>ew st (Tr.d_.1 (Ae p uK)).2;have kU:=tU op (l.take i) p;rw[show l.take i++[p]=l.take (i+1) by rw[List.take_add_one,hp];rfl] at kU;refine qq<|ag.block<|qq<|qj fun K hK=>qr fun MU DO=>?_;refine ae.dj rfl (ev rfl) (by assumption) rfl (aa rfl _) ?_;refine qa hH fun k7 st QP hH=>?_;refine qS hH ax fun st hH=>?_;dsimp only[u2,u1,u3,u4,setMany,u5,u6,D.cells,Nat.reduceAdd,tC,b_] at hH;refine qe hK ?_;have hH:Has N S st (.box k7 (.mem 0 false (tC p))::.aE y 8 ((bm op (l.take i)).map tC)::H):=hH;refine qq<|qj fun K hK=>qp (o:=0) ?_;refine qp (o:=0) ?_;refine ql hH ax ?_;refine qm ?_;refine qg ?_;refine qe hK ?_
  by_cases hop:p.n.op=op
  ·have hc:(p.n.op==op)=true:=by simpa using hop
   rw[if_pos hop] at kU;refine qD rfl (by rw[hc]) ?_;refine qj fun K hK=>qm ?_;refine qp (o:=7) ?_;refine ql hH ax ?_;refine ae.cB (s:=8) hH rfl (ev rfl) (ev rfl) aX (OX _) rfl rfl rfl rfl rfl rfl rfl ⟨(Nat.le_of_ble_eq_true rfl),(Nat.le_of_ble_eq_true rfl)⟩ (fun _=>(aa rfl _)) (by simp only[List.length_map];omega) (.inl hF) gO (fun Rm st gO hH=>?_);dsimp only[u1,u2] at hH;refine qm ?_;refine qe hK ?_;have hH:=hH.drop 1;refine qj fun K hK=>qA ?_;refine qm ?_;refine qe hK ?_;exact⟨mm-1,by omega,⟨i+1,Rm,rfl,(by rw[kU,List.map_append];exact hH),by omega,gO⟩⟩
  ·have hc:(p.n.op==op)=false:=by simpa using hop
   rw[if_neg hop] at kU;refine qE rfl (by rw[hc]) ?_;refine qj fun K hK=>qm ?_;refine ae.aV (m:=8) (r:=tC p) hH rfl (ev rfl) ax rfl rfl rfl (aa rfl _) ?_;refine qh (s:=8) (vs:=[_]) hH fun k25 st O5 hH=>?_;dsimp only[u2,u1,u3,u4,setMany,u5,u6,D.cells,Nat.reduceAdd,tC,b_] at hH;refine ae.cB (s:=8) hH rfl (ev rfl) (ev rfl) bV (hH.rows ax) rfl rfl rfl rfl rfl rfl rfl ⟨(Nat.le_of_ble_eq_true rfl),(Nat.le_of_ble_eq_true rfl)⟩ (fun _=>(aa rfl _)) (by simp only[List.length_map,List.length_cons,List.length_nil];omega) (.inl hF) gO (fun Nv st gO hH=>?_);dsimp only[u1,u2] at hH;refine qm ?_;refine qe hK ?_;have hH:=hH.drop 2;refine qj fun K hK=>qA ?_;refine qm ?_;refine qe hK ?_;exact⟨mm-1,by omega,⟨i+1,Nv,rfl,(by rw[kU,List.map_append];exact hH),by omega,gO⟩⟩
 ·refine ag.exit ?_;have hil:i=l.length:=by omega
  refine qq<|qj fun K hK=>qm ?_;refine qm ?_;refine qe hK<|ag.ret ⟨rx,_,_,_,rfl,rfl,?_⟩;rw[hil,List.take_length] at hH;exact⟨hH,gO⟩
theorem C_ {s0:St} {k:Nat} {ar:Bool} {t p:Tr} (hb:s0.bs[k]?=some (.mem 0 ar (tC p))) (ht:t.fa ma) (hp:p.fa ma) (htl:t.eM≤1048576) (lY:p.eM≤1048576):Ev pv 260 [.agg (tC t),.ptr k 0 0] s0 (.bool (t.same p)) s0:=by
 have jF:k<s0.bs.length:=(List.getElem?_eq_some_iff.1 hb).1;have Sf:=zz _ t p (Nat.le_refl _) htl lY ht hp;refine Ev.jq rfl LG rfl rfl rfl ?_;dsimp only[u3,u4,List.length,Nat.reduceSub,Nat.reduceAdd,w1,w2];obtain⟨bf,hF,hH⟩:=ri s0;generalize ai .ro s0=S at*
 have oY:∀{st:St} {H:List bj},Has s0.bs.length S st H→hD st (.ptr k 0 0) (tC p):=fun{st H} h=>by
  refine .inl ⟨k,0,0,ar,tC p,rfl,?_,rfl⟩;unfold St.bN;rw[h.ex.low k jF,bf,hb];simp
 refine qq<|qj fun K hK=>qb hH fun k2 st hk2 hH=>?_;dsimp only[u2,u1,u3,u4,setMany,u5,u6,D.cells,Nat.reduceAdd,tC,b_] at hH;refine qm ?_;refine qe hK ?_;have oJ:=oY hH;refine qq<|qj fun K hK=>?_;refine ae.aV (m:=8) hH rfl (ev rfl) (by exact ax) (by dsimp only[List.drop_succ_cons,List.drop_zero,List.take_succ_cons,List.take_zero,tC,b_]<;>rfl) rfl rfl (aa rfl _) ?_;refine ae.dr (d:=.agg (tC p)) rfl (ev rfl) oJ rfl (aa rfl _) ?_;refine qv (Sf _) ?_;refine qm ?_;refine qe hK<|ag.ret ⟨rx,_,rfl,rl bf hH (rfl)⟩
theorem yl (l:List Tr) (p:Tr):cQ (l++[p])=if(cQ l).any (fun x=>x.same p)=true then cQ l else cQ l++[p]:=by
 unfold cQ;rw[List.foldl_append];rfl
theorem Fy {s0:St} {x:D} {l:List Tr} (hx:V.Rows s0 8 x (l.map tC)) (Ae:jR l) (hcl:b7 l≤1048576):Ev pv 237 [x] s0 (dD (cQ l)) s0:=by
 have qX:=cK l;refine Ev.jq rfl LP rfl rfl rfl ?_;dsimp only[u3,u4,List.length,Nat.reduceSub,Nat.reduceAdd,w1,w2];obtain⟨bf,hF,hH⟩:=ri s0;generalize ai .ro s0=S at*;have hx:=Arg.of hx bf;refine qq<|qj fun K hK=>qm ?_;refine qe hK<|qq<|qj fun K hK=>qm ?_;refine qe hK<|qq<|qq<|qj fun K hK=>qm ?_;refine qn ?_;simp only[List.length_map];refine qm ?_;refine qe hK<|ag.block<|ag.loop (fun mm fr st=>∃(i:Nat) (y:D),fr.clean=⟨9,[gp fr 0,gp fr 1,gp fr 2,y,gp fr 4,gp fr 5,x,.int .i64 (l.length:Nat),.int .i64 (i:Nat)],[]⟩∧Has s0.bs.length S st (.aE y 8 ((cQ (l.take i)).map tC)::[])∧(i+mm=l.length)∧(∀k,y.ref=k+1→S.bs.length≤k)) (l.length) ?_ ?_
 ·exact⟨0,.nul,rfl,(hH.eP 8),by omega,(fun k hk=>by simp only[D.ref] at hk;omega)⟩
 rintro mm fr st ⟨i,y,hfr,hH,hi,gO⟩;rw[hfr];clear hfr;generalize gp fr=ee;clear fr;refine qq<|qj fun K hK=>qg ?_;refine qe hK<|qq ?_;refine ag.cond (by rfl) (fun h1=>?_) (fun h1=>?_)<;>try simp only[decide_eq_true_eq,decide_eq_false_iff_not] at h1
 ·refine ag.skip ?_
  obtain⟨p,hp⟩:∃p,l[i]?=some p:=⟨l[i]'(by omega),List.getElem?_eq_getElem _⟩
  have uK:=List.mem_of_getElem? hp;have oY:=kY hp;have KB:jR (cQ (l.take i)):=mw (fun t ht=>Ae t (List.mem_of_mem_take ht));have SQ:=pU (l.take i);have EZ:=cK (cQ (l.take i));have gN:=lu hp;have kU:=yl (l.take i) p;rw[show l.take i++[p]=l.take (i+1) by rw[List.take_add_one,hp];rfl] at kU;refine qq<|ag.block<|qq<|qj fun K hK=>qr fun Qv Ib=>?_;refine ae.dj rfl (ev rfl) (by assumption) rfl (aa rfl _) ?_;refine qa hH fun k5 st Gb hH=>?_;refine qS hH ax fun st hH=>?_;dsimp only[u2,u1,u3,u4,setMany,u5,u6,D.cells,Nat.reduceAdd,tC,b_] at hH;refine qe hK ?_;have hH:Has s0.bs.length S st (.box k5 (.mem 0 false (tC p))::.aE y 8 ((cQ (l.take i)).map tC)::[]):=hH;have fw:=hH.at ax;have jF:k5<st.bs.length:=(List.getElem?_eq_some_iff.1 fw).1;have D3:=oP (g:=260) (eU:=[.ptr k5 0 0]) (p:=fun x=>x.same p) (hH.rows aX) (by omega) (fun st2 h2 t ht=>C_ (k:=k5) (ar:=false) (by rw[h2 k5 jF];exact fw) (KB t ht) (Ae p uK) (by have:=eT ht;omega) (by omega));refine qq<|qj fun K hK=>qm ?_;refine ae.go (d:=.fn 260 [.ptr k5 0 0]) (st1:=_) rfl rfl rfl (aa rfl _) ?_;refine ae.dF rfl rfl D3 (aa rfl _) ?_;refine qg ?_;refine qe hK ?_
  cases ha:(cQ (l.take i)).any (fun x=>x.same p) with
  |true=>
   rw[ha,if_pos rfl] at kU;refine ag.cond (v:=false) (by dsimp only[Fr.ev,Fr.get,nth,V.look];rfl) (fun h=>by cases h) (fun _=>?_);refine ag.skip ?_;have hH:=hH.drop 1;refine qj fun K hK=>qA ?_;refine qm ?_;refine qe hK ?_;exact⟨mm-1,by omega,⟨i+1,y,rfl,(by rw[kU];exact hH),by omega,gO⟩⟩
  |false=>
   rw[ha,if_neg (by simp)] at kU;refine ag.cond (v:=true) (by dsimp only[Fr.ev,Fr.get,nth,V.look];rfl) (fun _=>?_) (fun h=>by cases h);refine qj fun K hK=>qm ?_;refine ae.aV (m:=8) (r:=tC p) hH rfl (ev rfl) ax rfl rfl rfl (aa rfl _) ?_;refine qh (s:=8) (vs:=[_]) hH fun k18 st O7 hH=>?_;dsimp only[u2,u1,u3,u4,setMany,u5,u6,D.cells,Nat.reduceAdd,tC,b_] at hH;refine ae.cB (s:=8) hH rfl (ev rfl) (ev rfl) bV (hH.rows ax) rfl rfl rfl rfl rfl rfl rfl ⟨(Nat.le_of_ble_eq_true rfl),(Nat.le_of_ble_eq_true rfl)⟩ (fun _=>(aa rfl _)) (by simp only[List.length_map,List.length_cons,List.length_nil];omega) (.inl hF) gO (fun Nw st gO hH=>?_);dsimp only[u1,u2] at hH;refine qm ?_;refine qe hK ?_;have hH:=hH.drop 2;refine qj fun K hK=>qA ?_;refine qm ?_;refine qe hK ?_;exact⟨mm-1,by omega,⟨i+1,Nw,rfl,(by rw[kU,List.map_append];exact hH),by omega,gO⟩⟩
 ·refine ag.exit ?_;have hil:i=l.length:=by omega
  rw[hil,List.take_length] at hH;refine qq<|qj fun K hK=>qm ?_;refine qm ?_;refine qe hK ?_;have BA:aH st s0.bs.length false 16 y=some (dD (cQ l)):=by rw[lO];exact hH.freeze ax (kG (mw Ae)) (n:=15) (by decide)
  refine ag.ret ⟨rx,_,rfl,rl bf hH (BA)⟩
end Go.Proofs.YtecjacicdpejaaaGreat
namespace Go.Proofs.YtecjacicdpejaaaGreat
open Go.V Go
def kg (fr:Go.V.Fr) (k:Nat):Go.V.D:=Go.V.nth .bp fr.loc k
theorem HH {s0:St} {x:D} {l:List Rg} (hx:V.Rows s0 2 x (l.map au)) (hl:l.length≤268435456):Ev pv 226 [x] s0 (aQ (cm l)) s0:=by
 obtain⟨_,aI,all,rfl,hperm,lC⟩:=uC hx hl;have hM:ft l (all.foldl dv []).reverse:=lM (fun x=>hperm.mem_iff) lC;rw[wA hM];exact aI
theorem GA {x y:Oper} {fi fj:Fr} {si rG sj Ho:St} {a:Operand} {k aq off v:Nat} {ar:Bool} {c:List D} (hy:ib y.op=some a) (ha:fj.ev a=.ptr k aq off) (h1:si.bs[k]?=some (.mem v ar c)) (h2:rG.bs[k]?=some (.mem v ar c)):jz x fi si rG y fj sj Ho=true:=by
 unfold jz;simp only[hy,ha,D.mY];exact sD h1 h2
def jC (q:Tr×Bool):List D:=b_ q.1.n (if q.2=true then .nul else dD q.1.ks)
def MV (M:List (Tr×Bool)):Prop:=∀q∈M,q.2=true→q.1.ks=[]
theorem mF {M:List (Tr×Bool)} {q:Tr×Bool} (h:MV M) (hq:q.2=true→q.1.ks=[]):MV (M++[q]):=by
 intro x hx
 rcases List.mem_append.1 hx with hx|hx
 ·exact h x hx
 ·rw[List.mem_singleton.1 hx];exact hq
theorem Kf {M:List (Tr×Bool)} (h:MV M) (hf:jR (M.map (·.1))):(∀e∈M.map jC,∀d∈e,lq d=true)∧(M.map jC).map (·.map lT)=(M.map (·.1)).map tC:=by
 constructor
 ·intro e he d hd;obtain⟨q,hq,rfl⟩:=List.mem_map.1 he;have h1:=(Tr.d_.1 (hf q.1 (List.mem_map.2 ⟨q,hq,rfl⟩))).1.1;simp only[jC,b_,dD,List.mem_cons,List.not_mem_nil,or_false] at hd
  rcases hd with rfl|rfl|rfl|rfl|rfl|rfl|rfl|rfl<;>try rfl
  ·rw[h1];rfl
  ·split<;>rfl
 ·rw[List.map_map,List.map_map];apply List.map_congr_left;intro q hq;have h1:=(Tr.d_.1 (hf q.1 (List.mem_map.2 ⟨q,hq,rfl⟩))).1.1;obtain⟨t,b⟩:=q;show(jC (t,b)).map lT=tC t;unfold jC tC b_;dsimp only at h1⊢;rw[h1]
  cases b with
  |false=>rfl
  |true=>rw[show t.ks=[] from h _ hq rfl];rfl
theorem yE (l:List Tr) (p:Tr):cu (l++[p])=gI (cu l) p:=by
 unfold cu;rw[List.foldl_append];rfl
theorem yF {M:List Tr} {q p:Tr}:gI (M++[q]) p=if p.n.op=2∧q.n.op=2 then M++[o0 q.n.rs p.n.rs] else M++[q]++[p]:=by
 unfold gI;rw[List.getLast?_append];simp only[List.getLast?_singleton,Option.some_or]
 split
 ·rw[List.length_append,List.set_append_right _ _ (by simp)];simp
 ·rfl
theorem Bn {p:Tr}:gI [] p=[p]:=rfl
theorem yC {s0:St} {x:D} {l:List Tr} (hx:V.Rows s0 8 x (l.map tC)) (Ae:jR l) (hcl:b7 l≤1048576):Ev pv 236 [x] s0 (dD (cu l)) s0:=by
 have qX:=cK l;refine Ev.jq rfl LQ rfl rfl rfl ?_;dsimp only[u3,u4,List.length,Nat.reduceSub,Nat.reduceAdd,w1,w2];obtain⟨bf,hF,hH⟩:=ri s0;generalize ai .ro s0=S at*;have hx:=Arg.of hx bf;refine qq<|qj fun K hK=>qm ?_;refine qe hK<|qq<|qj fun K hK=>qm ?_;refine qe hK<|qq<|qq<|qj fun K hK=>qm ?_;refine qn ?_;simp only[List.length_map];refine qm ?_;refine qe hK<|ag.block<|ag.loop (fun mm fr st=>∃(i:Nat) (y:D) (M:List (Tr×Bool)),fr.clean=⟨11,[kg fr 0,kg fr 1,kg fr 2,y,kg fr 4,kg fr 5,kg fr 6,kg fr 7,x,.int .i64 (l.length:Nat),.int .i64 (i:Nat)],[]⟩∧Has s0.bs.length S st (.aE y 8 (M.map jC)::[])∧(i+mm=l.length)∧(∀k,y.ref=k+1→S.bs.length≤k)∧(M.map (·.1)=cu (l.take i))∧(MV M)) (l.length) ?_ ?_
 ·exact⟨0,.nul,[],rfl,(hH.eP 8),by omega,(fun k hk=>by simp only[D.ref] at hk;omega),rfl,(fun q hq=>by cases hq)⟩
 rintro mm fr st ⟨i,y,M,hfr,hH,hi,gO,IF,Li⟩;rw[hfr];clear hfr;generalize kg fr=ee;clear fr;refine qq<|qj fun K hK=>qg ?_;refine qe hK<|qq ?_;refine ag.cond (by rfl) (fun h1=>?_) (fun h1=>?_)<;>try simp only[decide_eq_true_eq,decide_eq_false_iff_not] at h1
 ·refine ag.skip ?_
  obtain⟨p,hp⟩:∃p,l[i]?=some p:=⟨l[i]'(by omega),List.getElem?_eq_getElem _⟩
  have uK:=List.mem_of_getElem? hp;have oY:=kY hp;obtain⟨oJ,G5⟩:=(Tr.d_.1 (Ae p uK)).1;have Nb:jR (M.map (·.1)):=by rw[IF];exact jB (fun t ht=>Ae t (List.mem_of_mem_take ht))
  have Np:M.length≤l.length:=by
   have h1:=congrArg List.length IF;have h2:=oG (l.take i) [];rw[List.length_map] at h1;unfold cu at h1;simp only[List.length_nil,List.length_take] at h2;omega
  have gN:=lu hp;have kU:=yE (l.take i) p;rw[show l.take i++[p]=l.take (i+1) by rw[List.take_add_one,hp];rfl] at kU;refine qq<|ag.block<|qq<|qj fun K hK=>qr fun MU DO=>?_;refine ae.dj rfl (ev rfl) (by assumption) rfl (aa rfl _) ?_;refine qa hH fun k5 st Gb hH=>?_;refine qS hH ax fun st hH=>?_;dsimp only[u2,u1,u3,u4,setMany,u5,u6,D.cells,Nat.reduceAdd,tC,b_,jC] at hH;refine qe hK ?_;have hH:Has s0.bs.length S st (.box k5 (.mem 0 false (tC p))::.aE y 8 (M.map jC)::[]):=hH
  rcases List.eq_nil_or_concat M with hM|⟨M0,q,hM⟩
  ·subst hM;rw[←IF,List.map_nil,Bn] at kU;refine qq<|qj fun K hK=>qm ?_;refine qn ?_ (hR:=hH.rows aX);simp only[List.length_map,List.length_nil];refine ae.oS (z:=(-1:Int)) rfl (ev rfl) (ev rfl) (by(try simp only[List.length_reverse,List.length_cons,List.length_nil,List.length_append,List.length_map,List.length_set]);rw[wrap_i64 (by omega) (by omega)]<;>omega) (aa rfl _) ?_;refine qm ?_;refine qe hK ?_;have aN:decide ((-1:Int)≥0)=false:=rfl;have bL:false=false:=rfl;refine qq<|qj fun K hK=>qm ?_;refine qg ?_;refine qm ?_;refine qs ?_ (hg:=wn aN);refine qs ?_ (hg:=wn aN);refine qs ?_ (hg:=wn aN);refine qs ?_ (hg:=wn aN);refine qu aN ?_;refine qm ?_;refine qs ?_;refine qs ?_;refine qs ?_;refine qs ?_;refine qs ?_;refine qs ?_;refine qs ?_;refine qg ?_;refine qe hK<|qC ?_;refine qj fun K hK=>qm ?_;refine ae.aV (m:=8) (r:=tC p) hH rfl (ev rfl) ax rfl rfl rfl (aa rfl _) ?_;refine qh (s:=8) (vs:=[_]) hH fun k54 st BB hH=>?_;dsimp only[u2,u1,u3,u4,setMany,u5,u6,D.cells,Nat.reduceAdd,tC,b_,jC] at hH;refine ae.cB (s:=8) hH rfl (ev rfl) (ev rfl) bV (hH.rows ax) rfl rfl rfl rfl rfl rfl rfl ⟨(Nat.le_of_ble_eq_true rfl),(Nat.le_of_ble_eq_true rfl)⟩ (fun _=>(aa rfl _)) (by simp only[List.length_map,List.length_cons,List.length_nil] at Np⊢;omega) (.inl hF) gO (fun JB st gO hH=>?_);dsimp only[u1,u2] at hH;refine qm ?_;refine qe hK ?_;have hH:=hH.drop 2;refine qj fun K hK=>qA ?_;refine qm ?_;refine qe hK ?_;refine⟨mm-1,by omega,⟨i+1,JB,([]:List (Tr×Bool))++[(p,false)],rfl,(by rw[List.map_append];exact hH),by omega,gO,?_,?_⟩⟩
   ·rw[kU];rfl
   ·exact mF Li (fun h=>by cases h)
  ·rw[List.concat_eq_append] at hM;subst hM;have Sv:=(Tr.d_.1 (Nb q.1 (by simp))).1;obtain⟨Cb,EY⟩:=Sv;rw[←IF,List.map_append,List.map_cons,List.map_nil,yF] at kU;have T3:M0.length<1048576:=by have:=Np;simp only[List.length_append,List.length_cons,List.length_nil] at this;omega
   have r_:((M0++[q]).map jC)[M0.length]?=some (jC q):=by rw[List.getElem?_map];simp
   have UQ:((M0++[q]).map jC).length=M0.length+1:=by simp
   refine qq<|qj fun K hK=>qm ?_;refine qn ?_ (hR:=hH.rows aX);simp only[List.length_map,List.length_append,List.length_cons,List.length_nil];refine ae.oS (z:=((M0.length:Nat):Int)) rfl (ev rfl) (ev rfl) (by(try simp only[List.length_reverse,List.length_cons,List.length_nil,List.length_append,List.length_map,List.length_set]);rw[wrap_i64 (by omega) (by omega)]<;>omega) (aa rfl _) ?_;refine qm ?_;refine qe hK ?_;have aN:decide (((M0.length:Nat):Int)≥0)=true:=by rw[decide_eq_true_eq];omega
   by_cases hpo:p.n.op=2
   ·have bL:(p.n.op==2)=true:=by simpa using hpo
    refine qq<|qj fun K hK=>qm ?_;refine qg ?_;refine qm ?_;refine qp (o:=0) ?_ (hg:=wi aN);refine qp (o:=0) ?_ (hg:=wi aN);refine ql hH ax ?_ (hg:=wi aN);refine qg ?_ (hg:=wi aN);refine qt aN ?_;refine qm ?_;refine qm ?_ (hg:=wi bL);refine qm ?_ (hg:=wi bL);refine qi hH aX (fun RI OG=>?_) (hg:=wi bL);refine ae.de (fo:=0) (m:=6) (o2:=0) (aj rfl rfl rfl bL) (ev rfl) (by assumption) rfl rfl rfl (fun _=>(aa rfl _)) (fun Qp Kv=>?_);refine ae.de (fo:=0) (m:=0) (o2:=0) (aj rfl rfl rfl bL) (ev rfl) (by assumption) rfl rfl rfl (fun _=>(aa rfl _)) (fun Qo Ku=>?_);refine qo hH aX ?_ (hg:=wi bL);refine qg ?_ (hg:=wi bL);refine qt bL ?_;refine qe hK ?_
    by_cases hqo:q.1.n.op=2
    ·have hc:(q.1.n.op==2)=true:=by simpa using hqo
     rw[if_pos ⟨hpo,hqo⟩] at kU;refine qD rfl (by rw[hc]) ?_;have hH:Has s0.bs.length S st (.aE .nul 2 (([]:List Rg).map au)::.box k5 (.mem 0 false (tC p))::.aE y 8 ((M0++[q]).map jC)::[]):=hH.eP 2;have QG:∀st,V.Rows st 2 q.1.n.rd (q.1.n.rs.map au):=fun st=>by rw[Cb];exact cz st _
     have Sk:∀st,V.Rows st 2 p.n.rd (p.n.rs.map au):=fun st=>by rw[oJ];exact cz st _
     have hA:=hH;change ag _ _ _ _ _ _;refine qq ?_;generalize hK:bk _ _ _ _=K;refine ag.JU rfl ?_;refine mb.cons ?_;refine qm ?_;refine ae.nil ⟨rfl,?_⟩;refine mb.cons ?_;refine qm ?_;refine ae.nil ⟨rfl,?_⟩;refine mb.cons ?_;refine qi hH bV fun UA SN=>?_;refine ae.nil ⟨rfl,?_⟩;refine mb.cons ?_;refine ae.de (fo:=0) (m:=6) (o2:=0) rfl (ev rfl) (by assumption) rfl rfl rfl (fun _=>(aa rfl _)) (fun Uz SM=>?_);refine ae.nil ⟨rfl,?_⟩;refine mb.cons ?_;refine ae.de (fo:=1) (m:=0) (o2:=1) rfl (ev rfl) (by assumption) rfl rfl rfl (fun _=>(aa rfl _)) (fun Uy SL=>?_);refine ae.nil ⟨rfl,?_⟩;refine mb.cons ?_;refine qo hH bV ?_;refine ae.nil ⟨rfl,?_⟩;refine mb.cons ?_;refine ae.cB (s:=2) hH rfl (ev rfl) (ev rfl) ax (QG _) rfl rfl rfl rfl rfl rfl rfl ⟨(Nat.le_of_ble_eq_true rfl),(Nat.le_of_ble_eq_true rfl)⟩ (fun _=>(aa rfl _)) (by simp only[List.length_map,List.length_nil];omega) (.inl hF) (fun k hk=>by simp only[D.ref] at hk;omega) (fun Ud st uO hH=>?_);dsimp only[u1,u2] at hH;have hB:=hH;refine ae.nil ⟨rfl,?_⟩;refine mb.cons ?_;refine qp (o:=0) ?_;refine ae.nil ⟨rfl,?_⟩;refine mb.cons ?_;refine qp (o:=1) ?_;refine ae.nil ⟨rfl,?_⟩;refine mb.cons ?_;refine ql hH aX ?_;refine ae.nil ⟨by exact Bool.and_eq_true_iff.2 ⟨GA rfl rfl (hA.at aX) (hB.at aX),rfl⟩,?_⟩;refine mb.cons ?_;refine ae.cB (s:=2) hH rfl (ev rfl) (ev rfl) ax (Sk _) rfl rfl rfl rfl rfl rfl rfl ⟨(Nat.le_of_ble_eq_true rfl),(Nat.le_of_ble_eq_true rfl)⟩ (fun _=>(aa rfl _)) (by simp only[List.length_map,List.length_nil,List.length_append];omega) (.inl hF) uO (fun Qe st UN hH=>?_);dsimp only[u1,u2] at hH;refine ae.nil ⟨rfl,?_⟩;refine mb.cons ?_;refine qm ?_;refine ae.nil ⟨rfl,?_⟩;refine mb.nil ?_;subst hK;have hH:Has s0.bs.length S st (.aE Qe 2 ((q.1.n.rs++p.n.rs).map au)::.box k5 (.mem 0 false (tC p))::.aE y 8 ((M0++[q]).map jC)::[]):=by rw[List.map_append];exact hH
     have Ce:=fun ah (h:V.Rows ah 2 Qe ((q.1.n.rs++p.n.rs).map au))=>HH h (by rw[List.length_append];omega);refine qj fun K hK=>qm ?_;refine qm ?_;refine qm ?_;refine qv (Ce _ (hH.rows ax)) ?_;refine ae.go (d:=.agg [.int .i64 2,aQ (cm (q.1.n.rs++p.n.rs)),.int .i64 0,.int .i64 0,.bool false,.int .i64 0,.int .i64 0]) (st1:=_) rfl rfl rfl (aa rfl _) ?_;refine ae.go (d:=.agg [.int .i64 2,aQ (cm (q.1.n.rs++p.n.rs)),.int .i64 0,.int .i64 0,.bool false,.int .i64 0,.int .i64 0,.nul]) (st1:=_) rfl rfl rfl (aa rfl _) ?_;refine qi hH bV fun RC Oz=>?_;refine ae.pR hH rfl (ev rfl) (ev rfl) (by assumption) rfl rfl (by exact bV) (by assumption) (Nat.le_of_ble_eq_true rfl) (by exact .inl hF) (fun st hH=>?_);dsimp only[u2,u1,u3,u4,setMany,u5,u6,D.cells,Nat.reduceAdd,tC,b_,jC] at hH;refine qe hK ?_
     have gT:((M0++[q]).map jC).set M0.length [.int .i64 2,aQ (cm (q.1.n.rs++p.n.rs)),.int .i64 0,.int .i64 0,.bool false,.int .i64 0,.int .i64 0,.nul]=(M0++[(o0 q.1.n.rs p.n.rs,true)]).map jC:=by
      rw[List.map_append,List.set_append_right _ _ (by simp),List.length_map,Nat.sub_self,List.map_append];rfl
     have hH:Has s0.bs.length S st (.aE y 8 ((M0++[(o0 q.1.n.rs p.n.rs,true)]).map jC)::[]):=by rw[←gT];exact hH.drop 2
     refine qj fun K hK=>qA ?_;refine qm ?_;refine qe hK ?_;refine⟨mm-1,by omega,⟨i+1,y,M0++[(o0 q.1.n.rs p.n.rs,true)],rfl,hH,by omega,gO,?_,?_⟩⟩
     ·rw[kU];simp
     ·refine mF (fun x hx=>Li x (List.mem_append_left _ hx)) (fun _=>rfl)
    ·have hc:(q.1.n.op==2)=false:=by simpa using hqo
     rw[if_neg (fun h=>hqo h.2)] at kU;refine qE rfl (by rw[hc]) ?_;refine qj fun K hK=>qm ?_;refine ae.aV (m:=8) (r:=tC p) hH rfl (ev rfl) ax rfl rfl rfl (aa rfl _) ?_;refine qh (s:=8) (vs:=[_]) hH fun k54 st BB hH=>?_;dsimp only[u2,u1,u3,u4,setMany,u5,u6,D.cells,Nat.reduceAdd,tC,b_,jC] at hH;refine ae.cB (s:=8) hH rfl (ev rfl) (ev rfl) bV (hH.rows ax) rfl rfl rfl rfl rfl rfl rfl ⟨(Nat.le_of_ble_eq_true rfl),(Nat.le_of_ble_eq_true rfl)⟩ (fun _=>(aa rfl _)) (by simp only[List.length_map,List.length_append,List.length_cons,List.length_nil] at Np⊢;omega) (.inl hF) gO (fun JB st gO hH=>?_);dsimp only[u1,u2] at hH;refine qm ?_;refine qe hK ?_;have hH:=hH.drop 2;refine qj fun K hK=>qA ?_;refine qm ?_;refine qe hK ?_;refine⟨mm-1,by omega,⟨i+1,JB,(M0++[q])++[(p,false)],rfl,(by rw[List.map_append];exact hH),by omega,gO,?_,?_⟩⟩
     ·rw[kU];simp
     ·exact mF Li (fun h=>by cases h)
   ·have bL:(p.n.op==2)=false:=by simpa using hpo
    rw[if_neg (fun h=>hpo h.1)] at kU;refine qq<|qj fun K hK=>qm ?_;refine qg ?_;refine qm ?_;refine qp (o:=0) ?_ (hg:=wi aN);refine qp (o:=0) ?_ (hg:=wi aN);refine ql hH ax ?_ (hg:=wi aN);refine qg ?_ (hg:=wi aN);refine qt aN ?_;refine qm ?_;refine qs ?_ (hg:=wn bL);refine qs ?_ (hg:=wn bL);refine qs ?_ (hg:=wn bL);refine qs ?_ (hg:=wn bL);refine qs ?_ (hg:=wn bL);refine qs ?_ (hg:=wn bL);refine qs ?_ (hg:=wn bL);refine qu bL ?_;refine qe hK<|qC ?_;refine qj fun K hK=>qm ?_;refine ae.aV (m:=8) (r:=tC p) hH rfl (ev rfl) ax rfl rfl rfl (aa rfl _) ?_;refine qh (s:=8) (vs:=[_]) hH fun k54 st BB hH=>?_;dsimp only[u2,u1,u3,u4,setMany,u5,u6,D.cells,Nat.reduceAdd,tC,b_,jC] at hH;refine ae.cB (s:=8) hH rfl (ev rfl) (ev rfl) bV (hH.rows ax) rfl rfl rfl rfl rfl rfl rfl ⟨(Nat.le_of_ble_eq_true rfl),(Nat.le_of_ble_eq_true rfl)⟩ (fun _=>(aa rfl _)) (by simp only[List.length_map,List.length_append,List.length_cons,List.length_nil] at Np⊢;omega) (.inl hF) gO (fun JB st gO hH=>?_);dsimp only[u1,u2] at hH;refine qm ?_;refine qe hK ?_;have hH:=hH.drop 2;refine qj fun K hK=>qA ?_;refine qm ?_;refine qe hK ?_;refine⟨mm-1,by omega,⟨i+1,JB,(M0++[q])++[(p,false)],rfl,(by rw[List.map_append];exact hH),by omega,gO,?_,?_⟩⟩
    ·rw[kU];simp
    ·exact mF Li (fun h=>by cases h)
 ·refine ag.exit ?_;have hil:i=l.length:=by omega
  rw[hil,List.take_length] at IF;refine qq<|qj fun K hK=>qm ?_;refine qm ?_;refine qe hK ?_;have hz:=Kf Li (by rw[IF];exact jB Ae);have BA:=hH.pk (L:=s0.bs.length) (n:=16) ax (fun k hk=>by rw[←bf];exact gO k hk) hz.1 (by decide);rw[hz.2,IF,←lO] at BA;refine ag.ret ⟨rx,_,rfl,rl bf hH (BA)⟩
end Go.Proofs.YtecjacicdpejaaaGreat
namespace Go.Proofs.YtecjacicdpejaaaGreat
open Go.V Go
def qM (fr:Go.V.Fr) (k:Nat):Go.V.D:=Go.V.nth .bp fr.loc k
theorem A4 {z:List D} (hr:refs z=0):∀n,refs (Go.V.db n z)=0:=by
 intro n;unfold Go.V.db
 induction n with
 |zero=>rfl
 |succ n ih=>
  rw[List.replicate_succ,List.flatten_cons]
  have uS:∀(a b:List D),refs a=0→refs b=0→refs (a++b)=0:=by
   intro a
   induction a with
   |nil=>intro b _ hb;exact hb
   |cons d a B9=>
    intro b ha hb;simp only[refs,List.cons_append] at ha⊢;have:=B9 b (by omega) hb;omega
  exact uS _ _ hr ih
theorem nZ {s:Nat} {es:List (List D)} (he:∀e∈es,e.length=s) (i:Nat) (hi:i≤es.length):es.flatten.take (i*s)=(es.take i).flatten:=by
 have h1:es.flatten=(es.take i).flatten++(es.drop i).flatten:=by rw[←List.flatten_append,List.take_append_drop]
 have h2:(es.take i).flatten.length=i*s:=by rw[bY (fun e h=>he e (List.mem_of_mem_take h)),List.length_take,Nat.min_eq_left hi]
 rw[h1,List.take_append_of_le_length (by omega),←h2,List.take_length]
theorem BW {N:Nat} {S st:St} {H:List bj} {P:Pv} {j k aq off s n i:Nat} {es:List (List D)} {t e:TypeId} {z:List D} (h:Has N S st H) (hj:H[j]?=some (.aE (.win k aq off n s) s es)) (ht:P.cw t=some (.slice e)) (hz:cY P e=some z) (jM:z.length=s) (hr:refs z=0) (hi:i≤n):
  ∃ah,iW P [t] (.win k aq (off+i*s) (n-i) s) st=some (.tup [],ah)∧Has N S ah (H.set j (.aE (.win k aq off n s) s (es.take i++List.replicate (n-i) z))):=by
 have uQ:=(h.ok j _ hj).2;have hown:=h.own hj
 cases hown with
 |win k aq off es c hm hle hc he=>
  have hk:=uQ k (by simp only[bj.aE,D.ref]);have Jl:=A4 hr
  have rL:(Go.V.db (es.length-i) z).length=(es.length-i)*s:=by
   unfold Go.V.db;rw[bY (s:=s) (fun e he=>by rw[(List.mem_replicate.1 he).2];exact jM),List.length_replicate]
  have hmul:i*s+(es.length-i)*s=es.length*s:=by rw[←Nat.add_mul];congr 1;omega
  have hw:st.wr k aq (off+i*s) (Go.V.db (es.length-i) z)=some ⟨st.bs.set k (.mem aq true (c.take (off+i*s)++Go.V.db (es.length-i) z++c.drop (off+i*s+(Go.V.db (es.length-i) z).length))),st.flr,st.ro⟩:=iQ hm (by omega) (fM h hk.1 (.inr (Jl _)));refine⟨_,by simp only[iW,ht,hz,Option.bind_some];rw[if_pos jM,hw];rfl,?_⟩;refine h.zm hj (fun n hn hne=>?_) (by simp) rfl rfl ?_ (fun n hn=>.inl hn) fun n hn=>?_
  ·simp only;rw[List.getElem?_set_ne (fun e=>hne (by simp only[bj.aE,D.ref];omega))]
  ·have wT:∀e'∈es.take i++List.replicate (es.length-i) z,e'.length=s:=fun e' lD=>by
    rcases List.mem_append.1 lD with h'|h'
    ·exact he e' (List.mem_of_mem_take h')
    ·rw[(List.mem_replicate.1 h').2];exact jM
   have qX:(es.take i++List.replicate (es.length-i) z).length=es.length:=by rw[List.length_append,List.length_take,List.length_replicate];omega
   have:=fT.win (st:=⟨st.bs.set k (.mem aq true (c.take (off+i*s)++Go.V.db (es.length-i) z++c.drop (off+i*s+(Go.V.db (es.length-i) z).length))),st.flr,st.ro⟩) (s:=s) k aq off (es.take i++List.replicate (es.length-i) z) (c.take (off+i*s)++Go.V.db (es.length-i) z++c.drop (off+i*s+(Go.V.db (es.length-i) z).length))
    (by simp only;rw[List.getElem?_set_self hk.2]) (by rw[qX];simp;omega) ?_ wT
   ·rw[qX] at this;exact this
   ·rw[qX,List.append_assoc,List.drop_append_of_le_length (by simp;omega),List.drop_take,Nat.add_sub_cancel_left]
    have e2:(c.drop off).take (i*s)=(es.take i).flatten:=by
     rw[←nZ he i hi,←hc,List.take_take,Nat.min_eq_left (by omega)]
    have e3:(es.take i).flatten.length=i*s:=by rw[←nZ he i hi,List.length_take,bY he];omega
    rw[e2,List.take_append,e3,List.take_of_length_le (by omega),←hmul,Nat.add_sub_cancel_left,←rL,List.take_left']
    ·rw[List.flatten_append];rfl
    ·rfl
  ·simp only[bj.aE,D.ref] at hn;have:n=k:=by omega
   subst this;simp only[List.length_set];exact hk.2
theorem ui {N:Nat} {S st:St} {H:List bj} {j s:Nat} {x:D} {es:List (List D)} (h:Has N S st H) (hj:H[j]?=some (.aE x s es)) (hne:es≠[]):∃k aq off,x=.win k aq off es.length s:=by
 cases h.own hj with
 |nul=>exact absurd rfl hne
 |win k aq off es c hm hle hc he=>exact⟨k,aq,off,rfl⟩
theorem Hk {t:Tr} (h:t.fa ma):refs (tC t)=0:=by
 have h1:=(Tr.d_.1 h).1.1;simp[tC,b_,refs,D.ref,h1,aQ,dD]
theorem CE {L:List Tr} {i:Nat} {v:Tr} (hi:i<L.length):(L.set i v).take (i+1)=L.take i++[v]:=by
 rw[List.take_add_one,List.getElem?_set_self hi,List.take_set_of_le (Nat.le_refl _)];rfl
theorem ED {n i:Nat} (h:i≤n):cn n (some (.int .i64 (i:Nat))) none=some (i,n):=by
 have h1:(i:Int)≤(n:Int):=by omega
 simp[cn,gF,iX,h1,h]
theorem I4 {n i:Nat} (h:i≤n):cn n none (some (.int .i64 (i:Nat)))=some (0,i):=by
 have h1:(i:Int)≤(n:Int):=by omega
 simp[cn,gF,iX,h1,h]
theorem AV {P:Pv} {t e:TypeId} {k aq off n s i:Nat} (ht:P.cw t=some (.slice e)) (hs:bR P e=some s) (hi:i≤n) (st:St):dM P t (.win k aq off n s) (some (.int .i64 (i:Nat))) none st=some (.win k aq (off+i*s) (n-i) s):=by
 simp only[dM,ht,hs,Option.bind_some,if_pos,ED hi,Option.map_some]
theorem IV {N:Nat} {S st:St} {H:List bj} {j k aq off s n i:Nat} {es:List (List D)} (hH:Has N S st H) (hj:H[j]?=some (.aE (.win k aq off n s) s es)) (hi:i≤es.length):Has N S st (H.set j (.aE (.win k aq (off+0*s) (i-0) s) s (es.take i))):=by
 have hown:=hH.own hj
 cases hown with
 |win k aq off es c hm hl hc he=>
  have hlen:(es.take i).length=i:=by rw[List.length_take];omega
  have h1:i*s≤es.length*s:=Nat.mul_le_mul_right s hi;have hk:=(hH.ok j _ hj).2 k (by simp only[bj.aE,D.ref]);rw[Nat.zero_mul,Nat.add_zero,Nat.sub_zero];refine hH.zm hj (fun _ _ _=>rfl) (Nat.le_refl _) rfl rfl ?_ (fun k' iI=>.inl ?_) fun k' iI=>?_
  ·have:=fT.win (st:=st) (s:=s) k aq off (es.take i) c hm (by rw[hlen];omega) ?_ (fun e lD=>he e (List.mem_of_mem_take lD))
   ·rw[hlen] at this;exact this
   ·rw[hlen,←nZ he i hi,←hc,List.take_take,Nat.min_eq_left h1]
  ·simp only[bj.aE,D.ref] at iI⊢;exact iI
  ·simp only[bj.aE,D.ref] at iI;omega
theorem vz {P:Pv} {t e:TypeId} {k aq off n s i:Nat} (ht:P.cw t=some (.slice e)) (hs:bR P e=some s) (hi:i≤n) (st:St):dM P t (.win k aq off n s) none (some (.int .i64 (i:Nat))) st=some (.win k aq (off+0*s) (i-0) s):=by
 simp only[dM,ht,hs,Option.bind_some,if_pos,I4 hi,Option.map_some]
theorem BR {N:Nat} {S s0:St} {H:List bj} {x:D} {l:List Tr} {g:Nat} {p:Tr→Bool} (hH:Has N S s0 (.aE x 8 (l.map tC)::H)) (Ae:jR l) (hl:l.length≤1048576) (hf:∀(st:St),∀t∈l,Ev pv g ([.agg (tC t)]++[]) st (.bool (p t)) st):
  ∃d ah,Ev pv 233 [x,.fn g []] s0 d ah∧(Has N S ah (.aE d 8 ((l.filter (fun t=>!p t)).map tC)::H)∨(d=.sl []∧l.filter (fun t=>!p t)=[]∧Has N S ah H)):=by
 have Gc:=fun st (h:V.Rows st 8 x (l.map tC))=>wL (g:=g) (eU:=[]) (p:=p) h hl (fun st2 _ t ht=>hf st2 t ht);refine Ev.nj rfl LV rfl rfl rfl ?_;dsimp only[u3,u4,List.length,Nat.reduceSub,Nat.reduceAdd,w1,w2];have cD:=hH;have hH:=hH.cE;have cy:(ai .rw s0).bs=s0.bs:=rfl;generalize ai .rw s0=S2 at*;refine qq<|qj fun K hK=>qm ?_;refine qe hK ?_;obtain⟨d,aI,i0,rfl,hi0⟩:=Gc _ (hH.rows ax);refine qq<|qj fun K hK=>qm ?_;refine qm ?_;refine qv aI ?_;refine qm ?_;refine qe hK<|qq<|qq<|qj fun K hK=>qm ?_;refine qg ?_;refine qe hK ?_
 rcases hi0 with⟨rfl,hall⟩|⟨j0,rfl,Tu,Tp,t0,R_,Oo⟩
 ·refine ag.cond (v:=true) (by dsimp only[Fr.ev,Fr.get,nth,V.look];rfl) (fun _=>?_) (fun h=>by cases h);refine qq<|qj fun K hK=>qm ?_;refine qm ?_;refine qe hK ?_;have jU:l.filter (fun t=>!p t)=l:=List.filter_eq_self.2 (fun t ht=>by rw[hall t ht];rfl);rw[jU];have hown:=cD.own ax;have uQ:=(cD.ok 0 _ rfl).2;generalize tg:l.map tC=es at*
  cases hown with
  |nul=>
   refine ag.ret ⟨rx,_,_,_,rfl,ak (rfl),?_⟩;refine .inr ⟨rfl,by simpa using tg,?_⟩;exact(cD.drop 1).mE cy (hH.drop 1) (fun i e hi=>⟨e,hi,fun k hk=>hk⟩)
  |win k aq off es c hm hle gy he=>
   have hk:=uQ k (by simp only[bj.aE,D.ref]);refine ag.ret ⟨rx,_,_,_,rfl,ak ((show aH _ s0.bs.length false 16 (D.win k aq off es.length 8)=some (D.win k aq off es.length 8) from by show(if k<s0.bs.length then some (D.win k aq off es.length 8) else _)=_;rw[if_pos hk.2])),?_⟩;exact .inl (cD.qH cy hH)
 ·have hc:(((j0:Nat):Int)==-1)=false:=by simp
  refine qE rfl (by rw[hc]) ?_;refine ag.skip ?_;obtain⟨k,aq,off,HN⟩:=ui hH ax (by intro h;rw[List.map_eq_nil_iff] at h;subst h;simp at Tu);rw[List.length_map] at HN;subst HN;refine qq<|qq<|qj fun K hK=>qm ?_;refine ae.hC (z:=(((j0+1:Nat)):Int)) rfl (ev rfl) (ev rfl) (by(try simp only[List.length_reverse,List.length_cons,List.length_nil,List.length_append,List.length_map,List.length_set]);rw[wrap_i64 (by omega) (by omega)]<;>omega) (aa rfl _) ?_;refine qm ?_;refine qe hK<|ag.block<|ag.loop (fun mm fr st=>∃(i j:Nat) (L:List Tr),fr.clean=⟨8,[.win k aq off l.length 8,.fn g [],qM fr 2,qM fr 3,qM fr 4,.int .i64 (i:Nat),.int .i64 (j:Nat),qM fr 7],[]⟩∧Has N S2 st (.aE (.win k aq off l.length 8) 8 (L.map tC)::H)∧(l.length-j≤mm)∧(i<j)∧(j≤l.length)∧(L.length=l.length)∧(L.take i=(l.take j).filter (fun t=>!p t))∧(L.drop j=l.drop j)) (l.length) ?_ ?_
  ·refine⟨j0,j0+1,l,rfl,hH,by omega,by omega,by omega,rfl,?_,rfl⟩;rw[List.take_add_one,R_,List.filter_append,List.filter_eq_self.2 (fun t ht=>by rw[Tp t ht];rfl)];simp[Oo]
  rintro mm fr st ⟨i,j,L,hfr,hH,hi,hij,hjl,PH,Lj,Q1⟩;rw[hfr];clear hfr;generalize qM fr=ee;clear fr;refine qq<|qq<|qj fun K hK=>qm ?_;refine qm ?_;refine qn ?_ (hR:=hH.rows ax);simp only[List.length_map];refine qg ?_;refine qe hK ?_;rw[PH];refine ag.cond (by rfl) (fun h1=>?_) (fun h1=>?_)<;>try simp only[decide_eq_true_eq,decide_eq_false_iff_not] at h1
  ·refine ag.skip ?_
   obtain⟨v,hv⟩:∃v,l[j]?=some v:=⟨l[j]'(by omega),List.getElem?_eq_getElem _⟩
   have QC:=List.mem_of_getElem? hv
   have R1:L[j]?=some v:=by
    have h2:=congrArg (·[0]?) Q1;simp only[List.getElem?_drop,Nat.add_zero] at h2;rw[h2,hv]
   have gN:=lu R1;have Km:l.take (j+1)=l.take j++[v]:=by rw[List.take_add_one,hv];rfl
   have wY:L.drop (j+1)=l.drop (j+1):=by
    have h2:=congrArg (List.drop 1) Q1
    simpa[List.drop_drop] using h2
   have hrz:=Hk (Ae v QC);refine qq<|ag.block<|qq<|qj fun K hK=>qm ?_;refine qm ?_;refine qi hH ax fun Hy yN=>?_;refine ae.ym hH rfl (ev rfl) (by assumption) (by exact ax) (by assumption) rfl (aa rfl _) ?_;refine qa hH fun k7 st QP hH=>?_;refine ae.b8 hH rfl (ev rfl) (ev rfl) (by rfl) (by exact rfl) (by exact ax) (by exact rfl) (by exact .inr (by assumption)) (fun st hH=>?_);dsimp only[u2,u1,u3,u4,setMany,u5,u6,D.cells,Nat.reduceAdd,tC,b_] at hH;refine qe hK ?_;have hH:Has N S2 st (.box k7 (.mem 0 false (tC v))::.aE (.win k aq off l.length 8) 8 (L.map tC)::H):=hH;refine qq<|qj fun K hK=>qm ?_;refine ae.aV (m:=8) (r:=tC v) hH rfl (ev rfl) ax rfl rfl rfl (aa rfl _) ?_;refine qv (hf _ v QC) ?_;refine qg ?_;refine qe hK ?_
   cases H4:p v with
   |true=>
    refine ag.cond (v:=false) (by dsimp only[Fr.ev,Fr.get,nth,V.look];rfl) (fun h=>by cases h) (fun _=>?_);refine ag.skip ?_;have hH:=hH.drop 1;refine qj fun K hK=>qm ?_;refine ae.hC (z:=((j+1:Nat):Int)) rfl (ev rfl) (ev rfl) (by(try simp only[List.length_reverse,List.length_cons,List.length_nil,List.length_append,List.length_map,List.length_set]);rw[wrap_i64 (by omega) (by omega)]<;>omega) (aa rfl _) ?_;refine qm ?_;refine qe hK ?_;exact⟨mm-1,by omega,⟨i,j+1,L,rfl,hH,by omega,by omega,by omega,PH,(by rw[Km,List.filter_append,←Lj];simp[H4]),wY⟩⟩
   |false=>
    refine ag.cond (v:=true) (by dsimp only[Fr.ev,Fr.get,nth,V.look];rfl) (fun _=>?_) (fun h=>by cases h)
    obtain⟨u,hu⟩:∃u,L[i]?=some u:=⟨L[i]'(by omega),List.getElem?_eq_getElem _⟩
    have rV:=lu hu;refine qq<|qj fun K hK=>qm ?_;refine qm ?_;refine ae.aV (m:=8) (r:=tC v) hH rfl (ev rfl) ax rfl rfl rfl (aa rfl _) ?_;refine qi hH aX fun UB SO=>?_;refine ae.pR hH rfl (ev rfl) (ev rfl) (by assumption) rfl rfl aX rV (by exact Nat.le_refl 8) (.inr hrz) (fun st hH=>?_);dsimp only[u1,u2] at hH;refine qe hK ?_;have hst:(L.map tC).set i (tC v)=(L.set i v).map tC:=by rw[List.map_set]
    have hH:Has N S2 st (.aE (.win k aq off l.length 8) 8 ((L.set i v).map tC)::H):=by rw[←hst];exact hH.drop 1
    refine qj fun K hK=>qm ?_;refine ae.hC (z:=((i+1:Nat):Int)) rfl (ev rfl) (ev rfl) (by(try simp only[List.length_reverse,List.length_cons,List.length_nil,List.length_append,List.length_map,List.length_set]);rw[wrap_i64 (by omega) (by omega)]<;>omega) (aa rfl _) ?_;refine qm ?_;refine qe hK<|qj fun K hK=>qm ?_;refine ae.hC (z:=((j+1:Nat):Int)) rfl (ev rfl) (ev rfl) (by(try simp only[List.length_reverse,List.length_cons,List.length_nil,List.length_append,List.length_map,List.length_set]);rw[wrap_i64 (by omega) (by omega)]<;>omega) (aa rfl _) ?_;refine qm ?_;refine qe hK ?_;exact⟨mm-1,by omega,⟨i+1,j+1,L.set i v,rfl,hH,by omega,by omega,by omega,(by rw[List.length_set];exact PH),(by rw[CE (by omega),Lj,Km,List.filter_append];simp[H4]),(by rw[List.drop_set_of_lt (by omega)];exact wY)⟩⟩
  ·refine ag.exit ?_;have KZ:j=l.length:=by omega
   rw[KZ,List.take_length] at Lj;have RT:cY pv 244=some [.int .i64 0,.nul,.int .i64 0,.int .i64 0,.bool false,.int .i64 0,.int .i64 0,.nul]:=rfl;have hsz:bR pv 244=some 8:=rfl;have FY:pv.cw 242=some (.slice 244):=rfl;obtain⟨Rq,hcl,PI⟩:=BW (i:=i) (n:=l.length) hH ax FY RT rfl rfl (by omega);rw[←List.map_take,Lj] at PI;dsimp only[u2] at PI;refine qq<|qj fun K hK=>qm ?_;refine qm ?_;refine ae.go (d:=.win k aq (off+i*8) (l.length-i) 8) (st1:=_) rfl rfl (by exact congrArg (Option.map fun d=>(d,_)) (AV FY hsz (by omega) _)) (aa rfl _) ?_;refine ae.N rfl rfl (d:=.tup []) (st1:=Rq) (by exact hcl) ?_;refine qe hK ?_;have hH:=PI;have jU:(l.filter (fun t=>!p t)).length=i:=by rw[←Lj,List.length_take];omega
   have Ah:=IV (i:=i) hH ax (by rw[List.length_append,List.length_map,List.length_replicate];omega);rw[List.take_append_of_le_length (by rw[List.length_map,jU];omega),List.take_of_length_le (by rw[List.length_map,jU];omega)] at Ah;dsimp only[u2] at Ah;have hk:=(cD.ok 0 _ rfl).2 k (by simp only[bj.aE,D.ref]);refine qq<|qj fun K hK=>qm ?_;refine qm ?_;refine ae.go (d:=.win k aq (off+0*8) (i-0) 8) (st1:=_) rfl rfl (by exact congrArg (Option.map fun d=>(d,_)) (vz FY hsz (by omega) _)) (aa rfl _) ?_;refine qm ?_;refine qe hK<|ag.ret ⟨rx,_,_,_,rfl,ak ((show aH _ s0.bs.length false 16 (D.win k aq (off+0*8) (i-0) 8)=some (D.win k aq (off+0*8) (i-0) 8) from by show(if k<s0.bs.length then some (D.win k aq (off+0*8) (i-0) 8) else _)=_;rw[if_pos hk.2])),?_⟩;refine .inl (cD.mE cy Ah (fun i e hi=>?_))
   cases i with
   |zero=>simp only[List.getElem?_cons_zero,Option.some.injEq] at hi;subst hi;exact⟨_,rfl,fun k hk=>hk⟩
   |succ i=>exact⟨e,hi,fun k hk=>hk⟩
end Go.Proofs.YtecjacicdpejaaaGreat
namespace Go.Proofs.YtecjacicdpejaaaGreat
open Go.V Go
theorem JD {N:Nat} {S st:St} {H:List bj} {j k aq off s n:Nat} {es xJ:List (List D)} (h:Has N S st H) (hj:H[j]?=some (.aE (.win k aq off n s) s es)) (iH:xJ.length=n) (hs:∀e∈xJ,e.length=s) (hw:S.flr≤N∨refs xJ.flatten=0):
  ∃ah,st.wr k aq off xJ.flatten=some ah∧Has N S ah (H.set j (.aE (.win k aq off n s) s xJ)):=by
 have uQ:=(h.ok j _ hj).2;have hown:=h.own hj
 cases hown with
 |win k aq off es c hm hle hc he=>
  have hk:=uQ k (by simp only[bj.aE,D.ref]);have rL:xJ.flatten.length=es.length*s:=by rw[bY hs,iH]
  refine⟨_,iQ hm (by omega) (fM h hk.1 hw),?_⟩;refine h.zm hj (fun n hn hne=>?_) (by simp) rfl rfl ?_ (fun n hn=>.inl hn) fun n hn=>?_
  ·simp only;rw[List.getElem?_set_ne (fun e=>hne (by simp only[bj.aE,D.ref];omega))]
  ·have:=fT.win (st:=⟨st.bs.set k (.mem aq true (c.take off++xJ.flatten++c.drop (off+xJ.flatten.length))),st.flr,st.ro⟩) (s:=s) k aq off xJ (c.take off++xJ.flatten++c.drop (off+xJ.flatten.length))
    (by simp only;rw[List.getElem?_set_self hk.2]) (by rw[iH];simp;omega) ?_ hs
   ·rw[iH] at this;exact this
   ·rw[iH,List.append_assoc,List.drop_append_of_le_length (by simp;omega),List.drop_take,Nat.sub_self,List.take_zero,List.nil_append,←rL,List.take_left']
    rfl
  ·simp only[bj.aE,D.ref] at hn;have:n=k:=by omega
   subst this;simp only[List.length_set];exact hk.2
def nR (l:List eC) (i:Nat) (r:eC):List eC:=l.take i++r::l.drop i
def fy (l:List eC) (key:List UInt8) (v:Int):List eC:=
 if bw l key=true then l.set (aT l key) ⟨(l.map (·.k)).getD (aT l key) [],v⟩ else nR l (aT l key) ⟨key,v⟩
theorem vw (l:List eC):∀e∈l.map cN,e.length=2:=by
 intro e he;obtain⟨r,_,rfl⟩:=List.mem_map.1 he;rfl
theorem DA (l:List eC) (i:Nat) (hi:i≤l.length) (r:eC):uH ((l.map cN).flatten) (i*2) (cN r)=((nR l i r).map cN).flatten:=by
 have h1:(l.map cN).flatten=((l.take i).map cN).flatten++((l.drop i).map cN).flatten:=by rw[←List.flatten_append,←List.map_append,List.take_append_drop]
 have h2:((l.take i).map cN).flatten.length=i*2:=by rw[bY (vw _),List.length_map,List.length_take,Nat.min_eq_left hi]
 unfold uH nR;rw[h1,List.take_left' h2,List.drop_left' h2,List.map_append,List.flatten_append,List.map_cons,List.flatten_cons]
theorem Cv {N:Nat} {S st:St} {H:List bj} {j:Nat} {x:D} {l:List eC} (h:Has N S st H) (hj:H[j]?=some (.aE x 2 (l.map cN))) (hl:l.length<1000000):jb st x=some l:=by
 have hown:=h.own hj;have hr:=vN l;have qX:(l.map cN).length=l.length:=List.length_map _;generalize tg:l.map cN=es at*
 cases hown with
 |nul=>
  cases l with
  |nil=>rfl
  |cons a b=>cases tg
 |win k aq off es c hm hle hc he=>
  unfold jb;simp only[St.mem_of hm];rw[if_pos ⟨hle,by omega⟩,hc];exact hr
theorem Co {N k : Nat} {S st : St} {H : List bj} {x : D} {l : List eC} {key : List UInt8} {v : Int} (h : Has N S st (.box k (.mem 0 false [x]) :: .aE x 2 (l.map cN) :: H)) (hF : S.flr ≤ N) (hl : l.length < 999999) :
  ∃ ah x', sB [.ptr k 0 0, .str key, .int .i64 v] st = some (.bool (!bw l key), ah) ∧ Has N S ah (.box k (.mem 0 false [x']) :: .aE x' 2 ((fy l key v).map cN) :: H) := by
 have hm := St.mem_of (h.at ax);have Oc := Cv h aX (by omega)
 have S1 : Ji k x ≠ k := by
  cases x with
  | win kl vl ol ln s =>
   intro he;exact h.dis 0 1 _ _ (by decide) rfl rfl k rfl (by simp only [bj.aE, D.ref]; exact congrArg (· + 1) he)
  | _ => show k + 1 ≠ k; omega
 have Pa := rj l key
 have hP : sB [.ptr k 0 0, .str key, .int .i64 v] st = pA k 0 0 key v st x l := by
  show (match st.bN k 0 with | some (_, ct) => _ | none => none) = _;rw [hm];show (match jb st x with | some l => pA k 0 0 key v st x l | none => none) = _;rw [Oc]
 rw [hP];unfold pA;rw [if_neg S1]
 cases ht : bw l key with
 | true =>
  have hil : aT l key < l.length := by
   unfold bw at ht;rw [Bool.and_eq_true, decide_eq_true_eq] at ht;exact ht.1
  obtain ⟨r, hr⟩ : ∃ r, l[aT l key]? = some r := ⟨l[aT l key]'hil, List.getElem?_eq_getElem _⟩
  have Nd : (l.map (·.k)).getD (aT l key) [] = r.k := by rw [List.getD_eq_getElem?_getD, List.getElem?_map, hr]; rfl
  obtain ⟨kl, vl, ol, HN⟩ := ui h aX (by intro h; rw [List.map_eq_nil_iff] at h; subst h; simp at hil);subst HN;obtain ⟨ah, h1, h2⟩ := h.tW (i := aT l key) (o := 1) (e := cN r) (cs := [.int .i64 v]) aX (by rw [List.getElem?_map, hr]; rfl) (Nat.le_refl 2) (.inl hF);refine ⟨ah, .win kl vl ol (l.map cN).length 2, ?_, ?_⟩
  ·rw [if_pos rfl];show (st.wr kl vl (ol + aT l key * 2 + 1) [.int .i64 v]).map _ = _;rw [h1]; rfl
  ·have xD : fy l key v = l.set (aT l key) ⟨r.k, v⟩ := by unfold fy; rw [if_pos ht, Nd]
   rw [xD, List.map_set];exact h2
 | false =>
  rw [if_neg (by simp)];have xD : fy l key v = nR l (aT l key) ⟨key, v⟩ := by unfold fy; rw [if_neg (by rw [ht]; simp)]
  rw [xD];have hp := h.mo (s := 2) (es := [[D.str key, D.int .i64 v]]) (cs := [D.str key, D.int .i64 v]) (m := 1) rfl rfl (by intro e he; rw [List.mem_singleton.1 he]; rfl);obtain ⟨x', st1, h1, h2, _⟩ := hp.append (P := dY) (j := 2) (t1 := 250) (t2 := 250) (y := .win st.bs.length 0 0 1 2) rfl (hp.rows ax) rfl rfl rfl rfl rfl rfl rfl ⟨by decide, by decide⟩ (by simp only [List.length_map, List.length_cons, List.length_nil]; omega) (.inl hF);have E2 : df dY [250, 250] x (.win st.bs.length 0 0 1 2) (st.push (.mem 0 true [.str key, .int .i64 v])) = some (x', st1) := h1;rw [E2];have h3 : Has N S st1 (.box k (.mem 0 false [x]) :: .aE x' 2 (l.map cN ++ [[D.str key, D.int .i64 v]]) :: H) := h2.drop 1
  have hput : ∃ st2, ud x' (aT l key) l.length ((l.map cN).flatten) [.str key, .int .i64 v] st1 = some st2 ∧ Has N S st2 (.box k (.mem 0 false [x]) :: .aE x' 2 ((nR l (aT l key) ⟨key, v⟩).map cN) :: H) := by
   unfold ud
   by_cases hlt : aT l key < l.length
   ·rw [if_pos hlt];obtain ⟨kl, vl, ol, HN⟩ := ui h3 aX (by simp);have OT : (l.map cN ++ [[D.str key, D.int .i64 v]]).length = l.length + 1 := by simp
    rw [OT] at HN;subst HN;obtain ⟨st2, h4, h5⟩ := JD (xJ := (nR l (aT l key) ⟨key, v⟩).map cN) h3 aX (by unfold nR; simp; omega) (vw _) (.inl hF);rw [← DA l _ Pa] at h4;exact ⟨st2, h4, h5⟩
   ·rw [if_neg hlt];have he : aT l key = l.length := by omega
    refine ⟨st1, rfl, ?_⟩;have hi : nR l (aT l key) ⟨key, v⟩ = l ++ [⟨key, v⟩] := by rw [he]; unfold nR; rw [List.take_length, List.drop_length]
    rw [hi, List.map_append];exact h3
  obtain ⟨st2, h4, h5⟩ := hput;dsimp only;rw [h4];dsimp only;have hb := h5.at ax;have hk := (h5.ok 0 _ rfl).2 k rfl;have hw : st2.wr k 0 0 [x'] = some { st2 with bs := st2.bs.set k (.mem 0 false ([x].take 0 ++ [x'] ++ [x].drop (0 + [x'].length))) } := iQ hb (Nat.le_refl 1) (fM h5 hk.1 (.inl hF));rw [hw];exact ⟨_, x', rfl, h5.x4 (aq := 0) ax⟩
end Go.Proofs.YtecjacicdpejaaaGreat
namespace Go.Proofs.YtecjacicdpejaaaGreat
open Go.V Go
def uG (fr:Go.V.Fr) (k:Nat):Go.V.D:=Go.V.nth .bp fr.loc k
def JM (op:Int) (F:List Tr):bB:=match F with
 |[]=>EX 1
 |[t]=>t.n
 |_=>EX op
def JN (x:D) (F:List Tr):D:=match F with
 |[]=>dD []
 |[t]=>dD t.ks
 |_=>x
theorem vp (op:Int) (x:D) (F:List Tr):xK op x F=b_ (JM op F) (JN x F):=by
 rcases F with _|⟨t,_|⟨u,r⟩⟩<;>rfl
theorem sx {st:St} {N:Nat} {op:Int} {x:D} {F:List Tr} (hf:jR F) (hx:aH st N false 15 x=some (dD F)):aH st N false 16 (.agg (b_ (JM op F) (JN x F)))=some (.agg (tC (f_ op F))):=by
 rcases F with _|⟨t,_|⟨u,r⟩⟩
 ·rfl
 ·exact gB (hf t (List.mem_singleton.2 rfl)) _ _ _
 ·show(dH (aH st N false 15) (b_ (EX op) x)).map D.agg=_
  have h8:tC (f_ op (t::u::r))=b_ (EX op) (dD (t::u::r)):=by
   show tC (AJ op _)=_;unfold tC AJ;simp only[Tr.n,Tr.ks,lp]
  rw[h8];simp only[b_,dH,hx]
  rfl
theorem GD {s0:St} {t:Tr}:Ev pv 234 [.agg (tC t)] s0 (.bool (t.n.op==1)) s0:=by
 refine Ev.jq rfl LU rfl rfl rfl ?_;dsimp only[u3,u4,List.length,Nat.reduceSub,Nat.reduceAdd,w1,w2];obtain⟨bf,hF,hH⟩:=ri s0;generalize ai .ro s0=S at*;refine qq<|qj fun K hK=>qb hH fun k1 st lR hH=>?_;dsimp only[u2,u1,u3,u4,setMany,u5,u6,D.cells,Nat.reduceAdd,tC,b_] at hH;refine qm ?_;refine qe hK<|qq<|qj fun K hK=>qp (o:=0) ?_;refine qp (o:=0) ?_;refine ql hH ax ?_;refine qg ?_;refine qm ?_;refine qe hK<|ag.ret ⟨rx,_,rfl,rl bf hH (rfl)⟩
theorem GC {s0:St} {n:bB} {x:D} {l:List Tr} (rY:V.Rows s0 8 x (l.map tC)) (rZ:jR l) (hcl:b7 l≤1048575):Ev pv 206 [.agg (b_ n x)] s0 (.agg (tC (f_ 3 ((bm 3 l).filter fun t=>t.n.op !=1)))) s0:=by
 have hsf:jR (bm 3 l):=jt rZ;have Sh:=gb 3 l;have mH:=cK (bm 3 l);have lZ:jR ((bm 3 l).filter fun t=>!(t.n.op==1)):=fun k hk=>hsf k (List.mem_filter.1 hk).1;have jU:=List.length_filter_le (fun t:Tr=>!(t.n.op==1)) (bm 3 l);show Ev pv _ _ _ (.agg (tC (f_ 3 ((bm 3 l).filter fun t=>!(t.n.op==1))))) _;refine Ev.jq rfl L6 rfl rfl rfl ?_;dsimp only[u3,u4,List.length,Nat.reduceSub,Nat.reduceAdd,w1,w2];obtain⟨bf,hF,hH⟩:=ri s0;generalize ai .ro s0=S at*;have kV:=Arg.of rY bf;refine qq<|qj fun K hK=>qb hH fun k1 st lR hH=>?_;dsimp only[u2,u1,u3,u4,setMany,u5,u6,D.cells,Nat.reduceAdd,tC,b_] at hH;refine qa hH fun k2 st hk2 hH=>?_;refine qe hK ?_;have hH:Has s0.bs.length S st (.box k2 (.mem 0 false tz)::.box k1 (.mem 0 false (b_ n x))::[]):=hH;obtain⟨d1,st1,It,Gi,ON⟩:=sH (op:=3) hF rZ (by omega) kV hH;refine qq<|qj fun K hK=>qp (o:=7) ?_;refine ql hH aX ?_;refine ae.dF rfl rfl It (aa rfl _) ?_;refine qm ?_;refine qe hK ?_;have hH:=Gi;obtain⟨d2,st2,Pn,xI⟩:=BR (g:=234) (p:=fun t=>t.n.op==1) hH hsf (by omega) (fun st t ht=>GD);refine qq<|qj fun K hK=>qm ?_;refine ae.dF rfl rfl Pn (aa rfl _) ?_;refine qm ?_;refine qe hK ?_
 have g_:∃(H2:List bj) (j2:Nat),Has s0.bs.length S st2 H2∧H2[j2]?=some (.box k2 (.mem 0 false tz))∧V.Rows st2 8 d2 (((bm 3 l).filter fun t=>!(t.n.op==1)).map tC)∧(∀ah H3,Has s0.bs.length S ah H3→(∀j e,j≠j2→H2[j]?=some e→H3[j]?=some e)→aH ah s0.bs.length false 15 d2=some (dD ((bm 3 l).filter fun t=>!(t.n.op==1)))):=by
  rcases xI with hH|⟨rfl,IH,hH⟩
  ·refine⟨_,1,hH,rfl,hH.rows ax,fun ah H3 h3 h4=>?_⟩;rw[lO];exact h3.freeze (h4 0 _ (by decide) rfl) (kG lZ) (n:=14) (by decide)
  ·rw[IH];exact⟨_,0,hH,rfl,ew _ (l:=[]) (fun k hk=>by cases hk),fun ah H3 h3 h4=>rfl⟩
 obtain⟨H2,j2,hH,QQ,DG,hfz⟩:=g_;generalize((bm 3 l).filter fun t=>!(t.n.op==1))=F at*;have FY:=vt (op:=3) DG (by omega) lZ;rw[vp] at FY;refine qq<|qj fun K hK=>qm ?_;refine ae.dF rfl rfl FY (aa rfl _) ?_;refine ae.b8 hH rfl (ev rfl) (ev rfl) rfl (by exact rfl) QQ (by exact rfl) (.inl hF) (fun st hH=>?_);refine qe hK ?_;have hb2:(H2.set j2 (bj.box k2 (.mem 0 false (b_ (JM 3 F) (JN d2 F)))))[j2]?=some (bj.box k2 (.mem 0 false (b_ (JM 3 F) (JN d2 F)))):=List.getElem?_set_self (List.getElem?_eq_some_iff.1 QQ).1;have hz:=sx (op:=3) lZ (hfz st _ hH (fun j e hj he=>by rw[List.getElem?_set_ne (fun h=>hj h.symm)];exact he));exact ag.ret ⟨rx,_,hH.cX rfl hb2 rfl,rl bf hH hz⟩
theorem GN {s0:St} {n:bB} {x:D} {l:List Tr} (rY:V.Rows s0 8 x (l.map tC)) (rZ:jR l) (hcl:b7 l≤1048575):Ev pv 207 [.agg (b_ n x)] s0 (.agg (tC (f_ 4 (iN (bm 4 l).length (bm 4 l))))) s0:=by
 have hsf:jR (bm 4 l):=jt rZ;have Sh:=gb 4 l;refine Ev.jq rfl L5 rfl rfl rfl ?_;dsimp only[u3,u4,List.length,Nat.reduceSub,Nat.reduceAdd,w1,w2];obtain⟨bf,hF,hH⟩:=ri s0;generalize ai .ro s0=S at*;have kV:=Arg.of rY bf;refine qq<|qj fun K hK=>qb hH fun k1 st lR hH=>?_;dsimp only[u2,u1,u3,u4,setMany,u5,u6,D.cells,Nat.reduceAdd,tC,b_] at hH;refine qa hH fun k2 st hk2 hH=>?_;refine qe hK ?_;have hH:Has s0.bs.length S st (.box k2 (.mem 0 false tz)::.box k1 (.mem 0 false (b_ n x))::[]):=hH;obtain⟨d1,st1,It,Gi,ON⟩:=sH (op:=4) hF rZ (by omega) kV hH;refine qq<|qj fun K hK=>qp (o:=7) ?_;refine ql hH aX ?_;refine ae.dF rfl rfl It (aa rfl _) ?_;refine qm ?_;refine qe hK ?_;have hH:=Gi.take 2;generalize bm 4 l=F0 at*;refine ag.block<|ag.loop (fun mm fr st=>∃(f:Nat) (y:D) (F:List Tr),fr.clean=⟨5,[uG fr 0,uG fr 1,.ptr k2 0 0,y,uG fr 4],[]⟩∧Has s0.bs.length S st (.aE d1 8 (F0.map tC)::.box k2 (.mem 0 false tz)::[])∧(F.length≤mm)∧(jR F)∧(b7 F≤b7 F0)∧((y=d1∧F=F0)∨y=dD F)∧(iN f F=iN F0.length F0)∧(F.length≤f)) (F0.length) ?_ ?_
 ·exact⟨F0.length,d1,F0,rfl,hH,Nat.le_refl _,hsf,Nat.le_refl _,.inl ⟨rfl,rfl⟩,rfl,Nat.le_refl _⟩
 rintro mm fr st ⟨f,y,F,hfr,hH,UT,lZ,UU,hy,hal,UW⟩;rw[hfr];clear hfr;generalize uG fr=ee;clear fr
 have DG:V.Rows st 8 y (F.map tC):=by
  rcases hy with⟨rfl,rfl⟩|rfl
  ·exact hH.rows ax
  ·exact ew st lZ
 have U1:=cK F;have KB:jR (cQ F):=mw lZ;have SQ:=pU F;have QT:jR (cu (cQ F)):=jB KB;have US:=qJ (cQ F);have r_:=AK F;have ho:=Fy DG lZ (by omega);have hj:=yC (ew st KB) KB (by omega);have xG:=ew st QT;refine ag.block<|qq<|qj fun K hK=>qm ?_;refine ae.dF rfl rfl ho (aa rfl _) ?_;refine ae.dF rfl rfl hj (aa rfl _) ?_;refine qm ?_;refine qe hK<|qq<|qq<|qj fun K hK=>qm ?_;refine ae.j4 rfl (ev rfl) xG rfl (aa rfl _) ?_;refine qm ?_;refine ae.j4 rfl (ev rfl) DG rfl (aa rfl _) ?_;refine qg ?_;refine qe hK ?_;rw[List.length_map,List.length_map]
 by_cases hlen:(cu (cQ F)).length=F.length
 ·have hc:((((cu (cQ F)).length:Nat):Int)==((F.length:Nat):Int))=true:=by rw[hlen];simp
  have T8:iN f F=F:=by
   cases f with
   |zero=>rfl
   |succ f=>rw[iN,if_pos hlen]
  rw[←hal,T8];refine qD rfl (by rw[hc]) ?_;have FY:=vt (op:=4) DG (by omega) lZ;rw[vp] at FY;refine qq<|qj fun K hK=>qm ?_;refine ae.dF rfl rfl FY (aa rfl _) ?_;refine ae.b8 hH rfl (ev rfl) (ev rfl) rfl (by exact rfl) aX (by exact rfl) (.inl hF) (fun st hH=>?_);dsimp only[u1,u2] at hH;refine qe hK ?_;have hH:Has s0.bs.length S st (.aE d1 8 (F0.map tC)::.box k2 (.mem 0 false (b_ (JM 4 F) (JN y F)))::[]):=hH
  have MY:aH st s0.bs.length false 15 y=some (dD F):=by
   rcases hy with⟨rfl,rfl⟩|rfl
   ·rw[lO];exact hH.freeze ax (kG lZ) (n:=14) (by decide)
   ·rfl
  exact ag.ret ⟨rx,_,hH.cX rfl aX rfl,rl bf hH (sx lZ MY)⟩
 ·have hc:((((cu (cQ F)).length:Nat):Int)==((F.length:Nat):Int))=false:=by simp;omega
  obtain⟨f',rfl⟩:∃f',f=f'+1:=⟨f-1,by omega⟩
  rw[iN,if_neg hlen] at hal;refine qE rfl (by rw[hc]) ?_;refine ag.skip<|qj fun K hK=>qm ?_;refine qm ?_;refine qe hK ?_;exact⟨mm-1,by omega,⟨f',dD (cu (cQ F)),cu (cQ F),rfl,hH,by omega,QT,by omega,.inr rfl,hal,by omega⟩⟩
end Go.Proofs.YtecjacicdpejaaaGreat
namespace Go.Proofs.YtecjacicdpejaaaGreat
open Go.V Go
def yI (fr:Go.V.Fr) (k:Nat):Go.V.D:=Go.V.nth .bp fr.loc k
def Jh (n:bB):bB:={n with lz:=n.lz &&n.mn !=n.mx}
def Hu (n:bB) (k:Tr) (l:List Tr):Tr:=
 if k.n.op=1 then k
 else if n.mn=1∧n.mx=1 then k
 else if n.mx=0∧k.q'=false then AJ 1 []
 else if(gU n &&(gU k.n &&zW k.ks))=true then .mk {k.n with mn:=k.n.mn*n.mn} (dR k.ks)
 else .mk n (dR l)
theorem JS (n:bB) (k:Tr) (l:List Tr):vM n k l=Hu (Jh n) k l:=rfl
theorem HG (n:bB) (l:List Tr):tC (.mk n (dR l))=b_ n (dD l):=by unfold tC;simp only[Tr.n,Tr.ks,lp]
theorem HF (a b:Int) (ha:0≤a∧a≤1) (hb:0≤b∧b≤1) (st:St):(m_ pv .mul 3 (.int .i64 a) (.int .i64 b)).map (fun d=>(d,st))=some (.int .i64 (a*b),st):=by
 have h1:a*b=0∨a*b=1:=by
  rcases(show a=0∨a=1 by omega) with rfl|rfl
  ·simp
  ·rw[Int.one_mul];omega
 show some (D.int .i64 (bu .i64 (a*b)),st)=_;rw[wrap_i64 (by omega) (by omega)]
theorem pe {n:bB} (h:gU n=true):n.op=5∧n.mn≤1:=by
 unfold gU at h;simp only[Bool.and_eq_true,beq_iff_eq,decide_eq_true_eq] at h;exact⟨h.1.1.1,h.2⟩
def Fj (n:bB) (x:D) (k:Tr):List D:=
 if k.n.op=1 then tC k
 else if n.mn=1∧n.mx=1 then tC k
 else if n.mx=0∧k.q'=false then tC (AJ 1 [])
 else if(gU n &&(gU k.n &&zW k.ks))=true then b_ {k.n with mn:=k.n.mn*n.mn} (dD k.ks)
 else b_ n x
theorem AZ {n:bB} {x:D} {k:Tr} {l:List Tr} (hn:n.rd=aQ n.rs) (hk:k.fa ma):∃n' y,Fj n x k=b_ n' y∧∀st N,aH st N false 15 x=some (dD l)→aH st N false 16 (.agg (b_ n' y))=some (.agg (tC (Hu n k l))):=by
 have OX:=(Tr.d_.1 hk).1.1;unfold Fj Hu
 split
 ·exact⟨k.n,dD k.ks,rfl,fun st N _=>gB hk _ _ _⟩
 split
 ·exact⟨k.n,dD k.ks,rfl,fun st N _=>gB hk _ _ _⟩
 split
 ·exact⟨EX 1,dD [],rfl,fun st N _=>rfl⟩
 split
 ·refine⟨_,_,rfl,fun st N _=>?_⟩;rw[HG];unfold b_;dsimp only;rw[OX];rfl
 ·refine⟨_,_,rfl,fun st N h=>?_⟩;rw[HG];show(dH (aH st N false 15) (b_ n x)).map D.agg=_;unfold b_;simp only[dH,h,hn]
  rfl
theorem ya {s0:St} {n0:bB} {x:D} {k:Tr} {l0:List Tr} (rY:V.Rows s0 8 x ((k::l0).map tC)) (OQ:n0.rd=aQ n0.rs) (rZ:jR (k::l0)) (hcl:b7 (k::l0)≤1048575) (h5:0≤n0.mn) (Gb:k.n.op=5→k.ks≠[]∧0≤k.n.mn):Ev pv 208 [.agg (b_ n0 x)] s0 (.agg (Fj (Jh n0) x k)) s0:=by
 have Pk:=ou rY (Nat.le_refl _) (by simp);have KM:k∈k::l0:=List.mem_cons_self ..;have DV:=rZ k KM;have S5:=eT KM;have gN:((k::l0).map tC)[0]?=some (tC k):=rfl;have xG:=fun st=>tk _ k (Nat.le_refl _) (by omega) DV st
 obtain⟨n,hn⟩:∃n,n=Jh n0:=⟨_,rfl⟩
 have OP:n.rd=aQ n.rs:=by rw[hn];exact OQ
 have SU:0≤n.mn:=by rw[hn];exact h5
 rw[←hn];refine Ev.jq rfl L4 rfl rfl rfl ?_;dsimp only[u3,u4,List.length,Nat.reduceSub,Nat.reduceAdd,w1,w2];obtain⟨bf,hF,hH⟩:=ri s0;generalize ai .ro s0=S at*;have kV:=Arg.of rY bf;refine qq<|qj fun K hK=>qb hH fun k1 st lR hH=>?_;dsimp only[u2,u1,u3,u4,setMany,u5,u6,D.cells,Nat.reduceAdd,tC,b_,aG] at hH;refine qa hH fun k2 st hk2 hH=>?_;refine qe hK<|qq<|ag.merge (fun fr st=>∃(tmp:List (Nat×D)),fr=⟨4,[yI fr 0,.ptr k1 0 0,.ptr k2 0 0,yI fr 3],tmp⟩∧Has s0.bs.length S st (.box k2 (.mem 0 false tz)::.box k1 (.mem 0 false (b_ n x))::[])∧(True)) ?_ ?_
 ·cases Na:n0.lz with
  |true=>
   have bC:n0.lz=true:=Na;refine qj fun K hK=>qp (o:=0) ?_;refine qp (o:=4) ?_;refine ql hH aX ?_;refine qm ?_;refine qp (o:=0) ?_ (hg:=wi bC);refine qp (o:=2) ?_ (hg:=wi bC);refine ql hH aX ?_ (hg:=wi bC);refine qp (o:=0) ?_ (hg:=wi bC);refine qp (o:=3) ?_ (hg:=wi bC);refine ql hH aX ?_ (hg:=wi bC);refine qg ?_ (hg:=wi bC);refine qt bC ?_;refine qp (o:=0) ?_;refine qp (o:=4) ?_;refine qT hH aX fun st hH=>?_;dsimp only[u2,u1,u3,u4,setMany,u5,u6,D.cells,Nat.reduceAdd,tC,b_,aG] at hH;refine qe hK ?_
   have gV:b_ n x=[.int .i64 n0.op,n0.rd,.int .i64 n0.mn,.int .i64 n0.mx,.bool (n0.mn !=n0.mx),.int .i64 n0.cap,.int .i64 n0.kids,x]:=by
    rw[hn];unfold b_ Jh;dsimp only;rw[Na];rfl
   exact⟨_,rfl,(by rw[gV];exact hH),trivial⟩
  |false=>
   have bC:n0.lz=false:=Na;refine qj fun K hK=>qp (o:=0) ?_;refine qp (o:=4) ?_;refine ql hH aX ?_;refine qm ?_;refine qs ?_ (hg:=wn bC);refine qs ?_ (hg:=wn bC);refine qs ?_ (hg:=wn bC);refine qs ?_ (hg:=wn bC);refine qs ?_ (hg:=wn bC);refine qs ?_ (hg:=wn bC);refine qs ?_ (hg:=wn bC);refine qu bC ?_;refine qp (o:=0) ?_;refine qp (o:=4) ?_;refine qT hH aX fun st hH=>?_;dsimp only[u2,u1,u3,u4,setMany,u5,u6,D.cells,Nat.reduceAdd,tC,b_,aG] at hH;refine qe hK ?_
   have gV:b_ n x=[.int .i64 n0.op,n0.rd,.int .i64 n0.mn,.int .i64 n0.mx,.bool false,.int .i64 n0.cap,.int .i64 n0.kids,x]:=by
    rw[hn];unfold b_ Jh;dsimp only;rw[Na];rfl
   exact⟨_,rfl,(by rw[gV];exact hH),trivial⟩
 rintro fr st ⟨tmp,hfr,hH,ht⟩;rw[hfr];clear hfr;generalize yI fr=ee;clear fr;have DQ:=fun st=>zF (s0:=st) (n:=n);have DP:=fun st=>zF (s0:=st) (n:=k.n)
 have Is:∀(st:St),aH st s0.bs.length false 16 (.agg (b_ n x))=some (.agg (b_ n x)):=fun st=>by
  show(dH (aH st s0.bs.length false 15) (b_ n x)).map D.agg=_;unfold b_;simp only[dH,Pk st 14,OP]
  rfl
 refine qq<|qj fun K hK=>qp (o:=7) ?_;refine ql hH aX ?_;refine qr fun J0 DN=>?_;refine ae.dj rfl (ev rfl) (by assumption) rfl (aa rfl _) ?_;refine qa hH fun k3 st Iq hH=>?_;dsimp only[u2,u1,u3,u4,setMany,u5,u6,D.cells,Nat.reduceAdd,tC,b_,aG] at hH;refine qS hH ax fun st hH=>?_;dsimp only[u2,u1,u3,u4,setMany,u5,u6,D.cells,Nat.reduceAdd,tC,b_,aG] at hH;refine qe hK ?_;have hH:Has s0.bs.length S st (.box k3 (.mem 0 false (tC k))::.box k2 (.mem 0 false tz)::.box k1 (.mem 0 false (b_ n x))::[]):=hH;unfold Fj;refine qq<|ag.block<|qq<|qj fun K hK=>qp (o:=0) ?_;refine qp (o:=0) ?_;refine ql hH ax ?_;refine qg ?_;refine qm ?_;refine qe hK ?_
 by_cases h1:k.n.op=1
 ·have hc:(k.n.op==1)=true:=by simpa using h1
  rw[if_pos h1];refine qD rfl (by rw[hc]) ?_;refine qq<|qj fun K hK=>ae.aV (m:=8) (r:=tC k) hH rfl (ev rfl) ax rfl rfl rfl (aa rfl _) ?_;refine ae.b8 hH rfl (ev rfl) (ev rfl) rfl (by exact rfl) aX (by exact rfl) (.inl hF) (fun st hH=>?_);dsimp only[u1,u2] at hH;refine qe hK ?_;exact ag.ret ⟨rx,_,hH.cX rfl aX rfl,rl bf hH (gB DV _ _ _)⟩
 have hc:(k.n.op==1)=false:=by simpa using h1
 rw[if_neg h1];refine qE rfl (by rw[hc]) ?_;refine qq<|ag.mP 28 (.bool (n.mn==1 &&n.mx==1)) [] ?_ (fun ff tmp fv=>?_)
 ·refine qp (o:=0) ?_;refine qp (o:=2) ?_;refine ql hH bV ?_;refine qg ?_;refine qm ?_;refine ae.two 33 rfl (fun jP=>?_) (fun jP=>?_)
  ·refine qp (o:=0) ?_ (hg:=wi jP);refine qp (o:=3) ?_ (hg:=wi jP);refine ql hH bV ?_ (hg:=wi jP);refine qg ?_ (hg:=wi jP);refine qt jP ?_;refine qm ?_;refine ae.nil (dB ?_ ?_)
   ·dsimp only[aD,List.foldl,nth,u2,u1]
    all_goals(first|rfl|simp)
   ·dsimp only[Fr.ay,Fr.put,Fr.clean,Fr.ev,Fr.get,nth,V.look,u1,u2,v1,v2,v3,v4,v5,v6,v7,List.length,u3,u4,Nat.reduceSub,Nat.reduceAdd,List.map]
    all_goals(simp[jP];done)
  ·refine qs ?_ (hg:=wn jP);refine qs ?_ (hg:=wn jP);refine qs ?_ (hg:=wn jP);refine qs ?_ (hg:=wn jP);refine qu jP ?_;refine qm ?_;refine ae.nil (dB ?_ ?_)
   ·dsimp only[aD,List.foldl,nth,u2,u1]
    all_goals(first|rfl|simp)
   ·dsimp only[Fr.ay,Fr.put,Fr.clean,Fr.ev,Fr.get,nth,V.look,u1,u2,v1,v2,v3,v4,v5,v6,v7,List.length,u3,u4,Nat.reduceSub,Nat.reduceAdd,List.map]
    all_goals(simp[jP];done)
 dsimp only[aD,List.foldl,nth,u2,u1]
 by_cases h2:n.mn=1∧n.mx=1
 ·have oK:(n.mn==1 &&n.mx==1)=true:=by rw[Bool.and_eq_true,beq_iff_eq,beq_iff_eq];exact h2
  rw[if_pos h2];rw[oK] at fv;refine qB ?_;refine qq<|qj fun K hK=>ae.aV (m:=8) (r:=tC k) hH rfl (ev rfl) ax rfl rfl rfl (aa rfl _) ?_;refine ae.b8 hH rfl (ev rfl) (ev rfl) rfl (by exact rfl) aX (by exact rfl) (.inl hF) (fun st hH=>?_);dsimp only[u1,u2] at hH;refine qe hK ?_;exact ag.ret ⟨rx,_,hH.cX rfl aX rfl,rl bf hH (gB DV _ _ _)⟩
 have oK:(n.mn==1 &&n.mx==1)=false:=by
  rw[Bool.eq_false_iff];intro h;rw[Bool.and_eq_true,beq_iff_eq,beq_iff_eq] at h;exact h2 h
 rw[if_neg h2];rw[oK] at fv;refine qC ?_;clear fv;refine qq<|ag.mP 40 (.bool (n.mx==0 &&!k.q')) [] ?_ (fun ff tmp fv=>?_)
 ·refine qp (o:=0) ?_;refine qp (o:=3) ?_;refine ql hH bV ?_;refine qg ?_;refine qm ?_;refine ae.two 45 rfl (fun jP=>?_) (fun jP=>?_)
  ·refine ae.aV (m:=8) hH (aj rfl rfl rfl jP) (ev rfl) (by exact ax) (by dsimp only[List.drop_succ_cons,List.drop_zero,List.take_succ_cons,List.take_zero,tC,b_,aG]<;>rfl) rfl rfl (aa rfl _) ?_;refine qv ((xG _)) ?_ (hg:=wi jP);refine qg ?_ (hg:=wi jP);refine qt jP ?_;refine qm ?_;refine ae.nil (dB ?_ ?_)
   ·dsimp only[aD,List.foldl,nth,u2,u1]
    all_goals(first|rfl|simp)
   ·dsimp only[Fr.ay,Fr.put,Fr.clean,Fr.ev,Fr.get,nth,V.look,u1,u2,v1,v2,v3,v4,v5,v6,v7,List.length,u3,u4,Nat.reduceSub,Nat.reduceAdd,List.map]
    all_goals(simp[jP];done)
  ·refine qs ?_ (hg:=wn jP);refine qs ?_ (hg:=wn jP);refine qs ?_ (hg:=wn jP);refine qu jP ?_;refine qm ?_;refine ae.nil (dB ?_ ?_)
   ·dsimp only[aD,List.foldl,nth,u2,u1]
    all_goals(first|rfl|simp)
   ·dsimp only[Fr.ay,Fr.put,Fr.clean,Fr.ev,Fr.get,nth,V.look,u1,u2,v1,v2,v3,v4,v5,v6,v7,List.length,u3,u4,Nat.reduceSub,Nat.reduceAdd,List.map]
    all_goals(simp[jP];done)
 dsimp only[aD,List.foldl,nth,u2,u1]
 by_cases h3:n.mx=0∧k.q'=false
 ·have K9:(n.mx==0 &&!k.q')=true:=by rw[Bool.and_eq_true,beq_iff_eq,h3.2];exact⟨h3.1,rfl⟩
  rw[if_pos h3];rw[K9] at fv;refine qB ?_;refine qq<|qj fun K hK=>ae.go (d:=.agg [.int .i64 1,.nul,.int .i64 0,.int .i64 0,.bool false,.int .i64 0,.int .i64 0]) (st1:=_) rfl rfl rfl (aa rfl _) ?_;refine ae.go (d:=.agg [.int .i64 1,.nul,.int .i64 0,.int .i64 0,.bool false,.int .i64 0,.int .i64 0,.nul]) (st1:=_) rfl rfl rfl (aa rfl _) ?_;refine ae.b8 hH rfl (ev rfl) (ev rfl) rfl (by exact rfl) aX (by exact rfl) (.inl hF) (fun st hH=>?_);dsimp only[u1,u2] at hH;refine qe hK ?_;exact ag.ret ⟨rx,_,hH.cX rfl aX rfl,rl bf hH rfl⟩
 have K9:(n.mx==0 &&!k.q')=false:=by
  rw[Bool.eq_false_iff];intro h;rw[Bool.and_eq_true,beq_iff_eq] at h;exact h3 ⟨h.1,by simpa using h.2⟩
 rw[if_neg h3];rw[K9] at fv;refine qC ?_;clear fv
 cases h4:gU n with
 |false=>
  rw[Bool.false_and,if_neg (by simp)];have bC:gU n=false:=h4;have bL:false=false:=rfl;refine qq<|ag.mP 52 (.bool false) [] ?_ (fun ff tmp fv=>?_)
  ·refine qp (o:=0) ?_;refine ae.aV (m:=7) hH rfl (ev rfl) (by exact bV) (by dsimp only[List.drop_succ_cons,List.drop_zero,List.take_succ_cons,List.take_zero,tC,b_,aG]<;>rfl) rfl rfl (aa rfl _) ?_;refine qv ((DQ _)) ?_;refine qm ?_;refine qs ?_ (hg:=wn bC);refine qs ?_ (hg:=wn bC);refine qs ?_ (hg:=wn bC);refine qu bC ?_;refine qm ?_;refine qs ?_;refine qs ?_;refine qs ?_;refine qs ?_;refine qs ?_;refine qs ?_;refine qs ?_;refine qg ?_;refine qm ?_;refine ae.nil (dB ?_ ?_)
   ·dsimp only[aD,List.foldl,nth,u2,u1]
    all_goals(first|rfl|simp)
   ·dsimp only[Fr.ay,Fr.put,Fr.clean,Fr.ev,Fr.get,nth,V.look,u1,u2,v1,v2,v3,v4,v5,v6,v7,List.length,u3,u4,Nat.reduceSub,Nat.reduceAdd,List.map]
    all_goals(first|rfl|(simp[bC,bL];done)|(simp_all;done)|(simp[bC,bL];omega)|(simp_all;omega))
  dsimp only[aD,List.foldl,nth,u2,u1];refine qC ?_;refine ag.skip<|qq<|qj fun K hK=>ae.aV (m:=8) (r:=b_ n x) hH rfl (ev rfl) bV rfl rfl rfl (aa rfl _) ?_;refine ae.b8 hH rfl (ev rfl) (ev rfl) rfl (by exact rfl) aX (by exact rfl) (.inl hF) (fun st hH=>?_);dsimp only[u1,u2] at hH;refine qe hK ?_;exact ag.ret ⟨rx,_,hH.cX rfl aX rfl,rl bf hH (Is _)⟩
 |true=>
  rw[Bool.true_and];have bC:gU n=true:=h4
  cases Ll:gU k.n with
  |false=>
   rw[Bool.false_and,if_neg (by simp)];have bL:gU k.n=false:=Ll;refine qq<|ag.mP 52 (.bool false) [] ?_ (fun ff tmp fv=>?_)
   ·refine qp (o:=0) ?_;refine ae.aV (m:=7) hH rfl (ev rfl) (by exact bV) (by dsimp only[List.drop_succ_cons,List.drop_zero,List.take_succ_cons,List.take_zero,tC,b_,aG]<;>rfl) rfl rfl (aa rfl _) ?_;refine qv ((DQ _)) ?_;refine qm ?_;refine qp (o:=0) ?_ (hg:=wi bC);refine ae.aV (m:=7) hH (aj rfl rfl rfl bC) (ev rfl) (by exact ax) (by dsimp only[List.drop_succ_cons,List.drop_zero,List.take_succ_cons,List.take_zero,tC,b_,aG]<;>rfl) rfl rfl (aa rfl _) ?_;refine qv ((DP _)) ?_ (hg:=wi bC);refine qt bC ?_;refine qm ?_;refine qs ?_ (hg:=wn bL);refine qs ?_ (hg:=wn bL);refine qs ?_ (hg:=wn bL);refine qs ?_ (hg:=wn bL);refine qs ?_ (hg:=wn bL);refine qs ?_ (hg:=wn bL);refine qs ?_ (hg:=wn bL);refine qu bL ?_;refine qm ?_;refine ae.nil (dB ?_ ?_)
    ·dsimp only[aD,List.foldl,nth,u2,u1]
     all_goals(first|rfl|simp)
    ·dsimp only[Fr.ay,Fr.put,Fr.clean,Fr.ev,Fr.get,nth,V.look,u1,u2,v1,v2,v3,v4,v5,v6,v7,List.length,u3,u4,Nat.reduceSub,Nat.reduceAdd,List.map]
     all_goals(first|rfl|(simp[bC,bL];done)|(simp_all;done)|(simp[bC,bL];omega)|(simp_all;omega))
   dsimp only[aD,List.foldl,nth,u2,u1];refine qC ?_;refine ag.skip<|qq<|qj fun K hK=>ae.aV (m:=8) (r:=b_ n x) hH rfl (ev rfl) bV rfl rfl rfl (aa rfl _) ?_;refine ae.b8 hH rfl (ev rfl) (ev rfl) rfl (by exact rfl) aX (by exact rfl) (.inl hF) (fun st hH=>?_);dsimp only[u1,u2] at hH;refine qe hK ?_;exact ag.ret ⟨rx,_,hH.cX rfl aX rfl,rl bf hH (Is _)⟩
  |true=>
   rw[Bool.true_and];have bL:gU k.n=true:=Ll;obtain⟨xE,uO⟩:=pe Ll;obtain⟨OY,OZ⟩:=Gb xE
   obtain⟨kk,kl,hkk⟩:∃kk kl,k.ks=kk::kl:=by
    cases hk:k.ks with
    |nil=>exact absurd hk OY
    |cons a b=>exact⟨a,b,rfl⟩
   have O0:jR k.ks:=(Tr.d_.1 DV).2;have S7:Arg s0.bs.length S 8 (dD k.ks) (k.ks.map tC):=Arg.of (ew s0 O0) bf;have rV:(k.ks.map tC)[0]?=some (tC kk):=by rw[hkk];rfl
   have rM:zW k.ks=(kk.n.op==2):=by rw[hkk];rfl
   rw[rM];refine qq<|ag.mP 52 (.bool (kk.n.op==2)) [] ?_ (fun ff tmp fv=>?_)
   ·refine qp (o:=0) ?_;refine ae.aV (m:=7) hH rfl (ev rfl) (by exact bV) (by dsimp only[List.drop_succ_cons,List.drop_zero,List.take_succ_cons,List.take_zero,tC,b_,aG]<;>rfl) rfl rfl (aa rfl _) ?_;refine qv ((DQ _)) ?_;refine qm ?_;refine qp (o:=0) ?_ (hg:=wi bC);refine ae.aV (m:=7) hH (aj rfl rfl rfl bC) (ev rfl) (by exact ax) (by dsimp only[List.drop_succ_cons,List.drop_zero,List.take_succ_cons,List.take_zero,tC,b_,aG]<;>rfl) rfl rfl (aa rfl _) ?_;refine qv ((DP _)) ?_ (hg:=wi bC);refine qt bC ?_;refine qm ?_;refine qp (o:=7) ?_ (hg:=wi bL);refine ql hH ax ?_ (hg:=wi bL);refine qr (fun Ql Kr=>?_) (hg:=wi bL);refine qf (fo:=0) (fun RA Ox=>?_) (hg:=wi bL);refine qf (fo:=0) (fun Ur SD=>?_) (hg:=wi bL);refine qR ?_ (hg:=wi bL);refine qg ?_ (hg:=wi bL);refine qt bL ?_;refine qm ?_;refine ae.nil (dB ?_ ?_)
    ·dsimp only[aD,List.foldl,nth,u2,u1]
     all_goals(first|rfl|simp)
    ·dsimp only[Fr.ay,Fr.put,Fr.clean,Fr.ev,Fr.get,nth,V.look,u1,u2,v1,v2,v3,v4,v5,v6,v7,List.length,u3,u4,Nat.reduceSub,Nat.reduceAdd,List.map]
     all_goals(first|rfl|(simp[bC,bL];done)|(simp_all;done)|(simp[bC,bL];omega)|(simp_all;omega))
   dsimp only[aD,List.foldl,nth,u2,u1]
   cases h6:(kk.n.op==2) with
   |false=>
    rw[if_neg (by simp)];rw[h6] at fv;refine qC ?_;refine ag.skip<|qq<|qj fun K hK=>ae.aV (m:=8) (r:=b_ n x) hH rfl (ev rfl) bV rfl rfl rfl (aa rfl _) ?_;refine ae.b8 hH rfl (ev rfl) (ev rfl) rfl (by exact rfl) aX (by exact rfl) (.inl hF) (fun st hH=>?_);dsimp only[u1,u2] at hH;refine qe hK ?_;exact ag.ret ⟨rx,_,hH.cX rfl aX rfl,rl bf hH (Is _)⟩
   |true=>
    rw[if_pos rfl];rw[h6] at fv;refine qB ?_;obtain⟨rW,gV⟩:=pe h4;have hmul:=HF k.n.mn n.mn ⟨OZ,uO⟩ ⟨SU,gV⟩;refine qq<|qj fun K hK=>qp (o:=0) ?_;refine qp (o:=2) ?_;refine ql hH ax ?_;refine qp (o:=0) ?_;refine qp (o:=2) ?_;refine ql hH bV ?_;refine ae.go (d:=.int .i64 (k.n.mn*n.mn)) (st1:=_) rfl rfl (hmul _) (aa rfl _) ?_;refine qp (o:=0) ?_;refine qp (o:=2) ?_;refine qT hH ax fun st hH=>?_;dsimp only[u2,u1,u3,u4,setMany,u5,u6,D.cells,Nat.reduceAdd,tC,b_,aG] at hH;refine qe hK ?_;have OW:=(Tr.d_.1 DV).1.1;have hH:Has s0.bs.length S st (.box k3 (.mem 0 false (b_ {k.n with mn:=k.n.mn*n.mn} (dD k.ks)))::.box k2 (.mem 0 false tz)::.box k1 (.mem 0 false (b_ n x))::[]):=hH;refine qq<|qj fun K hK=>ae.aV (m:=8) (r:=b_ {k.n with mn:=k.n.mn*n.mn} (dD k.ks)) hH rfl (ev rfl) ax rfl rfl rfl (aa rfl _) ?_;refine ae.b8 hH rfl (ev rfl) (ev rfl) rfl (by exact rfl) aX (by exact rfl) (.inl hF) (fun st hH=>?_);dsimp only[u1,u2] at hH;refine qe hK ?_;exact ag.ret ⟨rx,_,hH.cX rfl aX rfl,rl bf hH (by unfold b_;dsimp only;rw[OW];rfl)⟩
end Go.Proofs.YtecjacicdpejaaaGreat
namespace Go.V
variable{P:Pv} {ops:Array Oper} {rest:List Oper} {fr aA:Fr} {st:St} {Q:Fr→St→Prop} {ty:TypeId} {pp:String} {a:Array Edge} {g:Option (Nat×Bool)} {dst:Nat}
variable{N:Nat} {S:St} {H:List bj}
theorem ae.Ij {t e:TypeId} {lo co:Operand} {k1 k2:IntKind} {m:Int} {inf:TypeInfo} {z:List D} {s:Nat} {aA:Nat→Fr} (hH:Has N S st H) (hg:az ops fr ⟨some dst,.makeSlice t lo co,ty,pp,a,g⟩=some true)
  (hl:fr.ev lo=.int k1 0) (hc:fr.ev co=.int k2 m) (ht:P.cw t=some (.slice e)) (hi:P.info e=some inf) (hz:cY P e=some z) (hsz:inf.size=s) (jM:z.length=s) (QL:inf.bytes≤1024) (rK:0≤m∧m≤137438953472) (hp:∀k,fr.put dst (.win k 0 0 0 s)=aA k)
  (h:∀k ah,S.bs.length≤k→Has N S ah (.aE (.win k 0 0 0 s) s []::H)→ae P ops rest (aA k) ah Q):ae P ops (⟨some dst,.makeSlice t lo co,ty,pp,a,g⟩::rest) fr st Q:=by
 subst hsz;have hb:m*(inf.bytes:Int)≤140737488355328:=Int.le_trans (Int.mul_le_mul rK.2 (show(inf.bytes:Int)≤1024 by omega) (by omega) (by omega)) (by decide);refine ae.go hg rfl (d:=.win st.bs.length 0 0 0 inf.size) (st1:=st.push (.mem 0 true [])) ?_ (hp _) (h _ _ hH.len (hH.mo rfl rfl (fun e he=>by cases he)));simp only[dK,hl,hc,fe,ht,hi,hz,Option.bind_some];rw[if_pos ⟨jM,by omega,by omega,by omega,hb⟩]
 rfl
theorem Has.RM {N:Nat} {S st ah:St} {H H2:List bj} (h:Has N S st H) (h2:Has st.bs.length st ah H2):Has N S ah (H2++H):=by
 have hN:=h.hN;have hl:=h.ex.len;have te:=h2.ex.len;refine⟨⟨fun k hk=>?_,by omega,h2.ex.flr.trans h.ex.flr,h2.ex.ro.trans h.ex.ro⟩,hN,h.eQ,fun i e hi=>?_,fun i j a b hij ha hb k kV gx=>?_⟩
 ·rw[h2.ex.low k (by omega)];exact h.ex.low k hk
 ·by_cases hlt:i<H2.length
  ·rw[List.getElem?_append_left hlt] at hi;obtain⟨h3,h4⟩:=h2.ok i e hi;exact⟨h3,fun k hk=>⟨by have:=(h4 k hk).1;omega,(h4 k hk).2⟩⟩
  ·rw[List.getElem?_append_right (by omega)] at hi;obtain⟨h3,h4⟩:=h.ok _ e hi;exact⟨e.loc (fun k hk=>h2.ex.low k (h4 k hk).2) h3,fun k hk=>⟨(h4 k hk).1,by have:=(h4 k hk).2;omega⟩⟩
 ·by_cases h1:i<H2.length<;>by_cases h3:j<H2.length
  ·rw[List.getElem?_append_left h1] at ha;rw[List.getElem?_append_left h3] at hb;exact h2.dis i j a b hij ha hb k kV gx
  ·rw[List.getElem?_append_left h1] at ha;rw[List.getElem?_append_right (by omega)] at hb;have:=((h2.ok _ a ha).2 k kV).1;have:=((h.ok _ b hb).2 k gx).2;omega
  ·rw[List.getElem?_append_right (by omega)] at ha;rw[List.getElem?_append_left h3] at hb;have:=((h2.ok _ b hb).2 k gx).1;have:=((h.ok _ a ha).2 k kV).2;omega
  ·rw[List.getElem?_append_right (by omega)] at ha hb;exact h.dis _ _ a b (by omega) ha hb k kV gx
end Go.V
