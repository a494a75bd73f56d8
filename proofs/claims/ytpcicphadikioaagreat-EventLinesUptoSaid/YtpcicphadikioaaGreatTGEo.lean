/-
 rules: may a rule have that name? New tables.
-/
import Derived.Test.YtpcicphadikioaaGreatTGHr
import Derived.Test.YtpcicphadikioaaGreatTGEe
import Derived.Test.YtpcicphadikioaaGreatTGEl
import Derived.Test.YtpcicphadikioaaGreatTGTe
import Derived.Test.YtpcicphadikioaaGreatTGQe
import Derived.Test.YtpcicphadikioaaGreatTGUa
import Derived.Test.YtpcicphadikioaaGreatTGJh
import Derived.Test.YtpcicphadikioaaGreatRows
import Derived.Test.YtpcicphadikioaaGreatTM3
set_option maxRecDepth 100000
set_option maxHeartbeats 4000000
set_option linter.unusedSimpArgs false
set_option linter.unusedVariables false
namespace Go.Proofs.YtpcicphadikioaaGreat
open Go.V Go
def bX (fr:Go.V.Fr) (k:Nat):Go.V.D:=Go.V.nth .aY fr.loc k
def Bc (c:Int):Bool:=decide (c≥97) &&decide (c≤122)||decide (c≥65) &&decide (c≤90)||decide (c≥48) &&decide (c≤57)||c==45||c==95||c==46
def pU (s:List UInt8):Bool:=!(s==[]) &&decide (s.length≤32) &&s.all fun c=>Bc (c.toNat:Nat)
theorem FW {t:TypeId} (ht:pv.bY t=some .string) {s:List UInt8} {i:Nat} {c:UInt8} (h:s[i]?=some c):nI pv t (.str s) (.int .i64 (i:Nat))=some (.int .u8 (c.toNat:Nat)):=by
 unfold nI;simp only[ht];rw[if_pos (by omega),Int.toNat_natCast,h];rfl
theorem Da {s0:St} {s:List UInt8} (hl:s.length≤1048576):Ev pv 23 [.str s] s0 (.bool (pU s)) s0:=by
 refine Ev.jL rfl O9 rfl rfl rfl ?_;refine zE ?_;obtain⟨aW,hF,hH⟩:=ri s0;generalize ai .ro s0=S at*;refine zQ 6 ?_;refine ag.rR 12 (.bool ((s==[])||decide (((s.length:Nat):Int)>32))) [6,7,8,9,10,11] ?_ (fun ff tmp=>?_)
 ·refine zQ 3 ?_;refine ae.two 8 rfl (fun bH=>?_) (fun bH=>?_)
  ·refine zQ 4 ?_;refine ae.nil (aI ?_);refine zG ?_
   all_goals(simp[bH];done)
  ·refine zQ 1 ?_;refine ae.jV (aj rfl rfl rfl bH) rfl rfl (by dsimp only[Fr.put,u1,u2]<;>rfl) ?_;refine zQ 2 ?_;refine ae.nil (aI ?_);refine zG ?_
   all_goals(simp[bH];done)
 dsimp only[bd,List.foldl,nth,u2,u1];generalize ff 6=e6;generalize ff 7=e7;generalize ff 8=e8;generalize ff 9=e9;generalize ff 10=UQ;generalize ff 11=UP
 by_cases h1:s≠[]∧s.length≤32
 ·have hc:((s==[])||decide (((s.length:Nat):Int)>32))=false:=by
   rw[Bool.or_eq_false_iff];exact⟨by simpa using h1.1,by rw[decide_eq_false_iff_not];omega⟩
  have hn:pU s=s.all fun c=>Bc (c.toNat:Nat):=by
   unfold pU;rw[decide_eq_true h1.2];simp[h1.1]
  rw[hn];refine qE rfl (by rw[hc]) ?_;refine zQ 5 ?_;refine ae.jV rfl rfl rfl (by dsimp only[Fr.put,u1,u2]<;>rfl) ?_;refine zQ 3 ?_;refine ag.loop (fun mm fr st=>∃(i:Nat),fr.clean=⟨16,[.str s,bX fr 1,bX fr 2,bX fr 3,bX fr 4,bX fr 5,bX fr 6,bX fr 7,bX fr 8,bX fr 9,bX fr 10,bX fr 11,bX fr 12,bX fr 13,.int .i64 (s.length:Nat),.int .i64 (i:Nat)],[]⟩∧Has s0.bs.length S st []∧(i+mm=s.length)∧((s.take i).all (fun c=>Bc (c.toNat:Nat))=true)) (s.length) ?_ ?_
  ·exact⟨0,rfl,hH,by omega,rfl⟩
  rintro mm fr st ⟨i,hfr,hH,hi,ht⟩;rw[hfr];clear hfr;generalize bX fr=ee;clear fr;refine zQ 5 ?_;refine zP (fun h2=>?_) fun h2=>?_
  ·refine zQ 1 ?_
   obtain⟨c,hc⟩:∃c,s[i]?=some c:=⟨s[i]'(by omega),List.getElem?_eq_getElem _⟩
   refine zQ 11 ?_;refine ae.go (d:=.int .u8 (c.toNat:Nat)) (st1:=_) rfl rfl (by exact congrArg (Option.map fun d=>(d,_)) (FW rfl hc)) (aa rfl _) ?_;refine zQ 3 ?_;refine ag.rR 5 (.bool (decide (((c.toNat:Nat):Int)≥97) &&decide (((c.toNat:Nat):Int)≤122)||decide (((c.toNat:Nat):Int)≥65) &&decide (((c.toNat:Nat):Int)≤90)||decide (((c.toNat:Nat):Int)≥48) &&decide (((c.toNat:Nat):Int)≤57)||((c.toNat:Nat):Int)==45||((c.toNat:Nat):Int)==95||((c.toNat:Nat):Int)==46)) [] ?_ (fun ff tmp=>?_)
   ·refine zQ 3 ?_;refine ae.two 23 rfl (fun bH=>?_) (fun bH=>?_)
    ·refine zQ 4 ?_;refine ae.two 27 rfl (fun iP=>?_) (fun iP=>?_)
     ·refine zQ 28 ?_;refine ae.nil (aI ?_);refine zG ?_
      all_goals(simp[bH,iP];done)
     ·refine zQ 3 ?_;refine ae.two 30 rfl (fun dt=>?_) (fun dt=>?_)
      ·refine zQ 2 ?_;refine ae.cF (aj rfl rfl rfl iP) rfl dt (aa rfl _) ?_;refine zQ 2 ?_;refine ae.two 35 rfl (fun da=>?_) (fun da=>?_)
       ·refine zQ 20 ?_;refine ae.nil (aI ?_);refine zG ?_
        all_goals(simp[bH,iP,dt,da];done)
       ·refine zQ 3 ?_;refine ae.two 38 rfl (fun aR=>?_) (fun aR=>?_)
        ·refine zQ 2 ?_;refine ae.cF (aj rfl rfl rfl da) rfl aR (aa rfl _) ?_;refine zQ 2 ?_;refine ae.two 43 rfl (fun bT=>?_) (fun bT=>?_)
         ·refine zQ 12 ?_;refine ae.nil (aI ?_);refine zG ?_
          all_goals(simp[bH,iP,dt,da,aR,bT];done)
         ·refine zQ 4 ?_;refine ae.two 47 rfl (fun cg=>?_) (fun cg=>?_)
          ·refine zQ 8 ?_;refine ae.nil (aI ?_);refine zG ?_
           all_goals(simp[bH,iP,dt,da,aR,bT,cg];done)
          ·refine zQ 4 ?_;refine ae.two 51 rfl (fun eU=>?_) (fun eU=>?_)
           ·refine zQ 4 ?_;refine ae.nil (aI ?_);refine zG ?_
            all_goals(simp[bH,iP,dt,da,aR,bT,cg,eU];done)
           ·refine zQ 4 ?_;refine ae.nil (aI ?_);refine zG ?_
            all_goals(simp[bH,iP,dt,da,aR,bT,cg,eU];done)
        ·refine zQ 2 ?_;refine ae.cp (aj rfl rfl rfl da) rfl aR (aa rfl _) ?_;refine zQ 6 ?_;refine ae.two 47 rfl (fun cg=>?_) (fun cg=>?_)
         ·refine zQ 8 ?_;refine ae.nil (aI ?_);refine zG ?_
          all_goals(simp[bH,iP,dt,da,aR,cg];done)
         ·refine zQ 4 ?_;refine ae.two 51 rfl (fun eU=>?_) (fun eU=>?_)
          ·refine zQ 4 ?_;refine ae.nil (aI ?_);refine zG ?_
           all_goals(simp[bH,iP,dt,da,aR,cg,eU];done)
          ·refine zQ 4 ?_;refine ae.nil (aI ?_);refine zG ?_
           all_goals(simp[bH,iP,dt,da,aR,cg,eU];done)
      ·refine zQ 2 ?_;refine ae.cp (aj rfl rfl rfl iP) rfl dt (aa rfl _) ?_;refine zQ 5 ?_;refine ae.two 38 rfl (fun aR=>?_) (fun aR=>?_)
       ·refine zQ 5 ?_;refine ae.two 43 rfl (fun bT=>?_) (fun bT=>?_)
        ·refine zQ 12 ?_;refine ae.nil (aI ?_);refine zG ?_
         all_goals(simp[bH,iP,dt,aR,bT];done)
        ·refine zQ 4 ?_;refine ae.two 47 rfl (fun cg=>?_) (fun cg=>?_)
         ·refine zQ 8 ?_;refine ae.nil (aI ?_);refine zG ?_
          all_goals(simp[bH,iP,dt,aR,bT,cg];done)
         ·refine zQ 4 ?_;refine ae.two 51 rfl (fun eU=>?_) (fun eU=>?_)
          ·refine zQ 4 ?_;refine ae.nil (aI ?_);refine zG ?_
           all_goals(simp[bH,iP,dt,aR,bT,cg,eU];done)
          ·refine zQ 4 ?_;refine ae.nil (aI ?_);refine zG ?_
           all_goals(simp[bH,iP,dt,aR,bT,cg,eU];done)
       ·refine zQ 9 ?_;refine ae.two 47 rfl (fun cg=>?_) (fun cg=>?_)
        ·refine zQ 8 ?_;refine ae.nil (aI ?_);refine zG ?_
         all_goals(simp[bH,iP,dt,aR,cg];done)
        ·refine zQ 4 ?_;refine ae.two 51 rfl (fun eU=>?_) (fun eU=>?_)
         ·refine zQ 4 ?_;refine ae.nil (aI ?_);refine zG ?_
          all_goals(simp[bH,iP,dt,aR,cg,eU];done)
         ·refine zQ 4 ?_;refine ae.nil (aI ?_);refine zG ?_
          all_goals(simp[bH,iP,dt,aR,cg,eU];done)
    ·refine zQ 7 ?_;refine ae.two 30 rfl (fun dt=>?_) (fun dt=>?_)
     ·refine zQ 5 ?_;refine ae.two 35 rfl (fun da=>?_) (fun da=>?_)
      ·refine zQ 20 ?_;refine ae.nil (aI ?_);refine zG ?_
       all_goals(simp[bH,dt,da];done)
      ·refine zQ 3 ?_;refine ae.two 38 rfl (fun aR=>?_) (fun aR=>?_)
       ·refine zQ 2 ?_;refine ae.cF (aj rfl rfl rfl da) rfl aR (aa rfl _) ?_;refine zQ 2 ?_;refine ae.two 43 rfl (fun bT=>?_) (fun bT=>?_)
        ·refine zQ 12 ?_;refine ae.nil (aI ?_);refine zG ?_
         all_goals(simp[bH,dt,da,aR,bT];done)
        ·refine zQ 4 ?_;refine ae.two 47 rfl (fun cg=>?_) (fun cg=>?_)
         ·refine zQ 8 ?_;refine ae.nil (aI ?_);refine zG ?_
          all_goals(simp[bH,dt,da,aR,bT,cg];done)
         ·refine zQ 4 ?_;refine ae.two 51 rfl (fun eU=>?_) (fun eU=>?_)
          ·refine zQ 4 ?_;refine ae.nil (aI ?_);refine zG ?_
           all_goals(simp[bH,dt,da,aR,bT,cg,eU];done)
          ·refine zQ 4 ?_;refine ae.nil (aI ?_);refine zG ?_
           all_goals(simp[bH,dt,da,aR,bT,cg,eU];done)
       ·refine zQ 2 ?_;refine ae.cp (aj rfl rfl rfl da) rfl aR (aa rfl _) ?_;refine zQ 6 ?_;refine ae.two 47 rfl (fun cg=>?_) (fun cg=>?_)
        ·refine zQ 8 ?_;refine ae.nil (aI ?_);refine zG ?_
         all_goals(simp[bH,dt,da,aR,cg];done)
        ·refine zQ 4 ?_;refine ae.two 51 rfl (fun eU=>?_) (fun eU=>?_)
         ·refine zQ 4 ?_;refine ae.nil (aI ?_);refine zG ?_
          all_goals(simp[bH,dt,da,aR,cg,eU];done)
         ·refine zQ 4 ?_;refine ae.nil (aI ?_);refine zG ?_
          all_goals(simp[bH,dt,da,aR,cg,eU];done)
     ·refine zQ 8 ?_;refine ae.two 38 rfl (fun aR=>?_) (fun aR=>?_)
      ·refine zQ 5 ?_;refine ae.two 43 rfl (fun bT=>?_) (fun bT=>?_)
       ·refine zQ 12 ?_;refine ae.nil (aI ?_);refine zG ?_
        all_goals(simp[bH,dt,aR,bT];done)
       ·refine zQ 4 ?_;refine ae.two 47 rfl (fun cg=>?_) (fun cg=>?_)
        ·refine zQ 8 ?_;refine ae.nil (aI ?_);refine zG ?_
         all_goals(simp[bH,dt,aR,bT,cg];done)
        ·refine zQ 4 ?_;refine ae.two 51 rfl (fun eU=>?_) (fun eU=>?_)
         ·refine zQ 4 ?_;refine ae.nil (aI ?_);refine zG ?_
          all_goals(simp[bH,dt,aR,bT,cg,eU];done)
         ·refine zQ 4 ?_;refine ae.nil (aI ?_);refine zG ?_
          all_goals(simp[bH,dt,aR,bT,cg,eU];done)
      ·refine zQ 9 ?_;refine ae.two 47 rfl (fun cg=>?_) (fun cg=>?_)
       ·refine zQ 8 ?_;refine ae.nil (aI ?_);refine zG ?_
        all_goals(simp[bH,dt,aR,cg];done)
       ·refine zQ 4 ?_;refine ae.two 51 rfl (fun eU=>?_) (fun eU=>?_)
        ·refine zQ 4 ?_;refine ae.nil (aI ?_);refine zG ?_
         all_goals(simp[bH,dt,aR,cg,eU];done)
        ·refine zQ 4 ?_;refine ae.nil (aI ?_);refine zG ?_
         all_goals(simp[bH,dt,aR,cg,eU];done)
   refine zG ?_;have Lv:(decide (((c.toNat:Nat):Int)≥97) &&decide (((c.toNat:Nat):Int)≤122)||decide (((c.toNat:Nat):Int)≥65) &&decide (((c.toNat:Nat):Int)≤90)||decide (((c.toNat:Nat):Int)≥48) &&decide (((c.toNat:Nat):Int)≤57)||((c.toNat:Nat):Int)==45||((c.toNat:Nat):Int)==95||((c.toNat:Nat):Int)==46)=Bc (c.toNat:Nat):=rfl;refine zQ 5 ?_
   cases hb:Bc (c.toNat:Nat) with
   |true=>
    refine ag.cond (v:=false) (by dsimp only[Fr.ev,Fr.get,nth,V.look];(rw[Lv,hb];rfl)) (fun h=>by cases h) (fun _=>?_);refine zQ 5 ?_;exact⟨mm-1,by omega,⟨i+1,rfl,hH,by omega,(by rw[List.take_add_one,hc,List.all_append,ht];simp[hb])⟩⟩
   |false=>
    refine ag.cond (v:=true) (by dsimp only[Fr.ev,Fr.get,nth,V.look];(rw[Lv,hb];rfl)) (fun _=>?_) (fun h=>by cases h);refine zQ 4 ?_;have hf:(s.all fun c=>Bc (c.toNat:Nat))=false:=by rw[List.all_eq_false];exact⟨c,List.mem_of_getElem? hc,by rw[hb];simp⟩
    rw[hf];refine ag.ret ⟨rx,_,rfl,rl aW hH (rfl)⟩
  ·refine zQ 5 ?_;rw[List.take_of_length_le (by omega)] at ht;rw[ht];refine ag.ret ⟨rx,_,rfl,rl aW hH (rfl)⟩
 ·have hc:((s==[])||decide (((s.length:Nat):Int)>32))=true:=by
   rw[Bool.or_eq_true,decide_eq_true_eq]
   by_cases h2:s=[]
   ·exact .inl (by simpa using h2)
   ·exact .inr (by have:¬s.length≤32:=fun h3=>h1 ⟨h2,h3⟩;omega)
  have hn:pU s=false:=by
   unfold pU
   by_cases h2:s=[]
   ·simp[h2]
   ·have:¬s.length≤32:=fun h3=>h1 ⟨h2,h3⟩;rw[decide_eq_false this];simp
  rw[hn];refine qD rfl (by rw[hc]) ?_;refine zQ 4 ?_;refine ag.ret ⟨rx,_,rfl,rl aW hH (rfl)⟩
theorem E5 {N:Nat} {S s0:St} {H:List bh} (hF:S.flr≤N) (hH:Has N S s0 H):
  ∃d ah,Ev pv 22 [] s0 d ah∧∃k,d=.ptr k 0 0∧Has N S ah (.box k (.mem 0 false [.nul])::.aD .nul 2 (([]:List ir).map cT)::H):=by
 refine Ev.kT rfl O_ rfl rfl rfl ?_;refine zE ?_;change ag _ _ _ _ s0 _;refine zQ 7 ?_;refine qb hH fun k2 st hk2 hH=>?_;refine zQ 2 ?_;refine ag.ret ⟨rx,_,_,_,rfl,rfl,?_⟩;exact⟨_,rfl,Has.Fk [_] [_] (hH.dU 2)⟩
noncomputable def cC:List oJ→Nat→List ir→List (List bn)→Except (Int×Nat) (List ir×List (List bn))
 |[],_,T,out=>.ok (T,out)
 |p::ps,i,T,out=>
  if pU p.nm=false then .error (14,i)
  else if cP T p.nm=true then .error (8,i)
  else if(bA p.tx).2.1≠0 then .error ((bA p.tx).2.1,i)
  else cC ps (i+1) (iK T p.nm i) (out++[dg (bA p.tx).1])
theorem A0 {l:List oJ} {i:Nat} {q:oJ} (h:l[i]?=some q):(l.map dO)[i]?=some (dO q):=by rw[List.getElem?_map,h];rfl
def Fw (N:Nat) (S st:St) (H:List bh) (d:D):Except (Int×Nat) (List ir×List (List bn))→Prop
 | .error r=>d=.tup [.nul,.pnil,.int .i64 r.1,.int .i64 (r.2:Nat)]∧Has N S st H
 | .ok r=>∃y k xt,d=.tup [y,.ptr k 0 0,.int .i64 0,.int .i64 0]∧Has N S st (.box k (.mem 0 false [xt])::.aD xt 2 (r.1.map cT)::.aD y 1 (r.2.map dI)::H)
theorem x7 (T:List ir) (key:List UInt8) (v:Int):(iK T key v).length≤T.length+1:=by
 unfold iK
 split
 ·rw[List.length_set];omega
 ·unfold rH;simp;omega
theorem A1 {N:Nat} {S s0:St} {H:List bh} {x:D} {l:List oJ} {cont:List UInt8} (hF:S.flr≤N) (hx:Arg N S 2 x (l.map dO)) (hl:l.length≤100) (jN:∀p∈l,p.fit) (hH:Has N S s0 H):
  ∃d ah,Ev pv 9 [.agg [x,.str cont]] s0 d ah∧Fw N S ah H d (cC l 0 [] []):=by
 have KJ:=gi hx.1;refine Ev.kT rfl TN rfl rfl rfl ?_;refine zE ?_;change ag _ _ _ _ s0 _;refine zQ 2 ?_;refine qb hH fun k1 st lL hH=>?_;refine zQ 5 ?_;obtain⟨_,st1,aF,kt,rfl,Ge⟩:=E5 hF hH;refine zQ 2 ?_;refine qv aF ?_;refine zQ 2 ?_;have hH:=Ge;refine zQ 9 ?_;refine qn ?_;simp only[List.length_map];refine zQ 2 ?_
 have hH:Has N S st1 (.box kt (.mem 0 false [.nul])::.aD .nul 2 (([]:List ir).map cT)::.aD .nul 1 (([]:List (List bn)).map dI)::H):=by
  have h1:=Has.Fk [_] [_,_] (hH.dU 1);exact h1.erase 3
 refine zQ 1 ?_;refine ag.loop (fun mm fr st=>∃(i:Nat) (xt y:D) (T:List ir) (out:List (List bn)),fr.clean=⟨18,[bX fr 0,bX fr 1,bX fr 2,bX fr 3,bX fr 4,bX fr 5,.ptr kt 0 0,y,bX fr 8,bX fr 9,bX fr 10,bX fr 11,bX fr 12,bX fr 13,bX fr 14,x,.int .i64 (l.length:Nat),.int .i64 (i:Nat)],[]⟩∧Has N S st (.box kt (.mem 0 false [xt])::.aD xt 2 (T.map cT)::.aD y 1 (out.map dI)::H)∧(i+mm=l.length)∧(T.length≤i)∧(out.length=i)∧(cC (l.drop i) i T out=cC l 0 [] [])∧(∀k,y.ref=k+1→S.bs.length≤k)) (l.length) ?_ ?_
 ·exact⟨0,.nul,.nul,[],[],rfl,hH,by omega,by simp,rfl,rfl,(fun k hk=>by simp only[D.ref] at hk;omega)⟩
 rintro mm fr st ⟨i,xt,y,T,out,hfr,hH,hi,hT,EX,Bu,gA⟩;rw[hfr];clear hfr;generalize bX fr=ee;clear fr;refine zQ 5 ?_;refine zP (fun h1=>?_) fun h1=>?_
 ·refine zQ 1 ?_
  obtain⟨p,hp⟩:∃p,l[i]?=some p:=⟨l[i]'(by omega),List.getElem?_eq_getElem _⟩
  have uB:=List.mem_of_getElem? hp;obtain⟨DX,DW⟩:=jN p uB;have gJ:=A0 hp;obtain⟨hil,S5⟩:=List.getElem?_eq_some_iff.1 hp;rw[List.drop_eq_getElem_cons hil,S5] at Bu;have F8:=fun st=>Da (s0:=st) (s:=p.nm) DX;have uZ:=fun st=>nx (s0:=st) (b:=p.tx) DW;refine zQ 5 ?_;refine qr fun Jz DJ=>?_;refine ae.cJ rfl (ev rfl) (by assumption) rfl (aa rfl _) ?_;refine qa hH fun k9 st Ql hH=>?_;refine qm ?_;refine qS hH aG fun st hH=>?_;dsimp only[u2,u1,u3,u4,setMany,u5,u6,D.cells,Nat.reduceAdd,dO] at hH;refine zQ 1 ?_;have hH:Has N S st (.box kt (.mem 0 false [xt])::.aD xt 2 (T.map cT)::.box k9 (.mem 0 false (dO p))::.aD y 1 (out.map dI)::H):=Has.Fk [_] [_,_] hH;refine zQ 5 ?_;refine qv (F8 _) ?_;refine zQ 2 ?_
  cases hb:pU p.nm with
  |false=>
   have qJ:cC (p::l.drop (i+1)) i T out=.error (14,i):=by unfold cC;rw[if_pos hb]
   refine ag.cond (v:=true) (by dsimp only[Fr.ev,Fr.get,nth,V.look];rfl) (fun _=>?_) (fun h=>by cases h);refine zQ 8 ?_;refine ag.ret ⟨rx,_,_,_,rfl,rfl,?_⟩;rw[←Bu,qJ];exact⟨rfl,hH.drop 4⟩
  |true=>
   refine ag.cond (v:=false) (by dsimp only[Fr.ev,Fr.get,nth,V.look];rfl) (fun h=>by cases h) (fun _=>?_);refine zQ 1 ?_;obtain⟨QV,QK,RH,s8⟩:=Cm (key:=p.nm) (v:=(i:Nat)) hH hF (by omega);refine zQ 7 ?_;refine qv (Ev.jK rfl RH) ?_;refine zQ 2 ?_;have hH:=s8
   cases Mz:cP T p.nm with
   |true=>
    have qJ:cC (p::l.drop (i+1)) i T out=.error (8,i):=by unfold cC;rw[if_neg (by rw[hb];simp),if_pos Mz]
    refine ag.cond (v:=true) (by dsimp only[Fr.ev,Fr.get,nth,V.look];rfl) (fun _=>?_) (fun h=>by cases h);refine zQ 8 ?_;refine ag.ret ⟨rx,_,_,_,rfl,rfl,?_⟩;rw[←Bu,qJ];exact⟨rfl,hH.drop 4⟩
   |false=>
    refine ag.cond (v:=false) (by dsimp only[Fr.ev,Fr.get,nth,V.look];rfl) (fun h=>by cases h) (fun _=>?_);refine zQ 1 ?_;obtain⟨MP,HS,ka⟩:=uZ QV;refine zQ 4 ?_;refine ae.dz rfl rfl MP (aa rfl _) ?_;refine zQ 14 ?_
    by_cases he:(bA p.tx).2.1=0
    ·have hc:((bA p.tx).2.1 !=0)=false:=by rw[he];rfl
     have qJ:cC (p::l.drop (i+1)) i T out=cC (l.drop (i+1)) (i+1) (iK T p.nm i) (out++[dg (bA p.tx).1]):=by
      conv=>lhs;unfold cC
      rw[if_neg (by rw[hb];simp),if_neg (by rw[Mz];simp),if_neg (fun h=>h he)]
     rw[qJ] at Bu;have Cd:=fun st=>wy (s0:=st) (ml HS) HS ka;have kU:=x7 T p.nm (i:Nat);refine qE rfl (by rw[hc]) ?_;refine zQ 4 ?_;refine qv (Cd _) ?_;refine qh (s:=1) (vs:=[_]) hH fun k48 st SJ hH=>?_;dsimp only[u2,u1,u3,u4,setMany,u5,u6,D.cells,Nat.reduceAdd,dO] at hH;refine ae.cj (s:=1) hH rfl (ev rfl) (ev rfl) eo (hH.rows aG) rfl rfl rfl rfl rfl rfl rfl ⟨(Nat.le_of_ble_eq_true rfl),(Nat.le_of_ble_eq_true rfl)⟩ (fun _=>(aa rfl _)) (by simp only[List.length_map,List.length_cons,List.length_nil];omega) (.inl hF) gA (fun QO st gA hH=>?_);dsimp only[u1,u2] at hH;refine zQ 2 ?_;have hH:=(hH.drop 1).erase 2;refine zQ 4 ?_;exact⟨mm-1,by omega,⟨i+1,QK,QO,iK T p.nm (i:Nat),out++[dg (bA p.tx).1],rfl,(by rw[List.map_append];exact hH),by omega,by omega,(by rw[List.length_append];simp only[List.length_cons,List.length_nil];omega),Bu,gA⟩⟩
    ·have hc:((bA p.tx).2.1 !=0)=true:=by simpa using he
     have qJ:cC (p::l.drop (i+1)) i T out=.error ((bA p.tx).2.1,i):=by
      conv=>lhs;unfold cC
      rw[if_neg (by rw[hb];simp),if_neg (by rw[Mz];simp),if_pos he]
     refine qD rfl (by rw[hc]) ?_;refine zQ 9 ?_;refine ag.ret ⟨rx,_,_,_,rfl,rfl,?_⟩;rw[←Bu,qJ];exact⟨rfl,hH.drop 4⟩
 ·refine zQ 1 ?_;have Lz:i=l.length:=by omega
  rw[Lz,List.drop_length] at Bu;refine zQ 9 ?_;refine ag.ret ⟨rx,_,_,_,rfl,rfl,?_⟩;rw[←Bu];exact⟨y,kt,xt,rfl,hH⟩
def tV (l:List oJ):D:=.sl ((l.map dO).map (jn 2))
theorem CS (l:List oJ):(∀e∈l.map dO,∀d∈e,lj d=true)∧(l.map dO).map (·.map lO)=l.map dO:=by
 constructor
 ·intro e he d hd;obtain⟨q,hq,rfl⟩:=List.mem_map.1 he;simp only[dO,List.mem_cons,List.not_mem_nil,or_false] at hd
  rcases hd with rfl|rfl<;>rfl
 ·rw[List.map_map];rfl
theorem sy (l:List oJ):∀e∈l.map dO,∀d∈e,bK d=true:=by
 intro e he d hd;obtain⟨q,hq,rfl⟩:=List.mem_map.1 he;simp only[dO,List.mem_cons,List.not_mem_nil,or_false] at hd
 rcases hd with rfl|rfl<;>rfl
theorem Fv (l:List oJ):∀e∈l.map dO,e.length=2:=by
 intro e he;obtain⟨q,hq,rfl⟩:=List.mem_map.1 he;rfl
theorem Hn (l:List oJ):eZ (tV l) 2 (l.map dO):=eZ.frozen (Fv l) (sy l)
def lJ (fr:Go.V.Fr) (k:Nat):Go.V.D:=Go.V.nth .aY fr.loc k
theorem y3 {s0:St} {x:D} {l:List oJ} {cont:List UInt8} (hx:V.Rows s0 2 x (l.map dO)) (hl:l.length≤1048576):Ev pv 10 [.agg [x,.str cont]] s0 (.agg [tV l,.str cont]) s0:=by
 have KJ:=gi hx;refine Ev.jL rfl Pl rfl rfl rfl ?_;refine zE ?_;obtain⟨aW,hF,hH⟩:=ri s0;generalize ai .ro s0=S at*;have GM:=Arg.of hx aW;refine zQ 2 ?_;refine qb hH fun k1 st lL hH=>?_;refine qa hH fun k2 st hk2 hH=>?_;refine zQ 1 ?_;have hH:Has s0.bs.length S st (.aD .nul 2 (([]:List oJ).map dO)::.box k2 (.mem 0 false [.nul,.str []])::.box k1 (.mem 0 false [x,.str cont])::[]):=hH.dU 2;refine zQ 4 ?_;refine ae.cj (s:=2) hH rfl (ev rfl) (ev rfl) aG (Arg.rows GM hH) rfl rfl rfl rfl rfl rfl rfl ⟨(Nat.le_of_ble_eq_true rfl),(Nat.le_of_ble_eq_true rfl)⟩ (fun _=>(aa rfl _)) (by simp only[List.length_map,List.length_nil];omega) (.inl hF) (fun k hk=>by simp only[D.ref] at hk;omega) (fun x5 st gA hH=>?_);dsimp only[u1,u2,u6,u4] at hH;refine zQ 1 ?_;refine qT hH b8 (fun st hH=>?_) (hcs:=hH.eO aG);dsimp only[u2,u1,u3,u4,setMany,u5,u6,D.cells,Nat.reduceAdd,dO] at hH;refine zQ 1 ?_;have hH:Has s0.bs.length S st (.aD x5 2 (l.map dO)::.box k2 (.mem 0 false [.nul,.str []])::.box k1 (.mem 0 false [x5,.str cont])::[]):=hH;refine zQ 2 ?_;refine ae.aO (m:=2) hH rfl (ev rfl) (by exact b8) (by dsimp only[List.drop_succ_cons,List.drop_zero,List.take_succ_cons,List.take_zero,dO]<;>rfl) rfl rfl (aa rfl _) ?_;refine qS hH aV fun st hH=>?_;dsimp only[u2,u1,u3,u4,setMany,u5,u6,D.cells,Nat.reduceAdd,dO] at hH;refine zQ 1 ?_;have htl:=CS l;have hfz:=hH.pf (L:=s0.bs.length) (n:=15) aG (fun k hk=>by rw[←aW];exact gA k hk) htl.1 (by decide);rw[htl.2] at hfz;refine ag.ret ⟨rx,_,hH.cB rfl aV rfl,rl aW hH ?_⟩;show(cH (aB st s0.bs.length false 15) [x5,.str cont]).map D.agg=_;simp only[cH,hfz]
 rfl
theorem FH {parts:List (List bn)} (h:∀l∈parts,(∀n∈l,lX n)∧l.length≤500):∀r∈parts.map (fun l=>(⟨pT l,l⟩:Nl)),r.ok:=by
 intro r hr;obtain⟨l,hl,rfl⟩:=List.mem_map.1 hr;exact JD (h l hl).1 (by have:=(h l hl).2;omega)
theorem xl {s0:St} {y:D} {parts:List (List bn)} (h:∀l∈parts,(∀n∈l,lX n)∧l.length≤500) (hl:parts.length≤1048576) (hy:V.Rows s0 1 y (parts.map dI)):Ev pv 12 [y] s0 (mL (cx parts)) s0:=by
 have hr:(parts.map (fun l=>(⟨pT l,l⟩:Nl))).map B6=parts.map dI:=by rw[List.map_map];rfl
 have h1:=y5 (s0:=s0) (x:=y) (rules:=parts.map (fun l=>(⟨pT l,l⟩:Nl))) (by rw[hr];exact hy) (FH h) (by rw[List.length_map];exact hl);have h2:(parts.map (fun l=>(⟨pT l,l⟩:Nl))).map (·.l)=parts:=by rw[List.map_map];exact List.map_id _
 rwa [h2] at h1
noncomputable def Dg (l:List oJ) (cont:List UInt8):Except (Int×Int) (List ir×mY×mY):=
 if 8<l.length then .error (13,8)
 else match cC l 0 [] [] with
 | .error r=>.error (r.1,(r.2:Nat))
 | .ok r=>
  if cont≠[]∧(bA cont).2.1≠0 then .error ((bA cont).2.1,(l.length:Nat))
  else if(cx r.2).e≠0 then .error ((cx r.2).e,(cx r.2).w)
  else if cont≠[]∧(cx [dg (bA cont).1]).e≠0 then .error ((cx [dg (bA cont).1]).e,(l.length:Nat))
  else .ok (r.1,cx r.2,if cont=[] then⟨[],[],0,0⟩ else cx [dg (bA cont).1])
theorem om:∀(l:List oJ) (i:Nat) (T:List ir) (out:List (List bn)) (r:Int×Nat),cC l i T out=.error r→r.1≠0
 |[],i,T,out,r,h=>by cases h
 |p::l,i,T,out,r,h=>by
  unfold cC at h
  split at h
  ·cases h;show(14:Int)≠0;decide
  split at h
  ·cases h;show(8:Int)≠0;decide
  split at h
  ·rename_i he;cases h;exact he
  ·exact om l _ _ _ r h
theorem pI (s0:St):∀(l:List oJ) (i:Nat) (T:List ir) (out:List (List bn)) (r:List ir×List (List bn)),(∀p∈l,p.fit)→(∀l∈out,(∀n∈l,lX n)∧l.length≤500)→cC l i T out=.ok r→(∀l∈r.2,(∀n∈l,lX n)∧l.length≤500)∧r.2.length=out.length+l.length
 |[],i,T,out,r,hf,ho,h=>by cases h;exact⟨ho,rfl⟩
 |p::l,i,T,out,r,hf,ho,h=>by
  unfold cC at h
  split at h
  ·cases h
  split at h
  ·cases h
  split at h
  ·cases h
  ·have uZ:=(nx (s0:=s0) (b:=p.tx) (hf p (List.mem_cons_self ..)).2).2;have hs:=sm uZ.1 uZ.2
   obtain⟨h1,h2⟩:=pI s0 l _ _ _ r (fun q hq=>hf q (List.mem_cons_of_mem _ hq)) (fun k hk=>by
    rcases List.mem_append.1 hk with hk|hk
    ·exact ho k hk
    ·rw[List.mem_singleton.1 hk];exact hs) h
   refine⟨h1,?_⟩;rw[h2,List.length_append,List.length_cons];simp only[List.length_cons,List.length_nil];omega
def CE (l:List oJ) (cont:List UInt8) (R C:mY) (kt:Nat):List D:=[tV l,.str cont]++(Fu R.code R.bp).cs++(if cont=[] then[.nul,.nul] else(Fu C.code C.bp).cs)++[.ptr kt 0 0]
def JL (N:Nat) (S st:St) (H:List bh) (l:List oJ) (cont:List UInt8) (d:D):Except (Int×Int) (List ir×mY×mY)→Prop
 | .error r=>d=.tup [.pnil,.int .i64 r.1,.int .i64 r.2]∧r.1≠0∧Has N S st H
 | .ok r=>∃k kt xt,d=.tup [.ptr k 0 0,.int .i64 0,.int .i64 0]∧Has N S st (.box k (.mem 0 false (CE l cont r.2.1 r.2.2 kt))::.box kt (.mem 0 false [xt])::.aD xt 2 (r.1.map cT)::H)
theorem FO {N:Nat} {S s0:St} {H:List bh} {x:D} {l:List oJ} {cont:List UInt8} (hF:S.flr≤N) (hx:Arg N S 2 x (l.map dO)) (hl:l.length≤100) (jN:∀p∈l,p.fit) (hcl:cont.length≤1048576) (hH:Has N S s0 H):
  ∃d ah,Ev pv 4 [.agg [x,.str cont]] s0 d ah∧JL N S ah H l cont d (Dg l cont):=by
 have KJ:=gi hx.1;refine Ev.kT rfl TR rfl rfl rfl ?_;refine zE ?_;change ag _ _ _ _ s0 _;refine zQ 2 ?_;refine qb hH fun k1 st lL hH=>?_;refine zQ 9 ?_;refine qn ?_;simp only[List.length_map];refine zQ 2 ?_;unfold Dg
 by_cases h8:8<l.length
 ·have hc:decide (((l.length:Nat):Int)>8)=true:=by rw[decide_eq_true_eq];omega
  rw[if_pos h8];refine qD rfl (by rw[hc]) ?_;refine zQ 6 ?_;refine ag.ret ⟨rx,_,_,_,rfl,rfl,?_⟩;exact⟨rfl,by decide,hH.drop 1⟩
 have hc:decide (((l.length:Nat):Int)>8)=false:=by rw[decide_eq_false_iff_not];omega
 rw[if_neg h8];refine qE rfl (by rw[hc]) ?_;refine zQ 1 ?_;obtain⟨d,st1,aF,hP⟩:=A1 (cont:=cont) hF hx hl jN hH
 cases Bu:cC l 0 [] [] with
 |error r=>
  rw[Bu] at hP;obtain⟨rfl,s8⟩:=hP;have hr:=om _ _ _ _ _ Bu;have oC:(r.1 !=0)=true:=by simpa using hr
  refine zQ 2 ?_;refine ae.aO (m:=2) hH rfl (ev rfl) (by exact aG) (by dsimp only[List.drop_succ_cons,List.drop_zero,List.take_succ_cons,List.take_zero,dO,mL,Fu,Pg.d,Pg.cs]<;>rfl) rfl rfl (aa rfl _) ?_;refine qv aF ?_;have hH:=s8;refine zQ 16 ?_;refine qD rfl (by rw[oC]) ?_;refine zQ 8 ?_;refine ag.ret ⟨rx,_,_,_,rfl,rfl,?_⟩;exact⟨rfl,hr,hH.drop 1⟩
 |ok r=>
  rw[Bu] at hP;obtain⟨y,kt,xt,rfl,s8⟩:=hP;obtain⟨T,out⟩:=r;obtain⟨Ke,Kd⟩:=pI s0 _ _ _ _ _ jN (by intro k hk;cases hk) Bu;dsimp only at Ke Kd s8⊢;have EX:out.length=l.length:=by rw[Kd];simp
  refine zQ 2 ?_;refine ae.aO (m:=2) hH rfl (ev rfl) (by exact aG) (by dsimp only[List.drop_succ_cons,List.drop_zero,List.take_succ_cons,List.take_zero,dO,mL,Fu,Pg.d,Pg.cs]<;>rfl) rfl rfl (aa rfl _) ?_;refine qv aF ?_;have hH:=s8;refine zQ 16 ?_;refine ag.cond (v:=false) (by dsimp only[Fr.ev,Fr.get,nth,V.look];rfl) (fun h=>by cases h) (fun _=>?_);refine zQ 1 ?_;have Tj:=fun st (h:V.Rows st 2 x (l.map dO))=>y3 (s0:=st) (cont:=cont) h (by omega);refine zQ 2 ?_;refine ae.aO (m:=2) hH rfl (ev rfl) (by exact dw) (by dsimp only[List.drop_succ_cons,List.drop_zero,List.take_succ_cons,List.take_zero,dO,mL,Fu,Pg.d,Pg.cs]<;>rfl) rfl rfl (aa rfl _) ?_;refine qv (Tj _ (hx.rows hH)) ?_;refine qm ?_;refine ae.go (d:=.agg [tV l,.str cont,.nul,.nul,.nul,.nul,.ptr kt 0 0]) (st1:=_) rfl rfl rfl (aa rfl _) ?_;refine qb hH fun k30 st SM hH=>?_;refine zQ 13 ?_;have uZ:=fun st=>nx (s0:=st) (b:=cont) hcl;have DE:=(uZ s0).2;refine ag.merge (fun fr st=>∃(cd:D) (tmp:List (Nat×D)),fr=⟨11,[lJ fr 0,.ptr k1 0 0,lJ fr 2,lJ fr 3,lJ fr 4,y,.ptr kt 0 0,lJ fr 7,lJ fr 8,.ptr k30 0 0,cd],tmp⟩∧Has N S st (.box k30 (.mem 0 false [tV l,.str cont,.nul,.nul,.nul,.nul,.ptr kt 0 0])::.box kt (.mem 0 false [xt])::.aD xt 2 (T.map cT)::.aD y 1 (out.map dI)::.box k1 (.mem 0 false [x,.str cont])::H)∧(cont≠[]→(bA cont).2.1=0∧cd=pT (bA cont).1)) ?_ ?_
  ·by_cases xK:cont=[]
   ·have fJ:(!(cont==[]))=false:=by rw[xK];rfl
    refine ag.cond (v:=false) (by dsimp only[Fr.ev,Fr.get,nth,V.look];exact congrArg D.bool fJ) (fun h=>by cases h) (fun _=>?_);refine zQ 1 ?_;exact⟨.nul,_,rfl,hH,(fun h=>absurd xK h)⟩
   ·have fJ:(!(cont==[]))=true:=by simpa using xK
    refine ag.cond (v:=true) (by dsimp only[Fr.ev,Fr.get,nth,V.look];exact congrArg D.bool fJ) (fun _=>?_) (fun h=>by cases h);refine zQ 4 ?_;refine ae.dz rfl rfl (uZ _).1 (aa rfl _) ?_;refine zQ 12 ?_
    by_cases he:(bA cont).2.1=0
    ·have BC:((bA cont).2.1 !=0)=false:=by rw[he];rfl
     refine qE rfl (by rw[BC]) ?_;refine zQ 1 ?_;exact⟨pT (bA cont).1,_,rfl,hH,(fun _=>⟨he,rfl⟩)⟩
    ·have BC:((bA cont).2.1 !=0)=true:=by simpa using he
     rw[if_pos ⟨xK,he⟩];refine qD rfl (by rw[BC]) ?_;refine zQ 5 ?_;refine qn ?_;simp only[List.length_map];refine zQ 4 ?_;refine ag.ret ⟨rx,_,_,_,rfl,rfl,?_⟩;exact⟨rfl,he,hH.drop 5⟩
  rintro fr st ⟨cd,tmp,hfr,hH,w5⟩;rw[hfr];clear hfr;generalize lJ fr=ee;clear fr;rw[if_neg (fun h=>h.2 (w5 h.1).1)];have Tn:=fun st (h:V.Rows st 1 y (out.map dI))=>xl Ke (by omega) h;refine zQ 5 ?_;refine qv (Tn _ (hH.rows dw)) ?_;refine zQ 6 ?_;refine qT hH aG fun st hH=>?_;dsimp only[u2,u1,u3,u4,setMany,u5,u6,D.cells,Nat.reduceAdd,dO,mL,Fu,Pg.d,Pg.cs] at hH;refine zQ 8 ?_
  by_cases BC:(cx out).e=0
  ·have hcb:((cx out).e !=0)=false:=by rw[BC];rfl
   rw[if_neg (fun h=>h BC)];refine qE rfl (by rw[hcb]) ?_;refine zQ 8 ?_
   by_cases xK:cont=[]
   ·have fJ:(!(cont==[]))=false:=by rw[xK];rfl
    rw[if_neg (fun h=>h.1 xK),if_pos xK];refine ag.cond (v:=false) (by dsimp only[Fr.ev,Fr.get,nth,V.look];exact congrArg D.bool fJ) (fun h=>by cases h) (fun _=>?_);refine zQ 8 ?_;refine ag.ret ⟨rx,_,_,_,rfl,rfl,?_⟩;refine⟨k30,kt,xt,rfl,?_⟩;unfold CE;rw[if_pos xK];exact(hH.erase 3).erase 3
   ·have fJ:(!(cont==[]))=true:=by simpa using xK
    obtain⟨he,rfl⟩:=w5 xK;have Cd:=fun st=>wy (s0:=st) (ml DE.1) DE.1 DE.2;have RQ:=sm DE.1 DE.2;have NX:=fun st (z:D) (h:V.Rows st 1 z ([dg (bA cont).1].map dI))=>xl (parts:=[dg (bA cont).1]) (fun k hk=>by rw[List.mem_singleton.1 hk];exact RQ) (by simp) h;refine ag.cond (v:=true) (by dsimp only[Fr.ev,Fr.get,nth,V.look];exact congrArg D.bool fJ) (fun _=>?_) (fun h=>by cases h);refine zQ 4 ?_;refine qv (Cd _) ?_;refine qh (s:=1) (vs:=[_]) hH fun k67 st SH hH=>?_;refine qv (NX _ _ (hH.rows aG)) ?_;refine zQ 6 ?_;refine qT hH aV fun st hH=>?_;dsimp only[u2,u1,u3,u4,setMany,u5,u6,D.cells,Nat.reduceAdd,dO,mL,Fu,Pg.d,Pg.cs] at hH;refine zQ 7 ?_
    by_cases oC:(cx [dg (bA cont).1]).e=0
    ·have yQ:((cx [dg (bA cont).1]).e !=0)=false:=by rw[oC];rfl
     rw[if_neg (fun h=>h.2 oC),if_neg xK];refine qE rfl (by rw[yQ]) ?_;refine zQ 8 ?_;refine ag.ret ⟨rx,_,_,_,rfl,rfl,?_⟩;refine⟨k30,kt,xt,rfl,?_⟩;unfold CE;rw[if_neg xK];exact((hH.drop 1).erase 3).erase 3
    ·have yQ:((cx [dg (bA cont).1]).e !=0)=true:=by simpa using oC
     rw[if_pos ⟨xK,oC⟩];refine qD rfl (by rw[yQ]) ?_;refine zQ 5 ?_;refine qn ?_;simp only[List.length_map];refine zQ 4 ?_;refine ag.ret ⟨rx,_,_,_,rfl,rfl,?_⟩;exact⟨rfl,oC,hH.drop 6⟩
  ·have hcb:((cx out).e !=0)=true:=by simpa using BC
   rw[if_pos BC];refine qD rfl (by rw[hcb]) ?_;refine zQ 8 ?_;refine ag.ret ⟨rx,_,_,_,rfl,rfl,?_⟩;exact⟨rfl,BC,hH.drop 5⟩
def HB (fr:Go.V.Fr) (k:Nat):Go.V.D:=Go.V.nth .aY fr.loc k
theorem FP {N:Nat} {S s0:St} {H:List bh} (hF:S.flr≤N) (hH:Has N S s0 H):∃d ah,Ev pv 18 [] s0 d ah∧∃k,d=.ptr k 0 0∧Has N S ah (.box k (.mem 0 false [.int .i64 0,.bool false])::H):=by
 refine Ev.kT rfl Pb rfl rfl rfl ?_;refine zE ?_;change ag _ _ _ _ s0 _;refine zQ 7 ?_;refine qb hH fun k2 st hk2 hH=>?_;refine zQ 2 ?_;refine ag.ret ⟨rx,_,_,_,rfl,rfl,?_⟩;exact⟨_,rfl,hH⟩
theorem Dl {N:Nat} {S s0:St} {H:List bh} {k n:Nat} {lg:Bool} {c:UInt8} (hF:S.flr≤N) (hn:n≤1000000) (hH:Has N S s0 (.box k (.mem 0 false [.int .i64 (n:Nat),.bool lg])::H)):
  ∃d ah,Ev pv 19 [.ptr k 0 0,.int .u8 (c.toNat:Nat)] s0 d ah∧d=.int .i64 ((zW c n lg).1:Nat)∧Has N S ah (.box k (.mem 0 false [.int .i64 ((zW c n lg).2.1:Nat),.bool (zW c n lg).2.2])::H):=by
 unfold zW
 cases lg with
 |true=>
  refine Ev.kT rfl K6 rfl rfl rfl ?_;refine zE ?_;change ag _ _ _ _ s0 _;refine zQ 20 ?_
  by_cases rP:c.toNat=10
  ·have hcb:(((c.toNat:Nat):Int)==10)=true:=by simp;omega
   rw[if_pos rP];refine qD rfl (by rw[hcb]) ?_;refine zQ 6 ?_;refine qT hH aG fun st hH=>?_;dsimp only[u2,u1,u3,u4,setMany,u5,u6,D.cells,Nat.reduceAdd] at hH;refine zQ 2 ?_;refine qT hH aG fun st hH=>?_;dsimp only[u2,u1,u3,u4,setMany,u5,u6,D.cells,Nat.reduceAdd] at hH;refine zQ 11 ?_;refine ag.ret ⟨rx,_,_,_,rfl,rfl,?_⟩;exact⟨rfl,hH⟩
  ·have hcb:(((c.toNat:Nat):Int)==10)=false:=by simp;omega
   rw[if_neg rP];refine qE rfl (by rw[hcb]) ?_;refine zQ 10 ?_;refine ag.ret ⟨rx,_,_,_,rfl,rfl,?_⟩;exact⟨rfl,hH⟩
 |false=>
  refine Ev.kT rfl K6 rfl rfl rfl ?_;refine zE ?_;change ag _ _ _ _ s0 _;refine zQ 20 ?_
  by_cases rP:c.toNat=10
  ·have hcb:(((c.toNat:Nat):Int)==10)=true:=by simp;omega
   rw[if_pos rP];refine qD rfl (by rw[hcb]) ?_;refine zQ 6 ?_;refine qT hH aG fun st hH=>?_;dsimp only[u2,u1,u3,u4,setMany,u5,u6,D.cells,Nat.reduceAdd] at hH;refine zQ 2 ?_;refine qT hH aG fun st hH=>?_;dsimp only[u2,u1,u3,u4,setMany,u5,u6,D.cells,Nat.reduceAdd] at hH;refine zQ 12 ?_;refine ag.ret ⟨rx,_,_,_,rfl,rfl,?_⟩;exact⟨rfl,hH⟩
  ·have hcb:(((c.toNat:Nat):Int)==10)=false:=by simp;omega
   rw[if_neg rP];refine qE rfl (by rw[hcb]) ?_;refine zQ 15 ?_
   by_cases h2:200≤n
   ·have yQ:decide (((n:Nat):Int)≥200)=true:=by rw[decide_eq_true_eq];omega
    rw[if_neg (by simp),if_pos h2];refine qD rfl (by rw[yQ]) ?_;refine zQ 6 ?_;refine qT hH aG fun st hH=>?_;dsimp only[u2,u1,u3,u4,setMany,u5,u6,D.cells,Nat.reduceAdd] at hH;refine zQ 2 ?_;refine qT hH aG fun st hH=>?_;dsimp only[u2,u1,u3,u4,setMany,u5,u6,D.cells,Nat.reduceAdd] at hH;refine zQ 5 ?_;refine ag.ret ⟨rx,_,_,_,rfl,rfl,?_⟩;exact⟨rfl,hH⟩
   ·have yQ:decide (((n:Nat):Int)≥200)=false:=by rw[decide_eq_false_iff_not];omega
    rw[if_neg (by simp),if_neg h2];refine qE rfl (by rw[yQ]) ?_;refine zQ 7 ?_;refine ae.cS (z:=((n+1:Nat):Int)) rfl (ev rfl) (ev rfl) (by(try simp only[List.length_reverse,List.length_cons,List.length_nil,List.length_append,List.length_map,List.length_set]);rw[wrap_i64 (by omega) (by omega)]<;>omega) (aa rfl _) ?_;refine zQ 2 ?_;refine qT hH aG fun st hH=>?_;dsimp only[u2,u1,u3,u4,setMany,u5,u6,D.cells,Nat.reduceAdd] at hH;refine zQ 5 ?_;refine ag.ret ⟨rx,_,_,_,rfl,rfl,?_⟩;exact⟨rfl,hH⟩
theorem uq {N:Nat} {S st:St} {H:List bh} {k:Nat} {cs:List D} (hH:Has N S st H) (hk:k<N) (h:S.bs[k]?=some (.mem 0 false cs)) (o:Nat):jl st (.ptr k 0 o) (cs.drop o):=
 .inl ⟨k,0,o,false,_,rfl,St.mem_of (by rw[hH.ex.low k hk];exact h),List.take_length ..⟩
def oU (c0 c1:D) (J:Bool) (tx x:D) (f t:Nat) (op:Bool):List D:=[c0,c1,.bool J,tx,x,.int .i64 (f:Nat),.int .i64 (t:Nat),.bool false,.bool op]
theorem rk {N:Nat} {S s0:St} {H:List bh} {k:Nat} {c0 c1 tx x:D} {J:Bool} {O:List Sp} {f t:Nat} {op:Bool} (hF:S.flr≤N) (hO:O.length≤1000000) (hH:Has N S s0 (.box k (.mem 0 false (oU c0 c1 J tx x f t op))::.aD x 3 (O.map ly)::H)):
  ∃d ah,Ev pv 21 [.ptr k 0 0] s0 d ah∧d=.tup []∧∃x',Has N S ah (.box k (.mem 0 false (oU c0 c1 J tx x' 0 0 false))::.aD x' 3 ((if op then O++[⟨f,t,false⟩] else O).map ly)::H):=by
 unfold oU at hH⊢;refine Ev.kT rfl O' rfl rfl rfl ?_;refine zE ?_;change ag _ _ _ _ s0 _;refine zQ 8 ?_;refine ag.merge (fun fr st=>∃(y:D) (tmp:List (Nat×D)),fr=⟨1,[.ptr k 0 0],tmp⟩∧Has N S st (.box k (.mem 0 false [c0,c1,.bool J,tx,y,.int .i64 (f:Nat),.int .i64 (t:Nat),.bool false,.bool op])::.aD y 3 ((if op then O++[⟨f,t,false⟩] else O).map ly)::H)∧(True)) ?_ ?_
 ·cases op with
  |true=>
   refine zQ 10 ?_;refine ae.aO (m:=3) hH rfl (ev rfl) (by exact aG) (by dsimp only[List.drop_succ_cons,List.drop_zero,List.take_succ_cons,List.take_zero,ly,oU]<;>rfl) rfl rfl (aa rfl _) ?_;refine qh (s:=3) (vs:=[_]) hH fun k15 st SR hH=>?_;refine ae.dh (s:=3) hH rfl (ev rfl) (ev rfl) (by exact b8) (by exact hH.rows (by exact aG)) rfl rfl rfl rfl rfl rfl rfl ⟨(Nat.le_of_ble_eq_true rfl),(Nat.le_of_ble_eq_true rfl)⟩ (fun _=>(aa rfl _)) (by simp only[List.length_cons,List.length_nil,List.length_map]<;>omega) (by exact .inl hF) (fun T0 st hH=>?_);dsimp only[u2,u1,u3,u4,setMany,u5,u6,D.cells,Nat.reduceAdd,ly,oU] at hH;refine zQ 2 ?_;refine qT hH aV (fun st hH=>?_) (hcs:=hH.eO b8);dsimp only[u2,u1,u3,u4,setMany,u5,u6,D.cells,Nat.reduceAdd,ly,oU] at hH;refine zQ 1 ?_;exact⟨_,_,rfl,(by rw[if_pos rfl,List.map_append];exact hH.drop 1),trivial⟩
  |false=>
   refine zQ 2 ?_;exact⟨x,_,rfl,(by rw[if_neg (by simp)];exact hH),trivial⟩
 ·rintro fr st ⟨y,tmp,hfr,hH,ht⟩;rw[hfr];clear hfr;generalize HB fr=ee;clear fr;refine zQ 6 ?_;refine qT hH aG fun st hH=>?_;dsimp only[u2,u1,u3,u4,setMany,u5,u6,D.cells,Nat.reduceAdd,ly,oU] at hH;refine zQ 2 ?_;refine qT hH aG fun st hH=>?_;dsimp only[u2,u1,u3,u4,setMany,u5,u6,D.cells,Nat.reduceAdd,ly,oU] at hH;refine zQ 1 ?_;refine⟨fun i h=>(by cases h),_,_,_,rfl,rfl,?_⟩;exact⟨rfl,y,hH⟩
theorem D9 {k:Nat} {c0 c1 tx x:D} {f t:Nat} {op:Bool} {fr to:Nat} {s0:St} (hk:s0.bs[k]?=some (.mem 0 false (oU c0 c1 false tx x f t op))) (gU:k<s0.bs.length):Ev pv 40 [.ptr k 0 0,.int .i64 (fr:Nat),.int .i64 (to:Nat)] s0 (.bool false) s0:=by
 unfold oU at hk;refine Ev.jL rfl OW rfl rfl rfl ?_;refine zE ?_;obtain⟨aW,hF,hH⟩:=ri s0;generalize ai .ro s0=S at*;have hk2:=fun(st:St) (H:List bh) (h:Has s0.bs.length S st H) (o:Nat)=>uq h gU (by rw[aW];exact hk) o;refine zQ 4 ?_;have Ut:=hk2 _ _ hH 8;have F3:=hk2 _ _ hH 2;have Uv:=hk2 _ _ hH 5
 cases op with
 |true=>
  have fY:(!true)=false:=rfl;have gu:(!false)=true:=rfl;refine zQ 31 ?_;refine ag.ret ⟨rx,_,rfl,rl aW hH (rfl)⟩
 |false=>
  have fY:(!false)=true:=rfl;have gu:(!false)=true:=rfl;refine zQ 31 ?_;refine ag.ret ⟨rx,_,rfl,rl aW hH (rfl)⟩
theorem Dh {N:Nat} {S s0:St} {H:List bh} {k:Nat} {c0 c1 tx x:D} {O:List Sp} {f t:Nat} {op:Bool} {fr to:Nat} (hF:S.flr≤N) (hO:O.length≤1000000) (hop:op=false) (hH:Has N S s0 (.box k (.mem 0 false (oU c0 c1 false tx x f t op))::.aD x 3 (O.map ly)::H)):
  ∃d ah,Ev pv 20 [.ptr k 0 0,.int .i64 (fr:Nat),.int .i64 (to:Nat)] s0 d ah∧d=.tup []∧∃x',Has N S ah (.box k (.mem 0 false (oU c0 c1 false tx x' 0 0 false))::.aD x' 3 ((O++[(⟨fr,to,false⟩:Sp)]).map ly)::H):=by
 refine Ev.kT rfl Pa rfl rfl rfl ?_;refine zE ?_;change ag _ _ _ _ s0 _;subst hop;have Ta:=D9 (fr:=fr) (to:=to) (hH.at aG) (hH.ge aG).2;refine zQ 6 ?_;refine ae.dz rfl rfl Ta (aa rfl _) ?_;refine zQ 3 ?_;obtain⟨_,st,aF,rfl,x1,hH⟩:=rk hF hO hH;rw[if_neg (by simp)] at hH;refine zQ 3 ?_;refine qv aF ?_;refine zQ 1 ?_;unfold oU at hH;refine zQ 9 ?_;refine qT hH aG fun st hH=>?_;dsimp only[u2,u1,u3,u4,setMany,u5,u6,D.cells,Nat.reduceAdd,ly,oU] at hH;refine zQ 2 ?_;refine qT hH aG fun st hH=>?_;dsimp only[u2,u1,u3,u4,setMany,u5,u6,D.cells,Nat.reduceAdd,ly,oU] at hH;refine zQ 10 ?_;obtain⟨_,st,aF,rfl,x2,hH⟩:=rk (J:=false) (op:=true) hF hO hH;rw[if_pos rfl] at hH;refine zQ 2 ?_;refine qv aF ?_;refine zQ 1 ?_;refine⟨fun i h=>(by cases h),_,_,_,rfl,rfl,?_⟩;exact⟨rfl,x2,hH⟩
def a_ (fr:Go.V.Fr) (k:Nat):Go.V.D:=Go.V.nth .aY fr.loc k
theorem Has.LO {N:Nat} {S st:St} {H:List bh} {j s:Nat} {x:D} {es:List (List D)} (h:Has N S st H) (hj:H[j]?=some (.aD x s es)):x.ref≤st.bs.length:=by
 rcases hx:x.ref with _|k
 ·omega
 ·have:=((h.ok j _ hj).2 k hx).2;omega
theorem Has.Hk {P:Pv} {N:Nat} {S st:St} {H:List bh} {fr:Fr} {a k aq off j u u2:Nat} {t:TypeId} {ar:Bool} {c:List D} {d e e2:D} (hH:Has N S st H) (he:fr.get u=e) (ha:fr.get a=.ptr k aq off) (hj:H[j]?=some (.box k (.mem aq ar c))) (hd:cU P t (c.drop off)=some d) (xI:fr.get u2=e2):iL P fr st [.tmp u,.cell a t,.tmp u2]=some [e,d,e2]:=by
 simp only[iL,fv,ha,St.mem_of (hH.at hj),Option.bind_some,hd,Option.map_some,he,xI]
def G0 (i:aT):aT:=⟨i.op,i.x,i.y,.sl ((i.rs.map av).map (jn 2)),i.rs⟩
theorem Iw {i:aT} (h:i.ok):(G0 i).ok:=⟨eZ.frozen (nv _) (dX _),h.2⟩
def Ix (q:aT):List D:=bS (G0 q)
theorem D_ {s0:St} {p:Pg} (hp:p.ok):∃d,Ev pv 39 [p.d] s0 d s0∧∃q:Pg,d=q.d∧q.ok∧q.code=p.code.map G0∧q.bp=p.bp:=by
 refine Ev.Bd rfl OX rfl rfl rfl ?_;refine zE ?_;obtain⟨aW,hF,hH⟩:=ri s0;generalize ai .ro s0=S at*;have hc:=hp.c.arg s0.bs.length S;have hs:=hp.s.arg s0.bs.length S;have hlen:=hp.cl;have MC:=hp.sl;unfold Pg.d;refine zQ 2 ?_;refine qb hH fun k1 st lL hH=>?_;dsimp only[u2,u1,u3,u4,setMany,u5,u6,D.cells,Nat.reduceAdd,Pg.cs,bS,az] at hH;refine qa hH fun k2 st hk2 hH=>?_;refine zQ 1 ?_;have hH:=hH.dU 1;refine zQ 4 ?_;refine qP hH aG (Arg.rows (by assumption) hH) fun x8 st hH=>?_;dsimp only[u2,u1,u3,u4,setMany,u5,u6,D.cells,Nat.reduceAdd,Pg.cs,bS,az] at hH;refine ae.gE (qs:=[(1,_)]) rfl rfl rfl rfl ⟨rfl,(ev rfl),(by exact hH.eO (by exact aG)),trivial⟩ (by intro q hq;simp only[List.mem_cons,List.not_mem_nil,or_false] at hq;rcases hq with rfl<;>exact⟨rfl,by exact Nat.le_of_ble_eq_true rfl⟩) (by show List.foldl _ [_,_] _=_;dsimp only[List.foldl_cons,List.foldl_nil,u2,u1]<;>rfl) (by dsimp only[Fr.put,u1,u2]<;>rfl) ?_;refine qa hH fun k3 st Ib hH=>?_;refine qS hH aG fun st hH=>?_;dsimp only[u2,u1,u3,u4,setMany,u5,u6,D.cells,Nat.reduceAdd,Pg.cs,bS,az] at hH;refine zQ 1 ?_;have hH:=hH.JC 4;refine zQ 5 ?_;refine qn ?_;simp only[List.length_map];refine zQ 3 ?_;refine ag.loop (fun mm fr st=>∃(i:Nat) (y:D) (ks:Nat→Prop),fr.clean=⟨14,[a_ fr 0,.ptr k1 0 0,.ptr k2 0 0,.ptr k3 0 0,a_ fr 4,a_ fr 5,a_ fr 6,a_ fr 7,a_ fr 8,a_ fr 9,a_ fr 10,p.cd,.int .i64 (p.code.length:Nat),.int .i64 (i:Nat)],[]⟩∧Has s0.bs.length S st [.deep ks y 4 ((p.code.take i).map Ix),.box k3 (.mem 0 false [y,x8]),.aD x8 1 (p.bp.map az),.box k2 (.mem 0 false [.nul,.nul]),.box k1 (.mem 0 false [p.cd,p.sd])]∧(i+mm=p.code.length)) (p.code.length) ?_ ?_
 ·exact⟨0,.nul,_,rfl,hH,by omega⟩
 rintro mm fr st ⟨i,y,ks,hfr,hH,hi⟩;rw[hfr];clear hfr;generalize a_ fr=ee;clear fr;refine zQ 5 ?_;refine zP (fun h1=>?_) fun h1=>?_
 ·refine zQ 1 ?_
  obtain⟨q,hq⟩:∃q,p.code[i]?=some q:=⟨p.code[i]'(by omega),List.getElem?_eq_getElem _⟩
  have hr:=uw hq;have hqo:=hp.i q (List.mem_of_getElem? hq);have xD:=hqo.1;have Qc:=hqo.1.arg s0.bs.length S;have B':=hqo.2;have htl:((p.code.take i).map Ix).length≤1048576:=by rw[List.length_map,List.length_take];omega
  refine zQ 4 ?_;refine qr fun P0 J_=>?_;refine ae.cJ rfl (ev rfl) (by assumption) rfl (aa rfl _) ?_;refine qa hH fun k5 st DQ hH=>?_;refine qS hH aG fun st hH=>?_;dsimp only[u2,u1,u3,u4,setMany,u5,u6,D.cells,Nat.reduceAdd,Pg.cs,bS,az] at hH;refine zQ 1 ?_;have hH:=hH.dU 2;refine zQ 4 ?_;refine ae.dh (s:=2) hH rfl (ev rfl) (ev rfl) (by exact aG) (by exact Arg.rows (by assumption) hH) rfl rfl rfl rfl rfl rfl rfl ⟨(Nat.le_of_ble_eq_true rfl),(Nat.le_of_ble_eq_true rfl)⟩ (fun _=>(aa rfl _)) (by simp only[List.length_nil,List.length_map]<;>omega) (by exact .inl hF) (fun Lm st hH=>?_);dsimp only[u2,u1,u3,u4,setMany,u5,u6,D.cells,Nat.reduceAdd,Pg.cs,bS,az] at hH;refine zQ 1 ?_;refine qT hH aV (fun st hH=>?_) (hcs:=hH.eO aG);dsimp only[u2,u1,u3,u4,setMany,u5,u6,D.cells,Nat.reduceAdd,Pg.cs,bS,az] at hH;refine zQ 4 ?_;refine ae.aO (m:=4) hH rfl (ev rfl) (by exact aV) (by dsimp only[List.drop_succ_cons,List.drop_zero,List.take_succ_cons,List.take_zero,Pg.cs,bS,az]<;>rfl) rfl rfl (aa rfl _) ?_;refine qh (s:=4) (vs:=[_]) hH fun k24 st SO hH=>?_;obtain⟨hH,NW⟩:=hH.EL (i:=1) (j:=3) (by decide) aV dw (dX _);dsimp only[u1,u2] at hH;refine ae.pg hH rfl rfl rfl dw (hH.rows aG) (.cons (.cons (.plain _ rfl) (.cons (.plain _ rfl) (.cons (.plain _ rfl) (.cons NW .nil)))) .nil) rfl rfl rfl rfl rfl rfl rfl ⟨(Nat.le_of_ble_eq_true rfl),(Nat.le_of_ble_eq_true rfl)⟩ (fun _=>(aa rfl _)) (by show _+1≤_;omega) (.inl hF) (fun QT st hH=>?_);dsimp only[u1,u2] at hH;refine zQ 1 ?_;refine ae.uz hH rfl (ev rfl) (ev rfl) (by exact hH.lR (by exact dw)) (by exact rfl) (by exact eo) (by exact Nat.le_of_ble_eq_true rfl) (by exact .inl hF) (fun st hH=>?_);dsimp only[u2,u1,u3,u4,setMany,u5,u6,D.cells,Nat.reduceAdd,Pg.cs,bS,az] at hH;refine zQ 2 ?_;refine ae.cS (z:=((i+1:Nat):Int)) rfl (ev rfl) (ev rfl) (by(try simp only[List.length_reverse,List.length_cons,List.length_nil,List.length_append,List.length_map,List.length_set]);rw[wrap_i64 (by omega) (by omega)]<;>omega) (aa rfl _) ?_;refine zQ 2 ?_;exact⟨mm-1,by omega,⟨i+1,QT,_,rfl,(by rw[List.take_add_one,hq,Option.toList_some,List.map_append];exact hH.drop 3),by omega⟩⟩
 ·refine zQ 3 ?_;refine ae.aO (m:=2) hH rfl (ev rfl) (by exact aV) (by dsimp only[List.drop_succ_cons,List.drop_zero,List.take_succ_cons,List.take_zero,Pg.cs,bS,az]<;>rfl) rfl rfl (aa rfl _) ?_;refine qS hH dw fun st hH=>?_;dsimp only[u2,u1,u3,u4,setMany,u5,u6,D.cells,Nat.reduceAdd,Pg.cs,bS,az] at hH;refine zQ 1 ?_;rw[List.take_of_length_le (by omega)] at hH;have h1:=hH.w8 aG (n:=14) (by decide);have h2:=hH.mG b8 (nH _) (n:=15) (by decide)
  have h3:aB st s0.bs.length false 16 (.agg [y,x8])=some (.agg [.sl ((p.code.map Ix).map (jn 4)),.sl ((p.bp.map az).map (jn 1))]):=by
   show(cH (aB st s0.bs.length false 15) [y,x8]).map D.agg=_;simp only[cH,h1,h2,Option.map_some]
  refine ag.ret ⟨rx,_,_,hH.cB rfl dw rfl,rl aW hH h3,⟨_,p.code.map G0,Dv p.bp,p.bp⟩,rfl,⟨?_,Du _,?_,by simpa using hlen,MC⟩,rfl,rfl⟩
  ·have h0:(p.code.map G0).map bS=p.code.map Ix:=by rw[List.map_map];rfl
   show eZ _ 4 ((p.code.map G0).map bS);rw[h0]
   have h4:∀e∈(p.code.map Ix),e.length=4:=by
    intro e he;obtain⟨q,_,rfl⟩:=List.mem_map.1 he;rfl
   have:=eZ.frozen (s:=4) (es:=p.code.map Ix) h4 (by
    intro e he d hd;obtain⟨q,_,rfl⟩:=List.mem_map.1 he;simp only[Ix,bS,G0,List.mem_cons,List.not_mem_nil,or_false] at hd
    rcases hd with rfl|rfl|rfl|rfl<;>rfl)
   exact this
  ·intro i hi;obtain⟨q,hq,rfl⟩:=List.mem_map.1 hi;exact Iw (hp.i q hq)
theorem AZ:(⟨.nul,[],.nul,[]⟩:Pg).ok:=⟨.inl ⟨rfl,rfl⟩,.inl ⟨rfl,rfl⟩,fun i hi=>(by cases hi),by simp,by simp⟩
theorem Ft {q:Pg} (h:q.ok) (st:St) (N:Nat) (u:Bool):∃q':Pg,aB st N false 16 (.tup [.agg [q.cd,q.sd],.bool u])=some (.tup [q'.d,.bool u])∧q'.ok∧q'.code=q.code∧q'.bp=q.bp:=by
 obtain⟨y1,e1,f1⟩:=h.c.freeze st N 13;obtain⟨y2,e2,f2⟩:=h.s.freeze st N 13;refine⟨⟨y1,q.code,y2,q.bp⟩,?_,⟨f1,f2,h.i,h.cl,h.sl⟩,rfl,rfl⟩;show(cH (aB st N false 15) [.agg [q.cd,q.sd],.bool u]).map D.tup=_
 have h1:aB st N false 15 (.agg [q.cd,q.sd])=some (.agg [y1,y2]):=by
  show(cH (aB st N false 14) [q.cd,q.sd]).map D.agg=_;simp only[cH,e1,e2,Option.map_some]
 have h4:aB st N false 15 (.bool u)=some (.bool u):=rfl;simp only[cH,h1,h4,Option.map_some];rfl
theorem Gq {s0:St} {k:Nat} {pd c1 c2 c5:D} {co:List UInt8} {p:Pg} (hp:p.ok) (hk:s0.bs[k]?=some (.mem 0 false [pd,.str co,c1,c2,p.cd,p.sd,c5])) (gU:k<s0.bs.length) (EW:refs [pd,.str co,c1,c2,p.cd,p.sd,c5]≤s0.bs.length):
  ∃d,Ev pv 17 [.ptr k 0 0] s0 d s0∧∃q:Pg,d=.tup [q.d,.bool (co !=[])]∧q.ok∧q.code=p.code.map G0∧q.bp=p.bp:=by
 have hfr:=fun(st:St)=>D_ (s0:=st) hp;unfold Pg.d at hfr;refine Ev.Bd rfl Pc rfl rfl rfl<|zE ?_;obtain⟨aW,hF,hH⟩:=ri s0;generalize ai .ro s0=S at*;have fX:=fun(st:St) (H:List bh) (h:Has s0.bs.length S st H)=>(h.ex.low k gU).trans (aW▸hk);have ML:=fun(st:St) (H:List bh) (h:Has s0.bs.length S st H)=>Nat.le_trans EW (aW▸h.ex.len:s0.bs.length≤st.bs.length);refine qq<|qj fun K hK=>qa hH fun k2 st hk2 hH=>qm<|qe hK ?_;have hA:=hH;have Uw:=uq hH gU (by rw[aW];exact hk) 4;have wS:=uq hH gU (by rw[aW];exact hk) 1;change ag _ _ _ _ _ _;refine qq ?_;generalize hK:bf _ _ _ _=K;refine ag.Fo rfl<|fm.cons<|qm<|ae.nil ⟨rfl,?_⟩;refine fm.cons<|qg<|ae.nil ⟨rfl,?_⟩;refine fm.cons<|qp (o:=4)<|ae.nil ⟨rfl,?_⟩;refine fm.cons<|qR<|ae.nil ⟨rfl,?_⟩;refine fm.cons ?_;obtain⟨_,aF,q,rfl,wR,Bs,Qf⟩:=hfr st;refine qv aF<|ae.nil ⟨rfl,?_⟩;refine fm.cons<|qm<|ae.nil ⟨rfl,?_⟩;refine fm.cons<|qg<|ae.nil ⟨rfl,?_⟩;refine fm.cons<|qp (o:=0)<|ae.nil ⟨rfl,?_⟩;refine fm.cons<|qp (o:=1)<|ae.nil ⟨rfl,?_⟩;refine fm.cons<|qR<|ae.nil ⟨rfl,?_⟩;refine fm.cons<|qg<|ae.nil ⟨rfl,?_⟩;refine fm.cons<|qS hH aG fun st hH=>?_;dsimp only[u2,u1,u3,u4,setMany,u5,u6,D.cells,Nat.reduceAdd,Pg.cs,bS,az] at hH;refine ae.nil ⟨by exact Bool.and_eq_true_iff.2 ⟨tn rfl rfl rfl (fX _ _ hA) (fX _ _ hH) (fX _ _ hA) (ML _ _ hA),rfl⟩,?_⟩;refine fm.cons<|qm<|ae.nil ⟨rfl,?_⟩;refine fm.nil ?_;subst hK;obtain⟨q',h1,h2,h3,h4⟩:=Ft wR st s0.bs.length (co !=[]);exact ag.ret ⟨rx,_,_,hH.vK rfl aG rfl rfl,rl aW hH h1,q',rfl,h2,h3.trans Bs,h4.trans Qf⟩
theorem EC {y:D} {es:List (List D)} (h:eZ y 1 es):lS pv 71 [(2,y)]=some (.agg [.nul,.nul,.bool false,y,.nul,.int .i64 0,.int .i64 0,.bool false,.bool false]):=by
 rcases h with⟨rfl,_⟩|⟨ds,rfl,_⟩<;>rfl
theorem AO {s0:St} {k:Nat} {pd c1 c2 c5 y:D} {b:List UInt8} (hk:s0.bs[k]?=some (.mem 0 false [pd,.str [],c1,c2,.nul,.nul,c5])) (gU:k<s0.bs.length) (EW:refs [pd,.str [],c1,c2,.nul,.nul,c5]≤s0.bs.length) (hy:eZ y 1 (V.byteCells b)) (hbl:b.length≤900):
  ∃d,Ev pv 8 [.ptr k 0 0,y] s0 d s0∧∃x,d=.tup [x,.agg [.int .i64 0,.int .i64 0,.bool false],.bool false]∧eZ x 3 ((sk b 0 0 0 false).map ly):=by
 have hcl:=dL b;have xK:=fun(st:St) (h:st.bs[k]?=some (.mem 0 false [pd,.str [],c1,c2,.nul,.nul,c5])) (hl:s0.bs.length≤st.bs.length)=>Gq (s0:=st) AZ h (Nat.lt_of_lt_of_le gU hl) (Nat.le_trans EW hl);refine Ev.Bd rfl TO rfl rfl rfl ?_;refine zE ?_;obtain⟨aW,hF,hH⟩:=ri s0;generalize ai .ro s0=S at*;have fX:=fun(st:St) (H:List bh) (h:Has s0.bs.length S st H)=>(h.ex.low k gU).trans (aW▸hk)
 have hle:=fun(st:St) (H:List bh) (h:Has s0.bs.length S st H)=>(aW▸h.ex.len:s0.bs.length≤st.bs.length)
 have Ry:=hy.arg s0.bs.length S;refine qq<|qj fun K hK=>qm ?_;refine qa hH fun k5 st DQ hH=>?_;refine qm ?_;refine qe hK<|qq<|qq<|qj fun K hK=>qm ?_;refine qg ?_;refine qe hK<|qC ?_;refine ag.skip<|qq<|qj fun K hK=>qm ?_;refine ae.go (d:=.agg [.nul,.nul,.bool false,y,.nul,.int .i64 0,.int .i64 0,.bool false,.bool false]) (st1:=_) rfl rfl (by show Option.map _ (lS pv 71 [(2,y)])=_;rw[EC hy];rfl) (by dsimp only[Fr.put,u1,u2]<;>rfl) ?_;refine qb hH fun k17 st KB hH=>?_;refine qm ?_;refine qe hK ?_;obtain⟨_,aF,q,rfl,wR,Bs,Qf⟩:=xK st (fX _ _ hH) (hle _ _ hH);unfold Pg.d Pg.cs at aF;refine qq<|qj fun K hK=>qm ?_;refine qm ?_;refine qm ?_;refine qv aF ?_;refine qm ?_;refine qg ?_;refine qg ?_;refine qg ?_;refine qp (o:=0) ?_;refine qT hH aG fun st hH=>?_;dsimp only[u2,u1,u3,u4,setMany,u5,u6,D.cells,Nat.reduceAdd,ly,oU] at hH;refine qg ?_;refine qp (o:=2) ?_;refine qT hH aG fun st hH=>?_;dsimp only[u2,u1,u3,u4,setMany,u5,u6,D.cells,Nat.reduceAdd,ly,oU] at hH;refine qe hK ?_;have hH:=hH.dU 3;have hH:=Has.Fk [_] [_] hH;dsimp only[u3,u4] at hH;obtain⟨_,st,aF,ks,rfl,hH⟩:=FP hF hH;refine qq<|qj fun K hK=>qv aF ?_;refine qm ?_;refine qe hK<|qq<|qj fun K hK=>qm ?_;refine qe hK<|qq<|qq<|qj fun K hK=>qm ?_;refine qn ?_;refine qm ?_;refine qe hK ?_;rw[hcl];have hlen:=kv b 0 0 0 false;refine ag.block<|ag.loop (fun mm fr st=>∃(i lf n:Nat) (lg:Bool) (x:D) (O:List Sp),fr.clean=⟨40,[.ptr k 0 0,y,a_ fr 2,a_ fr 3,a_ fr 4,.ptr k5 0 0,a_ fr 6,.ptr k17 0 0,.ptr ks 0 0,.int .i64 (lf:Nat),a_ fr 10,a_ fr 11,a_ fr 12,a_ fr 13,a_ fr 14,a_ fr 15,a_ fr 16,a_ fr 17,a_ fr 18,a_ fr 19,a_ fr 20,a_ fr 21,a_ fr 22,a_ fr 23,a_ fr 24,a_ fr 25,a_ fr 26,a_ fr 27,a_ fr 28,a_ fr 29,y,.int .i64 (b.length:Nat),.int .i64 (i:Nat),a_ fr 33,a_ fr 34,a_ fr 35,a_ fr 36,a_ fr 37,a_ fr 38,a_ fr 39],[]⟩∧Has s0.bs.length S st (.box ks (.mem 0 false [.int .i64 (n:Nat),.bool lg])::.box k17 (.mem 0 false [q.cd,q.sd,.bool false,y,x,.int .i64 0,.int .i64 0,.bool false,.bool false])::.aD x 3 (O.map ly)::.box k5 (.mem 0 false [.int .i64 0,.int .i64 0,.bool false])::[])∧(i+mm=b.length)∧(O++sk (b.drop i) i lf n lg=sk b 0 0 0 false)∧(n≤1000)) (b.length) ?_ ?_
 ·exact⟨0,0,0,false,.nul,[],rfl,hH,by omega,by simp,by omega⟩
 rintro mm fr st ⟨i,lf,n,lg,x,O,hfr,hH,hi,hO,hn⟩;rw[hfr];clear hfr;generalize a_ fr=ee;clear fr;refine qq<|qj fun K hK=>qg ?_;refine qe hK<|qq<|zP (fun h1=>?_) fun h1=>?_
 ·refine ag.skip ?_
  obtain⟨c,hc⟩:∃c,b[i]?=some c:=⟨b[i]'(by omega),List.getElem?_eq_getElem _⟩
  have gJ:=iS hc
  have Qy:O.length≤1000000:=by
   have:=congrArg List.length hO;rw[List.length_append] at this;omega
  rw[drop_cons hc,sk] at hO;refine qq<|ag.block<|qq<|qj fun K hK=>qm ?_;refine qr fun Re M6=>?_;refine qR ?_;refine qm ?_;refine qm ?_;refine qe hK ?_;obtain⟨_,st,aF,rfl,hH⟩:=Dl (c:=c) hF (by omega) hH
  by_cases rP:c.toNat=10
  ·rw[if_pos rP] at hO
   cases H8:lg with
   |true=>
    subst H8;have hl:zW c n true=(5,0,false):=by simp[zW,rP]
    rw[hl] at aF hH;refine qq<|qj fun K hK=>qm ?_;refine qm ?_;refine qv aF ?_;refine qe hK<|ag.block<|qq<|qj fun K hK=>qg ?_;refine qm ?_;refine qe hK<|qC ?_;refine qq<|qj fun K hK=>qg ?_;refine qm ?_;refine qe hK<|qC ?_;refine qq<|qj fun K hK=>qg ?_;refine qm ?_;refine qe hK<|qB ?_;refine qj fun K hK=>qm ?_;refine ae.cS (z:=((i+1:Nat):Int)) rfl (ev rfl) (ev rfl) (by(try simp only[List.length_reverse,List.length_cons,List.length_nil,List.length_append,List.length_map,List.length_set]);rw[wrap_i64 (by omega) (by omega)]<;>omega) (aa rfl _) ?_;refine qm ?_;refine qe hK<|qj fun K hK=>?_;refine ae.cS (z:=((i+1:Nat):Int)) rfl (ev rfl) (ev rfl) (by(try simp only[List.length_reverse,List.length_cons,List.length_nil,List.length_append,List.length_map,List.length_set]);rw[wrap_i64 (by omega) (by omega)]<;>omega) (aa rfl _) ?_;refine qm ?_;refine qe hK ?_;exact⟨mm-1,by omega,⟨i+1,i+1,0,false,x,O,rfl,hH,by omega,hO,by omega⟩⟩
   |false=>
    subst H8;have hl:zW c n false=(2,0,false):=by simp[zW,rP]
    rw[hl] at aF hH;refine qq<|qj fun K hK=>qm ?_;refine qm ?_;refine qv aF ?_;refine qe hK<|ag.block<|qq<|qj fun K hK=>qg ?_;refine qm ?_;refine qe hK<|qB ?_;have hH:=Has.Fk [_] [_,_] hH;obtain⟨_,st,aF,rfl,x1,hH⟩:=Dh (fr:=lf) (to:=i) (op:=false) hF Qy rfl hH;have hH:=Has.Fk [_,_] [_] hH;dsimp only[u3,u4] at hH;refine qq<|qj fun K hK=>qm ?_;refine qm ?_;refine qm ?_;refine qv aF ?_;refine qe hK ?_;unfold oU at hH;refine qj fun K hK=>qm ?_;refine ae.cS (z:=((i+1:Nat):Int)) rfl (ev rfl) (ev rfl) (by(try simp only[List.length_reverse,List.length_cons,List.length_nil,List.length_append,List.length_map,List.length_set]);rw[wrap_i64 (by omega) (by omega)]<;>omega) (aa rfl _) ?_;refine qm ?_;refine qe hK<|qj fun K hK=>?_;refine ae.cS (z:=((i+1:Nat):Int)) rfl (ev rfl) (ev rfl) (by(try simp only[List.length_reverse,List.length_cons,List.length_nil,List.length_append,List.length_map,List.length_set]);rw[wrap_i64 (by omega) (by omega)]<;>omega) (aa rfl _) ?_;refine qm ?_;refine qe hK ?_;exact⟨mm-1,by omega,⟨i+1,i+1,0,false,x1,O++[⟨lf,i,false⟩],rfl,hH,by omega,(by rw[←hO];simp),by omega⟩⟩
  ·rw[if_neg rP] at hO
   cases H8:lg with
   |true=>
    subst H8;have hl:zW c n true=(4,n,true):=by simp[zW,rP]
    rw[hl] at aF hH;refine qq<|qj fun K hK=>qm ?_;refine qm ?_;refine qv aF ?_;refine qe hK<|ag.block<|qq<|qj fun K hK=>qg ?_;refine qm ?_;refine qe hK<|qC ?_;refine qq<|qj fun K hK=>qg ?_;refine qm ?_;refine qe hK<|qC ?_;refine qq<|qj fun K hK=>qg ?_;refine qm ?_;refine qe hK<|qC ?_;refine ag.skip<|qj fun K hK=>?_;refine ae.cS (z:=((i+1:Nat):Int)) rfl (ev rfl) (ev rfl) (by(try simp only[List.length_reverse,List.length_cons,List.length_nil,List.length_append,List.length_map,List.length_set]);rw[wrap_i64 (by omega) (by omega)]<;>omega) (aa rfl _) ?_;refine qm ?_;refine qe hK ?_;exact⟨mm-1,by omega,⟨i+1,lf,n,true,x,O,rfl,hH,by omega,hO,by omega⟩⟩
   |false=>
    subst H8;rw[if_neg (by simp)] at hO
    by_cases gr:200≤n
    ·rw[if_pos gr] at hO;have hl:zW c n false=(3,0,true):=by simp[zW,rP,gr]
     rw[hl] at aF hH;refine qq<|qj fun K hK=>qm ?_;refine qm ?_;refine qv aF ?_;refine qe hK<|ag.block<|qq<|qj fun K hK=>qg ?_;refine qm ?_;refine qe hK<|qC ?_;refine qq<|qj fun K hK=>qg ?_;refine qm ?_;refine qe hK<|qB ?_;have hH:=Has.Fk [_] [_,_] hH;obtain⟨_,st,aF,rfl,x1,hH⟩:=rk (op:=false) hF Qy hH;rw[if_neg (by simp)] at hH;have hH:=Has.Fk [_,_] [_] hH;dsimp only[u3,u4] at hH;refine qq<|qj fun K hK=>qm ?_;refine qv aF ?_;refine qe hK ?_;unfold oU at hH;refine qj fun K hK=>qm ?_;refine qm ?_;refine qg ?_;refine qp (o:=4) ?_;refine ql hH aV ?_;refine qm ?_;refine qm ?_;refine qg ?_;refine qh (s:=3) (vs:=[_]) hH fun k60 st SI hH=>?_;dsimp only[u2,u1,u3,u4,setMany,u5,u6,D.cells,Nat.reduceAdd,ly,oU] at hH;refine ae.dh (s:=3) hH rfl (ev rfl) (ev rfl) (by exact dw) (by exact hH.rows (by exact aG)) rfl rfl rfl rfl rfl rfl rfl ⟨(Nat.le_of_ble_eq_true rfl),(Nat.le_of_ble_eq_true rfl)⟩ (fun _=>(aa rfl _)) (by simp only[List.length_cons,List.length_nil,List.length_map]<;>omega) (by exact .inl hF) (fun TW st hH=>?_);dsimp only[u2,u1,u3,u4,setMany,u5,u6,D.cells,Nat.reduceAdd,ly,oU] at hH;refine qg ?_;refine qp (o:=4) ?_;refine qT hH b8 (fun st hH=>?_) (hcs:=hH.eO dw);dsimp only[u2,u1,u3,u4,setMany,u5,u6,D.cells,Nat.reduceAdd,ly,oU] at hH;refine qe hK<|qj fun K hK=>?_;refine ae.cS (z:=((i+1:Nat):Int)) rfl (ev rfl) (ev rfl) (by(try simp only[List.length_reverse,List.length_cons,List.length_nil,List.length_append,List.length_map,List.length_set]);rw[wrap_i64 (by omega) (by omega)]<;>omega) (aa rfl _) ?_;refine qm ?_;refine qe hK ?_;exact⟨mm-1,by omega,⟨i+1,lf,0,true,_,O++[⟨lf,i,true⟩],rfl,(by rw[List.map_append];exact hH.drop 1),by omega,(by rw[←hO];simp),by omega⟩⟩
    ·rw[if_neg gr] at hO;have hl:zW c n false=(1,n+1,false):=by simp[zW,rP,gr]
     rw[hl] at aF hH;refine qq<|qj fun K hK=>qm ?_;refine qm ?_;refine qv aF ?_;refine qe hK<|ag.block<|qq<|qj fun K hK=>qg ?_;refine qm ?_;refine qe hK<|qC ?_;refine qq<|qj fun K hK=>qg ?_;refine qm ?_;refine qe hK<|qC ?_;refine qq<|qj fun K hK=>qg ?_;refine qm ?_;refine qe hK<|qC ?_;refine ag.skip<|qj fun K hK=>?_;refine ae.cS (z:=((i+1:Nat):Int)) rfl (ev rfl) (ev rfl) (by(try simp only[List.length_reverse,List.length_cons,List.length_nil,List.length_append,List.length_map,List.length_set]);rw[wrap_i64 (by omega) (by omega)]<;>omega) (aa rfl _) ?_;refine qm ?_;refine qe hK ?_;exact⟨mm-1,by omega,⟨i+1,lf,n+1,false,x,O,rfl,hH,by omega,hO,by omega⟩⟩
 ·refine ag.exit ?_;have NH:i=b.length:=by omega
  rw[NH,List.drop_length,sk,List.append_nil] at hO;have hA:=hH;have GK:=Has.LO hH b8
  have MJ:refs [q.cd,q.sd,.bool false,y,x,.int .i64 0,.int .i64 0,.bool false,.bool false]≤st.bs.length:=by
   simp only[refs,D.ref,wR.c.ref,wR.s.ref,hy.ref];omega
  change ag _ _ _ _ _ _;refine qq ?_;generalize hK:bf _ _ _ _=K;refine ag.Fo rfl ?_;refine fm.cons ?_;refine qm ?_;refine ae.nil ⟨rfl,?_⟩;refine fm.cons ?_;refine qg ?_;refine ae.nil ⟨rfl,?_⟩;refine fm.cons ?_;refine qp (o:=4) ?_;refine ae.nil ⟨rfl,?_⟩;refine fm.cons ?_;refine ql hH aV ?_;refine ae.nil ⟨rfl,?_⟩;refine fm.cons ?_;refine qm ?_;refine ae.nil ⟨rfl,?_⟩;refine fm.cons ?_;refine qg ?_;refine ae.nil ⟨rfl,?_⟩;refine fm.cons ?_;refine qp (o:=5) ?_;refine ae.nil ⟨rfl,?_⟩;refine fm.cons ?_;refine ae.aO (m:=3) hH rfl (ev rfl) (by exact aV) (by dsimp only[List.drop_succ_cons,List.drop_zero,List.take_succ_cons,List.take_zero,ly,oU]<;>rfl) rfl rfl (aa rfl _) ?_;refine ae.nil ⟨rfl,?_⟩;refine fm.cons ?_;refine qm ?_;refine ae.nil ⟨rfl,?_⟩;refine fm.cons ?_;refine qg ?_;refine ae.nil ⟨rfl,?_⟩;refine fm.cons ?_;refine qp (o:=8) ?_;refine ae.nil ⟨rfl,?_⟩;refine fm.cons ?_;refine ql hH aV ?_;refine ae.nil ⟨rfl,?_⟩;refine fm.cons ?_;refine qm ?_;refine ae.nil ⟨rfl,?_⟩;refine fm.cons ?_;refine qS hH dw fun st hH=>?_;dsimp only[u2,u1,u3,u4,setMany,u5,u6,D.cells,Nat.reduceAdd,ly,oU] at hH;refine ae.nil ⟨by exact Bool.and_eq_true_iff.2 ⟨tn rfl rfl rfl (hA.at aV) (hH.at aV) (hA.at aV) MJ,rfl⟩,?_⟩;refine fm.cons ?_;refine qm ?_;refine ae.nil ⟨rfl,?_⟩;refine fm.nil ?_;subst hK
  have ka:∀e∈O.map ly,∀d∈e,bK d=true:=by
   intro e he d hd;obtain⟨u,_,rfl⟩:=List.mem_map.1 he;simp only[ly,List.mem_cons,List.not_mem_nil,or_false] at hd
   rcases hd with rfl|rfl|rfl<;>rfl
  have Su:∀e∈O.map ly,e.length=3:=by
   intro e he;obtain⟨u,_,rfl⟩:=List.mem_map.1 he;rfl
  have h1:=hH.mG b8 ka (n:=15) (by decide)
  have h3:aB st s0.bs.length false 16 (.tup [x,.agg [.int .i64 0,.int .i64 0,.bool false],.bool false])=some (.tup [.sl ((O.map ly).map (jn 3)),.agg [.int .i64 0,.int .i64 0,.bool false],.bool false]):=by
   show(cH (aB st s0.bs.length false 15) [x,.agg [.int .i64 0,.int .i64 0,.bool false],.bool false]).map D.tup=_;have h2:aB st s0.bs.length false 15 (.agg [.int .i64 0,.int .i64 0,.bool false])=some (.agg [.int .i64 0,.int .i64 0,.bool false]):=rfl;have h4:aB st s0.bs.length false 15 (.bool false)=some (.bool false):=rfl;simp only[cH,h1,h2,h4,Option.map_some]
  refine ag.ret ⟨rx,_,_,Has.Hk hH rfl rfl dw rfl rfl,rl aW hH h3,_,rfl,?_⟩;rw[←hO];exact eZ.frozen Su ka
theorem Eu {H:Type} (d:DataW H):1≤Rows.uptoBulk d:=by
 cases d with
 |lit l=>cases l<;>simp[Rows.uptoBulk]
 |_=>simp[Rows.uptoBulk]
theorem Ew {H:Type} (l:List (DataW H)):l.length≤Rows.uptoBulkAll l:=by
 induction l with
 |nil=>simp[Rows.uptoBulkAll]
 |cons x r ih=>have:=Eu x;simp only[Rows.uptoBulkAll,List.length_cons];omega
open Go.V Go Go.RowKit
variable{H:Type} {enc:TypeId×Value→H} {w:World} {spare:Nat→Bool} {held:Bool} {d:DataW H}
theorem Ey {H:Type} {l:List (DataW H)} {x:DataW H} (h:x∈l):Rows.uptoBulk x≤Rows.uptoBulkAll l:=by
 induction l with
 |nil=>cases h
 |cons y l ih=>
  simp only[Rows.uptoBulkAll]
  rcases List.mem_cons.1 h with rfl|h
  ·omega
  ·have:=ih h;omega
end Go.Proofs.YtpcicphadikioaaGreat
namespace Go.Proofs.YtpcicphadikioaaGreat
open Go.V Go Go.RowKit
structure xA where
 p:List UInt8
 t:Int
 o:Bool
def GI (r:xA):List D:=[.str r.p,.int .i64 r.t,.bool r.o]
variable{H:Type} {enc:TypeId×Value→H} {w:World} {spare:Nat→Bool} {held:Bool} {d:DataW H}
theorem EG (h:Rd enc Tryz.prog w spare held 61 d):∃p:xA,(gw d).cells?=some (gw d).cells∧(gw d).cells=GI p∧p.p.length≤Rows.uptoBulk d:=by
 obtain⟨parts,rfl,hp⟩:=h.struct Tryz.underlying61
 cases hp with
 |cons a hp=>cases hp with
  |cons b hp=>cases hp with
   |cons c hp=>cases hp with
    |nil=>
     obtain⟨x,rfl⟩:=a.string Tryz.underlying9;obtain⟨y,rfl,_⟩:=b.int Tryz.underlying3;obtain⟨z,rfl⟩:=c.bool Tryz.underlying4;refine⟨⟨x,y,z⟩,rfl,rfl,?_⟩;simp only[Rows.uptoBulk,Rows.uptoBulkAll];omega
theorem B2 (h:Rd enc Tryz.prog w spare held 22 d):∃(y:D) (l:List xA),gw d=y∧eZ y 3 (l.map GI)∧(Rows.uptoBulk d≤1048576→l.length≤1048576∧∀r∈l,r.p.length≤1048576):=by
 rcases h.slice Tryz.underlying22 with rfl|⟨elems,rest,rfl,he⟩
 ·exact⟨_,[],rfl,Hd,fun _=>by simp⟩
 ·obtain⟨l,h1,h2,h3⟩:=Jr (s:=3) (f:=GI) (Q:=fun(p:xA) x=>p.p.length≤Rows.uptoBulk x) (rest:=rest) fun x hx=>by
   obtain⟨p,g1,g2,g3⟩:=EG (he x hx);exact⟨p,g1,g2,rfl,g3⟩
  refine⟨_,l,rfl,h1,fun hb=>⟨?_,fun p hp=>?_⟩⟩
  ·have:=Ew elems;simp only[Rows.uptoBulk] at hb;omega
  ·obtain⟨x,hx,hq⟩:=h3 p hp;have:=Ey hx;simp only[Rows.uptoBulk] at hb;omega
end Go.Proofs.YtpcicphadikioaaGreat
namespace Go.Proofs.YtpcicphadikioaaGreat
open Go.V Go
def cu (fr:Go.V.Fr) (k:Nat):Go.V.D:=Go.V.nth .aY fr.loc k
theorem CJ (a:Int) (n:Nat) (hn:n≤100000000) (st:St):(kY pv .rem 3 (.int .i64 a) (.int .i64 (((n:Nat):Int)+1))).map (fun d=>(d,st))=some (.int .i64 (a.tmod ((n:Nat)+1)),st):=by
 have h1:a.tmod ((n:Nat)+1)<(n:Nat)+1:=Int.tmod_lt_of_pos a (by omega);have h2:-((n:Nat)+1:Int)<a.tmod ((n:Nat)+1):=Int.lt_tmod_of_pos a (by omega);show Option.map _ (if((n:Nat):Int)+1=0 then none else some (D.int .i64 (a.tmod ((n:Nat)+1))))=_;rw[if_neg (by omega)];rfl
theorem vd {s0:St} (a:Int) (n:Nat) (hn:n≤100000000):∃d,Ev pv 14 [.int .i64 a,.int .i64 0,.int .i64 (n:Nat)] s0 d s0∧∃k:Nat,d=.int .i64 (k:Nat)∧k≤n:=by
 have h1:a.tmod ((n:Nat)+1)<(n:Nat)+1:=Int.tmod_lt_of_pos a (by omega);have h2:-((n:Nat)+1:Int)<a.tmod ((n:Nat)+1):=Int.lt_tmod_of_pos a (by omega);refine Ev.Bd rfl Pf rfl rfl rfl ?_;refine zE ?_;obtain⟨aW,hF,hH⟩:=ri s0;generalize ai .ro s0=S at*;refine zQ 9 ?_;refine ae.kQ (z:=((n:Nat):Int)) rfl (ev rfl) (ev rfl) (by(try simp only[List.length_reverse,List.length_cons,List.length_nil,List.length_append,List.length_map,List.length_set]);rw[wrap_i64 (by omega) (by omega)]<;>omega) (aa rfl _) ?_;refine ae.cS (z:=(((n:Nat):Int)+1)) rfl (ev rfl) (ev rfl) (by(try simp only[List.length_reverse,List.length_cons,List.length_nil,List.length_append,List.length_map,List.length_set]);rw[wrap_i64 (by omega) (by omega)]<;>omega) (aa rfl _) ?_;refine ae.go (d:=.int .i64 (a.tmod ((n:Nat)+1))) (st1:=_) rfl rfl (by exact CJ a n hn _) (aa rfl _) ?_;refine zQ 2 ?_;generalize a.tmod ((n:Nat)+1)=m at*;refine zQ 6 ?_;refine zP (fun hc=>?_) fun hc=>?_
 ·refine zQ 3 ?_;refine ae.cS (z:=(m+(n:Nat))) rfl (ev rfl) (ev rfl) (by(try simp only[List.length_reverse,List.length_cons,List.length_nil,List.length_append,List.length_map,List.length_set]);rw[wrap_i64 (by omega) (by omega)]<;>omega) (aa rfl _) ?_;refine qm ?_;refine ae.kQ (z:=(m+(n:Nat))) rfl (ev rfl) (ev rfl) (by(try simp only[List.length_reverse,List.length_cons,List.length_nil,List.length_append,List.length_map,List.length_set]);rw[wrap_i64 (by omega) (by omega)]<;>omega) (aa rfl _) ?_;refine ae.cS (z:=(m+(n:Nat)+1)) rfl (ev rfl) (ev rfl) (by(try simp only[List.length_reverse,List.length_cons,List.length_nil,List.length_append,List.length_map,List.length_set]);rw[wrap_i64 (by omega) (by omega)]<;>omega) (aa rfl _) ?_;refine zQ 6 ?_;refine ae.cS (z:=(m+(n:Nat)+1)) rfl (ev rfl) (ev rfl) (by(try simp only[List.length_reverse,List.length_cons,List.length_nil,List.length_append,List.length_map,List.length_set]);rw[wrap_i64 (by omega) (by omega)]<;>omega) (aa rfl _) ?_;refine zQ 2 ?_;refine ag.ret ⟨rx,_,_,rfl,rl aW hH (rfl),?_⟩;exact⟨(m+(n:Nat)+1).toNat,by rw[Int.toNat_of_nonneg (by omega)];rfl,by omega⟩
 ·refine zQ 5 ?_;refine ae.cS (z:=m) rfl (ev rfl) (ev rfl) (by(try simp only[List.length_reverse,List.length_cons,List.length_nil,List.length_append,List.length_map,List.length_set]);rw[wrap_i64 (by omega) (by omega)]<;>omega) (aa rfl _) ?_;refine zQ 2 ?_;refine ag.ret ⟨rx,_,_,rfl,rl aW hH (rfl),?_⟩;exact⟨m.toNat,by rw[Int.toNat_of_nonneg (by omega)];rfl,by omega⟩
theorem HA {l:List xA} {i:Nat} {r:xA} (h:l[i]?=some r):(l.map GI)[i]?=some [.str r.p,.int .i64 r.t,.bool r.o]:=by rw[List.getElem?_map,h];rfl
theorem f_ (b:List UInt8):(V.byteCells b).length=b.length:=by simp[V.byteCells]
theorem rm (a b:List UInt8):V.byteCells (a++b)=V.byteCells a++V.byteCells b:=by simp[V.byteCells]
theorem uW (b:List UInt8):∀e∈V.byteCells b,∀d∈e,bK d=true:=by
 intro e he d hd;obtain⟨y,_,rfl⟩:=List.mem_map.1 he;rw[List.mem_singleton.1 hd];rfl
theorem E6 {s0:St} {x:D} {l:List xA} (hx:eZ x 3 (l.map GI)) (hl:l.length≤1048576) (hp:∀r∈l,r.p.length≤1048576):
  ∃d,Ev pv 6 [x,.int .i64 900] s0 d s0∧∃b:List UInt8,eZ d 1 (V.byteCells b)∧b.length≤900:=by
 refine Ev.Bd rfl TP rfl rfl rfl ?_;refine zE ?_;obtain⟨aW,hF,hH⟩:=ri s0;generalize ai .ro s0=S at*;have GM:=hx.arg s0.bs.length S;have oP:(l.map GI).length=l.length:=List.length_map ..;refine zQ 13 ?_;have hH:=hH.dU 1;refine zQ 1 ?_;refine ag.loop (fun mm fr st=>∃(i:Nat) (y:D) (b:List UInt8),fr.clean=⟨9,[x,.int .i64 900,cu fr 2,cu fr 3,cu fr 4,y,.int .i64 (i:Nat),cu fr 7,cu fr 8],[]⟩∧Has s0.bs.length S st [.aD y 1 (V.byteCells b)]∧(i+mm=l.length)∧(b.length≤1049476+i)) (l.length) ?_ ?_
 ·exact⟨0,.nul,[],rfl,hH,by omega,by simp⟩
 rintro mm fr st ⟨i,y,b,hfr,hH,hi,hb⟩;rw[hfr];clear hfr;generalize cu fr=ee;clear fr;refine zQ 5 ?_;refine qn ?_;simp only[List.length_map];refine zQ 2 ?_;refine zP (fun h1=>?_) fun h1=>?_
 ·refine zQ 1 ?_
  obtain⟨r,hr⟩:∃r,l[i]?=some r:=⟨l[i]'(by omega),List.getElem?_eq_getElem _⟩
  have gJ:=HA hr;have Qb:=hp r (List.mem_of_getElem? hr);refine zQ 2 ?_
  obtain⟨_,aF,m,rfl,hm⟩:=vd (s0:=st) r.t 60 (by omega)
  refine zQ 4 ?_;refine qr fun PZ J9=>?_;refine qf (fo:=1) fun PY J8=>?_;refine qR ?_;refine qv aF ?_;refine zQ 8 ?_;refine ag.loop (fun mm fr st=>∃(k:Nat) (y:D) (b:List UInt8),fr.clean=⟨9,[x,.int .i64 900,cu fr 2,cu fr 3,cu fr 4,y,.int .i64 (i:Nat),.int .i64 (m:Nat),.int .i64 (k:Nat)],[]⟩∧Has s0.bs.length S st [.aD y 1 (V.byteCells b)]∧(k+mm=m)∧(b.length≤1049476+i)) (m) ?_ ?_
  ·exact⟨0,y,b,rfl,hH,by omega,hb⟩
  rintro mm fr st ⟨k,y,b,hfr,hH,hk,hb⟩;rw[hfr];clear hfr;generalize cu fr=ee;clear fr;refine zQ 2 ?_;refine ag.mJ 29 (.bool (decide ((k:Int)<(m:Nat)) &&decide (((V.byteCells b).length:Int)<900))) [] ?_ (fun ff tmp fg=>?_)
  ·refine zQ 4 ?_;refine ae.two 24 rfl (fun dK=>?_) (fun dK=>?_)
   ·refine zQ 1 ?_;refine qn ?_ (hR:=hH.rows aG) (hg:=wi dK);refine zQ 3 ?_;refine ae.nil (dn ?_ ?_)
    ·dsimp only[bd,List.foldl,nth,u2,u1]
     all_goals(first|rfl|simp)
    ·refine zF ?_
     all_goals(simp_all;done)
   ·refine zQ 5 ?_;refine ae.nil (dn ?_ ?_)
    ·dsimp only[bd,List.foldl,nth,u2,u1]
     all_goals(first|rfl|simp)
    ·refine zF ?_
     all_goals(simp_all;omega)
  refine zG ?_
  cases hc:(decide ((k:Int)<(m:Nat)) &&decide (((V.byteCells b).length:Int)<900)) with
  |true=>
   rw[hc] at fg;simp only[Bool.and_eq_true,decide_eq_true_eq,f_] at hc;refine zQ 4 ?_;have hbl:=f_ b;refine zQ 4 ?_;refine qr fun Re M6=>?_;refine qf (fo:=0) fun Rc M5=>?_;refine qR ?_;refine ae.D6 hH rfl (ev rfl) (ev rfl) aG rfl rfl rfl rfl rfl rfl rfl ⟨(Nat.le_of_ble_eq_true rfl),(Nat.le_of_ble_eq_true rfl)⟩ (fun _=>(aa rfl _)) rfl (by omega) (fun QP st hH=>?_);dsimp only[u2] at hH;refine zQ 4 ?_;refine ae.cS (z:=((k+1:Nat):Int)) rfl (ev rfl) (ev rfl) (by(try simp only[List.length_reverse,List.length_cons,List.length_nil,List.length_append,List.length_map,List.length_set]);rw[wrap_i64 (by omega) (by omega)]<;>omega) (aa rfl _) ?_;refine zQ 2 ?_;exact⟨mm-1,by omega,⟨k+1,QP,b++r.p,rfl,(by rw[rm];exact hH),by omega,(by rw[List.length_append];omega)⟩⟩
  |false=>
   rw[hc] at fg;refine zQ 2 ?_;have hbl:=f_ b;refine zQ 4 ?_;refine qr fun Q_ M1=>?_;refine qf (fo:=2) fun Q9 MZ=>?_;refine zQ 3 ?_;refine ag.merge (fun fr st=>∃(y:D) (b:List UInt8) (tmp:List (Nat×D)),fr=⟨9,[x,.int .i64 900,cu fr 2,cu fr 3,cu fr 4,y,.int .i64 (i:Nat),cu fr 7,cu fr 8],tmp⟩∧Has s0.bs.length S st [.aD y 1 (V.byteCells b)]∧(b.length≤1049476+(i+1))) ?_ ?_
   ·cases eL:r.o with
    |false=>
     refine ag.cond (v:=true) (by dsimp only[Fr.ev,Fr.get,nth,V.look];rfl) (fun _=>?_) (fun h=>by cases h);refine zQ 2 ?_;refine qh (s:=1) (vs:=[_]) hH fun k46 st Nw hH=>?_;refine ae.dh (s:=1) hH rfl (ev rfl) (ev rfl) (by exact aV) (by exact hH.rows (by exact aG)) rfl rfl rfl rfl rfl rfl rfl ⟨(Nat.le_of_ble_eq_true rfl),(Nat.le_of_ble_eq_true rfl)⟩ (fun _=>(aa rfl _)) (by simp only[List.length_cons,List.length_nil,List.length_map]<;>omega) (by exact .inl hF) (fun TX st hH=>?_);dsimp only[u2,u1,u3,u4,setMany,u5,u6,D.cells,Nat.reduceAdd,GI] at hH;refine zQ 2 ?_;exact⟨_,b++[10],_,rfl,(by rw[rm];exact hH.drop 1),(by rw[List.length_append];simp;omega)⟩
    |true=>
     refine ag.cond (v:=false) (by dsimp only[Fr.ev,Fr.get,nth,V.look];rfl) (fun h=>by cases h) (fun _=>?_);refine zQ 1 ?_;exact⟨y,b,_,rfl,hH,(by omega)⟩
   rintro fr st ⟨y,b,tmp,hfr,hH,hb⟩;rw[hfr];clear hfr;generalize cu fr=ee;clear fr;refine zQ 2 ?_;refine ae.cS (z:=((i+1:Nat):Int)) rfl (ev rfl) (ev rfl) (by(try simp only[List.length_reverse,List.length_cons,List.length_nil,List.length_append,List.length_map,List.length_set]);rw[wrap_i64 (by omega) (by omega)]<;>omega) (aa rfl _) ?_;refine zQ 2 ?_;exact⟨l.length-(i+1),by omega,⟨i+1,y,b,rfl,hH,by omega,hb⟩⟩
 ·refine zQ 1 ?_;have hbl:=f_ b;refine zQ 4 ?_;refine qn ?_ (hR:=hH.rows aG);refine zQ 3 ?_;refine ag.merge (fun fr st=>∃(y:D) (b:List UInt8) (tmp:List (Nat×D)),fr=⟨9,[cu fr 0,cu fr 1,cu fr 2,cu fr 3,cu fr 4,y,cu fr 6,cu fr 7,cu fr 8],tmp⟩∧Has s0.bs.length S st [.aD y 1 (V.byteCells b)]∧(b.length≤900)) ?_ ?_
  ·refine zP (fun h2=>?_) fun h2=>?_
   ·have LM:900<b.length:=by omega
    obtain⟨kk,aq,off,Rw⟩:=o8 hH aG (by intro h;rw[h] at hbl;simp at hbl;omega);subst Rw;have hsz:bG pv 5=some 1:=rfl;have Dz:pv.bY 31=some (.slice 5):=rfl;have u9:=Ei (i:=900) hH aG (by rw[f_];omega);dsimp only[u2] at u9;have kU:=fun(st:St)=>n_ (k:=kk) (aq:=aq) (off:=off) (n:=(V.byteCells b).length) (i:=900) Dz hsz (by rw[f_];omega) st;refine zQ 3 ?_;refine ae.go (d:=.win kk aq (off+0*1) (900-0) 1) (st1:=_) rfl rfl (by exact congrArg (Option.map fun d=>(d,_)) (kU _)) (aa rfl _) ?_;refine zQ 2 ?_;have HJ:(V.byteCells b).take 900=V.byteCells (b.take 900):=by unfold V.byteCells;rw[List.map_take]
    rw[HJ] at u9;exact⟨_,b.take 900,_,rfl,u9,(by rw[List.length_take];omega)⟩
   ·refine zQ 1 ?_;exact⟨y,b,_,rfl,hH,(by omega)⟩
  rintro fr st ⟨y,b,tmp,hfr,hH,hb⟩;rw[hfr];clear hfr;generalize cu fr=ee;clear fr;refine zQ 5 ?_;refine ag.ret ⟨rx,_,_,rfl,rl aW hH ((hH.mG aG (uW b) (by decide))),?_⟩;exact⟨b,eZ.frozen (rT b) (oT b),hb⟩
end Go.Proofs.YtpcicphadikioaaGreat
