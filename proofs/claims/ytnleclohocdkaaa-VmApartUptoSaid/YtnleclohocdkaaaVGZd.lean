/-
 Programs of texts that are patterns, told exactly: spoorlaw15.made.
-/
import Derived.Test.YtnleclohocdkaaaVGHr
import Derived.Test.YtnleclohocdkaaaVGJp
import Derived.Test.YtnleclohocdkaaaVGTe
import Derived.Test.YtnleclohocdkaaaVGJh
import Derived.Test.YtnleclohocdkaaaVGQe
import Derived.Test.YtnleclohocdkaaaVGCa
set_option maxRecDepth 100000
set_option maxHeartbeats 4000000
set_option linter.unusedSimpArgs false
set_option linter.unusedVariables false
set_option linter.unusedSectionVars false
namespace Go.Proofs.Ytnleclohocdkaaa
open Go.V Go
def lS (fr:Go.V.Fr) (k:Nat):Go.V.D:=Go.V.nth .bh fr.loc k
theorem lR {s0:St} {x:D} {ps:List (List UInt8)} (hx:V.Rows s0 1 x (ps.map GY)) (hl:ps.length≤8) (hb:∀b∈ps,b.length≤1048576):∃d,Ev pv 32 [x] s0 d s0∧∃(p:Pg) (ok:Bool),d=.tup [p.d,.bool ok]∧p.ok∧a_ p∧((∀b∈ps,(cW b).2.1=0)→ok=true→(aw (kg ps)).e=0∧p=mX (aw (kg ps)).code (aw (kg ps)).av):=by
 refine Ev.He rfl O8 rfl rfl rfl ?_;refine zE ?_;obtain⟨cD,hF,hH⟩:=ri s0;generalize ag .ro s0=S at*;have hx:=Arg.of hx cD;refine zQ 2 ?_;refine qa hH fun k2 st hk2 hH=>?_;refine zQ 11 ?_;have hH:Has s0.bs.length S st (.aI .nul 1 (([]:List (List cg)).map dM)::.box k2 (.mem 0 false [.nul,.nul])::[]):=hH.e_ 1;refine zQ 1 ?_;refine ah.loop (fun mm fr st=>∃(i:Nat) (ld:D) (parts:List (List cg)),fr.clean=⟨11,[x,lS fr 1,.ptr k2 0 0,.bool false,ld,.int .i64 (i:Nat),lS fr 6,lS fr 7,lS fr 8,lS fr 9,lS fr 10],[]⟩∧Has s0.bs.length S st [.aI ld 1 (parts.map dM),.box k2 (.mem 0 false [.nul,.nul])]∧(i+mm=8)∧(∀l∈parts,(∀n∈l,tJ n)∧l.length≤500)∧(parts.length≤i)∧((∀b∈ps,(cW b).2.1=0)→parts=kg (ps.take i))) (8) ?_ ?_
 ·exact⟨0,.nul,[],rfl,hH,by omega,fun l hl=>(by cases hl),by simp,fun _=>rfl⟩
 rintro mm fr st ⟨i,ld,parts,hfr,hH,hi,hp,gR,yF⟩;rw[hfr];clear hfr;generalize lS fr=ee;clear fr;refine zQ 2 ?_;refine ah.lB 19 (.bool (decide (((i:Nat):Int)<((ps.length:Nat):Int)) &&decide (((i:Nat):Int)<8))) [] ?_ (fun ff tmp gL=>?_)
 ·refine zQ 2 ?_;refine qn ?_;simp only[List.length_map];refine zQ 2 ?_;refine ab.two 16 rfl (fun An=>?_) (fun An=>?_)
  ·refine zQ 3 ?_;refine ab.nil (cA ?_ ?_)
   ·dsimp only[aX,List.foldl,nth,u2,u1]
    all_goals(first|rfl|simp)
   ·refine zF ?_
    all_goals(simp_all;done)
  ·refine zQ 3 ?_;refine ab.nil (cA ?_ ?_)
   ·dsimp only[aX,List.foldl,nth,u2,u1]
    all_goals(first|rfl|simp)
   ·refine zF ?_
    all_goals(simp_all;omega)
 refine zG ?_
 by_cases hlt:i<ps.length∧i<8
 ·obtain⟨b,D4⟩:∃b,ps[i]?=some b:=⟨ps[i]'hlt.1,List.getElem?_eq_getElem _⟩
  have iH:=E7 D4;have Qt:=List.mem_of_getElem? D4;have hbl:=hb b Qt;have xM:(decide (((i:Nat):Int)<((ps.length:Nat):Int)) &&decide (((i:Nat):Int)<8))=true:=by rw[Bool.and_eq_true,decide_eq_true_eq,decide_eq_true_eq];omega
  rw[xM] at gL;refine zQ 4 ?_;obtain⟨aG,hv,vg⟩:=nv (s0:=st) hbl;have MX:=vV D4;have FR:(∀b∈ps,(cW b).2.1=0)→(cW b).2.1=0:=fun h=>h b Qt;generalize U5:cW b=X at aG hv vg MX FR;obtain⟨l,e,w⟩:=X;dsimp only at hv vg MX FR;unfold da at aG;dsimp only at aG;refine zQ 4 ?_;refine qr fun Jd DM=>?_;refine qR ?_;refine qv (aG) ?_;refine zQ 13 ?_;refine zI (fun he=>?_) fun he=>?_
  ·refine zQ 3 ?_;refine qh (s:=1) (vs:=[_]) hH fun k35 st S5 hH=>?_;refine ab.bT (s:=1) hH rfl (ev rfl) (ev rfl) (by exact bZ) (by exact hH.rows (by exact aS)) rfl rfl rfl rfl rfl rfl rfl ⟨(Nat.le_of_ble_eq_true rfl),(Nat.le_of_ble_eq_true rfl)⟩ (fun _=>(aa rfl _)) (by simp only[List.length_cons,List.length_nil,List.length_map]<;>omega) (by exact .inl hF) (fun QS st hH=>?_);dsimp only[u2,u1,u3,u4,setMany,u5,u6,D.cells,Nat.reduceAdd,dM,oJ,Pg.d,Pg.cs,mX,da] at hH;refine zQ 2 ?_;have hH:=hH.drop 1;refine zQ 5 ?_;refine⟨mm-1,by omega,⟨i+1,QS,parts++[l],rfl,(by rw[List.map_append];exact hH),by omega,?_,(by rw[List.length_append];simp only[List.length_cons,List.length_nil];omega),(fun h=>by rw[MX,yF h])⟩⟩;intro l' gS
   rcases List.mem_append.1 gS with gS|gS
   ·exact hp l' gS
   ·simp only[List.mem_cons,List.not_mem_nil,or_false] at gS;subst gS;exact⟨hv,vg⟩
  ·refine zQ 6 ?_;exact⟨mm-1,by omega,⟨i+1,ld,parts,rfl,hH,by omega,hp,by omega,(fun h=>absurd (FR h) he)⟩⟩
 ·have xM:(decide (((i:Nat):Int)<((ps.length:Nat):Int)) &&decide (((i:Nat):Int)<8))=false:=by
   rw[Bool.and_eq_false_iff,decide_eq_false_iff_not,decide_eq_false_iff_not];omega
  rw[xM] at gL
  have yF:(∀b∈ps,(cW b).2.1=0)→parts=kg ps:=fun h=>by
   have:=yF h
   rwa [List.take_of_length_le (by omega)] at this
  refine zQ 2 ?_;obtain⟨aG,aY,hlen⟩:=y8 hp (by omega) (hH.rows aS);have IA:=sk (ls:=parts) (by omega) hlen
  obtain⟨R,Qz⟩:∃R,aw parts=R:=⟨_,rfl⟩
  rw[Qz] at aG aY hlen IA;refine zQ 3 ?_;refine qv (aG) ?_;refine zQ 4 ?_;refine qa hH fun k9 st SN hH=>?_;refine qS hH aS fun st hH=>?_;dsimp only[u2,u1,u3,u4,setMany,u5,u6,D.cells,Nat.reduceAdd,dM,oJ,Pg.d,Pg.cs,mX,da] at hH;refine zQ 5 ?_;refine ab.bN (m:=2) hH rfl (ev rfl) (by exact aS) (by dsimp only[List.drop_succ_cons,List.drop_zero,List.take_succ_cons,List.take_zero,dM,oJ,Pg.d,Pg.cs,mX,da]<;>rfl) rfl rfl (aa rfl _) ?_;refine zQ 2 ?_;refine qS hH cU fun st hH=>?_;dsimp only[u2,u1,u3,u4,setMany,u5,u6,D.cells,Nat.reduceAdd,dM,oJ,Pg.d,Pg.cs,mX,da] at hH;refine zQ 2 ?_;refine ah.ret ⟨rx,_,_,hH.pK rfl cU rfl rfl,rl cD hH (show _=some (D.tup [(mX R.code R.av).d,.bool (R.e==0)]) from rfl),⟨_,_,rfl,aY,IA,fun h h2=>by rw[←yF h,Qz];exact⟨by simpa using h2,rfl⟩⟩⟩
end Go.Proofs.Ytnleclohocdkaaa
namespace Go.V
variable{N:Nat} {S st:St} {H:List bm}
theorem Has.me (A B:List bm) (h:Has N S st (A++(B++H))):Has N S st (B++(A++H)):=by
 refine h.sub (fun i=>if i<B.length then i+A.length else if i<B.length+A.length then i-B.length else i) (fun a b e=>?_) fun i e hi=>?_
 ·have e':(if a<B.length then a+A.length else if a<B.length+A.length then a-B.length else a)=(if b<B.length then b+A.length else if b<B.length+A.length then b-B.length else b):=e
  repeat' split at e'
  all_goals omega
 ·show(A++(B++H))[if i<B.length then i+A.length else if i<B.length+A.length then i-B.length else i]?=some e
  by_cases h1:i<B.length
  ·rw[if_pos h1,List.getElem?_append_right (by omega),Nat.add_sub_cancel,List.getElem?_append_left h1]
   rwa [List.getElem?_append_left h1] at hi
  ·rw[List.getElem?_append_right (by omega)] at hi
   by_cases h2:i<B.length+A.length
   ·rw[if_neg h1,if_pos h2,List.getElem?_append_left (by omega)]
    rwa [List.getElem?_append_left (by omega)] at hi
   ·rw[if_neg h1,if_neg h2,List.getElem?_append_right (by omega),List.getElem?_append_right (by omega)];rw[List.getElem?_append_right (by omega)] at hi;rw[←hi];congr 1;omega
theorem Has.eu {j:Nat} {e:bm} (h:Has N S st (e::H)) (hj:j<H.length):Has N S st (H.set j e):=
 Has.back (h.erase (j+1)) hj
theorem Has.Ae {j k:Nat} {e:bm} (h:Has N S st H) (hj:H[j]?=some e) (hk:e.K k):k+1≤st.bs.length:=((h.ok j e hj).2 k hk).2
theorem nX {x y:Oper} {fi fj:Fr} {si rV sj Gn:St} {a:Operand} {k aA off v:Nat} {ar:Bool} {c:List D} (hy:gF y.op=none) (hx:gF x.op=some a) (ha:fi.ev a=.ptr k aA off) (h1:sj.bs[k]?=some (.mem v ar c)) (h2:Gn.bs[k]?=some (.mem v ar c)) (h3:si.bs[k]?=some (.mem v ar c)) (hr:refs c≤si.bs.length):jG x fi si rV y fj sj Gn=true:=by
 unfold jG;simp only[hy,hx,ha,D.mP,Bool.and_eq_true];refine⟨sB h1 h2,?_⟩;unfold lK;simp only[h3]
 split
 ·rfl
 ·simpa using hr
theorem Has.clear {P:Pv} {j:Nat} {x:D} {s:Nat} {es:List (List D)} {t e:TypeId} {z:List D} (h:Has N S st H) (hj:H[j]?=some (.aI x s es)) (ht:P.cC t=some (.slice e)) (hz:de P e=some z) (ln:z.length=s) (hr:refs z=0):
  ∃af,kI P [t] x st=some (.tup [],af)∧Has N S af (H.set j (.aI x s (List.replicate es.length z))):=by
 have yK:=(h.ok j _ hj).2;have hown:=h.own hj
 have jU:j<H.length:=by
  rcases Nat.lt_or_ge j H.length with h'|h'
  ·exact h'
  ·rw[List.getElem?_eq_none h'] at hj;cases hj
 cases hown with
 |nul=>
  refine⟨st,by simp only[kI,ht],?_⟩
  have:H.set j (.aI .nul s (List.replicate ([]:List (List D)).length z))=H:=by
   refine List.ext_getElem? fun i=>?_
   by_cases hi:i=j
   ·subst hi;rw[List.getElem?_set_self jU,hj];rfl
   ·rw[List.getElem?_set_ne (fun e=>hi e.symm)]
  rw[this];exact h
 |win k aA off es c hm hle hc he=>
  have hk:=yK k (by simp only[bm.aI,D.ref])
  have IB:∀n,refs (Go.V.eu n z)=0:=by
   intro n;unfold Go.V.eu
   induction n with
   |zero=>rfl
   |succ n ih=>
    rw[List.replicate_succ,List.flatten_cons]
    have F2:∀(a b:List D),refs a=0→refs b=0→refs (a++b)=0:=by
     intro a
     induction a with
     |nil=>intro b _ hb;exact hb
     |cons d a ER=>
      intro b ha hb;simp only[refs,List.cons_append] at ha⊢;have:=ER b (by omega) hb;omega
    exact F2 _ _ hr ih
  have xJ:(Go.V.eu es.length z).length=es.length*s:=by
   unfold Go.V.eu;rw[cH (s:=s) (fun e he=>by rw[(List.mem_replicate.1 he).2];exact ln),List.length_replicate]
  have hw:st.wr k aA off (Go.V.eu es.length z)=some ⟨st.bs.set k (.mem aA true (c.take off++Go.V.eu es.length z++c.drop (off+(Go.V.eu es.length z).length))),st.flr,st.ro⟩:=lH hm (by omega) (jt h hk.1 (.inr (IB _)));refine⟨_,by simp only[kI,ht,hz,Option.bind_some];rw[if_pos ln,hw];rfl,?_⟩;refine h.sy hj (fun n hn hne=>?_) (by simp) rfl rfl ?_ (fun n hn=>.inl hn) fun n hn=>?_
  ·simp only;rw[List.getElem?_set_ne (fun e=>hne (by simp only[bm.aI,D.ref];omega))]
  ·have DQ:∀e'∈List.replicate es.length z,e'.length=s:=fun e' pb=>by rw[(List.mem_replicate.1 pb).2];exact ln
   have:=gD.win (st:=⟨st.bs.set k (.mem aA true (c.take off++Go.V.eu es.length z++c.drop (off+(Go.V.eu es.length z).length))),st.flr,st.ro⟩) (s:=s) k aA off (List.replicate es.length z) (c.take off++Go.V.eu es.length z++c.drop (off+(Go.V.eu es.length z).length))
    (by simp only;rw[List.getElem?_set_self hk.2]) (by rw[List.length_replicate];simp;omega) ?_ DQ
   ·rw[List.length_replicate] at this;exact this
   ·rw[List.length_replicate,List.append_assoc,List.drop_append_of_le_length (by simp;omega),List.drop_take,Nat.sub_self,List.take_zero,List.nil_append,←xJ,List.take_left']
    ·rfl
    ·rfl
  ·simp only[bm.aI,D.ref] at hn;have:n=k:=by omega
   subst this
   simpa using hk.2
variable{P:Pv} {ops:Array Oper} {rest:List Oper} {fr aD:Fr} {Q:Fr→St→Prop} {ty:TypeId} {pp:String} {a:Array Edge} {g:Option (Nat×Bool)} {dst:Nat}
theorem ab.Ha {j:Nat} {x:D} {s:Nat} {es:List (List D)} {t e:TypeId} {z:List D} {xo:Operand} (hH:Has N S st H) (hg:aB ops fr ⟨none,.call ⟨.builtin .clear,#[xo],#[t]⟩,ty,pp,a,g⟩=some true) (hx:fr.ev xo=x) (hj:H[j]?=some (.aI x s es)) (ht:P.cC t=some (.slice e)) (hz:de P e=some z) (ln:z.length=s) (hr:refs z=0)
  (h:∀af,Has N S af (H.set j (.aI x s (List.replicate es.length z)))→ab P ops rest fr af Q):ab P ops (⟨none,.call ⟨.builtin .clear,#[xo],#[t]⟩,ty,pp,a,g⟩::rest) fr st Q:=by
 obtain⟨af,h1,h2⟩:=hH.clear hj ht hz ln hr;refine ab.N hg rfl (d:=.tup []) (st1:=af) ?_ (h _ h2);simp only[dF,List.map_cons,List.map_nil,hx,ba,List.toList_toArray];exact h1
end Go.V
namespace Go.Proofs.Ytnleclohocdkaaa
open Go.V Go
def fY (n:Nat):List D:=[.int .i64 (n:Nat)]
def nJ (n:Nat):List D:=[.int .i64 (n:Nat),.bool true]
theorem wj {l:List Nat} {i q:Nat} (h:l[i]?=some q):(l.map fY)[i]?=some (fY q):=by rw[List.getElem?_map,h];rfl
theorem FH {l:List Nat} {i q:Nat} (h:l[i]?=some q):(l.map nJ)[i]?=some (nJ q):=by rw[List.getElem?_map,h];rfl
structure c8 (P Q:List Nat) (seen:List Bool):Prop where
 len:P.length=seen.length
 mem:∀(i p:Nat),P[i]?=some p→seen[i]?=some (decide (Q[p]?=some i))
 cnt:Q.length=seen.count true
 small:seen.length≤4096
def EG (N:Nat) (S st:St) (ks:Nat) (seen:List Bool) (H:List bm):Prop:=
 ∃pd qd P Q,Has N S st (.box ks (.mem 0 false [pd,qd])::.aI pd 1 (P.map fY)::.aI qd 2 (Q.map nJ)::H)∧c8 P Q seen
theorem c8.get {P Q:List Nat} {seen:List Bool} (h:c8 P Q seen) {i:Nat} {b:Bool} (hi:seen[i]?=some b):∃p,P[i]?=some p∧b=decide (Q[p]?=some i):=by
 have hl:=aR hi;have pa:=h.len;refine⟨P[i]'(by omega),List.getElem?_eq_getElem _,?_⟩;have:=h.mem i _ (List.getElem?_eq_getElem (by omega));rw[hi] at this;exact Option.some.inj this
theorem c8.add {P Q:List Nat} {seen:List Bool} (h:c8 P Q seen) {i:Nat} (hi:seen[i]?=some false):c8 (P.set i Q.length) (Q++[i]) (seen.set i true):=by
 have hl:=aR hi;have pa:=h.len;refine⟨by simp[pa],fun j p hj=>?_,?_,by rw[List.length_set];exact h.small⟩
 ·by_cases hij:j=i
  ·subst hij;rw[List.getElem?_set_self (by omega)] at hj⊢;cases hj;simp
  ·rw[List.getElem?_set_ne (fun e=>hij e.symm)] at hj⊢;rw[h.mem j p hj]
   congr 2
   rcases Nat.lt_trichotomy p Q.length with hp|hp|hp
   ·rw[List.getElem?_append_left hp]
   ·subst hp;have hne:¬i=j:=fun e=>hij e.symm;simp[hne]
   ·rw[List.getElem?_eq_none (by omega),List.getElem?_eq_none (by simp;omega)]
 ·have h1:=List.length_eq_countP_add_countP (fun b=>b==true) (l:=seen);have h2:=List.length_eq_countP_add_countP (fun b=>b==true) (l:=seen.set i true);have h3:=count_set hi
  have e1:∀l:List Bool,l.countP (fun a=>decide (¬(a==true)=true))=l.count false:=by
   intro l;unfold List.count;congr 1;funext b;cases b<;>rfl
  have e2:∀l:List Bool,l.countP (fun a=>a==true)=l.count true:=fun l=>rfl;rw[e1,e2] at h1 h2;rw[List.length_append,h.cnt];simp only[List.length_set,List.length_cons,List.length_nil] at h2⊢;omega
theorem c8.clear {P Q:List Nat} {seen:List Bool} (h:c8 P Q seen):c8 P [] (List.replicate seen.length false):=by
 refine⟨by rw[List.length_replicate];exact h.len,fun i p hi=>?_,?_,by rw[List.length_replicate];exact h.small⟩
 ·have:=aR hi;have:=h.len;rw[List.getElem?_replicate,if_pos (by omega)];simp
 ·rw[List.count_replicate];simp
theorem c8.ku {P Q:List Nat} {seen:List Bool} (h:c8 P Q seen):Q.length≤4096:=by
 have:=h.cnt;have:=h.small;have:=List.count_le_length (a:=true) (l:=seen);omega
theorem A1 {N ks:Nat} {S s0:St} {H:List bm} {seen:List Bool} {i:Nat} {b:Bool} (hi:seen[i]?=some b) {pd qd:D} {P Q:List Nat} (aY:c8 P Q seen) (hH:Has N S s0 (.box ks (.mem 0 false [pd,qd])::.aI pd 1 (P.map fY)::.aI qd 2 (Q.map nJ)::H)):
  ∃r af,Ev pv 110 [.ptr ks 0 0,.int .i64 (i:Nat)] s0 r af∧r=.bool b∧af=s0:=by
 obtain⟨p,hp,rfl⟩:=aY.get hi;have hl:=aR hp;have pa:=aY.len;have RR:=aY.small;have iH:=wj hp
 have gd:(⟨(ag .rw s0).bs.take s0.bs.length,s0.flr,s0.ro⟩:St)=s0:=by
  show(⟨s0.bs.take s0.bs.length,s0.flr,s0.ro⟩:St)=s0;rw[List.take_length]
 refine Ev.ko rfl K' rfl rfl rfl ?_;refine zE ?_;have cx:=hH;have hH:=hH.cB;have cw:(ag .rw s0).bs=s0.bs:=rfl;generalize ag .rw s0=S2 at*;refine zQ 4 ?_;have ch:decide (((i:Nat):Int)<0)=false:=by rw[decide_eq_false];omega
 refine zQ 2 ?_;refine ah.lB 16 (.bool false) [] ?_ (fun ff tmp gL=>?_)
 ·refine zQ 8 ?_;refine qn ?_ (hR:=hH.rows bZ) (hg:=wi ch);simp only[List.length_map];refine zQ 2 ?_;refine ab.nil (cA ?_ ?_)
  ·dsimp only[aX,List.foldl,nth,u2,u1]
   all_goals(first|rfl|simp)
  ·refine zF ?_
   all_goals(simp_all;done)
 dsimp only[aX,List.foldl,nth,u2,u1];refine zQ 9 ?_;refine qi hH bZ fun Ma HA=>?_;refine zQ 3 ?_
 by_cases hq:p<Q.length
 ·obtain⟨q,FR⟩:∃q,Q[p]?=some q:=⟨Q[p]'hq,List.getElem?_eq_getElem _⟩
  have oS:=FH FR;have GI:decide (((p:Nat):Int)<((Q.length:Nat):Int))=true:=by rw[decide_eq_true_eq];omega
  refine zQ 7 ?_;refine qn ?_ (hR:=hH.rows cU);simp only[List.length_map];refine zQ 7 ?_;refine qi hH cU (fun PS JQ=>?_) (hg:=wi GI);refine ab.dz (fo:=0) (m:=0) (o2:=0) (ax rfl rfl rfl GI) (ev rfl) (by assumption) rfl rfl rfl (fun _=>(aa rfl _)) (fun Rb Ns=>?_);refine zQ 6 ?_;refine ah.ret ⟨rx,_,_,_,rfl,ai (rfl),?_⟩;refine⟨?_,gd⟩
  have hd:(((q:Nat):Int)==((i:Nat):Int))=decide (Q[p]?=some i):=by
   rw[FR]
   by_cases h:q=i
   ·simp[h]
   ·simp[h];omega
  exact congrArg D.bool hd
 ·have GI:decide (((p:Nat):Int)<((Q.length:Nat):Int))=false:=by rw[decide_eq_false];omega
  refine zQ 7 ?_;refine qn ?_ (hR:=hH.rows cU);simp only[List.length_map];refine zQ 15 ?_;refine ah.ret ⟨rx,_,_,_,rfl,ai (rfl),?_⟩;refine⟨?_,gd⟩;rw[List.getElem?_eq_none (by omega)];rfl
theorem A2 {N ks:Nat} {S s0:St} {H:List bm} {seen:List Bool} {i:Nat} {b:Bool} (hF:S.flr≤N) (hi:seen[i]?=some b) (hH:EG N S s0 ks seen H):
  ∃r af,Ev pv 96 [.ptr ks 0 0,.int .i64 (i:Nat),.bool true] s0 r af∧r=.bool (!b)∧EG N S af ks (seen.set i true) H:=by
 obtain⟨pd,qd,P,Q,hH,aY⟩:=hH;have hl:=aR hi;have pa:=aY.len;have RR:=aY.small;have Gx:=aY.ku;obtain⟨p0,SA,_⟩:=aY.get hi;have iH:=wj SA;refine Ev.ko rfl OB rfl rfl rfl ?_;refine zE ?_;change ah _ _ _ _ s0 _;refine zQ 4 ?_;have ch:decide (((i:Nat):Int)<0)=false:=by rw[decide_eq_false];omega
 have db:decide (((i:Nat):Int)≥((P.length:Nat):Int))=false:=by rw[decide_eq_false];omega
 obtain⟨_,st,aG,rfl,rfl⟩:=A1 hi aY hH;refine zQ 2 ?_;refine ah.lB 22 (.bool b) [] ?_ (fun ff tmp gL=>?_)
 ·refine zQ 8 ?_;refine qn ?_ (hR:=hH.rows bZ) (hg:=wi ch);simp only[List.length_map];refine zQ 5 ?_;refine qv aG ?_ (hg:=wi db);refine zQ 1 ?_;refine ab.nil (cA ?_ ?_)
  ·dsimp only[aX,List.foldl,nth,u2,u1]
   all_goals(first|rfl|simp)
  ·dsimp only[Fr.dg,Fr.put,Fr.clean,Fr.ev,Fr.get,nth,look,u1,u2,v1,v2,v4]
   all_goals(first|rfl|(simp[ch,db];done)|(simp_all;done)|(simp[ch,db];omega)|(simp_all;omega))
 dsimp only[aX,List.foldl,nth,u2,u1]
 cases b with
 |true=>
  refine zQ 5 ?_;refine ah.ret ⟨rx,_,_,_,rfl,rfl,?_⟩;refine⟨rfl,pd,qd,P,Q,hH,?_⟩
  have:seen.set i true=seen:=by
   refine List.ext_getElem? fun j=>?_
   by_cases hj:j=i
   ·subst hj;rw[List.getElem?_set_self hl,hi]
   ·rw[List.getElem?_set_ne (fun e=>hj e.symm)]
  rw[this];exact aY
 |false=>
  refine zQ 13 ?_;refine qn ?_ (hR:=hH.rows cU);simp only[List.length_map];refine qi hH bZ fun UL Su=>?_;refine ab.nz hH rfl (ev rfl) (ev rfl) (by assumption) rfl rfl (by exact bZ) (by assumption) (Nat.le_of_ble_eq_true rfl) (by exact .inl hF) (fun st hH=>?_);dsimp only[u2,u1,u3,u4,setMany,u5,u6,D.cells,Nat.reduceAdd,fY,nJ] at hH;refine zQ 11 ?_;refine qh (s:=2) (vs:=[_]) hH fun k42 st S3 hH=>?_;dsimp only[u2,u1,u3,u4,setMany,u5,u6,D.cells,Nat.reduceAdd,fY,nJ] at hH;refine ab.bT (s:=2) hH rfl (ev rfl) (ev rfl) (by exact dI) (by exact hH.rows (by exact aS)) rfl rfl rfl rfl rfl rfl rfl ⟨(Nat.le_of_ble_eq_true rfl),(Nat.le_of_ble_eq_true rfl)⟩ (fun _=>(aa rfl _)) (by simp only[List.length_cons,List.length_nil,List.length_map]<;>omega) (by exact .inl hF) (fun QR st hH=>?_);dsimp only[u2,u1,u3,u4,setMany,u5,u6,D.cells,Nat.reduceAdd,fY,nJ] at hH;refine zQ 2 ?_;refine qT hH bZ (fun st hH=>?_) (i_:=hH.fI dI);dsimp only[u2,u1,u3,u4,setMany,u5,u6,D.cells,Nat.reduceAdd,fY,nJ] at hH;refine zQ 5 ?_;refine ah.ret ⟨rx,_,_,_,rfl,rfl,?_⟩;refine⟨rfl,pd,QR,P.set i Q.length,Q++[i],?_,aY.add hi⟩;rw[List.map_set,List.map_append];exact hH.drop 1
theorem vC {N ks:Nat} {S s0:St} {H:List bm} {seen:List Bool} (hF:S.flr≤N) (hH:EG N S s0 ks seen H):
  ∃r af,Ev pv 94 [.ptr ks 0 0] s0 r af∧r=.tup []∧EG N S af ks (List.replicate seen.length false) H:=by
 obtain⟨pd,qd,P,Q,hH,aY⟩:=hH;have Gx:=aY.ku;refine Ev.ko rfl OD rfl rfl rfl ?_;refine zE ?_;change ah _ _ _ _ s0 _;refine zQ 6 ?_;refine ab.Ha hH rfl (ev rfl) cU rfl rfl rfl rfl (fun st hH=>?_);dsimp only[u1,u2] at hH;refine zQ 7 ?_;refine ab.C9 hH rfl (ev rfl) (by exact cU) rfl rfl (nZ (by simp only[List.length_map,List.length_reverse,List.length_cons,List.length_append,List.length_nil,List.length_take,List.length_drop,List.length_set,List.length_replicate];omega)) ⟨(by omega),(by simp only[List.length_map,List.length_reverse,List.length_cons,List.length_append,List.length_nil,List.length_take,List.length_drop,List.length_set,List.length_replicate];omega)⟩ (fun _=>(aa rfl _)) (fun Ud hH=>?_);refine zQ 2 ?_;refine qT hH aS (fun st hH=>?_) (i_:=hH.fI cU);dsimp only[u2,u1,u3,u4,setMany,u5,u6,D.cells,Nat.reduceAdd,fY,nJ] at hH;refine zQ 1 ?_;refine⟨fun i h=>(by cases h),_,_,_,rfl,rfl,?_⟩;exact⟨rfl,pd,_,P,[],hH,aY.clear⟩
theorem A0 {N n:Nat} {S s0:St} {H:List bm} (hF:S.flr≤N) (hn:n≤4096) (hH:Has N S s0 H):
  ∃r af,Ev pv 91 [.int .i64 (n:Nat)] s0 r af∧∃ks,r=.tup [.ptr ks 0 0,.int .i64 0]∧EG N S af ks (List.replicate n false) H:=by
 refine Ev.ko rfl OG rfl rfl rfl ?_;refine zE ?_;change ah _ _ _ _ s0 _;refine zQ 5 ?_;have ch:decide (((n:Nat):Int)<0)=false:=by rw[decide_eq_false];omega
 refine zQ 2 ?_;refine ah.lB 9 (.bool false) [] ?_ (fun ff tmp gL=>?_)
 ·refine zQ 6 ?_;refine ab.nil (cA ?_ ?_)
  ·dsimp only[aX,List.foldl,nth,u2,u1]
   all_goals(first|rfl|simp)
  ·refine zF ?_
   all_goals(simp[ch];omega)
 dsimp only[aX,List.foldl,nth,u2,u1];refine zQ 5 ?_;refine ab.Aj (s:=1) hH rfl rfl rfl rfl rfl rfl rfl rfl (Nat.le_of_ble_eq_true rfl) (by omega) (fun _=>(aa rfl _)) (fun k11 st Kr hH=>?_);refine ab.gm (qs:=[(0,_)]) rfl rfl rfl rfl ⟨rfl,(ev rfl),(by rfl),trivial⟩ (by intro q hq;simp only[List.mem_cons,List.not_mem_nil,or_false] at hq;rcases hq with rfl<;>exact⟨rfl,by exact Nat.le_of_ble_eq_true rfl⟩) (by show List.foldl _ [_,_] _=_;dsimp only[List.foldl_cons,List.foldl_nil,u2,u1]<;>rfl) (aa rfl _) ?_;refine qb hH fun k13 st HO hH=>?_;refine zQ 3 ?_;refine ah.ret ⟨rx,_,_,_,rfl,rfl,?_⟩;refine⟨k13,rfl,.win k11 0 0 n 1,.nul,List.replicate n 0,[],?_,?_⟩
 ·rw[List.map_replicate];exact Has.me [_] [_,_] (hH.e_ 2)
 ·refine⟨by simp,fun i p hi=>?_,by rw[List.count_replicate];simp,by simpa using hn⟩;have:=aR hi;rw[List.length_replicate] at this;rw[List.getElem?_replicate,if_pos this];simp
end Go.Proofs.Ytnleclohocdkaaa
namespace Go.Proofs.Ytnleclohocdkaaa
open Go.V Go
abbrev l5:=Nat→Int
def aQ (f:l5):List D:=[.int .i64 (f 0),.int .i64 (f 1),.int .i64 (f 2),.int .i64 (f 3),.int .i64 (f 4),.int .i64 (f 5),.int .i64 (f 6),.int .i64 (f 7),.int .i64 (f 8),.int .i64 (f 9)]
def bt:l5:=fun _=>-1
def pq:l5:=fun _=>0
def eN (f:l5) (x:Nat) (v:Int):l5:=fun j=>if j=x then v else f j
structure fx where
 pc:Nat
 at_:Nat
 c:l5
inductive zk where
 |found
 |more (l:List fx)
def ct (code:List aC) (gs:List (Nat×Nat)) (pl:List Int) (t:fx):zk:=
 match code[t.pc]? with
 |none=>.more []
 |some i=>
  if i.op=7 then .found
  else if i.op=2 then .more [⟨i.x.toNat,t.at_,t.c⟩,⟨i.y.toNat,t.at_,t.c⟩]
  else if i.op=3 then .more [⟨i.x.toNat,t.at_,t.c⟩]
  else if i.op=4 then .more [⟨t.pc+1,t.at_,eN t.c i.x.toNat (pl.getD t.at_ 0)⟩]
  else if i.op=5 then .more (if t.at_=0 then[⟨t.pc+1,t.at_,t.c⟩] else[])
  else if i.op=6 then .more (if t.at_=gs.length then[⟨t.pc+1,t.at_,t.c⟩] else[])
  else .more (if t.at_<gs.length∧iA i.rs ((gs.getD t.at_ (0,0)).1:Nat)=true then[⟨t.pc+1,t.at_+1,t.c⟩] else[])
theorem fz {n ns pc:Nat} {i:aC} (h:cT n ns pc i=true):
  i.op=7∨(i.op=2∧(0≤i.x∧i.x<(n:Int))∧0≤i.y∧i.y<(n:Int))∨(i.op=3∧0≤i.x∧i.x<(n:Int))∨(i.op=4∧pc+1<n∧0≤i.x∧i.x<10)∨(i.op=5∧pc+1<n)∨(i.op=6∧pc+1<n)∨(i.op=1∧pc+1<n):=by
 unfold cT at h
 split at h
 ·rename_i h1;simp only[Bool.and_eq_true,decide_eq_true_eq] at h;refine .inr (.inr (.inr (.inr (.inr (.inr ⟨h1,?_⟩)))));omega
 ·simp only[Bool.and_eq_true] at h;obtain⟨_,h⟩:=h
  split at h
  ·rename_i h2;simp only[Bool.and_eq_true] at h;exact .inr (.inl ⟨h2,dN.1 h.1,dN.1 h.2⟩)
  ·simp only[Bool.and_eq_true] at h;obtain⟨_,h⟩:=h
   split at h
   ·rename_i h3;exact .inr (.inr (.inl ⟨h3,dN.1 h⟩))
   ·split at h
    ·rename_i h4;simp only[Bool.and_eq_true,decide_eq_true_eq] at h;exact .inr (.inr (.inr (.inl ⟨h4,by omega,dN.1 h.2⟩)))
    ·split at h
     ·rename_i h5;simp only[Bool.and_eq_true,decide_eq_true_eq] at h
      rcases h5 with h5|h5
      ·exact .inr (.inr (.inr (.inr (.inl ⟨h5,by omega⟩))))
      ·exact .inr (.inr (.inr (.inr (.inr (.inl ⟨h5,by omega⟩)))))
     ·split at h
      ·rename_i h7;exact .inl h7
      ·cases h
end Go.Proofs.Ytnleclohocdkaaa
namespace Go.Proofs.Ytnleclohocdkaaa
open Go.V Go
def b8 (fr:Go.V.Fr) (k:Nat):Go.V.D:=Go.V.nth .bh fr.loc k
structure fU where
 pc:Nat
 c:l5
def aW (t:fU):List D:=[.int .i64 (t.pc:Nat),.int .i64 (t.c 0),.int .i64 (t.c 1),.int .i64 (t.c 2),.int .i64 (t.c 3),.int .i64 (t.c 4),.int .i64 (t.c 5),.int .i64 (t.c 6),.int .i64 (t.c 7),.int .i64 (t.c 8),.int .i64 (t.c 9)]
def bn (dn:Bool) (f:l5) (d:D):List D:=[.bool dn,.int .i64 (f 0),.int .i64 (f 1),.int .i64 (f 2),.int .i64 (f 3),.int .i64 (f 4),.int .i64 (f 5),.int .i64 (f 6),.int .i64 (f 7),.int .i64 (f 8),.int .i64 (f 9),d]
theorem Fb {a:D} {f:l5} {x:Nat} {v:Int} (hx:x<10):setMany (a::aQ f) (1+x) [.int .i64 v]=a::aQ (eN f x v):=by
 match x,hx with
 |0,_=>rfl
 |1,_=>rfl
 |2,_=>rfl
 |3,_=>rfl
 |4,_=>rfl
 |5,_=>rfl
 |6,_=>rfl
 |7,_=>rfl
 |8,_=>rfl
 |9,_=>rfl
structure Wk where
 seen:List Bool
 dn:Bool
 aM:l5
 rdy:List fU
def bC (code:List aC) (pl:Nat) (e:Bool):Nat→Wk→fU→Wk×Bool
 |0,w,_=>(w,false)
 |f+1,w,t=>
  if w.seen.getD t.pc true=true then(w,false) else
  match code[t.pc]? with
  |none=>(w,false)
  |some i=>
   if i.op=7 then(⟨w.seen.set t.pc true,true,t.c,w.rdy⟩,true)
   else if i.op=2 then
    if(bC code pl e f ⟨w.seen.set t.pc true,w.dn,w.aM,w.rdy⟩ ⟨i.x.toNat,t.c⟩).2=true then bC code pl e f ⟨w.seen.set t.pc true,w.dn,w.aM,w.rdy⟩ ⟨i.x.toNat,t.c⟩
    else bC code pl e f (bC code pl e f ⟨w.seen.set t.pc true,w.dn,w.aM,w.rdy⟩ ⟨i.x.toNat,t.c⟩).1 ⟨i.y.toNat,t.c⟩
   else if i.op=1 then(⟨w.seen.set t.pc true,w.dn,w.aM,w.rdy++[t]⟩,false)
   else if i.op=3 then bC code pl e f ⟨w.seen.set t.pc true,w.dn,w.aM,w.rdy⟩ ⟨i.x.toNat,t.c⟩
   else if i.op=4 then bC code pl e f ⟨w.seen.set t.pc true,w.dn,w.aM,w.rdy⟩ ⟨t.pc+1,eN t.c i.x.toNat (pl:Nat)⟩
   else if i.op=5 then if pl=0 then bC code pl e f ⟨w.seen.set t.pc true,w.dn,w.aM,w.rdy⟩ ⟨t.pc+1,t.c⟩ else(⟨w.seen.set t.pc true,w.dn,w.aM,w.rdy⟩,false)
   else if e=true then bC code pl e f ⟨w.seen.set t.pc true,w.dn,w.aM,w.rdy⟩ ⟨t.pc+1,t.c⟩ else(⟨w.seen.set t.pc true,w.dn,w.aM,w.rdy⟩,false)
def Good (code:List aC) (w w':Wk):Prop:=
 w'.seen.length=w.seen.length∧w'.seen.count false≤w.seen.count false∧w'.rdy.length+w'.seen.count false≤w.rdy.length+w.seen.count false∧∀t∈w'.rdy,t∈w.rdy∨∃i,code[t.pc]?=some i∧i.op=1
theorem Good.refl {code:List aC} {w:Wk}:Good code w w:=⟨rfl,Nat.le_refl _,Nat.le_refl _,fun t h=>.inl h⟩
theorem Good.trans {code:List aC} {a b c:Wk} (h:Good code a b) (k:Good code b c):Good code a c:=
 ⟨k.1.trans h.1,Nat.le_trans k.2.1 h.2.1,Nat.le_trans k.2.2.1 h.2.2.1,fun t ht=>by
  rcases k.2.2.2 t ht with q|q
  ·exact h.2.2.2 t q
  ·exact .inr q⟩
theorem Good.step {code:List aC} {w w':Wk} {j:Nat} (hj:w.seen[j]?=some false) (k:Good code ⟨w.seen.set j true,w.dn,w.aM,w.rdy⟩ w'):Good code w w':=by
 have hc:=count_set hj;refine Good.trans (b:=⟨w.seen.set j true,w.dn,w.aM,w.rdy⟩) ⟨?_,?_,?_,fun t h=>.inl h⟩ k
 ·simp
 ·show(w.seen.set j true).count false≤_;omega
 ·show w.rdy.length+(w.seen.set j true).count false≤_;omega
theorem x4 {l:List Bool} {j:Nat} (h:¬l.getD j true=true):l[j]?=some false:=by
 rw[List.getD_eq_getElem?_getD] at h
 cases hq:l[j]? with
 |none=>rw[hq] at h;exact absurd rfl h
 |some b=>rw[hq] at h;cases b with
  |false=>rfl
  |true=>exact absurd rfl h
theorem A3 {l:List Bool} {j:Nat} {b:Bool} (h:l[j]?=some b):l.getD j true=b:=by
 rw[List.getD_eq_getElem?_getD,h];rfl
theorem cj (code:List aC) (pl:Nat) (e:Bool):∀(f:Nat) (w:Wk) (t:fU),Good code w (bC code pl e f w t).1
 |0,w,t=>.refl
 |f+1,w,t=>by
  unfold bC
  split
  ·exact .refl
  ·rename_i hs;have hs:=x4 hs;have hc:=count_set hs
   split
   ·exact .refl
   ·rename_i i hi
    split
    ·exact Good.step hs ⟨rfl,Nat.le_refl _,Nat.le_refl _,fun t h=>.inl h⟩
    ·split
     ·split
      ·exact Good.step hs (cj code pl e f _ _)
      ·exact Good.step hs ((cj code pl e f _ _).trans (cj code pl e f _ _))
     ·split
      ·rename_i h1;refine⟨by simp,by show(w.seen.set t.pc true).count false≤_;omega,by show(w.rdy++[t]).length+(w.seen.set t.pc true).count false≤_;rw[List.length_append];simp only[List.length_cons,List.length_nil];omega,fun t' h=>?_⟩
       rcases List.mem_append.1 h with h|h
       ·exact .inl h
       ·simp only[List.mem_cons,List.not_mem_nil,or_false] at h;subst h;exact .inr ⟨i,hi,h1⟩
      ·split
       ·exact Good.step hs (cj code pl e f _ _)
       ·split
        ·exact Good.step hs (cj code pl e f _ _)
        ·split
         ·split
          ·exact Good.step hs (cj code pl e f _ _)
          ·exact Good.step hs .refl
         ·split
          ·exact Good.step hs (cj code pl e f _ _)
          ·exact Good.step hs .refl
theorem nh (A:List bm) {N ks:Nat} {S s0:St} {H:List bm} {seen:List Bool} {i:Nat} {b:Bool} {pd qd:D} {P Q:List Nat} (hF:S.flr≤N) (hi:seen[i]?=some b) (aY:c8 P Q seen) (hH:Has N S s0 (A++(.box ks (.mem 0 false [pd,qd])::.aI pd 1 (P.map fY)::.aI qd 2 (Q.map nJ)::H))):
  ∃r af,Ev pv 96 [.ptr ks 0 0,.int .i64 (i:Nat),.bool true] s0 r af∧r=.bool (!b)∧∃pd qd P Q,Has N S af (A++(.box ks (.mem 0 false [pd,qd])::.aI pd 1 (P.map fY)::.aI qd 2 (Q.map nJ)::H))∧c8 P Q (seen.set i true):=by
 obtain⟨r,af,h1,h2,zU,zN,P',Q',h3,h4⟩:=A2 (H:=A++H) hF hi ⟨pd,qd,P,Q,Has.me A [_,_,_] hH,aY⟩;exact⟨r,af,h1,h2,zU,zN,P',Q',Has.me [_,_,_] A h3,h4⟩
theorem om (A:List bm) {N ks:Nat} {S s0:St} {H:List bm} {seen:List Bool} {pd qd:D} {P Q:List Nat} (hF:S.flr≤N) (aY:c8 P Q seen) (hH:Has N S s0 (A++(.box ks (.mem 0 false [pd,qd])::.aI pd 1 (P.map fY)::.aI qd 2 (Q.map nJ)::H))):
  ∃r af,Ev pv 94 [.ptr ks 0 0] s0 r af∧r=.tup []∧∃pd qd P Q,Has N S af (A++(.box ks (.mem 0 false [pd,qd])::.aI pd 1 (P.map fY)::.aI qd 2 (Q.map nJ)::H))∧c8 P Q (List.replicate seen.length false):=by
 obtain⟨r,af,h1,h2,zU,zN,P',Q',h3,h4⟩:=vC (H:=A++H) hF ⟨pd,qd,P,Q,Has.me A [_,_,_] hH,aY⟩;exact⟨r,af,h1,h2,zU,zN,P',Q',Has.me [_,_,_] A h3,h4⟩
def QJ (N:Nat) (S st:St) (ks kv kw kl:Nat) (p:Pg) (pl:Nat) (ld:D) (e:Bool) (w:Wk) (H:List bm):Prop:=
 ∃rd pd qd P Q,Has N S st (.box kv (.mem 0 false [p.cd,p.sd,.int .i64 (pl:Nat),ld,.ptr ks 0 0])::.box kw (.mem 0 false [.ptr kl 0 0,rd,.bool e])::.box kl (.mem 0 false (bn w.dn w.aM .nul))::.aI rd 11 (w.rdy.map aW)::.box ks (.mem 0 false [pd,qd])::.aI pd 1 (P.map fY)::.aI qd 2 (Q.map nJ)::H)∧c8 P Q w.seen
theorem Gm {N ks kv kw kl:Nat} {S:St} {H:List bm} {p:Pg} {pl:Nat} {ld:D} {e:Bool} (hF:S.flr≤N) (hp:p.ok) (hR:a_ p) (gR:pl≤4000000000000):∀(f:Nat) (w:Wk) (t:fU) (s0:St) (H:List bm),t.pc<p.code.length→w.seen.length=p.code.length→w.seen.count false<f→w.rdy.length+w.seen.count false≤1048576→QJ N S s0 ks kv kw kl p pl ld e w H→
  ∃r af,Ev pv 97 [.ptr kv 0 0,.ptr kw 0 0,.agg (aW t)] s0 r af∧r=.bool (bC p.code pl e f w t).2∧QJ N S af ks kv kw kl p pl ld e (bC p.code pl e f w t).1 H
 |0,_,_,_,_,_,_,h,_,_=>absurd h (Nat.not_lt_zero _)
 |f+1,w,t,s0,H,DK,jT,dS,rZ,hT=>by
  have ih:=Gm (ks:=ks) (kv:=kv) (kw:=kw) (kl:=kl) (S:=S) (H:=H) (ld:=ld) (e:=e) hF hp hR gR f;obtain⟨rd,pd,qd,P,Q,hH,aY⟩:=hT;have hc:=hp.c.arg N S;have hlen:=hp.cl
  obtain⟨i,hi⟩:∃i,p.code[t.pc]?=some i:=⟨p.code[t.pc]'DK,List.getElem?_eq_getElem _⟩
  obtain⟨b,hb⟩:∃b,w.seen[t.pc]?=some b:=⟨w.seen[t.pc]'(by omega),List.getElem?_eq_getElem _⟩
  have hr:=iF hi;have DG:=(hp.i i (List.mem_of_getElem? hi)).1;have yO:=fz (hR.sh t.pc i hi);have BD:=A3 hb;have jY:bC p.code pl e (f+1) w t=bC p.code pl e (f+1) w t:=rfl
  conv at jY=>rhs;unfold bC
  rw[BD] at jY;simp only[hi] at jY;generalize bC p.code pl e (f+1) w t=R at*;obtain⟨op,x,y,Q0,rs⟩:=i;obtain⟨pc,c⟩:=t;simp only at*;refine Ev.ko rfl OA rfl rfl rfl ?_;refine zE ?_;change ah _ _ _ _ s0 _;refine qq<|qj fun K hK=>qb hH fun k5 st II hH=>?_;dsimp only[u2,u1,u3,u4,setMany,u5,u6,D.cells,Nat.reduceAdd,aK,aW,bn,aQ] at hH;refine qm ?_;refine qe hK<|qq<|qq<|qj fun K hK=>qm ?_;refine qg ?_;refine qp (o:=4) ?_;refine ql hH bZ ?_;refine qp (o:=0) ?_;refine ql hH aS ?_;obtain⟨_,st,aG,rfl,pd,qd,P,Q,hH,aY⟩:=nh [_,_,_,_,_] hF hb aY hH;dsimp only[u3,u4] at hH;refine qv aG ?_;refine qg ?_;refine qe hK ?_
  cases b with
  |true=>
   rw[if_pos rfl] at jY;subst jY;refine qB ?_;refine qq<|qj fun K hK=>qm ?_;refine qe hK<|ah.ret ⟨rx,_,_,_,rfl,rfl,?_⟩;refine⟨rfl,rd,pd,qd,P,Q,hH.drop 1,?_⟩
   have:w.seen.set pc true=w.seen:=by
    refine List.ext_getElem? fun j=>?_
    by_cases hj:j=pc
    ·subst hj;rw[List.getElem?_set_self (by omega),hb]
    ·rw[List.getElem?_set_ne (fun e=>hj e.symm)]
   rw[←this];exact aY
  |false=>
   rw[if_neg (by decide)] at jY;have BH:=count_set hb;have DE:(w.seen.set pc true).length=p.code.length:=by rw[List.length_set];exact jT
   have KD:(w.seen.set pc true).count false<f:=by omega
   have JI:w.rdy.length+(w.seen.set pc true).count false≤1048576:=by omega
   generalize w.seen.set pc true=sn at*;clear hb BD BH jT dS rZ;refine qC ?_;refine ah.skip<|qq<|qj fun K hK=>qm ?_;refine qg ?_;refine qp (o:=0) ?_;refine qp (o:=0) ?_;refine ql hH bZ ?_;refine qp (o:=0) ?_;refine ql hH aS ?_;refine qr fun Je DN=>?_;refine ab.eB rfl (ev rfl) (by assumption) rfl (by dsimp only[Fr.put,u1,u2]<;>rfl) ?_;refine qa hH fun k7 st Qg hH=>?_;refine qS hH aS fun st hH=>?_;dsimp only[u2,u1,u3,u4,setMany,u5,u6,D.cells,Nat.reduceAdd,aK,aW,bn,aQ] at hH;refine qe hK<|qq<|qj fun K hK=>?_;refine ab.bN (m:=11) hH rfl (ev rfl) (by exact bZ) (by dsimp only[List.drop_succ_cons,List.drop_zero,List.take_succ_cons,List.take_zero,aK,aW,bn,aQ]<;>rfl) rfl rfl (by dsimp only[Fr.put,u1,u2]<;>rfl) ?_;refine qa hH fun k8 st LD hH=>?_;refine qS hH aS fun st hH=>?_;dsimp only[u2,u1,u3,u4,setMany,u5,u6,D.cells,Nat.reduceAdd,aK,aW,bn,aQ] at hH;refine qe hK<|qq<|qj fun K hK=>qp (o:=0) ?_;refine ql hH aS ?_;refine qA ?_;refine qp (o:=0) ?_;refine qT hH aS fun st hH=>?_;dsimp only[u2,u1,u3,u4,setMany,u5,u6,D.cells,Nat.reduceAdd,aK,aW,bn,aQ] at hH;refine qe hK<|qq<|qq<|qj fun K hK=>qp (o:=0) ?_;refine ql hH bZ ?_;refine qe hK<|ah.merge (fun fr st=>∃(t':fU) (tmp:List (Nat×D)),fr=⟨33,[.ptr kv 0 0,.ptr kw 0 0,b8 fr 2,b8 fr 3,b8 fr 4,.ptr k5 0 0,.bool false,.ptr k7 0 0,.ptr k8 0 0,b8 fr 9,b8 fr 10,b8 fr 11,b8 fr 12,b8 fr 13,b8 fr 14,b8 fr 15,b8 fr 16,b8 fr 17,b8 fr 18,b8 fr 19,b8 fr 20,b8 fr 21,b8 fr 22,b8 fr 23,b8 fr 24,b8 fr 25,b8 fr 26,b8 fr 27,b8 fr 28,b8 fr 29,b8 fr 30,b8 fr 31,b8 fr 32],tmp⟩∧Has N S st (.box k8 (.mem 0 false (aW t'))::.box k7 (.mem 0 false [.int .i64 op,.int .i64 x,.int .i64 y,Q0])::.box k5 (.mem 0 false (aW ⟨pc,c⟩))::.box kv (.mem 0 false [p.cd,p.sd,.int .i64 (pl:Nat),ld,.ptr ks 0 0])::.box kw (.mem 0 false [.ptr kl 0 0,rd,.bool e])::.box kl (.mem 0 false (bn w.dn w.aM .nul))::.aI rd 11 (w.rdy.map aW)::.box ks (.mem 0 false [pd,qd])::.aI pd 1 (P.map fY)::.aI qd 2 (Q.map nJ)::H)∧(R=bC p.code pl e f ⟨sn,w.dn,w.aM,w.rdy⟩ t')∧(t'.pc<p.code.length)) ?_ ?_
   ·refine ah.block<|qq<|qj fun K hK=>qg ?_;refine qm ?_;refine qe hK<|zI (fun h7=>?_) fun h7=>?_
    ·rw[if_pos h7] at jY;subst jY;have Cp:=hH;change ah _ _ _ _ _ _;refine qq ?_;generalize hK:b6 _ _ _ _=K;refine ah.Fl rfl ?_;refine gu.cons ?_;refine qm ?_;refine ab.nil ⟨rfl,?_⟩;refine gu.cons ?_;refine qg ?_;refine ab.nil ⟨rfl,?_⟩;refine gu.cons ?_;refine qp (o:=0) ?_;refine ab.nil ⟨rfl,?_⟩;refine gu.cons ?_;refine ql hH eJ ?_;refine ab.nil ⟨rfl,?_⟩;refine gu.cons ?_;refine qm ?_;refine ab.nil ⟨rfl,?_⟩;refine gu.cons ?_;refine qg ?_;refine ab.nil ⟨rfl,?_⟩;refine gu.cons ?_;refine qp (o:=0) ?_;refine ab.nil ⟨rfl,?_⟩;refine gu.cons ?_;refine ql hH eJ ?_;refine ab.nil ⟨rfl,?_⟩;refine gu.cons ?_;refine qp (o:=1) ?_;refine ab.nil ⟨rfl,?_⟩;refine gu.cons ?_;refine ab.bN (m:=10) hH rfl (ev rfl) (by exact cU) (by dsimp only[List.drop_succ_cons,List.drop_zero,List.take_succ_cons,List.take_zero,aK,aW,bn,aQ]<;>rfl) rfl rfl (aa rfl _) ?_;refine ab.nil ⟨rfl,?_⟩;refine gu.cons ?_;refine qg ?_;refine ab.nil ⟨rfl,?_⟩;refine gu.cons ?_;refine qp (o:=0) ?_;refine ab.nil ⟨rfl,?_⟩;refine gu.cons ?_;refine qT hH gk fun st hH=>?_;dsimp only[u2,u1,u3,u4,setMany,u5,u6,D.cells,Nat.reduceAdd,aK,aW,bn,aQ] at hH;refine ab.nil ⟨by exact Bool.and_eq_true_iff.2 ⟨B3 rfl rfl rfl (Cp.at cU) (hH.at cU) (Cp.at cU) rfl,rfl⟩,?_⟩;refine gu.cons ?_;refine qg ?_;refine ab.nil ⟨rfl,?_⟩;refine gu.cons ?_;refine qp (o:=1) ?_;refine ab.nil ⟨rfl,?_⟩;refine gu.cons ?_;refine qT hH gk fun st hH=>?_;dsimp only[u2,u1,u3,u4,setMany,u5,u6,D.cells,Nat.reduceAdd,aK,aW,bn,aQ] at hH;refine ab.nil ⟨rfl,?_⟩;refine gu.nil ?_;subst hK;refine qq<|qj fun K hK=>qm ?_;refine qe hK<|ah.ret ⟨rx,_,_,_,rfl,rfl,?_⟩;exact⟨rfl,rd,pd,qd,P,Q,hH.drop 3,aY⟩
    ·rw[if_neg h7] at jY;refine qq<|qj fun K hK=>qg ?_;refine qm ?_;refine qe hK<|zI (fun h2=>?_) fun h2=>?_
     ·rw[if_pos h2] at jY;obtain⟨_,⟨hx0,hx1⟩,hy0,hy1⟩:=(yO.resolve_left h7).resolve_right (by omega);obtain⟨xn,rfl⟩:=Int.eq_ofNat_of_zero_le hx0;obtain⟨yn,rfl⟩:=Int.eq_ofNat_of_zero_le hy0;have GH:=cj p.code pl e f ⟨sn,w.dn,w.aM,w.rdy⟩ ⟨xn,c⟩;have GM:=Has.me [_,_,_] [_,_,_,_,_,_,_] hH;obtain⟨_,st1,aG,rfl,hT⟩:=ih ⟨sn,w.dn,w.aM,w.rdy⟩ ⟨xn,c⟩ _ _ (by show xn<_;omega) DE KD JI ⟨rd,pd,qd,P,Q,GM,aY⟩;clear GM;have jY:R=if(bC p.code pl e f ⟨sn,w.dn,w.aM,w.rdy⟩ ⟨xn,c⟩).2=true then bC p.code pl e f ⟨sn,w.dn,w.aM,w.rdy⟩ ⟨xn,c⟩ else bC p.code pl e f (bC p.code pl e f ⟨sn,w.dn,w.aM,w.rdy⟩ ⟨xn,c⟩).1 ⟨yn,c⟩:=jY;generalize bC p.code pl e f ⟨sn,w.dn,w.aM,w.rdy⟩ ⟨xn,c⟩=R1 at*;obtain⟨w1,b1⟩:=R1;obtain⟨jV,ch,eI,An⟩:=GH;simp only at jV ch eI An aG hT jY;obtain⟨PK,PN,PM,P1,Q1,GM,J_⟩:=hT;have GM:=Has.me [_,_,_,_,_,_,_] [_,_,_] GM;dsimp only[u3,u4] at GM
      cases b1 with
      |true=>
       rw[if_pos rfl] at jY;subst jY;have jO:true=true:=rfl;refine qq<|qj fun K hK=>qm ?_;refine qm ?_;refine qp (o:=1) ?_;refine ql hH bZ ?_;refine qp (o:=1) ?_;refine ab.bN (m:=10) hH rfl (ev rfl) (by exact cU) (by dsimp only[List.drop_succ_cons,List.drop_zero,List.take_succ_cons,List.take_zero,aK,aW,bn,aQ]<;>rfl) rfl rfl (aa rfl _) ?_;refine ab.go (d:=.agg (aW ⟨xn,c⟩)) (st1:=_) rfl rfl rfl (aa rfl _) ?_;refine qv aG ?_;refine qm ?_;refine qs ?_ (hg:=wn jO);refine qs ?_ (hg:=wn jO);refine qs ?_ (hg:=wn jO);refine qs ?_ (hg:=wn jO);refine qs ?_ (hg:=wn jO);refine qs ?_ (hg:=wn jO);refine qs ?_ (hg:=wn jO);refine qs ?_ (hg:=wn jO);refine qt jO ?_;refine qm ?_;refine qe hK<|ah.ret ⟨rx,_,_,_,rfl,rfl,?_⟩;exact⟨rfl,PK,PN,PM,P1,Q1,GM.drop 3,J_⟩
      |false=>
       rw[if_neg (by decide)] at jY;have jO:false=false:=rfl;refine qq<|qj fun K hK=>qm ?_;refine qm ?_;refine qp (o:=1) ?_;refine ql hH bZ ?_;refine qp (o:=1) ?_;refine ab.bN (m:=10) hH rfl (ev rfl) (by exact cU) (by dsimp only[List.drop_succ_cons,List.drop_zero,List.take_succ_cons,List.take_zero,aK,aW,bn,aQ]<;>rfl) rfl rfl (aa rfl _) ?_;refine ab.go (d:=.agg (aW ⟨xn,c⟩)) (st1:=_) rfl rfl rfl (aa rfl _) ?_;have hH:=GM;refine qv aG ?_;refine qm ?_;refine qm ?_ (hg:=wi jO);refine qm ?_ (hg:=wi jO);refine qp (o:=2) ?_ (hg:=wi jO);refine ql hH bZ ?_ (hg:=wi jO);refine qp (o:=1) ?_ (hg:=wi jO);refine ab.bN (m:=10) hH (ax rfl rfl rfl jO) (ev rfl) (by exact cU) (by dsimp only[List.drop_succ_cons,List.drop_zero,List.take_succ_cons,List.take_zero,aK,aW,bn,aQ]<;>rfl) rfl rfl (aa rfl _) ?_;refine ab.go (d:=.agg (aW ⟨yn,c⟩)) (st1:=_) (ax rfl rfl rfl jO) rfl rfl (aa rfl _) ?_;obtain⟨_,st,aG,rfl,hT⟩:=ih w1 ⟨yn,c⟩ _ _ (by show yn<_;omega) (by omega) (by omega) (by omega) ⟨PK,PN,PM,P1,Q1,hH.drop 3,J_⟩;refine qv aG ?_ (hg:=wi jO);refine qu jO ?_;refine qm ?_;refine qe hK<|ah.ret ⟨rx,_,_,_,rfl,rfl,?_⟩;rw[jY];exact⟨rfl,hT⟩
     ·rw[if_neg h2] at jY;refine qq<|qj fun K hK=>qg ?_;refine qm ?_;refine qe hK<|zI (fun h1=>?_) fun h1=>?_
      ·rw[if_pos h1] at jY;subst jY;refine qq<|qj fun K hK=>qm ?_;refine qm ?_;refine qg ?_;refine qp (o:=1) ?_;refine ql hH eJ ?_;refine ab.bN (m:=11) hH rfl (ev rfl) (by exact cU) (by dsimp only[List.drop_succ_cons,List.drop_zero,List.take_succ_cons,List.take_zero,aK,aW,bn,aQ]<;>rfl) rfl rfl (aa rfl _) ?_;refine qh (s:=11) (vs:=[_]) hH fun k77 st Kk hH=>?_;refine ab.bT (s:=11) hH rfl (ev rfl) (ev rfl) (by exact iX) (by exact hH.rows (by exact aS)) rfl rfl rfl rfl rfl rfl rfl ⟨(Nat.le_of_ble_eq_true rfl),(Nat.le_of_ble_eq_true rfl)⟩ (fun _=>(aa rfl _)) (by simp only[List.length_cons,List.length_nil,List.length_map]<;>omega) (by exact .inl hF) (fun QN st hH=>?_);dsimp only[u2,u1,u3,u4,setMany,u5,u6,D.cells,Nat.reduceAdd,aK,aW,bn,aQ] at hH;refine qg ?_;refine qp (o:=1) ?_;refine qT hH gk (fun st hH=>?_) (i_:=hH.fI iX);dsimp only[u2,u1,u3,u4,setMany,u5,u6,D.cells,Nat.reduceAdd,aK,aW,bn,aQ] at hH;refine qe hK<|qq<|qj fun K hK=>qm ?_;refine qe hK<|ah.ret ⟨rx,_,_,_,rfl,rfl,?_⟩;refine⟨rfl,QN,pd,qd,P,Q,?_,aY⟩;rw[List.map_append];exact hH.drop 4
      ·rw[if_neg h1] at jY;refine qq<|qj fun K hK=>qg ?_;refine qm ?_;refine qe hK<|zI (fun h3=>?_) fun h3=>?_
       ·rw[if_pos h3] at jY;obtain⟨_,hx0,hx1⟩:=((yO.resolve_left h7).resolve_left (by omega)).resolve_right (by omega);obtain⟨xn,rfl⟩:=Int.eq_ofNat_of_zero_le hx0;refine qj fun K hK=>qp (o:=1) ?_;refine ql hH bZ ?_;refine qp (o:=0) ?_;refine qT hH aS fun st hH=>?_;dsimp only[u2,u1,u3,u4,setMany,u5,u6,D.cells,Nat.reduceAdd,aK,aW,bn,aQ] at hH;refine qe hK ?_;exact⟨⟨xn,c⟩,_,rfl,hH,jY,by show xn<_;omega⟩
       ·rw[if_neg h3] at jY;refine qq<|qj fun K hK=>qg ?_;refine qm ?_;refine qe hK<|zI (fun h4=>?_) fun h4=>?_
        ·rw[if_pos h4] at jY;obtain⟨_,DJ,hx0,hx1⟩:=(((yO.resolve_left h7).resolve_left (by omega)).resolve_left (by omega)).resolve_right (by omega);obtain⟨xn,rfl⟩:=Int.eq_ofNat_of_zero_le hx0;refine qj fun K hK=>qp (o:=1) ?_;refine ql hH bZ ?_;refine qm ?_;refine qg ?_;refine qp (o:=2) ?_;refine ql hH dI ?_;refine qp (o:=1) ?_;refine ab.HZ (m:=10) (s:=1) (i:=xn) (o:=1+xn) rfl (ev rfl) (ev rfl) rfl rfl (by omega) (by omega) (aa rfl _) ?_;refine ab.ra hH rfl (ev rfl) (ev rfl) rfl (by exact rfl) aS (by show 1+xn+1≤11;omega) (.inl hF) (fun st hH=>?_);change Has _ _ _ (.box k8 (.mem 0 false (setMany (_::aQ c) (1+xn) [.int .i64 (pl:Nat)]))::_) at hH;rw[Fb (by omega)] at hH;refine qe hK ?_;exact⟨⟨pc+1,eN c xn (pl:Nat)⟩,_,rfl,hH,jY,DJ⟩
        ·rw[if_neg h4] at jY;refine qq<|qj fun K hK=>qg ?_;refine qm ?_;refine qe hK<|zI (fun h5=>?_) fun h5=>?_
         ·rw[if_pos h5] at jY;have DJ:pc+1<p.code.length:=by omega
          refine qq<|qj fun K hK=>qm ?_;refine qg ?_;refine qp (o:=2) ?_;refine ql hH dI ?_;refine qg ?_;refine qe hK ?_
          by_cases ha:pl=0
          ·rw[if_pos ha] at jY;subst ha;refine ah.cond (v:=false) (by dsimp only[Fr.ev,Fr.get,nth,V.look];rfl) (fun h=>by cases h) (fun _=>?_);refine ah.skip ?_;exact⟨⟨pc+1,c⟩,_,rfl,hH,jY,DJ⟩
          ·rw[if_neg ha] at jY;subst jY;refine qD rfl (by simp;omega) ?_;refine qq<|qj fun K hK=>qm ?_;refine qe hK<|ah.ret ⟨rx,_,_,_,rfl,rfl,?_⟩;exact⟨rfl,rd,pd,qd,P,Q,hH.drop 3,aY⟩
         ·rw[if_neg h5] at jY;have h6:op=6:=by omega
          have DJ:pc+1<p.code.length:=by omega
          refine qq<|qj fun K hK=>qg ?_;refine qm ?_;refine qe hK<|qD rfl (by simp[h6]) ?_;refine qq<|qj fun K hK=>qm ?_;refine qg ?_;refine qp (o:=2) ?_;refine ql hH eJ ?_;refine qg ?_;refine qe hK ?_
          cases e with
          |true=>
           rw[if_pos rfl] at jY;refine qC ?_;refine ah.skip ?_;exact⟨⟨pc+1,c⟩,_,rfl,hH,jY,DJ⟩
          |false=>
           rw[if_neg (by decide)] at jY;subst jY;refine qB ?_;refine qq<|qj fun K hK=>qm ?_;refine qe hK<|ah.ret ⟨rx,_,_,_,rfl,rfl,?_⟩;exact⟨rfl,rd,pd,qd,P,Q,hH.drop 3,aY⟩
   ·rintro fr st ⟨t',tmp,hfr,hH,Co,Ni⟩;rw[hfr];clear hfr;generalize b8 fr=ee;clear fr;obtain⟨Q4,c'⟩:=t';dsimp only[aW] at hH;refine qq<|qj fun K hK=>qm ?_;refine qm ?_;refine ab.bN (m:=11) hH rfl (ev rfl) (by exact aS) (by dsimp only[List.drop_succ_cons,List.drop_zero,List.take_succ_cons,List.take_zero,aK,aW,bn,aQ]<;>rfl) rfl rfl (aa rfl _) ?_;have hH:=hH.drop 3;obtain⟨_,st,aG,rfl,hT⟩:=ih ⟨sn,w.dn,w.aM,w.rdy⟩ ⟨Q4,c'⟩ _ _ Ni DE KD JI ⟨rd,pd,qd,P,Q,hH,aY⟩;refine qv aG ?_;refine qm ?_;refine qe hK<|ah.ret ⟨rx,_,_,_,rfl,rfl,?_⟩;rw[Co];exact⟨rfl,hT⟩
end Go.Proofs.Ytnleclohocdkaaa
namespace Go.Proofs.Ytnleclohocdkaaa
open Go.V Go
def cp (fr:Go.V.Fr) (k:Nat):Go.V.D:=Go.V.nth .bh fr.loc k
structure VL where
 dn:Bool
 aM:l5
 td:D
 dV:List fU
def gW (l:VL):List D:=bn l.dn l.aM l.td
def rN (l:VL):bm:=.aI l.td 11 (l.dV.map aW)
theorem Gk (A:List bm) {n:Nat} (hn:A.length=n) {L:List VL} {i:Nat} {l:VL} (h:L[i]?=some l) {H:List bm}:(A++(L.map rN++H))[n+i]?=some (rN l):=by
 have hi:=aR h;rw[List.getElem?_append_right (by omega),List.getElem?_append_left (by simp;omega),hn,Nat.add_sub_cancel_left,List.getElem?_map,h];rfl
theorem Cx {L:List VL} {i:Nat} {l:VL} (h:L[i]?=some l):(L.map gW)[i]?=some (gW l):=by rw[List.getElem?_map,h];rfl
theorem tQ {l:List fU} {i:Nat} {q:fU} (h:l[i]?=some q):(l.map aW)[i]?=some (aW q):=by rw[List.getElem?_map,h];rfl
theorem yv {N:Nat} {S st:St} {H:List bm} {j:Nat} {x:D} {s:Nat} {es:List (List D)} (h:Has N S st H) (hj:H[j]?=some (.aI x s es)):x.ref≤st.bs.length:=by
 rcases Nat.eq_zero_or_pos x.ref with h0|h0
 ·omega
 ·have:=h.Ae hj (k:=x.ref-1) (by show x.ref=x.ref-1+1;omega);omega
def MH (A:List bm) (N:Nat) (S st:St) (ks kv:Nat) (p:Pg) (pl:Nat) (ld:D) (L:List VL) (H:List bm):Prop:=
 ∃pd qd P Q sn,Has N S st (A++(.box kv (.mem 0 false [p.cd,p.sd,.int .i64 (pl:Nat),ld,.ptr ks 0 0])::.box ks (.mem 0 false [pd,qd])::.aI pd 1 (P.map fY)::.aI qd 2 (Q.map nJ)::.aI ld 12 (L.map gW)::(L.map rN++H)))∧c8 P Q sn∧sn.length=p.code.length
theorem MH.push (A B:List bm) {N:Nat} {S st:St} {ks kv:Nat} {p:Pg} {pl:Nat} {ld:D} {L:List VL} {H:List bm} (h:MH (A++B) N S st ks kv p pl ld L H):MH B N S st ks kv p pl ld L (A++H):=by
 obtain⟨pd,qd,P,Q,sn,hH,aY,iw⟩:=h;refine⟨pd,qd,P,Q,sn,?_,aY,iw⟩;have:=Has.me (H:=H) A (B++(.box kv (.mem 0 false [p.cd,p.sd,.int .i64 (pl:Nat),ld,.ptr ks 0 0])::.box ks (.mem 0 false [pd,qd])::.aI pd 1 (P.map fY)::.aI qd 2 (Q.map nJ)::.aI ld 12 (L.map gW)::L.map rN)) (by simpa only[List.append_assoc,List.cons_append] using hH)
 simpa only[List.append_assoc,List.cons_append] using this
theorem MH.pull (A B:List bm) {N:Nat} {S st:St} {ks kv:Nat} {p:Pg} {pl:Nat} {ld:D} {L:List VL} {H:List bm} (h:MH B N S st ks kv p pl ld L (A++H)):MH (A++B) N S st ks kv p pl ld L H:=by
 obtain⟨pd,qd,P,Q,sn,hH,aY,iw⟩:=h;refine⟨pd,qd,P,Q,sn,?_,aY,iw⟩;have:=Has.me (H:=H) (B++(.box kv (.mem 0 false [p.cd,p.sd,.int .i64 (pl:Nat),ld,.ptr ks 0 0])::.box ks (.mem 0 false [pd,qd])::.aI pd 1 (P.map fY)::.aI qd 2 (Q.map nJ)::.aI ld 12 (L.map gW)::L.map rN)) A (by simpa only[List.append_assoc,List.cons_append] using hH)
 simpa only[List.append_assoc,List.cons_append] using this
def l8 (code:List aC) (pl:Nat) (e:Bool):List fU→Wk→Wk
 |[],w=>w
 |t::ts,w=>if(bC code pl e (code.length+1) w t).2=true then(bC code pl e (code.length+1) w t).1 else l8 code pl e ts (bC code pl e (code.length+1) w t).1
def jx (n:Nat) (dn:Bool) (aM:l5):Wk:=⟨List.replicate n false,dn,aM,[]⟩
theorem ry (code:List aC) (pl:Nat) (e:Bool):∀(l:List fU) (w:Wk),Good code w (l8 code pl e l w)
 |[],w=>.refl
 |t::ts,w=>by
  unfold l8
  split
  ·exact cj ..
  ·exact(cj ..).trans (ry code pl e ts _)
theorem tq {N ks kv:Nat} {S s0:St} {H:List bm} {p:Pg} {pl:Nat} {ld:D} {L:List VL} {i:Nat} {l:VL} {e:Bool} (hF:S.flr≤N) (hp:p.ok) (hR:a_ p) (gR:pl≤4000000000000) (hl:L[i]?=some l) (xI:∀t∈l.dV,t.pc<p.code.length) (tf:l.dV.length≤1048576) (hM:MH [] N S s0 ks kv p pl ld L H):
  ∃r af,Ev pv 70 [.ptr kv 0 0,.int .i64 (i:Nat),.bool e] s0 r af∧∃rd,r=.tup [.agg (bn (l8 p.code pl e l.dV (jx p.code.length l.dn l.aM)).dn (l8 p.code pl e l.dV (jx p.code.length l.dn l.aM)).aM .nul),rd]∧MH [.aI rd 11 ((l8 p.code pl e l.dV (jx p.code.length l.dn l.aM)).rdy.map aW)] N S af ks kv p pl ld L H:=by
 obtain⟨pd,qd,P,Q,sn,hH,aY,iw⟩:=hM;have hcl:=hR.cl;have iH:=Cx hl;have hil:=aR hl;generalize hW:l8 p.code pl e l.dV (jx p.code.length l.dn l.aM)=W at*;obtain⟨dn,aM,td,dV⟩:=l;simp only at hW xI tf;dsimp only[u4] at hH;refine Ev.ko rfl OO rfl rfl rfl ?_;refine zE ?_;change ah _ _ _ _ s0 _;refine qq<|qj fun K hK=>qa hH fun k6 st HM hH=>?_;refine qm ?_;refine qe hK<|qq<|qj fun K hK=>qm ?_;refine qg ?_;refine qp (o:=3) ?_;refine ql hH bZ ?_;refine qm ?_;refine qi hH gk fun PX JV=>?_;refine ab.ue hH rfl (ev rfl) (by assumption) (by exact gk) (by assumption) rfl (by dsimp only[Fr.put,u1,u2]<;>rfl) ?_;refine qa hH fun k8 st LD hH=>?_;refine qS hH aS fun st hH=>?_;dsimp only[u2,u1,u3,u4,setMany,u5,u6,D.cells,Nat.reduceAdd,aK,aW,bn,aQ,gW] at hH;refine qe hK<|qq<|qj fun K hK=>qp (o:=0) ?_;refine ql hH aS ?_;refine qp (o:=1) ?_;refine ab.bN (m:=10) hH rfl (ev rfl) (by exact aS) (by dsimp only[List.drop_succ_cons,List.drop_zero,List.take_succ_cons,List.take_zero,aK,aW,bn,aQ,gW]<;>rfl) rfl rfl (by dsimp only[Fr.put,u1,u2]<;>rfl) ?_;refine ab.go (d:=.agg (bn dn aM .nul)) (st1:=_) rfl rfl rfl (by dsimp only[Fr.put,u1,u2]<;>rfl) ?_;refine qa hH fun k9 st SN hH=>?_;refine qS hH aS fun st hH=>?_;dsimp only[u2,u1,u3,u4,setMany,u5,u6,D.cells,Nat.reduceAdd,aK,aW,bn,aQ,gW] at hH;refine qe hK<|qq<|qj fun K hK=>qm ?_;refine ab.gm (qs:=[(0,_),(2,_)]) rfl rfl rfl rfl ⟨rfl,(ev rfl),(by rfl),rfl,(ev rfl),(by rfl),trivial⟩ (by intro q hq;simp only[List.mem_cons,List.not_mem_nil,or_false] at hq;rcases hq with rfl|rfl<;>exact⟨rfl,by exact Nat.le_of_ble_eq_true rfl⟩) (by show List.foldl _ [_,_,_] _=_;dsimp only[List.foldl_cons,List.foldl_nil,u2,u1]<;>rfl) (by dsimp only[Fr.put,u1,u2]<;>rfl) ?_;refine qb hH fun k27 st S7 hH=>?_;refine qm ?_;refine qe hK ?_;have cx:=hH;refine qq<|qj fun K hK=>qm ?_;refine qg ?_;refine qp (o:=4) ?_;refine ql hH eJ ?_;obtain⟨_,st,aG,rfl,pd,qd,P,Q,hH,aY⟩:=om [_,_,_,_,_] hF aY hH;dsimp only[u3,u4] at hH;refine qv aG ?_;refine qe hK ?_;clear cx;rw[iw] at aY;have hH:=Has.me [_,_,_,_] [_] hH;have hH:=Has.me [_,_,_,_,_] [_,_,_] hH;have hH:=Has.me [_,_,_] [_,_,_] hH;have hH:=Has.me [_] [_,_,_] (hH.e_ 11);dsimp only[u3,u4] at hH;have IA:=hH.rows (Gk [_,_,_,_,_,_,_,_,_,_] rfl hl);have GG:=ry p.code pl e dV (jx p.code.length dn aM);refine qq<|qq<|qj fun K hK=>qp (o:=11) ?_;refine ql hH iX ?_;refine ab.tV rfl (ev rfl) IA rfl (by dsimp only[Fr.put,u1,u2]<;>rfl) ?_;simp only[List.length_map];refine qm ?_;refine qe hK<|ah.block<|ah.loop (fun mm fr st=>∃(j:Nat) (w:Wk) (rest:List fU) (rd pd qd:D) (P Q:List Nat),fr.clean=⟨37,[.ptr kv 0 0,.int .i64 (i:Nat),.bool e,cp fr 3,cp fr 4,cp fr 5,.ptr k6 0 0,.nul,.ptr k8 0 0,.ptr k9 0 0,.ptr k27 0 0,cp fr 11,cp fr 12,cp fr 13,cp fr 14,cp fr 15,cp fr 16,cp fr 17,cp fr 18,cp fr 19,cp fr 20,cp fr 21,cp fr 22,cp fr 23,cp fr 24,cp fr 25,cp fr 26,cp fr 27,cp fr 28,cp fr 29,cp fr 30,cp fr 31,cp fr 32,cp fr 33,td,.int .i64 (dV.length:Nat),.int .i64 (j:Nat)],[]⟩∧Has N S st (.box kv (.mem 0 false [p.cd,p.sd,.int .i64 (pl:Nat),ld,.ptr ks 0 0])::.box k27 (.mem 0 false [.ptr k9 0 0,rd,.bool e])::.box k9 (.mem 0 false (bn w.dn w.aM .nul))::.aI rd 11 (w.rdy.map aW)::.box ks (.mem 0 false [pd,qd])::.aI pd 1 (P.map fY)::.aI qd 2 (Q.map nJ)::.box k8 (.mem 0 false (bn dn aM td))::.box k6 (.mem 0 false (bn false pq .nul))::.aI ld 12 (L.map gW)::(L.map rN++H))∧(j+mm=dV.length)∧(rest=dV.drop j)∧(l8 p.code pl e rest w=W)∧(w.seen.length=p.code.length)∧(w.rdy.length+w.seen.count false≤1048576)∧(c8 P Q w.seen)) (dV.length) ?_ ?_
 ·exact⟨0,jx p.code.length dn aM,dV,.nul,_,_,_,_,rfl,hH,by omega,rfl,hW,by simp[jx],by(have:=List.count_le_length (a:=false) (l:=(jx p.code.length dn aM).seen);simp[jx] at this⊢;omega),aY⟩
 rintro mm fr st ⟨j,w,rest,rd,pd,qd,P,Q,hfr,hH,hj,mw,hex,jT,rZ,aY⟩;rw[hfr];clear hfr;generalize cp fr=ee;clear fr;refine qq<|qj fun K hK=>qg ?_;refine qe hK ?_;have IA:=hH.rows (Gk [_,_,_,_,_,_,_,_,_,_] rfl hl);refine qq<|zP (fun hlt=>?_) fun hlt=>?_
 ·refine ah.skip ?_;have jU:j<dV.length:=by omega
  obtain⟨t,ht⟩:∃t,dV[j]?=some t:=⟨dV[j]'jU,List.getElem?_eq_getElem _⟩
  have JG:=tQ ht;have MS:=xI t (List.mem_of_getElem? ht)
  have sa:rest=t::dV.drop (j+1):=by
   rw[mw,List.drop_eq_getElem_cons jU]
   congr 1
   exact Option.some.inj ((List.getElem?_eq_getElem _).symm.trans ht)
  have BH:=List.count_le_length (a:=false) (l:=w.seen);have GH:=cj p.code pl e (p.code.length+1) w t;rw[sa] at hex;have hex:(if(bC p.code pl e (p.code.length+1) w t).2=true then(bC p.code pl e (p.code.length+1) w t).1 else l8 p.code pl e (dV.drop (j+1)) (bC p.code pl e (p.code.length+1) w t).1)=W:=hex;refine qq<|ah.block<|qq<|qj fun K hK=>ab.vH rfl (ev rfl) (ev rfl) IA rfl rfl JG (fun _=>(aa rfl _)) (fun Rb Ns=>?_);refine qR ?_;refine qa hH fun k12 st Ta hH=>?_;dsimp only[u2,u1,u3,u4,setMany,u5,u6,D.cells,Nat.reduceAdd,aK,aW,bn,aQ,gW] at hH;refine qS hH aS fun st hH=>?_;dsimp only[u2,u1,u3,u4,setMany,u5,u6,D.cells,Nat.reduceAdd,aK,aW,bn,aQ,gW] at hH;refine qe hK<|qq<|qj fun K hK=>qm ?_;refine qm ?_;refine ab.bN (m:=11) hH rfl (ev rfl) (by exact aS) (by dsimp only[List.drop_succ_cons,List.drop_zero,List.take_succ_cons,List.take_zero,aK,aW,bn,aQ,gW]<;>rfl) rfl rfl (aa rfl _) ?_;have hH:=hH.drop 1;obtain⟨_,st,aG,rfl,hT⟩:=Gm (ks:=ks) (kv:=kv) (kw:=k27) (kl:=k9) (S:=S) (H:=H) (ld:=ld) (e:=e) hF hp hR gR (p.code.length+1) w t _ _ MS jT (by omega) rZ ⟨rd,pd,qd,P,Q,hH,aY⟩;refine qv aG ?_;refine qe hK ?_;generalize bC p.code pl e (p.code.length+1) w t=R1 at*;obtain⟨w1,b1⟩:=R1;obtain⟨jV,ch,eI,An⟩:=GH;simp only at jV ch eI An hT hex;obtain⟨rd,pd,qd,P,Q,hH,aY⟩:=hT;have DE:w1.seen.length=p.code.length:=jV.trans jT
  cases b1 with
  |true=>
   rw[if_pos rfl] at hex;subst hex;refine qB ?_;refine ah.exit ?_;have hH:=Has.me [_,_,_,_,_,_,_] [_,_] hH;dsimp only[u3,u4] at hH;have Cp:=hH;have JK:=yv hH gk;have JJ:=hH.Ae eJ (k:=k9) rfl;change ah _ _ _ _ _ _;refine qq ?_;generalize hK:b6 _ _ _ _=K;refine ah.Fl rfl ?_;refine gu.cons ?_;refine ab.bN (m:=12) hH rfl (ev rfl) (by exact eJ) (by dsimp only[List.drop_succ_cons,List.drop_zero,List.take_succ_cons,List.take_zero,aK,aW,bn,aQ,gW]<;>rfl) rfl rfl (aa rfl _) ?_;refine ab.nil ⟨rfl,?_⟩;refine gu.cons ?_;refine qm ?_;refine ab.nil ⟨rfl,?_⟩;refine gu.cons ?_;refine qg ?_;refine ab.nil ⟨rfl,?_⟩;refine gu.cons ?_;refine qp (o:=1) ?_;refine ab.nil ⟨rfl,?_⟩;refine gu.cons ?_;refine ql hH dI ?_;refine ab.nil ⟨rfl,?_⟩;refine gu.cons ?_;refine qS hH bZ fun st hH=>?_;dsimp only[u2,u1,u3,u4,setMany,u5,u6,D.cells,Nat.reduceAdd,aK,aW,bn,aQ,gW] at hH;refine ab.nil ⟨by exact Bool.and_eq_true_iff.2 ⟨nX rfl rfl rfl (Cp.at dI) (hH.at dI) (Cp.at dI) (by simp only[refs,D.ref];omega),rfl⟩,?_⟩;refine gu.cons ?_;refine qm ?_;refine ab.nil ⟨rfl,?_⟩;refine gu.nil ?_;subst hK;refine ah.ret ⟨rx,_,_,_,hH.pK rfl bZ rfl rfl,rfl,rd,rfl,pd,qd,P,Q,_,?_,aY,DE⟩;exact((Has.me [_,_,_] [_] (hH.drop 2)).erase 2).erase 2
  |false=>
   rw[if_neg (by decide)] at hex;refine qC ?_;refine ah.skip<|qj fun K hK=>qA ?_;refine qm ?_;refine qe hK ?_;exact⟨mm-1,by omega,⟨j+1,w1,dV.drop (j+1),rd,pd,qd,P,Q,rfl,hH,by omega,rfl,hex,DE,by omega,aY⟩⟩
 ·refine ah.exit ?_;have DP:rest=[]:=by rw[mw,List.drop_eq_nil_iff];omega
  subst DP;have hex:w=W:=hex;subst hex;have hH:=Has.me [_,_,_,_,_,_,_] [_,_] hH;dsimp only[u3,u4] at hH;have Cp:=hH;have JK:=yv hH gk;have JJ:=hH.Ae eJ (k:=k9) rfl;change ah _ _ _ _ _ _;refine qq ?_;generalize hK:b6 _ _ _ _=K;refine ah.Fl rfl ?_;refine gu.cons ?_;refine ab.bN (m:=12) hH rfl (ev rfl) (by exact eJ) (by dsimp only[List.drop_succ_cons,List.drop_zero,List.take_succ_cons,List.take_zero,aK,aW,bn,aQ,gW]<;>rfl) rfl rfl (aa rfl _) ?_;refine ab.nil ⟨rfl,?_⟩;refine gu.cons ?_;refine qm ?_;refine ab.nil ⟨rfl,?_⟩;refine gu.cons ?_;refine qg ?_;refine ab.nil ⟨rfl,?_⟩;refine gu.cons ?_;refine qp (o:=1) ?_;refine ab.nil ⟨rfl,?_⟩;refine gu.cons ?_;refine ql hH dI ?_;refine ab.nil ⟨rfl,?_⟩;refine gu.cons ?_;refine qS hH bZ fun st hH=>?_;dsimp only[u2,u1,u3,u4,setMany,u5,u6,D.cells,Nat.reduceAdd,aK,aW,bn,aQ,gW] at hH;refine ab.nil ⟨by exact Bool.and_eq_true_iff.2 ⟨nX rfl rfl rfl (Cp.at dI) (hH.at dI) (Cp.at dI) (by simp only[refs,D.ref];omega),rfl⟩,?_⟩;refine gu.cons ?_;refine qm ?_;refine ab.nil ⟨rfl,?_⟩;refine gu.nil ?_;subst hK;refine ah.ret ⟨rx,_,_,_,hH.pK rfl bZ rfl rfl,rfl,rd,rfl,pd,qd,P,Q,_,?_,aY,jT⟩;exact((Has.me [_,_,_] [_] (hH.drop 2)).erase 2).erase 2
end Go.Proofs.Ytnleclohocdkaaa
namespace Go.Proofs.Ytnleclohocdkaaa
open Go.V Go
def bc (fr:Go.V.Fr) (k:Nat):Go.V.D:=Go.V.nth .bh fr.loc k
def iU (l:List fU) (k:Nat):Bool:=l.any fun x=>x.pc==k
def l4 (l:List fU) (t:fU):List fU:=if iU l t.pc=true then l else l++[t]
def pG (code:List aC) (pc:Nat):List Rg:=match code[pc]? with
 |some i=>i.rs
 |none=>[]
def ef (code:List aC) (r:Int):List fU→List fU→List fU
 |[],a=>a
 |t::ts,a=>ef code r ts (if iA (pG code t.pc) r=true then l4 a ⟨t.pc+1,t.c⟩ else a)
structure PL where
 dn:Bool
 aM:l5
 dV:List fU
def fm (code:List aC) (pl start:Nat) (r:Int) (l:PL):PL:=
 ⟨(l8 code pl false l.dV (jx code.length l.dn l.aM)).dn,(l8 code pl false l.dV (jx code.length l.dn l.aM)).aM,
  if(l8 code pl false l.dV (jx code.length l.dn l.aM)).dn=true then ef code r (l8 code pl false l.dV (jx code.length l.dn l.aM)).rdy []
  else l4 (ef code r (l8 code pl false l.dV (jx code.length l.dn l.aM)).rdy []) ⟨start,bt⟩⟩
theorem yQ (l:List fU) (t:fU) (k:Nat):iU (l++[t]) k=(iU l k||t.pc==k):=by
 unfold iU;rw[List.any_append];simp
theorem xE (l:List fU) (t:fU):(l4 l t).length≤l.length+1:=by
 unfold l4;split
 ·omega
 ·simp
theorem xD {l:List fU} {t x:fU} (h:x∈l4 l t):x∈l∨x=t:=by
 unfold l4 at h;split at h
 ·exact .inl h
 ·rcases List.mem_append.1 h with h|h
  ·exact .inl h
  ·exact .inr (by simpa using h)
theorem pX {code:List aC} {r:Int}:∀(l a:List fU),(ef code r l a).length≤l.length+a.length∧∀x∈ef code r l a,x∈a∨∃t∈l,x.pc=t.pc+1
 |[],a=>⟨by simp[ef],fun x h=>.inl h⟩
 |t::ts,a=>by
  unfold ef
  split
  ·obtain⟨h1,h2⟩:=pX (code:=code) (r:=r) ts (l4 a ⟨t.pc+1,t.c⟩);have:=xE a ⟨t.pc+1,t.c⟩;refine⟨by simp only[List.length_cons];omega,fun x hx=>?_⟩
   rcases h2 x hx with h|⟨y,hy,he⟩
   ·rcases xD h with h|h
    ·exact .inl h
    ·exact .inr ⟨t,List.mem_cons_self ..,by rw[h]⟩
   ·exact .inr ⟨y,List.mem_cons_of_mem _ hy,he⟩
  ·obtain⟨h1,h2⟩:=pX (code:=code) (r:=r) ts a;refine⟨by simp only[List.length_cons];omega,fun x hx=>?_⟩
   rcases h2 x hx with h|⟨y,hy,he⟩
   ·exact .inl h
   ·exact .inr ⟨y,List.mem_cons_of_mem _ hy,he⟩
def PL.ok (n:Nat) (l:PL):Prop:=(∀t∈l.dV,t.pc<n)∧l.dV.length≤1000
theorem m_ {code:List aC} {pl:Nat} {e:Bool} {l:List fU} {dn:Bool} {aM:l5}:(l8 code pl e l (jx code.length dn aM)).rdy.length≤code.length∧∀t∈(l8 code pl e l (jx code.length dn aM)).rdy,∃i,code[t.pc]?=some i∧i.op=1:=by
 obtain⟨_,_,h3,h4⟩:=ry code pl e l (jx code.length dn aM);have:=List.count_le_length (a:=false) (l:=(jx code.length dn aM).seen);simp only[jx,List.length_replicate,List.length_nil] at h3 this;refine⟨by simp only[jx];omega,fun t ht=>?_⟩
 rcases h4 t ht with h|h
 ·simp[jx] at h
 ·exact h
theorem vQ {p:Pg} (hR:a_ p) {t:fU} (h:∃i,p.code[t.pc]?=some i∧i.op=1):t.pc+1<p.code.length:=by
 obtain⟨i,hi,h1⟩:=h;have:=fz (hR.sh t.pc i hi);omega
theorem CF {p:Pg} (hR:a_ p) {pl start:Nat} {r:Int} {l:PL} (hs:start<p.code.length):(fm p.code pl start r l).ok p.code.length:=by
 obtain⟨h1,h2⟩:=m_ (code:=p.code) (pl:=pl) (e:=false) (l:=l.dV) (dn:=l.dn) (aM:=l.aM);have hcl:=hR.cl;unfold fm PL.ok;generalize l8 p.code pl false l.dV (jx p.code.length l.dn l.aM)=w at*;obtain⟨h3,h4⟩:=pX (code:=p.code) (r:=r) w.rdy []
 have h5:∀x∈ef p.code r w.rdy [],x.pc<p.code.length:=fun x hx=>by
  rcases h4 x hx with h|⟨t,ht,he⟩
  ·cases h
  ·have:=vQ hR (h2 t ht);omega
 simp only[List.length_nil] at h3;simp only
 split
 ·exact⟨h5,by omega⟩
 ·refine⟨fun x hx=>?_,?_⟩
  ·rcases xD hx with h|h
   ·exact h5 x h
   ·rw[h];exact hs
  ·have:=xE (ef p.code r w.rdy []) ⟨start,bt⟩;omega
theorem CE (oE:∀st,Ev pv 93 [] st (.agg (aQ bt)) st) {N ks kv:Nat} {S s0:St} {H:List bm} {p:Pg} {pl:Nat} {ld:D} {L:List VL} {i start:Nat} {l:VL} {r:Int} (hF:S.flr≤N) (hp:p.ok) (hR:a_ p) (gR:pl≤4000000000000) (hl:L[i]?=some l) (FP:p.av[i]?=some ((start:Nat):Int)) (xI:(⟨l.dn,l.aM,l.dV⟩:PL).ok p.code.length) (hM:MH [] N S s0 ks kv p pl ld L H):
  ∃d af,Ev pv 68 [.ptr kv 0 0,.int .i64 (i:Nat),.int .i32 r] s0 d af∧∃td,d=.agg (bn (fm p.code pl start r ⟨l.dn,l.aM,l.dV⟩).dn (fm p.code pl start r ⟨l.dn,l.aM,l.dV⟩).aM td)∧MH [.aI td 11 ((fm p.code pl start r ⟨l.dn,l.aM,l.dV⟩).dV.map aW)] N S af ks kv p pl ld L H:=by
 have hcl:=hR.cl;have hc:=hp.c.arg N S;have hs:=hp.s.arg N S;have hlen:=hp.cl;have Hq:start<p.code.length:=by have:=(hR.st _ (List.mem_of_getElem? FP)).2;omega
 have Ly:=fL FP;obtain⟨JA,MU⟩:=xI;simp only at JA MU;obtain⟨hb1,hb2⟩:=m_ (code:=p.code) (pl:=pl) (e:=false) (l:=l.dV) (dn:=l.dn) (aM:=l.aM);obtain⟨pd,qd,P,Q,sn,hH,aY,iw⟩:=hM;dsimp only[u4] at hH;unfold fm;simp only;refine Ev.ko rfl OQ rfl rfl rfl ?_;refine zE ?_;change ah _ _ _ _ s0 _;refine zQ 2 ?_;refine qa hH fun k6 st HM hH=>?_;refine zQ 1 ?_;obtain⟨_,st1,aG,rd,rfl,hM⟩:=tq (e:=false) hF hp hR gR hl JA (by omega) (MH.push [_] [] ⟨pd,qd,P,Q,sn,hH,aY,iw⟩);clear aY iw;have hM:=MH.pull [_] [_] hM;generalize l8 p.code pl false l.dV (jx p.code.length l.dn l.aM)=W at*;obtain⟨pd,qd,P,Q,sn,H6,aY,iw⟩:=hM;dsimp only[u3,u4] at H6;refine zQ 4 ?_;have hH:=H6;refine qv aG ?_;refine zQ 3 ?_;refine qa hH fun k7 st Qg hH=>?_;refine qS hH aS fun st hH=>?_;dsimp only[u2,u1,u3,u4,setMany,u5,u6,D.cells,Nat.reduceAdd,aK,aW,bn,aQ,gW] at hH;refine zQ 2 ?_;clear H6;refine zQ 6 ?_;obtain⟨_,st,aG,rfl,pd,qd,P,Q,hH,aY⟩:=om [_,_,_,_] hF aY hH;dsimp only[u3,u4] at hH;refine qv aG ?_;refine zQ 1 ?_;rw[iw] at aY;refine zQ 4 ?_;refine qn ?_ (hR:=hH.rows cU);simp only[List.length_map];refine zQ 2 ?_;have hH:=Has.me [_] [_] (hH.e_ 11);dsimp only[u3,u4] at hH
 obtain⟨A,hA⟩:∃A,ef p.code r W.rdy []=A:=⟨_,rfl⟩
 rw[hA];refine zQ 1 ?_;refine ah.loop (fun mm fr st=>∃(j:Nat) (acc rest:List fU) (td pd qd:D) (P Q:List Nat) (sn:List Bool),fr.clean=⟨25,[.ptr kv 0 0,.int .i64 (i:Nat),.int .i32 r,bc fr 3,bc fr 4,bc fr 5,.ptr k6 0 0,.ptr k7 0 0,rd,bc fr 9,bc fr 10,bc fr 11,bc fr 12,bc fr 13,bc fr 14,bc fr 15,bc fr 16,bc fr 17,bc fr 18,bc fr 19,bc fr 20,bc fr 21,rd,.int .i64 (W.rdy.length:Nat),.int .i64 (j:Nat)],[]⟩∧Has N S st (.box k7 (.mem 0 false (bn W.dn W.aM td))::.aI td 11 (acc.map aW)::.box k6 (.mem 0 false (bn false pq .nul))::.aI rd 11 (W.rdy.map aW)::.box kv (.mem 0 false [p.cd,p.sd,.int .i64 (pl:Nat),ld,.ptr ks 0 0])::.box ks (.mem 0 false [pd,qd])::.aI pd 1 (P.map fY)::.aI qd 2 (Q.map nJ)::.aI ld 12 (L.map gW)::(L.map rN++H))∧(j+mm=W.rdy.length)∧(rest=W.rdy.drop j)∧(ef p.code r rest acc=A)∧(acc.length≤j)∧(c8 P Q sn)∧(sn.length=p.code.length)∧(∀k,k<p.code.length→sn[k]?=some (iU acc k))) (W.rdy.length) ?_ ?_
 ·refine⟨0,[],W.rdy,.nul,_,_,_,_,_,rfl,hH,by omega,rfl,hA,by simp,aY,by simp,(fun k hk=>by rw[List.getElem?_replicate,if_pos hk];rfl)⟩
 rintro mm fr st ⟨j,acc,rest,td,pd,qd,P,Q,sn,hfr,hH,hj,mw,hex,hal,aY,iw,ve⟩;rw[hfr];clear hfr;generalize bc fr=ee;clear fr;refine zQ 5 ?_;refine zP (fun hlt=>?_) fun hlt=>?_
 ·refine zQ 1 ?_;have jU:j<W.rdy.length:=by omega
  obtain⟨t,ht⟩:∃t,W.rdy[j]?=some t:=⟨W.rdy[j]'jU,List.getElem?_eq_getElem _⟩
  have JG:=tQ ht;obtain⟨ii,hii,Qk⟩:=hb2 t (List.mem_of_getElem? ht);have Ho:=vQ hR ⟨ii,hii,Qk⟩;have oS:=iF hii;have Ks:=hp.i ii (List.mem_of_getElem? hii);have Hy:=Ks.1;have Hz:=Hy.arg N S;have RW:=Ks.2
  have sa:rest=t::W.rdy.drop (j+1):=by
   rw[mw,List.drop_eq_getElem_cons jU]
   congr 1
   exact Option.some.inj ((List.getElem?_eq_getElem _).symm.trans ht)
  rw[sa] at hex;have M6:pG p.code t.pc=ii.rs:=by unfold pG;rw[hii]
  unfold ef at hex;rw[M6] at hex;have Nh:iU acc (t.pc+1)=iU acc (t.pc+1):=rfl;generalize Od:iU acc (t.pc+1)=bq at Nh;have FO:=ve (t.pc+1) Ho;rw[Od] at FO;refine zQ 4 ?_;refine qi hH dI fun Re Nv=>?_;refine ab.ue hH rfl (ev rfl) (by assumption) (by exact dI) (by assumption) rfl (aa rfl _) ?_;refine qa hH fun k10 st Tb hH=>?_;dsimp only[u2,u1,u3,u4,setMany,u5,u6,D.cells,Nat.reduceAdd,aK,aW,bn,aQ,gW] at hH;refine qS hH aS fun st hH=>?_;dsimp only[u2,u1,u3,u4,setMany,u5,u6,D.cells,Nat.reduceAdd,aK,aW,bn,aQ,gW] at hH;refine zQ 1 ?_
  cases rh:iA ii.rs r with
  |false=>
   rw[rh,if_neg (by decide)] at hex;refine zQ 9 ?_;refine qr fun PU JS=>?_;refine qf (fo:=3) fun PT JR=>?_;refine zQ 2 ?_;refine qv (D7 (Hz.rows hH) (by omega)) ?_;refine zQ 17 ?_;exact⟨mm-1,by omega,⟨j+1,acc,W.rdy.drop (j+1),td,pd,qd,P,Q,sn,rfl,(hH.drop 1),by omega,rfl,hex,by omega,aY,iw,ve⟩⟩
  |true=>
   rw[rh,if_pos rfl] at hex;have hex:ef p.code r (W.rdy.drop (j+1)) (if iU acc (t.pc+1)=true then acc else acc++[⟨t.pc+1,t.c⟩])=A:=hex;rw[Od] at hex;have tf:t.pc+1<sn.length:=by omega
   refine zQ 9 ?_;refine qr fun PU JS=>?_;refine qf (fo:=3) fun PT JR=>?_;refine zQ 2 ?_;refine qv (D7 (Hz.rows hH) (by omega)) ?_;refine zQ 8 ?_;obtain⟨_,st,aG,rfl,pd,qd,P,Q,hH,aY⟩:=nh [_,_,_,_,_,_] hF FO aY hH;dsimp only[u3,u4] at hH;refine qv aG ?_ (hg:=wi rh);refine zQ 2 ?_
   cases bq with
   |true=>
    rw[if_pos rfl] at hex;refine zQ 6 ?_;refine⟨mm-1,by omega,⟨j+1,acc,W.rdy.drop (j+1),td,pd,qd,P,Q,sn.set (t.pc+1) true,rfl,(hH.drop 1),by omega,rfl,hex,by omega,aY,by rw[List.length_set];exact iw,?_⟩⟩;intro k hk
    by_cases hkk:k=t.pc+1
    ·subst hkk;rw[List.getElem?_set_self tf,Od]
    ·rw[List.getElem?_set_ne (fun e=>hkk e.symm)];exact ve k hk
   |false=>
    rw[if_neg (by decide)] at hex;refine zQ 7 ?_;refine qT hH aS fun st hH=>?_;dsimp only[u2,u1,u3,u4,setMany,u5,u6,D.cells,Nat.reduceAdd,aK,aW,bn,aQ,gW] at hH;refine zQ 4 ?_;refine ab.bN (m:=11) hH rfl (ev rfl) (by exact aS) (by dsimp only[List.drop_succ_cons,List.drop_zero,List.take_succ_cons,List.take_zero,aK,aW,bn,aQ,gW]<;>rfl) rfl rfl (aa rfl _) ?_;refine qh (s:=11) (vs:=[_]) hH fun k57 st SX hH=>?_;refine ab.bT (s:=11) hH rfl (ev rfl) (ev rfl) (by exact dI) (by exact hH.rows (by exact aS)) rfl rfl rfl rfl rfl rfl rfl ⟨(Nat.le_of_ble_eq_true rfl),(Nat.le_of_ble_eq_true rfl)⟩ (fun _=>(aa rfl _)) (by simp only[List.length_cons,List.length_nil,List.length_map]<;>omega) (by exact .inl hF) (fun QQ st hH=>?_);dsimp only[u2,u1,u3,u4,setMany,u5,u6,D.cells,Nat.reduceAdd,aK,aW,bn,aQ,gW] at hH;refine zQ 1 ?_;refine qT hH cU (fun st hH=>?_) (i_:=hH.fI dI);dsimp only[u2,u1,u3,u4,setMany,u5,u6,D.cells,Nat.reduceAdd,aK,aW,bn,aQ,gW] at hH;refine zQ 5 ?_;refine⟨mm-1,by omega,⟨j+1,acc++[⟨t.pc+1,t.c⟩],W.rdy.drop (j+1),QQ,pd,qd,P,Q,sn.set (t.pc+1) true,rfl,(by rw[List.map_append];exact hH.drop 2),by omega,rfl,hex,by simp;omega,aY,by rw[List.length_set];exact iw,?_⟩⟩;intro k hk;rw[yQ]
    by_cases hkk:k=t.pc+1
    ·subst hkk;rw[List.getElem?_set_self tf];simp
    ·rw[List.getElem?_set_ne (fun e=>hkk e.symm),ve k hk];have:(t.pc+1==k)=false:=by rw[beq_eq_false_iff_ne];omega
     simp only[this,Bool.or_false]
 ·refine zQ 1 ?_;have DP:rest=[]:=by rw[mw,List.drop_eq_nil_iff];omega
  subst DP;have hex:acc=A:=hex;subst hex;clear hA mw;have FO:=ve start Hq;refine zQ 2 ?_;refine ah.lN (fun fr st=>∃(dV:List fU) (td pd qd:D) (P Q:List Nat) (sn:List Bool) (tmp:List (Nat×D)),fr=⟨25,[bc fr 0,bc fr 1,bc fr 2,bc fr 3,bc fr 4,bc fr 5,.ptr k6 0 0,.ptr k7 0 0,bc fr 8,bc fr 9,bc fr 10,bc fr 11,bc fr 12,bc fr 13,bc fr 14,bc fr 15,bc fr 16,bc fr 17,bc fr 18,bc fr 19,bc fr 20,bc fr 21,bc fr 22,bc fr 23,bc fr 24],tmp⟩∧Has N S st (.box k7 (.mem 0 false (bn W.dn W.aM td))::.aI td 11 (dV.map aW)::.box k6 (.mem 0 false (bn false pq .nul))::.aI rd 11 (W.rdy.map aW)::.box kv (.mem 0 false [p.cd,p.sd,.int .i64 (pl:Nat),ld,.ptr ks 0 0])::.box ks (.mem 0 false [pd,qd])::.aI pd 1 (P.map fY)::.aI qd 2 (Q.map nJ)::.aI ld 12 (L.map gW)::(L.map rN++H))∧(dV=(if W.dn=true then acc else l4 acc ⟨start,bt⟩))∧(c8 P Q sn)∧(sn.length=p.code.length)) ?_ ?_
  ·cases Qp:W.dn with
   |true=>
    rw[Qp] at hH;have eI:(!true)=false:=rfl;refine zQ 22 ?_;exact⟨acc,td,pd,qd,P,Q,sn,_,rfl,hH,rfl,aY,iw⟩
   |false=>
    rw[Qp] at hH;have eI:(!false)=true:=rfl;refine zQ 15 ?_;refine qr (fun Uu Sa=>?_) (hg:=wi eI);refine zQ 1 ?_;obtain⟨_,st,aG,rfl,pd,qd,P,Q,hH,aY⟩:=nh [_,_,_,_,_] hF FO aY hH;dsimp only[u3,u4] at hH;refine qv aG ?_ (hg:=wi eI);refine zQ 2 ?_
    by_cases wO:iU acc start=true
    ·refine qE rfl (by rw[wO];rfl) ?_;refine zQ 1 ?_;exact⟨acc,td,pd,qd,P,Q,sn.set start true,_,rfl,hH,by unfold l4;rw[if_neg (by decide),if_pos wO],aY,by rw[List.length_set];exact iw⟩
    ·refine qD rfl (by rw[Bool.eq_false_iff.2 wO];rfl) ?_;refine zQ 9 ?_;refine qr fun Up R6=>?_;refine qR ?_;refine qv (oE _) ?_;refine ab.go (d:=.agg (aW ⟨start,bt⟩)) (st1:=_) rfl rfl rfl (aa rfl _) ?_;refine qh (s:=11) (vs:=[_]) hH fun k91 st SM hH=>?_;dsimp only[u2,u1,u3,u4,setMany,u5,u6,D.cells,Nat.reduceAdd,aK,aW,bn,aQ,gW] at hH;refine ab.bT (s:=11) hH rfl (ev rfl) (ev rfl) (by exact cU) (by exact hH.rows (by exact aS)) rfl rfl rfl rfl rfl rfl rfl ⟨(Nat.le_of_ble_eq_true rfl),(Nat.le_of_ble_eq_true rfl)⟩ (fun _=>(aa rfl _)) (by simp only[List.length_cons,List.length_nil,List.length_map]<;>omega) (by exact .inl hF) (fun QL st hH=>?_);dsimp only[u2,u1,u3,u4,setMany,u5,u6,D.cells,Nat.reduceAdd,aK,aW,bn,aQ,gW] at hH;refine zQ 1 ?_;refine qT hH bZ (fun st hH=>?_) (i_:=hH.fI cU);dsimp only[u2,u1,u3,u4,setMany,u5,u6,D.cells,Nat.reduceAdd,aK,aW,bn,aQ,gW] at hH;refine zQ 1 ?_;exact⟨acc++[⟨start,bt⟩],QL,pd,qd,P,Q,sn.set start true,_,rfl,(by rw[List.map_append];exact hH.drop 1),by unfold l4;rw[if_neg (by decide),if_neg wO],aY,by rw[List.length_set];exact iw⟩
  ·rintro fr st ⟨dV,td,pd,qd,P,Q,sn,tmp,hfr,hH,MT,aY,iw⟩;rw[hfr];clear hfr;generalize bc fr=ee;clear fr;refine zQ 2 ?_;refine ab.bN (m:=12) hH rfl (ev rfl) (by exact aS) (by dsimp only[List.drop_succ_cons,List.drop_zero,List.take_succ_cons,List.take_zero,aK,aW,bn,aQ,gW]<;>rfl) rfl rfl (aa rfl _) ?_;refine qS hH cU fun st hH=>?_;dsimp only[u2,u1,u3,u4,setMany,u5,u6,D.cells,Nat.reduceAdd,aK,aW,bn,aQ,gW] at hH;refine zQ 1 ?_;refine ah.ret ⟨rx,_,_,_,hH.zL rfl cU rfl,rfl,td,rfl,pd,qd,P,Q,sn,?_,aY,iw⟩;rw[←MT];exact((hH.drop 1).erase 1).erase 1
end Go.Proofs.Ytnleclohocdkaaa
namespace Go.Proofs.Ytnleclohocdkaaa
open Go.V Go
end Go.Proofs.Ytnleclohocdkaaa
namespace Go.Proofs.Ytnleclohocdkaaa
open Go.V Go
def dA (fr:Go.V.Fr) (k:Nat):Go.V.D:=Go.V.nth .bh fr.loc k
def VL.pl (l:VL):PL:=⟨l.dn,l.aM,l.dV⟩
def bd (p:Pg):List Nat:=p.av.map Int.toNat
def gY (code:List aC) (pl:Nat) (r:Int):List Nat→List PL→List PL
 |s::ss,l::ls=>fm code pl s r l::gY code pl r ss ls
 |_,_=>[]
def gC (n:Int):Nat:=(min (max n 0) 4).toNat
theorem tB (n:Int):gC n≤4:=by unfold gC;omega
theorem lI (code:List aC) (pl:Nat) (r:Int):∀(ss:List Nat) (ls:List PL),ss.length=ls.length→(gY code pl r ss ls).length=ls.length
 |[],[],_=>rfl
 |s::ss,l::ls,h=>by simp only[gY,List.length_cons];rw[lI code pl r ss ls (by simpa using h)]
theorem lJ (code:List aC) (pl:Nat) (r:Int):∀(ss:List Nat) (ls:List PL) (i:Nat) (s:Nat) (l:PL),ss[i]?=some s→ls[i]?=some l→(gY code pl r ss ls)[i]?=some (fm code pl s r l)
 |[],_,_,_,_,h,_=>by simp at h
 |_::_,[],_,_,_,_,h=>by simp at h
 |s::ss,l::ls,0,_,_,h1,h2=>by simp only[List.getElem?_cons_zero,Option.some.injEq] at h1 h2;subst h1;subst h2;rfl
 |s::ss,l::ls,i+1,_,_,h1,h2=>by simp only[List.getElem?_cons_succ] at h1 h2;simp only[gY,List.getElem?_cons_succ];exact lJ code pl r ss ls i _ _ h1 h2
theorem MH.mono {A:List bm} {N:Nat} {S st:St} {ks kv:Nat} {p:Pg} {pl:Nat} {ld:D} {L:List VL} {H:List bm} (n:Nat) (h:MH A N S st ks kv p pl ld L H):MH (A.drop n) N S st ks kv p pl ld L H:=by
 obtain⟨pd,qd,P,Q,sn,hH,aY,iw⟩:=h;refine⟨pd,qd,P,Q,sn,?_,aY,iw⟩
 rcases Nat.le_total n A.length with hn|hn
 ·have:=hH.drop n
  rwa [List.drop_append_of_le_length hn] at this
 ·have:=hH.drop A.length;rw[List.drop_append_of_le_length (Nat.le_refl _),List.drop_length] at this;rw[List.drop_eq_nil_of_le hn];exact this
theorem E0 (L:List VL) (i:Nat) (l:VL):(L.set i l).map rN=(L.map rN).set i (rN l):=List.map_set ..
theorem MH.Fc {N:Nat} {S st:St} {ks kv:Nat} {p:Pg} {pl:Nat} {ld:D} {L:List VL} {H:List bm} {i:Nat} {l:VL} {pd qd:D} {P Q:List Nat} (hi:i<L.length)
  (h:Has N S st (.aI l.td 11 (l.dV.map aW)::.box kv (.mem 0 false [p.cd,p.sd,.int .i64 (pl:Nat),ld,.ptr ks 0 0])::.box ks (.mem 0 false [pd,qd])::.aI pd 1 (P.map fY)::.aI qd 2 (Q.map nJ)::.aI ld 12 ((L.map gW).set i (gW l))::(L.map rN++H))):
  Has N S st (.box kv (.mem 0 false [p.cd,p.sd,.int .i64 (pl:Nat),ld,.ptr ks 0 0])::.box ks (.mem 0 false [pd,qd])::.aI pd 1 (P.map fY)::.aI qd 2 (Q.map nJ)::.aI ld 12 ((L.set i l).map gW)::((L.set i l).map rN++H)):=by
 have h1:=h.eu (j:=5+i) (by simp;omega);rw[List.map_set,E0]
 have h2:∀(a b c d e:bm),(a::b::c::d::e::(L.map rN++H)).set (5+i) (.aI l.td 11 (l.dV.map aW))=a::b::c::d::e::((L.map rN).set i (rN l)++H):=by
  intro a b c d e;rw[Nat.add_comm 5 i];simp only[List.set_cons_succ];rw[List.set_append_left _ _ (by simpa using hi)];rfl
 rw[h2] at h1;exact h1
theorem Gi (oE:∀st,Ev pv 93 [] st (.agg (aQ bt)) st) {N ks kv:Nat} {S s0:St} {H:List bm} {p:Pg} {pl:Nat} {ld:D} {L:List VL} {r n:Int} (hF:S.flr≤N) (hp:p.ok) (hR:a_ p) (gR:pl≤3000000000000) (Oj:L.length=p.av.length) (aY:∀l∈L,l.pl.ok p.code.length) (hM:MH [] N S s0 ks kv p pl ld L H):
  ∃d af,Ev pv 35 [.ptr kv 0 0,.int .i32 r,.int .i64 n] s0 d af∧d=.tup []∧∃L',L'.map VL.pl=gY p.code pl r (bd p) (L.map VL.pl)∧MH [] N S af ks kv p (pl+gC n) ld L' H:=by
 have Lx:=hR.sl;refine Ev.ko rfl O6 rfl rfl rfl ?_;refine zE ?_;change ah _ _ _ _ s0 _;obtain⟨pd,qd,P,Q,sn,hH,lT,iw⟩:=hM;dsimp only[u4] at hH;refine qq<|qq<|qj fun K hK=>qm ?_;refine qg ?_;refine qp (o:=3) ?_;refine ql hH aS ?_;refine qn ?_ (hR:=hH.rows eJ);simp only[List.length_map];refine qm ?_;refine qe hK<|ah.block<|ah.loop (fun mm fr st=>∃(i:Nat) (L2:List VL) (pd qd:D) (P Q:List Nat) (sn:List Bool),fr.clean=⟨13,[.ptr kv 0 0,.int .i32 r,.int .i64 n,dA fr 3,dA fr 4,dA fr 5,dA fr 6,dA fr 7,dA fr 8,dA fr 9,dA fr 10,.int .i64 (L.length:Nat),.int .i64 (i:Nat)],[]⟩∧Has N S st (.box kv (.mem 0 false [p.cd,p.sd,.int .i64 (pl:Nat),ld,.ptr ks 0 0])::.box ks (.mem 0 false [pd,qd])::.aI pd 1 (P.map fY)::.aI qd 2 (Q.map nJ)::.aI ld 12 (L2.map gW)::(L2.map rN++H))∧(i+mm=L.length)∧(L2.length=L.length)∧(∀j l s,j<i→L[j]?=some l→p.av[j]?=some s→(L2.map VL.pl)[j]?=some (fm p.code pl s.toNat r l.pl))∧(∀j,i≤j→L2[j]?=L[j]?)∧(c8 P Q sn)∧(sn.length=p.code.length)) (L.length) ?_ ?_
 ·exact⟨0,L,_,_,_,_,_,rfl,hH,by omega,rfl,(by intro j l s h;omega),(fun j _=>rfl),lT,iw⟩
 rintro mm fr st ⟨i,L2,pd,qd,P,Q,sn,hfr,hH,hi,vg,Qo,P_,lT,iw⟩;rw[hfr];clear hfr;generalize dA fr=ee;clear fr;refine qq<|qj fun K hK=>qg ?_;refine qe hK<|qq<|zP (fun hlt=>?_) fun hlt=>?_
 ·refine ah.skip ?_;have hil:i<L.length:=by omega
  obtain⟨l,hl⟩:∃l,L[i]?=some l:=⟨L[i]'hil,List.getElem?_eq_getElem _⟩
  have pa:L2[i]?=some l:=by rw[P_ i (Nat.le_refl _)];exact hl
  obtain⟨s,hs⟩:∃s,p.av[i]?=some s:=⟨p.av[i]'(by omega),List.getElem?_eq_getElem _⟩
  obtain⟨tg,ES⟩:=hR.st s (List.mem_of_getElem? hs);obtain⟨Iv,rfl⟩:=Int.eq_ofNat_of_zero_le tg;have iH:=Cx pa;refine qq<|ah.block<|qq<|qj fun K hK=>qm ?_;refine qm ?_;refine qe hK ?_;have cx:=hH;have JK:=yv hH eJ;have JJ:=hH.Ae bZ (k:=ks) rfl;have M8:=hp.c.ref;have M7:=hp.s.ref;have IB:refs [p.cd,p.sd,.int .i64 (pl:Nat),ld,.ptr ks 0 0]≤st.bs.length:=by simp only[refs,D.ref,M8,M7];omega
  change ah _ _ _ _ _ _;generalize hK:b6 _ _ _ _=K;refine ah.Fl rfl ?_;refine gu.cons ?_;refine qm ?_;refine ab.nil ⟨rfl,?_⟩;refine gu.cons ?_;refine qg ?_;refine ab.nil ⟨rfl,?_⟩;refine gu.cons ?_;refine qp (o:=3) ?_;refine ab.nil ⟨rfl,?_⟩;refine gu.cons ?_;refine ql hH aS ?_;refine ab.nil ⟨rfl,?_⟩;refine gu.cons ?_;refine qm ?_;refine ab.nil ⟨rfl,?_⟩;refine gu.cons ?_;refine qm ?_;refine ab.nil ⟨rfl,?_⟩;refine gu.cons ?_;refine qm ?_;refine ab.nil ⟨rfl,?_⟩;refine gu.cons ?_;refine qm ?_;refine ab.nil ⟨rfl,?_⟩;refine gu.cons ?_;obtain⟨_,st,aG,td,rfl,hM⟩:=CE oE hF hp hR (by omega) pa hs (aY l (List.mem_of_getElem? hl)) ⟨pd,qd,P,Q,sn,hH,lT,iw⟩;obtain⟨pd,qd,P,Q,sn,hH,lT,iw⟩:=hM;dsimp only[u3,u4] at hH;refine qv aG ?_;refine ab.nil ⟨by exact Bool.and_eq_true_iff.2 ⟨nX rfl rfl rfl (cx.at aS) (hH.at bZ) (cx.at aS) IB,rfl⟩,?_⟩;refine gu.cons ?_;refine qi hH gk fun Je DN=>?_;refine ab.nil ⟨rfl,?_⟩;refine gu.cons ?_;refine ab.nz hH rfl (ev rfl) (ev rfl) (by assumption) rfl rfl (by exact gk) (by assumption) (Nat.le_of_ble_eq_true rfl) (by exact .inl hF) (fun st hH=>?_);dsimp only[u2,u1,u3,u4,setMany,u5,u6,D.cells,Nat.reduceAdd,aK,aW,bn,aQ,gW] at hH;refine ab.nil ⟨rfl,?_⟩;refine gu.nil ?_;subst hK;have hH:=MH.Fc (l:=⟨(fm p.code pl Iv r l.pl).dn,(fm p.code pl Iv r l.pl).aM,td,(fm p.code pl Iv r l.pl).dV⟩) (by omega) hH;refine qj fun K hK=>qA ?_;refine qm ?_;refine qe hK ?_;refine⟨mm-1,by omega,⟨i+1,L2.set i ⟨(fm p.code pl Iv r l.pl).dn,(fm p.code pl Iv r l.pl).aM,td,(fm p.code pl Iv r l.pl).dV⟩,pd,qd,P,Q,sn,rfl,hH,by omega,by rw[List.length_set];exact vg,?_,(fun j hj=>by rw[List.getElem?_set_ne (by omega)];exact P_ j (by omega)),lT,iw⟩⟩;intro j l' s' hj gS rb;rw[List.map_set]
  by_cases hji:j=i
  ·subst hji;rw[hl] at gS;rw[hs] at rb;cases gS;cases rb;rw[List.getElem?_set_self (by rw[List.length_map];omega)];rfl
  ·rw[List.getElem?_set_ne (fun e=>hji e.symm)];exact Qo j l' s' (by omega) gS rb
 ·refine ah.exit ?_;have hil:i=L.length:=by omega
  have N_:=tB n;have TC:((pl:Nat):Int)+min (max n 0) 4=((pl+gC n:Nat):Int):=by unfold gC;omega
  refine qj fun K hK=>qm ?_;refine qg ?_;refine qp (o:=2) ?_;refine ql hH aS ?_;refine qm ?_;refine ab.FC (t1:=0) (t2:=0) rfl (ev rfl) (ev rfl) (aa rfl _) ?_;refine ab.FB (t1:=0) (t2:=0) rfl (ev rfl) (ev rfl) (aa rfl _) ?_;refine ab.lD (z:=((pl+gC n:Nat):Int)) rfl (ev rfl) (ev rfl) (by rw[TC];exact eK (by simp only[lQ];omega)) (aa rfl _) ?_;refine qg ?_;refine qp (o:=2) ?_;refine qT hH aS fun st hH=>?_;dsimp only[u2,u1,u3,u4,setMany,u5,u6,D.cells,Nat.reduceAdd,aK,aW,bn,aQ,gW] at hH;refine qe hK ?_;refine⟨fun i h=>(by cases h),_,_,_,rfl,rfl,?_⟩;refine⟨rfl,L2,?_,pd,qd,P,Q,sn,hH,lT,iw⟩;refine List.ext_getElem? fun j=>?_
  by_cases hj:j<L.length
  ·obtain⟨l,hl⟩:∃l,L[j]?=some l:=⟨L[j]'hj,List.getElem?_eq_getElem _⟩
   obtain⟨s,hs⟩:∃s,p.av[j]?=some s:=⟨p.av[j]'(by omega),List.getElem?_eq_getElem _⟩
   rw[Qo j l s (by omega) hl hs,lJ (s:=s.toNat) (l:=l.pl)]
   ·unfold bd;rw[List.getElem?_map,hs];rfl
   ·rw[List.getElem?_map,hl];rfl
  ·rw[List.getElem?_eq_none (by simp;omega),List.getElem?_eq_none];rw[lI]
   ·simp;omega
   ·unfold bd;simp;omega
def mD (code:List aC) (pl:Nat) (l:PL):PL:=⟨(l8 code pl true l.dV (jx code.length l.dn l.aM)).dn,(l8 code pl true l.dV (jx code.length l.dn l.aM)).aM,[]⟩
def mE (l:PL):List D:=bn l.dn l.aM .nul
theorem Gj {N ks kv:Nat} {S s0:St} {H:List bm} {p:Pg} {pl:Nat} {ld:D} {L:List VL} (hF:S.flr≤N) (hp:p.ok) (hR:a_ p) (gR:pl≤4000000000000) (Oj:L.length=p.av.length) (aY:∀l∈L,l.pl.ok p.code.length) (hM:MH [] N S s0 ks kv p pl ld L H):
  ∃d af,Ev pv 37 [.ptr kv 0 0] s0 d af∧MH [.aI d 12 ((L.map fun l=>mD p.code pl l.pl).map mE)] N S af ks kv p pl ld L H:=by
 have Lx:=hR.sl;refine Ev.ko rfl O4 rfl rfl rfl ?_;refine zE ?_;change ah _ _ _ _ s0 _;obtain⟨pd,qd,P,Q,sn,hH,lT,iw⟩:=hM;dsimp only[u4] at hH;refine zQ 15 ?_;refine qn ?_ (hR:=hH.rows eJ);simp only[List.length_map];refine zQ 3 ?_;refine ah.loop (fun mm fr st=>∃(i:Nat) (od pd qd:D) (P Q:List Nat) (sn:List Bool),fr.clean=⟨13,[.ptr kv 0 0,dA fr 1,dA fr 2,od,dA fr 4,dA fr 5,dA fr 6,dA fr 7,dA fr 8,dA fr 9,dA fr 10,.int .i64 (L.length:Nat),.int .i64 (i:Nat)],[]⟩∧Has N S st (.aI od 12 (((L.map fun l=>mD p.code pl l.pl).take i).map mE)::.box kv (.mem 0 false [p.cd,p.sd,.int .i64 (pl:Nat),ld,.ptr ks 0 0])::.box ks (.mem 0 false [pd,qd])::.aI pd 1 (P.map fY)::.aI qd 2 (Q.map nJ)::.aI ld 12 (L.map gW)::(L.map rN++H))∧(i+mm=L.length)∧(c8 P Q sn)∧(sn.length=p.code.length)) (L.length) ?_ ?_
 ·exact⟨0,.nul,_,_,_,_,_,rfl,(hH.e_ 12),by omega,lT,iw⟩
 rintro mm fr st ⟨i,od,pd,qd,P,Q,sn,hfr,hH,hi,lT,iw⟩;rw[hfr];clear hfr;generalize dA fr=ee;clear fr;refine zQ 5 ?_;refine zP (fun hlt=>?_) fun hlt=>?_
 ·refine zQ 1 ?_;have hil:i<L.length:=by omega
  obtain⟨l,hl⟩:∃l,L[i]?=some l:=⟨L[i]'hil,List.getElem?_eq_getElem _⟩
  obtain⟨wR,th⟩:=aY l (List.mem_of_getElem? hl);simp only[VL.pl] at wR th;have hge:(L.map fun l=>mD p.code pl l.pl)[i]?=some (mD p.code pl l.pl):=by rw[List.getElem?_map,hl];rfl
  have rZ:(((L.map fun l=>mD p.code pl l.pl).take i).map mE).length=i:=by simp;omega
  refine zQ 7 ?_;obtain⟨_,st1,aG,rd,rfl,hM⟩:=tq (e:=true) hF hp hR gR hl wR (by omega) (MH.push [_] [] ⟨pd,qd,P,Q,sn,hH,lT,iw⟩);clear lT iw;have hM:=MH.pull [_] [] (MH.mono 1 hM);obtain⟨pd,qd,P,Q,sn,H6,lT,iw⟩:=hM;dsimp only[u3,u4] at H6;generalize hB:((L.map fun l=>mD p.code pl l.pl).take i).map mE=B at*;refine zQ 4 ?_;have hH:=H6;refine qv aG ?_;refine zQ 3 ?_;refine qa hH fun k5 st II hH=>?_;refine qS hH aS fun st hH=>?_;dsimp only[u2,u1,u3,u4,setMany,u5,u6,D.cells,Nat.reduceAdd,aK,aW,bn,aQ,gW,mE] at hH;refine zQ 2 ?_;clear H6;refine zQ 2 ?_;refine ab.bN (m:=12) hH rfl (ev rfl) (by exact aS) (by dsimp only[List.drop_succ_cons,List.drop_zero,List.take_succ_cons,List.take_zero,aK,aW,bn,aQ,gW,mE]<;>rfl) rfl rfl (aa rfl _) ?_;refine qh (s:=12) (vs:=[_]) hH fun k23 st Ko hH=>?_;refine ab.bT (s:=12) hH rfl (ev rfl) (ev rfl) (by exact cU) (by exact hH.rows (by exact aS)) rfl rfl rfl rfl rfl rfl rfl ⟨(Nat.le_of_ble_eq_true rfl),(Nat.le_of_ble_eq_true rfl)⟩ (fun _=>(aa rfl _)) (by simp only[List.length_cons,List.length_nil,List.length_map]<;>omega) (by exact .inl hF) (fun QX st hH=>?_);dsimp only[u2,u1,u3,u4,setMany,u5,u6,D.cells,Nat.reduceAdd,aK,aW,bn,aQ,gW,mE] at hH;refine zQ 6 ?_;exact⟨mm-1,by omega,⟨i+1,QX,pd,qd,P,Q,sn,rfl,(by rw[List.take_add_one,hge,Option.toList_some,List.map_append,hB];exact hH.drop 2),by omega,lT,iw⟩⟩
 ·refine zQ 1 ?_;have hil:i=L.length:=by omega
  refine zQ 5 ?_;refine ah.ret ⟨rx,_,_,_,rfl,rfl,?_⟩;rw[List.take_of_length_le (by simp;omega)] at hH;exact⟨pd,qd,P,Q,sn,hH,lT,iw⟩
end Go.Proofs.Ytnleclohocdkaaa
