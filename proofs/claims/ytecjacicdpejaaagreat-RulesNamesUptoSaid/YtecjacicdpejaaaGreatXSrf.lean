/-
 (laid by rul/layset.sh, for the view without prims)
 The table's search: at any state that has the table's rows.
-/
import Derived.Test.YtecjacicdpejaaaGreatXSrx
import Derived.Test.YtecjacicdpejaaaGreatXM2
import Derived.Test.YtecjacicdpejaaaGreatXM3
set_option maxRecDepth 100000
set_option maxHeartbeats 4000000
set_option linter.unusedSimpArgs false
set_option linter.unusedVariables false
namespace Go.Proofs.YtecjacicdpejaaaGreat
open Go.V Go
def kT (fr:Go.V.Fr) (k:Nat):Go.V.D:=Go.V.nth .bp fr.loc k
theorem Gp:dY.fi 175=some ⟨Tryz.f175,9,.ro,false,none,[]⟩:=by kernel_rfl
theorem Fp (n:Nat) (hn:n<9223372036854775808) (st:St):(m_ dY .quo 3 (.int .i64 (n:Nat)) (.int .i64 2)).map (fun d=>(d,st))=some (.int .i64 ((n/2:Nat):Int),st):=by
 show Option.map _ (if(2:Int)=0 then none else some (D.int .i64 (bu .i64 (((n:Nat):Int).tdiv 2))))=_;rw[if_neg (by decide),show((n:Nat):Int).tdiv 2=((n/2:Nat):Int) from(Int.ofNat_tdiv n 2).symm,eu (by simp only[k_];omega)];rfl
theorem E7 (l:List eC):∀e∈l.map cN,e.length=2:=by
 intro e he;obtain⟨r,_,rfl⟩:=List.mem_map.1 he;rfl
theorem me {l:List eC} {i:Nat} {r:eC} (h:l[i]?=some r):(l.map cN)[i]?=some (cN r):=by rw[List.getElem?_map,h];rfl
theorem pC {st:St} {x:D} {l:List eC} (h:jb st x=some l):V.Rows st 2 x (l.map cN)∧l.length<1000000:=by
 rcases ga h with⟨rfl,rfl⟩|⟨kl,vl,ol,c,rfl,hm,hf,hl,hr⟩
 ·exact⟨.nul,by simp⟩
 ·refine⟨?_,hl⟩
  have:=V.Rows.win (st:=st) (s:=2) kl vl ol (l.map cN) true c hm (by rw[List.length_map];exact hf) (fun i e he=>by
   have hil:i<l.length:=by have:=(List.getElem?_eq_some_iff.1 he).1;simpa using this
   have h1:=jJ (E7 l) i e he;rw[←hr,List.drop_take,List.drop_drop,List.take_take,Nat.min_eq_left (by omega)] at h1
   exact h1)
  rw[List.length_map] at this;exact this
theorem rk (ks:List (List UInt8)) (key:List UInt8):∀(f lo hi:Nat),¬lo<hi→eI ks key f lo hi=lo
 |0,lo,hi,_=>rfl
 |f+1,lo,hi,h=>by unfold eI;rw[if_neg h]
theorem oO {ks:List (List UInt8)} {key:List UInt8} {f lo hi:Nat} (h:lo<hi) (hf:hi-lo≤f):∃f',(if Op.bytesLess (ks.getD ((lo+hi)/2) []) key=true then hi-((lo+hi)/2+1) else(lo+hi)/2-lo)≤f'∧eI ks key f lo hi=(if Op.bytesLess (ks.getD ((lo+hi)/2) []) key=true then eI ks key f' ((lo+hi)/2+1) hi else eI ks key f' lo ((lo+hi)/2)):=by
 cases f with
 |zero=>omega
 |succ f=>
  refine⟨f,?_,?_⟩
  ·split<;>omega
  ·rw[eI,if_pos h]
theorem uF {l:List eC} {i:Nat} {r:eC} (h:l[i]?=some r):(l.map (·.k)).getD i []=r.k:=by
 rw[List.getD_eq_getElem?_getD,List.getElem?_map,h];rfl
theorem Ee {s0:St} {k aq off:Nat} {key:List UInt8} {ar:Bool} {ct:List D} {x:D} {l:List eC} (hm:s0.bN k aq=some (ar,ct)) (hx:ct[off]?=some x) (ht:jb s0 x=some l):Ev dY 175 [.ptr k aq off,.str key] s0 (.tup [.int .i64 (aT l key:Nat),.bool (bw l key)]) s0:=by
 obtain⟨hr,qX⟩:=pC ht;have jF:k<s0.bs.length:=(List.getElem?_eq_some_iff.1 (bc hm).1).1;have DR:off<ct.length:=(List.getElem?_eq_some_iff.1 hx).1
 have G8:x.cells?=some [x]:=by rcases ga ht with⟨rfl,_⟩|⟨kl,vl,ol,c,rfl,_⟩<;>rfl
 refine Ev.jq rfl Gp rfl rfl rfl ?_;dsimp only[List.cons_append,List.nil_append,List.length,Nat.reduceSub,Nat.reduceAdd,List.replicate_succ,List.replicate_zero];have bf:(ai .ro s0).bs=s0.bs:=rfl;have hF:(ai .ro s0).flr≤s0.bs.length:=Nat.le_refl _;have hH:Has s0.bs.length (ai .ro s0) (ai .ro s0) []:=Has.start (Nat.le_refl _) (Nat.le_refl _);generalize ai .ro s0=S at*;have FV:=Arg.of hr bf
 have oY:∀{st:St} {H:List bj},Has s0.bs.length S st H→hD st (.ptr k aq off) [x]:=fun{st H} h=>by
  refine .inl ⟨k,aq,off,ar,ct,rfl,?_,?_⟩
  ·have h1:=(bc hm).1;unfold St.bN;rw[h.ex.low k jF,bf,h1];simp
  ·rw[List.drop_eq_getElem_cons DR];rw[List.getElem?_eq_getElem DR] at hx;rw[Option.some.inj hx];rfl
 (try change ag _ _ _ _ _ _);(repeat refine ag.seq ?_);(try generalize hK:bk _ _ _ _=K);refine ag.dt ?_;refine ae.mv (.inr rfl) rfl (ev rfl) (by dsimp only[Fr.put,List.set_cons_succ,List.set_cons_zero]<;>rfl) ?_;refine ae.mv (.inr rfl) rfl (ev rfl) (by dsimp only[Fr.put,List.set_cons_succ,List.set_cons_zero]<;>rfl) ?_;refine ae.nil ?_;(try subst hK);(try change ag _ _ _ _ _ _);have oJ:=oY hH;(try change ag _ _ _ _ _ _);(repeat refine ag.seq ?_);(try generalize hK:bk _ _ _ _=K);refine ag.dt ?_;refine ae.mv (.inl rfl) rfl (ev rfl) (aa rfl _) ?_;refine ae.go (d:=.ptr k aq off) (st1:=_) rfl rfl rfl (aa rfl _) ?_;refine ae.dA (fo:=0) (m:=0) (o:=off) rfl (ev rfl) rfl rfl (Nat.add_zero _) (aa rfl _) ?_
 first|refine ae.eR hH rfl (ev rfl) (by first|exact ax|exact aX|exact bV|exact da|exact cM|exact ej|exact eW|exact eV) rfl (aa rfl _) ?_|refine ae.dr rfl (ev rfl) (by assumption) rfl (aa rfl _) ?_|refine ae.dZ hH rfl (ev rfl) (by assumption) (by first|exact ax|exact aX|exact bV|exact da|exact cM|exact ej|exact eW|exact eV) (by assumption) rfl (aa rfl _) ?_
 first|refine ae.j4 rfl (ev rfl) (Arg.rows (by assumption) hH) rfl (aa rfl _) ?_|refine ae.j4 rfl (ev rfl) (hH.rows (by first|exact ax|exact aX|exact bV|exact da|exact cM|exact ej|exact eW|exact eV)) rfl (aa rfl _) ?_|refine ae.lF rfl rfl rfl (aa rfl _) ?_|refine ae.go rfl rfl rfl (aa rfl _) ?_
 (try simp only[List.length_map,List.length_append,List.length_cons,List.length_nil,List.length_set,List.length_replicate,List.length_reverse]);refine ae.mv (.inr rfl) rfl (ev rfl) (by dsimp only[Fr.put,List.set_cons_succ,List.set_cons_zero]<;>rfl) ?_;refine ae.mv (.inr rfl) rfl (ev rfl) (by dsimp only[Fr.put,List.set_cons_succ,List.set_cons_zero]<;>rfl) ?_;refine ae.nil ?_;(try subst hK);(try change ag _ _ _ _ _ _);(try change ag _ _ _ _ _ _);(repeat refine ag.seq ?_);refine ag.block<|ag.loop (fun mm fr st=>∃(lo hi:Nat),fr.clean=⟨9,[.ptr k aq off,.str key,kT fr 2,kT fr 3,kT fr 4,kT fr 5,.int .i64 (lo:Nat),.int .i64 (hi:Nat),kT fr 8],[]⟩∧Has s0.bs.length S st []∧(hi-lo≤mm)∧(lo≤hi)∧(hi≤l.length)∧(∃f,hi-lo≤f∧eI (l.map (·.k)) key f lo hi=aT l key)) (l.length) ?_ ?_
 ·exact⟨0,l.length,rfl,hH,by omega,by omega,by omega,⟨l.length,by omega,rfl⟩⟩
 rintro mm fr st ⟨lo,hi,hfr,hH,xF,SZ,Tz,K4⟩;rw[hfr];clear hfr;(try generalize kT fr=ee);clear fr;(try change ag _ _ _ _ _ _);(try change ag _ _ _ _ _ _);(repeat refine ag.seq ?_);(try generalize hK:bk _ _ _ _=K);refine ag.dt ?_;refine ae.mv (.inl rfl) rfl (ev rfl) (aa rfl _) ?_;refine ae.mv (.inl rfl) rfl (ev rfl) (aa rfl _) ?_;refine ae.go rfl rfl rfl (aa rfl _) ?_;refine ae.nil ?_;(try subst hK);(try change ag _ _ _ _ _ _);(try change ag _ _ _ _ _ _);(repeat refine ag.seq ?_);refine ag.cond (by first|rfl|assumption) (fun hlt=>?_) (fun hlt=>?_)<;>try simp only[decide_eq_true_eq,decide_eq_false_iff_not,beq_iff_eq,beq_eq_false_iff_ne,bne_iff_ne,bne_eq_false_iff_eq,ne_eq,Bool.not_eq_true',Bool.not_eq_false',Bool.not_eq_true,Bool.not_eq_false] at hlt
 ·have hlt:lo<hi:=by omega
  obtain⟨f,Af,wX⟩:=K4;obtain⟨f',sa,aN⟩:=oO (ks:=l.map (·.k)) (key:=key) hlt Af
  obtain⟨r,wQ⟩:∃r,l[(lo+hi)/2]?=some r:=⟨l[(lo+hi)/2]'(by omega),List.getElem?_eq_getElem _⟩
  have gN:=me wQ;rw[uF wQ] at sa aN;refine ag.skip ?_;(try change ag _ _ _ _ _ _);(try change ag _ _ _ _ _ _);(repeat refine ag.seq ?_);refine ag.block ?_;(try change ag _ _ _ _ _ _);(repeat refine ag.seq ?_);(try generalize hK:bk _ _ _ _=K);refine ag.dt ?_;refine ae.mv (.inl rfl) rfl (ev rfl) (aa rfl _) ?_;refine ae.mv (.inl rfl) rfl (ev rfl) (aa rfl _) ?_;refine ae.hC (z:=((lo+hi:Nat):Int)) rfl (ev rfl) (ev rfl) (by(try simp only[List.length_reverse,List.length_cons,List.length_nil,List.length_append,List.length_map,List.length_set]);first|(rw[wrap_i64 (by omega) (by omega)]<;>omega)|(rw[wrap_i32 (by omega) (by omega)]<;>omega)) (aa rfl _) ?_;refine ae.go (d:=.int .i64 (((lo+hi)/2:Nat):Int)) (st1:=_) rfl rfl (by exact Fp _ (by omega) _) (aa rfl _) ?_;refine ae.mv (.inr rfl) rfl (ev rfl) (by dsimp only[Fr.put,List.set_cons_succ,List.set_cons_zero]<;>rfl) ?_;refine ae.nil ?_;(try subst hK);(try change ag _ _ _ _ _ _);have oJ:=oY hH;(try change ag _ _ _ _ _ _);(repeat refine ag.seq ?_);(try generalize hK:bk _ _ _ _=K);refine ag.dt ?_;refine ae.mv (.inl rfl) rfl (ev rfl) (aa rfl _) ?_;refine ae.go (d:=.ptr k aq off) (st1:=_) rfl rfl rfl (aa rfl _) ?_;refine ae.dA (fo:=0) (m:=0) (o:=off) rfl (ev rfl) rfl rfl (Nat.add_zero _) (aa rfl _) ?_
  first|refine ae.eR hH rfl (ev rfl) (by first|exact ax|exact aX|exact bV|exact da|exact cM|exact ej|exact eW|exact eV) rfl (aa rfl _) ?_|refine ae.dr rfl (ev rfl) (by assumption) rfl (aa rfl _) ?_|refine ae.dZ hH rfl (ev rfl) (by assumption) (by first|exact ax|exact aX|exact bV|exact da|exact cM|exact ej|exact eW|exact eV) (by assumption) rfl (aa rfl _) ?_
  refine ae.mv (.inl rfl) rfl (ev rfl) (aa rfl _) ?_
  first|refine ae.A1 rfl (ev rfl) (ev rfl) (Arg.rows (by assumption) hH) rfl rfl (by assumption) (fun _=>(aa rfl _)) (fun NL H7=>?_)|refine ae.Ba hH rfl (ev rfl) (ev rfl) (by first|exact ax|exact aX|exact bV|exact da|exact cM|exact ej|exact eW|exact eV) rfl rfl (by first|exact cA (by assumption)|omega|(simp only[List.length_map,List.length_append,List.length_cons,List.length_nil,List.length_set,List.length_replicate]<;>omega)) (fun _=>(aa rfl _)) (fun NL H7=>?_)
  first|refine ae.fF (fo:=0) (m:=0) rfl (ev rfl) (by assumption) rfl rfl (fun _=>(aa rfl _)) (fun NK H6=>?_)|refine ae.de (fo:=0) (m:=0) (o2:=0) rfl (ev rfl) (by assumption) rfl rfl rfl (fun _=>(aa rfl _)) (fun NK H6=>?_)
  first|refine ae.dr rfl (ev rfl) (by assumption) rfl (aa rfl _) ?_|refine ae.dZ hH rfl (ev rfl) (by assumption) (by first|exact ax|exact aX|exact bV|exact da|exact cM|exact ej|exact eW|exact eV) (by assumption) rfl (aa rfl _) ?_|refine ae.eR hH rfl (ev rfl) (by first|exact ax|exact aX|exact bV|exact da|exact cM|exact ej|exact eW|exact eV) rfl (aa rfl _) ?_
  refine ae.mv (.inl rfl) rfl (ev rfl) (aa rfl _) ?_;refine ae.go (d:=.bool (Op.bytesLess r.k key)) (st1:=_) rfl rfl rfl (aa rfl _) ?_;refine ae.nil ?_;(try subst hK);(try change ag _ _ _ _ _ _)
  cases hb:Op.bytesLess r.k key with
  |true=>
   rw[hb,if_pos rfl] at sa;rw[hb,if_pos rfl] at aN;(try change ag _ _ _ _ _ _);(repeat refine ag.seq ?_);refine ag.cond (v:=true) (by first|assumption|(dsimp only[Fr.ev,Fr.get,nth,Go.V.look];done)) (fun _=>?_) (fun h=>by cases h);(try change ag _ _ _ _ _ _);(try change ag _ _ _ _ _ _);(repeat refine ag.seq ?_);(try generalize hK:bk _ _ _ _=K);refine ag.dt ?_;refine ae.mv (.inl rfl) rfl (ev rfl) (aa rfl _) ?_;refine ae.hC (z:=(((lo+hi)/2+1:Nat):Int)) rfl (ev rfl) (ev rfl) (by(try simp only[List.length_reverse,List.length_cons,List.length_nil,List.length_append,List.length_map,List.length_set]);first|(rw[wrap_i64 (by omega) (by omega)]<;>omega)|(rw[wrap_i32 (by omega) (by omega)]<;>omega)) (aa rfl _) ?_;refine ae.mv (.inr rfl) rfl (ev rfl) (by dsimp only[Fr.put,List.set_cons_succ,List.set_cons_zero]<;>rfl) ?_;refine ae.nil ?_;(try subst hK);(try change ag _ _ _ _ _ _);exact⟨mm-1,by omega,⟨(lo+hi)/2+1,hi,rfl,hH,by omega,by omega,by omega,⟨f',sa,by rw[←aN];exact wX⟩⟩⟩
  |false=>
   rw[hb,if_neg (by simp)] at sa;rw[hb,if_neg (by simp)] at aN;(try change ag _ _ _ _ _ _);(repeat refine ag.seq ?_);refine ag.cond (v:=false) (by first|assumption|(dsimp only[Fr.ev,Fr.get,nth,Go.V.look];done)) (fun h=>by cases h) (fun _=>?_);(try change ag _ _ _ _ _ _);(try change ag _ _ _ _ _ _);(repeat refine ag.seq ?_);(try generalize hK:bk _ _ _ _=K);refine ag.dt ?_;refine ae.mv (.inl rfl) rfl (ev rfl) (aa rfl _) ?_;refine ae.mv (.inr rfl) rfl (ev rfl) (by dsimp only[Fr.put,List.set_cons_succ,List.set_cons_zero]<;>rfl) ?_;refine ae.nil ?_;(try subst hK);(try change ag _ _ _ _ _ _);exact⟨mm-1,by omega,⟨lo,(lo+hi)/2,rfl,hH,by omega,by omega,by omega,⟨f',sa,by rw[←aN];exact wX⟩⟩⟩
 ·(try change ag _ _ _ _ _ _);refine ag.exit ?_;(try change ag _ _ _ _ _ _);obtain⟨f,Af,wX⟩:=K4;rw[rk _ _ _ _ _ (by omega)] at wX;subst wX;have oJ:=oY hH
  by_cases hin:aT l key<l.length
  ·have bL:decide (((aT l key:Nat):Int)<((l.length:Nat):Int))=true:=by rw[decide_eq_true_eq];omega
   obtain⟨r,wQ⟩:∃r,l[aT l key]?=some r:=⟨l[aT l key]'hin,List.getElem?_eq_getElem _⟩
   have gN:=me wQ;have nU:bw l key=(r.k==key):=by unfold bw;rw[decide_eq_true hin,uF wQ];rfl
   rw[nU];(try change ag _ _ _ _ _ _);(repeat refine ag.seq ?_);(try generalize hK:bk _ _ _ _=K);refine ag.dt ?_;refine ae.mv (.inl rfl) rfl (ev rfl) (aa rfl _) ?_;refine ae.mv (.inl rfl) rfl (ev rfl) (aa rfl _) ?_;refine ae.mv (.inl rfl) rfl (ev rfl) (aa rfl _) ?_;refine ae.go (d:=.ptr k aq off) (st1:=_) rfl rfl rfl (aa rfl _) ?_;refine ae.dA (fo:=0) (m:=0) (o:=off) rfl (ev rfl) rfl rfl (Nat.add_zero _) (aa rfl _) ?_
   first|refine ae.eR hH rfl (ev rfl) (by first|exact ax|exact aX|exact bV|exact da|exact cM|exact ej|exact eW|exact eV) rfl (aa rfl _) ?_|refine ae.dr rfl (ev rfl) (by assumption) rfl (aa rfl _) ?_|refine ae.dZ hH rfl (ev rfl) (by assumption) (by first|exact ax|exact aX|exact bV|exact da|exact cM|exact ej|exact eW|exact eV) (by assumption) rfl (aa rfl _) ?_
   first|refine ae.j4 rfl (ev rfl) (Arg.rows (by assumption) hH) rfl (aa rfl _) ?_|refine ae.j4 rfl (ev rfl) (hH.rows (by first|exact ax|exact aX|exact bV|exact da|exact cM|exact ej|exact eW|exact eV)) rfl (aa rfl _) ?_|refine ae.lF rfl rfl rfl (aa rfl _) ?_|refine ae.go rfl rfl rfl (aa rfl _) ?_
   (try simp only[List.length_map,List.length_append,List.length_cons,List.length_nil,List.length_set,List.length_replicate,List.length_reverse]);refine ae.go rfl rfl rfl (aa rfl _) ?_;refine ae.mv (.inl rfl) rfl (ev rfl) (aa rfl _) ?_;refine ae.mv (.inl rfl) (aj rfl rfl rfl bL) (ev rfl) (aa rfl _) ?_;refine ae.go (d:=.ptr k aq off) (st1:=_) (aj rfl rfl rfl bL) rfl rfl (aa rfl _) ?_;refine ae.dA (fo:=0) (m:=0) (o:=off) (aj rfl rfl rfl bL) (ev rfl) rfl rfl (Nat.add_zero _) (aa rfl _) ?_
   first|refine ae.eR hH (aj rfl rfl rfl bL) (ev rfl) (by first|exact ax|exact aX|exact bV|exact da|exact cM|exact ej|exact eW|exact eV) rfl (aa rfl _) ?_|refine ae.dr (aj rfl rfl rfl bL) (ev rfl) (by assumption) rfl (aa rfl _) ?_|refine ae.dZ hH (aj rfl rfl rfl bL) (ev rfl) (by assumption) (by first|exact ax|exact aX|exact bV|exact da|exact cM|exact ej|exact eW|exact eV) (by assumption) rfl (aa rfl _) ?_
   refine ae.mv (.inl rfl) (aj rfl rfl rfl bL) (ev rfl) (aa rfl _) ?_
   first|refine ae.A1 (aj rfl rfl rfl bL) (ev rfl) (ev rfl) (Arg.rows (by assumption) hH) rfl rfl (by assumption) (fun _=>(aa rfl _)) (fun Qn Kt=>?_)|refine ae.Ba hH (aj rfl rfl rfl bL) (ev rfl) (ev rfl) (by first|exact ax|exact aX|exact bV|exact da|exact cM|exact ej|exact eW|exact eV) rfl rfl (by first|exact cA (by assumption)|omega|(simp only[List.length_map,List.length_append,List.length_cons,List.length_nil,List.length_set,List.length_replicate]<;>omega)) (fun _=>(aa rfl _)) (fun Qn Kt=>?_)
   first|refine ae.fF (fo:=0) (m:=0) (aj rfl rfl rfl bL) (ev rfl) (by assumption) rfl rfl (fun _=>(aa rfl _)) (fun MT F3=>?_)|refine ae.de (fo:=0) (m:=0) (o2:=0) (aj rfl rfl rfl bL) (ev rfl) (by assumption) rfl rfl rfl (fun _=>(aa rfl _)) (fun MT F3=>?_)
   first|refine ae.dr (aj rfl rfl rfl bL) (ev rfl) (by assumption) rfl (aa rfl _) ?_|refine ae.dZ hH (aj rfl rfl rfl bL) (ev rfl) (by assumption) (by first|exact ax|exact aX|exact bV|exact da|exact cM|exact ej|exact eW|exact eV) (by assumption) rfl (aa rfl _) ?_|refine ae.eR hH (aj rfl rfl rfl bL) (ev rfl) (by first|exact ax|exact aX|exact bV|exact da|exact cM|exact ej|exact eW|exact eV) rfl (aa rfl _) ?_
   refine ae.mv (.inl rfl) (aj rfl rfl rfl bL) (ev rfl) (aa rfl _) ?_;refine ae.go (aj rfl rfl rfl bL) rfl rfl (aa rfl _) ?_;refine ae.cP rfl rfl bL (aa rfl _) ?_;refine ae.mv (.inr rfl) rfl (ev rfl) (by dsimp only[Fr.put,List.set_cons_succ,List.set_cons_zero]<;>rfl) ?_;refine ae.mv (.inr rfl) rfl (ev rfl) (by dsimp only[Fr.put,List.set_cons_succ,List.set_cons_zero]<;>rfl) ?_;refine ae.nil ?_;(try subst hK);(try change ag _ _ _ _ _ _);refine ag.ret ⟨fun i h=>(by cases h),_,rfl,jj (by simp) bf hH (rfl)⟩
  ·have bL:decide (((aT l key:Nat):Int)<((l.length:Nat):Int))=false:=by rw[decide_eq_false_iff_not];omega
   have nU:bw l key=false:=by unfold bw;rw[decide_eq_false hin];rfl
   rw[nU];(try change ag _ _ _ _ _ _);(repeat refine ag.seq ?_);(try generalize hK:bk _ _ _ _=K);refine ag.dt ?_;refine ae.mv (.inl rfl) rfl (ev rfl) (aa rfl _) ?_;refine ae.mv (.inl rfl) rfl (ev rfl) (aa rfl _) ?_;refine ae.mv (.inl rfl) rfl (ev rfl) (aa rfl _) ?_;refine ae.go (d:=.ptr k aq off) (st1:=_) rfl rfl rfl (aa rfl _) ?_;refine ae.dA (fo:=0) (m:=0) (o:=off) rfl (ev rfl) rfl rfl (Nat.add_zero _) (aa rfl _) ?_
   first|refine ae.eR hH rfl (ev rfl) (by first|exact ax|exact aX|exact bV|exact da|exact cM|exact ej|exact eW|exact eV) rfl (aa rfl _) ?_|refine ae.dr rfl (ev rfl) (by assumption) rfl (aa rfl _) ?_|refine ae.dZ hH rfl (ev rfl) (by assumption) (by first|exact ax|exact aX|exact bV|exact da|exact cM|exact ej|exact eW|exact eV) (by assumption) rfl (aa rfl _) ?_
   first|refine ae.j4 rfl (ev rfl) (Arg.rows (by assumption) hH) rfl (aa rfl _) ?_|refine ae.j4 rfl (ev rfl) (hH.rows (by first|exact ax|exact aX|exact bV|exact da|exact cM|exact ej|exact eW|exact eV)) rfl (aa rfl _) ?_|refine ae.lF rfl rfl rfl (aa rfl _) ?_|refine ae.go rfl rfl rfl (aa rfl _) ?_
   (try simp only[List.length_map,List.length_append,List.length_cons,List.length_nil,List.length_set,List.length_replicate,List.length_reverse]);refine ae.go rfl rfl rfl (aa rfl _) ?_;refine ae.mv (.inl rfl) rfl (ev rfl) (aa rfl _) ?_;refine ae.skip (bS rfl rfl rfl bL) (aa rfl _) ?_;refine ae.skip (bS rfl rfl rfl bL) (aa rfl _) ?_;refine ae.skip (bS rfl rfl rfl bL) (aa rfl _) ?_;refine ae.skip (bS rfl rfl rfl bL) (aa rfl _) ?_;refine ae.skip (bS rfl rfl rfl bL) (aa rfl _) ?_;refine ae.skip (bS rfl rfl rfl bL) (aa rfl _) ?_;refine ae.skip (bS rfl rfl rfl bL) (aa rfl _) ?_;refine ae.skip (bS rfl rfl rfl bL) (aa rfl _) ?_;refine ae.skip (bS rfl rfl rfl bL) (aa rfl _) ?_;refine ae.skip (bS rfl rfl rfl bL) (aa rfl _) ?_;refine ae.cH rfl rfl bL (aa rfl _) ?_;refine ae.mv (.inr rfl) rfl (ev rfl) (by dsimp only[Fr.put,List.set_cons_succ,List.set_cons_zero]<;>rfl) ?_;refine ae.mv (.inr rfl) rfl (ev rfl) (by dsimp only[Fr.put,List.set_cons_succ,List.set_cons_zero]<;>rfl) ?_;refine ae.nil ?_;(try subst hK);(try change ag _ _ _ _ _ _);refine ag.ret ⟨fun i h=>(by cases h),_,rfl,jj (by simp) bf hH (rfl)⟩
end Go.Proofs.YtecjacicdpejaaaGreat
