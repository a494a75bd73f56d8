/-
 rules: the table's Get, and Index, Name, Count.
-/
import Derived.Test.YtecjacicdpejaaaGreatXGEo
import Derived.Test.YtecjacicdpejaaaGreatXSrf
import Derived.Test.YtecjacicdpejaaaGreatRows
import Derived.Test.YtecjacicdpejaaaGreatXM3
import Derived.Test.YtecjacicdpejaaaGreatXGEm
import Derived.Test.YtecjacicdpejaaaGreatXGPb
import Derived.Test.YtecjacicdpejaaaGreatXGQh
set_option maxRecDepth 100000
set_option maxHeartbeats 4000000
set_option linter.unusedSimpArgs false
set_option linter.unusedVariables false
namespace Go.Proofs.YtecjacicdpejaaaGreat
open Go.V Go
def nO (fr:Go.V.Fr) (k:Nat):Go.V.D:=Go.V.nth .bp fr.loc k
theorem Fq (n:Nat) (hn:n<9223372036854775808) (st:St):(m_ pv .quo 3 (.int .i64 (n:Nat)) (.int .i64 2)).map (fun d=>(d,st))=some (.int .i64 ((n/2:Nat):Int),st):=by
 show Option.map _ (if(2:Int)=0 then none else some (D.int .i64 (bu .i64 (((n:Nat):Int).tdiv 2))))=_;rw[if_neg (by decide),show((n:Nat):Int).tdiv 2=((n/2:Nat):Int) from(Int.ofNat_tdiv n 2).symm,eu (by simp only[k_];omega)];rfl
theorem Gn {s0:St} {k aq off:Nat} {key:List UInt8} {ar:Bool} {ct:List D} {x:D} {l:List eC} (hm:s0.bN k aq=some (ar,ct)) (hx:ct[off]?=some x) (ht:jb s0 x=some l):Ev pv 175 [.ptr k aq off,.str key] s0 (.tup [.int .i64 (aT l key:Nat),.bool (bw l key)]) s0:=by
 obtain⟨hr,qX⟩:=pC ht;have jF:k<s0.bs.length:=(List.getElem?_eq_some_iff.1 (bc hm).1).1;have DR:off<ct.length:=(List.getElem?_eq_some_iff.1 hx).1
 have G8:x.cells?=some [x]:=by rcases ga ht with⟨rfl,_⟩|⟨kl,vl,ol,c,rfl,_⟩<;>rfl
 refine Ev.jq rfl Md rfl rfl rfl ?_;dsimp only[u3,u4,List.length,Nat.reduceSub,Nat.reduceAdd,w1,w2];obtain⟨bf,hF,hH⟩:=ri s0;generalize ai .ro s0=S at*;have FV:=Arg.of hr bf
 have oY:∀{st:St} {H:List bj},Has s0.bs.length S st H→hD st (.ptr k aq off) [x]:=fun{st H} h=>by
  refine .inl ⟨k,aq,off,ar,ct,rfl,?_,?_⟩
  ·have h1:=(bc hm).1;unfold St.bN;rw[h.ex.low k jF,bf,h1];simp
  ·rw[List.drop_eq_getElem_cons DR];rw[List.getElem?_eq_getElem DR] at hx;rw[Option.some.inj hx];rfl
 refine qq<|qj fun K hK=>qm ?_;refine qm ?_;refine qe hK ?_;have oJ:=oY hH;refine qq<|qj fun K hK=>qm ?_;refine ae.go (d:=.ptr k aq off) (st1:=_) rfl rfl rfl (aa rfl _) ?_;refine ae.dA (fo:=0) (m:=0) (o:=off) rfl (ev rfl) rfl rfl (Nat.add_zero _) (aa rfl _) ?_;refine qR ?_;refine qn ?_;simp only[List.length_map];refine qm ?_;refine qm ?_;refine qe hK<|qq<|ag.block<|ag.loop (fun mm fr st=>∃(lo hi:Nat),fr.clean=⟨9,[.ptr k aq off,.str key,nO fr 2,nO fr 3,nO fr 4,nO fr 5,.int .i64 (lo:Nat),.int .i64 (hi:Nat),nO fr 8],[]⟩∧Has s0.bs.length S st []∧(hi-lo≤mm)∧(lo≤hi)∧(hi≤l.length)∧(∃f,hi-lo≤f∧eI (l.map (·.k)) key f lo hi=aT l key)) (l.length) ?_ ?_
 ·exact⟨0,l.length,rfl,hH,by omega,by omega,by omega,⟨l.length,by omega,rfl⟩⟩
 rintro mm fr st ⟨lo,hi,hfr,hH,xF,SZ,Tz,K4⟩;rw[hfr];clear hfr;generalize nO fr=ee;clear fr;refine qq<|qq<|qj fun K hK=>qm ?_;refine qm ?_;refine qg ?_;refine qe hK ?_;refine ag.cond (by rfl) (fun hlt=>?_) (fun hlt=>?_)<;>try simp only[decide_eq_true_eq,decide_eq_false_iff_not] at hlt
 ·have hlt:lo<hi:=by omega
  obtain⟨f,Af,wX⟩:=K4;obtain⟨f',sa,aN⟩:=oO (ks:=l.map (·.k)) (key:=key) hlt Af
  obtain⟨r,wQ⟩:∃r,l[(lo+hi)/2]?=some r:=⟨l[(lo+hi)/2]'(by omega),List.getElem?_eq_getElem _⟩
  have gN:=me wQ;rw[uF wQ] at sa aN;refine ag.skip<|ag.block<|qq<|qj fun K hK=>qm ?_;refine qm ?_;refine ae.hC (z:=((lo+hi:Nat):Int)) rfl (ev rfl) (ev rfl) (by(try simp only[List.length_reverse,List.length_cons,List.length_nil,List.length_append,List.length_map,List.length_set]);rw[wrap_i64 (by omega) (by omega)]<;>omega) (aa rfl _) ?_;refine ae.go (d:=.int .i64 (((lo+hi)/2:Nat):Int)) (st1:=_) rfl rfl (by exact Fq _ (by omega) _) (aa rfl _) ?_;refine qm ?_;refine qe hK ?_;have oJ:=oY hH;refine qq<|qj fun K hK=>qm ?_;refine ae.go (d:=.ptr k aq off) (st1:=_) rfl rfl rfl (aa rfl _) ?_;refine ae.dA (fo:=0) (m:=0) (o:=off) rfl (ev rfl) rfl rfl (Nat.add_zero _) (aa rfl _) ?_;refine qR ?_;refine qm ?_;refine qr fun NL H7=>?_;refine qf (fo:=0) fun NK H6=>?_;refine qR ?_;refine qm ?_;refine ae.go (d:=.bool (Op.bytesLess r.k key)) (st1:=_) rfl rfl rfl (aa rfl _) ?_;refine qe hK ?_
  cases hb:Op.bytesLess r.k key with
  |true=>
   rw[hb,if_pos rfl] at sa;rw[hb,if_pos rfl] at aN;refine ag.cond (v:=true) (by dsimp only[Fr.ev,Fr.get,nth,V.look];done) (fun _=>?_) (fun h=>by cases h);refine qj fun K hK=>qm ?_;refine ae.hC (z:=(((lo+hi)/2+1:Nat):Int)) rfl (ev rfl) (ev rfl) (by(try simp only[List.length_reverse,List.length_cons,List.length_nil,List.length_append,List.length_map,List.length_set]);rw[wrap_i64 (by omega) (by omega)]<;>omega) (aa rfl _) ?_;refine qm ?_;refine qe hK ?_;exact⟨mm-1,by omega,⟨(lo+hi)/2+1,hi,rfl,hH,by omega,by omega,by omega,⟨f',sa,by rw[←aN];exact wX⟩⟩⟩
  |false=>
   rw[hb,if_neg (by simp)] at sa;rw[hb,if_neg (by simp)] at aN;refine ag.cond (v:=false) (by dsimp only[Fr.ev,Fr.get,nth,V.look];done) (fun h=>by cases h) (fun _=>?_);refine qj fun K hK=>qm ?_;refine qm ?_;refine qe hK ?_;exact⟨mm-1,by omega,⟨lo,(lo+hi)/2,rfl,hH,by omega,by omega,by omega,⟨f',sa,by rw[←aN];exact wX⟩⟩⟩
 ·refine ag.exit ?_;obtain⟨f,Af,wX⟩:=K4;rw[rk _ _ _ _ _ (by omega)] at wX;subst wX;have oJ:=oY hH
  by_cases hin:aT l key<l.length
  ·have bL:decide (((aT l key:Nat):Int)<((l.length:Nat):Int))=true:=by rw[decide_eq_true_eq];omega
   obtain⟨r,wQ⟩:∃r,l[aT l key]?=some r:=⟨l[aT l key]'hin,List.getElem?_eq_getElem _⟩
   have gN:=me wQ;have nU:bw l key=(r.k==key):=by unfold bw;rw[decide_eq_true hin,uF wQ];rfl
   rw[nU];refine qq<|qj fun K hK=>qm ?_;refine qm ?_;refine qm ?_;refine ae.go (d:=.ptr k aq off) (st1:=_) rfl rfl rfl (aa rfl _) ?_;refine ae.dA (fo:=0) (m:=0) (o:=off) rfl (ev rfl) rfl rfl (Nat.add_zero _) (aa rfl _) ?_;refine qR ?_;refine qn ?_;simp only[List.length_map];refine qg ?_;refine qm ?_;refine qm ?_ (hg:=wi bL);refine ae.go (d:=.ptr k aq off) (st1:=_) (aj rfl rfl rfl bL) rfl rfl (aa rfl _) ?_;refine ae.dA (fo:=0) (m:=0) (o:=off) (aj rfl rfl rfl bL) (ev rfl) rfl rfl (Nat.add_zero _) (aa rfl _) ?_;refine qR ?_ (hg:=wi bL);refine qm ?_ (hg:=wi bL);refine qr (fun Qn Kt=>?_) (hg:=wi bL);refine qf (fo:=0) (fun MT F3=>?_) (hg:=wi bL);refine qR ?_ (hg:=wi bL);refine qm ?_ (hg:=wi bL);refine qg ?_ (hg:=wi bL);refine qt bL ?_;refine qm ?_;refine qm ?_;refine qe hK<|ag.ret ⟨rx,_,rfl,rl bf hH (rfl)⟩
  ·have bL:decide (((aT l key:Nat):Int)<((l.length:Nat):Int))=false:=by rw[decide_eq_false_iff_not];omega
   have nU:bw l key=false:=by unfold bw;rw[decide_eq_false hin];rfl
   rw[nU];refine qq<|qj fun K hK=>qm ?_;refine qm ?_;refine qm ?_;refine ae.go (d:=.ptr k aq off) (st1:=_) rfl rfl rfl (aa rfl _) ?_;refine ae.dA (fo:=0) (m:=0) (o:=off) rfl (ev rfl) rfl rfl (Nat.add_zero _) (aa rfl _) ?_;refine qR ?_;refine qn ?_;simp only[List.length_map];refine qg ?_;refine qm ?_;refine qs ?_ (hg:=wn bL);refine qs ?_ (hg:=wn bL);refine qs ?_ (hg:=wn bL);refine qs ?_ (hg:=wn bL);refine qs ?_ (hg:=wn bL);refine qs ?_ (hg:=wn bL);refine qs ?_ (hg:=wn bL);refine qs ?_ (hg:=wn bL);refine qs ?_ (hg:=wn bL);refine qs ?_ (hg:=wn bL);refine qu bL ?_;refine qm ?_;refine qm ?_;refine qe hK<|ag.ret ⟨rx,_,rfl,rl bf hH (rfl)⟩
theorem xv {l:List eC} {key:List UInt8} (h:bw l key=true):∃r,l[aT l key]?=some r:=by
 unfold bw at h;rw[Bool.and_eq_true,decide_eq_true_eq] at h;exact⟨l[aT l key]'h.1,List.getElem?_eq_getElem _⟩
def sf (l:List eC) (key:List UInt8):Int×Bool:=if bw l key=true then(((l[aT l key]?).getD ⟨[],0⟩).v,true) else(0,false)
theorem zp {S s0:St} (h:S.bs=s0.bs) (x:D):jb S x=jb s0 x:=by
 cases x<;>try rfl
 unfold jb St.bN;rw[h]
theorem IL {k:Nat} {s0:St} {key:List UInt8} {x:D} {l:List eC} (fw:s0.bs[k]?=some (.mem 0 false [x])) (Jk:jb s0 x=some l):Ev pv 118 [.ptr k 0 0,.str key] s0 (.tup [.int .i64 (sf l key).1,.bool (sf l key).2]) s0:=by
 obtain⟨hr,qX⟩:=pC Jk;have jF:k<s0.bs.length:=(List.getElem?_eq_some_iff.1 fw).1;refine Ev.jq rfl Ms rfl rfl rfl ?_;dsimp only[u3,u4,List.length,Nat.reduceSub,Nat.reduceAdd,w1,w2];obtain⟨bf,hF,hH⟩:=ri s0;generalize ai .ro s0=S at*;have FV:=Arg.of hr bf
 have rK:S.bN k 0=some (false,[x]):=by
  unfold St.bN;rw[bf,fw];simp
 have R8:jb S x=some l:=by rw[zp bf];exact Jk
 have hf:=Gn (s0:=S) (key:=key) (off:=0) rK rfl R8
 have oY:∀{st:St} {H:List bj},Has s0.bs.length S st H→hD st (.ptr k 0 0) [x]:=fun{st H} h=>by
  refine .inl ⟨k,0,0,false,[x],rfl,?_,rfl⟩;unfold St.bN;rw[h.ex.low k jF,bf,fw];simp
 refine qq<|qj fun K hK=>qm ?_;refine qm ?_;refine qe hK<|qq<|qj fun K hK=>qm ?_;refine qm ?_;refine ae.dF rfl rfl hf (aa rfl _) ?_;refine qm ?_;refine qg ?_;refine qg ?_;refine qm ?_;refine qm ?_;refine qe hK<|qq<|qq<|qj fun K hK=>qm ?_;refine qg ?_;refine qe hK ?_;unfold sf
 cases ht:bw l key with
 |false=>
  rw[if_neg (by simp)];refine ag.cond (v:=true) (by dsimp only[Fr.ev,Fr.get,nth,V.look];rfl) (fun _=>?_) (fun h=>by cases h);refine qq<|qj fun K hK=>qm ?_;refine qe hK<|qq<|qj fun K hK=>qm ?_;refine qm ?_;refine qm ?_;refine qe hK<|ag.ret ⟨rx,_,rfl,rl bf hH (rfl)⟩
 |true=>
  rw[if_pos rfl];obtain⟨r,wQ⟩:=xv ht;have gN:=me wQ;rw[wQ];refine ag.cond (v:=false) (by dsimp only[Fr.ev,Fr.get,nth,V.look];rfl) (fun h=>by cases h) (fun _=>?_);refine ag.skip ?_;have oJ:=oY hH;refine qq<|qj fun K hK=>qm ?_;refine ae.go (d:=.ptr k 0 0) (st1:=_) rfl rfl rfl (aa rfl _) ?_;refine qp (o:=0) ?_;refine qR ?_;refine qm ?_;refine qr fun NN H9=>?_;refine qf (fo:=1) fun Hy yN=>?_;refine qR ?_;refine qm ?_;refine qm ?_;refine qe hK<|ag.ret ⟨rx,_,rfl,rl bf hH (rfl)⟩
def pM (T:List eC) (key:List UInt8):Int:=if(sf T key).2=true then(sf T key).1 else-1
theorem yg {k:Nat} {s0 S:St} {c:List D} (hb:s0.bs[k]?=some (.mem 0 false c)) (bf:S.bs=s0.bs):∀{st:St} {H:List bj},Has s0.bs.length S st H→hD st (.ptr k 0 0) c:=fun{st H} h=>by
 refine .inl ⟨k,0,0,false,c,rfl,?_,by rw[List.drop_zero,List.take_length]⟩;unfold St.bN;rw[h.ex.low k (List.getElem?_eq_some_iff.1 hb).1,bf,hb];simp
theorem Fl {kr kt:Nat} {s0:St} {key cont:List UInt8} {x a c1 c2 c3 c4:D} {T:List eC} (hb:s0.bs[kr]?=some (.mem 0 false [a,.str cont,c1,c2,c3,c4,.ptr kt 0 0])) (fw:s0.bs[kt]?=some (.mem 0 false [x])) (Jk:jb s0 x=some T):Ev pv 52 [.ptr kr 0 0,.str key] s0 (.int .i64 (pM T key)) s0:=by
 refine Ev.jq rfl PS rfl rfl rfl ?_;dsimp only[u3,u4,List.length,Nat.reduceSub,Nat.reduceAdd,w1,w2];obtain⟨bf,hF,hH⟩:=ri s0;generalize ai .ro s0=S at*;have hg:=IL (s0:=S) (key:=key) (by rw[bf];exact fw) (by rw[zp bf];exact Jk);refine qq<|qj fun K hK=>qm ?_;refine qe hK ?_;have oJ:=yg hb bf hH;refine qq<|qj fun K hK=>qm ?_;refine ae.go (d:=.ptr kr 0 0) (st1:=_) rfl rfl rfl (aa rfl _) ?_;refine ae.fF (fo:=6) (m:=0) rfl (ev rfl) oJ rfl rfl (fun _=>(aa rfl _)) (fun Qv Ib=>?_);refine ae.dr (d:=.ptr kt 0 0) rfl (ev rfl) Ib rfl (aa rfl _) ?_;refine qm ?_;refine ae.dF rfl rfl hg (aa rfl _) ?_;refine qm ?_;refine qg ?_;refine qg ?_;refine qm ?_;refine qm ?_;refine qe hK<|qq<|qq<|qj fun K hK=>qm ?_;refine qg ?_;refine qe hK ?_;unfold pM
 cases hgt:(sf T key).2 with
 |false=>
  rw[if_neg (by simp)];refine ag.cond (v:=true) (by dsimp only[Fr.ev,Fr.get,nth,V.look];rfl) (fun _=>?_) (fun h=>by cases h);refine qq<|qj fun K hK=>qm ?_;refine qe hK<|ag.ret ⟨rx,_,rfl,rl bf hH (rfl)⟩
 |true=>
  rw[if_pos rfl];refine ag.cond (v:=false) (by dsimp only[Fr.ev,Fr.get,nth,V.look];rfl) (fun h=>by cases h) (fun _=>?_);refine ag.skip<|qq<|qj fun K hK=>qm ?_;refine qm ?_;refine qe hK<|ag.ret ⟨rx,_,rfl,rl bf hH (rfl)⟩
theorem A5 (st:St) (l:List lh):V.Rows st 2 (j8 l) (l.map c8):=by
 unfold j8;refine Rows.my ?_ ?_
 ·intro e he;obtain⟨q,_,rfl⟩:=List.mem_map.1 he;rfl
 ·intro e he d hd;obtain⟨q,_,rfl⟩:=List.mem_map.1 he;simp only[c8,List.mem_cons,List.not_mem_nil,or_false] at hd
  rcases hd with rfl|rfl<;>rfl
def gh (l:List lh) (i:Int):List UInt8:=if i<0 then[] else((l[i.toNat]?).map (·.nm)).getD []
theorem CL {kr kt:Nat} {s0:St} {cont:List UInt8} {l:List lh} {c1 c2 c3 c4:D} {i:Int} (hb:s0.bs[kr]?=some (.mem 0 false [j8 l,.str cont,c1,c2,c3,c4,.ptr kt 0 0])):Ev pv 53 [.ptr kr 0 0,.int .i64 i] s0 (.str (gh l i)) s0:=by
 have H5:=fun st=>A5 st l;have z_:Arg s0.bs.length s0 2 (j8 l) (l.map c8):=Arg.of (H5 s0) rfl;refine Ev.jq rfl PQ rfl rfl rfl ?_;dsimp only[u3,u4,List.length,Nat.reduceSub,Nat.reduceAdd,w1,w2];obtain⟨bf,hF,hH⟩:=ri s0;generalize ai .ro s0=S at*;have z_:Arg s0.bs.length S 2 (j8 l) (l.map c8):=Arg.of (H5 s0) bf;refine qq<|qj fun K hK=>qm ?_;refine qe hK ?_;have oJ:=yg hb bf hH
 by_cases h0:i<0
 ·have aN:decide (i<0)=true:=by rw[decide_eq_true_eq];exact h0
  have hn:gh l i=[]:=by unfold gh;rw[if_pos h0]
  rw[hn];refine qq<|qq<|qj fun K hK=>qm ?_;refine qg ?_;refine qm ?_;refine qs ?_ (hg:=wn aN);refine qs ?_ (hg:=wn aN);refine qs ?_ (hg:=wn aN);refine qs ?_ (hg:=wn aN);refine qs ?_ (hg:=wn aN);refine qs ?_ (hg:=wn aN);refine qs ?_ (hg:=wn aN);refine qs ?_ (hg:=wn aN);refine qt aN ?_;refine qe hK<|qB ?_;refine qq<|qj fun K hK=>qm ?_;refine qe hK<|ag.ret ⟨rx,_,rfl,rl bf hH (rfl)⟩
 ·have aN:decide (i<0)=false:=by rw[decide_eq_false_iff_not];exact h0
  obtain⟨n,rfl⟩:∃n:Nat,i=(n:Nat):=⟨i.toNat,by omega⟩
  have hn:gh l (n:Nat)=((l[n]?).map (·.nm)).getD []:=by unfold gh;rw[if_neg h0,Int.toNat_natCast]
  rw[hn];refine qq<|qq<|qj fun K hK=>qm ?_;refine qg ?_;refine qm ?_;refine qm ?_ (hg:=wi aN);refine qm ?_ (hg:=wi aN);refine ae.go (d:=.ptr kr 0 0) (st1:=_) (aj rfl rfl rfl aN) rfl rfl (aa rfl _) ?_;refine ae.fF (fo:=0) (m:=1) (aj rfl rfl rfl aN) (ev rfl) oJ rfl rfl (fun _=>(aa rfl _)) (fun Qu Ia=>?_);refine ae.fF (fo:=0) (m:=0) (aj rfl rfl rfl aN) (ev rfl) Ia rfl rfl (fun _=>(aa rfl _)) (fun MU DO=>?_);refine ae.dr (d:=j8 l) (aj rfl rfl rfl aN) (ev rfl) DO rfl (aa rfl _) ?_;refine ae.j4 (aj rfl rfl rfl aN) (ev rfl) (H5 _) rfl (aa rfl _) ?_;refine qg ?_ (hg:=wi aN);refine qu aN ?_;refine qe hK ?_;rw[List.length_map]
  by_cases hlt:n<l.length
  ·have hc:decide (((n:Nat):Int)≥((l.length:Nat):Int))=false:=by rw[decide_eq_false_iff_not];omega
   obtain⟨p,hp⟩:∃p,l[n]?=some p:=⟨l[n]'hlt,List.getElem?_eq_getElem _⟩
   have gN:=kL hp;rw[hp];refine qE rfl (by rw[hc]) ?_;refine ag.skip ?_;have oJ:=yg hb bf hH;refine qq<|qj fun K hK=>qm ?_;refine ae.go (d:=.ptr kr 0 0) (st1:=_) rfl rfl rfl (aa rfl _) ?_;refine ae.fF (fo:=0) (m:=1) rfl (ev rfl) oJ rfl rfl (fun _=>(aa rfl _)) (fun Qs H_=>?_);refine ae.fF (fo:=0) (m:=0) rfl (ev rfl) H_ rfl rfl (fun _=>(aa rfl _)) (fun UC OH=>?_);refine ae.dr (d:=j8 l) rfl (ev rfl) OH rfl (aa rfl _) ?_;refine qm ?_;refine qr fun NN H9=>?_;refine qf (fo:=0) fun Hy yN=>?_;refine qR ?_;refine qm ?_;refine qe hK<|ag.ret ⟨rx,_,rfl,rl bf hH (rfl)⟩
  ·have hc:decide (((n:Nat):Int)≥((l.length:Nat):Int))=true:=by rw[decide_eq_true_eq];omega
   rw[List.getElem?_eq_none (by omega)];refine qD rfl (by rw[hc]) ?_;refine qq<|qj fun K hK=>qm ?_;refine qe hK<|ag.ret ⟨rx,_,rfl,rl bf hH (rfl)⟩
end Go.Proofs.YtecjacicdpejaaaGreat
namespace Go.Proofs.YtecjacicdpejaaaGreat
open Go.V Go
theorem EG:∀a:List UInt8,Op.bytesLess a a=false
 |[]=>rfl
 |x::a=>by
  have h:=EG a;have hx:¬x<x:=by simp
  simp only[Op.bytesLess]
  first|(simp[hx,h];done)|(rw[if_neg hx];simpa using h)
theorem EF:∀a b:List UInt8,Op.bytesLess a b=false→a≠b→Op.bytesLess b a=true
 |[],[],_,h=>absurd rfl h
 |[],y::b,h,_=>by simp[Op.bytesLess] at h
 |x::a,[],_,_=>by simp[Op.bytesLess]
 |x::a,y::b,h,hne=>by
  have ih:=EF a b;simp only[Op.bytesLess] at h⊢ih
  rcases UInt8.lt_or_le x y with FU|FU
  ·simp[FU] at h
  ·rcases UInt8.lt_or_eq_of_le FU with h2|h2
   ·simp[h2]
   ·subst h2;have hx:¬y<y:=by simp
    simp[hx] at h⊢;exact ih h (fun e=>hne (by rw[e]))
def P_ (ks:List (List UInt8)):Prop:=∀(i j:Nat) a b,i<j→ks[i]?=some a→ks[j]?=some b→Op.bytesLess a b=true
theorem kj {ks:List (List UInt8)} {key:List UInt8} (hs:∀(i j:Nat) a b,i≤j→ks[i]?=some a→ks[j]?=some b→Op.bytesLess b key=true→Op.bytesLess a key=true):∀(f lo hi:Nat),hi-lo≤f→lo≤hi→hi≤ks.length→(∀(i:Nat) a,i<lo→ks[i]?=some a→Op.bytesLess a key=true)→(∀(i:Nat) a,hi≤i→ks[i]?=some a→Op.bytesLess a key=false)→
  (∀(i:Nat) a,i<eI ks key f lo hi→ks[i]?=some a→Op.bytesLess a key=true)∧(∀(i:Nat) a,eI ks key f lo hi≤i→ks[i]?=some a→Op.bytesLess a key=false)
 |0,lo,hi,h,hl,_,h1,h2=>by
  have:lo=hi:=by omega
  subst this;exact⟨h1,h2⟩
 |f+1,lo,hi,h,hl,hk,h1,h2=>by
  unfold eI
  split
  ·rename_i hlt
   obtain⟨m,hm⟩:∃m,ks[(lo+hi)/2]?=some m:=⟨ks[(lo+hi)/2]'(by omega),List.getElem?_eq_getElem _⟩
   have hg:ks.getD ((lo+hi)/2) []=m:=by rw[List.getD_eq_getElem?_getD,hm];rfl
   rw[hg]
   cases hb:Op.bytesLess m key with
   |true=>
    rw[if_pos rfl];exact kj hs f _ _ (by omega) (by omega) hk (fun i a hi ha=>hs i _ a m (by omega) ha hm hb) h2
   |false=>
    rw[if_neg (by simp)];refine kj hs f _ _ (by omega) (by omega) (by omega) h1 (fun i a hi ha=>?_)
    cases hc:Op.bytesLess a key with
    |false=>rfl
    |true=>rw[hs _ i m a (by omega) hm ha hc] at hb;cases hb
  ·have:lo=hi:=by omega
   subst this;exact⟨h1,h2⟩
theorem xr:∀a b c:List UInt8,Op.bytesLess a b=true→Op.bytesLess b c=true→Op.bytesLess a c=true
 |_,[],_,h,_=>by simp[Op.bytesLess] at h
 |_,_::_,[],_,h=>by simp[Op.bytesLess] at h
 |[],_::_,_::_,_,_=>by simp[Op.bytesLess]
 |x::a,y::b,z::c,h1,h2=>by
  have ih:=xr a b c;simp only[Op.bytesLess,Bool.or_eq_true,Bool.and_eq_true,decide_eq_true_eq,beq_iff_eq] at h1 h2⊢
  rcases h1 with h1|⟨rfl,h1⟩
  ·rcases h2 with h2|⟨rfl,h2⟩
   ·exact .inl (UInt8.lt_trans h1 h2)
   ·exact .inl h1
  ·rcases h2 with h2|⟨rfl,h2⟩
   ·exact .inl h2
   ·exact .inr ⟨rfl,ih h1 h2⟩
def xA (l:List eC):Prop:=P_ (l.map (·.k))
theorem rh {l:List eC} {key:List UInt8} (hs:xA l):(∀(i:Nat) r,i<aT l key→l[i]?=some r→Op.bytesLess r.k key=true)∧(∀(i:Nat) r,aT l key≤i→l[i]?=some r→Op.bytesLess r.k key=false):=by
 have h:=kj (ks:=l.map (·.k)) (key:=key) (fun i j a b hij ha hb hlt=>by
  rcases Nat.lt_or_eq_of_le hij with h|rfl
  ·exact xr _ _ _ (hs i j a b h ha hb) hlt
  ·rw[ha] at hb;cases hb;exact hlt) l.length 0 l.length (by omega) (by omega) (by simp) (fun i a h=>by omega) (fun i a h ha=>by rw[List.getElem?_eq_none (by simpa using h)] at ha;cases ha)
 exact⟨fun i r hi hr=>h.1 i r.k hi (by rw[List.getElem?_map,hr];rfl),fun i r hi hr=>h.2 i r.k hi (by rw[List.getElem?_map,hr];rfl)⟩
theorem rf {l:List eC} (hs:xA l) {j:Nat} {r:eC} (hj:l[j]?=some r):aT l r.k=j∧bw l r.k=true:=by
 obtain⟨h1,h2⟩:=rh (key:=r.k) hs
 have he:aT l r.k=j:=by
  rcases Nat.lt_trichotomy (aT l r.k) j with h|h|h
  ·obtain⟨u,hu⟩:∃u,l[aT l r.k]?=some u:=⟨l[aT l r.k]'(by have:=(List.getElem?_eq_some_iff.1 hj).1;omega),List.getElem?_eq_getElem _⟩
   have h3:=h2 _ u (Nat.le_refl _) hu;rw[hs _ j u.k r.k h (by rw[List.getElem?_map,hu];rfl) (by rw[List.getElem?_map,hj];rfl)] at h3;cases h3
  ·exact h
  ·have h3:=h1 j r h hj;rw[EG] at h3;cases h3
 refine⟨he,?_⟩;unfold bw;rw[he,Bool.and_eq_true,decide_eq_true_eq,List.getD_eq_getElem?_getD,List.getElem?_map,hj];exact⟨(List.getElem?_eq_some_iff.1 hj).1,by simp⟩
theorem get_mem {l:List eC} (hs:xA l) {r:eC} (hr:r∈l):sf l r.k=(r.v,true):=by
 obtain⟨j,hj⟩:=List.getElem?_of_mem hr;obtain⟨h1,h2⟩:=rf hs hj;unfold sf;rw[if_pos h2,h1,hj];rfl
theorem AP {l:List eC} {key:List UInt8} (h:bw l key=true):∃r∈l,r.k=key:=by
 obtain⟨r,hr⟩:=xv h;refine⟨r,List.mem_of_getElem? hr,?_⟩;unfold bw at h;rw[Bool.and_eq_true,List.getD_eq_getElem?_getD,List.getElem?_map,hr] at h
 simpa using h.2
theorem Gk {l:List eC} {key:List UInt8} (h:∀r∈l,r.k≠key):sf l key=(0,false):=by
 unfold sf;rw[if_neg];intro ht;obtain⟨r,hr,he⟩:=AP ht;exact h r hr he
theorem zy {l:List eC} {key:List UInt8} {v:Int} (ht:bw l key=false) (r:eC):r∈fy l key v↔r=⟨key,v⟩∨r∈l:=by
 unfold fy;rw[if_neg (by rw[ht];simp)];unfold nR;constructor
 ·intro h
  rcases List.mem_append.1 h with h|h
  ·exact .inr (List.mem_of_mem_take h)
  ·rcases List.mem_cons.1 h with h|h
   ·exact .inl h
   ·exact .inr (List.mem_of_mem_drop h)
 ·rintro(rfl|h)
  ·exact List.mem_append_right _ (List.mem_cons_self ..)
  ·rw[←List.take_append_drop (aT l key) l] at h
   rcases List.mem_append.1 h with h|h
   ·exact List.mem_append_left _ h
   ·exact List.mem_append_right _ (List.mem_cons_of_mem _ h)
theorem DB {l:List eC} {n:Nat} {r:eC} (hn:n≤l.length) (i:Nat):(nR l n r)[i]?=if i<n then l[i]? else if i=n then some r else l[i-1]?:=by
 unfold nR;have hl:(l.take n).length=n:=by rw[List.length_take];omega
 by_cases h1:i<n
 ·rw[if_pos h1,List.getElem?_append_left (by omega),List.getElem?_take,if_pos h1]
 ·rw[if_neg h1,List.getElem?_append_right (by omega),hl]
  by_cases h2:i=n
  ·rw[if_pos h2,h2,Nat.sub_self];rfl
  ·rw[if_neg h2]
   obtain⟨m,hm⟩:∃m,i-n=m+1:=⟨i-n-1,by omega⟩
   rw[hm,List.getElem?_cons_succ,List.getElem?_drop]
   congr 1;omega
theorem Fc {l:List eC} {key:List UInt8} {v:Int} (hs:xA l) (ht:bw l key=false):xA (fy l key v):=by
 obtain⟨f1,f2⟩:=rh (key:=key) hs;have hn:=rj l key
 have hne:∀(i:Nat) u,l[i]?=some u→u.k≠key:=fun i u hu he=>by
  have:=(rf hs hu).2;rw[he,ht] at this;cases this
 unfold fy;rw[if_neg (by rw[ht];simp)];intro i j a b hij ha hb;rw[List.getElem?_map] at ha hb;obtain⟨u,hu,rfl⟩:=Option.map_eq_some_iff.1 ha;obtain⟨w,hw,rfl⟩:=Option.map_eq_some_iff.1 hb;rw[DB hn] at hu hw;have hlt:∀(i j:Nat) u w,i<j→l[i]?=some u→l[j]?=some w→Op.bytesLess u.k w.k=true:=fun i j u w h hu hw=>hs i j u.k w.k h (by rw[List.getElem?_map,hu];rfl) (by rw[List.getElem?_map,hw];rfl)
 by_cases h1:i<aT l key
 ·rw[if_pos h1] at hu
  by_cases h2:j<aT l key
  ·rw[if_pos h2] at hw;exact hlt i j u w hij hu hw
  ·rw[if_neg h2] at hw
   by_cases h3:j=aT l key
   ·rw[if_pos h3] at hw;cases hw;exact f1 i u h1 hu
   ·rw[if_neg h3] at hw;exact hlt i (j-1) u w (by omega) hu hw
 ·rw[if_neg h1] at hu;rw[if_neg (by omega),if_neg (by omega)] at hw
  by_cases h3:i=aT l key
  ·rw[if_pos h3] at hu;cases hu;exact EF _ _ (f2 (j-1) w (by omega) hw) (hne _ w hw)
  ·rw[if_neg h3] at hu;exact hlt (i-1) (j-1) u w (by omega) hu hw
theorem oy:∀(l:List lh) (i:Nat) (T:List eC) (out:List (List bB)) (r:List eC×List (List bB)),xA T→ck l i T out=.ok r→xA r.1∧(∀u,u∈r.1↔u∈T∨∃j p,l[j]?=some p∧u=⟨p.nm,((i+j:Nat):Int)⟩)∧(∀(j:Nat) p,l[j]?=some p→∀u∈T,u.k≠p.nm)
 |[],i,T,out,r,hs,h=>by
  cases h;exact⟨hs,fun u=>⟨.inl,fun h=>h.elim id (fun⟨j,p,h,_⟩=>by simp at h)⟩,fun j p h=>by simp at h⟩
 |p::l,i,T,out,r,hs,h=>by
  unfold ck at h
  split at h
  ·cases h
  split at h
  ·cases h
  split at h
  ·cases h
  rename_i ht _;have ht:bw T p.nm=false:=by simpa using ht
  obtain⟨h1,h2,h3⟩:=oy l (i+1) _ _ r (Fc hs ht) h;refine⟨h1,fun u=>?_,fun j q hq u hu=>?_⟩
  ·rw[h2 u,zy ht];constructor
   ·rintro((rfl|h)|⟨j,q,hj,rfl⟩)
    ·exact .inr ⟨0,p,rfl,rfl⟩
    ·exact .inl h
    ·exact .inr ⟨j+1,q,hj,by congr 1;omega⟩
   ·rintro(h|⟨j,q,hj,rfl⟩)
    ·exact .inl (.inr h)
    ·cases j with
     |zero=>cases hj;exact .inl (.inl rfl)
     |succ j=>exact .inr ⟨j,q,hj,by congr 1;omega⟩
  ·cases j with
   |zero=>
    cases hq;intro he;obtain⟨n,hn⟩:=List.getElem?_of_mem hu;have:=(rf hs hn).2;rw[he,ht] at this;cases this
   |succ j=>exact h3 j q hq u ((zy ht u).2 (.inr hu))
end Go.Proofs.YtecjacicdpejaaaGreat
namespace Go.Proofs.YtecjacicdpejaaaGreat
theorem Ey {H:Type} (d:DataW H):1≤Rows.uptoBulk d:=by
 cases d with
 |lit l=>cases l<;>simp[Rows.uptoBulk]
 |_=>simp[Rows.uptoBulk]
theorem Ez {H:Type} (l:List (DataW H)):l.length≤Rows.uptoBulkAll l:=by
 induction l with
 |nil=>simp[Rows.uptoBulkAll]
 |cons x r ih=>have:=Ey x;simp only[Rows.uptoBulkAll,List.length_cons];omega
open Go.V Go Go.RowKit
variable{H:Type} {enc:TypeId×Value→H} {w:World} {spare:Nat→Bool} {held:Bool} {d:DataW H}
theorem EA {H:Type} {l:List (DataW H)} {x:DataW H} (h:x∈l):Rows.uptoBulk x≤Rows.uptoBulkAll l:=by
 induction l with
 |nil=>cases h
 |cons y l ih=>
  simp only[Rows.uptoBulkAll]
  rcases List.mem_cons.1 h with rfl|h
  ·omega
  ·have:=ih h;omega
end Go.Proofs.YtecjacicdpejaaaGreat
namespace Go.Proofs.YtecjacicdpejaaaGreat
open Go.V Go Go.RowKit
structure GO where
 x:D
 l:List lh
 c:List UInt8
def GO.d (s:GO):D:=.agg [s.x,.str s.c]
structure GO.ok (s:GO):Prop where
 hx:gv s.x 2 (s.l.map c8)
 ln:s.l.length≤1048576
 fit:∀p∈s.l,p.fit
 hc:s.c.length≤1048576
variable{H:Type} {enc:TypeId×Value→H} {w:World} {spare:Nat→Bool} {held:Bool} {d:DataW H}
theorem GH (h:Rd enc Tryz.prog w spare held 92 d):∃p:lh,(fS d).cells?=some (fS d).cells∧(fS d).cells=c8 p∧p.nm.length≤Rows.uptoBulk d∧p.tx.length≤Rows.uptoBulk d:=by
 obtain⟨parts,rfl,hp⟩:=h.struct Tryz.underlying92
 cases hp with
 |cons a hp=>cases hp with
  |cons b hp=>cases hp with
   |nil=>
    obtain⟨x,rfl⟩:=a.string Tryz.underlying9;obtain⟨y,rfl⟩:=b.string Tryz.underlying9;refine⟨⟨x,y⟩,rfl,rfl,?_,?_⟩<;>simp only[Rows.uptoBulk,Rows.uptoBulkAll]<;>omega
theorem GG (h:Rd enc Tryz.prog w spare held 86 d):∃s:GO,fS d=s.d∧(Rows.uptoBulk d≤1048576→s.ok):=by
 obtain⟨parts,rfl,hp⟩:=h.struct Tryz.underlying86
 cases hp with
 |cons a2 hp=>cases hp with
  |cons b2 hp=>cases hp with
   |nil=>
    rename_i d3 d4;obtain⟨y,rfl⟩:=b2.string Tryz.underlying9
    rcases a2.slice Tryz.underlying84 with rfl|⟨elems,rest,rfl,he⟩
    ·refine⟨⟨.nul,[],y⟩,rfl,fun hb=>⟨.inl ⟨rfl,rfl⟩,by simp,fun p hp=>(by cases hp),?_⟩⟩;simp only[Rows.uptoBulk,Rows.uptoBulkAll] at hb;show y.length≤_;omega
    ·obtain⟨l,h1,h2,h3⟩:=JR (s:=2) (f:=c8) (Q:=fun(p:lh) x=>p.nm.length≤Rows.uptoBulk x∧p.tx.length≤Rows.uptoBulk x) (rest:=rest) fun x hx=>by
      obtain⟨p,g1,g2,g3,g4⟩:=GH (he x hx);exact⟨p,g1,g2,rfl,g3,g4⟩
     refine⟨⟨_,l,y⟩,rfl,fun hb=>⟨h1,?_,fun p hp=>?_,?_⟩⟩
     ·have:=Ez elems;simp only[Rows.uptoBulk,Rows.uptoBulkAll] at hb;show l.length≤_;omega
     ·obtain⟨x,hx,h4,h5⟩:=h3 p hp;have:=EA hx;simp only[Rows.uptoBulk,Rows.uptoBulkAll] at hb;exact⟨by omega,by omega⟩
     ·simp only[Rows.uptoBulk,Rows.uptoBulkAll] at hb;show y.length≤_;omega
end Go.Proofs.YtecjacicdpejaaaGreat
namespace Go.Proofs.YtecjacicdpejaaaGreat
open Go.V Go
end Go.Proofs.YtecjacicdpejaaaGreat
namespace Go.Proofs.YtecjacicdpejaaaGreat
open Go.V Go Go.RowKit
variable{H:Type} {enc:TypeId×Value→H} {w:World} {spare:Nat→Bool} {held:Bool} {d:DataW H}
end Go.Proofs.YtecjacicdpejaaaGreat
namespace Go.Proofs.YtecjacicdpejaaaGreat
open Go.V Go Go.RowKit
variable{H:Type} {enc:TypeId×Value→H} {w:World} {spare:Nat→Bool} {held:Bool} {d:DataW H}
end Go.Proofs.YtecjacicdpejaaaGreat
