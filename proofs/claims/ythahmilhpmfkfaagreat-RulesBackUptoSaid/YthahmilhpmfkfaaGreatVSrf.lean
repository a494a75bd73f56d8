/-
 (laid by rul/layset.sh, for the view without prims)
 The table's search: at any state that has the table's rows.
-/
import Derived.Test.YthahmilhpmfkfaaGreatVSrx
import Derived.Test.YthahmilhpmfkfaaGreatVM2
import Derived.Test.YthahmilhpmfkfaaGreatVM3
set_option maxRecDepth 100000
set_option maxHeartbeats 4000000
set_option linter.unusedSimpArgs false
set_option linter.unusedVariables false
namespace Go.Proofs.YthahmilhpmfkfaaGreat
open Go.V Go
def ml (fr:Go.V.Fr) (k:Nat):Go.V.D:=Go.V.nth .bf fr.loc k
theorem LN:eQ.fi 57=some ⟨Tryz.f57,9,.ro,false,none,[]⟩:=by kernel_rfl
theorem Ib (n:Nat) (hn:n<9223372036854775808) (st:St):(gW eQ .quo 3 (.int .i64 (n:Nat)) (.int .i64 2)).map (fun d=>(d,st))=some (.int .i64 ((n/2:Nat):Int),st):=by
 show Option.map _ (if(2:Int)=0 then none else some (D.int .i64 (aW .i64 (((n:Nat):Int).tdiv 2))))=_;rw[if_neg (by decide),show((n:Nat):Int).tdiv 2=((n/2:Nat):Int) from(Int.ofNat_tdiv n 2).symm,bH (by simp only[gv];omega)];rfl
theorem HP (l:List iJ):∀e∈l.map de,e.length=2:=by
 intro e he;obtain⟨r,_,rfl⟩:=List.mem_map.1 he;rfl
theorem Bu {l:List iJ} {i:Nat} {r:iJ} (h:l[i]?=some r):(l.map de)[i]?=some (de r):=by rw[List.getElem?_map,h];rfl
theorem EO {st:St} {x:D} {l:List iJ} (h:oE st x=some l):V.Rows st 2 x (l.map de)∧l.length<1000000:=by
 rcases iQ h with⟨rfl,rfl⟩|⟨kl,vl,ol,c,rfl,hm,hf,hl,hr⟩
 ·exact⟨.nul,by simp⟩
 ·refine⟨?_,hl⟩
  have:=V.Rows.win (st:=st) (s:=2) kl vl ol (l.map de) true c hm (by rw[List.length_map];exact hf) (fun i e he=>by
   have hil:i<l.length:=by have:=(List.getElem?_eq_some_iff.1 he).1;simpa using this
   have h1:=jD (HP l) i e he;rw[←hr,List.drop_take,List.drop_drop,List.take_take,Nat.min_eq_left (by omega)] at h1
   exact h1)
  rw[List.length_map] at this;exact this
theorem AY (ks:List (List UInt8)) (key:List UInt8):∀(f lo hi:Nat),¬lo<hi→iE ks key f lo hi=lo
 |0,lo,hi,_=>rfl
 |f+1,lo,hi,h=>by unfold iE;rw[if_neg h]
theorem y6 {ks:List (List UInt8)} {key:List UInt8} {f lo hi:Nat} (h:lo<hi) (hf:hi-lo≤f):∃f',(if Op.bytesLess (ks.getD ((lo+hi)/2) []) key=true then hi-((lo+hi)/2+1) else(lo+hi)/2-lo)≤f'∧iE ks key f lo hi=(if Op.bytesLess (ks.getD ((lo+hi)/2) []) key=true then iE ks key f' ((lo+hi)/2+1) hi else iE ks key f' lo ((lo+hi)/2)):=by
 cases f with
 |zero=>omega
 |succ f=>
  refine⟨f,?_,?_⟩
  ·split<;>omega
  ·rw[iE,if_pos h]
theorem F1 {l:List iJ} {i:Nat} {r:iJ} (h:l[i]?=some r):(l.map (·.k)).getD i []=r.k:=by
 rw[List.getD_eq_getElem?_getD,List.getElem?_map,h];rfl
theorem GR {s0:St} {k au off:Nat} {key:List UInt8} {ar:Bool} {ct:List D} {x:D} {l:List iJ} (hm:s0.bW k au=some (ar,ct)) (hx:ct[off]?=some x) (ht:oE s0 x=some l):Ev eQ 57 [.ptr k au off,.str key] s0 (.tup [.int .i64 (bu l key:Nat),.bool (dh l key)]) s0:=by
 obtain⟨hr,nc⟩:=EO ht;have gT:k<s0.bs.length:=(List.getElem?_eq_some_iff.1 (bm hm).1).1;have NG:off<ct.length:=(List.getElem?_eq_some_iff.1 hx).1
 have Kb:x.cells?=some [x]:=by rcases iQ ht with⟨rfl,_⟩|⟨kl,vl,ol,c,rfl,_⟩<;>rfl
 refine Ev.iZ rfl LN rfl rfl rfl ?_;dsimp only[List.cons_append,List.nil_append,List.length,Nat.reduceSub,Nat.reduceAdd,List.replicate_succ,List.replicate_zero];have aU:(ag .ro s0).bs=s0.bs:=rfl;have hF:(ag .ro s0).flr≤s0.bs.length:=Nat.le_refl _;have hH:Has s0.bs.length (ag .ro s0) (ag .ro s0) []:=Has.start (Nat.le_refl _) (Nat.le_refl _);generalize ag .ro s0=S at*;have IL:=Arg.of hr aU
 have qM:∀{st:St} {H:List aZ},Has s0.bs.length S st H→jT st (.ptr k au off) [x]:=fun{st H} h=>by
  refine .inl ⟨k,au,off,ar,ct,rfl,?_,?_⟩
  ·have h1:=(bm hm).1;unfold St.bW;rw[h.ex.low k gT,aU,h1];simp
  ·rw[List.drop_eq_getElem_cons NG];rw[List.getElem?_eq_getElem NG] at hx;rw[Option.some.inj hx];rfl
 (try change ai _ _ _ _ _ _);(repeat refine ai.seq ?_);(try generalize hK:bn _ _ _ _=K);refine ai.dP ?_;refine ae.mv (.inr rfl) rfl (ev rfl) (by dsimp only[Fr.put,List.set_cons_succ,List.set_cons_zero]<;>rfl) ?_;refine ae.mv (.inr rfl) rfl (ev rfl) (by dsimp only[Fr.put,List.set_cons_succ,List.set_cons_zero]<;>rfl) ?_;refine ae.nil ?_;(try subst hK);(try change ai _ _ _ _ _ _);have yN:=qM hH;(try change ai _ _ _ _ _ _);(repeat refine ai.seq ?_);(try generalize hK:bn _ _ _ _=K);refine ai.dP ?_;refine ae.mv (.inl rfl) rfl (ev rfl) (aa rfl _) ?_;refine ae.go (d:=.ptr k au off) (st1:=_) rfl rfl rfl (aa rfl _) ?_;refine ae.ej (fo:=0) (m:=0) (o:=off) rfl (ev rfl) rfl rfl (Nat.add_zero _) (aa rfl _) ?_
 first|refine ae.fw hH rfl (ev rfl) (by first|exact aG|exact aV|exact bE|exact cD|exact cW|exact du|exact dO|exact dN) rfl (aa rfl _) ?_|refine ae.cO rfl (ev rfl) (by assumption) rfl (aa rfl _) ?_|refine ae.dB hH rfl (ev rfl) (by assumption) (by first|exact aG|exact aV|exact bE|exact cD|exact cW|exact du|exact dO|exact dN) (by assumption) rfl (aa rfl _) ?_
 first|refine ae.iA rfl (ev rfl) (Arg.rows (by assumption) hH) rfl (aa rfl _) ?_|refine ae.iA rfl (ev rfl) (hH.rows (by first|exact aG|exact aV|exact bE|exact cD|exact cW|exact du|exact dO|exact dN)) rfl (aa rfl _) ?_|refine ae.jY rfl rfl rfl (aa rfl _) ?_|refine ae.go rfl rfl rfl (aa rfl _) ?_
 (try simp only[List.length_map,List.length_append,List.length_cons,List.length_nil,List.length_set,List.length_replicate,List.length_reverse]);refine ae.mv (.inr rfl) rfl (ev rfl) (by dsimp only[Fr.put,List.set_cons_succ,List.set_cons_zero]<;>rfl) ?_;refine ae.mv (.inr rfl) rfl (ev rfl) (by dsimp only[Fr.put,List.set_cons_succ,List.set_cons_zero]<;>rfl) ?_;refine ae.nil ?_;(try subst hK);(try change ai _ _ _ _ _ _);(try change ai _ _ _ _ _ _);(repeat refine ai.seq ?_);refine ai.block<|ai.loop (fun mm fr st=>∃(lo hi:Nat),fr.clean=⟨9,[.ptr k au off,.str key,ml fr 2,ml fr 3,ml fr 4,ml fr 5,.int .i64 (lo:Nat),.int .i64 (hi:Nat),ml fr 8],[]⟩∧Has s0.bs.length S st []∧(hi-lo≤mm)∧(lo≤hi)∧(hi≤l.length)∧(∃f,hi-lo≤f∧iE (l.map (·.k)) key f lo hi=bu l key)) (l.length) ?_ ?_
 ·exact⟨0,l.length,rfl,hH,by omega,by omega,by omega,⟨l.length,by omega,rfl⟩⟩
 rintro mm fr st ⟨lo,hi,hfr,hH,AS,Yw,YA,Ul⟩;rw[hfr];clear hfr;(try generalize ml fr=ee);clear fr;(try change ai _ _ _ _ _ _);(try change ai _ _ _ _ _ _);(repeat refine ai.seq ?_);(try generalize hK:bn _ _ _ _=K);refine ai.dP ?_;refine ae.mv (.inl rfl) rfl (ev rfl) (aa rfl _) ?_;refine ae.mv (.inl rfl) rfl (ev rfl) (aa rfl _) ?_;refine ae.go rfl rfl rfl (aa rfl _) ?_;refine ae.nil ?_;(try subst hK);(try change ai _ _ _ _ _ _);(try change ai _ _ _ _ _ _);(repeat refine ai.seq ?_);refine ai.cond (by first|rfl|assumption) (fun hlt=>?_) (fun hlt=>?_)<;>try simp only[decide_eq_true_eq,decide_eq_false_iff_not,beq_iff_eq,beq_eq_false_iff_ne,bne_iff_ne,bne_eq_false_iff_eq,ne_eq,Bool.not_eq_true',Bool.not_eq_false',Bool.not_eq_true,Bool.not_eq_false] at hlt
 ·have hlt:lo<hi:=by omega
  obtain⟨f,wT,wS⟩:=Ul;obtain⟨f',HJ,bN⟩:=y6 (ks:=l.map (·.k)) (key:=key) hlt wT
  obtain⟨r,J5⟩:∃r,l[(lo+hi)/2]?=some r:=⟨l[(lo+hi)/2]'(by omega),List.getElem?_eq_getElem _⟩
  have gr:=Bu J5;rw[F1 J5] at HJ bN;refine ai.skip ?_;(try change ai _ _ _ _ _ _);(try change ai _ _ _ _ _ _);(repeat refine ai.seq ?_);refine ai.block ?_;(try change ai _ _ _ _ _ _);(repeat refine ai.seq ?_);(try generalize hK:bn _ _ _ _=K);refine ai.dP ?_;refine ae.mv (.inl rfl) rfl (ev rfl) (aa rfl _) ?_;refine ae.mv (.inl rfl) rfl (ev rfl) (aa rfl _) ?_;refine ae.eN (z:=((lo+hi:Nat):Int)) rfl (ev rfl) (ev rfl) (by(try simp only[List.length_reverse,List.length_cons,List.length_nil,List.length_append,List.length_map,List.length_set]);first|(rw[wrap_i64 (by omega) (by omega)]<;>omega)|(rw[wrap_i32 (by omega) (by omega)]<;>omega)) (aa rfl _) ?_;refine ae.go (d:=.int .i64 (((lo+hi)/2:Nat):Int)) (st1:=_) rfl rfl (by exact Ib _ (by omega) _) (aa rfl _) ?_;refine ae.mv (.inr rfl) rfl (ev rfl) (by dsimp only[Fr.put,List.set_cons_succ,List.set_cons_zero]<;>rfl) ?_;refine ae.nil ?_;(try subst hK);(try change ai _ _ _ _ _ _);have yN:=qM hH;(try change ai _ _ _ _ _ _);(repeat refine ai.seq ?_);(try generalize hK:bn _ _ _ _=K);refine ai.dP ?_;refine ae.mv (.inl rfl) rfl (ev rfl) (aa rfl _) ?_;refine ae.go (d:=.ptr k au off) (st1:=_) rfl rfl rfl (aa rfl _) ?_;refine ae.ej (fo:=0) (m:=0) (o:=off) rfl (ev rfl) rfl rfl (Nat.add_zero _) (aa rfl _) ?_
  first|refine ae.fw hH rfl (ev rfl) (by first|exact aG|exact aV|exact bE|exact cD|exact cW|exact du|exact dO|exact dN) rfl (aa rfl _) ?_|refine ae.cO rfl (ev rfl) (by assumption) rfl (aa rfl _) ?_|refine ae.dB hH rfl (ev rfl) (by assumption) (by first|exact aG|exact aV|exact bE|exact cD|exact cW|exact du|exact dO|exact dN) (by assumption) rfl (aa rfl _) ?_
  refine ae.mv (.inl rfl) rfl (ev rfl) (aa rfl _) ?_
  first|refine ae.oL rfl (ev rfl) (ev rfl) (Arg.rows (by assumption) hH) rfl rfl (by assumption) (fun _=>(aa rfl _)) (fun TS Nv=>?_)|refine ae.Am hH rfl (ev rfl) (ev rfl) (by first|exact aG|exact aV|exact bE|exact cD|exact cW|exact du|exact dO|exact dN) rfl rfl (by first|exact bX (by assumption)|omega|(simp only[List.length_map,List.length_append,List.length_cons,List.length_nil,List.length_set,List.length_replicate]<;>omega)) (fun _=>(aa rfl _)) (fun TS Nv=>?_)
  first|refine ae.vT (fo:=0) (m:=0) rfl (ev rfl) (by assumption) rfl rfl (fun _=>(aa rfl _)) (fun TR Nu=>?_)|refine ae.eu (fo:=0) (m:=0) (o2:=0) rfl (ev rfl) (by assumption) rfl rfl rfl (fun _=>(aa rfl _)) (fun TR Nu=>?_)
  first|refine ae.cO rfl (ev rfl) (by assumption) rfl (aa rfl _) ?_|refine ae.dB hH rfl (ev rfl) (by assumption) (by first|exact aG|exact aV|exact bE|exact cD|exact cW|exact du|exact dO|exact dN) (by assumption) rfl (aa rfl _) ?_|refine ae.fw hH rfl (ev rfl) (by first|exact aG|exact aV|exact bE|exact cD|exact cW|exact du|exact dO|exact dN) rfl (aa rfl _) ?_
  refine ae.mv (.inl rfl) rfl (ev rfl) (aa rfl _) ?_;refine ae.go (d:=.bool (Op.bytesLess r.k key)) (st1:=_) rfl rfl rfl (aa rfl _) ?_;refine ae.nil ?_;(try subst hK);(try change ai _ _ _ _ _ _)
  cases hb:Op.bytesLess r.k key with
  |true=>
   rw[hb,if_pos rfl] at HJ;rw[hb,if_pos rfl] at bN;(try change ai _ _ _ _ _ _);(repeat refine ai.seq ?_);refine ai.cond (v:=true) (by first|assumption|(dsimp only[Fr.ev,Fr.get,nth,Go.V.look];done)) (fun _=>?_) (fun h=>by cases h);(try change ai _ _ _ _ _ _);(try change ai _ _ _ _ _ _);(repeat refine ai.seq ?_);(try generalize hK:bn _ _ _ _=K);refine ai.dP ?_;refine ae.mv (.inl rfl) rfl (ev rfl) (aa rfl _) ?_;refine ae.eN (z:=(((lo+hi)/2+1:Nat):Int)) rfl (ev rfl) (ev rfl) (by(try simp only[List.length_reverse,List.length_cons,List.length_nil,List.length_append,List.length_map,List.length_set]);first|(rw[wrap_i64 (by omega) (by omega)]<;>omega)|(rw[wrap_i32 (by omega) (by omega)]<;>omega)) (aa rfl _) ?_;refine ae.mv (.inr rfl) rfl (ev rfl) (by dsimp only[Fr.put,List.set_cons_succ,List.set_cons_zero]<;>rfl) ?_;refine ae.nil ?_;(try subst hK);(try change ai _ _ _ _ _ _);exact⟨mm-1,by omega,⟨(lo+hi)/2+1,hi,rfl,hH,by omega,by omega,by omega,⟨f',HJ,by rw[←bN];exact wS⟩⟩⟩
  |false=>
   rw[hb,if_neg (by simp)] at HJ;rw[hb,if_neg (by simp)] at bN;(try change ai _ _ _ _ _ _);(repeat refine ai.seq ?_);refine ai.cond (v:=false) (by first|assumption|(dsimp only[Fr.ev,Fr.get,nth,Go.V.look];done)) (fun h=>by cases h) (fun _=>?_);(try change ai _ _ _ _ _ _);(try change ai _ _ _ _ _ _);(repeat refine ai.seq ?_);(try generalize hK:bn _ _ _ _=K);refine ai.dP ?_;refine ae.mv (.inl rfl) rfl (ev rfl) (aa rfl _) ?_;refine ae.mv (.inr rfl) rfl (ev rfl) (by dsimp only[Fr.put,List.set_cons_succ,List.set_cons_zero]<;>rfl) ?_;refine ae.nil ?_;(try subst hK);(try change ai _ _ _ _ _ _);exact⟨mm-1,by omega,⟨lo,(lo+hi)/2,rfl,hH,by omega,by omega,by omega,⟨f',HJ,by rw[←bN];exact wS⟩⟩⟩
 ·(try change ai _ _ _ _ _ _);refine ai.exit ?_;(try change ai _ _ _ _ _ _);obtain⟨f,wT,wS⟩:=Ul;rw[AY _ _ _ _ _ (by omega)] at wS;subst wS;have yN:=qM hH
  by_cases hin:bu l key<l.length
  ·have dx:decide (((bu l key:Nat):Int)<((l.length:Nat):Int))=true:=by rw[decide_eq_true_eq];omega
   obtain⟨r,J5⟩:∃r,l[bu l key]?=some r:=⟨l[bu l key]'hin,List.getElem?_eq_getElem _⟩
   have gr:=Bu J5;have sN:dh l key=(r.k==key):=by unfold dh;rw[decide_eq_true hin,F1 J5];rfl
   rw[sN];(try change ai _ _ _ _ _ _);(repeat refine ai.seq ?_);(try generalize hK:bn _ _ _ _=K);refine ai.dP ?_;refine ae.mv (.inl rfl) rfl (ev rfl) (aa rfl _) ?_;refine ae.mv (.inl rfl) rfl (ev rfl) (aa rfl _) ?_;refine ae.mv (.inl rfl) rfl (ev rfl) (aa rfl _) ?_;refine ae.go (d:=.ptr k au off) (st1:=_) rfl rfl rfl (aa rfl _) ?_;refine ae.ej (fo:=0) (m:=0) (o:=off) rfl (ev rfl) rfl rfl (Nat.add_zero _) (aa rfl _) ?_
   first|refine ae.fw hH rfl (ev rfl) (by first|exact aG|exact aV|exact bE|exact cD|exact cW|exact du|exact dO|exact dN) rfl (aa rfl _) ?_|refine ae.cO rfl (ev rfl) (by assumption) rfl (aa rfl _) ?_|refine ae.dB hH rfl (ev rfl) (by assumption) (by first|exact aG|exact aV|exact bE|exact cD|exact cW|exact du|exact dO|exact dN) (by assumption) rfl (aa rfl _) ?_
   first|refine ae.iA rfl (ev rfl) (Arg.rows (by assumption) hH) rfl (aa rfl _) ?_|refine ae.iA rfl (ev rfl) (hH.rows (by first|exact aG|exact aV|exact bE|exact cD|exact cW|exact du|exact dO|exact dN)) rfl (aa rfl _) ?_|refine ae.jY rfl rfl rfl (aa rfl _) ?_|refine ae.go rfl rfl rfl (aa rfl _) ?_
   (try simp only[List.length_map,List.length_append,List.length_cons,List.length_nil,List.length_set,List.length_replicate,List.length_reverse]);refine ae.go rfl rfl rfl (aa rfl _) ?_;refine ae.mv (.inl rfl) rfl (ev rfl) (aa rfl _) ?_;refine ae.mv (.inl rfl) (aj rfl rfl rfl dx) (ev rfl) (aa rfl _) ?_;refine ae.go (d:=.ptr k au off) (st1:=_) (aj rfl rfl rfl dx) rfl rfl (aa rfl _) ?_;refine ae.ej (fo:=0) (m:=0) (o:=off) (aj rfl rfl rfl dx) (ev rfl) rfl rfl (Nat.add_zero _) (aa rfl _) ?_
   first|refine ae.fw hH (aj rfl rfl rfl dx) (ev rfl) (by first|exact aG|exact aV|exact bE|exact cD|exact cW|exact du|exact dO|exact dN) rfl (aa rfl _) ?_|refine ae.cO (aj rfl rfl rfl dx) (ev rfl) (by assumption) rfl (aa rfl _) ?_|refine ae.dB hH (aj rfl rfl rfl dx) (ev rfl) (by assumption) (by first|exact aG|exact aV|exact bE|exact cD|exact cW|exact du|exact dO|exact dN) (by assumption) rfl (aa rfl _) ?_
   refine ae.mv (.inl rfl) (aj rfl rfl rfl dx) (ev rfl) (aa rfl _) ?_
   first|refine ae.oL (aj rfl rfl rfl dx) (ev rfl) (ev rfl) (Arg.rows (by assumption) hH) rfl rfl (by assumption) (fun _=>(aa rfl _)) (fun U8 QQ=>?_)|refine ae.Am hH (aj rfl rfl rfl dx) (ev rfl) (ev rfl) (by first|exact aG|exact aV|exact bE|exact cD|exact cW|exact du|exact dO|exact dN) rfl rfl (by first|exact bX (by assumption)|omega|(simp only[List.length_map,List.length_append,List.length_cons,List.length_nil,List.length_set,List.length_replicate]<;>omega)) (fun _=>(aa rfl _)) (fun U8 QQ=>?_)
   first|refine ae.vT (fo:=0) (m:=0) (aj rfl rfl rfl dx) (ev rfl) (by assumption) rfl rfl (fun _=>(aa rfl _)) (fun PW K9=>?_)|refine ae.eu (fo:=0) (m:=0) (o2:=0) (aj rfl rfl rfl dx) (ev rfl) (by assumption) rfl rfl rfl (fun _=>(aa rfl _)) (fun PW K9=>?_)
   first|refine ae.cO (aj rfl rfl rfl dx) (ev rfl) (by assumption) rfl (aa rfl _) ?_|refine ae.dB hH (aj rfl rfl rfl dx) (ev rfl) (by assumption) (by first|exact aG|exact aV|exact bE|exact cD|exact cW|exact du|exact dO|exact dN) (by assumption) rfl (aa rfl _) ?_|refine ae.fw hH (aj rfl rfl rfl dx) (ev rfl) (by first|exact aG|exact aV|exact bE|exact cD|exact cW|exact du|exact dO|exact dN) rfl (aa rfl _) ?_
   refine ae.mv (.inl rfl) (aj rfl rfl rfl dx) (ev rfl) (aa rfl _) ?_;refine ae.go (aj rfl rfl rfl dx) rfl rfl (aa rfl _) ?_;refine ae.cQ rfl rfl dx (aa rfl _) ?_;refine ae.mv (.inr rfl) rfl (ev rfl) (by dsimp only[Fr.put,List.set_cons_succ,List.set_cons_zero]<;>rfl) ?_;refine ae.mv (.inr rfl) rfl (ev rfl) (by dsimp only[Fr.put,List.set_cons_succ,List.set_cons_zero]<;>rfl) ?_;refine ae.nil ?_;(try subst hK);(try change ai _ _ _ _ _ _);refine ai.ret ⟨fun i h=>(by cases h),_,rfl,ic (by simp) aU hH (rfl)⟩
  ·have dx:decide (((bu l key:Nat):Int)<((l.length:Nat):Int))=false:=by rw[decide_eq_false_iff_not];omega
   have sN:dh l key=false:=by unfold dh;rw[decide_eq_false hin];rfl
   rw[sN];(try change ai _ _ _ _ _ _);(repeat refine ai.seq ?_);(try generalize hK:bn _ _ _ _=K);refine ai.dP ?_;refine ae.mv (.inl rfl) rfl (ev rfl) (aa rfl _) ?_;refine ae.mv (.inl rfl) rfl (ev rfl) (aa rfl _) ?_;refine ae.mv (.inl rfl) rfl (ev rfl) (aa rfl _) ?_;refine ae.go (d:=.ptr k au off) (st1:=_) rfl rfl rfl (aa rfl _) ?_;refine ae.ej (fo:=0) (m:=0) (o:=off) rfl (ev rfl) rfl rfl (Nat.add_zero _) (aa rfl _) ?_
   first|refine ae.fw hH rfl (ev rfl) (by first|exact aG|exact aV|exact bE|exact cD|exact cW|exact du|exact dO|exact dN) rfl (aa rfl _) ?_|refine ae.cO rfl (ev rfl) (by assumption) rfl (aa rfl _) ?_|refine ae.dB hH rfl (ev rfl) (by assumption) (by first|exact aG|exact aV|exact bE|exact cD|exact cW|exact du|exact dO|exact dN) (by assumption) rfl (aa rfl _) ?_
   first|refine ae.iA rfl (ev rfl) (Arg.rows (by assumption) hH) rfl (aa rfl _) ?_|refine ae.iA rfl (ev rfl) (hH.rows (by first|exact aG|exact aV|exact bE|exact cD|exact cW|exact du|exact dO|exact dN)) rfl (aa rfl _) ?_|refine ae.jY rfl rfl rfl (aa rfl _) ?_|refine ae.go rfl rfl rfl (aa rfl _) ?_
   (try simp only[List.length_map,List.length_append,List.length_cons,List.length_nil,List.length_set,List.length_replicate,List.length_reverse]);refine ae.go rfl rfl rfl (aa rfl _) ?_;refine ae.mv (.inl rfl) rfl (ev rfl) (aa rfl _) ?_;refine ae.skip (cL rfl rfl rfl dx) (aa rfl _) ?_;refine ae.skip (cL rfl rfl rfl dx) (aa rfl _) ?_;refine ae.skip (cL rfl rfl rfl dx) (aa rfl _) ?_;refine ae.skip (cL rfl rfl rfl dx) (aa rfl _) ?_;refine ae.skip (cL rfl rfl rfl dx) (aa rfl _) ?_;refine ae.skip (cL rfl rfl rfl dx) (aa rfl _) ?_;refine ae.skip (cL rfl rfl rfl dx) (aa rfl _) ?_;refine ae.skip (cL rfl rfl rfl dx) (aa rfl _) ?_;refine ae.skip (cL rfl rfl rfl dx) (aa rfl _) ?_;refine ae.skip (cL rfl rfl rfl dx) (aa rfl _) ?_;refine ae.cC rfl rfl dx (aa rfl _) ?_;refine ae.mv (.inr rfl) rfl (ev rfl) (by dsimp only[Fr.put,List.set_cons_succ,List.set_cons_zero]<;>rfl) ?_;refine ae.mv (.inr rfl) rfl (ev rfl) (by dsimp only[Fr.put,List.set_cons_succ,List.set_cons_zero]<;>rfl) ?_;refine ae.nil ?_;(try subst hK);(try change ai _ _ _ _ _ _);refine ai.ret ⟨fun i h=>(by cases h),_,rfl,ic (by simp) aU hH (rfl)⟩
end Go.Proofs.YthahmilhpmfkfaaGreat
