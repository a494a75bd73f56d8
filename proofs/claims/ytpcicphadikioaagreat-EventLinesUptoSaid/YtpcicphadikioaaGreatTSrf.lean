/-
 (laid by rul/layset.sh, for the view without prims)
 The table's search: at any state that has the table's rows.
-/
import Derived.Test.YtpcicphadikioaaGreatTSrx
import Derived.Test.YtpcicphadikioaaGreatTM2
import Derived.Test.YtpcicphadikioaaGreatTM3
set_option maxRecDepth 100000
set_option maxHeartbeats 4000000
set_option linter.unusedSimpArgs false
set_option linter.unusedVariables false
namespace Go.Proofs.YtpcicphadikioaaGreat
open Go.V Go
def kM (fr:Go.V.Fr) (k:Nat):Go.V.D:=Go.V.nth .aY fr.loc k
theorem IB:dN.fi 41=some ⟨Tryz.f41,9,.ro,false,none,[]⟩:=by kernel_rfl
theorem Fp (n:Nat) (hn:n<9223372036854775808) (st:St):(kY dN .quo 3 (.int .i64 (n:Nat)) (.int .i64 2)).map (fun d=>(d,st))=some (.int .i64 ((n/2:Nat):Int),st):=by
 show Option.map _ (if(2:Int)=0 then none else some (D.int .i64 (bj .i64 (((n:Nat):Int).tdiv 2))))=_;rw[if_neg (by decide),show((n:Nat):Int).tdiv 2=((n/2:Nat):Int) from(Int.ofNat_tdiv n 2).symm,eD (by simp only[lF];omega)];rfl
theorem E4 (l:List ir):∀e∈l.map cT,e.length=2:=by
 intro e he;obtain⟨r,_,rfl⟩:=List.mem_map.1 he;rfl
theorem zo {l:List ir} {i:Nat} {r:ir} (h:l[i]?=some r):(l.map cT)[i]?=some (cT r):=by rw[List.getElem?_map,h];rfl
theorem Ct {st:St} {x:D} {l:List ir} (h:ng st x=some l):V.Rows st 2 x (l.map cT)∧l.length<1000000:=by
 rcases gS h with⟨rfl,rfl⟩|⟨kl,vl,ol,c,rfl,hm,hf,hl,hr⟩
 ·exact⟨.nul,by simp⟩
 ·refine⟨?_,hl⟩
  have:=V.Rows.win (st:=st) (s:=2) kl vl ol (l.map cT) true c hm (by rw[List.length_map];exact hf) (fun i e he=>by
   have hil:i<l.length:=by have:=(List.getElem?_eq_some_iff.1 he).1;simpa using this
   have h1:=jE (E4 l) i e he;rw[←hr,List.drop_take,List.drop_drop,List.take_take,Nat.min_eq_left (by omega)] at h1
   exact h1)
  rw[List.length_map] at this;exact this
theorem yU (ks:List (List UInt8)) (key:List UInt8):∀(f lo hi:Nat),¬lo<hi→gG ks key f lo hi=lo
 |0,lo,hi,_=>rfl
 |f+1,lo,hi,h=>by unfold gG;rw[if_neg h]
theorem w_ {ks:List (List UInt8)} {key:List UInt8} {f lo hi:Nat} (h:lo<hi) (hf:hi-lo≤f):∃f',(if Op.bytesLess (ks.getD ((lo+hi)/2) []) key=true then hi-((lo+hi)/2+1) else(lo+hi)/2-lo)≤f'∧gG ks key f lo hi=(if Op.bytesLess (ks.getD ((lo+hi)/2) []) key=true then gG ks key f' ((lo+hi)/2+1) hi else gG ks key f' lo ((lo+hi)/2)):=by
 cases f with
 |zero=>omega
 |succ f=>
  refine⟨f,?_,?_⟩
  ·split<;>omega
  ·rw[gG,if_pos h]
theorem Dp {l:List ir} {i:Nat} {r:ir} (h:l[i]?=some r):(l.map (·.k)).getD i []=r.k:=by
 rw[List.getD_eq_getElem?_getD,List.getElem?_map,h];rfl
theorem Eb {s0:St} {k aq off:Nat} {key:List UInt8} {ar:Bool} {ct:List D} {x:D} {l:List ir} (hm:s0.bM k aq=some (ar,ct)) (hx:ct[off]?=some x) (ht:ng s0 x=some l):Ev dN 41 [.ptr k aq off,.str key] s0 (.tup [.int .i64 (bc l key:Nat),.bool (cP l key)]) s0:=by
 obtain⟨hr,oP⟩:=Ct ht;have gU:k<s0.bs.length:=(List.getElem?_eq_some_iff.1 (aZ hm).1).1;have Kf:off<ct.length:=(List.getElem?_eq_some_iff.1 hx).1
 have KJ:x.cells?=some [x]:=by rcases gS ht with⟨rfl,_⟩|⟨kl,vl,ol,c,rfl,_⟩<;>rfl
 refine Ev.jL rfl IB rfl rfl rfl ?_;dsimp only[List.cons_append,List.nil_append,List.length,Nat.reduceSub,Nat.reduceAdd,List.replicate_succ,List.replicate_zero];have aW:(ai .ro s0).bs=s0.bs:=rfl;have hF:(ai .ro s0).flr≤s0.bs.length:=Nat.le_refl _;have hH:Has s0.bs.length (ai .ro s0) (ai .ro s0) []:=Has.start (Nat.le_refl _) (Nat.le_refl _);generalize ai .ro s0=S at*;have GM:=Arg.of hr aW
 have uA:∀{st:St} {H:List bh},Has s0.bs.length S st H→jl st (.ptr k aq off) [x]:=fun{st H} h=>by
  refine .inl ⟨k,aq,off,ar,ct,rfl,?_,?_⟩
  ·have h1:=(aZ hm).1;unfold St.bM;rw[h.ex.low k gU,aW,h1];simp
  ·rw[List.drop_eq_getElem_cons Kf];rw[List.getElem?_eq_getElem Kf] at hx;rw[Option.some.inj hx];rfl
 (try change ag _ _ _ _ _ _);(repeat refine ag.seq ?_);(try generalize hK:bf _ _ _ _=K);refine ag.dD ?_;refine ae.mv (.inr rfl) rfl (ev rfl) (by dsimp only[Fr.put,List.set_cons_succ,List.set_cons_zero]<;>rfl) ?_;refine ae.mv (.inr rfl) rfl (ev rfl) (by dsimp only[Fr.put,List.set_cons_succ,List.set_cons_zero]<;>rfl) ?_;refine ae.nil ?_;(try subst hK);(try change ag _ _ _ _ _ _);have wS:=uA hH;(try change ag _ _ _ _ _ _);(repeat refine ag.seq ?_);(try generalize hK:bf _ _ _ _=K);refine ag.dD ?_;refine ae.mv (.inl rfl) rfl (ev rfl) (aa rfl _) ?_;refine ae.go (d:=.ptr k aq off) (st1:=_) rfl rfl rfl (aa rfl _) ?_;refine ae.lC (fo:=0) (m:=0) (o:=off) rfl (ev rfl) rfl rfl (Nat.add_zero _) (aa rfl _) ?_
 first|refine ae.ib hH rfl (ev rfl) (by first|exact aG|exact aV|exact b8|exact dw|exact eo|exact fG|exact gz|exact gy) rfl (aa rfl _) ?_|refine ae.gY rfl (ev rfl) (by assumption) rfl (aa rfl _) ?_|refine ae.hU hH rfl (ev rfl) (by assumption) (by first|exact aG|exact aV|exact b8|exact dw|exact eo|exact fG|exact gz|exact gy) (by assumption) rfl (aa rfl _) ?_
 first|refine ae.iZ rfl (ev rfl) (Arg.rows (by assumption) hH) rfl (aa rfl _) ?_|refine ae.iZ rfl (ev rfl) (hH.rows (by first|exact aG|exact aV|exact b8|exact dw|exact eo|exact fG|exact gz|exact gy)) rfl (aa rfl _) ?_|refine ae.jV rfl rfl rfl (aa rfl _) ?_|refine ae.go rfl rfl rfl (aa rfl _) ?_
 (try simp only[List.length_map,List.length_append,List.length_cons,List.length_nil,List.length_set,List.length_replicate,List.length_reverse]);refine ae.mv (.inr rfl) rfl (ev rfl) (by dsimp only[Fr.put,List.set_cons_succ,List.set_cons_zero]<;>rfl) ?_;refine ae.mv (.inr rfl) rfl (ev rfl) (by dsimp only[Fr.put,List.set_cons_succ,List.set_cons_zero]<;>rfl) ?_;refine ae.nil ?_;(try subst hK);(try change ag _ _ _ _ _ _);(try change ag _ _ _ _ _ _);(repeat refine ag.seq ?_);refine ag.block<|ag.loop (fun mm fr st=>∃(lo hi:Nat),fr.clean=⟨9,[.ptr k aq off,.str key,kM fr 2,kM fr 3,kM fr 4,kM fr 5,.int .i64 (lo:Nat),.int .i64 (hi:Nat),kM fr 8],[]⟩∧Has s0.bs.length S st []∧(hi-lo≤mm)∧(lo≤hi)∧(hi≤l.length)∧(∃f,hi-lo≤f∧gG (l.map (·.k)) key f lo hi=bc l key)) (l.length) ?_ ?_
 ·exact⟨0,l.length,rfl,hH,by omega,by omega,by omega,⟨l.length,by omega,rfl⟩⟩
 rintro mm fr st ⟨lo,hi,hfr,hH,yM,UB,UE,Qr⟩;rw[hfr];clear hfr;(try generalize kM fr=ee);clear fr;(try change ag _ _ _ _ _ _);(try change ag _ _ _ _ _ _);(repeat refine ag.seq ?_);(try generalize hK:bf _ _ _ _=K);refine ag.dD ?_;refine ae.mv (.inl rfl) rfl (ev rfl) (aa rfl _) ?_;refine ae.mv (.inl rfl) rfl (ev rfl) (aa rfl _) ?_;refine ae.go rfl rfl rfl (aa rfl _) ?_;refine ae.nil ?_;(try subst hK);(try change ag _ _ _ _ _ _);(try change ag _ _ _ _ _ _);(repeat refine ag.seq ?_);refine ag.cond (by first|rfl|assumption) (fun hlt=>?_) (fun hlt=>?_)<;>try simp only[decide_eq_true_eq,decide_eq_false_iff_not,beq_iff_eq,beq_eq_false_iff_ne,bne_iff_ne,bne_eq_false_iff_eq,ne_eq,Bool.not_eq_true',Bool.not_eq_false',Bool.not_eq_true,Bool.not_eq_false] at hlt
 ·have hlt:lo<hi:=by omega
  obtain⟨f,DX,DW⟩:=Qr;obtain⟨f',wY,bH⟩:=w_ (ks:=l.map (·.k)) (key:=key) hlt DX
  obtain⟨r,GR⟩:∃r,l[(lo+hi)/2]?=some r:=⟨l[(lo+hi)/2]'(by omega),List.getElem?_eq_getElem _⟩
  have gJ:=zo GR;rw[Dp GR] at wY bH;refine ag.skip ?_;(try change ag _ _ _ _ _ _);(try change ag _ _ _ _ _ _);(repeat refine ag.seq ?_);refine ag.block ?_;(try change ag _ _ _ _ _ _);(repeat refine ag.seq ?_);(try generalize hK:bf _ _ _ _=K);refine ag.dD ?_;refine ae.mv (.inl rfl) rfl (ev rfl) (aa rfl _) ?_;refine ae.mv (.inl rfl) rfl (ev rfl) (aa rfl _) ?_;refine ae.cS (z:=((lo+hi:Nat):Int)) rfl (ev rfl) (ev rfl) (by(try simp only[List.length_reverse,List.length_cons,List.length_nil,List.length_append,List.length_map,List.length_set]);first|(rw[wrap_i64 (by omega) (by omega)]<;>omega)|(rw[wrap_i32 (by omega) (by omega)]<;>omega)) (aa rfl _) ?_;refine ae.go (d:=.int .i64 (((lo+hi)/2:Nat):Int)) (st1:=_) rfl rfl (by exact Fp _ (by omega) _) (aa rfl _) ?_;refine ae.mv (.inr rfl) rfl (ev rfl) (by dsimp only[Fr.put,List.set_cons_succ,List.set_cons_zero]<;>rfl) ?_;refine ae.nil ?_;(try subst hK);(try change ag _ _ _ _ _ _);have wS:=uA hH;(try change ag _ _ _ _ _ _);(repeat refine ag.seq ?_);(try generalize hK:bf _ _ _ _=K);refine ag.dD ?_;refine ae.mv (.inl rfl) rfl (ev rfl) (aa rfl _) ?_;refine ae.go (d:=.ptr k aq off) (st1:=_) rfl rfl rfl (aa rfl _) ?_;refine ae.lC (fo:=0) (m:=0) (o:=off) rfl (ev rfl) rfl rfl (Nat.add_zero _) (aa rfl _) ?_
  first|refine ae.ib hH rfl (ev rfl) (by first|exact aG|exact aV|exact b8|exact dw|exact eo|exact fG|exact gz|exact gy) rfl (aa rfl _) ?_|refine ae.gY rfl (ev rfl) (by assumption) rfl (aa rfl _) ?_|refine ae.hU hH rfl (ev rfl) (by assumption) (by first|exact aG|exact aV|exact b8|exact dw|exact eo|exact fG|exact gz|exact gy) (by assumption) rfl (aa rfl _) ?_
  refine ae.mv (.inl rfl) rfl (ev rfl) (aa rfl _) ?_
  first|refine ae.vI rfl (ev rfl) (ev rfl) (Arg.rows (by assumption) hH) rfl rfl (by assumption) (fun _=>(aa rfl _)) (fun PV J5=>?_)|refine ae.wb hH rfl (ev rfl) (ev rfl) (by first|exact aG|exact aV|exact b8|exact dw|exact eo|exact fG|exact gz|exact gy) rfl rfl (by first|exact cQ (by assumption)|omega|(simp only[List.length_map,List.length_append,List.length_cons,List.length_nil,List.length_set,List.length_replicate]<;>omega)) (fun _=>(aa rfl _)) (fun PV J5=>?_)
  first|refine ae.kz (fo:=0) (m:=0) rfl (ev rfl) (by assumption) rfl rfl (fun _=>(aa rfl _)) (fun PU J4=>?_)|refine ae.cX (fo:=0) (m:=0) (o2:=0) rfl (ev rfl) (by assumption) rfl rfl rfl (fun _=>(aa rfl _)) (fun PU J4=>?_)
  first|refine ae.gY rfl (ev rfl) (by assumption) rfl (aa rfl _) ?_|refine ae.hU hH rfl (ev rfl) (by assumption) (by first|exact aG|exact aV|exact b8|exact dw|exact eo|exact fG|exact gz|exact gy) (by assumption) rfl (aa rfl _) ?_|refine ae.ib hH rfl (ev rfl) (by first|exact aG|exact aV|exact b8|exact dw|exact eo|exact fG|exact gz|exact gy) rfl (aa rfl _) ?_
  refine ae.mv (.inl rfl) rfl (ev rfl) (aa rfl _) ?_;refine ae.go (d:=.bool (Op.bytesLess r.k key)) (st1:=_) rfl rfl rfl (aa rfl _) ?_;refine ae.nil ?_;(try subst hK);(try change ag _ _ _ _ _ _)
  cases hb:Op.bytesLess r.k key with
  |true=>
   rw[hb,if_pos rfl] at wY;rw[hb,if_pos rfl] at bH;(try change ag _ _ _ _ _ _);(repeat refine ag.seq ?_);refine ag.cond (v:=true) (by first|assumption|(dsimp only[Fr.ev,Fr.get,nth,Go.V.look];done)) (fun _=>?_) (fun h=>by cases h);(try change ag _ _ _ _ _ _);(try change ag _ _ _ _ _ _);(repeat refine ag.seq ?_);(try generalize hK:bf _ _ _ _=K);refine ag.dD ?_;refine ae.mv (.inl rfl) rfl (ev rfl) (aa rfl _) ?_;refine ae.cS (z:=(((lo+hi)/2+1:Nat):Int)) rfl (ev rfl) (ev rfl) (by(try simp only[List.length_reverse,List.length_cons,List.length_nil,List.length_append,List.length_map,List.length_set]);first|(rw[wrap_i64 (by omega) (by omega)]<;>omega)|(rw[wrap_i32 (by omega) (by omega)]<;>omega)) (aa rfl _) ?_;refine ae.mv (.inr rfl) rfl (ev rfl) (by dsimp only[Fr.put,List.set_cons_succ,List.set_cons_zero]<;>rfl) ?_;refine ae.nil ?_;(try subst hK);(try change ag _ _ _ _ _ _);exact⟨mm-1,by omega,⟨(lo+hi)/2+1,hi,rfl,hH,by omega,by omega,by omega,⟨f',wY,by rw[←bH];exact DW⟩⟩⟩
  |false=>
   rw[hb,if_neg (by simp)] at wY;rw[hb,if_neg (by simp)] at bH;(try change ag _ _ _ _ _ _);(repeat refine ag.seq ?_);refine ag.cond (v:=false) (by first|assumption|(dsimp only[Fr.ev,Fr.get,nth,Go.V.look];done)) (fun h=>by cases h) (fun _=>?_);(try change ag _ _ _ _ _ _);(try change ag _ _ _ _ _ _);(repeat refine ag.seq ?_);(try generalize hK:bf _ _ _ _=K);refine ag.dD ?_;refine ae.mv (.inl rfl) rfl (ev rfl) (aa rfl _) ?_;refine ae.mv (.inr rfl) rfl (ev rfl) (by dsimp only[Fr.put,List.set_cons_succ,List.set_cons_zero]<;>rfl) ?_;refine ae.nil ?_;(try subst hK);(try change ag _ _ _ _ _ _);exact⟨mm-1,by omega,⟨lo,(lo+hi)/2,rfl,hH,by omega,by omega,by omega,⟨f',wY,by rw[←bH];exact DW⟩⟩⟩
 ·(try change ag _ _ _ _ _ _);refine ag.exit ?_;(try change ag _ _ _ _ _ _);obtain⟨f,DX,DW⟩:=Qr;rw[yU _ _ _ _ _ (by omega)] at DW;subst DW;have wS:=uA hH
  by_cases hin:bc l key<l.length
  ·have dv:decide (((bc l key:Nat):Int)<((l.length:Nat):Int))=true:=by rw[decide_eq_true_eq];omega
   obtain⟨r,GR⟩:∃r,l[bc l key]?=some r:=⟨l[bc l key]'hin,List.getElem?_eq_getElem _⟩
   have gJ:=zo GR;have qI:cP l key=(r.k==key):=by unfold cP;rw[decide_eq_true hin,Dp GR];rfl
   rw[qI];(try change ag _ _ _ _ _ _);(repeat refine ag.seq ?_);(try generalize hK:bf _ _ _ _=K);refine ag.dD ?_;refine ae.mv (.inl rfl) rfl (ev rfl) (aa rfl _) ?_;refine ae.mv (.inl rfl) rfl (ev rfl) (aa rfl _) ?_;refine ae.mv (.inl rfl) rfl (ev rfl) (aa rfl _) ?_;refine ae.go (d:=.ptr k aq off) (st1:=_) rfl rfl rfl (aa rfl _) ?_;refine ae.lC (fo:=0) (m:=0) (o:=off) rfl (ev rfl) rfl rfl (Nat.add_zero _) (aa rfl _) ?_
   first|refine ae.ib hH rfl (ev rfl) (by first|exact aG|exact aV|exact b8|exact dw|exact eo|exact fG|exact gz|exact gy) rfl (aa rfl _) ?_|refine ae.gY rfl (ev rfl) (by assumption) rfl (aa rfl _) ?_|refine ae.hU hH rfl (ev rfl) (by assumption) (by first|exact aG|exact aV|exact b8|exact dw|exact eo|exact fG|exact gz|exact gy) (by assumption) rfl (aa rfl _) ?_
   first|refine ae.iZ rfl (ev rfl) (Arg.rows (by assumption) hH) rfl (aa rfl _) ?_|refine ae.iZ rfl (ev rfl) (hH.rows (by first|exact aG|exact aV|exact b8|exact dw|exact eo|exact fG|exact gz|exact gy)) rfl (aa rfl _) ?_|refine ae.jV rfl rfl rfl (aa rfl _) ?_|refine ae.go rfl rfl rfl (aa rfl _) ?_
   (try simp only[List.length_map,List.length_append,List.length_cons,List.length_nil,List.length_set,List.length_replicate,List.length_reverse]);refine ae.go rfl rfl rfl (aa rfl _) ?_;refine ae.mv (.inl rfl) rfl (ev rfl) (aa rfl _) ?_;refine ae.mv (.inl rfl) (aj rfl rfl rfl dv) (ev rfl) (aa rfl _) ?_;refine ae.go (d:=.ptr k aq off) (st1:=_) (aj rfl rfl rfl dv) rfl rfl (aa rfl _) ?_;refine ae.lC (fo:=0) (m:=0) (o:=off) (aj rfl rfl rfl dv) (ev rfl) rfl rfl (Nat.add_zero _) (aa rfl _) ?_
   first|refine ae.ib hH (aj rfl rfl rfl dv) (ev rfl) (by first|exact aG|exact aV|exact b8|exact dw|exact eo|exact fG|exact gz|exact gy) rfl (aa rfl _) ?_|refine ae.gY (aj rfl rfl rfl dv) (ev rfl) (by assumption) rfl (aa rfl _) ?_|refine ae.hU hH (aj rfl rfl rfl dv) (ev rfl) (by assumption) (by first|exact aG|exact aV|exact b8|exact dw|exact eo|exact fG|exact gz|exact gy) (by assumption) rfl (aa rfl _) ?_
   refine ae.mv (.inl rfl) (aj rfl rfl rfl dv) (ev rfl) (aa rfl _) ?_
   first|refine ae.vI (aj rfl rfl rfl dv) (ev rfl) (ev rfl) (Arg.rows (by assumption) hH) rfl rfl (by assumption) (fun _=>(aa rfl _)) (fun Q8 MY=>?_)|refine ae.wb hH (aj rfl rfl rfl dv) (ev rfl) (ev rfl) (by first|exact aG|exact aV|exact b8|exact dw|exact eo|exact fG|exact gz|exact gy) rfl rfl (by first|exact cQ (by assumption)|omega|(simp only[List.length_map,List.length_append,List.length_cons,List.length_nil,List.length_set,List.length_replicate]<;>omega)) (fun _=>(aa rfl _)) (fun Q8 MY=>?_)
   first|refine ae.kz (fo:=0) (m:=0) (aj rfl rfl rfl dv) (ev rfl) (by assumption) rfl rfl (fun _=>(aa rfl _)) (fun L_ HV=>?_)|refine ae.cX (fo:=0) (m:=0) (o2:=0) (aj rfl rfl rfl dv) (ev rfl) (by assumption) rfl rfl rfl (fun _=>(aa rfl _)) (fun L_ HV=>?_)
   first|refine ae.gY (aj rfl rfl rfl dv) (ev rfl) (by assumption) rfl (aa rfl _) ?_|refine ae.hU hH (aj rfl rfl rfl dv) (ev rfl) (by assumption) (by first|exact aG|exact aV|exact b8|exact dw|exact eo|exact fG|exact gz|exact gy) (by assumption) rfl (aa rfl _) ?_|refine ae.ib hH (aj rfl rfl rfl dv) (ev rfl) (by first|exact aG|exact aV|exact b8|exact dw|exact eo|exact fG|exact gz|exact gy) rfl (aa rfl _) ?_
   refine ae.mv (.inl rfl) (aj rfl rfl rfl dv) (ev rfl) (aa rfl _) ?_;refine ae.go (aj rfl rfl rfl dv) rfl rfl (aa rfl _) ?_;refine ae.cF rfl rfl dv (aa rfl _) ?_;refine ae.mv (.inr rfl) rfl (ev rfl) (by dsimp only[Fr.put,List.set_cons_succ,List.set_cons_zero]<;>rfl) ?_;refine ae.mv (.inr rfl) rfl (ev rfl) (by dsimp only[Fr.put,List.set_cons_succ,List.set_cons_zero]<;>rfl) ?_;refine ae.nil ?_;(try subst hK);(try change ag _ _ _ _ _ _);refine ag.ret ⟨fun i h=>(by cases h),_,rfl,je (by simp) aW hH (rfl)⟩
  ·have dv:decide (((bc l key:Nat):Int)<((l.length:Nat):Int))=false:=by rw[decide_eq_false_iff_not];omega
   have qI:cP l key=false:=by unfold cP;rw[decide_eq_false hin];rfl
   rw[qI];(try change ag _ _ _ _ _ _);(repeat refine ag.seq ?_);(try generalize hK:bf _ _ _ _=K);refine ag.dD ?_;refine ae.mv (.inl rfl) rfl (ev rfl) (aa rfl _) ?_;refine ae.mv (.inl rfl) rfl (ev rfl) (aa rfl _) ?_;refine ae.mv (.inl rfl) rfl (ev rfl) (aa rfl _) ?_;refine ae.go (d:=.ptr k aq off) (st1:=_) rfl rfl rfl (aa rfl _) ?_;refine ae.lC (fo:=0) (m:=0) (o:=off) rfl (ev rfl) rfl rfl (Nat.add_zero _) (aa rfl _) ?_
   first|refine ae.ib hH rfl (ev rfl) (by first|exact aG|exact aV|exact b8|exact dw|exact eo|exact fG|exact gz|exact gy) rfl (aa rfl _) ?_|refine ae.gY rfl (ev rfl) (by assumption) rfl (aa rfl _) ?_|refine ae.hU hH rfl (ev rfl) (by assumption) (by first|exact aG|exact aV|exact b8|exact dw|exact eo|exact fG|exact gz|exact gy) (by assumption) rfl (aa rfl _) ?_
   first|refine ae.iZ rfl (ev rfl) (Arg.rows (by assumption) hH) rfl (aa rfl _) ?_|refine ae.iZ rfl (ev rfl) (hH.rows (by first|exact aG|exact aV|exact b8|exact dw|exact eo|exact fG|exact gz|exact gy)) rfl (aa rfl _) ?_|refine ae.jV rfl rfl rfl (aa rfl _) ?_|refine ae.go rfl rfl rfl (aa rfl _) ?_
   (try simp only[List.length_map,List.length_append,List.length_cons,List.length_nil,List.length_set,List.length_replicate,List.length_reverse]);refine ae.go rfl rfl rfl (aa rfl _) ?_;refine ae.mv (.inl rfl) rfl (ev rfl) (aa rfl _) ?_;refine ae.skip (cn rfl rfl rfl dv) (aa rfl _) ?_;refine ae.skip (cn rfl rfl rfl dv) (aa rfl _) ?_;refine ae.skip (cn rfl rfl rfl dv) (aa rfl _) ?_;refine ae.skip (cn rfl rfl rfl dv) (aa rfl _) ?_;refine ae.skip (cn rfl rfl rfl dv) (aa rfl _) ?_;refine ae.skip (cn rfl rfl rfl dv) (aa rfl _) ?_;refine ae.skip (cn rfl rfl rfl dv) (aa rfl _) ?_;refine ae.skip (cn rfl rfl rfl dv) (aa rfl _) ?_;refine ae.skip (cn rfl rfl rfl dv) (aa rfl _) ?_;refine ae.skip (cn rfl rfl rfl dv) (aa rfl _) ?_;refine ae.cp rfl rfl dv (aa rfl _) ?_;refine ae.mv (.inr rfl) rfl (ev rfl) (by dsimp only[Fr.put,List.set_cons_succ,List.set_cons_zero]<;>rfl) ?_;refine ae.mv (.inr rfl) rfl (ev rfl) (by dsimp only[Fr.put,List.set_cons_succ,List.set_cons_zero]<;>rfl) ?_;refine ae.nil ?_;(try subst hK);(try change ag _ _ _ _ _ _);refine ag.ret ⟨fun i h=>(by cases h),_,rfl,je (by simp) aW hH (rfl)⟩
end Go.Proofs.YtpcicphadikioaaGreat
