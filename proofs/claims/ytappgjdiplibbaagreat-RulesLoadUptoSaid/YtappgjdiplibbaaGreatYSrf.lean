/-
 (laid by rul/layset.sh, for the view without prims)
 The table's search: at any state that has the table's rows.
-/
import Derived.Test.YtappgjdiplibbaaGreatYSrx
import Derived.Test.YtappgjdiplibbaaGreatYM2
import Derived.Test.YtappgjdiplibbaaGreatYM3
set_option maxRecDepth 100000
set_option maxHeartbeats 4000000
set_option linter.all false
open List renaming set_cons_succ->γ,set_cons_zero->δ,length_map->ε,length_append->ζ,length_cons->θ,length_nil->ι,length_set->κ,length_replicate->μ,length_reverse->ν,getElem?_eq_some_iff->ξ,getElem?_eq_getElem->ο,getElem?_map->Δ
open Go.V.u renaming mv->η,skip->π,go->τ,nil->υ,mZ->ψ,nF->ω,o9->Γ,pB->Θ,pK->Ξ,B3->Φ
open Nat renaming add_zero->ρ,le_refl->χ
open Go.V.Fr renaming put->ς
open Go.Op renaming bytesLess->φ
namespace Go.Proofs.YtappgjdiplibbaaGreat
open Go.V Go
def oI (I:Go.V.Fr) (k:Nat):Go.V.D:=Go.V.nth .cT I.loc k
def SZ:dE.fi 68=some ⟨Tryz.f68,9,.ro,false,none,[]⟩:=by kernel_rfl
def N9 (n:Nat) (hn:n<9223372036854775808) (U:St):(iC dE .quo 3 (.int .i64 (n:Nat)) (.int .i64 2)).map (λd=>(d,U))=some (.int .i64 ((n/2:Nat):Int),U):=by
 show Option.map _ (if(2:Int)=0 then none else some (D.int .i64 (aR .i64 (((n:Nat):Int).tdiv 2))))=_;rw[if_neg (by decide),show((n:Nat):Int).tdiv 2=((n/2:Nat):Int) from(Int.ofNat_tdiv n 2).symm,b7 (by simp only[iQ];omega)];rfl
def NP (l:List gI):∀e∈l.map dV,e.length=2:=by
 intro e he;obtain⟨r,_,rfl⟩:=List.mem_map.1 he;rfl
variable{l:List gI}{i:Nat}{r:gI}
def Gf (h:l[i]?=some r):(l.map dV)[i]?=some (dV r):=by rw[Δ,h];rfl
variable{x:D}
def J5 {U:St} (h:sK U x=some l):V.Rows U 2 x (l.map dV)/\l.length<1000000:=by
 rcases jM h with⟨rfl,rfl⟩|⟨kl,vl,ol,c,rfl,hm,hf,hl,hr⟩
 .exact⟨.nul,by simp⟩
 .refine⟨?_,hl⟩
  have:=V.Rows.win (U:=U) (s:=2) kl vl ol (l.map dV) true c hm (by rw[ε];exact hf) (λi e he=>by
   have hil:i<l.length:=by have:=(ξ.1 he).1;simpa using this
   have h1:=mL (NP l) i e he;rw[<-hr,List.drop_take,List.drop_drop,List.take_take,Nat.min_eq_left (by omega)] at h1
   exact h1)
  rw[ε] at this;exact this
def FL (ks:List (List UInt8)) (key:List UInt8):∀(f lo hi:Nat),¬lo<hi->gT ks key f lo hi=lo
 |0,lo,hi,_=>rfl
 |f+1,lo,hi,h=>by unfold gT;rw[if_neg h]
variable{key:List UInt8}
def DF {ks:List (List UInt8)} {f lo hi:Nat} (h:lo<hi) (hf:hi-lo<=f):∃f',(if φ (ks.getD ((lo+hi)/2) []) key=true then hi-((lo+hi)/2+1) else(lo+hi)/2-lo)<=f'/\gT ks key f lo hi=(if φ (ks.getD ((lo+hi)/2) []) key=true then gT ks key f' ((lo+hi)/2+1) hi else gT ks key f' lo ((lo+hi)/2)):=by
 cases f with
 |zero=>omega
 |succ f=>
  refine⟨f,?_,?_⟩
  .split<;>omega
  .rw[gT,if_pos h]
def Lt (h:l[i]?=some r):(l.map (·.k)).getD i []=r.k:=by
 rw[List.getD_eq_getElem?_getD,Δ,h];rfl
def wW {Y:St} {k aj off:Nat} {ar:Bool} {ct:List D} (hm:Y.cp k aj=some (ar,ct)) (hx:ct[off]?=some x) (ht:sK Y x=some l):Ev dE 68 [.ptr k aj off,.str key] Y (.tup [.int .i64 (bc l key:Nat),.bool (ck l key)]) Y:=by
 obtain⟨hr,pg⟩:=J5 ht;have lT:k<Y.bs.length:=(ξ.1 (bE hm).1).1;have VZ:off<ct.length:=(ξ.1 hx).1
 have NB:x.cells?=some [x]:=by rcases jM ht with⟨rfl,_⟩|⟨kl,vl,ol,c,rfl,_⟩<;>rfl
 refine Ev.sU rfl SZ rfl rfl rfl ?_;dsimp only[List.cons_append,List.nil_append,List.length,Nat.reduceSub,Nat.reduceAdd,List.replicate_succ,List.replicate_zero];have aP:(aw .ro Y).bs=Y.bs:=rfl;have hF:(aw .ro Y).flr<=Y.bs.length:=χ _;have O:Has Y.bs.length (aw .ro Y) (aw .ro Y) []:=Has.start (χ _) (χ _);generalize aw .ro Y=S at*;have wy:=Arg.of hr aP
 have yZ:∀{U:St} {H:List aX},Has Y.bs.length S U H->iW U (.ptr k aj off) [x]:=λ{U H} h=>by
  refine .inl ⟨k,aj,off,ar,ct,rfl,?_,?_⟩
  .have h1:=(bE hm).1;unfold St.cp;rw[h.ex.low k lT,aP,h1];simp
  .rw[List.drop_eq_getElem_cons VZ];rw[ο VZ] at hx;rw[Option.some.inj hx];rfl
 (try change ah _ _ _ _ _ _);(repeat refine ah.seq ?_);(try generalize hK:dN _ _ _ _=K);refine ah.jy ?_;refine η (.inr rfl) rfl (ev rfl) (by dsimp only[ς,γ,δ]<;>rfl) ?_;refine η (.inr rfl) rfl (ev rfl) (by dsimp only[ς,γ,δ]<;>rfl) ?_;refine υ ?_;(try subst hK);(try change ah _ _ _ _ _ _);have sA:=yZ O;(try change ah _ _ _ _ _ _);(repeat refine ah.seq ?_);(try generalize hK:dN _ _ _ _=K);refine ah.jy ?_;refine η (.inl rfl) rfl (ev rfl) (ae rfl _) ?_;refine τ (d:=.ptr k aj off) (st1:=_) rfl rfl rfl (ae rfl _) ?_;refine Ξ (fo:=0) (m:=0) (o:=off) rfl (ev rfl) rfl rfl (ρ _) (ae rfl _) ?_
 first|refine ψ O rfl (ev rfl) (by first|exact aV|exact bf|exact dh|exact d_|exact kS|exact n9|exact qI|exact oY) rfl (ae rfl _) ?_|refine ω rfl (ev rfl) (by assumption) rfl (ae rfl _) ?_|refine Γ O rfl (ev rfl) (by assumption) (by first|exact aV|exact bf|exact dh|exact d_|exact kS|exact n9|exact qI|exact oY) (by assumption) rfl (ae rfl _) ?_
 first|refine Θ rfl (ev rfl) (Arg.rows (by assumption) O) rfl (ae rfl _) ?_|refine Θ rfl (ev rfl) (O.rows (by first|exact aV|exact bf|exact dh|exact d_|exact kS|exact n9|exact qI|exact oY)) rfl (ae rfl _) ?_|refine Φ rfl rfl rfl (ae rfl _) ?_|refine τ rfl rfl rfl (ae rfl _) ?_
 (try simp only[ε,ζ,θ,ι,κ,μ,ν]);refine η (.inr rfl) rfl (ev rfl) (by dsimp only[ς,γ,δ]<;>rfl) ?_;refine η (.inr rfl) rfl (ev rfl) (by dsimp only[ς,γ,δ]<;>rfl) ?_;refine υ ?_;(try subst hK);(try change ah _ _ _ _ _ _);(try change ah _ _ _ _ _ _);(repeat refine ah.seq ?_);refine ah.block<|ah.loop (λmm I U=>∃(lo hi:Nat),I.clean=⟨9,[.ptr k aj off,.str key,oI I 2,oI I 3,oI I 4,oI I 5,.int .i64 (lo:Nat),.int .i64 (hi:Nat),oI I 8],[]⟩/\Has Y.bs.length S U []/\(hi-lo<=mm)/\(lo<=hi)/\(hi<=l.length)/\(∃f,hi-lo<=f/\gT (l.map (·.k)) key f lo hi=bc l key)) (l.length) ?_ ?_
 .exact⟨0,l.length,rfl,O,by omega,by omega,by omega,⟨l.length,by omega,rfl⟩⟩
 rintro mm I U ⟨lo,hi,hfr,O,sC,hlh,hhl,hfd⟩;rw[hfr];clear hfr;(try generalize oI I=ee);clear I;(try change ah _ _ _ _ _ _);(try change ah _ _ _ _ _ _);(repeat refine ah.seq ?_);(try generalize hK:dN _ _ _ _=K);refine ah.jy ?_;refine η (.inl rfl) rfl (ev rfl) (ae rfl _) ?_;refine η (.inl rfl) rfl (ev rfl) (ae rfl _) ?_;refine τ rfl rfl rfl (ae rfl _) ?_;refine υ ?_;(try subst hK);(try change ah _ _ _ _ _ _);(try change ah _ _ _ _ _ _);(repeat refine ah.seq ?_);refine ah.cond (by first|rfl|assumption) (λhlt=>?_) (λhlt=>?_)<;>try simp only[decide_eq_true_eq,decide_eq_false_iff_not,beq_iff_eq,beq_eq_false_iff_ne,bne_iff_ne,bne_eq_false_iff_eq,ne_eq,Bool.not_eq_true',Bool.not_eq_false',Bool.not_eq_true,Bool.not_eq_false] at hlt
 .have hlt:lo<hi:=by omega
  obtain⟨f,wK,uY⟩:=hfd;obtain⟨f',tZ,ba⟩:=DF (ks:=l.map (·.k)) (key:=key) hlt wK
  obtain⟨r,OY⟩:∃r,l[(lo+hi)/2]?=some r:=⟨l[(lo+hi)/2]'(by omega),ο _⟩
  have dO:=Gf OY;rw[Lt OY] at tZ ba;refine ah.skip ?_;(try change ah _ _ _ _ _ _);(try change ah _ _ _ _ _ _);(repeat refine ah.seq ?_);refine ah.block ?_;(try change ah _ _ _ _ _ _);(repeat refine ah.seq ?_);(try generalize hK:dN _ _ _ _=K);refine ah.jy ?_;refine η (.inl rfl) rfl (ev rfl) (ae rfl _) ?_;refine η (.inl rfl) rfl (ev rfl) (ae rfl _) ?_;refine u.uE (z:=((lo+hi:Nat):Int)) rfl (ev rfl) (ev rfl) (by(try simp only[ν,θ,ι,ζ,ε,κ]);first|(rw[wrap_i64 (by omega) (by omega)]<;>omega)|(rw[wrap_i32 (by omega) (by omega)]<;>omega)) (ae rfl _) ?_;refine τ (d:=.int .i64 (((lo+hi)/2:Nat):Int)) (st1:=_) rfl rfl (by exact N9 _ (by omega) _) (ae rfl _) ?_;refine η (.inr rfl) rfl (ev rfl) (by dsimp only[ς,γ,δ]<;>rfl) ?_;refine υ ?_;(try subst hK);(try change ah _ _ _ _ _ _);have sA:=yZ O;(try change ah _ _ _ _ _ _);(repeat refine ah.seq ?_);(try generalize hK:dN _ _ _ _=K);refine ah.jy ?_;refine η (.inl rfl) rfl (ev rfl) (ae rfl _) ?_;refine τ (d:=.ptr k aj off) (st1:=_) rfl rfl rfl (ae rfl _) ?_;refine Ξ (fo:=0) (m:=0) (o:=off) rfl (ev rfl) rfl rfl (ρ _) (ae rfl _) ?_
  first|refine ψ O rfl (ev rfl) (by first|exact aV|exact bf|exact dh|exact d_|exact kS|exact n9|exact qI|exact oY) rfl (ae rfl _) ?_|refine ω rfl (ev rfl) (by assumption) rfl (ae rfl _) ?_|refine Γ O rfl (ev rfl) (by assumption) (by first|exact aV|exact bf|exact dh|exact d_|exact kS|exact n9|exact qI|exact oY) (by assumption) rfl (ae rfl _) ?_
  refine η (.inl rfl) rfl (ev rfl) (ae rfl _) ?_
  first|refine u.KA rfl (ev rfl) (ev rfl) (Arg.rows (by assumption) O) rfl rfl (by assumption) (λ_=>(ae rfl _)) (λTM I4=>?_)|refine u.Oq O rfl (ev rfl) (ev rfl) (by first|exact aV|exact bf|exact dh|exact d_|exact kS|exact n9|exact qI|exact oY) rfl rfl (by first|exact cI (by assumption)|omega|(simp only[ε,ζ,θ,ι,κ,μ]<;>omega)) (λ_=>(ae rfl _)) (λTM I4=>?_)
  first|refine u.ou (fo:=0) (m:=0) rfl (ev rfl) (by assumption) rfl rfl (λ_=>(ae rfl _)) (λTL I3=>?_)|refine u.dJ (fo:=0) (m:=0) (o2:=0) rfl (ev rfl) (by assumption) rfl rfl rfl (λ_=>(ae rfl _)) (λTL I3=>?_)
  first|refine ω rfl (ev rfl) (by assumption) rfl (ae rfl _) ?_|refine Γ O rfl (ev rfl) (by assumption) (by first|exact aV|exact bf|exact dh|exact d_|exact kS|exact n9|exact qI|exact oY) (by assumption) rfl (ae rfl _) ?_|refine ψ O rfl (ev rfl) (by first|exact aV|exact bf|exact dh|exact d_|exact kS|exact n9|exact qI|exact oY) rfl (ae rfl _) ?_
  refine η (.inl rfl) rfl (ev rfl) (ae rfl _) ?_;refine τ (d:=.bool (φ r.k key)) (st1:=_) rfl rfl rfl (ae rfl _) ?_;refine υ ?_;(try subst hK);(try change ah _ _ _ _ _ _)
  cases F:φ r.k key with
  |true=>
   rw[F,if_pos rfl] at tZ;rw[F,if_pos rfl] at ba;(try change ah _ _ _ _ _ _);(repeat refine ah.seq ?_);refine ah.cond (v:=true) (by first|assumption|(dsimp only[Fr.ev,Fr.get,nth,Go.V.look];done)) (λ_=>?_) (λh=>by cases h);(try change ah _ _ _ _ _ _);(try change ah _ _ _ _ _ _);(repeat refine ah.seq ?_);(try generalize hK:dN _ _ _ _=K);refine ah.jy ?_;refine η (.inl rfl) rfl (ev rfl) (ae rfl _) ?_;refine u.uE (z:=(((lo+hi)/2+1:Nat):Int)) rfl (ev rfl) (ev rfl) (by(try simp only[ν,θ,ι,ζ,ε,κ]);first|(rw[wrap_i64 (by omega) (by omega)]<;>omega)|(rw[wrap_i32 (by omega) (by omega)]<;>omega)) (ae rfl _) ?_;refine η (.inr rfl) rfl (ev rfl) (by dsimp only[ς,γ,δ]<;>rfl) ?_;refine υ ?_;(try subst hK);(try change ah _ _ _ _ _ _);exact⟨mm-1,by omega,⟨(lo+hi)/2+1,hi,rfl,O,by omega,by omega,by omega,⟨f',tZ,by rw[<-ba];exact uY⟩⟩⟩
  |false=>
   rw[F,if_neg (by simp)] at tZ;rw[F,if_neg (by simp)] at ba;(try change ah _ _ _ _ _ _);(repeat refine ah.seq ?_);refine ah.cond (v:=false) (by first|assumption|(dsimp only[Fr.ev,Fr.get,nth,Go.V.look];done)) (λh=>by cases h) (λ_=>?_);(try change ah _ _ _ _ _ _);(try change ah _ _ _ _ _ _);(repeat refine ah.seq ?_);(try generalize hK:dN _ _ _ _=K);refine ah.jy ?_;refine η (.inl rfl) rfl (ev rfl) (ae rfl _) ?_;refine η (.inr rfl) rfl (ev rfl) (by dsimp only[ς,γ,δ]<;>rfl) ?_;refine υ ?_;(try subst hK);(try change ah _ _ _ _ _ _);exact⟨mm-1,by omega,⟨lo,(lo+hi)/2,rfl,O,by omega,by omega,by omega,⟨f',tZ,by rw[<-ba];exact uY⟩⟩⟩
 ·(try change ah _ _ _ _ _ _);refine ah.exit ?_;(try change ah _ _ _ _ _ _);obtain⟨f,wK,uY⟩:=hfd;rw[FL _ _ _ _ _ (by omega)] at uY;subst uY;have sA:=yZ O
  by_cases hin:bc l key<l.length
  .have eO:decide (((bc l key:Nat):Int)<((l.length:Nat):Int))=true:=by rw[decide_eq_true_eq];omega
   obtain⟨r,OY⟩:∃r,l[bc l key]?=some r:=⟨l[bc l key]'hin,ο _⟩
   have dO:=Gf OY;have wA:ck l key=(r.k==key):=by unfold ck;rw[decide_eq_true hin,Lt OY];rfl
   rw[wA];(try change ah _ _ _ _ _ _);(repeat refine ah.seq ?_);(try generalize hK:dN _ _ _ _=K);refine ah.jy ?_;refine η (.inl rfl) rfl (ev rfl) (ae rfl _) ?_;refine η (.inl rfl) rfl (ev rfl) (ae rfl _) ?_;refine η (.inl rfl) rfl (ev rfl) (ae rfl _) ?_;refine τ (d:=.ptr k aj off) (st1:=_) rfl rfl rfl (ae rfl _) ?_;refine Ξ (fo:=0) (m:=0) (o:=off) rfl (ev rfl) rfl rfl (ρ _) (ae rfl _) ?_
   first|refine ψ O rfl (ev rfl) (by first|exact aV|exact bf|exact dh|exact d_|exact kS|exact n9|exact qI|exact oY) rfl (ae rfl _) ?_|refine ω rfl (ev rfl) (by assumption) rfl (ae rfl _) ?_|refine Γ O rfl (ev rfl) (by assumption) (by first|exact aV|exact bf|exact dh|exact d_|exact kS|exact n9|exact qI|exact oY) (by assumption) rfl (ae rfl _) ?_
   first|refine Θ rfl (ev rfl) (Arg.rows (by assumption) O) rfl (ae rfl _) ?_|refine Θ rfl (ev rfl) (O.rows (by first|exact aV|exact bf|exact dh|exact d_|exact kS|exact n9|exact qI|exact oY)) rfl (ae rfl _) ?_|refine Φ rfl rfl rfl (ae rfl _) ?_|refine τ rfl rfl rfl (ae rfl _) ?_
   (try simp only[ε,ζ,θ,ι,κ,μ,ν]);refine τ rfl rfl rfl (ae rfl _) ?_;refine η (.inl rfl) rfl (ev rfl) (ae rfl _) ?_;refine η (.inl rfl) (cP rfl rfl rfl eO) (ev rfl) (ae rfl _) ?_;refine τ (d:=.ptr k aj off) (st1:=_) (cP rfl rfl rfl eO) rfl rfl (ae rfl _) ?_;refine Ξ (fo:=0) (m:=0) (o:=off) (cP rfl rfl rfl eO) (ev rfl) rfl rfl (ρ _) (ae rfl _) ?_
   first|refine ψ O (cP rfl rfl rfl eO) (ev rfl) (by first|exact aV|exact bf|exact dh|exact d_|exact kS|exact n9|exact qI|exact oY) rfl (ae rfl _) ?_|refine ω (cP rfl rfl rfl eO) (ev rfl) (by assumption) rfl (ae rfl _) ?_|refine Γ O (cP rfl rfl rfl eO) (ev rfl) (by assumption) (by first|exact aV|exact bf|exact dh|exact d_|exact kS|exact n9|exact qI|exact oY) (by assumption) rfl (ae rfl _) ?_
   refine η (.inl rfl) (cP rfl rfl rfl eO) (ev rfl) (ae rfl _) ?_
   first|refine u.KA (cP rfl rfl rfl eO) (ev rfl) (ev rfl) (Arg.rows (by assumption) O) rfl rfl (by assumption) (λ_=>(ae rfl _)) (λp48 VK=>?_)|refine u.Oq O (cP rfl rfl rfl eO) (ev rfl) (ev rfl) (by first|exact aV|exact bf|exact dh|exact d_|exact kS|exact n9|exact qI|exact oY) rfl rfl (by first|exact cI (by assumption)|omega|(simp only[ε,ζ,θ,ι,κ,μ]<;>omega)) (λ_=>(ae rfl _)) (λp48 VK=>?_)
   first|refine u.ou (fo:=0) (m:=0) (cP rfl rfl rfl eO) (ev rfl) (by assumption) rfl rfl (λ_=>(ae rfl _)) (λUZ LS=>?_)|refine u.dJ (fo:=0) (m:=0) (o2:=0) (cP rfl rfl rfl eO) (ev rfl) (by assumption) rfl rfl rfl (λ_=>(ae rfl _)) (λUZ LS=>?_)
   first|refine ω (cP rfl rfl rfl eO) (ev rfl) (by assumption) rfl (ae rfl _) ?_|refine Γ O (cP rfl rfl rfl eO) (ev rfl) (by assumption) (by first|exact aV|exact bf|exact dh|exact d_|exact kS|exact n9|exact qI|exact oY) (by assumption) rfl (ae rfl _) ?_|refine ψ O (cP rfl rfl rfl eO) (ev rfl) (by first|exact aV|exact bf|exact dh|exact d_|exact kS|exact n9|exact qI|exact oY) rfl (ae rfl _) ?_
   refine η (.inl rfl) (cP rfl rfl rfl eO) (ev rfl) (ae rfl _) ?_;refine τ (cP rfl rfl rfl eO) rfl rfl (ae rfl _) ?_;refine u.KQ rfl rfl eO (ae rfl _) ?_;refine η (.inr rfl) rfl (ev rfl) (by dsimp only[ς,γ,δ]<;>rfl) ?_;refine η (.inr rfl) rfl (ev rfl) (by dsimp only[ς,γ,δ]<;>rfl) ?_;refine υ ?_;(try subst hK);(try change ah _ _ _ _ _ _);refine ah.ret ⟨λi h=>(by cases h),_,rfl,wa (by simp) aP O (rfl)⟩
  .have eO:decide (((bc l key:Nat):Int)<((l.length:Nat):Int))=false:=by rw[decide_eq_false_iff_not];omega
   have wA:ck l key=false:=by unfold ck;rw[decide_eq_false hin];rfl
   rw[wA];(try change ah _ _ _ _ _ _);(repeat refine ah.seq ?_);(try generalize hK:dN _ _ _ _=K);refine ah.jy ?_;refine η (.inl rfl) rfl (ev rfl) (ae rfl _) ?_;refine η (.inl rfl) rfl (ev rfl) (ae rfl _) ?_;refine η (.inl rfl) rfl (ev rfl) (ae rfl _) ?_;refine τ (d:=.ptr k aj off) (st1:=_) rfl rfl rfl (ae rfl _) ?_;refine Ξ (fo:=0) (m:=0) (o:=off) rfl (ev rfl) rfl rfl (ρ _) (ae rfl _) ?_
   first|refine ψ O rfl (ev rfl) (by first|exact aV|exact bf|exact dh|exact d_|exact kS|exact n9|exact qI|exact oY) rfl (ae rfl _) ?_|refine ω rfl (ev rfl) (by assumption) rfl (ae rfl _) ?_|refine Γ O rfl (ev rfl) (by assumption) (by first|exact aV|exact bf|exact dh|exact d_|exact kS|exact n9|exact qI|exact oY) (by assumption) rfl (ae rfl _) ?_
   first|refine Θ rfl (ev rfl) (Arg.rows (by assumption) O) rfl (ae rfl _) ?_|refine Θ rfl (ev rfl) (O.rows (by first|exact aV|exact bf|exact dh|exact d_|exact kS|exact n9|exact qI|exact oY)) rfl (ae rfl _) ?_|refine Φ rfl rfl rfl (ae rfl _) ?_|refine τ rfl rfl rfl (ae rfl _) ?_
   (try simp only[ε,ζ,θ,ι,κ,μ,ν]);refine τ rfl rfl rfl (ae rfl _) ?_;refine η (.inl rfl) rfl (ev rfl) (ae rfl _) ?_;refine π (et rfl rfl rfl eO) (ae rfl _) ?_;refine π (et rfl rfl rfl eO) (ae rfl _) ?_;refine π (et rfl rfl rfl eO) (ae rfl _) ?_;refine π (et rfl rfl rfl eO) (ae rfl _) ?_;refine π (et rfl rfl rfl eO) (ae rfl _) ?_;refine π (et rfl rfl rfl eO) (ae rfl _) ?_;refine π (et rfl rfl rfl eO) (ae rfl _) ?_;refine π (et rfl rfl rfl eO) (ae rfl _) ?_;refine π (et rfl rfl rfl eO) (ae rfl _) ?_;refine π (et rfl rfl rfl eO) (ae rfl _) ?_;refine u.Qa rfl rfl eO (ae rfl _) ?_;refine η (.inr rfl) rfl (ev rfl) (by dsimp only[ς,γ,δ]<;>rfl) ?_;refine η (.inr rfl) rfl (ev rfl) (by dsimp only[ς,γ,δ]<;>rfl) ?_;refine υ ?_;(try subst hK);(try change ah _ _ _ _ _ _);refine ah.ret ⟨λi h=>(by cases h),_,rfl,wa (by simp) aP O (rfl)⟩
end Go.Proofs.YtappgjdiplibbaaGreat
