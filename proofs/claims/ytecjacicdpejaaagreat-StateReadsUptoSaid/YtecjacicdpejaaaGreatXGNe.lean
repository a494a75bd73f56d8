/-
 Numbers, texts and flags are written behind bytes: texts and flags; the document's.
-/
import Derived.Test.YtecjacicdpejaaaGreatXGHr
import Derived.Test.YtecjacicdpejaaaGreatXGJp
import Derived.Test.YtecjacicdpejaaaGreatXGJi
import Derived.Test.YtecjacicdpejaaaGreatXGCa
import Derived.Test.YtecjacicdpejaaaGreatXGQe
import Derived.Test.YtecjacicdpejaaaGreatXGUa
import Derived.Test.YtecjacicdpejaaaGreatXM2
set_option maxRecDepth 100000
set_option maxHeartbeats 4000000
set_option linter.unusedSimpArgs false
set_option linter.unusedVariables false
set_option linter.unusedSectionVars false
namespace Go.Proofs.YtecjacicdpejaaaGreat
open Go.V Go
def dG (fr:Go.V.Fr) (k:Nat):Go.V.D:=Go.V.nth .bj fr.loc k
theorem DW (m:Nat) (st:St):(eL pv .shr 3 (.int .i64 (m:Nat)) (.int .i64 8)).map (fun d=>(d,st))=some (.int .i64 ((m/256:Nat):Int),st):=by
 show Option.map _ (some (D.int .i64 (Int.fdiv (m:Nat) (2^8))))=_;have:=FT m 1;simp only[Nat.mul_one,Nat.pow_one] at this;rw[this];rfl
theorem DV (m k:Nat) (hk:k≤8) (st:St):(eL pv .shr 3 (.int .i64 (m:Nat)) (.int .i64 ((8*k:Nat):Int))).map (fun d=>(d,st))=some (.int .i64 ((m/256^k:Nat):Int),st):=by
 show Option.map _ (if((8*k:Nat):Int)<0 then none else some (D.int .i64 (Int.fdiv (m:Nat) (2^(min ((8*k:Nat):Int).toNat 64)))))=_;rw[if_neg (by omega),Int.toNat_natCast,Nat.min_eq_left (by omega),FT];rfl
theorem Ik (q:Nat) (st:St):iB pv 3 5 (.int .i64 (q:Nat)) st=some (.int .u8 ((q %256:Nat):Int),st):=by
 show some (D.int .u8 (a7 .u8 (q:Nat)),st)=_;rw[DC]
theorem iF {s0:St} {x:D} {b:List UInt8} (hF:s0.flr≤s0.bs.length) (di:s0.ro≤s0.bs.length) (hx:V.Rows s0 1 x (byteCells b)) (hl:b.length≤60000000000) (n:Int) (hn:n<9223372036854775808):
  ∃d ah,Ev pv 34 [x,.int .i64 n] s0 d ah∧qk s0 ah d (b++bu n):=by
 obtain⟨m,hm⟩:∃m,n.toNat=m:=⟨_,rfl⟩
 have HQ:m<256^8:=by omega
 obtain⟨o6,hk2⟩:=BC HQ;have J_:=EY m;have My:bu n=UInt8.ofNat (kB m)::B_ (kB m) m:=by unfold bu;rw[hm]
 have uJ:=ay b;rw[My];refine Ev.gA rfl R5 rfl rfl rfl ?_;refine zE ?_;have aP:(ae .nw s0).bs=s0.bs:=rfl;have hF:(ae .nw s0).flr≤s0.bs.length:=hF;have hH:Has s0.bs.length (ae .nw s0) (ae .nw s0) []:=Has.start (Nat.le_refl _) (Nat.le_refl _);generalize ae .nw s0=S at*;have hx:=Arg.of hx aP;refine zQ 6 ?_;refine aa.Fc (s:=1) hH rfl rfl rfl rfl rfl (fun _=>(ab rfl _)) (fun k9 st ME hH=>?_);refine qm ?_;refine aa.hO (s:=1) hH rfl (ev rfl) (ev rfl) (by exact aN) (by exact Arg.rows (by assumption) hH) rfl rfl rfl rfl rfl rfl rfl ⟨(Nat.le_of_ble_eq_true rfl),(Nat.le_of_ble_eq_true rfl)⟩ (fun _=>(ab rfl _)) rfl (by simp only[List.length_nil]<;>omega) (by exact .inl hF) (fun Lg st hH=>?_);dsimp only[u2,u1,u3,u4,setMany,u5,u6,D.cells,Nat.reduceAdd] at hH;refine zQ 2 ?_;have hH:Has s0.bs.length S st [.aC Lg 1 (byteCells b)]:=hH;refine zQ 2 ?_;refine ak.ky (fun fr st=>∃(tmp:List (Nat×D)),fr=⟨9,[x,.int .i64 (m:Nat),dG fr 2,dG fr 3,dG fr 4,Lg,dG fr 6,dG fr 7,dG fr 8],tmp⟩∧Has s0.bs.length S st [.aC Lg 1 (byteCells b)]∧(True)) ?_ ?_
 ·refine zQ 4 ?_;refine zP (fun h0=>?_) fun h0=>?_
  ·refine zQ 3 ?_;have ma:m=0:=by omega
   subst ma;exact⟨_,rfl,hH,trivial⟩
  ·refine zQ 1 ?_;have HM:n=(m:Nat):=by omega
   subst HM;exact⟨_,rfl,hH,trivial⟩
 ·rintro fr st ⟨tmp,hfr,hH,ht⟩;rw[hfr];clear hfr;generalize dG fr=ee;clear fr;refine zQ 11 ?_;refine ak.loop (fun mm fr st=>∃(k q:Nat),fr.clean=⟨9,[dG fr 0,.int .i64 (m:Nat),dG fr 2,dG fr 3,dG fr 4,Lg,.int .i64 (k:Nat),.int .i64 (q:Nat),dG fr 8],[]⟩∧Has s0.bs.length S st [.aC Lg 1 (byteCells b)]∧(q=mm)∧(q=m/256^k)∧(k≤kB m)) (m) ?_ ?_
  ·exact⟨0,m,rfl,hH,rfl,by simp,by omega⟩
  rintro mm fr st ⟨k,q,hfr,hH,hq,Ve,hkk⟩;rw[hfr];clear hfr;generalize dG fr=ee;clear fr;refine zQ 6 ?_
  by_cases Vg:0<q
  ·have hlt:k<kB m:=by
    rcases Nat.lt_or_ge k (kB m) with h|h
    ·exact h
    ·have:k=kB m:=by omega
     subst this;omega
   have hc:decide (((q:Nat):Int)>0)=true:=by rw[decide_eq_true_eq];omega
   refine qD rfl (by rw[hc]) ?_;refine zQ 10 ?_;refine aa.go (d:=.int .i64 ((q/256:Nat):Int)) (st1:=_) rfl rfl (by exact DW q _) (ab rfl _) ?_;refine zQ 2 ?_;have hd:q/256<q:=Nat.div_lt_self Vg (by decide);exact⟨q/256,by omega,k+1,q/256,rfl,hH,rfl,by rw[Ve,Nat.pow_succ,Nat.div_div_eq_div_mul],by omega⟩
  ·have hc:decide (((q:Nat):Int)>0)=false:=by rw[decide_eq_false_iff_not];omega
   have MD:k=kB m:=by
    rcases Nat.lt_or_ge k (kB m) with h|h
    ·have:=hk2 k h;omega
    ·omega
   subst MD;refine qE rfl (by rw[hc]) ?_;refine zQ 5 ?_;refine aa.go (d:=.int .u8 (kB m:Nat)) (st1:=_) rfl rfl (by show some (D.int .u8 (a7 .u8 (kB m:Nat)),_)=_;rw[bA (by simp only[fQ];omega)]) (ab rfl _) ?_;refine qh (s:=1) (vs:=[_]) hH fun k24 st QV hH=>?_;refine aa.hO (s:=1) hH rfl (ev rfl) (ev rfl) (by exact bV) (by exact hH.rows (by exact aN)) rfl rfl rfl rfl rfl rfl rfl ⟨(Nat.le_of_ble_eq_true rfl),(Nat.le_of_ble_eq_true rfl)⟩ (fun _=>(ab rfl _)) rfl (by simp only[List.length_cons,List.length_nil,List.length_map]<;>omega) (by exact .inl hF) (fun Sz st hH=>?_);dsimp only[u2,u1,u3,u4,setMany,u5,u6,D.cells,Nat.reduceAdd] at hH;refine zQ 2 ?_
   have hH:Has s0.bs.length S st [.aC Sz 1 (byteCells (b++[UInt8.ofNat (kB m)]))]:=by
    rw[wM,I8 (by omega)];exact hH.drop 1
   refine zQ 4 ?_;refine aa.DO rfl (ev rfl) (ev rfl) (by omega) (by omega) (ab rfl _) ?_;refine zQ 2 ?_;have hbl:∀j,(B_ j m).length=j:=fun j=>rf j m
   obtain⟨T,hT⟩:∃T,b++UInt8.ofNat (kB m)::B_ (kB m) m=T:=⟨_,rfl⟩
   have Pb:T.length=b.length+kB m+1:=by rw[←hT];simp[hbl];omega
   refine zQ 1 ?_;refine ak.loop (fun mm fr st=>∃(j:Nat) (y:D) (pre:List UInt8),fr.clean=⟨9,[dG fr 0,.int .i64 (m:Nat),dG fr 2,dG fr 3,dG fr 4,y,dG fr 6,dG fr 7,.int .i64 ((j:Int)-1)],[]⟩∧Has s0.bs.length S st [.aC y 1 (byteCells pre)]∧(j=mm)∧(j≤kB m)∧(pre++B_ j m=T)) (kB m) ?_ ?_
   ·exact⟨kB m,Sz,b++[UInt8.ofNat (kB m)],rfl,hH,rfl,Nat.le_refl _,(by rw[←hT,List.append_assoc];rfl)⟩
   rintro mm fr st ⟨j,y,pre,hfr,hH,hj,Wb,hp⟩;rw[hfr];clear hfr;generalize dG fr=ee;clear fr;have jL:pre.length+j=T.length:=by rw[←hp,List.length_append,hbl]
   have Wx:=ay pre;refine zQ 6 ?_
   cases j with
   |succ j=>
    have hc:decide (((j+1:Nat):Int)-1≥0)=true:=by rw[decide_eq_true_eq];omega
    refine qD rfl (by rw[hc]) ?_;refine zQ 1 ?_;have Kc:((j+1:Nat):Int)-1=(j:Nat):=by omega
    rw[Kc];have hq:m/256^j %256<256:=Nat.mod_lt _ (by decide);refine zQ 6 ?_;refine aa.xY (z:=((8*j:Nat):Int)) rfl (ev rfl) (ev rfl) (by rw[show(8:Int)*(j:Nat)=((8*j:Nat):Int) by omega,bA (by simp only[fQ];omega)]) (ab rfl _) ?_;refine aa.go (d:=.int .i64 ((m/256^j:Nat):Int)) (st1:=_) rfl rfl (by exact DV m j (by omega) _) (ab rfl _) ?_;refine aa.go (d:=.int .u8 ((m/256^j %256:Nat):Int)) (st1:=_) rfl rfl (by exact Ik _ _) (ab rfl _) ?_;refine qh (s:=1) (vs:=[_]) hH fun k38 st V4 hH=>?_;refine aa.hO (s:=1) hH rfl (ev rfl) (ev rfl) (by exact bV) (by exact hH.rows (by exact aN)) rfl rfl rfl rfl rfl rfl rfl ⟨(Nat.le_of_ble_eq_true rfl),(Nat.le_of_ble_eq_true rfl)⟩ (fun _=>(ab rfl _)) rfl (by simp only[List.length_cons,List.length_nil,List.length_map]<;>omega) (by exact .inl hF) (fun Sy st hH=>?_);dsimp only[u2,u1,u3,u4,setMany,u5,u6,D.cells,Nat.reduceAdd] at hH;refine zQ 2 ?_
    have hH:Has s0.bs.length S st [.aC Sy 1 (byteCells (pre++[UInt8.ofNat (m/256^j)]))]:=by
     rw[wM,Ga];exact hH.drop 1
    refine zQ 2 ?_;refine aa.eY (z:=((j:Int)-1)) rfl (ev rfl) (ev rfl) (by rw[wrap_i64 (by omega) (by omega)]<;>omega) (ab rfl _) ?_;refine zQ 2 ?_;exact⟨j,by omega,⟨j,Sy,pre++[UInt8.ofNat (m/256^j)],rfl,hH,rfl,by omega,(by rw[List.append_assoc];exact hp)⟩⟩
   |zero=>
    have hc:decide (((0:Nat):Int)-1≥0)=false:=rfl;refine qE rfl (by rw[hc]) ?_;refine zQ 1 ?_;have Ql:pre=T:=by rw[←hp];simp[B_]
    subst Ql;refine zQ 5 ?_;refine ak.ret ⟨rx,_,_,_,rfl,rfl,?_⟩;rw[hT];exact hH.gV aP di
def aU (fr:Go.V.Fr) (k:Nat):Go.V.D:=Go.V.nth .bj fr.loc k
def bG (x:D) (s:c8):List D:=[x,.int .i64 (s.at_:Nat),.int .i64 s.e]
theorem wJ (c:UInt8) (st:St):iB pv 5 3 (.int .u8 (c.toNat:Nat)) st=some (.int .i64 (c.toNat:Nat),st):=by
 show some (D.int .i64 (a7 .i64 (c.toNat:Nat)),st)=_;have h:c.toNat<256:=c.toNat_lt;rw[bA (by simp only[fQ];omega)]
theorem Il (c:UInt8) (st:St):iB pv 5 151 (.int .u8 (c.toNat:Nat)) st=some (.int .u64 (c.toNat:Nat),st):=by
 show some (D.int .u64 (a7 .u64 (c.toNat:Nat)),st)=_;have h:c.toNat<256:=c.toNat_lt;rw[bA (by simp only[fQ];omega)]
theorem F4 (u:Nat) (h:u<9223372036854775808) (st:St):iB pv 151 3 (.int .u64 (u:Nat)) st=some (.int .i64 (u:Nat),st):=by
 show some (D.int .i64 (a7 .i64 (u:Nat)),st)=_;rw[bA (by simp only[fQ];omega)]
theorem G0 (u:Nat) (h:u*256<18446744073709551616) (st:St):(eL pv .shl 151 (.int .u64 (u:Nat)) (.int .i64 8)).map (fun d=>(d,st))=some (.int .u64 ((u*256:Nat):Int),st):=by
 show Option.map _ (if(8:Int)<0 then none else some (D.int .u64 (a7 .u64 ((u:Nat)*2^(min (8:Int).toNat 64)))))=_
 rw[if_neg (by decide),show((u:Nat):Int)*2^(min (8:Int).toNat 64)=((u*256:Nat):Int) by
  rw[show(min (8:Int).toNat 64)=8 from rfl];omega,bA (by simp only[fQ];omega)]
 rfl
theorem Jo (u c:Nat) (hc:c<256) (h:u*256+c<18446744073709551616) (st:St):(eL pv .or 151 (.int .u64 ((u*256:Nat):Int)) (.int .u64 (c:Nat))).map (fun d=>(d,st))=some (.int .u64 ((u*256+c:Nat):Int),st):=by
 show Option.map _ (some (D.int .u64 (a7 .u64 ((BitVec.ofInt 64 ((u*256:Nat):Int)|||BitVec.ofInt 64 ((c:Nat):Int)).toNat:Nat))))=_;rw[BitVec.ofInt_natCast,BitVec.ofInt_natCast,BitVec.toNat_or,BitVec.toNat_ofNat,BitVec.toNat_ofNat,Nat.mod_eq_of_lt (by omega),Nat.mod_eq_of_lt (by omega)]
 have e:u*256|||c=u*256+c:=by
  have:=Nat.shiftLeft_add_eq_or_of_lt (i:=8) (b:=c) hc u;rw[Nat.shiftLeft_eq] at this;exact this.symm
 rw[e,bA (by simp only[fQ];omega)];rfl
theorem rp (u:Nat) (st:St):(eL pv .shr 151 (.int .u64 (u:Nat)) (.int .i64 63)).map (fun d=>(d,st))=some (.int .u64 ((u/9223372036854775808:Nat):Int),st):=by
 show Option.map _ (if(63:Int)<0 then none else some (D.int .u64 (Int.fdiv (u:Nat) (2^(min (63:Int).toNat 64)))))=_;rw[if_neg (by decide),show(2:Int)^(min (63:Int).toNat 64)=((9223372036854775808:Nat):Int) from rfl,Int.fdiv_eq_ediv_of_nonneg _ (Int.natCast_nonneg _)];rfl
theorem eS {N k:Nat} {S s0:St} {H:List a_} {x:D} {s:c8} (a:Nat) (e:Int) (hH:Has N S s0 (.box k (.mem 0 false (bG x s))::H)):
  ∃d ah,Ev pv 97 [.ptr k 0 0,.int .i64 (a:Nat),.int .i64 e] s0 d ah∧d=.int .i64 0∧Has N S ah (.box k (.mem 0 false (bG x ⟨a,e⟩))::H):=by
 refine Ev.gA rfl RE rfl rfl rfl ?_;refine zE ?_;have bn:=hH;have hH:=hH.aW;have bh:(ae .rw s0).bs=s0.bs:=rfl;generalize ae .rw s0=S2 at*;refine zQ 12 ?_;refine qT hH aN fun st hH=>?_;dsimp only[u2,u1,u3,u4,setMany,u5,u6,D.cells,Nat.reduceAdd,bG] at hH;refine zQ 2 ?_;refine qT hH aN fun st hH=>?_;dsimp only[u2,u1,u3,u4,setMany,u5,u6,D.cells,Nat.reduceAdd,bG] at hH;refine zQ 5 ?_;refine ak.ret ⟨rx,_,_,_,rfl,ag (rfl),?_⟩;exact⟨rfl,bn.aj bh hH⟩
theorem wz {N k:Nat} {S s0:St} {H:List a_} {x:D} {s:c8} (hH:Has N S s0 (.box k (.mem 0 false (bG x s))::H)):
  ∃d ah,Ev pv 42 [.ptr k 0 0] s0 d ah∧d=.int .i64 s.e∧Has N S ah (.box k (.mem 0 false (bG x s))::H):=by
 refine Ev.gA rfl RY rfl rfl rfl ?_;refine zE ?_;have bn:=hH;have hH:=hH.aW;have bh:(ae .rw s0).bs=s0.bs:=rfl;generalize ae .rw s0=S2 at*;refine zQ 12 ?_;refine ak.ret ⟨rx,_,_,_,rfl,ag (rfl),?_⟩;exact⟨rfl,bn.aj bh hH⟩
theorem rL {N:Nat} {S st:St} {e:a_} {H:List a_} {x:D} {b:List UInt8} (hH:Has N S st (e::.aC x 1 (byteCells b)::H)) {l r:Nat} (h:l≤r∧r≤b.length):V.Rows st 1 (oG x l r) (byteCells ((b.take r).drop l)):=by
 have:=(hH.rows bV).Ls (l:=l) (r:=r) (by rw[ay];exact h);unfold byteCells at this⊢;rw[List.map_drop,List.map_take];exact this
theorem me {N k:Nat} {S s0:St} {H:List a_} {x:D} {b:List UInt8} {s:c8} (hbl:b.length≤1099511627776) (bq:s.at_≤b.length) (hH:Has N S s0 (.box k (.mem 0 false (bG x s))::.aC x 1 (byteCells b)::H)):
  ∃d ah,Ev pv 37 [.ptr k 0 0] s0 d ah∧d=.int .i64 (aX b s).1∧Has N S ah (.box k (.mem 0 false (bG x (aX b s).2))::.aC x 1 (byteCells b)::H):=by
 refine Ev.gA rfl R2 rfl rfl rfl ?_;refine zE ?_;have bn:=hH;have hH:=hH.aW;have bh:(ae .rw s0).bs=s0.bs:=rfl;generalize ae .rw s0=S2 at*;refine zQ 13 ?_;refine ak.cond (by rfl) (fun he=>?_) (fun he=>?_)<;>try simp only[bne_iff_ne,bne_eq_false_iff_eq,ne_eq] at he
 ·have hv:aX b s=(0,s):=by unfold aX;rw[if_pos he]
  rw[hv];refine zQ 4 ?_;refine ak.ret ⟨rx,_,_,_,rfl,ag (rfl),?_⟩;exact⟨rfl,bn.aj bh hH⟩
 refine zQ 1 ?_;have Pa:b.take b.length=b:=List.take_length
 have dK:∀{st:St} {e:a_} {H:List a_},Has N S2 st (e::.aC x 1 (byteCells b)::H)→V.Rows st 1 (oG x s.at_ b.length) (byteCells (b.drop s.at_)):=fun h=>by
  have:=rL h (l:=s.at_) (r:=b.length) ⟨bq,Nat.le_refl _⟩
  rwa [Pa] at this
 have hv:aX b s=match b.drop s.at_ with
  |[]=>(0,⟨s.at_,3⟩)
  |k::rest=>
   if 8<k.toNat then(0,⟨s.at_,4⟩)
   else if rest.length<k.toNat then(0,⟨s.at_,3⟩)
   else if(0<k.toNat∧rest.head?=some 0)∨9223372036854775808≤fL 0 (rest.take k.toNat) then(0,⟨s.at_,4⟩)
   else((fL 0 (rest.take k.toNat):Nat),⟨s.at_+1+k.toNat,0⟩):=by
  unfold aX;rw[if_neg (by simpa using he)];cases List.drop s.at_ b<;>rfl
 refine zQ 10 ?_;refine aa.prt rfl (ev rfl) (hH.rows bV) rfl rfl (yT (by rw[ay];exact bq)) ⟨by rw[ay];exact bq,by rw[ay];exact Nat.le_refl _⟩ (by dsimp only[Fr.put,u1,u2]<;>rfl) ?_;refine zQ 2 ?_;rw[ay];have Ft:(b.drop s.at_).length=b.length-s.at_:=List.length_drop;have M4:=ay (b.drop s.at_);refine zQ 4 ?_;refine aa.D3 rfl (ev rfl) (dK hH) rfl (by dsimp only[Fr.put,u1,u2]<;>rfl) ?_;refine zQ 2 ?_;rw[M4]
 obtain⟨R,hR⟩:∃R,b.drop s.at_=R:=⟨_,rfl⟩
 rw[hR] at hv Ft;simp only[hR] at dK⊢;clear M4
 cases R with
 |nil=>
  simp only at hv;rw[hv];refine ak.cond (v:=true) (by dsimp only[Fr.ev,Fr.get,nth,V.look];rfl) (fun _=>?_) (fun h=>by cases h);refine zQ 7 ?_;obtain⟨_,st,aB,rfl,hH⟩:=eS s.at_ 3 hH;refine qv aB ?_;refine zQ 2 ?_;refine ak.ret ⟨rx,_,_,_,rfl,ag (rfl),?_⟩;exact⟨rfl,bn.aj bh hH⟩
 |cons c rest=>
 simp only at hv;simp only[List.length_cons] at Ft⊢;have MZ:(((rest.length+1:Nat):Int)==0)=false:=by rw[beq_eq_false_iff_ne];omega
 refine qE rfl (by rw[MZ]) ?_;refine zQ 1 ?_;have gm:(byteCells (c::rest))[0]?=some [.int .u8 (c.toNat:Nat)]:=rfl;refine zQ 3 ?_;refine aa.nz (i:=0) rfl (ev rfl) (ev rfl) (dK hH) rfl rfl gm (fun _=>by dsimp only[Fr.put,u1,u2]<;>rfl) (fun SQ HF=>?_);refine aa.iP rfl (ev rfl) HF rfl (by dsimp only[Fr.put,u1,u2]<;>rfl) ?_;refine aa.go (d:=.int .i64 (c.toNat:Nat)) (st1:=_) rfl rfl (by exact wJ c _) (by dsimp only[Fr.put,u1,u2]<;>rfl) ?_;refine zQ 2 ?_
 obtain⟨kn,hkn⟩:∃kn,c.toNat=kn:=⟨_,rfl⟩
 rw[hkn] at hv⊢;refine zQ 6 ?_;refine zP (fun h8=>?_) fun h8=>?_
 ·rw[if_pos (by omega)] at hv;rw[hv];refine zQ 7 ?_;obtain⟨_,st,aB,rfl,hH⟩:=eS s.at_ 4 hH;refine qv aB ?_;refine zQ 2 ?_;refine ak.ret ⟨rx,_,_,_,rfl,ag (rfl),?_⟩;exact⟨rfl,bn.aj bh hH⟩
 rw[if_neg (by omega)] at hv;refine zQ 5 ?_;refine aa.D3 rfl (ev rfl) (dK hH) rfl (by dsimp only[Fr.put,u1,u2]<;>rfl) ?_;refine qm ?_;refine aa.eC (z:=((1+kn:Nat):Int)) rfl (ev rfl) (ev rfl) (by rw[wrap_i64 (by omega) (by omega)]<;>omega) (by dsimp only[Fr.put,u1,u2]<;>rfl) ?_;refine zQ 2 ?_;simp only[ay,List.length_cons]
 by_cases hs:rest.length<kn
 ·rw[if_pos hs] at hv;rw[hv];have hc:decide (((rest.length+1:Nat):Int)<((1+kn:Nat):Int))=true:=by rw[decide_eq_true_eq];omega
  refine qD rfl (by rw[hc]) ?_;refine zQ 7 ?_;obtain⟨_,st,aB,rfl,hH⟩:=eS s.at_ 3 hH;refine qv aB ?_;refine zQ 2 ?_;refine ak.ret ⟨rx,_,_,_,rfl,ag (rfl),?_⟩;exact⟨rfl,bn.aj bh hH⟩
 rw[if_neg hs] at hv;have hc:decide (((rest.length+1:Nat):Int)<((1+kn:Nat):Int))=false:=by rw[decide_eq_false_iff_not];omega
 refine qE rfl (by rw[hc]) ?_;refine zQ 1 ?_
 obtain⟨l,hl⟩:∃l,rest.take kn=l:=⟨_,rfl⟩
 have tp:l.length=kn:=by rw[←hl,List.length_take];omega
 rw[hl] at hv
 obtain⟨y,hy⟩:∃y,oG (oG x s.at_ b.length) 1 (1+kn)=y:=⟨_,rfl⟩
 have Dr:∀{st:St} {e:a_} {H:List a_},Has N S2 st (e::.aC x 1 (byteCells b)::H)→V.Rows st 1 y (byteCells l):=fun h=>by
  have h2:=(dK h).Ls (l:=1) (r:=1+kn) (by rw[ay,List.length_cons];omega);rw[hy] at h2
  have e:((byteCells (c::rest)).take (1+kn)).drop 1=byteCells l:=by
   rw[←hl,Nat.add_comm 1 kn];unfold byteCells;rw[List.map_cons,List.take_succ_cons,List.drop_succ_cons,List.drop_zero,List.map_take]
  rwa [e] at h2
 refine zQ 9 ?_;refine aa.eC (z:=((1+kn:Nat):Int)) rfl (ev rfl) (ev rfl) (by rw[wrap_i64 (by omega) (by omega)]<;>omega) (by dsimp only[Fr.put,u1,u2]<;>rfl) ?_;refine aa.prt rfl (ev rfl) (dK hH) rfl rfl (lT (m:=1) (n:=1+kn) (by rw[ay,List.length_cons];omega)) ⟨by omega,by rw[ay,List.length_cons];omega⟩ (by dsimp only[Fr.put,u1,u2]<;>rfl) ?_;rw[hy];refine aa.D3 rfl (ev rfl) (Dr hH) rfl (by dsimp only[Fr.put,u1,u2]<;>rfl) ?_;rw[ay];refine zQ 2 ?_
 have VQ:∀(i u:Nat),i≤7→u<256^i→u*256+255<18446744073709551616:=fun i u hi hu=>by
  have h1:256^i≤256^7:=Nat.pow_le_pow_right (by decide) hi;have h2:(256:Nat)^7=72057594037927936:=by decide
  omega
 refine zQ 1 ?_;refine ak.loop (fun mm fr st=>∃(i u:Nat),fr.clean=⟨60,[.ptr k 0 0,aU fr 1,aU fr 2,oG x s.at_ b.length,.int .i64 (kn:Nat),.int .u64 (u:Nat),aU fr 6,aU fr 7,aU fr 8,aU fr 9,aU fr 10,aU fr 11,aU fr 12,aU fr 13,aU fr 14,aU fr 15,aU fr 16,aU fr 17,aU fr 18,aU fr 19,aU fr 20,aU fr 21,aU fr 22,aU fr 23,aU fr 24,aU fr 25,aU fr 26,aU fr 27,aU fr 28,aU fr 29,aU fr 30,aU fr 31,aU fr 32,aU fr 33,aU fr 34,aU fr 35,aU fr 36,aU fr 37,aU fr 38,aU fr 39,aU fr 40,aU fr 41,aU fr 42,aU fr 43,aU fr 44,aU fr 45,aU fr 46,aU fr 47,aU fr 48,aU fr 49,aU fr 50,aU fr 51,aU fr 52,aU fr 53,aU fr 54,aU fr 55,aU fr 56,y,.int .i64 (l.length:Nat),.int .i64 (i:Nat)],[]⟩∧Has N S2 st (.box k (.mem 0 false (bG x s))::.aC x 1 (byteCells b)::H)∧(i+mm=l.length)∧(fL u (l.drop i)=fL 0 l)∧(u<256^i)) (l.length) ?_ ?_
 ·exact⟨0,0,rfl,hH,by omega,rfl,by decide⟩
 rintro mm fr st ⟨i,u,hfr,hH,hi,hu,UU⟩;rw[hfr];clear hfr;generalize aU fr=ee;clear fr;refine zQ 4 ?_
 by_cases hlt:i<l.length
 ·have mI:decide (((i:Nat):Int)<((l.length:Nat):Int))=true:=by rw[decide_eq_true_eq];omega
  refine qq<|qD rfl (by rw[mI]) ?_;refine zQ 3 ?_
  obtain⟨q,hq⟩:∃q,l[i]?=some q:=⟨l[i]'hlt,List.getElem?_eq_getElem _⟩
  have mA:(byteCells l)[i]?=some [.int .u8 (q.toNat:Nat)]:=by unfold byteCells;rw[List.getElem?_map,hq];rfl
  have yu:l.drop i=q::l.drop (i+1):=by
   have:=List.drop_eq_getElem_cons (l:=l) (i:=i) hlt;rw[this];congr 1;rw[List.getElem?_eq_getElem hlt] at hq;exact Option.some.inj hq
  rw[yu] at hu;have GG:q.toNat<256:=q.toNat_lt;have UX:=VQ i u (by omega) UU;refine zQ 2 ?_;refine aa.nz rfl (ev rfl) (ev rfl) (Dr hH) rfl rfl mA (fun _=>(ab rfl _)) (fun Um Mg=>?_);refine aa.iP rfl (ev rfl) Mg rfl (ab rfl _) ?_;refine zQ 4 ?_;refine aa.go (d:=.int .u64 ((u*256:Nat):Int)) (st1:=_) rfl rfl (by exact G0 u (by omega) _) (ab rfl _) ?_;refine qm ?_;refine aa.go (d:=.int .u64 (q.toNat:Nat)) (st1:=_) rfl rfl (by exact Il q _) (ab rfl _) ?_;refine aa.go (d:=.int .u64 ((u*256+q.toNat:Nat):Int)) (st1:=_) rfl rfl (by exact Jo u q.toNat GG (by omega) _) (ab rfl _) ?_;refine zQ 6 ?_;exact⟨mm-1,by omega,⟨i+1,u*256+q.toNat,rfl,hH,by omega,hu,by rw[Nat.pow_succ];omega⟩⟩
 ·have mI:decide (((i:Nat):Int)<((l.length:Nat):Int))=false:=by rw[decide_eq_false_iff_not];omega
  refine qq<|qE rfl (by rw[mI]) ?_;refine zQ 1 ?_;have hil:i=l.length:=by omega
  rw[hil,List.drop_length] at hu;have hu:u=fL 0 l:=hu;rw[←hu] at hv
  have UY:u<18446744073709551616:=by
   have h1:256^i≤256^8:=Nat.pow_le_pow_right (by decide) (by omega);have h2:(256:Nat)^8=18446744073709551616:=by decide
   omega
  have hwr:∀st:St,Has N S2 st (.box k (.mem 0 false (bG x s))::.aC x 1 (byteCells b)::H)→∃d ah,Ev pv 97 [.ptr k 0 0,.int .i64 (s.at_:Nat),.int .i64 4] st d ah∧d=.int .i64 0∧Has N S2 ah (.box k (.mem 0 false (bG x ⟨s.at_,4⟩))::.aC x 1 (byteCells b)::H):=fun st hH=>eS s.at_ 4 hH
  have HY:(((u/9223372036854775808:Nat):Int)==1)=decide (9223372036854775808≤u):=by
   by_cases h:9223372036854775808≤u
   ·have:u/9223372036854775808=1:=by omega
    rw[this,decide_eq_true h];rfl
   ·have:u/9223372036854775808=0:=by omega
    rw[this,decide_eq_false h];rfl
  by_cases Kq:kn=0
  ·have cu:decide (((kn:Nat):Int)>0)=false:=by rw[decide_eq_false_iff_not];omega
   have CV:l=[]:=List.length_eq_zero_iff.1 (by omega);have L3:u=0:=by rw[hu,CV];rfl
   have gW:false=false:=rfl;rw[if_neg (by omega)] at hv;rw[hv];subst L3;refine zQ 13 ?_;refine aa.go (d:=.int .u64 0) (st1:=_) rfl rfl (by exact rp 0 _) (ab rfl _) ?_;refine zQ 12 ?_;refine aa.eC (z:=((1+kn:Nat):Int)) rfl (ev rfl) (ev rfl) (by rw[wrap_i64 (by omega) (by omega)]<;>omega) (ab rfl _) ?_;refine aa.eC (z:=((s.at_+1+kn:Nat):Int)) rfl (ev rfl) (ev rfl) (by rw[wrap_i64 (by omega) (by omega)]<;>omega) (ab rfl _) ?_;refine zQ 2 ?_;refine qT hH aN fun st hH=>?_;dsimp only[u2,u1,u3,u4,setMany,u5,u6,D.cells,Nat.reduceAdd,bG] at hH;refine zQ 4 ?_;refine aa.go (d:=.int .i64 (0:Nat)) (st1:=_) rfl rfl (by exact F4 0 (by decide) _) (ab rfl _) ?_;refine zQ 2 ?_;have HV:s.e=0:=by simpa using he
   refine ak.ret ⟨rx,_,_,_,rfl,ag (rfl),?_⟩;rw[HV] at hH;exact⟨rfl,bn.aj bh hH⟩
  ·have cu:decide (((kn:Nat):Int)>0)=true:=by rw[decide_eq_true_eq];omega
   obtain⟨z,Bh,rfl⟩:∃z r,rest=z::r:=by
    cases rest with
    |nil=>simp only[List.length_nil] at hs;omega
    |cons z r=>exact⟨z,r,rfl⟩
   have Ae:(byteCells (c::z::Bh))[1]?=some [.int .u8 (z.toNat:Nat)]:=rfl
   have hz:(((z.toNat:Nat):Int)==0)=decide (z=0):=by
    by_cases h:z=0
    ·subst h;rfl
    ·have:z.toNat≠0:=fun e=>h (by rw[←UInt8.toNat_inj];exact e);rw[decide_eq_false h,beq_eq_false_iff_ne];omega
   by_cases hz0:z=0
   ·have gW:(((z.toNat:Nat):Int)==0)=true:=by rw[hz,decide_eq_true hz0]
    rw[if_pos (.inl ⟨by omega,by rw[hz0];rfl⟩)] at hv;rw[hv];refine zQ 7 ?_;refine aa.nz (i:=1) (ai rfl rfl rfl cu) (ev rfl) (ev rfl) (dK hH) rfl rfl Ae (fun _=>(ab rfl _)) (fun SI E6=>?_);refine aa.iP (ai rfl rfl rfl cu) (ev rfl) E6 rfl (ab rfl _) ?_;refine zQ 16 ?_;obtain⟨_,st,aB,rfl,hH⟩:=hwr _ hH;refine qv aB ?_;refine zQ 2 ?_;refine ak.ret ⟨rx,_,_,_,rfl,ag (rfl),?_⟩;exact⟨rfl,bn.aj bh hH⟩
   ·have gW:(((z.toNat:Nat):Int)==0)=false:=by rw[hz,decide_eq_false hz0]
    by_cases sI:9223372036854775808≤u
    ·rw[if_pos (.inr sI)] at hv;rw[hv];rw[decide_eq_true sI] at HY;refine zQ 7 ?_;refine aa.nz (i:=1) (ai rfl rfl rfl cu) (ev rfl) (ev rfl) (dK hH) rfl rfl Ae (fun _=>(ab rfl _)) (fun SI E6=>?_);refine aa.iP (ai rfl rfl rfl cu) (ev rfl) E6 rfl (ab rfl _) ?_;refine zQ 4 ?_;refine aa.go (d:=.int .u64 ((u/9223372036854775808:Nat):Int)) (st1:=_) (ai rfl rfl rfl gW) rfl (by exact rp u _) (ab rfl _) ?_;refine zQ 3 ?_;refine ak.cond (v:=true) (by dsimp only[Fr.ev,Fr.get,nth,V.look];exact congrArg D.bool HY) (fun _=>?_) (fun h=>by cases h);refine zQ 7 ?_;obtain⟨_,st,aB,rfl,hH⟩:=hwr _ hH;refine qv aB ?_;refine zQ 2 ?_;refine ak.ret ⟨rx,_,_,_,rfl,ag (rfl),?_⟩;exact⟨rfl,bn.aj bh hH⟩
    ·have JC:¬((0<kn∧(z::Bh).head?=some 0)∨9223372036854775808≤u):=by
      rintro(⟨_,h⟩|h)
      ·exact hz0 (Option.some.inj h)
      ·exact sI h
     rw[if_neg JC] at hv;rw[hv];rw[decide_eq_false sI] at HY;refine zQ 7 ?_;refine aa.nz (i:=1) (ai rfl rfl rfl cu) (ev rfl) (ev rfl) (dK hH) rfl rfl Ae (fun _=>(ab rfl _)) (fun SI E6=>?_);refine aa.iP (ai rfl rfl rfl cu) (ev rfl) E6 rfl (ab rfl _) ?_;refine zQ 4 ?_;refine aa.go (d:=.int .u64 ((u/9223372036854775808:Nat):Int)) (st1:=_) (ai rfl rfl rfl gW) rfl (by exact rp u _) (ab rfl _) ?_;refine zQ 3 ?_;refine ak.cond (v:=false) (by dsimp only[Fr.ev,Fr.get,nth,V.look];exact congrArg D.bool HY) (fun h=>by cases h) (fun _=>?_);refine zQ 8 ?_;refine aa.eC (z:=((1+kn:Nat):Int)) rfl (ev rfl) (ev rfl) (by rw[wrap_i64 (by omega) (by omega)]<;>omega) (ab rfl _) ?_;refine aa.eC (z:=((s.at_+1+kn:Nat):Int)) rfl (ev rfl) (ev rfl) (by rw[wrap_i64 (by omega) (by omega)]<;>omega) (ab rfl _) ?_;refine zQ 2 ?_;refine qT hH aN fun st hH=>?_;dsimp only[u2,u1,u3,u4,setMany,u5,u6,D.cells,Nat.reduceAdd,bG] at hH;refine zQ 4 ?_;refine aa.go (d:=.int .i64 (u:Nat)) (st1:=_) rfl rfl (by exact F4 u (by omega) _) (ab rfl _) ?_;refine zQ 2 ?_;have HV:s.e=0:=by simpa using he
     refine ak.ret ⟨rx,_,_,_,rfl,ag (rfl),?_⟩;rw[HV] at hH;exact⟨rfl,bn.aj bh hH⟩
def a8 (fr:Go.V.Fr) (k:Nat):Go.V.D:=Go.V.nth .bj fr.loc k
def jP (s:BitVec 32):D:=.int .u32 (s.toNat:Nat)
def AD (s:BitVec 32):BitVec 32:=if s &&&1#32=1#32 then(s>>>1)^^^2197175160#32 else s>>>1
def p_:Nat→BitVec 32→BitVec 32
 |0,s=>s
 |k+1,s=>p_ k (AD s)
def yI:BitVec 32→List UInt8→BitVec 32
 |s,[]=>s
 |s,c::l=>yI (p_ 8 (s^^^BitVec.ofNat 32 c.toNat)) l
def lR (c : BitVec 32) (b : List UInt8) : BitVec 32 := ~~~ (yI (~~~ c) b)
theorem wrap32 {n:Nat} (h:n<2^32):a7 .u32 (n:Nat)=(n:Int):=bA (by simp only[fQ];omega)
theorem Ez (a:BitVec 32):BitVec.ofInt 32 (a.toNat:Nat)=a:=by
 rw[BitVec.ofInt_natCast,BitVec.ofNat_toNat,BitVec.setWidth_eq]
theorem vi (a b:BitVec 32) (st:St):(eL pv .xor 121 (jP a) (jP b)).map (fun d=>(d,st))=some (jP (a^^^b),st):=by
 show Option.map _ (some (D.int .u32 (a7 .u32 ((BitVec.ofInt 32 (a.toNat:Nat)^^^BitVec.ofInt 32 (b.toNat:Nat)).toNat:Nat))))=_;rw[Ez,Ez,wrap32 (BitVec.isLt _)];rfl
theorem wO (a b:BitVec 32) (st:St):(eL pv .and 121 (jP a) (jP b)).map (fun d=>(d,st))=some (jP (a &&&b),st):=by
 show Option.map _ (some (D.int .u32 (a7 .u32 ((BitVec.ofInt 32 (a.toNat:Nat) &&&BitVec.ofInt 32 (b.toNat:Nat)).toNat:Nat))))=_;rw[Ez,Ez,wrap32 (BitVec.isLt _)];rfl
theorem vI (a:BitVec 32) (st:St):(OR .xor (jP a)).map (fun d=>(d,st))=some (jP (~~~a),st):=by
 show Option.map _ (some (D.int .u32 (a7 .u32 ((BitVec.ofInt 32 4294967295^^^BitVec.ofInt 32 (a.toNat:Nat)).toNat:Nat))))=_;rw[Ez,show BitVec.ofInt 32 4294967295=BitVec.allOnes 32 from rfl,BitVec.allOnes_xor,wrap32 (BitVec.isLt _)];rfl
theorem zf (a:BitVec 32) (st:St):(eL pv .shr 121 (jP a) (.int .u64 1)).map (fun d=>(d,st))=some (jP (a>>>1),st):=by
 show Option.map _ (some (D.int .u32 (Int.fdiv (a.toNat:Nat) (2^1))))=_;rw[Int.fdiv_eq_ediv_of_nonneg _ (by decide)];show some (D.int .u32 ((a.toNat/2:Nat):Int),st)=_;rw[jP,BitVec.toNat_ushiftRight,Nat.shiftRight_succ,Nat.shiftRight_zero]
theorem I7 (c:UInt8) (st:St):iB pv 5 121 (.int .u8 (c.toNat:Nat)) st=some (jP (BitVec.ofNat 32 c.toNat),st):=by
 show some (D.int .u32 (a7 .u32 (c.toNat:Nat)),st)=_;have h:c.toNat<256:=c.toNat_lt;rw[wrap32 (by omega),jP,BitVec.toNat_ofNat,Nat.mod_eq_of_lt (by omega)]
theorem IG {s0:St} {x:D} {b:List UInt8} (hx:V.Rows s0 1 x (byteCells b)) (hl:b.length≤1000000000000) (c:BitVec 32):Ev pv 71 [jP c,x] s0 (jP (lR c b)) s0:=by
 have uJ:=ay b;refine Ev.ia rfl RS rfl rfl rfl ?_;refine zE ?_;obtain⟨aP,hF,hH⟩:=ri s0;generalize ae .ro s0=S at*;have hx:=Arg.of hx aP;refine zQ 7 ?_;refine aa.go (d:=jP (~~~c)) (st1:=_) rfl rfl (by exact vI c _) (by dsimp only[Fr.put,u1,u2]<;>rfl) ?_;refine zQ 6 ?_;refine qn ?_;refine zQ 2 ?_
 obtain⟨R,hR⟩:∃R,yI (~~~c) b=R:=⟨_,rfl⟩
 refine zQ 1 ?_;refine ak.loop (fun mm fr st=>∃(i:Nat) (s:BitVec 32),fr.clean=⟨22,[a8 fr 0,a8 fr 1,a8 fr 2,a8 fr 3,a8 fr 4,jP s,a8 fr 6,a8 fr 7,a8 fr 8,a8 fr 9,a8 fr 10,x,.int .i64 ((byteCells b).length:Nat),.int .i64 (i:Nat),a8 fr 14,a8 fr 15,a8 fr 16,a8 fr 17,a8 fr 18,a8 fr 19,a8 fr 20,a8 fr 21],[]⟩∧Has s0.bs.length S st []∧(i+mm=b.length)∧(yI s (b.drop i)=R)) (b.length) ?_ ?_
 ·exact⟨0,~~~c,rfl,hH,by omega,hR⟩
 rintro mm fr st ⟨i,s,hfr,hH,hi,hs⟩;rw[hfr];clear hfr;generalize a8 fr=ee;clear fr;refine zQ 5 ?_;refine zP (fun h1=>?_) fun h1=>?_
 ·refine zQ 1 ?_
  obtain⟨q,hq⟩:∃q,b[i]?=some q:=⟨b[i]'(by omega),List.getElem?_eq_getElem _⟩
  have gm:(byteCells b)[i]?=some [.int .u8 (q.toNat:Nat)]:=by unfold byteCells;rw[List.getElem?_map,hq];rfl
  have yu:b.drop i=q::b.drop (i+1):=by
   have:=List.drop_eq_getElem_cons (l:=b) (i:=i) (by omega);rw[this];congr 1;rw[List.getElem?_eq_getElem (by omega)] at hq;exact Option.some.inj hq
  rw[yu] at hs;change yI (p_ 8 (s^^^BitVec.ofNat 32 q.toNat)) (b.drop (i+1))=R at hs;refine zQ 4 ?_;refine qr fun PH J0=>?_;refine zQ 7 ?_;refine aa.go (d:=jP (BitVec.ofNat 32 q.toNat)) (st1:=_) rfl rfl (by exact I7 q _) (by dsimp only[Fr.put,u1,u2]<;>rfl) ?_;refine aa.go (d:=jP (s^^^BitVec.ofNat 32 q.toNat)) (st1:=_) rfl rfl (by exact vi _ _ _) (by dsimp only[Fr.put,u1,u2]<;>rfl) ?_;refine zQ 2 ?_;generalize s^^^BitVec.ofNat 32 q.toNat=s1 at*;refine zQ 5 ?_;refine ak.loop (fun mm fr st=>∃(j:Nat) (s2:BitVec 32),fr.clean=⟨22,[a8 fr 0,a8 fr 1,a8 fr 2,a8 fr 3,a8 fr 4,jP s2,a8 fr 6,a8 fr 7,a8 fr 8,a8 fr 9,a8 fr 10,x,.int .i64 ((byteCells b).length:Nat),.int .i64 (i:Nat),a8 fr 14,a8 fr 15,a8 fr 16,a8 fr 17,a8 fr 18,a8 fr 19,a8 fr 20,.int .i64 (j:Nat)],[]⟩∧Has s0.bs.length S st []∧(j+mm=8)∧(p_ (8-j) s2=p_ 8 s1)) (8) ?_ ?_
  ·exact⟨0,s1,rfl,hH,by omega,rfl⟩
  rintro mm fr st ⟨j,s2,hfr,hH,hj,ht⟩;rw[hfr];clear hfr;generalize a8 fr=ee;clear fr;refine zQ 5 ?_;refine zP (fun h2=>?_) fun h2=>?_
  ·refine zQ 1 ?_;have hk:8-j=(8-(j+1))+1:=by omega
   rw[hk] at ht;change p_ (8-(j+1)) (AD s2)=_ at ht;refine zQ 5 ?_;refine aa.go (d:=jP (s2 &&&1#32)) (st1:=_) rfl rfl (by exact wO s2 1#32 _) (ab rfl _) ?_;refine zQ 5 ?_;refine aa.go (d:=jP (s2>>>1)) (st1:=_) rfl rfl (by exact zf s2 _) (ab rfl _) ?_;refine zQ 7 ?_
   by_cases hb:s2 &&&1#32=1#32
   ·have hc:((((s2 &&&1#32).toNat:Nat):Int)==1)=true:=by rw[hb];rfl
    refine ak.cond (v:=true) (by dsimp only[Fr.ev,Fr.get,nth,V.look];exact congrArg D.bool hc) (fun _=>?_) (fun h=>by cases h);refine zQ 2 ?_;refine aa.go (d:=jP ((s2>>>1)^^^2197175160#32)) (st1:=_) rfl rfl (by exact vi (s2>>>1) 2197175160#32 _) (ab rfl _) ?_;refine zQ 2 ?_;rw[AD,if_pos hb] at ht;refine zQ 4 ?_;exact⟨mm-1,by omega,⟨j+1,_,rfl,hH,by omega,ht⟩⟩
   ·have hc:((((s2 &&&1#32).toNat:Nat):Int)==1)=false:=by
     rw[beq_eq_false_iff_ne];intro h;exact hb (BitVec.eq_of_toNat_eq (by have e:(1#32).toNat=1:=rfl;omega))
    refine ak.cond (v:=false) (by dsimp only[Fr.ev,Fr.get,nth,V.look];exact congrArg D.bool hc) (fun h=>by cases h) (fun _=>?_);refine zQ 1 ?_;rw[AD,if_neg hb] at ht;refine zQ 4 ?_;exact⟨mm-1,by omega,⟨j+1,_,rfl,hH,by omega,ht⟩⟩
  ·refine zQ 1 ?_;have Q1:j=8:=by omega
   subst Q1;have ht:s2=p_ 8 s1:=ht;rw[←ht] at hs;refine zQ 4 ?_;exact⟨b.length-(i+1),by omega,⟨i+1,s2,rfl,hH,by omega,hs⟩⟩
 ·refine zQ 1 ?_;have hil:b.drop i=[]:=List.drop_eq_nil_of_le (by omega);rw[hil] at hs;have hs:s=R:=hs;subst hs;refine zQ 3 ?_;refine aa.go (d:=jP (~~~s)) (st1:=_) rfl rfl (by exact vI s _) (ab rfl _) ?_;refine zQ 2 ?_;unfold lR;rw[hR];refine ak.ret ⟨rx,_,rfl,rl aP hH (rfl)⟩
theorem D_ {s0:St} {x:D} {b:List UInt8} (hx:V.Rows s0 1 x (byteCells b)) (hl:b.length≤1000000000000) (c:BitVec 32):Ev pv 79 [jP c,x] s0 (jP (lR c b)) s0:=by
 have uJ:=ay b;refine Ev.ia rfl RK rfl rfl rfl ?_;refine zE ?_;obtain⟨aP,hF,hH⟩:=ri s0;generalize ae .ro s0=S at*;have hx:=Arg.of hx aP;refine zQ 7 ?_;refine aa.go (d:=jP (~~~c)) (st1:=_) rfl rfl (by exact vI c _) (ab rfl _) ?_;refine zQ 7 ?_
 obtain⟨R,hR⟩:∃R,yI (~~~c) b=R:=⟨_,rfl⟩
 refine zQ 1 ?_;refine ak.loop (fun mm fr st=>∃(i:Nat) (s:BitVec 32),fr.clean=⟨8,[a8 fr 0,x,a8 fr 2,a8 fr 3,a8 fr 4,jP s,.int .i64 (i:Nat),a8 fr 7],[]⟩∧Has s0.bs.length S st []∧(i+mm=b.length)∧(yI s (b.drop i)=R)) (b.length) ?_ ?_
 ·exact⟨0,~~~c,rfl,hH,by omega,hR⟩
 rintro mm fr st ⟨i,s,hfr,hH,hi,hs⟩;rw[hfr];clear hfr;generalize a8 fr=ee;clear fr;refine zQ 5 ?_;refine qn ?_;refine zQ 2 ?_;refine zP (fun h1=>?_) fun h1=>?_
 ·refine zQ 1 ?_
  obtain⟨q,hq⟩:∃q,b[i]?=some q:=⟨b[i]'(by omega),List.getElem?_eq_getElem _⟩
  have gm:(byteCells b)[i]?=some [.int .u8 (q.toNat:Nat)]:=by unfold byteCells;rw[List.getElem?_map,hq];rfl
  have yu:b.drop i=q::b.drop (i+1):=by
   have:=List.drop_eq_getElem_cons (l:=b) (i:=i) (by omega);rw[this];congr 1;rw[List.getElem?_eq_getElem (by omega)] at hq;exact Option.some.inj hq
  rw[yu] at hs;change yI (p_ 8 (s^^^BitVec.ofNat 32 q.toNat)) (b.drop (i+1))=R at hs;refine zQ 7 ?_;refine qr fun SV Mq=>?_;refine qR ?_;refine aa.go (d:=jP (BitVec.ofNat 32 q.toNat)) (st1:=_) rfl rfl (by exact I7 q _) (ab rfl _) ?_;refine aa.go (d:=jP (s^^^BitVec.ofNat 32 q.toNat)) (st1:=_) rfl rfl (by exact vi _ _ _) (ab rfl _) ?_;refine zQ 2 ?_;generalize s^^^BitVec.ofNat 32 q.toNat=s1 at*;refine zQ 5 ?_;refine ak.loop (fun mm fr st=>∃(j:Nat) (s2:BitVec 32),fr.clean=⟨8,[a8 fr 0,x,a8 fr 2,a8 fr 3,a8 fr 4,jP s2,.int .i64 (i:Nat),.int .i64 (j:Nat)],[]⟩∧Has s0.bs.length S st []∧(j+mm=8)∧(p_ (8-j) s2=p_ 8 s1)) (8) ?_ ?_
  ·exact⟨0,s1,rfl,hH,by omega,rfl⟩
  rintro mm fr st ⟨j,s2,hfr,hH,hj,ht⟩;rw[hfr];clear hfr;generalize a8 fr=ee;clear fr;refine zQ 6 ?_;refine zP (fun h2=>?_) fun h2=>?_
  ·refine zQ 1 ?_;have hk:8-j=(8-(j+1))+1:=by omega
   rw[hk] at ht;change p_ (8-(j+1)) (AD s2)=_ at ht;refine zQ 5 ?_;refine aa.go (d:=jP (s2 &&&1#32)) (st1:=_) rfl rfl (by exact wO s2 1#32 _) (ab rfl _) ?_;refine zQ 2 ?_
   by_cases hb:s2 &&&1#32=1#32
   ·have hc:((((s2 &&&1#32).toNat:Nat):Int)==1)=true:=by rw[hb];rfl
    refine ak.cond (v:=true) (by dsimp only[Fr.ev,Fr.get,nth,V.look];exact congrArg D.bool hc) (fun _=>?_) (fun h=>by cases h);refine zQ 2 ?_;refine aa.go (d:=jP (s2>>>1)) (st1:=_) rfl rfl (by exact zf s2 _) (ab rfl _) ?_;refine aa.go (d:=jP ((s2>>>1)^^^2197175160#32)) (st1:=_) rfl rfl (by exact vi (s2>>>1) 2197175160#32 _) (ab rfl _) ?_;refine zQ 2 ?_;rw[AD,if_pos hb] at ht;refine zQ 5 ?_;exact⟨mm-1,by omega,⟨j+1,_,rfl,hH,by omega,ht⟩⟩
   ·have hc:((((s2 &&&1#32).toNat:Nat):Int)==1)=false:=by
     rw[beq_eq_false_iff_ne];intro h;exact hb (BitVec.eq_of_toNat_eq (by have e:(1#32).toNat=1:=rfl;omega))
    refine ak.cond (v:=false) (by dsimp only[Fr.ev,Fr.get,nth,V.look];exact congrArg D.bool hc) (fun h=>by cases h) (fun _=>?_);refine zQ 2 ?_;refine aa.go (d:=jP (s2>>>1)) (st1:=_) rfl rfl (by exact zf s2 _) (ab rfl _) ?_;refine zQ 2 ?_;rw[AD,if_neg hb] at ht;refine zQ 5 ?_;exact⟨mm-1,by omega,⟨j+1,_,rfl,hH,by omega,ht⟩⟩
  ·refine zQ 1 ?_;have Q1:j=8:=by omega
   subst Q1;have ht:s2=p_ 8 s1:=ht;rw[←ht] at hs;refine zQ 5 ?_;exact⟨b.length-(i+1),by omega,⟨i+1,s2,rfl,hH,by omega,hs⟩⟩
 ·refine zQ 1 ?_;have hil:b.drop i=[]:=List.drop_eq_nil_of_le (by omega);rw[hil] at hs;have hs:s=R:=hs;subst hs;refine zQ 3 ?_;refine aa.go (d:=jP (~~~s)) (st1:=_) rfl rfl (by exact vI s _) (ab rfl _) ?_;refine zQ 2 ?_;unfold lR;rw[hR];refine ak.ret ⟨rx,_,rfl,rl aP hH (rfl)⟩
def bB (fr:Go.V.Fr) (k:Nat):Go.V.D:=Go.V.nth .bj fr.loc k
theorem pS (b:List UInt8) (st:St):V.Rows st 1 (gr b) (byteCells b):=(gd.frozen (jI b) (fI b)).rows st
def rT (l:List Int):List UInt8:=(l.map bu).flatten
def Bg (r:Rg):List UInt8:=bu r.1++bu r.2
def rF (l:List Rg):List UInt8:=(l.map Bg).flatten
def mz (i:aK):List UInt8:=bu i.op++(bu i.x++(bu i.y++(bu (i.rs.length:Nat)++rF i.rs)))
def mL (l:List aK):List UInt8:=(l.map mz).flatten
def gZ (c:List aK) (s:List Int):List UInt8:=bu (s.length:Nat)++(rT s++(bu (c.length:Nat)++mL c))
theorem pP {α:Type} {f:α→List UInt8} {n:Nat}:∀{l:List α},(∀x∈l,(f x).length≤n)→((l.map f).flatten).length≤n*l.length
 |[],_=>by simp
 |x::l,h=>by
  have ih:=pP (l:=l) fun y hy=>h y (List.mem_cons_of_mem _ hy);have:=h x (List.mem_cons_self ..);simp only[List.map_cons,List.flatten_cons,List.length_append,List.length_cons,Nat.mul_add,Nat.mul_one];omega
theorem mh {α:Type} {f:α→List UInt8} {l:List α} {i:Nat} {x:α} (h:l[i]?=some x):(((l.take (i+1)).map f).flatten)=((l.take i).map f).flatten++f x:=by
 rw[List.take_add_one,h,Option.toList_some,List.map_append,List.flatten_append];simp
theorem rS (l:List Int):(rT l).length≤9*l.length:=pP fun v _=>bY v
theorem D5 (r:Rg):(Bg r).length≤18:=by unfold Bg;have:=bY r.1;have:=bY r.2;rw[List.length_append];omega
theorem Be (l:List Rg):(rF l).length≤18*l.length:=pP fun r _=>D5 r
structure aK.fit (i:aK):Prop where
 op:i.op<9223372036854775808
 x:i.x<9223372036854775808
 y:i.y<9223372036854775808
 r:∀g∈i.rs,-2147483648≤g.1∧g.1≤2147483647∧-2147483648≤g.2∧g.2≤2147483647
theorem BD {i:aK} (h:i.rs.length≤1048576):(mz i).length≤18874404:=by
 unfold mz;have:=bY i.op;have:=bY i.x;have:=bY i.y;have:=bY (i.rs.length:Nat);have:=Be i.rs;simp only[List.length_append];omega
theorem Im {v:Int} (h1:-2147483648≤v) (h2:v≤2147483647) (st:St):iB pv 21 3 (.int .i32 v) st=some (.int .i64 v,st):=by
 show some (D.int .i64 (a7 .i64 v),st)=_;rw[wrap_i64 (by omega) (by omega)]
theorem Nb {s0:St} {x:D} {b:List UInt8} (hF:s0.flr≤s0.bs.length) (di:s0.ro≤s0.bs.length) (hx:V.Rows s0 1 x (byteCells b)) (hl:b.length≤50000000000) {r:Rg} (hr:-2147483648≤r.1∧r.1≤2147483647∧-2147483648≤r.2∧r.2≤2147483647):
  ∃d ah,Ev pv 77 [x,.agg (au r)] s0 d ah∧qk s0 ah d (b++Bg r):=by
 have wj:=bY r.1;refine Ev.gA rfl RM rfl rfl rfl ?_;refine zE ?_;have aP:(ae .nw s0).bs=s0.bs:=rfl;have hF:(ae .nw s0).flr≤s0.bs.length:=hF;have hH:Has s0.bs.length (ae .nw s0) (ae .nw s0) []:=Has.start (Nat.le_refl _) (Nat.le_refl _);generalize ae .nw s0=S at*;have hx:=Arg.of hx aP;refine zQ 2 ?_;refine qb hH fun k3 st tG hH=>?_;dsimp only[u2,u1,u3,u4,setMany,u5,u6,D.cells,Nat.reduceAdd,au] at hH;refine zQ 7 ?_;refine aa.go (d:=.int .i64 r.1) (st1:=_) rfl rfl (by exact Im hr.1 hr.2.1 _) (ab rfl _) ?_;obtain⟨gI,gE⟩:=hH.ir hF;obtain⟨d9,st,aB,ho⟩:=iD (x:=x) (b:=b) gI gE (hx.rows hH) (by omega) r.1 (by omega);have hH:=hH.oJ ho
 (dsimp only[u3,u4] at hH)
 refine qv aB ?_;refine zQ 2 ?_;refine aa.go (d:=.int .i64 r.2) (st1:=_) rfl rfl (by exact Im hr.2.2.1 hr.2.2.2 _) (ab rfl _) ?_;obtain⟨gI,gE⟩:=hH.ir hF;obtain⟨d13,st,aB,ho⟩:=iD (x:=d9) (b:=b++bu r.1) gI gE (hH.rows aN) (by rw[List.length_append];omega) r.2 (by omega);have hH:=hH.oJ ho
 (dsimp only[u3,u4] at hH)
 refine qv aB ?_;refine zQ 2 ?_;refine ak.ret ⟨rx,_,_,_,rfl,rfl,?_⟩;have h1:=(hH.take 1).gV aP di;unfold qk Bg;rw[←List.append_assoc];exact h1
theorem Ch {s0:St} {x y:D} {b:List UInt8} {l:List Int} (hF:s0.flr≤s0.bs.length) (di:s0.ro≤s0.bs.length) (hx:V.Rows s0 1 x (byteCells b)) (hy:V.Rows s0 1 y (l.map ax)) (hl:b.length≤40000000000) (tp:l.length≤1048576) (oZ:∀v∈l,v<9223372036854775808):
  ∃d ah,Ev pv 72 [x,y,.fn 73 []] s0 d ah∧qk s0 ah d (b++(bu (l.length:Nat)++((l.map bu).flatten))):=by
 have wj:=bY (l.length:Nat);refine Ev.gA rfl RR rfl rfl rfl ?_;refine zE ?_;have aP:(ae .nw s0).bs=s0.bs:=rfl;have hF:(ae .nw s0).flr≤s0.bs.length:=hF;have hH:Has s0.bs.length (ae .nw s0) (ae .nw s0) []:=Has.start (Nat.le_refl _) (Nat.le_refl _);generalize ae .nw s0=S at*;have hx:=Arg.of hx aP;have hy:=Arg.of hy aP;refine zQ 8 ?_;refine qn ?_;simp only[List.length_map];obtain⟨gI,gE⟩:=hH.ir hF;obtain⟨d13,st,aB,ho⟩:=iD (x:=x) (b:=b) gI gE (hx.rows hH) (by omega) (l.length:Nat) (by omega);have hH:=hH.oJ ho
 (dsimp only[u3,u4] at hH)
 refine qv aB ?_;refine zQ 6 ?_;refine qn ?_;simp only[List.length_map];refine zQ 3 ?_;refine ak.loop (fun mm fr st=>∃(i:Nat) (o:D),fr.clean=⟨17,[bB fr 0,bB fr 1,.fn 73 [],bB fr 3,bB fr 4,bB fr 5,bB fr 6,o,bB fr 8,bB fr 9,bB fr 10,bB fr 11,bB fr 12,bB fr 13,y,.int .i64 (l.length:Nat),.int .i64 (i:Nat)],[]⟩∧Has s0.bs.length S st [.aC o 1 (byteCells (b++(bu (l.length:Nat)++(((l.take i).map bu).flatten))))]∧(i+mm=l.length)) (l.length) ?_ ?_
 ·exact⟨0,d13,rfl,(by simpa using hH),by omega⟩
 rintro mm fr st ⟨i,o,hfr,hH,hi⟩;rw[hfr];clear hfr;generalize bB fr=ee;clear fr;refine zQ 5 ?_;refine zP (fun hlt=>?_) fun hlt=>?_
 ·refine zQ 1 ?_
  obtain⟨v,hv⟩:∃v,l[i]?=some v:=⟨l[i]'(by omega),List.getElem?_eq_getElem _⟩
  have K3:=List.mem_of_getElem? hv;have gm:(l.map ax)[i]?=some (ax v):=by rw[List.getElem?_map,hv];rfl
  have uG:=mh (f:=bu) hv;have HR:=pP (f:=bu) (n:=9) (l:=l.take i) (fun x hx=>bY x);have nM:(l.take i).length=i:=by rw[List.length_take];omega
  have jL:(b++(bu (l.length:Nat)++(((l.take i).map bu).flatten))).length≤50000000000:=by simp only[List.length_append];omega
  generalize hP:b++(bu (l.length:Nat)++(((l.take i).map bu).flatten))=P at*;refine zQ 4 ?_;refine qr fun OW HJ=>?_;refine zQ 7 ?_;obtain⟨gI,gE⟩:=hH.ir hF;obtain⟨d23,st,aB,ho⟩:=iD (x:=o) (b:=P) gI gE (hH.rows aN) (by omega) v (oZ v K3);have hH:=hH.oJ ho
  (dsimp only[u3,u4] at hH)
  refine qv aB ?_;refine zQ 6 ?_;exact⟨mm-1,by omega,⟨i+1,d23,rfl,(by rw[uG,←List.append_assoc (bu _),←List.append_assoc b,hP];exact hH.take 1),by omega⟩⟩
 ·refine zQ 1 ?_;rw[List.take_of_length_le (by omega)] at hH;refine zQ 5 ?_;refine ak.ret ⟨rx,_,_,_,rfl,rfl,?_⟩;exact hH.gV aP di
theorem Cg {s0:St} {x y:D} {b:List UInt8} {l:List Rg} (hF:s0.flr≤s0.bs.length) (di:s0.ro≤s0.bs.length) (hx:V.Rows s0 1 x (byteCells b)) (hy:V.Rows s0 2 y (l.map au)) (hl:b.length≤40000000000) (tp:l.length≤1048576) (oZ:∀g∈l,-2147483648≤g.1∧g.1≤2147483647∧-2147483648≤g.2∧g.2≤2147483647):
  ∃d ah,Ev pv 76 [x,y,.fn 77 []] s0 d ah∧qk s0 ah d (b++(bu (l.length:Nat)++((l.map Bg).flatten))):=by
 have wj:=bY (l.length:Nat);refine Ev.gA rfl RN rfl rfl rfl ?_;refine zE ?_;have aP:(ae .nw s0).bs=s0.bs:=rfl;have hF:(ae .nw s0).flr≤s0.bs.length:=hF;have hH:Has s0.bs.length (ae .nw s0) (ae .nw s0) []:=Has.start (Nat.le_refl _) (Nat.le_refl _);generalize ae .nw s0=S at*;have hx:=Arg.of hx aP;have hy:=Arg.of hy aP;refine zQ 8 ?_;refine qn ?_;simp only[List.length_map];obtain⟨gI,gE⟩:=hH.ir hF;obtain⟨d13,st,aB,ho⟩:=iD (x:=x) (b:=b) gI gE (hx.rows hH) (by omega) (l.length:Nat) (by omega);have hH:=hH.oJ ho
 (dsimp only[u3,u4] at hH)
 refine qv aB ?_;refine zQ 6 ?_;refine qn ?_;simp only[List.length_map];refine zQ 3 ?_;refine ak.loop (fun mm fr st=>∃(i:Nat) (o:D),fr.clean=⟨17,[bB fr 0,bB fr 1,.fn 77 [],bB fr 3,bB fr 4,bB fr 5,bB fr 6,o,bB fr 8,bB fr 9,bB fr 10,bB fr 11,bB fr 12,bB fr 13,y,.int .i64 (l.length:Nat),.int .i64 (i:Nat)],[]⟩∧Has s0.bs.length S st [.aC o 1 (byteCells (b++(bu (l.length:Nat)++(((l.take i).map Bg).flatten))))]∧(i+mm=l.length)) (l.length) ?_ ?_
 ·exact⟨0,d13,rfl,(by simpa using hH),by omega⟩
 rintro mm fr st ⟨i,o,hfr,hH,hi⟩;rw[hfr];clear hfr;generalize bB fr=ee;clear fr;refine zQ 5 ?_;refine zP (fun hlt=>?_) fun hlt=>?_
 ·refine zQ 1 ?_
  obtain⟨v,hv⟩:∃v,l[i]?=some v:=⟨l[i]'(by omega),List.getElem?_eq_getElem _⟩
  have K3:=List.mem_of_getElem? hv;have gm:(l.map au)[i]?=some (au v):=by rw[List.getElem?_map,hv];rfl
  have uG:=mh (f:=Bg) hv;have HR:=pP (f:=Bg) (n:=18) (l:=l.take i) (fun x hx=>D5 x);have nM:(l.take i).length=i:=by rw[List.length_take];omega
  have jL:(b++(bu (l.length:Nat)++(((l.take i).map Bg).flatten))).length≤50000000000:=by simp only[List.length_append];omega
  generalize hP:b++(bu (l.length:Nat)++(((l.take i).map Bg).flatten))=P at*;refine zQ 4 ?_;refine qr fun OW HJ=>?_;refine aa.cV rfl (ev rfl) (by assumption) rfl (ab rfl _) ?_;refine qa hH fun k9 st ME hH=>?_;refine qS hH aN fun st hH=>?_;dsimp only[u2,u1,u3,u4,setMany,u5,u6,D.cells,Nat.reduceAdd,au] at hH;refine zQ 4 ?_;refine aa.aL (m:=2) hH rfl (ev rfl) (by exact aN) (by dsimp only[List.drop_succ_cons,List.drop_zero,List.take_succ_cons,List.take_zero,au]<;>rfl) rfl rfl (ab rfl _) ?_;obtain⟨gI,gE⟩:=hH.ir hF;obtain⟨d23,st,aB,ho⟩:=Nb (x:=o) (b:=P) gI gE (hH.rows bV) (by omega) (r:=v) (oZ v K3);have hH:=hH.oJ ho
  (dsimp only[u3,u4] at hH)
  refine qv aB ?_;refine zQ 6 ?_;exact⟨mm-1,by omega,⟨i+1,d23,rfl,(by rw[uG,←List.append_assoc (bu _),←List.append_assoc b,hP];exact hH.take 1),by omega⟩⟩
 ·refine zQ 1 ?_;rw[List.take_of_length_le (by omega)] at hH;refine zQ 5 ?_;refine ak.ret ⟨rx,_,_,_,rfl,rfl,?_⟩;exact hH.gV aP di
theorem Nc {s0:St} {x:D} {b:List UInt8} (hF:s0.flr≤s0.bs.length) (di:s0.ro≤s0.bs.length) (hx:V.Rows s0 1 x (byteCells b)) (hl:b.length≤30000000000) {i:aK} (hi:i.ok) (hf:i.fit):
  ∃d ah,Ev pv 75 [x,.agg (aT i)] s0 d ah∧qk s0 ah d (b++mz i):=by
 obtain⟨MP,uI⟩:=hi;have wj:=bY i.op;have HN:=bY i.x;have VI:=bY i.y;have hcl:=MP.cells.1;refine Ev.gA rfl RO rfl rfl rfl ?_;refine zE ?_;have aP:(ae .nw s0).bs=s0.bs:=rfl;have hF:(ae .nw s0).flr≤s0.bs.length:=hF;have hH:Has s0.bs.length (ae .nw s0) (ae .nw s0) []:=Has.start (Nat.le_refl _) (Nat.le_refl _);generalize ae .nw s0=S at*;have hx:=Arg.of hx aP;have IQ:=MP.arg s0.bs.length S;refine zQ 2 ?_;refine qb hH fun k3 st tG hH=>?_;dsimp only[u2,u1,u3,u4,setMany,u5,u6,D.cells,Nat.reduceAdd,aT] at hH;refine zQ 7 ?_;obtain⟨gI,gE⟩:=hH.ir hF;obtain⟨d8,st,aB,ho⟩:=iD (x:=x) (b:=b) gI gE (hx.rows hH) (by omega) i.op hf.op;have hH:=hH.oJ ho
 (dsimp only[u3,u4] at hH)
 refine qv aB ?_;refine zQ 2 ?_;obtain⟨gI,gE⟩:=hH.ir hF;obtain⟨d11,st,aB,ho⟩:=iD (x:=d8) (b:=b++bu i.op) gI gE (hH.rows aN) (by rw[List.length_append];omega) i.x hf.x;have hH:=hH.oJ ho
 (dsimp only[u3,u4] at hH)
 refine qv aB ?_;refine zQ 2 ?_;obtain⟨gI,gE⟩:=hH.ir hF;obtain⟨d14,st,aB,ho⟩:=iD (x:=d11) (b:=(b++bu i.op)++bu i.x) gI gE (hH.rows aN) (by simp only[List.length_append];omega) i.y hf.y;have hH:=hH.oJ ho
 (dsimp only[u3,u4] at hH)
 refine qv aB ?_;refine zQ 7 ?_;obtain⟨gI,gE⟩:=hH.ir hF;obtain⟨d18,st,aB,ho⟩:=Cg (x:=d14) (b:=((b++bu i.op)++bu i.x)++bu i.y) gI gE (hH.rows aN) (IQ.rows hH) (by simp only[List.length_append];omega) uI hf.r;have hH:=hH.oJ ho
 (dsimp only[u3,u4] at hH)
 refine qv aB ?_;refine zQ 2 ?_;refine ak.ret ⟨rx,_,_,_,rfl,rfl,?_⟩;have h1:=(hH.take 1).gV aP di;unfold qk mz rF;simp only[List.append_assoc] at h1⊢;exact h1
theorem wZ {s0:St} {x y:D} {b:List UInt8} {l:List aK} (hF:s0.flr≤s0.bs.length) (di:s0.ro≤s0.bs.length) (hx:V.Rows s0 1 x (byteCells b)) (hy:V.Rows s0 4 y (l.map aT)) (hl:b.length≤10000000) (tp:l.length≤1000) (bq:∀i∈l,i.ok) (oZ:∀i∈l,i.fit):
  ∃d ah,Ev pv 74 [x,y,.fn 75 []] s0 d ah∧qk s0 ah d (b++(bu (l.length:Nat)++((l.map mz).flatten))):=by
 have wj:=bY (l.length:Nat);refine Ev.gA rfl RP rfl rfl rfl ?_;refine zE ?_;have aP:(ae .nw s0).bs=s0.bs:=rfl;have hF:(ae .nw s0).flr≤s0.bs.length:=hF;have hH:Has s0.bs.length (ae .nw s0) (ae .nw s0) []:=Has.start (Nat.le_refl _) (Nat.le_refl _);generalize ae .nw s0=S at*;have hx:=Arg.of hx aP;have hy:=Arg.of hy aP;refine zQ 8 ?_;refine qn ?_;simp only[List.length_map];obtain⟨gI,gE⟩:=hH.ir hF;obtain⟨d13,st,aB,ho⟩:=iD (x:=x) (b:=b) gI gE (hx.rows hH) (by omega) (l.length:Nat) (by omega);have hH:=hH.oJ ho
 (dsimp only[u3,u4] at hH)
 refine qv aB ?_;refine zQ 6 ?_;refine qn ?_;simp only[List.length_map];refine zQ 3 ?_;refine ak.loop (fun mm fr st=>∃(i:Nat) (o:D),fr.clean=⟨17,[bB fr 0,bB fr 1,.fn 75 [],bB fr 3,bB fr 4,bB fr 5,bB fr 6,o,bB fr 8,bB fr 9,bB fr 10,bB fr 11,bB fr 12,bB fr 13,y,.int .i64 (l.length:Nat),.int .i64 (i:Nat)],[]⟩∧Has s0.bs.length S st [.aC o 1 (byteCells (b++(bu (l.length:Nat)++(((l.take i).map mz).flatten))))]∧(i+mm=l.length)) (l.length) ?_ ?_
 ·exact⟨0,d13,rfl,(by simpa using hH),by omega⟩
 rintro mm fr st ⟨i,o,hfr,hH,hi⟩;rw[hfr];clear hfr;generalize bB fr=ee;clear fr;refine zQ 5 ?_;refine zP (fun hlt=>?_) fun hlt=>?_
 ·refine zQ 1 ?_
  obtain⟨v,hv⟩:∃v,l[i]?=some v:=⟨l[i]'(by omega),List.getElem?_eq_getElem _⟩
  have K3:=List.mem_of_getElem? hv;have gm:(l.map aT)[i]?=some (aT v):=by rw[List.getElem?_map,hv];rfl
  have uG:=mh (f:=mz) hv;have HR:=pP (f:=mz) (n:=18874404) (l:=l.take i) (fun x hx=>BD (bq x (List.mem_of_mem_take hx)).2);have nM:(l.take i).length=i:=by rw[List.length_take];omega
  have jL:(b++(bu (l.length:Nat)++(((l.take i).map mz).flatten))).length≤30000000000:=by simp only[List.length_append];omega
  generalize hP:b++(bu (l.length:Nat)++(((l.take i).map mz).flatten))=P at*;refine zQ 4 ?_;refine qr fun OW HJ=>?_;refine aa.cV rfl (ev rfl) (by assumption) rfl (ab rfl _) ?_;refine qa hH fun k9 st ME hH=>?_;refine qS hH aN fun st hH=>?_;dsimp only[u2,u1,u3,u4,setMany,u5,u6,D.cells,Nat.reduceAdd,aT] at hH;refine zQ 4 ?_;refine aa.aL (m:=4) hH rfl (ev rfl) (by exact aN) (by dsimp only[List.drop_succ_cons,List.drop_zero,List.take_succ_cons,List.take_zero,aT]<;>rfl) rfl rfl (ab rfl _) ?_;obtain⟨gI,gE⟩:=hH.ir hF;obtain⟨d23,st,aB,ho⟩:=Nc (x:=o) (b:=P) gI gE (hH.rows bV) (by omega) (i:=v) (bq v K3) (oZ v K3);have hH:=hH.oJ ho
  (dsimp only[u3,u4] at hH)
  refine qv aB ?_;refine zQ 6 ?_;exact⟨mm-1,by omega,⟨i+1,d23,rfl,(by rw[uG,←List.append_assoc (bu _),←List.append_assoc b,hP];exact hH.take 1),by omega⟩⟩
 ·refine zQ 1 ?_;rw[List.take_of_length_le (by omega)] at hH;refine zQ 5 ?_;refine ak.ret ⟨rx,_,_,_,rfl,rfl,?_⟩;exact hH.gV aP di
end Go.Proofs.YtecjacicdpejaaaGreat
namespace Go.V
variable{N:Nat} {S st:St} {H:List a_}
theorem Has.rD (A B:List a_) (h:Has N S st (A++(B++H))):Has N S st (B++(A++H)):=by
 refine h.sub (fun i=>if i<B.length then i+A.length else if i<B.length+A.length then i-B.length else i) (fun a b e=>?_) fun i e hi=>?_
 ·have e':(if a<B.length then a+A.length else if a<B.length+A.length then a-B.length else a)=(if b<B.length then b+A.length else if b<B.length+A.length then b-B.length else b):=e
  repeat' split at e'
  all_goals omega
 ·show(A++(B++H))[if i<B.length then i+A.length else if i<B.length+A.length then i-B.length else i]?=some e
  by_cases h1:i<B.length
  ·rw[if_pos h1,List.getElem?_append_right (by omega),Nat.add_sub_cancel,List.getElem?_append_left h1]
   rwa [List.getElem?_append_left h1] at hi
  ·rw[List.getElem?_append_right (by omega)] at hi
   by_cases h2:i<B.length+A.length
   ·rw[if_neg h1,if_pos h2,List.getElem?_append_left (by omega)]
    rwa [List.getElem?_append_left (by omega)] at hi
   ·rw[if_neg h1,if_neg h2,List.getElem?_append_right (by omega),List.getElem?_append_right (by omega)];rw[List.getElem?_append_right (by omega)] at hi;rw[←hi];congr 1;omega
theorem Has.eZ {j:Nat} {e:a_} (h:Has N S st (e::H)) (hj:j<H.length):Has N S st (H.set j e):=
 Has.back (h.erase (j+1)) hj
theorem Has.EX {j k:Nat} {e:a_} (h:Has N S st H) (hj:H[j]?=some e) (hk:e.K k):k+1≤st.bs.length:=((h.ok j e hj).2 k hk).2
theorem Di {x y:Oper} {fi fj:Fr} {si tA sj ID:St} {a:Operand} {k az off v:Nat} {ar:Bool} {c:List D} (hy:iw y.op=none) (hx:iw x.op=some a) (ha:fi.ev a=.ptr k az off) (h1:sj.bs[k]?=some (.mem v ar c)) (h2:ID.bs[k]?=some (.mem v ar c)) (h3:si.bs[k]?=some (.mem v ar c)) (hr:refs c≤si.bs.length):ku x fi si tA y fj sj ID=true:=by
 unfold ku;simp only[hy,hx,ha,D.oc,Bool.and_eq_true];refine⟨tS h1 h2,?_⟩;unfold mN;simp only[h3]
 split
 ·rfl
 ·simpa using hr
theorem Has.clear {P:Pv} {j:Nat} {x:D} {s:Nat} {es:List (List D)} {t e:TypeId} {z:List D} (h:Has N S st H) (hj:H[j]?=some (.aC x s es)) (ht:P.ch t=some (.slice e)) (hz:cO P e=some z) (kZ:z.length=s) (hr:refs z=0):
  ∃ah,lS P [t] x st=some (.tup [],ah)∧Has N S ah (H.set j (.aC x s (List.replicate es.length z))):=by
 have yr:=(h.ok j _ hj).2;have hown:=h.own hj
 have oo:j<H.length:=by
  rcases Nat.lt_or_ge j H.length with h'|h'
  ·exact h'
  ·rw[List.getElem?_eq_none h'] at hj;cases hj
 cases hown with
 |nul=>
  refine⟨st,by simp only[lS,ht],?_⟩
  have:H.set j (.aC .nul s (List.replicate ([]:List (List D)).length z))=H:=by
   refine List.ext_getElem? fun i=>?_
   by_cases hi:i=j
   ·subst hi;rw[List.getElem?_set_self oo,hj];rfl
   ·rw[List.getElem?_set_ne (fun e=>hi e.symm)]
  rw[this];exact h
 |win k az off es c hm hle hc he=>
  have hk:=yr k (by simp only[a_.aC,D.ref])
  have IP:∀n,refs (Go.V.eZ n z)=0:=by
   intro n;unfold Go.V.eZ
   induction n with
   |zero=>rfl
   |succ n ih=>
    rw[List.replicate_succ,List.flatten_cons]
    have H3:∀(a b:List D),refs a=0→refs b=0→refs (a++b)=0:=by
     intro a
     induction a with
     |nil=>intro b _ hb;exact hb
     |cons d a GF=>
      intro b ha hb;simp only[refs,List.cons_append] at ha⊢;have:=GF b (by omega) hb;omega
    exact H3 _ _ hr ih
  have pI:(Go.V.eZ es.length z).length=es.length*s:=by
   unfold Go.V.eZ;rw[cE (s:=s) (fun e he=>by rw[(List.mem_replicate.1 he).2];exact kZ),List.length_replicate]
  have hw:st.wr k az off (Go.V.eZ es.length z)=some ⟨st.bs.set k (.mem az true (c.take off++Go.V.eZ es.length z++c.drop (off+(Go.V.eZ es.length z).length))),st.flr,st.ro⟩:=lg hm (by omega) (gq h hk.1 (.inr (IP _)));refine⟨_,by simp only[lS,ht,hz,Option.bind_some];rw[if_pos kZ,hw];rfl,?_⟩;refine h.A2 hj (fun n hn hne=>?_) (by simp) rfl rfl ?_ (fun n hn=>.inl hn) fun n hn=>?_
  ·simp only;rw[List.getElem?_set_ne (fun e=>hne (by simp only[a_.aC,D.ref];omega))]
  ·have Ff:∀e'∈List.replicate es.length z,e'.length=s:=fun e' qZ=>by rw[(List.mem_replicate.1 qZ).2];exact kZ
   have:=gT.win (st:=⟨st.bs.set k (.mem az true (c.take off++Go.V.eZ es.length z++c.drop (off+(Go.V.eZ es.length z).length))),st.flr,st.ro⟩) (s:=s) k az off (List.replicate es.length z) (c.take off++Go.V.eZ es.length z++c.drop (off+(Go.V.eZ es.length z).length))
    (by simp only;rw[List.getElem?_set_self hk.2]) (by rw[List.length_replicate];simp;omega) ?_ Ff
   ·rw[List.length_replicate] at this;exact this
   ·rw[List.length_replicate,List.append_assoc,List.drop_append_of_le_length (by simp;omega),List.drop_take,Nat.sub_self,List.take_zero,List.nil_append,←pI,List.take_left']
    ·rfl
    ·rfl
  ·simp only[a_.aC,D.ref] at hn;have:n=k:=by omega
   subst this
   simpa using hk.2
variable{P:Pv} {ops:Array Oper} {rest:List Oper} {fr aE:Fr} {Q:Fr→St→Prop} {ty:TypeId} {pp:String} {a:Array Edge} {g:Option (Nat×Bool)} {dst:Nat}
theorem mO {st:St} {s:Nat} {x:D} {es:List (List D)} (h:V.Rows st s x es):x.cells?=some [x]:=by cases h<;>rfl
end Go.V
namespace Go.Proofs.YtecjacicdpejaaaGreat
open Go.V Go
def Hc (n:Nat):List D:=[.int .i64 (n:Nat)]
def OY (n:Nat):List D:=[.int .i64 (n:Nat),.bool true]
structure h_ (P Q:List Nat) (seen:List Bool):Prop where
 len:P.length=seen.length
 mem:∀(i p:Nat),P[i]?=some p→seen[i]?=some (decide (Q[p]?=some i))
 cnt:Q.length=seen.count true
 small:seen.length≤4096
theorem h_.get {P Q:List Nat} {seen:List Bool} (h:h_ P Q seen) {i:Nat} {b:Bool} (hi:seen[i]?=some b):∃p,P[i]?=some p∧b=decide (Q[p]?=some i):=by
 have hl:=bo hi;have wk:=h.len;refine⟨P[i]'(by omega),List.getElem?_eq_getElem _,?_⟩;have:=h.mem i _ (List.getElem?_eq_getElem (by omega));rw[hi] at this;exact Option.some.inj this
theorem h_.add {P Q:List Nat} {seen:List Bool} (h:h_ P Q seen) {i:Nat} (hi:seen[i]?=some false):h_ (P.set i Q.length) (Q++[i]) (seen.set i true):=by
 have hl:=bo hi;have wk:=h.len;refine⟨by simp[wk],fun j p hj=>?_,?_,by rw[List.length_set];exact h.small⟩
 ·by_cases hij:j=i
  ·subst hij;rw[List.getElem?_set_self (by omega)] at hj⊢;cases hj;simp
  ·rw[List.getElem?_set_ne (fun e=>hij e.symm)] at hj⊢;rw[h.mem j p hj]
   congr 2
   rcases Nat.lt_trichotomy p Q.length with hp|hp|hp
   ·rw[List.getElem?_append_left hp]
   ·subst hp;have hne:¬i=j:=fun e=>hij e.symm;simp[hne]
   ·rw[List.getElem?_eq_none (by omega),List.getElem?_eq_none (by simp;omega)]
 ·have h1:=List.length_eq_countP_add_countP (fun b=>b==true) (l:=seen);have h2:=List.length_eq_countP_add_countP (fun b=>b==true) (l:=seen.set i true);have h3:=count_set hi
  have e1:∀l:List Bool,l.countP (fun a=>decide (¬(a==true)=true))=l.count false:=by
   intro l;unfold List.count;congr 1;funext b;cases b<;>rfl
  have e2:∀l:List Bool,l.countP (fun a=>a==true)=l.count true:=fun l=>rfl;rw[e1,e2] at h1 h2;rw[List.length_append,h.cnt];simp only[List.length_set,List.length_cons,List.length_nil] at h2⊢;omega
theorem h_.clear {P Q:List Nat} {seen:List Bool} (h:h_ P Q seen):h_ P [] (List.replicate seen.length false):=by
 refine⟨by rw[List.length_replicate];exact h.len,fun i p hi=>?_,?_,by rw[List.length_replicate];exact h.small⟩
 ·have:=bo hi;have:=h.len;rw[List.getElem?_replicate,if_pos (by omega)];simp
 ·rw[List.count_replicate];simp
theorem h_.oS {P Q:List Nat} {seen:List Bool} (h:h_ P Q seen):Q.length≤4096:=by
 have:=h.cnt;have:=h.small;have:=List.count_le_length (a:=true) (l:=seen);omega
end Go.Proofs.YtecjacicdpejaaaGreat
namespace Go.Proofs.YtecjacicdpejaaaGreat
open Go.V Go
abbrev mr:=Nat→Int
def aY (f:mr):List D:=[.int .i64 (f 0),.int .i64 (f 1),.int .i64 (f 2),.int .i64 (f 3),.int .i64 (f 4),.int .i64 (f 5),.int .i64 (f 6),.int .i64 (f 7),.int .i64 (f 8),.int .i64 (f 9)]
def dP:mr:=fun _=>-1
def bL:mr:=fun _=>0
def DZ (f:mr) (x:Nat) (v:Int):mr:=fun j=>if j=x then v else f j
end Go.Proofs.YtecjacicdpejaaaGreat
namespace Go.Proofs.YtecjacicdpejaaaGreat
open Go.V Go
structure GM where
 pc:Nat
 c:mr
def y9 (t:GM):List D:=[.int .i64 (t.pc:Nat),.int .i64 (t.c 0),.int .i64 (t.c 1),.int .i64 (t.c 2),.int .i64 (t.c 3),.int .i64 (t.c 4),.int .i64 (t.c 5),.int .i64 (t.c 6),.int .i64 (t.c 7),.int .i64 (t.c 8),.int .i64 (t.c 9)]
def cA (dn:Bool) (f:mr) (d:D):List D:=[.bool dn,.int .i64 (f 0),.int .i64 (f 1),.int .i64 (f 2),.int .i64 (f 3),.int .i64 (f 4),.int .i64 (f 5),.int .i64 (f 6),.int .i64 (f 7),.int .i64 (f 8),.int .i64 (f 9),d]
structure Wk where
 seen:List Bool
 dn:Bool
 best:mr
 rdy:List GM
def Good (code:List aK) (w w':Wk):Prop:=
 w'.seen.length=w.seen.length∧w'.seen.count false≤w.seen.count false∧w'.rdy.length+w'.seen.count false≤w.rdy.length+w.seen.count false∧∀t∈w'.rdy,t∈w.rdy∨∃i,code[t.pc]?=some i∧i.op=1
theorem Good.refl {code:List aK} {w:Wk}:Good code w w:=⟨rfl,Nat.le_refl _,Nat.le_refl _,fun t h=>.inl h⟩
theorem Good.trans {code:List aK} {a b c:Wk} (h:Good code a b) (k:Good code b c):Good code a c:=
 ⟨k.1.trans h.1,Nat.le_trans k.2.1 h.2.1,Nat.le_trans k.2.2.1 h.2.2.1,fun t ht=>by
  rcases k.2.2.2 t ht with q|q
  ·exact h.2.2.2 t q
  ·exact .inr q⟩
theorem Good.step {code:List aK} {w w':Wk} {j:Nat} (hj:w.seen[j]?=some false) (k:Good code ⟨w.seen.set j true,w.dn,w.best,w.rdy⟩ w'):Good code w w':=by
 have hc:=count_set hj;refine Good.trans (b:=⟨w.seen.set j true,w.dn,w.best,w.rdy⟩) ⟨?_,?_,?_,fun t h=>.inl h⟩ k
 ·simp
 ·show(w.seen.set j true).count false≤_;omega
 ·show w.rdy.length+(w.seen.set j true).count false≤_;omega
end Go.Proofs.YtecjacicdpejaaaGreat
namespace Go.Proofs.YtecjacicdpejaaaGreat
open Go.V Go
structure VL where
 dn:Bool
 best:mr
 td:D
 ct:List GM
def Ll (l:VL):List D:=cA l.dn l.best l.td
def Lk (l:VL):a_:=.aC l.td 11 (l.ct.map y9)
theorem Lj (A:List a_) {n:Nat} (hn:A.length=n) {L:List VL} {i:Nat} {l:VL} (h:L[i]?=some l) {H:List a_}:(A++(L.map Lk++H))[n+i]?=some (Lk l):=by
 have hi:=bo h;rw[List.getElem?_append_right (by omega),List.getElem?_append_left (by simp;omega),hn,Nat.add_sub_cancel_left,List.getElem?_map,h];rfl
theorem EU {N:Nat} {S st:St} {H:List a_} {j:Nat} {x:D} {s:Nat} {es:List (List D)} (h:Has N S st H) (hj:H[j]?=some (.aC x s es)):x.ref≤st.bs.length:=by
 rcases Nat.eq_zero_or_pos x.ref with h0|h0
 ·omega
 ·have:=h.EX hj (k:=x.ref-1) (by show x.ref=x.ref-1+1;omega);omega
def MH (A:List a_) (N:Nat) (S st:St) (ks kv:Nat) (p:Pg) (pl:Nat) (ld:D) (L:List VL) (H:List a_):Prop:=
 ∃pd qd P Q sn,Has N S st (A++(.box kv (.mem 0 false [p.cd,p.sd,.int .i64 (pl:Nat),ld,.ptr ks 0 0])::.box ks (.mem 0 false [pd,qd])::.aC pd 1 (P.map Hc)::.aC qd 2 (Q.map OY)::.aC ld 12 (L.map Ll)::(L.map Lk++H)))∧h_ P Q sn∧sn.length=p.code.length
theorem MH.push (A B:List a_) {N:Nat} {S st:St} {ks kv:Nat} {p:Pg} {pl:Nat} {ld:D} {L:List VL} {H:List a_} (h:MH (A++B) N S st ks kv p pl ld L H):MH B N S st ks kv p pl ld L (A++H):=by
 obtain⟨pd,qd,P,Q,sn,hH,bq,uG⟩:=h;refine⟨pd,qd,P,Q,sn,?_,bq,uG⟩;have:=Has.rD (H:=H) A (B++(.box kv (.mem 0 false [p.cd,p.sd,.int .i64 (pl:Nat),ld,.ptr ks 0 0])::.box ks (.mem 0 false [pd,qd])::.aC pd 1 (P.map Hc)::.aC qd 2 (Q.map OY)::.aC ld 12 (L.map Ll)::L.map Lk)) (by simpa only[List.append_assoc,List.cons_append] using hH)
 simpa only[List.append_assoc,List.cons_append] using this
end Go.Proofs.YtecjacicdpejaaaGreat
namespace Go.Proofs.YtecjacicdpejaaaGreat
open Go.V Go
structure PL where
 dn:Bool
 best:mr
 ct:List GM
def PL.ok (n:Nat) (l:PL):Prop:=(∀t∈l.ct,t.pc<n)∧l.ct.length≤1000
end Go.Proofs.YtecjacicdpejaaaGreat
namespace Go.Proofs.YtecjacicdpejaaaGreat
open Go.V Go
def VL.pl (l:VL):PL:=⟨l.dn,l.best,l.ct⟩
theorem MH.mono {A:List a_} {N:Nat} {S st:St} {ks kv:Nat} {p:Pg} {pl:Nat} {ld:D} {L:List VL} {H:List a_} (n:Nat) (h:MH A N S st ks kv p pl ld L H):MH (A.drop n) N S st ks kv p pl ld L H:=by
 obtain⟨pd,qd,P,Q,sn,hH,bq,uG⟩:=h;refine⟨pd,qd,P,Q,sn,?_,bq,uG⟩
 rcases Nat.le_total n A.length with hn|hn
 ·have:=hH.drop n
  rwa [List.drop_append_of_le_length hn] at this
 ·have:=hH.drop A.length;rw[List.drop_append_of_le_length (Nat.le_refl _),List.drop_length] at this;rw[List.drop_eq_nil_of_le hn];exact this
end Go.Proofs.YtecjacicdpejaaaGreat
namespace Go.Proofs.YtecjacicdpejaaaGreat
open Go.V Go
structure ON (p q:Pg):Prop where
 ok:q.ok
 code:q.code=p.code.map mK
 aq:q.aq=p.aq
theorem ON.right {p q:Pg} (h:ON p q) (hR:cL p):cL q:=(zk h.code h.aq).2 hR
end Go.Proofs.YtecjacicdpejaaaGreat
namespace Go.Proofs.YtecjacicdpejaaaGreat
open Go.V Go
def T8 (l:List GM):D:=.sl ((l.map y9).map (j7 11))
theorem Kz {st:St} {ks:Nat→Prop} {dn:Bool} {f:mr} {x y:D} (h:dL st ks x y):cy (dL st ks) (cA dn f x) (cA dn f y):=
 .cons (.plain _ rfl) (.cons (.plain _ rfl) (.cons (.plain _ rfl) (.cons (.plain _ rfl) (.cons (.plain _ rfl) (.cons (.plain _ rfl) (.cons (.plain _ rfl) (.cons (.plain _ rfl) (.cons (.plain _ rfl) (.cons (.plain _ rfl) (.cons (.plain _ rfl) (.cons h .nil)))))))))))
structure AM (N:Nat) (S:St) (kv ks:Nat) (p:Pg) (pl:Nat) (ld:D) (L:List VL):Prop where
 lt:kv<N
 le:N≤S.bs.length
 at_:S.bs[kv]?=some (.mem 0 false [p.cd,p.sd,.int .i64 (pl:Nat),ld,.ptr ks 0 0])
 ld:Arg N S 12 ld (L.map Ll)
 td:∀l∈L,Arg N S 11 l.td (l.ct.map y9)
 ksl:ks<N
theorem AM.box {N:Nat} {S st:St} {H:List a_} {kv ks:Nat} {p:Pg} {pl:Nat} {ld:D} {L:List VL} (h:AM N S kv ks p pl ld L) (hH:Has N S st H):st.bs[kv]?=some (.mem 0 false [p.cd,p.sd,.int .i64 (pl:Nat),ld,.ptr ks 0 0]):=by
 rw[hH.ex.low kv h.lt];exact h.at_
theorem AM.refs {N:Nat} {S st:St} {H:List a_} {kv ks:Nat} {p:Pg} {pl:Nat} {ld:D} {L:List VL} (h:AM N S kv ks p pl ld L) (hp:p.ok) (hH:Has N S st H):V.refs [p.cd,p.sd,.int .i64 (pl:Nat),ld,.ptr ks 0 0]≤st.bs.length:=by
 have h1:=hp.c.ref;have h2:=hp.s.ref;have h3:=h.ld.2;have h4:=h.ksl;have h5:=h.le;have h6:=hH.ex.len;simp only[V.refs,D.ref,h1,h2];omega
theorem AM.to {N:Nat} {S st:St} {H:List a_} {kv ks:Nat} {p:Pg} {pl:Nat} {ld:D} {L:List VL} (h:AM N S kv ks p pl ld L) (hH:Has N S st H) (o:Nat):kY st (.ptr kv 0 o) ([p.cd,p.sd,.int .i64 (pl:Nat),ld,.ptr ks 0 0].drop o):=
 .inl ⟨kv,0,o,false,_,rfl,St.mem_of (by rw[hH.ex.low kv h.lt];exact h.at_),List.take_length ..⟩
theorem MH.am {N ks kv:Nat} {S s0:St} {H:List a_} {p:Pg} {pl:Nat} {ld:D} {L:List VL} (hM:MH [] N S s0 ks kv p pl ld L H):AM s0.bs.length s0 kv ks p pl ld L:=by
 obtain⟨pd,qd,P,Q,sn,hH,Af,uG⟩:=hM;dsimp only[u4] at hH
 exact⟨(hH.ge aN).2,Nat.le_refl _,hH.at aN,⟨hH.rows tw,EU hH tw⟩,fun l hl=>(by
  obtain⟨i,hi⟩:=List.getElem?_of_mem hl;have h:=Lj (H:=H) [.box kv (.mem 0 false [p.cd,p.sd,.int .i64 (pl:Nat),ld,.ptr ks 0 0]),.box ks (.mem 0 false [pd,qd]),.aC pd 1 (P.map Hc),.aC qd 2 (Q.map OY),.aC ld 12 (L.map Ll)] rfl hi
  exact⟨hH.rows h,EU hH h⟩),hH.EX bV rfl⟩
theorem MH.ro {N ks kv:Nat} {S s0:St} {H:List a_} {p:Pg} {pl:Nat} {ld:D} {L:List VL} (hM:MH [] N S s0 ks kv p pl ld L H):s0.ro≤s0.bs.length:=by
 obtain⟨pd,qd,P,Q,sn,hH,Af,uG⟩:=hM;rw[hH.ex.ro];exact Nat.le_trans hH.di (Nat.le_trans hH.hN hH.ex.len)
end Go.Proofs.YtecjacicdpejaaaGreat
namespace Go.Proofs.YtecjacicdpejaaaGreat
open Go.V Go
def iS (fr:Go.V.Fr) (k:Nat):Go.V.D:=Go.V.nth .bj fr.loc k
def cI (f:mr) (to:Int):Prop:=∀i,i<10→-1≤f i∧f i≤to
theorem Gd {f:mr} {st:St} {i:Nat} (hi:i<10):(sy pv 48 (.agg (aY f)) (.int .i64 (i:Nat))).map (fun d=>(d,st))=some (.int .i64 (f i),st):=by
 match i,hi with
 |0,_=>rfl
 |1,_=>rfl
 |2,_=>rfl
 |3,_=>rfl
 |4,_=>rfl
 |5,_=>rfl
 |6,_=>rfl
 |7,_=>rfl
 |8,_=>rfl
 |9,_=>rfl
theorem u_ {f:mr} {i:Nat} (hi:i<10):du pv 3 ((aY f).drop (0+i*1))=some (.int .i64 (f i)):=by
 match i,hi with
 |0,_=>rfl
 |1,_=>rfl
 |2,_=>rfl
 |3,_=>rfl
 |4,_=>rfl
 |5,_=>rfl
 |6,_=>rfl
 |7,_=>rfl
 |8,_=>rfl
 |9,_=>rfl
theorem B5 {st:St} {k i:Nat} (hi:i<10):(bQ pv 48 (.ptr k 0 0) (.int .i64 (i:Nat)) st).map (fun d=>(d,st))=some (.ptr k 0 (0+i*1),st):=by
 show Option.map _ (if(0:Int)≤(i:Nat)∧((i:Nat):Int)<((10:Nat):Int) then some (D.ptr k 0 (0+((i:Nat):Int).toNat*1)) else none)=_;rw[if_pos ⟨by omega,by omega⟩];rfl
theorem oH {s0:St} (f:mr) (to:Int):Ev pv 150 [.agg (aY f),.int .i64 to] s0 (.bool (dec (cI f to))) s0:=by
 refine Ev.ia rfl Ob rfl rfl rfl ?_;refine zE ?_;obtain⟨aP,hF,hH⟩:=ri s0;generalize ae .ro s0=S at*;refine zQ 2 ?_;refine qb hH fun k2 st hk2 hH=>?_;refine zQ 5 ?_;refine aa.aL (m:=10) hH rfl (ev rfl) (by exact aN) (by dsimp only[List.drop_succ_cons,List.drop_zero,List.take_succ_cons,List.take_zero]<;>rfl) rfl rfl (by dsimp only[Fr.put,u1,u2]<;>rfl) ?_;refine zQ 3 ?_;refine ak.loop (fun mm fr st=>∃(i:Nat),fr.clean=⟨9,[iS fr 0,.int .i64 to,iS fr 2,iS fr 3,iS fr 4,iS fr 5,iS fr 6,.agg (aY f),.int .i64 (i:Nat)],[]⟩∧Has s0.bs.length S st [.box k2 (.mem 0 false (aY f))]∧(i+mm=10)∧(∀j,j<i→-1≤f j∧f j≤to)) (10) ?_ ?_
 ·exact⟨0,rfl,hH,by omega,by intro j h;omega⟩
 rintro mm fr st ⟨i,hfr,hH,hi,hpre⟩;rw[hfr];clear hfr;generalize iS fr=ee;clear fr;refine zQ 5 ?_;refine zP (fun hlt=>?_) fun hlt=>?_
 ·refine zQ 5 ?_;refine aa.go (d:=.int .i64 (f i)) (st1:=_) rfl rfl (Gd (by omega)) (ab rfl _) ?_;refine zQ 3 ?_;refine ak.cY 17 (.bool (decide (f i< -1)||decide (f i>to))) [] ?_ (fun ff tmp cx=>?_)
  ·refine zQ 3 ?_;refine aa.two 13 rfl (fun cu=>?_) (fun cu=>?_)
   ·refine zQ 4 ?_;refine aa.nil (aJ ?_ ?_)
    ·dsimp only[aF,List.foldl,nth,u2,u1]
     all_goals(first|rfl|simp)
    ·refine zF ?_
     all_goals(simp[cu];done)
   ·refine zQ 4 ?_;refine aa.nil (aJ ?_ ?_)
    ·dsimp only[aF,List.foldl,nth,u2,u1]
     all_goals(first|rfl|simp)
    ·refine zF ?_
     all_goals(simp[cu];done)
  refine zG ?_;refine qc (fun h2=>?_) (fun h2=>?_)<;>try simp only[cs] at h2
  ·rw[cq (fun h=>by have:=h i (by omega);simp at h2;omega)];refine zQ 4 ?_;refine ak.ret ⟨rx,_,rfl,rl aP hH (rfl)⟩
  ·refine zQ 5 ?_;refine⟨mm-1,by omega,⟨i+1,rfl,hH,by omega,?_⟩⟩;intro j hj
   by_cases he:j=i
   ·subst he;simp at h2;omega
   ·exact hpre j (by omega)
 ·refine zQ 1 ?_;rw[bK (q:=cI f to) (fun j hj=>hpre j (by omega))];refine zQ 4 ?_;refine ak.ret ⟨rx,_,rfl,rl aP hH (rfl)⟩
theorem rH {s0:St} (f:mr) (to:Int):Ev pv 192 [.agg (aY f),.int .i64 to] s0 (.bool (dec (cI f to))) s0:=by
 refine Ev.ia rfl NW rfl rfl rfl ?_;refine zE ?_;obtain⟨aP,hF,hH⟩:=ri s0;generalize ae .ro s0=S at*;refine zQ 2 ?_;refine qb hH fun k2 st hk2 hH=>?_;refine zQ 8 ?_;refine ak.loop (fun mm fr st=>∃(i:Nat),fr.clean=⟨6,[iS fr 0,.int .i64 to,.ptr k2 0 0,iS fr 3,iS fr 4,.int .i64 (i:Nat)],[]⟩∧Has s0.bs.length S st [.box k2 (.mem 0 false (aY f))]∧(i+mm=10)∧(∀j,j<i→-1≤f j∧f j≤to)) (10) ?_ ?_
 ·exact⟨0,rfl,hH,by omega,by intro j h;omega⟩
 rintro mm fr st ⟨i,hfr,hH,hi,hpre⟩;rw[hfr];clear hfr;generalize iS fr=ee;clear fr;refine zQ 6 ?_;refine zP (fun hlt=>?_) fun hlt=>?_
 ·refine zQ 4 ?_;refine ak.cY 20 (.bool (decide (f i< -1)||decide (f i>to))) [] ?_ (fun ff tmp cx=>?_)
  ·refine qm ?_;refine aa.go (d:=.ptr k2 0 (0+i*1)) (st1:=_) rfl rfl (B5 (by omega)) (ab rfl _) ?_;refine aa.uH hH rfl rfl aN (u_ (by omega)) (ab rfl _) ?_;refine zQ 2 ?_;refine aa.two 14 rfl (fun ng=>?_) (fun ng=>?_)
   ·refine zQ 6 ?_;refine aa.nil (aJ ?_ ?_)
    ·dsimp only[aF,List.foldl,nth,u2,u1]
     all_goals(first|rfl|simp)
    ·refine zF ?_
     all_goals(simp[ng];done)
   ·refine zQ 1 ?_;refine aa.go (d:=.ptr k2 0 (0+i*1)) (st1:=_) (ai rfl rfl rfl ng) rfl (B5 (by omega)) (ab rfl _) ?_;refine aa.uH hH (ai rfl rfl rfl ng) rfl aN (u_ (by omega)) (ab rfl _) ?_;refine zQ 3 ?_;refine aa.nil (aJ ?_ ?_)
    ·dsimp only[aF,List.foldl,nth,u2,u1]
     all_goals(first|rfl|simp)
    ·refine zF ?_
     all_goals(simp[ng];done)
  refine zG ?_;refine qc (fun h2=>?_) (fun h2=>?_)<;>try simp only[cs] at h2
  ·rw[cq (fun h=>by have:=h i (by omega);simp at h2;omega)];refine zQ 4 ?_;refine ak.ret ⟨rx,_,rfl,rl aP hH (rfl)⟩
  ·refine zQ 6 ?_;refine⟨mm-1,by omega,⟨i+1,rfl,hH,by omega,?_⟩⟩;intro j hj
   by_cases he:j=i
   ·subst he;simp at h2;omega
   ·exact hpre j (by omega)
 ·refine zQ 1 ?_;rw[bK (q:=cI f to) (fun j hj=>hpre j (by omega))];refine zQ 4 ?_;refine ak.ret ⟨rx,_,rfl,rl aP hH (rfl)⟩
end Go.Proofs.YtecjacicdpejaaaGreat
namespace Go.V
def jW (l:List (Int×Int)):List (D×D):=l.map fun p=>(.int .i64 p.1,.int .i64 p.2)
def getM:List (Int×Int)→Int→Int
 |[],_=>0
 |(k,x)::l,n=>if n=k then x else getM l n
def oF:List (Int×Int)→Int→Int→List (Int×Int)
 |[],n,v=>[(n,v)]
 |(k,x)::l,n,v=>if n=k then(n,v)::l else(k,x)::oF l n v
theorem nS (n v m:Int):∀l,getM (oF l n v) m=if m=n then v else getM l m
 |[]=>rfl
 |(k,x)::l=>by
  unfold oF
  by_cases h:n=k
  ·subst h;rw[if_pos rfl];unfold getM
   by_cases h2:m=n<;>simp[h2]
  ·rw[if_neg h];unfold getM;rw[nS n v m l]
   by_cases h2:m=n
   ·subst h2;simp[h]
   ·simp[h2]
theorem sS (n:Int):∀(l:List (Int×Int)) (i:Nat),(gg .i64 n (jW l) i=some none∧getM l n=0∧∀v,oF l n v=l++[(n,v)])∨∃j,gg .i64 n (jW l) i=some (some (i+j,.int .i64 (getM l n)))∧∀v,oF l n v=l.set j (n,v)
 |[],i=>.inl ⟨rfl,rfl,fun v=>rfl⟩
 |(k,x)::l,i=>by
  by_cases h:n=k
  ·subst h;exact .inr ⟨0,by simp[jW,gg,getM],fun v=>by simp[oF]⟩
  ·have hb:(n==k)=false:=by simpa using h
   rcases sS n l (i+1) with⟨h1,h2,h3⟩|⟨j,h1,h3⟩
   ·refine .inl ⟨?_,by simp[getM,h,h2],fun v=>by simp[oF,h,h3 v]⟩;show(if IntKind.i64=IntKind.i64 then(if(n==k)=true then some (some (i,D.int .i64 x)) else gg .i64 n (jW l) (i+1)) else none)=_;rw[hb];exact h1
   ·refine .inr ⟨j+1,?_,fun v=>by simp[oF,h,h3 v]⟩;show(if IntKind.i64=IntKind.i64 then(if(n==k)=true then some (some (i,D.int .i64 x)) else gg .i64 n (jW l) (i+1)) else none)=_;rw[hb];simp only[getM,h,if_false];rw[show i+(j+1)=i+1+j by omega];exact h1
variable{P:Pv}
theorem rY {st:St} {k:Nat} {l:List (Int×Int)} {t kt e:TypeId} {kk:IntKind} {n v:Int} (ht:P.ch t=some (.map kt e)) (hk:P.ch kt=some (.int kk)) (hb:st.bs[k]?=some (.map (jW l))) (hw:st.ja k 0=true):
  jo P t (.mp k) (.int .i64 n) (.int .i64 v) st=some {st with bs:=st.bs.set k (.map (jW (oF l n v)))}:=by
 unfold jo;simp only[ht,hk,hb,hw]
 rcases sS n l 0 with⟨h1,_,h3⟩|⟨j,h1,h3⟩
 ·rw[h1,h3 v];simp[jW]
 ·rw[h1,h3 v];simp[jW]
theorem zO {st:St} {k:Nat} {l:List (Int×Int)} {t kt e:TypeId} {kk:IntKind} {n:Int} (ht:P.ch t=some (.map kt e)) (hk:P.ch kt=some (.int kk)) (he:tO P e=some (.int .i64 0)) (hb:st.bs[k]?=some (.map (jW l))):
  nI P t (.mp k) (.int .i64 n) st=some (.int .i64 (getM l n)):=by
 unfold nI;simp only[ht,hk,hb]
 rcases sS n l 0 with⟨h1,h2,_⟩|⟨j,h1,_⟩
 ·rw[h1,h2];exact he
 ·rw[h1]
variable{N:Nat} {S st:St} {H:List a_} {fr aE:Fr} {ops:Array Oper} {rest:List Oper} {Q:Fr→St→Prop} {dst ty:Nat} {pp:String} {a:Array Edge} {g:Option (Nat×Bool)}
theorem aa.J4 {t:TypeId} {aE:Nat→Fr} (hH:Has N S st H) (hg:aA ops fr ⟨some dst,.makeMap t none,ty,pp,a,g⟩=some true) (hp:∀k,fr.put dst (.mp k)=aE k)
  (h:∀k ah,S.bs.length≤k→Has N S ah (.box k (.map (jW []))::H)→aa P ops rest (aE k) ah Q):aa P ops (⟨some dst,.makeMap t none,ty,pp,a,g⟩::rest) fr st Q:=
 aa.go hg rfl (d:=.mp st.bs.length) (st1:=st.push (.map [])) rfl (hp _) (h _ _ hH.len (hH.qX _))
theorem aa.BL {j k:Nat} {l:List (Int×Int)} {t kt e:TypeId} {kk:IntKind} {n v:Int} {mo ko vo:Operand} (hH:Has N S st H) (hg:aA ops fr ⟨none,.mapUpdate t mo ko vo,ty,pp,a,g⟩=some true) (ht:P.ch t=some (.map kt e)) (hk:P.ch kt=some (.int kk)) (hm:fr.ev mo=.mp k) (hn:fr.ev ko=.int .i64 n) (hv:fr.ev vo=.int .i64 v) (hj:H[j]?=some (.box k (.map (jW l))))
  (h:∀ah,Has N S ah (H.set j (.box k (.map (jW (oF l n v)))))→aa P ops rest fr ah Q):aa P ops (⟨none,.mapUpdate t mo ko vo,ty,pp,a,g⟩::rest) fr st Q:=by
 refine aa.N hg rfl (d:=.tup []) (st1:=⟨st.bs.set k (.map (jW (oF l n v))),st.flr,st.ro⟩) ?_ (h _ (hH.ry (az:=0) hj));simp only[dq,hm,hn,hv,rY ht hk (hH.at hj) (gq hH (cs:=[]) (hH.ge hj).1 (.inr rfl)),Option.map_some]
theorem aa.HO {j k:Nat} {l:List (Int×Int)} {t kt e:TypeId} {kk:IntKind} {n v:Int} {mo ko vo:Operand} (hH:Has N S st H) (hg:aA ops fr ⟨none,.insert t mo ko vo,ty,pp,a,g⟩=some true) (ht:P.ch t=some (.map kt e)) (hk:P.ch kt=some (.int kk)) (hm:fr.ev mo=.mp k) (hn:fr.ev ko=.int .i64 n) (hv:fr.ev vo=.int .i64 v) (hj:H[j]?=some (.box k (.map (jW l))))
  (h:∀ah,Has N S ah (H.set j (.box k (.map (jW (oF l n v)))))→aa P ops rest fr ah Q):aa P ops (⟨none,.insert t mo ko vo,ty,pp,a,g⟩::rest) fr st Q:=by
 refine aa.N hg rfl (d:=.tup []) (st1:=⟨st.bs.set k (.map (jW (oF l n v))),st.flr,st.ro⟩) ?_ (h _ (hH.ry (az:=0) hj));simp only[dq,hm,hn,hv,rY ht hk (hH.at hj) (gq hH (cs:=[]) (hH.ge hj).1 (.inr rfl)),Option.map_some]
theorem aa.HP {j k:Nat} {l:List (Int×Int)} {t kt e:TypeId} {kk:IntKind} {n:Int} {mo ko:Operand} (hH:Has N S st H) (hg:aA ops fr ⟨some dst,.lookup t mo ko false,ty,pp,a,g⟩=some true) (ht:P.ch t=some (.map kt e)) (hk:P.ch kt=some (.int kk)) (he:tO P e=some (.int .i64 0)) (hm:fr.ev mo=.mp k) (hn:fr.ev ko=.int .i64 n) (hj:H[j]?=some (.box k (.map (jW l)))) (hp:fr.put dst (.int .i64 (getM l n))=aE)
  (h:aa P ops rest aE st Q):aa P ops (⟨some dst,.lookup t mo ko false,ty,pp,a,g⟩::rest) fr st Q:=by
 refine aa.go hg rfl (d:=.int .i64 (getM l n)) (st1:=st) ?_ hp h;simp only[dq,hm,hn,zO ht hk he (hH.at hj),Option.map_some]
end Go.V
namespace Go.Proofs.YtecjacicdpejaaaGreat
open Go.V Go
def aD (fr:Go.V.Fr) (k:Nat):Go.V.D:=Go.V.nth .bj fr.loc k
structure GT where
 pc:Int
 c:mr
def eN (t:GT):List D:=[.int .i64 t.pc,.int .i64 (t.c 0),.int .i64 (t.c 1),.int .i64 (t.c 2),.int .i64 (t.c 3),.int .i64 (t.c 4),.int .i64 (t.c 5),.int .i64 (t.c 6),.int .i64 (t.c 7),.int .i64 (t.c 8),.int .i64 (t.c 9)]
theorem Aq {l:List GT} {i:Nat} {q:GT} (h:l[i]?=some q):(l.map eN)[i]?=some (eN q):=by rw[List.getElem?_map,h];rfl
def pM (p:Pg) (s:Int) (m:Nat) (n:Int):Prop:=n=s∨∃i q,i<m∧n=((i+1:Nat):Int)∧(ba p.code s)[i]?=some true∧p.code[i]?=some q∧q.op=1
def mJ (p:Pg) (s:Int) (ct:List GT) (m:Nat) (n:Int):Prop:=pM p s p.code.length n∧∀j t,j<m→ct[j]?=some t→t.pc≠n
def kb (p:Pg) (s:Int) (ct:List GT) (place:Int) (m:Nat):Prop:=∀j t,j<m→ct[j]?=some t→mJ p s ct j t.pc∧cI t.c place
theorem sM {p:Pg} {s:Int} {m:Nat} {n:Int} {b:Bool} {q:aK} (hb:(ba p.code s)[m]?=some b) (hq:p.code[m]?=some q):pM p s (m+1) n↔pM p s m n∨(n=((m+1:Nat):Int)∧(b &&(q.op==1))=true):=by
 unfold pM;constructor
 ·rintro(h|⟨i,q',h1,h2,h3,h4,h5⟩)
  ·exact .inl (.inl h)
  ·by_cases he:i=m
   ·subst he;rw[hb] at h3;cases h3;rw[hq] at h4;cases h4;exact .inr ⟨h2,by simp[h5]⟩
   ·exact .inl (.inr ⟨i,q',by omega,h2,h3,h4,h5⟩)
 ·rintro((h|⟨i,q',h1,h2,h3,h4,h5⟩)|⟨h1,h2⟩)
  ·exact .inl h
  ·exact .inr ⟨i,q',by omega,h2,h3,h4,h5⟩
  ·simp only[Bool.and_eq_true,beq_iff_eq] at h2;obtain⟨rfl,h2⟩:=h2;exact .inr ⟨m,q,by omega,h1,hb,hq,h2⟩
theorem As {p:Pg} {s:Int} {ct:List GT} {j:Nat} {n:Int} {t:GT} (ht:ct[j]?=some t):mJ p s ct (j+1) n↔mJ p s ct j n∧n≠t.pc:=by
 unfold mJ;constructor
 ·rintro⟨h1,h2⟩;exact⟨⟨h1,fun j' t' hj h=>h2 j' t' (by omega) h⟩,fun h=>h2 j t (by omega) ht h.symm⟩
 ·rintro⟨⟨h1,h2⟩,h3⟩;refine⟨h1,fun j' t' hj h=>?_⟩
  by_cases he:j'=j
  ·subst he;rw[ht] at h;cases h;exact fun h=>h3 h.symm
  ·exact h2 j' t' (by omega) h
theorem pk {p:Pg} {s place:Int} {ct:List GT} {j:Nat} {t:GT} (ht:ct[j]?=some t) (h:kb p s ct place j) (h1:mJ p s ct j t.pc) (h2:cI t.c place):kb p s ct place (j+1):=by
 intro j' t' hj h'
 by_cases he:j'=j
 ·subst he;rw[ht] at h';cases h';exact⟨h1,h2⟩
 ·exact h j' t' (by omega) h'
theorem DD {s0:St} {p:Pg} (hp:p.ok) (hR:cL p) {r:Nat} {s:Int} (hr:p.aq[r]?=some s) {dn:Bool} {b:mr} {td:D} {ct:List GT} (y4:V.Rows s0 11 td (ct.map eN)) (hl:ct.length≤1048576) (place:Int):
  Ev pv 151 [p.d,.int .i64 (r:Nat),.agg (cA dn b td),.int .i64 place] s0 (.bool (dec (kb p s ct place ct.length))) s0:=by
 have hcl:=hR.closed;have gC:=hR.st s (List.mem_of_getElem? hr);have BJ:=hp.c;have hlen:=hp.cl;have Ac:=kj p.code s;have Vc:=hR.sl;have U':=bo hr;refine Ev.ia rfl Oa rfl rfl rfl ?_;refine zE ?_;obtain⟨aP,hF,hH⟩:=ri s0;generalize ae .ro s0=S at*;have hc:=hp.c.arg s0.bs.length S;have hs:=hp.s.arg s0.bs.length S;have K5:=Arg.of y4 aP;have IQ:=(mq (ba p.code s)).arg s0.bs.length S;have gm:=er hr;unfold Pg.d;refine zQ 2 ?_;refine qb hH fun k4 st La hH=>?_;dsimp only[u2,u1,u3,u4,setMany,u5,u6,D.cells,Nat.reduceAdd,aT,cA,aY,ax,Pg.cs,eN,bE] at hH;refine qb hH fun k6 st Dx hH=>?_;dsimp only[u2,u1,u3,u4,setMany,u5,u6,D.cells,Nat.reduceAdd,aT,cA,aY,ax,Pg.cs,eN,bE] at hH;refine zQ 9 ?_;refine qr fun Lw E8=>?_;refine qR ?_;refine qv ((BZ BJ hlen hcl gC)) ?_;refine zQ 4 ?_;refine aa.J4 hH rfl (fun _=>by dsimp only[Fr.put,u1,u2]<;>rfl) (fun km st QL hH=>?_);refine zQ 3 ?_;refine qr fun SU Mp=>?_;refine qR ?_;refine aa.HO hH rfl rfl rfl rfl rfl rfl aN (fun st hH=>?_);dsimp only[u2] at hH;refine zQ 7 ?_;refine qn ?_;simp only[List.length_map];refine zQ 3 ?_;refine ak.loop (fun mm fr st=>∃(i:Nat) (M:List (Int×Int)),fr.clean=⟨55,[aD fr 0,.int .i64 (r:Nat),aD fr 2,.int .i64 place,.ptr k4 0 0,aD fr 5,.ptr k6 0 0,aD fr 7,aD fr 8,aD fr 9,.mp km,aD fr 11,aD fr 12,aD fr 13,aD fr 14,aD fr 15,aD fr 16,aD fr 17,aD fr 18,aD fr 19,aD fr 20,aD fr 21,aD fr 22,aD fr 23,aD fr 24,aD fr 25,aD fr 26,aD fr 27,aD fr 28,aD fr 29,na (ba p.code s),.int .i64 ((ba p.code s).length:Nat),.int .i64 (i:Nat),aD fr 33,aD fr 34,aD fr 35,aD fr 36,aD fr 37,aD fr 38,aD fr 39,aD fr 40,aD fr 41,aD fr 42,aD fr 43,aD fr 44,aD fr 45,aD fr 46,aD fr 47,aD fr 48,aD fr 49,aD fr 50,aD fr 51,aD fr 52,aD fr 53,aD fr 54],[]⟩∧Has s0.bs.length S st [.box km (.map (jW M)),.box k6 (.mem 0 false (cA dn b td)),.box k4 (.mem 0 false [p.cd,p.sd])]∧(i+mm=p.code.length)∧(∀n,getM M n≠0↔pM p s i n)) (p.code.length) ?_ ?_
 ·refine⟨0,_,rfl,hH,by omega,?_⟩;intro n;rw[nS];unfold pM
  by_cases hn:n=s<;>simp[hn,getM]
 rintro mm fr st ⟨i,M,hfr,hH,hi,hM⟩;rw[hfr];clear hfr;generalize aD fr=ee;clear fr;refine zQ 5 ?_;refine zP (fun h1=>?_) fun h1=>?_
 ·refine zQ 1 ?_
  obtain⟨b,hb⟩:∃b,(ba p.code s)[i]?=some b:=⟨(ba p.code s)[i]'(by omega),List.getElem?_eq_getElem _⟩
  obtain⟨q,hq⟩:∃q,p.code[i]?=some q:=⟨p.code[i]'(by omega),List.getElem?_eq_getElem _⟩
  have gm:=jb hb;have mA:=gk hq;refine zQ 5 ?_;refine qr fun PE JX=>?_;refine zQ 5 ?_;refine ak.kW 46 (.bool (b &&(q.op==1))) [37,38,39,40,41,42,43,44,45] ?_ (fun ff tmp=>?_)
  ·refine zQ 2 ?_;refine aa.two 38 rfl (fun lM=>?_) (fun lM=>?_)
   ·refine zQ 3 ?_;refine qr (fun Up Qs=>?_) (hg:=wi lM);refine qf (fo:=0) (fun PD JW=>?_) (hg:=wi lM);refine zQ 3 ?_;refine aa.nil (aR ?_);refine zG ?_
    all_goals(simp[lM];done)
   ·refine zQ 8 ?_;refine aa.nil (aR ?_);refine zG ?_
    all_goals(simp[lM];done)
  dsimp only[aF,List.foldl,nth,u2,u1];generalize ff 37=Yp;generalize ff 38=Yo;generalize ff 39=Yn;generalize ff 40=Ym;generalize ff 41=Yl;generalize ff 42=Yk;generalize ff 43=Yj;generalize ff 44=Yi;generalize ff 45=Yh;refine zF ?_;refine qc (fun h2=>?_) (fun h2=>?_)<;>try simp only[cs] at h2
  ·refine zQ 4 ?_;refine aa.BL hH rfl rfl rfl rfl rfl rfl aN (fun st hH=>?_);dsimp only[u2] at hH;refine zQ 5 ?_;refine⟨mm-1,by omega,⟨i+1,_,rfl,hH,by omega,?_⟩⟩;intro n;rw[nS,sM hb hq,h2,←hM n]
   by_cases hn:n=((i+1:Nat):Int)
   ·rw[if_pos (by rw[hn];omega)];simp[hn]
   ·rw[if_neg (by omega)];exact⟨.inl,fun h=>h.elim id fun h=>absurd h.1 hn⟩
  ·refine zQ 5 ?_;refine⟨mm-1,by omega,⟨i+1,_,rfl,hH,by omega,?_⟩⟩;intro n;rw[sM hb hq,←hM n];exact⟨.inl,fun h=>h.elim id fun h=>absurd h.2 (by rw[h2];decide)⟩
 ·refine zQ 1 ?_;have hM:∀n,getM M n≠0↔mJ p s ct 0 n:=fun n=>by rw[hM n];unfold mJ;rw[show i=p.code.length by omega];simp
  refine zQ 5 ?_;refine qn ?_;simp only[List.length_map];refine zQ 3 ?_;refine ak.loop (fun mm fr st=>∃(j:Nat) (M:List (Int×Int)),fr.clean=⟨55,[aD fr 0,.int .i64 (r:Nat),aD fr 2,.int .i64 place,.ptr k4 0 0,aD fr 5,.ptr k6 0 0,aD fr 7,aD fr 8,aD fr 9,.mp km,aD fr 11,aD fr 12,aD fr 13,aD fr 14,aD fr 15,aD fr 16,aD fr 17,aD fr 18,aD fr 19,aD fr 20,aD fr 21,aD fr 22,aD fr 23,aD fr 24,aD fr 25,aD fr 26,aD fr 27,aD fr 28,aD fr 29,aD fr 30,aD fr 31,aD fr 32,aD fr 33,aD fr 34,aD fr 35,aD fr 36,aD fr 37,aD fr 38,aD fr 39,aD fr 40,aD fr 41,aD fr 42,aD fr 43,aD fr 44,aD fr 45,aD fr 46,aD fr 47,aD fr 48,aD fr 49,aD fr 50,aD fr 51,td,.int .i64 (ct.length:Nat),.int .i64 (j:Nat)],[]⟩∧Has s0.bs.length S st [.box km (.map (jW M)),.box k6 (.mem 0 false (cA dn b td)),.box k4 (.mem 0 false [p.cd,p.sd])]∧(j+mm=ct.length)∧(∀n,getM M n≠0↔mJ p s ct j n)∧(kb p s ct place j)) (ct.length) ?_ ?_
  ·exact⟨0,_,rfl,hH,by omega,hM,(by intro j t h;omega)⟩
  rintro mm fr st ⟨j,M,hfr,hH,hj,hM,hw⟩;rw[hfr];clear hfr;generalize aD fr=ee;clear fr;refine zQ 5 ?_;refine zP (fun h3=>?_) fun h3=>?_
  ·refine zQ 1 ?_
   obtain⟨t,ht⟩:∃t,ct[j]?=some t:=⟨ct[j]'(by omega),List.getElem?_eq_getElem _⟩
   have Ae:=Aq ht;refine zQ 4 ?_;refine qr fun SK Mh=>?_;refine aa.cV rfl (ev rfl) (by assumption) rfl (ab rfl _) ?_;refine qa hH fun k14 st Kb hH=>?_;dsimp only[u2,u1,u3,u4,setMany,u5,u6,D.cells,Nat.reduceAdd,aT,cA,aY,ax,Pg.cs,eN,bE] at hH;refine qS hH aN fun st hH=>?_;dsimp only[u2,u1,u3,u4,setMany,u5,u6,D.cells,Nat.reduceAdd,aT,cA,aY,ax,Pg.cs,eN,bE] at hH;refine zQ 3 ?_;refine ak.cY 69 (.bool (getM M t.pc==0||!(dec (cI t.c place)))) [] ?_ (fun ff tmp cx=>?_)
   ·refine zQ 3 ?_;refine aa.HP hH rfl rfl rfl rfl rfl rfl bV (ab rfl _) ?_;refine zQ 2 ?_;refine aa.two 63 rfl (fun cK=>?_) (fun cK=>?_)
    ·refine zQ 6 ?_;refine aa.nil (aJ ?_ ?_)
     ·dsimp only[aF,List.foldl,nth,u2,u1]
      all_goals(first|rfl|simp)
     ·refine zF ?_
      all_goals(simp[cK];done)
    ·refine zQ 1 ?_;refine aa.aL (m:=10) hH (ai rfl rfl rfl cK) (ev rfl) (by exact aN) (by dsimp only[List.drop_succ_cons,List.drop_zero,List.take_succ_cons,List.take_zero,aT,cA,aY,ax,Pg.cs,eN,bE]<;>rfl) rfl rfl (ab rfl _) ?_;refine zQ 1 ?_;refine qv (oH t.c place) ?_ (hg:=wi cK);refine zQ 2 ?_;refine aa.nil (aJ ?_ ?_)
     ·dsimp only[aF,List.foldl,nth,u2,u1]
      all_goals(first|rfl|simp)
     ·refine zF ?_
      all_goals(simp[cK];done)
   refine zG ?_;refine qc (fun h4=>?_) (fun h4=>?_)<;>try simp only[cs] at h4
   ·rw[cq (fun h=>by
     have:=h j t (by omega) ht;rw[bK this.2] at h4;have h5:=(hM t.pc).2 this.1
     simp[h5] at h4)]
    refine zQ 4 ?_;refine ak.ret ⟨rx,_,rfl,rl aP hH (rfl)⟩
   ·refine zQ 5 ?_;refine aa.BL hH rfl rfl rfl rfl rfl rfl bV (fun st hH=>?_);dsimp only[u1,u2] at hH;refine zQ 5 ?_;refine⟨mm-1,by omega,⟨j+1,_,rfl,hH.drop 1,by omega,?_,?_⟩⟩
    ·intro n;rw[nS,As ht,←hM n]
     by_cases hn:n=t.pc<;>simp[hn]
    ·simp only[Bool.or_eq_false_iff,beq_eq_false_iff_ne,ne_eq,Bool.not_eq_false'] at h4;exact pk ht hw ((hM t.pc).1 h4.1) (@of_decide_eq_true _ (Classical.propDecidable _) h4.2)
  ·refine zQ 1 ?_;rw[show ct.length=j by omega,bK hw];refine zQ 4 ?_;refine ak.ret ⟨rx,_,rfl,rl aP hH (rfl)⟩
end Go.Proofs.YtecjacicdpejaaaGreat
