/-
 The program's reader: numbers up to a bound, flags, texts, the end; a reader is made.
-/
import Derived.Test.YthahmilhpmfkfaaGreatVHr
import Derived.Test.YthahmilhpmfkfaaGreatVGTh
import Derived.Test.YthahmilhpmfkfaaGreatVGEa
import Derived.Test.YthahmilhpmfkfaaGreatVGEj
import Derived.Test.YthahmilhpmfkfaaGreatVGCa
import Derived.Test.YthahmilhpmfkfaaGreatVGQa
import Derived.Test.YthahmilhpmfkfaaGreatVGEd
import Derived.Test.YthahmilhpmfkfaaGreatVGQe
import Derived.Test.YthahmilhpmfkfaaGreatRows
import Derived.Test.YthahmilhpmfkfaaGreatVM3
set_option maxRecDepth 100000
set_option maxHeartbeats 4000000
set_option linter.unusedSimpArgs false
set_option linter.unusedVariables false
namespace Go.Proofs.YthahmilhpmfkfaaGreat
open Go.V Go
theorem y4 {N k:Nat} {S s0:St} {H:List aZ} {x:D} {b:List UInt8} {s:gZ} (hbl:b.length≤1099511627776) (cn:s.at_≤b.length) (most:Int) (hH:Has N S s0 (.box k (.mem 0 false (kg x s))::.aB x 1 (V.byteCells b)::H)):
  ∃d ah,Ev pv 55 [.ptr k 0 0,.int .i64 most] s0 d ah∧d=.int .i64 (b7 b most s).1∧Has N S ah (.box k (.mem 0 false (kg x (b7 b most s).2))::.aB x 1 (V.byteCells b)::H):=by
 refine Ev.jN rfl SE rfl rfl rfl ?_;refine zE ?_;have bS:=hH;have hH:=hH.bG;have bO:(ag .rw s0).bs=s0.bs:=rfl;generalize ag .rw s0=S2 at*;refine zQ 15 ?_;obtain⟨_,st,aC,rfl,hH⟩:=Jf hbl cn hH;refine qv aC ?_;refine zQ 2 ?_;unfold b7;generalize iY b s=R at*;obtain⟨n,s1⟩:=R;dsimp only at hH⊢;refine zQ 2 ?_;refine ai.mC 22 (.bool (s1.e==0 &&decide (n>most))) [] ?_ (fun ff tmp fv=>?_)
 ·refine zQ 6 ?_;refine ae.two 18 rfl (fun dQ=>?_) (fun dQ=>?_)
  ·refine zQ 4 ?_;refine ae.nil (c_ ?_ ?_)
   ·dsimp only[bk,List.foldl,nth,u2,u1]
    all_goals(first|rfl|simp)
   ·refine zF ?_
    all_goals(simp[dQ];done)
  ·refine zQ 4 ?_;refine ae.nil (c_ ?_ ?_)
   ·dsimp only[bk,List.foldl,nth,u2,u1]
    all_goals(first|rfl|simp)
   ·refine zF ?_
    all_goals(simp[dQ];done)
 dsimp only[bk,List.foldl,nth,u2,u1];refine qc (fun hc=>?_) (fun hc=>?_)<;>try simp only[cs] at hc
 ·have hc:s1.e=0∧n>most:=by simpa using hc
  rw[if_pos hc];refine zQ 4 ?_;obtain⟨_,st,aC,rfl,hH⟩:=gV s.at_ 2 hH;refine qv aC ?_;refine zQ 2 ?_;refine ai.ret ⟨rx,_,_,_,rfl,ak (rfl),?_⟩;exact⟨rfl,bS.aq bO hH⟩
 ·have hc:¬(s1.e=0∧n>most):=by
   rintro⟨h1,h2⟩;rw[h1,decide_eq_true h2] at hc;simp at hc
  rw[if_neg hc];refine zQ 6 ?_;refine ai.ret ⟨rx,_,_,_,rfl,ak (rfl),?_⟩;exact⟨rfl,bS.aq bO hH⟩
theorem kN:∀(b:List UInt8),kO (b.map fun y=>D.int .u8 (y.toNat:Nat))=some b
 |[]=>rfl
 |c::b=>by
  simp only[List.map_cons,kO,kN b,Option.map_some,Option.some.injEq,List.cons.injEq,and_true];show UInt8.ofNat (((c.toNat:Nat):Int).toNat)=c;rw[Int.toNat_natCast];exact UInt8.ofNat_toNat
theorem D' {st:St} {x:D} {b:List UInt8} (hx:V.Rows st 1 x (V.byteCells b)):jF pv 33 9 x st=some (.str b,st):=by
 have hr:=hx.row
 have jc:(V.byteCells b).flatten=b.map fun y=>D.int .u8 (y.toNat:Nat):=by
  clear hx hr;unfold V.byteCells
  induction b with
  |nil=>rfl
  |cons c b ih=>rw[List.map_cons,List.flatten_cons,List.map_cons,List.singleton_append,ih]
 rw[jc,aI] at hr;have h1:pv.bZ 33=some (.slice 5):=rfl;have h2:pv.bZ 9=some .string:=rfl;have h3:pv.bZ 5=some (.int .u8):=rfl
 have h4:∀(x:D),(∀c,x≠.str c)→kT st x=some (b.length,b.map fun y=>D.int .u8 (y.toNat:Nat))→(match kT st x with
   |some (n,cs)=>match x with
    | .str _=>none
    |_=>if cs.length=n then(kO cs).map fun b=>(D.str b,st) else none
   |none=>none)=some (.str b,st):=fun x hs h=>by
  rw[h]
  cases x<;>first|(exact absurd rfl (hs _))|(simp only[List.length_map,if_true,kN,Option.map_some])
 generalize V.byteCells b=es at hx;have hs:∀c,x≠.str c:=by cases hx<;>intro c e<;>cases e
 have h5:=h4 x hs hr
 cases hx with
 |nul=>exact h5
 |sl es h=>exact h5
 |win k au off es ar c hm hl he=>
  simp only[jF,h1,h2,h3,hr,List.length_map,if_true,kN,Option.map_some]
theorem sU {N k:Nat} {S s0:St} {H:List aZ} {x:D} {b:List UInt8} {s:gZ} (hbl:b.length≤1099511627776) (cn:s.at_≤b.length) (most:Int) (hH:Has N S s0 (.box k (.mem 0 false (kg x s))::.aB x 1 (V.byteCells b)::H)):
  ∃d ah,Ev pv 31 [.ptr k 0 0,.int .i64 most] s0 d ah∧d=.str (eV b most s).1∧Has N S ah (.box k (.mem 0 false (kg x (eV b most s).2))::.aB x 1 (V.byteCells b)::H):=by
 obtain⟨o1,o2,o3,o4,o5⟩:=BT (b:=b) (s:=s) cn
 have hu:(b7 b most s).2.at_≤b.length∧0≤(b7 b most s).1∧(b7 b most s).1<9223372036854775808:=by
  unfold b7
  split
  ·exact⟨cn,by simp,by simp⟩
  ·exact⟨o1,o3,o4⟩
 have Lz:=aI b;refine Ev.jN rfl S3 rfl rfl rfl ?_;refine zE ?_;have bS:=hH;have hH:=hH.bG;have bO:(ag .rw s0).bs=s0.bs:=rfl;generalize ag .rw s0=S2 at*;refine zQ 16 ?_;obtain⟨_,st,aC,rfl,hH⟩:=y4 hbl cn most hH;refine qv aC ?_;refine zQ 2 ?_;unfold eV;generalize b7 b most s=R at*;obtain⟨n,s1⟩:=R;dsimp only at hH hu⊢;obtain⟨u1,u2,u3⟩:=hu
 obtain⟨m,rfl⟩:∃m:Nat,n=(m:Nat):=⟨n.toNat,by omega⟩
 refine zQ 9 ?_;refine ai.cond (by rfl) (fun he=>?_) (fun he=>?_)<;>try simp only[bne_iff_ne,bne_eq_false_iff_eq,ne_eq] at he
 ·rw[if_pos (by simpa using he)];refine zQ 4 ?_;refine ai.ret ⟨rx,_,_,_,rfl,ak (rfl),?_⟩;exact⟨rfl,bS.aq bO hH⟩
 rw[if_neg (by simpa using he)];refine zQ 8 ?_;refine qn ?_ (hR:=hH.rows aV);refine zQ 4 ?_;refine ae.mQ (z:=(((b.length:Nat):Int)-(s1.at_:Nat))) rfl (ev rfl) (ev rfl) (by(try simp only[List.length_reverse,List.length_cons,List.length_nil,List.length_append,List.length_map,List.length_set]);rw[wrap_i64 (by omega) (by omega)]<;>omega) (aa rfl _) ?_;refine zQ 3 ?_;refine zP (fun hlt=>?_) fun hlt=>?_
 ·rw[if_pos (by omega)];refine zQ 4 ?_;obtain⟨_,st,aC,rfl,hH⟩:=gV s.at_ 3 hH;refine qv aC ?_;refine zQ 5 ?_;refine ai.ret ⟨rx,_,_,_,rfl,ak (rfl),?_⟩;exact⟨rfl,bS.aq bO hH⟩
 rw[if_neg (by omega)];refine zQ 1 ?_
 have qM:∀{st:St} {e:aZ} {H:List aZ},Has N S2 st (e::.aB x 1 (V.byteCells b)::H)→V.Rows st 1 (qz x s1.at_ (s1.at_+m)) (V.byteCells ((b.drop s1.at_).take m)):=fun h=>by
  have:=ye h (l:=s1.at_) (r:=s1.at_+m) (by omega)
  rwa [List.drop_take,Nat.add_sub_cancel_left] at this
 have hcv:=D' (qM hH);refine zQ 15 ?_;refine ae.eN (z:=((s1.at_+m:Nat):Int)) rfl (ev rfl) (ev rfl) (by(try simp only[List.length_reverse,List.length_cons,List.length_nil,List.length_append,List.length_map,List.length_set]);rw[wrap_i64 (by omega) (by omega)]<;>omega) (aa rfl _) ?_;refine ae.prt rfl (ev rfl) (hH.rows aV) rfl rfl (qd (m:=s1.at_) (n:=s1.at_+m) (by rw[aI];omega)) ⟨by omega,by rw[aI];omega⟩ (aa rfl _) ?_;refine ae.go (d:=.str ((b.drop s1.at_).take m)) (st1:=_) rfl rfl (by exact hcv) (aa rfl _) ?_;refine zQ 9 ?_;refine ae.eN (z:=((s1.at_+m:Nat):Int)) rfl (ev rfl) (ev rfl) (by(try simp only[List.length_reverse,List.length_cons,List.length_nil,List.length_append,List.length_map,List.length_set]);rw[wrap_i64 (by omega) (by omega)]<;>omega) (aa rfl _) ?_;refine zQ 2 ?_;refine qT hH aG fun st hH=>?_;dsimp only[u2,u1,u3,u4,setMany,u5,u6,D.cells,Nat.reduceAdd,kg] at hH;refine zQ 6 ?_;refine ai.ret ⟨rx,_,_,_,rfl,ak (rfl),?_⟩;have he:s1.e=0:=by simpa using he
 rw[he] at hH;exact⟨rfl,bS.aq bO hH⟩
theorem Jg {N k:Nat} {S s0:St} {H:List aZ} {x:D} {b:List UInt8} {s:gZ} (hbl:b.length≤1099511627776) (hH:Has N S s0 (.box k (.mem 0 false (kg x s))::.aB x 1 (V.byteCells b)::H)):
  ∃d ah,Ev pv 10 [.ptr k 0 0] s0 d ah∧d=.int .i64 (GY b s).e∧Has N S ah (.box k (.mem 0 false (kg x (GY b s)))::.aB x 1 (V.byteCells b)::H):=by
 have Lz:=aI b;refine Ev.jN rfl Ti rfl rfl rfl ?_;refine zE ?_;have bS:=hH;have hH:=hH.bG;have bO:(ag .rw s0).bs=s0.bs:=rfl;generalize ag .rw s0=S2 at*;refine zQ 4 ?_;unfold GY
 by_cases he:s.e=0
 ·have dQ:(s.e==0)=true:=by simpa using he
  refine zQ 17 ?_;refine qn ?_ (hR:=hH.rows aV) (hg:=wi dQ);refine zQ 3 ?_;rw[Lz];refine zP (fun hc=>?_) fun hc=>?_
  ·rw[if_pos ⟨he,by omega⟩];refine zQ 4 ?_;refine qT hH aG fun st hH=>?_;dsimp only[u2,u1,u3,u4,setMany,u5,u6,D.cells,Nat.reduceAdd,kg] at hH;refine zQ 9 ?_;refine ai.ret ⟨rx,_,_,_,rfl,ak (rfl),?_⟩;exact⟨rfl,bS.aq bO hH⟩
  ·rw[if_neg (by omega)];refine zQ 9 ?_;refine ai.ret ⟨rx,_,_,_,rfl,ak (rfl),?_⟩;exact⟨rfl,bS.aq bO hH⟩
 ·have dQ:(s.e==0)=false:=by simpa using he
  rw[if_neg (fun h=>he h.1)];refine zQ 31 ?_;refine ai.ret ⟨rx,_,_,_,rfl,ak (rfl),?_⟩;exact⟨rfl,bS.aq bO hH⟩
theorem GM {s0:St} {x:D} {b:List UInt8} (hF:s0.flr≤s0.bs.length) (eG:s0.ro≤s0.bs.length) (hx:V.Rows s0 1 x (V.byteCells b)) (hl:b.length≤68719476736):
  ∃d ah,Ev pv 7 [x] s0 d ah∧∃k y,d=.ptr k 0 0∧Has s0.bs.length s0 ah [.box k (.mem 0 false (kg y ⟨0,0⟩)),.aB y 1 (V.byteCells b)]:=by
 have Lz:=aI b;refine Ev.jN rfl XM rfl rfl rfl ?_;refine zE ?_;have aU:(ag .nw s0).bs=s0.bs:=rfl;have hF:(ag .nw s0).flr≤s0.bs.length:=hF;have hH:Has s0.bs.length (ag .nw s0) (ag .nw s0) []:=Has.start (Nat.le_refl _) (Nat.le_refl _);generalize ag .nw s0=S at*;have hx:=Arg.of hx aU;refine zQ 4 ?_;have hH:=hH.eC 1;refine zQ 3 ?_;refine ae.n9 (s:=1) hH rfl (ev rfl) (ev rfl) (by exact aG) (by exact Arg.rows (by assumption) hH) rfl rfl rfl rfl rfl rfl rfl ⟨(Nat.le_of_ble_eq_true rfl),(Nat.le_of_ble_eq_true rfl)⟩ (fun _=>(aa rfl _)) rfl (by simp only[List.length_nil]<;>omega) (by exact .inl hF) (fun x4 st hH=>?_);dsimp only[u2,u1,u3,u4,setMany,u5,u6,D.cells,Nat.reduceAdd,kg] at hH;refine ae.iC (qs:=[(0,_)]) rfl rfl rfl rfl ⟨rfl,(ev rfl),(by exact hH.gN (by exact aG)),trivial⟩ (by intro q hq;simp only[List.mem_cons,List.not_mem_nil,or_false] at hq;rcases hq with rfl<;>exact⟨rfl,by exact Nat.le_of_ble_eq_true rfl⟩) (by show List.foldl _ [_,_,_] _=_;dsimp only[List.foldl_cons,List.foldl_nil,u2,u1]<;>rfl) (aa rfl _) ?_;refine qb hH fun k6 st J' hH=>?_;refine zQ 2 ?_;refine ai.ret ⟨rx,_,_,_,rfl,rfl,?_⟩;exact⟨_,_,rfl,(hH.take 2).wA aU eG⟩
def fe (fr:Go.V.Fr) (k:Nat):Go.V.D:=Go.V.nth .bf fr.loc k
def iB (b:List UInt8) (s:gZ):iv×gZ:=(⟨(eV b 32 s).1,(eV b 120 (eV b 32 s).2).1⟩,(eV b 120 (eV b 32 s).2).2)
def iW (b:List UInt8) (s:gZ):List iv×gZ:=dW (iB b) (gp b 8 s).1.toNat (gp b 8 s).2
def xF (b:List UInt8) (s:gZ):(List iv×List UInt8)×gZ:=(((iW b s).1,(eV b 120 (iW b s).2).1),(eV b 120 (iW b s).2).2)
theorem BO {b:List UInt8} {s:gZ} (h:s.at_≤b.length):(iB b s).2.at_≤b.length:=(rH (rH h).1).1
theorem Fq {b:List UInt8} {s:gZ} (h:s.at_≤b.length):(iW b s).2.at_≤b.length:=uU (fun _ h=>BO h) _ _ (uT h).1
theorem CX {b:List UInt8} {m:Int} {s:gZ} (h:s.e≠0):(eV b m s).2.e≠0:=by
 have h1:iY b s=(0,s):=by unfold iY;rw[if_pos h]
 have h2:(b7 b m s).2.e≠0:=by
  unfold b7;rw[h1]
  split
  ·rename_i hc;exact absurd hc.1 h
  ·exact h
 unfold eV;rw[if_pos h2];exact h2
theorem Je {N k:Nat} {S s0:St} {H:List aZ} {x:D} {b:List UInt8} {s:gZ} (hbl:b.length≤1099511627776) (cn:s.at_≤b.length) (hH:Has N S s0 (.box k (.mem 0 false (kg x s))::.aB x 1 (V.byteCells b)::H)):
  ∃d ah,Ev pv 30 [.ptr k 0 0] s0 d ah∧d=.agg (aY (iB b s).1)∧Has N S ah (.box k (.mem 0 false (kg x (iB b s).2))::.aB x 1 (V.byteCells b)::H):=by
 refine Ev.jN rfl S4 rfl rfl rfl ?_;refine zE ?_;have bS:=hH;have hH:=hH.bG;have bO:(ag .rw s0).bs=s0.bs:=rfl;generalize ag .rw s0=S2 at*;refine zQ 2 ?_;refine qa hH fun k2 st hk2 hH=>?_;dsimp only[u2,u1,u3,u4,setMany,u5,u6,D.cells,Nat.reduceAdd,kg] at hH;refine zQ 3 ?_;refine qa hH fun k3 st DQ hH=>?_;refine zQ 1 ?_;have hH:Has N S2 st (.box k (.mem 0 false (kg x s))::.aB x 1 (V.byteCells b)::.box k3 (.mem 0 false (aY ⟨[],[]⟩))::.box k2 (.mem 0 false (aY ⟨[],[]⟩))::H):=Has.E_ [_,_] [_,_] hH;refine zQ 3 ?_;obtain⟨_,st,aC,rfl,hH⟩:=sU hbl cn 32 hH;refine qv aC ?_;refine zQ 1 ?_;refine ae.kE hH rfl (ev rfl) (ev rfl) rfl (by exact rfl) bE (by exact Nat.le_of_ble_eq_true rfl) (.inr rfl) (fun st hH=>?_);dsimp only[u1,u2] at hH;refine zQ 1 ?_;have hH:Has N S2 st (.box k (.mem 0 false (kg x (eV b 32 s).2))::.aB x 1 (V.byteCells b)::.box k3 (.mem 0 false (aY ⟨(eV b 32 s).1,[]⟩))::.box k2 (.mem 0 false (aY ⟨[],[]⟩))::H):=hH;have yP:=(rH (b:=b) (m:=32) cn).1;refine zQ 3 ?_;obtain⟨_,st,aC,rfl,hH⟩:=sU hbl yP 120 hH;refine qv aC ?_;refine zQ 1 ?_;refine ae.kE hH rfl (ev rfl) (ev rfl) rfl (by exact rfl) bE (by exact Nat.le_of_ble_eq_true rfl) (.inr rfl) (fun st hH=>?_);dsimp only[u1,u2] at hH;refine zQ 1 ?_;have hH:Has N S2 st (.box k (.mem 0 false (kg x (iB b s).2))::.aB x 1 (V.byteCells b)::.box k3 (.mem 0 false (aY (iB b s).1))::.box k2 (.mem 0 false (aY ⟨[],[]⟩))::H):=hH;generalize(iB b s).1=t at*;refine zQ 2 ?_;refine ae.aN (m:=2) (r:=aY t) hH rfl (ev rfl) bE rfl rfl rfl (aa rfl _) ?_;refine ae.bC hH rfl (ev rfl) (ev rfl) rfl (by exact rfl) cD (by exact rfl) (.inr rfl) (fun st hH=>?_);dsimp only[u1,u2] at hH;refine zQ 1 ?_;refine ai.ret ⟨rx,_,_,_,hH.ck rfl cD rfl,ak (show aJ st s0.bs.length false 16 (.agg (aY t))=some (.agg (aY t)) from rfl),?_⟩;exact⟨rfl,bS.aq bO ((hH.erase 2).erase 2)⟩
theorem GN {N k:Nat} {S s0:St} {H:List aZ} {x:D} {b:List UInt8} {s:gZ} (hbl:b.length≤1099511627776) (cn:s.at_≤b.length) (hH:Has N S s0 (.box k (.mem 0 false (kg x s))::.aB x 1 (V.byteCells b)::H)):
  ∃d ah,Ev pv 29 [.ptr k 0 0,.int .i64 8,.fn 30 []] s0 d ah∧(∃L:List iv,d=tL L∧L.length≤8∧True∧((iW b s).2.e=0→L=(iW b s).1))∧Has N S ah (.box k (.mem 0 false (kg x (iW b s).2))::.aB x 1 (V.byteCells b)::H):=by
 have Lz:=aI b;obtain⟨u1,u2,u3,u4⟩:=rD (m:=8) cn;obtain⟨i1,i2,i3,i4⟩:=uT (m:=8) cn;have HI:gp b 8 s=if(b7 b 8 s).2.e=0∧(b7 b 8 s).1>(b.length:Int)-(b7 b 8 s).2.at_ then((b7 b 8 s).1,⟨s.at_,3⟩) else b7 b 8 s:=rfl;unfold iW;refine Ev.jN rfl S5 rfl rfl rfl ?_;refine zE ?_;have bS:=hH;have hH:=hH.bG;have bO:(ag .rw s0).bs=s0.bs:=rfl;generalize ag .rw s0=S2 at*;refine zQ 16 ?_;obtain⟨_,st,aC,rfl,hH⟩:=y4 hbl cn 8 hH;refine qv aC ?_;refine zQ 2 ?_;generalize b7 b 8 s=R at*;obtain⟨n,s1⟩:=R;dsimp only at u1 u2 u3 u4 HI hH⊢;refine zQ 2 ?_;refine ai.oU (fun fr st=>∃(tmp:List (Nat×D)),fr=⟨11,[.ptr k 0 0,fe fr 1,.fn 30 [],fe fr 3,fe fr 4,fe fr 5,fe fr 6,fe fr 7,.int .i64 (gp b 8 s).1,fe fr 9,fe fr 10],tmp⟩∧Has N S2 st (.box k (.mem 0 false (kg x (gp b 8 s).2))::.aB x 1 (V.byteCells b)::H)∧(True)) ?_ ?_
 ·by_cases he:s1.e=0
  ·have dQ:(s1.e==0)=true:=by simpa using he
   refine zQ 12 ?_;refine qn ?_ (hR:=hH.rows aV) (hg:=wi dQ);refine zQ 4 ?_;refine ae.mQ (z:=(((b.length:Nat):Int)-(s1.at_:Nat))) (aj rfl rfl rfl dQ) (ev rfl) (ev rfl) (by(try simp only[List.length_reverse,List.length_cons,List.length_nil,List.length_append,List.length_map,List.length_set]);rw[wrap_i64 (by omega) (by omega)]<;>omega) (aa rfl _) ?_;refine zQ 3 ?_
   by_cases hlt:n>(b.length:Int)-s1.at_
   ·rw[if_pos ⟨he,hlt⟩] at HI;rw[HI];have hc:decide (n>(b.length:Int)-s1.at_)=true:=by rw[decide_eq_true_eq];exact hlt
    refine qD rfl (by rw[hc]) ?_;refine zQ 3 ?_;obtain⟨_,st,aC,rfl,hH⟩:=gV s.at_ 3 hH;refine qv aC ?_;refine zQ 1 ?_;exact⟨_,rfl,hH,trivial⟩
   ·rw[if_neg (fun h=>hlt h.2)] at HI;rw[HI];have hc:decide (n>(b.length:Int)-s1.at_)=false:=by rw[decide_eq_false_iff_not];exact hlt
    refine qE rfl (by rw[hc]) ?_;refine zQ 1 ?_;exact⟨_,rfl,hH,trivial⟩
  ·rw[if_neg (fun h=>he h.1)] at HI;rw[HI];have dQ:(s1.e==0)=false:=by simpa using he
   refine zQ 23 ?_;exact⟨_,rfl,hH,trivial⟩
 rintro fr st ⟨tmp,hfr,hH,ht⟩;rw[hfr];clear hfr;generalize fe fr=ee;clear fr;clear HI u1 u2 u3 u4;generalize gp b 8 s=R at*;obtain⟨n,s2⟩:=R;dsimp only at i1 i2 i3 i4 hH⊢
 obtain⟨m,rfl⟩:∃m:Nat,n=(m:Nat):=⟨n.toNat,by omega⟩
 rw[Int.toNat_natCast];refine zQ 9 ?_;have hH:Has N S2 st (.box k (.mem 0 false (kg x s2))::.aB x 1 (V.byteCells b)::.aB .nul 2 (([]:List iv).map aY)::H):=Has.E_ [_] [_,_] (hH.eC 2);refine zQ 1 ?_;refine ai.loop (fun mm fr st=>∃(i:Nat) (sr:gZ) (od:D) (acc:List iv),fr.clean=⟨11,[.ptr k 0 0,fe fr 1,.fn 30 [],fe fr 3,fe fr 4,fe fr 5,fe fr 6,fe fr 7,.int .i64 (m:Nat),od,.int .i64 (i:Nat)],[]⟩∧Has N S2 st (.box k (.mem 0 false (kg x sr))::.aB x 1 (V.byteCells b)::.aB od 2 (acc.map aY)::H)∧(i+mm=m)∧(acc.length=i)∧(sr.at_≤b.length)∧(sr.e=0→s2.e=0)∧(∀k,od.ref=k+1→S2.bs.length≤k)∧((dW (iB b) m s2).2=(dW (iB b) mm sr).2)∧((dW (iB b) mm sr).2.e=0→(dW (iB b) m s2).1=acc++(dW (iB b) mm sr).1)∧(acc.length≤8)∧(True)) (m) ?_ ?_
 ·exact⟨0,s2,.nul,[],rfl,hH,by omega,rfl,i1,fun h=>h,fun k hk=>by simp only[D.ref] at hk;omega,rfl,fun _=>rfl,by simp,trivial⟩
 rintro mm fr st ⟨i,sr,od,acc,hfr,hH,hi,hal,O_,wH,gS,Pw,Oo,hab,IQ⟩;rw[hfr];clear hfr;generalize fe fr=ee;clear fr;refine zQ 2 ?_;refine ai.mC 49 (.bool (decide (((i:Nat):Int)<(m:Nat)) &&(sr.e==0))) [] ?_ (fun ff tmp fv=>?_)
 ·refine zQ 4 ?_;refine ae.two 43 rfl (fun dM=>?_) (fun dM=>?_)
  ·refine zQ 6 ?_;refine ae.nil (c_ ?_ ?_)
   ·dsimp only[bk,List.foldl,nth,u2,u1]
    all_goals(first|rfl|simp)
   ·refine zF ?_
    all_goals(simp_all;done)
  ·refine zQ 6 ?_;refine ae.nil (c_ ?_ ?_)
   ·dsimp only[bk,List.foldl,nth,u2,u1]
    all_goals(first|rfl|simp)
   ·refine zF ?_
    all_goals(simp_all;omega)
 refine zG ?_;refine qc (fun hc=>?_) (fun hc=>?_)<;>try simp only[cs] at hc
 ·have hc:i<m∧sr.e=0:=by
   rw[Bool.and_eq_true,decide_eq_true_eq] at hc;exact⟨by omega,by simpa using hc.2⟩
  obtain⟨hlt,he⟩:=hc
  obtain⟨mm,rfl⟩:∃q,mm=q+1:=⟨mm-1,by omega⟩
  have Q5:=i4 (wH he)
  have n3:dW (iB b) (mm+1) sr=((iB b sr).1::(dW (iB b) mm (iB b sr).2).1,(dW (iB b) mm (iB b sr).2).2):=by
   conv=>lhs;unfold dW
   rw[if_neg (by simpa using he)]
  rw[n3] at Oo Pw;have yP:(iB b sr).2.at_≤b.length:=BO O_;refine zQ 7 ?_;obtain⟨_,st,aC,rfl,hH⟩:=Je hbl O_ hH;refine qv aC ?_;refine qh (s:=2) (vs:=[_]) hH fun k56 st WH hH=>?_;dsimp only[u2,u1,u3,u4,setMany,u5,u6,D.cells,Nat.reduceAdd,kg] at hH;refine ae.cJ (s:=2) hH rfl (ev rfl) (ev rfl) cD (hH.rows aG) rfl rfl rfl rfl rfl rfl rfl ⟨(Nat.le_of_ble_eq_true rfl),(Nat.le_of_ble_eq_true rfl)⟩ (fun _=>(aa rfl _)) (by simp only[List.length_map,List.length_cons,List.length_nil];omega) (.inr rfl) gS (fun UM st gS hH=>?_);dsimp only[u1,u2] at hH;refine zQ 2 ?_;have hH:=hH.drop 1;refine zQ 5 ?_;refine⟨mm,by omega,⟨i+1,(iB b sr).2,UM,acc++[(iB b sr).1],rfl,(by rw[List.map_append];exact hH),by omega,(by rw[List.length_append];simp only[List.length_cons,List.length_nil];omega),yP,fun _=>wH he,gS,Pw,?_,(by rw[List.length_append];simp only[List.length_cons,List.length_nil];omega),trivial⟩⟩;intro h0;rw[Oo h0];rw[List.append_assoc];rfl
 ·refine zQ 1 ?_
  have DS:dW (iB b) mm sr=([],sr):=by
   by_cases he:sr.e=0
   ·have:mm=0:=by
     rcases Nat.eq_zero_or_pos mm with h|h
     ·exact h
     ·exfalso
      have h1:decide (((i:Nat):Int)<(m:Nat))=true:=by rw[decide_eq_true_eq];omega
      rw[h1,he] at hc;simp at hc
    rw[this];rfl
   ·exact AK _ he mm
  rw[DS] at Oo Pw;simp only[List.append_nil] at Oo;rw[Pw];refine zQ 9 ?_;refine ai.cond (by rfl) (fun hne=>?_) (fun hne=>?_)<;>try simp only[bne_iff_ne,bne_eq_false_iff_eq,ne_eq] at hne
  ·refine zQ 4 ?_;refine ai.ret ⟨rx,_,_,_,rfl,ak (rfl),?_⟩;exact⟨⟨[],rfl,by simp,trivial,fun h=>absurd h (by simpa using hne)⟩,bS.aq bO (hH.erase 2)⟩
  ·refine zQ 6 ?_;have htl:=Fs acc;have hfz:=hH.rp (L:=s0.bs.length) (n:=16) bE (fun k hk=>by rw[←bO];exact gS k hk) htl.1 (by decide);rw[htl.2] at hfz;refine ai.ret ⟨rx,_,_,_,rfl,ak hfz,?_⟩;exact⟨⟨acc,rfl,hab,IQ,fun h=>(Oo h).symm⟩,bS.aq bO (hH.erase 2)⟩
theorem Jd {N k:Nat} {S s0:St} {H:List aZ} {x:D} {b:List UInt8} {s:gZ} (hbl:b.length≤1099511627776) (cn:s.at_≤b.length) (hH:Has N S s0 (.box k (.mem 0 false (kg x s))::.aB x 1 (V.byteCells b)::H)):
  ∃d ah,Ev pv 9 [.ptr k 0 0] s0 d ah∧(∃(l:List iv) (c:List UInt8),d=.agg [tL l,.str c]∧l.length≤8∧((xF b s).2.e=0→(l,c)=(xF b s).1))∧Has N S ah (.box k (.mem 0 false (kg x (xF b s).2))::.aB x 1 (V.byteCells b)::H):=by
 refine Ev.jN rfl XK rfl rfl rfl ?_;refine zE ?_;have bS:=hH;have hH:=hH.bG;have bO:(ag .rw s0).bs=s0.bs:=rfl;generalize ag .rw s0=S2 at*;refine zQ 2 ?_;refine qa hH fun k2 st hk2 hH=>?_;dsimp only[u2,u1,u3,u4,setMany,u5,u6,D.cells,Nat.reduceAdd,kg] at hH;refine zQ 3 ?_;refine qa hH fun k3 st DQ hH=>?_;refine zQ 1 ?_;have hH:Has N S2 st (.box k (.mem 0 false (kg x s))::.aB x 1 (V.byteCells b)::.box k3 (.mem 0 false [.nul,.str []])::.box k2 (.mem 0 false [.nul,.str []])::H):=Has.E_ [_,_] [_,_] hH;refine zQ 3 ?_;obtain⟨_,st,aC,⟨l,rfl,nc,_,Wq⟩,hH⟩:=GN hbl cn hH;refine qv aC ?_;refine zQ 1 ?_;refine ae.kE hH rfl (ev rfl) (ev rfl) rfl (by exact rfl) bE (by exact Nat.le_of_ble_eq_true rfl) (.inr rfl) (fun st hH=>?_);dsimp only[u1,u2] at hH;refine zQ 1 ?_;have hH:Has N S2 st (.box k (.mem 0 false (kg x (iW b s).2))::.aB x 1 (V.byteCells b)::.box k3 (.mem 0 false [tL l,.str []])::.box k2 (.mem 0 false [.nul,.str []])::H):=hH;have yP:=Fq (b:=b) cn;refine zQ 3 ?_;obtain⟨_,st,aC,rfl,hH⟩:=sU hbl yP 120 hH;refine qv aC ?_;refine zQ 1 ?_;refine ae.kE hH rfl (ev rfl) (ev rfl) rfl (by exact rfl) bE (by exact Nat.le_of_ble_eq_true rfl) (.inr rfl) (fun st hH=>?_);dsimp only[u1,u2] at hH;refine zQ 1 ?_;have hH:Has N S2 st (.box k (.mem 0 false (kg x (xF b s).2))::.aB x 1 (V.byteCells b)::.box k3 (.mem 0 false [tL l,.str (eV b 120 (iW b s).2).1])::.box k2 (.mem 0 false [.nul,.str []])::H):=hH
 have hq:(xF b s).2.e=0→(l,(eV b 120 (iW b s).2).1)=(xF b s).1:=fun h=>by
  have h1:(iW b s).2.e=0:=by
   rcases Classical.em ((iW b s).2.e=0) with h1|h1
   ·exact h1
   ·exact absurd h (CX h1)
  rw[Wq h1];rfl
 generalize(eV b 120 (iW b s).2).1=c at*;refine zQ 2 ?_;refine ae.aN (m:=2) (r:=[tL l,.str c]) hH rfl (ev rfl) bE rfl rfl rfl (aa rfl _) ?_;refine ae.bC hH rfl (ev rfl) (ev rfl) rfl (by exact rfl) cD (by exact rfl) (.inr rfl) (fun st hH=>?_);dsimp only[u1,u2] at hH;refine zQ 1 ?_;refine ai.ret ⟨rx,_,_,_,hH.ck rfl cD rfl,ak (show aJ st s0.bs.length false 16 (.agg [tL l,.str c])=some (.agg [tL l,.str c]) from rfl),?_⟩;exact⟨⟨l,c,rfl,nc,hq⟩,bS.aq bO ((hH.erase 2).erase 2)⟩
def oZ (fr:Go.V.Fr) (k:Nat):Go.V.D:=Go.V.nth .bf fr.loc k
theorem EP {s0:St} {x d:D} {b:List UInt8} (hx:V.Rows s0 1 x [[d]]) (hd:V.Rows s0 1 d (V.byteCells b)) (hl:b.length≤1000000000000):Ev pv 33 [x] s0 (oz (te 0#32 b)) s0:=by
 refine Ev.iZ rfl S0 rfl rfl rfl ?_;refine zE ?_;obtain⟨aU,hF,hH⟩:=ri s0;generalize ag .ro s0=S at*;have hx:=Arg.of hx aU;have hd:=Arg.of hd aU;refine zQ 12 ?_;refine qn ?_;simp only[List.length_cons,List.length_nil];refine zQ 3 ?_;refine ai.loop (fun mm fr st=>∃(i:Nat) (c:BitVec 32),fr.clean=⟨9,[oZ fr 0,oZ fr 1,oZ fr 2,oz c,oZ fr 4,oZ fr 5,x,.int .i64 1,.int .i64 (i:Nat)],[]⟩∧Has s0.bs.length S st []∧(i+mm=1)∧(c=if i=0 then 0#32 else te 0#32 b)) (1) ?_ ?_
 ·exact⟨0,0#32,rfl,hH,by omega,rfl⟩
 rintro mm fr st ⟨i,c,hfr,hH,hi,hc⟩;rw[hfr];clear hfr;generalize oZ fr=ee;clear fr;refine zQ 5 ?_;refine zP (fun hlt=>?_) fun hlt=>?_
 ·refine zQ 1 ?_;have hi0:i=0:=by omega
  subst hi0;have gr:([[d]]:List (List D))[0]?=some [d]:=rfl;refine zQ 4 ?_;refine qr fun TX NC=>?_;refine zQ 3 ?_;have hc:c=0#32:=hc;subst hc;refine zQ 3 ?_;refine qv (JU (hd.rows hH) hl _) ?_;refine zQ 6 ?_;exact⟨0,by omega,⟨1,te 0#32 b,rfl,hH,by omega,rfl⟩⟩
 ·refine zQ 1 ?_;rw[if_neg (by omega)] at hc;subst hc;refine zQ 5 ?_;refine ai.ret ⟨rx,_,rfl,rl aU hH (rfl)⟩
def Ke (u v:BitVec 32):Int:=(((u.toNat*65536)|||(v &&&65535#32).toNat:Nat):Int)
theorem EG (u:BitVec 32) (st:St):jF pv 76 3 (oz u) st=some (.int .i64 (u.toNat:Nat),st):=by
 show some (D.int .i64 (aW .i64 (u.toNat:Nat)),st)=_;rw[bH (by simp only[gv];have:=u.isLt;omega)]
theorem E0 (u:BitVec 32) (st:St):(gW pv .shl 3 (.int .i64 (u.toNat:Nat)) (.int .u64 16)).map (fun d=>(d,st))=some (.int .i64 ((u.toNat*65536:Nat):Int),st):=by
 show Option.map _ (some (D.int .i64 (aW .i64 ((u.toNat:Nat)*2^16))))=_;rw[show((u.toNat:Nat):Int)*2^16=((u.toNat*65536:Nat):Int) by omega,bH (by simp only[gv];have:=u.isLt;omega)];rfl
theorem MS (a b:Nat) (ha:a<2^48) (hb:b<2^48) (st:St):(gW pv .or 3 (.int .i64 (a:Nat)) (.int .i64 (b:Nat))).map (fun d=>(d,st))=some (.int .i64 ((a|||b:Nat):Int),st):=by
 show Option.map _ (some (D.int .i64 (aW .i64 ((BitVec.ofInt 64 (a:Nat)|||BitVec.ofInt 64 (b:Nat)).toNat:Nat))))=_;have hlt:=Nat.or_lt_two_pow ha hb;rw[BitVec.ofInt_natCast,BitVec.ofInt_natCast,BitVec.toNat_or,BitVec.toNat_ofNat,BitVec.toNat_ofNat,Nat.mod_eq_of_lt (by omega),Nat.mod_eq_of_lt (by omega),bH (by simp only[gv];omega)];rfl
theorem I' (u v:BitVec 32) (st:St):(gW pv .or 3 (.int .i64 ((u.toNat*65536:Nat):Int)) (.int .i64 ((v &&&65535#32).toNat:Nat))).map (fun d=>(d,st))=some (.int .i64 (Ke u v),st):=
 MS _ _ (by have:=u.isLt;omega) (by have:=(v &&&65535#32).isLt;omega) st
theorem yF {b post:List UInt8} {m:Int} {s:gZ} (h:s.e=0) {n:Nat} (hn:(n:Int)≤m) (hm:m<1000000) (hp:n≤post.length) (hd:b.drop s.at_=ga (n:Nat)++post):gp b m s=(((n:Nat):Int),⟨s.at_+(ga (n:Nat)).length,0⟩):=by
 have hr:=su h (n:=(n:Nat)) (by omega) hd
 have hu:b7 b m s=((((n:Nat):Int),⟨s.at_+(ga (n:Nat)).length,0⟩):Int×gZ):=by
  unfold b7;rw[hr,if_neg (by simp;omega)]
 have hle:s.at_+(ga (n:Nat)).length+n≤b.length:=by
  have h3:=congrArg List.length hd;rw[List.length_drop,List.length_append] at h3;have h4:=nP (n:Nat);omega
 unfold gp;rw[hu,if_neg (by simp;omega)]
theorem Dh {b post:List UInt8} {s:gZ} (h:s.e=0) {p:iv} (h1:p.nm.length≤32) (h2:p.tx.length≤120) (hd:b.drop s.at_=ft p++post):iB b s=(p,⟨s.at_+(ft p).length,0⟩):=by
 unfold ft at hd;rw[List.append_assoc] at hd;have e1:=mP (m:=32) h (t:=p.nm) (by omega) (by decide) hd;have qN:=lM hd;have e2:=mP (m:=120) (s:=⟨s.at_+(gg p.nm).length,0⟩) rfl (t:=p.tx) (by omega) (by decide) qN;unfold iB;rw[e1];simp only;rw[e2];unfold ft;rw[List.length_append,Nat.add_assoc]
theorem rV {b:List UInt8}:∀(l:List iv) (post:List UInt8) (s:gZ),s.e=0→(∀p∈l,p.nm.length≤32∧p.tx.length≤120)→b.drop s.at_=(l.map ft).flatten++post→dW (iB b) l.length s=(l,⟨s.at_+(l.map ft).flatten.length,0⟩)
 |[],post,⟨a,e⟩,h,_,_=>by simp only at h;subst h;rfl
 |p::l,post,s,h,hp,hd=>by
  rw[List.map_cons,List.flatten_cons,List.append_assoc] at hd;obtain⟨h1,h2⟩:=hp p (List.mem_cons_self ..);have e1:=Dh h h1 h2 hd;have qN:=lM hd;have e2:=rV l post ⟨s.at_+(ft p).length,0⟩ rfl (fun q hq=>hp q (List.mem_cons_of_mem _ hq)) qN;simp only[List.length_cons,dW];rw[if_neg (by simpa using h),e1];simp only;rw[e2,List.map_cons,List.flatten_cons,List.length_append,Nat.add_assoc]
theorem De (l:List iv):l.length≤(l.map ft).flatten.length:=by
 induction l with
 |nil=>exact Nat.le_refl _
 |cons p l ih=>
  rw[List.map_cons,List.flatten_cons,List.length_append,List.length_cons]
  have:1≤(ft p).length:=by
   unfold ft gg;have:=nP (p.nm.length:Nat);simp only[List.length_append];omega
  omega
def JM (l:List iv) (c:List UInt8):Prop:=l.length≤8∧(∀p∈l,p.nm.length≤32∧p.tx.length≤120)∧c.length≤120
theorem C5 {l:List iv} {c:List UInt8} (h:JM l c):xF (iN l c) ⟨0,0⟩=((l,c),⟨(iN l c).length,0⟩):=by
 obtain⟨h1,h2,h3⟩:=h;have hd:(iN l c).drop 0=ga (l.length:Nat)++((l.map ft).flatten++gg c):=rfl;have hroom:=De l;have e1:=yF (b:=iN l c) (m:=8) (s:=⟨0,0⟩) rfl (n:=l.length) (by omega) (by decide) (by rw[List.length_append];omega) hd;have qN:=lM hd;rw[Nat.zero_add] at e1 qN;have e2:=rV l (gg c) ⟨(ga (l.length:Nat)).length,0⟩ rfl h2 qN;have Xi:=lM qN;have e3:=mP (b:=iN l c) (m:=120) (s:=⟨(ga (l.length:Nat)).length+(l.map ft).flatten.length,0⟩) (post:=[]) rfl (t:=c) (by omega) (by decide) (by rw[List.append_nil];exact Xi);unfold xF iW;rw[e1];simp only[Int.toNat_natCast];rw[e2];simp only;rw[e3];unfold iN;simp only[List.length_append,Nat.add_assoc]
theorem Ao {s:List UInt8} (h:nS s=true):s.length≤32:=by
 unfold nS at h;simp only[Bool.and_eq_true,decide_eq_true_eq] at h;exact h.1.2
theorem pM {b:List UInt8} (h:(bK b).2.1=0):b.length≤120:=by
 unfold bK at h
 by_cases hl:120<b.length
 ·rw[if_pos hl] at h;cases h
 ·omega
theorem mJ:∀(l:List iv) (i:Nat) (T:List iJ) (out:List (List bp)) (r:List iJ×List (List bp)),cF l i T out=.ok r→∀p∈l,p.nm.length≤32∧p.tx.length≤120
 |[],i,T,out,r,h=>fun p hp=>by cases hp
 |p::l,i,T,out,r,h=>fun q hq=>by
  unfold cF at h
  split at h
  ·cases h
  rename_i hn
  split at h
  ·cases h
  split at h
  ·cases h
  rename_i he
  rcases List.mem_cons.1 hq with rfl|hq
  ·exact⟨Ao (by simpa using hn),pM (by simpa using he)⟩
  ·exact mJ l _ _ _ r h q hq
theorem pP {l:List iv} {c:List UInt8} {r:List iJ×iK×iK} (h:sB l c=.ok r):JM l c:=by
 unfold sB at h
 split at h
 ·cases h
 rename_i h8
 split at h
 ·cases h
 rename_i r hr
 split at h
 ·cases h
 rename_i hc;refine⟨by omega,mJ _ _ _ _ _ hr,?_⟩
 by_cases yV:c=[]
 ·subst yV;simp
 ·exact pM (Classical.byContradiction fun h2=>hc ⟨yV,h2⟩)
structure Pg.MV (st:St) (p:Pg):Prop where
 c:V.Rows st 4 p.cd (p.code.map aX)
 s:V.Rows st 1 p.sd (p.aF.map ay)
 i:∀x∈p.code,V.Rows st 2 x.rd (x.rs.map av)∧x.rs.length≤1048576
 cl:p.code.length≤1048576
 sl:p.aF.length≤1048576
theorem Pg.MV.to {s0 S st:St} {H:List aZ} {p:Pg} (h:p.MV s0) (hS:S.bs=s0.bs) (hH:Has s0.bs.length S st H):p.MV st:=
 ⟨(Arg.of h.c hS).rows hH,(Arg.of h.s hS).rows hH,fun x hx=>⟨(Arg.of (h.i x hx).1 hS).rows hH,(h.i x hx).2⟩,h.cl,h.sl⟩
end Go.Proofs.YthahmilhpmfkfaaGreat
namespace Go.V
def OZ (st:St) (s:Nat) (x:D) (es:List (List D)):Prop:=(x=.nul∧es=[])∨∃k v,x=.win k v 0 es.length s∧st.bs[k]?=some (.mem v true es.flatten)∧∀e∈es,e.length=s
theorem OZ.own {st:St} {s:Nat} {x:D} {es:List (List D)} (h:OZ st s x es):eU st s x es:=by
 rcases h with⟨rfl,rfl⟩|⟨k,v,rfl,h1,h2⟩
 ·exact .nul
 ·have h3:=bo h2;exact eU.win k v 0 es es.flatten h1 (by rw[h3];omega) (by rw[List.drop_zero,←h3,List.take_length]) h2
def aZ.ex (x:D) (s:Nat) (es:List (List D)):aZ:=⟨fun j=>x.ref=j+1,fun st=>OZ st s x es,fun h p=>by
 rcases p with p|⟨k,v,rfl,h1,h2⟩
 ·exact .inl p
 ·exact .inr ⟨k,v,rfl,(h k (by simp only[D.ref])).trans h1,h2⟩⟩
variable{N:Nat} {S st:St} {H:List aZ}
theorem Has.P6 (h:Has N S st H) (s:Nat):Has N S st (.ex .nul s []::H):=
 h.add (fun _ _=>rfl) (Nat.le_refl _) rfl rfl (.inl ⟨rfl,rfl⟩) fun k hk=>by simp only[aZ.ex,D.ref] at hk;omega
theorem Has.XQ {j:Nat} {x:D} {s:Nat} {es:List (List D)} (h:Has N S st H) (hj:H[j]?=some (.ex x s es)):Has N S st (H.set j (.aB x s es)):=
 h.vJ hj (fun _ _ _=>rfl) (Nat.le_refl _) rfl rfl (OZ.own (h.ok j _ hj).1) (fun k hk=>.inl hk) fun k hk=>((h.ok j _ hj).2 k hk).2
theorem Has.LP {j:Nat} {x:D} {s:Nat} {es:List (List D)} (h:Has N S st H) (hj:H[j]?=some (.ex x s es)):Rows st s x es:=(OZ.own (h.ok j _ hj).1).rows
theorem Has.Km {j:Nat} {x:D} {s:Nat} {es:List (List D)} (h:Has N S st H) (hj:H[j]?=some (.ex x s es)):x.cells?=some [x]:=by
 rcases(h.ok j _ hj).1 with⟨rfl,_⟩|⟨_,_,rfl,_⟩<;>rfl
theorem Has.JG {P:Pv} {j:Nat} {x y:D} {s:Nat} {es ys:List (List D)} (hH:Has N S st H) (hj:H[j]?=some (.ex x s es)) (hy:Rows st s y ys) {t1 t2 e:TypeId} {td:TypeDesc} {inf:TypeInfo} {z:List D}
  (h1:P.bZ t1=some (.slice e)) (h2:P.bZ t2=some td) (h3:ek td=false) (h4:P.info e=some inf) (h5:cI P e=some z) (h6:inf.size=s) (h7:z.length=s) (h8:0<inf.bytes∧inf.bytes≤1024)
  (pg:es.length+ys.length≤1073741824) (hn:ys.length≠0) (hw:S.flr≤N∨refs ys.flatten=0):
  ∃x' ah,bd P .append [t1,t2] [x,y] st=some (x',ah)∧Has N S ah (H.set j (.ex x' s (es++ys))):=by
 have hb:(es.length+ys.length)*inf.bytes≤1099511627776:=Nat.le_trans (Nat.mul_le_mul pg h8.2) (by decide);have ig:=hy.row
 have wF:∀e∈ys,e.length=s:=fun e he=>by
  obtain⟨i,hi⟩:=List.getElem?_of_mem he;exact hy.s8 i e hi
 have jc:=bo wF;have hkk:=(hH.ok j _ hj).2;have hS:=hH.len;have Uw:=hH.hN;subst h6;simp only[bd,cX,h1,h2,h3,Bool.false_eq_true,if_false,h4,h5,ig,Option.bind_some];rw[if_neg (by rintro(h|h|h);exact h jc;exact absurd h (by omega);exact h h7)]
 rcases(hH.ok j _ hj).1 with⟨rfl,rfl⟩|⟨k,au,rfl,hm,he⟩
 ·simp only[List.nil_append];rw[if_neg hn,if_pos (by simpa using hb)];refine⟨_,_,rfl,?_⟩;refine hH.vJ hj (fun k hk _=>by simp only[St.push];rw[List.getElem?_append_left hk]) (by simp[St.push]) rfl rfl (.inr ⟨_,0,rfl,nJ st _,wF⟩) (fun k hk=>?_) fun k hk=>?_
  ·simp only[aZ.ex,D.ref] at hk;right;omega
  ·simp only[aZ.ex,D.ref] at hk;simp only[St.push,List.length_append,List.length_cons,List.length_nil];omega
 ·have hk:=hkk k (by simp only[aZ.ex,D.ref]);have hfe:=bo he;simp only[St.mem_of hm];rw[if_neg (by rintro(h|h);exact h rfl;omega),if_neg hn,if_pos ⟨hb,eL hH hk.1 hw⟩];refine⟨_,_,rfl,?_⟩;have nc:es.length+ys.length=(es++ys).length:=by simp
  have gu:(es.flatten.take (0+es.length*inf.size)).drop 0=es.flatten:=by rw[Nat.zero_add,←hfe,List.take_length,List.drop_zero]
  rw[nc,gu];refine hH.vJ hj (fun n hn hne=>by simp only;rw[List.getElem?_set_ne (fun e=>hne (by simp only[aZ.ex,D.ref];omega))]) (by simp) rfl rfl (.inr ⟨k,au+1,rfl,?_,?_⟩) (fun n hn=>?_) fun n hn=>?_
  ·simp only;rw[List.getElem?_set_self hk.2,List.flatten_append]
  ·intro e h
   rcases List.mem_append.1 h with h|h
   ·exact he e h
   ·exact wF e h
  ·simp only[aZ.ex,D.ref] at hn⊢;left;omega
  ·simp only[aZ.ex,D.ref] at hn;simp only[List.length_set];omega
theorem ae.GH {P:Pv} {ops:Array Oper} {rest:List Oper} {fr:Fr} {Q:Fr→St→Prop} {ty:TypeId} {pp:String} {a:Array Edge} {g:Option (Nat×Bool)} {dst:Nat} {j:Nat} {x y:D} {s:Nat} {es ys:List (List D)} {t1 t2 e:TypeId} {td:TypeDesc} {inf:TypeInfo} {z:List D} {xo yo:Operand} {az:D→Fr} (hH:Has N S st H) (hg:ax ops fr ⟨some dst,.call ⟨.builtin .append,#[xo,yo],#[t1,t2]⟩,ty,pp,a,g⟩=some true)
  (hx:fr.ev xo=x) (hy:fr.ev yo=y) (hj:H[j]?=some (.ex x s es)) (j_:Rows st s y ys)
  (h1:P.bZ t1=some (.slice e)) (h2:P.bZ t2=some td) (h3:ek td=false) (h4:P.info e=some inf) (h5:cI P e=some z) (h6:inf.size=s) (h7:z.length=s) (h8:0<inf.bytes∧inf.bytes≤1024)
  (hp:∀x',fr.put dst x'=az x') (hb:es.length+ys.length≤1073741824) (hn:ys.length≠0) (hw:S.flr≤N∨refs ys.flatten=0)
  (h:∀x' ah,Has N S ah (H.set j (.ex x' s (es++ys)))→ae P ops rest (az x') ah Q):
  ae P ops (⟨some dst,.call ⟨.builtin .append,#[xo,yo],#[t1,t2]⟩,ty,pp,a,g⟩::rest) fr st Q:=by
 obtain⟨x',ah,q1,q2⟩:=hH.JG hj j_ h1 h2 h3 h4 h5 h6 h7 h8 hb hn hw;refine ae.go hg rfl (d:=x') (st1:=ah) ?_ (hp _) (h x' ah q2);simp only[dE,List.map_cons,List.map_nil,hx,hy];exact q1
end Go.V
namespace Go.Proofs.YthahmilhpmfkfaaGreat
open Go.V Go
def JR (i:aK):aZ:=.aB i.rd 2 (i.rs.map av)
def kV (i:aK):Int×Int×Int×List Rg:=(i.op,i.x,i.y,i.rs)
def rW (q:Pg):List aZ:=.ex q.cd 4 (q.code.map aX)::.aB q.sd 1 (q.aF.map ay)::q.code.map JR
theorem yq {n:Nat}:∀{l:List D},(∀d∈l,d.ref≤n)→refs l≤n
 |[],_=>Nat.zero_le _
 |x::l,h=>by
  simp only[refs];have h1:=h x (List.mem_cons_self ..);have h2:=yq (n:=n) (l:=l) fun y hy=>h y (List.mem_cons_of_mem _ hy);omega
structure Pg.TY (st:St) (p:Pg):Prop extends p.MV st where
 x:p.code=[]∨∃k v,p.cd=.win k v 0 p.code.length 4∧st.bs[k]?=some (.mem v true (p.code.map aX).flatten)∧refs (p.code.map aX).flatten≤st.bs.length
end Go.Proofs.YthahmilhpmfkfaaGreat
namespace Go.Proofs.YthahmilhpmfkfaaGreat
open Go.V Go
def fg (fr:Go.V.Fr) (k:Nat):Go.V.D:=Go.V.nth .bf fr.loc k
theorem th {N:Nat} {S s0:St} {H:List aZ} {x:D} {l:List iv} {cont:List UInt8} (hF:S.flr≤N) (hx:Arg N S 2 x (l.map aY)) (hl:l.length≤1048576) (hH:Has N S s0 H):
  ∃d ah,Ev pv 17 [.agg [x,.str cont]] s0 d ah∧∃y,d=.agg [y,.str cont]∧Has N S ah (.aB y 2 (l.map aY)::H):=by
 have Kb:=ju hx.1;refine Ev.jN rfl Ta rfl rfl rfl ?_;refine zE ?_;change ai _ _ _ _ s0 _;refine zQ 2 ?_;refine qb hH fun k1 st lG hH=>?_;refine qa hH fun k2 st hk2 hH=>?_;refine zQ 1 ?_;have hH:=hH.eC 2;refine zQ 4 ?_;refine ae.ew (s:=2) hH rfl (ev rfl) (ev rfl) (by exact aG) (by exact Arg.rows (by assumption) hH) rfl rfl rfl rfl rfl rfl rfl ⟨(Nat.le_of_ble_eq_true rfl),(Nat.le_of_ble_eq_true rfl)⟩ (fun _=>(aa rfl _)) (by simp only[List.length_nil,List.length_map]<;>omega) (by exact .inl hF) (fun x5 st hH=>?_);dsimp only[u2,u1,u3,u4,setMany,u5,u6,D.cells,Nat.reduceAdd,aY] at hH;refine zQ 1 ?_;refine qT hH bE (fun st hH=>?_) (hcs:=hH.gN aG);dsimp only[u2,u1,u3,u4,setMany,u5,u6,D.cells,Nat.reduceAdd,aY] at hH;refine zQ 3 ?_;refine ae.aN (m:=2) hH rfl (ev rfl) (by exact bE) (by dsimp only[List.drop_succ_cons,List.drop_zero,List.take_succ_cons,List.take_zero,aY]<;>rfl) rfl rfl (aa rfl _) ?_;refine qS hH aV fun st hH=>?_;dsimp only[u2,u1,u3,u4,setMany,u5,u6,D.cells,Nat.reduceAdd,aY] at hH;refine zQ 1 ?_;refine ai.ret ⟨rx,_,_,_,hH.ck rfl aV rfl,rfl,?_⟩;exact⟨_,rfl,(hH.erase 1).erase 1⟩
def E6 (y:D) (cont:List UInt8) (R C:iK) (kt:Nat):List D:=[y,.str cont]++(mb R.code R.aF).cs++(if cont=[] then[.nul,.nul] else(mb C.code C.aF).cs)++[.ptr kt 0 0]
def M6 (N:Nat) (S st:St) (H:List aZ) (l:List iv) (cont:List UInt8) (d:D):Except (Int×Int) (List iJ×iK×iK)→Prop
 | .error r=>d=.tup [.pnil,.int .i64 r.1,.int .i64 r.2]∧r.1≠0∧Has N S st H
 | .ok r=>∃k kt xt y,d=.tup [.ptr k 0 0,.int .i64 0,.int .i64 0]∧Has N S st (.box k (.mem 0 false (E6 y cont r.2.1 r.2.2 kt))::.aB y 2 (l.map aY)::.box kt (.mem 0 false [xt])::.aB xt 2 (r.1.map de)::H)
theorem yz {N:Nat} {S s0:St} {H:List aZ} {x:D} {l:List iv} {cont:List UInt8} (hF:S.flr≤N) (hx:Arg N S 2 x (l.map aY)) (hl:l.length≤100) (il:∀p∈l,p.fit) (hcl:cont.length≤1048576) (hH:Has N S s0 H):
  ∃d ah,Ev pv 5 [.agg [x,.str cont]] s0 d ah∧M6 N S ah H l cont d (sB l cont):=by
 have Kb:=ju hx.1;refine Ev.jN rfl XN rfl rfl rfl ?_;refine zE ?_;change ai _ _ _ _ s0 _;refine zQ 2 ?_;refine qb hH fun k1 st lG hH=>?_;refine zQ 9 ?_;refine qn ?_;simp only[List.length_map];refine zQ 2 ?_;unfold sB
 by_cases h8:8<l.length
 ·have hc:decide (((l.length:Nat):Int)>8)=true:=by rw[decide_eq_true_eq];omega
  rw[if_pos h8];refine qD rfl (by rw[hc]) ?_;refine zQ 6 ?_;refine ai.ret ⟨rx,_,_,_,rfl,rfl,?_⟩;exact⟨rfl,by decide,hH.drop 1⟩
 have hc:decide (((l.length:Nat):Int)>8)=false:=by rw[decide_eq_false_iff_not];omega
 rw[if_neg h8];refine qE rfl (by rw[hc]) ?_;refine zQ 1 ?_;obtain⟨d,st1,aC,hP⟩:=Dj (cont:=cont) hF hx hl il hH
 cases wK:cF l 0 [] [] with
 |error r=>
  rw[wK] at hP;obtain⟨rfl,wW⟩:=hP;have hr:=pL _ _ _ _ _ wK;have ny:(r.1 !=0)=true:=by simpa using hr
  refine zQ 2 ?_;refine ae.aN (m:=2) hH rfl (ev rfl) (by exact aG) (by dsimp only[List.drop_succ_cons,List.drop_zero,List.take_succ_cons,List.take_zero,aY,og,mb,Pg.d,Pg.cs]<;>rfl) rfl rfl (aa rfl _) ?_;refine qv aC ?_;have hH:=wW;refine zQ 16 ?_;refine qD rfl (by rw[ny]) ?_;refine zQ 8 ?_;refine ai.ret ⟨rx,_,_,_,rfl,rfl,?_⟩;exact⟨rfl,hr,hH.drop 1⟩
 |ok r=>
  rw[wK] at hP;obtain⟨y,kt,xt,rfl,wW⟩:=hP;obtain⟨T,out⟩:=r;obtain⟨yP,NF⟩:=mU s0 _ _ _ _ _ il (by intro k hk;cases hk) wK;dsimp only at yP NF wW⊢;have HD:out.length=l.length:=by rw[NF];simp
  refine zQ 2 ?_;refine ae.aN (m:=2) hH rfl (ev rfl) (by exact aG) (by dsimp only[List.drop_succ_cons,List.drop_zero,List.take_succ_cons,List.take_zero,aY,og,mb,Pg.d,Pg.cs]<;>rfl) rfl rfl (aa rfl _) ?_;refine qv aC ?_;have hH:=wW;refine zQ 16 ?_;refine ai.cond (v:=false) (by dsimp only[Fr.ev,Fr.get,nth,V.look];rfl) (fun h=>by cases h) (fun _=>?_);refine zQ 3 ?_;refine ae.aN (m:=2) hH rfl (ev rfl) (by exact cD) (by dsimp only[List.drop_succ_cons,List.drop_zero,List.take_succ_cons,List.take_zero,aY,og,mb,Pg.d,Pg.cs]<;>rfl) rfl rfl (aa rfl _) ?_;obtain⟨_,st,aC,y2,rfl,hH⟩:=th (cont:=cont) hF hx (by omega) hH;refine qv aC ?_;refine qm ?_;refine ae.go (d:=.agg [y2,.str cont,.nul,.nul,.nul,.nul,.ptr kt 0 0]) (st1:=_) rfl rfl rfl (aa rfl _) ?_;refine qb hH fun k30 st WN hH=>?_;refine zQ 13 ?_;have xh:=fun st=>oP (s0:=st) (b:=cont) hcl;have Gc:=(xh s0).2;refine ai.merge (fun fr st=>∃(cd:D) (tmp:List (Nat×D)),fr=⟨11,[fg fr 0,.ptr k1 0 0,fg fr 2,fg fr 3,fg fr 4,y,.ptr kt 0 0,fg fr 7,fg fr 8,.ptr k30 0 0,cd],tmp⟩∧Has N S st (.box k30 (.mem 0 false [y2,.str cont,.nul,.nul,.nul,.nul,.ptr kt 0 0])::.aB y2 2 (l.map aY)::.box kt (.mem 0 false [xt])::.aB xt 2 (T.map de)::.aB y 1 (out.map d_)::.box k1 (.mem 0 false [x,.str cont])::H)∧(cont≠[]→(bK cont).2.1=0∧cd=sx (bK cont).1)) ?_ ?_
  ·by_cases yV:cont=[]
   ·have gu:(!(cont==[]))=false:=by rw[yV];rfl
    refine ai.cond (v:=false) (by dsimp only[Fr.ev,Fr.get,nth,V.look];exact congrArg D.bool gu) (fun h=>by cases h) (fun _=>?_);refine zQ 1 ?_;exact⟨.nul,_,rfl,hH,(fun h=>absurd yV h)⟩
   ·have gu:(!(cont==[]))=true:=by simpa using yV
    refine ai.cond (v:=true) (by dsimp only[Fr.ev,Fr.get,nth,V.look];exact congrArg D.bool gu) (fun _=>?_) (fun h=>by cases h);refine zQ 4 ?_;refine ae.cu rfl rfl (xh _).1 (aa rfl _) ?_;refine zQ 12 ?_
    by_cases he:(bK cont).2.1=0
    ·have DU:((bK cont).2.1 !=0)=false:=by rw[he];rfl
     refine qE rfl (by rw[DU]) ?_;refine zQ 1 ?_;exact⟨sx (bK cont).1,_,rfl,hH,(fun _=>⟨he,rfl⟩)⟩
    ·have DU:((bK cont).2.1 !=0)=true:=by simpa using he
     rw[if_pos ⟨yV,he⟩];refine qD rfl (by rw[DU]) ?_;refine zQ 5 ?_;refine qn ?_;simp only[List.length_map];refine zQ 4 ?_;refine ai.ret ⟨rx,_,_,_,rfl,rfl,?_⟩;exact⟨rfl,he,hH.drop 6⟩
  rintro fr st ⟨cd,tmp,hfr,hH,u_⟩;rw[hfr];clear hfr;generalize fg fr=ee;clear fr;rw[if_neg (fun h=>h.2 (u_ h.1).1)];have Xo:=fun st (h:V.Rows st 1 y (out.map d_))=>zg yP (by omega) h;refine zQ 5 ?_;refine qv (Xo _ (hH.rows cW)) ?_;refine zQ 6 ?_;refine qT hH aG fun st hH=>?_;dsimp only[u2,u1,u3,u4,setMany,u5,u6,D.cells,Nat.reduceAdd,aY,og,mb,Pg.d,Pg.cs] at hH;refine zQ 8 ?_
  by_cases DU:(bc out).e=0
  ·have hcb:((bc out).e !=0)=false:=by rw[DU];rfl
   rw[if_neg (fun h=>h DU)];refine qE rfl (by rw[hcb]) ?_;refine zQ 8 ?_
   by_cases yV:cont=[]
   ·have gu:(!(cont==[]))=false:=by rw[yV];rfl
    rw[if_neg (fun h=>h.1 yV),if_pos yV];refine ai.cond (v:=false) (by dsimp only[Fr.ev,Fr.get,nth,V.look];exact congrArg D.bool gu) (fun h=>by cases h) (fun _=>?_);refine zQ 8 ?_;refine ai.ret ⟨rx,_,_,_,rfl,rfl,?_⟩;refine⟨k30,kt,xt,y2,rfl,?_⟩;unfold E6;rw[if_pos yV];exact(hH.erase 4).erase 4
   ·have gu:(!(cont==[]))=true:=by simpa using yV
    obtain⟨he,rfl⟩:=u_ yV;have Eu:=fun st=>yw (s0:=st) (nR Gc.1) Gc.1 Gc.2;have VF:=uu Gc.1 Gc.2;have RM:=fun st (z:D) (h:V.Rows st 1 z ([dF (bK cont).1].map d_))=>zg (parts:=[dF (bK cont).1]) (fun k hk=>by rw[List.mem_singleton.1 hk];exact VF) (by simp) h;refine ai.cond (v:=true) (by dsimp only[Fr.ev,Fr.get,nth,V.look];exact congrArg D.bool gu) (fun _=>?_) (fun h=>by cases h);refine zQ 4 ?_;refine qv (Eu _) ?_;refine qh (s:=1) (vs:=[_]) hH fun k67 st WG hH=>?_;refine qv (RM _ _ (hH.rows aG)) ?_;refine zQ 6 ?_;refine qT hH aV fun st hH=>?_;dsimp only[u2,u1,u3,u4,setMany,u5,u6,D.cells,Nat.reduceAdd,aY,og,mb,Pg.d,Pg.cs] at hH;refine zQ 7 ?_
    by_cases ny:(bc [dF (bK cont).1]).e=0
    ·have Lw:((bc [dF (bK cont).1]).e !=0)=false:=by rw[ny];rfl
     rw[if_neg (fun h=>h.2 ny),if_neg yV];refine qE rfl (by rw[Lw]) ?_;refine zQ 8 ?_;refine ai.ret ⟨rx,_,_,_,rfl,rfl,?_⟩;refine⟨k30,kt,xt,y2,rfl,?_⟩;unfold E6;rw[if_neg yV];exact((hH.drop 1).erase 4).erase 4
    ·have Lw:((bc [dF (bK cont).1]).e !=0)=true:=by simpa using ny
     rw[if_pos ⟨yV,ny⟩];refine qD rfl (by rw[Lw]) ?_;refine zQ 5 ?_;refine qn ?_;simp only[List.length_map];refine zQ 4 ?_;refine ai.ret ⟨rx,_,_,_,rfl,rfl,?_⟩;exact⟨rfl,ny,hH.drop 7⟩
  ·have hcb:((bc out).e !=0)=true:=by simpa using DU
   rw[if_pos DU];refine qD rfl (by rw[hcb]) ?_;refine zQ 8 ?_;refine ai.ret ⟨rx,_,_,_,rfl,rfl,?_⟩;exact⟨rfl,DU,hH.drop 6⟩
theorem B3 {N:Nat} {S st:St} {H:List aZ} {k:Nat} {cs:List D} (hH:Has N S st H) (hk:k<N) (h:S.bs[k]?=some (.mem 0 false cs)) (o:Nat):jT st (.ptr k 0 o) (cs.drop o):=
 .inl ⟨k,0,o,false,_,rfl,St.mem_of (by rw[hH.ex.low k hk];exact h),List.take_length ..⟩
theorem DZ {N:Nat} {S s0:St} {H:List aZ} {p:Pg} (hF:S.flr≤N) (hp:p.ok) (hcl:p.code.length≤400) (kW:p.aF.length≤8) (hH:Has N S s0 H):
  ∃d ah,Ev pv 35 [p.d] s0 d ah∧∃q:Pg,d=.agg [q.cd,q.sd]∧q.aF=p.aF∧q.code.map kV=p.code.map kV∧Has N S ah (rW q++H):=by
 have hc:=hp.c.arg N S;have hs:=hp.s.arg N S;unfold Pg.d;refine Ev.jN rfl SY rfl rfl rfl ?_;refine zE ?_;change ai _ _ _ _ s0 _;refine zQ 2 ?_;refine qb hH fun k1 st lG hH=>?_;dsimp only[u2,u1,u3,u4,setMany,u5,u6,D.cells,Nat.reduceAdd,aX,ay,Pg.cs] at hH;refine qa hH fun k2 st hk2 hH=>?_;refine zQ 1 ?_;have hH:=hH.eC 1;refine zQ 4 ?_;refine qP hH aG (Arg.rows (by assumption) hH) fun x8 st hH=>?_;dsimp only[u2,u1,u3,u4,setMany,u5,u6,D.cells,Nat.reduceAdd,aX,ay,Pg.cs] at hH;refine ae.iC (qs:=[(1,_)]) rfl rfl rfl rfl ⟨rfl,(ev rfl),(by exact hH.gN (by exact aG)),trivial⟩ (by intro q hq;simp only[List.mem_cons,List.not_mem_nil,or_false] at hq;rcases hq with rfl<;>exact⟨rfl,by exact Nat.le_of_ble_eq_true rfl⟩) (by show List.foldl _ [_,_] _=_;dsimp only[List.foldl_cons,List.foldl_nil,u2,u1]<;>rfl) (by dsimp only[Fr.put,u1,u2]<;>rfl) ?_;refine qa hH fun k3 st DQ hH=>?_;refine qS hH aG fun st hH=>?_;dsimp only[u2,u1,u3,u4,setMany,u5,u6,D.cells,Nat.reduceAdd,aX,ay,Pg.cs] at hH;refine zQ 6 ?_;refine qn ?_;simp only[List.length_map];refine zQ 2 ?_;have hH:=hH.P6 4;refine zQ 1 ?_;refine ai.loop (fun mm fr st=>∃(i:Nat) (cd:D) (M:List aK),fr.clean=⟨14,[fg fr 0,.ptr k1 0 0,.ptr k2 0 0,.ptr k3 0 0,fg fr 4,fg fr 5,fg fr 6,fg fr 7,fg fr 8,fg fr 9,fg fr 10,p.cd,.int .i64 (p.code.length:Nat),.int .i64 (i:Nat)],[]⟩∧Has N S st (.ex cd 4 (M.map aX)::.box k3 (.mem 0 false [cd,x8])::.aB x8 1 (p.aF.map ay)::.box k2 (.mem 0 false [.nul,.nul])::.box k1 (.mem 0 false [p.cd,p.sd])::(M.map JR++H))∧(i+mm=p.code.length)∧(M.map kV=(p.code.take i).map kV)) (p.code.length) ?_ ?_
 ·exact⟨0,.nul,[],rfl,hH,by omega,rfl⟩
 rintro mm fr st ⟨i,cd,M,hfr,hH,hi,hM⟩;rw[hfr];clear hfr;generalize fg fr=ee;clear fr
 have LF:M.length=i:=by
  have:=congrArg List.length hM;rw[List.length_map,List.length_map,List.length_take] at this;omega
 refine zQ 5 ?_;refine zP (fun hlt=>?_) fun hlt=>?_
 ·refine zQ 1 ?_;have hil:i<p.code.length:=by omega
  obtain⟨q,hq⟩:∃q,p.code[i]?=some q:=⟨p.code[i]'hil,List.getElem?_eq_getElem _⟩
  have hqo:=hp.i q (List.mem_of_getElem? hq);have Ua:=hqo.1.arg N S;have Yp:=hqo.1.cells.1;have IY:=hqo.2;have gr:=mo hq;refine zQ 4 ?_;refine qr fun PZ La=>?_;refine ae.cA rfl (ev rfl) (by assumption) rfl (aa rfl _) ?_;refine qa hH fun k5 st HG hH=>?_;refine qS hH aG fun st hH=>?_;dsimp only[u2,u1,u3,u4,setMany,u5,u6,D.cells,Nat.reduceAdd,aX,ay,Pg.cs] at hH;refine zQ 1 ?_;have hH:=hH.eC 2;refine zQ 4 ?_;refine ae.ew (s:=2) hH rfl (ev rfl) (ev rfl) (by exact aG) (by exact Arg.rows (by assumption) hH) rfl rfl rfl rfl rfl rfl rfl ⟨(Nat.le_of_ble_eq_true rfl),(Nat.le_of_ble_eq_true rfl)⟩ (fun _=>(aa rfl _)) (by simp only[List.length_nil,List.length_map]<;>omega) (by exact .inl hF) (fun Mt st hH=>?_);dsimp only[u2,u1,u3,u4,setMany,u5,u6,D.cells,Nat.reduceAdd,aX,ay,Pg.cs] at hH;refine zQ 1 ?_;refine qT hH aV (fun st hH=>?_) (hcs:=hH.gN aG);dsimp only[u2,u1,u3,u4,setMany,u5,u6,D.cells,Nat.reduceAdd,aX,ay,Pg.cs] at hH;refine zQ 1 ?_;have YN:(M.map aX).length≤400:=by rw[List.length_map];omega
  refine zQ 3 ?_;refine ae.aN (m:=4) hH rfl (ev rfl) (by exact aV) (by dsimp only[List.drop_succ_cons,List.drop_zero,List.take_succ_cons,List.take_zero,aX,ay,Pg.cs]<;>rfl) rfl rfl (aa rfl _) ?_;refine qh (s:=4) (vs:=[_]) hH fun k24 st WO hH=>?_;refine ae.GH (s:=4) hH rfl (ev rfl) (ev rfl) cD (hH.rows aG) rfl rfl rfl rfl rfl rfl rfl ⟨(Nat.le_of_ble_eq_true rfl),(Nat.le_of_ble_eq_true rfl)⟩ (fun _=>(aa rfl _)) (by simp only[List.length_map,List.length_cons,List.length_nil];omega) (by simp) (.inl hF) (fun UR st hH=>?_);dsimp only[u1,u2] at hH;have Yj:=Has.Km hH (j:=3) rfl;refine zQ 1 ?_;refine ae.kE hH rfl (ev rfl) (ev rfl) (by assumption) (by exact rfl) (by exact cW) (by exact Nat.le_of_ble_eq_true rfl) (by exact .inl hF) (fun st hH=>?_);dsimp only[u2,u1,u3,u4,setMany,u5,u6,D.cells,Nat.reduceAdd,aX,ay,Pg.cs] at hH;refine zQ 1 ?_;have hH:=(hH.drop 1).erase 1;have hH:=Has.E_ [_] (_::_::_::_::_::M.map JR) hH;refine zQ 1 ?_;refine ae.eN (z:=((i+1:Nat):Int)) rfl (ev rfl) (ev rfl) (by(try simp only[List.length_reverse,List.length_cons,List.length_nil,List.length_append,List.length_map,List.length_set]);rw[wrap_i64 (by omega) (by omega)]<;>omega) (aa rfl _) ?_;refine zQ 2 ?_;refine⟨mm-1,by omega,⟨i+1,UR,M++[⟨q.op,q.x,q.y,Mt,q.rs⟩],rfl,?_,by omega,?_⟩⟩
  ·rw[List.map_append,List.map_append,List.append_assoc];exact hH
  ·rw[List.map_append,hM,List.take_add_one,hq,Option.toList_some,List.map_append];rfl
 ·refine zQ 1 ?_;have hil:i=p.code.length:=by omega
  rw[List.take_of_length_le (by omega)] at hM;refine zQ 2 ?_;refine ae.aN (m:=2) hH rfl (ev rfl) (by exact aV) (by dsimp only[List.drop_succ_cons,List.drop_zero,List.take_succ_cons,List.take_zero,aX,ay,Pg.cs]<;>rfl) rfl rfl (aa rfl _) ?_;refine qS hH cD fun st hH=>?_;dsimp only[u2,u1,u3,u4,setMany,u5,u6,D.cells,Nat.reduceAdd,aX,ay,Pg.cs] at hH;refine zQ 1 ?_;refine ai.ret ⟨rx,_,_,_,hH.ck rfl cD rfl,rfl,?_⟩;exact⟨⟨cd,M,x8,p.aF⟩,rfl,rfl,hM,((hH.erase 1).erase 2).erase 2⟩
theorem HX {N:Nat} {S s0:St} {H:List aZ} {k:Nat} {x c1 c2 c3 c4 c5:D} {l:List iv} {cont:List UInt8} (hF:S.flr≤N) (hx:Arg N S 2 x (l.map aY)) (hl:l.length≤1048576) (hk:k<N) (hb:S.bs[k]?=some (.mem 0 false [x,.str cont,c1,c2,c3,c4,c5])) (hH:Has N S s0 H):
  ∃d ah,Ev pv 13 [.ptr k 0 0] s0 d ah∧∃y,d=.agg [y,.str cont]∧Has N S ah (.aB y 2 (l.map aY)::H):=by
 refine Ev.jN rfl Te rfl rfl rfl ?_;refine zE ?_;change ai _ _ _ _ s0 _;refine zQ 2 ?_;refine qa hH fun k2 st hk2 hH=>?_;refine zQ 1 ?_;have We:=B3 hH hk hb 0;refine zQ 6 ?_;obtain⟨_,st,aC,y,rfl,hH⟩:=th (cont:=cont) hF hx hl hH;refine qv aC ?_;refine qS hH aV fun st hH=>?_;dsimp only[u2,u1,u3,u4,setMany,u5,u6,D.cells,Nat.reduceAdd,aY] at hH;refine zQ 1 ?_;refine ai.ret ⟨rx,_,_,_,hH.ck rfl aV rfl,rfl,?_⟩;exact⟨y,rfl,hH.erase 1⟩
theorem Fm {N:Nat} {S s0:St} {H:List aZ} {k:Nat} {x c1 c3 c4 c5:D} {p:Pg} (hF:S.flr≤N) (hp:p.ok) (hcl:p.code.length≤400) (kW:p.aF.length≤8) (hk:k<N) (hb:S.bs[k]?=some (.mem 0 false [x,c1,p.cd,p.sd,c3,c4,c5])) (hH:Has N S s0 H):
  ∃d ah,Ev pv 14 [.ptr k 0 0] s0 d ah∧∃q:Pg,d=.agg [q.cd,q.sd]∧q.aF=p.aF∧q.code.map kV=p.code.map kV∧Has N S ah (rW q++H):=by
 refine Ev.jN rfl Td rfl rfl rfl ?_;refine zE ?_;change ai _ _ _ _ s0 _;refine zQ 2 ?_;refine qa hH fun k2 st hk2 hH=>?_;refine zQ 1 ?_;have Ch:=B3 hH hk hb 2;refine zQ 6 ?_;obtain⟨_,st,aC,q,rfl,xg,Cf,hH⟩:=DZ hF hp hcl kW hH;have hH:=Has.E_ (rW q) [_] hH;refine qv aC ?_;refine qS hH aG fun st hH=>?_;dsimp only[u2,u1,u3,u4,setMany,u5,u6,D.cells,Nat.reduceAdd,Pg.cs] at hH;refine zQ 1 ?_;refine ai.ret ⟨rx,_,_,_,hH.ck rfl aG rfl,rfl,?_⟩;exact⟨q,rfl,xg,Cf,hH.drop 1⟩
end Go.Proofs.YthahmilhpmfkfaaGreat
namespace Go.Proofs.YthahmilhpmfkfaaGreat
open Go.V Go
def Tp (n:bp):bp:={n with rd:=aQ n.rs}
mutual
def Tr.cp:Tr→Tr
 | .mk n ks=>.mk (Tp n) ks.cp
def aE.cp:aE→aE
 | .nil=>.nil
 | .cons t ts=>.cons t.cp ts.cp
end
mutual
theorem Tr.rq:∀t:Tr,t.cp.flat=t.flat.map Tp
 | .mk n ks=>by simp only[Tr.cp,Tr.flat,List.map_cons,aE.rq ks]
theorem aE.rq:∀ts:aE,ts.cp.flat=ts.flat.map Tp
 | .nil=>rfl
 | .cons t ts=>by simp only[aE.cp,aE.flat,List.map_append,Tr.rq t,aE.rq ts]
end
theorem aE.tg:∀ts:aE,ts.cp.len=ts.len
 | .nil=>rfl
 | .cons t ts=>by simp only[aE.cp,aE.len,aE.tg ts]
mutual
theorem Tr.Cz:∀t:Tr,t.ok→t.cp.ok
 | .mk n ks,h=>by
  simp only[Tr.cp,Tr.ok] at h⊢;exact⟨by rw[aE.tg];exact h.1,aE.Cz ks h.2⟩
theorem aE.Cz:∀ts:aE,ts.ok→ts.cp.ok
 | .nil,_=>trivial
 | .cons t ts,h=>by
  simp only[aE.cp,aE.ok] at h⊢;exact⟨Tr.Cz t h.1,aE.Cz ts h.2⟩
end
mutual
theorem Tr.tf:∀t:Tr,t.cp.sz=t.sz
 | .mk n ks=>by simp only[Tr.cp,Tr.sz,aE.tf ks,aE.tg];rfl
theorem aE.tf:∀ts:aE,ts.cp.sz=ts.sz
 | .nil=>rfl
 | .cons t ts=>by simp only[aE.cp,aE.sz,Tr.tf t,aE.tf ts]
end
mutual
theorem Tr.CA:∀(t:Tr) (b:Nat),aM t.cp b=aM t b
 | .mk n ks,b=>by
  have h1:eo ks.cp=eo ks:=funext (aE.G4 ks);have h2:∀jp,di jp ks.cp=di jp ks:=fun jp=>funext (aE.G5 ks jp);simp only[Tr.cp,aM,h1,h2,aE.tf,aE.tg]
  rfl
theorem aE.G4:∀(ts:aE) (b:Nat),eo ts.cp b=eo ts b
 | .nil,_=>rfl
 | .cons t ts,b=>by simp only[aE.cp,eo,Tr.CA t,aE.G4 ts,Tr.tf]
theorem aE.G5:∀(ts:aE) (jp:aK) (b:Nat),di jp ts.cp b=di jp ts b
 | .nil,_,_=>rfl
 | .cons t ts,jp,b=>by simp only[aE.cp,di,Tr.CA t,aE.G5 ts,Tr.tf,aE.tg]
end
mutual
theorem Tr.Bt:∀(t u:Tr) (x y:List bp),t.ok→u.ok→t.flat++x=u.flat++y→t=u∧x=y
 | .mk n ks,.mk m js,x,y,h1,h2,e=>by
  simp only[Tr.flat,List.cons_append,List.cons.injEq] at e;obtain⟨rfl,e⟩:=e;simp only[Tr.ok] at h1 h2;have k1:=h1.1.1;have k2:=h2.1.1;obtain⟨rfl,e2⟩:=aE.Bt ks js x y h1.2 h2.2 (by omega) e;exact⟨rfl,e2⟩
theorem aE.Bt:∀(ts us:aE) (x y:List bp),ts.ok→us.ok→ts.len=us.len→ts.flat++x=us.flat++y→ts=us∧x=y
 | .nil,.nil,x,y,_,_,_,e=>⟨rfl,by simpa[aE.flat] using e⟩
 | .cons t ts,.cons u us,x,y,h1,h2,hl,e=>by
  simp only[aE.flat,List.append_assoc] at e;simp only[aE.ok] at h1 h2;simp only[aE.len] at hl;obtain⟨rfl,e2⟩:=Tr.Bt t u _ _ h1.1 h2.1 e;obtain⟨rfl,e3⟩:=aE.Bt ts us x y h1.2 h2.2 (by omega) e2;exact⟨rfl,e3⟩
 | .nil,.cons _ _,_,_,_,_,hl,_=>by simp[aE.len] at hl
 | .cons _ _,.nil,_,_,_,_,hl,_=>by simp[aE.len] at hl
end
end Go.Proofs.YthahmilhpmfkfaaGreat
namespace Go.Proofs.YthahmilhpmfkfaaGreat
open Go.V Go
end Go.Proofs.YthahmilhpmfkfaaGreat
namespace Go.Proofs.YthahmilhpmfkfaaGreat
open Go.V Go
end Go.Proofs.YthahmilhpmfkfaaGreat
namespace Go.Proofs.YthahmilhpmfkfaaGreat
open Go.V Go
end Go.Proofs.YthahmilhpmfkfaaGreat
namespace Go.Proofs.YthahmilhpmfkfaaGreat
open Go.V Go
def UH (N:Nat) (S st:St) (k:Nat) (H:List aZ) (full:List aK):Prop:=
 ∃(cd:D) (dk:Nat→Prop) (code:List aK) (TA:Bool),Has N S st (.box k (.mem 0 false [cd,.bool TA])::.deep dk cd 4 (code.map aX)::H)∧
  ((TA=false∧code=full∧full.length≤400)∨(TA=true∧code.length=400∧400<full.length))
theorem UH.more {N:Nat} {S st:St} {k:Nat} {H:List aZ} {full more:List aK} {cd:D} {dk:Nat→Prop} {code:List aK} (hH:Has N S st (.box k (.mem 0 false [cd,.bool true])::.deep dk cd 4 (code.map aX)::H)) (h1:code.length=400) (h2:400<full.length):UH N S st k H (full++more):=
 ⟨cd,dk,code,true,hH,.inr ⟨rfl,h1,by rw[List.length_append];omega⟩⟩
end Go.Proofs.YthahmilhpmfkfaaGreat
namespace Go.Proofs.YthahmilhpmfkfaaGreat
open Go.V Go
end Go.Proofs.YthahmilhpmfkfaaGreat
namespace Go.Proofs.YthahmilhpmfkfaaGreat
open Go.V Go
end Go.Proofs.YthahmilhpmfkfaaGreat
namespace Go.Proofs.YthahmilhpmfkfaaGreat
open Go.V Go
end Go.Proofs.YthahmilhpmfkfaaGreat
namespace Go.Proofs.YthahmilhpmfkfaaGreat
open Go.V Go
mutual
theorem Tr.rm:∀(t:Tr),t.ok→∀n∈t.flat,n.kids≤((t.flat.length:Nat):Int)
 | .mk n ks,h,m,hm=>by
  simp only[Tr.ok] at h;simp only[Tr.flat,List.mem_cons] at hm;have h1:=aE.oX ks;simp only[Tr.flat,List.length_cons]
  rcases hm with rfl|hm
  ·have:=h.1.1;omega
  ·have:=aE.rm ks h.2 m hm;omega
theorem aE.rm:∀(ts:aE),ts.ok→∀n∈ts.flat,n.kids≤((ts.flat.length:Nat):Int)
 | .nil,_,n,hn=>by simp[aE.flat] at hn
 | .cons t ts,h,n,hn=>by
  simp only[aE.ok] at h;simp only[aE.flat,List.mem_append] at hn;simp only[aE.flat,List.length_append]
  rcases hn with hn|hn
  ·have:=Tr.rm t h.1 n hn;omega
  ·have:=aE.rm ts h.2 n hn;omega
end
end Go.Proofs.YthahmilhpmfkfaaGreat
namespace Go.Proofs.YthahmilhpmfkfaaGreat
open Go.V Go
end Go.Proofs.YthahmilhpmfkfaaGreat
namespace Go.Proofs.YthahmilhpmfkfaaGreat
open Go.V Go
def qX (s:Nat):Nat→List D→List (List D)
 |0,_=>[]
 |n+1,l=>l.take s::qX s n (l.drop s)
def PA (st:St) (ks:Nat→Prop) (rd:D) (n:Nat):Prop:=∃(s:Nat) (fs:List (List D)),eU st s rd fs∧fs.length=n∧(n=0∨s=2)∧∀k,rd.ref=k+1→ks k
theorem PA.move {st ah:St} {ks:Nat→Prop} (h:∀k,ks k→ah.bs[k]?=st.bs[k]?) {rd:D} {n:Nat} (p:PA st ks rd n):PA ah ks rd n:=by
 obtain⟨s,fs,h1,h2,h3,h4⟩:=p;exact⟨s,fs,h1.move fun k hk=>h k (h4 k hk),h2,h3,h4⟩
variable{N:Nat} {S st:St} {H:List aZ}
def Pz (st:St) (ks:Nat→Prop) (rd:D) (rs:List Rg):Prop:=∃s,eU st s rd (rs.map av)∧(rs=[]∨s=2)∧∀k,rd.ref=k+1→ks k
theorem Pz.o {st:St} {ks:Nat→Prop} {rd:D} {rs:List Rg} (h:Pz st ks rd rs):PA st ks rd rs.length:=by
 obtain⟨s,h1,h2,h3⟩:=h;exact⟨s,_,h1,by rw[List.length_map],h2.imp (fun e=>by rw[e];rfl) id,h3⟩
end Go.Proofs.YthahmilhpmfkfaaGreat
namespace Go.Proofs.YthahmilhpmfkfaaGreat
open Go.V Go
end Go.Proofs.YthahmilhpmfkfaaGreat
namespace Go.Proofs.YthahmilhpmfkfaaGreat
theorem Hf {H:Type} (d:DataW H):1≤Rows.uptoBulk d:=by
 cases d with
 |lit l=>cases l<;>simp[Rows.uptoBulk]
 |_=>simp[Rows.uptoBulk]
theorem Hg {H:Type} (l:List (DataW H)):l.length≤Rows.uptoBulkAll l:=by
 induction l with
 |nil=>simp[Rows.uptoBulkAll]
 |cons x r ih=>have:=Hf x;simp only[Rows.uptoBulkAll,List.length_cons];omega
end Go.Proofs.YthahmilhpmfkfaaGreat
namespace Go.Proofs.YthahmilhpmfkfaaGreat
open Go.V Go Go.RowKit
variable{H:Type} {enc:TypeId×Value→H} {w:World} {spare:Nat→Bool} {held:Bool} {d:DataW H}
theorem Hh {H:Type} {l:List (DataW H)} {x:DataW H} (h:x∈l):Rows.uptoBulk x≤Rows.uptoBulkAll l:=by
 induction l with
 |nil=>cases h
 |cons y l ih=>
  simp only[Rows.uptoBulkAll]
  rcases List.mem_cons.1 h with rfl|h
  ·omega
  ·have:=ih h;omega
end Go.Proofs.YthahmilhpmfkfaaGreat
namespace Go.Proofs.YthahmilhpmfkfaaGreat
open Go.V Go Go.RowKit
variable{H:Type} {enc:TypeId×Value→H} {w:World} {spare:Nat→Bool} {held:Bool} {d:DataW H}
end Go.Proofs.YthahmilhpmfkfaaGreat
namespace Go.Proofs.YthahmilhpmfkfaaGreat
open Go.V Go Go.RowKit
theorem jt {st:St} {s:Nat} {x:D} {es:List (List D)} (h:V.Rows st s x es):x.cells?=some [x]:=by cases h<;>rfl
def IH (st:St) (i:aK):Prop:=∃s,V.Rows st s i.rd (i.rs.map av)∧(i.rs=[]∨s=2)
theorem Pz.r {st:St} {ks:Nat→Prop} {i:aK} (h:Pz st ks i.rd i.rs):IH st i:=by
 obtain⟨s,h1,h2,_⟩:=h;exact⟨s,h1.rows,h2⟩
theorem IH.to {s0 S st:St} {H:List aZ} {i:aK} (h:IH s0 i) (hS:S.bs=s0.bs) (hH:Has s0.bs.length S st H):IH st i:=by
 obtain⟨s,h1,h2⟩:=h;exact⟨s,(Arg.of h1 hS).rows hH,h2⟩
section
variable{H:Type} {enc:TypeId×Value→H} {w:World} {spare:Nat→Bool} {held:Bool} {d:DataW H}
end
end Go.Proofs.YthahmilhpmfkfaaGreat
namespace Go.Proofs.YthahmilhpmfkfaaGreat
open Go.V Go
def o0 (fr:Go.V.Fr) (k:Nat):Go.V.D:=Go.V.nth .bf fr.loc k
def Kd (l:List iv) (c:List UInt8):Int:=Ke (te 0#32 (iN l c)) (te 1#32 (iN l c))
theorem Ig {k:Nat} {s0 S:St} {c:List D} (hb:s0.bs[k]?=some (.mem 0 false c)) (aU:S.bs=s0.bs) (o:Nat):∀{st:St} {H:List aZ},Has s0.bs.length S st H→jT st (.ptr k 0 o) (c.drop o):=fun{st H} h=>by
 refine .inl ⟨k,0,o,false,_,rfl,?_,List.take_length ..⟩;unfold St.bW;rw[h.ex.low k (List.getElem?_eq_some_iff.1 hb).1,aU,hb];simp
theorem BH {l:List iv} {c:List UInt8} (h:JM l c):(iN l c).length≤100000000:=by
 obtain⟨h1,h2,h3⟩:=h;have tQ:=nQ (l.length:Nat);have I6:=Cw (f:=ft) (n:=2097170) (l:=l) (fun x hx=>wb ⟨by have:=(h2 x hx).1;omega,by have:=(h2 x hx).2;omega⟩);have hcl:=nF c;have:l.length*2097170≤8*2097170:=Nat.mul_le_mul_right _ h1;unfold iN;simp only[List.length_append];omega
theorem yY {s0:St} {k:Nat} {x c1 c2 c3 c4 c5:D} {l:List iv} {cont:List UInt8} (hS:JM l cont) (hx:V.Rows s0 2 x (l.map aY)) (hb:s0.bs[k]?=some (.mem 0 false [x,.str cont,c1,c2,c3,c4,c5])):Ev pv 12 [.ptr k 0 0] s0 (.int .i64 (Kd l cont)) s0:=by
 have hbl:=BH hS
 have il:∀p∈l,p.fit:=fun p hp=>⟨by have:=(hS.2.1 p hp).1;omega,by have:=(hS.2.1 p hp).2;omega⟩
 have Wt:=hS.1;have YJ:=hS.2.2;refine Ev.iZ rfl Tf rfl rfl rfl ?_;refine zE ?_;obtain⟨aU,hF,hH⟩:=ri s0;generalize ag .ro s0=S at*;have IL:=Arg.of hx aU;have K8:=fun(st:St) (h:V.Rows st 2 x (l.map aY))=>uB (s0:=st) (x:=.nul) (b:=[]) (c:=cont) .nul h (by simp) (by omega) il (by omega);rw[List.nil_append] at K8;refine zQ 4 ?_;have We:=Ig hb aU 0 hH;refine zQ 6 ?_;refine qv ((K8 _ (IL.rows hH))) ?_;refine zQ 5 ?_;refine qh (s:=1) (vs:=[_]) hH fun k10 st Ru hH=>?_;refine qv ((EP (hH.rows aG) (f_ _ _) (by omega))) ?_;refine ae.go (d:=.int .i64 ((te 0#32 (iN l cont)).toNat:Nat)) (st1:=_) rfl rfl (by exact EG _ _) (aa rfl _) ?_;refine ae.go (d:=.int .i64 (((te 0#32 (iN l cont)).toNat*65536:Nat):Int)) (st1:=_) rfl rfl (by exact E0 _ _) (aa rfl _) ?_;refine qm ?_;refine qv (JU (f_ _ _) (by omega) 1#32) ?_;refine ae.go (d:=oz (te 1#32 (iN l cont) &&&65535#32)) (st1:=_) rfl rfl (by exact Ho _ 65535#32 _) (aa rfl _) ?_;refine ae.go (d:=.int .i64 ((te 1#32 (iN l cont) &&&65535#32).toNat:Nat)) (st1:=_) rfl rfl (by exact EG _ _) (aa rfl _) ?_;refine ae.go (d:=.int .i64 (Kd l cont)) (st1:=_) rfl rfl (by exact I' _ _ _) (aa rfl _) ?_;refine zQ 2 ?_;refine ai.ret ⟨rx,_,rfl,rl aU hH (rfl)⟩
section
variable{P:Pv} {ops:Array Oper} {rest:List Oper} {fr az:Fr} {Q:Fr→St→Prop} {ty:TypeId} {pp:String} {a:Array Edge} {g:Option (Nat×Bool)} {dst:Nat} {st:St}
theorem ae.Mv {t e:TypeId} {xo io:Operand} {k v off m s q:Nat} {kk:IntKind} (hg:ax ops fr ⟨some dst,.indexAddr t xo io,ty,pp,a,g⟩=some true) (hx:fr.ev xo=.win k v off m s) (hi:fr.ev io=.int kk (q:Nat)) (ht:P.bZ t=some (.slice e)) (hs:bR P e=some s) (hm:(st.bW k v).isSome=true) (hq:q<m) (hp:fr.put dst (.ptr k v (off+q*s))=az)
  (h:ae P ops rest az st Q):ae P ops (⟨some dst,.indexAddr t xo io,ty,pp,a,g⟩::rest) fr st Q:=by
 refine ae.go hg rfl (d:=.ptr k v (off+q*s)) (st1:=st) ?_ hp h;simp only[dE,hx,hi,bM,ht,hs,Option.bind_some];rw[if_pos ⟨trivial,by omega,by omega,hm⟩];rfl
end
theorem np {x y:Oper} {fi fj:Fr} {si oH sj Em:St} {a:Operand} {k v:Nat} {ar:Bool} {c:List D} (hy:gA y.op=none) (hx:gA x.op=some a) (ha:(fi.ev a).lQ=some k) (h1:sj.bs[k]?=some (.mem v ar c)) (h2:Em.bs[k]?=some (.mem v ar c)) (h3:si.bs[k]?=some (.mem v ar c)) (hr:refs c≤si.bs.length):gM x fi si oH y fj sj Em=true:=by
 unfold gM;simp only[hy,hx,ha,Bool.and_eq_true];refine⟨lW h1 h2,?_⟩;unfold mR;simp only[h3]
 split
 ·rfl
 ·simpa using hr
theorem Dd {s0:St} {P Q:Pg} (hP:P.MV s0) (hQ:Q.TY s0) (u_:P.code.map kV=Q.code.map kV) (hst:P.aF=Q.aF):Ev pv 15 [P.d,Q.d] s0 (.bool true) s0:=by
 have hcl:=hQ.cl;have kW:=hQ.sl;have HE:P.code.length=Q.code.length:=by have:=congrArg List.length u_;simpa using this
 have YH:=jt hP.c;have hcp2:=jt hP.s;have YG:=jt hQ.c;have Xl:=jt hQ.s
 have uX:∀(st:St),V.Rows st 1 P.sd (P.aF.map ay)→V.Rows st 1 Q.sd (Q.aF.map ay)→Ev pv 36 [P.sd,Q.sd] st (.bool true) st:=fun st h h2=>by
  have:=z7 (s0:=st) h h2 (by rw[hst];exact Nat.le_trans kW (by decide)) (Nat.le_trans kW (by decide))
  rwa [decide_eq_true hst] at this
 refine Ev.iZ rfl Tc rfl rfl rfl ?_;refine zE ?_;obtain⟨aU,hF,hH⟩:=ri s0;generalize ag .ro s0=S at*;have Cg:=Arg.of hP.c aU;have K8:=Arg.of hP.s aU;have Ua:=Arg.of hQ.c aU;have T_:=Arg.of hQ.s aU;have QA:refs [Q.cd,Q.sd]≤s0.bs.length:=by have:=Ua.2;have:=T_.2;simp only[refs];omega
 have hle:∀{st:St} {H:List aZ},Has s0.bs.length S st H→s0.bs.length≤st.bs.length:=fun h=>by have:=h.ex.len;rw[aU] at this;exact this
 refine qq<|qj fun K hK=>qb hH fun k2 st hk2 hH=>?_;dsimp only[u2,u1,u3,u4,setMany,u5,u6,D.cells,Nat.reduceAdd,aX,Pg.d,Pg.cs] at hH;refine qb hH fun k3 st DQ hH=>?_;dsimp only[u2,u1,u3,u4,setMany,u5,u6,D.cells,Nat.reduceAdd,aX,Pg.d,Pg.cs] at hH;refine qm ?_;refine qe hK ?_;have Ew:(((P.code.length:Nat):Int) !=((Q.code.length:Nat):Int))=false:=by rw[HE];simp
 refine qq<|qq<|qj fun K hK=>qp (o:=0) ?_;refine ql hH aV ?_;refine qn ?_;simp only[List.length_map];refine qp (o:=0) ?_;refine ql hH aG ?_;refine qn ?_;simp only[List.length_map];refine qg ?_;refine qm ?_;refine qp (o:=1) ?_ (hg:=wi Ew);refine ql hH aV ?_ (hg:=wi Ew);refine qp (o:=1) ?_ (hg:=wi Ew);refine ql hH aG ?_ (hg:=wi Ew);refine qv (uX _ (K8.rows hH) (T_.rows hH)) ?_ (hg:=wi Ew);refine qg ?_ (hg:=wi Ew);refine qu Ew ?_;refine qe hK<|ai.cond (v:=false) (by dsimp only[Fr.ev,Fr.get,nth,V.look];rfl) (fun h=>by cases h) (fun _=>?_);refine ai.skip<|qq<|qq<|qj fun K hK=>qm ?_;refine qe hK<|ai.block<|ai.loop (fun mm fr st=>∃(i:Nat),fr.clean=⟨8,[o0 fr 0,o0 fr 1,.ptr k2 0 0,.ptr k3 0 0,o0 fr 4,.int .i64 (i:Nat),o0 fr 6,o0 fr 7],[]⟩∧Has s0.bs.length S st (.box k3 (.mem 0 false [Q.cd,Q.sd])::.box k2 (.mem 0 false [P.cd,P.sd])::[])∧(i+mm=P.code.length)) (P.code.length) ?_ ?_
 ·exact⟨0,rfl,hH,by omega⟩
 rintro mm fr st ⟨i,hfr,hH,hi⟩;rw[hfr];clear hfr;generalize o0 fr=ee;clear fr;refine qq<|qq<|qj fun K hK=>qm ?_;refine qp (o:=0) ?_;refine ql hH aV ?_;refine qn ?_;simp only[List.length_map];refine qg ?_;refine qe hK ?_
 by_cases hil:i<P.code.length
 ·obtain⟨x,hx⟩:∃x,P.code[i]?=some x:=⟨P.code[i]'hil,List.getElem?_eq_getElem _⟩
  obtain⟨y,hy⟩:∃y,Q.code[i]?=some y:=⟨Q.code[i]'(by omega),List.getElem?_eq_getElem _⟩
  have IK:kV x=kV y:=by
   have:=congrArg (fun l=>l[i]?) u_;simp only[List.getElem?_map,hx,hy,Option.map_some,Option.some.injEq] at this;exact this
  obtain⟨ho,hx1,hy1,nb⟩:x.op=y.op∧x.x=y.x∧x.y=y.y∧x.rs=y.rs:=by
   unfold kV at IK;simp only[Prod.mk.injEq] at IK;exact IK
  obtain⟨kq,vq,N8,Ur,Ni⟩:∃k v,Q.cd=.win k v 0 Q.code.length 4∧s0.bs[k]?=some (.mem v true (Q.code.map aX).flatten)∧refs (Q.code.map aX).flatten≤s0.bs.length:=hQ.x.resolve_left (fun h=>by rw[h] at hy;cases hy);have gT:=(List.getElem?_eq_some_iff.1 Ur).1;have fQ:∀{st:St} {H:List aZ},Has s0.bs.length S st H→st.bs[kq]?=some (.mem vq true (Q.code.map aX).flatten):=fun h=>(h.ex.low kq gT).trans (aU▸Ur)
  have wQ:∀{st:St} {H:List aZ},Has s0.bs.length S st H→(fZ pv 49 (.ptr kq vq (0+i*4)) st).map (fun d=>(d,st))=some (.agg (aX y),st):=fun h=>by
   have h1:=jD (s:=4) (es:=Q.code.map aX) (fun e he=>by obtain⟨q,_,rfl⟩:=List.mem_map.1 he;rfl) i _ (mo hy);simp only[fZ,St.mem_of (fQ h),Option.bind_some,Nat.zero_add]
   have hd:dj pv 49 ((Q.code.map aX).flatten.drop (i*4))=some (.agg (((Q.code.map aX).flatten.drop (i*4)).take 4)):=by
    show Option.bind (some 4) (fun n=>if n≤((Q.code.map aX).flatten.drop (i*4)).length then some (D.agg (((Q.code.map aX).flatten.drop (i*4)).take n)) else none)=_;have h2:=congrArg List.length h1;rw[List.length_take] at h2;have h3:(aX y).length=4:=rfl;rw[Option.bind_some,if_pos (by omega)]
   rw[hd,h1];rfl
  have Qi:=hP.i x (List.mem_of_getElem? hx);have Vj:=hQ.i y (List.mem_of_getElem? hy);have VK:=mo hx;have Wm:∀{st:St} {H:List aZ},Has s0.bs.length S st H→(st.bW kq vq).isSome=true:=fun h=>by rw[St.mem_of (fQ h)];rfl
  have W4:i<Q.code.length:=by omega
  refine qD rfl (by simp;omega) ?_;refine ai.skip<|qq<|ai.block ?_;change ai _ _ _ _ _ _;refine qq ?_;generalize hK:bn _ _ _ _=K;refine ai.Ia rfl ?_;refine gf.cons ?_;refine qp (o:=0) ?_;refine ae.nil ⟨rfl,?_⟩;refine gf.cons ?_;refine ql hH aV ?_;refine ae.nil ⟨rfl,?_⟩;refine gf.cons ?_;refine qm ?_;refine ae.nil ⟨rfl,?_⟩;refine gf.cons ?_;refine ae.oL rfl (ev rfl) (ev rfl) (Cg.rows hH) rfl rfl VK (fun _=>(aa rfl _)) (fun U' QT=>?_);refine ae.nil ⟨rfl,?_⟩;refine gf.cons ?_;refine qR ?_;refine ae.nil ⟨rfl,?_⟩;refine gf.cons ?_;refine qp (o:=0) ?_;refine ae.nil ⟨rfl,?_⟩;refine gf.cons ?_;refine ql hH aG ?_;refine ae.nil ⟨rfl,?_⟩;refine gf.cons ?_;refine qm ?_;refine ae.nil ⟨rfl,?_⟩;refine gf.cons ?_;refine ae.Mv rfl (by exact N8) (ev rfl) rfl rfl (Wm hH) W4 (aa rfl _) ?_;refine ae.nil ⟨rfl,?_⟩;refine gf.cons ?_;refine ae.go (d:=.agg (aX y)) (st1:=_) rfl rfl (by exact wQ hH) (aa rfl _) ?_;refine ae.nil ⟨rfl,?_⟩;refine gf.cons ?_;refine qa hH fun k6 st J' hH=>?_;refine ae.nil ⟨rfl,?_⟩;refine gf.cons ?_;refine qa hH fun k7 st Pj hH=>?_;refine ae.nil ⟨rfl,?_⟩;refine gf.cons ?_;refine qS hH aV fun st hH=>?_;dsimp only[u2,u1,u3,u4,setMany,u5,u6,D.cells,Nat.reduceAdd,aX,Pg.d,Pg.cs] at hH;refine ae.nil ⟨by exact Bool.and_eq_true_iff.2 ⟨np rfl rfl rfl (Has.at (by assumption) bE) (Has.at (by assumption) bE) (Has.at (by assumption) aG) (Nat.le_trans QA (hle (by assumption))),Bool.and_eq_true_iff.2 ⟨np rfl rfl (by exact congrArg D.lQ N8) (fQ (by assumption)) (fQ (by assumption)) (fQ (by assumption)) (Nat.le_trans Ni (hle (by assumption))),Bool.and_eq_true_iff.2 ⟨np rfl rfl rfl (fQ (by assumption)) (fQ (by assumption)) (fQ (by assumption)) (Nat.le_trans Ni (hle (by assumption))),rfl⟩⟩⟩,?_⟩;refine gf.cons ?_;refine qS hH aG fun st hH=>?_;dsimp only[u2,u1,u3,u4,setMany,u5,u6,D.cells,Nat.reduceAdd,aX,Pg.d,Pg.cs] at hH;refine ae.nil ⟨rfl,?_⟩;refine gf.nil ?_;subst hK;have dQ:(x.op !=y.op)=false:=by simp[ho]
  have fS:(x.x !=y.x)=false:=by simp[hx1]
  have jb:(x.y !=y.y)=false:=by simp[hy1]
  have O_:Ev pv 37 [x.rd,y.rd] st (.bool true) st:=by
   have h1:=(Arg.of Qi.1 aU).rows hH;have h2:=(Arg.of Vj.1 aU).rows hH;rw[←nb] at h2;have:=vP (s0:=st) h1 h2 (Nat.le_trans Qi.2 (by decide)) (Nat.le_trans Qi.2 (by decide))
   rwa [decide_eq_true rfl] at this
  refine qq<|qj fun K hK=>qp (o:=0) ?_;refine ql hH aV ?_;refine qp (o:=0) ?_;refine ql hH aG ?_;refine qg ?_;refine qm ?_;refine qp (o:=1) ?_ (hg:=wi dQ);refine ql hH aV ?_ (hg:=wi dQ);refine qp (o:=1) ?_ (hg:=wi dQ);refine ql hH aG ?_ (hg:=wi dQ);refine qg ?_ (hg:=wi dQ);refine qu dQ ?_;refine qm ?_;refine qp (o:=2) ?_ (hg:=wi fS);refine ql hH aV ?_ (hg:=wi fS);refine qp (o:=2) ?_ (hg:=wi fS);refine ql hH aG ?_ (hg:=wi fS);refine qg ?_ (hg:=wi fS);refine qu fS ?_;refine qm ?_;refine qp (o:=3) ?_ (hg:=wi jb);refine ql hH aV ?_ (hg:=wi jb);refine qp (o:=3) ?_ (hg:=wi jb);refine ql hH aG ?_ (hg:=wi jb);refine ae.cu (aj rfl rfl rfl jb) rfl O_ (aa rfl _) ?_;refine qg ?_ (hg:=wi jb);refine qu jb ?_;refine qe hK<|ai.cond (v:=false) (by dsimp only[Fr.ev,Fr.get,nth,V.look];rfl) (fun h=>by cases h) (fun _=>?_);refine ai.skip<|qj fun K hK=>qm ?_;refine ae.eN (z:=((i+1:Nat):Int)) rfl (ev rfl) (ev rfl) (by(try simp only[List.length_reverse,List.length_cons,List.length_nil,List.length_append,List.length_map,List.length_set]);rw[wrap_i64 (by omega) (by omega)]<;>omega) (aa rfl _) ?_;refine qm ?_;refine qe hK ?_;exact⟨mm-1,by omega,⟨i+1,rfl,hH.drop 2,by omega⟩⟩
 ·refine qE rfl (by simp;omega) ?_;refine ai.exit<|qq<|qj fun K hK=>qm ?_;refine qe hK<|ai.ret ⟨rx,_,rfl,rl aU hH (rfl)⟩
end Go.Proofs.YthahmilhpmfkfaaGreat
namespace Go.Proofs.YthahmilhpmfkfaaGreat
open Go.V Go Go.RowKit
structure JL where
 x:D
 l:List iv
 c:List UInt8
def JL.d (s:JL):D:=.agg [s.x,.str s.c]
structure JL.ok (s:JL):Prop where
 hx:gY s.x 2 (s.l.map aY)
 ln:s.l.length≤1048576
 fit:∀p∈s.l,p.fit
 hc:s.c.length≤1048576
variable{H:Type} {enc:TypeId×Value→H} {w:World} {spare:Nat→Bool} {held:Bool} {d:DataW H}
theorem JF (h:Rd enc Tryz.prog w spare held 41 d):∃p:iv,(jn d).cells?=some (jn d).cells∧(jn d).cells=aY p∧p.nm.length≤Rows.uptoBulk d∧p.tx.length≤Rows.uptoBulk d:=by
 obtain⟨parts,rfl,hp⟩:=h.struct Tryz.underlying41
 cases hp with
 |cons a hp=>cases hp with
  |cons b hp=>cases hp with
   |nil=>
    obtain⟨x,rfl⟩:=a.string Tryz.underlying9;obtain⟨y,rfl⟩:=b.string Tryz.underlying9;refine⟨⟨x,y⟩,rfl,rfl,?_,?_⟩<;>simp only[Rows.uptoBulk,Rows.uptoBulkAll]<;>omega
theorem JE (h:Rd enc Tryz.prog w spare held 24 d):∃s:JL,jn d=s.d∧(Rows.uptoBulk d≤1048576→s.ok):=by
 obtain⟨parts,rfl,hp⟩:=h.struct Tryz.underlying24
 cases hp with
 |cons a2 hp=>cases hp with
  |cons b2 hp=>cases hp with
   |nil=>
    rename_i d3 d4;obtain⟨y,rfl⟩:=b2.string Tryz.underlying9
    rcases a2.slice Tryz.underlying22 with rfl|⟨elems,rest,rfl,he⟩
    ·refine⟨⟨.nul,[],y⟩,rfl,fun hb=>⟨.inl ⟨rfl,rfl⟩,by simp,fun p hp=>(by cases hp),?_⟩⟩;simp only[Rows.uptoBulk,Rows.uptoBulkAll] at hb;show y.length≤_;omega
    ·obtain⟨l,h1,h2,h3⟩:=MG (s:=2) (f:=aY) (Q:=fun(p:iv) x=>p.nm.length≤Rows.uptoBulk x∧p.tx.length≤Rows.uptoBulk x) (rest:=rest) fun x hx=>by
      obtain⟨p,g1,g2,g3,g4⟩:=JF (he x hx);exact⟨p,g1,g2,rfl,g3,g4⟩
     refine⟨⟨_,l,y⟩,rfl,fun hb=>⟨h1,?_,fun p hp=>?_,?_⟩⟩
     ·have:=Hg elems;simp only[Rows.uptoBulk,Rows.uptoBulkAll] at hb;show l.length≤_;omega
     ·obtain⟨x,hx,h4,h5⟩:=h3 p hp;have:=Hh hx;simp only[Rows.uptoBulk,Rows.uptoBulkAll] at hb;exact⟨by omega,by omega⟩
     ·simp only[Rows.uptoBulk,Rows.uptoBulkAll] at hb;show y.length≤_;omega
end Go.Proofs.YthahmilhpmfkfaaGreat
namespace Go.Proofs.YthahmilhpmfkfaaGreat
open Go.V Go
def BF (n:Nat) (i:aK):aK:=if i.op=2 then⟨2,i.x+n,i.y+n,i.rd,i.rs⟩ else if i.op=3 then⟨3,i.x+n,i.y,i.rd,i.rs⟩ else i
theorem rL (n:Nat) {op:Int} (x y:Int) (rs:List Rg) (h2:op≠2) (h3:op≠3):BF n (cH op x y rs)=cH op x y rs:=by
 unfold BF cH;rw[if_neg h2,if_neg h3]
theorem zU (n s o:Nat) (lz:Bool):BF n (lX s o lz)=lX (s+n) (o+n) lz:=by
 cases lz
 ·show(⟨2,((s+1:Nat):Int)+n,(o:Int)+n,_,_⟩:aK)=cH 2 ((s+n+1:Nat):Int) ((o+n:Nat):Int) [];unfold cH
  congr 1;omega
 ·show(⟨2,(o:Int)+n,((s+1:Nat):Int)+n,_,_⟩:aK)=cH 2 ((o+n:Nat):Int) ((s+n+1:Nat):Int) [];unfold cH
  congr 1;omega
theorem E2 (n e:Nat):BF n (j9 e)=j9 (e+n):=by
 show(⟨3,(e:Int)+n,0,_,_⟩:aK)=cH 3 ((e+n:Nat):Int) 0 [];unfold cH
 congr 1
theorem vU {c:Nat→List aK} {z n:Nat} (hc:∀b,c (b+n)=(c b).map (BF n)):∀k b,eZ c z k (b+n)=(eZ c z k b).map (BF n)
 |0,b=>rfl
 |k+1,b=>by
  have h:=vU hc (z:=z) k (b+z);rw[Nat.add_right_comm] at h;rw[eZ,eZ,List.map_append,hc,h]
theorem BP {sp TM:Nat→aK} {c:Nat→List aK} {z n:Nat} (hs:∀s,TM (s+n)=BF n (sp s)) (hc:∀b,c (b+n)=(c b).map (BF n)):∀k b,e_ TM c z k (b+n)=(e_ sp c z k b).map (BF n)
 |0,b=>rfl
 |k+1,b=>by
  have h:=BP hs hc (z:=z) k (b+1+z);have e1:b+1+z+n=b+n+1+z:=by omega
  have e2:b+n+1=b+1+n:=by omega
  rw[e1] at h;rw[e_,e_,List.map_cons,List.map_append,hs,h,e2,hc]
theorem H7 {nd:bp} {c:Nat→List aK} {z n b:Nat} (hc:∀b,c (b+n)=(c b).map (BF n)):mS nd c z (b+n)=(mS nd c z b).map (BF n):=by
 unfold mS
 split
 ·rw[List.map_append,vU hc,List.map_cons,List.map_append,zU,List.map_cons,List.map_nil,E2];have e1:b+n+nd.mn.toNat*z=b+nd.mn.toNat*z+n:=by omega
  have e2:b+nd.mn.toNat*z+n+1=b+nd.mn.toNat*z+1+n:=by omega
  have e3:b+nd.mn.toNat*z+n+z+2=b+nd.mn.toNat*z+z+2+n:=by omega
  rw[e1,e2,e3,hc]
 ·rw[List.map_append,vU hc];have e1:b+n+nd.mn.toNat*z=b+nd.mn.toNat*z+n:=by omega
  rw[e1]
  congr 1
  refine BP (fun s=>?_) hc _ _;rw[zU]
  congr 1
  omega
mutual
theorem tk (n:Nat):∀(t:Tr) (b:Nat),aM t (b+n)=(aM t b).map (BF n)
 | .mk nd ks,b=>by
  have hc:=fun b=>CC n ks b;have ha:=fun e b=>CM n e ks b;simp only[aM]
  split
  ·rw[List.map_cons,List.map_nil,rL _ _ _ _ (by decide) (by decide)]
  split
  ·rw[List.map_cons,List.map_nil,rL _ _ _ _ (by decide) (by decide)]
  split
  ·rw[List.map_cons,List.map_nil,rL _ _ _ _ (by decide) (by decide)]
  split
  ·exact hc b
  split
  ·rw[Nat.add_right_comm];exact ha _ b
  split
  ·exact H7 hc
  split
  ·rw[List.map_cons,List.map_append,List.map_cons,List.map_nil,rL _ _ _ _ (by decide) (by decide),rL _ _ _ _ (by decide) (by decide),Nat.add_right_comm,hc]
  ·rfl
theorem CC (n:Nat):∀(ts:aE) (b:Nat),eo ts (b+n)=(eo ts b).map (BF n)
 | .nil,b=>by simp only[eo,List.map_nil]
 | .cons t ts,b=>by
  have h:=CC n ts (b+t.sz);rw[Nat.add_right_comm] at h;simp only[eo,List.map_append];rw[tk n t b,h]
theorem CM (n:Nat):∀(e:Nat) (ts:aE) (b:Nat),di (j9 (e+n)) ts (b+n)=(di (j9 e) ts b).map (BF n)
 |e,.nil,b=>by simp only[di,List.map_nil]
 |e,.cons t ts,b=>by
  have h:=CM n e ts (b+t.sz+2);have h1:=tk n t (b+1);have e1:b+t.sz+2+n=b+n+t.sz+2:=by omega
  have e2:b+1+n=b+n+1:=by omega
  have e3:b+1+t.sz+1+n=b+n+1+t.sz+1:=by omega
  rw[e1] at h;rw[e2] at h1;simp only[di]
  split
  ·exact tk n t b
  ·rw[List.map_cons,List.map_append,List.map_cons,zU,E2,h1,h,e3]
end
def pB (lo hi:Nat) (i:aK):Prop:=i.op≠7∧(i.op=2→((lo:Int)≤i.x∧i.x≤hi)∧(lo:Int)≤i.y∧i.y≤hi)∧(i.op=3→(lo:Int)≤i.x∧i.x≤hi)
theorem pB.mono {lo hi uQ iw:Nat} {i:aK} (h:pB lo hi i) (h1:uQ≤lo) (h2:hi≤iw):pB uQ iw i:=
 ⟨h.1,fun e=>by have:=h.2.1 e;omega,fun e=>by have:=h.2.2 e;omega⟩
theorem pB.mk {lo hi:Nat} {op:Int} (x y:Int) (rs:List Rg) (h2:op≠2) (h3:op≠3) (h7:op≠7):pB lo hi (cH op x y rs):=⟨h7,fun h=>absurd h h2,fun h=>absurd h h3⟩
theorem pB.sp {lo hi s o:Nat} {lz:Bool} (h1:lo≤s+1∧s+1≤hi) (h2:lo≤o∧o≤hi):pB lo hi (lX s o lz):=by
 cases lz
 ·exact⟨by show(2:Int)≠7;decide,fun _=>by show((lo:Int)≤((s+1:Nat):Int)∧((s+1:Nat):Int)≤hi)∧(lo:Int)≤(o:Int)∧(o:Int)≤hi;omega,fun h=>absurd h (by show¬(2:Int)=3;decide)⟩
 ·exact⟨by show(2:Int)≠7;decide,fun _=>by show((lo:Int)≤(o:Int)∧(o:Int)≤hi)∧(lo:Int)≤((s+1:Nat):Int)∧((s+1:Nat):Int)≤hi;omega,fun h=>absurd h (by show¬(2:Int)=3;decide)⟩
theorem pB.jp {lo hi e:Nat} (h1:lo≤e∧e≤hi):pB lo hi (j9 e):=
 ⟨by show(3:Int)≠7;decide,fun h=>absurd h (by show¬(3:Int)=2;decide),fun _=>by show(lo:Int)≤(e:Int)∧(e:Int)≤hi;omega⟩
theorem vV {c:Nat→List aK} {z:Nat} (hc:∀b,∀i∈c b,pB b (b+z) i):∀k b,∀i∈eZ c z k b,pB b (b+k*z) i
 |0,b,i,hi=>by cases hi
 |k+1,b,i,hi=>by
  simp only[eZ] at hi;rw[Nat.succ_mul]
  rcases List.mem_append.1 hi with hi|hi
  ·exact(hc b i hi).mono (Nat.le_refl _) (by omega)
  ·exact(vV hc k _ i hi).mono (by omega) (by omega)
theorem BQ {sp:Nat→aK} {c:Nat→List aK} {z lo hi:Nat} (hs:∀s,lo≤s→s+1≤hi→pB lo hi (sp s)) (hc:∀b,∀i∈c b,pB b (b+z) i):∀k b,lo≤b→b+k*(z+1)≤hi→∀i∈e_ sp c z k b,pB lo hi i
 |0,b,_,_,i,iw=>by cases iw
 |k+1,b,h1,h2,i,iw=>by
  simp only[e_] at iw;rw[Nat.succ_mul] at h2
  rcases List.mem_cons.1 iw with rfl|iw
  ·exact hs b h1 (by omega)
  ·rcases List.mem_append.1 iw with iw|iw
   ·exact(hc _ i iw).mono (by omega) (by omega)
   ·exact BQ hs hc k _ (by omega) (by omega) i iw
mutual
theorem tm:∀(t:Tr) (b:Nat),t.ok→∀i∈aM t b,pB b (b+t.sz) i
 | .mk n ks,b,cn,i,hi=>by
  simp only[Tr.ok] at cn;have hc:=fun b=>CD ks b cn.2;obtain⟨_,hq⟩:=cn.1;simp only[aM] at hi;simp only[Tr.sz]
  by_cases q2:n.op=2
  ·rw[if_pos q2] at hi;simp only[List.mem_cons,List.not_mem_nil,or_false] at hi;subst hi;exact pB.mk _ _ _ (by decide) (by decide) (by decide)
  rw[if_neg q2] at hi
  by_cases q7:n.op=7
  ·rw[if_pos q7] at hi;simp only[List.mem_cons,List.not_mem_nil,or_false] at hi;subst hi;exact pB.mk _ _ _ (by decide) (by decide) (by decide)
  rw[if_neg q7] at hi
  by_cases q8:n.op=8
  ·rw[if_pos q8] at hi;simp only[List.mem_cons,List.not_mem_nil,or_false] at hi;subst hi;exact pB.mk _ _ _ (by decide) (by decide) (by decide)
  rw[if_neg q8] at hi
  have hz:∀s k,br n s k=if n.op=4 then s+2*(k-1) else if n.op=6 then s+2 else if n.op=5 then(if n.mx=-1 then n.mn.toNat*s+s+2 else n.mn.toNat*s+(n.mx.toNat-n.mn.toNat)*(s+1)) else s:=by
   intro s k;unfold br;rw[if_neg (by omega)]
  by_cases q3:n.op=3
  ·rw[if_pos q3] at hi;rw[hz,if_neg (by omega),if_neg (by omega),if_neg (by omega)];exact hc b i hi
  rw[if_neg q3] at hi
  by_cases q4:n.op=4
  ·rw[if_pos q4] at hi;have Nd:br n ks.sz ks.len=ks.sz+2*(ks.len-1):=by rw[hz,if_pos q4]
   rw[Nd] at hi⊢;exact CN ks b (b+(ks.sz+2*(ks.len-1))) cn.2 (Nat.le_refl _) i hi
  rw[if_neg q4] at hi
  by_cases q5:n.op=5
  ·rw[if_pos q5] at hi;rw[hz,if_neg q4,if_neg (by omega),if_pos q5];unfold mS at hi
   by_cases qm:n.mx=-1
   ·rw[if_pos qm] at hi⊢
    rcases List.mem_append.1 hi with hi|hi
    ·exact(vV hc _ _ i hi).mono (Nat.le_refl _) (by omega)
    ·rcases List.mem_cons.1 hi with rfl|hi
     ·exact pB.sp (by omega) (by omega)
     ·rcases List.mem_append.1 hi with hi|hi
      ·exact(hc _ i hi).mono (by omega) (by omega)
      ·simp only[List.mem_cons,List.not_mem_nil,or_false] at hi;subst hi;exact pB.jp (by omega)
   ·rw[if_neg qm] at hi⊢
    rcases List.mem_append.1 hi with hi|hi
    ·exact(vV hc _ _ i hi).mono (Nat.le_refl _) (by omega)
    ·exact BQ (fun s h1 h2=>pB.sp (by omega) (by omega)) hc _ _ (by omega) (by omega) i hi
  rw[if_neg q5] at hi
  by_cases q6:n.op=6
  ·rw[if_pos q6] at hi;rw[hz,if_neg q4,if_pos q6]
   rcases List.mem_cons.1 hi with rfl|hi
   ·exact pB.mk _ _ _ (by decide) (by decide) (by decide)
   ·rcases List.mem_append.1 hi with hi|hi
    ·exact(hc _ i hi).mono (by omega) (by omega)
    ·simp only[List.mem_cons,List.not_mem_nil,or_false] at hi;subst hi;exact pB.mk _ _ _ (by decide) (by decide) (by decide)
  ·rw[if_neg q6] at hi;cases hi
theorem CD:∀(ts:aE) (b:Nat),ts.ok→∀i∈eo ts b,pB b (b+ts.sz) i
 | .nil,b,_,i,hi=>by simp[eo] at hi
 | .cons t ts,b,cn,i,hi=>by
  simp only[aE.ok] at cn;simp only[eo] at hi;simp only[aE.sz]
  rcases List.mem_append.1 hi with hi|hi
  ·exact(tm t b cn.1 i hi).mono (Nat.le_refl _) (by omega)
  ·exact(CD ts _ cn.2 i hi).mono (by omega) (by omega)
theorem CN:∀(ts:aE) (b e:Nat),ts.ok→b+(ts.sz+2*(ts.len-1))≤e→∀i∈di (j9 e) ts b,pB b e i
 | .nil,b,e,_,_,i,hi=>by simp[di] at hi
 | .cons t ts,b,e,cn,he,i,hi=>by
  simp only[aE.ok] at cn;simp only[di] at hi;simp only[aE.sz,aE.len] at he
  by_cases q:ts.len=0
  ·rw[if_pos q] at hi;exact(tm t b cn.1 i hi).mono (Nat.le_refl _) (by omega)
  ·rw[if_neg q] at hi
   rcases List.mem_cons.1 hi with rfl|hi
   ·exact pB.sp (by omega) (by omega)
   ·rcases List.mem_append.1 hi with hi|hi
    ·exact(tm t _ cn.1 i hi).mono (by omega) (by omega)
    ·rcases List.mem_cons.1 hi with rfl|hi
     ·exact pB.jp (by omega)
     ·exact(CN ts _ e cn.2 (by omega) i hi).mono (by omega) (by omega)
end
theorem A' (r:Nat) (c:List aK) (s:List Int):gB [] r c s=⟨c,s,0,0⟩:=by simp only[gB]
end Go.Proofs.YthahmilhpmfkfaaGreat
namespace Go.Proofs.YthahmilhpmfkfaaGreat
open Go.V Go
end Go.Proofs.YthahmilhpmfkfaaGreat
