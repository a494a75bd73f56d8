/-
 simple: kids give their place to their own kids; kids once.
-/
import Derived.Test.YtappgjdiplibbaaGreatYGHs
import Derived.Test.YtappgjdiplibbaaGreatYGQg
import Derived.Test.YtappgjdiplibbaaGreatYGPb
import Derived.Test.YtappgjdiplibbaaGreatYSrx
import Derived.Test.YtappgjdiplibbaaGreatYM2
import Derived.Test.YtappgjdiplibbaaGreatYKa
import Derived.Test.YtappgjdiplibbaaGreatYGCa
set_option maxRecDepth 100000
set_option maxHeartbeats 4000000
set_option linter.all false
open List renaming length_map->γ,map_append->ε,length_nil->η,length_append->ι,length_cons->κ,getElem?_append_left->μ,take_length->ξ,getElem?_set_self->ο,length_take->ρ,take_add_one->ς,getElem?_append_right->υ,getElem?_set_ne->φ,mem_of_getElem?->χ,mem_of_mem_take->ψ,flatten_append->Δ,mem_cons_self->Θ,mem_map->Φ,append_nil->Ψ,getElem?_eq_some_iff->Q2,append_assoc->Q4,foldl->Q9,mem_append->QX,length_replicate->QW,replicate->QK,map_eq_nil_iff->QV,map_cons->QG,filter_append->QH,mem_singleton->QC,flatten_cons->QT,getElem?_map->Qe,drop_append_of_le_length->W4,take_append_of_le_length->W5,take_left'->Wz,drop_take->Wk,take_of_length_le->W',set_append_right->WN,take_append_drop->WA,filter_eq_self->X8,mem_replicate->Z9,foldl_append->ZF,mem_filter->ZD,nil_append->ZC,drop_zero->Za,take_take->Zb,map_map->Zm,map_nil->Y0,map_set->Y1
open Nat renaming reduceAdd->δ,le_refl->ζ,le_of_ble_eq_true->ν,min_eq_left->Ω,add_sub_cancel_left->WM,div_div_eq_div_mul->Wg,pow_succ->X7,add_zero->Y3,mul_comm->Y9,sub_self->YX
open Go.V renaming byteCells->θ,Rows->Ξ
open UInt8 renaming ofNat->π,toNat_ofNat'->X9
open Go.V.D renaming cells->τ,ref->Γ,int->Q6,win->ZE,agg->YJ,str->YY
open Bool renaming and_eq_true->ω,eq_false_iff->ZK,false_and->ZT,true_and->Zf
open Go.V.u renaming nil->Q7,go->QQ,cB->QY,dP->W0,gp->YZ
open Go.V.Arg renaming of->QS
open Option renaming bind_some->Qu,map->Wv
namespace Go.Proofs.YtappgjdiplibbaaGreat
open Go.V Go
def Ac (op:Int) (l:List Q) (t:Q):aJ op (l++[t])=aJ op l++(if t.n.op=op then t.ks else[t]):=by
 unfold aJ;rw[List.flatMap_append]
 congr 1
 rw[List.flatMap_cons,List.flatMap_nil,Ψ]
def BX (op:Int) (l:List Q):(aJ op l).length<=bu l:=by
 have:=fM op l;have:=bk (aJ op l);omega
variable{hk hp:Prop}
def P1.zD (e:hk->hp:=by intro h;dsimp only[u2,u1,u3,u4,setMany,u5,u6,D.cells,Nat.reduceAdd,tC,bQ] at h;exact h):hk->hp:=e
variable{N:Nat}{S Y:St}{H:List aX}{x:D}{l:List Q}{op:Int}
def yh (hF:S.flr<=N) (Hq:np l) (hcl:bu l<=1048576) (hx:Arg N S 8 x (l.map tC)) (O:Has N S Y H):
  ∃d R,Ev pv 99 [.int .i64 op,x] Y d R/\Has N S R (.ai d 8 ((aJ op l).map tC)::H)/\(∀k,d.ref=k+1->S.bs.length<=k):=by
 have pg:=bk l;refine Ev.sv rfl abt rfl rfl rfl ?_;refine zE ?_;change ah _ _ _ _ Y _;refine M 16 ?_;refine ah.loop (λmm I U=>∃(i:Nat) (y:D),I.clean=fL I 11 [(0,.int .i64 op),(4,y),(2,x),(0,.int .i64 (l.length:Nat)),(0,.int .i64 (i:Nat))]/\Has N S U (.ai y 8 ((aJ op (l.take i)).map tC)::H)/\(i+mm=l.length)/\(∀k,y.ref=k+1->S.bs.length<=k)) (l.length) ?_ ?_
 .exact⟨0,.nul,rfl,(O.cY 8),by omega,(λk A=>by simp only[Γ] at A;omega)⟩
 rintro mm I U ⟨i,y,hfr,O,hi,gb⟩;refine zK λee=>?_;refine G 5 ?_;refine zP (λh1=>?_) λh1=>?_
 .refine G 1 ?_
  obtain⟨p,B⟩:=gx (l:=l) (i:=i)
  have gi:=χ B;have yZ:=lW B;have hpk:=Q.bR p;have adC:=bk p.ks;have xD:=BX op (l.take i);have dO:=lD B;have Si:∀U,Ξ U 8 (dL p.ks) (p.ks.map tC):=λU=>eV U (Q.cW.1 (Hq p gi)).2;have jg:=Ac op (l.take i) p;rw[show l.take i++[p]=l.take (i+1) by rw[ς,B];rfl] at jg;refine M 9 λRo Dj k7 U Wf O U O=>?_;have O:Has N S U (.box k7 (.mem 0 false (tC p))::.ai y 8 ((aJ op (l.take i)).map tC)::H):=O;refine G 8 ?_
  by_cases hop:p.n.op=op
  .have hc:(p.n.op==op)=true:=by simpa using hop
   rw[if_pos hop] at jg;refine vX ?_;refine G 4 ?_;refine y5 O bf (Si _) (by simp;omega) gb λx22 U gb O=>?_;dsimp at O;refine G 2 ?_;have O:=O.drop 1;refine G 4 ?_;exact⟨mm-1,by omega,i+1,x22,rfl,(by rw[jg,ε];exact O),by omega,gb⟩
  .have hc:(p.n.op==op)=false:=by simpa using hop
   rw[if_neg hop] at jg;refine vY ?_;refine G 2 ?_;refine yC (m:=8) (r:=tC p) O aV ?_;refine M 1 λk25 U Wm O=>?_;refine y5 O dh (O.rows aV) (by simp only[γ,κ,η];omega) gb λUy U gb O=>?_;dsimp at O;refine G 2 ?_;have O:=O.drop 2;refine G 4 ?_;exact⟨mm-1,by omega,i+1,Uy,rfl,(by rw[jg,ε];exact O),by omega,gb⟩
 .refine G 1 ?_;have hil:i=l.length:=by omega
  refine M 6 ?_;rw[hil,ξ] at O;exact⟨O,gb⟩
variable{k:Nat}{ar:Bool}{t p:Q}
def K9 (F:Y.bs[k]?=some (.mem 0 ar (tC p))) (ht:t.fa lv) (B:p.fa lv) (htl:t.dF<=1048576) (eY:p.dF<=1048576):Ev pv 123 [.agg (tC t),.ptr k 0 0] Y (.bool (t.same p)) Y:=by
 open P1 in
 have lT:k<Y.bs.length:=(Q2.1 F).1;have Qr:=Gs _ t p (ζ _) htl eY ht B;refine zM XL λS aP hF O=>?_
 have yZ:∀{U:St} {H:List aX},Has Y.bs.length S U H->iW U (.ptr k 0 0) (tC p):=λ{U H} h=>by
  refine .inl ⟨k,0,0,ar,tC p,rfl,?_,rfl⟩;unfold St.cp;rw[h.ex.low k lT,aP,F];simp
 refine M 5 λk2 U jn O=>?_;have sA:=yZ O;refine M 3 ?_;refine u.nF (d:=.agg (tC p)) rfl (ev rfl) sA rfl (ae rfl _) ?_;exact M (t:=(Qr _)) 3 trivial
def E_ (l:List Q) (p:Q):bo (l++[p])=if(bo l).any (λx=>x.same p)=true then bo l else bo l++[p]:=by
 unfold bo;rw[ZF];rfl
def Ol (hx:Ξ Y 8 x (l.map tC)) (Hq:np l) (hcl:bu l<=1048576):Ev pv 104 [x] Y (dL (bo l)) Y:=by
 open P1 in
 have pg:=bk l;refine zM X2 λS aP hF O=>?_;have hx:=QS hx aP;refine M 16 ?_;refine ah.loop (λmm I U=>∃(i:Nat) (y:D),I.clean=fL I 9 [(3,y),(2,x),(0,.int .i64 (l.length:Nat)),(0,.int .i64 (i:Nat))]/\Has Y.bs.length S U (.ai y 8 ((bo (l.take i)).map tC)::[])/\(i+mm=l.length)/\(∀k,y.ref=k+1->S.bs.length<=k)) (l.length) ?_ ?_
 .exact⟨0,.nul,rfl,(O.cY 8),by omega,(λk A=>by simp only[Γ] at A;omega)⟩
 rintro mm I U ⟨i,y,hfr,O,hi,gb⟩;refine zK λee=>?_;refine G 5 ?_;refine zP (λh1=>?_) λh1=>?_
 .refine G 1 ?_
  obtain⟨p,B⟩:=gx (l:=l) (i:=i)
  have gi:=χ B;have yZ:=lW B;have Qv:np (bo (l.take i)):=rr (λt ht=>Hq t (ψ ht));have hoc:=lM (l.take i);have JE:=bk (bo (l.take i));have dO:=lD B;have jg:=E_ (l.take i) p;rw[show l.take i++[p]=l.take (i+1) by rw[ς,B];rfl] at jg;refine M 9 λYy VX k5 U FA O U O=>?_;have O:Has Y.bs.length S U (.box k5 (.mem 0 false (tC p))::.ai y 8 ((bo (l.take i)).map tC)::[]):=O;have j_:=O.at aV;have lT:k5<U.bs.length:=(Q2.1 j_).1;have Mi:=uf (g:=123) (fZ:=[.ptr k5 0 0]) (p:=λx=>x.same p) (O.rows bf) (by omega) (λst2 X t ht=>K9 (k:=k5) (ar:=false) (by rw[X k5 lT];exact j_) (Qv t ht) (Hq p gi) (by have:=ch ht;omega) (by omega));refine G 3 ?_;refine qg (d:=.fn 123 [.ptr k5 0 0]) ?_;refine W0 rfl rfl Mi (ae rfl _) ?_;refine G 2 ?_
  cases ha:(bo (l.take i)).any (λx=>x.same p) with
  |true=>
   rw[ha,if_pos rfl] at jg;refine M 2 ?_;have O:=O.drop 1;refine G 4 ?_;exact⟨mm-1,by omega,i+1,y,rfl,(by rw[jg];exact O),by omega,gb⟩
  |false=>
   rw[ha,if_neg (by simp)] at jg;refine M 3 ?_;refine yC (m:=8) (r:=tC p) O aV ?_;refine M 1 λk18 U Wo O=>?_;refine y5 O dh (O.rows aV) (by simp only[γ,κ,η];omega) gb λYp U gb O=>?_;dsimp at O;refine G 2 ?_;have O:=O.drop 2;refine G 4 ?_;exact⟨mm-1,by omega,i+1,Yp,rfl,(by rw[jg,ε];exact O),by omega,gb⟩
 .refine G 1 ?_;have hil:i=l.length:=by omega
  rw[hil,ξ] at O;refine G 5 ?_;have Fz:aB U Y.bs.length false 16 y=some (dL (bo l)):=by rw[mE];exact O.freeze aV (kD (rr Hq)) (n:=15) (by decide)
  refine ah.ret ⟨rx,_,rfl,rl aP O (Fz)⟩
def RA {l:List Rg} (hx:Ξ Y 2 x (l.map ak)) (hl:l.length<=268435456):Ev pv 121 [x] Y (az (bB l)) Y:=by
 obtain⟨_,aK,all,rfl,hperm,kL⟩:=AM hx hl;have hM:eD l (all.foldl ek []).reverse:=mD (λx=>hperm.mem_iff) kL;rw[j6 hM];exact aK
variable{aj off:Nat}
def HI {x y:Oper} {fi fj:Fr} {si oo sj Ad:St} {a:Operand} {v:Nat} {c:List D} (hy:fQ y.op=some a) (ha:fj.ev a=.ptr k aj off) (h1:si.bs[k]?=some (.mem v ar c)) (X:oo.bs[k]?=some (.mem v ar c)):fh x fi si oo y fj sj Ad=true:=by
 unfold fh;simp[hy,ha,D.mO];exact lF h1 X
def jC (q:Q×Bool):List D:=bQ q.1.n (if q.2=true then .nul else dL q.1.ks)
def YA (zB:List (Q×Bool)):Prop:=∀q∈zB,q.2=true->q.1.ks=[]
variable{zB:List (Q×Bool)}
def rI {q:Q×Bool} (h:YA zB) (hq:q.2=true->q.1.ks=[]):YA (zB++[q]):=by
 intro x hx
 rcases QX.1 hx with hx|hx
 .exact h x hx
 .rw[QC.1 hx];exact hq
def Vl (h:YA zB) (hf:np (zB.map (·.1))):(∀e∈zB.map jC,∀d∈e,nB d=true)/\(zB.map jC).map (·.map oX)=(zB.map (·.1)).map tC:=by
 constructor
 .intro e he d hd;obtain⟨q,hq,rfl⟩:=Φ.1 he;have h1:=(Q.cW.1 (hf q.1 (Φ.2 ⟨q,hq,rfl⟩))).1.1;simp only[jC,bQ,dL,List.mem_cons,List.not_mem_nil,or_false] at hd
  rcases hd with rfl|rfl|rfl|rfl|rfl|rfl|rfl|rfl<;>try rfl
  .rw[h1];rfl
  .split<;>rfl
 .rw[Zm,Zm];apply List.map_congr_left;intro q hq;have h1:=(Q.cW.1 (hf q.1 (Φ.2 ⟨q,hq,rfl⟩))).1.1;obtain⟨t,b⟩:=q;show(jC (t,b)).map oX=tC t;unfold jC tC bQ;dsimp only at h1|-;rw[h1]
  cases b with
  |false=>rfl
  |true=>rw[show t.ks=[] from h _ hq rfl];rfl
def wm (l:List Q) (p:Q):aS (l++[p])=dz (aS l) p:=by
 unfold aS;rw[ZF];rfl
def wo {zB:List Q} {q:Q}:dz (zB++[q]) p=if p.n.op=2/\q.n.op=2 then zB++[kv q.n.rs p.n.rs] else zB++[q]++[p]:=by
 unfold dz;rw[List.getLast?_append];simp only[List.getLast?_singleton,Option.some_or]
 split
 .rw[ι,WN _ _ (by simp)];simp
 .rfl
def IM:dz [] p=[p]:=rfl
def Uk.zD (e:hk->hp:=by intro h;dsimp only[u2,u1,u3,u4,setMany,u5,u6,D.cells,Nat.reduceAdd,tC,bQ,jC] at h;exact h):hk->hp:=e
def Fq (hx:Ξ Y 8 x (l.map tC)) (Hq:np l) (hcl:bu l<=1048576):Ev pv 103 [x] Y (dL (aS l)) Y:=by
 open Uk in
 have pg:=bk l;refine zM X3 λS aP hF O=>?_;have hx:=QS hx aP;refine qq<|qj λK hK=>qm ?_;refine qe hK<|qq<|qj λK hK=>qm ?_;refine qe hK<|M 2 ?_;refine qj λK hK=>M 3 ?_;refine qe hK<|ah.block<|ah.loop (λmm I U=>∃(i:Nat) (y:D) (zB:List (Q×Bool)),I.clean=fL I 11 [(3,y),(4,x),(0,.int .i64 (l.length:Nat)),(0,.int .i64 (i:Nat))]/\Has Y.bs.length S U (.ai y 8 (zB.map jC)::[])/\(i+mm=l.length)/\(∀k,y.ref=k+1->S.bs.length<=k)/\(zB.map (·.1)=aS (l.take i))/\(YA zB)) (l.length) ?_ ?_
 .exact⟨0,.nul,[],rfl,(O.cY 8),by omega,(λk A=>by simp only[Γ] at A;omega),rfl,(λq hq=>by cases hq)⟩
 rintro mm I U ⟨i,y,zB,hfr,O,hi,gb,SN,WY⟩;refine zK λee=>?_;refine qq<|qj λK hK=>qg ?_;refine qe hK<|qq<|zP (λh1=>?_) λh1=>?_
 .refine ah.skip ?_
  obtain⟨p,B⟩:=gx (l:=l) (i:=i)
  have gi:=χ B;have yZ:=lW B;obtain⟨sA,tX⟩:=(Q.cW.1 (Hq p gi)).1;have YP:np (zB.map (·.1)):=by rw[SN];exact mF (λt ht=>Hq t (ψ ht))
  have Y6:zB.length<=l.length:=by
   have h1:=congrArg List.length SN;have X:=kJ (l.take i) [];rw[γ] at h1;unfold aS at h1;simp only[η,ρ] at X;omega
  have dO:=lD B;have jg:=wm (l.take i) p;rw[show l.take i++[p]=l.take (i+1) by rw[ς,B];rfl] at jg;refine M 3 ?_;refine qj λK hK=>M 4 λRo Dj k5 U FA O U O=>?_;refine qe hK ?_;have O:Has Y.bs.length S U (.box k5 (.mem 0 false (tC p))::.ai y 8 (zB.map jC)::[]):=O
  rcases List.eq_nil_or_concat zB with hM|⟨M0,q,hM⟩
  .subst hM;rw[<-SN,Y0,IM] at jg;refine qq<|qj λK hK=>M 2 ?_;refine yB (z:=(-1:Int)) ?_;refine qm ?_;refine qe hK ?_;have ba:decide ((-1:Int)>=0)=false:=rfl;have eO:false=false:=rfl;refine qq<|qj λK hK=>M 17 ?_;refine qe hK<|qC ?_;refine qj λK hK=>qm ?_;refine yC (m:=8) (r:=tC p) O aV ?_;refine M 1 λk54 U Dp O=>?_;refine y5 O dh (O.rows aV) (by simp only[γ,κ,η] at Y6|-;omega) gb λUv U gb O=>?_;dsimp only[u1,u2] at O;refine qm ?_;refine qe hK ?_;have O:=O.drop 2;refine qj λK hK=>M 2 ?_;refine qe hK ?_;refine⟨mm-1,by omega,⟨i+1,Uv,([]:List (Q×Bool))++[(p,false)],rfl,(by rw[ε];exact O),by omega,gb,?_,?_⟩⟩
   .rw[jg];rfl
   .exact rI WY (λh=>by cases h)
  .rw[List.concat_eq_append] at hM;subst hM;have YH:=(Q.cW.1 (YP q.1 (by simp))).1;obtain⟨xE,oW⟩:=YH;rw[<-SN,ε,QG,Y0,wo] at jg;have hM0:M0.length<1048576:=by have:=Y6;simp only[ι,κ,η] at this;omega
   have nS:((M0++[q]).map jC)[M0.length]?=some (jC q):=by rw[Qe];simp
   have hlm:((M0++[q]).map jC).length=M0.length+1:=by simp
   refine qq<|qj λK hK=>M 2 ?_;refine yB (z:=((M0.length:Nat):Int)) ?_;refine qm ?_;refine qe hK ?_;have ba:decide (((M0.length:Nat):Int)>=0)=true:=by rw[decide_eq_true_eq];omega
   by_cases hpo:p.n.op=2
   .have eO:(p.n.op==2)=true:=by simpa using hpo
    refine qq<|qj λK hK=>M 11 ?_;refine qi O bf (λTK I2=>?_) (hg:=wi eO);refine u.dJ (fo:=0) (m:=6) (o2:=0) (wi eO) (ev rfl) (by assumption) rfl rfl rfl (λ_=>(ae rfl _)) (λRm Fx=>?_);refine u.dJ (fo:=0) (m:=0) (o2:=0) (wi eO) (ev rfl) (by assumption) rfl rfl rfl (λ_=>(ae rfl _)) (λYv O4=>?_);refine M 3 ?_;refine qe hK ?_
    by_cases hqo:q.1.n.op=2
    .have hc:(q.1.n.op==2)=true:=by simpa using hqo
     rw[if_pos ⟨hpo,hqo⟩] at jg;refine vX ?_;have O:Has Y.bs.length S U (.ai .nul 2 (([]:List Rg).map ak)::.box k5 (.mem 0 false (tC p))::.ai y 8 ((M0++[q]).map jC)::[]):=O.cY 2;have TU:∀U,Ξ U 2 q.1.n.rd (q.1.n.rs.map ak):=λU=>by rw[xE];exact bC U _
     have sy:∀U,Ξ U 2 p.n.rd (p.n.rs.map ak):=λU=>by rw[sA];exact bC U _
     have hA:=O;change ah _ _ _ _ _ _;refine qq ?_;generalize hK:dN _ _ _ _=K;refine ah.Ci rfl ?_;refine nr.cons ?_;refine qm ?_;refine yY ?_;refine qm ?_;refine yY ?_;refine qi O dh λZz R6=>?_;refine yY ?_;refine yF (o2:=0) λp37 VM=>?_;refine yY ?_;refine yF (o2:=1) λZy O2=>?_;refine yY ?_;refine qo O dh ?_;refine yY ?_;refine y5 O aV (TU _) (by simp only[γ,η];omega) (λk A=>by simp only[Γ] at A;omega) λx40 U A1 O=>?_;dsimp at O;have hB:=O;refine yY ?_;refine qp (o:=0) ?_;refine yY ?_;refine qp (o:=1) ?_;refine yY ?_;refine ql O bf ?_;refine Q7 ⟨by exact Bool.and_eq_true_iff.2 ⟨HI rfl rfl (hA.at bf) (hB.at bf),rfl⟩,?_⟩;refine nr.cons ?_;refine y5 O aV (sy _) (by simp only[γ,η,ι];omega) A1 λZc U ho3 O=>?_;dsimp at O;refine yY ?_;refine qm ?_;refine Q7 ⟨rfl,?_⟩;refine nr.nil ?_;subst hK;have O:Has Y.bs.length S U (.ai Zc 2 ((q.1.n.rs++p.n.rs).map ak)::.box k5 (.mem 0 false (tC p))::.ai y 8 ((M0++[q]).map jC)::[]):=by rw[ε];exact O
     have JG:=λR (h:Ξ R 2 Zc ((q.1.n.rs++p.n.rs).map ak))=>RA h (by rw[ι];omega);refine qj λK hK=>M 3 ?_;refine qv (JG _ (O.rows aV)) ?_;refine qg (d:=.agg [.int .i64 2,az (bB (q.1.n.rs++p.n.rs)),.int .i64 0,.int .i64 0,.bool false,.int .i64 0,.int .i64 0]) ?_;refine qg (d:=.agg [.int .i64 2,az (bB (q.1.n.rs++p.n.rs)),.int .i64 0,.int .i64 0,.bool false,.int .i64 0,.int .i64 0,.nul]) ?_;refine qi O dh λUY I0=>?_;refine yG O dh λU O=>?_;dsimp[u2,u1,u3,u4,setMany,u5,u6,τ,δ,tC,bQ,jC] at O;refine qe hK ?_
     have eW:((M0++[q]).map jC).set M0.length [.int .i64 2,az (bB (q.1.n.rs++p.n.rs)),.int .i64 0,.int .i64 0,.bool false,.int .i64 0,.int .i64 0,.nul]=(M0++[(kv q.1.n.rs p.n.rs,true)]).map jC:=by
      rw[ε,WN _ _ (by simp),γ,YX,ε];rfl
     have O:Has Y.bs.length S U (.ai y 8 ((M0++[(kv q.1.n.rs p.n.rs,true)]).map jC)::[]):=by rw[<-eW];exact O.drop 2
     refine qj λK hK=>M 2 ?_;refine qe hK ?_;refine⟨mm-1,by omega,⟨i+1,y,M0++[(kv q.1.n.rs p.n.rs,true)],rfl,O,by omega,gb,?_,?_⟩⟩
     .rw[jg];simp
     .refine rI (λx hx=>WY x (List.mem_append_left _ hx)) (λ_=>rfl)
    .have hc:(q.1.n.op==2)=false:=by simpa using hqo
     rw[if_neg (λh=>hqo h.2)] at jg;refine vY ?_;refine qj λK hK=>qm ?_;refine yC (m:=8) (r:=tC p) O aV ?_;refine M 1 λk54 U Dp O=>?_;refine y5 O dh (O.rows aV) (by simp only[γ,ι,κ,η] at Y6|-;omega) gb λUv U gb O=>?_;dsimp at O;refine qm ?_;refine qe hK ?_;have O:=O.drop 2;refine qj λK hK=>M 2 ?_;refine qe hK ?_;refine⟨mm-1,by omega,⟨i+1,Uv,(M0++[q])++[(p,false)],rfl,(by rw[ε];exact O),by omega,gb,?_,?_⟩⟩
     .rw[jg];simp
     .exact rI WY (λh=>by cases h)
   .have eO:(p.n.op==2)=false:=by simpa using hpo
    rw[if_neg (λh=>hpo h.1)] at jg;refine qq<|qj λK hK=>M 17 ?_;refine qe hK<|qC ?_;refine qj λK hK=>qm ?_;refine yC (m:=8) (r:=tC p) O aV ?_;refine M 1 λk54 U Dp O=>?_;refine y5 O dh (O.rows aV) (by simp only[γ,ι,κ,η] at Y6|-;omega) gb λUv U gb O=>?_;dsimp at O;refine qm ?_;refine qe hK ?_;have O:=O.drop 2;refine qj λK hK=>M 2 ?_;refine qe hK ?_;refine⟨mm-1,by omega,⟨i+1,Uv,(M0++[q])++[(p,false)],rfl,(by rw[ε];exact O),by omega,gb,?_,?_⟩⟩
    .rw[jg];simp
    .exact rI WY (λh=>by cases h)
 .refine ah.exit ?_;have hil:i=l.length:=by omega
  rw[hil,ξ] at SN;refine qq<|qj λK hK=>M 2 ?_;refine qe hK ?_;have hz:=Vl WY (by rw[SN];exact mF Hq);have Fz:=O.uZ (L:=Y.bs.length) (n:=16) aV (λk A=>by rw[<-aP];exact gb k A) hz.1 (by decide);rw[hz.2,SN,<-mE] at Fz;refine ah.ret ⟨rx,_,rfl,rl aP O (Fz)⟩
variable{z:List D}
def Ij (hr:refs z=0):∀n,refs (Go.V.gu n z)=0:=by
 intro n;unfold Go.V.gu
 induction n with
 |zero=>rfl
 |succ n ih=>
  rw[List.replicate_succ,QT]
  have xI:∀(a b:List D),refs a=0->refs b=0->refs (a++b)=0:=by
   intro a
   induction a with
   |nil=>intro b _ F;exact F
   |cons d a Fu=>
    intro b ha F;simp only[refs,List.cons_append] at ha|-;have:=Fu b (by omega) F;omega
  exact xI _ _ hr ih
variable{s:Nat}{es:List (List D)}
def tf (he:∀e∈es,e.length=s) (i:Nat) (hi:i<=es.length):es.flatten.take (i*s)=(es.take i).flatten:=by
 have h1:es.flatten=(es.take i).flatten++(es.drop i).flatten:=by rw[<-Δ,WA]
 have X:(es.take i).flatten.length=i*s:=by rw[cQ (λe h=>he e (ψ h)),ρ,Ω hi]
 rw[h1,W5 (by omega),<-X,ξ]
variable{U:St}{P:Pv}{j n i:Nat}
def Jr {t e:TypeId} (h:Has N S U H) (hj:H[j]?=some (.ai (.win k aj off n s) s es)) (ht:P.cF t=some (.slice e)) (hz:cO P e=some z) (jP:z.length=s) (hr:refs z=0) (hi:i<=n):
  ∃R,qG P [t] (.win k aj (off+i*s) (n-i) s) U=some (.tup [],R)/\Has N S R (H.set j (.ai (.win k aj off n s) s (es.take i++QK (n-i) z))):=by
 have Dq:=(h.ok j _ hj).2;have hown:=h.own hj
 cases hown with
 |win k aj off es c hm hle hc he=>
  have A:=Dq k (by simp[aX.ai,Γ]);have Hi:=Ij hr
  have Hm:(Go.V.gu (es.length-i) z).length=(es.length-i)*s:=by
   unfold Go.V.gu;rw[cQ (s:=s) (λe he=>by rw[(Z9.1 he).2];exact jP),QW]
  have hmul:i*s+(es.length-i)*s=es.length*s:=by rw[<-Nat.add_mul];congr 1;omega
  have hw:U.wr k aj (off+i*s) (Go.V.gu (es.length-i) z)=some ⟨U.bs.set k (.mem aj true (c.take (off+i*s)++Go.V.gu (es.length-i) z++c.drop (off+i*s+(Go.V.gu (es.length-i) z).length))),U.flr,U.ro⟩:=nx hm (by omega) (iB h A.1 (.inr (Hi _)));refine⟨_,by simp only[qG,ht,hz,Qu];rw[if_pos jP,hw];rfl,?_⟩;refine h.pt hj (λn hn hne=>?_) (by simp) rfl rfl ?_ (λn hn=>.inl hn) λn hn=>?_
  .simp only;rw[φ (λe=>hne (by simp only[aX.ai,Γ];omega))]
  .have L5:∀e'∈es.take i++QK (es.length-i) z,e'.length=s:=λe' t_=>by
    rcases QX.1 t_ with h'|h'
    .exact he e' (ψ h')
    .rw[(Z9.1 h').2];exact jP
   have pg:(es.take i++QK (es.length-i) z).length=es.length:=by rw[ι,ρ,QW];omega
   have:=iX.win (U:=⟨U.bs.set k (.mem aj true (c.take (off+i*s)++Go.V.gu (es.length-i) z++c.drop (off+i*s+(Go.V.gu (es.length-i) z).length))),U.flr,U.ro⟩) (s:=s) k aj off (es.take i++QK (es.length-i) z) (c.take (off+i*s)++Go.V.gu (es.length-i) z++c.drop (off+i*s+(Go.V.gu (es.length-i) z).length))
    (by simp only;rw[ο A.2]) (by rw[pg];simp;omega) ?_ L5
   .rw[pg] at this;exact this
   .rw[pg,Q4,W4 (by simp;omega),Wk,WM]
    have e2:(c.drop off).take (i*s)=(es.take i).flatten:=by
     rw[<-tf he i hi,<-hc,Zb,Ω (by omega)]
    have e3:(es.take i).flatten.length=i*s:=by rw[<-tf he i hi,ρ,cQ he];omega
    rw[e2,List.take_append,e3,W' (by omega),<-hmul,WM,<-Hm,Wz]
    .rw[Δ];rfl
    .rfl
  .simp only[aX.ai,Γ] at hn;have:n=k:=by omega
   subst this;simp;exact A.2
def uQ (h:Has N S U H) (hj:H[j]?=some (.ai x s es)) (hne:es≠[]):∃k aj off,x=.win k aj off es.length s:=by
 cases h.own hj with
 |nul=>exact absurd rfl hne
 |win k aj off es c hm hle hc he=>exact⟨k,aj,off,rfl⟩
def Q0 (h:t.fa lv):refs (tC t)=0:=by
 have h1:=(Q.cW.1 h).1.1;simp[tC,bQ,refs,Γ,h1,az,dL]
def Kk {L:List Q} {v:Q} (hi:i<L.length):(L.set i v).take (i+1)=L.take i++[v]:=by
 rw[ς,ο hi,List.take_set_of_le (ζ _)];rfl
theorem M5 (h:i<=n):cL n (some (.int .i64 (i:Nat))) none=some (i,n):=by
 have h1:(i:Int)<=(n:Int):=by omega
 simp[cL,ik,ke,h1,h]
theorem Tj (h:i<=n):cL n none (some (.int .i64 (i:Nat)))=some (0,i):=by
 have h1:(i:Int)<=(n:Int):=by omega
 simp[cL,ik,ke,h1,h]
def H4 {t e:TypeId} (ht:P.cF t=some (.slice e)) (hs:bS P e=some s) (hi:i<=n) (U:St):ib P t (.win k aj off n s) (some (.int .i64 (i:Nat))) none U=some (.win k aj (off+i*s) (n-i) s):=by
 simp[ib,ht,hs,if_pos,M5 hi]
def S4 (O:Has N S U H) (hj:H[j]?=some (.ai (.win k aj off n s) s es)) (hi:i<=es.length):Has N S U (H.set j (.ai (.win k aj (off+0*s) (i-0) s) s (es.take i))):=by
 have hown:=O.own hj
 cases hown with
 |win k aj off es c hm hl hc he=>
  have hlen:(es.take i).length=i:=by rw[ρ];omega
  have h1:i*s<=es.length*s:=Nat.mul_le_mul_right s hi;have A:=(O.ok j _ hj).2 k (by simp[aX.ai,Γ]);rw[Nat.zero_mul,Y3,Nat.sub_zero];refine O.pt hj (λ_ _ _=>rfl) (ζ _) rfl rfl ?_ (λk' lx=>.inl ?_) λk' lx=>?_
  .have:=iX.win (U:=U) (s:=s) k aj off (es.take i) c hm (by rw[hlen];omega) ?_ (λe t_=>he e (ψ t_))
   .rw[hlen] at this;exact this
   .rw[hlen,<-tf he i hi,<-hc,Zb,Ω h1]
  .simp only[aX.ai,Γ] at lx|-;exact lx
  .simp only[aX.ai,Γ] at lx;omega
def B2 {t e:TypeId} (ht:P.cF t=some (.slice e)) (hs:bS P e=some s) (hi:i<=n) (U:St):ib P t (.win k aj off n s) none (some (.int .i64 (i:Nat))) U=some (.win k aj (off+0*s) (i-0) s):=by
 simp[ib,ht,hs,if_pos,Tj hi]
def Jo {g:Nat} {p:Q->Bool} (O:Has N S Y (.ai x 8 (l.map tC)::H)) (Hq:np l) (hl:l.length<=1048576) (hf:∀(U:St),∀t∈l,Ev pv g ([.agg (tC t)]++[]) U (.bool (p t)) U):
  ∃d R,Ev pv 100 [x,.fn g []] Y d R/\(Has N S R (.ai d 8 ((l.filter (λt=>!p t)).map tC)::H)\/(d=.sl []/\l.filter (λt=>!p t)=[]/\Has N S R H)):=by
 have aa3:=λU (h:Ξ U 8 x (l.map tC))=>Dc (g:=g) (fZ:=[]) (p:=p) h hl (λst2 _ t ht=>hf st2 t ht);have br:=O;refine zO X6 λS2 bj O=>?_;refine G 4 ?_;obtain⟨d,aK,i0,rfl,hi0⟩:=aa3 _ (O.rows aV);refine M 13 ?_
 rcases hi0 with⟨rfl,hall⟩|⟨j0,rfl,Wp,hjt,t0,ht0,aaf⟩
 .refine M 6 ?_;have iS:l.filter (λt=>!p t)=l:=X8.2 (λt ht=>by rw[hall t ht];rfl);rw[iS];have hown:=br.own aV;have Dq:=(br.ok 0 _ rfl).2;generalize sE:l.map tC=es at*
  cases hown with
  |nul=>
   refine ah.ret ⟨rx,_,_,_,rfl,aH (rfl),?_⟩;refine .inr ⟨rfl,by simpa using sE,?_⟩;exact(br.drop 1).rF bj (O.drop 1) (λi e hi=>⟨e,hi,λk A=>A⟩)
  |win k aj off es c hm hle c_ he=>
   have A:=Dq k (by simp[aX.ai,Γ]);refine ah.ret ⟨rx,_,_,_,rfl,aH ((show aB _ Y.bs.length false 16 (ZE k aj off es.length 8)=some (ZE k aj off es.length 8) from by show(if k<Y.bs.length then some (ZE k aj off es.length 8) else _)=_;rw[if_pos A.2])),?_⟩;exact .inl (br.wc bj O)
 .have hc:(((j0:Nat):Int)==-1)=false:=by simp
  refine vY ?_;refine G 1 ?_;obtain⟨k,aj,off,OR⟩:=uQ O aV (by intro h;rw[QV] at h;subst h;simp at Wp);rw[γ] at OR;subst OR;refine G 4 ?_;refine yA (z:=(((j0+1:Nat)):Int)) ?_;refine G 3 ?_;refine ah.loop (λmm I U=>∃(i j:Nat) (L:List Q),I.clean=fL I 8 [(0,.win k aj off l.length 8),(0,.fn g []),(3,.int .i64 (i:Nat)),(0,.int .i64 (j:Nat))]/\Has N S2 U (.ai (.win k aj off l.length 8) 8 (L.map tC)::H)/\(l.length-j<=mm)/\(i<j)/\(j<=l.length)/\(L.length=l.length)/\(L.take i=(l.take j).filter (λt=>!p t))/\(L.drop j=l.drop j)) (l.length) ?_ ?_
  .refine⟨j0,j0+1,l,rfl,O,by omega,by omega,by omega,rfl,?_,rfl⟩;rw[ς,ht0,QH,X8.2 (λt ht=>by rw[hjt t ht];rfl)];simp[aaf]
  rintro mm I U ⟨i,j,L,hfr,O,hi,hij,hjl,hLl,WZ,hLd⟩;rw[hfr];(try dsimp only[fL,fG,δ]);clear hfr;generalize ay I=ee;clear I;refine G 5 ?_;refine qn ?_ (hR:=O.rows aV);simp only[γ];refine G 2 ?_;rw[hLl];refine zP (λh1=>?_) λh1=>?_
  .refine G 1 ?_
   obtain⟨v,hv⟩:=gx (l:=l) (i:=j)
   have TT:=χ hv
   have hvL:L[j]?=some v:=by
    have X:=congrArg (·[0]?) hLd;simp only[List.getElem?_drop,Y3] at X;rw[X,hv]
   have dO:=lD hvL;have xC:l.take (j+1)=l.take j++[v]:=by rw[ς,hv];rfl
   have wM:L.drop (j+1)=l.drop (j+1):=by
    have X:=congrArg (List.drop 1) hLd
    simpa[List.drop_drop] using X
   have hrz:=Q0 (Hq v TT);refine M 9 λKY wD k7 U Wf O=>?_;refine QY O rfl (ev rfl) (ev rfl) (by rfl) (by exact rfl) (by exact aV) (by exact rfl) (by exact .inr (by assumption)) (λU O=>?_);dsimp[u2,u1,u3,u4,setMany,u5,u6,τ,δ,tC,bQ] at O;refine G 1 ?_;have O:Has N S2 U (.box k7 (.mem 0 false (tC v))::.ai (.win k aj off l.length 8) 8 (L.map tC)::H):=O;refine G 3 ?_;refine yC (m:=8) (r:=tC v) O aV ?_;refine M (t:=(hf _ v TT)) 3 ?_
   cases OZ:p v with
   |true=>
    refine M 2 ?_;have O:=O.drop 1;refine G 2 ?_;refine yA (z:=((j+1:Nat):Int)) ?_;refine G 2 ?_;exact⟨mm-1,by omega,i,j+1,L,rfl,O,by omega,by omega,by omega,hLl,(by rw[xC,QH,<-WZ];simp[OZ]),wM⟩
   |false=>
    refine ah.cond (v:=true) (by dsimp[Fr.ev,Fr.get,nth,V.look];rfl) (λ_=>?_) (λh=>by cases h)
    obtain⟨aa,hu⟩:=gx (l:=L) (i:=i)
    have pe:=lD hu;refine G 4 ?_;refine yC (m:=8) (r:=tC v) O aV ?_;refine qi O bf λZA R7=>?_;refine u.E7 O rfl (ev rfl) (ev rfl) (by assumption) rfl rfl bf pe (by exact ζ 8) (.inr hrz) (λU O=>?_);dsimp at O;refine G 1 ?_;have hst:(L.map tC).set i (tC v)=(L.set i v).map tC:=by rw[Y1]
    have O:Has N S2 U (.ai (.win k aj off l.length 8) 8 ((L.set i v).map tC)::H):=by rw[<-hst];exact O.drop 1
    refine G 2 ?_;refine yA (z:=((i+1:Nat):Int)) ?_;refine G 4 ?_;refine yA (z:=((j+1:Nat):Int)) ?_;refine G 2 ?_;exact⟨mm-1,by omega,i+1,j+1,L.set i v,rfl,O,by omega,by omega,by omega,(by rw[List.length_set];exact hLl),(by rw[Kk (by omega),WZ,xC,QH];simp[OZ]),(by rw[List.drop_set_of_lt (by omega)];exact wM)⟩
  .refine G 1 ?_;have A9:j=l.length:=by omega
   rw[A9,ξ] at WZ;have Vo:cO pv 109=some [.int .i64 0,.nul,.int .i64 0,.int .i64 0,.bool false,.int .i64 0,.int .i64 0,.nul]:=rfl;have hsz:bS pv 109=some 8:=rfl;have OU:pv.cF 107=some (.slice 109):=rfl;obtain⟨stc,hcl,hHc⟩:=Jr (i:=i) (n:=l.length) O aV OU Vo rfl rfl (by omega);rw[<-List.map_take,WZ] at hHc;dsimp at hHc;refine G 4 ?_;refine QQ (d:=.win k aj (off+i*8) (l.length-i) 8) (st1:=_) rfl rfl (by exact congrArg (Wv λd=>(d,_)) (H4 OU hsz (by omega) _)) (ae rfl _) ?_;refine u.N rfl rfl (d:=.tup []) (st1:=stc) (by exact hcl) ?_;refine G 1 ?_;have O:=hHc;have iS:(l.filter (λt=>!p t)).length=i:=by rw[<-WZ,ρ];omega
   have QD:=S4 (i:=i) O aV (by rw[ι,γ,QW];omega);rw[W5 (by rw[γ,iS];omega),W' (by rw[γ,iS];omega)] at QD;dsimp only[u2] at QD;have A:=(br.ok 0 _ rfl).2 k (by simp[aX.ai,Γ]);refine G 4 ?_;refine QQ (d:=.win k aj (off+0*8) (i-0) 8) (st1:=_) rfl rfl (by exact congrArg (Wv λd=>(d,_)) (B2 OU hsz (by omega) _)) (ae rfl _) ?_;refine G 2 ?_;refine ah.ret ⟨rx,_,_,_,rfl,aH ((show aB _ Y.bs.length false 16 (ZE k aj (off+0*8) (i-0) 8)=some (ZE k aj (off+0*8) (i-0) 8) from by show(if k<Y.bs.length then some (ZE k aj (off+0*8) (i-0) 8) else _)=_;rw[if_pos A.2])),?_⟩;refine .inl (br.rF bj QD (λi e hi=>?_))
   cases i with
   |zero=>simp only[List.getElem?_cons_zero,Option.some.injEq] at hi;subst hi;exact⟨_,rfl,λk A=>A⟩
   |succ i=>exact⟨e,hi,λk A=>A⟩
def UA {Ej:List (List D)} (h:Has N S U H) (hj:H[j]?=some (.ai (.win k aj off n s) s es)) (iv:Ej.length=n) (hs:∀e∈Ej,e.length=s) (hw:S.flr<=N\/refs Ej.flatten=0):
  ∃R,U.wr k aj off Ej.flatten=some R/\Has N S R (H.set j (.ai (.win k aj off n s) s Ej)):=by
 have Dq:=(h.ok j _ hj).2;have hown:=h.own hj
 cases hown with
 |win k aj off es c hm hle hc he=>
  have A:=Dq k (by simp[aX.ai,Γ]);have Hm:Ej.flatten.length=es.length*s:=by rw[cQ hs,iv]
  refine⟨_,nx hm (by omega) (iB h A.1 hw),?_⟩;refine h.pt hj (λn hn hne=>?_) (by simp) rfl rfl ?_ (λn hn=>.inl hn) λn hn=>?_
  .simp only;rw[φ (λe=>hne (by simp only[aX.ai,Γ];omega))]
  .have:=iX.win (U:=⟨U.bs.set k (.mem aj true (c.take off++Ej.flatten++c.drop (off+Ej.flatten.length))),U.flr,U.ro⟩) (s:=s) k aj off Ej (c.take off++Ej.flatten++c.drop (off+Ej.flatten.length))
    (by simp only;rw[ο A.2]) (by rw[iv];simp;omega) ?_ hs
   .rw[iv] at this;exact this
   .rw[iv,Q4,W4 (by simp;omega),Wk,YX,List.take_zero,ZC,<-Hm,Wz]
    rfl
  .simp only[aX.ai,Γ] at hn;have:n=k:=by omega
   subst this;simp;exact A.2
def sZ (l:List gI) (i:Nat) (r:gI):List gI:=l.take i++r::l.drop i
def ie (l:List gI) (key:List UInt8) (v:Int):List gI:=
 if ck l key=true then l.set (bc l key) ⟨(l.map (·.k)).getD (bc l key) [],v⟩ else sZ l (bc l key) ⟨key,v⟩
def BT (l:List gI):∀e∈l.map dV,e.length=2:=by
 intro e he;obtain⟨r,_,rfl⟩:=Φ.1 he;rfl
def LB (l:List gI) (i:Nat) (hi:i<=l.length) (r:gI):AR ((l.map dV).flatten) (i*2) (dV r)=((sZ l i r).map dV).flatten:=by
 have h1:(l.map dV).flatten=((l.take i).map dV).flatten++((l.drop i).map dV).flatten:=by rw[<-Δ,<-ε,WA]
 have X:((l.take i).map dV).flatten.length=i*2:=by rw[cQ (BT _),γ,ρ,Ω hi]
 unfold AR sZ;rw[h1,Wz X,List.drop_left' X,ε,Δ,QG,QT]
def QZ {l:List gI} (h:Has N S U H) (hj:H[j]?=some (.ai x 2 (l.map dV))) (hl:l.length<1000000):sK U x=some l:=by
 have hown:=h.own hj;have hr:=Cf l;have pg:(l.map dV).length=l.length:=γ _;generalize sE:l.map dV=es at*
 cases hown with
 |nul=>
  cases l with
  |nil=>rfl
  |cons a b=>cases sE
 |win k aj off es c hm hle hc he=>
  unfold sK;simp only[St.mem_of hm];rw[if_pos ⟨hle,by omega⟩,hc];exact hr
def JW {l : List gI} {key : List UInt8} {v : Int} (h : Has N S U (.box k (.mem 0 false [x]) :: .ai x 2 (l.map dV) :: H)) (hF : S.flr <= N) (hl : l.length < 999999):
  ∃ R x', oZ [.ptr k 0 0, .str key, .int .i64 v] U = some (.bool (!ck l key), R) /\ Has N S R (.box k (.mem 0 false [x']) :: .ai x' 2 ((ie l key v).map dV) :: H) := by
 have hm := St.mem_of (h.at aV);have Z6 := QZ h bf (by omega)
 have hkw : TQ k x ≠ k := by
  cases x with
  | win kl vl ol ln s =>
   intro he;exact h.dis 0 1 _ _ (by decide) rfl rfl k rfl (by simp only [aX.ai, Γ]; exact congrArg (· + 1) he)
  | _ => show k + 1 ≠ k; omega
 have aa2 := wV l key
 have hP : oZ [.ptr k 0 0, .str key, .int .i64 v] U = vn k 0 0 key v U x l := by
  show (match U.cp k 0 with | some (_, ct) => _ | none => none) = _;rw [hm];show (match sK U x with | some l => vn k 0 0 key v U x l | none => none) = _;rw [Z6]
 rw [hP];unfold vn;rw [if_neg hkw]
 cases ht : ck l key with
 | true =>
  have hil : bc l key < l.length := by
   unfold ck at ht;rw [ω, decide_eq_true_eq] at ht;exact ht.1
  obtain ⟨r, hr⟩ : ∃ r, l[bc l key]? = some r := ⟨l[bc l key]'hil, List.getElem?_eq_getElem _⟩
  have YU : (l.map (·.k)).getD (bc l key) [] = r.k := by rw [List.getD_eq_getElem?_getD, Qe, hr]; rfl
  obtain ⟨kl, vl, ol, OR⟩ := uQ h bf (by intro h; rw [QV] at h; subst h; simp at hil);subst OR;obtain ⟨R, h1, X⟩ := h.Ag (i := bc l key) (o := 1) (e := dV r) (cs := [.int .i64 v]) bf (by rw [Qe, hr]; rfl) (ζ 2) (.inl hF);refine ⟨R, .win kl vl ol (l.map dV).length 2, ?_, ?_⟩
  .rw [if_pos rfl];show (U.wr kl vl (ol + bc l key * 2 + 1) [.int .i64 v]).map _ = _;rw [h1]; rfl
  .have yV : ie l key v = l.set (bc l key) ⟨r.k, v⟩ := by unfold ie; rw [if_pos ht, YU]
   rw [yV, Y1];exact X
 | false =>
  rw [if_neg (by simp)];have yV : ie l key v = sZ l (bc l key) ⟨key, v⟩ := by unfold ie; rw [if_neg (by rw [ht]; simp)]
  rw [yV];have B := h.rm (s := 2) (es := [[YY key, Q6 .i64 v]]) (cs := [YY key, Q6 .i64 v]) (m := 1) rfl rfl (by intro e he; rw [QC.1 he]; rfl);obtain ⟨x', st1, h1, X, _⟩ := B.append (P := dE) (j := 2) (t1 := 138) (t2 := 138) (y := .win U.bs.length 0 0 1 2) rfl (B.rows aV) rfl rfl rfl rfl rfl rfl rfl ⟨by decide, by decide⟩ (by simp only [γ, κ, η]; omega) (.inl hF);have QI : dK dE [138, 138] x (.win U.bs.length 0 0 1 2) (U.push (.mem 0 true [.str key, .int .i64 v])) = some (x', st1) := h1;rw [QI];have h3 : Has N S st1 (.box k (.mem 0 false [x]) :: .ai x' 2 (l.map dV ++ [[YY key, Q6 .i64 v]]) :: H) := X.drop 1
  have hput : ∃ st2, Aq x' (bc l key) l.length ((l.map dV).flatten) [.str key, .int .i64 v] st1 = some st2 /\ Has N S st2 (.box k (.mem 0 false [x]) :: .ai x' 2 ((sZ l (bc l key) ⟨key, v⟩).map dV) :: H) := by
   unfold Aq
   by_cases hlt : bc l key < l.length
   .rw [if_pos hlt];obtain ⟨kl, vl, ol, OR⟩ := uQ h3 bf (by simp);have Nz : (l.map dV ++ [[YY key, Q6 .i64 v]]).length = l.length + 1 := by simp
    rw [Nz] at OR;subst OR;obtain ⟨st2, h4, h5⟩ := UA (Ej := (sZ l (bc l key) ⟨key, v⟩).map dV) h3 bf (by unfold sZ; simp; omega) (BT _) (.inl hF);rw [<- LB l _ aa2] at h4;exact ⟨st2, h4, h5⟩
   .rw [if_neg hlt];have he : bc l key = l.length := by omega
    refine ⟨st1, rfl, ?_⟩;have hi : sZ l (bc l key) ⟨key, v⟩ = l ++ [⟨key, v⟩] := by rw [he]; unfold sZ; rw [ξ, List.drop_length]
    rw [hi, ε];exact h3
  obtain ⟨st2, h4, h5⟩ := hput;dsimp only;rw [h4];dsimp only;have F := h5.at aV;have A := (h5.ok 0 _ rfl).2 k rfl;have hw : st2.wr k 0 0 [x'] = some { st2 with bs := st2.bs.set k (.mem 0 false ([x].take 0 ++ [x'] ++ [x].drop (0 + [x'].length))) } := nx F (ζ 1) (iB h5 A.1 (.inl hF));rw [hw];exact ⟨_, x', rfl, h5.EH (aj := 0) aV⟩
def UG (op:Int) (hb:List Q):aQ:=match hb with
 |[]=>IB 1
 |[t]=>t.n
 |_=>IB op
def UH (x:D) (hb:List Q):D:=match hb with
 |[]=>dL []
 |[t]=>dL t.ks
 |_=>x
def BQ (op:Int) (x:D) (hb:List Q):El op x hb=bQ (UG op hb) (UH x hb):=by
 rcases hb with _|⟨t,_|⟨aa,r⟩⟩<;>rfl
def xY {hb:List Q} (hf:np hb) (hx:aB U N false 15 x=some (dL hb)):aB U N false 16 (.agg (bQ (UG op hb) (UH x hb)))=some (.agg (tC (gm op hb))):=by
 rcases hb with _|⟨t,_|⟨aa,r⟩⟩
 .rfl
 .exact jc (hf t (QC.2 rfl)) _ _ _
 .show(cE (aB U N false 15) (bQ (IB op) x)).map YJ=_
  have h8:tC (gm op (t::aa::r))=bQ (IB op) (dL (t::aa::r)):=by
   show tC (z8 op _)=_;unfold tC z8;simp[Q.n,Q.ks,mR]
  rw[h8];simp only[bQ,cE,hx]
  rfl
def P0.zD (e:hk->hp:=by intro h;dsimp only[u2,u1,u3,u4,setMany,u5,u6,D.cells,Nat.reduceAdd,tC,bQ] at h;exact h):hk->hp:=e
def PH:Ev pv 101 [.agg (tC t)] Y (.bool (t.n.op==1)) Y:=by
 refine Ev.sU rfl X5 rfl rfl rfl ?_;refine zE ?_;obtain⟨aP,hF,O⟩:=ri Y;generalize aw .ro Y=S at*;refine G 2 ?_;refine qb O λk1 U jo O=>?_;dsimp[u2,u1,u3,u4,setMany,u5,u6,τ,δ,tC,bQ] at O;refine G 10 ?_;refine ah.ret ⟨rx,_,rfl,rl aP O (rfl)⟩
def PG {n:aQ} (uv:Ξ Y 8 x (l.map tC)) (pj:np l) (hcl:bu l<=1048575):Ev pv 77 [.agg (bQ n x)] Y (.agg (tC (gm 3 ((aJ 3 l).filter λt=>t.n.op !=1)))) Y:=by
 open P0 in
 have hsf:np (aJ 3 l):=mh pj;have hsc:=fM 3 l;have pb:=bk (aJ 3 l);have ly:np ((aJ 3 l).filter λt=>!(t.n.op==1)):=λk A=>hsf k (ZD.1 A).1;have iS:=List.length_filter_le (λt:Q=>!(t.n.op==1)) (aJ 3 l);show Ev pv _ _ _ (.agg (tC (gm 3 ((aJ 3 l).filter λt=>!(t.n.op==1))))) _;refine zM abN λS aP hF O=>?_;have nR:=QS uv aP;refine M 5 λk1 U jo O k2 U jn O=>?_;have O:Has Y.bs.length S U (.box k2 (.mem 0 false tz)::.box k1 (.mem 0 false (bQ n x))::[]):=O;obtain⟨d1,st1,Sy,JK,aay⟩:=yh (op:=3) hF pj (by omega) nR O;refine G 4 ?_;refine W0 rfl rfl Sy (ae rfl _) ?_;refine G 2 ?_;have O:=JK;obtain⟨d2,st2,Bb,ub⟩:=Jo (g:=101) (p:=λt=>t.n.op==1) O hsf (by omega) (λU t ht=>PH);refine G 3 ?_;refine W0 rfl rfl Bb (ae rfl _) ?_;refine G 2 ?_
 have dC:∃(H2:List aX) (j2:Nat),Has Y.bs.length S st2 H2/\H2[j2]?=some (.box k2 (.mem 0 false tz))/\Ξ st2 8 d2 (((aJ 3 l).filter λt=>!(t.n.op==1)).map tC)/\(∀R H3,Has Y.bs.length S R H3->(∀j e,j≠j2->H2[j]?=some e->H3[j]?=some e)->aB R Y.bs.length false 15 d2=some (dL ((aJ 3 l).filter λt=>!(t.n.op==1)))):=by
  rcases ub with O|⟨rfl,Pn,O⟩
  .refine⟨_,1,O,rfl,O.rows aV,λR H3 h3 h4=>?_⟩;rw[mE];exact h3.freeze (h4 0 _ (by decide) rfl) (kD ly) (n:=14) (by decide)
  .rw[Pn];exact⟨_,0,O,rfl,eV _ (l:=[]) (λk A=>by cases A),λR H3 h3 h4=>rfl⟩
 obtain⟨H2,j2,O,hj2,JD,hfz⟩:=dC;generalize((aJ 3 l).filter λt=>!(t.n.op==1))=hb at*;have OU:=BS (op:=3) JD (by omega) ly;rw[BQ] at OU;refine G 3 ?_;refine W0 rfl rfl OU (ae rfl _) ?_;refine QY O rfl (ev rfl) (ev rfl) rfl (by exact rfl) hj2 (by exact rfl) (.inl hF) (λU O=>?_);refine G 1 ?_;have hb2:(H2.set j2 (aX.box k2 (.mem 0 false (bQ (UG 3 hb) (UH d2 hb)))))[j2]?=some (aX.box k2 (.mem 0 false (bQ (UG 3 hb) (UH d2 hb)))):=ο (Q2.1 hj2).1;have hz:=xY (op:=3) ly (hfz U _ O (λj e hj he=>by rw[φ (λh=>hj h.symm)];exact he));exact ah.ret ⟨rx,_,O.bm rfl hb2 rfl,rl aP O hz⟩
def PT {n:aQ} (uv:Ξ Y 8 x (l.map tC)) (pj:np l) (hcl:bu l<=1048575):Ev pv 78 [.agg (bQ n x)] Y (.agg (tC (gm 4 (eH (aJ 4 l).length (aJ 4 l))))) Y:=by
 open P0 in
 have hsf:np (aJ 4 l):=mh pj;have hsc:=fM 4 l;refine zM abM λS aP hF O=>?_;have nR:=QS uv aP;refine M 5 λk1 U jo O k2 U jn O=>?_;have O:Has Y.bs.length S U (.box k2 (.mem 0 false tz)::.box k1 (.mem 0 false (bQ n x))::[]):=O;obtain⟨d1,st1,Sy,JK,aay⟩:=yh (op:=4) hF pj (by omega) nR O;refine G 4 ?_;refine W0 rfl rfl Sy (ae rfl _) ?_;refine G 2 ?_;have O:=JK.take 2;generalize aJ 4 l=F0 at*;refine G 1 ?_;refine ah.loop (λmm I U=>∃(f:Nat) (y:D) (hb:List Q),I.clean=⟨5,[ay I 0,ay I 1,.ptr k2 0 0,y,ay I 4],[]⟩/\Has Y.bs.length S U (.ai d1 8 (F0.map tC)::.box k2 (.mem 0 false tz)::[])/\(hb.length<=mm)/\(np hb)/\(bu hb<=bu F0)/\((y=d1/\hb=F0)\/y=dL hb)/\(eH f hb=eH F0.length F0)/\(hb.length<=f)) (F0.length) ?_ ?_
 .exact⟨F0.length,d1,F0,rfl,O,ζ _,hsf,ζ _,.inl ⟨rfl,rfl⟩,rfl,ζ _⟩
 rintro mm I U ⟨f,y,hb,hfr,O,hfm,ly,hfc,hy,hal,hfF⟩;rw[hfr];clear hfr;generalize ay I=ee;clear I
 have JD:Ξ U 8 y (hb.map tC):=by
  rcases hy with⟨rfl,rfl⟩|rfl
  .exact O.rows aV
  .exact eV U ly
 have hFl:=bk hb;have Qv:np (bo hb):=rr ly;have hoc:=lM hb;have hgf:np (aS (bo hb)):=mF Qv;have hgc:=pY (bo hb);have nS:=x_ hb;have ho:=Ol JD ly (by omega);have hj:=Fq (eV U Qv) Qv (by omega);have xq:=eV U hgf;refine G 4 ?_;refine W0 rfl rfl ho (ae rfl _) ?_;refine W0 rfl rfl hj (ae rfl _) ?_;refine G 6 ?_;refine u.pB rfl (ev rfl) xq rfl (ae rfl _) ?_;refine qm ?_;refine u.pB rfl (ev rfl) JD rfl (ae rfl _) ?_;refine G 2 ?_;rw[γ,γ]
 by_cases hlen:(aS (bo hb)).length=hb.length
 .have hc:((((aS (bo hb)).length:Nat):Int)==((hb.length:Nat):Int))=true:=by rw[hlen];simp
  have hFe:eH f hb=hb:=by
   cases f with
   |zero=>rfl
   |succ f=>rw[eH,if_pos hlen]
  rw[<-hal,hFe];refine vX ?_;have OU:=BS (op:=4) JD (by omega) ly;rw[BQ] at OU;refine G 3 ?_;refine W0 rfl rfl OU (ae rfl _) ?_;refine QY O rfl (ev rfl) (ev rfl) rfl (by exact rfl) bf (by exact rfl) (.inl hF) (λU O=>?_);dsimp at O;refine G 1 ?_;have O:Has Y.bs.length S U (.ai d1 8 (F0.map tC)::.box k2 (.mem 0 false (bQ (UG 4 hb) (UH y hb)))::[]):=O
  have YC:aB U Y.bs.length false 15 y=some (dL hb):=by
   rcases hy with⟨rfl,rfl⟩|rfl
   .rw[mE];exact O.freeze aV (kD ly) (n:=14) (by decide)
   .rfl
  exact ah.ret ⟨rx,_,O.bm rfl bf rfl,rl aP O (xY ly YC)⟩
 .have hc:((((aS (bo hb)).length:Nat):Int)==((hb.length:Nat):Int))=false:=by simp;omega
  obtain⟨f',rfl⟩:∃f',f=f'+1:=⟨f-1,by omega⟩
  rw[eH,if_neg hlen] at hal;refine vY ?_;refine G 5 ?_;exact⟨mm-1,by omega,f',dL (aS (bo hb)),aS (bo hb),rfl,O,by omega,hgf,by omega,.inr rfl,hal,by omega⟩
def TP (n:aQ):aQ:={n with lz:=n.lz &&n.mn !=n.mx}
def Q_ (n:aQ) (k:Q) (l:List Q):Q:=
 if k.n.op=1 then k
 else if n.mn=1/\n.mx=1 then k
 else if n.mx=0/\k.lA=false then z8 1 []
 else if(eA n &&(eA k.n &&mY k.ks))=true then .mk {k.n with mn:=k.n.mn*n.mn} (aE k.ks)
 else .mk n (aE l)
def UQ (n:aQ) (k:Q) (l:List Q):pz n k l=Q_ (TP n) k l:=rfl
def Rz (n:aQ) (l:List Q):tC (.mk n (aE l))=bQ n (dL l):=by unfold tC;simp[Q.n,Q.ks,mR]
def Rx (a b:Int) (ha:0<=a/\a<=1) (F:0<=b/\b<=1) (U:St):(iC pv .mul 3 (.int .i64 a) (.int .i64 b)).map (λd=>(d,U))=some (.int .i64 (a*b),U):=by
 have h1:a*b=0\/a*b=1:=by
  rcases(show a=0\/a=1 by omega) with rfl|rfl
  .simp
  .rw[Int.one_mul];omega
 show some (Q6 .i64 (aR .i64 (a*b)),U)=_;rw[wrap_i64 (by omega) (by omega)]
def uS {n:aQ} (h:eA n=true):n.op=5/\n.mn<=1:=by
 unfold eA at h;simp only[ω,beq_iff_eq,decide_eq_true_eq] at h;exact⟨h.1.1.1,h.2⟩
def N2 (n:aQ) (x:D) (k:Q):List D:=
 if k.n.op=1 then tC k
 else if n.mn=1/\n.mx=1 then tC k
 else if n.mx=0/\k.lA=false then tC (z8 1 [])
 else if(eA n &&(eA k.n &&mY k.ks))=true then bQ {k.n with mn:=k.n.mn*n.mn} (dL k.ks)
 else bQ n x
def H9 {n:aQ} {k:Q} (hn:n.rd=az n.rs) (A:k.fa lv):∃n' y,N2 n x k=bQ n' y/\∀U N,aB U N false 15 x=some (dL l)->aB U N false 16 (.agg (bQ n' y))=some (.agg (tC (Q_ n k l))):=by
 have Si:=(Q.cW.1 A).1.1;unfold N2 Q_
 split
 .exact⟨k.n,dL k.ks,rfl,λU N _=>jc A _ _ _⟩
 split
 .exact⟨k.n,dL k.ks,rfl,λU N _=>jc A _ _ _⟩
 split
 .exact⟨IB 1,dL [],rfl,λU N _=>rfl⟩
 split
 .refine⟨_,_,rfl,λU N _=>?_⟩;rw[Rz];unfold bQ;dsimp only;rw[Si];rfl
 .refine⟨_,_,rfl,λU N h=>?_⟩;rw[Rz];show(cE (aB U N false 15) (bQ n x)).map YJ=_;unfold bQ;simp only[cE,h,hn]
  rfl
def ES {n0:aQ} {k:Q} {l0:List Q} (uv:Ξ Y 8 x ((k::l0).map tC)) (hn0:n0.rd=az n0.rs) (pj:np (k::l0)) (hcl:bu (k::l0)<=1048575) (h5:0<=n0.mn) (FA:k.n.op=5->k.ks≠[]/\0<=k.n.mn):Ev pv 79 [.agg (bQ n0 x)] Y (.agg (N2 (TP n0) x k)) Y:=by
 have hfx:=tI uv (ζ _) (by simp);have V9:k∈k::l0:=Θ ..;have L9:=pj k V9;have adW:=ch V9;have dO:((k::l0).map tC)[0]?=some (tC k):=rfl;have xq:=λU=>y_ _ k (ζ _) (by omega) L9 U
 obtain⟨n,hn⟩:∃n,n=TP n0:=⟨_,rfl⟩
 have aaA:n.rd=az n.rs:=by rw[hn];exact hn0
 have hn5:0<=n.mn:=by rw[hn];exact h5
 rw[<-hn];refine zM abL λS aP hF O=>?_;have nR:=QS uv aP;refine M 3 λk1 U jo O=>?_;dsimp[u2,u1,u3,u4,setMany,u5,u6,τ,δ,tC,bQ,aO] at O;refine M 3 λk2 U jn O=>?_;refine ah.merge (λI U=>∃(tmp:List (Nat×D)),I=⟨4,[ay I 0,.ptr k1 0 0,.ptr k2 0 0,ay I 3],tmp⟩/\Has Y.bs.length S U (.box k2 (.mem 0 false tz)::.box k1 (.mem 0 false (bQ n x))::[])/\(True)) ?_ ?_
 .cases YM:n0.lz with
  |true=>
   have c8:n0.lz=true:=YM;refine M 16 λU O=>?_;dsimp[u2,u1,u3,u4,setMany,u5,u6,τ,δ,tC,bQ,aO] at O;refine G 1 ?_
   have dZ:bQ n x=[.int .i64 n0.op,n0.rd,.int .i64 n0.mn,.int .i64 n0.mx,.bool (n0.mn !=n0.mx),.int .i64 n0.cap,.int .i64 n0.kids,x]:=by
    rw[hn];unfold bQ TP;dsimp only;rw[YM];rfl
   exact⟨_,rfl,(by rw[dZ];exact O),trivial⟩
  |false=>
   have c8:n0.lz=false:=YM;refine M 16 λU O=>?_;dsimp[u2,u1,u3,u4,setMany,u5,u6,τ,δ,tC,bQ,aO] at O;refine G 1 ?_
   have dZ:bQ n x=[.int .i64 n0.op,n0.rd,.int .i64 n0.mn,.int .i64 n0.mx,.bool false,.int .i64 n0.cap,.int .i64 n0.kids,x]:=by
    rw[hn];unfold bQ TP;dsimp only;rw[YM];rfl
   exact⟨_,rfl,(by rw[dZ];exact O),trivial⟩
 rintro I U ⟨tmp,hfr,O,ht⟩;rw[hfr];clear hfr;generalize ay I=ee;clear I;have LY:=λU=>GD (Y:=U) (n:=n);have LX:=λU=>GD (Y:=U) (n:=k.n)
 have Sx:∀(U:St),aB U Y.bs.length false 16 (.agg (bQ n x))=some (.agg (bQ n x)):=λU=>by
  show(cE (aB U Y.bs.length false 15) (bQ n x)).map YJ=_;unfold bQ;simp only[cE,hfx U 14,aaA]
  rfl
 refine M 7 λOc AX k3 U A7 O=>?_;dsimp[u2,u1,u3,u4,setMany,u5,u6,τ,δ,tC,bQ,aO] at O;refine qS O aV λU O=>?_;dsimp[u2,u1,u3,u4,setMany,u5,u6,τ,δ,tC,bQ,aO] at O;refine G 1 ?_;have O:Has Y.bs.length S U (.box k3 (.mem 0 false (tC k))::.box k2 (.mem 0 false tz)::.box k1 (.mem 0 false (bQ n x))::[]):=O;unfold N2;refine G 10 ?_
 by_cases h1:k.n.op=1
 .have hc:(k.n.op==1)=true:=by simpa using h1
  rw[if_pos h1];refine vX ?_;refine G 2 ?_;refine yC (m:=8) (r:=tC k) O aV ?_;refine QY O rfl (ev rfl) (ev rfl) rfl (by exact rfl) bf (by exact rfl) (.inl hF) (λU O=>?_);dsimp at O;refine G 1 ?_;exact ah.ret ⟨rx,_,O.bm rfl bf rfl,rl aP O (jc L9 _ _ _)⟩
 have hc:(k.n.op==1)=false:=by simpa using h1
 rw[if_neg h1];refine vY ?_;refine qq<|ah.dM 28 (.bool (n.mn==1 &&n.mx==1)) [] ?_ (λff tmp bp=>?_)
 .refine G 5 ?_;refine y2 33 (λfU=>?_) λfU=>?_
  .refine G 6 ?_;exact vV
  .refine G 6 ?_;exact vV
 dsimp only[aC,Q9,nth,u2,u1]
 by_cases X:n.mn=1/\n.mx=1
 .have h_:(n.mn==1 &&n.mx==1)=true:=by rw[ω,beq_iff_eq,beq_iff_eq];exact X
  rw[if_pos X];rw[h_] at bp;refine G 3 ?_;refine yC (m:=8) (r:=tC k) O aV ?_;refine QY O rfl (ev rfl) (ev rfl) rfl (by exact rfl) bf (by exact rfl) (.inl hF) (λU O=>?_);dsimp at O;refine G 1 ?_;exact ah.ret ⟨rx,_,O.bm rfl bf rfl,rl aP O (jc L9 _ _ _)⟩
 have h_:(n.mn==1 &&n.mx==1)=false:=by
  rw[ZK];intro h;rw[ω,beq_iff_eq,beq_iff_eq] at h;exact X h
 rw[if_neg X];rw[h_] at bp;refine qC ?_;clear bp;refine qq<|ah.dM 40 (.bool (n.mx==0 &&!k.lA)) [] ?_ (λff tmp bp=>?_)
 .refine G 5 ?_;refine y2 45 (λfU=>?_) λfU=>?_
  .refine YZ (m:=8) O (wi fU) (ev rfl) (by exact aV) (by dsimp<;>rfl) rfl rfl (ae rfl _) ?_;refine M (t:=((xq _))) 4 ?_;exact vV
  .refine G 5 ?_;exact vV
 dsimp only[aC,Q9,nth,u2,u1]
 by_cases h3:n.mx=0/\k.lA=false
 .have BD:(n.mx==0 &&!k.lA)=true:=by rw[ω,beq_iff_eq,h3.2];exact⟨h3.1,rfl⟩
  rw[if_pos h3];rw[BD] at bp;refine G 3 ?_;refine qg (d:=.agg [.int .i64 1,.nul,.int .i64 0,.int .i64 0,.bool false,.int .i64 0,.int .i64 0]) ?_;refine qg (d:=.agg [.int .i64 1,.nul,.int .i64 0,.int .i64 0,.bool false,.int .i64 0,.int .i64 0,.nul]) ?_;refine QY O rfl (ev rfl) (ev rfl) rfl (by exact rfl) bf (by exact rfl) (.inl hF) (λU O=>?_);dsimp at O;refine G 1 ?_;exact ah.ret ⟨rx,_,O.bm rfl bf rfl,rl aP O rfl⟩
 have BD:(n.mx==0 &&!k.lA)=false:=by
  rw[ZK];intro h;rw[ω,beq_iff_eq] at h;exact h3 ⟨h.1,by simpa using h.2⟩
 rw[if_neg h3];rw[BD] at bp;refine qC ?_;clear bp
 cases h4:eA n with
 |false=>
  rw[ZT,if_neg (by simp)];have c8:eA n=false:=h4;have eO:false=false:=rfl;refine qq<|ah.dM 52 (.bool false) [] ?_ (λff tmp bp=>?_)
  .refine M (t:=((LY _))) 18 ?_;refine Q7 (ax ?_ ?_)
   .dsimp[aC,Q9,nth,u2,u1]
    all_goals(first|rfl|simp)
   .exact zS
    all_goals(first|rfl|(simp[c8,eO];done)|(simp_all;done)|(simp[c8,eO];omega)|(simp_all;omega))
  refine zd ?_;refine G 4 ?_;refine yC (m:=8) (r:=bQ n x) O dh ?_;refine QY O rfl (ev rfl) (ev rfl) rfl (by exact rfl) bf (by exact rfl) (.inl hF) (λU O=>?_);dsimp at O;refine G 1 ?_;exact ah.ret ⟨rx,_,O.bm rfl bf rfl,rl aP O (Sx _)⟩
 |true=>
  rw[Zf];have c8:eA n=true:=h4
  cases W6:eA k.n with
  |false=>
   rw[ZT,if_neg (by simp)];have eO:eA k.n=false:=W6;refine qq<|ah.dM 52 (.bool false) [] ?_ (λff tmp bp=>?_)
   .refine M (t:=((LY _))) 5 ?_;refine YZ (m:=7) O (wi c8) (ev rfl) (by exact aV) (by dsimp<;>rfl) rfl rfl (ae rfl _) ?_;refine M (t:=((LX _))) 12 ?_;refine Q7 (ax ?_ ?_)
    .dsimp[aC,Q9,nth,u2,u1]
     all_goals(first|rfl|simp)
    .exact zS
     all_goals(first|rfl|(simp[c8,eO];done)|(simp_all;done)|(simp[c8,eO];omega)|(simp_all;omega))
   refine zd ?_;refine G 4 ?_;refine yC (m:=8) (r:=bQ n x) O dh ?_;refine QY O rfl (ev rfl) (ev rfl) rfl (by exact rfl) bf (by exact rfl) (.inl hF) (λU O=>?_);dsimp at O;refine G 1 ?_;exact ah.ret ⟨rx,_,O.bm rfl bf rfl,rl aP O (Sx _)⟩
  |true=>
   rw[Zf];have eO:eA k.n=true:=W6;obtain⟨Eg,A1⟩:=uS W6;obtain⟨L7,Sk⟩:=FA Eg
   obtain⟨kk,kl,hkk⟩:∃kk kl,k.ks=kk::kl:=by
    cases A:k.ks with
    |nil=>exact absurd A L7
    |cons a b=>exact⟨a,b,rfl⟩
   have aaJ:np k.ks:=(Q.cW.1 L9).2;have adY:Arg Y.bs.length S 8 (dL k.ks) (k.ks.map tC):=QS (eV Y aaJ) aP;have pe:(k.ks.map tC)[0]?=some (tC kk):=by rw[hkk];rfl
   have sD:mY k.ks=(kk.n.op==2):=by rw[hkk];rfl
   rw[sD];refine qq<|ah.dM 52 (.bool (kk.n.op==2)) [] ?_ (λff tmp bp=>?_)
   .refine M (t:=((LY _))) 5 ?_;refine YZ (m:=7) O (wi c8) (ev rfl) (by exact aV) (by dsimp<;>rfl) rfl rfl (ae rfl _) ?_;refine M (t:=((LX _))) 12 λYs O0 p65 VI p66 VH=>?_;refine Q7 (ax ?_ ?_)
    .dsimp[aC,Q9,nth,u2,u1]
     all_goals(first|rfl|simp)
    .exact zS
     all_goals(first|rfl|(simp[c8,eO];done)|(simp_all;done)|(simp[c8,eO];omega)|(simp_all;omega))
   dsimp only[aC,Q9,nth,u2,u1]
   cases h6:(kk.n.op==2) with
   |false=>
    rw[if_neg (by simp)];rw[h6] at bp;refine G 4 ?_;refine yC (m:=8) (r:=bQ n x) O dh ?_;refine QY O rfl (ev rfl) (ev rfl) rfl (by exact rfl) bf (by exact rfl) (.inl hF) (λU O=>?_);dsimp at O;refine G 1 ?_;exact ah.ret ⟨rx,_,O.bm rfl bf rfl,rl aP O (Sx _)⟩
   |true=>
    rw[if_pos rfl];rw[h6] at bp;refine qB ?_;obtain⟨sB,dZ⟩:=uS h4;have hmul:=Rx k.n.mn n.mn ⟨Sk,A1⟩ ⟨hn5,dZ⟩;refine G 8 ?_;refine QQ (d:=.int .i64 (k.n.mn*n.mn)) (st1:=_) rfl rfl (hmul _) (ae rfl _) ?_;refine M 3 λU O=>?_;dsimp[u2,u1,u3,u4,setMany,u5,u6,τ,δ,tC,bQ,aO] at O;refine G 1 ?_;have aaI:=(Q.cW.1 L9).1.1;have O:Has Y.bs.length S U (.box k3 (.mem 0 false (bQ {k.n with mn:=k.n.mn*n.mn} (dL k.ks)))::.box k2 (.mem 0 false tz)::.box k1 (.mem 0 false (bQ n x))::[]):=O;refine G 2 ?_;refine yC (m:=8) (r:=bQ {k.n with mn:=k.n.mn*n.mn} (dL k.ks)) O aV ?_;refine QY O rfl (ev rfl) (ev rfl) rfl (by exact rfl) bf (by exact rfl) (.inl hF) (λU O=>?_);dsimp at O;refine G 1 ?_;exact ah.ret ⟨rx,_,O.bm rfl bf rfl,rl aP O (by unfold bQ;dsimp only;rw[aaI];rfl)⟩
end Go.Proofs.YtappgjdiplibbaaGreat
namespace Go.V
variable{P:Pv} {ops:Array Oper} {rest:List Oper} {I aA:Fr} {U:St} {Tr:Fr->St->Prop} {ty:TypeId} {pp:String} {a:Array Edge} {g:Option (Nat×Bool)} {dst:Nat}
variable{N:Nat} {S:St} {H:List aX}
variable{j s:Nat}{x y:D}{es ys:List (List D)}{z:List D}
def Has.HQ (O:Has N S U H) (hj:H[j]?=some (.ai x s es)) (jI:oT U y=some (ys.length,ys.flatten)) (sx:∀e∈ys,e.length=s) {t1 t2 e:TypeId} {td:TypeDesc} {inf:TypeInfo} (h1:P.cF t1=some (.slice e)) (X:P.cF t2=some td) (h3:fp td=false) (h4:P.info e=some inf) (h5:cO P e=some z) (h6:inf.size=s) (h7:z.length=s) (h8:0<inf.bytes/\inf.bytes<=1024) (hb1:inf.bytes=1) (qM:es.length+ys.length<=1099511627776) (hw:S.flr<=N\/refs ys.flatten=0):
  ∃x' R,bA P .append [t1,t2] [x,y] U=some (x',R)/\Has N S R (H.set j (.ai x' s (es++ys)))/\(ys=[]->x'=x):=by
 have F:(es.length+ys.length)*inf.bytes<=1099511627776:=by rw[hb1,Nat.mul_one];exact qM
 have iS:=cQ sx;have hown:=O.own hj;have hkk:=(O.ok j _ hj).2;have hS:=O.len;have hNS:=O.hN;subst h6;simp only[bA,dK,h1,X,h3,Bool.false_eq_true,if_false,h4,h5,jI,Qu];rw[if_neg (by rintro(h|h|h);exact h iS;exact absurd h (by omega);exact h h7)]
 have eW:∀e,H[j]?=some e->H.set j e=H:=λe he=>by
  apply List.ext_getElem?;intro i
  by_cases hij:i=j
  .subst hij
   have:i<H.length:=by
    rcases Nat.lt_or_ge i H.length with h'|h'
    .exact h'
    .rw[List.getElem?_eq_none h'] at he;cases he
   rw[ο this,he]
  .rw[φ (λe=>hij e.symm)]
 cases hown with
 |nul=>
  simp only[ZC]
  by_cases h0:ys.length=0
  .rw[if_pos h0]
   have:ys=[]:=by cases ys with|nil=>rfl|cons _ _=>simp at h0
   subst this;exact⟨.nul,U,rfl,by rw[eW _ hj];exact O,λ_=>rfl⟩
  .rw[if_neg h0,if_pos (by simpa using F)];refine⟨_,_,rfl,?_,λe=>absurd (by rw[e];rfl) h0⟩;refine O.pt hj (λk A _=>by simp[St.push];rw[μ A]) (by simp[St.push]) rfl rfl ?_ (λk A=>?_) λk A=>?_
   .exact iX.win _ 0 0 ys ys.flatten (kI U _) (by rw[iS];omega) (by rw[Za,<-iS,ξ]) sx
   .simp only[aX.ai,Γ] at A;right;omega
   .simp only[aX.ai,Γ] at A;simp only[St.push,ι,κ,η];omega
 |win k aj off es c hm hl hc he=>
  have A:=hkk k (by simp[aX.ai,Γ]);simp only[St.mem_of hm];rw[if_neg (by rintro(h|h);exact h rfl;omega)]
  by_cases h0:ys.length=0
  .rw[if_pos h0]
   have:ys=[]:=by cases ys with|nil=>rfl|cons _ _=>simp at h0
   subst this;simp only[Ψ];exact⟨_,U,rfl,by rw[eW _ hj];exact O,λ_=>rfl⟩
  .rw[if_neg h0,if_pos ⟨F,iB O A.1 hw⟩];refine⟨_,_,rfl,?_,λe=>absurd (by rw[e];rfl) h0⟩;have pg:es.length+ys.length=(es++ys).length:=by simp
   have c_:(c.take (off+es.length*inf.size)).drop off=es.flatten:=by rw[Wk,<-hc];congr 1;omega
   rw[pg,c_];refine O.pt hj (λn hn hne=>by simp only;rw[φ (λe=>hne (by simp only[aX.ai,Γ];omega))]) (by simp) rfl rfl ?_ (λn hn=>?_) λn hn=>?_
   .have sF:∀e∈es++ys,e.length=inf.size:=λe h=>by
     rcases QX.1 h with h|h
     .exact he e h
     .exact sx e h
    have Mc:=cQ sF;refine iX.win k (aj+1) 0 (es++ys) (es++ys).flatten ?_ (by rw[Mc];omega) (by rw[Za,<-Mc,ξ]) sF;simp only;rw[ο A.2,Δ]
   .simp only[aX.ai,Γ] at hn|-;left;omega
   .simp only[aX.ai,Γ] at hn;simp;omega
variable{xo yo:Operand}
def u.lU {t1 t2 e:TypeId} {td:TypeDesc} {inf:TypeInfo} {aA:D->Fr} (O:Has N S U H) (hg:au ops I ⟨some dst,.call ⟨.builtin .append,#[xo,yo],#[t1,t2]⟩,ty,pp,a,g⟩=some true) (hx:I.ev xo=x) (hy:I.ev yo=y) (hj:H[j]?=some (.ai x s es)) (j8:Rows U s y ys) (h1:P.cF t1=some (.slice e)) (X:P.cF t2=some td) (h3:fp td=false) (h4:P.info e=some inf) (h5:cO P e=some z) (h6:inf.size=s) (h7:z.length=s) (h8:0<inf.bytes/\inf.bytes<=1024) (B:∀x',I.put dst x'=aA x') (hb1:inf.bytes=1) (F:es.length+ys.length<=1099511627776) (hw:S.flr<=N\/refs ys.flatten=0) (h:∀x' R,Has N S R (H.set j (.ai x' s (es++ys)))->u P ops rest (aA x') R Tr):
  u P ops (⟨some dst,.call ⟨.builtin .append,#[xo,yo],#[t1,t2]⟩,ty,pp,a,g⟩::rest) I U Tr:=by
 obtain⟨x',R,q1,q2,q3⟩:=O.HQ hj j8.row (λe he=>by obtain⟨i,hi⟩:=List.getElem?_of_mem he;exact j8.DM i e hi) h1 X h3 h4 h5 h6 h7 h8 hb1 F hw;refine QQ hg rfl (d:=x') (st1:=R) ?_ (B _) (h x' R q2);simp[dY,hx,hy];exact q1
def u.L3 {t e:TypeId} {lo co:Operand} {k1 k2:IntKind} {m:Int} {inf:TypeInfo} {aA:Nat->Fr} (O:Has N S U H) (hg:au ops I ⟨some dst,.makeSlice t lo co,ty,pp,a,g⟩=some true) (hl:I.ev lo=.int k1 0) (hc:I.ev co=.int k2 m) (ht:P.cF t=some (.slice e)) (hi:P.info e=some inf) (hz:cO P e=some z) (hsz:inf.size=s) (jP:z.length=s) (hmb:inf.bytes<=1024) (pf:0<=m/\m<=137438953472) (B:∀k,I.put dst (.win k 0 0 0 s)=aA k) (h:∀k R,S.bs.length<=k->Has N S R (.ai (.win k 0 0 0 s) s []::H)->u P ops rest (aA k) R Tr):u P ops (⟨some dst,.makeSlice t lo co,ty,pp,a,g⟩::rest) I U Tr:=by
 subst hsz;have F:m*(inf.bytes:Int)<=140737488355328:=Int.le_trans (Int.mul_le_mul pf.2 (show(inf.bytes:Int)<=1024 by omega) (by omega) (by omega)) (by decide);refine QQ hg rfl (d:=.win U.bs.length 0 0 0 inf.size) (st1:=U.push (.mem 0 true [])) ?_ (B _) (h _ _ O.len (O.rm rfl rfl (λe he=>by cases he)));simp only[dY,hl,hc,gO,ht,hi,hz,Qu];rw[if_pos ⟨jP,by omega,by omega,by omega,F⟩]
 rfl
def Has.AQ {Y S U:St} {H:List aX} (hS:S.bs=Y.bs) (fx:Y.ro<=Y.bs.length) (h:Has Y.bs.length S U H):Has Y.bs.length Y ⟨U.bs,Y.flr,Y.ro⟩ H:=by
 refine⟨⟨λk A=>?_,?_,rfl,rfl⟩,ζ _,fx,λi e hi=>⟨@aX.loc e U ⟨U.bs,Y.flr,Y.ro⟩ (λ_ _=>rfl) (h.ok i e hi).1,(h.ok i e hi).2⟩,h.dis⟩
 .rw[<-hS];exact h.ex.low k A
 .rw[<-hS];exact h.ex.len
def Has.TO {N:Nat} {S U R:St} {H H2:List aX} (h:Has N S U H) (X:Has U.bs.length U R H2):Has N S R (H2++H):=by
 have hN:=h.hN;have hl:=h.ex.len;have tY:=X.ex.len;refine⟨⟨λk A=>?_,by omega,X.ex.flr.trans h.ex.flr,X.ex.ro.trans h.ex.ro⟩,hN,h.fx,λi e hi=>?_,λi j a b hij ha F k nR iE=>?_⟩
 .rw[X.ex.low k (by omega)];exact h.ex.low k A
 .by_cases hlt:i<H2.length
  .rw[μ hlt] at hi;obtain⟨h3,h4⟩:=X.ok i e hi;exact⟨h3,λk A=>⟨by have:=(h4 k A).1;omega,(h4 k A).2⟩⟩
  .rw[υ (by omega)] at hi;obtain⟨h3,h4⟩:=h.ok _ e hi;exact⟨e.loc (λk A=>X.ex.low k (h4 k A).2) h3,λk A=>⟨(h4 k A).1,by have:=(h4 k A).2;omega⟩⟩
 .by_cases h1:i<H2.length<;>by_cases h3:j<H2.length
  .rw[μ h1] at ha;rw[μ h3] at F;exact X.dis i j a b hij ha F k nR iE
  .rw[μ h1] at ha;rw[υ (by omega)] at F;have:=((X.ok _ a ha).2 k nR).1;have:=((h.ok _ b F).2 k iE).2;omega
  .rw[υ (by omega)] at ha;rw[μ h3] at F;have:=((X.ok _ b F).2 k iE).1;have:=((h.ok _ a ha).2 k nR).2;omega
  .rw[υ (by omega)] at ha F;exact h.dis _ _ a b (by omega) ha F k nR iE
def u.Dx {b:List UInt8} {t1 t2 e:TypeId} {td:TypeDesc} {inf:TypeInfo} {aA:D->Fr} (O:Has N S U H) (hg:au ops I ⟨some dst,.call ⟨.builtin .append,#[xo,yo],#[t1,t2]⟩,ty,pp,a,g⟩=some true) (hx:I.ev xo=x) (hy:I.ev yo=.str b) (hj:H[j]?=some (.ai x 1 es)) (h1:P.cF t1=some (.slice e)) (X:P.cF t2=some td) (h3:fp td=false) (h4:P.info e=some inf) (h5:cO P e=some z) (h6:inf.size=1) (h7:z.length=1) (h8:0<inf.bytes/\inf.bytes<=1024) (B:∀x',I.put dst x'=aA x') (hb1:inf.bytes=1) (F:es.length+b.length<=1099511627776) (h:∀x' R,Has N S R (H.set j (.ai x' 1 (es++θ b)))->u P ops rest (aA x') R Tr):
  u P ops (⟨some dst,.call ⟨.builtin .append,#[xo,yo],#[t1,t2]⟩,ty,pp,a,g⟩::rest) I U Tr:=by
 have iS:∀b:List UInt8,(θ b).flatten=b.map λy=>.int .u8 (y.toNat:Nat):=by
  intro b
  induction b with
  |nil=>rfl
  |cons y b ih=>simp only[θ,QG,QT] at ih|-;rw[ih];rfl
 have Nz:(θ b).length=b.length:=by simp[θ]
 have eY:∀b:List UInt8,refs (b.map λy=>Q6 .u8 (y.toNat:Nat))=0:=by
  intro b
  induction b with
  |nil=>rfl
  |cons y b ih=>simp only[QG,refs,Γ,ih];rfl
 obtain⟨x',R,q1,q2,q3⟩:=O.HQ (y:=.str b) (ys:=θ b) hj (by rw[Nz,iS];rfl) (λe he=>by obtain⟨y,_,rfl⟩:=Φ.1 he;rfl) h1 X h3 h4 h5 h6 h7 h8 hb1 (by rw[Nz];exact F) (.inr (by rw[iS];exact eY b));refine QQ hg rfl (d:=x') (st1:=R) ?_ (B _) (h x' R q2);simp[dY,hx,hy];exact q1
def Has.My (hF:S.flr<=N) (O:Has N S U H):U.flr<=U.bs.length/\U.ro<=U.bs.length:=by
 have h1:=O.ex.flr;have X:=O.ex.ro;have h3:=O.fx;have h4:=O.hN;have h5:=O.ex.len;constructor<;>omega
end Go.V
namespace Go.Proofs.YtappgjdiplibbaaGreat
open Go.V Go
mutual
def Q.gd:Q->Prop
 | .mk n ks=>(n.op=5->1<=ks.len/\0<=n.mn)/\ks.gd
def aG.gd:aG->Prop
 | .nil=>True
 | .cons t ts=>t.gd/\ts.gd
end
theorem JZ:∀{ks:aG},ks.gd↔∀t∈ks.l,t.gd
 | .nil=>by simp[aG.gd,aG.l]
 | .cons t ts=>by simp[aG.gd,aG.l,JZ (ks:=ts)]
def GL (l:List Q):Prop:=∀t∈l,t.gd
def Q.uc {t:Q}:t.gd↔(t.n.op=5->t.ks≠[]/\0<=t.n.mn)/\GL t.ks:=by
 cases t with
 |mk n ks=>
  simp only[Q.gd,Q.n,Q.ks,GL,JZ,<-iZ];have:(1<=ks.l.length)↔ks.l≠[]:=by cases ks.l<;>simp
  rw[this]
variable{n:aQ}{l:List Q}
def GV:(Q.mk n (aE l)).gd↔(n.op=5->l≠[]/\0<=n.mn)/\GL l:=by
 rw[Q.uc];simp[Q.n,Q.ks,mR]
mutual
def GJ:∀t:Q,t.ok->t.gd
 | .mk n ks,h=>by
  simp[Q.ok] at h;simp[Q.gd];refine⟨λh5=>?_,K_ ks h.2⟩;have h1:=h.1.2;simp only[h5] at h1;omega
def K_:∀ts:aG,ts.ok->ts.gd
 | .nil,_=>trivial
 | .cons t ts,h=>⟨GJ t h.1,K_ ts h.2⟩
end
variable{op:Int}
def yf (h:GL l):GL (aJ op l):=by
 intro t ht;obtain⟨aa,hu,ht⟩:=List.mem_flatMap.1 ht
 split at ht
 .exact(Q.uc.1 (h aa hu)).2 t ht
 .simp at ht;rw[ht];exact h aa hu
def Es (ho:op≠5) (h:GL l):(z8 op l).gd:=GV.2 ⟨λh5=>absurd h5 ho,h⟩
def BR (ho:op≠5) (h:GL l):(gm op l).gd:=by
 unfold gm
 split
 .exact Es (by decide) (by intro t ht;cases ht)
 .exact h _ (Θ ..)
 .exact Es ho h
variable{b:List Q}{a:Q}
def Bf (F:GL b) (ha:a.gd):GL (b++[a]):=by
 intro t ht
 rcases QX.1 ht with ht|ht
 .exact F t ht
 .simp at ht;rw[ht];exact ha
def Oj (h:GL l):GL (bo l):=by
 unfold bo;refine ji (P:=GL) (λb a ha F=>?_) _ (by intro t ht;cases ht)
 split
 .exact F
 .exact Bf F (h a ha)
def S9 (a b:List Rg):(kv a b).gd:=by
 unfold kv;simp only[Q.gd,aG.gd,and_true];intro h;cases h
def ON (F:GL b) (ha:a.gd):GL (dz b a):=by
 unfold dz
 split
 .split
  .intro t ht
   rcases List.mem_or_eq_of_mem_set ht with ht|rfl
   .exact F t ht
   .exact S9 _ _
  .exact Bf F ha
 .exact Bf F ha
def IK (h:GL l):GL (aS l):=by
 unfold aS;exact ji (P:=GL) (λb a ha F=>ON F (h a ha)) _ (by intro t ht;cases ht)
def D8:∀(f:Nat) {l:List Q},GL l->GL (eH f l)
 |0,l,h=>h
 |f+1,l,h=>by
  unfold eH
  split
  .exact h
  .exact D8 f (IK (Oj h))
def Q8 {k:Q} (hn:n.op=5->0<=n.mn) (h:GL l) (A:k∈l):(pz n k l).gd:=by
 have hkk:=h k A;obtain⟨h1,X⟩:=Q.uc.1 hkk;unfold pz
 split
 .exact hkk
 split
 .exact hkk
 split
 .exact Es (by decide) (by intro t ht;cases ht)
 split
 .rename_i ho;simp at ho;have a1:=(uS ho.1).1;have a2:=(uS ho.2.1).1;exact GV.2 ⟨λ_=>⟨(h1 a2).1,Int.mul_nonneg (h1 a2).2 (hn a1)⟩,X⟩
 .exact GV.2 ⟨λh5=>⟨List.ne_nil_of_mem A,hn h5⟩,h⟩
def Lq (hn:n.op=5->l≠[]/\0<=n.mn) (h:GL l):(mX n l).gd:=by
 unfold mX
 split
 .exact BR (by decide) λt ht=>yf h t (ZD.1 ht).1
 split
 .exact BR (by decide) (D8 _ (yf h))
 split
 .rename_i h5
  cases l with
  |nil=>exact absurd rfl (hn h5).1
  |cons k l=>exact Q8 (λh=>(hn h).2) h (Θ ..)
 .rename_i h5;exact GV.2 ⟨λh=>absurd h h5,h⟩
def AP:∀(m:Nat) (t:Q),t.dF<=m->t.gd->t.less.gd
 |0,t,h,_=>by have:=Q.bR t;omega
 |m+1,t,h,hg=>by
  have L_:=Q.bR t;obtain⟨h1,X⟩:=Q.uc.1 hg;rw[Q.G3];refine Lq (λh5=>⟨?_,(h1 h5).2⟩) λk A=>?_
  .have:=(h1 h5).1;simpa using this
  .obtain⟨aa,hu,rfl⟩:=Φ.1 A;exact AP m aa (by have:=ch hu;omega) (X aa hu)
def PZ.zD {hk hp:Prop} (e:hk->hp:=by intro h;dsimp only[u2,u1,u3,u4,setMany,u5,u6,D.cells,Nat.reduceAdd,tC,bQ,aO] at h;exact h):hk->hp:=e
def C3:∀(m:Nat) (t:Q),t.dF<=m->m<=1048575->t.fa lv->t.gd->∀Y:St,Ev pv 50 [.agg (tC t)] Y (.agg (tC t.less)) Y
 |0,t,h,_,_,_,_=>by have:=Q.bR t;omega
 |m+1,t,h,hm,hfa,hg,Y=>by
  open PZ in
  have L_:=Q.bR t;have lT:=bk t.ks;obtain⟨hn,pj⟩:=Q.cW.1 hfa;obtain⟨iF,YU⟩:=Q.uc.1 hg;have rO:=hn.1;have uv:Ξ Y 8 (dL t.ks) (t.ks.map tC):=eV Y pj;have NA:=aG.gz (aE t.ks) (by rw[z7,mR];exact pj);rw[qQ,mR,uI,mR] at NA;obtain⟨NA,hlc⟩:=NA
  have hlg:GL (t.ks.map Q.less):=λk A=>by
   obtain⟨aa,hu,rfl⟩:=Φ.1 A;exact AP _ aa (ζ _) (YU aa hu)
  have wB:=(Q.gz t hfa).1;have Qq:=Q.G3 t;refine Ev.sU rfl ab9 rfl rfl rfl ?_;refine zE ?_;obtain⟨aP,hF,O⟩:=ri Y;generalize aw .ro Y=S at*;have nR:=QS uv aP;refine G 2 ?_;refine qb O λk1 U jo O=>?_;dsimp[u2,u1,u3,u4,setMany,u5,u6,τ,δ,tC,bQ,aO] at O;refine qa O λk2 U jn O=>?_;refine G 1 ?_;have O:Has Y.bs.length S U (.box k2 (.mem 0 false tz)::.box k1 (.mem 0 false (tC t))::[]):=O;refine G 4 ?_;refine qn ?_;simp only[γ];refine u.L3 (m:=((t.ks.length:Nat):Int)) O rfl (ev rfl) (ev rfl) rfl rfl rfl rfl rfl (by decide) (by omega) (λ_=>by dsimp<;>rfl) (λk9 U TX O=>?_);refine G 7 ?_;refine qn ?_;simp only[γ];refine G 3 ?_;refine ah.loop (λmm I U=>∃(i:Nat) (y:D),I.clean=fL I 28 [(1,.ptr k1 0 0),(0,.ptr k2 0 0),(0,y),(7,dL t.ks),(0,.int .i64 (t.ks.length:Nat)),(0,.int .i64 (i:Nat))]/\Has Y.bs.length S U (.ai y 8 (((t.ks.take i).map Q.less).map tC)::.box k2 (.mem 0 false tz)::.box k1 (.mem 0 false (tC t))::[])/\(i+mm=t.ks.length)/\(∀k,y.ref=k+1->S.bs.length<=k)) (t.ks.length) ?_ ?_
  .exact⟨0,.win k9 0 0 0 8,rfl,O,by omega,(λk A=>by simp only[Γ] at A;omega)⟩
  rintro mm I U ⟨i,y,hfr,O,hi,gb⟩;refine zK λee=>?_;refine G 5 ?_;refine zP (λh1=>?_) λh1=>?_
  .refine G 1 ?_
   obtain⟨p,B⟩:=gx (l:=t.ks) (i:=i)
   have gi:=χ B;have BC:=ch gi;have dO:=lD B;have rN:=λU=>C3 m p (by omega) (by omega) (pj p gi) (YU p gi) U;refine M 5 λTN I5=>?_;refine u.mr rfl (ev rfl) (by assumption) rfl (by dsimp<;>rfl) ?_;refine M 3 λk5 U FA O U O=>?_;have O:Has Y.bs.length S U (.box k5 (.mem 0 false (tC p))::.ai y 8 (((t.ks.take i).map Q.less).map tC)::.box k2 (.mem 0 false tz)::.box k1 (.mem 0 false (tC t))::[]):=O;refine G 2 ?_;refine YZ (m:=8) (r:=tC p) O rfl (ev rfl) aV rfl rfl rfl (by dsimp<;>rfl) ?_;refine M (t:=(rN _)) 2 λk20 U Wn O=>?_;refine y5 O dh (O.rows aV) (by simp only[γ,ρ,κ,η];omega) gb λZe U gb O=>?_;dsimp at O;refine G 2 ?_;have O:=O.drop 2;refine G 4 ?_;exact⟨mm-1,by omega,i+1,Ze,rfl,(by rw[ς,B,ε,ε];exact O),by omega,gb⟩
  .refine G 1 ?_;have YR:i=t.ks.length:=by omega
   rw[YR,ξ] at O;clear YR hi h1;generalize hl:t.ks.map Q.less=l at*;refine G 4 ?_;refine qT O dh (λU O=>?_) (hcs:=O.dv aV);dsimp[u2,u1,u3,u4,setMany,u5,u6,τ,δ,tC,bQ,aO] at O;refine G 1 ?_;have O:Has Y.bs.length S U (.ai y 8 (l.map tC)::.box k2 (.mem 0 false tz)::.box k1 (.mem 0 false (bQ t.n y))::[]):=O;have JD:∀U,Has Y.bs.length S U (.ai y 8 (l.map tC)::.box k2 (.mem 0 false tz)::.box k1 (.mem 0 false (bQ t.n y))::[])->Ξ U 8 y (l.map tC):=λU h=>h.rows aV;refine G 7 ?_;have YC:∀U,∀h2:List D,Has Y.bs.length S U (.ai y 8 (l.map tC)::.box k2 (.mem 0 false h2)::.box k1 (.mem 0 false (bQ t.n y))::[])->aB U Y.bs.length false 15 y=some (dL l):=λU h2 h=>by rw[mE];exact h.freeze aV (kD NA) (n:=14) (by decide)
   rw[Qq];rw[Qq] at wB;unfold mX at wB|-;refine G 6 ?_
   by_cases h3:t.n.op=3
   .have hc:(t.n.op==3)=true:=by simpa using h3
    rw[if_pos h3] at wB|-;refine vX ?_;have FF:=PG (n:=t.n) (JD _ O) NA (by omega);refine G 2 ?_;refine yC (m:=8) (r:=bQ t.n y) O dh ?_;refine W0 rfl rfl FF (ae rfl _) ?_;refine QY O rfl (ev rfl) (ev rfl) rfl (by exact rfl) bf (by exact rfl) (.inl hF) (λU O=>?_);dsimp at O;refine G 1 ?_;exact ah.ret ⟨rx,_,O.bm rfl bf rfl,rl aP O (jc wB _ _ _)⟩
   have hc:(t.n.op==3)=false:=by simpa using h3
   rw[if_neg h3] at wB|-;refine vY ?_;refine G 5 ?_
   by_cases h4:t.n.op=4
   .have WH:(t.n.op==4)=true:=by simpa using h4
    rw[if_pos h4] at wB|-;refine vX ?_;have FF:=PT (n:=t.n) (JD _ O) NA (by omega);refine G 2 ?_;refine yC (m:=8) (r:=bQ t.n y) O dh ?_;refine W0 rfl rfl FF (ae rfl _) ?_;refine QY O rfl (ev rfl) (ev rfl) rfl (by exact rfl) bf (by exact rfl) (.inl hF) (λU O=>?_);dsimp at O;refine G 1 ?_;exact ah.ret ⟨rx,_,O.bm rfl bf rfl,rl aP O (jc wB _ _ _)⟩
   have WH:(t.n.op==4)=false:=by simpa using h4
   rw[if_neg h4] at wB|-;refine vY ?_;refine G 5 ?_
   by_cases h5:t.n.op=5
   .have TY:(t.n.op==5)=true:=by simpa using h5
    rw[if_pos h5] at wB|-;refine vX ?_;obtain⟨g1,g2⟩:=iF h5
    obtain⟨k,l0,pg⟩:∃k l0,l=k::l0:=by
     cases l with
     |nil=>exact absurd (QV.1 hl) g1
     |cons a b=>exact⟨a,b,rfl⟩
    subst pg;dsimp only at wB|-;have hkg:=Q.uc.1 (hlg k (Θ ..));have FF:=ES (n0:=t.n) (x:=y) (k:=k) (l0:=l0) (JD _ O) rO NA (by omega) g2 hkg.1;obtain⟨n',y',hsh,htl⟩:=H9 (n:=TP t.n) (x:=y) (k:=k) (l:=k::l0) rO (NA k (Θ ..));rw[hsh] at FF;rw[UQ];refine G 2 ?_;refine yC (m:=8) (r:=bQ t.n y) O dh ?_;refine W0 rfl rfl FF (ae rfl _) ?_;refine QY O rfl (ev rfl) (ev rfl) rfl (by exact rfl) bf (by exact rfl) (.inl hF) (λU O=>?_);dsimp at O;refine G 1 ?_;exact ah.ret ⟨rx,_,O.bm rfl bf rfl,rl aP O (htl _ _ (YC _ _ O))⟩
   have TY:(t.n.op==5)=false:=by simpa using h5
   rw[if_neg h5] at wB|-;refine vY ?_;refine G 3 ?_;refine yC (m:=8) (r:=bQ t.n y) O dh ?_;refine QY O rfl (ev rfl) (ev rfl) rfl (by exact rfl) bf (by exact rfl) (.inl hF) (λU O=>?_);dsimp at O;refine G 1 ?_
   have WQ:aB U Y.bs.length false 16 (.agg (bQ t.n y))=some (.agg (tC (.mk t.n (aE l)))):=by
    rw[Rz];show(cE (aB U Y.bs.length false 15) (bQ t.n y)).map YJ=_;have h8:=YC _ _ O;unfold bQ;simp only[cE,h8,rO]
    rfl
   exact ah.ret ⟨rx,_,O.bm rfl bf rfl,rl aP O WQ⟩
variable{Y:St}{x:D}
def CU {l:List aQ} (hx:fJ x 7 (l.map aO)) (hv:∀n∈l,ki n) (hl:l.length<=500):Ev pv 20 [x] Y (jO (bO l)) Y:=by
 open PZ in
 have A3:Nl.ok ⟨x,l⟩:=⟨hx,λn hn=>by
  obtain⟨h1,X,h3⟩:=hv n hn
  exact⟨by rw[h1];exact dU _,X,by omega⟩,by show l.length<=_;omega⟩
 have hrt:=λU=>yp (Y:=U) A3;unfold bO;refine zM acA λS aP hF O=>?_;have wy:=hx.arg Y.bs.length S;refine M (t:=(hrt _)) 11 ?_
 cases hR:eM l with
 |false=>
  rw[if_neg (by simp)];refine ah.cond (v:=true) (by dsimp[Fr.ev,Fr.get,nth,V.look];rfl) (λ_=>?_) (λh=>by cases h);exact M 4 trivial
 |true=>
  rw[if_pos rfl];refine M 2 ?_;obtain⟨bK,iS⟩:=oh hR;generalize b8 l=t at*;have hct:=Q.jj t;rw[iS] at hct;have hfa:t.fa lv:=(Q.cK t).2 (λn hn=>by rw[iS] at hn;exact⟨(hv n hn).1,(hv n hn).2.1⟩);have xq:=λU=>Hy t.dF t [] (ζ _) (by omega) bK (by rw[Ψ,iS];exact hv) U x (by rw[Ψ,iS];exact hx);obtain⟨NA,hlc⟩:=Q.gz t hfa;have hle:=λU=>C3 t.dF t (ζ _) (by omega) hfa (GJ t bK) U;have hft:=λU=>HC t.less.dF t.less (ζ _) (by omega) NA U;refine G 3 ?_;obtain⟨_,aK,y,rfl,hy⟩:=xq S;refine M 8 λk3 U A7 O U O=>?_;have O:Has Y.bs.length S U (.box k3 (.mem 0 false (tC t))::[]):=O;refine G 2 ?_;refine yC (m:=8) (r:=tC t) O aV ?_;refine qv (hle _) ?_;exact M (t:=(hft _)) 3 trivial
def kF:Nat->Nat->Nat
 |0,_=>0
 |f+1,m=>if m=0 then 0 else kF f (m/256)+1
def kB (m:Nat):Nat:=kF 8 m
def HO:Nat->Nat->List UInt8
 |0,_=>[]
 |k+1,m=>π (m/256^k)::HO k m
def gw (n:Int):List UInt8:=π (kB n.toNat)::HO (kB n.toNat) n.toNat
def Qk:∀f m,kF f m<=f
 |0,_=>ζ _
 |f+1,m=>by
  unfold kF
  split
  .omega
  .have:=Qk f (m/256);omega
def Lu (m:Nat):kB m<=8:=Qk 8 m
theorem va:∀k m,(HO k m).length=k
 |0,_=>rfl
 |k+1,m=>by simp[HO,va k m]
def Ld (n:Int):(gw n).length=kB n.toNat+1:=by simp[gw,va]
def mA (n:Int):(gw n).length<=9:=by rw[Ld];have:=Lu n.toNat;omega
def G6:∀f m,m<256^f->m/256^kF f m=0/\∀j,j<kF f m->0<m/256^j
 |0,m,h=>by
  have:m=0:=by simpa using h
  subst this;exact⟨by simp[kF],λj hj=>by simp[kF] at hj⟩
 |f+1,m,h=>by
  unfold kF
  split
  .rename_i h0;subst h0;exact⟨by simp,λj hj=>by omega⟩
  .rename_i h0
   have hd:m/256<256^f:=by
    rw[X7] at h;exact Nat.div_lt_of_lt_mul (by omega)
   obtain⟨h1,X⟩:=G6 f (m/256) hd;refine⟨by rw[X7,Y9,<-Wg];exact h1,λj hj=>?_⟩
   cases j with
   |zero=>simp;omega
   |succ j=>rw[X7,Y9,<-Wg];exact X j (by omega)
def G7 {m:Nat} (h:m<256^8):m/256^kB m=0/\∀j,j<kB m->0<m/256^j:=G6 8 m h
def Tw (Y U:St) (d:D) (b:List UInt8):Prop:=Has Y.bs.length Y U [.ai d 1 (θ b)]
def tu (a b:List UInt8):θ (a++b)=θ a++θ b:=by unfold θ;rw[ε]
def MI (k:Nat) (A:k<2^63) (U:St):pk pv 3 85 (.int .i64 (k:Nat)) U=some (.int .u64 (k:Nat),U):=by
 show some (Q6 .u64 (aR .u64 (k:Nat)),U)=_;rw[b7 (by simp[iQ];omega)]
def GR (k:Nat) (A:k<=8) (U:St):(iC pv .mul 85 (.int .u64 8) (.int .u64 (k:Nat))).map (λd=>(d,U))=some (.int .u64 ((8*k:Nat):Int),U):=by
 show Wv _ (some (Q6 .u64 (aR .u64 (8*(k:Nat)))))=_;rw[show(8:Int)*(k:Nat)=((8*k:Nat):Int) by omega,b7 (by simp[iQ];omega)];rfl
def Mz (m k:Nat):Int.fdiv (m:Nat) (2^(8*k))=((m/256^k:Nat):Int):=by
 have e:((2:Int)^(8*k))=((256^k:Nat):Int):=by
  rw[Int.pow_mul,Int.natCast_pow];rfl
 rw[e,Int.fdiv_eq_ediv_of_nonneg _ (Int.natCast_nonneg _)];rfl
def Gn (m k:Nat) (A:k<=8) (U:St):(iC pv .shr 173 (.int .u64 (m:Nat)) (.int .u64 ((8*k:Nat):Int))).map (λd=>(d,U))=some (.int .u64 ((m/256^k:Nat):Int),U):=by
 show Wv _ (if((8*k:Nat):Int)<0 then none else some (Q6 .u64 (Int.fdiv (m:Nat) (2^(min ((8*k:Nat):Int).toNat 64)))))=_;rw[if_neg (by omega),Int.toNat_natCast,Ω (by omega),Mz];rfl
variable{q:Nat}
def QM (hq:q<256):θ [π q]=[[Q6 .u8 (q:Nat)]]:=by
 show[[Q6 .u8 ((π q).toNat:Nat)]]=_;rw[X9,Nat.mod_eq_of_lt hq]
def MT:θ [π q]=[[Q6 .u8 ((q %256:Nat):Int)]]:=by
 show[[Q6 .u8 ((π q).toNat:Nat)]]=_;rw[X9]
def JR (q:Nat):aR .u8 (q:Nat)=((q %256:Nat):Int):=by
 rw[ja];rfl
def S3 (q:Nat) (U:St):pk pv 173 5 (.int .u64 (q:Nat)) U=some (.int .u8 ((q %256:Nat):Int),U):=by
 show some (Q6 .u8 (aR .u8 (q:Nat)),U)=_;rw[JR]
def BN {b:List UInt8} (hF:Y.flr<=Y.bs.length) (fx:Y.ro<=Y.bs.length) (hx:Ξ Y 1 x (θ b)) (hl:b.length<=68719476736) (room:Nat) (hr:room<=68719476736):
  ∃d R,Ev pv 91 [x,.int .i64 (room:Nat)] Y d R/\Tw Y R d b:=by
 have YW:=aY b;refine Ev.sv rfl abz rfl rfl rfl ?_;refine zE ?_;have aP:(aw .nw Y).bs=Y.bs:=rfl;have hF:(aw .nw Y).flr<=Y.bs.length:=hF;have O:Has Y.bs.length (aw .nw Y) (aw .nw Y) []:=Has.start (ζ _) (ζ _);generalize aw .nw Y=S at*;have hx:=QS hx aP;refine M 9 ?_;refine yA (z:=((b.length+room:Nat):Int)) ?_;refine u.L3 (s:=1) O rfl (ev rfl) (ev rfl) rfl rfl rfl rfl rfl (ν rfl) (by omega) (λ_=>(ae rfl _)) (λk10 U aa1 O=>?_);refine G 6 ?_;refine u.lU (s:=1) O rfl (ev rfl) (ev rfl) (by exact aV) (by exact Arg.rows (by assumption) O) rfl rfl rfl rfl rfl rfl rfl ⟨(ν rfl),(ν rfl)⟩ (λ_=>(ae rfl _)) rfl (by simp only[η]<;>omega) (by exact .inl hF) (λx13 U O=>?_);dsimp at O;refine M 3 ?_;exact O.AQ aP fx
def Ge {b:List UInt8} (hF:Y.flr<=Y.bs.length) (fx:Y.ro<=Y.bs.length) (hx:Ξ Y 1 x (θ b)) (hl:b.length<=60000000000) (n:Int) (hn:n<9223372036854775808):
  ∃d R,Ev pv 90 [x,.int .i64 n] Y d R/\Tw Y R d (b++gw n):=by
 obtain⟨m,hm⟩:∃m,n.toNat=m:=⟨_,rfl⟩
 have Fy:m<256^8:=by omega
 obtain⟨jo,jn⟩:=G7 Fy;have O':=Lu m;have Qw:gw n=π (kB m)::HO (kB m) m:=by unfold gw;rw[hm]
 have YW:=aY b;rw[Qw];refine Ev.sv rfl abA rfl rfl rfl ?_;refine zE ?_;have aP:(aw .nw Y).bs=Y.bs:=rfl;have hF:(aw .nw Y).flr<=Y.bs.length:=hF;have O:Has Y.bs.length (aw .nw Y) (aw .nw Y) []:=Has.start (ζ _) (ζ _);generalize aw .nw Y=S at*;have hx:=QS hx aP;refine G 7 ?_;obtain⟨d5,U,aK,ho⟩:=BN (Y:=S) (x:=x) (b:=b) (by rw[aP];exact hF) (by rw[aP];exact O.fx) (hx.rows O) (by omega) 9 (by omega);have O:=O.TO ho
 (try dsimp only[Ψ] at O)
 refine M 7 ?_;refine QQ (d:=.int .u64 (m:Nat)) (st1:=_) rfl rfl (by show some (Q6 .u64 (aR .u64 (max n 0)),_)=_;rw[show max n 0=(m:Int) by omega,b7 (by simp[iQ];omega)]) (ae rfl _) ?_;refine G 8 ?_;refine ah.loop (λmm I U=>∃(k:Nat),I.clean=fL I 9 [(5,d5),(0,.int .u64 (m:Nat)),(0,.int .i64 (k:Nat))]/\Has Y.bs.length S U [.ai d5 1 (θ b)]/\(k+mm=kB m)) (kB m) ?_ ?_
 .exact⟨0,rfl,O,by omega⟩
 rintro mm I U ⟨k,hfr,O,A⟩;refine zK λee=>?_;refine G 2 ?_;refine ah.dM 23 (.bool (decide (((k:Nat):Int)<8) &&decide (((m/256^k:Nat):Int)>0))) [] ?_ (λff tmp bp=>?_)
 .refine G 3 ?_;refine y2 16 (λba=>?_) λba=>?_
  .refine G 2 ?_;refine QQ (d:=.int .u64 (k:Nat)) (st1:=_) (wi ba) rfl (by exact MI k (by omega) _) (ae rfl _) ?_;refine QQ (d:=.int .u64 ((8*k:Nat):Int)) (st1:=_) (wi ba) rfl (by exact GR k (by omega) _) (ae rfl _) ?_;refine QQ (d:=.int .u64 ((m/256^k:Nat):Int)) (st1:=_) (wi ba) rfl (by exact Gn m k (by omega) _) (ae rfl _) ?_;refine G 2 ?_;exact vV
  .refine G 7 ?_;exact vV
 refine zG ?_
 by_cases hlt:k<kB m
 .have B:=jn k hlt
  have hct:(decide (((k:Nat):Int)<8) &&decide (((m/256^k:Nat):Int)>0))=true:=by
   rw[decide_eq_true (by omega),decide_eq_true (by omega)];rfl
  refine M 8 ?_;exact⟨mm-1,by omega,k+1,rfl,O,by omega⟩
 .have Wc:k=kB m:=by omega
  subst Wc
  have fy:(decide (((kB m:Nat):Int)<8) &&decide (((m/256^kB m:Nat):Int)>0))=false:=by
   rw[jo];simp
  refine M 6 ?_;refine QQ (d:=.int .u8 (kB m:Nat)) (st1:=_) rfl rfl (by show some (Q6 .u8 (aR .u8 (kB m:Nat)),_)=_;rw[b7 (by simp[iQ];omega)]) (ae rfl _) ?_;refine qh (s:=1) (vs:=[_]) O λk29 U aaY O=>?_;refine u.lU (s:=1) O rfl (ev rfl) (ev rfl) (by exact bf) (by exact O.rows (by exact aV)) rfl rfl rfl rfl rfl rfl rfl ⟨(ν rfl),(ν rfl)⟩ (λ_=>(ae rfl _)) rfl (by simp only[κ,η,γ]<;>omega) (by exact .inl hF) (λZd U O=>?_);dsimp[u2,u1,u3,u4,setMany,u5,u6,τ,δ] at O;refine G 2 ?_
  have O:Has Y.bs.length S U [.ai Zd 1 (θ (b++[π (kB m)]))]:=by
   rw[tu,QM (by omega)];exact O.drop 1
  refine G 4 ?_;refine u.J9 rfl (ev rfl) (ev rfl) (by omega) (by omega) (ae rfl _) ?_;refine G 2 ?_;have hbl:∀j,(HO j m).length=j:=λj=>va j m
  obtain⟨T,hT⟩:∃T,b++π (kB m)::HO (kB m) m=T:=⟨_,rfl⟩
  have hTl:T.length=b.length+kB m+1:=by rw[<-hT];simp[hbl];omega
  refine G 1 ?_;refine ah.loop (λmm I U=>∃(j:Nat) (y:D) (pre:List UInt8),I.clean=fL I 9 [(5,y),(0,.int .u64 (m:Nat)),(1,.int .i64 ((j:Int)-1))]/\Has Y.bs.length S U [.ai y 1 (θ pre)]/\(j=mm)/\(j<=kB m)/\(pre++HO j m=T)) (kB m) ?_ ?_
  .exact⟨kB m,Zd,b++[π (kB m)],rfl,O,rfl,ζ _,(by rw[<-hT,Q4];rfl)⟩
  rintro mm I U ⟨j,y,pre,hfr,O,hj,hjk,B⟩;rw[hfr];(try dsimp only[fL,fG,δ]);clear hfr;generalize ay I=ee;clear I;have eY:pre.length+j=T.length:=by rw[<-B,ι,hbl]
  have hbp:=aY pre;refine G 6 ?_
  cases j with
  |succ j=>
   have hc:decide (((j+1:Nat):Int)-1>=0)=true:=by rw[decide_eq_true_eq];omega
   refine vX ?_;refine G 1 ?_;have A9:((j+1:Nat):Int)-1=(j:Nat):=by omega
   rw[A9];have hq:m/256^j %256<256:=Nat.mod_lt _ (by decide);refine G 6 ?_;refine QQ (d:=.int .u64 (j:Nat)) (st1:=_) rfl rfl (by exact MI j (by omega) _) (ae rfl _) ?_;refine QQ (d:=.int .u64 ((8*j:Nat):Int)) (st1:=_) rfl rfl (by exact GR j (by omega) _) (ae rfl _) ?_;refine QQ (d:=.int .u64 ((m/256^j:Nat):Int)) (st1:=_) rfl rfl (by exact Gn m j (by omega) _) (ae rfl _) ?_;refine QQ (d:=.int .u8 ((m/256^j %256:Nat):Int)) (st1:=_) rfl rfl (by exact S3 _ _) (ae rfl _) ?_;refine qh (s:=1) (vs:=[_]) O λk44 U aed O=>?_;refine u.lU (s:=1) O rfl (ev rfl) (ev rfl) (by exact bf) (by exact O.rows (by exact aV)) rfl rfl rfl rfl rfl rfl rfl ⟨(ν rfl),(ν rfl)⟩ (λ_=>(ae rfl _)) rfl (by simp only[κ,η,γ]<;>omega) (by exact .inl hF) (λx45 U O=>?_);dsimp only[u2,u1,u3,u4,setMany,u5,u6,τ,δ] at O;refine G 2 ?_
   have O:Has Y.bs.length S U [.ai x45 1 (θ (pre++[π (m/256^j)]))]:=by
    rw[tu,MT];exact O.drop 1
   refine G 2 ?_;refine yB (z:=((j:Int)-1)) ?_;refine G 2 ?_;exact⟨j,by omega,⟨j,x45,pre++[π (m/256^j)],rfl,O,rfl,by omega,(by rw[Q4];exact B)⟩⟩
  |zero=>
   have hc:decide (((0:Nat):Int)-1>=0)=false:=rfl;refine vY ?_;refine G 1 ?_;have RX:pre=T:=by rw[<-B];simp[HO]
   subst RX;refine M 6 ?_;rw[hT];exact O.AQ aP fx
def dH (c:Nat):Nat:=if c<128 then 1 else if c<194 then 0 else if c<224 then 2 else if c<240 then 3 else if c<245 then 4 else 0
def GQ (c : Nat) (U : St) : Ev pv 125 [.int .u8 c] U (.int .i64 (dH c : Nat)) U := by
 refine Ev.sU rfl XJ rfl rfl rfl ?_;refine zE ?_;unfold dH
 repeat' split
 ·(repeat (first | refine xT ?_ | refine xL ?_ | refine xN ?_ | refine xo ?_ | refine xp ?_ | (refine Q7 ?_; try refine zF ?_) | refine qq ?_ | refine ah.jy ?_ | refine ah.cond (v := true) rfl (λ_ => ?_) (λh => by cases h) | refine ah.cond (v := false) rfl (λh => by cases h) (λ_ => ?_) | refine ah.skip ?_ | refine ah.block ?_ | simp (disch := omega) only [decide_eq_true, decide_eq_false, eR, gV, eQ, gU]));refine ah.ret ⟨rx, _, rfl, dg (by simp) (by simp [aw]) ?_⟩
  rfl
 ·(repeat (first | refine xT ?_ | refine xL ?_ | refine xN ?_ | refine xo ?_ | refine xp ?_ | (refine Q7 ?_; try refine zF ?_) | refine qq ?_ | refine ah.jy ?_ | refine ah.cond (v := true) rfl (λ_ => ?_) (λh => by cases h) | refine ah.cond (v := false) rfl (λh => by cases h) (λ_ => ?_) | refine ah.skip ?_ | refine ah.block ?_ | simp (disch := omega) only [decide_eq_true, decide_eq_false, eR, gV, eQ, gU]));refine ah.ret ⟨rx, _, rfl, dg (by simp) (by simp [aw]) ?_⟩
  rfl
 ·(repeat (first | refine xT ?_ | refine xL ?_ | refine xN ?_ | refine xo ?_ | refine xp ?_ | (refine Q7 ?_; try refine zF ?_) | refine qq ?_ | refine ah.jy ?_ | refine ah.cond (v := true) rfl (λ_ => ?_) (λh => by cases h) | refine ah.cond (v := false) rfl (λh => by cases h) (λ_ => ?_) | refine ah.skip ?_ | refine ah.block ?_ | simp (disch := omega) only [decide_eq_true, decide_eq_false, eR, gV, eQ, gU]));refine ah.ret ⟨rx, _, rfl, dg (by simp) (by simp [aw]) ?_⟩
  rfl
 ·(repeat (first | refine xT ?_ | refine xL ?_ | refine xN ?_ | refine xo ?_ | refine xp ?_ | (refine Q7 ?_; try refine zF ?_) | refine qq ?_ | refine ah.jy ?_ | refine ah.cond (v := true) rfl (λ_ => ?_) (λh => by cases h) | refine ah.cond (v := false) rfl (λh => by cases h) (λ_ => ?_) | refine ah.skip ?_ | refine ah.block ?_ | simp (disch := omega) only [decide_eq_true, decide_eq_false, eR, gV, eQ, gU]));refine ah.ret ⟨rx, _, rfl, dg (by simp) (by simp [aw]) ?_⟩
  rfl
 ·(repeat (first | refine xT ?_ | refine xL ?_ | refine xN ?_ | refine xo ?_ | refine xp ?_ | (refine Q7 ?_; try refine zF ?_) | refine qq ?_ | refine ah.jy ?_ | refine ah.cond (v := true) rfl (λ_ => ?_) (λh => by cases h) | refine ah.cond (v := false) rfl (λh => by cases h) (λ_ => ?_) | refine ah.skip ?_ | refine ah.block ?_ | simp (disch := omega) only [decide_eq_true, decide_eq_false, eR, gV, eQ, gU]));refine ah.ret ⟨rx, _, rfl, dg (by simp) (by simp [aw]) ?_⟩
  rfl
 ·(repeat (first | refine xT ?_ | refine xL ?_ | refine xN ?_ | refine xo ?_ | refine xp ?_ | (refine Q7 ?_; try refine zF ?_) | refine qq ?_ | refine ah.jy ?_ | refine ah.cond (v := true) rfl (λ_ => ?_) (λh => by cases h) | refine ah.cond (v := false) rfl (λh => by cases h) (λ_ => ?_) | refine ah.skip ?_ | refine ah.block ?_ | simp (disch := omega) only [decide_eq_true, decide_eq_false, eR, gV, eQ, gU]));refine ah.ret ⟨rx, _, rfl, dg (by simp) (by simp [aw]) ?_⟩
  rfl
def Fm (c:Nat):Nat:=if c=224 then 160 else if c=237 then 128 else if c=240 then 144 else 128
def Ho (c:Nat):Nat:=if c=224 then 191 else if c=237 then 159 else if c=240 then 191 else if c=244 then 143 else 191
def H5 (c d : Nat) (U : St) : Ev pv 126 [.int .u8 c, .int .u8 d] U (.bool (decide (Fm c <= d /\ d <= Ho c))) U := by
 refine Ev.sU rfl XI rfl rfl rfl ?_;refine zE ?_
 have key : (c = 224 /\ Fm c = 160 /\ Ho c = 191) \/ (c = 237 /\ Fm c = 128 /\ Ho c = 159) \/ (c = 240 /\ Fm c = 144 /\ Ho c = 191) \/ (c = 244 /\ Fm c = 128 /\ Ho c = 143) \/ (c ≠ 224 /\ c ≠ 237 /\ c ≠ 240 /\ c ≠ 244 /\ Fm c = 128 /\ Ho c = 191) := by
  unfold Fm Ho
  split
  .omega
  split
  .omega
  split
  .omega
  split
  .omega
  .omega
 have ZO : d < Fm c \/ (Fm c <= d /\ Ho c < d) \/ (Fm c <= d /\ d <= Ho c) := by omega
 generalize Fm c = lo at *;generalize Ho c = hi at *
 rcases key with ⟨h, rfl, rfl⟩ | ⟨h, rfl, rfl⟩ | ⟨h, rfl, rfl⟩ | ⟨h, rfl, rfl⟩ | ⟨h1, X, h3, h4, rfl, rfl⟩ <;> rcases ZO with k | ⟨k1, k2⟩ | ⟨k1, k2⟩
 all_goals
  (repeat (first | refine xT ?_ | refine xL ?_ | refine xN ?_ | refine xo ?_ | refine xp ?_ | (refine Q7 ?_; try refine zF ?_) | refine qq ?_ | refine ah.jy ?_ | refine ah.cond (v := true) rfl (λ_ => ?_) (λh => by cases h) | refine ah.cond (v := false) rfl (λh => by cases h) (λ_ => ?_) | refine ah.skip ?_ | refine ah.block ?_ | simp (disch := omega) only [decide_eq_true, decide_eq_false, eR, gV, eQ, gU]));refine ah.ret ⟨rx, _, rfl, dg (by simp) (by simp [aw]) ?_⟩;simp (disch := omega) only [decide_eq_true, decide_eq_false]
  rfl
end Go.Proofs.YtappgjdiplibbaaGreat
