/-
 The document's alternatives: kids once; classes side by side are one.
-/
import Derived.Test.YtappgjdiplibbaaGreatYGHs
import Derived.Test.YtappgjdiplibbaaGreatYGMc
import Derived.Test.YtappgjdiplibbaaGreatYGEh
import Derived.Test.YtappgjdiplibbaaGreatYM2
import Derived.KernelRfl
import Derived.Test.YtappgjdiplibbaaGreatYGGf
import Derived.Test.YtappgjdiplibbaaGreatYPx
import Derived.Test.YtappgjdiplibbaaGreatYGEp
set_option maxRecDepth 100000
set_option maxHeartbeats 4000000
set_option linter.all false
open List renaming append_assoc->γ,mem_cons_self->δ,mem_singleton->ε,length_map->ζ,mem_append->θ,length_append->ι,mem_of_getElem?->κ,foldl->ν,length_nil->ξ,length->ο,length_take->π,take_add_one->ρ,length_reverse->ς,take_length->υ,take_append_of_le_length->φ,perm_append_comm->ψ,length_cons->Γ,mem_map->Δ,length_set->Ξ,drop_length->Ψ,getElem?_eq_some_iff->Ω,take_of_length_le->Qal,map_append->Qam,append_nil->Qao,drop_eq_getElem_cons->Qar,mem_or_eq_of_mem_set->Qas,set_append_right->Qat,take_append_drop->Qau,mem_append_left->Qaw,flatMap_append->Qay,cons_append->Qb2,mem_flatMap->Qb3,not_mem_nil->Qb4,perm_middle->Qb5,mem_cons->Qb8,map_set->Qb9
open Nat renaming reduceAdd->η,le_refl->μ,le_trans->χ,reduceSub->ω,beq->Qaq,sub_self->Qav,eq_of_beq_eq_true->Qax,zero_le->Qaz,min_eq_left->Qb6,lt_or_ge->Qba
open Bool renaming and_eq_true->τ,and_eq_true_iff->Qan,eq_false_iff->Qb1,true_and->Qb7
open Go.V.Has renaming perm->Θ
open Go.V.u renaming nil->Φ,dJ->Qap,dP->Qb0,go->Qbb,uE->Qbc,Az->Qbd
open Go.V.D renaming agg->y4,bool->wt,int->J,nul->j5,ptr->yv
open Go.V.Q renaming leaf->qJ,node->X_
open Go.IntKind renaming i64->W
open Go.V.aX renaming box->x4
open Go.V.mc renaming mem->zm
namespace Go.Proofs.YtappgjdiplibbaaGreat
open Go.V Go
variable{N:Nat}{S U:St}{hk H:List aX}
theorem QT:∀{s0 Z:List Tz},s0.Sublist Z->Has N S U (hk++(zEE Z++H))->Has N S U (hk++(zEE s0++H)):=by
 intro s0 Z h O
 have B:∀{s0 Z:List Tz},s0.Sublist Z->∃af,(zEE Z).Perm (zEE s0++af):=by
  intro s0 Z h
  induction h with
  |slnil=>exact⟨[],.refl _⟩
  |cons a _ ih=>
   obtain⟨af,hR⟩:=ih;refine⟨a.E++af,(hR.append_left a.E).trans ?_⟩;rw[<-γ,<-γ];exact ψ.append_right af
  |cons_cons a _ ih=>
   obtain⟨af,hR⟩:=ih;refine⟨af,?_⟩;have:=hR.append_left a.E;rw[<-γ] at this;exact this
 obtain⟨af,hR⟩:=B h;have h1:(zEE Z++H).Perm (zEE s0++H++af):=(hR.append_right H).trans (by rw[γ,γ];exact ψ.append_left _);have X:=(Θ h1 O).take (hk.length+(zEE s0++H).length);rw[<-γ,φ (by simp),Qal (by simp)] at X;exact X
variable{Z:List Tz}{i:Nat}{z:Tz}
theorem JP (O:Has N S U (hk++(zEE Z++H))) (hi:Z[i]?=some z) (hz:z.ok):xV U z.t z.c:=by
 have h1:=Θ ((Ek hi).append_right H) O;have X:=h1.take (hk.length+z.E.length);rw[γ,<-γ,φ (by simp),Qal (by simp)] at X;exact hz.rd X
def Tz.lit (h:z.ok):∃x,z.c=[J W z.t.n.op,z.t.n.rd,J W z.t.n.mn,J W z.t.n.mx,wt z.t.n.lz,J W z.t.n.cap,J W z.t.n.kids,x]:=by
 obtain⟨x,Z,h1,_⟩:=Tz.kids h;exact⟨x,h1⟩
def tN (t:Q):∀(l uG:List Q),jt uG (l++[t])=jt uG l++(if(uG++l).any (λx=>x.same t)=true then[] else[t])
 |[],uG=>by simp[jt]
 |aa::l,uG=>by
  have ih:=tN t l (uG++[aa]);rw[Qb2,jt,jt,ih,γ,List.singleton_append]
  split<;>simp
def eK (Z s0:List Tz):zT (Z++s0)=zT Z++zT s0:=Qam
def me (Z s0:List Tz):zC (Z++s0)=zC Z++zC s0:=Qam
variable{Y:St}
def w5 {x:D} (hF:S.flr<=N) (bK:∀z∈Z,z.ok) (hfa:∀t∈zT Z,t.fa jD) (hcl:bu (zT Z)<=1048576) (O:Has N S Y (.ai x 8 (zC Z)::(zEE Z++H))):
  ∃d R,Ev pv 111 [x] Y d R/\∃s0:List Tz,(∀y∈s0,y.ok)/\zT s0=yu (zT Z)/\Has N S R (.ai d 8 (zC s0)::.ai x 8 (zC Z)::(zEE s0++H)):=by
 have pg:=bk (zT Z);have jP:=e_ Z;have hzc:=fc Z;have hcz:∀z∈Z,z.t.dF<=1048576:=λz hz=>χ (ch (Δ.2 ⟨z,hz,rfl⟩)) hcl;have hfz:∀z∈Z,z.t.fa jD:=λz hz=>hfa _ (Δ.2 ⟨z,hz,rfl⟩);refine Ev.sv rfl XW rfl rfl rfl ?_;dsimp only[u3,u4,ο,ω,η,w1,w2];change ah _ _ _ _ Y _;refine G 13 ?_;have O:Has N S Y (.ai j5 8 (zC [])::.ai x 8 (zC Z)::(zEE Z++H)):=O.cY 8;refine G 1 ?_;refine ah.loop (λmm I U=>∃(i:Nat) (y:D) (s0:List Tz),I.clean=fL I 7 [(0,x),(2,y),(0,J W (i:Nat))]/\Has N S U (.ai y 8 (zC s0)::.ai x 8 (zC Z)::(zEE Z++H))/\(i+mm=Z.length)/\(s0.Sublist (Z.take i))/\(zT s0=yu (zT (Z.take i)))) (Z.length) ?_ ?_;·exact⟨0,j5,[],rfl,O,by omega,List.nil_sublist _,rfl⟩
 rintro mm I U ⟨i,y,s0,hfr,O,hi,TZ,YZ⟩;refine zK λee=>?_;refine M 8 ?_;rw[hzc];refine zP (λh1=>?_) λh1=>?_
 .refine G 1 ?_
  obtain⟨p,B⟩:=gx (l:=Z) (i:=i)
  have gi:=κ B;obtain⟨px,eY⟩:=Tz.lit (bK p gi);have sy:(zC Z)[i]?=some [J W p.t.n.op,p.t.n.rd,J W p.t.n.mn,J W p.t.n.mx,wt p.t.n.lz,J W p.t.n.cap,J W p.t.n.kids,px]:=by rw[pr B,eY]
  have ND:s0.length<=i:=χ TZ.length_le (by rw[π];omega);have Hu:=fc s0;have xC:Z.take (i+1)=Z.take i++[p]:=by rw[ρ,B];rfl
  refine G 12 ?_;refine ah.loop (λmm I U=>∃(k:Nat) (b:Bool),I.clean=⟨7,[x,ay I 1,ay I 2,y,J W (i:Nat),wt b,J W (k:Nat)],[]⟩/\Has N S U (.ai y 8 (zC s0)::.ai x 8 (zC Z)::(zEE Z++H))/\(k+mm=i)/\(b=(zT (Z.take k)).any (λaa=>aa.same p.t))) (i) ?_ ?_;·exact⟨0,false,rfl,O,by omega,rfl⟩
  rintro mm I U ⟨k,b,hfr,O,A,F⟩;refine zK λee=>?_;refine G 7 ?_;refine zP (λX=>?_) λX=>?_
  .refine G 1 ?_
   obtain⟨q,hq⟩:=gx (l:=Z) (i:=k)
   have IZ:=κ hq;obtain⟨qx,yX⟩:=Tz.lit (bK q IZ);have TU:(zC Z)[k]?=some [J W q.t.n.op,q.t.n.rd,J W q.t.n.mn,J W q.t.n.mx,wt q.t.n.lz,J W q.t.n.cap,J W q.t.n.kids,qx]:=by rw[pr hq,yX]
   have FI:(zT (Z.take (k+1))).any (λaa=>aa.same p.t)=(b||q.t.same p.t):=by
    rw[ρ,hq,eK,List.any_append,<-F];simp[zT]
   have Qr:=Kr (hfz q IZ) (hfz p gi) (hcz q IZ) (hcz p gi) (JP (hk:=[_,_]) O hq (bK q IZ)) (JP (hk:=[_,_]) O B (bK p gi));rw[yX,eY] at Qr;refine G 2 ?_
   cases NC:b with
   |true=>
    have tZ:true=true:=rfl;refine G 17 ?_;refine yA (z:=((k+1:Nat):Int)) ?_;refine G 2 ?_;exact⟨mm-1,by omega,k+1,true,rfl,O,by omega,(by rw[FI,NC,Bool.true_or])⟩
   |false=>
    have tZ:false=false:=rfl;refine G 5 ?_;refine qi O bf (λNu xF=>?_) (hg:=wi tZ);refine Qbd O (wi tZ) Pd so (by exact bf) so rfl (ae rfl _) ?_;refine G 2 ?_;refine qi O bf (λTM I4=>?_) (hg:=wi tZ);refine Qbd O (wi tZ) Pd so (by exact bf) so rfl (ae rfl _) ?_;refine Qb0 (wi tZ) rfl Qr (ae rfl _) ?_;refine G 5 ?_;refine yA (z:=((k+1:Nat):Int)) ?_;refine G 2 ?_;exact⟨mm-1,by omega,k+1,q.t.same p.t,rfl,O,by omega,(by rw[FI,NC,Bool.false_or])⟩
  refine G 1 ?_;have L8:k=i:=by omega
  subst L8;refine G 5 ?_
  have jg:yu (zT (Z.take (k+1)))=yu (zT (Z.take k))++(if b=true then[] else[p.t]):=by
   rw[xC,eK];show jt [] (zT (Z.take k)++[p.t])=_;rw[tN,List.nil_append,<-F];rfl
  cases NC:b with
  |true=>
   rw[NC,if_pos rfl,Qao] at jg;refine M 4 ?_;refine yA (z:=((k+1:Nat):Int)) ?_;refine G 2 ?_;exact⟨Z.length-(k+1),by omega,⟨k+1,y,s0,rfl,O,by omega,(by rw[xC];exact TZ.trans (List.sublist_append_left _ _)),(by rw[YZ,jg])⟩⟩
  |false=>
   rw[NC,if_neg (by simp)] at jg;refine M 13 λp35 VN k37 U Wk O Ns U O=>?_;refine yA (z:=((k+1:Nat):Int)) ?_;refine G 2 ?_;have O:Has N S U (.ai Ns 8 (zC (s0++[p]))::.ai x 8 (zC Z)::(zEE Z++H)):=by rw[me,show zC [p]=[p.c] from rfl,eY];exact O.drop 1
   exact⟨Z.length-(k+1),by omega,⟨k+1,Ns,s0++[p],rfl,O,by omega,(by rw[xC];exact TZ.append (List.Sublist.refl _)),(by rw[eK,YZ,jg];rfl)⟩⟩
 refine G 1 ?_;have hil:i=Z.length:=by omega
 rw[hil,υ] at TZ YZ;refine M 6 ?_;exact⟨s0,λz hz=>bK z (TZ.subset hz),YZ,QT (hk:=[_,_]) TZ O⟩
noncomputable def PD (a b:List Rg):Tz:=⟨kv a b,[J W 2,az (bB (a++b)),J W 0,J W 0,wt false,J W 0,J W 0,j5],[.ai j5 8 []]⟩
def PC (a b:List Rg):(PD a b).ok:=by
 show Bx (kv a b) _ _;unfold kv Bx;exact⟨j5,[],[],rfl,.refl _,by unfold iH;exact⟨rfl,rfl⟩⟩
variable{y:Oper}{fi fj:Fr}{si oo sj Ad:St}{a:Operand}{k aj off len s v:Nat}{ar:Bool}
def PE {x:Oper} {c:List D} (hy:fQ y.op=some a) (ha:fj.ev a=.win k aj off len s) (h1:si.bs[k]?=some (zm v ar c)) (X:oo.bs[k]?=some (zm v ar c)):fh x fi si oo y fj sj Ad=true:=by
 unfold fh;simp[hy,ha,D.mO];exact lF h1 X
def Ta {x:Oper} {o:Nat} {p:D} {c:List D} (hy:fQ y.op=some a) (ha:fj.ev a=p) (B:kz (.win k aj off len s) s i o p) (h1:si.bs[k]?=some (zm v ar c)) (X:oo.bs[k]?=some (zm v ar c)):fh x fi si oo y fj sj Ad=true:=by
 obtain⟨k',v',o',l',h3,h4⟩:=B;cases h3;subst h4;exact HI hy ha h1 X
variable{j:Nat}
def OI {n:Nat} {es:List (List D)} (h:Has N S U H) (hj:H[j]?=some (.ai (.win k aj off n s) s es)):∃c,off+es.length*s<=c.length/\(c.drop off).take (es.length*s)=es.flatten/\(∀e∈es,e.length=s)/\n=es.length/\Has N S U (H.set j (x4 k (zm aj true c))):=by
 have A:=(h.ok j _ hj).2;have hown:=h.own hj
 cases hown with
 |win k aj off es c hm hl hc he=>
  exact⟨c,hl,hc,he,rfl,h.pt hj (λ_ _ _=>rfl) (μ _) rfl rfl hm (λi hi=>.inl (by cases hi;simp[aX.ai,D.ref])) λi hi=>(A i (by cases hi;simp[aX.ai,D.ref])).2⟩
def PK {n:Nat} {es:List (List D)} {c:List D} (h:Has N S U H) (hj:H[j]?=some (x4 k (zm aj true c))) (h1:off+es.length*s<=c.length) (X:(c.drop off).take (es.length*s)=es.flatten) (h3:∀e∈es,e.length=s) (h4:n=es.length):Has N S U (H.set j (.ai (.win k aj off n s) s es)):=by
 subst h4;refine h.pt hj (λ_ _ _=>rfl) (μ _) rfl rfl (iX.win k aj off es c (h.at hj) h1 X h3) (λi hi=>.inl ?_) λi hi=>?_;·simp only[aX.ai,D.ref] at hi;show i=k;omega
 simp only[aX.ai,D.ref] at hi;have:i=k:=by omega
 subst this;exact(h.ge hj).2
variable{hp C:List aX}
def Has.RB (h:Has N S U (hk++(hp++C))):Has N S U (hk++C):=by
 have X:=(Θ ψ h).take (hk.length+C.length);rw[<-γ,φ (by simp),Qal (by simp)] at X;exact X
def Has.UT {e:aX} (h:Has N S U (e::(hk++C))):Has N S U (hk++e::C):=Θ (hk:=[]) Qb5.symm h
def vD {x:D} (hF:S.flr<=N) (bK:∀z∈Z,z.ok) (hfa:∀t∈zT Z,t.fa jD) (hcl:bu (zT Z)<=1048576) (O:Has N S Y (.ai x 8 (zC Z)::(zEE Z++H))):
  ∃d R,Ev pv 110 [x] Y d R/\∃s0:List Tz,(∀y∈s0,y.ok)/\zT s0=aS (zT Z)/\Has N S R (.ai d 8 (zC s0)::.ai x 8 (zC Z)::(zEE s0++H)):=by
 have pg:=bk (zT Z);have jP:=e_ Z;have hzc:=fc Z;have hfz:∀z∈Z,z.t.fa jD:=λz hz=>hfa _ (Δ.2 ⟨z,hz,rfl⟩);refine Ev.sv rfl XX rfl rfl rfl ?_;dsimp only[u3,u4,ο,ω,η,w1,w2];change ah _ _ _ _ Y _;refine qq<|qj λK hK=>qm ?_;refine qe hK<|qq<|qj λK hK=>qm ?_;refine qe hK<|M 2 ?_;refine qj λK hK=>qm ?_;refine qe hK ?_;have O:Has N S Y (.ai j5 8 (zC [])::.ai x 8 (zC Z)::(zEE []++(zEE (Z.drop 0)++H))):=O.cY 8;refine ah.block<|ah.loop (λmm I U=>∃(i:Nat) (y:D) (s0:List Tz),I.clean=fL I 6 [(0,x),(2,y),(0,J W (i:Nat))]/\Has N S U (.ai y 8 (zC s0)::.ai x 8 (zC Z)::(zEE s0++(zEE (Z.drop i)++H)))/\(i+mm=Z.length)/\(∀y∈s0,y.ok)/\(∀t∈zT s0,t.fa jD)/\(zT s0=aS (zT (Z.take i)))) (Z.length) ?_ ?_
 .exact⟨0,j5,[],rfl,O,by omega,(λy hy=>by cases hy),(λy hy=>by cases hy),rfl⟩
 rintro mm I U ⟨i,y,s0,hfr,O,hi,xu,QG,YY⟩;refine zK λee=>?_;refine M 2 ?_;refine qj λK hK=>M 4 ?_;refine qe hK ?_;rw[hzc];refine zP (λh1=>?_) λh1=>?_
 .refine ah.skip ?_
  obtain⟨p,B⟩:=gx (l:=Z) (i:=i)
  have gi:=κ B;obtain⟨px,eY⟩:=Tz.lit (bK p gi);have sy:(zC Z)[i]?=some [J W p.t.n.op,p.t.n.rd,J W p.t.n.mn,J W p.t.n.mx,wt p.t.n.lz,J W p.t.n.cap,J W p.t.n.kids,px]:=by rw[pr B,eY]
  have Hu:=fc s0
  have ND:s0.length<=i:=by
   have h1:=congrArg ο YY;have X:=kJ (zT (Z.take i)) [];rw[e_] at h1;unfold aS at h1;rw[e_,π] at X;simp only[ξ] at X;omega
  have xC:Z.take (i+1)=Z.take i++[p]:=by rw[ρ,B];rfl
  have jg:aS (zT (Z.take (i+1)))=dz (zT s0) p.t:=by rw[xC,eK,YY];exact wm _ _
  have hdE:zEE (Z.drop i)=p.E++zEE (Z.drop (i+1)):=by
   obtain⟨h3,h4⟩:=Ω.1 B;rw[Qar h3,h4];rfl
  rw[hdE] at O;have nf:=(Q.cW.1 (hfz p gi)).1
  have Pk:∀(U:St) (z:D),Has N S U (.ai z 8 (zC s0++[[J W p.t.n.op,p.t.n.rd,J W p.t.n.mn,J W p.t.n.mx,wt p.t.n.lz,J W p.t.n.cap,J W p.t.n.kids,px]])::.ai x 8 (zC Z)::(zEE s0++(p.E++zEE (Z.drop (i+1))++H)))->Has N S U (.ai z 8 (zC (s0++[p]))::.ai x 8 (zC Z)::(zEE (s0++[p])++(zEE (Z.drop (i+1))++H))):=λU z h=>by
   rw[me,show zC [p]=[p.c] from rfl,eY,kU,nv]
   simpa only[γ] using h
  have Sb:∀t∈zT (s0++[p]),t.fa jD:=λt ht=>by
   rw[eK] at ht
   rcases θ.1 ht with h|h
   .exact QG t h
   rw[show t=p.t from ε.1 h];exact hfz p gi
  have Sc:∀y∈s0++[p],y.ok:=λy hy=>by
   rcases θ.1 hy with h|h
   .exact xu y h
   rw[ε.1 h];exact bK p gi
  refine M 3 ?_;refine qj λK hK=>M 3 ?_;refine qe hK ?_;rw[Hu]
  rcases List.eq_nil_or_concat s0 with JJ|⟨Y0,q,JJ⟩
  .have O_:s0.length=0:=by rw[JJ];rfl
   rw[O_];have A8:dz (zT s0) p.t=zT (s0++[p]):=by rw[JJ];rfl
   have ba:decide (((0:Nat):Int)>0)=false:=rfl;have mI:false=false:=rfl;refine M 2 ?_;refine qj λK hK=>M 21 ?_;refine qe hK<|M 2 ?_;refine qj λK hK=>M 8 λZs R0 k63 U Wg O Uu U O=>?_;refine qe hK<|qj λK hK=>qm ?_;refine yA (z:=((i+1:Nat):Int)) ?_;refine qm ?_;refine qe hK ?_;exact⟨mm-1,by omega,i+1,Uu,s0++[p],rfl,Pk _ _ (O.drop 1),by omega,Sc,Sb,(by rw[jg,A8])⟩
  rw[List.concat_eq_append] at JJ;have O_:s0.length=Y0.length+1:=by rw[JJ];simp
  rw[O_];have IZ:q∈s0:=by rw[JJ];simp
  obtain⟨qx,yX⟩:=Tz.lit (xu q IZ);have TU:(zC s0)[Y0.length]?=some [J W q.t.n.op,q.t.n.rd,J W q.t.n.mn,J W q.t.n.mx,wt q.t.n.lz,J W q.t.n.cap,J W q.t.n.kids,qx]:=by rw[JJ,<-yX];exact pr (by simp)
  have YH:=(Q.cW.1 (QG q.t (Δ.2 ⟨q,IZ,rfl⟩))).1
  have hjl:dz (zT s0) p.t=if p.t.n.op=2/\q.t.n.op=2 then zT Y0++[kv q.t.n.rs p.t.n.rs] else zT (s0++[p]):=by
   rw[eK,JJ,eK];exact wo
  have ba:decide (((Y0.length+1:Nat):Int)>0)=true:=by rw[decide_eq_true_eq];omega
  by_cases oW:q.t.n.op=2
  .have mI:(q.t.n.op==2)=true:=by simpa using oW
   refine M 2 ?_;refine qj λK hK=>M 5 ?_;refine u.Aa (z:=(Y0.length:Int)) (wi ba) Pd Pd (by(try simp only[ς,Γ,ξ,ι,ζ,Ξ]);rw[wrap_i64 GB GB]<;>omega) (ae rfl _) ?_;refine qi O aV (λOc AX=>?_) (hg:=wi ba);refine Qap (fo:=0) (m:=6) (o2:=0) (wi ba) Pd so rfl rfl rfl (λ_=>(ae rfl _)) (λQc Dh=>?_);refine Qap (fo:=0) (m:=0) (o2:=0) (wi ba) Pd so rfl rfl rfl (λ_=>(ae rfl _)) (λNu xF=>?_);refine M 6 ?_;refine qi O bf (λRm Fx=>?_) (hg:=wi mI);refine Qap (fo:=0) (m:=6) (o2:=0) (wi mI) Pd so rfl rfl rfl (λ_=>(ae rfl _)) (λYv O4=>?_);refine Qap (fo:=0) (m:=0) (o2:=0) (wi mI) Pd so rfl rfl rfl (λ_=>(ae rfl _)) (λp31 aav=>?_);refine M 3 ?_;refine qe hK ?_
   by_cases tX:p.t.n.op=2
   .have hc:(p.t.n.op==2)=true:=by simpa using tX
    rw[if_pos ⟨tX,oW⟩] at hjl;refine vX ?_;have hzn:zC Z≠[]:=λh=>by have:=congrArg ο h;rw[hzc] at this;simp only[ξ] at this;omega
    obtain⟨kx,vx,ox,OR⟩:=uQ O bf hzn;subst OR;have hq9:=YH.2;have hp9:=nf.2;change ah _ _ _ _ _ _;refine qq ?_;generalize hK:dN _ _ _ _=K;refine ah.Ci rfl ?_;refine nr.cons ?_;refine qm ?_;refine yY ?_;refine qm ?_;refine yY ?_;refine yB (z:=(Y0.length:Int)) ?_;refine yY ?_;refine u.A5 (s:=2) O rfl rfl rfl rfl rfl (λ_=>(ae rfl _)) (λk38 U aaV O=>?_);dsimp[u2,u1,u3,u4,setMany,u5,u6,D.cells,η,zC] at O;refine yY ?_;refine qm ?_;refine yY ?_;refine qm ?_;refine yY ?_;refine yB (z:=(Y0.length:Int)) ?_;refine yY ?_;refine qi O bf λZv R3=>?_;refine yY ?_;refine yF (o2:=0) λTJ I1=>?_;refine yY ?_;refine yF (o2:=1) λp44 VL=>?_;refine yY ?_;refine qo O bf ?_;refine yY ?_;obtain⟨cx,Dv,h_,BD,WH,SO⟩:=OI O dh;have hA:=SO;refine yH SO aV (YH.rows _) (by simp only[ξ,ζ];omega) λP5 U O=>?_;have hB:=O;have O:=PK O dh Dv h_ BD WH;dsimp at O;refine yY ?_;refine qm ?_;refine yY ?_;refine qm ?_;refine yY ?_;refine qi O dh λUZ LS=>?_;refine Φ ⟨by exact Qan.2 ⟨PE rfl rfl (hA.at dh) (hB.at dh),rfl⟩,?_⟩;refine nr.cons ?_;refine yF (o2:=0) λYt O1=>?_;refine yY ?_;refine yF (o2:=1) λUY I0=>?_;refine yY ?_;refine qo O dh ?_;refine Φ ⟨by exact Qan.2 ⟨Ta rfl rfl I0 (hA.at dh) (hB.at dh),rfl⟩,?_⟩;refine nr.cons ?_;refine yH O aV (nf.rows _) (by simp;omega) λx53 U O=>?_;dsimp at O;rw[<-Qam] at O;refine yY ?_;refine qv (kH (O.rows aV) (by rw[ι];omega)) ?_;refine yY ?_;refine qg (d:=y4 [J W 2,az (bB (q.t.n.rs++p.t.n.rs)),J W 0,J W 0,wt false,J W 0,J W 0]) ?_;refine yY ?_;refine qg (d:=y4 [J W 2,az (bB (q.t.n.rs++p.t.n.rs)),J W 0,J W 0,wt false,J W 0,J W 0,j5]) ?_;refine yY ?_;refine qi O bf λZt R1=>?_;refine yY ?_;refine M 1 λU O=>?_;refine Φ ⟨rfl,?_⟩;refine nr.nil ?_;subst hK;refine ah.exit<|qj λK hK=>qm ?_;refine yA (z:=((i+1:Nat):Int)) ?_;refine qm ?_;refine qe hK ?_
    have eW:(zC s0).set Y0.length [J W 2,az (bB (q.t.n.rs++p.t.n.rs)),J W 0,J W 0,wt false,J W 0,J W 0,j5]=zC (Y0++[PD q.t.n.rs p.t.n.rs]):=by
     rw[JJ,me,Qat _ _ (by rw[fc];exact μ _),fc,Qav,me];rfl
    have JK:Has N S U (.ai y 8 ((zC s0).set Y0.length [J W 2,az (bB (q.t.n.rs++p.t.n.rs)),J W 0,J W 0,wt false,J W 0,J W 0,j5])::.ai (.win kx vx ox (zC Z).length 8) 8 (zC Z)::(zEE s0++(p.E++zEE (Z.drop (i+1))++H))):=O.drop 1;rw[eW,JJ,kU,nv,γ,γ] at JK;have ub:Has N S U ((.ai y 8 (zC (Y0++[PD q.t.n.rs p.t.n.rs]))::.ai (.win kx vx ox (zC Z).length 8) 8 (zC Z)::zEE Y0)++(q.E++(p.E++(zEE (Z.drop (i+1))++H)))):=JK;have hH3:=Has.UT ((Has.RB (Has.RB ub)).cY 8);refine⟨mm-1,by omega,⟨i+1,y,Y0++[PD q.t.n.rs p.t.n.rs],rfl,(by rw[kU,nv,γ];exact hH3),by omega,?_,?_,(by rw[jg,hjl,eK];rfl)⟩⟩
    .intro z hz
     rcases θ.1 hz with h|h
     .exact xu z (by rw[JJ];exact Qaw _ h)
     rw[ε.1 h];exact PC _ _
    intro t ht;rw[eK] at ht
    rcases θ.1 ht with h|h
    .exact QG t (by rw[JJ,eK];exact Qaw _ h)
    rw[show t=kv q.t.n.rs p.t.n.rs from ε.1 h];exact(Q.cK _).2 λn hn=>jD.of ((Q.cK _).1 (FW _ _) n hn)
   have hc:(p.t.n.op==2)=false:=by simpa using tX
   rw[if_neg (λh=>tX h.1)] at hjl;refine vY ?_;refine ah.skip<|qj λK hK=>M 8 λZs R0 k63 U Wg O Uu U O=>?_;refine qe hK<|qj λK hK=>qm ?_;refine yA (z:=((i+1:Nat):Int)) ?_;refine qm ?_;refine qe hK ?_;exact⟨mm-1,by omega,i+1,Uu,s0++[p],rfl,Pk _ _ (O.drop 1),by omega,Sc,Sb,(by rw[jg,hjl])⟩
  have mI:(q.t.n.op==2)=false:=by simpa using oW
  rw[if_neg (λh=>oW h.2)] at hjl;refine M 2 ?_;refine qj λK hK=>M 5 ?_;refine u.Aa (z:=(Y0.length:Int)) (wi ba) Pd Pd (by(try simp only[ς,Γ,ξ,ι,ζ,Ξ]);rw[wrap_i64 GB GB]<;>omega) (ae rfl _) ?_;refine qi O aV (λOc AX=>?_) (hg:=wi ba);refine Qap (fo:=0) (m:=6) (o2:=0) (wi ba) Pd so rfl rfl rfl (λ_=>(ae rfl _)) (λQc Dh=>?_);refine Qap (fo:=0) (m:=0) (o2:=0) (wi ba) Pd so rfl rfl rfl (λ_=>(ae rfl _)) (λNu xF=>?_);refine M 12 ?_;refine qe hK<|M 2 ?_;refine qj λK hK=>M 8 λZs R0 k63 U Wg O Uu U O=>?_;refine qe hK<|qj λK hK=>qm ?_;refine yA (z:=((i+1:Nat):Int)) ?_;refine qm ?_;refine qe hK ?_;exact⟨mm-1,by omega,i+1,Uu,s0++[p],rfl,Pk _ _ (O.drop 1),by omega,Sc,Sb,(by rw[jg,hjl])⟩
 refine ah.exit ?_;have hil:i=Z.length:=by omega
 rw[hil,υ] at YY;rw[hil,Ψ] at O;refine qq<|qj λK hK=>M 2 ?_;refine qe hK<|ah.ret ⟨rx,_,_,_,rfl,rfl,?_⟩;exact⟨s0,xu,YY,O⟩
def u7 {α:Type} {Z:List α} {p:α} (B:Z[i]?=some p):Z.drop i=p::Z.drop (i+1):=by
 obtain⟨h3,h4⟩:=Ω.1 B;rw[Qar h3,h4]
def oc (z:Tz) (Z:List Tz):zEE (z::Z)=z.E++zEE Z:=rfl
def Il (l:List Q) (t:Q):ij (l++[t])=ij l++(if t.n.op=1 then[] else if t.n.op=3 then t.ks else[t]):=by
 unfold ij;rw[Qay];simp
def Cs:∀l:List Q,bu (ij l)<=bu l
 |[]=>μ _
 |t::l=>by
  have:=Cs l;unfold ij at this|-;rw[List.flatMap_cons,iz,bI];have X:=Q.bR t
  split;·simp[bu] at*;omega
  split;·omega
  simp[bI];unfold bu at this|-;simp only[List.map_nil,List.sum_nil];omega
def Y_:Tz:=⟨.mk ⟨1,j5,[],0,0,false,0,0⟩ .nil,[J W 1,j5,J W 0,J W 0,wt false,J W 0,J W 0,j5],[.ai j5 8 []]⟩
def MH:Y_.ok:=by
 show Bx (.mk _ .nil) _ _;unfold Bx;exact⟨j5,[],[],rfl,.refl _,by unfold iH;exact⟨rfl,rfl⟩⟩
def MG (h:Has N S U H):Has N S U (Y_.E++H):=h.cY 8
def rH {x:D} {Kz:List Tz} {af:List aX} (h:z.E.Perm (.ai x 8 (zC Kz)::zEE Kz)):(hp++(z.E++af)).Perm (.ai x 8 (zC Kz)::(hp++(zEE Kz++af))):=
 ((h.append_right af).append_left hp).trans Qb5
variable{n:aQ}
def pw {x:D} (hx:x.cells?=some [x]):tq pv 121 [(0,y4 [J W n.op,n.rd,J W n.mn,J W n.mx,wt n.lz,J W n.cap,J W n.kids]),(1,x)]=some (y4 (bQ n x)):=by
 show Option.map D.agg (iK (λi=>([(0,7),(7,1)]:List (Nat×Nat))[i]?) [J W 0,j5,J W 0,J W 0,wt false,J W 0,J W 0,j5] _)=_;simp[iK,hx,show∀l,(D.agg l).cells?=some l from λ_=>rfl,setMany,bQ]
def KD {x:D} (hF:S.flr<=N) (bK:∀z∈Z,z.ok) (hcl:bu (zT Z)<=1048576) (ho:n.op=3) (RF:x.cells?=some [x]) (Nw:n.rd.cells?=some [n.rd]) (O:Has N S Y (.ai x 8 (zC Z)::(zEE Z++H))):
  ∃d R,Ev pv 85 [y4 (bQ n x)] Y d R/\∃z:Tz,d=y4 z.c/\z.ok/\z.t=fP n (zT Z)/\Has N S R (z.E++H):=by
 have pg:=bk (zT Z);have jP:=e_ Z;have hzc:=fc Z
 have ma:fP n (zT Z)=(match ij (zT Z) with|[]=>.mk ⟨1,j5,[],0,0,false,0,0⟩ .nil|[t]=>t|Kz=>.mk n (aE Kz)):=by unfold fP;rw[if_pos ho];cases ij (zT Z) with|nil=>rfl|cons a l=>cases l<;>rfl
 unfold bQ;refine Ev.sv rfl abF rfl rfl rfl ?_;dsimp only[u3,u4,ο,ω,η,w1,w2];change ah _ _ _ _ Y _;refine M 14 λk1 U jo O k2 U jn O=>?_;have O:Has N S U (.ai j5 8 (zC [])::x4 k2 (zm 0 false tz)::x4 k1 (zm 0 false (bQ n x))::.ai x 8 (zC Z)::(zEE []++(zEE (Z.drop 0)++H))):=O.cY 8;refine G 1 ?_;refine ah.loop (λmm I U=>∃(i:Nat) (y:D) (s0:List Tz),I.clean=fL I 19 [(1,yv k1 0 0),(0,yv k2 0 0),(0,y),(0,J W (i:Nat))]/\Has N S U (.ai y 8 (zC s0)::x4 k2 (zm 0 false [J W 0,j5,J W 0,J W 0,wt false,J W 0,J W 0,j5])::x4 k1 (zm 0 false [J W n.op,n.rd,J W n.mn,J W n.mx,wt n.lz,J W n.cap,J W n.kids,x])::.ai x 8 (zC Z)::(zEE s0++(zEE (Z.drop i)++H)))/\(i+mm=Z.length)/\(∀y∈s0,y.ok)/\(zT s0=ij (zT (Z.take i)))) (Z.length) ?_ ?_;·exact⟨0,j5,[],rfl,O,by omega,(λy hy=>by cases hy),rfl⟩
 rintro mm I U ⟨i,y,s0,hfr,O,hi,xu,BE⟩;refine zK λee=>?_;refine M 9 ?_;rw[hzc];refine zP (λh1=>?_) λh1=>?_
 .refine G 1 ?_
  obtain⟨p,B⟩:=gx (l:=Z) (i:=i)
  have gi:=κ B;obtain⟨px,Kz,eY,Qu,QH,Jf⟩:=Tz.kids (bK p gi);have sy:(zC Z)[i]?=some [J W p.t.n.op,p.t.n.rd,J W p.t.n.mn,J W p.t.n.mx,wt p.t.n.lz,J W p.t.n.cap,J W p.t.n.kids,px]:=by rw[pr B,eY];rfl
  have Hu:=fc s0;have hKc:=fc Kz
  have hKl:Kz.length<=1048576:=by
   have hm:p.t∈zT Z:=Δ.2 ⟨p,gi,rfl⟩;have h1:=ch hm;have X:=Q.bR p.t;have h3:=bk p.t.ks;rw[Jf,e_] at h3;rw[Jf] at X;omega
  have ND:s0.length<=1048576:=by
   have h1:=bk (zT s0);have X:=Cs (zT (Z.take i))
   have h3:bu (zT (Z.take i))<=bu (zT Z):=by
    have:=iz (zT (Z.take i)) (zT (Z.drop i));rw[<-eK,Qau] at this;omega
   rw[e_] at h1;rw[<-BE] at X;omega
  have xC:Z.take (i+1)=Z.take i++[p]:=by rw[ρ,B];rfl
  have jg:ij (zT (Z.take (i+1)))=zT s0++(if p.t.n.op=1 then[] else if p.t.n.op=3 then p.t.ks else[p.t]):=by rw[xC,eK,BE];exact Il _ _
  rw[u7 B,oc,γ] at O;refine G 7 ?_;refine qi O d_ λTN I5=>?_;refine Qap (fo:=0) (m:=6) (o2:=0) rfl Pd so rfl rfl rfl (λ_=>by dsimp<;>rfl) (λU1 LV=>?_);refine Qap (fo:=0) (m:=0) (o2:=0) rfl Pd so rfl rfl rfl (λ_=>by dsimp<;>rfl) (λQd Di=>?_);refine G 8 ?_
  by_cases Y9:p.t.n.op=1;·rw[if_pos Y9,Qao] at jg;refine vX ?_;refine G 3 ?_;refine Qbc (z:=((i+1:Nat):Int)) rfl Pd Pd (by(try simp only[ς,Γ,ξ,ι,ζ,Ξ]);rw[wrap_i64 GB GB]<;>omega) (by dsimp<;>rfl) ?_;refine G 2 ?_;exact⟨mm-1,by omega,i+1,y,s0,rfl,Has.RB (hk:=_::_::_::_::zEE s0) O,by omega,xu,(by rw[jg])⟩
  rw[if_neg Y9] at jg;have Dv:(p.t.n.op==1)=false:=by simpa using Y9
  refine vY ?_;refine G 5 ?_
  by_cases Po:p.t.n.op=3;·rw[if_pos Po,Jf,<-eK] at jg;refine vX ?_;have O:Has N S U (.ai y 8 (zC s0)::_::_::.ai x 8 (zC Z)::.ai px 8 (zC Kz)::(zEE s0++(zEE Kz++(zEE (Z.drop (i+1))++H)))):=Θ (hk:=[_,_,_,_]) (rH Qu) O;refine M 13 λp35 VN Zz R6 Ns U O=>?_;refine Qbc (z:=((i+1:Nat):Int)) rfl Pd Pd (by(try simp only[ς,Γ,ξ,ι,ζ,Ξ]);rw[wrap_i64 GB GB]<;>omega) (by dsimp<;>rfl) ?_;refine G 2 ?_;exact⟨mm-1,by omega,i+1,Ns,s0++Kz,rfl,(by rw[me,kU,γ];exact O.erase 4),by omega,(λz hz=>(θ.1 hz).elim (xu z) (QH z)),jg.symm⟩
  rw[if_neg Po] at jg;have BD:(p.t.n.op==3)=false:=by simpa using Po
  refine vY ?_;refine M 13 λQb Dg k25 U Wm O Uy U O=>?_;refine Qbc (z:=((i+1:Nat):Int)) rfl Pd Pd (by(try simp only[ς,Γ,ξ,ι,ζ,Ξ]);rw[wrap_i64 GB GB]<;>omega) (by dsimp<;>rfl) ?_;refine G 2 ?_;exact⟨mm-1,by omega,i+1,Uy,s0++[p],rfl,(by rw[me,kU,nv,show zC [p]=[p.c] from rfl,eY,γ];exact O.drop 1),by omega,(λz hz=>(θ.1 hz).elim (xu z) (λh=>by rw[ε.1 h];exact bK p gi)),(by rw[jg,eK];rfl)⟩
 refine G 1 ?_;have hil:i=Z.length:=by omega
 rw[hil,υ] at BE;rw[hil,Ψ] at O;have O:Has N S U (.ai y 8 (zC s0)::x4 k2 (zm 0 false [J W 0,j5,J W 0,J W 0,wt false,J W 0,J W 0,j5])::x4 k1 (zm 0 false [J W n.op,n.rd,J W n.mn,J W n.mx,wt n.lz,J W n.cap,J W n.kids,x])::.ai x 8 (zC Z)::(zEE s0++H)):=O;have Hu:=fc s0;rw[<-BE] at ma;refine M 7 ?_;rw[Hu]
 match s0,xu,BE,Hu,O,ma with
 |[],xu,BE,Hu,O,ma=>
  refine M 7 λU O=>?_;refine ah.ret ⟨rx,_,_,_,O.bm rfl bf rfl,rfl,?_⟩;exact⟨Y_,rfl,MH,ma.symm,MG (O.drop 4)⟩
 |[q],xu,BE,Hu,O,ma=>
  obtain⟨qx,yX⟩:=Tz.lit (xu q (δ ..));have TU:(zC [q])[0]?=some [J W q.t.n.op,q.t.n.rd,J W q.t.n.mn,J W q.t.n.mx,wt q.t.n.lz,J W q.t.n.cap,J W q.t.n.kids,qx]:=by rw[<-yX];rfl
  refine M 9 ?_;rw[Hu];refine M 8 λp48 VK U O=>?_;refine ah.ret ⟨rx,_,_,_,O.bm rfl bf rfl,rfl,?_⟩;exact⟨q,by rw[yX];rfl,xu q (δ ..),ma.symm,by have h9:=O.drop 4;rw[nv] at h9;exact h9⟩
 |a::b::s0,xu,BE,Hu,O,ma=>
  have SE:(((((a::b::s0).length:Nat):Int))==0)=false:=by simp;omega
  have Dv:(((((a::b::s0).length:Nat):Int))==1)=false:=by simp;omega
  refine vY ?_;refine M 8 ?_;rw[Hu];refine vY ?_;refine M 6 ?_;refine Qbb (d:=y4 (bQ n y)) (st1:=_) rfl rfl (by dsimp[dY];exact congrArg (Option.map (·,U)) (pw (n:=n) (O.dv aV))) (ae rfl _) ?_;refine M 2 λU O=>?_;refine ah.ret ⟨rx,_,_,_,O.bm rfl bf rfl,rfl,?_⟩;exact⟨⟨.mk n (aE (zT (a::b::s0))),bQ n y,.ai y 8 (zC (a::b::s0))::zEE (a::b::s0)⟩,rfl,Tz.of xu,ma.symm,((O.erase 3).erase 2).erase 1⟩
def BW (op:Int) (l:List Q) (t:Q):aJ op (l++[t])=aJ op l++(if t.n.op=op then t.ks else[t]):=by
 unfold aJ;rw[Qay];simp
variable{l:List Q}
def yg {op:Int} (h:∀t∈l,t.fa jD):∀t∈aJ op l,t.fa jD:=by
 intro t ht;unfold aJ at ht;obtain⟨aa,hu,IV⟩:=Qb3.1 ht
 split at IV;·exact(Q.cW.1 (h aa hu)).2 t IV
 rw[ε.1 IV];exact h aa hu
def oB (h:∀t∈l,t.fa jD):∀t∈bo l,t.fa jD:=by
 unfold bo;refine ji (P:=λ(out:List Q)=>∀t∈out,t.fa jD) (λb a ha F=>?_) [] (λt ht=>by cases ht)
 split;·exact F
 intro t ht
 rcases θ.1 ht with ht|ht
 .exact F t ht
 rw[ε.1 ht];exact h a ha
def acP (a b:List Rg):(kv a b).fa jD:=(Q.cK _).2 λn hn=>jD.of ((Q.cK _).1 (FW _ _) n hn)
def oH (h:∀t∈l,t.fa jD):∀t∈aS l,t.fa jD:=by
 unfold aS;refine ji (P:=λ(out:List Q)=>∀t∈out,t.fa jD) (λb a ha F=>?_) [] (λt ht=>by cases ht)
 have Pk:∀t∈b++[a],t.fa jD:=λt ht=>by
  rcases θ.1 ht with ht|ht
  .exact F t ht
  rw[ε.1 ht];exact h a ha
 unfold dz
 split
 .split
  .intro t ht
   rcases Qas ht with ht|rfl
   .exact F t ht
   exact acP _ _
  exact Pk
 exact Pk
def Has.swap {D:List aX} (h:Has N S U (hk++(hp++(C++D)))):Has N S U (hk++(C++(hp++D))):=
 Θ (by rw[<-γ,<-γ];exact ψ.append_right D) h
def KE {x:D} (hF:S.flr<=N) (bK:∀z∈Z,z.ok) (hfa:∀t∈zT Z,t.fa jD) (hcl:bu (zT Z)<=1048576) (ho:n.op=4) (RF:x.cells?=some [x]) (Nw:n.rd.cells?=some [n.rd]) (O:Has N S Y (.ai x 8 (zC Z)::(zEE Z++H))):
  ∃d R,Ev pv 86 [y4 (bQ n x)] Y d R/\∃z:Tz,d=y4 z.c/\z.ok/\z.t=fP n (zT Z)/\Has N S R (z.E++H):=by
 have pg:=bk (zT Z);have jP:=e_ Z;have hzc:=fc Z
 have ma:fP n (zT Z)=(match jz (aJ 4 (zT Z)).length (aJ 4 (zT Z)) with|[t]=>t|Kz=>.mk n (aE Kz)):=by unfold fP;rw[if_neg GB,if_pos ho];generalize jz (aJ 4 (zT Z)).length (aJ 4 (zT Z))=Kz;rcases Kz with _|⟨a,_|⟨b,l⟩⟩<;>rfl
 unfold bQ;refine Ev.sv rfl abE rfl rfl rfl ?_;dsimp only[u3,u4,ο,ω,η,w1,w2];change ah _ _ _ _ Y _;refine M 15 λk1 U jo O k2 U jn O=>?_;have O:Has N S U (.ai j5 8 (zC [])::x4 k2 (zm 0 false tz)::x4 k1 (zm 0 false (bQ n x))::.ai x 8 (zC Z)::(zEE []++(zEE (Z.drop 0)++H))):=O.cY 8;refine G 1 ?_;refine ah.loop (λmm I U=>∃(i:Nat) (y:D) (s0:List Tz),I.clean=⟨6,[ay I 0,yv k1 0 0,yv k2 0 0,y,ay I 4,J W (i:Nat)],[]⟩/\Has N S U (.ai y 8 (zC s0)::x4 k2 (zm 0 false [J W 0,j5,J W 0,J W 0,wt false,J W 0,J W 0,j5])::x4 k1 (zm 0 false [J W n.op,n.rd,J W n.mn,J W n.mx,wt n.lz,J W n.cap,J W n.kids,x])::.ai x 8 (zC Z)::(zEE s0++(zEE (Z.drop i)++H)))/\(i+mm=Z.length)/\(∀y∈s0,y.ok)/\(zT s0=aJ 4 (zT (Z.take i)))) (Z.length) ?_ ?_;·exact⟨0,j5,[],rfl,O,by omega,(λy hy=>by cases hy),rfl⟩
 rintro mm I U ⟨i,y,s0,hfr,O,hi,xu,BE⟩;refine zK λee=>?_;refine M 9 ?_;rw[hzc];refine zP (λh1=>?_) λh1=>?_
 .refine G 1 ?_
  obtain⟨p,B⟩:=gx (l:=Z) (i:=i)
  have gi:=κ B;obtain⟨px,Kz,eY,Qu,QH,Jf⟩:=Tz.kids (bK p gi);have sy:(zC Z)[i]?=some [J W p.t.n.op,p.t.n.rd,J W p.t.n.mn,J W p.t.n.mx,wt p.t.n.lz,J W p.t.n.cap,J W p.t.n.kids,px]:=by rw[pr B,eY];rfl
  have Hu:=fc s0;have hKc:=fc Kz
  have hKl:Kz.length<=1048576:=by
   have hm:p.t∈zT Z:=Δ.2 ⟨p,gi,rfl⟩;have h1:=ch hm;have X:=Q.bR p.t;have h3:=bk p.t.ks;rw[Jf,e_] at h3;rw[Jf] at X;omega
  have ND:s0.length<=1048576:=by
   have h1:=bk (zT s0);have X:=fM 4 (zT (Z.take i))
   have h3:bu (zT (Z.take i))<=bu (zT Z):=by
    have:=iz (zT (Z.take i)) (zT (Z.drop i));rw[<-eK,Qau] at this;omega
   rw[e_] at h1;rw[<-BE] at X;omega
  have xC:Z.take (i+1)=Z.take i++[p]:=by rw[ρ,B];rfl
  have jg:aJ 4 (zT (Z.take (i+1)))=zT s0++(if p.t.n.op=4 then p.t.ks else[p.t]):=by rw[xC,eK,BE];exact BW _ _ _
  rw[u7 B,oc,γ] at O;refine M 13 λU1 LV Qd Di Yw O5=>?_
  by_cases Po:p.t.n.op=4;·rw[if_pos Po,Jf,<-eK] at jg;refine vX ?_;have O:Has N S U (.ai y 8 (zC s0)::_::_::.ai x 8 (zC Z)::.ai px 8 (zC Kz)::(zEE s0++(zEE Kz++(zEE (Z.drop (i+1))++H)))):=Θ (hk:=[_,_,_,_]) (rH Qu) O;refine M 13 λU0 LU TM I4 x28 U O=>?_;refine yA (z:=((i+1:Nat):Int)) ?_;refine G 2 ?_;exact⟨mm-1,by omega,i+1,x28,s0++Kz,rfl,(by rw[me,kU,γ];exact O.erase 4),by omega,(λz hz=>(θ.1 hz).elim (xu z) (QH z)),jg.symm⟩
  rw[if_neg Po] at jg;have BD:(p.t.n.op==4)=false:=by simpa using Po
  refine vY ?_;refine M 13 λZA R7 k35 U aeg O x36 U O=>?_;refine yA (z:=((i+1:Nat):Int)) ?_;refine G 2 ?_;exact⟨mm-1,by omega,i+1,x36,s0++[p],rfl,(by rw[me,kU,nv,show zC [p]=[p.c] from rfl,eY,γ];exact O.drop 1),by omega,(λz hz=>(θ.1 hz).elim (xu z) (λh=>by rw[ε.1 h];exact bK p gi)),(by rw[jg,eK];rfl)⟩
 refine G 1 ?_;have hil:i=Z.length:=by omega
 rw[hil,υ] at BE;rw[hil,Ψ] at O;have ND:=fM 4 (zT Z);have QG:=yg (op:=4) hfa;rw[<-BE] at ND QG ma;have Hu:=fc s0;have O:Has N S U (.ai y 8 (zC s0)::(zEE s0++(_::_::H))):=Has.swap (hk:=[_]) (hp:=[_,_]) (O.erase 3);refine G 3 ?_;obtain⟨d1,U,aK,Y1,abn,SJ,O⟩:=w5 hF xu QG (χ ND hcl) O;refine qv aK ?_;obtain⟨d2,U,aK,Z_,Mr,Hw,O⟩:=vD hF abn (by rw[SJ,iP];exact oB QG) (by rw[SJ,iP];exact χ (lM _) (χ ND hcl)) (Has.swap (hk:=[_]) (hp:=[_]) O);refine M 3 ?_;rw[SJ,iP] at Hw;have O:Has N S U (.ai d2 8 (zC Z_)::.ai y 8 (zC s0)::_::_::(zEE Z_++H)):=Has.swap (hk:=[_]) (hp:=zEE Z_) (C:=[_,_,_]) (O.erase 1);have abl:bu (zT s0)<=1048576:=χ ND hcl;refine G 2 ?_;refine ah.loop (λmm I U=>∃(j aa:D) (Z_ hb:List Tz) (f:Nat),I.clean=⟨6,[ay I 0,yv k1 0 0,yv k2 0 0,aa,j,ay I 5],[]⟩/\Has N S U (.ai j 8 (zC Z_)::.ai aa 8 (zC hb)::x4 k2 (zm 0 false [J W 0,j5,J W 0,J W 0,wt false,J W 0,J W 0,j5])::x4 k1 (zm 0 false [J W n.op,n.rd,J W n.mn,J W n.mx,wt n.lz,J W n.cap,J W n.kids,x])::(zEE Z_++H))/\(hb.length<=mm)/\(hb.length<=f)/\(∀z∈Z_,z.ok)/\(zT Z_=aS (bo (zT hb)))/\(∀t∈zT hb,t.fa jD)/\(bu (zT hb)<=1048576)/\(jz (zT s0).length (zT s0)=jz f (zT hb))) (s0.length) ?_ ?_;·exact⟨d2,y,Z_,s0,(zT s0).length,rfl,O,μ _,(by rw[e_];exact μ _),Mr,Hw,QG,abl,rfl⟩
 rintro mm I U ⟨j,aa,Z_,hb,f,hfr,O,hm,Fy,Mr,Hw,hFf,hFl,hR⟩;rw[hfr];clear hfr;generalize ay I=ee;clear I;have T1:=fc Z_;have hFc:=fc hb;have hJf:∀t∈zT Z_,t.fa jD:=by rw[Hw];exact oH (oB hFf)
 have hJl:bu (zT Z_)<=1048576:=by rw[Hw];exact χ (pY _) (χ (lM _) hFl)
 refine M 9 ?_;rw[T1,hFc];refine zP (λX=>?_) λX=>?_
 .refine G 1 ?_
  obtain⟨g,rfl⟩:∃g,f=g+1:=⟨f-1,by omega⟩
  have hR2:jz (zT s0).length (zT s0)=jz g (zT Z_):=by rw[hR,jz,if_pos (by rw[<-Hw,e_,e_];omega),Hw]
  refine G 6 ?_;have O:Has N S U (.ai j 8 (zC Z_)::(zEE Z_++(_::_::H))):=Has.swap (hk:=[_]) (hp:=[_,_]) (O.erase 1);refine G 2 ?_;obtain⟨d3,U,aK,Y3,abm,SI,O⟩:=w5 hF Mr hJf hJl O;refine qv aK ?_;obtain⟨d4,U,aK,J4,abr,W0,O⟩:=vD hF abm (by rw[SI,iP];exact oB hJf) (by rw[SI,iP];exact χ (lM _) hJl) (Has.swap (hk:=[_]) (hp:=[_]) O);refine M 3 ?_;rw[SI,iP] at W0;exact⟨mm-1,by omega,d4,j,J4,Z_,g,rfl,Has.swap (hk:=[_]) (hp:=zEE J4) (C:=[_,_,_]) (O.erase 1),by omega,GB,abr,W0,hJf,hJl,hR2⟩
 refine G 1 ?_
 have hR2:jz (zT s0).length (zT s0)=zT Z_:=by
  rw[hR]
  cases f with
  |zero=>exact Hw.symm
  |succ f=>rw[jz,if_neg (by rw[<-Hw,e_,e_];omega)];exact Hw.symm
 rw[hR2] at ma;refine M 7 ?_;rw[T1]
 match Z_,Mr,Hw,T1,O,ma with
 |[q],Mr,Hw,T1,O,ma=>
  obtain⟨qx,yX⟩:=Tz.lit (Mr q (δ ..));have TU:(zC [q])[0]?=some [J W q.t.n.op,q.t.n.rd,J W q.t.n.mn,J W q.t.n.mx,wt q.t.n.lz,J W q.t.n.cap,J W q.t.n.kids,qx]:=by rw[<-yX];rfl
  refine M 8 λp53 aar U O=>?_;refine ah.ret ⟨rx,_,_,_,O.bm rfl dh rfl,rfl,?_⟩;exact⟨q,by rw[yX];rfl,Mr q (δ ..),ma.symm,by have h9:=O.drop 4;rw[nv] at h9;exact h9⟩
 |[],Mr,Hw,T1,O,ma=>
  refine M 7 ?_;refine Qbb (d:=y4 (bQ n j)) (st1:=_) rfl rfl (by dsimp[dY];exact congrArg (Option.map (·,U)) (pw (n:=n) (O.dv aV))) (ae rfl _) ?_;refine M 2 λU O=>?_;refine ah.ret ⟨rx,_,_,_,O.bm rfl dh rfl,rfl,?_⟩;exact⟨⟨.mk n (aE (zT [])),bQ n j,.ai j 8 (zC [])::zEE []⟩,rfl,Tz.of Mr,ma.symm,((O.erase 3).erase 2).erase 1⟩
 |a::b::s0,Mr,Hw,T1,O,ma=>
  have Dv:(((((a::b::s0).length:Nat):Int))==1)=false:=by simp;omega
  refine vY ?_;refine M 6 ?_;refine Qbb (d:=y4 (bQ n j)) (st1:=_) rfl rfl (by dsimp[dY];exact congrArg (Option.map (·,U)) (pw (n:=n) (O.dv aV))) (ae rfl _) ?_;refine M 2 λU O=>?_;refine ah.ret ⟨rx,_,_,_,O.bm rfl dh rfl,rfl,?_⟩;exact⟨⟨.mk n (aE (zT (a::b::s0))),bQ n j,.ai j 8 (zC (a::b::s0))::zEE (a::b::s0)⟩,rfl,Tz.of Mr,ma.symm,((O.erase 3).erase 2).erase 1⟩
def RC (n:aQ):aQ:={n with lz:=if n.mn=n.mx then false else n.lz}
def Gu (n:aQ) (k:Q) (l:List Q):Q:=
 if k.n.op=1 then k
 else if n.mn=1/\n.mx=1 then k
 else if n.mx=0/\k.lA=false then .mk ⟨1,j5,[],0,0,false,0,0⟩ .nil
 else if(eA n &&(eA k.n &&mY k.ks))=true then .mk {k.n with mn:=k.n.mn*n.mn} (aE k.ks)
 else .mk n (aE l)
def Of (n m:aQ) (b:Bool):(eA n &&(eA m &&b))=((n.op==5) &&((m.op==5) &&(((((((b &&!n.lz) &&!m.lz) &&(n.mx==-1)) &&(m.mx==-1)) &&decide (n.mn<=1)) &&decide (m.mn<=1))))):=by
 unfold eA;cases(n.op==5)<;>cases(m.op==5)<;>cases n.lz<;>cases m.lz<;>cases b<;>simp[Bool.and_comm,Bool.and_left_comm,Bool.and_assoc]
def OB (a b:Int) (ha:0<=a/\a<=1) (F:0<=b/\b<=1) (U:St):(iC pv .mul 3 (J W a) (J W b)).map (λd=>(d,U))=some (J W (a*b),U):=by
 have h1:a*b=0\/a*b=1:=by
  rcases(show a=0\/a=1 by omega) with rfl|rfl
  .simp
  rw[Int.one_mul];omega
 show some (D.int W (aR W (a*b)),U)=_;rw[wrap_i64 GB GB]
def Kt {n0:aQ} {x:D} {p:Tz} (hF:S.flr<=N) (bK:∀z∈p::Z,z.ok) (hcl:bu (zT (p::Z))<=1048576) (ho:n0.op=5) (h0:0<=n0.mn) (FA:p.t.n.op=5->p.t.ks≠[]/\0<=p.t.n.mn) (RF:x.cells?=some [x]) (Nw:n0.rd.cells?=some [n0.rd]) (O:Has N S Y (.ai x 8 (zC (p::Z))::(zEE (p::Z)++H))):
  ∃d R,Ev pv 87 [y4 (bQ n0 x)] Y d R/\∃z:Tz,d=y4 z.c/\z.ok/\z.t=fP n0 (zT (p::Z))/\Has N S R (z.E++H):=by
 have hpo:=bK p (δ ..);obtain⟨px,Kz,eY,Qu,QH,Jf⟩:=Tz.kids hpo
 replace eY:p.c=[J W p.t.n.op,p.t.n.rd,J W p.t.n.mn,J W p.t.n.mx,wt p.t.n.lz,J W p.t.n.cap,J W p.t.n.kids,px]:=eY
 have sy:(zC (p::Z))[0]?=some [J W p.t.n.op,p.t.n.rd,J W p.t.n.mn,J W p.t.n.mx,wt p.t.n.lz,J W p.t.n.cap,J W p.t.n.kids,px]:=by rw[<-eY];rfl
 have ma:fP n0 (zT (p::Z))=Gu (RC n0) p.t (zT (p::Z)):=by unfold fP;rw[if_neg GB,if_neg GB,if_pos ho];rfl
 have BC:p.t.dF<=1048576:=by
  have h1:p.t.dF<=bu (zT (p::Z)):=ch (δ ..);omega
 obtain⟨n,hn⟩:∃n,n=RC n0:=⟨_,rfl⟩
 have hn5:0<=n.mn:=by rw[hn];exact h0
 have mb:n.op=5:=by rw[hn];exact ho
 rw[ma,<-hn];unfold bQ;refine Ev.sv rfl abD rfl rfl rfl ?_;dsimp only[u3,u4,ο,ω,η,w1,w2];change ah _ _ _ _ Y _;refine M 25 λk1 U jo O k2 U jn O p6 hp6 k3 U A7 O U O=>?_;refine ah.merge (λI U=>∃(tmp:List (Nat×D)),I=⟨4,[ay I 0,yv k1 0 0,yv k2 0 0,yv k3 0 0],tmp⟩/\Has N S U (x4 k3 (zm 0 false [J W p.t.n.op,p.t.n.rd,J W p.t.n.mn,J W p.t.n.mx,wt p.t.n.lz,J W p.t.n.cap,J W p.t.n.kids,px])::x4 k2 (zm 0 false [J W 0,j5,J W 0,J W 0,wt false,J W 0,J W 0,j5])::x4 k1 (zm 0 false [J W n.op,n.rd,J W n.mn,J W n.mx,wt n.lz,J W n.cap,J W n.kids,x])::.ai x 8 (zC (p::Z))::(zEE (p::Z)++H))/\(True)) ?_ ?_
 .by_cases hq:n0.mn=n0.mx
  .have hc:(n0.mn==n0.mx)=true:=by simpa using hq
   refine qD rfl (by rw[hc]) ?_;refine M 5 λU O=>?_;exact⟨_,rfl,(by rw[hn,show(RC n0).lz=false from if_pos hq];exact O),trivial⟩
  have hc:(n0.mn==n0.mx)=false:=by simpa using hq
  refine qE rfl (by rw[hc]) ?_;refine G 1 ?_;exact⟨_,rfl,(by rw[hn,show(RC n0).lz=n0.lz from if_neg hq];exact O),trivial⟩
 rintro I U ⟨tmp,hfr,O,ht⟩;refine zK λee=>?_;have O:Has N S U (x4 k3 (zm 0 false [J W p.t.n.op,p.t.n.rd,J W p.t.n.mn,J W p.t.n.mx,wt p.t.n.lz,J W p.t.n.cap,J W p.t.n.kids,px])::x4 k2 (zm 0 false [J W 0,j5,J W 0,J W 0,wt false,J W 0,J W 0,j5])::x4 k1 (zm 0 false [J W n.op,n.rd,J W n.mn,J W n.mx,wt n.lz,J W n.cap,J W n.kids,x])::.ai x 8 (zC (p::Z))::(zEE (p::Z)++H)):=O;refine G 10 ?_;unfold Gu
 by_cases h1:p.t.n.op=1
 .have hc:(p.t.n.op==1)=true:=by simpa using h1
  rw[if_pos h1];refine qD rfl (by rw[hc]) ?_;refine M 5 λU O=>?_;refine ah.ret ⟨rx,_,_,_,O.bm rfl bf rfl,rfl,?_⟩;exact⟨p,by rw[eY];rfl,hpo,rfl,by have h9:=O.drop 4;rw[oc,γ] at h9;exact Has.RB h9⟩
 have hc:(p.t.n.op==1)=false:=by simpa using h1
 rw[if_neg h1];refine qE rfl (by rw[hc]) ?_;refine qq<|ah.dM 23 (wt (n.mn==1 &&n.mx==1)) [] ?_ (λff tmp bp=>?_)
 .refine G 5 ?_;refine y2 28 (λfU=>?_) λfU=>?_
  .refine G 6 ?_;refine Φ (ax ?_ ?_)
   .dsimp[aC,ν,nth,u2,u1]
    all_goals(first|rfl|simp)
   refine zF ?_
   all_goals(simp[fU];done)
  refine G 6 ?_;refine Φ (ax ?_ ?_)
  .dsimp[aC,ν,nth,u2,u1]
   all_goals(first|rfl|simp)
  refine zF ?_
  all_goals(simp[fU];done)
 dsimp only[aC,ν,nth,u2,u1]
 by_cases X:n.mn=1/\n.mx=1
 .have h_:(n.mn==1 &&n.mx==1)=true:=by rw[τ,beq_iff_eq,beq_iff_eq];exact X
  rw[if_pos X];rw[h_] at bp;refine M 6 λU O=>?_;refine ah.ret ⟨rx,_,_,_,O.bm rfl bf rfl,rfl,?_⟩;exact⟨p,by rw[eY];rfl,hpo,rfl,by have h9:=O.drop 4;rw[oc,γ] at h9;exact Has.RB h9⟩
 have h_:(n.mn==1 &&n.mx==1)=false:=by
  rw[Qb1];intro h;rw[τ,beq_iff_eq,beq_iff_eq] at h;exact X h
 rw[if_neg X];rw[h_] at bp;refine qC ?_;clear bp;have xq:=wQ _ p.t (μ _) BC U _ (JP (hk:=[_,_,_,_]) (i:=0) O rfl hpo);rw[eY] at xq;refine qq<|ah.dM 35 (wt (n.mx==0 &&!p.t.lA)) [] ?_ (λff tmp bp=>?_)
 .refine G 5 ?_;refine y2 40 (λfU=>?_) λfU=>?_
  .refine u.gp (m:=8) O (wi fU) Pd (by exact aV) (by dsimp<;>rfl) rfl rfl (ae rfl _) ?_;refine M (t:=(xq)) 4 ?_;refine Φ (ax ?_ ?_)
   .dsimp[aC,ν,nth,u2,u1]
    all_goals(first|rfl|simp)
   refine zF ?_
   all_goals(simp[fU];done)
  refine G 5 ?_;refine Φ (ax ?_ ?_)
  .dsimp[aC,ν,nth,u2,u1]
   all_goals(first|rfl|simp)
  refine zF ?_
  all_goals(simp[fU];done)
 dsimp only[aC,ν,nth,u2,u1]
 by_cases h3:n.mx=0/\p.t.lA=false
 .have BD:(n.mx==0 &&!p.t.lA)=true:=by rw[τ,beq_iff_eq,h3.2];exact⟨h3.1,rfl⟩
  rw[if_pos h3];rw[BD] at bp;refine M 7 λU O=>?_;refine ah.ret ⟨rx,_,_,_,O.bm rfl bf rfl,rfl,?_⟩;exact⟨Y_,rfl,MH,rfl,MG (Has.RB (hk:=[]) (O.drop 4))⟩
 have BD:(n.mx==0 &&!p.t.lA)=false:=by
  rw[Qb1];intro h;rw[τ,beq_iff_eq] at h;exact h3 ⟨h.1,by simpa using h.2⟩
 rw[if_neg h3];rw[BD] at bp;refine qC ?_;clear bp;have aaB:(n.op==5)=true:=by simpa using mb
 rw[Of,aaB,Qb7]
 by_cases h5:p.t.n.op=5
 .have fU:(p.t.n.op==5)=true:=by simpa using h5
  obtain⟨L7,Sk⟩:=FA h5;rw[Jf] at L7
  match Kz,L7,Qu,QH,Jf with
  |kk::Kz,L7,Qu,QH,Jf=>
   obtain⟨kx,lT⟩:=Tz.lit (QH kk (δ ..));have hrk:(zC (kk::Kz))[0]?=some [J W kk.t.n.op,kk.t.n.rd,J W kk.t.n.mn,J W kk.t.n.mx,wt kk.t.n.lz,J W kk.t.n.cap,J W kk.t.n.kids,kx]:=by rw[<-lT];rfl
   have sD:mY p.t.ks=(kk.t.n.op==2):=by rw[Jf];rfl
   rw[sD,fU,Qb7];rw[oc,γ] at O;have O:Has N S U (_::_::_::.ai x 8 (zC (p::Z))::.ai px 8 (zC (kk::Kz))::(zEE (kk::Kz)++(zEE Z++H))):=Θ (hk:=[_,_,_,_]) (rH (hp:=[]) Qu) O;refine qq<|ah.dM 47 (wt (((((((kk.t.n.op==2) &&!n.lz) &&!p.t.n.lz) &&(n.mx==-1)) &&(p.t.n.mx==-1)) &&decide (n.mn<=1)) &&decide (p.t.n.mn<=1))) [] ?_ (λff tmp bp=>?_)
   .refine G 7 ?_;refine qi O kS (λZu R2=>?_) (hg:=wi fU);refine Qap (fo:=0) (m:=6) (o2:=0) (wi fU) Pd so rfl rfl rfl (λ_=>(ae rfl _)) (λUX LQ=>?_);refine Qap (fo:=0) (m:=0) (o2:=0) (wi fU) Pd so rfl rfl rfl (λ_=>(ae rfl _)) (λZt R1=>?_);refine G 4 ?_;refine y2 61 (λgR=>?_) λgR=>?_
    .refine G 6 ?_;refine y2 67 (λlg=>?_) λlg=>?_
     .refine G 6 ?_;refine y2 73 (λbM=>?_) λbM=>?_
      .refine G 6 ?_;refine y2 79 (λk_=>?_) λk_=>?_
       .refine G 6 ?_;refine y2 85 (λtc=>?_) λtc=>?_
        .refine G 6 ?_;refine y2 91 (λSr=>?_) λSr=>?_
         .refine G 6 ?_;refine Φ (ax ?_ ?_)
          .dsimp[aC,ν,nth,u2,u1]
           all_goals(first|rfl|simp)
          refine zF ?_
          all_goals(simp[fU,gR,lg,bM,k_,tc,Sr];done)
         refine G 6 ?_;refine Φ (ax ?_ ?_)
         .dsimp[aC,ν,nth,u2,u1]
          all_goals(first|rfl|simp)
         refine zF ?_
         all_goals(simp[fU,gR,lg,bM,k_,tc,Sr];done)
        refine G 12 ?_;refine Φ (ax ?_ ?_)
        .dsimp[aC,ν,nth,u2,u1]
         all_goals(first|rfl|simp)
        refine zF ?_
        all_goals(simp[fU,gR,lg,bM,k_,tc];done)
       refine G 18 ?_;refine Φ (ax ?_ ?_)
       .dsimp[aC,ν,nth,u2,u1]
        all_goals(first|rfl|simp)
       refine zF ?_
       all_goals(simp[fU,gR,lg,bM,k_];done)
      refine G 24 ?_;refine Φ (ax ?_ ?_)
      .dsimp[aC,ν,nth,u2,u1]
       all_goals(first|rfl|simp)
      refine zF ?_
      all_goals(simp[fU,gR,lg,bM];done)
     refine G 30 ?_;refine Φ (ax ?_ ?_)
     .dsimp[aC,ν,nth,u2,u1]
      all_goals(first|rfl|simp)
     refine zF ?_
     all_goals(simp[fU,gR,lg];done)
    refine G 36 ?_;refine Φ (ax ?_ ?_)
    .dsimp[aC,ν,nth,u2,u1]
     all_goals(first|rfl|simp)
    refine zF ?_
    all_goals(simp[fU,gR];done)
   dsimp only[aC,ν,nth,u2,u1]
   cases h6:(((((((kk.t.n.op==2) &&!n.lz) &&!p.t.n.lz) &&(n.mx==-1)) &&(p.t.n.mx==-1)) &&decide (n.mn<=1)) &&decide (p.t.n.mn<=1)) with
   |true=>
    rw[if_pos rfl];rw[h6] at bp;refine qB ?_;rw[τ,τ,decide_eq_true_eq,decide_eq_true_eq] at h6;have hmul:=OB p.t.n.mn n.mn ⟨Sk,h6.2⟩ ⟨hn5,h6.1.2⟩;refine G 8 ?_;refine Qbb (d:=J W (p.t.n.mn*n.mn)) (st1:=_) rfl rfl (hmul _) (ae rfl _) ?_;refine M 9 λU O U O=>?_;refine ah.ret ⟨rx,_,_,_,O.bm rfl bf rfl,rfl,?_⟩;refine⟨⟨.mk {p.t.n with mn:=p.t.n.mn*n.mn} (aE (zT (kk::Kz))),bQ {p.t.n with mn:=p.t.n.mn*n.mn} px,.ai px 8 (zC (kk::Kz))::zEE (kk::Kz)⟩,rfl,Tz.of QH,by rw[Jf],?_⟩;exact Has.RB (hk:=.ai px 8 (zC (kk::Kz))::zEE (kk::Kz)) (hp:=zEE Z) (by have h9:=O.drop 4;rw[Qb2];exact h9)
   |false=>
    rw[if_neg (by simp)];rw[h6] at bp;refine M 7 λU O=>?_;refine ah.ret ⟨rx,_,_,_,O.bm rfl bf rfl,rfl,?_⟩;exact⟨⟨.mk n (aE (zT (p::Z))),bQ n x,.ai x 8 (zC (p::Z))::zEE (p::Z)⟩,rfl,Tz.of bK,rfl,by rw[oc];show Has N S U ([.ai x 8 (zC (p::Z))]++(p.E++zEE Z++H));rw[γ];exact Θ (hk:=[_]) (rH (hp:=[]) Qu).symm (O.drop 3)⟩
 have fU:(p.t.n.op==5)=false:=by simpa using h5
 rw[fU,Bool.false_and,if_neg (by simp)];refine M 60 λU O=>?_;refine ah.ret ⟨rx,_,_,_,O.bm rfl bf rfl,rfl,?_⟩;exact⟨⟨.mk n (aE (zT (p::Z))),bQ n x,.ai x 8 (zC (p::Z))::zEE (p::Z)⟩,rfl,Tz.of bK,rfl,O.drop 3⟩
theorem x7:∀ks:aG,ks.di=ks.l.map Q.di
 | .nil=>by simp[aG.di,aG.l]
 | .cons t ts=>by simp[aG.di,aG.l,x7 ts]
def Q.Kw (t:Q):t.di=fP t.n (t.ks.map Q.di):=by
 cases t;simp[Q.di,Q.n,Q.ks,x7]
def Ct:∀(f:Nat) {l:List Q},(∀t∈l,t.fa jD)->∀t∈jz f l,t.fa jD
 |0,l,h=>oH (oB h)
 |f+1,l,h=>by
  unfold jz
  split;·exact Ct f (oH (oB h))
  exact oH (oB h)
theorem ZK (op:Int):jD ⟨op,j5,[],0,0,false,0,0⟩:=⟨.inr ⟨rfl,rfl⟩,Qaz _⟩
theorem QK:(Q.mk ⟨1,j5,[],0,0,false,0,0⟩ .nil).fa jD:=mW (l:=[]).2 ⟨ZK 1,λk A=>by cases A⟩
def jV (hn:jD n) (h:∀t∈l,t.fa jD):(fP n l).fa jD:=by
 unfold fP
 split
 .have hr:∀t∈ij l,t.fa jD:=λt ht=>by
   unfold ij at ht;obtain⟨aa,hu,IV⟩:=Qb3.1 ht
   split at IV;·cases IV
   split at IV;·exact(Q.cW.1 (h aa hu)).2 t IV
   rw[ε.1 IV];exact h aa hu
  generalize ij l=K at hr
  rcases K with _|⟨a,_|⟨b,K⟩⟩
  .exact QK
  .exact hr a (δ ..)
  exact mW.2 ⟨hn,hr⟩
 split
 .have hr:=Ct (aJ 4 l).length (yg (op:=4) h);generalize jz (aJ 4 l).length (aJ 4 l)=K at hr
  rcases K with _|⟨a,_|⟨b,K⟩⟩
  .exact mW.2 ⟨hn,hr⟩
  .exact hr a (δ ..)
  exact mW.2 ⟨hn,hr⟩
 split
 .cases l with
  |nil=>exact mW (l:=[]).2 ⟨hn,h⟩
  |cons k l=>
   have A:=h k (δ ..);have hkk:=Q.cW.1 A;show(Gu (RC n) k (k::l)).fa jD;have dZ:jD (RC n):=hn;generalize RC n=n2 at dZ;unfold Gu
   split;·exact A
   split;·exact A
   split;·exact QK
   split;·exact mW.2 ⟨hkk.1,hkk.2⟩
   exact mW.2 ⟨dZ,h⟩
 exact mW.2 ⟨hn,h⟩
mutual
def Q.jV:∀t:Q,t.fa jD->t.di.fa jD
 | .mk n ks,h=>by
  simp[Q.fa] at h;simp[Q.di];exact Go.Proofs.YtappgjdiplibbaaGreat.jV h.1 (aG.jV ks h.2)
def aG.jV:∀ts:aG,ts.fa jD->∀t∈ts.di,t.fa jD
 | .nil,_=>λt ht=>by simp[aG.di] at ht
 | .cons t ts,h=>λaa hu=>by
  simp[aG.fa] at h;simp[aG.di] at hu
  rcases hu with rfl|hu
  .exact Q.jV t h.1
  .exact aG.jV ts h.2 aa hu
end
def GI:∀{ks:aG},ks.ok->∀k∈ks.l,k.ok
 | .nil,_,k,A=>by simp[aG.l] at A
 | .cons t ts,h,k,A=>by
  simp[aG.ok] at h;simp[aG.l] at A
  rcases A with rfl|A
  .exact h.1
  exact GI h.2 k A
def Eb (t:Q):Prop:=t.ok/\(t.fa λn=>bD n=true)/\t.fa lv
variable{t:Q}
def Eb.kid {k:Q} (h:Eb t) (A:k∈t.ks):Eb k:=by
 refine⟨?_,(Q.cW.1 h.2.1).2 k A,(Q.cW.1 h.2.2).2 k A⟩;have h1:=h.1
 cases t with
 |mk n ks=>
  simp[Q.ok] at h1;exact GI h1.2 k A
def Pq {P Tr:aQ->Prop} (hPQ:∀n,P n->Tr n) (h:t.fa P):t.fa Tr:=(Q.cK _).2 λn hn=>hPQ n ((Q.cK _).1 h n hn)
theorem Eb.fa (h:Eb t):t.di.fa jD:=Q.jV t (Pq (λn hn=>jD.of hn) h.2.2)
theorem Eb.dF (h:Eb t):t.di.dF<=t.dF:=by
 rw[<-Q.mM t.di,Q.jU t h.1 h.2.1,Q.mM];exact(Q.gz t h.2.2).2
theorem Eb.gd (h:Eb t) (h5:t.di.n.op=5):t.di.ks≠[]/\0<=t.di.n.mn:=by
 have hc:=Q.jU t h.1 h.2.1;have h1:=congrArg Q.n hc;have X:=congrArg Q.ks hc;rw[Q.Bq,Q.Bq,aQ.mk.injEq] at h1;rw[Q.xc,Q.xc] at X;obtain⟨o1,_,_,o4,_⟩:=h1;have hg:=(Q.uc.1 (AP _ t (μ _) (GJ t h.1))).1 (by rw[<-o1];exact h5);refine⟨λhe=>hg.1 ?_,by rw[o4];exact hg.2⟩;rw[he] at X;exact List.map_eq_nil_iff.1 X.symm
theorem Eb.bu:∀{l:List Q},(∀t∈l,Eb t)->bu (l.map Q.di)<=bu l
 |[],_=>μ _
 |t::l,h=>by
  have h1:=(h t (δ ..)).dF;have X:=Eb.bu λaa hu=>h aa (List.mem_cons_of_mem _ hu);rw[List.map_cons,bI,bI];omega
def FZ {x:Oper} {c:List D} (hy:fQ y.op=none) (hx:fQ x.op=some a) (ha:fi.ev a=yv k aj off) (h1:sj.bs[k]?=some (zm v ar c)) (X:Ad.bs[k]?=some (zm v ar c)) (h3:si.bs[k]?=some (zm v ar c)) (hr:refs c<=si.bs.length):fh x fi si oo y fj sj Ad=true:=by
 unfold fh;simp[hy,hx,ha,D.mO];refine⟨lF h1 X,?_⟩;unfold mi;simp[h3]
 split;·rfl
 rw[Nat.ble_eq];exact hr
def CD {K E E':List aX} (h:E.Perm (K++E')):(hk++(E++H)).Perm (K++(hk++(E'++H))):=by
 have h1:(hk++(E++H)).Perm (hk++(K++(E'++H))):=((h.append_right H).trans (by rw[γ])).append_left hk;refine h1.trans ?_;rw[<-γ hk,<-γ K];exact ψ.append_right _
def OH {x:D} {es:List (List D)} (h:Has N S U H) (hj:H[j]?=some (.ai x s es)):x.ref<=U.bs.length:=by
 have hown:=h.own hj
 cases hown with
 |nul=>exact Qaz _
 |win k aj off es c hm hl hc he=>exact(Ω.1 hm).1
def Us.zD {hk hp:Prop} (e:hk->hp:=by intro h;dsimp only[u2,u1,u3,u4,setMany,u5,u6,D.cells,Nat.reduceAdd,zC] at h;exact h):hk->hp:=e
def vA:∀(m:Nat) (z:Tz),z.t.dF<=m->m<=1048576->Eb z.t->z.ok->∀{N:Nat} {S Y:St} {H:List aX},S.flr<=N->Has N S Y (z.E++H)->
  ∃d R,Ev pv 59 [y4 z.c] Y d R/\∃y:Tz,d=y4 y.c/\y.ok/\y.t=z.t.di/\Has N S R (y.E++H)
 |0,z,h,_,_,_,_,_,_,_,_,_=>by have:=Q.bR z.t;omega
 |m+1,z,h,hm,hs,hz,N,S,Y,H,hF,O=>by
  open Us in
  obtain⟨x,Z,hzc,hzE,hZo,YX⟩:=Tz.kids hz;have Pf:=Q.bR z.t;have rQ:∀t∈zT Z,Eb t:=λt ht=>hs.kid (by rw[YX];exact ht);rw[YX] at Pf;have pg:=bk (zT Z);have jP:=e_ Z;have TV:=(Q.cW.1 hs.2.2).1;have ma:z.t.di=fP z.t.n ((zT Z).map Q.di):=by rw[Q.Kw,YX]
  have hg0:=(Q.uc.1 (GJ z.t hs.1)).1;generalize z.t.n=n at*;have Nw:n.rd.cells?=some [n.rd]:=by rw[TV.1];rfl
  have Hi:n.rd.ref=0:=by rw[TV.1];rfl
  have O:Has N S Y (.ai x 8 (zC Z)::(zEE Z++H)):=Θ (hk:=[]) (hzE.append_right H) O;have RF:=O.dv aV;rw[hzc,ma];unfold bQ;refine Ev.sv rfl ab1 rfl rfl rfl ?_;dsimp only[u3,u4,ο,ω,η,w1,w2];change ah _ _ _ _ Y _;refine qq<|qj λK hK=>M 2 λk1 U jo O k2 U jn O=>?_;refine qe hK<|M 2 ?_;refine qj λK hK=>qm ?_;refine qe hK<|ah.block<|ah.loop (λmm I U=>∃(i:Nat) (KB:List Tz),I.clean=fL I 24 [(1,yv k1 0 0),(0,yv k2 0 0),(0,J W (i:Nat))]/\Has N S U (x4 k2 (zm 0 false [J W 0,j5,J W 0,J W 0,wt false,J W 0,J W 0,j5])::x4 k1 (zm 0 false [J W n.op,n.rd,J W n.mn,J W n.mx,wt n.lz,J W n.cap,J W n.kids,x])::.ai x 8 (zC KB)::(zEE KB++H))/\(i+mm=Z.length)/\(∀w∈KB,w.ok)/\(zT KB=((zT Z).take i).map Q.di++(zT Z).drop i)) (Z.length) ?_ ?_
  .exact⟨0,Z,rfl,O,by omega,hZo,(by simp)⟩
  rintro mm I U ⟨i,KB,hfr,O,hi,T0,NF⟩;rw[hfr];(try dsimp only[fL,fG,η]);clear hfr;generalize ay I=ee;clear I;have hWc:=fc KB
  have hWl:KB.length=Z.length:=by
   have h1:=congrArg ο NF;rw[e_,ι,ζ,π,List.length_drop,jP] at h1;omega
  rw[hWl] at hWc;refine M 2 ?_;refine qj λK hK=>M 5 ?_;refine qe hK ?_;rw[hWc];refine zP (λh1=>?_) λh1=>?_
  .refine ah.skip ?_
   obtain⟨w,hw⟩:=gx (l:=KB) (i:=i)
   have hwm:=κ hw;have YF:=T0 w hwm
   have ZT:(zT Z)[i]?=some w.t:=by
    have X:=QS hw;rw[NF,List.getElem?_append_right (by rw[ζ,π];omega),ζ,π,Qb6 GB,Qav,List.getElem?_drop,Nat.add_zero] at X;exact X
   have hwk:=κ ZT;have hwc:=ch hwk;obtain⟨wx,TS⟩:=Tz.lit YF;have JD:(zC KB)[i]?=some [J W w.t.n.op,w.t.n.rd,J W w.t.n.mn,J W w.t.n.mx,wt w.t.n.lz,J W w.t.n.cap,J W w.t.n.kids,wx]:=by rw[pr hw,TS]
   refine M 2 ?_;change ah _ _ _ _ _ _;generalize hK:dN _ _ _ _=K;refine ah.Ci rfl ?_;refine nr.cons ?_;refine qp (o:=7) ?_;refine yY ?_;refine ql O bf ?_;refine yY ?_;refine qm ?_;refine yY ?_;refine qp (o:=7) ?_;refine yY ?_;refine ql O bf ?_;refine yY ?_;refine qm ?_;refine yY ?_;refine qi O dh λQd Di=>?_;refine yY ?_;refine Qbd O rfl Pd so (by exact dh) so rfl (by dsimp<;>rfl) ?_;refine yY ?_;have hA:=O;have Qn:=OH hA dh;obtain⟨d9,UN,nh,y9,Mh,BA,Hd,Pm⟩:=vA m w GB GB (rQ _ hwk) YF (N:=N) (S:=S) (H:=_) hF (Θ (hk:=[]) (CD (hk:=[_,_,_]) (Ek hw)) O);obtain⟨yx,sx⟩:=Tz.lit BA;rw[TS,Mh] at nh;rw[sx] at nh;refine Qb0 rfl rfl nh (by dsimp<;>rfl) ?_;have hB:=Θ (hk:=[]) (CD (hk:=[_,_,_]) (Ut (z':=y9) hw).symm).symm Pm;have O:=hB;refine Φ ⟨by exact Qan.2 ⟨FZ rfl rfl rfl (hA.at bf) (hB.at bf) (hA.at bf) (by simp only[refs,D.ref,Hi];omega),rfl⟩,?_⟩;refine nr.cons ?_;refine qi O dh λOc AX=>?_;refine yY ?_;refine M 1 λU O=>?_;refine Φ ⟨rfl,?_⟩;refine nr.nil ?_;subst hK;refine qj λK hK=>qm ?_;refine Qbc (z:=((i+1:Nat):Int)) rfl Pd Pd (by(try simp only[ς,Γ,ξ,ι,ζ,Ξ]);rw[wrap_i64 GB GB]<;>omega) (by dsimp<;>rfl) ?_;refine qm ?_;refine qe hK ?_;refine⟨mm-1,by omega,⟨i+1,KB.set i y9,rfl,(by rw[show zC (KB.set i y9)=(zC KB).set i y9.c from Qb9,sx];exact O),by omega,?_,?_⟩⟩
   .intro v hv
    rcases Qas hv with hv|rfl
    .exact T0 v hv
    exact BA
   rw[show zT (KB.set i y9)=(zT KB).set i y9.t from Qb9,NF,Hd,u7 ZT,ρ,ZT,Qat _ _ (by rw[ζ,π];omega),ζ,π,Qb6 GB,Qav,List.set_cons_zero,Qam,γ]
   rfl
  refine ah.exit ?_;have hil:i=(zT Z).length:=by omega
  rw[hil,υ,Ψ,Qao] at NF
  have hWf:∀t∈zT KB,t.fa jD:=λt ht=>by
   rw[NF] at ht;obtain⟨aa,hu,rfl⟩:=Δ.1 ht;exact(rQ aa hu).fa
  have SK:bu (zT KB)<=1048576:=by
   have X:=Eb.bu rQ;rw[NF];omega
  have ub:∀{U:St},Has N S U (x4 k2 (zm 0 false [J W 0,j5,J W 0,J W 0,wt false,J W 0,J W 0,j5])::x4 k1 (zm 0 false [J W n.op,n.rd,J W n.mn,J W n.mx,wt n.lz,J W n.cap,J W n.kids,x])::.ai x 8 (zC KB)::(zEE KB++H))->Has N S U (.ai x 8 (zC KB)::(zEE KB++(x4 k2 (zm 0 false [J W 0,j5,J W 0,J W 0,wt false,J W 0,J W 0,j5])::x4 k1 (zm 0 false [J W n.op,n.rd,J W n.mn,J W n.mx,wt n.lz,J W n.cap,J W n.kids,x])::H))):=λh=>Has.swap (hk:=[]) (hp:=[_,_]) (C:=.ai x 8 (zC KB)::zEE KB) h;rw[<-NF];refine M 2 ?_;refine qj λK hK=>M 3 ?_;refine qe hK<|M 2 ?_;refine qj λK hK=>M 2 ?_;refine qe hK ?_
  by_cases h3:n.op=3
  .have hc:(n.op==3)=true:=by simpa using h3
   refine vX ?_;refine qq<|qj λK hK=>yL (m:=8) O bf ?_;obtain⟨d9,UN,nh,y9,Mh,BA,Hd,Pm⟩:=KD (n:=n) (x:=x) hF T0 SK h3 RF Nw (ub O);obtain⟨yx,sx⟩:=Tz.lit BA;rw[Mh,sx] at nh;refine Qb0 rfl rfl nh (ae rfl _) ?_;have O:=Has.swap (hk:=[]) (hp:=y9.E) (C:=[_,_]) Pm;refine M 1 λU O=>?_;refine qe hK<|ah.ret ⟨rx,_,_,_,O.bm rfl aV rfl,rfl,?_⟩;exact⟨y9,by rw[sx];rfl,BA,Hd,O.drop 2⟩
  have hc:(n.op==3)=false:=by simpa using h3
  refine vY ?_;refine qq<|qj λK hK=>M 2 ?_;refine qe hK ?_
  by_cases h4:n.op=4
  .have hc:(n.op==4)=true:=by simpa using h4
   refine vX ?_;refine qq<|qj λK hK=>yL (m:=8) O bf ?_;obtain⟨d9,UN,nh,y9,Mh,BA,Hd,Pm⟩:=KE (n:=n) (x:=x) hF T0 hWf SK h4 RF Nw (ub O);obtain⟨yx,sx⟩:=Tz.lit BA;rw[Mh,sx] at nh;refine Qb0 rfl rfl nh (ae rfl _) ?_;have O:=Has.swap (hk:=[]) (hp:=y9.E) (C:=[_,_]) Pm;refine M 1 λU O=>?_;refine qe hK<|ah.ret ⟨rx,_,_,_,O.bm rfl aV rfl,rfl,?_⟩;exact⟨y9,by rw[sx];rfl,BA,Hd,O.drop 2⟩
  have hc:(n.op==4)=false:=by simpa using h4
  refine vY ?_;refine qq<|qj λK hK=>M 2 ?_;refine qe hK ?_
  by_cases h5:n.op=5
  .have hc:(n.op==5)=true:=by simpa using h5
   refine vX ?_;obtain⟨hne,h0⟩:=hg0 h5
   obtain⟨p,W2,rfl⟩:∃p W2,KB=p::W2:=by
    cases KB with
    |nil=>
     refine absurd ?_ hne;rw[YX]
     cases hZ:zT Z with
     |nil=>rfl
     |cons a b=>rw[hZ] at NF;cases NF
    |cons p W2=>exact⟨p,W2,rfl⟩
   have hp5:p.t.n.op=5->p.t.ks≠[]/\0<=p.t.n.mn:=by
    have B:p.t∈(zT Z).map Q.di:=by rw[<-NF];exact δ ..
    obtain⟨aa,hu,Ny⟩:=Δ.1 B;rw[<-Ny];exact(rQ aa hu).gd
   refine qq<|qj λK hK=>yL (m:=8) O bf ?_;obtain⟨d9,UN,nh,y9,Mh,BA,Hd,Pm⟩:=Kt (n0:=n) (x:=x) hF T0 SK h5 h0 hp5 RF Nw (ub O);obtain⟨yx,sx⟩:=Tz.lit BA;rw[Mh,sx] at nh;refine Qb0 rfl rfl nh (ae rfl _) ?_;have O:=Has.swap (hk:=[]) (hp:=y9.E) (C:=[_,_]) Pm;refine M 1 λU O=>?_;refine qe hK<|ah.ret ⟨rx,_,_,_,O.bm rfl aV rfl,rfl,?_⟩;exact⟨y9,by rw[sx];rfl,BA,Hd,O.drop 2⟩
  have hc:(n.op==5)=false:=by simpa using h5
  refine vY ?_;refine M 2 ?_;refine qj λK hK=>M 2 λU O=>?_;refine qe hK<|ah.ret ⟨rx,_,_,_,O.bm rfl aV rfl,rfl,?_⟩;exact⟨⟨.mk n (aE (zT KB)),bQ n x,.ai x 8 (zC KB)::zEE KB⟩,rfl,Tz.of T0,by unfold fP;rw[if_neg h3,if_neg h4,if_neg h5],O.drop 2⟩
end Go.Proofs.YtappgjdiplibbaaGreat
namespace Go.V
open Go
section
variable{ty:Q TypeInfo} {JB:Nat} {fs T4:Q Fi} {GP U9:Nat} {BH:List Nat} {uO Ip:List (Nat×(List D->St->Option (D×St)))}
def U4 (I:Fr) (U:St) (op:Op) (t:TypeId):dY ⟨ty,JB,T4,U9,BH,Ip⟩ I U op t=dY ⟨ty,JB,fs,GP,BH,uO⟩ I U op t:=by kernel_rfl
def Rh (I:Fr) (U:St) (l:List ResultVar):jr ⟨ty,JB,T4,U9,BH,Ip⟩ I U l=jr ⟨ty,JB,fs,GP,BH,uO⟩ I U l:=by kernel_rfl
end
def Ym (cf Tb:eJ):Prop:=∀f ds U r,cf f ds U=some r->Tb f ds U=some r
structure PvT (P P':Pv):Prop where
 op:∀I U op t,dY P' I U op t=dY P I U op t
 re:∀I U l,jr P' I U l=jr P I U l
section
variable{P P':Pv} {cf Tb:eJ} (hT:PvT P P') (hc:Ym cf Tb)
include hT hc
def CE {I:Fr} {U:St} {o:Oper} {r:D×St} (h:eT P cf I U o=some r):eT P' Tb I U o=some r:=by
 unfold eT at h|-
 split at h
 .split at h;·exact hc _ _ _ _ h
  cases h
 rw[hT.op];exact h
def Ax {ops:Array Oper}:∀(l:List Oper) {I:Fr} {U:St} {r:Fr×St},ju P cf ops l I U=some r->ju P' Tb ops l I U=some r
 |[],_,_,_,h=>h
 |o::l,I,U,r,h=>by
  unfold ju at h|-
  split at h
  .split at h;next ho=>rw[CE hT hc ho];exact Ax l h
   cases h
  .exact Ax l h
  cases h
def Aw {ops:Array Oper} {dy:List (Nat×Nat)}:∀(l:List Oper) {j:Nat} {g:Log} {I:Fr} {U:St} {r:Fr×St},pP P cf ops dy j g l I U=some r->pP P' Tb ops dy j g l I U=some r
 |[],_,_,_,_,_,h=>h
 |o::l,j,g,I,U,r,h=>by
  unfold pP at h|-
  split at h
  .split at h
   .rename_i ho;rw[CE hT hc ho];dsimp only
    split at h;·exact Aw l h
    cases h
   cases h
  .exact Aw l h
  cases h
omit hT hc in
def G8 {f f':Fr->St->Option (Out×Fr×St)} (hf:∀I U r,f I U=some r->f' I U=some r):∀(n:Nat) {I:Fr} {U:St} {r:Out×Fr×St},iter f n I U=some r->iter f' n I U=some r
 |0,_,_,_,h=>by cases h
 |n+1,I,U,r,h=>by
  unfold iter at h|-
  split at h;next hs=>rw[hf _ _ _ hs];exact G8 hf n h
  rename_i hs;rw[hf _ _ _ h]
  split;next he=>cases he;exact absurd h (hs _ _)
  rfl
def MN {dy:List (Nat×List (Nat×Nat))} {n:Nat}:∀(c:Code) {I:Fr} {U:St} {r:Out×Fr×St},bF P cf dy n c I U=some r->bF P' Tb dy n c I U=some r:=by
 intro c
 induction c with
 |region id ops d=>
  intro I U r h;unfold bF Am at h|-
  cases hl:iR id dy with
  |nil=>
   rw[hl] at h;simp only at h|-
   split at h;next ho=>rw[Ax hT hc _ ho];exact h
   cases h
  |cons x y=>
   rw[hl] at h;simp only at h|-
   split at h;next ho=>rw[Aw hT hc _ ho];exact h
   cases h
 |seq a b Fu LH=>
  intro I U r h;unfold bF at h|-
  split at h;next ho=>rw[Fu ho];exact LH h
  rename_i ho;rw[Fu h]
  split;next he=>cases he;exact absurd h (ho _ _)
  rfl
 |cond c a b Fu LH=>
  intro I U r h;unfold bF at h|-
  split at h;·exact Fu h
  .exact LH h
  cases h
 |block id c ih=>
  intro I U r h;unfold bF at h|-
  split at h;next ho=>rw[ih ho];exact h
  rename_i ho;rw[ih h]
  split;next he=>cases he;exact absurd h (ho _ _ _)
  rfl
 |loop c ih=>
  intro I U r h;unfold bF at h|-;exact G8 (λI U r=>ih) n h
 |_=>intro I U r h;first|exact h|(unfold bF at h|-;exact h)|(simp only[bF] at h;cases h)
end
structure Ni (P P':Pv):Prop where
 T:PvT P P'
 uO:∀f p,fT f P.uO=some p->fT f P'.uO=some p
 fi:∀f x,fT f P.uO=none->P.fi f=some x->x.jG=some mB\/(fT f P'.uO=none/\P'.fi f=some x)
def D2 {P P':Pv} (h:Ni P P'):∀n,Ym (cA P n) (cA P' n)
 |0,f,ds,U,r,hr=>by cases hr
 |n+1,f,ds,U,r,hr=>by
  unfold cA at hr|-
  cases B:fT f P.uO with
  |some p=>rw[B] at hr;rw[h.uO f p B];exact hr
  |none=>
   rw[B] at hr;simp only at hr
   split at hr
   .rename_i x hx
    rcases h.fi f x B hx with h0|⟨h1,X⟩
    .rw[h0] at hr;cases hr
    rw[h1,X];simp only
    split at hr;·exact hr
    split at hr
    .unfold zu at hr|-
     split at hr;·cases hr
     .rename_i hn ux;rw[MN h.T (D2 h n) _ ux]
      split;next he=>cases he;exact(hn _ rfl).elim
      next he=>cases he;rw[h.T.re];exact hr
      rename_i he;cases he
     cases hr
    cases hr
   cases hr
variable{f:Nat}
def Ev.le {P P':Pv} (h:Ni P P') {args:List D} {U R:St} {d:D} (he:Ev P f args U d R):Ev P' f args U d R:=by
 unfold Ev at he|-;obtain⟨N,hN⟩:=he;exact⟨N,λn hn=>D2 h n _ _ _ _ (hN n hn)⟩
def Q.pt {α:Type} (a:Nat) (r:α):Q α->Q α
 | qJ _=>qJ r
 | X_ m l h=>match Nat.ble m a with
  |false=>X_ m (l.pt a r) h
  |true=>X_ m l (h.pt a r)
def kh:Q Fi->Q Fi->Prop
 | qJ x,qJ y=>x.jG=some mB\/y=x
 | X_ m l h,X_ m' l' h'=>m=m'/\kh l l'/\kh h h'
 |_,_=>False
theorem kh.get:∀{t t':Q Fi},kh t t'->(t.get f).jG=some mB\/t'.get f=t.get f
 | qJ x,qJ y,h=>h
 | X_ m l r,X_ m' l' r',h=>by
  obtain⟨rfl,h1,X⟩:=h;unfold Q.get
  split;·exact h1.get
  exact X.get
 | qJ _,X_ ..,h=>h.elim
 | X_ ..,qJ _,h=>h.elim
def kh.refl:∀t:Q Fi,kh t t
 | qJ _=>.inr rfl
 | X_ _ l r=>⟨rfl,kh.refl l,kh.refl r⟩
def kh.pt {a:Nat} {r:Fi}:∀{t:Q Fi},(t.get a).jG=some mB->kh t (t.pt a r)
 | qJ x,h=>.inl h
 | X_ m l r',h=>by
  unfold Q.get at h;unfold Q.pt
  split at h;next F=>rw[F];exact⟨rfl,kh.pt h,kh.refl _⟩
  rename_i F;rw[F];exact⟨rfl,kh.refl _,kh.pt h⟩
def kh.trans:∀{t aa v:Q Fi},kh t aa->kh aa v->kh t v
 | qJ x,qJ y,qJ z,h,k=>by
  rcases h with h|rfl
  .exact .inl h
  exact k
 | X_ m l r,X_ m' l' r',X_ m2 l2 r2,h,k=>⟨h.1.trans k.1,h.2.1.trans k.2.1,h.2.2.trans k.2.2⟩
 | qJ _,X_ ..,_,h,_=>h.elim
 | X_ ..,qJ _,_,h,_=>h.elim
 | qJ _,qJ _,X_ ..,_,k=>k.elim
 | X_ ..,X_ ..,qJ _,_,k=>k.elim
def P_ {ty:Q TypeInfo} {JB:Nat} {fs T4:Q Fi} {GP:Nat} {BH:List Nat} {uO Ip:List (Nat×(List D->St->Option (D×St)))} (h:kh fs T4) (B:∀f p,fT f uO=some p->fT f Ip=some p) (hn:∀f,fT f uO=none->fT f Ip=none\/(fs.get f).jG=some mB):
  Ni ⟨ty,JB,fs,GP,BH,uO⟩ ⟨ty,JB,T4,GP,BH,Ip⟩:=by
 refine⟨⟨U4,Rh⟩,B,λf x hf hx=>?_⟩;unfold Pv.fi at hx|-
 split at hx
 .rename_i F;have F:GP.ble f=false:=F;cases hx
  rcases hn f hf with h1|h1
  .rcases h.get (f:=f) with X|X
   .exact .inl X
   refine .inr ⟨h1,?_⟩;show(match GP.ble f with|false=>some (Q.get f T4)|true=>none)=_;rw[F,X]
  exact .inl h1
 cases hx
theorem dx.at {P:Program} {pv xz:Pv} {p:List D->St->Option (D×St)} (h:dx P pv f p) (hr:kZ xz f=kZ pv f):dx P xz f p:=
 ⟨h.fn,λds U d R B w β Z us h1 X h3=>by rw[hr];exact h.calls ds U d R B w β Z us h1 X h3,λds U d R B hx=>h.ro ds U d R B (by rw[<-hr];exact hx),h.len⟩
end Go.V
namespace Go.V
open Go
variable{f:Nat}{ds:List D}{U:St}
def Ev.det {P:Pv} {st1 st2:St} {d1 d2:D} (h1:Ev P f ds U d1 st1) (X:Ev P f ds U d2 st2):d1=d2:=by
 unfold Ev at h1 X;obtain⟨n,hn⟩:=h1;obtain⟨m,hm⟩:=X;have h3:=hn (max n m) (Nat.le_max_left ..);rw[hm (max n m) (Nat.le_max_right ..)] at h3;simp at h3;exact h3.1.symm
def HU (V:Pv) (f:Nat) (ds:List D) (d:D):Prop:=refs ds=0/\Ev V f ds ⟨[],0,0⟩ d ⟨[],0,0⟩
open Classical in
noncomputable def TA (V:Pv) (f:Nat):List D->Option D:=λds=>if h:∃d,HU V f ds d then some h.choose else none
theorem QV {pv V:Pv} {P:Program} (h:V.Ok P/\V.fu/\gh P V (dj V)):dx P pv f (vZ (TA V f)):=by
 refine Lk h λds d B=>?_;unfold TA at B
 split at B;next he=>have h1:=he.choose_spec;cases B;obtain⟨X,h3⟩:=h1;unfold Ev at h3;obtain⟨n,hn⟩:=h3;exact⟨X,n,_,hn n (μ _),rfl⟩
 cases B
variable{d:D}
theorem QW {V:Pv} (h:HU V f ds d):TA V f ds=some d:=by
 unfold TA
 have he:∃d,HU V f ds d:=⟨d,h⟩
 rw[dif_pos he,Ev.det he.choose_spec.2 h.2]
def QX {pv V:Pv} (hl:fT f pv.uO=some (vZ (TA V f))) (h:HU V f ds d):Ev pv f ds U d U:=by
 refine Ev.jG hl ?_;unfold vZ;rw[QW h];rfl
end Go.V
namespace Go.Proofs.YtappgjdiplibbaaGreat.K
open Go.V
noncomputable def NG:V.Q Fi:=(YtappgjdiplibbaaGreat.NG.pt 57 ⟨Tryz.f57,10,.bW,false,none,[]⟩).pt 23 ⟨Tryz.f23,4,.ro,false,none,[]⟩
noncomputable def dE:Pv:={YtappgjdiplibbaaGreat.dE with fs:=NG}
def DD:Fits (Nh dE Tryz.prog) NG 0 dE.GP:=by repeat' first|exact⟨rfl,.inl ⟨by kernel_rfl,rfl,by kernel_rfl⟩⟩|exact⟨rfl,.inr rfl⟩|refine⟨?_,?_⟩
def jS:dE.Ok Tryz.prog/\dE.fu/\gh Tryz.prog dE (dj dE):=zJ Mw DD (by kernel_rfl) (by kernel_rfl) rfl
noncomputable def pv:Pv:=dE.over [(7,tR (wt true)),(139,xM),(144,xw),(40,oZ)]
def view:pv.Ok Tryz.prog/\pv.fu/\gh Tryz.prog pv (dj pv):=by
 refine oe jS rfl λq hq=>?_;simp only[Qb8,Qb4,or_false] at hq
 rcases hq with rfl|rfl|rfl|rfl
 .exact dx.at (pv:=YtappgjdiplibbaaGreat.dE) (mq) (by kernel_rfl)
 .exact dx.at (pv:=YtappgjdiplibbaaGreat.dE) (Bo (by kernel_rfl)) (by kernel_rfl)
 .exact dx.at (pv:=YtappgjdiplibbaaGreat.dE) (Ab YtappgjdiplibbaaGreat.jS (by kernel_rfl)) (by kernel_rfl)
 exact dx.at (pv:=YtappgjdiplibbaaGreat.dE) (vm YtappgjdiplibbaaGreat.jS (λ_ _ _ _ _ _ _ _ _ h1 X h3=>wW h1 X h3) (by kernel_rfl)) (by kernel_rfl)
def le:Ni YtappgjdiplibbaaGreat.pv pv:=P_ ((kh.pt (by kernel_rfl)).trans (kh.pt (by kernel_rfl))) (λ_ _ h=>h) (λ_ h=>.inl h)
def SY:pv.fi 57=some ⟨Tryz.f57,10,.bW,false,none,[]⟩:=by kernel_rfl
def acx:pv.fi 23=some ⟨Tryz.f23,4,.ro,false,none,[]⟩:=by kernel_rfl
end Go.Proofs.YtappgjdiplibbaaGreat.K
namespace Go.Proofs.YtappgjdiplibbaaGreat.Z
open Go.V
noncomputable def NG:V.Q Fi:=(YtappgjdiplibbaaGreat.NG.pt 57 ⟨Tryz.f57,10,.ro,false,none,[]⟩).pt 24 ⟨Tryz.f24,9,.ro,false,none,[]⟩
noncomputable def dE:Pv:={YtappgjdiplibbaaGreat.dE with fs:=NG}
def DD:Fits (Nh dE Tryz.prog) NG 0 dE.GP:=by repeat' first|exact⟨rfl,.inl ⟨by kernel_rfl,rfl,by kernel_rfl⟩⟩|exact⟨rfl,.inr rfl⟩|refine⟨?_,?_⟩
def jS:dE.Ok Tryz.prog/\dE.fu/\gh Tryz.prog dE (dj dE):=zJ Mw DD (by kernel_rfl) (by kernel_rfl) rfl
noncomputable def pv:Pv:=dE.over [(23,vZ (TA K.pv 23)),(7,tR (wt true)),(139,xM),(144,xw),(40,oZ)]
def view:pv.Ok Tryz.prog/\pv.fu/\gh Tryz.prog pv (dj pv):=by
 refine oe jS rfl λq hq=>?_;simp only[Qb8,Qb4,or_false] at hq
 rcases hq with rfl|rfl|rfl|rfl|rfl
 .exact QV K.view
 .exact dx.at (pv:=YtappgjdiplibbaaGreat.dE) (mq) (by kernel_rfl)
 .exact dx.at (pv:=YtappgjdiplibbaaGreat.dE) (Bo (by kernel_rfl)) (by kernel_rfl)
 .exact dx.at (pv:=YtappgjdiplibbaaGreat.dE) (Ab YtappgjdiplibbaaGreat.jS (by kernel_rfl)) (by kernel_rfl)
 exact dx.at (pv:=YtappgjdiplibbaaGreat.dE) (vm YtappgjdiplibbaaGreat.jS (λ_ _ _ _ _ _ _ _ _ h1 X h3=>wW h1 X h3) (by kernel_rfl)) (by kernel_rfl)
def le:Ni YtappgjdiplibbaaGreat.pv pv:=by
 refine P_ ((kh.pt (by kernel_rfl)).trans (kh.pt (by kernel_rfl))) (λf p h=>?_) (λf h=>?_)
 .by_cases hf:f=23;·subst hf;cases h
  show(match Qaq f 23 with|true=>_|false=>fT f [(7,tR (wt true)),(139,xM),(144,xw),(40,oZ)])=_;rw[show Qaq f 23=false from by cases h9:Qaq f 23 with|true=>exact absurd (Qax h9) hf|false=>rfl];exact h
 by_cases hf:f=23;·subst hf;exact .inr (by kernel_rfl)
 left;show(match Qaq f 23 with|true=>_|false=>fT f [(7,tR (wt true)),(139,xM),(144,xw),(40,oZ)])=_;rw[show Qaq f 23=false from by cases h9:Qaq f 23 with|true=>exact absurd (Qax h9) hf|false=>rfl];exact h
def SY:pv.fi 57=some ⟨Tryz.f57,10,.ro,false,none,[]⟩:=by kernel_rfl
def acw:pv.fi 24=some ⟨Tryz.f24,9,.ro,false,none,[]⟩:=by kernel_rfl
def fi3:pv.fi 3=some ⟨Tryz.f3,13,.ro,false,none,[(2,[(1,5)])]⟩:=by kernel_rfl
def fi6:pv.fi 6=some ⟨Tryz.f6,21,.bW,false,none,[]⟩:=by kernel_rfl
end Go.Proofs.YtappgjdiplibbaaGreat.Z
namespace Go.Proofs.YtappgjdiplibbaaGreat.K
open Go.V Go
def PlB (l:List aQ) (a b:Nat):Prop:=∀i,a<=i->i<b->∀n,l[i]?=some n->bD n=true
def G5 {l:List aQ} {h:Nat->Nat->Option (Nat×Nat)} (hh:∀a g r,h a g=some r->PlB l a r.1):∀k a g r,iJ h k a g=some r->PlB l a r.1
 |0,a,g,r,e=>by
  simp[iJ] at e;subst e;exact λi h1 X=>absurd X (Nat.not_lt.2 h1)
 |k+1,a,g,r,e=>by
  unfold iJ at e
  split at e
  .rename_i r1 dO;have h1:=hh _ _ _ dO;have X:=G5 hh k _ _ _ e;intro i h3 h4
   rcases Qba i r1.1 with h5|h5
   .exact h1 i h3 h5
   exact X i h5 h4
  cases e
variable{n:aQ}
def Kj {g:Int} (h:(ey n g).2=true):bD n=true:=by
 unfold ey at h
 split at h;·cases h
 rename_i B;simpa using B
def K5 {l:List aQ}:∀f a g r,il l f a g=some r->PlB l a r.1
 |0,_,_,_,e=>by simp[il] at e
 |f+1,a,g,r,e=>by
  unfold il at e
  cases hn:l[a]? with
  |none=>rw[hn] at e;cases e
  |some n=>
   rw[hn] at e;simp only at e
   split at e
   .rename_i hs;have h1:=G5 (K5 f) _ _ _ _ e;intro i h3 h4 m hm
    rcases Qba a i with h5|h5
    .exact h1 i h5 h4 m hm
    have:i=a:=by omega
    subst this;rw[hn] at hm;cases hm;exact Kj hs
   cases e
variable{l:List aQ}
def Kx (h:eM l=true):∀n∈l,bD n=true:=by
 unfold eM at h;simp only[τ] at h;obtain⟨_,h⟩:=h
 split at h;next r hr=>rw[decide_eq_true_eq] at h;intro n hn;obtain⟨i,hi,hin⟩:=List.getElem_of_mem hn;exact K5 _ _ _ _ hr i (Qaz _) GB n (by rw[<-hin];exact List.getElem?_eq_getElem hi)
 cases h
def P4.zD {hk hp:Prop} (e:hk->hp:=by intro h;dsimp only[u2,u1,u3,u4,setMany,u5,u6,D.cells,Nat.reduceAdd,zC] at h;exact h):hk->hp:=e
def Cq {l:List aQ} (hl:l.length<=1048576) (hv:∀n∈l,ki n) {x:D} (hx:fJ x 7 (l.map aO)):∀(m:Nat) (t:Q),t.dF<=m->m<=1048576->t.ok->∀(at_:Nat),g_ l at_ t.flat->∀{N:Nat} {S Y:St} {H:List aX},S.flr<=N->Has N S Y H->∃d R,Ev pv 57 [x,J W (at_:Nat)] Y d R/\∃z:Tz,d=.tup [y4 z.c,J W ((at_+t.flat.length:Nat):Int)]/\z.ok/\z.t=t/\Has N S R (z.E++H)
 |0,t,h,_,_,_,_,_,_,_,_,_,_=>by have:=Q.bR t;omega
 |m+1,t,h,hm,bK,at_,l_,N,S,Y,H,hF,O=>by
  open P4 in
  have L_:=Q.bR t;have lT:=bk t.ks;obtain⟨ho,rQ⟩:=Q.CH.1 bK;have hkk:t.n.kids=(t.ks.length:Nat):=ho.1;have iS:=Q.Bi t;rw[iS] at l_|-;have hle:=l_.le (by simp);simp at hle;have hn:=l_.head;have l_:=l_.tail;have dO:=i_ hn;have htm:t=.mk t.n (aE t.ks):=by cases t;simp[Q.n,Q.ks,sH]
  have hx:=hx.arg N S;refine Ev.sv rfl SY rfl rfl rfl ?_;dsimp only[u3,u4,ο,ω,η,w1,w2];change ah _ _ _ _ Y _;refine M 11 λk4 U QA O Ro Dj=>?_;refine qg (d:=y4 [J W t.n.op,t.n.rd,J W t.n.mn,J W t.n.mx,wt t.n.lz,J W t.n.cap,J W t.n.kids,j5]) ?_;refine M 14 λk6 U L' O U O=>?_;have O:Has N S U (_::.ai j5 8 (zC [])::x4 k4 (zm 0 false tz)::(zEE []++H)):=Has.EN [_] [_] (O.cY 8);refine G 1 ?_;refine ah.loop (λmm I U=>∃(i j:Nat) (kd:D) (s0:List Tz),I.clean=fL I 10 [(0,x),(0,J W (j:Nat)),(2,yv k4 0 0),(1,yv k6 0 0),(0,J W (i:Nat))]/\Has N S U (x4 k6 (zm 0 false [J W t.n.op,t.n.rd,J W t.n.mn,J W t.n.mx,wt t.n.lz,J W t.n.cap,J W t.n.kids,kd])::.ai kd 8 (zC s0)::x4 k4 (zm 0 false [J W 0,j5,J W 0,J W 0,wt false,J W 0,J W 0,j5])::(zEE s0++H))/\(i+mm=t.ks.length)/\(g_ l j (aE (t.ks.drop i)).flat)/\(j+(aE (t.ks.drop i)).flat.length=at_+1+(aE t.ks).flat.length)/\(∀y∈s0,y.ok)/\(zT s0=t.ks.take i)) (t.ks.length) ?_ ?_;·exact⟨0,at_+1,j5,[],rfl,O,by omega,l_,rfl,(λy hy=>by cases hy),rfl⟩
  rintro mm I U ⟨i,j,kd,s0,hfr,O,hi,hj,A9,xu,BE⟩;rw[hfr];(try dsimp only[fL,fG,η]);clear hfr;generalize ay I=ee;clear I;have Hu:=fc s0
  have ND:s0.length=i:=by
   have h1:=congrArg ο BE;rw[e_,π] at h1;omega
  refine G 9 ?_;refine zP (λh1=>?_) λh1=>?_
  .refine G 1 ?_
   obtain⟨p,B⟩:=gx (l:=t.ks) (i:=i)
   have gi:=κ B;have BC:=ch gi;rw[kW B] at hj A9;rw[ι] at A9;refine G 2 ?_;obtain⟨d9,UN,nh,y9,Mh,BA,Hd,Pm⟩:=Cq hl hv ‹fJ x 7 (l.map aO)› m p GB GB (rQ p gi) j hj.left hF O;obtain⟨yx,sx⟩:=Tz.lit BA;rw[Mh,sx] at nh;refine G 4 ?_;refine Qb0 rfl rfl nh (ae rfl _) ?_;have O:=Has.swap (hk:=[]) (hp:=y9.E) (C:=_::_::_::zEE s0) Pm;refine M 15 λk8 U O' O U O k33 U Sl O QU U O=>?_;refine qT O dh (λU O=>?_) (hcs:=O.dv d_);dsimp[u2,u1,u3,u4,setMany,u5,u6,D.cells,η,zC] at O;refine G 10 ?_;refine⟨mm-1,by omega,⟨i+1,j+p.flat.length,QU,s0++[y9],rfl,(by rw[me,kU,nv,show zC [y9]=[y9.c] from rfl,sx,γ];exact O.drop 2),by omega,hj.right,by omega,?_,(by rw[ρ,B,eK,BE,<-Hd];rfl)⟩⟩;intro v hv
   rcases θ.1 hv with hv|hv
   .exact xu v hv
   rw[ε.1 hv];exact BA
  refine G 1 ?_;have he:i=t.ks.length:=by omega
  rw[he,Ψ] at A9;rw[he,υ] at BE;have Wp:(aE []).flat.length=0:=rfl;rw[Wp] at A9;refine M 7 λU O=>?_;refine ah.ret ⟨rx,_,_,_,O.ra rfl dh rfl rfl,rfl,?_⟩;refine⟨⟨.mk t.n (aE (zT s0)),bQ t.n kd,.ai kd 8 (zC s0)::zEE s0⟩,?_,Tz.of xu,by rw[BE];exact htm.symm,(O.erase 2).drop 1⟩;rw[show j=at_+((aE t.ks).flat.length+1) by omega];rfl
def Rw (h:lv n):U7 n=n:=by
 unfold U7;rw[<-h.1]
def Ia {t:Q} (h:Eb t) (hc:t.dF<=1048576):t.di.cl.hU=t.less.hU:=by
 rw[Q.jU t h.1 h.2.1,Q.xe];obtain⟨hf,hl⟩:=Q.gz t h.2.2;have A:=Q.rU t.less hf GB;exact(List.map_congr_left λn hn=>Rw ⟨(A n hn).1,(A n hn).2.1⟩).trans (List.map_id _)
def EA {Y:St} {x:D} (hx:fJ x 7 (l.map aO)) (hv:∀n∈l,ki n) (hl:l.length<=1048576):Ev pv 23 [x] Y (jO (bO l)) Y:=by
 open P4 in
 have A3:Nl.ok ⟨x,l⟩:=⟨hx,λn hn=>by
  obtain⟨h1,X,h3⟩:=hv n hn
  exact⟨by rw[h1];exact dU _,X,by omega⟩,by show l.length<=_;omega⟩
 have hrt:=λU=>Ev.le le (ym (Y:=U) A3);unfold bO;refine Ev.sU rfl acx rfl rfl rfl ?_;dsimp only[u3,u4,ο,ω,η,w1,w2];obtain⟨aP,hF,O⟩:=ri Y;generalize aw .ro Y=S at*;have wy:=hx.arg Y.bs.length S;refine M (t:=(hrt _)) 11 ?_
 cases hR:eM l with
 |false=>
  rw[if_neg (by simp)];refine ah.cond (v:=true) (by dsimp[Fr.ev,Fr.get,nth,V.look];rfl) (λ_=>?_) (λh=>by cases h);exact M 4 trivial
 |true=>
  rw[if_pos rfl];refine M 2 ?_;obtain⟨bK,iS⟩:=oh hR;have eY:=Kx hR;generalize b8 l=t at*;have hct:=Q.jj t;rw[iS] at hct
  have hs:Eb t:=⟨bK,(Q.cK t).2 (λn hn=>by rw[iS] at hn;exact eY n hn),(Q.cK t).2 (λn hn=>by rw[iS] at hn;exact⟨(hv n hn).1,(hv n hn).2.1⟩)⟩
  obtain⟨d9,UN,nh,z,Mh,hzo,Vo,O⟩:=Cq hl hv hx t.dF t (μ _) GB bK 0 (by rw[iS];exact g_.all _) hF O;obtain⟨zx,jP⟩:=Tz.lit hzo;rw[Mh,jP] at nh;refine G 3 ?_;refine Qb0 rfl rfl nh (ae rfl _) ?_;refine M 7 λk3 U A7 O U O=>?_;obtain⟨d8,st8,Wz,y,hd8,BA,Hd,hH8⟩:=vA z.t.dF z (μ _) (by rw[Vo];omega) (by rw[Vo];exact hs) hzo hF (Has.swap (hk:=[]) (hp:=[_]) (C:=z.E) O);rw[Vo] at Hd;have nu:=hs.dF
  have YD:Has Y.bs.length S st8 ([]++y.E):=by
   have h9:=hH8.take y.E.length;rw[φ (μ _),υ] at h9;exact h9
  have hli:=q_ y.t.dF y.t (μ _) (by rw[Hd];omega) (by rw[Hd];exact hs.fa) st8 y.c (BA.rd (hk:=[]) YD);rw[Hd,Ia hs GB] at hli;rw[jP,hd8] at Wz;refine M (t:=(Ev.le le Wz)) 4 ?_;have O:=hH8;exact M (t:=(Ev.le le hli)) 3 trivial
end Go.Proofs.YtappgjdiplibbaaGreat.K
