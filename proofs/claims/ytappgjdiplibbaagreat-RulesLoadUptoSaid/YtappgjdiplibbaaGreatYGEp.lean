/-
 rules.Load.
-/
import Derived.Test.YtappgjdiplibbaaGreatYGHs
import Derived.Test.YtappgjdiplibbaaGreatYGTe
import Derived.Test.YtappgjdiplibbaaGreatYGQg
import Derived.Test.YtappgjdiplibbaaGreatYGUe
import Derived.Test.YtappgjdiplibbaaGreatYSrf
import Derived.Test.YtappgjdiplibbaaGreatYGPb
import Derived.Test.YtappgjdiplibbaaGreatRows
import Derived.Test.YtappgjdiplibbaaGreatYM3
import Derived.Test.YtappgjdiplibbaaGreatYGCa
set_option maxRecDepth 100000
set_option maxHeartbeats 4000000
set_option linter.all false
open List renaming length_append->γ,length_map->ε,getElem?_eq_getElem->ζ,length_cons->η,getElem?_set_self->κ,length_nil->μ,mem_of_getElem?->π,drop_eq_getElem_cons->ρ,append_assoc->ς,mem_cons->τ,drop_eq_nil_of_le->υ,foldl->φ,mem_singleton->Γ,map_set->Δ,set_set->Θ,not_mem_nil->Φ,map_append->Ψ,getElem?_eq_some_iff->Ω,mem_map->IT,mem_cons_of_mem->AI,mem_cons_self->Qa0,take_length->Qa3,append_nil->Qa4,length_set->Qa5,mem_append->Qa6,map_map->Qaa
open Nat renaming le_of_ble_eq_true->δ,reduceAdd->θ,mod_eq_of_lt->Qa7,le_of_lt->Qab,le_refl->Qac
open Bool renaming and_left_comm->ι,and_assoc->ν,and_eq_true->ξ,and_comm->ο,or_eq_true->χ,and_eq_true_iff->ψ,true_and->BY,not_and->IS,and_eq_false_iff->OF,and_false->Qa9
open Go.V.D renaming cells->ω
open Go.V renaming Rows->Ξ
open BitVec renaming ofInt_natCast->IN,toNat_ofNat->AT,ofInt->Qa8
open Go.V.u renaming jw->Qa1,uB->Qa2,ti->Qad,nil->Qae
open Go.V.mc renaming mem->zm
open Go.V.D renaming agg->y4,bool->wt,int->J,nul->j5,ptr->yv,str->yR
open Go.V.aX renaming box->x4
open Or renaming inl->xR,inr->j4
open Go.IntKind renaming i64->W
namespace Go.Proofs.YtappgjdiplibbaaGreat
open Go.V Go
def Uj.zD {hk hp:Prop} (e:hk->hp:=by intro h;dsimp only[u2,u1,u3,u4,setMany,u5,u6,D.cells,Nat.reduceAdd,cD] at h;exact h):hk->hp:=e
variable{Y:St}{x:D}{l:List jm}{cont:List UInt8}
def w_ (hx:Ξ Y 2 x (l.map cD)) (hl:l.length<=1048576):Ev pv 17 [y4 [x,yR cont]] Y (y4 [rn l,yR cont]) Y:=by
 open Uj in
 have NB:=gX hx;refine zM acD λS aP hF O=>?_;have wy:=Arg.of hx aP;refine M 5 λk1 U jo O k2 U jn O=>?_;have O:Has Y.bs.length S U (.ai j5 2 (([]:List jm).map cD)::_::_::[]):=O.cY 2;refine G 4 ?_;refine y5 O aV (Arg.rows wy O) (by simp only[ε,μ];omega) (λk A=>by simp only[D.ref] at A;omega) λx5 U gb O=>?_;dsimp[u1,u2,u6,u4] at O;refine G 1 ?_;refine qT O dh (λU O=>?_) (hcs:=O.dv aV);dsimp[u2,u1,u3,u4,setMany,u5,u6,ω,θ,cD] at O;refine G 1 ?_;have O:Has Y.bs.length S U (.ai x5 2 (l.map cD)::x4 k2 (zm 0 false [j5,yR []])::x4 k1 (zm 0 false [x5,yR cont])::[]):=O;refine M 5 λU O=>?_;have htl:=KU l;have hfz:=O.uZ (L:=Y.bs.length) (n:=15) aV (λk A=>by rw[<-aP];exact gb k A) htl.1 AN;rw[htl.2] at hfz;refine ah.ret ⟨rx,_,O.bm rfl bf rfl,rl aP O ?_⟩;show(cE (aB U Y.bs.length false 15) [x5,yR cont]).map D.agg=_;simp only[cE,hfz]
 rfl
variable{parts:List (List aQ)}
def GO (h:∀l∈parts,(∀n∈l,ki n)/\l.length<=500):∀r∈parts.map (λl=>(⟨jO l,l⟩:Nl)),r.ok:=by
 intro r hr;obtain⟨l,hl,rfl⟩:=IT.1 hr;exact U8 (h l hl).1 (by have:=(h l hl).2;omega)
def DS {y:D} (h:∀l∈parts,(∀n∈l,ki n)/\l.length<=500) (hl:parts.length<=1048576) (hy:Ξ Y 1 y (parts.map cU)):Ev pv 19 [y] Y (po (bq parts)) Y:=by
 have hr:(parts.map (λl=>(⟨jO l,l⟩:Nl))).map Nv=parts.map cU:=by rw[Qaa];rfl
 have h1:=FU (Y:=Y) (x:=y) (rules:=parts.map (λl=>(⟨jO l,l⟩:Nl))) (by rw[hr];exact hy) (GO h) (by rw[ε];exact hl);have X:(parts.map (λl=>(⟨jO l,l⟩:Nl))).map (·.l)=parts:=by rw[Qaa];exact List.map_id _
 rwa [X] at h1
noncomputable def rB (l:List jm) (cont:List UInt8):Except (Int×Int) (List gI×gk×gk):=
 if 8<l.length then .error (13,8)
 else match bX l 0 [] [] with
 | .error r=>.error (r.1,(r.2:Nat))
 | .ok r=>
  if cont≠[]/\(aT cont).2.1≠0 then .error ((aT cont).2.1,(l.length:Nat))
  else if(bq r.2).e≠0 then .error ((bq r.2).e,(bq r.2).w)
  else if cont≠[]/\(bq [bO (aT cont).1]).e≠0 then .error ((bq [bO (aT cont).1]).e,(l.length:Nat))
  else .ok (r.1,bq r.2,if cont=[] then⟨[],[],0,0⟩ else bq [bO (aT cont).1])
def tP:∀(l:List jm) (i:Nat) (T:List gI) (out:List (List aQ)) (r:Int×Nat),bX l i T out=.error r->r.1≠0
 |[],i,T,out,r,h=>by cases h
 |p::l,i,T,out,r,h=>by
  unfold bX at h
  split at h;·cases h;show(14:Int)≠0;decide
  split at h;·cases h;show(8:Int)≠0;decide
  split at h;next he=>cases h;exact he
  exact tP l _ _ _ r h
def mz (Y:St):∀(l:List jm) (i:Nat) (T:List gI) (out:List (List aQ)) (r:List gI×List (List aQ)),(∀p∈l,p.fit)->(∀l∈out,(∀n∈l,ki n)/\l.length<=500)->bX l i T out=.ok r->(∀l∈r.2,(∀n∈l,ki n)/\l.length<=500)/\r.2.length=out.length+l.length
 |[],i,T,out,r,hf,ho,h=>by cases h;exact⟨ho,rfl⟩
 |p::l,i,T,out,r,hf,ho,h=>by
  unfold bX at h
  split at h;·cases h
  split at h;·cases h
  split at h;·cases h
  have ta:=(jN (Y:=Y) (b:=p.tx) (hf p (Qa0 ..)).2).2;have hs:=om ta.1 ta.2
  obtain⟨h1,X⟩:=mz Y l _ _ _ r (λq hq=>hf q (AI _ hq)) (λk A=>by
   rcases Qa6.1 A with A|A
   .exact ho k A
   rw[Γ.1 A];exact hs) h
  refine⟨h1,?_⟩;rw[X,γ,η];simp only[η,μ];omega
def Kq (l:List jm) (cont:List UInt8) (af C:gk) (kt:Nat):List D:=[rn l,yR cont]++(Au af.code af.aN).cs++(if cont=[] then[j5,j5] else(Au C.code C.aN).cs)++[yv kt 0 0]
def Vh (N:Nat) (S U:St) (H:List aX) (l:List jm) (cont:List UInt8) (d:D):Except (Int×Int) (List gI×gk×gk)->Prop
 | .error r=>d=.tup [.pnil,J W r.1,J W r.2]/\r.1≠0/\Has N S U H
 | .ok r=>∃k kt xt,d=.tup [yv k 0 0,J W 0,J W 0]/\Has N S U (x4 k (zm 0 false (Kq l cont r.2.1 r.2.2 kt))::x4 kt (zm 0 false [xt])::.ai xt 2 (r.1.map dV)::H)
variable{S:St}
def OJ {N:Nat} {H:List aX} (hF:S.flr<=N) (hx:Arg N S 2 x (l.map cD)) (hl:l.length<=100) (gS:∀p∈l,p.fit) (hcl:cont.length<=1048576) (O:Has N S Y H):
  ∃d R,Ev pv 5 [y4 [x,yR cont]] Y d R/\Vh N S R H l cont d (rB l cont):=by
 have NB:=gX hx.1;refine Ev.sv rfl fi5 rfl rfl rfl ?_;refine zE ?_;change ah _ _ _ _ Y _;refine M 15 λk1 U jo O=>?_;unfold rB
 by_cases h8:8<l.length
 .have hc:decide ((l.length:Int)>8)=true:=by rw[decide_eq_true_eq];omega
  rw[if_pos h8];refine vX ?_;refine M 7 ?_;exact⟨rfl,by decide,O.drop 1⟩
 have hc:decide ((l.length:Int)>8)=false:=by rw[decide_eq_false_iff_not];omega
 rw[if_neg h8];refine vY ?_;refine G 1 ?_;obtain⟨d,st1,aK,hP⟩:=Is (cont:=cont) hF hx hl gS O
 cases nf:bX l 0 [] [] with
 |error r=>
  rw[nf] at hP;obtain⟨rfl,ub⟩:=hP;have hr:=tP _ _ _ _ _ nf;have h_:(r.1 !=0)=true:=by simpa using hr
  refine M 4 ?_;have O:=ub;refine G 16 ?_;refine vX ?_;refine M 9 ?_;exact⟨rfl,hr,O.drop 1⟩
 |ok r=>
  rw[nf] at hP;obtain⟨y,kt,xt,rfl,ub⟩:=hP;obtain⟨T,out⟩:=r;obtain⟨LZ,O6⟩:=mz Y _ _ _ _ _ gS (by intro k A;cases A) nf;dsimp only at LZ O6 ub|-;have JE:out.length=l.length:=by rw[O6];simp
  refine M 4 ?_;have O:=ub;refine M 18 ?_;have Hr:=λU (h:Ξ U 2 x (l.map cD))=>w_ (Y:=U) (cont:=cont) h GB;refine M (t:=(Hr _ (hx.rows O))) 5 ?_;refine qg (d:=y4 [rn l,yR cont,j5,j5,j5,j5,yv kt 0 0]) ?_;refine M 14 λk30 U aaX O=>?_;have ta:=λU=>jN (Y:=U) (b:=cont) hcl;have AV:=(ta Y).2;refine ah.merge (λI U=>∃(cd:D) (tmp:List (Nat×D)),I=⟨11,[ay I 0,yv k1 0 0,ay I 2,ay I 3,ay I 4,y,yv kt 0 0,ay I 7,ay I 8,yv k30 0 0,cd],tmp⟩/\Has N S U (x4 k30 (zm 0 false [rn l,yR cont,j5,j5,j5,j5,yv kt 0 0])::x4 kt (zm 0 false [xt])::.ai xt 2 (T.map dV)::.ai y 1 (out.map cU)::x4 k1 (zm 0 false [x,yR cont])::H)/\(cont≠[]->(aT cont).2.1=0/\cd=jO (aT cont).1)) ?_ ?_
  .by_cases nu:cont=[]
   .have c_:(!(cont==[]))=false:=by rw[nu];rfl
    refine M 2 ?_;exact⟨j5,_,rfl,O,(λh=>absurd nu h)⟩
   have c_:(!(cont==[]))=true:=by simpa using nu
   refine M 5 ?_;refine u.dP rfl rfl (ta _).1 (ae rfl _) ?_;refine G 12 ?_
   by_cases he:(aT cont).2.1=0
   .have ua:((aT cont).2.1 !=0)=false:=by rw[he];rfl
    refine vY ?_;refine G 1 ?_;exact⟨jO (aT cont).1,_,rfl,O,(λ_=>⟨he,rfl⟩)⟩
   have ua:((aT cont).2.1 !=0)=true:=by simpa using he
   rw[if_pos ⟨nu,he⟩];refine vX ?_;refine M 11 ?_;exact⟨rfl,he,O.drop 5⟩
  rintro I U ⟨cd,tmp,hfr,O,ux⟩;refine zK λee=>?_;rw[if_neg (λh=>h.2 (ux h.1).1)];have hcm:=λU (h:Ξ U 1 y (out.map cU))=>DS LZ GB h;refine M (t:=(hcm _ (O.rows d_))) 21 λU O=>?_
  by_cases ua:(bq out).e=0
  .have hcb:((bq out).e !=0)=false:=by rw[ua];rfl
   rw[if_neg (λh=>h ua)];refine vY ?_;refine G 8 ?_
   by_cases nu:cont=[]
   .have c_:(!(cont==[]))=false:=by rw[nu];rfl
    rw[if_neg (λh=>h.1 nu),if_pos nu];refine M 10 ?_;refine⟨k30,kt,xt,rfl,?_⟩;unfold Kq;rw[if_pos nu];exact(O.erase 3).erase 3
   have c_:(!(cont==[]))=true:=by simpa using nu
   obtain⟨he,rfl⟩:=ux nu;have JG:=λU=>CU (Y:=U) (iq AV.1) AV.1 AV.2;have Vs:=om AV.1 AV.2;have SC:=λU (z:D) (h:Ξ U 1 z ([bO (aT cont).1].map cU))=>DS (parts:=[bO (aT cont).1]) (λk A=>by rw[Γ.1 A];exact Vs) (by simp) h;refine M (t:=(JG _)) 7 λk67 U aaN O=>?_;refine M (t:=(SC _ _ (O.rows aV))) 15 λU O=>?_
   by_cases h_:(bq [bO (aT cont).1]).e=0
   .have FE:((bq [bO (aT cont).1]).e !=0)=false:=by rw[h_];rfl
    rw[if_neg (λh=>h.2 h_),if_neg nu];refine vY ?_;refine M 9 ?_;refine⟨k30,kt,xt,rfl,?_⟩;unfold Kq;rw[if_neg nu];exact((O.drop 1).erase 3).erase 3
   have FE:((bq [bO (aT cont).1]).e !=0)=true:=by simpa using h_
   rw[if_pos ⟨nu,h_⟩];refine vX ?_;refine M 11 ?_;exact⟨rfl,h_,O.drop 6⟩
  have hcb:((bq out).e !=0)=true:=by simpa using ua
  rw[if_pos ua];refine vX ?_;refine M 9 ?_;exact⟨rfl,ua,O.drop 5⟩
def J8 {d:D} {b:List UInt8} (hx:Ξ Y 1 x [[d]]) (hd:Ξ Y 1 d (V.byteCells b)) (hl:b.length<=1000000000000):Ev pv 34 [x] Y (lJ (n3 0#32 b)) Y:=by
 refine zM acq λS aP hF O=>?_;have hx:=Arg.of hx aP;have hd:=Arg.of hd aP;refine M 16 ?_;refine ah.loop (λmm I U=>∃(i:Nat) (c:BitVec 32),I.clean=fL I 9 [(3,lJ c),(2,x),(0,J W 1),(0,J W (i:Nat))]/\Has Y.bs.length S U []/\(i+mm=1)/\(c=if i=0 then 0#32 else n3 0#32 b)) (1) ?_ ?_;·exact⟨0,0#32,rfl,O,by omega,rfl⟩
 rintro mm I U ⟨i,c,hfr,O,hi,hc⟩;refine zK λee=>?_;refine G 5 ?_;refine zP (λhlt=>?_) λhlt=>?_
 .refine G 1 ?_;have hi0:i=0:=by omega
  subst hi0;have dO:([[d]]:List (List D))[0]?=some [d]:=rfl;refine M 8 λYy VX=>?_;have hc:c=0#32:=hc;subst hc;refine M (t:=(Qi (hd.rows O) hl _)) 10 ?_;exact⟨0,by omega,⟨1,n3 0#32 b,rfl,O,by omega,rfl⟩⟩
 refine G 1 ?_;rw[if_neg GB] at hc;subst hc;exact M 5 trivial
def QF (aa v:BitVec 32):Int:=(((aa.toNat*65536)|||(v &&&65535#32).toNat:Nat):Int)
def zZ (aa:BitVec 32) (U:St):pk pv 83 3 (lJ aa) U=some (J W (aa.toNat:Nat),U):=by
 show some (D.int W (aR W (aa.toNat:Nat)),U)=_;rw[b7 (by simp[iQ];have:=aa.isLt;omega)]
def B6 (aa:BitVec 32) (U:St):(iC pv .shl 3 (J W (aa.toNat:Nat)) (J .u64 16)).map (λd=>(d,U))=some (J W ((aa.toNat*65536:Nat):Int),U):=by
 show Option.map _ (some (D.int W (aR W ((aa.toNat:Nat)*2^16))))=_;rw[show(aa.toNat:Int)*2^16=((aa.toNat*65536:Nat):Int) by omega,b7 (by simp[iQ];have:=aa.isLt;omega)];rfl
def U2 (a b:Nat) (ha:a<2^48) (F:b<2^48) (U:St):(iC pv .or 3 (J W (a:Nat)) (J W (b:Nat))).map (λd=>(d,U))=some (J W ((a|||b:Nat):Int),U):=by
 show Option.map _ (some (D.int W (aR W ((Qa8 64 (a:Nat)|||Qa8 64 (b:Nat)).toNat:Nat))))=_;have hlt:=Nat.or_lt_two_pow ha F;rw[IN,IN,BitVec.toNat_or,AT,AT,Qa7 GB,Qa7 GB,b7 (by simp[iQ];omega)];rfl
def Ht (aa v:BitVec 32) (U:St):(iC pv .or 3 (J W ((aa.toNat*65536:Nat):Int)) (J W ((v &&&65535#32).toNat:Nat))).map (λd=>(d,U))=some (J W (QF aa v),U):=
 U2 _ _ (by have:=aa.isLt;omega) (by have:=(v &&&65535#32).isLt;omega) U
def Nb {l:List gI} {key:List UInt8} (h:ck l key=true):∃r,l[bc l key]?=some r:=by
 unfold ck at h;rw[ξ,decide_eq_true_eq] at h;exact⟨l[bc l key]'h.1,ζ _⟩
def Rj {k:Nat} {c:List D} (F:Y.bs[k]?=some (zm 0 false c)) (aP:S.bs=Y.bs):∀{U:St} {H:List aX},Has Y.bs.length S U H->iW U (yv k 0 0) c:=λ{U H} h=>by
 refine xR ⟨k,0,0,false,c,rfl,?_,by rw[List.drop_zero,Qa3]⟩;unfold St.cp;rw[h.ex.low k (Ω.1 F).1,aP,F];simp
def oz (U:St) (l:List jm):Ξ U 2 (rn l) (l.map cD):=by
 unfold rn;refine Rows.nM ?_ ?_;·intro e he;obtain⟨q,_,rfl⟩:=IT.1 he;rfl
 intro e he d hd;obtain⟨q,_,rfl⟩:=IT.1 he;simp[cD] at hd
 rcases hd with rfl|rfl<;>rfl
def Ik {kr kt:Nat} {c1 c2 c3 c4:D} (F:Y.bs[kr]?=some (zm 0 false [rn l,yR cont,c1,c2,c3,c4,yv kt 0 0])):Ev pv 13 [yv kr 0 0] Y (J W (l.length:Nat)) Y:=by
 have Ef:=λU=>oz U l;refine zM acH λS aP hF O=>?_;refine G 4 ?_;have sA:=Rj F aP O;refine G 3 ?_;refine qg (d:=yv kr 0 0) ?_;refine u.ou (fo:=0) (m:=1) rfl Pd sA rfl rfl (λ_=>(ae rfl _)) (λYx LW=>?_);refine u.ou (fo:=0) (m:=0) rfl Pd LW rfl rfl (λ_=>(ae rfl _)) (λRo Dj=>?_);refine u.nF (d:=rn l) rfl Pd Dj rfl (ae rfl _) ?_;refine u.pB rfl Pd (Ef _) rfl (ae rfl _) ?_;refine G 2 ?_;rw[ε];exact M 0 trivial
def MY {H:Type} (d:DataW H):1<=Rows.uptoBulk d:=by
 cases d with
 |lit l=>cases l<;>simp[Rows.uptoBulk]
 |_=>simp[Rows.uptoBulk]
def MZ {H:Type} (l:List (DataW H)):l.length<=Rows.uptoBulkAll l:=by
 induction l with
 |nil=>simp[Rows.uptoBulkAll]
 |cons x r ih=>have:=MY x;simp only[Rows.uptoBulkAll,η];omega
open Go.V Go Go.RowKit
variable{H:Type} {enc:TypeId×Value->H} {w:World} {spare:Nat->Bool} {held:Bool} {d:DataW H}
def M1 {H:Type} {l:List (DataW H)} {x:DataW H} (h:x∈l):Rows.uptoBulk x<=Rows.uptoBulkAll l:=by
 induction l with
 |nil=>cases h
 |cons y l ih=>
  simp[Rows.uptoBulkAll]
  rcases τ.1 h with rfl|h
  .omega
  have:=ih h;omega
end Go.Proofs.YtappgjdiplibbaaGreat
namespace Go.Proofs.YtappgjdiplibbaaGreat
open Go.V Go Go.RowKit
structure PU where
 x:D
 l:List jm
 c:List UInt8
def PU.d (s:PU):D:=y4 [s.x,yR s.c]
structure PU.ok (s:PU):Prop where
 hx:fJ s.x 2 (s.l.map cD)
 ln:s.l.length<=1048576
 fit:∀p∈s.l,p.fit
 hc:s.c.length<=1048576
variable{H:Type} {enc:TypeId×Value->H} {w:World} {spare:Nat->Bool} {held:Bool} {d:DataW H}
def PN (h:Rd enc Tryz.prog w spare held 34 d):∃p:jm,(ku d).cells?=some (ku d).cells/\(ku d).cells=cD p/\p.nm.length<=Rows.uptoBulk d/\p.tx.length<=Rows.uptoBulk d:=by
 obtain⟨parts,rfl,B⟩:=h.struct Tryz.underlying34
 cases B with
 |cons a B=>cases B with
  |cons b B=>cases B with
   |nil=>
    obtain⟨x,rfl⟩:=a.string Tryz.underlying9;obtain⟨y,rfl⟩:=b.string Tryz.underlying9;refine⟨⟨x,y⟩,rfl,rfl,?_,?_⟩<;>simp only[Rows.uptoBulk,Rows.uptoBulkAll]<;>omega
def PM (h:Rd enc Tryz.prog w spare held 24 d):∃s:PU,ku d=s.d/\(Rows.uptoBulk d<=1048576->s.ok):=by
 obtain⟨parts,rfl,B⟩:=h.struct Tryz.underlying24
 cases B with
 |cons a2 B=>cases B with
  |cons b2 B=>cases B with
   |nil=>
    rename_i d3 d4;obtain⟨y,rfl⟩:=b2.string Tryz.underlying9
    rcases a2.slice Tryz.underlying22 with rfl|⟨elems,rest,rfl,he⟩
    .refine⟨⟨j5,[],y⟩,rfl,λF=>⟨xR ⟨rfl,rfl⟩,by simp,λp B=>(by cases B),?_⟩⟩;simp only[Rows.uptoBulk,Rows.uptoBulkAll] at F;show y.length<=_;omega
    obtain⟨l,h1,X,h3⟩:=UO (s:=2) (f:=cD) (Tr:=λ(p:jm) x=>p.nm.length<=Rows.uptoBulk x/\p.tx.length<=Rows.uptoBulk x) (rest:=rest) λx hx=>by
     obtain⟨p,g1,g2,g3,g4⟩:=PN (he x hx);exact⟨p,g1,g2,rfl,g3,g4⟩
    refine⟨⟨_,l,y⟩,rfl,λF=>⟨h1,?_,λp B=>?_,?_⟩⟩;·have:=MZ elems;simp only[Rows.uptoBulk,Rows.uptoBulkAll] at F;show l.length<=_;omega
    .obtain⟨x,hx,h4,h5⟩:=h3 p B;have:=M1 hx;simp only[Rows.uptoBulk,Rows.uptoBulkAll] at F;exact⟨by omega,by omega⟩
    simp only[Rows.uptoBulk,Rows.uptoBulkAll] at F;show y.length<=_;omega
end Go.Proofs.YtappgjdiplibbaaGreat
namespace Go.Proofs.YtappgjdiplibbaaGreat
open Go.V Go
noncomputable def ew (n:aQ):Int×Bool:=
 if n.op=1\/n.op=7\/n.op=8 then(0,(n.kids==0) &&bD n)
 else if n.op=2 then(0,nG n.rs &&((n.kids==0) &&bD n))
 else if n.op=3\/n.op=4 then(n.kids,decide (n.kids>=2) &&bD n)
 else if n.op=5 then(1,((((decide (0<=n.mn) &&decide (n.mn<=30)) &&decide (n.mx<=30)) &&decide (-1<=n.mx)) &&(decide (n.mx<0)||decide (n.mn<=n.mx))) &&((n.kids==1) &&bD n))
 else if n.op=6 then(1,(decide (1<=n.cap) &&decide (n.cap<=4)) &&((n.kids==1) &&bD n))
 else(0,false)
def jf (h:Nat->Option Nat):Nat->Nat->Option Nat
 |0,at_=>some at_
 |k+1,at_=>match h at_ with
  |some j=>jf h k j
  |none=>none
noncomputable def eu (l:List aQ):Nat->Nat->Option Nat
 |0,_=>none
 |f+1,at_=>match l[at_]? with
  |none=>none
  |some n=>if(ew n).2=true then jf (eu l f) (ew n).1.toNat (at_+1) else none
def fv:List aQ->Nat->Option Nat
 |[],g=>some g
 |n::l,g=>if n.op=6 then(if n.cap=((g+1:Nat):Int) then fv l (g+1) else none) else fv l g
def oR:∀(a b:List aQ) (g:Nat),fv (a++b) g=(fv a g).bind (fv b)
 |[],b,g=>rfl
 |n::a,b,g=>by
  rw[List.cons_append];unfold fv
  split
  .split;·exact oR a b _
   rfl
  exact oR a b _
variable{n:aQ}{g:Nat}
def B9:(ey n (g:Nat)).2=true↔(ew n).2=true/\(n.op=6->n.cap=((g+1:Nat):Int)):=by
 unfold ey ew
 cases B:bD n with
 |false=>
  rw[if_pos rfl];simp only[Qa9];constructor;·intro h;cases h
  rintro⟨h,_⟩
  (repeat' split at h)<;>simp at h
 |true=>
  rw[if_neg (by simp)];simp only[Bool.and_true]
  by_cases h1:n.op=1\/n.op=7\/n.op=8;·rw[if_pos h1,if_pos h1];exact⟨λh=>⟨h,λh6=>by omega⟩,λh=>h.1⟩
  rw[if_neg h1,if_neg h1]
  by_cases X:n.op=2;·rw[if_pos X,if_pos X];simp only[ξ,beq_iff_eq];exact⟨λh=>⟨⟨h.2,h.1⟩,λh6=>by omega⟩,λh=>⟨h.1.2,h.1.1⟩⟩
  rw[if_neg X,if_neg X]
  by_cases h3:n.op=3\/n.op=4;·rw[if_pos h3,if_pos h3];exact⟨λh=>⟨h,λh6=>by omega⟩,λh=>h.1⟩
  rw[if_neg h3,if_neg h3]
  by_cases h5:n.op=5
  .rw[if_pos h5,if_pos h5];simp only[ξ,χ,beq_iff_eq,decide_eq_true_eq];constructor;·intro h;refine⟨⟨⟨⟨⟨⟨?_,?_⟩,?_⟩,?_⟩,?_⟩,?_⟩,λh6=>by omega⟩<;>omega
   rintro⟨h,_⟩;refine⟨⟨⟨?_,?_⟩,?_⟩,?_⟩<;>omega
  rw[if_neg h5,if_neg h5]
  by_cases h6:n.op=6
  .rw[if_pos h6,if_pos h6];simp only[ξ,beq_iff_eq,decide_eq_true_eq];constructor;·intro h;exact⟨⟨⟨by omega,h.2⟩,h.1.1⟩,λ_=>by omega⟩
   rintro⟨h,h7⟩;have:=h7 h6;exact⟨⟨h.2,by omega⟩,h.1.2⟩
  rw[if_neg h6,if_neg h6];exact⟨λh=>(by cases h),λh=>(by cases h.1)⟩
def vu (h:(ey n (g:Nat)).2=true):(ey n (g:Nat)).1=(ew n).1:=by
 unfold ey at h|-;unfold ew
 cases B:bD n with
 |false=>rw[B,if_pos rfl] at h;cases h
 |true=>
  rw[if_neg (by simp)]
  repeat' split
  all_goals rfl
variable{l:List aQ}{a:Nat}
def Cb {j:Nat} (h:l[a]?=some n) (hj:a<j):(l.drop a).take (j-a)=n::(l.drop (a+1)).take (j-(a+1)):=by
 have hlt:=cI h
 have he:l.drop a=n::l.drop (a+1):=by
  rw[ρ hlt];congr 1;rw[ζ hlt] at h;exact Option.some.inj h
 rw[he,show j-a=(j-(a+1))+1 by omega,List.take_succ_cons]
def Gr {b c:Nat} (h1:a<=b) (X:b<=c):(l.drop a).take (c-a)=(l.drop a).take (b-a)++(l.drop b).take (c-b):=by
 have e1:c-a=(b-a)+(c-b):=by omega
 have e2:l.drop b=(l.drop a).drop (b-a):=by rw[List.drop_drop];congr 1;omega
 rw[e1,List.take_add,e2]
def wh {h:Nat->Option Nat} (ih:∀a j,h a=some j->a<=j):∀k a j,jf h k a=some j->a<=j
 |0,a,j,e=>by simp[jf] at e;omega
 |k+1,a,j,e=>by
  unfold jf at e
  cases hq:h a with
  |none=>rw[hq] at e;cases e
  |some q=>rw[hq] at e;have:=ih _ _ hq;have:=wh ih k _ _ e;omega
def qN {l:List aQ}:∀f a j,eu l f a=some j->a<j
 |0,_,_,e=>by cases e
 |f+1,a,j,e=>by
  unfold eu at e
  cases hn:l[a]? with
  |none=>rw[hn] at e;cases e
  |some n=>
   rw[hn] at e;simp only at e
   split at e;·have:=wh (λa j h=>Qab (qN f a j h)) _ _ _ e;omega
   cases e
def C7 {l:List aQ} {h:Nat->Nat->Option (Nat×Nat)} {h':Nat->Option Nat} (ih:∀a g r,h a g=some r->h' a=some r.1/\a<=r.1/\fv ((l.drop a).take (r.1-a)) g=some r.2):
  ∀k a g r,iJ h k a g=some r->jf h' k a=some r.1/\a<=r.1/\fv ((l.drop a).take (r.1-a)) g=some r.2
 |0,a,g,r,e=>by
  simp[iJ] at e;subst e;exact⟨rfl,Qac _,by simp[fv]⟩
 |k+1,a,g,r,e=>by
  unfold iJ at e
  cases hq:h a g with
  |none=>rw[hq] at e;cases e
  |some q=>
   rw[hq] at e;obtain⟨t1,t2,t3⟩:=ih _ _ _ hq;obtain⟨u1,u2,u3⟩:=C7 ih k _ _ _ e;refine⟨by unfold jf;rw[t1];exact u1,by omega,?_⟩;rw[Gr t2 u2,oR,t3];exact u3
def GG {l:List aQ}:∀f a g r,il l f a g=some r->eu l f a=some r.1/\a<=r.1/\fv ((l.drop a).take (r.1-a)) g=some r.2
 |0,_,_,_,e=>by simp[il] at e
 |f+1,a,g,r,e=>by
  unfold il at e
  cases hn:l[a]? with
  |none=>rw[hn] at e;cases e
  |some n=>
   rw[hn] at e;simp only at e
   split at e
   .rename_i hs;rw[vu hs] at e;obtain⟨u1,u2,u3⟩:=C7 (GG f) _ _ _ _ e;obtain⟨v1,v2⟩:=B9.1 hs;refine⟨by unfold eu;rw[hn];simp only;rw[if_pos v1];exact u1,by omega,?_⟩;rw[Cb hn GB];unfold fv
    split;next h6=>rw[if_pos (v2 h6)];rw[if_pos h6] at u3;exact u3
    rename_i h6;rw[if_neg h6] at u3;exact u3
   cases e
def C8 {l:List aQ} {h:Nat->Nat->Option (Nat×Nat)} {h':Nat->Option Nat} (hle:∀a j,h' a=some j->a<=j) (ih:∀a g j g',h' a=some j->fv ((l.drop a).take (j-a)) g=some g'->h a g=some (j,g')):
  ∀k a g j g',jf h' k a=some j->fv ((l.drop a).take (j-a)) g=some g'->iJ h k a g=some (j,g')
 |0,a,g,j,g',e,hc=>by
  simp[jf] at e;subst e;simp[fv] at hc;subst hc;rfl
 |k+1,a,g,j,g',e,hc=>by
  unfold jf at e
  cases hq:h' a with
  |none=>rw[hq] at e;cases e
  |some q=>
   rw[hq] at e;have t2:=hle _ _ hq;have u2:=wh hle _ _ _ e;rw[Gr t2 u2,oR] at hc
   cases oW:fv ((l.drop a).take (q-a)) g with
   |none=>rw[oW] at hc;cases hc
   |some g2=>
    rw[oW] at hc;have hc:fv ((l.drop q).take (j-q)) g2=some g':=hc;unfold iJ;rw[ih _ _ _ _ hq oW];exact C8 hle ih k _ _ _ _ e hc
def GH {l:List aQ}:∀f a g j g',eu l f a=some j->fv ((l.drop a).take (j-a)) g=some g'->il l f a g=some (j,g')
 |0,_,_,_,_,e,_=>by cases e
 |f+1,a,g,j,g',e,hc=>by
  have hlt:=qN _ _ _ e;unfold eu at e
  cases hn:l[a]? with
  |none=>rw[hn] at e;cases e
  |some n=>
   rw[hn] at e;simp only at e
   split at e
   .rename_i hs;rw[Cb hn hlt] at hc;unfold fv at hc
    have mK:n.op=6->n.cap=((g+1:Nat):Int):=λh6=>by
     rw[if_pos h6] at hc
     by_cases h7:n.cap=((g+1:Nat):Int);·exact h7
     rw[if_neg h7] at hc;cases hc
    have OW:=B9.2 ⟨hs,mK⟩
    have hc:fv ((l.drop (a+1)).take (j-(a+1))) (if n.op=6 then g+1 else g)=some g':=by
     by_cases h6:n.op=6;·rw[if_pos h6,if_pos (mK h6)] at hc;rw[if_pos h6];exact hc
     rw[if_neg h6] at hc;rw[if_neg h6];exact hc
    unfold il;rw[hn];simp only;rw[if_pos OW,vu OW];exact C8 (λa j h=>Qab (qN f a j h)) (GH f) _ _ _ _ _ e hc
   cases e
noncomputable def Ak (l:List aQ):Bool:=((decide (1<=l.length) &&decide (l.length<=480)) &&decide (eu l 241 0=some l.length)) &&(fv l 0).isSome
def Ic (l:List aQ):Ak l=eM l:=by
 unfold Ak eM;rw[ν]
 congr 1
 have QB:(l.drop 0).take (l.length-0)=l:=by simp
 cases h:il l 241 0 0 with
 |some r=>
  obtain⟨h1,X,h3⟩:=GG _ _ _ _ h;simp only;rw[h1]
  by_cases h4:r.1=l.length;·rw[h4] at h3;rw[QB] at h3;rw[h3];simp[h4]
  simp[h4]
 |none=>
  simp only
  by_cases h1:eu l 241 0=some l.length
  .cases X:fv l 0 with
   |none=>simp
   |some g=>
    have:=GH 241 0 0 l.length g h1 (by rw[QB];exact X);rw[h] at this;cases this
  simp[h1]
def pM:Option Nat->Int
 |some j=>(j:Int)
 |none=>-1
def yS {h:Nat->Option Nat} {L:Nat} (ih:∀a j,h a=some j->j<=L):∀k a j,a<=L->jf h k a=some j->j<=L
 |0,a,j,ha,e=>by simp[jf] at e;omega
 |k+1,a,j,ha,e=>by
  unfold jf at e
  cases hq:h a with
  |none=>rw[hq] at e;cases e
  |some q=>rw[hq] at e;exact yS ih k _ _ (ih _ _ hq) e
def xW {l:List aQ}:∀f a j,eu l f a=some j->j<=l.length
 |0,_,_,e=>by cases e
 |f+1,a,j,e=>by
  unfold eu at e
  cases hn:l[a]? with
  |none=>rw[hn] at e;cases e
  |some n=>
   have:=cI hn;rw[hn] at e;simp only at e
   split at e;·exact yS (xW f) _ _ _ GB e
   cases e
variable{hk hp:Prop}
def Ug.zD (e:hk->hp:=by intro h;dsimp only[u2,u1,u3,u4,setMany,u5,u6,D.cells,Nat.reduceAdd,aO] at h;exact h):hk->hp:=e
def EZ {d:D} (hl:l.length<=1048576) (hi:∀n∈l,n.ok) (hd:fJ d 7 (l.map aO)):∀(f:Nat) {Y:St} {at_:Nat},f<=241->at_<=1048577->Ev pv 109 [d,J W (at_:Nat),J W ((241-f:Nat):Int)] Y (J W (pM (eu l f at_))) Y:=by
 open Ug in
 intro f
 induction f with
 |zero=>
  intro Y at_ hf ha;refine zM QJ λS aP hF O=>?_;have hc:=hd.arg Y.bs.length S;refine qq<|qj λK hK=>qm ?_;refine qe hK<|M 2 ?_;refine ah.ni 18 (wt (decide ((at_:Int)>=(l.length:Nat))||decide (((241-0:Nat):Int)>240))) [11,12,13,14,15,16,17] ?_ (λff tmp=>?_)
  .refine M 5 ?_;refine y2 15 (λfU=>?_) λfU=>?_
   .refine M 5 ?_
    all_goals(simp[fU];done)
   refine M 5 ?_
   all_goals(simp[fU];done)
  refine zd ?_;generalize ff 11=e11;generalize ff 12=e12;generalize ff 13=e13;generalize ff 14=e14;generalize ff 15=e15;generalize ff 16=e16;generalize ff 17=e17;refine zF ?_;have hT:(decide ((at_:Int)>=(l.length:Nat))||decide (((241-0:Nat):Int)>240))=true:=by simp
  rw[hT];refine M 2 ?_;refine qj λK hK=>qm ?_;refine qe hK ?_;exact M 0 trivial
 |succ f ih=>
  intro Y at_ hf ha
  suffices hg:∃d',Ev pv 109 [d,J W (at_:Nat),J W ((241-(f+1):Nat):Int)] Y d' Y/\d'=J W (pM (eu l (f+1) at_)) by
   obtain⟨_,h1,rfl⟩:=hg;exact h1
  refine zM QJ λS aP hF O=>?_;have hc:=hd.arg Y.bs.length S
  obtain⟨dp,hdp⟩:∃dp,241-(f+1)=dp:=⟨_,rfl⟩
  rw[hdp]
  obtain⟨af,hR⟩:∃af,eu l (f+1) at_=af:=⟨_,rfl⟩
  rw[hR];unfold eu at hR;refine qq<|qj λK hK=>qm ?_;refine qe hK<|M 2 ?_;refine ah.ni 18 (wt (decide ((at_:Int)>=(l.length:Nat))||decide ((dp:Int)>240))) [11,12,13,14,15,16,17] ?_ (λff tmp=>?_)
  .refine M 5 ?_;refine y2 15 (λfU=>?_) λfU=>?_
   .refine M 5 ?_
    all_goals(simp_all;done)
   refine M 5 ?_
   all_goals(simp_all;omega)
  dsimp only[aC,φ,nth,u2,u1];generalize ff 11=e11;generalize ff 12=e12;generalize ff 13=e13;generalize ff 14=e14;generalize ff 15=e15;generalize ff 16=e16;generalize ff 17=e17
  by_cases hlt:at_<l.length
  .obtain⟨n,hn⟩:∃n,l[at_]?=some n:=⟨l[at_]'hlt,ζ _⟩
   rw[hn] at hR;simp only at hR;have L1:=hi n (π hn);have rO:=L1.1.arg Y.bs.length S;have ma:=L1.2.1;have dO:=i_ hn;have Hi:=vS L1
   have Pn:(decide ((at_:Int)>=(l.length:Nat))||decide ((dp:Int)>240))=false:=by
    rw[decide_eq_false GB,decide_eq_false GB];rfl
   rw[Pn];refine M 3 ?_;refine qj λK hK=>M 3 λQc Dh=>?_;refine u.mr rfl Pd so rfl (by dsimp<;>rfl) ?_;refine M 2 λk7 U Wf O U O=>?_;refine qe hK<|qq<|qj λK hK=>M 4 ?_;refine u.go (d:=y4 [J W n.op,j5,J W 0,J W 0,wt false,J W 0,J W n.kids]) (st1:=_) rfl rfl rfl (by dsimp<;>rfl) ?_;refine M 2 λk8 U O' O U O=>?_;refine qe hK<|qq<|qj λK hK=>qm ?_;refine qe hK<|M 2 ?_;refine qj λK hK=>M 2 ?_;refine qe hK ?_;have mb:(ew n).2=false->af=none:=λh=>by rw[<-hR,if_neg (by rw[h];simp)]
   refine ah.merge (λI U=>∃(kd:Int) (bd:D) (T6:List Rg) (Yf Ye:Int) (Yg:Bool) (M9:Int) (tmp:List (Nat×D)),I=⟨30,[d,J W (at_:Nat),J W (dp:Nat),ay I 3,ay I 4,ay I 5,ay I 6,yv k7 0 0,yv k8 0 0,J W kd,ay I 10,ay I 11,ay I 12,ay I 13,ay I 14,ay I 15,ay I 16,ay I 17,ay I 18,ay I 19,ay I 20,ay I 21,ay I 22,ay I 23,ay I 24,ay I 25,ay I 26,ay I 27,ay I 28,ay I 29],tmp⟩/\Has Y.bs.length S U [x4 k8 (zm 0 false [J W n.op,bd,J W Yf,J W Ye,wt Yg,J W M9,J W n.kids]),x4 k7 (zm 0 false (aO n))]/\(fJ bd 2 (T6.map ak))/\(T6.length<=1048576)/\(bD n=(((((n.mn==Yf) &&(n.mx==Ye)) &&(n.lz==Yg)) &&(n.cap==M9)) &&((n.rs.length:Int)==(T6.length:Int))))/\(ew n=(kd,(n.kids==kd) &&bD n))) ?_ ?_
   .have hnil:fJ j5 2 (([]:List Rg).map ak):=xR ⟨rfl,rfl⟩
    have aak:n.op=1->bD n=(((((n.mn==0) &&(n.mx==0)) &&(n.lz==false)) &&(n.cap==0)) &&((n.rs.length:Int)==(((([]:List Rg).length:Nat)):Int))):=by
     intro h;unfold bD
     first
      |(simp[h];done)
      |(simp[h];cases n.lz<;>simp[ο,ν,ι])
    have aaj:n.op=2->bD n=(((((n.mn==0) &&(n.mx==0)) &&(n.lz==false)) &&(n.cap==0)) &&((n.rs.length:Int)==(n.rs.length:Int))):=by
     intro h;unfold bD
     first
      |(simp[h];done)
      |(simp[h];cases n.lz<;>simp[ο,ν,ι])
    have aai:n.op=6->bD n=(((((n.mn==0) &&(n.mx==0)) &&(n.lz==false)) &&(n.cap==n.cap)) &&((n.rs.length:Int)==(((([]:List Rg).length:Nat)):Int))):=by
     intro h;unfold bD
     first
      |(simp[h];done)
      |(simp[h];cases n.lz<;>simp[ο,ν,ι])
    have aah:n.op=7->bD n=(((((n.mn==0) &&(n.mx==0)) &&(n.lz==false)) &&(n.cap==0)) &&((n.rs.length:Int)==(((([]:List Rg).length:Nat)):Int))):=by
     intro h;unfold bD
     first
      |(simp[h];done)
      |(simp[h];cases n.lz<;>simp[ο,ν,ι])
    have aag:n.op=8->bD n=(((((n.mn==0) &&(n.mx==0)) &&(n.lz==false)) &&(n.cap==0)) &&((n.rs.length:Int)==(((([]:List Rg).length:Nat)):Int))):=by
     intro h;unfold bD
     first
      |(simp[h];done)
      |(simp[h];cases n.lz<;>simp[ο,ν,ι])
    refine M 3 ?_;refine qj λK hK=>M 2 ?_;refine qe hK ?_
    by_cases q1:n.op=1;·refine vX ?_;refine ah.skip<|vX ?_;refine ah.skip ?_;exact⟨0,j5,[],0,0,false,0,_,rfl,O,hnil,by simp,(aak q1),(by unfold ew;rw[if_pos (xR q1)])⟩
    refine vY ?_;refine qq<|qj λK hK=>M 2 ?_;refine qe hK ?_
    by_cases q7:n.op=7;·refine vX ?_;refine ah.skip<|vX ?_;refine ah.skip ?_;exact⟨0,j5,[],0,0,false,0,_,rfl,O,hnil,by simp,(aah q7),(by unfold ew;rw[if_pos (j4 (xR q7))])⟩
    refine vY ?_;refine qj λK hK=>M 2 ?_;refine qe hK ?_
    by_cases q8:n.op=8;·refine vX ?_;refine ah.skip ?_;exact⟨0,j5,[],0,0,false,0,_,rfl,O,hnil,by simp,(aag q8),(by unfold ew;rw[if_pos (j4 (j4 q8))])⟩
    refine vY ?_;have xn:¬(n.op=1\/n.op=7\/n.op=8):=by omega
    refine qq<|qj λK hK=>M 2 ?_;refine qe hK<|zI (λq2=>?_) λq2=>?_
    .have JF:fJ n.rd 2 (n.rs.map ak):=L1.1;refine qq<|qj λK hK=>M 4 λU O=>?_;refine qe hK<|qq<|qj λK hK=>M (t:=(Ck (rO.rows O) ma)) 4 ?_;refine qe hK ?_
     cases Ee:nG n.rs with
     |false=>
      refine M 2 ?_;refine qj λK hK=>qm ?_;refine qe hK<|ah.ret ⟨rx,_,_,rfl,rl aP O (rfl),?_⟩;rw[mb (by unfold ew;rw[if_neg xn,if_pos q2,Ee];rfl)]
      rfl
     |true=>
      refine M 2 ?_;exact⟨0,n.rd,n.rs,0,0,false,0,_,rfl,O,L1.1,ma,(aaj q2),(by unfold ew;rw[if_neg xn,if_pos q2,Ee,BY])⟩
    have Qt:(n.op=3\/n.op=4)->bD n=(((((n.mn==0) &&(n.mx==0)) &&(n.lz==false)) &&(n.cap==0)) &&((n.rs.length:Int)==(((([]:List Rg).length:Nat)):Int))):=by
     intro h;unfold bD
     rcases h with h|h<;>simp[h]<;>cases n.lz<;>simp[ο,ν,ι]
    have Hh:(n.op=3\/n.op=4)->ew n=(n.kids,decide (n.kids>=2) &&bD n):=λh=>by unfold ew;rw[if_neg xn,if_neg q2,if_pos h]
    refine M 2 ?_;refine qj λK hK=>M 2 ?_;refine qe hK ?_
    by_cases q3:n.op=3
    .refine vX ?_;refine ah.skip<|vX ?_;refine qq<|qj λK hK=>M 3 ?_;refine qe hK<|qq<|qj λK hK=>M 2 ?_;refine qe hK<|zP (λjn=>?_) λjn=>?_
     .refine qq<|qj λK hK=>qm ?_;refine qe hK<|ah.ret ⟨rx,_,_,rfl,rl aP O (rfl),?_⟩;rw[mb (by rw[Hh (xR q3)];simp only;rw[decide_eq_false GB];rfl)]
      rfl
     refine ah.skip ?_;exact⟨n.kids,j5,[],0,0,false,0,_,rfl,O,hnil,by simp,Qt (xR q3),(by rw[Hh (xR q3),decide_eq_true GB];simp)⟩
    refine vY ?_;refine qj λK hK=>M 2 ?_;refine qe hK ?_
    by_cases q4:n.op=4
    .refine vX ?_;refine qq<|qj λK hK=>M 3 ?_;refine qe hK<|qq<|qj λK hK=>M 2 ?_;refine qe hK<|zP (λjn=>?_) λjn=>?_
     .refine qq<|qj λK hK=>qm ?_;refine qe hK<|ah.ret ⟨rx,_,_,rfl,rl aP O (rfl),?_⟩;rw[mb (by rw[Hh (j4 q4)];simp only;rw[decide_eq_false GB];rfl)]
      rfl
     refine ah.skip ?_;exact⟨n.kids,j5,[],0,0,false,0,_,rfl,O,hnil,by simp,Qt (j4 q4),(by rw[Hh (j4 q4),decide_eq_true GB];simp)⟩
    refine vY ?_;have Vv:¬(n.op=3\/n.op=4):=by omega
    refine qq<|qj λK hK=>M 2 ?_;refine qe hK<|zI (λq5=>?_) λq5=>?_
    .have Vu:ew n=(1,((((decide (0<=n.mn) &&decide (n.mn<=30)) &&decide (n.mx<=30)) &&decide (-1<=n.mx)) &&(decide (n.mx<0)||decide (n.mn<=n.mx))) &&((n.kids==1) &&bD n)):=by unfold ew;rw[if_neg xn,if_neg q2,if_neg Vv,if_pos q5]
     refine qq<|qj λK hK=>qm ?_;refine qe hK ?_;change ah _ _ _ _ _ _;refine qq ?_;generalize hK:dN _ _ _ _=K;refine ah.Ci rfl ?_;refine nr.cons ?_;refine qp (o:=2) ?_;refine yY ?_;refine ql O bf ?_;refine yY ?_;refine qp (o:=3) ?_;refine yY ?_;refine ql O bf ?_;refine yY ?_;refine qp (o:=4) ?_;refine yY ?_;refine ql O bf ?_;refine yY ?_;refine qp (o:=2) ?_;refine yY ?_;refine M 1 λU O=>?_;refine Qae ⟨by exact ψ.2 ⟨jQ rfl rfl rfl (Has.at so bf) (Has.at so bf) (Has.at so bf) (by exact Hi),ψ.2 ⟨jQ rfl rfl rfl (Has.at so bf) (Has.at so bf) (Has.at so bf) (by exact Hi),rfl⟩⟩,?_⟩;refine nr.cons ?_;refine qp (o:=3) ?_;refine yY ?_;refine M 1 λU O=>?_;refine Qae ⟨by exact ψ.2 ⟨jQ rfl rfl rfl (Has.at so bf) (Has.at so bf) (Has.at so bf) (by exact Hi),rfl⟩,?_⟩;refine nr.cons ?_;refine qp (o:=4) ?_;refine yY ?_;refine M 1 λU O=>?_;refine Qae ⟨rfl,?_⟩;refine nr.nil ?_;subst hK;refine qq<|ah.dM 90 (wt ((((decide (n.mn<0)||decide (n.mn>30))||decide (n.mx>30))||decide (n.mx< -1))||(decide (n.mx>=0) &&decide (n.mx<n.mn)))) [] ?_ (λff tmp bp=>?_)
     .refine M 4 ?_;refine y2 64 (λc8=>?_) λc8=>?_;·refine M 26 ?_;exact vV
      refine M 5 ?_;refine y2 69 (λeO=>?_) λeO=>?_;·refine M 21 ?_;exact vV
      refine M 5 ?_;refine y2 74 (λgR=>?_) λgR=>?_;·refine M 16 ?_;exact vV
      refine M 5 ?_;refine y2 79 (λxG=>?_) λxG=>?_;·refine M 11 ?_;exact vV
      refine M 4 ?_;refine y2 83 (λaZ=>?_) λaZ=>?_;·refine M 7 ?_;exact vV
      refine M 7 ?_;exact vV
     dsimp only[aC,φ,nth,u2,u1]
     by_cases hbad:(((0<=n.mn/\n.mn<=30)/\n.mx<=30)/\-1<=n.mx)/\(n.mx<0\/n.mn<=n.mx)
     .have c_:((((decide (n.mn<0)||decide (n.mn>30))||decide (n.mx>30))||decide (n.mx< -1))||(decide (n.mx>=0) &&decide (n.mx<n.mn)))=false:=by
       simp only[Bool.or_eq_false_iff,OF,decide_eq_false_iff_not];omega
      refine M 2 ?_;exact⟨1,j5,[],n.mn,n.mx,n.lz,0,_,rfl,O,hnil,by simp,(by unfold bD;simp[q5,ο]),(by rw[Vu];congr 1;have hh:((((decide (0<=n.mn) &&decide (n.mn<=30)) &&decide (n.mx<=30)) &&decide (-1<=n.mx)) &&(decide (n.mx<0)||decide (n.mn<=n.mx)))=true:=(by simp;exact hbad);rw[hh,BY])⟩
     have c_:((((decide (n.mn<0)||decide (n.mn>30))||decide (n.mx>30))||decide (n.mx< -1))||(decide (n.mx>=0) &&decide (n.mx<n.mn)))=true:=by
      simp only[χ,ξ,decide_eq_true_eq];omega
     refine M 2 ?_;refine qj λK hK=>qm ?_;refine qe hK<|ah.ret ⟨rx,_,_,rfl,rl aP O (rfl),?_⟩
     have hh:((((decide (0<=n.mn) &&decide (n.mn<=30)) &&decide (n.mx<=30)) &&decide (-1<=n.mx)) &&(decide (n.mx<0)||decide (n.mn<=n.mx)))=false:=by
      cases h:((((decide (0<=n.mn) &&decide (n.mn<=30)) &&decide (n.mx<=30)) &&decide (-1<=n.mx)) &&(decide (n.mx<0)||decide (n.mn<=n.mx))) with
      |false=>rfl
      |true=>
       simp at h;exact absurd h hbad
     rw[mb (by rw[Vu];simp only;rw[hh];rfl)]
     rfl
    refine qq<|qj λK hK=>M 2 ?_;refine qe hK<|zI (λq6=>?_) λq6=>?_
    .have Vt:ew n=(1,(decide (1<=n.cap) &&decide (n.cap<=4)) &&((n.kids==1) &&bD n)):=by unfold ew;rw[if_neg xn,if_neg q2,if_neg Vv,if_neg q5,if_pos q6]
     refine qq<|qj λK hK=>qm ?_;refine qe hK<|qq<|qj λK hK=>M 4 λU O=>?_;refine qe hK<|qq<|ah.dM 103 (wt (decide (n.cap<1)||decide (n.cap>4))) [] ?_ (λff tmp bp=>?_)
     .refine M 4 ?_;refine y2 99 (λc8=>?_) λc8=>?_;·refine M 4 ?_;exact vV
      refine M 4 ?_;exact vV
     dsimp only[aC,φ,nth,u2,u1]
     by_cases hbad:1<=n.cap/\n.cap<=4
     .have c_:(decide (n.cap<1)||decide (n.cap>4))=false:=by rw[decide_eq_false GB,decide_eq_false GB];rfl
      refine M 2 ?_;exact⟨1,j5,[],0,0,false,n.cap,_,rfl,O,hnil,by simp,(aai q6),(by rw[Vt,decide_eq_true hbad.1,decide_eq_true hbad.2];rfl)⟩
     have c_:(decide (n.cap<1)||decide (n.cap>4))=true:=by simp only[χ,decide_eq_true_eq];omega
     refine M 2 ?_;refine qj λK hK=>qm ?_;refine qe hK<|ah.ret ⟨rx,_,_,rfl,rl aP O (rfl),?_⟩
     have hh:(decide (1<=n.cap) &&decide (n.cap<=4))=false:=by
      rw[OF,decide_eq_false_iff_not,decide_eq_false_iff_not];omega
     rw[mb (by rw[Vt];simp only;rw[hh];rfl)]
     rfl
    refine qq<|qj λK hK=>qm ?_;refine qe hK<|ah.ret ⟨rx,_,_,rfl,rl aP O (rfl),?_⟩;rw[mb (by unfold ew;rw[if_neg xn,if_neg q2,if_neg Vv,if_neg q5,if_neg q6])]
    rfl
   rintro I U ⟨kd,bd,T6,Yf,Ye,Yg,M9,tmp,hfr,O,WI,hbl,eY,hsh⟩;refine zK λee=>?_;rw[hsh] at hR mb;simp only at hR mb;have hba:=WI.arg Y.bs.length S;refine M 2 ?_;refine ah.dM 144 (wt ((((((n.kids !=kd)||(n.mn !=Yf))||(n.mx !=Ye))||(n.lz !=Yg))||(n.cap !=M9))||((n.rs.length:Int) !=(T6.length:Int)))) [] ?_ (λff tmp bp=>?_)
   .refine M 5 ?_;refine y2 108 (λfU=>?_) λfU=>?_;·refine M 36 ?_;exact vV
    refine M 7 ?_;refine y2 115 (λdS=>?_) λdS=>?_;·refine M 29 ?_;exact vV
    refine M 7 ?_;refine y2 122 (λxG=>?_) λxG=>?_;·refine M 22 ?_;exact vV
    refine M 7 ?_;refine y2 129 (λbM=>?_) λbM=>?_;·refine M 15 ?_;exact vV
    refine M 7 ?_;refine y2 136 (λWx=>?_) λWx=>?_;·refine M 8 ?_;exact vV
    refine M 8 ?_;exact vV
   dsimp only[aC,φ,nth,u2,u1]
   have T2:((((((n.kids !=kd)||(n.mn !=Yf))||(n.mx !=Ye))||(n.lz !=Yg))||(n.cap !=M9))||((n.rs.length:Int) !=(T6.length:Int)))=!((n.kids==kd) &&bD n):=by
    rw[eY];simp only[bne,IS,Bool.or_assoc]
   cases bK:((n.kids==kd) &&bD n) with
   |false=>
    rw[bK] at T2 mb;refine M 2 ?_;refine qj λK hK=>qm ?_;refine qe hK<|ah.ret ⟨rx,_,_,rfl,rl aP O (rfl),?_⟩;rw[mb rfl]
    rfl
   |true=>
    rw[bK] at T2 hR;rw[if_pos rfl] at hR;refine M 2 ?_;have O:=O.drop 2;refine qq<|qj λK hK=>M 3 ?_;refine qe hK<|M 2 ?_;refine qj λK hK=>qm ?_;refine qe hK<|ah.block<|ah.loop (λmm I U=>∃(i:Nat) (a:Option Nat),I.clean=fL I 30 [(0,d),(0,J W (pM a)),(0,J W (dp:Nat)),(6,J W kd),(0,J W (i:Nat))]/\Has Y.bs.length S U []/\(i<=l.length+1)/\(∀j,a=some j->j<=l.length/\i<j)/\((match a with|some j=>l.length+2-j|none=>0)<=mm)/\((match a with|some j=>jf (eu l f) (kd.toNat-i) j|none=>none)=af)) (l.length+2) ?_ ?_
    .exact⟨0,some (at_+1),rfl,O,by omega,(λj hj=>by cases hj;omega),(by show l.length+2-(at_+1)<=l.length+2;omega),hR⟩
    rintro mm I U ⟨i,a,hfr,O,YT,ha1,sC,BB⟩;refine zK λee=>?_;refine M 2 ?_;refine ah.dM 153 (wt (decide ((i:Int)<kd) &&decide (pM a>=0))) [] ?_ (λff tmp bp=>?_)
    .refine M 4 ?_;refine y2 150 (λc8=>?_) λc8=>?_;·refine M 3 ?_;exact vV
     refine M 3 ?_;exact vV
    refine zG ?_
    cases a with
    |none=>
     have c_:(decide ((i:Int)<kd) &&decide (pM none>=0))=false:=by
      rw[show decide (pM none>=0)=false from rfl,Qa9]
     refine M 3 ?_;refine qj λK hK=>M 2 ?_;refine qe hK<|ah.ret ⟨rx,_,_,rfl,rl aP O (rfl),?_⟩;have BB:none=af:=BB;rw[<-BB]
     rfl
    |some j=>
     obtain⟨YQ,hj2⟩:=ha1 j rfl;have sC:l.length+2-j<=mm:=sC;have BB:jf (eu l f) (kd.toNat-i) j=af:=BB
     by_cases hik:(i:Int)<kd
     .have c_:(decide ((i:Int)<kd) &&decide (pM (some j)>=0))=true:=by
       rw[decide_eq_true hik,decide_eq_true (show pM (some j)>=0 by show(j:Int)>=0;omega)];rfl
      refine M 4 ?_
      obtain⟨q,hq⟩:∃q,kd.toNat-i=q+1:=⟨kd.toNat-i-1,by omega⟩
      rw[hq] at BB;unfold jf at BB;have dP:=λU=>ih (Y:=U) (at_:=j) GB GB;refine qj λK hK=>M 3 ?_;refine yA (z:=((241-f:Nat):Int)) ?_;refine M (t:=((dP _))) 2 ?_;refine qe hK<|qj λK hK=>M 3 ?_;refine qe hK ?_
      cases hw:eu l f j with
      |none=>
       rw[hw] at BB;exact⟨mm-1,by omega,i+1,none,rfl,O,by omega,(λj' JH=>by cases JH),by show 0<=mm-1;omega,BB⟩
      |some j'=>
       have h1:=qN _ _ _ hw;have X:=xW _ _ _ hw;rw[hw] at BB;exact⟨mm-1,by omega,i+1,some j',rfl,O,by omega,(λx hx=>by cases hx;omega),(by show l.length+2-j'<=mm-1;omega),(by show jf (eu l f) (kd.toNat-(i+1)) j'=af;rw[show kd.toNat-(i+1)=q by omega];exact BB)⟩
     have c_:(decide ((i:Int)<kd) &&decide (pM (some j)>=0))=false:=by
      rw[decide_eq_false hik];rfl
     refine M 3 ?_;refine qj λK hK=>M 2 ?_;refine qe hK<|ah.ret ⟨rx,_,_,rfl,rl aP O (rfl),?_⟩;rw[show kd.toNat-i=0 by omega] at BB;rw[<-BB]
     rfl
  rw[List.getElem?_eq_none GB] at hR
  have hT:(decide ((at_:Int)>=(l.length:Nat))||decide ((dp:Int)>240))=true:=by
   rw[decide_eq_true GB];rfl
  rw[hT];refine M 2 ?_;refine qj λK hK=>qm ?_;refine qe hK<|ah.ret ⟨rx,_,_,rfl,rl aP O (rfl),?_⟩;rw[<-hR]
  rfl
variable{Y:St}
def N5 {d:D} (hl:l.length<=1048576) (hi:∀n∈l,n.ok) (hd:fJ d 7 (l.map aO)):Ev pv 84 [d,J W 0] Y (J W (pM (eu l 241 0))) Y:=by
 refine zM abG λS aP hF O=>?_;have h:=λU=>EZ hl hi hd 241 (Y:=U) (at_:=0) (Qac _) GB;exact M (t:=((h _))) 11 trivial
def ym {x:Nl} (hx:x.ok):Ev pv 56 [x.d] Y (wt (eM x.l)) Y:=by
 suffices hg:∃d,Ev pv 56 [x.d] Y d Y/\d=wt (Ak x.l) by
  obtain⟨_,h1,rfl⟩:=hg;rw[<-Ic];exact h1
 obtain⟨hd,hi,hl⟩:=hx;obtain⟨d,l⟩:=x;simp only at hd hi hl|-;unfold Ak;refine zM ab3 λS aP hF O=>?_;have hc:=hd.arg Y.bs.length S;have Pc:=λU=>N5 (Y:=U) hl hi hd;refine G 6 ?_;refine ah.dM 19 (wt ((((l.length:Int)==0)||decide ((l.length:Int)>480))||(pM (eu l 241 0) !=(l.length:Int)))) [] ?_ (λff tmp bp=>?_)
 .refine M 4 ?_;refine y2 8 (λc8=>?_) λc8=>?_;·refine G 11 ?_;exact vV
  refine M 5 ?_;refine y2 13 (λeO=>?_) λeO=>?_;·refine G 6 ?_;exact vV
  refine M (t:=((Pc _))) 6 ?_;exact vV
 dsimp only[aC,φ,nth,u2,u1]
 have Ws:((((l.length:Int)==0)||decide ((l.length:Int)>480))||(pM (eu l 241 0) !=(l.length:Int)))=!((decide (1<=l.length) &&decide (l.length<=480)) &&decide (eu l 241 0=some l.length)):=by
  have hA:(pM (eu l 241 0) !=(l.length:Int))=!decide (eu l 241 0=some l.length):=by
   cases eu l 241 0 with
   |none=>simp[pM]<;>omega
   |some j=>by_cases hjl:j=l.length<;>simp[pM,bne,hjl]<;>omega
  rw[hA,IS,IS]
  congr 2
  .by_cases h:l.length=0;·simp[h]
   have:1<=l.length:=by omega
   simp[h,this]<;>omega
  by_cases h:l.length<=480;·simp[h]<;>omega
  simp[h]<;>omega
 cases bK:((decide (1<=l.length) &&decide (l.length<=480)) &&decide (eu l 241 0=some l.length)) with
 |false=>
  rw[bK] at Ws;refine M 6 ?_
  rfl
 |true=>
  rw[bK] at Ws;refine M 2 ?_;rw[BY]
  obtain⟨C,hC⟩:∃C,fv l 0=C:=⟨_,rfl⟩
  rw[hC];refine G 10 ?_;refine ah.loop (λmm I U=>∃(i g:Nat),I.clean=⟨5,[d,ay I 1,ay I 2,J W ((g+1:Nat):Int),J W (i:Nat)],[]⟩/\Has Y.bs.length S U []/\(i+mm=l.length)/\(g<=i)/\(fv (l.drop i) g=C)) (l.length) ?_ ?_;·exact⟨0,0,rfl,O,by omega,by omega,hC⟩
  rintro mm I U ⟨i,g,hfr,O,YT,tZ,Hr⟩;refine zK λee=>?_;refine M 8 ?_;refine zP (λh1=>?_) λh1=>?_
  .refine G 1 ?_
   obtain⟨n,hn⟩:=gx (l:=l) (i:=i)
   have dO:=i_ hn
   have qd:l.drop i=n::l.drop (i+1):=by
    have:=ρ (l:=l) (i:=i) GB;rw[this];congr 1;rw[ζ GB] at hn;exact Option.some.inj hn
   rw[qd] at Hr;unfold fv at Hr;refine M 11 λTK I2 Rm Fx=>?_;refine zI (λh6=>?_) λh6=>?_
   .rw[if_pos h6] at Hr;refine M 11 λYu O3 p35 VN=>?_;refine ah.cond (by rfl) (λhne=>?_) (λhne=>?_)<;>try simp only[bne_iff_ne,bne_eq_false_iff_eq,ne_eq] at hne
    .refine M 5 ?_;rw[if_neg hne] at Hr;rw[<-Hr]
     rfl
    refine G 1 ?_;rw[if_pos GB] at Hr;refine G 2 ?_;refine yA (z:=((g+1+1:Nat):Int)) ?_;refine G 7 ?_;exact⟨mm-1,by omega,i+1,g+1,rfl,O,by omega,by omega,Hr⟩
   rw[if_neg h6] at Hr;refine G 6 ?_;exact⟨mm-1,by omega,i+1,g,rfl,O,by omega,by omega,Hr⟩
  refine M 6 ?_;rw[υ GB] at Hr;rw[<-Hr]
  rfl
def mf (l:List Q):Nat:=(l.map Q.sz).sum
theorem z6:∀ks:aG,ks.sz=mf ks.l
 | .nil=>rfl
 | .cons t ts=>by simp[aG.sz,aG.l,mf,z6 ts]
def Q.UM (t:Q):t.sz=cg t.n (mf t.ks) t.ks.length:=by
 cases t with
 |mk n ks=>simp[Q.sz,Q.n,Q.ks,z6,iZ]
theorem J6 {l:List Q}:mf l=0↔∀k∈l,k.sz=0:=by
 induction l with
 |nil=>simp[mf]
 |cons t l ih=>
  have e:mf (t::l)=t.sz+mf l:=by simp[mf]
  rw[e];constructor
  .intro h k A
   rcases τ.1 A with rfl|A
   .omega
   exact ih.1 GB k A
  intro h;have h1:=h t (Qa0 ..);have X:=ih.2 λk A=>h k (AI _ A);omega
def KG {t:Q} (ho:mV t.n t.ks.length):decide (t.sz=0)=(if t.n.op=1 then true else if t.n.op=3 then decide (∀k∈t.ks,k.sz=0) else if t.n.op=5 then((t.n.mx==0)||((t.n.mn==t.n.mx) &&decide (mf t.ks=0))) else false):=by
 rw[Q.UM];unfold cg;unfold mV at ho
 by_cases q1:t.n.op=1
 .have A:t.ks=[]:=by
   have:t.ks.length=0:=by omega
   exact List.length_eq_zero_iff.1 this
  simp[q1,A,mf]
 rw[if_neg q1]
 by_cases q3:t.n.op=3;·simp only[q3];simp[J6]
 rw[if_neg q3]
 by_cases q5:t.n.op=5
 .have h5:0<=t.n.mn/\t.n.mn<=30/\(t.n.mx=-1\/(t.n.mn<=t.n.mx/\t.n.mx<=30)):=by omega
  generalize mf t.ks=z;simp only[q5];simp
  by_cases qm:t.n.mx=-1
  .rw[if_pos qm];have F:(t.n.mn==t.n.mx)=false:=by simp;omega
   rw[F,qm];simp
  rw[if_neg qm];obtain⟨a,ha⟩:∃a:Nat,t.n.mn=(a:Int):=Int.eq_ofNat_of_zero_le h5.1;obtain⟨b,F⟩:∃b:Nat,t.n.mx=(b:Int):=Int.eq_ofNat_of_zero_le GB;rw[ha,F];have hab:a<=b:=by omega
  simp only[Int.toNat_natCast];rw[Bool.eq_iff_iff];simp only[decide_eq_true_eq,χ,ξ,beq_iff_eq,Nat.add_eq_zero_iff,Nat.mul_eq_zero];omega
 rw[if_neg q5,if_neg q5]
 by_cases q2:t.n.op=2\/t.n.op=7\/t.n.op=8;·rw[if_pos q2];rfl
 rw[if_neg q2]
 by_cases q4:t.n.op=4
 .have jn:2<=t.ks.length:=by omega
  rw[if_pos q4,decide_eq_false];omega
 rw[if_neg q4]
 by_cases q6:t.n.op=6;·rw[if_pos q6];simp
 exact absurd ho.2 GB
def Uf.zD (e:hk->hp:=by intro h;dsimp only[u2,u1,u3,u4,setMany,u5,u6,D.cells,Nat.reduceAdd,tC,bQ,aO] at h;exact h):hk->hp:=e
def Cu:∀(m:Nat) (t:Q),t.dF<=m->m<=1048576->t.ok->t.fa lv->∀Y:St,Ev pv 113 [y4 (tC t)] Y (wt (decide (t.sz=0))) Y
 |0,t,h,_,_,_,_=>by have:=Q.bR t;omega
 |m+1,t,h,hm,bK,hfa,Y=>by
  open Uf in
  have L_:=Q.bR t;have lT:=bk t.ks;obtain⟨ho,Qz⟩:=Q.CH.1 bK;have pj:=(Q.cW.1 hfa).2;have rN:∀k∈t.ks,∀s,Ev pv 113 [y4 (tC k)] s (wt (decide (k.sz=0))) s:=λk A s=>Cu m k (by have:=ch A;omega) GB (Qz k A) (pj k A) s;rw[KG ho];refine zM XU λS aP hF O=>?_;have uv:Ξ Y 8 (dL t.ks) (t.ks.map tC):=eV Y pj;have nR:=Arg.of uv aP;refine M 18 λk1 U jo O=>?_
  by_cases q1:t.n.op=1;·rw[if_pos q1];refine vX ?_;exact M 4 trivial
  rw[if_neg q1];refine vY ?_;refine G 5 ?_
  by_cases q3:t.n.op=3
  .rw[if_pos q3];refine vX ?_;refine G 6 ?_;refine ah.loop (λmm I U=>∃(i:Nat),I.clean=fL I 7 [(1,yv k1 0 0),(1,J W (i:Nat))]/\Has Y.bs.length S U (x4 k1 (zm 0 false (tC t))::[])/\(i+mm=t.ks.length)/\(∀k∈t.ks.take i,k.sz=0)) (t.ks.length) ?_ ?_;·exact⟨0,rfl,O,by omega,by simp⟩
   rintro mm I U ⟨i,hfr,O,hi,hq⟩;rw[hfr];(try dsimp only[fL,fG,θ]);clear hfr;generalize ay I=ee;clear I;refine G 6 ?_;refine qn ?_;simp only[ε];refine G 2 ?_;refine zP (λh1=>?_) λh1=>?_
   .refine G 1 ?_
    obtain⟨p,B⟩:=gx (l:=t.ks) (i:=i)
    have gi:=π B;have dO:=lD B;refine G 7 ?_;refine qr λQc Dh=>?_;refine yE ?_;refine qv ((rN p gi _)) ?_;refine G 2 ?_
    by_cases hz:p.sz=0;·refine vY ?_;refine G 6 ?_;exact⟨mm-1,by omega,i+1,rfl,O,by omega,(by rw[List.take_add_one,B];intro k A;rcases Qa6.1 A with A|A;exact hq k A;have:=Γ.1 A;rw[this];exact hz)⟩
    have hF:decide (∀k∈t.ks,k.sz=0)=false:=decide_eq_false λh=>hz (h p gi);rw[hF];refine vX ?_;refine G 4 ?_;refine ah.ret ⟨rx,_,rfl,rl aP O (rfl)⟩
   refine G 1 ?_;have he:i=t.ks.length:=by omega
   rw[he,Qa3] at hq;have hT:decide (∀k∈t.ks,k.sz=0)=true:=decide_eq_true hq;rw[hT];exact M 4 trivial
  rw[if_neg q3];refine vY ?_;refine G 5 ?_
  by_cases q5:t.n.op=5
  .rw[if_pos q5];have jo:t.ks.length=1:=by unfold mV at ho;omega
   obtain⟨p,B⟩:∃p,t.ks=[p]:=List.length_eq_one_iff.1 jo;have gi:p∈t.ks:=by rw[B];simp
   have hz:mf t.ks=p.sz:=by rw[B];simp[mf]
   have dO:(t.ks.map tC)[0]?=some (tC p):=by rw[B];rfl
   rw[hz];refine vX ?_;refine qq<|ah.ni 2 (wt ((t.n.mx==0)||((t.n.mn==t.n.mx) &&decide (p.sz=0)))) [] ?_ (λff tmp=>?_)
   .refine G 5 ?_;refine y2 31 (λfU=>?_) λfU=>?_
    .refine M 18 ?_
     all_goals(simp[fU];done)
    refine G 8 ?_;refine y2 39 (λmI=>?_) λmI=>?_
    .refine M 3 λZv R3=>?_;refine u.mr (wi mI) Pd so rfl (ae rfl _) ?_;refine qv ((rN p gi _)) ?_ (hg:=wi mI);refine M 5 ?_
     all_goals(simp[fU,mI];done)
    refine M 10 ?_
    all_goals(simp[fU,mI];done)
   dsimp only[aC,φ,nth,u2,u1];exact M 0 trivial
  rw[if_neg q5];refine vY ?_;exact M 5 trivial
def PW (N:Nat) (S U:St) (k:Nat) (H:List aX) (full:List bn):Prop:=
 ∃(cd:D) (dk:Nat->Prop) (code:List bn) (uh:Bool),Has N S U (x4 k (zm 0 false [cd,wt uh])::.deep dk cd 4 (code.map bN)::H)/\
  ((uh=false/\code=full/\full.length<=400)\/(uh=true/\code.length=400/\400<full.length))
def gg {N k:Nat} {S Y:St} {H:List aX} {w:D} {full:List bn} {op x y:Int} {rs:List Rg} (hF:S.flr<=N) (hw:(w=.nul/\rs=[])\/w=.sl ((rs.map ak).map (jK 2))) (hM:PW N S Y k H full):
  ∃r R,Ev pv 60 [.ptr k 0 0,.agg [.int .i64 op,.int .i64 x,.int .i64 y,w]] Y r R/\r=.int .i64 ((if full.length<400 then full.length else 0:Nat):Int)/\PW N S R k H (full++[bZ op x y rs]):=by
 obtain⟨cd,dk,code,uh,O,hO⟩:=hM
 have WD:∀(U:St) (ks:Nat->Prop),Yl U ks w (.sl ((rs.map ak).map (jK 2))):=by
  intro U ks
  rcases hw with⟨rfl,h⟩|rfl
  .subst h;exact .ai .nul 2 [] .nul (by simp) (by simp[D.ref])
  .exact .plain _ rfl
 have Hi:w.ref=0:=by rcases hw with⟨rfl,_⟩|rfl<;>rfl
 have hcl:code.length<=400:=by rcases hO with⟨_,rfl,h⟩|⟨_,h,_⟩<;>omega
 refine Ev.sv rfl ab0 rfl rfl rfl ?_;refine zE ?_;change ah _ _ _ _ Y _;refine M 12 λk3 U A7 O=>?_;refine Qad O rfl (ev rfl) (by exact dh) rfl (ae rfl _) ?_;simp only[ε];refine G 2 ?_
 by_cases h4:400<=code.length
 .have hfu:400<=full.length:=by rcases hO with⟨_,rfl,h⟩|⟨_,h,h5⟩<;>omega
  refine qD rfl (by simp;omega) ?_;refine M 12 λU O=>?_;refine⟨?_,cd,dk,code,true,O.drop 1,.inr ⟨rfl,by omega,by rw[γ];simp;omega⟩⟩;rw[if_neg (by omega)];rfl
 .obtain⟨rfl,rfl,h⟩:uh=false/\code=full/\full.length<=400:=by
   rcases hO with h|h
   .exact h
   .omega
  refine qE rfl (by simp;omega) ?_;refine M 10 λk20 U Wn O=>?_;refine u.rW O rfl (ev rfl) (ev rfl) d_ (O.rows aV) (.cons (.cons (.plain _ rfl) (.cons (.plain _ rfl) (.cons (.plain _ rfl) (.cons (WD _ _) .nil)))) .nil) rfl rfl rfl rfl rfl rfl rfl ⟨(δ rfl),(δ rfl)⟩ (λ_=>(ae rfl _)) (by simp only[ε,η,μ];omega) (.inl hF) (λZe U O=>?_);dsimp at O;refine G 2 ?_;refine u.pZ O rfl (ev rfl) (ev rfl) (by exact O.w9 (by exact d_)) (by exact rfl) (by exact dh) (by exact δ rfl) (by exact .inl hF) (λU O=>?_);dsimp[u2,u1,u3,u4,setMany,u5,u6,ω,θ,bN] at O;refine G 7 ?_;refine Qad O rfl (ev rfl) (by exact d_) rfl (ae rfl _) ?_;simp only[ε,γ,η,μ];refine yB (z:=((code.length:Nat):Int)) ?_;refine M 3 ?_;exact⟨by rw[if_pos (by omega)];rfl,_,_,code++[bZ op x y rs],false,by rw[Ψ];exact O.drop 2,.inl ⟨rfl,rfl,by rw[γ];simp;omega⟩⟩
variable{N k:Nat}{S:St}{H:List aX}
def HB {ks:Nat->Prop} {cd:D} {uh:Bool} {code:List bn} {at_ over:Nat} {lz:Bool} {x y:Int} (hat:code[at_]?=some (bZ 2 x y [])) (hl:code.length<=1048576) (O:Has N S Y (x4 k (zm 0 false [cd,wt uh])::.deep ks cd 4 (code.map bN)::H)):
  ∃r R,Ev pv 114 [yv k 0 0,J W (at_:Nat),J W (over:Nat),wt lz] Y r R/\r=.tup []/\Has N S R (x4 k (zm 0 false [cd,wt uh])::.deep ks cd 4 ((code.set at_ (mS at_ over lz)).map bN)::H):=by
 have hlt:=cI hat;have dO:(code.map bN)[at_]?=some [J W 2,J W x,J W y,.sl []]:=kK hat;have br:=O;refine zO XT λS2 bj O=>?_;refine G 13 ?_;refine yA (z:=((at_+1:Nat):Int)) ?_;refine qm ?_;refine Qa2 (s:=4) O rfl Pd Pd (by exact bf) rfl rfl (by exact cI so) (λ_=>(ae rfl _)) (λQc Dh=>?_);refine yF (o2:=1) λNu xF=>?_;refine Qa1 O rfl Pd Pd so rfl rfl (by exact bf) so (δ rfl) (by intro d hd;simp only[τ,Φ,or_false] at hd;subst hd;rfl) (by exact j4 rfl) (λU O=>?_);dsimp only[u2,u1,u3,u4,setMany,u5,u6,ω,θ,bN] at O;refine Qa2 (s:=4) O rfl Pd Pd (by exact bf) rfl rfl (by simp<;>omega) (λ_=>(ae rfl _)) (λQb Dg=>?_);refine yF (o2:=2) λKY wD=>?_;refine Qa1 O rfl Pd Pd so rfl rfl (by exact bf) (κ (by simp;omega)) (δ rfl) (by intro d hd;simp at hd;subst hd;rfl) (by exact j4 rfl) (λU O=>?_);dsimp only[u1,u2,setMany] at O;rw[Θ] at O;refine G 5 ?_
 cases lz with
 |false=>
  refine G 2 ?_;refine⟨λi h=>(by cases h),_,_,_,rfl,aH rfl,?_⟩;exact⟨rfl,by rw[Δ];exact br.rE bj O⟩
 |true=>
  refine G 14 ?_;refine yA (z:=((at_+1:Nat):Int)) ?_;refine Qa2 (s:=4) O rfl Pd Pd (by exact bf) rfl rfl (by simp<;>omega) (λ_=>(ae rfl _)) (λZx R5=>?_);refine yF (o2:=1) λZw R4=>?_;refine Qa1 O rfl Pd Pd so rfl rfl (by exact bf) (κ (by simp;omega)) (δ rfl) (by intro d hd;simp at hd;subst hd;rfl) (by exact j4 rfl) (λU O=>?_);dsimp only[u1,u2,setMany] at O;rw[Θ] at O;refine Qa2 (s:=4) O rfl Pd Pd (by exact bf) rfl rfl (by simp<;>omega) (λ_=>(ae rfl _)) (λp41 aat=>?_);refine yF (o2:=2) λZv R3=>?_;refine Qa1 O rfl Pd Pd so rfl rfl (by exact bf) (κ (by simp;omega)) (δ rfl) (by intro d hd;simp only[τ,Φ,or_false] at hd;subst hd;rfl) (by exact j4 rfl) (λU O=>?_);dsimp only[u1,u2,setMany] at O;rw[Θ] at O;refine G 1 ?_;refine⟨λi h=>(by cases h),_,_,_,rfl,aH rfl,?_⟩;exact⟨rfl,by rw[Δ];exact br.rE bj O⟩
def xm (t:Q):Prop:=∀{N k:Nat} {S Y:St} {H:List aX} {full:List bn},S.flr<=N->PW N S Y k H full->
 ∃r R,Ev pv 61 [yv k 0 0,y4 (tC t)] Y r R/\r=.tup []/\PW N S R k H (full++aF t full.length)
def JX {l:List Q}:(aE l).ok↔∀k∈l,k.ok:=by
 induction l with
 |nil=>simp[aE,aG.ok]
 |cons t l ih=>simp[aE,aG.ok,ih]
theorem sI:∀l:List Q,(aE l).len=l.length
 |[]=>rfl
 |t::l=>by simp[aE,aG.len,sI l]
def J1 (l:List Q):(aE l).sz=mf l:=by rw[z6,mR]
def drop_cons {α:Type} {l:List α} {i:Nat} {t:α} (h:l[i]?=some t):l.drop i=t::l.drop (i+1):=by
 obtain⟨h3,h4⟩:=Ω.1 h;rw[ρ h3,h4]
def Ls {l:List Q} (h:∀t∈l,t.fa lv):fJ (dL l) 8 (l.map tC):=by
 rw[mE];exact fJ.frozen (P7 l) (kD h)
def MW {l:List Q} (h:∀k∈l,k.ok) (jp:bn) (b:Nat):(eC jp (aE l) b).length=mf l+2*(l.length-1):=by
 rw[sk jp _ b (JX.2 h),J1,sI]
def J7 (t:Q) (l:List Q):mf (t::l)=t.sz+mf l:=by simp[mf]
def PJ {ks:List Q} (ih:∀t∈ks,xm t) (bK:∀t∈ks,t.ok) (hfa:∀t∈ks,t.fa lv) (jn:2<=ks.length) (hkn:ks.length<=1048576) {full:List bn} (hF:S.flr<=N) (hM:PW N S Y k H full):
  ∃r R,Ev pv 88 [yv k 0 0,dL ks] Y r R/\r=.tup []/\PW N S R k H (full++eC (jH (full.length+(mf ks+2*(ks.length-1)))) (aE ks) full.length):=by
 obtain⟨cd,dk,code,uh,O,hO⟩:=hM;have Qz:=JX.2 bK;have hE:=MW bK (jH 0) full.length;have hE2:=MW bK (jH (full.length+(mf ks+2*(ks.length-1)))) full.length;refine Ev.sv rfl abC rfl rfl rfl ?_;refine zE ?_;change ah _ _ _ _ Y _;have hc:=(Ls hfa).arg N S;refine G 4 ?_;have O:Has N S Y (_::.deep dk cd 4 (code.map bN)::.ai j5 1 (([]:List Nat).map jY)::H):=Has.EN [_] [_,_] (O.cY 1);refine G 5 ?_;refine ah.merge (λI U=>∃(cd jd:D) (dk:Nat->Prop) (aW:List bn) (cq:Bool) (js:List Nat) (tmp:List (Nat×D)),I=⟨8,[yv k 0 0,ay I 1,ay I 2,ay I 3,jd,ay I 5,ay I 6,ay I 7],tmp⟩/\Has N S U (x4 k (zm 0 false [cd,wt cq])::.deep dk cd 4 (aW.map bN)::.ai jd 1 (js.map jY)::H)/\((cq=false/\aW=full++eC (jH 0) (aE ks) full.length/\js=ky (aE ks) full.length/\aW.length<=400)\/(cq=true/\aW.length=400/\400<full.length+(mf ks+2*(ks.length-1))))/\(js.length<=ks.length)) ?_ ?_
 .have Je:(uh=false/\code.length<=400/\code++eC (jH 0) (aE (ks.drop 0)) code.length=full++eC (jH 0) (aE ks) full.length/\([]:List Nat)++ky (aE (ks.drop 0)) code.length=ky (aE ks) full.length)\/(uh=true/\code.length=400/\400<full.length+(mf ks+2*(ks.length-1))):=by
   rcases hO with⟨h1,X,h3⟩|⟨h1,X,h3⟩
   .exact xR ⟨h1,by rw[X];exact h3,by rw[X];rfl,by rw[X];rfl⟩
   exact j4 ⟨h1,X,by omega⟩
  refine G 1 ?_;refine ah.loop (λmm I U=>∃(i:Nat) (cd jd:D) (dk:Nat->Prop) (aq:List bn) (dq:Bool) (js:List Nat),I.clean=fL I 8 [(0,yv k 0 0),(0,dL ks),(2,jd),(0,J W (i:Nat))]/\Has N S U (x4 k (zm 0 false [cd,wt dq])::.deep dk cd 4 (aq.map bN)::.ai jd 1 (js.map jY)::H)/\(i+mm=ks.length)/\(js.length<=i)/\((dq=false/\aq.length<=400/\aq++eC (jH 0) (aE (ks.drop i)) aq.length=full++eC (jH 0) (aE ks) full.length/\js++ky (aE (ks.drop i)) aq.length=ky (aE ks) full.length)\/(dq=true/\aq.length=400/\400<full.length+(mf ks+2*(ks.length-1))))) (ks.length) ?_ ?_;·exact⟨0,cd,j5,dk,code,uh,[],rfl,O,by omega,by simp,Je⟩
  rintro mm I U ⟨i,cd,jd,dk,aq,dq,js,hfr,O,hi,hjl,Je⟩;refine zK λee=>?_;refine G 2 ?_;refine ah.dM 18 (wt (decide ((i:Int)<(ks.length:Nat)) &&!dq)) [] ?_ (λff tmp bp=>?_)
  .refine M 5 ?_;refine y2 12 (λfU=>?_) λfU=>?_;·refine G 6 ?_;exact vV
   refine G 6 ?_;refine vU ?_
   all_goals(simp_all;omega)
  refine zG ?_
  by_cases hgo:i<ks.length/\dq=false
  .obtain⟨hlt,uy⟩:=hgo;have c_:(decide ((i:Int)<(ks.length:Nat)) &&!dq)=true:=by rw[uy];simp;omega
   rw[c_] at bp
   obtain⟨tY,dW,hjs⟩:aq.length<=400/\aq++eC (jH 0) (aE (ks.drop i)) aq.length=full++eC (jH 0) (aE ks) full.length/\js++ky (aE (ks.drop i)) aq.length=ky (aE ks) full.length:=by
    rcases Je with h|h
    .exact h.2
    rw[uy] at h;cases h.1
   obtain⟨p,B⟩:∃p,ks[i]?=some p:=⟨ks[i]'hlt,ζ _⟩
   have gi:=π B;have dO:=lD B;have hpo:=bK p gi;have hdl:(ks.drop i).length=ks.length-i:=List.length_drop;have hlen:=congrArg List.length dW;rw[γ,γ,hE,MW (λk A=>bK k (List.mem_of_mem_drop A)),hdl] at hlen;have hsz:mf (ks.drop i)=p.sz+mf (ks.drop (i+1)):=by rw[drop_cons B,J7]
   rw[drop_cons B] at dW hjs;simp[aE,eC,ky,sI] at dW hjs;refine G 9 ?_;refine qn ?_;simp only[ε];refine yB (z:=((ks.length-1:Nat):Int)) ?_;refine G 2 ?_
   by_cases rP:i+1=ks.length
   .have FD:((i:Int)==((ks.length-1:Nat):Int))=true:=by rw[beq_iff_eq];omega
    rw[if_pos GB] at dW hjs;refine vX ?_;refine M 7 λRm Fx=>?_;obtain⟨_,U,aK,rfl,cd,dk,aW,cq,O,qk⟩:=ih p gi hF ⟨cd,dk,aq,dq,O,xR ⟨uy,rfl,tY⟩⟩;refine M 2 ?_
    have BF:(cq=false/\aW=full++eC (jH 0) (aE ks) full.length/\js=ky (aE ks) full.length/\aW.length<=400)\/(cq=true/\aW.length=400/\400<full.length+(mf ks+2*(ks.length-1))):=by
     rcases qk with⟨h1,X,h3⟩|⟨h1,X,h3⟩
     .exact xR ⟨h1,by rw[X];exact dW,by rw[Qa4] at hjs;exact hjs,by rw[X];exact h3⟩
     rw[dW,γ,hE] at h3;exact j4 ⟨h1,X,h3⟩
    refine G 1 ?_;exact⟨cd,jd,dk,aW,cq,js,_,rfl,O,BF,by omega⟩
   rw[if_neg GB] at dW hjs;have FD:((i:Int)==((ks.length-1:Nat):Int))=false:=by rw[beq_eq_false_iff_ne];omega
   refine vY ?_;refine G 4 ?_;refine qg (d:=y4 [J W 2,J W 0,J W 0,j5]) ?_;obtain⟨_,U,aK,rfl,cd,dk,aW,cq,O,qk⟩:=gg (rs:=[]) hF (xR ⟨rfl,rfl⟩) ⟨cd,dk,aq,dq,O,xR ⟨uy,rfl,tY⟩⟩;refine M 3 ?_;have YO:(aq++[bZ 2 0 0 []]).length=aq.length+1:=by simp
   refine M 7 λZy O2=>?_;obtain⟨_,U,aK,rfl,cd,dk,n4,xS,O,BF⟩:=ih p gi hF ⟨cd,dk,aW,cq,O,qk⟩;refine M 2 ?_;rw[YO] at BF;have hl4:(aq++[bZ 2 0 0 []]++aF p (aq.length+1)).length=aq.length+1+p.sz:=by rw[γ,YO,dD p _ hpo]
   refine G 4 ?_;refine qg (d:=y4 [J W 3,J W 0,J W 0,j5]) ?_;obtain⟨_,U,aK,rfl,cd,dk,jB,n5,O,Jd⟩:=gg (rs:=[]) hF (xR ⟨rfl,rfl⟩) ⟨cd,dk,n4,xS,O,BF⟩;refine M 5 λk45 U aec O P5 U O=>?_;have O:Has N S U (_::.deep dk cd 4 (jB.map bN)::.ai P5 1 _::H):=O.drop 1;have YN:(aq++[bZ 2 0 0 []]++aF p (aq.length+1)++[bZ 3 0 0 []]).length=aq.length+p.sz+2:=by rw[γ,hl4];simp only[η,μ];omega
   refine G 8 ?_
   by_cases Ja:n5=false
   .obtain⟨Jg,Mt⟩:jB=aq++[bZ 2 0 0 []]++aF p (aq.length+1)++[bZ 3 0 0 []]/\(aq++[bZ 2 0 0 []]++aF p (aq.length+1)++[bZ 3 0 0 []]).length<=400:=by
     rcases Jd with h|h
     .exact h.2
     rw[Ja] at h;cases h.1
    rw[YN] at Mt;rw[hl4,if_pos GB] at O;rw[if_pos GB];rw[Jg] at O
    have Dw:(aq++[bZ 2 0 0 []]++aF p (aq.length+1)++[bZ 3 0 0 []])[aq.length]?=some (bZ 2 0 0 []):=by
     rw[ς,ς];exact oL _ _ _
    have AU:(aq++[bZ 2 0 0 []]++aF p (aq.length+1)++[bZ 3 0 0 []]).set aq.length (mS aq.length (aq.length+1+p.sz+1) false)=aq++(mS aq.length (aq.length+1+p.sz+1) false::(aF p (aq.length+1)++[jH 0])):=by
     rw[ς,ς];exact oq _ _ _ _
    have Bd:(aq++(mS aq.length (aq.length+1+p.sz+1) false::(aF p (aq.length+1)++[jH 0]))).length=aq.length+p.sz+2:=by rw[<-AU,Qa5,YN]
    generalize aq++[bZ 2 0 0 []]++aF p (aq.length+1)++[bZ 3 0 0 []]=c3 at*;have pe:(c3.map bN)[aq.length]?=some [J W 2,J W 0,J W 0,.sl []]:=kK Dw;have aaG:=cI Dw;refine vX ?_;refine G 12 ?_;refine yA (z:=((aq.length+1:Nat):Int)) ?_;refine G 4 ?_;refine Qad O rfl Pd (by exact bf) rfl (ae rfl _) ?_;simp only[ε];refine Qa2 (s:=4) O rfl Pd Pd (by exact bf) rfl rfl (by exact cI so) (λ_=>(ae rfl _)) (λp69 VG=>?_);refine yF (o2:=1) λp70 aaq=>?_;refine Qa1 O rfl Pd Pd so rfl rfl (by exact bf) so (δ rfl) (by intro d hd;simp only[τ,Φ,or_false] at hd;subst hd;rfl) (by exact xR hF) (λU O=>?_);dsimp only[u2,u1,u3,u4,setMany,u5,u6,ω,θ,bN,jY,tC,bQ,aO] at O;refine Qa2 (s:=4) O rfl Pd Pd (by exact bf) rfl rfl (by simp<;>omega) (λ_=>(ae rfl _)) (λTI VF=>?_);refine yF (o2:=2) λZr aap=>?_;refine Qa1 O rfl Pd Pd so rfl rfl (by exact bf) (κ (by simp;omega)) (δ rfl) (by intro d hd;simp at hd;subst hd;rfl) (by exact xR hF) (λU O=>?_);dsimp only[u1,u2,setMany] at O;rw[Θ] at O;refine G 1 ?_;have yV:aq.length+p.sz+2=aq.length+1+p.sz+1:=by omega
    have O:Has N S U (x4 k (zm 0 false [cd,wt n5])::.deep dk cd 4 ((c3.set aq.length (mS aq.length (aq.length+1+p.sz+1) false)).map bN)::.ai P5 1 ((js++[aq.length+1+p.sz]).map jY)::H):=by
     rw[Δ,Ψ];rw[YN,yV] at O;exact O
    rw[AU] at O;refine G 5 ?_;exact⟨mm-1,by omega,i+1,cd,P5,dk,aq++(mS aq.length (aq.length+1+p.sz+1) false::(aF p (aq.length+1)++[jH 0])),n5,js++[aq.length+1+p.sz],rfl,O,by omega,(by rw[γ];simp only[η,μ];omega),xR ⟨Ja,by rw[Bd];omega,by rw[Bd,<-dW];simp,by rw[Bd,<-hjs];simp⟩⟩
   obtain⟨SQ,Jg,Mt⟩:n5=true/\jB.length=400/\400<(aq++[bZ 2 0 0 []]++aF p (aq.length+1)++[bZ 3 0 0 []]).length:=by
    rcases Jd with h|h
    .exact absurd h.1 Ja
    exact h
   rw[YN] at Mt;refine vY ?_;refine G 6 ?_;exact⟨mm-1,by omega,i+1,cd,P5,dk,jB,n5,js++[if(aq++[bZ 2 0 0 []]++aF p (aq.length+1)).length<400 then(aq++[bZ 2 0 0 []]++aF p (aq.length+1)).length else 0],rfl,(by rw[Ψ];exact O),by omega,(by rw[γ];simp only[η,μ];omega),j4 ⟨SQ,Jg,by omega⟩⟩
  have c_:(decide ((i:Int)<(ks.length:Nat)) &&!dq)=false:=by
   by_cases h:i<ks.length
   .have:dq=true:=by cases dq;exact absurd ⟨h,rfl⟩ hgo;rfl
    rw[this];simp
   rw[decide_eq_false GB];rfl
  rw[c_] at bp
  have BF:(dq=false/\aq=full++eC (jH 0) (aE ks) full.length/\js=ky (aE ks) full.length/\aq.length<=400)\/(dq=true/\aq.length=400/\400<full.length+(mf ks+2*(ks.length-1))):=by
   rcases Je with⟨h1,X,h3,h4⟩|h
   .have he:ks.drop i=[]:=υ (by
     by_cases h:i<ks.length;·exact absurd ⟨h,h1⟩ hgo
     omega)
    rw[he] at h3 h4;simp[aE,eC,ky] at h3 h4;exact xR ⟨h1,h3,h4,X⟩
   exact j4 h
  refine G 2 ?_;exact⟨cd,jd,dk,aq,dq,js,_,rfl,O,BF,by omega⟩
 rintro I U ⟨cd,jd,dk,aW,cq,js,tmp,hfr,O,qk,hjl⟩;refine zK λee=>?_;refine G 4 ?_;obtain⟨sA,tX⟩:=oS (jp:=jH (full.length+(mf ks+2*(ks.length-1)))) (i0:=jH 0) (aE ks) full.length full [] Qz rfl;simp only[Qa4] at sA tX;have BG:(full++eC (jH 0) (aE ks) full.length).length=full.length+(mf ks+2*(ks.length-1)):=by rw[γ,hE]
 have dC:(full++eC (jH (full.length+(mf ks+2*(ks.length-1)))) (aE ks) full.length).length=full.length+(mf ks+2*(ks.length-1)):=by rw[γ,hE2]
 generalize full++eC (jH 0) (aE ks) full.length=C0 at*;generalize full++eC (jH (full.length+(mf ks+2*(ks.length-1)))) (aE ks) full.length=C1 at*;generalize full.length+(mf ks+2*(ks.length-1))=e at*
 have hC3:(cq=false/\fO (λ_=>jH e) aW (js.drop 0)=C1/\(∀p∈js,∃v:Int,aW[p]?=some (bZ 3 v 0 []))/\aW.length=e/\e<=400)\/(cq=true/\aW.length=400/\400<e):=by
  rcases qk with⟨h1,X,h3,h4⟩|h
  .exact xR ⟨h1,by rw[X,h3];exact sA,λp B=>⟨_,by rw[X];exact tX p (h3▸B)⟩,by rw[X];exact BG,by rw[X,BG] at h4;exact h4⟩
  exact j4 h
 refine G 1 ?_;refine ah.loop (λmm I U=>∃(q:Nat) (C:List bn),I.clean=fL I 8 [(0,yv k 0 0),(3,jd),(2,J W (q:Nat))]/\Has N S U (x4 k (zm 0 false [cd,wt cq])::.deep dk cd 4 (C.map bN)::.ai jd 1 (js.map jY)::H)/\(q+mm=js.length)/\((cq=false/\fO (λ_=>jH e) C (js.drop q)=C1/\(∀p∈js,∃v:Int,C[p]?=some (bZ 3 v 0 []))/\C.length=e/\e<=400)\/(cq=true/\C.length=400/\400<e))) (js.length) ?_ ?_;·exact⟨0,aW,rfl,O,by omega,hC3⟩
 rintro mm I U ⟨q,C,hfr,O,hq,hC⟩;refine zK λee=>?_;refine G 2 ?_;refine ah.dM 83 (wt (decide ((q:Int)<(js.length:Nat)) &&!cq)) [] ?_ (λff tmp bp=>?_)
 .refine M 5 ?_;refine y2 77 (λfU=>?_) λfU=>?_;·refine G 6 ?_;exact vV
  refine G 6 ?_;refine vU ?_
  all_goals(simp_all;omega)
 refine zG ?_
 by_cases hgo:q<js.length/\cq=false
 .obtain⟨yX,uy⟩:=hgo;have c_:(decide ((q:Int)<(js.length:Nat)) &&!cq)=true:=by rw[uy];simp;omega
  rw[c_] at bp
  obtain⟨eW,hall,Ms,he4⟩:fO (λ_=>jH e) C (js.drop q)=C1/\(∀p∈js,∃v:Int,C[p]?=some (bZ 3 v 0 []))/\C.length=e/\e<=400:=by
   rcases hC with h|h
   .exact h.2
   rw[uy] at h;cases h.1
  obtain⟨p,B⟩:∃p,js[q]?=some p:=⟨js[q]'yX,ζ _⟩
  obtain⟨v,hv⟩:=hall p (π B);have dO:=rv B;have pe:=kK hv;have eY:=cI hv;refine M 17 λp92 adH=>?_;refine Qad O rfl Pd (by exact bf) rfl (ae rfl _) ?_;simp only[ε];refine Qa2 (s:=4) O rfl Pd Pd (by exact bf) rfl rfl (by exact cI so) (λ_=>(ae rfl _)) (λp99 adD=>?_);refine yF (o2:=1) λadu ac9=>?_;refine Qa1 O rfl Pd Pd so rfl rfl (by exact bf) so (δ rfl) (by intro d hd;simp at hd;subst hd;rfl) (by exact xR hF) (λU O=>?_);dsimp[u2,u1,u3,u4,setMany,u5,u6,ω,θ,bN,jY,tC,bQ,aO] at O;refine G 6 ?_;have qd:js.drop q=p::js.drop (q+1):=drop_cons B
  have Mp:∀p'∈js,∃v:Int,(C.set p (jH e))[p']?=some (bZ 3 v 0 []):=by
   intro p' wE
   by_cases hpp:p'=p;·subst hpp;exact⟨_,κ eY⟩
   rw[List.getElem?_set_ne (λe=>hpp e.symm)];exact hall p' wE
  exact⟨mm-1,by omega,q+1,C.set p (jH e),rfl,(by rw[Δ,<-Ms];exact O),by omega,xR ⟨uy,by rw[qd] at eW;exact eW,Mp,by rw[Qa5];exact Ms,he4⟩⟩
 have c_:(decide ((q:Int)<(js.length:Nat)) &&!cq)=false:=by
  by_cases h:q<js.length
  .have:cq=true:=by cases cq;exact absurd ⟨h,rfl⟩ hgo;rfl
   rw[this];simp
  rw[decide_eq_false GB];rfl
 rw[c_] at bp;refine G 2 ?_;refine⟨λi h=>(by cases h),_,_,_,rfl,rfl,?_⟩;refine⟨rfl,cd,dk,C,cq,O.erase 2,?_⟩
 rcases hC with⟨h1,X,h3,h4,h5⟩|⟨h1,X,h3⟩
 .have he:js.drop q=[]:=υ (by
   by_cases h:q<js.length;·exact absurd ⟨h,h1⟩ hgo
   omega)
  rw[he] at X;have X:C=C1:=X;exact xR ⟨h1,X,by rw[dC];exact h5⟩
 exact j4 ⟨h1,X,by rw[dC];exact h3⟩
end Go.Proofs.YtappgjdiplibbaaGreat
