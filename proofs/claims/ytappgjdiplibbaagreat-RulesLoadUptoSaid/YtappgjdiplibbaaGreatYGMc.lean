/-
 The document's Simple and the program's: the same (plain).
-/
import Derived.Test.YtappgjdiplibbaaGreatYGQg
import Derived.Test.YtappgjdiplibbaaGreatYGGf
import Derived.Test.YtappgjdiplibbaaGreatYGHs
import Derived.Test.YtappgjdiplibbaaGreatYGTe
import Derived.Test.YtappgjdiplibbaaGreatYGCa
set_option maxRecDepth 100000
set_option linter.all false
set_option maxHeartbeats 4000000
open List renaming getElem?_eq_getElem->γ,length_map->δ,mem_of_getElem?->ε,drop_eq_getElem_cons->ζ,mem_cons_self->η,mem_cons_of_mem->θ,foldl_cons->ι,map_append->κ,flatMap_cons->ν,getElem?_map->ξ,map_cons->ο,mem_cons->ς,length_cons->τ,length->υ,eraseIdx_eq_take_drop_succ->φ,getElem?_eq_some_iff->ψ,length_eq_zero_iff->Δ,foldl->Θ,take_of_length_le->Ξ,mem_append->Φ,getElem?_eq_none->Ψ,length_append->Qaf,mem_singleton->Qag,append_assoc->Qah,any_append->Qai,drop_eq_nil_of_le->Qc6,length_singleton->Qc8,take_append_drop->Qc9,flatMap_append->Qca,take_add_one->Qce,any_eq_true->Qcg,mem_flatMap->Qch,mem_flatten->Qci,not_mem_nil->Qcj,take_length->Qck,mem_filter->Qcl,mem_map->Qco
open Nat renaming reduceAdd->μ,le_refl->ρ,reduceSub->Qak
open UInt8 renaming ofNat->π
open Option renaming some->χ,bind_some->Qcc,map_some->Qcf
open Bool renaming false_or->ω,and_eq_true->Γ,and_eq_false_iff->Qc7,not_eq_true'->Qcd
open Go.Utf8 renaming encode->Ω,valid->Qcp
open Go.V renaming Rows->Qaj
open Go.V.Fr renaming clean->Qcb,get->Qcm,put->Qcn,eS->Qcq,ev->Qcr
open Go.V.D renaming bool->wt,int->J,nul->j5,ptr->yv,str->yR,win->yt
open Go.IntKind renaming i64->W
open Go.V.mc renaming mem->zm
open Or renaming inl->xR,inr->j4
open Go.V.aX renaming box->x4
namespace Go.Proofs.YtappgjdiplibbaaGreat
open Go.V Go
def U7 (n:aQ):aQ:={n with rd:=az n.rs}
mutual
def Q.cl:Q->Q
 | .mk n ks=>.mk {n with kids:=0,rd:=az n.rs} ks.cl
def aG.cl:aG->aG
 | .nil=>.nil
 | .cons t ts=>.cons t.cl ts.cl
end
theorem Ep:∀ks:aG,ks.cl.l=ks.l.map Q.cl
 | .nil=>rfl
 | .cons t ts=>by simp[aG.cl,aG.l,Ep ts]
theorem S' (l:List Q):(aE l).cl=aE (l.map Q.cl):=by
 induction l with
 |nil=>rfl
 |cons t l ih=>simp[aE,aG.cl,ih]
theorem yJ (n:aQ) (l:List Q):(Q.mk n (aE l)).cl=.mk {n with kids:=0,rd:=az n.rs} (aE (l.map Q.cl)):=by
 simp[Q.cl,S']
theorem Q.Bq (t:Q):t.cl.n={t.n with kids:=0,rd:=az t.n.rs}:=by cases t;rfl
def Q.xc (t:Q):t.cl.ks=t.ks.map Q.cl:=by
 cases t;simp[Q.cl,Q.ks,Ep]
mutual
theorem Q.xe:∀t:Q,t.cl.hU=t.hU.map U7
 | .mk n ks=>by
  have h1:=aG.xe ks;have X:ks.cl.len=ks.len:=by rw[<-iZ,<-iZ,Ep,δ]
  simp[Q.cl,Q.hU,h1,X,U7]
theorem aG.xe:∀ts:aG,ts.cl.hU=ts.hU.map U7
 | .nil=>rfl
 | .cons t ts=>by simp[aG.cl,aG.hU,Q.xe t,aG.xe ts]
end
mutual
theorem Q.oQ:∀t aa:Q,t.cl.same aa.cl=t.same aa
 | .mk n ks,.mk m js=>by simp[Q.cl,Q.same,aG.oQ ks js]
theorem aG.oQ:∀ts us:aG,ts.cl.same us.cl=ts.same us
 | .nil,.nil=>rfl
 | .cons t ts,.cons aa us=>by simp[aG.cl,aG.same,Q.oQ t aa,aG.oQ ts us]
 | .nil,.cons _ _=>by simp[aG.cl,aG.same]
 | .cons _ _,.nil=>by simp[aG.cl,aG.same]
end
mutual
theorem Q.tn:∀t:Q,t.cl.lA=t.lA
 | .mk n ks=>by simp[Q.cl,Q.lA,aG.tn ks]
theorem aG.tn:∀ts:aG,ts.cl.lA=ts.lA
 | .nil=>rfl
 | .cons t ts=>by simp[aG.cl,aG.lA,Q.tn t,aG.tn ts]
end
mutual
def Q.c2:Q->Q
 | .mk n ks=>.mk ⟨n.op,.nul,n.rs,n.mn,n.mx,n.lz,n.cap,0⟩ ks.c2
def aG.c2:aG->aG
 | .nil=>.nil
 | .cons t ts=>.cons t.c2 ts.c2
end
mutual
theorem Q.ot:∀t aa:Q,t.same aa=true↔t.c2=aa.c2
 | .mk n ks,.mk m js=>by
  have h:=aG.ot ks js;simp only[Q.same,Q.c2,Γ,beq_iff_eq,h,Q.mk.injEq,aQ.mk.injEq];constructor
  .rintro⟨⟨⟨⟨⟨⟨h1,X⟩,h3⟩,h4⟩,h5⟩,h6⟩,h7⟩;exact⟨⟨h1,trivial,h6,X,h3,h4,h5,trivial⟩,h7⟩
  .rintro⟨⟨h1,_,h6,X,h3,h4,h5,_⟩,h7⟩;exact⟨⟨⟨⟨⟨⟨h1,X⟩,h3⟩,h4⟩,h5⟩,h6⟩,h7⟩
theorem aG.ot:∀ts us:aG,ts.same us=true↔ts.c2=us.c2
 | .nil,.nil=>by simp[aG.same,aG.c2]
 | .cons t ts,.cons aa us=>by simp[aG.same,aG.c2,Q.ot t aa,aG.ot ts us]
 | .nil,.cons _ _=>by simp[aG.same,aG.c2]
 | .cons _ _,.nil=>by simp[aG.same,aG.c2]
end
def ij (l:List Q):List Q:=l.flatMap λt=>if t.n.op=1 then[] else if t.n.op=3 then t.ks else[t]
def tO:∀l:List Q,(∀t∈l,t.n.op=3->∀k∈t.ks,k.n.op≠1)->ij l=(aJ 3 l).filter λt=>t.n.op !=1
 |[],_=>rfl
 |t::l,h=>by
  have ih:=tO l λx hx=>h x (θ _ hx);have ht:=h t (η ..);unfold ij aJ at ih|-;rw[ν,ν,List.filter_append,ih]
  congr 1
  by_cases h1:t.n.op=1;·rw[if_pos h1,if_neg GB];simp[h1]
  rw[if_neg h1]
  by_cases h3:t.n.op=3;·rw[if_pos h3];exact(List.filter_eq_self.2 λk A=>by simpa using ht h3 k A).symm
  rw[if_neg h3];simp[h1]
def jt:List Q->List Q->List Q
 |_,[]=>[]
 |uG,t::l=>if uG.any (λx=>x.same t)=true then jt (uG++[t]) l else t::jt (uG++[t]) l
def yu (l:List Q):List Q:=jt [] l
def th:∀(l uG out:List Q),(∀t,uG.any (λx=>x.same t)=out.any (λx=>x.same t))->out++jt uG l=l.foldl (λout k=>if out.any (λx=>x.same k)=true then out else out++[k]) out
 |[],uG,out,h=>by simp[jt]
 |t::l,uG,out,h=>by
  rw[ι,jt]
  by_cases hc:uG.any (λx=>x.same t)=true
  .rw[if_pos hc,if_pos (by rw[<-h];exact hc)];refine th l _ _ λaa=>?_;rw[Qai,h]
   by_cases ho:out.any (λx=>x.same aa)=true;·rw[ho];rfl
   have hf:out.any (λx=>x.same aa)=false:=by simpa using ho
   rw[hf,ω];simp;rw[Bool.eq_false_iff];intro hs;rw[h] at hc;obtain⟨x,hx,hxt⟩:=Qcg.1 hc;refine ho (Qcg.2 ⟨x,hx,?_⟩);rw[Q.ot] at*;exact hxt.trans hs
  have h_:¬out.any (λx=>x.same t)=true:=by rw[<-h];exact hc
  rw[if_neg hc,if_neg h_,<-th l (uG++[t]) (out++[t]) λaa=>by rw[Qai,Qai,h]];simp
def iP (l:List Q):yu l=bo l:=by
 have:=th l [] [] λ_=>rfl
 simpa[yu,bo] using this
def yi (op:Int) (l:List Q):aJ op (l.map Q.cl)=(aJ op l).map Q.cl:=by
 unfold aJ
 induction l with
 |nil=>rfl
 |cons t l ih=>
  rw[ο,ν,ν,κ,ih]
  congr 1
  rw[Q.Bq]
  by_cases h:t.n.op=op;·rw[if_pos h,if_pos h,Q.xc]
  rw[if_neg h,if_neg h];rfl
def Tn (out:List Q) (k:Q):(out.map Q.cl).any (λx=>x.same k.cl)=out.any λx=>x.same k:=by
 rw[List.any_map]
 congr 1
 funext x;exact Q.oQ x k
theorem K8 (l:List Q):∀out:List Q,(l.map Q.cl).foldl (λout k=>if out.any (λx=>x.same k)=true then out else out++[k]) (out.map Q.cl)=(l.foldl (λout k=>if out.any (λx=>x.same k)=true then out else out++[k]) out).map Q.cl:=by
 induction l with
 |nil=>intro out;rfl
 |cons t l ih=>
  intro out;rw[ο,ι,ι,Tn,<-ih]
  congr 1
  split;·rfl
  rw[κ];rfl
theorem Om (l:List Q):bo (l.map Q.cl)=(bo l).map Q.cl:=K8 l []
def S_ (a b:List Rg):(kv a b).cl=kv a b:=rfl
def OO (out:List Q) (k:Q):dz (out.map Q.cl) k.cl=(dz out k).map Q.cl:=by
 unfold dz;rw[List.getLast?_map]
 cases out.getLast? with
 |none=>simp only[Option.map_none,κ];rfl
 |some t=>
  simp only[Qcf,Q.Bq]
  by_cases h:k.n.op=2/\t.n.op=2;·rw[if_pos h,if_pos h,List.map_set,δ,S_]
  rw[if_neg h,if_neg h,κ];rfl
def Fp (l:List Q):∀out:List Q,(l.map Q.cl).foldl dz (out.map Q.cl)=(l.foldl dz out).map Q.cl:=by
 induction l with
 |nil=>intro out;rfl
 |cons t l ih=>intro out;rw[ο,ι,ι,OO,ih]
theorem IL (l:List Q):aS (l.map Q.cl)=(aS l).map Q.cl:=Fp l []
def Bw:∀(f:Nat) (l:List Q),eH f (l.map Q.cl)=(eH f l).map Q.cl
 |0,_=>rfl
 |f+1,l=>by
  simp[eH,Om,IL]
  split;·rfl
  exact Bw f _
def wT {f:List Q->Q->List Q} (hf:∀out k,f out k=out++[k]\/(f out k).length<=out.length):∀(l out:List Q),(l.foldl f out).length=out.length+l.length->l.foldl f out=out++l
 |[],out,_=>by simp
 |t::l,out,h=>by
  have hle:∀(l out:List Q),(l.foldl f out).length<=out.length+l.length:=by
   intro l
   induction l with
   |nil=>intro out;simp
   |cons a l ih=>
    intro out;rw[ι,τ];have h1:=ih (f out a)
    rcases hf out a with X|X
    .rw[X] at h1|-;rw[Qaf,Qc8] at h1;omega
    omega
  rw[ι,τ] at h;rw[ι]
  rcases hf out t with X|X
  .rw[X] at h|-;rw[wT hf l (out++[t]) (by rw[Qaf,Qc8];omega)];simp
  have:=hle l (f out t);omega
variable{l:List Q}
def Oi (h:(bo l).length=l.length):bo l=l:=by
 have:=wT (f:=λout k=>if out.any (λx=>x.same k)=true then out else out++[k]) (λout k=>by
  by_cases hc:out.any (λx=>x.same k)=true;·exact j4 (by simp only[if_pos hc];exact ρ _)
  exact xR (by simp only[if_neg hc])) l [] (by simpa[bo] using h)
 simpa[bo] using this
def IJ (h:(aS l).length=l.length):aS l=l:=by
 have:=wT (f:=dz) (λout k=>by
  unfold dz
  cases out.getLast? with
  |none=>exact xR rfl
  |some t=>
   by_cases hc:k.n.op=2/\t.n.op=2;·exact j4 (by simp only[if_pos hc,List.length_set];exact ρ _)
   exact xR (by simp[if_neg hc])) l [] (by simpa[aS] using h)
 simpa[aS] using this
def Ox (h:(aS (bo l)).length=l.length):aS (bo l)=l:=by
 have h1:(aS (bo l)).length<=(bo l).length:=by
  have:=kJ (bo l) []
  simpa[aS] using this
 have X:(bo l).length<=l.length:=by
  have:=yz l []
  simpa[bo] using this
 have h3:=Oi (l:=l) GB;rw[h3] at h|-;exact IJ h
noncomputable def jz:Nat->List Q->List Q
 |0,l=>aS (bo l)
 |f+1,l=>if(aS (bo l)).length<l.length then jz f (aS (bo l)) else aS (bo l)
def Gz:∀(f:Nat) (l:List Q),l.length<=f->jz f l=eH f l
 |0,l,h=>by
  have:l=[]:=Δ.1 GB;subst this;rfl
 |f+1,l,h=>by
  have h1:=x_ l;simp[jz,eH]
  by_cases hc:(aS (bo l)).length=l.length;·rw[if_neg GB,if_pos hc,Ox hc]
  rw[if_pos GB,if_neg hc];exact Gz f _ GB
def Q6 (n:aQ) (k:Q) (l:List Q):Q:=
 if k.n.op=1 then k
 else if n.mn=1/\n.mx=1 then k
 else if n.mx=0/\k.lA=false then .mk ⟨1,j5,[],0,0,false,0,0⟩ .nil
 else if(eA {n with lz:=if n.mn=n.mx then false else n.lz} &&(eA k.n &&mY k.ks))=true then .mk {k.n with mn:=k.n.mn*n.mn} (aE k.ks)
 else .mk {n with lz:=if n.mn=n.mx then false else n.lz} (aE l)
def Vg (n:aQ):(if n.mn=n.mx then false else n.lz)=(n.lz &&n.mn !=n.mx):=by
 by_cases h:n.mn=n.mx;·rw[if_pos h,h];simp
 rw[if_neg h];simp[h]
def C_ (l:List Q):mY (l.map Q.cl)=mY l:=by
 cases l with
 |nil=>rfl
 |cons t l=>simp[mY,Q.Bq]
def NZ (n:aQ) (k:Q) (l:List Q):(Q6 n k l).cl=(pz n k l).cl:=by
 unfold Q6 pz;rw[Vg]
 split;·rfl
 split;·rfl
 split;·simp[z8,IB,aE,Q.cl,aG.cl]
 rfl
theorem Q9 (n:aQ) (k k':Q) (l l':List Q) (A:k.cl=k'.cl) (hl:l.map Q.cl=l'.map Q.cl):(pz n k l).cl=(pz n k' l').cl:=by
 have h1:k.cl.n=k'.cl.n:=by rw[A]
 rw[Q.Bq,Q.Bq,aQ.mk.injEq] at h1;obtain⟨o1,o2,o3,o4,o5,o6,o7,_⟩:=h1;have X:k.lA=k'.lA:=by rw[<-Q.tn,A,Q.tn]
 have h3:k.ks.map Q.cl=k'.ks.map Q.cl:=by rw[<-Q.xc,A,Q.xc]
 have h4:mY k.ks=mY k'.ks:=by rw[<-C_,h3,C_]
 have h5:eA k.n=eA k'.n:=by unfold eA;rw[o1,o4,o5,o6]
 unfold pz;rw[o1,X,h4,h5]
 split;·exact A
 split;·exact A
 split;·rfl
 split;·simp[yJ,h3,o1,o3,o4,o5,o6,o7]
 simp[yJ,hl]
mutual
def Q.ne:Q->Prop
 | .mk n ks=>((n.op=3->∀k∈ks.l,k.n.op≠1)/\(n.op=4->ks.l≠[]))/\ks.ne
def aG.ne:aG->Prop
 | .nil=>True
 | .cons t ts=>t.ne/\ts.ne
end
theorem JY:∀{ks:aG},ks.ne↔∀t∈ks.l,t.ne
 | .nil=>by simp[aG.ne,aG.l]
 | .cons t ts=>by simp[aG.ne,aG.l,JY (ks:=ts)]
variable{t:Q}
theorem Q.ne_eq:t.ne↔((t.n.op=3->∀k∈t.ks,k.n.op≠1)/\(t.n.op=4->t.ks≠[]))/\∀k∈t.ks,k.ne:=by
 cases t with
 |mk n ks=>simp only[Q.ne,Q.n,Q.ks,JY]
variable{n:aQ}
def GU:(Q.mk n (aE l)).ne↔((n.op=3->∀k∈l,k.n.op≠1)/\(n.op=4->l≠[]))/\∀k∈l,k.ne:=by
 rw[Q.ne_eq];simp only[Q.n,Q.ks,mR]
variable{op:Int}
def ye (h:∀t∈l,t.ne):∀t∈aJ op l,t.ne:=by
 intro t ht;unfold aJ at ht;obtain⟨aa,hu,IV⟩:=Qch.1 ht
 split at IV;·exact(Q.ne_eq.1 (h aa hu)).2 t IV
 rw[Qag.1 IV];exact h aa hu
def Oh (h:∀t∈l,t.ne):∀t∈bo l,t.ne:=by
 unfold bo;refine ji (P:=λ(out:List Q)=>∀t∈out,t.ne) (λb a ha F=>?_) [] (λt ht=>by cases ht)
 split;·exact F
 intro t ht
 rcases Φ.1 ht with ht|ht
 .exact F t ht
 rw[Qag.1 ht];exact h a ha
def S8 (a b:List Rg):(kv a b).ne:=by
 unfold kv;simp only[Q.ne,aG.ne,and_true];exact⟨λh=>absurd h AN,λh=>absurd h AN⟩
def II (h:∀t∈l,t.ne):∀t∈aS l,t.ne:=by
 unfold aS;refine ji (P:=λ(out:List Q)=>∀t∈out,t.ne) (λb a ha F=>?_) [] (λt ht=>by cases ht)
 have Pk:∀t∈b++[a],t.ne:=λt ht=>by
  rcases Φ.1 ht with ht|ht
  .exact F t ht
  rw[Qag.1 ht];exact h a ha
 unfold dz
 split
 .split
  .intro t ht
   rcases List.mem_or_eq_of_mem_set ht with ht|rfl
   .exact F t ht
   exact S8 _ _
  exact Pk
 exact Pk
def HR:∀(f:Nat) {l:List Q},(∀t∈l,t.ne)->∀t∈eH f l,t.ne
 |0,_,h=>h
 |f+1,l,h=>by
  simp[eH]
  split;·exact h
  exact HR f (II (Oh h))
def Er (op:Int) (h:∀t∈l,t.ne) (h3:op=3->∀t∈l,t.n.op≠1) (h4:op=4->l≠[]):(z8 op l).ne:=GU.2 ⟨⟨h3,h4⟩,h⟩
def BP (op:Int) (h:∀t∈l,t.ne) (h3:op=3->∀t∈l,t.n.op≠1):(gm op l).ne:=by
 unfold gm
 split;·exact Er 1 (λt ht=>by cases ht) (λh=>absurd h AN) (λh=>absurd h AN)
 .exact h _ (η ..)
 rename_i hne _;exact Er op h h3 λ_=>hne
theorem Q7 {k:Q} (hn:n.op=5) (h:∀t∈l,t.ne) (A:k∈l):(pz n k l).ne:=by
 unfold pz
 split;·exact h k A
 split;·exact h k A
 split;·exact Er 1 (λt ht=>by cases ht) (λh=>absurd h AN) (λh=>absurd h AN)
 split;next ho=>simp only[Γ,eA,beq_iff_eq] at ho;have h5:=ho.2.1.1.1.1;exact GU.2 ⟨⟨λh3=>by simp only at h3;omega,λh3=>by simp only at h3;omega⟩,(Q.ne_eq.1 (h k A)).2⟩
 exact GU.2 ⟨⟨λh3=>by simp only at h3;omega,λh3=>by simp only at h3;omega⟩,h⟩
def Lp (n:aQ) (h:∀t∈l,t.ne):(mX n l).ne:=by
 unfold mX
 split
 .refine BP 3 (λt ht=>ye h t (Qcl.1 ht).1) λ_ t ht=>?_;have:=(Qcl.1 ht).2
  simpa using this
 split;·exact BP 4 (HR _ (ye h)) λh=>absurd h AN
 split
 .rename_i h5
  split;·exact Q7 h5 h (η ..)
  simp only[Q.ne,aG.ne,and_true];exact⟨λh3=>by omega,λh3=>by omega⟩
 rename_i h3 h4 _;exact GU.2 ⟨⟨λh=>absurd h h3,λh=>absurd h h4⟩,h⟩
mutual
def Q.rC:∀t:Q,t.less.ne
 | .mk n ks=>by simp[Q.less];exact Lp n (aG.rC ks)
def aG.rC:∀ts:aG,∀t∈ts.less,t.ne
 | .nil=>λt ht=>by simp[aG.less] at ht
 | .cons t ts=>λaa hu=>by
  simp[aG.less] at hu
  rcases hu with rfl|hu
  .exact Q.rC t
  .exact aG.rC ts aa hu
end
noncomputable def fP (n:aQ) (l:List Q):Q:=
 if n.op=3 then(match ij l with|[]=>.mk ⟨1,j5,[],0,0,false,0,0⟩ .nil|[t]=>t|K=>.mk n (aE K))
 else if n.op=4 then(match jz (aJ 4 l).length (aJ 4 l) with|[t]=>t|K=>.mk n (aE K))
 else if n.op=5 then(match l with|k::_=>Q6 n k l|[]=>.mk n .nil)
 else .mk n (aE l)
mutual
noncomputable def Q.di:Q->Q
 | .mk n ks=>fP n ks.di
noncomputable def aG.di:aG->List Q
 | .nil=>[]
 | .cons t ts=>t.di::ts.di
end
def Gy (l:List Q):ij (l.map Q.cl)=(ij l).map Q.cl:=by
 unfold ij
 induction l with
 |nil=>rfl
 |cons t l ih=>
  rw[ο,ν,ν,κ,ih]
  congr 1
  rw[Q.Bq]
  by_cases h1:t.n.op=1;·rw[if_pos h1,if_pos h1];rfl
  rw[if_neg h1,if_neg h1]
  by_cases h3:t.n.op=3;·rw[if_pos h3,if_pos h3,Q.xc]
  rw[if_neg h3,if_neg h3];rfl
def ze {f:List Q->Q->List Q} (hf:∀out k,out.length<=(f out k).length) (l:List Q):∀out:List Q,out.length<=(l.foldl f out).length:=by
 induction l with
 |nil=>intro out;exact ρ _
 |cons t l ih=>intro out;rw[ι];exact Nat.le_trans (hf out t) (ih _)
theorem K7 (h:l≠[]):bo l≠[]:=by
 cases l with
 |nil=>exact absurd rfl h
 |cons t l=>
  intro he
  have h1:=ze (f:=λout k=>if out.any (λx=>x.same k)=true then out else out++[k]) (λout k=>by
   by_cases hc:out.any (λx=>x.same k)=true;·simp only[if_pos hc];exact ρ _
   simp only[if_neg hc,Qaf];omega) l [t]
  have X:bo (t::l)=l.foldl (λout k=>if out.any (λx=>x.same k)=true then out else out++[k]) [t]:=rfl;rw[<-X,he] at h1;simp at h1
def Fo (h:l≠[]):aS l≠[]:=by
 cases l with
 |nil=>exact absurd rfl h
 |cons t l=>
  intro he
  have h1:=ze (f:=dz) (λout k=>by
   unfold dz
   split
   .split;·simp
    simp
   simp) l [t]
  have X:aS (t::l)=l.foldl dz [t]:=rfl;rw[<-X,he] at h1;simp at h1
def D7:∀(f:Nat) {l:List Q},l≠[]->eH f l≠[]
 |0,_,h=>h
 |f+1,l,h=>by
  simp only[eH]
  split;·exact h
  exact D7 f (Fo (K7 h))
variable{L:List Q}
def Ez (h:L≠[]) (hne:∀t∈L,t.ne):aJ 4 L≠[]:=by
 cases L with
 |nil=>exact absurd rfl h
 |cons t L=>
  unfold aJ;rw[ν];intro he;have h1:=(List.append_eq_nil_iff.1 he).1
  split at h1;next h4=>exact(Q.ne_eq.1 (hne t (η ..))).1.2 h4 h1
  cases h1
def Lh (B:bD n=true) (ho:n.op=3\/n.op=4):({n with kids:=0,rd:=az n.rs}:aQ)={IB n.op with kids:=0,rd:=az (IB n.op).rs}:=by
 obtain⟨op,rd,rs,mn,mx,lz,cap,kids⟩:=n;unfold bD at B;simp only at ho;have o2:(op==2)=false:=by simp;omega
 have o5:(op==5)=false:=by simp;omega
 have o6:(op==6)=false:=by simp;omega
 simp only[o2,o5,o6,ω,Γ,beq_iff_eq,Qcd] at B;obtain⟨⟨h1,⟨X,h3⟩,h4⟩,h5⟩:=B;have h6:rs=[]:=Δ.1 GB;subst h6;subst X;subst h3;subst h4;subst h5
 rfl
def xX {K K':List Q} {E:Q} (hE:E.cl=(z8 1 []).cl) (B:bD n=true) (ho:n.op=3\/n.op=4) (hK:K.map Q.cl=K'.map Q.cl):(match K with|[]=>E|[t]=>t|K=>Q.mk n (aE K)).cl=(gm n.op K').cl:=by
 match K,K',hK with
 |[],[],_=>exact hE
 |[t],[aa],h=>simp at h;exact h
 |a::b::K,c::d::K',h=>
  show(Q.mk n (aE (a::b::K))).cl=(z8 n.op (c::d::K')).cl;unfold z8;rw[yJ,yJ,h,Lh B ho]
 |[],_::_,h=>simp at h
 |_::_,[],h=>simp at h
 |[_],_::_::_,h=>simp at h
 |_::_::_,[_],h=>simp at h
def Ib (h:l.map Q.cl=L.map Q.cl) (hne:∀t∈L,t.ne) (B:bD n=true) (h4:n.op=4->L≠[]):(fP n l).cl=(mX n L).cl:=by
 unfold fP mX
 by_cases o3:n.op=3
 .rw[if_pos o3,if_pos o3]
  have hK:(ij l).map Q.cl=((aJ 3 L).filter λt=>t.n.op !=1).map Q.cl:=by
   rw[<-Gy,h,Gy,tO L λt ht hh=>(Q.ne_eq.1 (hne t ht)).1.1 hh]
  have:=xX (n:=n) (E:=.mk ⟨1,j5,[],0,0,false,0,0⟩ .nil) rfl B (xR o3) hK;rw[o3] at this;exact this
 rw[if_neg o3,if_neg o3]
 by_cases o4:n.op=4
 .rw[if_pos o4,if_pos o4,Gz _ _ (ρ _)];have hsp:(aJ 4 l).map Q.cl=(aJ 4 L).map Q.cl:=by rw[<-yi,h,yi]
  have Nz:(aJ 4 l).length=(aJ 4 L).length:=by have:=congrArg υ hsp;simpa using this
  have hK:(eH (aJ 4 l).length (aJ 4 l)).map Q.cl=(eH (aJ 4 L).length (aJ 4 L)).map Q.cl:=by
   rw[<-Bw,<-Bw,hsp,Nz]
  have RW:=D7 (aJ 4 L).length (Ez (h4 o4) hne);have:=xX (n:=n) (E:=z8 1 []) rfl B (j4 o4) hK;rw[o4] at this;rw[<-this];generalize eH (aJ 4 l).length (aJ 4 l)=K at hK
  cases K with
  |nil=>exact absurd (List.map_eq_nil_iff.1 hK.symm) RW
  |cons a K=>cases K<;>rfl
 rw[if_neg o4,if_neg o4]
 by_cases o5:n.op=5
 .rw[if_pos o5,if_pos o5]
  match l,L,h with
  |[],[],_=>rfl
  |k::l,k'::L,h=>
   simp only;have A:k.cl=k'.cl:=by simp at h;exact h.1
   rw[NZ];exact Q9 n k k' _ _ A h
  |[],_::_,h=>simp at h
  |_::_,[],h=>simp at h
 rw[if_neg o5,if_neg o5,yJ,yJ,h]
mutual
theorem Q.jU:∀t:Q,t.ok->(t.fa λn=>bD n=true)->t.di.cl=t.less.cl
 | .mk n ks,h,B=>by
  simp[Q.ok] at h;simp[Q.fa] at B;simp[Q.di,Q.less];refine Ib (aG.jU ks h.2 B.2) (aG.rC ks) B.1 λo4 he=>?_;have h1:=h.1;unfold mV at h1;have X:ks.less.length=ks.len:=by rw[qQ,δ,iZ]
  rw[he] at X;simp at X;omega
theorem aG.jU:∀ts:aG,ts.ok->(ts.fa λn=>bD n=true)->ts.di.map Q.cl=ts.less.map Q.cl
 | .nil,_,_=>rfl
 | .cons t ts,h,B=>by
  simp[aG.ok] at h;simp[aG.fa] at B;simp[aG.di,aG.less,Q.jU t h.1 B.1,aG.jU ts h.2 B.2]
end
mutual
def xV (U:St):Q->List D->Prop
 | .mk n ks,c=>∃(x:D) (cs:List (List D)),c=bQ n x/\Qaj U 8 x cs/\lq U ks cs
def lq (U:St):aG->List (List D)->Prop
 | .nil,cs=>cs=[]
 | .cons t ts,cs=>∃(c:List D) (cs':List (List D)),cs=c::cs'/\xV U t c/\lq U ts cs'
end
variable{U:St}{c:List D}
def xV.to (h:xV U t c):∃(x:D) (cs:List (List D)),c=bQ t.n x/\Qaj U 8 x cs/\lq U (aE t.ks) cs:=by
 cases t with
 |mk n ks=>
  unfold xV at h
  simpa only[Q.n,Q.ks,sH] using h
theorem lq.len:∀{ts:List Q} {cs:List (List D)},lq U (aE ts) cs->cs.length=ts.length
 |[],cs,h=>by unfold aE lq at h;rw[h];rfl
 |t::ts,cs,h=>by
  unfold aE lq at h;obtain⟨c,cs',rfl,_,X⟩:=h;rw[τ,τ,X.len]
theorem lq.at:∀{ts:List Q} {cs:List (List D)} {i:Nat} {t:Q},lq U (aE ts) cs->ts[i]?=some t->∃c,cs[i]?=some c/\xV U t c
 |[],cs,i,t,h,hi=>by simp at hi
 |aa::ts,cs,0,t,h,hi=>by
  unfold aE lq at h;obtain⟨c,cs',rfl,h1,_⟩:=h;simp at hi;subst hi;exact⟨c,rfl,h1⟩
 |aa::ts,cs,i+1,t,h,hi=>by
  unfold aE lq at h;obtain⟨c,cs',rfl,_,X⟩:=h;simp at hi|-;exact X.at hi
mutual
def xV.grow {Y S U:St} {H:List aX} (aP:S.bs=Y.bs) (O:Has Y.bs.length S U H):∀{t:Q} {c:List D},xV Y t c->xV U t c
 | .mk n ks,c,h=>by
  unfold xV at h|-;obtain⟨x,cs,h1,X,h3⟩:=h;exact⟨x,cs,h1,(Arg.of X aP).rows O,lq.grow aP O h3⟩
def lq.grow {Y S U:St} {H:List aX} (aP:S.bs=Y.bs) (O:Has Y.bs.length S U H):∀{ts:aG} {cs:List (List D)},lq Y ts cs->lq U ts cs
 | .nil,cs,h=>by unfold lq at h|-;exact h
 | .cons t ts,cs,h=>by
  unfold lq at h|-;obtain⟨c,cs',h1,X,h3⟩:=h;exact⟨c,cs',h1,xV.grow aP O X,lq.grow aP O h3⟩
end
mutual
def Bx.rd {N:Nat} {S U:St}:∀{t:Q} {c:List D} {E hk:List aX},Bx t c E->Has N S U (hk++E)->xV U t c
 | .mk n ks,c,E,hk,h,O=>by
  unfold Bx at h;obtain⟨x,cs,E',rfl,B,A⟩:=h;have h1:=Has.perm B O;unfold xV;exact⟨x,cs,rfl,h1.rows (j:=hk.length) (by simp),iH.rd (hk:=hk++[.ai x 8 cs]) A (by simpa using h1)⟩
def iH.rd {N:Nat} {S U:St}:∀{ts:aG} {cs:List (List D)} {E hk:List aX},iH ts cs E->Has N S U (hk++E)->lq U ts cs
 | .nil,cs,E,hk,h,O=>by unfold iH at h;unfold lq;exact h.1
 | .cons t ts,cs,E,hk,h,O=>by
  unfold iH at h;obtain⟨c,cs',E1,E2,rfl,B,h1,X⟩:=h;have h3:=Has.perm B O;unfold lq
  have h4:Has N S U (hk++E1):=by
   have h4:=h3.take (hk.length+E1.length);rw[<-Qah,List.take_append_of_le_length (by simp),Ξ (by simp)] at h4;exact h4
  exact⟨c,cs',rfl,Bx.rd (hk:=hk) h1 h4,iH.rd (hk:=hk++E1) X (by simpa using h3)⟩
end
def jD (n:aQ):Prop:=(n.rd=az n.rs\/(n.rd=j5/\n.rs=[]))/\n.rs.length<=1048576
def jD.rows {n:aQ} (h:jD n) (U:St):Qaj U 2 n.rd (n.rs.map ak):=by
 rcases h.1 with h|⟨h,X⟩
 .rw[h];exact bC U _
 .rw[h,X];exact .nul
def jD.pure (h:jD n) (U:St) (L k:Nat):b_ U L (k+1) n.rd=some (az n.rs):=by
 rcases h.1 with h|⟨h,X⟩
 .rw[h];rfl
 rw[h,X];rfl
def jD.of (h:lv n):jD n:=⟨xR h.1,h.2⟩
mutual
def Q.DV:∀{t:Q},t.fa jD->t.cl.fa lv
 | .mk n ks,h=>by
  simp[Q.fa] at h;simp[Q.cl,Q.fa];exact⟨⟨rfl,h.1.2⟩,aG.DV h.2⟩
def aG.DV:∀{ts:aG},ts.fa jD->ts.cl.fa lv
 | .nil,_=>by simp[aG.cl,aG.fa]
 | .cons t ts,h=>by
  simp[aG.fa] at h;simp[aG.cl,aG.fa];exact⟨Q.DV h.1,aG.DV h.2⟩
end
mutual
theorem Q.mM:∀t:Q,t.cl.dF=t.dF
 | .mk n ks=>by simp[Q.cl,Q.dF,aG.mM ks]
theorem aG.mM:∀ts:aG,ts.cl.dF=ts.dF
 | .nil=>by simp[aG.cl]
 | .cons t ts=>by simp[aG.cl,aG.dF,Q.mM t,aG.mM ts]
end
def u_ (h:t.fa jD) (hc:t.dF<=1048576):∀n∈t.cl.hU,ki n:=Q.rU _ (Q.DV h) (by rw[Q.mM];exact hc)
def tl (t:Q):t.cl.hU.length=t.dF:=by rw[Q.kO,Q.mM]
def key (n:aQ):aQ:={n with rd:=j5}
mutual
def Q.key_inj:∀(t aa:Q) (r r':List aQ),t.hU.map key++r=aa.hU.map key++r'->t.c2=aa.c2/\r=r'
 | .mk n ks,.mk m js,r,r',h=>by
  simp only[Q.hU,ο,List.cons_append,List.cons.injEq,key,aQ.mk.injEq] at h;obtain⟨⟨h1,_,X,h3,h4,h5,h6,h7⟩,h8⟩:=h;obtain⟨h9,h10⟩:=aG.key_inj ks js r r' (by omega) h8;exact⟨by simp[Q.c2,h1,X,h3,h4,h5,h6,h9],h10⟩
def aG.key_inj:∀(ts us:aG) (r r':List aQ),ts.len=us.len->ts.hU.map key++r=us.hU.map key++r'->ts.c2=us.c2/\r=r'
 | .nil,.nil,r,r',_,h=>⟨rfl,by simpa[aG.hU] using h⟩
 | .cons t ts,.cons aa us,r,r',hl,h=>by
  simp[aG.hU] at h;simp only[aG.len] at hl;obtain⟨h1,X⟩:=Q.key_inj t aa _ _ h;obtain⟨h3,h4⟩:=aG.key_inj ts us r r' (by omega) X;exact⟨by simp[aG.c2,h1,h3],h4⟩
 | .nil,.cons aa us,_,_,hl,_=>by simp only[aG.len] at hl;omega
 | .cons t ts,.nil,_,_,hl,_=>by simp only[aG.len] at hl;omega
end
mutual
def Q.xh:∀(t aa:Q),t.c2=aa.c2->t.hU.map key=aa.hU.map key
 | .mk n ks,.mk m js,h=>by
  simp only[Q.c2,Q.mk.injEq,aQ.mk.injEq] at h;obtain⟨⟨h1,_,X,h3,h4,h5,h6,_⟩,h8⟩:=h;obtain⟨h9,h10⟩:=aG.xh ks js h8;simp[Q.hU,h9,h10,key,h1,X,h3,h4,h5,h6]
def aG.xh:∀(ts us:aG),ts.c2=us.c2->ts.hU.map key=us.hU.map key/\ts.len=us.len
 | .nil,.nil,_=>⟨rfl,rfl⟩
 | .cons t ts,.cons aa us,h=>by
  simp[aG.c2] at h;have h1:=Q.xh t aa h.1;obtain⟨h3,h4⟩:=aG.xh ts us h.2;simp[aG.hU,h1,h3,aG.len,h4]
 | .nil,.cons aa us,h=>by simp[aG.c2] at h
 | .cons t ts,.nil,h=>by simp[aG.c2] at h
end
def Km (t aa:Q):t.same aa=true↔t.cl.hU.map key=aa.cl.hU.map key:=by
 rw[<-Q.oQ,Q.ot];exact⟨Q.xh _ _,λh=>(Q.key_inj _ _ [] [] (by rw[h])).1⟩
structure Tz where
 t:Q
 c:List D
 E:List aX
def Tz.ok (z:Tz):Prop:=Bx z.t z.c z.E
def zT (Z:List Tz):List Q:=Z.map (·.t)
def zC (Z:List Tz):List (List D):=Z.map (·.c)
def zEE (Z:List Tz):List aX:=Z.flatMap (·.E)
def BV:∀{ts:List Q} {cs:List (List D)} {E:List aX},iH (aE ts) cs E->∃Z:List Tz,(∀z∈Z,z.ok)/\ts=zT Z/\cs=zC Z/\E.Perm (zEE Z)
 |[],cs,E,h=>by
  unfold aE iH at h;exact⟨[],λz hz=>(by cases hz),rfl,h.1,by rw[h.2];exact .refl _⟩
 |t::ts,cs,E,h=>by
  obtain⟨c,cs',E1,E2,rfl,B,h1,X⟩:=h.QY;obtain⟨Z,k1,rfl,rfl,k4⟩:=BV X;refine⟨⟨t,c,E1⟩::Z,λz hz=>?_,rfl,rfl,B.trans (k4.append_left E1)⟩
  rcases ς.1 hz with rfl|hz
  .exact h1
  exact k1 z hz
def BJ:∀{Z:List Tz},(∀z∈Z,z.ok)->iH (aE (zT Z)) (zC Z) (zEE Z)
 |[],_=>iH.nil
 |z::Z,h=>iH.cons (h z (η ..)) (BJ λy hy=>h y (θ _ hy))
variable{z:Tz}
def Tz.kids (h:z.ok):∃(x:D) (Z:List Tz),z.c=bQ z.t.n x/\z.E.Perm (.ai x 8 (zC Z)::zEE Z)/\(∀y∈Z,y.ok)/\z.t.ks=zT Z:=by
 obtain⟨x,cs,E',h1,X,h3⟩:=h.to;obtain⟨Z,k1,k2,rfl,k4⟩:=BV h3;exact⟨x,Z,h1,X.trans (k4.cons _),k1,k2⟩
variable{x:D}{Z:List Tz}
def Tz.of (h:∀z∈Z,z.ok):(⟨.mk n (aE (zT Z)),bQ n x,.ai x 8 (zC Z)::zEE Z⟩:Tz).ok:=Bx.of (BJ h)
def e_ (Z:List Tz):(zT Z).length=Z.length:=δ _
def fc (Z:List Tz):(zC Z).length=Z.length:=δ _
variable{i:Nat}
theorem QS (h:Z[i]?=some z):(zT Z)[i]?=some z.t:=by unfold zT;rw[ξ,h];rfl
def pr (h:Z[i]?=some z):(zC Z)[i]?=some z.c:=by unfold zC;rw[ξ,h];rfl
theorem Za (h:Z[i]?=some z):Z=Z.take i++z::Z.drop (i+1):=by
 have hi:=(ψ.1 h).1;rw[γ hi] at h;rw[<-χ.inj h,<-ζ hi,Qc9]
def kU (Z s0:List Tz):zEE (Z++s0)=zEE Z++zEE s0:=by unfold zEE;rw[Qca]
def nv (z:Tz):zEE [z]=z.E:=by simp[zEE]
def Ek (h:Z[i]?=some z):(zEE Z).Perm (z.E++zEE (Z.eraseIdx i)):=by
 have h1:zEE Z=zEE (Z.take i)++(z.E++zEE (Z.drop (i+1))):=by
  conv=>lhs;rw[Za h]
  rw[kU];rfl
 have X:zEE (Z.eraseIdx i)=zEE (Z.take i)++zEE (Z.drop (i+1)):=by rw[φ,kU]
 rw[h1,X,<-Qah,<-Qah];exact List.perm_append_comm.append_right _
def Ut {z':Tz} (h:Z[i]?=some z):(z'.E++zEE (Z.eraseIdx i)).Perm (zEE (Z.set i z')):=by
 have hi:=(ψ.1 h).1;have h':(Z.set i z')[i]?=some z':=List.getElem?_set_self hi
 have he:(Z.set i z').eraseIdx i=Z.eraseIdx i:=by
  rw[φ,φ,List.take_set_of_le (ρ _),List.drop_set_of_lt (Nat.lt_succ_self _)]
 have:=Ek h';rw[he] at this;exact this.symm
def JO.zD {hk hp:Prop} (e:hk->hp:=by intro h;dsimp only[u2,u1,u3,u4,setMany,u5,u6,D.cells,Nat.reduceAdd,bQ,aO] at h;exact h):hk->hp:=e
def q_:∀(m:Nat) (t:Q),t.dF<=m->m<=1048576->t.fa jD->∀(Y:St) (c:List D),xV Y t c->Ev pv 58 [.agg c] Y (jO t.cl.hU) Y
 |0,t,h,_,_,_,_,_=>by have:=Q.bR t;omega
 |m+1,t,h,hm,hfa,Y,c,hr=>by
  open JO in
  obtain⟨x,cs,rfl,hx,A⟩:=hr.to;have L_:=Q.bR t;have lT:=bk t.ks;have pj:=(Q.cW.1 hfa).2;have hnk:=(Q.cW.1 hfa).1;have hcl:=A.len;have hfq:t.cl.hU={t.n with kids:=(t.ks.length:Nat),rd:=az t.n.rs}::(t.ks.map Q.cl).flatMap Q.hU:=by rw[Q.FJ,Q.Bq,Q.xc,δ]
  refine Ev.sU rfl ab2 rfl rfl rfl ?_;dsimp only[u3,u4,υ,Qak,μ,w1,w2];obtain⟨aP,hF,O⟩:=ri Y;generalize aw .ro Y=S at*;have wy:=Arg.of hx aP;refine M 14 λk1 U jo O U O=>?_;rw[hcl] at O;refine M 12 λk12 U aen O=>?_;have O:Has Y.bs.length S U (.ai (yt k12 0 0 1 7) 7 ([J W t.n.op,t.n.rd,J W t.n.mn,J W t.n.mx,wt t.n.lz,J W t.n.cap,J W (t.ks.length:Nat)]::(([]:List aQ)).map aO)::x4 k1 (zm 0 false [J W t.n.op,t.n.rd,J W t.n.mn,J W t.n.mx,wt t.n.lz,J W t.n.cap,J W (t.ks.length:Nat),x])::[]):=O;refine G 1 ?_;refine ah.loop (λmm I U=>∃(i:Nat) (od:D),I.clean=⟨5,[ay I 0,yv k1 0 0,ay I 2,od,J W (i:Nat)],[]⟩/\Has Y.bs.length S U (.ai od 7 ([J W t.n.op,t.n.rd,J W t.n.mn,J W t.n.mx,wt t.n.lz,J W t.n.cap,J W (t.ks.length:Nat)]::((((t.ks.take i).map Q.cl).flatMap Q.hU)).map aO)::x4 k1 (zm 0 false [J W t.n.op,t.n.rd,J W t.n.mn,J W t.n.mx,wt t.n.lz,J W t.n.cap,J W (t.ks.length:Nat),x])::[])/\(i+mm=t.ks.length)/\(∀k,od.ref=k+1->S.bs.length<=k)) (t.ks.length) ?_ ?_;·exact⟨0,yt k12 0 0 1 7,rfl,O,by omega,(λk A=>by simp only[D.ref] at A;omega)⟩
  rintro mm I U ⟨i,od,hfr,O,hi,gb⟩;refine zK λee=>?_;refine M 9 ?_;rw[hcl];refine zP (λh1=>?_) λh1=>?_
  .refine G 1 ?_
   obtain⟨p,B⟩:=gx (l:=t.ks) (i:=i)
   have gi:=ε B;have BC:=ch gi;have yZ:=lW B;have OZ:=u_ (pj p gi) GB;have hlen:=Bh ((t.ks.take i).map Q.cl);have ada:bu ((t.ks.take i).map Q.cl)=bu (t.ks.take i):=by unfold bu;rw[List.map_map];congr 2;funext aa;exact Q.mM aa
   have Hn:=tl p;obtain⟨pc,RY,Ef⟩:=A.at B;obtain⟨px,pcs,rfl,ta,hpk⟩:=Ef.to;have rN:=λ(U:St) (hst:xV U p (bQ p.n px))=>q_ m p GB GB (pj p gi) U _ hst;have dO:cs[i]?=some [J W p.n.op,p.n.rd,J W p.n.mn,J W p.n.mx,wt p.n.lz,J W p.n.cap,J W p.n.kids,px]:=RY;refine M (t:=(rN _ (Ef.grow aP O))) 10 λKY wD=>?_;refine y5 O aV ((iq OZ).rows _) (by simp only[δ,τ];omega) gb λx27 U gb O=>?_;dsimp only[u1,u2,u4] at O;refine G 4 ?_;refine yA (z:=((i+1:Nat):Int)) ?_;refine G 2 ?_;exact⟨mm-1,by omega,i+1,x27,rfl,(by rw[Qce,B,κ,Qca,κ];simpa using O),by omega,gb⟩
  refine G 1 ?_;have he:i=t.ks.length:=by omega
  rw[he,Qck] at O;refine G 5 ?_;have Sv:=u_ hfa GB;rw[hfq] at Sv|-;have eY:∀n∈(t.ks.map Q.cl).flatMap Q.hU,∀d∈aO n,b_ U Y.bs.length 14 d=some d:=λn hn d hd=>vL (lO Sv (aO n) (Qco.2 ⟨n,θ _ hn,rfl⟩) d hd);have hx1:=hnk.pure U Y.bs.length 13
  let f:D->D:=λd=>(b_ U Y.bs.length 14 d).getD d
  have hfp:∀d v,b_ U Y.bs.length 14 d=some v->f d=v:=λd v h=>by show(b_ U Y.bs.length 14 d).getD d=v;rw[h];rfl
  have hfz:=zb (L:=Y.bs.length) (f:=f) (n:=13) O aV (λk A=>by rw[<-aP];exact gb k A) (by
   intro e he d hd
   rcases ς.1 he with rfl|he
   .simp at hd
    rcases hd with rfl|rfl|rfl|rfl|rfl|rfl|rfl
    .rfl
    .rw[hfp _ _ hx1];exact hx1
    all_goals rfl
   obtain⟨n,hn,rfl⟩:=Qco.1 he
   rw[hfp _ _ (eY n hn d hd)];exact eY n hn d hd)
  have hfs:(([J W t.n.op,t.n.rd,J W t.n.mn,J W t.n.mx,wt t.n.lz,J W t.n.cap,J W (t.ks.length:Nat)]::((t.ks.map Q.cl).flatMap Q.hU).map aO).map (·.map f))=(({t.n with kids:=(t.ks.length:Nat),rd:=az t.n.rs}::(t.ks.map Q.cl).flatMap Q.hU).map aO):=by
   rw[ο,ο,CQ (λn hn d hd=>hfp _ _ (eY n hn d hd))]
   congr 1
   show[f _,f t.n.rd,f _,f _,f _,f _,f _]=_;rw[hfp _ _ hx1]
   rfl
  rw[hfs] at hfz;exact ah.ret ⟨rx,_,rfl,rl aP O hfz⟩
def wQ:∀(m:Nat) (t:Q),t.dF<=m->m<=1048576->∀(Y:St) (c:List D),xV Y t c->Ev pv 112 [.agg c] Y (wt t.lA) Y
 |0,t,h,_,_,_,_=>by have:=Q.bR t;omega
 |m+1,t,h,hm,Y,c,hr=>by
  open JO in
  obtain⟨x,cs,rfl,hx,A⟩:=hr.to;have L_:=Q.bR t;have lT:=bk t.ks;have hcl:=A.len;have hgq:=Q.Mu t;refine Ev.sU rfl XV rfl rfl rfl ?_;dsimp only[u3,u4,υ,Qak,μ,w1,w2];obtain⟨aP,hF,O⟩:=ri Y;generalize aw .ro Y=S at*;have wy:=Arg.of hx aP;refine M 13 λk1 U jo O=>?_
  by_cases h6:t.n.op=6;·refine vX ?_;refine G 4 ?_;rw[hgq,h6];exact M 0 trivial
  have hc6:(t.n.op==6)=false:=by simpa using h6
  refine vY ?_;rw[hc6,ω] at hgq;refine G 6 ?_;have O:Has Y.bs.length S U (x4 k1 (zm 0 false (bQ t.n x))::[]):=O;refine G 1 ?_;refine ah.loop (λmm I U=>∃(i:Nat),I.clean=fL I 4 [(1,yv k1 0 0),(1,J W (i:Nat))]/\Has Y.bs.length S U (x4 k1 (zm 0 false [J W t.n.op,t.n.rd,J W t.n.mn,J W t.n.mx,wt t.n.lz,J W t.n.cap,J W t.n.kids,x])::[])/\(i+mm=t.ks.length)/\((t.ks.drop i).any Q.lA=t.lA)) (t.ks.length) ?_ ?_;·exact⟨0,rfl,O,by omega,hgq.symm⟩
  rintro mm I U ⟨i,hfr,O,hi,hg⟩;refine zK λee=>?_;refine M 9 ?_;rw[hcl];refine zP (λh1=>?_) λh1=>?_
  .refine G 1 ?_
   obtain⟨p,B⟩:=gx (l:=t.ks) (i:=i)
   have BC:=ch (ε B);obtain⟨pc,RY,Ef⟩:=A.at B;obtain⟨px,pcs,rfl,ta,hpk⟩:=Ef.to;have rN:=λ(U:St) (hst:xV U p (bQ p.n px))=>wQ m p GB GB U _ hst;have dO:cs[i]?=some [J W p.n.op,p.n.rd,J W p.n.mn,J W p.n.mx,wt p.n.lz,J W p.n.cap,J W p.n.kids,px]:=RY
   have qd:(t.ks.drop i).any Q.lA=(p.lA||(t.ks.drop (i+1)).any Q.lA):=by
    obtain⟨h3,h4⟩:=ψ.1 B;rw[ζ h3,h4,List.any_cons]
   rw[qd] at hg;refine M (t:=(rN _ (Ef.grow aP O))) 11 λYw O5=>?_
   cases hpg:p.lA with
   |true=>
    rw[hpg,Bool.true_or] at hg;refine G 5 ?_;rw[<-hg];exact M 0 trivial
   |false=>
    rw[hpg,ω] at hg;refine G 4 ?_;refine yA (z:=((i+1:Nat):Int)) ?_;refine G 2 ?_;exact⟨mm-1,by omega,i+1,rfl,O,by omega,hg⟩
  refine G 1 ?_;have he:i=t.ks.length:=by omega
  rw[he,List.drop_length] at hg;refine G 4 ?_;rw[<-hg];exact M 0 trivial
def ka (n m:aQ):Bool:=n.op !=m.op||n.mn !=m.mn||n.mx !=m.mx||n.lz !=m.lz||n.cap !=m.cap||n.kids !=m.kids||(n.rs.length:Int) !=(m.rs.length:Int)
variable{m:aQ}
def Bk (h:ka n m=true):key n≠key m:=by
 intro he;simp only[key,aQ.mk.injEq] at he;obtain⟨h1,_,X,h3,h4,h5,h6,h7⟩:=he;simp[ka,h1,X,h3,h4,h5,h6,h7] at h
def DG (h:ka n m=false) (hr:n.rs=m.rs):key n=key m:=by
 simp[ka] at h;obtain⟨⟨⟨⟨⟨⟨h1,X⟩,h3⟩,h4⟩,h5⟩,h6⟩,h7⟩:=h;simp[key,h1,X,h3,h4,h5,h6,hr]
def ndg {l:List aQ} (h:l[i]?=some n):(l.map aO)[i]?=some [J W n.op,n.rd,J W n.mn,J W n.mx,wt n.lz,J W n.cap,J W n.kids]:=by rw[ξ,h];rfl
def OL {l k:List aQ} (hl:l.length=k.length) (h:∀(j:Nat) a b,j<l.length->l[j]?=some a->k[j]?=some b->key a=key b):l.map key=k.map key:=by
 apply List.ext_getElem?;intro j;rw[ξ,ξ]
 by_cases hj:j<l.length;·rw[γ hj,γ GB];exact congrArg some (h j _ _ hj (γ hj) (γ GB))
 rw[Ψ GB,Ψ GB]
variable{j:Nat}
def yT {l k:List aQ} {a b:aQ} (ha:l[j]?=some a) (F:k[j]?=some b) (hne:key a≠key b):l.map key≠k.map key:=by
 intro he;have:=congrArg (λ(x:List aQ)=>x[j]?) he;simp[ha,F] at this;exact hne this
variable{Y:St}
def Kr {aa:Q} {e:List D} (ht:t.fa jD) (hu:aa.fa jD) (s_:t.dF<=1048576) (huc:aa.dF<=1048576) (hr:xV Y t c) (hq:xV Y aa e):Ev pv 131 [.agg c,.agg e] Y (wt (t.same aa)) Y:=by
 open JO in
 have hX:=u_ ht s_;have hY:=u_ hu huc;have hXl:=tl t;have ND:=tl aa;have JC:=Km t aa;have hlt:=λ(U:St) (h:xV U t c)=>q_ _ t (ρ _) s_ ht U c h;have hlu:=λ(U:St) (h:xV U aa e)=>q_ _ aa (ρ _) huc hu U e h;obtain⟨x,cs,rfl,hx,A⟩:=hr.to;obtain⟨y,es,rfl,hy,hj⟩:=hq.to;refine Ev.sU rfl XD rfl rfl rfl ?_;dsimp only[u3,u4,υ,Qak,μ,w1,w2];obtain⟨aP,hF,O⟩:=ri Y;generalize aw .ro Y=S at*;have YE:=(iq hX).arg Y.bs.length S;have j8:=(iq hY).arg Y.bs.length S;refine G 2 ?_;refine qb O λk2 U jn O=>?_;dsimp[u2,u1,u3,u4,setMany,u5,u6,D.cells,μ,bQ,aO] at O;refine qb O λk3 U A7 O=>?_;dsimp[u2,u1,u3,u4,setMany,u5,u6,D.cells,μ,bQ,aO] at O;refine G 4 ?_;refine yC (m:=8) (r:=bQ t.n x) O bf ?_;refine qv (hlt _ (hr.grow aP O)) ?_;refine yC (m:=8) (r:=bQ aa.n y) O aV ?_;refine qv (hlu _ (hq.grow aP O)) ?_;refine G 3 ?_;have O:=O.take 0;generalize t.cl.hU=h2 at*;generalize aa.cl.hU=s0 at*;refine G 4 ?_;refine qn ?_;simp only[δ];refine qm ?_;refine qn ?_;simp only[δ];refine G 2 ?_
 by_cases hlen:h2.length=s0.length
 .have hc:(((h2.length:Int) !=(s0.length:Int)))=false:=by rw[hlen];simp
  refine vY ?_;refine G 7 ?_;refine ah.loop (λmm I U=>∃(i:Nat),I.clean=fL I 9 [(2,yv k2 0 0),(0,yv k3 0 0),(1,jO h2),(0,jO s0),(0,J W (i:Nat))]/\Has Y.bs.length S U []/\(i+mm=h2.length)/\(∀(j:Nat) a b,j<i->h2[j]?=some a->s0[j]?=some b->key a=key b)) (h2.length) ?_ ?_;·exact⟨0,rfl,O,by omega,(λj a b h=>by omega)⟩
  rintro mm I U ⟨i,hfr,O,hi,hq⟩;rw[hfr];(try dsimp only[fL,fG,μ]);clear hfr;generalize ay I=ee;clear I;refine G 5 ?_;refine qn ?_;simp only[δ];refine G 2 ?_;refine zP (λh1=>?_) λh1=>?_
  .refine G 1 ?_
   obtain⟨n,hn⟩:=gx (l:=h2) (i:=i)
   obtain⟨m,hm⟩:=gx (l:=s0) (i:=i)
   have dO:=ndg hn;have pe:=ndg hm;obtain⟨aaz,adT,_⟩:=hX n (ε hn);obtain⟨aaD,adV,_⟩:=hY m (ε hm);have BB:Arg Y.bs.length S 2 n.rd (n.rs.map ak):=by rw[aaz];exact Arg.pure (λU=>bC U _)
   have RV:Arg Y.bs.length S 2 m.rd (m.rs.map ak):=by rw[aaD];exact Arg.pure (λU=>bC U _)
   refine G 4 ?_;refine ah.dM 114 (wt (n.op !=m.op||n.mn !=m.mn||n.mx !=m.mx||n.lz !=m.lz||n.cap !=m.cap||n.kids !=m.kids||(n.rs.length:Int) !=(m.rs.length:Int))) [] ?_ (λff tmp bp=>?_)
   .refine M 12 λTM I4 TL I3 p31 aav p32 aau=>?_;refine y2 35 (λdS=>?_) λdS=>?_;·refine G 79 ?_;exact vV
    refine M 13 λZy O2 Zx R5 TJ I1 p44 VL=>?_;refine y2 48 (λnT=>?_) λnT=>?_;·refine G 66 ?_;exact vV
    refine M 13 λUY I0 p52 aas UX LQ Zt R1=>?_;refine y2 61 (λtc=>?_) λtc=>?_;·refine G 53 ?_;exact vV
    refine M 13 λYs O0 p65 VI p69 VG p70 aaq=>?_;refine y2 74 (λSq=>?_) λSq=>?_;·refine G 40 ?_;exact vV
    refine M 13 λp77 adM p78 adL p82 aam p83 aal=>?_;refine y2 87 (λSp=>?_) λSp=>?_;·refine G 27 ?_;exact vV
    refine M 13 λp90 adJ p91 adI p95 adG p96 adF=>?_;refine y2 100 (λWv=>?_) λWv=>?_;·refine G 14 ?_;exact vV
    refine M 14 λadt ac8 ads ac7 adr ac6 adq ac5=>?_;exact vV
   refine zG ?_;have hE:(n.op !=m.op||n.mn !=m.mn||n.mx !=m.mx||n.lz !=m.lz||n.cap !=m.cap||n.kids !=m.kids||(n.rs.length:Int) !=(m.rs.length:Int))=ka n m:=rfl;rw[hE] at bp
   cases hf:ka n m with
   |true=>
    rw[hf] at bp;refine G 5 ?_
    have hs:t.same aa=false:=by
     cases hs:t.same aa with
     |false=>rfl
     |true=>exact absurd (JC.1 hs) (yT hn hm (Bk hf))
    rw[hs];exact M 0 trivial
   |false=>
    rw[hf] at bp;refine G 2 ?_
    have ma:n.rs.length=m.rs.length:=by
     simp[ka] at hf;omega
    refine G 5 ?_;refine ah.loop (λmm I U=>∃(k:Nat),I.clean=⟨9,[ay I 0,ay I 1,yv k2 0 0,yv k3 0 0,ay I 4,jO h2,jO s0,J W (i:Nat),J W (k:Nat)],[]⟩/\Has Y.bs.length S U []/\(k+mm=n.rs.length)/\(n.rs.take k=m.rs.take k)) (n.rs.length) ?_ ?_;·exact⟨0,rfl,O,by omega,rfl⟩
    rintro mm I U ⟨k,hfr,O,jn,Si⟩;refine zK λee=>?_;refine M 12 λZF VU ZE VT=>?_;refine zP (λh3=>?_) λh3=>?_
    .refine G 1 ?_
     obtain⟨a,ha⟩:=gx (l:=n.rs) (i:=k)
     obtain⟨b,F⟩:=gx (l:=m.rs) (i:=k)
     have hr3:=db ha;have hr4:=db F;refine G 6 ?_;refine qr λadl ac0=>?_;refine qf (fo:=1) λadk acZ=>?_;refine G 2 ?_;refine qr λadj acY=>?_;refine M 3 ?_;refine qr λZD VQ=>?_;refine qf (fo:=1) λadh acW=>?_;refine G 2 ?_;refine qr λZC VP=>?_;refine yE ?_;refine u.U' rfl Pd Pd (oG a b) (ae rfl _) ?_;refine G 1 ?_;refine ah.cond (by rfl) (λh4=>?_) (λh4=>?_)<;>try simp at h4
     .refine G 4 ?_;have hne:n.rs≠m.rs:=lP ha F (by simpa using h4)
      have hs:t.same aa=false:=by
       cases hs:t.same aa with
       |false=>rfl
       |true=>exact absurd (JC.1 hs) (yT hn hm λhe=>hne (by have h9:=congrArg aQ.rs he;exact h9))
      rw[hs];refine ah.ret ⟨rx,_,rfl,rl aP O (rfl)⟩
     refine G 3 ?_;refine yA (z:=((k+1:Nat):Int)) ?_;refine G 2 ?_;exact⟨mm-1,by omega,k+1,rfl,O,by omega,ia ha F Si (by simpa using h4)⟩
    refine G 1 ?_
    have Ee:n.rs=m.rs:=by
     rw[Ξ GB,Ξ GB] at Si;exact Si
    refine G 2 ?_;refine yA (z:=((i+1:Nat):Int)) ?_;refine G 2 ?_
    have oW:∀(j:Nat) a b,j<i+1->h2[j]?=some a->s0[j]?=some b->key a=key b:=λj a b hj ha F=>by
     by_cases hji:j=i;·subst hji;rw[hn] at ha;rw[hm] at F;cases ha;cases F;exact DG hf Ee
     exact hq j a b GB ha F
    exact⟨h2.length-(i+1),by omega,⟨i+1,rfl,O,by omega,oW⟩⟩
  refine G 5 ?_;have hs:t.same aa=true:=JC.2 (OL hlen λj a b hj ha F=>hq j a b GB ha F);rw[hs];refine ah.ret ⟨rx,_,rfl,rl aP O (rfl)⟩
 have hc:(((h2.length:Int) !=(s0.length:Int)))=true:=by simp;omega
 refine vX ?_;refine G 4 ?_
 have hs:t.same aa=false:=by
  cases hs:t.same aa with
  |false=>rfl
  |true=>exact absurd (by have:=congrArg υ (JC.1 hs);simpa using this) hlen
 rw[hs];exact M 0 trivial
def AL (l:List Rg):eD l (bB l):=by
 have B:((l.flatMap dG).mergeSort (λx y=>decide (x.1<=y.1))).Perm (l.flatMap dG):=List.mergeSort_perm _ _
 have hs:((l.flatMap dG).mergeSort (λx y=>decide (x.1<=y.1))).Pairwise λx y=>x.1<=y.1:=by
  have:=List.pairwise_mergeSort (le:=λ(x y:Rg)=>decide (x.1<=y.1)) (λa b c h1 X=>by simp at*;omega) (λa b=>by simp;omega) (l.flatMap dG);exact this.imp λh=>by simpa using h
 have hM:eD l _:=mD (λx=>B.mem_iff) hs;rw[j6 hM];exact hM
def bh (q:Rg) (m:List Rg) (r:Int):cS (q::m) r↔(q.1<=r/\r<=q.2)\/cS m r:=by
 unfold cS;constructor
 .rintro⟨x,hx,h1,X⟩
  rcases ς.1 hx with rfl|hx
  .exact xR ⟨h1,X⟩
  exact j4 ⟨x,hx,h1,X⟩
 rintro(⟨h1,X⟩|⟨x,hx,h1,X⟩);·exact⟨q,η ..,h1,X⟩
 exact⟨x,θ _ hx,h1,X⟩
def vQ:∀(m:List Rg) (n:Int),canon m->(∀x∈m,n<=x.1/\x.2<=1114111)->0<=n->n<=1114112->∀r,cS (uo m n) r↔n<=r/\r<=1114111/\¬cS m r
 |[],n,_,_,_,_,r=>by
  unfold uo;rw[bh];have h0:¬cS [] r:=by rintro⟨x,hx,_⟩;cases hx
  constructor
  .rintro(h|h);·exact⟨h.1,h.2,h0⟩
   exact absurd h h0
  rintro⟨h1,X,_⟩;exact xR ⟨h1,X⟩
 |q::m,n,hc,F,h0,h9,r=>by
  have hq:=F q (η ..);have hqq:=hc.1 q (η ..);have B:=List.pairwise_cons.1 hc.2;unfold uo
  rw[wrap_i32 GB GB,wrap_i32 GB GB,bh,bh,
   vQ m (q.2+1) ⟨λx hx=>hc.1 x (θ _ hx),B.2⟩ (λx hx=>⟨by have:=B.1 x hx;omega,(F x (θ _ hx)).2⟩) GB GB r]
  constructor
  .rintro(⟨h1,X⟩|⟨h1,X,h3⟩)
   .simp only at h1 X;refine⟨h1,by omega,?_⟩;rintro(h|⟨x,hx,h4,h5⟩);·omega
    have:=B.1 x hx;omega
   refine⟨by omega,X,?_⟩;rintro(h|h);·omega
   exact h3 h
  rintro⟨h1,X,h3⟩
  by_cases h4:r<=q.1-1;·exact xR ⟨h1,h4⟩
  refine j4 ⟨?_,X,λh=>h3 (j4 h)⟩
  by_cases h5:r<=q.2;·exact absurd (xR ⟨by omega,h5⟩) h3
  omega
def D0 {m:List Rg} (h:canon m) (hr:∀r,cS m r->cN r):∀x∈m,0<=x.1/\x.2<=1114111:=by
 intro x hx;have h1:=hr x.1 ⟨x,hx,Int.le_refl _,h.1 x hx⟩;have X:=hr x.2 ⟨x,hx,h.1 x hx,Int.le_refl _⟩;unfold cN at h1 X;omega
variable{a:List Rg}
def GN {l:List Rg} (h:canon a) (hm:∀r,cS a r↔cN r/\¬cS l r):kY l=a:=by
 unfold kY;refine j6 ⟨h,λr=>?_⟩;have hM:=AL l;rw[vQ _ 0 hM.1 (D0 hM.1 λr hr=>((hM.2 r).1 hr).1) GB GB r,hM.2 r,hm r];constructor;·rintro⟨h1,X⟩;refine⟨h1,?_,?_,λh=>X h.2⟩<;>(unfold cN at h1;omega)
 rintro⟨h1,_,_,X⟩;exact⟨h1,λh=>X ⟨h1,h⟩⟩
theorem Iz (l:List Rg):kY (bB l)=kY l:=by
 have hM:=AL l;have hN:eD (uo (bB l) 0) (kY l):=AL _;refine GN hN.1 λr=>?_;rw[hN.2 r,vQ _ 0 hM.1 (D0 hM.1 λr hr=>((hM.2 r).1 hr).1) GB GB r];constructor;·rintro⟨h1,_,_,X⟩;exact⟨h1,X⟩
 rintro⟨h1,X⟩;refine⟨h1,?_,?_,X⟩<;>(unfold cN at h1;omega)
variable{r:Int}
def lR (h:cN r):bB [(r,r)]=[(r,r)]:=by
 refine j6 ⟨⟨by simp,by simp⟩,λx=>⟨λhx=>⟨?_,hx⟩,λhx=>hx.2⟩⟩;obtain⟨q,hq,h1,X⟩:=hx;simp at hq;subst hq;have:x=r:=by simp only at h1 X;omega
 rw[this];exact h
def nO {l:List Rg} (h:canon l) (hr:∀x∈l,0<=x.1/\x.2<55296):bB l=l:=by
 refine j6 ⟨h,λx=>⟨λhx=>⟨?_,hx⟩,λhx=>hx.2⟩⟩;obtain⟨q,hq,h1,X⟩:=hx;have:=hr q hq;unfold cN;omega
def OG:bB [(48,57)]=[(48,57)]:=nO ⟨by decide,by decide⟩ AN
def GY:bB [(9,10),(13,13),(32,32)]=[(9,10),(13,13),(32,32)]:=nO ⟨by decide,by decide⟩ AN
def GX:bB [(48,57),(65,90),(95,95),(97,122)]=[(48,57),(65,90),(95,95),(97,122)]:=nO ⟨by decide,by decide⟩ AN
def bT (g:Nat×Nat):Int:=if(g.1:Int)=65533/\(g.2:Int)=1 then-1 else(g.1:Int)
variable{gs:List (Nat×Nat)}{g:Nat×Nat}
def F6 (h:gs[i]?=some g):Bs gs i=decide (bT g=-1):=by
 unfold Bs bT;rw[h]
 by_cases h1:(g.1:Int)=65533/\(g.2:Int)=1;·rw[if_pos h1];simp[h1.1,h1.2]
 rw[if_neg h1];have:¬(g.1:Int)=-1:=by omega
 rw[decide_eq_false this];simp only[Qc7,beq_eq_false_iff_ne]
 by_cases X:(g.1:Int)=65533;·exact j4 λh3=>h1 ⟨X,h3⟩
 exact xR X
def tT (h:gs[i]?=some g) (hr:r≠65533) (h0:0<=r):cy gs i r=(bT g==r):=by
 unfold cy bT;rw[h];simp only
 by_cases h1:(g.1:Int)=65533/\(g.2:Int)=1
 .rw[if_pos h1,h1.1];have X:((65533:Int)==r)=false:=by rw[beq_eq_false_iff_ne];exact λh=>hr h.symm
  have h3:((-1:Int)==r)=false:=by rw[beq_eq_false_iff_ne];omega
  rw[X,h3]
 rw[if_neg h1]
def jF (h:bT g≠-1):bT g=(g.1:Int):=by
 unfold bT at h|-
 split;next h1=>rw[if_pos h1] at h;exact absurd rfl h
 rfl
def fH {α:Type} (af:PR α) (e:Int):Prop:=e≠0/\∃w,af=.er e w
variable{e:Int}
theorem fH.map {α β:Type} {af:PR α} {R':PR β} (h:fH af e) (hR:∀e w,af=.er e w->R'=.er e w):fH R' e:=by
 obtain⟨h1,w,X⟩:=h;exact⟨h1,w,hR e w X⟩
structure gj where
 i:Nat
 g:Nat
 e:Int
 w:Int
def bw (rD aD:D) (s:gj):List D:=[rD,aD,J W (s.i:Nat),J W (s.g:Nat),J W s.e,J W s.w]
def kX (r:Nat):Prop:=r<55296\/(57344<=r/\r<=1114111)
structure uF (gs:List (Nat×Nat)) (cj:List Int):Prop where
 gl:gs.length<=120
 al:cj.length=gs.length+1
 ok:∀q∈gs,kX q.1
def iy (s:gj) (e w:Int):gj:=if s.e=0 then{s with e:=e,w:=w} else s
def jJ (s:gj) (e w:Int):(iy s e w).i=s.i/\(iy s e w).g=s.g:=by unfold iy;split<;>exact⟨rfl,rfl⟩
variable{s:gj}{w:Int}
def eo (h:s.e=0):(iy s e w).e=e:=by unfold iy;rw[if_pos h]
def MA (h:s.e≠0):iy s e w=s:=by unfold iy;rw[if_neg h]
def pA (h:gs[i]?=some g):((gs.map bT).map aI)[i]?=some (aI (bT g)):=by
 rw[ξ,ξ,h];rfl
variable{cj:List Int}
def N4 (h:uF gs cj) (hg:gs[i]?=some g):cN (g.1:Int):=by
 have:=h.ok g (ε hg);unfold kX at this;unfold cN;omega
variable{k N:Nat}{S:St}{H:List aX}{rD aD:D}
def bJ (e w:Int) (O:Has N S Y (x4 k (zm 0 false (bw rD aD s))::H)):
  ∃d R,Ev pv 54 [yv k 0 0,J W e,J W w] Y d R/\d=.tup []/\Has N S R (x4 k (zm 0 false (bw rD aD (iy s e w)))::H):=by
 have br:=O;refine zO ab5 λS2 bj O=>?_;refine G 8 ?_;unfold iy;refine zI (λh0=>?_) λh0=>?_;·rw[if_pos h0];refine M 12 λU O U O=>?_;refine⟨λi h=>(by cases h),_,_,_,rfl,aH rfl,?_⟩;exact⟨rfl,br.ag bj O⟩
 rw[if_neg h0];refine G 1 ?_;refine⟨λi h=>(by cases h),_,_,_,rfl,aH rfl,?_⟩;exact⟨rfl,br.ag bj O⟩
def jW (hi:s.i<cj.length) (O:Has N S Y (x4 k (zm 0 false (bw rD aD s))::.ai rD 1 ((gs.map bT).map aI)::.ai aD 1 (cj.map av)::H)):
  ∃d R,Ev pv 55 [yv k 0 0] Y d R/\(∃v:Int,d=J W v)/\Has N S R (x4 k (zm 0 false (bw rD aD s))::.ai rD 1 ((gs.map bT).map aI)::.ai aD 1 (cj.map av)::H):=by
 have br:=O;refine zO ab4 λS2 bj O=>?_
 obtain⟨v,hv⟩:∃v,cj[s.i]?=some v:=⟨cj[s.i]'hi,γ _⟩
 have dO:=iu hv;refine M 19 λYx LW=>?_;exact⟨⟨v,rfl⟩,br.ag bj O⟩
def b9 (nS:gs.length<=1048576) (YS:s.i<=1048576) (r:Int) (hr:r≠65533) (h0:0<=r) (O:Has N S Y (x4 k (zm 0 false (bw rD aD s))::.ai rD 1 ((gs.map bT).map aI)::.ai aD 1 (cj.map av)::H)):
  ∃d R,Ev pv 82 [yv k 0 0,J .i32 r] Y d R/\d=wt (cy gs s.i r)/\Has N S R (x4 k (zm 0 false (bw rD aD s))::.ai rD 1 ((gs.map bT).map aI)::.ai aD 1 (cj.map av)::H):=by
 have br:=O;refine zO abI λS2 bj O=>?_;refine G 4 ?_
 by_cases ha:s.i<gs.length
 .obtain⟨g,hg⟩:∃g,gs[s.i]?=some g:=⟨gs[s.i]'ha,γ _⟩
  have dO:=pA hg;have dw:decide ((s.i:Int)<(gs.length:Nat))=true:=by rw[decide_eq_true];simp;omega
  have hv:cy gs s.i r=(bT g==r):=tT hg hr h0;refine qq<|ah.ni 4 (wt (bT g==r)) [] ?_ (λff tmp=>?_)
  .refine M 25 λKY wD=>?_;refine u.nil (we ?_);refine zd ?_;dsimp[Qcq,Qcn,Qcb,Qcr,Qcm,nth,look,u1,u2,v1,v2,v4]
   all_goals(first|rfl|(simp[dw];done)|(simp_all;done)|(simp[dw];omega)|(simp_all;omega))
  refine zd ?_;refine ah.ret ⟨rx,_,_,_,rfl,aH (rfl),?_⟩;exact⟨by rw[hv];rfl,br.ag bj O⟩
 have dw:decide ((s.i:Int)<(gs.length:Nat))=false:=by rw[decide_eq_false];simp;omega
 have hv:cy gs s.i r=false:=by
  cases h:cy gs s.i r with
  |true=>exact absurd (dR h) ha
  |false=>rfl
 refine qq<|ah.ni 4 (wt false) [] ?_ (λff tmp=>?_)
 .refine M 25 ?_;refine u.nil (we ?_);refine zd ?_;dsimp[Qcq,Qcn,Qcb,Qcr,Qcm,nth,look,u1,u2,v1,v2,v4]
  all_goals(first|rfl|(simp[dw];done)|(simp_all;done)|(simp[dw];omega)|(simp_all;omega))
 refine zd ?_;refine ah.ret ⟨rx,_,_,_,rfl,aH (rfl),?_⟩;exact⟨by rw[hv];rfl,br.ag bj O⟩
def Cl (r:Int):Ev pv 169 [J .i32 r] Y (wt (decide (33<=r/\r<=47\/58<=r/\r<=64\/91<=r/\r<=96\/123<=r/\r<=126))) Y:=by
 refine zM W_ λS aP hF O=>?_;refine G 5 ?_;refine ah.ni 2 (wt (decide (33<=r/\r<=47\/58<=r/\r<=64\/91<=r/\r<=96\/123<=r/\r<=126))) [] ?_ (λff tmp=>?_)
 .refine G 3 ?_;refine y2 5 (λba=>?_) λba=>?_
  .refine G 4 ?_;refine y2 9 (λfI=>?_) λfI=>?_
   .refine M 26 ?_
    all_goals(simp[ba,fI];done)
   refine G 3 ?_;refine y2 12 (λb6=>?_) λb6=>?_
   .refine M 5 ?_;refine y2 17 (λbL=>?_) λbL=>?_
    .refine M 18 ?_
     all_goals(simp[ba,fI,b6,bL];done)
    refine G 3 ?_;refine y2 20 (λaL=>?_) λaL=>?_
    .refine M 5 ?_;refine y2 25 (λaZ=>?_) λaZ=>?_
     .refine M 10 ?_
      all_goals(simp[ba,fI,b6,bL,aL,aZ];done)
     refine G 3 ?_;refine y2 28 (λbM=>?_) λbM=>?_
     .refine M 7 ?_
      all_goals(simp[ba,fI,b6,bL,aL,aZ,bM];done)
     refine M 7 ?_
     all_goals(simp[ba,fI,b6,bL,aL,aZ,bM];done)
    refine M 8 ?_;refine y2 28 (λbM=>?_) λbM=>?_
    .refine M 7 ?_
     all_goals(simp[ba,fI,b6,bL,aL,bM];done)
    refine M 7 ?_
    all_goals(simp[ba,fI,b6,bL,aL,bM];done)
   refine M 8 ?_;refine y2 20 (λaL=>?_) λaL=>?_
   .refine G 5 ?_;refine y2 25 (λaZ=>?_) λaZ=>?_
    .refine M 10 ?_
     all_goals(simp[ba,fI,b6,aL,aZ];done)
    refine G 3 ?_;refine y2 28 (λbM=>?_) λbM=>?_
    .refine M 7 ?_
     all_goals(simp[ba,fI,b6,aL,aZ,bM];done)
    refine M 7 ?_
    all_goals(simp[ba,fI,b6,aL,aZ,bM];done)
   refine G 8 ?_;refine y2 28 (λbM=>?_) λbM=>?_
   .refine M 7 ?_
    all_goals(simp[ba,fI,b6,aL,bM];done)
   refine M 7 ?_
   all_goals(simp[ba,fI,b6,aL,bM];done)
  refine G 7 ?_;refine y2 12 (λb6=>?_) λb6=>?_
  .refine G 5 ?_;refine y2 17 (λbL=>?_) λbL=>?_
   .refine M 18 ?_
    all_goals(simp[ba,b6,bL];done)
   refine G 3 ?_;refine y2 20 (λaL=>?_) λaL=>?_
   .refine M 5 ?_;refine y2 25 (λaZ=>?_) λaZ=>?_
    .refine M 10 ?_
     all_goals(simp[ba,b6,bL,aL,aZ];done)
    refine G 3 ?_;refine y2 28 (λbM=>?_) λbM=>?_
    .refine M 7 ?_
     all_goals(simp[ba,b6,bL,aL,aZ,bM];done)
    refine M 7 ?_
    all_goals(simp[ba,b6,bL,aL,aZ,bM];done)
   refine M 8 ?_;refine y2 28 (λbM=>?_) λbM=>?_
   .refine M 7 ?_
    all_goals(simp[ba,b6,bL,aL,bM];done)
   refine M 7 ?_
   all_goals(simp[ba,b6,bL,aL,bM];done)
  refine G 8 ?_;refine y2 20 (λaL=>?_) λaL=>?_
  .refine G 5 ?_;refine y2 25 (λaZ=>?_) λaZ=>?_
   .refine M 10 ?_
    all_goals(simp[ba,b6,aL,aZ];done)
   refine G 3 ?_;refine y2 28 (λbM=>?_) λbM=>?_
   .refine M 7 ?_
    all_goals(simp[ba,b6,aL,aZ,bM];done)
   refine M 7 ?_
   all_goals(simp[ba,b6,aL,aZ,bM];done)
  refine G 8 ?_;refine y2 28 (λbM=>?_) λbM=>?_
  .refine M 7 ?_
   all_goals(simp[ba,b6,aL,bM];done)
  refine M 7 ?_
  all_goals(simp[ba,b6,aL,bM];done)
 dsimp only[aC,Θ,nth,u2,u1];exact M 0 trivial
def gG:List Rg->Bool
 |[q]=>q.1==q.2
 |_=>false
def rb {l:List Rg} (hx:Qaj Y 2 x (l.map ak)) (hl:l.length<=1048576):Ev pv 168 [x] Y (wt (gG l)) Y:=by
 refine zM Xa λS aP hF O=>?_;have hx:=Arg.of hx aP;refine G 4 ?_
 by_cases h1:l.length=1
 .obtain⟨q,rfl⟩:=List.length_eq_one_iff.1 h1;have dO:([q].map ak)[0]?=some (ak q):=rfl;have c8:(((1:Nat):Int)==1)=true:=rfl;refine qq<|ah.ni 2 (wt (q.1==q.2)) [] ?_ (λff tmp=>?_)
  .refine M 15 λp8 hp8 p9 hp9 Ro Dj p13 VS=>?_;refine u.nil (we ?_);refine zd ?_;dsimp only[Qcq,Qcn,Qcb,Qcr,Qcm,nth,look,u1,u2,v1,v2,v4]
   all_goals(first|rfl|(simp[c8];done)|(simp_all;done)|(simp[c8];omega)|(simp_all;omega))
  dsimp only[aC,Θ,nth,u2,u1];exact M 0 trivial
 have c8:((l.length:Int)==1)=false:=by rw[beq_eq_false_iff_ne];omega
 have hs:gG l=false:=by
  match l,h1 with
  |[],_=>rfl
  |_::_::_,_=>rfl
 rw[hs];refine qq<|ah.ni 2 (wt false) [] ?_ (λff tmp=>?_)
 .refine M 15 ?_;refine u.nil (we ?_);refine zd ?_;dsimp[Qcq,Qcn,Qcb,Qcr,Qcm,nth,look,u1,u2,v1,v2,v4]
  all_goals(first|rfl|(simp[c8];done)|(simp_all;done)|(simp[c8];omega)|(simp_all;omega))
 dsimp only[aC,Θ,nth,u2,u1];exact M 0 trivial
def KK {L:Nat} {s:Nat} {es:List (List D)} (O:Has N S U H) (hj:H[j]?=some (.ai x s es)) (B:∀e∈es,∀d∈e,cv d=true) (hx:∀k,x.ref=k+1->L<=k) (n:Nat):b_ U L (n+2) x=some (.sl (es.map (jK s))):=by
 have hown:=O.own hj
 cases hown with
 |nul=>rfl
 |win k aj off es c hm hl hc he=>
  have A:=hx k (by simp[D.ref]);rw[b_];simp only[if_neg (show¬k<L by omega),St.mem_of hm,Qcc]
  rw[if_pos hl,hc,jZ (λd hd=>by
   obtain⟨e,t_,sG⟩:=Qci.1 hd
   exact B e t_ d sG)]
  simp[fY he]
def xH {L:Nat} {w:D} {mn mx cap kids:Int} {lz:Bool} (O:Has N S U H) (hj:H[j]?=some (.ai x 7 [[J W op,w,J W mn,J W mx,wt lz,J W cap,J W kids]])) (hi:H[i]?=some (.ai w 2 (a.map ak))) (hx:∀k,x.ref=k+1->L<=k) (hw:∀k,w.ref=k+1->L<=k):aB U L false 16 x=some (jO [fk op mn mx lz cap kids a]):=by
 have hpw:=KK O hi (cX _) hw 12;have hown:=O.own hj;generalize sE:[[D.int W op,w,J W mn,J W mx,wt lz,J W cap,J W kids]]=es at hown
 cases hown with
 |nul=>cases sE
 |win k aj off es c hm hl hc he=>
  subst sE;have A:=hx k (by simp[D.ref]);show(if k<L then some (D.win k aj off 1 7) else b_ U L 15 (yt k aj off 1 7))=_;rw[if_neg (show¬k<L by omega),b_];simp only[if_neg (show¬k<L by omega),St.mem_of hm,Qcc];have hl:off+1*7<=c.length:=hl;have hc:(c.drop off).take (1*7)=[[D.int W op,w,J W mn,J W mx,wt lz,J W cap,J W kids]].flatten:=hc;rw[if_pos hl,hc];show Option.map _ (cE (b_ U L 14) [J W op,w,J W mn,J W mx,wt lz,J W cap,J W kids])=_;have h1:∀n:Int,b_ U L 14 (J W n)=some (J W n):=λn=>rfl;have X:∀b:Bool,b_ U L 14 (wt b)=some (wt b):=λb=>rfl;have hre:D.sl ((a.map ak).map (jK 2))=az a:=by exact ef a
  simp only[cE,h1,X,hpw,Qcf];rw[hre]
  rfl
def ov (RF:x.cells?=some [x]) (O:Has N S Y H):
  ∃r R,Ev pv 148 [x] Y r R/\∃kk,r=yt kk 0 0 1 7/\S.bs.length<=kk/\Has N S R (.ai (yt kk 0 0 1 7) 7 [[J W 2,x,J W 0,J W 0,wt false,J W 0,J W 0]]::H):=by
 refine Ev.sv rfl Xq rfl rfl rfl ?_;refine zE ?_;change ah _ _ _ _ Y _;refine M 12 λk5 U FA O=>?_;exact⟨k5,rfl,FA,O⟩
def vH {parts:List (List aQ)} (op:Int) (hx:Qaj Y 1 x (parts.map cU)) (hv:∀l∈parts,∀n∈l,ki n) (B:parts.length<=100000) (hs:df parts<=100000):Ev pv 83 [J W op,x] Y (jO (cV op parts)) Y/\(∀n∈cV op parts,ki n)/\(parts.length=1->(cV op parts).length<=df parts)/\(cV op parts).length<=df parts+1:=by
 suffices hg:∃d,Ev pv 83 [J W op,x] Y d Y/\d=jO (cV op parts)/\(∀n∈cV op parts,ki n)/\(parts.length=1->(cV op parts).length<=df parts)/\(cV op parts).length<=df parts+1 by
  obtain⟨d,h1,rfl,X⟩:=hg;exact⟨h1,X⟩
 refine zM abH λS aP hF O=>?_;have hx:=Arg.of hx aP;refine M 11 ?_
 by_cases h1:parts.length=1
 .obtain⟨q,hq⟩:=gx (l:=parts) (i:=0)
  have dO:=rq hq
  have xE:parts=[q]:=by
   match parts,h1,hq with
   |[a],_,hq=>simp at hq;rw[hq]
  refine vX ?_;refine M 8 λYx LW=>?_;have hj:cV op parts=q:=by rw[xE];rfl
  refine⟨by rw[hj];rfl,by rw[hj];exact hv q (ε hq),λ_=>?_,?_⟩<;>rw[hj,xE]<;>simp[df]
 have Dv:((parts.length:Int)==1)=false:=by rw[beq_eq_false_iff_ne];omega
 refine vY ?_;refine M 8 ?_
 by_cases h0:parts.length=0;·have RX:parts=[]:=Δ.1 h0;refine vX ?_;refine G 2 ?_;refine qg (d:=.agg [J W 1,j5,J W 0,J W 0,wt false,J W 0,J W 0]) ?_;refine M 3 λk17 U Sm O=>?_;have hfz:=gZ (L:=Y.bs.length) (a:=[]) O aV (j4 ⟨rfl,rfl⟩) (λk A=>by have lx:k17+1=k+1:=A;rw[<-aP];omega);refine ah.ret ⟨rx,_,_,rfl,rl aP O (hfz),?_⟩;rw[RX];exact⟨rfl,AF (by simp) GB,λh=>by simp at h,by simp[cV]⟩
 have SE:((parts.length:Int)==0)=false:=by rw[beq_eq_false_iff_ne];omega
 have hj:cV op parts=fk op 0 0 false 0 (parts.length:Nat) []::parts.flatten:=by
  match parts,h0,h1 with
  |_::_::_,_,_=>rfl
 rw[hj];refine vY ?_;refine G 5 ?_;refine qn ?_;simp only[δ];refine qg (d:=.agg [J W op,j5,J W 0,J W 0,wt false,J W 0,J W (parts.length:Nat)]) ?_;refine qh (s:=7) (vs:=[_]) O λk22 U aei O=>?_;refine G 7 ?_;have O:Has Y.bs.length S U (.ai (yt k22 0 0 1 7) 7 [[J W op,j5,J W 0,J W 0,wt false,J W 0,J W (parts.length:Nat)]]::[]):=O;refine G 1 ?_;refine ah.loop (λmm I U=>∃(i:Nat) (od:D) (es:List (List D)),I.clean=fL I 7 [(1,x),(3,od),(0,J W (i:Nat))]/\Has Y.bs.length S U [.ai od 7 es]/\(i+mm=parts.length)/\(es.map (·.map oX)=(fk op 0 0 false 0 (parts.length:Nat) []::(parts.take i).flatten).map aO)/\(∀e∈es,∀d∈e,nB d=true)/\(∀k,od.ref=k+1->S.bs.length<=k)) (parts.length) ?_ ?_
 .refine⟨0,yt k22 0 0 1 7,[[J W op,j5,J W 0,J W 0,wt false,J W 0,J W (parts.length:Nat)]],rfl,O,by omega,rfl,?_,λk A=>by simp only[D.ref] at A;omega⟩;intro e he d hd;simp at he;subst he;simp only[ς,Qcj,or_false] at hd
  rcases hd with rfl|rfl|rfl|rfl|rfl|rfl|rfl<;>rfl
 rintro mm I U ⟨i,od,es,hfr,O,hi,sE,ht,gb⟩;rw[hfr];(try dsimp only[fL,fG,μ]);clear hfr;generalize ay I=ee;clear I;refine G 5 ?_;refine qn ?_;simp only[δ];refine G 2 ?_
 by_cases hlt:i<parts.length
 .obtain⟨q,hq⟩:∃q,parts[i]?=some q:=⟨parts[i]'hlt,γ _⟩
  have dO:=rq hq;have LM:=hv q (ε hq)
  have sF:es.length=1+(parts.take i).flatten.length:=by
   have hco:(υ∘List.map aO:List aQ->Nat)=υ:=by funext l;simp
   have:=congrArg υ sE;simp[hco] at this
   simp;omega
  have xC:parts.take (i+1)=parts.take i++[q]:=by rw[Qce,hq];rfl
  have Z7:df (parts.take (i+1))=df (parts.take i)+q.length:=by rw[xC,cz];simp[df]
  have Z8:df (parts.take (i+1))<=df parts:=by
   have:=cz (parts.take (i+1)) (parts.drop (i+1));rw[Qc9] at this;omega
  have hsf:=lE (parts.take i);refine qD rfl (by simp;omega) ?_;refine G 7 ?_;refine qr λp32 aau=>?_;refine qR ?_;refine y5 O aV ((iq LM).rows U) (by rw[δ];omega) gb λQU U gb O=>?_;dsimp at O;refine G 7 ?_;refine⟨mm-1,by omega,⟨i+1,QU,es++q.map aO,rfl,O,by omega,by rw[κ,sE,oF LM,xC,List.flatten_append,ο,ο,κ];simp,?_,gb⟩⟩;intro e he
  rcases Φ.1 he with he|he
  .exact ht e he
  exact lN LM e he
 refine qE rfl (by simp;omega) ?_;refine G 6 ?_;have hik:i=parts.length:=by omega
 rw[hik,Qck] at sE
 have hall:∀n∈fk op 0 0 false 0 (parts.length:Nat) []::parts.flatten,ki n:=λn hn=>by
  rcases ς.1 hn with rfl|hn
  .exact AF (by simp) GB _ (η ..)
  obtain⟨l,hl,hn⟩:=Qci.1 hn;exact hv l hl n hn
 refine ah.ret ⟨rx,_,_,rfl,rl aP O (fV O aV sE ht (λk A=>by have:=gb k A;rw[<-aP];exact this) AN),?_⟩;have hsf:=lE parts;exact⟨rfl,hall,by omega,by simp only[τ];omega⟩
def Co (a b:List UInt8):Ev pv 153 [yR a,yR b] Y (wt (nP a b)) Y:=by
 unfold nP;refine zM Xk λS aP hF O=>?_;refine M 13 ?_
 by_cases h:a.length=b.length
 .have hc:((a.length:Int) !=(b.length:Int))=false:=by rw[h];simp
  have h1:decide ((a.length:Int)<(b.length:Int))=false:=by rw[decide_eq_false_iff_not];omega
  have X:((a.length:Int)==(b.length:Int))=true:=by rw[h];simp
  rw[h1,X,ω,Bool.true_and];refine vY ?_;exact M 8 trivial
 have hc:((a.length:Int) !=(b.length:Int))=true:=by simp;omega
 have X:((a.length:Int)==(b.length:Int))=false:=by rw[beq_eq_false_iff_ne];omega
 rw[X,Bool.false_and,Bool.or_false];refine vX ?_;exact M 9 trivial
def tL (b:List UInt8) (F:b.length<=1048576):Ev pv 154 [yR b] Y (.tup [J W (fg b).1,wt (fg b).2]) Y:=by
 suffices hg:∃d,Ev pv 154 [yR b] Y d Y/\d=.tup [J W (fg b).1,wt (fg b).2] by
  obtain⟨d,h1,rfl⟩:=hg;exact h1
 unfold fg;refine zM Xj λS aP hF O=>?_;refine M 12 ?_;refine zP (λh0=>?_) λh0=>?_
 .rw[if_pos GB];refine M 6 ?_
  rfl
 rw[if_neg GB];refine G 11 ?_;refine ah.loop (λmm I U=>∃(i:Nat) (n:Int),I.clean=fL I 6 [(0,yR b),(3,J W n),(0,J W (i:Nat))]/\Has Y.bs.length S U []/\(i+mm=b.length)/\(zL (b.drop i) n=zL b 0)) (b.length) ?_ ?_;·exact⟨0,0,rfl,O,by omega,rfl⟩
 rintro mm I U ⟨i,n,hfr,O,hi,hn⟩;refine zK λee=>?_;refine M 8 ?_;refine zP (λh1=>?_) λh1=>?_
 .refine G 1 ?_
  obtain⟨c,hc⟩:=gx (l:=b) (i:=i)
  have qd:b.drop i=c::b.drop (i+1):=by
   have:=ζ (l:=b) (i:=i) GB;rw[this];congr 1;rw[γ GB] at hc;exact χ.inj hc
  rw[qd] at hn;refine G 4 ?_;refine u.vT (z:=aR W (10*n)) rfl Pd Pd (by rw[Int.mul_comm]) (ae rfl _) ?_;refine G 2 ?_;refine u.UP rfl Pd Pd rfl so (ae rfl _) ?_;refine qg (d:=J .u8 (aR .u8 ((c.toNat:Nat)-48))) ?_;refine qg ?_;refine u.uE (z:=aR W (aR W (10*n)+aR W (aR .u8 ((c.toNat:Nat)-48)))) rfl Pd Pd rfl (ae rfl _) ?_;refine G 7 ?_;exact⟨mm-1,by omega,i+1,_,rfl,O,by omega,hn⟩
 refine G 1 ?_;have sD:b.drop i=[]:=Qc6 GB;rw[sD] at hn;have hn:n=zL b 0:=hn;rw[<-hn];refine M 9 ?_
 rfl
def Rr (l:List Rg) (a b:Int):Qj l false a b=((decide (a<b) &&(decide (a<55296)||decide (a>57343))) &&!lh l a):=by
 unfold Qj;cases lh l a<;>simp
def EV {l:List Rg} (hx:Qaj Y 2 x (l.map ak)) (hl:l.length<=134217728):∃d,Ev pv 150 [x] Y d Y/\∃a:List Rg,d=az a/\canon a/\∀r,cS a r↔cN r/\¬cS l r:=by
 refine zM Xo λS aP hF O=>?_;have hx:=Arg.of hx aP;refine G 4 ?_;obtain⟨_,aK,m,rfl,hperm,kL⟩:=CP (hx.rows O) GB;have hlen:=hperm.length_eq;have iS:=oO l;have mG:m.length=4+(l.flatMap iL).length:=by rw[hlen];simp[fm];omega
 have V5:∀q∈m,0<=q/\q<=1114112:=by
  intro q hq;have:=hperm.mem_iff.1 hq;simp only[fm,Φ,ς,Qcj,or_false,Qch] at this
  rcases this with(h|h|h|h)|⟨y,_,hy⟩
  .omega
  .omega
  .omega
  .omega
  unfold iL at hy
  split at hy<;>split at hy<;>simp at hy<;>omega
 have hM:=o0 (l:=l) (m:=m) false (λq=>by
  rw[hperm.mem_iff]
  simp[fm,or_assoc]) kL
 have hMI:canon (dI l false m []).reverse/\∀r,cS (dI l false m []).reverse r↔cN r/\¬cS l r:=⟨hM.1,λr=>by rw[hM.2 r];simp⟩
 refine M (t:=(aK)) 6 ?_;have pf:=Arg.pure (N:=Y.bs.length) (S:=S) (s:=1) (es:=(m.map aI).map (jK 1)) (λU=>tE U m);change Arg Y.bs.length S 1 (sL m) _ at pf;refine G 9 ?_;have O:=O.cY 2;refine G 1 ?_;refine ah.loop (λmm I U=>∃(i:Nat) (y:D) (acc:List Rg),I.clean=⟨6,[x,ay I 1,ay I 2,sL m,y,J W (i:Nat)],[]⟩/\Has Y.bs.length S U [.ai y 2 (acc.reverse.map ak)]/\(i+mm=m.length)/\(dI l false (m.drop i) acc=dI l false m [])/\(acc.length<=i)/\(∀k∈acc,0<=k.2+1/\k.2+1<=1114112)) (m.length) ?_ ?_;·exact⟨0,j5,[],rfl,O,by omega,rfl,by simp,by simp⟩
 rintro mm I U ⟨i,y,acc,hfr,O,hi,B,hal,hab⟩;rw[hfr];(try dsimp only[fL,fG,μ]);clear hfr;generalize ay I=ee;clear I;refine G 6 ?_;refine qn ?_;simp only[δ];refine G 2 ?_;refine zP (λh1=>?_) λh1=>?_
 .refine G 1 ?_
  obtain⟨a,ha⟩:=gx (l:=m) (i:=i)
  obtain⟨b,F⟩:∃b,m[i+1]?=some b:=⟨m[i+1]' GB,γ _⟩
  have dO:=qZ ha;have pe:=qZ F;have hbr:=V5 b (ε F);have har:=V5 a (ε ha)
  have qd:m.drop i=a::b::m.drop (i+2):=by
   rw[ζ GB,ζ GB];rw[γ GB] at ha F;rw[χ.inj ha,χ.inj F]
  have SB:m.drop (i+1)=b::m.drop (i+2):=by
   rw[ζ GB];rw[γ GB] at F;rw[χ.inj F]
  rw[qd,dI,<-SB,Rr] at B;refine G 3 ?_;refine ah.dM 47 (wt ((decide (a<b) &&(decide (a<55296)||decide (a>57343))) &&!lh l a)) [] ?_ (λff tmp bp=>?_)
  .refine M 11 λQd Di Nu xF=>?_;refine y2 25 (λdw=>?_) λdw=>?_
   .refine M 6 λTK I2=>?_;refine y2 31 (λwJ=>?_) λwJ=>?_;·refine M (t:=(ow (hx.rows O) GB)) 16 λTJ I1=>?_;exact vV
    refine M 8 λYu O3=>?_;refine y2 39 (λnT=>?_) λnT=>?_;·refine G 3 ?_;refine qr (λTJ I1=>?_) (hg:=wi nT);refine G 1 ?_;refine qv (ow (hx.rows O) GB) ?_ (hg:=wi nT);refine G 2 ?_;exact vV
    refine G 8 ?_;exact vV
   refine G 22 ?_;exact vV
  refine zG ?_;refine qc (λX=>?_) (λX=>?_)<;>try simp only[cs] at X
  .rw[X,if_pos rfl] at B;have eY:=yy acc a (b-1);obtain⟨x',R,Bb,ub⟩:=Cx (acc:=acc) (lo:=a) (hi:=b-1) hF O GB (λk A=>by have:=hab k A;omega);refine G 4 ?_;refine qr λUY I0=>?_;refine G 4 ?_;refine qr λUX LQ=>?_;refine qR ?_;refine u.J_ rfl Pd Pd GB GB (ae rfl _) ?_;refine qv (Bb) ?_;refine G 2 ?_;have O:=ub;refine G 5 ?_;refine⟨mm-1,by omega,⟨i+1,x',eN acc a (b-1),rfl,O,by omega,B,by omega,?_⟩⟩;intro k A;unfold eN at A
   split at A;·simp at A;subst A;simp only;omega
   rename_i h t
   split at A
   .rcases ς.1 A with rfl|A
    .simp only;omega
    exact hab k (θ _ A)
   rcases ς.1 A with rfl|A
   .simp only;omega
   exact hab k A
  rw[X] at B;refine G 6 ?_;exact⟨mm-1,by omega,i+1,y,acc,rfl,O,by omega,B,by omega,hab⟩
 refine G 6 ?_
 have dC:acc=dI l false m []:=by
  rw[<-B];have hdl:(m.drop i).length<=1:=by rw[List.length_drop];omega
  match hd:m.drop i,hdl with
  |[],_=>rfl
  |[_],_=>rfl
 refine ah.ret ⟨rx,_,_,rfl,rl aP O ((O.freeze aV (cX _) (n:=15) AN)),?_⟩;exact⟨acc.reverse,by rw[ef],by rw[dC];exact hMI⟩
def yr {l:List Rg} (hx:Qaj Y 2 x (l.map ak)) (hl:l.length<=134217728):Ev pv 150 [x] Y (az (kY l)) Y:=by
 obtain⟨_,aK,a,rfl,h1,X⟩:=EV hx hl;rw[GN h1 X];exact aK
def kH {l:List Rg} (hx:Qaj Y 2 x (l.map ak)) (hl:l.length<=134217728):Ev pv 130 [x] Y (az (bB l)) Y:=by
 obtain⟨_,aK,a,rfl,h1⟩:=vG hx hl;rw[j6 h1];exact aK
def Jm (h0:0<=r) (h1:r<128):(Ω r).data.toList=[π r.toNat]:=by
 obtain⟨n,rfl⟩:=Int.eq_ofNat_of_zero_le h0;have X:n<128:=by omega
 have hv:Qcp (n:Int)=true:=by
  unfold Qcp;simp only[Bool.or_eq_true,Γ,decide_eq_true_eq];omega
 unfold Ω;simp only[hv,if_true,Int.toNat_natCast];simp[X]
def Ks (h:gs[i]?=some g):ft gs i=(g.1:Int)::ft gs (i+1):=by
 unfold ft;have hlt:=cI h;rw[ζ (by simp;exact hlt)]
 congr 1
 rw[List.getElem_map];rw[γ hlt] at h;rw[χ.inj h]
def Ra:(48<=bT g/\bT g<=57)↔(48<=(g.1:Int)/\(g.1:Int)<=57):=by
 unfold bT
 split<;>omega
def rf (bK:uF gs cj) (hi:s.i<=gs.length) (O:Has N S Y (x4 k (zm 0 false (bw rD aD s))::.ai rD 1 ((gs.map bT).map aI)::.ai aD 1 (cj.map av)::H)):
  ∃d R,Ev pv 152 [yv k 0 0] Y d R/\d=.tup [yR (digS (ft gs s.i) []).1,wt (decide (0<(digS (ft gs s.i) []).2))]/\(digS (ft gs s.i) []).1.length<=120/\s.i+(digS (ft gs s.i) []).2<=gs.length/\Has N S R (x4 k (zm 0 false (bw rD aD {s with i:=s.i+(digS (ft gs s.i) []).2}))::.ai rD 1 ((gs.map bT).map aI)::.ai aD 1 (cj.map av)::H):=by
 have nS:=bK.gl;have hl:=w7 (ft gs s.i) [];have ma:(ft gs s.i).length=gs.length-s.i:=by unfold ft;simp
 obtain⟨h1,X⟩:=hl;simp only[List.length_nil] at h1 X
 obtain⟨hk,hA⟩:∃hk,digS (ft gs s.i) []=hk:=⟨_,rfl⟩
 rw[hA] at h1 X|-
 suffices hg:∃d R,Ev pv 152 [yv k 0 0] Y d R/\d=.tup [yR hk.1,wt (decide (0<hk.2))]/\Has N S R (x4 k (zm 0 false (bw rD aD {s with i:=s.i+hk.2}))::.ai rD 1 ((gs.map bT).map aI)::.ai aD 1 (cj.map av)::H) by
  obtain⟨d,R,g1,g2,g3⟩:=hg;exact⟨d,R,g1,g2,by omega,by omega,g3⟩
 have br:=O;refine zO Xl λS2 bj O=>?_;refine G 12 ?_;refine ah.loop (λmm I U=>∃(j:Nat) (acc:List UInt8),I.clean=fL I 6 [(0,yv k 0 0),(3,yR acc),(0,wt (decide (0<j)))]/\Has N S2 U (x4 k (zm 0 false (bw rD aD {s with i:=s.i+j}))::.ai rD 1 ((gs.map bT).map aI)::.ai aD 1 (cj.map av)::H)/\(s.i+j+mm=gs.length)/\(acc.length<=j)/\(digS (ft gs (s.i+j)) acc=(hk.1,hk.2-j))/\(j<=hk.2)) (gs.length-s.i) ?_ ?_;·exact⟨0,[],rfl,O,by omega,by simp,(by rw[Nat.add_zero,hA];rfl),by omega⟩
 rintro mm I U ⟨j,acc,hfr,O,hj,hac,hd,hjA⟩;rw[hfr];(try dsimp only[fL,fG,μ]);clear hfr;generalize ay I=ee;clear I
 by_cases hlt:s.i+j<gs.length
 .obtain⟨g,hg⟩:∃g,gs[s.i+j]?=some g:=⟨gs[s.i+j]'hlt,γ _⟩
  have dO:=pA hg;have dw:decide (((s.i+j:Nat):Int)<(gs.length:Nat))=true:=by rw[decide_eq_true];simp;omega
  have rO:=@Ra g;rw[Ks hg] at hd;unfold digS at hd;refine G 2 ?_;refine ah.dM 41 (wt (decide (48<=bT g) &&decide (bT g<=57))) [] ?_ (λff tmp bp=>?_)
  .refine M 24 λU0 LU=>?_;refine y2 29 (λA'=>?_) λA'=>?_
   .refine M 12 λZy O2=>?_;refine u.nil (ax ?_ ?_)
    .dsimp[aC,Θ,nth,u2,u1]
     all_goals(first|rfl|simp)
    refine zF ?_
    all_goals(simp[dw,A'];done)
   refine G 12 ?_;refine u.nil (ax ?_ ?_)
   .dsimp[aC,Θ,nth,u2,u1]
    all_goals(first|rfl|simp)
   refine zF ?_
   all_goals(simp[dw,A'];done)
  refine zG ?_
  by_cases hdg:48<=bT g/\bT g<=57
  .have OX:bT g=(g.1:Int):=by
    have:=rO.1 hdg;exact jF GB
   rw[if_pos (rO.1 hdg)] at hd;have c_:(decide (48<=bT g) &&decide (bT g<=57))=true:=by rw[decide_eq_true hdg.1,decide_eq_true hdg.2];rfl
   refine M 3 ?_
   have hA2:hk.2=j+((digS (ft gs (s.i+j+1)) (if 48<(g.1:Int)\/acc≠[] then acc++[π (g.1:Int).toNat] else acc)).2+1):=by
    have:=congrArg Prod.snd hd;simp only at this;omega
   have wM:=congrArg Prod.fst hd;simp only at wM;have WA:(Ω (bT g)).data.toList=[π (g.1:Int).toNat]:=by rw[<-OX];exact Jm GB GB
   refine G 2 ?_;refine ah.ir (λI U=>∃(Nf:List UInt8) (tmp:List (Nat×D)),I=⟨6,[yv k 0 0,ay I 1,ay I 2,ay I 3,yR Nf,wt (decide (0<j))],tmp⟩/\Has N S2 U (x4 k (zm 0 false (bw rD aD {s with i:=s.i+j}))::.ai rD 1 ((gs.map bT).map aI)::.ai aD 1 (cj.map av)::H)/\(Nf=if 48<(g.1:Int)\/acc≠[] then acc++[π (g.1:Int).toNat] else acc)/\(Nf.length<=j+1)) ?_ ?_
   .by_cases hne:acc=[]
    .subst hne;have ba:(([]:List UInt8) !=[])=false:=rfl;refine M 17 λp53 aar=>?_
     by_cases h48:bT g=48;·refine qE rfl (by simp[h48]) ?_;refine G 1 ?_;exact⟨[],_,rfl,O,by rw[if_neg (by rw[<-OX,h48];simp)],by simp⟩
     refine qD rfl (by simp[h48]) ?_;refine M 12 λp66 VH=>?_;refine u.go (d:=yR [π (g.1:Int).toNat]) (st1:=_) rfl rfl (by show some (D.str (Ω (bT g)).data.toList,_)=_;rw[WA]) (ae rfl _) ?_;refine u.Yi (x:=[]) (y:=[π (g.1:Int).toNat]) rfl rfl Pd Pd (by simp<;>omega) ?_;refine G 2 ?_;exact⟨[π (g.1:Int).toNat],_,rfl,O,by rw[if_pos (xR GB)];rfl,by simp⟩
    have ba:(acc !=[])=true:=by simpa using hne
    refine M 30 λp66 VH=>?_;refine u.go (d:=yR [π (g.1:Int).toNat]) (st1:=_) rfl rfl (by show some (D.str (Ω (bT g)).data.toList,_)=_;rw[WA]) (ae rfl _) ?_;refine u.Yi (x:=acc) (y:=[π (g.1:Int).toNat]) rfl rfl Pd Pd (by simp<;>omega) ?_;refine G 2 ?_;exact⟨acc++[π (g.1:Int).toNat],_,rfl,O,by rw[if_pos (j4 hne)],by simp;exact hac⟩
   rintro I U ⟨Nf,tmp,hfr,O,abk,hal2⟩;refine zK λee=>?_;rw[<-abk] at wM hA2;refine G 9 ?_;refine yA (z:=((s.i+(j+1):Nat):Int)) ?_;refine M 4 λU O=>?_;exact⟨mm-1,by omega,j+1,Nf,rfl,O,by omega,hal2,(by rw[show s.i+(j+1)=s.i+j+1 by omega];exact Prod.ext wM (by simp only;omega)),by omega⟩
  rw[if_neg (λh=>hdg (rO.2 h))] at hd
  have c_:(decide (48<=bT g) &&decide (bT g<=57))=false:=by
   rw[Qc7,decide_eq_false_iff_not,decide_eq_false_iff_not];omega
  refine M 2 ?_;have h5:=congrArg Prod.fst hd;have h6:=congrArg Prod.snd hd;simp only at h5 h6;have h7:hk.2=j:=by omega
  rw[<-h5,h7];refine M 8 ?_;exact⟨rfl,br.ag bj O⟩
 have dw:decide (((s.i+j:Nat):Int)<(gs.length:Nat))=false:=by rw[decide_eq_false];simp;omega
 have hrn:ft gs (s.i+j)=[]:=by unfold ft;exact Qc6 (by simp;omega)
 rw[hrn] at hd;have hd:(acc,0)=(hk.1,hk.2-j):=hd;refine G 2 ?_;refine ah.dM 41 (wt false) [] ?_ (λff tmp bp=>?_)
 .refine M 36 ?_;refine u.nil (ax ?_ ?_)
  .dsimp[aC,Θ,nth,u2,u1]
   all_goals(first|rfl|simp)
  exact zS
  all_goals(first|rfl|(simp[dw];done)|(simp_all;done)|(simp[dw];omega)|(simp_all;omega))
 refine zG ?_;refine G 2 ?_;have h5:=congrArg Prod.fst hd;have h6:=congrArg Prod.snd hd;simp only at h5 h6;have h7:hk.2=j:=by omega
 rw[<-h5,h7];refine M 8 ?_;exact⟨rfl,br.ag bj O⟩
def Tx (gs:List (Nat×Nat)) (af:PR (List Rg×Bool)) (s s':gj) (a:List Rg):Prop:=
 s'.g=s.g/\s.i<=s'.i/\s'.i<=gs.length/\a.length<=4/\(fH af s'.e\/s'.e=0/\s.i<s'.i/\a≠[]/\af=.ok (a,gG a) s'.i)
def rh (bK:uF gs cj) (he:s.e=0) {f:Nat} (hf:s.i=f+1) (hi:s.i<=gs.length) (v:Int) (O:Has N S Y (x4 k (zm 0 false (bw rD aD s))::.ai rD 1 ((gs.map bT).map aI)::.ai aD 1 (cj.map av)::H)):
  ∃d R,Ev pv 151 [yv k 0 0,J W v] Y d R/\∃(a:List Rg) (s':gj),d=az a/\Tx gs (lH gs f) s s' a/\Has N S R (x4 k (zm 0 false (bw rD aD s'))::.ai rD 1 ((gs.map bT).map aI)::.ai aD 1 (cj.map av)::H):=by
 have nS:=bK.gl;have hal:=bK.al;have br:=O;refine zO Xn λS2 bj O=>?_
 obtain⟨af,hR⟩:∃af,lH gs f=af:=⟨_,rfl⟩
 rw[hR];unfold lH at hR;rw[<-hf,show f+2=s.i+1 by omega] at hR
 have LL:∀(U:St) (l:List Rg) (kk n:Nat) (s':gj),S2.bs.length<=kk->Has N S2 U (.ai (yt kk 0 0 n 2) 2 (l.map ak)::x4 k (zm 0 false (bw rD aD s'))::.ai rD 1 ((gs.map bT).map aI)::.ai aD 1 (cj.map av)::H)->∃d R,cZ .rw false Y U (yt kk 0 0 n 2)=some (d,R)/\d=az l/\Has N S R (x4 k (zm 0 false (bw rD aD s'))::.ai rD 1 ((gs.map bT).map aI)::.ai aD 1 (cj.map av)::H):=by
  intro U l kk n s' A O;have hfz:=kM O aV (L:=Y.bs.length) (n:=16) (λk A=>by simp only[D.ref] at A;rw[<-bj];omega) AN;exact⟨_,_,aH hfz,rfl,br.ag bj (O.drop 1)⟩
 have ko:∀(s3:gj) (w:Nat) (v:Int),s3.e=0->s3.g=s.g->s.i<=s3.i->s3.i<=gs.length->af=.er 4 w->Tx gs af s (iy s3 4 v) []:=by
  intro s3 w v h1 X h3 h4 hv;have h5:=jJ s3 4 v;exact⟨by omega,by omega,by omega,by simp,xR ⟨by rw[eo h1];decide,w,by rw[eo h1];exact hv⟩⟩
 refine M 18 ?_;refine zP (λh0=>?_) λh0=>?_;·rw[Ψ GB] at hR;refine G 4 ?_;obtain⟨_,U,aK,rfl,O⟩:=bJ (s:=s) 4 v O;refine M 7 ?_;exact⟨[],_,rfl,ko s _ v he rfl (ρ _) hi hR.symm,br.ag bj O⟩
 obtain⟨g,hg⟩:∃g,gs[s.i]?=some g:=⟨gs[s.i]' GB,γ _⟩
 have dO:=pA hg;have hlt:=cI hg;rw[hg] at hR;simp only at hR;rw[F6 hg] at hR;refine M 21 λTL I3=>?_;refine zI (λF=>?_) λF=>?_;·rw[if_pos (by simpa using F)] at hR;refine G 4 ?_;obtain⟨_,U,aK,⟨v2,rfl⟩,O⟩:=jW (s:=s) GB O;refine qv aK ?_;obtain⟨_,U,aK,rfl,O⟩:=bJ (s:=s) 4 v2 O;refine M 7 ?_;exact⟨[],_,rfl,ko s _ v2 he rfl (ρ _) hi hR.symm,br.ag bj O⟩
 have OX:=jF F;rw[if_neg (by simpa using F),<-OX] at hR;refine M 12 λU O=>?_;have O:Has N S2 U (x4 k (zm 0 false (bw rD aD {s with i:=s.i+1}))::.ai rD 1 ((gs.map bT).map aI)::.ai aD 1 (cj.map av)::H):=O
 have dC:∀(a:List Rg) (b:Bool),af=.ok (a,b) (s.i+1)->b=gG a->a.length<=4->a≠[]->Tx gs af s {s with i:=s.i+1} a:=λa b h0 h1 X h3=>⟨rfl,by show s.i<=s.i+1;omega,by show s.i+1<=_;omega,X,j4 ⟨he,by show s.i<s.i+1;omega,h3,by rw[h0,h1]⟩⟩
 refine G 11 ?_;refine zI (λq1=>?_) λq1=>?_;·rw[if_pos q1,lR (by unfold cN;omega)] at hR;refine M 6 λk46 U Wi O=>?_;obtain⟨d',R,ng,sG,O⟩:=LL _ [(10,10)] k46 1 {s with i:=s.i+1} Wi O;exact ah.ret ⟨rx,_,d',R,rfl,ng,_,_,sG,dC _ _ hR.symm rfl (by simp) (by simp),O⟩
 rw[if_neg q1] at hR;refine G 5 ?_;refine zI (λq2=>?_) λq2=>?_;·rw[if_pos q2,lR (by unfold cN;omega)] at hR;refine M 6 λk50 U aaS O=>?_;obtain⟨d',R,ng,sG,O⟩:=LL _ [(9,9)] k50 1 {s with i:=s.i+1} aaS O;exact ah.ret ⟨rx,_,d',R,rfl,ng,_,_,sG,dC _ _ hR.symm rfl (by simp) (by simp),O⟩
 rw[if_neg q2] at hR;refine G 5 ?_;refine zI (λq3=>?_) λq3=>?_;·rw[if_pos q3,lR (by unfold cN;omega)] at hR;refine M 6 λk54 U Dp O=>?_;obtain⟨d',R,ng,sG,O⟩:=LL _ [(13,13)] k54 1 {s with i:=s.i+1} Dp O;exact ah.ret ⟨rx,_,d',R,rfl,ng,_,_,sG,dC _ _ hR.symm rfl (by simp) (by simp),O⟩
 rw[if_neg q3] at hR;refine G 5 ?_;refine zI (λq4=>?_) λq4=>?_;·rw[if_pos q4,OG] at hR;refine M 6 λk58 U aaQ O=>?_;obtain⟨d',R,ng,sG,O⟩:=LL _ [(48,57)] k58 1 {s with i:=s.i+1} aaQ O;exact ah.ret ⟨rx,_,d',R,rfl,ng,_,_,sG,dC _ _ hR.symm rfl (by simp) (by simp),O⟩
 rw[if_neg q4] at hR;refine G 5 ?_;refine zI (λq5=>?_) λq5=>?_;·rw[if_pos q5,GY] at hR;refine M 6 λk64 U aea O=>?_;have aK:=kH (l:=[(9,10),(13,13),(32,32)]) (O.rows aV) (by simp);rw[GY] at aK;refine M 4 ?_;exact⟨_,_,rfl,dC _ _ hR.symm rfl (by simp) (by simp),br.ag bj (O.drop 1)⟩
 rw[if_neg q5] at hR;refine G 5 ?_;refine zI (λq6=>?_) λq6=>?_;·rw[if_pos q6,GX] at hR;refine M 7 λk72 U ad8 O=>?_;have aK:=kH (l:=[(48,57),(65,90),(95,95),(97,122)]) (O.rows aV) (by simp);rw[GX] at aK;refine M 4 ?_;exact⟨_,_,rfl,dC _ _ hR.symm rfl (by simp) (by simp),br.ag bj (O.drop 1)⟩
 rw[if_neg q6] at hR;refine M (t:=(Cl _)) 8 ?_;refine ah.cond (by rfl) (λq7=>?_) (λq7=>?_)<;>try simp only[decide_eq_true_eq,decide_eq_false_iff_not,Qcd,Bool.not_eq_false'] at q7
 .rw[if_neg q7] at hR;refine G 4 ?_;obtain⟨_,U,aK,rfl,O⟩:=bJ (s:={s with i:=s.i+1}) 4 v O;refine M 7 ?_;exact⟨[],_,rfl,ko {s with i:=s.i+1} _ v he rfl (by show s.i<=s.i+1;omega) (by show s.i+1<=_;omega) hR.symm,br.ag bj O⟩
 rw[if_pos q7,lR (by unfold cN;omega)] at hR;refine M 9 λk83 U We O=>?_;obtain⟨d',R,ng,sG,O⟩:=LL _ [(bT g,bT g)] k83 1 {s with i:=s.i+1} We O;exact ah.ret ⟨rx,_,d',R,rfl,ng,_,_,sG,dC _ _ hR.symm (by simp[gG]) (by simp) (by simp),O⟩
def QQ (gs:List (Nat×Nat)) (s s':gj) (a:List Rg):Prop:=
 s'.g=s.g/\s.i<=s'.i/\s'.i<=gs.length/\a.length<=4/\(fH (fR gs s.i) s'.e\/(s'.e=4/\fR gs s.i=.ok none s.i)\/s'.e=0/\s.i<s'.i/\a≠[]/\fR gs s.i=.ok (some (a,gG a)) s'.i)
def vI (bK:uF gs cj) (he:s.e=0) (hi:s.i<gs.length) (h93:cy gs s.i 93=false) (O:Has N S Y (x4 k (zm 0 false (bw rD aD s))::.ai rD 1 ((gs.map bT).map aI)::.ai aD 1 (cj.map av)::H)):
  ∃d R,Ev pv 167 [yv k 0 0] Y d R/\∃(a:List Rg) (v:Int) (s':gj),d=.tup [az a,J W v]/\QQ gs s s' a/\Has N S R (x4 k (zm 0 false (bw rD aD s'))::.ai rD 1 ((gs.map bT).map aI)::.ai aD 1 (cj.map av)::H):=by
 have nS:=bK.gl;have hal:=bK.al;have br:=O;refine zO Xb λS2 bj O=>?_
 obtain⟨g,hg⟩:∃g,gs[s.i]?=some g:=⟨gs[s.i]' GB,γ _⟩
 have dO:=pA hg;rw[tT hg AN AN] at h93;have h93:¬bT g=93:=by simpa using h93
 have hv:fR gs s.i=fR gs s.i:=rfl
 conv at hv=>rhs;unfold fR;rw[hg];simp only;rw[F6 hg]
 have ko:∀(v:Int),(fH (fR gs s.i) 4\/fR gs s.i=.ok none s.i)->QQ gs s (iy {s with i:=s.i+1} 4 v) []:=by
  intro v h;have h5:=jJ {s with i:=s.i+1} 4 v;have h6:(iy {s with i:=s.i+1} 4 v).e=4:=eo he;obtain⟨h7,h8⟩:=h5;simp only at h7 h8;refine⟨h8,by omega,by omega,by simp,?_⟩
  rcases h with h|h
  .exact xR (by rw[h6];exact h)
  exact j4 (xR ⟨h6,h⟩)
 refine G 8 ?_;obtain⟨_,U,aK,⟨v,rfl⟩,O⟩:=jW (s:=s) GB O;refine M 28 λU1 LV U O=>?_;have O:Has N S2 U (x4 k (zm 0 false (bw rD aD {s with i:=s.i+1}))::.ai rD 1 ((gs.map bT).map aI)::.ai aD 1 (cj.map av)::H):=O;refine G 11 ?_;refine zI (λq1=>?_) λq1=>?_
 .have OX:=jF (g:=g) GB;rw[decide_eq_false GB,if_neg (by simp),if_pos GB] at hv;refine G 4 ?_;obtain⟨_,U,aK,a,s',rfl,⟨e1,e2,e3,e4,e5⟩,O⟩:=rh (s:={s with i:=s.i+1}) bK he (f:=s.i) rfl (by show s.i+1<=_;omega) v O;refine M 6 ?_;simp only at e1 e2;refine⟨_,_,s',rfl,⟨e1,by omega,e3,e4,?_⟩,br.ag bj O⟩
  rcases e5 with e5|⟨e5,e6,e7,e8⟩
  .exact xR (e5.map λe w h=>by rw[hv,h])
  exact j4 (j4 ⟨e5,by omega,e7,by rw[hv,e8]⟩)
 refine G 6 ?_
 by_cases Ed:bT g=91;·have OX:=jF (g:=g) GB;rw[decide_eq_false GB,if_neg (by simp),if_neg GB,if_pos (xR GB)] at hv;refine vX ?_;refine G 1 ?_;refine vX ?_;refine G 4 ?_;obtain⟨_,U,aK,rfl,O⟩:=bJ (s:={s with i:=s.i+1}) 4 v O;refine M 9 ?_;exact⟨[],_,_,rfl,ko v (j4 hv),br.ag bj O⟩
 refine vY ?_;refine G 5 ?_
 by_cases P9:bT g=45;·have OX:=jF (g:=g) GB;rw[decide_eq_false GB,if_neg (by simp),if_neg GB,if_pos (j4 (j4 GB))] at hv;refine vX ?_;refine G 1 ?_;refine vX ?_;refine G 4 ?_;obtain⟨_,U,aK,rfl,O⟩:=bJ (s:={s with i:=s.i+1}) 4 v O;refine M 9 ?_;exact⟨[],_,_,rfl,ko v (j4 hv),br.ag bj O⟩
 refine vY ?_;refine G 4 ?_
 by_cases IZ:bT g=-1;·rw[decide_eq_true IZ,if_pos rfl] at hv;refine vX ?_;refine G 4 ?_;obtain⟨_,U,aK,rfl,O⟩:=bJ (s:={s with i:=s.i+1}) 4 v O;refine M 9 ?_;exact⟨[],_,_,rfl,ko v (xR ⟨by decide,_,hv⟩),br.ag bj O⟩
 have OX:=jF IZ;rw[decide_eq_false IZ,if_neg (by simp),if_neg GB,if_neg GB] at hv;refine vY ?_;refine M 11 λk43 U aaU O=>?_;have O:Has N S2 U (.ai (yt k43 0 0 1 2) 2 (([(bT g,bT g)]:List Rg).map ak)::x4 k (zm 0 false (bw rD aD {s with i:=s.i+1}))::.ai rD 1 ((gs.map bT).map aI)::.ai aD 1 (cj.map av)::H):=O;have hfz:=kM O aV (L:=Y.bs.length) (n:=15) (λk A=>by simp only[D.ref] at A;rw[<-bj];omega) AN
 have Su:aB U Y.bs.length true 16 (qP [yt k43 0 0 1 2,J W v])=some (.tup [az [(bT g,bT g)],J W v]):=by
  show(cE (aB U Y.bs.length true 15) [yt k43 0 0 1 2,J W v]).map D.tup=_;simp only[cE,za,hfz];rfl
 refine ah.ret ⟨rx,_,_,_,rfl,aH Su,⟨_,_,{s with i:=s.i+1},rfl,⟨rfl,?_,?_,by simp,j4 (j4 ⟨he,?_,by simp,?_⟩)⟩,br.ag bj (O.drop 1)⟩⟩;·show s.i<=s.i+1;omega
 .show s.i+1<=_;omega
 .show s.i<s.i+1;omega
 rw[hv,OX];simp[gG]
end Go.Proofs.YtappgjdiplibbaaGreat
