/-
 The code of an alternative and of a repeat. %deep
-/
import Derived.Test.YtappgjdiplibbaaGreatYGHs
import Derived.Test.YtappgjdiplibbaaGreatYGPb
import Derived.Test.YtappgjdiplibbaaGreatYGCa
import Derived.Test.YtappgjdiplibbaaGreatYKa
set_option maxRecDepth 100000
set_option maxHeartbeats 4000000
set_option linter.all false
open List renaming length_append->γ,length_cons->δ,length_map->ε,length_nil->ζ,append_assoc->η,mem_of_getElem?->θ,mem_cons_of_mem->ι,drop_eq_getElem_cons->μ,mem_cons_self->ν,getElem?_eq_getElem->ξ,getElem?_append_right->ο,length_set->π,getElem?_append_left->ς,append_nil->τ,map_append->υ,mem_append->φ,drop_length->χ,map_cons->ω,length_reverse->Γ,getElem?_eq_some_iff->Θ,take_add_one->Ξ,mem_cons->Φ,map_nil->Ψ,mem_map->Ω,foldl_cons->Q2,getElem?_map->Q6,sum_nil->Q7,foldl->QQ,getElem?_set_self->QW,take_of_length_le->QY,getElem?_set_ne->QV,mem_append_left->QG,map_congr_left->QC,mem_singleton->QS,flatMap_cons->Qe,take_length->W0,drop_zero->W4,replicate->W5
open Nat renaming reduceAdd->κ,le_refl->ρ,le_of_ble_eq_true->ψ,succ_mul->W'
open Go.V.D renaming cells->Δ,ref->QT,cells?->Wk
open Go.V renaming Rows->Q4,look->WM
open Go.V.u renaming go->Q9,cB->Wz,ti->Wv,mr->WN
open Int renaming eq_ofNat_of_zero_le->QX,le_refl->QH
open Option renaming some->QK,map_some->Qu
namespace Go.Proofs.YtappgjdiplibbaaGreat
open Go.V Go
variable{bb:Bool}
def jY (n:Nat):List D:=[.int .i64 (n:Nat)]
def rv {l:List Nat} {i q:Nat} (h:l[i]?=some q):(l.map jY)[i]?=some (jY q):=by rw[Q6,h];rfl
def T7 (bb:Bool) (N:Nat) (S U:St) (k:Nat) (nd zd ed:D) (Z E:List Int) (H:List aX) (code:List bn):Prop:=
 ∃cd ks,Has N S U (.box k (.mem 0 false [cd,nd,zd,ed])::.cM bb ks cd 4 (code.map bN)::.ai zd 1 (Z.map av)::.ai ed 1 (E.map av)::H)
def xl (bb:Bool) (l:List aQ) (t:Q):Prop:=∀{N k:Nat} {S Y:St} {H:List aX} {nd zd ed:D} {code:List bn} {Z E:List Int} {at_:Nat},S.flr<=N->fJ nd 7 (l.map aO)->g_ l at_ t.flat->g_ Z at_ t.zs->g_ E at_ (t.es at_)->t.ok->code.length+t.sz<=1000000->T7 bb N S Y k nd zd ed Z E H code->
 ∃r R,Ev pv 48 [.ptr k 0 0,.int .i64 (at_:Nat)] Y r R/\r=.tup []/\T7 bb N S R k nd zd ed Z E H (code++aF t code.length)
variable{E:List Int}{t:Q}{a:Nat}
def HE (h:g_ E a (t.es a)):E[a]?=some ((a+t.flat.length:Nat):Int):=by
 obtain⟨n,ks⟩:=t;simp only[Q.es] at h;rw[h.head];simp only[Q.flat,δ]
 congr 2;omega
variable{Z:List Int}
def Gd (h:g_ Z a t.zs):Z[a]?=some ((min t.sz 401:Nat):Int):=by
 obtain⟨n,ks⟩:=t;simp[Q.zs] at h;rw[h.head];rfl
def To {l:List aQ} (pg:l.length<=1048576) {m:Nat} (ih:∀t:Q,t.flat.length<=m->xl bb l t) {n:aQ} {ks:aG} (hop:n.op=4) (V9:ks.flat.length<=m) (mb:mV n ks.len) (rQ:ks.ok) {N k:Nat} {S Y:St} {H:List aX} {nd zd ed:D} {code:List bn} {at_:Nat} (hF:S.flr<=N) (Dl:fJ nd 7 (l.map aO)) (pb:g_ l at_ (n::ks.flat)) (hsz:g_ Z (at_+1) ks.zs) (yV:g_ E (at_+1) (ks.es (at_+1))) (F:code.length+cg n ks.sz ks.len<=1000000) (hM:T7 bb N S Y k nd zd ed Z E H code):
  ∃r R,Ev pv 75 [.ptr k 0 0,.int .i64 (at_:Nat)] Y r R/\r=.tup []/\T7 bb N S R k nd zd ed Z E H (code++eC (jH (code.length+cg n ks.sz ks.len)) ks code.length):=by
 obtain⟨cd,dk,O⟩:=hM;have hle:=pb.le (by simp);simp at hle;have hn:=pb.head;have pb:=pb.tail;have dO:=i_ hn;have Fz:=mb.1;have lT:=aG.sX ks
 have jn:2<=ks.len:=by
  obtain⟨_,hq⟩:=mb;omega
 have JF:cg n ks.sz ks.len=ks.sz+2*(ks.len-1):=by unfold cg;rw[if_neg (by omega),if_pos hop]
 rw[JF] at F|-;clear JF;refine Ev.sv rfl abP rfl rfl rfl ?_;refine zE ?_;change ah _ _ _ _ Y _;have hc:=Dl.arg N S;refine M 23 λQd Di Yw O5=>?_;have O:Has N S Y (_::.cM bb dk cd 4 (code.map bN)::.ai zd 1 (Z.map av)::.ai ed 1 (E.map av)::.ai .nul 1 (([]:List Nat).map jY)::H):=(O.cY 1).N3;refine G 1 ?_;refine ah.loop (λmm I U=>∃(i j:Nat) (rest:aG) (cd jd:D) (dk:Nat->Prop) (aq:List bn) (js:List Nat),I.clean=fL I 68 [(0,.ptr k 0 0),(0,.int .i64 (at_:Nat)),(2,jd),(0,.int .i64 (j:Nat)),(13,.int .i64 n.kids),(0,.int .i64 (i:Nat))]/\Has N S U (.box k (.mem 0 false [cd,nd,zd,ed])::.cM bb dk cd 4 (aq.map bN)::.ai zd 1 (Z.map av)::.ai ed 1 (E.map av)::.ai jd 1 (js.map jY)::H)/\(mm=rest.len)/\(i+rest.len=ks.len)/\(0<rest.len)/\(g_ l j rest.flat)/\(g_ Z j rest.zs)/\(g_ E j (rest.es j))/\(rest.ok)/\(aq++eC (jH 0) rest aq.length=code++eC (jH 0) ks code.length)/\(js++ky rest aq.length=ky ks code.length)/\(aq.length+(rest.sz+2*(rest.len-1))=code.length+(ks.sz+2*(ks.len-1)))/\(rest.flat.length<=m)/\(js.length<=i)) (ks.len) ?_ ?_
 .exact⟨0,at_+1,ks,cd,.nul,dk,code,[],rfl,O,rfl,by omega,by omega,pb,hsz,yV,rQ,rfl,rfl,rfl,V9,by simp⟩
 rintro mm I U ⟨i,j,rest,cd,jd,dk,aq,js,hfr,O,sC,sD,OY,l_,Df,ur,nc,dW,hjs,hcl,hrm,hjl⟩;refine zK λee=>?_;refine G 4 ?_
 cases rest with
 |nil=>simp[aG.len] at OY
 |cons t ts=>
  simp only[aG.len] at sD sC hcl;simp only[aG.sz] at hcl;simp[aG.flat] at l_ hrm;simp[aG.zs] at Df;simp[aG.es] at ur;simp[aG.ok] at nc;have RJ:=t.kT;have Qq:=t.lj j;have s_:=dD t (aq.length+1) nc.1;have aad:=iu (HE ur.left);have c_:decide ((i:Int)<n.kids)=true:=by rw[decide_eq_true_eq];omega
  refine qq<|vX ?_;refine M 20 λRm Fx Yv O4=>?_;refine u.Aa (z:=((ks.len-1:Nat):Int)) rfl (ev rfl) (ev rfl) (by(try simp only[Γ,δ,ζ,γ,ε,π]);rw[wrap_i64 (by omega) (by omega)]<;>omega) (by dsimp<;>rfl) ?_;refine G 2 ?_
  by_cases rP:ts.len=0
  .simp[eC,ky,if_pos rP] at dW hjs;have htn:=aG.len_nil rP;subst htn;simp only[aG.sz,aG.len] at hcl sD;have FD:(((i:Nat):Int)==((ks.len-1:Nat):Int))=true:=by rw[beq_iff_eq];omega
   refine vX ?_;refine G 4 ?_;obtain⟨_,U,aK,rfl,cd,dk,O⟩:=ih t (by omega) hF Dl l_.left Df.left ur.left nc.1 (by omega) ⟨cd,dk,O⟩;refine M 9 ?_;rw[dW] at O;have hal:=sk (jH 0) ks code.length rQ;obtain⟨sA,tX⟩:=oS (jp:=jH (code.length+(ks.sz+2*(ks.len-1)))) (i0:=jH 0) ks code.length code [] rQ rfl;simp only[τ] at sA tX;have BG:(code++eC (jH 0) ks code.length).length=code.length+(ks.sz+2*(ks.len-1)):=by rw[γ,hal]
   rw[<-hjs] at sA tX;rw[<-sA];clear sA dW;generalize code++eC (jH 0) ks code.length=C0 at*;generalize code.length+(ks.sz+2*(ks.len-1))=e at*;refine G 1 ?_;refine ah.loop (λmm I U=>∃(q:Nat) (C:List bn),I.clean=fL I 68 [(0,.ptr k 0 0),(64,jd),(0,.int .i64 (js.length:Nat)),(0,.int .i64 (q:Nat))]/\Has N S U (.box k (.mem 0 false [cd,nd,zd,ed])::.cM bb dk cd 4 (C.map bN)::.ai zd 1 (Z.map av)::.ai ed 1 (E.map av)::.ai jd 1 (js.map jY)::H)/\(q+mm=js.length)/\(fO (λ_=>jH e) C (js.drop q)=fO (λ_=>jH e) C0 js)/\(∀p∈js,∃v:Int,C[p]?=some (bZ 3 v 0 []))/\(C.length=e)) (js.length) ?_ ?_
   .exact⟨0,C0,rfl,O,by omega,rfl,λp B=>⟨_,tX p B⟩,BG⟩
   rintro mm I U ⟨q,C,hfr,O,hq,eW,hall,Ms⟩;refine zK λee=>?_;refine G 5 ?_;refine zP (λhlt=>?_) λhlt=>?_
   .refine G 1 ?_;have yX:q<js.length:=by omega
    obtain⟨p,B⟩:∃p,js[q]?=some p:=⟨js[q]'yX,ξ _⟩
    obtain⟨v,hv⟩:=hall p (θ B);have dO:=rv B;have pe:=kK hv;have eY:=cI hv;refine M 18 λp69 VG=>?_;refine Wv O rfl (ev rfl) (by exact bf) rfl (ae rfl _) ?_;simp only[ε];refine u.uB (s:=4) O rfl (ev rfl) (ev rfl) (by exact bf) rfl rfl (by exact cI (by assumption)) (λ_=>(ae rfl _)) (λp81 aan=>?_);refine yF (o2:=1) λp82 aam=>?_;refine u.jw O rfl (ev rfl) (ev rfl) (by assumption) rfl rfl (by exact bf) (by assumption) (ψ rfl) (by intro d hd;simp at hd;subst hd;rfl) (by exact .inl hF) (λU O=>?_);dsimp[u2,u1,u3,u4,setMany,u5,u6,Δ,κ,bN,aO,av,jY] at O;refine G 5 ?_
    have qd:js.drop q=p::js.drop (q+1):=by
     rw[μ yX]
     congr 1
     exact QK.inj ((ξ _).symm.trans B)
    refine⟨mm-1,by omega,⟨q+1,C.set p (jH e),rfl,(by rw[List.map_set,<-Ms];exact O),by omega,by rw[qd] at eW;exact eW,?_,by rw[π];exact Ms⟩⟩;intro p' wE
    by_cases hpp:p'=p
    .subst hpp;exact⟨_,QW eY⟩
    .rw[QV (λe=>hpp e.symm)];exact hall p' wE
   .refine G 1 ?_;refine⟨λi h=>(by cases h),_,_,_,rfl,rfl,?_⟩;have oW:q=js.length:=by omega
    rw[oW,χ] at eW;have eW:C=fO (λ_=>jH e) C0 js:=eW;rw[<-eW];exact⟨rfl,cd,dk,O.erase 4⟩
  .simp[eC,ky,if_neg rP] at dW hjs;have FD:(((i:Nat):Int)==((ks.len-1:Nat):Int))=false:=by rw[beq_eq_false_iff_ne];omega
   refine vY ?_;refine G 4 ?_;refine Q9 (d:=.agg [.int .i64 2,.int .i64 0,.int .i64 0,.nul]) (st1:=_) rfl rfl rfl (by dsimp<;>rfl) ?_;have O:=O.cY 2;obtain⟨_,U,aK,rfl,cd,dk,O⟩:=iV (rs:=[]) hF (by omega) O;refine M 3 ?_;have kq:(aq++[bZ 2 0 0 []]).length=aq.length+1:=by simp
   refine G 4 ?_;obtain⟨_,U,aK,rfl,cd,dk,O⟩:=ih t (by omega) hF Dl l_.left Df.left ur.left nc.1 (by omega) ⟨cd,dk,O⟩;refine M 2 ?_;rw[kq] at O;have mJ:(aq++[bZ 2 0 0 []]++aF t (aq.length+1)).length=aq.length+1+t.sz:=by rw[γ,kq,s_]
   refine G 4 ?_;refine Q9 (d:=.agg [.int .i64 3,.int .i64 0,.int .i64 0,.nul]) (st1:=_) rfl rfl rfl (by dsimp<;>rfl) ?_;have O:=O.cY 2;obtain⟨_,U,aK,rfl,cd,dk,O⟩:=iV (rs:=[]) hF (by omega) O;refine M 5 λk47 U aaT O Uw U O=>?_;have O:=O.drop 1
   have Dw:(aq++[bZ 2 0 0 []]++aF t (aq.length+1)++[bZ 3 0 0 []])[aq.length]?=some (bZ 2 0 0 []):=by
    rw[η,η];exact oL _ _ _
   have Du:(aq++[bZ 2 0 0 []]++aF t (aq.length+1)++[bZ 3 0 0 []]).length=aq.length+1+t.sz+1:=by rw[γ,mJ];rfl
   have AU:(aq++[bZ 2 0 0 []]++aF t (aq.length+1)++[bZ 3 0 0 []]).set aq.length (mS aq.length (aq.length+1+t.sz+1) false)=aq++(mS aq.length (aq.length+1+t.sz+1) false::(aF t (aq.length+1)++[jH 0])):=by
    rw[η,η];exact oq _ _ _ _
   have Bd:(aq++(mS aq.length (aq.length+1+t.sz+1) false::(aF t (aq.length+1)++[jH 0]))).length=aq.length+t.sz+2:=by rw[<-AU,π,Du];omega
   generalize aq++[bZ 2 0 0 []]++aF t (aq.length+1)++[bZ 3 0 0 []]=aW at*;refine G 8 ?_;refine Wv O rfl (ev rfl) (by exact bf) rfl (by dsimp<;>rfl) ?_;simp only[ε,γ,δ,ζ];obtain⟨_,U,aK,rfl,O⟩:=vq (at_:=aq.length) (over:=aW.length) (lz:=false) Dw (by omega) O;refine M 2 ?_;rw[Du,AU] at O;refine M 14 λp62 adQ=>?_;exact⟨mm-1,by omega,i+1,j+t.flat.length,ts,cd,Uw,dk,aq++(mS aq.length (aq.length+1+t.sz+1) false::(aF t (aq.length+1)++[jH 0])),js++[aq.length+1+t.sz],rfl,(by rw[υ (f:=jY)];rw[mJ] at O;exact O),by omega,by omega,by omega,l_.right,by rw[<-RJ];exact Df.right,by rw[<-Qq];rw[<-Qq] at ur;exact ur.right,nc.2,by rw[Bd,<-dW];simp,by rw[Bd,<-hjs];simp,by rw[Bd];omega,by omega,by rw[γ];simp only[δ,ζ];omega⟩
end Go.Proofs.YtappgjdiplibbaaGreat
namespace Go.Proofs.YtappgjdiplibbaaGreat
open Go.V Go
variable{bb:Bool}
def sP {c:Nat->List bn} (hc:∀b,(c b).length=0) (z:Nat):∀k b,gv c z k b=[]
 |0,_=>rfl
 |k+1,b=>by rw[gv,sP hc z k,List.length_eq_zero_iff.1 (hc b)];rfl
def BZ (s o:Nat) (lz:Bool):∃x y:Int,mS s o lz=bZ 2 x y []:=by
 cases lz
 .exact⟨_,_,rfl⟩
 .exact⟨_,_,rfl⟩
def Ig {l:List aQ} (pg:l.length<=1048576) {m:Nat} (ih:∀t:Q,t.flat.length<=m->xl bb l t) {n:aQ} {t:Q} (hop:n.op=5) (V9:t.flat.length<=m) (mb:mV n 1) (nb:t.ok) {N k:Nat} {S Y:St} {H:List aX} {nd zd ed:D} {code:List bn} {Z E:List Int} {at_:Nat} (hF:S.flr<=N) (Dl:fJ nd 7 (l.map aO)) (pb:g_ l at_ (n::t.flat)) (hsz:g_ Z (at_+1) t.zs) (yV:g_ E (at_+1) (t.es (at_+1))) (F:code.length+cg n t.sz 1<=1000000) (hM:T7 bb N S Y k nd zd ed Z E H code):
  ∃r R,Ev pv 76 [.ptr k 0 0,.int .i64 (at_:Nat)] Y r R/\r=.tup []/\T7 bb N S R k nd zd ed Z E H (code++xx n (aF t) t.sz code.length):=by
 obtain⟨cd,dk,O⟩:=hM;have hle:=pb.le (by simp);simp at hle;have hn:=pb.head;have pb:=pb.tail;have dO:=i_ hn;have pe:=iu (Gd hsz)
 have Hl:0<=n.mn/\n.mn<=30/\(n.mx=-1\/(n.mn<=n.mx/\n.mx<=30)):=by
  obtain⟨_,hq⟩:=mb;omega
 have JF:cg n t.sz 1=if n.mx=-1 then n.mn.toNat*t.sz+t.sz+2 else n.mn.toNat*t.sz+(n.mx.toNat-n.mn.toNat)*(t.sz+1):=by unfold cg;rw[if_neg (by omega),if_neg (by omega),if_neg (by omega),if_pos hop]
 rw[JF] at F;clear JF;have s_:=λb=>dD t b nb;have hb1:code.length+n.mn.toNat*t.sz<=1000000:=by split at F<;>omega
 refine Ev.sv rfl abO rfl rfl rfl ?_;refine zE ?_;change ah _ _ _ _ Y _;have hc:=Dl.arg N S;refine M 8 λTN I5=>?_;refine WN rfl (ev rfl) (by assumption) rfl (by dsimp<;>rfl) ?_;refine M 6 λk4 U QA O U O=>?_;have O:Has N S U (_::.cM bb dk cd 4 (code.map bN)::.ai zd 1 (Z.map av)::.ai ed 1 (E.map av)::.box k4 (.mem 0 false (aO n))::H):=O.N3;refine M 12 λKY wD=>?_;have hRl:=nH s_ n.mn.toNat code.length;refine ah.merge (λI U=>∃(cd:D) (dk:Nat->Prop) (tmp:List (Nat×D)),I=⟨78,[.ptr k 0 0,.int .i64 (at_:Nat),ay I 2,ay I 3,.ptr k4 0 0,.int .i64 ((at_+1:Nat):Int),ay I 6,ay I 7,ay I 8,ay I 9,ay I 10,ay I 11,ay I 12,ay I 13,ay I 14,ay I 15,ay I 16,ay I 17,ay I 18,ay I 19,ay I 20,ay I 21,ay I 22,ay I 23,ay I 24,ay I 25,ay I 26,ay I 27,ay I 28,ay I 29,ay I 30,ay I 31,ay I 32,ay I 33,ay I 34,ay I 35,ay I 36,ay I 37,ay I 38,ay I 39,ay I 40,ay I 41,ay I 42,ay I 43,ay I 44,ay I 45,ay I 46,ay I 47,ay I 48,ay I 49,ay I 50,ay I 51,ay I 52,ay I 53,ay I 54,ay I 55,ay I 56,ay I 57,ay I 58,ay I 59,ay I 60,ay I 61,ay I 62,ay I 63,ay I 64,ay I 65,ay I 66,ay I 67,ay I 68,ay I 69,ay I 70,ay I 71,ay I 72,ay I 73,ay I 74,ay I 75,ay I 76,ay I 77],tmp⟩/\Has N S U (.box k (.mem 0 false [cd,nd,zd,ed])::.cM bb dk cd 4 ((code++gv (aF t) t.sz n.mn.toNat code.length).map bN)::.ai zd 1 (Z.map av)::.ai ed 1 (E.map av)::.box k4 (.mem 0 false (aO n))::H)) ?_ ?_
 .refine zP (λhz=>?_) λhz=>?_
  .refine G 7 ?_;refine ah.loop (λmm I U=>∃(i:Nat) (cd:D) (dk:Nat->Prop) (aq:List bn),I.clean=fL I 78 [(0,.ptr k 0 0),(0,.int .i64 (at_:Nat)),(2,.ptr k4 0 0),(0,.int .i64 ((at_+1:Nat):Int)),(22,.int .i64 n.mn),(0,.int .i64 (i:Nat))]/\Has N S U (.box k (.mem 0 false [cd,nd,zd,ed])::.cM bb dk cd 4 (aq.map bN)::.ai zd 1 (Z.map av)::.ai ed 1 (E.map av)::.box k4 (.mem 0 false (aO n))::H)/\(i+mm=n.mn.toNat)/\(aq++gv (aF t) t.sz mm aq.length=code++gv (aF t) t.sz n.mn.toNat code.length)/\(aq.length+mm*t.sz=code.length+n.mn.toNat*t.sz)) (n.mn.toNat) ?_ ?_
   .exact⟨0,cd,dk,code,rfl,O,by omega,rfl,rfl⟩
   rintro mm I U ⟨i,cd,dk,aq,hfr,O,hi,h_,hcl⟩;refine zK λee=>?_;refine G 4 ?_
   cases mm with
   |zero=>
    have c_:decide ((i:Int)<n.mn)=false:=by rw[decide_eq_false_iff_not];omega
    refine qq<|vY ?_;simp[gv] at h_;rw[h_] at O;refine G 1 ?_;exact⟨cd,dk,_,rfl,O⟩
   |succ mm=>
    have c_:decide ((i:Int)<n.mn)=true:=by rw[decide_eq_true_eq];omega
    rw[W'] at hcl;refine qq<|vX ?_;refine G 6 ?_;obtain⟨_,U,aK,rfl,cd,dk,O⟩:=ih t (by omega) hF Dl pb hsz yV nb (by omega) ⟨cd,dk,O⟩;refine M 6 ?_;exact⟨mm,by omega,⟨i+1,cd,dk,aq++aF t aq.length,rfl,O,by omega,by rw[γ,s_,η];exact h_,by rw[γ,s_];omega⟩⟩
  .refine G 1 ?_;have hz0:t.sz=0:=by omega
   have hR0:gv (aF t) t.sz n.mn.toNat code.length=[]:=sP (λb=>by rw[s_,hz0]) _ _ _;exact⟨cd,dk,_,rfl,(by rw[hR0,τ];exact O)⟩
 .rintro I U ⟨cd,dk,tmp,hfr,O⟩;rw[hfr];(try dsimp only[fL,fG,κ]);clear hfr;generalize ay I=ee;clear I;have SD:(code++gv (aF t) t.sz n.mn.toNat code.length).length=code.length+n.mn.toNat*t.sz:=by rw[γ,hRl]
  unfold xx;rw[<-SD];rw[<-SD] at hb1
  have hb2:if n.mx=-1 then(code++gv (aF t) t.sz n.mn.toNat code.length).length+t.sz+2<=1000000 else(code++gv (aF t) t.sz n.mn.toNat code.length).length+(n.mx.toNat-n.mn.toNat)*(t.sz+1)<=1000000:=by
   rw[SD];split
   .rename_i h;rw[if_pos h] at F;omega
   .rename_i h;rw[if_neg h] at F;omega
  have xI:∀h2:List bn,code++(gv (aF t) t.sz n.mn.toNat code.length++h2)=code++gv (aF t) t.sz n.mn.toNat code.length++h2:=λh2=>by rw[η]
  simp only[apply_ite (λh2:List bn=>code++h2),xI];clear xI SD;generalize code++gv (aF t) t.sz n.mn.toNat code.length=cR at*;refine G 7 ?_
  by_cases Ec:n.mx=-1
  .rw[if_pos Ec];rw[if_pos Ec] at hb2;refine vX ?_;refine G 3 ?_;refine Q9 (d:=.agg [.int .i64 2,.int .i64 0,.int .i64 0,.nul]) (st1:=_) rfl rfl rfl (by dsimp<;>rfl) ?_;have O:=O.cY 2;obtain⟨_,U,aK,rfl,cd,dk,O⟩:=iV (rs:=[]) hF (by omega) O;refine M 3 ?_;have kq:(cR++[bZ 2 0 0 []]).length=cR.length+1:=by simp
   refine G 4 ?_;obtain⟨_,U,aK,rfl,cd,dk,O⟩:=ih t (by omega) hF Dl pb hsz yV nb (by omega) ⟨cd,dk,O⟩;refine M 2 ?_;rw[kq] at O;have mJ:(cR++[bZ 2 0 0 []]++aF t (cR.length+1)).length=cR.length+1+t.sz:=by rw[γ,kq,s_]
   refine G 4 ?_;refine Q9 (d:=.agg [.int .i64 3,.int .i64 (cR.length:Nat),.int .i64 0,.nul]) (st1:=_) rfl rfl rfl (by dsimp<;>rfl) ?_;have O:=O.cY 2;obtain⟨_,U,aK,rfl,cd,dk,O⟩:=iV (rs:=[]) hF (by omega) O;refine M 2 ?_
   have Dw:(cR++[bZ 2 0 0 []]++aF t (cR.length+1)++[bZ 3 (cR.length:Nat) 0 []])[cR.length]?=some (bZ 2 0 0 []):=by
    rw[η,η];exact oL _ _ _
   have Du:(cR++[bZ 2 0 0 []]++aF t (cR.length+1)++[bZ 3 (cR.length:Nat) 0 []]).length=cR.length+t.sz+2:=by rw[γ,mJ];simp only[δ,ζ];omega
   have AU:(cR++[bZ 2 0 0 []]++aF t (cR.length+1)++[bZ 3 (cR.length:Nat) 0 []]).set cR.length (mS cR.length (cR.length+t.sz+2) n.lz)=cR++(mS cR.length (cR.length+t.sz+2) n.lz::(aF t (cR.length+1)++[jH cR.length])):=by
    rw[η,η];exact oq _ _ _ _
   generalize cR++[bZ 2 0 0 []]++aF t (cR.length+1)++[bZ 3 (cR.length:Nat) 0 []]=aW at*;refine G 8 ?_;refine Wv O rfl (ev rfl) (by exact bf) rfl (by dsimp<;>rfl) ?_;simp only[ε,γ,δ,ζ];refine G 2 ?_;obtain⟨_,U,aK,rfl,O⟩:=vq (at_:=cR.length) (over:=aW.length) (lz:=n.lz) Dw (by omega) O;refine M 2 ?_;rw[Du,AU] at O;refine ah.ret ⟨rx,_,_,_,rfl,rfl,?_⟩;exact⟨rfl,cd,dk,O.erase 4⟩
  .rw[if_neg Ec];rw[if_neg Ec] at hb2;refine vY ?_;refine G 1 ?_;obtain⟨a,ha⟩:∃a:Nat,n.mn=(a:Int):=QX Hl.1;obtain⟨b,hb3⟩:∃b:Nat,n.mx=(b:Int):=QX (by omega);have WC:n.mx.toNat-n.mn.toNat=b-a:=by omega
   rw[WC] at hb2|-;refine G 11 ?_;refine u.Aa (z:=((b-a:Nat):Int)) rfl (ev rfl) (ev rfl) (by(try simp only[Γ,δ,ζ,γ,ε,π]);rw[wrap_i64 (by omega) (by omega)]<;>omega) (by dsimp<;>rfl) ?_;refine G 2 ?_;have O:Has N S U (_::.cM bb dk cd 4 (cR.map bN)::.ai zd 1 (Z.map av)::.ai ed 1 (E.map av)::.ai .nul 1 (([]:List Nat).map jY)::.box k4 (.mem 0 false (aO n))::H):=(O.cY 1).N3;refine G 1 ?_;refine ah.loop (λmm I U=>∃(i:Nat) (cd jd:D) (dk:Nat->Prop) (aq:List bn) (js:List Nat),I.clean=fL I 78 [(0,.ptr k 0 0),(0,.int .i64 (at_:Nat)),(2,.ptr k4 0 0),(0,.int .i64 ((at_+1:Nat):Int)),(1,jd),(54,.int .i64 ((b-a:Nat):Int)),(0,.int .i64 (i:Nat))]/\Has N S U (.box k (.mem 0 false [cd,nd,zd,ed])::.cM bb dk cd 4 (aq.map bN)::.ai zd 1 (Z.map av)::.ai ed 1 (E.map av)::.ai jd 1 (js.map jY)::.box k4 (.mem 0 false (aO n))::H)/\(i+mm=b-a)/\(aq++fS (λ_=>bZ 2 0 0 []) (aF t) t.sz mm aq.length=cR++fS (λ_=>bZ 2 0 0 []) (aF t) t.sz (b-a) cR.length)/\(js++oU t.sz mm aq.length=oU t.sz (b-a) cR.length)/\(aq.length+mm*(t.sz+1)=cR.length+(b-a)*(t.sz+1))/\(js.length=i)) (b-a) ?_ ?_
   .exact⟨0,cd,.nul,dk,cR,[],rfl,O,by omega,rfl,rfl,rfl,rfl⟩
   rintro mm I U ⟨i,cd,jd,dk,aq,js,hfr,O,hi,dW,hjs,hcl,hjl⟩;refine zK λee=>?_;refine G 4 ?_
   cases mm with
   |zero=>
    have c_:decide ((i:Int)<((b-a:Nat):Int))=false:=by rw[decide_eq_false_iff_not];omega
    refine qq<|vY ?_;refine M 7 ?_;simp[fS,oU] at dW hjs;rw[dW] at O;obtain⟨sA,tX⟩:=oA (sp:=λs=>mS s (cR.length+(b-a)*(t.sz+1)) n.lz) s_ (i0:=bZ 2 0 0 []) (b-a) cR.length cR [] rfl;simp only[τ] at sA tX;have BG:(cR++fS (λ_=>bZ 2 0 0 []) (aF t) t.sz (b-a) cR.length).length=cR.length+(b-a)*(t.sz+1):=by rw[γ,lL s_]
    rw[<-hjs] at sA tX;rw[<-sA];clear sA dW;generalize cR++fS (λ_=>bZ 2 0 0 []) (aF t) t.sz (b-a) cR.length=C0 at*;generalize cR.length+(b-a)*(t.sz+1)=e at*;refine G 1 ?_;refine ah.loop (λmm I U=>∃(q:Nat) (C:List bn),I.clean=fL I 78 [(0,.ptr k 0 0),(3,.ptr k4 0 0),(70,jd),(0,.int .i64 (js.length:Nat)),(0,.int .i64 (q:Nat))]/\Has N S U (.box k (.mem 0 false [cd,nd,zd,ed])::.cM bb dk cd 4 (C.map bN)::.ai zd 1 (Z.map av)::.ai ed 1 (E.map av)::.ai jd 1 (js.map jY)::.box k4 (.mem 0 false (aO n))::H)/\(q+mm=js.length)/\(fO (λs=>mS s e n.lz) C (js.drop q)=fO (λs=>mS s e n.lz) C0 js)/\(∀p∈js,∃x y:Int,C[p]?=some (bZ 2 x y []))/\(C.length=e)) (js.length) ?_ ?_
    .exact⟨0,C0,rfl,O,by omega,rfl,λp B=>⟨_,_,tX p B⟩,BG⟩
    rintro mm I U ⟨q,C,hfr,O,hq,eW,hall,Ms⟩;refine zK λee=>?_;refine G 5 ?_;refine zP (λhlt=>?_) λhlt=>?_
    .refine G 1 ?_;have yX:q<js.length:=by omega
     obtain⟨p,B⟩:∃p,js[q]?=some p:=⟨js[q]'yX,ξ _⟩
     obtain⟨x,y,hv⟩:=hall p (θ B);have dO:=rv B;have eY:=cI hv;refine M 15 λp79 VE=>?_;refine Wv O rfl (ev rfl) (by exact bf) rfl (ae rfl _) ?_;simp only[ε];refine G 2 ?_;obtain⟨_,U,aK,rfl,O⟩:=vq (at_:=p) (over:=C.length) (lz:=n.lz) hv (by omega) O;refine M 6 ?_
     have qd:js.drop q=p::js.drop (q+1):=by
      rw[μ yX]
      congr 1
      exact QK.inj ((ξ _).symm.trans B)
     refine⟨mm-1,by omega,⟨q+1,C.set p (mS p e n.lz),rfl,(by rw[Ms] at O;exact O),by omega,by rw[qd] at eW;exact eW,?_,by rw[π];exact Ms⟩⟩;intro p' wE
     by_cases hpp:p'=p
     .subst hpp;obtain⟨x',y',Fw⟩:=BZ p' e n.lz;exact⟨x',y',by rw[QW eY,Fw]⟩
     .rw[QV (λe=>hpp e.symm)];exact hall p' wE
    .refine G 1 ?_;refine⟨λi h=>(by cases h),_,_,_,rfl,rfl,?_⟩;have oW:q=js.length:=by omega
     rw[oW,χ] at eW;have eW:C=fO (λs=>mS s e n.lz) C0 js:=eW;rw[<-eW];exact⟨rfl,cd,dk,(O.erase 5).erase 4⟩
   |succ mm=>
    have c_:decide ((i:Int)<((b-a:Nat):Int))=true:=by rw[decide_eq_true_eq];omega
    rw[W'] at hcl;refine qq<|vX ?_;refine G 7 ?_;refine Q9 (d:=.agg [.int .i64 2,.int .i64 0,.int .i64 0,.nul]) (st1:=_) rfl rfl rfl (by dsimp<;>rfl) ?_;have O:=O.cY 2;obtain⟨_,U,aK,rfl,cd,dk,O⟩:=iV (rs:=[]) hF (by omega) O;refine M 5 λk69 U ad9 O x70 U O=>?_;have O:=O.drop 1;have kq:(aq++[bZ 2 0 0 []]).length=aq.length+1:=by simp
    refine G 3 ?_;obtain⟨_,U,aK,rfl,cd,dk,O⟩:=ih t (by omega) hF Dl pb hsz yV nb (by omega) ⟨cd,dk,O⟩;refine M 2 ?_;rw[kq] at O;have mJ:(aq++[bZ 2 0 0 []]++aF t (aq.length+1)).length=aq.length+1+t.sz:=by rw[γ,kq,s_]
    refine G 4 ?_;exact⟨mm,by omega,⟨i+1,cd,x70,dk,aq++[bZ 2 0 0 []]++aF t (aq.length+1),js++[aq.length],rfl,(by rw[υ (f:=jY)];exact O),by omega,by rw[mJ,<-dW];simp[fS],by rw[mJ,<-hjs];simp[oU],by rw[mJ];omega,by rw[γ,hjl];rfl⟩⟩
end Go.Proofs.YtappgjdiplibbaaGreat
namespace Go.Proofs.YtappgjdiplibbaaGreat
open Go.V Go
variable{bb:Bool}
theorem DY (t:Q):iG (.cons t .nil)=aF t:=by
 funext b;simp[iG]
theorem Ey (t:Q):(aG.cons t .nil).sz=t.sz:=by simp[aG.sz]
def Uc.zD {hk hp:Prop} (e:hk->hp:=by intro h;dsimp only[u2,u1,u3,u4,setMany,u5,u6,D.cells,Nat.reduceAdd,bN,aO,av,jY] at h;exact h):hk->hp:=e
def Ou {l:List aQ} (pg:l.length<=1048576) (hi:∀n∈l,n.ok):∀(m:Nat) (t:Q),t.flat.length<=m->xl bb l t:=by
 open Uc in
 intro m
 induction m with
 |zero=>intro t h;have:=t.lV;omega
 |succ m ih=>
  rintro⟨n,ks⟩ hm N k S Y H nd zd ed code Z E at_ hF Dl pb hsz yV bK F hM;have hM0:=hM;obtain⟨cd,dk,O⟩:=hM;simp[Q.ok] at bK;obtain⟨mb,rQ⟩:=bK;simp only[Q.flat,δ] at hm;have hle:=pb.le (by simp[Q.flat]);simp only[Q.flat] at pb hle;simp at hle;simp[Q.zs] at hsz;simp only[Q.es] at yV;simp[Q.sz] at F;have hn:=pb.head;have L1:=hi n (θ hn);have rO:=L1.1.arg N S;have ma:=L1.2.1;have dO:=i_ hn;have Fz:=mb.1;have lT:=aG.sX ks;have FF:=λb=>xg ks b rQ;refine Ev.sv rfl acb rfl rfl rfl ?_;refine zE ?_;change ah _ _ _ _ Y _;have hc:=Dl.arg N S;refine M 8 λYx LW=>?_;refine WN rfl (ev rfl) (by assumption) rfl (by dsimp<;>rfl) ?_;refine M 3 λk4 U QA O U O=>?_;have O:Has N S U (_::.cM bb dk cd 4 (code.map bN)::.ai zd 1 (Z.map av)::.ai ed 1 (E.map av)::.box k4 (.mem 0 false (aO n))::H):=O.N3;refine G 11 ?_;refine zI (λq2=>?_) λq2=>?_
  .have FG:aF (.mk n ks) code.length=[bZ 1 0 0 n.rs]:=by simp[aF,if_pos q2]
   rw[FG];have hz:cg n ks.sz ks.len=1:=by unfold cg;rw[if_pos (.inl q2)]
   have O:=O.cY 2;refine M 6 λNK U O=>?_;obtain⟨_,U,aK,rfl,cd,dk,O⟩:=iV (rs:=n.rs) hF (by omega) O;refine M 2 ?_;refine⟨λi h=>(by cases h),_,_,_,rfl,rfl,?_⟩;exact⟨rfl,cd,dk,O.erase 4⟩
  refine G 5 ?_;refine zI (λq7=>?_) λq7=>?_
  .have FG:aF (.mk n ks) code.length=[bZ 5 0 0 []]:=by simp[aF,if_neg q2,if_pos q7]
   rw[FG];refine G 2 ?_;refine Q9 (d:=.agg [.int .i64 5,.int .i64 0,.int .i64 0,.nul]) (st1:=_) rfl rfl rfl (by dsimp<;>rfl) ?_;have O:=O.cY 2;obtain⟨_,U,aK,rfl,cd,dk,O⟩:=iV (rs:=[]) hF (by omega) O;refine M 2 ?_;refine⟨λi h=>(by cases h),_,_,_,rfl,rfl,?_⟩;exact⟨rfl,cd,dk,O.erase 4⟩
  refine G 5 ?_;refine zI (λq8=>?_) λq8=>?_
  .have FG:aF (.mk n ks) code.length=[bZ 6 0 0 []]:=by simp[aF,if_neg q2,if_neg q7,if_pos q8]
   rw[FG];refine G 2 ?_;refine Q9 (d:=.agg [.int .i64 6,.int .i64 0,.int .i64 0,.nul]) (st1:=_) rfl rfl rfl (by dsimp<;>rfl) ?_;have O:=O.cY 2;obtain⟨_,U,aK,rfl,cd,dk,O⟩:=iV (rs:=[]) hF (by omega) O;refine M 2 ?_;refine⟨λi h=>(by cases h),_,_,_,rfl,rfl,?_⟩;exact⟨rfl,cd,dk,O.erase 4⟩
  refine G 5 ?_;refine zI (λq3=>?_) λq3=>?_
  .have FG:aF (.mk n ks) code.length=iG ks code.length:=by simp[aF,if_neg q2,if_neg q7,if_neg q8,if_pos q3]
   rw[FG];have hz:cg n ks.sz ks.len=ks.sz:=by unfold cg;rw[if_neg (by omega),if_neg (by omega),if_neg (by omega),if_neg (by omega)]
   rw[hz] at F;refine G 13 ?_;refine ah.loop (λmm I U=>∃(i j:Nat) (rest:aG) (cd:D) (dk:Nat->Prop) (aq:List bn),I.clean=fL I 40 [(0,.ptr k 0 0),(0,.int .i64 (at_:Nat)),(2,.ptr k4 0 0),(0,.int .i64 (j:Nat)),(32,.int .i64 n.kids),(0,.int .i64 (i:Nat))]/\Has N S U (.box k (.mem 0 false [cd,nd,zd,ed])::.cM bb dk cd 4 (aq.map bN)::.ai zd 1 (Z.map av)::.ai ed 1 (E.map av)::.box k4 (.mem 0 false (aO n))::H)/\(mm=rest.len)/\(i+rest.len=ks.len)/\(g_ l j rest.flat)/\(g_ Z j rest.zs)/\(g_ E j (rest.es j))/\(rest.ok)/\(aq++iG rest aq.length=code++iG ks code.length)/\(aq.length+rest.sz=code.length+ks.sz)/\(rest.flat.length<=m)) (ks.len) ?_ ?_
   .exact⟨0,at_+1,ks,cd,dk,code,rfl,O,rfl,by omega,pb.tail,hsz.tail,yV.tail,rQ,rfl,rfl,by omega⟩
   rintro mm I U ⟨i,j,rest,cd,dk,aq,hfr,O,sC,sD,l_,Df,ur,nc,dW,hcl,hrm⟩;refine zK λee=>?_;refine G 4 ?_
   cases rest with
   |nil=>
    simp only[aG.len] at sD;simp[iG] at dW;have c_:decide ((i:Int)<n.kids)=false:=by rw[decide_eq_false_iff_not];omega
    refine qq<|vY ?_;refine G 1 ?_;refine⟨λi h=>(by cases h),_,_,_,rfl,rfl,?_⟩;rw[<-dW];exact⟨rfl,cd,dk,O.erase 4⟩
   |cons t ts=>
    simp[aG.len] at sD sC;simp[aG.sz] at hcl;simp[aG.flat] at l_ hrm;simp[aG.zs] at Df;simp[aG.es] at ur;simp[aG.ok] at nc;simp[iG] at dW;have RJ:=t.kT;have Qq:=t.lj j;have s_:=dD t aq.length nc.1;have aad:=iu (HE ur.left);have c_:decide ((i:Int)<n.kids)=true:=by rw[decide_eq_true_eq];omega
    refine qq<|vX ?_;refine G 7 ?_;obtain⟨_,U,aK,rfl,cd,dk,O⟩:=ih t (by omega) hF Dl l_.left Df.left ur.left nc.1 (by omega) ⟨cd,dk,O⟩;refine M 16 λUZ LS=>?_;exact⟨mm-1,by omega,i+1,j+t.flat.length,ts,cd,dk,aq++aF t aq.length,rfl,O,by omega,by omega,l_.right,by rw[<-RJ];exact Df.right,by rw[<-Qq];rw[<-Qq] at ur;exact ur.right,nc.2,by rw[γ,s_,η];exact dW,by rw[γ,s_];omega,by omega⟩
  refine G 5 ?_;refine zI (λq4=>?_) λq4=>?_
  .have FG:aF (.mk n ks) code.length=eC (jH (code.length+cg n ks.sz ks.len)) ks code.length:=by simp[aF,if_neg q2,if_neg q7,if_neg q8,if_neg q3,if_pos q4]
   rw[FG];refine G 3 ?_;obtain⟨_,U,aK,rfl,cd,dk,O⟩:=To pg ih q4 (by omega) mb rQ hF Dl pb hsz.tail yV.tail F ⟨cd,dk,O⟩;refine M 2 ?_;refine⟨λi h=>(by cases h),_,_,_,rfl,rfl,?_⟩;exact⟨rfl,cd,dk,O.erase 4⟩
  refine G 5 ?_;refine zI (λq5=>?_) λq5=>?_
  .have jo:ks.len=1:=by
    obtain⟨_,hq⟩:=mb;omega
   obtain⟨t,rfl⟩:=aG.G4 jo;have FG:aF (.mk n (.cons t .nil)) code.length=xx n (aF t) t.sz code.length:=by simp[aF,if_neg q2,if_neg q7,if_neg q8,if_neg q3,if_neg q4,if_pos q5,DY,Ey]
   rw[FG];rw[jo] at mb F;rw[Ey] at F;simp only[aG.flat,aG.zs,aG.es,aG.ok,τ] at*;refine G 3 ?_;obtain⟨_,U,aK,rfl,cd,dk,O⟩:=Ig pg ih q5 (by omega) mb rQ.1 hF Dl pb hsz.tail yV.tail F ⟨cd,dk,O⟩;refine M 2 ?_;refine⟨λi h=>(by cases h),_,_,_,rfl,rfl,?_⟩;exact⟨rfl,cd,dk,O.erase 4⟩
  refine G 5 ?_;refine zI (λq6=>?_) λq6=>?_
  .have jo:ks.len=1/\1<=n.cap/\n.cap<=4:=by
    obtain⟨_,hq⟩:=mb;omega
   obtain⟨t,rfl⟩:=aG.G4 jo.1;have FG:aF (.mk n (.cons t .nil)) code.length=bZ 4 (2*n.cap) 0 []::(aF t (code.length+1)++[bZ 4 (2*n.cap+1) 0 []]):=by simp[aF,if_neg q2,if_neg q7,if_neg q8,if_neg q3,if_neg q4,if_neg q5,if_pos q6,DY]
   rw[FG];have hz:cg n (aG.cons t .nil).sz (aG.cons t .nil).len=t.sz+2:=by unfold cg;rw[if_neg (by omega),if_neg (by omega),if_pos q6,Ey]
   rw[hz] at F;simp only[aG.flat,aG.zs,aG.es,aG.ok,τ] at pb hsz yV rQ hm;refine G 5 ?_;refine u.vT (z:=(2*n.cap)) rfl (ev rfl) (ev rfl) (by(try simp only[Γ,δ,ζ,γ,ε,π]);rw[wrap_i64 (by omega) (by omega)]<;>omega) (ae rfl _) ?_;refine qg (d:=.agg [.int .i64 4,.int .i64 (2*n.cap),.int .i64 0,.nul]) ?_;have O:=O.cY 2;obtain⟨_,U,aK,rfl,cd,dk,O⟩:=iV (rs:=[]) hF (by omega) O;refine M 2 ?_;have kq:(code++[bZ 4 (2*n.cap) 0 []]).length=code.length+1:=by simp
   refine G 5 ?_;obtain⟨_,U,aK,rfl,cd,dk,O⟩:=ih t (by omega) hF Dl pb.tail hsz.tail yV.tail rQ.1 (by omega) ⟨cd,dk,O⟩;refine M 2 ?_;rw[kq] at O;have mJ:(code++[bZ 4 (2*n.cap) 0 []]++aF t (code.length+1)).length=code.length+1+t.sz:=by rw[γ,kq,dD t _ rQ.1]
   refine G 4 ?_;refine u.vT (z:=(2*n.cap)) rfl (ev rfl) (ev rfl) (by(try simp only[Γ,δ,ζ,γ,ε,π]);rw[wrap_i64 (by omega) (by omega)]<;>omega) (ae rfl _) ?_;refine yA (z:=(2*n.cap+1)) ?_;refine qg (d:=.agg [.int .i64 4,.int .i64 (2*n.cap+1),.int .i64 0,.nul]) ?_;have O:=O.cY 2;obtain⟨_,U,aK,rfl,cd,dk,O⟩:=iV (rs:=[]) hF (by omega) O;refine M 2 ?_;have dC:code++[bZ 4 (2*n.cap) 0 []]++aF t (code.length+1)++[bZ 4 (2*n.cap+1) 0 []]=code++bZ 4 (2*n.cap) 0 []::(aF t (code.length+1)++[bZ 4 (2*n.cap+1) 0 []]):=by simp
   rw[dC] at O;refine⟨λi h=>(by cases h),_,_,_,rfl,rfl,?_⟩;exact⟨rfl,cd,dk,O.erase 4⟩
  .refine G 1 ?_;have FG:aF (.mk n ks) code.length=[]:=by simp[aF,if_neg q2,if_neg q7,if_neg q8,if_neg q3,if_neg q4,if_neg q5,if_neg q6]
   rw[FG,τ];refine⟨λi h=>(by cases h),_,_,_,rfl,rfl,?_⟩;exact⟨rfl,cd,dk,O.erase 4⟩
end Go.Proofs.YtappgjdiplibbaaGreat
namespace Go.Proofs.YtappgjdiplibbaaGreat
open Go.V Go
def Nv (x:Nl):List D:=[x.d]
variable{i:Nat}
def Lf {l:List Nl} {q:Nl} (h:l[i]?=some q):(l.map Nv)[i]?=some (Nv q):=by rw[Q6,h];rfl
def po (af:gk):D:=.tup [(Au af.code af.aN).d,.int .i64 af.e,.int .i64 af.w]
def Gm {es zB:List Int} (h:zB.length=es.length):su es 0 zB=zB:=by
 unfold su;simp[h]
def tj (r:Nat) (c:List bn) (s:List Int):kQ [] r c s=⟨c,s,0,0⟩:=by simp[kQ]
variable{hk hp:Prop}
def Ub.zD (e:hk->hp:=by intro h;dsimp only[u2,u1,u3,u4,setMany,u5,u6,D.cells,Nat.reduceAdd,bN,aO,av,Nv] at h;exact h):hk->hp:=e
variable{Y:St}{x:D}
def FU {rules:List Nl} (hx:Q4 Y 1 x (rules.map Nv)) (hr:∀r∈rules,r.ok) (hl:rules.length<=1048576):Ev pv 19 [x] Y (po (bq (rules.map (·.l)))) Y:=by
 open Ub in
 refine zM acB λS aP hF O=>?_;have hx:=Arg.of hx aP;have hfz:∀(U:St) (e w:Int),aB U Y.bs.length false 16 (qP [.agg [.nul,.nul],.int .i64 e,.int .i64 w])=some (po ⟨[],[],e,w⟩):=λU e w=>rfl;refine M 13 λk2 U jn O=>?_;unfold bq
 by_cases h8:8<rules.length
 .rw[if_pos (by rw[ε];exact h8)];refine qD rfl (by simp;omega) ?_;refine G 2 ?_;refine Q9 (d:=.agg [.nul,.nul]) (st1:=_) rfl rfl rfl (by dsimp<;>rfl) ?_;refine M 4 λU O=>?_;refine ah.ret ⟨rx,_,O.gY rfl aV rfl rfl rfl,rl aP O (hfz _ 13 8)⟩
 .rw[if_neg (by rw[ε];exact h8)];refine qE rfl (by simp;omega) ?_;refine G 3 ?_;refine Q9 (d:=.agg [.nul,.nul,.nul,.nul]) (st1:=_) rfl rfl rfl (by dsimp<;>rfl) ?_;refine M 14 λk14 U Sn O=>?_;have O:Has Y.bs.length S U (.ai .nul 1 (([]:List Int).map av)::.deep (λ_=>False) .nul 4 (([]:List bn).map bN)::_::[_]):=(O.Rv 4).cY 1;refine G 1 ?_;refine ah.loop (λmm I U=>∃(r:Nat) (cd nd zd ed sd:D) (dk:Nat->Prop) (code:List bn) (aN:List Int),I.clean=fL I 18 [(2,.ptr k2 0 0),(0,.int .i64 0),(0,.int .i64 0),(0,.ptr k14 0 0),(0,sd),(8,x),(0,.int .i64 (rules.length:Nat)),(0,.int .i64 (r:Nat))]/\Has Y.bs.length S U [.ai sd 1 (aN.map av),.deep dk cd 4 (code.map bN),.box k14 (.mem 0 false [cd,nd,zd,ed]),.box k2 (.mem 0 false [.nul,.nul])]/\(r+mm=rules.length)/\(kQ ((rules.drop r).map (·.l)) r code aN=kQ (rules.map (·.l)) 0 [] [])/\(code.length<=400)/\(aN.length<=r)) (rules.length) ?_ ?_
  .exact⟨0,.nul,.nul,.nul,.nul,.nul,(λ_=>False),[],[],rfl,O,by omega,by rw[W4],by simp,by simp⟩
  rintro mm I U ⟨r,cd,nd,zd,ed,sd,dk,code,aN,hfr,O,hrr,hX,hcl,hst⟩;refine zK λee=>?_;refine G 4 ?_
  by_cases hlt:r<rules.length
  .obtain⟨q,hq⟩:∃q,rules[r]?=some q:=⟨rules[r]'hlt,ξ _⟩
   have hqo:=hr q (θ hq);have dO:=Lf hq
   have qd:rules.drop r=q::rules.drop (r+1):=by
    rw[μ hlt]
    congr 1
    exact QK.inj ((ξ _).symm.trans hq)
   rw[qd,ω,kQ] at hX;refine qq<|qD rfl (by simp;omega) ?_;refine M (t:=(yp hqo)) 18 λOc AX=>?_
   cases p_:eM q.l with
   |false=>
    rw[if_pos p_] at hX;refine G 3 ?_;refine qg (d:=.agg [.nul,.nul]) ?_;refine M 5 λU O=>?_;rw[<-hX];refine ah.ret ⟨rx,_,O.gY rfl d_ rfl rfl rfl,rl aP O (hfz _ 1 r)⟩
   |true=>
    rw[if_neg (by rw[p_];simp)] at hX;obtain⟨nb,wB⟩:=oh p_;have hqd:=hqo.c.arg Y.bs.length S;have hqn:=hqo.nl;have ux:=hqo.c;refine M 10 ?_;refine u.Qy (s:=1) O rfl rfl rfl rfl rfl rfl rfl rfl (ψ rfl) (by omega) (λ_=>(ae rfl _)) (λk33 U Sl O=>?_);refine M 2 ?_;refine u.Qy (s:=1) O rfl rfl rfl rfl rfl rfl rfl rfl (ψ rfl) (by omega) (λ_=>(ae rfl _)) (λk36 U Wl O=>?_);refine M 10 λU O U O U O=>?_
    have O:Has Y.bs.length S U (.ai (.win k33 0 0 q.l.length 1) 1 ((W5 q.l.length (0:Int)).map av)::.ai (.win k36 0 0 q.l.length 1) 1 ((W5 q.l.length (0:Int)).map av)::.ai sd 1 (aN.map av)::.deep dk cd 4 (code.map bN)::.box k14 (.mem 0 false [cd,q.d,.win k33 0 0 q.l.length 1,.win k36 0 0 q.l.length 1])::.box k2 (.mem 0 false [.nul,.nul])::[]):=by
     rw[List.map_replicate];exact O.front bf
    refine G 7 ?_;obtain⟨_,U,aK,rfl,O⟩:=Kg hqo.nl hqo.i hqo.c _ (b8 q.l) (ρ _) nb (at_:=0) (by rw[wB];exact g_.all _) (by simp) O;refine M 2 ?_;rw[Gm (by rw[Q.kT,wB];simp)] at O;have O:=O.front bf;refine G 7 ?_;obtain⟨_,U,aK,rfl,O⟩:=Ps hqo.nl hqo.i hqo.c _ (b8 q.l) (ρ _) nb (at_:=0) (by rw[wB];exact g_.all _) (by simp) O;refine M 2 ?_;rw[Gm (by rw[Q.lj,wB];simp)] at O;have adB:=iu (Gd (g_.all (b8 q.l).zs));refine G 7 ?_;refine Wv O rfl (ev rfl) (by exact d_) rfl (ae rfl _) ?_;simp only[ε];refine M 6 λYs O0=>?_;refine yA (z:=((code.length+min (b8 q.l).sz 401:Nat):Int)) ?_;refine yA (z:=((code.length+min (b8 q.l).sz 401+3:Nat):Int)) ?_;refine G 2 ?_
    by_cases hbig:400<code.length+min (b8 q.l).sz 401+3
    .rw[if_pos hbig] at hX;have c_:decide (((code.length+min (b8 q.l).sz 401+3:Nat):Int)>400)=true:=by rw[decide_eq_true_eq];omega
     refine vX ?_;refine G 2 ?_;refine qg (d:=.agg [.nul,.nul]) ?_;refine M 5 λU O=>?_;rw[<-hX];refine ah.ret ⟨rx,_,O.gY rfl n9 rfl rfl rfl,rl aP O (hfz _ 12 r)⟩
    .rw[if_neg hbig] at hX;have c_:decide (((code.length+min (b8 q.l).sz 401+3:Nat):Int)>400)=false:=by rw[decide_eq_false_iff_not];omega
     refine vY ?_;refine G 1 ?_;have O:=O.front bf;have O:=O.front d_;have O:=O.front kS;have O:Has Y.bs.length S U (.box k14 (.mem 0 false [cd,q.d,.win k33 0 0 q.l.length 1,.win k36 0 0 q.l.length 1])::.deep dk cd 4 (code.map bN)::.ai (.win k33 0 0 q.l.length 1) 1 ((b8 q.l).zs.map av)::.ai (.win k36 0 0 q.l.length 1) 1 (((b8 q.l).es 0).map av)::.ai sd 1 (aN.map av)::.box k2 (.mem 0 false [.nul,.nul])::[]):=O;refine G 4 ?_;refine qg (d:=.agg [.int .i64 4,.int .i64 0,.int .i64 0,.nul]) ?_;have O:=O.cY 2;obtain⟨_,U,aK,rfl,cd,dk,O⟩:=iV (rs:=[]) hF (by omega) O;refine M 5 λk75 U aaM O x76 U O=>?_;have O:=O.drop 1;have kq:(code++[bZ 4 0 0 []]).length=code.length+1:=by simp
     refine G 3 ?_;obtain⟨_,U,aK,rfl,cd,dk,O⟩:=Ou hqo.nl hqo.i _ (b8 q.l) (ρ _) hF hqo.c (at_:=0) (by rw[wB];exact g_.all _) (g_.all _) (g_.all _) nb (by omega) ⟨cd,dk,O⟩;refine M 2 ?_;rw[kq] at O;have mJ:(code++[bZ 4 0 0 []]++aF (b8 q.l) (code.length+1)).length=code.length+1+(b8 q.l).sz:=by rw[γ,kq,dD _ _ nb]
     refine G 3 ?_;refine qg (d:=.agg [.int .i64 4,.int .i64 1,.int .i64 0,.nul]) ?_;have O:=O.cY 2;obtain⟨_,U,aK,rfl,cd,dk,O⟩:=iV (rs:=[]) hF (by omega) O;refine M 2 ?_;have Du:(code++[bZ 4 0 0 []]++aF (b8 q.l) (code.length+1)++[bZ 4 1 0 []]).length=code.length+1+(b8 q.l).sz+1:=by rw[γ,mJ];rfl
     refine G 3 ?_;refine qg (d:=.agg [.int .i64 7,.int .i64 (r:Nat),.int .i64 0,.nul]) ?_;have O:=O.cY 2;obtain⟨_,U,aK,rfl,cd,dk,O⟩:=iV (rs:=[]) hF (by omega) O;refine M 2 ?_
     have Nw:code++[bZ 4 0 0 []]++aF (b8 q.l) (code.length+1)++[bZ 4 1 0 []]++[bZ 7 (r:Nat) 0 []]=code++kE (b8 q.l) code.length r:=by
      unfold kE;simp
     rw[Nw] at O;have O:=(O.erase 2).erase 2;have O:=O.front bf;have O:=O.front dh;refine G 4 ?_;exact⟨mm-1,by omega,r+1,cd,q.d,.win k33 0 0 q.l.length 1,.win k36 0 0 q.l.length 1,x76,dk,code++kE (b8 q.l) code.length r,aN++[((code.length:Nat):Int)],rfl,(by rw[υ (f:=av)];exact O),by omega,hX,by rw[γ,sO nb];omega,by rw[γ];simp only[δ,ζ];omega⟩
  .refine qq<|qE rfl (by simp;omega) ?_;refine G 1 ?_;rw[List.drop_of_length_le (by omega),Ψ,tj] at hX;refine G 7 ?_;refine u.U5 (qs:=[(0,_),(1,_)]) rfl rfl rfl rfl ⟨rfl,(ev rfl),(by exact O.w9 (by exact bf)),rfl,(ev rfl),(by exact O.dv (by exact aV)),trivial⟩ (by intro q hq;simp at hq;rcases hq with rfl|rfl<;>exact⟨rfl,by exact ψ rfl⟩) (by show QQ _ [_,_] _=_;dsimp<;>rfl) (ae rfl _) ?_;refine M 4 λU O=>?_;rw[<-hX];have h1:=O.wR bf (n:=13) (by decide);have X:=O.oM aV (oJ _) (n:=14) (by decide)
   have h4:aB U Y.bs.length false 15 (.agg [cd,sd])=some (Au code aN).d:=by
    show(cE (aB U Y.bs.length false 14) [cd,sd]).map D.agg=_;simp only[cE,h1,X,Qu];rfl
   have h3:aB U Y.bs.length false 16 (qP [.agg [cd,sd],.int .i64 0,.int .i64 0])=some (po ⟨code,aN,0,0⟩):=by
    show(cE (aB U Y.bs.length false 15) [.agg [cd,sd],.int .i64 0,.int .i64 0]).map D.tup=_;simp only[cE,h4];rfl
   exact ah.ret ⟨rx,_,O.gY rfl d_ rfl rfl rfl,rl aP O h3⟩
def DR:∀(ls:List (List aQ)) (r:Nat) (c:List bn) (s:List Int),(∀l∈ls,∀n∈l,n.rs.length<=1048576)->(∀i∈c,lZ i)->c.length<=400->s.length<=r->(∀i∈(kQ ls r c s).code,lZ i)/\(kQ ls r c s).code.length<=400/\(kQ ls r c s).aN.length<=r+ls.length
 |[],r,c,s,_,h1,X,h3=>by rw[tj];exact⟨h1,X,by simpa using h3⟩
 |l::ls,r,c,s,h0,h1,X,h3=>by
  have hem:∀e w:Int,(∀i∈(gk.mk [] [] e w).code,lZ i)/\(gk.mk [] [] e w).code.length<=400/\(gk.mk [] [] e w).aN.length<=r+(l::ls).length:=λe w=>⟨λi hi=>(by cases hi),by simp,by simp⟩
  rw[kQ]
  split
  .exact hem _ _
  .rename_i hr;rw[Bool.not_eq_false] at hr
   split
   .exact hem _ _
   .rename_i F;obtain⟨t1,t2⟩:=oh hr
    obtain⟨h4,h5,h6⟩:=DR ls (r+1) (c++kE (b8 l) c.length r) (s++[((c.length:Nat):Int)]) (λl' iv=>h0 l' (ι _ iv)) (λi hi=>by
     rcases φ.1 hi with hi|hi
     .exact h1 i hi
     .exact NX (by rw[t2];exact h0 l (ν ..)) i hi) (by rw[γ,sO t1];omega) (by rw[γ];simp only[δ,ζ];omega)
    exact⟨h4,h5,by simp;omega⟩
def ug {ls:List (List aQ)} (h:∀l∈ls,∀n∈l,n.rs.length<=1048576):(Au (bq ls).code (bq ls).aN).ok/\(bq ls).code.length<=400:=by
 unfold bq
 split
 .exact⟨KS (λi hi=>(by cases hi)) (by simp) (by simp),by simp⟩
 .obtain⟨h1,X,h3⟩:=DR ls 0 [] [] h (λi hi=>by cases hi) (by simp) (by simp);exact⟨KS h1 (by omega) (by omega),X⟩
def aG.l:aG->List Q
 | .nil=>[]
 | .cons t ts=>t::ts.l
def aE:List Q->aG
 |[]=>.nil
 |t::l=>.cons t (aE l)
theorem sH:∀ks:aG,aE ks.l=ks
 | .nil=>rfl
 | .cons t ts=>by simp[aG.l,aE,sH ts]
theorem mR:∀l:List Q,(aE l).l=l
 |[]=>rfl
 |t::l=>by simp[aG.l,aE,mR l]
theorem iZ:∀ks:aG,ks.l.length=ks.len
 | .nil=>rfl
 | .cons t ts=>by simp[aG.l,aG.len,iZ ts]
def Q.n:Q->aQ
 | .mk n _=>n
def Q.ks:Q->List Q
 | .mk _ ks=>ks.l
mutual
def Q.c:Q->List D
 | .mk n ks=>[.int .i64 n.op,n.rd,.int .i64 n.mn,.int .i64 n.mx,.bool n.lz,.int .i64 n.cap,.int .i64 n.kids,.sl ks.ds]
def aG.ds:aG->List D
 | .nil=>[]
 | .cons t ts=>.agg t.c::ts.ds
end
theorem J0:∀ks:aG,ks.ds=(ks.l.map Q.c).map (jK 8)
 | .nil=>by simp[aG.ds,aG.l]
 | .cons t ts=>by simp only[aG.ds,aG.l,ω,J0 ts];rfl
def dL (l:List Q):D:=.sl ((l.map Q.c).map (jK 8))
def bQ (n:aQ) (x:D):List D:=[.int .i64 n.op,n.rd,.int .i64 n.mn,.int .i64 n.mx,.bool n.lz,.int .i64 n.cap,.int .i64 n.kids,x]
def Q.acR (t:Q):t.c=bQ t.n (dL t.ks):=by
 cases t with
 |mk n ks=>simp[Q.c,bQ,Q.n,Q.ks,dL,J0]
mutual
def Q.fa (P:aQ->Prop):Q->Prop
 | .mk n ks=>P n/\ks.fa P
def aG.fa (P:aQ->Prop):aG->Prop
 | .nil=>True
 | .cons t ts=>t.fa P/\ts.fa P
end
theorem z7 {P:aQ->Prop}:∀{ks:aG},ks.fa P↔∀t∈ks.l,t.fa P
 | .nil=>by simp[aG.fa,aG.l]
 | .cons t ts=>by simp[aG.fa,aG.l,z7 (ks:=ts)]
variable{P:aQ->Prop}{t:Q}
def Q.cW:t.fa P↔P t.n/\∀k∈t.ks,k.fa P:=by
 cases t with
 |mk n ks=>simp[Q.fa,Q.n,Q.ks,z7]
def mW {n:aQ} {l:List Q}:(Q.mk n (aE l)).fa P↔P n/\∀k∈l,k.fa P:=by
 rw[Q.cW];simp[Q.n,Q.ks,mR]
mutual
theorem Q.cK {P:aQ->Prop}:∀(t:Q),t.fa P↔∀n∈t.flat,P n
 | .mk n ks=>by simp[Q.fa,Q.flat,aG.cK ks]
theorem aG.cK {P:aQ->Prop}:∀(ts:aG),ts.fa P↔∀n∈ts.flat,P n
 | .nil=>by simp[aG.fa,aG.flat]
 | .cons t ts=>by simp[aG.fa,aG.flat,or_imp,forall_and,Q.cK t,aG.cK ts]
end
mutual
def Q.dF:Q->Nat
 | .mk n ks=>ks.dF+1
def aG.dF:aG->Nat
 | .nil=>0
 | .cons t ts=>t.dF+ts.dF
end
def bu (l:List Q):Nat:=(l.map Q.dF).sum
theorem uI:∀ks:aG,ks.dF=bu ks.l
 | .nil=>rfl
 | .cons t ts=>by simp[aG.dF,aG.l,bu,uI ts]
def Q.bR (t:Q):t.dF=bu t.ks+1:=by
 cases t with
 |mk n ks=>simp[Q.dF,Q.ks,uI]
def sS (n:aQ) (l:List Q):(Q.mk n (aE l)).dF=bu l+1:=by
 rw[Q.bR];simp[Q.ks,mR]
mutual
theorem Q.jj:∀t:Q,t.flat.length=t.dF
 | .mk n ks=>by simp[Q.flat,Q.dF,aG.jj ks]
theorem aG.jj:∀ts:aG,ts.flat.length=ts.dF
 | .nil=>rfl
 | .cons t ts=>by simp[aG.flat,aG.dF,Q.jj t,aG.jj ts]
end
def iz (a b:List Q):bu (a++b)=bu a+bu b:=by unfold bu;rw[υ,List.sum_append]
theorem bI (t:Q) (b:List Q):bu (t::b)=t.dF+bu b:=by unfold bu;rw[ω,List.sum_cons]
def bk:∀l:List Q,l.length<=bu l
 |[]=>ρ _
 |t::l=>by have:=bk l;have:=Q.bR t;rw[bI,δ];omega
def ch {l:List Q} (h:t∈l):t.dF<=bu l:=by
 induction l with
 |nil=>cases h
 |cons x l ih=>
  rw[bI]
  rcases Φ.1 h with rfl|h
  .omega
  .have:=ih h;omega
mutual
def Q.same:Q->Q->Bool
 | .mk n ks,.mk m js=>n.op==m.op &&n.mn==m.mn &&n.mx==m.mx &&n.lz==m.lz &&n.cap==m.cap &&n.rs==m.rs &&ks.same js
def aG.same:aG->aG->Bool
 | .nil,.nil=>true
 | .cons t ts,.cons aa us=>t.same aa &&ts.same us
 | .nil,.cons _ _=>false
 | .cons _ _,.nil=>false
end
def iI:List Q->List Q->Bool
 |[],[]=>true
 |t::l,aa::k=>t.same aa &&iI l k
 |_,_=>false
theorem BU:∀ks js:aG,ks.same js=iI ks.l js.l
 | .nil,.nil=>by simp[aG.same,aG.l,iI]
 | .cons t ts,.cons aa us=>by simp[aG.same,aG.l,iI,BU ts us]
 | .nil,.cons _ _=>by simp[aG.same,aG.l,iI]
 | .cons _ _,.nil=>by simp[aG.same,aG.l,iI]
def Q.NW (t aa:Q):t.same aa=(t.n.op==aa.n.op &&t.n.mn==aa.n.mn &&t.n.mx==aa.n.mx &&t.n.lz==aa.n.lz &&t.n.cap==aa.n.cap &&t.n.rs==aa.n.rs &&iI t.ks aa.ks):=by
 cases t;cases aa;simp[Q.same,Q.n,Q.ks,BU]
def yl:∀(l k:List Q),iI l k=true->l.length=k.length
 |[],[],_=>rfl
 |t::l,aa::k,h=>by simp[iI] at h;rw[δ,δ,yl l k h.2]
 |[],_::_,h=>by cases h
 |_::_,[],h=>by cases h
mutual
def Q.lA:Q->Bool
 | .mk n ks=>n.op==6||ks.lA
def aG.lA:aG->Bool
 | .nil=>false
 | .cons t ts=>t.lA||ts.lA
end
theorem Gg:∀ks:aG,ks.lA=ks.l.any Q.lA
 | .nil=>rfl
 | .cons t ts=>by simp[aG.lA,aG.l,Gg ts]
def Q.Mu (t:Q):t.lA=(t.n.op==6||t.ks.any Q.lA):=by
 cases t;simp[Q.lA,Q.n,Q.ks,Gg]
def IB (op:Int):aQ:=⟨op,az [],[],0,0,false,0,0⟩
def z8 (op:Int) (l:List Q):Q:=.mk (IB op) (aE l)
def aJ (op:Int) (l:List Q):List Q:=l.flatMap λt=>if t.n.op=op then t.ks else[t]
def gm (op:Int) (l:List Q):Q:=match l with
 |[]=>z8 1 []
 |[t]=>t
 |l=>z8 op l
def bo (l:List Q):List Q:=l.foldl (λout k=>if out.any (λx=>x.same k)=true then out else out++[k]) []
noncomputable def kv (a b:List Rg):Q:=.mk ⟨2,az (bB (a++b)),bB (a++b),0,0,false,0,0⟩ .nil
noncomputable def dz (out:List Q) (k:Q):List Q:=match out.getLast? with
 |some t=>if k.n.op=2/\t.n.op=2 then out.set (out.length-1) (kv t.n.rs k.n.rs) else out++[k]
 |none=>out++[k]
noncomputable def aS (l:List Q):List Q:=l.foldl dz []
noncomputable def eH:Nat->List Q->List Q
 |0,l=>l
 |f+1,l=>if(aS (bo l)).length=l.length then l else eH f (aS (bo l))
def eA (n:aQ):Bool:=n.op==5 &&!n.lz &&n.mx==-1 &&decide (n.mn<=1)
def mY (l:List Q):Bool:=match l with
 |[]=>false
 |t::_=>t.n.op==2
def pz (n:aQ) (k:Q) (l:List Q):Q:=
 if k.n.op=1 then k
 else if n.mn=1/\n.mx=1 then k
 else if n.mx=0/\k.lA=false then z8 1 []
 else if(eA {n with lz:=n.lz &&n.mn !=n.mx} &&(eA k.n &&mY k.ks))=true then .mk {k.n with mn:=k.n.mn*n.mn} (aE k.ks)
 else .mk {n with lz:=n.lz &&n.mn !=n.mx} (aE l)
noncomputable def mX (n:aQ) (l:List Q):Q:=
 if n.op=3 then gm 3 ((aJ 3 l).filter λt=>t.n.op !=1)
 else if n.op=4 then gm 4 (eH (aJ 4 l).length (aJ 4 l))
 else if n.op=5 then(match l with|k::_=>pz n k l|[]=>.mk n .nil)
 else .mk n (aE l)
mutual
noncomputable def Q.less:Q->Q
 | .mk n ks=>mX n ks.less
noncomputable def aG.less:aG->List Q
 | .nil=>[]
 | .cons t ts=>t.less::ts.less
end
theorem qQ:∀ks:aG,ks.less=ks.l.map Q.less
 | .nil=>rfl
 | .cons t ts=>by simp[aG.less,aG.l,qQ ts]
def Q.G3 (t:Q):t.less=mX t.n (t.ks.map Q.less):=by
 cases t;simp[Q.less,Q.n,Q.ks,qQ]
mutual
def Q.hU:Q->List aQ
 | .mk n ks=>{n with kids:=(ks.len:Nat)}::ks.hU
def aG.hU:aG->List aQ
 | .nil=>[]
 | .cons t ts=>t.hU++ts.hU
end
theorem Gh:∀ks:aG,ks.hU=ks.l.flatMap Q.hU
 | .nil=>rfl
 | .cons t ts=>by simp[aG.hU,aG.l,Gh ts]
def Q.FJ (t:Q):t.hU={t.n with kids:=(t.ks.length:Nat)}::t.ks.flatMap Q.hU:=by
 cases t;simp[Q.hU,Q.n,Q.ks,Gh,iZ]
mutual
theorem Q.kO:∀t:Q,t.hU.length=t.dF
 | .mk n ks=>by simp[Q.hU,Q.dF,aG.kO ks]
theorem aG.kO:∀ts:aG,ts.hU.length=ts.dF
 | .nil=>rfl
 | .cons t ts=>by simp[aG.hU,aG.dF,Q.kO t,aG.kO ts]
end
noncomputable def bO (l:List aQ):List aQ:=if eM l=true then(b8 l).less.hU else[]
def zq:∀{l:List Rg} {b:Int},canon l->(∀x∈l,b<=x.1/\x.2<=1114111)->2*(l.length:Int)<=max 0 (1114113-b)
 |[],b,_,_=>by simp;omega
 |x::l,b,hc,F=>by
  obtain⟨h1,X,h3⟩:=kc hc;have hx:=F x (ν ..)
  have ih:=zq (b:=x.2+2) h1 λy hy=>by
   have wv:=F y (ι _ hy);have hle:=h1.1 y hy;have:=h3 y.1 ⟨y,hy,QH _,hle⟩;omega
  rw[δ];omega
def Fk {l a:List Rg} (h:eD l a):a.length<=557057:=by
 have F:∀x∈a,0<=x.1/\x.2<=1114111:=λx hx=>by
  have hle:=h.1.1 x hx;have g1:=((h.2 x.1).1 ⟨x,hx,QH _,hle⟩).1;have g2:=((h.2 x.2).1 ⟨x,hx,hle,QH _⟩).1;unfold cN at g1 g2;omega
 have:=zq (b:=0) h.1 F;omega
def lv (n:aQ):Prop:=n.rd=az n.rs/\n.rs.length<=1048576
def np (l:List Q):Prop:=∀t∈l,t.fa lv
variable{op:Int}
def mh {l:List Q} (h:np l):np (aJ op l):=by
 intro t ht;obtain⟨aa,hu,ht⟩:=List.mem_flatMap.1 ht
 split at ht
 .exact(Q.cW.1 (h aa hu)).2 t ht
 .simp at ht;rw[ht];exact h aa hu
def fM (op:Int):∀l:List Q,bu (aJ op l)<=bu l
 |[]=>ρ _
 |t::l=>by
  have:=fM op l;unfold aJ at this|-;rw[Qe,iz,bI];have X:=Q.bR t
  split
  .omega
  .simp[bI];unfold bu at this|-;simp only[Ψ,Q7];omega
def wX (p:Q->Bool):∀l:List Q,bu (l.filter p)<=bu l
 |[]=>ρ _
 |t::l=>by
  have:=wX p l;rw[List.filter_cons,bI]
  split
  .rw[bI];omega
  .omega
def Va (op:Int):lv (IB op):=⟨rfl,by simp[IB]⟩
def Et {l:List Q} (h:np l):(z8 op l).fa lv:=mW.2 ⟨Va op,h⟩
def xZ {l:List Q} (h:np l):(gm op l).fa lv:=by
 unfold gm
 split
 .exact Et (by intro t ht;cases ht)
 .exact h _ (ν ..)
 .exact Et h
def x0 (op:Int) (l:List Q):(gm op l).dF<=bu l+1:=by
 unfold gm
 split
 .unfold z8;rw[sS];omega
 .rw[bI];omega
 .unfold z8;rw[sS];omega
def ji {α β:Type} {f:β->α->β} {P:β->Prop} {l:List α} (h:∀b a,a∈l->P b->P (f b a)):∀b,P b->P (l.foldl f b):=by
 induction l with
 |nil=>exact λb F=>F
 |cons a l ih=>exact λb F=>ih (λb a ha=>h b a (ι _ ha)) _ (h b a (ν ..) F)
def rr {l:List Q} (h:np l):np (bo l):=by
 unfold bo;refine ji (P:=np) (λb a ha F=>?_) _ (by intro t ht;cases ht)
 split
 .exact F
 .intro t ht
  rcases φ.1 ht with ht|ht
  .exact F t ht
  .simp at ht;rw[ht];exact h a ha
def Ix (l:List Q):∀b,bu (l.foldl (λout k=>if out.any (λx=>x.same k)=true then out else out++[k]) b)<=bu b+bu l:=by
 induction l with
 |nil=>intro b;unfold bu;simp
 |cons a l ih=>
  intro b;rw[Q2,bI]
  split
  .have:=ih b;omega
  .have:=ih (b++[a]);rw[iz,bI] at this;unfold bu at this|-;simp only[Ψ,Q7] at this;omega
def lM (l:List Q):bu (bo l)<=bu l:=by
 have:=Ix l [];unfold bo;unfold bu at this|-;simp only[Ψ,Q7] at this;omega
def Yc (a b:List Rg):(bB (a++b)).length<=557057:=by
 unfold bB
 split
 .rename_i h;exact Fk (Classical.choose_spec h)
 .simp
def FW (a b:List Rg):(kv a b).fa lv:=by
 unfold kv;simp[Q.fa,aG.fa];exact⟨rfl,by have:=Yc a b;show(bB (a++b)).length<=_;omega⟩
variable{aa:Q}
def MO {l:List Q} (h:l[i]?=some t):bu (l.set i aa)+t.dF=bu l+aa.dF:=by
 induction l generalizing i with
 |nil=>simp at h
 |cons x l ih=>
  cases i with
  |zero=>simp at h;subst h;rw[List.set_cons_zero,bI,bI];omega
  |succ i=>rw[List.set_cons_succ,bI,bI];have:=ih (i:=i) (by simpa using h);omega
def HX {l:List Q} (h:l.getLast?=some t):l[l.length-1]?=some t:=by rw[<-h,List.getLast?_eq_getElem?]
def Lx (b:List Q) (a:Q):bu (dz b a)<=bu b+a.dF:=by
 unfold dz
 split
 .rename_i t ht
  split
  .have:=MO (aa:=kv t.n.rs a.n.rs) (HX ht);have h1:(kv t.n.rs a.n.rs).dF=1:=by unfold kv;simp[Q.dF,aG.dF]
   have X:=Q.bR t;omega
  .rw[iz,bI];unfold bu;simp
 .rw[iz,bI];unfold bu;simp
def C9 (l:List Q):∀b,bu (l.foldl dz b)<=bu b+bu l:=by
 induction l with
 |nil=>intro b;unfold bu;simp
 |cons a l ih=>intro b;rw[Q2,bI];have:=ih (dz b a);have:=Lx b a;omega
def pY (l:List Q):bu (aS l)<=bu l:=by
 have:=C9 l [];unfold aS;unfold bu at this|-;simp only[Ψ,Q7] at this;omega
def Lv (b:List Q) (a:Q):(dz b a).length<=b.length+1:=by
 unfold dz
 split
 .split
  .rw[π];omega
  .rw[γ];simp
 .rw[γ];simp
def Lw {b:List Q} {a:Q} (F:np b) (ha:a.fa lv):np (dz b a):=by
 have xI:np (b++[a]):=by
  intro t ht
  rcases φ.1 ht with ht|ht
  .exact F t ht
  .simp at ht;rw[ht];exact ha
 unfold dz
 split
 .split
  .intro t ht
   rcases List.mem_or_eq_of_mem_set ht with ht|rfl
   .exact F t ht
   .exact FW _ _
  .exact xI
 .exact xI
def mF {l:List Q} (h:np l):np (aS l):=by
 unfold aS;exact ji (P:=np) (λb a ha F=>Lw F (h a ha)) _ (by intro t ht;cases ht)
def kJ (l:List Q):∀b,(l.foldl dz b).length<=b.length+l.length:=by
 induction l with
 |nil=>intro b;simp
 |cons a l ih=>intro b;rw[Q2,δ];have:=ih (dz b a);have:=Lv b a;omega
def yz (l:List Q):∀b,(l.foldl (λout k=>if out.any (λx=>x.same k)=true then out else out++[k]) b).length<=b.length+l.length:=by
 induction l with
 |nil=>intro b;simp
 |cons a l ih=>
  intro b;rw[Q2,δ]
  split
  .have:=ih b;omega
  .have:=ih (b++[a]);rw[γ] at this;simp only[δ,ζ] at this;omega
def x_ (l:List Q):(aS (bo l)).length<=l.length:=by
 have h1:=kJ (bo l) [];have X:=yz l [];unfold aS bo at*;simp only[ζ] at h1 X;omega
def zy:∀(f:Nat) {l:List Q},np l->np (eH f l)/\bu (eH f l)<=bu l
 |0,l,h=>⟨h,ρ _⟩
 |f+1,l,h=>by
  unfold eH
  split
  .exact⟨h,ρ _⟩
  .obtain⟨h1,X⟩:=zy f (mF (rr h));have:=pY (bo l);have:=lM l;exact⟨h1,by omega⟩
variable{k:Q}
def N0 {n:aQ} {l:List Q} (hn:lv n) (h:np l) (A:k∈l):(pz n k l).fa lv:=by
 have hkk:=h k A;unfold pz
 split
 .exact hkk
 split
 .exact hkk
 split
 .exact Et (by intro t ht;cases ht)
 split
 .exact mW.2 ⟨(Q.cW.1 hkk).1,(Q.cW.1 hkk).2⟩
 .exact mW.2 ⟨hn,h⟩
def N1 {n:aQ} {l:List Q} (A:k∈l):(pz n k l).dF<=bu l+1:=by
 have:=ch A;unfold pz
 split
 .omega
 split
 .omega
 split
 .unfold z8;rw[sS];unfold bu;simp
 split
 .rw[sS];have:=Q.bR k;omega
 .rw[sS];omega
def IG {n:aQ} {l:List Q} (hn:lv n) (h:np l):(mX n l).fa lv/\(mX n l).dF<=bu l+1:=by
 unfold mX
 split
 .have h1:=wX (λt=>t.n.op !=1) (aJ 3 l);have X:=fM 3 l;have h3:=x0 3 ((aJ 3 l).filter λt=>t.n.op !=1);exact⟨xZ λt ht=>mh h t (List.mem_filter.1 ht).1,by omega⟩
 split
 .obtain⟨h1,X⟩:=zy (aJ 4 l).length (mh (op:=4) h);have h3:=fM 4 l;have h4:=x0 4 (eH (aJ 4 l).length (aJ 4 l));exact⟨xZ h1,by omega⟩
 split
 .cases l with
  |nil=>exact⟨by simp[Q.fa,aG.fa];exact hn,by simp[Q.dF,aG.dF,bu]⟩
  |cons k l=>exact⟨N0 hn h (ν ..),N1 (ν ..)⟩
 .exact⟨mW.2 ⟨hn,h⟩,by rw[sS];omega⟩
mutual
def Q.gz:∀(t:Q),t.fa lv->t.less.fa lv/\t.less.dF<=t.dF
 | .mk n ks,h=>by
  simp[Q.fa] at h;obtain⟨h1,X⟩:=aG.gz ks h.2;obtain⟨h3,h4⟩:=IG h.1 h1;simp[Q.less,Q.dF];exact⟨h3,by omega⟩
def aG.gz:∀(ts:aG),ts.fa lv->np ts.less/\bu ts.less<=ts.dF
 | .nil,_=>⟨by intro t ht;simp[aG.less] at ht,by simp[aG.less,bu]⟩
 | .cons t ts,h=>by
  simp[aG.fa] at h;obtain⟨h1,X⟩:=Q.gz t h.1;obtain⟨h3,h4⟩:=aG.gz ts h.2;simp[aG.less,aG.dF];refine⟨λaa hu=>?_,by rw[bI];omega⟩
  rcases Φ.1 hu with rfl|hu
  .exact h1
  .exact h3 aa hu
end
mutual
def Q.rU:∀(t:Q),t.fa lv->t.dF<=1048576->∀n∈t.hU,ki n
 | .mk n ks,h,hc=>by
  simp[Q.fa] at h;simp only[Q.dF] at hc;have ih:=aG.rU ks h.2 (by omega);simp only[Q.hU,Φ];rintro m (rfl|hm)
  .have h1:=iZ ks;have X:=bk ks.l;rw[<-uI] at X;exact⟨h.1.1,h.1.2,by show((ks.len:Nat):Int)<=_;omega⟩
  .exact ih m hm
def aG.rU:∀(ts:aG),ts.fa lv->ts.dF<=1048576->∀n∈ts.hU,ki n
 | .nil,_,_=>by simp[aG.hU]
 | .cons t ts,h,hc=>by
  simp[aG.fa] at h;simp[aG.dF] at hc;have h1:=Q.rU t h.1 (by omega);have X:=aG.rU ts h.2 (by omega);simp[aG.hU];rintro m (hm|hm)
  .exact h1 m hm
  .exact X m hm
end
def om {l:List aQ} (h:∀n∈l,ki n) (hl:l.length<=500):(∀n∈bO l,ki n)/\(bO l).length<=500:=by
 unfold bO
 split
 .rename_i hr;obtain⟨_,X⟩:=oh hr;have hfa:(b8 l).fa lv:=(Q.cK _).2 λn hn=>by rw[X] at hn;exact⟨(h n hn).1,(h n hn).2.1⟩
  obtain⟨h3,h4⟩:=Q.gz _ hfa;have h5:=Q.jj (b8 l);rw[X] at h5;have h6:=Q.kO (b8 l).less;exact⟨Q.rU _ h3 (by omega),by omega⟩
 .exact⟨λn hn=>(by cases hn),by simp⟩
def tC (t:Q):List D:=bQ t.n (dL t.ks)
def UL:Q.c=tC:=by funext t;exact Q.acR t
def mE (l:List Q):dL l=.sl ((l.map tC).map (jK 8)):=by unfold dL;rw[UL]
def lD {l:List Q} {q:Q} (h:l[i]?=some q):(l.map tC)[i]?=some (tC q):=by rw[Q6,h];rfl
def P7 (l:List Q):∀e∈l.map tC,e.length=8:=by
 intro e he;obtain⟨r,_,rfl⟩:=Ω.1 he;rfl
def kD {l:List Q} (h:∀t∈l,t.fa lv):∀e∈l.map tC,∀d∈e,cv d=true:=by
 intro e he d hd;obtain⟨r,hr,rfl⟩:=Ω.1 he;have h1:=(Q.cW.1 (h r hr)).1.1;simp only[tC,bQ,dL,Φ,List.not_mem_nil,or_false] at hd
 rcases hd with rfl|rfl|rfl|rfl|rfl|rfl|rfl|rfl<;>try rfl
 rw[h1];rfl
def jc (h:t.fa lv) (U:St) (N n:Nat):aB U N false (n+2) (.agg (tC t))=some (.agg (tC t)):=by
 have h1:=(Q.cW.1 h).1.1;unfold tC bQ;rw[h1];rfl
def eV (U:St) {l:List Q} (h:∀t∈l,t.fa lv):Q4 U 8 (dL l) (l.map tC):=by
 rw[mE];exact Rows.nM (P7 l) (kD h)
def Un.zD (e:hk->hp:=by intro h;dsimp only[u2,u1,u3,u4,setMany,u5,u6,D.cells,Nat.reduceAdd,aO] at h;exact h):hk->hp:=e
def GD {n:aQ}:Ev pv 106 [.agg (aO n)] Y (.bool (eA n)) Y:=by
 open Un in
 unfold eA;refine zM X0 λS aP hF O=>?_;refine M 6 λk1 U jo O=>?_;refine ah.ni 2 (.bool (n.op==5 &&!n.lz &&n.mx==-1 &&decide (n.mn<=1))) [] ?_ (λff tmp=>?_)
 .refine G 4 ?_;refine y2 6 (λc8=>?_) λc8=>?_
  .refine G 5 ?_;refine y2 11 (λeO=>?_) λeO=>?_
   .refine G 5 ?_;refine y2 16 (λgR=>?_) λgR=>?_
    .refine M 7 ?_
     all_goals(simp[c8,eO,gR];done)
    .refine M 7 ?_
     all_goals(simp[c8,eO,gR];done)
   .refine M 12 ?_
    all_goals(simp[c8,eO];done)
  .refine M 17 ?_
   all_goals(simp[c8];done)
 dsimp only[aC,QQ,nth,u2,u1];exact M 0 trivial
variable{g:Nat}{fZ:List D}{p:Q->Bool}
def Dc {l:List Q} (hx:Q4 Y 8 x (l.map tC)) (hl:l.length<=1048576) (hf:∀(U:St),(∀k,k<Y.bs.length->U.bs[k]?=Y.bs[k]?)->∀t∈l,Ev pv g ([.agg (tC t)]++fZ) U (.bool (p t)) U):
  ∃d,Ev pv 120 [x,.fn g fZ] Y d Y/\∃i:Int,d=.int .i64 i/\((i=-1/\∀t∈l,p t=false)\/(∃j:Nat,i=(j:Nat)/\j<l.length/\(∀t∈l.take j,p t=false)/\∃t,l[j]?=some t/\p t=true)):=by
 refine zM XO λS aP hF O=>?_;have hx:=Arg.of hx aP;refine M 12 ?_;refine ah.loop (λmm I U=>∃(i:Nat),I.clean=fL I 9 [(0,x),(0,.fn g fZ),(5,.int .i64 (l.length:Nat)),(0,.int .i64 (i:Nat))]/\Has Y.bs.length S U []/\(i+mm=l.length)/\(∀t∈l.take i,p t=false)) (l.length) ?_ ?_
 .exact⟨0,rfl,O,by omega,by simp⟩
 rintro mm I U ⟨i,hfr,O,hi,ht⟩;refine zK λee=>?_;refine G 5 ?_;refine zP (λh1=>?_) λh1=>?_
 .refine G 1 ?_
  obtain⟨q,hq⟩:=gx (l:=l) (i:=i)
  have dO:=lD hq;refine M (t:=(hf _ (λk A=>by rw[O.ex.low k A,aP]) q (θ hq))) 16 λp14 VO=>?_
  cases B:p q with
  |true=>
   refine ah.cond (v:=true) (by dsimp[Fr.ev,Fr.get,nth,WM];done) (λ_=>?_) (λh=>by cases h);refine M 6 ?_;exact⟨(i:Nat),rfl,.inr ⟨i,rfl,by omega,ht,q,hq,B⟩⟩
  |false=>
   refine ah.cond (v:=false) (by dsimp[Fr.ev,Fr.get,nth,WM];done) (λh=>by cases h) (λ_=>?_);refine G 5 ?_;exact⟨mm-1,by omega,i+1,rfl,O,by omega,(by rw[Ξ,hq];intro t h;rcases φ.1 h with h|h;exact ht t h;simp at h;rw[h];exact B)⟩
 .refine M 6 ?_;exact⟨_,rfl,.inl ⟨rfl,by rw[QY (by omega)] at ht;exact ht⟩⟩
def uf {l:List Q} (hx:Q4 Y 8 x (l.map tC)) (hl:l.length<=1048576) (hf:∀(U:St),(∀k,k<Y.bs.length->U.bs[k]?=Y.bs[k]?)->∀t∈l,Ev pv g ([.agg (tC t)]++fZ) U (.bool (p t)) U):
  Ev pv 122 [x,.fn g fZ] Y (.bool (l.any p)) Y:=by
 refine zM XM λS aP hF O=>?_;have hx:=Arg.of hx aP;obtain⟨d,aK,i,rfl,hi⟩:=Dc (Y:=S) hx.1 hl (p:=p) (g:=g) (fZ:=fZ) (λU h=>hf U (λk A=>by rw[h k (by rw[aP];exact A),aP]))
 have hv:l.any p=decide (i>=0):=by
  rcases hi with⟨rfl,h⟩|⟨j,rfl,h1,X,t,h3,h4⟩
  .rw[show decide ((-1:Int)>=0)=false from rfl,List.any_eq_false];intro t ht;rw[h t ht];simp
  .rw[decide_eq_true (by omega),List.any_eq_true];exact⟨t,θ h3,h4⟩
 rw[hv];exact M 12 trivial
def Um.zD (e:hk->hp:=by intro h;dsimp only[u2,u1,u3,u4,setMany,u5,u6,D.cells,Nat.reduceAdd,tC,bQ] at h;exact h):hk->hp:=e
def y_:∀(n:Nat) (t:Q),t.dF<=n->n<=1048576->t.fa lv->∀Y:St,Ev pv 105 [.agg (tC t)] Y (.bool t.lA) Y
 |0,t,h,_,_,_=>by have:=Q.bR t;omega
 |n+1,t,h,hn,hfa,Y=>by
  open Um in
  have L_:=Q.bR t;have lT:=bk t.ks;have pj:=(Q.cW.1 hfa).2;have rN:∀(U s:St),(∀k,k<U.bs.length->s.bs[k]?=U.bs[k]?)->∀k∈t.ks,Ev pv 105 ([.agg (tC k)]++[]) s (.bool (Q.lA k)) s:=λU s _ k A=>y_ n k (by have:=ch A;omega) (by omega) (pj k A) s;have Mi:∀U,Ev pv 122 [dL t.ks,.fn 105 []] U (.bool (t.ks.any Q.lA)) U:=λU=>uf (eV U pj) (by omega) (rN U);rw[Q.Mu];refine zM X1 λS aP hF O=>?_;refine M 6 λk1 U jo O=>?_;refine ah.ni 2 (.bool (t.n.op==6||t.ks.any Q.lA)) [] ?_ (λff tmp=>?_)
  .refine G 5 ?_;refine y2 7 (λfU=>?_) λfU=>?_
   .refine M 7 ?_
    all_goals(simp[fU];done)
   .refine M (t:=(Mi _)) 7 ?_
    all_goals(simp[fU];done)
  dsimp only[aC,QQ,nth,u2,u1];exact M 0 trivial
variable{es:List (List D)}{U:St}{s:Nat}
def tI {N:Nat} (h:Q4 U s x es) (hN:U.bs.length<=N) (hne:es≠[]) (R:St) (n:Nat):aB R N false (n+1) x=some x:=by
 have hr:=Rows.ref h
 cases h with
 |nul=>exact absurd rfl hne
 |sl es h=>rfl
 |win k aj off es ar c hm hl he=>
  simp[QT] at hr;show(if k<N then some (D.win k aj off es.length s) else _)=_;rw[if_pos (by omega)]
def M6 {op:D} (h:x.cells?=some [x]) (ho:∃i,op=.int .i64 i):tq pv 109 [(0,.agg [op,.nul,.int .i64 0,.int .i64 0,.bool false,.int .i64 0,.int .i64 0]),(1,x)]=some (.agg [op,.nul,.int .i64 0,.int .i64 0,.bool false,.int .i64 0,.int .i64 0,x]):=by
 obtain⟨i,rfl⟩:=ho
 cases x<;>first|rfl|(exfalso;simp[Wk] at h;done)|(exfalso;simp[Wk] at h;have X:=congrArg (λl:List D=>SizeOf.sizeOf l) h;simp at X;done)|(exfalso;simp[Wk] at h;have X:=congrArg (λl:List D=>SizeOf.sizeOf l) h;simp at X;omega)
def gX (h : Q4 U s x es): x.cells? = some [x] := by cases h <;> rfl
def El (op:Int) (x:D) (l:List Q):List D:=match l with
 |[]=>tC (z8 1 [])
 |[t]=>tC t
 |_=>bQ (IB op) x
def BS {l:List Q} (hx:Q4 Y 8 x (l.map tC)) (hl:l.length<=1048576) (Hq:np l):Ev pv 102 [.int .i64 op,x] Y (.agg (El op x l)) Y:=by
 have hfz:l≠[]->∀R n,aB R Y.bs.length false (n+1) x=some x:=λh=>tI hx (ρ _) (by simpa using h);have hxx:=hx;have NB:=gX hx;refine zM X4 λS aP hF O=>?_;have hx:=Arg.of hx aP;refine M 11 λk4 U QA O=>?_
 rcases l with _|⟨t,_|⟨aa,l⟩⟩
 .refine G 8 ?_;refine qg (d:=.agg [.int .i64 1,.nul,.int .i64 0,.int .i64 0,.bool false,.int .i64 0,.int .i64 0]) ?_;refine qg (d:=.agg [.int .i64 1,.nul,.int .i64 0,.int .i64 0,.bool false,.int .i64 0,.int .i64 0,.nul]) ?_;refine Wz O rfl (ev rfl) (ev rfl) rfl (by exact rfl) aV (by exact rfl) (.inl hF) (λU O=>?_);dsimp at O;refine G 1 ?_;refine ah.ret ⟨rx,_,O.bm rfl aV rfl,rl aP O rfl⟩
 .refine G 12 ?_;have dO:([t].map tC)[0]?=some (tC t):=rfl;have hn:=(Q.cW.1 (Hq t (QS.2 rfl))).1.1;refine M 5 λp14 VO=>?_;refine Wz O rfl (ev rfl) (ev rfl) rfl (by exact rfl) aV (by exact rfl) (.inl hF) (λU O=>?_);dsimp at O;refine G 1 ?_;refine ah.ret ⟨rx,_,O.bm rfl aV rfl,rl aP O ?_⟩;exact jc (Hq t (QS.2 rfl)) _ _ _
 .have Dv:((((t::aa::l).length:Nat):Int)==0)=false:=by simp;omega
  have h_:((((t::aa::l).length:Nat):Int)==1)=false:=by simp;omega
  have dZ:El op x (t::aa::l)=bQ (IB op) x:=rfl;rw[dZ];have h8:=λR=>hfz (by simp) R 14;generalize(t::aa::l)=l at*;refine G 5 ?_;refine vY ?_;refine G 5 ?_;refine vY ?_;refine G 4 ?_;refine qg (d:=.agg [.int .i64 op,.nul,.int .i64 0,.int .i64 0,.bool false,.int .i64 0,.int .i64 0]) ?_;refine qm ?_;refine Q9 (d:=.agg [.int .i64 op,.nul,.int .i64 0,.int .i64 0,.bool false,.int .i64 0,.int .i64 0,x]) (st1:=_) rfl rfl (by exact congrArg (Option.map λd=>(d,_)) (M6 NB ⟨_,rfl⟩)) (ae rfl _) ?_;refine Wz O rfl (ev rfl) (ev rfl) rfl (by exact rfl) aV (by exact rfl) (.inl hF) (λU O=>?_);dsimp at O;refine G 1 ?_;refine ah.ret ⟨rx,_,O.bm rfl aV rfl,rl aP O ?_⟩;show(cE (aB U Y.bs.length false 15) [.int .i64 op,.nul,.int .i64 0,.int .i64 0,.bool false,.int .i64 0,.int .i64 0,x]).map D.agg=_;simp only[cE,h8]
  rfl
def EK {l k:List Q} (h:l[i]?=some t) (X:k[i]?=some aa):iI (l.drop i) (k.drop i)=(t.same aa &&iI (l.drop (i+1)) (k.drop (i+1))):=by
 obtain⟨h3,h4⟩:=Θ.1 h;obtain⟨h5,h6⟩:=Θ.1 X;rw[μ h3,μ h5,h4,h6,iI]
def MC {y:D} {l k:List Q} (hx:Q4 Y 8 x (l.map tC)) (hy:Q4 Y 8 y (k.map tC)) (hl:l.length<=1048576) (A:k.length<=1048576) (hf:∀(U:St),∀t∈l,∀aa∈k,Ev pv g ([.agg (tC t),.agg (tC aa)]++[]) U (.bool (t.same aa)) U):Ev pv 146 [x,y,.fn g []] Y (.bool (iI l k)) Y:=by
 refine zM Xs λS aP hF O=>?_;have hx:=Arg.of hx aP;have hy:=Arg.of hy aP;refine M 13 ?_
 by_cases hlen:l.length=k.length
 .have hc:((((l.length:Nat):Int) !=((k.length:Nat):Int)))=false:=by rw[hlen];simp
  refine vY ?_;refine M 9 ?_;refine ah.loop (λmm I U=>∃(i:Nat),I.clean=fL I 18 [(0,x),(0,y),(0,.fn g []),(3,.bool false),(8,x),(0,.int .i64 (l.length:Nat)),(0,.int .i64 (i:Nat))]/\Has Y.bs.length S U []/\(i+mm=l.length)/\(iI (l.drop i) (k.drop i)=iI l k)) (l.length) ?_ ?_
  .exact⟨0,rfl,O,by omega,rfl⟩
  rintro mm I U ⟨i,hfr,O,hi,ht⟩;refine zK λee=>?_;refine G 5 ?_;refine zP (λh1=>?_) λh1=>?_
  .refine G 1 ?_
   obtain⟨p,B⟩:=gx (l:=l) (i:=i)
   obtain⟨q,hq⟩:=gx (l:=k) (i:=i)
   have dO:=lD B;have pe:=lD hq;rw[EK B hq] at ht;refine M 23 λOc AX k8 U O' O U O KY wD k9 U TX O U O=>?_;refine yC (m:=8) (r:=tC p) O bf ?_;refine yC (m:=8) (r:=tC q) O aV ?_;refine M (t:=(hf _ p (θ B) q (θ hq))) 3 ?_
   cases hs:p.same q with
   |false=>
    refine ah.cond (v:=true) (by dsimp[Fr.ev,Fr.get,nth,WM];rfl) (λ_=>?_) (λh=>by cases h);rw[hs,Bool.false_and] at ht;refine G 4 ?_;rw[<-ht];exact M 0 trivial
   |true=>
    refine ah.cond (v:=false) (by dsimp[Fr.ev,Fr.get,nth,WM];rfl) (λh=>by cases h) (λ_=>?_);rw[hs,Bool.true_and] at ht;refine G 1 ?_;have O:=O.drop 2;refine G 4 ?_;exact⟨mm-1,by omega,i+1,rfl,O,by omega,ht⟩
  .refine G 5 ?_;rw[<-ht];have he:i=l.length:=by omega
   rw[he,χ,show l.length=k.length from hlen,χ];exact M 0 trivial
 .have hc:((((l.length:Nat):Int) !=((k.length:Nat):Int)))=true:=by simp;omega
  refine vX ?_;refine G 4 ?_
  have hn:iI l k=false:=by
   cases hs:iI l k with
   |false=>rfl
   |true=>exact absurd (yl _ _ hs) hlen
  rw[hn];exact M 0 trivial
def H6 (a b c d e f g:Bool):(a &&b &&c &&d &&e &&f &&g)=(!(!a||!b||!c||!d||!e||!f) &&g):=by
 cases a<;>cases b<;>cases c<;>cases d<;>cases e<;>cases f<;>rfl
def Ul.zD (e:hk->hp:=by intro h;dsimp only[u2,u1,u3,u4,setMany,u5,u6,D.cells,Nat.reduceAdd,tC,bQ,aO] at h;exact h):hk->hp:=e
def Gs:∀(n:Nat) (t aa:Q),t.dF<=n->n<=1048576->aa.dF<=1048576->t.fa lv->aa.fa lv->∀Y:St,Ev pv 124 [.agg (tC t),.agg (tC aa)] Y (.bool (t.same aa)) Y
 |0,t,aa,h,_,_,_,_,_=>by have:=Q.bR t;omega
 |n+1,t,aa,h,hn,hu,hfa,hfb,Y=>by
  open Ul in
  have L_:=Q.bR t;have lT:=bk t.ks;have pj:=(Q.cW.1 hfa).2;have adX:=Q.bR aa;have Wa:=bk aa.ks;have Wb:=(Q.cW.1 hfb).2;obtain⟨sB,dZ⟩:=(Q.cW.1 hfa).1;obtain⟨wF,Fy⟩:=(Q.cW.1 hfb).1;have rN:∀U:St,∀k∈t.ks,∀j∈aa.ks,Ev pv 124 ([.agg (tC k),.agg (tC j)]++[]) U (.bool (k.same j)) U:=λU k A j hj=>Gs n k j (by have:=ch A;omega) (by omega) (by have:=ch hj;omega) (pj k A) (Wb j hj) U;have Mi:∀U,Ev pv 146 [dL t.ks,dL aa.ks,.fn 124 []] U (.bool (iI t.ks aa.ks)) U:=λU=>MC (eV U pj) (eV U Wb) (by omega) (by omega) rN;have heq:∀U,Ev pv 142 [t.n.rd,aa.n.rd] U (.bool (decide (t.n.rs=aa.n.rs))) U:=λU=>by rw[sB,wF];exact DL (bC U _) (bC U _) (by omega) (by omega)
  have hbe:(t.n.rs==aa.n.rs)=decide (t.n.rs=aa.n.rs):=by rw[Bool.eq_iff_iff,beq_iff_eq,decide_eq_true_eq]
  rw[Q.NW,hbe,H6];refine zM XK λS aP hF O=>?_;refine qq<|qj λK hK=>M 3 λk2 U jn O k3 U A7 O=>?_;refine qe hK ?_;have hA:=O;change ah _ _ _ _ _ _;refine qq ?_;generalize hK:dN _ _ _ _=K;refine ah.Ci rfl ?_;refine nr.cons ?_;refine qp (o:=0) ?_;refine yY ?_;refine yL (m:=7) O bf ?_;refine yY ?_;refine qp (o:=0) ?_;refine yY ?_;refine yL (m:=7) O aV ?_;refine yY ?_;refine qa O λk5 U FA O=>?_;refine yY ?_;refine qa O λk6 U L' O=>?_;refine yY ?_;have hB:=O;refine Wz O rfl (ev rfl) (ev rfl) rfl (by exact rfl) bf (by exact rfl) (.inl hF) (λU O=>?_);dsimp at O;refine u.nil ⟨by exact Bool.and_eq_true_iff.2 ⟨jQ rfl rfl rfl (hB.at dh) (O.at dh) (hA.at aV) (by simp[refs,QT,wF,az,dL]),rfl⟩,?_⟩;refine nr.cons ?_;refine M 1 λU O=>?_;refine u.nil ⟨rfl,?_⟩;refine nr.nil ?_;subst hK;refine M 2 ?_;refine ah.dM 51 (.bool (t.n.op !=aa.n.op||t.n.mn !=aa.n.mn||t.n.mx !=aa.n.mx||t.n.lz !=aa.n.lz||t.n.cap !=aa.n.cap||!decide (t.n.rs=aa.n.rs))) [] ?_ (λff tmp bp=>?_)
  .refine M 6 ?_;refine y2 16 (λiF=>?_) λiF=>?_
   .refine M 35 ?_;exact vV
   .refine M 7 ?_;refine y2 23 (λmI=>?_) λmI=>?_
    .refine M 28 ?_;exact vV
    .refine M 7 ?_;refine y2 30 (λlg=>?_) λlg=>?_
     .refine M 21 ?_;exact vV
     .refine M 7 ?_;refine y2 37 (λbG=>?_) λbG=>?_
      .refine M 14 ?_;exact vV
      .refine M 7 ?_;refine y2 44 (λWw=>?_) λWw=>?_
       .refine M 7 ?_;exact vV
       .refine M (t:=(heq _)) 7 ?_;exact vV
  dsimp only[aC,QQ,nth,u2,u1];show ah _ _ _ _ _ _;have hE:(!(t.n.op==aa.n.op)||!(t.n.mn==aa.n.mn)||!(t.n.mx==aa.n.mx)||!(t.n.lz==aa.n.lz)||!(t.n.cap==aa.n.cap)||!decide (t.n.rs=aa.n.rs))=(t.n.op !=aa.n.op||t.n.mn !=aa.n.mn||t.n.mx !=aa.n.mx||t.n.lz !=aa.n.lz||t.n.cap !=aa.n.cap||!decide (t.n.rs=aa.n.rs)):=rfl;rw[hE]
  cases he:(t.n.op !=aa.n.op||t.n.mn !=aa.n.mn||t.n.mx !=aa.n.mx||t.n.lz !=aa.n.lz||t.n.cap !=aa.n.cap||!decide (t.n.rs=aa.n.rs)) with
  |true=>
   rw[he] at bp;refine M 2 ?_;refine qj λK hK=>qm ?_;refine qe hK ?_;exact M 0 trivial
  |false=>
   rw[he] at bp;refine M 3 ?_;refine qj λK hK=>M (t:=(Mi _)) 6 ?_;refine qe hK ?_;exact M 0 trivial
end Go.Proofs.YtappgjdiplibbaaGreat
namespace Go.V
variable{N:Nat} {S U:St} {H:List aX}
def Has.EN (hk hp:List aX) (h:Has N S U (hk++(hp++H))):Has N S U (hp++(hk++H)):=by
 refine h.sub (λi=>if i<hp.length then i+hk.length else if i<hp.length+hk.length then i-hp.length else i) (λa b e=>?_) λi e hi=>?_
 .have e':(if a<hp.length then a+hk.length else if a<hp.length+hk.length then a-hp.length else a)=(if b<hp.length then b+hk.length else if b<hp.length+hk.length then b-hp.length else b):=e
  repeat' split at e'
  all_goals omega
 .show(hk++(hp++H))[if i<hp.length then i+hk.length else if i<hp.length+hk.length then i-hp.length else i]?=some e
  by_cases h1:i<hp.length
  .rw[if_pos h1,ο (by omega),Nat.add_sub_cancel,ς h1]
   rwa [ς h1] at hi
  .rw[ο (by omega)] at hi
   by_cases X:i<hp.length+hk.length
   .rw[if_neg h1,if_pos X,ς (by omega)]
    rwa [ς (by omega)] at hi
   .rw[if_neg h1,if_neg X,ο (by omega),ο (by omega)];rw[ο (by omega)] at hi;rw[<-hi];congr 1;omega
def Jt {x y:Oper} {fi fj:Fr} {si oo sj Ad:St} {a:Operand} {k aj off v:Nat} {ar:Bool} {c:List D} (hy:fQ y.op=none) (hx:fQ x.op=some a) (ha:fi.ev a=.ptr k aj off) (h1:sj.bs[k]?=some (.mem v ar c)) (X:Ad.bs[k]?=some (.mem v ar c)) (h3:si.bs[k]?=some (.mem v ar c)) (hr:refs c<=si.bs.length):fh x fi si oo y fj sj Ad=true:=by
 unfold fh;simp[hy,hx,ha,D.mO];refine⟨lF h1 X,?_⟩;unfold mi;simp[h3]
 split
 .rfl
 .simpa using hr
variable{P:Pv} {ops:Array Oper} {rest:List Oper} {I aA:Fr} {Tr:Fr->St->Prop} {ty:TypeId} {pp:String} {a:Array Edge} {g:Option (Nat×Bool)} {dst:Nat}
end Go.V
namespace Go.Proofs.YtappgjdiplibbaaGreat
open Go.V Go
def NO {P:aQ->Prop} (l:List Q):(∀n∈(aE l).flat,P n)↔∀t∈l,t.fa P:=by rw[<-aG.cK,z7,mR]
variable{i:Nat}{t:Q}
def kW {l:List Q} (h:l[i]?=some t):(aE (l.drop i)).flat=t.flat++(aE (l.drop (i+1))).flat:=by
 obtain⟨h3,h4⟩:=Θ.1 h;rw[μ h3,h4];rfl
def Q.Bi (t:Q):t.flat=t.n::(aE t.ks).flat:=by
 cases t;simp[Q.flat,Q.n,Q.ks,sH]
def Q.CH:t.ok↔mV t.n t.ks.length/\∀k∈t.ks,k.ok:=by
 cases t with
 |mk n ks=>
  have:∀ks:aG,ks.ok↔∀k∈ks.l,k.ok:=by
   intro ks
   induction ks using aG.rec (motive_1:=λ_=>True) with
   |mk n ks _=>trivial
   |nil=>simp[aG.ok,aG.l]
   |cons t ts _ ih=>simp[aG.ok,aG.l,ih]
  simp[Q.ok,Q.n,Q.ks,iZ,this]
def M4 {n:Nat} (h:1<=n):cL n (some (.int .i64 1)) none=some (1,n):=by
 have h1:(1:Int)<=(n:Int):=by omega
 simp[cL,ik,ke,h1]
def J3 {α:Type} (l:List α) (n:Nat) (h:l.length<=n):l.take n=l:=QY h
def tz:List D:=[.int .i64 0,.nul,.int .i64 0,.int .i64 0,.bool false,.int .i64 0,.int .i64 0,.nul]
def P2.zD {hk hp:Prop} (e:hk->hp:=by intro h;dsimp only[u2,u1,u3,u4,setMany,u5,u6,D.cells,Nat.reduceAdd,tC,bQ,aO] at h;exact h):hk->hp:=e
def Hy : ∀ (m : Nat) (t : Q) (rest : List aQ), t.dF <= m -> m <= 1048576 -> t.ok -> (∀ n ∈ t.flat ++ rest, ki n) -> ∀ (Y : St) (x : D), fJ x 7 ((t.flat ++ rest).map aO) -> ∃ d, Ev pv 49 [x] Y d Y /\ ∃ y, d = .tup [.agg (tC t), y] /\ fJ y 7 (rest.map aO)
 | 0, t, rest, h, _, _, _, _, _, _ => by have := Q.bR t; omega
 | m + 1, t, rest, h, hm, bK, hv, Y, x, YE => by
  open P2 in
  have L_ := Q.bR t;have lT := bk t.ks;obtain ⟨ho, rQ⟩ := Q.CH.1 bK;have hkk : t.n.kids = (t.ks.length : Nat) := ho.1;have iS := Q.Bi t;rw [iS, List.cons_append] at hv YE;have dO : ((t.n :: ((aE t.ks).flat ++ rest)).map aO)[0]? = some (aO t.n) := rfl;have hnv := hv t.n (ν ..);refine zM aca λS aP hF O => ?_;have hx := YE.arg Y.bs.length S;refine M 9 λk2 U jn O p7 hp7 => ?_;refine WN rfl (ev rfl) (by assumption) rfl (by dsimp <;> rfl) ?_;refine Q9 (d := .agg (aO t.n ++ [.nul])) (st1 := _) rfl rfl rfl (by dsimp <;> rfl) ?_;refine M 6 λk4 U QA O U O => ?_;refine u.KM (l := 1) (r := ((t.n :: ((aE t.ks).flat ++ rest)).map aO).length) rfl (ev rfl) YE rfl rfl (M4 (by simp)) (λ_ => by dsimp <;> rfl) (λy11 Vq => ?_);refine G 2 ?_;rw [J3 _ _ (ρ _), ω, List.drop_succ_cons, W4] at Vq;refine G 8 ?_;have O : Has Y.bs.length S U (.box k4 (.mem 0 false (bQ t.n .nul)) :: .ai .nul 8 (([] : List Q).map tC) :: .box k2 (.mem 0 false tz) :: []) := Has.EN [_] [_] (O.cY 8);refine G 1 ?_;refine ah.loop (λmm I U => ∃ (i : Nat) (y kd : D), I.clean = fL I 16 [(0, y), (1, .ptr k2 0 0), (1, .ptr k4 0 0), (9, .int .i64 t.n.kids), (0, .int .i64 (i : Nat))] /\ Has Y.bs.length S U (.box k4 (.mem 0 false (bQ t.n kd)) :: .ai kd 8 ((t.ks.take i).map tC) :: .box k2 (.mem 0 false tz) :: []) /\ (i + mm = t.ks.length) /\ (fJ y 7 (((aE (t.ks.drop i)).flat ++ rest).map aO)) /\ (∀ k, kd.ref = k + 1 -> S.bs.length <= k)) (t.ks.length) ?_ ?_
  .exact ⟨0, y11, .nul, rfl, O, by omega, Vq, λk A => by simp only [QT] at A; omega⟩
  rintro mm I U ⟨i, y, kd, hfr, O, hi, hy, gb⟩;refine zK λee => ?_;refine G 5 ?_;refine zP (λh1 => ?_) λh1 => ?_
  .refine G 1 ?_
   obtain ⟨p, B⟩ := gx (l := t.ks) (i := i)
   have gi := θ B;have BC := ch gi;rw [kW B, η] at hy;have hall := (NO (P := ki) t.ks).1 (λn hn => hv n (ι _ (QG _ hn)))
   have OZ : ∀ n ∈ p.flat ++ ((aE (t.ks.drop (i + 1))).flat ++ rest), ki n := by
    intro n hn
    rcases φ.1 hn with hn | hn
    .exact (Q.cK p).1 (hall p gi) n hn
    rcases φ.1 hn with hn | hn
    .exact (NO _).2 (λk A => hall k (List.mem_of_mem_drop A)) n hn
    .exact hv n (ι _ (List.mem_append_right _ hn))
   have xq := λU => Hy m p _ (by omega) (by omega) (rQ p gi) OZ U y hy;refine M 9 λk5 U FA O => ?_;obtain ⟨d, aK, y2, rfl, wv⟩ := xq U;refine M 7 λU O => ?_;have O : Has Y.bs.length S U (.box k5 (.mem 0 false (tC p)) :: .box k4 (.mem 0 false (bQ t.n kd)) :: .ai kd 8 ((t.ks.take i).map tC) :: .box k2 (.mem 0 false tz) :: []) := O;refine G 2 ?_;refine u.mZ O rfl (ev rfl) bf rfl (ae rfl _) ?_;refine yC (m := 8) (r := tC p) O aV ?_;refine M 1 λk25 U Wm O => ?_;refine y5 O d_ (O.rows aV) (by simp only [ε, List.length_take, δ, ζ]; omega) gb λUy U gb O => ?_;dsimp at O;refine G 1 ?_;refine qT O dh (λU O => ?_) (hcs := O.dv d_);dsimp [u2, u1, u3, u4, setMany, u5, u6, Δ, κ, tC, bQ, aO] at O;refine G 1 ?_;have O := O.drop 2;refine G 4 ?_;exact ⟨mm - 1, by omega, i + 1, y2, Uy, rfl, (by rw [Ξ, B, υ]; exact O), by omega, wv, gb⟩
  .refine G 1 ?_;have he : i = t.ks.length := by rw [hkk] at h1; omega
   rw [he, χ] at hy;rw [he, W0] at O;have hall := (NO (P := ki) t.ks).1 (λn hn => hv n (ι _ (QG _ hn)));have I7 : ∀ k ∈ t.ks, k.fa lv := λk A => (Q.cK k).2 (λn hn => ⟨((Q.cK k).1 (hall k A) n hn).1, ((Q.cK k).1 (hall k A) n hn).2.1⟩);refine G 2 ?_;refine yC (m := 8) (r := bQ t.n kd) O aV ?_;refine qm ?_;refine Wz O rfl (ev rfl) (ev rfl) rfl (by exact rfl) dh (by exact rfl) (.inl hF) (λU O => ?_);dsimp at O;refine G 2 ?_;have O : Has Y.bs.length S U (.box k4 (.mem 0 false (bQ t.n kd)) :: .ai kd 8 (t.ks.map tC) :: .box k2 (.mem 0 false (bQ t.n kd)) :: []) := O;obtain ⟨y', hy1, wv⟩ := hy.freeze U Y.bs.length 14;have Fz : aB U Y.bs.length false 14 kd = some (dL t.ks) := by rw [mE]; exact O.freeze bf (kD I7) (n := 13) (by decide)
   have WQ : aB U Y.bs.length false 15 (.agg (bQ t.n kd)) = some (.agg (tC t)) := by
    show (cE (aB U Y.bs.length false 14) (bQ t.n kd)).map D.agg = _;have rO : aB U Y.bs.length false 14 t.n.rd = some t.n.rd := by rw [hnv.1]; rfl
    simp only [bQ, cE, Fz, rO]
    rfl
   refine ah.ret ⟨rx, _, _, O.ra rfl dh rfl rfl, rl aP O (d' := .tup [.agg (tC t), y']) ?_, y', rfl, ?_⟩
   .show (cE (aB U Y.bs.length false 15) [.agg (bQ t.n kd), y]).map D.tup = _;simp only [cE, WQ, hy1]
    rfl
   .exact wv
theorem CS {g:D->Option D} {f:D->D}:∀{l:List D},(∀d∈l,g d=some (f d))->cE g l=some (l.map f)
 |[],_=>rfl
 |d::l,h=>by simp[cE,h d (ν ..),CS (λd hd=>h d (ι _ hd))]
variable{N L j s:Nat}{S U:St}{H:List aX}{x:D}{es:List (List D)}{f:D->D}
def zb (O:Has N S U H) (hj:H[j]?=some (.ai x s es)) (hx:∀k,x.ref=k+1->L<=k) {n:Nat} (B:∀e∈es,∀d∈e,b_ U L (n+1) d=some (f d)):aB U L false (n+3) x=some (.sl ((es.map (·.map f)).map (jK s))):=by
 have hown:=O.own hj
 cases hown with
 |nul=>rfl
 |win k aj off es c hm hl hc he=>
  have A:=hx k (by simp[QT]);show(if k<L then some (D.win k aj off es.length s) else b_ U L (n+2) (.win k aj off es.length s))=_;rw[if_neg (show¬k<L by omega),b_];simp only[if_neg (show¬k<L by omega),St.mem_of hm,Option.bind_some]
  rw[if_pos hl,hc,CS (f:=f) (λd hd=>by
   obtain⟨e,t_,sG⟩:=List.mem_flatten.1 hd
   exact B e t_ d sG)]
  have h1:(es.map (·.map f)).flatten=es.flatten.map f:=by rw[List.map_flatten]
  have X:(es.map (·.map f)).length=es.length:=ε _
  have h3:∀e∈es.map (·.map f),e.length=s:=by
   intro e t_;obtain⟨e0,h0,rfl⟩:=Ω.1 t_;rw[ε];exact he e0 h0
  simp only[Qu];rw[<-h1,<-X,fY h3]
def Od {v:D} (O:Has N S U H) (hj:H[j]?=some (.ai x s es)) (hx:∀k,x.ref=k+1->L<=k) {n:Nat} (h:aB U L false (n+2) x=some v):b_ U L (n+1) x=some v:=by
 have hown:=O.own hj
 cases hown with
 |nul=>exact h
 |win k aj off es c hm hl hc he=>
  have A:=hx k (by simp[QT]);have X:(if k<L then some (D.win k aj off es.length s) else b_ U L (n+1) (.win k aj off es.length s))=some v:=h
  rwa [if_neg (show¬k<L by omega)] at X
def Bh:∀l:List Q,(l.flatMap Q.hU).length=bu l
 |[]=>rfl
 |t::l=>by rw[Qe,γ,Q.kO,bI,Bh l]
def lW {l:List Q} {k:Q} (h:l[i]?=some k):bu (l.take i)+k.dF<=bu l:=by
 have h1:l.take (i+1)=l.take i++[k]:=by rw[Ξ,h];rfl
 have X:=iz (l.take (i+1)) (l.drop (i+1));rw[List.take_append_drop,h1,iz] at X;have h3:bu [k]=k.dF:=by simp[bu]
 omega
def vL {n:Nat} {d:D} (h:cv d=true):b_ U N (n+1) d=some d:=by
 cases d<;>simp[cv] at h<;>rfl
def fN (n:aQ) (x:D) (k:Nat):List D:=[.int .i64 n.op,x,.int .i64 n.mn,.int .i64 n.mx,.bool n.lz,.int .i64 n.cap,.int .i64 (k:Nat)]
def CQ {l:List aQ} (h:∀n∈l,∀d∈aO n,f d=d):(l.map aO).map (·.map f)=l.map aO:=by
 rw[List.map_map];apply QC;intro n hn;have h1:(aO n).map f=(aO n).map id:=QC (λd hd=>h n hn d hd);show(aO n).map f=aO n;rw[h1,List.map_id]
def HC:∀(m:Nat) (t:Q),t.dF<=m->m<=1048576->t.fa lv->∀Y:St,Ev pv 51 [.agg (tC t)] Y (jO t.hU) Y
 |0,t,h,_,_,_=>by have:=Q.bR t;omega
 |m+1,t,h,hm,hfa,Y=>by
  open P2 in
  have L_:=Q.bR t;have lT:=bk t.ks;have pj:=(Q.cW.1 hfa).2;obtain⟨sB,dZ⟩:=(Q.cW.1 hfa).1;rw[Q.FJ];refine Ev.sU rfl ab8 rfl rfl rfl ?_;refine zE ?_;obtain⟨aP,hF,O⟩:=ri Y;generalize aw .ro Y=S at*;have uv:Q4 Y 8 (dL t.ks) (t.ks.map tC):=eV Y pj;have nR:=Arg.of uv aP;refine G 2 ?_;refine qb O λk1 U jo O=>?_;dsimp[u2,u1,u3,u4,setMany,u5,u6,Δ,κ,tC,bQ,aO] at O;refine G 5 ?_;refine u.gp (m:=7) O rfl (ev rfl) (by exact aV) (by dsimp<;>rfl) rfl rfl (by dsimp<;>rfl) ?_;refine qa O λk3 U A7 O=>?_;refine qS O aV λU O=>?_;dsimp at O;refine G 5 ?_;refine qn ?_;simp only[ε];refine G 1 ?_;refine qT O aV λU O=>?_;dsimp[u2,u1,u3,u4,setMany,u5,u6,Δ,κ,tC,bQ,aO] at O;refine G 1 ?_;have O:Has Y.bs.length S U (.ai .nul 2 []::_::.box k1 (.mem 0 false (tC t))::[]):=O.cY 2;have hrr:∀U,Q4 U 2 t.n.rd (t.n.rs.map ak):=λU=>by rw[sB];exact bC U _
  refine G 4 ?_;refine y5 O aV (hrr _) (by simp only[ε,ζ];omega) (λk A=>by simp only[QT] at A;omega) λNL U VY O=>?_;dsimp at O;refine G 1 ?_;refine qT O bf (λU O=>?_) (hcs:=O.dv aV);dsimp[u2,u1,u3,u4,setMany,u5,u6,Δ,κ,tC,bQ,aO] at O;refine G 3 ?_;refine u.gp (m:=7) O rfl (ev rfl) (by exact bf) (by dsimp<;>rfl) rfl rfl (by dsimp<;>rfl) ?_;refine qh (s:=7) (vs:=[_]) O λk18 U Wo O=>?_;refine G 7 ?_;refine qn ?_;simp only[ε];refine G 2 ?_;have O:Has Y.bs.length S U (.ai (.win k18 0 0 1 7) 7 (fN t.n NL t.ks.length::(([]:List aQ)).map aO)::.ai NL 2 (t.n.rs.map ak)::[]):=O.take 2;refine G 1 ?_;refine ah.loop (λmm I U=>∃(i:Nat) (od:D),I.clean=fL I 23 [(1,.ptr k1 0 0),(2,od),(15,dL t.ks),(0,.int .i64 (t.ks.length:Nat)),(0,.int .i64 (i:Nat))]/\Has Y.bs.length S U (.ai od 7 (fN t.n NL t.ks.length::((t.ks.take i).flatMap Q.hU).map aO)::.ai NL 2 (t.n.rs.map ak)::[])/\(i+mm=t.ks.length)/\(∀k,od.ref=k+1->S.bs.length<=k)) (t.ks.length) ?_ ?_
  .exact⟨0,.win k18 0 0 1 7,rfl,O,by omega,(λk A=>by simp only[QT] at A;omega)⟩
  rintro mm I U ⟨i,od,hfr,O,hi,gb⟩;refine zK λee=>?_;refine G 5 ?_;refine zP (λh1=>?_) λh1=>?_
  .refine G 1 ?_
   obtain⟨p,B⟩:=gx (l:=t.ks) (i:=i)
   have gi:=θ B;have BC:=ch gi;have yZ:=lW B;have dO:=lD B;have Sv:=Q.rU p (pj p gi) (by omega);have hlen:=Bh (t.ks.take i);have Hn:=Q.kO p;have rN:=λU=>HC m p (by omega) (by omega) (pj p gi) U;refine M 9 λKY wD k6 U L' O U O=>?_;have O:Has Y.bs.length S U (.box k6 (.mem 0 false (tC p))::.ai od 7 (fN t.n NL t.ks.length::((t.ks.take i).flatMap Q.hU).map aO)::.ai NL 2 (t.n.rs.map ak)::[]):=O;refine G 2 ?_;refine yC (m:=8) (r:=tC p) O aV ?_;refine qv (rN _) ?_;refine y5 O bf ((iq Sv).rows _) (by simp only[ε,δ];omega) gb λx29 U gb O=>?_;dsimp only[u1,u2,u4] at O;refine G 2 ?_;have O:=O.drop 1;refine G 4 ?_;exact⟨mm-1,by omega,i+1,x29,rfl,(by rw[Ξ,B,List.flatMap_append,υ];simpa using O),by omega,gb⟩
  .refine G 1 ?_;have he:i=t.ks.length:=by omega
   rw[he,W0] at O;refine G 5 ?_
   have Sv:=(Q.rU t hfa (by omega))
   rw[Q.FJ] at Sv;have eY:∀n∈t.ks.flatMap Q.hU,∀d∈aO n,b_ U Y.bs.length 14 d=some d:=λn hn d hd=>vL (lO Sv (aO n) (Ω.2 ⟨n,ι _ hn,rfl⟩) d hd)
   have hx1:b_ U Y.bs.length 14 NL=some (az t.n.rs):=by
    refine Od O bf (λk A=>by rw[<-aP];exact VY k A) (n:=13) ?_;rw[<-ef];exact O.freeze bf (cX _) (n:=14) (by decide)
   let f:D->D:=λd=>(b_ U Y.bs.length 14 d).getD d
   have hfp:∀d v,b_ U Y.bs.length 14 d=some v->f d=v:=λd v h=>by show(b_ U Y.bs.length 14 d).getD d=v;rw[h];rfl
   have hfz:=zb (L:=Y.bs.length) (f:=f) (n:=13) O aV (λk A=>by rw[<-aP];exact gb k A) (by
    intro e he d hd
    rcases Φ.1 he with rfl|he
    .simp[fN] at hd
     rcases hd with rfl|rfl|rfl|rfl|rfl|rfl|rfl
     .rfl
     .rw[hfp _ _ hx1];exact hx1
     all_goals rfl
    .obtain⟨n,hn,rfl⟩:=Ω.1 he
     rw[hfp _ _ (eY n hn d hd)];exact eY n hn d hd)
   have hfs:((fN t.n NL t.ks.length::(t.ks.flatMap Q.hU).map aO).map (·.map f))=(({t.n with kids:=(t.ks.length:Nat)}::t.ks.flatMap Q.hU).map aO):=by
    rw[ω,ω,CQ (λn hn d hd=>hfp _ _ (eY n hn d hd))]
    congr 1
    show[f _,f NL,f _,f _,f _,f _,f _]=_;rw[hfp _ _ hx1];simp only[aO,sB]
    rfl
   rw[hfs] at hfz;exact ah.ret ⟨rx,_,rfl,rl aP O hfz⟩
end Go.Proofs.YtappgjdiplibbaaGreat
