/-
 The document's parser of patterns, whole.
-/
import Derived.Test.YtappgjdiplibbaaGreatYGHs
import Derived.Test.YtappgjdiplibbaaGreatYGDz
import Derived.Test.YtappgjdiplibbaaGreatYGTe
import Derived.Test.YtappgjdiplibbaaGreatYGUe
import Derived.Test.YtappgjdiplibbaaGreatYGGf
set_option maxRecDepth 100000
set_option maxHeartbeats 4000000
set_option linter.all false
open Nat renaming reduceAdd->γ,reduceSub->τ,le_refl->φ
open List renaming map_append->δ,length_map->ζ,length_nil->η,length_append->ι,take_add_one->κ,length_cons->μ,map_map->ν,mem_map->ξ,mem_of_getElem?->ο,mem_singleton->π,length_set->ρ,map_set->ς,length->υ
open Go.V.D renaming cells->ε
open Go.V.Ev renaming le->θ
open Go.V.D renaming bool->wt,int->J,nul->j5,str->yR
open Go.V.aX renaming box->x4
namespace Go.Proofs.YtappgjdiplibbaaGreat
open Go.V Go
def lI {left n r lo hi:Nat} {xs:List UInt8} (h:(eF (left+1) n r lo hi xs).2.1≠0):∃y ys,lo<=y/\y<=hi/\eF (left+1) n r lo hi xs=eF left n (r*64+y %64) 128 191 ys:=by
 cases xs with
 |nil=>exact absurd rfl h
 |cons x xs=>
  have e:eF (left+1) n r lo hi (x::xs)=if x.toNat<lo\/hi<x.toNat then(0,0,false) else eF left n (r*64+x.toNat %64) 128 191 xs:=rfl;rw[e] at h|-
  by_cases h1:x.toNat<lo\/hi<x.toNat;·rw[if_pos h1] at h;exact absurd rfl h
  rw[if_neg h1];exact⟨x.toNat,xs,by omega,by omega,rfl⟩
def K4 (b:List UInt8):kX (hD b).1:=by
 unfold hD
 split;·unfold kX;simp only;omega
 rename_i h0;show kX (fW b).1
 cases b with
 |nil=>exact absurd rfl h0
 |cons c xs=>
  have hc:=mQ c;have e:fW (c::xs)=if(aU c.toNat).1<0 then(0,0,false) else eF (aU c.toNat).1.toNat ((aU c.toNat).1.toNat+1) (if(aU c.toNat).1>0 then c.toNat %(64/2^(aU c.toNat).1.toNat) else c.toNat) (aU c.toNat).2.1 (aU c.toNat).2.2 xs:=rfl;rw[e] at h0|-;clear e;generalize c.toNat=c at*
  have key:∀(k lo hi:Nat),aU c=((k:Int),lo,hi)->(k=0->c<128)->(k=1->c<224)->(k=2->224<=c/\c<240/\(c=237->hi<=159)/\128<=lo/\hi<=191)->(k=3->240<=c/\c<=244/\(c=244->hi<=143)/\(c=240->144<=lo)/\128<=lo/\hi<=191)->k<=3->kX (if(aU c).1<0 then(0,0,false) else eF (aU c).1.toNat ((aU c).1.toNat+1) (if(aU c).1>0 then c %(64/2^(aU c).1.toNat) else c) (aU c).2.1 (aU c).2.2 xs).1:=by
   intro k lo hi hm k0 k1 k2 k3 A;rw[hm] at h0|-;rw[if_neg (by simp only;omega)] at h0|-;simp only[Int.toNat_natCast] at h0|-;unfold kX
   match k,A with
   |0,_=>
    have:=k0 rfl;show c<55296\/_;omega
   |1,_=>
    obtain⟨y,ys,h1,X,h3⟩:=lI h0;rw[h3];show(if((1:Nat):Int)>0 then c %(64/2^1) else c)*64+y %64<55296\/_;rw[if_pos GB];omega
   |2,_=>
    have k2:=k2 rfl;obtain⟨y,ys,h1,X,h3⟩:=lI h0;rw[h3] at h0|-;obtain⟨z,zs,h4,h5,h6⟩:=lI h0;rw[h6];show((if((2:Nat):Int)>0 then c %(64/2^2) else c)*64+y %64)*64+z %64<55296\/(57344<=((if((2:Nat):Int)>0 then c %(64/2^2) else c)*64+y %64)*64+z %64/\((if((2:Nat):Int)>0 then c %(64/2^2) else c)*64+y %64)*64+z %64<=1114111);rw[if_pos GB];omega
   |3,_=>
    have k3:=k3 rfl;obtain⟨y,ys,h1,X,h3⟩:=lI h0;rw[h3] at h0|-;obtain⟨z,zs,h4,h5,h6⟩:=lI h0;rw[h6] at h0|-;obtain⟨aa,us,h7,h8,h9⟩:=lI h0;rw[h9];show(((if((3:Nat):Int)>0 then c %(64/2^3) else c)*64+y %64)*64+z %64)*64+aa %64<55296\/(57344<=(((if((3:Nat):Int)>0 then c %(64/2^3) else c)*64+y %64)*64+z %64)*64+aa %64/\(((if((3:Nat):Int)>0 then c %(64/2^3) else c)*64+y %64)*64+z %64)*64+aa %64<=1114111);rw[if_pos GB];omega
  have bad:aU c=(-1,0,0)->kX (if(aU c).1<0 then(0,0,false) else eF (aU c).1.toNat ((aU c).1.toNat+1) (if(aU c).1>0 then c %(64/2^(aU c).1.toNat) else c) (aU c).2.1 (aU c).2.2 xs).1:=by
   intro hm;rw[hm,if_pos AN] at h0;exact absurd rfl h0
  by_cases a1:c<128;·exact key 0 0 0 (by unfold aU;rw[if_pos a1];rfl) GB GB GB GB GB
  by_cases a2:c<194;·exact bad (by unfold aU;rw[if_neg a1,if_pos a2])
  by_cases a3:c<224;·exact key 1 128 191 (by unfold aU;rw[if_neg a1,if_neg a2,if_pos a3];rfl) GB GB GB GB GB
  by_cases a4:c=224;·exact key 2 160 191 (by unfold aU;rw[if_neg a1,if_neg a2,if_neg a3,if_pos a4];rfl) GB GB GB GB GB
  by_cases a5:c=237;·exact key 2 128 159 (by unfold aU;rw[if_neg a1,if_neg a2,if_neg a3,if_neg a4,if_pos a5];rfl) GB GB GB GB GB
  by_cases a6:c<240;·exact key 2 128 191 (by unfold aU;rw[if_neg a1,if_neg a2,if_neg a3,if_neg a4,if_neg a5,if_pos a6];rfl) GB GB GB GB GB
  by_cases a7:c=240;·exact key 3 144 191 (by unfold aU;rw[if_neg a1,if_neg a2,if_neg a3,if_neg a4,if_neg a5,if_neg a6,if_pos a7];rfl) GB GB GB GB GB
  by_cases a8:c<244;·exact key 3 128 191 (by unfold aU;rw[if_neg a1,if_neg a2,if_neg a3,if_neg a4,if_neg a5,if_neg a6,if_neg a7,if_pos a8];rfl) GB GB GB GB GB
  by_cases a9:c=244;·exact key 3 128 143 (by unfold aU;rw[if_neg a1,if_neg a2,if_neg a3,if_neg a4,if_neg a5,if_neg a6,if_neg a7,if_neg a8,if_pos a9];rfl) GB GB GB GB GB
  exact bad (by unfold aU;rw[if_neg a1,if_neg a2,if_neg a3,if_neg a4,if_neg a5,if_neg a6,if_neg a7,if_neg a8,if_neg a9])
def D_:∀(n:Nat) (b:List UInt8),∀g∈xU n b,kX g.1
 |0,_,g,h=>by simp[xU] at h
 |n+1,[],g,h=>by simp[xU] at h
 |n+1,c::b,g,h=>by
  simp[xU] at h
  rcases h with rfl|h
  .exact K4 _
  exact D_ n _ g h
def Uh.zD {hk hp:Prop} (e:hk->hp:=by intro h;dsimp only[u2,u1,u3,u4,setMany,u5,u6,D.cells,Nat.reduceAdd,bw,aI,av,bz] at h;exact h):hk->hp:=e
def tM {Y:St} {b:List UInt8} (hbl:b.length<=1048576):∃w:Int,Ev pv 22 [yR b] Y (.tup [jO (aT b).1,J .i64 (aT b).2.1,J .i64 w]) Y:=by
 open Uh in
 suffices hg:∃d,Ev pv 22 [yR b] Y d Y/\∃w:Int,d=.tup [jO (aT b).1,J .i64 (aT b).2.1,J .i64 w] by
  obtain⟨d,h1,w,rfl⟩:=hg;exact⟨w,h1⟩
 obtain⟨h2,hX⟩:∃h2,aT b=h2:=⟨_,rfl⟩
 rw[hX];unfold aT at hX;obtain⟨nS,hgs⟩:=D' _ b (φ _);have hru:∀g∈mP b,kX g.1:=D_ _ b;have aK:∀(U:St) (x:D),Bytes U x b->Ev pv 52 [x] U (gC (mP b)) U:=λU x h=>N8 h hbl;generalize mP b=gs at*;refine zM acy λS aP hF O=>?_;have xq:Arg Y.bs.length S 2 (gC gs) (gs.map bz):=Arg.pure (λU=>eZ U gs);refine M 13 ?_
 by_cases Dn:120<b.length
 .have c_:decide ((b.length:Int)>120)=true:=by rw[decide_eq_true_eq];omega
  refine vX ?_;refine M 7 ?_;rw[if_pos Dn] at hX;rw[<-hX];exact⟨0,rfl⟩
 rw[if_neg Dn] at hX;have c_:decide ((b.length:Int)>120)=false:=by rw[decide_eq_false_iff_not];omega
 refine vY ?_;refine G 3 ?_;refine qg (d:=.agg [j5,j5,J .i64 0,J .i64 0,J .i64 0,J .i64 0]) ?_;refine M 10 λk14 U Sn O=>?_;refine u.Mj O rfl rfl rfl rfl rfl GB (λ_=>(ae rfl _)) (λk16 U aek O=>?_);refine M (t:=((aK _ _ (O.rows aV)))) 8 ?_;have O:Has Y.bs.length S U (_::.ai j5 1 (([]:List Int).map aI)::.ai j5 1 (([]:List Int).map av)::[]):=(((O.drop 1).cY 1).cY 1).front dh;refine G 1 ?_;refine ah.loop (λmm I U=>∃(i a:Nat) (rD aD:D) (a_:List Int),I.clean=fL I 10 [(5,.ptr k14 0 0),(0,J .i64 (a:Nat)),(0,gC gs),(0,J .i64 (i:Nat))]/\Has Y.bs.length S U [x4 k14 (.mem 0 false [rD,aD,J .i64 0,J .i64 0,J .i64 0,J .i64 0]),.ai rD 1 (((gs.take i).map bT).map aI),.ai aD 1 (a_.map av)]/\(i+mm=gs.length)/\(a_.length=i)/\(a<=120*i)) (gs.length) ?_ ?_;·exact⟨0,0,j5,j5,[],rfl,O,by omega,rfl,by omega⟩
 rintro mm I U ⟨i,a,rD,aD,a_,hfr,O,hi,eY,ha⟩;rw[hfr];(try dsimp only[fL,fG,γ]);clear hfr;generalize ay I=ee;clear I;refine G 5 ?_;refine qn ?_;simp only[ζ];refine G 2 ?_
 by_cases hlt:i<gs.length
 .obtain⟨g,hg⟩:∃g,gs[i]?=some g:=⟨gs[i]'hlt,List.getElem?_eq_getElem _⟩
  have dO:(gs.map bz)[i]?=some (bz g):=by rw[List.getElem?_map,hg];rfl
  have ba:=hgs g (ο hg);have xC:(gs.take (i+1)).map bT=(gs.take i).map bT++[bT g]:=by rw[κ,hg,Option.toList_some,δ];rfl
  have h_:decide ((i:Int)<(gs.length:Int))=true:=by rw[decide_eq_true_eq];omega
  have htl:((gs.take i).map bT).length<=120:=by simp;omega
  have adw:(gs.take i).length<=120:=by simp;omega
  refine vX ?_;refine G 5 ?_;refine ah.dM 37 (wt (((g.1:Int)==65533) &&((g.2:Int)==1))) [] ?_ (λff tmp bp=>?_)
  .refine M 7 λTM I4 TL I3=>?_;refine y2 30 (λfI=>?_) λfI=>?_;·refine M 7 λZA R7 Yu O3=>?_;exact vV
   refine G 7 ?_;exact vV
  refine zG ?_;refine ah.merge (λI U=>∃(Yr:D) (tmp:List (Nat×D)),I=⟨10,[ay I 0,ay I 1,ay I 2,ay I 3,ay I 4,.ptr k14 0 0,J .i64 (a:Nat),gC gs,J .i64 (i:Nat),ay I 9],tmp⟩/\Has Y.bs.length S U [x4 k14 (.mem 0 false [Yr,aD,J .i64 0,J .i64 0,J .i64 0,J .i64 0]),.ai Yr 1 (((gs.take (i+1)).map bT).map aI),.ai aD 1 (a_.map av)]) ?_ ?_
  .by_cases hbad:(g.1:Int)=65533/\(g.2:Int)=1
   .have c_:(((g.1:Int)==65533) &&((g.2:Int)==1))=true:=by rw[beq_iff_eq.2 hbad.1,beq_iff_eq.2 hbad.2];rfl
    have hv:bT g=-1:=by unfold bT;rw[if_pos hbad]
    refine M 11 λk43 U aaU O Zc U O=>?_;refine qT O bf (λU O=>?_) (hcs:=O.dv dh);dsimp[u2,u1,u3,u4,setMany,u5,u6,ε,γ,bw,aI,av,bz] at O;refine G 1 ?_;exact⟨_,_,rfl,(by rw[xC,hv,δ];exact(O.drop 1))⟩
   have c_:(((g.1:Int)==65533) &&((g.2:Int)==1))=false:=by
    rw[Bool.and_eq_false_iff,beq_eq_false_iff_ne,beq_eq_false_iff_ne]
    by_cases h1:(g.1:Int)=65533;·exact .inr λX=>hbad ⟨h1,X⟩
    exact .inl h1
   have hv:bT g=(g.1:Int):=by unfold bT;rw[if_neg hbad]
   refine M 16 λp54 adR Zu R2 k57 U aeb O x58 U O=>?_;refine qT O bf (λU O=>?_) (hcs:=O.dv dh);dsimp[u2,u1,u3,u4,setMany,u5,u6,ε,γ,bw,aI,av,bz] at O;refine G 1 ?_;exact⟨_,_,rfl,(by rw[xC,hv,δ];exact(O.drop 1))⟩
  rintro I U ⟨Yr,tmp,hfr,O⟩;rw[hfr];(try dsimp only[fL,fG,γ]);clear hfr;generalize ay I=ee;clear I;refine G 8 ?_;refine qh (s:=1) (vs:=[_]) O λk67 U aaN O=>?_;refine yH O d_ (by exact O.rows (by exact aV)) (by simp only[μ,η,ζ]<;>omega) λx68 U O=>?_;dsimp[u2,u1,u3,u4,setMany,u5,u6,ε,γ,bw,aI,av,bz] at O;refine G 2 ?_;refine qT O bf (λU O=>?_) (hcs:=O.dv d_);dsimp[u2,u1,u3,u4,setMany,u5,u6,ε,γ,bw,aI,av,bz] at O;refine G 5 ?_;refine qr λp74 adO=>?_;refine qf (fo:=1) λp75 adN=>?_;refine M 9 ?_;exact⟨mm-1,by omega,i+1,a+g.2,Yr,_,a_++[(a:Int)],rfl,(by rw[δ];exact O.drop 1),by omega,by rw[ι,eY];rfl,by omega⟩
 have h_:decide ((i:Int)<(gs.length:Int))=false:=by rw[decide_eq_false_iff_not];omega
 refine vY ?_;refine G 1 ?_;rw[List.take_of_length_le GB] at O;refine G 8 ?_;refine qh (s:=1) (vs:=[_]) O λk84 U ad3 O=>?_;refine yH O d_ (by exact O.rows (by exact aV)) (by simp only[μ,η,ζ]<;>omega) λYn U O=>?_;dsimp[u2,u1,u3,u4,setMany,u5,u6,ε,γ,bw,aI,av,bz] at O;refine G 2 ?_;refine qT O bf (λU O=>?_) (hcs:=O.dv d_);dsimp[u2,u1,u3,u4,setMany,u5,u6,ε,γ,bw,aI,av,bz] at O;refine G 1 ?_
 obtain⟨cj,WN⟩:∃cj,a_++[(a:Int)]=cj:=⟨_,rfl⟩
 have bK:uF gs cj:=⟨by omega,by rw[<-WN,ι,eY];simp only[μ,η];omega,hru⟩
 have O:Has Y.bs.length S U (x4 k14 (.mem 0 false (bw rD Yn ⟨0,0,0,0⟩))::.ai rD 1 ((gs.map bT).map aI)::.ai Yn 1 (cj.map av)::[]):=by rw[<-WN,δ];exact O.drop 1
 refine G 3 ?_;obtain⟨_,U,aK,s1,⟨p2,p3,l,rfl,p5,p6,p7⟩,O⟩:=EX gs 20 (s:=⟨0,0,0,0⟩) 0 bK rfl (by simp) (by simp) rfl O;refine M 3 ?_;have p7:(fH (xk gs 20 0 0) s1.e/\s1.i<=gs.length+1+20)\/(s1.e=0/\s1.i<=gs.length/\xk gs 20 0 0=.ok (l,s1.g) s1.i)\/(20=20/\s1.e=0/\cy gs s1.i 41=true/\∃w,xk gs 20 0 0=.er 4 w):=p7;generalize xk gs 20 0 0=af at*;unfold E6 at hX;refine G 2 ?_;refine ah.ir (λI U=>∃(s2:gj) (tmp:List (Nat×D)),I=⟨10,[ay I 0,ay I 1,ay I 2,ay I 3,ay I 4,.ptr k14 0 0,ay I 6,ay I 7,ay I 8,jO l],tmp⟩/\Has Y.bs.length S U (x4 k14 (.mem 0 false (bw rD Yn s2))::.ai rD 1 ((gs.map bT).map aI)::.ai Yn 1 (cj.map av)::[])/\(s2.e≠0/\(∃w,h2=([],s2.e,w))\/s2.e=0/\h2=(l,0,0))) ?_ ?_
 .by_cases he1:s1.e=0
  .have iF:(s1.e==0)=true:=by simpa using he1
   have hRR:(s1.i<=gs.length/\af=.ok (l,s1.g) s1.i)\/(cy gs s1.i 41=true/\∃w,af=.er 4 w):=by
    rcases p7 with p7|p7|p7
    .exact absurd he1 p7.1.1
    .exact .inl p7.2
    exact .inr p7.2.2
   refine M 19 ?_
   by_cases hin:s1.i<gs.length
   .have BD:decide ((s1.i:Int)<(gs.length:Int))=true:=by rw[decide_eq_true_eq];omega
    refine ah.cond (v:=true) (by dsimp[Fr.ev,Fr.get,nth,V.look];exact congrArg D.bool BD) (λ_=>?_) (λh=>by cases h);have hal:=bK.al;refine G 3 ?_;obtain⟨_,U,aK,⟨v,rfl⟩,O⟩:=jW (s:=s1) GB O;refine qv aK ?_;obtain⟨_,U,aK,rfl,O⟩:=bJ (s:=s1) 4 v O;refine M 2 ?_;have hfe:(iy s1 4 v).e=4:=eo he1
    have hj:(iy s1 4 v).e≠0/\(∃w,h2=([],(iy s1 4 v).e,w)):=by
     rw[hfe];refine⟨by decide,?_⟩
     rcases hRR with⟨_,hR⟩|⟨_,w,hR⟩
     .rw[hR] at hX;simp only at hX;rw[if_pos hin] at hX;exact⟨_,hX.symm⟩
     rw[hR] at hX;exact⟨_,hX.symm⟩
    exact⟨_,_,rfl,O,.inl hj⟩
   have BD:decide ((s1.i:Int)<(gs.length:Int))=false:=by rw[decide_eq_false_iff_not];omega
   refine M 2 ?_
   have hj:h2=(l,0,0):=by
    rcases hRR with⟨_,hR⟩|⟨h41,_⟩
    .rw[hR] at hX;simp only at hX;rw[if_neg hin] at hX;exact hX.symm
    exact absurd (dR h41) hin
   exact⟨s1,_,rfl,O,.inr ⟨he1,hj⟩⟩
  have iF:(s1.e==0)=false:=by simpa using he1
  refine G 21 ?_
  have hj:∃w,h2=([],s1.e,w):=by
   rcases p7 with p7|p7|p7
   .obtain⟨⟨_,w,hR⟩,_⟩:=p7;rw[hR] at hX;exact⟨_,hX.symm⟩
   .exact absurd p7.1 he1
   exact absurd p7.2.1 he1
  exact⟨s1,_,rfl,O,.inl ⟨he1,hj⟩⟩
 rintro I U ⟨s2,tmp,hfr,O,ht⟩;refine zK λee=>?_;refine G 9 ?_;refine ah.cond (by rfl) (λhne=>?_) (λhne=>?_)<;>try simp at hne
 .refine M 15 ?_
  rcases ht with⟨h1,w,X⟩|⟨h1,X⟩
  .rw[X];exact⟨_,rfl⟩
  exact absurd h1 hne
 refine M 9 ?_
 rcases ht with⟨h1,X⟩|⟨h1,X⟩
 .exact absurd h1 GB
 rw[X];exact⟨0,rfl⟩
end Go.Proofs.YtappgjdiplibbaaGreat
namespace Go.Proofs.YtappgjdiplibbaaGreat.Z
open Go.V Go
variable{Y:St}
def zm {y:D} {parts:List (List aQ)} (h:∀l∈parts,(∀n∈l,ki n)/\l.length<=500) (hl:parts.length<=1048576) (hy:V.Rows Y 1 y (parts.map cU)):Ev pv 24 [y] Y (po (bq parts)) Y:=by
 have hr:(parts.map (λl=>(⟨jO l,l⟩:Nl))).map Nv=parts.map cU:=by rw[ν];rfl
 have h1:=ML (Y:=Y) (x:=y) (rules:=parts.map (λl=>(⟨jO l,l⟩:Nl))) (by rw[hr];exact hy) (λr hm=>⟨GO h r hm,λn hn=>by
  obtain⟨l,hl,rfl⟩:=ξ.1 hm
  exact((h l hl).1 n hn).1⟩) (by rw[ζ];exact hl)
 have X:(parts.map (λl=>(⟨jO l,l⟩:Nl))).map (·.l)=parts:=by rw[ν];exact List.map_id _
 rwa [X] at h1
def W (z:D) (cont:List UInt8) (af C:gk):List D:=[z,yR cont]++(Au af.code af.aN).cs++(if cont=[] then[j5,j5] else(Au C.code C.aN).cs)++[wt (!(cont==[]))]
def Rc (N:Nat) (S U:St) (H:List aX) (l:List jm) (cont:List UInt8) (d:D):Except (Int×Int) (List gI×gk×gk)->Prop
 | .error r=>d=.tup [.pnil,J .i64 r.1,J .i64 r.2]/\Has N S U H
 | .ok r=>∃k z,d=.tup [.ptr k 0 0,J .i64 0,J .i64 0]/\Has N S U (x4 k (.mem 0 false (W z cont r.2.1 r.2.2))::.ai z 2 (l.map cD)::H)
variable{N:Nat}{S:St}{H:List aX}{l:List jm}
def CW {x:D} {cont:List UInt8} (hF:S.flr<=N) (hx:Arg N S 2 x (l.map cD)) (hl:l.length<=100) (gS:∀p∈l,p.fit) (hcl:cont.length<=1048576) (O:Has N S Y H):
  ∃d R,Ev pv 6 [.agg [x,yR cont]] Y d R/\Rc N S R H l cont d (rB l cont):=by
 have NB:=gX hx.1;have sy:=Gx l 0 [] [] [] (λi j a b _ h=>by simp at h) (λnm=>rfl);refine Ev.sv rfl fi6 rfl rfl rfl ?_;dsimp only[u3,u4,υ,τ,γ,w1,w2];change ah _ _ _ _ Y _;refine M 20 λk1 U jo O=>?_;unfold rB
 by_cases h8:8<l.length
 .have hc:decide ((l.length:Int)>8)=true:=by rw[decide_eq_true_eq];omega
  rw[if_pos h8];refine vX ?_;refine M 7 ?_;exact⟨rfl,O.drop 1⟩
 have hc:decide ((l.length:Int)>8)=false:=by rw[decide_eq_false_iff_not];omega
 rw[if_neg h8];refine vY ?_;refine G 10 ?_;have O:=O.cY 1;refine G 1 ?_;refine ah.loop (λmm I U=>∃(i:Nat) (y:D) (out:List (List aQ)),I.clean=fL I 21 [(1,.ptr k1 0 0),(3,J .i64 (l.length:Nat)),(0,y),(0,J .i64 (i:Nat))]/\Has N S U (.ai y 1 (out.map cU)::x4 k1 (.mem 0 false [x,yR cont])::H)/\(i+mm=l.length)/\(out.length=i)/\(EU (l.drop i) i ((l.take i).map (·.nm)) out=EU l 0 [] [])) (l.length) ?_ ?_;·exact⟨0,j5,[],rfl,O,by omega,rfl,rfl⟩
 rintro mm I U ⟨i,y,out,hfr,O,hi,JE,nf⟩;refine zK λee=>?_;refine G 7 ?_;refine zP (λh1=>?_) λh1=>?_
 .refine G 1 ?_
  obtain⟨p,B⟩:=gx (l:=l) (i:=i)
  have gi:=ο B;obtain⟨wK,uY⟩:=gS p gi;have dO:=lK B;rw[u7 B,EU] at nf;have Se:=λU=>θ le (H_ (Y:=U) (s:=p.nm) wK);have AW:=(jN (Y:=Y) (b:=p.tx) uY).2;refine M 11 λYu O3 k8 U O' O U O=>?_;dsimp[u2,u1,u3,u4,setMany,u5,u6,ε,γ,cD,po,Au,Pg.d,Pg.cs] at O;refine M (t:=(Se _)) 9 ?_
  cases F:jA p.nm with
  |false=>
   rw[if_pos F] at nf;rw[<-nf] at sy;refine M 9 ?_
   cases hq:bX l 0 [] [] with
   |error r=>rw[hq] at sy;cases sy;exact⟨rfl,O.drop 3⟩
   |ok r=>rw[hq] at sy<;>cases sy
  |true=>
   rw[if_neg (by rw[F];simp)] at nf;refine M 8 ?_;refine ah.loop (λmm I U=>∃(k:Nat),I.clean=fL I 21 [(1,.ptr k1 0 0),(3,J .i64 (l.length:Nat)),(0,y),(0,J .i64 (i:Nat)),(0,.ptr k8 0 0),(0,J .i64 (k:Nat))]/\Has N S U (x4 k8 (.mem 0 false [yR p.nm,yR p.tx])::.ai y 1 (out.map cU)::x4 k1 (.mem 0 false [x,yR cont])::H)/\(k+mm=i)/\(((l.take k).map (·.nm)).any (λq=>q==p.nm)=false)) (i) ?_ ?_;·exact⟨0,rfl,O,by omega,rfl⟩
   rintro mm I U ⟨k,hfr,O,A,hb2⟩;refine zK λee=>?_;refine G 7 ?_;refine zP (λX=>?_) λX=>?_
   .refine G 1 ?_
    obtain⟨q,hq⟩:=gx (l:=l) (i:=k)
    have pe:=lK hq
    have FI:((l.take (k+1)).map (·.nm)).any (λq=>q==p.nm)=(q.nm==p.nm):=by
     rw[κ,hq,δ,List.any_append,hb2];simp
    refine M 14 λUZ LS Yt O1=>?_
    cases he:(q.nm==p.nm) with
    |true=>
     rw[he] at FI
     have hai:((l.take i).map (·.nm)).any (λq=>q==p.nm)=true:=by
      rw[List.any_eq_true] at FI|-;obtain⟨a,ha,hae⟩:=FI;obtain⟨b,F,rfl⟩:=ξ.1 ha;exact⟨_,ξ.2 ⟨b,(List.take_sublist_take_left (by omega:k+1<=i)).subset F,rfl⟩,hae⟩
     rw[if_pos hai] at nf;rw[<-nf] at sy;refine ah.cond (v:=true) (by dsimp[Fr.ev,Fr.get,nth,V.look];skip) (λ_=>?_) (λh=>by cases h);refine M 8 ?_
     cases hq9:bX l 0 [] [] with
     |error r=>rw[hq9] at sy;cases sy;exact⟨rfl,O.drop 3⟩
     |ok r=>rw[hq9] at sy<;>cases sy
    |false=>
     refine ah.cond (v:=false) (by dsimp[Fr.ev,Fr.get,nth,V.look];skip) (λh=>by cases h) (λ_=>?_);refine G 6 ?_;exact⟨mm-1,by omega,k+1,rfl,O,by omega,(by rw[FI,he])⟩
   refine G 1 ?_;have L8:k=i:=by omega
   subst L8;rw[if_neg (by rw[hb2];simp)] at nf;obtain⟨wp,ta⟩:=tM (Y:=U) (b:=p.tx) uY;refine M (t:=(θ le ta)) 19 ?_
   by_cases he:(aT p.tx).2.1=0
   .have ua:((aT p.tx).2.1 !=0)=false:=by rw[he];rfl
    rw[if_neg (λh=>h he)] at nf;have Qr:=vt (Y:=U) AW.1 GB;refine vY ?_;refine G 4 ?_;refine u.dP rfl rfl Qr (ae rfl _) ?_;refine M 9 λk70 U Pa O x71 U O=>?_;exact⟨l.length-(k+1),by omega,⟨k+1,x71,out++[bO (aT p.tx).1],rfl,(by rw[δ];exact O.drop 2),by omega,(by rw[ι,JE];rfl),(by rw[κ,B,δ];exact nf)⟩⟩
   have ua:((aT p.tx).2.1 !=0)=true:=by simpa using he
   rw[if_pos he] at nf;rw[<-nf] at sy;refine vX ?_;refine M 9 ?_
   cases hq:bX l 0 [] [] with
   |error r=>rw[hq] at sy;cases sy;exact⟨rfl,O.drop 3⟩
   |ok r=>rw[hq] at sy<;>cases sy
 refine G 1 ?_;have hil:i=l.length:=by omega
 rw[hil,List.drop_length,EU] at nf;rw[<-nf] at sy
 cases hpq:bX l 0 [] [] with
 |error r=>rw[hpq] at sy;cases sy
 |ok r=>
  rw[hpq] at sy;obtain⟨T,Oe⟩:=r;dsimp only at sy;cases sy;obtain⟨LZ,O6⟩:=mz Y _ _ _ _ _ gS (by intro k A;cases A) hpq;dsimp only at LZ O6|-;refine G 5 ?_;refine qg (d:=.agg [j5,yR [],j5,j5,j5,j5,wt (!(cont==[]))]) ?_;refine M 13 λk76 U ad6 O U O=>?_;have O:=O.cY 2;refine M 14 λTy U O=>?_;refine qT O bf (λU O=>?_) (hcs:=O.dv aV);dsimp[u2,u1,u3,u4,setMany,u5,u6,ε,γ,cD,po,Au,Pg.d,Pg.cs] at O;refine G 5 ?_;have AV:=(jN (Y:=Y) (b:=cont) hcl).2;refine G 8 ?_;refine ah.merge (λI U=>∃(cd:D) (tmp:List (Nat×D)),I=⟨21,[ay I 0,.ptr k1 0 0,ay I 2,ay I 3,ay I 4,J .i64 (l.length:Nat),y,ay I 7,ay I 8,ay I 9,ay I 10,ay I 11,ay I 12,.ptr k76 0 0,cd,ay I 15,ay I 16,ay I 17,ay I 18,ay I 19,ay I 20],tmp⟩/\Has N S U (.ai Ty 2 (l.map cD)::x4 k76 (.mem 0 false [Ty,yR cont,j5,j5,j5,j5,wt (!(cont==[]))])::.ai y 1 (out.map cU)::x4 k1 (.mem 0 false [x,yR cont])::H)/\(cont≠[]->(aT cont).2.1=0/\cd=jO (bO (aT cont).1))) ?_ ?_
  .by_cases nu:cont=[]
   .have c_:(!(cont==[]))=false:=by rw[nu];rfl
    refine M 2 ?_;exact⟨j5,_,rfl,O,(λh=>absurd nu h)⟩
   have c_:(!(cont==[]))=true:=by simpa using nu
   obtain⟨wp,ta⟩:=tM (Y:=U) (b:=cont) hcl;refine M (t:=(θ le ta)) 20 ?_
   by_cases he:(aT cont).2.1=0
   .have ua:((aT cont).2.1 !=0)=false:=by rw[he];rfl
    have Qr:=vt (Y:=U) AV.1 GB;refine vY ?_;refine G 3 ?_;refine u.dP rfl rfl Qr (ae rfl _) ?_;refine G 2 ?_;exact⟨jO (bO (aT cont).1),_,rfl,O,(λ_=>⟨he,rfl⟩)⟩
   have ua:((aT cont).2.1 !=0)=true:=by simpa using he
   rw[if_pos ⟨nu,he⟩];refine vX ?_;refine M 9 ?_;exact⟨rfl,O.drop 4⟩
  rintro I U ⟨cd,tmp,hfr,O,ux⟩;refine zK λee=>?_;rw[if_neg (λh=>h.2 (ux h.1).1)];have hcm:=λU (h:V.Rows U 1 y (out.map cU))=>zm LZ GB h;refine M (t:=(hcm _ (O.rows dh))) 19 λk18 U Wo O U O=>?_
  by_cases ua:(bq out).e=0
  .have hcb:((bq out).e !=0)=false:=by rw[ua];rfl
   rw[if_neg (λh=>h ua)];refine vY ?_;refine M 17 λU O=>?_
   by_cases nu:cont=[]
   .have c_:(!(cont==[]))=false:=by rw[nu];rfl
    rw[if_neg (λh=>h.1 nu),if_pos nu];refine M 10 ?_;refine⟨k76,Ty,rfl,?_⟩;unfold W;rw[if_pos nu];exact Has.EN [_] [_] (((O.drop 1).erase 2).erase 2)
   have c_:(!(cont==[]))=true:=by simpa using nu
   obtain⟨he,rfl⟩:=ux nu;have Vs:=om AV.1 AV.2;have SC:=λU (z:D) (h:V.Rows U 1 z ([bO (aT cont).1].map cU))=>zm (parts:=[bO (aT cont).1]) (λk A=>by rw[π.1 A];exact Vs) (by simp) h;refine M 5 λk132 U ade O=>?_;refine qv (SC _ _ (O.rows aV)) ?_;refine M 13 λU O=>?_
   by_cases h_:(bq [bO (aT cont).1]).e=0
   .have FE:((bq [bO (aT cont).1]).e !=0)=false:=by rw[h_];rfl
    rw[if_neg (λh=>h.2 h_),if_neg nu];refine vY ?_;refine M 16 λU O=>?_;refine⟨k76,Ty,rfl,?_⟩;unfold W;rw[if_neg nu];exact Has.EN [_] [_] (((O.drop 2).erase 2).erase 2)
   have FE:((bq [bO (aT cont).1]).e !=0)=true:=by simpa using h_
   rw[if_pos ⟨nu,h_⟩];refine vX ?_;refine M 9 ?_;exact⟨rfl,O.drop 6⟩
  have hcb:((bq out).e !=0)=true:=by simpa using ua
  rw[if_pos ua];refine vX ?_;refine M 9 ?_;exact⟨rfl,O.drop 5⟩
theorem Q2 (hF:S.flr<=N) (O:Has N S Y H):Y.flr<=Y.bs.length/\Y.ro<=Y.bs.length:=by
 have h1:=O.ex.flr;have X:=O.ex.ro;have h3:=O.fx;have h4:=O.hN;have h5:=O.ex.len;omega
def MK (c:List UInt8) (C:gk):Pg:=if c=[] then⟨j5,[],j5,[]⟩ else Au C.code C.aN
def MJ (c:List UInt8) (C:gk):(if c=[] then[j5,j5] else(Au C.code C.aN).cs)=[(MK c C).cd,(MK c C).sd]:=by
 unfold MK
 split<;>rfl
def NY (l:List jm) (c:List UInt8) (af C:gk) (kt:Nat):Kq l c af C kt=[rn l,yR c,(Au af.code af.aN).cd,(Au af.code af.aN).sd,(MK c C).cd,(MK c C).sd,.ptr kt 0 0]:=by
 unfold Kq;rw[MJ];rfl
def N7 (z:D) (c:List UInt8) (af C:gk):W z c af C=[z,yR c,(Au af.code af.aN).cd,(Au af.code af.aN).sd,(MK c C).cd,(MK c C).sd,wt (!(c==[]))]:=by
 unfold W;rw[MJ];rfl
def CY (Y:St) {c:List UInt8} {r:List gI×gk×gk} (hcl:c.length<=1048576) (gS:∀p∈l,p.fit) (h:rB l c=.ok r):(Au r.2.1.code r.2.1.aN).ok/\(MK c r.2.2).ok:=by
 unfold rB at h
 split at h;·cases h
 split at h;·cases h
 rename_i q hq;obtain⟨k1,k2⟩:=mz Y _ _ _ _ _ gS (by intro k A;cases A) hq
 split at h;·cases h
 split at h;·cases h
 split at h;·cases h
 cases h;refine⟨(ug (ls:=q.2) λl hl n hn=>((k1 l hl).1 n hn).2.1).1,?_⟩;show(MK c (if c=[] then _ else _)).ok;unfold MK
 by_cases hc:c=[];·rw[if_pos hc];exact Iq
 rw[if_neg hc,if_neg hc];have ta:=(jN (Y:=Y) (b:=c) hcl).2;have Vs:=om ta.1 ta.2;exact(ug (ls:=[bO (aT c).1]) λl hl n hn=>by rw[π.1 hl] at hn;exact(Vs.1 n hn).2.1).1
def yv {p q:Pg} (B:p.ok) (hq:q.ok) (h1:q.code=p.code.map NH) (X:q.aN=p.aN):Ev pv 11 [q.d,p.d] Y (wt true) Y:=
 θ le (Io (hq.c.rows Y) (hq.s.rows Y) (λi hi=>⟨2,(hq.i i hi).1.rows Y,.inr rfl⟩) B (by rw[h1,ν];rfl) X)
def Ur.zD {hk hp:Prop} (e:hk->hp:=by intro h;dsimp only[u2,u1,u3,u4,setMany,u5,u6,D.cells,Nat.reduceAdd,cD,Pg.d,Pg.cs] at h;exact h):hk->hp:=e
def law (s:PU) (hs:s.ok):Ev pv 3 [s.d] Y (wt true) Y:=by
 open Ur in
 have I7:=λ(U:St)=>S0 (Y:=U) hs;have gS:=λp B=>hs.fit p (List.mem_of_mem_take (l:=s.l) (i:=12) B);have hc:=hs.hc;have pg:(s.l.take 12).length<=12:=by rw[List.length_take];omega
 have NB:=hs.hx.cells.1;unfold PU.d at*;obtain⟨x,l0,c⟩:=s;dsimp only at I7 gS hc pg NB|-;generalize l0.take 12=l at*;clear hs;refine Ev.sU rfl fi3 rfl rfl rfl ?_;dsimp only[u3,u4,υ,τ,γ,w1,w2];obtain⟨aP,hF,O⟩:=ri Y;generalize aw .ro Y=S at*;refine qq<|qj λK hK=>M 2 λk1 U jo O=>?_;refine qe hK<|qq<|qj λK hK=>yL (m:=2) O aV ?_;obtain⟨x2,aK,OS⟩:=I7 U;have aep:=OS.cells.1;refine M (t:=(θ le aK)) 2 λU O=>?_;refine qe hK ?_;have wy:=OS.arg Y.bs.length S;have hA:=O;have Vz:refs [x2,yR c]=0:=by have:=OS.ref;simp[refs,D.ref,this]
 change ah _ _ _ _ _ _;refine qq ?_;generalize hK:dN _ _ _ _=K;refine ah.Ci rfl ?_;refine nr.cons ?_;refine qp (o:=1) ?_;refine yY ?_;refine ql O aV ?_;refine yY ?_;refine u.A5 (s:=2) O rfl rfl rfl rfl rfl (λ_=>(ae rfl _)) (λk17 U Sm O=>?_);refine yY ?_;refine qp (o:=0) ?_;refine yY ?_;refine ql O bf ?_;refine yY ?_;have hB:=O;refine yH O aV (wy.rows O) (by simp only[η,ζ];omega) λNK U O=>?_;dsimp at O;refine u.nil ⟨by exact Bool.and_eq_true_iff.2 ⟨jQ rfl rfl rfl (hB.at bf) (O.at bf) (hA.at aV) Vz,rfl⟩,?_⟩;refine nr.cons ?_;refine pO ?_;refine yY ?_;refine qa O λk3 U A7 O=>?_;refine yY ?_;refine M 1 λU O=>?_;refine u.nil ⟨rfl,?_⟩;refine nr.nil ?_;subst hK;obtain⟨f1,f2⟩:=Q2 hF O;obtain⟨d,st1,aK,hP⟩:=OJ (cont:=c) f1 (Arg.of (O.rows bf) rfl) GB gS GB (Has.start (φ _) f2)
 cases nf:rB l c with
 |error r=>
  rw[nf] at hP;obtain⟨rfl,hr,ub⟩:=hP;have W4:Has Y.bs.length S st1 (_::.ai NK 2 (l.map cD)::_::[]):=Has.Qe O ub;obtain⟨d,st2,Bb,hP⟩:=CW (cont:=c) hF wy GB gS GB W4;rw[nf] at hP;obtain⟨rfl,SO⟩:=hP;have c8:(r.1 !=r.1)=false:=by simp
  have eO:(r.2 !=r.2)=false:=by simp
  refine qq<|qj λK hK=>M (t:=(θ le aK)) 2 ?_;have O:=W4;refine M 7 ?_;refine qe hK<|qq<|qj λK hK=>yL (m:=2) O dh ?_;refine u.dP rfl rfl Bb (ae rfl _) ?_;have O:=SO;refine M 7 ?_;refine qe hK<|M 2 ?_;refine qj λK hK=>M 15 ?_;refine qe hK<|M 4 ?_;refine qj λK hK=>qm ?_;refine qe hK<|ah.block<|ah.loop (λmm I U=>∃(i:Nat) (l2:List jm),I.clean=fL I 13 [(1,.ptr k1 0 0),(1,.ptr k3 0 0),(0,.pnil),(5,J .i64 (i:Nat))]/\Has Y.bs.length S U (x4 k3 (.mem 0 false [NK,yR c])::.ai NK 2 (l2.map cD)::x4 k1 (.mem 0 false [x2,yR c])::[])/\(i+mm=l.length)/\(l2.length=l.length)) (l.length) ?_ ?_
  .exact⟨0,l,rfl,O,by omega,rfl⟩
  rintro mm I U ⟨i,l2,hfr,O,hi,sF⟩;refine zK λee=>?_;refine M 2 ?_;refine qj λK hK=>M 5 ?_;refine qe hK ?_;rw[sF];refine zP (λh1=>?_) λh1=>?_
  .refine ah.skip ?_
   obtain⟨p,B⟩:=gx (l:=l2) (i:=i)
   have dO:=lK B;refine M 2 ?_;refine qj λK hK=>M 4 ?_;refine qi O bf λp60 VJ=>?_;refine yG O bf λU O=>?_;dsimp[u2,u1,u3,u4,setMany,u5,u6,ε,γ,cD,Pg.d,Pg.cs] at O;refine qe hK<|qj λK hK=>M 3 ?_;refine qe hK ?_;exact⟨mm-1,by omega,i+1,l2.set i ⟨[116,117,114,110,101,100],[]⟩,rfl,(by rw[ς];exact O),by omega,(by rw[ρ];exact sF)⟩
  refine M 3 ?_;refine qj λK hK=>M 2 ?_;refine qe hK<|ah.cond (v:=true) (by dsimp[Fr.ev,Fr.get,nth,V.look];skip) (λ_=>?_) (λh=>by cases h);refine qq<|qj λK hK=>qv (Ev.jG rfl rfl) ?_;refine qm ?_;refine qe hK ?_;exact M 0 trivial
 |ok r=>
  rw[nf] at hP;obtain⟨kr,kt,xt,rfl,ub⟩:=hP;rw[NY] at ub;have W4:Has Y.bs.length S st1 (_::_::_::.ai NK 2 (l.map cD)::_::[]):=Has.erase (Has.Qe O ub) 2;obtain⟨d,st2,Bb,hP⟩:=CW (cont:=c) hF wy GB gS GB W4;rw[nf] at hP;obtain⟨kf,z,rfl,SO⟩:=hP;rw[N7] at SO;obtain⟨Ef,BC⟩:=CY Y GB gS nf;have hS:=CX nf;generalize Au r.2.1.code r.2.1.aN=P at*;generalize MK c r.2.2=Tr at*;have c8:((0:Int) !=0)=false:=rfl;have eO:((0:Int) !=0)=false:=rfl;refine qq<|qj λK hK=>M (t:=(θ le aK)) 2 ?_;have O:=W4;refine M 7 ?_;refine qe hK<|qq<|qj λK hK=>yL (m:=2) O kS ?_;refine u.dP rfl rfl Bb (ae rfl _) ?_;have O:=SO;refine M 7 ?_;refine qe hK<|M 2 ?_;refine qj λK hK=>M 15 ?_;refine qe hK<|M 4 ?_;refine qj λK hK=>qm ?_;refine qe hK<|ah.block<|ah.loop (λmm I U=>∃(i:Nat) (l2:List jm),I.clean=fL I 13 [(1,.ptr k1 0 0),(1,.ptr k3 0 0),(0,.ptr kr 0 0),(2,.ptr kf 0 0),(2,J .i64 (i:Nat))]/\Has Y.bs.length S U (x4 kf (.mem 0 false [z,yR c,P.cd,P.sd,Tr.cd,Tr.sd,wt (!(c==[]))])::.ai z 2 (l.map cD)::x4 kr (.mem 0 false [rn l,yR c,P.cd,P.sd,Tr.cd,Tr.sd,.ptr kt 0 0])::x4 kt (.mem 0 false [xt])::x4 k3 (.mem 0 false [NK,yR c])::.ai NK 2 (l2.map cD)::x4 k1 (.mem 0 false [x2,yR c])::[])/\(i+mm=l.length)/\(l2.length=l.length)) (l.length) ?_ ?_
  .exact⟨0,l,rfl,O,by omega,rfl⟩
  rintro mm I U ⟨i,l2,hfr,O,hi,sF⟩;refine zK λee=>?_;refine M 2 ?_;refine qj λK hK=>M 5 ?_;refine qe hK ?_;rw[sF];refine zP (λh1=>?_) λh1=>?_
  .refine ah.skip ?_
   obtain⟨p,B⟩:=gx (l:=l2) (i:=i)
   have dO:=lK B;refine M 2 ?_;refine qj λK hK=>M 4 ?_;refine qi O n9 λp60 VJ=>?_;refine yG O n9 λU O=>?_;dsimp[u2,u1,u3,u4,setMany,u5,u6,ε,γ,cD,Pg.d,Pg.cs] at O;refine qe hK<|qj λK hK=>M 3 ?_;refine qe hK ?_;exact⟨mm-1,by omega,i+1,l2.set i ⟨[116,117,114,110,101,100],[]⟩,rfl,(by rw[ς];exact O),by omega,(by rw[ρ];exact sF)⟩
  refine M 3 ?_;refine qj λK hK=>M 2 ?_;refine qe hK<|ah.cond (v:=false) (by dsimp[Fr.ev,Fr.get,nth,V.look];skip) (λh=>by cases h) (λ_=>?_);refine ah.skip ?_;obtain⟨_,abc,q,rfl,xE,oW,VC⟩:=PA BC (O.at dh) (O.ge dh).2 (by have h8:=(O.ge d_).2;have h5:=Ef.c.ref;have h6:=Ef.s.ref;have h7:=BC.c.ref;have h9:=BC.s.ref;have h4:=(Rk l).ref;simp only[refs,D.ref,h4,h5,h6,h7,h9];omega);refine qq<|qj λK hK=>qm ?_;refine qv (θ le abc) ?_;refine M 6 λk11 U aa0 O U O=>?_;refine qe hK ?_;have fU:true=true:=rfl;have gR:true=true:=rfl;have Ss:((c !=[])==(!(c==[])))=true:=beq_self_eq_true _;have aa7:true=true:=rfl;have tc:((l.length:Int)==(l.length:Int))=true:=beq_self_eq_true _;have aa6:(y6 l c==y6 l c)=true:=beq_self_eq_true _;refine qq<|qj λK hK=>qm ?_;refine qv (θ le (NU (oz _ _) GB (O.at d_))) ?_;refine yL (m:=2) O oY ?_;refine qv (θ le (H7 (oz _ _) (OS.rows _) GB)) ?_;refine M 2 ?_;obtain⟨_,abb,q2,rfl,sA,tX,hp3⟩:=KN Ef (O.at d_);refine qv (θ le abb) ?_ (hg:=wi fU);refine M 3 ?_;refine u.gp (m:=2) O (wi fU) Pd (by exact bf) (by dsimp<;>rfl) rfl rfl (ae rfl _) ?_;refine qv (yv Ef sA tX hp3) ?_ (hg:=wi fU);refine M 10 ?_;refine u.gp (m:=2) O (wi Ss) Pd (by exact aV) (by dsimp<;>rfl) rfl rfl (ae rfl _) ?_;refine M 3 ?_;refine u.gp (m:=2) O (wi Ss) Pd (by exact bf) (by dsimp<;>rfl) rfl rfl (ae rfl _) ?_;refine qv (yv BC xE oW VC) ?_ (hg:=wi Ss);refine M 3 ?_;refine qv (θ le (Ik (O.at d_))) ?_ (hg:=wi aa7);refine M 7 ?_;refine qv (θ le (Ml hS (oz _ _) (O.at d_))) ?_ (hg:=wi tc);refine u.gp (m:=2) O (wi tc) Pd (by exact oY) (by dsimp<;>rfl) rfl rfl (ae rfl _) ?_;refine qv (θ le (Jb hS (OS.rows _))) ?_ (hg:=wi tc);refine M 3 ?_;refine qv (Ev.jG rfl rfl) ?_ (hg:=wi aa6);refine M 2 ?_;refine qe hK ?_;exact M 0 trivial
end Go.Proofs.YtappgjdiplibbaaGreat.Z
