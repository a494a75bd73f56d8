/-
 The document's read and Compile at the view Z; Simple there. %deep
-/
import Derived.Test.YtappgjdiplibbaaGreatYGHs
import Derived.Test.YtappgjdiplibbaaGreatYGDc
import Derived.Test.YtappgjdiplibbaaGreatYGGf
import Derived.Test.YtappgjdiplibbaaGreatYGMc
import Derived.Test.YtappgjdiplibbaaGreatYGTe
set_option maxRecDepth 100000
set_option maxHeartbeats 4000000
set_option linter.all false
open Nat renaming le_of_ble_eq_true->γ,reduceAdd->η,le_refl->ο,reduceSub->τ
open List renaming length_append->δ,length_cons->ε,getElem?_eq_getElem->ζ,length_nil->θ,map_append->ι,length_map->κ,mem_cons->μ,mem_of_getElem?->ξ,exists_cons_of_ne_nil->π,map_cons->ρ,mem_append->ς,length->υ
open Go.V.D renaming cells->ν,ref->φ
open Go.IntKind renaming i64->W
open Go.V.D renaming bool->wt,ptr->yv
open Go.V.mc renaming mem->zm
namespace Go.Proofs.YtappgjdiplibbaaGreat.Z
open Go.V Go
variable{hk hp:Prop}
def Up.zD (e:hk->hp:=by intro h;dsimp only[u2,u1,u3,u4,setMany,u5,u6,D.cells,Nat.reduceAdd,tC,bQ,aO] at h;exact h):hk->hp:=e
def Cp {l:List aQ} (hl:l.length<=1048576) (hv:∀n∈l,ki n) {x:D} (hx:fJ x 7 (l.map aO)):∀(m:Nat) (t:Q),t.dF<=m->m<=1048576->t.ok->∀(Y:St) (at_:Nat),g_ l at_ t.flat->Ev pv 57 [x,.int W (at_:Nat)] Y (.tup [.agg (tC t),.int W ((at_+t.flat.length:Nat):Int)]) Y
 |0,t,h,_,_,_,_,_=>by have:=Q.bR t;omega
 |m+1,t,h,hm,bK,Y,at_,l_=>by
  open Up in
  suffices hg:∃d,Ev pv 57 [x,.int W (at_:Nat)] Y d Y/\d=.tup [.agg (tC t),.int W ((at_+t.flat.length:Nat):Int)] by
   obtain⟨_,h1,rfl⟩:=hg;exact h1
  have L_:=Q.bR t;have lT:=bk t.ks;obtain⟨ho,rQ⟩:=Q.CH.1 bK;have hkk:t.n.kids=(t.ks.length:Nat):=ho.1;have iS:=Q.Bi t;rw[iS] at l_|-;have hle:=l_.le (by simp);simp at hle;have hn:=l_.head;have l_:=l_.tail;have dO:=i_ hn;have hnv:=hv t.n (ξ hn)
  have hall:∀k∈t.ks,k.fa ki:=(NO (P:=ki) t.ks).1 (λn hn=>by
   obtain⟨post,B⟩:=l_
   exact hv n (List.mem_of_mem_drop (B▸List.mem_append_left _ hn)))
  refine Ev.Yz rfl SY rfl rfl rfl ?_;dsimp only[u3,u4,υ,τ,η,w1,w2];obtain⟨aP,hF,O⟩:=ri Y;generalize aw .ro Y=S at*;have hx:=hx.arg Y.bs.length S;refine M 11 λk4 U QA O Ro Dj=>?_;refine qg (d:=.agg (aO t.n++[.nul])) ?_;refine M 14 λk6 U L' O U O=>?_;have O:Has Y.bs.length S U (.box k6 (zm 0 false (bQ t.n .nul))::.ai .nul 8 (([]:List Q).map tC)::.box k4 (zm 0 false tz)::[]):=Has.EN [_] [_] (O.cY 8);refine G 1 ?_;refine ah.loop (λmm I U=>∃(i j:Nat) (kd:D),I.clean=fL I 10 [(0,x),(0,.int W (j:Nat)),(2,yv k4 0 0),(1,yv k6 0 0),(0,.int W (i:Nat))]/\Has Y.bs.length S U (.box k6 (zm 0 false (bQ t.n kd))::.ai kd 8 ((t.ks.take i).map tC)::.box k4 (zm 0 false tz)::[])/\(i+mm=t.ks.length)/\(g_ l j (aE (t.ks.drop i)).flat)/\(j+(aE (t.ks.drop i)).flat.length=at_+1+(aE t.ks).flat.length)/\(∀k,kd.ref=k+1->S.bs.length<=k)) (t.ks.length) ?_ ?_;·exact⟨0,at_+1,.nul,rfl,O,by omega,l_,rfl,λk A=>by simp only[φ] at A;omega⟩
  rintro mm I U ⟨i,j,kd,hfr,O,hi,hj,A9,gb⟩;refine zK λee=>?_;refine G 9 ?_;refine zP (λh1=>?_) λh1=>?_
  .refine G 1 ?_
   obtain⟨p,B⟩:=gx (l:=t.ks) (i:=i)
   have gi:=ξ B;have BC:=ch gi;rw[kW B] at hj A9;rw[δ] at A9;have xq:=λU=>Cp hl hv ‹_› m p GB GB (rQ p gi) U j hj.left;refine M (t:=((xq _))) 14 λk8 U O' O U O=>?_;have O:Has Y.bs.length S U (.box k8 (zm 0 false (tC p))::.box k6 (zm 0 false (bQ t.n kd))::.ai kd 8 ((t.ks.take i).map tC)::.box k4 (zm 0 false tz)::[]):=O;refine G 3 ?_;refine u.mZ O rfl Pd bf rfl (ae rfl _) ?_;refine yC (m:=8) (r:=tC p) O aV ?_;refine M 1 λk33 U Sl O=>?_;refine y5 O d_ (O.rows aV) (by simp only[κ,List.length_take,ε,θ];omega) gb λQU U gb O=>?_;dsimp at O;refine G 1 ?_;refine qT O dh (λU O=>?_) (hcs:=O.dv d_);dsimp[u2,u1,u3,u4,setMany,u5,u6,ν,η,tC,bQ,aO] at O;refine G 1 ?_;have O:=O.drop 2;refine G 9 ?_;exact⟨mm-1,by omega,i+1,j+p.flat.length,QU,rfl,(by rw[List.take_add_one,B,ι];exact O),by omega,hj.right,by omega,gb⟩
  refine G 1 ?_;have he:i=t.ks.length:=by omega
  rw[he,List.drop_length] at A9;rw[he,List.take_length] at O;have Wp:(aE []).flat.length=0:=rfl;rw[Wp] at A9;have I7:∀k∈t.ks,k.fa lv:=λk A=>(Q.cK k).2 (λn hn=>⟨((Q.cK k).1 (hall k A) n hn).1,((Q.cK k).1 (hall k A) n hn).2.1⟩);refine G 2 ?_;refine yC (m:=8) (r:=bQ t.n kd) O aV ?_;refine qm ?_;refine u.cB O rfl Pd Pd rfl (by exact rfl) dh (by exact rfl) (.inl hF) (λU O=>?_);dsimp at O;refine G 2 ?_;have O:Has Y.bs.length S U (.box k6 (zm 0 false (bQ t.n kd))::.ai kd 8 (t.ks.map tC)::.box k4 (zm 0 false (bQ t.n kd))::[]):=O;have Fz:aB U Y.bs.length false 14 kd=some (dL t.ks):=by rw[mE];exact O.freeze bf (kD I7) (n:=13) AN
  have WQ:aB U Y.bs.length false 15 (.agg (bQ t.n kd))=some (.agg (tC t)):=by
   show(cE (aB U Y.bs.length false 14) (bQ t.n kd)).map D.agg=_;have rO:aB U Y.bs.length false 14 t.n.rd=some t.n.rd:=by rw[hnv.1];rfl
   simp only[bQ,cE,Fz,rO]
   rfl
  refine ah.ret ⟨rx,_,_,O.ra rfl dh rfl rfl,rl aP O (d':=.tup [.agg (tC t),.int W (j:Nat)]) ?_,?_⟩
  .show(cE (aB U Y.bs.length false 15) [.agg (bQ t.n kd),.int W (j:Nat)]).map D.tup=_;simp only[cE,WQ]
   rfl
  rw[show j=at_+((aE t.ks).flat.length+1) by omega]
def Uo.zD (e:hk->hp:=by intro h;dsimp only[u2,u1,u3,u4,setMany,u5,u6,D.cells,Nat.reduceAdd,bN,aO,av,Nv,tC,bQ] at h;exact h):hk->hp:=e
variable{Y:St}
def ML {x:D} {rules:List Nl} (hx:V.Rows Y 1 x (rules.map Nv)) (hr:∀r∈rules,r.ok/\∀n∈r.l,n.rd=az n.rs) (hl:rules.length<=1048576):Ev pv 24 [x] Y (po (bq (rules.map (·.l)))) Y:=by
 open Uo in
 refine Ev.sU rfl acw rfl rfl rfl ?_;dsimp only[u3,u4,υ,τ,η,w1,w2];obtain⟨aP,hF,O⟩:=ri Y;generalize aw .ro Y=S at*;have hx:=Arg.of hx aP;have hfz:∀(U:St) (e w:Int),aB U Y.bs.length false 16 (qP [.agg [.nul,.nul],.int W e,.int W w])=some (po ⟨[],[],e,w⟩):=λU e w=>rfl;refine M 13 λk2 U jn O=>?_;unfold bq
 by_cases h8:8<rules.length;·rw[if_pos (by rw[κ];exact h8)];refine qD rfl (by simp;omega) ?_;refine G 2 ?_;refine qg (d:=.agg [.nul,.nul]) ?_;refine M 4 λU O=>?_;refine ah.ret ⟨rx,_,O.gY rfl aV rfl rfl rfl,rl aP O (hfz _ 13 8)⟩
 rw[if_neg (by rw[κ];exact h8)];refine qE rfl (by simp;omega) ?_;refine G 3 ?_;refine qg (d:=.agg [.nul,wt false]) ?_;refine M 12 λk15 U ael O k6 U L' O=>?_
 have O:Has Y.bs.length S U (.box k15 (zm 0 false [.nul,wt false])::.deep (λ_=>False) .nul 4 (([]:List bn).map bN)::.box k6 (zm 0 false [.nul,.nul])::.ai .nul 1 (([]:List Int).map av)::.box k2 (zm 0 false [.nul,.nul])::[]):=by
  have h1:Has Y.bs.length S U (.ai .nul 1 (([]:List Int).map av)::.deep (λ_=>False) .nul 4 (([]:List bn).map bN)::.box k6 (zm 0 false [.nul,.nul])::.box k15 (zm 0 false [.nul,wt false])::.box k2 (zm 0 false [.nul,.nul])::[]):=(O.Rv 4).cY 1;exact((Has.EN [_] [_,_] h1).front d_)
 refine G 1 ?_;refine ah.loop (λmm I U=>∃(r:Nat) (cd sd:D) (dk:Nat->Prop) (code:List bn) (aN:List Int),I.clean=⟨9,[x,ay I 1,yv k2 0 0,.int W 0,.int W 0,yv k15 0 0,yv k6 0 0,.int W (r:Nat),ay I 8],[]⟩/\Has Y.bs.length S U [.box k15 (zm 0 false [cd,wt false]),.deep dk cd 4 (code.map bN),.box k6 (zm 0 false [.nul,sd]),.ai sd 1 (aN.map av),.box k2 (zm 0 false [.nul,.nul])]/\(r+mm=rules.length)/\(kQ ((rules.drop r).map (·.l)) r code aN=kQ (rules.map (·.l)) 0 [] [])/\(code.length<=400)/\(aN.length<=r)) (rules.length) ?_ ?_;·exact⟨0,.nul,.nul,(λ_=>False),[],[],rfl,O,by omega,by rw[List.drop_zero],by simp,by simp⟩
 rintro mm I U ⟨r,cd,sd,dk,code,aN,hfr,O,hrr,hX,hcl,hst⟩;refine zK λee=>?_;refine M 8 ?_
 by_cases hlt:r<rules.length
 .obtain⟨q,hq⟩:∃q,rules[r]?=some q:=⟨rules[r]'hlt,ζ _⟩
  obtain⟨hqo,hqw⟩:=hr q (ξ hq);have dO:=Lf hq;rw[drop_cons hq,ρ,kQ] at hX;refine qD rfl (by simp;omega) ?_;refine M (t:=((Ev.le le (ym hqo)))) 13 λKY wD=>?_
  cases p_:eM q.l with
  |false=>
   rw[if_pos p_] at hX;refine G 3 ?_;refine qg (d:=.agg [.nul,.nul]) ?_;refine M 5 λU O=>?_;rw[<-hX];refine ah.ret ⟨rx,_,O.gY rfl kS rfl rfl rfl,rl aP O (hfz _ 1 r)⟩
  |true=>
   rw[if_neg (by rw[p_];simp)] at hX;obtain⟨nb,wB⟩:=oh p_;have hqn:=hqo.nl;have nu:(b8 q.l).dF<=1048576:=by rw[<-Q.jj,wB];exact hqn
   have LM:∀n∈q.l,ki n:=λn hn=>⟨hqw n hn,(hqo.i n hn).2.1,by have:=Q.rG _ nb n (by rw[wB];exact hn);rw[wB] at this;omega⟩
   have htv:(b8 q.l).fa lv:=(Q.cK _).2 λn hn=>by rw[wB] at hn;exact⟨(LM n hn).1,(LM n hn).2.1⟩
   have rO:=λU=>Cp hqn LM hqo.c _ (b8 q.l) (ο _) nu nb U 0 (by rw[wB];exact g_.all _);have Dl:xm (b8 q.l):=MP _ (b8 q.l) (ο _) nu nb htv;refine G 10 ?_;refine u.ti O rfl Pd (by exact bf) rfl (ae rfl _) ?_;simp only[κ];refine M 3 λk37 U Wk O Ns U O=>?_;refine qT O d_ (λU O=>?_) (hcs:=O.dv kS);dsimp[u2,u1,u3,u4,setMany,u5,u6,ν,η,bN,aO,av,Nv,tC,bQ] at O;refine M (t:=((rO _))) 15 λTJ I1 k8 U O' O U O=>?_
   have O:Has Y.bs.length S U (.box k15 (zm 0 false [cd,wt false])::.deep dk cd 4 (code.map bN)::.box k8 (zm 0 false (tC (b8 q.l)))::.box k6 (zm 0 false [.nul,Ns])::.ai Ns 1 ((aN++[(code.length:Int)]).map av)::.box k2 (zm 0 false [.nul,.nul])::[]):=by
    rw[ι (f:=av)];exact(Has.EN [_] [_,_] (O.erase 1))
   have A3:(.nul=D.nul/\([]:List Rg)=[])\/D.nul=.sl ((([]:List Rg).map ak).map (jK 2)):=.inl ⟨rfl,rfl⟩;refine G 3 ?_;refine qg (d:=.agg [.int W 4,.int W 0,.int W 0,.nul]) ?_;obtain⟨_,U,aK,rfl,cd,dk,Yb,acS,O,hO1⟩:=gg (rs:=[]) hF A3 ⟨cd,dk,code,false,O,.inl ⟨rfl,rfl,hcl⟩⟩;refine M (t:=(Ev.le le aK)) 2 ?_;have kq:(code++[bZ 4 0 0 []]).length=code.length+1:=by simp
   refine G 3 ?_;refine yC (m:=8) (r:=tC (b8 q.l)) O dh ?_;obtain⟨_,U,aK,rfl,cd,dk,aq,dq,O,Je⟩:=Dl hF ⟨cd,dk,Yb,acS,O,hO1⟩;refine M (t:=(Ev.le le aK)) 2 ?_;rw[kq] at Je;refine G 3 ?_;refine qg (d:=.agg [.int W 4,.int W 1,.int W 0,.nul]) ?_;obtain⟨_,U,aK,rfl,cd,dk,aW,cq,O,qk⟩:=gg (rs:=[]) hF A3 ⟨cd,dk,aq,dq,O,Je⟩;refine M (t:=(Ev.le le aK)) 6 ?_;refine qg (d:=.agg [.int W 7,.int W (r:Nat),.int W 0,.nul]) ?_;obtain⟨_,U,aK,rfl,cd,dk,n4,xS,O,BF⟩:=gg (rs:=[]) hF A3 ⟨cd,dk,aW,cq,O,qk⟩;refine M (t:=(Ev.le le aK)) 2 ?_
   have Nw:code++[bZ 4 0 0 []]++aF (b8 q.l) (code.length+1)++[bZ 4 1 0 []]++[bZ 7 (r:Nat) 0 []]=code++kE (b8 q.l) code.length r:=by
    unfold kE;simp
   have ma:(code++kE (b8 q.l) code.length r).length=code.length+(b8 q.l).sz+3:=by rw[δ,sO nb];omega
   rw[Nw,ma] at BF;refine G 7 ?_
   by_cases hb4:xS=false
   .obtain⟨h42,h43⟩:n4=code++kE (b8 q.l) code.length r/\code.length+(b8 q.l).sz+3<=400:=by
     rcases BF with h|h
     .exact h.2
     rw[hb4] at h;cases h.1
    rw[if_neg GB] at hX;rw[hb4,h42] at O;refine vY ?_;refine G 6 ?_;have O:=O.erase 2;exact⟨mm-1,by omega,r+1,cd,Ns,dk,code++kE (b8 q.l) code.length r,aN++[(code.length:Int)],rfl,O,by omega,hX,by rw[ma];omega,by rw[δ];simp only[ε,θ];omega⟩
   obtain⟨h41,h42,h43⟩:xS=true/\n4.length=400/\400<code.length+(b8 q.l).sz+3:=by
    rcases BF with h|h
    .exact absurd h.1 hb4
    exact h
   rw[if_pos GB] at hX;refine vX ?_;refine G 2 ?_;refine qg (d:=.agg [.nul,.nul]) ?_;refine M 5 λU O=>?_;rw[<-hX];refine ah.ret ⟨rx,_,O.gY rfl n9 rfl rfl rfl,rl aP O (hfz _ 12 r)⟩
 refine qE rfl (by simp;omega) ?_;refine G 1 ?_;rw[List.drop_of_length_le GB,List.map_nil,tj] at hX;refine G 7 ?_;refine u.pZ O rfl Pd Pd (by exact O.w9 (by exact bf)) (by exact rfl) (by exact dh) (by exact γ rfl) (by exact .inl hF) (λU O=>?_);dsimp[u2,u1,u3,u4,setMany,u5,u6,ν,η,bN,aO,av,Nv,tC,bQ] at O;refine M 8 λU O=>?_;rw[<-hX];have h1:=O.wR bf (n:=13) AN;have X:=O.oM d_ (oJ _) (n:=14) AN
 have h4:aB U Y.bs.length false 15 (.agg [cd,sd])=some (Au code aN).d:=by
  show(cE (aB U Y.bs.length false 14) [cd,sd]).map D.agg=_;simp only[cE,h1,X,Option.map_some];rfl
 have h3:aB U Y.bs.length false 16 (qP [.agg [cd,sd],.int W 0,.int W 0])=some (po ⟨code,aN,0,0⟩):=by
  show(cE (aB U Y.bs.length false 15) [.agg [cd,sd],.int W 0,.int W 0]).map D.tup=_;simp only[cE,h4];rfl
 exact ah.ret ⟨rx,_,O.gY rfl kS rfl rfl rfl,rl aP O h3⟩
def vt {l:List aQ} (hv:∀n∈l,ki n) (hl:l.length<=1048576):Ev pv 23 [jO l] Y (jO (bO l)) Y:=
 QX rfl ⟨by have h:=(iq hv).ref;simp only[refs,h];rfl,K.EA (iq hv) hv hl⟩
end Go.Proofs.YtappgjdiplibbaaGreat.Z
namespace Go.Proofs.YtappgjdiplibbaaGreat
open Go.V Go
def Np (gs:List (Nat×Nat)) (af:PR (List Rg)) (s s':gj) (a:List Rg):Prop:=
 s'.g=s.g/\s.i<=s'.i/\s'.i<=gs.length+1/\a.length<=10000/\(fH af s'.e\/s'.e=0/\s.i<s'.i/\s'.i<=gs.length/\af=.ok a s'.i)
variable{N k f:Nat}{S Y:St}{H:List aX}{gs:List (Nat×Nat)}{cj:List Int}{rD aD:D}{s:gj}
def Cn (bK:uF gs cj) (he:s.e=0) (hf:s.i=f+1) (hi:s.i<=gs.length) (v:Int) (O:Has N S Y (.box k (zm 0 false (bw rD aD s))::.ai rD 1 ((gs.map bT).map aI)::.ai aD 1 (cj.map av)::H)):
  ∃d R,Ev pv 149 [yv k 0 0,.int W v] Y d R/\∃(a:List Rg) (s':gj),d=az a/\Np gs (tm gs f) s s' a/\Has N S R (.box k (zm 0 false (bw rD aD s'))::.ai rD 1 ((gs.map bT).map aI)::.ai aD 1 (cj.map av)::H):=by
 have nS:=bK.gl;have hal:=bK.al;have br:=O;refine zO Xp λS2 bj O=>?_
 have hcv:tm gs f=match iU gs f (gs.length+1) (if cy gs s.i 94=true then s.i+1 else s.i) [] true with
  | .er e w=>.er e w
  | .ok l k=>.ok (if cy gs s.i 94=true then kY l else bB l) (k+1):=by
  unfold tm;rw[<-hf,show f+2=s.i+1 by omega]
  cases iU gs f (gs.length+1) (if cy gs s.i 94=true then s.i+1 else s.i) [] true with
  |er e w=>rfl
  |ok l k=>simp[Iz]
 obtain⟨C0,BG⟩:∃C0,iU gs f (gs.length+1) (if cy gs s.i 94=true then s.i+1 else s.i) [] true=C0:=⟨_,rfl⟩
 rw[BG] at hcv;refine G 10 ?_;refine ah.ir (λI U=>∃(nt:Bool) (s1:gj) (tmp:List (Nat×D)),I=⟨11,[yv k 0 0,.int W v,ay I 2,ay I 3,ay I 4,wt nt,ay I 6,ay I 7,ay I 8,ay I 9,ay I 10],tmp⟩/\Has N S2 U (.box k (zm 0 false (bw rD aD s1))::.ai rD 1 ((gs.map bT).map aI)::.ai aD 1 (cj.map av)::H)/\(s1.g=s.g)/\(s1.e=0)/\(s1.i=if nt=true then s.i+1 else s.i)/\(nt=cy gs s.i 94)/\(s1.i<=gs.length)) ?_ ?_
 .refine G 2 ?_;obtain⟨_,U,aK,rfl,O⟩:=b9 (s:=s) GB GB 94 AN AN O;refine M 2 ?_
  cases F:cy gs s.i 94 with
  |true=>
   have hlt:=dR F;refine M 15 λU O=>?_;exact⟨true,{s with i:=s.i+1},_,rfl,O,rfl,he,rfl,rfl,by show s.i+1<=_;omega⟩
  |false=>
   refine G 2 ?_;exact⟨false,s,_,rfl,O,rfl,he,rfl,rfl,hi⟩
 rintro I U ⟨nt,s1,tmp,hfr,O,h1,X,h3,h4,h5⟩;refine zK λee=>?_;rw[<-h4] at hcv BG;rw[<-h3] at BG;refine G 8 ?_
 have O:Has N S2 U (.box k (zm 0 false (bw rD aD s1))::.ai rD 1 ((gs.map bT).map aI)::.ai aD 1 (cj.map av)::.ai .nul 2 (([]:List Rg).map ak)::H):=((O.cY 2).front d_|>.front d_|>.front d_)
 refine qq<|ah.merge (λI U=>∃(s2:gj) (ld:D) (lr:List Rg) (an:Bool) (tmp:List (Nat×D)),I=⟨11,[yv k 0 0,.int W v,ay I 2,ay I 3,ay I 4,wt nt,ld,wt an,ay I 8,ay I 9,ay I 10],tmp⟩/\Has N S2 U (.box k (zm 0 false (bw rD aD s2))::.ai rD 1 ((gs.map bT).map aI)::.ai aD 1 (cj.map av)::.ai ld 2 (lr.map ak)::H)/\(s2.g=s.g)/\(s.i<=s2.i)/\(s2.i<=gs.length)/\(lr.length<=600)/\(fH C0 s2.e\/(s2.e=0/\an=true/\cy gs s2.i 93=true/\C0=.ok lr s2.i)\/(s2.e=0/\(an=false\/cy gs s2.i 93=false)/\∃w,C0=.er 4 w))) ?_ ?_
 .refine G 1 ?_;refine ah.loop (λmm I U=>∃(s2:gj) (ld:D) (lr:List Rg) (an:Bool),I.clean=fL I 11 [(0,yv k 0 0),(0,.int W v),(3,wt nt),(0,ld),(0,wt an)]/\Has N S2 U (.box k (zm 0 false (bw rD aD s2))::.ai rD 1 ((gs.map bT).map aI)::.ai aD 1 (cj.map av)::.ai ld 2 (lr.map ak)::H)/\(s2.g=s.g)/\(s.i<=s2.i)/\(s2.i<=gs.length)/\(lr.length<=4*s2.i+4)/\(s2.e=0->lr.length<=4*s2.i)/\(gs.length-s2.i+(if s2.e=0 then 1 else 0)<=mm)/\(fH C0 s2.e\/s2.e=0/\∃n,gs.length<n+s2.i/\C0=iU gs f n s2.i lr (!an))) (gs.length+1) ?_ ?_;·exact⟨s1,.nul,[],false,rfl,O,h1,by rw[h3];split<;>omega,h5,by simp,λ_=>by simp,by split<;>omega,.inr ⟨X,gs.length+1,by omega,BG.symm⟩⟩
  rintro mm I U ⟨s2,ld,lr,an,hfr,O,k1,k2,k3,k4,k5,sC,k7⟩;rw[hfr];(try dsimp only[fL,fG,η]);clear hfr;generalize ay I=ee;clear I
  rcases k7 with k7|⟨he1,n,sB,dZ⟩
  .have iF:(s2.e==0)=false:=by simpa using k7.1
   refine G 28 ?_;exact⟨s2,ld,lr,an,_,rfl,O,k1,k2,k3,by omega,.inl k7⟩
  rw[if_pos he1] at sC;have k5:=k5 he1;have iF:(s2.e==0)=true:=by simpa using he1
  obtain⟨n,rfl⟩:∃m,n=m+1:=⟨n-1,by omega⟩
  unfold iU at dZ
  by_cases hlt:s2.i<gs.length
  .have aL:decide ((s2.i:Int)<(gs.length:Int))=true:=by rw[decide_eq_true_eq];omega
   refine M 22 ?_;obtain⟨_,U,aK,rfl,O⟩:=b9 (s:=s2) GB GB 93 AN AN O;refine M 4 ?_
   cases F:cy gs s2.i 93 with
   |true=>
    rw[F,if_pos rfl] at dZ;refine G 2 ?_
    cases an with
    |true=>
     exact⟨s2,ld,lr,true,_,rfl,O,k1,k2,k3,by omega,.inr (.inl ⟨he1,rfl,F,dZ⟩)⟩
    |false=>
     exact⟨s2,ld,lr,false,_,rfl,O,k1,k2,k3,by omega,.inr (.inr ⟨he1,.inl rfl,f,dZ⟩)⟩
   |false=>
    rw[F,if_neg (by simp),if_neg GB] at dZ;refine G 7 ?_;have rR:gA gs s2.i=gA gs s2.i:=rfl
    conv at rR=>rhs;unfold gA
    refine G 3 ?_;obtain⟨_,U,aK,a,at_,s3,rfl,⟨i1,i2,i3,i4,i5⟩,O⟩:=vI (s:=s2) bK he1 hlt F O;have BB:=(dU a).arg N S2;have Hi:=pJ a;refine M 7 ?_
    have hbad:∀e w,gA gs s2.i=.er e w->e≠0->fH C0 e:=λe w h h0=>⟨h0,w,by rw[dZ,h]⟩
    rcases i5 with i5|⟨i5,i6⟩|⟨i5,i6,i7,i8⟩
    .obtain⟨e0,w,hw⟩:=i5;rw[hw] at rR;have hE:=hbad _ _ rR e0;have iF:(s3.e !=0)=true:=by simpa using e0
     refine G 19 ?_;refine u.oK (s:=2) O rfl Pd Pd (by exact d_) (by exact Arg.rows so O) rfl rfl rfl rfl rfl rfl rfl ⟨(γ rfl),(γ rfl)⟩ (λ_=>(ae rfl _)) (by simp<;>omega) (by exact .inr so) (λNJ U O=>?_);dsimp[u2,u1,u3,u4,setMany,u5,u6,ν,η,bw,aI,av,ak] at O;refine G 3 ?_;exact⟨mm-1,by omega,s3,NJ,lr++a,true,rfl,(by rw[ι];exact O),by omega,by omega,i3,by rw[δ];omega,λe=>absurd e e0,by rw[if_neg e0];omega,.inl hE⟩
    .rw[i6] at rR;have e0:s3.e≠0:=by omega
     have hE:=hbad _ _ rR AN;have iF:(s3.e !=0)=true:=by simpa using e0
     refine G 19 ?_;refine u.oK (s:=2) O rfl Pd Pd (by exact d_) (by exact Arg.rows so O) rfl rfl rfl rfl rfl rfl rfl ⟨(γ rfl),(γ rfl)⟩ (λ_=>(ae rfl _)) (by simp<;>omega) (by exact .inr so) (λNJ U O=>?_);dsimp[u2,u1,u3,u4,setMany,u5,u6,ν,η,bw,aI,av,ak] at O;refine G 3 ?_;exact⟨mm-1,by omega,s3,NJ,lr++a,true,rfl,(by rw[ι];exact O),by omega,by omega,i3,by rw[δ];omega,λe=>absurd e e0,by rw[if_neg e0];omega,.inl (by rw[i5];exact hE)⟩
    rw[i8] at rR;simp only at rR;have iF:(s3.e !=0)=false:=by simpa using i5
    refine G 10 ?_;obtain⟨_,U,aK,rfl,O⟩:=b9 (s:=s3) GB GB 45 AN AN O;refine M 4 ?_
    cases hb2:cy gs s3.i 45 with
    |false=>
     rw[hb2,if_neg (by simp)] at rR;rw[rR] at dZ;simp only at dZ;refine G 5 ?_;refine u.oK (s:=2) O rfl Pd Pd (by exact d_) (by exact Arg.rows so O) rfl rfl rfl rfl rfl rfl rfl ⟨(γ rfl),(γ rfl)⟩ (λ_=>(ae rfl _)) (by simp<;>omega) (by exact .inr so) (λNJ U O=>?_);dsimp[u2,u1,u3,u4,setMany,u5,u6,ν,η,bw,aI,av,ak] at O;refine G 3 ?_;exact⟨mm-1,by omega,s3,NJ,lr++a,true,rfl,(by rw[ι];exact O),by omega,by omega,i3,by rw[δ];omega,λe=>by rw[δ];omega,by rw[if_pos i5];omega,.inr ⟨i5,n,by omega,dZ⟩⟩
    |true=>
     have aaG:=dR hb2;rw[hb2,if_pos rfl] at rR;obtain⟨q,a',rfl⟩:∃q a',a=q::a':=π i7;refine M 13 λU O=>?_;have O:Has N S2 U (.box k (zm 0 false (bw rD aD {s3 with i:=s3.i+1}))::.ai rD 1 ((gs.map bT).map aI)::.ai aD 1 (cj.map av)::.ai ld 2 (lr.map ak)::H):=O
     obtain⟨s4,hs4⟩:∃s4:gj,({s3 with i:=s3.i+1}:gj)=s4:=⟨_,rfl⟩
     have J:s4.g=s.g/\s4.e=0/\s4.i=s3.i+1:=by rw[<-hs4];exact⟨by show s3.g=s.g;omega,i5,rfl⟩
     rw[hs4] at O;clear hs4;obtain⟨q1,q2,q3⟩:=J;rw[<-q3] at rR
     have ko:∀U:St,gA gs s2.i=.er 4 s2.i->Has N S2 U (.box k (zm 0 false (bw rD aD s4))::.ai rD 1 ((gs.map bT).map aI)::.ai aD 1 (cj.map av)::.ai ld 2 (lr.map ak)::H)->∃d R,Ev pv 54 [yv k 0 0,.int W 4,.int W at_] U d R/\d=.tup []/\∃s5:gj,s5.g=s.g/\s.i<=s5.i/\s5.i<=gs.length/\fH C0 s5.e/\Has N S2 R (.box k (zm 0 false (bw rD aD s5))::.ai rD 1 ((gs.map bT).map aI)::.ai aD 1 (cj.map av)::.ai ld 2 (lr.map ak)::H):=by
      intro U h O;obtain⟨d,R,aK,h6,O⟩:=bJ (s:=s4) 4 at_ O;have h7:=jJ s4 4 at_;exact⟨d,R,aK,h6,_,by omega,by omega,by omega,by rw[eo q2];exact hbad _ _ h AN,O⟩
     by_cases O9:s4.i<gs.length
     .rw[if_pos O9] at rR;have dw:decide ((s4.i:Int)>=(gs.length:Int))=false:=by rw[decide_eq_false_iff_not];omega
      obtain⟨g4,Ma⟩:∃g,gs[s4.i]?=some g:=⟨gs[s4.i]'O9,ζ _⟩
      have Hk:∀r:Int,(r=91\/r=93\/r=45)->cy gs s4.i r=true->gA gs s2.i=.er 4 s2.i:=by
       intro r hr hs
       have B:fR gs s4.i=.ok none s4.i\/∃w,fR gs s4.i=.er 4 w:=by
        unfold cy at hs;rw[Ma] at hs;simp at hs;unfold fR;rw[Ma];simp only
        split;·exact .inr ⟨_,rfl⟩
        rw[if_neg GB,if_pos GB];exact .inl rfl
       rcases B with B|⟨w,B⟩
       .rw[B] at rR;exact rR
       exfalso
       unfold cy at hs;rw[Ma] at hs;simp at hs;unfold fR at B;rw[Ma] at B;simp only at B;rw[if_neg (by unfold Bs;rw[Ma];simp only[Bool.and_eq_true,beq_iff_eq];omega),if_neg GB,if_pos GB] at B;cases B
      cases bL:cy gs s4.i 93 with
      |true=>
       refine M 15 ?_;obtain⟨_,U,aK,rfl,O⟩:=b9 (s:=s4) GB GB 93 AN AN O;refine M 16 ?_;obtain⟨_,U,aK,rfl,s5,z1,z2,z3,z4,O⟩:=ko _ (Hk 93 GB bL) O;refine M 3 ?_;exact⟨s5,ld,lr,true,_,rfl,O,z1,z2,z3,by omega,.inl z4⟩
      |false=>
       cases xG:cy gs s4.i 91 with
       |true=>
        refine M 15 ?_;obtain⟨_,U,aK,rfl,O⟩:=b9 (s:=s4) GB GB 93 AN AN O;refine M 4 ?_;obtain⟨_,U,aK,rfl,O⟩:=b9 (s:=s4) GB GB 91 AN AN O;refine M 12 ?_;obtain⟨_,U,aK,rfl,s5,z1,z2,z3,z4,O⟩:=ko _ (Hk 91 GB xG) O;refine M 3 ?_;exact⟨s5,ld,lr,true,_,rfl,O,z1,z2,z3,by omega,.inl z4⟩
       |false=>
        refine M 15 ?_;obtain⟨_,U,aK,rfl,O⟩:=b9 (s:=s4) GB GB 93 AN AN O;refine M 4 ?_;obtain⟨_,U,aK,rfl,O⟩:=b9 (s:=s4) GB GB 91 AN AN O;refine M 4 ?_;obtain⟨_,U,aK,rfl,O⟩:=b9 (s:=s4) GB GB 45 AN AN O;refine M 3 ?_
        cases abg:cy gs s4.i 45 with
        |true=>
         refine G 5 ?_;obtain⟨_,U,aK,rfl,s5,z1,z2,z3,z4,O⟩:=ko _ (Hk 45 GB abg) O;refine M 3 ?_;exact⟨s5,ld,lr,true,_,rfl,O,z1,z2,z3,by omega,.inl z4⟩
        |false=>
         refine G 5 ?_;obtain⟨_,U,aK,b,aes,s5,rfl,⟨j1,j2,j3,j4,j5⟩,O⟩:=vI (s:=s4) bK q2 O9 bL O;have RV:=(dU b).arg N S2;have Vz:=pJ b;refine M 7 ?_;have hgo:∀e w,fR gs s4.i=.er e w->gA gs s2.i=.er e w:=λe w h=>by rw[h] at rR;exact rR
         have mb:fR gs s4.i=.ok none s4.i->gA gs s2.i=.er 4 s2.i:=λh=>by rw[h] at rR;exact rR
         have y0:fH C0 s5.e\/s5.e=0/\s4.i<s5.i/\b≠[]/\fR gs s4.i=.ok (some (b,gG b)) s5.i:=by
          rcases j5 with⟨e0,w,hw⟩|⟨e0,hw⟩|h
          .exact .inl (hbad _ _ (hgo _ _ hw) e0)
          .exact .inl (by rw[e0];exact hbad _ _ (mb hw) AN)
          exact .inr h
         clear j5 hgo mb Hk
         rcases y0 with hE|⟨y1,y2,y3,y4⟩
         .have iF:(s5.e==0)=false:=by simpa using hE.1
          refine G 40 ?_;refine vY ?_;refine G 1 ?_;exact⟨mm-1,by omega,s5,ld,lr,true,rfl,O,by omega,by omega,j3,by omega,λe=>absurd e hE.1,by rw[if_neg hE.1];omega,.inl hE⟩
         obtain⟨p,b',rfl⟩:∃q a',b=q::a':=π y3;rw[y4] at rR;have rR:gA gs s2.i=if gG (q::a')=true/\gG (p::b')=true/\q.1<=p.1 then .ok [(q.1,p.1)] s5.i else .er 4 s2.i:=rR;have OY:((q::a').map ak)[0]?=some (ak q):=rfl;have dO:((p::b').map ak)[0]?=some (ak p):=rfl;have iF:(s5.e==0)=true:=by simpa using y1
         have hla:(q::a').length<=1048576:=by omega
         have hlb:(p::b').length<=1048576:=by omega
         generalize hsa:gG (q::a')=sa at*;generalize hsb:gG (p::b')=sb at*;have hca:∀U,Ev pv 168 [az (q::a')] U (wt sa) U:=λU=>by rw[<-hsa];exact rb (bC _ _) hla
         have hcb:∀U,Ev pv 168 [az (p::b')] U (wt sb) U:=λU=>by rw[<-hsb];exact rb (bC _ _) hlb
         refine G 2 ?_;refine ah.dM 123 (wt ((!sa||!sb)||decide (q.1>p.1))) [] ?_ (λff tmp bp=>?_)
         .refine M (t:=(hca _)) 10 ?_;refine u.two 107 rfl (λb6=>?_) (λb6=>?_);·refine M 16 ?_;exact vV
          refine M (t:=(hcb _)) 5 ?_;refine u.two 112 rfl (λbL=>?_) (λbL=>?_);·refine M 11 ?_;exact vV
          refine M 11 λadp ac4 ZG VV ZF VU ZE VT=>?_;exact vV
         refine zG ?_
         by_cases Dr:sa=true/\sb=true/\q.1<=p.1
         .rw[if_pos Dr] at rR;rw[rR] at dZ;simp only at dZ
          have c_:((!sa||!sb)||decide (q.1>p.1))=false:=by
           rw[Dr.1,Dr.2.1,decide_eq_false GB];rfl
          refine M 10 ?_;refine vX ?_;refine M 15 λadi acX ZD VQ adg acV ZC VP k142 U adb O Zf U O=>?_;refine⟨mm-1,by omega,⟨s5,Zf,lr++[(q.1,p.1)],true,rfl,?_,by omega,by omega,j3,by simp;omega,λe=>by simp;omega,by rw[if_pos y1];omega,.inr ⟨y1,n,by omega,dZ⟩⟩⟩;have O:=O.drop 1;rw[ι];exact O
         rw[if_neg Dr] at rR
         have c_:((!sa||!sb)||decide (q.1>p.1))=true:=by
          cases sa<;>cases sb<;>simp at Dr|-
          omega
         refine M 5 ?_;obtain⟨_,U,aK,rfl,O⟩:=bJ (s:=s5) 4 at_ O;refine M 3 ?_;have h7:=jJ s5 4 at_;exact⟨_,ld,lr,true,_,rfl,O,by omega,by omega,by omega,by omega,.inl (by rw[eo y1];exact hbad _ _ rR AN)⟩
     rw[if_neg O9] at rR;have dw:decide ((s4.i:Int)>=(gs.length:Int))=true:=by rw[decide_eq_true_eq];omega
     refine M 31 ?_;obtain⟨_,U,aK,rfl,s5,z1,z2,z3,z4,O⟩:=ko _ rR O;refine M 3 ?_;exact⟨s5,ld,lr,true,_,rfl,O,z1,z2,z3,by omega,.inl z4⟩
  have aL:decide ((s2.i:Int)<(gs.length:Int))=false:=by rw[decide_eq_false_iff_not];omega
  have F:cy gs s2.i 93=false:=by
   cases h:cy gs s2.i 93 with
   |true=>exact absurd (dR h) hlt
   |false=>rfl
  rw[F,if_neg (by simp),if_pos GB] at dZ;refine M 28 ?_;exact⟨s2,ld,lr,an,_,rfl,O,k1,k2,k3,by omega,.inr (.inr ⟨he1,.inr F,f,dZ⟩)⟩
 rintro I U ⟨s2,ld,lr,an,tmp,hfr,O,x1,x2,x3,x4,xR⟩;refine zK λee=>?_;refine G 2 ?_;refine ah.ir (λI U=>∃(s3:gj) (tmp:List (Nat×D)),I=⟨11,[yv k 0 0,ay I 1,ay I 2,ay I 3,ay I 4,wt nt,ld,ay I 7,ay I 8,ay I 9,ay I 10],tmp⟩/\Has N S2 U (.box k (zm 0 false (bw rD aD s3))::.ai rD 1 ((gs.map bT).map aI)::.ai aD 1 (cj.map av)::.ai ld 2 (lr.map ak)::H)/\(s3.g=s.g)/\(s3.i=s2.i)/\(fH C0 s3.e\/s3.e=0/\C0=.ok lr s3.i/\s3.i<gs.length)) ?_ ?_
 .rcases xR with xR|⟨e0,rfl,F,hC⟩|⟨e0,hw,w,hC⟩
  .have iF:(s2.e==0)=false:=by simpa using xR.1
   refine G 18 ?_;exact⟨s2,_,rfl,O,x1,rfl,.inl xR⟩
  .have iF:(s2.e==0)=true:=by simpa using e0
   have eO:(!true)=false:=rfl;have hlt:=dR F;refine G 11 ?_;obtain⟨_,U,aK,rfl,O⟩:=b9 (s:=s2) GB GB 93 AN AN O;refine M 5 ?_;refine vY ?_;refine G 1 ?_;exact⟨s2,_,rfl,O,x1,rfl,.inr ⟨e0,hC,hlt⟩⟩
  have iF:(s2.e==0)=true:=by simpa using e0
  have h7:=jJ s2 4 v
  cases an with
  |false=>
   have eO:(!false)=true:=rfl;refine M 20 ?_;obtain⟨_,U,aK,rfl,O⟩:=bJ (s:=s2) 4 v O;refine M 2 ?_;exact⟨_,_,rfl,O,by omega,h7.1,.inl ⟨by rw[eo e0];decide,w,by rw[eo e0];exact hC⟩⟩
  |true=>
   have F:cy gs s2.i 93=false:=hw.resolve_left (by simp);have eO:(!true)=false:=rfl;refine G 11 ?_;obtain⟨_,U,aK,rfl,O⟩:=b9 (s:=s2) GB GB 93 AN AN O;refine M 5 ?_;refine vX ?_;refine G 3 ?_;obtain⟨_,U,aK,rfl,O⟩:=bJ (s:=s2) 4 v O;refine M 2 ?_;exact⟨_,_,rfl,O,by omega,h7.1,.inl ⟨by rw[eo e0];decide,w,by rw[eo e0];exact hC⟩⟩
 rintro I U ⟨s3,tmp,hfr,O,y1,y2,yR⟩;refine zK λee=>?_;refine M 11 λU O=>?_;have O:Has N S2 U (.box k (zm 0 false (bw rD aD {s3 with i:=s3.i+1}))::.ai rD 1 ((gs.map bT).map aI)::.ai aD 1 (cj.map av)::.ai ld 2 (lr.map ak)::H):=O;have sB:(kY lr).length<=4*lr.length+2:=(uT (Y:=Y) ((dU lr).rows Y) GB).2;have dZ:(bB lr).length<=2*lr.length:=(o_ (Y:=Y) ((dU lr).rows Y) GB).2.1
 have dC:∀a:List Rg,a=(if nt=true then kY lr else bB lr)->Np gs (tm gs f) s {s3 with i:=s3.i+1} a:=by
  intro a ha;refine⟨y1,by show s.i<=s3.i+1;omega,by show s3.i+1<=_;omega,by rw[ha];split<;>omega,?_⟩
  rcases yR with yR|⟨e0,hC,hlt⟩
  .exact .inl (yR.map λe w h=>by rw[hcv,h])
  exact .inr ⟨e0,by show s.i<s3.i+1;omega,by show s3.i+1<=_;omega,by rw[hcv,hC,ha]⟩
 refine G 5 ?_
 cases nt with
 |true=>
  refine G 4 ?_;have aK:=yr (l:=lr) (O.rows d_) GB;refine M 4 ?_;exact⟨_,_,rfl,dC _ rfl,br.ag bj (O.erase 3)⟩
 |false=>
  refine G 5 ?_;have aK:=kH (l:=lr) (O.rows d_) GB;refine M 4 ?_;exact⟨_,_,rfl,dC _ rfl,br.ag bj (O.erase 3)⟩
def Nk (gs:List (Nat×Nat)) (af:PR (Int×Int)) (s s':gj) (n1 n2:Int):Prop:=
 s'.g=s.g/\s.i<s'.i/\s'.i<=gs.length+1/\(fH af s'.e\/s'.e=0/\s'.i<=gs.length/\af=.ok (n1,n2) s'.i)
def Ap (bK:uF gs cj) (he:s.e=0) (hi:s.i<gs.length) (O:Has N S Y (.box k (zm 0 false (bw rD aD s))::.ai rD 1 ((gs.map bT).map aI)::.ai aD 1 (cj.map av)::H)):
  ∃d R,Ev pv 128 [yv k 0 0] Y d R/\∃(n1 n2:Int) (s':gj),d=.tup [.int W n1,.int W n2]/\Nk gs (pU gs s.i) s s' n1 n2/\Has N S R (.box k (zm 0 false (bw rD aD s'))::.ai rD 1 ((gs.map bT).map aI)::.ai aD 1 (cj.map av)::H):=by
 have nS:=bK.gl;have hal:=bK.al;have br:=O;refine zO XG λS2 bj O=>?_;refine G 8 ?_;obtain⟨_,U,aK,⟨v,rfl⟩,O⟩:=jW (s:=s) GB O;refine M 14 λU O=>?_;have O:Has N S2 U (.box k (zm 0 false (bw rD aD {s with i:=s.i+1}))::.ai rD 1 ((gs.map bT).map aI)::.ai aD 1 (cj.map av)::H):=O;have hall:=yD gs s.i
 obtain⟨af,hR⟩:∃af,pU gs s.i=af:=⟨_,rfl⟩
 rw[hR] at hall|-;clear hR
 obtain⟨hk,hA⟩:∃hk,digS (ft gs (s.i+1)) []=hk:=⟨_,rfl⟩
 refine G 3 ?_;obtain⟨_,U,aK,rfl,mG,Qx,O⟩:=rf (s:={s with i:=s.i+1}) bK (by show s.i+1<=_;omega) O;dsimp only at aK mG Qx O;rw[hA] at aK mG Qx O;refine M 7 ?_;rw[hA] at hall;obtain⟨m,a2⟩:=hk;clear hA;dsimp only at hall mG Qx O
 obtain⟨s1,xn⟩:∃s1:gj,({s with i:=s.i+1+a2}:gj)=s1:=⟨_,rfl⟩
 have RR:s1.e=0/\s1.g=s.g/\s1.i=s.i+1+a2:=by rw[<-xn];exact⟨he,rfl,rfl⟩
 have O:Has N S2 U (.box k (zm 0 false (bw rD aD s1))::.ai rD 1 ((gs.map bT).map aI)::.ai aD 1 (cj.map av)::H):=by rw[<-xn];exact O
 clear xn;obtain⟨f1,f2,f3⟩:=RR;rw[<-f3] at hall
 obtain⟨ok,A0⟩:∃ok,decide (0<a2)=ok:=⟨_,rfl⟩
 rw[A0] at hall|-;refine G 8 ?_;refine ah.ir (λI U=>∃(n:List UInt8) (en:Bool) (s3:gj) (tmp:List (Nat×D)),I=⟨15,[yv k 0 0,ay I 1,ay I 2,ay I 3,.int W v,.str m,wt ok,.str n,wt en,ay I 9,ay I 10,ay I 11,ay I 12,ay I 13,ay I 14],tmp⟩/\Has N S2 U (.box k (zm 0 false (bw rD aD s3))::.ai rD 1 ((gs.map bT).map aI)::.ai aD 1 (cj.map av)::H)/\(s3.e=0)/\(s3.g=s.g)/\(s.i<s3.i)/\(s3.i<=gs.length)/\(n.length<=120)/\(af=pQ gs s.i m n ok en s3.i)) ?_ ?_
 .cases ok with
  |false=>
   have WT:a2=0:=by have:=of_decide_eq_false A0;omega
   have tZ:false=false:=rfl;refine G 9 ?_;exact⟨m,false,s1,_,rfl,O,f1,f2,by omega,by omega,mG,by rw[hall,if_neg (λh=>h.1 WT)]⟩
  |true=>
   have WT:0<a2:=of_decide_eq_true A0;have tZ:true=true:=rfl;refine G 4 ?_;obtain⟨_,U,aK,rfl,O⟩:=b9 (s:=s1) GB GB 44 AN AN O;refine M 3 ?_
   cases F:cy gs s1.i 44 with
   |false=>
    refine G 2 ?_;exact⟨m,false,s1,_,rfl,O,f1,f2,by omega,by omega,mG,by rw[hall,if_neg (λh=>by rw[F] at h;exact absurd h.2 (by simp))]⟩
   |true=>
    have hlt:=dR F;refine M 12 λU O=>?_;have O:Has N S2 U (.box k (zm 0 false (bw rD aD {s1 with i:=s1.i+1}))::.ai rD 1 ((gs.map bT).map aI)::.ai aD 1 (cj.map av)::H):=O
    obtain⟨hp,hB⟩:∃hp,digS (ft gs (s1.i+1)) []=hp:=⟨_,rfl⟩
    rw[hB] at hall;refine G 3 ?_;obtain⟨_,U,aK,rfl,A3,hni,O⟩:=rf (s:={s1 with i:=s1.i+1}) bK (by show s1.i+1<=_;omega) O;dsimp only at aK A3 hni O;rw[hB] at aK A3 hni O;refine M 7 ?_;clear hB;obtain⟨n,b2⟩:=hp;dsimp only at hall A3 hni O;refine G 7 ?_;exact⟨n,!decide (0<b2),{s1 with i:=s1.i+1+b2},_,rfl,O,f1,f2,by show s.i<s1.i+1+b2;omega,hni,A3,by rw[hall,if_pos ⟨by omega,F⟩]⟩
 rintro I U ⟨n,en,s3,tmp,hfr,O,h1,X,h3,h4,h5,hG⟩;refine zK λee=>?_;clear hall A0;unfold pQ at hG;have h7:=jJ s3 4 v;refine G 2 ?_;refine ah.ir (λI U=>∃(s4:gj) (tmp:List (Nat×D)),I=⟨15,[yv k 0 0,ay I 1,ay I 2,ay I 3,.int W v,.str m,ay I 6,.str n,wt en,ay I 9,ay I 10,ay I 11,ay I 12,ay I 13,ay I 14],tmp⟩/\Has N S2 U (.box k (zm 0 false (bw rD aD s4))::.ai rD 1 ((gs.map bT).map aI)::.ai aD 1 (cj.map av)::H)/\(s4.g=s.g)/\(s4.i=s3.i)/\(fH af s4.e\/s4.e=0/\s3.i<gs.length/\af=(if(fg m).2=true/\(fg (if en=true then[] else n)).2=true then .ok ((fg m).1,if en=true then-1 else(fg n).1) (s3.i+1) else .er 2 s.i))) ?_ ?_
 .have ko:af=.er 4 s.i->fH af (iy s3 4 v).e:=λh=>⟨by rw[eo h1];decide,s.i,by rw[eo h1];exact h⟩
  cases ok with
  |false=>
   rw[if_pos rfl] at hG;have ba:(!false)=true:=rfl;have Mb:true=true:=rfl;refine G 22 ?_;obtain⟨_,U,aK,rfl,O⟩:=bJ (s:=s3) 4 v O;refine M 2 ?_;exact⟨_,_,rfl,O,by omega,h7.1,.inl (ko hG)⟩
  |true=>
   rw[if_neg (by simp)] at hG;have ba:(!true)=false:=rfl
   cases Mb:(!cy gs s3.i 125) with
   |true=>
    rw[if_pos (by simpa using Mb)] at hG;refine G 5 ?_;obtain⟨_,U,aK,rfl,O⟩:=b9 (s:=s3) GB GB 125 AN AN O;refine M 17 ?_;obtain⟨_,U,aK,rfl,O⟩:=bJ (s:=s3) 4 v O;refine M 2 ?_;exact⟨_,_,rfl,O,by omega,h7.1,.inl (ko hG)⟩
   |false=>
    have Wt:cy gs s3.i 125=true:=by simpa using Mb
    have hlt:=dR Wt;rw[if_neg (by rw[Wt];simp)] at hG
    cases en with
    |true=>
     rw[if_neg (λh=>absurd h.1 (by simp))] at hG;have dw:(!true)=false:=rfl;refine G 5 ?_;obtain⟨_,U,aK,rfl,O⟩:=b9 (s:=s3) GB GB 125 AN AN O;refine M 15 ?_;exact⟨s3,_,rfl,O,X,rfl,.inr ⟨h1,hlt,hG⟩⟩
    |false=>
     have dw:(!false)=true:=rfl;have hle:=λU=>Co (Y:=U) n m;generalize nP n m=vb at*;refine G 5 ?_;obtain⟨_,U,aK,rfl,O⟩:=b9 (s:=s3) GB GB 125 AN AN O;refine M (t:=((hle _))) 13 ?_
     cases vb with
     |true=>
      rw[if_pos ⟨rfl,rfl⟩] at hG;refine G 4 ?_;obtain⟨_,U,aK,rfl,O⟩:=bJ (s:=s3) 4 v O;refine M 2 ?_;exact⟨_,_,rfl,O,by omega,h7.1,.inl (ko hG)⟩
     |false=>
      rw[if_neg (λh=>absurd h.2 (by simp))] at hG;refine G 2 ?_;exact⟨s3,_,rfl,O,X,rfl,.inr ⟨h1,hlt,hG⟩⟩
 rintro I U ⟨s4,tmp,hfr,O,y1,y2,yR⟩;refine zK λee=>?_;clear hG;refine M 11 λU O=>?_;have O:Has N S2 U (.box k (zm 0 false (bw rD aD {s4 with i:=s4.i+1}))::.ai rD 1 ((gs.map bT).map aI)::.ai aD 1 (cj.map av)::H):=O
 obtain⟨s5,RP⟩:∃s5:gj,({s4 with i:=s4.i+1}:gj)=s5:=⟨_,rfl⟩
 have RO:s5.g=s4.g/\s5.e=s4.e/\s5.i=s4.i+1:=by rw[<-RP];exact⟨rfl,rfl,rfl⟩
 rw[RP] at O;clear RP;obtain⟨z1,z2,z3⟩:=RO;have uV:=λU=>tL (Y:=U) m GB;have uU:=λU=>tL (Y:=U) n GB;have uW:(fg []).2=true:=rfl;have hz7:=jJ s5 2 v
 have QC:∀(n1 n2:Int),af=.er 2 s.i\/fH af s5.e->Nk gs af s (iy s5 2 v) n1 n2:=by
  intro n1 n2 h;refine⟨by omega,by omega,by omega,.inl ?_⟩
  by_cases h0:s5.e=0
  .rw[eo h0]
   rcases h with h|h
   .exact⟨by decide,_,h⟩
   exact absurd h0 h.1
  rw[MA h0]
  rcases yR with yR|yR
  .rw[z2];exact yR
  omega
 have dC:∀(n1 n2:Int),(af=.ok (n1,n2) (s3.i+1)/\s3.i<gs.length\/fH af s5.e)->Nk gs af s s5 n1 n2:=by
  intro n1 n2 h;refine⟨by omega,by omega,by omega,?_⟩
  rcases yR with yR|⟨y3,y4,y5⟩
  .exact .inl (by rw[z2];exact yR)
  rcases h with⟨h,_⟩|h
  .exact .inr ⟨by omega,by omega,by rw[h,z3,y2]⟩
  exact .inl h
 rw[<-z2] at yR;refine M (t:=((uV _))) 13 ?_;refine M (t:=((uU _))) 12 ?_
 cases en with
 |true=>
  simp only[if_true,uW] at yR;generalize fg m=V1 at*;generalize fg n=V2 at*;obtain⟨a1,w1⟩:=V1;obtain⟨b1,w2⟩:=V2;dsimp only at yR;refine G 7 ?_;refine ah.dM 92 (wt (!w1||!true)) [] ?_ (λff tmp bp=>?_)
  .refine G 3 ?_;refine u.two 89 rfl (λba=>?_) (λba=>?_);·refine G 3 ?_;exact vV
   refine G 3 ?_;exact vV
  refine zd ?_;refine qc (λly=>?_) (λly=>?_)<;>try simp only[cs] at ly
  .refine G 3 ?_;obtain⟨_,U,aK,rfl,O⟩:=bJ (s:=s5) 2 v O;refine M 10 ?_;refine⟨_,_,_,rfl,QC _ _ ?_,br.ag bj O⟩
   rcases yR with yR|⟨_,_,yR⟩
   .exact .inr yR
   exact .inl (by rw[yR,if_neg (λh=>by rw[h.1] at ly;simp at ly)])
  refine M 9 ?_;refine⟨_,_,s5,rfl,dC _ _ ?_,br.ag bj O⟩
  rcases yR with yR|⟨_,y4,yR⟩
  .exact .inr yR
  exact .inl ⟨by rw[yR,if_pos ⟨by simpa using ly,trivial⟩],y4⟩
 |false=>
  have hif:∀(a b:Int),(if false=true then a else b)=b:=λa b=>if_neg (by simp);have hil:∀(a b:List UInt8),(if false=true then a else b)=b:=λa b=>if_neg (by simp);rw[hif,hil] at yR;generalize fg m=V1 at*;generalize fg n=V2 at*;obtain⟨a1,w1⟩:=V1;obtain⟨b1,w2⟩:=V2;dsimp only at yR;refine G 4 ?_;refine ah.dM 92 (wt (!w1||!w2)) [] ?_ (λff tmp bp=>?_)
  .refine G 3 ?_;refine u.two 89 rfl (λba=>?_) (λba=>?_);·refine G 3 ?_;exact vV
   refine G 3 ?_;exact vV
  refine zd ?_;refine qc (λly=>?_) (λly=>?_)<;>try simp only[cs] at ly
  .refine G 3 ?_;obtain⟨_,U,aK,rfl,O⟩:=bJ (s:=s5) 2 v O;refine M 10 ?_;refine⟨_,_,_,rfl,QC _ _ ?_,br.ag bj O⟩
   rcases yR with yR|⟨_,_,yR⟩
   .exact .inr yR
   exact .inl (by rw[yR,if_neg (λh=>by rw[h.1,h.2] at ly;simp at ly)])
  refine M 9 ?_;refine⟨_,_,s5,rfl,dC _ _ ?_,br.ag bj O⟩
  rcases yR with yR|⟨_,y4,yR⟩
  .exact .inr yR
  exact .inl ⟨by rw[yR,if_pos (by cases w1<;>cases w2<;>simp at ly|-)],y4⟩
def iA (gs:List (Nat×Nat)) (s:gj) (v:Int):gj:=if s.e=0/\cy gs s.i 41=false then⟨s.i+1,s.g,4,v⟩ else⟨s.i+1,s.g,s.e,s.w⟩
def rj (nS:gs.length<=1048576) (YS:s.i<=1048576) (v:Int) (O:Has N S Y (.box k (zm 0 false (bw rD aD s))::.ai rD 1 ((gs.map bT).map aI)::.ai aD 1 (cj.map av)::H)):
  ∃d R,Ev pv 166 [yv k 0 0,.int W v] Y d R/\d=.tup []/\Has N S R (.box k (zm 0 false (bw rD aD (iA gs s v)))::.ai rD 1 ((gs.map bT).map aI)::.ai aD 1 (cj.map av)::H):=by
 have br:=O;refine zO Xc λS2 bj O=>?_;unfold iA
 by_cases he:s.e=0
 .have iF:(s.e==0)=true:=by simpa using he
  refine G 10 ?_;obtain⟨_,U,aK,rfl,O⟩:=b9 (s:=s) nS YS 41 AN AN O;refine M 4 ?_
  cases F:cy gs s.i 41 with
  |true=>
   rw[if_neg (λh=>by simp at h)];refine G 7 ?_;refine yA (z:=((s.i+1:Nat):Int)) ?_;refine M 4 λU O=>?_;refine⟨λi h=>(by cases h),_,_,_,rfl,aH rfl,?_⟩;exact⟨rfl,br.ag bj O⟩
  |false=>
   rw[if_pos ⟨he,rfl⟩];refine G 4 ?_;obtain⟨_,U,aK,rfl,O⟩:=bJ (s:=s) 4 v O;refine M 2 ?_;unfold iy at O;rw[if_pos he] at O;refine G 5 ?_;refine yA (z:=((s.i+1:Nat):Int)) ?_;refine M 4 λU O=>?_;refine⟨λi h=>(by cases h),_,_,_,rfl,aH rfl,?_⟩;exact⟨rfl,br.ag bj O⟩
 have iF:(s.e==0)=false:=by simpa using he
 rw[if_neg (λh=>he h.1)];refine G 21 ?_;refine yA (z:=((s.i+1:Nat):Int)) ?_;refine M 4 λU O=>?_;refine⟨λi h=>(by cases h),_,_,_,rfl,aH rfl,?_⟩;exact⟨rfl,br.ag bj O⟩
def qJ (gs:List (Nat×Nat)) (m:Nat) (af:PR (List aQ×Nat)) (s s':gj) (d:D) (c:Nat):Prop:=
 s'.g<=4/\s.i<=s'.i/\∃l:List aQ,d=jO l/\(∀n∈l,ki n)/\l.length<=4*(s'.i-s.i)+1/\((fH af s'.e/\s'.i<=gs.length+1+m)\/s'.e=0/\s'.i<=gs.length/\af=.ok (l,s'.g) s'.i/\l.length+c<=4*(s'.i-s.i))
def vd (gs:List (Nat×Nat)) (m:Nat) (af:PR (List aQ×Nat)) (s s':gj) (d:D):Prop:=
 s'.g<=4/\s.i<=s'.i/\∃l:List aQ,d=jO l/\(∀n∈l,ki n)/\l.length<=4*(s'.i-s.i)+1/\((fH af s'.e/\s'.i<=gs.length+1+m)\/(s'.e=0/\s'.i<=gs.length/\af=.ok (l,s'.g) s'.i)\/(m=20/\s'.e=0/\cy gs s'.i 41=true/\∃w,af=.er 4 w))
variable{m:Nat}{af:PR (List aQ×Nat)}
def vR {s':gj} {c:Nat} (X:s'.g<=4) (h3:s.i<=s'.i) (h5:fH af s'.e) (h6:s'.i<=gs.length+1+m):qJ gs m af s s' (.sl []) c:=
 ⟨X,h3,[],rfl,λn hn=>(by cases hn),by simp,.inl ⟨h5,h6⟩⟩
def Gb (hk:PF) (gs:List (Nat×Nat)) (m:Nat):Prop:=∀{N k:Nat} {S Y:St} {H:List aX} {cj:List Int} {rD aD:D} {s:gj} (deep:Nat),uF gs cj->s.e=0->s.i<=gs.length->s.g<=4->deep+m=20->Has N S Y (.box k (zm 0 false (bw rD aD s))::.ai rD 1 ((gs.map bT).map aI)::.ai aD 1 (cj.map av)::H)->
 ∃d R,Ev pv 53 [yv k 0 0,.int W (deep:Nat)] Y d R/\∃(s':gj),vd gs m (hk s.i s.g) s s' d/\Has N S R (.box k (zm 0 false (bw rD aD s'))::.ai rD 1 ((gs.map bT).map aI)::.ai aD 1 (cj.map av)::H)
variable{g:Nat}{hk:PF}
def HH {j g':Nat} {s4:gj} {l:List aQ} {free:Bool} {v:Int} (hm:m≠0) (hR:af=match hk j g' with
    | .er e w=>.er e w
    | .ok (l,g2) j2=>if cy gs j2 41=true then .ok (if free=true then l else fk 6 0 0 false ((g+1:Nat):Int) 1 []::l,g2) (j2+1) else .er 4 f) (h:(fH (hk j g') s4.e/\s4.i<=gs.length+1+(m-1))\/(s4.e=0/\s4.i<=gs.length/\hk j g'=.ok (l,s4.g) s4.i)\/(m-1=20/\s4.e=0/\cy gs s4.i 41=true/\∃w,hk j g'=.er 4 w)) (Fy:m<=20):
  (iA gs s4 v).i=s4.i+1/\(iA gs s4 v).g=s4.g/\((fH af (iA gs s4 v).e/\s4.i+1<=gs.length+1+m)\/((iA gs s4 v).e=0/\s4.i+1<=gs.length/\af=.ok (if free=true then l else fk 6 0 0 false ((g+1:Nat):Int) 1 []::l,s4.g) (s4.i+1))):=by
 have h1:(iA gs s4 v).i=s4.i+1/\(iA gs s4 v).g=s4.g:=by unfold iA;split<;>exact⟨rfl,rfl⟩
 refine⟨h1.1,h1.2,?_⟩
 rcases h with⟨h,X⟩|⟨h,X,h3⟩|⟨h,_⟩
 .refine .inl ⟨?_,by omega⟩;unfold iA;rw[if_neg (λh0=>h.1 h0.1)];exact h.map λe w hw=>by rw[hR,hw]
 .rw[h3] at hR;simp only at hR
  cases F:cy gs s4.i 41 with
  |true=>
   have:=dR F;rw[F,if_pos rfl] at hR;refine .inr ⟨?_,by omega,hR⟩;unfold iA;rw[if_neg (λh0=>by rw[F] at h0;simp at h0)];exact h
  |false=>
   rw[F,if_neg (by simp)] at hR;refine .inl ⟨?_,by omega⟩;unfold iA;rw[if_pos ⟨h,F⟩];exact⟨by show(4:Int)≠0;decide,f,hR⟩
 omega
def Cm (hA:∀m',m'+1=m->Gb hk gs m') (deep:Nat) (bK:uF gs cj) (he:s.e=0) (hf:s.i=f+1) (hi:s.i<=gs.length) (hg:s.g<=4) (Ei:deep+m=20) (v:Int) (O:Has N S Y (.box k (zm 0 false (bw rD aD s))::.ai rD 1 ((gs.map bT).map aI)::.ai aD 1 (cj.map av)::H)):
  ∃d R,Ev pv 147 [yv k 0 0,.int W (deep:Nat),.int W v] Y d R/\∃(s':gj),qJ gs m (qu hk gs m f s.g) s s' d 0/\Has N S R (.box k (zm 0 false (bw rD aD s'))::.ai rD 1 ((gs.map bT).map aI)::.ai aD 1 (cj.map av)::H):=by
 have nS:=bK.gl;have hal:=bK.al;have br:=O;refine zO Xr λS2 bj O=>?_
 obtain⟨af,hR⟩:∃af,qu hk gs m f s.g=af:=⟨_,rfl⟩
 rw[hR];unfold qu at hR;rw[<-hf,show f+2=s.i+1 by omega,show f+3=s.i+2 by omega] at hR
 have hwr:∀(U:St) (e:Int),e≠0->af=.er e f->Has N S2 U (.box k (zm 0 false (bw rD aD s))::.ai rD 1 ((gs.map bT).map aI)::.ai aD 1 (cj.map av)::H)->∃d R,Ev pv 54 [yv k 0 0,.int W e,.int W v] U d R/\d=.tup []/\∃s4,qJ gs m af s s4 (.sl []) 0/\Has N S2 R (.box k (zm 0 false (bw rD aD s4))::.ai rD 1 ((gs.map bT).map aI)::.ai aD 1 (cj.map av)::H):=by
  intro U e h0 hv O;obtain⟨d,R,aK,h6,O⟩:=bJ (s:=s) e v O;have h7:=jJ s e v;exact⟨d,R,aK,h6,_,vR GB GB ⟨by rw[eo he];exact h0,f,by rw[eo he];exact hv⟩ GB,O⟩
 refine qq<|qj λK hK=>qm ?_;refine qe hK<|qq<|qj λK hK=>qm ?_;obtain⟨_,U,aK,rfl,O⟩:=b9 (s:=s) GB GB 63 AN AN O;refine M 2 ?_;refine qe hK ?_
 obtain⟨qt,hqt⟩:∃qt,cy gs s.i 63=qt:=⟨_,rfl⟩
 rw[hqt] at hR|-;refine M 2 ?_;refine ah.ir (λI U=>∃(tmp:List (Nat×D)),I=⟨11,[yv k 0 0,.int W (deep:Nat),.int W v,ay I 3,ay I 4,ay I 5,ay I 6,wt qt,ay I 8,ay I 9,ay I 10],tmp⟩/\Has N S2 U (.box k (zm 0 false (bw rD aD s))::.ai rD 1 ((gs.map bT).map aI)::.ai aD 1 (cj.map av)::H)/\(nV hk gs m f s.g qt (if qt=true then s.i+2 else s.i)=af)/\(qt=true->s.i+2<=gs.length)) ?_ ?_
 .cases qt with
  |false=>
   rw[if_neg (by simp)] at hR;have tZ:false=false:=rfl;refine qj λK hK=>M 28 ?_;refine qe hK<|M 2 ?_;exact⟨_,rfl,O,by rw[if_neg (by simp)];exact hR,λh=>(by cases h)⟩
  |true=>
   rw[if_pos rfl] at hR;have tZ:true=true:=rfl;have hlt:=dR hqt
   by_cases tY:s.i+1<gs.length
   .obtain⟨g,Ds⟩:∃g,gs[s.i+1]?=some g:=⟨gs[s.i+1]'tY,ζ _⟩
    have dO:=pA Ds;have gR:decide (((s.i+1:Nat):Int)>=(gs.length:Int))=false:=by rw[decide_eq_false_iff_not];omega
    refine qj λK hK=>M 28 λZz R6=>?_;refine qe hK ?_
    by_cases T3:bT g=58;·rw[if_pos (by rw[tT Ds AN AN,T3];rfl)] at hR;refine vY ?_;refine ah.skip ?_;exact⟨_,rfl,O,by rw[if_pos rfl];exact hR,λ_=>by omega⟩
    rw[if_neg (by rw[tT Ds AN AN];simpa using T3)] at hR;refine vX ?_;refine qq<|qj λK hK=>M 2 ?_;obtain⟨_,U,aK,rfl,s4,hN,O⟩:=hwr _ 4 AN hR.symm O;refine qv aK ?_;refine qe hK<|qq<|qj λK hK=>qm ?_;refine qe hK<|ah.ret ⟨rx,_,_,_,rfl,aH (rfl),?_⟩;exact⟨s4,hN,br.ag bj O⟩
   have gR:decide (((s.i+1:Nat):Int)>=(gs.length:Int))=true:=by rw[decide_eq_true_eq];omega
   have T3:cy gs (s.i+1) 58=false:=by
    cases h:cy gs (s.i+1) 58 with
    |true=>exact absurd (dR h) tY
    |false=>rfl
   rw[if_neg (by rw[T3];simp)] at hR;refine qj λK hK=>M 28 ?_;refine qe hK<|M 2 ?_;refine qj λK hK=>M 2 ?_;obtain⟨_,U,aK,rfl,s4,hN,O⟩:=hwr _ 4 AN hR.symm O;refine qv aK ?_;refine qe hK<|qq<|qj λK hK=>qm ?_;refine qe hK<|ah.ret ⟨rx,_,_,_,rfl,aH (rfl),?_⟩;exact⟨s4,hN,br.ag bj O⟩
 rintro I U ⟨tmp,hfr,O,hG,oW⟩;refine zK λee=>?_;clear hR;unfold nV at hG;refine M 2 ?_;refine qj λK hK=>M 2 ?_;refine qe hK ?_
 by_cases WB:20<=deep
 .have c_:decide ((deep:Int)>=20)=true:=by rw[decide_eq_true_eq];omega
  rw[if_pos GB] at hG;refine vX ?_;refine qq<|qj λK hK=>M 2 ?_;obtain⟨_,U,aK,rfl,s4,hN,O⟩:=hwr _ 10 AN hG.symm O;refine qv aK ?_;refine qe hK<|qq<|qj λK hK=>qm ?_;refine qe hK<|ah.ret ⟨rx,_,_,_,rfl,aH (rfl),?_⟩;exact⟨s4,hN,br.ag bj O⟩
 have c_:decide ((deep:Int)>=20)=false:=by rw[decide_eq_false_iff_not];omega
 rw[if_neg GB] at hG;refine vY ?_;refine M 3 ?_;refine qj λK hK=>qm ?_;refine qe hK ?_
 cases qt with
 |true=>
  have oW:=oW rfl;rw[if_neg (by simp),if_pos rfl,if_pos rfl] at hG;refine M 2 ?_;refine qj λK hK=>M 9 λU O=>?_;refine qe hK ?_;have O:Has N S2 U (.box k (zm 0 false (bw rD aD {s with i:=s.i+2}))::.ai rD 1 ((gs.map bT).map aI)::.ai aD 1 (cj.map av)::H):=O;refine qq<|qj λK hK=>M 3 ?_;obtain⟨_,U,aK,s4,⟨a2,a3,l,rfl,a5,a6,a7⟩,O⟩:=hA (m-1) GB (s:={s with i:=s.i+2}) (deep+1) bK he oW hg GB O;refine M 2 ?_;refine qe hK ?_;simp only at a3 a6 a7;obtain⟨c1,c2,c3⟩:=HH (v:=v) (f:=f) (free:=true) GB hG.symm a7 GB;refine qq<|qj λK hK=>M 2 ?_;obtain⟨_,U,aK,rfl,O⟩:=rj (s:=s4) GB GB v O;refine qv aK ?_;refine qe hK ?_;generalize iA gs s4 v=s5 at*;refine qq<|qj λK hK=>M 2 ?_;refine qe hK<|ah.ret ⟨rx,_,_,_,rfl,aH (rfl),?_⟩;refine⟨s5,⟨by omega,by omega,l,rfl,a5,by omega,?_⟩,br.ag bj O⟩
  rcases c3 with⟨c3,c4⟩|⟨c3,c4,c5⟩
  .exact .inl ⟨c3,by omega⟩
  exact .inr ⟨c3,by omega,by rw[c5,if_pos rfl,c1,c2],by omega⟩
 |false=>
  rw[if_neg (by simp:¬(false=true))] at hG;rw[if_neg (by simp:¬(false=true))] at hG;refine M 4 ?_;refine qj λK hK=>M 5 ?_;refine qe hK ?_
  by_cases hmany:4<=s.g
  .have c_:decide ((s.g:Int)>=4)=true:=by rw[decide_eq_true_eq];omega
   rw[if_pos ⟨rfl,hmany⟩] at hG;refine vX ?_;refine qq<|qj λK hK=>M 2 ?_;obtain⟨_,U,aK,rfl,s4,hN,O⟩:=hwr _ 13 AN hG.symm O;refine qv aK ?_;refine qe hK<|qq<|qj λK hK=>qm ?_;refine qe hK<|ah.ret ⟨rx,_,_,_,rfl,aH (rfl),?_⟩;exact⟨s4,hN,br.ag bj O⟩
  have c_:decide ((s.g:Int)>=4)=false:=by rw[decide_eq_false_iff_not];omega
  rw[if_neg (λh=>hmany h.2)] at hG;refine vY ?_;refine M 2 ?_;refine qj λK hK=>M 8 λU O=>?_;refine qe hK<|qq<|qj λK hK=>M 4 ?_;refine qg (d:=.agg [.int W 6,.nul,.int W 0,.int W 0,wt false,.int W ((s.g+1:Nat):Int),.int W 1]) ?_;refine M 2 λk9 U TX O U O=>?_;refine qe hK ?_
  have O:Has N S2 U (.box k (zm 0 false (bw rD aD {s with g:=s.g+1}))::.ai rD 1 ((gs.map bT).map aI)::.ai aD 1 (cj.map av)::_::H):=(O.front d_|>.front d_|>.front d_)
  refine qq<|qj λK hK=>M 3 ?_;obtain⟨_,U,aK,s4,⟨a2,a3,l,rfl,a5,a6,a7⟩,O⟩:=hA (m-1) GB (s:={s with g:=s.g+1}) (deep+1) bK he hi (by show s.g+1<=4;omega) GB O;refine M 2 ?_;refine qe hK ?_;simp only at a3 a6 a7;obtain⟨c1,c2,c3⟩:=HH (v:=v) (f:=f) (free:=false) GB hG.symm a7 GB;have hla:=(iq a5).arg N S2;refine qq<|qj λK hK=>M 2 ?_;obtain⟨_,U,aK,rfl,O⟩:=rj (s:=s4) GB GB v O;refine qv aK ?_;refine qe hK ?_;generalize iA gs s4 v=s5 at*
  have hli:l.length<=4*(gs.length+30)+1:=by
   rcases c3 with⟨_,c4⟩|⟨_,c4,_⟩<;>omega
  refine qq<|qj λK hK=>M 3 λk94 U adZ O=>?_;refine u.nU (s:=7) O rfl Pd Pd aV ((iq a5).rows U) rfl rfl rfl rfl rfl rfl rfl ⟨(γ rfl),(γ rfl)⟩ (λ_=>(ae rfl _)) (by simp only[κ,ε,θ];omega) (.inr (oE a5)) (λk A=>by have lx:k94+1=k+1:=A;omega) (λx96 U gb O=>?_);dsimp only[u2] at O;refine qm ?_;refine qe hK ?_;have O:Has N S2 U (.ai x96 7 ([.int W 6,.nul,.int W 0,.int W 0,wt false,.int W ((s.g+1:Nat):Int),.int W 1]::l.map aO)::.box k (zm 0 false (bw rD aD s5))::.ai rD 1 ((gs.map bT).map aI)::.ai aD 1 (cj.map av)::.box k9 (zm 0 false [.int W 6,.nul,.int W 0,.int W 0,wt false,.int W ((s.g+1:Nat):Int),.int W 1])::H):=O
  have hfz:=fV (L:=Y.bs.length) (l:=fk 6 0 0 false ((s.g+1:Nat):Int) 1 []::l) O aV (by rw[ρ,oF a5];rfl) (λe he d hd=>by
   rcases μ.1 he with rfl|he
   .simp only[μ,List.not_mem_nil,or_false] at hd
    rcases hd with rfl|rfl|rfl|rfl|rfl|rfl|rfl<;>rfl
   exact lN a5 e he d hd) (λk A=>by rw[<-bj];exact gb k A) (n:=16) AN
  refine ah.ret ⟨rx,_,_,_,rfl,aH hfz,⟨s5,⟨by omega,by omega,_,rfl,?_,by simp only[ε];omega,?_⟩,br.ag bj ((O.drop 1).erase 3)⟩⟩
  .intro n hn
   rcases μ.1 hn with rfl|hn
   .exact⟨rfl,by simp[fk],by simp[fk]⟩
   exact a5 n hn
  rcases c3 with⟨c3,c4⟩|⟨c3,c4,c5⟩
  .exact .inl ⟨c3,by omega⟩
  exact .inr ⟨c3,by omega,by rw[c5,if_neg (by simp),c1,c2],by simp only[ε];omega⟩
def EW (hA:∀m',m'+1=m->Gb hk gs m') (deep:Nat) (bK:uF gs cj) (he:s.e=0) (hi:s.i<gs.length) (hg:s.g<=4) (Ei:deep+m=20) (O:Has N S Y (.box k (zm 0 false (bw rD aD s))::.ai rD 1 ((gs.map bT).map aI)::.ai aD 1 (cj.map av)::H)):
  ∃d R,Ev pv 127 [yv k 0 0,.int W (deep:Nat)] Y d R/\∃(s':gj),qJ gs m (ui hk gs m s.i s.g) s s' d 2/\Has N S R (.box k (zm 0 false (bw rD aD s'))::.ai rD 1 ((gs.map bT).map aI)::.ai aD 1 (cj.map av)::H):=by
 have nS:=bK.gl;have hal:=bK.al;have br:=O;refine zO XH λS2 bj O=>?_
 obtain⟨g,Ds⟩:∃g,gs[s.i]?=some g:=⟨gs[s.i]'hi,ζ _⟩
 have dO:=pA Ds;have hrn:=N4 bK Ds
 obtain⟨af,hR⟩:∃af,ui hk gs m s.i s.g=af:=⟨_,rfl⟩
 rw[hR];unfold ui at hR;rw[Ds] at hR;simp only at hR;rw[F6 Ds] at hR;have WM:bT g=-1->af=.er 4 s.i:=λh=>by rw[<-hR,decide_eq_true h,if_pos rfl]
 have hgo:bT g≠-1->af=lY hk gs m s.i s.g (bT g):=λh=>by rw[<-hR,decide_eq_false h,if_neg (by simp),jF h]
 clear hR
 have hbd:(bT g=42\/bT g=43\/bT g=63\/bT g=41\/bT g=93\/bT g=123\/bT g=125\/bT g=124)->af=.er 4 s.i:=λh=>by
  have:=hgo GB;unfold lY at this;rw[if_neg GB,if_neg GB,if_neg GB,if_neg GB,if_neg GB,if_neg GB,if_pos h] at this;exact this
 have jv:∀(U:St) (s4:gj) (op:Int) (w:D) (a:List Rg) (kk:Nat),(w=az a\/w=.nul/\a=[])->a.length<=1048576->s4.g<=4->s.i<=s4.i->((fH af s4.e/\s4.i<=gs.length+1+m)\/s4.e=0/\s4.i<=gs.length/\af=.ok ([fk op 0 0 false 0 0 a],s4.g) s4.i/\1+2<=4*(s4.i-s.i))->S2.bs.length<=kk->Has N S2 U (.ai (.win kk 0 0 1 7) 7 [[.int W op,w,.int W 0,.int W 0,wt false,.int W 0,.int W 0]]::.box k (zm 0 false (bw rD aD s4))::.ai rD 1 ((gs.map bT).map aI)::.ai aD 1 (cj.map av)::H)->
   ∃d R,cZ .rw false Y U (.win kk 0 0 1 7)=some (d,R)/\∃(s':gj),qJ gs m af s s' d 2/\Has N S R (.box k (zm 0 false (bw rD aD s'))::.ai rD 1 ((gs.map bT).map aI)::.ai aD 1 (cj.map av)::H):=by
  intro U s4 op w a kk hw ha h1 X h3 A O;have hfz:=gZ O aV (L:=Y.bs.length) hw (λk A=>by simp only[φ] at A;rw[<-bj];omega);exact⟨_,_,aH hfz,s4,⟨h1,X,_,rfl,AF ha GB,by simp,h3⟩,br.ag bj (O.drop 1)⟩
 have uX:∀(op:Int) (a:List Rg),af=.ok ([fk op 0 0 false 0 0 a],s.g) (s.i+1)->(fH af ({s with i:=s.i+1}:gj).e/\({s with i:=s.i+1}:gj).i<=gs.length+1+m)\/({s with i:=s.i+1}:gj).e=0/\({s with i:=s.i+1}:gj).i<=gs.length/\af=.ok ([fk op 0 0 false 0 0 a],({s with i:=s.i+1}:gj).g) ({s with i:=s.i+1}:gj).i/\1+2<=4*(({s with i:=s.i+1}:gj).i-s.i):=by
  intro op a h;exact .inr ⟨he,by show s.i+1<=_;omega,h,by show 1+2<=4*(s.i+1-s.i);omega⟩
 refine G 7 ?_;obtain⟨_,U,aK,⟨v,rfl⟩,O⟩:=jW (s:=s) GB O;refine M 28 λQd Di U O=>?_;have O:Has N S2 U (.box k (zm 0 false (bw rD aD {s with i:=s.i+1}))::.ai rD 1 ((gs.map bT).map aI)::.ai aD 1 (cj.map av)::H):=O
 have hwr:∀(U:St),af=.er 4 s.i->Has N S2 U (.box k (zm 0 false (bw rD aD {s with i:=s.i+1}))::.ai rD 1 ((gs.map bT).map aI)::.ai aD 1 (cj.map av)::H)->∃d R,Ev pv 54 [yv k 0 0,.int W 4,.int W v] U d R/\d=.tup []/\∃s4,qJ gs m af s s4 (.sl []) 2/\Has N S2 R (.box k (zm 0 false (bw rD aD s4))::.ai rD 1 ((gs.map bT).map aI)::.ai aD 1 (cj.map av)::H):=by
  intro U hv O;obtain⟨d,R,aK,h6,O⟩:=bJ (s:={s with i:=s.i+1}) 4 v O;obtain⟨h7,h8⟩:=jJ {s with i:=s.i+1} 4 v;have h9:(iy {s with i:=s.i+1} 4 v).e=4:=eo he;simp only at h7 h8;exact⟨d,R,aK,h6,_,vR GB GB ⟨by rw[h9];decide,s.i,by rw[h9];exact hv⟩ GB,O⟩
 refine G 11 ?_;refine zI (λTF=>?_) λTF=>?_
 .have hR:=hgo GB;unfold lY at hR;rw[if_pos TF] at hR;refine G 5 ?_;obtain⟨_,U,aK,s4,⟨p2,p3,l,rfl,p5,p6,p7⟩,O⟩:=Cm (s:={s with i:=s.i+1}) hA deep bK he (f:=s.i) rfl (by show s.i+1<=_;omega) hg Ei v O;refine M 3 ?_;simp only at p3 p6 p7;rw[<-hR] at p7;refine ah.ret ⟨rx,_,_,_,rfl,aH (rfl),?_⟩;refine⟨s4,⟨p2,by omega,l,rfl,p5,by omega,?_⟩,br.ag bj O⟩
  rcases p7 with p7|⟨p7,p8,p9,Yy⟩
  .exact .inl p7
  exact .inr ⟨p7,p8,p9,by omega⟩
 refine G 5 ?_;refine zI (λEd=>?_) λEd=>?_
 .have hR:=hgo GB;unfold lY DU at hR;rw[if_neg GB,if_pos Ed] at hR;refine G 4 ?_;obtain⟨_,U,aK,a,s4,rfl,⟨p1,p2,p3,p4,p5⟩,O⟩:=Cn (s:={s with i:=s.i+1}) bK he (f:=s.i) rfl (by show s.i+1<=_;omega) v O;refine qv aK ?_;obtain⟨_,U,aK,kk,rfl,hkk,O⟩:=ov (x:=az a) rfl O;refine M 3 ?_;simp only at p1 p2 p5
  obtain⟨d',R,ng,eX⟩:=jv _ s4 2 (az a) a kk (.inl rfl) GB GB GB (by
   rcases p5 with p5|⟨p5,p6,p7,p8⟩
   .exact .inl ⟨p5.map λe w h=>by rw[hR,h],by omega⟩
   exact .inr ⟨p5,p7,by rw[hR,p8,p1];rfl,by omega⟩) hkk O
  exact ah.ret ⟨rx,_,d',R,rfl,ng,eX⟩
 refine G 5 ?_;refine zI (λTE=>?_) λTE=>?_;·have hR:=hgo GB;unfold lY at hR;rw[if_neg GB,if_neg GB,if_neg GB,if_pos TE] at hR;have hdl:uA.length<=6:=(HG (Y:=Y)).2;refine M 4 λk42 U aee O=>?_;have aK:∀U x,V.Rows U 2 x ([((10:Int),(10:Int))].map ak)->Ev pv 150 [x] U (az uA) U:=λU x h=>yr h (by simp);refine qv (aK _ _ (O.rows aV)) ?_;have O:=O.drop 1;obtain⟨_,U,aK,kk,rfl,hkk,O⟩:=ov (x:=az uA) rfl O;refine M 3 ?_;obtain⟨d',R,ng,eX⟩:=jv _ {s with i:=s.i+1} 2 (az uA) uA kk (.inl rfl) GB hg (by show s.i<=s.i+1;omega) (uX 2 uA hR) hkk O;exact ah.ret ⟨rx,_,d',R,rfl,ng,eX⟩
 refine G 5 ?_;refine zI (λTC=>?_) λTC=>?_;·have hR:=hgo GB;unfold lY at hR;rw[if_neg GB,if_neg GB,if_neg GB,if_neg GB,if_pos TC] at hR;refine G 2 ?_;refine qg (d:=.agg [.int W 7,.nul,.int W 0,.int W 0,wt false,.int W 0,.int W 0]) ?_;refine M 3 λk48 U Wh O=>?_;obtain⟨d',R,ng,eX⟩:=jv _ {s with i:=s.i+1} 7 .nul [] k48 (.inr ⟨rfl,rfl⟩) (by simp) hg (by show s.i<=s.i+1;omega) (uX 7 [] hR) Wh O;refine ah.ret ⟨rx,_,d',R,rfl,ng,eX⟩
 refine G 5 ?_;refine zI (λTG=>?_) λTG=>?_;·have hR:=hgo GB;unfold lY at hR;rw[if_neg GB,if_neg GB,if_neg GB,if_neg GB,if_neg GB,if_pos TG] at hR;refine G 2 ?_;refine qg (d:=.agg [.int W 8,.nul,.int W 0,.int W 0,wt false,.int W 0,.int W 0]) ?_;refine M 3 λk52 U aaR O=>?_;obtain⟨d',R,ng,eX⟩:=jv _ {s with i:=s.i+1} 8 .nul [] k52 (.inr ⟨rfl,rfl⟩) (by simp) hg (by show s.i<=s.i+1;omega) (uX 8 [] hR) aaR O;refine ah.ret ⟨rx,_,d',R,rfl,ng,eX⟩
 refine G 5 ?_;refine zI (λTD=>?_) λTD=>?_
 .have hR:=hgo GB;unfold lY at hR;rw[if_neg GB,if_neg GB,if_pos TD] at hR;refine G 4 ?_;obtain⟨_,U,aK,a,s4,rfl,⟨p1,p2,p3,p4,p5⟩,O⟩:=rh (s:={s with i:=s.i+1}) bK he (f:=s.i) rfl (by show s.i+1<=_;omega) v O;refine qv aK ?_;obtain⟨_,U,aK,kk,rfl,hkk,O⟩:=ov (x:=az a) rfl O;refine M 3 ?_;simp only at p1 p2 p5
  obtain⟨d',R,ng,eX⟩:=jv _ s4 2 (az a) a kk (.inl rfl) GB GB GB (by
   rcases p5 with p5|⟨p5,p6,p7,p8⟩
   .exact .inl ⟨p5.map λe w h=>by rw[hR,h],by omega⟩
   exact .inr ⟨p5,p3,by rw[hR,p8,p1];rfl,by omega⟩) hkk O
  exact ah.ret ⟨rx,_,d',R,rfl,ng,eX⟩
 refine G 6 ?_
 by_cases Th:bT g=42;·refine vX ?_;refine G 1 ?_;refine vX ?_;refine G 4 ?_;obtain⟨_,U,aK,rfl,s4,hN,O⟩:=hwr _ (hbd GB) O;refine M 7 ?_;exact⟨s4,hN,br.ag bj O⟩
 refine vY ?_;refine G 5 ?_
 by_cases Tf:bT g=43;·refine vX ?_;refine G 1 ?_;refine vX ?_;refine G 4 ?_;obtain⟨_,U,aK,rfl,s4,hN,O⟩:=hwr _ (hbd GB) O;refine M 7 ?_;exact⟨s4,hN,br.ag bj O⟩
 refine vY ?_;refine G 5 ?_
 by_cases Te:bT g=63;·refine vX ?_;refine G 1 ?_;refine vX ?_;refine G 4 ?_;obtain⟨_,U,aK,rfl,s4,hN,O⟩:=hwr _ (hbd GB) O;refine M 7 ?_;exact⟨s4,hN,br.ag bj O⟩
 refine vY ?_;refine G 5 ?_
 by_cases F2:bT g=123;·refine vX ?_;refine G 1 ?_;refine vX ?_;refine G 4 ?_;obtain⟨_,U,aK,rfl,s4,hN,O⟩:=hwr _ (hbd GB) O;refine M 7 ?_;exact⟨s4,hN,br.ag bj O⟩
 refine vY ?_;refine G 5 ?_
 by_cases F1:bT g=125;·refine vX ?_;refine G 1 ?_;refine vX ?_;refine G 4 ?_;obtain⟨_,U,aK,rfl,s4,hN,O⟩:=hwr _ (hbd GB) O;refine M 7 ?_;exact⟨s4,hN,br.ag bj O⟩
 refine vY ?_;refine G 5 ?_
 by_cases Td:bT g=93;·refine vX ?_;refine G 1 ?_;refine vX ?_;refine G 4 ?_;obtain⟨_,U,aK,rfl,s4,hN,O⟩:=hwr _ (hbd GB) O;refine M 7 ?_;exact⟨s4,hN,br.ag bj O⟩
 refine vY ?_;refine G 5 ?_
 by_cases Ti:bT g=41;·refine vX ?_;refine G 1 ?_;refine vX ?_;refine G 4 ?_;obtain⟨_,U,aK,rfl,s4,hN,O⟩:=hwr _ (hbd GB) O;refine M 7 ?_;exact⟨s4,hN,br.ag bj O⟩
 refine vY ?_;refine G 5 ?_
 by_cases Jv:bT g=124;·refine vX ?_;refine G 1 ?_;refine vX ?_;refine G 4 ?_;obtain⟨_,U,aK,rfl,s4,hN,O⟩:=hwr _ (hbd GB) O;refine M 7 ?_;exact⟨s4,hN,br.ag bj O⟩
 refine vY ?_;refine G 4 ?_
 by_cases cm:bT g=-1;·refine vX ?_;refine G 4 ?_;obtain⟨_,U,aK,rfl,s4,hN,O⟩:=hwr _ (WM cm) O;refine M 7 ?_;exact⟨s4,hN,br.ag bj O⟩
 refine vY ?_;refine G 1 ?_;have hR:=hgo cm;unfold lY at hR;rw[if_neg GB,if_neg GB,if_neg GB,if_neg GB,if_neg GB,if_neg GB,if_neg GB] at hR;rw[jF cm] at hR;rw[show U6 (g.1:Int)=[((g.1:Int),(g.1:Int))] from lR hrn,<-jF cm] at hR;refine M 6 λk75 U aaM O=>?_;obtain⟨_,U,aK,kk,rfl,hkk,O⟩:=ov (x:=.win k75 0 0 1 2) rfl O;refine M 3 ?_;have O:Has N S2 U (.ai (.win kk 0 0 1 7) 7 [[.int W 2,.win k75 0 0 1 2,.int W 0,.int W 0,wt false,.int W 0,.int W 0]]::.ai (.win k75 0 0 1 2) 2 (([(bT g,bT g)]:List Rg).map ak)::.box k (zm 0 false (bw rD aD {s with i:=s.i+1}))::.ai rD 1 ((gs.map bT).map aI)::.ai aD 1 (cj.map av)::H):=O;have hfz:=xH (L:=Y.bs.length) O aV bf (λk A=>by simp only[φ] at A;rw[<-bj];omega) (λk A=>by simp only[φ] at A;rw[<-bj];omega);exact ah.ret ⟨rx,_,_,_,rfl,aH hfz,{s with i:=s.i+1},⟨hg,by show s.i<=s.i+1;omega,_,rfl,AF (by simp) GB,by simp,uX 2 _ hR⟩,br.ag bj (O.drop 2)⟩
def Ao (hA:∀m',m'+1=m->Gb hk gs m') (deep:Nat) (bK:uF gs cj) (he:s.e=0) (hi:s.i<gs.length) (hg:s.g<=4) (Ei:deep+m=20) (O:Has N S Y (.box k (zm 0 false (bw rD aD s))::.ai rD 1 ((gs.map bT).map aI)::.ai aD 1 (cj.map av)::H)):
  ∃d R,Ev pv 108 [yv k 0 0,.int W (deep:Nat)] Y d R/\∃(s':gj),qJ gs m (Al hk gs m s.i s.g) s s' d 1/\Has N S R (.box k (zm 0 false (bw rD aD s'))::.ai rD 1 ((gs.map bT).map aI)::.ai aD 1 (cj.map av)::H):=by
 have nS:=bK.gl;have hal:=bK.al;have br:=O;refine zO XY λS2 bj O=>?_
 obtain⟨af,hR⟩:∃af,Al hk gs m s.i s.g=af:=⟨_,rfl⟩
 rw[hR];unfold Al at hR;refine G 8 ?_;obtain⟨_,U,aK,s1,⟨p2,p3,l,rfl,p5,p6,p7⟩,O⟩:=EW hA deep bK he hi hg Ei O;refine M 3 ?_
 rcases p7 with⟨p7,p8⟩|⟨p7,p8,p9,Yy⟩
 .have iF:(s1.e !=0)=true:=by simpa using p7.1
  refine M 28 ?_;exact⟨s1,⟨p2,p3,l,rfl,p5,p6,.inl ⟨p7.map λe w h=>by rw[<-hR,h],p8⟩⟩,br.ag bj O⟩
 rw[p9] at hR;simp only at hR;unfold Ri at hR;have iF:(s1.e !=0)=false:=by simpa using p7
 by_cases hlt:s1.i<gs.length
 .obtain⟨g,Ds⟩:∃g,gs[s1.i]?=some g:=⟨gs[s1.i]'hlt,ζ _⟩
  have dO:=pA Ds;have wJ:decide ((s1.i:Int)>=(gs.length:Int))=false:=by rw[decide_eq_false_iff_not];omega
  rw[tT Ds AN AN,tT Ds AN AN,tT Ds AN AN,tT Ds AN AN] at hR;simp at hR;refine M 25 ?_;refine u.go (d:=.agg [.int W 5,.nul,.int W 0,.int W 0,wt false,.int W 0,.int W 1]) (st1:=_) rfl rfl rfl (by dsimp<;>rfl) ?_;refine M 3 λk6 U L' O U O=>?_
  have O:Has N S2 U (.box k (zm 0 false (bw rD aD s1))::.ai rD 1 ((gs.map bT).map aI)::.ai aD 1 (cj.map av)::_::H):=(O.front d_|>.front d_|>.front d_)
  refine M 14 λp37 VM=>?_;refine ah.merge (λI U=>∃(mn mx:Int) (s2:gj) (tmp:List (Nat×D)),I=⟨39,[yv k 0 0,ay I 1,ay I 2,ay I 3,ay I 4,jO l,yv k6 0 0,ay I 7,ay I 8,ay I 9,ay I 10,ay I 11,ay I 12,ay I 13,ay I 14,ay I 15,ay I 16,ay I 17,ay I 18,ay I 19,ay I 20,ay I 21,ay I 22,ay I 23,ay I 24,ay I 25,ay I 26,ay I 27,ay I 28,ay I 29,ay I 30,ay I 31,ay I 32,ay I 33,ay I 34,ay I 35,ay I 36,ay I 37,ay I 38],tmp⟩/\Has N S2 U (.box k (zm 0 false (bw rD aD s2))::.ai rD 1 ((gs.map bT).map aI)::.ai aD 1 (cj.map av)::.box k6 (zm 0 false [.int W 5,.nul,.int W mn,.int W mx,wt false,.int W 0,.int W 1])::H)/\(s2.g<=4)/\(s1.i<s2.i)/\(s2.i<=gs.length+1)/\(fH af s2.e\/s2.e=0/\s2.i<=gs.length/\af=um gs l s2.g mn mx s2.i)) ?_ ?_
  .refine G 6 ?_;refine zI (λb42=>?_) λb42=>?_;·rw[if_pos b42] at hR;refine M 15 λU O U O=>?_;exact⟨0,-1,{s1 with i:=s1.i+1},_,rfl,O,p2,by show s1.i<s1.i+1;omega,by show s1.i+1<=_;omega,.inr ⟨p7,by show s1.i+1<=_;omega,hR.symm⟩⟩
   rw[if_neg b42] at hR;refine G 5 ?_;refine zI (λb43=>?_) λb43=>?_;·rw[if_pos b43] at hR;refine M 17 λU O U O U O=>?_;exact⟨1,-1,{s1 with i:=s1.i+1},_,rfl,O,p2,by show s1.i<s1.i+1;omega,by show s1.i+1<=_;omega,.inr ⟨p7,by show s1.i+1<=_;omega,hR.symm⟩⟩
   rw[if_neg b43] at hR;refine G 5 ?_;refine zI (λb63=>?_) λb63=>?_;·rw[if_pos b63] at hR;refine M 15 λU O U O=>?_;exact⟨0,1,{s1 with i:=s1.i+1},_,rfl,O,p2,by show s1.i<s1.i+1;omega,by show s1.i+1<=_;omega,.inr ⟨p7,by show s1.i+1<=_;omega,hR.symm⟩⟩
   rw[if_neg b63] at hR;refine G 5 ?_;refine zI (λTm=>?_) λTm=>?_
   .rw[if_pos Tm] at hR;refine G 2 ?_;obtain⟨_,U,aK,n1,n2,s2,rfl,⟨m1,m2,m3,m4⟩,O⟩:=Ap (s:=s1) bK p7 hlt O;refine M 9 λU O U O=>?_
    have h5:fH af s2.e\/s2.e=0/\s2.i<=gs.length/\af=um gs l s2.g n1 n2 s2.i:=by
     rcases m4 with m4|⟨m4,m5,m6⟩
     .exact .inl (m4.map λe w h=>by rw[<-hR,h])
     exact .inr ⟨m4,m5,by rw[<-hR,m6,m1]⟩
    exact⟨n1,n2,s2,_,rfl,O,by omega,m2,m3,h5⟩
   rw[if_neg Tm] at hR;refine M 6 ?_;exact⟨s1,⟨p2,p3,l,rfl,p5,p6,.inr ⟨p7,p8,hR.symm,by omega⟩⟩,br.ag bj (O.erase 3)⟩
  rintro I U ⟨mn,mx,s2,tmp,hfr,O,X,h3,h4,h5⟩;rw[hfr];clear hfr;generalize ay I=ee;clear I
  have W5:s2.e=0->af=um gs l s2.g mn mx s2.i:=λe=>by
   rcases h5 with h5|h5
   .exact absurd e h5.1
   exact h5.2.2
  unfold um at W5;refine G 2 ?_;refine ah.ir (λI U=>∃(lz:Bool) (s3:gj) (tmp:List (Nat×D)),I=⟨39,[yv k 0 0,ay I 1,ay I 2,ay I 3,ay I 4,jO l,yv k6 0 0,ay I 7,ay I 8,ay I 9,ay I 10,ay I 11,ay I 12,ay I 13,ay I 14,ay I 15,ay I 16,ay I 17,ay I 18,ay I 19,ay I 20,ay I 21,ay I 22,ay I 23,ay I 24,ay I 25,ay I 26,ay I 27,ay I 28,ay I 29,ay I 30,ay I 31,ay I 32,ay I 33,ay I 34,ay I 35,ay I 36,ay I 37,ay I 38],tmp⟩/\Has N S2 U (.box k (zm 0 false (bw rD aD s3))::.ai rD 1 ((gs.map bT).map aI)::.ai aD 1 (cj.map av)::.box k6 (zm 0 false [.int W 5,.nul,.int W mn,.int W mx,wt lz,.int W 0,.int W 1])::H)/\(s3.g=s2.g)/\(s3.e=s2.e)/\(s2.i<=s3.i)/\(s3.i<=gs.length+1)/\(s2.e=0->s3.i<=gs.length/\af=.ok (fk 5 mn mx lz 0 1 []::l,s3.g) s3.i)) ?_ ?_
  .refine G 2 ?_;obtain⟨_,U,aK,rfl,O⟩:=b9 (s:=s2) GB GB 63 AN AN O;refine M 2 ?_
   cases F:cy gs s2.i 63 with
   |true=>
    have I6:=dR F;rw[F,if_pos rfl] at W5;refine M 16 λU O U O=>?_;exact⟨true,{s2 with i:=s2.i+1},_,rfl,O,rfl,rfl,by show s2.i<=s2.i+1;omega,by show s2.i+1<=_;omega,λe=>⟨by show s2.i+1<=_;omega,W5 e⟩⟩
   |false=>
    rw[F,if_neg (by simp)] at W5;refine G 2 ?_
    have sD:s2.e=0->s2.i<=gs.length:=λe=>by
     rcases h5 with h5|h5
     .exact absurd e h5.1
     exact h5.2.1
    exact⟨false,s2,_,rfl,O,rfl,rfl,ο _,h4,λe=>⟨sD e,W5 e⟩⟩
  rintro I U ⟨lz,s3,tmp,hfr,O,y1,y2,y3,y4,y5⟩;refine zK λee=>?_;have hla:=(iq p5).arg N S2;refine M 5 λk91 U ad0 O=>?_;refine u.nU (s:=7) O rfl Pd Pd aV ((iq p5).rows U) rfl rfl rfl rfl rfl rfl rfl ⟨(γ rfl),(γ rfl)⟩ (λ_=>(ae rfl _)) (by simp only[κ,ε,θ];omega) (.inr (oE p5)) (λk A=>by have lx:k91+1=k+1:=A;omega) (λx93 U gb O=>?_);dsimp at O;refine G 2 ?_;have O:Has N S2 U (.ai x93 7 ([.int W 5,.nul,.int W mn,.int W mx,wt lz,.int W 0,.int W 1]::l.map aO)::.box k (zm 0 false (bw rD aD s3))::.ai rD 1 ((gs.map bT).map aI)::.ai aD 1 (cj.map av)::.box k6 (zm 0 false [.int W 5,.nul,.int W mn,.int W mx,wt lz,.int W 0,.int W 1])::H):=O
  have hfz:=fV (L:=Y.bs.length) (l:=fk 5 mn mx lz 0 1 []::l) O aV (by rw[ρ,oF p5];rfl) (λe he d hd=>by
   rcases μ.1 he with rfl|he
   .simp at hd
    rcases hd with rfl|rfl|rfl|rfl|rfl|rfl|rfl<;>rfl
   exact lN p5 e he d hd) (λk A=>by rw[<-bj];exact gb k A) (n:=16) AN
  refine ah.ret ⟨rx,_,_,_,rfl,aH hfz,⟨s3,⟨by omega,by omega,_,rfl,?_,by simp only[ε];omega,?_⟩,br.ag bj ((O.drop 1).erase 3)⟩⟩
  .intro n hn
   rcases μ.1 hn with rfl|hn
   .exact⟨rfl,by simp[fk],by simp[fk]⟩
   exact p5 n hn
  by_cases e0:s2.e=0;·have:=y5 e0;exact .inr ⟨by omega,this.1,this.2,by simp;omega⟩
  refine .inl ⟨?_,by omega⟩;rw[y2]
  rcases h5 with h5|h5
  .exact h5
  exact absurd h5.1 e0
 have YJ:∀r:Int,cy gs s1.i r=false:=λr=>by
  cases h:cy gs s1.i r with
  |true=>exact absurd (dR h) hlt
  |false=>rfl
 rw[YJ,YJ,YJ,YJ] at hR;simp at hR;have wJ:decide ((s1.i:Int)>=(gs.length:Int))=true:=by rw[decide_eq_true_eq];omega
 refine M 28 ?_;exact⟨s1,⟨p2,p3,l,rfl,p5,p6,.inr ⟨p7,p8,hR.symm,by omega⟩⟩,br.ag bj O⟩
def Ih {i:Nat} (h:cy gs i 41=true):Al hk gs m i g=.er 4 i:=by
 have hlt:=dR h;have hg:gs[i]?=some gs[i]:=ζ hlt;generalize gs[i]=q at hg;unfold cy at h;rw[hg] at h;simp at h;unfold Al ui;rw[hg];simp only
 split
 .rename_i h1
  split at h1;·cases h1;rfl
  unfold lY at h1;rw[h] at h1;simp at h1;rw[<-h1.1,<-h1.2]
 rename_i h1
 split at h1;·cases h1
 unfold lY at h1;rw[h] at h1;simp at h1
def Ui.zD {hk hp:Prop} (e:hk->hp:=by intro h;dsimp only[u2,u1,u3,u4,setMany,u5,u6,D.cells,Nat.reduceAdd,bw,aI,av,cU] at h;exact h):hk->hp:=e
def yt (hA:∀m',m'+1=m->Gb hk gs m') (deep:Nat) (bK:uF gs cj) (he:s.e=0) (hi:s.i<=gs.length) (hg:s.g<=4) (Ei:deep+m=20) (O:Has N S Y (.box k (zm 0 false (bw rD aD s))::.ai rD 1 ((gs.map bT).map aI)::.ai aD 1 (cj.map av)::H)):
  ∃d R,Ev pv 81 [yv k 0 0,.int W (deep:Nat)] Y d R/\∃(s':gj),vd gs m (DZ hk gs m s.i s.g) s s' d/\Has N S R (.box k (zm 0 false (bw rD aD s'))::.ai rD 1 ((gs.map bT).map aI)::.ai aD 1 (cj.map av)::H):=by
 have nS:=bK.gl;have hal:=bK.al;have br:=O;refine zO abJ λS2 bj O=>?_
 obtain⟨af,hR⟩:∃af,DZ hk gs m s.i s.g=af:=⟨_,rfl⟩
 rw[hR];unfold DZ at hR;refine G 8 ?_
 have O:Has N S2 S2 (.box k (zm 0 false (bw rD aD s))::.ai rD 1 ((gs.map bT).map aI)::.ai aD 1 (cj.map av)::.ai .nul 1 (([]:List (List aQ)).map cU)::H):=((O.cY 1).front d_|>.front d_|>.front d_)
 refine G 2 ?_;refine ah.loop (λmm I U=>∃(s1:gj) (pd:D) (parts:List (List aQ)),I.clean=⟨6,[yv k 0 0,.int W (deep:Nat),ay I 2,ay I 3,ay I 4,pd],[]⟩/\Has N S2 U (.box k (zm 0 false (bw rD aD s1))::.ai rD 1 ((gs.map bT).map aI)::.ai aD 1 (cj.map av)::.ai pd 1 (parts.map cU)::H)/\(s1.g<=4)/\(s.i<=s1.i)/\(s1.i<=gs.length+1+m)/\(∀l∈parts,∀n∈l,ki n)/\(df parts+parts.length<=4*(s1.i-s.i)+2)/\(s1.e=0->df parts+parts.length<=4*(s1.i-s.i)/\s1.i<=gs.length)/\(fH af s1.e\/s1.e=0/\∃n,gs.length-s1.i<n/\Br hk gs m n s1.i s1.g parts=af)/\(gs.length-s1.i+(if s1.e=0 then 1 else 0)<=mm)) (gs.length+1) ?_ ?_;·exact⟨s,.nul,[],rfl,O,hg,ο _,by omega,λl hl=>(by cases hl),by simp[df],λ_=>⟨by simp[df],hi⟩,.inr ⟨he,gs.length+1,by omega,hR⟩,by split<;>omega⟩
 rintro mm I U ⟨s1,pd,parts,hfr,O,X,h3,h4,h5,h6,h7,h8,sC⟩;rw[hfr];clear hfr;generalize ay I=ee;clear I
 have j9:∀U:St,((fH af s1.e/\s1.i<=gs.length+1+m)\/(s1.e=0/\s1.i<=gs.length/\af=.ok (cV 3 parts,s1.g) s1.i)\/(m=20/\s1.e=0/\cy gs s1.i 41=true/\∃w,af=.er 4 w))->Has N S2 U (.box k (zm 0 false (bw rD aD s1))::.ai rD 1 ((gs.map bT).map aI)::.ai aD 1 (cj.map av)::.ai pd 1 (parts.map cU)::H)->∃d,Ev pv 83 [.int W 3,pd] U d U/\vd gs m af s s1 d/\∃l,d=jO l:=by
  intro U hv O;obtain⟨aK,j1,j2,j3⟩:=vH 3 (O.rows d_) h5 GB GB;refine⟨_,aK,⟨X,h3,cV 3 parts,rfl,j1,?_,hv⟩,_,rfl⟩
  by_cases q1:parts.length=1;·have:=j2 q1;omega
  by_cases q0:parts.length=0;·have:parts=[]:=List.length_eq_zero_iff.1 q0;rw[this];show 1<=_;omega
  omega
 by_cases he1:s1.e=0
 .obtain⟨n,sB,dZ⟩:=(h8.resolve_left λh=>absurd he1 h.1).2
  obtain⟨n,rfl⟩:∃m,n=m+1:=⟨n-1,by omega⟩
  unfold Br at dZ;rw[if_pos he1] at sC;obtain⟨h7,h7i⟩:=h7 he1;have iF:(s1.e==0)=true:=by simpa using he1
  by_cases hlt:s1.i<gs.length
  .have aL:decide ((s1.i:Int)<(gs.length:Int))=true:=by rw[decide_eq_true_eq];omega
   cases aZ:(!cy gs s1.i 124) with
   |false=>
    refine M 22 ?_;obtain⟨_,U,aK,rfl,O⟩:=b9 (s:=s1) GB GB 124 AN AN O;refine M 11 ?_;obtain⟨_,wG,hQ,l,rfl⟩:=j9 _ (.inr (.inl ⟨he1,h7i,by rw[<-dZ,if_neg (λh=>by rw[h.2.1] at aZ;simp at aZ)]⟩)) O;refine M (t:=(wG)) 7 ?_;exact⟨s1,hQ,br.ag bj (O.erase 3)⟩
   |true=>
    refine M 22 ?_;obtain⟨_,U,aK,rfl,O⟩:=b9 (s:=s1) GB GB 124 AN AN O;refine M 5 ?_;obtain⟨_,U,aK,rfl,O⟩:=b9 (s:=s1) GB GB 41 AN AN O;refine M 4 ?_
    cases Pj:cy gs s1.i 41 with
    |true=>
     refine G 2 ?_
     have hv:(s1.e=0/\s1.i<=gs.length/\af=.ok (cV 3 parts,s1.g) s1.i)\/(m=20/\s1.e=0/\cy gs s1.i 41=true/\∃w,af=.er 4 w):=by
      by_cases hm:m=20;·refine .inr ⟨hm,he1,Pj,s1.i,?_⟩;rw[<-dZ,if_pos ⟨hlt,by simpa using aZ,.inr hm⟩,Ih Pj]
      refine .inl ⟨he1,h7i,?_⟩;rw[<-dZ,if_neg (λh=>by rcases h.2.2 with h|h;rw[Pj] at h;exact absurd h (by simp);exact hm h)]
     obtain⟨_,wG,hQ,l,rfl⟩:=j9 _ (.inr hv) O;refine M (t:=(wG)) 7 ?_;exact⟨s1,hQ,br.ag bj (O.erase 3)⟩
    |false=>
     refine G 3 ?_;rw[if_pos ⟨hlt,by simpa using aZ,.inl Pj⟩] at dZ;refine G 4 ?_;obtain⟨_,U,aK,s2,⟨r2,r3,l,rfl,r5,r6,r7⟩,O⟩:=Ao hA (s:=s1) deep bK he1 hlt X Ei O;refine M 5 λk37 U Wk O Ns U O=>?_;have O:=O.drop 1
     have r8:s2.e=0->l.length+1<=4*(s2.i-s1.i)/\s2.i<=gs.length:=λe=>by
      rcases r7 with r7|r7
      .exact absurd e r7.1.1
      exact⟨r7.2.2.2,r7.2.1⟩
     have r9:fH af s2.e\/s2.e=0/\∃n,gs.length-s2.i<n/\Br hk gs m n s2.i s2.g (parts++[l])=af:=by
      rcases r7 with r7|⟨r7,P8,Zk,r73⟩
      .exact .inl (r7.1.map λe w h=>by rw[<-dZ,h])
      rw[Zk] at dZ;exact .inr ⟨r7,n,by omega,dZ⟩
     have UR:gs.length-s2.i+(if s2.e=0 then 1 else 0)<=mm-1:=by
      by_cases e:s2.e=0;·have:=r8 e;rw[if_pos e];omega
      rw[if_neg e];omega
     have Zm:s2.i<=gs.length+1+m:=by
      rcases r7 with r7|r7
      .exact r7.2
      omega
     refine⟨mm-1,by omega,⟨s2,Ns,parts++[l],rfl,(by rw[ι];exact O),r2,by omega,Zm,?_,by rw[cz,δ];simp only[df,ε,θ];omega,(λe=>by have:=r8 e;rw[cz,δ];simp only[df,ε,θ];omega),r9,UR⟩⟩;intro l' iv
     rcases ς.1 iv with iv|iv
     .exact h5 l' iv
     simp at iv;subst iv;exact r5
  have aL:decide ((s1.i:Int)<(gs.length:Int))=false:=by rw[decide_eq_false_iff_not];omega
  refine M 33 ?_;obtain⟨_,wG,hQ,l,rfl⟩:=j9 _ (.inr (.inl ⟨he1,h7i,by rw[<-dZ,if_neg (λh=>hlt h.1)]⟩)) O;refine M (t:=(wG)) 7 ?_;exact⟨s1,hQ,br.ag bj (O.erase 3)⟩
 have iF:(s1.e==0)=false:=by simpa using he1
 refine G 33 ?_;obtain⟨_,wG,hQ,l,rfl⟩:=j9 _ (.inl ⟨h8.resolve_right λh=>he1 h.1,h4⟩) O;refine M (t:=(wG)) 7 ?_;exact⟨s1,hQ,br.ag bj (O.erase 3)⟩
def vJ (hA:∀m',m'+1=m->Gb hk gs m'):Gb (D9 hk gs m) gs m:=by
 open Ui in
 intro N k S Y H cj rD aD s deep bK he hi hg Ei O;have nS:=bK.gl;have hal:=bK.al;have br:=O;refine zO ab6 λS2 bj O=>?_
 obtain⟨af,hR⟩:∃af,D9 hk gs m s.i s.g=af:=⟨_,rfl⟩
 rw[hR];unfold D9 at hR;refine G 8 ?_;obtain⟨_,U,aK,s1,⟨p2,p3,l,rfl,p5,p6,p7⟩,O⟩:=yt hA deep bK he hi hg Ei O;refine M 4 λk9 U TX O=>?_
 have p4:s1.i<=gs.length+1+m:=by
  rcases p7 with p7|p7|p7
  .exact p7.2
  .omega
  have:=dR p7.2.2.1;omega
 have h80:fH af s1.e\/(s1.e=0/\s1.i<=gs.length/\∃n,gs.length-s1.i<n/\uD hk gs m n s1.i s1.g [l]=af)\/(m=20/\s1.e=0/\cy gs s1.i 41=true/\∃w,af=.er 4 w):=by
  rcases p7 with p7|⟨p7,TI,Zr⟩|⟨q1,q2,q3,w,q4⟩
  .exact .inl (p7.1.map λe w h=>by rw[<-hR,h])
  .rw[Zr] at hR;exact .inr (.inl ⟨p7,TI,_,by omega,hR⟩)
  exact .inr (.inr ⟨q1,q2,q3,w,by rw[<-hR,q4]⟩)
 have O:Has N S2 U (.box k (zm 0 false (bw rD aD s1))::.ai rD 1 ((gs.map bT).map aI)::.ai aD 1 (cj.map av)::.ai (.win k9 0 0 1 1) 1 ([l].map cU)::H):=(O.front d_|>.front d_|>.front d_)
 refine G 2 ?_;refine ah.loop (λmm I U=>∃(s1:gj) (pd:D) (parts:List (List aQ)),I.clean=⟨6,[yv k 0 0,.int W (deep:Nat),ay I 2,ay I 3,ay I 4,pd],[]⟩/\Has N S2 U (.box k (zm 0 false (bw rD aD s1))::.ai rD 1 ((gs.map bT).map aI)::.ai aD 1 (cj.map av)::.ai pd 1 (parts.map cU)::H)/\(s1.g<=4)/\(s.i<=s1.i)/\(s1.i<=gs.length+1+m)/\(∀l∈parts,∀n∈l,ki n)/\(df parts+3*parts.length<=4*(s1.i-s.i)+4)/\(1<=parts.length)/\(fH af s1.e\/(s1.e=0/\s1.i<=gs.length/\∃n,gs.length-s1.i<n/\uD hk gs m n s1.i s1.g parts=af)\/(m=20/\s1.e=0/\cy gs s1.i 41=true/\∃w,af=.er 4 w))/\(gs.length-s1.i<=mm)) (gs.length) ?_ ?_;·exact⟨s1,.win k9 0 0 1 1,[l],rfl,O,p2,p3,p4,(λl' iv=>by simp at iv;subst iv;exact p5),by simp only[df,ε,θ];omega,by simp,h80,by omega⟩
 rintro mm I U ⟨s1,pd,parts,hfr,O,X,h3,h4,h5,h6,h8,h9,sC⟩;rw[hfr];clear hfr;generalize ay I=ee;clear I
 have j9:∀U:St,((fH af s1.e/\s1.i<=gs.length+1+m)\/(s1.e=0/\s1.i<=gs.length/\af=.ok (cV 4 parts,s1.g) s1.i)\/(m=20/\s1.e=0/\cy gs s1.i 41=true/\∃w,af=.er 4 w))->Has N S2 U (.box k (zm 0 false (bw rD aD s1))::.ai rD 1 ((gs.map bT).map aI)::.ai aD 1 (cj.map av)::.ai pd 1 (parts.map cU)::H)->∃d,Ev pv 83 [.int W 4,pd] U d U/\vd gs m af s s1 d/\∃l,d=jO l:=by
  intro U hv O;obtain⟨aK,j1,j2,j3⟩:=vH 4 (O.rows d_) h5 GB GB;refine⟨_,aK,⟨X,h3,cV 4 parts,rfl,j1,?_,hv⟩,_,rfl⟩
  by_cases q1:parts.length=1;·have:=j2 q1;omega
  omega
 by_cases he1:s1.e=0
 .have iF:(s1.e==0)=true:=by simpa using he1
  have YS:s1.i<=1048576:=by omega
  refine G 10 ?_;obtain⟨_,U,aK,rfl,O⟩:=b9 (s:=s1) GB YS 124 AN AN O;refine M 3 ?_
  cases F:cy gs s1.i 124 with
  |false=>
   refine G 2 ?_
   have hv:(s1.e=0/\s1.i<=gs.length/\af=.ok (cV 4 parts,s1.g) s1.i)\/(m=20/\s1.e=0/\cy gs s1.i 41=true/\∃w,af=.er 4 w):=by
    rcases h9 with h9|⟨_,h9,n,sB,dZ⟩|h9
    .exact absurd he1 h9.1
    .obtain⟨n,rfl⟩:∃m,n=m+1:=⟨n-1,by omega⟩
     unfold uD at dZ;exact .inl ⟨he1,h9,by rw[<-dZ,if_neg (by rw[F];simp)]⟩
    exact .inr h9
   obtain⟨_,wG,hQ,l,rfl⟩:=j9 _ (.inr hv) O;refine M (t:=(wG)) 7 ?_;exact⟨s1,hQ,br.ag bj (O.erase 3)⟩
  |true=>
   have hlt:=dR F
   obtain⟨n,sB,dZ⟩:∃n,gs.length-s1.i<n/\uD hk gs m n s1.i s1.g parts=af:=by
    rcases h9 with h9|⟨_,h9,h9'⟩|⟨_,_,h9,_⟩
    .exact absurd he1 h9.1
    .exact h9'
    exfalso
    have hg:gs[s1.i]?=some gs[s1.i]:=ζ hlt;generalize gs[s1.i]=q at hg;unfold cy at F h9;rw[hg] at F h9;simp at F h9;omega
   obtain⟨n,rfl⟩:∃m,n=m+1:=⟨n-1,by omega⟩
   unfold uD at dZ;rw[if_pos F] at dZ;refine M 14 λU O=>?_;have O:Has N S2 U (.box k (zm 0 false (bw rD aD {s1 with i:=s1.i+1}))::.ai rD 1 ((gs.map bT).map aI)::.ai aD 1 (cj.map av)::.ai pd 1 (parts.map cU)::H):=O;refine G 4 ?_;obtain⟨_,U,aK,s3,⟨r2,r3,l,rfl,r5,r6,r7⟩,O⟩:=yt hA (s:={s1 with i:=s1.i+1}) deep bK he1 (by show s1.i+1<=_;omega) X Ei O;refine M 5 λk30 U aaX O x31 U O=>?_;have O:=O.drop 1;simp only at r3 r6 r7
   have r9:fH af s3.e\/(s3.e=0/\s3.i<=gs.length/\∃n,gs.length-s3.i<n/\uD hk gs m n s3.i s3.g (parts++[l])=af)\/(m=20/\s3.e=0/\cy gs s3.i 41=true/\∃w,af=.er 4 w):=by
    rcases r7 with r7|⟨r7,r70,P8⟩|⟨q1,q2,q3,w,q4⟩
    .exact .inl (r7.1.map λe w h=>by rw[<-dZ,h])
    .rw[P8] at dZ;exact .inr (.inl ⟨r7,r70,n,by omega,dZ⟩)
    exact .inr (.inr ⟨q1,q2,q3,w,by rw[<-dZ,q4]⟩)
   have Zm:s3.i<=gs.length+1+m:=by
    rcases r7 with r7|r7|r7
    .exact r7.2
    .omega
    have:=dR r7.2.2.1;omega
   refine⟨mm-1,by omega,⟨s3,x31,parts++[l],rfl,(by rw[ι];exact O),r2,by omega,Zm,?_,by rw[cz,δ];simp only[df,ε,θ];omega,by rw[δ];omega,r9,by omega⟩⟩;intro l' iv
   rcases ς.1 iv with iv|iv
   .exact h5 l' iv
   simp at iv;subst iv;exact r5
 have iF:(s1.e==0)=false:=by simpa using he1
 refine G 15 ?_
 have hE:fH af s1.e:=by
  rcases h9 with h9|h9|h9
  .exact h9
  .exact absurd h9.1 he1
  exact absurd h9.2.1 he1
 obtain⟨_,wG,hQ,l,rfl⟩:=j9 _ (.inl ⟨hE,h4⟩) O;refine M (t:=(wG)) 7 ?_;exact⟨s1,hQ,br.ag bj (O.erase 3)⟩
def EX (gs:List (Nat×Nat)) (m:Nat):Gb (xk gs m) gs m:=by
 induction m with
 |zero=>exact vJ (λm' h=>by omega)
 |succ m ih=>exact vJ (λm' h=>by cases h;exact@ih)
end Go.Proofs.YtappgjdiplibbaaGreat
