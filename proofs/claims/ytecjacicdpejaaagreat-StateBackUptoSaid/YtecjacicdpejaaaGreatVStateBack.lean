/- StateBack, for arguments of bulk at most 1048576: it answers true. -/
import Derived.Test.YtecjacicdpejaaaGreatVGJp
import Derived.Test.YtecjacicdpejaaaGreatVOi
import Derived.Test.YtecjacicdpejaaaGreatVGSg
import Derived.Test.YtecjacicdpejaaaGreatRows
import Derived.WalkKit
import Derived.ProofKit
import Derived.OpenShut
import Derived.JoinedCond
import Derived.ChangeOld
set_option maxRecDepth 100000
set_option maxHeartbeats 4000000
set_option linter.unusedSimpArgs false
set_option linter.unusedVariables false
open List renaming set_cons_succ→γ,set_cons_zero→δ,nil_append→ε,length_map→ζ,length_replicate→η,cons_append→θ,length_append→ι,length_reverse→κ,length_drop→μ,length_take→ν,append_nil→ξ,length_cons→ο,length_nil→π,length_set→ρ,map_cons→υ,map_nil→φ,foldl_cons→χ,length→ψ,foldl_nil→Δ,drop_succ_cons→Ξ,take_succ_cons→Φ,drop_zero→Ω,take_zero→Z5,map→ZD,map_map→YH,map_congr_left→xw,map_id→VT
open Go.V.ab renaming mv→ς,nil→Θ,go→Ψ,skip→Q5,aS→Wh,av→Y',cA→wt,bN→ki,bB→Ut,cu→VQ,two→VM,bQ→GB,fU→Bv
open Nat renaming reduceAdd→τ,reduceSub→ω,le_refl→v8
open Go.V.Fr renaming put→Γ,clean→Zn,get→Zt,ev→YQ,eH→JS
namespace Go.Proofs.YtecjacicdpejaaaGreat.stateBack
open Go.ChangeShapes Go.WideShapes Go.ChangeAt Go.RowKit Go.V
variable{s0:St}
theorem Ho {N kS kd kv ks:Nat} {S:St} {H:List bo} {p:Pg} {pl:Nat} {ld:D} {L:List VL} {h:List UInt8} (hM:SH [] N S s0 kS kd kv ks p pl ld L h H):∃E,Has N S s0 (E++H)∧∀st H',Has N S st (E++H')→SH [] N S st kS kd kv ks p pl ld L h H':=by
 obtain⟨pd,qd,P,Q,sn,js,hH,ba,ej,hl⟩:=hM;exact⟨.box kS (.mem 0 false [.ptr kd 0 0,.ptr kv 0 0])::.box kd (.mem 0 false (dw h js))::iu ks kv p pl ld pd qd P Q L,hH,fun st H' h=>⟨pd,qd,P,Q,sn,js,h,ba,ej,hl⟩⟩
variable{y:D}{B:List UInt8}{k:Nat}
theorem Oz (h:dg y 1 (((byteCells B).drop 0).take k)):dg y 1 (byteCells (B.take k)):=by
 rw[Ω] at h;unfold byteCells at h⊢;rw[List.map_take];exact h
theorem OA {m:Nat} (h:dg y 1 (((byteCells B).take m).drop k)) (hm:B.length≤m):dg y 1 (byteCells (B.drop k)):=by
 rw[List.take_of_length_le (by rw[au];omega)] at h;unfold byteCells at h⊢;rw[List.map_drop];exact h
theorem Wn (ls:List PL):((ls.map PL.gt).map GV.v).map VL.pl=ls:=by
 rw[YH,YH];refine(xw fun l _=>?_).trans (VT ls);show(⟨l.dn,l.bf,(l.bn.map hU.g).map GT.J9⟩:PL)=l
 have:(l.bn.map hU.g).map GT.J9=l.bn:=by
  rw[YH];exact(xw fun t _=>rfl).trans (VT _)
 rw[this]
theorem law (x:D) (ps:List (List UInt8)) (hx:dg x 1 (ps.map tQ)) (fT:ps.length≤1048576∧∀b∈ps,b.length≤1048576) (y:D) (b:List UInt8) (hy:dg y 1 (byteCells b)) (hbl:b.length≤1048576) (n:Int) (hn:(Lit.int .i64 n).wf=true):Ev pv 9 [x,y,.int .i64 n] s0 (.bool true) s0:=by
 have jX:∀st,Ev pv 149 [] st (.agg (aA bK)) st:=fun st=>Ev.fz rfl rfl;refine Ev.gP rfl fi9 rfl rfl rfl ?_;dsimp only[θ,ε,ψ,ω,τ,List.replicate_succ,List.replicate_zero];have aN:(ae .ro s0).bs=s0.bs:=rfl;have hF:(ae .ro s0).flr≤s0.bs.length:=v8 _;have hH:Has s0.bs.length (ae .ro s0) (ae .ro s0) []:=Has.start (v8 _) (v8 _);generalize ae .ro s0=S at*;(try change ag _ _ _ _ _ _);(repeat refine ag.seq ?_);(try generalize hK:aZ _ _ _ _=K);refine ag.cT ?_;refine ς (.inr rfl) rfl (ev rfl) (by dsimp only[Γ,γ,δ]<;>rfl) ?_;refine Θ ?_;(try subst hK);(try change ag _ _ _ _ _ _);have hmd:=fun(st:St)=>lL (s0:=st) (hx.rows st) fT.1 fT.2;obtain⟨y2,sZ,F_⟩:=nE (s0:=S) hy 80;have Wl:(b.take 80).length≤80:=by rw[ν];omega
 generalize b.take 80=B at*;have uN:=au B;have J':=F_.arg s0.bs.length S;(try change ag _ _ _ _ _ _);(repeat refine ag.seq ?_);(try generalize hK:aZ _ _ _ _=K);refine ag.cT ?_;refine ς (.inl rfl) rfl (ev rfl) (aa rfl _) ?_;refine Wh rfl rfl (sZ) (aa rfl _) ?_;refine ς (.inr rfl) rfl (ev rfl) (by dsimp only[Γ,γ,δ]<;>rfl) ?_;refine Θ ?_;(try subst hK);(try change ag _ _ _ _ _ _);obtain⟨_,ax,p,ok,rfl,hp,hR⟩:=hmd S;have nM:=hp.c;have hsd:=hp.s;have JC:=hR.cl;have RY:=hR.sl;have S7:∀l∈(aG p).map jN,l.ok p.code.length:=uf hR;have h0l:((aG p).map jN).length=p.ak.length:=by unfold aG;simp
 have Vt:∀{N S st H},S.flr≤N→Has N S st H→_:=fun{N S st H} hF hH=>Ht (N:=N) (S:=S) (s0:=st) (H:=H) jX hF hp hR hH;have tK:=fun(c:List UInt8) (hc:c.length≤100) (st:St) (x:D) (hx:dg x 1 (byteCells c))=>nJ (s0:=st) jX hp hR hx hc;have Jx:=fun{place:Int} {L:List GV} {x y:D} {h:List UInt8} (hx:CD x L) (hy:dg y 1 (byteCells h)) (AB:h.length≤1048576) (st:St)=>nG (s0:=st) (place:=place) jX hp hx hy AB;have hde:=fun(st:St) (x:D) (b:List UInt8) (hx:V.Rows st 1 x (byteCells b)) (hl:b.length≤68719476736)=>oo (s0:=st) jX hp hR hx hl;have hof:=fun{st:St} {H:List bo} {place:Int} {x y:D} {h:List UInt8} {L:List GV} (hW:dr p place L) (hx:CD x L) (hy:dg y 1 (byteCells h)) (hb:bO h=true∨h=[]) (h3:h.length≤3) (hH:Has s0.bs.length S st H)=>Rf jX hF hp hW hx hy hb h3 hH;unfold Pg.d at*;(try change ag _ _ _ _ _ _);(repeat refine ag.seq ?_);(try generalize hK:aZ _ _ _ _=K);refine ag.cT ?_;refine ς (.inl rfl) rfl (ev rfl) (aa rfl _) ?_;refine Wh rfl rfl (ax) (aa rfl _) ?_;refine ς (.inl rfl) rfl (ev rfl) (aa rfl _) ?_;refine Ψ rfl rfl rfl (aa rfl _) ?_;refine Ψ rfl rfl rfl (aa rfl _) ?_;refine Bv hH rfl rfl (fun _=>by dsimp only[Γ,γ,δ]<;>rfl) (fun k7 st SB hH=>?_);(try dsimp only[δ,γ,θ,ε,setMany,υ,φ,D.cells,τ,ε,Pg.cs] at hH);refine GB hH rfl (ev rfl) (ev rfl) (by first|rfl|exact(dg.cells (by assumption)).1|exact hH.cX (by first|exact aB|exact aO|exact a_|exact bh|exact bL|exact bT|exact cn|exact cm)|exact hH.fv (by first|exact aB|exact aO|exact a_|exact bh|exact bL|exact bT|exact cn|exact cm)|assumption) (by exact rfl) (by first|exact aB|exact aO|exact a_|exact bh|exact bL|exact bT|exact cn|exact cm) (by exact rfl) (by first|exact .inl hF|exact .inr rfl|exact .inr (by assumption)) (fun st hH=>?_);(try dsimp only[δ,γ,θ,ε,setMany,υ,φ,D.cells,τ,ε,Pg.cs] at hH);refine ς (.inr rfl) rfl (ev rfl) (by dsimp only[Γ,γ,δ]<;>rfl) ?_;refine Θ ?_;(try subst hK);(try change ag _ _ _ _ _ _);(try change ag _ _ _ _ _ _);(repeat refine ag.seq ?_);(try generalize hK:aZ _ _ _ _=K);refine ag.cT ?_
 first|refine Y' (m:=2) hH rfl (ev rfl) (by first|exact aB|exact aO|exact a_|exact bh|exact bL|exact bT|exact cn|exact cm) (by dsimp only[Ξ,Ω,Φ,Z5,Pg.cs]<;>rfl) rfl rfl (aa rfl _) ?_|refine Ut rfl (ev rfl) (by assumption) rfl (aa rfl _) ?_|refine VQ hH rfl (ev rfl) (by assumption) (by first|exact aB|exact aO|exact a_|exact bh|exact bL|exact bT|exact cn|exact cm) (by assumption) rfl (aa rfl _) ?_
 obtain⟨_,st,ax,kS,kd,kv,ks,q,ld,L,rfl,hq,hL,hM⟩:=Vt hF hH;refine Wh rfl rfl ax (aa rfl _) ?_;refine ς (.inl rfl) rfl (ev rfl) (aa rfl _) ?_;refine Ψ rfl rfl rfl (aa rfl _) ?_;refine Ψ rfl rfl rfl (aa rfl _) ?_;refine ς (.inr rfl) rfl (ev rfl) (by dsimp only[Γ,γ,δ]<;>rfl) ?_;refine ς (.inr rfl) rfl (ev rfl) (by dsimp only[Γ,γ,δ]<;>rfl) ?_;refine Θ ?_;(try subst hK);(try change ag _ _ _ _ _ _);obtain⟨E1,hH,rj⟩:=Ho hM
 have hH:Has s0.bs.length S st (.box k7 (.mem 0 false [p.cd,p.sd])::E1):=by
  have:=Has.jA E1 [_] (H:=[]) (by rw[ξ];exact hH)
  simpa only[ξ,θ,ε] using this
 cases ok with
 |false=>
  (try change ag _ _ _ _ _ _);(repeat refine ag.seq ?_);refine ag.dM 39 (.bool true) [] ?_ (fun ff tmp dj=>?_)
  ·refine ς (.inl rfl) rfl (ev rfl) (aa rfl _) ?_;refine Ψ rfl rfl rfl (aa rfl _) ?_;refine ς (.inl rfl) rfl (ev rfl) (aa rfl _) ?_;refine VM 32 rfl (fun br=>?_) (fun br=>?_)
   ·refine Q5 (aW rfl rfl rfl br) (aa rfl _) ?_;refine Q5 (aW rfl rfl rfl br) (aa rfl _) ?_;refine ki rfl rfl br (aa rfl _) ?_;refine ς (.inl rfl) rfl (ev rfl) (aa rfl _) ?_;refine Q5 rfl (aa rfl _) ?_;refine Q5 rfl (aa rfl _) ?_;refine Ψ rfl rfl rfl (aa rfl _) ?_;refine Θ (aR ?_ ?_)
    ·(try dsimp only[aK,χ,Δ,nth,δ,γ])
     all_goals(first|rfl|simp)
    ·(try dsimp only[JS,Γ,Zn,YQ,Zt,nth,Go.V.look,γ,δ,fh,ew,fe,fg,eu,dP,dO,ψ,θ,ε,ξ,ω,τ,ZD,υ,φ])
     all_goals(first|rfl|(simp[br];done)|(simp_all;done)|(simp[br];omega)|(simp_all;omega))
   ·refine ς (.inl rfl) (af rfl rfl rfl br) (ev rfl) (aa rfl _) ?_;refine Ψ (af rfl rfl rfl br) rfl rfl (aa rfl _) ?_;refine wt rfl rfl br (aa rfl _) ?_;refine ς (.inl rfl) rfl (ev rfl) (aa rfl _) ?_;refine VM 36 rfl (fun gR=>?_) (fun gR=>?_)
    ·refine Q5 (aW rfl rfl rfl gR) (aa rfl _) ?_;refine Q5 (aW rfl rfl rfl gR) (aa rfl _) ?_;refine ki rfl rfl gR (aa rfl _) ?_;refine Θ (aR ?_ ?_)
     ·(try dsimp only[aK,χ,Δ,nth,δ,γ])
      all_goals(first|rfl|simp)
     ·(try dsimp only[JS,Γ,Zn,YQ,Zt,nth,Go.V.look,γ,δ,fh,ew,fe,fg,eu,dP,dO,ψ,θ,ε,ξ,ω,τ,ZD,υ,φ])
      all_goals(first|rfl|(simp[br,gR];done)|(simp_all;done)|(simp[br,gR];omega)|(simp_all;omega))
    ·refine ς (.inl rfl) (af rfl rfl rfl gR) (ev rfl) (aa rfl _) ?_;refine Ψ (af rfl rfl rfl gR) rfl rfl (aa rfl _) ?_;refine wt rfl rfl gR (aa rfl _) ?_;refine Θ (aR ?_ ?_)
     ·(try dsimp only[aK,χ,Δ,nth,δ,γ])
      all_goals(first|rfl|simp)
     ·(try dsimp only[JS,Γ,Zn,YQ,Zt,nth,Go.V.look,γ,δ,fh,ew,fe,fg,eu,dP,dO,ψ,θ,ε,ξ,ω,τ,ZD,υ,φ])
      all_goals(first|rfl|(simp[br,gR];done)|(simp_all;done)|(simp[br,gR];omega)|(simp_all;omega))
  (try dsimp only[aK,χ,Δ,nth,δ,γ]);(try dsimp only[JS,Γ,Zn,YQ,Zt,nth,Go.V.look,γ,δ,fh,ew,fe,fg,eu,dP,dO,ψ,θ,ε,ξ,ω,τ,ZD,υ,φ]);(try change ag _ _ _ _ _ _);(try change ag _ _ _ _ _ _);(repeat refine ag.seq ?_);refine ag.cond (v:=true) (by first|rfl|assumption) (fun _=>?_) (fun h=>by cases h);(try change ag _ _ _ _ _ _);have br:(!false)=true:=rfl;(try change ag _ _ _ _ _ _);(repeat refine ag.seq ?_);(try generalize hK:aZ _ _ _ _=K);refine ag.cT ?_;refine ς (.inl rfl) rfl (ev rfl) (aa rfl _) ?_;refine Ψ rfl rfl rfl (aa rfl _) ?_;refine ς (.inl rfl) rfl (ev rfl) (aa rfl _) ?_;refine Wh (af rfl rfl rfl br) rfl (Ev.fz rfl rfl) (aa rfl _) ?_;refine ki rfl rfl br (aa rfl _) ?_;refine ς (.inr rfl) rfl (ev rfl) (by dsimp only[Γ,γ,δ]<;>rfl) ?_;refine Θ ?_;(try subst hK);(try change ag _ _ _ _ _ _);refine ag.ret ⟨fun i h=>(by cases h),_,rfl,dI (by simp) aN hH (rfl)⟩
 |true=>
  (try change ag _ _ _ _ _ _);(repeat refine ag.seq ?_);refine ag.dM 39 (.bool false) [] ?_ (fun ff tmp dj=>?_)
  ·refine ς (.inl rfl) rfl (ev rfl) (aa rfl _) ?_;refine Ψ rfl rfl rfl (aa rfl _) ?_;refine ς (.inl rfl) rfl (ev rfl) (aa rfl _) ?_;refine VM 32 rfl (fun br=>?_) (fun br=>?_)
   ·refine Q5 (aW rfl rfl rfl br) (aa rfl _) ?_;refine Q5 (aW rfl rfl rfl br) (aa rfl _) ?_;refine ki rfl rfl br (aa rfl _) ?_;refine ς (.inl rfl) rfl (ev rfl) (aa rfl _) ?_;refine Q5 rfl (aa rfl _) ?_;refine Q5 rfl (aa rfl _) ?_;refine Ψ rfl rfl rfl (aa rfl _) ?_;refine Θ (aR ?_ ?_)
    ·(try dsimp only[aK,χ,Δ,nth,δ,γ])
     all_goals(first|rfl|simp)
    ·(try dsimp only[JS,Γ,Zn,YQ,Zt,nth,Go.V.look,γ,δ,fh,ew,fe,fg,eu,dP,dO,ψ,θ,ε,ξ,ω,τ,ZD,υ,φ])
     all_goals(first|rfl|(simp[br];done)|(simp_all;done)|(simp[br];omega)|(simp_all;omega))
   ·refine ς (.inl rfl) (af rfl rfl rfl br) (ev rfl) (aa rfl _) ?_;refine Ψ (af rfl rfl rfl br) rfl rfl (aa rfl _) ?_;refine wt rfl rfl br (aa rfl _) ?_;refine ς (.inl rfl) rfl (ev rfl) (aa rfl _) ?_;refine VM 36 rfl (fun gR=>?_) (fun gR=>?_)
    ·refine Q5 (aW rfl rfl rfl gR) (aa rfl _) ?_;refine Q5 (aW rfl rfl rfl gR) (aa rfl _) ?_;refine ki rfl rfl gR (aa rfl _) ?_;refine Θ (aR ?_ ?_)
     ·(try dsimp only[aK,χ,Δ,nth,δ,γ])
      all_goals(first|rfl|simp)
     ·(try dsimp only[JS,Γ,Zn,YQ,Zt,nth,Go.V.look,γ,δ,fh,ew,fe,fg,eu,dP,dO,ψ,θ,ε,ξ,ω,τ,ZD,υ,φ])
      all_goals(first|rfl|(simp[br,gR];done)|(simp_all;done)|(simp[br,gR];omega)|(simp_all;omega))
    ·refine ς (.inl rfl) (af rfl rfl rfl gR) (ev rfl) (aa rfl _) ?_;refine Ψ (af rfl rfl rfl gR) rfl rfl (aa rfl _) ?_;refine wt rfl rfl gR (aa rfl _) ?_;refine Θ (aR ?_ ?_)
     ·(try dsimp only[aK,χ,Δ,nth,δ,γ])
      all_goals(first|rfl|simp)
     ·(try dsimp only[JS,Γ,Zn,YQ,Zt,nth,Go.V.look,γ,δ,fh,ew,fe,fg,eu,dP,dO,ψ,θ,ε,ξ,ω,τ,ZD,υ,φ])
      all_goals(first|rfl|(simp[br,gR];done)|(simp_all;done)|(simp[br,gR];omega)|(simp_all;omega))
  (try dsimp only[aK,χ,Δ,nth,δ,γ]);(try dsimp only[JS,Γ,Zn,YQ,Zt,nth,Go.V.look,γ,δ,fh,ew,fe,fg,eu,dP,dO,ψ,θ,ε,ξ,ω,τ,ZD,υ,φ]);(try change ag _ _ _ _ _ _);(try change ag _ _ _ _ _ _);(repeat refine ag.seq ?_);refine ag.cond (v:=false) (by first|rfl|assumption) (fun h=>by cases h) (fun _=>?_);(try change ag _ _ _ _ _ _);refine ag.skip ?_;(try change ag _ _ _ _ _ _);have YD:=hq.right hR;have YN:q.code.length=p.code.length:=by rw[hq.code,ζ]
  have TS:L.length=q.ak.length:=by
   have:=congrArg ψ hL;rw[ζ,h0l] at this;rw[hq.ak];exact this
  have vQ:∀l∈L,l.pl.ok q.code.length:=by rw[YN];exact ia (by rw[hL];exact S7)
  have RW:∀b x,dH q.code (aG q) b x=dH p.code (aG p) b x:=fun b x=>by rw[hq.code,hq.aG,rF]
  obtain⟨_,MB,k,rfl,kq⟩:=oR (s0:=st) n B.length (by omega)
  (try change ag _ _ _ _ _ _);(repeat refine ag.seq ?_);(try generalize hK:aZ _ _ _ _=K);refine ag.cT ?_;refine ς (.inl rfl) rfl (ev rfl) (aa rfl _) ?_;refine ς (.inl rfl) rfl (ev rfl) (aa rfl _) ?_;refine ab.kW rfl (ev rfl) (J'.rows hH) rfl (aa rfl _) ?_;rw[uN];refine Wh rfl rfl (MB) (aa rfl _) ?_;refine ς (.inr rfl) rfl (ev rfl) (by dsimp only[Γ,γ,δ]<;>rfl) ?_;refine Θ ?_;(try subst hK);(try change ag _ _ _ _ _ _);have hkc:k≤(byteCells B).length:=by omega
  have LX:(B.take k).length≤100:=by rw[ν];omega
  obtain⟨c1,c2,c3,c4,hW,hB⟩:=pM hR LX;have QR:=qZ hR LX;have PO:=tK _ LX
  obtain⟨h,pl,ls,hX⟩:∃h pl ls,rm p (B.take k)=(h,pl,ls):=⟨_,_,_,rfl⟩
  have hQ:rn p (B.take k)=(h,(pl:Int),ls.map PL.gt):=by unfold rn;rw[hX]
  rw[hQ] at hW hB QR PO;rw[hX] at c1 c2 c3 c4;dsimp only at c1 c2 c3 c4 hW hB;have hg:=QR.g;have h3:=QR.h;dsimp only at hg h3;have AD:=hg.Od;have YA:=fun st=>pU (s0:=st) QR;have VY:=Jx (place:=(pl:Int)) AD (eM h) (by omega);rw[b_ ⟨hW,hB⟩,if_pos rfl] at VY;obtain⟨L',VZ,hdk,_,_⟩:=JT hW hg h3 hB
  have aaU:(l9 p h (pl:Int) (ls.map PL.gt)).length≤68719476736:=by
   have QO:=lM (L:=ls.map PL.gt) (by have:=hg.n;omega) (fun g hm=>by have:=(hg.t g hm).2;omega);have YF:=aV (cx p);have Ax:=aV (h.length:Nat);have Vv:=aV (pl:Nat);unfold l9 kV eK;simp only[ι];omega
  have MD:=fun(st:St)=>hde st _ _ (ig st (l9 p h (pl:Int) (ls.map PL.gt))) aaU;rw[VZ] at MD
  have SQ:ot (0,h,(pl:Int),L')=.tup [mh (h,(pl:Int),ls.map PL.gt),.int .i64 0]:=by
   unfold ot mh oL;dsimp only;rw[hdk]
  rw[SQ] at MD;have Vs:=fun{st:St} {H:List bo} (hH:Has s0.bs.length S st H)=>hof hW AD (eM h) hB h3 hH;rw[Wn,Int.toNat_natCast] at Vs;unfold mh at PO MD YA;dsimp only at PO MD YA;(try change ag _ _ _ _ _ _);(repeat refine ag.seq ?_);(try generalize hK:aZ _ _ _ _=K);refine ag.cT ?_
  first|refine Y' (m:=2) hH rfl (ev rfl) (by first|exact aB|exact aO|exact a_|exact bh|exact bL|exact bT|exact cn|exact cm) (by dsimp only[Ξ,Ω,Φ,Z5,Pg.cs]<;>rfl) rfl rfl (aa rfl _) ?_|refine Ut rfl (ev rfl) (by assumption) rfl (aa rfl _) ?_|refine VQ hH rfl (ev rfl) (by assumption) (by first|exact aB|exact aO|exact a_|exact bh|exact bL|exact bT|exact cn|exact cm) (by assumption) rfl (aa rfl _) ?_
  refine ς (.inl rfl) rfl (ev rfl) (aa rfl _) ?_;refine ς (.inl rfl) rfl (ev rfl) (aa rfl _) ?_
  first|refine ab.xi rfl (ev rfl) (by assumption) rfl rfl (et (by first|omega|(simp only[ζ,κ,ο,ι,π,ν,μ,ρ,η];omega))) (fun _=>(aa rfl _)) (fun y53 UK=>?_)|refine ab.Bp rfl (ev rfl) (by assumption) hH rfl rfl (et (by first|omega|(simp only[ζ,κ,ο,ι,π,ν,μ,ρ,η];omega))) ⟨(by first|omega|(simp only[ζ,κ,ο,ι,π,ν,μ,ρ,η];omega)),(by first|omega|(simp only[ζ,κ,ο,ι,π,ν,μ,ρ,η];omega))⟩ (fun _=>(aa rfl _)) (fun y53 UK=>?_)|(refine ab.o8 hH rfl (ev rfl) (by first|exact aB|exact aO|exact a_|exact bh|exact bL|exact bT|exact cn|exact cm) rfl rfl (et (by first|omega|(simp only[ζ,κ,ο,ι,π,ν,μ,ρ,η];omega))) ⟨(by first|omega|(simp only[ζ,κ,ο,ι,π,ν,μ,ρ,η];omega)),(by first|omega|(simp only[ζ,κ,ο,ι,π,ν,μ,ρ,η];omega))⟩ (fun _=>(aa rfl _)) (fun y53 hH=>?_))
  refine Wh rfl rfl (PO _ _ (Oz UK)) (aa rfl _) ?_;refine ς (.inl rfl) rfl (ev rfl) (aa rfl _) ?_;refine Ψ rfl rfl rfl (aa rfl _) ?_;refine Ψ rfl rfl rfl (aa rfl _) ?_;refine Bv hH rfl rfl (fun _=>by dsimp only[Γ,γ,δ]<;>rfl) (fun k12 st VH hH=>?_);(try dsimp only[δ,γ,θ,ε,setMany,υ,φ,D.cells,τ,ε,Pg.cs] at hH);refine GB hH rfl (ev rfl) (ev rfl) (by first|rfl|exact(dg.cells (by assumption)).1|exact hH.cX (by first|exact aB|exact aO|exact a_|exact bh|exact bL|exact bT|exact cn|exact cm)|exact hH.fv (by first|exact aB|exact aO|exact a_|exact bh|exact bL|exact bT|exact cn|exact cm)|assumption) (by exact rfl) (by first|exact aB|exact aO|exact a_|exact bh|exact bL|exact bT|exact cn|exact cm) (by exact rfl) (by first|exact .inl hF|exact .inr rfl|exact .inr (by assumption)) (fun st hH=>?_);(try dsimp only[δ,γ,θ,ε,setMany,υ,φ,D.cells,τ,ε,Pg.cs] at hH);refine ς (.inr rfl) rfl (ev rfl) (by dsimp only[Γ,γ,δ]<;>rfl) ?_;refine Θ ?_;(try subst hK);(try change ag _ _ _ _ _ _);(try change ag _ _ _ _ _ _);(repeat refine ag.seq ?_);(try generalize hK:aZ _ _ _ _=K);refine ag.cT ?_
  first|refine Y' (m:=2) hH rfl (ev rfl) (by first|exact aB|exact aO|exact a_|exact bh|exact bL|exact bT|exact cn|exact cm) (by dsimp only[Ξ,Ω,Φ,Z5,Pg.cs]<;>rfl) rfl rfl (aa rfl _) ?_|refine Ut rfl (ev rfl) (by assumption) rfl (aa rfl _) ?_|refine VQ hH rfl (ev rfl) (by assumption) (by first|exact aB|exact aO|exact a_|exact bh|exact bL|exact bT|exact cn|exact cm) (by assumption) rfl (aa rfl _) ?_
  first|refine Y' (m:=2) hH rfl (ev rfl) (by first|exact aB|exact aO|exact a_|exact bh|exact bL|exact bT|exact cn|exact cm) (by dsimp only[Ξ,Ω,Φ,Z5,Pg.cs]<;>rfl) rfl rfl (aa rfl _) ?_|refine Ut rfl (ev rfl) (by assumption) rfl (aa rfl _) ?_|refine VQ hH rfl (ev rfl) (by assumption) (by first|exact aB|exact aO|exact a_|exact bh|exact bL|exact bT|exact cn|exact cm) (by assumption) rfl (aa rfl _) ?_
  refine Y' (m:=3) (r:=[bF h,.int .i64 (pl:Nat),oL (ls.map PL.gt)]) hH rfl (ev rfl) aB rfl rfl rfl (aa rfl _) ?_;refine Wh rfl rfl ((VY _)) (aa rfl _) ?_;refine Wh rfl rfl ((MD _)) (aa rfl _) ?_;refine ς (.inl rfl) rfl (ev rfl) (aa rfl _) ?_;refine Ψ rfl rfl rfl (aa rfl _) ?_;refine Ψ rfl rfl rfl (aa rfl _) ?_;refine Bv hH rfl rfl (fun _=>by dsimp only[Γ,γ,δ]<;>rfl) (fun k14 st PC hH=>?_);(try dsimp only[δ,γ,θ,ε,setMany,υ,φ,D.cells,τ,ε,Pg.cs] at hH);refine GB hH rfl (ev rfl) (ev rfl) (by first|rfl|exact(dg.cells (by assumption)).1|exact hH.cX (by first|exact aB|exact aO|exact a_|exact bh|exact bL|exact bT|exact cn|exact cm)|exact hH.fv (by first|exact aB|exact aO|exact a_|exact bh|exact bL|exact bT|exact cn|exact cm)|assumption) (by exact rfl) (by first|exact aB|exact aO|exact a_|exact bh|exact bL|exact bT|exact cn|exact cm) (by exact rfl) (by first|exact .inl hF|exact .inr rfl|exact .inr (by assumption)) (fun st hH=>?_);(try dsimp only[δ,γ,θ,ε,setMany,υ,φ,D.cells,τ,ε,Pg.cs] at hH);refine ς (.inr rfl) rfl (ev rfl) (by dsimp only[Γ,γ,δ]<;>rfl) ?_;refine Θ ?_;(try subst hK);(try change ag _ _ _ _ _ _);(try change ag _ _ _ _ _ _);(repeat refine ag.seq ?_);(try generalize hK:aZ _ _ _ _=K);refine ag.cT ?_
  first|refine Y' (m:=2) hH rfl (ev rfl) (by first|exact aB|exact aO|exact a_|exact bh|exact bL|exact bT|exact cn|exact cm) (by dsimp only[Ξ,Ω,Φ,Z5,Pg.cs]<;>rfl) rfl rfl (aa rfl _) ?_|refine Ut rfl (ev rfl) (by assumption) rfl (aa rfl _) ?_|refine VQ hH rfl (ev rfl) (by assumption) (by first|exact aB|exact aO|exact a_|exact bh|exact bL|exact bT|exact cn|exact cm) (by assumption) rfl (aa rfl _) ?_
  refine Y' (m:=3) (r:=[bF h,.int .i64 (pl:Nat),oL (ls.map PL.gt)]) hH rfl (ev rfl) aB rfl rfl rfl (aa rfl _) ?_;obtain⟨_,st,ax,kT,Zv,wo,vJ,q2,Cx,L2,rfl,tI,H9,hM2⟩:=Vs hH;refine Wh rfl rfl ax (aa rfl _) ?_;refine ς (.inl rfl) rfl (ev rfl) (aa rfl _) ?_;refine Ψ rfl rfl rfl (aa rfl _) ?_;refine Ψ rfl rfl rfl (aa rfl _) ?_;refine ς (.inr rfl) rfl (ev rfl) (by dsimp only[Γ,γ,δ]<;>rfl) ?_;refine ς (.inr rfl) rfl (ev rfl) (by dsimp only[Γ,γ,δ]<;>rfl) ?_;refine Θ ?_;(try subst hK);(try change ag _ _ _ _ _ _);obtain⟨E2,hH,hk2⟩:=Ho hM2;have hH:Has s0.bs.length S st ([_,_,_]++(E2++E1)):=Has.jA E2 [_,_,_] hH;dsimp only[θ,ε] at hH;have br:(!true)=false:=rfl;have gR:false=false:=rfl;have ek:false=false:=rfl;have dF:false=false:=rfl;(try change ag _ _ _ _ _ _);(repeat refine ag.seq ?_);(try generalize hK:aZ _ _ _ _=K);refine ag.cT ?_;refine ς (.inl rfl) rfl (ev rfl) (aa rfl _) ?_;refine Ψ rfl rfl rfl (aa rfl _) ?_;refine ς (.inl rfl) rfl (ev rfl) (aa rfl _) ?_;refine ς (.inl rfl) (af rfl rfl rfl br) (ev rfl) (aa rfl _) ?_;refine Ψ (af rfl rfl rfl br) rfl rfl (aa rfl _) ?_;refine wt rfl rfl br (aa rfl _) ?_;refine ς (.inl rfl) rfl (ev rfl) (aa rfl _) ?_;refine ς (.inl rfl) (af rfl rfl rfl gR) (ev rfl) (aa rfl _) ?_;refine Ψ (af rfl rfl rfl gR) rfl rfl (aa rfl _) ?_;refine wt rfl rfl gR (aa rfl _) ?_;refine ς (.inl rfl) rfl (ev rfl) (aa rfl _) ?_;refine ς (.inl rfl) (af rfl rfl rfl ek) (ev rfl) (aa rfl _) ?_;refine Ψ (af rfl rfl rfl ek) rfl rfl (aa rfl _) ?_;refine wt rfl rfl ek (aa rfl _) ?_;refine ς (.inl rfl) rfl (ev rfl) (aa rfl _) ?_;refine Y' (m:=3) (r:=[bF h,.int .i64 (pl:Nat),oL (ls.map PL.gt)]) hH (af rfl rfl rfl dF) (ev rfl) aO rfl rfl rfl (aa rfl _) ?_;refine Y' (m:=3) (r:=[bF h,.int .i64 (pl:Nat),oL (ls.map PL.gt)]) hH (af rfl rfl rfl dF) (ev rfl) aB rfl rfl rfl (aa rfl _) ?_;refine Wh (af rfl rfl rfl dF) rfl ((YA _)) (aa rfl _) ?_;refine Ψ (af rfl rfl rfl dF) rfl rfl (aa rfl _) ?_;refine wt rfl rfl dF (aa rfl _) ?_;refine Θ ?_;(try subst hK);(try change ag _ _ _ _ _ _);(try change ag _ _ _ _ _ _);(repeat refine ag.seq ?_);refine ag.cond (v:=false) (by first|assumption|(dsimp only[YQ,Zt,nth,Go.V.look];rfl)) (fun h=>by cases h) (fun _=>?_);(try change ag _ _ _ _ _ _);refine ag.skip ?_;(try change ag _ _ _ _ _ _);have hH:Has s0.bs.length S st (E2++E1):=hH.drop 3;have hX0:=hX;unfold rm at hX;have Vb:=tI.right hR;have V0:q2.code.length=p.code.length:=by rw[tI.code,ζ]
  have aa7:L2.length=q2.ak.length:=by
   have:=congrArg ψ H9;rw[ζ,c3] at this;rw[tI.ak];exact this
  have MP:∀l∈L2,l.pl.ok q2.code.length:=by rw[V0];exact ia (by rw[H9];exact c4)
  have U1:∀b x,dH q2.code (aG q2) b x=dH p.code (aG p) b x:=fun b x=>by rw[tI.code,tI.aG,rF]
  have hBB:B.length≤100:=by omega
  obtain⟨d1,d2,d3,d4,_,YV⟩:=pM hR hBB;have VO:=qZ hR hBB
  obtain⟨h5,Uc,Uu,Wb⟩:∃h pl ls,rm p B=(h,pl,ls):=⟨_,_,_,rfl⟩
  have hQ5:rn p B=(h5,(Uc:Int),Uu.map PL.gt):=by unfold rn;rw[Wb]
  rw[hQ5] at VO YV;rw[Wb] at d1 d2 d3 d4;dsimp only at d1 d2 d3 d4 YV;unfold rm at Wb
  have hX6:dH p.code (aG p) (B.drop k) (h,pl,ls)=(h5,Uc,Uu):=by
   rw[←hX,←Wb];unfold dH;rw[←List.foldl_append,List.take_append_drop]
  have hM1:=rj st E2 (by have:=Has.jA E2 E1 (H:=[]) (by rw[ξ];exact hH);rwa [ξ] at this);(try change ag _ _ _ _ _ _);(repeat refine ag.seq ?_);(try generalize hK:aZ _ _ _ _=K);refine ag.cT ?_;refine ς (.inl rfl) rfl (ev rfl) (aa rfl _) ?_;refine ς (.inl rfl) rfl (ev rfl) (aa rfl _) ?_;obtain⟨_,st,ax,rfl,ld3,L3,Ek,hM3⟩:=wY (b:=B) jX hF hq.ok YD J' (by omega) (by omega) (by simp) TS vQ hM1;rw[RW,hL,Wb] at Ek hM3;refine Wh rfl rfl ax (aa rfl _) ?_;refine Θ ?_;(try subst hK);(try change ag _ _ _ _ _ _);dsimp only at Ek hM3;obtain⟨E3,hH,oC⟩:=Ho hM3;have hM2:=hk2 st E3 (by have:=Has.jA E3 E2 (H:=[]) (by rw[ξ];exact hH);rwa [ξ] at this);(try change ag _ _ _ _ _ _);(repeat refine ag.seq ?_);(try generalize hK:aZ _ _ _ _=K);refine ag.cT ?_;refine ς (.inl rfl) rfl (ev rfl) (aa rfl _) ?_;refine ς (.inl rfl) rfl (ev rfl) (aa rfl _) ?_;refine ς (.inl rfl) rfl (ev rfl) (aa rfl _) ?_
  first|refine ab.xi rfl (ev rfl) (by assumption) rfl rfl (mH (by first|omega|(simp only[ζ,κ,ο,ι,π,ν,μ,ρ,η];omega))) (fun _=>(aa rfl _)) (fun y97 UH=>?_)|refine ab.Bp rfl (ev rfl) (by assumption) hH rfl rfl (mH (by first|omega|(simp only[ζ,κ,ο,ι,π,ν,μ,ρ,η];omega))) ⟨(by first|omega|(simp only[ζ,κ,ο,ι,π,ν,μ,ρ,η];omega)),(by first|omega|(simp only[ζ,κ,ο,ι,π,ν,μ,ρ,η];omega))⟩ (fun _=>(aa rfl _)) (fun y97 UH=>?_)|(refine ab.o8 hH rfl (ev rfl) (by first|exact aB|exact aO|exact a_|exact bh|exact bL|exact bT|exact cn|exact cm) rfl rfl (mH (by first|omega|(simp only[ζ,κ,ο,ι,π,ν,μ,ρ,η];omega))) ⟨(by first|omega|(simp only[ζ,κ,ο,ι,π,ν,μ,ρ,η];omega)),(by first|omega|(simp only[ζ,κ,ο,ι,π,ν,μ,ρ,η];omega))⟩ (fun _=>(aa rfl _)) (fun y97 hH=>?_))
  obtain⟨_,st,ax,rfl,ld4,L4,TT,PU⟩:=wY (b:=B.drop k) jX hF tI.ok Vb ((OA UH (by omega)).arg s0.bs.length S) (by rw[μ];omega) (by rw[μ];omega) h3 aa7 MP hM2;rw[U1,H9,hX6] at TT PU;refine Wh rfl rfl ax (aa rfl _) ?_;refine Θ ?_;(try subst hK);(try change ag _ _ _ _ _ _);dsimp only at TT PU;obtain⟨js4,hA4⟩:=PU.as;obtain⟨E4,hH,QQ⟩:=Ho PU;obtain⟨js3,hA3⟩:=(oC st E4 (by have:=Has.jA E4 E3 (H:=[]) (by rw[ξ];exact hH);rwa [ξ] at this)).as;have Wg:L3.length=p.ak.length:=by rw[←d3,←Ek,ζ]
  have AG:∀l∈L3,l.pl.ok p.code.length:=ia (by rw[Ek];exact d4);have aa5:L4.length=p.ak.length:=by rw[←d3,←TT,ζ]
  have QU:∀l∈L4,l.pl.ok p.code.length:=ia (by rw[TT];exact d4);obtain⟨_,st2,N7,rfl,sO⟩:=wX hq.ok (by omega) (Hz AG) hA3;rw[sO,Ek] at N7;clear sO st2;obtain⟨_,st2,YB,rfl,sO⟩:=wX tI.ok (by omega) (Hz QU) hA4;rw[sO,TT] at YB;clear sO st2;have U2:∀gs pl ls,iJ q.code (aG q) gs pl ls=iJ p.code (aG p) gs pl ls:=fun gs pl ls=>by rw[hq.code,hq.aG,pV]
  have VX:∀pl,pH q.code pl=pH p.code pl:=fun pl=>by rw[hq.code,AR]
  have R0:∀gs pl ls,iJ q2.code (aG q2) gs pl ls=iJ p.code (aG p) gs pl ls:=fun gs pl ls=>by rw[tI.code,tI.aG,pV]
  have SN:∀pl,pH q2.code pl=pH p.code pl:=fun pl=>by rw[tI.code,AR]
  obtain⟨_,st2,he3,rfl,sO⟩:=C9 jX hq.ok YD (by omega) (by rw[hq.ak];exact Wg) (by rw[YN];exact AG) YV d1 hA3;rw[sO,U2,VX,Ek] at he3;clear sO st2;obtain⟨_,st2,he4,rfl,sO⟩:=C9 jX tI.ok Vb (by omega) (by rw[tI.ak];exact aa5) (by rw[V0];exact QU) YV d1 hA4;rw[sO,R0,SN,TT] at he4;clear sO st2;have RX:=fun st=>pU (s0:=st) VO;rw[←MV] at RX;simp only[KQ] at N7 YB RX;obtain⟨sQ,mP⟩:=wg hR (oA h5.length) Uc Uu d3 d4;generalize hE:(iJ p.code (aG p) (oA h5.length) Uc Uu).2.map (pH p.code (iJ p.code (aG p) (oA h5.length) Uc Uu).1)=EE at*;have hEl:EE.length=p.ak.length:=by rw[←hE,ζ];exact sQ
  have hEt:∀l∈EE,l.bn.length≤1000:=fun l hl=>by
   rw[←hE] at hl;obtain⟨x,_,rfl⟩:=List.mem_map.1 hl;exact Nat.zero_le _
  have cK:true=true:=rfl;have eV:true=true:=rfl;(try change ag _ _ _ _ _ _);(repeat refine ag.seq ?_);(try generalize hK:aZ _ _ _ _=K);refine ag.cT ?_;refine ς (.inl rfl) rfl (ev rfl) (aa rfl _) ?_;refine Wh rfl rfl N7 (aa rfl _) ?_;refine ς (.inl rfl) rfl (ev rfl) (aa rfl _) ?_;refine Wh rfl rfl YB (aa rfl _) ?_;refine Wh rfl rfl ((RX _)) (aa rfl _) ?_;refine ς (.inl rfl) rfl (ev rfl) (aa rfl _) ?_;refine ς (.inl rfl) (af rfl rfl rfl cK) (ev rfl) (aa rfl _) ?_;refine Wh (af rfl rfl rfl cK) rfl he3 (aa rfl _) ?_;refine ς (.inl rfl) (af rfl rfl rfl cK) (ev rfl) (aa rfl _) ?_;refine Wh (af rfl rfl rfl cK) rfl he4 (aa rfl _) ?_;refine Wh (af rfl rfl rfl cK) rfl (LP ((DN EE).rows _) ((DN EE).rows _) (xO EE) (xO EE) (by omega) hEt) (aa rfl _) ?_;refine ki rfl rfl cK (aa rfl _) ?_;refine ς (.inl rfl) rfl (ev rfl) (aa rfl _) ?_;refine Wh (af rfl rfl rfl eV) rfl (Ev.fz rfl rfl) (aa rfl _) ?_;refine ki rfl rfl eV (aa rfl _) ?_;refine ς (.inr rfl) rfl (ev rfl) (by dsimp only[Γ,γ,δ]<;>rfl) ?_;refine Θ ?_;(try subst hK);(try change ag _ _ _ _ _ _);refine ag.ret ⟨fun i h=>(by cases h),_,rfl,dI (by simp) aN hH (rfl)⟩
theorem own:ownKnob Tryz.prog.godebug=none:=by kernel_rfl
theorem laidOut:laidOutB Tryz.prog=true:=by kernel_rfl
theorem lifted (os:Os) (started:os.Started) (H:Type) (enc:TypeId×Value→H) (F:Stop.Interp):
  ReturnsInHanded {} Tryz.checked os 9 .any ((Rows.OpenSpec.upto Rows.stateBackSpec).pre6 enc Tryz.prog Tryz.f9 Rows.stateBackUptoRow.domain false) (((Rows.OpenSpec.upto Rows.stateBackSpec).at F).post enc Tryz.prog Tryz.f9 false true false false):=by
 refine returnsInHanded_of_cond (C:=Tryz.checked) (s:=Rows.OpenSpec.upto Rows.stateBackSpec) (k:=Rows.uptoSmall) rfl own started (by kernel_rfl) Tryz.func9
  (OpenSpec.witness (enc:=enc) (C:=Tryz.checked) (s:=Rows.OpenSpec.upto Rows.stateBackSpec) (k:=Rows.uptoSmall) rfl false ⟨#[],#[.slice none 0 0,.slice none 0 0,.int .i64 0],[]⟩ 8 (by kernel_rfl) (by kernel_rfl) (by kernel_rfl)
   (x:=([.nil,.nil,.lit (.int .i64 0)],[],[])) (by kernel_rfl) rfl (by kernel_rfl)) ?_
 intro W base args ds gs before hval hW _ hk _;have H7:=hW;obtain⟨p,q,Em,hV,rfl,hfz,Ay⟩:=hW;have hA:DataW.TrodAll enc Tryz.prog W 0 (fun _=>true) true Tryz.f9.params.toList args.toList ds p:=Em;rw[Tryz.params9] at hA hval;obtain⟨v0,T3,d0,X9,p0,q0,ym,rfl,rfl,h0,r0⟩:=trodAll_cons hA;obtain⟨v1,T2,d1,X8,p1,q1,rfl,rfl,rfl,h1,r1⟩:=trodAll_cons r0;obtain⟨v2,T1,d2,X7,p2,q2,rfl,rfl,rfl,h2,r2⟩:=trodAll_cons r1;obtain⟨rfl,rfl,rfl⟩:=trodAll_nil r2;obtain rfl:args=#[v0,v1,v2]:=by cases args;simp_all
 obtain⟨rfl,rfl⟩:=trodVars_none hV;simp only[Rows.uptoSmall,ξ,ε,List.singleton_append,θ,decide_eq_true_eq,Rows.uptoBulkAll] at hk;have i0:=dG h0 (n:=12) (by kernel_rfl) (hval 0 22 v0 rfl rfl);have k0:=h0;have LO:∀x∈p0,x.block<W.heap.size:=by obtain⟨m,hm⟩:=k0;exact DataW.trod_lt m _ _ _ hm
 obtain⟨y0,b0,nN,OB,Lq⟩:=me (Rd.of h0);have i1:=dG h1 (n:=12) (by kernel_rfl) (hval 1 23 v1 rfl rfl);have k1:=h1;have LN:∀x∈p1,x.block<W.heap.size:=by obtain⟨m,hm⟩:=k1;exact DataW.trod_lt m _ _ _ hm
 obtain⟨y1,b1,hb1,KK,Lp⟩:=lJ (Rd.of h1);have i2:=dG h2 (n:=12) (by kernel_rfl) (hval 2 3 v2 rfl rfl);have k2:=h2;have LM:∀x∈p2,x.block<W.heap.size:=by obtain⟨m,hm⟩:=k2;exact DataW.trod_lt m _ _ _ hm
 obtain⟨b2,hb2,L6,w2⟩:=tB h2 Tryz.underlying3
 have yg:Ev pv 9 [bY d0,bY d1,bY d2] ⟨[],0,0⟩ (.bool true) ⟨[],0,0⟩:=by
  rw[nN,hb1,hb2];exact law y0 b0 OB (Lq (by omega)) y1 b1 KK (Lp (by omega)) b2 w2
 have Gl:∀(i:Nat) c v,[bY d0,bY d1,bY d2][i]?=some c→[v0,v1,v2][i]?=some v→IR W (fun b=>b<W.heap.size) c v:=by
  intro i c v hc hv
  match i,hc,hv with
  |0,hc,hv=>cases hc;cases hv;exact i0
  |1,hc,hv=>cases hc;cases hv;exact i1
  |2,hc,hv=>cases hc;cases hv;exact i2
 clear Em;refine(lN view yg (us:=[v0,v1,v2]) rfl Gl).mono fun e W' ⟨he,qY⟩=>?_;subst he;exact⟨_,rfl,_,_,_,[],_,[],H7,trodAll_mk1 (shut_bool Tryz.underlying4 _),(trodAll_cons_mk (Below.trod laidOut (by kernel_rfl) (of_decide_eq_true (by kernel_rfl)) k0 qY LO) (trodAll_cons_mk (Below.trod laidOut (by kernel_rfl) (of_decide_eq_true (by kernel_rfl)) k1 qY LN) (trodAll_cons_mk (Below.trod laidOut (by kernel_rfl) (of_decide_eq_true (by kernel_rfl)) k2 qY LM) trodAll_mk0))),rfl,qY.frame _,fun h=>by cases h⟩
theorem pG:(Rows.stateBackUptoRow.inPlace==Tryz.checked.prog.inPlace 9)=true:=by kernel_rfl
theorem pF:(Rows.stateBackUptoRow.unfollowed==Tryz.checked.prog.unfollowed 9)=true:=by kernel_rfl
theorem pE:(Rows.stateBackUptoRow.recurses==Tryz.checked.prog.recurses 9)=true:=by kernel_rfl
theorem pD:(Rows.stateBackUptoRow.named==Tryz.checked.prog.varsNamed 9)=true:=by kernel_rfl
theorem aI {a b:Bool} (h1:a=true) (h2:b=true):(a &&b)=true:=by rw[h1,h2];rfl
theorem facts:joinedFacts Tryz.checked.prog 9 Tryz.f9 (Rows.OpenSpec.upto Rows.stateBackSpec).bare Rows.stateBackUptoRow=true:=by
 unfold joinedFacts;exact aI (aI (aI (aI (aI (aI (aI (aI (aI (aI (aI (aI (aI (aI (aI (aI (aI (aI (aI (aI (aI (aI (aI (by kernel_rfl) pG) pF) pE) pD) (by kernel_rfl)) (by kernel_rfl)) (by kernel_rfl)) (by kernel_rfl)) (by kernel_rfl)) (by kernel_rfl)) (by kernel_rfl)) (by kernel_rfl)) (by kernel_rfl)) (by kernel_rfl)) (by kernel_rfl)) (by kernel_rfl)) (by kernel_rfl)) (by kernel_rfl)) (by kernel_rfl)) (by kernel_rfl)) (by kernel_rfl)) (by kernel_rfl)) (by kernel_rfl)
theorem proved:Rows.StateBackUptoSaid:=
 OpenClaim.holds_of_cond 9 Tryz.f9 rfl rfl rfl rfl rfl rfl rfl ⟨rfl,rfl,rfl,rfl,rfl⟩ rfl rfl rfl rfl rfl (by kernel_rfl) Tryz.func9 facts
  (of_decide_eq_true (by kernel_rfl)) (by unfold Func.isWrapper;first|(rw[if_pos (by decide+kernel)];kernel_rfl)|(rw[if_neg (by decide+kernel)];exact⟨rfl,rfl⟩))
  (fun os started H enc _ F=>lifted os started H enc F)
end Go.Proofs.YtecjacicdpejaaaGreat.stateBack
#print axioms Go.Proofs.YtecjacicdpejaaaGreat.stateBack.proved
