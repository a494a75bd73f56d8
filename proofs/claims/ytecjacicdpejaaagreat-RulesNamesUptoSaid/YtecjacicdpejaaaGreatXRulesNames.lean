/- RulesNames, for arguments of bulk at most 1048576: it answers true. -/
import Derived.Test.YtecjacicdpejaaaGreatXGEq
import Derived.Test.YtecjacicdpejaaaGreatXGEo
import Derived.Test.YtecjacicdpejaaaGreatRows
import Derived.WalkKit
import Derived.ProofKit
import Derived.OpenShut
import Derived.JoinedCond
import Derived.ChangeOld
set_option maxRecDepth 100000
set_option maxHeartbeats 4000000
set_option linter.unusedSimpArgs false
set_option linter.unusedVariables false
namespace Go.Proofs.YtecjacicdpejaaaGreat.rulesNames
open Go.ChangeShapes Go.WideShapes Go.ChangeAt Go.RowKit Go.V
def aL (fr:Go.V.Fr) (k:Nat):Go.V.D:=Go.V.nth .bp fr.loc k
theorem IU {s0:St} {s:GO} (hs:s.ok):∃y,Ev pv 49 [s.d] s0 (.agg [y,.str s.c]) s0∧gv y 2 ((s.l.take 12).map c8):=by
 obtain⟨x,l,c⟩:=s;obtain⟨hx,hl,_,_⟩:=hs;dsimp only at hx hl;unfold GO.d;dsimp only;have hcl:=hx.cells.1
 suffices hg:∃d,Ev pv 49 [.agg [x,.str c]] s0 d s0∧∃y,d=.agg [y,.str c]∧gv y 2 ((l.take 12).map c8) by
  obtain⟨d,h1,y,rfl,h2⟩:=hg;exact⟨y,h1,h2⟩
 refine Ev.GW rfl PU rfl rfl rfl ?_;dsimp only[List.cons_append,List.nil_append,List.length,Nat.reduceSub,Nat.reduceAdd,List.replicate_succ,List.replicate_zero];have bf:(ai .ro s0).bs=s0.bs:=rfl;have hF:(ai .ro s0).flr≤s0.bs.length:=Nat.le_refl _;have hH:Has s0.bs.length (ai .ro s0) (ai .ro s0) []:=Has.start (Nat.le_refl _) (Nat.le_refl _);generalize ai .ro s0=S at*;have FV:=hx.arg s0.bs.length S;(try change ag _ _ _ _ _ _);(repeat refine ag.seq ?_);(try generalize hK:bk _ _ _ _=K);refine ag.dt ?_;refine ae.w6 hH rfl rfl (fun _=>by dsimp only[Fr.put,List.set_cons_succ,List.set_cons_zero]<;>rfl) (fun k1 st lR hH=>?_);(try dsimp only[List.set_cons_zero,List.set_cons_succ,List.cons_append,List.nil_append,setMany,List.map_cons,List.map_nil,D.cells,Nat.reduceAdd,List.nil_append,c8] at hH);refine ae.D9 hH rfl rfl (fun _=>by dsimp only[Fr.put,List.set_cons_succ,List.set_cons_zero]<;>rfl) (fun k2 st hk2 hH=>?_);(try dsimp only[List.set_cons_zero,List.set_cons_succ,List.cons_append,List.nil_append,setMany,List.map_cons,List.map_nil,D.cells,Nat.reduceAdd,List.nil_append,c8] at hH);refine ae.nil ?_;(try subst hK);(try change ag _ _ _ _ _ _);(try change ag _ _ _ _ _ _);(repeat refine ag.seq ?_);(try generalize hK:bk _ _ _ _=K);refine ag.dt ?_;refine ae.dA (fo:=0) (m:=0) (o:=0) rfl (ev rfl) rfl rfl rfl (aa rfl _) ?_
 first|refine ae.eR hH rfl (ev rfl) (by first|exact ax|exact aX|exact bV|exact da|exact cM|exact ej|exact eW|exact eV) rfl (aa rfl _) ?_|refine ae.dr rfl (ev rfl) (by assumption) rfl (aa rfl _) ?_|refine ae.dZ hH rfl (ev rfl) (by assumption) (by first|exact ax|exact aX|exact bV|exact da|exact cM|exact ej|exact eW|exact eV) (by assumption) rfl (aa rfl _) ?_
 first|refine ae.j4 rfl (ev rfl) (Arg.rows (by assumption) hH) rfl (aa rfl _) ?_|refine ae.j4 rfl (ev rfl) (hH.rows (by first|exact ax|exact aX|exact bV|exact da|exact cM|exact ej|exact eW|exact eV)) rfl (aa rfl _) ?_|refine ae.lF rfl rfl rfl (aa rfl _) ?_|refine ae.go rfl rfl rfl (aa rfl _) ?_
 (try simp only[List.length_map,List.length_append,List.length_cons,List.length_nil,List.length_set,List.length_replicate,List.length_reverse]);refine ae.go rfl rfl rfl (aa rfl _) ?_;refine ae.nil ?_;(try subst hK);(try change ag _ _ _ _ _ _);(try change ag _ _ _ _ _ _);(repeat refine ag.seq ?_);refine ag.merge (fun fr st=>∃(y:D) (tmp:List (Nat×D)),fr=⟨3,[aL fr 0,.ptr k1 0 0,.ptr k2 0 0],tmp⟩∧Has s0.bs.length S st [.box k2 (.mem 0 false [.nul,.str []]),.box k1 (.mem 0 false [y,.str c])]∧(gv y 2 ((l.take 12).map c8))) ?_ ?_
 ·(try change ag _ _ _ _ _ _);(repeat refine ag.seq ?_);refine ag.cond (by first|rfl|assumption) (fun h1=>?_) (fun h1=>?_)<;>try simp only[decide_eq_true_eq,decide_eq_false_iff_not,beq_iff_eq,beq_eq_false_iff_ne,bne_iff_ne,bne_eq_false_iff_eq,ne_eq,Bool.not_eq_true',Bool.not_eq_false',Bool.not_eq_true,Bool.not_eq_false] at h1
  ·(try change ag _ _ _ _ _ _);(repeat refine ag.seq ?_);(try generalize hK:bk _ _ _ _=K);refine ag.dt ?_;refine ae.dA (fo:=0) (m:=0) (o:=0) rfl (ev rfl) rfl rfl rfl (aa rfl _) ?_
   first|refine ae.eR hH rfl (ev rfl) (by first|exact ax|exact aX|exact bV|exact da|exact cM|exact ej|exact eW|exact eV) rfl (aa rfl _) ?_|refine ae.dr rfl (ev rfl) (by assumption) rfl (aa rfl _) ?_|refine ae.dZ hH rfl (ev rfl) (by assumption) (by first|exact ax|exact aX|exact bV|exact da|exact cM|exact ej|exact eW|exact eV) (by assumption) rfl (aa rfl _) ?_
   first|refine ae.CV rfl (ev rfl) (by assumption) rfl rfl (oa (by first|omega|(simp only[List.length_map,List.length_reverse,List.length_cons,List.length_append,List.length_nil,List.length_take,List.length_drop,List.length_set,List.length_replicate];omega))) (fun _=>(aa rfl _)) (fun y9 N1=>?_)|refine ae.Hr rfl (ev rfl) (by assumption) hH rfl rfl (oa (by first|omega|(simp only[List.length_map,List.length_reverse,List.length_cons,List.length_append,List.length_nil,List.length_take,List.length_drop,List.length_set,List.length_replicate];omega))) ⟨(by first|omega|(simp only[List.length_map,List.length_reverse,List.length_cons,List.length_append,List.length_nil,List.length_take,List.length_drop,List.length_set,List.length_replicate];omega)),(by first|omega|(simp only[List.length_map,List.length_reverse,List.length_cons,List.length_append,List.length_nil,List.length_take,List.length_drop,List.length_set,List.length_replicate];omega))⟩ (fun _=>(aa rfl _)) (fun y9 N1=>?_)|(refine ae.Hz hH rfl (ev rfl) (by first|exact ax|exact aX|exact bV|exact da|exact cM|exact ej|exact eW|exact eV) rfl rfl (oa (by first|omega|(simp only[List.length_map,List.length_reverse,List.length_cons,List.length_append,List.length_nil,List.length_take,List.length_drop,List.length_set,List.length_replicate];omega))) ⟨(by first|omega|(simp only[List.length_map,List.length_reverse,List.length_cons,List.length_append,List.length_nil,List.length_take,List.length_drop,List.length_set,List.length_replicate];omega)),(by first|omega|(simp only[List.length_map,List.length_reverse,List.length_cons,List.length_append,List.length_nil,List.length_take,List.length_drop,List.length_set,List.length_replicate];omega))⟩ (fun _=>(aa rfl _)) (fun y9 hH=>?_))
   refine ae.dA (fo:=0) (m:=0) (o:=0) rfl (ev rfl) rfl rfl rfl (aa rfl _) ?_;refine ae.uJ hH rfl (ev rfl) (ev rfl) (by first|rfl|exact(gv.cells (by assumption)).1|exact hH.iR (by first|exact ax|exact aX|exact bV|exact da|exact cM|exact ej|exact eW|exact eV)|exact hH.rv (by first|exact ax|exact aX|exact bV|exact da|exact cM|exact ej|exact eW|exact eV)|assumption) (by exact rfl) (by first|exact ax|exact aX|exact bV|exact da|exact cM|exact ej|exact eW|exact eV) (by exact Nat.le_of_ble_eq_true rfl) (by first|exact .inl hF|exact .inr rfl|exact .inr (by assumption)) (fun st hH=>?_);(try dsimp only[List.set_cons_zero,List.set_cons_succ,List.cons_append,List.nil_append,setMany,List.map_cons,List.map_nil,D.cells,Nat.reduceAdd,List.nil_append,c8] at hH);refine ae.nil ?_;(try subst hK);(try change ag _ _ _ _ _ _);exact⟨_,_,rfl,hH,(by rw[List.drop_zero,←List.map_take] at N1;exact N1)⟩
  ·refine ag.skip ?_;(try change ag _ _ _ _ _ _);exact⟨x,_,rfl,hH,(by rw[List.take_of_length_le (by omega)];exact hx)⟩
 ·rintro fr st ⟨y,tmp,hfr,hH,hy⟩;rw[hfr];clear hfr;(try generalize aL fr=ee);clear fr;(try change ag _ _ _ _ _ _);(try change ag _ _ _ _ _ _);(repeat refine ag.seq ?_);(try generalize hK:bk _ _ _ _=K);refine ag.dt ?_
  first|refine ae.aV (m:=2) hH rfl (ev rfl) (by first|exact ax|exact aX|exact bV|exact da|exact cM|exact ej|exact eW|exact eV) (by dsimp only[List.drop_succ_cons,List.drop_zero,List.take_succ_cons,List.take_zero,c8]<;>rfl) rfl rfl (aa rfl _) ?_|refine ae.dr rfl (ev rfl) (by assumption) rfl (aa rfl _) ?_|refine ae.dZ hH rfl (ev rfl) (by assumption) (by first|exact ax|exact aX|exact bV|exact da|exact cM|exact ej|exact eW|exact eV) (by assumption) rfl (aa rfl _) ?_
  refine ae.b8 hH rfl (ev rfl) (ev rfl) (by first|rfl|exact(gv.cells (by assumption)).1|exact hH.iR (by first|exact ax|exact aX|exact bV|exact da|exact cM|exact ej|exact eW|exact eV)|exact hH.rv (by first|exact ax|exact aX|exact bV|exact da|exact cM|exact ej|exact eW|exact eV)|assumption) (by exact rfl) (by first|exact ax|exact aX|exact bV|exact da|exact cM|exact ej|exact eW|exact eV) (by exact rfl) (by first|exact .inl hF|exact .inr rfl|exact .inr (by assumption)) (fun st hH=>?_);(try dsimp only[List.set_cons_zero,List.set_cons_succ,List.cons_append,List.nil_append,setMany,List.map_cons,List.map_nil,D.cells,Nat.reduceAdd,List.nil_append,c8] at hH);refine ae.nil ?_;(try subst hK);(try change ag _ _ _ _ _ _);obtain⟨y',h1,h2⟩:=hy.freeze st s0.bs.length 14
  have h3:aH st s0.bs.length false 16 (.agg [y,.str c])=some (.agg [y',.str c]):=by
   show Option.map D.agg (dH (aH st s0.bs.length false 15) [y,.str c])=_;unfold dH;rw[h1]
   rfl
  refine ag.ret ⟨fun i h=>(by cases h),_,_,hH.cX rfl ax rfl,jj (by simp) bf hH h3,⟨y',rfl,h2⟩⟩
theorem oz:∀(l:List lh) (i:Nat) (T:List eC) (out:List (List bB)) (r:List eC×List (List bB)),ck l i T out=.ok r→r.1.length≤T.length+l.length
 |[],i,T,out,r,h=>by cases h;simp
 |p::l,i,T,out,r,h=>by
  unfold ck at h
  split at h
  ·cases h
  split at h
  ·cases h
  split at h
  ·cases h
  have h1:=oz l (i+1) _ _ r h;have h2:=pG T p.nm (i:Nat);rw[List.length_cons];omega
theorem Dp {l:List lh} {c:List UInt8} {r:List eC×kC×kC} (h:wC l c=.ok r):xA r.1∧(∀u,u∈r.1↔∃(j:Nat) (p:lh),l[j]?=some p∧u=⟨p.nm,((j:Nat):Int)⟩)∧r.1.length≤l.length:=by
 unfold wC at h
 split at h
 ·cases h
 split at h
 ·cases h
 rename_i q hq
 have h1:r.1=q.1:=by
  split at h
  ·cases h
  split at h
  ·cases h
  split at h
  ·cases h
  cases h;rfl
 obtain⟨h2,h3,_⟩:=oy l 0 [] [] q (fun i j a b _ ha=>by simp at ha) hq;rw[h1];refine⟨h2,fun u=>?_,by have:=oz _ _ _ _ _ hq;simpa using this⟩;rw[h3 u];simp
theorem Hq (l:List lh) (c:List UInt8) (R C:kC) (kt:Nat):∃c1 c2 c3 c4,CH l c R C kt=[j8 l,.str c,c1,c2,c3,c4,.ptr kt 0 0]:=by
 unfold CH
 split
 ·exact⟨_,_,_,_,rfl⟩
 ·exact⟨_,_,_,_,rfl⟩
def oh:List lh→List UInt8→Nat→Int→Int
 |[],_,_,w=>w
 |p::l,key,i,w=>oh l key (i+1) (if p.nm=key then(i:Nat) else w)
theorem pw (key:List UInt8):∀(l:List lh) (i:Nat) (w:Int),(∃(j:Nat) (p:lh),l[j]?=some p∧p.nm=key∧oh l key i w=((i+j:Nat):Int))∨((∀p∈l,p.nm≠key)∧oh l key i w=w)
 |[],i,w=>.inr ⟨(by intro p hp;cases hp),rfl⟩
 |p::l,i,w=>by
  rw[oh]
  rcases pw key l (i+1) (if p.nm=key then(i:Nat) else w) with⟨j,q,h1,h2,h3⟩|⟨h1,h2⟩
  ·exact .inl ⟨j+1,q,h1,h2,by rw[h3];congr 1;omega⟩
  ·by_cases hp:p.nm=key
   ·rw[if_pos hp] at h2;exact .inl ⟨0,p,rfl,hp,by rw[if_pos hp,h2];rfl⟩
   ·rw[if_neg hp] at h2;refine .inr ⟨fun q hq=>?_,by rw[if_neg hp];exact h2⟩
    rcases List.mem_cons.1 hq with rfl|hq
    ·exact hp
    ·exact h1 q hq
theorem law {s0:St} (s:GO) (hs:s.ok) (name:List UInt8) (Jo:name.length≤1048576) (at_:Int):Ev pv 10 [s.d,.str name,.int .i64 at_] s0 (.bool true) s0:=by
 have Gd:=fun(st:St)=>IU (s0:=st) hs;have jH:=fun p hp=>hs.fit p (List.mem_of_mem_take (l:=s.l) (i:=12) hp);have hc:=hs.hc;have qX:(s.l.take 12).length≤12:=by rw[List.length_take];omega
 have G8:=hs.hx.cells.1;unfold GO.d at*;obtain⟨x,l0,c⟩:=s;dsimp only at Gd jH hc qX G8⊢;generalize l0.take 12=l at*;clear hs;refine Ev.jq rfl PV rfl rfl rfl ?_;dsimp only[List.cons_append,List.nil_append,List.length,Nat.reduceSub,Nat.reduceAdd,List.replicate_succ,List.replicate_zero];have bf:(ai .ro s0).bs=s0.bs:=rfl;have hF:(ai .ro s0).flr≤s0.bs.length:=Nat.le_refl _;have hH:Has s0.bs.length (ai .ro s0) (ai .ro s0) []:=Has.start (Nat.le_refl _) (Nat.le_refl _);generalize ai .ro s0=S at*;(try change ag _ _ _ _ _ _);(repeat refine ag.seq ?_);(try generalize hK:bk _ _ _ _=K);refine ag.dt ?_;refine ae.w6 hH rfl rfl (fun _=>by dsimp only[Fr.put,List.set_cons_succ,List.set_cons_zero]<;>rfl) (fun k3 st Iq hH=>?_);(try dsimp only[List.set_cons_zero,List.set_cons_succ,List.cons_append,List.nil_append,setMany,List.map_cons,List.map_nil,D.cells,Nat.reduceAdd,List.nil_append,c8] at hH);refine ae.mv (.inr rfl) rfl (ev rfl) (by dsimp only[Fr.put,List.set_cons_succ,List.set_cons_zero]<;>rfl) ?_;refine ae.nil ?_;(try subst hK);(try change ag _ _ _ _ _ _);(try change ag _ _ _ _ _ _);(repeat refine ag.seq ?_);(try generalize hK:bk _ _ _ _=K);refine ag.dt ?_
 first|refine ae.aV (m:=2) hH rfl (ev rfl) (by first|exact ax|exact aX|exact bV|exact da|exact cM|exact ej|exact eW|exact eV) (by dsimp only[List.drop_succ_cons,List.drop_zero,List.take_succ_cons,List.take_zero,c8]<;>rfl) rfl rfl (aa rfl _) ?_|refine ae.dr rfl (ev rfl) (by assumption) rfl (aa rfl _) ?_|refine ae.dZ hH rfl (ev rfl) (by assumption) (by first|exact ax|exact aX|exact bV|exact da|exact cM|exact ej|exact eW|exact eV) (by assumption) rfl (aa rfl _) ?_
 obtain⟨x2,aI,HP⟩:=Gd st;have TL:=HP.cells.1;refine ae.dF rfl rfl aI (aa rfl _) ?_;refine ae.b8 hH rfl (ev rfl) (ev rfl) (by first|rfl|exact(gv.cells (by assumption)).1|exact hH.iR (by first|exact ax|exact aX|exact bV|exact da|exact cM|exact ej|exact eW|exact eV)|exact hH.rv (by first|exact ax|exact aX|exact bV|exact da|exact cM|exact ej|exact eW|exact eV)|assumption) (by exact rfl) (by first|exact ax|exact aX|exact bV|exact da|exact cM|exact ej|exact eW|exact eV) (by exact rfl) (by first|exact .inl hF|exact .inr rfl|exact .inr (by assumption)) (fun st hH=>?_);(try dsimp only[List.set_cons_zero,List.set_cons_succ,List.cons_append,List.nil_append,setMany,List.map_cons,List.map_nil,D.cells,Nat.reduceAdd,List.nil_append,c8] at hH);refine ae.nil ?_;(try subst hK);(try change ag _ _ _ _ _ _);have N3:=HP.arg s0.bs.length S;obtain⟨d,st2,aI,hP⟩:=FM (cont:=c) hF N3 (by omega) jH hc hH
 cases rX:wC l c with
 |error r=>
  rw[rX] at hP;obtain⟨rfl,hr,xI⟩:=hP;have Sn:(r.1 !=0)=true:=by simpa using hr
  have aN:true=true:=rfl;(try change ag _ _ _ _ _ _);(repeat refine ag.seq ?_);(try generalize hK:bk _ _ _ _=K);refine ag.dt ?_
  first|refine ae.aV (m:=2) hH rfl (ev rfl) (by first|exact ax|exact aX|exact bV|exact da|exact cM|exact ej|exact eW|exact eV) (by dsimp only[List.drop_succ_cons,List.drop_zero,List.take_succ_cons,List.take_zero,c8]<;>rfl) rfl rfl (aa rfl _) ?_|refine ae.dr rfl (ev rfl) (by assumption) rfl (aa rfl _) ?_|refine ae.dZ hH rfl (ev rfl) (by assumption) (by first|exact ax|exact aX|exact bV|exact da|exact cM|exact ej|exact eW|exact eV) (by assumption) rfl (aa rfl _) ?_
  refine ae.dF rfl rfl aI (aa rfl _) ?_;have hH:=xI;refine ae.mv (.inl rfl) rfl (ev rfl) (aa rfl _) ?_;refine ae.go rfl rfl rfl (aa rfl _) ?_;refine ae.go rfl rfl rfl (aa rfl _) ?_;refine ae.go rfl rfl rfl (aa rfl _) ?_;refine ae.mv (.inr rfl) rfl (ev rfl) (by dsimp only[Fr.put,List.set_cons_succ,List.set_cons_zero]<;>rfl) ?_;refine ae.mv (.inr rfl) rfl (ev rfl) (by dsimp only[Fr.put,List.set_cons_succ,List.set_cons_zero]<;>rfl) ?_;refine ae.mv (.inr rfl) rfl (ev rfl) (by dsimp only[Fr.put,List.set_cons_succ,List.set_cons_zero]<;>rfl) ?_;refine ae.nil ?_;(try subst hK);(try change ag _ _ _ _ _ _);(try change ag _ _ _ _ _ _);(repeat refine ag.seq ?_);(try generalize hK:bk _ _ _ _=K);refine ag.dt ?_;refine ae.mv (.inl rfl) rfl (ev rfl) (aa rfl _) ?_;refine ae.go rfl rfl rfl (aa rfl _) ?_;refine ae.mv (.inl rfl) rfl (ev rfl) (aa rfl _) ?_;refine ae.skip (bS rfl rfl rfl aN) (aa rfl _) ?_;refine ae.skip (bS rfl rfl rfl aN) (aa rfl _) ?_;refine ae.cP rfl rfl aN (aa rfl _) ?_;refine ae.nil ?_;(try subst hK);(try change ag _ _ _ _ _ _);(try change ag _ _ _ _ _ _);(repeat refine ag.seq ?_);refine ag.cond (v:=true) (by first|rfl|assumption) (fun _=>?_) (fun h=>by cases h);(try change ag _ _ _ _ _ _);have fk:(r.1 !=0)=true:=Sn;(try change ag _ _ _ _ _ _);(repeat refine ag.seq ?_);(try generalize hK:bk _ _ _ _=K);refine ag.dt ?_;refine ae.mv (.inl rfl) rfl (ev rfl) (aa rfl _) ?_;refine ae.go rfl rfl rfl (aa rfl _) ?_;refine ae.mv (.inl rfl) rfl (ev rfl) (aa rfl _) ?_;refine ae.mv (.inl rfl) (aj rfl rfl rfl aN) (ev rfl) (aa rfl _) ?_;refine ae.go (aj rfl rfl rfl aN) rfl rfl (aa rfl _) ?_;refine ae.cP rfl rfl aN (aa rfl _) ?_;refine ae.mv (.inl rfl) rfl (ev rfl) (aa rfl _) ?_;refine ae.dF (aj rfl rfl rfl fk) rfl (Ev.jN rfl rfl) (aa rfl _) ?_;refine ae.cP rfl rfl fk (aa rfl _) ?_;refine ae.mv (.inr rfl) rfl (ev rfl) (by dsimp only[Fr.put,List.set_cons_succ,List.set_cons_zero]<;>rfl) ?_;refine ae.nil ?_;(try subst hK);(try change ag _ _ _ _ _ _);refine ag.ret ⟨fun i h=>(by cases h),_,rfl,jj (by simp) bf hH (rfl)⟩
 |ok r=>
  rw[rX] at hP;obtain⟨kr,kt,xt,rfl,xI⟩:=hP;obtain⟨Sd,KF,Q0⟩:=Dp rX;obtain⟨c1,c2,c3,c4,Oh⟩:=Hq l c r.2.1 r.2.2 kt;rw[Oh] at xI;generalize r.1=T at*;have aN:false=false:=rfl;(try change ag _ _ _ _ _ _);(repeat refine ag.seq ?_);(try generalize hK:bk _ _ _ _=K);refine ag.dt ?_
  first|refine ae.aV (m:=2) hH rfl (ev rfl) (by first|exact ax|exact aX|exact bV|exact da|exact cM|exact ej|exact eW|exact eV) (by dsimp only[List.drop_succ_cons,List.drop_zero,List.take_succ_cons,List.take_zero,c8]<;>rfl) rfl rfl (aa rfl _) ?_|refine ae.dr rfl (ev rfl) (by assumption) rfl (aa rfl _) ?_|refine ae.dZ hH rfl (ev rfl) (by assumption) (by first|exact ax|exact aX|exact bV|exact da|exact cM|exact ej|exact eW|exact eV) (by assumption) rfl (aa rfl _) ?_
  refine ae.dF rfl rfl aI (aa rfl _) ?_;have hH:=xI;refine ae.mv (.inl rfl) rfl (ev rfl) (aa rfl _) ?_;refine ae.go rfl rfl rfl (aa rfl _) ?_;refine ae.go rfl rfl rfl (aa rfl _) ?_;refine ae.go rfl rfl rfl (aa rfl _) ?_;refine ae.mv (.inr rfl) rfl (ev rfl) (by dsimp only[Fr.put,List.set_cons_succ,List.set_cons_zero]<;>rfl) ?_;refine ae.mv (.inr rfl) rfl (ev rfl) (by dsimp only[Fr.put,List.set_cons_succ,List.set_cons_zero]<;>rfl) ?_;refine ae.mv (.inr rfl) rfl (ev rfl) (by dsimp only[Fr.put,List.set_cons_succ,List.set_cons_zero]<;>rfl) ?_;refine ae.nil ?_;(try subst hK);(try change ag _ _ _ _ _ _);(try change ag _ _ _ _ _ _);(repeat refine ag.seq ?_);(try generalize hK:bk _ _ _ _=K);refine ag.dt ?_;refine ae.mv (.inl rfl) rfl (ev rfl) (aa rfl _) ?_;refine ae.go rfl rfl rfl (aa rfl _) ?_;refine ae.mv (.inl rfl) rfl (ev rfl) (aa rfl _) ?_;refine ae.mv (.inl rfl) (aj rfl rfl rfl aN) (ev rfl) (aa rfl _) ?_;refine ae.go (aj rfl rfl rfl aN) rfl rfl (aa rfl _) ?_;refine ae.cH rfl rfl aN (aa rfl _) ?_;refine ae.nil ?_;(try subst hK);(try change ag _ _ _ _ _ _);(try change ag _ _ _ _ _ _);(repeat refine ag.seq ?_);refine ag.cond (v:=false) (by first|rfl|assumption) (fun h=>by cases h) (fun _=>?_);(try change ag _ _ _ _ _ _);refine ag.skip ?_;(try change ag _ _ _ _ _ _);(try change ag _ _ _ _ _ _);(repeat refine ag.seq ?_);(try generalize hK:bk _ _ _ _=K);refine ag.dt ?_;refine ae.mv (.inr rfl) rfl (ev rfl) (by dsimp only[Fr.put,List.set_cons_succ,List.set_cons_zero]<;>rfl) ?_;refine ae.nil ?_;(try subst hK);(try change ag _ _ _ _ _ _);(try change ag _ _ _ _ _ _);(repeat refine ag.seq ?_);(try generalize hK:bk _ _ _ _=K);refine ag.dt ?_;refine ae.mv (.inr rfl) rfl (ev rfl) (by dsimp only[Fr.put,List.set_cons_succ,List.set_cons_zero]<;>rfl) ?_;refine ae.nil ?_;(try subst hK);(try change ag _ _ _ _ _ _)
  have Nc:∀(i:Nat) (p:lh),l[i]?=some p→pM T p.nm=(i:Nat):=fun i p hp=>by
   have h1:=get_mem Sd ((KF ⟨p.nm,(i:Nat)⟩).2 ⟨i,p,hp,rfl⟩);unfold pM;dsimp only at h1;rw[h1];rfl
  have mK:∀(i:Nat) (p:lh),l[i]?=some p→gh l (i:Nat)=p.nm:=fun i p hp=>by
   unfold gh;rw[if_neg (by omega),Int.toNat_natCast,hp];rfl
  have Gc:∀(st:St) (key:List UInt8),Has s0.bs.length S st (.box kr (.mem 0 false [j8 l,.str c,c1,c2,c3,c4,.ptr kt 0 0])::.box kt (.mem 0 false [xt])::.aE xt 2 (T.map cN)::.box k3 (.mem 0 false [x2,.str c])::[])→Ev pv 52 [.ptr kr 0 0,.str key] st (.int .i64 (pM T key)) st:=fun st key h=>Fl (h.at ax) (h.at aX) (Cv h bV (by omega));have Aa:∀(st:St) (i:Int),Has s0.bs.length S st (.box kr (.mem 0 false [j8 l,.str c,c1,c2,c3,c4,.ptr kt 0 0])::.box kt (.mem 0 false [xt])::.aE xt 2 (T.map cN)::.box k3 (.mem 0 false [x2,.str c])::[])→Ev pv 53 [.ptr kr 0 0,.int .i64 i] st (.str (gh l i)) st:=fun st i h=>CL (h.at ax);(try change ag _ _ _ _ _ _);(repeat refine ag.seq ?_);refine ag.block<|ag.loop (fun mm fr st=>∃(i:Nat) (w:Int),fr.clean=⟨13,[aL fr 0,.str name,.int .i64 at_,.ptr k3 0 0,aL fr 4,aL fr 5,aL fr 6,.ptr kr 0 0,aL fr 8,aL fr 9,.int .i64 w,.int .i64 (i:Nat),aL fr 12],[]⟩∧Has s0.bs.length S st (.box kr (.mem 0 false [j8 l,.str c,c1,c2,c3,c4,.ptr kt 0 0])::.box kt (.mem 0 false [xt])::.aE xt 2 (T.map cN)::.box k3 (.mem 0 false [x2,.str c])::[])∧(i+mm=l.length)∧(oh (l.drop i) name i w=oh l name 0 (-1))) (l.length) ?_ ?_
  ·exact⟨0,-1,rfl,hH,by omega,rfl⟩
  rintro mm fr st ⟨i,w,hfr,hH,hi,hw⟩;rw[hfr];clear hfr;(try generalize aL fr=ee);clear fr;(try change ag _ _ _ _ _ _);(try change ag _ _ _ _ _ _);(repeat refine ag.seq ?_);(try generalize hK:bk _ _ _ _=K);refine ag.dt ?_;refine ae.mv (.inl rfl) rfl (ev rfl) (aa rfl _) ?_;refine ae.dA (fo:=0) (m:=0) (o:=0) rfl (ev rfl) rfl rfl rfl (aa rfl _) ?_
  first|refine ae.eR hH rfl (ev rfl) (by first|exact ax|exact aX|exact bV|exact da|exact cM|exact ej|exact eW|exact eV) rfl (aa rfl _) ?_|refine ae.dr rfl (ev rfl) (by assumption) rfl (aa rfl _) ?_|refine ae.dZ hH rfl (ev rfl) (by assumption) (by first|exact ax|exact aX|exact bV|exact da|exact cM|exact ej|exact eW|exact eV) (by assumption) rfl (aa rfl _) ?_
  first|refine ae.j4 rfl (ev rfl) (Arg.rows (by assumption) hH) rfl (aa rfl _) ?_|refine ae.j4 rfl (ev rfl) (hH.rows (by first|exact ax|exact aX|exact bV|exact da|exact cM|exact ej|exact eW|exact eV)) rfl (aa rfl _) ?_|refine ae.lF rfl rfl rfl (aa rfl _) ?_|refine ae.go rfl rfl rfl (aa rfl _) ?_
  (try simp only[List.length_map,List.length_append,List.length_cons,List.length_nil,List.length_set,List.length_replicate,List.length_reverse]);refine ae.go rfl rfl rfl (aa rfl _) ?_;refine ae.nil ?_;(try subst hK);(try change ag _ _ _ _ _ _);(try change ag _ _ _ _ _ _);(repeat refine ag.seq ?_);refine ag.cond (by first|rfl|assumption) (fun h1=>?_) (fun h1=>?_)<;>try simp only[decide_eq_true_eq,decide_eq_false_iff_not,beq_iff_eq,beq_eq_false_iff_ne,bne_iff_ne,bne_eq_false_iff_eq,ne_eq,Bool.not_eq_true',Bool.not_eq_false',Bool.not_eq_true,Bool.not_eq_false] at h1
  ·refine ag.skip ?_;(try change ag _ _ _ _ _ _)
   obtain⟨p,hp⟩:∃p,l[i]?=some p:=⟨l[i]'(by omega),List.getElem?_eq_getElem _⟩
   have gN:=kL hp;obtain⟨hil,Pb⟩:=List.getElem?_eq_some_iff.1 hp;rw[List.drop_eq_getElem_cons hil,Pb,oh] at hw;have O':=Nc i p hp;have OO:=mK i p hp;(try change ag _ _ _ _ _ _);(repeat refine ag.seq ?_);refine ag.block ?_;(try change ag _ _ _ _ _ _);(repeat refine ag.seq ?_);(try generalize hK:bk _ _ _ _=K);refine ag.dt ?_;refine ae.dA (fo:=0) (m:=0) (o:=0) rfl (ev rfl) rfl rfl rfl (aa rfl _) ?_
   first|refine ae.eR hH rfl (ev rfl) (by first|exact ax|exact aX|exact bV|exact da|exact cM|exact ej|exact eW|exact eV) rfl (aa rfl _) ?_|refine ae.dr rfl (ev rfl) (by assumption) rfl (aa rfl _) ?_|refine ae.dZ hH rfl (ev rfl) (by assumption) (by first|exact ax|exact aX|exact bV|exact da|exact cM|exact ej|exact eW|exact eV) (by assumption) rfl (aa rfl _) ?_
   refine ae.mv (.inl rfl) rfl (ev rfl) (aa rfl _) ?_
   first|refine ae.A1 rfl (ev rfl) (ev rfl) (Arg.rows (by assumption) hH) rfl rfl (by assumption) (fun _=>(aa rfl _)) (fun RF OC=>?_)|refine ae.Ba hH rfl (ev rfl) (ev rfl) (by first|exact ax|exact aX|exact bV|exact da|exact cM|exact ej|exact eW|exact eV) rfl rfl (by first|exact cA (by assumption)|omega|(simp only[List.length_map,List.length_append,List.length_cons,List.length_nil,List.length_set,List.length_replicate]<;>omega)) (fun _=>(aa rfl _)) (fun RF OC=>?_)
   first|refine ae.fF (fo:=0) (m:=0) rfl (ev rfl) (by assumption) rfl rfl (fun _=>(aa rfl _)) (fun RE OB=>?_)|refine ae.de (fo:=0) (m:=0) (o2:=0) rfl (ev rfl) (by assumption) rfl rfl rfl (fun _=>(aa rfl _)) (fun RE OB=>?_)
   first|refine ae.dr rfl (ev rfl) (by assumption) rfl (aa rfl _) ?_|refine ae.dZ hH rfl (ev rfl) (by assumption) (by first|exact ax|exact aX|exact bV|exact da|exact cM|exact ej|exact eW|exact eV) (by assumption) rfl (aa rfl _) ?_|refine ae.eR hH rfl (ev rfl) (by first|exact ax|exact aX|exact bV|exact da|exact cM|exact ej|exact eW|exact eV) rfl (aa rfl _) ?_
   refine ae.mv (.inl rfl) rfl (ev rfl) (aa rfl _) ?_;refine ae.go rfl rfl rfl (aa rfl _) ?_;refine ae.nil ?_;(try subst hK);(try change ag _ _ _ _ _ _);(try change ag _ _ _ _ _ _);(repeat refine ag.seq ?_);refine ag.merge (fun fr st=>∃(w2:Int) (tmp:List (Nat×D)),fr=⟨13,[aL fr 0,.str name,.int .i64 at_,.ptr k3 0 0,aL fr 4,aL fr 5,aL fr 6,.ptr kr 0 0,aL fr 8,aL fr 9,.int .i64 w2,.int .i64 (i:Nat),aL fr 12],tmp⟩∧Has s0.bs.length S st (.box kr (.mem 0 false [j8 l,.str c,c1,c2,c3,c4,.ptr kt 0 0])::.box kt (.mem 0 false [xt])::.aE xt 2 (T.map cN)::.box k3 (.mem 0 false [x2,.str c])::[])∧(w2=if p.nm=name then((i:Nat):Int) else w)) ?_ ?_
   ·by_cases M6:p.nm=name
    ·have hcb:(p.nm==name)=true:=by simpa using M6
     (try change ag _ _ _ _ _ _);(repeat refine ag.seq ?_);refine ag.cond (v:=true) (by first|assumption|(dsimp only[Fr.ev,Fr.get,nth,Go.V.look];rw[hcb])) (fun _=>?_) (fun h=>by cases h);(try change ag _ _ _ _ _ _);(try change ag _ _ _ _ _ _);(repeat refine ag.seq ?_);(try generalize hK:bk _ _ _ _=K);refine ag.dt ?_;refine ae.mv (.inl rfl) rfl (ev rfl) (aa rfl _) ?_;refine ae.mv (.inr rfl) rfl (ev rfl) (by dsimp only[Fr.put,List.set_cons_succ,List.set_cons_zero]<;>rfl) ?_;refine ae.nil ?_;(try subst hK);(try change ag _ _ _ _ _ _);exact⟨(i:Nat),_,rfl,hH,(by rw[if_pos M6])⟩
    ·have hcb:(p.nm==name)=false:=by simpa using M6
     (try change ag _ _ _ _ _ _);(repeat refine ag.seq ?_);refine ag.cond (v:=false) (by first|assumption|(dsimp only[Fr.ev,Fr.get,nth,Go.V.look];rw[hcb])) (fun h=>by cases h) (fun _=>?_);(try change ag _ _ _ _ _ _);refine ag.skip ?_;(try change ag _ _ _ _ _ _);exact⟨w,_,rfl,hH,(by rw[if_neg M6])⟩
   rintro fr st ⟨w2,tmp,hfr,hH,QB⟩;rw[hfr];clear hfr;(try generalize aL fr=ee);clear fr;(try change ag _ _ _ _ _ _);rw[←QB] at hw;have Ph:=Gc st p.nm hH;have rW:=Aa st (i:Nat) hH;rw[O'] at Ph;rw[OO] at rW;have bd:(((i:Nat):Int) !=((i:Nat):Int))=false:=by simp
   (try change ag _ _ _ _ _ _);(repeat refine ag.seq ?_);(try generalize hK:bk _ _ _ _=K);refine ag.dt ?_;refine ae.mv (.inl rfl) rfl (ev rfl) (aa rfl _) ?_;refine ae.dA (fo:=0) (m:=0) (o:=0) rfl (ev rfl) rfl rfl rfl (aa rfl _) ?_
   first|refine ae.eR hH rfl (ev rfl) (by first|exact ax|exact aX|exact bV|exact da|exact cM|exact ej|exact eW|exact eV) rfl (aa rfl _) ?_|refine ae.dr rfl (ev rfl) (by assumption) rfl (aa rfl _) ?_|refine ae.dZ hH rfl (ev rfl) (by assumption) (by first|exact ax|exact aX|exact bV|exact da|exact cM|exact ej|exact eW|exact eV) (by assumption) rfl (aa rfl _) ?_
   refine ae.mv (.inl rfl) rfl (ev rfl) (aa rfl _) ?_
   first|refine ae.A1 rfl (ev rfl) (ev rfl) (Arg.rows (by assumption) hH) rfl rfl (by assumption) (fun _=>(aa rfl _)) (fun Qm Ks=>?_)|refine ae.Ba hH rfl (ev rfl) (ev rfl) (by first|exact ax|exact aX|exact bV|exact da|exact cM|exact ej|exact eW|exact eV) rfl rfl (by first|exact cA (by assumption)|omega|(simp only[List.length_map,List.length_append,List.length_cons,List.length_nil,List.length_set,List.length_replicate]<;>omega)) (fun _=>(aa rfl _)) (fun Qm Ks=>?_)
   first|refine ae.fF (fo:=0) (m:=0) rfl (ev rfl) (by assumption) rfl rfl (fun _=>(aa rfl _)) (fun RB Oy=>?_)|refine ae.de (fo:=0) (m:=0) (o2:=0) rfl (ev rfl) (by assumption) rfl rfl rfl (fun _=>(aa rfl _)) (fun RB Oy=>?_)
   first|refine ae.dr rfl (ev rfl) (by assumption) rfl (aa rfl _) ?_|refine ae.dZ hH rfl (ev rfl) (by assumption) (by first|exact ax|exact aX|exact bV|exact da|exact cM|exact ej|exact eW|exact eV) (by assumption) rfl (aa rfl _) ?_|refine ae.eR hH rfl (ev rfl) (by first|exact ax|exact aX|exact bV|exact da|exact cM|exact ej|exact eW|exact eV) rfl (aa rfl _) ?_
   refine ae.dF rfl rfl Ph (aa rfl _) ?_;refine ae.mv (.inl rfl) rfl (ev rfl) (aa rfl _) ?_;refine ae.go rfl rfl rfl (aa rfl _) ?_;refine ae.mv (.inl rfl) rfl (ev rfl) (aa rfl _) ?_;refine ae.mv (.inl rfl) (aj rfl rfl rfl bd) (ev rfl) (aa rfl _) ?_;refine ae.mv (.inl rfl) (aj rfl rfl rfl bd) (ev rfl) (aa rfl _) ?_;refine ae.dF (aj rfl rfl rfl bd) rfl rW (aa rfl _) ?_;refine ae.dA (fo:=0) (m:=0) (o:=0) (aj rfl rfl rfl bd) (ev rfl) rfl rfl rfl (aa rfl _) ?_
   first|refine ae.eR hH (aj rfl rfl rfl bd) (ev rfl) (by first|exact ax|exact aX|exact bV|exact da|exact cM|exact ej|exact eW|exact eV) rfl (aa rfl _) ?_|refine ae.dr (aj rfl rfl rfl bd) (ev rfl) (by assumption) rfl (aa rfl _) ?_|refine ae.dZ hH (aj rfl rfl rfl bd) (ev rfl) (by assumption) (by first|exact ax|exact aX|exact bV|exact da|exact cM|exact ej|exact eW|exact eV) (by assumption) rfl (aa rfl _) ?_
   refine ae.mv (.inl rfl) (aj rfl rfl rfl bd) (ev rfl) (aa rfl _) ?_;refine ae.NJ (aj rfl rfl rfl bd) rfl rfl HP rfl rfl gN (aa rfl _) (fun Ow=>?_);refine ae.go (d:=.ep (c8 p)) (st1:=_) (aj rfl rfl rfl bd) rfl rfl (aa rfl _) ?_;refine ae.go (d:=.str p.nm) (st1:=_) (aj rfl rfl rfl bd) rfl rfl (aa rfl _) ?_;refine ae.go (aj rfl rfl rfl bd) rfl rfl (aa rfl _) ?_;refine ae.cH rfl rfl bd (aa rfl _) ?_;refine ae.nil ?_;(try subst hK);(try change ag _ _ _ _ _ _);(try change ag _ _ _ _ _ _);(repeat refine ag.seq ?_);refine ag.cond (v:=false) (by first|assumption|(dsimp only[Fr.ev,Fr.get,nth,Go.V.look];(show D.bool (p.nm !=p.nm)=D.bool false;simp))) (fun h=>by cases h) (fun _=>?_);(try change ag _ _ _ _ _ _);refine ag.skip ?_;(try change ag _ _ _ _ _ _);(try change ag _ _ _ _ _ _);(repeat refine ag.seq ?_);(try generalize hK:bk _ _ _ _=K);refine ag.dt ?_;refine ae.mv (.inl rfl) rfl (ev rfl) (aa rfl _) ?_;refine ae.hC (z:=((i+1:Nat):Int)) rfl (ev rfl) (ev rfl) (by(try simp only[List.length_reverse,List.length_cons,List.length_nil,List.length_append,List.length_map,List.length_set]);first|(rw[wrap_i64 (by omega) (by omega)]<;>omega)|(rw[wrap_i32 (by omega) (by omega)]<;>omega)) (aa rfl _) ?_;refine ae.mv (.inr rfl) rfl (ev rfl) (by dsimp only[Fr.put,List.set_cons_succ,List.set_cons_zero]<;>rfl) ?_;refine ae.nil ?_;(try subst hK);(try change ag _ _ _ _ _ _);exact⟨mm-1,by omega,⟨i+1,w2,rfl,hH,by omega,hw⟩⟩
  ·(try change ag _ _ _ _ _ _);refine ag.exit ?_;(try change ag _ _ _ _ _ _);have Jt:i=l.length:=by omega
   rw[Jt,List.drop_length,oh] at hw
   have RZ:pM T name=w:=by
    rw[hw]
    rcases pw name l 0 (-1) with⟨j,p,h1,h2,h3⟩|⟨h1,h2⟩
    ·rw[h3,←h2,Nc j p h1,Nat.zero_add]
    ·rw[h2];unfold pM;rw[Gk (fun u hu=>by obtain⟨j,p,hj,rfl⟩:=(KF u).1 hu;exact h1 p (List.mem_of_getElem? hj))]
     rfl
   (try change ag _ _ _ _ _ _);(repeat refine ag.seq ?_);(try generalize hK:bk _ _ _ _=K);refine ag.dt ?_;refine ae.mv (.inr rfl) rfl (ev rfl) (by dsimp only[Fr.put,List.set_cons_succ,List.set_cons_zero]<;>rfl) ?_;refine ae.nil ?_;(try subst hK);(try change ag _ _ _ _ _ _);(try change ag _ _ _ _ _ _);(repeat refine ag.seq ?_);refine ag.mP 82 (.bool (decide (at_≥0) &&decide (at_<((l.length:Nat):Int)))) [] ?_ (fun ff tmp fv=>?_)
   ·refine ae.mv (.inl rfl) rfl (ev rfl) (aa rfl _) ?_;refine ae.go rfl rfl rfl (aa rfl _) ?_;refine ae.mv (.inl rfl) rfl (ev rfl) (aa rfl _) ?_;refine ae.two 76 rfl (fun aN=>?_) (fun aN=>?_)
    ·refine ae.mv (.inl rfl) (aj rfl rfl rfl aN) (ev rfl) (aa rfl _) ?_;refine ae.dA (fo:=0) (m:=0) (o:=0) (aj rfl rfl rfl aN) (ev rfl) rfl rfl rfl (aa rfl _) ?_
     first|refine ae.eR hH (aj rfl rfl rfl aN) (ev rfl) (by first|exact ax|exact aX|exact bV|exact da|exact cM|exact ej|exact eW|exact eV) rfl (aa rfl _) ?_|refine ae.dr (aj rfl rfl rfl aN) (ev rfl) (by assumption) rfl (aa rfl _) ?_|refine ae.dZ hH (aj rfl rfl rfl aN) (ev rfl) (by assumption) (by first|exact ax|exact aX|exact bV|exact da|exact cM|exact ej|exact eW|exact eV) (by assumption) rfl (aa rfl _) ?_
     first|refine ae.j4 (aj rfl rfl rfl aN) (ev rfl) (Arg.rows (by assumption) hH) rfl (aa rfl _) ?_|refine ae.j4 (aj rfl rfl rfl aN) (ev rfl) (hH.rows (by first|exact ax|exact aX|exact bV|exact da|exact cM|exact ej|exact eW|exact eV)) rfl (aa rfl _) ?_|refine ae.lF (aj rfl rfl rfl aN) rfl rfl (aa rfl _) ?_|refine ae.go (aj rfl rfl rfl aN) rfl rfl (aa rfl _) ?_
     (try simp only[List.length_map,List.length_append,List.length_cons,List.length_nil,List.length_set,List.length_replicate,List.length_reverse]);refine ae.go (aj rfl rfl rfl aN) rfl rfl (aa rfl _) ?_;refine ae.cP rfl rfl aN (aa rfl _) ?_;refine ae.nil (dB ?_ ?_)
     ·(try dsimp only[aD,List.foldl_cons,List.foldl_nil,nth,List.set_cons_zero,List.set_cons_succ])
      all_goals(first|rfl|simp)
     ·(try dsimp only[Fr.ay,Fr.put,Fr.clean,Fr.ev,Fr.get,nth,Go.V.look,List.set_cons_succ,List.set_cons_zero,nH,lJ,nF,nG,lI,ka,j_,List.length,List.cons_append,List.nil_append,List.append_nil,Nat.reduceSub,Nat.reduceAdd,List.map,List.map_cons,List.map_nil])
      all_goals(first|rfl|(simp[aN];done)|(simp_all;done)|(simp[aN];omega)|(simp_all;omega))
    ·refine ae.skip (bS rfl rfl rfl aN) (aa rfl _) ?_;refine ae.skip (bS rfl rfl rfl aN) (aa rfl _) ?_;refine ae.skip (bS rfl rfl rfl aN) (aa rfl _) ?_;refine ae.skip (bS rfl rfl rfl aN) (aa rfl _) ?_;refine ae.skip (bS rfl rfl rfl aN) (aa rfl _) ?_;refine ae.cH rfl rfl aN (aa rfl _) ?_;refine ae.nil (dB ?_ ?_)
     ·(try dsimp only[aD,List.foldl_cons,List.foldl_nil,nth,List.set_cons_zero,List.set_cons_succ])
      all_goals(first|rfl|simp)
     ·(try dsimp only[Fr.ay,Fr.put,Fr.clean,Fr.ev,Fr.get,nth,Go.V.look,List.set_cons_succ,List.set_cons_zero,nH,lJ,nF,nG,lI,ka,j_,List.length,List.cons_append,List.nil_append,List.append_nil,Nat.reduceSub,Nat.reduceAdd,List.map,List.map_cons,List.map_nil])
      all_goals(first|rfl|(simp[aN];done)|(simp_all;done)|(simp[aN];omega)|(simp_all;omega))
   (try dsimp only[aD,List.foldl_cons,List.foldl_nil,nth,List.set_cons_zero,List.set_cons_succ]);(try dsimp only[Fr.ay,Fr.put,Fr.clean,Fr.ev,Fr.get,nth,Go.V.look,List.set_cons_succ,List.set_cons_zero,nH,lJ,nF,nG,lI,ka,j_,List.length,List.cons_append,List.nil_append,List.append_nil,Nat.reduceSub,Nat.reduceAdd,List.map,List.map_cons,List.map_nil]);(try change ag _ _ _ _ _ _);(try change ag _ _ _ _ _ _);(repeat refine ag.seq ?_);refine ag.merge (fun fr st=>∃(tmp:List (Nat×D)),fr=⟨13,[aL fr 0,.str name,.int .i64 at_,.ptr k3 0 0,aL fr 4,aL fr 5,aL fr 6,.ptr kr 0 0,aL fr 8,aL fr 9,.int .i64 w,aL fr 11,.str (gh l at_)],tmp⟩∧Has s0.bs.length S st (.box kr (.mem 0 false [j8 l,.str c,c1,c2,c3,c4,.ptr kt 0 0])::.box kt (.mem 0 false [xt])::.aE xt 2 (T.map cN)::.box k3 (.mem 0 false [x2,.str c])::[])∧(True)) ?_ ?_
   ·cases hb:(decide (at_≥0) &&decide (at_<((l.length:Nat):Int))) with
    |true=>
     rw[hb] at fv;(try change ag _ _ _ _ _ _);(repeat refine ag.seq ?_);refine ag.cond (v:=true) (by first|rfl|assumption) (fun _=>?_) (fun h=>by cases h);(try change ag _ _ _ _ _ _);simp only[Bool.and_eq_true,decide_eq_true_eq] at hb
     obtain⟨n,rfl⟩:∃n:Nat,at_=(n:Nat):=⟨at_.toNat,by omega⟩
     obtain⟨p,hp⟩:∃p,l[n]?=some p:=⟨l[n]'(by omega),List.getElem?_eq_getElem _⟩
     have gN:=kL hp;rw[mK n p hp];(try change ag _ _ _ _ _ _);(repeat refine ag.seq ?_);(try generalize hK:bk _ _ _ _=K);refine ag.dt ?_;refine ae.dA (fo:=0) (m:=0) (o:=0) rfl (ev rfl) rfl rfl rfl (aa rfl _) ?_
     first|refine ae.eR hH rfl (ev rfl) (by first|exact ax|exact aX|exact bV|exact da|exact cM|exact ej|exact eW|exact eV) rfl (aa rfl _) ?_|refine ae.dr rfl (ev rfl) (by assumption) rfl (aa rfl _) ?_|refine ae.dZ hH rfl (ev rfl) (by assumption) (by first|exact ax|exact aX|exact bV|exact da|exact cM|exact ej|exact eW|exact eV) (by assumption) rfl (aa rfl _) ?_
     refine ae.mv (.inl rfl) rfl (ev rfl) (aa rfl _) ?_
     first|refine ae.A1 rfl (ev rfl) (ev rfl) (Arg.rows (by assumption) hH) rfl rfl (by assumption) (fun _=>(aa rfl _)) (fun Rw Ot=>?_)|refine ae.Ba hH rfl (ev rfl) (ev rfl) (by first|exact ax|exact aX|exact bV|exact da|exact cM|exact ej|exact eW|exact eV) rfl rfl (by first|exact cA (by assumption)|omega|(simp only[List.length_map,List.length_append,List.length_cons,List.length_nil,List.length_set,List.length_replicate]<;>omega)) (fun _=>(aa rfl _)) (fun Rw Ot=>?_)
     first|refine ae.fF (fo:=0) (m:=0) rfl (ev rfl) (by assumption) rfl rfl (fun _=>(aa rfl _)) (fun Rv Oq=>?_)|refine ae.de (fo:=0) (m:=0) (o2:=0) rfl (ev rfl) (by assumption) rfl rfl rfl (fun _=>(aa rfl _)) (fun Rv Oq=>?_)
     first|refine ae.dr rfl (ev rfl) (by assumption) rfl (aa rfl _) ?_|refine ae.dZ hH rfl (ev rfl) (by assumption) (by first|exact ax|exact aX|exact bV|exact da|exact cM|exact ej|exact eW|exact eV) (by assumption) rfl (aa rfl _) ?_|refine ae.eR hH rfl (ev rfl) (by first|exact ax|exact aX|exact bV|exact da|exact cM|exact ej|exact eW|exact eV) rfl (aa rfl _) ?_
     refine ae.mv (.inr rfl) rfl (ev rfl) (by dsimp only[Fr.put,List.set_cons_succ,List.set_cons_zero]<;>rfl) ?_;refine ae.nil ?_;(try subst hK);(try change ag _ _ _ _ _ _);exact⟨_,rfl,hH,trivial⟩
    |false=>
     rw[hb] at fv
     have OQ:gh l at_=[]:=by
      unfold gh
      split
      ·rfl
      ·rw[List.getElem?_eq_none (by
        rw[Bool.and_eq_false_iff,decide_eq_false_iff_not,decide_eq_false_iff_not] at hb
        omega)]
       rfl
     rw[OQ];(try change ag _ _ _ _ _ _);(repeat refine ag.seq ?_);refine ag.cond (v:=false) (by first|rfl|assumption) (fun h=>by cases h) (fun _=>?_);(try change ag _ _ _ _ _ _);refine ag.skip ?_;(try change ag _ _ _ _ _ _);exact⟨_,rfl,hH,trivial⟩
   rintro fr st ⟨tmp,hfr,hH,ht⟩;rw[hfr];clear hfr;(try generalize aL fr=ee);clear fr;(try change ag _ _ _ _ _ _);have rM:=Gc st name hH;have gV:=Aa st at_ hH;rw[RZ] at rM;have ba:(w==w)=true:=by simp
   have dE:(gh l at_==gh l at_)=true:=by simp
   (try change ag _ _ _ _ _ _);(repeat refine ag.seq ?_);(try generalize hK:bk _ _ _ _=K);refine ag.dt ?_;refine ae.mv (.inl rfl) rfl (ev rfl) (aa rfl _) ?_;refine ae.mv (.inl rfl) rfl (ev rfl) (aa rfl _) ?_;refine ae.dF rfl rfl rM (aa rfl _) ?_;refine ae.mv (.inl rfl) rfl (ev rfl) (aa rfl _) ?_;refine ae.go rfl rfl rfl (aa rfl _) ?_;refine ae.mv (.inl rfl) rfl (ev rfl) (aa rfl _) ?_;refine ae.mv (.inl rfl) (aj rfl rfl rfl ba) (ev rfl) (aa rfl _) ?_;refine ae.mv (.inl rfl) (aj rfl rfl rfl ba) (ev rfl) (aa rfl _) ?_;refine ae.dF (aj rfl rfl rfl ba) rfl gV (aa rfl _) ?_;refine ae.mv (.inl rfl) (aj rfl rfl rfl ba) (ev rfl) (aa rfl _) ?_;refine ae.go (aj rfl rfl rfl ba) rfl rfl (aa rfl _) ?_;refine ae.cP rfl rfl ba (aa rfl _) ?_;refine ae.mv (.inl rfl) rfl (ev rfl) (aa rfl _) ?_;refine ae.dF (aj rfl rfl rfl dE) rfl (Ev.jN rfl rfl) (aa rfl _) ?_;refine ae.cP rfl rfl dE (aa rfl _) ?_;refine ae.mv (.inr rfl) rfl (ev rfl) (by dsimp only[Fr.put,List.set_cons_succ,List.set_cons_zero]<;>rfl) ?_;refine ae.nil ?_;(try subst hK);(try change ag _ _ _ _ _ _);refine ag.ret ⟨fun i h=>(by cases h),_,rfl,jj (by simp) bf hH (rfl)⟩
theorem own:ownKnob Tryz.prog.godebug=none:=by kernel_rfl
theorem laidOut:laidOutB Tryz.prog=true:=by kernel_rfl
theorem lifted (os:Os) (started:os.Started) (H:Type) (enc:TypeId×Value→H) (F:Stop.Interp):
  ReturnsInHanded {} Tryz.checked os 10 .any ((Rows.OpenSpec.upto Rows.rulesNamesSpec).pre6 enc Tryz.prog Tryz.f10 Rows.rulesNamesUptoRow.domain false) (((Rows.OpenSpec.upto Rows.rulesNamesSpec).at F).post enc Tryz.prog Tryz.f10 false true false false):=by
 refine returnsInHanded_of_cond (C:=Tryz.checked) (s:=Rows.OpenSpec.upto Rows.rulesNamesSpec) (k:=Rows.uptoSmall) rfl own started (by kernel_rfl) Tryz.func10
  (OpenSpec.witness (enc:=enc) (C:=Tryz.checked) (s:=Rows.OpenSpec.upto Rows.rulesNamesSpec) (k:=Rows.uptoSmall) rfl false ⟨#[],#[.agg #[.slice none 0 0,.string .empty],.string .empty,.int .i64 0],[]⟩ 8 (by kernel_rfl) (by kernel_rfl) (by kernel_rfl)
   (x:=([.agg [.nil,.lit (.string [])],.lit (.string []),.lit (.int .i64 0)],[],[])) (by kernel_rfl) rfl (by kernel_rfl)) ?_
 intro W base args ds gs before FX hW _ hk _;have TY:=hW;obtain⟨p,q,Q4,hV,rfl,hfz,yO⟩:=hW;have hA:DataW.TrodAll enc Tryz.prog W 0 (fun _=>true) true Tryz.f10.params.toList args.toList ds p:=Q4;rw[Tryz.params10] at hA FX;obtain⟨v0,Ui,d0,U7,p0,q0,ti,rfl,rfl,h0,r0⟩:=trodAll_cons hA;obtain⟨v1,Uh,d1,U6,p1,q1,rfl,rfl,rfl,h1,r1⟩:=trodAll_cons r0;obtain⟨v2,Ug,d2,U5,p2,q2,rfl,rfl,rfl,h2,r2⟩:=trodAll_cons r1;obtain⟨rfl,rfl,rfl⟩:=trodAll_nil r2;obtain rfl:args=#[v0,v1,v2]:=by cases args;simp_all
 obtain⟨rfl,rfl⟩:=trodVars_none hV;simp only[Rows.uptoSmall,List.append_nil,List.nil_append,List.singleton_append,List.cons_append,decide_eq_true_eq,Rows.uptoBulkAll] at hk;have i0:=tQ h0 (n:=12) (by kernel_rfl) (FX 0 86 v0 rfl rfl);have k0:=h0;have RR:∀x∈p0,x.block<W.heap.size:=by obtain⟨m,hm⟩:=k0;exact DataW.trod_lt m _ _ _ hm
 obtain⟨b0,q_,RN⟩:=GG (Rd.of h0);have i1:=tQ h1 (n:=12) (by kernel_rfl) (FX 1 9 v1 rfl rfl);have k1:=h1;have RQ:∀x∈p1,x.block<W.heap.size:=by obtain⟨m,hm⟩:=k1;exact DataW.trod_lt m _ _ _ hm
 obtain⟨b1,hb1,DF⟩:=zb h1 Tryz.underlying9;have l1:b1.length≤Rows.uptoBulk d1:=by rw[DF];simp only[Rows.uptoBulk];omega
 have i2:=tQ h2 (n:=12) (by kernel_rfl) (FX 2 3 v2 rfl rfl);have k2:=h2;have RP:∀x∈p2,x.block<W.heap.size:=by obtain⟨m,hm⟩:=k2;exact DataW.trod_lt m _ _ _ hm
 obtain⟨b2,hb2,M4,w2⟩:=GI h2 Tryz.underlying3
 have OV:Ev pv 10 [fS d0,fS d1,fS d2] ⟨[],0,0⟩ (.bool true) ⟨[],0,0⟩:=by
  rw[q_,hb1,hb2];exact law b0 (RN (by omega)) b1 (by omega) b2
 have Tx:∀(i:Nat) c v,[fS d0,fS d1,fS d2][i]?=some c→[v0,v1,v2][i]?=some v→IR W (fun b=>b<W.heap.size) c v:=by
  intro i c v hc hv
  match i,hc,hv with
  |0,hc,hv=>cases hc;cases hv;exact i0
  |1,hc,hv=>cases hc;cases hv;exact i1
  |2,hc,hv=>cases hc;cases hv;exact i2
 clear Q4;refine(Bl view OV (us:=[v0,v1,v2]) rfl Tx).mono fun e W' ⟨he,Nr⟩=>?_;subst he;exact⟨_,rfl,_,_,_,[],_,[],TY,trodAll_mk1 (shut_bool Tryz.underlying4 _),(trodAll_cons_mk (Below.trod laidOut (by kernel_rfl) (of_decide_eq_true (by kernel_rfl)) k0 Nr RR) (trodAll_cons_mk (Below.trod laidOut (by kernel_rfl) (of_decide_eq_true (by kernel_rfl)) k1 Nr RQ) (trodAll_cons_mk (Below.trod laidOut (by kernel_rfl) (of_decide_eq_true (by kernel_rfl)) k2 Nr RP) trodAll_mk0))),rfl,Nr.frame _,fun h=>by cases h⟩
theorem Mz:(Rows.rulesNamesUptoRow.inPlace==Tryz.checked.prog.inPlace 10)=true:=by kernel_rfl
theorem My:(Rows.rulesNamesUptoRow.unfollowed==Tryz.checked.prog.unfollowed 10)=true:=by kernel_rfl
theorem Mx:(Rows.rulesNamesUptoRow.recurses==Tryz.checked.prog.recurses 10)=true:=by kernel_rfl
theorem Mw:(Rows.rulesNamesUptoRow.named==Tryz.checked.prog.varsNamed 10)=true:=by kernel_rfl
theorem eA {a b:Bool} (h1:a=true) (h2:b=true):(a &&b)=true:=by rw[h1,h2];rfl
theorem facts:joinedFacts Tryz.checked.prog 10 Tryz.f10 (Rows.OpenSpec.upto Rows.rulesNamesSpec).bare Rows.rulesNamesUptoRow=true:=by
 unfold joinedFacts;exact eA (eA (eA (eA (eA (eA (eA (eA (eA (eA (eA (eA (eA (eA (eA (eA (eA (eA (eA (eA (eA (eA (eA (by kernel_rfl) Mz) My) Mx) Mw) (by kernel_rfl)) (by kernel_rfl)) (by kernel_rfl)) (by kernel_rfl)) (by kernel_rfl)) (by kernel_rfl)) (by kernel_rfl)) (by kernel_rfl)) (by kernel_rfl)) (by kernel_rfl)) (by kernel_rfl)) (by kernel_rfl)) (by kernel_rfl)) (by kernel_rfl)) (by kernel_rfl)) (by kernel_rfl)) (by kernel_rfl)) (by kernel_rfl)) (by kernel_rfl)
theorem proved:Rows.RulesNamesUptoSaid:=
 OpenClaim.holds_of_cond 10 Tryz.f10 rfl rfl rfl rfl rfl rfl rfl ⟨rfl,rfl,rfl,rfl,rfl⟩ rfl rfl rfl rfl rfl (by kernel_rfl) Tryz.func10 facts
  (of_decide_eq_true (by kernel_rfl)) (by unfold Func.isWrapper;first|(rw[if_pos (by decide+kernel)];kernel_rfl)|(rw[if_neg (by decide+kernel)];exact⟨rfl,rfl⟩))
  (fun os started H enc _ F=>lifted os started H enc F)
end Go.Proofs.YtecjacicdpejaaaGreat.rulesNames
#print axioms Go.Proofs.YtecjacicdpejaaaGreat.rulesNames.proved
