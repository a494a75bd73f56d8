/-
 The parser of patterns: classes by single runes; numbers.
-/
import Derived.Test.YtbdnabmmlbiomaaXGM3
import Derived.Test.YtbdnabmmlbiomaaXDgp
import Derived.Test.YtbdnabmmlbiomaaXGCa
set_option maxRecDepth 100000
set_option maxHeartbeats 4000000
set_option linter.unusedSimpArgs false
set_option linter.unusedVariables false
set_option linter.unusedSectionVars false
namespace Go.Proofs.Ytbdnabmmlbiomaa
open Go.V Go
def dG (fr:Go.V.Fr) (k:Nat):Go.V.D:=Go.V.nth .bp fr.loc k
noncomputable def iO (l:List Rg):List Rg:=@dite _ (∃a,e5 l a) (Classical.propDecidable _) (fun h=>Classical.choose h) (fun _=>[])
theorem yk {l a:List Rg} (h:e5 l a):iO l=a:=by
 have hx:∃a,e5 l a:=⟨a,h⟩
 unfold iO;rw[dif_pos hx];exact(Classical.choose_spec hx).unique h
theorem ke {s0:St} {x:D} {l:List Rg} (hx:V.Rows s0 2 x (l.map ax)) (hl:l.length≤1048576):Ev pv 76 [x] s0 (bq (iO l)) s0∧(iO l).length≤2*l.length∧e5 l (iO l):=by
 obtain⟨_,aM,all,rfl,hperm,jI⟩:=vg hx (by omega);have hM:e5 l (all.foldl cP []).reverse:=mV (fun x=>hperm.mem_iff) jI;have hlen:=hperm.length_eq;have nj:=gj l;have jT:=mZ all;rw[yk hM];exact⟨aM,by rw[List.length_reverse];omega,hM⟩
theorem gE (l:List Rg):gR (bq l) 2 (l.map ax):=by
 rw[←fO];refine gR.frozen ?_ ?_
 ·intro e he;obtain⟨x,_,rfl⟩:=List.mem_map.1 he;rfl
 ·intro e he d hd;obtain⟨x,_,rfl⟩:=List.mem_map.1 he;simp only[ax,List.mem_cons,List.not_mem_nil,or_false] at hd
  rcases hd with rfl|rfl<;>rfl
theorem pL {r:Int} {l a:List Rg} (h0:0≤r) (h1:r<55296) (hr:d_ l r) (h:e5 l a):a≠[]:=by
 rintro rfl;have:=(h.2 r).2 ⟨by unfold lh;omega,hr⟩;obtain⟨x,hx,_⟩:=this;cases hx
theorem rW {r:Int} (h0:0≤r) (h1:r<55296) {a:List Rg} (h:e5 [(r,r)] a):a≠[]:=by
 rintro rfl;have:=(h.2 r).2 ⟨?_,?_⟩
 ·obtain⟨x,hx,_⟩:=this;cases hx
 ·unfold lh;omega
 ·exact⟨(r,r),List.mem_cons_self ..,by simp⟩
theorem gC {s0:St} (r:Int):Ev pv 88 [.int .i32 r] s0 (bq (iO [(r,r)])) s0:=by
 refine Ev.nV rfl M9 rfl rfl rfl ?_;dsimp only[u3,u4,List.length,Nat.reduceSub,Nat.reduceAdd,w1,w2];obtain⟨cn,hF,hH⟩:=ri s0;generalize aq .ro s0=S at*;refine qq<|qj fun K hK=>qm ?_;refine qe hK<|qq<|qj fun K hK=>qm ?_;refine qm ?_;refine ab.fP (qs:=[(0,_),(1,_)]) rfl rfl rfl rfl ⟨rfl,(ev rfl),(by rfl),rfl,(ev rfl),(by rfl),trivial⟩ (by intro q hq;simp only[List.mem_cons,List.not_mem_nil,or_false] at hq;rcases hq with rfl|rfl<;>exact⟨rfl,by exact Nat.le_of_ble_eq_true rfl⟩) (by show List.foldl _ [_,_] _=_;dsimp only[List.foldl_cons,List.foldl_nil,u2,u1]<;>rfl) (ae rfl _) ?_;refine qh (s:=2) (vs:=[_]) hH fun k6 st DF hH=>?_;obtain⟨aM,hl,_⟩:=ke (l:=[(r,r)]) (hH.rows aB) (by simp);refine qv aM ?_;refine qm ?_;refine qe hK<|ag.ret ⟨rx,_,rfl,rl cn hH (rfl)⟩
theorem ya {s0:St} {x:D} {l:List Rg} (hx:V.Rows s0 2 x (l.map ax)) (hl:l.length≤131072):∃d,Ev pv 95 [x] s0 d s0∧∃a:List Rg,d=bq a∧a.length≤4*l.length+2:=by
 refine Ev.Dt rfl M5 rfl rfl rfl ?_;dsimp only[u3,u4,List.length,Nat.reduceSub,Nat.reduceAdd,w1,w2];obtain⟨cn,hF,hH⟩:=ri s0;generalize aq .ro s0=S at*;have hx:=Arg.of hx cn;refine qq<|qj fun K hK=>qm ?_;refine qe hK<|qq<|qj fun K hK=>qm ?_;refine qe hK<|qq<|qj fun K hK=>qm ?_;refine qe hK ?_;obtain⟨aM,yC,_⟩:=ke (hx.rows hH) (by omega);have hla:=(gE (iO l)).arg s0.bs.length S;generalize iO l=m at*;refine qq<|qq<|qj fun K hK=>qm ?_;refine qv (aM) ?_;refine qn ?_;simp only[List.length_map];refine qm ?_;refine qe hK ?_;have hH:=hH.fc 2;refine ag.block<|ag.loop (fun mm fr st=>∃(i:Nat) (n:Int) (o:D) (out:List Rg),fr.clean=⟨11,[dG fr 0,dG fr 1,dG fr 2,o,.int .i32 n,dG fr 5,dG fr 6,dG fr 7,bq m,.int .i64 (m.length:Nat),.int .i64 (i:Nat)],[]⟩∧Has s0.bs.length S st [.aN o 2 (out.map ax)]∧(i+mm=m.length)∧(out.length=i)) (m.length) ?_ ?_
 ·exact⟨0,0,.nul,[],rfl,hH,by omega,rfl⟩
 rintro mm fr st ⟨i,n,o,out,hfr,hH,hi,ho⟩;rw[hfr];clear hfr;generalize dG fr=ee;clear fr;refine qq<|qj fun K hK=>qg ?_;refine qe hK<|qq ?_;refine ag.cond (by rfl) (fun h1=>?_) (fun h1=>?_)<;>try simp only[decide_eq_true_eq,decide_eq_false_iff_not] at h1
 ·refine ag.skip ?_
  obtain⟨q,hq⟩:∃q,m[i]?=some q:=⟨m[i]'(by omega),List.getElem?_eq_getElem _⟩
  have hr:=eN hq;refine qq<|ag.block<|qq<|qj fun K hK=>qr fun PW Ma=>?_;refine ab.eo rfl (ev rfl) (by assumption) rfl (ae rfl _) ?_;refine qa hH fun k6 st DF hH=>?_;refine qS hH aB fun st hH=>?_;dsimp only[u2,u1,u3,u4,setMany,u5,u6,D.cells,Nat.reduceAdd,ax] at hH;refine qe hK<|qq<|qj fun K hK=>qm ?_;refine qm ?_;refine qp (o:=0) ?_;refine ql hH aB ?_;refine ab.j7 (z:=bJ .i32 (q.1-1)) rfl (ev rfl) (ev rfl) rfl (ae rfl _) ?_;refine ab.fP (qs:=[(0,_),(1,_)]) rfl rfl rfl rfl ⟨rfl,(ev rfl),(by rfl),rfl,(ev rfl),(by rfl),trivial⟩ (by intro q hq;simp only[List.mem_cons,List.not_mem_nil,or_false] at hq;rcases hq with rfl|rfl<;>exact⟨rfl,by exact Nat.le_of_ble_eq_true rfl⟩) (by show List.foldl _ [_,_] _=_;dsimp only[List.foldl_cons,List.foldl_nil,u2,u1]<;>rfl) (ae rfl _) ?_;refine qh (s:=2) (vs:=[_]) hH fun k20 st Rv hH=>?_;refine ab.cu (s:=2) hH rfl (ev rfl) (ev rfl) (by exact ei) (by exact hH.rows (by exact aB)) rfl rfl rfl rfl rfl rfl rfl ⟨(Nat.le_of_ble_eq_true rfl),(Nat.le_of_ble_eq_true rfl)⟩ (fun _=>(ae rfl _)) (by simp only[List.length_cons,List.length_nil,List.length_map]<;>omega) (by exact .inl hF) (fun SA st hH=>?_);dsimp only[u2,u1,u3,u4,setMany,u5,u6,D.cells,Nat.reduceAdd,ax] at hH;refine qm ?_;refine qe hK<|qj fun K hK=>qp (o:=1) ?_;refine ql hH bN ?_;refine ab.eY (z:=bJ .i32 (q.2+1)) rfl (ev rfl) (ev rfl) rfl (ae rfl _) ?_;refine qm ?_;refine qe hK<|qj fun K hK=>qA ?_;refine qm ?_;refine qe hK ?_;exact⟨mm-1,by omega,⟨i+1,_,_,out++[(n,bJ .i32 (q.1-1))],rfl,(by rw[List.map_append];exact hH.drop 2),by omega,by simp[ho]⟩⟩
 ·refine ag.exit<|qq<|qj fun K hK=>qm ?_;refine qm ?_;refine ab.fP (qs:=[(0,_),(1,_)]) rfl rfl rfl rfl ⟨rfl,(ev rfl),(by rfl),rfl,(ev rfl),(by rfl),trivial⟩ (by intro q hq;simp only[List.mem_cons,List.not_mem_nil,or_false] at hq;rcases hq with rfl|rfl<;>exact⟨rfl,by exact Nat.le_of_ble_eq_true rfl⟩) (by show List.foldl _ [_,_] _=_;dsimp only[List.foldl_cons,List.foldl_nil,u2,u1]<;>rfl) (ae rfl _) ?_;refine qh (s:=2) (vs:=[_]) hH fun k29 st Rr hH=>?_;refine ab.cu (s:=2) hH rfl (ev rfl) (ev rfl) (by exact bN) (by exact hH.rows (by exact aB)) rfl rfl rfl rfl rfl rfl rfl ⟨(Nat.le_of_ble_eq_true rfl),(Nat.le_of_ble_eq_true rfl)⟩ (fun _=>(ae rfl _)) (by simp only[List.length_cons,List.length_nil,List.length_map]<;>omega) (by exact .inl hF) (fun Sy st hH=>?_);dsimp only[u2,u1,u3,u4,setMany,u5,u6,D.cells,Nat.reduceAdd,ax] at hH;obtain⟨aM,qY,_⟩:=ke (l:=out++[(n,1114111)]) (by rw[List.map_append];exact hH.rows bN) (by simp;omega);refine qv aM ?_;refine qm ?_;refine qe hK<|ag.ret ⟨rx,_,_,rfl,rl cn hH (rfl),?_⟩;exact⟨_,rfl,by simp at qY;omega⟩
theorem H4 {s0:St}:∃d,Ev pv 87 [] s0 d s0∧∃a:List Rg,d=bq a∧a.length≤6:=by
 refine Ev.Dt rfl M_ rfl rfl rfl ?_;dsimp only[u3,u4,List.length,Nat.reduceSub,Nat.reduceAdd,w1,w2];obtain⟨cn,hF,hH⟩:=ri s0;generalize aq .ro s0=S at*;refine qq<|qj fun K hK=>qm ?_;refine qe hK<|qq<|qj fun K hK=>?_;refine ab.fP (qs:=[(0,_),(1,_)]) rfl rfl rfl rfl ⟨rfl,(ev rfl),(by rfl),rfl,(ev rfl),(by rfl),trivial⟩ (by intro q hq;simp only[List.mem_cons,List.not_mem_nil,or_false] at hq;rcases hq with rfl|rfl<;>exact⟨rfl,by exact Nat.le_of_ble_eq_true rfl⟩) (by show List.foldl _ [_,_] _=_;dsimp only[List.foldl_cons,List.foldl_nil,u2,u1]<;>rfl) (ae rfl _) ?_;refine qh (s:=2) (vs:=[_]) hH fun k2 st hk2 hH=>?_;obtain⟨_,aM,a,rfl,hl⟩:=ya (l:=[(10,10)]) (hH.rows aB) (by simp);refine qv aM ?_;refine qm ?_;refine qe hK<|ag.ret ⟨rx,_,_,rfl,rl cn hH (rfl),?_⟩;exact⟨a,rfl,hl⟩
theorem CB {s0:St} (r:Int):Ev pv 96 [.int .i32 r] s0 (.bool (decide (33≤r∧r≤47∨58≤r∧r≤64∨91≤r∧r≤96∨123≤r∧r≤126))) s0:=by
 refine Ev.nV rfl M4 rfl rfl rfl ?_;dsimp only[u3,u4,List.length,Nat.reduceSub,Nat.reduceAdd,w1,w2];obtain⟨cn,hF,hH⟩:=ri s0;generalize aq .ro s0=S at*;refine qq<|qj fun K hK=>qm ?_;refine qe hK<|qq<|ag.jY 2 (.bool (decide (33≤r∧r≤47∨58≤r∧r≤64∨91≤r∧r≤96∨123≤r∧r≤126))) [] ?_ (fun ff tmp=>?_)
 ·refine qm ?_;refine qg ?_;refine qm ?_;refine ab.two 5 rfl (fun bH=>?_) (fun bH=>?_)
  ·refine qm ?_ (hg:=wi bH);refine qg ?_ (hg:=wi bH);refine qt bH ?_;refine qm ?_;refine ab.two 9 rfl (fun ef=>?_) (fun ef=>?_)
   ·refine qs ?_ (hg:=wn ef);refine qs ?_ (hg:=wn ef);refine qs ?_ (hg:=wn ef);refine qs ?_;refine qs ?_;refine qs ?_ (hg:=wn ef);refine qt ef ?_;refine qm ?_;refine qs ?_;refine qs ?_;refine qs ?_;refine qs ?_;refine qs ?_;refine qs ?_;refine qg ?_;refine qm ?_;refine qs ?_;refine qs ?_;refine qs ?_;refine qs ?_;refine qs ?_;refine qs ?_;refine qg ?_;refine qm ?_;refine ab.nil (aW ?_);dsimp only[aJ,List.foldl,nth,u2,u1];dsimp only[Fr.aC,Fr.put,Fr.clean,Fr.ev,Fr.get,nth,V.look,u1,u2,v1,v2,v3,v4,v5,v6,v7,List.length,u3,u4,Nat.reduceSub,Nat.reduceAdd,List.map]
    all_goals(simp[bH,ef];done)
   ·refine qm ?_ (hg:=wi ef);refine qg ?_ (hg:=wi ef);refine qm ?_ (hg:=wi ef);refine ab.two 12 rfl (fun ck=>?_) (fun ck=>?_)
    ·refine qm ?_ (hg:=wi ck);refine qg ?_ (hg:=wi ck);refine ab.dh (aj rfl rfl rfl ef) rfl ck (ae rfl _) ?_;refine qu ef ?_;refine qm ?_;refine ab.two 17 rfl (fun cX=>?_) (fun cX=>?_)
     ·refine qs ?_ (hg:=wn cX);refine qs ?_ (hg:=wn cX);refine qs ?_ (hg:=wn cX);refine qs ?_;refine qs ?_;refine qs ?_ (hg:=wn cX);refine qt cX ?_;refine qm ?_;refine qs ?_;refine qs ?_;refine qs ?_;refine qs ?_;refine qs ?_;refine qs ?_;refine qg ?_;refine qm ?_;refine ab.nil (aW ?_);dsimp only[aJ,List.foldl,nth,u2,u1];dsimp only[Fr.aC,Fr.put,Fr.clean,Fr.ev,Fr.get,nth,V.look,u1,u2,v1,v2,v3,v4,v5,v6,v7,List.length,u3,u4,Nat.reduceSub,Nat.reduceAdd,List.map]
      all_goals(simp[bH,ef,ck,cX];done)
     ·refine qm ?_ (hg:=wi cX);refine qg ?_ (hg:=wi cX);refine qm ?_ (hg:=wi cX);refine ab.two 20 rfl (fun a7=>?_) (fun a7=>?_)
      ·refine qm ?_ (hg:=wi a7);refine qg ?_ (hg:=wi a7);refine ab.dh (aj rfl rfl rfl cX) rfl a7 (ae rfl _) ?_;refine qu cX ?_;refine qm ?_;refine ab.two 25 rfl (fun bd=>?_) (fun bd=>?_)
       ·refine qs ?_ (hg:=wn bd);refine qs ?_ (hg:=wn bd);refine qs ?_ (hg:=wn bd);refine qs ?_;refine qs ?_;refine qs ?_ (hg:=wn bd);refine qt bd ?_;refine qm ?_;refine ab.nil (aW ?_);dsimp only[aJ,List.foldl,nth,u2,u1];dsimp only[Fr.aC,Fr.put,Fr.clean,Fr.ev,Fr.get,nth,V.look,u1,u2,v1,v2,v3,v4,v5,v6,v7,List.length,u3,u4,Nat.reduceSub,Nat.reduceAdd,List.map]
        all_goals(simp[bH,ef,ck,cX,a7,bd];done)
       ·refine qm ?_ (hg:=wi bd);refine qg ?_ (hg:=wi bd);refine qm ?_ (hg:=wi bd);refine ab.two 28 rfl (fun a_=>?_) (fun a_=>?_)
        ·refine qm ?_ (hg:=wi a_);refine qg ?_ (hg:=wi a_);refine ab.dh (aj rfl rfl rfl bd) rfl a_ (ae rfl _) ?_;refine qu bd ?_;refine qm ?_;refine ab.nil (aW ?_);dsimp only[aJ,List.foldl,nth,u2,u1];dsimp only[Fr.aC,Fr.put,Fr.clean,Fr.ev,Fr.get,nth,V.look,u1,u2,v1,v2,v3,v4,v5,v6,v7,List.length,u3,u4,Nat.reduceSub,Nat.reduceAdd,List.map]
         all_goals(simp[bH,ef,ck,cX,a7,bd,a_];done)
        ·refine qs ?_ (hg:=wn a_);refine qs ?_ (hg:=wn a_);refine ab.cF (aj rfl rfl rfl bd) rfl a_ (ae rfl _) ?_;refine qu bd ?_;refine qm ?_;refine ab.nil (aW ?_);dsimp only[aJ,List.foldl,nth,u2,u1];dsimp only[Fr.aC,Fr.put,Fr.clean,Fr.ev,Fr.get,nth,V.look,u1,u2,v1,v2,v3,v4,v5,v6,v7,List.length,u3,u4,Nat.reduceSub,Nat.reduceAdd,List.map]
         all_goals(simp[bH,ef,ck,cX,a7,bd,a_];done)
      ·refine qs ?_ (hg:=wn a7);refine qs ?_ (hg:=wn a7);refine ab.cF (aj rfl rfl rfl cX) rfl a7 (ae rfl _) ?_;refine qu cX ?_;refine qm ?_;refine qm ?_;refine qg ?_;refine qm ?_;refine ab.two 28 rfl (fun a_=>?_) (fun a_=>?_)
       ·refine qm ?_ (hg:=wi a_);refine qg ?_ (hg:=wi a_);refine qt a_ ?_;refine qg ?_;refine qm ?_;refine ab.nil (aW ?_);dsimp only[aJ,List.foldl,nth,u2,u1];dsimp only[Fr.aC,Fr.put,Fr.clean,Fr.ev,Fr.get,nth,V.look,u1,u2,v1,v2,v3,v4,v5,v6,v7,List.length,u3,u4,Nat.reduceSub,Nat.reduceAdd,List.map]
        all_goals(simp[bH,ef,ck,cX,a7,a_];done)
       ·refine qs ?_ (hg:=wn a_);refine qs ?_ (hg:=wn a_);refine qu a_ ?_;refine qg ?_;refine qm ?_;refine ab.nil (aW ?_);dsimp only[aJ,List.foldl,nth,u2,u1];dsimp only[Fr.aC,Fr.put,Fr.clean,Fr.ev,Fr.get,nth,V.look,u1,u2,v1,v2,v3,v4,v5,v6,v7,List.length,u3,u4,Nat.reduceSub,Nat.reduceAdd,List.map]
        all_goals(simp[bH,ef,ck,cX,a7,a_];done)
    ·refine qs ?_ (hg:=wn ck);refine qs ?_ (hg:=wn ck);refine ab.cF (aj rfl rfl rfl ef) rfl ck (ae rfl _) ?_;refine qu ef ?_;refine qm ?_;refine qm ?_;refine qg ?_;refine qm ?_;refine ab.two 20 rfl (fun a7=>?_) (fun a7=>?_)
     ·refine qm ?_ (hg:=wi a7);refine qg ?_ (hg:=wi a7);refine qt a7 ?_;refine qg ?_;refine qm ?_;refine ab.two 25 rfl (fun bd=>?_) (fun bd=>?_)
      ·refine qs ?_ (hg:=wn bd);refine qs ?_ (hg:=wn bd);refine qs ?_ (hg:=wn bd);refine qs ?_;refine qs ?_;refine qs ?_ (hg:=wn bd);refine qt bd ?_;refine qm ?_;refine ab.nil (aW ?_);dsimp only[aJ,List.foldl,nth,u2,u1];dsimp only[Fr.aC,Fr.put,Fr.clean,Fr.ev,Fr.get,nth,V.look,u1,u2,v1,v2,v3,v4,v5,v6,v7,List.length,u3,u4,Nat.reduceSub,Nat.reduceAdd,List.map]
       all_goals(simp[bH,ef,ck,a7,bd];done)
      ·refine qm ?_ (hg:=wi bd);refine qg ?_ (hg:=wi bd);refine qm ?_ (hg:=wi bd);refine ab.two 28 rfl (fun a_=>?_) (fun a_=>?_)
       ·refine qm ?_ (hg:=wi a_);refine qg ?_ (hg:=wi a_);refine ab.dh (aj rfl rfl rfl bd) rfl a_ (ae rfl _) ?_;refine qu bd ?_;refine qm ?_;refine ab.nil (aW ?_);dsimp only[aJ,List.foldl,nth,u2,u1];dsimp only[Fr.aC,Fr.put,Fr.clean,Fr.ev,Fr.get,nth,V.look,u1,u2,v1,v2,v3,v4,v5,v6,v7,List.length,u3,u4,Nat.reduceSub,Nat.reduceAdd,List.map]
        all_goals(simp[bH,ef,ck,a7,bd,a_];done)
       ·refine qs ?_ (hg:=wn a_);refine qs ?_ (hg:=wn a_);refine ab.cF (aj rfl rfl rfl bd) rfl a_ (ae rfl _) ?_;refine qu bd ?_;refine qm ?_;refine ab.nil (aW ?_);dsimp only[aJ,List.foldl,nth,u2,u1];dsimp only[Fr.aC,Fr.put,Fr.clean,Fr.ev,Fr.get,nth,V.look,u1,u2,v1,v2,v3,v4,v5,v6,v7,List.length,u3,u4,Nat.reduceSub,Nat.reduceAdd,List.map]
        all_goals(simp[bH,ef,ck,a7,bd,a_];done)
     ·refine qs ?_ (hg:=wn a7);refine qs ?_ (hg:=wn a7);refine qu a7 ?_;refine qg ?_;refine qm ?_;refine qm ?_;refine qg ?_;refine qm ?_;refine ab.two 28 rfl (fun a_=>?_) (fun a_=>?_)
      ·refine qm ?_ (hg:=wi a_);refine qg ?_ (hg:=wi a_);refine qt a_ ?_;refine qg ?_;refine qm ?_;refine ab.nil (aW ?_);dsimp only[aJ,List.foldl,nth,u2,u1];dsimp only[Fr.aC,Fr.put,Fr.clean,Fr.ev,Fr.get,nth,V.look,u1,u2,v1,v2,v3,v4,v5,v6,v7,List.length,u3,u4,Nat.reduceSub,Nat.reduceAdd,List.map]
       all_goals(simp[bH,ef,ck,a7,a_];done)
      ·refine qs ?_ (hg:=wn a_);refine qs ?_ (hg:=wn a_);refine qu a_ ?_;refine qg ?_;refine qm ?_;refine ab.nil (aW ?_);dsimp only[aJ,List.foldl,nth,u2,u1];dsimp only[Fr.aC,Fr.put,Fr.clean,Fr.ev,Fr.get,nth,V.look,u1,u2,v1,v2,v3,v4,v5,v6,v7,List.length,u3,u4,Nat.reduceSub,Nat.reduceAdd,List.map]
       all_goals(simp[bH,ef,ck,a7,a_];done)
  ·refine qs ?_ (hg:=wn bH);refine qs ?_ (hg:=wn bH);refine qu bH ?_;refine qm ?_;refine qm ?_;refine qg ?_;refine qm ?_;refine ab.two 12 rfl (fun ck=>?_) (fun ck=>?_)
   ·refine qm ?_ (hg:=wi ck);refine qg ?_ (hg:=wi ck);refine qt ck ?_;refine qg ?_;refine qm ?_;refine ab.two 17 rfl (fun cX=>?_) (fun cX=>?_)
    ·refine qs ?_ (hg:=wn cX);refine qs ?_ (hg:=wn cX);refine qs ?_ (hg:=wn cX);refine qs ?_;refine qs ?_;refine qs ?_ (hg:=wn cX);refine qt cX ?_;refine qm ?_;refine qs ?_;refine qs ?_;refine qs ?_;refine qs ?_;refine qs ?_;refine qs ?_;refine qg ?_;refine qm ?_;refine ab.nil (aW ?_);dsimp only[aJ,List.foldl,nth,u2,u1];dsimp only[Fr.aC,Fr.put,Fr.clean,Fr.ev,Fr.get,nth,V.look,u1,u2,v1,v2,v3,v4,v5,v6,v7,List.length,u3,u4,Nat.reduceSub,Nat.reduceAdd,List.map]
     all_goals(simp[bH,ck,cX];done)
    ·refine qm ?_ (hg:=wi cX);refine qg ?_ (hg:=wi cX);refine qm ?_ (hg:=wi cX);refine ab.two 20 rfl (fun a7=>?_) (fun a7=>?_)
     ·refine qm ?_ (hg:=wi a7);refine qg ?_ (hg:=wi a7);refine ab.dh (aj rfl rfl rfl cX) rfl a7 (ae rfl _) ?_;refine qu cX ?_;refine qm ?_;refine ab.two 25 rfl (fun bd=>?_) (fun bd=>?_)
      ·refine qs ?_ (hg:=wn bd);refine qs ?_ (hg:=wn bd);refine qs ?_ (hg:=wn bd);refine qs ?_;refine qs ?_;refine qs ?_ (hg:=wn bd);refine qt bd ?_;refine qm ?_;refine ab.nil (aW ?_);dsimp only[aJ,List.foldl,nth,u2,u1];dsimp only[Fr.aC,Fr.put,Fr.clean,Fr.ev,Fr.get,nth,V.look,u1,u2,v1,v2,v3,v4,v5,v6,v7,List.length,u3,u4,Nat.reduceSub,Nat.reduceAdd,List.map]
       all_goals(simp[bH,ck,cX,a7,bd];done)
      ·refine qm ?_ (hg:=wi bd);refine qg ?_ (hg:=wi bd);refine qm ?_ (hg:=wi bd);refine ab.two 28 rfl (fun a_=>?_) (fun a_=>?_)
       ·refine qm ?_ (hg:=wi a_);refine qg ?_ (hg:=wi a_);refine ab.dh (aj rfl rfl rfl bd) rfl a_ (ae rfl _) ?_;refine qu bd ?_;refine qm ?_;refine ab.nil (aW ?_);dsimp only[aJ,List.foldl,nth,u2,u1];dsimp only[Fr.aC,Fr.put,Fr.clean,Fr.ev,Fr.get,nth,V.look,u1,u2,v1,v2,v3,v4,v5,v6,v7,List.length,u3,u4,Nat.reduceSub,Nat.reduceAdd,List.map]
        all_goals(simp[bH,ck,cX,a7,bd,a_];done)
       ·refine qs ?_ (hg:=wn a_);refine qs ?_ (hg:=wn a_);refine ab.cF (aj rfl rfl rfl bd) rfl a_ (ae rfl _) ?_;refine qu bd ?_;refine qm ?_;refine ab.nil (aW ?_);dsimp only[aJ,List.foldl,nth,u2,u1];dsimp only[Fr.aC,Fr.put,Fr.clean,Fr.ev,Fr.get,nth,V.look,u1,u2,v1,v2,v3,v4,v5,v6,v7,List.length,u3,u4,Nat.reduceSub,Nat.reduceAdd,List.map]
        all_goals(simp[bH,ck,cX,a7,bd,a_];done)
     ·refine qs ?_ (hg:=wn a7);refine qs ?_ (hg:=wn a7);refine ab.cF (aj rfl rfl rfl cX) rfl a7 (ae rfl _) ?_;refine qu cX ?_;refine qm ?_;refine qm ?_;refine qg ?_;refine qm ?_;refine ab.two 28 rfl (fun a_=>?_) (fun a_=>?_)
      ·refine qm ?_ (hg:=wi a_);refine qg ?_ (hg:=wi a_);refine qt a_ ?_;refine qg ?_;refine qm ?_;refine ab.nil (aW ?_);dsimp only[aJ,List.foldl,nth,u2,u1];dsimp only[Fr.aC,Fr.put,Fr.clean,Fr.ev,Fr.get,nth,V.look,u1,u2,v1,v2,v3,v4,v5,v6,v7,List.length,u3,u4,Nat.reduceSub,Nat.reduceAdd,List.map]
       all_goals(simp[bH,ck,cX,a7,a_];done)
      ·refine qs ?_ (hg:=wn a_);refine qs ?_ (hg:=wn a_);refine qu a_ ?_;refine qg ?_;refine qm ?_;refine ab.nil (aW ?_);dsimp only[aJ,List.foldl,nth,u2,u1];dsimp only[Fr.aC,Fr.put,Fr.clean,Fr.ev,Fr.get,nth,V.look,u1,u2,v1,v2,v3,v4,v5,v6,v7,List.length,u3,u4,Nat.reduceSub,Nat.reduceAdd,List.map]
       all_goals(simp[bH,ck,cX,a7,a_];done)
   ·refine qs ?_ (hg:=wn ck);refine qs ?_ (hg:=wn ck);refine qu ck ?_;refine qg ?_;refine qm ?_;refine qm ?_;refine qg ?_;refine qm ?_;refine ab.two 20 rfl (fun a7=>?_) (fun a7=>?_)
    ·refine qm ?_ (hg:=wi a7);refine qg ?_ (hg:=wi a7);refine qt a7 ?_;refine qg ?_;refine qm ?_;refine ab.two 25 rfl (fun bd=>?_) (fun bd=>?_)
     ·refine qs ?_ (hg:=wn bd);refine qs ?_ (hg:=wn bd);refine qs ?_ (hg:=wn bd);refine qs ?_;refine qs ?_;refine qs ?_ (hg:=wn bd);refine qt bd ?_;refine qm ?_;refine ab.nil (aW ?_);dsimp only[aJ,List.foldl,nth,u2,u1];dsimp only[Fr.aC,Fr.put,Fr.clean,Fr.ev,Fr.get,nth,V.look,u1,u2,v1,v2,v3,v4,v5,v6,v7,List.length,u3,u4,Nat.reduceSub,Nat.reduceAdd,List.map]
      all_goals(simp[bH,ck,a7,bd];done)
     ·refine qm ?_ (hg:=wi bd);refine qg ?_ (hg:=wi bd);refine qm ?_ (hg:=wi bd);refine ab.two 28 rfl (fun a_=>?_) (fun a_=>?_)
      ·refine qm ?_ (hg:=wi a_);refine qg ?_ (hg:=wi a_);refine ab.dh (aj rfl rfl rfl bd) rfl a_ (ae rfl _) ?_;refine qu bd ?_;refine qm ?_;refine ab.nil (aW ?_);dsimp only[aJ,List.foldl,nth,u2,u1];dsimp only[Fr.aC,Fr.put,Fr.clean,Fr.ev,Fr.get,nth,V.look,u1,u2,v1,v2,v3,v4,v5,v6,v7,List.length,u3,u4,Nat.reduceSub,Nat.reduceAdd,List.map]
       all_goals(simp[bH,ck,a7,bd,a_];done)
      ·refine qs ?_ (hg:=wn a_);refine qs ?_ (hg:=wn a_);refine ab.cF (aj rfl rfl rfl bd) rfl a_ (ae rfl _) ?_;refine qu bd ?_;refine qm ?_;refine ab.nil (aW ?_);dsimp only[aJ,List.foldl,nth,u2,u1];dsimp only[Fr.aC,Fr.put,Fr.clean,Fr.ev,Fr.get,nth,V.look,u1,u2,v1,v2,v3,v4,v5,v6,v7,List.length,u3,u4,Nat.reduceSub,Nat.reduceAdd,List.map]
       all_goals(simp[bH,ck,a7,bd,a_];done)
    ·refine qs ?_ (hg:=wn a7);refine qs ?_ (hg:=wn a7);refine qu a7 ?_;refine qg ?_;refine qm ?_;refine qm ?_;refine qg ?_;refine qm ?_;refine ab.two 28 rfl (fun a_=>?_) (fun a_=>?_)
     ·refine qm ?_ (hg:=wi a_);refine qg ?_ (hg:=wi a_);refine qt a_ ?_;refine qg ?_;refine qm ?_;refine ab.nil (aW ?_);dsimp only[aJ,List.foldl,nth,u2,u1];dsimp only[Fr.aC,Fr.put,Fr.clean,Fr.ev,Fr.get,nth,V.look,u1,u2,v1,v2,v3,v4,v5,v6,v7,List.length,u3,u4,Nat.reduceSub,Nat.reduceAdd,List.map]
      all_goals(simp[bH,ck,a7,a_];done)
     ·refine qs ?_ (hg:=wn a_);refine qs ?_ (hg:=wn a_);refine qu a_ ?_;refine qg ?_;refine qm ?_;refine ab.nil (aW ?_);dsimp only[aJ,List.foldl,nth,u2,u1];dsimp only[Fr.aC,Fr.put,Fr.clean,Fr.ev,Fr.get,nth,V.look,u1,u2,v1,v2,v3,v4,v5,v6,v7,List.length,u3,u4,Nat.reduceSub,Nat.reduceAdd,List.map]
      all_goals(simp[bH,ck,a7,a_];done)
 dsimp only[aJ,List.foldl,nth,u2,u1];refine ag.ret ⟨rx,_,rfl,rl cn hH (rfl)⟩
theorem CC {s0:St} (a b:List UInt8):∃d,Ev pv 90 [.str a,.str b] s0 d s0∧∃v:Bool,d=.bool v:=by
 refine Ev.Dt rfl M8 rfl rfl rfl ?_;dsimp only[u3,u4,List.length,Nat.reduceSub,Nat.reduceAdd,w1,w2];obtain⟨cn,hF,hH⟩:=ri s0;generalize aq .ro s0=S at*;refine qq<|qj fun K hK=>qm ?_;refine qe hK<|qq<|ag.jY 4 (.bool (decide ((a.length:Int)<b.length)||(((a.length:Int)==b.length) &&Op.bytesLess a b))) [] ?_ (fun ff tmp=>?_)
 ·refine qm ?_;refine ab.lU rfl rfl rfl (ae rfl _) ?_;refine qm ?_;refine ab.lU rfl rfl rfl (ae rfl _) ?_;refine qg ?_;refine qm ?_;refine ab.two 10 rfl (fun bn=>?_) (fun bn=>?_)
  ·refine qs ?_ (hg:=wn bn);refine qs ?_ (hg:=wn bn);refine qs ?_ (hg:=wn bn);refine qs ?_ (hg:=wn bn);refine qs ?_ (hg:=wn bn);refine qs ?_ (hg:=wn bn);refine qs ?_;refine qs ?_;refine qs ?_;refine qs ?_ (hg:=wn bn);refine qt bn ?_;refine qm ?_;refine ab.nil (aW ?_);dsimp only[aJ,List.foldl,nth,u2,u1];dsimp only[Fr.aC,Fr.put,Fr.clean,Fr.ev,Fr.get,nth,V.look,u1,u2,v1,v2,v3,v4,v5,v6,v7,List.length,u3,u4,Nat.reduceSub,Nat.reduceAdd,List.map]
   all_goals(simp_all;done)
  ·refine qm ?_ (hg:=wi bn);refine ab.lU (aj rfl rfl rfl bn) rfl rfl (ae rfl _) ?_;refine qm ?_ (hg:=wi bn);refine ab.lU (aj rfl rfl rfl bn) rfl rfl (ae rfl _) ?_;refine qg ?_ (hg:=wi bn);refine qm ?_ (hg:=wi bn);refine ab.two 16 rfl (fun bm=>?_) (fun bm=>?_)
   ·refine qm ?_ (hg:=wi bm);refine qm ?_ (hg:=wi bm);refine qg ?_ (hg:=wi bm);refine ab.dh (aj rfl rfl rfl bn) rfl bm (ae rfl _) ?_;refine qu bn ?_;refine qm ?_;refine ab.nil (aW ?_);dsimp only[aJ,List.foldl,nth,u2,u1];dsimp only[Fr.aC,Fr.put,Fr.clean,Fr.ev,Fr.get,nth,V.look,u1,u2,v1,v2,v3,v4,v5,v6,v7,List.length,u3,u4,Nat.reduceSub,Nat.reduceAdd,List.map]
    all_goals(simp_all;done)
   ·refine qs ?_ (hg:=wn bm);refine qs ?_ (hg:=wn bm);refine qs ?_ (hg:=wn bm);refine ab.cF (aj rfl rfl rfl bn) rfl bm (ae rfl _) ?_;refine qu bn ?_;refine qm ?_;refine ab.nil (aW ?_);dsimp only[aJ,List.foldl,nth,u2,u1];dsimp only[Fr.aC,Fr.put,Fr.clean,Fr.ev,Fr.get,nth,V.look,u1,u2,v1,v2,v3,v4,v5,v6,v7,List.length,u3,u4,Nat.reduceSub,Nat.reduceAdd,List.map]
    all_goals(simp_all;done)
 dsimp only[aJ,List.foldl,nth,u2,u1];refine ag.ret ⟨rx,_,_,rfl,rl cn hH (rfl),?_⟩;exact⟨_,rfl⟩
theorem j4 {s0:St} (b:List UInt8) (hb:b.length≤1048576):∃d,Ev pv 91 [.str b] s0 d s0∧∃(n:Int) (v:Bool),d=.tup [.int .i64 n,.bool v]:=by
 refine Ev.Dt rfl M7 rfl rfl rfl ?_;dsimp only[u3,u4,List.length,Nat.reduceSub,Nat.reduceAdd,w1,w2];obtain⟨cn,hF,hH⟩:=ri s0;generalize aq .ro s0=S at*;refine qq<|qj fun K hK=>qm ?_;refine qm ?_;refine qe hK<|qq<|qq<|qj fun K hK=>qm ?_;refine ab.lU rfl rfl rfl (by dsimp only[Fr.put,u1,u2]<;>rfl) ?_;refine qg ?_;refine qe hK ?_;refine ag.cond (by rfl) (fun h0=>?_) (fun h0=>?_)<;>try simp only[decide_eq_true_eq,decide_eq_false_iff_not] at h0
 ·refine qq<|qj fun K hK=>qm ?_;refine qm ?_;refine qe hK<|ag.ret ⟨rx,_,_,rfl,rl cn hH (rfl),?_⟩;exact⟨_,_,rfl⟩
 ·refine ag.skip<|qq<|qj fun K hK=>qm ?_;refine qe hK<|qq<|qq<|qj fun K hK=>qm ?_;refine ab.lU rfl rfl rfl (by dsimp only[Fr.put,u1,u2]<;>rfl) ?_;refine qm ?_;refine qe hK<|ag.block<|ag.loop (fun mm fr st=>∃(i:Nat) (n:Int),fr.clean=⟨12,[.str b,dG fr 1,dG fr 2,dG fr 3,.int .i64 n,dG fr 5,dG fr 6,dG fr 7,dG fr 8,dG fr 9,.int .i64 (b.length:Nat),.int .i64 (i:Nat)],[]⟩∧Has s0.bs.length S st []∧(i+mm=b.length)) (b.length) ?_ ?_
  ·exact⟨0,0,rfl,hH,by omega⟩
  rintro mm fr st ⟨i,n,hfr,hH,hi⟩;rw[hfr];clear hfr;generalize dG fr=ee;clear fr;refine qq<|qj fun K hK=>qg ?_;refine qe hK<|qq ?_;refine ag.cond (by rfl) (fun h1=>?_) (fun h1=>?_)<;>try simp only[decide_eq_true_eq,decide_eq_false_iff_not] at h1
  ·refine ag.skip ?_
   obtain⟨c,hc⟩:∃c,b[i]?=some c:=⟨b[i]'(by omega),List.getElem?_eq_getElem _⟩
   refine qq<|ag.block<|qq<|qj fun K hK=>qm ?_;refine qm ?_;refine qe hK<|qj fun K hK=>qm ?_;refine ab.pG (z:=bJ .i64 (10*n)) rfl (ev rfl) (ev rfl) rfl (ae rfl _) ?_;refine qm ?_;refine qm ?_;refine ab.K7 rfl (ev rfl) (ev rfl) rfl (by assumption) (ae rfl _) ?_;refine ab.go (d:=.int .u8 (bJ .u8 ((c.toNat:Nat)-48))) (st1:=_) rfl rfl rfl (ae rfl _) ?_;refine qg ?_;refine ab.eY (z:=bJ .i64 (bJ .i64 (10*n)+bJ .i64 (bJ .u8 ((c.toNat:Nat)-48)))) rfl (ev rfl) (ev rfl) rfl (ae rfl _) ?_;refine qm ?_;refine qe hK<|qj fun K hK=>qA ?_;refine qm ?_;refine qe hK ?_;exact⟨mm-1,by omega,⟨i+1,_,rfl,hH,by omega⟩⟩
  ·refine ag.exit<|qq<|qj fun K hK=>qm ?_;refine qm ?_;refine qg ?_;refine qm ?_;refine qm ?_;refine qe hK<|ag.ret ⟨rx,_,_,rfl,rl cn hH (rfl),?_⟩;exact⟨_,_,rfl⟩
theorem lI:∀gs:List (Nat×Nat),gW ((gs.map aY).map (jD 2))=some (gs.map fun g=>((g.1:Nat):Int))
 |[]=>rfl
 |g::gs=>by
  have ih:=lI gs;simp only[List.map_cons];show(match gW ((gs.map aY).map (jD 2)) with|some rs=>some (((g.1:Nat):Int)::rs)|none=>none)=_;rw[ih]
theorem sH:∀(rs:List Int) (acc:List UInt8),(digS rs acc).2≤rs.length∧(digS rs acc).1.length≤acc.length+(digS rs acc).2
 |[],acc=>by simp[digS]
 |r::rs,acc=>by
  unfold digS
  split
  ·have h:=sH rs (if 48<r∨acc≠[] then acc++[UInt8.ofNat r.toNat] else acc);simp only[List.length_cons]
   have hl:(if 48<r∨acc≠[] then acc++[UInt8.ofNat r.toNat] else acc).length≤acc.length+1:=by
    split<;>simp
   omega
  ·simp
structure i_ (gs:List (Nat×Nat)) (ba:List Int):Prop where
 gl:gs.length≤120
 pl:ba.length=gs.length
theorem oV {N k:Nat} {S s0:St} {H:List bT} {gs:List (Nat×Nat)} {bk:D} {s:dQ} (ni:gs.length≤120) (hi:s.i≤gs.length) (hne:gs≠[]) (hH:Has N S s0 (.box k (.mem 0 false (aQ gs bk s))::H)):
  ∃d ah,Ev pv 89 [.ptr k 0 0] s0 d ah∧∃(t:List UInt8) (v:Bool) (m:Nat),d=.tup [.str t,.bool v]∧t.length≤120∧s.i+m≤gs.length∧Has N S ah (.box k (.mem 0 false (aQ gs bk {s with i:=s.i+m}))::H):=by
 have hb:=hH.at aB;have hw:=gP (cs:=[.int .i64 0]) hH (hH.ge aB).1 (.inr rfl);have hl:=sH ((gs.map fun g=>((g.1:Nat):Int)).drop s.i) [];obtain⟨h1,h2⟩:=hl;simp only[List.length_drop,List.length_map,List.length_nil] at h1 h2;refine⟨_,_,Ev.gY rfl ?_,(digS ((gs.map fun g=>((g.1:Nat):Int)).drop s.i) []).1,decide (0<(digS ((gs.map fun g=>((g.1:Nat):Int)).drop s.i) []).2),(digS ((gs.map fun g=>((g.1:Nat):Int)).drop s.i) []).2,rfl,by omega,by omega,hH.xG (az:=0) aB⟩
 have hd:decide ((gs.map fun g=>((g.1:Nat):Int))≠[]∧(0:Int)≤(s.i:Nat)∧((s.i:Nat):Int).toNat≤(gs.map fun g=>((g.1:Nat):Int)).length∧(gs.map fun g=>((g.1:Nat):Int)).length<1099511627776)=true:=by
  rw[decide_eq_true];refine⟨by simpa using hne,by omega,by simp;omega,by simp;omega⟩
 show wT [.ptr k 0 0] s0=_;simp only[wT,St.mem_of hb];show(match gW ((gs.map aY).map (jD 2)) with|some rs=>Db s0 k 0 0 rs (s.i:Nat)|none=>none)=_;rw[lI];simp only[Db,hd];have hwr:=jM (cs:=[.int .i64 ((s.i+(digS ((gs.map fun g=>((g.1:Nat):Int)).drop s.i) []).2:Nat))]) (off:=2) hb (by show 2+1≤7;omega) hw;simp only[Int.toNat_natCast,Nat.zero_add];rw[hwr]
 rfl
def zt (gs:List (Nat×Nat)) (s s':dQ) (d1:D) (b:Bool):Prop:=
 s'.o=s.o∧s'.g=s.g∧s.i≤s'.i∧s'.i≤gs.length∧(d1=.nul∨∃a,d1=bq a∧a.length≤8)∧(s'.e≠0∨s'.e=0∧s.i<s'.i∧∃a,d1=bq a∧a.length≤8∧a≠[])
theorem cL {ba:List Int} {s:dQ} {i:Nat} {e:Int} (he:s.e=0) (h:e≠0):(gp ba s i e).e≠0∧(gp ba s i e).i=s.i∧(gp ba s i e).o=s.o∧(gp ba s i e).g=s.g:=by
 unfold gp;rw[if_pos he];exact⟨h,rfl,rfl,rfl⟩
theorem uU {N k:Nat} {S s0:St} {H:List bT} {gs:List (Nat×Nat)} {bk:D} {ba:List Int} {s:dQ} (cI:i_ gs ba) (he:s.e=0) (hi:s.i<gs.length) (hH:Has N S s0 (.box k (.mem 0 false (aQ gs bk s))::.aN bk 1 (ba.map av)::H)):
  ∃d ah,Ev pv 86 [.ptr k 0 0] s0 d ah∧∃(d1:D) (b:Bool) (s':dQ),d=.tup [d1,.bool b]∧zt gs s s' d1 b∧Has N S ah (.box k (.mem 0 false (aQ gs bk s'))::.aN bk 1 (ba.map av)::H):=by
 have ni:=cI.gl;have gT:=cI.pl;refine Ev.lX rfl Na rfl rfl rfl ?_;dsimp only[u3,u4,List.length,Nat.reduceSub,Nat.reduceAdd,w1,w2];have cv:=hH;have hH:=hH.cw;have b4:(aq .rw s0).bs=s0.bs:=rfl;generalize aq .rw s0=S2 at*;have yI:Arg N S2 2 (bX gs) (gs.map aY):=Arg.pure (fun st=>cC st gs);refine qq<|qj fun K hK=>qm ?_;refine qm ?_;refine qe hK<|qq<|qj fun K hK=>qm ?_;refine qg ?_;refine qp (o:=2) ?_;refine ql hH aB ?_;refine qm ?_;refine qe hK<|qq<|qj fun K hK=>qm ?_;refine qg ?_;refine qp (o:=2) ?_;refine ql hH aB ?_;refine qA ?_;refine qg ?_;refine qp (o:=2) ?_;refine qT hH aB fun st hH=>?_;dsimp only[u2,u1,u3,u4,setMany,u5,u6,D.cells,Nat.reduceAdd,aQ,aY,av,ax] at hH;refine qe hK<|qq<|qq<|qj fun K hK=>qm ?_;refine qg ?_;refine qp (o:=2) ?_;refine ql hH aB ?_;refine qm ?_;refine qg ?_;refine qp (o:=0) ?_;refine ql hH aB ?_;refine qn ?_;simp only[List.length_map];refine qg ?_;refine qe hK ?_;refine ag.cond (by rfl) (fun h0=>?_) (fun h0=>?_)<;>try simp only[decide_eq_true_eq,decide_eq_false_iff_not] at h0
 ·refine qq<|qj fun K hK=>qm ?_;refine qm ?_;obtain⟨_,st,aM,rfl,hH⟩:=cD (s:={s with i:=s.i+1}) s.i 4 (by omega) hH;refine qv aM ?_;refine qe hK<|qq<|qj fun K hK=>qm ?_;refine qm ?_;refine qe hK ?_;obtain⟨h1,h2,h3,h4⟩:=cL (ba:=ba) (s:={s with i:=s.i+1}) (i:=s.i) (e:=4) he (by decide);refine ag.ret ⟨rx,_,_,_,rfl,ak (rfl),?_⟩;exact⟨_,_,_,rfl,⟨h3,h4,by rw[h2];simp,by rw[h2];exact hi,.inl rfl,.inl h1⟩,cv.ay b4 hH⟩
 ·obtain⟨g,hg⟩:∃g,gs[s.i+1]?=some g:=⟨gs[s.i+1]'(by omega),List.getElem?_eq_getElem _⟩
  have gM:(gs.map aY)[s.i+1]?=some (aY g):=by rw[List.getElem?_map,hg];rfl
  have hlt:=cq hg;refine ag.skip<|qq<|qq<|qj fun K hK=>qm ?_;refine qm ?_;refine qg ?_;refine qp (o:=2) ?_;refine ql hH aB ?_;obtain⟨_,st,aM,rfl,hH⟩:=uC (s:={s with i:=s.i+1}) (s.i+1) hlt hH;refine qv aM ?_;refine qe hK ?_;dsimp only[aQ] at hH;refine qc (fun hb=>?_) (fun hb=>?_)<;>try simp only[cs] at hb
  ·refine qq<|qj fun K hK=>qm ?_;refine qm ?_;refine qg ?_;refine qp (o:=2) ?_;refine ql hH aB ?_;obtain⟨_,st,aM,rfl,hH⟩:=cD (s:={s with i:=s.i+1}) (s.i+1) 4 (by omega) hH;refine qv aM ?_;refine qe hK<|qq<|qj fun K hK=>qm ?_;refine qm ?_;refine qe hK ?_;obtain⟨h1,h2,h3,h4⟩:=cL (ba:=ba) (s:={s with i:=s.i+1}) (i:=s.i+1) (e:=4) he (by decide);refine ag.ret ⟨rx,_,_,_,rfl,ak (rfl),?_⟩;exact⟨_,_,_,rfl,⟨h3,h4,by rw[h2];simp,by rw[h2];exact hi,.inl rfl,.inl h1⟩,cv.ay b4 hH⟩
  ·refine ag.skip<|qq<|qj fun K hK=>qm ?_;refine qg ?_;refine qp (o:=0) ?_;refine ql hH aB ?_;refine qm ?_;refine qg ?_;refine qp (o:=2) ?_;refine ql hH aB ?_;refine qr fun PI L1=>?_;refine qf (fo:=0) fun PH L0=>?_;refine qR ?_;refine qm ?_;refine qe hK<|qq<|qj fun K hK=>qm ?_;refine qg ?_;refine qp (o:=2) ?_;refine ql hH aB ?_;refine qA ?_;refine qg ?_;refine qp (o:=2) ?_;refine qT hH aB fun st hH=>?_;dsimp only[u2,u1,u3,u4,setMany,u5,u6,D.cells,Nat.reduceAdd,aQ,aY,av,ax] at hH;refine qe hK<|qq<|qq<|qj fun K hK=>qm ?_;refine qe hK ?_
   have eE:∀(a:List Rg) (b:Bool),a.length≤8→a≠[]→zt gs s {s with i:=s.i+1+1} (bq a) b:=fun a b h1 h2=>⟨rfl,rfl,by show s.i≤s.i+1+1;omega,by show s.i+1+1≤_;omega,.inr ⟨a,rfl,h1⟩,.inr ⟨he,by show s.i<s.i+1+1;omega,a,rfl,h1,h2⟩⟩
   have hU:∀(r:Int),0≤r→r<55296→(iO [(r,r)]).length≤8∧iO [(r,r)]≠[]:=by
    intro r h1 h2;obtain⟨_,h3,h4⟩:=ke (s0:=s0) (x:=bq [(r,r)]) (l:=[(r,r)]) (eu _ _) (by simp);exact⟨by simp at h3;omega,rW h1 h2 h4⟩
   refine ag.block<|qq<|qj fun K hK=>qg ?_;refine qm ?_;refine qe hK ?_;refine ag.cond (by rfl) (fun q1=>?_) (fun q1=>?_)<;>try simp only[beq_iff_eq,beq_eq_false_iff_ne,ne_eq] at q1
   ·refine qq<|qj fun K hK=>qv (gC 10) ?_;refine qm ?_;refine qm ?_;refine qe hK<|ag.ret ⟨rx,_,_,_,rfl,ak (rfl),?_⟩;exact⟨_,_,_,rfl,eE _ _ (hU 10 (by decide) (by decide)).1 (hU 10 (by decide) (by decide)).2,cv.ay b4 hH⟩
   ·refine qq<|qj fun K hK=>qg ?_;refine qm ?_;refine qe hK ?_;refine ag.cond (by rfl) (fun q2=>?_) (fun q2=>?_)<;>try simp only[beq_iff_eq,beq_eq_false_iff_ne,ne_eq] at q2
    ·refine qq<|qj fun K hK=>qv (gC 9) ?_;refine qm ?_;refine qm ?_;refine qe hK<|ag.ret ⟨rx,_,_,_,rfl,ak (rfl),?_⟩;exact⟨_,_,_,rfl,eE _ _ (hU 9 (by decide) (by decide)).1 (hU 9 (by decide) (by decide)).2,cv.ay b4 hH⟩
    ·refine qq<|qj fun K hK=>qg ?_;refine qm ?_;refine qe hK ?_;refine ag.cond (by rfl) (fun q3=>?_) (fun q3=>?_)<;>try simp only[beq_iff_eq,beq_eq_false_iff_ne,ne_eq] at q3
     ·refine qq<|qj fun K hK=>qv (gC 13) ?_;refine qm ?_;refine qm ?_;refine qe hK<|ag.ret ⟨rx,_,_,_,rfl,ak (rfl),?_⟩;exact⟨_,_,_,rfl,eE _ _ (hU 13 (by decide) (by decide)).1 (hU 13 (by decide) (by decide)).2,cv.ay b4 hH⟩
     ·refine qq<|qj fun K hK=>qg ?_;refine qm ?_;refine qe hK ?_;refine ag.cond (by rfl) (fun q4=>?_) (fun q4=>?_)<;>try simp only[beq_iff_eq,beq_eq_false_iff_ne,ne_eq] at q4
      ·refine qq<|qj fun K hK=>?_;refine ab.fP (qs:=[(0,_),(1,_)]) rfl rfl rfl rfl ⟨rfl,(ev rfl),(by rfl),rfl,(ev rfl),(by rfl),trivial⟩ (by intro q hq;simp only[List.mem_cons,List.not_mem_nil,or_false] at hq;rcases hq with rfl|rfl<;>exact⟨rfl,by exact Nat.le_of_ble_eq_true rfl⟩) (by show List.foldl _ [_,_] _=_;dsimp only[List.foldl_cons,List.foldl_nil,u2,u1]<;>rfl) (ae rfl _) ?_;refine qh (s:=2) (vs:=[_]) hH fun k73 st Rc hH=>?_;obtain⟨aM,hl,CV⟩:=ke (l:=[(48,57)]) (hH.rows aB) (by simp);refine qv aM ?_;refine qm ?_;refine qm ?_;refine qe hK<|ag.ret ⟨rx,_,_,_,rfl,ak (rfl),?_⟩;exact⟨_,_,_,rfl,eE _ _ (by simp at hl;omega) (pL (r:=48) (by decide) (by decide) ⟨_,List.mem_cons_self ..,by decide,by decide⟩ CV),cv.ay b4 (hH.drop 1)⟩
      ·refine qq<|qj fun K hK=>qg ?_;refine qm ?_;refine qe hK ?_;refine ag.cond (by rfl) (fun q5=>?_) (fun q5=>?_)<;>try simp only[beq_iff_eq,beq_eq_false_iff_ne,ne_eq] at q5
       ·refine qq<|qj fun K hK=>?_;refine ab.fP (qs:=[(0,_),(1,_)]) rfl rfl rfl rfl ⟨rfl,(ev rfl),(by rfl),rfl,(ev rfl),(by rfl),trivial⟩ (by intro q hq;simp only[List.mem_cons,List.not_mem_nil,or_false] at hq;rcases hq with rfl|rfl<;>exact⟨rfl,by exact Nat.le_of_ble_eq_true rfl⟩) (by show List.foldl _ [_,_] _=_;dsimp only[List.foldl_cons,List.foldl_nil,u2,u1]<;>rfl) (ae rfl _) ?_;refine ab.fP (qs:=[(0,_),(1,_)]) rfl rfl rfl rfl ⟨rfl,(ev rfl),(by rfl),rfl,(ev rfl),(by rfl),trivial⟩ (by intro q hq;simp only[List.mem_cons,List.not_mem_nil,or_false] at hq;rcases hq with rfl|rfl<;>exact⟨rfl,by exact Nat.le_of_ble_eq_true rfl⟩) (by show List.foldl _ [_,_] _=_;dsimp only[List.foldl_cons,List.foldl_nil,u2,u1]<;>rfl) (ae rfl _) ?_;refine ab.fP (qs:=[(0,_),(1,_)]) rfl rfl rfl rfl ⟨rfl,(ev rfl),(by rfl),rfl,(ev rfl),(by rfl),trivial⟩ (by intro q hq;simp only[List.mem_cons,List.not_mem_nil,or_false] at hq;rcases hq with rfl|rfl<;>exact⟨rfl,by exact Nat.le_of_ble_eq_true rfl⟩) (by show List.foldl _ [_,_] _=_;dsimp only[List.foldl_cons,List.foldl_nil,u2,u1]<;>rfl) (ae rfl _) ?_;refine qh (s:=2) (vs:=[_,_,_]) hH fun k80 st Mi hH=>?_;obtain⟨aM,hl,CV⟩:=ke (l:=[(9,10),(13,13),(32,32)]) (hH.rows aB) (by simp);refine qv aM ?_;refine qm ?_;refine qm ?_;refine qe hK<|ag.ret ⟨rx,_,_,_,rfl,ak (rfl),?_⟩;exact⟨_,_,_,rfl,eE _ _ (by simp at hl;omega) (pL (r:=9) (by decide) (by decide) ⟨_,List.mem_cons_self ..,by decide,by decide⟩ CV),cv.ay b4 (hH.drop 1)⟩
       ·refine qq<|qj fun K hK=>qg ?_;refine qm ?_;refine qe hK ?_;refine ag.cond (by rfl) (fun q6=>?_) (fun q6=>?_)<;>try simp only[beq_iff_eq,beq_eq_false_iff_ne,ne_eq] at q6
        ·refine qq<|qj fun K hK=>?_;refine ab.fP (qs:=[(0,_),(1,_)]) rfl rfl rfl rfl ⟨rfl,(ev rfl),(by rfl),rfl,(ev rfl),(by rfl),trivial⟩ (by intro q hq;simp only[List.mem_cons,List.not_mem_nil,or_false] at hq;rcases hq with rfl|rfl<;>exact⟨rfl,by exact Nat.le_of_ble_eq_true rfl⟩) (by show List.foldl _ [_,_] _=_;dsimp only[List.foldl_cons,List.foldl_nil,u2,u1]<;>rfl) (ae rfl _) ?_;refine ab.fP (qs:=[(0,_),(1,_)]) rfl rfl rfl rfl ⟨rfl,(ev rfl),(by rfl),rfl,(ev rfl),(by rfl),trivial⟩ (by intro q hq;simp only[List.mem_cons,List.not_mem_nil,or_false] at hq;rcases hq with rfl|rfl<;>exact⟨rfl,by exact Nat.le_of_ble_eq_true rfl⟩) (by show List.foldl _ [_,_] _=_;dsimp only[List.foldl_cons,List.foldl_nil,u2,u1]<;>rfl) (ae rfl _) ?_;refine ab.fP (qs:=[(0,_),(1,_)]) rfl rfl rfl rfl ⟨rfl,(ev rfl),(by rfl),rfl,(ev rfl),(by rfl),trivial⟩ (by intro q hq;simp only[List.mem_cons,List.not_mem_nil,or_false] at hq;rcases hq with rfl|rfl<;>exact⟨rfl,by exact Nat.le_of_ble_eq_true rfl⟩) (by show List.foldl _ [_,_] _=_;dsimp only[List.foldl_cons,List.foldl_nil,u2,u1]<;>rfl) (ae rfl _) ?_;refine ab.fP (qs:=[(0,_),(1,_)]) rfl rfl rfl rfl ⟨rfl,(ev rfl),(by rfl),rfl,(ev rfl),(by rfl),trivial⟩ (by intro q hq;simp only[List.mem_cons,List.not_mem_nil,or_false] at hq;rcases hq with rfl|rfl<;>exact⟨rfl,by exact Nat.le_of_ble_eq_true rfl⟩) (by show List.foldl _ [_,_] _=_;dsimp only[List.foldl_cons,List.foldl_nil,u2,u1]<;>rfl) (ae rfl _) ?_;refine qh (s:=2) (vs:=[_,_,_,_]) hH fun k88 st JT hH=>?_;obtain⟨aM,hl,CV⟩:=ke (l:=[(48,57),(65,90),(95,95),(97,122)]) (hH.rows aB) (by simp);refine qv aM ?_;refine qm ?_;refine qm ?_;refine qe hK<|ag.ret ⟨rx,_,_,_,rfl,ak (rfl),?_⟩;exact⟨_,_,_,rfl,eE _ _ (by simp at hl;omega) (pL (r:=48) (by decide) (by decide) ⟨_,List.mem_cons_self ..,by decide,by decide⟩ CV),cv.ay b4 (hH.drop 1)⟩
        ·refine ag.skip<|qq<|qq<|qj fun K hK=>qm ?_;refine qv (CB _) ?_;refine qg ?_;refine qe hK ?_;refine ag.cond (by rfl) (fun q7=>?_) (fun q7=>?_)<;>try simp only[decide_eq_true_eq,decide_eq_false_iff_not,Bool.not_eq_true',Bool.not_eq_false'] at q7
         ·refine qq<|qj fun K hK=>qm ?_;refine qm ?_;obtain⟨_,st,aM,rfl,hH⟩:=cD (s:={s with i:=s.i+1+1}) s.i 4 (by omega) hH;refine qv aM ?_;refine qe hK<|qq<|qj fun K hK=>qm ?_;refine qm ?_;refine qe hK ?_;obtain⟨h1,h2,h3,h4⟩:=cL (ba:=ba) (s:={s with i:=s.i+1+1}) (i:=s.i) (e:=4) he (by decide);refine ag.ret ⟨rx,_,_,_,rfl,ak (rfl),?_⟩;exact⟨_,_,_,rfl,⟨h3,h4,by rw[h2];show s.i≤s.i+1+1;omega,by rw[h2];show s.i+1+1≤_;omega,.inl rfl,.inl h1⟩,cv.ay b4 hH⟩
         ·refine ag.skip<|qq<|qj fun K hK=>qm ?_;refine qv (gC _) ?_;refine qm ?_;refine qm ?_;refine qe hK ?_;have hm:=hU ((g.1:Nat):Int) (by omega) (by omega);refine ag.ret ⟨rx,_,_,_,rfl,ak (rfl),?_⟩;exact⟨_,_,_,rfl,eE _ _ hm.1 hm.2,cv.ay b4 hH⟩
structure dj where
 op:Int
 rd:D
 rs:List Rg
 mn:Int
 mx:Int
 lz:Bool
 cap:Int
 kids:Int
def a8 (n:dj):List D:=[.int .i64 n.op,n.rd,.int .i64 n.mn,.int .i64 n.mx,.bool n.lz,.int .i64 n.cap,.int .i64 n.kids]
def dj.ok (n:dj):Prop:=gR n.rd 2 (n.rs.map ax)∧n.rs.length≤1048576∧n.kids≤9223372036854775807
structure Nl where
 d:D
 l:List dj
structure Nl.ok (x:Nl):Prop where
 c:gR x.d 7 (x.l.map a8)
 i:∀n∈x.l,n.ok
 nl:x.l.length≤1048576
theorem jk {l:List dj} {i:Nat} {q:dj} (h:l[i]?=some q):(l.map a8)[i]?=some (a8 q):=by rw[List.getElem?_map,h];rfl
mutual
inductive Tr where
 |mk (n:dj) (ks:bF)
inductive bF where
 |nil
 |cons (t:Tr) (ts:bF)
end
def bF.len:bF→Nat
 | .nil=>0
 | .cons _ ts=>ts.len+1
mutual
def Tr.flat:Tr→List dj
 | .mk n ks=>n::ks.flat
def bF.flat:bF→List dj
 | .nil=>[]
 | .cons t ts=>t.flat++ts.flat
end
def rR (n:dj) (nk:Nat):Prop:=
 n.kids=(nk:Int)∧(((n.op=1∨n.op=7∨n.op=8)∧nk=0)∨(n.op=2∧nk=0)∨((n.op=3∨n.op=4)∧2≤nk)∨
  (n.op=5∧nk=1∧0≤n.mn∧n.mn≤30∧(n.mx=-1∨(n.mn≤n.mx∧n.mx≤30)))∨(n.op=6∧nk=1∧1≤n.cap∧n.cap≤4))
mutual
def Tr.ok:Tr→Prop
 | .mk n ks=>rR n ks.len∧ks.ok
def bF.ok:bF→Prop
 | .nil=>True
 | .cons t ts=>t.ok∧ts.ok
end
def bz (n:dj) (s k:Nat):Nat:=
 if n.op=2∨n.op=7∨n.op=8 then 1
 else if n.op=4 then s+2*(k-1)
 else if n.op=6 then s+2
 else if n.op=5 then(if n.mx=-1 then n.mn.toNat*s+s+2 else n.mn.toNat*s+(n.mx.toNat-n.mn.toNat)*(s+1))
 else s
mutual
def Tr.sz:Tr→Nat
 | .mk n ks=>bz n ks.sz ks.len
def bF.sz:bF→Nat
 | .nil=>0
 | .cons t ts=>t.sz+ts.sz
end
def b7 (op x y:Int) (rs:List Rg):aP:=⟨op,x,y,.sl ((rs.map ax).map (jD 2)),rs⟩
def j8 (s o:Nat) (lz:Bool):aP:=if lz=true then b7 2 (o:Nat) ((s+1:Nat):Int) [] else b7 2 ((s+1:Nat):Int) (o:Nat) []
def ig (e:Nat):aP:=b7 3 (e:Nat) 0 []
def er (c:Nat→List aP) (z:Nat):Nat→Nat→List aP
 |0,_=>[]
 |k+1,b=>c b++er c z k (b+z)
def dZ (sp:Nat→aP) (c:Nat→List aP) (z:Nat):Nat→Nat→List aP
 |0,_=>[]
 |k+1,b=>sp b::(c (b+1)++dZ sp c z k (b+1+z))
def rK (z:Nat):Nat→Nat→List Nat
 |0,_=>[]
 |k+1,b=>b::rK z k (b+1+z)
def kU (n:dj) (c:Nat→List aP) (z b:Nat):List aP:=
 if n.mx=-1 then er c z n.mn.toNat b++(j8 (b+n.mn.toNat*z) (b+n.mn.toNat*z+z+2) n.lz::(c (b+n.mn.toNat*z+1)++[ig (b+n.mn.toNat*z)]))
 else er c z n.mn.toNat b++dZ (fun s=>j8 s (b+n.mn.toNat*z+(n.mx.toNat-n.mn.toNat)*(z+1)) n.lz) c z (n.mx.toNat-n.mn.toNat) (b+n.mn.toNat*z)
mutual
def aG:Tr→Nat→List aP
 | .mk n ks,b=>
  if n.op=2 then[b7 1 0 0 n.rs]
  else if n.op=7 then[b7 5 0 0 []]
  else if n.op=8 then[b7 6 0 0 []]
  else if n.op=3 then eV ks b
  else if n.op=4 then dt (ig (b+bz n ks.sz ks.len)) ks b
  else if n.op=5 then kU n (eV ks) ks.sz b
  else if n.op=6 then b7 4 (2*n.cap) 0 []::(eV ks (b+1)++[b7 4 (2*n.cap+1) 0 []])
  else[]
def eV:bF→Nat→List aP
 | .nil,_=>[]
 | .cons t ts,b=>aG t b++eV ts (b+t.sz)
def dt (jp:aP):bF→Nat→List aP
 | .nil,_=>[]
 | .cons t ts,b=>if ts.len=0 then aG t b else j8 b (b+1+t.sz+1) false::(aG t (b+1)++jp::dt jp ts (b+t.sz+2))
end
def nO:bF→Nat→List Nat
 | .nil,_=>[]
 | .cons t ts,b=>if ts.len=0 then[] else(b+1+t.sz)::nO ts (b+t.sz+2)
theorem iF {c:Nat→List aP} {z:Nat} (hc:∀b,(c b).length=z):∀k b,(er c z k b).length=k*z
 |0,b=>by simp[er]
 |k+1,b=>by rw[er,List.length_append,hc,iF hc k,Nat.add_mul];omega
theorem kc {sp:Nat→aP} {c:Nat→List aP} {z:Nat} (hc:∀b,(c b).length=z):∀k b,(dZ sp c z k b).length=k*(z+1)
 |0,b=>by simp[dZ]
 |k+1,b=>by rw[dZ,List.length_cons,List.length_append,hc,kc hc k,Nat.add_mul];omega
theorem xI {n:dj} {c:Nat→List aP} {z b:Nat} (hc:∀b,(c b).length=z) (h:n.op=5):(kU n c z b).length=bz n z 1:=by
 unfold kU bz;rw[if_neg (show¬(n.op=2∨n.op=7∨n.op=8) by omega),if_neg (show¬n.op=4 by omega),if_neg (show¬n.op=6 by omega),if_pos h]
 split
 ·rw[List.length_append,iF hc,List.length_cons,List.length_append,hc];simp only[List.length_cons,List.length_nil];omega
 ·rw[List.length_append,iF hc,kc hc]
theorem bF.vi {ks:bF} (h:ks.len=1):∃t,ks=.cons t .nil:=by
 cases ks with
 |nil=>simp[bF.len] at h
 |cons t ts=>cases ts with
  |nil=>exact⟨t,rfl⟩
  |cons u us=>simp[bF.len] at h
theorem bF.len_nil {ks:bF} (h:ks.len=0):ks=.nil:=by
 cases ks with
 |nil=>rfl
 |cons t ts=>simp[bF.len] at h
mutual
theorem bS:∀(t:Tr) (b:Nat),t.ok→(aG t b).length=t.sz
 | .mk n ks,b,h=>by
  simp only[Tr.ok] at h;obtain⟨h1,h2⟩:=h;have hc:=fun b=>kD ks b h2;have ha:=fun jp b=>kL jp ks b h2;simp only[aG,Tr.sz];obtain⟨_,⟨h3,h4⟩|⟨h3,h4⟩|⟨h3,h4⟩|⟨h3,h4,h5⟩|⟨h3,h4,h5⟩⟩:=h1
  ·have hk:=bF.len_nil h4;subst hk
   by_cases q7:n.op=7
   ·simp[q7,bz]
   ·by_cases q8:n.op=8
    ·simp[q8,bz]
    ·have q1:n.op=1:=by omega
     simp[q1,bz,bF.sz]
  ·simp[h3,bz]
  ·rcases h3 with h3|h3
   ·simp[h3,bz,hc]
   ·simp[h3,bz,ha]
  ·have:=xI (n:=n) (b:=b) hc h3;simp only[h3] at this⊢;simp only[show¬((5:Int)=2) by decide,show¬((5:Int)=7) by decide,show¬((5:Int)=8) by decide,show¬((5:Int)=3) by decide,show¬((5:Int)=4) by decide,if_false,if_true];rw[this,h4]
  ·simp[h3,bz,hc]
theorem kD:∀(ts:bF) (b:Nat),ts.ok→(eV ts b).length=ts.sz
 | .nil,b,_=>by simp[eV,bF.sz]
 | .cons t ts,b,h=>by
  simp only[bF.ok] at h;simp only[eV,bF.sz,List.length_append];rw[bS t b h.1,kD ts _ h.2]
theorem kL (jp:aP):∀(ts:bF) (b:Nat),ts.ok→(dt jp ts b).length=ts.sz+2*(ts.len-1)
 | .nil,b,_=>by simp[dt,bF.sz,bF.len]
 | .cons t ts,b,h=>by
  simp only[bF.ok] at h;have h1:=kL jp ts (b+t.sz+2) h.2;simp only[dt,bF.sz,bF.len]
  by_cases q:ts.len=0
  ·rw[if_pos q,bS t b h.1,q];have:=bF.len_nil q;subst this;simp[bF.sz]
  ·rw[if_neg q,List.length_cons,List.length_append,List.length_cons,bS t _ h.1,h1];omega
end
def fM (f:Nat→aP) (c:List aP) (l:List Nat):List aP:=l.foldl (fun c j=>c.set j (f j)) c
theorem mf {α:Type} (pre post:List α) (x y:α):(pre++x::post).set pre.length y=pre++y::post:=by
 rw[List.set_append_right _ _ (Nat.le_refl _),Nat.sub_self];rfl
theorem mq {α:Type} (pre post:List α) (x:α):(pre++x::post)[pre.length]?=some x:=by
 rw[List.getElem?_append_right (Nat.le_refl _),Nat.sub_self];rfl
theorem kW {sp:Nat→aP} {c:Nat→List aP} {z:Nat} (hc:∀b,(c b).length=z) {i0:aP}:∀(k b:Nat) (pre post:List aP),pre.length=b→fM sp (pre++dZ (fun _=>i0) c z k b++post) (rK z k b)=pre++dZ sp c z k b++post∧∀j∈rK z k b,(pre++dZ (fun _=>i0) c z k b++post)[j]?=some i0
 |0,b,pre,post,_=>⟨rfl,fun j hj=>by cases hj⟩
 |k+1,b,pre,post,h=>by
  have ih:=kW (sp:=sp) hc (i0:=i0) k (b+1+z) (pre++i0::c (b+1)) post (by rw[List.length_append,List.length_cons,hc];omega);have w5:=kW (sp:=sp) hc (i0:=i0) k (b+1+z) (pre++sp b::c (b+1)) post (by rw[List.length_append,List.length_cons,hc];omega);simp only[dZ,rK];have e:pre++i0::(c (b+1)++dZ (fun _=>i0) c z k (b+1+z))++post=pre++i0::(c (b+1)++dZ (fun _=>i0) c z k (b+1+z)++post):=by simp
  have e2:pre++i0::c (b+1)++dZ (fun _=>i0) c z k (b+1+z)++post=pre++i0::(c (b+1)++dZ (fun _=>i0) c z k (b+1+z)++post):=by simp
  refine⟨?_,fun j hj=>?_⟩
  ·unfold fM at w5⊢;rw[List.foldl_cons,e]
   have hs:(pre++i0::(c (b+1)++dZ (fun _=>i0) c z k (b+1+z)++post)).set b (sp b)=pre++sp b::c (b+1)++dZ (fun _=>i0) c z k (b+1+z)++post:=by
    rw[←h,mf];simp
   rw[hs,w5.1];simp
  ·rw[e]
   rcases List.mem_cons.1 hj with rfl|hj
   ·rw[←h];exact mq _ _ _
   ·rw[←e2];exact ih.2 j hj
theorem lB {jp i0:aP}:∀(ts:bF) (b:Nat) (pre post:List aP),ts.ok→pre.length=b→fM (fun _=>jp) (pre++dt i0 ts b++post) (nO ts b)=pre++dt jp ts b++post∧∀j∈nO ts b,(pre++dt i0 ts b++post)[j]?=some i0
 | .nil,b,pre,post,_,_=>⟨by simp[dt,nO,fM],fun j hj=>by simp[nO] at hj⟩
 | .cons t ts,b,pre,post,cI,h=>by
  simp only[bF.ok] at cI
  by_cases q:ts.len=0
  ·simp only[dt,nO,if_pos q];exact⟨rfl,fun j hj=>by cases hj⟩
  ·simp only[dt,nO,if_neg q];generalize j8 b (b+1+t.sz+1) false=sp;have hcl:=bS t (b+1) cI.1;have ih:=lB (jp:=jp) (i0:=i0) ts (b+t.sz+2) (pre++sp::(aG t (b+1)++[i0])) post cI.2 (by simp only[List.length_append,List.length_cons,List.length_nil,hcl];omega);have w5:=lB (jp:=jp) (i0:=i0) ts (b+t.sz+2) (pre++sp::(aG t (b+1)++[jp])) post cI.2 (by simp only[List.length_append,List.length_cons,List.length_nil,hcl];omega);generalize dt i0 ts (b+t.sz+2)=A at*;have e:pre++sp::(aG t (b+1)++i0::A)++post=(pre++sp::aG t (b+1))++i0::(A++post):=by simp
   have hl:(pre++sp::aG t (b+1)).length=b+1+t.sz:=by simp only[List.length_append,List.length_cons,hcl];omega
   refine⟨?_,fun j hj=>?_⟩
   ·unfold fM at w5⊢;rw[List.foldl_cons,e,←hl,mf];have:=w5.1;simp only[List.append_assoc,List.cons_append,List.nil_append] at this⊢;exact this
   ·rw[e]
    rcases List.mem_cons.1 hj with rfl|hj
    ·rw[←hl];exact mq _ _ _
    ·have:=ih.2 j hj;simp only[List.append_assoc,List.cons_append,List.nil_append] at this⊢;exact this
def eH {α:Type} (L:List α) (at_:Nat) (M:List α):Prop:=∃post,L.drop at_=M++post
theorem eH.head {α:Type} {L M:List α} {a:α} {at_:Nat} (h:eH L at_ (a::M)):L[at_]?=some a:=by
 obtain⟨post,h⟩:=h;have:=congrArg (·[0]?) h
 simpa using this
theorem eH.tail {α:Type} {L M:List α} {a:α} {at_:Nat} (h:eH L at_ (a::M)):eH L (at_+1) M:=by
 obtain⟨post,h⟩:=h;refine⟨post,?_⟩;rw[←List.drop_drop,h];rfl
theorem eH.left {α:Type} {L M M':List α} {at_:Nat} (h:eH L at_ (M++M')):eH L at_ M:=by
 obtain⟨post,h⟩:=h;exact⟨M'++post,by rw[h,List.append_assoc]⟩
theorem eH.right {α:Type} {L M M':List α} {at_:Nat} (h:eH L at_ (M++M')):eH L (at_+M.length) M':=by
 obtain⟨post,h⟩:=h;refine⟨post,?_⟩;rw[←List.drop_drop,h,List.append_assoc,List.drop_left]
theorem eH.le {α:Type} {L M:List α} {at_:Nat} (h:eH L at_ M) (hM:M≠[]):at_+M.length≤L.length:=by
 obtain⟨post,h⟩:=h;have:=congrArg List.length h;simp only[List.length_drop,List.length_append] at this
 have:0<M.length:=by cases M with|nil=>exact absurd rfl hM|cons _ _=>simp
 omega
theorem eH.all {α:Type} (L:List α):eH L 0 L:=⟨[],by simp⟩
mutual
def Tr.zs:Tr→List Int
 | .mk n ks=>((min (bz n ks.sz ks.len) 401:Nat):Int)::ks.zs
def bF.zs:bF→List Int
 | .nil=>[]
 | .cons t ts=>t.zs++ts.zs
end
mutual
def Tr.es:Tr→Nat→List Int
 | .mk n ks,at_=>((at_+1+ks.flat.length:Nat):Int)::ks.es (at_+1)
def bF.es:bF→Nat→List Int
 | .nil,_=>[]
 | .cons t ts,at_=>t.es at_++ts.es (at_+t.flat.length)
end
mutual
theorem Tr.gm:∀t:Tr,t.zs.length=t.flat.length
 | .mk n ks=>by simp[Tr.zs,Tr.flat,bF.gm ks]
theorem bF.gm:∀ts:bF,ts.zs.length=ts.flat.length
 | .nil=>rfl
 | .cons t ts=>by simp[bF.zs,bF.flat,Tr.gm t,bF.gm ts]
end
mutual
theorem Tr.gx:∀(t:Tr) (a:Nat),(t.es a).length=t.flat.length
 | .mk n ks,a=>by simp[Tr.es,Tr.flat,bF.gx ks]
theorem bF.gx:∀(ts:bF) (a:Nat),(ts.es a).length=ts.flat.length
 | .nil,_=>rfl
 | .cons t ts,a=>by simp[bF.es,bF.flat,Tr.gx t,bF.gx ts]
end
theorem Tr.gO (t:Tr):0<t.flat.length:=by cases t;simp[Tr.flat]
theorem bF.lb:∀ts:bF,ts.len≤ts.flat.length
 | .nil=>Nat.le_refl _
 | .cons t ts=>by
  have h1:=bF.lb ts;have h2:=t.gO;simp only[bF.len,bF.flat,List.length_append];omega
end Go.Proofs.Ytbdnabmmlbiomaa
namespace Go.V
variable{N:Nat} {S st:St} {H:List bT}
theorem cg.at_ {α β:Type} {R:α→β→Prop}:∀{l:List α} {m:List β} {i:Nat} {b:β},cg R l m→m[i]?=some b→∃a,l[i]?=some a∧R a b
 |_,_,_,_,.nil,h=>by simp at h
 |_,_,0,_,.cons a t,h=>by simp only[List.getElem?_cons_zero,Option.some.injEq] at h;subst h;exact⟨_,rfl,a⟩
 |_,_,i+1,_,.cons a t,h=>by simp only[List.getElem?_cons_succ] at h⊢;exact t.at_ h
theorem cg.set {α β:Type} {R:α→β→Prop} {a:α} {b:β} (r:R a b):∀{l:List α} {m:List β} (i:Nat),cg R l m→cg R (l.set i a) (m.set i b)
 |_,_,_,.nil=>.nil
 |_,_,0,.cons _ t=>.cons r t
 |_,_,i+1,.cons h t=>.cons h (t.set r i)
theorem cg.setMany {R:D→D→Prop}:∀{xs ys:List D} {c d:List D} (o:Nat),cg R xs ys→cg R c d→cg R (setMany c o xs) (setMany d o ys)
 |_,_,_,_,_,.nil,h=>h
 |_,_,_,_,o,.cons r t,h=>by simp only[Go.V.setMany];exact t.setMany (o+1) (h.set r o)
theorem cg.same {R:D→D→Prop}:∀{l:List D},(∀d∈l,R d d)→cg R l l
 |[],_=>.nil
 |d::l,h=>.cons (h d (List.mem_cons_self ..)) (cg.same fun x hx=>h x (List.mem_cons_of_mem _ hx))
theorem Has.Kr {j:Nat} {x:D} {s:Nat} {ks:Nat→Prop} {vs:List (List D)} (hH:Has N S st H) (hj:H[j]?=some (.deep ks x s vs)):∃es,Rows st s x es∧es.length=vs.length:=by
 obtain⟨⟨es,h1,h2⟩,_⟩:=(hH.ok j _ hj).1;exact⟨es,h1.rows,h2.len⟩
theorem Has.NZ {j k az off len s:Nat} {ks:Nat→Prop} {vs:List (List D)} {i o:Nat} {v cs:List D} (h:Has N S st H) (hj:H[j]?=some (.deep ks (.win k az off len s) s vs)) (hi:vs[i]?=some v) (hl:o+cs.length≤s) (hp:∀d∈cs,bY d=true) (hw:S.flr≤N∨refs cs=0):
  ∃ah,st.wr k az (off+i*s+o) cs=some ah∧Has N S ah (H.set j (.deep ks (.win k az off len s) s (vs.set i (setMany v o cs)))):=by
 obtain⟨⟨es,jV,vw⟩,he3⟩:=(h.ok j _ hj).1;have hK:=(h.ok j _ hj).2;obtain⟨e,RL,aM⟩:=vw.at_ hi
 have MV:Has N S st [.aN (.win k az off len s) s es]:=by
  refine⟨h.ex,h.hN,h.eS,fun i e hi=>?_,fun i i' a b hii ha hb k sv gU=>?_⟩
  ·cases i with
   |zero=>simp only[List.getElem?_cons_zero,Option.some.injEq] at hi;subst hi;exact⟨jV,fun k hk=>hK k (.inl hk)⟩
   |succ i=>simp at hi
  ·cases i with
   |zero=>cases i' with
    |zero=>exact hii rfl
    |succ i'=>simp at hb
   |succ i=>simp at ha
 obtain⟨ah,q1,q2⟩:=MV.uW (j:=0) aB RL hl hw;refine⟨ah,q1,?_⟩;have hown:=q2.own (j:=0) aB
 have MM:(∀n,n≠k→ah.bs[n]?=st.bs[n]?)∧st.bs.length=ah.bs.length∧ah.flr=st.flr∧ah.ro=st.ro:=by
  unfold St.wr at q1
  split at q1
  ·split at q1
   ·cases q1;exact⟨fun n hn=>by simp only;rw[List.getElem?_set_ne (fun e=>hn e.symm)],by simp,rfl,rfl⟩
   ·cases q1
  ·cases q1
 obtain⟨c1,c2,c3,c4⟩:=MM;have hkk:=hK k (.inl (by simp only[D.ref]));have hne:∀n,ks n→n≠k:=fun n hn e=>he3 k (by simp only[D.ref]) (e▸hn);have sm:∀n,ks n→ah.bs[n]?=st.bs[n]?:=fun n hn=>c1 n (hne n hn);refine h.xr hj (fun n hn hnot=>c1 n fun e=>hnot (.inl (by simp only[D.ref];omega))) (Nat.le_of_eq c2) c3 c4 ⟨⟨_,hown,?_⟩,he3⟩ (fun n hn=>.inl hn) fun n hn=>?_
 ·refine cg.set ?_ i (vw.mono fun a b=>cg.mono fun c d=>dX.move sm);exact(cg.same fun d hd=>.plain d (hp d hd)).setMany o (aM.mono fun c d=>dX.move sm)
 ·rw[←c2];exact(hK n hn).2
variable{P:Pv} {ops:Array Oper} {rest:List Oper} {fr aF:Fr} {Q:Fr→St→Prop} {ty:TypeId} {pp:String} {a:Array Edge} {g:Option (Nat×Bool)} {dst:Nat}
theorem ab.wS {t e:TypeId} {xo:Operand} {x:D} {s j:Nat} {ks:Nat→Prop} {vs:List (List D)} (hH:Has N S st H) (hg:aA ops fr ⟨some dst,.call ⟨.builtin .len,#[xo],#[t]⟩,ty,pp,a,g⟩=some true) (hx:fr.ev xo=x) (hj:H[j]?=some (.deep ks x s vs)) (ht:P.ch t=some (.slice e)) (hp:fr.put dst (.int .i64 (vs.length:Nat))=aF)
  (h:ab P ops rest aF st Q):ab P ops (⟨some dst,.call ⟨.builtin .len,#[xo],#[t]⟩,ty,pp,a,g⟩::rest) fr st Q:=by
 obtain⟨es,h1,h2⟩:=hH.Kr hj;exact ab.Ja hg hx h1 ht (by rw[h2];exact hp) h
theorem ab.y8 {t e:TypeId} {xo io:Operand} {x:D} {s i j:Nat} {kk:IntKind} {ks:Nat→Prop} {vs:List (List D)} {aF:D→Fr} (hH:Has N S st H) (hg:aA ops fr ⟨some dst,.indexAddr t xo io,ty,pp,a,g⟩=some true) (hx:fr.ev xo=x) (hi:fr.ev io=.int kk (i:Nat)) (hj:H[j]?=some (.deep ks x s vs)) (ht:P.ch t=some (.slice e)) (hs:bM P e=some s) (hr:i<vs.length) (hp:∀p,fr.put dst p=aF p)
  (h:∀p,l_ x s i 0 p→ab P ops rest (aF p) st Q):ab P ops (⟨some dst,.indexAddr t xo io,ty,pp,a,g⟩::rest) fr st Q:=by
 obtain⟨⟨es,jV,vw⟩,he3⟩:=(hH.ok j _ hj).1;have hlen:=vw.len
 cases jV with
 |nul=>simp at hlen;omega
 |win k az off es c hm hl hc he=>
  refine ab.go hg rfl (d:=.ptr k az (off+i*s)) (st1:=st) ?_ (hp _) (h _ ⟨k,az,off,_,rfl,rfl⟩);simp only[c_,hx,hi,bB,ht,hs,Option.bind_some,St.mem_of hm,Option.isSome_some];rw[if_pos ⟨trivial,by omega,by omega,trivial⟩];rfl
theorem ab.nD {t:TypeId} {ao vo:Operand} {x y v:D} {s i o j:Nat} {ks:Nat→Prop} {vs:List (List D)} {r cs:List D} (hH:Has N S st H) (hg:aA ops fr ⟨none,.store t ao vo,ty,pp,a,g⟩=some true) (ha:fr.ev ao=y) (hv:fr.ev vo=v) (hR:l_ x s i o y) (ij:v.cells?=some cs) (hs:bM P t=some cs.length) (hj:H[j]?=some (.deep ks x s vs)) (hr:vs[i]?=some r) (hl:o+cs.length≤s) (hq:∀d∈cs,bY d=true) (hw:S.flr≤N∨refs cs=0)
  (h:∀ah,Has N S ah (H.set j (.deep ks x s (vs.set i (setMany r o cs))))→ab P ops rest fr ah Q):ab P ops (⟨none,.store t ao vo,ty,pp,a,g⟩::rest) fr st Q:=by
 obtain⟨k,az,off,len,rfl,rfl⟩:=hR;obtain⟨ah,h1,h2⟩:=hH.NZ hj hr hl hq hw;refine ab.N hg rfl (d:=.tup []) (st1:=ah) ?_ (h _ h2);simp only[c_,ha,hv,iB,ij,hs,if_pos trivial,h1];rfl
theorem ag.H5 {dy:Dy} {i:Nat} {l:List Oper} {d n loc tmp st} {Q:Out→Fr→St→Prop} (ws:List Nat) (F:(Nat→D)→Prop)
  (h1:ab P l.toArray l ⟨n,loc,[]⟩ st fun aF ah=>∃f tmp,aF=⟨n,aJ loc ws f,tmp⟩∧ah=st∧F f) (h2:∀f tmp,F f→Q .next ⟨n,aJ loc ws f,tmp⟩ st) (h0:fQ i dy=[]:=by rfl):ag P dy (.region i l.toArray d) ⟨n,loc,tmp⟩ st Q:=by
 refine ag.eF ?_ h0;unfold ab at h1⊢;obtain⟨aF,ah,h3,f,DN,rfl,rfl,h4⟩:=h1;exact⟨_,_,h3,h2 _ _ h4⟩
theorem iQ {n:Nat} {L loc:List D} {o_:List (Nat×D)} {ws:List Nat} {F:(Nat→D)→Prop} {st:St} (h:L=aJ loc ws (fun k=>nth .bp L k)) (h2:F (fun k=>nth .bp L k)):∃(f:Nat→D) (tmp:List (Nat×D)),(⟨n,L,o_⟩:Fr)=⟨n,aJ loc ws f,tmp⟩∧st=st∧F f:=⟨_,o_,by rw[←h],rfl,h2⟩
theorem ab.Jj {t1 t2:TypeId} {xo yo:Operand} {x y z:Int} (hg:aA ops fr ⟨some dst,.call ⟨.builtin .min,#[xo,yo],#[t1,t2]⟩,ty,pp,a,g⟩=some true) (hx:fr.ev xo=.int .i64 x) (hy:fr.ev yo=.int .i64 y) (hz:min x y=z) (hp:fr.put dst (.int .i64 z)=aF) (h:ab P ops rest aF st Q):ab P ops (⟨some dst,.call ⟨.builtin .min,#[xo,yo],#[t1,t2]⟩,ty,pp,a,g⟩::rest) fr st Q:=
 ab.G6 (t1:=t1) (t2:=t2) hg hx hy (by rw[hz];exact hp) h
theorem Has.r_ {N:Nat} {S s0 S2 st2:St} {H:List bT} {x:D} {s:Nat} {es NW:List (List D)} (h:Has N S s0 (.aN x s es::H)) (hS:S2.bs=s0.bs) (h2:Has N S2 st2 (.aN x s NW::H)):Has N S ⟨st2.bs.take s0.bs.length,s0.flr,s0.ro⟩ (.aN x s NW::H):=by
 refine h.pO hS h2 fun i e hi=>?_
 cases i with
 |zero=>simp only[List.getElem?_cons_zero,Option.some.injEq] at hi;subst hi;exact⟨_,rfl,fun k hk=>hk⟩
 |succ i=>exact⟨e,hi,fun k hk=>hk⟩
theorem Has.sa {N:Nat} {S s0 S2 st2:St} {H:List bT} {k:Nat} {b b':f_} {ks:Nat→Prop} {x:D} {s:Nat} {vs IH:List (List D)} (h:Has N S s0 (.box k b::.deep ks x s vs::H)) (hS:S2.bs=s0.bs) (h2:Has N S2 st2 (.box k b'::.deep ks x s IH::H)):Has N S ⟨st2.bs.take s0.bs.length,s0.flr,s0.ro⟩ (.box k b'::.deep ks x s IH::H):=by
 refine h.pO hS h2 fun i e hi=>?_
 match i with
 |0=>simp only[List.getElem?_cons_zero,Option.some.injEq] at hi;subst hi;exact⟨_,rfl,fun k hk=>hk⟩
 |1=>simp only[List.getElem?_cons_succ,List.getElem?_cons_zero,Option.some.injEq] at hi;subst hi;exact⟨_,rfl,fun k hk=>hk⟩
 |i+2=>exact⟨e,hi,fun k hk=>hk⟩
theorem Has.Cn {N:Nat} {S st:St} {H:List bT} {a b c d e:bT} (h:Has N S st (a::b::c::d::e::H)):Has N S st (b::c::d::e::a::H):=by
 refine h.sub (fun i=>if i=4 then 0 else if i<4 then i+1 else i) (fun i j hij=>?_) (fun i x hi=>?_)
 ·(try simp only at hij)
  split at hij<;>split at hij<;>(try split at hij)<;>(try split at hij)<;>omega
 ·match i,hi with
  |0,hi=>exact hi
  |1,hi=>exact hi
  |2,hi=>exact hi
  |3,hi=>exact hi
  |4,hi=>exact hi
  |i+5,hi=>
   have h1:¬(i+5=4):=by omega
   have h2:¬(i+5<4):=by omega
   simp only[if_neg h1,if_neg h2];exact hi
theorem Has.jf {fr:Fr} {a k az off j u u2:Nat} {t:TypeId} {ar:Bool} {c:List D} {d e e2:D} (hH:Has N S st H) (ha:fr.get a=.ptr k az off) (hj:H[j]?=some (.box k (.mem az ar c))) (hd:cS P t (c.drop off)=some d) (he:fr.get u=e) (vw:fr.get u2=e2):iE P fr st [.cell a t,.tmp u,.tmp u2]=some [d,e,e2]:=by
 simp only[iE,fe,ha,St.mem_of (hH.at hj),Option.bind_some,hd,Option.map_some,he,vw]
theorem ag.mT {dy:Dy} {c1 c2:Code} {fr:Fr} {st:St} {Q:Out→Fr→St→Prop} (M:Fr→St→Prop) (h1:ag P dy c1 fr st (bZ P dy c2 (zu M Q))) (h2:∀aF ah,M aF ah→Q .next aF ah):ag P dy c1 fr st (bZ P dy c2 Q):=
 h1.mono fun o aF ah h=>by
  cases o with
  |next=>exact ag.merge M h h2
  |exit i=>exact h
  |ret=>exact h
end Go.V
namespace Go.Proofs.Ytbdnabmmlbiomaa
open Go.V Go
def tR (fr:Go.V.Fr) (k:Nat):Go.V.D:=Go.V.nth .bp fr.loc k
theorem wP {st:St} {L n:Nat} {kn:Bool} {k az off len s:Nat}:bt st L kn n (.win k az off len s)=bt st L false n (.win k az off len s):=by
 cases n<;>rfl
theorem wN (l:List Rg):(l.map ax).map (·.map l5)=l.map ax:=by
 rw[List.map_map];rfl
theorem ti (l:List Rg):∀e∈l.map ax,∀d∈e,lF d=true:=by
 intro e he d hd;obtain⟨x,_,rfl⟩:=List.mem_map.1 he;simp only[ax,List.mem_cons,List.not_mem_nil,or_false] at hd
 rcases hd with rfl|rfl<;>rfl
theorem lQ {N L j:Nat} {S st:St} {H:List bT} {x:D} {l:List Rg} (hH:Has N S st H) (hj:H[j]?=some (.aN x 2 (l.map ax))) (hx:∀k,x.ref=k+1→L≤k) {n:Nat} (hn:3≤n):bt st L false n x=some (bq l):=by
 rw[hH.vD hj hx (ti l) hn,wN,fO]
def Kv (gs:List (Nat×Nat)) (s s':dQ) (d1:D) (b:Bool):Prop:=
 zt gs s s' d1 b∨(s'=s∧d1=.nul∧b=false)
theorem u7 {N k:Nat} {S s0:St} {H:List bT} {gs:List (Nat×Nat)} {bk:D} {ba:List Int} {s:dQ} (cI:i_ gs ba) (he:s.e=0) (hi:s.i<gs.length) (hH:Has N S s0 (.box k (.mem 0 false (aQ gs bk s))::.aN bk 1 (ba.map av)::H)):
  ∃d ah,Ev pv 110 [.ptr k 0 0] s0 d ah∧∃(d1:D) (b:Bool) (s':dQ),d=.tup [d1,.bool b]∧Kv gs s s' d1 b∧Has N S ah (.box k (.mem 0 false (aQ gs bk s'))::.aN bk 1 (ba.map av)::H):=by
 have ni:=cI.gl;have gT:=cI.pl;refine Ev.lX rfl Kp rfl rfl rfl ?_;dsimp only[u3,u4,List.length,Nat.reduceSub,Nat.reduceAdd,w1,w2];have cv:=hH;have hH:=hH.cw;have b4:(aq .rw s0).bs=s0.bs:=rfl;generalize aq .rw s0=S2 at*;have yI:Arg N S2 2 (bX gs) (gs.map aY):=Arg.pure (fun st=>cC st gs)
 obtain⟨g,hg⟩:∃g,gs[s.i]?=some g:=⟨gs[s.i]'hi,List.getElem?_eq_getElem _⟩
 have gM:(gs.map aY)[s.i]?=some (aY g):=by rw[List.getElem?_map,hg];rfl
 refine qq<|qj fun K hK=>qm ?_;refine qm ?_;refine qe hK<|qq<|qq<|qj fun K hK=>qm ?_;refine qm ?_;refine qg ?_;refine qp (o:=2) ?_;refine ql hH aB ?_;obtain⟨_,st,aM,rfl,hH⟩:=uC (s:=s) s.i hi hH;refine qv aM ?_;refine qe hK ?_;refine qc (fun hb=>?_) (fun hb=>?_)<;>try simp only[cs] at hb
 ·refine qq<|qj fun K hK=>qm ?_;refine qm ?_;refine qg ?_;refine qp (o:=2) ?_;refine ql hH aB ?_;obtain⟨_,st,aM,rfl,hH⟩:=cD (s:=s) s.i 4 (by omega) hH;refine qv aM ?_;refine qe hK<|qq<|qj fun K hK=>qm ?_;refine qm ?_;refine qe hK ?_;obtain⟨h1,h2,h3,h4⟩:=cL (ba:=ba) (s:=s) (i:=s.i) (e:=4) he (by decide);refine ag.ret ⟨rx,_,_,_,rfl,ak (rfl),?_⟩;exact⟨_,_,_,rfl,.inl ⟨h3,h4,by rw[h2];exact Nat.le_refl _,by rw[h2];omega,.inl rfl,.inl h1⟩,cv.ay b4 hH⟩
 ·refine ag.skip<|qq<|qj fun K hK=>qm ?_;refine qg ?_;refine qp (o:=0) ?_;refine ql hH aB ?_;refine qm ?_;refine qg ?_;refine qp (o:=2) ?_;refine ql hH aB ?_;refine qr fun Lb Hl=>?_;refine qf (fo:=0) fun S6 QV=>?_;refine qR ?_;refine qm ?_;refine qe hK<|qq<|qj fun K hK=>qm ?_;refine qe hK<|ag.block<|qq<|qj fun K hK=>qg ?_;refine qm ?_;refine qe hK ?_;refine ag.cond (by rfl) (fun q1=>?_) (fun q1=>?_)<;>try simp only[beq_iff_eq,beq_eq_false_iff_ne,ne_eq] at q1
  ·refine qq<|qj fun K hK=>qm ?_;obtain⟨_,st,aM,d1,b,s',rfl,hP,hH⟩:=uU (s:=s) cI he hi hH;refine qv aM ?_;refine qg ?_;refine qg ?_;refine qm ?_;refine qm ?_;refine qe hK ?_
   rcases hP.2.2.2.2.1 with rfl|⟨a,rfl,_⟩
   ·refine ag.ret ⟨rx,_,_,_,rfl,ak (rfl),?_⟩;exact⟨_,_,_,rfl,.inl hP,cv.ay b4 hH⟩
   ·refine ag.ret ⟨rx,_,_,_,rfl,ak (rfl),?_⟩;exact⟨_,_,_,rfl,.inl hP,cv.ay b4 hH⟩
  ·refine qq<|qq<|qj fun K hK=>qg ?_;refine qm ?_;refine qe hK ?_
   by_cases Ik:((g.1:Nat):Int)=91
   ·refine qD rfl (by simp[Ik]) ?_;refine ag.skip<|qD rfl (by simp[Ik]) ?_;refine qq<|qj fun K hK=>qm ?_;refine qm ?_;refine qe hK<|ag.ret ⟨rx,_,_,_,rfl,ak (rfl),?_⟩;exact⟨_,_,_,rfl,.inr ⟨rfl,rfl,rfl⟩,cv.ay b4 hH⟩
   refine qE rfl (by simp[Ik]) ?_;refine qq<|qj fun K hK=>qg ?_;refine qm ?_;refine qe hK ?_
   by_cases K':((g.1:Nat):Int)=93
   ·refine qD rfl (by simp[K']) ?_;refine ag.skip<|qD rfl (by simp[K']) ?_;refine qq<|qj fun K hK=>qm ?_;refine qm ?_;refine qe hK<|ag.ret ⟨rx,_,_,_,rfl,ak (rfl),?_⟩;exact⟨_,_,_,rfl,.inr ⟨rfl,rfl,rfl⟩,cv.ay b4 hH⟩
   refine qE rfl (by simp[K']) ?_;refine qj fun K hK=>qg ?_;refine qm ?_;refine qe hK ?_
   by_cases Ot:((g.1:Nat):Int)=45
   ·refine qD rfl (by simp[Ot]) ?_;refine qq<|qj fun K hK=>qm ?_;refine qm ?_;refine qe hK<|ag.ret ⟨rx,_,_,_,rfl,ak (rfl),?_⟩;exact⟨_,_,_,rfl,.inr ⟨rfl,rfl,rfl⟩,cv.ay b4 hH⟩
   refine qE rfl (by simp[Ot]) ?_;refine qq<|qj fun K hK=>qm ?_;refine qg ?_;refine qp (o:=2) ?_;refine ql hH aB ?_;refine qA ?_;refine qg ?_;refine qp (o:=2) ?_;refine qT hH aB fun st hH=>?_;dsimp only[u2,u1,u3,u4,setMany,u5,u6,D.cells,Nat.reduceAdd,aQ,aY,av,ax] at hH;refine qe hK<|qq<|qj fun K hK=>qm ?_;refine qm ?_;refine ab.fP (qs:=[(0,_),(1,_)]) rfl rfl rfl rfl ⟨rfl,(ev rfl),(by rfl),rfl,(ev rfl),(by rfl),trivial⟩ (by intro q hq;simp only[List.mem_cons,List.not_mem_nil,or_false] at hq;rcases hq with rfl|rfl<;>exact⟨rfl,by exact Nat.le_of_ble_eq_true rfl⟩) (by show List.foldl _ [_,_] _=_;dsimp only[List.foldl_cons,List.foldl_nil,u2,u1]<;>rfl) (ae rfl _) ?_;refine qh (s:=2) (vs:=[_]) hH fun k39 st Rp hH=>?_;refine qm ?_;refine qm ?_;refine qe hK ?_;have hH:Has N S2 st (.aN (.win k39 0 0 1 2) 2 (([((g.1:Nat),(g.1:Nat))]:List Rg).map ax)::.box k (.mem 0 false (aQ gs bk {s with i:=s.i+1}))::.aN bk 1 (ba.map av)::H):=hH;have hfz:=lQ hH aB (L:=s0.bs.length) (n:=15) (fun k hk=>by simp only[D.ref] at hk;rw[←b4];omega) (by decide)
   have MA:bt st s0.bs.length true 16 (n4 [.win k39 0 0 1 2,.bool true])=some (.tup [bq [(((g.1:Nat):Int),((g.1:Nat):Int))],.bool true]):=by
    show(gJ (bt st s0.bs.length true 15) [.win k39 0 0 1 2,.bool true]).map D.tup=_;simp only[gJ,wP,hfz];rfl
   refine ag.ret ⟨rx,_,_,_,rfl,ak MA,⟨_,_,{s with i:=s.i+1},rfl,.inl ⟨rfl,rfl,?_,?_,.inr ⟨_,rfl,by simp⟩,.inr ⟨he,?_,_,rfl,?_,?_⟩⟩,cv.ay b4 (hH.drop 1)⟩⟩
   ·show s.i≤s.i+1;omega
   ·show s.i+1≤_;omega
   ·show s.i<s.i+1;omega
   ·simp
   ·simp
def Ky (gs:List (Nat×Nat)) (s s':dQ) (d:D):Prop:=
 s'.o=s.o∧s'.g=s.g∧s.i≤s'.i∧s'.i≤gs.length∧∃a:List Rg,d=bq a∧a.length≤8∧(s'.e≠0∨s'.e=0∧s.i<s'.i)
theorem fq {gs:List (Nat×Nat)} {s:dQ} {r:Int}:(cB gs s r).o=s.o∧(cB gs s r).g=s.g∧(cB gs s r).e=s.e∧s.i≤(cB gs s r).i∧(s.i≤gs.length→(cB gs s r).i≤gs.length):=by
 unfold cB
 split
 ·rename_i h;have:=na h;exact⟨rfl,rfl,rfl,by show s.i≤s.i+1;omega,fun _=>by show s.i+1≤_;omega⟩
 ·exact⟨rfl,rfl,rfl,Nat.le_refl _,fun h=>h⟩
theorem CF {N k:Nat} {S s0:St} {H:List bT} {gs:List (Nat×Nat)} {bk:D} {ba:List Int} {s:dQ} (cI:i_ gs ba) (he:s.e=0) (hi:s.i<gs.length) (hH:Has N S s0 (.box k (.mem 0 false (aQ gs bk s))::.aN bk 1 (ba.map av)::H)):
  ∃d ah,Ev pv 94 [.ptr k 0 0] s0 d ah∧∃(s':dQ),Ky gs s s' d∧Has N S ah (.box k (.mem 0 false (aQ gs bk s'))::.aN bk 1 (ba.map av)::H):=by
 have ni:=cI.gl;have gT:=cI.pl;refine Ev.lX rfl M6 rfl rfl rfl ?_;dsimp only[u3,u4,List.length,Nat.reduceSub,Nat.reduceAdd,w1,w2];have cv:=hH;have hH:=hH.cw;have b4:(aq .rw s0).bs=s0.bs:=rfl;generalize aq .rw s0=S2 at*;have yI:Arg N S2 2 (bX gs) (gs.map aY):=Arg.pure (fun st=>cC st gs);refine qq<|qj fun K hK=>qm ?_;refine qe hK<|qq<|qj fun K hK=>qm ?_;refine qg ?_;refine qp (o:=2) ?_;refine ql hH aB ?_;refine qm ?_;refine qe hK<|qq<|qj fun K hK=>qm ?_;obtain⟨_,st,aM,d1,b,s1,rfl,hP,hH⟩:=u7 (s:=s) cI he hi hH;refine qv aM ?_;refine qm ?_;refine qg ?_;refine qg ?_;refine qm ?_;refine qm ?_;refine qe hK<|qq<|qq<|qj fun K hK=>qm ?_;refine qg ?_;refine qp (o:=5) ?_;refine ql hH aB ?_;refine qg ?_;refine qe hK ?_
 rcases hP with hP|⟨e1,rfl,rfl⟩
 ·obtain⟨p1,p2,p3,p4,p5,p6⟩:=hP
  rcases p6 with p6|⟨p6,p7,a,rfl,p8,p9⟩
  ·refine qD rfl (by simp[p6]) ?_;refine qq<|qj fun K hK=>qm ?_;refine qe hK<|ag.ret ⟨rx,_,_,_,rfl,ak (rfl),?_⟩;exact⟨s1,⟨p1,p2,p3,p4,[],rfl,by simp,.inl p6⟩,cv.ay b4 hH⟩
  ·obtain⟨q,a',rfl⟩:∃q a',a=q::a':=List.exists_cons_of_ne_nil p9;refine qE rfl (by simp[p6]) ?_;refine ag.skip<|qq<|qq<|qj fun K hK=>qm ?_;refine ab.go (d:=.bool false) (st1:=_) rfl rfl rfl (ae rfl _) ?_;refine qe hK<|qC ?_;refine ag.skip ?_;obtain⟨k1,k2,k3,k4,k5⟩:=fq (gs:=gs) (s:=s1) (r:=45);have k5:=k5 p4;refine qq<|qq<|qj fun K hK=>qm ?_;obtain⟨_,st,aM,rfl,hH⟩:=df (s:=s1) (by omega) 45 hH;refine qv aM ?_;refine qg ?_;refine qe hK ?_;generalize cB gs s1 45=s2 at*
   cases hb:iR gs s1.i 45 with
   |false=>
    refine qB ?_;refine qq<|qj fun K hK=>qm ?_;refine qm ?_;refine qe hK<|ag.ret ⟨rx,_,_,_,rfl,ak (rfl),?_⟩;exact⟨s2,⟨k1.trans p1,k2.trans p2,by omega,k5,q::a',rfl,p8,.inr ⟨k3.trans p6,by omega⟩⟩,cv.ay b4 hH⟩
   |true=>
    refine qC ?_;refine ag.skip<|qq<|qj fun K hK=>qm ?_;refine qe hK<|qq<|qj fun K hK=>qm ?_;refine qe hK<|qq<|qq<|qj fun K hK=>qm ?_;refine qg ?_;refine qp (o:=2) ?_;refine ql hH aB ?_;refine qm ?_;refine qg ?_;refine qp (o:=0) ?_;refine ql hH aB ?_;refine qn ?_;simp only[List.length_map];refine qg ?_;refine qe hK<|ag.merge (fun fr st=>∃(d2:D) (two:Bool) (s3:dQ) (tmp:List (Nat×D)),fr=⟨8,[.ptr k 0 0,tR fr 1,tR fr 2,.int .i64 (s.i:Nat),bq (q::a'),.bool b,d2,.bool two],tmp⟩∧Has N S2 st (.box k (.mem 0 false (aQ gs bk s3))::.aN bk 1 (ba.map av)::H)∧(s3.o=s.o)∧(s3.g=s.g)∧(s2.i≤s3.i)∧(s3.i≤gs.length)∧(s3.e≠0∨s3.e=0∧(two=false∨∃a2:List Rg,d2=bq a2∧a2≠[]))) ?_ ?_
    ·refine ag.cond (by rfl) (fun hlt=>?_) (fun hlt=>?_)<;>try simp only[decide_eq_true_eq,decide_eq_false_iff_not] at hlt
     ·refine qj fun K hK=>qm ?_;obtain⟨_,st,aM,d2,two,s3,rfl,R2,hH⟩:=u7 (s:=s2) cI (k3.trans p6) (by omega) hH;refine qv aM ?_;refine qm ?_;refine qg ?_;refine qg ?_;refine qm ?_;refine qm ?_;refine qe hK ?_
      rcases R2 with⟨r1,r2,r3,r4,r5,r6⟩|⟨e1,rfl,rfl⟩
      ·refine⟨d2,two,s3,_,rfl,hH,r1.trans (k1.trans p1),r2.trans (k2.trans p2),r3,r4,?_⟩
       rcases r6 with r6|⟨r6,r7,a2,rfl,r8,r9⟩
       ·exact .inl r6
       ·refine .inr ⟨r6,?_⟩
        cases two with
        |false=>exact .inl rfl
        |true=>exact .inr ⟨a2,rfl,r9⟩
      ·exact⟨.nul,false,s3,_,rfl,hH,by rw[e1];exact k1.trans p1,by rw[e1];exact k2.trans p2,by rw[e1];exact Nat.le_refl _,by rw[e1];exact k5,.inr ⟨by rw[e1];exact k3.trans p6,.inl rfl⟩⟩
     ·refine ag.skip ?_;exact⟨.nul,false,s2,_,rfl,hH,k1.trans p1,k2.trans p2,Nat.le_refl _,k5,.inr ⟨k3.trans p6,.inl rfl⟩⟩
    ·rintro fr st ⟨d2,two,s3,tmp,hfr,hH,h1,h2,h3,h4,h5⟩;rw[hfr];clear hfr;generalize tR fr=ee;clear fr
     rcases h5 with h5|⟨h5,h6⟩
     ·have bn:(s3.e==0)=false:=by simpa using h5
      refine qq<|qq<|qj fun K hK=>qm ?_;refine qg ?_;refine qp (o:=5) ?_;refine ql hH aB ?_;refine qg ?_;refine qm ?_;refine qs ?_ (hg:=wn bn);refine qs ?_ (hg:=wn bn);refine qs ?_ (hg:=wn bn);refine qs ?_;refine qs ?_;refine qs ?_ (hg:=wn bn);refine qs ?_ (hg:=wn bn);refine qs ?_;refine qs ?_;refine qs ?_;refine qs ?_;refine qs ?_;refine qs ?_;refine qs ?_;refine qs ?_;refine qs ?_;refine qs ?_ (hg:=wn bn);refine qu bn ?_;refine qe hK<|qC ?_;refine ag.skip<|qq<|qq<|qj fun K hK=>qm ?_;refine qg ?_;refine qp (o:=5) ?_;refine ql hH aB ?_;refine qg ?_;refine qe hK<|qD rfl (by simp[h5]) ?_;refine qq<|qj fun K hK=>qm ?_;refine qe hK<|ag.ret ⟨rx,_,_,_,rfl,ak (rfl),?_⟩;exact⟨s3,⟨h1,h2,by omega,h4,[],rfl,by simp,.inl h5⟩,cv.ay b4 hH⟩
     ·have bn:(s3.e==0)=true:=by simpa using h5
      cases b with
      |false=>
       have dP:(!false)=true:=rfl;refine qq<|qq<|qj fun K hK=>qm ?_;refine qg ?_;refine qp (o:=5) ?_;refine ql hH aB ?_;refine qg ?_;refine qm ?_;refine qm ?_ (hg:=wi bn);refine qg ?_ (hg:=wi bn);refine qm ?_ (hg:=wi bn);refine qs ?_ (hg:=wn dP);refine qs ?_ (hg:=wn dP);refine ab.dh (aj rfl rfl rfl bn) rfl dP (ae rfl _) ?_;refine qm ?_ (hg:=wi bn);refine qs ?_;refine qs ?_;refine qs ?_;refine qs ?_;refine qs ?_;refine qs ?_;refine qs ?_;refine qs ?_;refine qs ?_;refine qg ?_ (hg:=wi bn);refine qt bn ?_;refine qe hK<|qB ?_;refine qj fun K hK=>qm ?_;refine qm ?_;obtain⟨_,st,aM,rfl,hH⟩:=cD (s:=s3) s.i 4 (by omega) hH;refine qv aM ?_;refine qe hK ?_;obtain⟨w1,w2,w3,w4⟩:=cL (ba:=ba) (s:=s3) (i:=s.i) (e:=4) h5 (by decide);generalize gp ba s3 s.i 4=s4 at*;refine qq<|qq<|qj fun K hK=>qm ?_;refine qg ?_;refine qp (o:=5) ?_;refine ql hH aB ?_;refine qg ?_;refine qe hK<|qD rfl (by simp[w1]) ?_;refine qq<|qj fun K hK=>qm ?_;refine qe hK<|ag.ret ⟨rx,_,_,_,rfl,ak (rfl),?_⟩;exact⟨s4,⟨w3.trans h1,w4.trans h2,by omega,by omega,[],rfl,by simp,.inl w1⟩,cv.ay b4 hH⟩
      |true=>
       have dP:(!true)=false:=rfl
       cases two with
       |false=>
        have db:(!false)=true:=rfl;refine qq<|qq<|qj fun K hK=>qm ?_;refine qg ?_;refine qp (o:=5) ?_;refine ql hH aB ?_;refine qg ?_;refine qm ?_;refine qm ?_ (hg:=wi bn);refine qg ?_ (hg:=wi bn);refine qm ?_ (hg:=wi bn);refine qm ?_ (hg:=wi dP);refine qg ?_ (hg:=wi dP);refine ab.cF (aj rfl rfl rfl bn) rfl dP (ae rfl _) ?_;refine qm ?_ (hg:=wi bn);refine qs ?_ (hg:=wn db);refine qs ?_ (hg:=wn db);refine qs ?_ (hg:=wn db);refine qs ?_ (hg:=wn db);refine qs ?_ (hg:=wn db);refine qs ?_ (hg:=wn db);refine qs ?_ (hg:=wn db);refine qs ?_ (hg:=wn db);refine qs ?_ (hg:=wn db);refine ab.dh (aj rfl rfl rfl bn) rfl db (ae rfl _) ?_;refine qt bn ?_;refine qe hK<|qB ?_;refine qj fun K hK=>qm ?_;refine qm ?_;obtain⟨_,st,aM,rfl,hH⟩:=cD (s:=s3) s.i 4 (by omega) hH;refine qv aM ?_;refine qe hK ?_;obtain⟨w1,w2,w3,w4⟩:=cL (ba:=ba) (s:=s3) (i:=s.i) (e:=4) h5 (by decide);generalize gp ba s3 s.i 4=s4 at*;refine qq<|qq<|qj fun K hK=>qm ?_;refine qg ?_;refine qp (o:=5) ?_;refine ql hH aB ?_;refine qg ?_;refine qe hK<|qD rfl (by simp[w1]) ?_;refine qq<|qj fun K hK=>qm ?_;refine qe hK<|ag.ret ⟨rx,_,_,_,rfl,ak (rfl),?_⟩;exact⟨s4,⟨w3.trans h1,w4.trans h2,by omega,by omega,[],rfl,by simp,.inl w1⟩,cv.ay b4 hH⟩
       |true=>
        have db:(!true)=false:=rfl
        obtain⟨a2,rfl,h7⟩:∃a2:List Rg,d2=bq a2∧a2≠[]:=by
         rcases h6 with h6|h6
         ·cases h6
         ·exact h6
        obtain⟨q2,Pk,rfl⟩:∃q a',a2=q::a':=List.exists_cons_of_ne_nil h7;have KH:=(gE (q::a')).arg N S2;have Qq:=(gE (q2::Pk)).arg N S2;have KI:((q::a').map ax)[0]?=some (ax q):=rfl;have gM:((q2::Pk).map ax)[0]?=some (ax q2):=rfl;refine qq<|qq<|qj fun K hK=>qm ?_;refine qg ?_;refine qp (o:=5) ?_;refine ql hH aB ?_;refine qg ?_;refine qm ?_;refine qm ?_ (hg:=wi bn);refine qg ?_ (hg:=wi bn);refine qm ?_ (hg:=wi bn);refine qm ?_ (hg:=wi dP);refine qg ?_ (hg:=wi dP);refine ab.cF (aj rfl rfl rfl bn) rfl dP (ae rfl _) ?_;refine qm ?_ (hg:=wi bn);refine qm ?_ (hg:=wi db);refine qr (fun SQ QI=>?_) (hg:=wi db);refine qf (fo:=0) (fun SP QH=>?_) (hg:=wi db);refine qR ?_ (hg:=wi db);refine qm ?_ (hg:=wi db);refine qr (fun PF LY=>?_) (hg:=wi db);refine qf (fo:=0) (fun SM QE=>?_) (hg:=wi db);refine qR ?_ (hg:=wi db);refine qg ?_ (hg:=wi db);refine ab.cF (aj rfl rfl rfl bn) rfl db (ae rfl _) ?_;refine qt bn ?_;refine qe hK ?_;refine ag.cond (by rfl) (fun hgt=>?_) (fun hgt=>?_)<;>try simp only[decide_eq_true_eq,decide_eq_false_iff_not] at hgt
        ·refine qj fun K hK=>qm ?_;refine qm ?_;obtain⟨_,st,aM,rfl,hH⟩:=cD (s:=s3) s.i 4 (by omega) hH;refine qv aM ?_;refine qe hK ?_;obtain⟨w1,w2,w3,w4⟩:=cL (ba:=ba) (s:=s3) (i:=s.i) (e:=4) h5 (by decide);generalize gp ba s3 s.i 4=s4 at*;refine qq<|qq<|qj fun K hK=>qm ?_;refine qg ?_;refine qp (o:=5) ?_;refine ql hH aB ?_;refine qg ?_;refine qe hK<|qD rfl (by simp[w1]) ?_;refine qq<|qj fun K hK=>qm ?_;refine qe hK<|ag.ret ⟨rx,_,_,_,rfl,ak (rfl),?_⟩;exact⟨s4,⟨w3.trans h1,w4.trans h2,by omega,by omega,[],rfl,by simp,.inl w1⟩,cv.ay b4 hH⟩
        ·refine ag.skip<|qq<|qq<|qj fun K hK=>qm ?_;refine qg ?_;refine qp (o:=5) ?_;refine ql hH aB ?_;refine qg ?_;refine qe hK<|qE rfl (by simp[h5]) ?_;refine ag.skip<|qq<|qj fun K hK=>qm ?_;refine qr fun PD LW=>?_;refine qf (fo:=0) fun SI QA=>?_;refine qR ?_;refine qm ?_;refine qr fun SH Qz=>?_;refine qf (fo:=0) fun SG Qy=>?_;refine qR ?_;refine ab.fP (qs:=[(0,_),(1,_)]) rfl rfl rfl rfl ⟨rfl,(ev rfl),(by rfl),rfl,(ev rfl),(by rfl),trivial⟩ (by intro q hq;simp only[List.mem_cons,List.not_mem_nil,or_false] at hq;rcases hq with rfl|rfl<;>exact⟨rfl,by exact Nat.le_of_ble_eq_true rfl⟩) (by show List.foldl _ [_,_] _=_;dsimp only[List.foldl_cons,List.foldl_nil,u2,u1]<;>rfl) (ae rfl _) ?_;refine qh (s:=2) (vs:=[_]) hH fun k87 st Ra hH=>?_;dsimp only[u2,u1,u3,u4,setMany,u5,u6,D.cells,Nat.reduceAdd,aQ,aY,av,ax] at hH;refine qm ?_;refine qe hK ?_;have hH:Has N S2 st (.aN (.win k87 0 0 1 2) 2 (([(q.1,q2.1)]:List Rg).map ax)::.box k (.mem 0 false (aQ gs bk s3))::.aN bk 1 (ba.map av)::H):=hH;have hfz:=lQ hH aB (L:=s0.bs.length) (n:=16) (fun k hk=>by simp only[D.ref] at hk;rw[←b4];omega) (by decide);refine ag.ret ⟨rx,_,_,_,rfl,ak hfz,⟨s3,⟨h1,h2,by omega,h4,[(q.1,q2.1)],rfl,by simp,.inr ⟨h5,by omega⟩⟩,cv.ay b4 (hH.drop 1)⟩⟩
 ·have e2:s1.e=0:=by rw[e1];exact he
  have e3:s1.i=s.i∧s1.o=s.o∧s1.g=s.g:=by rw[e1];exact⟨rfl,rfl,rfl⟩
  clear e1;refine qE rfl (by simp[e2]) ?_;refine ag.skip<|qq<|qq<|qj fun K hK=>qm ?_;refine ab.go (d:=.bool true) (st1:=_) rfl rfl rfl (ae rfl _) ?_;refine qe hK<|qB ?_;refine qq<|qj fun K hK=>qm ?_;refine qm ?_;obtain⟨_,st,aM,rfl,hH⟩:=cD (s:=s1) s.i 4 (by omega) hH;refine qv aM ?_;refine qe hK ?_;obtain⟨w1,w2,w3,w4⟩:=cL (ba:=ba) (s:=s1) (i:=s.i) (e:=4) e2 (by decide);refine qq<|qj fun K hK=>qm ?_;refine qe hK<|ag.ret ⟨rx,_,_,_,rfl,ak (rfl),?_⟩;exact⟨_,⟨by omega,by omega,by omega,by omega,[],rfl,by simp,.inl w1⟩,cv.ay b4 hH⟩
end Go.Proofs.Ytbdnabmmlbiomaa
namespace Go.Proofs.Ytbdnabmmlbiomaa
open Go.V Go
def tQ (fr:Go.V.Fr) (k:Nat):Go.V.D:=Go.V.nth .bp fr.loc k
def qV (n:dj):Prop:=n.rd=bq n.rs∧n.rs.length≤1048576∧n.kids≤1048576
def pH (op mn mx:Int) (lz:Bool) (cap kids:Int) (a:List Rg):dj:=⟨op,bq a,a,mn,mx,lz,cap,kids⟩
def qX (l:List dj):D:=.sl ((l.map a8).map (jD 7))
theorem Cw (l:List dj):∀e∈l.map a8,e.length=7:=by
 intro e he;obtain⟨x,_,rfl⟩:=List.mem_map.1 he;rfl
theorem kY {l:List dj} (h:∀n∈l,qV n):∀e∈l.map a8,∀d∈e,bY d=true:=by
 intro e he d hd;obtain⟨n,hn,rfl⟩:=List.mem_map.1 he;have hr:=(h n hn).1;simp only[a8,hr,List.mem_cons,List.not_mem_nil,or_false] at hd
 rcases hd with rfl|rfl|rfl|rfl|rfl|rfl|rfl<;>rfl
theorem oA {l:List dj} (h:∀n∈l,qV n):gR (qX l) 7 (l.map a8):=gR.frozen (Cw l) (kY h)
theorem Jg {l:List dj} (h:∀n∈l,qV n) (hl:l.length≤1048576):(⟨qX l,l⟩:Nl).ok:=by
 refine⟨oA h,fun n hn=>?_,hl⟩;obtain⟨h1,h2,h3⟩:=h n hn;exact⟨by rw[h1];exact gE _,h2,by omega⟩
theorem pE {l:List dj} (h:∀n∈l,qV n):(l.map a8).map (·.map l5)=l.map a8:=by
 rw[List.map_map];refine List.map_congr_left fun n hn=>?_;have hr:=(h n hn).1;show(a8 n).map l5=a8 n;unfold a8;rw[hr];rfl
theorem mS {l:List dj} (h:∀n∈l,qV n):∀e∈l.map a8,∀d∈e,lF d=true:=by
 intro e he d hd;have:=kY h e he d hd
 cases d<;>first|rfl|exact this
theorem gg {N L j:Nat} {S st:St} {H:List bT} {x:D} {es:List (List D)} {l:List dj} (hH:Has N S st H) (hj:H[j]?=some (.aN x 7 es)) (he:es.map (·.map l5)=l.map a8) (ht:∀e∈es,∀d∈e,lF d=true) (hx:∀k,x.ref=k+1→L≤k) {n:Nat} (hn:3≤n):bt st L false n x=some (qX l):=by
 rw[hH.vD hj hx ht hn,he];rfl
theorem gh {N L j:Nat} {S st:St} {H:List bT} {x w:D} {op mn mx cap kids:Int} {lz:Bool} {a:List Rg} (hH:Has N S st H) (hj:H[j]?=some (.aN x 7 [[.int .i64 op,w,.int .i64 mn,.int .i64 mx,.bool lz,.int .i64 cap,.int .i64 kids]])) (hw:w=bq a∨w=.nul∧a=[]) (hx:∀k,x.ref=k+1→L≤k):bt st L false 16 x=some (qX [pH op mn mx lz cap kids a]):=by
 refine gg hH hj ?_ (fun e he d hd=>?_) hx (by decide)
 ·rcases hw with rfl|⟨rfl,rfl⟩<;>rfl
 ·simp only[List.mem_cons,List.not_mem_nil,or_false] at he;subst he;simp only[List.mem_cons,List.not_mem_nil,or_false] at hd
  rcases hw with rfl|⟨rfl,rfl⟩<;>rcases hd with rfl|rfl|rfl|rfl|rfl|rfl|rfl<;>rfl
theorem yf {op mn mx cap kids:Int} {lz:Bool} {a:List Rg} (h:a.length≤1048576) (hk:kids≤1048576):∀n∈[pH op mn mx lz cap kids a],qV n:=by
 intro n hn;simp only[List.mem_cons,List.not_mem_nil,or_false] at hn;subst hn;exact⟨rfl,h,hk⟩
def qU (gs:List (Nat×Nat)) (s s':dQ) (d:D):Prop:=
 s'.o=s.o∧s'.g≤4∧s.i≤s'.i∧s'.i≤gs.length∧∃l:List dj,d=qX l∧(∀n∈l,qV n)∧l.length≤4*(s'.i-s.i)+1
def gz (gs:List (Nat×Nat)) (s s':dQ) (d:D) (c:Nat):Prop:=
 s'.o=s.o∧s'.g≤4∧s.i≤s'.i∧s'.i≤gs.length∧∃l:List dj,d=qX l∧(∀n∈l,qV n)∧l.length≤4*(s'.i-s.i)+1∧(s'.e≠0∨s'.e=0∧l.length+c≤4*(s'.i-s.i))
theorem eO {gs:List (Nat×Nat)} {s s':dQ} {c:Nat} (h1:s'.o=s.o) (h2:s'.g≤4) (h3:s.i≤s'.i) (h4:s'.i≤gs.length) (h5:s'.e≠0):gz gs s s' (.sl []) c:=
 ⟨h1,h2,h3,h4,[],rfl,fun n hn=>(by cases hn),by simp,.inl h5⟩
theorem ze {N k:Nat} {S s0:St} {H:List bT} {gs:List (Nat×Nat)} {bk:D} {ba:List Int} {s:dQ} (cI:i_ gs ba) (he:s.e=0) (hi:s.i<gs.length) (hg:s.g≤4) (hH:Has N S s0 (.box k (.mem 0 false (aQ gs bk s))::.aN bk 1 (ba.map av)::H)):
  ∃d ah,Ev pv 85 [.ptr k 0 0] s0 d ah∧∃(s':dQ),gz gs s s' d 2∧Has N S ah (.box k (.mem 0 false (aQ gs bk s'))::.aN bk 1 (ba.map av)::H):=by
 have ni:=cI.gl;have gT:=cI.pl;refine Ev.lX rfl Nb rfl rfl rfl ?_;dsimp only[u3,u4,List.length,Nat.reduceSub,Nat.reduceAdd,w1,w2];have cv:=hH;have hH:=hH.cw;have b4:(aq .rw s0).bs=s0.bs:=rfl;generalize aq .rw s0=S2 at*;have yI:Arg N S2 2 (bX gs) (gs.map aY):=Arg.pure (fun st=>cC st gs);refine qq<|qj fun K hK=>qm ?_;refine qe hK<|qq<|qj fun K hK=>qm ?_;refine qg ?_;refine qp (o:=2) ?_;refine ql hH aB ?_;refine qm ?_;refine qe hK<|qq<|qj fun K hK=>qm ?_;refine qg ?_;refine qp (o:=2) ?_;refine ql hH aB ?_;refine qA ?_;refine qg ?_;refine qp (o:=2) ?_;refine qT hH aB fun st hH=>?_;dsimp only[u2,u1,u3,u4,setMany,u5,u6,D.cells,Nat.reduceAdd,aQ,aY,av,ax] at hH;refine qe hK ?_;have hH:Has N S2 st (.box k (.mem 0 false (aQ gs bk {s with i:=s.i+1}))::.aN bk 1 (ba.map av)::H):=hH;obtain⟨k1,k2,k3,k4,k5⟩:=fq (gs:=gs) (s:={s with i:=s.i+1}) (r:=94);have k5:=k5 (by show s.i+1≤_;omega);simp only at k1 k2 k3 k4;refine qq<|qj fun K hK=>qm ?_;obtain⟨_,st,aM,rfl,hH⟩:=df (s:={s with i:=s.i+1}) (by omega) 94 hH;refine qv aM ?_;refine qm ?_;refine qe hK ?_;generalize cB gs {s with i:=s.i+1} 94=s1 at*;generalize iR gs ({s with i:=s.i+1}:dQ).i 94=nt at*;refine qq<|qj fun K hK=>qm ?_;refine qe hK<|qq<|qj fun K hK=>qm ?_;refine qe hK ?_
 have hH:Has N S2 st (.box k (.mem 0 false (aQ gs bk s1))::.aN bk 1 (ba.map av)::.aN .nul 2 (([]:List Rg).map ax)::H):=((hH.fc 2).front bN|>.front ei|>fun h=>(h.front bN))
 refine qq<|ag.block<|ag.loop (fun mm fr st=>∃(s1:dQ) (ld:D) (lr:List Rg) (nn:Bool),fr.clean=⟨7,[.ptr k 0 0,tQ fr 1,tQ fr 2,.int .i64 (s.i:Nat),.bool nt,ld,.bool nn],[]⟩∧Has N S2 st (.box k (.mem 0 false (aQ gs bk s1))::.aN bk 1 (ba.map av)::.aN ld 2 (lr.map ax)::H)∧(s1.o=s.o)∧(s1.g=s.g)∧(s.i<s1.i)∧(s1.i≤gs.length)∧(lr.length≤8*s1.i+8)∧(s1.e=0→lr.length≤8*s1.i)∧(gs.length-s1.i+(if s1.e=0 then 1 else 0)≤mm)) (gs.length+1) ?_ ?_
 ·exact⟨s1,.nul,[],true,rfl,hH,k1,k2,by omega,k5,by simp,fun _=>by simp,by split<;>omega⟩
 rintro mm fr st ⟨s1,ld,lr,nn,hfr,hH,h1,h2,h3,h4,h5,h6,te⟩;rw[hfr];clear hfr;generalize tQ fr=ee;clear fr
 by_cases jV:s1.e=0
 ·rw[if_pos jV] at te;have h6:=h6 jV;have bn:(s1.e==0)=true:=by simpa using jV
  refine qq<|qq<|qj fun K hK=>qm ?_;refine qg ?_;refine qp (o:=5) ?_;refine ql hH aB ?_;refine qg ?_;refine qm ?_;refine qm ?_ (hg:=wi bn);obtain⟨_,st,aM,rfl,hH⟩:=lO (s:=s1) (by omega) 93 hH;refine qv aM ?_ (hg:=wi bn);refine qg ?_ (hg:=wi bn);refine qt bn ?_;refine qe hK ?_
  cases hb:iR gs s1.i 93 with
  |true=>
   have hlt:=na hb;refine qC ?_;refine ag.exit<|qq<|qq<|qj fun K hK=>qm ?_;refine qg ?_;refine qp (o:=5) ?_;refine ql hH aB ?_;refine qg ?_;refine qe hK<|qE rfl (by simp[jV]) ?_;refine ag.skip<|qq<|qq<|qj fun K hK=>qm ?_;refine qe hK ?_
   cases nn with
   |true=>
    refine qB ?_;refine qq<|qj fun K hK=>qm ?_;refine qm ?_;obtain⟨_,st,aM,rfl,hH⟩:=cD (s:=s1) s.i 4 (by omega) hH;refine qv aM ?_;refine qm ?_;refine qe hK ?_;obtain⟨w1,w2,w3,w4⟩:=cL (ba:=ba) (s:=s1) (i:=s.i) (e:=4) jV (by decide);refine ag.ret ⟨rx,_,_,_,rfl,ak (rfl),?_⟩;exact⟨_,eO (by omega) (by omega) (by omega) (by omega) w1,cv.ay b4 (hH.erase 2)⟩
   |false=>
    refine qC ?_;refine ag.skip<|qq<|qj fun K hK=>qm ?_;refine qg ?_;refine qp (o:=2) ?_;refine ql hH aB ?_;refine qA ?_;refine qg ?_;refine qp (o:=2) ?_;refine qT hH aB fun st hH=>?_;dsimp only[u2,u1,u3,u4,setMany,u5,u6,D.cells,Nat.reduceAdd,aQ,aY,av,ax] at hH;refine qe hK<|qq<|qj fun K hK=>qm ?_;obtain⟨aM,yC,_⟩:=ke (l:=lr) (hH.rows ei) (by omega);refine qv aM ?_;refine qm ?_;refine qe hK ?_;generalize iO lr=m at*;refine qq<|qq<|qj fun K hK=>qm ?_;refine qe hK ?_
    have eE:∀(st:St) (a:List Rg) (k70:Nat),a.length≤1048576→S2.bs.length≤k70→Has N S2 st (.aN (.win k70 0 0 1 7) 7 [[.int .i64 2,bq a,.int .i64 0,.int .i64 0,.bool false,.int .i64 0,.int .i64 0]]::.box k (.mem 0 false (aQ gs bk {s1 with i:=s1.i+1}))::.aN bk 1 (ba.map av)::.aN ld 2 (lr.map ax)::H)→
      ∃d ah,cy .rw false s0 st (.win k70 0 0 1 7)=some (d,ah)∧∃(s':dQ),gz gs s s' d 2∧Has N S ah (.box k (.mem 0 false (aQ gs bk s'))::.aN bk 1 (ba.map av)::H):=by
     intro st a k70 ha hk hH;have hfz:=gh hH aB (L:=s0.bs.length) (.inl rfl) (fun k hk=>by simp only[D.ref] at hk;rw[←b4];omega);exact⟨_,_,ak hfz,{s1 with i:=s1.i+1},⟨h1,by show s1.g≤4;omega,by show s.i≤s1.i+1;omega,by show s1.i+1≤_;omega,_,rfl,yf ha (by omega),by simp,.inr ⟨jV,by show 1+2≤4*(s1.i+1-s.i);omega⟩⟩,cv.ay b4 ((hH.drop 1).erase 2)⟩
    cases nt with
    |true=>
     refine qB ?_;refine qj fun K hK=>qm ?_;obtain⟨_,aM,a,rfl,hla⟩:=ya (l:=m) (eu _ _) (by omega);refine qv aM ?_;refine qm ?_;refine qe hK<|qq<|qj fun K hK=>qm ?_;refine ab.fP (qs:=[(0,_),(1,_)]) rfl rfl rfl rfl ⟨rfl,(ev rfl),(by rfl),rfl,(ev rfl),(by rfl),trivial⟩ (by intro q hq;simp only[List.mem_cons,List.not_mem_nil,or_false] at hq;rcases hq with rfl|rfl<;>exact⟨rfl,by exact Nat.le_of_ble_eq_true rfl⟩) (by show List.foldl _ [_,_,_,_,_,_,_] _=_;dsimp only[List.foldl_cons,List.foldl_nil,u2,u1]<;>rfl) (ae rfl _) ?_;refine qh (s:=7) (vs:=[_]) hH fun k70 st Hw hH=>?_;refine qm ?_;refine qe hK ?_;obtain⟨d',ah,sr,fw⟩:=eE _ a k70 (by omega) Hw hH;refine ag.ret ⟨rx,_,d',ah,rfl,sr,fw⟩
    |false=>
     refine qC ?_;refine ag.skip<|qq<|qj fun K hK=>qm ?_;refine ab.fP (qs:=[(0,_),(1,_)]) rfl rfl rfl rfl ⟨rfl,(ev rfl),(by rfl),rfl,(ev rfl),(by rfl),trivial⟩ (by intro q hq;simp only[List.mem_cons,List.not_mem_nil,or_false] at hq;rcases hq with rfl|rfl<;>exact⟨rfl,by exact Nat.le_of_ble_eq_true rfl⟩) (by show List.foldl _ [_,_,_,_,_,_,_] _=_;dsimp only[List.foldl_cons,List.foldl_nil,u2,u1]<;>rfl) (ae rfl _) ?_;refine qh (s:=7) (vs:=[_]) hH fun k70 st Hw hH=>?_;refine qm ?_;refine qe hK ?_;obtain⟨d',ah,sr,fw⟩:=eE _ m k70 (by omega) Hw hH;refine ag.ret ⟨rx,_,d',ah,rfl,sr,fw⟩
  |false=>
   refine qB ?_;refine ag.skip<|ag.block<|qq<|qq<|qj fun K hK=>qm ?_;refine qg ?_;refine qp (o:=2) ?_;refine ql hH aB ?_;refine qm ?_;refine qg ?_;refine qp (o:=0) ?_;refine ql hH aB ?_;refine qn ?_;simp only[List.length_map];refine qg ?_;refine qe hK ?_;refine ag.cond (by rfl) (fun hge=>?_) (fun hge=>?_)<;>try simp only[decide_eq_true_eq,decide_eq_false_iff_not] at hge
   ·refine qq<|qj fun K hK=>qm ?_;refine qm ?_;obtain⟨_,st,aM,rfl,hH⟩:=cD (s:=s1) s.i 4 (by omega) hH;refine qv aM ?_;refine qm ?_;refine qe hK ?_;obtain⟨w1,w2,w3,w4⟩:=cL (ba:=ba) (s:=s1) (i:=s.i) (e:=4) jV (by decide);refine ag.ret ⟨rx,_,_,_,rfl,ak (rfl),?_⟩;exact⟨_,eO (by omega) (by omega) (by omega) (by omega) w1,cv.ay b4 (hH.erase 2)⟩
   ·refine ag.skip<|qq<|qj fun K hK=>qm ?_;refine qm ?_;obtain⟨_,st,aM,s2,⟨i1,i2,i3,i4,a,rfl,i5,i6⟩,hH⟩:=CF (s:=s1) cI jV (by omega) hH;have KH:=(gE a).arg N S2;have KG:=tA a;refine qv aM ?_;refine ab.cu (s:=2) hH rfl (ev rfl) (ev rfl) (by exact ei) (by exact Arg.rows (by assumption) hH) rfl rfl rfl rfl rfl rfl rfl ⟨(Nat.le_of_ble_eq_true rfl),(Nat.le_of_ble_eq_true rfl)⟩ (fun _=>(ae rfl _)) (by simp only[List.length_map]<;>omega) (by exact .inr (by assumption)) (fun Pr st hH=>?_);dsimp only[u2,u1,u3,u4,setMany,u5,u6,D.cells,Nat.reduceAdd,aQ,aY,av,ax] at hH;refine qm ?_;refine qe hK<|qj fun K hK=>qm ?_;refine qe hK ?_;exact⟨mm-1,by omega,⟨s2,Pr,lr++a,false,rfl,(by rw[List.map_append];exact hH),i1.trans h1,i2.trans h2,by omega,i4,by rw[List.length_append];omega,fun e=>by rw[List.length_append];omega,by split<;>omega⟩⟩
 ·have bn:(s1.e==0)=false:=by simpa using jV
  refine qq<|qq<|qj fun K hK=>qm ?_;refine qg ?_;refine qp (o:=5) ?_;refine ql hH aB ?_;refine qg ?_;refine qm ?_;refine qs ?_ (hg:=wn bn);refine qs ?_ (hg:=wn bn);refine qs ?_ (hg:=wn bn);refine qu bn ?_;refine qe hK<|qC ?_;refine ag.exit<|qq<|qq<|qj fun K hK=>qm ?_;refine qg ?_;refine qp (o:=5) ?_;refine ql hH aB ?_;refine qg ?_;refine qe hK<|qD rfl (by simp[jV]) ?_;refine qq<|qj fun K hK=>qm ?_;refine qe hK<|ag.ret ⟨rx,_,_,_,rfl,ak (rfl),?_⟩;exact⟨_,eO h1 (by omega) (by omega) h4 jV,cv.ay b4 (hH.erase 2)⟩
end Go.Proofs.Ytbdnabmmlbiomaa
