/-
 What a rule reaches: the search, both texts.
-/
import Derived.Test.YtnleclohocdkaaaVGHr
import Derived.Test.YtnleclohocdkaaaVGCa
import Derived.Test.YtnleclohocdkaaaVM2
set_option maxRecDepth 100000
set_option maxHeartbeats 4000000
set_option linter.unusedSimpArgs false
set_option linter.unusedVariables false
set_option linter.unusedSectionVars false
namespace Go.Proofs.Ytnleclohocdkaaa
open Go.V Go
def aH (fr:Go.V.Fr) (k:Nat):Go.V.D:=Go.V.nth .bh fr.loc k
def fT (b:Bool):List D:=[.bool b]
theorem xv {l:List Bool} {i:Nat} {q:Bool} (h:l[i]?=some q):(l.map fT)[i]?=some (fT q):=by rw[List.getElem?_map,h];rfl
theorem rI (l:List Bool):∀e∈l.map fT,∀d∈e,cv d=true:=by
 intro e he d hd;obtain⟨x,_,rfl⟩:=List.mem_map.1 he;simp only[fT,List.mem_cons,List.not_mem_nil,or_false] at hd;subst hd;rfl
theorem Eu (l:List Bool):∀e∈l.map fT,e.length=1:=by
 intro e he;obtain⟨x,_,rfl⟩:=List.mem_map.1 he;rfl
def zf (l:List Bool):D:=.sl ((l.map fT).map (j7 1))
theorem B5 (l:List Bool):gU (zf l) 1 (l.map fT):=gU.frozen (Eu l) (rI l)
theorem nM (l:List Int):∀e∈l.map az,∀d∈e,cv d=true:=by
 intro e he d hd;obtain⟨x,_,rfl⟩:=List.mem_map.1 he;simp only[az,List.mem_cons,List.not_mem_nil,or_false] at hd;subst hd;rfl
theorem FI (l:List Int):∀e∈l.map az,e.length=1:=by
 intro e he;obtain⟨x,_,rfl⟩:=List.mem_map.1 he;rfl
def Dz (l:List Int):D:=.sl ((l.map az).map (j7 1))
theorem wH (l:List Int):gU (Dz l) 1 (l.map az):=gU.frozen (FI l) (nM l)
def bB (pc:Nat) (i:aC):List Int:=
 if i.op=2 then[i.x,i.y] else if i.op=3 then[i.x] else if i.op=7 then[] else[((pc+1:Nat):Int)]
def iN (code:List aC):Prop:=∀pc i,code[pc]?=some i→∀v∈bB pc i,0≤v∧v<code.length
theorem vz {n ns pc:Nat} {i:aC} (h:cT n ns pc i=true):∀v∈bB pc i,0≤v∧v<n:=by
 intro v hv
 have dN:∀a b:Int,qY a b=true→0≤a∧a<b:=fun a b h=>by
  unfold qY at h;simp only[Bool.and_eq_true,decide_eq_true_eq] at h;exact⟨h.1,h.2⟩
 unfold cT at h;unfold bB at hv
 split at h
 ·rename_i h1;rw[if_neg (by omega),if_neg (by omega),if_neg (by omega)] at hv;simp only[Bool.and_eq_true,decide_eq_true_eq] at h;simp only[List.mem_cons,List.not_mem_nil,or_false] at hv;subst hv;omega
 ·simp only[Bool.and_eq_true] at h;obtain⟨_,h⟩:=h
  split at h
  ·rename_i h2;rw[if_pos h2] at hv;simp only[Bool.and_eq_true] at h;simp only[List.mem_cons,List.not_mem_nil,or_false] at hv
   rcases hv with rfl|rfl
   ·exact dN _ _ h.1
   ·exact dN _ _ h.2
  ·rename_i h2;rw[if_neg h2] at hv;simp only[Bool.and_eq_true] at h;obtain⟨_,h⟩:=h
   split at h
   ·rename_i h3;rw[if_pos h3] at hv;simp only[List.mem_cons,List.not_mem_nil,or_false] at hv;subst hv;exact dN _ _ h
   ·rename_i h3;rw[if_neg h3] at hv
    split at h
    ·rename_i h4;rw[if_neg (by omega)] at hv;simp only[Bool.and_eq_true,decide_eq_true_eq] at h;simp only[List.mem_cons,List.not_mem_nil,or_false] at hv;subst hv;omega
    ·split at h
     ·rename_i h5;rw[if_neg (by omega)] at hv;simp only[Bool.and_eq_true,decide_eq_true_eq] at h;simp only[List.mem_cons,List.not_mem_nil,or_false] at hv;subst hv;omega
     ·split at h
      ·rename_i h7;rw[if_pos h7] at hv;cases hv
      ·cases h
def y0 (code:List aC):Nat→List Bool→List Int→List Bool
 |0,seen,_=>seen
 |_+1,seen,[]=>seen
 |f+1,seen,v::cS=>match seen[v.toNat]? with
  |some false=>match code[v.toNat]? with
   |some i=>y0 code f (seen.set v.toNat true) ((bB v.toNat i).reverse++cS)
   |none=>seen
  |_=>y0 code f seen cS
def cu (code:List aC) (start:Int):List Bool:=y0 code (3*code.length+1) (List.replicate code.length false) [start]
theorem uZ (code:List aC):∀(f:Nat) (seen:List Bool) (cS:List Int),(y0 code f seen cS).length=seen.length
 |0,_,_=>rfl
 |_+1,_,[]=>rfl
 |f+1,seen,v::cS=>by
  unfold y0
  split
  ·split
   ·rw[uZ code f];simp
   ·rfl
  ·exact uZ code f seen cS
theorem yd (code:List aC) (s:Int):(cu code s).length=code.length:=by
 unfold cu;rw[uZ];simp
theorem count_set {seen:List Bool} {k:Nat} (h:seen[k]?=some false):(seen.set k true).count false+1=seen.count false:=by
 induction seen generalizing k with
 |nil=>simp at h
 |cons b l ih=>
  cases k with
  |zero=>simp at h;subst h;simp
  |succ k=>
   have:=ih (k:=k) (by simpa using h);simp only[List.set_cons_succ,List.count_cons];omega
theorem wv (pc:Nat) (i:aC):(bB pc i).length≤2:=by
 unfold bB;split
 ·simp
 ·split
  ·simp
  ·split<;>simp
theorem CC (v:Int) (r:List Int):((v::r).reverse.map az)[r.length]?=some (az v):=by
 rw[List.getElem?_map,List.reverse_cons,List.getElem?_append_right (by simp)];simp
theorem E9 (v:Int) (r:List Int):(((v::r).reverse.map az).take r.length).drop 0=r.reverse.map az:=by
 rw[List.reverse_cons,List.map_append,List.drop_zero,List.take_left' (by simp)]
theorem F5 {s0:St} {cd:D} {code:List aC} {start:Int} (vi:gU cd 4 (code.map aK)) (hlen:code.length≤1048576) (hcl:iN code) (df:0≤start∧start<code.length):Ev pv 50 [cd,.int .i64 start] s0 (zf (cu code start)) s0:=by
 refine Ev.o9 rfl OU rfl rfl rfl ?_;refine zE ?_;obtain⟨cD,hF,hH⟩:=ri s0;generalize ag .ro s0=S at*;have hc:=vi.arg s0.bs.length S;refine zQ 7 ?_;refine qn ?_;simp only[List.length_map];refine ab.Aj (s:=1) hH rfl rfl rfl rfl rfl rfl rfl rfl (Nat.le_of_ble_eq_true rfl) (by omega) (fun _=>by dsimp only[Fr.put,u1,u2]<;>rfl) (fun k11 st Kr hH=>?_);refine zQ 5 ?_;refine qh (s:=1) (vs:=[_]) hH fun k13 st HO hH=>?_;refine zQ 4 ?_;refine ah.loop (fun mm fr st=>∃(y z:D) (seen:List Bool) (cS:List Int),fr.clean=⟨41,[cd,aH fr 1,aH fr 2,aH fr 3,.nul,y,z,aH fr 7,aH fr 8,aH fr 9,aH fr 10,aH fr 11,aH fr 12,aH fr 13,aH fr 14,aH fr 15,aH fr 16,aH fr 17,aH fr 18,aH fr 19,aH fr 20,aH fr 21,aH fr 22,aH fr 23,aH fr 24,aH fr 25,aH fr 26,aH fr 27,aH fr 28,aH fr 29,aH fr 30,aH fr 31,aH fr 32,aH fr 33,aH fr 34,aH fr 35,aH fr 36,aH fr 37,aH fr 38,aH fr 39,aH fr 40],[]⟩∧Has s0.bs.length S st [.aI z 1 (cS.reverse.map az),.aI y 1 (seen.map fT)]∧(y0 code mm seen cS=cu code start)∧(3*seen.count false+cS.length≤mm)∧(seen.length=code.length)∧(∀v∈cS,0≤v∧v<(code.length:Int))∧(mm≤3*code.length+1)) (3*code.length+1) ?_ ?_
 ·exact⟨_,_,List.replicate code.length false,[start],rfl,(by rw[List.map_replicate];exact hH),rfl,by simp,by simp,by simpa using df,by omega⟩
 rintro mm fr st ⟨y,z,seen,cS,hfr,hH,hd,hm,jT,hsk,yH⟩;rw[hfr];clear hfr;generalize aH fr=ee;clear fr
 rcases cS with _|⟨v,cS⟩
 ·refine zQ 4 ?_;refine qn ?_ (hR:=hH.rows aS);simp only[List.length_map,List.length_nil,List.length_reverse];refine zQ 2 ?_;refine ah.cond (v:=false) (by dsimp only[Fr.ev,Fr.get,nth,V.look];rfl) (fun h=>by cases h) (fun _=>?_);refine zQ 6 ?_;have gd:seen=cu code start:=by rw[←hd];cases mm<;>rfl
  rw[←gd];refine ah.ret ⟨rx,_,rfl,rl cD hH ?_⟩;exact hH.freeze bZ (rI _) (n:=15) (by decide)
 ·have hv:=hsk v (List.mem_cons_self ..);obtain⟨k,rfl⟩:=Int.eq_ofNat_of_zero_le hv.1;have hk:k<code.length:=by omega
  simp only[List.length_cons] at hm
  obtain⟨mm,rfl⟩:∃m',mm=m'+1:=⟨mm-1,by omega⟩
  obtain⟨b,hb⟩:∃b,seen[k]?=some b:=⟨seen[k]'(by omega),List.getElem?_eq_getElem _⟩
  obtain⟨i,hi⟩:∃i,code[k]?=some i:=⟨code[k]'(by omega),List.getElem?_eq_getElem _⟩
  have iH:=CC (k:Int) cS;have oS:=xv hb;have RZ:=iF hi;refine zQ 4 ?_;refine qn ?_ (hR:=hH.rows aS);simp only[List.length_map,List.length_cons,List.length_reverse];refine zQ 2 ?_;refine qD rfl (by simp) ?_;refine zQ 6 ?_;refine qn ?_ (hR:=hH.rows aS);simp only[List.length_map,List.length_cons,List.length_reverse];refine ab.oM (z:=((cS.length:Nat):Int)) rfl (ev rfl) (ev rfl) (by(try simp only[List.length_reverse,List.length_cons,List.length_nil,List.length_append,List.length_map,List.length_set]);rw[wrap_i64 (by omega) (by omega)]<;>omega) (by dsimp only[Fr.put,u1,u2]<;>rfl) ?_;refine qi hH aS fun Mb HB=>?_;refine zQ 7 ?_;refine qn ?_ (hR:=hH.rows aS);simp only[List.length_map,List.length_cons,List.length_reverse];refine ab.oM (z:=((cS.length:Nat):Int)) rfl (ev rfl) (ev rfl) (by(try simp only[List.length_reverse,List.length_cons,List.length_nil,List.length_append,List.length_map,List.length_set]);rw[wrap_i64 (by omega) (by omega)]<;>omega) (by dsimp only[Fr.put,u1,u2]<;>rfl) ?_;refine ab.C9 hH rfl (ev rfl) (by exact aS) rfl rfl (nZ (by simp only[List.length_map,List.length_reverse,List.length_cons,List.length_append,List.length_nil,List.length_take,List.length_drop,List.length_set,List.length_replicate];omega)) ⟨(by omega),(by simp only[List.length_map,List.length_reverse,List.length_cons,List.length_append,List.length_nil,List.length_take,List.length_drop,List.length_set,List.length_replicate];omega)⟩ (fun _=>by dsimp only[Fr.put,u1,u2]<;>rfl) (fun Uc hH=>?_);refine zQ 2 ?_;dsimp only[u2] at hH;rw[E9] at hH;have df:∀w∈cS,0≤w∧w<(code.length:Int):=fun w hw=>hsk w (List.mem_cons_of_mem _ hw);refine zQ 5 ?_;refine qi hH bZ fun PV JT=>?_;refine zQ 2 ?_
  cases b with
  |true=>
   refine zQ 2 ?_;simp only[y0,Int.toNat_natCast,hb] at hd;exact⟨mm,by omega,⟨_,_,seen,cS,rfl,hH,hd,by omega,jT,df,by omega⟩⟩
  |false=>
   have BH:=count_set hb;have iy:(seen.set k true).map fT=(seen.map fT).set k [.bool true]:=by rw[List.map_set];rfl
   simp only[y0,Int.toNat_natCast,hb,hi] at hd;have BB:=hcl k i hi;have Kb:=wv k i
   have MZ:∀w∈(bB k i).reverse++cS,0≤w∧w<(code.length:Int):=fun w hw=>by
    rcases List.mem_append.1 hw with hw|hw
    ·exact BB w (List.mem_reverse.1 hw)
    ·exact df w hw
   have M9:(((bB k i).reverse++cS).reverse).map az=cS.reverse.map az++(bB k i).map az:=by
    rw[List.reverse_append,List.reverse_reverse,List.map_append]
   refine zQ 6 ?_;refine qi hH bZ fun UK Ss=>?_;refine ab.nz hH rfl (ev rfl) (ev rfl) (by assumption) rfl rfl (by exact bZ) (by assumption) (Nat.le_of_ble_eq_true rfl) (by exact .inl hF) (fun st hH=>?_);dsimp only[u2,u1,u3,u4,setMany,u5,u6,D.cells,Nat.reduceAdd,aK,az,fT] at hH;refine zQ 5 ?_;refine qr fun PS JQ=>?_;refine ab.eB rfl (ev rfl) (by assumption) rfl (by dsimp only[Fr.put,u1,u2]<;>rfl) ?_;refine qa hH fun k8 st LD hH=>?_;refine qS hH aS fun st hH=>?_;dsimp only[u2,u1,u3,u4,setMany,u5,u6,D.cells,Nat.reduceAdd,aK,az,fT] at hH;refine zQ 6 ?_;refine ah.merge (fun fr st=>∃(z:D) (tmp:List (Nat×D)),fr=⟨41,[cd,aH fr 1,aH fr 2,aH fr 3,.nul,y,z,aH fr 7,aH fr 8,aH fr 9,aH fr 10,aH fr 11,aH fr 12,aH fr 13,aH fr 14,aH fr 15,aH fr 16,aH fr 17,aH fr 18,aH fr 19,aH fr 20,aH fr 21,aH fr 22,aH fr 23,aH fr 24,aH fr 25,aH fr 26,aH fr 27,aH fr 28,aH fr 29,aH fr 30,aH fr 31,aH fr 32,aH fr 33,aH fr 34,aH fr 35,aH fr 36,aH fr 37,aH fr 38,aH fr 39,aH fr 40],tmp⟩∧Has s0.bs.length S st [.aI z 1 (cS.reverse.map az++(bB k i).map az),.aI y 1 ((seen.map fT).set k [.bool true])]) ?_ ?_
   ·refine zQ 6 ?_;refine zI (fun h2=>?_) fun h2=>?_
    ·have:bB k i=[i.x,i.y]:=by unfold bB;rw[if_pos h2]
     rw[this];refine zQ 6 ?_;refine qh (s:=1) (vs:=[_,_]) hH fun k53 st SY hH=>?_;refine ab.bT (s:=1) hH rfl (ev rfl) (ev rfl) (by exact cU) (by exact hH.rows (by exact aS)) rfl rfl rfl rfl rfl rfl rfl ⟨(Nat.le_of_ble_eq_true rfl),(Nat.le_of_ble_eq_true rfl)⟩ (fun _=>(aa rfl _)) (by simp only[List.length_cons,List.length_nil,List.length_map,List.length_reverse]<;>omega) (by exact .inl hF) (fun Uf st hH=>?_);dsimp only[u2,u1,u3,u4,setMany,u5,u6,D.cells,Nat.reduceAdd,aK,az,fT] at hH;refine zQ 2 ?_;exact⟨_,_,rfl,(by have:=hH.drop 2;exact this)⟩
    ·refine zQ 5 ?_;refine zI (fun h3=>?_) fun h3=>?_
     ·have:bB k i=[i.x]:=by unfold bB;rw[if_neg h2,if_pos h3]
      rw[this];refine zQ 4 ?_;refine qh (s:=1) (vs:=[_]) hH fun k60 st SV hH=>?_;refine ab.bT (s:=1) hH rfl (ev rfl) (ev rfl) (by exact cU) (by exact hH.rows (by exact aS)) rfl rfl rfl rfl rfl rfl rfl ⟨(Nat.le_of_ble_eq_true rfl),(Nat.le_of_ble_eq_true rfl)⟩ (fun _=>(aa rfl _)) (by simp only[List.length_cons,List.length_nil,List.length_map,List.length_reverse]<;>omega) (by exact .inl hF) (fun Ue st hH=>?_);dsimp only[u2,u1,u3,u4,setMany,u5,u6,D.cells,Nat.reduceAdd,aK,az,fT] at hH;refine zQ 2 ?_;exact⟨_,_,rfl,(by have:=hH.drop 2;exact this)⟩
     ·refine zQ 5 ?_;refine zI (fun h7=>?_) fun h7=>?_
      ·have:bB k i=[]:=by unfold bB;rw[if_neg h2,if_neg h3,if_pos h7]
       rw[this,List.map_nil,List.append_nil];refine zQ 1 ?_;exact⟨_,_,rfl,(by have:=hH.drop 1;exact this)⟩
      ·have:bB k i=[((k+1:Nat):Int)]:=by unfold bB;rw[if_neg h2,if_neg h3,if_neg h7]
       rw[this];refine zQ 4 ?_;refine qh (s:=1) (vs:=[_]) hH fun k44 st S1 hH=>?_;refine ab.bT (s:=1) hH rfl (ev rfl) (ev rfl) (by exact cU) (by exact hH.rows (by exact aS)) rfl rfl rfl rfl rfl rfl rfl ⟨(Nat.le_of_ble_eq_true rfl),(Nat.le_of_ble_eq_true rfl)⟩ (fun _=>(aa rfl _)) (by simp only[List.length_cons,List.length_nil,List.length_map,List.length_reverse]<;>omega) (by exact .inl hF) (fun Ug st hH=>?_);dsimp only[u2,u1,u3,u4,setMany,u5,u6,D.cells,Nat.reduceAdd,aK,az,fT] at hH;refine zQ 2 ?_;exact⟨_,_,rfl,(by have:=hH.drop 2;exact this)⟩
   ·rintro fr st ⟨z,tmp,hfr,hH⟩;rw[hfr];clear hfr;generalize aH fr=ee;clear fr;exact⟨mm,by omega,⟨y,z,seen.set k true,(bB k i).reverse++cS,rfl,(by rw[M9,iy];exact hH),hd,by simp only[List.length_append,List.length_reverse];omega,by simp only[List.length_set];exact jT,MZ,by omega⟩⟩
def ak (fr:Go.V.Fr) (k:Nat):Go.V.D:=Go.V.nth .bh fr.loc k
noncomputable def dec (q:Prop):Bool:=@decide q (Classical.propDecidable q)
theorem mG {q:Prop} (h:q):dec q=true:=@decide_eq_true q (Classical.propDecidable q) h
theorem u7 {q:Prop} (h:¬q):dec q=false:=@decide_eq_false q (Classical.propDecidable q) h
def pO (p:Pg) (r:Nat) (s:Int) (n:Nat):Prop:=∀pc i,pc<n→(cu p.code s)[pc]?=some true→p.code[pc]?=some i→i.op=7→i.x=(r:Int)
structure a_ (p:Pg):Prop where
 cl:p.code.length≤400
 sl:p.av.length≤8
 sh:∀pc i,p.code[pc]?=some i→cT p.code.length p.av.length pc i=true
 st:∀v∈p.av,0≤v∧v<(p.code.length:Int)
 fo:∀r s,p.av[r]?=some s→pO p r s p.code.length
theorem nW {p:Pg} (h:∀pc i,p.code[pc]?=some i→cT p.code.length p.av.length pc i=true):iN p.code:=
 fun pc i hi=>vz (h pc i hi)
theorem a_.closed {p:Pg} (h:a_ p):iN p.code:=nW h.sh
theorem dN {a b:Int}:qY a b=true↔0≤a∧a<b:=by
 unfold qY;simp only[Bool.and_eq_true,decide_eq_true_eq,ge_iff_le]
theorem sm {s0:St} {p:Pg} (hp:p.ok):Ev pv 16 [p.d] s0 (.bool (dec (a_ p))) s0:=by
 refine Ev.o9 rfl O_ rfl rfl rfl ?_;refine zE ?_;obtain⟨cD,hF,hH⟩:=ri s0;generalize ag .ro s0=S at*;have hc:=hp.c.arg s0.bs.length S;have hs:=hp.s.arg s0.bs.length S;have vi:=hp.c;have hlen:=hp.cl;have JD:=hp.sl;unfold Pg.d;refine zQ 2 ?_;refine qb hH fun k1 st re hH=>?_;dsimp only[u2,u1,u3,u4,setMany,u5,u6,D.cells,Nat.reduceAdd,Pg.cs,aK,az,fT] at hH;refine zQ 4 ?_;refine ah.mH 17 (.bool (decide ((p.code.length:Int)>400)||decide ((p.av.length:Int)>8))) [8,9,10,11,12,13,14,15,16] ?_ (fun ff tmp=>?_)
 ·refine zQ 2 ?_;refine qn ?_;simp only[List.length_map];refine zQ 2 ?_;refine ab.two 12 rfl (fun An=>?_) (fun An=>?_)
  ·refine zQ 5 ?_;refine ab.nil (aT ?_);refine zG ?_
   all_goals(simp[An];done)
  ·refine zQ 2 ?_;refine qn ?_ (hg:=wi An);simp only[List.length_map];refine zQ 2 ?_;refine ab.nil (aT ?_);refine zG ?_
   all_goals(simp[An];done)
 dsimp only[aX,List.foldl,nth,u2,u1];generalize ff 8=e8;generalize ff 9=e9;generalize ff 10=Vx;generalize ff 11=Vw;generalize ff 12=Vv;generalize ff 13=Vu;generalize ff 14=Vt;generalize ff 15=Vs;generalize ff 16=Vr;refine qc (fun h0=>?_) (fun h0=>?_)<;>try simp only[cs] at h0
 ·rw[u7 (fun h=>by have:=h.cl;have:=h.sl;simp at h0;omega)];refine zQ 4 ?_;refine ah.ret ⟨rx,_,rfl,rl cD hH (rfl)⟩
 ·have h0:p.code.length≤400∧p.av.length≤8:=by simp at h0;omega
  refine zQ 6 ?_;refine qn ?_;simp only[List.length_map];refine zQ 3 ?_;refine ah.loop (fun mm fr st=>∃(i:Nat),fr.clean=⟨49,[ak fr 0,.ptr k1 0 0,.bool false,ak fr 3,ak fr 4,ak fr 5,ak fr 6,ak fr 7,ak fr 8,ak fr 9,ak fr 10,ak fr 11,ak fr 12,ak fr 13,ak fr 14,ak fr 15,ak fr 16,ak fr 17,ak fr 18,ak fr 19,.int .i64 (p.code.length:Nat),.int .i64 (i:Nat),ak fr 22,ak fr 23,ak fr 24,ak fr 25,ak fr 26,ak fr 27,ak fr 28,ak fr 29,ak fr 30,ak fr 31,ak fr 32,ak fr 33,ak fr 34,ak fr 35,ak fr 36,ak fr 37,ak fr 38,ak fr 39,ak fr 40,ak fr 41,ak fr 42,ak fr 43,ak fr 44,ak fr 45,ak fr 46,ak fr 47,ak fr 48],[]⟩∧Has s0.bs.length S st [.box k1 (.mem 0 false [p.cd,p.sd])]∧(i+mm=p.code.length)∧(∀pc q,pc<i→p.code[pc]?=some q→cT p.code.length p.av.length pc q=true)) (p.code.length) ?_ ?_
  ·exact⟨0,rfl,hH,by omega,by intro pc q h;omega⟩
  rintro mm fr st ⟨i,hfr,hH,hi,hsh⟩;rw[hfr];clear hfr;generalize ak fr=ee;clear fr;refine zQ 5 ?_;refine zP (fun h1=>?_) fun h1=>?_
  ·refine zQ 1 ?_
   obtain⟨q,hq⟩:∃q,p.code[i]?=some q:=⟨p.code[i]'(by omega),List.getElem?_eq_getElem _⟩
   refine zQ 9 ?_;refine ab.bN (m:=2) hH rfl (ev rfl) (by exact aS) (by dsimp only[List.drop_succ_cons,List.drop_zero,List.take_succ_cons,List.take_zero,Pg.cs,aK,az,fT]<;>rfl) rfl rfl (by dsimp only[Fr.put,u1,u2]<;>rfl) ?_;refine qm ?_;refine qv (AZ (p:=p) hp hq) ?_;refine zQ 2 ?_;refine ah.cond (by rfl) (fun h2=>?_) (fun h2=>?_)<;>try simp only[Bool.not_eq_true',Bool.not_eq_false'] at h2
   ·rw[u7 (fun h=>by have:=h.sh i q hq;rw[this] at h2;cases h2)];refine zQ 4 ?_;refine ah.ret ⟨rx,_,rfl,rl cD hH (rfl)⟩
   ·refine zQ 5 ?_;refine⟨mm-1,by omega,⟨i+1,rfl,hH,by omega,?_⟩⟩;intro pc q' DK r_
    by_cases he:pc=i
    ·subst he;rw[hq] at r_;cases r_;simpa using h2
    ·exact hsh pc q' (by omega) r_
  ·refine zQ 1 ?_;have hsh:∀pc q,p.code[pc]?=some q→cT p.code.length p.av.length pc q=true:=fun pc q hq=>hsh pc q (by have:=aR hq;omega) hq;have hcl:=nW hsh;refine zQ 5 ?_;refine qn ?_;simp only[List.length_map];refine zQ 3 ?_;refine ah.loop (fun mm fr st=>∃(r:Nat),fr.clean=⟨49,[ak fr 0,.ptr k1 0 0,.bool false,ak fr 3,ak fr 4,ak fr 5,ak fr 6,ak fr 7,ak fr 8,ak fr 9,ak fr 10,ak fr 11,ak fr 12,ak fr 13,ak fr 14,ak fr 15,ak fr 16,ak fr 17,ak fr 18,ak fr 19,ak fr 20,ak fr 21,ak fr 22,ak fr 23,ak fr 24,ak fr 25,ak fr 26,ak fr 27,ak fr 28,ak fr 29,p.sd,.int .i64 (p.av.length:Nat),.int .i64 (r:Nat),ak fr 33,ak fr 34,ak fr 35,ak fr 36,ak fr 37,ak fr 38,ak fr 39,ak fr 40,ak fr 41,ak fr 42,ak fr 43,ak fr 44,ak fr 45,ak fr 46,ak fr 47,ak fr 48],[]⟩∧Has s0.bs.length S st [.box k1 (.mem 0 false [p.cd,p.sd])]∧(r+mm=p.av.length)∧(∀r' s,r'<r→p.av[r']?=some s→(0≤s∧s<(p.code.length:Int))∧pO p r' s p.code.length)) (p.av.length) ?_ ?_
   ·exact⟨0,rfl,hH,by omega,by intro pc q h;omega⟩
   rintro mm fr st ⟨r,hfr,hH,hi,aY⟩;rw[hfr];clear hfr;generalize ak fr=ee;clear fr;refine zQ 5 ?_;refine zP (fun h3=>?_) fun h3=>?_
   ·refine zQ 1 ?_
    obtain⟨s,tg⟩:∃s,p.av[r]?=some s:=⟨p.av[r]'(by omega),List.getElem?_eq_getElem _⟩
    have Ly:=fL tg;refine zQ 5 ?_;refine qr fun PU JS=>?_;refine zQ 10 ?_;refine qn ?_;simp only[List.length_map];refine qv (gO _ _) ?_;refine zQ 2 ?_;refine ah.cond (by rfl) (fun h4=>?_) (fun h4=>?_)<;>try simp only[Bool.not_eq_true',Bool.not_eq_false'] at h4
    ·rw[u7 (fun h=>by have:=dN.2 (h.st s (List.mem_of_getElem? tg));rw[this] at h4;cases h4)];refine zQ 4 ?_;refine ah.ret ⟨rx,_,rfl,rl cD hH (rfl)⟩
    ·have JE:=dN.1 (show qY s p.code.length=true by simpa using h4);refine zQ 1 ?_;have rZ:=yd p.code s;have M_:=(B5 (cu p.code s)).arg s0.bs.length S;refine zQ 5 ?_;refine qv (F5 vi hlen hcl JE) ?_;refine qn ?_;simp only[List.length_map];refine zQ 3 ?_;refine ah.loop (fun mm fr st=>∃(i:Nat),fr.clean=⟨49,[ak fr 0,.ptr k1 0 0,.bool false,ak fr 3,.int .i64 (r:Nat),ak fr 5,ak fr 6,ak fr 7,ak fr 8,ak fr 9,ak fr 10,ak fr 11,ak fr 12,ak fr 13,ak fr 14,ak fr 15,ak fr 16,ak fr 17,ak fr 18,ak fr 19,ak fr 20,ak fr 21,ak fr 22,ak fr 23,ak fr 24,ak fr 25,ak fr 26,ak fr 27,ak fr 28,ak fr 29,p.sd,.int .i64 (p.av.length:Nat),.int .i64 (r:Nat),ak fr 33,ak fr 34,ak fr 35,ak fr 36,ak fr 37,ak fr 38,ak fr 39,ak fr 40,ak fr 41,ak fr 42,ak fr 43,ak fr 44,ak fr 45,zf (cu p.code s),.int .i64 ((cu p.code s).length:Nat),.int .i64 (i:Nat)],[]⟩∧Has s0.bs.length S st [.box k1 (.mem 0 false [p.cd,p.sd])]∧(i+mm=p.code.length)∧(pO p r s i)) (p.code.length) ?_ ?_
     ·exact⟨0,rfl,hH,by omega,by intro pc q h;omega⟩
     rintro mm fr st ⟨i,hfr,hH,hj,hom⟩;rw[hfr];clear hfr;generalize ak fr=ee;clear fr;refine zQ 5 ?_;refine zP (fun h5=>?_) fun h5=>?_
     ·refine zQ 1 ?_
      obtain⟨b,hb⟩:∃b,(cu p.code s)[i]?=some b:=⟨(cu p.code s)[i]'(by omega),List.getElem?_eq_getElem _⟩
      obtain⟨q,hq⟩:∃q,p.code[i]?=some q:=⟨p.code[i]'(by omega),List.getElem?_eq_getElem _⟩
      have iH:=xv hb;have oS:=iF hq;refine zQ 5 ?_;refine qr fun Q9 Np=>?_;refine zQ 5 ?_;refine ah.lB 72 (.bool ((b &&(q.op==7)) &&(q.x !=(r:Int)))) [] ?_ (fun ff tmp gL=>?_)
      ·refine zQ 2 ?_;refine ab.two 54 rfl (fun jV=>?_) (fun jV=>?_)
       ·refine zQ 3 ?_;refine qr (fun UD Sj=>?_) (hg:=wi jV);refine qf (fo:=0) (fun UC Si=>?_) (hg:=wi jV);refine zQ 4 ?_;refine ab.two 63 rfl (fun bW=>?_) (fun bW=>?_)
        ·refine zQ 3 ?_;refine qr (fun Ux Sd=>?_) (hg:=wi bW);refine qf (fo:=1) (fun Uw Sc=>?_) (hg:=wi bW);refine zQ 4 ?_;refine ab.nil (cA ?_ ?_)
         ·dsimp only[aX,List.foldl,nth,u2,u1]
          all_goals(first|rfl|simp)
         ·refine zF ?_
          all_goals(simp[jV,bW];done)
        ·refine zQ 9 ?_;refine ab.nil (cA ?_ ?_)
         ·dsimp only[aX,List.foldl,nth,u2,u1]
          all_goals(first|rfl|simp)
         ·refine zF ?_
          all_goals(simp[jV,bW];done)
       ·refine zQ 18 ?_;refine ab.nil (cA ?_ ?_)
        ·dsimp only[aX,List.foldl,nth,u2,u1]
         all_goals(first|rfl|simp)
        ·refine zF ?_
         all_goals(simp[jV];done)
      refine zG ?_;refine qc (fun h6=>?_) (fun h6=>?_)<;>try simp only[cs] at h6
      ·rw[u7 (fun h=>by
        have h7:=h.fo r s tg i q (by omega);simp only[Bool.and_eq_true,beq_iff_eq,bne_iff_ne,ne_eq] at h6;obtain⟨⟨rfl,h8⟩,h9⟩:=h6
        exact h9 (h7 hb hq h8))]
       refine zQ 4 ?_;refine ah.ret ⟨rx,_,rfl,rl cD hH (rfl)⟩
      ·refine zQ 5 ?_;refine⟨mm-1,by omega,⟨i+1,rfl,hH,by omega,?_⟩⟩;intro pc q' DK FQ r_ fM
       by_cases he:pc=i
       ·subst he;rw[hq] at r_;cases r_;rw[hb] at FQ;cases FQ;simp[fM] at h6;exact h6
       ·exact hom pc q' (by omega) FQ r_ fM
     ·refine zQ 5 ?_;refine⟨p.av.length-(r+1),by omega,⟨r+1,rfl,hH,by omega,?_⟩⟩;intro r' s' IC rb
      by_cases he:r'=r
      ·subst he;rw[tg] at rb;cases rb;exact⟨JE,fun pc q DK=>hom pc q (by omega)⟩
      ·exact aY r' s' (by omega) rb
   ·refine zQ 1 ?_
    rw[mG ⟨h0.1,h0.2,hsh,fun v hv=>by
     obtain⟨r',IC⟩:=List.getElem?_of_mem hv
     exact(aY r' v (by have:=aR IC;omega) IC).1,fun r' s' rb=>(aY r' s' (by have:=aR rb;omega) rb).2⟩]
    refine zQ 4 ?_;refine ah.ret ⟨rx,_,rfl,rl cD hH (rfl)⟩
def pV:Nat→List Bool→List Int
 |_,[]=>[]
 |i,b::l=>(if b then[(i:Int)] else[])++pV (i+1) l
noncomputable def pN (p:Pg) (A6:Int):List Int:=if dec (a_ p) &&qY A6 p.av.length then pV 0 (cu p.code (p.av.getD A6.toNat 0)) else[]
def ek (i:aC):aC:=⟨i.op,i.x,i.y,.sl ((i.rs.map au).map (j7 2)),i.rs⟩
theorem Ei {i:aC} (h:i.ok):(ek i).ok:=⟨gU.frozen (kX _) (ec _),h.2⟩
def rF (q:aC):List D:=aK (ek q)
structure cg where
 op:Int
 rd:D
 rs:List Rg
 mn:Int
 mx:Int
 lz:Bool
 cap:Int
 kids:Int
def aV (n:cg):List D:=[.int .i64 n.op,n.rd,.int .i64 n.mn,.int .i64 n.mx,.bool n.lz,.int .i64 n.cap,.int .i64 n.kids]
def cg.ok (n:cg):Prop:=gU n.rd 2 (n.rs.map au)∧n.rs.length≤1048576∧n.kids≤9223372036854775807
structure Nl where
 d:D
 l:List cg
structure Nl.ok (x:Nl):Prop where
 c:gU x.d 7 (x.l.map aV)
 i:∀n∈x.l,n.ok
 nl:x.l.length≤1048576
theorem lg {l:List cg} {i:Nat} {q:cg} (h:l[i]?=some q):(l.map aV)[i]?=some (aV q):=by rw[List.getElem?_map,h];rfl
mutual
inductive Tr where
 |mk (n:cg) (ks:bj)
inductive bj where
 |nil
 |cons (t:Tr) (ts:bj)
end
def bj.len:bj→Nat
 | .nil=>0
 | .cons _ ts=>ts.len+1
mutual
def Tr.flat:Tr→List cg
 | .mk n ks=>n::ks.flat
def bj.flat:bj→List cg
 | .nil=>[]
 | .cons t ts=>t.flat++ts.flat
end
def wu (n:cg) (nk:Nat):Prop:=
 n.kids=(nk:Int)∧(((n.op=1∨n.op=7∨n.op=8)∧nk=0)∨(n.op=2∧nk=0)∨((n.op=3∨n.op=4)∧2≤nk)∨
  (n.op=5∧nk=1∧0≤n.mn∧n.mn≤30∧(n.mx=-1∨(n.mn≤n.mx∧n.mx≤30)))∨(n.op=6∧nk=1∧1≤n.cap∧n.cap≤4))
mutual
def Tr.ok:Tr→Prop
 | .mk n ks=>wu n ks.len∧ks.ok
def bj.ok:bj→Prop
 | .nil=>True
 | .cons t ts=>t.ok∧ts.ok
end
def bk (n:cg) (s k:Nat):Nat:=
 if n.op=2∨n.op=7∨n.op=8 then 1
 else if n.op=4 then s+2*(k-1)
 else if n.op=6 then s+2
 else if n.op=5 then(if n.mx=-1 then n.mn.toNat*s+s+2 else n.mn.toNat*s+(n.mx.toNat-n.mn.toNat)*(s+1))
 else s
mutual
def Tr.sz:Tr→Nat
 | .mk n ks=>bk n ks.sz ks.len
def bj.sz:bj→Nat
 | .nil=>0
 | .cons t ts=>t.sz+ts.sz
end
def bX (op x y:Int) (rs:List Rg):aC:=⟨op,x,y,.sl ((rs.map au).map (j7 2)),rs⟩
def kS (s o:Nat) (lz:Bool):aC:=if lz=true then bX 2 (o:Nat) ((s+1:Nat):Int) [] else bX 2 ((s+1:Nat):Int) (o:Nat) []
def jk (e:Nat):aC:=bX 3 (e:Nat) 0 []
def eC (c:Nat→List aC) (z:Nat):Nat→Nat→List aC
 |0,_=>[]
 |k+1,b=>c b++eC c z k (b+z)
def eD (sp:Nat→aC) (c:Nat→List aC) (z:Nat):Nat→Nat→List aC
 |0,_=>[]
 |k+1,b=>sp b::(c (b+1)++eD sp c z k (b+1+z))
def vZ (z:Nat):Nat→Nat→List Nat
 |0,_=>[]
 |k+1,b=>b::vZ z k (b+1+z)
def lL (n:cg) (c:Nat→List aC) (z b:Nat):List aC:=
 if n.mx=-1 then eC c z n.mn.toNat b++(kS (b+n.mn.toNat*z) (b+n.mn.toNat*z+z+2) n.lz::(c (b+n.mn.toNat*z+1)++[jk (b+n.mn.toNat*z)]))
 else eC c z n.mn.toNat b++eD (fun s=>kS s (b+n.mn.toNat*z+(n.mx.toNat-n.mn.toNat)*(z+1)) n.lz) c z (n.mx.toNat-n.mn.toNat) (b+n.mn.toNat*z)
mutual
def aF:Tr→Nat→List aC
 | .mk n ks,b=>
  if n.op=2 then[bX 1 0 0 n.rs]
  else if n.op=7 then[bX 5 0 0 []]
  else if n.op=8 then[bX 6 0 0 []]
  else if n.op=3 then eU ks b
  else if n.op=4 then du (jk (b+bk n ks.sz ks.len)) ks b
  else if n.op=5 then lL n (eU ks) ks.sz b
  else if n.op=6 then bX 4 (2*n.cap) 0 []::(eU ks (b+1)++[bX 4 (2*n.cap+1) 0 []])
  else[]
def eU:bj→Nat→List aC
 | .nil,_=>[]
 | .cons t ts,b=>aF t b++eU ts (b+t.sz)
def du (jp:aC):bj→Nat→List aC
 | .nil,_=>[]
 | .cons t ts,b=>if ts.len=0 then aF t b else kS b (b+1+t.sz+1) false::(aF t (b+1)++jp::du jp ts (b+t.sz+2))
end
def rK:bj→Nat→List Nat
 | .nil,_=>[]
 | .cons t ts,b=>if ts.len=0 then[] else(b+1+t.sz)::rK ts (b+t.sz+2)
theorem g_ {c:Nat→List aC} {z:Nat} (hc:∀b,(c b).length=z):∀k b,(eC c z k b).length=k*z
 |0,b=>by simp[eC]
 |k+1,b=>by rw[eC,List.length_append,hc,g_ hc k,Nat.add_mul];omega
theorem mf {sp:Nat→aC} {c:Nat→List aC} {z:Nat} (hc:∀b,(c b).length=z):∀k b,(eD sp c z k b).length=k*(z+1)
 |0,b=>by simp[eD]
 |k+1,b=>by rw[eD,List.length_cons,List.length_append,hc,mf hc k,Nat.add_mul];omega
theorem CP {n:cg} {c:Nat→List aC} {z b:Nat} (hc:∀b,(c b).length=z) (h:n.op=5):(lL n c z b).length=bk n z 1:=by
 unfold lL bk;rw[if_neg (show¬(n.op=2∨n.op=7∨n.op=8) by omega),if_neg (show¬n.op=4 by omega),if_neg (show¬n.op=6 by omega),if_pos h]
 split
 ·rw[List.length_append,g_ hc,List.length_cons,List.length_append,hc];simp only[List.length_cons,List.length_nil];omega
 ·rw[List.length_append,g_ hc,mf hc]
theorem bj.Ac {ks:bj} (h:ks.len=1):∃t,ks=.cons t .nil:=by
 cases ks with
 |nil=>simp[bj.len] at h
 |cons t ts=>cases ts with
  |nil=>exact⟨t,rfl⟩
  |cons u us=>simp[bj.len] at h
theorem bj.len_nil {ks:bj} (h:ks.len=0):ks=.nil:=by
 cases ks with
 |nil=>rfl
 |cons t ts=>simp[bj.len] at h
mutual
theorem bp:∀(t:Tr) (b:Nat),t.ok→(aF t b).length=t.sz
 | .mk n ks,b,h=>by
  simp only[Tr.ok] at h;obtain⟨h1,h2⟩:=h;have hc:=fun b=>kK ks b h2;have ha:=fun jp b=>mS jp ks b h2;simp only[aF,Tr.sz];obtain⟨_,⟨h3,h4⟩|⟨h3,h4⟩|⟨h3,h4⟩|⟨h3,h4,h5⟩|⟨h3,h4,h5⟩⟩:=h1
  ·have hk:=bj.len_nil h4;subst hk
   by_cases q7:n.op=7
   ·simp[q7,bk]
   ·by_cases q8:n.op=8
    ·simp[q8,bk]
    ·have q1:n.op=1:=by omega
     simp[q1,bk,bj.sz]
  ·simp[h3,bk]
  ·rcases h3 with h3|h3
   ·simp[h3,bk,hc]
   ·simp[h3,bk,ha]
  ·have:=CP (n:=n) (b:=b) hc h3;simp only[h3] at this⊢;simp only[show¬((5:Int)=2) by decide,show¬((5:Int)=7) by decide,show¬((5:Int)=8) by decide,show¬((5:Int)=3) by decide,show¬((5:Int)=4) by decide,if_false,if_true];rw[this,h4]
  ·simp[h3,bk,hc]
theorem kK:∀(ts:bj) (b:Nat),ts.ok→(eU ts b).length=ts.sz
 | .nil,b,_=>by simp[eU,bj.sz]
 | .cons t ts,b,h=>by
  simp only[bj.ok] at h;simp only[eU,bj.sz,List.length_append];rw[bp t b h.1,kK ts _ h.2]
theorem mS (jp:aC):∀(ts:bj) (b:Nat),ts.ok→(du jp ts b).length=ts.sz+2*(ts.len-1)
 | .nil,b,_=>by simp[du,bj.sz,bj.len]
 | .cons t ts,b,h=>by
  simp only[bj.ok] at h;have h1:=mS jp ts (b+t.sz+2) h.2;simp only[du,bj.sz,bj.len]
  by_cases q:ts.len=0
  ·rw[if_pos q,bp t b h.1,q];have:=bj.len_nil q;subst this;simp[bj.sz]
  ·rw[if_neg q,List.length_cons,List.length_append,List.length_cons,bp t _ h.1,h1];omega
end
def gZ (f:Nat→aC) (c:List aC) (l:List Nat):List aC:=l.foldl (fun c j=>c.set j (f j)) c
theorem o5 {α:Type} (pre post:List α) (x y:α):(pre++x::post).set pre.length y=pre++y::post:=by
 rw[List.set_append_right _ _ (Nat.le_refl _),Nat.sub_self];rfl
theorem pe {α:Type} (pre post:List α) (x:α):(pre++x::post)[pre.length]?=some x:=by
 rw[List.getElem?_append_right (Nat.le_refl _),Nat.sub_self];rfl
theorem nA {sp:Nat→aC} {c:Nat→List aC} {z:Nat} (hc:∀b,(c b).length=z) {i0:aC}:∀(k b:Nat) (pre post:List aC),pre.length=b→gZ sp (pre++eD (fun _=>i0) c z k b++post) (vZ z k b)=pre++eD sp c z k b++post∧∀j∈vZ z k b,(pre++eD (fun _=>i0) c z k b++post)[j]?=some i0
 |0,b,pre,post,_=>⟨rfl,fun j hj=>by cases hj⟩
 |k+1,b,pre,post,h=>by
  have ih:=nA (sp:=sp) hc (i0:=i0) k (b+1+z) (pre++i0::c (b+1)) post (by rw[List.length_append,List.length_cons,hc];omega);have Af:=nA (sp:=sp) hc (i0:=i0) k (b+1+z) (pre++sp b::c (b+1)) post (by rw[List.length_append,List.length_cons,hc];omega);simp only[eD,vZ];have e:pre++i0::(c (b+1)++eD (fun _=>i0) c z k (b+1+z))++post=pre++i0::(c (b+1)++eD (fun _=>i0) c z k (b+1+z)++post):=by simp
  have e2:pre++i0::c (b+1)++eD (fun _=>i0) c z k (b+1+z)++post=pre++i0::(c (b+1)++eD (fun _=>i0) c z k (b+1+z)++post):=by simp
  refine⟨?_,fun j hj=>?_⟩
  ·unfold gZ at Af⊢;rw[List.foldl_cons,e]
   have hs:(pre++i0::(c (b+1)++eD (fun _=>i0) c z k (b+1+z)++post)).set b (sp b)=pre++sp b::c (b+1)++eD (fun _=>i0) c z k (b+1+z)++post:=by
    rw[←h,o5];simp
   rw[hs,Af.1];simp
  ·rw[e]
   rcases List.mem_cons.1 hj with rfl|hj
   ·rw[←h];exact pe _ _ _
   ·rw[←e2];exact ih.2 j hj
theorem n9 {jp i0:aC}:∀(ts:bj) (b:Nat) (pre post:List aC),ts.ok→pre.length=b→gZ (fun _=>jp) (pre++du i0 ts b++post) (rK ts b)=pre++du jp ts b++post∧∀j∈rK ts b,(pre++du i0 ts b++post)[j]?=some i0
 | .nil,b,pre,post,_,_=>⟨by simp[du,rK,gZ],fun j hj=>by simp[rK] at hj⟩
 | .cons t ts,b,pre,post,aY,h=>by
  simp only[bj.ok] at aY
  by_cases q:ts.len=0
  ·simp only[du,rK,if_pos q];exact⟨rfl,fun j hj=>by cases hj⟩
  ·simp only[du,rK,if_neg q];generalize kS b (b+1+t.sz+1) false=sp;have hcl:=bp t (b+1) aY.1;have ih:=n9 (jp:=jp) (i0:=i0) ts (b+t.sz+2) (pre++sp::(aF t (b+1)++[i0])) post aY.2 (by simp only[List.length_append,List.length_cons,List.length_nil,hcl];omega);have Af:=n9 (jp:=jp) (i0:=i0) ts (b+t.sz+2) (pre++sp::(aF t (b+1)++[jp])) post aY.2 (by simp only[List.length_append,List.length_cons,List.length_nil,hcl];omega);generalize du i0 ts (b+t.sz+2)=A at*;have e:pre++sp::(aF t (b+1)++i0::A)++post=(pre++sp::aF t (b+1))++i0::(A++post):=by simp
   have hl:(pre++sp::aF t (b+1)).length=b+1+t.sz:=by simp only[List.length_append,List.length_cons,hcl];omega
   refine⟨?_,fun j hj=>?_⟩
   ·unfold gZ at Af⊢;rw[List.foldl_cons,e,←hl,o5];have:=Af.1;simp only[List.append_assoc,List.cons_append,List.nil_append] at this⊢;exact this
   ·rw[e]
    rcases List.mem_cons.1 hj with rfl|hj
    ·rw[←hl];exact pe _ _ _
    ·have:=ih.2 j hj;simp only[List.append_assoc,List.cons_append,List.nil_append] at this⊢;exact this
def fw {α:Type} (L:List α) (at_:Nat) (M:List α):Prop:=∃post,L.drop at_=M++post
theorem fw.head {α:Type} {L M:List α} {a:α} {at_:Nat} (h:fw L at_ (a::M)):L[at_]?=some a:=by
 obtain⟨post,h⟩:=h;have:=congrArg (·[0]?) h
 simpa using this
theorem fw.tail {α:Type} {L M:List α} {a:α} {at_:Nat} (h:fw L at_ (a::M)):fw L (at_+1) M:=by
 obtain⟨post,h⟩:=h;refine⟨post,?_⟩;rw[←List.drop_drop,h];rfl
theorem fw.left {α:Type} {L M M':List α} {at_:Nat} (h:fw L at_ (M++M')):fw L at_ M:=by
 obtain⟨post,h⟩:=h;exact⟨M'++post,by rw[h,List.append_assoc]⟩
theorem fw.right {α:Type} {L M M':List α} {at_:Nat} (h:fw L at_ (M++M')):fw L (at_+M.length) M':=by
 obtain⟨post,h⟩:=h;refine⟨post,?_⟩;rw[←List.drop_drop,h,List.append_assoc,List.drop_left]
theorem fw.le {α:Type} {L M:List α} {at_:Nat} (h:fw L at_ M) (hM:M≠[]):at_+M.length≤L.length:=by
 obtain⟨post,h⟩:=h;have:=congrArg List.length h;simp only[List.length_drop,List.length_append] at this
 have:0<M.length:=by cases M with|nil=>exact absurd rfl hM|cons _ _=>simp
 omega
theorem fw.all {α:Type} (L:List α):fw L 0 L:=⟨[],by simp⟩
mutual
def Tr.zs:Tr→List Int
 | .mk n ks=>((min (bk n ks.sz ks.len) 401:Nat):Int)::ks.zs
def bj.zs:bj→List Int
 | .nil=>[]
 | .cons t ts=>t.zs++ts.zs
end
mutual
def Tr.es:Tr→Nat→List Int
 | .mk n ks,at_=>((at_+1+ks.flat.length:Nat):Int)::ks.es (at_+1)
def bj.es:bj→Nat→List Int
 | .nil,_=>[]
 | .cons t ts,at_=>t.es at_++ts.es (at_+t.flat.length)
end
mutual
theorem Tr.iO:∀t:Tr,t.zs.length=t.flat.length
 | .mk n ks=>by simp[Tr.zs,Tr.flat,bj.iO ks]
theorem bj.iO:∀ts:bj,ts.zs.length=ts.flat.length
 | .nil=>rfl
 | .cons t ts=>by simp[bj.zs,bj.flat,Tr.iO t,bj.iO ts]
end
mutual
theorem Tr.iV:∀(t:Tr) (a:Nat),(t.es a).length=t.flat.length
 | .mk n ks,a=>by simp[Tr.es,Tr.flat,bj.iV ks]
theorem bj.iV:∀(ts:bj) (a:Nat),(ts.es a).length=ts.flat.length
 | .nil,_=>rfl
 | .cons t ts,a=>by simp[bj.es,bj.flat,Tr.iV t,bj.iV ts]
end
theorem Tr.ie (t:Tr):0<t.flat.length:=by cases t;simp[Tr.flat]
theorem bj.ku:∀ts:bj,ts.len≤ts.flat.length
 | .nil=>Nat.le_refl _
 | .cons t ts=>by
  have h1:=bj.ku ts;have h2:=t.ie;simp only[bj.len,bj.flat,List.length_append];omega
end Go.Proofs.Ytnleclohocdkaaa
namespace Go.V
variable{N:Nat} {S st:St} {H:List bm}
theorem cF.at_ {α β:Type} {R:α→β→Prop}:∀{l:List α} {m:List β} {i:Nat} {b:β},cF R l m→m[i]?=some b→∃a,l[i]?=some a∧R a b
 |_,_,_,_,.nil,h=>by simp at h
 |_,_,0,_,.cons a t,h=>by simp only[List.getElem?_cons_zero,Option.some.injEq] at h;subst h;exact⟨_,rfl,a⟩
 |_,_,i+1,_,.cons a t,h=>by simp only[List.getElem?_cons_succ] at h⊢;exact t.at_ h
theorem cF.set {α β:Type} {R:α→β→Prop} {a:α} {b:β} (r:R a b):∀{l:List α} {m:List β} (i:Nat),cF R l m→cF R (l.set i a) (m.set i b)
 |_,_,_,.nil=>.nil
 |_,_,0,.cons _ t=>.cons r t
 |_,_,i+1,.cons h t=>.cons h (t.set r i)
theorem cF.setMany {R:D→D→Prop}:∀{xs ys:List D} {c d:List D} (o:Nat),cF R xs ys→cF R c d→cF R (setMany c o xs) (setMany d o ys)
 |_,_,_,_,_,.nil,h=>h
 |_,_,_,_,o,.cons r t,h=>by simp only[Go.V.setMany];exact t.setMany (o+1) (h.set r o)
theorem cF.same {R:D→D→Prop}:∀{l:List D},(∀d∈l,R d d)→cF R l l
 |[],_=>.nil
 |d::l,h=>.cons (h d (List.mem_cons_self ..)) (cF.same fun x hx=>h x (List.mem_cons_of_mem _ hx))
theorem Has.Lj {j:Nat} {x:D} {s:Nat} {ks:Nat→Prop} {vs:List (List D)} (hH:Has N S st H) (hj:H[j]?=some (.deep ks x s vs)):∃es,Rows st s x es∧es.length=vs.length:=by
 obtain⟨⟨es,h1,h2⟩,_⟩:=(hH.ok j _ hj).1;exact⟨es,h1.rows,h2.len⟩
theorem Has.Pj {j k aA off len s:Nat} {ks:Nat→Prop} {vs:List (List D)} {i o:Nat} {v cs:List D} (h:Has N S st H) (hj:H[j]?=some (.deep ks (.win k aA off len s) s vs)) (hi:vs[i]?=some v) (hl:o+cs.length≤s) (hp:∀d∈cs,cv d=true) (hw:S.flr≤N∨refs cs=0):
  ∃af,st.wr k aA (off+i*s+o) cs=some af∧Has N S af (H.set j (.deep ks (.win k aA off len s) s (vs.set i (setMany v o cs)))):=by
 obtain⟨⟨es,he1,yN⟩,he3⟩:=(h.ok j _ hj).1;have hK:=(h.ok j _ hj).2;obtain⟨e,TA,aG⟩:=yN.at_ hi
 have Cp:Has N S st [.aI (.win k aA off len s) s es]:=by
  refine⟨h.ex,h.hN,h.gb,fun i e hi=>?_,fun i i' a b hii ha hb k wT jw=>?_⟩
  ·cases i with
   |zero=>simp only[List.getElem?_cons_zero,Option.some.injEq] at hi;subst hi;exact⟨he1,fun k hk=>hK k (.inl hk)⟩
   |succ i=>simp at hi
  ·cases i with
   |zero=>cases i' with
    |zero=>exact hii rfl
    |succ i'=>simp at hb
   |succ i=>simp at ha
 obtain⟨af,q1,q2⟩:=Cp.zD (j:=0) aS TA hl hw;refine⟨af,q1,?_⟩;have hown:=q2.own (j:=0) aS
 have N':(∀n,n≠k→af.bs[n]?=st.bs[n]?)∧st.bs.length=af.bs.length∧af.flr=st.flr∧af.ro=st.ro:=by
  unfold St.wr at q1
  split at q1
  ·split at q1
   ·cases q1;exact⟨fun n hn=>by simp only;rw[List.getElem?_set_ne (fun e=>hn e.symm)],by simp,rfl,rfl⟩
   ·cases q1
  ·cases q1
 obtain⟨c1,c2,c3,c4⟩:=N';have hkk:=hK k (.inl (by simp only[D.ref]));have hne:∀n,ks n→n≠k:=fun n hn e=>he3 k (by simp only[D.ref]) (e▸hn);have wS:∀n,ks n→af.bs[n]?=st.bs[n]?:=fun n hn=>c1 n (hne n hn);refine h.sy hj (fun n hn hnot=>c1 n fun e=>hnot (.inl (by simp only[D.ref];omega))) (Nat.le_of_eq c2) c3 c4 ⟨⟨_,hown,?_⟩,he3⟩ (fun n hn=>.inl hn) fun n hn=>?_
 ·refine cF.set ?_ i (yN.mono fun a b=>cF.mono fun c d=>ft.move wS);exact(cF.same fun d hd=>.plain d (hp d hd)).setMany o (aG.mono fun c d=>ft.move wS)
 ·rw[←c2];exact(hK n hn).2
variable{P:Pv} {ops:Array Oper} {rest:List Oper} {fr aD:Fr} {Q:Fr→St→Prop} {ty:TypeId} {pp:String} {a:Array Edge} {g:Option (Nat×Bool)} {dst:Nat}
theorem ab.BW {t e:TypeId} {xo:Operand} {x:D} {s j:Nat} {ks:Nat→Prop} {vs:List (List D)} (hH:Has N S st H) (hg:aB ops fr ⟨some dst,.call ⟨.builtin .len,#[xo],#[t]⟩,ty,pp,a,g⟩=some true) (hx:fr.ev xo=x) (hj:H[j]?=some (.deep ks x s vs)) (ht:P.cC t=some (.slice e)) (hp:fr.put dst (.int .i64 (vs.length:Nat))=aD)
  (h:ab P ops rest aD st Q):ab P ops (⟨some dst,.call ⟨.builtin .len,#[xo],#[t]⟩,ty,pp,a,g⟩::rest) fr st Q:=by
 obtain⟨es,h1,h2⟩:=hH.Lj hj;exact ab.tV hg hx h1 ht (by rw[h2];exact hp) h
theorem ab.Eg {t e:TypeId} {xo io:Operand} {x:D} {s i j:Nat} {kk:IntKind} {ks:Nat→Prop} {vs:List (List D)} {aD:D→Fr} (hH:Has N S st H) (hg:aB ops fr ⟨some dst,.indexAddr t xo io,ty,pp,a,g⟩=some true) (hx:fr.ev xo=x) (hi:fr.ev io=.int kk (i:Nat)) (hj:H[j]?=some (.deep ks x s vs)) (ht:P.cC t=some (.slice e)) (hs:bV P e=some s) (hr:i<vs.length) (hp:∀p,fr.put dst p=aD p)
  (h:∀p,oY x s i 0 p→ab P ops rest (aD p) st Q):ab P ops (⟨some dst,.indexAddr t xo io,ty,pp,a,g⟩::rest) fr st Q:=by
 obtain⟨⟨es,he1,yN⟩,he3⟩:=(hH.ok j _ hj).1;have hlen:=yN.len
 cases he1 with
 |nul=>simp at hlen;omega
 |win k aA off es c hm hl hc he=>
  refine ab.go hg rfl (d:=.ptr k aA (off+i*s)) (st1:=st) ?_ (hp _) (h _ ⟨k,aA,off,_,rfl,rfl⟩);simp only[dF,hx,hi,bM,ht,hs,Option.bind_some,St.mem_of hm,Option.isSome_some];rw[if_pos ⟨trivial,by omega,by omega,trivial⟩];rfl
theorem ab.rC {t:TypeId} {ao vo:Operand} {x y v:D} {s i o j:Nat} {ks:Nat→Prop} {vs:List (List D)} {r cs:List D} (hH:Has N S st H) (hg:aB ops fr ⟨none,.store t ao vo,ty,pp,a,g⟩=some true) (ha:fr.ev ao=y) (hv:fr.ev vo=v) (hR:oY x s i o y) (i_:v.cells?=some cs) (hs:bV P t=some cs.length) (hj:H[j]?=some (.deep ks x s vs)) (hr:vs[i]?=some r) (hl:o+cs.length≤s) (hq:∀d∈cs,cv d=true) (hw:S.flr≤N∨refs cs=0)
  (h:∀af,Has N S af (H.set j (.deep ks x s (vs.set i (setMany r o cs))))→ab P ops rest fr af Q):ab P ops (⟨none,.store t ao vo,ty,pp,a,g⟩::rest) fr st Q:=by
 obtain⟨k,aA,off,len,rfl,rfl⟩:=hR;obtain⟨af,h1,h2⟩:=hH.Pj hj hr hl hq hw;refine ab.N hg rfl (d:=.tup []) (st1:=af) ?_ (h _ h2);simp only[dF,ha,hv,j_,i_,hs,if_pos trivial,h1];rfl
theorem ah.Ie {dy:Dy} {i:Nat} {l:List Oper} {d n loc tmp st} {Q:Out→Fr→St→Prop} (ws:List Nat) (F:(Nat→D)→Prop)
  (h1:ab P l.toArray l ⟨n,loc,[]⟩ st fun aD af=>∃f tmp,aD=⟨n,aX loc ws f,tmp⟩∧af=st∧F f) (h2:∀f tmp,F f→Q .next ⟨n,aX loc ws f,tmp⟩ st) (h0:f_ i dy=[]:=by rfl):ah P dy (.region i l.toArray d) ⟨n,loc,tmp⟩ st Q:=by
 refine ah.fF ?_ h0;unfold ab at h1⊢;obtain⟨aD,af,h3,f,GW,rfl,rfl,h4⟩:=h1;exact⟨_,_,h3,h2 _ _ h4⟩
theorem ky {n:Nat} {L loc:List D} {tP:List (Nat×D)} {ws:List Nat} {F:(Nat→D)→Prop} {st:St} (h:L=aX loc ws (fun k=>nth .bh L k)) (h2:F (fun k=>nth .bh L k)):∃(f:Nat→D) (tmp:List (Nat×D)),(⟨n,L,tP⟩:Fr)=⟨n,aX loc ws f,tmp⟩∧st=st∧F f:=⟨_,tP,by rw[←h],rfl,h2⟩
theorem ab.Jk {t1 t2:TypeId} {xo yo:Operand} {x y z:Int} (hg:aB ops fr ⟨some dst,.call ⟨.builtin .min,#[xo,yo],#[t1,t2]⟩,ty,pp,a,g⟩=some true) (hx:fr.ev xo=.int .i64 x) (hy:fr.ev yo=.int .i64 y) (hz:min x y=z) (hp:fr.put dst (.int .i64 z)=aD) (h:ab P ops rest aD st Q):ab P ops (⟨some dst,.call ⟨.builtin .min,#[xo,yo],#[t1,t2]⟩,ty,pp,a,g⟩::rest) fr st Q:=
 ab.FB (t1:=t1) (t2:=t2) hg hx hy (by rw[hz];exact hp) h
theorem Has.wF {N:Nat} {S s0 S2 st2:St} {H:List bm} {x:D} {s:Nat} {es Pc:List (List D)} (h:Has N S s0 (.aI x s es::H)) (hS:S2.bs=s0.bs) (h2:Has N S2 st2 (.aI x s Pc::H)):Has N S ⟨st2.bs.take s0.bs.length,s0.flr,s0.ro⟩ (.aI x s Pc::H):=by
 refine h.uE hS h2 fun i e hi=>?_
 cases i with
 |zero=>simp only[List.getElem?_cons_zero,Option.some.injEq] at hi;subst hi;exact⟨_,rfl,fun k hk=>hk⟩
 |succ i=>exact⟨e,hi,fun k hk=>hk⟩
theorem Has.wG {N:Nat} {S s0 S2 st2:St} {H:List bm} {k:Nat} {b b':iC} {ks:Nat→Prop} {x:D} {s:Nat} {vs IZ:List (List D)} (h:Has N S s0 (.box k b::.deep ks x s vs::H)) (hS:S2.bs=s0.bs) (h2:Has N S2 st2 (.box k b'::.deep ks x s IZ::H)):Has N S ⟨st2.bs.take s0.bs.length,s0.flr,s0.ro⟩ (.box k b'::.deep ks x s IZ::H):=by
 refine h.uE hS h2 fun i e hi=>?_
 match i with
 |0=>simp only[List.getElem?_cons_zero,Option.some.injEq] at hi;subst hi;exact⟨_,rfl,fun k hk=>hk⟩
 |1=>simp only[List.getElem?_cons_succ,List.getElem?_cons_zero,Option.some.injEq] at hi;subst hi;exact⟨_,rfl,fun k hk=>hk⟩
 |i+2=>exact⟨e,hi,fun k hk=>hk⟩
theorem Has.Fh {N:Nat} {S st:St} {H:List bm} {a b c d e:bm} (h:Has N S st (a::b::c::d::e::H)):Has N S st (b::c::d::e::a::H):=by
 refine h.sub (fun i=>if i=4 then 0 else if i<4 then i+1 else i) (fun i j hij=>?_) (fun i x hi=>?_)
 ·(try simp only at hij)
  split at hij<;>split at hij<;>(try split at hij)<;>(try split at hij)<;>omega
 ·match i,hi with
  |0,hi=>exact hi
  |1,hi=>exact hi
  |2,hi=>exact hi
  |3,hi=>exact hi
  |4,hi=>exact hi
  |i+5,hi=>
   have h1:¬(i+5=4):=by omega
   have h2:¬(i+5<4):=by omega
   simp only[if_neg h1,if_neg h2];exact hi
theorem Has.kW {fr:Fr} {a k aA off j u u2:Nat} {t:TypeId} {ar:Bool} {c:List D} {d e e2:D} (hH:Has N S st H) (ha:fr.get a=.ptr k aA off) (hj:H[j]?=some (.box k (.mem aA ar c))) (hd:di P t (c.drop off)=some d) (he:fr.get u=e) (yN:fr.get u2=e2):jE P fr st [.cell a t,.tmp u,.tmp u2]=some [d,e,e2]:=by
 simp only[jE,fS,ha,St.mem_of (hH.at hj),Option.bind_some,hd,Option.map_some,he,yN]
theorem ah.lN {dy:Dy} {c1 c2:Code} {fr:Fr} {st:St} {Q:Out→Fr→St→Prop} (M:Fr→St→Prop) (h1:ah P dy c1 fr st (b6 P dy c2 (EI M Q))) (h2:∀aD af,M aD af→Q .next aD af):ah P dy c1 fr st (b6 P dy c2 Q):=
 h1.mono fun o aD af h=>by
  cases o with
  |next=>exact ah.merge M h h2
  |exit i=>exact h
  |ret=>exact h
end Go.V
namespace Go.Proofs.Ytnleclohocdkaaa
open Go.V Go
theorem BQ {st:St} {L n:Nat} {kn:Bool} {k aA off len s:Nat}:bo st L kn n (.win k aA off len s)=bo st L false n (.win k aA off len s):=by
 cases n<;>rfl
theorem BO (l:List Rg):(l.map au).map (·.map oU)=l.map au:=by
 rw[List.map_map];rfl
theorem xQ (l:List Rg):∀e∈l.map au,∀d∈e,oh d=true:=by
 intro e he d hd;obtain⟨x,_,rfl⟩:=List.mem_map.1 he;simp only[au,List.mem_cons,List.not_mem_nil,or_false] at hd
 rcases hd with rfl|rfl<;>rfl
theorem oF {N L j:Nat} {S st:St} {H:List bm} {x:D} {l:List Rg} (hH:Has N S st H) (hj:H[j]?=some (.aI x 2 (l.map au))) (hx:∀k,x.ref=k+1→L≤k) {n:Nat} (hn:3≤n):bo st L false n x=some (bf l):=by
 rw[hH.Au hj hx (xQ l) hn,BO,hD]
theorem gz {gs:List (Nat×Nat)} {s:dP} {r:Int}:(bP gs s r).o=s.o∧(bP gs s r).g=s.g∧(bP gs s r).e=s.e∧s.i≤(bP gs s r).i∧(s.i≤gs.length→(bP gs s r).i≤gs.length):=by
 unfold bP
 split
 ·rename_i h;have:=qM h;exact⟨rfl,rfl,rfl,by show s.i≤s.i+1;omega,fun _=>by show s.i+1≤_;omega⟩
 ·exact⟨rfl,rfl,rfl,Nat.le_refl _,fun h=>h⟩
end Go.Proofs.Ytnleclohocdkaaa
namespace Go.Proofs.Ytnleclohocdkaaa
open Go.V Go
def tJ (n:cg):Prop:=n.rd=bf n.rs∧n.rs.length≤1048576∧n.kids≤1048576
def iR (op mn mx:Int) (lz:Bool) (cap kids:Int) (a:List Rg):cg:=⟨op,bf a,a,mn,mx,lz,cap,kids⟩
def uj (l:List cg):D:=.sl ((l.map aV).map (j7 7))
theorem Fw (l:List cg):∀e∈l.map aV,e.length=7:=by
 intro e he;obtain⟨x,_,rfl⟩:=List.mem_map.1 he;rfl
theorem nC {l:List cg} (h:∀n∈l,tJ n):∀e∈l.map aV,∀d∈e,cv d=true:=by
 intro e he d hd;obtain⟨n,hn,rfl⟩:=List.mem_map.1 he;have hr:=(h n hn).1;simp only[aV,hr,List.mem_cons,List.not_mem_nil,or_false] at hd
 rcases hd with rfl|rfl|rfl|rfl|rfl|rfl|rfl<;>rfl
theorem sM {l:List cg} (h:∀n∈l,tJ n):gU (uj l) 7 (l.map aV):=gU.frozen (Fw l) (nC h)
theorem Jh {l:List cg} (h:∀n∈l,tJ n) (hl:l.length≤1048576):(⟨uj l,l⟩:Nl).ok:=by
 refine⟨sM h,fun n hn=>?_,hl⟩;obtain⟨h1,h2,h3⟩:=h n hn;exact⟨by rw[h1];exact gQ _,h2,by omega⟩
theorem ui {l:List cg} (h:∀n∈l,tJ n):(l.map aV).map (·.map oU)=l.map aV:=by
 rw[List.map_map];refine List.map_congr_left fun n hn=>?_;have hr:=(h n hn).1;show(aV n).map oU=aV n;unfold aV;rw[hr];rfl
theorem pW {l:List cg} (h:∀n∈l,tJ n):∀e∈l.map aV,∀d∈e,oh d=true:=by
 intro e he d hd;have:=nC h e he d hd
 cases d<;>first|rfl|exact this
theorem iJ {N L j:Nat} {S st:St} {H:List bm} {x:D} {es:List (List D)} {l:List cg} (hH:Has N S st H) (hj:H[j]?=some (.aI x 7 es)) (he:es.map (·.map oU)=l.map aV) (ht:∀e∈es,∀d∈e,oh d=true) (hx:∀k,x.ref=k+1→L≤k) {n:Nat} (hn:3≤n):bo st L false n x=some (uj l):=by
 rw[hH.Au hj hx ht hn,he];rfl
theorem iK {N L j:Nat} {S st:St} {H:List bm} {x w:D} {op mn mx cap kids:Int} {lz:Bool} {a:List Rg} (hH:Has N S st H) (hj:H[j]?=some (.aI x 7 [[.int .i64 op,w,.int .i64 mn,.int .i64 mx,.bool lz,.int .i64 cap,.int .i64 kids]])) (hw:w=bf a∨w=.nul∧a=[]) (hx:∀k,x.ref=k+1→L≤k):bo st L false 16 x=some (uj [iR op mn mx lz cap kids a]):=by
 refine iJ hH hj ?_ (fun e he d hd=>?_) hx (by decide)
 ·rcases hw with rfl|⟨rfl,rfl⟩<;>rfl
 ·simp only[List.mem_cons,List.not_mem_nil,or_false] at he;subst he;simp only[List.mem_cons,List.not_mem_nil,or_false] at hd
  rcases hw with rfl|⟨rfl,rfl⟩<;>rcases hd with rfl|rfl|rfl|rfl|rfl|rfl|rfl<;>rfl
theorem Dl {op mn mx cap kids:Int} {lz:Bool} {a:List Rg} (h:a.length≤1048576) (hk:kids≤1048576):∀n∈[iR op mn mx lz cap kids a],tJ n:=by
 intro n hn;simp only[List.mem_cons,List.not_mem_nil,or_false] at hn;subst hn;exact⟨rfl,h,hk⟩
end Go.Proofs.Ytnleclohocdkaaa
namespace Go.Proofs.Ytnleclohocdkaaa
open Go.V Go
def tK (gs:List (Nat×Nat)) (s s':dP):Prop:=s'.o=s.o∧s'.g=s.g∧s.i<s'.i∧s'.i≤gs.length
end Go.Proofs.Ytnleclohocdkaaa
namespace Go.Proofs.Ytnleclohocdkaaa
open Go.V Go
theorem pL:∀{l:List D},(∀d∈l,cv d=true)→refs l=0
 |[],_=>rfl
 |d::l,h=>by
  have h1:=pL (l:=l) fun d hd=>h d (List.mem_cons_of_mem _ hd);have h2:=h d (List.mem_cons_self ..)
  have h3:d.ref=0:=by cases d<;>first|rfl|(simp[cv] at h2)
  simp only[refs,h1,h3,Nat.max_self]
theorem sL {l:List cg} (h:∀n∈l,tJ n):refs (l.map aV).flatten=0:=
 pL fun d hd=>by
  obtain⟨e,he,Ao⟩:=List.mem_flatten.1 hd;exact nC h e he d Ao
def dM (l:List cg):List D:=[uj l]
theorem vW {l:List (List cg)} {i:Nat} {q:List cg} (h:l[i]?=some q):(l.map dM)[i]?=some (dM q):=by rw[List.getElem?_map,h];rfl
def eW:List (List cg)→Nat
 |[]=>0
 |l::ls=>l.length+eW ls
theorem dv:∀a b:List (List cg),eW (a++b)=eW a+eW b
 |[],b=>by simp[eW]
 |l::a,b=>by rw[List.cons_append,eW,eW,dv a b];omega
end Go.Proofs.Ytnleclohocdkaaa
namespace Go.Proofs.Ytnleclohocdkaaa
open Go.V Go
theorem mT {N:Nat} {S st:St} {H:List bm} {a b c:bm} (h:Has N S st (a::b::c::H)):Has N S st (b::c::a::H):=by
 have h1:=h.front bZ;have h2:=h1.front cU;exact h2.front bZ
end Go.Proofs.Ytnleclohocdkaaa
namespace Go.Proofs.Ytnleclohocdkaaa
open Go.V Go
theorem o4 {gs:List (Nat×Nat)} {s:dP} {r:Int} (h:dB gs s.i r=false):bP gs s r=s:=by
 unfold bP;rw[if_neg (by rw[h];simp)]
theorem mb {gs:List (Nat×Nat)} {s:dP} {r:Int} (h:dB gs s.i r=true):(bP gs s r).i=s.i+1:=by
 unfold bP;rw[if_pos h]
end Go.Proofs.Ytnleclohocdkaaa
namespace Go.Proofs.Ytnleclohocdkaaa
open Go.V Go
end Go.Proofs.Ytnleclohocdkaaa
namespace Go.Proofs.Ytnleclohocdkaaa
open Go.V Go
theorem xB:∀(n:Nat) (b:List UInt8),b.length≤n→(cK b).length≤b.length∧∀g∈cK b,g.2≤b.length:=by
 intro n
 induction n with
 |zero=>
  intro b hb;have:b=[]:=List.length_eq_zero_iff.1 (by omega);subst this;rw[kL];exact⟨Nat.le_refl _,fun g hg=>by cases hg⟩
 |succ n ih=>
  intro b hb
  by_cases h:b=[]
  ·subst h;rw[kL];exact⟨Nat.le_refl _,fun g hg=>by cases hg⟩
  ·have hp:=jf b;have hl:=zX h;obtain⟨h1,h2⟩:=ih (b.drop (hU b).2) (by rw[List.length_drop];omega);rw[List.length_drop] at h1 h2;rw[n_ h];refine⟨by rw[List.length_cons];omega,fun g hg=>?_⟩
   rcases List.mem_cons.1 hg with rfl|hg
   ·exact hl
   ·have:=h2 g hg;omega
end Go.Proofs.Ytnleclohocdkaaa
namespace Go.Proofs.Ytnleclohocdkaaa
open Go.V Go
end Go.Proofs.Ytnleclohocdkaaa
namespace Go.Proofs.Ytnleclohocdkaaa
open Go.V Go
def ud (n:cg):Bool:=((n.op==2)||((n.rs.length:Nat):Int)==0) &&((n.op==5)||((n.mn==0) &&(n.mx==0) &&!n.lz)) &&((n.op==6)||(n.cap==0))
noncomputable def eX (n:cg) (g:Int):Int×Bool:=
 if ud n=false then(0,false)
 else if n.op=1∨n.op=7∨n.op=8 then(0,n.kids==0)
 else if n.op=2 then(0,(n.kids==0) &&eY n.rs)
 else if n.op=3∨n.op=4 then(n.kids,decide (n.kids≥2))
 else if n.op=5 then(1,(n.kids==1) &&decide (n.mn≥0) &&decide (n.mn≤30) &&((n.mx==-1)||(decide (n.mx≥n.mn) &&decide (n.mx≤30))))
 else if n.op=6 then(1,(n.kids==1) &&(n.cap==g+1) &&decide (n.cap≤4))
 else(0,false)
def jj (h:Nat→Nat→Option (Nat×Nat)):Nat→Nat→Nat→Option (Nat×Nat)
 |0,at_,g=>some (at_,g)
 |k+1,at_,g=>match h at_ g with
  |some r=>jj h k r.1 r.2
  |none=>none
noncomputable def hO (l:List cg):Nat→Nat→Nat→Option (Nat×Nat)
 |0,_,_=>none
 |f+1,at_,g=>match l[at_]? with
  |none=>none
  |some n=>if(eX n (g:Nat)).2=true then jj (hO l f) (eX n (g:Nat)).1.toNat (at_+1) (if n.op=6 then g+1 else g) else none
theorem vA {n:cg} {g:Nat} (h:(eX n (g:Nat)).2=true):wu n (eX n (g:Nat)).1.toNat∧0≤(eX n (g:Nat)).1∧(n.op=6→n.cap=g+1∧n.cap≤4):=by
 unfold eX at h⊢;unfold wu
 by_cases h0:ud n=false
 ·rw[if_pos h0] at h;cases h
 rw[if_neg h0] at h⊢
 by_cases h1:n.op=1∨n.op=7∨n.op=8
 ·rw[if_pos h1] at h⊢;simp only[beq_iff_eq] at h;exact⟨⟨h,.inl ⟨h1,rfl⟩⟩,Int.le_refl _,fun h6=>by omega⟩
 rw[if_neg h1] at h⊢
 by_cases h2:n.op=2
 ·rw[if_pos h2] at h⊢;simp only[Bool.and_eq_true,beq_iff_eq] at h;exact⟨⟨h.1,.inr (.inl ⟨h2,rfl⟩)⟩,Int.le_refl _,fun h6=>by omega⟩
 rw[if_neg h2] at h⊢
 by_cases h3:n.op=3∨n.op=4
 ·rw[if_pos h3] at h⊢;simp only[decide_eq_true_eq] at h;exact⟨⟨by simp only;omega,.inr (.inr (.inl ⟨h3,by simp only;omega⟩))⟩,by simp only;omega,fun h6=>by omega⟩
 rw[if_neg h3] at h⊢
 by_cases h5:n.op=5
 ·rw[if_pos h5] at h⊢;simp only[Bool.and_eq_true,Bool.or_eq_true,beq_iff_eq,decide_eq_true_eq] at h;exact⟨⟨by simp only;omega,.inr (.inr (.inr (.inl ⟨h5,by simp only;rfl,by omega,by omega,by omega⟩)))⟩,by simp only;omega,fun h6=>by omega⟩
 rw[if_neg h5] at h⊢
 by_cases h6:n.op=6
 ·rw[if_pos h6] at h⊢;simp only[Bool.and_eq_true,beq_iff_eq,decide_eq_true_eq] at h;exact⟨⟨by simp only;omega,.inr (.inr (.inr (.inr ⟨h6,by simp only;rfl,by omega,by omega⟩)))⟩,by simp only;omega,fun _=>⟨h.1.2,h.2⟩⟩
 rw[if_neg h6] at h;cases h
theorem fw.cons {α:Type} {L M:List α} {a:α} {at_:Nat} (h:L[at_]?=some a) (h2:fw L (at_+1) M):fw L at_ (a::M):=by
 obtain⟨post,h2⟩:=h2;refine⟨post,?_⟩;have h3:L[at_]'(aR h)=a:=Option.some.inj ((List.getElem?_eq_getElem _).symm.trans h);rw[List.drop_eq_getElem_cons (aR h),h2,h3];rfl
theorem fw.append {α:Type} {L M M':List α} {at_:Nat} (h:fw L at_ M) (h2:fw L (at_+M.length) M'):fw L at_ (M++M'):=by
 obtain⟨post,h⟩:=h;obtain⟨Jc,h2⟩:=h2;refine⟨Jc,?_⟩;rw[←List.drop_drop,h,List.drop_left] at h2;rw[h,h2,List.append_assoc]
theorem fw.none {α:Type} (L:List α) (at_:Nat):fw L at_ []:=⟨_,rfl⟩
theorem tb {l:List cg} {h:Nat→Nat→Option (Nat×Nat)} (ih:∀at_ g r,h at_ g=some r→∃t:Tr,t.ok∧fw l at_ t.flat∧r.1=at_+t.flat.length):∀k at_ g r,jj h k at_ g=some r→∃ts:bj,ts.len=k∧ts.ok∧fw l at_ ts.flat∧r.1=at_+ts.flat.length
 |0,at_,g,r,e=>by
  simp only[jj,Option.some.injEq] at e;subst e;exact⟨.nil,rfl,trivial,fw.none _ _,by simp[bj.flat]⟩
 |k+1,at_,g,r,e=>by
  unfold jj at e
  cases hq:h at_ g with
  |none=>rw[hq] at e;cases e
  |some q=>
   rw[hq] at e;obtain⟨t,t1,t2,t3⟩:=ih _ _ _ hq;obtain⟨ts,u1,u2,u3,u4⟩:=tb ih k _ _ _ e;rw[t3] at u3 u4;exact⟨.cons t ts,by simp[bj.len,u1],by simp only[bj.ok];exact⟨t1,u2⟩,by simp only[bj.flat];exact t2.append u3,by rw[u4];simp only[bj.flat,List.length_append];omega⟩
theorem we {l:List cg}:∀f at_ g r,hO l f at_ g=some r→∃t:Tr,t.ok∧fw l at_ t.flat∧r.1=at_+t.flat.length
 |0,_,_,_,e=>by simp[hO] at e
 |f+1,at_,g,r,e=>by
  unfold hO at e
  cases hn:l[at_]? with
  |none=>rw[hn] at e;cases e
  |some n=>
   rw[hn] at e;simp only at e
   split at e
   ·rename_i hs;obtain⟨ts,u1,u2,u3,u4⟩:=tb (we f) _ _ _ _ e;have:=(vA hs).1;rw[←u1] at this;exact⟨.mk n ts,by simp only[Tr.ok];exact⟨this,u2⟩,by simp only[Tr.flat];exact fw.cons hn u3,by rw[u4];simp only[Tr.flat,List.length_cons];omega⟩
   ·cases e
noncomputable def dq (l:List cg):Bool:=(decide (1≤l.length) &&decide (l.length≤480)) &&(match hO l 241 0 0 with|some r=>decide (r.1=l.length)|none=>false)
theorem pJ {l:List cg} (h:dq l=true):∃t:Tr,t.ok∧t.flat=l:=by
 unfold dq at h;simp only[Bool.and_eq_true] at h;obtain⟨_,h⟩:=h
 split at h
 ·rename_i r hr;obtain⟨t,h1,⟨post,h2⟩,h3⟩:=we _ _ _ _ hr;rw[decide_eq_true_eq] at h;refine⟨t,h1,?_⟩;rw[List.drop_zero] at h2;have h4:=congrArg List.length h2;rw[List.length_append] at h4;have h5:post=[]:=List.length_eq_zero_iff.1 (by omega);rw[h2,h5,List.append_nil]
 ·cases h
noncomputable def bD (l:List cg):Tr:=@dite _ (∃t:Tr,t.ok∧t.flat=l) (Classical.propDecidable _) (fun h=>Classical.choose h) (fun _=>.mk ⟨0,.nul,[],0,0,false,0,0⟩ .nil)
theorem l_ {l:List cg} (h:dq l=true):(bD l).ok∧(bD l).flat=l:=by
 unfold bD;rw[dif_pos (pJ h)];exact Classical.choose_spec (pJ h)
end Go.Proofs.Ytnleclohocdkaaa
namespace Go.Proofs.Ytnleclohocdkaaa
open Go.V Go
theorem Ge {n:cg} {k s:Nat}:min (bk n (min s 401) k) 401=min (bk n s k) 401:=by
 by_cases hs:s≤401
 ·rw[Nat.min_eq_left hs]
 ·have hx:min s 401=401:=by omega
  rw[hx];unfold bk
  split
  ·rfl
  ·split
   ·omega
   ·split
    ·omega
    ·split
     ·split
      ·omega
      ·by_cases h0:n.mn.toNat=0
       ·rw[h0]
        by_cases hd:n.mx.toNat-0=0
        ·rw[hd];simp
        ·have h1:=Nat.le_mul_of_pos_left (401+1) (show 0<n.mx.toNat-0 by omega);have h2:=Nat.le_mul_of_pos_left (s+1) (show 0<n.mx.toNat-0 by omega);omega
       ·have h1:=Nat.le_mul_of_pos_left 401 (show 0<n.mn.toNat by omega);have h2:=Nat.le_mul_of_pos_left s (show 0<n.mn.toNat by omega);omega
     ·omega
def bK (t:Tr) (b r:Nat):List aC:=bX 4 0 0 []::(aF t (b+1)++[bX 4 1 0 [],bX 7 (r:Nat) 0 []])
theorem gP {t:Tr} {b r:Nat} (h:t.ok):(bK t b r).length=t.sz+3:=by
 unfold bK;rw[List.length_cons,List.length_append,bp t _ h];rfl
structure tL where
 code:List aC
 av:List Int
 e:Int
 w:Int
noncomputable def dG:List (List cg)→Nat→List aC→List Int→tL
 |[],_,c,s=>⟨c,s,0,0⟩
 |l::ls,r,c,s=>if dq l=false then⟨[],[],1,(r:Nat)⟩ else if 400<c.length+min (bD l).sz 401+3 then⟨[],[],12,(r:Nat)⟩ else dG ls (r+1) (c++bK (bD l) c.length r) (s++[((c.length:Nat):Int)])
noncomputable def aw (rules:List (List cg)):tL:=if 8<rules.length then⟨[],[],13,8⟩ else dG rules 0 [] []
def mX (code:List aC) (av:List Int):Pg:=⟨.sl ((code.map aK).map (j7 4)),code,Dz av,av⟩
def jv (i:aC):Prop:=i.rd=.sl ((i.rs.map au).map (j7 2))∧i.rs.length≤1048576
theorem mh (op x y:Int):jv (bX op x y []):=⟨rfl,by simp[bX]⟩
theorem Jj (op x y:Int) {rs:List Rg} (h:rs.length≤1048576):jv (bX op x y rs):=⟨rfl,h⟩
theorem CG (s o:Nat) (lz:Bool):jv (kS s o lz):=by unfold kS;split<;>exact mh _ _ _
theorem Gs (e:Nat):jv (jk e):=mh _ _ _
theorem yA {code:List aC} (h:∀i∈code,jv i):∀e∈code.map aK,∀d∈e,cv d=true:=by
 intro e he d hd;obtain⟨q,hq,rfl⟩:=List.mem_map.1 he;have hr:=(h q hq).1;simp only[aK,hr,List.mem_cons,List.not_mem_nil,or_false] at hd
 rcases hd with rfl|rfl|rfl|rfl<;>rfl
theorem FJ (code:List aC):∀e∈code.map aK,e.length=4:=by
 intro e he;obtain⟨q,_,rfl⟩:=List.mem_map.1 he;rfl
theorem C4 {code:List aC} {av:List Int} (h:∀i∈code,jv i) (h1:code.length≤1048576) (h2:av.length≤1048576):(mX code av).ok:=by
 refine⟨gU.frozen (FJ code) (yA h),wH _,fun i hi=>?_,h1,h2⟩;obtain⟨h3,h4⟩:=h i hi;refine⟨?_,h4⟩;rw[h3];exact gU.frozen (kX _) (ec _)
theorem yc {c:Nat→List aC} {z:Nat} (hc:∀b,∀i∈c b,jv i):∀k b,∀i∈eC c z k b,jv i
 |0,b,i,hi=>by cases hi
 |k+1,b,i,hi=>by
  simp only[eC] at hi
  rcases List.mem_append.1 hi with hi|hi
  ·exact hc b i hi
  ·exact yc hc k _ i hi
theorem C_ {sp:Nat→aC} {c:Nat→List aC} {z:Nat} (hs:∀s,jv (sp s)) (hc:∀b,∀i∈c b,jv i):∀k b,∀i∈eD sp c z k b,jv i
 |0,b,i,hi=>by cases hi
 |k+1,b,i,hi=>by
  simp only[eD] at hi
  rcases List.mem_cons.1 hi with rfl|hi
  ·exact hs _
  ·rcases List.mem_append.1 hi with hi|hi
   ·exact hc _ i hi
   ·exact C_ hs hc k _ i hi
mutual
theorem pg:∀(t:Tr) (b:Nat),(∀n∈t.flat,n.rs.length≤1048576)→∀i∈aF t b,jv i
 | .mk n ks,b,h,i,hi=>by
  simp only[Tr.flat] at h;have hn:=h n (List.mem_cons_self ..);have hk:∀n∈ks.flat,n.rs.length≤1048576:=fun m hm=>h m (List.mem_cons_of_mem _ hm);have hc:=fun b=>Ep ks b hk;have ha:=fun jp (hj:jv jp) b=>Ez jp hj ks b hk;simp only[aF] at hi
  split at hi
  ·simp only[List.mem_cons,List.not_mem_nil,or_false] at hi;subst hi;exact Jj _ _ _ hn
  split at hi
  ·simp only[List.mem_cons,List.not_mem_nil,or_false] at hi;subst hi;exact mh _ _ _
  split at hi
  ·simp only[List.mem_cons,List.not_mem_nil,or_false] at hi;subst hi;exact mh _ _ _
  split at hi
  ·exact hc b i hi
  split at hi
  ·exact ha _ (Gs _) b i hi
  split at hi
  ·unfold lL at hi
   split at hi
   ·rcases List.mem_append.1 hi with hi|hi
    ·exact yc hc _ _ i hi
    ·rcases List.mem_cons.1 hi with rfl|hi
     ·exact CG _ _ _
     ·rcases List.mem_append.1 hi with hi|hi
      ·exact hc _ i hi
      ·simp only[List.mem_cons,List.not_mem_nil,or_false] at hi;subst hi;exact Gs _
   ·rcases List.mem_append.1 hi with hi|hi
    ·exact yc hc _ _ i hi
    ·exact C_ (fun s=>CG _ _ _) hc _ _ i hi
  split at hi
  ·rcases List.mem_cons.1 hi with rfl|hi
   ·exact mh _ _ _
   ·rcases List.mem_append.1 hi with hi|hi
    ·exact hc _ i hi
    ·simp only[List.mem_cons,List.not_mem_nil,or_false] at hi;subst hi;exact mh _ _ _
  ·cases hi
theorem Ep:∀(ts:bj) (b:Nat),(∀n∈ts.flat,n.rs.length≤1048576)→∀i∈eU ts b,jv i
 | .nil,b,_,i,hi=>by simp[eU] at hi
 | .cons t ts,b,h,i,hi=>by
  simp only[bj.flat] at h;simp only[eU] at hi
  rcases List.mem_append.1 hi with hi|hi
  ·exact pg t b (fun n hn=>h n (List.mem_append_left _ hn)) i hi
  ·exact Ep ts _ (fun n hn=>h n (List.mem_append_right _ hn)) i hi
theorem Ez (jp:aC) (hj:jv jp):∀(ts:bj) (b:Nat),(∀n∈ts.flat,n.rs.length≤1048576)→∀i∈du jp ts b,jv i
 | .nil,b,_,i,hi=>by simp[du] at hi
 | .cons t ts,b,h,i,hi=>by
  simp only[bj.flat] at h;have h1:∀n∈t.flat,n.rs.length≤1048576:=fun n hn=>h n (List.mem_append_left _ hn);have h2:∀n∈ts.flat,n.rs.length≤1048576:=fun n hn=>h n (List.mem_append_right _ hn);simp only[du] at hi
  split at hi
  ·exact pg t b h1 i hi
  ·rcases List.mem_cons.1 hi with rfl|hi
   ·exact CG _ _ _
   ·rcases List.mem_append.1 hi with hi|hi
    ·exact pg t _ h1 i hi
    ·rcases List.mem_cons.1 hi with rfl|hi
     ·exact hj
     ·exact Ez jp hj ts _ h2 i hi
end
theorem Ff {t:Tr} {b r:Nat} (h:∀n∈t.flat,n.rs.length≤1048576):∀i∈bK t b r,jv i:=by
 intro i hi;unfold bK at hi
 rcases List.mem_cons.1 hi with rfl|hi
 ·exact mh _ _ _
 ·rcases List.mem_append.1 hi with hi|hi
  ·exact pg t _ h i hi
  ·simp only[List.mem_cons,List.not_mem_nil,or_false] at hi
   rcases hi with rfl|rfl
   ·exact mh _ _ _
   ·exact mh _ _ _
end Go.Proofs.Ytnleclohocdkaaa
namespace Go.Proofs.Ytnleclohocdkaaa
open Go.V Go
def nI (fr:Go.V.Fr) (k:Nat):Go.V.D:=Go.V.nth .bh fr.loc k
theorem C3 {s0:St} {n:cg} (hn:n.ok):Ev pv 113 [.agg (aV n)] s0 (.bool (ud n)) s0:=by
 refine Ev.o9 rfl K8 rfl rfl rfl ?_;refine zE ?_;obtain⟨cD,hF,hH⟩:=ri s0;generalize ag .ro s0=S at*;have DG:=hn.1.arg s0.bs.length S;have rZ:=hn.2.1;refine zQ 2 ?_;refine qb hH fun k1 st re hH=>?_;dsimp only[u2,u1,u3,u4,setMany,u5,u6,D.cells,Nat.reduceAdd,aV] at hH;refine zQ 10 ?_;refine ah.mH 2 (.bool (((n.op==2)||((n.rs.length:Nat):Int)==0) &&((n.op==5)||((n.mn==0) &&(n.mx==0) &&!n.lz)) &&((n.op==6)||(n.cap==0)))) [] ?_ (fun ff tmp=>?_)
 ·refine zQ 4 ?_;refine ab.two 10 rfl (fun eI=>?_) (fun eI=>?_)
  ·refine zQ 8 ?_;refine ab.two 18 rfl (fun db=>?_) (fun db=>?_)
   ·refine zQ 20 ?_;refine ab.two 38 rfl (fun jP=>?_) (fun jP=>?_)
    ·refine zQ 6 ?_;refine ab.nil (aT ?_);refine zG ?_
     all_goals(simp[eI,db,jP];done)
    ·refine zQ 6 ?_;refine ab.nil (aT ?_);refine zG ?_
     all_goals(simp[eI,db,jP];done)
   ·refine zQ 4 ?_;refine ab.two 22 rfl (fun kA=>?_) (fun kA=>?_)
    ·refine zQ 3 ?_;refine ab.cz (ax rfl rfl rfl db) rfl kA (aa rfl _) ?_;refine zQ 1 ?_;refine ab.two 27 rfl (fun lU=>?_) (fun lU=>?_)
     ·refine zQ 3 ?_;refine ab.cz (ax rfl rfl rfl db) rfl lU (aa rfl _) ?_;refine zQ 3 ?_;refine ab.two 34 rfl (fun nP=>?_) (fun nP=>?_)
      ·refine zQ 4 ?_;refine ab.two 38 rfl (fun jP=>?_) (fun jP=>?_)
       ·refine zQ 3 ?_;refine ab.cz (ax rfl rfl rfl nP) rfl jP (aa rfl _) ?_;refine zQ 2 ?_;refine ab.nil (aT ?_);refine zG ?_
        all_goals(simp[eI,db,kA,lU,nP,jP];done)
       ·refine zQ 3 ?_;refine ab.b_ (ax rfl rfl rfl nP) rfl jP (aa rfl _) ?_;refine zQ 2 ?_;refine ab.nil (aT ?_);refine zG ?_
        all_goals(simp[eI,db,kA,lU,nP,jP];done)
      ·refine zQ 10 ?_;refine ab.nil (aT ?_);refine zG ?_
       all_goals(simp[eI,db,kA,lU,nP];done)
     ·refine zQ 3 ?_;refine ab.b_ (ax rfl rfl rfl db) rfl lU (aa rfl _) ?_;refine zQ 13 ?_;refine ab.nil (aT ?_);refine zG ?_
      all_goals(simp[eI,db,kA,lU];done)
    ·refine zQ 3 ?_;refine ab.b_ (ax rfl rfl rfl db) rfl kA (aa rfl _) ?_;refine zQ 18 ?_;refine ab.nil (aT ?_);refine zG ?_
     all_goals(simp[eI,db,kA];done)
  ·refine zQ 2 ?_;refine qn ?_ (hg:=wi eI);simp only[List.length_map];refine zQ 3 ?_;refine ab.two 16 rfl (fun gA=>?_) (fun gA=>?_)
   ·refine zQ 2 ?_;refine ab.two 18 rfl (fun db=>?_) (fun db=>?_)
    ·refine zQ 13 ?_;refine ab.cz (ax rfl rfl rfl gA) rfl db (aa rfl _) ?_;refine zQ 6 ?_;refine ab.two 38 rfl (fun jP=>?_) (fun jP=>?_)
     ·refine zQ 6 ?_;refine ab.nil (aT ?_);refine zG ?_
      all_goals(simp[eI,gA,db,jP];done)
     ·refine zQ 6 ?_;refine ab.nil (aT ?_);refine zG ?_
      all_goals(simp[eI,gA,db,jP];done)
    ·refine zQ 4 ?_;refine ab.two 22 rfl (fun kA=>?_) (fun kA=>?_)
     ·refine zQ 3 ?_;refine ab.cz (ax rfl rfl rfl db) rfl kA (aa rfl _) ?_;refine zQ 1 ?_;refine ab.two 27 rfl (fun lU=>?_) (fun lU=>?_)
      ·refine zQ 3 ?_;refine ab.cz (ax rfl rfl rfl db) rfl lU (aa rfl _) ?_;refine ab.b_ (ax rfl rfl rfl gA) rfl db (aa rfl _) ?_;refine zQ 2 ?_;refine ab.two 34 rfl (fun nP=>?_) (fun nP=>?_)
       ·refine zQ 4 ?_;refine ab.two 38 rfl (fun jP=>?_) (fun jP=>?_)
        ·refine zQ 3 ?_;refine ab.cz (ax rfl rfl rfl nP) rfl jP (aa rfl _) ?_;refine zQ 2 ?_;refine ab.nil (aT ?_);refine zG ?_
         all_goals(simp[eI,gA,db,kA,lU,nP,jP];done)
        ·refine zQ 3 ?_;refine ab.b_ (ax rfl rfl rfl nP) rfl jP (aa rfl _) ?_;refine zQ 2 ?_;refine ab.nil (aT ?_);refine zG ?_
         all_goals(simp[eI,gA,db,kA,lU,nP,jP];done)
       ·refine zQ 10 ?_;refine ab.nil (aT ?_);refine zG ?_
        all_goals(simp[eI,gA,db,kA,lU,nP];done)
      ·refine zQ 3 ?_;refine ab.b_ (ax rfl rfl rfl db) rfl lU (aa rfl _) ?_;refine ab.b_ (ax rfl rfl rfl gA) rfl db (aa rfl _) ?_;refine zQ 12 ?_;refine ab.nil (aT ?_);refine zG ?_
       all_goals(simp[eI,gA,db,kA,lU];done)
     ·refine zQ 3 ?_;refine ab.b_ (ax rfl rfl rfl db) rfl kA (aa rfl _) ?_;refine zQ 5 ?_;refine ab.b_ (ax rfl rfl rfl gA) rfl db (aa rfl _) ?_;refine zQ 12 ?_;refine ab.nil (aT ?_);refine zG ?_
      all_goals(simp[eI,gA,db,kA];done)
   ·refine zQ 28 ?_;refine ab.nil (aT ?_);refine zG ?_
    all_goals(simp[eI,gA];done)
 dsimp only[aX,List.foldl,nth,u2,u1];refine ah.ret ⟨rx,_,rfl,rl cD hH (rfl)⟩
theorem xZ {s0:St} {n:cg} (hn:n.ok) {g:Nat} (hg:g≤1048576):Ev pv 100 [.agg (aV n),.int .i64 (g:Nat)] s0 (.tup [.int .i64 (eX n (g:Nat)).1,.bool (eX n (g:Nat)).2]) s0:=by
 refine Ev.o9 rfl Ld rfl rfl rfl ?_;refine zE ?_;obtain⟨cD,hF,hH⟩:=ri s0;generalize ag .ro s0=S at*;have DG:=hn.1.arg s0.bs.length S;have rZ:=hn.2.1;refine zQ 2 ?_;refine qb hH fun k2 st hk2 hH=>?_;dsimp only[u2,u1,u3,u4,setMany,u5,u6,D.cells,Nat.reduceAdd,aV] at hH;refine zQ 6 ?_;refine ab.bN (m:=7) hH rfl (ev rfl) (by exact aS) (by dsimp only[List.drop_succ_cons,List.drop_zero,List.take_succ_cons,List.take_zero,aV]<;>rfl) rfl rfl (by dsimp only[Fr.put,u1,u2]<;>rfl) ?_;refine qv (C3 hn) ?_;refine zQ 2 ?_;unfold eX
 cases hp:ud n with
 |false=>
  rw[if_pos rfl];refine zQ 6 ?_;refine ah.ret ⟨rx,_,rfl,rl cD hH (rfl)⟩
 |true=>
  rw[if_neg (by simp)];refine zQ 15 ?_
  by_cases q1:n.op=1
  ·rw[if_pos (.inl q1)];refine qD rfl (by simp[q1]) ?_;refine zQ 1 ?_;refine qD rfl (by simp[q1]) ?_;refine zQ 8 ?_;refine ah.ret ⟨rx,_,rfl,rl cD hH (rfl)⟩
  refine qE rfl (by simp[q1]) ?_;refine zQ 5 ?_
  by_cases q7:n.op=7
  ·rw[if_pos (.inr (.inl q7))];refine qD rfl (by simp[q7]) ?_;refine zQ 1 ?_;refine qD rfl (by simp[q7]) ?_;refine zQ 8 ?_;refine ah.ret ⟨rx,_,rfl,rl cD hH (rfl)⟩
  refine qE rfl (by simp[q7]) ?_;refine zQ 4 ?_
  by_cases q8:n.op=8
  ·rw[if_pos (.inr (.inr q8))];refine qD rfl (by simp[q8]) ?_;refine zQ 8 ?_;refine ah.ret ⟨rx,_,rfl,rl cD hH (rfl)⟩
  refine qE rfl (by simp[q8]) ?_;rw[if_neg (by omega)];refine zQ 5 ?_;refine zI (fun q2=>?_) fun q2=>?_
  ·rw[if_pos q2];refine qq<|ah.Ie [4,5] (fun ff=>ff 4=.int .i64 0∧ff 5=.bool ((n.kids==0) &&eY n.rs)) ?_ (fun ff tmp uN=>?_)
   ·refine zQ 4 ?_;refine ab.two 23 rfl (fun eI=>?_) (fun eI=>?_)
    ·refine zQ 2 ?_;refine qv (vG (DG.rows hH) rZ) ?_ (hg:=wi eI);refine zQ 3 ?_;refine ab.nil (ky ?_ ?_)
     ·dsimp only[aX,List.foldl,nth,u2,u1]
     ·dsimp only[nth];refine zF ?_;refine⟨?_,?_⟩<;>(first|rfl|(simp[eI];done)|(simp_all;done)|(simp[eI];omega)|(simp_all;omega))
    ·refine zQ 6 ?_;refine ab.nil (ky ?_ ?_)
     ·dsimp only[aX,List.foldl,nth,u2,u1]
     ·dsimp only[nth];refine zF ?_;refine⟨?_,?_⟩<;>(first|rfl|(simp[eI];done)|(simp_all;done)|(simp[eI];omega)|(simp_all;omega))
   dsimp only[aX,List.foldl,nth,u2,u1];obtain⟨DW,DV⟩:=uN;rw[DW,DV];refine ah.ret ⟨rx,_,rfl,rl cD hH (rfl)⟩
  rw[if_neg q2];refine zQ 6 ?_
  by_cases q3:n.op=3
  ·rw[if_pos (.inl q3)];refine qD rfl (by simp[q3]) ?_;refine zQ 1 ?_;refine qD rfl (by simp[q3]) ?_;refine zQ 10 ?_;refine ah.ret ⟨rx,_,rfl,rl cD hH (rfl)⟩
  refine qE rfl (by simp[q3]) ?_;refine zQ 4 ?_
  by_cases q4:n.op=4
  ·rw[if_pos (.inr q4)];refine qD rfl (by simp[q4]) ?_;refine zQ 10 ?_;refine ah.ret ⟨rx,_,rfl,rl cD hH (rfl)⟩
  rw[if_neg (by omega)];refine qE rfl (by simp[q4]) ?_;refine zQ 5 ?_;refine zI (fun q5=>?_) fun q5=>?_
  ·rw[if_pos q5];refine qq<|ah.Ie [4,5] (fun ff=>ff 4=.int .i64 1∧ff 5=.bool ((n.kids==1) &&decide (n.mn≥0) &&decide (n.mn≤30) &&((n.mx==-1)||(decide (n.mx≥n.mn) &&decide (n.mx≤30))))) ?_ (fun ff tmp uN=>?_)
   ·refine zQ 4 ?_;refine ab.two 41 rfl (fun eI=>?_) (fun eI=>?_)
    ·refine zQ 5 ?_;refine ab.two 46 rfl (fun jO=>?_) (fun jO=>?_)
     ·refine zQ 5 ?_;refine ab.two 51 rfl (fun jo=>?_) (fun jo=>?_)
      ·refine zQ 4 ?_;refine ab.two 55 rfl (fun cJ=>?_) (fun cJ=>?_)
       ·refine zQ 10 ?_;refine ab.cz (ax rfl rfl rfl jo) rfl cJ (aa rfl _) ?_;refine zQ 3 ?_;refine ab.nil (ky ?_ ?_)
        ·dsimp only[aX,List.foldl,nth,u2,u1]
        ·dsimp only[nth];refine zF ?_;refine⟨?_,?_⟩<;>(first|rfl|(simp[eI,jO,jo,cJ];done)|(simp_all;done)|(simp[eI,jO,jo,cJ];omega)|(simp_all;omega))
       ·refine zQ 6 ?_;refine ab.two 61 rfl (fun yL=>?_) (fun yL=>?_)
        ·refine zQ 3 ?_;refine ab.cz (ax rfl rfl rfl cJ) rfl yL (aa rfl _) ?_;refine ab.b_ (ax rfl rfl rfl jo) rfl cJ (aa rfl _) ?_;refine zQ 3 ?_;refine ab.nil (ky ?_ ?_)
         ·dsimp only[aX,List.foldl,nth,u2,u1]
         ·dsimp only[nth];refine zF ?_;refine⟨?_,?_⟩<;>(first|rfl|(simp[eI,jO,jo,cJ,yL];done)|(simp_all;done)|(simp[eI,jO,jo,cJ,yL];omega)|(simp_all;omega))
        ·refine zQ 3 ?_;refine ab.b_ (ax rfl rfl rfl cJ) rfl yL (aa rfl _) ?_;refine ab.b_ (ax rfl rfl rfl jo) rfl cJ (aa rfl _) ?_;refine zQ 3 ?_;refine ab.nil (ky ?_ ?_)
         ·dsimp only[aX,List.foldl,nth,u2,u1]
         ·dsimp only[nth];refine zF ?_;refine⟨?_,?_⟩<;>(first|rfl|(simp[eI,jO,jo,cJ,yL];done)|(simp_all;done)|(simp[eI,jO,jo,cJ,yL];omega)|(simp_all;omega))
      ·refine zQ 18 ?_;refine ab.nil (ky ?_ ?_)
       ·dsimp only[aX,List.foldl,nth,u2,u1]
       ·dsimp only[nth];refine zF ?_;refine⟨?_,?_⟩<;>(first|rfl|(simp[eI,jO,jo];done)|(simp_all;done)|(simp[eI,jO,jo];omega)|(simp_all;omega))
     ·refine zQ 23 ?_;refine ab.nil (ky ?_ ?_)
      ·dsimp only[aX,List.foldl,nth,u2,u1]
      ·dsimp only[nth];refine zF ?_;refine⟨?_,?_⟩<;>(first|rfl|(simp[eI,jO];done)|(simp_all;done)|(simp[eI,jO];omega)|(simp_all;omega))
    ·refine zQ 28 ?_;refine ab.nil (ky ?_ ?_)
     ·dsimp only[aX,List.foldl,nth,u2,u1]
     ·dsimp only[nth];refine zF ?_;refine⟨?_,?_⟩<;>(first|rfl|(simp[eI];done)|(simp_all;done)|(simp[eI];omega)|(simp_all;omega))
   dsimp only[aX,List.foldl,nth,u2,u1];obtain⟨DW,DV⟩:=uN;rw[DW,DV];refine ah.ret ⟨rx,_,rfl,rl cD hH (rfl)⟩
  rw[if_neg q5];refine zQ 5 ?_;refine zI (fun q6=>?_) fun q6=>?_
  ·rw[if_pos q6];refine qq<|ah.Ie [4,5] (fun ff=>ff 4=.int .i64 1∧ff 5=.bool ((n.kids==1) &&(n.cap==((g+1:Nat):Int)) &&decide (n.cap≤4))) ?_ (fun ff tmp uN=>?_)
   ·refine zQ 4 ?_;refine ab.two 73 rfl (fun eI=>?_) (fun eI=>?_)
    ·refine zQ 7 ?_;refine ab.two 80 rfl (fun bW=>?_) (fun bW=>?_)
     ·refine zQ 6 ?_;refine ab.nil (ky ?_ ?_)
      ·dsimp only[aX,List.foldl,nth,u2,u1]
      ·dsimp only[nth];refine zF ?_;refine⟨?_,?_⟩<;>(first|rfl|(simp[eI,bW];done)|(simp_all;done)|(simp[eI,bW];omega)|(simp_all;omega))
     ·refine zQ 6 ?_;refine ab.nil (ky ?_ ?_)
      ·dsimp only[aX,List.foldl,nth,u2,u1]
      ·dsimp only[nth];refine zF ?_;refine⟨?_,?_⟩<;>(first|rfl|(simp[eI,bW];done)|(simp_all;done)|(simp[eI,bW];omega)|(simp_all;omega))
    ·refine zQ 13 ?_;refine ab.nil (ky ?_ ?_)
     ·dsimp only[aX,List.foldl,nth,u2,u1]
     ·dsimp only[nth];refine zF ?_;refine⟨?_,?_⟩<;>(first|rfl|(simp[eI];done)|(simp_all;done)|(simp[eI];omega)|(simp_all;omega))
   dsimp only[aX,List.foldl,nth,u2,u1];obtain⟨DW,DV⟩:=uN;rw[DW,DV];refine ah.ret ⟨rx,_,rfl,rl cD hH (rfl)⟩
  ·rw[if_neg q6];refine zQ 6 ?_;refine ah.ret ⟨rx,_,rfl,rl cD hH (rfl)⟩
theorem wo {n:cg} (h:n.ok):refs (aV n)=0:=by
 have:=h.1.ref;simp only[aV,refs,D.ref,this,Nat.max_self]
def oe (d:D) (at_ g:Nat):List D:=[d,.int .i64 (at_:Nat),.int .i64 (g:Nat)]
theorem De {l:List cg} {d:D} (hl:l.length≤1048576) (hi:∀n∈l,n.ok) (hd:gU d 7 (l.map aV)):∀(f:Nat) {N k:Nat} {S s0:St} {H:List bm} {at_ g:Nat},f≤241→g≤4→Has N S s0 (.box k (.mem 0 false (oe d at_ g))::H)→
  ∃r af,Ev pv 74 [.ptr k 0 0,.int .i64 ((241-f:Nat):Int)] s0 r af∧r=.bool (hO l f at_ g).isSome∧∃a' g',Has N S af (.box k (.mem 0 false (oe d a' g'))::H)∧g'≤4∧∀q,hO l f at_ g=some q→a'=q.1∧g'=q.2:=by
 intro f
 induction f with
 |zero=>
  intro N k S s0 H at_ g hf hg hH;refine Ev.ko rfl KS rfl rfl rfl ?_;refine zE ?_;have cx:=hH;have hH:=hH.cB;have cw:(ag .rw s0).bs=s0.bs:=rfl;generalize ag .rw s0=S2 at*;have hc:=hd.arg N S2;refine zQ 6 ?_;refine ah.lB 21 (.bool (decide ((at_:Int)≥(l.length:Nat))||decide (((241-0:Nat):Int)>240))) [] ?_ (fun ff tmp gL=>?_)
  ·refine zQ 8 ?_;refine qn ?_;simp only[List.length_map];refine zQ 2 ?_;refine ab.two 18 rfl (fun bW=>?_) (fun bW=>?_)
   ·refine zQ 3 ?_;refine ab.nil (cA ?_ ?_)
    ·dsimp only[aX,List.foldl,nth,u2,u1]
     all_goals(first|rfl|simp)
    ·refine zF ?_
     all_goals(simp[bW];done)
   ·refine zQ 3 ?_;refine ab.nil (cA ?_ ?_)
    ·dsimp only[aX,List.foldl,nth,u2,u1]
     all_goals(first|rfl|simp)
    ·refine zF ?_
     all_goals(simp[bW];done)
  dsimp only[aX,List.foldl,nth,u2,u1];have hT:(decide ((at_:Int)≥(l.length:Nat))||decide (((241-0:Nat):Int)>240))=true:=by simp
  rw[hT] at gL;refine zQ 5 ?_;refine ah.ret ⟨rx,_,_,_,rfl,ai (rfl),?_⟩;exact⟨rfl,_,_,cx.ay cw hH,hg,fun q hq=>by simp[hO] at hq⟩
 |succ f ih=>
  intro N k S s0 H at_ g hf hg hH;refine Ev.ko rfl KS rfl rfl rfl ?_;refine zE ?_;have cx:=hH;have hH:=hH.cB;have cw:(ag .rw s0).bs=s0.bs:=rfl;generalize ag .rw s0=S2 at*;have hc:=hd.arg N S2;refine zQ 6 ?_;refine ah.lB 21 (.bool (decide ((at_:Int)≥(l.length:Nat))||decide (((241-(f+1):Nat):Int)>240))) [] ?_ (fun ff tmp gL=>?_)
  ·refine zQ 8 ?_;refine qn ?_;simp only[List.length_map];refine zQ 2 ?_;refine ab.two 18 rfl (fun bW=>?_) (fun bW=>?_)
   ·refine zQ 3 ?_;refine ab.nil (cA ?_ ?_)
    ·dsimp only[aX,List.foldl,nth,u2,u1]
     all_goals(first|rfl|simp)
    ·refine zF ?_
     all_goals(simp_all;done)
   ·refine zQ 3 ?_;refine ab.nil (cA ?_ ?_)
    ·dsimp only[aX,List.foldl,nth,u2,u1]
     all_goals(first|rfl|simp)
    ·refine zF ?_
     all_goals(simp_all;omega)
  dsimp only[aX,List.foldl,nth,u2,u1]
  by_cases ha:l.length≤at_
  ·have hT:(decide ((at_:Int)≥(l.length:Nat))||decide (((241-(f+1):Nat):Int)>240))=true:=by
    rw[Bool.or_eq_true];exact .inl (by rw[decide_eq_true_eq];omega)
   rw[hT] at gL;have hn:hO l (f+1) at_ g=none:=by unfold hO;rw[List.getElem?_eq_none ha]
   rw[hn];refine zQ 5 ?_;refine ah.ret ⟨rx,_,_,_,rfl,ai (rfl),?_⟩;exact⟨rfl,_,_,cx.ay cw hH,hg,fun q hq=>by cases hq⟩
  ·have hT:(decide ((at_:Int)≥(l.length:Nat))||decide (((241-(f+1):Nat):Int)>240))=false:=by
    rw[Bool.or_eq_false_iff];exact⟨by rw[decide_eq_false_iff_not];omega,by rw[decide_eq_false_iff_not];omega⟩
   rw[hT] at gL
   obtain⟨n,hn⟩:∃n,l[at_]?=some n:=⟨l[at_]'(by omega),List.getElem?_eq_getElem _⟩
   have nO:=hi n (List.mem_of_getElem? hn);have iH:=lg hn;have IB:=wo nO
   have jL:hO l (f+1) at_ g=if(eX n (g:Nat)).2=true then jj (hO l f) (eX n (g:Nat)).1.toNat (at_+1) (if n.op=6 then g+1 else g) else none:=by
    rw[hO,hn]
   rw[jL];clear jL;refine zQ 12 ?_;refine qr fun PV JT=>?_;refine ab.eB rfl (ev rfl) (by assumption) rfl (aa rfl _) ?_;refine qa hH fun k5 st II hH=>?_;dsimp only[u2,u1,u3,u4,setMany,u5,u6,D.cells,Nat.reduceAdd,oe,aV] at hH;refine ab.lp hH rfl (ev rfl) (ev rfl) (by rfl) (by exact rfl) (by exact aS) (by exact rfl) (by exact .inr (by assumption)) (fun st hH=>?_);dsimp only[u2,u1,u3,u4,setMany,u5,u6,D.cells,Nat.reduceAdd,oe,aV] at hH;refine zQ 3 ?_;refine ab.bN (m:=7) hH rfl (ev rfl) (by exact aS) (by dsimp only[List.drop_succ_cons,List.drop_zero,List.take_succ_cons,List.take_zero,oe,aV]<;>rfl) rfl rfl (aa rfl _) ?_;refine zQ 4 ?_;refine qv (xZ nO (by omega)) ?_;refine zQ 12 ?_
   cases hsh:(eX n (g:Nat)).2 with
   |false=>
    rw[if_neg (by simp)];refine zQ 5 ?_;refine ah.ret ⟨rx,_,_,_,rfl,ai (rfl),?_⟩;exact⟨rfl,_,_,cx.ay cw (hH.drop 1),hg,fun q hq=>by cases hq⟩
   |true=>
    rw[if_pos rfl];obtain⟨⟨re,_⟩,hk2,NP⟩:=vA hsh;have NN:=nO.2.2;obtain⟨kd,IG⟩:∃kd:Nat,(eX n (g:Nat)).1=(kd:Int):=Int.eq_ofNat_of_zero_le hk2;rw[IG,Int.toNat_natCast];rw[IG,Int.toNat_natCast] at re;refine zQ 11 ?_;refine qT hH bZ fun st hH=>?_;dsimp only[u2,u1,u3,u4,setMany,u5,u6,D.cells,Nat.reduceAdd,oe,aV] at hH;refine zQ 8 ?_;refine ah.merge (fun fr st=>∃(g2:Nat) (tmp:List (Nat×D)),fr=⟨8,[.ptr k 0 0,.int .i64 ((241-(f+1):Nat):Int),nI fr 2,nI fr 3,.bool false,.ptr k5 0 0,.int .i64 (kd:Nat),.bool true],tmp⟩∧Has N S2 st (.box k (.mem 0 false [d,.int .i64 ((at_+1:Nat):Int),.int .i64 (g2:Nat)])::.box k5 (.mem 0 false (aV n))::H)∧(g2=if n.op=6 then g+1 else g)∧(g2≤4)) ?_ ?_
    ·refine zI (fun q6=>?_) fun q6=>?_
     ·have:=NP q6;refine zQ 8 ?_;refine qT hH bZ fun st hH=>?_;dsimp only[u2,u1,u3,u4,setMany,u5,u6,D.cells,Nat.reduceAdd,oe,aV] at hH;refine zQ 1 ?_;exact⟨g+1,_,rfl,(by have:=hH.front bZ;exact this),by rw[if_pos q6],by omega⟩
     ·refine zQ 1 ?_;exact⟨g,_,rfl,(by have:=hH.front bZ;exact this),by rw[if_neg q6],hg⟩
    ·rintro fr st ⟨g2,tmp,hfr,hH,ch,eI⟩;rw[hfr];clear hfr;generalize nI fr=ee;clear fr;rw[←ch];refine zQ 2 ?_;refine ah.loop (fun mm fr st=>∃(kk a2 g4:Nat),fr.clean=⟨8,[.ptr k 0 0,.int .i64 ((241-(f+1):Nat):Int),nI fr 2,nI fr 3,.bool false,.ptr k5 0 0,.int .i64 (kk:Nat),.bool true],[]⟩∧Has N S2 st (.box k (.mem 0 false [d,.int .i64 (a2:Nat),.int .i64 (g4:Nat)])::.box k5 (.mem 0 false (aV n))::H)∧(jj (hO l f) kk a2 g4=jj (hO l f) kd (at_+1) g2)∧(g4≤4)∧(kk=mm)∧(kk≤9223372036854775807)) (kd) ?_ ?_
     ·exact⟨kd,at_+1,g2,rfl,hH,rfl,eI,rfl,by omega⟩
     rintro mm fr st ⟨kk,a2,g4,hfr,hH,hX,ly,GA,hkk⟩;rw[hfr];clear hfr;generalize nI fr=ee;clear fr;refine zQ 6 ?_
     cases kk with
     |zero=>
      refine ah.cond (v:=false) (by dsimp only[Fr.ev,Fr.get,nth,V.look];rfl) (fun h=>by cases h) (fun _=>?_);refine zQ 5 ?_;refine ah.ret ⟨rx,_,_,_,rfl,ai (rfl),?_⟩;exact⟨by rw[←hX];rfl,_,_,cx.ay cw (hH.erase 1),ly,fun q hq=>by rw[←hX] at hq;simp only[jj,Option.some.injEq] at hq;subst hq;exact⟨rfl,rfl⟩⟩
     |succ kk=>
      rw[jj] at hX;refine qD rfl (by simp) ?_;refine zQ 7 ?_;refine ab.lD (z:=((241-f:Nat):Int)) rfl (ev rfl) (ev rfl) (by(try simp only[List.length_reverse,List.length_cons,List.length_nil,List.length_append,List.length_map,List.length_set]);rw[wrap_i64 (by omega) (by omega)]<;>omega) (aa rfl _) ?_;obtain⟨_,st,aG,rfl,a',g',hH,eQ,hq⟩:=ih (at_:=a2) (g:=g4) (by omega) ly hH;refine qv aG ?_;refine zQ 2 ?_
      cases ho:hO l f a2 g4 with
      |none=>
       rw[ho] at hX;refine zQ 5 ?_;refine ah.ret ⟨rx,_,_,_,rfl,ai (rfl),?_⟩;exact⟨by rw[←hX];rfl,_,_,cx.ay cw (hH.erase 1),eQ,fun q hq=>by rw[←hX] at hq;cases hq⟩
      |some q=>
       rw[ho] at hX;obtain⟨rfl,rfl⟩:=hq q ho;refine zQ 4 ?_;refine ab.oM (z:=((kk:Nat):Int)) rfl (ev rfl) (ev rfl) (by(try simp only[List.length_reverse,List.length_cons,List.length_nil,List.length_append,List.length_map,List.length_set]);rw[wrap_i64 (by omega) (by omega)]<;>omega) (aa rfl _) ?_;refine zQ 2 ?_;exact⟨mm-1,by omega,⟨kk,q.1,q.2,rfl,hH,hX,eQ,by omega,by omega⟩⟩
theorem A_ {s0:St} {x:Nl} (hx:x.ok):Ev pv 40 [x.d] s0 (.bool (dq x.l)) s0:=by
 refine Ev.o9 rfl O1 rfl rfl rfl ?_;refine zE ?_;obtain⟨cD,hF,hH⟩:=ri s0;generalize ag .ro s0=S at*;have hc:=hx.c.arg s0.bs.length S;have hl:=hx.nl;have vi:=hx.c;refine zQ 6 ?_;refine ah.lB 11 (.bool (decide (((x.l.length:Nat):Int)<1)||decide (((x.l.length:Nat):Int)>480))) [] ?_ (fun ff tmp gL=>?_)
 ·refine qm ?_;refine qn ?_;simp only[List.length_map];refine zQ 2 ?_;refine ab.two 7 rfl (fun eI=>?_) (fun eI=>?_)
  ·refine zQ 4 ?_;refine ab.nil (cA ?_ ?_)
   ·dsimp only[aX,List.foldl,nth,u2,u1]
    all_goals(first|rfl|simp)
   ·refine zF ?_
    all_goals(simp[eI];done)
  ·refine zQ 1 ?_;refine qn ?_ (hg:=wi eI);simp only[List.length_map];refine zQ 2 ?_;refine ab.nil (cA ?_ ?_)
   ·dsimp only[aX,List.foldl,nth,u2,u1]
    all_goals(first|rfl|simp)
   ·refine zF ?_
    all_goals(simp[eI];done)
 dsimp only[aX,List.foldl,nth,u2,u1]
 by_cases hlen:1≤x.l.length∧x.l.length≤480
 ·have hT:(decide (((x.l.length:Nat):Int)<1)||decide (((x.l.length:Nat):Int)>480))=false:=by
   rw[Bool.or_eq_false_iff];exact⟨by rw[decide_eq_false_iff_not];omega,by rw[decide_eq_false_iff_not];omega⟩
  rw[hT] at gL
  have hR:dq x.l=(match hO x.l 241 0 0 with|some r=>decide (r.1=x.l.length)|none=>false):=by
   unfold dq;rw[decide_eq_true hlen.1,decide_eq_true hlen.2];rfl
  rw[hR];clear hR;refine zQ 5 ?_;refine ab.gm (qs:=[(0,_)]) rfl rfl rfl rfl ⟨rfl,(ev rfl),(by exact(gU.cells (by assumption)).1),trivial⟩ (by intro q hq;simp only[List.mem_cons,List.not_mem_nil,or_false] at hq;rcases hq with rfl<;>exact⟨rfl,by exact Nat.le_of_ble_eq_true rfl⟩) (by show List.foldl _ [_,_,_] _=_;dsimp only[List.foldl_cons,List.foldl_nil,u2,u1]<;>rfl) (aa rfl _) ?_;refine qb hH fun k14 st Kq hH=>?_;refine zQ 2 ?_;have hH:Has s0.bs.length S st (.box k14 (.mem 0 false (oe x.d 0 0))::[]):=hH
  cases ch:(hO x.l 241 0 0).isSome with
  |true=>
   obtain⟨q,hq⟩:=Option.isSome_iff_exists.1 ch;refine zQ 3 ?_;obtain⟨_,st,aG,rfl,a',g',hH,eQ,FR⟩:=De hl hx.i hx.c 241 (by omega) (by omega) hH;refine qv aG ?_;refine zQ 6 ?_;refine qn ?_ (hg:=wi ch);simp only[List.length_map];refine zQ 4 ?_;obtain⟨rfl,rfl⟩:=FR q hq;rw[hq]
   have he:decide (q.1=x.l.length)=(((q.1:Nat):Int)==((x.l.length:Nat):Int)):=by
    rw[Bool.eq_iff_iff];simp only[decide_eq_true_eq,beq_iff_eq];omega
   simp only[he];refine ah.ret ⟨rx,_,rfl,rl cD hH (rfl)⟩
  |false=>
   have hq:hO x.l 241 0 0=none:=by
    cases hq:hO x.l 241 0 0 with
    |none=>rfl
    |some q=>rw[hq] at ch;cases ch
   refine zQ 3 ?_;obtain⟨_,st,aG,rfl,a',g',hH,eQ,FR⟩:=De hl hx.i hx.c 241 (by omega) (by omega) hH;refine qv aG ?_;refine zQ 11 ?_;rw[hq];refine ah.ret ⟨rx,_,rfl,rl cD hH (rfl)⟩
 ·have hT:(decide (((x.l.length:Nat):Int)<1)||decide (((x.l.length:Nat):Int)>480))=true:=by
   rw[Bool.or_eq_true,decide_eq_true_eq,decide_eq_true_eq];omega
  rw[hT] at gL
  have hR:dq x.l=false:=by
   unfold dq
   by_cases h1:1≤x.l.length
   ·rw[decide_eq_true h1,decide_eq_false (fun h2=>hlen ⟨h1,h2⟩)];rfl
   ·rw[decide_eq_false h1];rfl
  rw[hR];refine zQ 5 ?_;refine ah.ret ⟨rx,_,rfl,rl cD hH (rfl)⟩
end Go.Proofs.Ytnleclohocdkaaa
