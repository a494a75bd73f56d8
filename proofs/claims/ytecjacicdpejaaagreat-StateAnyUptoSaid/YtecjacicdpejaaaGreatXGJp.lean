/-
 What the search comes to: it is closed, and nothing can be left out.
-/
import Derived.Test.YtecjacicdpejaaaGreatXGQe
import Derived.Test.YtecjacicdpejaaaGreatXGHr
import Derived.Test.YtecjacicdpejaaaGreatXGPh
import Derived.Test.YtecjacicdpejaaaGreatXM2
import Derived.Test.YtecjacicdpejaaaGreatXGUa
set_option maxRecDepth 100000
set_option linter.unusedSimpArgs false
set_option linter.unusedVariables false
set_option maxHeartbeats 4000000
set_option linter.unusedSectionVars false
namespace Go.Proofs.YtecjacicdpejaaaGreat
open Go.V Go
def ft (lo hi:Nat) (i:aP):Prop:=
 (i.op=1∧i.x=0∧i.y=0∧gh i.rs=true)∨(i.op=2∧i.rs=[]∧((lo:Int)≤i.x∧i.x≤hi)∧(lo:Int)≤i.y∧i.y≤hi)∨(i.op=3∧i.rs=[]∧i.y=0∧(lo:Int)≤i.x∧i.x≤hi)∨(i.op=4∧i.rs=[]∧i.y=0∧0≤i.x∧i.x<10)∨((i.op=5∨i.op=6)∧i.rs=[]∧i.y=0∧i.x=0)
theorem ft.mono {lo hi Ao l4:Nat} {i:aP} (h:ft lo hi i) (h1:Ao≤lo) (h2:hi≤l4):ft Ao l4 i:=by
 rcases h with h|⟨a,b,c,d⟩|⟨a,b,c,d⟩|h|h
 ·exact .inl h
 ·exact .inr (.inl ⟨a,b,by omega,by omega⟩)
 ·exact .inr (.inr (.inl ⟨a,b,c,by omega⟩))
 ·exact .inr (.inr (.inr (.inl h)))
 ·exact .inr (.inr (.inr (.inr h)))
theorem ft.sp {lo hi s o:Nat} {lz:Bool} (h1:lo≤s+1∧s+1≤hi) (h2:lo≤o∧o≤hi):ft lo hi (tU s o lz):=by
 refine .inr (.inl ?_);cases lz
 ·refine⟨rfl,rfl,?_⟩;show((lo:Int)≤((s+1:Nat):Int)∧((s+1:Nat):Int)≤hi)∧(lo:Int)≤(o:Int)∧(o:Int)≤hi;omega
 ·refine⟨rfl,rfl,?_⟩;show((lo:Int)≤(o:Int)∧(o:Int)≤hi)∧(lo:Int)≤((s+1:Nat):Int)∧((s+1:Nat):Int)≤hi;omega
theorem ft.jp {lo hi e:Nat} (h1:lo≤e∧e≤hi):ft lo hi (sK e):=by
 refine .inr (.inr (.inl ⟨rfl,rfl,rfl,?_⟩));show(lo:Int)≤(e:Int)∧(e:Int)≤hi;omega
theorem ft.save {lo hi:Nat} {x:Int} (h:0≤x∧x<10):ft lo hi (eU 4 x 0 []):=.inr (.inr (.inr (.inl ⟨rfl,rfl,rfl,h⟩)))
theorem ub {c:Nat→List aP} {z:Nat} (hc:∀b,∀i∈c b,ft b (b+z) i):∀k b,∀i∈i_ c z k b,ft b (b+k*z) i
 |0,b,i,hi=>by cases hi
 |k+1,b,i,hi=>by
  simp only[i_] at hi;rw[Nat.succ_mul]
  rcases List.mem_append.1 hi with hi|hi
  ·exact(hc b i hi).mono (Nat.le_refl _) (by omega)
  ·exact(ub hc k _ i hi).mono (by omega) (by omega)
theorem z8 {sp:Nat→aP} {c:Nat→List aP} {z lo hi:Nat} (hs:∀s,lo≤s→s+1≤hi→ft lo hi (sp s)) (hc:∀b,∀i∈c b,ft b (b+z) i):∀k b,lo≤b→b+k*(z+1)≤hi→∀i∈iL sp c z k b,ft lo hi i
 |0,b,_,_,i,l4=>by cases l4
 |k+1,b,h1,h2,i,l4=>by
  simp only[iL] at l4;rw[Nat.succ_mul] at h2
  rcases List.mem_cons.1 l4 with rfl|l4
  ·exact hs b h1 (by omega)
  ·rcases List.mem_append.1 l4 with l4|l4
   ·exact(hc _ i l4).mono (by omega) (by omega)
   ·exact z8 hs hc k _ (by omega) (by omega) i l4
def NX (l:List fX):Prop:=∀n∈l,n.op=2→gh n.rs=true
mutual
theorem ov:∀(t:Tr) (b:Nat),t.ok→NX t.flat→∀i∈bk t b,ft b (b+t.sz) i
 | .mk n ks,b,ba,rh,i,hi=>by
  simp only[Tr.ok] at ba;simp only[Tr.flat] at rh;have hc:=fun b=>A4 ks b ba.2 (fun n hn=>rh n (List.mem_cons_of_mem _ hn));obtain⟨_,hq⟩:=ba.1;simp only[bk] at hi;simp only[Tr.sz]
  by_cases q2:n.op=2
  ·rw[if_pos q2] at hi;simp only[List.mem_cons,List.not_mem_nil,or_false] at hi;subst hi;exact .inl ⟨rfl,rfl,rfl,rh n (List.mem_cons_self ..) q2⟩
  rw[if_neg q2] at hi
  by_cases q7:n.op=7
  ·rw[if_pos q7] at hi;simp only[List.mem_cons,List.not_mem_nil,or_false] at hi;subst hi;exact .inr (.inr (.inr (.inr ⟨.inl rfl,rfl,rfl,rfl⟩)))
  rw[if_neg q7] at hi
  by_cases q8:n.op=8
  ·rw[if_pos q8] at hi;simp only[List.mem_cons,List.not_mem_nil,or_false] at hi;subst hi;exact .inr (.inr (.inr (.inr ⟨.inr rfl,rfl,rfl,rfl⟩)))
  rw[if_neg q8] at hi
  have hz:∀s k,cS n s k=if n.op=4 then s+2*(k-1) else if n.op=6 then s+2 else if n.op=5 then(if n.mx=-1 then n.mn.toNat*s+s+2 else n.mn.toNat*s+(n.mx.toNat-n.mn.toNat)*(s+1)) else s:=by
   intro s k;unfold cS;rw[if_neg (by omega)]
  by_cases q3:n.op=3
  ·rw[if_pos q3] at hi;rw[hz,if_neg (by omega),if_neg (by omega),if_neg (by omega)];exact hc b i hi
  rw[if_neg q3] at hi
  by_cases q4:n.op=4
  ·rw[if_pos q4] at hi;have UE:cS n ks.sz ks.len=ks.sz+2*(ks.len-1):=by rw[hz,if_pos q4]
   rw[UE] at hi⊢;exact A8 ks b (b+(ks.sz+2*(ks.len-1))) ba.2 (fun n hn=>rh n (List.mem_cons_of_mem _ hn)) (Nat.le_refl _) i hi
  rw[if_neg q4] at hi
  by_cases q5:n.op=5
  ·rw[if_pos q5] at hi;rw[hz,if_neg q4,if_neg (by omega),if_pos q5];unfold t_ at hi
   by_cases qx:n.mx=-1
   ·rw[if_pos qx] at hi⊢
    rcases List.mem_append.1 hi with hi|hi
    ·exact(ub hc _ _ i hi).mono (Nat.le_refl _) (by omega)
    ·rcases List.mem_cons.1 hi with rfl|hi
     ·exact ft.sp (by omega) (by omega)
     ·rcases List.mem_append.1 hi with hi|hi
      ·exact(hc _ i hi).mono (by omega) (by omega)
      ·simp only[List.mem_cons,List.not_mem_nil,or_false] at hi;subst hi;exact ft.jp (by omega)
   ·rw[if_neg qx] at hi⊢
    rcases List.mem_append.1 hi with hi|hi
    ·exact(ub hc _ _ i hi).mono (Nat.le_refl _) (by omega)
    ·exact z8 (fun s h1 h2=>ft.sp (by omega) (by omega)) hc _ _ (by omega) (by omega) i hi
  rw[if_neg q5] at hi
  by_cases q6:n.op=6
  ·rw[if_pos q6] at hi;rw[hz,if_neg q4,if_pos q6]
   rcases List.mem_cons.1 hi with rfl|hi
   ·exact ft.save (by omega)
   ·rcases List.mem_append.1 hi with hi|hi
    ·exact(hc _ i hi).mono (by omega) (by omega)
    ·simp only[List.mem_cons,List.not_mem_nil,or_false] at hi;subst hi;exact ft.save (by omega)
  ·rw[if_neg q6] at hi;cases hi
theorem A4:∀(ts:cN) (b:Nat),ts.ok→NX ts.flat→∀i∈jR ts b,ft b (b+ts.sz) i
 | .nil,b,_,_,i,hi=>by simp[jR] at hi
 | .cons t ts,b,ba,rh,i,hi=>by
  simp only[cN.ok] at ba;simp only[cN.flat] at rh;simp only[jR] at hi;simp only[cN.sz]
  rcases List.mem_append.1 hi with hi|hi
  ·exact(ov t b ba.1 (fun n hn=>rh n (List.mem_append_left _ hn)) i hi).mono (Nat.le_refl _) (by omega)
  ·exact(A4 ts _ ba.2 (fun n hn=>rh n (List.mem_append_right _ hn)) i hi).mono (by omega) (by omega)
theorem A8:∀(ts:cN) (b e:Nat),ts.ok→NX ts.flat→b+(ts.sz+2*(ts.len-1))≤e→∀i∈ij (sK e) ts b,ft b e i
 | .nil,b,e,_,_,_,i,hi=>by simp[ij] at hi
 | .cons t ts,b,e,ba,rh,he,i,hi=>by
  simp only[cN.ok] at ba;simp only[cN.flat] at rh;simp only[ij] at hi;simp only[cN.sz,cN.len] at he;have h1:NX t.flat:=fun n hn=>rh n (List.mem_append_left _ hn);have h2:NX ts.flat:=fun n hn=>rh n (List.mem_append_right _ hn)
  by_cases q:ts.len=0
  ·rw[if_pos q] at hi;exact(ov t b ba.1 h1 i hi).mono (Nat.le_refl _) (by omega)
  ·rw[if_neg q] at hi
   rcases List.mem_cons.1 hi with rfl|hi
   ·exact ft.sp (by omega) (by omega)
   ·rcases List.mem_append.1 hi with hi|hi
    ·exact(ov t _ ba.1 h1 i hi).mono (by omega) (by omega)
    ·rcases List.mem_cons.1 hi with rfl|hi
     ·exact ft.jp (by omega)
     ·exact(A8 ts _ e ba.2 h2 (by omega) i hi).mono (by omega) (by omega)
end
inductive Path (C:List aP):Nat→Nat→Prop where
 |refl (u:Nat):Path C u u
 |step {u v w:Nat} {i:aP} (h:C[u]?=some i) (hn:(v:Int)∈cH u i) (p:Path C v w):Path C u w
theorem Path.trans {C:List aP} {u v w:Nat} (h:Path C u v) (g:Path C v w):Path C u w:=by
 induction h with
 |refl=>exact g
 |step h hn _ ih=>exact .step h hn (ih g)
theorem Path.jp {C:List aP} {u e:Nat} (h:C[u]?=some (sK e)):Path C u e:=
 .step h (by show(e:Int)∈cH u (eU 3 (e:Nat) 0 []);unfold cH;rw[if_neg (show¬(eU 3 (e:Nat) 0 []).op=2 by show¬(3:Int)=2;decide),if_pos (show(eU 3 (e:Nat) 0 []).op=3 from rfl)];exact List.mem_cons_self ..) (.refl _)
theorem Path.sp {C:List aP} {u s o:Nat} {lz:Bool} (h:C[u]?=some (tU s o lz)):Path C u (s+1)∧Path C u o:=by
 have hn:cH u (tU s o lz)=[(tU s o lz).x,(tU s o lz).y]:=by
  unfold cH;rw[if_pos (by cases lz<;>rfl)]
 cases lz
 ·exact⟨.step h (by rw[hn];exact List.mem_cons_self ..) (.refl _),.step h (by rw[hn];exact List.mem_cons_of_mem _ (List.mem_cons_self ..)) (.refl _)⟩
 ·exact⟨.step h (by rw[hn];exact List.mem_cons_of_mem _ (List.mem_cons_self ..)) (.refl _),.step h (by rw[hn];exact List.mem_cons_self ..) (.refl _)⟩
mutual
theorem Tr.Zq:∀t:Tr,True
 | .mk _ _=>trivial
theorem cN.Zq:∀t:cN,True
 | .nil=>trivial
 | .cons _ _=>trivial
end
def rM (fr:Go.V.Fr) (k:Nat):Go.V.D:=Go.V.nth .bI fr.loc k
theorem xK {s0:St} {x:D} {ps:List (List UInt8)} (hx:V.Rows s0 1 x (ps.map tQ)) (hl:ps.length≤1048576) (hb:∀b∈ps,b.length≤1048576):∃d,Ev pv 14 [x] s0 d s0∧∃(ls:List (List fX)) (R:y7),cv ls=R∧ls.length≤8∧R.code.length≤400∧d=.tup [(ui R.code R.ak).d,.bool (R.e==0)]∧(ui R.code R.ak).ok:=by
 refine Ev.FP rfl aca rfl rfl rfl ?_;refine zE ?_;obtain⟨aN,hF,hH⟩:=ri s0;generalize ae .ro s0=S at*;have hx:=Arg.of hx aN;refine zQ 2 ?_;refine qa hH fun k2 st hk2 hH=>?_;refine zQ 11 ?_;have hH:Has s0.bs.length S st (.aF .nul 1 (([]:List (List fX)).map gL)::.box k2 (.mem 0 false [.nul,.nul])::[]):=hH.fW 1;refine zQ 1 ?_;refine ag.loop (fun mm fr st=>∃(i:Nat) (ld:D) (parts:List (List fX)),fr.clean=⟨11,[x,rM fr 1,.ptr k2 0 0,.bool false,ld,.int .i64 (i:Nat),rM fr 6,rM fr 7,rM fr 8,rM fr 9,rM fr 10],[]⟩∧Has s0.bs.length S st [.aF ld 1 (parts.map gL),.box k2 (.mem 0 false [.nul,.nul])]∧(i+mm=8)∧(∀l∈parts,(∀n∈l,CC n)∧l.length≤500)∧(parts.length≤i)) (8) ?_ ?_
 ·exact⟨0,.nul,[],rfl,hH,by omega,fun l hl=>(by cases hl),by simp⟩
 rintro mm fr st ⟨i,ld,parts,hfr,hH,hi,hp,fT⟩;rw[hfr];clear hfr;generalize rM fr=ee;clear fr;refine zQ 2 ?_;refine ag.dM 19 (.bool (decide (((i:Nat):Int)<((ps.length:Nat):Int)) &&decide (((i:Nat):Int)<8))) [] ?_ (fun ff tmp dj=>?_)
 ·refine zQ 2 ?_;refine qn ?_;simp only[List.length_map];refine zQ 2 ?_;refine ab.two 16 rfl (fun iN=>?_) (fun iN=>?_)
  ·refine zQ 3 ?_;refine ab.nil (aR ?_ ?_)
   ·dsimp only[aK,List.foldl,nth,u2,u1]
    all_goals(first|rfl|simp)
   ·refine zF ?_
    all_goals(simp_all;done)
  ·refine zQ 3 ?_;refine ab.nil (aR ?_ ?_)
   ·dsimp only[aK,List.foldl,nth,u2,u1]
    all_goals(first|rfl|simp)
   ·refine zF ?_
    all_goals(simp_all;omega)
 refine zG ?_
 by_cases hlt:i<ps.length∧i<8
 ·obtain⟨b,SV⟩:∃b,ps[i]?=some b:=⟨ps[i]'hlt.1,List.getElem?_eq_getElem _⟩
  have gw:=Ov SV;have hbl:=hb b (List.mem_of_getElem? SV);have oK:(decide (((i:Nat):Int)<((ps.length:Nat):Int)) &&decide (((i:Nat):Int)<8))=true:=by rw[Bool.and_eq_true,decide_eq_true_eq,decide_eq_true_eq];omega
  rw[oK] at dj;refine zQ 4 ?_;obtain⟨_,ax,l,e,w,rfl,hv,px⟩:=Lf (s0:=st) hbl;refine zQ 4 ?_;refine qr fun Ro Gd=>?_;refine qR ?_;refine qv (ax) ?_;refine zQ 13 ?_;refine zI (fun he=>?_) fun he=>?_
  ·refine zQ 3 ?_;refine qh (s:=1) (vs:=[_]) hH fun k35 st adx hH=>?_;refine ab.cL (s:=1) hH rfl (ev rfl) (ev rfl) (by exact aO) (by exact hH.rows (by exact aB)) rfl rfl rfl rfl rfl rfl rfl ⟨(Nat.le_of_ble_eq_true rfl),(Nat.le_of_ble_eq_true rfl)⟩ (fun _=>(aa rfl _)) (by simp only[List.length_cons,List.length_nil,List.length_map]<;>omega) (by exact .inl hF) (fun x36 st hH=>?_);dsimp only[u2,u1,u3,u4,setMany,u5,u6,D.cells,Nat.reduceAdd,gL,vG,Pg.d,Pg.cs,ui] at hH;refine zQ 2 ?_;have hH:=hH.drop 1;refine zQ 5 ?_;refine⟨mm-1,by omega,⟨i+1,x36,parts++[l],rfl,(by rw[List.map_append];exact hH),by omega,?_,by rw[List.length_append];simp only[List.length_cons,List.length_nil];omega⟩⟩;intro l' j7
   rcases List.mem_append.1 j7 with j7|j7
   ·exact hp l' j7
   ·simp only[List.mem_cons,List.not_mem_nil,or_false] at j7;subst j7;exact⟨hv,px⟩
  ·refine zQ 6 ?_;exact⟨mm-1,by omega,⟨i+1,ld,parts,rfl,hH,by omega,hp,by omega⟩⟩
 ·have oK:(decide (((i:Nat):Int)<((ps.length:Nat):Int)) &&decide (((i:Nat):Int)<8))=false:=by
   rw[Bool.and_eq_false_iff,decide_eq_false_iff_not,decide_eq_false_iff_not];omega
  rw[oK] at dj;refine zQ 2 ?_;obtain⟨ax,ba,hlen⟩:=GP hp (by omega) (hH.rows aB);generalize hRR:cv parts=R at*;refine zQ 3 ?_;refine qv (ax) ?_;refine zQ 4 ?_;refine qa hH fun k9 st PB hH=>?_;refine qS hH aB fun st hH=>?_;dsimp only[u2,u1,u3,u4,setMany,u5,u6,D.cells,Nat.reduceAdd,gL,vG,Pg.d,Pg.cs,ui] at hH;refine zQ 5 ?_;refine ab.av (m:=2) hH rfl (ev rfl) (by exact aB) (by dsimp only[List.drop_succ_cons,List.drop_zero,List.take_succ_cons,List.take_zero,gL,vG,Pg.d,Pg.cs,ui]<;>rfl) rfl rfl (aa rfl _) ?_;refine zQ 2 ?_;refine qS hH a_ fun st hH=>?_;dsimp only[u2,u1,u3,u4,setMany,u5,u6,D.cells,Nat.reduceAdd,gL,vG,Pg.d,Pg.cs,ui] at hH;refine zQ 2 ?_;refine ag.ret ⟨rx,_,_,hH.fm rfl a_ rfl rfl,rl aN hH (show _=some (D.tup [(ui R.code R.ak).d,.bool (R.e==0)]) from rfl),⟨parts,R,hRR,by omega,hlen,rfl,ba⟩⟩
def kF:Nat→Nat→Nat
 |0,_=>0
 |f+1,m=>if m=0 then 0 else kF f (m/256)+1
def kB (m:Nat):Nat:=kF 8 m
def tA:Nat→Nat→List UInt8
 |0,_=>[]
 |k+1,m=>UInt8.ofNat (m/256^k)::tA k m
def aQ (n:Int):List UInt8:=UInt8.ofNat (kB n.toNat)::tA (kB n.toNat) n.toNat
theorem QC:∀f m,kF f m≤f
 |0,_=>Nat.le_refl _
 |f+1,m=>by
  unfold kF
  split
  ·omega
  ·have:=QC f (m/256);omega
theorem HQ (m:Nat):kB m≤8:=QC 8 m
theorem q_:∀k m,(tA k m).length=k
 |0,_=>rfl
 |k+1,m=>by simp only[tA,List.length_cons,q_ k m]
theorem o_ (n:Int):(aQ n).length=kB n.toNat+1:=by simp only[aQ,List.length_cons,q_]
theorem aV (n:Int):(aQ n).length≤9:=by rw[o_];have:=HQ n.toNat;omega
theorem HP:∀f m,m<256^f→m/256^kF f m=0∧∀j,j<kF f m→0<m/256^j
 |0,m,h=>by
  have:m=0:=by simpa using h
  subst this;exact⟨by simp[kF],fun j hj=>by simp[kF] at hj⟩
 |f+1,m,h=>by
  unfold kF
  split
  ·rename_i h0;subst h0;exact⟨by simp,fun j hj=>by omega⟩
  ·rename_i h0
   have hd:m/256<256^f:=by
    rw[Nat.pow_succ] at h;exact Nat.div_lt_of_lt_mul (by omega)
   obtain⟨h1,h2⟩:=HP f (m/256) hd;refine⟨by rw[Nat.pow_succ,Nat.mul_comm,←Nat.div_div_eq_div_mul];exact h1,fun j hj=>?_⟩
   cases j with
   |zero=>simp;omega
   |succ j=>rw[Nat.pow_succ,Nat.mul_comm,←Nat.div_div_eq_div_mul];exact h2 j (by omega)
theorem wu {m:Nat} (h:m<256^8):m/256^kB m=0∧∀j,j<kB m→0<m/256^j:=HP 8 m h
structure df where
 at_:Nat
 e:Int
def df.ok (b:List UInt8) (s:df):Prop:=s.at_≤b.length
end Go.Proofs.YtecjacicdpejaaaGreat
namespace Go.V
variable{P:Pv} {ops:Array Oper} {rest:List Oper} {fr aM:Fr} {st:St} {Q:Fr→St→Prop} {ty:TypeId} {pp:String} {a:Array Edge} {g:Option (Nat×Bool)} {dst:Nat}
variable{N:Nat} {S:St} {H:List bo}
theorem Has.Iu {j:Nat} {x y:D} {s:Nat} {es ys:List (List D)} (hH:Has N S st H) (hj:H[j]?=some (.aF x s es)) (kL:su st y=some (ys.length,ys.flatten)) (zj:∀e∈ys,e.length=s) {t1 t2 e:TypeId} {td:TypeDesc} {inf:TypeInfo} {z:List D}
  (h1:P.db t1=some (.slice e)) (h2:P.db t2=some td) (h3:gD td=false) (h4:P.info e=some inf) (h5:ec P e=some z) (h6:inf.size=s) (h7:z.length=s) (h8:0<inf.bytes∧inf.bytes≤1024)
  (hb1:inf.bytes=1) (nN:es.length+ys.length≤1099511627776) (hw:S.flr≤N∨refs ys.flatten=0):
  ∃x' ai,bW P .append [t1,t2] [x,y] st=some (x',ai)∧Has N S ai (H.set j (.aF x' s (es++ys)))∧(ys=[]→x'=x):=by
 have hb:(es.length+ys.length)*inf.bytes≤1099511627776:=by rw[hb1,Nat.mul_one];exact nN
 have mZ:=dV zj;have hown:=hH.own hj;have hkk:=(hH.ok j _ hj).2;have hS:=hH.len;have hNS:=hH.hN;subst h6;simp only[bW,jV,h1,h2,h3,Bool.false_eq_true,if_false,h4,h5,kL,Option.bind_some];rw[if_neg (by rintro(h|h|h);exact h mZ;exact absurd h (by omega);exact h h7)]
 have iM:∀e,H[j]?=some e→H.set j e=H:=fun e he=>by
  apply List.ext_getElem?;intro i
  by_cases hij:i=j
  ·subst hij
   have:i<H.length:=by
    rcases Nat.lt_or_ge i H.length with h'|h'
    ·exact h'
    ·rw[List.getElem?_eq_none h'] at he;cases he
   rw[List.getElem?_set_self this,he]
  ·rw[List.getElem?_set_ne (fun e=>hij e.symm)]
 cases hown with
 |nul=>
  simp only[List.nil_append]
  by_cases h0:ys.length=0
  ·rw[if_pos h0]
   have:ys=[]:=by cases ys with|nil=>rfl|cons _ _=>simp at h0
   subst this;exact⟨.nul,st,rfl,by rw[iM _ hj];exact hH,fun _=>rfl⟩
  ·rw[if_neg h0,if_pos (by simpa using hb)];refine⟨_,_,rfl,?_,fun e=>absurd (by rw[e];rfl) h0⟩;refine hH.Fc hj (fun k hk _=>by simp only[St.push];rw[List.getElem?_append_left hk]) (by simp[St.push]) rfl rfl ?_ (fun k hk=>?_) fun k hk=>?_
   ·exact kA.win _ 0 0 ys ys.flatten (iS st _) (by rw[mZ];omega) (by rw[List.drop_zero,←mZ,List.take_length]) zj
   ·simp only[bo.aF,D.ref] at hk;right;omega
   ·simp only[bo.aF,D.ref] at hk;simp only[St.push,List.length_append,List.length_cons,List.length_nil];omega
 |win k aE off es c hm hl hc he=>
  have hk:=hkk k (by simp only[bo.aF,D.ref]);simp only[St.mem_of hm];rw[if_neg (by rintro(h|h);exact h rfl;omega)]
  by_cases h0:ys.length=0
  ·rw[if_pos h0]
   have:ys=[]:=by cases ys with|nil=>rfl|cons _ _=>simp at h0
   subst this;simp only[List.append_nil];exact⟨_,st,rfl,by rw[iM _ hj];exact hH,fun _=>rfl⟩
  ·rw[if_neg h0,if_pos ⟨hb,jT hH hk.1 hw⟩];refine⟨_,_,rfl,?_,fun e=>absurd (by rw[e];rfl) h0⟩;have px:es.length+ys.length=(es++ys).length:=by simp
   have lh:(c.take (off+es.length*inf.size)).drop off=es.flatten:=by rw[List.drop_take,←hc];congr 1;omega
   rw[px,lh];refine hH.Fc hj (fun n hn hne=>by simp only;rw[List.getElem?_set_ne (fun e=>hne (by simp only[bo.aF,D.ref];omega))]) (by simp) rfl rfl ?_ (fun n hn=>?_) fun n hn=>?_
   ·have tJ:∀e∈es++ys,e.length=inf.size:=fun e h=>by
     rcases List.mem_append.1 h with h|h
     ·exact he e h
     ·exact zj e h
    have My:=dV tJ;refine kA.win k (aE+1) 0 (es++ys) (es++ys).flatten ?_ (by rw[My];omega) (by rw[List.drop_zero,←My,List.take_length]) tJ;simp only;rw[List.getElem?_set_self hk.2,List.flatten_append]
   ·simp only[bo.aF,D.ref] at hn⊢;left;omega
   ·simp only[bo.aF,D.ref] at hn;simp only[List.length_set];omega
theorem ab.iO {j:Nat} {x y:D} {s:Nat} {es ys:List (List D)} {t1 t2 e:TypeId} {td:TypeDesc} {inf:TypeInfo} {z:List D} {xo yo:Operand} {aM:D→Fr} (hH:Has N S st H) (hg:aH ops fr ⟨some dst,.call ⟨.builtin .append,#[xo,yo],#[t1,t2]⟩,ty,pp,a,g⟩=some true)
  (hx:fr.ev xo=x) (hy:fr.ev yo=y) (hj:H[j]?=some (.aF x s es)) (mz:Rows st s y ys)
  (h1:P.db t1=some (.slice e)) (h2:P.db t2=some td) (h3:gD td=false) (h4:P.info e=some inf) (h5:ec P e=some z) (h6:inf.size=s) (h7:z.length=s) (h8:0<inf.bytes∧inf.bytes≤1024)
  (hp:∀x',fr.put dst x'=aM x') (hb1:inf.bytes=1) (hb:es.length+ys.length≤1099511627776) (hw:S.flr≤N∨refs ys.flatten=0)
  (h:∀x' ai,Has N S ai (H.set j (.aF x' s (es++ys)))→ab P ops rest (aM x') ai Q):
  ab P ops (⟨some dst,.call ⟨.builtin .append,#[xo,yo],#[t1,t2]⟩,ty,pp,a,g⟩::rest) fr st Q:=by
 obtain⟨x',ai,q1,q2,q3⟩:=hH.Iu hj mz.row (fun e he=>by obtain⟨i,hi⟩:=List.getElem?_of_mem he;exact mz.yD i e hi) h1 h2 h3 h4 h5 h6 h7 h8 hb1 hb hw;refine ab.go hg rfl (d:=x') (st1:=ai) ?_ (hp _) (h x' ai q2);simp only[eS,List.map_cons,List.map_nil,hx,hy];exact q1
theorem ab.Sr {t e:TypeId} {lo co:Operand} {k1 k2:IntKind} {m:Int} {inf:TypeInfo} {z:List D} {s:Nat} {aM:Nat→Fr} (hH:Has N S st H) (hg:aH ops fr ⟨some dst,.makeSlice t lo co,ty,pp,a,g⟩=some true)
  (hl:fr.ev lo=.int k1 0) (hc:fr.ev co=.int k2 m) (ht:P.db t=some (.slice e)) (hi:P.info e=some inf) (hz:ec P e=some z) (hsz:inf.size=s) (oB:z.length=s) (YG:inf.bytes≤1024) (lC:0≤m∧m≤137438953472) (hp:∀k,fr.put dst (.win k 0 0 0 s)=aM k)
  (h:∀k ai,S.bs.length≤k→Has N S ai (.aF (.win k 0 0 0 s) s []::H)→ab P ops rest (aM k) ai Q):ab P ops (⟨some dst,.makeSlice t lo co,ty,pp,a,g⟩::rest) fr st Q:=by
 subst hsz;have hb:m*(inf.bytes:Int)≤140737488355328:=Int.le_trans (Int.mul_le_mul lC.2 (show(inf.bytes:Int)≤1024 by omega) (by omega) (by omega)) (by decide);refine ab.go hg rfl (d:=.win st.bs.length 0 0 0 inf.size) (st1:=st.push (.mem 0 true [])) ?_ (hp _) (h _ _ hH.len (hH.wj rfl rfl (fun e he=>by cases he)));simp only[eS,hl,hc,jf,ht,hi,hz,Option.bind_some];rw[if_pos ⟨oB,by omega,by omega,by omega,hb⟩]
 rfl
theorem Has.dU {s0 S st:St} {H:List bo} (hS:S.bs=s0.bs) (du:s0.ro≤s0.bs.length) (h:Has s0.bs.length S st H):Has s0.bs.length s0 ⟨st.bs,s0.flr,s0.ro⟩ H:=by
 refine⟨⟨fun k hk=>?_,?_,rfl,rfl⟩,Nat.le_refl _,du,fun i e hi=>⟨@bo.loc e st ⟨st.bs,s0.flr,s0.ro⟩ (fun _ _=>rfl) (h.ok i e hi).1,(h.ok i e hi).2⟩,h.dis⟩
 ·rw[←hS];exact h.ex.low k hk
 ·rw[←hS];exact h.ex.len
theorem Has.hY {N:Nat} {S st ai:St} {H H2:List bo} (h:Has N S st H) (h2:Has st.bs.length st ai H2):Has N S ai (H2++H):=by
 have hN:=h.hN;have hl:=h.ex.len;have ry:=h2.ex.len;refine⟨⟨fun k hk=>?_,by omega,h2.ex.flr.trans h.ex.flr,h2.ex.ro.trans h.ex.ro⟩,hN,h.du,fun i e hi=>?_,fun i j a b hij ha hb k sX kQ=>?_⟩
 ·rw[h2.ex.low k (by omega)];exact h.ex.low k hk
 ·by_cases hlt:i<H2.length
  ·rw[List.getElem?_append_left hlt] at hi;obtain⟨h3,h4⟩:=h2.ok i e hi;exact⟨h3,fun k hk=>⟨by have:=(h4 k hk).1;omega,(h4 k hk).2⟩⟩
  ·rw[List.getElem?_append_right (by omega)] at hi;obtain⟨h3,h4⟩:=h.ok _ e hi;exact⟨e.loc (fun k hk=>h2.ex.low k (h4 k hk).2) h3,fun k hk=>⟨(h4 k hk).1,by have:=(h4 k hk).2;omega⟩⟩
 ·by_cases h1:i<H2.length<;>by_cases h3:j<H2.length
  ·rw[List.getElem?_append_left h1] at ha;rw[List.getElem?_append_left h3] at hb;exact h2.dis i j a b hij ha hb k sX kQ
  ·rw[List.getElem?_append_left h1] at ha;rw[List.getElem?_append_right (by omega)] at hb;have:=((h2.ok _ a ha).2 k sX).1;have:=((h.ok _ b hb).2 k kQ).2;omega
  ·rw[List.getElem?_append_right (by omega)] at ha;rw[List.getElem?_append_left h3] at hb;have:=((h2.ok _ b hb).2 k kQ).1;have:=((h.ok _ a ha).2 k sX).2;omega
  ·rw[List.getElem?_append_right (by omega)] at ha hb;exact h.dis _ _ a b (by omega) ha hb k sX kQ
theorem ab.Ef {j:Nat} {x:D} {b:List UInt8} {es:List (List D)} {t1 t2 e:TypeId} {td:TypeDesc} {inf:TypeInfo} {z:List D} {xo yo:Operand} {aM:D→Fr} (hH:Has N S st H) (hg:aH ops fr ⟨some dst,.call ⟨.builtin .append,#[xo,yo],#[t1,t2]⟩,ty,pp,a,g⟩=some true)
  (hx:fr.ev xo=x) (hy:fr.ev yo=.str b) (hj:H[j]?=some (.aF x 1 es))
  (h1:P.db t1=some (.slice e)) (h2:P.db t2=some td) (h3:gD td=false) (h4:P.info e=some inf) (h5:ec P e=some z) (h6:inf.size=1) (h7:z.length=1) (h8:0<inf.bytes∧inf.bytes≤1024)
  (hp:∀x',fr.put dst x'=aM x') (hb1:inf.bytes=1) (hb:es.length+b.length≤1099511627776)
  (h:∀x' ai,Has N S ai (H.set j (.aF x' 1 (es++byteCells b)))→ab P ops rest (aM x') ai Q):
  ab P ops (⟨some dst,.call ⟨.builtin .append,#[xo,yo],#[t1,t2]⟩,ty,pp,a,g⟩::rest) fr st Q:=by
 have mZ:∀b:List UInt8,(byteCells b).flatten=b.map fun y=>.int .u8 (y.toNat:Nat):=by
  intro b
  induction b with
  |nil=>rfl
  |cons y b ih=>simp only[byteCells,List.map_cons,List.flatten_cons] at ih⊢;rw[ih];rfl
 have YI:(byteCells b).length=b.length:=by simp[byteCells]
 have fT:∀b:List UInt8,refs (b.map fun y=>D.int .u8 (y.toNat:Nat))=0:=by
  intro b
  induction b with
  |nil=>rfl
  |cons y b ih=>simp only[List.map_cons,refs,D.ref,ih];rfl
 obtain⟨x',ai,q1,q2,q3⟩:=hH.Iu (y:=.str b) (ys:=byteCells b) hj (by rw[YI,mZ];rfl) (fun e he=>by obtain⟨y,_,rfl⟩:=List.mem_map.1 he;rfl) h1 h2 h3 h4 h5 h6 h7 h8 hb1 (by rw[YI];exact hb) (.inr (by rw[mZ];exact fT b));refine ab.go hg rfl (d:=x') (st1:=ai) ?_ (hp _) (h x' ai q2);simp only[eS,List.map_cons,List.map_nil,hx,hy];exact q1
theorem Has.de (hF:S.flr≤N) (hH:Has N S st H):st.flr≤st.bs.length∧st.ro≤st.bs.length:=by
 have h1:=hH.ex.flr;have h2:=hH.ex.ro;have h3:=hH.du;have h4:=hH.hN;have h5:=hH.ex.len;constructor<;>omega
end Go.V
namespace Go.Proofs.YtecjacicdpejaaaGreat
open Go.V Go
def jL (fr:Go.V.Fr) (k:Nat):Go.V.D:=Go.V.nth .bI fr.loc k
def kC (s0 st:St) (d:D) (b:List UInt8):Prop:=Has s0.bs.length s0 st [.aF d 1 (byteCells b)]
theorem kC.over {N:Nat} {S s0 st:St} {H:List bo} {d:D} {b:List UInt8} (h:kC s0 st d b) (hH:Has N S s0 H):Has N S st (.aF d 1 (byteCells b)::H):=hH.hY h
theorem pN (a b:List UInt8):byteCells (a++b)=byteCells a++byteCells b:=by unfold byteCells;rw[List.map_append]
theorem Nn (k:Nat) (hk:k<2^63) (st:St):j8 pv 3 123 (.int .i64 (k:Nat)) st=some (.int .u64 (k:Nat),st):=by
 show some (D.int .u64 (bJ .u64 (k:Nat)),st)=_;rw[ct (by simp only[ic];omega)]
theorem HH (k:Nat) (hk:k≤8) (st:St):(fw pv .mul 123 (.int .u64 8) (.int .u64 (k:Nat))).map (fun d=>(d,st))=some (.int .u64 ((8*k:Nat):Int),st):=by
 show Option.map _ (some (D.int .u64 (bJ .u64 (8*(k:Nat)))))=_;rw[show(8:Int)*(k:Nat)=((8*k:Nat):Int) by omega,ct (by simp only[ic];omega)];rfl
theorem M7 (m k:Nat):Int.fdiv (m:Nat) (2^(8*k))=((m/256^k:Nat):Int):=by
 have e:((2:Int)^(8*k))=((256^k:Nat):Int):=by
  rw[Int.pow_mul,Int.natCast_pow];rfl
 rw[e,Int.fdiv_eq_ediv_of_nonneg _ (Int.natCast_nonneg _)];rfl
theorem Hn (m k:Nat) (hk:k≤8) (st:St):(fw pv .shr 151 (.int .u64 (m:Nat)) (.int .u64 ((8*k:Nat):Int))).map (fun d=>(d,st))=some (.int .u64 ((m/256^k:Nat):Int),st):=by
 show Option.map _ (if((8*k:Nat):Int)<0 then none else some (D.int .u64 (Int.fdiv (m:Nat) (2^(min ((8*k:Nat):Int).toNat 64)))))=_;rw[if_neg (by omega),Int.toNat_natCast,Nat.min_eq_left (by omega),M7];rfl
theorem Q4 {q:Nat} (hq:q<256):byteCells [UInt8.ofNat q]=[[D.int .u8 (q:Nat)]]:=by
 show[[D.int .u8 ((UInt8.ofNat q).toNat:Nat)]]=_;rw[UInt8.toNat_ofNat',Nat.mod_eq_of_lt hq]
theorem Nw {q:Nat}:byteCells [UInt8.ofNat q]=[[D.int .u8 ((q %256:Nat):Int)]]:=by
 show[[D.int .u8 ((UInt8.ofNat q).toNat:Nat)]]=_;rw[UInt8.toNat_ofNat']
theorem Kk (q:Nat):bJ .u8 (q:Nat)=((q %256:Nat):Int):=by
 rw[kI];rfl
theorem Tf (q:Nat) (st:St):j8 pv 151 5 (.int .u64 (q:Nat)) st=some (.int .u8 ((q %256:Nat):Int),st):=by
 show some (D.int .u8 (bJ .u8 (q:Nat)),st)=_;rw[Kk]
theorem CJ {s0:St} {x:D} {b:List UInt8} (hF:s0.flr≤s0.bs.length) (du:s0.ro≤s0.bs.length) (hx:V.Rows s0 1 x (byteCells b)) (hl:b.length≤68719476736) (room:Nat) (hr:room≤68719476736):
  ∃d ai,Ev pv 140 [x,.int .i64 (room:Nat)] s0 d ai∧kC s0 ai d b:=by
 have uN:=au b;refine Ev.eN rfl XK rfl rfl rfl ?_;refine zE ?_;have aN:(ae .nw s0).bs=s0.bs:=rfl;have hF:(ae .nw s0).flr≤s0.bs.length:=hF;have hH:Has s0.bs.length (ae .nw s0) (ae .nw s0) []:=Has.start (Nat.le_refl _) (Nat.le_refl _);generalize ae .nw s0=S at*;have hx:=Arg.of hx aN;refine zQ 7 ?_;refine qn ?_;refine qm ?_;refine ab.e_ (z:=((b.length+room:Nat):Int)) rfl (ev rfl) (ev rfl) (by(try simp only[List.length_reverse,List.length_cons,List.length_nil,List.length_append,List.length_map,List.length_set]);rw[wrap_i64 (by omega) (by omega)]<;>omega) (aa rfl _) ?_;refine ab.Sr (s:=1) hH rfl (ev rfl) (ev rfl) rfl rfl rfl rfl rfl (Nat.le_of_ble_eq_true rfl) (by omega) (fun _=>(aa rfl _)) (fun k10 st VI hH=>?_);refine zQ 6 ?_;refine ab.iO (s:=1) hH rfl (ev rfl) (ev rfl) (by exact aB) (by exact Arg.rows (by assumption) hH) rfl rfl rfl rfl rfl rfl rfl ⟨(Nat.le_of_ble_eq_true rfl),(Nat.le_of_ble_eq_true rfl)⟩ (fun _=>(aa rfl _)) rfl (by simp only[List.length_nil]<;>omega) (by exact .inl hF) (fun x13 st hH=>?_);dsimp only[u2,u1,u3,u4,setMany,u5,u6,D.cells,Nat.reduceAdd] at hH;refine zQ 2 ?_;refine ag.ret ⟨rx,_,_,_,rfl,rfl,?_⟩;exact hH.dU aN du
theorem eR {s0:St} {x:D} {b:List UInt8} (hF:s0.flr≤s0.bs.length) (du:s0.ro≤s0.bs.length) (hx:V.Rows s0 1 x (byteCells b)) (hl:b.length≤60000000000) (n:Int) (hn:n<9223372036854775808):
  ∃d ai,Ev pv 73 [x,.int .i64 n] s0 d ai∧kC s0 ai d (b++aQ n):=by
 obtain⟨m,hm⟩:∃m,n.toNat=m:=⟨_,rfl⟩
 have D9:m<256^8:=by omega
 obtain⟨rj,hk2⟩:=wu D9;have N':=HQ m;have TM:aQ n=UInt8.ofNat (kB m)::tA (kB m) m:=by unfold aQ;rw[hm]
 have uN:=au b;rw[TM];refine Ev.eN rfl abA rfl rfl rfl ?_;refine zE ?_;have aN:(ae .nw s0).bs=s0.bs:=rfl;have hF:(ae .nw s0).flr≤s0.bs.length:=hF;have hH:Has s0.bs.length (ae .nw s0) (ae .nw s0) []:=Has.start (Nat.le_refl _) (Nat.le_refl _);generalize ae .nw s0=S at*;have hx:=Arg.of hx aN;refine zQ 7 ?_;obtain⟨d5,st,ax,ho⟩:=CJ (s0:=S) (x:=x) (b:=b) (by rw[aN];exact hF) (by rw[aN];exact hH.du) (hx.rows hH) (by omega) 9 (by omega);have hH:=hH.hY ho
 (try dsimp only[List.append_nil] at hH)
 refine qv ax ?_;refine zQ 5 ?_;refine ab.Je (t1:=0) (t2:=0) rfl (ev rfl) (ev rfl) (aa rfl _) ?_;refine ab.go (d:=.int .u64 (m:Nat)) (st1:=_) rfl rfl (by show some (D.int .u64 (bJ .u64 (max n 0)),_)=_;rw[show max n 0=(m:Int) by omega,ct (by simp only[ic];omega)]) (aa rfl _) ?_;refine zQ 8 ?_;refine ag.loop (fun mm fr st=>∃(k:Nat),fr.clean=⟨9,[jL fr 0,jL fr 1,jL fr 2,jL fr 3,jL fr 4,d5,.int .u64 (m:Nat),.int .i64 (k:Nat),jL fr 8],[]⟩∧Has s0.bs.length S st [.aF d5 1 (byteCells b)]∧(k+mm=kB m)) (kB m) ?_ ?_
 ·exact⟨0,rfl,hH,by omega⟩
 rintro mm fr st ⟨k,hfr,hH,hk⟩;rw[hfr];clear hfr;generalize jL fr=ee;clear fr;refine zQ 2 ?_;refine ag.dM 23 (.bool (decide (((k:Nat):Int)<8) &&decide (((m/256^k:Nat):Int)>0))) [] ?_ (fun ff tmp dj=>?_)
 ·refine zQ 3 ?_;refine ab.two 16 rfl (fun br=>?_) (fun br=>?_)
  ·refine zQ 2 ?_;refine ab.go (d:=.int .u64 (k:Nat)) (st1:=_) (af rfl rfl rfl br) rfl (by exact Nn k (by omega) _) (aa rfl _) ?_;refine ab.go (d:=.int .u64 ((8*k:Nat):Int)) (st1:=_) (af rfl rfl rfl br) rfl (by exact HH k (by omega) _) (aa rfl _) ?_;refine ab.go (d:=.int .u64 ((m/256^k:Nat):Int)) (st1:=_) (af rfl rfl rfl br) rfl (by exact Hn m k (by omega) _) (aa rfl _) ?_;refine zQ 2 ?_;refine ab.nil (aR ?_ ?_)
   ·dsimp only[aK,List.foldl,nth,u2,u1]
    all_goals(first|rfl|simp)
   ·refine zF ?_
    all_goals(simp[br];done)
  ·refine zQ 7 ?_;refine ab.nil (aR ?_ ?_)
   ·dsimp only[aK,List.foldl,nth,u2,u1]
    all_goals(first|rfl|simp)
   ·refine zF ?_
    all_goals(simp[br];done)
 refine zG ?_
 by_cases hlt:k<kB m
 ·have hp:=hk2 k hlt
  have JA:(decide (((k:Nat):Int)<8) &&decide (((m/256^k:Nat):Int)>0))=true:=by
   rw[decide_eq_true (by omega),decide_eq_true (by omega)];rfl
  refine ag.cond (v:=true) (by dsimp only[Fr.ev,Fr.get,nth,V.look];exact dj.trans (congrArg D.bool JA)) (fun _=>?_) (fun h=>by cases h);refine zQ 7 ?_;exact⟨mm-1,by omega,⟨k+1,rfl,hH,by omega⟩⟩
 ·have Vz:k=kB m:=by omega
  subst Vz
  have gF:(decide (((kB m:Nat):Int)<8) &&decide (((m/256^kB m:Nat):Int)>0))=false:=by
   rw[rj];simp
  refine ag.cond (v:=false) (by dsimp only[Fr.ev,Fr.get,nth,V.look];exact dj.trans (congrArg D.bool gF)) (fun h=>by cases h) (fun _=>?_);refine zQ 5 ?_;refine ab.go (d:=.int .u8 (kB m:Nat)) (st1:=_) rfl rfl (by show some (D.int .u8 (bJ .u8 (kB m:Nat)),_)=_;rw[ct (by simp only[ic];omega)]) (aa rfl _) ?_;refine qh (s:=1) (vs:=[_]) hH fun k29 st VE hH=>?_;refine ab.iO (s:=1) hH rfl (ev rfl) (ev rfl) (by exact aO) (by exact hH.rows (by exact aB)) rfl rfl rfl rfl rfl rfl rfl ⟨(Nat.le_of_ble_eq_true rfl),(Nat.le_of_ble_eq_true rfl)⟩ (fun _=>(aa rfl _)) rfl (by simp only[List.length_cons,List.length_nil,List.length_map]<;>omega) (by exact .inl hF) (fun Y1 st hH=>?_);dsimp only[u2,u1,u3,u4,setMany,u5,u6,D.cells,Nat.reduceAdd] at hH;refine zQ 2 ?_
  have hH:Has s0.bs.length S st [.aF Y1 1 (byteCells (b++[UInt8.ofNat (kB m)]))]:=by
   rw[pN,Q4 (by omega)];exact hH.drop 1
  refine zQ 4 ?_;refine ab.KB rfl (ev rfl) (ev rfl) (by omega) (by omega) (aa rfl _) ?_;refine zQ 2 ?_;have hbl:∀j,(tA j m).length=j:=fun j=>q_ j m
  obtain⟨T,hT⟩:∃T,b++UInt8.ofNat (kB m)::tA (kB m) m=T:=⟨_,rfl⟩
  have Wc:T.length=b.length+kB m+1:=by rw[←hT];simp[hbl];omega
  refine zQ 1 ?_;refine ag.loop (fun mm fr st=>∃(j:Nat) (y:D) (pre:List UInt8),fr.clean=⟨9,[jL fr 0,jL fr 1,jL fr 2,jL fr 3,jL fr 4,y,.int .u64 (m:Nat),jL fr 7,.int .i64 ((j:Int)-1)],[]⟩∧Has s0.bs.length S st [.aF y 1 (byteCells pre)]∧(j=mm)∧(j≤kB m)∧(pre++tA j m=T)) (kB m) ?_ ?_
  ·exact⟨kB m,Y1,b++[UInt8.ofNat (kB m)],rfl,hH,rfl,Nat.le_refl _,(by rw[←hT,List.append_assoc];rfl)⟩
  rintro mm fr st ⟨j,y,pre,hfr,hH,hj,hjk,hp⟩;rw[hfr];clear hfr;generalize jL fr=ee;clear fr;have fT:pre.length+j=T.length:=by rw[←hp,List.length_append,hbl]
  have hbp:=au pre;refine zQ 6 ?_
  cases j with
  |succ j=>
   have hc:decide (((j+1:Nat):Int)-1≥0)=true:=by rw[decide_eq_true_eq];omega
   refine qD rfl (by rw[hc]) ?_;refine zQ 1 ?_;have SG:((j+1:Nat):Int)-1=(j:Nat):=by omega
   rw[SG];have hq:m/256^j %256<256:=Nat.mod_lt _ (by decide);refine zQ 6 ?_;refine ab.go (d:=.int .u64 (j:Nat)) (st1:=_) rfl rfl (by exact Nn j (by omega) _) (aa rfl _) ?_;refine ab.go (d:=.int .u64 ((8*j:Nat):Int)) (st1:=_) rfl rfl (by exact HH j (by omega) _) (aa rfl _) ?_;refine ab.go (d:=.int .u64 ((m/256^j:Nat):Int)) (st1:=_) rfl rfl (by exact Hn m j (by omega) _) (aa rfl _) ?_;refine ab.go (d:=.int .u8 ((m/256^j %256:Nat):Int)) (st1:=_) rfl rfl (by exact Tf _ _) (aa rfl _) ?_;refine qh (s:=1) (vs:=[_]) hH fun k44 st aaB hH=>?_;refine ab.iO (s:=1) hH rfl (ev rfl) (ev rfl) (by exact aO) (by exact hH.rows (by exact aB)) rfl rfl rfl rfl rfl rfl rfl ⟨(Nat.le_of_ble_eq_true rfl),(Nat.le_of_ble_eq_true rfl)⟩ (fun _=>(aa rfl _)) rfl (by simp only[List.length_cons,List.length_nil,List.length_map]<;>omega) (by exact .inl hF) (fun Y0 st hH=>?_);dsimp only[u2,u1,u3,u4,setMany,u5,u6,D.cells,Nat.reduceAdd] at hH;refine zQ 2 ?_
   have hH:Has s0.bs.length S st [.aF Y0 1 (byteCells (pre++[UInt8.ofNat (m/256^j)]))]:=by
    rw[pN,Nw];exact hH.drop 1
   refine zQ 2 ?_;refine ab.gd (z:=((j:Int)-1)) rfl (ev rfl) (ev rfl) (by(try simp only[List.length_reverse,List.length_cons,List.length_nil,List.length_append,List.length_map,List.length_set]);rw[wrap_i64 (by omega) (by omega)]<;>omega) (aa rfl _) ?_;refine zQ 2 ?_;exact⟨j,by omega,⟨j,Y0,pre++[UInt8.ofNat (m/256^j)],rfl,hH,rfl,by omega,(by rw[List.append_assoc];exact hp)⟩⟩
  |zero=>
   have hc:decide (((0:Nat):Int)-1≥0)=false:=rfl;refine qE rfl (by rw[hc]) ?_;refine zQ 1 ?_;have Z9:pre=T:=by rw[←hp];simp[tA]
   subst Z9;refine zQ 5 ?_;refine ag.ret ⟨rx,_,_,_,rfl,rfl,?_⟩;rw[hT];exact hH.dU aN du
end Go.Proofs.YtecjacicdpejaaaGreat
namespace Go.Proofs.YtecjacicdpejaaaGreat
open Go.V Go
def eP (c:Nat):Nat:=if c<128 then 1 else if c<194 then 0 else if c<224 then 2 else if c<240 then 3 else if c<245 then 4 else 0
theorem HG (c : Nat) (st : St) : Ev pv 223 [.int .u8 c] st (.int .i64 (eP c : Nat)) st := by
 refine Ev.gP rfl WW rfl rfl rfl ?_;refine zE ?_;unfold eP
 repeat' split
 ·(repeat (first | refine xT ?_ | refine xL ?_ | refine xN ?_ | refine xo ?_ | refine xp ?_ | (refine ab.nil ?_; try refine zF ?_) | refine qq ?_ | refine ag.cT ?_ | refine ag.cond (v := true) rfl (fun _ => ?_) (fun h => by cases h) | refine ag.cond (v := false) rfl (fun h => by cases h) (fun _ => ?_) | refine ag.skip ?_ | refine ag.block ?_ | simp (disch := omega) only [decide_eq_true, decide_eq_false, gu, jr, gr, jq]));refine ag.ret ⟨rx, _, rfl, aU (by simp) (by simp [ae]) ?_⟩
  rfl
 ·(repeat (first | refine xT ?_ | refine xL ?_ | refine xN ?_ | refine xo ?_ | refine xp ?_ | (refine ab.nil ?_; try refine zF ?_) | refine qq ?_ | refine ag.cT ?_ | refine ag.cond (v := true) rfl (fun _ => ?_) (fun h => by cases h) | refine ag.cond (v := false) rfl (fun h => by cases h) (fun _ => ?_) | refine ag.skip ?_ | refine ag.block ?_ | simp (disch := omega) only [decide_eq_true, decide_eq_false, gu, jr, gr, jq]));refine ag.ret ⟨rx, _, rfl, aU (by simp) (by simp [ae]) ?_⟩
  rfl
 ·(repeat (first | refine xT ?_ | refine xL ?_ | refine xN ?_ | refine xo ?_ | refine xp ?_ | (refine ab.nil ?_; try refine zF ?_) | refine qq ?_ | refine ag.cT ?_ | refine ag.cond (v := true) rfl (fun _ => ?_) (fun h => by cases h) | refine ag.cond (v := false) rfl (fun h => by cases h) (fun _ => ?_) | refine ag.skip ?_ | refine ag.block ?_ | simp (disch := omega) only [decide_eq_true, decide_eq_false, gu, jr, gr, jq]));refine ag.ret ⟨rx, _, rfl, aU (by simp) (by simp [ae]) ?_⟩
  rfl
 ·(repeat (first | refine xT ?_ | refine xL ?_ | refine xN ?_ | refine xo ?_ | refine xp ?_ | (refine ab.nil ?_; try refine zF ?_) | refine qq ?_ | refine ag.cT ?_ | refine ag.cond (v := true) rfl (fun _ => ?_) (fun h => by cases h) | refine ag.cond (v := false) rfl (fun h => by cases h) (fun _ => ?_) | refine ag.skip ?_ | refine ag.block ?_ | simp (disch := omega) only [decide_eq_true, decide_eq_false, gu, jr, gr, jq]));refine ag.ret ⟨rx, _, rfl, aU (by simp) (by simp [ae]) ?_⟩
  rfl
 ·(repeat (first | refine xT ?_ | refine xL ?_ | refine xN ?_ | refine xo ?_ | refine xp ?_ | (refine ab.nil ?_; try refine zF ?_) | refine qq ?_ | refine ag.cT ?_ | refine ag.cond (v := true) rfl (fun _ => ?_) (fun h => by cases h) | refine ag.cond (v := false) rfl (fun h => by cases h) (fun _ => ?_) | refine ag.skip ?_ | refine ag.block ?_ | simp (disch := omega) only [decide_eq_true, decide_eq_false, gu, jr, gr, jq]));refine ag.ret ⟨rx, _, rfl, aU (by simp) (by simp [ae]) ?_⟩
  rfl
 ·(repeat (first | refine xT ?_ | refine xL ?_ | refine xN ?_ | refine xo ?_ | refine xp ?_ | (refine ab.nil ?_; try refine zF ?_) | refine qq ?_ | refine ag.cT ?_ | refine ag.cond (v := true) rfl (fun _ => ?_) (fun h => by cases h) | refine ag.cond (v := false) rfl (fun h => by cases h) (fun _ => ?_) | refine ag.skip ?_ | refine ag.block ?_ | simp (disch := omega) only [decide_eq_true, decide_eq_false, gu, jr, gr, jq]));refine ag.ret ⟨rx, _, rfl, aU (by simp) (by simp [ae]) ?_⟩
  rfl
def FY (c:Nat):Nat:=if c=224 then 160 else if c=237 then 128 else if c=240 then 144 else 128
def HZ (c:Nat):Nat:=if c=224 then 191 else if c=237 then 159 else if c=240 then 191 else if c=244 then 143 else 191
theorem IW (c d : Nat) (st : St) : Ev pv 224 [.int .u8 c, .int .u8 d] st (.bool (decide (FY c ≤ d ∧ d ≤ HZ c))) st := by
 refine Ev.gP rfl WV rfl rfl rfl ?_;refine zE ?_
 have key : (c = 224 ∧ FY c = 160 ∧ HZ c = 191) ∨ (c = 237 ∧ FY c = 128 ∧ HZ c = 159) ∨ (c = 240 ∧ FY c = 144 ∧ HZ c = 191) ∨ (c = 244 ∧ FY c = 128 ∧ HZ c = 143) ∨ (c ≠ 224 ∧ c ≠ 237 ∧ c ≠ 240 ∧ c ≠ 244 ∧ FY c = 128 ∧ HZ c = 191) := by
  unfold FY HZ
  split
  ·omega
  split
  ·omega
  split
  ·omega
  split
  ·omega
  ·omega
 have Zu : d < FY c ∨ (FY c ≤ d ∧ HZ c < d) ∨ (FY c ≤ d ∧ d ≤ HZ c) := by omega
 generalize FY c = lo at *;generalize HZ c = hi at *
 rcases key with ⟨h, rfl, rfl⟩ | ⟨h, rfl, rfl⟩ | ⟨h, rfl, rfl⟩ | ⟨h, rfl, rfl⟩ | ⟨h1, h2, h3, h4, rfl, rfl⟩ <;> rcases Zu with k | ⟨k1, k2⟩ | ⟨k1, k2⟩
 all_goals
  (repeat (first | refine xT ?_ | refine xL ?_ | refine xN ?_ | refine xo ?_ | refine xp ?_ | (refine ab.nil ?_; try refine zF ?_) | refine qq ?_ | refine ag.cT ?_ | refine ag.cond (v := true) rfl (fun _ => ?_) (fun h => by cases h) | refine ag.cond (v := false) rfl (fun h => by cases h) (fun _ => ?_) | refine ag.skip ?_ | refine ag.block ?_ | simp (disch := omega) only [decide_eq_true, decide_eq_false, gu, jr, gr, jq]));refine ag.ret ⟨rx, _, rfl, aU (by simp) (by simp [ae]) ?_⟩;simp (disch := omega) only [decide_eq_true, decide_eq_false]
  rfl
end Go.Proofs.YtecjacicdpejaaaGreat
namespace Go.Proofs.YtecjacicdpejaaaGreat
open Go.V Go
def oD (c i y:Nat):Bool:=if i=1 then decide (FY c≤y∧y≤HZ c) else decide (128≤y∧y≤191)
def lf (c:Nat):(left i:Nat)→List UInt8→Bool
 |0,_,_=>true
 |_+1,_,[]=>true
 |left+1,i,y::ys=>oD c i y.toNat &&lf c left (i+1) ys
def eE:List UInt8→Nat×Nat
 |[]=>(0,0)
 |c::xs=>if eP c.toNat=0 then(0,0) else if lf c.toNat (eP c.toNat-1) 1 xs=true then(if xs.length+1<eP c.toNat then(xs.length+1,eP c.toNat) else(eP c.toNat,eP c.toNat)) else(0,0)
theorem xG (c:Nat):eP c≤4:=by
 unfold eP
 repeat' split
 all_goals omega
theorem P5 {st:St} {x:D} {b:List UInt8} (hb:Bytes st x b) (hlen:b.length≤1048576):Ev pv 194 [x] st (.tup [.int .i64 ((eE b).1:Nat),.int .i64 ((eE b).2:Nat)]) st:=by
 refine Ev.gP rfl Xc rfl rfl rfl ?_;refine zE ?_;have hb:=hb.enter .ro;have hbl:=au b;refine zR ?_;refine zU ?_
 refine zW ?_
 refine ab.len rfl rfl rfl hb rfl ?_
 refine zW ?_
 refine zW ?_
 rw[hbl]
 cases b with
 |nil=>
  refine zY ?_;refine zN ?_;refine ag.cond (v:=true) rfl (fun _=>?_) (fun h=>by cases h);refine zR ?_;refine ag.ret ⟨rx,_,rfl,aU (by simp) (by simp[ae]) ?_⟩
  rfl
 |cons c xs=>
 simp only[List.length_cons] at hlen hbl;have hc:=He c;simp only[List.length_cons];simp(disch:=omega) only[decide_eq_true,decide_eq_false,gu,jr,gr,jq]
 refine zW ?_
 refine ab.fp rfl rfl rfl (fun _=>rfl) rfl rfl hb rfl rfl (by omega) (i:=0) (r:=[.int .u8 (c.toNat:Nat)]) rfl rfl (fun p=>?_);refine ab.oF rfl rfl rfl (HG _ _) ?_;refine zX ?_;refine zN ?_;(repeat refine qq ?_);refine qc (fun h1=>?_) (fun h1=>?_)<;>try simp only[cs] at h1
 ·refine zR ?_;refine ag.ret ⟨rx,_,rfl,aU (by simp) (by simp[ae]) ?_⟩;rw[show eE (c::xs)=(0,0) by simp only[eE];rw[if_pos (by omega)]];rfl
 have Ax:=xG c.toNat;refine ag.skip<|zU ?_
 refine zW ?_
 refine ab.fp rfl rfl rfl (fun _=>rfl) rfl rfl hb rfl rfl (by omega) (i:=0) (r:=[.int .u8 (c.toNat:Nat)]) rfl rfl (fun p=>?_);refine ab.oF rfl rfl rfl (HG _ _) ?_;refine zX ?_;refine zN ?_;refine zR ?_;(repeat refine qq ?_);refine ag.block ?_;generalize hn:eP c.toNat=n at*;refine ag.loop (fun j fr ai=>∃(i:Nat),fr.clean=⟨6,[x,.tup [],.int .i64 0,.int .i64 0,.int .i64 (n:Nat),.int .i64 (i:Nat)],[]⟩∧ai=ae .ro st∧1≤i∧i+j=n∧lf c.toNat j i (xs.drop (i-1))=lf c.toNat (n-1) 1 xs∧i≤xs.length+1) (n-1) ⟨1,rfl,rfl,by omega,by omega,rfl,by omega⟩ ?_;rintro j fr ai ⟨i,hfr,rfl,SJ,hij,hS,hix⟩;rw[hfr]
 have fin:(n≤i∨xs.length+1≤i)→eE (c::xs)=if xs.length+1<n then(xs.length+1,n) else(n,n):=by
  intro h
  have ht:lf c.toNat (n-1) 1 xs=true:=by
   rw[←hS]
   rcases h with h|h
   ·have:j=0:=by omega
    subst this;rfl
   ·have:xs.drop (i-1)=[]:=List.drop_eq_nil_of_le (by omega);rw[this];cases j<;>rfl
  simp only[eE,hn];rw[if_neg (by omega),if_pos ht]
 by_cases h4:i<n
 ·by_cases h5:i<xs.length+1
  ·refine zU ?_
   refine zW ?_
   refine zW ?_
   refine zW ?_
   simp(disch:=omega) only[decide_eq_true,decide_eq_false,gu,jr,gr,jq]
   refine zW ?_
   refine zW ?_
   refine zW ?_
   refine ab.len rfl rfl rfl hb rfl ?_;rw[hbl];refine zY ?_;refine zN ?_;refine ag.cond (v:=true) rfl (fun _=>?_) (fun h=>by cases h);refine ag.skip ?_;(try refine qy ?_);(repeat refine qq ?_);refine ag.block ?_
   obtain⟨j,rfl⟩:∃l,j=l+1:=⟨j-1,by omega⟩
   obtain⟨y,ys,DX⟩:∃y ys,xs.drop (i-1)=y::ys:=by
    cases h:xs.drop (i-1) with
    |nil=>have:=congrArg List.length h;simp at this;omega
    |cons y ys=>exact⟨y,ys,rfl⟩
   have hy:(c::xs)[i]?=some y:=by
    obtain⟨i,rfl⟩:∃i',i=i'+1:=⟨i-1,by omega⟩
    have:=congrArg (fun l=>l[0]?) DX
    simpa using this
   have mz:xs.drop (i+1-1)=ys:=by
    have:=congrArg (fun l=>l.drop 1) DX;simp only[List.drop_drop,List.drop_succ_cons,List.drop_zero] at this;rw[←this];congr 1;omega
   have TI:=kH hy;have hyb:=He y;rw[DX] at hS;simp only[lf] at hS;generalize PV:aZ _ _ _ _=K0
   have step:oD c.toNat i y.toNat=true→∀m,K0 .next ⟨6,[x,.tup [],.int .i64 0,.int .i64 0,.int .i64 (n:Nat),.int .i64 (i:Nat)],m⟩ (ae .ro st):=by
    intro hg m;subst PV;refine zR ?_;rw[wrap_i64 (by omega) (by omega)];rw[hg,Bool.true_and] at hS;exact⟨j,by omega,i+1,rfl,rfl,by omega,by omega,by rw[mz];exact hS,by omega⟩
   by_cases AA:i=1
   ·subst AA;have hx0:xs=y::ys:=DX;subst hx0;refine zU ?_
    refine zW ?_
    refine zW ?_
    refine zW ?_
    refine zW ?_
    refine ab.fp rfl rfl rfl (fun _=>rfl) rfl rfl hb rfl rfl (by omega) (i:=0) (r:=[.int .u8 (c.toNat:Nat)]) rfl rfl (fun p=>?_)
    refine zW ?_
    refine ab.fp rfl rfl rfl (fun _=>rfl) rfl rfl hb rfl rfl (by omega) (i:=1) (r:=[.int .u8 (y.toNat:Nat)]) rfl rfl (fun p=>?_);refine ab.oF rfl rfl rfl (IW _ _ _) ?_
    by_cases hg:FY c.toNat≤y.toNat∧y.toNat≤HZ c.toNat
    ·rw[decide_eq_true hg];refine zX ?_;refine zN ?_;refine ag.cond (v:=false) rfl (fun h=>by cases h) fun _=>?_;refine ag.skip ?_;exact step (by unfold oD;rw[if_pos rfl,decide_eq_true hg]) _
    ·rw[decide_eq_false hg];refine zX ?_;refine zN ?_;refine ag.cond (v:=true) rfl (fun _=>?_) (fun h=>by cases h);refine zR ?_;subst PV;refine ag.ret ⟨rx,_,rfl,aU (by simp) (by simp[ae]) ?_⟩;have:lf c.toNat (n-1) 1 (y::ys)=false:=by rw[←hS];unfold oD;rw[if_pos rfl,decide_eq_false hg];rfl
     rw[show eE (c::y::ys)=(0,0) by simp only[eE,hn];rw[if_neg (by omega),this];rfl];rfl
   ·refine zU ?_
    refine zW ?_
    refine zW ?_
    simp(disch:=omega) only[decide_eq_true,decide_eq_false,gu,jr,gr,jq]
    refine zW ?_
    refine zW ?_
    refine zW ?_
    refine zW ?_
    refine zW ?_
    refine zW ?_
    refine zW ?_
    refine zW ?_
    refine zW ?_
    refine zW ?_
    refine zW ?_
    refine zW ?_
    refine zW ?_
    simp(disch:=omega) only[decide_eq_true,decide_eq_false,gu,jr,gr,jq]
    refine zW ?_
    refine zW ?_
    refine zW ?_
    refine ab.fp rfl rfl rfl (fun _=>rfl) rfl rfl hb rfl rfl (by omega) TI rfl (fun p=>?_)
    by_cases E_:y.toNat<128
    ·refine zY ?_;refine zN ?_;refine ag.cond (v:=true) rfl (fun _=>?_) (fun h=>by cases h);refine zR ?_;subst PV;refine ag.ret ⟨rx,_,rfl,aU (by simp) (by simp[ae]) ?_⟩;have hf:oD c.toNat i y.toNat=false:=by unfold oD;rw[if_neg AA,decide_eq_false (by omega)]
     have:lf c.toNat (n-1) 1 xs=false:=by rw[←hS,hf];rfl
     rw[show eE (c::xs)=(0,0) by simp only[eE,hn];rw[if_neg (by omega),this];rfl];rfl
    ·refine zW ?_
     simp(disch:=omega) only[decide_eq_true,decide_eq_false,gu,jr,gr,jq]
     refine zW ?_
     refine zW ?_
     refine zW ?_
     refine ab.fp rfl rfl rfl (fun _=>rfl) rfl rfl hb rfl rfl (by omega) TI rfl (fun p=>?_)
     by_cases H0:191<y.toNat
     ·refine zY ?_;refine zN ?_;refine ag.cond (v:=true) rfl (fun _=>?_) (fun h=>by cases h);refine zR ?_;subst PV;refine ag.ret ⟨rx,_,rfl,aU (by simp) (by simp[ae]) ?_⟩;have hf:oD c.toNat i y.toNat=false:=by unfold oD;rw[if_neg AA,decide_eq_false (by omega)]
      have:lf c.toNat (n-1) 1 xs=false:=by rw[←hS,hf];rfl
      rw[show eE (c::xs)=(0,0) by simp only[eE,hn];rw[if_neg (by omega),this];rfl];rfl
     ·refine zY ?_;refine zN ?_;refine ag.cond (v:=false) rfl (fun h=>by cases h) fun _=>?_;refine ag.skip ?_;exact step (by unfold oD;rw[if_neg AA,decide_eq_true (by omega)]) _
  ·refine zU ?_
   refine zW ?_
   refine zW ?_
   refine zW ?_
   simp(disch:=omega) only[decide_eq_true,decide_eq_false,gu,jr,gr,jq]
   refine zW ?_
   refine zW ?_
   refine zW ?_
   refine ab.len rfl rfl rfl hb rfl ?_;rw[hbl];refine zY ?_;refine zN ?_;refine ag.cond (v:=false) rfl (fun h=>by cases h) fun _=>?_;refine ag.exit ?_;rw[fin (by omega)];refine zU ?_
   refine zW ?_
   refine ab.len rfl rfl rfl hb rfl ?_;rw[hbl];refine zX ?_;refine zN ?_;refine ag.cond (v:=true) (by dsimp only[Fr.ev,Fr.get,V.look];rw[decide_eq_true (by omega)]) (fun _=>?_) (fun h=>by cases h);refine zU ?_
   refine zW ?_
   refine ab.len rfl rfl rfl hb rfl ?_;rw[hbl];refine zX ?_;refine zN ?_;refine ag.ret ⟨rx,_,rfl,aU (by simp) (by simp[ae]) ?_⟩;rw[if_pos (by omega)];rfl
 ·refine zU ?_
  refine zW ?_
  refine zW ?_
  refine zW ?_
  refine zY ?_;refine zN ?_;refine ag.cond (v:=false) rfl (fun h=>by cases h) fun _=>?_;refine ag.exit ?_;rw[fin (by omega)];refine zU ?_
  refine zW ?_
  refine ab.len rfl rfl rfl hb rfl ?_;rw[hbl];refine zX ?_;refine zN ?_;(repeat refine qq ?_);refine qc (fun h9=>?_) (fun h9=>?_)<;>try simp only[cs] at h9
  ·refine zU ?_
   refine zW ?_
   refine ab.len rfl rfl rfl hb rfl ?_;rw[hbl];refine zX ?_;refine zN ?_;refine ag.ret ⟨rx,_,rfl,aU (by simp) (by simp[ae]) ?_⟩;rw[if_pos (by omega)];rfl
  ·refine ag.skip<|zR ?_;refine ag.ret ⟨rx,_,rfl,aU (by simp) (by simp[ae]) ?_⟩;rw[if_neg (by omega)];rfl
end Go.Proofs.YtecjacicdpejaaaGreat
namespace Go.Proofs.YtecjacicdpejaaaGreat
open Go.V Go
theorem Jd (c:Nat):(eP c=0∧(c7 c).1=-1)∨(eP c=1∧(c7 c).1=0)∨(2≤eP c∧(c7 c).1=(eP c:Int)-1∧(c7 c).2.1=FY c∧(c7 c).2.2=HZ c):=by
 unfold eP c7 FY HZ
 by_cases h1:c<128
 ·simp[h1]
 by_cases h2:c<194
 ·simp[h1,h2]
 by_cases h0:245≤c
 ·left;rw[if_neg (by omega),if_neg (by omega),if_neg (by omega),if_neg (by omega),if_neg (by omega),if_neg (by omega),if_neg (by omega),if_neg (by omega),if_neg (by omega),if_neg (by omega),if_neg (by omega),if_neg (by omega),if_neg (by omega),if_neg (by omega)];simp
 right;right
 by_cases h3:c<224
 ·simp only[h1,h2,h3,if_true,if_false];rw[if_neg (by omega),if_neg (by omega),if_neg (by omega),if_neg (by omega),if_neg (by omega),if_neg (by omega),if_neg (by omega)];simp
 by_cases h4:c=224
 ·subst h4;simp
 by_cases h5:c=237
 ·subst h5;simp
 by_cases h6:c<240
 ·simp only[h1,h2,h3,h4,h5,h6,if_true,if_false];rw[if_neg (by omega),if_neg (by omega),if_neg (by omega)];simp
 by_cases h7:c=240
 ·subst h7;simp
 by_cases h8:c<244
 ·simp only[h1,h2,h3,h4,h5,h6,h7,h8,if_true,if_false];rw[if_pos (by omega),if_neg (by omega)];simp
 by_cases h9:c=244
 ·subst h9;simp
 omega
def yv (r:Nat):Nat→List UInt8→Nat
 |0,_=>r
 |_+1,[]=>r
 |left+1,y::ys=>yv (r*64+y.toNat %64) left ys
theorem zL (c n:Nat):∀(left i r lo hi:Nat) (xs:List UInt8),1≤i→(∀y,oD c i y=(decide (lo≤y∧y≤hi)))→
  j5 left n r lo hi xs=if lf c left i xs=true then(if xs.length<left then(0,0,true) else(yv r left xs,n,false)) else(0,0,false)
 |0,i,r,lo,hi,xs,_,_=>by simp[j5,lf,yv]
 |left+1,i,r,lo,hi,[],_,_=>by simp[j5,lf]
 |left+1,i,r,lo,hi,y::ys,SJ,hg=>by
  simp only[j5,lf,hg,yv]
  by_cases hb:lo≤y.toNat∧y.toNat≤hi
  ·rw[if_neg (by omega),decide_eq_true hb,Bool.true_and];rw[zL c n left (i+1) _ 128 191 ys (by omega) (fun z=>by unfold oD;rw[if_neg (by omega)])];simp only[List.length_cons,Nat.add_lt_add_iff_right]
  ·rw[if_pos (by omega),decide_eq_false hb];simp
def wM (c n:Nat):Nat:=if n≤1 then c else c %(64/2^(n-1))
theorem JM (c:UInt8) (xs:List UInt8):ef (c::xs)=if eP c.toNat=0 then(0,0,false) else if lf c.toNat (eP c.toNat-1) 1 xs=true then(if xs.length<eP c.toNat-1 then(0,0,true) else(yv (wM c.toNat (eP c.toNat)) (eP c.toNat-1) xs,eP c.toNat,false)) else(0,0,false):=by
 simp only[ef]
 rcases Jd c.toNat with⟨h1,h2⟩|⟨h1,h2⟩|⟨h1,h2,h3,h4⟩
 ·rw[h1,h2];simp
 ·rw[h1,h2];simp[j5,lf,yv,wM]
 ·have hk:(c7 c.toNat).1.toNat=eP c.toNat-1:=by omega
  rw[if_neg (show¬(c7 c.toNat).1<0 by omega),if_neg (show¬eP c.toNat=0 by omega),if_pos (show(c7 c.toNat).1>0 by omega),hk,h3,h4];rw[zL c.toNat _ _ 1 _ _ _ _ (by omega) (fun y=>by unfold oD;rw[if_pos rfl])];have:eP c.toNat-1+1=eP c.toNat:=by omega
  rw[this];have h5:wM c.toNat (eP c.toNat)=c.toNat %(64/2^(eP c.toNat-1)):=by unfold wM;rw[if_neg (by omega)]
  rw[h5]
def bO (b:List UInt8):Bool:=(ef b).2.2
theorem yx (b:List UInt8):(bO b=true↔(0<(eE b).1∧(eE b).1<(eE b).2∧(eE b).1=b.length))∧
  (((eE b).1=0∨(eE b).1<(eE b).2)→fF b=(65533,1))∧
  (¬((eE b).1=0∨(eE b).1<(eE b).2)→∃c xs,b=c::xs∧1≤(eE b).2∧(eE b).2≤4∧(eE b).2-1≤xs.length∧fF b=(yv (wM c.toNat (eE b).2) ((eE b).2-1) xs,(eE b).2)):=by
 cases b with
 |nil=>simp[bO,ef,eE,fF]
 |cons c xs=>
  have hn:=xG c.toNat;simp only[bO,fF,JM,eE]
  by_cases h1:eP c.toNat=0
  ·simp[h1]
  rw[if_neg h1,if_neg h1]
  by_cases h2:lf c.toNat (eP c.toNat-1) 1 xs=true
  ·rw[if_pos h2,if_pos h2]
   by_cases h3:xs.length+1<eP c.toNat
   ·rw[if_pos (by omega),if_pos h3];simp<;>omega
   ·rw[if_neg (by omega),if_neg h3];refine⟨by simp<;>omega,by simp<;>omega,fun _=>⟨c,xs,rfl,by simp only;omega,by simp only;omega,by simp only;omega,?_⟩⟩;simp only;rw[if_neg h1]
  ·rw[if_neg h2,if_neg h2];simp
end Go.Proofs.YtecjacicdpejaaaGreat
namespace Go.Proofs.YtecjacicdpejaaaGreat
open Go.V Go
end Go.Proofs.YtecjacicdpejaaaGreat
namespace Go.Proofs.YtecjacicdpejaaaGreat
open Go.V Go
end Go.Proofs.YtecjacicdpejaaaGreat
