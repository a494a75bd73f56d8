/-
 The parser of patterns: classes by single runes; numbers.
-/
import Derived.Test.YtappgjdiplibbaaGreatYGHs
import Derived.Test.YtappgjdiplibbaaGreatYGCa
import Derived.Test.YtappgjdiplibbaaGreatYDgp
import Derived.Test.YtappgjdiplibbaaGreatYM2
import Derived.Test.YtappgjdiplibbaaGreatYKa
set_option maxRecDepth 100000
set_option maxHeartbeats 4000000
set_option linter.all false
open List renaming length_append->γ,length_cons->δ,foldl->ε,length_nil->ζ,mem_cons->η,append_assoc->ι,mem_append->κ,length_reverse->ν,mem_map->ξ,take_of_length_le->ο,length_map->π,getElem?_eq_getElem->ρ,length_set->τ,mem_cons_self->υ,getElem?_set_self->ψ,drop_drop->Γ,mem_cons_of_mem->Δ,mem_of_getElem?->Θ,map_set->Φ,cons_append->Ψ,length_drop->Ω,not_mem_nil->Q2,nil_append->Q7,getElem?_append_right->QQ,length_eq_zero_iff->QX,set_set->QW,mem_append_right->QK,set_append_right->QV,mem_append_left->QC,getElem?_map->QS,length_take->Qu,foldl_cons->W0,drop_left->W4,map_map->Wv,length->Wk
open Nat renaming le_of_ble_eq_true->θ,reduceAdd->μ,le_mul_of_pos_left->ς,le_refl->φ,sub_self->QG,min_eq_left->W5,mul_le_mul->Wz,max_self->W',add_mul->WN
open Int renaming eq_ofNat_of_zero_le->χ,toNat_natCast->Qe,le_refl->WM
open Go.V.u renaming nil->ω,vT->WA
open Go.V.D renaming cells->Ξ,ref->Wg
open Bool renaming or_eq_true->Q4,or_eq_false_iff->QH,and_eq_true->QT
open Classical renaming propDecidable->Q6,choose_spec->Q9,choose->QY
open Go.V.D renaming bool->wt,int->J,ptr->yv
open Or renaming inl->xR,inr->j4
open Go.V.aX renaming box->x4
open Go.IntKind renaming i64->W
namespace Go.Proofs.YtappgjdiplibbaaGreat
open Go.V Go
noncomputable def bB (l:List Rg):List Rg:=@dite _ (∃a,eD l a) (Q6 _) (λh=>QY h) (λ_=>[])
variable{l a:List Rg}
def j6 (h:eD l a):bB l=a:=by
 have hx:∃a,eD l a:=⟨a,h⟩
 unfold bB;rw[dif_pos hx];exact(Q9 hx).unique h
variable{Y:St}{x:D}
def o_ (hx:V.Rows Y 2 x (l.map ak)) (hl:l.length<=1048576):Ev pv 121 [x] Y (az (bB l)) Y/\(bB l).length<=2*l.length/\eD l (bB l):=by
 obtain⟨_,aK,all,rfl,hperm,kL⟩:=AM hx (by omega);have hM:eD l (all.foldl ek []).reverse:=mD (λx=>hperm.mem_iff) kL;have hlen:=hperm.length_eq;have iS:=kP l;have hjl:=wk all;rw[j6 hM];exact⟨aK,by rw[ν];omega,hM⟩
def dU (l:List Rg):fJ (az l) 2 (l.map ak):=by
 rw[<-ef];refine fJ.frozen ?_ ?_;·intro e he;obtain⟨x,_,rfl⟩:=ξ.1 he;rfl
 intro e he d hd;obtain⟨x,_,rfl⟩:=ξ.1 he;simp[ak] at hd
 rcases hd with rfl|rfl<;>rfl
variable{r:Int}
def AK (h0:0<=r) (h1:r<55296) (hr:cS l r) (h:eD l a):a≠[]:=by
 rintro rfl;have:=(h.2 r).2 ⟨by unfold cN;omega,hr⟩;obtain⟨x,hx,_⟩:=this;cases hx
def CT (h0:0<=r) (h1:r<55296) (h:eD [(r,r)] a):a≠[]:=by
 rintro rfl;have:=(h.2 r).2 ⟨?_,?_⟩;·obtain⟨x,hx,_⟩:=this;cases hx
 .unfold cN;omega
 exact⟨(r,r),υ ..,by simp⟩
def lG (r:Int):Ev pv 138 [J .i32 r] Y (az (bB [(r,r)])) Y:=by
 refine zM Xx λS aP hF O=>?_;refine M 9 ?_;refine qh (s:=2) (vs:=[_]) O λk6 U L' O=>?_;obtain⟨aK,hl,_⟩:=o_ (l:=[(r,r)]) (O.rows aV) (by simp);exact M 3 trivial
def OE (r:Int):Ev pv 160 [J .i32 r] Y (wt (decide (33<=r/\r<=47\/58<=r/\r<=64\/91<=r/\r<=96\/123<=r/\r<=126))) Y:=by
 refine zM Xd λS aP hF O=>?_;refine G 5 ?_;refine ah.ni 2 (wt (decide (33<=r/\r<=47\/58<=r/\r<=64\/91<=r/\r<=96\/123<=r/\r<=126))) [] ?_ (λff tmp=>?_)
 .refine G 3 ?_;refine y2 5 (λba=>?_) λba=>?_
  .refine G 4 ?_;refine y2 9 (λfI=>?_) λfI=>?_
   .refine M 26 ?_
    all_goals(simp[ba,fI];done)
   refine G 3 ?_;refine y2 12 (λb6=>?_) λb6=>?_
   .refine M 5 ?_;refine y2 17 (λbL=>?_) λbL=>?_
    .refine M 18 ?_
     all_goals(simp[ba,fI,b6,bL];done)
    refine G 3 ?_;refine y2 20 (λaL=>?_) λaL=>?_
    .refine M 5 ?_;refine y2 25 (λaZ=>?_) λaZ=>?_
     .refine M 10 ?_
      all_goals(simp[ba,fI,b6,bL,aL,aZ];done)
     refine G 3 ?_;refine y2 28 (λbM=>?_) λbM=>?_
     .refine M 7 ?_
      all_goals(simp[ba,fI,b6,bL,aL,aZ,bM];done)
     refine M 7 ?_
     all_goals(simp[ba,fI,b6,bL,aL,aZ,bM];done)
    refine M 8 ?_;refine y2 28 (λbM=>?_) λbM=>?_
    .refine M 7 ?_
     all_goals(simp[ba,fI,b6,bL,aL,bM];done)
    refine M 7 ?_
    all_goals(simp[ba,fI,b6,bL,aL,bM];done)
   refine M 8 ?_;refine y2 20 (λaL=>?_) λaL=>?_
   .refine G 5 ?_;refine y2 25 (λaZ=>?_) λaZ=>?_
    .refine M 10 ?_
     all_goals(simp[ba,fI,b6,aL,aZ];done)
    refine G 3 ?_;refine y2 28 (λbM=>?_) λbM=>?_
    .refine M 7 ?_
     all_goals(simp[ba,fI,b6,aL,aZ,bM];done)
    refine M 7 ?_
    all_goals(simp[ba,fI,b6,aL,aZ,bM];done)
   refine G 8 ?_;refine y2 28 (λbM=>?_) λbM=>?_
   .refine M 7 ?_
    all_goals(simp[ba,fI,b6,aL,bM];done)
   refine M 7 ?_
   all_goals(simp[ba,fI,b6,aL,bM];done)
  refine G 7 ?_;refine y2 12 (λb6=>?_) λb6=>?_
  .refine G 5 ?_;refine y2 17 (λbL=>?_) λbL=>?_
   .refine M 18 ?_
    all_goals(simp[ba,b6,bL];done)
   refine G 3 ?_;refine y2 20 (λaL=>?_) λaL=>?_
   .refine M 5 ?_;refine y2 25 (λaZ=>?_) λaZ=>?_
    .refine M 10 ?_
     all_goals(simp[ba,b6,bL,aL,aZ];done)
    refine G 3 ?_;refine y2 28 (λbM=>?_) λbM=>?_
    .refine M 7 ?_
     all_goals(simp[ba,b6,bL,aL,aZ,bM];done)
    refine M 7 ?_
    all_goals(simp[ba,b6,bL,aL,aZ,bM];done)
   refine M 8 ?_;refine y2 28 (λbM=>?_) λbM=>?_
   .refine M 7 ?_
    all_goals(simp[ba,b6,bL,aL,bM];done)
   refine M 7 ?_
   all_goals(simp[ba,b6,bL,aL,bM];done)
  refine G 8 ?_;refine y2 20 (λaL=>?_) λaL=>?_
  .refine G 5 ?_;refine y2 25 (λaZ=>?_) λaZ=>?_
   .refine M 10 ?_
    all_goals(simp[ba,b6,aL,aZ];done)
   refine G 3 ?_;refine y2 28 (λbM=>?_) λbM=>?_
   .refine M 7 ?_
    all_goals(simp[ba,b6,aL,aZ,bM];done)
   refine M 7 ?_
   all_goals(simp[ba,b6,aL,aZ,bM];done)
  refine G 8 ?_;refine y2 28 (λbM=>?_) λbM=>?_
  .refine M 7 ?_
   all_goals(simp[ba,b6,aL,bM];done)
  refine M 7 ?_
  all_goals(simp[ba,b6,aL,bM];done)
 dsimp only[aC,ε,nth,u2,u1];exact M 0 trivial
def tG:∀gs:List (Nat×Nat),ml ((gs.map bz).map (jK 2))=some (gs.map λg=>(g.1:Int))
 |[]=>rfl
 |g::gs=>by
  have ih:=tG gs;simp only[List.map_cons];show(match ml ((gs.map bz).map (jK 2)) with|some rs=>some ((g.1:Int)::rs)|none=>none)=_;rw[ih]
def w7:∀(rs:List Int) (acc:List UInt8),(digS rs acc).2<=rs.length/\(digS rs acc).1.length<=acc.length+(digS rs acc).2
 |[],acc=>by simp[digS]
 |r::rs,acc=>by
  unfold digS
  split
  .have h:=w7 rs (if 48<r\/acc≠[] then acc++[UInt8.ofNat r.toNat] else acc);simp only[δ]
   have hl:(if 48<r\/acc≠[] then acc++[UInt8.ofNat r.toNat] else acc).length<=acc.length+1:=by
    split<;>simp
   omega
  simp
structure oa (gs:List (Nat×Nat)) (a_:List Int):Prop where
 gl:gs.length<=120
 pl:a_.length=gs.length
def oJ (l:List Int):∀e∈l.map av,∀d∈e,cv d=true:=by
 intro e he d hd;obtain⟨x,_,rfl⟩:=ξ.1 he;simp[av] at hd;subst hd;rfl
def OP (l:List Int):∀e∈l.map av,e.length=1:=by
 intro e he;obtain⟨x,_,rfl⟩:=ξ.1 he;rfl
def LA (l:List Int):D:=.sl ((l.map av).map (jK 1))
def Da (l:List Int):fJ (LA l) 1 (l.map av):=fJ.frozen (OP l) (oJ l)
def count_set {seen:List Bool} {k:Nat} (h:seen[k]?=some false):(seen.set k true).count false+1=seen.count false:=by
 induction seen generalizing k with
 |nil=>simp at h
 |cons b l ih=>
  cases k with
  |zero=>simp at h;subst h;simp
  |succ k=>
   have:=ih (k:=k) (by simpa using h);simp only[List.set_cons_succ,List.count_cons];omega
variable{y:D}
def EL {l m:List Int} (hx:V.Rows Y 1 x (l.map av)) (hy:V.Rows Y 1 y (m.map av)) (hl:l.length<=1073741824) (hm:m.length<=1073741824):Ev pv 31 [x,y] Y (wt (decide (l=m))) Y:=by
 refine zM acs λS aP hF O=>?_;have hx:=Arg.of hx aP;have hy:=Arg.of hy aP;refine M 13 ?_
 by_cases hlen:l.length=m.length
 .refine qE rfl (by rw[hlen];simp) ?_;refine G 7 ?_;refine ah.loop (λmm I U=>∃(i:Nat),I.clean=⟨6,[x,y,ay I 2,ay I 3,wt false,J W (i:Nat)],[]⟩/\Has Y.bs.length S U []/\(i+mm=l.length)/\(l.take i=m.take i)) (l.length) ?_ ?_;·exact⟨0,rfl,O,by omega,rfl⟩
  rintro mm I U ⟨i,hfr,O,hi,ht⟩;refine zK λee=>?_;refine M 8 ?_;refine zP (λh1=>?_) λh1=>?_
  .refine G 1 ?_
   obtain⟨p,B⟩:=gx (l:=l) (i:=i)
   obtain⟨q,hq⟩:=gx (l:=m) (i:=i)
   have dO:=iu B;have pe:=iu hq;refine M 14 λZB R8 Qb Dg=>?_;refine ah.cond (by rfl) (λX=>?_) (λX=>?_)<;>try simp at X
   .refine G 4 ?_;rw[decide_eq_false (lP B hq (by simpa using X))];exact M 0 trivial
   refine G 6 ?_;exact⟨mm-1,by omega,i+1,rfl,O,by omega,ia B hq ht (by simpa using X)⟩
  refine G 5 ?_;rw[decide_eq_true (by rw[ο (by omega),ο (by omega)] at ht;exact ht)];exact M 0 trivial
 refine qD rfl (by simp;omega) ?_;refine G 4 ?_;rw[decide_eq_false (λh=>hlen (by rw[h]))];exact M 0 trivial
def Ah {m:List Rg} (hx:V.Rows Y 2 x (l.map ak)) (hy:V.Rows Y 2 y (m.map ak)) (hl:l.length<=1073741824) (hm:m.length<=1073741824):Ev pv 32 [x,y] Y (wt (decide (l=m))) Y:=by
 refine zM W8 λS aP hF O=>?_;have hx:=Arg.of hx aP;have hy:=Arg.of hy aP;refine M 13 ?_
 by_cases hlen:l.length=m.length
 .refine qE rfl (by rw[hlen];simp) ?_;refine G 7 ?_;refine ah.loop (λmm I U=>∃(i:Nat),I.clean=⟨6,[x,y,ay I 2,ay I 3,wt false,J W (i:Nat)],[]⟩/\Has Y.bs.length S U []/\(i+mm=l.length)/\(l.take i=m.take i)) (l.length) ?_ ?_;·exact⟨0,rfl,O,by omega,rfl⟩
  rintro mm I U ⟨i,hfr,O,hi,ht⟩;refine zK λee=>?_;refine M 8 ?_;refine zP (λh1=>?_) λh1=>?_
  .refine G 1 ?_
   obtain⟨p,B⟩:=gx (l:=l) (i:=i)
   obtain⟨q,hq⟩:=gx (l:=m) (i:=i)
   have dO:=db B;have pe:=db hq;refine M 12 λZB R8 Qb Dg=>?_;refine u.U' rfl (ev rfl) (ev rfl) (oG p q) (ae rfl _) ?_;refine G 1 ?_;refine ah.cond (by rfl) (λX=>?_) (λX=>?_)<;>try simp at X
   .refine G 4 ?_;rw[decide_eq_false (lP B hq (by simpa using X))];exact M 0 trivial
   refine G 6 ?_;exact⟨mm-1,by omega,i+1,rfl,O,by omega,ia B hq ht (by simpa using X)⟩
  refine G 5 ?_;rw[decide_eq_true (by rw[ο (by omega),ο (by omega)] at ht;exact ht)];exact M 0 trivial
 refine qD rfl (by simp;omega) ?_;refine G 4 ?_;rw[decide_eq_false (λh=>hlen (by rw[h]))];exact M 0 trivial
structure aQ where
 op:Int
 rd:D
 rs:List Rg
 mn:Int
 mx:Int
 lz:Bool
 cap:Int
 kids:Int
def aO (n:aQ):List D:=[J W n.op,n.rd,J W n.mn,J W n.mx,wt n.lz,J W n.cap,J W n.kids]
def aQ.ok (n:aQ):Prop:=fJ n.rd 2 (n.rs.map ak)/\n.rs.length<=1048576/\n.kids<=9223372036854775807
structure Nl where
 d:D
 l:List aQ
structure Nl.ok (x:Nl):Prop where
 c:fJ x.d 7 (x.l.map aO)
 i:∀n∈x.l,n.ok
 nl:x.l.length<=1048576
def i_ {l:List aQ} {i:Nat} {q:aQ} (h:l[i]?=some q):(l.map aO)[i]?=some (aO q):=by rw[QS,h];rfl
mutual
inductive Q where
 |mk (n:aQ) (ks:aG)
inductive aG where
 |nil
 |cons (t:Q) (ts:aG)
end
def aG.len:aG->Nat
 | .nil=>0
 | .cons _ ts=>ts.len+1
mutual
def Q.flat:Q->List aQ
 | .mk n ks=>n::ks.flat
def aG.flat:aG->List aQ
 | .nil=>[]
 | .cons t ts=>t.flat++ts.flat
end
def mV (n:aQ) (nk:Nat):Prop:=
 n.kids=(nk:Int)/\(((n.op=1\/n.op=7\/n.op=8)/\nk=0)\/(n.op=2/\nk=0)\/((n.op=3\/n.op=4)/\2<=nk)\/
  (n.op=5/\nk=1/\0<=n.mn/\n.mn<=30/\(n.mx=-1\/(n.mn<=n.mx/\n.mx<=30)))\/(n.op=6/\nk=1/\1<=n.cap/\n.cap<=4))
mutual
def Q.ok:Q->Prop
 | .mk n ks=>mV n ks.len/\ks.ok
def aG.ok:aG->Prop
 | .nil=>True
 | .cons t ts=>t.ok/\ts.ok
end
def cg (n:aQ) (s k:Nat):Nat:=
 if n.op=2\/n.op=7\/n.op=8 then 1
 else if n.op=4 then s+2*(k-1)
 else if n.op=6 then s+2
 else if n.op=5 then(if n.mx=-1 then n.mn.toNat*s+s+2 else n.mn.toNat*s+(n.mx.toNat-n.mn.toNat)*(s+1))
 else s
mutual
def Q.sz:Q->Nat
 | .mk n ks=>cg n ks.sz ks.len
def aG.sz:aG->Nat
 | .nil=>0
 | .cons t ts=>t.sz+ts.sz
end
def bZ (op x y:Int) (rs:List Rg):bn:=⟨op,x,y,.sl ((rs.map ak).map (jK 2)),rs⟩
def mS (s o:Nat) (lz:Bool):bn:=if lz=true then bZ 2 (o:Nat) ((s+1:Nat):Int) [] else bZ 2 ((s+1:Nat):Int) (o:Nat) []
def jH (e:Nat):bn:=bZ 3 (e:Nat) 0 []
def gv (c:Nat->List bn) (z:Nat):Nat->Nat->List bn
 |0,_=>[]
 |k+1,b=>c b++gv c z k (b+z)
def fS (sp:Nat->bn) (c:Nat->List bn) (z:Nat):Nat->Nat->List bn
 |0,_=>[]
 |k+1,b=>sp b::(c (b+1)++fS sp c z k (b+1+z))
def oU (z:Nat):Nat->Nat->List Nat
 |0,_=>[]
 |k+1,b=>b::oU z k (b+1+z)
def xx (n:aQ) (c:Nat->List bn) (z b:Nat):List bn:=
 if n.mx=-1 then gv c z n.mn.toNat b++(mS (b+n.mn.toNat*z) (b+n.mn.toNat*z+z+2) n.lz::(c (b+n.mn.toNat*z+1)++[jH (b+n.mn.toNat*z)]))
 else gv c z n.mn.toNat b++fS (λs=>mS s (b+n.mn.toNat*z+(n.mx.toNat-n.mn.toNat)*(z+1)) n.lz) c z (n.mx.toNat-n.mn.toNat) (b+n.mn.toNat*z)
mutual
def aF:Q->Nat->List bn
 | .mk n ks,b=>
  if n.op=2 then[bZ 1 0 0 n.rs]
  else if n.op=7 then[bZ 5 0 0 []]
  else if n.op=8 then[bZ 6 0 0 []]
  else if n.op=3 then iG ks b
  else if n.op=4 then eC (jH (b+cg n ks.sz ks.len)) ks b
  else if n.op=5 then xx n (iG ks) ks.sz b
  else if n.op=6 then bZ 4 (2*n.cap) 0 []::(iG ks (b+1)++[bZ 4 (2*n.cap+1) 0 []])
  else[]
def iG:aG->Nat->List bn
 | .nil,_=>[]
 | .cons t ts,b=>aF t b++iG ts (b+t.sz)
def eC (jp:bn):aG->Nat->List bn
 | .nil,_=>[]
 | .cons t ts,b=>if ts.len=0 then aF t b else mS b (b+1+t.sz+1) false::(aF t (b+1)++jp::eC jp ts (b+t.sz+2))
end
def ky:aG->Nat->List Nat
 | .nil,_=>[]
 | .cons t ts,b=>if ts.len=0 then[] else(b+1+t.sz)::ky ts (b+t.sz+2)
def nH {c:Nat->List bn} {z:Nat} (hc:∀b,(c b).length=z):∀k b,(gv c z k b).length=k*z
 |0,b=>by simp[gv]
 |k+1,b=>by rw[gv,γ,hc,nH hc k,WN];omega
def lL {sp:Nat->bn} {c:Nat->List bn} {z:Nat} (hc:∀b,(c b).length=z):∀k b,(fS sp c z k b).length=k*(z+1)
 |0,b=>by simp[fS]
 |k+1,b=>by rw[fS,δ,γ,hc,lL hc k,WN];omega
def Ku {n:aQ} {c:Nat->List bn} {z b:Nat} (hc:∀b,(c b).length=z) (h:n.op=5):(xx n c z b).length=cg n z 1:=by
 unfold xx cg;rw[if_neg (show¬(n.op=2\/n.op=7\/n.op=8) by omega),if_neg (show¬n.op=4 by omega),if_neg (show¬n.op=6 by omega),if_pos h]
 split;·rw[γ,nH hc,δ,γ,hc];simp only[δ,ζ];omega
 rw[γ,nH hc,lL hc]
variable{ks:aG}
def aG.G4 (h:ks.len=1):∃t,ks=.cons t .nil:=by
 cases ks with
 |nil=>simp[aG.len] at h
 |cons t ts=>cases ts with
  |nil=>exact⟨t,rfl⟩
  |cons aa us=>simp[aG.len] at h
def aG.len_nil (h:ks.len=0):ks=.nil:=by
 cases ks with
 |nil=>rfl
 |cons t ts=>simp[aG.len] at h
mutual
def dD:∀(t:Q) (b:Nat),t.ok->(aF t b).length=t.sz
 | .mk n ks,b,h=>by
  simp[Q.ok] at h;obtain⟨h1,X⟩:=h;have hc:=λb=>xg ks b X;have ha:=λjp b=>sk jp ks b X;simp[aF,Q.sz];obtain⟨_,⟨h3,h4⟩|⟨h3,h4⟩|⟨h3,h4⟩|⟨h3,h4,h5⟩|⟨h3,h4,h5⟩⟩:=h1
  .have A:=aG.len_nil h4;subst A
   by_cases q7:n.op=7
   .simp[q7,cg]
   .by_cases q8:n.op=8
    .simp[q8,cg]
    .have q1:n.op=1:=by omega
     simp[q1,cg,aG.sz]
  .simp[h3,cg]
  .rcases h3 with h3|h3
   .simp[h3,cg,hc]
   .simp[h3,cg,ha]
  .have:=Ku (n:=n) (b:=b) hc h3;simp only[h3] at this|-;simp;rw[this,h4]
  .simp[h3,cg,hc]
def xg:∀(ts:aG) (b:Nat),ts.ok->(iG ts b).length=ts.sz
 | .nil,b,_=>by simp[iG,aG.sz]
 | .cons t ts,b,h=>by
  simp[aG.ok] at h;simp[iG,aG.sz];rw[dD t b h.1,xg ts _ h.2]
def sk (jp:bn):∀(ts:aG) (b:Nat),ts.ok->(eC jp ts b).length=ts.sz+2*(ts.len-1)
 | .nil,b,_=>by simp[eC,aG.sz,aG.len]
 | .cons t ts,b,h=>by
  simp[aG.ok] at h;have h1:=sk jp ts (b+t.sz+2) h.2;simp only[eC,aG.sz,aG.len]
  by_cases q:ts.len=0
  .rw[if_pos q,dD t b h.1,q];have:=aG.len_nil q;subst this;simp[aG.sz]
  .rw[if_neg q,δ,γ,δ,dD t _ h.1,h1];omega
end
def fO (f:Nat->bn) (c:List bn) (l:List Nat):List bn:=l.foldl (λc j=>c.set j (f j)) c
def oq {α:Type} (pre post:List α) (x y:α):(pre++x::post).set pre.length y=pre++y::post:=by
 rw[QV _ _ (φ _),QG];rfl
def oL {α:Type} (pre post:List α) (x:α):(pre++x::post)[pre.length]?=some x:=by
 rw[QQ (φ _),QG];rfl
def oA {sp:Nat->bn} {c:Nat->List bn} {z:Nat} (hc:∀b,(c b).length=z) {i0:bn}:∀(k b:Nat) (pre post:List bn),pre.length=b->fO sp (pre++fS (λ_=>i0) c z k b++post) (oU z k b)=pre++fS sp c z k b++post/\∀j∈oU z k b,(pre++fS (λ_=>i0) c z k b++post)[j]?=some i0
 |0,b,pre,post,_=>⟨rfl,λj hj=>by cases hj⟩
 |k+1,b,pre,post,h=>by
  have ih:=oA (sp:=sp) hc (i0:=i0) k (b+1+z) (pre++i0::c (b+1)) post (by rw[γ,δ,hc];omega);have Ha:=oA (sp:=sp) hc (i0:=i0) k (b+1+z) (pre++sp b::c (b+1)) post (by rw[γ,δ,hc];omega);simp only[fS,oU];have e:pre++i0::(c (b+1)++fS (λ_=>i0) c z k (b+1+z))++post=pre++i0::(c (b+1)++fS (λ_=>i0) c z k (b+1+z)++post):=by simp
  have e2:pre++i0::c (b+1)++fS (λ_=>i0) c z k (b+1+z)++post=pre++i0::(c (b+1)++fS (λ_=>i0) c z k (b+1+z)++post):=by simp
  refine⟨?_,λj hj=>?_⟩
  .unfold fO at Ha|-;rw[W0,e]
   have hs:(pre++i0::(c (b+1)++fS (λ_=>i0) c z k (b+1+z)++post)).set b (sp b)=pre++sp b::c (b+1)++fS (λ_=>i0) c z k (b+1+z)++post:=by
    rw[<-h,oq];simp
   rw[hs,Ha.1];simp
  rw[e]
  rcases η.1 hj with rfl|hj
  .rw[<-h];exact oL _ _ _
  rw[<-e2];exact ih.2 j hj
def oS {jp i0:bn}:∀(ts:aG) (b:Nat) (pre post:List bn),ts.ok->pre.length=b->fO (λ_=>jp) (pre++eC i0 ts b++post) (ky ts b)=pre++eC jp ts b++post/\∀j∈ky ts b,(pre++eC i0 ts b++post)[j]?=some i0
 | .nil,b,pre,post,_,_=>⟨by simp[eC,ky,fO],λj hj=>by simp[ky] at hj⟩
 | .cons t ts,b,pre,post,bK,h=>by
  simp[aG.ok] at bK
  by_cases q:ts.len=0;·simp only[eC,ky,if_pos q];exact⟨rfl,λj hj=>by cases hj⟩
  simp only[eC,ky,if_neg q];generalize mS b (b+1+t.sz+1) false=sp;have hcl:=dD t (b+1) bK.1;have ih:=oS (jp:=jp) (i0:=i0) ts (b+t.sz+2) (pre++sp::(aF t (b+1)++[i0])) post bK.2 (by simp only[γ,δ,ζ,hcl];omega);have Ha:=oS (jp:=jp) (i0:=i0) ts (b+t.sz+2) (pre++sp::(aF t (b+1)++[jp])) post bK.2 (by simp only[γ,δ,ζ,hcl];omega);generalize eC i0 ts (b+t.sz+2)=hk at*;have e:pre++sp::(aF t (b+1)++i0::hk)++post=(pre++sp::aF t (b+1))++i0::(hk++post):=by simp
  have hl:(pre++sp::aF t (b+1)).length=b+1+t.sz:=by simp[hcl];omega
  refine⟨?_,λj hj=>?_⟩;·unfold fO at Ha|-;rw[W0,e,<-hl,oq];have:=Ha.1;simp at this|-;exact this
  rw[e]
  rcases η.1 hj with rfl|hj
  .rw[<-hl];exact oL _ _ _
  have:=ih.2 j hj;simp only[ι,Ψ,Q7] at this|-;exact this
def g_ {α:Type} (L:List α) (at_:Nat) (zB:List α):Prop:=∃post,L.drop at_=zB++post
def g_.head {α:Type} {L zB:List α} {a:α} {at_:Nat} (h:g_ L at_ (a::zB)):L[at_]?=some a:=by
 obtain⟨post,h⟩:=h;have:=congrArg (·[0]?) h
 simpa using this
def g_.tail {α:Type} {L zB:List α} {a:α} {at_:Nat} (h:g_ L at_ (a::zB)):g_ L (at_+1) zB:=by
 obtain⟨post,h⟩:=h;refine⟨post,?_⟩;rw[<-Γ,h];rfl
def g_.left {α:Type} {L zB M':List α} {at_:Nat} (h:g_ L at_ (zB++M')):g_ L at_ zB:=by
 obtain⟨post,h⟩:=h;exact⟨M'++post,by rw[h,ι]⟩
def g_.right {α:Type} {L zB M':List α} {at_:Nat} (h:g_ L at_ (zB++M')):g_ L (at_+zB.length) M':=by
 obtain⟨post,h⟩:=h;refine⟨post,?_⟩;rw[<-Γ,h,ι,W4]
def g_.le {α:Type} {L zB:List α} {at_:Nat} (h:g_ L at_ zB) (hM:zB≠[]):at_+zB.length<=L.length:=by
 obtain⟨post,h⟩:=h;have:=congrArg Wk h;simp at this
 have:0<zB.length:=by cases zB with|nil=>exact absurd rfl hM|cons _ _=>simp
 omega
def g_.all {α:Type} (L:List α):g_ L 0 L:=⟨[],by simp⟩
mutual
def Q.zs:Q->List Int
 | .mk n ks=>((min (cg n ks.sz ks.len) 401:Nat):Int)::ks.zs
def aG.zs:aG->List Int
 | .nil=>[]
 | .cons t ts=>t.zs++ts.zs
end
mutual
def Q.es:Q->Nat->List Int
 | .mk n ks,at_=>((at_+1+ks.flat.length:Nat):Int)::ks.es (at_+1)
def aG.es:aG->Nat->List Int
 | .nil,_=>[]
 | .cons t ts,at_=>t.es at_++ts.es (at_+t.flat.length)
end
mutual
theorem Q.kT:∀t:Q,t.zs.length=t.flat.length
 | .mk n ks=>by simp[Q.zs,Q.flat,aG.kT ks]
theorem aG.kT:∀ts:aG,ts.zs.length=ts.flat.length
 | .nil=>rfl
 | .cons t ts=>by simp[aG.zs,aG.flat,Q.kT t,aG.kT ts]
end
mutual
theorem Q.lj:∀(t:Q) (a:Nat),(t.es a).length=t.flat.length
 | .mk n ks,a=>by simp[Q.es,Q.flat,aG.lj ks]
theorem aG.lj:∀(ts:aG) (a:Nat),(ts.es a).length=ts.flat.length
 | .nil,_=>rfl
 | .cons t ts,a=>by simp[aG.es,aG.flat,Q.lj t,aG.lj ts]
end
def Q.lV (t:Q):0<t.flat.length:=by cases t;simp[Q.flat]
def aG.sX:∀ts:aG,ts.len<=ts.flat.length
 | .nil=>φ _
 | .cons t ts=>by
  have h1:=aG.sX ts;have X:=t.lV;simp[aG.len,aG.flat];omega
end Go.Proofs.YtappgjdiplibbaaGreat
namespace Go.V
variable{N:Nat} {S U:St} {H:List aX}
def dt.at_ {α β:Type} {af:α->β->Prop}:∀{l:List α} {m:List β} {i:Nat} {b:β},dt af l m->m[i]?=some b->∃a,l[i]?=some a/\af a b
 |_,_,_,_,.nil,h=>by simp at h
 |_,_,0,_,.cons a t,h=>by simp at h;subst h;exact⟨_,rfl,a⟩
 |_,_,i+1,_,.cons a t,h=>by simp at h|-;exact t.at_ h
def dt.set {α β:Type} {af:α->β->Prop} {a:α} {b:β} (r:af a b):∀{l:List α} {m:List β} (i:Nat),dt af l m->dt af (l.set i a) (m.set i b)
 |_,_,_,.nil=>.nil
 |_,_,0,.cons _ t=>.cons r t
 |_,_,i+1,.cons h t=>.cons h (t.set r i)
theorem dt.setMany {af:D->D->Prop}:∀{xs ys:List D} {c d:List D} (o:Nat),dt af xs ys->dt af c d->dt af (setMany c o xs) (setMany d o ys)
 |_,_,_,_,_,.nil,h=>h
 |_,_,_,_,o,.cons r t,h=>by simp[Go.V.setMany];exact t.setMany (o+1) (h.set r o)
theorem dt.same {af:D->D->Prop}:∀{l:List D},(∀d∈l,af d d)->dt af l l
 |[],_=>.nil
 |d::l,h=>.cons (h d (υ ..)) (dt.same λx hx=>h x (Δ _ hx))
variable{j s:Nat}{x:D}{bb:Bool}{ks:Nat->Prop}{vs:List (List D)}
def Has.Ya (O:Has N S U H) (hj:H[j]?=some (.cM bb ks x s vs)):∃es,Rows U s x es/\es.length=vs.length:=by
 obtain⟨⟨es,h1,X⟩,_⟩:=(O.ok j _ hj).1;exact⟨es,h1.rows,X.len⟩
variable{k aj off i o:Nat}{cs:List D}
def Has.acM {len:Nat} {v:List D} (h:Has N S U H) (hj:H[j]?=some (.cM bb ks (.win k aj off len s) s vs)) (hi:vs[i]?=some v) (hl:o+cs.length<=s) (B:∀d∈cs,cv d=true) (hw:S.flr<=N\/refs cs=0) (tX:(cs.all (λd=>!(Lz d))||bb)=true):
  ∃R,U.wr k aj (off+i*s+o) cs=some R/\Has N S R (H.set j (.cM bb ks (.win k aj off len s) s (vs.set i (setMany v o cs)))):=by
 obtain⟨⟨es,he1,Bc⟩,he3⟩:=(h.ok j _ hj).1;have hK:=(h.ok j _ hj).2;obtain⟨e,hei,aK⟩:=Bc.at_ hi
 have JK:Has N S U [.ai (.win k aj off len s) s es]:=by
  refine⟨h.ex,h.hN,h.fx,λi e hi=>?_,λi i' a b hii ha F k nR iE=>?_⟩
  .cases i with
   |zero=>simp at hi;subst hi;exact⟨he1,λk A=>hK k (xR A)⟩
   |succ i=>simp at hi
  cases i with
  |zero=>cases i' with
   |zero=>exact hii rfl
   |succ i'=>simp at F
  |succ i=>simp at ha
 obtain⟨R,q1,q2⟩:=JK.Ag (j:=0) aV hei hl hw;refine⟨R,q1,?_⟩;have hown:=q2.own (j:=0) aV
 have hch:(∀n,n≠k->R.bs[n]?=U.bs[n]?)/\U.bs.length=R.bs.length/\R.flr=U.flr/\R.ro=U.ro:=by
  unfold St.wr at q1
  split at q1
  .split at q1;·cases q1;exact⟨λn hn=>by simp only;rw[List.getElem?_set_ne (λe=>hn e.symm)],by simp,rfl,rfl⟩
   cases q1
  cases q1
 obtain⟨c1,c2,c3,c4⟩:=hch;have hkk:=hK k (xR (by simp[Wg]));have hne:∀n,ks n->n≠k:=λn hn e=>he3 k (by simp[Wg]) (e▸hn);have Dm:∀n,ks n->R.bs[n]?=U.bs[n]?:=λn hn=>c1 n (hne n hn);refine h.pt hj (λn hn hnot=>c1 n λe=>hnot (xR (by simp only[Wg];omega))) (Nat.le_of_eq c2) c3 c4 ⟨⟨_,hown,?_⟩,he3⟩ (λn hn=>xR hn) λn hn=>?_;·refine dt.set ?_ i (Bc.mono λa b=>dt.mono λc d=>gF.move Dm);exact(dt.same λd hd=>.plain d (B d hd) (by cases bb with|true=>simp|false=>simp only[Bool.or_false,List.all_eq_true] at tX|-;exact tX d hd)).setMany o (aK.mono λc d=>gF.move Dm)
 rw[<-c2];exact(hK n hn).2
variable{P:Pv} {ops:Array Oper} {rest:List Oper} {I aA:Fr} {Tr:Fr->St->Prop} {ty:TypeId} {pp:String} {a:Array Edge} {g:Option (Nat×Bool)} {dst:Nat}
variable{xo:Operand}
def u.ti {t e:TypeId} (O:Has N S U H) (hg:au ops I ⟨some dst,.call ⟨.builtin .len,#[xo],#[t]⟩,ty,pp,a,g⟩=some true) (hx:I.ev xo=x) (hj:H[j]?=some (.cM bb ks x s vs)) (ht:P.cF t=some (.slice e)) (B:I.put dst (J W (vs.length:Nat))=aA) (h:u P ops rest aA U Tr):u P ops (⟨some dst,.call ⟨.builtin .len,#[xo],#[t]⟩,ty,pp,a,g⟩::rest) I U Tr:=by
 obtain⟨es,h1,X⟩:=O.Ya hj;exact u.pB hg hx h1 ht (by rw[X];exact B) h
def u.uB {t e:TypeId} {io:Operand} {kk:IntKind} {aA:D->Fr} (O:Has N S U H) (hg:au ops I ⟨some dst,.indexAddr t xo io,ty,pp,a,g⟩=some true) (hx:I.ev xo=x) (hi:I.ev io=J kk (i:Nat)) (hj:H[j]?=some (.cM bb ks x s vs)) (ht:P.cF t=some (.slice e)) (hs:bS P e=some s) (hr:i<vs.length) (B:∀p,I.put dst p=aA p) (h:∀p,kz x s i 0 p->u P ops rest (aA p) U Tr):u P ops (⟨some dst,.indexAddr t xo io,ty,pp,a,g⟩::rest) I U Tr:=by
 obtain⟨⟨es,he1,Bc⟩,he3⟩:=(O.ok j _ hj).1;have hlen:=Bc.len
 cases he1 with
 |nul=>simp at hlen;omega
 |win k aj off es c hm hl hc he=>
  refine u.go hg rfl (d:=yv k aj (off+i*s)) (st1:=U) ?_ (B _) (h _ ⟨k,aj,off,_,rfl,rfl⟩);simp only[dY,hx,hi,cn,ht,hs,Option.bind_some,St.mem_of hm,Option.isSome_some];rw[if_pos ⟨trivial,by omega,by omega,trivial⟩];rfl
def u.jw {t:TypeId} {ao vo:Operand} {y v:D} {r:List D} (O:Has N S U H) (hg:au ops I ⟨none,.store t ao vo,ty,pp,a,g⟩=some true) (ha:I.ev ao=y) (hv:I.ev vo=v) (hR:kz x s i o y) (hcs:v.cells?=some cs) (hs:bS P t=some cs.length) (hj:H[j]?=some (.cM bb ks x s vs)) (hr:vs[i]?=some r) (hl:o+cs.length<=s) (hq:∀d∈cs,cv d=true) (hw:S.flr<=N\/refs cs=0) (h:∀R,Has N S R (H.set j (.cM bb ks x s (vs.set i (setMany r o cs))))->u P ops rest I R Tr) (oW:(cs.all (λd=>!(Lz d))||bb)=true:=by rfl):u P ops (⟨none,.store t ao vo,ty,pp,a,g⟩::rest) I U Tr:=by
 obtain⟨k,aj,off,len,rfl,rfl⟩:=hR;obtain⟨R,h1,X⟩:=O.acM hj hr hl hq hw oW;refine u.N hg rfl (d:=.tup []) (st1:=R) ?_ (h _ X);simp only[dY,ha,hv,nC,hcs,hs,if_pos trivial,h1];rfl
variable{dy:Dy}
def ah.S5 {l:List Oper} {d n loc tmp U} {Tr:Out->Fr->St->Prop} (ws:List Nat) (hb:(Nat->D)->Prop) (h1:u P l.toArray l ⟨n,loc,[]⟩ U λaA R=>∃f tmp,aA=⟨n,aC loc ws f,tmp⟩/\R=U/\hb f) (X:∀f tmp,hb f->Tr .next ⟨n,aC loc ws f,tmp⟩ U) (h0:iR i dy=[]:=by rfl):ah P dy (.region i l.toArray d) ⟨n,loc,tmp⟩ U Tr:=by
 refine ah.jy ?_ h0;unfold u at h1|-;obtain⟨aA,R,h3,f,UK,rfl,rfl,h4⟩:=h1;exact⟨_,_,h3,X _ _ h4⟩
def nQ {n:Nat} {L loc:List D} {z_:List (Nat×D)} {ws:List Nat} {hb:(Nat->D)->Prop} {U:St} (h:L=aC loc ws (λk=>nth .cT L k)) (X:hb (λk=>nth .cT L k)):∃(f:Nat->D) (tmp:List (Nat×D)),(⟨n,L,z_⟩:Fr)=⟨n,aC loc ws f,tmp⟩/\U=U/\hb f:=⟨_,z_,by rw[<-h],rfl,X⟩
def u.Vc {t1 t2:TypeId} {yo:Operand} {x y z:Int} (hg:au ops I ⟨some dst,.call ⟨.builtin .min,#[xo,yo],#[t1,t2]⟩,ty,pp,a,g⟩=some true) (hx:I.ev xo=J W x) (hy:I.ev yo=J W y) (hz:min x y=z) (B:I.put dst (J W z)=aA) (h:u P ops rest aA U Tr):u P ops (⟨some dst,.call ⟨.builtin .min,#[xo,yo],#[t1,t2]⟩,ty,pp,a,g⟩::rest) I U Tr:=
 u.Vd (t1:=t1) (t2:=t2) hg hx hy (by rw[hz];exact B) h
variable{Y S2 st2:St}
def Has.wc {N:Nat} {S:St} {H:List aX} {es Ej:List (List D)} (h:Has N S Y (.ai x s es::H)) (hS:S2.bs=Y.bs) (X:Has N S2 st2 (.ai x s Ej::H)):Has N S ⟨st2.bs.take Y.bs.length,Y.flr,Y.ro⟩ (.ai x s Ej::H):=by
 refine h.rF hS X λi e hi=>?_
 cases i with
 |zero=>simp at hi;subst hi;exact⟨_,rfl,λk A=>A⟩
 |succ i=>exact⟨e,hi,λk A=>A⟩
def Has.rE {N:Nat} {S:St} {H:List aX} {b b':mc} {UD:List (List D)} (h:Has N S Y (x4 k b::.cM bb ks x s vs::H)) (hS:S2.bs=Y.bs) (X:Has N S2 st2 (x4 k b'::.cM bb ks x s UD::H)):Has N S ⟨st2.bs.take Y.bs.length,Y.flr,Y.ro⟩ (x4 k b'::.cM bb ks x s UD::H):=by
 refine h.rF hS X λi e hi=>?_
 match i with
 |0=>simp at hi;subst hi;exact⟨_,rfl,λk A=>A⟩
 |1=>simp at hi;subst hi;exact⟨_,rfl,λk A=>A⟩
 |i+2=>exact⟨e,hi,λk A=>A⟩
def Has.N3 {N:Nat} {S U:St} {H:List aX} {a b c d e:aX} (h:Has N S U (a::b::c::d::e::H)):Has N S U (b::c::d::e::a::H):=by
 refine h.sub (λi=>if i=4 then 0 else if i<4 then i+1 else i) (λi j hij=>?_) (λi x hi=>?_)
 ·(try simp only at hij)
  split at hij<;>split at hij<;>(try split at hij)<;>(try split at hij)<;>omega
 match i,hi with
 |0,hi=>exact hi
 |1,hi=>exact hi
 |2,hi=>exact hi
 |3,hi=>exact hi
 |4,hi=>exact hi
 |i+5,hi=>
  have h1:¬(i+5=4):=by omega
  have X:¬(i+5<4):=by omega
  simp only[if_neg h1,if_neg X];exact hi
def Has.gY {I:Fr} {a aa u2:Nat} {t:TypeId} {ar:Bool} {c:List D} {d e e2:D} (O:Has N S U H) (ha:I.get a=yv k aj off) (hj:H[j]?=some (x4 k (.mem aj ar c))) (hd:da P t (c.drop off)=some d) (he:I.get aa=e) (Bc:I.get u2=e2):jr P I U [.cell a t,.tmp aa,.tmp u2]=some [d,e,e2]:=by
 simp[jr,gy,ha,St.mem_of (O.at hj),hd,he,Bc]
def ah.ir {c1 c2:Code} {I:Fr} {U:St} {Tr:Out->Fr->St->Prop} (zB:Fr->St->Prop) (h1:ah P dy c1 I U (dN P dy c2 (Nn zB Tr))) (X:∀aA R,zB aA R->Tr .next aA R):ah P dy c1 I U (dN P dy c2 Tr):=
 h1.mono λo aA R h=>by
  cases o with
  |next=>exact ah.merge zB h X
  |exit i=>exact h
  |ret=>exact h
end Go.V
namespace Go.Proofs.YtappgjdiplibbaaGreat
open Go.V Go
variable{U:St}{L k:Nat}
theorem za {n:Nat} {kn:Bool} {aj off len s:Nat}:aB U L kn n (.win k aj off len s)=aB U L false n (.win k aj off len s):=by
 cases n<;>rfl
def Ji (l:List Rg):(l.map ak).map (·.map oX)=l.map ak:=by
 rw[Wv];rfl
def Eu (l:List Rg):∀e∈l.map ak,∀d∈e,nB d=true:=by
 intro e he d hd;obtain⟨x,_,rfl⟩:=ξ.1 he;simp[ak] at hd
 rcases hd with rfl|rfl<;>rfl
variable{N j:Nat}{S:St}{H:List aX}{x:D}
def kM {l:List Rg} (O:Has N S U H) (hj:H[j]?=some (.ai x 2 (l.map ak))) (hx:∀k,x.ref=k+1->L<=k) {n:Nat} (hn:3<=n):aB U L false n x=some (az l):=by
 rw[O.uZ hj hx (Eu l) hn,Ji,ef]
variable{s:fw}{gs:List (Nat×Nat)}{r:Int}
def jq:(cu gs s r).o=s.o/\(cu gs s r).g=s.g/\(cu gs s r).e=s.e/\s.i<=(cu gs s r).i/\(s.i<=gs.length->(cu gs s r).i<=gs.length):=by
 unfold cu
 split;next h=>have:=dR h;exact⟨rfl,rfl,rfl,by show s.i<=s.i+1;omega,λ_=>by show s.i+1<=_;omega⟩
 exact⟨rfl,rfl,rfl,φ _,λh=>h⟩
def ki (n:aQ):Prop:=n.rd=az n.rs/\n.rs.length<=1048576/\n.kids<=1048576
def fk (op mn mx:Int) (lz:Bool) (cap kids:Int) (a:List Rg):aQ:=⟨op,az a,a,mn,mx,lz,cap,kids⟩
def jO (l:List aQ):D:=.sl ((l.map aO).map (jK 7))
def Ov (l:List aQ):∀e∈l.map aO,e.length=7:=by
 intro e he;obtain⟨x,_,rfl⟩:=ξ.1 he;rfl
variable{l:List aQ}
def lO (h:∀n∈l,ki n):∀e∈l.map aO,∀d∈e,cv d=true:=by
 intro e he d hd;obtain⟨n,hn,rfl⟩:=ξ.1 he;have hr:=(h n hn).1;simp[aO,hr] at hd
 rcases hd with rfl|rfl|rfl|rfl|rfl|rfl|rfl<;>rfl
def iq (h:∀n∈l,ki n):fJ (jO l) 7 (l.map aO):=fJ.frozen (Ov l) (lO h)
def U8 (h:∀n∈l,ki n) (hl:l.length<=1048576):(⟨jO l,l⟩:Nl).ok:=by
 refine⟨iq h,λn hn=>?_,hl⟩;obtain⟨h1,X,h3⟩:=h n hn;exact⟨by rw[h1];exact dU _,X,by omega⟩
def oF (h:∀n∈l,ki n):(l.map aO).map (·.map oX)=l.map aO:=by
 rw[Wv];refine List.map_congr_left λn hn=>?_;have hr:=(h n hn).1;show(aO n).map oX=aO n;unfold aO;rw[hr];rfl
def lN (h:∀n∈l,ki n):∀e∈l.map aO,∀d∈e,nB d=true:=by
 intro e he d hd;have:=lO h e he d hd
 cases d<;>first|rfl|exact this
def fV {es:List (List D)} (O:Has N S U H) (hj:H[j]?=some (.ai x 7 es)) (he:es.map (·.map oX)=l.map aO) (ht:∀e∈es,∀d∈e,nB d=true) (hx:∀k,x.ref=k+1->L<=k) {n:Nat} (hn:3<=n):aB U L false n x=some (jO l):=by
 rw[O.uZ hj hx ht hn,he];rfl
variable{w:D}{op mn mx cap kids:Int}{lz:Bool}
def gZ {a:List Rg} (O:Has N S U H) (hj:H[j]?=some (.ai x 7 [[J W op,w,J W mn,J W mx,wt lz,J W cap,J W kids]])) (hw:w=az a\/w=.nul/\a=[]) (hx:∀k,x.ref=k+1->L<=k):aB U L false 16 x=some (jO [fk op mn mx lz cap kids a]):=by
 refine fV O hj ?_ (λe he d hd=>?_) hx (by decide);·rcases hw with rfl|⟨rfl,rfl⟩<;>rfl
 simp at he;subst he;simp at hd
 rcases hw with rfl|⟨rfl,rfl⟩<;>rcases hd with rfl|rfl|rfl|rfl|rfl|rfl|rfl<;>rfl
def AF {a:List Rg} (h:a.length<=1048576) (A:kids<=1048576):∀n∈[fk op mn mx lz cap kids a],ki n:=by
 intro n hn;simp at hn;subst hn;exact⟨rfl,h,A⟩
def zz (gs:List (Nat×Nat)) (s s':fw):Prop:=s'.o=s.o/\s'.g=s.g/\s.i<s'.i/\s'.i<=gs.length
def vF:∀{l:List D},(∀d∈l,cv d=true)->refs l=0
 |[],_=>rfl
 |d::l,h=>by
  have h1:=vF (l:=l) λd hd=>h d (Δ _ hd);have X:=h d (υ ..)
  have h3:d.ref=0:=by cases d<;>first|rfl|(simp[cv] at X)
  simp[refs,h1,h3,W']
def oE (h:∀n∈l,ki n):refs (l.map aO).flatten=0:=
 vF λd hd=>by
  obtain⟨e,he,sG⟩:=List.mem_flatten.1 hd;exact lO h e he d sG
def cU (l:List aQ):List D:=[jO l]
def rq {l:List (List aQ)} {i:Nat} {q:List aQ} (h:l[i]?=some q):(l.map cU)[i]?=some (cU q):=by rw[QS,h];rfl
def df:List (List aQ)->Nat
 |[]=>0
 |l::ls=>l.length+df ls
def cz:∀a b:List (List aQ),df (a++b)=df a+df b
 |[],b=>by simp[df]
 |l::a,b=>by rw[Ψ,df,df,cz a b];omega
def sn {a b c:aX} (h:Has N S U (a::b::c::H)):Has N S U (b::c::a::H):=by
 have h1:=h.front bf;have X:=h1.front dh;exact X.front bf
def uL (h:cy gs s.i r=false):cu gs s r=s:=by
 unfold cu;rw[if_neg (by rw[h];simp)]
def qY (h:cy gs s.i r=true):(cu gs s r).i=s.i+1:=by
 unfold cu;rw[if_pos h]
def D':∀(n:Nat) (b:List UInt8),b.length<=n->(mP b).length<=b.length/\∀g∈mP b,g.2<=b.length:=by
 intro n
 induction n with
 |zero=>
  intro b F;have:b=[]:=QX.1 (by omega);subst this;rw[sm];exact⟨φ _,λg hg=>by cases hg⟩
 |succ n ih=>
  intro b F
  by_cases h:b=[];·subst h;rw[sm];exact⟨φ _,λg hg=>by cases hg⟩
  have B:=nK b;have hl:=Ay h;obtain⟨h1,X⟩:=ih (b.drop (hD b).2) (by rw[Ω];omega);rw[Ω] at h1 X;rw[tv h];refine⟨by rw[δ];omega,λg hg=>?_⟩
  rcases η.1 hg with rfl|hg
  .exact hl
  have:=X g hg;omega
def bD (n:aQ):Bool:=((n.op==2)||(n.rs.length:Int)==0) &&((n.op==5)||((n.mn==0) &&(n.mx==0) &&!n.lz)) &&((n.op==6)||(n.cap==0))
noncomputable def ey (n:aQ) (g:Int):Int×Bool:=
 if bD n=false then(0,false)
 else if n.op=1\/n.op=7\/n.op=8 then(0,n.kids==0)
 else if n.op=2 then(0,(n.kids==0) &&nG n.rs)
 else if n.op=3\/n.op=4 then(n.kids,decide (n.kids>=2))
 else if n.op=5 then(1,(n.kids==1) &&decide (n.mn>=0) &&decide (n.mn<=30) &&((n.mx==-1)||(decide (n.mx>=n.mn) &&decide (n.mx<=30))))
 else if n.op=6 then(1,(n.kids==1) &&(n.cap==g+1) &&decide (n.cap<=4))
 else(0,false)
def iJ (h:Nat->Nat->Option (Nat×Nat)):Nat->Nat->Nat->Option (Nat×Nat)
 |0,at_,g=>some (at_,g)
 |k+1,at_,g=>match h at_ g with
  |some r=>iJ h k r.1 r.2
  |none=>none
noncomputable def il (l:List aQ):Nat->Nat->Nat->Option (Nat×Nat)
 |0,_,_=>none
 |f+1,at_,g=>match l[at_]? with
  |none=>none
  |some n=>if(ey n (g:Nat)).2=true then iJ (il l f) (ey n (g:Nat)).1.toNat (at_+1) (if n.op=6 then g+1 else g) else none
variable{n:aQ}{g:Nat}
def B8 (h:(ey n (g:Nat)).2=true):mV n (ey n (g:Nat)).1.toNat/\0<=(ey n (g:Nat)).1/\(n.op=6->n.cap=g+1/\n.cap<=4):=by
 unfold ey at h|-;unfold mV
 by_cases h0:bD n=false;·rw[if_pos h0] at h;cases h
 rw[if_neg h0] at h|-
 by_cases h1:n.op=1\/n.op=7\/n.op=8;·rw[if_pos h1] at h|-;simp at h;exact⟨⟨h,xR ⟨h1,rfl⟩⟩,WM _,λh6=>by omega⟩
 rw[if_neg h1] at h|-
 by_cases X:n.op=2;·rw[if_pos X] at h|-;simp at h;exact⟨⟨h.1,j4 (xR ⟨X,rfl⟩)⟩,WM _,λh6=>by omega⟩
 rw[if_neg X] at h|-
 by_cases h3:n.op=3\/n.op=4;·rw[if_pos h3] at h|-;simp only[decide_eq_true_eq] at h;exact⟨⟨by simp only;omega,j4 (j4 (xR ⟨h3,by simp only;omega⟩))⟩,by simp only;omega,λh6=>by omega⟩
 rw[if_neg h3] at h|-
 by_cases h5:n.op=5;·rw[if_pos h5] at h|-;simp only[QT,Q4,beq_iff_eq,decide_eq_true_eq] at h;exact⟨⟨by simp only;omega,j4 (j4 (j4 (xR ⟨h5,by simp only;rfl,by omega,by omega,by omega⟩)))⟩,by simp only;omega,λh6=>by omega⟩
 rw[if_neg h5] at h|-
 by_cases h6:n.op=6;·rw[if_pos h6] at h|-;simp at h;exact⟨⟨by simp only;omega,j4 (j4 (j4 (j4 ⟨h6,by simp only;rfl,by omega,by omega⟩)))⟩,by simp only;omega,λ_=>⟨h.1.2,h.2⟩⟩
 rw[if_neg h6] at h;cases h
def g_.cons {α:Type} {L zB:List α} {a:α} {at_:Nat} (h:L[at_]?=some a) (X:g_ L (at_+1) zB):g_ L at_ (a::zB):=by
 obtain⟨post,X⟩:=X;refine⟨post,?_⟩;have h3:L[at_]'(cI h)=a:=Option.some.inj ((ρ _).symm.trans h);rw[List.drop_eq_getElem_cons (cI h),X,h3];rfl
def g_.append {α:Type} {L zB M':List α} {at_:Nat} (h:g_ L at_ zB) (X:g_ L (at_+zB.length) M'):g_ L at_ (zB++M'):=by
 obtain⟨post,h⟩:=h;obtain⟨UW,X⟩:=X;refine⟨UW,?_⟩;rw[<-Γ,h,W4] at X;rw[h,X,ι]
def g_.none {α:Type} (L:List α) (at_:Nat):g_ L at_ []:=⟨_,rfl⟩
def yQ {l:List aQ} {h:Nat->Nat->Option (Nat×Nat)} (ih:∀at_ g r,h at_ g=some r->∃t:Q,t.ok/\g_ l at_ t.flat/\r.1=at_+t.flat.length):∀k at_ g r,iJ h k at_ g=some r->∃ts:aG,ts.len=k/\ts.ok/\g_ l at_ ts.flat/\r.1=at_+ts.flat.length
 |0,at_,g,r,e=>by
  simp[iJ] at e;subst e;exact⟨.nil,rfl,trivial,g_.none _ _,by simp[aG.flat]⟩
 |k+1,at_,g,r,e=>by
  unfold iJ at e
  cases hq:h at_ g with
  |none=>rw[hq] at e;cases e
  |some q=>
   rw[hq] at e;obtain⟨t,t1,t2,t3⟩:=ih _ _ _ hq;obtain⟨ts,u1,u2,u3,u4⟩:=yQ ih k _ _ _ e;rw[t3] at u3 u4;exact⟨.cons t ts,by simp[aG.len,u1],by simp[aG.ok];exact⟨t1,u2⟩,by simp[aG.flat];exact t2.append u3,by rw[u4];simp[aG.flat];omega⟩
def CG {l:List aQ}:∀f at_ g r,il l f at_ g=some r->∃t:Q,t.ok/\g_ l at_ t.flat/\r.1=at_+t.flat.length
 |0,_,_,_,e=>by simp[il] at e
 |f+1,at_,g,r,e=>by
  unfold il at e
  cases hn:l[at_]? with
  |none=>rw[hn] at e;cases e
  |some n=>
   rw[hn] at e;simp only at e
   split at e;next hs=>obtain⟨ts,u1,u2,u3,u4⟩:=yQ (CG f) _ _ _ _ e;have:=(B8 hs).1;rw[<-u1] at this;exact⟨.mk n ts,by simp[Q.ok];exact⟨this,u2⟩,by simp[Q.flat];exact g_.cons hn u3,by rw[u4];simp[Q.flat];omega⟩
   cases e
noncomputable def eM (l:List aQ):Bool:=(decide (1<=l.length) &&decide (l.length<=480)) &&(match il l 241 0 0 with|some r=>decide (r.1=l.length)|none=>false)
def vE (h:eM l=true):∃t:Q,t.ok/\t.flat=l:=by
 unfold eM at h;simp only[QT] at h;obtain⟨_,h⟩:=h
 split at h;next r hr=>obtain⟨t,h1,⟨post,X⟩,h3⟩:=CG _ _ _ _ hr;rw[decide_eq_true_eq] at h;refine⟨t,h1,?_⟩;rw[List.drop_zero] at X;have h4:=congrArg Wk X;rw[γ] at h4;have h5:post=[]:=QX.1 (by omega);rw[X,h5,List.append_nil]
 cases h
noncomputable def b8 (l:List aQ):Q:=@dite _ (∃t:Q,t.ok/\t.flat=l) (Q6 _) (λh=>QY h) (λ_=>.mk ⟨0,.nul,[],0,0,false,0,0⟩ .nil)
def oh (h:eM l=true):(b8 l).ok/\(b8 l).flat=l:=by
 unfold b8;rw[dif_pos (vE h)];exact Q9 (vE h)
def PI {s:Nat}:min (cg n (min s 401) k) 401=min (cg n s k) 401:=by
 by_cases hs:s<=401;·rw[W5 hs]
 have hx:min s 401=401:=by omega
 rw[hx];unfold cg
 split;·rfl
 split;·omega
 split;·omega
 split
 .split;·omega
  by_cases h0:n.mn.toNat=0
  .rw[h0]
   by_cases hd:n.mx.toNat-0=0;·rw[hd];simp
   have h1:=ς (401+1) (show 0<n.mx.toNat-0 by omega);have X:=ς (s+1) (show 0<n.mx.toNat-0 by omega);omega
  have h1:=ς 401 (show 0<n.mn.toNat by omega);have X:=ς s (show 0<n.mn.toNat by omega);omega
 omega
def kE (t:Q) (b r:Nat):List bn:=bZ 4 0 0 []::(aF t (b+1)++[bZ 4 1 0 [],bZ 7 (r:Nat) 0 []])
variable{b:Nat}{t:Q}
def sO {r:Nat} (h:t.ok):(kE t b r).length=t.sz+3:=by
 unfold kE;rw[δ,γ,dD t _ h];rfl
structure gk where
 code:List bn
 aN:List Int
 e:Int
 w:Int
noncomputable def kQ:List (List aQ)->Nat->List bn->List Int->gk
 |[],_,c,s=>⟨c,s,0,0⟩
 |l::ls,r,c,s=>if eM l=false then⟨[],[],1,(r:Nat)⟩ else if 400<c.length+min (b8 l).sz 401+3 then⟨[],[],12,(r:Nat)⟩ else kQ ls (r+1) (c++kE (b8 l) c.length r) (s++[(c.length:Int)])
noncomputable def bq (rules:List (List aQ)):gk:=if 8<rules.length then⟨[],[],13,8⟩ else kQ rules 0 [] []
def Au (code:List bn) (aN:List Int):Pg:=⟨.sl ((code.map bN).map (jK 4)),code,LA aN,aN⟩
def lZ (i:bn):Prop:=i.rd=.sl ((i.rs.map ak).map (jK 2))/\i.rs.length<=1048576
def ry (op x y:Int):lZ (bZ op x y []):=⟨rfl,by simp[bZ]⟩
variable{rs:List Rg}
def Vb (op x y:Int) (h:rs.length<=1048576):lZ (bZ op x y rs):=⟨rfl,h⟩
def Ke (s o:Nat) (lz:Bool):lZ (mS s o lz):=by unfold mS;split<;>exact ry _ _ _
def Ql (e:Nat):lZ (jH e):=ry _ _ _
variable{code:List bn}
def Ft (h:∀i∈code,lZ i):∀e∈code.map bN,∀d∈e,cv d=true:=by
 intro e he d hd;obtain⟨q,hq,rfl⟩:=ξ.1 he;have hr:=(h q hq).1;simp only[bN,hr,η,Q2,or_false] at hd
 rcases hd with rfl|rfl|rfl|rfl<;>rfl
def OQ (code:List bn):∀e∈code.map bN,e.length=4:=by
 intro e he;obtain⟨q,_,rfl⟩:=ξ.1 he;rfl
def KS {aN:List Int} (h:∀i∈code,lZ i) (h1:code.length<=1048576) (X:aN.length<=1048576):(Au code aN).ok:=by
 refine⟨fJ.frozen (OQ code) (Ft h),Da _,λi hi=>?_,h1,X⟩;obtain⟨h3,h4⟩:=h i hi;refine⟨?_,h4⟩;rw[h3];exact fJ.frozen (oy _) (cX _)
def ET {c:Nat->List bn} {z:Nat} (hc:∀b,∀i∈c b,lZ i):∀k b,∀i∈gv c z k b,lZ i
 |0,b,i,hi=>by cases hi
 |k+1,b,i,hi=>by
  simp only[gv] at hi
  rcases κ.1 hi with hi|hi
  .exact hc b i hi
  exact ET hc k _ i hi
def KZ {sp:Nat->bn} {c:Nat->List bn} {z:Nat} (hs:∀s,lZ (sp s)) (hc:∀b,∀i∈c b,lZ i):∀k b,∀i∈fS sp c z k b,lZ i
 |0,b,i,hi=>by cases hi
 |k+1,b,i,hi=>by
  simp only[fS] at hi
  rcases η.1 hi with rfl|hi
  .exact hs _
  rcases κ.1 hi with hi|hi
  .exact hc _ i hi
  exact KZ hs hc k _ i hi
mutual
def u9:∀(t:Q) (b:Nat),(∀n∈t.flat,n.rs.length<=1048576)->∀i∈aF t b,lZ i
 | .mk n ks,b,h,i,hi=>by
  simp only[Q.flat] at h;have hn:=h n (υ ..);have A:∀n∈ks.flat,n.rs.length<=1048576:=λm hm=>h m (Δ _ hm);have hc:=λb=>MU ks b A;have ha:=λjp (hj:lZ jp) b=>Nc jp hj ks b A;simp[aF] at hi
  split at hi
  .simp at hi;subst hi;exact Vb _ _ _ hn
  split at hi
  .simp at hi;subst hi;exact ry _ _ _
  split at hi
  .simp at hi;subst hi;exact ry _ _ _
  split at hi
  .exact hc b i hi
  split at hi
  .exact ha _ (Ql _) b i hi
  split at hi
  .unfold xx at hi
   split at hi
   .rcases κ.1 hi with hi|hi
    .exact ET hc _ _ i hi
    .rcases η.1 hi with rfl|hi
     .exact Ke _ _ _
     .rcases κ.1 hi with hi|hi
      .exact hc _ i hi
      .simp at hi;subst hi;exact Ql _
   .rcases κ.1 hi with hi|hi
    .exact ET hc _ _ i hi
    .exact KZ (λs=>Ke _ _ _) hc _ _ i hi
  split at hi
  .rcases η.1 hi with rfl|hi
   .exact ry _ _ _
   .rcases κ.1 hi with hi|hi
    .exact hc _ i hi
    .simp at hi;subst hi;exact ry _ _ _
  .cases hi
def MU:∀(ts:aG) (b:Nat),(∀n∈ts.flat,n.rs.length<=1048576)->∀i∈iG ts b,lZ i
 | .nil,b,_,i,hi=>by simp[iG] at hi
 | .cons t ts,b,h,i,hi=>by
  simp only[aG.flat] at h;simp only[iG] at hi
  rcases κ.1 hi with hi|hi
  .exact u9 t b (λn hn=>h n (QC _ hn)) i hi
  .exact MU ts _ (λn hn=>h n (QK _ hn)) i hi
def Nc (jp:bn) (hj:lZ jp):∀(ts:aG) (b:Nat),(∀n∈ts.flat,n.rs.length<=1048576)->∀i∈eC jp ts b,lZ i
 | .nil,b,_,i,hi=>by simp[eC] at hi
 | .cons t ts,b,h,i,hi=>by
  simp only[aG.flat] at h;have h1:∀n∈t.flat,n.rs.length<=1048576:=λn hn=>h n (QC _ hn);have X:∀n∈ts.flat,n.rs.length<=1048576:=λn hn=>h n (QK _ hn);simp[eC] at hi
  split at hi
  .exact u9 t b h1 i hi
  .rcases η.1 hi with rfl|hi
   .exact Ke _ _ _
   .rcases κ.1 hi with hi|hi
    .exact u9 t _ h1 i hi
    .rcases η.1 hi with rfl|hi
     .exact hj
     .exact Nc jp hj ts _ X i hi
end
def NX {r:Nat} (h:∀n∈t.flat,n.rs.length<=1048576):∀i∈kE t b r,lZ i:=by
 intro i hi;unfold kE at hi
 rcases η.1 hi with rfl|hi
 .exact ry _ _ _
 rcases κ.1 hi with hi|hi
 .exact u9 t _ h i hi
 simp at hi
 rcases hi with rfl|rfl
 .exact ry _ _ _
 exact ry _ _ _
def PX.zD {hk hp:Prop} (e:hk->hp:=by intro h;dsimp only[u2,u1,u3,u4,setMany,u5,u6,D.cells,Nat.reduceAdd,aO] at h;exact h):hk->hp:=e
variable{Y:St}
def KO (hn:n.ok):Ev pv 118 [.agg (aO n)] Y (wt (bD n)) Y:=by
 open PX in
 refine zM XQ λS aP hF O=>?_;have rO:=hn.1.arg Y.bs.length S;have ma:=hn.2.1;refine M 13 λk1 U jo O=>?_;refine ah.ni 2 (wt (((n.op==2)||(n.rs.length:Int)==0) &&((n.op==5)||((n.mn==0) &&(n.mx==0) &&!n.lz)) &&((n.op==6)||(n.cap==0)))) [] ?_ (λff tmp=>?_)
 .refine G 4 ?_;refine y2 10 (λc8=>?_) λc8=>?_
  .refine G 8 ?_;refine y2 18 (λdS=>?_) λdS=>?_
   .refine G 20 ?_;refine y2 38 (λk_=>?_) λk_=>?_
    .refine M 8 ?_
     all_goals(simp[c8,dS,k_];done)
    refine M 8 ?_
    all_goals(simp[c8,dS,k_];done)
   refine G 4 ?_;refine y2 22 (λte=>?_) λte=>?_
   .refine M 5 ?_;refine y2 27 (λwH=>?_) λwH=>?_
    .refine M 7 ?_;refine y2 34 (λA_=>?_) λA_=>?_
     .refine G 4 ?_;refine y2 38 (λk_=>?_) λk_=>?_
      .refine M 8 ?_
       all_goals(simp[c8,dS,te,wH,A_,k_];done)
      refine M 8 ?_
      all_goals(simp[c8,dS,te,wH,A_,k_];done)
     refine M 12 ?_
     all_goals(simp[c8,dS,te,wH,A_];done)
    refine M 19 ?_
    all_goals(simp[c8,dS,te,wH];done)
   refine M 24 ?_
   all_goals(simp[c8,dS,te];done)
  refine M 6 ?_;refine y2 16 (λb6=>?_) λb6=>?_
  .refine G 2 ?_;refine y2 18 (λdS=>?_) λdS=>?_
   .refine M 20 ?_;refine y2 38 (λk_=>?_) λk_=>?_
    .refine M 8 ?_
     all_goals(simp[c8,b6,dS,k_];done)
    refine M 8 ?_
    all_goals(simp[c8,b6,dS,k_];done)
   refine G 4 ?_;refine y2 22 (λte=>?_) λte=>?_
   .refine M 5 ?_;refine y2 27 (λwH=>?_) λwH=>?_
    .refine M 7 ?_;refine y2 34 (λA_=>?_) λA_=>?_
     .refine G 4 ?_;refine y2 38 (λk_=>?_) λk_=>?_
      .refine M 8 ?_
       all_goals(simp[c8,b6,dS,te,wH,A_,k_];done)
      refine M 8 ?_
      all_goals(simp[c8,b6,dS,te,wH,A_,k_];done)
     refine M 12 ?_
     all_goals(simp[c8,b6,dS,te,wH,A_];done)
    refine M 19 ?_
    all_goals(simp[c8,b6,dS,te,wH];done)
   refine M 24 ?_
   all_goals(simp[c8,b6,dS,te];done)
  refine M 30 ?_
  all_goals(simp[c8,b6];done)
 dsimp only[aC,ε,nth,u2,u1];exact M 0 trivial
def ED (hn:n.ok) (hg:g<=1048576):Ev pv 97 [.agg (aO n),J W (g:Nat)] Y (.tup [J W (ey n (g:Nat)).1,wt (ey n (g:Nat)).2]) Y:=by
 open PX in
 refine zM abv λS aP hF O=>?_;have rO:=hn.1.arg Y.bs.length S;have ma:=hn.2.1;refine M 9 λk2 U jn O=>?_;refine u.gp (m:=7) O rfl (ev rfl) (by exact aV) (by dsimp<;>rfl) rfl rfl (by dsimp<;>rfl) ?_;refine M (t:=(KO hn)) 3 ?_;unfold ey
 cases B:bD n with
 |false=>
  rw[if_pos rfl];exact M 6 trivial
 |true=>
  rw[if_neg (by simp)];refine G 15 ?_
  by_cases q1:n.op=1;·rw[if_pos (xR q1)];refine vX ?_;refine G 1 ?_;refine vX ?_;exact M 8 trivial
  refine vY ?_;refine G 5 ?_
  by_cases q7:n.op=7;·rw[if_pos (j4 (xR q7))];refine vX ?_;refine G 1 ?_;refine vX ?_;exact M 8 trivial
  refine vY ?_;refine G 4 ?_
  by_cases q8:n.op=8;·rw[if_pos (j4 (j4 q8))];refine vX ?_;exact M 8 trivial
  refine vY ?_;rw[if_neg (by omega)];refine G 5 ?_;refine zI (λq2=>?_) λq2=>?_
  .rw[if_pos q2];refine qq<|ah.S5 [4,5] (λff=>ff 4=J W 0/\ff 5=wt ((n.kids==0) &&nG n.rs)) ?_ (λff tmp ly=>?_)
   .refine G 4 ?_;refine y2 23 (λc8=>?_) λc8=>?_
    .refine M (t:=(Ky (rO.rows O) ma)) 6 ?_;refine ω (nQ ?_ ?_);·dsimp[aC,ε,nth,u2,u1]
     dsimp[nth];refine zF ?_;refine⟨?_,?_⟩<;>(first|rfl|(simp[c8];done)|(simp_all;done)|(simp[c8];omega)|(simp_all;omega))
    refine G 6 ?_;refine ω (nQ ?_ ?_);·dsimp[aC,ε,nth,u2,u1]
    dsimp[nth];refine zF ?_;refine⟨?_,?_⟩<;>(first|rfl|(simp[c8];done)|(simp_all;done)|(simp[c8];omega)|(simp_all;omega))
   dsimp only[aC,ε,nth,u2,u1];obtain⟨Me,Md⟩:=ly;rw[Me,Md];exact M 0 trivial
  rw[if_neg q2];refine G 6 ?_
  by_cases q3:n.op=3;·rw[if_pos (xR q3)];refine vX ?_;refine G 1 ?_;refine vX ?_;exact M 10 trivial
  refine vY ?_;refine G 4 ?_
  by_cases q4:n.op=4;·rw[if_pos (j4 q4)];refine vX ?_;exact M 10 trivial
  rw[if_neg (by omega)];refine vY ?_;refine G 5 ?_;refine zI (λq5=>?_) λq5=>?_
  .rw[if_pos q5];refine qq<|ah.S5 [4,5] (λff=>ff 4=J W 1/\ff 5=wt ((n.kids==1) &&decide (n.mn>=0) &&decide (n.mn<=30) &&((n.mx==-1)||(decide (n.mx>=n.mn) &&decide (n.mx<=30))))) ?_ (λff tmp ly=>?_)
   .refine G 4 ?_;refine y2 41 (λc8=>?_) λc8=>?_
    .refine G 5 ?_;refine y2 46 (λeO=>?_) λeO=>?_
     .refine G 5 ?_;refine y2 51 (λgR=>?_) λgR=>?_
      .refine G 4 ?_;refine y2 55 (λaL=>?_) λaL=>?_
       .refine M 14 ?_;refine ω (nQ ?_ ?_);·dsimp[aC,ε,nth,u2,u1]
        dsimp[nth];refine zF ?_;refine⟨?_,?_⟩<;>(first|rfl|(simp[c8,eO,gR,aL];done)|(simp_all;done)|(simp[c8,eO,gR,aL];omega)|(simp_all;omega))
       refine G 6 ?_;refine y2 61 (λA'=>?_) λA'=>?_
       .refine M 8 ?_;refine ω (nQ ?_ ?_);·dsimp[aC,ε,nth,u2,u1]
        dsimp[nth];refine zF ?_;refine⟨?_,?_⟩<;>(first|rfl|(simp[c8,eO,gR,aL,A'];done)|(simp_all;done)|(simp[c8,eO,gR,aL,A'];omega)|(simp_all;omega))
       refine M 8 ?_;refine ω (nQ ?_ ?_);·dsimp[aC,ε,nth,u2,u1]
       dsimp[nth];refine zF ?_;refine⟨?_,?_⟩<;>(first|rfl|(simp[c8,eO,gR,aL,A'];done)|(simp_all;done)|(simp[c8,eO,gR,aL,A'];omega)|(simp_all;omega))
      refine G 18 ?_;refine ω (nQ ?_ ?_);·dsimp[aC,ε,nth,u2,u1]
      dsimp[nth];refine zF ?_;refine⟨?_,?_⟩<;>(first|rfl|(simp[c8,eO,gR];done)|(simp_all;done)|(simp[c8,eO,gR];omega)|(simp_all;omega))
     refine G 23 ?_;refine ω (nQ ?_ ?_);·dsimp[aC,ε,nth,u2,u1]
     dsimp[nth];refine zF ?_;refine⟨?_,?_⟩<;>(first|rfl|(simp[c8,eO];done)|(simp_all;done)|(simp[c8,eO];omega)|(simp_all;omega))
    refine G 28 ?_;refine ω (nQ ?_ ?_);·dsimp[aC,ε,nth,u2,u1]
    dsimp[nth];refine zF ?_;refine⟨?_,?_⟩<;>(first|rfl|(simp[c8];done)|(simp_all;done)|(simp[c8];omega)|(simp_all;omega))
   dsimp only[aC,ε,nth,u2,u1];obtain⟨Me,Md⟩:=ly;rw[Me,Md];exact M 0 trivial
  rw[if_neg q5];refine G 5 ?_;refine zI (λq6=>?_) λq6=>?_
  .rw[if_pos q6];refine qq<|ah.S5 [4,5] (λff=>ff 4=J W 1/\ff 5=wt ((n.kids==1) &&(n.cap==((g+1:Nat):Int)) &&decide (n.cap<=4))) ?_ (λff tmp ly=>?_)
   .refine G 4 ?_;refine y2 73 (λc8=>?_) λc8=>?_
    .refine G 7 ?_;refine y2 80 (λdw=>?_) λdw=>?_
     .refine G 6 ?_;refine ω (nQ ?_ ?_);·dsimp[aC,ε,nth,u2,u1]
      dsimp only[nth];refine zF ?_;refine⟨?_,?_⟩<;>(first|rfl|(simp[c8,dw];done)|(simp_all;done)|(simp[c8,dw];omega)|(simp_all;omega))
     refine G 6 ?_;refine ω (nQ ?_ ?_);·dsimp[aC,ε,nth,u2,u1]
     dsimp only[nth];refine zF ?_;refine⟨?_,?_⟩<;>(first|rfl|(simp[c8,dw];done)|(simp_all;done)|(simp[c8,dw];omega)|(simp_all;omega))
    refine G 13 ?_;refine ω (nQ ?_ ?_);·dsimp[aC,ε,nth,u2,u1]
    dsimp only[nth];refine zF ?_;refine⟨?_,?_⟩<;>(first|rfl|(simp[c8];done)|(simp_all;done)|(simp[c8];omega)|(simp_all;omega))
   dsimp only[aC,ε,nth,u2,u1];obtain⟨Me,Md⟩:=ly;rw[Me,Md];exact M 0 trivial
  rw[if_neg q6];exact M 6 trivial
def vS (h:n.ok):refs (aO n)=0:=by
 have:=h.1.ref;simp[aO,refs,Wg,this,W']
def BM (d:D) (at_ g:Nat):List D:=[d,J W (at_:Nat),J W (g:Nat)]
variable{d:D}
def K6 (hl:l.length<=1048576) (hi:∀n∈l,n.ok) (hd:fJ d 7 (l.map aO)):∀(f:Nat) {N k:Nat} {S Y:St} {H:List aX} {at_ g:Nat},f<=241->g<=4->Has N S Y (x4 k (.mem 0 false (BM d at_ g))::H)->
  ∃r R,Ev pv 74 [yv k 0 0,J W ((241-f:Nat):Int)] Y r R/\r=wt (il l f at_ g).isSome/\∃a' g',Has N S R (x4 k (.mem 0 false (BM d a' g'))::H)/\g'<=4/\∀q,il l f at_ g=some q->a'=q.1/\g'=q.2:=by
 intro f
 induction f with
 |zero=>
  intro N k S Y H at_ g hf hg O;have br:=O;refine zO W7 λS2 bj O=>?_;have hc:=hd.arg N S2;refine G 6 ?_;refine ah.dM 21 (wt (decide ((at_:Int)>=(l.length:Nat))||decide (((241-0:Nat):Int)>240))) [] ?_ (λff tmp bp=>?_)
  .refine M 11 ?_;refine y2 18 (λdw=>?_) λdw=>?_;·refine G 3 ?_;exact vV
   refine G 3 ?_;exact vV
  dsimp only[aC,ε,nth,u2,u1];have hT:(decide ((at_:Int)>=(l.length:Nat))||decide (((241-0:Nat):Int)>240))=true:=by simp
  rw[hT] at bp;refine M 6 ?_;exact⟨rfl,_,_,br.ag bj O,hg,λq hq=>by simp[il] at hq⟩
 |succ f ih=>
  intro N k S Y H at_ g hf hg O;have br:=O;refine zO W7 λS2 bj O=>?_;have hc:=hd.arg N S2;refine G 6 ?_;refine ah.dM 21 (wt (decide ((at_:Int)>=(l.length:Nat))||decide (((241-(f+1):Nat):Int)>240))) [] ?_ (λff tmp bp=>?_)
  .refine M 11 ?_;refine y2 18 (λdw=>?_) λdw=>?_;·refine G 3 ?_;exact vV
   refine G 3 ?_;refine vU ?_
   all_goals(simp_all;omega)
  dsimp only[aC,ε,nth,u2,u1]
  by_cases ha:l.length<=at_
  .have hT:(decide ((at_:Int)>=(l.length:Nat))||decide (((241-(f+1):Nat):Int)>240))=true:=by
    rw[Q4];exact xR (by rw[decide_eq_true_eq];omega)
   rw[hT] at bp;have hn:il l (f+1) at_ g=none:=by unfold il;rw[List.getElem?_eq_none ha]
   rw[hn];refine M 6 ?_;exact⟨rfl,_,_,br.ag bj O,hg,λq hq=>by cases hq⟩
  have hT:(decide ((at_:Int)>=(l.length:Nat))||decide (((241-(f+1):Nat):Int)>240))=false:=by
   rw[QH];exact⟨by rw[decide_eq_false_iff_not];omega,by rw[decide_eq_false_iff_not];omega⟩
  rw[hT] at bp
  obtain⟨n,hn⟩:=gx (l:=l) (i:=at_)
  have mb:=hi n (Θ hn);have dO:=i_ hn;have Hi:=vS mb
  have jv:il l (f+1) at_ g=if(ey n (g:Nat)).2=true then iJ (il l f) (ey n (g:Nat)).1.toNat (at_+1) (if n.op=6 then g+1 else g) else none:=by
   rw[il,hn]
  rw[jv];clear jv;refine M 15 λYv O4 k5 U FA O=>?_;refine u.cB O rfl (ev rfl) (ev rfl) (by rfl) (by exact rfl) (by exact aV) (by exact rfl) (by exact j4 (by assumption)) (λU O=>?_);dsimp[u2,u1,u3,u4,setMany,u5,u6,Ξ,μ,BM,aO] at O;refine M 8 ?_;refine qv (ED mb (by omega)) ?_;refine G 12 ?_
  cases hsh:(ey n (g:Nat)).2 with
  |false=>
   rw[if_neg (by simp)];refine G 5 ?_;refine ah.ret ⟨rx,_,_,_,rfl,aH (rfl),?_⟩;exact⟨rfl,_,_,br.ag bj (O.drop 1),hg,λq hq=>by cases hq⟩
  |true=>
   rw[if_pos rfl];obtain⟨⟨jo,_⟩,jn,A7⟩:=B8 hsh;have QA:=mb.2.2;obtain⟨kd,Fz⟩:∃kd:Nat,(ey n (g:Nat)).1=(kd:Int):=χ jn;rw[Fz,Qe];rw[Fz,Qe] at jo;refine G 11 ?_;refine qT O bf λU O=>?_;dsimp[u2,u1,u3,u4,setMany,u5,u6,Ξ,μ,BM,aO] at O;refine G 8 ?_;refine ah.merge (λI U=>∃(g2:Nat) (tmp:List (Nat×D)),I=⟨8,[yv k 0 0,J W ((241-(f+1):Nat):Int),ay I 2,ay I 3,wt false,yv k5 0 0,J W (kd:Nat),wt true],tmp⟩/\Has N S2 U (x4 k (.mem 0 false [d,J W ((at_+1:Nat):Int),J W (g2:Nat)])::x4 k5 (.mem 0 false (aO n))::H)/\(g2=if n.op=6 then g+1 else g)/\(g2<=4)) ?_ ?_
   .refine zI (λq6=>?_) λq6=>?_;·have:=A7 q6;refine M 10 λU O=>?_;exact⟨g+1,_,rfl,(by have:=O.front bf;exact this),by rw[if_pos q6],by omega⟩
    refine G 1 ?_;exact⟨g,_,rfl,(by have:=O.front bf;exact this),by rw[if_neg q6],hg⟩
   rintro I U ⟨g2,tmp,hfr,O,ba,c8⟩;refine zK λee=>?_;rw[<-ba];refine G 2 ?_;refine ah.loop (λmm I U=>∃(kk a2 g4:Nat),I.clean=⟨8,[yv k 0 0,J W ((241-(f+1):Nat):Int),ay I 2,ay I 3,wt false,yv k5 0 0,J W (kk:Nat),wt true],[]⟩/\Has N S2 U (x4 k (.mem 0 false [d,J W (a2:Nat),J W (g4:Nat)])::x4 k5 (.mem 0 false (aO n))::H)/\(iJ (il l f) kk a2 g4=iJ (il l f) kd (at_+1) g2)/\(g4<=4)/\(kk=mm)/\(kk<=9223372036854775807)) (kd) ?_ ?_;·exact⟨kd,at_+1,g2,rfl,O,rfl,c8,rfl,by omega⟩
   rintro mm I U ⟨kk,a2,g4,hfr,O,hX,iF,JG,hkk⟩;refine zK λee=>?_;refine G 6 ?_
   cases kk with
   |zero=>
    refine M 7 ?_;exact⟨by rw[<-hX];rfl,_,_,br.ag bj (O.erase 1),iF,λq hq=>by rw[<-hX] at hq;simp[iJ] at hq;subst hq;exact⟨rfl,rfl⟩⟩
   |succ kk=>
    rw[iJ] at hX;refine qD rfl (by simp) ?_;refine G 7 ?_;refine yA (z:=((241-f:Nat):Int)) ?_;obtain⟨_,U,aK,rfl,a',g',O,fI,hq⟩:=ih (at_:=a2) (g:=g4) (by omega) iF O;refine M 3 ?_
    cases ho:il l f a2 g4 with
    |none=>
     rw[ho] at hX;refine M 6 ?_;exact⟨by rw[<-hX];rfl,_,_,br.ag bj (O.erase 1),fI,λq hq=>by rw[<-hX] at hq;cases hq⟩
    |some q=>
     rw[ho] at hX;obtain⟨rfl,rfl⟩:=hq q ho;refine G 4 ?_;refine yB (z:=(kk:Int)) ?_;refine G 2 ?_;exact⟨mm-1,by omega,kk,q.1,q.2,rfl,O,hX,fI,by omega,by omega⟩
def yp {x:Nl} (hx:x.ok):Ev pv 44 [x.d] Y (wt (eM x.l)) Y:=by
 refine zM acg λS aP hF O=>?_;have hc:=hx.c.arg Y.bs.length S;have hl:=hx.nl;have ux:=hx.c;refine G 6 ?_;refine ah.dM 11 (wt (decide ((x.l.length:Int)<1)||decide ((x.l.length:Int)>480))) [] ?_ (λff tmp bp=>?_)
 .refine M 4 ?_;refine y2 7 (λc8=>?_) λc8=>?_;·refine G 4 ?_;exact vV
  refine M 4 ?_;exact vV
 dsimp only[aC,ε,nth,u2,u1]
 by_cases hlen:1<=x.l.length/\x.l.length<=480
 .have hT:(decide ((x.l.length:Int)<1)||decide ((x.l.length:Int)>480))=false:=by
   rw[QH];exact⟨by rw[decide_eq_false_iff_not];omega,by rw[decide_eq_false_iff_not];omega⟩
  rw[hT] at bp
  have hR:eM x.l=(match il x.l 241 0 0 with|some r=>decide (r.1=x.l.length)|none=>false):=by
   unfold eM;rw[decide_eq_true hlen.1,decide_eq_true hlen.2];rfl
  rw[hR];clear hR;refine M 9 λk14 U Sn O=>?_;have O:Has Y.bs.length S U (x4 k14 (.mem 0 false (BM x.d 0 0))::[]):=O
  cases ba:(il x.l 241 0 0).isSome with
  |true=>
   obtain⟨q,hq⟩:=Option.isSome_iff_exists.1 ba;refine G 3 ?_;obtain⟨_,U,aK,rfl,a',g',O,fI,hqq⟩:=K6 hl hx.i hx.c 241 (by omega) (by omega) O;refine M 12 ?_;obtain⟨rfl,rfl⟩:=hqq q hq;rw[hq]
   have he:decide (q.1=x.l.length)=((q.1:Int)==(x.l.length:Int)):=by
    rw[Bool.eq_iff_iff];simp;omega
   simp only[he];exact M 0 trivial
  |false=>
   have hq:il x.l 241 0 0=none:=by
    cases hq:il x.l 241 0 0 with
    |none=>rfl
    |some q=>rw[hq] at ba;cases ba
   refine G 3 ?_;obtain⟨_,U,aK,rfl,a',g',O,fI,hqq⟩:=K6 hl hx.i hx.c 241 (by omega) (by omega) O;refine M 12 ?_;rw[hq];exact M 0 trivial
 have hT:(decide ((x.l.length:Int)<1)||decide ((x.l.length:Int)>480))=true:=by
  rw[Q4,decide_eq_true_eq,decide_eq_true_eq];omega
 rw[hT] at bp
 have hR:eM x.l=false:=by
  unfold eM
  by_cases h1:1<=x.l.length;·rw[decide_eq_true h1,decide_eq_false (λX=>hlen ⟨h1,X⟩)];rfl
  rw[decide_eq_false h1];rfl
 rw[hR];exact M 5 trivial
def su (es:List Int) (a:Nat) (zB:List Int):List Int:=es.take a++zB++es.drop (a+zB.length)
variable{es zB:List Int}{a:Nat}
def Gl (h:a+zB.length<=es.length):(su es a zB).length=es.length:=by
 unfold su;simp only[γ,Qu,Ω];omega
theorem Gk:su es a []=es:=by
 unfold su;simp
def NT {x:Int} (h:a<=es.length):(su es a (x::zB))[a]?=some x:=by
 unfold su;rw[ι,QQ (by simp;omega)];simp[W5 h]
def Gi {M':List Int} (h:a+zB.length+M'.length<=es.length):su (su es a zB) (a+zB.length) M'=su es a (zB++M'):=by
 unfold su;have h1:(es.take a++zB).length=a+zB.length:=by simp only[γ,Qu];omega
 rw[List.take_append_of_le_length (by omega),ο (by omega)];rw[<-h1,List.drop_append,List.drop_eq_nil_of_le (by omega),Q7,h1,Γ];simp only[ι,γ]
 congr 4
 omega
def Gj {v:Int} (h:a+1+zB.length<=es.length):(su es (a+1) zB).set a v=su es a (v::zB):=by
 unfold su;have h1:(es.take a).length=a:=by simp;omega
 rw[ι,List.take_add_one,ρ (by omega)];simp only[Option.toList_some,ι,Ψ,Q7,δ];rw[QV _ _ (by omega),h1,QG,List.set_cons_zero]
 congr 4
 omega
def Kg (hl:l.length<=1048576) (hi:∀n∈l,n.ok) (hd:fJ d 7 (l.map aO)):∀(m:Nat) (t:Q),t.flat.length<=m->t.ok->∀{N:Nat} {S Y:St} {H:List aX} {out:D} {es:List Int} {at_:Nat},g_ l at_ t.flat->es.length=l.length->Has N S Y (.ai out 1 (es.map av)::H)->
  ∃r R,Ev pv 45 [d,out,.int .i64 (at_:Nat)] Y r R/\r=.int .i64 ((at_+t.flat.length:Nat):Int)/\Has N S R (.ai out 1 ((su es at_ t.zs).map av)::H):=by
 intro m
 induction m with
 |zero=>intro t h;have:=t.lV;omega
 |succ m ih=>
  rintro⟨n,ks⟩ hm bK N S Y H out es at_ rK sF O;simp[Q.ok] at bK;obtain⟨mb,rQ⟩:=bK;simp only[Q.flat,δ] at hm;have hle:=rK.le (by simp[Q.flat]);simp only[Q.flat] at rK hle;simp at hle;have hn:=rK.head;have rK:=rK.tail;have L1:=hi n (Θ hn);have dO:=i_ hn;have Hi:=vS L1;have Fz:=mb.1;have iS:=aG.sX ks;have br:=O;refine zO acf λS2 bj O=>?_;have hc:=hd.arg N S2;refine M 9 λp13 VS=>?_;refine u.mr rfl (ev rfl) (by assumption) rfl (by dsimp<;>rfl) ?_;refine qa O λk7 U Wf O=>?_;refine u.cB O rfl (ev rfl) (ev rfl) (by rfl) (by exact rfl) (by exact aV) (by exact rfl) (by exact .inr (by assumption)) (λU O=>?_);dsimp[u2,u1,u3,u4,setMany,u5,u6,Ξ,μ,aO,av] at O;refine G 19 ?_;refine ah.loop (λmm I U=>∃(i j ss:Nat) (rest:aG) (uz:List Int),I.clean=fL I 36 [(0,d),(0,out),(0,.int .i64 (at_:Nat)),(3,.int .i64 0),(0,.ptr k7 0 0),(0,.int .i64 (j:Nat)),(0,.int .i64 ((min ss 401:Nat):Int)),(8,.int .i64 n.kids),(0,.int .i64 (i:Nat))]/\Has N S2 U (.ai out 1 (uz.map av)::.box k7 (.mem 0 false (aO n))::H)/\(mm=rest.len)/\(i+rest.len=ks.len)/\(g_ l j rest.flat)/\(rest.ok)/\(ss+rest.sz=ks.sz)/\(uz.length=l.length)/\(su uz j rest.zs=su es (at_+1) ks.zs)/\(j+rest.flat.length=at_+1+ks.flat.length)/\(rest.flat.length<=m)) (ks.len) ?_ ?_;·exact⟨0,at_+1,0,ks,es,rfl,(by have:=O.front bf;exact this),rfl,by omega,rK,rQ,by omega,sF,rfl,rfl,by omega⟩
  rintro mm I U ⟨i,j,ss,rest,uz,hfr,O,sC,sD,l_,nc,Hg,FC,xD,hj,hrm⟩;refine zK λee=>?_;refine G 4 ?_
  cases rest with
  |nil=>
   simp only[aG.len] at sD;simp only[aG.sz] at Hg;simp only[aG.flat,ζ] at hj;simp[aG.zs,Gk] at xD;have c_:decide ((i:Int)<n.kids)=false:=by rw[decide_eq_false_iff_not];omega
   refine qq<|vY ?_;refine G 1 ?_;obtain rfl:ss=ks.sz:=by omega
   have rK:=l_;refine G 6 ?_;refine ah.merge (λI U=>∃(tmp:List (Nat×D)),I=⟨36,[d,out,.int .i64 (at_:Nat),ay I 3,ay I 4,ay I 5,.int .i64 0,.ptr k7 0 0,.int .i64 (j:Nat),.int .i64 ((cg n (min ks.sz 401) ks.len:Nat):Int),ay I 10,ay I 11,ay I 12,ay I 13,ay I 14,ay I 15,ay I 16,ay I 17,ay I 18,ay I 19,ay I 20,ay I 21,ay I 22,ay I 23,ay I 24,ay I 25,ay I 26,ay I 27,ay I 28,ay I 29,ay I 30,ay I 31,ay I 32,ay I 33,ay I 34,ay I 35],tmp⟩/\Has N S2 U (.ai out 1 (uz.map av)::.box k7 (.mem 0 false (aO n))::H)) ?_ ?_
   .refine G 7 ?_;generalize hw:min ks.sz 401=w;have TS:w<=401:=by omega
    have lT:ks.len<=9223372036854775->True:=λ_=>trivial
    by_cases q2:n.op=2
    .have hz:cg n w ks.len=1:=by unfold cg;rw[if_pos (.inl q2)]
     rw[hz];refine vX ?_;refine G 1 ?_;refine vX ?_;refine G 3 ?_;exact⟨_,rfl,O⟩
    refine vY ?_;refine G 5 ?_
    by_cases q7:n.op=7
    .have hz:cg n w ks.len=1:=by unfold cg;rw[if_pos (.inr (.inl q7))]
     rw[hz];refine vX ?_;refine G 1 ?_;refine vX ?_;refine G 3 ?_;exact⟨_,rfl,O⟩
    refine vY ?_;refine G 4 ?_
    by_cases q8:n.op=8
    .have hz:cg n w ks.len=1:=by unfold cg;rw[if_pos (.inr (.inr q8))]
     rw[hz];refine vX ?_;refine G 3 ?_;exact⟨_,rfl,O⟩
    refine vY ?_
    have hz0:cg n w ks.len=if n.op=4 then w+2*(ks.len-1) else if n.op=6 then w+2 else if n.op=5 then(if n.mx=-1 then n.mn.toNat*w+w+2 else n.mn.toNat*w+(n.mx.toNat-n.mn.toNat)*(w+1)) else w:=by
     unfold cg;rw[if_neg (by omega)]
    rw[hz0];clear hz0;obtain⟨_,hcs⟩:=mb;have hq:(n.op=1/\ks.len=0)\/((n.op=3\/n.op=4)/\2<=ks.len)\/(n.op=5/\ks.len=1/\0<=n.mn/\n.mn<=30/\(n.mx=-1\/(n.mn<=n.mx/\n.mx<=30)))\/(n.op=6/\ks.len=1/\1<=n.cap/\n.cap<=4):=by omega
    refine G 5 ?_
    by_cases q4:n.op=4
    .rw[if_pos q4];have jn:2<=ks.len:=by omega
     refine vX ?_;refine G 4 ?_;refine yB (z:=((ks.len-1:Nat):Int)) ?_;refine WA (z:=((2*(ks.len-1):Nat):Int)) rfl (ev rfl) (ev rfl) (by(try simp only[ν,δ,ζ,γ,π,τ]);rw[wrap_i64 (by omega) (by omega)]<;>omega) (ae rfl _) ?_;refine yA (z:=((w+2*(ks.len-1):Nat):Int)) ?_;refine G 2 ?_;exact⟨_,rfl,O⟩
    rw[if_neg q4];refine vY ?_;refine G 5 ?_
    by_cases q6:n.op=6;·rw[if_pos q6];refine vX ?_;refine G 5 ?_;exact⟨_,rfl,O⟩
    rw[if_neg q6];refine vY ?_;refine G 5 ?_
    by_cases q5:n.op=5
    .rw[if_pos q5];refine vX ?_;refine G 6 ?_;have Hl:0<=n.mn/\n.mn<=30/\(n.mx=-1\/(n.mn<=n.mx/\n.mx<=30)):=by omega
     obtain⟨a,ha⟩:∃a:Nat,n.mn=(a:Int):=χ Hl.1;have hta:n.mn.toNat=a:=by omega
     have h1:a*w<=30*401:=Wz (by omega) TS;have hmul:n.mn*(w:Int)=((a*w:Nat):Int):=by rw[ha];push_cast;rfl
     rw[hta]
     by_cases Ec:n.mx=-1;·rw[if_pos Ec];refine vX ?_;refine G 4 ?_;refine WA (z:=((a*w:Nat):Int)) rfl (ev rfl) (ev rfl) (by(try simp only[ν,δ,ζ,γ,π,τ]);rw[wrap_i64 (by omega) (by omega)]<;>omega) (ae rfl _) ?_;refine qm ?_;refine yA (z:=((a*w+w:Nat):Int)) ?_;refine yA (z:=((a*w+w+2:Nat):Int)) ?_;refine G 2 ?_;exact⟨_,rfl,O⟩
     rw[if_neg Ec];obtain⟨b,F⟩:∃b:Nat,n.mx=(b:Int):=χ (by omega);have htb:n.mx.toNat=b:=by omega
     have X:(b-a)*(w+1)<=30*402:=Wz (by omega) (by omega);rw[htb];refine vY ?_;refine G 4 ?_;refine WA (z:=((a*w:Nat):Int)) rfl (ev rfl) (ev rfl) (by(try simp only[ν,δ,ζ,γ,π,τ]);rw[wrap_i64 (by omega) (by omega)]<;>omega) (ae rfl _) ?_;refine G 4 ?_;refine yB (z:=((b-a:Nat):Int)) ?_;refine qm ?_;refine yA (z:=((w+1:Nat):Int)) ?_;refine WA (z:=(((b-a)*(w+1):Nat):Int)) rfl (ev rfl) (ev rfl) (by(try simp only[ν,δ,ζ,γ,π,τ]);rw[wrap_i64 (by omega) (by omega)]<;>omega) (ae rfl _) ?_;refine yA (z:=((a*w+(b-a)*(w+1):Nat):Int)) ?_;refine G 2 ?_;exact⟨_,rfl,O⟩
    rw[if_neg q5];refine vY ?_;refine G 1 ?_;exact⟨_,rfl,O⟩
   rintro I U ⟨tmp,hfr,O⟩;rw[hfr];(try dsimp only[fL,fG,μ]);clear hfr;generalize ay I=ee;clear I;have mK:=PI (n:=n) (k:=ks.len) (s:=ks.sz);have hat:at_<uz.length:=by omega
   obtain⟨w,hw⟩:∃w,uz[at_]?=some w:=⟨uz[at_]'hat,ρ _⟩
   have hr9:=iu hw;refine G 5 ?_;refine u.Vc (z:=((min (cg n ks.sz ks.len) 401:Nat):Int)) (t1:=_) (t2:=_) rfl (ev rfl) (ev rfl) (by omega) (ae rfl _) ?_;refine qi O aV λp81 aan=>?_;refine yG O aV λU O=>?_;dsimp[u2,u1,u3,u4,setMany,u5,u6,Ξ,μ,aO,av] at O;refine G 6 ?_;refine ah.ret ⟨rx,_,_,_,rfl,aH (rfl),?_⟩;have A9:j=at_+(Q.mk n ks).flat.length:=by simp[Q.flat];omega
   refine⟨by rw[A9];rfl,?_⟩
   have dC:su es at_ (Q.zs (.mk n ks))=uz.set at_ ((min (cg n ks.sz ks.len) 401:Nat):Int):=by
    rw[xD,Gj (by rw[aG.kT];omega)];rfl
   rw[dC,Φ];exact br.wc bj (O.erase 1)
  |cons t ts=>
   simp[aG.len] at sD sC;simp[aG.sz] at Hg;simp[aG.flat] at hj l_ hrm;simp[aG.zs] at xD;simp[aG.ok] at nc;have c_:decide ((i:Int)<n.kids)=true:=by rw[decide_eq_true_eq];omega
   have htp:=t.lV;have RJ:=t.kT;have hzz:=ts.kT;have Sz:(su uz j t.zs).length=l.length:=by rw[Gl (by omega)];exact FC
   have hz8:(su uz j t.zs)[j]?=some ((min t.sz 401:Nat):Int):=by
    obtain⟨n',Vk⟩:=t;simp[Q.zs,Q.sz];exact NT (by omega)
   have hr8:=iu hz8;refine qq<|vX ?_;refine G 13 ?_;obtain⟨_,U,aK,rfl,O⟩:=ih t (by omega) nc.1 l_.left FC O;refine M 9 λRm Fx=>?_;refine u.uE (z:=((min ss 401+min t.sz 401:Nat):Int)) rfl (ev rfl) (ev rfl) (by(try simp only[ν,δ,ζ,γ,π,τ]);rw[wrap_i64 (by omega) (by omega)]<;>omega) (by dsimp<;>rfl) ?_;refine u.Vc (z:=((min (ss+t.sz) 401:Nat):Int)) (t1:=_) (t2:=_) rfl (ev rfl) (ev rfl) (by omega) (by dsimp<;>rfl) ?_;refine G 6 ?_;exact⟨mm-1,by omega,i+1,j+t.flat.length,ss+t.sz,ts,su uz j t.zs,rfl,O,by omega,by omega,l_.right,nc.2,by omega,Sz,by rw[<-xD];have:=Gi (es:=uz) (a:=j) (zB:=t.zs) (M':=ts.zs) (by omega);rw[RJ] at this;exact this,by omega,by omega⟩
def Ps (hl:l.length<=1048576) (hi:∀n∈l,n.ok) (hd:fJ d 7 (l.map aO)):∀(m:Nat) (t:Q),t.flat.length<=m->t.ok->∀{N:Nat} {S Y:St} {H:List aX} {out:D} {es:List Int} {at_:Nat},g_ l at_ t.flat->es.length=l.length->Has N S Y (.ai out 1 (es.map av)::H)->
  ∃r R,Ev pv 46 [d,out,J W (at_:Nat)] Y r R/\r=J W ((at_+t.flat.length:Nat):Int)/\Has N S R (.ai out 1 ((su es at_ (t.es at_)).map av)::H):=by
 intro m
 induction m with
 |zero=>intro t h;have:=t.lV;omega
 |succ m ih=>
  rintro⟨n,ks⟩ hm bK N S Y H out es at_ rK sF O;simp[Q.ok] at bK;obtain⟨mb,rQ⟩:=bK;simp only[Q.flat,δ] at hm;have hle:=rK.le (by simp[Q.flat]);simp only[Q.flat] at rK hle;simp at hle;have hn:=rK.head;have rK:=rK.tail;have L1:=hi n (Θ hn);have dO:=i_ hn;have Fz:=mb.1;have iS:=aG.sX ks;have br:=O;refine zO ace λS2 bj O=>?_;have hc:=hd.arg N S2;refine M 21 λRo Dj p13 VS=>?_;refine ah.loop (λmm I U=>∃(i j:Nat) (rest:aG) (uz:List Int),I.clean=fL I 16 [(0,d),(0,out),(0,J W (at_:Nat)),(3,J W 0),(0,J W (j:Nat)),(6,J W n.kids),(0,J W (i:Nat))]/\Has N S2 U (.ai out 1 (uz.map av)::H)/\(mm=rest.len)/\(i+rest.len=ks.len)/\(g_ l j rest.flat)/\(rest.ok)/\(uz.length=l.length)/\(su uz j (rest.es j)=su es (at_+1) (ks.es (at_+1)))/\(j+rest.flat.length=at_+1+ks.flat.length)/\(rest.flat.length<=m)) (ks.len) ?_ ?_;·exact⟨0,at_+1,ks,es,rfl,O,rfl,by omega,rK,rQ,sF,rfl,rfl,by omega⟩
  rintro mm I U ⟨i,j,rest,uz,hfr,O,sC,sD,l_,nc,FC,xD,hj,hrm⟩;refine zK λee=>?_;refine G 4 ?_
  cases rest with
  |nil=>
   simp only[aG.len] at sD;simp only[aG.flat,ζ] at hj;simp[aG.es,Gk] at xD;have c_:decide ((i:Int)<n.kids)=false:=by rw[decide_eq_false_iff_not];omega
   have hat:at_<uz.length:=by omega
   obtain⟨w,hw⟩:∃w,uz[at_]?=some w:=⟨uz[at_]'hat,ρ _⟩
   have hr9:=iu hw;refine qq<|vY ?_;refine G 6 ?_;refine qi O aV λU0 LU=>?_;refine yG O aV λU O=>?_;dsimp[u2,u1,u3,u4,setMany,u5,u6,Ξ,μ,aO,av] at O;refine G 6 ?_;refine ah.ret ⟨rx,_,_,_,rfl,aH (rfl),?_⟩;have A9:j=at_+(Q.mk n ks).flat.length:=by simp[Q.flat];omega
   refine⟨by rw[A9];rfl,?_⟩
   have dC:su es at_ (Q.es (.mk n ks) at_)=uz.set at_ (j:Int):=by
    rw[xD,Gj (by rw[aG.lj];omega)];have:j=at_+1+ks.flat.length:=by omega
    rw[this];rfl
   rw[dC,Φ];exact br.wc bj O
  |cons t ts=>
   simp[aG.len] at sD sC;simp[aG.flat] at hj l_ hrm;simp[aG.es] at xD;simp[aG.ok] at nc;have c_:decide ((i:Int)<n.kids)=true:=by rw[decide_eq_true_eq];omega
   have htp:=t.lV;have RJ:=t.lj j;have hzz:=ts.lj (j+t.flat.length);have Sz:(su uz j (t.es j)).length=l.length:=by rw[Gl (by omega)];exact FC
   refine qq<|vX ?_;refine G 7 ?_;obtain⟨_,U,aK,rfl,O⟩:=ih t (by omega) nc.1 l_.left FC O;refine M 7 ?_;exact⟨mm-1,by omega,i+1,j+t.flat.length,ts,su uz j (t.es j),rfl,O,by omega,by omega,l_.right,nc.2,Sz,by rw[<-xD];have:=Gi (es:=uz) (a:=j) (zB:=t.es j) (M':=ts.es (j+t.flat.length)) (by omega);rw[RJ] at this;exact this,by omega,by omega⟩
variable{bb:Bool}
variable{ks:Nat->Prop}{cd nd zd ed:D}{y:Int}
def iV {x:Int} (hF:S.flr<=N) (hl:code.length<=1048576) (O:Has N S Y (.ai w 2 (rs.map ak)::x4 k (.mem 0 false [cd,nd,zd,ed])::.cM bb ks cd 4 (code.map bN)::H)):
  ∃r R,Ev pv 47 [yv k 0 0,.agg [J W op,J W x,J W y,w]] Y r R/\r=J W (code.length:Nat)/\∃cd' Vk,Has N S R (x4 k (.mem 0 false [cd',nd,zd,ed])::.cM bb Vk cd' 4 ((code++[bZ op x y rs]).map bN)::H):=by
 refine Ev.sv rfl acd rfl rfl rfl ?_;refine zE ?_;change ah _ _ _ _ Y _;refine M 14 λk3 U A7 O k11 U aa0 O=>?_;obtain⟨O,WD⟩:=O.Ng (i:=2) (j:=4) (by decide) dh kS (cX _);dsimp at O;refine u.rW O rfl (ev rfl) (ev rfl) kS (O.rows aV) (.cons (.cons (.plain _ rfl) (.cons (.plain _ rfl) (.cons (.plain _ rfl) (.cons WD .nil)))) .nil) rfl rfl rfl rfl rfl rfl rfl ⟨(θ rfl),(θ rfl)⟩ (λ_=>(ae rfl _)) (by simp only[π,δ,ζ];omega) (xR hF) (λx12 U O=>?_);dsimp at O;refine G 2 ?_;refine u.pZ O rfl (ev rfl) (ev rfl) (by exact O.w9 (by exact kS)) (by exact rfl) (by exact d_) (by exact θ rfl) (by exact xR hF) (λU O=>?_);dsimp[u2,u1,u3,u4,setMany,u5,u6,Ξ,μ,bN] at O;refine G 7 ?_;refine u.ti O rfl (ev rfl) (by exact kS) rfl (ae rfl _) ?_;simp only[π,γ,δ,ζ];refine yB (z:=(code.length:Int)) ?_;refine M 3 ?_;exact⟨rfl,_,_,by rw[List.map_append];exact O.drop 3⟩
def vq {at_ over:Nat} {x:Int} (hat:code[at_]?=some (bZ 2 x y [])) (hl:code.length<=1048576) (O:Has N S Y (x4 k (.mem 0 false [cd,nd,zd,ed])::.cM bb ks cd 4 (code.map bN)::H)):
  ∃r R,Ev pv 98 [yv k 0 0,J W (at_:Nat),J W (over:Nat),wt lz] Y r R/\r=.tup []/\Has N S R (x4 k (.mem 0 false [cd,nd,zd,ed])::.cM bb ks cd 4 ((code.set at_ (mS at_ over lz)).map bN)::H):=by
 have hlt:=cI hat;have dO:(code.map bN)[at_]?=some [J W 2,J W x,J W y,.sl []]:=kK hat;have dC:∀a b:List D,(code.map bN).set at_ a=(code.map bN).set at_ a:=λ_ _=>rfl;have br:=O;refine zO abu λS2 bj O=>?_;refine G 13 ?_;refine yA (z:=((at_+1:Nat):Int)) ?_;refine qm ?_;refine u.uB (s:=4) O rfl (ev rfl) (ev rfl) (by exact bf) rfl rfl (by exact cI (by assumption)) (λ_=>(ae rfl _)) (λQc Dh=>?_);refine yF (o2:=1) λNu xF=>?_;refine u.jw O rfl (ev rfl) (ev rfl) (by assumption) rfl rfl (by exact bf) (by assumption) (θ rfl) (by intro d hd;simp only[η,Q2,or_false] at hd;subst hd;rfl) (by exact j4 rfl) (λU O=>?_);dsimp only[u2,u1,u3,u4,setMany,u5,u6,Ξ,μ,bN] at O;refine u.uB (s:=4) O rfl (ev rfl) (ev rfl) (by exact bf) rfl rfl (by simp<;>omega) (λ_=>(ae rfl _)) (λQb Dg=>?_);refine yF (o2:=2) λKY wD=>?_;refine u.jw O rfl (ev rfl) (ev rfl) (by assumption) rfl rfl (by exact bf) (ψ (by simp;omega)) (θ rfl) (by intro d hd;simp at hd;subst hd;rfl) (by exact j4 rfl) (λU O=>?_);dsimp only[u1,u2,setMany] at O;rw[QW] at O;refine G 5 ?_
 cases lz with
 |false=>
  refine G 2 ?_;refine⟨λi h=>(by cases h),_,_,_,rfl,aH rfl,?_⟩;exact⟨rfl,by rw[Φ];exact br.rE bj O⟩
 |true=>
  refine G 14 ?_;refine yA (z:=((at_+1:Nat):Int)) ?_;refine u.uB (s:=4) O rfl (ev rfl) (ev rfl) (by exact bf) rfl rfl (by simp<;>omega) (λ_=>(ae rfl _)) (λZx R5=>?_);refine yF (o2:=1) λZw R4=>?_;refine u.jw O rfl (ev rfl) (ev rfl) (by assumption) rfl rfl (by exact bf) (ψ (by simp;omega)) (θ rfl) (by intro d hd;simp at hd;subst hd;rfl) (by exact j4 rfl) (λU O=>?_);dsimp only[u1,u2,setMany] at O;rw[QW] at O;refine u.uB (s:=4) O rfl (ev rfl) (ev rfl) (by exact bf) rfl rfl (by simp<;>omega) (λ_=>(ae rfl _)) (λp41 aat=>?_);refine yF (o2:=2) λZv R3=>?_;refine u.jw O rfl (ev rfl) (ev rfl) (by assumption) rfl rfl (by exact bf) (ψ (by simp;omega)) (θ rfl) (by intro d hd;simp only[η,Q2,or_false] at hd;subst hd;rfl) (by exact j4 rfl) (λU O=>?_);dsimp only[u1,u2,setMany] at O;rw[QW] at O;refine G 1 ?_;refine⟨λi h=>(by cases h),_,_,_,rfl,aH rfl,?_⟩;exact⟨rfl,by rw[Φ];exact br.rE bj O⟩
end Go.Proofs.YtappgjdiplibbaaGreat
