import Derived.Test.YtbdnabmmlbiomaaGreatXGQp
import Derived.Test.YtbdnabmmlbiomaaGreatXM2
import Derived.Test.YtbdnabmmlbiomaaGreatXGQa
import Derived.Test.YtbdnabmmlbiomaaGreatXGUb
import Derived.Test.YtbdnabmmlbiomaaGreatXGQh
set_option linter.unusedSectionVars false
set_option maxRecDepth 100000
set_option maxHeartbeats 4000000
set_option linter.unusedSimpArgs false
set_option linter.unusedVariables false
namespace Go.Proofs.YtbdnabmmlbiomaaGreat
open Go.V Go
theorem sE {st:St} {x y:D} {l:List UInt8} (hx:Bytes st x l) (hy:Bytes st y l) (hl:l.length<4611686018427387904):Ev pv 73 [x,y] st (.bool true) st:=by
 refine Ev.iS rfl XS rfl rfl rfl ?_;dsimp only[u3,u4,List.length,Nat.reduceSub,Nat.reduceAdd,w1,w2];have hx:=hx.enter .ro;have hy:=hy.enter .ro;have hlen:(byteCells l).length=l.length:=aG l;refine qy ?_;(repeat refine qq ?_);(generalize hK:aI _ _ _ _=K);refine ab.br ?_;(repeat(refine xL ?_));refine aa.nil ?_;dsimp only[Fr.aj,Fr.put,Fr.clean,Fr.ev,Fr.get,nth,V.look,u1,u2,v1,v2,v3,v4,v5,v6,v7,List.length,u3,u4,Nat.reduceSub,Nat.reduceAdd,List.map];subst hK;refine qy ?_;(repeat refine qq ?_);(generalize hK:aI _ _ _ _=K);refine ab.br ?_
 (refine xT ?_)
 refine aa.len rfl rfl rfl hx rfl ?_
 (refine xT ?_)
 refine aa.len rfl rfl rfl hy rfl ?_;(repeat(refine xT ?_));refine aa.nil ?_;dsimp only[Fr.aj,Fr.put,Fr.clean,Fr.ev,Fr.get,nth,V.look,u1,u2,v1,v2,v3,v4,v5,v6,v7,List.length,u3,u4,Nat.reduceSub,Nat.reduceAdd,List.map];subst hK;refine qy ?_;(repeat refine qq ?_);refine qc (fun h1=>?_) (fun h1=>?_)<;>try simp only[cs] at h1
 ·exact absurd trivial h1
 refine ab.skip ?_;refine qy ?_;(repeat refine qq ?_);(generalize hK:aI _ _ _ _=K);refine ab.br ?_;(repeat(refine xL ?_));refine aa.nil ?_;dsimp only[Fr.aj,Fr.put,Fr.clean,Fr.ev,Fr.get,nth,V.look,u1,u2,v1,v2,v3,v4,v5,v6,v7,List.length,u3,u4,Nat.reduceSub,Nat.reduceAdd,List.map];subst hK;refine qy ?_;(repeat refine qq ?_);refine ab.block<|ab.loop (fun j fr ai=>∃i:Nat,fr.clean=⟨6,[x,y,.tup [],.tup [],.bool false,.int .i64 (i:Nat)],[]⟩∧ai=ag .ro st∧i+j=l.length) l.length ⟨0,rfl,rfl,by omega⟩ ?_;rintro j fr ai ⟨i,hfr,rfl,hij⟩;rw[hfr];refine qy ?_;(repeat refine qq ?_);(generalize hK:aI _ _ _ _=K);refine ab.br ?_
 (refine xT ?_)
 (refine xT ?_)
 refine aa.len rfl rfl rfl hx rfl ?_;(repeat(refine xT ?_));refine aa.nil ?_;dsimp only[Fr.aj,Fr.put,Fr.clean,Fr.ev,Fr.get,nth,V.look,u1,u2,v1,v2,v3,v4,v5,v6,v7,List.length,u3,u4,Nat.reduceSub,Nat.reduceAdd,List.map];subst hK;refine qy ?_;rw[hlen];refine qy ?_;(repeat refine qq ?_);refine qc (fun h2=>?_) (fun h2=>?_)<;>try simp only[cs] at h2
 ·refine ab.skip ?_;refine qy ?_
  obtain⟨g,hg⟩:∃g,l[i]?=some g:=⟨l[i]'(by omega),List.getElem?_eq_getElem _⟩
  have hr:=gF hg;refine qy ?_;(repeat refine qq ?_);refine ab.block ?_;refine qy ?_;(repeat refine qq ?_);(generalize hK:aI _ _ _ _=K);refine ab.br ?_
  (refine xT ?_)
  (refine xT ?_)
  refine aa.b9 rfl rfl rfl (fun _=>rfl) rfl rfl hx rfl rfl (by omega) hr rfl (fun p=>?_)
  (refine xT ?_)
  (refine xT ?_)
  refine aa.b9 rfl rfl rfl (fun _=>rfl) rfl rfl hy rfl rfl (by omega) hr rfl (fun p=>?_);(repeat(refine xT ?_));refine aa.nil ?_;dsimp only[Fr.aj,Fr.put,Fr.clean,Fr.ev,Fr.get,nth,V.look,u1,u2,v1,v2,v3,v4,v5,v6,v7,List.length,u3,u4,Nat.reduceSub,Nat.reduceAdd,List.map];subst hK;refine qy ?_;(repeat refine qq ?_);refine qc (fun h3=>?_) (fun h3=>?_)<;>try simp only[cs] at h3
  ·exact absurd trivial h3
  refine ab.skip ?_;refine qy ?_;(repeat refine qq ?_);(generalize hK:aI _ _ _ _=K);refine ab.br ?_;(repeat(first|refine xT ?_|refine xL ?_));refine aa.nil ?_;dsimp only[Fr.aj,Fr.put,Fr.clean,Fr.ev,Fr.get,nth,V.look,u1,u2,v1,v2,v3,v4,v5,v6,v7,List.length,u3,u4,Nat.reduceSub,Nat.reduceAdd,List.map];subst hK;rw[wrap_i64 (by omega) (by omega)];exact⟨j-1,by omega,i+1,rfl,rfl,by omega⟩
 ·refine ab.exit ?_;refine qy ?_;(repeat refine qq ?_);(generalize hK:aI _ _ _ _=K);refine ab.br ?_;(repeat(refine xL ?_));refine aa.nil ?_;dsimp only[Fr.aj,Fr.put,Fr.clean,Fr.ev,Fr.get,nth,V.look,u1,u2,v1,v2,v3,v4,v5,v6,v7,List.length,u3,u4,Nat.reduceSub,Nat.reduceAdd,List.map];subst hK;refine qy ?_;refine ab.ret ⟨rx,_,rfl,aJ (by simp) (by simp[ag]) ?_⟩
  rfl
def dG (b:List UInt8):D:=.sl ((byteCells b).map (ki 1))
theorem gE (b:List UInt8):∀e∈byteCells b,e.length=1:=by
 intro e he;obtain⟨y,_,rfl⟩:=List.mem_map.1 he;rfl
theorem ef (b:List UInt8):∀e∈byteCells b,∀d∈e,cj d=true:=by
 intro e he d hd;obtain⟨y,_,rfl⟩:=List.mem_map.1 he;simp only[List.mem_cons,List.not_mem_nil,or_false] at hd;subst hd;rfl
theorem tu (st:St) (b:List UInt8):Bytes st (dG b) b:=Rows.p_ (gE b) (ef b)
def dN (y:UInt8):D:=.int .u8 (y.toNat:Nat)
theorem cn (b:List UInt8):(byteCells b).flatten=b.map dN:=by
 induction b with
 |nil=>rfl
 |cons y b ih=>simp only[byteCells,List.map_cons,List.flatten_cons] at ih⊢;rw[ih];rfl
theorem BP {st:St} {k az:Nat} {ar:Bool} {b:List UInt8} (hm:st.bs[k]?=some (.mem az ar (b.map dN))):Bytes st (.win k az 0 b.length 1) b:=by
 have:=Rows.win (st:=st) (s:=1) k az 0 (byteCells b) ar (b.map dN) (St.mem_of hm) (by simp[byteCells]) fun i e hi=>by
  rw[←cn,Nat.zero_add];exact kh (gE b) i e hi
 rwa [aG] at this
theorem uF {N:Nat} {st:St} {k az:Nat} {b:List UInt8} (hN:N≤k) (hm:st.bs[k]?=some (.mem az true (b.map dN))):aY st N false 16 (.win k az 0 b.length 1)=some (dG b):=by
 have:=(Acc.win (N:=N) (st:=st) (s:=1) k az (byteCells b) hN (by rw[cn];exact hm) (gE b)).freeze (ef b) (n:=15) (by decide)
 rwa [aG] at this
theorem Ct {st:St} {x:D} {b:List UInt8} {m:UInt8} (hb:Bytes st x b) (hlen:b.length≤1048576):Ev pv 37 [x,.int .u8 (m.toNat:Nat)] st (dG (b++List.replicate 80 m)) st:=by
 refine Ev.iS rfl X8 rfl rfl rfl ?_;dsimp only[u3,u4,List.length,Nat.reduceSub,Nat.reduceAdd,w1,w2];have hx:=hb.ref;have hb1:=hb.enter .ro;refine qy ?_;(repeat refine qq ?_);(generalize hK:aI _ _ _ _=K);refine ab.br ?_;(repeat(refine xL ?_));refine aa.nil ?_;dsimp only[Fr.aj,Fr.put,Fr.clean,Fr.ev,Fr.get,nth,V.look,u1,u2,v1,v2,v3,v4,v5,v6,v7,List.length,u3,u4,Nat.reduceSub,Nat.reduceAdd,List.map];subst hK;refine qy ?_;(repeat refine qq ?_);(generalize hK:aI _ _ _ _=K);refine ab.br ?_
 (refine xT ?_)
 refine aa.len rfl rfl rfl hb1 rfl ?_
 (refine xT ?_)
 rw[show bM .i64 (((byteCells b).length:Nat)+80:Int)=((b.length+80:Nat):Int) by rw[aG,wrap_i64 (by omega) (by omega)];rfl];refine aa.makeSlice rfl rfl rfl rfl rfl rfl rfl rfl (by show(b.length+80)*1≤_;omega) (by omega) ?_;(repeat(refine xL ?_));refine aa.nil ?_;dsimp only[Fr.aj,Fr.put,Fr.clean,Fr.ev,Fr.get,nth,V.look,u1,u2,v1,v2,v3,v4,v5,v6,v7,List.length,u3,u4,Nat.reduceSub,Nat.reduceAdd,List.map];subst hK;refine qy ?_;have W6:Ex st.bs.length (ag .ro st) ((ag .ro st).push (.mem 0 true (dH (b.length+80) [jD (.int .u8 0)]))):=Ex.push (st:=ag .ro st) (Nat.le_refl _) _;have hb2:=Rows.ex W6 hb1 hx;refine qy ?_;(repeat refine qq ?_);(generalize hK:aI _ _ _ _=K);refine ab.br ?_
 (refine xT ?_)
 (refine xT ?_)
 refine aa.copy (k:=st.bs.length) (az:=0) (off:=0) (len:=b.length+80) (s:=1) (ys:=byteCells b) (ar:=true) (c:=dH (b.length+80) [.int .u8 0]) rfl rfl rfl rfl hb2 rfl rfl (dq (ag .ro st) _) (by rw[vG];simp) (nf (N:=st.bs.length) (Nat.le_refl _) (Nat.le_refl _) (Nat.le_refl _)) ?_;(repeat(first|refine xT ?_|refine xL ?_|refine xN ?_|refine xo ?_|refine xp ?_));refine aa.nil ?_;dsimp only[Fr.aj,Fr.put,Fr.clean,Fr.ev,Fr.get,nth,V.look,u1,u2,v1,v2,v3,v4,v5,v6,v7,List.length,u3,u4,Nat.reduceSub,Nat.reduceAdd,List.map];subst hK;refine qy ?_;rw[jC (st:=ag .ro st) (k:=st.bs.length) rfl]
 have TH:(dH (b.length+80) [D.int .u8 0]).take 0++(byteCells b).flatten.take (min (byteCells b).length (b.length+80)*1)++(dH (b.length+80) [D.int .u8 0]).drop (0+min (byteCells b).length (b.length+80)*1)=(b++List.replicate 80 0).map dN:=by
  have h1:min (byteCells b).length (b.length+80)*1=b.length:=by rw[aG];omega
  have h2:(b.map dN).length=b.length:=List.length_map ..;rw[h1,cn,vG,List.take_zero,List.nil_append,Nat.zero_add,List.drop_replicate,List.map_append]
  congr 1
  ·rw[←h2,List.take_length]
  ·rw[List.map_replicate];congr 1;omega
 rw[TH];generalize hS:(ag .ro st).push (.mem 0 true ((b++List.replicate 80 0).map dN))=st1;have QL:V.Rows st1 1 x (byteCells b):=by subst hS;exact hb1.ex (N:=st.bs.length) (Ex.push (st:=ag .ro st) (Nat.le_refl _) _) hx
 (refine qy ?_);(repeat refine qq ?_);(generalize hK:aI _ _ _ _=K);refine ab.br ?_
 (refine xT ?_)
 refine aa.len rfl rfl rfl QL rfl ?_;(repeat(refine xL ?_));refine aa.nil ?_;dsimp only[Fr.aj,Fr.put,Fr.clean,Fr.ev,Fr.get,nth,V.look,u1,u2,v1,v2,v3,v4,v5,v6,v7,List.length,u3,u4,Nat.reduceSub,Nat.reduceAdd,List.map];subst hK;refine qy ?_;rw[aG];refine qy ?_;(repeat refine qq ?_);refine ab.block<|ab.loop (fun j fr ai=>∃i:Nat,fr.clean=⟨7,[x,.int .u8 (m.toNat:Nat),.tup [],.tup [],.nul,.win st.bs.length 0 0 (b.length+80) 1,.int .i64 ((b.length+i:Nat):Int)],[]⟩∧ai=(ag .ro st).push (.mem 0 true ((b++(List.replicate i m++List.replicate j 0)).map dN))∧i+j=80) 80 ⟨0,rfl,hS.symm,by omega⟩ ?_;rintro j fr ai ⟨i,hfr,rfl,hij⟩;rw[hfr];have hbl:(b++(List.replicate i m++List.replicate j 0)).length=b.length+80:=by simp;omega
 have VT:∀(st:St) (j:Nat),i+j=80→Bytes ((ag .ro st).push (.mem 0 true ((b++(List.replicate i m++List.replicate j 0)).map dN))) (.win st.bs.length 0 0 (b.length+80) 1) (b++(List.replicate i m++List.replicate j 0)):=by
  intro st j hij;have:=BP (st:=(ag .ro st).push (.mem 0 true ((b++(List.replicate i m++List.replicate j 0)).map dN))) (k:=st.bs.length) (az:=0) (ar:=true) (b:=b++(List.replicate i m++List.replicate j 0)) (dq (ag .ro st) _);have e:(b++(List.replicate i m++List.replicate j 0)).length=b.length+80:=by simp;omega
  rwa [e] at this
 (refine qy ?_);(repeat refine qq ?_);(generalize hK:aI _ _ _ _=K);refine ab.br ?_
 (refine xT ?_)
 (refine xT ?_)
 refine aa.len rfl rfl rfl (VT st j hij) rfl ?_;(repeat(refine xT ?_));refine aa.nil ?_;dsimp only[Fr.aj,Fr.put,Fr.clean,Fr.ev,Fr.get,nth,V.look,u1,u2,v1,v2,v3,v4,v5,v6,v7,List.length,u3,u4,Nat.reduceSub,Nat.reduceAdd,List.map];subst hK;refine qy ?_;rw[aG,hbl];refine qy ?_;(repeat refine qq ?_);refine qc (fun h1=>?_) (fun h1=>?_)<;>try simp only[cs] at h1
 ·refine ab.skip ?_;refine qy ?_;(repeat refine qq ?_);refine ab.block ?_
  obtain⟨j,rfl⟩:∃j',j=j'+1:=⟨j-1,by omega⟩
  (refine qy ?_);(repeat refine qq ?_);(generalize hK:aI _ _ _ _=K);refine ab.br ?_
  (refine xT ?_)
  (refine xT ?_)
  (refine xT ?_)
  refine aa.Dn (kk:=.i64) (i:=((b.length+i:Nat):Int)) (k:=st.bs.length) (az:=0) (off:=0) (len:=b.length+80) (s:=1) (v:=.int .u8 (m.toNat:Nat)) (cs:=[dN m]) (ar:=true) (c:=(b++(List.replicate i m++List.replicate (j+1) 0)).map dN) rfl rfl rfl rfl rfl rfl rfl rfl rfl rfl (by omega) (by omega) (dq (ag .ro st) _) (by rw[List.length_map,hbl];omega) (nf (N:=st.bs.length) (Nat.le_refl _) (Nat.le_refl _) (Nat.le_refl _))<|aa.nil ?_;dsimp only[Fr.aj,Fr.put,Fr.clean,Fr.ev,Fr.get,nth,V.look,u1,u2,v1,v2,v3,v4,v5,v6,v7,List.length,u3,u4,Nat.reduceSub,Nat.reduceAdd,List.map];subst hK;refine qy ?_;rw[jC (st:=ag .ro st) (k:=st.bs.length) rfl]
  have Bw:((b++(List.replicate i m++List.replicate (j+1) 0)).map dN).take (0+((b.length+i:Nat):Int).toNat*1)++[dN m]++((b++(List.replicate i m++List.replicate (j+1) 0)).map dN).drop (0+((b.length+i:Nat):Int).toNat*1+1)=(b++(List.replicate (i+1) m++List.replicate j 0)).map dN:=by
   have e:0+((b.length+i:Nat):Int).toNat*1=(b++List.replicate i m).length:=by rw[List.length_append,List.length_replicate];omega
   rw[e,←List.append_assoc,List.replicate_succ (n:=j),List.map_append,List.map_cons];have e2:(b++List.replicate i m).length=((b++List.replicate i m).map dN).length:=by rw[List.length_map]
   rw[e2,List.take_left,←List.drop_drop,List.drop_left,List.drop_succ_cons,List.drop_zero];rw[List.replicate_succ'];simp[List.map_append]
  rw[Bw];refine qy ?_;(repeat refine qq ?_);(generalize hK:aI _ _ _ _=K);refine ab.br ?_;(repeat(first|refine xT ?_|refine xL ?_));refine aa.nil ?_;dsimp only[Fr.aj,Fr.put,Fr.clean,Fr.ev,Fr.get,nth,V.look,u1,u2,v1,v2,v3,v4,v5,v6,v7,List.length,u3,u4,Nat.reduceSub,Nat.reduceAdd,List.map];subst hK;rw[wrap_i64 (by omega) (by omega)];refine⟨j,by omega,i+1,rfl,rfl,by omega⟩
 ·refine ab.exit ?_;have hj:j=0:=by omega
  have hi:i=80:=by omega
  subst hj hi;refine qy ?_;(repeat refine qq ?_);(generalize hK:aI _ _ _ _=K);refine ab.br ?_;(repeat(first|refine xT ?_|refine xL ?_));refine aa.nil ?_;dsimp only[Fr.aj,Fr.put,Fr.clean,Fr.ev,Fr.get,nth,V.look,u1,u2,v1,v2,v3,v4,v5,v6,v7,List.length,u3,u4,Nat.reduceSub,Nat.reduceAdd,List.map];subst hK;refine qy ?_;have Qz:=Ex.push (N:=st.bs.length) (st:=ag .ro st) (Nat.le_refl _) (.mem 0 true ((b++(List.replicate 80 m++List.replicate 0 0)).map dN));refine ab.ret ⟨rx,_,rfl,aJ (by simp) (Qz.take rfl) ?_⟩;have:=uF (N:=st.bs.length) (st:=(ag .ro st).push (.mem 0 true ((b++(List.replicate 80 m++List.replicate 0 0)).map dN))) (k:=st.bs.length) (az:=0) (b:=b++List.replicate 80 m) (Nat.le_refl _) (dq (ag .ro st) _);rw[show(b++List.replicate 80 m).length=b.length+80 by simp] at this;exact this
theorem Bg {st:St} {x y:D} {b:List UInt8} {m:UInt8} (hx:Bytes st x (b++List.replicate 80 m)) (hy:Bytes st y b) (hlen:b.length≤1048576):Ev pv 39 [x,y,.int .u8 (m.toNat:Nat)] st (.bool true) st:=by
 refine Ev.iS rfl X6 rfl rfl rfl ?_;dsimp only[u3,u4,List.length,Nat.reduceSub,Nat.reduceAdd,w1,w2];have hx1:=hx.enter .ro;have hy1:=hy.enter .ro;have BX:(byteCells (b++List.replicate 80 m)).length=b.length+80:=by rw[aG];simp
 have xz:=aG b;refine qy ?_;(repeat refine qq ?_);(generalize hK:aI _ _ _ _=K);refine ab.br ?_;(repeat(refine xL ?_));refine aa.nil ?_;dsimp only[Fr.aj,Fr.put,Fr.clean,Fr.ev,Fr.get,nth,V.look,u1,u2,v1,v2,v3,v4,v5,v6,v7,List.length,u3,u4,Nat.reduceSub,Nat.reduceAdd,List.map];subst hK;refine qy ?_;(repeat refine qq ?_);(generalize hK:aI _ _ _ _=K);refine ab.br ?_
 (refine xT ?_)
 refine aa.len rfl rfl rfl hx1 rfl ?_
 (refine xT ?_)
 refine aa.len rfl rfl rfl hy1 rfl ?_
 (refine xT ?_)
 rw[BX,xz,show bM .i64 ((b.length:Int)+80)=((b.length+80:Nat):Int) by rw[wrap_i64 (by omega) (by omega)];rfl];refine aa.T rfl rfl rfl (d:=.bool false) (st1:=ag .ro st) ?_ ?_
 ·show some (D.bool (((b.length+80:Nat):Int) !=((b.length+80:Nat):Int)),ag .ro st)=_;simp
 (refine xT ?_)
 (refine xT ?_)
 (refine xT ?_)
 refine aa.len rfl rfl rfl hy1 rfl<|aa.slice rfl rfl rfl hx1 rfl rfl (l:=0) (r:=b.length) ?_ ⟨by omega,by omega⟩ fun y2 Bh Sy=>?_
 ·show bK _ none (some (.int .i64 ((byteCells b).length:Nat)))=_;rw[BX,xz];simp only[bK,dZ,f_];rw[if_pos ⟨by omega,by omega⟩];rfl
 have hy4:Bytes (ag .ro st) y2 b:=by
  have:((byteCells (b++List.replicate 80 m)).take b.length).drop 0=byteCells b:=by
   rw[←xz];simp[byteCells]
  unfold Bytes;rw[←this];exact Bh
 (refine xT ?_)
 refine aa.iL rfl rfl rfl (sE hy4 hy1 (by omega)) ?_;(repeat(refine xT ?_));refine aa.nil ?_;dsimp only[Fr.aj,Fr.put,Fr.clean,Fr.ev,Fr.get,nth,V.look,u1,u2,v1,v2,v3,v4,v5,v6,v7,List.length,u3,u4,Nat.reduceSub,Nat.reduceAdd,List.map];subst hK;refine qy ?_;refine ab.cond (v:=false) rfl (fun h=>by cases h) fun _=>ab.skip ?_;refine qy ?_;(repeat refine qq ?_);(generalize hK:aI _ _ _ _=K);refine ab.br ?_
 (refine xT ?_)
 refine aa.len rfl rfl rfl hy1 rfl ?_;(repeat(refine xL ?_));refine aa.nil ?_;dsimp only[Fr.aj,Fr.put,Fr.clean,Fr.ev,Fr.get,nth,V.look,u1,u2,v1,v2,v3,v4,v5,v6,v7,List.length,u3,u4,Nat.reduceSub,Nat.reduceAdd,List.map];subst hK;refine qy ?_;rw[xz];refine qy ?_;(repeat refine qq ?_);refine ab.block<|ab.loop (fun j fr ai=>∃i:Nat,fr.clean=⟨8,[x,y,.int .u8 (m.toNat:Nat),.tup [],.tup [],.tup [],.bool false,.int .i64 ((b.length+i:Nat):Int)],[]⟩∧ai=ag .ro st∧i+j=80) 80 ⟨0,rfl,rfl,by omega⟩ ?_;rintro j fr ai ⟨i,hfr,rfl,hij⟩;rw[hfr];refine qy ?_;(repeat refine qq ?_);(generalize hK:aI _ _ _ _=K);refine ab.br ?_
 (refine xT ?_)
 (refine xT ?_)
 refine aa.len rfl rfl rfl hx1 rfl ?_;(repeat(refine xT ?_));refine aa.nil ?_;dsimp only[Fr.aj,Fr.put,Fr.clean,Fr.ev,Fr.get,nth,V.look,u1,u2,v1,v2,v3,v4,v5,v6,v7,List.length,u3,u4,Nat.reduceSub,Nat.reduceAdd,List.map];subst hK;refine qy ?_;rw[BX];refine qy ?_;(repeat refine qq ?_);refine qc (fun h1=>?_) (fun h1=>?_)<;>try simp only[cs] at h1
 ·refine ab.skip ?_;refine qy ?_;(repeat refine qq ?_);refine ab.block ?_
  have hr:(b++List.replicate 80 m)[b.length+i]?=some m:=by
   rw[List.getElem?_append_right (by omega),List.getElem?_replicate];rw[if_pos (by omega)]
  have o3:=gF hr;refine qy ?_;(repeat refine qq ?_);(generalize hK:aI _ _ _ _=K);refine ab.br ?_
  (refine xT ?_)
  (refine xT ?_)
  refine aa.b9 rfl rfl rfl (fun _=>rfl) rfl rfl hx1 rfl rfl (by omega) o3 rfl (fun p=>?_);(repeat(refine xT ?_));refine aa.nil ?_;dsimp only[Fr.aj,Fr.put,Fr.clean,Fr.ev,Fr.get,nth,V.look,u1,u2,v1,v2,v3,v4,v5,v6,v7,List.length,u3,u4,Nat.reduceSub,Nat.reduceAdd,List.map];subst hK;refine qy ?_;(repeat refine qq ?_);refine qc (fun h3=>?_) (fun h3=>?_)<;>try simp only[cs] at h3
  ·exact absurd trivial h3
  refine ab.skip ?_;refine qy ?_;(repeat refine qq ?_);(generalize hK:aI _ _ _ _=K);refine ab.br ?_;(repeat(first|refine xT ?_|refine xL ?_));refine aa.nil ?_;dsimp only[Fr.aj,Fr.put,Fr.clean,Fr.ev,Fr.get,nth,V.look,u1,u2,v1,v2,v3,v4,v5,v6,v7,List.length,u3,u4,Nat.reduceSub,Nat.reduceAdd,List.map];subst hK;rw[wrap_i64 (by omega) (by omega)];exact⟨j-1,by omega,i+1,rfl,rfl,by omega⟩
 ·refine ab.exit ?_;refine qy ?_;(repeat refine qq ?_);(generalize hK:aI _ _ _ _=K);refine ab.br ?_;(repeat(refine xL ?_));refine aa.nil ?_;dsimp only[Fr.aj,Fr.put,Fr.clean,Fr.ev,Fr.get,nth,V.look,u1,u2,v1,v2,v3,v4,v5,v6,v7,List.length,u3,u4,Nat.reduceSub,Nat.reduceAdd,List.map];subst hK;refine qy ?_;refine ab.ret ⟨rx,_,rfl,aJ (by simp) (by simp[ag]) ?_⟩
  rfl
open Go.V Go Go.RowKit
theorem Bt {s0:St} {x:D} {b:List UInt8} (hx:eE x 1 (byteCells b)) (n:Nat):∃d,Ev pv 26 [x,.int .i64 (n:Nat)] s0 d s0∧eE d 1 (byteCells (b.take n)):=by
 have QJ:=aG b;refine Ev.Dc rfl Yg rfl rfl rfl ?_;dsimp only[u3,u4,List.length,Nat.reduceSub,Nat.reduceAdd,w1,w2];obtain⟨bT,hF,hH⟩:=ri s0;generalize ag .ro s0=S at*;have Rp:=hx.arg s0.bs.length S;refine qq<|qj fun K hK=>qm ?_;refine qe hK<|qq<|qq<|qj fun K hK=>qm ?_;refine qn ?_;refine qm ?_;refine qg ?_;refine qe hK ?_;rw[QJ];refine ab.cond (by rfl) (fun h0=>?_) (fun h0=>?_)<;>try simp only[decide_eq_true_eq,decide_eq_false_iff_not] at h0
 ·have Zo:n≤(byteCells b).length:=by omega
  refine qq<|qj fun K hK=>qm ?_;refine qm ?_;refine aa.CI rfl (ev rfl) (by assumption) rfl rfl (lP (by omega)) (fun _=>(ah rfl _)) (fun Z7 VO=>?_);refine qm ?_;refine qe hK ?_;obtain⟨z,hz1,hz2⟩:=VO.freeze S s0.bs.length 15;refine ab.ret ⟨rx,_,_,rfl,rl bT hH (hz1),?_⟩;rw[List.drop_zero] at hz2;unfold byteCells at hz2⊢;rw[List.map_take];exact hz2
 ·refine ab.skip<|qq<|qj fun K hK=>qm ?_;refine qm ?_;refine qe hK ?_;obtain⟨z,hz1,hz2⟩:=hx.freeze S s0.bs.length 15;refine ab.ret ⟨rx,_,_,rfl,rl bT hH (hz1),?_⟩;rw[List.take_of_length_le (by omega)];exact hz2
variable{H:Type} {enc:TypeId×Value→H} {w:World} {spare:Nat→Bool} {held:Bool} {d:DataW H}
theorem LK (h:Rd enc Tryz.prog w spare held 36 d):∃(y:D) (b:List UInt8),iV d=y∧eE y 1 (byteCells b)∧(Rows.uptoBulk d≤1048576→b.length≤1048576):=by
 rcases h.slice Tryz.underlying36 with rfl|⟨elems,rest,rfl,he⟩
 ·exact⟨_,[],rfl,.inl ⟨rfl,rfl⟩,fun _=>by simp⟩
 ·obtain⟨l,h1,h2,_⟩:=LV (s:=1) (f:=fun c:UInt8=>[.int .u8 (c.toNat:Nat)]) (Q:=fun _ _=>True) (rest:=rest) fun x hx=>by
   obtain⟨n,rfl,hw⟩:=(he x hx).int Tryz.underlying5;obtain⟨c,rfl⟩:=wf_u8 hw;exact⟨c,rfl,rfl,rfl,trivial⟩
  refine⟨_,l,rfl,h1,fun hb=>?_⟩;have:=xk elems;simp only[Rows.uptoBulk] at hb;omega
end Go.Proofs.YtbdnabmmlbiomaaGreat
namespace Go.V
variable{N:Nat} {S st:St} {H:List bt}
theorem Has.kE (A B:List bt) (h:Has N S st (A++(B++H))):Has N S st (B++(A++H)):=by
 refine h.sub (fun i=>if i<B.length then i+A.length else if i<B.length+A.length then i-B.length else i) (fun a b e=>?_) fun i e hi=>?_
 ·have e':(if a<B.length then a+A.length else if a<B.length+A.length then a-B.length else a)=(if b<B.length then b+A.length else if b<B.length+A.length then b-B.length else b):=e
  repeat' split at e'
  all_goals omega
 ·show(A++(B++H))[if i<B.length then i+A.length else if i<B.length+A.length then i-B.length else i]?=some e
  by_cases h1:i<B.length
  ·rw[if_pos h1,List.getElem?_append_right (by omega),Nat.add_sub_cancel,List.getElem?_append_left h1]
   rwa [List.getElem?_append_left h1] at hi
  ·rw[List.getElem?_append_right (by omega)] at hi
   by_cases h2:i<B.length+A.length
   ·rw[if_neg h1,if_pos h2,List.getElem?_append_left (by omega)]
    rwa [List.getElem?_append_left (by omega)] at hi
   ·rw[if_neg h1,if_neg h2,List.getElem?_append_right (by omega),List.getElem?_append_right (by omega)];rw[List.getElem?_append_right (by omega)] at hi;rw[←hi];congr 1;omega
theorem Has.dH {j:Nat} {e:bt} (h:Has N S st (e::H)) (hj:j<H.length):Has N S st (H.set j e):=
 Has.back (h.erase (j+1)) hj
theorem Has.oG {j k:Nat} {e:bt} (h:Has N S st H) (hj:H[j]?=some e) (hk:e.K k):k+1≤st.bs.length:=((h.ok j e hj).2 k hk).2
theorem fJ {x y:Oper} {fi fj:Fr} {si pe sj EH:St} {a:Operand} {k az off v:Nat} {ar:Bool} {c:List D} (hy:gG y.op=none) (hx:gG x.op=some a) (ha:fi.ev a=.ptr k az off) (h1:sj.bs[k]?=some (.mem v ar c)) (h2:EH.bs[k]?=some (.mem v ar c)) (h3:si.bs[k]?=some (.mem v ar c)) (hr:refs c≤si.bs.length):iA x fi si pe y fj sj EH=true:=by
 unfold iA;simp only[hy,hx,ha,D.mh,Bool.and_eq_true];refine⟨nC h1 h2,?_⟩;unfold l0;simp only[h3]
 split
 ·rfl
 ·simpa using hr
theorem Has.clear {P:Pv} {j:Nat} {x:D} {s:Nat} {es:List (List D)} {t e:TypeId} {z:List D} (h:Has N S st H) (hj:H[j]?=some (.aP x s es)) (ht:P.cz t=some (.slice e)) (hz:dj P e=some z) (lL:z.length=s) (hr:refs z=0):
  ∃ai,ln P [t] x st=some (.tup [],ai)∧Has N S ai (H.set j (.aP x s (List.replicate es.length z))):=by
 have wO:=(h.ok j _ hj).2;have hown:=h.own hj
 have jq:j<H.length:=by
  rcases Nat.lt_or_ge j H.length with h'|h'
  ·exact h'
  ·rw[List.getElem?_eq_none h'] at hj;cases hj
 cases hown with
 |nul=>
  refine⟨st,by simp only[ln,ht],?_⟩
  have:H.set j (.aP .nul s (List.replicate ([]:List (List D)).length z))=H:=by
   refine List.ext_getElem? fun i=>?_
   by_cases hi:i=j
   ·subst hi;rw[List.getElem?_set_self jq,hj];rfl
   ·rw[List.getElem?_set_ne (fun e=>hi e.symm)]
  rw[this];exact h
 |win k az off es c hm hle hc he=>
  have hk:=wO k (by simp only[bt.aP,D.ref])
  have DA:∀n,refs (Go.V.dH n z)=0:=by
   intro n;unfold Go.V.dH
   induction n with
   |zero=>rfl
   |succ n ih=>
    rw[List.replicate_succ,List.flatten_cons]
    have Lr:∀(a b:List D),refs a=0→refs b=0→refs (a++b)=0:=by
     intro a
     induction a with
     |nil=>intro b _ hb;exact hb
     |cons d a EP=>
      intro b ha hb;simp only[refs,List.cons_append] at ha⊢;have:=EP b (by omega) hb;omega
    exact Lr _ _ hr ih
  have wN:(Go.V.dH es.length z).length=es.length*s:=by
   unfold Go.V.dH;rw[cO (s:=s) (fun e he=>by rw[(List.mem_replicate.1 he).2];exact lL),List.length_replicate]
  have hw:st.wr k az off (Go.V.dH es.length z)=some ⟨st.bs.set k (.mem az true (c.take off++Go.V.dH es.length z++c.drop (off+(Go.V.dH es.length z).length))),st.flr,st.ro⟩:=kI hm (by omega) (jQ h hk.1 (.inr (DA _)));refine⟨_,by simp only[ln,ht,hz,Option.bind_some];rw[if_pos lL,hw];rfl,?_⟩;refine h.BV hj (fun n hn hne=>?_) (by simp) rfl rfl ?_ (fun n hn=>.inl hn) fun n hn=>?_
  ·simp only;rw[List.getElem?_set_ne (fun e=>hne (by simp only[bt.aP,D.ref];omega))]
  ·have DL:∀e'∈List.replicate es.length z,e'.length=s:=fun e' oK=>by rw[(List.mem_replicate.1 oK).2];exact lL
   have:=gV.win (st:=⟨st.bs.set k (.mem az true (c.take off++Go.V.dH es.length z++c.drop (off+(Go.V.dH es.length z).length))),st.flr,st.ro⟩) (s:=s) k az off (List.replicate es.length z) (c.take off++Go.V.dH es.length z++c.drop (off+(Go.V.dH es.length z).length))
    (by simp only;rw[List.getElem?_set_self hk.2]) (by rw[List.length_replicate];simp;omega) ?_ DL
   ·rw[List.length_replicate] at this;exact this
   ·rw[List.length_replicate,List.append_assoc,List.drop_append_of_le_length (by simp;omega),List.drop_take,Nat.sub_self,List.take_zero,List.nil_append,←wN,List.take_left']
    ·rfl
    ·rfl
  ·simp only[bt.aP,D.ref] at hn;have:n=k:=by omega
   subst this
   simpa using hk.2
variable{P:Pv} {ops:Array Oper} {rest:List Oper} {fr aL:Fr} {Q:Fr→St→Prop} {ty:TypeId} {pp:String} {a:Array Edge} {g:Option (Nat×Bool)} {dst:Nat}
theorem aa.PK {j:Nat} {x:D} {s:Nat} {es:List (List D)} {t e:TypeId} {z:List D} {xo:Operand} (hH:Has N S st H) (hg:aE ops fr ⟨none,.call ⟨.builtin .clear,#[xo],#[t]⟩,ty,pp,a,g⟩=some true) (hx:fr.ev xo=x) (hj:H[j]?=some (.aP x s es)) (ht:P.cz t=some (.slice e)) (hz:dj P e=some z) (lL:z.length=s) (hr:refs z=0)
  (h:∀ai,Has N S ai (H.set j (.aP x s (List.replicate es.length z)))→aa P ops rest fr ai Q):aa P ops (⟨none,.call ⟨.builtin .clear,#[xo],#[t]⟩,ty,pp,a,g⟩::rest) fr st Q:=by
 obtain⟨ai,h1,h2⟩:=hH.clear hj ht hz lL hr;refine aa.N hg rfl (d:=.tup []) (st1:=ai) ?_ (h _ h2);simp only[dr,List.map_cons,List.map_nil,hx,bC];exact h1
end Go.V
namespace Go.Proofs.YtbdnabmmlbiomaaGreat
open Go.V Go
def fT (n:Nat):List D:=[.int .i64 (n:Nat)]
def mM (n:Nat):List D:=[.int .i64 (n:Nat),.bool true]
theorem vY {l:List Nat} {i q:Nat} (h:l[i]?=some q):(l.map fT)[i]?=some (fT q):=by rw[List.getElem?_map,h];rfl
theorem K1 {l:List Nat} {i q:Nat} (h:l[i]?=some q):(l.map mM)[i]?=some (mM q):=by rw[List.getElem?_map,h];rfl
structure cV (P Q:List Nat) (seen:List Bool):Prop where
 len:P.length=seen.length
 mem:∀(i p:Nat),P[i]?=some p→seen[i]?=some (decide (Q[p]?=some i))
 cnt:Q.length=seen.count true
 small:seen.length≤4096
def EA (N:Nat) (S st:St) (ks:Nat) (seen:List Bool) (H:List bt):Prop:=
 ∃pd qd P Q,Has N S st (.box ks (.mem 0 false [pd,qd])::.aP pd 1 (P.map fT)::.aP qd 2 (Q.map mM)::H)∧cV P Q seen
theorem cV.get {P Q:List Nat} {seen:List Bool} (h:cV P Q seen) {i:Nat} {b:Bool} (hi:seen[i]?=some b):∃p,P[i]?=some p∧b=decide (Q[p]?=some i):=by
 have hl:=bH hi;have kG:=h.len;refine⟨P[i]'(by omega),List.getElem?_eq_getElem _,?_⟩;have:=h.mem i _ (List.getElem?_eq_getElem (by omega));rw[hi] at this;exact Option.some.inj this
theorem cV.add {P Q:List Nat} {seen:List Bool} (h:cV P Q seen) {i:Nat} (hi:seen[i]?=some false):cV (P.set i Q.length) (Q++[i]) (seen.set i true):=by
 have hl:=bH hi;have kG:=h.len;refine⟨by simp[kG],fun j p hj=>?_,?_,by rw[List.length_set];exact h.small⟩
 ·by_cases hij:j=i
  ·subst hij;rw[List.getElem?_set_self (by omega)] at hj⊢;cases hj;simp
  ·rw[List.getElem?_set_ne (fun e=>hij e.symm)] at hj⊢;rw[h.mem j p hj]
   congr 2
   rcases Nat.lt_trichotomy p Q.length with hp|hp|hp
   ·rw[List.getElem?_append_left hp]
   ·subst hp;have hne:¬i=j:=fun e=>hij e.symm;simp[hne]
   ·rw[List.getElem?_eq_none (by omega),List.getElem?_eq_none (by simp;omega)]
 ·have h1:=List.length_eq_countP_add_countP (fun b=>b==true) (l:=seen);have h2:=List.length_eq_countP_add_countP (fun b=>b==true) (l:=seen.set i true);have h3:=count_set hi
  have e1:∀l:List Bool,l.countP (fun a=>decide (¬(a==true)=true))=l.count false:=by
   intro l;unfold List.count;congr 1;funext b;cases b<;>rfl
  have e2:∀l:List Bool,l.countP (fun a=>a==true)=l.count true:=fun l=>rfl;rw[e1,e2] at h1 h2;rw[List.length_append,h.cnt];simp only[List.length_set,List.length_cons,List.length_nil] at h2⊢;omega
theorem cV.clear {P Q:List Nat} {seen:List Bool} (h:cV P Q seen):cV P [] (List.replicate seen.length false):=by
 refine⟨by rw[List.length_replicate];exact h.len,fun i p hi=>?_,?_,by rw[List.length_replicate];exact h.small⟩
 ·have:=bH hi;have:=h.len;rw[List.getElem?_replicate,if_pos (by omega)];simp
 ·rw[List.count_replicate];simp
theorem cV.kW {P Q:List Nat} {seen:List Bool} (h:cV P Q seen):Q.length≤4096:=by
 have:=h.cnt;have:=h.small;have:=List.count_le_length (a:=true) (l:=seen);omega
theorem AG {N ks:Nat} {S s0:St} {H:List bt} {seen:List Bool} {i:Nat} {b:Bool} (hi:seen[i]?=some b) {pd qd:D} {P Q:List Nat} (bc:cV P Q seen) (hH:Has N S s0 (.box ks (.mem 0 false [pd,qd])::.aP pd 1 (P.map fT)::.aP qd 2 (Q.map mM)::H)):
  ∃r ai,Ev pv 133 [.ptr ks 0 0,.int .i64 (i:Nat)] s0 r ai∧r=.bool b∧ai=s0:=by
 obtain⟨p,hp,rfl⟩:=bc.get hi;have hl:=bH hp;have kG:=bc.len;have hsm:=bc.small;have gJ:=vY hp
 have gy:(⟨(ag .rw s0).bs.take s0.bs.length,s0.flr,s0.ro⟩:St)=s0:=by
  show(⟨s0.bs.take s0.bs.length,s0.flr,s0.ro⟩:St)=s0;rw[List.take_length]
 refine Ev.il rfl Ul rfl rfl rfl ?_;dsimp only[u3,u4,List.length,Nat.reduceSub,Nat.reduceAdd,w1,w2];have cF:=hH;have hH:=hH.cI;have ct:(ag .rw s0).bs=s0.bs:=rfl;generalize ag .rw s0=S2 at*;refine qq<|qj fun K hK=>qm ?_;refine qe hK ?_;have bj:decide (((i:Nat):Int)<0)=false:=by rw[decide_eq_false];omega
 refine qq<|qq<|ab.kB 16 (.bool false) [] ?_ (fun ff tmp hU=>?_)
 ·refine qm ?_;refine qg ?_;refine qm ?_;refine qm ?_ (hg:=wi bj);refine qm ?_ (hg:=wi bj);refine qg ?_ (hg:=wi bj);refine qp (o:=0) ?_ (hg:=wi bj);refine ql hH aB ?_ (hg:=wi bj);refine qn ?_ (hR:=hH.rows bF) (hg:=wi bj);simp only[List.length_map];refine qg ?_ (hg:=wi bj);refine qu bj ?_;refine aa.nil (c_ ?_ ?_)
  ·dsimp only[aR,List.foldl,nth,u2,u1]
   all_goals(first|rfl|simp)
  ·dsimp only[Fr.aj,Fr.put,Fr.clean,Fr.ev,Fr.get,nth,V.look,u1,u2,v1,v2,v3,v4,v5,v6,v7,List.length,u3,u4,Nat.reduceSub,Nat.reduceAdd,List.map]
   all_goals(simp_all;done)
 dsimp only[aR,List.foldl,nth,u2,u1];refine qC ?_;refine ab.skip<|qq<|qj fun K hK=>qm ?_;refine qg ?_;refine qp (o:=0) ?_;refine ql hH aB ?_;refine qm ?_;refine qi hH bF fun Vv Qh=>?_;refine qo hH bF ?_;refine qm ?_;refine qe hK ?_
 by_cases hq:p<Q.length
 ·obtain⟨q,SR⟩:∃q,Q[p]?=some q:=⟨Q[p]'hq,List.getElem?_eq_getElem _⟩
  have o3:=K1 SR;have fX:decide (((p:Nat):Int)<((Q.length:Nat):Int))=true:=by rw[decide_eq_true_eq];omega
  refine qq<|qj fun K hK=>qm ?_;refine qm ?_;refine qg ?_;refine qp (o:=1) ?_;refine ql hH aB ?_;refine qn ?_ (hR:=hH.rows dL);simp only[List.length_map];refine qg ?_;refine qm ?_;refine qm ?_ (hg:=wi fX);refine qg ?_ (hg:=wi fX);refine qp (o:=1) ?_ (hg:=wi fX);refine ql hH aB ?_ (hg:=wi fX);refine qm ?_ (hg:=wi fX);refine qi hH dL (fun Y6 S3=>?_) (hg:=wi fX);refine aa.gC (fo:=0) (m:=0) (o2:=0) (aD rfl rfl rfl fX) (ev rfl) (by assumption) rfl rfl rfl (fun _=>(ah rfl _)) (fun Y5 S0=>?_);refine qo hH dL ?_ (hg:=wi fX);refine qm ?_ (hg:=wi fX);refine qg ?_ (hg:=wi fX);refine qt fX ?_;refine qm ?_;refine qe hK<|ab.ret ⟨rx,_,_,_,rfl,ak (rfl),?_⟩;refine⟨?_,gy⟩
  have hd:(((q:Nat):Int)==((i:Nat):Int))=decide (Q[p]?=some i):=by
   rw[SR]
   by_cases h:q=i
   ·simp[h]
   ·simp[h];omega
  exact congrArg D.bool hd
 ·have fX:decide (((p:Nat):Int)<((Q.length:Nat):Int))=false:=by rw[decide_eq_false];omega
  refine qq<|qj fun K hK=>qm ?_;refine qm ?_;refine qg ?_;refine qp (o:=1) ?_;refine ql hH aB ?_;refine qn ?_ (hR:=hH.rows dL);simp only[List.length_map];refine qg ?_;refine qm ?_;refine qs ?_ (hg:=wn fX);refine qs ?_ (hg:=wn fX);refine qs ?_ (hg:=wn fX);refine qs ?_ (hg:=wn fX);refine qs ?_ (hg:=wn fX);refine qs ?_ (hg:=wn fX);refine qs ?_ (hg:=wn fX);refine qs ?_ (hg:=wn fX);refine qs ?_ (hg:=wn fX);refine qs ?_ (hg:=wn fX);refine qu fX ?_;refine qm ?_;refine qe hK<|ab.ret ⟨rx,_,_,_,rfl,ak (rfl),?_⟩;refine⟨?_,gy⟩;rw[List.getElem?_eq_none (by omega)];rfl
theorem AH {N ks:Nat} {S s0:St} {H:List bt} {seen:List Bool} {i:Nat} {b:Bool} (hF:S.flr≤N) (hi:seen[i]?=some b) (hH:EA N S s0 ks seen H):
  ∃r ai,Ev pv 109 [.ptr ks 0 0,.int .i64 (i:Nat),.bool true] s0 r ai∧r=.bool (!b)∧EA N S ai ks (seen.set i true) H:=by
 obtain⟨pd,qd,P,Q,hH,bc⟩:=hH;have hl:=bH hi;have kG:=bc.len;have hsm:=bc.small;have L8:=bc.kW;obtain⟨p0,Rr,_⟩:=bc.get hi;have gJ:=vY Rr;refine Ev.il rfl Uy rfl rfl rfl ?_;dsimp only[u3,u4,List.length,Nat.reduceSub,Nat.reduceAdd,w1,w2];change ab _ _ _ _ s0 _;refine qq<|qj fun K hK=>qm ?_;refine qe hK ?_;have bj:decide (((i:Nat):Int)<0)=false:=by rw[decide_eq_false];omega
 have bo:decide (((i:Nat):Int)≥((P.length:Nat):Int))=false:=by rw[decide_eq_false];omega
 obtain⟨_,st,aK,rfl,rfl⟩:=AG hi bc hH;refine qq<|qq<|ab.kB 22 (.bool b) [] ?_ (fun ff tmp hU=>?_)
 ·refine qm ?_;refine qg ?_;refine qm ?_;refine qm ?_ (hg:=wi bj);refine qm ?_ (hg:=wi bj);refine qg ?_ (hg:=wi bj);refine qp (o:=0) ?_ (hg:=wi bj);refine ql hH aB ?_ (hg:=wi bj);refine qn ?_ (hR:=hH.rows bF) (hg:=wi bj);simp only[List.length_map];refine qg ?_ (hg:=wi bj);refine qu bj ?_;refine qm ?_;refine qm ?_ (hg:=wi bo);refine qm ?_ (hg:=wi bo);refine qv aK ?_ (hg:=wi bo);refine qu bo ?_;refine aa.nil (c_ ?_ ?_)
  ·dsimp only[aR,List.foldl,nth,u2,u1]
   all_goals(first|rfl|simp)
  ·dsimp only[Fr.aj,Fr.put,Fr.clean,Fr.ev,Fr.get,nth,look,u1,u2,v1,v2,v4]
   all_goals(rfl)
 dsimp only[aR,List.foldl,nth,u2,u1]
 cases b with
 |true=>
  refine qB ?_;refine qq<|qj fun K hK=>qm ?_;refine qe hK<|ab.ret ⟨rx,_,_,_,rfl,rfl,?_⟩;refine⟨rfl,pd,qd,P,Q,hH,?_⟩
  have:seen.set i true=seen:=by
   refine List.ext_getElem? fun j=>?_
   by_cases hj:j=i
   ·subst hj;rw[List.getElem?_set_self hl,hi]
   ·rw[List.getElem?_set_ne (fun e=>hj e.symm)]
  rw[this];exact bc
 |false=>
  refine qC ?_;refine ab.skip<|qq<|qj fun K hK=>qm ?_;refine qg ?_;refine qp (o:=0) ?_;refine ql hH aB ?_;refine qm ?_;refine qm ?_;refine qg ?_;refine qp (o:=1) ?_;refine ql hH aB ?_;refine qn ?_ (hR:=hH.rows dL);simp only[List.length_map];refine qi hH bF fun p33 aaD=>?_;refine aa.l4 hH rfl (ev rfl) (ev rfl) (by assumption) rfl rfl (by exact bF) (by assumption) (Nat.le_of_ble_eq_true rfl) (by exact .inl hF) (fun st hH=>?_);dsimp only[u2,u1,u3,u4,setMany,u5,u6,D.cells,Nat.reduceAdd,fT,mM] at hH;refine qe hK<|qq<|qj fun K hK=>qm ?_;refine qm ?_;refine qg ?_;refine qp (o:=1) ?_;refine ql hH aB ?_;refine qm ?_;refine qm ?_;refine qg ?_;refine qh (s:=2) (vs:=[_]) hH fun k42 st aaX hH=>?_;dsimp only[u2,u1,u3,u4,setMany,u5,u6,D.cells,Nat.reduceAdd,fT,mM] at hH;refine aa.bO (s:=2) hH rfl (ev rfl) (ev rfl) (by exact eQ) (by exact hH.rows (by exact aB)) rfl rfl rfl rfl rfl rfl rfl ⟨(Nat.le_of_ble_eq_true rfl),(Nat.le_of_ble_eq_true rfl)⟩ (fun _=>(ah rfl _)) (by simp only[List.length_cons,List.length_nil,List.length_map]<;>omega) (by exact .inl hF) (fun x43 st hH=>?_);dsimp only[u2,u1,u3,u4,setMany,u5,u6,D.cells,Nat.reduceAdd,fT,mM] at hH;refine qg ?_;refine qp (o:=1) ?_;refine qT hH bF (fun st hH=>?_) (h_:=hH.eK eQ);dsimp only[u2,u1,u3,u4,setMany,u5,u6,D.cells,Nat.reduceAdd,fT,mM] at hH;refine qe hK<|qq<|qj fun K hK=>qm ?_;refine qe hK<|ab.ret ⟨rx,_,_,_,rfl,rfl,?_⟩;refine⟨rfl,pd,x43,P.set i Q.length,Q++[i],?_,bc.add hi⟩;rw[List.map_set,List.map_append];exact hH.drop 1
theorem vm {N ks:Nat} {S s0:St} {H:List bt} {seen:List Bool} (hF:S.flr≤N) (hH:EA N S s0 ks seen H):
  ∃r ai,Ev pv 107 [.ptr ks 0 0] s0 r ai∧r=.tup []∧EA N S ai ks (List.replicate seen.length false) H:=by
 obtain⟨pd,qd,P,Q,hH,bc⟩:=hH;have L8:=bc.kW;refine Ev.il rfl UA rfl rfl rfl ?_;dsimp only[u3,u4,List.length,Nat.reduceSub,Nat.reduceAdd,w1,w2];change ab _ _ _ _ s0 _;refine qq<|qj fun K hK=>qm ?_;refine qg ?_;refine qp (o:=1) ?_;refine ql hH aB ?_;refine aa.PK hH rfl (ev rfl) dL rfl rfl rfl rfl (fun st hH=>?_);dsimp only[u1,u2] at hH;refine qe hK<|qj fun K hK=>qm ?_;refine qm ?_;refine qg ?_;refine qp (o:=1) ?_;refine ql hH aB ?_;refine aa.CQ hH rfl (ev rfl) (by exact dL) rfl rfl (lP (by simp only[List.length_map,List.length_replicate];omega)) ⟨(by omega),(by simp only[List.length_map,List.length_replicate];omega)⟩ (fun _=>(ah rfl _)) (fun Z7 hH=>?_);refine qg ?_;refine qp (o:=1) ?_;refine qT hH aB (fun st hH=>?_) (h_:=hH.eK dL);dsimp only[u2,u1,u3,u4,setMany,u5,u6,D.cells,Nat.reduceAdd,fT,mM] at hH;refine qe hK ?_;refine⟨fun i h=>(by cases h),_,_,_,rfl,rfl,?_⟩;exact⟨rfl,pd,_,P,[],hH,bc.clear⟩
theorem sB {N n:Nat} {S s0:St} {H:List bt} (hF:S.flr≤N) (hn:n≤4096) (hH:Has N S s0 H):
  ∃r ai,Ev pv 101 [.int .i64 (n:Nat)] s0 r ai∧∃ks,r=.tup [.ptr ks 0 0,.int .i64 0]∧EA N S ai ks (List.replicate n false) H:=by
 refine Ev.il rfl UG rfl rfl rfl ?_;dsimp only[u3,u4,List.length,Nat.reduceSub,Nat.reduceAdd,w1,w2];change ab _ _ _ _ s0 _;refine qq<|qj fun K hK=>qm ?_;refine qm ?_;refine qe hK ?_;have bj:decide (((n:Nat):Int)<0)=false:=by rw[decide_eq_false];omega
 refine qq<|qq<|ab.kB 9 (.bool false) [] ?_ (fun ff tmp hU=>?_)
 ·refine qm ?_;refine qg ?_;refine qm ?_;refine qm ?_ (hg:=wi bj);refine qg ?_ (hg:=wi bj);refine qu bj ?_;refine aa.nil (c_ ?_ ?_)
  ·dsimp only[aR,List.foldl,nth,u2,u1]
   all_goals(first|rfl|simp)
  ·dsimp only[Fr.aj,Fr.put,Fr.clean,Fr.ev,Fr.get,nth,V.look,u1,u2,v1,v2,v3,v4,v5,v6,v7,List.length,u3,u4,Nat.reduceSub,Nat.reduceAdd,List.map]
   all_goals(simp[bj];omega)
 dsimp only[aR,List.foldl,nth,u2,u1];refine qC ?_;refine ab.skip<|qq<|qj fun K hK=>qm ?_;refine aa.wL (s:=1) hH rfl rfl rfl rfl rfl rfl rfl rfl (Nat.le_of_ble_eq_true rfl) (by omega) (fun _=>(ah rfl _)) (fun k11 st Qv hH=>?_);refine aa.gd (qs:=[(0,_)]) rfl rfl rfl rfl ⟨rfl,(ev rfl),(by rfl),trivial⟩ (by intro q hq;simp only[List.mem_cons,List.not_mem_nil,or_false] at hq;rcases hq with rfl<;>exact⟨rfl,by exact Nat.le_of_ble_eq_true rfl⟩) (by show List.foldl _ [_,_] _=_;dsimp only[List.foldl_cons,List.foldl_nil,u2,u1]<;>rfl) (ah rfl _) ?_;refine qb hH fun k13 st To hH=>?_;refine qm ?_;refine qm ?_;refine qe hK<|ab.ret ⟨rx,_,_,_,rfl,rfl,?_⟩;refine⟨k13,rfl,.win k11 0 0 n 1,.nul,List.replicate n 0,[],?_,?_⟩
 ·rw[List.map_replicate];exact Has.kE [_] [_,_] (hH.d_ 2)
 ·refine⟨by simp,fun i p hi=>?_,by rw[List.count_replicate];simp,by simpa using hn⟩;have:=bH hi;rw[List.length_replicate] at this;rw[List.getElem?_replicate,if_pos this];simp
end Go.Proofs.YtbdnabmmlbiomaaGreat
namespace Go.Proofs.YtbdnabmmlbiomaaGreat
open Go.V Go
abbrev vd:=Nat→Int
def aF (f:vd):List D:=[.int .i64 (f 0),.int .i64 (f 1),.int .i64 (f 2),.int .i64 (f 3),.int .i64 (f 4),.int .i64 (f 5),.int .i64 (f 6),.int .i64 (f 7),.int .i64 (f 8),.int .i64 (f 9)]
def b4:vd:=fun _=>-1
def mq:vd:=fun _=>0
def Co (f:vd) (x:Nat) (v:Int):vd:=fun j=>if j=x then v else f j
theorem jY {n ns pc:Nat} {i:aO} (h:dO n ns pc i=true):
  i.op=7∨(i.op=2∧(0≤i.x∧i.x<(n:Int))∧0≤i.y∧i.y<(n:Int))∨(i.op=3∧0≤i.x∧i.x<(n:Int))∨(i.op=4∧pc+1<n∧0≤i.x∧i.x<10)∨(i.op=5∧pc+1<n)∨(i.op=6∧pc+1<n)∨(i.op=1∧pc+1<n):=by
 unfold dO at h
 split at h
 ·rename_i h1;simp only[Bool.and_eq_true,decide_eq_true_eq] at h;refine .inr (.inr (.inr (.inr (.inr (.inr ⟨h1,?_⟩)))));omega
 ·simp only[Bool.and_eq_true] at h;obtain⟨_,h⟩:=h
  split at h
  ·rename_i h2;simp only[Bool.and_eq_true] at h;exact .inr (.inl ⟨h2,ew.1 h.1,ew.1 h.2⟩)
  ·simp only[Bool.and_eq_true] at h;obtain⟨_,h⟩:=h
   split at h
   ·rename_i h3;exact .inr (.inr (.inl ⟨h3,ew.1 h⟩))
   ·split at h
    ·rename_i h4;simp only[Bool.and_eq_true,decide_eq_true_eq] at h;exact .inr (.inr (.inr (.inl ⟨h4,by omega,ew.1 h.2⟩)))
    ·split at h
     ·rename_i h5;simp only[Bool.and_eq_true,decide_eq_true_eq] at h
      rcases h5 with h5|h5
      ·exact .inr (.inr (.inr (.inr (.inl ⟨h5,by omega⟩))))
      ·exact .inr (.inr (.inr (.inr (.inr (.inl ⟨h5,by omega⟩)))))
     ·split at h
      ·rename_i h7;exact .inl h7
      ·cases h
end Go.Proofs.YtbdnabmmlbiomaaGreat
namespace Go.Proofs.YtbdnabmmlbiomaaGreat
open Go.V Go
def cp (fr:Go.V.Fr) (k:Nat):Go.V.D:=Go.V.nth .bp fr.loc k
structure iO where
 pc:Nat
 c:vd
def aN (t:iO):List D:=[.int .i64 (t.pc:Nat),.int .i64 (t.c 0),.int .i64 (t.c 1),.int .i64 (t.c 2),.int .i64 (t.c 3),.int .i64 (t.c 4),.int .i64 (t.c 5),.int .i64 (t.c 6),.int .i64 (t.c 7),.int .i64 (t.c 8),.int .i64 (t.c 9)]
def aU (dn:Bool) (f:vd) (d:D):List D:=[.bool dn,.int .i64 (f 0),.int .i64 (f 1),.int .i64 (f 2),.int .i64 (f 3),.int .i64 (f 4),.int .i64 (f 5),.int .i64 (f 6),.int .i64 (f 7),.int .i64 (f 8),.int .i64 (f 9),d]
theorem Fb {a:D} {f:vd} {x:Nat} {v:Int} (hx:x<10):setMany (a::aF f) (1+x) [.int .i64 v]=a::aF (Co f x v):=by
 match x,hx with
 |0,_=>rfl
 |1,_=>rfl
 |2,_=>rfl
 |3,_=>rfl
 |4,_=>rfl
 |5,_=>rfl
 |6,_=>rfl
 |7,_=>rfl
 |8,_=>rfl
 |9,_=>rfl
structure Wk where
 seen:List Bool
 dn:Bool
 a7:vd
 rdy:List iO
def bU (code:List aO) (pl:Nat) (e:Bool):Nat→Wk→iO→Wk×Bool
 |0,w,_=>(w,false)
 |f+1,w,t=>
  if w.seen.getD t.pc true=true then(w,false) else
  match code[t.pc]? with
  |none=>(w,false)
  |some i=>
   if i.op=7 then(⟨w.seen.set t.pc true,true,t.c,w.rdy⟩,true)
   else if i.op=2 then
    if(bU code pl e f ⟨w.seen.set t.pc true,w.dn,w.a7,w.rdy⟩ ⟨i.x.toNat,t.c⟩).2=true then bU code pl e f ⟨w.seen.set t.pc true,w.dn,w.a7,w.rdy⟩ ⟨i.x.toNat,t.c⟩
    else bU code pl e f (bU code pl e f ⟨w.seen.set t.pc true,w.dn,w.a7,w.rdy⟩ ⟨i.x.toNat,t.c⟩).1 ⟨i.y.toNat,t.c⟩
   else if i.op=1 then(⟨w.seen.set t.pc true,w.dn,w.a7,w.rdy++[t]⟩,false)
   else if i.op=3 then bU code pl e f ⟨w.seen.set t.pc true,w.dn,w.a7,w.rdy⟩ ⟨i.x.toNat,t.c⟩
   else if i.op=4 then bU code pl e f ⟨w.seen.set t.pc true,w.dn,w.a7,w.rdy⟩ ⟨t.pc+1,Co t.c i.x.toNat (pl:Nat)⟩
   else if i.op=5 then if pl=0 then bU code pl e f ⟨w.seen.set t.pc true,w.dn,w.a7,w.rdy⟩ ⟨t.pc+1,t.c⟩ else(⟨w.seen.set t.pc true,w.dn,w.a7,w.rdy⟩,false)
   else if e=true then bU code pl e f ⟨w.seen.set t.pc true,w.dn,w.a7,w.rdy⟩ ⟨t.pc+1,t.c⟩ else(⟨w.seen.set t.pc true,w.dn,w.a7,w.rdy⟩,false)
def Good (code:List aO) (w w':Wk):Prop:=
 w'.seen.length=w.seen.length∧w'.seen.count false≤w.seen.count false∧w'.rdy.length+w'.seen.count false≤w.rdy.length+w.seen.count false∧∀t∈w'.rdy,t∈w.rdy∨∃i,code[t.pc]?=some i∧i.op=1
theorem Good.refl {code:List aO} {w:Wk}:Good code w w:=⟨rfl,Nat.le_refl _,Nat.le_refl _,fun t h=>.inl h⟩
theorem Good.trans {code:List aO} {a b c:Wk} (h:Good code a b) (k:Good code b c):Good code a c:=
 ⟨k.1.trans h.1,Nat.le_trans k.2.1 h.2.1,Nat.le_trans k.2.2.1 h.2.2.1,fun t ht=>by
  rcases k.2.2.2 t ht with q|q
  ·exact h.2.2.2 t q
  ·exact .inr q⟩
theorem Good.step {code:List aO} {w w':Wk} {j:Nat} (hj:w.seen[j]?=some false) (k:Good code ⟨w.seen.set j true,w.dn,w.a7,w.rdy⟩ w'):Good code w w':=by
 have hc:=count_set hj;refine Good.trans (b:=⟨w.seen.set j true,w.dn,w.a7,w.rdy⟩) ⟨?_,?_,?_,fun t h=>.inl h⟩ k
 ·simp
 ·show(w.seen.set j true).count false≤_;omega
 ·show w.rdy.length+(w.seen.set j true).count false≤_;omega
theorem xO {l:List Bool} {j:Nat} (h:¬l.getD j true=true):l[j]?=some false:=by
 rw[List.getD_eq_getElem?_getD] at h
 cases hq:l[j]? with
 |none=>rw[hq] at h;exact absurd rfl h
 |some b=>rw[hq] at h;cases b with
  |false=>rfl
  |true=>exact absurd rfl h
theorem sC {l:List Bool} {j:Nat} {b:Bool} (h:l[j]?=some b):l.getD j true=b:=by
 rw[List.getD_eq_getElem?_getD,h];rfl
theorem cu (code:List aO) (pl:Nat) (e:Bool):∀(f:Nat) (w:Wk) (t:iO),Good code w (bU code pl e f w t).1
 |0,w,t=>.refl
 |f+1,w,t=>by
  unfold bU
  split
  ·exact .refl
  ·rename_i hs;have hs:=xO hs;have hc:=count_set hs
   split
   ·exact .refl
   ·rename_i i hi
    split
    ·exact Good.step hs ⟨rfl,Nat.le_refl _,Nat.le_refl _,fun t h=>.inl h⟩
    ·split
     ·split
      ·exact Good.step hs (cu code pl e f _ _)
      ·exact Good.step hs ((cu code pl e f _ _).trans (cu code pl e f _ _))
     ·split
      ·rename_i h1;refine⟨by simp,by show(w.seen.set t.pc true).count false≤_;omega,by show(w.rdy++[t]).length+(w.seen.set t.pc true).count false≤_;rw[List.length_append];simp only[List.length_cons,List.length_nil];omega,fun t' h=>?_⟩
       rcases List.mem_append.1 h with h|h
       ·exact .inl h
       ·simp only[List.mem_cons,List.not_mem_nil,or_false] at h;subst h;exact .inr ⟨i,hi,h1⟩
      ·split
       ·exact Good.step hs (cu code pl e f _ _)
       ·split
        ·exact Good.step hs (cu code pl e f _ _)
        ·split
         ·split
          ·exact Good.step hs (cu code pl e f _ _)
          ·exact Good.step hs .refl
         ·split
          ·exact Good.step hs (cu code pl e f _ _)
          ·exact Good.step hs .refl
theorem E5 (l:List iO):∀e∈l.map aN,e.length=11:=by
 intro e he;obtain⟨x,_,rfl⟩:=List.mem_map.1 he;rfl
theorem nF (A:List bt) {N ks:Nat} {S s0:St} {H:List bt} {seen:List Bool} {i:Nat} {b:Bool} {pd qd:D} {P Q:List Nat} (hF:S.flr≤N) (hi:seen[i]?=some b) (bc:cV P Q seen) (hH:Has N S s0 (A++(.box ks (.mem 0 false [pd,qd])::.aP pd 1 (P.map fT)::.aP qd 2 (Q.map mM)::H))):
  ∃r ai,Ev pv 109 [.ptr ks 0 0,.int .i64 (i:Nat),.bool true] s0 r ai∧r=.bool (!b)∧∃pd qd P Q,Has N S ai (A++(.box ks (.mem 0 false [pd,qd])::.aP pd 1 (P.map fT)::.aP qd 2 (Q.map mM)::H))∧cV P Q (seen.set i true):=by
 obtain⟨r,ai,h1,h2,EN,EL,P',Q',h3,h4⟩:=AH (H:=A++H) hF hi ⟨pd,qd,P,Q,Has.kE A [_,_,_] hH,bc⟩;exact⟨r,ai,h1,h2,EN,EL,P',Q',Has.kE [_,_,_] A h3,h4⟩
theorem oz (A:List bt) {N ks:Nat} {S s0:St} {H:List bt} {seen:List Bool} {pd qd:D} {P Q:List Nat} (hF:S.flr≤N) (bc:cV P Q seen) (hH:Has N S s0 (A++(.box ks (.mem 0 false [pd,qd])::.aP pd 1 (P.map fT)::.aP qd 2 (Q.map mM)::H))):
  ∃r ai,Ev pv 107 [.ptr ks 0 0] s0 r ai∧r=.tup []∧∃pd qd P Q,Has N S ai (A++(.box ks (.mem 0 false [pd,qd])::.aP pd 1 (P.map fT)::.aP qd 2 (Q.map mM)::H))∧cV P Q (List.replicate seen.length false):=by
 obtain⟨r,ai,h1,h2,EN,EL,P',Q',h3,h4⟩:=vm (H:=A++H) hF ⟨pd,qd,P,Q,Has.kE A [_,_,_] hH,bc⟩;exact⟨r,ai,h1,h2,EN,EL,P',Q',Has.kE [_,_,_] A h3,h4⟩
def Z6 (N:Nat) (S st:St) (ks kv kw kl:Nat) (p:Pg) (pl:Nat) (ld:D) (e:Bool) (w:Wk) (H:List bt):Prop:=
 ∃rd pd qd P Q,Has N S st (.box kv (.mem 0 false [p.cd,p.sd,.int .i64 (pl:Nat),ld,.ptr ks 0 0])::.box kw (.mem 0 false [.ptr kl 0 0,rd,.bool e])::.box kl (.mem 0 false (aU w.dn w.a7 .nul))::.aP rd 11 (w.rdy.map aN)::.box ks (.mem 0 false [pd,qd])::.aP pd 1 (P.map fT)::.aP qd 2 (Q.map mM)::H)∧cV P Q w.seen
theorem LU {N ks kv kw kl:Nat} {S:St} {H:List bt} {p:Pg} {pl:Nat} {ld:D} {e:Bool} (hF:S.flr≤N) (hp:p.ok) (hR:bz p) (iq:pl≤1099511627776):∀(f:Nat) (w:Wk) (t:iO) (s0:St) (H:List bt),t.pc<p.code.length→w.seen.length=p.code.length→w.seen.count false<f→w.rdy.length+w.seen.count false≤1048576→Z6 N S s0 ks kv kw kl p pl ld e w H→
  ∃r ai,Ev pv 110 [.ptr kv 0 0,.ptr kw 0 0,.agg (aN t)] s0 r ai∧r=.bool (bU p.code pl e f w t).2∧Z6 N S ai ks kv kw kl p pl ld e (bU p.code pl e f w t).1 H
 |0,_,_,_,_,_,_,h,_,_=>absurd h (Nat.not_lt_zero _)
 |f+1,w,t,s0,H,DE,iT,ek,oZ,hT=>by
  have ih:=LU (ks:=ks) (kv:=kv) (kw:=kw) (kl:=kl) (S:=S) (H:=H) (ld:=ld) (e:=e) hF hp hR iq f;obtain⟨rd,pd,qd,P,Q,hH,bc⟩:=hT;have hc:=hp.c.arg N S;have hlen:=hp.cl
  obtain⟨i,hi⟩:∃i,p.code[t.pc]?=some i:=⟨p.code[t.pc]'DE,List.getElem?_eq_getElem _⟩
  obtain⟨b,hb⟩:∃b,w.seen[t.pc]?=some b:=⟨w.seen[t.pc]'(by omega),List.getElem?_eq_getElem _⟩
  have hr:=gD hi;have yH:=(hp.i i (List.mem_of_getElem? hi)).1;have mb:=jY (hR.sh t.pc i hi);have Lm:=sC hb;have eD:bU p.code pl e (f+1) w t=bU p.code pl e (f+1) w t:=rfl
  conv at eD=>rhs;unfold bU
  rw[Lm] at eD;simp only[hi] at eD;generalize bU p.code pl e (f+1) w t=R at*;obtain⟨op,x,y,YR,rs⟩:=i;obtain⟨pc,c⟩:=t;simp only at*;refine Ev.il rfl Ux rfl rfl rfl ?_;dsimp only[u3,u4,List.length,Nat.reduceSub,Nat.reduceAdd,w1,w2];change ab _ _ _ _ s0 _;refine qq<|qj fun K hK=>qb hH fun k5 st Aa hH=>?_;dsimp only[u2,u1,u3,u4,setMany,u5,u6,D.cells,Nat.reduceAdd,aH,aN,aU,aF] at hH;refine qm ?_;refine qe hK<|qq<|qq<|qj fun K hK=>qm ?_;refine qg ?_;refine qp (o:=4) ?_;refine ql hH bF ?_;refine qp (o:=0) ?_;refine ql hH aB ?_;obtain⟨_,st,aK,rfl,pd,qd,P,Q,hH,bc⟩:=nF [_,_,_,_,_] hF hb bc hH;dsimp only[u3,u4] at hH;refine qv aK ?_;refine qg ?_;refine qe hK ?_
  cases b with
  |true=>
   rw[if_pos rfl] at eD;subst eD;refine qB ?_;refine qq<|qj fun K hK=>qm ?_;refine qe hK<|ab.ret ⟨rx,_,_,_,rfl,rfl,?_⟩;refine⟨rfl,rd,pd,qd,P,Q,hH.drop 1,?_⟩
   have:w.seen.set pc true=w.seen:=by
    refine List.ext_getElem? fun j=>?_
    by_cases hj:j=pc
    ·subst hj;rw[List.getElem?_set_self (by omega),hb]
    ·rw[List.getElem?_set_ne (fun e=>hj e.symm)]
   rw[←this];exact bc
  |false=>
   rw[if_neg (by decide)] at eD;have wR:=count_set hb;have n9:(w.seen.set pc true).length=p.code.length:=by rw[List.length_set];exact iT
   have wT:(w.seen.set pc true).count false<f:=by omega
   have wE:w.rdy.length+(w.seen.set pc true).count false≤1048576:=by omega
   generalize w.seen.set pc true=sn at*;clear hb Lm wR iT ek oZ;refine qC ?_;refine ab.skip<|qq<|qj fun K hK=>qm ?_;refine qg ?_;refine qp (o:=0) ?_;refine qp (o:=0) ?_;refine ql hH bF ?_;refine qp (o:=0) ?_;refine ql hH aB ?_;refine qr fun Rl Bn=>?_;refine aa.db rfl (ev rfl) (by assumption) rfl (by dsimp only[Fr.put,u1,u2]<;>rfl) ?_;refine qa hH fun k7 st U3 hH=>?_;refine qS hH aB fun st hH=>?_;dsimp only[u2,u1,u3,u4,setMany,u5,u6,D.cells,Nat.reduceAdd,aH,aN,aU,aF] at hH;refine qe hK<|qq<|qj fun K hK=>?_;refine aa.aT (m:=11) hH rfl (ev rfl) (by exact bF) (by dsimp only[List.drop_succ_cons,List.drop_zero,List.take_succ_cons,List.take_zero,aH,aN,aU,aF]<;>rfl) rfl rfl (by dsimp only[Fr.put,u1,u2]<;>rfl) ?_;refine qa hH fun k8 st Rx hH=>?_;refine qS hH aB fun st hH=>?_;dsimp only[u2,u1,u3,u4,setMany,u5,u6,D.cells,Nat.reduceAdd,aH,aN,aU,aF] at hH;refine qe hK<|qq<|qj fun K hK=>qp (o:=0) ?_;refine ql hH aB ?_;refine qA ?_;refine qp (o:=0) ?_;refine qT hH aB fun st hH=>?_;dsimp only[u2,u1,u3,u4,setMany,u5,u6,D.cells,Nat.reduceAdd,aH,aN,aU,aF] at hH;refine qe hK<|qq<|qq<|qj fun K hK=>qp (o:=0) ?_;refine ql hH bF ?_;refine qe hK<|ab.merge (fun fr st=>∃(t':iO) (tmp:List (Nat×D)),fr=⟨33,[.ptr kv 0 0,.ptr kw 0 0,cp fr 2,cp fr 3,cp fr 4,.ptr k5 0 0,.bool false,.ptr k7 0 0,.ptr k8 0 0,cp fr 9,cp fr 10,cp fr 11,cp fr 12,cp fr 13,cp fr 14,cp fr 15,cp fr 16,cp fr 17,cp fr 18,cp fr 19,cp fr 20,cp fr 21,cp fr 22,cp fr 23,cp fr 24,cp fr 25,cp fr 26,cp fr 27,cp fr 28,cp fr 29,cp fr 30,cp fr 31,cp fr 32],tmp⟩∧Has N S st (.box k8 (.mem 0 false (aN t'))::.box k7 (.mem 0 false [.int .i64 op,.int .i64 x,.int .i64 y,YR])::.box k5 (.mem 0 false (aN ⟨pc,c⟩))::.box kv (.mem 0 false [p.cd,p.sd,.int .i64 (pl:Nat),ld,.ptr ks 0 0])::.box kw (.mem 0 false [.ptr kl 0 0,rd,.bool e])::.box kl (.mem 0 false (aU w.dn w.a7 .nul))::.aP rd 11 (w.rdy.map aN)::.box ks (.mem 0 false [pd,qd])::.aP pd 1 (P.map fT)::.aP qd 2 (Q.map mM)::H)∧(R=bU p.code pl e f ⟨sn,w.dn,w.a7,w.rdy⟩ t')∧(t'.pc<p.code.length)) ?_ ?_
   ·refine ab.block<|qq<|qj fun K hK=>qg ?_;refine qm ?_;refine qe hK ?_;refine ab.cond (by rfl) (fun h7=>?_) (fun h7=>?_)<;>try simp only[beq_iff_eq,beq_eq_false_iff_ne,ne_eq] at h7
    ·rw[if_pos h7] at eD;subst eD;have px:=hH;change ab _ _ _ _ _ _;refine qq ?_;generalize hK:aI _ _ _ _=K;refine ab.oU rfl ?_;refine bL.cons ?_;refine qm ?_;refine aa.nil ⟨rfl,?_⟩;refine bL.cons ?_;refine qg ?_;refine aa.nil ⟨rfl,?_⟩;refine bL.cons ?_;refine qp (o:=0) ?_;refine aa.nil ⟨rfl,?_⟩;refine bL.cons ?_;refine ql hH gO ?_;refine aa.nil ⟨rfl,?_⟩;refine bL.cons ?_;refine qm ?_;refine aa.nil ⟨rfl,?_⟩;refine bL.cons ?_;refine qg ?_;refine aa.nil ⟨rfl,?_⟩;refine bL.cons ?_;refine qp (o:=0) ?_;refine aa.nil ⟨rfl,?_⟩;refine bL.cons ?_;refine ql hH gO ?_;refine aa.nil ⟨rfl,?_⟩;refine bL.cons ?_;refine qp (o:=1) ?_;refine aa.nil ⟨rfl,?_⟩;refine bL.cons ?_;refine aa.aT (m:=10) hH rfl (ev rfl) (by exact dL) (by dsimp only[List.drop_succ_cons,List.drop_zero,List.take_succ_cons,List.take_zero,aH,aN,aU,aF]<;>rfl) rfl rfl (ah rfl _) ?_;refine aa.nil ⟨rfl,?_⟩;refine bL.cons ?_;refine qg ?_;refine aa.nil ⟨rfl,?_⟩;refine bL.cons ?_;refine qp (o:=0) ?_;refine aa.nil ⟨rfl,?_⟩;refine bL.cons ?_;refine qT hH rH fun st hH=>?_;dsimp only[u2,u1,u3,u4,setMany,u5,u6,D.cells,Nat.reduceAdd,aH,aN,aU,aF] at hH;refine aa.nil ⟨by exact Bool.and_eq_true_iff.2 ⟨BO rfl rfl rfl (px.at dL) (hH.at dL) (px.at dL) rfl,rfl⟩,?_⟩;refine bL.cons ?_;refine qg ?_;refine aa.nil ⟨rfl,?_⟩;refine bL.cons ?_;refine qp (o:=1) ?_;refine aa.nil ⟨rfl,?_⟩;refine bL.cons ?_;refine qT hH rH fun st hH=>?_;dsimp only[u2,u1,u3,u4,setMany,u5,u6,D.cells,Nat.reduceAdd,aH,aN,aU,aF] at hH;refine aa.nil ⟨rfl,?_⟩;refine bL.nil ?_;subst hK;refine qq<|qj fun K hK=>qm ?_;refine qe hK<|ab.ret ⟨rx,_,_,_,rfl,rfl,?_⟩;exact⟨rfl,rd,pd,qd,P,Q,hH.drop 3,bc⟩
    ·rw[if_neg h7] at eD;refine qq<|qj fun K hK=>qg ?_;refine qm ?_;refine qe hK ?_;refine ab.cond (by rfl) (fun h2=>?_) (fun h2=>?_)<;>try simp only[beq_iff_eq,beq_eq_false_iff_ne,ne_eq] at h2
     ·rw[if_pos h2] at eD;obtain⟨_,⟨hx0,hx1⟩,hy0,hy1⟩:=(mb.resolve_left h7).resolve_right (by omega);obtain⟨xn,rfl⟩:=Int.eq_ofNat_of_zero_le hx0;obtain⟨yn,rfl⟩:=Int.eq_ofNat_of_zero_le hy0;have Qx:=cu p.code pl e f ⟨sn,w.dn,w.a7,w.rdy⟩ ⟨xn,c⟩;have wX:=Has.kE [_,_,_] [_,_,_,_,_,_,_] hH;obtain⟨_,st1,aK,rfl,hT⟩:=ih ⟨sn,w.dn,w.a7,w.rdy⟩ ⟨xn,c⟩ _ _ (by show xn<_;omega) n9 wT wE ⟨rd,pd,qd,P,Q,wX,bc⟩;clear wX;have eD:R=if(bU p.code pl e f ⟨sn,w.dn,w.a7,w.rdy⟩ ⟨xn,c⟩).2=true then bU p.code pl e f ⟨sn,w.dn,w.a7,w.rdy⟩ ⟨xn,c⟩ else bU p.code pl e f (bU p.code pl e f ⟨sn,w.dn,w.a7,w.rdy⟩ ⟨xn,c⟩).1 ⟨yn,c⟩:=eD;generalize bU p.code pl e f ⟨sn,w.dn,w.a7,w.rdy⟩ ⟨xn,c⟩=R1 at*;obtain⟨w1,b1⟩:=R1;obtain⟨cW,bj,bP,fg⟩:=Qx;simp only at cW bj bP fg aK hT eD;obtain⟨YS,Y0,YT,P1,Q1,wX,S7⟩:=hT;have wX:=Has.kE [_,_,_,_,_,_,_] [_,_,_] wX;dsimp only[u3,u4] at wX
      cases b1 with
      |true=>
       rw[if_pos rfl] at eD;subst eD;have gZ:true=true:=rfl;refine qq<|qj fun K hK=>qm ?_;refine qm ?_;refine qp (o:=1) ?_;refine ql hH bF ?_;refine qp (o:=1) ?_;refine aa.aT (m:=10) hH rfl (ev rfl) (by exact dL) (by dsimp only[List.drop_succ_cons,List.drop_zero,List.take_succ_cons,List.take_zero,aH,aN,aU,aF]<;>rfl) rfl rfl (ah rfl _) ?_;refine aa.go (d:=.agg (aN ⟨xn,c⟩)) (st1:=_) rfl rfl rfl (ah rfl _) ?_;refine qv aK ?_;refine qm ?_;refine qs ?_ (hg:=wn gZ);refine qs ?_ (hg:=wn gZ);refine qs ?_ (hg:=wn gZ);refine qs ?_ (hg:=wn gZ);refine qs ?_ (hg:=wn gZ);refine qs ?_ (hg:=wn gZ);refine qs ?_ (hg:=wn gZ);refine qs ?_ (hg:=wn gZ);refine qt gZ ?_;refine qm ?_;refine qe hK<|ab.ret ⟨rx,_,_,_,rfl,rfl,?_⟩;exact⟨rfl,YS,Y0,YT,P1,Q1,wX.drop 3,S7⟩
      |false=>
       rw[if_neg (by decide)] at eD;have gZ:false=false:=rfl;refine qq<|qj fun K hK=>qm ?_;refine qm ?_;refine qp (o:=1) ?_;refine ql hH bF ?_;refine qp (o:=1) ?_;refine aa.aT (m:=10) hH rfl (ev rfl) (by exact dL) (by dsimp only[List.drop_succ_cons,List.drop_zero,List.take_succ_cons,List.take_zero,aH,aN,aU,aF]<;>rfl) rfl rfl (ah rfl _) ?_;refine aa.go (d:=.agg (aN ⟨xn,c⟩)) (st1:=_) rfl rfl rfl (ah rfl _) ?_;have hH:=wX;refine qv aK ?_;refine qm ?_;refine qm ?_ (hg:=wi gZ);refine qm ?_ (hg:=wi gZ);refine qp (o:=2) ?_ (hg:=wi gZ);refine ql hH bF ?_ (hg:=wi gZ);refine qp (o:=1) ?_ (hg:=wi gZ);refine aa.aT (m:=10) hH (aD rfl rfl rfl gZ) (ev rfl) (by exact dL) (by dsimp only[List.drop_succ_cons,List.drop_zero,List.take_succ_cons,List.take_zero,aH,aN,aU,aF]<;>rfl) rfl rfl (ah rfl _) ?_;refine aa.go (d:=.agg (aN ⟨yn,c⟩)) (st1:=_) (aD rfl rfl rfl gZ) rfl rfl (ah rfl _) ?_;obtain⟨_,st,aK,rfl,hT⟩:=ih w1 ⟨yn,c⟩ _ _ (by show yn<_;omega) (by omega) (by omega) (by omega) ⟨YS,Y0,YT,P1,Q1,hH.drop 3,S7⟩;refine qv aK ?_ (hg:=wi gZ);refine qu gZ ?_;refine qm ?_;refine qe hK<|ab.ret ⟨rx,_,_,_,rfl,rfl,?_⟩;rw[eD];exact⟨rfl,hT⟩
     ·rw[if_neg h2] at eD;refine qq<|qj fun K hK=>qg ?_;refine qm ?_;refine qe hK ?_;refine ab.cond (by rfl) (fun h1=>?_) (fun h1=>?_)<;>try simp only[beq_iff_eq,beq_eq_false_iff_ne,ne_eq] at h1
      ·rw[if_pos h1] at eD;subst eD;refine qq<|qj fun K hK=>qm ?_;refine qm ?_;refine qg ?_;refine qp (o:=1) ?_;refine ql hH gO ?_;refine aa.aT (m:=11) hH rfl (ev rfl) (by exact dL) (by dsimp only[List.drop_succ_cons,List.drop_zero,List.take_succ_cons,List.take_zero,aH,aN,aU,aF]<;>rfl) rfl rfl (ah rfl _) ?_;refine qh (s:=11) (vs:=[_]) hH fun k77 st Ti hH=>?_;refine aa.bO (s:=11) hH rfl (ev rfl) (ev rfl) (by exact YF) (by exact hH.rows (by exact aB)) rfl rfl rfl rfl rfl rfl rfl ⟨(Nat.le_of_ble_eq_true rfl),(Nat.le_of_ble_eq_true rfl)⟩ (fun _=>(ah rfl _)) (by simp only[List.length_cons,List.length_nil,List.length_map]<;>omega) (by exact .inl hF) (fun x78 st hH=>?_);dsimp only[u2,u1,u3,u4,setMany,u5,u6,D.cells,Nat.reduceAdd,aH,aN,aU,aF] at hH;refine qg ?_;refine qp (o:=1) ?_;refine qT hH rH (fun st hH=>?_) (h_:=hH.eK YF);dsimp only[u2,u1,u3,u4,setMany,u5,u6,D.cells,Nat.reduceAdd,aH,aN,aU,aF] at hH;refine qe hK<|qq<|qj fun K hK=>qm ?_;refine qe hK<|ab.ret ⟨rx,_,_,_,rfl,rfl,?_⟩;refine⟨rfl,x78,pd,qd,P,Q,?_,bc⟩;rw[List.map_append];exact hH.drop 4
      ·rw[if_neg h1] at eD;refine qq<|qj fun K hK=>qg ?_;refine qm ?_;refine qe hK ?_;refine ab.cond (by rfl) (fun h3=>?_) (fun h3=>?_)<;>try simp only[beq_iff_eq,beq_eq_false_iff_ne,ne_eq] at h3
       ·rw[if_pos h3] at eD;obtain⟨_,hx0,hx1⟩:=((mb.resolve_left h7).resolve_left (by omega)).resolve_right (by omega);obtain⟨xn,rfl⟩:=Int.eq_ofNat_of_zero_le hx0;refine qj fun K hK=>qp (o:=1) ?_;refine ql hH bF ?_;refine qp (o:=0) ?_;refine qT hH aB fun st hH=>?_;dsimp only[u2,u1,u3,u4,setMany,u5,u6,D.cells,Nat.reduceAdd,aH,aN,aU,aF] at hH;refine qe hK ?_;exact⟨⟨xn,c⟩,_,rfl,hH,eD,by show xn<_;omega⟩
       ·rw[if_neg h3] at eD;refine qq<|qj fun K hK=>qg ?_;refine qm ?_;refine qe hK ?_;refine ab.cond (by rfl) (fun h4=>?_) (fun h4=>?_)<;>try simp only[beq_iff_eq,beq_eq_false_iff_ne,ne_eq] at h4
        ·rw[if_pos h4] at eD;obtain⟨_,qX,hx0,hx1⟩:=(((mb.resolve_left h7).resolve_left (by omega)).resolve_left (by omega)).resolve_right (by omega);obtain⟨xn,rfl⟩:=Int.eq_ofNat_of_zero_le hx0;refine qj fun K hK=>qp (o:=1) ?_;refine ql hH bF ?_;refine qm ?_;refine qg ?_;refine qp (o:=2) ?_;refine ql hH eQ ?_;refine qp (o:=1) ?_;refine aa.Lq (m:=10) (s:=1) (i:=xn) (o:=1+xn) rfl (ev rfl) (ev rfl) rfl rfl (by omega) (by omega) (ah rfl _) ?_;refine aa.k_ hH rfl (ev rfl) (ev rfl) rfl (by exact rfl) aB (by show 1+xn+1≤11;omega) (.inl hF) (fun st hH=>?_);change Has _ _ _ (.box k8 (.mem 0 false (setMany (_::aF c) (1+xn) [.int .i64 (pl:Nat)]))::_) at hH;rw[Fb (by omega)] at hH;refine qe hK ?_;exact⟨⟨pc+1,Co c xn (pl:Nat)⟩,_,rfl,hH,eD,qX⟩
        ·rw[if_neg h4] at eD;refine qq<|qj fun K hK=>qg ?_;refine qm ?_;refine qe hK ?_;refine ab.cond (by rfl) (fun h5=>?_) (fun h5=>?_)<;>try simp only[beq_iff_eq,beq_eq_false_iff_ne,ne_eq] at h5
         ·rw[if_pos h5] at eD;have qX:pc+1<p.code.length:=by omega
          refine qq<|qj fun K hK=>qm ?_;refine qg ?_;refine qp (o:=2) ?_;refine ql hH eQ ?_;refine qg ?_;refine qe hK ?_
          by_cases ha:pl=0
          ·rw[if_pos ha] at eD;subst ha;refine ab.cond (v:=false) (by dsimp only[Fr.ev,Fr.get,nth,V.look];rfl) (fun h=>by cases h) (fun _=>?_);refine ab.skip ?_;exact⟨⟨pc+1,c⟩,_,rfl,hH,eD,qX⟩
          ·rw[if_neg ha] at eD;subst eD;refine qD rfl (by simp;omega) ?_;refine qq<|qj fun K hK=>qm ?_;refine qe hK<|ab.ret ⟨rx,_,_,_,rfl,rfl,?_⟩;exact⟨rfl,rd,pd,qd,P,Q,hH.drop 3,bc⟩
         ·rw[if_neg h5] at eD;have h6:op=6:=by omega
          have qX:pc+1<p.code.length:=by omega
          refine qq<|qj fun K hK=>qg ?_;refine qm ?_;refine qe hK<|qD rfl (by simp[h6]) ?_;refine qq<|qj fun K hK=>qm ?_;refine qg ?_;refine qp (o:=2) ?_;refine ql hH gO ?_;refine qg ?_;refine qe hK ?_
          cases e with
          |true=>
           rw[if_pos rfl] at eD;refine qC ?_;refine ab.skip ?_;exact⟨⟨pc+1,c⟩,_,rfl,hH,eD,qX⟩
          |false=>
           rw[if_neg (by decide)] at eD;subst eD;refine qB ?_;refine qq<|qj fun K hK=>qm ?_;refine qe hK<|ab.ret ⟨rx,_,_,_,rfl,rfl,?_⟩;exact⟨rfl,rd,pd,qd,P,Q,hH.drop 3,bc⟩
   ·rintro fr st ⟨t',tmp,hfr,hH,hR2,Wh⟩;rw[hfr];clear hfr;generalize cp fr=ee;clear fr;obtain⟨pc',c'⟩:=t';dsimp only[aN] at hH;refine qq<|qj fun K hK=>qm ?_;refine qm ?_;refine aa.aT (m:=11) hH rfl (ev rfl) (by exact aB) (by dsimp only[List.drop_succ_cons,List.drop_zero,List.take_succ_cons,List.take_zero,aH,aN,aU,aF]<;>rfl) rfl rfl (ah rfl _) ?_;have hH:=hH.drop 3;obtain⟨_,st,aK,rfl,hT⟩:=ih ⟨sn,w.dn,w.a7,w.rdy⟩ ⟨pc',c'⟩ _ _ Wh n9 wT wE ⟨rd,pd,qd,P,Q,hH,bc⟩;refine qv aK ?_;refine qm ?_;refine qe hK<|ab.ret ⟨rx,_,_,_,rfl,rfl,?_⟩;rw[hR2];exact⟨rfl,hT⟩
end Go.Proofs.YtbdnabmmlbiomaaGreat
namespace Go.Proofs.YtbdnabmmlbiomaaGreat
open Go.V Go
def cw (fr:Go.V.Fr) (k:Nat):Go.V.D:=Go.V.nth .bp fr.loc k
structure VL where
 dn:Bool
 a7:vd
 td:D
 cT:List iO
def fp (l:VL):List D:=aU l.dn l.a7 l.td
def nA (l:VL):bt:=.aP l.td 11 (l.cT.map aN)
theorem B_ (A:List bt) {n:Nat} (hn:A.length=n) {L:List VL} {i:Nat} {l:VL} (h:L[i]?=some l) {H:List bt}:(A++(L.map nA++H))[n+i]?=some (nA l):=by
 have hi:=bH h;rw[List.getElem?_append_right (by omega),List.getElem?_append_left (by simp;omega),hn,Nat.add_sub_cancel_left,List.getElem?_map,h];rfl
theorem tC {L:List VL} {i:Nat} {l:VL} (h:L[i]?=some l):(L.map fp)[i]?=some (fp l):=by rw[List.getElem?_map,h];rfl
theorem lx {l:List iO} {i:Nat} {q:iO} (h:l[i]?=some q):(l.map aN)[i]?=some (aN q):=by rw[List.getElem?_map,h];rfl
theorem j9 {N:Nat} {S st:St} {H:List bt} {j:Nat} {x:D} {s:Nat} {es:List (List D)} (h:Has N S st H) (hj:H[j]?=some (.aP x s es)):x.ref≤st.bs.length:=by
 rcases Nat.eq_zero_or_pos x.ref with h0|h0
 ·omega
 ·have:=h.oG hj (k:=x.ref-1) (by show x.ref=x.ref-1+1;omega);omega
def MH (A:List bt) (N:Nat) (S st:St) (ks kv:Nat) (p:Pg) (pl:Nat) (ld:D) (L:List VL) (H:List bt):Prop:=
 ∃pd qd P Q sn,Has N S st (A++(.box kv (.mem 0 false [p.cd,p.sd,.int .i64 (pl:Nat),ld,.ptr ks 0 0])::.box ks (.mem 0 false [pd,qd])::.aP pd 1 (P.map fT)::.aP qd 2 (Q.map mM)::.aP ld 12 (L.map fp)::(L.map nA++H)))∧cV P Q sn∧sn.length=p.code.length
theorem MH.push (A B:List bt) {N:Nat} {S st:St} {ks kv:Nat} {p:Pg} {pl:Nat} {ld:D} {L:List VL} {H:List bt} (h:MH (A++B) N S st ks kv p pl ld L H):MH B N S st ks kv p pl ld L (A++H):=by
 obtain⟨pd,qd,P,Q,sn,hH,bc,ec⟩:=h;refine⟨pd,qd,P,Q,sn,?_,bc,ec⟩;have:=Has.kE (H:=H) A (B++(.box kv (.mem 0 false [p.cd,p.sd,.int .i64 (pl:Nat),ld,.ptr ks 0 0])::.box ks (.mem 0 false [pd,qd])::.aP pd 1 (P.map fT)::.aP qd 2 (Q.map mM)::.aP ld 12 (L.map fp)::L.map nA)) (by simpa only[List.append_assoc,List.cons_append] using hH)
 simpa only[List.append_assoc,List.cons_append] using this
theorem MH.pull (A B:List bt) {N:Nat} {S st:St} {ks kv:Nat} {p:Pg} {pl:Nat} {ld:D} {L:List VL} {H:List bt} (h:MH B N S st ks kv p pl ld L (A++H)):MH (A++B) N S st ks kv p pl ld L H:=by
 obtain⟨pd,qd,P,Q,sn,hH,bc,ec⟩:=h;refine⟨pd,qd,P,Q,sn,?_,bc,ec⟩;have:=Has.kE (H:=H) (B++(.box kv (.mem 0 false [p.cd,p.sd,.int .i64 (pl:Nat),ld,.ptr ks 0 0])::.box ks (.mem 0 false [pd,qd])::.aP pd 1 (P.map fT)::.aP qd 2 (Q.map mM)::.aP ld 12 (L.map fp)::L.map nA)) A (by simpa only[List.append_assoc,List.cons_append] using hH)
 simpa only[List.append_assoc,List.cons_append] using this
def kH (code:List aO) (pl:Nat) (e:Bool):List iO→Wk→Wk
 |[],w=>w
 |t::ts,w=>if(bU code pl e (code.length+1) w t).2=true then(bU code pl e (code.length+1) w t).1 else kH code pl e ts (bU code pl e (code.length+1) w t).1
def jv (n:Nat) (dn:Bool) (a7:vd):Wk:=⟨List.replicate n false,dn,a7,[]⟩
theorem rm (code:List aO) (pl:Nat) (e:Bool):∀(l:List iO) (w:Wk),Good code w (kH code pl e l w)
 |[],w=>.refl
 |t::ts,w=>by
  unfold kH
  split
  ·exact cu ..
  ·exact(cu ..).trans (rm code pl e ts _)
theorem tf {N ks kv:Nat} {S s0:St} {H:List bt} {p:Pg} {pl:Nat} {ld:D} {L:List VL} {i:Nat} {l:VL} {e:Bool} (hF:S.flr≤N) (hp:p.ok) (hR:bz p) (iq:pl≤1099511627776) (hl:L[i]?=some l) (z6:∀t∈l.cT,t.pc<p.code.length) (nu:l.cT.length≤1048576) (hM:MH [] N S s0 ks kv p pl ld L H):
  ∃r ai,Ev pv 64 [.ptr kv 0 0,.int .i64 (i:Nat),.bool e] s0 r ai∧∃rd,r=.tup [.agg (aU (kH p.code pl e l.cT (jv p.code.length l.dn l.a7)).dn (kH p.code pl e l.cT (jv p.code.length l.dn l.a7)).a7 .nul),rd]∧MH [.aP rd 11 ((kH p.code pl e l.cT (jv p.code.length l.dn l.a7)).rdy.map aN)] N S ai ks kv p pl ld L H:=by
 obtain⟨pd,qd,P,Q,sn,hH,bc,ec⟩:=hM;have hcl:=hR.cl;have gJ:=tC hl;have hil:=bH hl;generalize hW:kH p.code pl e l.cT (jv p.code.length l.dn l.a7)=W at*;obtain⟨dn,a7,td,cT⟩:=l;simp only at hW z6 nu;dsimp only[u4] at hH;refine Ev.il rfl XX rfl rfl rfl ?_;dsimp only[u3,u4,List.length,Nat.reduceSub,Nat.reduceAdd,w1,w2];change ab _ _ _ _ s0 _;refine qq<|qj fun K hK=>qa hH fun k6 st Me hH=>?_;refine qm ?_;refine qe hK<|qq<|qj fun K hK=>qm ?_;refine qg ?_;refine qp (o:=3) ?_;refine ql hH bF ?_;refine qm ?_;refine qi hH rH fun Vw Qi=>?_;refine aa.tS hH rfl (ev rfl) (by assumption) (by exact rH) (by assumption) rfl (by dsimp only[Fr.put,u1,u2]<;>rfl) ?_;refine qa hH fun k8 st Rx hH=>?_;refine qS hH aB fun st hH=>?_;dsimp only[u2,u1,u3,u4,setMany,u5,u6,D.cells,Nat.reduceAdd,aH,aN,aU,aF,fp] at hH;refine qe hK<|qq<|qj fun K hK=>qp (o:=0) ?_;refine ql hH aB ?_;refine qp (o:=1) ?_;refine aa.aT (m:=10) hH rfl (ev rfl) (by exact aB) (by dsimp only[List.drop_succ_cons,List.drop_zero,List.take_succ_cons,List.take_zero,aH,aN,aU,aF,fp]<;>rfl) rfl rfl (by dsimp only[Fr.put,u1,u2]<;>rfl) ?_;refine aa.go (d:=.agg (aU dn a7 .nul)) (st1:=_) rfl rfl rfl (by dsimp only[Fr.put,u1,u2]<;>rfl) ?_;refine qa hH fun k9 st U2 hH=>?_;refine qS hH aB fun st hH=>?_;dsimp only[u2,u1,u3,u4,setMany,u5,u6,D.cells,Nat.reduceAdd,aH,aN,aU,aF,fp] at hH;refine qe hK<|qq<|qj fun K hK=>qm ?_;refine aa.gd (qs:=[(0,_),(2,_)]) rfl rfl rfl rfl ⟨rfl,(ev rfl),(by rfl),rfl,(ev rfl),(by rfl),trivial⟩ (by intro q hq;simp only[List.mem_cons,List.not_mem_nil,or_false] at hq;rcases hq with rfl|rfl<;>exact⟨rfl,by exact Nat.le_of_ble_eq_true rfl⟩) (by show List.foldl _ [_,_,_] _=_;dsimp only[List.foldl_cons,List.foldl_nil,u2,u1]<;>rfl) (by dsimp only[Fr.put,u1,u2]<;>rfl) ?_;refine qb hH fun k27 st aa2 hH=>?_;refine qm ?_;refine qe hK ?_;have cF:=hH;refine qq<|qj fun K hK=>qm ?_;refine qg ?_;refine qp (o:=4) ?_;refine ql hH gO ?_;obtain⟨_,st,aK,rfl,pd,qd,P,Q,hH,bc⟩:=oz [_,_,_,_,_] hF bc hH;dsimp only[u3,u4] at hH;refine qv aK ?_;refine qe hK ?_;clear cF;rw[ec] at bc;have hH:=Has.kE [_,_,_,_] [_] hH;have hH:=Has.kE [_,_,_,_,_] [_,_,_] hH;have hH:=Has.kE [_,_,_] [_,_,_] hH;have hH:=Has.kE [_] [_,_,_] (hH.d_ 11);dsimp only[u3,u4] at hH;have V9:=hH.rows (B_ [_,_,_,_,_,_,_,_,_,_] rfl hl);have ZA:=rm p.code pl e cT (jv p.code.length dn a7);refine qq<|qq<|qj fun K hK=>qp (o:=11) ?_;refine ql hH YF ?_;refine aa.PA rfl (ev rfl) V9 rfl (by dsimp only[Fr.put,u1,u2]<;>rfl) ?_;simp only[List.length_map];refine qm ?_;refine qe hK<|ab.block<|ab.loop (fun mm fr st=>∃(j:Nat) (w:Wk) (rest:List iO) (rd pd qd:D) (P Q:List Nat),fr.clean=⟨37,[.ptr kv 0 0,.int .i64 (i:Nat),.bool e,cw fr 3,cw fr 4,cw fr 5,.ptr k6 0 0,.nul,.ptr k8 0 0,.ptr k9 0 0,.ptr k27 0 0,cw fr 11,cw fr 12,cw fr 13,cw fr 14,cw fr 15,cw fr 16,cw fr 17,cw fr 18,cw fr 19,cw fr 20,cw fr 21,cw fr 22,cw fr 23,cw fr 24,cw fr 25,cw fr 26,cw fr 27,cw fr 28,cw fr 29,cw fr 30,cw fr 31,cw fr 32,cw fr 33,td,.int .i64 (cT.length:Nat),.int .i64 (j:Nat)],[]⟩∧Has N S st (.box kv (.mem 0 false [p.cd,p.sd,.int .i64 (pl:Nat),ld,.ptr ks 0 0])::.box k27 (.mem 0 false [.ptr k9 0 0,rd,.bool e])::.box k9 (.mem 0 false (aU w.dn w.a7 .nul))::.aP rd 11 (w.rdy.map aN)::.box ks (.mem 0 false [pd,qd])::.aP pd 1 (P.map fT)::.aP qd 2 (Q.map mM)::.box k8 (.mem 0 false (aU dn a7 td))::.box k6 (.mem 0 false (aU false mq .nul))::.aP ld 12 (L.map fp)::(L.map nA++H))∧(j+mm=cT.length)∧(rest=cT.drop j)∧(kH p.code pl e rest w=W)∧(w.seen.length=p.code.length)∧(w.rdy.length+w.seen.count false≤1048576)∧(cV P Q w.seen)) (cT.length) ?_ ?_
 ·exact⟨0,jv p.code.length dn a7,cT,.nul,_,_,_,_,rfl,hH,by omega,rfl,hW,by simp[jv],by(have:=List.count_le_length (a:=false) (l:=(jv p.code.length dn a7).seen);simp[jv] at this⊢;omega),bc⟩
 rintro mm fr st ⟨j,w,rest,rd,pd,qd,P,Q,hfr,hH,hj,ku,hex,iT,oZ,bc⟩;rw[hfr];clear hfr;generalize cw fr=ee;clear fr;refine qq<|qj fun K hK=>qg ?_;refine qe hK ?_;have V9:=hH.rows (B_ [_,_,_,_,_,_,_,_,_,_] rfl hl);refine qq ?_;refine ab.cond (by rfl) (fun hlt=>?_) (fun hlt=>?_)<;>try simp only[decide_eq_true_eq,decide_eq_false_iff_not] at hlt
 ·refine ab.skip ?_;have jq:j<cT.length:=by omega
  obtain⟨t,ht⟩:∃t,cT[j]?=some t:=⟨cT[j]'jq,List.getElem?_eq_getElem _⟩
  have La:=lx ht;have SD:=z6 t (List.mem_of_getElem? ht)
  have q_:rest=t::cT.drop (j+1):=by
   rw[ku,List.drop_eq_getElem_cons jq]
   congr 1
   exact Option.some.inj ((List.getElem?_eq_getElem _).symm.trans ht)
  have wR:=List.count_le_length (a:=false) (l:=w.seen);have Qx:=cu p.code pl e (p.code.length+1) w t;rw[q_] at hex;have hex:(if(bU p.code pl e (p.code.length+1) w t).2=true then(bU p.code pl e (p.code.length+1) w t).1 else kH p.code pl e (cT.drop (j+1)) (bU p.code pl e (p.code.length+1) w t).1)=W:=hex;refine qq<|ab.block<|qq<|qj fun K hK=>aa.R9 rfl (ev rfl) (ev rfl) V9 rfl rfl La (fun _=>(ah rfl _)) (fun Y5 S0=>?_);refine qR ?_;refine qa hH fun k12 st aa7 hH=>?_;dsimp only[u2,u1,u3,u4,setMany,u5,u6,D.cells,Nat.reduceAdd,aH,aN,aU,aF,fp] at hH;refine qS hH aB fun st hH=>?_;dsimp only[u2,u1,u3,u4,setMany,u5,u6,D.cells,Nat.reduceAdd,aH,aN,aU,aF,fp] at hH;refine qe hK<|qq<|qj fun K hK=>qm ?_;refine qm ?_;refine aa.aT (m:=11) hH rfl (ev rfl) (by exact aB) (by dsimp only[List.drop_succ_cons,List.drop_zero,List.take_succ_cons,List.take_zero,aH,aN,aU,aF,fp]<;>rfl) rfl rfl (ah rfl _) ?_;have hH:=hH.drop 1;obtain⟨_,st,aK,rfl,hT⟩:=LU (ks:=ks) (kv:=kv) (kw:=k27) (kl:=k9) (S:=S) (H:=H) (ld:=ld) (e:=e) hF hp hR iq (p.code.length+1) w t _ _ SD iT (by omega) oZ ⟨rd,pd,qd,P,Q,hH,bc⟩;refine qv aK ?_;refine qe hK ?_;generalize bU p.code pl e (p.code.length+1) w t=R1 at*;obtain⟨w1,b1⟩:=R1;obtain⟨cW,bj,bP,fg⟩:=Qx;simp only at cW bj bP fg hT hex;obtain⟨rd,pd,qd,P,Q,hH,bc⟩:=hT;have n9:w1.seen.length=p.code.length:=cW.trans iT
  cases b1 with
  |true=>
   rw[if_pos rfl] at hex;subst hex;refine qB ?_;refine ab.exit ?_;have hH:=Has.kE [_,_,_,_,_,_,_] [_,_] hH;dsimp only[u3,u4] at hH;have px:=hH;have Bm:=j9 hH rH;have Lb:=hH.oG gO (k:=k9) rfl;change ab _ _ _ _ _ _;refine qq ?_;generalize hK:aI _ _ _ _=K;refine ab.oU rfl ?_;refine bL.cons ?_;refine aa.aT (m:=12) hH rfl (ev rfl) (by exact gO) (by dsimp only[List.drop_succ_cons,List.drop_zero,List.take_succ_cons,List.take_zero,aH,aN,aU,aF,fp]<;>rfl) rfl rfl (ah rfl _) ?_;refine aa.nil ⟨rfl,?_⟩;refine bL.cons ?_;refine qm ?_;refine aa.nil ⟨rfl,?_⟩;refine bL.cons ?_;refine qg ?_;refine aa.nil ⟨rfl,?_⟩;refine bL.cons ?_;refine qp (o:=1) ?_;refine aa.nil ⟨rfl,?_⟩;refine bL.cons ?_;refine ql hH eQ ?_;refine aa.nil ⟨rfl,?_⟩;refine bL.cons ?_;refine qS hH bF fun st hH=>?_;dsimp only[u2,u1,u3,u4,setMany,u5,u6,D.cells,Nat.reduceAdd,aH,aN,aU,aF,fp] at hH;refine aa.nil ⟨by exact Bool.and_eq_true_iff.2 ⟨fJ rfl rfl rfl (px.at eQ) (hH.at eQ) (px.at eQ) (by simp only[refs,D.ref];omega),rfl⟩,?_⟩;refine bL.cons ?_;refine qm ?_;refine aa.nil ⟨rfl,?_⟩;refine bL.nil ?_;subst hK;refine ab.ret ⟨rx,_,_,_,hH.kM rfl bF rfl rfl,rfl,rd,rfl,pd,qd,P,Q,_,?_,bc,n9⟩;exact((Has.kE [_,_,_] [_] (hH.drop 2)).erase 2).erase 2
  |false=>
   rw[if_neg (by decide)] at hex;refine qC ?_;refine ab.skip<|qj fun K hK=>qA ?_;refine qm ?_;refine qe hK ?_;exact⟨mm-1,by omega,⟨j+1,w1,cT.drop (j+1),rd,pd,qd,P,Q,rfl,hH,by omega,rfl,hex,n9,by omega,bc⟩⟩
 ·refine ab.exit ?_;have uz:rest=[]:=by rw[ku,List.drop_eq_nil_iff];omega
  subst uz;have hex:w=W:=hex;subst hex;have hH:=Has.kE [_,_,_,_,_,_,_] [_,_] hH;dsimp only[u3,u4] at hH;have px:=hH;have Bm:=j9 hH rH;have Lb:=hH.oG gO (k:=k9) rfl;change ab _ _ _ _ _ _;refine qq ?_;generalize hK:aI _ _ _ _=K;refine ab.oU rfl ?_;refine bL.cons ?_;refine aa.aT (m:=12) hH rfl (ev rfl) (by exact gO) (by dsimp only[List.drop_succ_cons,List.drop_zero,List.take_succ_cons,List.take_zero,aH,aN,aU,aF,fp]<;>rfl) rfl rfl (ah rfl _) ?_;refine aa.nil ⟨rfl,?_⟩;refine bL.cons ?_;refine qm ?_;refine aa.nil ⟨rfl,?_⟩;refine bL.cons ?_;refine qg ?_;refine aa.nil ⟨rfl,?_⟩;refine bL.cons ?_;refine qp (o:=1) ?_;refine aa.nil ⟨rfl,?_⟩;refine bL.cons ?_;refine ql hH eQ ?_;refine aa.nil ⟨rfl,?_⟩;refine bL.cons ?_;refine qS hH bF fun st hH=>?_;dsimp only[u2,u1,u3,u4,setMany,u5,u6,D.cells,Nat.reduceAdd,aH,aN,aU,aF,fp] at hH;refine aa.nil ⟨by exact Bool.and_eq_true_iff.2 ⟨fJ rfl rfl rfl (px.at eQ) (hH.at eQ) (px.at eQ) (by simp only[refs,D.ref];omega),rfl⟩,?_⟩;refine bL.cons ?_;refine qm ?_;refine aa.nil ⟨rfl,?_⟩;refine bL.nil ?_;subst hK;refine ab.ret ⟨rx,_,_,_,hH.kM rfl bF rfl rfl,rfl,rd,rfl,pd,qd,P,Q,_,?_,bc,iT⟩;exact((Has.kE [_,_,_] [_] (hH.drop 2)).erase 2).erase 2
end Go.Proofs.YtbdnabmmlbiomaaGreat
