/- own -/
import Derived.Test.YtappgjdiplibbaaGreatYM1
import Derived.Test.YtappgjdiplibbaaGreatProg
import Derived.WalkKit
import Derived.BigCall
import Derived.BigQuiet
import Derived.BigRegion
import Derived.StillTailTactics
import Derived.Deep.RegionWith
import Derived.Shelf.RegionOpenPlain
import Derived.Lib.Walk
import Derived.Lib.SliceRun
import Derived.Lib.JoinLaws
import Derived.Lib.AppendZeros
import Derived.Lib.AppendZerosOnto
import Derived.Lib.Overlaps
import Derived.Laws.Externs
import Derived.Laws.IdiomCopy
import Derived.Laws.NewBlocks
set_option linter.all false
namespace Go.Proofs.YtappgjdiplibbaaGreat
open Go.Shelf Go.RowKit Go.Lib
theorem ins_copyI {P:Program} (w:World) {ops:Array Oper} {rest:List Oper} {o:Oper} {a:Act} {Q:Exit->Act->World->Prop} (hgd:o.guard=none) (d s:Operand) (t t':TypeId)
  (ho:o.op=.call {callee:=.builtin .copy,args:=#[d,s],argTypes:=#[t,t']}) (v u:Value) (hd:a.eval d=v) (hs:a.eval s=u) {v':Value} {w':World}
  (hr:(Builtin.copy_ #[t,t'] o.type #[v,u]).run P w=.ok v' w') (h:wpList P ops Q rest (a.put o.dst v') w'):wpList P ops Q (o::rest) a w:=
 wpList_plain hgd fun _ hK=>by
  refine ?_
  unfold Oper.wp execOp
  simp only[ho,resolve,invoke,builtin,Sem.run_bind,Sem.run_pure,Result.andThen_ok,List.map_toArray,List.map_cons,List.map_nil,hd,hs,hr]
  exact hK _ _ h
theorem ins_copyO {P:Program} {ops:Array Oper} {o:Oper} {a:Act} {w:World} {K:Act->World->Prop} {Q:Exit->Act->World->Prop} {E:Prop}
  (hg:o.guard=none) (d x:Operand) (dT sT:TypeId) (hop:o.op=Op.call {callee:=Callee.builtin Builtin.copy,args:=#[d,x],argTypes:=#[dT,sT]})
  (v u:Value) (hd:a.eval d=v) (hx:a.eval x=u) {v':Value} {w':World} (hr:(Builtin.copy_ #[dT,sT] o.type #[v,u]).run P w=.ok v' w') (hK:K (a.put o.dst v') w'):
  if Region.wanted o (yielded ops a.tmps)=true then Oper.wp P o a w K Q else E:=by
 have hw:Region.wanted o (yielded ops a.tmps)=true:=by simp[Region.wanted,hg]
 rw[if_pos hw]
 unfold Oper.wp
 simp[execOp,hop,resolve,invoke,builtin,hd,hx,hr,Result.andThen]
 exact hK
theorem run_copy2 {P:Program} (w:World) (dT sT ty elem:TypeId) (b o dLen dCap:Nat) (a:Addr) (sLen sCap:Nat) (cs:List Value)
  (hu:P.underlying dT=some (.slice elem)) (hs:(P.info? elem).map (·.size)=some 2) (k:Nat) (hk:k=Nat.min sLen dLen) (hn:cs.length=k*2)
  (hsrc:∀j v,cs[j]?=some v->w.cell? (a.add j)=some v) (hc:∀j,j<cs.length->(w.cell? ⟨b,o+j,none⟩).isSome=true) (hf:∀j,j<cs.length->w.frozen? ⟨b,o+j,none⟩=false) (h1:∀v∈cs,v.oneCell'=true):
  (Builtin.copy_ #[dT,sT] ty #[.slice (some ⟨b,o,none⟩) dLen dCap,.slice (some a) sLen sCap]).run P w=.ok (goInt k) (w.setCells b o cs):=by
 have hl:=run_loadCells_list (P:=P) w a cs hsrc
 have hst:=run_storeCells_cells (P:=P) b o cs 0 w (by simpa using hc) (by simpa using hf) h1
 cases hq:P.info? elem with
 |none=>simp[hq] at hs
 |some i=>
  have hi:i.size=2:=by simpa[hq] using hs
  simp[Builtin.copy_,run_underlying hu,Builtin.lenOf,Builtin.firstCells,sizeOf,typeInfo,hq,hi,<-hk,<-hn,hl,hst]
theorem isSome_set2 (b:Nat) (vs:List Value) (o:Nat) (w:World) (h:∀j,j<vs.length->(w.cell? ⟨b,o+j,none⟩).isSome=true) (k:Nat) (hk:(w.cell? ⟨b,k,none⟩).isSome=true):((w.setCells b o vs).cell? ⟨b,k,none⟩).isSome=true:=by
 by_cases hin:o<=k/\k<o+vs.length
 ·have:=World.cell?_setCells_in b vs o w h (k-o) (by omega)
  rw[show o+(k-o)=k by omega] at this
  rw[this];rfl
 ·rw[World.cell?_setCells_out b vs o w ⟨b,k,none⟩ (fun _ _=>by show k<o\/o+vs.length<=k;omega)]
  exact hk
theorem rowInfo:(Tryz.prog.info? 142).map (·.size)=some 2:=by kernel_rfl
set_option maxHeartbeats 4000000 in
set_option maxRecDepth 100000 in
theorem ins_shift (b off n c i vb voff vc:Nat) (cs vs:List Value) (w:World) (hi:i<n) (hroom:n+1<=c) (hc63:n+1<=9223372036854775807) (hvb:vb≠b)
  (hcl:cs.length=n*2) (hvl:vs.length=1*2)
  (hcs:∀j v,cs[j]?=some v->w.cell? ⟨b,off+j,none⟩=some v) (hsp:∀j,j<(n+1)*2->(w.cell? ⟨b,off+j,none⟩).isSome=true) (hfz:∀j,j<(n+1)*2->w.frozen? ⟨b,off+j,none⟩=false)
  (hvs:∀j v,vs[j]?=some v->w.cell? ⟨vb,voff+j,none⟩=some v) (h1c:∀v∈cs,v.oneCell'=true) (h1v:∀v∈vs,v.oneCell'=true)
  (tA tB:TypeId) (kA kB:Nat) (hsa:w.shape? vb=some (tA,kA)) (hsb:w.shape? b=some (tB,kB)) (hkB:kB≠0) (hfa:w.frozen? ⟨vb,voff,none⟩=false) (hfe:w.frozen? ⟨vb,kA,none⟩=false):
  Calls Tryz.prog 69 #[.slice (some ⟨b,off,none⟩) n c,.int .i64 i,.slice (some ⟨vb,voff,none⟩) 1 vc] w fun e w'=>
   e=.returned (.slice (some ⟨b,off,none⟩) (n+1) c)/\w'=(w.drew.setCells b (off+(i+1)*2) (cs.drop (i*2))).setCells b (off+i*2) vs:=by
 have hz2:¬((i:Int)=(n:Int)):=by omega
 have hov:∀lb cb,(callFunc 92 #[.slice (some ⟨vb,voff,none⟩) 1 vc,.slice (some ⟨b,off+(i+1)*2,none⟩) lb cb]).run Tryz.prog w=.ok (.value (.bool false)) w:=fun lb cb=>by
  rw[run_callFunc_extern Tryz.func92 (by kernel_rfl) (by kernel_rfl) (by kernel_rfl) (e:=Extern.SlicesOverlaps.overlaps #[138,138] #[4]) (by kernel_rfl),
   Lib.run_overlaps_apart w 138 4 142 Tryz.underlying138 2 Tryz.sizeOf142 ⟨vb,voff,none⟩ ⟨b,off+(i+1)*2,none⟩ 1 vc lb cb hvb tA tB kA kB hsa hsb hkB hfa hfe]
  rfl
 have hdl:(cs.drop (i*2)).length=(n-i)*2:=by rw[List.length_drop,hcl,Nat.sub_mul]
 have hw1:IntKind.i64.wrap ((i:Int)+1)=(i:Int)+1:=by rw[IntKind.wrap_i64];omega
 have hb1:(0:Int)<=(i:Int)+1:=by omega
 have hin:i<=n:=by omega
 have htn:((i:Int)+1).toNat=i+1:=by omega
 have hb2:¬(c=i+1):=by omega
 have hb3:(i:Int)<=(n:Int)+1:=by omega
 have hb4:¬(c=i):=by omega
 have hcp1:∀ty dc sc,(Builtin.copy_ #[138,138] ty #[.slice (some ⟨b,off+(i+1)*2,none⟩) (n-i) dc,.slice (some ⟨b,off+i*2,none⟩) (n+1-i) sc]).run Tryz.prog w.drew=.ok (goInt (n-i:Nat)) (w.drew.setCells b (off+(i+1)*2) (cs.drop (i*2))):=fun ty dc sc=>
  run_copy2 w.drew _ _ ty 142 b (off+(i+1)*2) (n-i) dc ⟨b,off+i*2,none⟩ (n+1-i) sc (cs.drop (i*2)) Tryz.underlying138 rowInfo (n-i) (by simp only[Nat.min_def];split<;>omega) hdl
   (fun j v hj=>by rw[Addr.add_lit,Nat.add_assoc];exact hcs (i*2+j) v (by rwa [List.getElem?_drop] at hj))
   (fun j hj=>by rw[Nat.add_assoc];exact hsp _ (by omega)) (fun j hj=>by rw[Nat.add_assoc];exact hfz _ (by omega)) (fun v hv=>h1c v (List.mem_of_mem_drop hv))
 obtain⟨W1,hW1⟩:∃W1,W1=w.drew.setCells b (off+(i+1)*2) (cs.drop (i*2)):=⟨_,rfl⟩
 have hsp1:∀k,k<(n+1)*2->(W1.cell? ⟨b,off+k,none⟩).isSome=true:=fun k hk=>by
  rw[hW1]
  exact isSome_set2 b _ _ _ (fun j hj=>by rw[Nat.add_assoc];exact hsp _ (by omega)) _ (hsp k hk)
 have hcp2:∀(W:World),(∀x,W.cell? x=W1.cell? x)->(∀x,W.frozen? x=W1.frozen? x)->∀ty dc,(Builtin.copy_ #[138,138] ty #[.slice (some ⟨b,off+i*2,none⟩) (n+1-i) dc,.slice (some ⟨vb,voff,none⟩) 1 vc]).run Tryz.prog W=.ok (goInt (1:Nat)) (W.setCells b (off+i*2) vs):=fun W hWc hWf ty dc=>
  run_copy2 W _ _ ty 142 b (off+i*2) (n+1-i) dc ⟨vb,voff,none⟩ 1 vc vs Tryz.underlying138 rowInfo 1 (by simp only[Nat.min_def];split<;>omega) hvl
   (fun j v hj=>by
    rw[Addr.add_lit,hWc,hW1,World.cell?_setCells_out b _ _ _ _ (fun h _=>absurd h hvb)]
    exact hvs j v hj)
   (fun j hj=>by rw[hWc,Nat.add_assoc];exact hsp1 _ (by omega)) (fun j hj=>by rw[hWf,hW1,World.frozen?_setCells,Nat.add_assoc];exact hfz _ (by omega)) h1v
 rw[<-hW1] at hcp1
 have mixed:Tryz.prog.follows Departure.mixedOrders=true:=by kernel_rfl
 have u250:=run_underlying Tryz.underlying138
 have z249:=Tryz.sizeOf142
 go_enter Tryz.func69,Tryz.ntmps69
 go_wp2_with (simp only[hov])
 go_region_law_o (refine ins_copyO rfl _ _ 138 138 rfl _ _ (by simp[Act.eval,Act.put]) (by simp[Act.eval,Act.put]) (hcp1 _ _ _) ?_)
 go_wp2_with (at_builtin;refine ins_copyI _ rfl _ _ 138 138 rfl _ _ rfl rfl (hcp2 _ (fun _=>rfl) (fun _=>rfl) _ _) ?_)
 go_ret
 exact⟨rfl,rfl⟩
set_option maxHeartbeats 4000000 in
set_option maxRecDepth 100000 in
theorem ins_grow (b off n c i vb voff vc:Nat) (cs vs:List Value) (w:World) (hi:i<n) (hnc:n<=c) (hroom:c<n+1) (hbig:(n+1)*24<=140737488355328)
  (hcl:cs.length=n*2) (hvl:vs.length=1*2)
  (hcs:∀j v,cs[j]?=some v->w.cell? ⟨b,off+j,none⟩=some v)
  (hvs:∀j v,vs[j]?=some v->w.cell? ⟨vb,voff+j,none⟩=some v) (h1c:∀v∈cs,v.oneCell'=true) (h1v:∀v∈vs,v.oneCell'=true):
  Calls Tryz.prog 69 #[.slice (some ⟨b,off,none⟩) n c,.int .i64 i,.slice (some ⟨vb,voff,none⟩) 1 vc] w fun e w'=>
   ∃(G:Nat) (ROW:Array Value),e=.returned (.slice (some ⟨w.heap.size,0,none⟩) (n+1) G)/\n+1<=G/\G*2<=ROW.size/\(∀(j:Nat) (v:Value),(cs.take (i*2))[j]?=some v->ROW[j]?=some v)/\
   w'=(((w.alloc (.cells ROW 142)).drew.setCells w.heap.size (i*2) vs).drew).setCells w.heap.size ((i+1)*2) (cs.drop (i*2)):=by
 obtain⟨i0,hi0⟩:∃i0,Tryz.prog.info? 142=some i0:=by
  have:=rowInfo
  cases h:Tryz.prog.info? 142 with
  |none=>rw[h] at this;cases this
  |some i=>exact⟨i,rfl⟩
 have hzs:i0.size=2:=by have:=rowInfo;rw[hi0] at this;simpa using this
 have hzz:∃z,i0.zero=some z/\z.cells.size=2/\i0.bytes=24:=by
  have h2:(match Tryz.prog.info? 142 with|some i=>(match i.zero with|some z=>z.cells.size==2 &&i.bytes==24|none=>false)|none=>false)=true:=by kernel_rfl
  rw[hi0] at h2
  dsimp only at h2
  cases hz:i0.zero with
  |none=>rw[hz] at h2;cases h2
  |some z=>rw[hz] at h2;simp only[Bool.and_eq_true,beq_iff_eq] at h2;exact⟨z,rfl,h2⟩
 obtain⟨z,hz0,hzc,hzb⟩:=hzz
 have hz2:¬((i:Int)=(n:Int)):=by omega
 have hz3:(c:Int)<(n:Int)+1:=by omega
 have hbw:b<w.heap.size:=block_lt_of_cell (hcs 0 _ (List.getElem?_eq_getElem (by omega)))
 have hvw:vb<w.heap.size:=block_lt_of_cell (hvs 0 _ (List.getElem?_eq_getElem (by omega)))
 have hkk:(n:Int)+1-(i:Int)=((n+1-i:Nat):Int):=by omega
 have hik:i+(n+1-i)=n+1:=by omega
 have htl:(cs.take (i*2)).length=i*2:=by rw[List.length_take];omega
 have hold:(Builtin.firstCells i0.size i (.slice (some ⟨b,off,none⟩) i c)).run Tryz.prog w.drew=.ok (cs.take (i*2)).toArray w.drew:=by
  rw[hzs]
  exact run_firstCells_some w.drew 2 i ⟨b,off,none⟩ i c (cs.take (i*2)) htl (fun j v hj=>by
   rw[Addr.add_lit]
   rw[List.getElem?_take] at hj
   split at hj
   ·exact hcs j v hj
   ·cases hj)
 have hrz:∀ty,(Builtin.append_ #[138,3] ty #[.slice (some ⟨b,off,none⟩) i c,.int .i64 ((n:Int)+1-(i:Int))]).run Tryz.prog w=
   .ok (.slice (some ⟨w.heap.size,0,none⟩) (n+1) (grownCap w (n+1) c 142)) (w.drew.alloc (.cells ((cs.take (i*2)).toArray++Builtin.zeroCells z.cells (n+1-i)++Builtin.zeroCells z.cells (grownCap w (n+1) c 142-(n+1))) 142)):=fun ty=>by
  have h:=Lib.run_append_grow_zeros w 138 3 ty 142 i0 _ .i64 .i64 Tryz.underlying138 Tryz.underlying3 hi0 hz0 (some ⟨b,off,none⟩) i c (cs.take (i*2)) hold (n+1-i) (by omega) (by omega) (by omega) (by omega) (by rw[hzb];omega) (by rw[hzb,hik];exact growslice_fits hroom hbig)
  rw[hik] at h
  rw[hkk]
  exact h
 obtain⟨G,hG⟩:∃G,G=grownCap w (n+1) c 142:=⟨_,rfl⟩
 obtain⟨ROW,hROW⟩:∃ROW:Array Value,ROW=(cs.take (i*2)).toArray++Builtin.zeroCells z.cells (n+1-i)++Builtin.zeroCells z.cells (G-(n+1)):=⟨_,rfl⟩
 rw[<-hG] at hrz
 rw[<-hROW] at hrz
 have hGn:n+1<=G:=by rw[hG];exact grownCap_ge w _ _ _
 have hRl:ROW.size=G*2:=by
  rw[hROW]
  simp[Builtin.zeroCells,hzc]
  omega
 have hR0:∀j v,(cs.take (i*2))[j]?=some v->ROW[j]?=some v:=fun j v hj=>by
  have hjl:j<(cs.take (i*2)).length:=by
   rcases Nat.lt_or_ge j (cs.take (i*2)).length with h|h
   ·exact h
   ·rw[List.getElem?_eq_none h] at hj;cases hj
  rw[hROW,Array.append_assoc,Array.getElem?_append_left (by simpa using hjl)]
  simpa using hj
 obtain⟨W1,hW1⟩:∃W1,W1=w.drew.alloc (.cells ROW 142):=⟨_,rfl⟩
 rw[<-hW1] at hrz
 have hN:∀j,j<(n+1)*2->(W1.cell? ⟨w.heap.size,j,none⟩).isSome=true:=fun j hj=>by
  rw[hW1,World.cell?_alloc_at (w:=w.drew) ROW _ w.heap.size j rfl,Array.getElem?_eq_getElem (by omega)];rfl
 have hNf:∀j,W1.frozen? ⟨w.heap.size,j,none⟩=false:=fun j=>by rw[hW1];exact World.frozen?_alloc_at (w:=w.drew) ROW _ w.heap.size j rfl
 have hOb:∀j v,w.cell? ⟨b,j,none⟩=some v->W1.cell? ⟨b,j,none⟩=some v:=fun j v h=>by rw[hW1,World.cell?_alloc_past (w:=w.drew) _ b j hbw];exact h
 have hOv:∀j v,w.cell? ⟨vb,j,none⟩=some v->W1.cell? ⟨vb,j,none⟩=some v:=fun j v h=>by rw[hW1,World.cell?_alloc_past (w:=w.drew) _ vb j hvw];exact h
 have hcpA:∀(W:World),(∀x,W.cell? x=W1.cell? x)->(∀x,W.frozen? x=W1.frozen? x)->∀ty dc,(Builtin.copy_ #[138,138] ty #[.slice (some ⟨w.heap.size,i*2,none⟩) (n+1-i) dc,.slice (some ⟨vb,voff,none⟩) 1 vc]).run Tryz.prog W=.ok (goInt (1:Nat)) (W.setCells w.heap.size (i*2) vs):=fun W hWc hWf ty dc=>
  run_copy2 W _ _ ty 142 w.heap.size (i*2) (n+1-i) dc ⟨vb,voff,none⟩ 1 vc vs Tryz.underlying138 rowInfo 1 (by simp only[Nat.min_def];split<;>omega) hvl
   (fun j v hj=>by rw[Addr.add_lit,hWc];exact hOv _ v (hvs j v hj))
   (fun j hj=>by rw[hWc];exact hN _ (by omega)) (fun j hj=>by rw[hWf];exact hNf _) h1v
 have hG63:G<=9223372036854775807:=by
  have:=grownCap_le_maxLen w (n+1) c 142 (by unfold maxLen;omega)
  rw[<-hG] at this
  unfold maxLen at this
  omega
 have hGi:¬(G=i):=by omega
 have hGim:¬(G=i+1):=by omega
 have hci:¬(c=i):=by omega
 have hbN:b≠w.heap.size:=by omega
 have hdl:(cs.drop (i*2)).length=(n-i)*2:=by rw[List.length_drop,hcl,Nat.sub_mul]
 have hcpB:∀(W:World),(∀x,W.cell? x=(W1.setCells w.heap.size (i*2) vs).cell? x)->(∀x,W.frozen? x=(W1.setCells w.heap.size (i*2) vs).frozen? x)->∀ty dc sc,(Builtin.copy_ #[138,138] ty #[.slice (some ⟨w.heap.size,(i+1)*2,none⟩) (n-i) dc,.slice (some ⟨b,off+i*2,none⟩) (n-i) sc]).run Tryz.prog W=.ok (goInt (n-i:Nat)) (W.setCells w.heap.size ((i+1)*2) (cs.drop (i*2))):=fun W hWc hWf ty dc sc=>
  run_copy2 W _ _ ty 142 w.heap.size ((i+1)*2) (n-i) dc ⟨b,off+i*2,none⟩ (n-i) sc (cs.drop (i*2)) Tryz.underlying138 rowInfo (n-i) (by simp) hdl
   (fun j v hj=>by
    rw[Addr.add_lit,hWc,World.cell?_setCells_out _ _ _ _ _ (fun h _=>absurd h hbN),Nat.add_assoc]
    exact hOb _ v (hcs (i*2+j) v (by rwa [List.getElem?_drop] at hj)))
   (fun j hj=>by rw[hWc];exact isSome_set2 _ _ _ _ (fun t ht=>hN _ (by omega)) _ (hN _ (by omega)))
   (fun j hj=>by rw[hWf,World.frozen?_setCells];exact hNf _) (fun v hv=>h1c v (List.mem_of_mem_drop hv))
 subst hW1
 have hE1:∀x,((w.alloc (.cells ROW 142)).drew).cell? x=(w.drew.alloc (.cells ROW 142)).cell? x:=fun x=>rfl
 have hE2:∀x,((w.alloc (.cells ROW 142)).drew).frozen? x=(w.drew.alloc (.cells ROW 142)).frozen? x:=fun x=>rfl
 have hF1:∀x,(((w.alloc (.cells ROW 142)).drew.setCells w.heap.size (i*2) vs).drew).cell? x=((w.drew.alloc (.cells ROW 142)).setCells w.heap.size (i*2) vs).cell? x:=fun x=>rfl
 have hF2:∀x,(((w.alloc (.cells ROW 142)).drew.setCells w.heap.size (i*2) vs).drew).frozen? x=((w.drew.alloc (.cells ROW 142)).setCells w.heap.size (i*2) vs).frozen? x:=fun x=>rfl
 have hw1:IntKind.i64.wrap ((i:Int)+1)=(i:Int)+1:=by rw[IntKind.wrap_i64];omega
 have hb1:(0:Int)<=(i:Int)+1:=by omega
 have hin:i<=n:=by omega
 have htn:((i:Int)+1).toNat=i+1:=by omega
 have hb3:(i:Int)<=(n:Int):=by omega
 have mixed:Tryz.prog.follows Departure.mixedOrders=true:=by kernel_rfl
 have u250:=run_underlying Tryz.underlying138
 have u3:=run_underlying Tryz.underlying3
 have z249:=Tryz.sizeOf142
 clear hkk hik hold hROW hG
 go_enter Tryz.func69,Tryz.ntmps69
 go_wp2_with (first
  |(at_builtin;refine Lib.wpList_append_run _ rfl _ _ _ _ rfl _ _ rfl rfl _ _ (hrz _) ?_)
  |(at_builtin;refine ins_copyI _ rfl _ _ 138 138 rfl _ _ rfl rfl (hcpA _ hE1 hE2 _ _) ?_)
  |(at_builtin;refine ins_copyI _ rfl _ _ 138 138 rfl _ _ rfl rfl (hcpB _ (fun _=>rfl) (fun _=>rfl) _ _ _) ?_))
 go_region_law_o (refine ins_copyO rfl _ _ 138 138 rfl (.slice (some ⟨w.heap.size,(i+1)*2,none⟩) (n-i) (G-(i+1))) (.slice (some ⟨b,off+i*2,none⟩) (n-i) (c-i)) (by simp[Act.eval,Act.put]) (by simp[Act.eval,Act.put]) (hcpB _ hF1 hF2 3 (G-(i+1)) (c-i)) ?_)
 go_wp2
 go_ret
 exact⟨G,ROW,rfl,hGn,by omega,hR0,rfl⟩
set_option maxHeartbeats 4000000 in
set_option maxRecDepth 100000 in
theorem ins_end (base:Option Addr) (n c vb voff vc:Nat) (w w':World) (z:Value)
  (hrun:(Builtin.append_ #[138,138] 138 #[.slice base n c,.slice (some ⟨vb,voff,none⟩) 1 vc]).run Tryz.prog w=.ok z w') (hnc:n<=c) (hnil:base=none->n=0):
  Calls Tryz.prog 69 #[.slice base n c,.int .i64 n,.slice (some ⟨vb,voff,none⟩) 1 vc] w fun e w2=>e=.returned z/\w2=w':=by
 have mixed:Tryz.prog.follows Departure.mixedOrders=true:=by kernel_rfl
 have u250:=run_underlying Tryz.underlying138
 have u3:=run_underlying Tryz.underlying3
 have z249:=Tryz.sizeOf142
 cases base with
 |none=>
  have h0:=hnil rfl
  subst h0
  go_enter Tryz.func69,Tryz.ntmps69
  go_wp2_with (at_builtin;refine Lib.wpList_append_run _ rfl _ _ _ _ rfl _ _ rfl rfl _ _ hrun ?_)
  go_ret
  exact⟨rfl,rfl⟩
 |some a=>
  obtain⟨ab,ao,asp⟩:=a
  go_enter Tryz.func69,Tryz.ntmps69
  go_wp2_with (at_builtin;refine Lib.wpList_append_run _ rfl _ _ _ _ rfl _ _ rfl rfl _ _ hrun ?_)
  all_goals(go_ret;exact⟨rfl,rfl⟩)
def AtTab (tb to b off n:Nat) (w1:World) (c:Nat) (cs:List Value):Prop:=
 w1.cell? ⟨tb,to,none⟩=some (.slice (some ⟨b,off,none⟩) n c)/\w1.frozen? ⟨tb,to,none⟩=false/\tb≠b/\n<=c/\cs.length=n*2/\(∀v∈cs,v.oneCell'=true)/\
  (∀(j:Nat) (v:Value),cs[j]?=some v->w1.cell? ⟨b,off+j,none⟩=some v)/\(n+1<=c->(∀j,j<(n+1)*2->(w1.cell? ⟨b,off+j,none⟩).isSome=true)/\(∀j,j<(n+1)*2->w1.frozen? ⟨b,off+j,none⟩=false)/\∃tB kB,w1.shape? b=some (tB,kB)/\kB≠0)
set_option maxHeartbeats 4000000 in
set_option maxRecDepth 100000 in
theorem ts_mid (tb to b off n i:Nat) (key:ByteArray) (v:Int) (w:World) {R:World->Prop}
  (hfind:Calls Tryz.prog 68 #[.pointer (some ⟨tb,to,none⟩),.string key] w fun e w1=>e=.returned (.tuple #[.int .i64 i,.bool false])/\R w1)
  (hi:i<n) (hbig:(n+1)*24<=140737488355328) (hR:∀w1,R w1->∃c cs,AtTab tb to b off n w1 c cs):
  Calls Tryz.prog 40 #[.pointer (some ⟨tb,to,none⟩),.string key,.int .i64 v] w fun e w'=>e=.returned (.bool true)/\∃w1 c cs,R w1/\AtTab tb to b off n w1 c cs/\∃W2,W2=w1.alloc (.cells #[.string key,.int .i64 v] 142)/\
   ((n+1<=c/\w'=(((W2.drew.setCells b (off+(i+1)*2) (cs.drop (i*2))).setCells b (off+i*2) [.string key,.int .i64 v]).setCell ⟨tb,to,none⟩ (.slice (some ⟨b,off,none⟩) (n+1) c)))\/
   (∃(G:Nat) (ROW:Array Value),n+1<=G/\G*2<=ROW.size/\(∀(j:Nat) (v:Value),(cs.take (i*2))[j]?=some v->ROW[j]?=some v)/\
   w'=((((W2.alloc (.cells ROW 142)).drew.setCells W2.heap.size (i*2) [.string key,.int .i64 v]).drew).setCells W2.heap.size ((i+1)*2) (cs.drop (i*2))).setCell ⟨tb,to,none⟩ (.slice (some ⟨W2.heap.size,0,none⟩) (n+1) G))):=by
 have mixed:Tryz.prog.follows Departure.mixedOrders=true:=by kernel_rfl
 have u250:=run_underlying Tryz.underlying138
 have u3:=run_underlying Tryz.underlying3
 have z249:=Tryz.sizeOf142
 go_enter Tryz.func40,Tryz.ntmps40
 go_wp2_with (first|(go_at_call 68;refine hfind.mono ?_;rintro e w1 ⟨rfl,hw1⟩;obtain⟨c,cs,hat⟩:=hR w1 hw1;have hat2:=hat;obtain⟨q1,q2,q3,hnc,hcl,h1c,q4,hrm⟩:=hat))
 have hbw:b<w1.heap.size:=block_lt_of_cell (q4 0 _ (List.getElem?_eq_getElem (by omega)))
 have htw:tb<w1.heap.size:=block_lt_of_cell q1
 have hal:∀x,x≠w1.heap.size->(w1.alloc (Obj.cells #[Value.string key,Value.int IntKind.i64 v] 142)).heap[x]?=w1.heap[x]?:=fun x hx=>by
  show(w1.heap.push _)[x]?=_
  rw[Array.getElem?_push,if_neg hx]
 have hcb:∀o,(w1.alloc (Obj.cells #[Value.string key,Value.int IntKind.i64 v] 142)).cell? ⟨b,o,none⟩=w1.cell? ⟨b,o,none⟩:=fun o=>by
  simp only[World.cell?,hal b (by omega)]
 have hfb:∀o,(w1.alloc (Obj.cells #[Value.string key,Value.int IntKind.i64 v] 142)).frozen? ⟨b,o,none⟩=w1.frozen? ⟨b,o,none⟩:=fun o=>by
  simp only[World.frozen?,hal b (by omega)]
 have hct:(w1.alloc (Obj.cells #[Value.string key,Value.int IntKind.i64 v] 142)).cell? ⟨tb,to,none⟩=w1.cell? ⟨tb,to,none⟩:=by
  simp only[World.cell?,hal tb (by omega)]
 have hft:(w1.alloc (Obj.cells #[Value.string key,Value.int IntKind.i64 v] 142)).frozen? ⟨tb,to,none⟩=w1.frozen? ⟨tb,to,none⟩:=by
  simp only[World.frozen?,hal tb (by omega)]
 have hnew:(w1.alloc (Obj.cells #[Value.string key,Value.int IntKind.i64 v] 142)).heap[w1.heap.size]?=some (.cells #[Value.string key,Value.int IntKind.i64 v] 142 (0,0)):=by
  show(w1.heap.push _)[w1.heap.size]?=_
  simp
 have hcv:∀(j:Nat) x,[Value.string key,Value.int IntKind.i64 v][j]?=some x->(w1.alloc (Obj.cells #[Value.string key,Value.int IntKind.i64 v] 142)).cell? ⟨w1.heap.size,0+j,none⟩=some x:=fun j x hj=>by
  simp only[World.cell?,hnew,Nat.zero_add]
  match j,hj with
  |0,hj=>simpa using hj
  |1,hj=>simpa using hj
  |j+2,hj=>simp at hj
 by_cases hroom:n+1<=c
 ·obtain⟨q5,q6,tB,kB,q7,q8⟩:=hrm hroom
  have hsb:(w1.alloc (Obj.cells #[Value.string key,Value.int IntKind.i64 v] 142)).shape? b=some (tB,kB):=by
   rw[<-q7];simp only[World.shape?,hal b (by omega)]
  have hins:=ins_shift b off n c i w1.heap.size 0 1 cs [Value.string key,Value.int IntKind.i64 v] (w1.alloc (Obj.cells #[Value.string key,Value.int IntKind.i64 v] 142)) hi hroom (by omega) (by omega) hcl rfl
   (fun j x hj=>by rw[hcb];exact q4 j x hj) (fun j hj=>by rw[hcb];exact q5 j hj) (fun j hj=>by rw[hfb];exact q6 j hj) hcv h1c (by intro x hx;simp only[List.mem_cons,List.not_mem_nil,or_false] at hx;rcases hx with rfl|rfl<;>rfl)
   142 tB 2 kB (by simp only[World.shape?,hnew];rfl) hsb q8 (by simp only[World.frozen?,hnew];rfl) (by simp only[World.frozen?,hnew];rfl)
  generalize hW2:w1.alloc (Obj.cells #[Value.string key,Value.int IntKind.i64 v] 142)=W2 at*
  refine hins.mono ?_
  rintro e w' ⟨rfl,rfl⟩
  have t1:((W2.drew.setCells b (off+(i+1)*2) (cs.drop (i*2))).setCells b (off+i*2) [Value.string key,Value.int IntKind.i64 v]).cell? ⟨tb,to,none⟩=some (.slice (some ⟨b,off,none⟩) n c):=by
   rw[World.cell?_setCells_out _ _ _ _ _ (fun h _=>absurd h q3),World.cell?_setCells_out _ _ _ _ _ (fun h _=>absurd h q3)]
   exact hct.trans q1
  have t2:((W2.drew.setCells b (off+(i+1)*2) (cs.drop (i*2))).setCells b (off+i*2) [Value.string key,Value.int IntKind.i64 v]).frozen? ⟨tb,to,none⟩=false:=by
   rw[World.frozen?_setCells,World.frozen?_setCells]
   exact hft.trans q2
  generalize hW3:(W2.drew.setCells b (off+(i+1)*2) (cs.drop (i*2))).setCells b (off+i*2) [Value.string key,Value.int IntKind.i64 v]=W3 at*
  go_wp2
  go_ret
  exact⟨rfl,w1,c,cs,hw1,hat2,W2,hW2.symm,.inl ⟨hroom,by rw[hW3]⟩⟩
 ·have hins:=ins_grow b off n c i w1.heap.size 0 1 cs [Value.string key,Value.int IntKind.i64 v] (w1.alloc (Obj.cells #[Value.string key,Value.int IntKind.i64 v] 142)) hi hnc (by omega) hbig hcl rfl
   (fun j x hj=>by rw[hcb];exact q4 j x hj) hcv h1c (by intro x hx;simp only[List.mem_cons,List.not_mem_nil,or_false] at hx;rcases hx with rfl|rfl<;>rfl)
  have hsz2:tb<(w1.alloc (Obj.cells #[Value.string key,Value.int IntKind.i64 v] 142)).heap.size:=by
   show tb<(w1.heap.push _).size
   rw[Array.size_push];omega
  generalize hW2:w1.alloc (Obj.cells #[Value.string key,Value.int IntKind.i64 v] 142)=W2 at*
  refine hins.mono ?_
  rintro e w' ⟨G,ROW,rfl,hG1,hG2,hG3,rfl⟩
  have hal2:∀x,x≠W2.heap.size->(W2.alloc (Obj.cells ROW 142)).heap[x]?=W2.heap[x]?:=fun x hx=>by
   show(W2.heap.push _)[x]?=_
   rw[Array.getElem?_push,if_neg hx]
  have hne:tb≠W2.heap.size:=by omega
  have t1:(((W2.alloc (.cells ROW 142)).drew.setCells W2.heap.size (i*2) [.string key,.int .i64 v]).drew.setCells W2.heap.size ((i+1)*2) (cs.drop (i*2))).cell? ⟨tb,to,none⟩=some (.slice (some ⟨b,off,none⟩) n c):=by
   rw[World.cell?_setCells_out _ _ _ _ _ (fun h _=>absurd h hne)]
   show(((W2.alloc (.cells ROW 142)).drew.setCells W2.heap.size (i*2) [.string key,.int .i64 v])).cell? ⟨tb,to,none⟩=_
   rw[World.cell?_setCells_out _ _ _ _ _ (fun h _=>absurd h hne)]
   show(W2.alloc (.cells ROW 142)).cell? ⟨tb,to,none⟩=_
   refine Eq.trans ?_ (hct.trans q1)
   simp only[World.cell?,hal2 tb hne]
  have t2:(((W2.alloc (.cells ROW 142)).drew.setCells W2.heap.size (i*2) [.string key,.int .i64 v]).drew.setCells W2.heap.size ((i+1)*2) (cs.drop (i*2))).frozen? ⟨tb,to,none⟩=false:=by
   rw[World.frozen?_setCells]
   show(((W2.alloc (.cells ROW 142)).drew.setCells W2.heap.size (i*2) [.string key,.int .i64 v])).frozen? ⟨tb,to,none⟩=_
   rw[World.frozen?_setCells]
   show(W2.alloc (.cells ROW 142)).frozen? ⟨tb,to,none⟩=_
   refine Eq.trans ?_ (hft.trans q2)
   simp only[World.frozen?,hal2 tb hne]
  generalize hW3:((W2.alloc (.cells ROW 142)).drew.setCells W2.heap.size (i*2) [.string key,.int .i64 v]).drew.setCells W2.heap.size ((i+1)*2) (cs.drop (i*2))=W3 at*
  go_wp2
  go_ret
  exact⟨rfl,w1,c,cs,hw1,hat2,W2,hW2.symm,.inr ⟨G,ROW,hG1,hG2,hG3,by rw[hW3]⟩⟩
set_option maxHeartbeats 4000000 in
set_option maxRecDepth 100000 in
theorem set_found (tb to b off n i:Nat) (key:ByteArray) (v:Int) (w:World) {R:World->Prop}
  (hfind:Calls Tryz.prog 68 #[.pointer (some ⟨tb,to,none⟩),.string key] w fun e w1=>e=.returned (.tuple #[.int .i64 i,.bool true])/\R w1)
  (hi:i<n) (hn:n<4611686018427387904) (hR:∀w1,R w1->∃c u,w1.cell? ⟨tb,to,none⟩=some (.slice (some ⟨b,off,none⟩) n c)/\n<=c/\w1.cell? ⟨b,off+i*2+1,none⟩=some u/\w1.frozen? ⟨b,off+i*2+1,none⟩=false):
  Calls Tryz.prog 40 #[.pointer (some ⟨tb,to,none⟩),.string key,.int .i64 v] w fun e w'=>e=.returned (.bool false)/\∃w1,R w1/\w'=w1.setCell ⟨b,off+i*2+1,none⟩ (.int .i64 v):=by
 have mixed:Tryz.prog.follows Departure.mixedOrders=true:=by kernel_rfl
 have u250:=run_underlying Tryz.underlying138
 have u3:=run_underlying Tryz.underlying3
 have z249:=Tryz.sizeOf142
 have hin:(i:Int)<(n:Int):=by omega
 have hi0:(0:Int)<=(i:Int):=by omega
 go_enter Tryz.func40,Tryz.ntmps40
 go_wp2_with (first|(go_at_call 68;refine hfind.mono ?_;rintro e w1 ⟨rfl,hw1⟩;obtain⟨c,u,q1,hnc,q2,q3⟩:=hR w1 hw1))
 go_ret
 exact⟨rfl,w1,hw1,rfl⟩
set_option maxHeartbeats 4000000 in
set_option maxRecDepth 100000 in
theorem set_end (tb to n:Nat) (key:ByteArray) (v:Int) (w:World) {R:World->Prop}
  (hfind:Calls Tryz.prog 68 #[.pointer (some ⟨tb,to,none⟩),.string key] w fun e w1=>e=.returned (.tuple #[.int .i64 n,.bool false])/\R w1)
  (hR:∀w1,R w1->∃base c a m c' w3,w1.cell? ⟨tb,to,none⟩=some (.slice base n c)/\n<=c/\(base=none->n=0)/\
   (Builtin.append_ #[138,138] 138 #[.slice base n c,.slice (some ⟨w1.heap.size,0,none⟩) 1 1]).run Tryz.prog (w1.alloc (.cells #[.string key,.int .i64 v] 142))=.ok (.slice (some a) m c') w3/\(∃u,w3.cell? ⟨tb,to,none⟩=some u)/\w3.frozen? ⟨tb,to,none⟩=false):
  Calls Tryz.prog 40 #[.pointer (some ⟨tb,to,none⟩),.string key,.int .i64 v] w fun e w'=>e=.returned (.bool true)/\∃w1 base c a m c' w3,R w1/\w1.cell? ⟨tb,to,none⟩=some (.slice base n c)/\
   (Builtin.append_ #[138,138] 138 #[.slice base n c,.slice (some ⟨w1.heap.size,0,none⟩) 1 1]).run Tryz.prog (w1.alloc (.cells #[.string key,.int .i64 v] 142))=.ok (.slice (some a) m c') w3/\w'=w3.setCell ⟨tb,to,none⟩ (.slice (some a) m c'):=by
 have mixed:Tryz.prog.follows Departure.mixedOrders=true:=by kernel_rfl
 have u250:=run_underlying Tryz.underlying138
 have u3:=run_underlying Tryz.underlying3
 have z249:=Tryz.sizeOf142
 go_enter Tryz.func40,Tryz.ntmps40
 go_wp2_with (first|(go_at_call 68;refine hfind.mono ?_;rintro e w1 ⟨rfl,hw1⟩;obtain⟨base,c,a,m,c',w3,q1,hnc,hnil,hrun,⟨u,q2⟩,q3⟩:=hR w1 hw1))
 generalize hW2:w1.alloc (Obj.cells #[Value.string key,Value.int IntKind.i64 v] 142)=W2 at*
 refine(ins_end base n c w1.heap.size 0 1 W2 w3 (.slice (some a) m c') hrun hnc hnil).mono ?_
 rintro e w' ⟨rfl,rfl⟩
 go_wp2
 go_ret
 exact⟨rfl,w1,base,c,a,m,c',w',hw1,q1,by rw[hW2];exact hrun,rfl⟩
end Go.Proofs.YtappgjdiplibbaaGreat
