/-
 V: an evaluator of the model's code over pure values, and its soundness; no program in sight, no conditions.
-/
import GoSem.Step
import Derived.WalkKit
import Derived.WalkLawsBesides
import Derived.Laws.StructEq
import Derived.Laws.Slices
import Derived.Laws.Concat
set_option linter.unusedSimpArgs false
set_option linter.unusedVariables false
set_option linter.unusedSectionVars false
set_option linter.unnecessarySimpa false
namespace Go.V
inductive D where
 |bool (b:Bool)
 |int (k:IntKind) (n:Int)
 |str (s:List UInt8)
 |nul
 |sl (es:List D)
 |win (k aq off len s:Nat)
 |pnil
 |ptr (k aq off:Nat)
 |mp (k:Nat)
 |ep (cells:List D)
 |fn (f:Nat) (eI:List D)
 |nilfn
 |agg (cs:List D)
 |tup (ds:List D)
 |nilif
 |aY
 deriving Inhabited
inductive iu where
 |mem (aq:Nat) (arr:Bool) (cells:List D)
 |iter (s:List UInt8) (pos:Nat)
 |map (es:List (D×D))
 |dead
 deriving Inhabited
structure St where
 bs:List iu
 flr:Nat
 ro:Nat
structure Fr where
 n:Nat
 loc:List D
 tmp:List (Nat×D)
def look (t:Nat):List (Nat×D)→D
 |[]=>.aY
 |(u,d)::l=>match Nat.beq t u with
  |true=>d
  |false=>look t l
def nth (d:D):List D→Nat→D
 |[],_=>d
 |x::_,0=>x
 |_::l,i+1=>nth d l i
def Fr.get (f:Fr) (t:Nat):D:=
 match Nat.ble f.n t with
 |false=>nth .aY f.loc t
 |true=>look t f.tmp
def Fr.put (f:Fr) (t:Nat) (d:D):Fr:=
 match Nat.ble f.n t with
 |false=>⟨f.n,f.loc.set t d,f.tmp⟩
 |true=>⟨f.n,f.loc,(t,d)::f.tmp⟩
def Fr.fT (f:Fr) (t:Option Nat) (d:D):Fr:=
 match t with
 |some t=>f.put t d
 |none=>f
def Fr.clean (f:Fr):Fr:=⟨f.n,f.loc,[]⟩
def D.cells?:D→Option (List D)
 | .agg cs=>some cs
 | .tup _=>none
 | .aY=>none
 |d=>some [d]
def D.cells:D→List D
 | .agg cs=>cs
 |d=>[d]
def pR:Value→D
 | .bool b=>.bool b
 | .int k n=>.int k n
 | .string s=>.str s.data.toList
 | .slice none 0 0=>.nul
 | .pointer none=>.pnil
 | .nilFunc=>.nilfn
 | .nilIface=>.nilif
 |_=>.aY
def A4:Value→Bool
 | .agg _| .tuple _=>false
 |_=>true
def kH:List Value→Option (List D)
 |[]=>some []
 |v::l=>match A4 v with
  |true=>match kH l with
   |some r=>some (pR v::r)
   |none=>none
  |false=>none
def jG:Value→D
 | .agg cs=>match kH cs.toList with
  |some l=>.agg l
  |none=>.aY
 |v=>pR v
def Fr.ev (f:Fr):Operand→D
 | .tmp t=>f.get t
 | .const v=>jG v
 | .func g=>.fn g []
 | .global _=>.aY
mutual
def D.ref:D→Nat
 | .win k _ _ _ _=>k+1
 | .ptr k _ _=>k+1
 | .mp k=>k+1
 | .fn _ cs=>refs cs
 | .agg cs=>refs cs
 | .tup ds=>refs ds
 |_=>0
def refs:List D→Nat
 |[]=>0
 |d::ds=>max d.ref (refs ds)
end
def St.bM (st:St) (k aq:Nat):Option (Bool×List D):=
 match st.bs[k]? with
 |some (.mem v a c)=>if v=aq then some (a,c) else none
 |_=>none
def iu.cells:iu→List D
 | .mem _ _ c=>c
 |_=>[]
def St.tP (st:St) (k:Nat):Nat:=
 match st.bs[k]? with
 |some b=>refs b.cells
 |none=>0
def St.kX (st:St) (k r:Nat):Bool:=decide (st.ro≤k) &&(decide (st.flr≤k)||(decide (r≤k+1)||decide (r≤st.tP k)))
def setMany (c:List D) (off:Nat):List D→List D
 |[]=>c
 |x::xs=>setMany (c.set off x) (off+1) xs
def St.wr (st:St) (k aq off:Nat) (cs:List D):Option St:=
 match st.bM k aq with
 |some (a,c)=>if off+cs.length≤c.length∧st.kX k (refs cs)=true then some {st with bs:=st.bs.set k (.mem aq a (setMany c off cs))} else none
 |none=>none
def St.push (st:St) (b:iu):St:={st with bs:=st.bs++[b]}
inductive Mode where
 |ro|rw|ch|nw
abbrev dS:=Nat→List D→St→Option (D×St)
structure Fi where
 fn:Func
 nloc:Nat
 mode:Mode
 knul:Bool
 jK:Option (List D→St→Option (D×St)):=none
 dyn:List (Nat×List (Nat×Nat)):=[]
inductive Tr (α:Type) where
 |leaf (a:α)
 |node (k:Nat) (l r:Tr α)
def Tr.get {α:Type} (t:Nat):Tr α→α
 | .leaf a=>a
 | .node k l r=>match Nat.ble k t with
  |false=>l.get t
  |true=>r.get t
structure Pv where
 ty:Tr TypeInfo
 nty:Nat
 fs:Tr Fi
 nfs:Nat
 eqb:List Nat
 prm:List (Nat×(List D→St→Option (D×St))):=[]
def j8 (f:Nat):List (Nat×(List D→St→Option (D×St)))→Option (List D→St→Option (D×St))
 |[]=>none
 |(g,p)::l=>match Nat.beq f g with
  |true=>some p
  |false=>j8 f l
def Pv.info (P:Pv) (t:Nat):Option TypeInfo:=
 match Nat.ble P.nty t with
 |false=>some (P.ty.get t)
 |true=>none
def Pv.bY (P:Pv) (t:Nat):Option TypeDesc:=
 match P.info t with
 |some i=>match i.desc with
  | .named _ u=>match P.info u with
   |some j=>some j.desc
   |none=>none
  |d=>some d
 |none=>none
def Pv.fi (P:Pv) (f:Nat):Option Fi:=
 match Nat.ble P.nfs f with
 |false=>some (P.fs.get f)
 |true=>none
def lF:IntKind→Nat
 | .i8=>127| .i16=>32767| .i32=>2147483647| .i64=>9223372036854775807
 | .u8=>255| .u16=>65535| .u32=>4294967295| .u64=>18446744073709551615
def ub:IntKind→Nat
 | .i8=>128| .i16=>32768| .i32=>2147483648| .i64=>9223372036854775808
 |_=>0
def bj (k:IntKind) (n:Int):Int:=
 match n with
 | .ofNat m=>match Nat.ble m (lF k) with
  |true=>.ofNat m
  |false=>k.wrap (.ofNat m)
 | .negSucc m=>match Nat.ble (ub k) m with
  |false=>.negSucc m
  |true=>k.wrap (.negSucc m)
section
variable(P:Pv)
def bG (t:TypeId):Option Nat:=
 match P.info t with
 |some i=>some i.size
 |none=>none
def cU (t:TypeId) (c:List D):Option D:=
 match P.bY t with
 |none=>none
 |some (.struct _)|some (.array _ _)=>(bG P t).bind fun n=>if n≤c.length then some (.agg (c.take n)) else none
 |some _=>c.head?
def fv (t:TypeId) (d:D) (st:St):Option D:=
 match d with
 | .ptr k aq off=>(st.bM k aq).bind fun(_,c)=>cU P t (c.drop off)
 | .ep c=>cU P t c
 |_=>none
def jU (t:TypeId) (a v:D) (st:St):Option St:=
 match a,v.cells? with
 | .ptr k aq off,some cs=>if bG P t=some cs.length then st.wr k aq off cs else none
 |_,_=>none
def zk (t:TypeId):Option D:=(P.info t).bind fun i=>i.zero.map jG
def cE (t:TypeId):Option (List D):=
 match zk P t with
 |some z=>z.cells?
 |none=>none
def oj (t:TypeId) (cs:List D) (off:Nat):Option D:=
 match P.bY t with
 |none=>none
 |some (.struct _)|some (.array _ _)=>(bG P t).bind fun n=>if off+n≤cs.length then some (.agg ((cs.drop off).take n)) else none
 |some _=>cs[off]?
def gK (place:Nat→Option (Nat×Nat)) (cells:List D):List (Nat×D)→Option (List D)
 |[]=>some cells
 |(i,v)::rest=>
  match place i,v.cells? with
  |some (off,size),some cs=>if cs.length≠size∨off+cs.length>cells.length then none else gK place (setMany cells off cs) rest
  |_,_=>none
def kD:List Field→Option (List (Nat×Nat))
 |[]=>some []
 |f::fs=>match bG P f.type with
  |some s=>match kD fs with
   |some r=>some ((f.offset,s)::r)
   |none=>none
  |none=>none
def lS (t:TypeId) (parts:List (Nat×D)):Option D:=
 match cE P t with
 |some z=>match P.bY t with
  |some (.struct fields)=>match kD P fields.toList with
   |some ps=>(gK (fun i=>ps[i]?) z parts).map .agg
   |none=>none
  |some (.array _ e)=>match bG P e with
   |some s=>(gK (fun i=>some (i*s,s)) z parts).map .agg
   |none=>none
  |_=>none
 |none=>none
def cV (n:Nat) (z:List D):List D:=(List.replicate n z).flatten
def gx (t:TypeId) (len:Nat) (parts:List (Nat×D)) (st:St):Option (D×St):=
 match P.bY t with
 |some (.slice e)=>(bG P e).bind fun s=>(cE P e).bind fun z=>
   if z.length=s∧len*s≤16777216 then
    (gK (fun i=>some (i*s,s)) (cV len z) parts).map fun cs=>(.win st.bs.length 0 0 len s,st.push (.mem 0 true cs))
   else none
 |_=>none
def y6 (op:BinOp) (a b:Int):Option D:=
 match op with
 | .eql=>some (.bool (a==b))
 | .neq=>some (.bool (a !=b))
 | .lss=>some (.bool (a<b))
 | .leq=>some (.bool (a≤b))
 | .gtr=>some (.bool (a>b))
 | .geq=>some (.bool (a≥b))
 |_=>none
def Aw (op:BinOp) (k:IntKind) (x y:Int):Option D:=
 let a:=BitVec.ofInt k.bits x
 let b:=BitVec.ofInt k.bits y
 let back (r:BitVec k.bits):Option D:=some (.int k (bj k r.toNat))
 match op with
 | .and=>back (a &&&b)
 | .or=>back (a|||b)
 | .xor=>back (a^^^b)
 | .andNot=>back (a &&&~~~b)
 |_=>none
def wH (op:BinOp) (k:IntKind) (a b:Int):Option D:=
 match op with
 | .add=>some (.int k (bj k (a+b)))
 | .sub=>some (.int k (bj k (a-b)))
 | .mul=>some (.int k (bj k (a*b)))
 | .quo=>if b=0 then none else some (.int k (bj k (a.tdiv b)))
 | .rem=>if b=0 then none else some (.int k (a.tmod b))
 | .and| .or| .xor| .andNot=>Aw op k a b
 |_=>y6 op a b
def xZ (op:BinOp) (k:IntKind) (x y:Int):Option D:=
 if y<0 then none
 else match op with
  | .shl=>some (.int k (bj k (x*2^(min y.toNat k.bits))))
  | .shr=>some (.int k (x.fdiv (2^(min y.toNat k.bits))))
  |_=>none
def E8 (op:BinOp) (a b:List UInt8):Option D:=
 match op with
 | .add=>if a.length+b.length≤9223372036854775807 then some (.str (a++b)) else none
 | .eql=>some (.bool (a==b))
 | .neq=>some (.bool !(a==b))
 | .lss=>some (.bool (Op.bytesLess a b))
 | .leq=>some (.bool (Op.bytesLess a b||a==b))
 | .gtr=>some (.bool !(Op.bytesLess a b||a==b))
 | .geq=>some (.bool !(Op.bytesLess a b))
 |_=>none
mutual
def Gg:Nat→TypeId→D→D→Option Bool
 |0,_,_,_=>none
 |d+1,t,x,y=>
  match P.bY t,x,y with
  |some .bool,.bool a,.bool b=>some (a==b)
  |some (.int _),.int k a,.int k' b=>if k=k' then some (a==b) else none
  |some .string,.str a,.str b=>some (a==b)
  |some (.pointer _),.pnil,.pnil=>some true
  |some (.pointer _),.pnil,.ptr _ _ _=>some false
  |some (.pointer _),.ptr _ _ _,.pnil=>some false
  |some (.slice _),.nul,.nul=>some true
  |some (.slice _),.win _ _ _ _ _,.nul=>some false
  |some (.slice _),.sl (_::_),.nul=>some false
  |some (.struct fields),.agg xs,.agg ys=>if P.eqb.contains t then eqFields d xs ys fields.toList else none
  |some (.array len e),.agg xs,.agg ys=>(bG P e).bind fun n=>kN d e n xs ys len 0
  |_,_,_=>none
def eqFields:Nat→List D→List D→List Field→Option Bool
 |0,_,_,_=>none
 |_+1,_,_,[]=>some true
 |d+1,xs,ys,f::fs=>
  if f.name= "_" then eqFields d xs ys fs else
  match oj P f.type xs f.offset,oj P f.type ys f.offset with
  |some x,some y=>match Gg d f.type x y with
   |some true=>eqFields d xs ys fs
   |some false=>some false
   |none=>none
  |_,_=>none
def kN:Nat→TypeId→Nat→List D→List D→Nat→Nat→Option Bool
 |0,_,_,_,_,_,_=>none
 |_+1,_,_,_,_,0,_=>some true
 |d+1,e,n,xs,ys,left+1,i=>
  match oj P e xs (i*n),oj P e ys (i*n) with
  |some x,some y=>match Gg d e x y with
   |some true=>kN d e n xs ys left (i+1)
   |some false=>some false
   |none=>none
  |_,_=>none
end
def q_:Nat:=64
def IQ:D→Bool
 | .agg _=>true
 |_=>false
def equalD (t:TypeId) (x y:D):Option Bool:=
 if IQ x &&!P.eqb.contains t then none else Gg P q_ t x y
def kY (op:BinOp) (t:TypeId) (x y:D):Option D:=
 match x,y with
 | .int k a,.int k' b=>match op with
  | .shl| .shr=>xZ op k a b
  |_=>if k=k' then wH op k a b else none
 | .str a,.str b=>E8 op a b
 |x,y=>match op with
  | .eql=>(equalD P t x y).map .bool
  | .neq=>(equalD P t x y).map fun b=>.bool !b
  |_=>none
def LU (op:UnOp) (x:D):Option D:=
 match op,x with
 | .neg,.int k n=>some (.int k (bj k (0-n)))
 | .xor,.int k n=>Aw .xor k (if k.signed then-1 else k.max) n
 | .not,.bool b=>some (.bool !b)
 |_,_=>none
def kR (st:St):D→Option (Nat×List D)
 | .sl es=>some (es.length,es.flatMap D.cells)
 | .nul=>some (0,[])
 | .win k aq off len s=>(st.bM k aq).bind fun(_,c)=>if off+len*s≤c.length then some (len,(c.drop off).take (len*s)) else none
 | .str b=>some (b.length,b.map fun x=>.int .u8 x.toNat)
 |_=>none
def nS:List D→Option (List UInt8)
 |[]=>some []
 | .int .u8 n::l=>(nS l).map fun r=>UInt8.ofNat n.toNat::r
 |_=>none
def xk (src dst:TypeId) (x:D) (st:St):Option (D×St):=
 match P.bY src,P.bY dst,x with
 |some _,some (.int k),.int _ n=>some (.int k (bj k n),st)
 |some _,some .string,.int _ n=>some (.str (Utf8.encode n).data.toList,st)
 |some _,some .string,.str s=>some (.str s,st)
 |some _,some (.slice e),.str s=>
  match P.bY e with
  |some (.int .u8)=>if s.length<1099511627776 then some (.win st.bs.length 0 0 s.length 1,st.push (.mem 0 true (s.map fun x=>.int .u8 x.toNat))) else none
  |_=>none
 |some (.slice _),some (.slice e),.win k aq off len sz=>
  match P.bY e,st.bM k aq with
  |some (.int .u8),some _=>if Nat.beq src dst=true∧0<len∧st.kX k 0=true then some (.win k aq off len sz,st) else none
  |_,_=>none
 |some (.slice e),some .string,x=>
  match P.bY e,kR st x with
  |some (.int .u8),some (n,cs)=>match x with
   | .str _=>none
   |_=>if cs.length=n then(nS cs).map fun b=>(.str b,st) else none
  |_,_=>none
 |_,_,_=>none
def wD:D→Option Nat
 | .sl es=>some es.length
 | .nul=>some 0
 | .win _ _ _ len _=>some len
 | .str s=>some s.length
 |_=>none
def eT:TypeDesc→Bool
 | .int _=>true
 |_=>false
def cN (argTypes:List TypeId) (s x:D) (st:St):Option (D×St):=
 match argTypes with
 |sT::xT::_=>
  match P.bY sT,P.bY xT with
  |some (.slice e),some xd=>if eT xd=true then none else
   (P.info e).bind fun i=>(cE P e).bind fun z=>(kR st x).bind fun(n,ys)=>
   if ys.length≠n*i.size∨i.bytes=0∨z.length≠i.size then none else
   match s with
   | .nul=>if n=0 then some (.nul,st)
     else if n*i.bytes≤1099511627776 then some (.win st.bs.length 0 0 n i.size,st.push (.mem 0 true ys)) else none
   | .win k aq off len sz=>
    match st.bM k aq with
    |some (true,c)=>if sz≠i.size∨c.length<off+len*sz then none
      else if n=0 then some (.win k aq off len sz,st)
      else if(len+n)*i.bytes≤1099511627776∧st.kX k (refs ys)=true then
       some (.win k (aq+1) 0 (len+n) sz,{st with bs:=st.bs.set k (.mem (aq+1) true ((c.take (off+len*sz)).drop off++ys))})
      else none
    |_=>none
   |_=>none
  |_,_=>none
 |_=>none
def tj (argTypes:List TypeId) (d x:D) (st:St):Option (D×St):=
 match argTypes with
 |dT::_=>
  match P.bY dT with
  |some (.slice e)=>(bG P e).bind fun s=>(kR st x).bind fun(m,ys)=>
   if ys.length≠m*s then none else
   match d with
   | .win k aq off len sz=>if sz≠s then none else(st.wr k aq off (ys.take (min m len*s))).map fun ah=>(.int .i64 (min m len:Nat),ah)
   | .nul=>some (.int .i64 0,st)
   |_=>none
  |_=>none
 |_=>none
def iR (argTypes:List TypeId) (d:D) (st:St):Option (D×St):=
 match argTypes with
 |dT::_=>
  match P.bY dT with
  |some (.slice e)=>
   match d with
   | .nul=>some (.tup [],st)
   | .win k aq off len sz=>(cE P e).bind fun z=>if z.length=sz then(st.wr k aq off (cV len z)).map fun ah=>(.tup [],ah) else none
   |_=>none
  |_=>none
 |_=>none
def sF (oy:Bool):D→D→Option D
 | .int k x,.int _ y=>some (.int k (if oy then(if y<x then y else x) else(if y>x then y else x)))
 |_,_=>none
def oE (f:D→D→Option D):D→List D→Option D
 |x,[]=>some x
 |x,y::l=>(f x y).bind fun z=>oE f z l
def aS (b:Builtin) (argTypes:List TypeId) (args:List D) (st:St):Option (D×St):=
 match b,args with
 | .len,[x]=>match argTypes with
  |t::_=>match P.bY t with
   |some .string=>match x with
    | .str s=>some (.int .i64 s.length,st)
    |_=>none
   |some (.slice _)=>match x with
    | .str _=>none
    |x=>match wD x with
     |some n=>some (.int .i64 (Int.ofNat n),st)
     |none=>none
   |some (.array n _)=>some (.int .i64 n,st)
   |_=>none
  |_=>none
 | .append,[s,x]=>cN P argTypes s x st
 | .copy,[d,x]=>tj P argTypes d x st
 | .clear,[d]=>iR P argTypes d st
 | .min,x::l=>(oE (sF true) x l).map fun d=>(d,st)
 | .max,x::l=>(oE (sF false) x l).map fun d=>(d,st)
 |_,_=>none
def eQ (t:TypeId) (l c:D) (st:St):Option (D×St):=
 match P.bY t,l,c with
 |some (.slice e),.int _ l,.int _ c=>(P.info e).bind fun i=>(cE P e).bind fun z=>
   if z.length=i.size∧0≤l∧l≤c∧c≤9223372036854775807∧c*(i.bytes:Int)≤140737488355328 then
    some (.win st.bs.length 0 0 l.toNat i.size,st.push (.mem 0 true (cV l.toNat z)))
   else none
 |_,_,_=>none
def jF (x:D) (y:Nat):Option Nat:=
 match x with
 | .int _ i=>if 0≤i∧i≤(y:Int) then some i.toNat else none
 |_=>none
def hD (y Pq:Nat):Option D→Option Nat
 |some v=>jF v y
 |none=>some Pq
def cD (len:Nat) (lo hi:Option D):Option (Nat×Nat):=
 (hD len len hi).bind fun h=>(hD h 0 lo).map fun l=>(l,h)
def qM (s:Nat) (es:List D):Bool:=
 match es.head? with
 |none=>true
 |some e=>match e.cells? with
  |some cs=>cs.length==s
  |none=>false
def fp (t:TypeId) (x:D) (lo hi:Option D) (st:St):Option D:=
 match P.bY t,x with
 |some .string,.str s=>(cD s.length lo hi).map fun(l,h)=>.str ((s.take h).drop l)
 |some (.slice e),.nul=>(bG P e).bind fun _=>(cD 0 lo hi).map fun _=>.nul
 |some (.slice e),.sl es=>(bG P e).bind fun s=>if qM s es then(cD es.length lo hi).map fun(l,h)=>.sl ((es.take h).drop l) else none
 |some (.slice e),.win k aq off len sz=>(bG P e).bind fun s=>if s=sz then(cD len lo hi).map fun(l,h)=>.win k aq (off+l*sz) (h-l) sz else none
 |some (.array n e),.ptr k aq off=>(bG P e).bind fun s=>(st.bM k aq).bind fun(_,c)=>
   if off+n*s≤c.length then(cD n lo hi).map fun(l,h)=>.win k aq (off+l*s) (h-l) s else none
 |_,_=>none
def d_ (t:TypeId) (x:D) (i:Nat):Option D:=
 match P.bY t with
 |some (.struct fields)=>(fields[i]?).bind fun f=>if bG P f.type=some 0 then none else(bG P f.type).bind fun _=>
   match x with
   | .ptr k aq off=>some (.ptr k aq (off+f.offset))
   | .ep c=>some (.ep (c.drop f.offset))
   |_=>none
 |_=>none
def yV (t:TypeId) (x:D) (i:Nat):Option D:=
 match P.bY t,x with
 |some (.struct fields),.agg cs=>(fields[i]?).bind fun f=>oj P f.type cs f.offset
 |_,_=>none
def bB (t:TypeId) (x ix:D) (st:St):Option D:=
 match ix with
 | .int _ i=>
  match P.bY t,x with
  |some (.array len e),.ptr k aq off=>(bG P e).bind fun s=>if 0≤i∧i<len then some (.ptr k aq (off+i.toNat*s)) else none
  |some (.array len e),.ep c=>(bG P e).bind fun s=>if 0≤i∧i<len then some (.ep (c.drop (i.toNat*s))) else none
  |some (.slice e),.sl es=>(bG P e).bind fun s=>if 0≤i then(es[i.toNat]?).bind fun d=>d.cells?.bind fun cs=>if cs.length=s then some (.ep cs) else none else none
  |some (.slice e),.win k aq off len sz=>(bG P e).bind fun s=>if s=sz∧0≤i∧i<len∧(st.bM k aq).isSome=true then some (.ptr k aq (off+i.toNat*sz)) else none
  |_,_=>none
 |_=>none
def nI (t:TypeId) (x ix:D):Option D:=
 match ix with
 | .int _ i=>
  match P.bY t,x with
  |some (.array len e),.agg cs=>(bG P e).bind fun s=>if 0≤i∧i<len then oj P e cs (i.toNat*s) else none
  |some .string,.str s=>if 0≤i then(s[i.toNat]?).map fun b=>.int .u8 b.toNat else none
  |_,_=>none
 |_=>none
def kL (kk:IntKind) (n:Int):List (D×D)→Nat→Option (Option (Nat×D))
 |[],_=>some none
 |(.int k' m,v)::l,i=>if kk=k' then(if n==m then some (some (i,v)) else kL kk n l (i+1)) else none
 |_::_,_=>none
def mw (t:TypeId) (r:Option D) (st:St):Option (D×St):=
 match r with
 |none=>some (.mp st.bs.length,st.push (.map []))
 |some (.int _ _)=>match P.bY t with
  |some (.map _ _)=>some (.mp st.bs.length,st.push (.map []))
  |_=>none
 |_=>none
def kK (t:TypeId) (m key v:D) (st:St):Option St:=
 match P.bY t,m,key,v with
 |some (.map kt _),.mp k,.int kk n,.int vk x=>match P.bY kt,st.bs[k]? with
  |some (.int _),some (.map es)=>match st.kX k 0 with
   |true=>match kL kk n es 0 with
    |some (some (i,_))=>some {st with bs:=st.bs.set k (.map (es.set i (.int kk n,.int vk x)))}
    |some none=>some {st with bs:=st.bs.set k (.map (es++[(.int kk n,.int vk x)]))}
    |none=>none
   |false=>none
  |_,_=>none
 |_,_,_,_=>none
def ur (t:TypeId) (m key:D) (st:St):Option D:=
 match P.bY t,m,key with
 |some (.map kt e),.mp k,.int kk n=>match P.bY kt,st.bs[k]? with
  |some (.int _),some (.map es)=>match kL kk n es 0 with
   |some (some (_,v))=>some v
   |some none=>zk P e
   |none=>none
  |_,_=>none
 |_,_,_=>none
def tQ (t:TypeId) (x:D) (st:St):Option (D×St):=
 match P.bY t,x with
 |some .string,.str s=>some (.ptr st.bs.length 0 0,st.push (.iter s 0))
 |_,_=>none
def sD (x:D) (isString:Bool) (st:St):Option (D×St):=
 match x,isString with
 | .ptr k 0 0,true=>
  match st.bs[k]? with
  |some (.iter s pos)=>
   if pos<s.length then
    if st.kX k 0 then
     let r:=Utf8.decode ⟨s.toArray⟩ pos
     some (.tup [.bool true,.int .i64 pos,.int .i32 r.1],{st with bs:=st.bs.set k (.iter s (pos+r.2))})
    else none
   else some (.tup [.bool false],st)
  |_=>none
 |_,_=>none
def dJ (fr:Fr) (st:St) (op:Op) (QH:TypeId):Option (D×St):=
 match op with
 | .move x| .assign x=>some (fr.ev x,st)
 | .pick c a b=>match fr.ev c with
  | .bool true=>some (fr.ev a,st)
  | .bool false=>some (fr.ev b,st)
  |_=>none
 | .alloc e=>(cE P e).map fun cs=>(.ptr st.bs.length 0 0,st.push (.mem 0 false cs))
 | .box _ x=>(fr.ev x).cells?.map fun cs=>(.ptr st.bs.length 0 0,st.push (.mem 0 false cs))
 | .build t parts=>(lS P t (parts.toList.map fun p=>(p.1,fr.ev p.2))).map fun d=>(d,st)
 | .buildSlice t len parts=>gx P t len (parts.toList.map fun p=>(p.1,fr.ev p.2)) st
 | .load t a=>(fv P t (fr.ev a) st).map fun d=>(d,st)
 | .store t a x=>(jU P t (fr.ev a) (fr.ev x) st).map fun ah=>(.tup [],ah)
 | .nilCheck x=>match fr.ev x with
  | .ptr k v o=>some (.ptr k v o,st)
  | .ep c=>some (.ep c,st)
  | .fn f c=>some (.fn f c,st)
  |_=>none
 | .binOp op t x y _=>(kY P op t (fr.ev x) (fr.ev y)).map fun d=>(d,st)
 | .unOp op _ x=>(LU op (fr.ev x)).map fun d=>(d,st)
 | .convert s d x=>xk P s d (fr.ev x) st
 | .makeFunc (.func f) first captured=>if first.isEmpty then some (.fn f (captured.toList.map fr.ev),st) else none
 | .makeSlice t l c=>eQ P t (fr.ev l) (fr.ev c) st
 | .slice t x lo hi none=>(fp P t (fr.ev x) (lo.map fr.ev) (hi.map fr.ev) st).map fun d=>(d,st)
 | .fieldAddr t x f=>(d_ P t (fr.ev x) f).map fun d=>(d,st)
 | .field t x f=>(yV P t (fr.ev x) f).map fun d=>(d,st)
 | .indexAddr t x i=>(bB P t (fr.ev x) (fr.ev i) st).map fun d=>(d,st)
 | .index t x i=>(nI P t (fr.ev x) (fr.ev i)).map fun d=>(d,st)
 | .range t x=>tQ P t (fr.ev x) st
 | .makeMap t r=>mw P t (r.map fr.ev) st
 | .insert t m k x=>(kK P t (fr.ev m) (fr.ev k) (fr.ev x) st).map fun ah=>(.tup [],ah)
 | .mapUpdate t m k x=>(kK P t (fr.ev m) (fr.ev k) (fr.ev x) st).map fun ah=>(.tup [],ah)
 | .lookup t x i false=>(ur P t (fr.ev x) (fr.ev i) st).map fun d=>(d,st)
 | .next it s=>sD (fr.ev it) s st
 | .extract t i=>match fr.ev t with
  | .tup ds=>(ds[i]?).map fun d=>(d,st)
  |_=>none
 | .call ⟨.builtin b,args,argTypes⟩=>aS P b argTypes.toList (args.toList.map fr.ev) st
 |_=>none
end
section
variable(P:Pv) (cf:dS)
def ek (fr:Fr) (st:St) (o:Oper):Option (D×St):=
 match o.op with
 | .call ⟨.value f,args,_⟩=>match fr.ev f with
  | .fn g eI=>cf g (args.toList.map fr.ev++eI) st
  |_=>none
 |op=>dJ P fr st op o.type
def ay (ops:Array Oper) (fr:Fr) (o:Oper):Option Bool:=
 match o.guard with
 |none=>some true
 |some (j,want)=>match(ops[j]?).bind (·.dst) with
  |none=>none
  |some t=>match fr.get t with
   | .bool b=>some (b==want)
   | .tup _=>some false
   |_=>none
def iv (ops:Array Oper):List Oper→Fr→St→Option (Fr×St)
 |[],fr,st=>some (fr,st)
 |o::rest,fr,st=>
  match ay ops fr o with
  |some true=>match ek P cf fr st o with
   |some (d,ah)=>iv ops rest (fr.fT o.dst d) ah
   |none=>none
  |some false=>iv ops rest (fr.fT o.dst (.tup [])) st
  |none=>none
mutual
def ez:D→D→Bool
 | .bool a,.bool b=>a==b
 | .int k n,.int k' m=>decide (k=k') &&n==m
 | .str s,.str t=>s==t
 | .nul,.nul=>true
 | .pnil,.pnil=>true
 | .nilfn,.nilfn=>true
 | .nilif,.nilif=>true
 | .aY,.aY=>true
 | .sl a,.sl b=>ij a b
 | .agg a,.agg b=>ij a b
 | .tup a,.tup b=>ij a b
 | .ep a,.ep b=>ij a b
 | .win k v o l s,.win k' v' o' l' s'=>Nat.beq k k' &&Nat.beq v v' &&Nat.beq o o' &&Nat.beq l l' &&Nat.beq s s'
 | .ptr k v o,.ptr k' v' o'=>Nat.beq k k' &&Nat.beq v v' &&Nat.beq o o'
 | .mp k,.mp k'=>Nat.beq k k'
 | .fn f a,.fn g b=>Nat.beq f g &&ij a b
 |_,_=>false
def ij:List D→List D→Bool
 |[],[]=>true
 |a::l,b::m=>ez a b &&ij l m
 |_,_=>false
end
def rn:iu→iu→Bool
 | .mem v a c,.mem v' a' c'=>Nat.beq v v' &&(a==a') &&ij c c'
 | .iter s p,.iter s' p'=>s==s' &&Nat.beq p p'
 | .dead,.dead=>true
 |_,_=>false
def D.lT:D→Option Nat
 | .win k _ _ _ _=>some k
 | .ptr k _ _=>some k
 |_=>none
def gj:Op→Option Operand
 | .load _ a=>some a
 | .indexAddr _ x _=>some x
 |_=>none
def nj (k:Option Nat) (a b:St):Bool:=
 match k with
 |none=>true
 |some k=>match a.bs[k]?,b.bs[k]? with
  |some x,some y=>rn x y
  |_,_=>false
def lA (k:Option Nat) (a b:St):Bool:=
 match k with
 |none=>true
 |some k=>match Nat.beq a.bs.length b.bs.length with
  |true=>true
  |false=>match a.bs[k]? with
   |some (.mem _ _ c)=>Nat.ble (refs c) a.bs.length
   |_=>false
def hC (x:Oper) (fi:Fr) (si o0:St) (y:Oper) (fj:Fr) (sj ES:St):Bool:=
 match gj y.op with
 |some a=>nj (fj.ev a).lT si o0
 |none=>match gj x.op with
  |some a=>nj (fi.ev a).lT sj ES &&lA (fi.ev a).lT si ES
  |none=>false
abbrev Log:=List (Oper×Fr×St×St)
def Eo (dy:List (Nat×Nat)) (j:Nat) (log:Log) (o:Oper) (fr:Fr) (st ah:St):Bool:=
 dy.all fun p=>match Nat.beq p.2 j &&Nat.blt p.1 j with
  |true=>match log[j-1-p.1]? with
   |some (x,fi,si,o0)=>hC x fi si o0 o fr st ah
   |none=>false
  |false=>true
def oK (ops:Array Oper) (dy:List (Nat×Nat)):Nat→Log→List Oper→Fr→St→Option (Fr×St)
 |_,_,[],fr,st=>some (fr,st)
 |j,log,o::rest,fr,st=>
  match ay ops fr o with
  |some true=>match ek P cf fr st o with
   |some (d,ah)=>match Eo dy j log o fr st ah with
    |true=>oK ops dy (j+1) ((o,fr,st,ah)::log) rest (fr.fT o.dst d) ah
    |false=>none
   |none=>none
  |some false=>oK ops dy (j+1) ((o,fr,st,st)::log) rest (fr.fT o.dst (.tup [])) st
  |none=>none
def vP (ops:Array Oper) (dy:List (Nat×Nat)) (fr:Fr) (st:St):Option (Fr×St):=
 match dy with
 |[]=>iv P cf ops ops.toList fr st
 |_=>oK P cf ops dy 0 [] ops.toList fr st
def fU (id:Nat):List (Nat×List (Nat×Nat))→List (Nat×Nat)
 |[]=>[]
 |(i,l)::r=>match Nat.beq i id with
  |true=>l
  |false=>fU id r
inductive Out where
 |next
 |exit (id:Nat)
 |ret
def iter (step:Fr→St→Option (Out×Fr×St)):Nat→Fr→St→Option (Out×Fr×St)
 |0,_,_=>none
 |n+1,fr,st=>match step fr.clean st with
  |some (.next,aA,ah)=>iter step n aA ah
  |r=>r
def bw (dy:List (Nat×List (Nat×Nat))) (n:Nat):Code→Fr→St→Option (Out×Fr×St)
 | .skip,fr,st=>some (.next,fr,st)
 | .region id ops _,fr,st=>match vP P cf ops (fU id dy) fr.clean st with
  |some (aA,ah)=>some (.next,aA,ah)
  |none=>none
 | .seq a b,fr,st=>match bw dy n a fr st with
  |some (.next,aA,ah)=>bw dy n b aA ah
  |r=>r
 | .cond c a b,fr,st=>match fr.ev c with
  | .bool true=>bw dy n a fr st
  | .bool false=>bw dy n b fr st
  |_=>none
 | .block id c,fr,st=>match bw dy n c fr st with
  |some (.exit i,aA,ah)=>if i=id then some (.next,aA,ah) else some (.exit i,aA,ah)
  |r=>r
 | .loop c,fr,st=>iter (bw dy n c) n fr st
 | .exit id,fr,st=>some (.exit id,fr,st)
 | .ret,fr,st=>some (.ret,fr,st)
 |_,_,_=>none
def iL (fr:Fr) (st:St):List ResultVar→Option (List D)
 |[]=>some []
 | .tmp t::l=>(iL fr st l).map fun ds=>fr.get t::ds
 | .cell a t::l=>(fv P t (fr.get a) st).bind fun d=>(iL fr st l).map fun ds=>d::ds
def rC:List D→D
 |[d]=>d
 |ds=>.tup ds
end
def chunk (s:Nat):Nat→List D→List D
 |0,_=>[]
 |n+1,c=>(match s with|1=>c.headD .aY|_=>.agg (c.take s))::chunk s n (c.drop s)
def cH (f:D→Option D):List D→Option (List D)
 |[]=>some []
 |d::ds=>match f d with
  |some x=>match cH f ds with
   |some xs=>some (x::xs)
   |none=>none
  |none=>none
def cw (st:St) (N:Nat):Nat→D→Option D
 |0,_=>none
 |n+1,d=>match d with
  | .bool b=>some (.bool b)
  | .int k i=>some (.int k i)
  | .str s=>some (.str s)
  | .nul=>some (.sl [])
  | .sl es=>some (.sl es)
  | .pnil=>some .pnil
  | .nilfn=>some .nilfn
  | .nilif=>some .nilif
  | .win k aq off len s=>if k<N then none else(st.bM k aq).bind fun(_,c)=>if off+len*s≤c.length then(cH (cw st N n) ((c.drop off).take (len*s))).map fun cs=>.sl (chunk s len cs) else none
  | .agg cs=>(cH (cw st N n) cs).map .agg
  |_=>none
def aB (st:St) (N:Nat) (kn:Bool):Nat→D→Option D
 |0,_=>none
 |n+1,d=>match d with
  | .win k aq off len s=>if k<N then some (.win k aq off len s) else cw st N n (.win k aq off len s)
  | .ptr k aq off=>if k<N then some (.ptr k aq off) else none
  | .mp k=>if k<N then some (.mp k) else none
  | .nul=>some (if kn then .nul else .sl [])
  | .agg cs=>(cH (aB st N kn n) cs).map .agg
  | .tup ds=>(cH (aB st N kn n) ds).map .tup
  | .fn f eI=>if refs eI≤N then some (.fn f eI) else none
  |d=>some d
def pad (n:Nat) (args:List D):Fr:=⟨n,args++List.replicate (n-args.length) (.tup []),[]⟩
def ai (m:Mode) (st:St):St:=
 match m with
 | .ro=>{st with flr:=st.bs.length,ro:=st.bs.length}
 | .rw=>{st with flr:=st.bs.length}
 | .ch=>st
 | .nw=>{st with ro:=st.bs.length}
def cK (m:Mode) (kn:Bool) (st st1:St) (d:D):Option (D×St):=
 match m with
 | .ch=>some (d,st1)
 | .nw=>some (d,⟨st1.bs,st.flr,st.ro⟩)
 |_=>match aB st1 st.bs.length kn 16 d with
  |some d'=>some (d',⟨st1.bs.take st.bs.length,st.flr,st.ro⟩)
  |none=>none
def xu (P:Pv) (cf:dS) (n:Nat) (x:Fi) (body:Code) (args:List D) (st:St):Option (D×St):=
 match bw P cf x.dyn n body (pad x.nloc args) (ai x.mode st) with
 |some (.exit _,_,_)=>none
 |some (_,fr,st1)=>match iL P fr st1 x.fn.results.toList with
  |some ds=>cK x.mode x.knul st st1 (rC ds)
  |none=>none
 |none=>none
def bI (P:Pv):Nat→dS
 |0=>fun _ _ _=>none
 |n+1=>fun f args st=>
  match j8 f P.prm with
  |some p=>p args st
  |none=>match P.fi f with
   |some x=>match x.jK with
    |some p=>p args st
    |none=>match x.fn.body with
     |some body=>xu P (bI P n) n x body args st
     |none=>none
   |none=>none
mutual
theorem pj:∀(a b:D),ez a b=true→a=b
 | .bool a,b,h=>by cases b<;>simp[ez] at h;rw[h]
 | .int k n,b,h=>by cases b<;>simp[ez] at h;rw[h.1,h.2]
 | .str s,b,h=>by cases b<;>simp[ez] at h;rw[h]
 | .nul,b,h=>by cases b<;>simp[ez] at h;rfl
 | .pnil,b,h=>by cases b<;>simp[ez] at h;rfl
 | .nilfn,b,h=>by cases b<;>simp[ez] at h;rfl
 | .nilif,b,h=>by cases b<;>simp[ez] at h;rfl
 | .aY,b,h=>by cases b<;>simp[ez] at h;rfl
 | .sl a,b,h=>by cases b<;>simp[ez] at h;rw[fy _ _ h]
 | .agg a,b,h=>by cases b<;>simp[ez] at h;rw[fy _ _ h]
 | .tup a,b,h=>by cases b<;>simp[ez] at h;rw[fy _ _ h]
 | .ep a,b,h=>by cases b<;>simp[ez] at h;rw[fy _ _ h]
 | .win ..,b,h=>by cases b<;>simp[ez] at h;rw[h.1.1.1.1,h.1.1.1.2,h.1.1.2,h.1.2,h.2]
 | .ptr ..,b,h=>by cases b<;>simp[ez] at h;rw[h.1.1,h.1.2,h.2]
 | .mp ..,b,h=>by cases b<;>simp[ez] at h;rw[h]
 | .fn f a,b,h=>by cases b<;>simp[ez] at h;rw[h.1,fy _ _ h.2]
theorem fy:∀(a b:List D),ij a b=true→a=b
 |[],b,h=>by cases b<;>simp[ij] at h;rfl
 |a::l,b,h=>by
  cases b with
  |nil=>simp[ij] at h
  |cons b m=>
   simp only[ij,Bool.and_eq_true] at h;rw[pj a b h.1,fy l m h.2]
end
mutual
theorem B0:∀(a:D),ez a a=true
 | .bool a=>by simp[ez]
 | .int k n=>by simp[ez]
 | .str s=>by simp[ez]
 | .nul=>rfl
 | .pnil=>rfl
 | .nilfn=>rfl
 | .nilif=>rfl
 | .aY=>rfl
 | .sl a=>by simp only[ez];exact eY a
 | .agg a=>by simp only[ez];exact eY a
 | .tup a=>by simp only[ez];exact eY a
 | .ep a=>by simp only[ez];exact eY a
 | .win ..=>by simp[ez]
 | .ptr ..=>by simp[ez]
 | .mp ..=>by simp[ez]
 | .fn f a=>by simp only[ez];rw[eY a];simp
theorem eY:∀(a:List D),ij a a=true
 |[]=>rfl
 |a::l=>by simp only[ij];rw[B0 a,eY l];rfl
end
theorem tt {a b:iu} (h:rn a b=true):a=b:=by
 cases a<;>cases b<;>simp[rn] at h<;>try rfl
 ·rw[h.1.1,h.1.2,fy _ _ h.2]
 ·rw[h.1,h.2]
theorem r_ {k:Nat} {a b:St} (h:nj (some k) a b=true):b.bs[k]?=a.bs[k]?:=by
 unfold nj at h;simp only at h
 split at h
 ·rename_i x y h1 h2;rw[h1,h2,tt h]
 ·cases h
theorem ni {k:Nat} {a b:St} {v:Nat} {ar:Bool} {c:List D} (h:a.bs[k]?=some (.mem v ar c)) (h':b.bs[k]?=some (.mem v ar c)):nj (some k) a b=true:=by
 unfold nj;simp only[h,h',rn,eY];simp
end Go.V
namespace Go.V
open Go.RowKit
structure X where
 aq:Nat→Option Nat
 β:Nat→Option (Nat×Nat)
 Z:Nat→Prop
def ck:iu→Option Nat
 | .mem v _ _=>some v
 | .iter _ _=>some 0
 | .map _=>some 0
 |_=>none
def St.aq (st:St) (k:Nat):Option Nat:=(st.bs[k]?).bind ck
def St.x (st:St) (β:Nat→Option (Nat×Nat)) (Z:Nat→Prop):X:=⟨st.aq,β,Z⟩
def bo (w:World) (b:Nat):Option Nat:=
 match w.heap[b]? with
 |some (.cells c _ _)=>some c.size
 |_=>none
inductive IR (w:World) (Z:Nat→Prop):D→Value→Prop where
 |bool (b:Bool):IR w Z (.bool b) (.bool b)
 |int (k:IntKind) (n:Int):IR w Z (.int k n) (.int k n)
 |str (s:List UInt8):IR w Z (.str s) (.string ⟨s.toArray⟩)
 |nul:IR w Z .nul (.slice none 0 0)
 |pnil:IR w Z .pnil (.pointer none)
 |nilfn:IR w Z .nilfn .nilFunc
 |nilif:IR w Z .nilif .nilIface
 |emp (a:Option Addr) (cap:Nat):IR w Z (.sl []) (.slice a 0 cap)
 |sl (es:List D) (b off cap s:Nat) (f:Nat→Nat→Value) (hz:Z b) (hc:es.length≤cap)
   (hs:∀(i:Nat) e,es[i]?=some e→e.cells?=some e.cells∧e.cells.length=s)
   (hv:∀(i:Nat) e (j:Nat) c,es[i]?=some e→e.cells[j]?=some c→w.cell? ⟨b,off+(i*s+j),none⟩=some (f i j)∧(f i j).oneCell'=true)
   (hr:∀(i:Nat) e (j:Nat) c,es[i]?=some e→e.cells[j]?=some c→IR w Z c (f i j)):IR w Z (.sl es) (.slice (some ⟨b,off,none⟩) es.length cap)
 |ep (cs:List D) (b off:Nat) (f:Nat→Value) (hz:Z b)
   (hv:∀(j:Nat) c,cs[j]?=some c→w.cell? ⟨b,off+j,none⟩=some (f j)∧(f j).oneCell'=true)
   (hr:∀(j:Nat) c,cs[j]?=some c→IR w Z c (f j)):IR w Z (.ep cs) (.pointer (some ⟨b,off,none⟩))
 |agg (cs:List D) (vs:List Value) (hl:cs.length=vs.length) (h1:∀v∈vs,v.oneCell'=true)
   (hr:∀(i:Nat) c v,cs[i]?=some c→vs[i]?=some v→IR w Z c v):IR w Z (.agg cs) (.agg vs.toArray)
 |tup (cs:List D) (vs:List Value) (hl:cs.length=vs.length)
   (hr:∀(i:Nat) c v,cs[i]?=some c→vs[i]?=some v→IR w Z c v):IR w Z (.tup cs) (.tuple vs.toArray)
 |aY (v:Value):IR w Z .aY v
inductive VR (w:World) (x:X):D→Value→Prop where
 |im (d:D) (v:Value) (h:IR w x.Z d v):VR w x d v
 |win (k vr off len s:Nat) (a:Addr) (cap:Nat) (hc:len≤cap) (hk:∃p,x.β k=some p) (hm:∀c,x.aq k=some c→vr≤c)
   (h:x.aq k=some vr→∃b base sz,x.β k=some (b,base)∧bo w b=some sz∧(cap=0∨(a=⟨b,base+off,none⟩∧base+off+cap*s≤sz))):
   VR w x (.win k vr off len s) (.slice (some a) len cap)
 |ptr (k vr off:Nat) (a:Addr) (hk:∃p,x.β k=some p) (hm:∀c,x.aq k=some c→vr≤c)
   (h:x.aq k=some vr→∃b base,x.β k=some (b,base)∧a=⟨b,base+off,none⟩):VR w x (.ptr k vr off) (.pointer (some a))
 |mp (k r:Nat) (hk:∃p,x.β k=some p) (h:x.aq k=some 0→∃base,x.β k=some (r,base)):VR w x (.mp k) (.map (some r))
 |fn (f:Nat) (cs:List D) (vs:List Value) (hl:cs.length=vs.length)
   (hr:∀(i:Nat) c v,cs[i]?=some c→vs[i]?=some v→VR w x c v):VR w x (.fn f cs) (.func (.func f) #[] vs.toArray)
 |agg (cs:List D) (vs:List Value) (hl:cs.length=vs.length) (h1:∀v∈vs,v.oneCell'=true)
   (hr:∀(i:Nat) c v,cs[i]?=some c→vs[i]?=some v→VR w x c v):VR w x (.agg cs) (.agg vs.toArray)
 |tup (cs:List D) (vs:List Value) (hl:cs.length=vs.length)
   (hr:∀(i:Nat) c v,cs[i]?=some c→vs[i]?=some v→VR w x c v):VR w x (.tup cs) (.tuple vs.toArray)
theorem xn {w w':World} {b o:Nat} (h:w'.heap[b]?=w.heap[b]?):w'.cell? ⟨b,o,none⟩=w.cell? ⟨b,o,none⟩:=by
 simp only[World.cell?,h]
theorem IR.mono {w w':World} {Z Z':Nat→Prop} (hz:∀b,Z b→Z' b∧w'.heap[b]?=w.heap[b]?) {d:D} {v:Value} (h:IR w Z d v):IR w' Z' d v:=by
 induction h with
 |bool b=>exact .bool b
 |int k n=>exact .int k n
 |str s=>exact .str s
 |nul=>exact .nul
 |pnil=>exact .pnil
 |nilfn=>exact .nilfn
 |nilif=>exact .nilif
 |emp a cap=>exact .emp a cap
 |sl es b off cap s f hb hc hs hv hr ih=>
  exact .sl es b off cap s f (hz b hb).1 hc hs (fun i e j c he hj=>by rw[xn (hz b hb).2];exact hv i e j c he hj) ih
 |ep cs b off f hb hv hr ih=>exact .ep cs b off f (hz b hb).1 (fun j c hj=>by rw[xn (hz b hb).2];exact hv j c hj) ih
 |agg cs vs hl h1 hr ih=>exact .agg cs vs hl h1 ih
 |tup cs vs hl hr ih=>exact .tup cs vs hl ih
 |aY v=>exact .aY v
structure cZ (w:World) (x:X) (w':World) (x':X):Prop where
 dm:∀k p,x.β k=some p→∃p',x'.β k=some p'
 z:∀b,x.Z b→x'.Z b∧w'.heap[b]?=w.heap[b]?
 aq:∀k c p,x.β k=some p→x'.aq k=some c→∃o,x.aq k=some o∧o≤c
 at_:∀k c,x'.aq k=some c→x.aq k=some c→∀b base,x.β k=some (b,base)→x'.β k=some (b,base)∧bo w' b=bo w b
theorem cZ.refl (w:World) (x:X):cZ w x w x:=
 ⟨fun _ p h=>⟨p,h⟩,fun _ h=>⟨h,rfl⟩,fun _ c _ _ h=>⟨c,h,Nat.le_refl _⟩,fun _ _ _ _ _ _ h=>⟨h,rfl⟩⟩
theorem cZ.trans {w1 w2 w3:World} {x1 x2 x3:X} (h:cZ w1 x1 w2 x2) (g:cZ w2 x2 w3 x3):cZ w1 x1 w3 x3 where
 dm k p hp:=by obtain⟨p',uC⟩:=h.dm k p hp;exact g.dm k p' uC
 z b hb:=⟨(g.z b (h.z b hb).1).1,((g.z b (h.z b hb).1).2).trans (h.z b hb).2⟩
 aq k c p hk hc:=by
  obtain⟨p',uC⟩:=h.dm k p hk;obtain⟨o,ho,hle⟩:=g.aq k c p' uC hc;obtain⟨q,hq,DO⟩:=h.aq k o p hk ho;exact⟨q,hq,Nat.le_trans DO hle⟩
 at_ k c h3 h1 b base hb:=by
  obtain⟨p',uC⟩:=h.dm k _ hb;obtain⟨o,ho,hle⟩:=g.aq k c p' uC h3;obtain⟨p,hp,DO⟩:=h.aq k o _ hb ho;rw[h1] at hp;cases hp;have:o=c:=Nat.le_antisymm hle DO;subst this;obtain⟨hb2,MF⟩:=h.at_ k _ ho h1 b base hb;obtain⟨hb3,RU⟩:=g.at_ k _ h3 ho b base hb2;exact⟨hb3,RU.trans MF⟩
theorem VR.mono {w w':World} {x x':X} (hk:cZ w x w' x') {d:D} {v:Value} (h:VR w x d v):VR w' x' d v:=by
 induction h with
 |im d v h=>exact .im d v (h.mono hk.z)
 |win k vr off len s a cap hc hkn hm h=>
  obtain⟨p,hp⟩:=hkn;refine .win k vr off len s a cap hc (hk.dm k p hp) ?_ ?_
  ·intro c hcv;obtain⟨o,ho,hle⟩:=hk.aq k c p hp hcv;exact Nat.le_trans (hm o ho) hle
  ·intro hv;obtain⟨o,ho,hle⟩:=hk.aq k vr p hp hv;have:o=vr:=Nat.le_antisymm hle (hm o ho);subst this;obtain⟨b,base,sz,hb,hs,hr⟩:=h ho;obtain⟨eV,JW⟩:=hk.at_ k _ hv ho b base hb;exact⟨b,base,sz,eV,JW.trans hs,hr⟩
 |ptr k vr off a hkn hm h=>
  obtain⟨p,hp⟩:=hkn;refine .ptr k vr off a (hk.dm k p hp) ?_ ?_
  ·intro c hcv;obtain⟨o,ho,hle⟩:=hk.aq k c p hp hcv;exact Nat.le_trans (hm o ho) hle
  ·intro hv;obtain⟨o,ho,hle⟩:=hk.aq k vr p hp hv;have:o=vr:=Nat.le_antisymm hle (hm o ho);subst this;obtain⟨b,base,hb,hr⟩:=h ho;exact⟨b,base,(hk.at_ k _ hv ho b base hb).1,hr⟩
 |mp k r hkn h=>
  obtain⟨p,hp⟩:=hkn;refine .mp k r (hk.dm k p hp) fun hv=>?_;obtain⟨o,ho,hle⟩:=hk.aq k 0 p hp hv;have:o=0:=by omega
  subst this;obtain⟨base,hb⟩:=h ho;exact⟨base,(hk.at_ k _ hv ho r base hb).1⟩
 |fn f cs vs hl hr ih=>exact .fn f cs vs hl ih
 |agg cs vs hl h1 hr ih=>exact .agg cs vs hl h1 ih
 |tup cs vs hl hr ih=>exact .tup cs vs hl ih
theorem VR.aY (w:World) (x:X) (v:Value):VR w x .aY v:=.im _ _ (.aY v)
def lV (n:Nat) (fr:Nat×Nat):Prop:=fr.1≤fr.2∧∀o,o<n→¬(fr.1≤o∧o<fr.2)
theorem lV.zero (n:Nat):lV n (0,0):=⟨Nat.le_refl _,fun o _=>by omega⟩
def gL (w:World) (x:X) (b base:Nat):iu→Prop
 | .mem _ _ cells=>∃c el fr,w.heap[b]?=some (.cells c el fr)∧base+cells.length≤c.size∧lV c.size fr∧
   ∀(j:Nat) d,cells[j]?=some d→∃u,c[base+j]?=some u∧u.oneCell'=true∧VR w x d u
 | .iter s pos=>base=0∧w.heap[b]?=some (.stringIter ⟨s.toArray⟩ pos)
 | .map es=>base=0∧∃entries clock,w.heap[b]?=some (.map entries clock)∧entries.size=es.length∧∀(i:Nat) p,es[i]?=some p→∃kk n vk x e,p=(.int kk n,.int vk x)∧entries[i]?=some e∧e.key=.int kk n∧e.val=.int vk x
 | .dead=>False
structure eK (w:World) (st:St) (β:Nat→Option (Nat×Nat)) (Z:Nat→Prop):Prop where
 dom:∀k b base,β k=some (b,base)→k<st.bs.length
 lt:∀k b base,β k=some (b,base)→b<w.heap.size
 inj:∀k k' b x x',β k=some (b,x)→β k'=some (b,x')→k=k'
 zd:∀k b base,β k=some (b,base)→¬Z b
 zl:∀b,Z b→b<w.heap.size
 box:∀k b base bx,β k=some (b,base)→st.bs[k]?=some bx→gL w (st.x β Z) b base bx
 flr:st.flr≤st.bs.length
 ro:st.ro≤st.bs.length
structure AE (M:Nat→Prop) (w w':World):Prop where
 os:w'.os=w.os
 tape:w'.tape=w.tape
 output:w'.output=w.output
 size:w.heap.size≤w'.heap.size
 block:∀b,b<w.heap.size→¬M b→w'.heap[b]?=w.heap[b]?
theorem AE.refl (M:Nat→Prop) (w:World):AE M w w:=⟨rfl,rfl,rfl,Nat.le_refl _,fun _ _ _=>rfl⟩
theorem AE.trans {M M' PC:Nat→Prop} {w1 w2 w3:World} (h:AE M w1 w2) (g:AE M' w2 w3) (hM:∀b,M b→PC b) (TH:∀b,b<w1.heap.size→M' b→PC b):AE PC w1 w3:=
 ⟨g.os.trans h.os,g.tape.trans h.tape,g.output.trans h.output,Nat.le_trans h.size g.size,fun b hb hn=>
  (g.block b (Nat.lt_of_lt_of_le hb h.size) fun hm=>hn (TH b hb hm)).trans (h.block b hb fun hm=>hn (hM b hm))⟩
theorem AE.mono {M M':Nat→Prop} {w w':World} (h:AE M w w') (hM:∀b,M b→M' b):AE M' w w':=
 ⟨h.os,h.tape,h.output,h.size,fun b hb hn=>h.block b hb fun hm=>hn (hM b hm)⟩
def PJ (st:St) (β:Nat→Option (Nat×Nat)) (b:Nat):Prop:=∃k base,β k=some (b,base)∧st.ro≤k
def mX (w:World) (x:X) (fr:Fr) (tmps:Array Value):Prop:=∀t,VR w x (fr.get t) (tmps.getD t undef)
theorem mX.mono {w w':World} {x x':X} {fr:Fr} {tmps:Array Value} (h:mX w x fr tmps) (hk:cZ w x w' x'):mX w' x' fr tmps:=fun t=>(h t).mono hk
end Go.V
namespace Go.V
open Go.RowKit
structure Pv.Ok (pv:Pv) (P:Program):Prop where
 ty:∀t i,pv.info t=some i→P.info? t=some i
 fs:∀f x,pv.fi f=some x→x.jK=none→P.funcs[f]?=some x.fn∧∀b,x.fn.body=some b→x.fn.name≠ "runtime.NumGoroutine"
 eqb:∀t,pv.eqb.contains t=true→P.stoodInHeld t=false∧P.eqGuardType P.depth t=false
 mixed:P.follows .mixedOrders=true
section
variable{pv:Pv} {P:Program} (ok:pv.Ok P)
include ok
theorem xP {t:Nat} {d:TypeDesc} (h:pv.bY t=some d):P.underlying t=some d:=by
 unfold Pv.bY at h;unfold Program.underlying
 cases hi:pv.info t with
 |none=>simp[hi] at h
 |some i=>
  rw[ok.ty t i hi];simp only[hi] at h;obtain⟨desc,str,size,bytes,hp,al,fa,z,cmp,ms⟩:=i
  cases desc with
  |named nm u=>
   simp only at h
   cases hu:pv.info u with
   |none=>simp[hu] at h
   |some j=>rw[hu] at h;simp only[ok.ty u j hu];simpa using h
  |_=>simpa using h
theorem aC {t:Nat} {d:TypeDesc} (h:pv.bY t=some d) (w:World):(underlying t).run P w=.ok d w:=by
 simp[underlying,xP ok h]
theorem mc {t:Nat} {i:TypeInfo} (h:pv.info t=some i) (w:World):(typeInfo t).run P w=.ok i w:=by
 simp[typeInfo,ok.ty t i h]
theorem bq {t n:Nat} (h:bG pv t=some n) (w:World):(sizeOf t).run P w=.ok n w:=by
 unfold bG at h
 cases hi:pv.info t with
 |none=>simp[hi] at h
 |some i=>simp only[hi,Option.some.injEq] at h;simp[sizeOf,mc ok hi,h]
omit ok in
theorem jq {t:Nat} {i:TypeInfo} (h:pv.info t=some i):bG pv t=some i.size:=by simp[bG,h]
def qF (d:TypeDesc):Bool:=
 match d with
 | .struct _| .array _ _=>true
 |_=>false
theorem o5 {t:Nat} {d:TypeDesc} (h:pv.bY t=some d) (w:World):(isAgg t).run P w=.ok (qF d) w:=by
 simp only[isAgg,Sem.run_bind,aC ok h,Result.andThen_ok];cases d<;>rfl
theorem vF {t:Nat} {z:D} (h:zk pv t=some z) (w:World):∃v,(zeroValue t).run P w=.ok v w∧z=jG v:=by
 unfold zk at h
 cases hi:pv.info t with
 |none=>simp[hi] at h
 |some i=>
  rw[hi] at h
  cases hz:i.zero with
  |none=>simp[hz] at h
  |some v=>simp[hz] at h;exact⟨v,by simp[zeroValue,mc ok hi,hz],h.symm⟩
end
theorem Fy (v:Value):A4 v=v.oneCell':=by cases v<;>rfl
theorem sA (w:World) (Z:Nat→Prop) (v:Value) (h:A4 v=true):IR w Z (pR v) v:=by
 cases v with
 |bool b=>exact .bool b
 |int k n=>exact .int k n
 |string s=>
  have:=IR.str (w:=w) (Z:=Z) s.data.toList
  simpa[pR] using this
 |pointer a=>cases a with
  |none=>exact .pnil
  |some a=>exact .aY _
 |slice a l c=>
  unfold pR
  split<;>first|contradiction|skip
  all_goals first|(rename_i h;cases h;exact .nul)|exact .aY _
 |nilFunc=>exact .nilfn
 |nilIface=>exact .nilif
 |_=>exact .aY _
theorem tX {l:List Value}:∀{r:List D},kH l=some r→r.length=l.length∧(∀v∈l,v.oneCell'=true)∧∀(w:World) (Z:Nat→Prop) (i:Nat) c v,r[i]?=some c→l[i]?=some v→IR w Z c v:=by
 induction l with
 |nil=>intro r h;simp[kH] at h;subst h;simp
 |cons v l ih=>
  intro r h;unfold kH at h
  cases h1:A4 v with
  |false=>simp[h1] at h
  |true=>
   simp only[h1] at h
   cases hr:kH l with
   |none=>simp[hr] at h
   |some r'=>
    simp only[hr,Option.some.injEq] at h;subst h;obtain⟨hl,ho,hi⟩:=ih hr;refine⟨by simp[hl],?_,?_⟩
    ·intro u hu
     rcases List.mem_cons.1 hu with rfl|hu
     ·rw[←Fy];exact h1
     ·exact ho u hu
    ·intro w Z i c u hc hu
     cases i with
     |zero=>simp at hc hu;subst hc;subst hu;exact sA w Z _ h1
     |succ i=>simp at hc hu;exact hi w Z i c u hc hu
theorem pP (w:World) (Z:Nat→Prop) (v:Value):IR w Z (jG v) v:=by
 unfold jG
 split
 ·rename_i cs
  split
  ·rename_i l hl;obtain⟨h1,h2,h3⟩:=tX hl;have:=IR.agg (w:=w) (Z:=Z) l cs.toList h1 h2 (h3 w Z)
   simpa using this
  ·exact .aY _
 ·rename_i hn
  by_cases h:A4 v=true
  ·exact sA w Z v h
  ·cases v with
   |agg cs=>exact absurd rfl (hn cs)
   |tuple vs=>exact .aY _
   |_=>simp[A4] at h
theorem tf {w:World} {x:X} {fr:Fr} {a:Act} (h:mX w x fr a.tmps) (o:Operand):VR w x (fr.ev o) (a.eval o):=by
 cases o with
 |tmp t=>exact h t
 |const v=>exact .im _ _ (pP _ _ v)
 |global g=>exact .aY _ _ _
 |func f=>exact .fn f [] [] rfl (by simp)
theorem tY (d e:D):∀(l:List D) (t u:Nat),nth d (l.set t e) u=if u=t∧t<l.length then e else nth d l u
 |[],t,u=>by simp
 |x::l,0,u=>by cases u<;>simp[nth]
 |x::l,t+1,u=>by
  cases u with
  |zero=>simp[nth]
  |succ u=>simp only[List.set_cons_succ,nth,List.length_cons,Nat.add_lt_add_iff_right,Nat.add_right_cancel_iff];exact tY d e l t u
theorem zK (d:D):∀(l:List D) (t:Nat),l.length≤t→nth d l t=d
 |[],t,_=>by cases t<;>rfl
 |x::l,0,h=>by simp at h
 |x::l,t+1,h=>zK d l t (by simpa using h)
theorem Am (fr:Fr) (t u:Nat) (d:D):(fr.put t d).get u=(if u=t then(if Nat.ble fr.n t=false∧fr.loc.length≤t then .aY else d) else fr.get u):=by
 unfold Fr.put
 by_cases hut:u=t
 ·subst hut;simp only[if_true]
  cases hb:Nat.ble fr.n u with
  |false=>
   simp only[Fr.get,hb,tY,true_and]
   by_cases hl:u<fr.loc.length
   ·rw[if_pos hl,if_neg (by omega)]
   ·rw[if_neg hl,if_pos (by omega)];exact zK _ _ _ (by omega)
  |true=>simp[Fr.get,hb,look,Nat.beq_refl]
 ·simp only[hut,if_false]
  have hq:Nat.beq u t=false:=by
   cases hq:Nat.beq u t with
   |false=>rfl
   |true=>exact absurd (Nat.eq_of_beq_eq_true hq) hut
  cases hb:Nat.ble fr.n t<;>cases To:Nat.ble fr.n u<;>simp[Fr.get,To,look,hq,tY,hut]
theorem CN {w:World} {x:X} {fr:Fr} {a:Act} {d:D} {v:Value} (h:mX w x fr a.tmps) (hd:VR w x d v) (dst:Option Nat)
  (hs:∀t,dst=some t→t<a.tmps.size):mX w x (fr.fT dst d) (a.put dst v).tmps:=by
 cases dst with
 |none=>exact h
 |some t=>
  intro u;have hu:=h u;have hs:=hs t rfl;simp only[Fr.fT,Act.put,Am]
  have JY:(a.tmps.setIfInBounds t v).getD u undef=if u=t then v else a.tmps.getD u undef:=by
   simp only[Array.getD_eq_getD_getElem?,Array.getElem?_setIfInBounds]
   by_cases hut:t=u
   ·subst hut;simp[hs]
   ·have:¬u=t:=fun e=>hut e.symm;simp[hut,this]
  rw[JY]
  by_cases hut:u=t
  ·simp only[hut,if_true]
   split
   ·exact .aY _ _ _
   ·exact hd
  ·simp only[hut,if_false];exact hu
end Go.V
namespace Go.V
open Go.RowKit
theorem gV (k:IntKind) (n:Int):bj k n=k.wrap n:=by
 unfold bj
 split
 ·rename_i m
  split
  ·rename_i h;have h:=Nat.le_of_ble_eq_true h;cases k<;>simp only[IntKind.wrap,lF,IntKind.bits,IntKind.signed] at*<;>simp<;>omega
  ·rfl
 ·rename_i m
  split
  ·rename_i h;have h:¬ub k≤m:=fun h'=>by rw[Nat.ble_eq_true_of_le h'] at h;cases h
   cases k<;>simp only[IntKind.wrap,ub,IntKind.bits,IntKind.signed] at*<;>simp<;>omega
  ·rfl
section
variable{w:World} {x:X}
theorem bU {k:IntKind} {n:Int} {v:Value} (h:VR w x (.int k n) v):v=.int k n:=by
 cases h with|im _ _ h=>cases h;rfl
theorem dA {b:Bool} {v:Value} (h:VR w x (.bool b) v):v=.bool b:=by
 cases h with|im _ _ h=>cases h;rfl
theorem et {s:List UInt8} {v:Value} (h:VR w x (.str s) v):v=.string ⟨s.toArray⟩:=by
 cases h with|im _ _ h=>cases h;rfl
theorem dM {v:Value} (h:VR w x .nul v):v=.slice none 0 0:=by
 cases h with|im _ _ h=>cases h;rfl
theorem gM {v:Value} (h:VR w x .pnil v):v=.pointer none:=by
 cases h with|im _ _ h=>cases h;rfl
theorem gB {cs:List D} {v:Value} (h:VR w x (.agg cs) v):∃vs:List Value,v=.agg vs.toArray∧cs.length=vs.length∧(∀u∈vs,u.oneCell'=true)∧
  ∀(i:Nat) c u,cs[i]?=some c→vs[i]?=some u→VR w x c u:=by
 cases h with
 |im _ _ h=>cases h with|agg _ vs hl h1 hr=>exact⟨vs,rfl,hl,h1,fun i c u hc hu=>.im _ _ (hr i c u hc hu)⟩
 |agg _ vs hl h1 hr=>exact⟨vs,rfl,hl,h1,hr⟩
theorem pr {cs:List D} {v:Value} (h:VR w x (.tup cs) v):∃vs:List Value,v=.tuple vs.toArray∧cs.length=vs.length∧
  ∀(i:Nat) c u,cs[i]?=some c→vs[i]?=some u→VR w x c u:=by
 cases h with
 |im _ _ h=>cases h with|tup _ vs hl hr=>exact⟨vs,rfl,hl,fun i c u hc hu=>.im _ _ (hr i c u hc hu)⟩
 |tup _ vs hl hr=>exact⟨vs,rfl,hl,hr⟩
theorem vf {f:Nat} {cs:List D} {v:Value} (h:VR w x (.fn f cs) v):∃vs:List Value,v=.func (.func f) #[] vs.toArray∧cs.length=vs.length∧
  ∀(i:Nat) c u,cs[i]?=some c→vs[i]?=some u→VR w x c u:=by
 cases h with
 |im _ _ h=>cases h
 |fn _ _ vs hl hr=>exact⟨vs,rfl,hl,hr⟩
end
theorem pick {p:Nat→Value→Prop}:∀(n:Nat),(∀j,j<n→∃u,p j u)→∃us:List Value,us.length=n∧∀(j:Nat) u,us[j]?=some u→p j u
 |0,_=>⟨[],rfl,by simp⟩
 |n+1,h=>by
  obtain⟨us,hl,hp⟩:=pick n fun j hj=>h j (by omega);obtain⟨u,hu⟩:=h n (by omega);refine⟨us++[u],by simp[hl],fun j v hv=>?_⟩
  rcases Nat.lt_trichotomy j n with hj|hj|hj
  ·rw[List.getElem?_append_left (by omega)] at hv;exact hp j v hv
  ·subst hj;rw[←hl] at hv;simp at hv;subst hv;exact hu
  ·rw[List.getElem?_eq_none (by simp;omega)] at hv;cases hv
def bQ (w:World) (x:X) (b o:Nat) (c:List D):Prop:=
 ∀(j:Nat) d,c[j]?=some d→∃u,w.cell? ⟨b,o+j,none⟩=some u∧u.oneCell'=true∧VR w x d u
theorem bQ.drop {w:World} {x:X} {b o:Nat} {c:List D} (h:bQ w x b o c) (n:Nat):bQ w x b (o+n) (c.drop n):=by
 intro j d hd;rw[List.getElem?_drop] at hd;have:=h (n+j) d hd
 rwa [show o+(n+j)=o+n+j by omega] at this
theorem bQ.take {w:World} {x:X} {b o:Nat} {c:List D} (h:bQ w x b o c) (n:Nat):bQ w x b o (c.take n):=by
 intro j d hd;rw[List.getElem?_take] at hd
 split at hd
 ·exact h j d hd
 ·cases hd
theorem bQ.list {w:World} {x:X} {b o:Nat} {c:List D} (h:bQ w x b o c):∃us:List Value,us.length=c.length∧
  (∀(j:Nat) u,us[j]?=some u→w.cell? ⟨b,o+j,none⟩=some u)∧(∀u∈us,u.oneCell'=true)∧∀(j:Nat) d u,c[j]?=some d→us[j]?=some u→VR w x d u:=by
 obtain⟨us,hl,hp⟩:=pick (p:=fun j u=>∃d,c[j]?=some d∧w.cell? ⟨b,o+j,none⟩=some u∧u.oneCell'=true∧VR w x d u) c.length fun j hj=>by
  obtain⟨u,hu⟩:=h j c[j] (List.getElem?_eq_getElem hj);exact⟨u,c[j],List.getElem?_eq_getElem hj,hu⟩
 refine⟨us,hl,fun j u hu=>?_,fun u hu=>?_,fun j d u hd hu=>?_⟩
 ·obtain⟨_,_,h,_⟩:=hp j u hu;exact h
 ·obtain⟨j,hj⟩:=List.getElem?_of_mem hu;obtain⟨_,_,_,h,_⟩:=hp j u hj;exact h
 ·obtain⟨d',xJ,_,_,h⟩:=hp j u hu;rw[hd] at xJ;cases xJ;exact h
theorem oe {P:Program} {w:World} {b o:Nat} {us:List Value} (h:∀(j:Nat) u,us[j]?=some u→w.cell? ⟨b,o+j,none⟩=some u):
  (loadCells ⟨b,o,none⟩ us.length).run P w=.ok us.toArray w:=by
 refine run_loadCells_list w ⟨b,o,none⟩ us fun j v hv=>?_;have:=h j v hv;unfold Addr.add
 split
 ·rename_i hj;subst hj;simpa using this
 ·exact this
section
variable{pv:Pv} {P:Program} (ok:pv.Ok P)
include ok
theorem oY {w:World} {x:X} {b o t:Nat} {c:List D} {d:D} (hc:bQ w x b o c) (h:cU pv t c=some d):
  ∃v,(loadVar t ⟨b,o,none⟩).run P w=.ok v w∧VR w x d v:=by
 unfold cU at h
 have agg:∀td,pv.bY t=some td→qF td=true→(bG pv t).bind (fun n=>if n≤c.length then some (D.agg (c.take n)) else none)=some d→
   ∃v,(loadVar t ⟨b,o,none⟩).run P w=.ok v w∧VR w x d v:=by
  intro td hu ha h
  cases hs:bG pv t with
  |none=>simp[hs] at h
  |some n=>
   simp only[hs,Option.bind_some] at h
   split at h
   ·rename_i hn;simp only[Option.some.injEq] at h;subst h;obtain⟨us,hl,h1,h2,h3⟩:=(hc.take n).list;have I6:us.length=n:=by simp[hl];omega
    refine⟨.agg us.toArray,?_,.agg _ us hl.symm h2 h3⟩;simp only[loadVar,Sem.run_bind,o5 ok hu,Result.andThen_ok,ha,if_true,bq ok hs];have:=oe (P:=P) h1;rw[I6] at this;simp[this]
   ·cases h
 split at h
 ·cases h
 ·rename_i hu;exact agg _ hu rfl h
 ·rename_i hu;exact agg _ hu rfl h
 ·rename_i td h1 h2 hu
  have ha:qF td=false:=by
   cases td<;>first|rfl|(exfalso;first|exact h1 _ rfl|exact h2 _ _ rfl)
  cases c with
  |nil=>cases h
  |cons y l=>
   simp at h;subst h;obtain⟨u,iq,jR,nJ⟩:=hc 0 y rfl;refine⟨u,?_,nJ⟩;simp only[Nat.add_zero] at iq;simp[loadVar,o5 ok hu,ha,iq]
theorem kE {w:World} {x:X} {t off:Nat} {cs:List D} {vs:List Value} {d:D} (hl:cs.length=vs.length) (h1:∀u∈vs,u.oneCell'=true)
  (hr:∀(i:Nat) c u,cs[i]?=some c→vs[i]?=some u→VR w x c u) (h:oj pv t cs off=some d):
  ∃v,(part t vs.toArray off).run P w=.ok v w∧VR w x d v:=by
 unfold oj at h
 have agg:∀td,pv.bY t=some td→qF td=true→(bG pv t).bind (fun n=>if off+n≤cs.length then some (D.agg ((cs.drop off).take n)) else none)=some d→
   ∃v,(part t vs.toArray off).run P w=.ok v w∧VR w x d v:=by
  intro td hu ha h
  cases hs:bG pv t with
  |none=>simp[hs] at h
  |some n=>
   simp only[hs,Option.bind_some] at h
   split at h
   ·rename_i hn;simp only[Option.some.injEq] at h;subst h;refine⟨.agg ((vs.drop off).take n).toArray,?_,.agg _ _ (by simp[hl]) (fun u hu=>h1 u (List.mem_of_mem_drop (List.mem_of_mem_take hu))) ?_⟩
    ·simp only[part,Sem.run_bind,o5 ok hu,Result.andThen_ok,ha,if_true,bq ok hs,Sem.run_pure]
     congr 2
     apply Array.ext';simp[List.extract_eq_take_drop]
    ·intro i c u hc hu;rw[List.getElem?_take] at hc hu
     split at hc
     ·rename_i hi;rw[if_pos hi] at hu;rw[List.getElem?_drop] at hc hu;exact hr _ c u hc hu
     ·cases hc
   ·cases h
 split at h
 ·cases h
 ·rename_i hu;exact agg _ hu rfl h
 ·rename_i hu;exact agg _ hu rfl h
 ·rename_i td GZ LM hu
  have ha:qF td=false:=by
   cases td<;>first|rfl|(exfalso;first|exact GZ _ rfl|exact LM _ _ rfl)
  have hlt:off<cs.length:=by
   rcases Nat.lt_or_ge off cs.length with h'|h'
   ·exact h'
   ·rw[List.getElem?_eq_none h'] at h;cases h
  obtain⟨u,P9⟩:∃u,vs[off]?=some u:=⟨vs[off]'(by omega),List.getElem?_eq_getElem _⟩
  exact⟨u,by simp[part,o5 ok hu,ha,P9],hr off d u h P9⟩
end
end Go.V
namespace Go.V
open Go.RowKit
theorem tN (s t:List UInt8):((⟨s.toArray⟩:ByteArray).toList==(⟨t.toArray⟩:ByteArray).toList)=(s==t):=by
 rw[ByteArray.toList_eq,ByteArray.toList_eq]
theorem bJ {w:World} {x:X} {k vr off:Nat} {v:Value} (h:VR w x (.ptr k vr off) v):∃a,v=.pointer (some a)∧(∃p,x.β k=some p)∧
  (x.aq k=some vr→∃b base,x.β k=some (b,base)∧a=⟨b,base+off,none⟩):=by
 cases h with
 |im _ _ h=>cases h
 |ptr _ _ _ a hk hm h=>exact⟨a,rfl,hk,h⟩
theorem zm {w:World} {x:X} {k:Nat} {v:Value} (h:VR w x (.mp k) v):∃r,v=.map (some r)∧(x.aq k=some 0→∃base,x.β k=some (r,base)):=by
 cases h with
 |im _ _ h=>cases h
 |mp _ r hk h=>exact⟨r,rfl,h⟩
theorem c_ {w:World} {x:X} {k vr off len s:Nat} {v:Value} (h:VR w x (.win k vr off len s) v):∃a cap,v=.slice (some a) len cap∧len≤cap∧(∃p,x.β k=some p)∧
  (∀c,x.aq k=some c→vr≤c)∧
  (x.aq k=some vr→∃b base sz,x.β k=some (b,base)∧bo w b=some sz∧(cap=0∨(a=⟨b,base+off,none⟩∧base+off+cap*s≤sz))):=by
 cases h with
 |im _ _ h=>cases h
 |win _ _ _ _ _ a cap hc hk hm h=>exact⟨a,cap,rfl,hc,hk,hm,h⟩
theorem jS {w:World} {x:X} {es:List D} {v:Value} (h:VR w x (.sl es) v):∃a cap,v=.slice a es.length cap∧es.length≤cap∧
  (es=[]∨∃b off s,a=some ⟨b,off,none⟩∧x.Z b∧(∀(i:Nat) e,es[i]?=some e→e.cells?=some e.cells∧e.cells.length=s)∧
   (∀(i:Nat) e,es[i]?=some e→bQ w x b (off+i*s) e.cells)∧
   ∃f:Nat→Nat→Value,(∀(i:Nat) e (j:Nat) c,es[i]?=some e→e.cells[j]?=some c→w.cell? ⟨b,off+(i*s+j),none⟩=some (f i j)∧(f i j).oneCell'=true)∧
    ∀(i:Nat) e (j:Nat) c,es[i]?=some e→e.cells[j]?=some c→IR w x.Z c (f i j)):=by
 cases h with
 |im _ _ h=>
  cases h with
  |emp a cap=>exact⟨a,cap,rfl,by simp,.inl rfl⟩
  |sl _ b off cap s f hz hc hs hv hr=>
   refine⟨_,cap,rfl,hc,.inr ⟨b,off,s,rfl,hz,hs,?_,f,hv,hr⟩⟩;intro i e he j d hd;obtain⟨h1,h2⟩:=hv i e j d he hd;exact⟨f i j,by rw[←h1];congr 2;omega,h2,.im _ _ (hr i e j d he hd)⟩
theorem pt {w:World} {x:X} {cs:List D} {v:Value} (h:VR w x (.ep cs) v):∃b off,v=.pointer (some ⟨b,off,none⟩)∧x.Z b∧bQ w x b off cs∧
  ∃f:Nat→Value,(∀(j:Nat) c,cs[j]?=some c→w.cell? ⟨b,off+j,none⟩=some (f j)∧(f j).oneCell'=true)∧∀(j:Nat) c,cs[j]?=some c→IR w x.Z c (f j):=by
 cases h with
 |im _ _ h=>
  cases h with
  |ep _ b off f hz hv hr=>
   exact⟨b,off,rfl,hz,fun j d hd=>⟨f j,(hv j d hd).1,(hv j d hd).2,.im _ _ (hr j d hd)⟩,f,hv,hr⟩
section
variable{pv:Pv} {P:Program} (ok:pv.Ok P)
include ok
theorem Le (n:Nat):(∀{w:World} {x:X} {t:Nat} {d e:D} {u v:Value} {b:Bool},VR w x d u→VR w x e v→Gg pv n t d e=some b→∀m,n≤m→(Op.equalIn m t u v).run P w=.ok b w)∧
  (∀{w:World} {x:X} {xs ys:List D} {us vs:List Value} {fs:List Field} {b:Bool},xs.length=us.length→ys.length=vs.length→(∀u∈us,u.oneCell'=true)→(∀u∈vs,u.oneCell'=true)→
   (∀(i:Nat) c u,xs[i]?=some c→us[i]?=some u→VR w x c u)→(∀(i:Nat) c u,ys[i]?=some c→vs[i]?=some u→VR w x c u)→
   eqFields pv n xs ys fs=some b→∀m,n≤m→(Op.eqFields m us.toArray vs.toArray fs).run P w=.ok b w)∧
  (∀{w:World} {x:X} {t sz:Nat} {xs ys:List D} {us vs:List Value} {left i:Nat} {b:Bool},bG pv t=some sz→xs.length=us.length→ys.length=vs.length→(∀u∈us,u.oneCell'=true)→(∀u∈vs,u.oneCell'=true)→
   (∀(i:Nat) c u,xs[i]?=some c→us[i]?=some u→VR w x c u)→(∀(i:Nat) c u,ys[i]?=some c→vs[i]?=some u→VR w x c u)→
   kN pv n t sz xs ys left i=some b→∀m,n≤m→
   ((do
    for j in List.range' i left do
     if !(←Op.equalIn m t (←part t us.toArray (j*sz)) (←part t vs.toArray (j*sz))) then return false
    pure true:Sem Bool)).run P w=.ok b w):=by
 induction n with
 |zero=>refine⟨?_,?_,?_⟩<;>intros<;>rename_i h _ _<;>simp[Gg,eqFields,kN] at h
 |succ n ih=>
  obtain⟨I2,B8,P4⟩:=ih;refine⟨?_,?_,?_⟩
  ·intro w x t d e u v b hu hv h m hm
   obtain⟨m,rfl⟩:∃m',m=m'+1:=⟨m-1,by omega⟩
   unfold Gg at h
   split at h
   ·rename_i ht;rw[dA hu,dA hv];simp only[Option.some.injEq] at h;subst h;simp[Op.equalIn,aC ok ht]
   ·rename_i ht;rw[bU hu,bU hv]
    split at h
    ·rename_i hk;subst hk;simp only[Option.some.injEq] at h;subst h;simp[Op.equalIn,aC ok ht]
    ·cases h
   ·rename_i ht;rw[et hu,et hv];simp only[Option.some.injEq] at h;subst h;simp only[Op.equalIn,Sem.run_bind,aC ok ht,Result.andThen_ok,Sem.run_pure,beq_toListBytes,tN]
   ·rename_i ht;rw[gM hu,gM hv];simp only[Option.some.injEq] at h;subst h;simp[Op.equalIn,aC ok ht]
   ·rename_i ht;rw[gM hu];obtain⟨a,rfl,_⟩:=bJ hv;simp only[Option.some.injEq] at h;subst h;simp[Op.equalIn,aC ok ht]
   ·rename_i ht;rw[gM hv];obtain⟨a,rfl,_⟩:=bJ hu;simp only[Option.some.injEq] at h;subst h;simp[Op.equalIn,aC ok ht]
   ·rename_i ht;rw[dM hu,dM hv];simp only[Option.some.injEq] at h;subst h;simp[Op.equalIn,aC ok ht]
   ·rename_i ht;rw[dM hv];obtain⟨a,cap,rfl,_⟩:=c_ hu;simp only[Option.some.injEq] at h;subst h;simp[Op.equalIn,aC ok ht]
   ·rename_i ht;rw[dM hv];obtain⟨a,cap,rfl,_,h'|⟨bb,off,s,rfl,_⟩⟩:=jS hu
    ·cases h'
    simp only[Option.some.injEq] at h;subst h;simp[Op.equalIn,aC ok ht]
   ·rename_i fields xs ys ht;obtain⟨us,rfl,wW,xE,gJ⟩:=gB hu;obtain⟨vs,rfl,xG,uF,m_⟩:=gB hv
    split at h
    ·rename_i hq;have hp:=(ok.eqb t hq).1;have hf:P.underlying t=some (.struct (P.fieldsOf t)):=by simp[Program.fieldsOf,xP ok ht]
     have lW:P.fieldsOf t=fields:=by simp[Program.fieldsOf,xP ok ht]
     rw[run_equalIn_struct w m t _ _ hf hp,lW];exact B8 wW xG xE uF gJ m_ h m (by omega)
    ·cases h
   ·rename_i len el xs ys ht;obtain⟨us,rfl,wW,xE,gJ⟩:=gB hu;obtain⟨vs,rfl,xG,uF,m_⟩:=gB hv
    cases hs:bG pv el with
    |none=>simp[hs] at h
    |some sz=>
     simp only[hs,Option.bind_some] at h;have:=P4 hs wW xG xE uF gJ m_ h m (by omega);simp only[Op.equalIn,Sem.run_bind,aC ok ht,Result.andThen_ok,bq ok hs];rw[Std.Legacy.Range.forIn_eq_forIn_range']
     simpa[Std.Legacy.Range.size] using this
   ·cases h
  ·intro w x xs ys us vs fs b wW xG xE uF gJ m_ h m hm
   cases fs with
   |nil=>simp[eqFields] at h;subst h;simp[Op.eqFields]
   |cons f fs=>
    unfold eqFields at h;unfold Op.eqFields
    split at h
    ·rename_i hn;simp only[hn,ne_eq,not_true_eq_false,if_false];exact B8 wW xG xE uF gJ m_ h m (by omega)
    ·rename_i hn;simp only[ne_eq,hn,not_false_eq_true,if_true]
     split at h
     ·rename_i d e hd he;obtain⟨u,iq,jR⟩:=kE ok wW xE gJ hd;obtain⟨v,rv,Bm⟩:=kE ok xG uF m_ he;simp only[Sem.run_bind,iq,rv,Result.andThen_ok]
      split at h
      ·rename_i hq;rw[I2 jR Bm hq m (by omega)]
       simpa using B8 wW xG xE uF gJ m_ h m (by omega)
      ·rename_i hq;rw[I2 jR Bm hq m (by omega)];simp only[Option.some.injEq] at h;subst h;simp
      ·cases h
     ·cases h
  ·intro w x t sz xs ys us vs left i b hsz wW xG xE uF gJ m_ h m hm
   cases left with
   |zero=>simp[kN] at h;subst h;simp
   |succ left=>
    unfold kN at h
    split at h
    ·rename_i d e hd he;obtain⟨u,iq,jR⟩:=kE ok wW xE gJ hd;obtain⟨v,rv,Bm⟩:=kE ok xG uF m_ he;simp only[List.range'_succ,List.forIn_cons,Sem.run_bind,iq,rv,Result.andThen_ok]
     split at h
     ·rename_i hq;rw[I2 jR Bm hq m (by omega)];have:=P4 hsz wW xG xE uF gJ m_ h m (by omega)
      simpa using this
     ·rename_i hq;rw[I2 jR Bm hq m (by omega)];simp only[Option.some.injEq] at h;subst h;simp
     ·cases h
    ·cases h
end
end Go.V
namespace Go.V
open Go.RowKit
theorem iE {P : Program} {w : World} (op : BinOp) (t : TypeId) (xo yo : Operand) (a b : Value) (h1 : ¬ (a = .nilIface ∧ b = .nilIface)) (h2 : ∀ c d, ¬ (a = .agg c ∧ b = .agg d)) :
    (eqGuard op t xo yo a b).run P w = .ok () w := by
  cases op <;> first
    | rfl
    | (unfold eqGuard
       simp only [Bool.not_true, Bool.false_eq_true, if_false]
       split
       · exact absurd ⟨rfl, rfl⟩ h1
       · exact absurd ⟨rfl, rfl⟩ (h2 _ _)
       · rfl)
theorem Av {P:Program} {w:World} {op:BinOp} {k:IntKind} {a b:Int} {d:D} (h:Aw op k a b=some d):∃n,d=.int k n∧(Op.intBits op k a b).run P w=.ok (.int k n) w:=by
 unfold Aw at h
 split at h<;>first|(cases h;refine⟨_,rfl,?_⟩;simp[Op.intBits,gV];done)|(cases h;done)
theorem IE {P:Program} {w:World} {op:BinOp} {a b:Int} {d:D} (h:y6 op a b=some d):∃r,d=.bool r∧(Op.intCmp op a b).run P w=.ok (.bool r) w:=by
 unfold y6 at h
 split at h<;>first|(cases h;exact⟨_,rfl,rfl⟩)|(cases h;done)
theorem HC {P : Program} {w : World} {x : X} {op : BinOp} {t : TypeId} {k : IntKind} {a b : Int} {d : D} (hs : op ≠ .shl) (JW : op ≠ .shr) (h : wH op k a b = some d) :
    ∃ v, (binOp op t (.int k a) (.int k b)).run P w = .ok v w ∧ VR w x d v := by
  cases op <;> simp only [binOp, ne_eq, not_true_eq_false, if_false] <;> simp only [wH] at h <;> first
    | exact absurd rfl hs
    | exact absurd rfl JW
    | (cases h; exact ⟨_, rfl, by rw [gV]; exact .im _ _ (.int _ _)⟩)
    | (split at h
       · cases h
       · rename_i hb; cases h
         refine ⟨_, by simp only [Op.intDiv, hb, if_false]; rfl, ?_⟩
         first | exact .im _ _ (.int _ _) | (rw [gV]; exact .im _ _ (.int _ _)))
    | (obtain ⟨n, rfl, hr⟩ := Av (P := P) (w := w) h; exact ⟨_, hr, .im _ _ (.int _ _)⟩)
    | (obtain ⟨n, rfl, hr⟩ := IE (P := P) (w := w) h; exact ⟨_, hr, .im _ _ (.bool _)⟩)
theorem vx {P:Program} {w:World} {x:X} {op:BinOp} {t:TypeId} {k k':IntKind} {a b:Int} {d:D} (hs:op=.shl∨op=.shr) (h:xZ op k a b=some d):
  ∃v,(binOp op t (.int k a) (.int k' b)).run P w=.ok v w∧VR w x d v:=by
 unfold xZ at h
 split at h
 ·cases h
 ·rename_i hb
  rcases hs with rfl|rfl<;>simp only[Option.some.injEq] at h<;>subst h<;>
   refine⟨_,by simp only[binOp,Op.shift,hb,if_false];rfl,?_⟩<;>first|exact .im _ _ (.int _ _)|(rw[gV];exact .im _ _ (.int _ _))
theorem Hb {P:Program} {w:World} {x:X} {op:BinOp} {t:TypeId} {a b:List UInt8} {d:D} (h:E8 op a b=some d):
  ∃v,(binOp op t (.string ⟨a.toArray⟩) (.string ⟨b.toArray⟩)).run P w=.ok v w∧VR w x d v:=by
 have e:binOp op t (.string ⟨a.toArray⟩) (.string ⟨b.toArray⟩)=Op.stringOp op ⟨a.toArray⟩ ⟨b.toArray⟩:=by cases op<;>rfl
 rw[e];have l1:(⟨a.toArray⟩:ByteArray).toList=a:=by rw[ByteArray.toList_eq]
 have l2:(⟨b.toArray⟩:ByteArray).toList=b:=by rw[ByteArray.toList_eq]
 by_cases hop:op=.add
 ·subst hop;simp only[E8] at h
  split at h
  ·rename_i hb;cases h
   have hm:¬((((⟨a.toArray⟩:ByteArray).size+(⟨b.toArray⟩:ByteArray).size:Nat):Int)>IntKind.i64.max):=by
    have h1:(⟨a.toArray⟩:ByteArray).size=a.length:=by simp[ByteArray.size]
    have h2:(⟨b.toArray⟩:ByteArray).size=b.length:=by simp[ByteArray.size]
    rw[h1,h2];simp only[IntKind.max,IntKind.signed,IntKind.bits,if_true];omega
   refine⟨.string ⟨(a++b).toArray⟩,?_,.im _ _ (.str _)⟩;simp only[Op.stringOp,hm,if_false,Sem.run_pure]
   congr 2
  ·cases h
 ·cases op<;>simp only[E8] at h<;>first
   |exact absurd rfl hop
   |(cases h;done)
   |(cases h;exact⟨_,by simp only[Op.stringOp,l1,l2];rfl,.im _ _ (.bool _)⟩)
section
variable{pv:Pv} {P:Program} (ok:pv.Ok P)
include ok
theorem Ed {w:World} {x:X} {t:Nat} {d e:D} {u v:Value} {b:Bool} (hu:VR w x d u) (hv:VR w x e v) (h:equalD pv t d e=some b) (op:BinOp) (xo yo:Operand):
  (eqGuard op t xo yo u v).run P w=.ok () w∧(Op.equal t u v).run P w=.ok b w:=by
 unfold equalD at h
 split at h
 ·cases h
 ·rename_i hg;have heq:=(Le ok q_).1 hu hv h Op.maxDepth (by decide)
  have S_:(eqGuard op t xo yo u v).run P w=.ok () w:=by
   by_cases ha:IQ d=true
   ·have hq:pv.eqb.contains t=true:=by
     simp only[ha,Bool.true_and,Bool.not_eq_true',Bool.not_eq_false] at hg;simpa using hg
    cases d with
    |agg cs=>
     obtain⟨us,rfl,_⟩:=gB hu
     cases v with
     |agg vs=>exact run_eqGuard_agg w op t xo yo _ _ (ok.eqb t hq).2
     |_=>exact iE _ _ _ _ _ _ (by simp) (by simp)
    |_=>simp[IQ] at ha
   ·refine iE _ _ _ _ _ _ ?_ ?_
    ·rintro⟨rfl,rfl⟩;unfold q_ Gg at h
     split at h<;>first
      |(have:=dA hu;cases this)|(have:=bU hu;cases this)|(have:=et hu;cases this)|(have:=gM hu;cases this)|(have:=dM hu;cases this)
      |(obtain⟨_,h',_⟩:=bJ hu;cases h')|(obtain⟨_,_,h',_⟩:=c_ hu;cases h')|(obtain⟨_,_,h',_⟩:=jS hu;cases h')|(obtain⟨_,h',_⟩:=gB hu;cases h')|cases h
    ·rintro c d' ⟨rfl,rfl⟩;unfold q_ Gg at h
     split at h<;>first
      |(exfalso;exact ha rfl)
      |(have:=dA hu;cases this)|(have:=bU hu;cases this)|(have:=et hu;cases this)|(have:=gM hu;cases this)|(have:=dM hu;cases this)
      |(obtain⟨_,h',_⟩:=bJ hu;cases h')|(obtain⟨_,_,h',_⟩:=c_ hu;cases h')|(obtain⟨_,_,h',_⟩:=jS hu;cases h')|cases h
  exact⟨S_,heq⟩
end
end Go.V
namespace Go.V
open Go.RowKit
def yk (v:Value):Prop:=(∀k n,v≠.int k n)∧(∀s,v≠.string s)∧(∀k b,v≠.float k b)∧(∀k a b,v≠.complex k a b)
def ym:D→Bool
 | .int _ _| .str _| .aY=>false
 |_=>true
theorem Cj {w:World} {x:X} {d:D} {v:Value} (h:VR w x d v) (hp:ym d=true):yk v:=by
 unfold yk
 cases d with
 |int k n=>cases hp
 |str s=>cases hp
 |aY=>cases hp
 |bool b=>rw[dA h];simp
 |nul=>rw[dM h];simp
 |pnil=>rw[gM h];simp
 |sl es=>obtain⟨_,_,rfl,_⟩:=jS h;simp
 |win k v o l s=>obtain⟨_,_,rfl,_⟩:=c_ h;simp
 |ptr k v o=>obtain⟨_,rfl,_⟩:=bJ h;simp
 |mp k=>obtain⟨_,rfl,_⟩:=zm h;simp
 |ep c=>obtain⟨_,_,rfl,_⟩:=pt h;simp
 |fn f c=>obtain⟨_,rfl,_⟩:=vf h;simp
 |nilfn=>cases h with|im _ _ h=>cases h;simp
 |nilif=>cases h with|im _ _ h=>cases h;simp
 |agg c=>obtain⟨_,rfl,_⟩:=gB h;simp
 |tup c=>obtain⟨_,rfl,_⟩:=pr h;simp
theorem binOp_eql {t:TypeId} {u v:Value} (h:yk u):
  binOp .eql t u v=(Op.equal t u v>>=fun b=>pure (.bool b))∧binOp .neq t u v=(Op.equal t u v>>=fun b=>pure (.bool (!b))):=by
 obtain⟨h1,h2,h3,h4⟩:=h;cases u<;>first
  |exact absurd rfl (h1 _ _)|exact absurd rfl (h2 _)|exact absurd rfl (h3 _ _)|exact absurd rfl (h4 _ _ _)
  |(cases v<;>exact⟨rfl,rfl⟩)
section
variable{pv:Pv} {P:Program} (ok:pv.Ok P)
include ok
theorem IL {w:World} {x:X} {op:BinOp} {t:Nat} {d e r:D} {u v:Value} (xo yo:Operand) (hu:VR w x d u) (hv:VR w x e v) (h:kY pv op t d e=some r):
  ∃z,((eqGuard op t xo yo u v>>=fun _=>binOp op t u v:Sem Value)).run P w=.ok z w∧VR w x r z:=by
 unfold kY at h
 split at h
 ·rename_i k a k' b;rw[bU hu,bU hv];have hg:=iE (P:=P) (w:=w) op t xo yo (.int k a) (.int k' b) (by simp) (by simp);simp only[Sem.run_bind,hg,Result.andThen_ok]
  split at h
  ·exact vx (.inl rfl) h
  ·exact vx (.inr rfl) h
  ·rename_i h1 h2
   split at h
   ·rename_i hk;subst hk;exact HC h1 h2 h
   ·cases h
 ·rename_i a b;rw[et hu,et hv];have hg:=iE (P:=P) (w:=w) op t xo yo (.string ⟨a.toArray⟩) (.string ⟨b.toArray⟩) (by simp) (by simp);simp only[Sem.run_bind,hg,Result.andThen_ok];exact Hb h
 ·rename_i h1 h2
  have key:∀b,equalD pv t d e=some b→(eqGuard op t xo yo u v).run P w=.ok () w∧(Op.equal t u v).run P w=.ok b w∧
    (binOp .eql t u v=(Op.equal t u v>>=fun b=>pure (.bool b))∧binOp .neq t u v=(Op.equal t u v>>=fun b=>pure (.bool (!b)))):=by
   intro b hb;obtain⟨hg,he⟩:=Ed ok hu hv hb op xo yo;refine⟨hg,he,binOp_eql ?_⟩;have eV:=hb;unfold equalD at hb
   split at hb
   ·cases hb
   ·unfold q_ Gg at hb;refine Cj hu ?_
    cases R5:ym d with
    |true=>rfl
    |false=>
     exfalso
     cases d<;>simp[ym] at R5<;>(split at hb<;>first|(cases hb;done)|(exact h1 _ _ _ _ rfl rfl)|(exact h2 _ _ rfl rfl)|simp_all)
  split at h
  ·cases hb:equalD pv t d e with
   |none=>simp[hb] at h
   |some b=>
    simp only[hb,Option.map_some,Option.some.injEq] at h;subst h;obtain⟨hg,he,hq,_⟩:=key b hb;exact⟨.bool b,by simp[hg,hq,he],.im _ _ (.bool _)⟩
  ·cases hb:equalD pv t d e with
   |none=>simp[hb] at h
   |some b=>
    simp only[hb,Option.map_some,Option.some.injEq] at h;subst h;obtain⟨hg,he,_,hq⟩:=key b hb;exact⟨.bool (!b),by simp[hg,hq,he],.im _ _ (.bool _)⟩
  ·cases h
omit ok in
theorem Jl {w:World} {x:X} {op:UnOp} {d r:D} {u:Value} (hu:VR w x d u) (h:LU op d=some r):∃z,(Op.unary op u).run P w=.ok z w∧VR w x r z:=by
 unfold LU at h
 split at h
 ·rename_i k n;rw[bU hu];cases h;exact⟨_,rfl,by rw[gV];exact .im _ _ (.int _ _)⟩
 ·rename_i k n;rw[bU hu];obtain⟨m,rfl,hr⟩:=Av (P:=P) (w:=w) h;exact⟨_,hr,.im _ _ (.int _ _)⟩
 ·rw[dA hu];cases h;exact⟨_,rfl,.im _ _ (.bool _)⟩
 ·cases h
omit ok in
theorem mS {w:World} {x:X} {d:D} {v:Value} {y n:Nat} (hv:VR w x d v) (h:jF d y=some n) (code:BoundsCode):(Instr.sliceBound v y code).run P w=.ok n w∧n≤y:=by
 unfold jF at h
 split at h
 ·rename_i k i;rw[bU hv]
  split at h
  ·rename_i hi;cases h;refine⟨?_,by omega⟩;simp[Instr.sliceBound,asIntOf,hi]
  ·cases h
 ·cases h
omit ok in
theorem jk {w:World} {x:X} {len cap l h:Nat} {lo hi:Option D} {zV pb:Option Value} (dG:Bool) (hc:len≤cap) (yN:∀d v,lo=some d→zV=some v→VR w x d v) (Bx:∀d v,hi=some d→pb=some v→VR w x d v)
  (el:lo.isSome=zV.isSome) (eh:hi.isSome=pb.isSome) (hb:cD len lo hi=some (l,h)):
  (Instr.sliceBounds dG len cap zV pb none).run P w=.ok (l,h,cap) w∧l≤h∧h≤len:=by
 unfold cD at hb;obtain⟨hh,h1,h2⟩:=Option.bind_eq_some_iff.1 hb;obtain⟨ll,h3,h4⟩:=Option.map_eq_some_iff.1 h2;simp only[Prod.mk.injEq] at h4;obtain⟨rfl,rfl⟩:=h4
 have hle:hh≤len:=by
  cases hi with
  |none=>cases h1;exact Nat.le_refl _
  |some d=>exact(mS (P:=P) (Bx d (pb.getD default) rfl (by cases pb<;>simp at eh⊢)) h1 .sliceB).2
 have DO:ll≤hh:=by
  cases lo with
  |none=>cases h3;exact Nat.zero_le _
  |some d=>exact(mS (P:=P) (yN d (zV.getD default) rfl (by cases zV<;>simp at el⊢)) h3 .sliceB).2
 refine⟨?_,DO,hle⟩
 have NI:∀v,pb=some v→(Instr.sliceBound v cap (if dG then .sliceAcap else .sliceAlen)).run P w=.ok hh w:=by
  intro v hv
  cases hi with
  |none=>subst hv;simp at eh
  |some d=>
   have GZ:jF d cap=some hh:=by
    simp only[hD] at h1;unfold jF at h1⊢
    split at h1
    ·split at h1
     ·rename_i hq;cases h1;rw[if_pos (by omega)]
     ·cases h1
    ·cases h1
   exact(mS (P:=P) (Bx d v rfl hv) GZ _).1
 have JM:∀v,zV=some v→(Instr.sliceBound v hh .sliceB).run P w=.ok ll w:=by
  intro v hv
  cases lo with
  |none=>subst hv;simp at el
  |some d=>exact(mS (P:=P) (yN d v rfl hv) h3 _).1
 have NJ:pb=none→hh=len:=by
  intro hv;subst hv
  cases hi with
  |none=>cases h1;rfl
  |some d=>simp at eh
 have JN:zV=none→ll=0:=by
  intro hv;subst hv
  cases lo with
  |none=>cases h3;rfl
  |some d=>simp at el
 unfold Instr.sliceBounds
 cases pb with
 |none=>
  obtain rfl:=NJ rfl
  cases zV with
  |none=>obtain rfl:=JN rfl;rfl
  |some v=>simp[JM v rfl]
 |some u=>
  have h5:=NI u rfl
  cases zV with
  |none=>obtain rfl:=JN rfl;simp[h5]
  |some v=>simp[h5,JM v rfl]
end
end Go.V
namespace Go.V
open Go.RowKit
structure Nx (w:World) (st:St) (β:Nat→Option (Nat×Nat)) (Z:Nat→Prop) (w':World) (ah:St) (β':Nat→Option (Nat×Nat)) (Z':Nat→Prop):Prop where
 sim:eK w' ah β' Z'
 keeps:cZ w (st.x β Z) w' (ah.x β' Z')
 evo:AE (PJ st β) w w'
 fresh:∀k b base,β' k=some (b,base)→(∃cz,β k=some (b,cz))∨w.heap.size≤b
 zfresh:∀b,Z' b→Z b∨w.heap.size≤b
 len:st.bs.length≤ah.bs.length
 flr:ah.flr=st.flr
 ro:ah.ro=st.ro
 low:∀k,k<st.ro→ah.bs[k]?=st.bs[k]?∧β' k=β k
 kS:∀k,k<st.bs.length→β k=none→β' k=none∧ah.bs[k]?=st.bs[k]?
theorem gL.ch {w w':World} {x x':X} {b base:Nat} {bx:iu} (h:gL w x b base bx) (hk:cZ w x w' x') (hb:w'.heap[b]?=w.heap[b]?):gL w' x' b base bx:=by
 cases bx with
 |mem v a cells=>
  obtain⟨c,el,fr,h1,h2,h3,h4⟩:=h;refine⟨c,el,fr,hb.trans h1,h2,h3,fun j d hd=>?_⟩;obtain⟨u,iq,jR,nJ⟩:=h4 j d hd;exact⟨u,iq,jR,nJ.mono hk⟩
 |iter s pos=>exact⟨h.1,hb.trans h.2⟩
 |map es=>
  obtain⟨h0,en,cl,h1,h2⟩:=h;exact⟨h0,en,cl,hb.trans h1,h2⟩
 |dead=>exact h
theorem Nx.same {w:World} {st:St} {β:Nat→Option (Nat×Nat)} {Z:Nat→Prop} (h:eK w st β Z):Nx w st β Z w st β Z:=
 ⟨h,cZ.refl _ _,AE.refl _ _,fun _ _ base hb=>.inl ⟨base,hb⟩,fun _ hz=>.inl hz,Nat.le_refl _,rfl,rfl,fun _ _=>⟨rfl,rfl⟩,fun _ _ h=>⟨h,rfl⟩⟩
theorem Nx.trans {w1 w2 w3:World} {st1 st2 vp:St} {β1 β2 β3:Nat→Option (Nat×Nat)} {Z1 Z2 Z3:Nat→Prop} (h:Nx w1 st1 β1 Z1 w2 st2 β2 Z2) (g:Nx w2 st2 β2 Z2 w3 vp β3 Z3):
  Nx w1 st1 β1 Z1 w3 vp β3 Z3 where
 sim:=g.sim
 keeps:=h.keeps.trans g.keeps
 evo:=by
  refine h.evo.trans g.evo (fun _ hm=>hm) fun b hb hm=>?_;obtain⟨k,base,hk,eL⟩:=hm
  rcases h.fresh k b base hk with⟨cz,eV⟩|hlt
  ·exact⟨k,cz,eV,by rw[←h.ro];exact eL⟩
  ·omega
 fresh k b base hb:=by
  rcases g.fresh k b base hb with⟨cz,eV⟩|hlt
  ·exact h.fresh k b cz eV
  ·exact .inr (Nat.le_trans h.evo.size hlt)
 zfresh b hz:=by
  rcases g.zfresh b hz with hz|hlt
  ·exact h.zfresh b hz
  ·exact .inr (Nat.le_trans h.evo.size hlt)
 len:=Nat.le_trans h.len g.len
 flr:=g.flr.trans h.flr
 ro:=g.ro.trans h.ro
 low k hk:=by
  obtain⟨h1,h2⟩:=h.low k hk;obtain⟨g1,g2⟩:=g.low k (by rw[h.ro];exact hk);exact⟨g1.trans h1,g2.trans h2⟩
 kS k hk h0:=by
  obtain⟨h1,h2⟩:=h.kS k hk h0;obtain⟨g1,g2⟩:=g.kS k (Nat.lt_of_lt_of_le hk h.len) h1;exact⟨g1,g2.trans h2⟩
theorem Nx.still {w w':World} {st:St} {β:Nat→Option (Nat×Nat)} {Z:Nat→Prop} (h:eK w st β Z) (hh:w'.heap=w.heap) (ho:w'.os=w.os) (ht:w'.tape=w.tape) (hp:w'.output=w.output):
  Nx w st β Z w' st β Z:=by
 have hk:cZ w (st.x β Z) w' (st.x β Z):=
  ⟨fun _ p hp=>⟨p,hp⟩,fun b hb=>⟨hb,by rw[hh]⟩,fun _ c _ _ hc=>⟨c,hc,Nat.le_refl _⟩,fun _ _ _ _ _ _ hb=>⟨hb,by simp[bo,hh]⟩⟩
 refine⟨⟨h.dom,fun k b base hb=>by rw[hh];exact h.lt k b base hb,h.inj,h.zd,fun b hb=>by rw[hh];exact h.zl b hb,?_,h.flr,h.ro⟩,hk,⟨ho,ht,hp,by rw[hh];exact Nat.le_refl _,fun b _ _=>by rw[hh]⟩,
  fun _ _ base hb=>.inl ⟨base,hb⟩,fun _ hz=>.inl hz,Nat.le_refl _,rfl,rfl,fun _ _=>⟨rfl,rfl⟩,fun _ _ h=>⟨h,rfl⟩⟩
 intro k b base bx hb fZ;exact(h.box k b base bx hb fZ).ch hk (by rw[hh])
def cM (β:Nat→Option (Nat×Nat)) (n b:Nat):Nat→Option (Nat×Nat):=fun k=>if k=n then some (b,0) else β k
theorem Ck (st:St) (bx:iu) (k:Nat) (hk:k<st.bs.length):(st.push bx).aq k=st.aq k:=by
 simp[St.aq,St.push,List.getElem?_append_left hk]
theorem dC {w w':World} {b:Nat} (h:w'.heap[b]?=w.heap[b]?):bo w' b=bo w b:=by simp[bo,h]
theorem Nx.push {w w':World} {st:St} {β:Nat→Option (Nat×Nat)} {Z:Nat→Prop} (h:eK w st β Z) (o:Obj) (hh:w'.heap=w.heap.push o) (ho:w'.os=w.os) (ht:w'.tape=w.tape) (hp:w'.output=w.output) (bx:iu)
  (hb:cZ w (st.x β Z) w' ((st.push bx).x (cM β st.bs.length w.heap.size) Z)→gL w' ((st.push bx).x (cM β st.bs.length w.heap.size) Z) w.heap.size 0 bx):
  Nx w st β Z w' (st.push bx) (cM β st.bs.length w.heap.size) Z:=by
 have hold:∀b,b<w.heap.size→w'.heap[b]?=w.heap[b]?:=by
  intro b hb;rw[hh,Array.getElem?_push,if_neg (by omega)]
 have hk:cZ w (st.x β Z) w' ((st.push bx).x (cM β st.bs.length w.heap.size) Z):=by
  have hdm:∀k p,β k=some p→k<st.bs.length:=fun k p hp=>h.dom k p.1 p.2 hp;refine⟨fun k p hp=>⟨p,?_⟩,fun b hb=>⟨hb,hold b (h.zl b hb)⟩,fun k c p hk hc=>?_,fun k c hc Cf b base hb=>?_⟩
  ·have:=hdm k p hp;simp only[St.x,cM] at hp⊢;rw[if_neg (by omega)];exact hp
  ·refine⟨c,?_,Nat.le_refl _⟩;have:=Ck st bx k (hdm k p hk);show st.aq k=some c;rw[←this];exact hc
  ·refine⟨?_,dC (hold b (h.lt k b base hb))⟩;have jA:k<st.bs.length:=hdm k _ hb;simp only[St.x,cM];rw[if_neg (by omega)];exact hb
 have hsz:w'.heap.size=w.heap.size+1:=by rw[hh,Array.size_push]
 refine⟨⟨?_,?_,?_,?_,?_,?_,?_,?_⟩,hk,⟨ho,ht,hp,by omega,fun b hb _=>hold b hb⟩,?_,fun _ hz=>.inl hz,by simp[St.push],rfl,rfl,?_,fun k hk h0=>by simp only[cM,St.push];rw[if_neg (by omega),List.getElem?_append_left hk];exact⟨h0,rfl⟩⟩
 ·intro k b base fX;simp only[cM] at fX;simp only[St.push,List.length_append,List.length_singleton]
  split at fX
  ·omega
  ·have:=h.dom k b base fX;omega
 ·intro k b base fX;simp only[cM] at fX
  split at fX
  ·cases fX;omega
  ·have:=h.lt k b base fX;omega
 ·intro k k' b y y' h1 h2;simp only[cM] at h1 h2
  split at h1<;>split at h2
  ·omega
  ·cases h1;have:=h.lt k' _ _ h2;omega
  ·cases h2;have:=h.lt k _ _ h1;omega
  ·exact h.inj k k' b y y' h1 h2
 ·intro k b base fX hz;simp only[cM] at fX
  split at fX
  ·cases fX;have:=h.zl _ hz;omega
  ·exact h.zd k b base fX hz
 ·intro b hz;have:=h.zl b hz;omega
 ·intro k b base uX fX fZ;simp only[cM] at fX
  split at fX
  ·rename_i hkn;subst hkn;cases fX;simp[St.push] at fZ;subst fZ;exact hb hk
  ·have hlt:=h.dom k b base fX;simp only[St.push,List.getElem?_append_left hlt] at fZ;exact(h.box k b base uX fX fZ).ch hk (hold b (h.lt k b base fX))
 ·have:=h.flr;simp[St.push];omega
 ·have:=h.ro;simp[St.push];omega
 ·intro k b base fX;simp only[cM] at fX
  split at fX
  ·cases fX;exact .inr (Nat.le_refl _)
  ·exact .inl ⟨base,fX⟩
 ·intro k jA;have:=h.ro;simp only[St.push,cM];rw[List.getElem?_append_left (by omega),if_neg (by omega)];exact⟨rfl,rfl⟩
theorem Nx.g_ {w w':World} {st:St} {β:Nat→Option (Nat×Nat)} {Z:Nat→Prop} (h:eK w st β Z) (arr:Bool) (cs:List D) (c:Array Value) (el:TypeId) (fr:Nat×Nat)
  (hh:w'.heap=w.heap.push (.cells c el fr)) (ho:w'.os=w.os) (ht:w'.tape=w.tape) (hp:w'.output=w.output) (hl:cs.length≤c.size) (hfr:lV c.size fr)
  (hc:∀(j:Nat) d,cs[j]?=some d→∃u,c[j]?=some u∧u.oneCell'=true∧VR w (st.x β Z) d u):
  Nx w st β Z w' (st.push (.mem 0 arr cs)) (cM β st.bs.length w.heap.size) Z∧
   bo w' w.heap.size=some c.size∧(st.push (.mem 0 arr cs)).aq st.bs.length=some 0∧cM β st.bs.length w.heap.size st.bs.length=some (w.heap.size,0):=by
 have hnew:w'.heap[w.heap.size]?=some (.cells c el fr):=by rw[hh];simp
 refine⟨Nx.push h _ hh ho ht hp _ fun hk=>⟨c,el,fr,hnew,by omega,hfr,fun j d hd=>?_⟩,by simp[bo,hnew],by simp[St.aq,St.push,ck],by simp[cM]⟩;obtain⟨u,h1,h2,h3⟩:=hc j d hd;exact⟨u,by rw[Nat.zero_add];exact h1,h2,h3.mono hk⟩
theorem aZ {st:St} {k aq:Nat} {a:Bool} {c:List D} (h:st.bM k aq=some (a,c)):st.bs[k]?=some (.mem aq a c)∧st.aq k=some aq:=by
 unfold St.bM at h
 split at h
 ·rename_i v a' c' hb
  split at h
  ·rename_i hv;subst hv;cases h;exact⟨hb,by simp[St.aq,hb,ck]⟩
  ·cases h
 ·cases h
theorem eK.row {w:World} {st:St} {β:Nat→Option (Nat×Nat)} {Z:Nat→Prop} (h:eK w st β Z) {k aq:Nat} {a:Bool} {c:List D} (hm:st.bM k aq=some (a,c)) {b base:Nat} (hb:β k=some (b,base)):
  ∃cs el fr,w.heap[b]?=some (.cells cs el fr)∧base+c.length≤cs.size∧lV cs.size fr∧
   ∀(j:Nat) d,c[j]?=some d→∃u,cs[base+j]?=some u∧u.oneCell'=true∧VR w (st.x β Z) d u:=
 h.box k b base _ hb (aZ hm).1
theorem eK.cells {w:World} {st:St} {β:Nat→Option (Nat×Nat)} {Z:Nat→Prop} (h:eK w st β Z) {k aq:Nat} {a:Bool} {c:List D} (hm:st.bM k aq=some (a,c)) {b base:Nat} (hb:β k=some (b,base)):
  bQ w (st.x β Z) b base c:=by
 obtain⟨cs,el,fr,h1,h2,h3,h4⟩:=h.row hm hb;intro j d hd;obtain⟨u,iq,jR,nJ⟩:=h4 j d hd;exact⟨u,by simp[World.cell?,h1,iq],jR,nJ⟩
theorem dj:∀(cs c:List D) (off:Nat),(setMany c off cs).length=c.length
 |[],c,off=>rfl
 |x::xs,c,off=>by simp only[setMany];rw[dj xs];simp
theorem gh:∀(cs c:List D) (off j:Nat),off+cs.length≤c.length→(setMany c off cs)[j]?=if off≤j∧j<off+cs.length then cs[j-off]? else c[j]?
 |[],c,off,j,_=>by simp only[setMany,List.length_nil,Nat.add_zero];rw[if_neg (by omega)]
 |x::xs,c,off,j,h=>by
  simp only[List.length_cons] at h;simp only[setMany,List.length_cons];rw[gh xs (c.set off x) (off+1) j (by simp;omega)]
  by_cases h1:off+1≤j∧j<off+1+xs.length
  ·rw[if_pos h1,if_pos (by omega),show j-off=(j-(off+1))+1 by omega,List.getElem?_cons_succ]
  ·rw[if_neg h1]
   by_cases h2:j=off
   ·subst h2;rw[if_pos (by omega),Nat.sub_self,List.getElem?_set_self (by omega)];rfl
   ·rw[if_neg (by omega),List.getElem?_set_ne (by omega)]
def wput (w:World) (b:Nat) (o:Obj):World:={w with heap:=w.heap.setIfInBounds b o}
theorem Nx.Ch {w:World} {st:St} {β:Nat→Option (Nat×Nat)} {Z:Nat→Prop} (h:eK w st β Z) {k aq jT:Nat} {a a':Bool} {c c':List D} (hm:st.bM k aq=some (a,c)) {b base cz:Nat} (hb:β k=some (b,base))
  (eL:st.ro≤k) (hv:aq≤jT) (D4:aq=jT→cz=base) {cs cs':Array Value} {el:TypeId} {fr aA:Nat×Nat} (hw:w.heap[b]?=some (.cells cs el fr)) (hfr:lV cs.size aA) (hsz:cs'.size=cs.size) (hl:cz+c'.length≤cs.size)
  (hc:∀(j:Nat) d,c'[j]?=some d→∃u,cs'[cz+j]?=some u∧u.oneCell'=true∧VR w (st.x β Z) d u):
  Nx w st β Z (wput w b (.cells cs' el aA)) {st with bs:=st.bs.set k (.mem jT a' c')} (fun i=>if i=k then some (b,cz) else β i) Z:=by
 obtain⟨fZ,iw⟩:=aZ hm;have gU:k<st.bs.length:=h.dom k b base hb;have hbl:b<w.heap.size:=h.lt k b base hb
 have hne:∀i,i≠b→(wput w b (.cells cs' el aA)).heap[i]?=w.heap[i]?:=by
  intro i hi;simp only[wput];rw[Array.getElem?_setIfInBounds_ne (by omega)]
 have heq:(wput w b (.cells cs' el aA)).heap[b]?=some (.cells cs' el aA):=by
  simp only[wput];rw[Array.getElem?_setIfInBounds_self_of_lt hbl]
 have qH:∀i,i≠k→({st with bs:=st.bs.set k (.mem jT a' c')}:St).aq i=st.aq i:=by
  intro i hi;simp only[St.aq];rw[List.getElem?_set_ne (by omega)]
 have qG:({st with bs:=st.bs.set k (.mem jT a' c')}:St).aq k=some jT:=by
  simp[St.aq,gU,ck]
 have hk:cZ w (st.x β Z) (wput w b (.cells cs' el aA)) (({st with bs:=st.bs.set k (.mem jT a' c')}:St).x (fun i=>if i=k then some (b,cz) else β i) Z):=by
  refine⟨fun i p hp=>?_,fun i hi=>⟨hi,hne i fun e=>h.zd k b base hb (e▸hi)⟩,fun i q p hi hq=>?_,fun i q hq Bt i' y hy=>?_⟩
  ·by_cases hik:i=k
   ·subst hik;exact⟨(b,cz),by simp[St.x]⟩
   ·exact⟨p,by simp only[St.x] at hp⊢;rw[if_neg hik];exact hp⟩
  ·by_cases hik:i=k
   ·subst hik;simp only[St.x] at hq⊢;rw[qG] at hq;cases hq;exact⟨aq,iw,hv⟩
   ·simp only[St.x] at hq⊢;rw[qH i hik] at hq;exact⟨q,hq,Nat.le_refl _⟩
  ·by_cases hik:i=k
   ·subst hik;simp only[St.x] at hq Bt hy⊢;rw[qG] at hq;cases hq;rw[iw] at Bt;cases Bt;rw[hb] at hy;cases hy;refine⟨by simp[D4 rfl],by simp[bo,heq,hw,hsz]⟩
   ·simp only[St.x] at hy⊢;refine⟨by rw[if_neg hik];exact hy,dC (hne i' fun e=>?_)⟩;subst e;exact hik (h.inj i k _ _ _ hy hb)
 refine⟨⟨?_,?_,?_,?_,?_,?_,?_,?_⟩,hk,⟨rfl,rfl,rfl,by simp[wput],fun i hi hn=>hne i fun e=>hn ?_⟩,?_,fun _ hz=>.inl hz,by simp,rfl,rfl,?_,fun i _ h0=>by
   by_cases e:i=k
   ·subst e;rw[hb] at h0;cases h0
   ·simp only[if_neg e];rw[List.getElem?_set_ne (by omega)];exact⟨h0,rfl⟩⟩
 ·intro i q y hq;simp only[List.length_set];(try dsimp only at hq)
  split at hq
  ·rename_i e;subst e;exact gU
  ·exact h.dom i q y hq
 ·intro i q y hq;simp only[wput,Array.size_setIfInBounds];(try dsimp only at hq)
  split at hq
  ·cases hq;exact hbl
  ·exact h.lt i q y hq
 ·intro i i' q y y' h1 h2;(try dsimp only at h1 h2)
  split at h1<;>split at h2
  ·omega
  ·rename_i e _;cases h1;subst e;exact h.inj _ _ _ _ _ hb h2
  ·rename_i _ e;cases h2;subst e;exact h.inj _ _ _ _ _ h1 hb
  ·exact h.inj i i' q y y' h1 h2
 ·intro i q y hq hz;(try dsimp only at hq)
  split at hq
  ·cases hq;exact h.zd k b base hb hz
  ·exact h.zd i q y hq hz
 ·intro i hz;simp only[wput,Array.size_setIfInBounds];exact h.zl i hz
 ·intro i q y bx hq qN;(try dsimp only at hq qN)
  split at hq
  ·rename_i e;subst e;cases hq;rw[List.getElem?_set_self gU] at qN;cases qN;refine⟨cs',el,aA,heq,by omega,by rw[hsz];exact hfr,fun j d hd=>?_⟩
   ·obtain⟨u,iq,jR,nJ⟩:=hc j d hd;exact⟨u,iq,jR,nJ.mono hk⟩
  ·rename_i e;rw[List.getElem?_set_ne (by omega)] at qN;refine(h.box i q y bx hq qN).ch hk (hne q fun e'=>?_);subst e';exact e (h.inj i k _ _ _ hq hb)
 ·have:=h.flr;simp;omega
 ·have:=h.ro;simp;omega
 ·exact⟨k,base,e▸hb,eL⟩
 ·intro i q y hq;(try dsimp only at hq)
  split at hq
  ·rename_i e;subst e;cases hq;exact .inl ⟨base,hb⟩
  ·exact .inl ⟨y,hq⟩
 ·intro i hi;dsimp only;rw[List.getElem?_set_ne (by omega),if_neg (by omega)];exact⟨rfl,rfl⟩
theorem Nx.write {w:World} {st:St} {β:Nat→Option (Nat×Nat)} {Z:Nat→Prop} (h:eK w st β Z) {k aq jT:Nat} {a a':Bool} {c c':List D} (hm:st.bM k aq=some (a,c)) {b base cz:Nat} (hb:β k=some (b,base))
  (eL:st.ro≤k) (hv:aq≤jT) (D4:aq=jT→cz=base) {cs cs':Array Value} {el:TypeId} {fr:Nat×Nat} (hw:w.heap[b]?=some (.cells cs el fr)) (hsz:cs'.size=cs.size) (hl:cz+c'.length≤cs.size)
  (hc:∀(j:Nat) d,c'[j]?=some d→∃u,cs'[cz+j]?=some u∧u.oneCell'=true∧VR w (st.x β Z) d u):
  Nx w st β Z (wput w b (.cells cs' el fr)) {st with bs:=st.bs.set k (.mem jT a' c')} (fun i=>if i=k then some (b,cz) else β i) Z:=
 Nx.Ch h hm hb eL hv D4 hw (by
  obtain⟨ID,Jc,Jb,e1,_,e3,_⟩:=h.row hm hb;rw[hw] at e1;cases e1
  exact e3) hsz hl hc
end Go.V
namespace Go.V
open Go.RowKit
structure LR (w:World) (x:X) (cs:List D) (us:List Value):Prop where
 len:cs.length=us.length
 one:∀u∈us,u.oneCell'=true
 rel:∀(i:Nat) c u,cs[i]?=some c→us[i]?=some u→VR w x c u
theorem LR.mono {w w':World} {x x':X} {cs:List D} {us:List Value} (h:LR w x cs us) (hk:cZ w x w' x'):LR w' x' cs us:=
 ⟨h.len,h.one,fun i c u hc hu=>(h.rel i c u hc hu).mono hk⟩
theorem LR.at_ {w:World} {x:X} {cs:List D} {us:List Value} (h:LR w x cs us) {j:Nat} {d:D} (hd:cs[j]?=some d):∃u,us[j]?=some u∧u.oneCell'=true∧VR w x d u:=by
 have hj:j<cs.length:=by
  rcases Nat.lt_or_ge j cs.length with h'|h'
  ·exact h'
  ·rw[List.getElem?_eq_none h'] at hd;cases hd
 have EZ:j<us.length:=by rw[←h.len];exact hj
 exact⟨us[j],List.getElem?_eq_getElem EZ,h.one _ (List.getElem_mem EZ),h.rel j d _ hd (List.getElem?_eq_getElem EZ)⟩
theorem LR.agg {w:World} {x:X} {cs:List D} {us:List Value} (h:LR w x cs us):VR w x (.agg cs) (.agg us.toArray):=.agg cs us h.len h.one h.rel
theorem E2 {w:World} {x:X} {cs:List D} {v:Value} (h:VR w x (.agg cs) v):∃us:List Value,v=.agg us.toArray∧LR w x cs us:=by
 obtain⟨us,rfl,h1,h2,h3⟩:=gB h;exact⟨us,rfl,h1,h2,h3⟩
theorem mN {w:World} {x:X} {d:D} {v:Value} {cs:List D} (h:VR w x d v) (hc:d.cells?=some cs):LR w x cs v.cells.toList:=by
 have one:∀u:Value,u.oneCell'=true→v=u→cs=[d]→LR w x cs v.cells.toList:=by
  intro u hu e hcs;subst e;subst hcs
  have:v.cells.toList=[v]:=by cases v<;>first|rfl|simp[Value.oneCell'] at hu
  rw[this];refine⟨rfl,by simpa using hu,fun i c u hc hu=>?_⟩
  cases i with
  |zero=>simp at hc hu;subst hc;subst hu;exact h
  |succ i=>simp at hc
 cases d with
 |agg l=>
  cases hc;obtain⟨us,rfl,hl⟩:=E2 h
  simpa[Value.cells] using hl
 |tup l=>cases hc
 |aY=>cases hc
 |bool b=>cases hc;exact one _ rfl (dA h) rfl
 |int k n=>cases hc;exact one _ rfl (bU h) rfl
 |str s=>cases hc;exact one _ rfl (et h) rfl
 |nul=>cases hc;exact one _ rfl (dM h) rfl
 |pnil=>cases hc;exact one _ rfl (gM h) rfl
 |sl es=>cases hc;obtain⟨_,_,e,_⟩:=jS h;exact one _ rfl e rfl
 |win k v o l s=>cases hc;obtain⟨_,_,e,_⟩:=c_ h;exact one _ rfl e rfl
 |ptr k v o=>cases hc;obtain⟨_,e,_⟩:=bJ h;exact one _ rfl e rfl
 |mp k=>cases hc;obtain⟨_,e,_⟩:=zm h;exact one _ rfl e rfl
 |ep c=>cases hc;obtain⟨_,_,e,_⟩:=pt h;exact one _ rfl e rfl
 |fn f c=>cases hc;obtain⟨_,e,_⟩:=vf h;exact one _ rfl e rfl
 |nilfn=>cases hc;exact one .nilFunc rfl (by cases h with|im _ _ h=>cases h;rfl) rfl
 |nilif=>cases hc;exact one .nilIface rfl (by cases h with|im _ _ h=>cases h;rfl) rfl
theorem Ep {d:D} {cs:List D} (h:d.cells?=some cs):d.cells=cs:=by cases d<;>simp[D.cells?,D.cells] at*<;>exact h
theorem ta (off:Nat):∀(l:List Value) (n:Nat) (cells:Array Value) (k:Nat),off+n+l.length≤cells.size→
  ((l.zipIdx n).foldl (fun cs (p:Value×Nat)=>cs.setIfInBounds (off+p.2) p.1) cells)[k]?=if off+n≤k∧k<off+n+l.length then l[k-(off+n)]? else cells[k]?
 |[],n,cells,k,_=>by simp only[List.zipIdx_nil,List.foldl_nil,List.length_nil,Nat.add_zero];rw[if_neg (by omega)]
 |v::l,n,cells,k,h=>by
  simp only[List.length_cons] at h;simp only[List.zipIdx_cons,List.foldl_cons];rw[ta off l (n+1) _ k (by simp;omega)];simp only[List.length_cons]
  by_cases h1:off+(n+1)≤k∧k<off+(n+1)+l.length
  ·rw[if_pos h1,if_pos (by omega),show k-(off+n)=(k-(off+(n+1)))+1 by omega,List.getElem?_cons_succ]
  ·rw[if_neg h1]
   by_cases h2:k=off+n
   ·subst h2;rw[if_pos (by omega),Nat.sub_self,Array.getElem?_setIfInBounds_self_of_lt (by omega)];rfl
   ·rw[if_neg (by omega),Array.getElem?_setIfInBounds_ne (by omega)]
theorem qY (off:Nat):∀(l:List (Value×Nat)) (cells:Array Value),(l.foldl (fun cs (p:Value×Nat)=>cs.setIfInBounds (off+p.2) p.1) cells).size=cells.size
 |[],cells=>rfl
 |p::l,cells=>by simp only[List.foldl_cons];rw[qY off l];simp
theorem Cg (off:Nat) (c cells:Array Value):(c.zipIdx.foldl (fun cs (c,j)=>cs.setIfInBounds (off+j) c) cells)=((c.toList.zipIdx 0).foldl (fun cs (p:Value×Nat)=>cs.setIfInBounds (off+p.2) p.1) cells):=by
 rw[←Array.foldl_toList,Array.toList_zipIdx]
theorem LR.setMany {w:World} {x:X} {cs ds:List D} {us vs:List Value} (h:LR w x cs us) (g:LR w x ds vs) (off:Nat) (hl:off+ds.length≤cs.length):
  LR w x (setMany cs off ds) (((vs.zipIdx 0).foldl (fun(cs:Array Value) (p:Value×Nat)=>cs.setIfInBounds (off+p.2) p.1) us.toArray)).toList:=by
 have hg:=fun k=>ta off vs 0 us.toArray k (by simp;have:=h.len;have:=g.len;omega);simp only[Nat.add_zero] at hg;have hs:=qY off (vs.zipIdx 0) us.toArray
 have rM:∀k u,((((vs.zipIdx 0).foldl (fun(cs:Array Value) (p:Value×Nat)=>cs.setIfInBounds (off+p.2) p.1) us.toArray)).toList)[k]?=some u→
   (off≤k∧k<off+vs.length∧vs[k-off]?=some u)∨(¬(off≤k∧k<off+vs.length)∧us[k]?=some u):=by
  intro k u hk;rw[Array.getElem?_toList,hg k] at hk
  split at hk
  ·rename_i hc;exact .inl ⟨hc.1,hc.2,hk⟩
  ·rename_i hc;exact .inr ⟨hc,by simpa using hk⟩
 refine⟨?_,fun u hu=>?_,fun i c u hc hu=>?_⟩
 ·exact(dj ds cs off).trans (h.len.trans (List.size_toArray.symm.trans (hs.symm.trans Array.length_toList.symm)))
 ·obtain⟨k,hk⟩:=List.getElem?_of_mem hu
  rcases rM k u hk with⟨_,_,h'⟩|⟨_,h'⟩
  ·exact g.one u (List.mem_of_getElem? h')
  ·exact h.one u (List.mem_of_getElem? h')
 ·rw[gh ds cs off i hl] at hc
  rcases rM i u hu with⟨h1,h2,h'⟩|⟨h1,h'⟩
  ·rw[if_pos ⟨h1,by rw[g.len];exact h2⟩] at hc;exact g.rel _ c u hc h'
  ·rw[if_neg (by rw[g.len];exact h1)] at hc;exact h.rel _ c u hc h'
theorem uP {w:World} {x:X} {place ju:Nat→Option (Nat×Nat)} (hp:∀i r,place i=some r→ju i=some r):∀(parts:List (Nat×D)) (parts':List (Nat×Value)) {cs r:List D} {us:List Value},
  parts.length=parts'.length→(∀(i:Nat) p q,parts[i]?=some p→parts'[i]?=some q→p.1=q.1∧VR w x p.2 q.2)→LR w x cs us→gK place cs parts=some r→
  ∃rs:List Value,Instr.fill ju us.toArray parts'=some rs.toArray∧LR w x r rs
 |[],[],cs,r,us,_,_,h,hf=>by simp[gK] at hf;subst hf;exact⟨us,rfl,h⟩
 |[],_::_,_,_,_,hl,_,_,_=>by simp at hl
 |_::_,[],_,_,_,hl,_,_,_=>by simp at hl
 |(i,d)::parts,(i',v)::parts',cs,r,us,hl,hr,h,hf=>by
  obtain⟨rfl,hv⟩:=hr 0 _ _ rfl rfl;simp only[gK] at hf
  split at hf
  ·rename_i off size ds ka hcs
   split at hf
   ·cases hf
   ·rename_i hn;have Qs:=mN hv hcs;simp only[not_or] at hn;obtain⟨u7,gr⟩:=hn;have u7:ds.length=size:=Decidable.not_not.1 u7;have hlen:off+ds.length≤cs.length:=by omega
    have hsz:v.cells.size=ds.length:=by rw[Qs.len];simp
    obtain⟨rs,h1,h2⟩:=uP hp parts parts' (by simpa using hl) (fun j p q hp hq=>hr (j+1) p q hp hq) (h.setMany Qs off hlen) hf;refine⟨rs,?_,h2⟩;simp only[Instr.fill,hp _ _ ka];rw[if_neg (by simp[hsz,u7];have:=h.len;omega),Cg]
    simpa using h1
  ·cases hf
section
variable{pv:Pv} {P:Program} (ok:pv.Ok P)
include ok
theorem sx (w:World):∀(fs:List Field) {ps:List (Nat×Nat)},kD pv fs=some ps→(fs.mapM (fun f=>(do pure (f.offset,←sizeOf f.type):Sem (Nat×Nat)))).run P w=.ok ps w
 |[],ps,h=>by simp[kD] at h;subst h;simp
 |f::fs,ps,h=>by
  simp only[kD] at h
  split at h
  ·rename_i s hs
   split at h
   ·rename_i r hr;cases h;have:=sx w fs hr;simp only[List.mapM_cons,Sem.run_bind,bq ok hs,Result.andThen_ok,Sem.run_pure];rw[this]
    rfl
   ·cases h
  ·cases h
theorem fL (w:World) (x:X) {t:Nat} {cs:List D} (h:cE pv t=some cs):∃v,(zeroValue t).run P w=.ok v w∧LR w x cs v.cells.toList:=by
 unfold cE at h
 split at h
 ·rename_i z hz;obtain⟨v,hv,rfl⟩:=vF ok hz w;exact⟨v,hv,mN (.im _ _ (pP _ _ v)) h⟩
 ·cases h
theorem Ez {w:World} {x:X} {t:Nat} {parts:List (Nat×D)} {parts':List (Nat×Value)} {d:D} (hl:parts.length=parts'.length)
  (hr:∀(i:Nat) p q,parts[i]?=some p→parts'[i]?=some q→p.1=q.1∧VR w x p.2 q.2) (h:lS pv t parts=some d):
  ∃v,(Instr.build t parts'.toArray).run P w=.ok v w∧VR w x d v:=by
 unfold lS at h
 split at h
 ·rename_i z hz;obtain⟨v,hv,hc⟩:=fL ok w x hz
  have base:∀{r:List D} {place ju:Nat→Option (Nat×Nat)},(∀i r,place i=some r→ju i=some r)→gK place z parts=some r→
    ∃rs:List Value,Instr.fill ju v.cells parts'=some rs.toArray∧LR w x r rs:=by
   intro r place ju hp hf;obtain⟨rs,h2,h3⟩:=uP hp parts parts' hl hr hc hf;exact⟨rs,by simpa using h2,h3⟩
  split at h
  ·rename_i fields hu
   split at h
   ·rename_i ps Ca;obtain⟨r,hf,rfl⟩:=Option.map_eq_some_iff.1 h;obtain⟨rs,h1,h2⟩:=base (ju:=fun i=>ps[i]?) (by simp) hf;refine⟨.agg rs.toArray,?_,h2.agg⟩;have hm:=sx ok w _ Ca;simp only[Instr.build,Sem.run_bind,hv,Result.andThen_ok,aC ok hu,Array.mapM_eq_mapM_toList,Sem.run_map];rw[hm];simp[h1]
   ·cases h
  ·rename_i n e hu
   split at h
   ·rename_i s hs;obtain⟨r,hf,rfl⟩:=Option.map_eq_some_iff.1 h;obtain⟨rs,h1,h2⟩:=base (ju:=fun i=>some (i*s,s)) (by simp) hf;refine⟨.agg rs.toArray,?_,h2.agg⟩;simp[Instr.build,hv,aC ok hu,bq ok hs,h1]
   ·cases h
  ·cases h
 ·cases h
end
end Go.V
namespace Go.V
open Go.RowKit
theorem bQ.append {w:World} {x:X} {b o:Nat} {l r:List D} (h:bQ w x b o l) (g:bQ w x b (o+l.length) r):bQ w x b o (l++r):=by
 intro j d hd;rw[List.getElem?_append] at hd
 split at hd
 ·exact h j d hd
 ·have:=g _ d hd
  rwa [show o+l.length+(j-l.length)=o+j by omega] at this
theorem bQ.nil {w:World} {x:X} {b o:Nat}:bQ w x b o []:=by intro j d hd;simp at hd
theorem mO {w:World} {x:X} {b s:Nat}:∀(es:List D) (off:Nat),(∀(i:Nat) e,es[i]?=some e→e.cells.length=s)→(∀(i:Nat) e,es[i]?=some e→bQ w x b (off+i*s) e.cells)→
  bQ w x b off (es.flatMap D.cells)∧(es.flatMap D.cells).length=es.length*s
 |[],off,_,_=>⟨.nil,by simp⟩
 |e::es,off,hs,hc=>by
  have h0:=hc 0 e rfl;have hl:=hs 0 e rfl
  obtain⟨h1,h2⟩:=mO es (off+s) (fun i e' he=>hs (i+1) e' he) (fun i e' he=>by
   have:=hc (i+1) e' he
   rwa [show off+(i+1)*s=off+s+i*s by rw[Nat.add_mul];omega] at this)
  simp only[List.flatMap_cons,List.length_append,List.length_cons];refine⟨bQ.append (by simpa using h0) (by rw[hl];exact h1),?_⟩;rw[h2,hl,Nat.add_mul];omega
theorem bQ.lr {w:World} {x:X} {b o:Nat} {c:List D} (h:bQ w x b o c) (P:Program):∃us:List Value,(loadCells ⟨b,o,none⟩ c.length).run P w=.ok us.toArray w∧LR w x c us:=by
 obtain⟨us,h1,h2,h3,h4⟩:=h.list;exact⟨us,by rw[←h1];exact oe h2,h1.symm,h3,h4⟩
theorem nr {P:Program} {w:World} (a:Addr):(loadCells a 0).run P w=.ok #[] w:=rfl
theorem xr (w:World) (x:X) (l:List UInt8):LR w x (l.map fun b=>.int .u8 b.toNat) (l.map fun b=>.int .u8 b.toNat):=by
 refine⟨by simp,fun u hu=>?_,fun i c u hc hu=>?_⟩
 ·obtain⟨b,_,rfl⟩:=List.mem_map.1 hu;rfl
 ·simp only[List.getElem?_map] at hc hu
  cases hb:l[i]? with
  |none=>simp[hb] at hc
  |some b=>simp[hb] at hc hu;subst hc;subst hu;exact .im _ _ (.int _ _)
theorem LR.take {w:World} {x:X} {cs:List D} {us:List Value} (h:LR w x cs us) (n:Nat):LR w x (cs.take n) (us.take n):=
 ⟨by simp[h.len],fun u hu=>h.one u (List.mem_of_mem_take hu),fun i c u hc hu=>by
  rw[List.getElem?_take] at hc hu
  split at hc
  ·rename_i hi;rw[if_pos hi] at hu;exact h.rel i c u hc hu
  ·cases hc⟩
theorem LR.append {w:World} {x:X} {cs ds:List D} {us vs:List Value} (h:LR w x cs us) (g:LR w x ds vs):LR w x (cs++ds) (us++vs):=
 ⟨by simp[h.len,g.len],fun u hu=>(List.mem_append.1 hu).elim (h.one u) (g.one u),fun i c u hc hu=>by
  rw[List.getElem?_append] at hc hu
  split at hc
  ·rename_i hi;rw[if_pos (by rw[←h.len];exact hi)] at hu;exact h.rel i c u hc hu
  ·rename_i hi;rw[if_neg (by rw[←h.len];exact hi)] at hu;rw[←h.len] at hu;exact g.rel _ c u hc hu⟩
theorem pF {P:Program} {w:World} {st:St} {β:Nat→Option (Nat×Nat)} {Z:Nat→Prop} (h:eK w st β Z) {d:D} {v:Value} {n:Nat} {ys:List D} (hv:VR w (st.x β Z) d v) (hr:kR st d=some (n,ys)):
  (Builtin.lenOf v).run P w=.ok n w∧∀s m,m≤n→ys.length=n*s→∃us:List Value,(Builtin.firstCells s m v).run P w=.ok us.toArray w∧LR w (st.x β Z) (ys.take (m*s)) us:=by
 unfold kR at hr
 split at hr
 ·rename_i es;cases hr;obtain⟨a,cap,rfl,hc,sX⟩:=jS hv;refine⟨rfl,fun s m hm hs=>?_⟩
  rcases sX with rfl|⟨b,off,s0,rfl,hz,hst,hcl,_⟩
  ·have sU:m=0:=by simpa using hm
   subst sU;refine⟨[],?_,⟨by simp,by simp,by simp⟩⟩
   cases a with
   |none=>simp[Builtin.firstCells]
   |some a=>simp[Builtin.firstCells,nr]
  ·obtain⟨h1,h2⟩:=mO es off (fun i e he=>(hst i e he).2) hcl
   by_cases h0:es.length=0
   ·have sU:m=0:=by omega
    subst sU;exact⟨[],by simp[Builtin.firstCells,nr],⟨by simp,by simp,by simp⟩⟩
   ·have B_:s0=s:=Nat.eq_of_mul_eq_mul_left (by omega) (h2.symm.trans hs);subst B_;obtain⟨us,iq,jR⟩:=(h1.take (m*s0)).lr P;have hle:m*s0≤(es.flatMap D.cells).length:=by rw[h2];exact Nat.mul_le_mul_right _ hm
    rw[List.length_take,Nat.min_eq_left hle] at iq;exact⟨us,iq,jR⟩
 ·cases hr;rw[dM hv];refine⟨rfl,fun s m hm hs=>⟨[],by simp[Builtin.firstCells],⟨by simp,by simp,by simp⟩⟩⟩
 ·rename_i k aq off len sz;obtain⟨⟨a,c⟩,hm,hr⟩:=Option.bind_eq_some_iff.1 hr;dsimp only at hr
  split at hr
  ·rename_i hle;cases hr;obtain⟨ad,cap,rfl,hc,hk,_,hat⟩:=c_ hv;obtain⟨b,base,E7,hb,hsz,rO⟩:=hat (aZ hm).2;have hcl:=((h.cells hm hb).drop off).take (n*sz);have hlen:((c.drop off).take (n*sz)).length=n*sz:=by simp;omega
   refine⟨rfl,fun s m Cc hs=>?_⟩
   rcases rO with rfl|⟨rfl,_⟩
   ·have sU:m=0:=by omega
    subst sU;exact⟨[],by simp[Builtin.firstCells,nr],⟨by simp,by simp,by simp⟩⟩
   ·obtain⟨us,iq,jR⟩:=(hcl.take (m*s)).lr P;have hle:m*s≤((c.drop off).take (n*sz)).length:=by rw[hs];exact Nat.mul_le_mul_right _ Cc
    rw[List.length_take,Nat.min_eq_left hle] at iq;exact⟨us,iq,jR⟩
  ·cases hr
 ·rename_i l;cases hr;rw[et hv];refine⟨by simp[Builtin.lenOf,ByteArray.size],fun s m hm hs=>?_⟩;simp only[List.length_map] at hs
  by_cases h0:l.length=0
  ·have sU:m=0:=by omega
   subst sU;have hl:l=[]:=List.length_eq_zero_iff.1 h0;subst hl;exact⟨[],by simp[Builtin.firstCells],⟨by simp,by simp,by simp⟩⟩
  ·have B_:s=1:=by
    have:l.length*1=l.length*s:=by omega
    exact(Nat.eq_of_mul_eq_mul_left (by omega) this).symm
   subst B_;refine⟨(l.take m).map fun b=>.int .u8 b.toNat,?_,?_⟩
   ·simp only[Builtin.firstCells,Sem.run_pure]
    congr 1
    apply Array.ext';simp[ByteArray.data_extract]
   ·have:=(xr w (st.x β Z) l).take (m*1)
    simpa[←List.map_take] using this
 ·cases hr
def fq (c:Array Value) (off:Nat):List Value→Array Value
 |[]=>c
 |v::vs=>fq (c.setIfInBounds off v) (off+1) vs
theorem ei:∀(vs:List Value) (c:Array Value) (off:Nat),(fq c off vs).size=c.size
 |[],c,off=>rfl
 |v::vs,c,off=>by simp only[fq];rw[ei vs];simp
theorem jW:∀(vs:List Value) (c:Array Value) (off j:Nat),off+vs.length≤c.size→(fq c off vs)[j]?=if off≤j∧j<off+vs.length then vs[j-off]? else c[j]?
 |[],c,off,j,_=>by simp only[fq,List.length_nil,Nat.add_zero];rw[if_neg (by omega)]
 |v::vs,c,off,j,h=>by
  simp only[List.length_cons] at h;simp only[fq,List.length_cons];rw[jW vs _ (off+1) j (by simp;omega)]
  by_cases h1:off+1≤j∧j<off+1+vs.length
  ·rw[if_pos h1,if_pos (by omega),show j-off=(j-(off+1))+1 by omega,List.getElem?_cons_succ]
  ·rw[if_neg h1]
   by_cases h2:j=off
   ·subst h2;rw[if_pos (by omega),Nat.sub_self,Array.getElem?_setIfInBounds_self_of_lt (by omega)];rfl
   ·rw[if_neg (by omega),Array.getElem?_setIfInBounds_ne (by omega)]
theorem jt {P:Program} {b:Nat} {el:TypeId} {fr:Nat×Nat}:∀(vs:List Value) (i o:Nat) (w:World) (c:Array Value),w.heap[b]?=some (.cells c el fr)→o+i+vs.length≤c.size→(∀q,q<c.size→¬(fr.1≤q∧q<fr.2))→
  (∀v∈vs,v.oneCell'=true)→(storeCells ⟨b,o,none⟩ vs i).run P w=.ok () (match vs with|[]=>w|_=>wput w b (.cells (fq c (o+i) vs) el fr))
 |[],i,o,w,c,_,_,_,_=>rfl
 |v::vs,i,o,w,c,hw,hl,hf,h1=>by
  simp only[List.length_cons] at hl
  have Ip:(⟨b,o,none⟩:Addr).add i=⟨b,o+i,none⟩:=by
   unfold Addr.add;split
   ·rename_i e;subst e;rfl
   ·rfl
  have hcell:w.cell? ⟨b,o+i,none⟩=some (c[o+i]'(by omega)):=by
   simp[World.cell?,hw,Array.getElem?_eq_getElem (show o+i<c.size by omega)]
  have hfr:w.frozen? ⟨b,o+i,none⟩=false:=by
   have:=hf (o+i) (by omega);simp only[World.frozen?,hw];simp only[Bool.and_eq_false_iff,decide_eq_false_iff_not];omega
  have fh:w.setCell ⟨b,o+i,none⟩ v=wput w b (.cells (c.setIfInBounds (o+i) v) el fr):=by
   simp only[World.setCell,wput]
   congr 1
   apply Array.ext_getElem?;intro j;rw[Array.getElem?_modify]
   by_cases hj:b=j
   ·subst hj
    have hb:b<w.heap.size:=by
     rcases Nat.lt_or_ge b w.heap.size with h'|h'
     ·exact h'
     ·rw[Array.getElem?_eq_none h'] at hw;cases hw
    rw[if_pos rfl,hw,Array.getElem?_setIfInBounds_self_of_lt hb];simp
   ·rw[if_neg hj,Array.getElem?_setIfInBounds_ne hj]
  have hb:b<w.heap.size:=by
   rcases Nat.lt_or_ge b w.heap.size with h'|h'
   ·exact h'
   ·rw[Array.getElem?_eq_none h'] at hw;cases hw
  have Mu:(wput w b (.cells (c.setIfInBounds (o+i) v) el fr)).heap[b]?=some (.cells (c.setIfInBounds (o+i) v) el fr):=by
   simp only[wput];rw[Array.getElem?_setIfInBounds_self_of_lt hb]
  have ih:=jt (P:=P) vs (i+1) o (wput w b (.cells (c.setIfInBounds (o+i) v) el fr)) _ Mu (by simp;omega) (by simpa using hf) (fun u hu=>h1 u (List.mem_cons_of_mem _ hu));simp only[storeCells,Sem.run_bind,Ip,run_store P w _ v .plain (h1 v (List.mem_cons_self ..)),hcell,hfr,Bool.false_eq_true,if_false,Result.andThen_ok,fh,ih]
  cases vs with
  |nil=>simp[fq]
  |cons v' vs=>
   simp only[fq]
   congr 1
   simp[wput,show o+(i+1)=o+i+1 by omega]
end Go.V
namespace Go.V
open Go.RowKit
theorem Nx.move {w w':World} {st:St} {β:Nat→Option (Nat×Nat)} {Z:Nat→Prop} (h:eK w st β Z) {k aq:Nat} {a a':Bool} {c c':List D} (hm:st.bM k aq=some (a,c)) {b base:Nat} (hb:β k=some (b,base))
  (eL:st.ro≤k) {cs:Array Value} {el:TypeId} (hh:w'.heap=w.heap.push (.cells cs el (0,0))) (ho:w'.os=w.os) (ht:w'.tape=w.tape) (hp:w'.output=w.output) (hl:c'.length≤cs.size)
  (hc:∀(j:Nat) d,c'[j]?=some d→∃u,cs[j]?=some u∧u.oneCell'=true∧VR w (st.x β Z) d u):
  Nx w st β Z w' {st with bs:=st.bs.set k (.mem (aq+1) a' c')} (fun i=>if i=k then some (w.heap.size,0) else β i) Z:=by
 obtain⟨fZ,iw⟩:=aZ hm;have gU:k<st.bs.length:=h.dom k b base hb
 have hold:∀i,i<w.heap.size→w'.heap[i]?=w.heap[i]?:=by
  intro i hi;rw[hh,Array.getElem?_push,if_neg (by omega)]
 have heq:w'.heap[w.heap.size]?=some (.cells cs el (0,0)):=by rw[hh];simp
 have hsz:w'.heap.size=w.heap.size+1:=by rw[hh,Array.size_push]
 have qH:∀i,i≠k→({st with bs:=st.bs.set k (.mem (aq+1) a' c')}:St).aq i=st.aq i:=by
  intro i hi;simp only[St.aq];rw[List.getElem?_set_ne (by omega)]
 have qG:({st with bs:=st.bs.set k (.mem (aq+1) a' c')}:St).aq k=some (aq+1):=by
  simp[St.aq,gU,ck]
 have hk:cZ w (st.x β Z) w' (({st with bs:=st.bs.set k (.mem (aq+1) a' c')}:St).x (fun i=>if i=k then some (w.heap.size,0) else β i) Z):=by
  refine⟨fun i p hp=>?_,fun i hi=>⟨hi,hold i (h.zl i hi)⟩,fun i q p hi hq=>?_,fun i q hq Bt i' y hy=>?_⟩
  ·by_cases hik:i=k
   ·subst hik;exact⟨(w.heap.size,0),by simp[St.x]⟩
   ·exact⟨p,by simp only[St.x] at hp⊢;rw[if_neg hik];exact hp⟩
  ·by_cases hik:i=k
   ·subst hik;simp only[St.x] at hq⊢;rw[qG] at hq;cases hq;exact⟨aq,iw,by omega⟩
   ·simp only[St.x] at hq⊢;rw[qH i hik] at hq;exact⟨q,hq,Nat.le_refl _⟩
  ·by_cases hik:i=k
   ·subst hik;simp only[St.x] at hq Bt hy⊢;rw[qG] at hq;cases hq;rw[iw] at Bt;simp at Bt
   ·simp only[St.x] at hy⊢;exact⟨by rw[if_neg hik];exact hy,dC (hold i' (h.lt i i' y hy))⟩
 refine⟨⟨?_,?_,?_,?_,?_,?_,?_,?_⟩,hk,⟨ho,ht,hp,by omega,fun i hi _=>hold i hi⟩,?_,fun _ hz=>.inl hz,by simp,rfl,rfl,?_,fun i _ h0=>by
   by_cases e:i=k
   ·subst e;rw[hb] at h0;cases h0
   ·simp only[if_neg e];rw[List.getElem?_set_ne (by omega)];exact⟨h0,rfl⟩⟩
 ·intro i q y hq;simp only[List.length_set];(try dsimp only at hq)
  split at hq
  ·rename_i e;subst e;exact gU
  ·exact h.dom i q y hq
 ·intro i q y hq;(try dsimp only at hq)
  split at hq
  ·cases hq;omega
  ·have:=h.lt i q y hq;omega
 ·intro i i' q y y' h1 h2;(try dsimp only at h1 h2)
  split at h1<;>split at h2
  ·omega
  ·rename_i e _;cases h1;have:=h.lt _ _ _ h2;omega
  ·rename_i _ e;cases h2;have:=h.lt _ _ _ h1;omega
  ·exact h.inj i i' q y y' h1 h2
 ·intro i q y hq hz;(try dsimp only at hq)
  split at hq
  ·cases hq;have:=h.zl _ hz;omega
  ·exact h.zd i q y hq hz
 ·intro i hz;have:=h.zl i hz;omega
 ·intro i q y bx hq qN;(try dsimp only at hq qN)
  split at hq
  ·rename_i e;subst e;cases hq;rw[List.getElem?_set_self gU] at qN;cases qN;refine⟨cs,el,(0,0),heq,by omega,lV.zero _,fun j d hd=>?_⟩;obtain⟨u,iq,jR,nJ⟩:=hc j d hd;exact⟨u,by rw[Nat.zero_add];exact iq,jR,nJ.mono hk⟩
  ·rename_i e;rw[List.getElem?_set_ne (by omega)] at qN;exact(h.box i q y bx hq qN).ch hk (hold q (h.lt i q y hq))
 ·have:=h.flr;simp;omega
 ·have:=h.ro;simp;omega
 ·intro i q y hq;(try dsimp only at hq)
  split at hq
  ·cases hq;exact .inr (Nat.le_refl _)
  ·exact .inl ⟨y,hq⟩
 ·intro i hi;dsimp only;rw[List.getElem?_set_ne (by omega),if_neg (by omega)];exact⟨rfl,rfl⟩
theorem di {st:St} {k r:Nat} (h:st.kX k r=true):st.ro≤k:=by
 simp only[St.kX,Bool.and_eq_true,decide_eq_true_eq] at h;exact h.1
theorem va {P:Program} {w:World} {st ah:St} {β:Nat→Option (Nat×Nat)} {Z:Nat→Prop} (h:eK w st β Z) {k aq off:Nat} {ds:List D} {us:List Value} (hu:LR w (st.x β Z) ds us) (hw:st.wr k aq off ds=some ah)
  {b base:Nat} (hb:β k=some (b,base)) {a:Addr} (ha:us=[]∨a=⟨b,base+off,none⟩):∃w',(storeCells a us).run P w=.ok () w'∧∃β',Nx w st β Z w' ah β' Z∧β'=β:=by
 unfold St.wr at hw
 split at hw
 ·rename_i ar c hm
  split at hw
  ·rename_i hc;cases hw;obtain⟨cs,el,fr,h1,h2,h3,h4⟩:=h.row hm hb;have hlen:=hu.len
   have hx:(fun i=>if i=k then some (b,base) else β i)=β:=by
    funext i;split
    ·rename_i e;subst e;exact hb.symm
    ·rfl
   have key:∀cs':Array Value,cs'.size=cs.size→(∀j,cs'[base+j]?=if off≤j∧j<off+us.length then us[j-off]? else cs[base+j]?)→
     Nx w st β Z (wput w b (.cells cs' el fr)) {st with bs:=st.bs.set k (.mem aq ar (setMany c off ds))} β Z:=by
    intro cs' hs hg
    have:=Nx.write (a':=ar) (jT:=aq) (c':=setMany c off ds) (cz:=base) h hm hb (di hc.2) (Nat.le_refl _) (fun _=>rfl) h1 hs (by rw[dj];omega) (fun j d hd=>by
     rw[gh ds c off j hc.1] at hd;rw[hg j]
     split at hd
     ·rename_i hj;rw[if_pos (by omega)];exact hu.at_ hd
     ·rename_i hj;rw[if_neg (by omega)]
      exact h4 j d hd)
    rwa [hx] at this
   rcases Nat.eq_zero_or_pos us.length with h0|h0
   ·have Lt:us=[]:=List.length_eq_zero_iff.1 h0;subst Lt;have eV:b<w.heap.size:=h.lt k b base hb
    have Ac:wput w b (.cells cs el fr)=w:=by
     simp only[wput]
     have:w.heap.setIfInBounds b (.cells cs el fr)=w.heap:=by
      apply Array.ext_getElem?;intro j
      by_cases hj:b=j
      ·subst hj;rw[Array.getElem?_setIfInBounds_self_of_lt eV,h1]
      ·rw[Array.getElem?_setIfInBounds_ne hj]
     rw[this]
    have:=key cs rfl (fun j=>by rw[if_neg (by simp only[List.length_nil,Nat.add_zero];omega)]);rw[Ac] at this;exact⟨w,rfl,β,this,rfl⟩
   ·rcases ha with rfl|rfl
    ·simp at h0
    ·have hrun:=jt (P:=P) us 0 (base+off) w cs h1 (by omega) h3.2 hu.one;refine⟨_,hrun,β,?_,rfl⟩
     cases us with
     |nil=>simp at h0
     |cons u us=>
      refine key _ (ei _ _ _) fun j=>?_;rw[jW _ _ _ _ (by omega)]
      by_cases hj:off≤j∧j<off+(u::us).length
      ·rw[if_pos hj,if_pos (by omega)];congr 1<;>omega
      ·rw[if_neg hj,if_neg (by omega)]
  ·cases hw
 ·cases hw
section
variable{pv:Pv} {P:Program} (ok:pv.Ok P)
include ok
theorem Cu {w:World} {st ah:St} {β:Nat→Option (Nat×Nat)} {Z:Nat→Prop} (h:eK w st β Z) {t:Nat} {d e:D} {u v:Value} (hu:VR w (st.x β Z) d u) (hv:VR w (st.x β Z) e v) (hs:jU pv t d e st=some ah):
  ∃w',(Instr.storeAt t u v).run P w=.ok () w'∧Nx w st β Z w' ah β Z:=by
 unfold jU at hs
 split at hs
 ·rename_i k aq off cs hcs
  split at hs
  ·rename_i hsz;obtain⟨a,rfl,hk,hat⟩:=bJ hu;have hc:=mN hv hcs
   have iw:st.aq k=some aq:=by
    unfold St.wr at hs
    split at hs
    ·rename_i hm;exact(aZ hm).2
    ·cases hs
   obtain⟨b,base,hb,rfl⟩:=hat iw;obtain⟨w',h1,β',h2,rfl⟩:=va (P:=P) h hc hs hb (.inr rfl);refine⟨w',?_,h2⟩;have wP:v.cells.size=cs.length:=by rw[hc.len];simp
   simp[Instr.storeAt,Instr.sureAddr,storeVar,bq ok hsz,wP,h1]
  ·cases hs
 ·cases hs
theorem Gn {w:World} {st ah:St} {β:Nat→Option (Nat×Nat)} {Z:Nat→Prop} (h:eK w st β Z) {nb:List TypeId} {ty:TypeId} {d e r:D} {u v:Value} (hu:VR w (st.x β Z) d u) (hv:VR w (st.x β Z) e v)
  (hs:tj pv nb d e st=some (r,ah)):∃z w',(Builtin.copy_ nb.toArray ty #[u,v]).run P w=.ok z w'∧Nx w st β Z w' ah β Z∧VR w' (ah.x β Z) r z:=by
 unfold tj at hs
 split at hs
 ·rename_i dT rest
  split at hs
  ·rename_i el Ii;obtain⟨s,hsz,hs⟩:=Option.bind_eq_some_iff.1 hs;obtain⟨⟨m,ys⟩,gO,hs⟩:=Option.bind_eq_some_iff.1 hs;dsimp only at hs
   split at hs
   ·cases hs
   ·rename_i jQ;have jQ:ys.length=m*s:=Decidable.not_not.1 jQ;obtain⟨hlen,db⟩:=pF (P:=P) h hv gO
    cases d with
    |win k aq off len sz=>
     simp only at hs
     split at hs
     ·cases hs
     ·rename_i B_;have B_:sz=s:=Decidable.not_not.1 B_;subst B_;obtain⟨a,cap,rfl,hc,hk,_,hat⟩:=c_ hu;obtain⟨st1,hwr,hs⟩:=Option.map_eq_some_iff.1 hs;cases hs
      have iw:st.aq k=some aq:=by
       unfold St.wr at hwr
       split at hwr
       ·rename_i hm;exact(aZ hm).2
       ·cases hwr
      obtain⟨b,base,E7,hb,_,rO⟩:=hat iw;obtain⟨us,h1,h2⟩:=db sz (min m len) (Nat.min_le_left _ _) jQ
      have hla:us=[]∨a=⟨b,base+off,none⟩:=by
       rcases rO with rfl|⟨rfl,_⟩
       ·left;have:len=0:=by omega
        subst this;have:=h2.len;simp at this;exact List.length_eq_zero_iff.1 this.symm
       ·exact .inr rfl
      obtain⟨w',h3,β',h4,rfl⟩:=va (P:=P) h h2 hwr hb hla;refine⟨_,w',?_,h4,.im _ _ (.int _ _)⟩;have F_:Nat.min m len=min m len:=rfl;simp only[Builtin.copy_,List.getElem?_toArray,List.getElem?_cons_zero,List.getElem?_cons_succ,Sem.run_bind,aC ok Ii,Result.andThen_ok,hlen,bq ok hsz,F_,h1,h3,Sem.run_pure,goInt]
    |nul=>
     cases hs;rw[dM hu];obtain⟨us,h1,h2⟩:=db s 0 (Nat.zero_le _) jQ;have Lt:us=[]:=by have:=h2.len;simp at this;exact List.length_eq_zero_iff.1 this.symm
     subst Lt;refine⟨.int .i64 0,w,?_,Nx.same h,.im _ _ (.int _ _)⟩;have F_:Nat.min m 0=0:=Nat.min_zero m;simp only[Builtin.copy_,List.getElem?_toArray,List.getElem?_cons_zero,List.getElem?_cons_succ,Sem.run_bind,aC ok Ii,Result.andThen_ok,hlen,bq ok hsz,F_,h1,Sem.run_pure,goInt]
     rfl
    |_=>cases hs
  ·cases hs
 ·cases hs
end
end Go.V
namespace Go.V
open Go.RowKit
theorem Aj:∀(r c n:Nat),c≤n+n/4+192→Builtin.growBy n r c≤n+n/4+192
 |0,c,n,h=>h
 |r+1,c,n,h=>by
  unfold Builtin.growBy
  split
  ·exact h
  ·exact Aj r _ n (by omega)
theorem FJ (n c:Nat) (h:c≤n):Builtin.nextslicecap n c≤2*n+192:=by
 unfold Builtin.nextslicecap
 split
 ·omega
 ·split
  ·omega
  ·have:=Aj 4 c n (by omega);omega
theorem A_ {ua c bytes:Nat} (hc:c≤ua) (h1:1≤ua) (h:ua*bytes≤1099511627776):¬Builtin.nextslicecap ua c*bytes>2^48:=by
 have h2:=Nat.mul_le_mul_right bytes (FJ ua c hc);rw[Nat.add_mul,Nat.mul_assoc] at h2;have h3:bytes≤ua*bytes:=by have:=Nat.mul_le_mul_right bytes h1;omega
 have:192*bytes≤192*1099511627776:=Nat.mul_le_mul_left _ (by omega);omega
theorem Et (ua kS:Nat) (el:TypeId) (t:Nat):ua≤(Question.appendCap ua kS el).cut t:=by
 simp only[Question.cut];omega
theorem rE (w:World) (cs:Array Value) (el:TypeId) (fr:Nat×Nat):bo (w.alloc (.cells cs el fr)) w.heap.size=some cs.size:=by
 have:(w.alloc (.cells cs el fr)).heap[w.heap.size]?=some (.cells cs el fr):=by
  show(w.heap.push _)[w.heap.size]?=_;simp
 simp only[bo,this]
theorem iV {w':World} {x:X} {k v len s cap b sz:Nat} (iw:x.aq k=some v) (hb:x.β k=some (b,0)) (hsz:bo w' b=some sz) (hl:len≤cap) (hc:cap*s≤sz):
  VR w' x (.win k v 0 len s) (.slice (some ⟨b,0,none⟩) len cap):=by
 refine .win k v 0 len s _ cap hl ⟨_,hb⟩ (fun c Cf=>?_) fun _=>⟨b,0,sz,hb,hsz,.inr ⟨rfl,by omega⟩⟩
 rw[iw] at Cf;cases Cf;exact Nat.le_refl _
def xw (i:TypeInfo) (base:Option Addr) (sLen sCap n:Nat) (v:Value):Sem Value:=do
 let new←Builtin.firstCells i.size n v
 if let some a:=base then storeCells (a.add (sLen*i.size)) new.toList
 pure (.slice base (sLen+n) sCap)
def zf (el:TypeId) (i:TypeInfo) (base:Option Addr) (sLen sCap n:Nat) (v:Value):Sem Value:=do
 let yr←choose (.appendCap (sLen+n) sCap el)
 askRoom (yr*i.bytes)
 let kS←Builtin.firstCells i.size sLen (.slice base sLen sCap)
 let new←Builtin.firstCells i.size n v
 let z←zeroValue el
 pure (.slice (some (←newRow el (kS++new++Builtin.zeroCells z.cells (yr-(sLen+n))))) (sLen+n) yr)
section
variable{pv:Pv} {P:Program} (ok:pv.Ok P)
include ok
theorem ze {w:World} {sT xT el n:Nat} {rest:List TypeId} {ty:TypeId} {xd:TypeDesc} {i:TypeInfo} {base:Option Addr} {sLen sCap:Nat} {v:Value} (GQ:pv.bY sT=some (.slice el)) (GN:pv.bY xT=some xd) (F6:¬eT xd=true)
  (hi:pv.info el=some i) (hlen:(Builtin.lenOf v).run P w=.ok n w) (kc:sLen+n≤sCap):
  (Builtin.append_ (sT::xT::rest).toArray ty #[.slice base sLen sCap,v]).run P w=(xw i base sLen sCap n v).run P w:=by
 have wP:∀w':World,(sizeOf el).run P w'=.ok i.size w':=bq ok (jq hi);cases xd<;>first
  |exact absurd rfl F6
  |(simp only[Builtin.append_,xw,List.getElem?_toArray,List.getElem?_cons_zero,List.getElem?_cons_succ,Sem.run_bind,aC ok GQ,aC ok GN,Result.andThen_ok,wP,Sem.run_pure,Bool.false_eq_true,if_false,hlen,kc,if_true,Bool.not_false];rfl)
theorem Gy {w:World} {sT xT el n:Nat} {rest:List TypeId} {ty:TypeId} {xd:TypeDesc} {i:TypeInfo} {base:Option Addr} {sLen sCap:Nat} {v:Value} (GQ:pv.bY sT=some (.slice el)) (GN:pv.bY xT=some xd) (F6:¬eT xd=true)
  (hi:pv.info el=some i) (hlen:(Builtin.lenOf v).run P w=.ok n w) (kc:¬sLen+n≤sCap) (N2:¬i.bytes=0) (hroom:¬Builtin.nextslicecap (sLen+n) sCap*i.bytes>2^48):
  (Builtin.append_ (sT::xT::rest).toArray ty #[.slice base sLen sCap,v]).run P w=(zf el i base sLen sCap n v).run P w:=by
 have wP:∀w':World,(sizeOf el).run P w'=.ok i.size w':=bq ok (jq hi);have KE:∀w':World,(typeInfo el).run P w'=.ok i w':=mc ok hi;cases xd<;>first
  |exact absurd rfl F6
  |(simp only[Builtin.append_,zf,List.getElem?_toArray,List.getElem?_cons_zero,List.getElem?_cons_succ,Sem.run_bind,aC ok GQ,aC ok GN,Result.andThen_ok,wP,Sem.run_pure,Bool.false_eq_true,if_false,hlen,kc,KE,N2,hroom,or_self,and_false,Bool.not_false,if_true];try rfl)
theorem tu {w:World} {st ah:St} {β:Nat→Option (Nat×Nat)} {Z:Nat→Prop} (h:eK w st β Z) {nb:List TypeId} {ty:TypeId} {d e r:D} {u v:Value} (hu:VR w (st.x β Z) d u) (hv:VR w (st.x β Z) e v)
  (hs:cN pv nb d e st=some (r,ah)):∃z w' β',(Builtin.append_ nb.toArray ty #[u,v]).run P w=.ok z w'∧Nx w st β Z w' ah β' Z∧VR w' (ah.x β' Z) r z:=by
 unfold cN at hs
 split at hs
 ·rename_i sT xT rest
  split at hs
  ·rename_i el xd GQ GN
   split at hs
   ·cases hs
   ·rename_i F6;obtain⟨i,hi,hs⟩:=Option.bind_eq_some_iff.1 hs;obtain⟨z,hz,hs⟩:=Option.bind_eq_some_iff.1 hs;obtain⟨⟨n,ys⟩,gO,hs⟩:=Option.bind_eq_some_iff.1 hs;dsimp only at hs
    split at hs
    ·cases hs
    ·rename_i uJ;simp only[not_or] at uJ;obtain⟨jQ,N2,jJ⟩:=uJ;have jQ:ys.length=n*i.size:=Decidable.not_not.1 jQ;have jJ:z.length=i.size:=Decidable.not_not.1 jJ;obtain⟨hlen,db⟩:=pF (P:=P) h hv gO;obtain⟨us,HG,Bn⟩:=db i.size n (Nat.le_refl _) jQ;rw[←jQ,List.take_length] at Bn;have hS:Nx w st β Z w.drew st β Z:=Nx.still h rfl rfl rfl rfl;obtain⟨zv,JS,hzc⟩:=fL ok w.drew (st.x β Z) hz;have hzs:zv.cells.size=i.size:=by have:=hzc.len;rw[jJ] at this;simpa using this.symm
     obtain⟨vs,Mv,FY⟩:=(pF (P:=P) hS.sim (hv.mono hS.keeps) gO).2 i.size n (Nat.le_refl _) jQ;rw[←jQ,List.take_length] at FY
     have grow:∀(base:Option Addr) (sLen sCap:Nat) (os:List Value),u=.slice base sLen sCap→¬(sLen+n≤sCap)→(Builtin.firstCells i.size sLen u).run P w.drew=.ok os.toArray w.drew→os.length=sLen*i.size→
       1≤sLen+n→(sLen+n)*i.bytes≤1099511627776→
       ∃cap cs,(Builtin.append_ (sT::xT::rest).toArray ty #[u,v]).run P w=.ok (.slice (some ⟨w.heap.size,0,none⟩) (sLen+n) cap) (w.drew.alloc (.cells cs el))∧sLen+n≤cap∧
        cap*i.size≤cs.size∧∀(j:Nat) q,(os++vs)[j]?=some q→cs[j]?=some q:=by
      intro base sLen sCap os RG kc Si HZ h1 hroom;subst RG;have BB:=Et (sLen+n) sCap el (w.tape w.drawn (.appendCap (sLen+n) sCap el));generalize hq:(Question.appendCap (sLen+n) sCap el).cut (w.tape w.drawn (.appendCap (sLen+n) sCap el))=cap at BB;refine⟨cap,os.toArray++vs.toArray++Builtin.zeroCells zv.cells (cap-(sLen+n)),?_,BB,?_,?_⟩
      ·have HQ:=A_ (bytes:=i.bytes) (Nat.le_of_lt (Nat.lt_of_not_le kc)) h1 hroom;rw[Gy ok GQ GN F6 hi hlen kc N2 HQ,zf];simp only[Sem.run_bind,run_choose,Question.forced,Bool.false_eq_true,if_false,Result.andThen_ok,run_askRoom];have BA:({w with drawn:=w.drawn+1}:World)=w.drew:=rfl;rw[BA,hq];simp only[Result.andThen_ok,Si,Mv,JS,newRow,Sem.run_bind,run_newObj,Sem.run_pure]
       rfl
      ·simp only[Array.size_append,List.size_toArray,Builtin.zeroCells,Array.size_map,Array.size_range,hzs];have:=FY.len;rw[HZ,←this,jQ,←Nat.add_mul,←Nat.add_mul];exact Nat.mul_le_mul_right _ (by omega)
      ·intro j q hj
       have hlt:j<(os++vs).length:=by
        rcases Nat.lt_or_ge j (os++vs).length with h'|h'
        ·exact h'
        ·rw[List.getElem?_eq_none h'] at hj;cases hj
       rw[Array.getElem?_append_left (by simpa using hlt)]
       simpa using hj
     cases d with
     |nul=>
      have My:=dM hu;simp only at hs
      split at hs
      ·rename_i hn;cases hs;subst My;subst hn;have HH:us=[]:=by have:=Bn.len;rw[jQ] at this;simp at this;exact List.length_eq_zero_iff.1 this.symm
       subst HH;refine⟨.slice none 0 0,w,β,?_,Nx.same h,.im _ _ .nul⟩;rw[ze ok GQ GN F6 hi hlen (by omega),xw];simp only[Sem.run_bind,HG,Result.andThen_ok,Sem.run_pure]
      ·rename_i hn
       split at hs
       ·rename_i hroom;cases hs;obtain⟨cap,cs,h1,h2,h3,h4⟩:=grow none 0 0 [] My (by omega) (by rw[My];simp[Builtin.firstCells]) (by simp) (by omega) (by simpa using hroom);simp only[Nat.zero_add,List.nil_append] at h1 h2 h4
        obtain⟨hx,hx1,I3,RA⟩:=Nx.g_ (w':=w.drew.alloc (.cells cs el)) hS.sim true ys cs el (0,0) rfl rfl rfl rfl (by
         rw[jQ];exact Nat.le_trans (Nat.mul_le_mul_right _ h2) h3) (lV.zero _) (fun j q hq=>by
          obtain⟨y,hy1,wM,FX⟩:=FY.at_ hq
          exact⟨y,h4 j y hy1,wM,FX⟩)
        exact⟨_,_,_,h1,hS.trans hx,iV I3 RA hx1 h2 h3⟩
       ·cases hs
     |win k aq off len sz=>
      simp only at hs
      split at hs
      ·rename_i c hm
       split at hs
       ·cases hs
       ·rename_i hsz;simp only[not_or,Nat.not_lt] at hsz;obtain⟨hsz,hcl⟩:=hsz;have hsz:sz=i.size:=Decidable.not_not.1 hsz;obtain⟨a,cap,rfl,hc,hk,_,hat⟩:=c_ hu;obtain⟨b,base,E7,hb,DC,rO⟩:=hat (aZ hm).2
        split at hs
        ·rename_i hn;cases hs;subst hn;have HH:us=[]:=by have:=Bn.len;rw[jQ] at this;simp at this;exact List.length_eq_zero_iff.1 this.symm
         subst HH;refine⟨.slice (some a) len cap,w,β,?_,Nx.same h,hu⟩;rw[ze ok GQ GN F6 hi hlen (by omega),xw];simp only[Sem.run_bind,HG,Result.andThen_ok,Sem.run_pure]
         rfl
        ·rename_i hn
         split at hs
         ·rename_i hroom;obtain⟨hroom,u9⟩:=hroom;cases hs;subst hsz;have wZ:((c.take (off+len*i.size)).drop off).length=len*i.size:=by simp;omega
          obtain⟨ID,Jc,Jb,r1,r2,r3,r4⟩:=h.row hm hb
          by_cases kc:len+n≤cap
          ·
           have N5:a=⟨b,base+off,none⟩∧base+off+cap*i.size≤E7:=by
            rcases rO with h0|h0
            ·omega
            ·exact h0
           obtain⟨rfl,jN⟩:=N5;have RN:ID.size=E7:=by simp only[bo,r1] at DC;cases DC;rfl
           have RF:us.length=n*i.size:=by rw[←Bn.len,jQ]
           have KG:(len+n)*i.size≤cap*i.size:=Nat.mul_le_mul_right _ kc;rw[Nat.add_mul] at KG;have hrun:=jt (P:=P) us 0 (base+off+len*i.size) w ID r1 (by omega) r3.2 Bn.one
           have Ip:(⟨b,base+off,none⟩:Addr).add (len*i.size)=⟨b,base+off+len*i.size,none⟩:=by
            unfold Addr.add;split
            ·rename_i e;rw[e];rfl
            ·rfl
           have hne:us≠[]∨us=[]:=by cases us<;>simp
           have H_:(storeCells ⟨b,base+off+len*i.size,none⟩ us).run P w=.ok () (wput w b (.cells (fq ID (base+off+len*i.size) us) Jc Jb)):=by
            rw[hrun]
            cases us with
            |nil=>
             simp only[fq];have eV:b<w.heap.size:=h.lt k b base hb
             congr 1
             simp only[wput]
             have:w.heap.setIfInBounds b (.cells ID Jc Jb)=w.heap:=by
              apply Array.ext_getElem?;intro j
              by_cases hj:b=j
              ·subst hj;rw[Array.getElem?_setIfInBounds_self_of_lt eV,r1]
              ·rw[Array.getElem?_setIfInBounds_ne hj]
             rw[this]
            |cons _ _=>simp
           have hx:=Nx.write (a':=true) (jT:=aq+1) (c':=(c.take (off+len*i.size)).drop off++ys) (cz:=base+off) h hm hb (di u9) (by omega) (fun e=>by omega) r1
            (ei us ID (base+off+len*i.size)) (by rw[List.length_append,wZ,jQ];omega) (fun j q hq=>by
             rw[jW _ _ _ _ (by omega)];rw[List.getElem?_append] at hq
             split at hq
             ·rename_i hj;rw[wZ] at hj;rw[if_neg (by omega)];rw[List.getElem?_drop,List.getElem?_take] at hq
              split at hq
              ·have:=r4 _ q hq
               rwa [show base+(off+j)=base+off+j by omega] at this
              ·cases hq
             ·rename_i hj;rw[wZ] at hj hq;obtain⟨y,hy1,wM,FX⟩:=Bn.at_ hq
              have hjl:j-len*i.size<us.length:=by
               rcases Nat.lt_or_ge (j-len*i.size) us.length with h'|h'
               ·exact h'
               ·rw[List.getElem?_eq_none h'] at hy1;cases hy1
              rw[if_pos (by omega)]
              exact⟨y,by rw[←hy1];congr 1;omega,wM,FX⟩)
           have gU:k<st.bs.length:=h.dom k b base hb;refine⟨.slice (some ⟨b,base+off,none⟩) (len+n) cap,_,_,?_,hx,?_⟩
           ·rw[ze ok GQ GN F6 hi hlen kc,xw];simp only[Sem.run_bind,HG,Result.andThen_ok,Sem.run_pure,Ip,H_]
           ·refine .win k (aq+1) 0 (len+n) i.size _ cap kc ⟨_,by simp[St.x];rfl⟩ (fun q hq=>?_) fun _=>⟨b,base+off,ID.size,by simp[St.x],?_,.inr ⟨rfl,by omega⟩⟩
            ·simp[St.x,St.aq,gU,ck] at hq;omega
            ·have eV:b<w.heap.size:=h.lt k b base hb;simp only[bo,wput];rw[Array.getElem?_setIfInBounds_self_of_lt eV];simp[ei]
          ·
           have hold:∃os:List Value,(Builtin.firstCells i.size len (.slice (some a) len cap)).run P w.drew=.ok os.toArray w.drew∧LR w.drew (st.x β Z) ((c.take (off+len*i.size)).drop off) os:=by
            have JX:kR st (.win k aq off len i.size)=some (len,(c.drop off).take (len*i.size)):=by
             simp[kR,hm,hcl]
            have:=(pF (P:=P) hS.sim (hu.mono hS.keeps) JX).2 i.size len (Nat.le_refl _) (by simp;omega);obtain⟨os,xE,uF⟩:=this;refine⟨os,xE,?_⟩;rw[List.take_take,Nat.min_self] at uF
            rwa [List.drop_take,Nat.add_sub_cancel_left]
           obtain⟨os,xE,uF⟩:=hold;have HZ:os.length=len*i.size:=by rw[←uF.len,wZ]
           obtain⟨IH,cs,h1,h2,h3,h4⟩:=grow (some a) len cap os rfl kc xE HZ (by omega) hroom;have xF:=uF.append FY
           have hx:=Nx.move (w':=w.drew.alloc (.cells cs el)) (a':=true) (c':=(c.take (off+len*i.size)).drop off++ys) hS.sim hm hb (di u9) rfl rfl rfl rfl (by
            rw[List.length_append,wZ,jQ,←Nat.add_mul];exact Nat.le_trans (Nat.mul_le_mul_right _ h2) h3) (fun j q hq=>by
             obtain⟨y,hy1,wM,FX⟩:=xF.at_ hq
             exact⟨y,h4 j y hy1,wM,FX⟩)
           have gU:k<st.bs.length:=h.dom k b base hb;refine⟨_,_,_,h1,hS.trans hx,?_⟩
           refine .win k (aq+1) 0 (len+n) i.size _ IH h2 ⟨_,by simp[St.x];rfl⟩ (fun q hq=>?_) fun _=>⟨w.heap.size,0,cs.size,by simp[St.x],rE w.drew cs el (0,0),.inr ⟨rfl,by omega⟩⟩
           simp[St.x,St.aq,gU,ck] at hq;omega
         ·cases hs
      ·cases hs
     |_=>cases hs
  ·cases hs
 ·cases hs
end
end Go.V
namespace Go.V
open Go.RowKit
theorem kj (b o n:Nat):(⟨b,o,none⟩:Addr).add n=⟨b,o+n,none⟩:=by
 unfold Addr.add;split
 ·rename_i e;subst e;rfl
 ·rfl
theorem IR.Ef {w:World} {Z:Nat→Prop} {cs:List D} {b off:Nat} {f:Nat→Value} (hz:Z b) (hv:∀(j:Nat) c,cs[j]?=some c→w.cell? ⟨b,off+j,none⟩=some (f j)∧(f j).oneCell'=true)
  (hr:∀(j:Nat) c,cs[j]?=some c→IR w Z c (f j)) (n:Nat):IR w Z (.ep (cs.drop n)) (.pointer (some ⟨b,off+n,none⟩)):=by
 refine .ep _ b (off+n) (fun j=>f (n+j)) hz (fun j c hj=>?_) (fun j c hj=>?_)
 ·rw[List.getElem?_drop] at hj;have:=hv _ c hj
  rwa [show off+(n+j)=off+n+j by omega] at this
 ·rw[List.getElem?_drop] at hj;exact hr _ c hj
theorem VR.CP {w:World} {x:X} {k vr off:Nat} {a:Addr} (h:VR w x (.ptr k vr off) (.pointer (some a))) (n:Nat):VR w x (.ptr k vr (off+n)) (.pointer (some (a.add n))):=by
 cases h with
 |im _ _ h=>cases h
 |ptr _ _ _ _ hk hm h=>
  refine .ptr k vr (off+n) _ hk hm fun hv=>?_;obtain⟨b,base,hb,rfl⟩:=h hv;exact⟨b,base,hb,by rw[kj,Nat.add_assoc]⟩
theorem rQ (s:List UInt8) (l h:Nat):(⟨s.toArray⟩:ByteArray).extract l h=⟨((s.take h).drop l).toArray⟩:=by
 apply ByteArray.ext;simp[ByteArray.data_extract,List.extract_eq_take_drop,List.drop_take]
section
variable{pv:Pv} {P:Program} (ok:pv.Ok P)
include ok
theorem uQ {w:World} {x:X} {t i:Nat} {d r:D} {u:Value} (hu:VR w x d u) (h:d_ pv t d i=some r):∃z,(Instr.fieldAt t u i).run P w=.ok z w∧VR w x r z:=by
 unfold d_ at h
 split at h
 ·rename_i fields ht;obtain⟨f,hf,h⟩:=Option.bind_eq_some_iff.1 h
  split at h
  ·cases h
  ·rename_i h0;obtain⟨s,hs,h⟩:=Option.bind_eq_some_iff.1 h;have I4:¬s=0:=by intro e;subst e;exact h0 hs
   split at h
   ·cases h;obtain⟨a,rfl,_⟩:=bJ hu;refine⟨.pointer (some (a.add f.offset)),?_,hu.CP _⟩;simp[Instr.fieldAt,aC ok ht,hf,Instr.sureAddr,fieldPlace,bq ok hs,I4]
   ·cases h;obtain⟨b,off,rfl,hz,_,g,hv,hr⟩:=pt hu;refine⟨.pointer (some ((⟨b,off,none⟩:Addr).add f.offset)),?_,.im _ _ ?_⟩
    ·simp[Instr.fieldAt,aC ok ht,hf,Instr.sureAddr,fieldPlace,bq ok hs,I4]
    ·rw[kj];exact IR.Ef hz hv hr _
   ·cases h
 ·cases h
theorem Ec {w:World} {x:X} {t i:Nat} {d r:D} {u:Value} (hu:VR w x d u) (h:yV pv t d i=some r):∃z,(Instr.field t u i).run P w=.ok z w∧VR w x r z:=by
 unfold yV at h
 split at h
 ·rename_i fields cs ht;obtain⟨f,hf,h⟩:=Option.bind_eq_some_iff.1 h;obtain⟨us,rfl,hl,h1,hr⟩:=gB hu;obtain⟨z,hz,xB⟩:=kE ok hl h1 hr h;exact⟨z,by simp[Instr.field,aC ok ht,hf,asAgg,hz],xB⟩
 ·cases h
theorem Dx {w:World} {x:X} {t:Nat} {d e r:D} {u v:Value} (hu:VR w x d u) (hv:VR w x e v) (h:nI pv t d e=some r):∃z,(Instr.index t u v).run P w=.ok z w∧VR w x r z:=by
 unfold nI at h
 split at h
 ·rename_i k i;rw[bU hv]
  split at h
  ·rename_i len el cs ht;obtain⟨s,hs,h⟩:=Option.bind_eq_some_iff.1 h
   split at h
   ·rename_i hi;obtain⟨us,rfl,hl,h1,hr⟩:=gB hu;obtain⟨z,hz,xB⟩:=kE ok hl h1 hr h;exact⟨z,by simp[Instr.index,asIntOf,aC ok ht,hi,bq ok hs,hz],xB⟩
   ·cases h
  ·rename_i l ht
   split at h
   ·rename_i hi;obtain⟨b,hb,rfl⟩:=Option.map_eq_some_iff.1 h;rw[et hu];refine⟨.int .u8 b.toNat,?_,.im _ _ (.int _ _)⟩
    have:(⟨l.toArray⟩:ByteArray)[i.toNat]?=some b:=by
     have hlt:i.toNat<l.length:=by
      rcases Nat.lt_or_ge i.toNat l.length with h'|h'
      ·exact h'
      ·rw[List.getElem?_eq_none h'] at hb;cases hb
     rw[getElem?_pos (⟨l.toArray⟩:ByteArray) i.toNat (by simpa[ByteArray.size] using hlt)];rw[List.getElem?_eq_getElem hlt] at hb;cases hb
     rfl
    simp[Instr.index,asIntOf,aC ok ht,hi,this]
   ·cases h
  ·cases h
 ·cases h
theorem uy {w:World} {st:St} {β:Nat→Option (Nat×Nat)} {Z:Nat→Prop} {t:Nat} {d e r:D} {u v:Value} (hu:VR w (st.x β Z) d u) (hv:VR w (st.x β Z) e v) (h:bB pv t d e st=some r):
  ∃z,(Instr.indexAt t u v).run P w=.ok z w∧VR w (st.x β Z) r z:=by
 unfold bB at h
 split at h
 ·rename_i k i;rw[bU hv]
  split at h
  ·rename_i len el k aq off ht;obtain⟨s,hs,h⟩:=Option.bind_eq_some_iff.1 h
   split at h
   ·rename_i hi;cases h;obtain⟨a,rfl,_⟩:=bJ hu;exact⟨.pointer (some (a.add (i.toNat*s))),by simp[Instr.indexAt,asIntOf,aC ok ht,Instr.sureAddr,hi,bq ok hs],hu.CP _⟩
   ·cases h
  ·rename_i len el c ht;obtain⟨s,hs,h⟩:=Option.bind_eq_some_iff.1 h
   split at h
   ·rename_i hi;cases h;obtain⟨b,off,rfl,hz,_,g,hv,hr⟩:=pt hu;refine⟨.pointer (some ((⟨b,off,none⟩:Addr).add (i.toNat*s))),by simp[Instr.indexAt,asIntOf,aC ok ht,Instr.sureAddr,hi,bq ok hs],.im _ _ ?_⟩;rw[kj];exact IR.Ef hz hv hr _
   ·cases h
  ·rename_i el es ht;obtain⟨s,hs,h⟩:=Option.bind_eq_some_iff.1 h
   split at h
   ·rename_i hi;obtain⟨d,hd,h⟩:=Option.bind_eq_some_iff.1 h;obtain⟨cs,hcs,h⟩:=Option.bind_eq_some_iff.1 h
    split at h
    ·rename_i hlen;cases h
     have hlt:i.toNat<es.length:=by
      rcases Nat.lt_or_ge i.toNat es.length with h'|h'
      ·exact h'
      ·rw[List.getElem?_eq_none h'] at hd;cases hd
     obtain⟨a,cap,rfl,hc,h'|⟨b,off,s0,rfl,hz,hst,_,f,hv,hr⟩⟩:=jS hu
     ·subst h';simp at hlt
     ·obtain⟨Ah,Ce⟩:=hst _ d hd;have w5:=Ep hcs;rw[w5,hlen] at Ce;subst Ce;refine⟨.pointer (some ((⟨b,off,none⟩:Addr).add (i.toNat*s))),?_,.im _ _ ?_⟩
      ·have:(0:Int)≤i∧i<(es.length:Int):=by omega
       simp[Instr.indexAt,asIntOf,aC ok ht,this,bq ok hs]
      ·rw[kj];refine .ep cs b _ (f i.toNat) hz (fun j c hj=>?_) (fun j c hj=>hr _ d j c hd (by rw[w5];exact hj));have:=hv _ d j c hd (by rw[w5];exact hj)
       rwa [←Nat.add_assoc] at this
    ·cases h
   ·cases h
  ·rename_i el k aq off len sz ht;obtain⟨s,hs,h⟩:=Option.bind_eq_some_iff.1 h
   split at h
   ·rename_i hi;obtain⟨rfl,h0,h1,hm⟩:=hi;cases h;obtain⟨a,cap,rfl,hc,hk,Kl,hat⟩:=c_ hu;refine⟨.pointer (some (a.add (i.toNat*s))),by simp[Instr.indexAt,asIntOf,aC ok ht,h0,h1,bq ok hs],?_⟩;refine .ptr k aq _ _ hk Kl fun iw=>?_;obtain⟨b,base,E7,hb,_,h'|⟨rfl,_⟩⟩:=hat iw
    ·omega
    ·exact⟨b,base,hb,by rw[kj,Nat.add_assoc]⟩
   ·cases h
  ·cases h
 ·cases h
theorem Cz {w:World} {st:St} {β:Nat→Option (Nat×Nat)} {Z:Nat→Prop} (h:eK w st β Z) {t:Nat} {d r:D} {u:Value} {lo hi:Option D} {zV pb:Option Value} (hu:VR w (st.x β Z) d u)
  (yN:∀d v,lo=some d→zV=some v→VR w (st.x β Z) d v) (Bx:∀d v,hi=some d→pb=some v→VR w (st.x β Z) d v) (el:lo.isSome=zV.isSome) (eh:hi.isSome=pb.isSome)
  (hs:fp pv t d lo hi st=some r):∃z,(Instr.sliceAt t u zV pb none).run P w=.ok z w∧VR w (st.x β Z) r z:=by
 unfold fp at hs
 split at hs
 ·rename_i s ht;obtain⟨⟨l,hh⟩,hb,hr⟩:=Option.map_eq_some_iff.1 hs;(try dsimp only at hr);subst hr;rw[et hu];have hsz:(⟨s.toArray⟩:ByteArray).size=s.length:=by simp[ByteArray.size]
  obtain⟨h1,h2,h3⟩:=jk (P:=P) (w:=w) (x:=st.x β Z) false (Nat.le_refl _) yN Bx el eh hb;refine⟨.string ⟨((s.take hh).drop l).toArray⟩,?_,.im _ _ (.str _)⟩;simp[Instr.sliceAt,Instr.slice,aC ok ht,hsz,h1,rQ]
 ·rename_i e ht;obtain⟨s,hsz,hs⟩:=Option.bind_eq_some_iff.1 hs;obtain⟨⟨l,hh⟩,hb,hr⟩:=Option.map_eq_some_iff.1 hs;(try dsimp only at hr);subst hr;rw[dM hu];obtain⟨h1,h2,h3⟩:=jk (P:=P) (w:=w) (x:=st.x β Z) true (Nat.le_refl _) yN Bx el eh hb;have Kq:l=0:=by omega
  have S8:hh=0:=by omega
  subst Kq;subst S8;refine⟨.slice none 0 0,?_,.im _ _ .nul⟩;simp[Instr.sliceAt,Instr.slice,aC ok ht,h1,bq ok hsz]
 ·rename_i e es ht;obtain⟨s,hsz,hs⟩:=Option.bind_eq_some_iff.1 hs
  split at hs
  ·rename_i S7;obtain⟨⟨l,hh⟩,hb,hr⟩:=Option.map_eq_some_iff.1 hs;(try dsimp only at hr);subst hr;obtain⟨a,cap,rfl,hc,sX⟩:=jS hu;obtain⟨h1,h2,h3⟩:=jk (P:=P) (w:=w) (x:=st.x β Z) true hc yN Bx el eh hb;refine⟨.slice (if cap=l then a else a.map (·.add (l*s))) (hh-l) (cap-l),by simp[Instr.sliceAt,Instr.slice,aC ok ht,h1,bq ok hsz],.im _ _ ?_⟩;have hlen:((es.take hh).drop l).length=hh-l:=by simp;omega
   by_cases hz0:hh-l=0
   ·have:(es.take hh).drop l=[]:=List.length_eq_zero_iff.1 (by rw[hlen];exact hz0);rw[this,hz0];exact .emp _ _
   ·rw[if_neg (by omega)]
    rcases sX with rfl|⟨b,off,s0,rfl,hz,hst,_,f,hv,hr⟩
    ·simp at h3;omega
    ·have I4:s0=s:=by
      cases es with
      |nil=>simp at h3;omega
      |cons e0 es=>
       obtain⟨q1,q2⟩:=hst 0 e0 rfl;simp only[qM,List.head?_cons,q1,beq_iff_eq] at S7;omega
     subst I4
     have hget:∀(i:Nat) y,((es.take hh).drop l)[i]?=some y→es[l+i]?=some y:=by
      intro i y hy;rw[List.getElem?_drop,List.getElem?_take] at hy
      split at hy
      ·exact hy
      ·cases hy
     have:=IR.sl (w:=w) (Z:=(st.x β Z).Z) ((es.take hh).drop l) b (off+l*s0) (cap-l) s0 (fun i j=>f (l+i) j) hz (by rw[hlen];omega) (fun i y hy=>hst _ y (hget i y hy)) (fun i y j c hy hj=>by
      have:=hv _ y j c (hget i y hy) hj
      rwa [show off+((l+i)*s0+j)=off+l*s0+(i*s0+j) by rw[Nat.add_mul];omega] at this) (fun i y j c hy hj=>hr _ y j c (hget i y hy) hj)
     rw[hlen] at this
     simpa[kj] using this
  ·cases hs
 ·rename_i e k aq off len sz ht;obtain⟨s,hsz,hs⟩:=Option.bind_eq_some_iff.1 hs
  split at hs
  ·rename_i B_;subst B_;obtain⟨⟨l,hh⟩,hb,hr⟩:=Option.map_eq_some_iff.1 hs;(try dsimp only at hr);subst hr;obtain⟨a,cap,rfl,hc,hk,Kl,hat⟩:=c_ hu;obtain⟨h1,h2,h3⟩:=jk (P:=P) (w:=w) (x:=st.x β Z) true hc yN Bx el eh hb;refine⟨.slice (some (if cap=l then a else a.add (l*s))) (hh-l) (cap-l),?_,?_⟩
   ·simp only[Instr.sliceAt,Instr.slice,Sem.run_bind,aC ok ht,Result.andThen_ok,h1,bq ok hsz,Sem.run_pure]
    split<;>rfl
   ·refine .win k aq _ _ s _ _ (by omega) hk Kl fun iw=>?_;obtain⟨b,base,E7,eV,DC,rO⟩:=hat iw;refine⟨b,base,E7,eV,DC,?_⟩
    by_cases hcl:cap=l
    ·left;omega
    ·right
     rcases rO with h'|⟨rfl,jN⟩
     ·omega
     ·rw[if_neg hcl,kj];refine⟨by rw[Nat.add_assoc],?_⟩;have hle:l≤cap:=by omega
      have:base+(off+l*s)+(cap-l)*s=base+off+cap*s:=by
       rw[Nat.sub_mul];have:=Nat.mul_le_mul_right s hle;omega
      omega
  ·cases hs
 ·rename_i n e k aq off ht;obtain⟨s,hsz,hs⟩:=Option.bind_eq_some_iff.1 hs;obtain⟨⟨ar,c⟩,hm,hs⟩:=Option.bind_eq_some_iff.1 hs;dsimp only at hs
  split at hs
  ·rename_i jN;obtain⟨⟨l,hh⟩,hb,hr⟩:=Option.map_eq_some_iff.1 hs;(try dsimp only at hr);subst hr
   cases hu with
   |im _ _ hu=>cases hu
   |ptr _ _ _ a hk Kl hat=>
    obtain⟨b,base,eV,rfl⟩:=hat (aZ hm).2;obtain⟨cs,UO,fr,r1,r2,_⟩:=h.row hm eV;obtain⟨h1,h2,h3⟩:=jk (P:=P) (w:=w) (x:=st.x β Z) false (Nat.le_refl n) yN Bx el eh hb;refine⟨.slice (some (if n=l then⟨b,base+off,none⟩ else(⟨b,base+off,none⟩:Addr).add (l*s))) (hh-l) (n-l),?_,?_⟩
    ·simp[Instr.sliceAt,aC ok ht,Instr.sureAddr,h1,bq ok hsz]
    ·refine .win k aq _ _ s _ _ (by omega) hk Kl fun iw=>⟨b,base,cs.size,eV,by simp[bo,r1],?_⟩
     by_cases hcl:n=l
     ·left;omega
     ·right;rw[if_neg hcl,kj];refine⟨by rw[Nat.add_assoc],?_⟩;have hle:l≤n:=by omega
      have:base+(off+l*s)+(n-l)*s=base+off+n*s:=by
       rw[Nat.sub_mul];have:=Nat.mul_le_mul_right s hle;omega
      omega
  ·cases hs
 ·cases hs
end
end Go.V
namespace Go.V
open Go.RowKit
theorem wrap_small {n:Int} (h0:0≤n) (h1:n≤9223372036854775807):IntKind.i64.wrap n=n:=by
 rw[←gV];obtain⟨m,rfl⟩:=Int.eq_ofNat_of_zero_le h0;have:Nat.ble m (lF .i64)=true:=Nat.ble_eq_true_of_le (by simp[lF];omega);simp[bj,this]
theorem eF (z:List D):∀n,(cV n z).length=n*z.length
 |0=>by simp[cV]
 |n+1=>by
  have:=eF z n;simp only[cV,List.replicate_succ,List.flatten_cons,List.length_append] at*;rw[this,Nat.add_mul];omega
theorem vL (z:List D):∀(n j:Nat),j<n*z.length→(cV n z)[j]?=z[j %z.length]?
 |0,j,h=>by simp at h
 |n+1,j,h=>by
  have ih:=vL z n;simp only[cV,List.replicate_succ,List.flatten_cons] at*;rw[List.getElem?_append]
  split
  ·rename_i hj;rw[Nat.mod_eq_of_lt hj]
  ·rename_i hj;rw[Nat.add_mul] at h;rw[ih _ (by omega),←Nat.mod_eq_sub_mod (by omega)]
def Quiet (w w':World):Prop:=∀b,b<w.heap.size→w'.heap[b]?=w.heap[b]?
theorem Quiet.refl (w:World):Quiet w w:=fun _ _=>rfl
theorem Quiet.push {w w':World} {o:Obj} (h:w'.heap=w.heap.push o):Quiet w w':=fun b hb=>by rw[h,Array.getElem?_push,if_neg (by omega)]
theorem po {w:World} {x:X} {s:Nat} {z:List D} {us:List Value} (h:LR w x z us) (n m:Nat) (hm:m≤n) (hz:us.length=s) (cells:Array Value) (hc:cells=(Array.range (n*s)).map (us.toArray[·%us.toArray.size]!)):
  cells.size=n*s∧∀(j:Nat) d,(cV m z)[j]?=some d→∃u,cells[j]?=some u∧u.oneCell'=true∧VR w x d u:=by
 subst hc;refine⟨by simp,fun j d hd=>?_⟩
 have hj:j<m*z.length:=by
  rcases Nat.lt_or_ge j (m*z.length) with h'|h'
  ·exact h'
  ·rw[List.getElem?_eq_none (by rw[eF];exact h')] at hd;cases hd
 rw[vL z m j hj] at hd;obtain⟨u,iq,jR,nJ⟩:=h.at_ hd;have hl:=h.len
 have EZ:j<n*s:=by
  have:=Nat.mul_le_mul_right z.length hm;rw[←hz,←hl];omega
 refine⟨u,?_,jR,nJ⟩;have DA:us[j %us.length]?=some u:=by rw[←hl];exact iq
 have hlt:j %us.length<us.length:=by
  rcases Nat.lt_or_ge (j %us.length) us.length with h'|h'
  ·exact h'
  ·rw[List.getElem?_eq_none h'] at DA;cases DA
 rw[List.getElem?_eq_getElem hlt] at DA;simp only[Option.some.injEq] at DA;simp[EZ,hlt,DA]
section
variable{pv:Pv} {P:Program} (ok:pv.Ok P)
include ok
omit ok in
theorem C_ {w:World} {st:St} {β:Nat→Option (Nat×Nat)} {Z:Nat→Prop} (h:eK w st β Z) {cs:List D} {v:Value} (hv:LR w (st.x β Z) cs v.cells.toList) (e:TypeId):
  ∃z w' β',((do pure (.pointer (some (←newVar e v))):Sem Value)).run P w=.ok z w'∧Nx w st β Z w' (st.push (.mem 0 false cs)) β' Z∧VR w' ((st.push (.mem 0 false cs)).x β' Z) (.ptr st.bs.length 0 0) z∧Quiet w w':=by
 obtain⟨hx,h1,h2,h3⟩:=Nx.g_ (w':=w.alloc (.cells v.cells e)) h false cs v.cells e (0,0) rfl rfl rfl rfl (by rw[hv.len];simp) (lV.zero _) (fun j d hd=>by
  obtain⟨u,iq,jR,nJ⟩:=hv.at_ hd
  exact⟨u,by simpa using iq,jR,nJ⟩)
 refine⟨.pointer (some ⟨w.heap.size,0,none⟩),_,_,?_,hx,?_,Quiet.push rfl⟩
 ·simp only[newVar,newRow,Sem.run_bind,run_newObj,Result.andThen_ok,Sem.run_pure];rfl
 ·refine .ptr _ _ _ _ ⟨_,by simp[St.x,cM];rfl⟩ (fun c hc=>?_) fun _=>⟨w.heap.size,0,by simp[St.x,cM],rfl⟩
  simp only[St.x] at hc;rw[h2] at hc;cases hc;exact Nat.le_refl _
theorem EJ {w:World} {st:St} {β:Nat→Option (Nat×Nat)} {Z:Nat→Prop} (h:eK w st β Z) {e:Nat} {cs:List D} (hz:cE pv e=some cs):
  ∃z w' β',(Instr.alloc e true (.tuple #[])).run P w=.ok z w'∧Nx w st β Z w' (st.push (.mem 0 false cs)) β' Z∧VR w' ((st.push (.mem 0 false cs)).x β' Z) (.ptr st.bs.length 0 0) z∧Quiet w w':=by
 obtain⟨v,hv,hc⟩:=fL ok w (st.x β Z) hz;obtain⟨z,w',β',h1,h2,h3,h4⟩:=C_ (P:=P) h hc e;refine⟨z,w',β',?_,h2,h3,h4⟩;simp only[Instr.alloc,Sem.run_bind,hv,Result.andThen_ok] at*;exact h1
theorem rU {w:World} {st ah:St} {β:Nat→Option (Nat×Nat)} {Z:Nat→Prop} (h:eK w st β Z) {t len:Nat} {parts:List (Nat×D)} {parts':List (Nat×Value)} {r:D} (hl:parts.length=parts'.length)
  (hr:∀(i:Nat) p q,parts[i]?=some p→parts'[i]?=some q→p.1=q.1∧VR w (st.x β Z) p.2 q.2) (hs:gx pv t len parts st=some (r,ah)):
  ∃z w' β',(Instr.buildSlice t len parts'.toArray).run P w=.ok z w'∧Nx w st β Z w' ah β' Z∧VR w' (ah.x β' Z) r z∧Quiet w w':=by
 unfold gx at hs
 split at hs
 ·rename_i e ht;obtain⟨s,hsz,hs⟩:=Option.bind_eq_some_iff.1 hs;obtain⟨z,hz,hs⟩:=Option.bind_eq_some_iff.1 hs
  split at hs
  ·rename_i uJ;obtain⟨jJ,hbig⟩:=uJ;obtain⟨cs,hf,hs⟩:=Option.map_eq_some_iff.1 hs;cases hs;obtain⟨v,hv,hc⟩:=fL ok w (st.x β Z) hz;have hvs:v.cells.toList.length=s:=by rw[←hc.len,jJ]
   have hzero:∃us:List Value,(if len*s=0 then#[] else v.cells:Array Value)=us.toArray∧((Array.range (len*s)).map ((if len*s=0 then#[] else v.cells:Array Value)[·%(if len*s=0 then#[] else v.cells:Array Value).size]!)).toList.length=len*s∧
     LR w (st.x β Z) (cV len z) ((Array.range (len*s)).map ((if len*s=0 then#[] else v.cells:Array Value)[·%(if len*s=0 then#[] else v.cells:Array Value).size]!)).toList:=by
    by_cases h0:len*s=0
    ·refine⟨[],by simp[h0],by simp,?_⟩;have:cV len z=[]:=List.length_eq_zero_iff.1 (by rw[eF,jJ];exact h0);rw[this,h0];exact⟨by simp,by simp,by simp⟩
    ·obtain⟨q1,q2⟩:=po hc len len (Nat.le_refl _) hvs _ rfl;simp only[h0,if_false];have e1:v.cells.toList.toArray=v.cells:=by simp
     rw[e1] at q1 q2;refine⟨v.cells.toList,by simp,by simp,⟨by rw[eF,jJ];simp,fun u hu=>?_,fun i c u Cf hu=>?_⟩⟩
     ·obtain⟨j,hj⟩:=List.getElem?_of_mem hu
      have hjl:j<len*s:=by
       rcases Nat.lt_or_ge j (len*s) with h'|h'
       ·exact h'
       ·rw[List.getElem?_eq_none (by simpa using h')] at hj;cases hj
      obtain⟨u',iq,jR,_⟩:=q2 j _ (List.getElem?_eq_getElem (by rw[eF,jJ];exact hjl));rw[Array.getElem?_toList] at hj;rw[hj] at iq;cases iq;exact jR
     ·obtain⟨u',iq,_,nJ⟩:=q2 i c Cf;rw[Array.getElem?_toList] at hu;rw[hu] at iq;cases iq;exact nJ
   obtain⟨us,Lt,_,xF⟩:=hzero;obtain⟨rs,f1,f2⟩:=uP (ju:=fun i=>some (i*s,s)) (fun _ _ e=>e) parts parts' hl hr xF hf
   have hcl:cs.length=len*s:=by
    have iU:∀(ps:List (Nat×D)) (a b:List D),gK (fun i=>some (i*s,s)) a ps=some b→b.length=a.length:=by
     intro ps
     induction ps with
     |nil=>intro a b e;simp[gK] at e;rw[e]
     |cons p ps ih=>
      intro a b e;obtain⟨pi,pd⟩:=p;simp only[gK] at e
      split at e
      ·split at e
       ·cases e
       ·rw[ih _ _ e,dj]
      ·cases e
    rw[iU _ _ _ hf,eF,jJ]
   obtain⟨hx,x1,x2,x3⟩:=Nx.g_ (w':=w.alloc (.cells rs.toArray e)) h true cs rs.toArray e (0,0) rfl rfl rfl rfl (by rw[f2.len];simp) (lV.zero _) (fun j d hd=>by
    obtain⟨u,iq,jR,nJ⟩:=f2.at_ hd
    exact⟨u,by simpa using iq,jR,nJ⟩)
   refine⟨.slice (some ⟨w.heap.size,0,none⟩) len len,_,_,?_,hx,iV x2 x3 x1 (Nat.le_refl _) (by simp only[List.size_toArray];rw[←f2.len,hcl];exact Nat.le_refl _),Quiet.push rfl⟩;have KO:¬len*s>2^24:=by omega
   simp only[Instr.buildSlice,Sem.run_bind,aC ok ht,Result.andThen_ok,bq ok hsz,Sem.run_ite,if_neg KO,Sem.run_pure]
   by_cases h0:len*s=0
   ·simp only[h0,if_true,Result.andThen_ok] at f1⊢;simp only[Array.toArray_toList] at f1;rw[f1];simp only[newRow,Sem.run_bind,run_newObj,Result.andThen_ok,Sem.run_pure];rfl
   ·simp only[h0,if_false,Result.andThen_ok,hv,Sem.run_bind] at f1⊢;simp only[Array.toArray_toList] at f1;rw[f1];simp only[newRow,Sem.run_bind,run_newObj,Result.andThen_ok,Sem.run_pure];rfl
  ·cases hs
 ·cases hs
theorem uo {w:World} {st ah:St} {β:Nat→Option (Nat×Nat)} {Z:Nat→Prop} (h:eK w st β Z) {t:Nat} {l c r:D} {u v:Value} (hu:VR w (st.x β Z) l u) (hv:VR w (st.x β Z) c v) (hs:eQ pv t l c st=some (r,ah)):
  ∃z w' β',(Instr.makeSlice t u v).run P w=.ok z w'∧Nx w st β Z w' ah β' Z∧VR w' (ah.x β' Z) r z∧Quiet w w':=by
 unfold eQ at hs
 split at hs
 ·rename_i e k l k' c ht;obtain⟨i,hi,hs⟩:=Option.bind_eq_some_iff.1 hs;obtain⟨z,hz,hs⟩:=Option.bind_eq_some_iff.1 hs
  split at hs
  ·rename_i uJ;obtain⟨jJ,Kq,Ni,hcb,hroom⟩:=uJ;cases hs;rw[bU hu,bU hv];obtain⟨zv,JS,hzc⟩:=fL ok w (st.x β Z) hz;have hvs:zv.cells.toList.length=i.size:=by rw[←hzc.len,jJ]
   have Ms:IntKind.i64.wrap l=l:=wrap_small Kq (by omega);have RC:IntKind.i64.wrap c=c:=wrap_small (by omega) hcb
   have gR:∃cells:Array Value,cells=(Array.range (c.toNat*i.size)).map ((if c.toNat*i.size=0 then#[] else zv.cells:Array Value)[·%(if c.toNat*i.size=0 then#[] else zv.cells:Array Value).size]!)∧cells.size=c.toNat*i.size∧
     ∀(j:Nat) d,(cV l.toNat z)[j]?=some d→∃u,cells[j]?=some u∧u.oneCell'=true∧VR w (st.x β Z) d u:=by
    refine⟨_,rfl,by simp,?_⟩
    by_cases h0:c.toNat*i.size=0
    ·intro j d hd
     have:cV l.toNat z=[]:=List.length_eq_zero_iff.1 (by
      rw[eF,jJ];have:=Nat.mul_le_mul_right i.size (show l.toNat≤c.toNat by omega)
      omega)
     rw[this] at hd;simp at hd
    ·simp only[h0,if_false];have:=(po hzc c.toNat l.toNat (by omega) hvs _ rfl).2
     simpa using this
   obtain⟨cells,db,hsz,hrel⟩:=gR
   have hlen:(cV l.toNat z).length≤cells.size:=by
    rw[eF,jJ,hsz];exact Nat.mul_le_mul_right _ (by omega)
   obtain⟨hx,x1,x2,x3⟩:=Nx.g_ (w':=w.alloc (.cells cells e)) h true (cV l.toNat z) cells e (0,0) rfl rfl rfl rfl hlen (lV.zero _) hrel;refine⟨.slice (some ⟨w.heap.size,0,none⟩) l.toNat c.toNat,_,_,?_,hx,iV x2 x3 x1 (by omega) (by rw[hsz];exact Nat.le_refl _),Quiet.push rfl⟩
   have RL:(decide (c<0)||decide ((i.bytes:Int)*c>2^48))=false:=by
    have:¬c<0:=by omega
    have h2:(i.bytes:Int)*c=c*i.bytes:=Int.mul_comm _ _;simp only[this,decide_false,Bool.false_or,decide_eq_false_iff_not,h2];omega
   have wW:¬l<0:=by omega
   have xG:¬l>c:=by omega
   simp only[Instr.makeSlice,Sem.run_bind,aC ok ht,Result.andThen_ok,asInt,asIntOf,Sem.run_pure,mc ok hi,Ms,RC,RL,wW,xG,decide_false,Bool.or_self,Bool.false_eq_true,or_self,if_false,Sem.run_ite,run_askRoom,bq ok (jq hi)]
   by_cases h0:c.toNat*i.size=0
   ·simp only[h0,if_true,Result.andThen_ok] at db⊢;simp only[newRow,Sem.run_bind,run_newObj,Result.andThen_ok,Sem.run_pure,db];rfl
   ·simp only[h0,if_false,Result.andThen_ok,JS,Sem.run_bind] at db⊢;simp only[newRow,Sem.run_bind,run_newObj,Result.andThen_ok,Sem.run_pure,db];rfl
  ·cases hs
 ·cases hs
end
end Go.V
