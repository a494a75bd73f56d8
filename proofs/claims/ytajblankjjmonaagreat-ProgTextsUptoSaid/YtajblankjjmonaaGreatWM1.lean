/-
 V: an evaluator of the model's code over pure values, and its soundness; no program in sight, no conditions.
-/
import GoSem.Step
import Derived.WalkKit
import Derived.WalkLawsBesides
import Derived.Laws.StructEq
import Derived.Laws.Slices
import Derived.Laws.Concat
set_option linter.unusedSimpArgs false
set_option linter.unusedVariables false
set_option linter.unusedSectionVars false
set_option linter.unnecessarySimpa false
namespace Go.V
inductive D where
 |bool (b:Bool)
 |int (k:IntKind) (n:Int)
 |str (s:List UInt8)
 |nul
 |sl (es:List D)
 |win (k aq off len s:Nat)
 |pnil
 |ptr (k aq off:Nat)
 |mp (k:Nat)
 |ep (cells:List D)
 |fn (f:Nat) (gm:List D)
 |nilfn
 |agg (cs:List D)
 |tup (ds:List D)
 |nilif
 |junk
 deriving Inhabited
inductive gP where
 |mem (aq:Nat) (arr:Bool) (cells:List D)
 |iter (s:List UInt8) (pos:Nat)
 |map (es:List (D×D))
 |dead
 deriving Inhabited
structure St where
 bs:List gP
 flr:Nat
 ro:Nat
structure Fr where
 n:Nat
 loc:List D
 tmp:List (Nat×D)
def look (t:Nat):List (Nat×D)→D
 |[]=>.junk
 |(u,d)::l=>match Nat.beq t u with
  |true=>d
  |false=>look t l
def nth (d:D):List D→Nat→D
 |[],_=>d
 |x::_,0=>x
 |_::l,i+1=>nth d l i
def Fr.get (f:Fr) (t:Nat):D:=
 match Nat.ble f.n t with
 |false=>nth .junk f.loc t
 |true=>look t f.tmp
def Fr.put (f:Fr) (t:Nat) (d:D):Fr:=
 match Nat.ble f.n t with
 |false=>⟨f.n,f.loc.set t d,f.tmp⟩
 |true=>⟨f.n,f.loc,(t,d)::f.tmp⟩
def Fr.putO (f:Fr) (t:Option Nat) (d:D):Fr:=
 match t with
 |some t=>f.put t d
 |none=>f
def Fr.clean (f:Fr):Fr:=⟨f.n,f.loc,[]⟩
def D.cells?:D→Option (List D)
 | .agg cs=>some cs
 | .tup _=>none
 | .junk=>none
 |d=>some [d]
def D.cells:D→List D
 | .agg cs=>cs
 |d=>[d]
def pt:Value→D
 | .bool b=>.bool b
 | .int k n=>.int k n
 | .string s=>.str s.data.toList
 | .slice none 0 0=>.nul
 | .pointer none=>.pnil
 | .nilFunc=>.nilfn
 | .nilIface=>.nilif
 |_=>.junk
def z6:Value→Bool
 | .agg _| .tuple _=>false
 |_=>true
def kB:List Value→Option (List D)
 |[]=>some []
 |v::l=>match z6 v with
  |true=>match kB l with
   |some r=>some (pt v::r)
   |none=>none
  |false=>none
def fc:Value→D
 | .agg cs=>match kB cs.toList with
  |some l=>.agg l
  |none=>.junk
 |v=>pt v
def Fr.ev (f:Fr):Operand→D
 | .tmp t=>f.get t
 | .const v=>fc v
 | .func g=>.fn g []
 | .global _=>.junk
mutual
def D.ref:D→Nat
 | .win k _ _ _ _=>k+1
 | .ptr k _ _=>k+1
 | .mp k=>k+1
 | .fn _ cs=>refs cs
 | .agg cs=>refs cs
 | .tup ds=>refs ds
 |_=>0
def refs:List D→Nat
 |[]=>0
 |d::ds=>max d.ref (refs ds)
end
def St.dL (st:St) (k aq:Nat):Option (Bool×List D):=
 match st.bs[k]? with
 |some (.mem v a c)=>if v=aq then some (a,c) else none
 |_=>none
def gP.cells:gP→List D
 | .mem _ _ c=>c
 |_=>[]
def St.sO (st:St) (k:Nat):Nat:=
 match st.bs[k]? with
 |some b=>refs b.cells
 |none=>0
def St.jb (st:St) (k r:Nat):Bool:=decide (st.ro≤k) &&(decide (st.flr≤k)||(decide (r≤k+1)||decide (r≤st.sO k)))
def setMany (c:List D) (off:Nat):List D→List D
 |[]=>c
 |x::xs=>setMany (c.set off x) (off+1) xs
def St.wr (st:St) (k aq off:Nat) (cs:List D):Option St:=
 match st.dL k aq with
 |some (a,c)=>if off+cs.length≤c.length∧st.jb k (refs cs)=true then some {st with bs:=st.bs.set k (.mem aq a (setMany c off cs))} else none
 |none=>none
def St.push (st:St) (b:gP):St:={st with bs:=st.bs++[b]}
inductive Mode where
 |ro|rw|cD|nw
abbrev dJ:=Nat→List D→St→Option (D×St)
structure Fi where
 fn:Func
 nloc:Nat
 mode:Mode
 knul:Bool
 prim:Option (List D→St→Option (D×St)):=none
 dyn:List (Nat×List (Nat×Nat)):=[]
inductive Tr (α:Type) where
 |leaf (a:α)
 |node (k:Nat) (l r:Tr α)
def Tr.get {α:Type} (t:Nat):Tr α→α
 | .leaf a=>a
 | .node k l r=>match Nat.ble k t with
  |false=>l.get t
  |true=>r.get t
structure Pv where
 ty:Tr TypeInfo
 nty:Nat
 fs:Tr Fi
 nfs:Nat
 eqb:List Nat
 prm:List (Nat×(List D→St→Option (D×St))):=[]
def jS (f:Nat):List (Nat×(List D→St→Option (D×St)))→Option (List D→St→Option (D×St))
 |[]=>none
 |(g,p)::l=>match Nat.beq f g with
  |true=>some p
  |false=>jS f l
def Pv.info (P:Pv) (t:Nat):Option TypeInfo:=
 match Nat.ble P.nty t with
 |false=>some (P.ty.get t)
 |true=>none
def Pv.b9 (P:Pv) (t:Nat):Option TypeDesc:=
 match P.info t with
 |some i=>match i.desc with
  | .named _ u=>match P.info u with
   |some j=>some j.desc
   |none=>none
  |d=>some d
 |none=>none
def Pv.fi (P:Pv) (f:Nat):Option Fi:=
 match Nat.ble P.nfs f with
 |false=>some (P.fs.get f)
 |true=>none
def kU:IntKind→Nat
 | .i8=>127| .i16=>32767| .i32=>2147483647| .i64=>9223372036854775807
 | .u8=>255| .u16=>65535| .u32=>4294967295| .u64=>18446744073709551615
def s9:IntKind→Nat
 | .i8=>128| .i16=>32768| .i32=>2147483648| .i64=>9223372036854775808
 |_=>0
def aV (k:IntKind) (n:Int):Int:=
 match n with
 | .ofNat m=>match Nat.ble m (kU k) with
  |true=>.ofNat m
  |false=>k.wrap (.ofNat m)
 | .negSucc m=>match Nat.ble (s9 k) m with
  |false=>.negSucc m
  |true=>k.wrap (.negSucc m)
section
variable(P:Pv)
def bN (t:TypeId):Option Nat:=
 match P.info t with
 |some i=>some i.size
 |none=>none
def cP (t:TypeId) (c:List D):Option D:=
 match P.b9 t with
 |none=>none
 |some (.struct _)|some (.array _ _)=>(bN P t).bind fun n=>if n≤c.length then some (.agg (c.take n)) else none
 |some _=>c.head?
def eW (t:TypeId) (d:D) (st:St):Option D:=
 match d with
 | .ptr k aq off=>(st.dL k aq).bind fun(_,c)=>cP P t (c.drop off)
 | .ep c=>cP P t c
 |_=>none
def jF (t:TypeId) (a v:D) (st:St):Option St:=
 match a,v.cells? with
 | .ptr k aq off,some cs=>if bN P t=some cs.length then st.wr k aq off cs else none
 |_,_=>none
def yf (t:TypeId):Option D:=(P.info t).bind fun i=>i.zero.map fc
def cT (t:TypeId):Option (List D):=
 match yf P t with
 |some z=>z.cells?
 |none=>none
def nR (t:TypeId) (cs:List D) (off:Nat):Option D:=
 match P.b9 t with
 |none=>none
 |some (.struct _)|some (.array _ _)=>(bN P t).bind fun n=>if off+n≤cs.length then some (.agg ((cs.drop off).take n)) else none
 |some _=>cs[off]?
def ga (place:Nat→Option (Nat×Nat)) (cells:List D):List (Nat×D)→Option (List D)
 |[]=>some cells
 |(i,v)::rest=>
  match place i,v.cells? with
  |some (off,size),some cs=>if cs.length≠size∨off+cs.length>cells.length then none else ga place (setMany cells off cs) rest
  |_,_=>none
def kv:List Field→Option (List (Nat×Nat))
 |[]=>some []
 |f::fs=>match bN P f.type with
  |some s=>match kv fs with
   |some r=>some ((f.offset,s)::r)
   |none=>none
  |none=>none
def tP (t:TypeId) (parts:List (Nat×D)):Option D:=
 match cT P t with
 |some z=>match P.b9 t with
  |some (.struct fields)=>match kv P fields.toList with
   |some ps=>(ga (fun i=>ps[i]?) z parts).map .agg
   |none=>none
  |some (.array _ e)=>match bN P e with
   |some s=>(ga (fun i=>some (i*s,s)) z parts).map .agg
   |none=>none
  |_=>none
 |none=>none
def eu (n:Nat) (z:List D):List D:=(List.replicate n z).flatten
def fS (t:TypeId) (len:Nat) (parts:List (Nat×D)) (st:St):Option (D×St):=
 match P.b9 t with
 |some (.slice e)=>(bN P e).bind fun s=>(cT P e).bind fun z=>
   if z.length=s∧len*s≤16777216 then
    (ga (fun i=>some (i*s,s)) (eu len z) parts).map fun cs=>(.win st.bs.length 0 0 len s,st.push (.mem 0 true cs))
   else none
 |_=>none
def xU (op:BinOp) (a b:Int):Option D:=
 match op with
 | .eql=>some (.bool (a==b))
 | .neq=>some (.bool (a !=b))
 | .lss=>some (.bool (a<b))
 | .leq=>some (.bool (a≤b))
 | .gtr=>some (.bool (a>b))
 | .geq=>some (.bool (a≥b))
 |_=>none
def zn (op:BinOp) (k:IntKind) (x y:Int):Option D:=
 let a:=BitVec.ofInt k.bits x
 let b:=BitVec.ofInt k.bits y
 let back (r:BitVec k.bits):Option D:=some (.int k (aV k r.toNat))
 match op with
 | .and=>back (a &&&b)
 | .or=>back (a|||b)
 | .xor=>back (a^^^b)
 | .andNot=>back (a &&&~~~b)
 |_=>none
def th (op:BinOp) (k:IntKind) (a b:Int):Option D:=
 match op with
 | .add=>some (.int k (aV k (a+b)))
 | .sub=>some (.int k (aV k (a-b)))
 | .mul=>some (.int k (aV k (a*b)))
 | .quo=>if b=0 then none else some (.int k (aV k (a.tdiv b)))
 | .rem=>if b=0 then none else some (.int k (a.tmod b))
 | .and| .or| .xor| .andNot=>zn op k a b
 |_=>xU op a b
def wO (op:BinOp) (k:IntKind) (x y:Int):Option D:=
 if y<0 then none
 else match op with
  | .shl=>some (.int k (aV k (x*2^(min y.toNat k.bits))))
  | .shr=>some (.int k (x.fdiv (2^(min y.toNat k.bits))))
  |_=>none
def Bd (op:BinOp) (a b:List UInt8):Option D:=
 match op with
 | .add=>if a.length+b.length≤9223372036854775807 then some (.str (a++b)) else none
 | .eql=>some (.bool (a==b))
 | .neq=>some (.bool !(a==b))
 | .lss=>some (.bool (Op.bytesLess a b))
 | .leq=>some (.bool (Op.bytesLess a b||a==b))
 | .gtr=>some (.bool !(Op.bytesLess a b||a==b))
 | .geq=>some (.bool !(Op.bytesLess a b))
 |_=>none
mutual
def El:Nat→TypeId→D→D→Option Bool
 |0,_,_,_=>none
 |d+1,t,x,y=>
  match P.b9 t,x,y with
  |some .bool,.bool a,.bool b=>some (a==b)
  |some (.int _),.int k a,.int k' b=>if k=k' then some (a==b) else none
  |some .string,.str a,.str b=>some (a==b)
  |some (.pointer _),.pnil,.pnil=>some true
  |some (.pointer _),.pnil,.ptr _ _ _=>some false
  |some (.pointer _),.ptr _ _ _,.pnil=>some false
  |some (.slice _),.nul,.nul=>some true
  |some (.slice _),.win _ _ _ _ _,.nul=>some false
  |some (.slice _),.sl (_::_),.nul=>some false
  |some (.struct fields),.agg xs,.agg ys=>if P.eqb.contains t then eqFields d xs ys fields.toList else none
  |some (.array len e),.agg xs,.agg ys=>(bN P e).bind fun n=>kL d e n xs ys len 0
  |_,_,_=>none
def eqFields:Nat→List D→List D→List Field→Option Bool
 |0,_,_,_=>none
 |_+1,_,_,[]=>some true
 |d+1,xs,ys,f::fs=>
  if f.name= "_" then eqFields d xs ys fs else
  match nR P f.type xs f.offset,nR P f.type ys f.offset with
  |some x,some y=>match El d f.type x y with
   |some true=>eqFields d xs ys fs
   |some false=>some false
   |none=>none
  |_,_=>none
def kL:Nat→TypeId→Nat→List D→List D→Nat→Nat→Option Bool
 |0,_,_,_,_,_,_=>none
 |_+1,_,_,_,_,0,_=>some true
 |d+1,e,n,xs,ys,left+1,i=>
  match nR P e xs (i*n),nR P e ys (i*n) with
  |some x,some y=>match El d e x y with
   |some true=>kL d e n xs ys left (i+1)
   |some false=>some false
   |none=>none
  |_,_=>none
end
def pW:Nat:=64
def GP:D→Bool
 | .agg _=>true
 |_=>false
def equalD (t:TypeId) (x y:D):Option Bool:=
 if GP x &&!P.eqb.contains t then none else El P pW t x y
def nG (op:BinOp) (t:TypeId) (x y:D):Option D:=
 match x,y with
 | .int k a,.int k' b=>match op with
  | .shl| .shr=>wO op k a b
  |_=>if k=k' then th op k a b else none
 | .str a,.str b=>Bd op a b
 |x,y=>match op with
  | .eql=>(equalD P t x y).map .bool
  | .neq=>(equalD P t x y).map fun b=>.bool !b
  |_=>none
def J4 (op:UnOp) (x:D):Option D:=
 match op,x with
 | .neg,.int k n=>some (.int k (aV k (0-n)))
 | .xor,.int k n=>zn .xor k (if k.signed then-1 else k.max) n
 | .not,.bool b=>some (.bool !b)
 |_,_=>none
def o_ (st:St):D→Option (Nat×List D)
 | .sl es=>some (es.length,es.flatMap D.cells)
 | .nul=>some (0,[])
 | .win k aq off len s=>(st.dL k aq).bind fun(_,c)=>if off+len*s≤c.length then some (len,(c.drop off).take (len*s)) else none
 | .str b=>some (b.length,b.map fun x=>.int .u8 x.toNat)
 |_=>none
def nF:List D→Option (List UInt8)
 |[]=>some []
 | .int .u8 n::l=>(nF l).map fun r=>UInt8.ofNat n.toNat::r
 |_=>none
def vS (src dst:TypeId) (x:D) (st:St):Option (D×St):=
 match P.b9 src,P.b9 dst,x with
 |some _,some (.int k),.int _ n=>some (.int k (aV k n),st)
 |some _,some .string,.int _ n=>some (.str (Utf8.encode n).data.toList,st)
 |some _,some .string,.str s=>some (.str s,st)
 |some _,some (.slice e),.str s=>
  match P.b9 e with
  |some (.int .u8)=>if s.length<1099511627776 then some (.win st.bs.length 0 0 s.length 1,st.push (.mem 0 true (s.map fun x=>.int .u8 x.toNat))) else none
  |_=>none
 |some (.slice _),some (.slice e),.win k aq off len sz=>
  match P.b9 e,st.dL k aq with
  |some (.int .u8),some _=>if Nat.beq src dst=true∧0<len∧st.jb k 0=true then some (.win k aq off len sz,st) else none
  |_,_=>none
 |some (.slice e),some .string,x=>
  match P.b9 e,o_ st x with
  |some (.int .u8),some (n,cs)=>match x with
   | .str _=>none
   |_=>if cs.length=n then(nF cs).map fun b=>(.str b,st) else none
  |_,_=>none
 |_,_,_=>none
def vl:D→Option Nat
 | .sl es=>some es.length
 | .nul=>some 0
 | .win _ _ _ len _=>some len
 | .str s=>some s.length
 |_=>none
def fJ:TypeDesc→Bool
 | .int _=>true
 |_=>false
def gp (argTypes:List TypeId) (s x:D) (st:St):Option (D×St):=
 match argTypes with
 |sT::xT::_=>
  match P.b9 sT,P.b9 xT with
  |some (.slice e),some xd=>if fJ xd=true then none else
   (P.info e).bind fun i=>(cT P e).bind fun z=>(o_ st x).bind fun(n,ys)=>
   if ys.length≠n*i.size∨i.bytes=0∨z.length≠i.size then none else
   match s with
   | .nul=>if n=0 then some (.nul,st)
     else if n*i.bytes≤1099511627776 then some (.win st.bs.length 0 0 n i.size,st.push (.mem 0 true ys)) else none
   | .win k aq off len sz=>
    match st.dL k aq with
    |some (true,c)=>if sz≠i.size∨c.length<off+len*sz then none
      else if n=0 then some (.win k aq off len sz,st)
      else if(len+n)*i.bytes≤1099511627776∧st.jb k (refs ys)=true then
       some (.win k (aq+1) 0 (len+n) sz,{st with bs:=st.bs.set k (.mem (aq+1) true ((c.take (off+len*sz)).drop off++ys))})
      else none
    |_=>none
   |_=>none
  |_,_=>none
 |_=>none
def sk (argTypes:List TypeId) (d x:D) (st:St):Option (D×St):=
 match argTypes with
 |dT::_=>
  match P.b9 dT with
  |some (.slice e)=>(bN P e).bind fun s=>(o_ st x).bind fun(m,ys)=>
   if ys.length≠m*s then none else
   match d with
   | .win k aq off len sz=>if sz≠s then none else(st.wr k aq off (ys.take (min m len*s))).map fun ae=>(.int .i64 (min m len:Nat),ae)
   | .nul=>some (.int .i64 0,st)
   |_=>none
  |_=>none
 |_=>none
def ke (argTypes:List TypeId) (d:D) (st:St):Option (D×St):=
 match argTypes with
 |dT::_=>
  match P.b9 dT with
  |some (.slice e)=>
   match d with
   | .nul=>some (.tup [],st)
   | .win k aq off len sz=>(cT P e).bind fun z=>if z.length=sz then(st.wr k aq off (eu len z)).map fun ae=>(.tup [],ae) else none
   |_=>none
  |_=>none
 |_=>none
def rJ (nW:Bool):D→D→Option D
 | .int k x,.int _ y=>some (.int k (if nW then(if y<x then y else x) else(if y>x then y else x)))
 |_,_=>none
def n4 (f:D→D→Option D):D→List D→Option D
 |x,[]=>some x
 |x,y::l=>(f x y).bind fun z=>n4 f z l
def ba (b:Builtin) (argTypes:List TypeId) (args:List D) (st:St):Option (D×St):=
 match b,args with
 | .len,[x]=>match argTypes with
  |t::_=>match P.b9 t with
   |some .string=>match x with
    | .str s=>some (.int .i64 s.length,st)
    |_=>none
   |some (.slice _)=>match x with
    | .str _=>none
    |x=>match vl x with
     |some n=>some (.int .i64 (Int.ofNat n),st)
     |none=>none
   |some (.array n _)=>some (.int .i64 n,st)
   |_=>none
  |_=>none
 | .append,[s,x]=>gp P argTypes s x st
 | .copy,[d,x]=>sk P argTypes d x st
 | .clear,[d]=>ke P argTypes d st
 | .min,x::l=>(n4 (rJ true) x l).map fun d=>(d,st)
 | .max,x::l=>(n4 (rJ false) x l).map fun d=>(d,st)
 |_,_=>none
def fG (t:TypeId) (l c:D) (st:St):Option (D×St):=
 match P.b9 t,l,c with
 |some (.slice e),.int _ l,.int _ c=>(P.info e).bind fun i=>(cT P e).bind fun z=>
   if z.length=i.size∧0≤l∧l≤c∧c≤9223372036854775807∧c*(i.bytes:Int)≤140737488355328 then
    some (.win st.bs.length 0 0 l.toNat i.size,st.push (.mem 0 true (eu l.toNat z)))
   else none
 |_,_,_=>none
def lL (x:D) (y:Nat):Option Nat:=
 match x with
 | .int _ i=>if 0≤i∧i≤(y:Int) then some i.toNat else none
 |_=>none
def jL (y NO:Nat):Option D→Option Nat
 |some v=>lL v y
 |none=>some NO
def dH (len:Nat) (lo hi:Option D):Option (Nat×Nat):=
 (jL len len hi).bind fun h=>(jL h 0 lo).map fun l=>(l,h)
def pQ (s:Nat) (es:List D):Bool:=
 match es.head? with
 |none=>true
 |some e=>match e.cells? with
  |some cs=>cs.length==s
  |none=>false
def g_ (t:TypeId) (x:D) (lo hi:Option D) (st:St):Option D:=
 match P.b9 t,x with
 |some .string,.str s=>(dH s.length lo hi).map fun(l,h)=>.str ((s.take h).drop l)
 |some (.slice e),.nul=>(bN P e).bind fun _=>(dH 0 lo hi).map fun _=>.nul
 |some (.slice e),.sl es=>(bN P e).bind fun s=>if pQ s es then(dH es.length lo hi).map fun(l,h)=>.sl ((es.take h).drop l) else none
 |some (.slice e),.win k aq off len sz=>(bN P e).bind fun s=>if s=sz then(dH len lo hi).map fun(l,h)=>.win k aq (off+l*sz) (h-l) sz else none
 |some (.array n e),.ptr k aq off=>(bN P e).bind fun s=>(st.dL k aq).bind fun(_,c)=>
   if off+n*s≤c.length then(dH n lo hi).map fun(l,h)=>.win k aq (off+l*s) (h-l) s else none
 |_,_=>none
def dY (t:TypeId) (x:D) (i:Nat):Option D:=
 match P.b9 t with
 |some (.struct fields)=>(fields[i]?).bind fun f=>if bN P f.type=some 0 then none else(bN P f.type).bind fun _=>
   match x with
   | .ptr k aq off=>some (.ptr k aq (off+f.offset))
   | .ep c=>some (.ep (c.drop f.offset))
   |_=>none
 |_=>none
def xG (t:TypeId) (x:D) (i:Nat):Option D:=
 match P.b9 t,x with
 |some (.struct fields),.agg cs=>(fields[i]?).bind fun f=>nR P f.type cs f.offset
 |_,_=>none
def br (t:TypeId) (x ix:D) (st:St):Option D:=
 match ix with
 | .int _ i=>
  match P.b9 t,x with
  |some (.array len e),.ptr k aq off=>(bN P e).bind fun s=>if 0≤i∧i<len then some (.ptr k aq (off+i.toNat*s)) else none
  |some (.array len e),.ep c=>(bN P e).bind fun s=>if 0≤i∧i<len then some (.ep (c.drop (i.toNat*s))) else none
  |some (.slice e),.sl es=>(bN P e).bind fun s=>if 0≤i then(es[i.toNat]?).bind fun d=>d.cells?.bind fun cs=>if cs.length=s then some (.ep cs) else none else none
  |some (.slice e),.win k aq off len sz=>(bN P e).bind fun s=>if s=sz∧0≤i∧i<len∧(st.dL k aq).isSome=true then some (.ptr k aq (off+i.toNat*sz)) else none
  |_,_=>none
 |_=>none
def ti (t:TypeId) (x ix:D):Option D:=
 match ix with
 | .int _ i=>
  match P.b9 t,x with
  |some (.array len e),.agg cs=>(bN P e).bind fun s=>if 0≤i∧i<len then nR P e cs (i.toNat*s) else none
  |some .string,.str s=>if 0≤i then(s[i.toNat]?).map fun b=>.int .u8 b.toNat else none
  |_,_=>none
 |_=>none
def kG (kk:IntKind) (n:Int):List (D×D)→Nat→Option (Option (Nat×D))
 |[],_=>some none
 |(.int k' m,v)::l,i=>if kk=k' then(if n==m then some (some (i,v)) else kG kk n l (i+1)) else none
 |_::_,_=>none
def l8 (t:TypeId) (r:Option D) (st:St):Option (D×St):=
 match r with
 |none=>some (.mp st.bs.length,st.push (.map []))
 |some (.int _ _)=>match P.b9 t with
  |some (.map _ _)=>some (.mp st.bs.length,st.push (.map []))
  |_=>none
 |_=>none
def kF (t:TypeId) (m key v:D) (st:St):Option St:=
 match P.b9 t,m,key,v with
 |some (.map kt _),.mp k,.int kk n,.int vk x=>match P.b9 kt,st.bs[k]? with
  |some (.int _),some (.map es)=>match st.jb k 0 with
   |true=>match kG kk n es 0 with
    |some (some (i,_))=>some {st with bs:=st.bs.set k (.map (es.set i (.int kk n,.int vk x)))}
    |some none=>some {st with bs:=st.bs.set k (.map (es++[(.int kk n,.int vk x)]))}
    |none=>none
   |false=>none
  |_,_=>none
 |_,_,_,_=>none
def tf (t:TypeId) (m key:D) (st:St):Option D:=
 match P.b9 t,m,key with
 |some (.map kt e),.mp k,.int kk n=>match P.b9 kt,st.bs[k]? with
  |some (.int _),some (.map es)=>match kG kk n es 0 with
   |some (some (_,v))=>some v
   |some none=>yf P e
   |none=>none
  |_,_=>none
 |_,_,_=>none
def sS (t:TypeId) (x:D) (st:St):Option (D×St):=
 match P.b9 t,x with
 |some .string,.str s=>some (.ptr st.bs.length 0 0,st.push (.iter s 0))
 |_,_=>none
def rI (x:D) (isString:Bool) (st:St):Option (D×St):=
 match x,isString with
 | .ptr k 0 0,true=>
  match st.bs[k]? with
  |some (.iter s pos)=>
   if pos<s.length then
    if st.jb k 0 then
     let r:=Utf8.decode ⟨s.toArray⟩ pos
     some (.tup [.bool true,.int .i64 pos,.int .i32 r.1],{st with bs:=st.bs.set k (.iter s (pos+r.2))})
    else none
   else some (.tup [.bool false],st)
  |_=>none
 |_,_=>none
def df (fr:Fr) (st:St) (op:Op) (O5:TypeId):Option (D×St):=
 match op with
 | .move x| .assign x=>some (fr.ev x,st)
 | .pick c a b=>match fr.ev c with
  | .bool true=>some (fr.ev a,st)
  | .bool false=>some (fr.ev b,st)
  |_=>none
 | .alloc e=>(cT P e).map fun cs=>(.ptr st.bs.length 0 0,st.push (.mem 0 false cs))
 | .box _ x=>(fr.ev x).cells?.map fun cs=>(.ptr st.bs.length 0 0,st.push (.mem 0 false cs))
 | .build t parts=>(tP P t (parts.toList.map fun p=>(p.1,fr.ev p.2))).map fun d=>(d,st)
 | .buildSlice t len parts=>fS P t len (parts.toList.map fun p=>(p.1,fr.ev p.2)) st
 | .load t a=>(eW P t (fr.ev a) st).map fun d=>(d,st)
 | .store t a x=>(jF P t (fr.ev a) (fr.ev x) st).map fun ae=>(.tup [],ae)
 | .nilCheck x=>match fr.ev x with
  | .ptr k v o=>some (.ptr k v o,st)
  | .ep c=>some (.ep c,st)
  | .fn f c=>some (.fn f c,st)
  |_=>none
 | .binOp op t x y _=>(nG P op t (fr.ev x) (fr.ev y)).map fun d=>(d,st)
 | .unOp op _ x=>(J4 op (fr.ev x)).map fun d=>(d,st)
 | .convert s d x=>vS P s d (fr.ev x) st
 | .makeFunc (.func f) first captured=>if first.isEmpty then some (.fn f (captured.toList.map fr.ev),st) else none
 | .makeSlice t l c=>fG P t (fr.ev l) (fr.ev c) st
 | .slice t x lo hi none=>(g_ P t (fr.ev x) (lo.map fr.ev) (hi.map fr.ev) st).map fun d=>(d,st)
 | .fieldAddr t x f=>(dY P t (fr.ev x) f).map fun d=>(d,st)
 | .field t x f=>(xG P t (fr.ev x) f).map fun d=>(d,st)
 | .indexAddr t x i=>(br P t (fr.ev x) (fr.ev i) st).map fun d=>(d,st)
 | .index t x i=>(ti P t (fr.ev x) (fr.ev i)).map fun d=>(d,st)
 | .range t x=>sS P t (fr.ev x) st
 | .makeMap t r=>l8 P t (r.map fr.ev) st
 | .insert t m k x=>(kF P t (fr.ev m) (fr.ev k) (fr.ev x) st).map fun ae=>(.tup [],ae)
 | .mapUpdate t m k x=>(kF P t (fr.ev m) (fr.ev k) (fr.ev x) st).map fun ae=>(.tup [],ae)
 | .lookup t x i false=>(tf P t (fr.ev x) (fr.ev i) st).map fun d=>(d,st)
 | .next it s=>rI (fr.ev it) s st
 | .extract t i=>match fr.ev t with
  | .tup ds=>(ds[i]?).map fun d=>(d,st)
  |_=>none
 | .call ⟨.builtin b,args,argTypes⟩=>ba P b argTypes.toList (args.toList.map fr.ev) st
 |_=>none
end
section
variable(P:Pv) (cf:dJ)
def ek (fr:Fr) (st:St) (o:Oper):Option (D×St):=
 match o.op with
 | .call ⟨.value f,args,_⟩=>match fr.ev f with
  | .fn g gm=>cf g (args.toList.map fr.ev++gm) st
  |_=>none
 |op=>df P fr st op o.type
def au (ops:Array Oper) (fr:Fr) (o:Oper):Option Bool:=
 match o.guard with
 |none=>some true
 |some (j,want)=>match(ops[j]?).bind (·.dst) with
  |none=>none
  |some t=>match fr.get t with
   | .bool b=>some (b==want)
   | .tup _=>some false
   |_=>none
def gK (ops:Array Oper):List Oper→Fr→St→Option (Fr×St)
 |[],fr,st=>some (fr,st)
 |o::rest,fr,st=>
  match au ops fr o with
  |some true=>match ek P cf fr st o with
   |some (d,ae)=>gK ops rest (fr.putO o.dst d) ae
   |none=>none
  |some false=>gK ops rest (fr.putO o.dst (.tup [])) st
  |none=>none
mutual
def eK:D→D→Bool
 | .bool a,.bool b=>a==b
 | .int k n,.int k' m=>decide (k=k') &&n==m
 | .str s,.str t=>s==t
 | .nul,.nul=>true
 | .pnil,.pnil=>true
 | .nilfn,.nilfn=>true
 | .nilif,.nilif=>true
 | .junk,.junk=>true
 | .sl a,.sl b=>iG a b
 | .agg a,.agg b=>iG a b
 | .tup a,.tup b=>iG a b
 | .ep a,.ep b=>iG a b
 | .win k v o l s,.win k' v' o' l' s'=>Nat.beq k k' &&Nat.beq v v' &&Nat.beq o o' &&Nat.beq l l' &&Nat.beq s s'
 | .ptr k v o,.ptr k' v' o'=>Nat.beq k k' &&Nat.beq v v' &&Nat.beq o o'
 | .mp k,.mp k'=>Nat.beq k k'
 | .fn f a,.fn g b=>Nat.beq f g &&iG a b
 |_,_=>false
def iG:List D→List D→Bool
 |[],[]=>true
 |a::l,b::m=>eK a b &&iG l m
 |_,_=>false
end
def qx:gP→gP→Bool
 | .mem v a c,.mem v' a' c'=>Nat.beq v v' &&(a==a') &&iG c c'
 | .iter s p,.iter s' p'=>s==s' &&Nat.beq p p'
 | .dead,.dead=>true
 |_,_=>false
def D.lK:D→Option Nat
 | .win k _ _ _ _=>some k
 | .ptr k _ _=>some k
 |_=>none
def f':Op→Option Operand
 | .load _ a=>some a
 | .indexAddr _ x _=>some x
 |_=>none
def lg (k:Option Nat) (a b:St):Bool:=
 match k with
 |none=>true
 |some k=>match a.bs[k]?,b.bs[k]? with
  |some x,some y=>qx x y
  |_,_=>false
def lj (k:Option Nat) (a b:St):Bool:=
 match k with
 |none=>true
 |some k=>match Nat.beq a.bs.length b.bs.length with
  |true=>true
  |false=>match a.bs[k]? with
   |some (.mem _ _ c)=>Nat.ble (refs c) a.bs.length
   |_=>false
def iU (x:Oper) (fi:Fr) (si qQ:St) (y:Oper) (fj:Fr) (sj Fg:St):Bool:=
 match f' y.op with
 |some a=>lg (fj.ev a).lK si qQ
 |none=>match f' x.op with
  |some a=>lg (fi.ev a).lK sj Fg &&lj (fi.ev a).lK si Fg
  |none=>false
abbrev Log:=List (Oper×Fr×St×St)
def CY (dy:List (Nat×Nat)) (j:Nat) (log:Log) (o:Oper) (fr:Fr) (st ae:St):Bool:=
 dy.all fun p=>match Nat.beq p.2 j &&Nat.blt p.1 j with
  |true=>match log[j-1-p.1]? with
   |some (x,fi,si,qQ)=>iU x fi si qQ o fr st ae
   |none=>false
  |false=>true
def oc (ops:Array Oper) (dy:List (Nat×Nat)):Nat→Log→List Oper→Fr→St→Option (Fr×St)
 |_,_,[],fr,st=>some (fr,st)
 |j,log,o::rest,fr,st=>
  match au ops fr o with
  |some true=>match ek P cf fr st o with
   |some (d,ae)=>match CY dy j log o fr st ae with
    |true=>oc ops dy (j+1) ((o,fr,st,ae)::log) rest (fr.putO o.dst d) ae
    |false=>none
   |none=>none
  |some false=>oc ops dy (j+1) ((o,fr,st,st)::log) rest (fr.putO o.dst (.tup [])) st
  |none=>none
def uG (ops:Array Oper) (dy:List (Nat×Nat)) (fr:Fr) (st:St):Option (Fr×St):=
 match dy with
 |[]=>gK P cf ops ops.toList fr st
 |_=>oc P cf ops dy 0 [] ops.toList fr st
def fH (id:Nat):List (Nat×List (Nat×Nat))→List (Nat×Nat)
 |[]=>[]
 |(i,l)::r=>match Nat.beq i id with
  |true=>l
  |false=>fH id r
inductive Out where
 |next
 |exit (id:Nat)
 |ret
def iter (step:Fr→St→Option (Out×Fr×St)):Nat→Fr→St→Option (Out×Fr×St)
 |0,_,_=>none
 |n+1,fr,st=>match step fr.clean st with
  |some (.next,aw,ae)=>iter step n aw ae
  |r=>r
def bt (dy:List (Nat×List (Nat×Nat))) (n:Nat):Code→Fr→St→Option (Out×Fr×St)
 | .skip,fr,st=>some (.next,fr,st)
 | .region id ops _,fr,st=>match uG P cf ops (fH id dy) fr.clean st with
  |some (aw,ae)=>some (.next,aw,ae)
  |none=>none
 | .seq a b,fr,st=>match bt dy n a fr st with
  |some (.next,aw,ae)=>bt dy n b aw ae
  |r=>r
 | .cond c a b,fr,st=>match fr.ev c with
  | .bool true=>bt dy n a fr st
  | .bool false=>bt dy n b fr st
  |_=>none
 | .block id c,fr,st=>match bt dy n c fr st with
  |some (.exit i,aw,ae)=>if i=id then some (.next,aw,ae) else some (.exit i,aw,ae)
  |r=>r
 | .loop c,fr,st=>iter (bt dy n c) n fr st
 | .exit id,fr,st=>some (.exit id,fr,st)
 | .ret,fr,st=>some (.ret,fr,st)
 |_,_,_=>none
def iR (fr:Fr) (st:St):List ResultVar→Option (List D)
 |[]=>some []
 | .tmp t::l=>(iR fr st l).map fun ds=>fr.get t::ds
 | .cell a t::l=>(eW P t (fr.get a) st).bind fun d=>(iR fr st l).map fun ds=>d::ds
def lQ:List D→D
 |[d]=>d
 |ds=>.tup ds
end
def chunk (s:Nat):Nat→List D→List D
 |0,_=>[]
 |n+1,c=>(match s with|1=>c.headD .junk|_=>.agg (c.take s))::chunk s n (c.drop s)
def eG (f:D→Option D):List D→Option (List D)
 |[]=>some []
 |d::ds=>match f d with
  |some x=>match eG f ds with
   |some xs=>some (x::xs)
   |none=>none
  |none=>none
def cH (st:St) (N:Nat):Nat→D→Option D
 |0,_=>none
 |n+1,d=>match d with
  | .bool b=>some (.bool b)
  | .int k i=>some (.int k i)
  | .str s=>some (.str s)
  | .nul=>some (.sl [])
  | .sl es=>some (.sl es)
  | .pnil=>some .pnil
  | .nilfn=>some .nilfn
  | .nilif=>some .nilif
  | .win k aq off len s=>if k<N then none else(st.dL k aq).bind fun(_,c)=>if off+len*s≤c.length then(eG (cH st N n) ((c.drop off).take (len*s))).map fun cs=>.sl (chunk s len cs) else none
  | .agg cs=>(eG (cH st N n) cs).map .agg
  |_=>none
def aO (st:St) (N:Nat) (kn:Bool):Nat→D→Option D
 |0,_=>none
 |n+1,d=>match d with
  | .win k aq off len s=>if k<N then some (.win k aq off len s) else cH st N n (.win k aq off len s)
  | .ptr k aq off=>if k<N then some (.ptr k aq off) else none
  | .mp k=>if k<N then some (.mp k) else none
  | .nul=>some (if kn then .nul else .sl [])
  | .agg cs=>(eG (aO st N kn n) cs).map .agg
  | .tup ds=>(eG (aO st N kn n) ds).map .tup
  | .fn f gm=>if refs gm≤N then some (.fn f gm) else none
  |d=>some d
def pad (n:Nat) (args:List D):Fr:=⟨n,args++List.replicate (n-args.length) (.tup []),[]⟩
def enterSt (m:Mode) (st:St):St:=
 match m with
 | .ro=>{st with flr:=st.bs.length,ro:=st.bs.length}
 | .rw=>{st with flr:=st.bs.length}
 | .cD=>st
 | .nw=>{st with ro:=st.bs.length}
def b8 (m:Mode) (kn:Bool) (st st1:St) (d:D):Option (D×St):=
 match m with
 | .cD=>some (d,st1)
 | .nw=>some (d,⟨st1.bs,st.flr,st.ro⟩)
 |_=>match aO st1 st.bs.length kn 16 d with
  |some d'=>some (d',⟨st1.bs.take st.bs.length,st.flr,st.ro⟩)
  |none=>none
def wc (P:Pv) (cf:dJ) (n:Nat) (x:Fi) (body:Code) (args:List D) (st:St):Option (D×St):=
 match bt P cf x.dyn n body (pad x.nloc args) (enterSt x.mode st) with
 |some (.exit _,_,_)=>none
 |some (_,fr,st1)=>match iR P fr st1 x.fn.results.toList with
  |some ds=>b8 x.mode x.knul st st1 (lQ ds)
  |none=>none
 |none=>none
def eJ (P:Pv):Nat→dJ
 |0=>fun _ _ _=>none
 |n+1=>fun f args st=>
  match jS f P.prm with
  |some p=>p args st
  |none=>match P.fi f with
   |some x=>match x.prim with
    |some p=>p args st
    |none=>match x.fn.body with
     |some body=>wc P (eJ P n) n x body args st
     |none=>none
   |none=>none
mutual
theorem zo:∀(a b:D),eK a b=true→a=b
 | .bool a,b,h=>by cases b<;>simp[eK] at h;rw[h]
 | .int k n,b,h=>by cases b<;>simp[eK] at h;rw[h.1,h.2]
 | .str s,b,h=>by cases b<;>simp[eK] at h;rw[h]
 | .nul,b,h=>by cases b<;>simp[eK] at h;rfl
 | .pnil,b,h=>by cases b<;>simp[eK] at h;rfl
 | .nilfn,b,h=>by cases b<;>simp[eK] at h;rfl
 | .nilif,b,h=>by cases b<;>simp[eK] at h;rfl
 | .junk,b,h=>by cases b<;>simp[eK] at h;rfl
 | .sl a,b,h=>by cases b<;>simp[eK] at h;rw[gG _ _ h]
 | .agg a,b,h=>by cases b<;>simp[eK] at h;rw[gG _ _ h]
 | .tup a,b,h=>by cases b<;>simp[eK] at h;rw[gG _ _ h]
 | .ep a,b,h=>by cases b<;>simp[eK] at h;rw[gG _ _ h]
 | .win ..,b,h=>by cases b<;>simp[eK] at h;rw[h.1.1.1.1,h.1.1.1.2,h.1.1.2,h.1.2,h.2]
 | .ptr ..,b,h=>by cases b<;>simp[eK] at h;rw[h.1.1,h.1.2,h.2]
 | .mp ..,b,h=>by cases b<;>simp[eK] at h;rw[h]
 | .fn f a,b,h=>by cases b<;>simp[eK] at h;rw[h.1,gG _ _ h.2]
theorem gG:∀(a b:List D),iG a b=true→a=b
 |[],b,h=>by cases b<;>simp[iG] at h;rfl
 |a::l,b,h=>by
  cases b with
  |nil=>simp[iG] at h
  |cons b m=>
   simp only[iG,Bool.and_eq_true] at h;rw[zo a b h.1,gG l m h.2]
end
mutual
theorem AP:∀(a:D),eK a a=true
 | .bool a=>by simp[eK]
 | .int k n=>by simp[eK]
 | .str s=>by simp[eK]
 | .nul=>rfl
 | .pnil=>rfl
 | .nilfn=>rfl
 | .nilif=>rfl
 | .junk=>rfl
 | .sl a=>by simp only[eK];exact eU a
 | .agg a=>by simp only[eK];exact eU a
 | .tup a=>by simp only[eK];exact eU a
 | .ep a=>by simp only[eK];exact eU a
 | .win ..=>by simp[eK]
 | .ptr ..=>by simp[eK]
 | .mp ..=>by simp[eK]
 | .fn f a=>by simp only[eK];rw[eU a];simp
theorem eU:∀(a:List D),iG a a=true
 |[]=>rfl
 |a::l=>by simp only[iG];rw[AP a,eU l];rfl
end
theorem AQ {a b:gP} (h:qx a b=true):a=b:=by
 cases a<;>cases b<;>simp[qx] at h<;>try rfl
 ·rw[h.1.1,h.1.2,gG _ _ h.2]
 ·rw[h.1,h.2]
theorem rr {k:Nat} {a b:St} (h:lg (some k) a b=true):b.bs[k]?=a.bs[k]?:=by
 unfold lg at h;simp only at h
 split at h
 ·rename_i x y h1 h2;rw[h1,h2,AQ h]
 ·cases h
theorem zy {k:Nat} {a b:St} {v:Nat} {ar:Bool} {c:List D} (h:a.bs[k]?=some (.mem v ar c)) (h':b.bs[k]?=some (.mem v ar c)):lg (some k) a b=true:=by
 unfold lg;simp only[h,h',qx,eU];simp
end Go.V
namespace Go.V
open Go.RowKit
structure X where
 aq:Nat→Option Nat
 β:Nat→Option (Nat×Nat)
 Z:Nat→Prop
def ch:gP→Option Nat
 | .mem v _ _=>some v
 | .iter _ _=>some 0
 | .map _=>some 0
 |_=>none
def St.aq (st:St) (k:Nat):Option Nat:=(st.bs[k]?).bind ch
def St.x (st:St) (β:Nat→Option (Nat×Nat)) (Z:Nat→Prop):X:=⟨st.aq,β,Z⟩
def bU (w:World) (b:Nat):Option Nat:=
 match w.heap[b]? with
 |some (.cells c _ _)=>some c.size
 |_=>none
inductive IR (w:World) (Z:Nat→Prop):D→Value→Prop where
 |bool (b:Bool):IR w Z (.bool b) (.bool b)
 |int (k:IntKind) (n:Int):IR w Z (.int k n) (.int k n)
 |str (s:List UInt8):IR w Z (.str s) (.string ⟨s.toArray⟩)
 |nul:IR w Z .nul (.slice none 0 0)
 |pnil:IR w Z .pnil (.pointer none)
 |nilfn:IR w Z .nilfn .nilFunc
 |nilif:IR w Z .nilif .nilIface
 |emp (a:Option Addr) (cap:Nat):IR w Z (.sl []) (.slice a 0 cap)
 |sl (es:List D) (b off cap s:Nat) (f:Nat→Nat→Value) (hz:Z b) (hc:es.length≤cap)
   (hs:∀(i:Nat) e,es[i]?=some e→e.cells?=some e.cells∧e.cells.length=s)
   (hv:∀(i:Nat) e (j:Nat) c,es[i]?=some e→e.cells[j]?=some c→w.cell? ⟨b,off+(i*s+j),none⟩=some (f i j)∧(f i j).oneCell'=true)
   (hr:∀(i:Nat) e (j:Nat) c,es[i]?=some e→e.cells[j]?=some c→IR w Z c (f i j)):IR w Z (.sl es) (.slice (some ⟨b,off,none⟩) es.length cap)
 |ep (cs:List D) (b off:Nat) (f:Nat→Value) (hz:Z b)
   (hv:∀(j:Nat) c,cs[j]?=some c→w.cell? ⟨b,off+j,none⟩=some (f j)∧(f j).oneCell'=true)
   (hr:∀(j:Nat) c,cs[j]?=some c→IR w Z c (f j)):IR w Z (.ep cs) (.pointer (some ⟨b,off,none⟩))
 |agg (cs:List D) (vs:List Value) (hl:cs.length=vs.length) (h1:∀v∈vs,v.oneCell'=true)
   (hr:∀(i:Nat) c v,cs[i]?=some c→vs[i]?=some v→IR w Z c v):IR w Z (.agg cs) (.agg vs.toArray)
 |tup (cs:List D) (vs:List Value) (hl:cs.length=vs.length)
   (hr:∀(i:Nat) c v,cs[i]?=some c→vs[i]?=some v→IR w Z c v):IR w Z (.tup cs) (.tuple vs.toArray)
 |junk (v:Value):IR w Z .junk v
inductive VR (w:World) (x:X):D→Value→Prop where
 |im (d:D) (v:Value) (h:IR w x.Z d v):VR w x d v
 |win (k vr off len s:Nat) (a:Addr) (cap:Nat) (hc:len≤cap) (hk:∃p,x.β k=some p) (hm:∀c,x.aq k=some c→vr≤c)
   (h:x.aq k=some vr→∃b base sz,x.β k=some (b,base)∧bU w b=some sz∧(cap=0∨(a=⟨b,base+off,none⟩∧base+off+cap*s≤sz))):
   VR w x (.win k vr off len s) (.slice (some a) len cap)
 |ptr (k vr off:Nat) (a:Addr) (hk:∃p,x.β k=some p) (hm:∀c,x.aq k=some c→vr≤c)
   (h:x.aq k=some vr→∃b base,x.β k=some (b,base)∧a=⟨b,base+off,none⟩):VR w x (.ptr k vr off) (.pointer (some a))
 |mp (k r:Nat) (hk:∃p,x.β k=some p) (h:x.aq k=some 0→∃base,x.β k=some (r,base)):VR w x (.mp k) (.map (some r))
 |fn (f:Nat) (cs:List D) (vs:List Value) (hl:cs.length=vs.length)
   (hr:∀(i:Nat) c v,cs[i]?=some c→vs[i]?=some v→VR w x c v):VR w x (.fn f cs) (.func (.func f) #[] vs.toArray)
 |agg (cs:List D) (vs:List Value) (hl:cs.length=vs.length) (h1:∀v∈vs,v.oneCell'=true)
   (hr:∀(i:Nat) c v,cs[i]?=some c→vs[i]?=some v→VR w x c v):VR w x (.agg cs) (.agg vs.toArray)
 |tup (cs:List D) (vs:List Value) (hl:cs.length=vs.length)
   (hr:∀(i:Nat) c v,cs[i]?=some c→vs[i]?=some v→VR w x c v):VR w x (.tup cs) (.tuple vs.toArray)
theorem vX {w w':World} {b o:Nat} (h:w'.heap[b]?=w.heap[b]?):w'.cell? ⟨b,o,none⟩=w.cell? ⟨b,o,none⟩:=by
 simp only[World.cell?,h]
theorem IR.mono {w w':World} {Z Z':Nat→Prop} (hz:∀b,Z b→Z' b∧w'.heap[b]?=w.heap[b]?) {d:D} {v:Value} (h:IR w Z d v):IR w' Z' d v:=by
 induction h with
 |bool b=>exact .bool b
 |int k n=>exact .int k n
 |str s=>exact .str s
 |nul=>exact .nul
 |pnil=>exact .pnil
 |nilfn=>exact .nilfn
 |nilif=>exact .nilif
 |emp a cap=>exact .emp a cap
 |sl es b off cap s f hb hc hs hv hr ih=>
  exact .sl es b off cap s f (hz b hb).1 hc hs (fun i e j c he hj=>by rw[vX (hz b hb).2];exact hv i e j c he hj) ih
 |ep cs b off f hb hv hr ih=>exact .ep cs b off f (hz b hb).1 (fun j c hj=>by rw[vX (hz b hb).2];exact hv j c hj) ih
 |agg cs vs hl h1 hr ih=>exact .agg cs vs hl h1 ih
 |tup cs vs hl hr ih=>exact .tup cs vs hl ih
 |junk v=>exact .junk v
structure cM (w:World) (x:X) (w':World) (x':X):Prop where
 dm:∀k p,x.β k=some p→∃p',x'.β k=some p'
 z:∀b,x.Z b→x'.Z b∧w'.heap[b]?=w.heap[b]?
 aq:∀k c p,x.β k=some p→x'.aq k=some c→∃o,x.aq k=some o∧o≤c
 at_:∀k c,x'.aq k=some c→x.aq k=some c→∀b base,x.β k=some (b,base)→x'.β k=some (b,base)∧bU w' b=bU w b
theorem cM.refl (w:World) (x:X):cM w x w x:=
 ⟨fun _ p h=>⟨p,h⟩,fun _ h=>⟨h,rfl⟩,fun _ c _ _ h=>⟨c,h,Nat.le_refl _⟩,fun _ _ _ _ _ _ h=>⟨h,rfl⟩⟩
theorem cM.trans {w1 w2 w3:World} {x1 x2 x3:X} (h:cM w1 x1 w2 x2) (g:cM w2 x2 w3 x3):cM w1 x1 w3 x3 where
 dm k p hp:=by obtain⟨p',pM⟩:=h.dm k p hp;exact g.dm k p' pM
 z b hb:=⟨(g.z b (h.z b hb).1).1,((g.z b (h.z b hb).1).2).trans (h.z b hb).2⟩
 aq k c p hk hc:=by
  obtain⟨p',pM⟩:=h.dm k p hk;obtain⟨o,ho,hle⟩:=g.aq k c p' pM hc;obtain⟨q,hq,Cq⟩:=h.aq k o p hk ho;exact⟨q,hq,Nat.le_trans Cq hle⟩
 at_ k c h3 h1 b base hb:=by
  obtain⟨p',pM⟩:=h.dm k _ hb;obtain⟨o,ho,hle⟩:=g.aq k c p' pM h3;obtain⟨p,hp,Cq⟩:=h.aq k o _ hb ho;rw[h1] at hp;cases hp;have:o=c:=Nat.le_antisymm hle Cq;subst this;obtain⟨hb2,D6⟩:=h.at_ k _ ho h1 b base hb;obtain⟨E3,H6⟩:=g.at_ k _ h3 ho b base hb2;exact⟨E3,H6.trans D6⟩
theorem VR.mono {w w':World} {x x':X} (hk:cM w x w' x') {d:D} {v:Value} (h:VR w x d v):VR w' x' d v:=by
 induction h with
 |im d v h=>exact .im d v (h.mono hk.z)
 |win k vr off len s a cap hc hkn hm h=>
  obtain⟨p,hp⟩:=hkn;refine .win k vr off len s a cap hc (hk.dm k p hp) ?_ ?_
  ·intro c tY;obtain⟨o,ho,hle⟩:=hk.aq k c p hp tY;exact Nat.le_trans (hm o ho) hle
  ·intro hv;obtain⟨o,ho,hle⟩:=hk.aq k vr p hp hv;have:o=vr:=Nat.le_antisymm hle (hm o ho);subst this;obtain⟨b,base,sz,hb,hs,hr⟩:=h ho;obtain⟨ez,H8⟩:=hk.at_ k _ hv ho b base hb;exact⟨b,base,sz,ez,H8.trans hs,hr⟩
 |ptr k vr off a hkn hm h=>
  obtain⟨p,hp⟩:=hkn;refine .ptr k vr off a (hk.dm k p hp) ?_ ?_
  ·intro c tY;obtain⟨o,ho,hle⟩:=hk.aq k c p hp tY;exact Nat.le_trans (hm o ho) hle
  ·intro hv;obtain⟨o,ho,hle⟩:=hk.aq k vr p hp hv;have:o=vr:=Nat.le_antisymm hle (hm o ho);subst this;obtain⟨b,base,hb,hr⟩:=h ho;exact⟨b,base,(hk.at_ k _ hv ho b base hb).1,hr⟩
 |mp k r hkn h=>
  obtain⟨p,hp⟩:=hkn;refine .mp k r (hk.dm k p hp) fun hv=>?_;obtain⟨o,ho,hle⟩:=hk.aq k 0 p hp hv;have:o=0:=by omega
  subst this;obtain⟨base,hb⟩:=h ho;exact⟨base,(hk.at_ k _ hv ho r base hb).1⟩
 |fn f cs vs hl hr ih=>exact .fn f cs vs hl ih
 |agg cs vs hl h1 hr ih=>exact .agg cs vs hl h1 ih
 |tup cs vs hl hr ih=>exact .tup cs vs hl ih
theorem VR.junk (w:World) (x:X) (v:Value):VR w x .junk v:=.im _ _ (.junk v)
def oy (n:Nat) (fr:Nat×Nat):Prop:=fr.1≤fr.2∧∀o,o<n→¬(fr.1≤o∧o<fr.2)
theorem oy.zero (n:Nat):oy n (0,0):=⟨Nat.le_refl _,fun o _=>by omega⟩
def gd (w:World) (x:X) (b base:Nat):gP→Prop
 | .mem _ _ cells=>∃c el fr,w.heap[b]?=some (.cells c el fr)∧base+cells.length≤c.size∧oy c.size fr∧
   ∀(j:Nat) d,cells[j]?=some d→∃u,c[base+j]?=some u∧u.oneCell'=true∧VR w x d u
 | .iter s pos=>base=0∧w.heap[b]?=some (.stringIter ⟨s.toArray⟩ pos)
 | .map es=>base=0∧∃entries clock,w.heap[b]?=some (.map entries clock)∧entries.size=es.length∧∀(i:Nat) p,es[i]?=some p→∃kk n vk x e,p=(.int kk n,.int vk x)∧entries[i]?=some e∧e.key=.int kk n∧e.val=.int vk x
 | .dead=>False
structure fm (w:World) (st:St) (β:Nat→Option (Nat×Nat)) (Z:Nat→Prop):Prop where
 dom:∀k b base,β k=some (b,base)→k<st.bs.length
 lt:∀k b base,β k=some (b,base)→b<w.heap.size
 inj:∀k k' b x x',β k=some (b,x)→β k'=some (b,x')→k=k'
 zd:∀k b base,β k=some (b,base)→¬Z b
 zl:∀b,Z b→b<w.heap.size
 box:∀k b base bx,β k=some (b,base)→st.bs[k]?=some bx→gd w (st.x β Z) b base bx
 flr:st.flr≤st.bs.length
 ro:st.ro≤st.bs.length
structure zt (M:Nat→Prop) (w w':World):Prop where
 os:w'.os=w.os
 tape:w'.tape=w.tape
 output:w'.output=w.output
 size:w.heap.size≤w'.heap.size
 block:∀b,b<w.heap.size→¬M b→w'.heap[b]?=w.heap[b]?
theorem zt.refl (M:Nat→Prop) (w:World):zt M w w:=⟨rfl,rfl,rfl,Nat.le_refl _,fun _ _ _=>rfl⟩
theorem zt.trans {M M' NX:Nat→Prop} {w1 w2 w3:World} (h:zt M w1 w2) (g:zt M' w2 w3) (hM:∀b,M b→NX b) (RW:∀b,b<w1.heap.size→M' b→NX b):zt NX w1 w3:=
 ⟨g.os.trans h.os,g.tape.trans h.tape,g.output.trans h.output,Nat.le_trans h.size g.size,fun b hb hn=>
  (g.block b (Nat.lt_of_lt_of_le hb h.size) fun hm=>hn (RW b hb hm)).trans (h.block b hb fun hm=>hn (hM b hm))⟩
theorem zt.mono {M M':Nat→Prop} {w w':World} (h:zt M w w') (hM:∀b,M b→M' b):zt M' w w':=
 ⟨h.os,h.tape,h.output,h.size,fun b hb hn=>h.block b hb fun hm=>hn (hM b hm)⟩
def N0 (st:St) (β:Nat→Option (Nat×Nat)) (b:Nat):Prop:=∃k base,β k=some (b,base)∧st.ro≤k
def mG (w:World) (x:X) (fr:Fr) (tmps:Array Value):Prop:=∀t,VR w x (fr.get t) (tmps.getD t undef)
theorem mG.mono {w w':World} {x x':X} {fr:Fr} {tmps:Array Value} (h:mG w x fr tmps) (hk:cM w x w' x'):mG w' x' fr tmps:=fun t=>(h t).mono hk
end Go.V
namespace Go.V
open Go.RowKit
structure Pv.Ok (pv:Pv) (P:Program):Prop where
 ty:∀t i,pv.info t=some i→P.info? t=some i
 fs:∀f x,pv.fi f=some x→x.prim=none→P.funcs[f]?=some x.fn∧∀b,x.fn.body=some b→x.fn.name≠ "runtime.NumGoroutine"
 eqb:∀t,pv.eqb.contains t=true→P.stoodInHeld t=false∧P.eqGuardType P.depth t=false
 mixed:P.follows .mixedOrders=true
section
variable{pv:Pv} {P:Program} (ok:pv.Ok P)
include ok
theorem wF {t:Nat} {d:TypeDesc} (h:pv.b9 t=some d):P.underlying t=some d:=by
 unfold Pv.b9 at h;unfold Program.underlying
 cases hi:pv.info t with
 |none=>simp[hi] at h
 |some i=>
  rw[ok.ty t i hi];simp only[hi] at h;obtain⟨desc,str,size,bytes,hp,al,fa,z,cmp,ms⟩:=i
  cases desc with
  |named nm u=>
   simp only at h
   cases hu:pv.info u with
   |none=>simp[hu] at h
   |some j=>rw[hu] at h;simp only[ok.ty u j hu];simpa using h
  |_=>simpa using h
theorem ax {t:Nat} {d:TypeDesc} (h:pv.b9 t=some d) (w:World):(underlying t).run P w=.ok d w:=by
 simp[underlying,wF ok h]
theorem lW {t:Nat} {i:TypeInfo} (h:pv.info t=some i) (w:World):(typeInfo t).run P w=.ok i w:=by
 simp[typeInfo,ok.ty t i h]
theorem bn {t n:Nat} (h:bN pv t=some n) (w:World):(sizeOf t).run P w=.ok n w:=by
 unfold bN at h
 cases hi:pv.info t with
 |none=>simp[hi] at h
 |some i=>simp only[hi,Option.some.injEq] at h;simp[sizeOf,lW ok hi,h]
omit ok in
theorem iN {t:Nat} {i:TypeInfo} (h:pv.info t=some i):bN pv t=some i.size:=by simp[bN,h]
def pI (d:TypeDesc):Bool:=
 match d with
 | .struct _| .array _ _=>true
 |_=>false
theorem oE {t:Nat} {d:TypeDesc} (h:pv.b9 t=some d) (w:World):(isAgg t).run P w=.ok (pI d) w:=by
 simp only[isAgg,Sem.run_bind,ax ok h,Result.andThen_ok];cases d<;>rfl
theorem uB {t:Nat} {z:D} (h:yf pv t=some z) (w:World):∃v,(zeroValue t).run P w=.ok v w∧z=fc v:=by
 unfold yf at h
 cases hi:pv.info t with
 |none=>simp[hi] at h
 |some i=>
  rw[hi] at h
  cases hz:i.zero with
  |none=>simp[hz] at h
  |some v=>simp[hz] at h;exact⟨v,by simp[zeroValue,lW ok hi,hz],h.symm⟩
end
theorem DO (v:Value):z6 v=v.oneCell':=by cases v<;>rfl
theorem rH (w:World) (Z:Nat→Prop) (v:Value) (h:z6 v=true):IR w Z (pt v) v:=by
 cases v with
 |bool b=>exact .bool b
 |int k n=>exact .int k n
 |string s=>
  have:=IR.str (w:=w) (Z:=Z) s.data.toList
  simpa[pt] using this
 |pointer a=>cases a with
  |none=>exact .pnil
  |some a=>exact .junk _
 |slice a l c=>
  unfold pt
  split<;>first|contradiction|skip
  all_goals first|(rename_i h;cases h;exact .nul)|exact .junk _
 |nilFunc=>exact .nilfn
 |nilIface=>exact .nilif
 |_=>exact .junk _
theorem sX {l:List Value}:∀{r:List D},kB l=some r→r.length=l.length∧(∀v∈l,v.oneCell'=true)∧∀(w:World) (Z:Nat→Prop) (i:Nat) c v,r[i]?=some c→l[i]?=some v→IR w Z c v:=by
 induction l with
 |nil=>intro r h;simp[kB] at h;subst h;simp
 |cons v l ih=>
  intro r h;unfold kB at h
  cases h1:z6 v with
  |false=>simp[h1] at h
  |true=>
   simp only[h1] at h
   cases hr:kB l with
   |none=>simp[hr] at h
   |some r'=>
    simp only[hr,Option.some.injEq] at h;subst h;obtain⟨hl,ho,hi⟩:=ih hr;refine⟨by simp[hl],?_,?_⟩
    ·intro u hu
     rcases List.mem_cons.1 hu with rfl|hu
     ·rw[←DO];exact h1
     ·exact ho u hu
    ·intro w Z i c u hc hu
     cases i with
     |zero=>simp at hc hu;subst hc;subst hu;exact rH w Z _ h1
     |succ i=>simp at hc hu;exact hi w Z i c u hc hu
theorem pr (w:World) (Z:Nat→Prop) (v:Value):IR w Z (fc v) v:=by
 unfold fc
 split
 ·rename_i cs
  split
  ·rename_i l hl;obtain⟨h1,h2,h3⟩:=sX hl;have:=IR.agg (w:=w) (Z:=Z) l cs.toList h1 h2 (h3 w Z)
   simpa using this
  ·exact .junk _
 ·rename_i hn
  by_cases h:z6 v=true
  ·exact rH w Z v h
  ·cases v with
   |agg cs=>exact absurd rfl (hn cs)
   |tuple vs=>exact .junk _
   |_=>simp[z6] at h
theorem r_ {w:World} {x:X} {fr:Fr} {a:Act} (h:mG w x fr a.tmps) (o:Operand):VR w x (fr.ev o) (a.eval o):=by
 cases o with
 |tmp t=>exact h t
 |const v=>exact .im _ _ (pr _ _ v)
 |global g=>exact .junk _ _ _
 |func f=>exact .fn f [] [] rfl (by simp)
theorem sY (d e:D):∀(l:List D) (t u:Nat),nth d (l.set t e) u=if u=t∧t<l.length then e else nth d l u
 |[],t,u=>by simp
 |x::l,0,u=>by cases u<;>simp[nth]
 |x::l,t+1,u=>by
  cases u with
  |zero=>simp[nth]
  |succ u=>simp only[List.set_cons_succ,nth,List.length_cons,Nat.add_lt_add_iff_right,Nat.add_right_cancel_iff];exact sY d e l t u
theorem yy (d:D):∀(l:List D) (t:Nat),l.length≤t→nth d l t=d
 |[],t,_=>by cases t<;>rfl
 |x::l,0,h=>by simp at h
 |x::l,t+1,h=>yy d l t (by simpa using h)
theorem y8 (fr:Fr) (t u:Nat) (d:D):(fr.put t d).get u=(if u=t then(if Nat.ble fr.n t=false∧fr.loc.length≤t then .junk else d) else fr.get u):=by
 unfold Fr.put
 by_cases hut:u=t
 ·subst hut;simp only[if_true]
  cases hb:Nat.ble fr.n u with
  |false=>
   simp only[Fr.get,hb,sY,true_and]
   by_cases hl:u<fr.loc.length
   ·rw[if_pos hl,if_neg (by omega)]
   ·rw[if_neg hl,if_pos (by omega)];exact yy _ _ _ (by omega)
  |true=>simp[Fr.get,hb,look,Nat.beq_refl]
 ·simp only[hut,if_false]
  have hq:Nat.beq u t=false:=by
   cases hq:Nat.beq u t with
   |false=>rfl
   |true=>exact absurd (Nat.eq_of_beq_eq_true hq) hut
  cases hb:Nat.ble fr.n t<;>cases RG:Nat.ble fr.n u<;>simp[Fr.get,RG,look,hq,sY,hut]
theorem Bv {w:World} {x:X} {fr:Fr} {a:Act} {d:D} {v:Value} (h:mG w x fr a.tmps) (hd:VR w x d v) (dst:Option Nat)
  (hs:∀t,dst=some t→t<a.tmps.size):mG w x (fr.putO dst d) (a.put dst v).tmps:=by
 cases dst with
 |none=>exact h
 |some t=>
  intro u;have hu:=h u;have hs:=hs t rfl;simp only[Fr.putO,Act.put,y8]
  have Ia:(a.tmps.setIfInBounds t v).getD u undef=if u=t then v else a.tmps.getD u undef:=by
   simp only[Array.getD_eq_getD_getElem?,Array.getElem?_setIfInBounds]
   by_cases hut:t=u
   ·subst hut;simp[hs]
   ·have:¬u=t:=fun e=>hut e.symm;simp[hut,this]
  rw[Ia]
  by_cases hut:u=t
  ·simp only[hut,if_true]
   split
   ·exact .junk _ _ _
   ·exact hd
  ·simp only[hut,if_false];exact hu
end Go.V
namespace Go.V
open Go.RowKit
theorem gr (k:IntKind) (n:Int):aV k n=k.wrap n:=by
 unfold aV
 split
 ·rename_i m
  split
  ·rename_i h;have h:=Nat.le_of_ble_eq_true h;cases k<;>simp only[IntKind.wrap,kU,IntKind.bits,IntKind.signed] at*<;>simp<;>omega
  ·rfl
 ·rename_i m
  split
  ·rename_i h;have h:¬s9 k≤m:=fun h'=>by rw[Nat.ble_eq_true_of_le h'] at h;cases h
   cases k<;>simp only[IntKind.wrap,s9,IntKind.bits,IntKind.signed] at*<;>simp<;>omega
  ·rfl
section
variable{w:World} {x:X}
theorem bW {k:IntKind} {n:Int} {v:Value} (h:VR w x (.int k n) v):v=.int k n:=by
 cases h with|im _ _ h=>cases h;rfl
theorem dB {b:Bool} {v:Value} (h:VR w x (.bool b) v):v=.bool b:=by
 cases h with|im _ _ h=>cases h;rfl
theorem eM {s:List UInt8} {v:Value} (h:VR w x (.str s) v):v=.string ⟨s.toArray⟩:=by
 cases h with|im _ _ h=>cases h;rfl
theorem dS {v:Value} (h:VR w x .nul v):v=.slice none 0 0:=by
 cases h with|im _ _ h=>cases h;rfl
theorem gf {v:Value} (h:VR w x .pnil v):v=.pointer none:=by
 cases h with|im _ _ h=>cases h;rfl
theorem fU {cs:List D} {v:Value} (h:VR w x (.agg cs) v):∃vs:List Value,v=.agg vs.toArray∧cs.length=vs.length∧(∀u∈vs,u.oneCell'=true)∧
  ∀(i:Nat) c u,cs[i]?=some c→vs[i]?=some u→VR w x c u:=by
 cases h with
 |im _ _ h=>cases h with|agg _ vs hl h1 hr=>exact⟨vs,rfl,hl,h1,fun i c u hc hu=>.im _ _ (hr i c u hc hu)⟩
 |agg _ vs hl h1 hr=>exact⟨vs,rfl,hl,h1,hr⟩
theorem sC {cs:List D} {v:Value} (h:VR w x (.tup cs) v):∃vs:List Value,v=.tuple vs.toArray∧cs.length=vs.length∧
  ∀(i:Nat) c u,cs[i]?=some c→vs[i]?=some u→VR w x c u:=by
 cases h with
 |im _ _ h=>cases h with|tup _ vs hl hr=>exact⟨vs,rfl,hl,fun i c u hc hu=>.im _ _ (hr i c u hc hu)⟩
 |tup _ vs hl hr=>exact⟨vs,rfl,hl,hr⟩
theorem ud {f:Nat} {cs:List D} {v:Value} (h:VR w x (.fn f cs) v):∃vs:List Value,v=.func (.func f) #[] vs.toArray∧cs.length=vs.length∧
  ∀(i:Nat) c u,cs[i]?=some c→vs[i]?=some u→VR w x c u:=by
 cases h with
 |im _ _ h=>cases h
 |fn _ _ vs hl hr=>exact⟨vs,rfl,hl,hr⟩
end
theorem pick {p:Nat→Value→Prop}:∀(n:Nat),(∀j,j<n→∃u,p j u)→∃us:List Value,us.length=n∧∀(j:Nat) u,us[j]?=some u→p j u
 |0,_=>⟨[],rfl,by simp⟩
 |n+1,h=>by
  obtain⟨us,hl,hp⟩:=pick n fun j hj=>h j (by omega);obtain⟨u,hu⟩:=h n (by omega);refine⟨us++[u],by simp[hl],fun j v hv=>?_⟩
  rcases Nat.lt_trichotomy j n with hj|hj|hj
  ·rw[List.getElem?_append_left (by omega)] at hv;exact hp j v hv
  ·subst hj;rw[←hl] at hv;simp at hv;subst hv;exact hu
  ·rw[List.getElem?_eq_none (by simp;omega)] at hv;cases hv
def bM (w:World) (x:X) (b o:Nat) (c:List D):Prop:=
 ∀(j:Nat) d,c[j]?=some d→∃u,w.cell? ⟨b,o+j,none⟩=some u∧u.oneCell'=true∧VR w x d u
theorem bM.drop {w:World} {x:X} {b o:Nat} {c:List D} (h:bM w x b o c) (n:Nat):bM w x b (o+n) (c.drop n):=by
 intro j d hd;rw[List.getElem?_drop] at hd;have:=h (n+j) d hd
 rwa [show o+(n+j)=o+n+j by omega] at this
theorem bM.take {w:World} {x:X} {b o:Nat} {c:List D} (h:bM w x b o c) (n:Nat):bM w x b o (c.take n):=by
 intro j d hd;rw[List.getElem?_take] at hd
 split at hd
 ·exact h j d hd
 ·cases hd
theorem bM.list {w:World} {x:X} {b o:Nat} {c:List D} (h:bM w x b o c):∃us:List Value,us.length=c.length∧
  (∀(j:Nat) u,us[j]?=some u→w.cell? ⟨b,o+j,none⟩=some u)∧(∀u∈us,u.oneCell'=true)∧∀(j:Nat) d u,c[j]?=some d→us[j]?=some u→VR w x d u:=by
 obtain⟨us,hl,hp⟩:=pick (p:=fun j u=>∃d,c[j]?=some d∧w.cell? ⟨b,o+j,none⟩=some u∧u.oneCell'=true∧VR w x d u) c.length fun j hj=>by
  obtain⟨u,hu⟩:=h j c[j] (List.getElem?_eq_getElem hj);exact⟨u,c[j],List.getElem?_eq_getElem hj,hu⟩
 refine⟨us,hl,fun j u hu=>?_,fun u hu=>?_,fun j d u hd hu=>?_⟩
 ·obtain⟨_,_,h,_⟩:=hp j u hu;exact h
 ·obtain⟨j,hj⟩:=List.getElem?_of_mem hu;obtain⟨_,_,_,h,_⟩:=hp j u hj;exact h
 ·obtain⟨d',n3,_,_,h⟩:=hp j u hu;rw[hd] at n3;cases n3;exact h
theorem nP {P:Program} {w:World} {b o:Nat} {us:List Value} (h:∀(j:Nat) u,us[j]?=some u→w.cell? ⟨b,o+j,none⟩=some u):
  (loadCells ⟨b,o,none⟩ us.length).run P w=.ok us.toArray w:=by
 refine run_loadCells_list w ⟨b,o,none⟩ us fun j v hv=>?_;have:=h j v hv;unfold Addr.add
 split
 ·rename_i hj;subst hj;simpa using this
 ·exact this
section
variable{pv:Pv} {P:Program} (ok:pv.Ok P)
include ok
theorem oB {w:World} {x:X} {b o t:Nat} {c:List D} {d:D} (hc:bM w x b o c) (h:cP pv t c=some d):
  ∃v,(loadVar t ⟨b,o,none⟩).run P w=.ok v w∧VR w x d v:=by
 unfold cP at h
 have agg:∀td,pv.b9 t=some td→pI td=true→(bN pv t).bind (fun n=>if n≤c.length then some (D.agg (c.take n)) else none)=some d→
   ∃v,(loadVar t ⟨b,o,none⟩).run P w=.ok v w∧VR w x d v:=by
  intro td hu ha h
  cases hs:bN pv t with
  |none=>simp[hs] at h
  |some n=>
   simp only[hs,Option.bind_some] at h
   split at h
   ·rename_i hn;simp only[Option.some.injEq] at h;subst h;obtain⟨us,hl,h1,h2,h3⟩:=(hc.take n).list;have QT:us.length=n:=by simp[hl];omega
    refine⟨.agg us.toArray,?_,.agg _ us hl.symm h2 h3⟩;simp only[loadVar,Sem.run_bind,oE ok hu,Result.andThen_ok,ha,if_true,bn ok hs];have:=nP (P:=P) h1;rw[QT] at this;simp[this]
   ·cases h
 split at h
 ·cases h
 ·rename_i hu;exact agg _ hu rfl h
 ·rename_i hu;exact agg _ hu rfl h
 ·rename_i td h1 h2 hu
  have ha:pI td=false:=by
   cases td<;>first|rfl|(exfalso;first|exact h1 _ rfl|exact h2 _ _ rfl)
  cases c with
  |nil=>cases h
  |cons y l=>
   simp at h;subst h;obtain⟨u,gI,jA,np⟩:=hc 0 y rfl;refine⟨u,?_,np⟩;simp only[Nat.add_zero] at gI;simp[loadVar,oE ok hu,ha,gI]
theorem ky {w:World} {x:X} {t off:Nat} {cs:List D} {vs:List Value} {d:D} (hl:cs.length=vs.length) (h1:∀u∈vs,u.oneCell'=true)
  (hr:∀(i:Nat) c u,cs[i]?=some c→vs[i]?=some u→VR w x c u) (h:nR pv t cs off=some d):
  ∃v,(part t vs.toArray off).run P w=.ok v w∧VR w x d v:=by
 unfold nR at h
 have agg:∀td,pv.b9 t=some td→pI td=true→(bN pv t).bind (fun n=>if off+n≤cs.length then some (D.agg ((cs.drop off).take n)) else none)=some d→
   ∃v,(part t vs.toArray off).run P w=.ok v w∧VR w x d v:=by
  intro td hu ha h
  cases hs:bN pv t with
  |none=>simp[hs] at h
  |some n=>
   simp only[hs,Option.bind_some] at h
   split at h
   ·rename_i hn;simp only[Option.some.injEq] at h;subst h;refine⟨.agg ((vs.drop off).take n).toArray,?_,.agg _ _ (by simp[hl]) (fun u hu=>h1 u (List.mem_of_mem_drop (List.mem_of_mem_take hu))) ?_⟩
    ·simp only[part,Sem.run_bind,oE ok hu,Result.andThen_ok,ha,if_true,bn ok hs,Sem.run_pure]
     congr 2
     apply Array.ext';simp[List.extract_eq_take_drop]
    ·intro i c u hc hu;rw[List.getElem?_take] at hc hu
     split at hc
     ·rename_i hi;rw[if_pos hi] at hu;rw[List.getElem?_drop] at hc hu;exact hr _ c u hc hu
     ·cases hc
   ·cases h
 split at h
 ·cases h
 ·rename_i hu;exact agg _ hu rfl h
 ·rename_i hu;exact agg _ hu rfl h
 ·rename_i td Hg Ml hu
  have ha:pI td=false:=by
   cases td<;>first|rfl|(exfalso;first|exact Hg _ rfl|exact Ml _ _ rfl)
  have hlt:off<cs.length:=by
   rcases Nat.lt_or_ge off cs.length with h'|h'
   ·exact h'
   ·rw[List.getElem?_eq_none h'] at h;cases h
  obtain⟨u,Ol⟩:∃u,vs[off]?=some u:=⟨vs[off]'(by omega),List.getElem?_eq_getElem _⟩
  exact⟨u,by simp[part,oE ok hu,ha,Ol],hr off d u h Ol⟩
end
end Go.V
namespace Go.V
open Go.RowKit
theorem sL (s t:List UInt8):((⟨s.toArray⟩:ByteArray).toList==(⟨t.toArray⟩:ByteArray).toList)=(s==t):=by
 rw[ByteArray.toList_eq,ByteArray.toList_eq]
theorem bH {w:World} {x:X} {k vr off:Nat} {v:Value} (h:VR w x (.ptr k vr off) v):∃a,v=.pointer (some a)∧(∃p,x.β k=some p)∧
  (x.aq k=some vr→∃b base,x.β k=some (b,base)∧a=⟨b,base+off,none⟩):=by
 cases h with
 |im _ _ h=>cases h
 |ptr _ _ _ a hk hm h=>exact⟨a,rfl,hk,h⟩
theorem yh {w:World} {x:X} {k:Nat} {v:Value} (h:VR w x (.mp k) v):∃r,v=.map (some r)∧(x.aq k=some 0→∃base,x.β k=some (r,base)):=by
 cases h with
 |im _ _ h=>cases h
 |mp _ r hk h=>exact⟨r,rfl,h⟩
theorem dR {w:World} {x:X} {k vr off len s:Nat} {v:Value} (h:VR w x (.win k vr off len s) v):∃a cap,v=.slice (some a) len cap∧len≤cap∧(∃p,x.β k=some p)∧
  (∀c,x.aq k=some c→vr≤c)∧
  (x.aq k=some vr→∃b base sz,x.β k=some (b,base)∧bU w b=some sz∧(cap=0∨(a=⟨b,base+off,none⟩∧base+off+cap*s≤sz))):=by
 cases h with
 |im _ _ h=>cases h
 |win _ _ _ _ _ a cap hc hk hm h=>exact⟨a,cap,rfl,hc,hk,hm,h⟩
theorem jD {w:World} {x:X} {es:List D} {v:Value} (h:VR w x (.sl es) v):∃a cap,v=.slice a es.length cap∧es.length≤cap∧
  (es=[]∨∃b off s,a=some ⟨b,off,none⟩∧x.Z b∧(∀(i:Nat) e,es[i]?=some e→e.cells?=some e.cells∧e.cells.length=s)∧
   (∀(i:Nat) e,es[i]?=some e→bM w x b (off+i*s) e.cells)∧
   ∃f:Nat→Nat→Value,(∀(i:Nat) e (j:Nat) c,es[i]?=some e→e.cells[j]?=some c→w.cell? ⟨b,off+(i*s+j),none⟩=some (f i j)∧(f i j).oneCell'=true)∧
    ∀(i:Nat) e (j:Nat) c,es[i]?=some e→e.cells[j]?=some c→IR w x.Z c (f i j)):=by
 cases h with
 |im _ _ h=>
  cases h with
  |emp a cap=>exact⟨a,cap,rfl,by simp,.inl rfl⟩
  |sl _ b off cap s f hz hc hs hv hr=>
   refine⟨_,cap,rfl,hc,.inr ⟨b,off,s,rfl,hz,hs,?_,f,hv,hr⟩⟩;intro i e he j d hd;obtain⟨h1,h2⟩:=hv i e j d he hd;exact⟨f i j,by rw[←h1];congr 2;omega,h2,.im _ _ (hr i e j d he hd)⟩
theorem oY {w:World} {x:X} {cs:List D} {v:Value} (h:VR w x (.ep cs) v):∃b off,v=.pointer (some ⟨b,off,none⟩)∧x.Z b∧bM w x b off cs∧
  ∃f:Nat→Value,(∀(j:Nat) c,cs[j]?=some c→w.cell? ⟨b,off+j,none⟩=some (f j)∧(f j).oneCell'=true)∧∀(j:Nat) c,cs[j]?=some c→IR w x.Z c (f j):=by
 cases h with
 |im _ _ h=>
  cases h with
  |ep _ b off f hz hv hr=>
   exact⟨b,off,rfl,hz,fun j d hd=>⟨f j,(hv j d hd).1,(hv j d hd).2,.im _ _ (hr j d hd)⟩,f,hv,hr⟩
section
variable{pv:Pv} {P:Program} (ok:pv.Ok P)
include ok
theorem Jr (n:Nat):(∀{w:World} {x:X} {t:Nat} {d e:D} {u v:Value} {b:Bool},VR w x d u→VR w x e v→El pv n t d e=some b→∀m,n≤m→(Op.equalIn m t u v).run P w=.ok b w)∧
  (∀{w:World} {x:X} {xs ys:List D} {us vs:List Value} {fs:List Field} {b:Bool},xs.length=us.length→ys.length=vs.length→(∀u∈us,u.oneCell'=true)→(∀u∈vs,u.oneCell'=true)→
   (∀(i:Nat) c u,xs[i]?=some c→us[i]?=some u→VR w x c u)→(∀(i:Nat) c u,ys[i]?=some c→vs[i]?=some u→VR w x c u)→
   eqFields pv n xs ys fs=some b→∀m,n≤m→(Op.eqFields m us.toArray vs.toArray fs).run P w=.ok b w)∧
  (∀{w:World} {x:X} {t sz:Nat} {xs ys:List D} {us vs:List Value} {left i:Nat} {b:Bool},bN pv t=some sz→xs.length=us.length→ys.length=vs.length→(∀u∈us,u.oneCell'=true)→(∀u∈vs,u.oneCell'=true)→
   (∀(i:Nat) c u,xs[i]?=some c→us[i]?=some u→VR w x c u)→(∀(i:Nat) c u,ys[i]?=some c→vs[i]?=some u→VR w x c u)→
   kL pv n t sz xs ys left i=some b→∀m,n≤m→
   ((do
    for j in List.range' i left do
     if !(←Op.equalIn m t (←part t us.toArray (j*sz)) (←part t vs.toArray (j*sz))) then return false
    pure true:Sem Bool)).run P w=.ok b w):=by
 induction n with
 |zero=>refine⟨?_,?_,?_⟩<;>intros<;>rename_i h _ _<;>simp[El,eqFields,kL] at h
 |succ n ih=>
  obtain⟨G6,AU,Of⟩:=ih;refine⟨?_,?_,?_⟩
  ·intro w x t d e u v b hu hv h m hm
   obtain⟨m,rfl⟩:∃m',m=m'+1:=⟨m-1,by omega⟩
   unfold El at h
   split at h
   ·rename_i ht;rw[dB hu,dB hv];simp only[Option.some.injEq] at h;subst h;simp[Op.equalIn,ax ok ht]
   ·rename_i ht;rw[bW hu,bW hv]
    split at h
    ·rename_i hk;subst hk;simp only[Option.some.injEq] at h;subst h;simp[Op.equalIn,ax ok ht]
    ·cases h
   ·rename_i ht;rw[eM hu,eM hv];simp only[Option.some.injEq] at h;subst h;simp only[Op.equalIn,Sem.run_bind,ax ok ht,Result.andThen_ok,Sem.run_pure,beq_toListBytes,sL]
   ·rename_i ht;rw[gf hu,gf hv];simp only[Option.some.injEq] at h;subst h;simp[Op.equalIn,ax ok ht]
   ·rename_i ht;rw[gf hu];obtain⟨a,rfl,_⟩:=bH hv;simp only[Option.some.injEq] at h;subst h;simp[Op.equalIn,ax ok ht]
   ·rename_i ht;rw[gf hv];obtain⟨a,rfl,_⟩:=bH hu;simp only[Option.some.injEq] at h;subst h;simp[Op.equalIn,ax ok ht]
   ·rename_i ht;rw[dS hu,dS hv];simp only[Option.some.injEq] at h;subst h;simp[Op.equalIn,ax ok ht]
   ·rename_i ht;rw[dS hv];obtain⟨a,cap,rfl,_⟩:=dR hu;simp only[Option.some.injEq] at h;subst h;simp[Op.equalIn,ax ok ht]
   ·rename_i ht;rw[dS hv];obtain⟨a,cap,rfl,_,h'|⟨bb,off,s,rfl,_⟩⟩:=jD hu
    ·cases h'
    simp only[Option.some.injEq] at h;subst h;simp[Op.equalIn,ax ok ht]
   ·rename_i fields xs ys ht;obtain⟨us,rfl,tw,yT,hr1⟩:=fU hu;obtain⟨vs,rfl,oN,xy,nY⟩:=fU hv
    split at h
    ·rename_i hq;have hp:=(ok.eqb t hq).1;have hf:P.underlying t=some (.struct (P.fieldsOf t)):=by simp[Program.fieldsOf,wF ok ht]
     have lE:P.fieldsOf t=fields:=by simp[Program.fieldsOf,wF ok ht]
     rw[run_equalIn_struct w m t _ _ hf hp,lE];exact AU tw oN yT xy hr1 nY h m (by omega)
    ·cases h
   ·rename_i len el xs ys ht;obtain⟨us,rfl,tw,yT,hr1⟩:=fU hu;obtain⟨vs,rfl,oN,xy,nY⟩:=fU hv
    cases hs:bN pv el with
    |none=>simp[hs] at h
    |some sz=>
     simp only[hs,Option.bind_some] at h;have:=Of hs tw oN yT xy hr1 nY h m (by omega);simp only[Op.equalIn,Sem.run_bind,ax ok ht,Result.andThen_ok,bn ok hs];rw[Std.Legacy.Range.forIn_eq_forIn_range']
     simpa[Std.Legacy.Range.size] using this
   ·cases h
  ·intro w x xs ys us vs fs b tw oN yT xy hr1 nY h m hm
   cases fs with
   |nil=>simp[eqFields] at h;subst h;simp[Op.eqFields]
   |cons f fs=>
    unfold eqFields at h;unfold Op.eqFields
    split at h
    ·rename_i hn;simp only[hn,ne_eq,not_true_eq_false,if_false];exact AU tw oN yT xy hr1 nY h m (by omega)
    ·rename_i hn;simp only[ne_eq,hn,not_false_eq_true,if_true]
     split at h
     ·rename_i d e hd he;obtain⟨u,gI,jA⟩:=ky ok tw yT hr1 hd;obtain⟨v,oJ,xw⟩:=ky ok oN xy nY he;simp only[Sem.run_bind,gI,oJ,Result.andThen_ok]
      split at h
      ·rename_i hq;rw[G6 jA xw hq m (by omega)]
       simpa using AU tw oN yT xy hr1 nY h m (by omega)
      ·rename_i hq;rw[G6 jA xw hq m (by omega)];simp only[Option.some.injEq] at h;subst h;simp
      ·cases h
     ·cases h
  ·intro w x t sz xs ys us vs left i b hsz tw oN yT xy hr1 nY h m hm
   cases left with
   |zero=>simp[kL] at h;subst h;simp
   |succ left=>
    unfold kL at h
    split at h
    ·rename_i d e hd he;obtain⟨u,gI,jA⟩:=ky ok tw yT hr1 hd;obtain⟨v,oJ,xw⟩:=ky ok oN xy nY he;simp only[List.range'_succ,List.forIn_cons,Sem.run_bind,gI,oJ,Result.andThen_ok]
     split at h
     ·rename_i hq;rw[G6 jA xw hq m (by omega)];have:=Of hsz tw oN yT xy hr1 nY h m (by omega)
      simpa using this
     ·rename_i hq;rw[G6 jA xw hq m (by omega)];simp only[Option.some.injEq] at h;subst h;simp
     ·cases h
    ·cases h
end
end Go.V
namespace Go.V
open Go.RowKit
theorem gV {P : Program} {w : World} (op : BinOp) (t : TypeId) (xo yo : Operand) (a b : Value) (h1 : ¬ (a = .nilIface ∧ b = .nilIface)) (h2 : ∀ c d, ¬ (a = .agg c ∧ b = .agg d)) :
    (eqGuard op t xo yo a b).run P w = .ok () w := by
  cases op <;> first
    | rfl
    | (unfold eqGuard
       simp only [Bool.not_true, Bool.false_eq_true, if_false]
       split
       · exact absurd ⟨rfl, rfl⟩ h1
       · exact absurd ⟨rfl, rfl⟩ (h2 _ _)
       · rfl)
theorem zm {P:Program} {w:World} {op:BinOp} {k:IntKind} {a b:Int} {d:D} (h:zn op k a b=some d):∃n,d=.int k n∧(Op.intBits op k a b).run P w=.ok (.int k n) w:=by
 unfold zn at h
 split at h<;>first|(cases h;refine⟨_,rfl,?_⟩;simp[Op.intBits,gr];done)|(cases h;done)
theorem GD {P:Program} {w:World} {op:BinOp} {a b:Int} {d:D} (h:xU op a b=some d):∃r,d=.bool r∧(Op.intCmp op a b).run P w=.ok (.bool r) w:=by
 unfold xU at h
 split at h<;>first|(cases h;exact⟨_,rfl,rfl⟩)|(cases h;done)
theorem FD {P : Program} {w : World} {x : X} {op : BinOp} {t : TypeId} {k : IntKind} {a b : Int} {d : D} (hs : op ≠ .shl) (H8 : op ≠ .shr) (h : th op k a b = some d) :
    ∃ v, (binOp op t (.int k a) (.int k b)).run P w = .ok v w ∧ VR w x d v := by
  cases op <;> simp only [binOp, ne_eq, not_true_eq_false, if_false] <;> simp only [th] at h <;> first
    | exact absurd rfl hs
    | exact absurd rfl H8
    | (cases h; exact ⟨_, rfl, by rw [gr]; exact .im _ _ (.int _ _)⟩)
    | (split at h
       · cases h
       · rename_i hb; cases h
         refine ⟨_, by simp only [Op.intDiv, hb, if_false]; rfl, ?_⟩
         first | exact .im _ _ (.int _ _) | (rw [gr]; exact .im _ _ (.int _ _)))
    | (obtain ⟨n, rfl, hr⟩ := zm (P := P) (w := w) h; exact ⟨_, hr, .im _ _ (.int _ _)⟩)
    | (obtain ⟨n, rfl, hr⟩ := GD (P := P) (w := w) h; exact ⟨_, hr, .im _ _ (.bool _)⟩)
theorem uo {P:Program} {w:World} {x:X} {op:BinOp} {t:TypeId} {k k':IntKind} {a b:Int} {d:D} (hs:op=.shl∨op=.shr) (h:wO op k a b=some d):
  ∃v,(binOp op t (.int k a) (.int k' b)).run P w=.ok v w∧VR w x d v:=by
 unfold wO at h
 split at h
 ·cases h
 ·rename_i hb
  rcases hs with rfl|rfl<;>simp only[Option.some.injEq] at h<;>subst h<;>
   refine⟨_,by simp only[binOp,Op.shift,hb,if_false];rfl,?_⟩<;>first|exact .im _ _ (.int _ _)|(rw[gr];exact .im _ _ (.int _ _))
theorem Fe {P:Program} {w:World} {x:X} {op:BinOp} {t:TypeId} {a b:List UInt8} {d:D} (h:Bd op a b=some d):
  ∃v,(binOp op t (.string ⟨a.toArray⟩) (.string ⟨b.toArray⟩)).run P w=.ok v w∧VR w x d v:=by
 have e:binOp op t (.string ⟨a.toArray⟩) (.string ⟨b.toArray⟩)=Op.stringOp op ⟨a.toArray⟩ ⟨b.toArray⟩:=by cases op<;>rfl
 rw[e];have l1:(⟨a.toArray⟩:ByteArray).toList=a:=by rw[ByteArray.toList_eq]
 have l2:(⟨b.toArray⟩:ByteArray).toList=b:=by rw[ByteArray.toList_eq]
 by_cases fX:op=.add
 ·subst fX;simp only[Bd] at h
  split at h
  ·rename_i hb;cases h
   have hm:¬((((⟨a.toArray⟩:ByteArray).size+(⟨b.toArray⟩:ByteArray).size:Nat):Int)>IntKind.i64.max):=by
    have h1:(⟨a.toArray⟩:ByteArray).size=a.length:=by simp[ByteArray.size]
    have h2:(⟨b.toArray⟩:ByteArray).size=b.length:=by simp[ByteArray.size]
    rw[h1,h2];simp only[IntKind.max,IntKind.signed,IntKind.bits,if_true];omega
   refine⟨.string ⟨(a++b).toArray⟩,?_,.im _ _ (.str _)⟩;simp only[Op.stringOp,hm,if_false,Sem.run_pure]
   congr 2
  ·cases h
 ·cases op<;>simp only[Bd] at h<;>first
   |exact absurd rfl fX
   |(cases h;done)
   |(cases h;exact⟨_,by simp only[Op.stringOp,l1,l2];rfl,.im _ _ (.bool _)⟩)
section
variable{pv:Pv} {P:Program} (ok:pv.Ok P)
include ok
theorem CN {w:World} {x:X} {t:Nat} {d e:D} {u v:Value} {b:Bool} (hu:VR w x d u) (hv:VR w x e v) (h:equalD pv t d e=some b) (op:BinOp) (xo yo:Operand):
  (eqGuard op t xo yo u v).run P w=.ok () w∧(Op.equal t u v).run P w=.ok b w:=by
 unfold equalD at h
 split at h
 ·cases h
 ·rename_i hg;have heq:=(Jr ok pW).1 hu hv h Op.maxDepth (by decide)
  have Rv:(eqGuard op t xo yo u v).run P w=.ok () w:=by
   by_cases ha:GP d=true
   ·have hq:pv.eqb.contains t=true:=by
     simp only[ha,Bool.true_and,Bool.not_eq_true',Bool.not_eq_false] at hg;simpa using hg
    cases d with
    |agg cs=>
     obtain⟨us,rfl,_⟩:=fU hu
     cases v with
     |agg vs=>exact run_eqGuard_agg w op t xo yo _ _ (ok.eqb t hq).2
     |_=>exact gV _ _ _ _ _ _ (by simp) (by simp)
    |_=>simp[GP] at ha
   ·refine gV _ _ _ _ _ _ ?_ ?_
    ·rintro⟨rfl,rfl⟩;unfold pW El at h
     split at h<;>first
      |(have:=dB hu;cases this)|(have:=bW hu;cases this)|(have:=eM hu;cases this)|(have:=gf hu;cases this)|(have:=dS hu;cases this)
      |(obtain⟨_,h',_⟩:=bH hu;cases h')|(obtain⟨_,_,h',_⟩:=dR hu;cases h')|(obtain⟨_,_,h',_⟩:=jD hu;cases h')|(obtain⟨_,h',_⟩:=fU hu;cases h')|cases h
    ·rintro c d' ⟨rfl,rfl⟩;unfold pW El at h
     split at h<;>first
      |(exfalso;exact ha rfl)
      |(have:=dB hu;cases this)|(have:=bW hu;cases this)|(have:=eM hu;cases this)|(have:=gf hu;cases this)|(have:=dS hu;cases this)
      |(obtain⟨_,h',_⟩:=bH hu;cases h')|(obtain⟨_,_,h',_⟩:=dR hu;cases h')|(obtain⟨_,_,h',_⟩:=jD hu;cases h')|cases h
  exact⟨Rv,heq⟩
end
end Go.V
namespace Go.V
open Go.RowKit
def w8 (v:Value):Prop:=(∀k n,v≠.int k n)∧(∀s,v≠.string s)∧(∀k b,v≠.float k b)∧(∀k a b,v≠.complex k a b)
def w9:D→Bool
 | .int _ _| .str _| .junk=>false
 |_=>true
theorem A4 {w:World} {x:X} {d:D} {v:Value} (h:VR w x d v) (hp:w9 d=true):w8 v:=by
 unfold w8
 cases d with
 |int k n=>cases hp
 |str s=>cases hp
 |junk=>cases hp
 |bool b=>rw[dB h];simp
 |nul=>rw[dS h];simp
 |pnil=>rw[gf h];simp
 |sl es=>obtain⟨_,_,rfl,_⟩:=jD h;simp
 |win k v o l s=>obtain⟨_,_,rfl,_⟩:=dR h;simp
 |ptr k v o=>obtain⟨_,rfl,_⟩:=bH h;simp
 |mp k=>obtain⟨_,rfl,_⟩:=yh h;simp
 |ep c=>obtain⟨_,_,rfl,_⟩:=oY h;simp
 |fn f c=>obtain⟨_,rfl,_⟩:=ud h;simp
 |nilfn=>cases h with|im _ _ h=>cases h;simp
 |nilif=>cases h with|im _ _ h=>cases h;simp
 |agg c=>obtain⟨_,rfl,_⟩:=fU h;simp
 |tup c=>obtain⟨_,rfl,_⟩:=sC h;simp
theorem binOp_eql {t:TypeId} {u v:Value} (h:w8 u):
  binOp .eql t u v=(Op.equal t u v>>=fun b=>pure (.bool b))∧binOp .neq t u v=(Op.equal t u v>>=fun b=>pure (.bool (!b))):=by
 obtain⟨h1,h2,h3,h4⟩:=h;cases u<;>first
  |exact absurd rfl (h1 _ _)|exact absurd rfl (h2 _)|exact absurd rfl (h3 _ _)|exact absurd rfl (h4 _ _ _)
  |(cases v<;>exact⟨rfl,rfl⟩)
section
variable{pv:Pv} {P:Program} (ok:pv.Ok P)
include ok
theorem GL {w:World} {x:X} {op:BinOp} {t:Nat} {d e r:D} {u v:Value} (xo yo:Operand) (hu:VR w x d u) (hv:VR w x e v) (h:nG pv op t d e=some r):
  ∃z,((eqGuard op t xo yo u v>>=fun _=>binOp op t u v:Sem Value)).run P w=.ok z w∧VR w x r z:=by
 unfold nG at h
 split at h
 ·rename_i k a k' b;rw[bW hu,bW hv];have hg:=gV (P:=P) (w:=w) op t xo yo (.int k a) (.int k' b) (by simp) (by simp);simp only[Sem.run_bind,hg,Result.andThen_ok]
  split at h
  ·exact uo (.inl rfl) h
  ·exact uo (.inr rfl) h
  ·rename_i h1 h2
   split at h
   ·rename_i hk;subst hk;exact FD h1 h2 h
   ·cases h
 ·rename_i a b;rw[eM hu,eM hv];have hg:=gV (P:=P) (w:=w) op t xo yo (.string ⟨a.toArray⟩) (.string ⟨b.toArray⟩) (by simp) (by simp);simp only[Sem.run_bind,hg,Result.andThen_ok];exact Fe h
 ·rename_i h1 h2
  have key:∀b,equalD pv t d e=some b→(eqGuard op t xo yo u v).run P w=.ok () w∧(Op.equal t u v).run P w=.ok b w∧
    (binOp .eql t u v=(Op.equal t u v>>=fun b=>pure (.bool b))∧binOp .neq t u v=(Op.equal t u v>>=fun b=>pure (.bool (!b)))):=by
   intro b hb;obtain⟨hg,he⟩:=CN ok hu hv hb op xo yo;refine⟨hg,he,binOp_eql ?_⟩;have ez:=hb;unfold equalD at hb
   split at hb
   ·cases hb
   ·unfold pW El at hb;refine A4 hu ?_
    cases Qn:w9 d with
    |true=>rfl
    |false=>
     exfalso
     cases d<;>simp[w9] at Qn<;>(split at hb<;>first|(cases hb;done)|(exact h1 _ _ _ _ rfl rfl)|(exact h2 _ _ rfl rfl)|simp_all)
  split at h
  ·cases hb:equalD pv t d e with
   |none=>simp[hb] at h
   |some b=>
    simp only[hb,Option.map_some,Option.some.injEq] at h;subst h;obtain⟨hg,he,hq,_⟩:=key b hb;exact⟨.bool b,by simp[hg,hq,he],.im _ _ (.bool _)⟩
  ·cases hb:equalD pv t d e with
   |none=>simp[hb] at h
   |some b=>
    simp only[hb,Option.map_some,Option.some.injEq] at h;subst h;obtain⟨hg,he,_,hq⟩:=key b hb;exact⟨.bool (!b),by simp[hg,hq,he],.im _ _ (.bool _)⟩
  ·cases h
omit ok in
theorem Hq {w:World} {x:X} {op:UnOp} {d r:D} {u:Value} (hu:VR w x d u) (h:J4 op d=some r):∃z,(Op.unary op u).run P w=.ok z w∧VR w x r z:=by
 unfold J4 at h
 split at h
 ·rename_i k n;rw[bW hu];cases h;exact⟨_,rfl,by rw[gr];exact .im _ _ (.int _ _)⟩
 ·rename_i k n;rw[bW hu];obtain⟨m,rfl,hr⟩:=zm (P:=P) (w:=w) h;exact⟨_,hr,.im _ _ (.int _ _)⟩
 ·rw[dB hu];cases h;exact⟨_,rfl,.im _ _ (.bool _)⟩
 ·cases h
omit ok in
theorem mC {w:World} {x:X} {d:D} {v:Value} {y n:Nat} (hv:VR w x d v) (h:lL d y=some n) (code:BoundsCode):(Instr.sliceBound v y code).run P w=.ok n w∧n≤y:=by
 unfold lL at h
 split at h
 ·rename_i k i;rw[bW hv]
  split at h
  ·rename_i hi;cases h;refine⟨?_,by omega⟩;simp[Instr.sliceBound,asIntOf,hi]
  ·cases h
 ·cases h
omit ok in
theorem iF {w:World} {x:X} {len cap l h:Nat} {lo hi:Option D} {yL tx:Option Value} (bJ:Bool) (hc:len≤cap) (wD:∀d v,lo=some d→yL=some v→VR w x d v) (yX:∀d v,hi=some d→tx=some v→VR w x d v)
  (el:lo.isSome=yL.isSome) (eh:hi.isSome=tx.isSome) (hb:dH len lo hi=some (l,h)):
  (Instr.sliceBounds bJ len cap yL tx none).run P w=.ok (l,h,cap) w∧l≤h∧h≤len:=by
 unfold dH at hb;obtain⟨hh,h1,h2⟩:=Option.bind_eq_some_iff.1 hb;obtain⟨ll,h3,h4⟩:=Option.map_eq_some_iff.1 h2;simp only[Prod.mk.injEq] at h4;obtain⟨rfl,rfl⟩:=h4
 have hle:hh≤len:=by
  cases hi with
  |none=>cases h1;exact Nat.le_refl _
  |some d=>exact(mC (P:=P) (yX d (tx.getD default) rfl (by cases tx<;>simp at eh⊢)) h1 .sliceB).2
 have Cq:ll≤hh:=by
  cases lo with
  |none=>cases h3;exact Nat.zero_le _
  |some d=>exact(mC (P:=P) (wD d (yL.getD default) rfl (by cases yL<;>simp at el⊢)) h3 .sliceB).2
 refine⟨?_,Cq,hle⟩
 have LH:∀v,tx=some v→(Instr.sliceBound v cap (if bJ then .sliceAcap else .sliceAlen)).run P w=.ok hh w:=by
  intro v hv
  cases hi with
  |none=>subst hv;simp at eh
  |some d=>
   have Hg:lL d cap=some hh:=by
    simp only[jL] at h1;unfold lL at h1⊢
    split at h1
    ·split at h1
     ·rename_i hq;cases h1;rw[if_pos (by omega)]
     ·cases h1
    ·cases h1
   exact(mC (P:=P) (yX d v rfl hv) Hg _).1
 have HS:∀v,yL=some v→(Instr.sliceBound v hh .sliceB).run P w=.ok ll w:=by
  intro v hv
  cases lo with
  |none=>subst hv;simp at el
  |some d=>exact(mC (P:=P) (wD d v rfl hv) h3 _).1
 have LI:tx=none→hh=len:=by
  intro hv;subst hv
  cases hi with
  |none=>cases h1;rfl
  |some d=>simp at eh
 have HT:yL=none→ll=0:=by
  intro hv;subst hv
  cases lo with
  |none=>cases h3;rfl
  |some d=>simp at el
 unfold Instr.sliceBounds
 cases tx with
 |none=>
  obtain rfl:=LI rfl
  cases yL with
  |none=>obtain rfl:=HT rfl;rfl
  |some v=>simp[HS v rfl]
 |some u=>
  have h5:=LH u rfl
  cases yL with
  |none=>obtain rfl:=HT rfl;simp[h5]
  |some v=>simp[h5,HS v rfl]
end
end Go.V
namespace Go.V
open Go.RowKit
structure Nx (w:World) (st:St) (β:Nat→Option (Nat×Nat)) (Z:Nat→Prop) (w':World) (ae:St) (β':Nat→Option (Nat×Nat)) (Z':Nat→Prop):Prop where
 sim:fm w' ae β' Z'
 keeps:cM w (st.x β Z) w' (ae.x β' Z')
 evo:zt (N0 st β) w w'
 fresh:∀k b base,β' k=some (b,base)→(∃cu,β k=some (b,cu))∨w.heap.size≤b
 zfresh:∀b,Z' b→Z b∨w.heap.size≤b
 len:st.bs.length≤ae.bs.length
 flr:ae.flr=st.flr
 ro:ae.ro=st.ro
 low:∀k,k<st.ro→ae.bs[k]?=st.bs[k]?∧β' k=β k
 u7:∀k,k<st.bs.length→β k=none→β' k=none∧ae.bs[k]?=st.bs[k]?
theorem gd.cD {w w':World} {x x':X} {b base:Nat} {bx:gP} (h:gd w x b base bx) (hk:cM w x w' x') (hb:w'.heap[b]?=w.heap[b]?):gd w' x' b base bx:=by
 cases bx with
 |mem v a cells=>
  obtain⟨c,el,fr,h1,h2,h3,h4⟩:=h;refine⟨c,el,fr,hb.trans h1,h2,h3,fun j d hd=>?_⟩;obtain⟨u,gI,jA,np⟩:=h4 j d hd;exact⟨u,gI,jA,np.mono hk⟩
 |iter s pos=>exact⟨h.1,hb.trans h.2⟩
 |map es=>
  obtain⟨h0,en,cl,h1,h2⟩:=h;exact⟨h0,en,cl,hb.trans h1,h2⟩
 |dead=>exact h
theorem Nx.same {w:World} {st:St} {β:Nat→Option (Nat×Nat)} {Z:Nat→Prop} (h:fm w st β Z):Nx w st β Z w st β Z:=
 ⟨h,cM.refl _ _,zt.refl _ _,fun _ _ base hb=>.inl ⟨base,hb⟩,fun _ hz=>.inl hz,Nat.le_refl _,rfl,rfl,fun _ _=>⟨rfl,rfl⟩,fun _ _ h=>⟨h,rfl⟩⟩
theorem Nx.trans {w1 w2 w3:World} {st1 st2 N4:St} {β1 β2 β3:Nat→Option (Nat×Nat)} {Z1 Z2 Z3:Nat→Prop} (h:Nx w1 st1 β1 Z1 w2 st2 β2 Z2) (g:Nx w2 st2 β2 Z2 w3 N4 β3 Z3):
  Nx w1 st1 β1 Z1 w3 N4 β3 Z3 where
 sim:=g.sim
 keeps:=h.keeps.trans g.keeps
 evo:=by
  refine h.evo.trans g.evo (fun _ hm=>hm) fun b hb hm=>?_;obtain⟨k,base,hk,ft⟩:=hm
  rcases h.fresh k b base hk with⟨cu,ez⟩|hlt
  ·exact⟨k,cu,ez,by rw[←h.ro];exact ft⟩
  ·omega
 fresh k b base hb:=by
  rcases g.fresh k b base hb with⟨cu,ez⟩|hlt
  ·exact h.fresh k b cu ez
  ·exact .inr (Nat.le_trans h.evo.size hlt)
 zfresh b hz:=by
  rcases g.zfresh b hz with hz|hlt
  ·exact h.zfresh b hz
  ·exact .inr (Nat.le_trans h.evo.size hlt)
 len:=Nat.le_trans h.len g.len
 flr:=g.flr.trans h.flr
 ro:=g.ro.trans h.ro
 low k hk:=by
  obtain⟨h1,h2⟩:=h.low k hk;obtain⟨g1,g2⟩:=g.low k (by rw[h.ro];exact hk);exact⟨g1.trans h1,g2.trans h2⟩
 u7 k hk h0:=by
  obtain⟨h1,h2⟩:=h.u7 k hk h0;obtain⟨g1,g2⟩:=g.u7 k (Nat.lt_of_lt_of_le hk h.len) h1;exact⟨g1,g2.trans h2⟩
theorem Nx.still {w w':World} {st:St} {β:Nat→Option (Nat×Nat)} {Z:Nat→Prop} (h:fm w st β Z) (hh:w'.heap=w.heap) (ho:w'.os=w.os) (ht:w'.tape=w.tape) (hp:w'.output=w.output):
  Nx w st β Z w' st β Z:=by
 have hk:cM w (st.x β Z) w' (st.x β Z):=
  ⟨fun _ p hp=>⟨p,hp⟩,fun b hb=>⟨hb,by rw[hh]⟩,fun _ c _ _ hc=>⟨c,hc,Nat.le_refl _⟩,fun _ _ _ _ _ _ hb=>⟨hb,by simp[bU,hh]⟩⟩
 refine⟨⟨h.dom,fun k b base hb=>by rw[hh];exact h.lt k b base hb,h.inj,h.zd,fun b hb=>by rw[hh];exact h.zl b hb,?_,h.flr,h.ro⟩,hk,⟨ho,ht,hp,by rw[hh];exact Nat.le_refl _,fun b _ _=>by rw[hh]⟩,
  fun _ _ base hb=>.inl ⟨base,hb⟩,fun _ hz=>.inl hz,Nat.le_refl _,rfl,rfl,fun _ _=>⟨rfl,rfl⟩,fun _ _ h=>⟨h,rfl⟩⟩
 intro k b base bx hb fT;exact(h.box k b base bx hb fT).cD hk (by rw[hh])
def dG (β:Nat→Option (Nat×Nat)) (n b:Nat):Nat→Option (Nat×Nat):=fun k=>if k=n then some (b,0) else β k
theorem A6 (st:St) (bx:gP) (k:Nat) (hk:k<st.bs.length):(st.push bx).aq k=st.aq k:=by
 simp[St.aq,St.push,List.getElem?_append_left hk]
theorem db {w w':World} {b:Nat} (h:w'.heap[b]?=w.heap[b]?):bU w' b=bU w b:=by simp[bU,h]
theorem Nx.push {w w':World} {st:St} {β:Nat→Option (Nat×Nat)} {Z:Nat→Prop} (h:fm w st β Z) (o:Obj) (hh:w'.heap=w.heap.push o) (ho:w'.os=w.os) (ht:w'.tape=w.tape) (hp:w'.output=w.output) (bx:gP)
  (hb:cM w (st.x β Z) w' ((st.push bx).x (dG β st.bs.length w.heap.size) Z)→gd w' ((st.push bx).x (dG β st.bs.length w.heap.size) Z) w.heap.size 0 bx):
  Nx w st β Z w' (st.push bx) (dG β st.bs.length w.heap.size) Z:=by
 have hold:∀b,b<w.heap.size→w'.heap[b]?=w.heap[b]?:=by
  intro b hb;rw[hh,Array.getElem?_push,if_neg (by omega)]
 have hk:cM w (st.x β Z) w' ((st.push bx).x (dG β st.bs.length w.heap.size) Z):=by
  have wE:∀k p,β k=some p→k<st.bs.length:=fun k p hp=>h.dom k p.1 p.2 hp;refine⟨fun k p hp=>⟨p,?_⟩,fun b hb=>⟨hb,hold b (h.zl b hb)⟩,fun k c p hk hc=>?_,fun k c hc xE b base hb=>?_⟩
  ·have:=wE k p hp;simp only[St.x,dG] at hp⊢;rw[if_neg (by omega)];exact hp
  ·refine⟨c,?_,Nat.le_refl _⟩;have:=A6 st bx k (wE k p hk);show st.aq k=some c;rw[←this];exact hc
  ·refine⟨?_,db (hold b (h.lt k b base hb))⟩;have jv:k<st.bs.length:=wE k _ hb;simp only[St.x,dG];rw[if_neg (by omega)];exact hb
 have hsz:w'.heap.size=w.heap.size+1:=by rw[hh,Array.size_push]
 refine⟨⟨?_,?_,?_,?_,?_,?_,?_,?_⟩,hk,⟨ho,ht,hp,by omega,fun b hb _=>hold b hb⟩,?_,fun _ hz=>.inl hz,by simp[St.push],rfl,rfl,?_,fun k hk h0=>by simp only[dG,St.push];rw[if_neg (by omega),List.getElem?_append_left hk];exact⟨h0,rfl⟩⟩
 ·intro k b base iK;simp only[dG] at iK;simp only[St.push,List.length_append,List.length_singleton]
  split at iK
  ·omega
  ·have:=h.dom k b base iK;omega
 ·intro k b base iK;simp only[dG] at iK
  split at iK
  ·cases iK;omega
  ·have:=h.lt k b base iK;omega
 ·intro k k' b y y' h1 h2;simp only[dG] at h1 h2
  split at h1<;>split at h2
  ·omega
  ·cases h1;have:=h.lt k' _ _ h2;omega
  ·cases h2;have:=h.lt k _ _ h1;omega
  ·exact h.inj k k' b y y' h1 h2
 ·intro k b base iK hz;simp only[dG] at iK
  split at iK
  ·cases iK;have:=h.zl _ hz;omega
  ·exact h.zd k b base iK hz
 ·intro b hz;have:=h.zl b hz;omega
 ·intro k b base tO iK fT;simp only[dG] at iK
  split at iK
  ·rename_i hkn;subst hkn;cases iK;simp[St.push] at fT;subst fT;exact hb hk
  ·have hlt:=h.dom k b base iK;simp only[St.push,List.getElem?_append_left hlt] at fT;exact(h.box k b base tO iK fT).cD hk (hold b (h.lt k b base iK))
 ·have:=h.flr;simp[St.push];omega
 ·have:=h.ro;simp[St.push];omega
 ·intro k b base iK;simp only[dG] at iK
  split at iK
  ·cases iK;exact .inr (Nat.le_refl _)
  ·exact .inl ⟨base,iK⟩
 ·intro k jv;have:=h.ro;simp only[St.push,dG];rw[List.getElem?_append_left (by omega),if_neg (by omega)];exact⟨rfl,rfl⟩
theorem Nx.jK {w w':World} {st:St} {β:Nat→Option (Nat×Nat)} {Z:Nat→Prop} (h:fm w st β Z) (arr:Bool) (cs:List D) (c:Array Value) (el:TypeId) (fr:Nat×Nat)
  (hh:w'.heap=w.heap.push (.cells c el fr)) (ho:w'.os=w.os) (ht:w'.tape=w.tape) (hp:w'.output=w.output) (hl:cs.length≤c.size) (hfr:oy c.size fr)
  (hc:∀(j:Nat) d,cs[j]?=some d→∃u,c[j]?=some u∧u.oneCell'=true∧VR w (st.x β Z) d u):
  Nx w st β Z w' (st.push (.mem 0 arr cs)) (dG β st.bs.length w.heap.size) Z∧
   bU w' w.heap.size=some c.size∧(st.push (.mem 0 arr cs)).aq st.bs.length=some 0∧dG β st.bs.length w.heap.size st.bs.length=some (w.heap.size,0):=by
 have Iu:w'.heap[w.heap.size]?=some (.cells c el fr):=by rw[hh];simp
 refine⟨Nx.push h _ hh ho ht hp _ fun hk=>⟨c,el,fr,Iu,by omega,hfr,fun j d hd=>?_⟩,by simp[bU,Iu],by simp[St.aq,St.push,ch],by simp[dG]⟩;obtain⟨u,h1,h2,h3⟩:=hc j d hd;exact⟨u,by rw[Nat.zero_add];exact h1,h2,h3.mono hk⟩
theorem cn {st:St} {k aq:Nat} {a:Bool} {c:List D} (h:st.dL k aq=some (a,c)):st.bs[k]?=some (.mem aq a c)∧st.aq k=some aq:=by
 unfold St.dL at h
 split at h
 ·rename_i v a' c' hb
  split at h
  ·rename_i hv;subst hv;cases h;exact⟨hb,by simp[St.aq,hb,ch]⟩
  ·cases h
 ·cases h
theorem fm.row {w:World} {st:St} {β:Nat→Option (Nat×Nat)} {Z:Nat→Prop} (h:fm w st β Z) {k aq:Nat} {a:Bool} {c:List D} (hm:st.dL k aq=some (a,c)) {b base:Nat} (hb:β k=some (b,base)):
  ∃cs el fr,w.heap[b]?=some (.cells cs el fr)∧base+c.length≤cs.size∧oy cs.size fr∧
   ∀(j:Nat) d,c[j]?=some d→∃u,cs[base+j]?=some u∧u.oneCell'=true∧VR w (st.x β Z) d u:=
 h.box k b base _ hb (cn hm).1
theorem fm.cells {w:World} {st:St} {β:Nat→Option (Nat×Nat)} {Z:Nat→Prop} (h:fm w st β Z) {k aq:Nat} {a:Bool} {c:List D} (hm:st.dL k aq=some (a,c)) {b base:Nat} (hb:β k=some (b,base)):
  bM w (st.x β Z) b base c:=by
 obtain⟨cs,el,fr,h1,h2,h3,h4⟩:=h.row hm hb;intro j d hd;obtain⟨u,gI,jA,np⟩:=h4 j d hd;exact⟨u,by simp[World.cell?,h1,gI],jA,np⟩
theorem cW:∀(cs c:List D) (off:Nat),(setMany c off cs).length=c.length
 |[],c,off=>rfl
 |x::xs,c,off=>by simp only[setMany];rw[cW xs];simp
theorem gQ:∀(cs c:List D) (off j:Nat),off+cs.length≤c.length→(setMany c off cs)[j]?=if off≤j∧j<off+cs.length then cs[j-off]? else c[j]?
 |[],c,off,j,_=>by simp only[setMany,List.length_nil,Nat.add_zero];rw[if_neg (by omega)]
 |x::xs,c,off,j,h=>by
  simp only[List.length_cons] at h;simp only[setMany,List.length_cons];rw[gQ xs (c.set off x) (off+1) j (by simp;omega)]
  by_cases h1:off+1≤j∧j<off+1+xs.length
  ·rw[if_pos h1,if_pos (by omega),show j-off=(j-(off+1))+1 by omega,List.getElem?_cons_succ]
  ·rw[if_neg h1]
   by_cases h2:j=off
   ·subst h2;rw[if_pos (by omega),Nat.sub_self,List.getElem?_set_self (by omega)];rfl
   ·rw[if_neg (by omega),List.getElem?_set_ne (by omega)]
def wput (w:World) (b:Nat) (o:Obj):World:={w with heap:=w.heap.setIfInBounds b o}
theorem Nx.A3 {w:World} {st:St} {β:Nat→Option (Nat×Nat)} {Z:Nat→Prop} (h:fm w st β Z) {k aq kR:Nat} {a a':Bool} {c c':List D} (hm:st.dL k aq=some (a,c)) {b base cu:Nat} (hb:β k=some (b,base))
  (ft:st.ro≤k) (hv:aq≤kR) (CB:aq=kR→cu=base) {cs cs':Array Value} {el:TypeId} {fr aw:Nat×Nat} (hw:w.heap[b]?=some (.cells cs el fr)) (hfr:oy cs.size aw) (hsz:cs'.size=cs.size) (hl:cu+c'.length≤cs.size)
  (hc:∀(j:Nat) d,c'[j]?=some d→∃u,cs'[cu+j]?=some u∧u.oneCell'=true∧VR w (st.x β Z) d u):
  Nx w st β Z (wput w b (.cells cs' el aw)) {st with bs:=st.bs.set k (.mem kR a' c')} (fun i=>if i=k then some (b,cu) else β i) Z:=by
 obtain⟨fT,iB⟩:=cn hm;have nu:k<st.bs.length:=h.dom k b base hb;have hbl:b<w.heap.size:=h.lt k b base hb
 have hne:∀i,i≠b→(wput w b (.cells cs' el aw)).heap[i]?=w.heap[i]?:=by
  intro i hi;simp only[wput];rw[Array.getElem?_setIfInBounds_ne (by omega)]
 have heq:(wput w b (.cells cs' el aw)).heap[b]?=some (.cells cs' el aw):=by
  simp only[wput];rw[Array.getElem?_setIfInBounds_self_of_lt hbl]
 have pK:∀i,i≠k→({st with bs:=st.bs.set k (.mem kR a' c')}:St).aq i=st.aq i:=by
  intro i hi;simp only[St.aq];rw[List.getElem?_set_ne (by omega)]
 have pJ:({st with bs:=st.bs.set k (.mem kR a' c')}:St).aq k=some kR:=by
  simp[St.aq,nu,ch]
 have hk:cM w (st.x β Z) (wput w b (.cells cs' el aw)) (({st with bs:=st.bs.set k (.mem kR a' c')}:St).x (fun i=>if i=k then some (b,cu) else β i) Z):=by
  refine⟨fun i p hp=>?_,fun i hi=>⟨hi,hne i fun e=>h.zd k b base hb (e▸hi)⟩,fun i q p hi hq=>?_,fun i q hq Al i' y hy=>?_⟩
  ·by_cases hik:i=k
   ·subst hik;exact⟨(b,cu),by simp[St.x]⟩
   ·exact⟨p,by simp only[St.x] at hp⊢;rw[if_neg hik];exact hp⟩
  ·by_cases hik:i=k
   ·subst hik;simp only[St.x] at hq⊢;rw[pJ] at hq;cases hq;exact⟨aq,iB,hv⟩
   ·simp only[St.x] at hq⊢;rw[pK i hik] at hq;exact⟨q,hq,Nat.le_refl _⟩
  ·by_cases hik:i=k
   ·subst hik;simp only[St.x] at hq Al hy⊢;rw[pJ] at hq;cases hq;rw[iB] at Al;cases Al;rw[hb] at hy;cases hy;refine⟨by simp[CB rfl],by simp[bU,heq,hw,hsz]⟩
   ·simp only[St.x] at hy⊢;refine⟨by rw[if_neg hik];exact hy,db (hne i' fun e=>?_)⟩;subst e;exact hik (h.inj i k _ _ _ hy hb)
 refine⟨⟨?_,?_,?_,?_,?_,?_,?_,?_⟩,hk,⟨rfl,rfl,rfl,by simp[wput],fun i hi hn=>hne i fun e=>hn ?_⟩,?_,fun _ hz=>.inl hz,by simp,rfl,rfl,?_,fun i _ h0=>by
   by_cases e:i=k
   ·subst e;rw[hb] at h0;cases h0
   ·simp only[if_neg e];rw[List.getElem?_set_ne (by omega)];exact⟨h0,rfl⟩⟩
 ·intro i q y hq;simp only[List.length_set]
  split at hq
  ·rename_i e;subst e;exact nu
  ·exact h.dom i q y hq
 ·intro i q y hq;simp only[wput,Array.size_setIfInBounds]
  split at hq
  ·cases hq;exact hbl
  ·exact h.lt i q y hq
 ·intro i i' q y y' h1 h2
  split at h1<;>split at h2
  ·omega
  ·rename_i e _;cases h1;subst e;exact h.inj _ _ _ _ _ hb h2
  ·rename_i _ e;cases h2;subst e;exact h.inj _ _ _ _ _ h1 hb
  ·exact h.inj i i' q y y' h1 h2
 ·intro i q y hq hz
  split at hq
  ·cases hq;exact h.zd k b base hb hz
  ·exact h.zd i q y hq hz
 ·intro i hz;simp only[wput,Array.size_setIfInBounds];exact h.zl i hz
 ·intro i q y bx hq pR;(dsimp only at hq pR)
  split at hq
  ·rename_i e;subst e;cases hq;rw[List.getElem?_set_self nu] at pR;cases pR;refine⟨cs',el,aw,heq,by omega,by rw[hsz];exact hfr,fun j d hd=>?_⟩
   ·obtain⟨u,gI,jA,np⟩:=hc j d hd;exact⟨u,gI,jA,np.mono hk⟩
  ·rename_i e;rw[List.getElem?_set_ne (by omega)] at pR;refine(h.box i q y bx hq pR).cD hk (hne q fun e'=>?_);subst e';exact e (h.inj i k _ _ _ hq hb)
 ·have:=h.flr;simp;omega
 ·have:=h.ro;simp;omega
 ·exact⟨k,base,e▸hb,ft⟩
 ·intro i q y hq
  split at hq
  ·rename_i e;subst e;cases hq;exact .inl ⟨base,hb⟩
  ·exact .inl ⟨y,hq⟩
 ·intro i hi;dsimp only;rw[List.getElem?_set_ne (by omega),if_neg (by omega)];exact⟨rfl,rfl⟩
theorem Nx.write {w:World} {st:St} {β:Nat→Option (Nat×Nat)} {Z:Nat→Prop} (h:fm w st β Z) {k aq kR:Nat} {a a':Bool} {c c':List D} (hm:st.dL k aq=some (a,c)) {b base cu:Nat} (hb:β k=some (b,base))
  (ft:st.ro≤k) (hv:aq≤kR) (CB:aq=kR→cu=base) {cs cs':Array Value} {el:TypeId} {fr:Nat×Nat} (hw:w.heap[b]?=some (.cells cs el fr)) (hsz:cs'.size=cs.size) (hl:cu+c'.length≤cs.size)
  (hc:∀(j:Nat) d,c'[j]?=some d→∃u,cs'[cu+j]?=some u∧u.oneCell'=true∧VR w (st.x β Z) d u):
  Nx w st β Z (wput w b (.cells cs' el fr)) {st with bs:=st.bs.set k (.mem kR a' c')} (fun i=>if i=k then some (b,cu) else β i) Z:=
 Nx.A3 h hm hb ft hv CB hw (by
  obtain⟨GC,NJ,Mn,e1,_,e3,_⟩:=h.row hm hb;rw[hw] at e1;cases e1
  exact e3) hsz hl hc
end Go.V
namespace Go.V
open Go.RowKit
structure LR (w:World) (x:X) (cs:List D) (us:List Value):Prop where
 len:cs.length=us.length
 one:∀u∈us,u.oneCell'=true
 rel:∀(i:Nat) c u,cs[i]?=some c→us[i]?=some u→VR w x c u
theorem LR.mono {w w':World} {x x':X} {cs:List D} {us:List Value} (h:LR w x cs us) (hk:cM w x w' x'):LR w' x' cs us:=
 ⟨h.len,h.one,fun i c u hc hu=>(h.rel i c u hc hu).mono hk⟩
theorem LR.at_ {w:World} {x:X} {cs:List D} {us:List Value} (h:LR w x cs us) {j:Nat} {d:D} (hd:cs[j]?=some d):∃u,us[j]?=some u∧u.oneCell'=true∧VR w x d u:=by
 have hj:j<cs.length:=by
  rcases Nat.lt_or_ge j cs.length with h'|h'
  ·exact h'
  ·rw[List.getElem?_eq_none h'] at hd;cases hd
 have A0:j<us.length:=by rw[←h.len];exact hj
 exact⟨us[j],List.getElem?_eq_getElem A0,h.one _ (List.getElem_mem A0),h.rel j d _ hd (List.getElem?_eq_getElem A0)⟩
theorem LR.agg {w:World} {x:X} {cs:List D} {us:List Value} (h:LR w x cs us):VR w x (.agg cs) (.agg us.toArray):=.agg cs us h.len h.one h.rel
theorem Dv {w:World} {x:X} {cs:List D} {v:Value} (h:VR w x (.agg cs) v):∃us:List Value,v=.agg us.toArray∧LR w x cs us:=by
 obtain⟨us,rfl,h1,h2,h3⟩:=fU h;exact⟨us,rfl,h1,h2,h3⟩
theorem mw {w:World} {x:X} {d:D} {v:Value} {cs:List D} (h:VR w x d v) (hc:d.cells?=some cs):LR w x cs v.cells.toList:=by
 have one:∀u:Value,u.oneCell'=true→v=u→cs=[d]→LR w x cs v.cells.toList:=by
  intro u hu e jk;subst e;subst jk
  have:v.cells.toList=[v]:=by cases v<;>first|rfl|simp[Value.oneCell'] at hu
  rw[this];refine⟨rfl,by simpa using hu,fun i c u hc hu=>?_⟩
  cases i with
  |zero=>simp at hc hu;subst hc;subst hu;exact h
  |succ i=>simp at hc
 cases d with
 |agg l=>
  cases hc;obtain⟨us,rfl,hl⟩:=Dv h
  simpa[Value.cells] using hl
 |tup l=>cases hc
 |junk=>cases hc
 |bool b=>cases hc;exact one _ rfl (dB h) rfl
 |int k n=>cases hc;exact one _ rfl (bW h) rfl
 |str s=>cases hc;exact one _ rfl (eM h) rfl
 |nul=>cases hc;exact one _ rfl (dS h) rfl
 |pnil=>cases hc;exact one _ rfl (gf h) rfl
 |sl es=>cases hc;obtain⟨_,_,e,_⟩:=jD h;exact one _ rfl e rfl
 |win k v o l s=>cases hc;obtain⟨_,_,e,_⟩:=dR h;exact one _ rfl e rfl
 |ptr k v o=>cases hc;obtain⟨_,e,_⟩:=bH h;exact one _ rfl e rfl
 |mp k=>cases hc;obtain⟨_,e,_⟩:=yh h;exact one _ rfl e rfl
 |ep c=>cases hc;obtain⟨_,_,e,_⟩:=oY h;exact one _ rfl e rfl
 |fn f c=>cases hc;obtain⟨_,e,_⟩:=ud h;exact one _ rfl e rfl
 |nilfn=>cases hc;exact one .nilFunc rfl (by cases h with|im _ _ h=>cases h;rfl) rfl
 |nilif=>cases hc;exact one .nilIface rfl (by cases h with|im _ _ h=>cases h;rfl) rfl
theorem CZ {d:D} {cs:List D} (h:d.cells?=some cs):d.cells=cs:=by cases d<;>simp[D.cells?,D.cells] at*<;>exact h
theorem rX (off:Nat):∀(l:List Value) (n:Nat) (cells:Array Value) (k:Nat),off+n+l.length≤cells.size→
  ((l.zipIdx n).foldl (fun cs (p:Value×Nat)=>cs.setIfInBounds (off+p.2) p.1) cells)[k]?=if off+n≤k∧k<off+n+l.length then l[k-(off+n)]? else cells[k]?
 |[],n,cells,k,_=>by simp only[List.zipIdx_nil,List.foldl_nil,List.length_nil,Nat.add_zero];rw[if_neg (by omega)]
 |v::l,n,cells,k,h=>by
  simp only[List.length_cons] at h;simp only[List.zipIdx_cons,List.foldl_cons];rw[rX off l (n+1) _ k (by simp;omega)];simp only[List.length_cons]
  by_cases h1:off+(n+1)≤k∧k<off+(n+1)+l.length
  ·rw[if_pos h1,if_pos (by omega),show k-(off+n)=(k-(off+(n+1)))+1 by omega,List.getElem?_cons_succ]
  ·rw[if_neg h1]
   by_cases h2:k=off+n
   ·subst h2;rw[if_pos (by omega),Nat.sub_self,Array.getElem?_setIfInBounds_self_of_lt (by omega)];rfl
   ·rw[if_neg (by omega),Array.getElem?_setIfInBounds_ne (by omega)]
theorem pT (off:Nat):∀(l:List (Value×Nat)) (cells:Array Value),(l.foldl (fun cs (p:Value×Nat)=>cs.setIfInBounds (off+p.2) p.1) cells).size=cells.size
 |[],cells=>rfl
 |p::l,cells=>by simp only[List.foldl_cons];rw[pT off l];simp
theorem A2 (off:Nat) (c cells:Array Value):(c.zipIdx.foldl (fun cs (c,j)=>cs.setIfInBounds (off+j) c) cells)=((c.toList.zipIdx 0).foldl (fun cs (p:Value×Nat)=>cs.setIfInBounds (off+p.2) p.1) cells):=by
 rw[←Array.foldl_toList,Array.toList_zipIdx]
theorem LR.setMany {w:World} {x:X} {cs ds:List D} {us vs:List Value} (h:LR w x cs us) (g:LR w x ds vs) (off:Nat) (hl:off+ds.length≤cs.length):
  LR w x (setMany cs off ds) (((vs.zipIdx 0).foldl (fun(cs:Array Value) (p:Value×Nat)=>cs.setIfInBounds (off+p.2) p.1) us.toArray)).toList:=by
 have hg:=fun k=>rX off vs 0 us.toArray k (by simp;have:=h.len;have:=g.len;omega);simp only[Nat.add_zero] at hg;have hs:=pT off (vs.zipIdx 0) us.toArray
 have kW:∀k u,((((vs.zipIdx 0).foldl (fun(cs:Array Value) (p:Value×Nat)=>cs.setIfInBounds (off+p.2) p.1) us.toArray)).toList)[k]?=some u→
   (off≤k∧k<off+vs.length∧vs[k-off]?=some u)∨(¬(off≤k∧k<off+vs.length)∧us[k]?=some u):=by
  intro k u hk;rw[Array.getElem?_toList,hg k] at hk
  split at hk
  ·rename_i hc;exact .inl ⟨hc.1,hc.2,hk⟩
  ·rename_i hc;exact .inr ⟨hc,by simpa using hk⟩
 refine⟨?_,fun u hu=>?_,fun i c u hc hu=>?_⟩
 ·exact(cW ds cs off).trans (h.len.trans (List.size_toArray.symm.trans (hs.symm.trans Array.length_toList.symm)))
 ·obtain⟨k,hk⟩:=List.getElem?_of_mem hu
  rcases kW k u hk with⟨_,_,h'⟩|⟨_,h'⟩
  ·exact g.one u (List.mem_of_getElem? h')
  ·exact h.one u (List.mem_of_getElem? h')
 ·rw[gQ ds cs off i hl] at hc
  rcases kW i u hu with⟨h1,h2,h'⟩|⟨h1,h'⟩
  ·rw[if_pos ⟨h1,by rw[g.len];exact h2⟩] at hc;exact g.rel _ c u hc h'
  ·rw[if_neg (by rw[g.len];exact h1)] at hc;exact h.rel _ c u hc h'
theorem tI {w:World} {x:X} {place iT:Nat→Option (Nat×Nat)} (hp:∀i r,place i=some r→iT i=some r):∀(parts:List (Nat×D)) (parts':List (Nat×Value)) {cs r:List D} {us:List Value},
  parts.length=parts'.length→(∀(i:Nat) p q,parts[i]?=some p→parts'[i]?=some q→p.1=q.1∧VR w x p.2 q.2)→LR w x cs us→ga place cs parts=some r→
  ∃rs:List Value,Instr.fill iT us.toArray parts'=some rs.toArray∧LR w x r rs
 |[],[],cs,r,us,_,_,h,hf=>by simp[ga] at hf;subst hf;exact⟨us,rfl,h⟩
 |[],_::_,_,_,_,hl,_,_,_=>by simp at hl
 |_::_,[],_,_,_,hl,_,_,_=>by simp at hl
 |(i,d)::parts,(i',v)::parts',cs,r,us,hl,hr,h,hf=>by
  obtain⟨rfl,hv⟩:=hr 0 _ _ rfl rfl;simp only[ga] at hf
  split at hf
  ·rename_i off size ds hpl jk
   split at hf
   ·cases hf
   ·rename_i hn;have OP:=mw hv jk;simp only[not_or] at hn;obtain⟨tV,dE⟩:=hn;have tV:ds.length=size:=Decidable.not_not.1 tV;have hlen:off+ds.length≤cs.length:=by omega
    have hsz:v.cells.size=ds.length:=by rw[OP.len];simp
    obtain⟨rs,h1,h2⟩:=tI hp parts parts' (by simpa using hl) (fun j p q hp hq=>hr (j+1) p q hp hq) (h.setMany OP off hlen) hf;refine⟨rs,?_,h2⟩;simp only[Instr.fill,hp _ _ hpl];rw[if_neg (by simp[hsz,tV];have:=h.len;omega),A2]
    simpa using h1
  ·cases hf
section
variable{pv:Pv} {P:Program} (ok:pv.Ok P)
include ok
theorem rE (w:World):∀(fs:List Field) {ps:List (Nat×Nat)},kv pv fs=some ps→(fs.mapM (fun f=>(do pure (f.offset,←sizeOf f.type):Sem (Nat×Nat)))).run P w=.ok ps w
 |[],ps,h=>by simp[kv] at h;subst h;simp
 |f::fs,ps,h=>by
  simp only[kv] at h
  split at h
  ·rename_i s hs
   split at h
   ·rename_i r hr;cases h;have:=rE w fs hr;simp only[List.mapM_cons,Sem.run_bind,bn ok hs,Result.andThen_ok,Sem.run_pure];rw[this]
    rfl
   ·cases h
  ·cases h
theorem fx (w:World) (x:X) {t:Nat} {cs:List D} (h:cT pv t=some cs):∃v,(zeroValue t).run P w=.ok v w∧LR w x cs v.cells.toList:=by
 unfold cT at h
 split at h
 ·rename_i z hz;obtain⟨v,hv,rfl⟩:=uB ok hz w;exact⟨v,hv,mw (.im _ _ (pr _ _ v)) h⟩
 ·cases h
theorem C9 {w:World} {x:X} {t:Nat} {parts:List (Nat×D)} {parts':List (Nat×Value)} {d:D} (hl:parts.length=parts'.length)
  (hr:∀(i:Nat) p q,parts[i]?=some p→parts'[i]?=some q→p.1=q.1∧VR w x p.2 q.2) (h:tP pv t parts=some d):
  ∃v,(Instr.build t parts'.toArray).run P w=.ok v w∧VR w x d v:=by
 unfold tP at h
 split at h
 ·rename_i z hz;obtain⟨v,hv,hc⟩:=fx ok w x hz
  have base:∀{r:List D} {place iT:Nat→Option (Nat×Nat)},(∀i r,place i=some r→iT i=some r)→ga place z parts=some r→
    ∃rs:List Value,Instr.fill iT v.cells parts'=some rs.toArray∧LR w x r rs:=by
   intro r place iT hp hf;obtain⟨rs,h2,h3⟩:=tI hp parts parts' hl hr hc hf;exact⟨rs,by simpa using h2,h3⟩
  split at h
  ·rename_i fields hu
   split at h
   ·rename_i ps AW;obtain⟨r,hf,rfl⟩:=Option.map_eq_some_iff.1 h;obtain⟨rs,h1,h2⟩:=base (iT:=fun i=>ps[i]?) (by simp) hf;refine⟨.agg rs.toArray,?_,h2.agg⟩;have hm:=rE ok w _ AW;simp only[Instr.build,Sem.run_bind,hv,Result.andThen_ok,ax ok hu,Array.mapM_eq_mapM_toList,Sem.run_map];rw[hm];simp[h1]
   ·cases h
  ·rename_i n e hu
   split at h
   ·rename_i s hs;obtain⟨r,hf,rfl⟩:=Option.map_eq_some_iff.1 h;obtain⟨rs,h1,h2⟩:=base (iT:=fun i=>some (i*s,s)) (by simp) hf;refine⟨.agg rs.toArray,?_,h2.agg⟩;simp[Instr.build,hv,ax ok hu,bn ok hs,h1]
   ·cases h
  ·cases h
 ·cases h
end
end Go.V
namespace Go.V
open Go.RowKit
theorem bM.append {w:World} {x:X} {b o:Nat} {l r:List D} (h:bM w x b o l) (g:bM w x b (o+l.length) r):bM w x b o (l++r):=by
 intro j d hd;rw[List.getElem?_append] at hd
 split at hd
 ·exact h j d hd
 ·have:=g _ d hd
  rwa [show o+l.length+(j-l.length)=o+j by omega] at this
theorem bM.nil {w:World} {x:X} {b o:Nat}:bM w x b o []:=by intro j d hd;simp at hd
theorem my {w:World} {x:X} {b s:Nat}:∀(es:List D) (off:Nat),(∀(i:Nat) e,es[i]?=some e→e.cells.length=s)→(∀(i:Nat) e,es[i]?=some e→bM w x b (off+i*s) e.cells)→
  bM w x b off (es.flatMap D.cells)∧(es.flatMap D.cells).length=es.length*s
 |[],off,_,_=>⟨.nil,by simp⟩
 |e::es,off,hs,hc=>by
  have h0:=hc 0 e rfl;have hl:=hs 0 e rfl
  obtain⟨h1,h2⟩:=my es (off+s) (fun i e' he=>hs (i+1) e' he) (fun i e' he=>by
   have:=hc (i+1) e' he
   rwa [show off+(i+1)*s=off+s+i*s by rw[Nat.add_mul];omega] at this)
  simp only[List.flatMap_cons,List.length_append,List.length_cons];refine⟨bM.append (by simpa using h0) (by rw[hl];exact h1),?_⟩;rw[h2,hl,Nat.add_mul];omega
theorem bM.lr {w:World} {x:X} {b o:Nat} {c:List D} (h:bM w x b o c) (P:Program):∃us:List Value,(loadCells ⟨b,o,none⟩ c.length).run P w=.ok us.toArray w∧LR w x c us:=by
 obtain⟨us,h1,h2,h3,h4⟩:=h.list;exact⟨us,by rw[←h1];exact nP h2,h1.symm,h3,h4⟩
theorem mP {P:Program} {w:World} (a:Addr):(loadCells a 0).run P w=.ok #[] w:=rfl
theorem wb (w:World) (x:X) (l:List UInt8):LR w x (l.map fun b=>.int .u8 b.toNat) (l.map fun b=>.int .u8 b.toNat):=by
 refine⟨by simp,fun u hu=>?_,fun i c u hc hu=>?_⟩
 ·obtain⟨b,_,rfl⟩:=List.mem_map.1 hu;rfl
 ·simp only[List.getElem?_map] at hc hu
  cases hb:l[i]? with
  |none=>simp[hb] at hc
  |some b=>simp[hb] at hc hu;subst hc;subst hu;exact .im _ _ (.int _ _)
theorem LR.take {w:World} {x:X} {cs:List D} {us:List Value} (h:LR w x cs us) (n:Nat):LR w x (cs.take n) (us.take n):=
 ⟨by simp[h.len],fun u hu=>h.one u (List.mem_of_mem_take hu),fun i c u hc hu=>by
  rw[List.getElem?_take] at hc hu
  split at hc
  ·rename_i hi;rw[if_pos hi] at hu;exact h.rel i c u hc hu
  ·cases hc⟩
theorem LR.append {w:World} {x:X} {cs ds:List D} {us vs:List Value} (h:LR w x cs us) (g:LR w x ds vs):LR w x (cs++ds) (us++vs):=
 ⟨by simp[h.len,g.len],fun u hu=>(List.mem_append.1 hu).elim (h.one u) (g.one u),fun i c u hc hu=>by
  rw[List.getElem?_append] at hc hu
  split at hc
  ·rename_i hi;rw[if_pos (by rw[←h.len];exact hi)] at hu;exact h.rel i c u hc hu
  ·rename_i hi;rw[if_neg (by rw[←h.len];exact hi)] at hu;rw[←h.len] at hu;exact g.rel _ c u hc hu⟩
theorem o9 {P:Program} {w:World} {st:St} {β:Nat→Option (Nat×Nat)} {Z:Nat→Prop} (h:fm w st β Z) {d:D} {v:Value} {n:Nat} {ys:List D} (hv:VR w (st.x β Z) d v) (hr:o_ st d=some (n,ys)):
  (Builtin.lenOf v).run P w=.ok n w∧∀s m,m≤n→ys.length=n*s→∃us:List Value,(Builtin.firstCells s m v).run P w=.ok us.toArray w∧LR w (st.x β Z) (ys.take (m*s)) us:=by
 unfold o_ at hr
 split at hr
 ·rename_i es;cases hr;obtain⟨a,cap,rfl,hc,oP⟩:=jD hv;refine⟨rfl,fun s m hm hs=>?_⟩
  rcases oP with rfl|⟨b,off,s0,rfl,hz,iJ,hcl,_⟩
  ·have mJ:m=0:=by simpa using hm
   subst mJ;refine⟨[],?_,⟨by simp,by simp,by simp⟩⟩
   cases a with
   |none=>simp[Builtin.firstCells]
   |some a=>simp[Builtin.firstCells,mP]
  ·obtain⟨h1,h2⟩:=my es off (fun i e he=>(iJ i e he).2) hcl
   by_cases h0:es.length=0
   ·have mJ:m=0:=by omega
    subst mJ;exact⟨[],by simp[Builtin.firstCells,mP],⟨by simp,by simp,by simp⟩⟩
   ·have yQ:s0=s:=Nat.eq_of_mul_eq_mul_left (by omega) (h2.symm.trans hs);subst yQ;obtain⟨us,gI,jA⟩:=(h1.take (m*s0)).lr P;have hle:m*s0≤(es.flatMap D.cells).length:=by rw[h2];exact Nat.mul_le_mul_right _ hm
    rw[List.length_take,Nat.min_eq_left hle] at gI;exact⟨us,gI,jA⟩
 ·cases hr;rw[dS hv];refine⟨rfl,fun s m hm hs=>⟨[],by simp[Builtin.firstCells],⟨by simp,by simp,by simp⟩⟩⟩
 ·rename_i k aq off len sz;obtain⟨⟨a,c⟩,hm,hr⟩:=Option.bind_eq_some_iff.1 hr;dsimp only at hr
  split at hr
  ·rename_i hle;cases hr;obtain⟨ad,cap,rfl,hc,hk,_,h_⟩:=dR hv;obtain⟨b,base,Dz,hb,hsz,tF⟩:=h_ (cn hm).2;have hcl:=((h.cells hm hb).drop off).take (n*sz);have hlen:((c.drop off).take (n*sz)).length=n*sz:=by simp;omega
   refine⟨rfl,fun s m yV hs=>?_⟩
   rcases tF with rfl|⟨rfl,_⟩
   ·have mJ:m=0:=by omega
    subst mJ;exact⟨[],by simp[Builtin.firstCells,mP],⟨by simp,by simp,by simp⟩⟩
   ·obtain⟨us,gI,jA⟩:=(hcl.take (m*s)).lr P;have hle:m*s≤((c.drop off).take (n*sz)).length:=by rw[hs];exact Nat.mul_le_mul_right _ yV
    rw[List.length_take,Nat.min_eq_left hle] at gI;exact⟨us,gI,jA⟩
  ·cases hr
 ·rename_i l;cases hr;rw[eM hv];refine⟨by simp[Builtin.lenOf,ByteArray.size],fun s m hm hs=>?_⟩;simp only[List.length_map] at hs
  by_cases h0:l.length=0
  ·have mJ:m=0:=by omega
   subst mJ;have hl:l=[]:=List.length_eq_zero_iff.1 h0;subst hl;exact⟨[],by simp[Builtin.firstCells],⟨by simp,by simp,by simp⟩⟩
  ·have yQ:s=1:=by
    have:l.length*1=l.length*s:=by omega
    exact(Nat.eq_of_mul_eq_mul_left (by omega) this).symm
   subst yQ;refine⟨(l.take m).map fun b=>.int .u8 b.toNat,?_,?_⟩
   ·simp only[Builtin.firstCells,Sem.run_pure]
    congr 1
    apply Array.ext';simp[ByteArray.data_extract]
   ·have:=(wb w (st.x β Z) l).take (m*1)
    simpa[←List.map_take] using this
 ·cases hr
def o5 (c:Array Value) (off:Nat):List Value→Array Value
 |[]=>c
 |v::vs=>o5 (c.setIfInBounds off v) (off+1) vs
theorem kq:∀(vs:List Value) (c:Array Value) (off:Nat),(o5 c off vs).size=c.size
 |[],c,off=>rfl
 |v::vs,c,off=>by simp only[o5];rw[kq vs];simp
theorem o4:∀(vs:List Value) (c:Array Value) (off j:Nat),off+vs.length≤c.size→(o5 c off vs)[j]?=if off≤j∧j<off+vs.length then vs[j-off]? else c[j]?
 |[],c,off,j,_=>by simp only[o5,List.length_nil,Nat.add_zero];rw[if_neg (by omega)]
 |v::vs,c,off,j,h=>by
  simp only[List.length_cons] at h;simp only[o5,List.length_cons];rw[o4 vs _ (off+1) j (by simp;omega)]
  by_cases h1:off+1≤j∧j<off+1+vs.length
  ·rw[if_pos h1,if_pos (by omega),show j-off=(j-(off+1))+1 by omega,List.getElem?_cons_succ]
  ·rw[if_neg h1]
   by_cases h2:j=off
   ·subst h2;rw[if_pos (by omega),Nat.sub_self,Array.getElem?_setIfInBounds_self_of_lt (by omega)];rfl
   ·rw[if_neg (by omega),Array.getElem?_setIfInBounds_ne (by omega)]
theorem iP {P:Program} {b:Nat} {el:TypeId} {fr:Nat×Nat}:∀(vs:List Value) (i o:Nat) (w:World) (c:Array Value),w.heap[b]?=some (.cells c el fr)→o+i+vs.length≤c.size→(∀q,q<c.size→¬(fr.1≤q∧q<fr.2))→
  (∀v∈vs,v.oneCell'=true)→(storeCells ⟨b,o,none⟩ vs i).run P w=.ok () (match vs with|[]=>w|_=>wput w b (.cells (o5 c (o+i) vs) el fr))
 |[],i,o,w,c,_,_,_,_=>rfl
 |v::vs,i,o,w,c,hw,hl,hf,h1=>by
  simp only[List.length_cons] at hl
  have Gq:(⟨b,o,none⟩:Addr).add i=⟨b,o+i,none⟩:=by
   unfold Addr.add;split
   ·rename_i e;subst e;rfl
   ·rfl
  have hcell:w.cell? ⟨b,o+i,none⟩=some (c[o+i]'(by omega)):=by
   simp[World.cell?,hw,Array.getElem?_eq_getElem (show o+i<c.size by omega)]
  have hfr:w.frozen? ⟨b,o+i,none⟩=false:=by
   have:=hf (o+i) (by omega);simp only[World.frozen?,hw];simp only[Bool.and_eq_false_iff,decide_eq_false_iff_not];omega
  have fq:w.setCell ⟨b,o+i,none⟩ v=wput w b (.cells (c.setIfInBounds (o+i) v) el fr):=by
   simp only[World.setCell,wput]
   congr 1
   apply Array.ext_getElem?;intro j;rw[Array.getElem?_modify]
   by_cases hj:b=j
   ·subst hj
    have hb:b<w.heap.size:=by
     rcases Nat.lt_or_ge b w.heap.size with h'|h'
     ·exact h'
     ·rw[Array.getElem?_eq_none h'] at hw;cases hw
    rw[if_pos rfl,hw,Array.getElem?_setIfInBounds_self_of_lt hb];simp
   ·rw[if_neg hj,Array.getElem?_setIfInBounds_ne hj]
  have hb:b<w.heap.size:=by
   rcases Nat.lt_or_ge b w.heap.size with h'|h'
   ·exact h'
   ·rw[Array.getElem?_eq_none h'] at hw;cases hw
  have KA:(wput w b (.cells (c.setIfInBounds (o+i) v) el fr)).heap[b]?=some (.cells (c.setIfInBounds (o+i) v) el fr):=by
   simp only[wput];rw[Array.getElem?_setIfInBounds_self_of_lt hb]
  have ih:=iP (P:=P) vs (i+1) o (wput w b (.cells (c.setIfInBounds (o+i) v) el fr)) _ KA (by simp;omega) (by simpa using hf) (fun u hu=>h1 u (List.mem_cons_of_mem _ hu));simp only[storeCells,Sem.run_bind,Gq,run_store P w _ v .plain (h1 v (List.mem_cons_self ..)),hcell,hfr,Bool.false_eq_true,if_false,Result.andThen_ok,fq,ih]
  cases vs with
  |nil=>simp[o5]
  |cons v' vs=>
   simp only[o5]
   congr 1
   simp[wput,show o+(i+1)=o+i+1 by omega]
end Go.V
namespace Go.V
open Go.RowKit
theorem Nx.move {w w':World} {st:St} {β:Nat→Option (Nat×Nat)} {Z:Nat→Prop} (h:fm w st β Z) {k aq:Nat} {a a':Bool} {c c':List D} (hm:st.dL k aq=some (a,c)) {b base:Nat} (hb:β k=some (b,base))
  (ft:st.ro≤k) {cs:Array Value} {el:TypeId} (hh:w'.heap=w.heap.push (.cells cs el (0,0))) (ho:w'.os=w.os) (ht:w'.tape=w.tape) (hp:w'.output=w.output) (hl:c'.length≤cs.size)
  (hc:∀(j:Nat) d,c'[j]?=some d→∃u,cs[j]?=some u∧u.oneCell'=true∧VR w (st.x β Z) d u):
  Nx w st β Z w' {st with bs:=st.bs.set k (.mem (aq+1) a' c')} (fun i=>if i=k then some (w.heap.size,0) else β i) Z:=by
 obtain⟨fT,iB⟩:=cn hm;have nu:k<st.bs.length:=h.dom k b base hb
 have hold:∀i,i<w.heap.size→w'.heap[i]?=w.heap[i]?:=by
  intro i hi;rw[hh,Array.getElem?_push,if_neg (by omega)]
 have heq:w'.heap[w.heap.size]?=some (.cells cs el (0,0)):=by rw[hh];simp
 have hsz:w'.heap.size=w.heap.size+1:=by rw[hh,Array.size_push]
 have pK:∀i,i≠k→({st with bs:=st.bs.set k (.mem (aq+1) a' c')}:St).aq i=st.aq i:=by
  intro i hi;simp only[St.aq];rw[List.getElem?_set_ne (by omega)]
 have pJ:({st with bs:=st.bs.set k (.mem (aq+1) a' c')}:St).aq k=some (aq+1):=by
  simp[St.aq,nu,ch]
 have hk:cM w (st.x β Z) w' (({st with bs:=st.bs.set k (.mem (aq+1) a' c')}:St).x (fun i=>if i=k then some (w.heap.size,0) else β i) Z):=by
  refine⟨fun i p hp=>?_,fun i hi=>⟨hi,hold i (h.zl i hi)⟩,fun i q p hi hq=>?_,fun i q hq Al i' y hy=>?_⟩
  ·by_cases hik:i=k
   ·subst hik;exact⟨(w.heap.size,0),by simp[St.x]⟩
   ·exact⟨p,by simp only[St.x] at hp⊢;rw[if_neg hik];exact hp⟩
  ·by_cases hik:i=k
   ·subst hik;simp only[St.x] at hq⊢;rw[pJ] at hq;cases hq;exact⟨aq,iB,by omega⟩
   ·simp only[St.x] at hq⊢;rw[pK i hik] at hq;exact⟨q,hq,Nat.le_refl _⟩
  ·by_cases hik:i=k
   ·subst hik;simp only[St.x] at hq Al hy⊢;rw[pJ] at hq;cases hq;rw[iB] at Al;simp at Al
   ·simp only[St.x] at hy⊢;exact⟨by rw[if_neg hik];exact hy,db (hold i' (h.lt i i' y hy))⟩
 refine⟨⟨?_,?_,?_,?_,?_,?_,?_,?_⟩,hk,⟨ho,ht,hp,by omega,fun i hi _=>hold i hi⟩,?_,fun _ hz=>.inl hz,by simp,rfl,rfl,?_,fun i _ h0=>by
   by_cases e:i=k
   ·subst e;rw[hb] at h0;cases h0
   ·simp only[if_neg e];rw[List.getElem?_set_ne (by omega)];exact⟨h0,rfl⟩⟩
 ·intro i q y hq;simp only[List.length_set]
  split at hq
  ·rename_i e;subst e;exact nu
  ·exact h.dom i q y hq
 ·intro i q y hq
  split at hq
  ·cases hq;omega
  ·have:=h.lt i q y hq;omega
 ·intro i i' q y y' h1 h2
  split at h1<;>split at h2
  ·omega
  ·rename_i e _;cases h1;have:=h.lt _ _ _ h2;omega
  ·rename_i _ e;cases h2;have:=h.lt _ _ _ h1;omega
  ·exact h.inj i i' q y y' h1 h2
 ·intro i q y hq hz
  split at hq
  ·cases hq;have:=h.zl _ hz;omega
  ·exact h.zd i q y hq hz
 ·intro i hz;have:=h.zl i hz;omega
 ·intro i q y bx hq pR;(dsimp only at hq pR)
  split at hq
  ·rename_i e;subst e;cases hq;rw[List.getElem?_set_self nu] at pR;cases pR;refine⟨cs,el,(0,0),heq,by omega,oy.zero _,fun j d hd=>?_⟩;obtain⟨u,gI,jA,np⟩:=hc j d hd;exact⟨u,by rw[Nat.zero_add];exact gI,jA,np.mono hk⟩
  ·rename_i e;rw[List.getElem?_set_ne (by omega)] at pR;exact(h.box i q y bx hq pR).cD hk (hold q (h.lt i q y hq))
 ·have:=h.flr;simp;omega
 ·have:=h.ro;simp;omega
 ·intro i q y hq
  split at hq
  ·cases hq;exact .inr (Nat.le_refl _)
  ·exact .inl ⟨y,hq⟩
 ·intro i hi;dsimp only;rw[List.getElem?_set_ne (by omega),if_neg (by omega)];exact⟨rfl,rfl⟩
theorem dh {st:St} {k r:Nat} (h:st.jb k r=true):st.ro≤k:=by
 simp only[St.jb,Bool.and_eq_true,decide_eq_true_eq] at h;exact h.1
theorem yg {P:Program} {w:World} {st ae:St} {β:Nat→Option (Nat×Nat)} {Z:Nat→Prop} (h:fm w st β Z) {k aq off:Nat} {ds:List D} {us:List Value} (hu:LR w (st.x β Z) ds us) (hw:st.wr k aq off ds=some ae)
  {b base:Nat} (hb:β k=some (b,base)) {a:Addr} (ha:us=[]∨a=⟨b,base+off,none⟩):∃w',(storeCells a us).run P w=.ok () w'∧∃β',Nx w st β Z w' ae β' Z∧β'=β:=by
 unfold St.wr at hw
 split at hw
 ·rename_i ar c hm
  split at hw
  ·rename_i hc;cases hw;obtain⟨cs,el,fr,h1,h2,h3,h4⟩:=h.row hm hb;have hlen:=hu.len
   have hx:(fun i=>if i=k then some (b,base) else β i)=β:=by
    funext i;split
    ·rename_i e;subst e;exact hb.symm
    ·rfl
   have key:∀cs':Array Value,cs'.size=cs.size→(∀j,cs'[base+j]?=if off≤j∧j<off+us.length then us[j-off]? else cs[base+j]?)→
     Nx w st β Z (wput w b (.cells cs' el fr)) {st with bs:=st.bs.set k (.mem aq ar (setMany c off ds))} β Z:=by
    intro cs' hs hg
    have:=Nx.write (a':=ar) (kR:=aq) (c':=setMany c off ds) (cu:=base) h hm hb (dh hc.2) (Nat.le_refl _) (fun _=>rfl) h1 hs (by rw[cW];omega) (fun j d hd=>by
     rw[gQ ds c off j hc.1] at hd;rw[hg j]
     split at hd
     ·rename_i hj;rw[if_pos (by omega)];exact hu.at_ hd
     ·rename_i hj;rw[if_neg (by omega)]
      exact h4 j d hd)
    rwa [hx] at this
   rcases Nat.eq_zero_or_pos us.length with h0|h0
   ·have JL:us=[]:=List.length_eq_zero_iff.1 h0;subst JL;have ez:b<w.heap.size:=h.lt k b base hb
    have nX:wput w b (.cells cs el fr)=w:=by
     simp only[wput]
     have:w.heap.setIfInBounds b (.cells cs el fr)=w.heap:=by
      apply Array.ext_getElem?;intro j
      by_cases hj:b=j
      ·subst hj;rw[Array.getElem?_setIfInBounds_self_of_lt ez,h1]
      ·rw[Array.getElem?_setIfInBounds_ne hj]
     rw[this]
    have:=key cs rfl (fun j=>by rw[if_neg (by simp only[List.length_nil,Nat.add_zero];omega)]);rw[nX] at this;exact⟨w,rfl,β,this,rfl⟩
   ·rcases ha with rfl|rfl
    ·simp at h0
    ·have tn:=iP (P:=P) us 0 (base+off) w cs h1 (by omega) h3.2 hu.one;refine⟨_,tn,β,?_,rfl⟩
     cases us with
     |nil=>simp at h0
     |cons u us=>
      refine key _ (kq _ _ _) fun j=>?_;rw[o4 _ _ _ _ (by omega)]
      by_cases hj:off≤j∧j<off+(u::us).length
      ·rw[if_pos hj,if_pos (by omega)];congr 1<;>omega
      ·rw[if_neg hj,if_neg (by omega)]
  ·cases hw
 ·cases hw
section
variable{pv:Pv} {P:Program} (ok:pv.Ok P)
include ok
theorem Be {w:World} {st ae:St} {β:Nat→Option (Nat×Nat)} {Z:Nat→Prop} (h:fm w st β Z) {t:Nat} {d e:D} {u v:Value} (hu:VR w (st.x β Z) d u) (hv:VR w (st.x β Z) e v) (hs:jF pv t d e st=some ae):
  ∃w',(Instr.storeAt t u v).run P w=.ok () w'∧Nx w st β Z w' ae β Z:=by
 unfold jF at hs
 split at hs
 ·rename_i k aq off cs jk
  split at hs
  ·rename_i hsz;obtain⟨a,rfl,hk,h_⟩:=bH hu;have hc:=mw hv jk
   have iB:st.aq k=some aq:=by
    unfold St.wr at hs
    split at hs
    ·rename_i hm;exact(cn hm).2
    ·cases hs
   obtain⟨b,base,hb,rfl⟩:=h_ iB;obtain⟨w',h1,β',h2,rfl⟩:=yg (P:=P) h hc hs hb (.inr rfl);refine⟨w',?_,h2⟩;have vx:v.cells.size=cs.length:=by rw[hc.len];simp
   simp[Instr.storeAt,Instr.sureAddr,storeVar,bn ok hsz,vx,h1]
  ·cases hs
 ·cases hs
theorem Er {w:World} {st ae:St} {β:Nat→Option (Nat×Nat)} {Z:Nat→Prop} (h:fm w st β Z) {bB:List TypeId} {ty:TypeId} {d e r:D} {u v:Value} (hu:VR w (st.x β Z) d u) (hv:VR w (st.x β Z) e v)
  (hs:sk pv bB d e st=some (r,ae)):∃z w',(Builtin.copy_ bB.toArray ty #[u,v]).run P w=.ok z w'∧Nx w st β Z w' ae β Z∧VR w' (ae.x β Z) r z:=by
 unfold sk at hs
 split at hs
 ·rename_i dT rest
  split at hs
  ·rename_i el Gk;obtain⟨s,hsz,hs⟩:=Option.bind_eq_some_iff.1 hs;obtain⟨⟨m,ys⟩,jr,hs⟩:=Option.bind_eq_some_iff.1 hs;dsimp only at hs
   split at hs
   ·cases hs
   ·rename_i jh;have jh:ys.length=m*s:=Decidable.not_not.1 jh;obtain⟨hlen,cO⟩:=o9 (P:=P) h hv jr
    cases d with
    |win k aq off len sz=>
     simp only at hs
     split at hs
     ·cases hs
     ·rename_i yQ;have yQ:sz=s:=Decidable.not_not.1 yQ;subst yQ;obtain⟨a,cap,rfl,hc,hk,_,h_⟩:=dR hu;obtain⟨st1,hwr,hs⟩:=Option.map_eq_some_iff.1 hs;cases hs
      have iB:st.aq k=some aq:=by
       unfold St.wr at hwr
       split at hwr
       ·rename_i hm;exact(cn hm).2
       ·cases hwr
      obtain⟨b,base,Dz,hb,_,tF⟩:=h_ iB;obtain⟨us,h1,h2⟩:=cO sz (min m len) (Nat.min_le_left _ _) jh
      have hla:us=[]∨a=⟨b,base+off,none⟩:=by
       rcases tF with rfl|⟨rfl,_⟩
       ·left;have:len=0:=by omega
        subst this;have:=h2.len;simp at this;exact List.length_eq_zero_iff.1 this.symm
       ·exact .inr rfl
      obtain⟨w',h3,β',h4,rfl⟩:=yg (P:=P) h h2 hwr hb hla;refine⟨_,w',?_,h4,.im _ _ (.int _ _)⟩;have Eb:Nat.min m len=min m len:=rfl;simp only[Builtin.copy_,List.getElem?_toArray,List.getElem?_cons_zero,List.getElem?_cons_succ,Sem.run_bind,ax ok Gk,Result.andThen_ok,hlen,bn ok hsz,Eb,h1,h3,Sem.run_pure,goInt]
    |nul=>
     cases hs;rw[dS hu];obtain⟨us,h1,h2⟩:=cO s 0 (Nat.zero_le _) jh;have JL:us=[]:=by have:=h2.len;simp at this;exact List.length_eq_zero_iff.1 this.symm
     subst JL;refine⟨.int .i64 0,w,?_,Nx.same h,.im _ _ (.int _ _)⟩;have Eb:Nat.min m 0=0:=Nat.min_zero m;simp only[Builtin.copy_,List.getElem?_toArray,List.getElem?_cons_zero,List.getElem?_cons_succ,Sem.run_bind,ax ok Gk,Result.andThen_ok,hlen,bn ok hsz,Eb,h1,Sem.run_pure,goInt]
     rfl
    |_=>cases hs
  ·cases hs
 ·cases hs
end
end Go.V
namespace Go.V
open Go.RowKit
theorem y6:∀(r c n:Nat),c≤n+n/4+192→Builtin.growBy n r c≤n+n/4+192
 |0,c,n,h=>h
 |r+1,c,n,h=>by
  unfold Builtin.growBy
  split
  ·exact h
  ·exact y6 r _ n (by omega)
theorem DV (n c:Nat) (h:c≤n):Builtin.nextslicecap n c≤2*n+192:=by
 unfold Builtin.nextslicecap
 split
 ·omega
 ·split
  ·omega
  ·have:=y6 4 c n (by omega);omega
theorem z' {sZ c bytes:Nat} (hc:c≤sZ) (h1:1≤sZ) (h:sZ*bytes≤1099511627776):¬Builtin.nextslicecap sZ c*bytes>2^48:=by
 have h2:=Nat.mul_le_mul_right bytes (DV sZ c hc);rw[Nat.add_mul,Nat.mul_assoc] at h2;have h3:bytes≤sZ*bytes:=by have:=Nat.mul_le_mul_right bytes h1;omega
 have:192*bytes≤192*1099511627776:=Nat.mul_le_mul_left _ (by omega);omega
theorem C4 (sZ u7:Nat) (el:TypeId) (t:Nat):sZ≤(Question.appendCap sZ u7 el).cut t:=by
 simp only[Question.cut];omega
theorem qX (w:World) (cs:Array Value) (el:TypeId) (fr:Nat×Nat):bU (w.alloc (.cells cs el fr)) w.heap.size=some cs.size:=by
 have:(w.alloc (.cells cs el fr)).heap[w.heap.size]?=some (.cells cs el fr):=by
  show(w.heap.push _)[w.heap.size]?=_;simp
 simp only[bU,this]
theorem ki {w':World} {x:X} {k v len s cap b sz:Nat} (iB:x.aq k=some v) (hb:x.β k=some (b,0)) (hsz:bU w' b=some sz) (hl:len≤cap) (hc:cap*s≤sz):
  VR w' x (.win k v 0 len s) (.slice (some ⟨b,0,none⟩) len cap):=by
 refine .win k v 0 len s _ cap hl ⟨_,hb⟩ (fun c xE=>?_) fun _=>⟨b,0,sz,hb,hsz,.inr ⟨rfl,by omega⟩⟩
 rw[iB] at xE;cases xE;exact Nat.le_refl _
def wh (i:TypeInfo) (base:Option Addr) (eD hD n:Nat) (v:Value):Sem Value:=do
 let new←Builtin.firstCells i.size n v
 if let some a:=base then storeCells (a.add (eD*i.size)) new.toList
 pure (.slice base (eD+n) hD)
def x9 (el:TypeId) (i:TypeInfo) (base:Option Addr) (eD hD n:Nat) (v:Value):Sem Value:=do
 let xe←choose (.appendCap (eD+n) hD el)
 askRoom (xe*i.bytes)
 let u7←Builtin.firstCells i.size eD (.slice base eD hD)
 let new←Builtin.firstCells i.size n v
 let z←zeroValue el
 pure (.slice (some (←newRow el (u7++new++Builtin.zeroCells z.cells (xe-(eD+n))))) (eD+n) xe)
section
variable{pv:Pv} {P:Program} (ok:pv.Ok P)
include ok
theorem x8 {w:World} {sT xT el n:Nat} {rest:List TypeId} {ty:TypeId} {xd:TypeDesc} {i:TypeInfo} {base:Option Addr} {eD hD:Nat} {v:Value} (EP:pv.b9 sT=some (.slice el)) (EM:pv.b9 xT=some xd) (Dr:¬fJ xd=true)
  (hi:pv.info el=some i) (hlen:(Builtin.lenOf v).run P w=.ok n w) (iC:eD+n≤hD):
  (Builtin.append_ (sT::xT::rest).toArray ty #[.slice base eD hD,v]).run P w=(wh i base eD hD n v).run P w:=by
 have vx:∀w':World,(sizeOf el).run P w'=.ok i.size w':=bn ok (iN hi);cases xd<;>first
  |exact absurd rfl Dr
  |(simp only[Builtin.append_,wh,List.getElem?_toArray,List.getElem?_cons_zero,List.getElem?_cons_succ,Sem.run_bind,ax ok EP,ax ok EM,Result.andThen_ok,vx,Sem.run_pure,Bool.false_eq_true,if_false,hlen,iC,if_true,Bool.not_false];rfl)
theorem EA {w:World} {sT xT el n:Nat} {rest:List TypeId} {ty:TypeId} {xd:TypeDesc} {i:TypeInfo} {base:Option Addr} {eD hD:Nat} {v:Value} (EP:pv.b9 sT=some (.slice el)) (EM:pv.b9 xT=some xd) (Dr:¬fJ xd=true)
  (hi:pv.info el=some i) (hlen:(Builtin.lenOf v).run P w=.ok n w) (iC:¬eD+n≤hD) (L3:¬i.bytes=0) (jX:¬Builtin.nextslicecap (eD+n) hD*i.bytes>2^48):
  (Builtin.append_ (sT::xT::rest).toArray ty #[.slice base eD hD,v]).run P w=(x9 el i base eD hD n v).run P w:=by
 have vx:∀w':World,(sizeOf el).run P w'=.ok i.size w':=bn ok (iN hi);have IP:∀w':World,(typeInfo el).run P w'=.ok i w':=lW ok hi;cases xd<;>first
  |exact absurd rfl Dr
  |(simp only[Builtin.append_,x9,List.getElem?_toArray,List.getElem?_cons_zero,List.getElem?_cons_succ,Sem.run_bind,ax ok EP,ax ok EM,Result.andThen_ok,vx,Sem.run_pure,Bool.false_eq_true,if_false,hlen,iC,IP,L3,jX,or_self,and_false,Bool.not_false,if_true];try rfl)
theorem AR {w:World} {st ae:St} {β:Nat→Option (Nat×Nat)} {Z:Nat→Prop} (h:fm w st β Z) {bB:List TypeId} {ty:TypeId} {d e r:D} {u v:Value} (hu:VR w (st.x β Z) d u) (hv:VR w (st.x β Z) e v)
  (hs:gp pv bB d e st=some (r,ae)):∃z w' β',(Builtin.append_ bB.toArray ty #[u,v]).run P w=.ok z w'∧Nx w st β Z w' ae β' Z∧VR w' (ae.x β' Z) r z:=by
 unfold gp at hs
 split at hs
 ·rename_i sT xT rest
  split at hs
  ·rename_i el xd EP EM
   split at hs
   ·cases hs
   ·rename_i Dr;obtain⟨i,hi,hs⟩:=Option.bind_eq_some_iff.1 hs;obtain⟨z,hz,hs⟩:=Option.bind_eq_some_iff.1 hs;obtain⟨⟨n,ys⟩,jr,hs⟩:=Option.bind_eq_some_iff.1 hs;dsimp only at hs
    split at hs
    ·cases hs
    ·rename_i tZ;simp only[not_or] at tZ;obtain⟨jh,L3,k_⟩:=tZ;have jh:ys.length=n*i.size:=Decidable.not_not.1 jh;have k_:z.length=i.size:=Decidable.not_not.1 k_;obtain⟨hlen,cO⟩:=o9 (P:=P) h hv jr;obtain⟨us,FJ,Ag⟩:=cO i.size n (Nat.le_refl _) jh;rw[←jh,List.take_length] at Ag;have hS:Nx w st β Z w.drew st β Z:=Nx.still h rfl rfl rfl rfl;obtain⟨zv,HY,FF⟩:=fx ok w.drew (st.x β Z) hz;have PO:zv.cells.size=i.size:=by have:=FF.len;rw[k_] at this;simpa using this.symm
     obtain⟨vs,KB,D5⟩:=(o9 (P:=P) hS.sim (hv.mono hS.keeps) jr).2 i.size n (Nat.le_refl _) jh;rw[←jh,List.take_length] at D5
     have grow:∀(base:Option Addr) (eD hD:Nat) (os:List Value),u=.slice base eD hD→¬(eD+n≤hD)→(Builtin.firstCells i.size eD u).run P w.drew=.ok os.toArray w.drew→os.length=eD*i.size→
       1≤eD+n→(eD+n)*i.bytes≤1099511627776→
       ∃cap cs,(Builtin.append_ (sT::xT::rest).toArray ty #[u,v]).run P w=.ok (.slice (some ⟨w.heap.size,0,none⟩) (eD+n) cap) (w.drew.alloc (.cells cs el))∧eD+n≤cap∧
        cap*i.size≤cs.size∧∀(j:Nat) q,(os++vs)[j]?=some q→cs[j]?=some q:=by
      intro base eD hD os PX iC QM F5 h1 jX;subst PX;have Aq:=C4 (eD+n) hD el (w.tape w.drawn (.appendCap (eD+n) hD el));generalize hq:(Question.appendCap (eD+n) hD el).cut (w.tape w.drawn (.appendCap (eD+n) hD el))=cap at Aq;refine⟨cap,os.toArray++vs.toArray++Builtin.zeroCells zv.cells (cap-(eD+n)),?_,Aq,?_,?_⟩
      ·have FV:=z' (bytes:=i.bytes) (Nat.le_of_lt (Nat.lt_of_not_le iC)) h1 jX;rw[EA ok EP EM Dr hi hlen iC L3 FV,x9];simp only[Sem.run_bind,run_choose,Question.forced,Bool.false_eq_true,if_false,Result.andThen_ok,run_askRoom];have om:({w with drawn:=w.drawn+1}:World)=w.drew:=rfl;rw[om,hq];simp only[Result.andThen_ok,QM,KB,HY,newRow,Sem.run_bind,run_newObj,Sem.run_pure]
       rfl
      ·simp only[Array.size_append,List.size_toArray,Builtin.zeroCells,Array.size_map,Array.size_range,PO];have:=D5.len;rw[F5,←this,jh,←Nat.add_mul,←Nat.add_mul];exact Nat.mul_le_mul_right _ (by omega)
      ·intro j q hj
       have hlt:j<(os++vs).length:=by
        rcases Nat.lt_or_ge j (os++vs).length with h'|h'
        ·exact h'
        ·rw[List.getElem?_eq_none h'] at hj;cases hj
       rw[Array.getElem?_append_left (by simpa using hlt)]
       simpa using hj
     cases d with
     |nul=>
      have KD:=dS hu;simp only at hs
      split at hs
      ·rename_i hn;cases hs;subst KD;subst hn;have FK:us=[]:=by have:=Ag.len;rw[jh] at this;simp at this;exact List.length_eq_zero_iff.1 this.symm
       subst FK;refine⟨.slice none 0 0,w,β,?_,Nx.same h,.im _ _ .nul⟩;rw[x8 ok EP EM Dr hi hlen (by omega),wh];simp only[Sem.run_bind,FJ,Result.andThen_ok,Sem.run_pure]
      ·rename_i hn
       split at hs
       ·rename_i jX;cases hs;obtain⟨cap,cs,h1,h2,h3,h4⟩:=grow none 0 0 [] KD (by omega) (by rw[KD];simp[Builtin.firstCells]) (by simp) (by omega) (by simpa using jX);simp only[Nat.zero_add,List.nil_append] at h1 h2 h4
        obtain⟨hx,hx1,Kw,PT⟩:=Nx.jK (w':=w.drew.alloc (.cells cs el)) hS.sim true ys cs el (0,0) rfl rfl rfl rfl (by
         rw[jh];exact Nat.le_trans (Nat.mul_le_mul_right _ h2) h3) (oy.zero _) (fun j q hq=>by
          obtain⟨y,hy1,wz,Af⟩:=D5.at_ hq
          exact⟨y,h4 j y hy1,wz,Af⟩)
        exact⟨_,_,_,h1,hS.trans hx,ki Kw PT hx1 h2 h3⟩
       ·cases hs
     |win k aq off len sz=>
      simp only at hs
      split at hs
      ·rename_i c hm
       split at hs
       ·cases hs
       ·rename_i hsz;simp only[not_or,Nat.not_lt] at hsz;obtain⟨hsz,hcl⟩:=hsz;have hsz:sz=i.size:=Decidable.not_not.1 hsz;obtain⟨a,cap,rfl,hc,hk,_,h_⟩:=dR hu;obtain⟨b,base,Dz,hb,D7,tF⟩:=h_ (cn hm).2
        split at hs
        ·rename_i hn;cases hs;subst hn;have FK:us=[]:=by have:=Ag.len;rw[jh] at this;simp at this;exact List.length_eq_zero_iff.1 this.symm
         subst FK;refine⟨.slice (some a) len cap,w,β,?_,Nx.same h,hu⟩;rw[x8 ok EP EM Dr hi hlen (by omega),wh];simp only[Sem.run_bind,FJ,Result.andThen_ok,Sem.run_pure]
         rfl
        ·rename_i hn
         split at hs
         ·rename_i jX;obtain⟨jX,Ds⟩:=jX;cases hs;subst hsz;have vH:((c.take (off+len*i.size)).drop off).length=len*i.size:=by simp;omega
          obtain⟨GC,NJ,Mn,r1,r2,r3,r4⟩:=h.row hm hb
          by_cases iC:len+n≤cap
          ·
           have L6:a=⟨b,base+off,none⟩∧base+off+cap*i.size≤Dz:=by
            rcases tF with h0|h0
            ·omega
            ·exact h0
           obtain⟨rfl,IZ⟩:=L6;have P5:GC.size=Dz:=by simp only[bU,r1] at D7;cases D7;rfl
           have PW:us.length=n*i.size:=by rw[←Ag.len,jh]
           have IY:(len+n)*i.size≤cap*i.size:=Nat.mul_le_mul_right _ iC;rw[Nat.add_mul] at IY;have tn:=iP (P:=P) us 0 (base+off+len*i.size) w GC r1 (by omega) r3.2 Ag.one
           have Gq:(⟨b,base+off,none⟩:Addr).add (len*i.size)=⟨b,base+off+len*i.size,none⟩:=by
            unfold Addr.add;split
            ·rename_i e;rw[e];rfl
            ·rfl
           have hne:us≠[]∨us=[]:=by cases us<;>simp
           have Gc:(storeCells ⟨b,base+off+len*i.size,none⟩ us).run P w=.ok () (wput w b (.cells (o5 GC (base+off+len*i.size) us) NJ Mn)):=by
            rw[tn]
            cases us with
            |nil=>
             simp only[o5];have ez:b<w.heap.size:=h.lt k b base hb
             congr 1
             simp only[wput]
             have:w.heap.setIfInBounds b (.cells GC NJ Mn)=w.heap:=by
              apply Array.ext_getElem?;intro j
              by_cases hj:b=j
              ·subst hj;rw[Array.getElem?_setIfInBounds_self_of_lt ez,r1]
              ·rw[Array.getElem?_setIfInBounds_ne hj]
             rw[this]
            |cons _ _=>simp
           have hx:=Nx.write (a':=true) (kR:=aq+1) (c':=(c.take (off+len*i.size)).drop off++ys) (cu:=base+off) h hm hb (dh Ds) (by omega) (fun e=>by omega) r1
            (kq us GC (base+off+len*i.size)) (by rw[List.length_append,vH,jh];omega) (fun j q hq=>by
             rw[o4 _ _ _ _ (by omega)];rw[List.getElem?_append] at hq
             split at hq
             ·rename_i hj;rw[vH] at hj;rw[if_neg (by omega)];rw[List.getElem?_drop,List.getElem?_take] at hq
              split at hq
              ·have:=r4 _ q hq
               rwa [show base+(off+j)=base+off+j by omega] at this
              ·cases hq
             ·rename_i hj;rw[vH] at hj hq;obtain⟨y,hy1,wz,Af⟩:=Ag.at_ hq
              have jB:j-len*i.size<us.length:=by
               rcases Nat.lt_or_ge (j-len*i.size) us.length with h'|h'
               ·exact h'
               ·rw[List.getElem?_eq_none h'] at hy1;cases hy1
              rw[if_pos (by omega)]
              exact⟨y,by rw[←hy1];congr 1;omega,wz,Af⟩)
           have nu:k<st.bs.length:=h.dom k b base hb;refine⟨.slice (some ⟨b,base+off,none⟩) (len+n) cap,_,_,?_,hx,?_⟩
           ·rw[x8 ok EP EM Dr hi hlen iC,wh];simp only[Sem.run_bind,FJ,Result.andThen_ok,Sem.run_pure,Gq,Gc]
           ·refine .win k (aq+1) 0 (len+n) i.size _ cap iC ⟨_,by simp[St.x];rfl⟩ (fun q hq=>?_) fun _=>⟨b,base+off,GC.size,by simp[St.x],?_,.inr ⟨rfl,by omega⟩⟩
            ·simp[St.x,St.aq,nu,ch] at hq;omega
            ·have ez:b<w.heap.size:=h.lt k b base hb;simp only[bU,wput];rw[Array.getElem?_setIfInBounds_self_of_lt ez];simp[kq]
          ·
           have hold:∃os:List Value,(Builtin.firstCells i.size len (.slice (some a) len cap)).run P w.drew=.ok os.toArray w.drew∧LR w.drew (st.x β Z) ((c.take (off+len*i.size)).drop off) os:=by
            have H9:o_ st (.win k aq off len i.size)=some (len,(c.drop off).take (len*i.size)):=by
             simp[o_,hm,hcl]
            have:=(o9 (P:=P) hS.sim (hu.mono hS.keeps) H9).2 i.size len (Nat.le_refl _) (by simp;omega);obtain⟨os,yT,xy⟩:=this;refine⟨os,yT,?_⟩;rw[List.take_take,Nat.min_self] at xy
            rwa [List.drop_take,Nat.add_sub_cancel_left]
           obtain⟨os,yT,xy⟩:=hold;have F5:os.length=len*i.size:=by rw[←xy.len,vH]
           obtain⟨NR,cs,h1,h2,h3,h4⟩:=grow (some a) len cap os rfl iC yT F5 (by omega) jX;have AZ:=xy.append D5
           have hx:=Nx.move (w':=w.drew.alloc (.cells cs el)) (a':=true) (c':=(c.take (off+len*i.size)).drop off++ys) hS.sim hm hb (dh Ds) rfl rfl rfl rfl (by
            rw[List.length_append,vH,jh,←Nat.add_mul];exact Nat.le_trans (Nat.mul_le_mul_right _ h2) h3) (fun j q hq=>by
             obtain⟨y,hy1,wz,Af⟩:=AZ.at_ hq
             exact⟨y,h4 j y hy1,wz,Af⟩)
           have nu:k<st.bs.length:=h.dom k b base hb;refine⟨_,_,_,h1,hS.trans hx,?_⟩
           refine .win k (aq+1) 0 (len+n) i.size _ NR h2 ⟨_,by simp[St.x];rfl⟩ (fun q hq=>?_) fun _=>⟨w.heap.size,0,cs.size,by simp[St.x],qX w.drew cs el (0,0),.inr ⟨rfl,by omega⟩⟩
           simp[St.x,St.aq,nu,ch] at hq;omega
         ·cases hs
      ·cases hs
     |_=>cases hs
  ·cases hs
 ·cases hs
end
end Go.V
namespace Go.V
open Go.RowKit
theorem kg (b o n:Nat):(⟨b,o,none⟩:Addr).add n=⟨b,o+n,none⟩:=by
 unfold Addr.add;split
 ·rename_i e;subst e;rfl
 ·rfl
theorem IR.CP {w:World} {Z:Nat→Prop} {cs:List D} {b off:Nat} {f:Nat→Value} (hz:Z b) (hv:∀(j:Nat) c,cs[j]?=some c→w.cell? ⟨b,off+j,none⟩=some (f j)∧(f j).oneCell'=true)
  (hr:∀(j:Nat) c,cs[j]?=some c→IR w Z c (f j)) (n:Nat):IR w Z (.ep (cs.drop n)) (.pointer (some ⟨b,off+n,none⟩)):=by
 refine .ep _ b (off+n) (fun j=>f (n+j)) hz (fun j c hj=>?_) (fun j c hj=>?_)
 ·rw[List.getElem?_drop] at hj;have:=hv _ c hj
  rwa [show off+(n+j)=off+n+j by omega] at this
 ·rw[List.getElem?_drop] at hj;exact hr _ c hj
theorem VR.BA {w:World} {x:X} {k vr off:Nat} {a:Addr} (h:VR w x (.ptr k vr off) (.pointer (some a))) (n:Nat):VR w x (.ptr k vr (off+n)) (.pointer (some (a.add n))):=by
 cases h with
 |im _ _ h=>cases h
 |ptr _ _ _ _ hk hm h=>
  refine .ptr k vr (off+n) _ hk hm fun hv=>?_;obtain⟨b,base,hb,rfl⟩:=h hv;exact⟨b,base,hb,by rw[kg,Nat.add_assoc]⟩
theorem rb (s:List UInt8) (l h:Nat):(⟨s.toArray⟩:ByteArray).extract l h=⟨((s.take h).drop l).toArray⟩:=by
 apply ByteArray.ext;simp[ByteArray.data_extract,List.extract_eq_take_drop,List.drop_take]
section
variable{pv:Pv} {P:Program} (ok:pv.Ok P)
include ok
theorem tJ {w:World} {x:X} {t i:Nat} {d r:D} {u:Value} (hu:VR w x d u) (h:dY pv t d i=some r):∃z,(Instr.fieldAt t u i).run P w=.ok z w∧VR w x r z:=by
 unfold dY at h
 split at h
 ·rename_i fields ht;obtain⟨f,hf,h⟩:=Option.bind_eq_some_iff.1 h
  split at h
  ·cases h
  ·rename_i h0;obtain⟨s,hs,h⟩:=Option.bind_eq_some_iff.1 h;have H7:¬s=0:=by intro e;subst e;exact h0 hs
   split at h
   ·cases h;obtain⟨a,rfl,_⟩:=bH hu;refine⟨.pointer (some (a.add f.offset)),?_,hu.BA _⟩;simp[Instr.fieldAt,ax ok ht,hf,Instr.sureAddr,fieldPlace,bn ok hs,H7]
   ·cases h;obtain⟨b,off,rfl,hz,_,g,hv,hr⟩:=oY hu;refine⟨.pointer (some ((⟨b,off,none⟩:Addr).add f.offset)),?_,.im _ _ ?_⟩
    ·simp[Instr.fieldAt,ax ok ht,hf,Instr.sureAddr,fieldPlace,bn ok hs,H7]
    ·rw[kg];exact IR.CP hz hv hr _
   ·cases h
 ·cases h
theorem CL {w:World} {x:X} {t i:Nat} {d r:D} {u:Value} (hu:VR w x d u) (h:xG pv t d i=some r):∃z,(Instr.field t u i).run P w=.ok z w∧VR w x r z:=by
 unfold xG at h
 split at h
 ·rename_i fields cs ht;obtain⟨f,hf,h⟩:=Option.bind_eq_some_iff.1 h;obtain⟨us,rfl,hl,h1,hr⟩:=fU hu;obtain⟨z,hz,wy⟩:=ky ok hl h1 hr h;exact⟨z,by simp[Instr.field,ax ok ht,hf,asAgg,hz],wy⟩
 ·cases h
theorem Cb {w:World} {x:X} {t:Nat} {d e r:D} {u v:Value} (hu:VR w x d u) (hv:VR w x e v) (h:ti pv t d e=some r):∃z,(Instr.index t u v).run P w=.ok z w∧VR w x r z:=by
 unfold ti at h
 split at h
 ·rename_i k i;rw[bW hv]
  split at h
  ·rename_i len el cs ht;obtain⟨s,hs,h⟩:=Option.bind_eq_some_iff.1 h
   split at h
   ·rename_i hi;obtain⟨us,rfl,hl,h1,hr⟩:=fU hu;obtain⟨z,hz,wy⟩:=ky ok hl h1 hr h;exact⟨z,by simp[Instr.index,asIntOf,ax ok ht,hi,bn ok hs,hz],wy⟩
   ·cases h
  ·rename_i l ht
   split at h
   ·rename_i hi;obtain⟨b,hb,rfl⟩:=Option.map_eq_some_iff.1 h;rw[eM hu];refine⟨.int .u8 b.toNat,?_,.im _ _ (.int _ _)⟩
    have:(⟨l.toArray⟩:ByteArray)[i.toNat]?=some b:=by
     have hlt:i.toNat<l.length:=by
      rcases Nat.lt_or_ge i.toNat l.length with h'|h'
      ·exact h'
      ·rw[List.getElem?_eq_none h'] at hb;cases hb
     rw[getElem?_pos (⟨l.toArray⟩:ByteArray) i.toNat (by simpa[ByteArray.size] using hlt)];rw[List.getElem?_eq_getElem hlt] at hb;cases hb
     rfl
    simp[Instr.index,asIntOf,ax ok ht,hi,this]
   ·cases h
  ·cases h
 ·cases h
theorem tj {w:World} {st:St} {β:Nat→Option (Nat×Nat)} {Z:Nat→Prop} {t:Nat} {d e r:D} {u v:Value} (hu:VR w (st.x β Z) d u) (hv:VR w (st.x β Z) e v) (h:br pv t d e st=some r):
  ∃z,(Instr.indexAt t u v).run P w=.ok z w∧VR w (st.x β Z) r z:=by
 unfold br at h
 split at h
 ·rename_i k i;rw[bW hv]
  split at h
  ·rename_i len el k aq off ht;obtain⟨s,hs,h⟩:=Option.bind_eq_some_iff.1 h
   split at h
   ·rename_i hi;cases h;obtain⟨a,rfl,_⟩:=bH hu;exact⟨.pointer (some (a.add (i.toNat*s))),by simp[Instr.indexAt,asIntOf,ax ok ht,Instr.sureAddr,hi,bn ok hs],hu.BA _⟩
   ·cases h
  ·rename_i len el c ht;obtain⟨s,hs,h⟩:=Option.bind_eq_some_iff.1 h
   split at h
   ·rename_i hi;cases h;obtain⟨b,off,rfl,hz,_,g,hv,hr⟩:=oY hu;refine⟨.pointer (some ((⟨b,off,none⟩:Addr).add (i.toNat*s))),by simp[Instr.indexAt,asIntOf,ax ok ht,Instr.sureAddr,hi,bn ok hs],.im _ _ ?_⟩;rw[kg];exact IR.CP hz hv hr _
   ·cases h
  ·rename_i el es ht;obtain⟨s,hs,h⟩:=Option.bind_eq_some_iff.1 h
   split at h
   ·rename_i hi;obtain⟨d,hd,h⟩:=Option.bind_eq_some_iff.1 h;obtain⟨cs,jk,h⟩:=Option.bind_eq_some_iff.1 h
    split at h
    ·rename_i hlen;cases h
     have hlt:i.toNat<es.length:=by
      rcases Nat.lt_or_ge i.toNat es.length with h'|h'
      ·exact h'
      ·rw[List.getElem?_eq_none h'] at hd;cases hd
     obtain⟨a,cap,rfl,hc,h'|⟨b,off,s0,rfl,hz,iJ,_,f,hv,hr⟩⟩:=jD hu
     ·subst h';simp at hlt
     ·obtain⟨rU,A1⟩:=iJ _ d hd;have yY:=CZ jk;rw[yY,hlen] at A1;subst A1;refine⟨.pointer (some ((⟨b,off,none⟩:Addr).add (i.toNat*s))),?_,.im _ _ ?_⟩
      ·have:(0:Int)≤i∧i<(es.length:Int):=by omega
       simp[Instr.indexAt,asIntOf,ax ok ht,this,bn ok hs]
      ·rw[kg];refine .ep cs b _ (f i.toNat) hz (fun j c hj=>?_) (fun j c hj=>hr _ d j c hd (by rw[yY];exact hj));have:=hv _ d j c hd (by rw[yY];exact hj)
       rwa [←Nat.add_assoc] at this
    ·cases h
   ·cases h
  ·rename_i el k aq off len sz ht;obtain⟨s,hs,h⟩:=Option.bind_eq_some_iff.1 h
   split at h
   ·rename_i hi;obtain⟨rfl,h0,h1,hm⟩:=hi;cases h;obtain⟨a,cap,rfl,hc,hk,Iw,h_⟩:=dR hu;refine⟨.pointer (some (a.add (i.toNat*s))),by simp[Instr.indexAt,asIntOf,ax ok ht,h0,h1,bn ok hs],?_⟩;refine .ptr k aq _ _ hk Iw fun iB=>?_;obtain⟨b,base,Dz,hb,_,h'|⟨rfl,_⟩⟩:=h_ iB
    ·omega
    ·exact⟨b,base,hb,by rw[kg,Nat.add_assoc]⟩
   ·cases h
  ·cases h
 ·cases h
theorem Bh {w:World} {st:St} {β:Nat→Option (Nat×Nat)} {Z:Nat→Prop} (h:fm w st β Z) {t:Nat} {d r:D} {u:Value} {lo hi:Option D} {yL tx:Option Value} (hu:VR w (st.x β Z) d u)
  (wD:∀d v,lo=some d→yL=some v→VR w (st.x β Z) d v) (yX:∀d v,hi=some d→tx=some v→VR w (st.x β Z) d v) (el:lo.isSome=yL.isSome) (eh:hi.isSome=tx.isSome)
  (hs:g_ pv t d lo hi st=some r):∃z,(Instr.sliceAt t u yL tx none).run P w=.ok z w∧VR w (st.x β Z) r z:=by
 unfold g_ at hs
 split at hs
 ·rename_i s ht;obtain⟨⟨l,hh⟩,hb,hr⟩:=Option.map_eq_some_iff.1 hs;(dsimp only at hr);subst hr;rw[eM hu];have hsz:(⟨s.toArray⟩:ByteArray).size=s.length:=by simp[ByteArray.size]
  obtain⟨h1,h2,h3⟩:=iF (P:=P) (w:=w) (x:=st.x β Z) false (Nat.le_refl _) wD yX el eh hb;refine⟨.string ⟨((s.take hh).drop l).toArray⟩,?_,.im _ _ (.str _)⟩;simp[Instr.sliceAt,Instr.slice,ax ok ht,hsz,h1,rb]
 ·rename_i e ht;obtain⟨s,hsz,hs⟩:=Option.bind_eq_some_iff.1 hs;obtain⟨⟨l,hh⟩,hb,hr⟩:=Option.map_eq_some_iff.1 hs;subst hr;rw[dS hu];obtain⟨h1,h2,h3⟩:=iF (P:=P) (w:=w) (x:=st.x β Z) true (Nat.le_refl _) wD yX el eh hb;have IC:l=0:=by omega
  have Rt:hh=0:=by omega
  subst IC;subst Rt;refine⟨.slice none 0 0,?_,.im _ _ .nul⟩;simp[Instr.sliceAt,Instr.slice,ax ok ht,h1,bn ok hsz]
 ·rename_i e es ht;obtain⟨s,hsz,hs⟩:=Option.bind_eq_some_iff.1 hs
  split at hs
  ·rename_i Rr;obtain⟨⟨l,hh⟩,hb,hr⟩:=Option.map_eq_some_iff.1 hs;(dsimp only at hr);subst hr;obtain⟨a,cap,rfl,hc,oP⟩:=jD hu;obtain⟨h1,h2,h3⟩:=iF (P:=P) (w:=w) (x:=st.x β Z) true hc wD yX el eh hb;refine⟨.slice (if cap=l then a else a.map (·.add (l*s))) (hh-l) (cap-l),by simp[Instr.sliceAt,Instr.slice,ax ok ht,h1,bn ok hsz],.im _ _ ?_⟩;have hlen:((es.take hh).drop l).length=hh-l:=by simp;omega
   by_cases hz0:hh-l=0
   ·have:(es.take hh).drop l=[]:=List.length_eq_zero_iff.1 (by rw[hlen];exact hz0);rw[this,hz0];exact .emp _ _
   ·rw[if_neg (by omega)]
    rcases oP with rfl|⟨b,off,s0,rfl,hz,iJ,_,f,hv,hr⟩
    ·simp at h3;omega
    ·have H7:s0=s:=by
      cases es with
      |nil=>simp at h3;omega
      |cons e0 es=>
       obtain⟨q1,q2⟩:=iJ 0 e0 rfl;simp only[pQ,List.head?_cons,q1,beq_iff_eq] at Rr;omega
     subst H7
     have hget:∀(i:Nat) y,((es.take hh).drop l)[i]?=some y→es[l+i]?=some y:=by
      intro i y hy;rw[List.getElem?_drop,List.getElem?_take] at hy
      split at hy
      ·exact hy
      ·cases hy
     have:=IR.sl (w:=w) (Z:=(st.x β Z).Z) ((es.take hh).drop l) b (off+l*s0) (cap-l) s0 (fun i j=>f (l+i) j) hz (by rw[hlen];omega) (fun i y hy=>iJ _ y (hget i y hy)) (fun i y j c hy hj=>by
      have:=hv _ y j c (hget i y hy) hj
      rwa [show off+((l+i)*s0+j)=off+l*s0+(i*s0+j) by rw[Nat.add_mul];omega] at this) (fun i y j c hy hj=>hr _ y j c (hget i y hy) hj)
     rw[hlen] at this
     simpa[kg] using this
  ·cases hs
 ·rename_i e k aq off len sz ht;obtain⟨s,hsz,hs⟩:=Option.bind_eq_some_iff.1 hs
  split at hs
  ·rename_i yQ;subst yQ;obtain⟨⟨l,hh⟩,hb,hr⟩:=Option.map_eq_some_iff.1 hs;(dsimp only at hr);subst hr;obtain⟨a,cap,rfl,hc,hk,Iw,h_⟩:=dR hu;obtain⟨h1,h2,h3⟩:=iF (P:=P) (w:=w) (x:=st.x β Z) true hc wD yX el eh hb;refine⟨.slice (some (if cap=l then a else a.add (l*s))) (hh-l) (cap-l),?_,?_⟩
   ·simp only[Instr.sliceAt,Instr.slice,Sem.run_bind,ax ok ht,Result.andThen_ok,h1,bn ok hsz,Sem.run_pure]
    split<;>rfl
   ·refine .win k aq _ _ s _ _ (by omega) hk Iw fun iB=>?_;obtain⟨b,base,Dz,ez,D7,tF⟩:=h_ iB;refine⟨b,base,Dz,ez,D7,?_⟩
    by_cases hcl:cap=l
    ·left;omega
    ·right
     rcases tF with h'|⟨rfl,IZ⟩
     ·omega
     ·rw[if_neg hcl,kg];refine⟨by rw[Nat.add_assoc],?_⟩;have hle:l≤cap:=by omega
      have:base+(off+l*s)+(cap-l)*s=base+off+cap*s:=by
       rw[Nat.sub_mul];have:=Nat.mul_le_mul_right s hle;omega
      omega
  ·cases hs
 ·rename_i n e k aq off ht;obtain⟨s,hsz,hs⟩:=Option.bind_eq_some_iff.1 hs;obtain⟨⟨ar,c⟩,hm,hs⟩:=Option.bind_eq_some_iff.1 hs;dsimp only at hs
  split at hs
  ·rename_i IZ;obtain⟨⟨l,hh⟩,hb,hr⟩:=Option.map_eq_some_iff.1 hs;(dsimp only at hr);subst hr
   cases hu with
   |im _ _ hu=>cases hu
   |ptr _ _ _ a hk Iw h_=>
    obtain⟨b,base,ez,rfl⟩:=h_ (cn hm).2;obtain⟨cs,Th,fr,r1,r2,_⟩:=h.row hm ez;obtain⟨h1,h2,h3⟩:=iF (P:=P) (w:=w) (x:=st.x β Z) false (Nat.le_refl n) wD yX el eh hb;refine⟨.slice (some (if n=l then⟨b,base+off,none⟩ else(⟨b,base+off,none⟩:Addr).add (l*s))) (hh-l) (n-l),?_,?_⟩
    ·simp[Instr.sliceAt,ax ok ht,Instr.sureAddr,h1,bn ok hsz]
    ·refine .win k aq _ _ s _ _ (by omega) hk Iw fun iB=>⟨b,base,cs.size,ez,by simp[bU,r1],?_⟩
     by_cases hcl:n=l
     ·left;omega
     ·right;rw[if_neg hcl,kg];refine⟨by rw[Nat.add_assoc],?_⟩;have hle:l≤n:=by omega
      have:base+(off+l*s)+(n-l)*s=base+off+n*s:=by
       rw[Nat.sub_mul];have:=Nat.mul_le_mul_right s hle;omega
      omega
  ·cases hs
 ·cases hs
end
end Go.V
namespace Go.V
open Go.RowKit
theorem wrap_small {n:Int} (h0:0≤n) (h1:n≤9223372036854775807):IntKind.i64.wrap n=n:=by
 rw[←gr];obtain⟨m,rfl⟩:=Int.eq_ofNat_of_zero_le h0;have:Nat.ble m (kU .i64)=true:=Nat.ble_eq_true_of_le (by simp[kU];omega);simp[aV,this]
theorem eE (z:List D):∀n,(eu n z).length=n*z.length
 |0=>by simp[eu]
 |n+1=>by
  have:=eE z n;simp only[eu,List.replicate_succ,List.flatten_cons,List.length_append] at*;rw[this,Nat.add_mul];omega
theorem uD (z:List D):∀(n j:Nat),j<n*z.length→(eu n z)[j]?=z[j %z.length]?
 |0,j,h=>by simp at h
 |n+1,j,h=>by
  have ih:=uD z n;simp only[eu,List.replicate_succ,List.flatten_cons] at*;rw[List.getElem?_append]
  split
  ·rename_i hj;rw[Nat.mod_eq_of_lt hj]
  ·rename_i hj;rw[Nat.add_mul] at h;rw[ih _ (by omega),←Nat.mod_eq_sub_mod (by omega)]
def Quiet (w w':World):Prop:=∀b,b<w.heap.size→w'.heap[b]?=w.heap[b]?
theorem Quiet.refl (w:World):Quiet w w:=fun _ _=>rfl
theorem Quiet.push {w w':World} {o:Obj} (h:w'.heap=w.heap.push o):Quiet w w':=fun b hb=>by rw[h,Array.getElem?_push,if_neg (by omega)]
theorem oW {w:World} {x:X} {s:Nat} {z:List D} {us:List Value} (h:LR w x z us) (n m:Nat) (hm:m≤n) (hz:us.length=s) (cells:Array Value) (hc:cells=(Array.range (n*s)).map (us.toArray[·%us.toArray.size]!)):
  cells.size=n*s∧∀(j:Nat) d,(eu m z)[j]?=some d→∃u,cells[j]?=some u∧u.oneCell'=true∧VR w x d u:=by
 subst hc;refine⟨by simp,fun j d hd=>?_⟩
 have hj:j<m*z.length:=by
  rcases Nat.lt_or_ge j (m*z.length) with h'|h'
  ·exact h'
  ·rw[List.getElem?_eq_none (by rw[eE];exact h')] at hd;cases hd
 rw[uD z m j hj] at hd;obtain⟨u,gI,jA,np⟩:=h.at_ hd;have hl:=h.len
 have A0:j<n*s:=by
  have:=Nat.mul_le_mul_right z.length hm;rw[←hz,←hl];omega
 refine⟨u,?_,jA,np⟩;have Ce:us[j %us.length]?=some u:=by rw[←hl];exact gI
 have hlt:j %us.length<us.length:=by
  rcases Nat.lt_or_ge (j %us.length) us.length with h'|h'
  ·exact h'
  ·rw[List.getElem?_eq_none h'] at Ce;cases Ce
 rw[List.getElem?_eq_getElem hlt] at Ce;simp only[Option.some.injEq] at Ce;simp[A0,hlt,Ce]
section
variable{pv:Pv} {P:Program} (ok:pv.Ok P)
include ok
omit ok in
theorem BX {w:World} {st:St} {β:Nat→Option (Nat×Nat)} {Z:Nat→Prop} (h:fm w st β Z) {cs:List D} {v:Value} (hv:LR w (st.x β Z) cs v.cells.toList) (e:TypeId):
  ∃z w' β',((do pure (.pointer (some (←newVar e v))):Sem Value)).run P w=.ok z w'∧Nx w st β Z w' (st.push (.mem 0 false cs)) β' Z∧VR w' ((st.push (.mem 0 false cs)).x β' Z) (.ptr st.bs.length 0 0) z∧Quiet w w':=by
 obtain⟨hx,h1,h2,h3⟩:=Nx.jK (w':=w.alloc (.cells v.cells e)) h false cs v.cells e (0,0) rfl rfl rfl rfl (by rw[hv.len];simp) (oy.zero _) (fun j d hd=>by
  obtain⟨u,gI,jA,np⟩:=hv.at_ hd
  exact⟨u,by simpa using gI,jA,np⟩)
 refine⟨.pointer (some ⟨w.heap.size,0,none⟩),_,_,?_,hx,?_,Quiet.push rfl⟩
 ·simp only[newVar,newRow,Sem.run_bind,run_newObj,Result.andThen_ok,Sem.run_pure];rfl
 ·refine .ptr _ _ _ _ ⟨_,by simp[St.x,dG];rfl⟩ (fun c hc=>?_) fun _=>⟨w.heap.size,0,by simp[St.x,dG],rfl⟩
  simp only[St.x] at hc;rw[h2] at hc;cases hc;exact Nat.le_refl _
theorem Db {w:World} {st:St} {β:Nat→Option (Nat×Nat)} {Z:Nat→Prop} (h:fm w st β Z) {e:Nat} {cs:List D} (hz:cT pv e=some cs):
  ∃z w' β',(Instr.alloc e true (.tuple #[])).run P w=.ok z w'∧Nx w st β Z w' (st.push (.mem 0 false cs)) β' Z∧VR w' ((st.push (.mem 0 false cs)).x β' Z) (.ptr st.bs.length 0 0) z∧Quiet w w':=by
 obtain⟨v,hv,hc⟩:=fx ok w (st.x β Z) hz;obtain⟨z,w',β',h1,h2,h3,h4⟩:=BX (P:=P) h hc e;refine⟨z,w',β',?_,h2,h3,h4⟩;simp only[Instr.alloc,Sem.run_bind,hv,Result.andThen_ok] at*;exact h1
theorem rf {w:World} {st ae:St} {β:Nat→Option (Nat×Nat)} {Z:Nat→Prop} (h:fm w st β Z) {t len:Nat} {parts:List (Nat×D)} {parts':List (Nat×Value)} {r:D} (hl:parts.length=parts'.length)
  (hr:∀(i:Nat) p q,parts[i]?=some p→parts'[i]?=some q→p.1=q.1∧VR w (st.x β Z) p.2 q.2) (hs:fS pv t len parts st=some (r,ae)):
  ∃z w' β',(Instr.buildSlice t len parts'.toArray).run P w=.ok z w'∧Nx w st β Z w' ae β' Z∧VR w' (ae.x β' Z) r z∧Quiet w w':=by
 unfold fS at hs
 split at hs
 ·rename_i e ht;obtain⟨s,hsz,hs⟩:=Option.bind_eq_some_iff.1 hs;obtain⟨z,hz,hs⟩:=Option.bind_eq_some_iff.1 hs
  split at hs
  ·rename_i tZ;obtain⟨k_,Gn⟩:=tZ;obtain⟨cs,hf,hs⟩:=Option.map_eq_some_iff.1 hs;cases hs;obtain⟨v,hv,hc⟩:=fx ok w (st.x β Z) hz;have AV:v.cells.toList.length=s:=by rw[←hc.len,k_]
   have hzero:∃us:List Value,(if len*s=0 then#[] else v.cells:Array Value)=us.toArray∧((Array.range (len*s)).map ((if len*s=0 then#[] else v.cells:Array Value)[·%(if len*s=0 then#[] else v.cells:Array Value).size]!)).toList.length=len*s∧
     LR w (st.x β Z) (eu len z) ((Array.range (len*s)).map ((if len*s=0 then#[] else v.cells:Array Value)[·%(if len*s=0 then#[] else v.cells:Array Value).size]!)).toList:=by
    by_cases h0:len*s=0
    ·refine⟨[],by simp[h0],by simp,?_⟩;have:eu len z=[]:=List.length_eq_zero_iff.1 (by rw[eE,k_];exact h0);rw[this,h0];exact⟨by simp,by simp,by simp⟩
    ·obtain⟨q1,q2⟩:=oW hc len len (Nat.le_refl _) AV _ rfl;simp only[h0,if_false];have e1:v.cells.toList.toArray=v.cells:=by simp
     rw[e1] at q1 q2;refine⟨v.cells.toList,by simp,by simp,⟨by rw[eE,k_];simp,fun u hu=>?_,fun i c u xE hu=>?_⟩⟩
     ·obtain⟨j,hj⟩:=List.getElem?_of_mem hu
      have jB:j<len*s:=by
       rcases Nat.lt_or_ge j (len*s) with h'|h'
       ·exact h'
       ·rw[List.getElem?_eq_none (by simpa using h')] at hj;cases hj
      obtain⟨u',gI,jA,_⟩:=q2 j _ (List.getElem?_eq_getElem (by rw[eE,k_];exact jB));rw[Array.getElem?_toList] at hj;rw[hj] at gI;cases gI;exact jA
     ·obtain⟨u',gI,_,np⟩:=q2 i c xE;rw[Array.getElem?_toList] at hu;rw[hu] at gI;cases gI;exact np
   obtain⟨us,JL,_,AZ⟩:=hzero;obtain⟨rs,f1,f2⟩:=tI (iT:=fun i=>some (i*s,s)) (fun _ _ e=>e) parts parts' hl hr AZ hf
   have hcl:cs.length=len*s:=by
    have lD:∀(ps:List (Nat×D)) (a b:List D),ga (fun i=>some (i*s,s)) a ps=some b→b.length=a.length:=by
     intro ps
     induction ps with
     |nil=>intro a b e;simp[ga] at e;rw[e]
     |cons p ps ih=>
      intro a b e;obtain⟨pi,pd⟩:=p;simp only[ga] at e
      split at e
      ·split at e
       ·cases e
       ·rw[ih _ _ e,cW]
      ·cases e
    rw[lD _ _ _ hf,eE,k_]
   obtain⟨hx,x1,x2,x3⟩:=Nx.jK (w':=w.alloc (.cells rs.toArray e)) h true cs rs.toArray e (0,0) rfl rfl rfl rfl (by rw[f2.len];simp) (oy.zero _) (fun j d hd=>by
    obtain⟨u,gI,jA,np⟩:=f2.at_ hd
    exact⟨u,by simpa using gI,jA,np⟩)
   refine⟨.slice (some ⟨w.heap.size,0,none⟩) len len,_,_,?_,hx,ki x2 x3 x1 (Nat.le_refl _) (by simp only[List.size_toArray];rw[←f2.len,hcl];exact Nat.le_refl _),Quiet.push rfl⟩;have I7:¬len*s>2^24:=by omega
   simp only[Instr.buildSlice,Sem.run_bind,ax ok ht,Result.andThen_ok,bn ok hsz,Sem.run_ite,if_neg I7,Sem.run_pure]
   by_cases h0:len*s=0
   ·simp only[h0,if_true] at f1⊢;simp only[Array.toArray_toList] at f1;rw[f1];simp only[newRow,Sem.run_bind,run_newObj,Result.andThen_ok,Sem.run_pure];rfl
   ·simp only[h0,if_false,Result.andThen_ok,hv] at f1⊢;simp only[Array.toArray_toList] at f1;rw[f1];simp only[newRow,Sem.run_bind,run_newObj,Result.andThen_ok,Sem.run_pure];rfl
  ·cases hs
 ·cases hs
theorem te {w:World} {st ae:St} {β:Nat→Option (Nat×Nat)} {Z:Nat→Prop} (h:fm w st β Z) {t:Nat} {l c r:D} {u v:Value} (hu:VR w (st.x β Z) l u) (hv:VR w (st.x β Z) c v) (hs:fG pv t l c st=some (r,ae)):
  ∃z w' β',(Instr.makeSlice t u v).run P w=.ok z w'∧Nx w st β Z w' ae β' Z∧VR w' (ae.x β' Z) r z∧Quiet w w':=by
 unfold fG at hs
 split at hs
 ·rename_i e k l k' c ht;obtain⟨i,hi,hs⟩:=Option.bind_eq_some_iff.1 hs;obtain⟨z,hz,hs⟩:=Option.bind_eq_some_iff.1 hs
  split at hs
  ·rename_i tZ;obtain⟨k_,IC,QU,L1,jX⟩:=tZ;cases hs;rw[bW hu,bW hv];obtain⟨zv,HY,FF⟩:=fx ok w (st.x β Z) hz;have AV:zv.cells.toList.length=i.size:=by rw[←FF.len,k_]
   have Ky:IntKind.i64.wrap l=l:=wrap_small IC (by omega);have PV:IntKind.i64.wrap c=c:=wrap_small (by omega) L1
   have cC:∃cells:Array Value,cells=(Array.range (c.toNat*i.size)).map ((if c.toNat*i.size=0 then#[] else zv.cells:Array Value)[·%(if c.toNat*i.size=0 then#[] else zv.cells:Array Value).size]!)∧cells.size=c.toNat*i.size∧
     ∀(j:Nat) d,(eu l.toNat z)[j]?=some d→∃u,cells[j]?=some u∧u.oneCell'=true∧VR w (st.x β Z) d u:=by
    refine⟨_,rfl,by simp,?_⟩
    by_cases h0:c.toNat*i.size=0
    ·intro j d hd
     have:eu l.toNat z=[]:=List.length_eq_zero_iff.1 (by
      rw[eE,k_];have:=Nat.mul_le_mul_right i.size (show l.toNat≤c.toNat by omega)
      omega)
     rw[this] at hd;simp at hd
    ·simp only[h0,if_false];have:=(oW FF c.toNat l.toNat (by omega) AV _ rfl).2
     simpa using this
   obtain⟨cells,cO,hsz,hrel⟩:=cC
   have hlen:(eu l.toNat z).length≤cells.size:=by
    rw[eE,k_,hsz];exact Nat.mul_le_mul_right _ (by omega)
   obtain⟨hx,x1,x2,x3⟩:=Nx.jK (w':=w.alloc (.cells cells e)) h true (eu l.toNat z) cells e (0,0) rfl rfl rfl rfl hlen (oy.zero _) hrel;refine⟨.slice (some ⟨w.heap.size,0,none⟩) l.toNat c.toNat,_,_,?_,hx,ki x2 x3 x1 (by omega) (by rw[hsz];exact Nat.le_refl _),Quiet.push rfl⟩
   have P4:(decide (c<0)||decide ((i.bytes:Int)*c>2^48))=false:=by
    have:¬c<0:=by omega
    have h2:(i.bytes:Int)*c=c*i.bytes:=Int.mul_comm _ _;simp only[this,decide_false,Bool.false_or,decide_eq_false_iff_not,h2];omega
   have tw:¬l<0:=by omega
   have oN:¬l>c:=by omega
   simp only[Instr.makeSlice,Sem.run_bind,ax ok ht,Result.andThen_ok,asInt,asIntOf,Sem.run_pure,lW ok hi,Ky,PV,P4,tw,oN,decide_false,Bool.or_self,Bool.false_eq_true,or_self,if_false,Sem.run_ite,run_askRoom,bn ok (iN hi)]
   by_cases h0:c.toNat*i.size=0
   ·simp only[h0,if_true] at cO⊢;simp only[newRow,Sem.run_bind,run_newObj,Result.andThen_ok,Sem.run_pure,cO];rfl
   ·simp only[h0,if_false,Result.andThen_ok,HY] at cO⊢;simp only[newRow,Sem.run_bind,run_newObj,Result.andThen_ok,Sem.run_pure,cO];rfl
  ·cases hs
 ·cases hs
end
end Go.V
