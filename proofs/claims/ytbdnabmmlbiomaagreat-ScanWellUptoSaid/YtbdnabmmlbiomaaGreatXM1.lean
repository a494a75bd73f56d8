/-
 V: an evaluator of the model's code over pure values, and its soundness; no program in sight, no conditions.
-/
import GoSem.Step
import Derived.WalkKit
import Derived.WalkLawsBesides
import Derived.Laws.StructEq
import Derived.Laws.Slices
import Derived.Laws.Concat
set_option linter.unusedSimpArgs false
set_option linter.unusedVariables false
set_option linter.unusedSectionVars false
set_option linter.unnecessarySimpa false
open Option renaming bind_eq_some_iff→γ,map_eq_some_iff→κ,some→ο,bind_some→QL,map_some→J4
open Go.Result renaming andThen_ok→δ
open Go.Sem renaming run_bind→ε,run_pure→μ,run_ite→JW
open Array renaming getElem?_setIfInBounds_self_of_lt→ζ,getElem?_setIfInBounds_ne→ρ,getElem?_toList→QV,getElem?_push→QB,ext_getElem?→QF,range→QM,size_setIfInBounds→QO,getElem?_eq_none→Qe,toArray_toList→Qf,size_push→J5,ext'→Jy
open Nat renaming le_refl→η,mul_le_mul_right→θ,lt_or_ge→φ,beq→χ,add_mul→Ξ,le_trans→Φ,ble→QJ,add_zero→Qy,add_assoc→QY,le_antisymm→QI,eq_of_mul_eq_mul_left→Qd,sub_self→Qi,zero_add→Ql,ble_eq_true_of_le→Qo,lt_of_lt_of_le→J3,min_eq_left→Jj,sub_mul→Jw,zero_le→J',min→JV
open Go.Builtin renaming firstCells→ι,append_→Ψ,nextslicecap→Qq,lenOf→QG,zeroCells→QD,copy_→QA,growBy→J0
open List renaming getElem?_eq_none→ν,length_eq_zero_iff→ξ,getElem?_eq_getElem→π,getElem?_set_ne→ς,getElem?_cons_succ→τ,length_cons→υ,getElem?_append_left→ψ,getElem?_drop→Θ,getElem?_take→Ω,length_append→QQ,getElem?_cons_zero→QX,getElem?_toArray→Qx,getElem?_append→Qv,getElem?_set_self→QK,length_nil→QU,getElem?_of_mem→QH,size_toArray→QP,extract_eq_take_drop→Qc,mem_of_getElem?→Qm,mem_of_mem_take→Qn,replicate_succ→Qr,flatten_cons→J2,length_take→J8,take_length→J9,foldl_cons→JX,length_set→JZ,drop_take→Jx,replicate→Jz
open Go.Op renaming equalIn→ω,bytesLess→QR,equal→QS,eqFields→Qt,stringOp→Qu,intBits→JY
open Bool renaming false_eq_true→Γ,and_eq_true→J6,not_false→JJ
open Decidable renaming not_not→Δ
open Go.Instr renaming sureAddr→QZ,sliceAt→Qj,indexAt→Qw,sliceBound→QW,slice→QN,fieldAt→Qa,build→Qg,index→Qh,fill→Qp,sliceBounds→Qs,buildSlice→J1,makeSlice→J7,storeAt→Jq,alloc→Jv,field→Jk
open Go.ByteArray renaming toList_eq→Qz
open ByteArray renaming size→Qk,data_extract→QE,ext→JK
open Go.IntKind renaming i64→QC,signed→QT,bits→Qb,wrap→JQ
namespace Go.V
inductive D where
 |bool (b:Bool)
 |int (k:IntKind) (n:Int)
 |str (s:List UInt8)
 |nul
 |sl (es:List D)
 |win (k aG off len s:Nat)
 |pnil
 |ptr (k aG off:Nat)
 |mp (k:Nat)
 |ep (cells:List D)
 |fn (f:Nat) (jL:List D)
 |nilfn
 |agg (cs:List D)
 |tup (ds:List D)
 |nilif
 |bD
 deriving Inhabited
inductive iI where
 |mem (aG:Nat) (arr:Bool) (cells:List D)
 |iter (s:List UInt8) (pos:Nat)
 |map (es:List (D×D))
 |dead
 deriving Inhabited
structure St where
 bs:List iI
 flr:Nat
 ro:Nat
structure Fr where
 n:Nat
 loc:List D
 tmp:List (Nat×D)
def look (t:Nat):List (Nat×D)→D
 |[]=>.bD
 |(u,d)::l=>match χ t u with
  |true=>d
  |false=>look t l
def nth (d:D):List D→Nat→D
 |[],_=>d
 |x::_,0=>x
 |_::l,i+1=>nth d l i
def Fr.get (f:Fr) (t:Nat):D:=
 match QJ f.n t with
 |false=>nth .bD f.loc t
 |true=>look t f.tmp
def Fr.put (f:Fr) (t:Nat) (d:D):Fr:=
 match QJ f.n t with
 |false=>⟨f.n,f.loc.set t d,f.tmp⟩
 |true=>⟨f.n,f.loc,(t,d)::f.tmp⟩
def Fr.aj (f:Fr) (t:Option Nat) (d:D):Fr:=
 match t with
 |some t=>f.put t d
 |none=>f
def Fr.clean (f:Fr):Fr:=⟨f.n,f.loc,[]⟩
def D.cells?:D→Option (List D)
 | .agg cs=>some cs
 | .tup _=>none
 | .bD=>none
 |d=>some [d]
def D.cells:D→List D
 | .agg cs=>cs
 |d=>[d]
def rO:Value→D
 | .bool b=>.bool b
 | .int k n=>.int k n
 | .string s=>.str s.data.toList
 | .slice none 0 0=>.nul
 | .pointer none=>.pnil
 | .nilFunc=>.nilfn
 | .nilIface=>.nilif
 |_=>.bD
def Cg:Value→Bool
 | .agg _| .tuple _=>false
 |_=>true
def mf:List Value→Option (List D)
 |[]=>some []
 |v::l=>match Cg v with
  |true=>match mf l with
   |some r=>some (rO v::r)
   |none=>none
  |false=>none
def kR:Value→D
 | .agg cs=>match mf cs.toList with
  |some l=>.agg l
  |none=>.bD
 |v=>rO v
def Fr.ev (f:Fr):Operand→D
 | .tmp t=>f.get t
 | .const v=>kR v
 | .func g=>.fn g []
 | .global _=>.bD
mutual
def D.ref:D→Nat
 | .win k _ _ _ _=>k+1
 | .ptr k _ _=>k+1
 | .mp k=>k+1
 | .fn _ cs=>refs cs
 | .agg cs=>refs cs
 | .tup ds=>refs ds
 |_=>0
def refs:List D→Nat
 |[]=>0
 |d::ds=>max d.ref (refs ds)
end
def St.fk (st:St) (k aG:Nat):Option (Bool×List D):=
 match st.bs[k]? with
 |some (.mem v a c)=>if v=aG then some (a,c) else none
 |_=>none
def iI.cells:iI→List D
 | .mem _ _ c=>c
 |_=>[]
def St.vn (st:St) (k:Nat):Nat:=
 match st.bs[k]? with
 |some b=>refs b.cells
 |none=>0
def St.jn (st:St) (k r:Nat):Bool:=decide (st.ro≤k) &&(decide (st.flr≤k)||(decide (r≤k+1)||decide (r≤st.vn k)))
def setMany (c:List D) (off:Nat):List D→List D
 |[]=>c
 |x::xs=>setMany (c.set off x) (off+1) xs
def St.wr (st:St) (k aG off:Nat) (cs:List D):Option St:=
 match st.fk k aG with
 |some (a,c)=>if off+cs.length≤c.length∧st.jn k (refs cs)=true then some {st with bs:=st.bs.set k (.mem aG a (setMany c off cs))} else none
 |none=>none
def St.push (st:St) (b:iI):St:={st with bs:=st.bs++[b]}
inductive Mode where
 |ro|rw|bd|nw
abbrev eS:=Nat→List D→St→Option (D×St)
structure Fi where
 fn:Func
 nloc:Nat
 mode:Mode
 knul:Bool
 jj:Option (List D→St→Option (D×St)):=none
 dyn:List (Nat×List (Nat×Nat)):=[]
inductive Tr (α:Type) where
 |leaf (a:α)
 |node (k:Nat) (l r:Tr α)
def Tr.get {α:Type} (t:Nat):Tr α→α
 | .leaf a=>a
 | .node k l r=>match QJ k t with
  |false=>l.get t
  |true=>r.get t
structure Pv where
 ty:Tr TypeInfo
 nty:Nat
 fs:Tr Fi
 nfs:Nat
 eqb:List Nat
 prm:List (Nat×(List D→St→Option (D×St))):=[]
def lK (f:Nat):List (Nat×(List D→St→Option (D×St)))→Option (List D→St→Option (D×St))
 |[]=>none
 |(g,p)::l=>match χ f g with
  |true=>some p
  |false=>lK f l
def Pv.info (P:Pv) (t:Nat):Option TypeInfo:=
 match QJ P.nty t with
 |false=>some (P.ty.get t)
 |true=>none
def Pv.cJ (P:Pv) (t:Nat):Option TypeDesc:=
 match P.info t with
 |some i=>match i.desc with
  | .named _ u=>match P.info u with
   |some j=>some j.desc
   |none=>none
  |d=>some d
 |none=>none
def Pv.fi (P:Pv) (f:Nat):Option Fi:=
 match QJ P.nfs f with
 |false=>some (P.fs.get f)
 |true=>none
def mz:IntKind→Nat
 | .i8=>127| .i16=>32767| .i32=>2147483647| .i64=>9223372036854775807
 | .u8=>255| .u16=>65535| .u32=>4294967295| .u64=>18446744073709551615
def vE:IntKind→Nat
 | .i8=>128| .i16=>32768| .i32=>2147483648| .i64=>9223372036854775808
 |_=>0
def cy (k:IntKind) (n:Int):Int:=
 match n with
 | .ofNat m=>match QJ m (mz k) with
  |true=>.ofNat m
  |false=>k.wrap (.ofNat m)
 | .negSucc m=>match QJ (vE k) m with
  |false=>.negSucc m
  |true=>k.wrap (.negSucc m)
section
variable(P:Pv)
def cB (t:TypeId):Option Nat:=
 match P.info t with
 |some i=>some i.size
 |none=>none
def dW (t:TypeId) (c:List D):Option D:=
 match P.cJ t with
 |none=>none
 |some (.struct _)|some (.array _ _)=>(cB P t).bind fun n=>if n≤c.length then some (.agg (c.take n)) else none
 |some _=>c.head?
def gO (t:TypeId) (d:D) (st:St):Option D:=
 match d with
 | .ptr k aG off=>(st.fk k aG).bind fun(_,c)=>dW P t (c.drop off)
 | .ep c=>dW P t c
 |_=>none
def lu (t:TypeId) (a v:D) (st:St):Option St:=
 match a,v.cells? with
 | .ptr k aG off,some cs=>if cB P t=some cs.length then st.wr k aG off cs else none
 |_,_=>none
def tQ (t:TypeId):Option D:=(P.info t).bind fun i=>i.zero.map kR
def dG (t:TypeId):Option (List D):=
 match tQ P t with
 |some z=>z.cells?
 |none=>none
def pI (t:TypeId) (cs:List D) (off:Nat):Option D:=
 match P.cJ t with
 |none=>none
 |some (.struct _)|some (.array _ _)=>(cB P t).bind fun n=>if off+n≤cs.length then some (.agg ((cs.drop off).take n)) else none
 |some _=>cs[off]?
def ie (place:Nat→Option (Nat×Nat)) (cells:List D):List (Nat×D)→Option (List D)
 |[]=>some cells
 |(i,v)::rest=>
  match place i,v.cells? with
  |some (off,size),some cs=>if cs.length≠size∨off+cs.length>cells.length then none else ie place (setMany cells off cs) rest
  |_,_=>none
def mb:List Field→Option (List (Nat×Nat))
 |[]=>some []
 |f::fs=>match cB P f.type with
  |some s=>match mb fs with
   |some r=>some ((f.offset,s)::r)
   |none=>none
  |none=>none
def po (t:TypeId) (parts:List (Nat×D)):Option D:=
 match dG P t with
 |some z=>match P.cJ t with
  |some (.struct fields)=>match mb P fields.toList with
   |some ps=>(ie (fun i=>ps[i]?) z parts).map .agg
   |none=>none
  |some (.array _ e)=>match cB P e with
   |some s=>(ie (fun i=>some (i*s,s)) z parts).map .agg
   |none=>none
  |_=>none
 |none=>none
def fg (n:Nat) (z:List D):List D:=(Jz n z).flatten
def ij (t:TypeId) (len:Nat) (parts:List (Nat×D)) (st:St):Option (D×St):=
 match P.cJ t with
 |some (.slice e)=>(cB P e).bind fun s=>(dG P e).bind fun z=>
   if z.length=s∧len*s≤16777216 then
    (ie (fun i=>some (i*s,s)) (fg len z) parts).map fun cs=>(.win st.bs.length 0 0 len s,st.push (.mem 0 true cs))
   else none
 |_=>none
def Ar (op:BinOp) (a b:Int):Option D:=
 match op with
 | .eql=>some (.bool (a==b))
 | .neq=>some (.bool (a !=b))
 | .lss=>some (.bool (a<b))
 | .leq=>some (.bool (a≤b))
 | .gtr=>some (.bool (a>b))
 | .geq=>some (.bool (a≥b))
 |_=>none
def BJ (op:BinOp) (k:IntKind) (x y:Int):Option D:=
 let a:=BitVec.ofInt k.bits x
 let b:=BitVec.ofInt k.bits y
 let back (r:BitVec k.bits):Option D:=some (.int k (cy k r.toNat))
 match op with
 | .and=>back (a &&&b)
 | .or=>back (a|||b)
 | .xor=>back (a^^^b)
 | .andNot=>back (a &&&~~~b)
 |_=>none
def vR (op:BinOp) (k:IntKind) (a b:Int):Option D:=
 match op with
 | .add=>some (.int k (cy k (a+b)))
 | .sub=>some (.int k (cy k (a-b)))
 | .mul=>some (.int k (cy k (a*b)))
 | .quo=>if b=0 then none else some (.int k (cy k (a.tdiv b)))
 | .rem=>if b=0 then none else some (.int k (a.tmod b))
 | .and| .or| .xor| .andNot=>BJ op k a b
 |_=>Ar op a b
def y9 (op:BinOp) (k:IntKind) (x y:Int):Option D:=
 if y<0 then none
 else match op with
  | .shl=>some (.int k (cy k (x*2^(min y.toNat k.bits))))
  | .shr=>some (.int k (x.fdiv (2^(min y.toNat k.bits))))
  |_=>none
def Gk (op:BinOp) (a b:List UInt8):Option D:=
 match op with
 | .add=>if a.length+b.length≤9223372036854775807 then some (.str (a++b)) else none
 | .eql=>some (.bool (a==b))
 | .neq=>some (.bool !(a==b))
 | .lss=>some (.bool (QR a b))
 | .leq=>some (.bool (QR a b||a==b))
 | .gtr=>some (.bool !(QR a b||a==b))
 | .geq=>some (.bool !(QR a b))
 |_=>none
mutual
def M0:Nat→TypeId→D→D→Option Bool
 |0,_,_,_=>none
 |d+1,t,x,y=>
  match P.cJ t,x,y with
  |some .bool,.bool a,.bool b=>some (a==b)
  |some (.int _),.int k a,.int k' b=>if k=k' then some (a==b) else none
  |some .string,.str a,.str b=>some (a==b)
  |some (.pointer _),.pnil,.pnil=>some true
  |some (.pointer _),.pnil,.ptr _ _ _=>some false
  |some (.pointer _),.ptr _ _ _,.pnil=>some false
  |some (.slice _),.nul,.nul=>some true
  |some (.slice _),.win _ _ _ _ _,.nul=>some false
  |some (.slice _),.sl (_::_),.nul=>some false
  |some (.struct fields),.agg xs,.agg ys=>if P.eqb.contains t then eqFields d xs ys fields.toList else none
  |some (.array len e),.agg xs,.agg ys=>(cB P e).bind fun n=>mj d e n xs ys len 0
  |_,_,_=>none
def eqFields:Nat→List D→List D→List Field→Option Bool
 |0,_,_,_=>none
 |_+1,_,_,[]=>some true
 |d+1,xs,ys,f::fs=>
  if f.name= "_" then eqFields d xs ys fs else
  match pI P f.type xs f.offset,pI P f.type ys f.offset with
  |some x,some y=>match M0 d f.type x y with
   |some true=>eqFields d xs ys fs
   |some false=>some false
   |none=>none
  |_,_=>none
def mj:Nat→TypeId→Nat→List D→List D→Nat→Nat→Option Bool
 |0,_,_,_,_,_,_=>none
 |_+1,_,_,_,_,0,_=>some true
 |d+1,e,n,xs,ys,left+1,i=>
  match pI P e xs (i*n),pI P e ys (i*n) with
  |some x,some y=>match M0 d e x y with
   |some true=>mj d e n xs ys left (i+1)
   |some false=>some false
   |none=>none
  |_,_=>none
end
def sV:Nat:=64
def SQ:D→Bool
 | .agg _=>true
 |_=>false
def equalD (t:TypeId) (x y:D):Option Bool:=
 if SQ x &&!P.eqb.contains t then none else M0 P sV t x y
def lb (op:BinOp) (t:TypeId) (x y:D):Option D:=
 match x,y with
 | .int k a,.int k' b=>match op with
  | .shl| .shr=>y9 op k a b
  |_=>if k=k' then vR op k a b else none
 | .str a,.str b=>Gk op a b
 |x,y=>match op with
  | .eql=>(equalD P t x y).map .bool
  | .neq=>(equalD P t x y).map fun b=>.bool !b
  |_=>none
def Xe (op:UnOp) (x:D):Option D:=
 match op,x with
 | .neg,.int k n=>some (.int k (cy k (0-n)))
 | .xor,.int k n=>BJ .xor k (if k.signed then-1 else k.max) n
 | .not,.bool b=>some (.bool !b)
 |_,_=>none
def rD (st:St):D→Option (Nat×List D)
 | .sl es=>some (es.length,es.flatMap D.cells)
 | .nul=>some (0,[])
 | .win k aG off len s=>(st.fk k aG).bind fun(_,c)=>if off+len*s≤c.length then some (len,(c.drop off).take (len*s)) else none
 | .str b=>some (b.length,b.map fun x=>.int .u8 x.toNat)
 |_=>none
def pk:List D→Option (List UInt8)
 |[]=>some []
 | .int .u8 n::l=>(pk l).map fun r=>UInt8.ofNat n.toNat::r
 |_=>none
def yD (src dst:TypeId) (x:D) (st:St):Option (D×St):=
 match P.cJ src,P.cJ dst,x with
 |some _,some (.int k),.int _ n=>some (.int k (cy k n),st)
 |some _,some .string,.int _ n=>some (.str (Utf8.encode n).data.toList,st)
 |some _,some .string,.str s=>some (.str s,st)
 |some _,some (.slice e),.str s=>
  match P.cJ e with
  |some (.int .u8)=>if s.length<1099511627776 then some (.win st.bs.length 0 0 s.length 1,st.push (.mem 0 true (s.map fun x=>.int .u8 x.toNat))) else none
  |_=>none
 |some (.slice _),some (.slice e),.win k aG off len sz=>
  match P.cJ e,st.fk k aG with
  |some (.int .u8),some _=>if χ src dst=true∧0<len∧st.jn k 0=true then some (.win k aG off len sz,st) else none
  |_,_=>none
 |some (.slice e),some .string,x=>
  match P.cJ e,rD st x with
  |some (.int .u8),some (n,cs)=>match x with
   | .str _=>none
   |_=>if cs.length=n then(pk cs).map fun b=>(.str b,st) else none
  |_,_=>none
 |_,_,_=>none
def xP:D→Option Nat
 | .sl es=>some es.length
 | .nul=>some 0
 | .win _ _ _ len _=>some len
 | .str s=>some s.length
 |_=>none
def hO:TypeDesc→Bool
 | .int _=>true
 |_=>false
def iO (argTypes:List TypeId) (s x:D) (st:St):Option (D×St):=
 match argTypes with
 |sT::xT::_=>
  match P.cJ sT,P.cJ xT with
  |some (.slice e),some xd=>if hO xd=true then none else
   (P.info e).bind fun i=>(dG P e).bind fun z=>(rD st x).bind fun(n,ys)=>
   if ys.length≠n*i.size∨i.bytes=0∨z.length≠i.size then none else
   match s with
   | .nul=>if n=0 then some (.nul,st)
     else if n*i.bytes≤1099511627776 then some (.win st.bs.length 0 0 n i.size,st.push (.mem 0 true ys)) else none
   | .win k aG off len sz=>
    match st.fk k aG with
    |some (true,c)=>if sz≠i.size∨c.length<off+len*sz then none
      else if n=0 then some (.win k aG off len sz,st)
      else if(len+n)*i.bytes≤1099511627776∧st.jn k (refs ys)=true then
       some (.win k (aG+1) 0 (len+n) sz,{st with bs:=st.bs.set k (.mem (aG+1) true ((c.take (off+len*sz)).drop off++ys))})
      else none
    |_=>none
   |_=>none
  |_,_=>none
 |_=>none
def uU (argTypes:List TypeId) (d x:D) (st:St):Option (D×St):=
 match argTypes with
 |dT::_=>
  match P.cJ dT with
  |some (.slice e)=>(cB P e).bind fun s=>(rD st x).bind fun(m,ys)=>
   if ys.length≠m*s then none else
   match d with
   | .win k aG off len sz=>if sz≠s then none else(st.wr k aG off (ys.take (min m len*s))).map fun ai=>(.int .i64 (min m len:Nat),ai)
   | .nul=>some (.int .i64 0,st)
   |_=>none
  |_=>none
 |_=>none
def lW (argTypes:List TypeId) (d:D) (st:St):Option (D×St):=
 match argTypes with
 |dT::_=>
  match P.cJ dT with
  |some (.slice e)=>
   match d with
   | .nul=>some (.tup [],st)
   | .win k aG off len sz=>(dG P e).bind fun z=>if z.length=sz then(st.wr k aG off (fg len z)).map fun ai=>(.tup [],ai) else none
   |_=>none
  |_=>none
 |_=>none
def uq (pN:Bool):D→D→Option D
 | .int k x,.int _ y=>some (.int k (if pN then(if y<x then y else x) else(if y>x then y else x)))
 |_,_=>none
def pS (f:D→D→Option D):D→List D→Option D
 |x,[]=>some x
 |x,y::l=>(f x y).bind fun z=>pS f z l
def bR (b:Builtin) (argTypes:List TypeId) (args:List D) (st:St):Option (D×St):=
 match b,args with
 | .len,[x]=>match argTypes with
  |t::_=>match P.cJ t with
   |some .string=>match x with
    | .str s=>some (.int .i64 s.length,st)
    |_=>none
   |some (.slice _)=>match x with
    | .str _=>none
    |x=>match xP x with
     |some n=>some (.int .i64 (Int.ofNat n),st)
     |none=>none
   |some (.array n _)=>some (.int .i64 n,st)
   |_=>none
  |_=>none
 | .append,[s,x]=>iO P argTypes s x st
 | .copy,[d,x]=>uU P argTypes d x st
 | .clear,[d]=>lW P argTypes d st
 | .min,x::l=>(pS (uq true) x l).map fun d=>(d,st)
 | .max,x::l=>(pS (uq false) x l).map fun d=>(d,st)
 |_,_=>none
def gZ (t:TypeId) (l c:D) (st:St):Option (D×St):=
 match P.cJ t,l,c with
 |some (.slice e),.int _ l,.int _ c=>(P.info e).bind fun i=>(dG P e).bind fun z=>
   if z.length=i.size∧0≤l∧l≤c∧c≤9223372036854775807∧c*(i.bytes:Int)≤140737488355328 then
    some (.win st.bs.length 0 0 l.toNat i.size,st.push (.mem 0 true (fg l.toNat z)))
   else none
 |_,_,_=>none
def lX (x:D) (y:Nat):Option Nat:=
 match x with
 | .int _ i=>if 0≤i∧i≤(y:Int) then some i.toNat else none
 |_=>none
def jY (y aal:Nat):Option D→Option Nat
 |some v=>lX v y
 |none=>some aal
def dw (len:Nat) (lo hi:Option D):Option (Nat×Nat):=
 (jY len len hi).bind fun h=>(jY h 0 lo).map fun l=>(l,h)
def sD (s:Nat) (es:List D):Bool:=
 match es.head? with
 |none=>true
 |some e=>match e.cells? with
  |some cs=>cs.length==s
  |none=>false
def gT (t:TypeId) (x:D) (lo hi:Option D) (st:St):Option D:=
 match P.cJ t,x with
 |some .string,.str s=>(dw s.length lo hi).map fun(l,h)=>.str ((s.take h).drop l)
 |some (.slice e),.nul=>(cB P e).bind fun _=>(dw 0 lo hi).map fun _=>.nul
 |some (.slice e),.sl es=>(cB P e).bind fun s=>if sD s es then(dw es.length lo hi).map fun(l,h)=>.sl ((es.take h).drop l) else none
 |some (.slice e),.win k aG off len sz=>(cB P e).bind fun s=>if s=sz then(dw len lo hi).map fun(l,h)=>.win k aG (off+l*sz) (h-l) sz else none
 |some (.array n e),.ptr k aG off=>(cB P e).bind fun s=>(st.fk k aG).bind fun(_,c)=>
   if off+n*s≤c.length then(dw n lo hi).map fun(l,h)=>.win k aG (off+l*s) (h-l) s else none
 |_,_=>none
def e_ (t:TypeId) (x:D) (i:Nat):Option D:=
 match P.cJ t with
 |some (.struct fields)=>(fields[i]?).bind fun f=>if cB P f.type=some 0 then none else(cB P f.type).bind fun _=>
   match x with
   | .ptr k aG off=>some (.ptr k aG (off+f.offset))
   | .ep c=>some (.ep (c.drop f.offset))
   |_=>none
 |_=>none
def Ae (t:TypeId) (x:D) (i:Nat):Option D:=
 match P.cJ t,x with
 |some (.struct fields),.agg cs=>(fields[i]?).bind fun f=>pI P f.type cs f.offset
 |_,_=>none
def cm (t:TypeId) (x ix:D) (st:St):Option D:=
 match ix with
 | .int _ i=>
  match P.cJ t,x with
  |some (.array len e),.ptr k aG off=>(cB P e).bind fun s=>if 0≤i∧i<len then some (.ptr k aG (off+i.toNat*s)) else none
  |some (.array len e),.ep c=>(cB P e).bind fun s=>if 0≤i∧i<len then some (.ep (c.drop (i.toNat*s))) else none
  |some (.slice e),.sl es=>(cB P e).bind fun s=>if 0≤i then(es[i.toNat]?).bind fun d=>d.cells?.bind fun cs=>if cs.length=s then some (.ep cs) else none else none
  |some (.slice e),.win k aG off len sz=>(cB P e).bind fun s=>if s=sz∧0≤i∧i<len∧(st.fk k aG).isSome=true then some (.ptr k aG (off+i.toNat*sz)) else none
  |_,_=>none
 |_=>none
def su (t:TypeId) (x ix:D):Option D:=
 match ix with
 | .int _ i=>
  match P.cJ t,x with
  |some (.array len e),.agg cs=>(cB P e).bind fun s=>if 0≤i∧i<len then pI P e cs (i.toNat*s) else none
  |some .string,.str s=>if 0≤i then(s[i.toNat]?).map fun b=>.int .u8 b.toNat else none
  |_,_=>none
 |_=>none
def gy (kk:IntKind) (n:Int):List (D×D)→Nat→Option (Option (Nat×D))
 |[],_=>some none
 |(.int k' m,v)::l,i=>if kk=k' then(if n==m then some (some (i,v)) else gy kk n l (i+1)) else none
 |_::_,_=>none
def nL (t:TypeId) (r:Option D) (st:St):Option (D×St):=
 match r with
 |none=>some (.mp st.bs.length,st.push (.map []))
 |some (.int _ _)=>match P.cJ t with
  |some (.map _ _)=>some (.mp st.bs.length,st.push (.map []))
  |_=>none
 |_=>none
def jt (t:TypeId) (m key v:D) (st:St):Option St:=
 match P.cJ t,m,key,v with
 |some (.map kt _),.mp k,.int kk n,.int vk x=>match P.cJ kt,st.bs[k]? with
  |some (.int _),some (.map es)=>match st.jn k 0 with
   |true=>match gy kk n es 0 with
    |some (some (i,_))=>some {st with bs:=st.bs.set k (.map (es.set i (.int kk n,.int vk x)))}
    |some none=>some {st with bs:=st.bs.set k (.map (es++[(.int kk n,.int vk x)]))}
    |none=>none
   |false=>none
  |_,_=>none
 |_,_,_,_=>none
def nM (t:TypeId) (m key:D) (st:St):Option D:=
 match P.cJ t,m,key with
 |some (.map kt e),.mp k,.int kk n=>match P.cJ kt,st.bs[k]? with
  |some (.int _),some (.map es)=>match gy kk n es 0 with
   |some (some (_,v))=>some v
   |some none=>tQ P e
   |none=>none
  |_,_=>none
 |_,_,_=>none
def vq (t:TypeId) (x:D) (st:St):Option (D×St):=
 match P.cJ t,x with
 |some .string,.str s=>some (.ptr st.bs.length 0 0,st.push (.iter s 0))
 |_,_=>none
def ui (x:D) (isString:Bool) (st:St):Option (D×St):=
 match x,isString with
 | .ptr k 0 0,true=>
  match st.bs[k]? with
  |some (.iter s pos)=>
   if pos<s.length then
    if st.jn k 0 then
     let r:=Utf8.decode ⟨s.toArray⟩ pos
     some (.tup [.bool true,.int .i64 pos,.int .i32 r.1],{st with bs:=st.bs.set k (.iter s (pos+r.2))})
    else none
   else some (.tup [.bool false],st)
  |_=>none
 |_,_=>none
def ef (fr:Fr) (st:St) (op:Op) (aaE:TypeId):Option (D×St):=
 match op with
 | .move x| .assign x=>some (fr.ev x,st)
 | .pick c a b=>match fr.ev c with
  | .bool true=>some (fr.ev a,st)
  | .bool false=>some (fr.ev b,st)
  |_=>none
 | .alloc e=>(dG P e).map fun cs=>(.ptr st.bs.length 0 0,st.push (.mem 0 false cs))
 | .box _ x=>(fr.ev x).cells?.map fun cs=>(.ptr st.bs.length 0 0,st.push (.mem 0 false cs))
 | .build t parts=>(po P t (parts.toList.map fun p=>(p.1,fr.ev p.2))).map fun d=>(d,st)
 | .buildSlice t len parts=>ij P t len (parts.toList.map fun p=>(p.1,fr.ev p.2)) st
 | .load t a=>(gO P t (fr.ev a) st).map fun d=>(d,st)
 | .store t a x=>(lu P t (fr.ev a) (fr.ev x) st).map fun ai=>(.tup [],ai)
 | .nilCheck x=>match fr.ev x with
  | .ptr k v o=>some (.ptr k v o,st)
  | .ep c=>some (.ep c,st)
  | .fn f c=>some (.fn f c,st)
  |_=>none
 | .binOp op t x y _=>(lb P op t (fr.ev x) (fr.ev y)).map fun d=>(d,st)
 | .unOp op _ x=>(Xe op (fr.ev x)).map fun d=>(d,st)
 | .convert s d x=>yD P s d (fr.ev x) st
 | .makeFunc (.func f) first captured=>if first.isEmpty then some (.fn f (captured.toList.map fr.ev),st) else none
 | .makeSlice t l c=>gZ P t (fr.ev l) (fr.ev c) st
 | .slice t x lo hi none=>(gT P t (fr.ev x) (lo.map fr.ev) (hi.map fr.ev) st).map fun d=>(d,st)
 | .fieldAddr t x f=>(e_ P t (fr.ev x) f).map fun d=>(d,st)
 | .field t x f=>(Ae P t (fr.ev x) f).map fun d=>(d,st)
 | .indexAddr t x i=>(cm P t (fr.ev x) (fr.ev i) st).map fun d=>(d,st)
 | .index t x i=>(su P t (fr.ev x) (fr.ev i)).map fun d=>(d,st)
 | .range t x=>vq P t (fr.ev x) st
 | .makeMap t r=>nL P t (r.map fr.ev) st
 | .insert t m k x=>(jt P t (fr.ev m) (fr.ev k) (fr.ev x) st).map fun ai=>(.tup [],ai)
 | .mapUpdate t m k x=>(jt P t (fr.ev m) (fr.ev k) (fr.ev x) st).map fun ai=>(.tup [],ai)
 | .lookup t x i false=>(nM P t (fr.ev x) (fr.ev i) st).map fun d=>(d,st)
 | .next it s=>ui (fr.ev it) s st
 | .extract t i=>match fr.ev t with
  | .tup ds=>(ds[i]?).map fun d=>(d,st)
  |_=>none
 | .call ⟨.builtin b,args,argTypes⟩=>bR P b argTypes.toList (args.toList.map fr.ev) st
 |_=>none
end
section
variable(P:Pv) (cf:eS)
def fv (fr:Fr) (st:St) (o:Oper):Option (D×St):=
 match o.op with
 | .call ⟨.value f,args,_⟩=>match fr.ev f with
  | .fn g jL=>cf g (args.toList.map fr.ev++jL) st
  |_=>none
 |op=>ef P fr st op o.type
def aH (ops:Array Oper) (fr:Fr) (o:Oper):Option Bool:=
 match o.guard with
 |none=>some true
 |some (j,want)=>match(ops[j]?).bind (·.dst) with
  |none=>none
  |some t=>match fr.get t with
   | .bool b=>some (b==want)
   | .tup _=>some false
   |_=>none
def jk (ops:Array Oper):List Oper→Fr→St→Option (Fr×St)
 |[],fr,st=>some (fr,st)
 |o::rest,fr,st=>
  match aH ops fr o with
  |some true=>match fv P cf fr st o with
   |some (d,ai)=>jk ops rest (fr.aj o.dst d) ai
   |none=>none
  |some false=>jk ops rest (fr.aj o.dst (.tup [])) st
  |none=>none
mutual
def fH:D→D→Bool
 | .bool a,.bool b=>a==b
 | .int k n,.int k' m=>decide (k=k') &&n==m
 | .str s,.str t=>s==t
 | .nul,.nul=>true
 | .pnil,.pnil=>true
 | .nilfn,.nilfn=>true
 | .nilif,.nilif=>true
 | .bD,.bD=>true
 | .sl a,.sl b=>jf a b
 | .agg a,.agg b=>jf a b
 | .tup a,.tup b=>jf a b
 | .ep a,.ep b=>jf a b
 | .win k v o l s,.win k' v' o' l' s'=>χ k k' &&χ v v' &&χ o o' &&χ l l' &&χ s s'
 | .ptr k v o,.ptr k' v' o'=>χ k k' &&χ v v' &&χ o o'
 | .mp k,.mp k'=>χ k k'
 | .fn f a,.fn g b=>χ f g &&jf a b
 |_,_=>false
def jf:List D→List D→Bool
 |[],[]=>true
 |a::l,b::m=>fH a b &&jf l m
 |_,_=>false
end
def tf:iI→iI→Bool
 | .mem v a c,.mem v' a' c'=>χ v v' &&(a==a') &&jf c c'
 | .iter s p,.iter s' p'=>s==s' &&χ p p'
 | .dead,.dead=>true
 |_,_=>false
def D.na:D→Option Nat
 | .win k _ _ _ _=>some k
 | .ptr k _ _=>some k
 |_=>none
def ia:Op→Option Operand
 | .load _ a=>some a
 | .indexAddr _ x _=>some x
 |_=>none
def oB (k:Option Nat) (a b:St):Bool:=
 match k with
 |none=>true
 |some k=>match a.bs[k]?,b.bs[k]? with
  |some x,some y=>tf x y
  |_,_=>false
def mN (k:Option Nat) (a b:St):Bool:=
 match k with
 |none=>true
 |some k=>match χ a.bs.length b.bs.length with
  |true=>true
  |false=>match a.bs[k]? with
   |some (.mem _ _ c)=>QJ (refs c) a.bs.length
   |_=>false
def iW (x:Oper) (fi:Fr) (si qN:St) (y:Oper) (fj:Fr) (sj FX:St):Bool:=
 match ia y.op with
 |some a=>oB (fj.ev a).na si qN
 |none=>match ia x.op with
  |some a=>oB (fi.ev a).na sj FX &&mN (fi.ev a).na si FX
  |none=>false
abbrev Log:=List (Oper×Fr×St×St)
def Fz (dy:List (Nat×Nat)) (j:Nat) (log:Log) (o:Oper) (fr:Fr) (st ai:St):Bool:=
 dy.all fun p=>match χ p.2 j &&Nat.blt p.1 j with
  |true=>match log[j-1-p.1]? with
   |some (x,fi,si,qN)=>iW x fi si qN o fr st ai
   |none=>false
  |false=>true
def pY (ops:Array Oper) (dy:List (Nat×Nat)):Nat→Log→List Oper→Fr→St→Option (Fr×St)
 |_,_,[],fr,st=>some (fr,st)
 |j,log,o::rest,fr,st=>
  match aH ops fr o with
  |some true=>match fv P cf fr st o with
   |some (d,ai)=>match Fz dy j log o fr st ai with
    |true=>pY ops dy (j+1) ((o,fr,st,ai)::log) rest (fr.aj o.dst d) ai
    |false=>none
   |none=>none
  |some false=>pY ops dy (j+1) ((o,fr,st,st)::log) rest (fr.aj o.dst (.tup [])) st
  |none=>none
def xj (ops:Array Oper) (dy:List (Nat×Nat)) (fr:Fr) (st:St):Option (Fr×St):=
 match dy with
 |[]=>jk P cf ops ops.toList fr st
 |_=>pY P cf ops dy 0 [] ops.toList fr st
def g_ (id:Nat):List (Nat×List (Nat×Nat))→List (Nat×Nat)
 |[]=>[]
 |(i,l)::r=>match χ i id with
  |true=>l
  |false=>g_ id r
inductive Out where
 |next
 |exit (id:Nat)
 |ret
def iter (step:Fr→St→Option (Out×Fr×St)):Nat→Fr→St→Option (Out×Fr×St)
 |0,_,_=>none
 |n+1,fr,st=>match step fr.clean st with
  |some (.next,aM,ai)=>iter step n aM ai
  |r=>r
def cp (dy:List (Nat×List (Nat×Nat))) (n:Nat):Code→Fr→St→Option (Out×Fr×St)
 | .skip,fr,st=>some (.next,fr,st)
 | .region id ops _,fr,st=>match xj P cf ops (g_ id dy) fr.clean st with
  |some (aM,ai)=>some (.next,aM,ai)
  |none=>none
 | .seq a b,fr,st=>match cp dy n a fr st with
  |some (.next,aM,ai)=>cp dy n b aM ai
  |r=>r
 | .cond c a b,fr,st=>match fr.ev c with
  | .bool true=>cp dy n a fr st
  | .bool false=>cp dy n b fr st
  |_=>none
 | .block id c,fr,st=>match cp dy n c fr st with
  |some (.exit i,aM,ai)=>if i=id then some (.next,aM,ai) else some (.exit i,aM,ai)
  |r=>r
 | .loop c,fr,st=>iter (cp dy n c) n fr st
 | .exit id,fr,st=>some (.exit id,fr,st)
 | .ret,fr,st=>some (.ret,fr,st)
 |_,_,_=>none
def kz (fr:Fr) (st:St):List ResultVar→Option (List D)
 |[]=>some []
 | .tmp t::l=>(kz fr st l).map fun ds=>fr.get t::ds
 | .cell a t::l=>(gO P t (fr.get a) st).bind fun d=>(kz fr st l).map fun ds=>d::ds
def tC:List D→D
 |[d]=>d
 |ds=>.tup ds
end
def chunk (s:Nat):Nat→List D→List D
 |0,_=>[]
 |n+1,c=>(match s with|1=>c.headD .bD|_=>.agg (c.take s))::chunk s n (c.drop s)
def fN (f:D→Option D):List D→Option (List D)
 |[]=>some []
 |d::ds=>match f d with
  |some x=>match fN f ds with
   |some xs=>some (x::xs)
   |none=>none
  |none=>none
def fu (st:St) (N:Nat):Nat→D→Option D
 |0,_=>none
 |n+1,d=>match d with
  | .bool b=>some (.bool b)
  | .int k i=>some (.int k i)
  | .str s=>some (.str s)
  | .nul=>some (.sl [])
  | .sl es=>some (.sl es)
  | .pnil=>some .pnil
  | .nilfn=>some .nilfn
  | .nilif=>some .nilif
  | .win k aG off len s=>if k<N then none else(st.fk k aG).bind fun(_,c)=>if off+len*s≤c.length then(fN (fu st N n) ((c.drop off).take (len*s))).map fun cs=>.sl (chunk s len cs) else none
  | .agg cs=>(fN (fu st N n) cs).map .agg
  |_=>none
def bn (st:St) (N:Nat) (kn:Bool):Nat→D→Option D
 |0,_=>none
 |n+1,d=>match d with
  | .win k aG off len s=>if k<N then some (.win k aG off len s) else fu st N n (.win k aG off len s)
  | .ptr k aG off=>if k<N then some (.ptr k aG off) else none
  | .mp k=>if k<N then some (.mp k) else none
  | .nul=>some (if kn then .nul else .sl [])
  | .agg cs=>(fN (bn st N kn n) cs).map .agg
  | .tup ds=>(fN (bn st N kn n) ds).map .tup
  | .fn f jL=>if refs jL≤N then some (.fn f jL) else none
  |d=>some d
def pad (n:Nat) (args:List D):Fr:=⟨n,args++Jz (n-args.length) (.tup []),[]⟩
def ah (m:Mode) (st:St):St:=
 match m with
 | .ro=>{st with flr:=st.bs.length,ro:=st.bs.length}
 | .rw=>{st with flr:=st.bs.length}
 | .bd=>st
 | .nw=>{st with ro:=st.bs.length}
def c_ (m:Mode) (kn:Bool) (st st1:St) (d:D):Option (D×St):=
 match m with
 | .bd=>some (d,st1)
 | .nw=>some (d,⟨st1.bs,st.flr,st.ro⟩)
 |_=>match bn st1 st.bs.length kn 16 d with
  |some d'=>some (d',⟨st1.bs.take st.bs.length,st.flr,st.ro⟩)
  |none=>none
def yL (P:Pv) (cf:eS) (n:Nat) (x:Fi) (body:Code) (args:List D) (st:St):Option (D×St):=
 match cp P cf x.dyn n body (pad x.nloc args) (ah x.mode st) with
 |some (.exit _,_,_)=>none
 |some (_,fr,st1)=>match kz P fr st1 x.fn.results.toList with
  |some ds=>c_ x.mode x.knul st st1 (tC ds)
  |none=>none
 |none=>none
def c9 (P:Pv):Nat→eS
 |0=>fun _ _ _=>none
 |n+1=>fun f args st=>
  match lK f P.prm with
  |some p=>p args st
  |none=>match P.fi f with
   |some x=>match x.jj with
    |some p=>p args st
    |none=>match x.fn.body with
     |some body=>yL P (c9 P n) n x body args st
     |none=>none
   |none=>none
mutual
theorem re:∀(a b:D),fH a b=true→a=b
 | .bool a,b,h=>by cases b<;>simp[fH] at h;rw[h]
 | .int k n,b,h=>by cases b<;>simp[fH] at h;rw[h.1,h.2]
 | .str s,b,h=>by cases b<;>simp[fH] at h;rw[h]
 | .nul,b,h=>by cases b<;>simp[fH] at h;rfl
 | .pnil,b,h=>by cases b<;>simp[fH] at h;rfl
 | .nilfn,b,h=>by cases b<;>simp[fH] at h;rfl
 | .nilif,b,h=>by cases b<;>simp[fH] at h;rfl
 | .bD,b,h=>by cases b<;>simp[fH] at h;rfl
 | .sl a,b,h=>by cases b<;>simp[fH] at h;rw[gG _ _ h]
 | .agg a,b,h=>by cases b<;>simp[fH] at h;rw[gG _ _ h]
 | .tup a,b,h=>by cases b<;>simp[fH] at h;rw[gG _ _ h]
 | .ep a,b,h=>by cases b<;>simp[fH] at h;rw[gG _ _ h]
 | .win ..,b,h=>by cases b<;>simp[fH] at h;rw[h.1.1.1.1,h.1.1.1.2,h.1.1.2,h.1.2,h.2]
 | .ptr ..,b,h=>by cases b<;>simp[fH] at h;rw[h.1.1,h.1.2,h.2]
 | .mp ..,b,h=>by cases b<;>simp[fH] at h;rw[h]
 | .fn f a,b,h=>by cases b<;>simp[fH] at h;rw[h.1,gG _ _ h.2]
theorem gG:∀(a b:List D),jf a b=true→a=b
 |[],b,h=>by cases b<;>simp[jf] at h;rfl
 |a::l,b,h=>by
  cases b with
  |nil=>simp[jf] at h
  |cons b m=>
   simp only[jf,J6] at h;rw[re a b h.1,gG l m h.2]
end
mutual
theorem C4:∀(a:D),fH a a=true
 | .bool a=>by simp[fH]
 | .int k n=>by simp[fH]
 | .str s=>by simp[fH]
 | .nul=>rfl
 | .pnil=>rfl
 | .nilfn=>rfl
 | .nilif=>rfl
 | .bD=>rfl
 | .sl a=>by simp only[fH];exact gd a
 | .agg a=>by simp only[fH];exact gd a
 | .tup a=>by simp only[fH];exact gd a
 | .ep a=>by simp only[fH];exact gd a
 | .win ..=>by simp[fH]
 | .ptr ..=>by simp[fH]
 | .mp ..=>by simp[fH]
 | .fn f a=>by simp only[fH];rw[gd a];simp
theorem gd:∀(a:List D),jf a a=true
 |[]=>rfl
 |a::l=>by simp only[jf];rw[C4 a,gd l];rfl
end
theorem u_ {a b:iI} (h:tf a b=true):a=b:=by
 cases a<;>cases b<;>simp[tf] at h<;>try rfl
 ·rw[h.1.1,h.1.2,gG _ _ h.2]
 ·rw[h.1,h.2]
variable{a b:St}{k:Nat}
theorem tU (h:oB (some k) a b=true):b.bs[k]?=a.bs[k]?:=by
 unfold oB at h;simp only at h
 split at h
 ·rename_i x y h1 h2;rw[h1,h2,u_ h]
 ·cases h
theorem oA {v:Nat} {ar:Bool} {c:List D} (h:a.bs[k]?=some (.mem v ar c)) (h':b.bs[k]?=some (.mem v ar c)):oB (some k) a b=true:=by
 unfold oB;simp only[h,h',tf,gd];simp
end Go.V
namespace Go.V
open Go.RowKit
structure X where
 aG:Nat→Option Nat
 β:Nat→Option (Nat×Nat)
 Z:Nat→Prop
def db:iI→Option Nat
 | .mem v _ _=>some v
 | .iter _ _=>some 0
 | .map _=>some 0
 |_=>none
def St.aG (st:St) (k:Nat):Option Nat:=(st.bs[k]?).bind db
def St.x (st:St) (β:Nat→Option (Nat×Nat)) (Z:Nat→Prop):X:=⟨st.aG,β,Z⟩
def cK (w:World) (b:Nat):Option Nat:=
 match w.heap[b]? with
 |some (.cells c _ _)=>some c.size
 |_=>none
inductive IR (w:World) (Z:Nat→Prop):D→Value→Prop where
 |bool (b:Bool):IR w Z (.bool b) (.bool b)
 |int (k:IntKind) (n:Int):IR w Z (.int k n) (.int k n)
 |str (s:List UInt8):IR w Z (.str s) (.string ⟨s.toArray⟩)
 |nul:IR w Z .nul (.slice none 0 0)
 |pnil:IR w Z .pnil (.pointer none)
 |nilfn:IR w Z .nilfn .nilFunc
 |nilif:IR w Z .nilif .nilIface
 |emp (a:Option Addr) (cap:Nat):IR w Z (.sl []) (.slice a 0 cap)
 |sl (es:List D) (b off cap s:Nat) (f:Nat→Nat→Value) (hz:Z b) (hc:es.length≤cap)
   (hs:∀(i:Nat) e,es[i]?=some e→e.cells?=some e.cells∧e.cells.length=s)
   (hv:∀(i:Nat) e (j:Nat) c,es[i]?=some e→e.cells[j]?=some c→w.cell? ⟨b,off+(i*s+j),none⟩=some (f i j)∧(f i j).oneCell'=true)
   (hr:∀(i:Nat) e (j:Nat) c,es[i]?=some e→e.cells[j]?=some c→IR w Z c (f i j)):IR w Z (.sl es) (.slice (some ⟨b,off,none⟩) es.length cap)
 |ep (cs:List D) (b off:Nat) (f:Nat→Value) (hz:Z b)
   (hv:∀(j:Nat) c,cs[j]?=some c→w.cell? ⟨b,off+j,none⟩=some (f j)∧(f j).oneCell'=true)
   (hr:∀(j:Nat) c,cs[j]?=some c→IR w Z c (f j)):IR w Z (.ep cs) (.pointer (some ⟨b,off,none⟩))
 |agg (cs:List D) (vs:List Value) (hl:cs.length=vs.length) (h1:∀v∈vs,v.oneCell'=true)
   (hr:∀(i:Nat) c v,cs[i]?=some c→vs[i]?=some v→IR w Z c v):IR w Z (.agg cs) (.agg vs.toArray)
 |tup (cs:List D) (vs:List Value) (hl:cs.length=vs.length)
   (hr:∀(i:Nat) c v,cs[i]?=some c→vs[i]?=some v→IR w Z c v):IR w Z (.tup cs) (.tuple vs.toArray)
 |bD (v:Value):IR w Z .bD v
inductive VR (w:World) (x:X):D→Value→Prop where
 |im (d:D) (v:Value) (h:IR w x.Z d v):VR w x d v
 |win (k vr off len s:Nat) (a:Addr) (cap:Nat) (hc:len≤cap) (hk:∃p,x.β k=some p) (hm:∀c,x.aG k=some c→vr≤c)
   (h:x.aG k=some vr→∃b base sz,x.β k=some (b,base)∧cK w b=some sz∧(cap=0∨(a=⟨b,base+off,none⟩∧base+off+cap*s≤sz))):
   VR w x (.win k vr off len s) (.slice (some a) len cap)
 |ptr (k vr off:Nat) (a:Addr) (hk:∃p,x.β k=some p) (hm:∀c,x.aG k=some c→vr≤c)
   (h:x.aG k=some vr→∃b base,x.β k=some (b,base)∧a=⟨b,base+off,none⟩):VR w x (.ptr k vr off) (.pointer (some a))
 |mp (k r:Nat) (hk:∃p,x.β k=some p) (h:x.aG k=some 0→∃base,x.β k=some (r,base)):VR w x (.mp k) (.map (some r))
 |fn (f:Nat) (cs:List D) (vs:List Value) (hl:cs.length=vs.length)
   (hr:∀(i:Nat) c v,cs[i]?=some c→vs[i]?=some v→VR w x c v):VR w x (.fn f cs) (.func (.func f) #[] vs.toArray)
 |agg (cs:List D) (vs:List Value) (hl:cs.length=vs.length) (h1:∀v∈vs,v.oneCell'=true)
   (hr:∀(i:Nat) c v,cs[i]?=some c→vs[i]?=some v→VR w x c v):VR w x (.agg cs) (.agg vs.toArray)
 |tup (cs:List D) (vs:List Value) (hl:cs.length=vs.length)
   (hr:∀(i:Nat) c v,cs[i]?=some c→vs[i]?=some v→VR w x c v):VR w x (.tup cs) (.tuple vs.toArray)
variable{w w' w1 w2 w3:World}{d:D}{v:Value}{x':X}{M M':Nat→Prop}
theorem yH {b o:Nat} (h:w'.heap[b]?=w.heap[b]?):w'.cell? ⟨b,o,none⟩=w.cell? ⟨b,o,none⟩:=by
 simp only[World.cell?,h]
theorem IR.mono {Z Z':Nat→Prop} (hz:∀b,Z b→Z' b∧w'.heap[b]?=w.heap[b]?) (h:IR w Z d v):IR w' Z' d v:=by
 induction h with
 |bool b=>exact .bool b
 |int k n=>exact .int k n
 |str s=>exact .str s
 |nul=>exact .nul
 |pnil=>exact .pnil
 |nilfn=>exact .nilfn
 |nilif=>exact .nilif
 |emp a cap=>exact .emp a cap
 |sl es b off cap s f hb hc hs hv hr ih=>
  exact .sl es b off cap s f (hz b hb).1 hc hs (fun i e j c he hj=>by rw[yH (hz b hb).2];exact hv i e j c he hj) ih
 |ep cs b off f hb hv hr ih=>exact .ep cs b off f (hz b hb).1 (fun j c hj=>by rw[yH (hz b hb).2];exact hv j c hj) ih
 |agg cs vs hl h1 hr ih=>exact .agg cs vs hl h1 ih
 |tup cs vs hl hr ih=>exact .tup cs vs hl ih
 |bD v=>exact .bD v
structure dK (w:World) (x:X) (w':World) (x':X):Prop where
 dm:∀k p,x.β k=some p→∃p',x'.β k=some p'
 z:∀b,x.Z b→x'.Z b∧w'.heap[b]?=w.heap[b]?
 aG:∀k c p,x.β k=some p→x'.aG k=some c→∃o,x.aG k=some o∧o≤c
 at_:∀k c,x'.aG k=some c→x.aG k=some c→∀b base,x.β k=some (b,base)→x'.β k=some (b,base)∧cK w' b=cK w b
theorem dK.refl (w:World) (x:X):dK w x w x:=
 ⟨fun _ p h=>⟨p,h⟩,fun _ h=>⟨h,rfl⟩,fun _ c _ _ h=>⟨c,h,η _⟩,fun _ _ _ _ _ _ h=>⟨h,rfl⟩⟩
theorem dK.trans {x1 x2 x3:X} (h:dK w1 x1 w2 x2) (g:dK w2 x2 w3 x3):dK w1 x1 w3 x3 where
 dm k p hp:=by obtain⟨p',vW⟩:=h.dm k p hp;exact g.dm k p' vW
 z b hb:=⟨(g.z b (h.z b hb).1).1,((g.z b (h.z b hb).1).2).trans (h.z b hb).2⟩
 aG k c p hk hc:=by
  obtain⟨p',vW⟩:=h.dm k p hk;obtain⟨o,ho,hle⟩:=g.aG k c p' vW hc;obtain⟨q,hq,EX⟩:=h.aG k o p hk ho;exact⟨q,hq,Φ EX hle⟩
 at_ k c h3 h1 b base hb:=by
  obtain⟨p',vW⟩:=h.dm k _ hb;obtain⟨o,ho,hle⟩:=g.aG k c p' vW h3;obtain⟨p,hp,EX⟩:=h.aG k o _ hb ho;rw[h1] at hp;cases hp;have:o=c:=QI hle EX;subst this;obtain⟨hb2,Uw⟩:=h.at_ k _ ho h1 b base hb;obtain⟨Vl,hs3⟩:=g.at_ k _ h3 ho b base hb2;exact⟨Vl,hs3.trans Uw⟩
theorem VR.mono {x:X} (hk:dK w x w' x') (h:VR w x d v):VR w' x' d v:=by
 induction h with
 |im d v h=>exact .im d v (h.mono hk.z)
 |win k vr off len s a cap hc hkn hm h=>
  obtain⟨p,hp⟩:=hkn;refine .win k vr off len s a cap hc (hk.dm k p hp) ?_ ?_
  ·intro c Ve;obtain⟨o,ho,hle⟩:=hk.aG k c p hp Ve;exact Φ (hm o ho) hle
  ·intro hv;obtain⟨o,ho,hle⟩:=hk.aG k vr p hp hv;have:o=vr:=QI hle (hm o ho);subst this;obtain⟨b,base,sz,hb,hs,hr⟩:=h ho;obtain⟨eF,mh⟩:=hk.at_ k _ hv ho b base hb;exact⟨b,base,sz,eF,mh.trans hs,hr⟩
 |ptr k vr off a hkn hm h=>
  obtain⟨p,hp⟩:=hkn;refine .ptr k vr off a (hk.dm k p hp) ?_ ?_
  ·intro c Ve;obtain⟨o,ho,hle⟩:=hk.aG k c p hp Ve;exact Φ (hm o ho) hle
  ·intro hv;obtain⟨o,ho,hle⟩:=hk.aG k vr p hp hv;have:o=vr:=QI hle (hm o ho);subst this;obtain⟨b,base,hb,hr⟩:=h ho;exact⟨b,base,(hk.at_ k _ hv ho b base hb).1,hr⟩
 |mp k r hkn h=>
  obtain⟨p,hp⟩:=hkn;refine .mp k r (hk.dm k p hp) fun hv=>?_;obtain⟨o,ho,hle⟩:=hk.aG k 0 p hp hv;have:o=0:=by omega
  subst this;obtain⟨base,hb⟩:=h ho;exact⟨base,(hk.at_ k _ hv ho r base hb).1⟩
 |fn f cs vs hl hr ih=>exact .fn f cs vs hl ih
 |agg cs vs hl h1 hr ih=>exact .agg cs vs hl h1 ih
 |tup cs vs hl hr ih=>exact .tup cs vs hl ih
theorem VR.bD (w:World) (x:X) (v:Value):VR w x .bD v:=.im _ _ (.bD v)
def qH (n:Nat) (fr:Nat×Nat):Prop:=fr.1≤fr.2∧∀o,o<n→¬(fr.1≤o∧o<fr.2)
theorem qH.zero (n:Nat):qH n (0,0):=⟨η _,fun o _=>by omega⟩
def iH (w:World) (x:X) (b base:Nat):iI→Prop
 | .mem _ _ cells=>∃c el fr,w.heap[b]?=some (.cells c el fr)∧base+cells.length≤c.size∧qH c.size fr∧
   ∀(j:Nat) d,cells[j]?=some d→∃u,c[base+j]?=some u∧u.oneCell'=true∧VR w x d u
 | .iter s pos=>base=0∧w.heap[b]?=some (.stringIter ⟨s.toArray⟩ pos)
 | .map es=>base=0∧∃entries clock,w.heap[b]?=some (.map entries clock)∧entries.size=es.length∧∀(i:Nat) p,es[i]?=some p→∃kk n vk x e,p=(.int kk n,.int vk x)∧entries[i]?=some e∧e.key=.int kk n∧e.val=.int vk x
 | .dead=>False
structure gI (w:World) (st:St) (β:Nat→Option (Nat×Nat)) (Z:Nat→Prop):Prop where
 dom:∀k b base,β k=some (b,base)→k<st.bs.length
 lt:∀k b base,β k=some (b,base)→b<w.heap.size
 inj:∀k k' b x x',β k=some (b,x)→β k'=some (b,x')→k=k'
 zd:∀k b base,β k=some (b,base)→¬Z b
 zl:∀b,Z b→b<w.heap.size
 box:∀k b base bx,β k=some (b,base)→st.bs[k]?=some bx→iH w (st.x β Z) b base bx
 flr:st.flr≤st.bs.length
 ro:st.ro≤st.bs.length
structure BQ (M:Nat→Prop) (w w':World):Prop where
 os:w'.os=w.os
 tape:w'.tape=w.tape
 output:w'.output=w.output
 size:w.heap.size≤w'.heap.size
 block:∀b,b<w.heap.size→¬M b→w'.heap[b]?=w.heap[b]?
theorem BQ.refl (M:Nat→Prop) (w:World):BQ M w w:=⟨rfl,rfl,rfl,η _,fun _ _ _=>rfl⟩
theorem BQ.trans {M'':Nat→Prop} (h:BQ M w1 w2) (g:BQ M' w2 w3) (hM:∀b,M b→M'' b) (hM':∀b,b<w1.heap.size→M' b→M'' b):BQ M'' w1 w3:=
 ⟨g.os.trans h.os,g.tape.trans h.tape,g.output.trans h.output,Φ h.size g.size,fun b hb hn=>
  (g.block b (J3 hb h.size) fun hm=>hn (hM' b hb hm)).trans (h.block b hb fun hm=>hn (hM b hm))⟩
theorem BQ.mono (h:BQ M w w') (hM:∀b,M b→M' b):BQ M' w w':=
 ⟨h.os,h.tape,h.output,h.size,fun b hb hn=>h.block b hb fun hm=>hn (hM b hm)⟩
def wrt (st:St) (β:Nat→Option (Nat×Nat)) (b:Nat):Prop:=∃k base,β k=some (b,base)∧st.ro≤k
def oq (w:World) (x:X) (fr:Fr) (tmps:Array Value):Prop:=∀t,VR w x (fr.get t) (tmps.getD t undef)
theorem oq.mono {x:X} {fr:Fr} {tmps:Array Value} (h:oq w x fr tmps) (hk:dK w x w' x'):oq w' x' fr tmps:=fun t=>(h t).mono hk
structure Pv.Ok (pv:Pv) (P:Program):Prop where
 ty:∀t i,pv.info t=some i→P.info? t=some i
 fs:∀f x,pv.fi f=some x→x.jj=none→P.funcs[f]?=some x.fn∧∀b,x.fn.body=some b→x.fn.name≠ "runtime.NumGoroutine"
 eqb:∀t,pv.eqb.contains t=true→P.stoodInHeld t=false∧P.eqGuardType P.depth t=false
 mixed:P.follows .mixedOrders=true
section
variable{pv:Pv} {P:Program} (ok:pv.Ok P)
include ok
variable{t:Nat}
theorem yZ {d:TypeDesc} (h:pv.cJ t=some d):P.underlying t=some d:=by
 unfold Pv.cJ at h;unfold Program.underlying
 cases hi:pv.info t with
 |none=>simp[hi] at h
 |some i=>
  rw[ok.ty t i hi];simp only[hi] at h;obtain⟨desc,str,size,bytes,hp,al,fa,z,cmp,ms⟩:=i
  cases desc with
  |named nm u=>
   simp only at h
   cases hu:pv.info u with
   |none=>simp[hu] at h
   |some j=>rw[hu] at h;simp only[ok.ty u j hu];simpa using h
  |_=>simpa using h
theorem aN {d:TypeDesc} (h:pv.cJ t=some d) (w:World):(underlying t).run P w=.ok d w:=by
 simp[underlying,yZ ok h]
theorem nC {i:TypeInfo} (h:pv.info t=some i) (w:World):(typeInfo t).run P w=.ok i w:=by
 simp[typeInfo,ok.ty t i h]
theorem cg {n:Nat} (h:cB pv t=some n) (w:World):(sizeOf t).run P w=.ok n w:=by
 unfold cB at h
 cases hi:pv.info t with
 |none=>simp[hi] at h
 |some i=>simp only[hi,ο.injEq] at h;simp[sizeOf,nC ok hi,h]
omit ok in
theorem kj {i:TypeInfo} (h:pv.info t=some i):cB pv t=some i.size:=by simp[cB,h]
def sq (d:TypeDesc):Bool:=
 match d with
 | .struct _| .array _ _=>true
 |_=>false
theorem qQ {d:TypeDesc} (h:pv.cJ t=some d) (w:World):(isAgg t).run P w=.ok (sq d) w:=by
 simp only[isAgg,ε,aN ok h,δ];cases d<;>rfl
theorem xc {z:D} (h:tQ pv t=some z) (w:World):∃v,(zeroValue t).run P w=.ok v w∧z=kR v:=by
 unfold tQ at h
 cases hi:pv.info t with
 |none=>simp[hi] at h
 |some i=>
  rw[hi] at h
  cases hz:i.zero with
  |none=>simp[hz] at h
  |some v=>simp[hz] at h;exact⟨v,by simp[zeroValue,nC ok hi,hz],h.symm⟩
end
theorem LO (v:Value):Cg v=v.oneCell':=by cases v<;>rfl
theorem ue (w:World) (Z:Nat→Prop) (v:Value) (h:Cg v=true):IR w Z (rO v) v:=by
 cases v with
 |bool b=>exact .bool b
 |int k n=>exact .int k n
 |string s=>
  have:=IR.str (w:=w) (Z:=Z) s.data.toList
  simpa[rO] using this
 |pointer a=>cases a with
  |none=>exact .pnil
  |some a=>exact .bD _
 |slice a l c=>
  unfold rO
  split<;>first|contradiction|skip
  all_goals first|(rename_i h;cases h;exact .nul)|exact .bD _
 |nilFunc=>exact .nilfn
 |nilIface=>exact .nilif
 |_=>exact .bD _
theorem vz {l:List Value}:∀{r:List D},mf l=some r→r.length=l.length∧(∀v∈l,v.oneCell'=true)∧∀(w:World) (Z:Nat→Prop) (i:Nat) c v,r[i]?=some c→l[i]?=some v→IR w Z c v:=by
 induction l with
 |nil=>intro r h;simp[mf] at h;subst h;simp
 |cons v l ih=>
  intro r h;unfold mf at h
  cases h1:Cg v with
  |false=>simp[h1] at h
  |true=>
   simp only[h1] at h
   cases hr:mf l with
   |none=>simp[hr] at h
   |some r'=>
    simp only[hr,ο.injEq] at h;subst h;obtain⟨hl,ho,hi⟩:=ih hr;refine⟨by simp[hl],?_,?_⟩
    ·intro u hu
     rcases List.mem_cons.1 hu with rfl|hu
     ·rw[←LO];exact h1
     ·exact ho u hu
    ·intro w Z i c u hc hu
     cases i with
     |zero=>simp at hc hu;subst hc;subst hu;exact ue w Z _ h1
     |succ i=>simp at hc hu;exact hi w Z i c u hc hu
theorem rN (w:World) (Z:Nat→Prop) (v:Value):IR w Z (kR v) v:=by
 unfold kR
 split
 ·rename_i cs
  split
  ·rename_i l hl;obtain⟨h1,h2,h3⟩:=vz hl;have:=IR.agg (w:=w) (Z:=Z) l cs.toList h1 h2 (h3 w Z)
   simpa using this
  ·exact .bD _
 ·rename_i hn
  by_cases h:Cg v=true
  ·exact ue w Z v h
  ·cases v with
   |agg cs=>exact absurd rfl (hn cs)
   |tuple vs=>exact .bD _
   |_=>simp[Cg] at h
variable{w:World}{fr:Fr}{a:Act}
theorem uP {x:X} (h:oq w x fr a.tmps) (o:Operand):VR w x (fr.ev o) (a.eval o):=by
 cases o with
 |tmp t=>exact h t
 |const v=>exact .im _ _ (rN _ _ v)
 |global g=>exact .bD _ _ _
 |func f=>exact .fn f [] [] rfl (by simp)
theorem vA (d e:D):∀(l:List D) (t u:Nat),nth d (l.set t e) u=if u=t∧t<l.length then e else nth d l u
 |[],t,u=>by simp
 |x::l,0,u=>by cases u<;>simp[nth]
 |x::l,t+1,u=>by
  cases u with
  |zero=>simp[nth]
  |succ u=>simp only[List.set_cons_succ,nth,υ,Nat.add_lt_add_iff_right,Nat.add_right_cancel_iff];exact vA d e l t u
theorem A' (d:D):∀(l:List D) (t:Nat),l.length≤t→nth d l t=d
 |[],t,_=>by cases t<;>rfl
 |x::l,0,h=>by simp at h
 |x::l,t+1,h=>A' d l t (by simpa using h)
theorem BA (fr:Fr) (t u:Nat) (d:D):(fr.put t d).get u=(if u=t then(if QJ fr.n t=false∧fr.loc.length≤t then .bD else d) else fr.get u):=by
 unfold Fr.put
 by_cases hut:u=t
 ·subst hut;simp only[if_true]
  cases hb:QJ fr.n u with
  |false=>
   simp only[Fr.get,hb,vA,true_and]
   by_cases hl:u<fr.loc.length
   ·rw[if_pos hl,if_neg (by omega)]
   ·rw[if_neg hl,if_pos (by omega)];exact A' _ _ _ (by omega)
  |true=>simp[Fr.get,hb,look,Nat.beq_refl]
 ·simp only[hut,if_false]
  have hq:χ u t=false:=by
   cases hq:χ u t with
   |false=>rfl
   |true=>exact absurd (Nat.eq_of_beq_eq_true hq) hut
  cases hb:QJ fr.n t<;>cases hbu:QJ fr.n u<;>simp[Fr.get,hbu,look,hq,vA,hut]
theorem DX {x:X} {d:D} {v:Value} (h:oq w x fr a.tmps) (hd:VR w x d v) (dst:Option Nat) (hs:∀t,dst=some t→t<a.tmps.size):oq w x (fr.aj dst d) (a.put dst v).tmps:=by
 cases dst with
 |none=>exact h
 |some t=>
  intro u;have hu:=h u;have hs:=hs t rfl;simp only[Fr.aj,Act.put,BA]
  have Uz:(a.tmps.setIfInBounds t v).getD u undef=if u=t then v else a.tmps.getD u undef:=by
   simp only[Array.getD_eq_getD_getElem?,Array.getElem?_setIfInBounds]
   by_cases hut:t=u
   ·subst hut;simp[hs]
   ·have:¬u=t:=fun e=>hut e.symm;simp[hut,this]
  rw[Uz]
  by_cases hut:u=t
  ·simp only[hut,if_true]
   split
   ·exact .bD _ _ _
   ·exact hd
  ·simp only[hut,if_false];exact hu
end Go.V
namespace Go.V
open Go.RowKit
theorem iT (k:IntKind) (n:Int):cy k n=k.wrap n:=by
 unfold cy
 split
 ·rename_i m
  split
  ·rename_i h;have h:=Nat.le_of_ble_eq_true h;cases k<;>simp only[JQ,mz,Qb,QT] at*<;>simp<;>omega
  ·rfl
 ·rename_i m
  split
  ·rename_i h;have h:¬vE k≤m:=fun h'=>by rw[Qo h'] at h;cases h
   cases k<;>simp only[JQ,vE,Qb,QT] at*<;>simp<;>omega
  ·rfl
section
variable{w:World} {x:X}
variable{v:Value}{cs:List D}
theorem cO {k:IntKind} {n:Int} (h:VR w x (.int k n) v):v=.int k n:=by
 cases h with|im _ _ h=>cases h;rfl
theorem eN {b:Bool} (h:VR w x (.bool b) v):v=.bool b:=by
 cases h with|im _ _ h=>cases h;rfl
theorem fV {s:List UInt8} (h:VR w x (.str s) v):v=.string ⟨s.toArray⟩:=by
 cases h with|im _ _ h=>cases h;rfl
theorem eY (h:VR w x .nul v):v=.slice none 0 0:=by
 cases h with|im _ _ h=>cases h;rfl
theorem iJ (h:VR w x .pnil v):v=.pointer none:=by
 cases h with|im _ _ h=>cases h;rfl
theorem iu (h:VR w x (.agg cs) v):∃vs:List Value,v=.agg vs.toArray∧cs.length=vs.length∧(∀u∈vs,u.oneCell'=true)∧
  ∀(i:Nat) c u,cs[i]?=some c→vs[i]?=some u→VR w x c u:=by
 cases h with
 |im _ _ h=>cases h with|agg _ vs hl h1 hr=>exact⟨vs,rfl,hl,h1,fun i c u hc hu=>.im _ _ (hr i c u hc hu)⟩
 |agg _ vs hl h1 hr=>exact⟨vs,rfl,hl,h1,hr⟩
theorem vd (h:VR w x (.tup cs) v):∃vs:List Value,v=.tuple vs.toArray∧cs.length=vs.length∧
  ∀(i:Nat) c u,cs[i]?=some c→vs[i]?=some u→VR w x c u:=by
 cases h with
 |im _ _ h=>cases h with|tup _ vs hl hr=>exact⟨vs,rfl,hl,fun i c u hc hu=>.im _ _ (hr i c u hc hu)⟩
 |tup _ vs hl hr=>exact⟨vs,rfl,hl,hr⟩
theorem wN {f:Nat} (h:VR w x (.fn f cs) v):∃vs:List Value,v=.func (.func f) #[] vs.toArray∧cs.length=vs.length∧
  ∀(i:Nat) c u,cs[i]?=some c→vs[i]?=some u→VR w x c u:=by
 cases h with
 |im _ _ h=>cases h
 |fn _ _ vs hl hr=>exact⟨vs,rfl,hl,hr⟩
end
theorem pick {p:Nat→Value→Prop}:∀(n:Nat),(∀j,j<n→∃u,p j u)→∃us:List Value,us.length=n∧∀(j:Nat) u,us[j]?=some u→p j u
 |0,_=>⟨[],rfl,by simp⟩
 |n+1,h=>by
  obtain⟨us,hl,hp⟩:=pick n fun j hj=>h j (by omega);obtain⟨u,hu⟩:=h n (by omega);refine⟨us++[u],by simp[hl],fun j v hv=>?_⟩
  rcases Nat.lt_trichotomy j n with hj|hj|hj
  ·rw[ψ (by omega)] at hv;exact hp j v hv
  ·subst hj;rw[←hl] at hv;simp at hv;subst hv;exact hu
  ·rw[ν (by simp;omega)] at hv;cases hv
def cE (w:World) (x:X) (b o:Nat) (c:List D):Prop:=
 ∀(j:Nat) d,c[j]?=some d→∃u,w.cell? ⟨b,o+j,none⟩=some u∧u.oneCell'=true∧VR w x d u
variable{w:World}{b o:Nat}{c:List D}
theorem cE.drop {x:X} (h:cE w x b o c) (n:Nat):cE w x b (o+n) (c.drop n):=by
 intro j d hd;rw[Θ] at hd;have:=h (n+j) d hd
 rwa [show o+(n+j)=o+n+j by omega] at this
theorem cE.take {x:X} (h:cE w x b o c) (n:Nat):cE w x b o (c.take n):=by
 intro j d hd;rw[Ω] at hd
 split at hd
 ·exact h j d hd
 ·cases hd
theorem cE.list {x:X} (h:cE w x b o c):∃us:List Value,us.length=c.length∧
  (∀(j:Nat) u,us[j]?=some u→w.cell? ⟨b,o+j,none⟩=some u)∧(∀u∈us,u.oneCell'=true)∧∀(j:Nat) d u,c[j]?=some d→us[j]?=some u→VR w x d u:=by
 obtain⟨us,hl,hp⟩:=pick (p:=fun j u=>∃d,c[j]?=some d∧w.cell? ⟨b,o+j,none⟩=some u∧u.oneCell'=true∧VR w x d u) c.length fun j hj=>by
  obtain⟨u,hu⟩:=h j c[j] (π hj);exact⟨u,c[j],π hj,hu⟩
 refine⟨us,hl,fun j u hu=>?_,fun u hu=>?_,fun j d u hd hu=>?_⟩
 ·obtain⟨_,_,h,_⟩:=hp j u hu;exact h
 ·obtain⟨j,hj⟩:=QH hu;obtain⟨_,_,_,h,_⟩:=hp j u hj;exact h
 ·obtain⟨d',Bu,_,_,h⟩:=hp j u hu;rw[hd] at Bu;cases Bu;exact h
theorem pE {P:Program} {us:List Value} (h:∀(j:Nat) u,us[j]?=some u→w.cell? ⟨b,o+j,none⟩=some u):
  (loadCells ⟨b,o,none⟩ us.length).run P w=.ok us.toArray w:=by
 refine run_loadCells_list w ⟨b,o,none⟩ us fun j v hv=>?_;have:=h j v hv;unfold Addr.add
 split
 ·rename_i hj;subst hj;simpa using this
 ·exact this
section
variable{pv:Pv} {P:Program} (ok:pv.Ok P)
include ok
variable{w:World}{t:Nat}{d:D}
theorem qL {x:X} {b o:Nat} {c:List D} (hc:cE w x b o c) (h:dW pv t c=some d):
  ∃v,(loadVar t ⟨b,o,none⟩).run P w=.ok v w∧VR w x d v:=by
 unfold dW at h
 have agg:∀td,pv.cJ t=some td→sq td=true→(cB pv t).bind (fun n=>if n≤c.length then some (D.agg (c.take n)) else none)=some d→
   ∃v,(loadVar t ⟨b,o,none⟩).run P w=.ok v w∧VR w x d v:=by
  intro td hu ha h
  cases hs:cB pv t with
  |none=>simp[hs] at h
  |some n=>
   simp only[hs,QL] at h
   split at h
   ·rename_i hn;simp only[ο.injEq] at h;subst h;obtain⟨us,hl,h1,h2,h3⟩:=(hc.take n).list;have hln:us.length=n:=by simp[hl];omega
    refine⟨.agg us.toArray,?_,.agg _ us hl.symm h2 h3⟩;simp only[loadVar,ε,qQ ok hu,δ,ha,if_true,cg ok hs];have:=pE (P:=P) h1;rw[hln] at this;simp[this]
   ·cases h
 split at h
 ·cases h
 ·rename_i hu;exact agg _ hu rfl h
 ·rename_i hu;exact agg _ hu rfl h
 ·rename_i td h1 h2 hu
  have ha:sq td=false:=by
   cases td<;>first|rfl|(exfalso;first|exact h1 _ rfl|exact h2 _ _ rfl)
  cases c with
  |nil=>cases h
  |cons y l=>
   simp at h;subst h;obtain⟨u,jh,lh,o5⟩:=hc 0 y rfl;refine⟨u,?_,o5⟩;simp only[Qy] at jh;simp[loadVar,qQ ok hu,ha,jh]
theorem mc {x:X} {off:Nat} {cs:List D} {vs:List Value} (hl:cs.length=vs.length) (h1:∀u∈vs,u.oneCell'=true) (hr:∀(i:Nat) c u,cs[i]?=some c→vs[i]?=some u→VR w x c u) (h:pI pv t cs off=some d):
  ∃v,(part t vs.toArray off).run P w=.ok v w∧VR w x d v:=by
 unfold pI at h
 have agg:∀td,pv.cJ t=some td→sq td=true→(cB pv t).bind (fun n=>if off+n≤cs.length then some (D.agg ((cs.drop off).take n)) else none)=some d→
   ∃v,(part t vs.toArray off).run P w=.ok v w∧VR w x d v:=by
  intro td hu ha h
  cases hs:cB pv t with
  |none=>simp[hs] at h
  |some n=>
   simp only[hs,QL] at h
   split at h
   ·rename_i hn;simp only[ο.injEq] at h;subst h;refine⟨.agg ((vs.drop off).take n).toArray,?_,.agg _ _ (by simp[hl]) (fun u hu=>h1 u (List.mem_of_mem_drop (Qn hu))) ?_⟩
    ·simp only[part,ε,qQ ok hu,δ,ha,if_true,cg ok hs,μ]
     congr 2
     apply Jy;simp[Qc]
    ·intro i c u hc hu;rw[Ω] at hc hu
     split at hc
     ·rename_i hi;rw[if_pos hi] at hu;rw[Θ] at hc hu;exact hr _ c u hc hu
     ·cases hc
   ·cases h
 split at h
 ·cases h
 ·rename_i hu;exact agg _ hu rfl h
 ·rename_i hu;exact agg _ hu rfl h
 ·rename_i td Vu Zs hu
  have ha:sq td=false:=by
   cases td<;>first|rfl|(exfalso;first|exact Vu _ rfl|exact Zs _ _ rfl)
  have hlt:off<cs.length:=by
   rcases φ off cs.length with h'|h'
   ·exact h'
   ·rw[ν h'] at h;cases h
  obtain⟨u,hu'⟩:∃u,vs[off]?=some u:=⟨vs[off]'(by omega),π _⟩
  exact⟨u,by simp[part,qQ ok hu,ha,hu'],hr off d u h hu'⟩
end
end Go.V
namespace Go.V
open Go.RowKit
theorem vi (s t:List UInt8):((⟨s.toArray⟩:ByteArray).toList==(⟨t.toArray⟩:ByteArray).toList)=(s==t):=by
 rw[Qz,Qz]
variable{w:World}{k vr off:Nat}{v:Value}
theorem cz {x:X} (h:VR w x (.ptr k vr off) v):∃a,v=.pointer (some a)∧(∃p,x.β k=some p)∧
  (x.aG k=some vr→∃b base,x.β k=some (b,base)∧a=⟨b,base+off,none⟩):=by
 cases h with
 |im _ _ h=>cases h
 |ptr _ _ _ a hk hm h=>exact⟨a,rfl,hk,h⟩
theorem AK {x:X} (h:VR w x (.mp k) v):∃r,v=.map (some r)∧(x.aG k=some 0→∃base,x.β k=some (r,base)):=by
 cases h with
 |im _ _ h=>cases h
 |mp _ r hk h=>exact⟨r,rfl,h⟩
theorem eX {x:X} {len s:Nat} (h:VR w x (.win k vr off len s) v):∃a cap,v=.slice (some a) len cap∧len≤cap∧(∃p,x.β k=some p)∧
  (∀c,x.aG k=some c→vr≤c)∧
  (x.aG k=some vr→∃b base sz,x.β k=some (b,base)∧cK w b=some sz∧(cap=0∨(a=⟨b,base+off,none⟩∧base+off+cap*s≤sz))):=by
 cases h with
 |im _ _ h=>cases h
 |win _ _ _ _ _ a cap hc hk hm h=>exact⟨a,cap,rfl,hc,hk,hm,h⟩
theorem lq {x:X} {es:List D} (h:VR w x (.sl es) v):∃a cap,v=.slice a es.length cap∧es.length≤cap∧
  (es=[]∨∃b off s,a=some ⟨b,off,none⟩∧x.Z b∧(∀(i:Nat) e,es[i]?=some e→e.cells?=some e.cells∧e.cells.length=s)∧
   (∀(i:Nat) e,es[i]?=some e→cE w x b (off+i*s) e.cells)∧
   ∃f:Nat→Nat→Value,(∀(i:Nat) e (j:Nat) c,es[i]?=some e→e.cells[j]?=some c→w.cell? ⟨b,off+(i*s+j),none⟩=some (f i j)∧(f i j).oneCell'=true)∧
    ∀(i:Nat) e (j:Nat) c,es[i]?=some e→e.cells[j]?=some c→IR w x.Z c (f i j)):=by
 cases h with
 |im _ _ h=>
  cases h with
  |emp a cap=>exact⟨a,cap,rfl,by simp,.inl rfl⟩
  |sl _ b off cap s f hz hc hs hv hr=>
   refine⟨_,cap,rfl,hc,.inr ⟨b,off,s,rfl,hz,hs,?_,f,hv,hr⟩⟩;intro i e he j d hd;obtain⟨h1,h2⟩:=hv i e j d he hd;exact⟨f i j,by rw[←h1];congr 2;omega,h2,.im _ _ (hr i e j d he hd)⟩
theorem rj {x:X} {cs:List D} (h:VR w x (.ep cs) v):∃b off,v=.pointer (some ⟨b,off,none⟩)∧x.Z b∧cE w x b off cs∧
  ∃f:Nat→Value,(∀(j:Nat) c,cs[j]?=some c→w.cell? ⟨b,off+j,none⟩=some (f j)∧(f j).oneCell'=true)∧∀(j:Nat) c,cs[j]?=some c→IR w x.Z c (f j):=by
 cases h with
 |im _ _ h=>
  cases h with
  |ep _ b off f hz hv hr=>
   exact⟨b,off,rfl,hz,fun j d hd=>⟨f j,(hv j d hd).1,(hv j d hd).2,.im _ _ (hr j d hd)⟩,f,hv,hr⟩
section
variable{pv:Pv} {P:Program} (ok:pv.Ok P)
include ok
theorem Wx (n:Nat):(∀{w:World} {x:X} {t:Nat} {d e:D} {u v:Value} {b:Bool},VR w x d u→VR w x e v→M0 pv n t d e=some b→∀m,n≤m→(ω m t u v).run P w=.ok b w)∧
  (∀{w:World} {x:X} {xs ys:List D} {us vs:List Value} {fs:List Field} {b:Bool},xs.length=us.length→ys.length=vs.length→(∀u∈us,u.oneCell'=true)→(∀u∈vs,u.oneCell'=true)→
   (∀(i:Nat) c u,xs[i]?=some c→us[i]?=some u→VR w x c u)→(∀(i:Nat) c u,ys[i]?=some c→vs[i]?=some u→VR w x c u)→
   eqFields pv n xs ys fs=some b→∀m,n≤m→(Qt m us.toArray vs.toArray fs).run P w=.ok b w)∧
  (∀{w:World} {x:X} {t sz:Nat} {xs ys:List D} {us vs:List Value} {left i:Nat} {b:Bool},cB pv t=some sz→xs.length=us.length→ys.length=vs.length→(∀u∈us,u.oneCell'=true)→(∀u∈vs,u.oneCell'=true)→
   (∀(i:Nat) c u,xs[i]?=some c→us[i]?=some u→VR w x c u)→(∀(i:Nat) c u,ys[i]?=some c→vs[i]?=some u→VR w x c u)→
   mj pv n t sz xs ys left i=some b→∀m,n≤m→
   ((do
    for j in List.range' i left do
     if !(←ω m t (←part t us.toArray (j*sz)) (←part t vs.toArray (j*sz))) then return false
    pure true:Sem Bool)).run P w=.ok b w):=by
 induction n with
 |zero=>refine⟨?_,?_,?_⟩<;>intros<;>rename_i h _ _<;>simp[M0,eqFields,mj] at h
 |succ n ih=>
  obtain⟨S7,Bk,ih3⟩:=ih;refine⟨?_,?_,?_⟩
  ·intro w x t d e u v b hu hv h m hm
   obtain⟨m,rfl⟩:∃m',m=m'+1:=⟨m-1,by omega⟩
   unfold M0 at h
   split at h
   ·rename_i ht;rw[eN hu,eN hv];simp only[ο.injEq] at h;subst h;simp[ω,aN ok ht]
   ·rename_i ht;rw[cO hu,cO hv]
    split at h
    ·rename_i hk;subst hk;simp only[ο.injEq] at h;subst h;simp[ω,aN ok ht]
    ·cases h
   ·rename_i ht;rw[fV hu,fV hv];simp only[ο.injEq] at h;subst h;simp only[ω,ε,aN ok ht,δ,μ,beq_toListBytes,vi]
   ·rename_i ht;rw[iJ hu,iJ hv];simp only[ο.injEq] at h;subst h;simp[ω,aN ok ht]
   ·rename_i ht;rw[iJ hu];obtain⟨a,rfl,_⟩:=cz hv;simp only[ο.injEq] at h;subst h;simp[ω,aN ok ht]
   ·rename_i ht;rw[iJ hv];obtain⟨a,rfl,_⟩:=cz hu;simp only[ο.injEq] at h;subst h;simp[ω,aN ok ht]
   ·rename_i ht;rw[eY hu,eY hv];simp only[ο.injEq] at h;subst h;simp[ω,aN ok ht]
   ·rename_i ht;rw[eY hv];obtain⟨a,cap,rfl,_⟩:=eX hu;simp only[ο.injEq] at h;subst h;simp[ω,aN ok ht]
   ·rename_i ht;rw[eY hv];obtain⟨a,cap,rfl,_,h'|⟨bb,off,s,rfl,_⟩⟩:=lq hu
    ·cases h'
    simp only[ο.injEq] at h;subst h;simp[ω,aN ok ht]
   ·rename_i fields xs ys ht;obtain⟨us,rfl,wb,yc,gB⟩:=iu hu;obtain⟨vs,rfl,o7,uF,mV⟩:=iu hv
    split at h
    ·rename_i hq;have hp:=(ok.eqb t hq).1;have hf:P.underlying t=some (.struct (P.fieldsOf t)):=by simp[Program.fieldsOf,yZ ok ht]
     have CD:P.fieldsOf t=fields:=by simp[Program.fieldsOf,yZ ok ht]
     rw[run_equalIn_struct w m t _ _ hf hp,CD];exact Bk wb o7 yc uF gB mV h m (by omega)
    ·cases h
   ·rename_i len el xs ys ht;obtain⟨us,rfl,wb,yc,gB⟩:=iu hu;obtain⟨vs,rfl,o7,uF,mV⟩:=iu hv
    cases hs:cB pv el with
    |none=>simp[hs] at h
    |some sz=>
     simp only[hs,QL] at h;have:=ih3 hs wb o7 yc uF gB mV h m (by omega);simp only[ω,ε,aN ok ht,δ,cg ok hs];rw[Std.Legacy.Range.forIn_eq_forIn_range']
     simpa[Std.Legacy.Range.size] using this
   ·cases h
  ·intro w x xs ys us vs fs b wb o7 yc uF gB mV h m hm
   cases fs with
   |nil=>simp[eqFields] at h;subst h;simp[Qt]
   |cons f fs=>
    unfold eqFields at h;unfold Qt
    split at h
    ·rename_i hn;simp only[hn,ne_eq,not_true_eq_false,if_false];exact Bk wb o7 yc uF gB mV h m (by omega)
    ·rename_i hn;simp only[ne_eq,hn,not_false_eq_true,if_true]
     split at h
     ·rename_i d e hd he;obtain⟨u,jh,lh⟩:=mc ok wb yc gB hd;obtain⟨v,Mk,EG⟩:=mc ok o7 uF mV he;simp only[ε,jh,Mk,δ]
      split at h
      ·rename_i hq;rw[S7 lh EG hq m (by omega)]
       simpa using Bk wb o7 yc uF gB mV h m (by omega)
      ·rename_i hq;rw[S7 lh EG hq m (by omega)];simp only[ο.injEq] at h;subst h;simp
      ·cases h
     ·cases h
  ·intro w x t sz xs ys us vs left i b hsz wb o7 yc uF gB mV h m hm
   cases left with
   |zero=>simp[mj] at h;subst h;simp
   |succ left=>
    unfold mj at h
    split at h
    ·rename_i d e hd he;obtain⟨u,jh,lh⟩:=mc ok wb yc gB hd;obtain⟨v,Mk,EG⟩:=mc ok o7 uF mV he;simp only[List.range'_succ,List.forIn_cons,ε,jh,Mk,δ]
     split at h
     ·rename_i hq;rw[S7 lh EG hq m (by omega)];have:=ih3 hsz wb o7 yc uF gB mV h m (by omega)
      simpa using this
     ·rename_i hq;rw[S7 lh EG hq m (by omega)];simp only[ο.injEq] at h;subst h;simp
     ·cases h
    ·cases h
end
end Go.V
namespace Go.V
open Go.RowKit
variable{P:Program}{w:World}{op:BinOp}{k:IntKind}{a b:Int}{d:D}
theorem jy (op : BinOp) (t : TypeId) (xo yo : Operand) (a b : Value) (h1 : ¬ (a = .nilIface ∧ b = .nilIface)) (h2 : ∀ c d, ¬ (a = .agg c ∧ b = .agg d)):
    (eqGuard op t xo yo a b).run P w = .ok () w := by
  cases op <;> first
    | rfl
    | (unfold eqGuard
       simp only [Bool.not_true, Γ, if_false]
       split
       · exact absurd ⟨rfl, rfl⟩ h1
       · exact absurd ⟨rfl, rfl⟩ (h2 _ _)
       · rfl)
theorem BI (h:BJ op k a b=some d):∃n,d=.int k n∧(JY op k a b).run P w=.ok (.int k n) w:=by
 unfold BJ at h
 split at h<;>first|(cases h;refine⟨_,rfl,?_⟩;simp[JY,iT];done)|(cases h;done)
theorem SJ (h:Ar op a b=some d):∃r,d=.bool r∧(Op.intCmp op a b).run P w=.ok (.bool r) w:=by
 unfold Ar at h
 split at h<;>first|(cases h;exact⟨_,rfl,rfl⟩)|(cases h;done)
theorem Rm {x : X} {t : TypeId} (hs : op ≠ .shl) (mh : op ≠ .shr) (h : vR op k a b = some d):
    ∃ v, (binOp op t (.int k a) (.int k b)).run P w = .ok v w ∧ VR w x d v := by
  cases op <;> simp only [binOp, ne_eq, not_true_eq_false, if_false] <;> simp only [vR] at h <;> first
    | exact absurd rfl hs
    | exact absurd rfl mh
    | (cases h; exact ⟨_, rfl, by rw [iT]; exact .im _ _ (.int _ _)⟩)
    | (split at h
       · cases h
       · rename_i hb; cases h
         refine ⟨_, by simp only [Op.intDiv, hb, if_false]; rfl, ?_⟩
         first | exact .im _ _ (.int _ _) | (rw [iT]; exact .im _ _ (.int _ _)))
    | (obtain ⟨n, rfl, hr⟩ := BI (P := P) (w := w) h; exact ⟨_, hr, .im _ _ (.int _ _)⟩)
    | (obtain ⟨n, rfl, hr⟩ := SJ (P := P) (w := w) h; exact ⟨_, hr, .im _ _ (.bool _)⟩)
theorem wV {x:X} {t:TypeId} {k':IntKind} (hs:op=.shl∨op=.shr) (h:y9 op k a b=some d):
  ∃v,(binOp op t (.int k a) (.int k' b)).run P w=.ok v w∧VR w x d v:=by
 unfold y9 at h
 split at h
 ·cases h
 ·rename_i hb
  rcases hs with rfl|rfl<;>simp only[ο.injEq] at h<;>subst h<;>
   refine⟨_,by simp only[binOp,Op.shift,hb,if_false];rfl,?_⟩<;>first|exact .im _ _ (.int _ _)|(rw[iT];exact .im _ _ (.int _ _))
theorem NS {x:X} {t:TypeId} {a b:List UInt8} (h:Gk op a b=some d):
  ∃v,(binOp op t (.string ⟨a.toArray⟩) (.string ⟨b.toArray⟩)).run P w=.ok v w∧VR w x d v:=by
 have e:binOp op t (.string ⟨a.toArray⟩) (.string ⟨b.toArray⟩)=Qu op ⟨a.toArray⟩ ⟨b.toArray⟩:=by cases op<;>rfl
 rw[e];have l1:(⟨a.toArray⟩:ByteArray).toList=a:=by rw[Qz]
 have l2:(⟨b.toArray⟩:ByteArray).toList=b:=by rw[Qz]
 by_cases gv:op=.add
 ·subst gv;simp only[Gk] at h
  split at h
  ·rename_i hb;cases h
   have hm:¬((((⟨a.toArray⟩:ByteArray).size+(⟨b.toArray⟩:ByteArray).size:Nat):Int)>QC.max):=by
    have h1:(⟨a.toArray⟩:ByteArray).size=a.length:=by simp[Qk]
    have h2:(⟨b.toArray⟩:ByteArray).size=b.length:=by simp[Qk]
    rw[h1,h2];simp only[IntKind.max,QT,Qb,if_true];omega
   refine⟨.string ⟨(a++b).toArray⟩,?_,.im _ _ (.str _)⟩;simp only[Qu,hm,if_false,μ]
   congr 2
  ·cases h
 ·cases op<;>simp only[Gk] at h<;>first
   |exact absurd rfl gv
   |(cases h;done)
   |(cases h;exact⟨_,by simp only[Qu,l1,l2];rfl,.im _ _ (.bool _)⟩)
section
variable{pv:Pv} {P:Program} (ok:pv.Ok P)
include ok
theorem Fh {w:World} {x:X} {t:Nat} {d e:D} {u v:Value} {b:Bool} (hu:VR w x d u) (hv:VR w x e v) (h:equalD pv t d e=some b) (op:BinOp) (xo yo:Operand):
  (eqGuard op t xo yo u v).run P w=.ok () w∧(QS t u v).run P w=.ok b w:=by
 unfold equalD at h
 split at h
 ·cases h
 ·rename_i hg;have heq:=(Wx ok sV).1 hu hv h Op.maxDepth (by decide)
  have hgu:(eqGuard op t xo yo u v).run P w=.ok () w:=by
   by_cases ha:SQ d=true
   ·have hq:pv.eqb.contains t=true:=by
     simp only[ha,Bool.true_and,Bool.not_eq_true',Bool.not_eq_false] at hg;simpa using hg
    cases d with
    |agg cs=>
     obtain⟨us,rfl,_⟩:=iu hu
     cases v with
     |agg vs=>exact run_eqGuard_agg w op t xo yo _ _ (ok.eqb t hq).2
     |_=>exact jy _ _ _ _ _ _ (by simp) (by simp)
    |_=>simp[SQ] at ha
   ·refine jy _ _ _ _ _ _ ?_ ?_
    ·rintro⟨rfl,rfl⟩;unfold sV M0 at h
     split at h<;>first
      |(have:=eN hu;cases this)|(have:=cO hu;cases this)|(have:=fV hu;cases this)|(have:=iJ hu;cases this)|(have:=eY hu;cases this)
      |(obtain⟨_,h',_⟩:=cz hu;cases h')|(obtain⟨_,_,h',_⟩:=eX hu;cases h')|(obtain⟨_,_,h',_⟩:=lq hu;cases h')|(obtain⟨_,h',_⟩:=iu hu;cases h')|cases h
    ·rintro c d' ⟨rfl,rfl⟩;unfold sV M0 at h
     split at h<;>first
      |(exfalso;exact ha rfl)
      |(have:=eN hu;cases this)|(have:=cO hu;cases this)|(have:=fV hu;cases this)|(have:=iJ hu;cases this)|(have:=eY hu;cases this)
      |(obtain⟨_,h',_⟩:=cz hu;cases h')|(obtain⟨_,_,h',_⟩:=eX hu;cases h')|(obtain⟨_,_,h',_⟩:=lq hu;cases h')|cases h
  exact⟨hgu,heq⟩
end
end Go.V
namespace Go.V
open Go.RowKit
def zq (v:Value):Prop:=(∀k n,v≠.int k n)∧(∀s,v≠.string s)∧(∀k b,v≠.float k b)∧(∀k a b,v≠.complex k a b)
def zr:D→Bool
 | .int _ _| .str _| .bD=>false
 |_=>true
theorem Dm {w:World} {x:X} {d:D} {v:Value} (h:VR w x d v) (hp:zr d=true):zq v:=by
 unfold zq
 cases d with
 |int k n=>cases hp
 |str s=>cases hp
 |bD=>cases hp
 |bool b=>rw[eN h];simp
 |nul=>rw[eY h];simp
 |pnil=>rw[iJ h];simp
 |sl es=>obtain⟨_,_,rfl,_⟩:=lq h;simp
 |win k v o l s=>obtain⟨_,_,rfl,_⟩:=eX h;simp
 |ptr k v o=>obtain⟨_,rfl,_⟩:=cz h;simp
 |mp k=>obtain⟨_,rfl,_⟩:=AK h;simp
 |ep c=>obtain⟨_,_,rfl,_⟩:=rj h;simp
 |fn f c=>obtain⟨_,rfl,_⟩:=wN h;simp
 |nilfn=>cases h with|im _ _ h=>cases h;simp
 |nilif=>cases h with|im _ _ h=>cases h;simp
 |agg c=>obtain⟨_,rfl,_⟩:=iu h;simp
 |tup c=>obtain⟨_,rfl,_⟩:=vd h;simp
theorem binOp_eql {t:TypeId} {u v:Value} (h:zq u):
  binOp .eql t u v=(QS t u v>>=fun b=>pure (.bool b))∧binOp .neq t u v=(QS t u v>>=fun b=>pure (.bool (!b))):=by
 obtain⟨h1,h2,h3,h4⟩:=h;cases u<;>first
  |exact absurd rfl (h1 _ _)|exact absurd rfl (h2 _)|exact absurd rfl (h3 _ _)|exact absurd rfl (h4 _ _ _)
  |(cases v<;>exact⟨rfl,rfl⟩)
section
variable{pv:Pv} {P:Program} (ok:pv.Ok P)
include ok
variable{w:World}{d r:D}{u v:Value}
theorem SM {x:X} {op:BinOp} {t:Nat} {e:D} (xo yo:Operand) (hu:VR w x d u) (hv:VR w x e v) (h:lb pv op t d e=some r):
  ∃z,((eqGuard op t xo yo u v>>=fun _=>binOp op t u v:Sem Value)).run P w=.ok z w∧VR w x r z:=by
 unfold lb at h
 split at h
 ·rename_i k a k' b;rw[cO hu,cO hv];have hg:=jy (P:=P) (w:=w) op t xo yo (.int k a) (.int k' b) (by simp) (by simp);simp only[ε,hg,δ]
  split at h
  ·exact wV (.inl rfl) h
  ·exact wV (.inr rfl) h
  ·rename_i h1 h2
   split at h
   ·rename_i hk;subst hk;exact Rm h1 h2 h
   ·cases h
 ·rename_i a b;rw[fV hu,fV hv];have hg:=jy (P:=P) (w:=w) op t xo yo (.string ⟨a.toArray⟩) (.string ⟨b.toArray⟩) (by simp) (by simp);simp only[ε,hg,δ];exact NS h
 ·rename_i h1 h2
  have key:∀b,equalD pv t d e=some b→(eqGuard op t xo yo u v).run P w=.ok () w∧(QS t u v).run P w=.ok b w∧
    (binOp .eql t u v=(QS t u v>>=fun b=>pure (.bool b))∧binOp .neq t u v=(QS t u v>>=fun b=>pure (.bool (!b)))):=by
   intro b hb;obtain⟨hg,he⟩:=Fh ok hu hv hb op xo yo;refine⟨hg,he,binOp_eql ?_⟩;have eF:=hb;unfold equalD at hb
   split at hb
   ·cases hb
   ·unfold sV M0 at hb;refine Dm hu ?_
    cases hpd:zr d with
    |true=>rfl
    |false=>
     exfalso
     cases d<;>simp[zr] at hpd<;>(split at hb<;>first|(cases hb;done)|(exact h1 _ _ _ _ rfl rfl)|(exact h2 _ _ rfl rfl)|simp_all)
  split at h
  ·cases hb:equalD pv t d e with
   |none=>simp[hb] at h
   |some b=>
    simp only[hb,J4,ο.injEq] at h;subst h;obtain⟨hg,he,hq,_⟩:=key b hb;exact⟨.bool b,by simp[hg,hq,he],.im _ _ (.bool _)⟩
  ·cases hb:equalD pv t d e with
   |none=>simp[hb] at h
   |some b=>
    simp only[hb,J4,ο.injEq] at h;subst h;obtain⟨hg,he,_,hq⟩:=key b hb;exact⟨.bool (!b),by simp[hg,hq,he],.im _ _ (.bool _)⟩
  ·cases h
omit ok in
theorem Tz {x:X} {op:UnOp} (hu:VR w x d u) (h:Xe op d=some r):∃z,(Op.unary op u).run P w=.ok z w∧VR w x r z:=by
 unfold Xe at h
 split at h
 ·rename_i k n;rw[cO hu];cases h;exact⟨_,rfl,by rw[iT];exact .im _ _ (.int _ _)⟩
 ·rename_i k n;rw[cO hu];obtain⟨m,rfl,hr⟩:=BI (P:=P) (w:=w) h;exact⟨_,hr,.im _ _ (.int _ _)⟩
 ·rw[eN hu];cases h;exact⟨_,rfl,.im _ _ (.bool _)⟩
 ·cases h
omit ok in
theorem oj {x:X} {y n:Nat} (hv:VR w x d v) (h:lX d y=some n) (code:BoundsCode):(QW v y code).run P w=.ok n w∧n≤y:=by
 unfold lX at h
 split at h
 ·rename_i k i;rw[cO hv]
  split at h
  ·rename_i hi;cases h;refine⟨?_,by omega⟩;simp[QW,asIntOf,hi]
  ·cases h
 ·cases h
omit ok in
theorem kf {x:X} {len cap l h:Nat} {lo hi:Option D} {uA i_:Option Value} (lP:Bool) (hc:len≤cap) (wF:∀d v,lo=some d→uA=some v→VR w x d v) (Bs:∀d v,hi=some d→i_=some v→VR w x d v) (el:lo.isSome=uA.isSome) (eh:hi.isSome=i_.isSome) (hb:dw len lo hi=some (l,h)):
  (Qs lP len cap uA i_ none).run P w=.ok (l,h,cap) w∧l≤h∧h≤len:=by
 unfold dw at hb;obtain⟨hh,h1,h2⟩:=γ.1 hb;obtain⟨ll,h3,h4⟩:=κ.1 h2;simp only[Prod.mk.injEq] at h4;obtain⟨rfl,rfl⟩:=h4
 have hle:hh≤len:=by
  cases hi with
  |none=>cases h1;exact η _
  |some d=>exact(oj (P:=P) (Bs d (i_.getD default) rfl (by cases i_<;>simp at eh⊢)) h1 .sliceB).2
 have EX:ll≤hh:=by
  cases lo with
  |none=>cases h3;exact J' _
  |some d=>exact(oj (P:=P) (wF d (uA.getD default) rfl (by cases uA<;>simp at el⊢)) h3 .sliceB).2
 refine⟨?_,EX,hle⟩
 have YQ:∀v,i_=some v→(QW v cap (if lP then .sliceAcap else .sliceAlen)).run P w=.ok hh w:=by
  intro v hv
  cases hi with
  |none=>subst hv;simp at eh
  |some d=>
   have Vu:lX d cap=some hh:=by
    simp only[jY] at h1;unfold lX at h1⊢
    split at h1
    ·split at h1
     ·rename_i hq;cases h1;rw[if_pos (by omega)]
     ·cases h1
    ·cases h1
   exact(oj (P:=P) (Bs d v rfl hv) Vu _).1
 have Ua:∀v,uA=some v→(QW v hh .sliceB).run P w=.ok ll w:=by
  intro v hv
  cases lo with
  |none=>subst hv;simp at el
  |some d=>exact(oj (P:=P) (wF d v rfl hv) h3 _).1
 have YR:i_=none→hh=len:=by
  intro hv;subst hv
  cases hi with
  |none=>cases h1;rfl
  |some d=>simp at eh
 have Ub:uA=none→ll=0:=by
  intro hv;subst hv
  cases lo with
  |none=>cases h3;rfl
  |some d=>simp at el
 unfold Qs
 cases i_ with
 |none=>
  obtain rfl:=YR rfl
  cases uA with
  |none=>obtain rfl:=Ub rfl;rfl
  |some v=>simp[Ua v rfl]
 |some u=>
  have h5:=YQ u rfl
  cases uA with
  |none=>obtain rfl:=Ub rfl;simp[h5]
  |some v=>simp[h5,Ua v rfl]
end
end Go.V
namespace Go.V
open Go.RowKit
structure Nx (w:World) (st:St) (β:Nat→Option (Nat×Nat)) (Z:Nat→Prop) (w':World) (ai:St) (β':Nat→Option (Nat×Nat)) (Z':Nat→Prop):Prop where
 sim:gI w' ai β' Z'
 keeps:dK w (st.x β Z) w' (ai.x β' Z')
 evo:BQ (wrt st β) w w'
 fresh:∀k b base,β' k=some (b,base)→(∃dt,β k=some (b,dt))∨w.heap.size≤b
 zfresh:∀b,Z' b→Z b∨w.heap.size≤b
 len:st.bs.length≤ai.bs.length
 flr:ai.flr=st.flr
 ro:ai.ro=st.ro
 low:∀k,k<st.ro→ai.bs[k]?=st.bs[k]?∧β' k=β k
 xB:∀k,k<st.bs.length→β k=none→β' k=none∧ai.bs[k]?=st.bs[k]?
variable{w w':World}{x':X}{b base k my dt:Nat}{st:St}{β:Nat→Option (Nat×Nat)}{Z:Nat→Prop}{a a':Bool}{c c' cs:List D}{cs':Array Value}{fr:Nat×Nat}{us:List Value}{d:D}{v:Value}
theorem iH.bd {x:X} {bx:iI} (h:iH w x b base bx) (hk:dK w x w' x') (hb:w'.heap[b]?=w.heap[b]?):iH w' x' b base bx:=by
 cases bx with
 |mem v a cells=>
  obtain⟨c,el,fr,h1,h2,h3,h4⟩:=h;refine⟨c,el,fr,hb.trans h1,h2,h3,fun j d hd=>?_⟩;obtain⟨u,jh,lh,o5⟩:=h4 j d hd;exact⟨u,jh,lh,o5.mono hk⟩
 |iter s pos=>exact⟨h.1,hb.trans h.2⟩
 |map es=>
  obtain⟨h0,en,cl,h1,h2⟩:=h;exact⟨h0,en,cl,hb.trans h1,h2⟩
 |dead=>exact h
theorem Nx.same (h:gI w st β Z):Nx w st β Z w st β Z:=
 ⟨h,dK.refl _ _,BQ.refl _ _,fun _ _ base hb=>.inl ⟨base,hb⟩,fun _ hz=>.inl hz,η _,rfl,rfl,fun _ _=>⟨rfl,rfl⟩,fun _ _ h=>⟨h,rfl⟩⟩
theorem Nx.trans {w1 w2 w3:World} {st1 st2 Xg:St} {β1 β2 β3:Nat→Option (Nat×Nat)} {Z1 Z2 Z3:Nat→Prop} (h:Nx w1 st1 β1 Z1 w2 st2 β2 Z2) (g:Nx w2 st2 β2 Z2 w3 Xg β3 Z3):
  Nx w1 st1 β1 Z1 w3 Xg β3 Z3 where
 sim:=g.sim
 keeps:=h.keeps.trans g.keeps
 evo:=by
  refine h.evo.trans g.evo (fun _ hm=>hm) fun b hb hm=>?_;obtain⟨k,base,hk,eT⟩:=hm
  rcases h.fresh k b base hk with⟨dt,eF⟩|hlt
  ·exact⟨k,dt,eF,by rw[←h.ro];exact eT⟩
  ·omega
 fresh k b base hb:=by
  rcases g.fresh k b base hb with⟨dt,eF⟩|hlt
  ·exact h.fresh k b dt eF
  ·exact .inr (Φ h.evo.size hlt)
 zfresh b hz:=by
  rcases g.zfresh b hz with hz|hlt
  ·exact h.zfresh b hz
  ·exact .inr (Φ h.evo.size hlt)
 len:=Φ h.len g.len
 flr:=g.flr.trans h.flr
 ro:=g.ro.trans h.ro
 low k hk:=by
  obtain⟨h1,h2⟩:=h.low k hk;obtain⟨g1,g2⟩:=g.low k (by rw[h.ro];exact hk);exact⟨g1.trans h1,g2.trans h2⟩
 xB k hk h0:=by
  obtain⟨h1,h2⟩:=h.xB k hk h0;obtain⟨g1,g2⟩:=g.xB k (J3 hk h.len) h1;exact⟨g1,g2.trans h2⟩
theorem Nx.still (h:gI w st β Z) (hh:w'.heap=w.heap) (ho:w'.os=w.os) (ht:w'.tape=w.tape) (hp:w'.output=w.output):
  Nx w st β Z w' st β Z:=by
 have hk:dK w (st.x β Z) w' (st.x β Z):=
  ⟨fun _ p hp=>⟨p,hp⟩,fun b hb=>⟨hb,by rw[hh]⟩,fun _ c _ _ hc=>⟨c,hc,η _⟩,fun _ _ _ _ _ _ hb=>⟨hb,by simp[cK,hh]⟩⟩
 refine⟨⟨h.dom,fun k b base hb=>by rw[hh];exact h.lt k b base hb,h.inj,h.zd,fun b hb=>by rw[hh];exact h.zl b hb,?_,h.flr,h.ro⟩,hk,⟨ho,ht,hp,by rw[hh];exact η _,fun b _ _=>by rw[hh]⟩,
  fun _ _ base hb=>.inl ⟨base,hb⟩,fun _ hz=>.inl hz,η _,rfl,rfl,fun _ _=>⟨rfl,rfl⟩,fun _ _ h=>⟨h,rfl⟩⟩
 intro k b base bx hb ir;exact(h.box k b base bx hb ir).bd hk (by rw[hh])
def eR (β:Nat→Option (Nat×Nat)) (n b:Nat):Nat→Option (Nat×Nat):=fun k=>if k=n then some (b,0) else β k
theorem Dp (st:St) (bx:iI) (k:Nat) (hk:k<st.bs.length):(st.push bx).aG k=st.aG k:=by
 simp[St.aG,St.push,ψ hk]
theorem et (h:w'.heap[b]?=w.heap[b]?):cK w' b=cK w b:=by simp[cK,h]
theorem Nx.push (h:gI w st β Z) (o:Obj) (hh:w'.heap=w.heap.push o) (ho:w'.os=w.os) (ht:w'.tape=w.tape) (hp:w'.output=w.output) (bx:iI) (hb:dK w (st.x β Z) w' ((st.push bx).x (eR β st.bs.length w.heap.size) Z)→iH w' ((st.push bx).x (eR β st.bs.length w.heap.size) Z) w.heap.size 0 bx):
  Nx w st β Z w' (st.push bx) (eR β st.bs.length w.heap.size) Z:=by
 have hold:∀b,b<w.heap.size→w'.heap[b]?=w.heap[b]?:=by
  intro b hb;rw[hh,QB,if_neg (by omega)]
 have hk:dK w (st.x β Z) w' ((st.push bx).x (eR β st.bs.length w.heap.size) Z):=by
  have hdm:∀k p,β k=some p→k<st.bs.length:=fun k p hp=>h.dom k p.1 p.2 hp;refine⟨fun k p hp=>⟨p,?_⟩,fun b hb=>⟨hb,hold b (h.zl b hb)⟩,fun k c p hk hc=>?_,fun k c hc Aa b base hb=>?_⟩
  ·have:=hdm k p hp;simp only[St.x,eR] at hp⊢;rw[if_neg (by omega)];exact hp
  ·refine⟨c,?_,η _⟩;have:=Dp st bx k (hdm k p hk);show st.aG k=some c;rw[←this];exact hc
  ·refine⟨?_,et (hold b (h.lt k b base hb))⟩;have kM:k<st.bs.length:=hdm k _ hb;simp only[St.x,eR];rw[if_neg (by omega)];exact hb
 have hsz:w'.heap.size=w.heap.size+1:=by rw[hh,J5]
 refine⟨⟨?_,?_,?_,?_,?_,?_,?_,?_⟩,hk,⟨ho,ht,hp,by omega,fun b hb _=>hold b hb⟩,?_,fun _ hz=>.inl hz,by simp[St.push],rfl,rfl,?_,fun k hk h0=>by simp only[eR,St.push];rw[if_neg (by omega),ψ hk];exact⟨h0,rfl⟩⟩
 ·intro k b base jl;simp only[eR] at jl;simp only[St.push,QQ,List.length_singleton]
  split at jl
  ·omega
  ·have:=h.dom k b base jl;omega
 ·intro k b base jl;simp only[eR] at jl
  split at jl
  ·cases jl;omega
  ·have:=h.lt k b base jl;omega
 ·intro k k' b y y' h1 h2;simp only[eR] at h1 h2
  split at h1<;>split at h2
  ·omega
  ·cases h1;have:=h.lt k' _ _ h2;omega
  ·cases h2;have:=h.lt k _ _ h1;omega
  ·exact h.inj k k' b y y' h1 h2
 ·intro k b base jl hz;simp only[eR] at jl
  split at jl
  ·cases jl;have:=h.zl _ hz;omega
  ·exact h.zd k b base jl hz
 ·intro b hz;have:=h.zl b hz;omega
 ·intro k b base wA jl ir;simp only[eR] at jl
  split at jl
  ·rename_i hkn;subst hkn;cases jl;simp[St.push] at ir;subst ir;exact hb hk
  ·have hlt:=h.dom k b base jl;simp only[St.push,ψ hlt] at ir;exact(h.box k b base wA jl ir).bd hk (hold b (h.lt k b base jl))
 ·have:=h.flr;simp[St.push];omega
 ·have:=h.ro;simp[St.push];omega
 ·intro k b base jl;simp only[eR] at jl
  split at jl
  ·cases jl;exact .inr (η _)
  ·exact .inl ⟨base,jl⟩
 ·intro k kM;have:=h.ro;simp only[St.push,eR];rw[ψ (by omega),if_neg (by omega)];exact⟨rfl,rfl⟩
theorem Nx.lE (h:gI w st β Z) (arr:Bool) (cs:List D) (c:Array Value) (el:TypeId) (fr:Nat×Nat) (hh:w'.heap=w.heap.push (.cells c el fr)) (ho:w'.os=w.os) (ht:w'.tape=w.tape) (hp:w'.output=w.output) (hl:cs.length≤c.size) (hfr:qH c.size fr) (hc:∀(j:Nat) d,cs[j]?=some d→∃u,c[j]?=some u∧u.oneCell'=true∧VR w (st.x β Z) d u):
  Nx w st β Z w' (st.push (.mem 0 arr cs)) (eR β st.bs.length w.heap.size) Z∧
   cK w' w.heap.size=some c.size∧(st.push (.mem 0 arr cs)).aG st.bs.length=some 0∧eR β st.bs.length w.heap.size st.bs.length=some (w.heap.size,0):=by
 have ET:w'.heap[w.heap.size]?=some (.cells c el fr):=by rw[hh];simp
 refine⟨Nx.push h _ hh ho ht hp _ fun hk=>⟨c,el,fr,ET,by omega,hfr,fun j d hd=>?_⟩,by simp[cK,ET],by simp[St.aG,St.push,db],by simp[eR]⟩;obtain⟨u,h1,h2,h3⟩:=hc j d hd;exact⟨u,by rw[Ql];exact h1,h2,h3.mono hk⟩
theorem df {aG:Nat} (h:st.fk k aG=some (a,c)):st.bs[k]?=some (.mem aG a c)∧st.aG k=some aG:=by
 unfold St.fk at h
 split at h
 ·rename_i v a' c' hb
  split at h
  ·rename_i hv;subst hv;cases h;exact⟨hb,by simp[St.aG,hb,db]⟩
  ·cases h
 ·cases h
theorem gI.row (h:gI w st β Z) {aG:Nat} (hm:st.fk k aG=some (a,c)) (hb:β k=some (b,base)):
  ∃cs el fr,w.heap[b]?=some (.cells cs el fr)∧base+c.length≤cs.size∧qH cs.size fr∧
   ∀(j:Nat) d,c[j]?=some d→∃u,cs[base+j]?=some u∧u.oneCell'=true∧VR w (st.x β Z) d u:=
 h.box k b base _ hb (df hm).1
theorem gI.cells (h:gI w st β Z) {aG:Nat} (hm:st.fk k aG=some (a,c)) (hb:β k=some (b,base)):
  cE w (st.x β Z) b base c:=by
 obtain⟨cs,el,fr,h1,h2,h3,h4⟩:=h.row hm hb;intro j d hd;obtain⟨u,jh,lh,o5⟩:=h4 j d hd;exact⟨u,by simp[World.cell?,h1,jh],lh,o5⟩
theorem dX:∀(cs c:List D) (off:Nat),(setMany c off cs).length=c.length
 |[],c,off=>rfl
 |x::xs,c,off=>by simp only[setMany];rw[dX xs];simp
theorem jo:∀(cs c:List D) (off j:Nat),off+cs.length≤c.length→(setMany c off cs)[j]?=if off≤j∧j<off+cs.length then cs[j-off]? else c[j]?
 |[],c,off,j,_=>by simp only[setMany,QU,Qy];rw[if_neg (by omega)]
 |x::xs,c,off,j,h=>by
  simp only[υ] at h;simp only[setMany,υ];rw[jo xs (c.set off x) (off+1) j (by simp;omega)]
  by_cases h1:off+1≤j∧j<off+1+xs.length
  ·rw[if_pos h1,if_pos (by omega),show j-off=(j-(off+1))+1 by omega,τ]
  ·rw[if_neg h1]
   by_cases h2:j=off
   ·subst h2;rw[if_pos (by omega),Qi,QK (by omega)];rfl
   ·rw[if_neg (by omega),ς (by omega)]
def wput (w:World) (b:Nat) (o:Obj):World:={w with heap:=w.heap.setIfInBounds b o}
theorem Nx.Dk (h:gI w st β Z) {aG:Nat} (hm:st.fk k aG=some (a,c)) (hb:β k=some (b,base)) (eT:st.ro≤k) (hv:aG≤my) (E8:aG=my→dt=base) {cs:Array Value} {el:TypeId} {aM:Nat×Nat} (hw:w.heap[b]?=some (.cells cs el fr)) (hfr:qH cs.size aM) (hsz:cs'.size=cs.size) (hl:dt+c'.length≤cs.size) (hc:∀(j:Nat) d,c'[j]?=some d→∃u,cs'[dt+j]?=some u∧u.oneCell'=true∧VR w (st.x β Z) d u):
  Nx w st β Z (wput w b (.cells cs' el aM)) {st with bs:=st.bs.set k (.mem my a' c')} (fun i=>if i=k then some (b,dt) else β i) Z:=by
 obtain⟨ir,j8⟩:=df hm;have iL:k<st.bs.length:=h.dom k b base hb;have hbl:b<w.heap.size:=h.lt k b base hb
 have hne:∀i,i≠b→(wput w b (.cells cs' el aM)).heap[i]?=w.heap[i]?:=by
  intro i hi;simp only[wput];rw[ρ (by omega)]
 have heq:(wput w b (.cells cs' el aM)).heap[b]?=some (.cells cs' el aM):=by
  simp only[wput];rw[ζ hbl]
 have sx:∀i,i≠k→({st with bs:=st.bs.set k (.mem my a' c')}:St).aG i=st.aG i:=by
  intro i hi;simp only[St.aG];rw[ς (by omega)]
 have sv:({st with bs:=st.bs.set k (.mem my a' c')}:St).aG k=some my:=by
  simp[St.aG,iL,db]
 have hk:dK w (st.x β Z) (wput w b (.cells cs' el aM)) (({st with bs:=st.bs.set k (.mem my a' c')}:St).x (fun i=>if i=k then some (b,dt) else β i) Z):=by
  refine⟨fun i p hp=>?_,fun i hi=>⟨hi,hne i fun e=>h.zd k b base hb (e▸hi)⟩,fun i q p hi hq=>?_,fun i q hq nS i' y hy=>?_⟩
  ·by_cases hik:i=k
   ·subst hik;exact⟨(b,dt),by simp[St.x]⟩
   ·exact⟨p,by simp only[St.x] at hp⊢;rw[if_neg hik];exact hp⟩
  ·by_cases hik:i=k
   ·subst hik;simp only[St.x] at hq⊢;rw[sv] at hq;cases hq;exact⟨aG,j8,hv⟩
   ·simp only[St.x] at hq⊢;rw[sx i hik] at hq;exact⟨q,hq,η _⟩
  ·by_cases hik:i=k
   ·subst hik;simp only[St.x] at hq nS hy⊢;rw[sv] at hq;cases hq;rw[j8] at nS;cases nS;rw[hb] at hy;cases hy;refine⟨by simp[E8 rfl],by simp[cK,heq,hw,hsz]⟩
   ·simp only[St.x] at hy⊢;refine⟨by rw[if_neg hik];exact hy,et (hne i' fun e=>?_)⟩;subst e;exact hik (h.inj i k _ _ _ hy hb)
 refine⟨⟨?_,?_,?_,?_,?_,?_,?_,?_⟩,hk,⟨rfl,rfl,rfl,by simp[wput],fun i hi hn=>hne i fun e=>hn ?_⟩,?_,fun _ hz=>.inl hz,by simp,rfl,rfl,?_,fun i _ h0=>by
   by_cases e:i=k
   ·subst e;rw[hb] at h0;cases h0
   ·simp only[if_neg e];rw[ς (by omega)];exact⟨h0,rfl⟩⟩
 ·intro i q y hq;simp only[JZ]
  split at hq
  ·rename_i e;subst e;exact iL
  ·exact h.dom i q y hq
 ·intro i q y hq;simp only[wput,QO]
  split at hq
  ·cases hq;exact hbl
  ·exact h.lt i q y hq
 ·intro i i' q y y' h1 h2
  split at h1<;>split at h2
  ·omega
  ·rename_i e _;cases h1;subst e;exact h.inj _ _ _ _ _ hb h2
  ·rename_i _ e;cases h2;subst e;exact h.inj _ _ _ _ _ h1 hb
  ·exact h.inj i i' q y y' h1 h2
 ·intro i q y hq hz
  split at hq
  ·cases hq;exact h.zd k b base hb hz
  ·exact h.zd i q y hq hz
 ·intro i hz;simp only[wput,QO];exact h.zl i hz
 ·intro i q y bx hq sE;(dsimp only at hq sE)
  split at hq
  ·rename_i e;subst e;cases hq;rw[QK iL] at sE;cases sE;refine⟨cs',el,aM,heq,by omega,by rw[hsz];exact hfr,fun j d hd=>?_⟩
   ·obtain⟨u,jh,lh,o5⟩:=hc j d hd;exact⟨u,jh,lh,o5.mono hk⟩
  ·rename_i e;rw[ς (by omega)] at sE;refine(h.box i q y bx hq sE).bd hk (hne q fun e'=>?_);subst e';exact e (h.inj i k _ _ _ hq hb)
 ·have:=h.flr;simp;omega
 ·have:=h.ro;simp;omega
 ·exact⟨k,base,e▸hb,eT⟩
 ·intro i q y hq
  split at hq
  ·rename_i e;subst e;cases hq;exact .inl ⟨base,hb⟩
  ·exact .inl ⟨y,hq⟩
 ·intro i hi;dsimp only;rw[ς (by omega),if_neg (by omega)];exact⟨rfl,rfl⟩
theorem Nx.write (h:gI w st β Z) {aG:Nat} (hm:st.fk k aG=some (a,c)) (hb:β k=some (b,base)) (eT:st.ro≤k) (hv:aG≤my) (E8:aG=my→dt=base) {cs:Array Value} {el:TypeId} (hw:w.heap[b]?=some (.cells cs el fr)) (hsz:cs'.size=cs.size) (hl:dt+c'.length≤cs.size) (hc:∀(j:Nat) d,c'[j]?=some d→∃u,cs'[dt+j]?=some u∧u.oneCell'=true∧VR w (st.x β Z) d u):
  Nx w st β Z (wput w b (.cells cs' el fr)) {st with bs:=st.bs.set k (.mem my a' c')} (fun i=>if i=k then some (b,dt) else β i) Z:=
 Nx.Dk h hm hb eT hv E8 hw (by
  obtain⟨SI,el0,Zv,e1,_,e3,_⟩:=h.row hm hb;rw[hw] at e1;cases e1
  exact e3) hsz hl hc
structure LR (w:World) (x:X) (cs:List D) (us:List Value):Prop where
 len:cs.length=us.length
 one:∀u∈us,u.oneCell'=true
 rel:∀(i:Nat) c u,cs[i]?=some c→us[i]?=some u→VR w x c u
theorem LR.mono {x:X} (h:LR w x cs us) (hk:dK w x w' x'):LR w' x' cs us:=
 ⟨h.len,h.one,fun i c u hc hu=>(h.rel i c u hc hu).mono hk⟩
theorem LR.at_ {x:X} (h:LR w x cs us) {j:Nat} (hd:cs[j]?=some d):∃u,us[j]?=some u∧u.oneCell'=true∧VR w x d u:=by
 have hj:j<cs.length:=by
  rcases φ j cs.length with h'|h'
  ·exact h'
  ·rw[ν h'] at hd;cases hd
 have F_:j<us.length:=by rw[←h.len];exact hj
 exact⟨us[j],π F_,h.one _ (List.getElem_mem F_),h.rel j d _ hd (π F_)⟩
theorem LR.agg {x:X} (h:LR w x cs us):VR w x (.agg cs) (.agg us.toArray):=.agg cs us h.len h.one h.rel
theorem Gc {x:X} (h:VR w x (.agg cs) v):∃us:List Value,v=.agg us.toArray∧LR w x cs us:=by
 obtain⟨us,rfl,h1,h2,h3⟩:=iu h;exact⟨us,rfl,h1,h2,h3⟩
theorem oa {x:X} (h:VR w x d v) (hc:d.cells?=some cs):LR w x cs v.cells.toList:=by
 have one:∀u:Value,u.oneCell'=true→v=u→cs=[d]→LR w x cs v.cells.toList:=by
  intro u hu e iy;subst e;subst iy
  have:v.cells.toList=[v]:=by cases v<;>first|rfl|simp[Value.oneCell'] at hu
  rw[this];refine⟨rfl,by simpa using hu,fun i c u hc hu=>?_⟩
  cases i with
  |zero=>simp at hc hu;subst hc;subst hu;exact h
  |succ i=>simp at hc
 cases d with
 |agg l=>
  cases hc;obtain⟨us,rfl,hl⟩:=Gc h
  simpa[Value.cells] using hl
 |tup l=>cases hc
 |bD=>cases hc
 |bool b=>cases hc;exact one _ rfl (eN h) rfl
 |int k n=>cases hc;exact one _ rfl (cO h) rfl
 |str s=>cases hc;exact one _ rfl (fV h) rfl
 |nul=>cases hc;exact one _ rfl (eY h) rfl
 |pnil=>cases hc;exact one _ rfl (iJ h) rfl
 |sl es=>cases hc;obtain⟨_,_,e,_⟩:=lq h;exact one _ rfl e rfl
 |win k v o l s=>cases hc;obtain⟨_,_,e,_⟩:=eX h;exact one _ rfl e rfl
 |ptr k v o=>cases hc;obtain⟨_,e,_⟩:=cz h;exact one _ rfl e rfl
 |mp k=>cases hc;obtain⟨_,e,_⟩:=AK h;exact one _ rfl e rfl
 |ep c=>cases hc;obtain⟨_,_,e,_⟩:=rj h;exact one _ rfl e rfl
 |fn f c=>cases hc;obtain⟨_,e,_⟩:=wN h;exact one _ rfl e rfl
 |nilfn=>cases hc;exact one .nilFunc rfl (by cases h with|im _ _ h=>cases h;rfl) rfl
 |nilif=>cases hc;exact one .nilIface rfl (by cases h with|im _ _ h=>cases h;rfl) rfl
theorem FA (h:d.cells?=some cs):d.cells=cs:=by cases d<;>simp[D.cells?,D.cells] at*<;>exact h
theorem uL (off:Nat):∀(l:List Value) (n:Nat) (cells:Array Value) (k:Nat),off+n+l.length≤cells.size→
  ((l.zipIdx n).foldl (fun cs (p:Value×Nat)=>cs.setIfInBounds (off+p.2) p.1) cells)[k]?=if off+n≤k∧k<off+n+l.length then l[k-(off+n)]? else cells[k]?
 |[],n,cells,k,_=>by simp only[List.zipIdx_nil,List.foldl_nil,QU,Qy];rw[if_neg (by omega)]
 |v::l,n,cells,k,h=>by
  simp only[υ] at h;simp only[List.zipIdx_cons,JX];rw[uL off l (n+1) _ k (by simp;omega)];simp only[υ]
  by_cases h1:off+(n+1)≤k∧k<off+(n+1)+l.length
  ·rw[if_pos h1,if_pos (by omega),show k-(off+n)=(k-(off+(n+1)))+1 by omega,τ]
  ·rw[if_neg h1]
   by_cases h2:k=off+n
   ·subst h2;rw[if_pos (by omega),Qi,ζ (by omega)];rfl
   ·rw[if_neg (by omega),ρ (by omega)]
theorem sN (off:Nat):∀(l:List (Value×Nat)) (cells:Array Value),(l.foldl (fun cs (p:Value×Nat)=>cs.setIfInBounds (off+p.2) p.1) cells).size=cells.size
 |[],cells=>rfl
 |p::l,cells=>by simp only[JX];rw[sN off l];simp
theorem Dj (off:Nat) (c cells:Array Value):(c.zipIdx.foldl (fun cs (c,j)=>cs.setIfInBounds (off+j) c) cells)=((c.toList.zipIdx 0).foldl (fun cs (p:Value×Nat)=>cs.setIfInBounds (off+p.2) p.1) cells):=by
 rw[←Array.foldl_toList,Array.toList_zipIdx]
theorem LR.setMany {x:X} {ds:List D} {vs:List Value} (h:LR w x cs us) (g:LR w x ds vs) (off:Nat) (hl:off+ds.length≤cs.length):
  LR w x (setMany cs off ds) (((vs.zipIdx 0).foldl (fun(cs:Array Value) (p:Value×Nat)=>cs.setIfInBounds (off+p.2) p.1) us.toArray)).toList:=by
 have hg:=fun k=>uL off vs 0 us.toArray k (by simp;have:=h.len;have:=g.len;omega);simp only[Qy] at hg;have hs:=sN off (vs.zipIdx 0) us.toArray
 have uH:∀k u,((((vs.zipIdx 0).foldl (fun(cs:Array Value) (p:Value×Nat)=>cs.setIfInBounds (off+p.2) p.1) us.toArray)).toList)[k]?=some u→
   (off≤k∧k<off+vs.length∧vs[k-off]?=some u)∨(¬(off≤k∧k<off+vs.length)∧us[k]?=some u):=by
  intro k u hk;rw[QV,hg k] at hk
  split at hk
  ·rename_i hc;exact .inl ⟨hc.1,hc.2,hk⟩
  ·rename_i hc;exact .inr ⟨hc,by simpa using hk⟩
 refine⟨?_,fun u hu=>?_,fun i c u hc hu=>?_⟩
 ·exact(dX ds cs off).trans (h.len.trans (QP.symm.trans (hs.symm.trans Array.length_toList.symm)))
 ·obtain⟨k,hk⟩:=QH hu
  rcases uH k u hk with⟨_,_,h'⟩|⟨_,h'⟩
  ·exact g.one u (Qm h')
  ·exact h.one u (Qm h')
 ·rw[jo ds cs off i hl] at hc
  rcases uH i u hu with⟨h1,h2,h'⟩|⟨h1,h'⟩
  ·rw[if_pos ⟨h1,by rw[g.len];exact h2⟩] at hc;exact g.rel _ c u hc h'
  ·rw[if_neg (by rw[g.len];exact h1)] at hc;exact h.rel _ c u hc h'
theorem wk {w:World} {x:X} {place kD:Nat→Option (Nat×Nat)} (hp:∀i r,place i=some r→kD i=some r):∀(parts:List (Nat×D)) (parts':List (Nat×Value)) {cs r:List D} {us:List Value},
  parts.length=parts'.length→(∀(i:Nat) p q,parts[i]?=some p→parts'[i]?=some q→p.1=q.1∧VR w x p.2 q.2)→LR w x cs us→ie place cs parts=some r→
  ∃rs:List Value,Qp kD us.toArray parts'=some rs.toArray∧LR w x r rs
 |[],[],cs,r,us,_,_,h,hf=>by simp[ie] at hf;subst hf;exact⟨us,rfl,h⟩
 |[],_::_,_,_,_,hl,_,_,_=>by simp at hl
 |_::_,[],_,_,_,hl,_,_,_=>by simp at hl
 |(i,d)::parts,(i',v)::parts',cs,r,us,hl,hr,h,hf=>by
  obtain⟨rfl,hv⟩:=hr 0 _ _ rfl rfl;simp only[ie] at hf
  split at hf
  ·rename_i off size ds ib iy
   split at hf
   ·cases hf
   ·rename_i hn;have hds:=oa hv iy;simp only[not_or] at hn;obtain⟨zW,R3⟩:=hn;have zW:ds.length=size:=Δ.1 zW;have hlen:off+ds.length≤cs.length:=by omega
    have hsz:v.cells.size=ds.length:=by rw[hds.len];simp
    obtain⟨rs,h1,h2⟩:=wk hp parts parts' (by simpa using hl) (fun j p q hp hq=>hr (j+1) p q hp hq) (h.setMany hds off hlen) hf;refine⟨rs,?_,h2⟩;simp only[Qp,hp _ _ ib];rw[if_neg (by simp[hsz,zW];have:=h.len;omega),Dj]
    simpa using h1
  ·cases hf
section
variable{pv:Pv} {P:Program} (ok:pv.Ok P)
include ok
theorem uc (w:World):∀(fs:List Field) {ps:List (Nat×Nat)},mb pv fs=some ps→(fs.mapM (fun f=>(do pure (f.offset,←sizeOf f.type):Sem (Nat×Nat)))).run P w=.ok ps w
 |[],ps,h=>by simp[mb] at h;subst h;simp
 |f::fs,ps,h=>by
  simp only[mb] at h
  split at h
  ·rename_i s hs
   split at h
   ·rename_i r hr;cases h;have:=uc w fs hr;simp only[List.mapM_cons,ε,cg ok hs,δ,μ];rw[this]
    rfl
   ·cases h
  ·cases h
variable{t:Nat}
theorem gQ (w:World) (x:X) {cs:List D} (h:dG pv t=some cs):∃v,(zeroValue t).run P w=.ok v w∧LR w x cs v.cells.toList:=by
 unfold dG at h
 split at h
 ·rename_i z hz;obtain⟨v,hv,rfl⟩:=xc ok hz w;exact⟨v,hv,oa (.im _ _ (rN _ _ v)) h⟩
 ·cases h
theorem FG {w:World} {x:X} {parts:List (Nat×D)} {parts':List (Nat×Value)} {d:D} (hl:parts.length=parts'.length) (hr:∀(i:Nat) p q,parts[i]?=some p→parts'[i]?=some q→p.1=q.1∧VR w x p.2 q.2) (h:po pv t parts=some d):
  ∃v,(Qg t parts'.toArray).run P w=.ok v w∧VR w x d v:=by
 unfold po at h
 split at h
 ·rename_i z hz;obtain⟨v,hv,hc⟩:=gQ ok w x hz
  have base:∀{r:List D} {place kD:Nat→Option (Nat×Nat)},(∀i r,place i=some r→kD i=some r)→ie place z parts=some r→
    ∃rs:List Value,Qp kD v.cells parts'=some rs.toArray∧LR w x r rs:=by
   intro r place kD hp hf;obtain⟨rs,h2,h3⟩:=wk hp parts parts' hl hr hc hf;exact⟨rs,by simpa using h2,h3⟩
  split at h
  ·rename_i fields hu
   split at h
   ·rename_i ps Bo;obtain⟨r,hf,rfl⟩:=κ.1 h;obtain⟨rs,h1,h2⟩:=base (kD:=fun i=>ps[i]?) (by simp) hf;refine⟨.agg rs.toArray,?_,h2.agg⟩;have hm:=uc ok w _ Bo;simp only[Qg,ε,hv,δ,aN ok hu,Array.mapM_eq_mapM_toList,Sem.run_map];rw[hm];simp[h1]
   ·cases h
  ·rename_i n e hu
   split at h
   ·rename_i s hs;obtain⟨r,hf,rfl⟩:=κ.1 h;obtain⟨rs,h1,h2⟩:=base (kD:=fun i=>some (i*s,s)) (by simp) hf;refine⟨.agg rs.toArray,?_,h2.agg⟩;simp[Qg,hv,aN ok hu,cg ok hs,h1]
   ·cases h
  ·cases h
 ·cases h
end
end Go.V
namespace Go.V
open Go.RowKit
variable{w:World}{b o k base:Nat}{c cs ds:List D}{P:Program}{us:List Value}{st:St}{β:Nat→Option (Nat×Nat)}{Z:Nat→Prop}
theorem cE.append {x:X} {l r:List D} (h:cE w x b o l) (g:cE w x b (o+l.length) r):cE w x b o (l++r):=by
 intro j d hd;rw[Qv] at hd
 split at hd
 ·exact h j d hd
 ·have:=g _ d hd
  rwa [show o+l.length+(j-l.length)=o+j by omega] at this
theorem cE.nil {x:X}:cE w x b o []:=by intro j d hd;simp at hd
theorem oc {w:World} {x:X} {b s:Nat}:∀(es:List D) (off:Nat),(∀(i:Nat) e,es[i]?=some e→e.cells.length=s)→(∀(i:Nat) e,es[i]?=some e→cE w x b (off+i*s) e.cells)→
  cE w x b off (es.flatMap D.cells)∧(es.flatMap D.cells).length=es.length*s
 |[],off,_,_=>⟨.nil,by simp⟩
 |e::es,off,hs,hc=>by
  have h0:=hc 0 e rfl;have hl:=hs 0 e rfl
  obtain⟨h1,h2⟩:=oc es (off+s) (fun i e' he=>hs (i+1) e' he) (fun i e' he=>by
   have:=hc (i+1) e' he
   rwa [show off+(i+1)*s=off+s+i*s by rw[Ξ];omega] at this)
  simp only[List.flatMap_cons,QQ,υ];refine⟨cE.append (by simpa using h0) (by rw[hl];exact h1),?_⟩;rw[h2,hl,Ξ];omega
theorem cE.lr {x:X} (h:cE w x b o c) (P:Program):∃us:List Value,(loadCells ⟨b,o,none⟩ c.length).run P w=.ok us.toArray w∧LR w x c us:=by
 obtain⟨us,h1,h2,h3,h4⟩:=h.list;exact⟨us,by rw[←h1];exact pE h2,h1.symm,h3,h4⟩
theorem oF (a:Addr):(loadCells a 0).run P w=.ok #[] w:=rfl
theorem yJ (w:World) (x:X) (l:List UInt8):LR w x (l.map fun b=>.int .u8 b.toNat) (l.map fun b=>.int .u8 b.toNat):=by
 refine⟨by simp,fun u hu=>?_,fun i c u hc hu=>?_⟩
 ·obtain⟨b,_,rfl⟩:=List.mem_map.1 hu;rfl
 ·simp only[List.getElem?_map] at hc hu
  cases hb:l[i]? with
  |none=>simp[hb] at hc
  |some b=>simp[hb] at hc hu;subst hc;subst hu;exact .im _ _ (.int _ _)
theorem LR.take {x:X} (h:LR w x cs us) (n:Nat):LR w x (cs.take n) (us.take n):=
 ⟨by simp[h.len],fun u hu=>h.one u (Qn hu),fun i c u hc hu=>by
  rw[Ω] at hc hu
  split at hc
  ·rename_i hi;rw[if_pos hi] at hu;exact h.rel i c u hc hu
  ·cases hc⟩
theorem LR.append {x:X} {vs:List Value} (h:LR w x cs us) (g:LR w x ds vs):LR w x (cs++ds) (us++vs):=
 ⟨by simp[h.len,g.len],fun u hu=>(List.mem_append.1 hu).elim (h.one u) (g.one u),fun i c u hc hu=>by
  rw[Qv] at hc hu
  split at hc
  ·rename_i hi;rw[if_pos (by rw[←h.len];exact hi)] at hu;exact h.rel i c u hc hu
  ·rename_i hi;rw[if_neg (by rw[←h.len];exact hi)] at hu;rw[←h.len] at hu;exact g.rel _ c u hc hu⟩
theorem rC (h:gI w st β Z) {d:D} {v:Value} {n:Nat} {ys:List D} (hv:VR w (st.x β Z) d v) (hr:rD st d=some (n,ys)):
  (QG v).run P w=.ok n w∧∀s m,m≤n→ys.length=n*s→∃us:List Value,(ι s m v).run P w=.ok us.toArray w∧LR w (st.x β Z) (ys.take (m*s)) us:=by
 unfold rD at hr
 split at hr
 ·rename_i es;cases hr;obtain⟨a,cap,rfl,hc,o9⟩:=lq hv;refine⟨rfl,fun s m hm hs=>?_⟩
  rcases o9 with rfl|⟨b,off,s0,rfl,hz,gi,hcl,_⟩
  ·have kW:m=0:=by simpa using hm
   subst kW;refine⟨[],?_,⟨by simp,by simp,by simp⟩⟩
   cases a with
   |none=>simp[ι]
   |some a=>simp[ι,oF]
  ·obtain⟨h1,h2⟩:=oc es off (fun i e he=>(gi i e he).2) hcl
   by_cases h0:es.length=0
   ·have kW:m=0:=by omega
    subst kW;exact⟨[],by simp[ι,oF],⟨by simp,by simp,by simp⟩⟩
   ·have Bm:s0=s:=Qd (by omega) (h2.symm.trans hs);subst Bm;obtain⟨us,jh,lh⟩:=(h1.take (m*s0)).lr P;have hle:m*s0≤(es.flatMap D.cells).length:=by rw[h2];exact θ _ hm
    rw[J8,Jj hle] at jh;exact⟨us,jh,lh⟩
 ·cases hr;rw[eY hv];refine⟨rfl,fun s m hm hs=>⟨[],by simp[ι],⟨by simp,by simp,by simp⟩⟩⟩
 ·rename_i k aG off len sz;obtain⟨⟨a,c⟩,hm,hr⟩:=γ.1 hr;dsimp only at hr
  split at hr
  ·rename_i hle;cases hr;obtain⟨ad,cap,rfl,hc,hk,_,jv⟩:=eX hv;obtain⟨b,base,Gi,hb,hsz,we⟩:=jv (df hm).2;have hcl:=((h.cells hm hb).drop off).take (n*sz);have hlen:((c.drop off).take (n*sz)).length=n*sz:=by simp;omega
   refine⟨rfl,fun s m Dh hs=>?_⟩
   rcases we with rfl|⟨rfl,_⟩
   ·have kW:m=0:=by omega
    subst kW;exact⟨[],by simp[ι,oF],⟨by simp,by simp,by simp⟩⟩
   ·obtain⟨us,jh,lh⟩:=(hcl.take (m*s)).lr P;have hle:m*s≤((c.drop off).take (n*sz)).length:=by rw[hs];exact θ _ Dh
    rw[J8,Jj hle] at jh;exact⟨us,jh,lh⟩
  ·cases hr
 ·rename_i l;cases hr;rw[fV hv];refine⟨by simp[QG,Qk],fun s m hm hs=>?_⟩;simp only[List.length_map] at hs
  by_cases h0:l.length=0
  ·have kW:m=0:=by omega
   subst kW;have hl:l=[]:=ξ.1 h0;subst hl;exact⟨[],by simp[ι],⟨by simp,by simp,by simp⟩⟩
  ·have Bm:s=1:=by
    have:l.length*1=l.length*s:=by omega
    exact(Qd (by omega) this).symm
   subst Bm;refine⟨(l.take m).map fun b=>.int .u8 b.toNat,?_,?_⟩
   ·simp only[ι,μ]
    congr 1
    apply Jy;simp[QE]
   ·have:=(yJ w (st.x β Z) l).take (m*1)
    simpa[←List.map_take] using this
 ·cases hr
def rv (c:Array Value) (off:Nat):List Value→Array Value
 |[]=>c
 |v::vs=>rv (c.setIfInBounds off v) (off+1) vs
theorem l7:∀(vs:List Value) (c:Array Value) (off:Nat),(rv c off vs).size=c.size
 |[],c,off=>rfl
 |v::vs,c,off=>by simp only[rv];rw[l7 vs];simp
theorem rr:∀(vs:List Value) (c:Array Value) (off j:Nat),off+vs.length≤c.size→(rv c off vs)[j]?=if off≤j∧j<off+vs.length then vs[j-off]? else c[j]?
 |[],c,off,j,_=>by simp only[rv,QU,Qy];rw[if_neg (by omega)]
 |v::vs,c,off,j,h=>by
  simp only[υ] at h;simp only[rv,υ];rw[rr vs _ (off+1) j (by simp;omega)]
  by_cases h1:off+1≤j∧j<off+1+vs.length
  ·rw[if_pos h1,if_pos (by omega),show j-off=(j-(off+1))+1 by omega,τ]
  ·rw[if_neg h1]
   by_cases h2:j=off
   ·subst h2;rw[if_pos (by omega),Qi,ζ (by omega)];rfl
   ·rw[if_neg (by omega),ρ (by omega)]
theorem ku {P:Program} {b:Nat} {el:TypeId} {fr:Nat×Nat}:∀(vs:List Value) (i o:Nat) (w:World) (c:Array Value),w.heap[b]?=some (.cells c el fr)→o+i+vs.length≤c.size→(∀q,q<c.size→¬(fr.1≤q∧q<fr.2))→
  (∀v∈vs,v.oneCell'=true)→(storeCells ⟨b,o,none⟩ vs i).run P w=.ok () (match vs with|[]=>w|_=>wput w b (.cells (rv c (o+i) vs) el fr))
 |[],i,o,w,c,_,_,_,_=>rfl
 |v::vs,i,o,w,c,hw,hl,hf,h1=>by
  simp only[υ] at hl
  have Sr:(⟨b,o,none⟩:Addr).add i=⟨b,o+i,none⟩:=by
   unfold Addr.add;split
   ·rename_i e;subst e;rfl
   ·rfl
  have hcell:w.cell? ⟨b,o+i,none⟩=some (c[o+i]'(by omega)):=by
   simp[World.cell?,hw,Array.getElem?_eq_getElem (show o+i<c.size by omega)]
  have hfr:w.frozen? ⟨b,o+i,none⟩=false:=by
   have:=hf (o+i) (by omega);simp only[World.frozen?,hw];simp only[Bool.and_eq_false_iff,decide_eq_false_iff_not];omega
  have fO:w.setCell ⟨b,o+i,none⟩ v=wput w b (.cells (c.setIfInBounds (o+i) v) el fr):=by
   simp only[World.setCell,wput]
   congr 1
   apply QF;intro j;rw[Array.getElem?_modify]
   by_cases hj:b=j
   ·subst hj
    have hb:b<w.heap.size:=by
     rcases φ b w.heap.size with h'|h'
     ·exact h'
     ·rw[Qe h'] at hw;cases hw
    rw[if_pos rfl,hw,ζ hb];simp
   ·rw[if_neg hj,ρ hj]
  have hb:b<w.heap.size:=by
   rcases φ b w.heap.size with h'|h'
   ·exact h'
   ·rw[Qe h'] at hw;cases hw
  have XS:(wput w b (.cells (c.setIfInBounds (o+i) v) el fr)).heap[b]?=some (.cells (c.setIfInBounds (o+i) v) el fr):=by
   simp only[wput];rw[ζ hb]
  have ih:=ku (P:=P) vs (i+1) o (wput w b (.cells (c.setIfInBounds (o+i) v) el fr)) _ XS (by simp;omega) (by simpa using hf) (fun u hu=>h1 u (List.mem_cons_of_mem _ hu));simp only[storeCells,ε,Sr,run_store P w _ v .plain (h1 v (List.mem_cons_self ..)),hcell,hfr,Γ,if_false,δ,fO,ih]
  cases vs with
  |nil=>simp[rv]
  |cons v' vs=>
   simp only[rv]
   congr 1
   simp[wput,show o+(i+1)=o+i+1 by omega]
theorem Nx.move {w':World} (h:gI w st β Z) {aG:Nat} {a a':Bool} {c':List D} (hm:st.fk k aG=some (a,c)) (hb:β k=some (b,base)) (eT:st.ro≤k) {cs:Array Value} {el:TypeId} (hh:w'.heap=w.heap.push (.cells cs el (0,0))) (ho:w'.os=w.os) (ht:w'.tape=w.tape) (hp:w'.output=w.output) (hl:c'.length≤cs.size) (hc:∀(j:Nat) d,c'[j]?=some d→∃u,cs[j]?=some u∧u.oneCell'=true∧VR w (st.x β Z) d u):
  Nx w st β Z w' {st with bs:=st.bs.set k (.mem (aG+1) a' c')} (fun i=>if i=k then some (w.heap.size,0) else β i) Z:=by
 obtain⟨ir,j8⟩:=df hm;have iL:k<st.bs.length:=h.dom k b base hb
 have hold:∀i,i<w.heap.size→w'.heap[i]?=w.heap[i]?:=by
  intro i hi;rw[hh,QB,if_neg (by omega)]
 have heq:w'.heap[w.heap.size]?=some (.cells cs el (0,0)):=by rw[hh];simp
 have hsz:w'.heap.size=w.heap.size+1:=by rw[hh,J5]
 have sx:∀i,i≠k→({st with bs:=st.bs.set k (.mem (aG+1) a' c')}:St).aG i=st.aG i:=by
  intro i hi;simp only[St.aG];rw[ς (by omega)]
 have sv:({st with bs:=st.bs.set k (.mem (aG+1) a' c')}:St).aG k=some (aG+1):=by
  simp[St.aG,iL,db]
 have hk:dK w (st.x β Z) w' (({st with bs:=st.bs.set k (.mem (aG+1) a' c')}:St).x (fun i=>if i=k then some (w.heap.size,0) else β i) Z):=by
  refine⟨fun i p hp=>?_,fun i hi=>⟨hi,hold i (h.zl i hi)⟩,fun i q p hi hq=>?_,fun i q hq nS i' y hy=>?_⟩
  ·by_cases hik:i=k
   ·subst hik;exact⟨(w.heap.size,0),by simp[St.x]⟩
   ·exact⟨p,by simp only[St.x] at hp⊢;rw[if_neg hik];exact hp⟩
  ·by_cases hik:i=k
   ·subst hik;simp only[St.x] at hq⊢;rw[sv] at hq;cases hq;exact⟨aG,j8,by omega⟩
   ·simp only[St.x] at hq⊢;rw[sx i hik] at hq;exact⟨q,hq,η _⟩
  ·by_cases hik:i=k
   ·subst hik;simp only[St.x] at hq nS hy⊢;rw[sv] at hq;cases hq;rw[j8] at nS;simp at nS
   ·simp only[St.x] at hy⊢;exact⟨by rw[if_neg hik];exact hy,et (hold i' (h.lt i i' y hy))⟩
 refine⟨⟨?_,?_,?_,?_,?_,?_,?_,?_⟩,hk,⟨ho,ht,hp,by omega,fun i hi _=>hold i hi⟩,?_,fun _ hz=>.inl hz,by simp,rfl,rfl,?_,fun i _ h0=>by
   by_cases e:i=k
   ·subst e;rw[hb] at h0;cases h0
   ·simp only[if_neg e];rw[ς (by omega)];exact⟨h0,rfl⟩⟩
 ·intro i q y hq;simp only[JZ]
  split at hq
  ·rename_i e;subst e;exact iL
  ·exact h.dom i q y hq
 ·intro i q y hq
  split at hq
  ·cases hq;omega
  ·have:=h.lt i q y hq;omega
 ·intro i i' q y y' h1 h2
  split at h1<;>split at h2
  ·omega
  ·rename_i e _;cases h1;have:=h.lt _ _ _ h2;omega
  ·rename_i _ e;cases h2;have:=h.lt _ _ _ h1;omega
  ·exact h.inj i i' q y y' h1 h2
 ·intro i q y hq hz
  split at hq
  ·cases hq;have:=h.zl _ hz;omega
  ·exact h.zd i q y hq hz
 ·intro i hz;have:=h.zl i hz;omega
 ·intro i q y bx hq sE;(dsimp only at hq sE)
  split at hq
  ·rename_i e;subst e;cases hq;rw[QK iL] at sE;cases sE;refine⟨cs,el,(0,0),heq,by omega,qH.zero _,fun j d hd=>?_⟩;obtain⟨u,jh,lh,o5⟩:=hc j d hd;exact⟨u,by rw[Ql];exact jh,lh,o5.mono hk⟩
  ·rename_i e;rw[ς (by omega)] at sE;exact(h.box i q y bx hq sE).bd hk (hold q (h.lt i q y hq))
 ·have:=h.flr;simp;omega
 ·have:=h.ro;simp;omega
 ·intro i q y hq
  split at hq
  ·cases hq;exact .inr (η _)
  ·exact .inl ⟨y,hq⟩
 ·intro i hi;dsimp only;rw[ς (by omega),if_neg (by omega)];exact⟨rfl,rfl⟩
theorem eD {r:Nat} (h:st.jn k r=true):st.ro≤k:=by
 simp only[St.jn,J6,decide_eq_true_eq] at h;exact h.1
theorem AJ {ai:St} (h:gI w st β Z) {aG off:Nat} (hu:LR w (st.x β Z) ds us) (hw:st.wr k aG off ds=some ai) (hb:β k=some (b,base)) {a:Addr} (ha:us=[]∨a=⟨b,base+off,none⟩):∃w',(storeCells a us).run P w=.ok () w'∧∃β',Nx w st β Z w' ai β' Z∧β'=β:=by
 unfold St.wr at hw
 split at hw
 ·rename_i ar c hm
  split at hw
  ·rename_i hc;cases hw;obtain⟨cs,el,fr,h1,h2,h3,h4⟩:=h.row hm hb;have hlen:=hu.len
   have hx:(fun i=>if i=k then some (b,base) else β i)=β:=by
    funext i;split
    ·rename_i e;subst e;exact hb.symm
    ·rfl
   have key:∀cs':Array Value,cs'.size=cs.size→(∀j,cs'[base+j]?=if off≤j∧j<off+us.length then us[j-off]? else cs[base+j]?)→
     Nx w st β Z (wput w b (.cells cs' el fr)) {st with bs:=st.bs.set k (.mem aG ar (setMany c off ds))} β Z:=by
    intro cs' hs hg
    have:=Nx.write (a':=ar) (my:=aG) (c':=setMany c off ds) (dt:=base) h hm hb (eD hc.2) (η _) (fun _=>rfl) h1 hs (by rw[dX];omega) (fun j d hd=>by
     rw[jo ds c off j hc.1] at hd;rw[hg j]
     split at hd
     ·rename_i hj;rw[if_pos (by omega)];exact hu.at_ hd
     ·rename_i hj;rw[if_neg (by omega)]
      exact h4 j d hd)
    rwa [hx] at this
   rcases Nat.eq_zero_or_pos us.length with h0|h0
   ·have WO:us=[]:=ξ.1 h0;subst WO;have eF:b<w.heap.size:=h.lt k b base hb
    have xZ:wput w b (.cells cs el fr)=w:=by
     simp only[wput]
     have:w.heap.setIfInBounds b (.cells cs el fr)=w.heap:=by
      apply QF;intro j
      by_cases hj:b=j
      ·subst hj;rw[ζ eF,h1]
      ·rw[ρ hj]
     rw[this]
    have:=key cs rfl (fun j=>by rw[if_neg (by simp only[QU,Qy];omega)]);rw[xZ] at this;exact⟨w,rfl,β,this,rfl⟩
   ·rcases ha with rfl|rfl
    ·simp at h0
    ·have j_:=ku (P:=P) us 0 (base+off) w cs h1 (by omega) h3.2 hu.one;refine⟨_,j_,β,?_,rfl⟩
     cases us with
     |nil=>simp at h0
     |cons u us=>
      refine key _ (l7 _ _ _) fun j=>?_;rw[rr _ _ _ _ (by omega)]
      by_cases hj:off≤j∧j<off+(u::us).length
      ·rw[if_pos hj,if_pos (by omega)];congr 1<;>omega
      ·rw[if_neg hj,if_neg (by omega)]
  ·cases hw
 ·cases hw
section
variable{pv:Pv} {P:Program} (ok:pv.Ok P)
include ok
variable{w:World}{st ai:St}{β:Nat→Option (Nat×Nat)}{Z:Nat→Prop}{d e:D}{u v:Value}
theorem Du (h:gI w st β Z) {t:Nat} (hu:VR w (st.x β Z) d u) (hv:VR w (st.x β Z) e v) (hs:lu pv t d e st=some ai):
  ∃w',(Jq t u v).run P w=.ok () w'∧Nx w st β Z w' ai β Z:=by
 unfold lu at hs
 split at hs
 ·rename_i k aG off cs iy
  split at hs
  ·rename_i hsz;obtain⟨a,rfl,hk,jv⟩:=cz hu;have hc:=oa hv iy
   have j8:st.aG k=some aG:=by
    unfold St.wr at hs
    split at hs
    ·rename_i hm;exact(df hm).2
    ·cases hs
   obtain⟨b,base,hb,rfl⟩:=jv j8;obtain⟨w',h1,β',h2,rfl⟩:=AJ (P:=P) h hc hs hb (.inr rfl);refine⟨w',?_,h2⟩;have xX:v.cells.size=cs.length:=by rw[hc.len];simp
   simp[Jq,QZ,storeVar,cg ok hsz,xX,h1]
  ·cases hs
 ·cases hs
theorem M7 (h:gI w st β Z) {ow:List TypeId} {ty:TypeId} {r:D} (hu:VR w (st.x β Z) d u) (hv:VR w (st.x β Z) e v) (hs:uU pv ow d e st=some (r,ai)):∃z w',(QA ow.toArray ty #[u,v]).run P w=.ok z w'∧Nx w st β Z w' ai β Z∧VR w' (ai.x β Z) r z:=by
 unfold uU at hs
 split at hs
 ·rename_i dT rest
  split at hs
  ·rename_i el Sh;obtain⟨s,hsz,hs⟩:=γ.1 hs;obtain⟨⟨m,ys⟩,kY,hs⟩:=γ.1 hs;dsimp only at hs
   split at hs
   ·cases hs
   ·rename_i kU;have kU:ys.length=m*s:=Δ.1 kU;obtain⟨hlen,dM⟩:=rC (P:=P) h hv kY
    cases d with
    |win k aG off len sz=>
     simp only at hs
     split at hs
     ·cases hs
     ·rename_i Bm;have Bm:sz=s:=Δ.1 Bm;subst Bm;obtain⟨a,cap,rfl,hc,hk,_,jv⟩:=eX hu;obtain⟨st1,hwr,hs⟩:=κ.1 hs;cases hs
      have j8:st.aG k=some aG:=by
       unfold St.wr at hwr
       split at hwr
       ·rename_i hm;exact(df hm).2
       ·cases hwr
      obtain⟨b,base,Gi,hb,_,we⟩:=jv j8;obtain⟨us,h1,h2⟩:=dM sz (min m len) (Nat.min_le_left _ _) kU
      have hla:us=[]∨a=⟨b,base+off,none⟩:=by
       rcases we with rfl|⟨rfl,_⟩
       ·left;have:len=0:=by omega
        subst this;have:=h2.len;simp at this;exact ξ.1 this.symm
       ·exact .inr rfl
      obtain⟨w',h3,β',h4,rfl⟩:=AJ (P:=P) h h2 hwr hb hla;refine⟨_,w',?_,h4,.im _ _ (.int _ _)⟩;have yf:JV m len=min m len:=rfl;simp only[QA,Qx,QX,τ,ε,aN ok Sh,δ,hlen,cg ok hsz,yf,h1,h3,μ,goInt]
    |nul=>
     cases hs;rw[eY hu];obtain⟨us,h1,h2⟩:=dM s 0 (J' _) kU;have WO:us=[]:=by have:=h2.len;simp at this;exact ξ.1 this.symm
     subst WO;refine⟨.int .i64 0,w,?_,Nx.same h,.im _ _ (.int _ _)⟩;have yf:JV m 0=0:=Nat.min_zero m;simp only[QA,Qx,QX,τ,ε,aN ok Sh,δ,hlen,cg ok hsz,yf,h1,μ,goInt]
     rfl
    |_=>cases hs
  ·cases hs
 ·cases hs
end
end Go.V
namespace Go.V
open Go.RowKit
theorem Bx:∀(r c n:Nat),c≤n+n/4+192→J0 n r c≤n+n/4+192
 |0,c,n,h=>h
 |r+1,c,n,h=>by
  unfold J0
  split
  ·exact h
  ·exact Bx r _ n (by omega)
theorem LZ (n c:Nat) (h:c≤n):Qq n c≤2*n+192:=by
 unfold Qq
 split
 ·omega
 ·split
  ·omega
  ·have:=Bx 4 c n (by omega);omega
theorem Cj {vC c bytes:Nat} (hc:c≤vC) (h1:1≤vC) (h:vC*bytes≤1099511627776):¬Qq vC c*bytes>2^48:=by
 have h2:=θ bytes (LZ vC c hc);rw[Ξ,Nat.mul_assoc] at h2;have h3:bytes≤vC*bytes:=by have:=θ bytes h1;omega
 have:192*bytes≤192*1099511627776:=Nat.mul_le_mul_left _ (by omega);omega
theorem FE (vC xB:Nat) (el:TypeId) (t:Nat):vC≤(Question.appendCap vC xB el).cut t:=by
 simp only[Question.cut];omega
theorem tD (w:World) (cs:Array Value) (el:TypeId) (fr:Nat×Nat):cK (w.alloc (.cells cs el fr)) w.heap.size=some cs.size:=by
 have:(w.alloc (.cells cs el fr)).heap[w.heap.size]?=some (.cells cs el fr):=by
  show(w.heap.push _)[w.heap.size]?=_;simp
 simp only[cK,this]
theorem l3 {w':World} {x:X} {k v len s cap b sz:Nat} (j8:x.aG k=some v) (hb:x.β k=some (b,0)) (hsz:cK w' b=some sz) (hl:len≤cap) (hc:cap*s≤sz):
  VR w' x (.win k v 0 len s) (.slice (some ⟨b,0,none⟩) len cap):=by
 refine .win k v 0 len s _ cap hl ⟨_,hb⟩ (fun c Aa=>?_) fun _=>⟨b,0,sz,hb,hsz,.inr ⟨rfl,by omega⟩⟩
 rw[j8] at Aa;cases Aa;exact η _
def yQ (i:TypeInfo) (base:Option Addr) (fK jD n:Nat) (v:Value):Sem Value:=do
 let new←ι i.size n v
 if let some a:=base then storeCells (a.add (fK*i.size)) new.toList
 pure (.slice base (fK+n) jD)
def AA (el:TypeId) (i:TypeInfo) (base:Option Addr) (fK jD n:Nat) (v:Value):Sem Value:=do
 let zy←choose (.appendCap (fK+n) jD el)
 askRoom (zy*i.bytes)
 let xB←ι i.size fK (.slice base fK jD)
 let new←ι i.size n v
 let z←zeroValue el
 pure (.slice (some (←newRow el (xB++new++QD z.cells (zy-(fK+n))))) (fK+n) zy)
section
variable{pv:Pv} {P:Program} (ok:pv.Ok P)
include ok
variable{w:World}{sT xT el n fK jD:Nat}{base:Option Addr}{v:Value}
theorem Az {rest:List TypeId} {ty:TypeId} {xd:TypeDesc} {i:TypeInfo} (NA:pv.cJ sT=some (.slice el)) (Nw:pv.cJ xT=some xd) (NG:¬hO xd=true) (hi:pv.info el=some i) (hlen:(QG v).run P w=.ok n w) (mC:fK+n≤jD):
  (Ψ (sT::xT::rest).toArray ty #[.slice base fK jD,v]).run P w=(yQ i base fK jD n v).run P w:=by
 have xX:∀w':World,(sizeOf el).run P w'=.ok i.size w':=cg ok (kj hi);cases xd<;>first
  |exact absurd rfl NG
  |(simp only[Ψ,yQ,Qx,QX,τ,ε,aN ok NA,aN ok Nw,δ,xX,μ,Γ,if_false,hlen,mC,if_true,JJ];rfl)
theorem Nf {rest:List TypeId} {ty:TypeId} {xd:TypeDesc} {i:TypeInfo} (NA:pv.cJ sT=some (.slice el)) (Nw:pv.cJ xT=some xd) (NG:¬hO xd=true) (hi:pv.info el=some i) (hlen:(QG v).run P w=.ok n w) (mC:¬fK+n≤jD) (Y_:¬i.bytes=0) (lQ:¬Qq (fK+n) jD*i.bytes>2^48):
  (Ψ (sT::xT::rest).toArray ty #[.slice base fK jD,v]).run P w=(AA el i base fK jD n v).run P w:=by
 have xX:∀w':World,(sizeOf el).run P w'=.ok i.size w':=cg ok (kj hi);have U6:∀w':World,(typeInfo el).run P w'=.ok i w':=nC ok hi;cases xd<;>first
  |exact absurd rfl NG
  |(simp only[Ψ,AA,Qx,QX,τ,ε,aN ok NA,aN ok Nw,δ,xX,μ,Γ,if_false,hlen,mC,U6,Y_,lQ,or_self,and_false,JJ,if_true];try rfl)
theorem C7 {st ai:St} {β:Nat→Option (Nat×Nat)} {Z:Nat→Prop} (h:gI w st β Z) {ow:List TypeId} {ty:TypeId} {d e r:D} {u:Value} (hu:VR w (st.x β Z) d u) (hv:VR w (st.x β Z) e v) (hs:iO pv ow d e st=some (r,ai)):∃z w' β',(Ψ ow.toArray ty #[u,v]).run P w=.ok z w'∧Nx w st β Z w' ai β' Z∧VR w' (ai.x β' Z) r z:=by
 unfold iO at hs
 split at hs
 ·rename_i sT xT rest
  split at hs
  ·rename_i el xd NA Nw
   split at hs
   ·cases hs
   ·rename_i NG;obtain⟨i,hi,hs⟩:=γ.1 hs;obtain⟨z,hz,hs⟩:=γ.1 hs;obtain⟨⟨n,ys⟩,kY,hs⟩:=γ.1 hs;dsimp only at hs
    split at hs
    ·cases hs
    ·rename_i wJ;simp only[not_or] at wJ;obtain⟨kU,Y_,lg⟩:=wJ;have kU:ys.length=n*i.size:=Δ.1 kU;have lg:z.length=i.size:=Δ.1 lg;obtain⟨hlen,dM⟩:=rC (P:=P) h hv kY;obtain⟨us,Ru,Cv⟩:=dM i.size n (η _) kU;rw[←kU,J9] at Cv;have hS:Nx w st β Z w.drew st β Z:=Nx.still h rfl rfl rfl rfl;obtain⟨zv,Uh,Rp⟩:=gQ ok w.drew (st.x β Z) hz;have hzs:zv.cells.size=i.size:=by have:=Rp.len;rw[lg] at this;simpa using this.symm
     obtain⟨vs,XT,Mj⟩:=(rC (P:=P) hS.sim (hv.mono hS.keeps) kY).2 i.size n (η _) kU;rw[←kU,J9] at Mj
     have grow:∀(base:Option Addr) (fK jD:Nat) (os:List Value),u=.slice base fK jD→¬(fK+n≤jD)→(ι i.size fK u).run P w.drew=.ok os.toArray w.drew→os.length=fK*i.size→
       1≤fK+n→(fK+n)*i.bytes≤1099511627776→
       ∃cap cs,(Ψ (sT::xT::rest).toArray ty #[u,v]).run P w=.ok (.slice (some ⟨w.heap.size,0,none⟩) (fK+n) cap) (w.drew.alloc (.cells cs el))∧fK+n≤cap∧
        cap*i.size≤cs.size∧∀(j:Nat) q,(os++vs)[j]?=some q→cs[j]?=some q:=by
      intro base fK jD os hue mC hos RY h1 lQ;subst hue;have CF:=FE (fK+n) jD el (w.tape w.drawn (.appendCap (fK+n) jD el));generalize hq:(Question.appendCap (fK+n) jD el).cut (w.tape w.drawn (.appendCap (fK+n) jD el))=cap at CF;refine⟨cap,os.toArray++vs.toArray++QD zv.cells (cap-(fK+n)),?_,CF,?_,?_⟩
      ·have RG:=Cj (bytes:=i.bytes) (Nat.le_of_lt (Nat.lt_of_not_le mC)) h1 lQ;rw[Nf ok NA Nw NG hi hlen mC Y_ RG,AA];simp only[ε,run_choose,Question.forced,Γ,if_false,δ,run_askRoom];have tI:({w with drawn:=w.drawn+1}:World)=w.drew:=rfl;rw[tI,hq];simp only[δ,hos,XT,Uh,newRow,ε,run_newObj,μ]
       rfl
      ·simp only[Array.size_append,QP,QD,Array.size_map,Array.size_range,hzs];have:=Mj.len;rw[RY,←this,kU,←Ξ,←Ξ];exact θ _ (by omega)
      ·intro j q hj
       have hlt:j<(os++vs).length:=by
        rcases φ j (os++vs).length with h'|h'
        ·exact h'
        ·rw[ν h'] at hj;cases hj
       rw[Array.getElem?_append_left (by simpa using hlt)]
       simpa using hj
     cases d with
     |nul=>
      have XV:=eY hu;simp only at hs
      split at hs
      ·rename_i hn;cases hs;subst XV;subst hn;have Rv:us=[]:=by have:=Cv.len;rw[kU] at this;simp at this;exact ξ.1 this.symm
       subst Rv;refine⟨.slice none 0 0,w,β,?_,Nx.same h,.im _ _ .nul⟩;rw[Az ok NA Nw NG hi hlen (by omega),yQ];simp only[ε,Ru,δ,μ]
      ·rename_i hn
       split at hs
       ·rename_i lQ;cases hs;obtain⟨cap,cs,h1,h2,h3,h4⟩:=grow none 0 0 [] XV (by omega) (by rw[XV];simp[ι]) (by simp) (by omega) (by simpa using lQ);simp only[Ql,List.nil_append] at h1 h2 h4
        obtain⟨hx,hx1,Rr,hx3⟩:=Nx.lE (w':=w.drew.alloc (.cells cs el)) hS.sim true ys cs el (0,0) rfl rfl rfl rfl (by
         rw[kU];exact Φ (θ _ h2) h3) (qH.zero _) (fun j q hq=>by
          obtain⟨y,hy1,Ct,Mi⟩:=Mj.at_ hq
          exact⟨y,h4 j y hy1,Ct,Mi⟩)
        exact⟨_,_,_,h1,hS.trans hx,l3 Rr hx3 hx1 h2 h3⟩
       ·cases hs
     |win k aG off len sz=>
      simp only at hs
      split at hs
      ·rename_i c hm
       split at hs
       ·cases hs
       ·rename_i hsz;simp only[not_or,Nat.not_lt] at hsz;obtain⟨hsz,hcl⟩:=hsz;have hsz:sz=i.size:=Δ.1 hsz;obtain⟨a,cap,rfl,hc,hk,_,jv⟩:=eX hu;obtain⟨b,base,Gi,hb,kV,we⟩:=jv (df hm).2
        split at hs
        ·rename_i hn;cases hs;subst hn;have Rv:us=[]:=by have:=Cv.len;rw[kU] at this;simp at this;exact ξ.1 this.symm
         subst Rv;refine⟨.slice (some a) len cap,w,β,?_,Nx.same h,hu⟩;rw[Az ok NA Nw NG hi hlen (by omega),yQ];simp only[ε,Ru,δ,μ]
         rfl
        ·rename_i hn
         split at hs
         ·rename_i lQ;obtain⟨lQ,F'⟩:=lQ;cases hs;subst hsz;have yk:((c.take (off+len*i.size)).drop off).length=len*i.size:=by simp;omega
          obtain⟨SI,el0,Zv,r1,r2,r3,r4⟩:=h.row hm hb
          by_cases mC:len+n≤cap
          ·
           have Zc:a=⟨b,base+off,none⟩∧base+off+cap*i.size≤Gi:=by
            rcases we with h0|h0
            ·omega
            ·exact h0
           obtain⟨rfl,U_⟩:=Zc;have aaO:SI.size=Gi:=by simp only[cK,r1] at kV;cases kV;rfl
           have aaN:us.length=n*i.size:=by rw[←Cv.len,kU]
           have U9:(len+n)*i.size≤cap*i.size:=θ _ mC;rw[Ξ] at U9;have j_:=ku (P:=P) us 0 (base+off+len*i.size) w SI r1 (by omega) r3.2 Cv.one
           have Sr:(⟨b,base+off,none⟩:Addr).add (len*i.size)=⟨b,base+off+len*i.size,none⟩:=by
            unfold Addr.add;split
            ·rename_i e;rw[e];rfl
            ·rfl
           have hne:us≠[]∨us=[]:=by cases us<;>simp
           have R8:(storeCells ⟨b,base+off+len*i.size,none⟩ us).run P w=.ok () (wput w b (.cells (rv SI (base+off+len*i.size) us) el0 Zv)):=by
            rw[j_]
            cases us with
            |nil=>
             simp only[rv];have eF:b<w.heap.size:=h.lt k b base hb
             congr 1
             simp only[wput]
             have:w.heap.setIfInBounds b (.cells SI el0 Zv)=w.heap:=by
              apply QF;intro j
              by_cases hj:b=j
              ·subst hj;rw[ζ eF,r1]
              ·rw[ρ hj]
             rw[this]
            |cons _ _=>simp
           have hx:=Nx.write (a':=true) (my:=aG+1) (c':=(c.take (off+len*i.size)).drop off++ys) (dt:=base+off) h hm hb (eD F') (by omega) (fun e=>by omega) r1
            (l7 us SI (base+off+len*i.size)) (by rw[QQ,yk,kU];omega) (fun j q hq=>by
             rw[rr _ _ _ _ (by omega)];rw[Qv] at hq
             split at hq
             ·rename_i hj;rw[yk] at hj;rw[if_neg (by omega)];rw[Θ,Ω] at hq
              split at hq
              ·have:=r4 _ q hq
               rwa [show base+(off+j)=base+off+j by omega] at this
              ·cases hq
             ·rename_i hj;rw[yk] at hj hq;obtain⟨y,hy1,Ct,Mi⟩:=Cv.at_ hq
              have jI:j-len*i.size<us.length:=by
               rcases φ (j-len*i.size) us.length with h'|h'
               ·exact h'
               ·rw[ν h'] at hy1;cases hy1
              rw[if_pos (by omega)]
              exact⟨y,by rw[←hy1];congr 1;omega,Ct,Mi⟩)
           have iL:k<st.bs.length:=h.dom k b base hb;refine⟨.slice (some ⟨b,base+off,none⟩) (len+n) cap,_,_,?_,hx,?_⟩
           ·rw[Az ok NA Nw NG hi hlen mC,yQ];simp only[ε,Ru,δ,μ,Sr,R8]
           ·refine .win k (aG+1) 0 (len+n) i.size _ cap mC ⟨_,by simp[St.x];rfl⟩ (fun q hq=>?_) fun _=>⟨b,base+off,SI.size,by simp[St.x],?_,.inr ⟨rfl,by omega⟩⟩
            ·simp[St.x,St.aG,iL,db] at hq;omega
            ·have eF:b<w.heap.size:=h.lt k b base hb;simp only[cK,wput];rw[ζ eF];simp[l7]
          ·
           have hold:∃os:List Value,(ι i.size len (.slice (some a) len cap)).run P w.drew=.ok os.toArray w.drew∧LR w.drew (st.x β Z) ((c.take (off+len*i.size)).drop off) os:=by
            have Uy:rD st (.win k aG off len i.size)=some (len,(c.drop off).take (len*i.size)):=by
             simp[rD,hm,hcl]
            have:=(rC (P:=P) hS.sim (hu.mono hS.keeps) Uy).2 i.size len (η _) (by simp;omega);obtain⟨os,yc,uF⟩:=this;refine⟨os,yc,?_⟩;rw[List.take_take,Nat.min_self] at uF
            rwa [Jx,Nat.add_sub_cancel_left]
           obtain⟨os,yc,uF⟩:=hold;have RY:os.length=len*i.size:=by rw[←uF.len,yk]
           obtain⟨aao,cs,h1,h2,h3,h4⟩:=grow (some a) len cap os rfl mC yc RY (by omega) lQ;have yg:=uF.append Mj
           have hx:=Nx.move (w':=w.drew.alloc (.cells cs el)) (a':=true) (c':=(c.take (off+len*i.size)).drop off++ys) hS.sim hm hb (eD F') rfl rfl rfl rfl (by
            rw[QQ,yk,kU,←Ξ];exact Φ (θ _ h2) h3) (fun j q hq=>by
             obtain⟨y,hy1,Ct,Mi⟩:=yg.at_ hq
             exact⟨y,h4 j y hy1,Ct,Mi⟩)
           have iL:k<st.bs.length:=h.dom k b base hb;refine⟨_,_,_,h1,hS.trans hx,?_⟩
           refine .win k (aG+1) 0 (len+n) i.size _ aao h2 ⟨_,by simp[St.x];rfl⟩ (fun q hq=>?_) fun _=>⟨w.heap.size,0,cs.size,by simp[St.x],tD w.drew cs el (0,0),.inr ⟨rfl,by omega⟩⟩
           simp[St.x,St.aG,iL,db] at hq;omega
         ·cases hs
      ·cases hs
     |_=>cases hs
  ·cases hs
 ·cases hs
end
end Go.V
namespace Go.V
open Go.RowKit
theorem lY (b o n:Nat):(⟨b,o,none⟩:Addr).add n=⟨b,o+n,none⟩:=by
 unfold Addr.add;split
 ·rename_i e;subst e;rfl
 ·rfl
variable{w:World}{off:Nat}
theorem IR.Fk {Z:Nat→Prop} {cs:List D} {b:Nat} {f:Nat→Value} (hz:Z b) (hv:∀(j:Nat) c,cs[j]?=some c→w.cell? ⟨b,off+j,none⟩=some (f j)∧(f j).oneCell'=true) (hr:∀(j:Nat) c,cs[j]?=some c→IR w Z c (f j)) (n:Nat):IR w Z (.ep (cs.drop n)) (.pointer (some ⟨b,off+n,none⟩)):=by
 refine .ep _ b (off+n) (fun j=>f (n+j)) hz (fun j c hj=>?_) (fun j c hj=>?_)
 ·rw[Θ] at hj;have:=hv _ c hj
  rwa [show off+(n+j)=off+n+j by omega] at this
 ·rw[Θ] at hj;exact hr _ c hj
theorem VR.D0 {x:X} {k vr:Nat} {a:Addr} (h:VR w x (.ptr k vr off) (.pointer (some a))) (n:Nat):VR w x (.ptr k vr (off+n)) (.pointer (some (a.add n))):=by
 cases h with
 |im _ _ h=>cases h
 |ptr _ _ _ _ hk hm h=>
  refine .ptr k vr (off+n) _ hk hm fun hv=>?_;obtain⟨b,base,hb,rfl⟩:=h hv;exact⟨b,base,hb,by rw[lY,QY]⟩
theorem tL (s:List UInt8) (l h:Nat):(⟨s.toArray⟩:ByteArray).extract l h=⟨((s.take h).drop l).toArray⟩:=by
 apply JK;simp[QE,Qc,Jx]
section
variable{pv:Pv} {P:Program} (ok:pv.Ok P)
include ok
variable{w:World}{t i:Nat}{d r e:D}{u v:Value}{st:St}{β:Nat→Option (Nat×Nat)}{Z:Nat→Prop}
theorem wm {x:X} (hu:VR w x d u) (h:e_ pv t d i=some r):∃z,(Qa t u i).run P w=.ok z w∧VR w x r z:=by
 unfold e_ at h
 split at h
 ·rename_i fields ht;obtain⟨f,hf,h⟩:=γ.1 h
  split at h
  ·cases h
  ·rename_i h0;obtain⟨s,hs,h⟩:=γ.1 h;have NB:¬s=0:=by intro e;subst e;exact h0 hs
   split at h
   ·cases h;obtain⟨a,rfl,_⟩:=cz hu;refine⟨.pointer (some (a.add f.offset)),?_,hu.D0 _⟩;simp[Qa,aN ok ht,hf,QZ,fieldPlace,cg ok hs,NB]
   ·cases h;obtain⟨b,off,rfl,hz,_,g,hv,hr⟩:=rj hu;refine⟨.pointer (some ((⟨b,off,none⟩:Addr).add f.offset)),?_,.im _ _ ?_⟩
    ·simp[Qa,aN ok ht,hf,QZ,fieldPlace,cg ok hs,NB]
    ·rw[lY];exact IR.Fk hz hv hr _
   ·cases h
 ·cases h
theorem Fg {x:X} (hu:VR w x d u) (h:Ae pv t d i=some r):∃z,(Jk t u i).run P w=.ok z w∧VR w x r z:=by
 unfold Ae at h
 split at h
 ·rename_i fields cs ht;obtain⟨f,hf,h⟩:=γ.1 h;obtain⟨us,rfl,hl,h1,hr⟩:=iu hu;obtain⟨z,hz,yU⟩:=mc ok hl h1 hr h;exact⟨z,by simp[Jk,aN ok ht,hf,asAgg,hz],yU⟩
 ·cases h
theorem EE {x:X} (hu:VR w x d u) (hv:VR w x e v) (h:su pv t d e=some r):∃z,(Qh t u v).run P w=.ok z w∧VR w x r z:=by
 unfold su at h
 split at h
 ·rename_i k i;rw[cO hv]
  split at h
  ·rename_i len el cs ht;obtain⟨s,hs,h⟩:=γ.1 h
   split at h
   ·rename_i hi;obtain⟨us,rfl,hl,h1,hr⟩:=iu hu;obtain⟨z,hz,yU⟩:=mc ok hl h1 hr h;exact⟨z,by simp[Qh,asIntOf,aN ok ht,hi,cg ok hs,hz],yU⟩
   ·cases h
  ·rename_i l ht
   split at h
   ·rename_i hi;obtain⟨b,hb,rfl⟩:=κ.1 h;rw[fV hu];refine⟨.int .u8 b.toNat,?_,.im _ _ (.int _ _)⟩
    have:(⟨l.toArray⟩:ByteArray)[i.toNat]?=some b:=by
     have hlt:i.toNat<l.length:=by
      rcases φ i.toNat l.length with h'|h'
      ·exact h'
      ·rw[ν h'] at hb;cases hb
     rw[getElem?_pos (⟨l.toArray⟩:ByteArray) i.toNat (by simpa[Qk] using hlt)];rw[π hlt] at hb;cases hb
     rfl
    simp[Qh,asIntOf,aN ok ht,hi,this]
   ·cases h
  ·cases h
 ·cases h
theorem vS (hu:VR w (st.x β Z) d u) (hv:VR w (st.x β Z) e v) (h:cm pv t d e st=some r):
  ∃z,(Qw t u v).run P w=.ok z w∧VR w (st.x β Z) r z:=by
 unfold cm at h
 split at h
 ·rename_i k i;rw[cO hv]
  split at h
  ·rename_i len el k aG off ht;obtain⟨s,hs,h⟩:=γ.1 h
   split at h
   ·rename_i hi;cases h;obtain⟨a,rfl,_⟩:=cz hu;exact⟨.pointer (some (a.add (i.toNat*s))),by simp[Qw,asIntOf,aN ok ht,QZ,hi,cg ok hs],hu.D0 _⟩
   ·cases h
  ·rename_i len el c ht;obtain⟨s,hs,h⟩:=γ.1 h
   split at h
   ·rename_i hi;cases h;obtain⟨b,off,rfl,hz,_,g,hv,hr⟩:=rj hu;refine⟨.pointer (some ((⟨b,off,none⟩:Addr).add (i.toNat*s))),by simp[Qw,asIntOf,aN ok ht,QZ,hi,cg ok hs],.im _ _ ?_⟩;rw[lY];exact IR.Fk hz hv hr _
   ·cases h
  ·rename_i el es ht;obtain⟨s,hs,h⟩:=γ.1 h
   split at h
   ·rename_i hi;obtain⟨d,hd,h⟩:=γ.1 h;obtain⟨cs,iy,h⟩:=γ.1 h
    split at h
    ·rename_i hlen;cases h
     have hlt:i.toNat<es.length:=by
      rcases φ i.toNat es.length with h'|h'
      ·exact h'
      ·rw[ν h'] at hd;cases hd
     obtain⟨a,cap,rfl,hc,h'|⟨b,off,s0,rfl,hz,gi,_,f,hv,hr⟩⟩:=lq hu
     ·subst h';simp at hlt
     ·obtain⟨CE,yY⟩:=gi _ d hd;have tA:=FA iy;rw[tA,hlen] at yY;subst yY;refine⟨.pointer (some ((⟨b,off,none⟩:Addr).add (i.toNat*s))),?_,.im _ _ ?_⟩
      ·have:(0:Int)≤i∧i<(es.length:Int):=by omega
       simp[Qw,asIntOf,aN ok ht,this,cg ok hs]
      ·rw[lY];refine .ep cs b _ (f i.toNat) hz (fun j c hj=>?_) (fun j c hj=>hr _ d j c hd (by rw[tA];exact hj));have:=hv _ d j c hd (by rw[tA];exact hj)
       rwa [←QY] at this
    ·cases h
   ·cases h
  ·rename_i el k aG off len sz ht;obtain⟨s,hs,h⟩:=γ.1 h
   split at h
   ·rename_i hi;obtain⟨rfl,h0,h1,hm⟩:=hi;cases h;obtain⟨a,cap,rfl,hc,hk,UT,jv⟩:=eX hu;refine⟨.pointer (some (a.add (i.toNat*s))),by simp[Qw,asIntOf,aN ok ht,h0,h1,cg ok hs],?_⟩;refine .ptr k aG _ _ hk UT fun j8=>?_;obtain⟨b,base,Gi,hb,_,h'|⟨rfl,_⟩⟩:=jv j8
    ·omega
    ·exact⟨b,base,hb,by rw[lY,QY]⟩
   ·cases h
  ·cases h
 ·cases h
theorem DC (h:gI w st β Z) {lo hi:Option D} {uA i_:Option Value} (hu:VR w (st.x β Z) d u) (wF:∀d v,lo=some d→uA=some v→VR w (st.x β Z) d v) (Bs:∀d v,hi=some d→i_=some v→VR w (st.x β Z) d v) (el:lo.isSome=uA.isSome) (eh:hi.isSome=i_.isSome) (hs:gT pv t d lo hi st=some r):∃z,(Qj t u uA i_ none).run P w=.ok z w∧VR w (st.x β Z) r z:=by
 unfold gT at hs
 split at hs
 ·rename_i s ht;obtain⟨⟨l,hh⟩,hb,hr⟩:=κ.1 hs;(dsimp only at hr);subst hr;rw[fV hu];have hsz:(⟨s.toArray⟩:ByteArray).size=s.length:=by simp[Qk]
  obtain⟨h1,h2,h3⟩:=kf (P:=P) (w:=w) (x:=st.x β Z) false (η _) wF Bs el eh hb;refine⟨.string ⟨((s.take hh).drop l).toArray⟩,?_,.im _ _ (.str _)⟩;simp[Qj,QN,aN ok ht,hsz,h1,tL]
 ·rename_i e ht;obtain⟨s,hsz,hs⟩:=γ.1 hs;obtain⟨⟨l,hh⟩,hb,hr⟩:=κ.1 hs;subst hr;rw[eY hu];obtain⟨h1,h2,h3⟩:=kf (P:=P) (w:=w) (x:=st.x β Z) true (η _) wF Bs el eh hb;have MK:l=0:=by omega
  have hh0:hh=0:=by omega
  subst MK;subst hh0;refine⟨.slice none 0 0,?_,.im _ _ .nul⟩;simp[Qj,QN,aN ok ht,h1,cg ok hsz]
 ·rename_i e es ht;obtain⟨s,hsz,hs⟩:=γ.1 hs
  split at hs
  ·rename_i hhd;obtain⟨⟨l,hh⟩,hb,hr⟩:=κ.1 hs;(dsimp only at hr);subst hr;obtain⟨a,cap,rfl,hc,o9⟩:=lq hu;obtain⟨h1,h2,h3⟩:=kf (P:=P) (w:=w) (x:=st.x β Z) true hc wF Bs el eh hb;refine⟨.slice (if cap=l then a else a.map (·.add (l*s))) (hh-l) (cap-l),by simp[Qj,QN,aN ok ht,h1,cg ok hsz],.im _ _ ?_⟩;have hlen:((es.take hh).drop l).length=hh-l:=by simp;omega
   by_cases hz0:hh-l=0
   ·have:(es.take hh).drop l=[]:=ξ.1 (by rw[hlen];exact hz0);rw[this,hz0];exact .emp _ _
   ·rw[if_neg (by omega)]
    rcases o9 with rfl|⟨b,off,s0,rfl,hz,gi,_,f,hv,hr⟩
    ·simp at h3;omega
    ·have NB:s0=s:=by
      cases es with
      |nil=>simp at h3;omega
      |cons e0 es=>
       obtain⟨q1,q2⟩:=gi 0 e0 rfl;simp only[sD,List.head?_cons,q1,beq_iff_eq] at hhd;omega
     subst NB
     have hget:∀(i:Nat) y,((es.take hh).drop l)[i]?=some y→es[l+i]?=some y:=by
      intro i y hy;rw[Θ,Ω] at hy
      split at hy
      ·exact hy
      ·cases hy
     have:=IR.sl (w:=w) (Z:=(st.x β Z).Z) ((es.take hh).drop l) b (off+l*s0) (cap-l) s0 (fun i j=>f (l+i) j) hz (by rw[hlen];omega) (fun i y hy=>gi _ y (hget i y hy)) (fun i y j c hy hj=>by
      have:=hv _ y j c (hget i y hy) hj
      rwa [show off+((l+i)*s0+j)=off+l*s0+(i*s0+j) by rw[Ξ];omega] at this) (fun i y j c hy hj=>hr _ y j c (hget i y hy) hj)
     rw[hlen] at this
     simpa[lY] using this
  ·cases hs
 ·rename_i e k aG off len sz ht;obtain⟨s,hsz,hs⟩:=γ.1 hs
  split at hs
  ·rename_i Bm;subst Bm;obtain⟨⟨l,hh⟩,hb,hr⟩:=κ.1 hs;(dsimp only at hr);subst hr;obtain⟨a,cap,rfl,hc,hk,UT,jv⟩:=eX hu;obtain⟨h1,h2,h3⟩:=kf (P:=P) (w:=w) (x:=st.x β Z) true hc wF Bs el eh hb;refine⟨.slice (some (if cap=l then a else a.add (l*s))) (hh-l) (cap-l),?_,?_⟩
   ·simp only[Qj,QN,ε,aN ok ht,δ,h1,cg ok hsz,μ]
    split<;>rfl
   ·refine .win k aG _ _ s _ _ (by omega) hk UT fun j8=>?_;obtain⟨b,base,Gi,eF,kV,we⟩:=jv j8;refine⟨b,base,Gi,eF,kV,?_⟩
    by_cases hcl:cap=l
    ·left;omega
    ·right
     rcases we with h'|⟨rfl,U_⟩
     ·omega
     ·rw[if_neg hcl,lY];refine⟨by rw[QY],?_⟩;have hle:l≤cap:=by omega
      have:base+(off+l*s)+(cap-l)*s=base+off+cap*s:=by
       rw[Jw];have:=θ s hle;omega
      omega
  ·cases hs
 ·rename_i n e k aG off ht;obtain⟨s,hsz,hs⟩:=γ.1 hs;obtain⟨⟨ar,c⟩,hm,hs⟩:=γ.1 hs;dsimp only at hs
  split at hs
  ·rename_i U_;obtain⟨⟨l,hh⟩,hb,hr⟩:=κ.1 hs;(dsimp only at hr);subst hr
   cases hu with
   |im _ _ hu=>cases hu
   |ptr _ _ _ a hk UT jv=>
    obtain⟨b,base,eF,rfl⟩:=jv (df hm).2;obtain⟨cs,el',fr,r1,r2,_⟩:=h.row hm eF;obtain⟨h1,h2,h3⟩:=kf (P:=P) (w:=w) (x:=st.x β Z) false (η n) wF Bs el eh hb;refine⟨.slice (some (if n=l then⟨b,base+off,none⟩ else(⟨b,base+off,none⟩:Addr).add (l*s))) (hh-l) (n-l),?_,?_⟩
    ·simp[Qj,aN ok ht,QZ,h1,cg ok hsz]
    ·refine .win k aG _ _ s _ _ (by omega) hk UT fun j8=>⟨b,base,cs.size,eF,by simp[cK,r1],?_⟩
     by_cases hcl:n=l
     ·left;omega
     ·right;rw[if_neg hcl,lY];refine⟨by rw[QY],?_⟩;have hle:l≤n:=by omega
      have:base+(off+l*s)+(n-l)*s=base+off+n*s:=by
       rw[Jw];have:=θ s hle;omega
      omega
  ·cases hs
 ·cases hs
end
end Go.V
namespace Go.V
open Go.RowKit
theorem wrap_small {n:Int} (h0:0≤n) (h1:n≤9223372036854775807):QC.wrap n=n:=by
 rw[←iT];obtain⟨m,rfl⟩:=Int.eq_ofNat_of_zero_le h0;have:QJ m (mz .i64)=true:=Qo (by simp[mz];omega);simp[cy,this]
theorem fL (z:List D):∀n,(fg n z).length=n*z.length
 |0=>by simp[fg]
 |n+1=>by
  have:=fL z n;simp only[fg,Qr,J2,QQ] at*;rw[this,Ξ];omega
theorem xh (z:List D):∀(n j:Nat),j<n*z.length→(fg n z)[j]?=z[j %z.length]?
 |0,j,h=>by simp at h
 |n+1,j,h=>by
  have ih:=xh z n;simp only[fg,Qr,J2] at*;rw[Qv]
  split
  ·rename_i hj;rw[Nat.mod_eq_of_lt hj]
  ·rename_i hj;rw[Ξ] at h;rw[ih _ (by omega),←Nat.mod_eq_sub_mod (by omega)]
def Quiet (w w':World):Prop:=∀b,b<w.heap.size→w'.heap[b]?=w.heap[b]?
theorem Quiet.refl (w:World):Quiet w w:=fun _ _=>rfl
theorem Quiet.push {w w':World} {o:Obj} (h:w'.heap=w.heap.push o):Quiet w w':=fun b hb=>by rw[h,QB,if_neg (by omega)]
theorem rf {w:World} {x:X} {s:Nat} {z:List D} {us:List Value} (h:LR w x z us) (n m:Nat) (hm:m≤n) (hz:us.length=s) (cells:Array Value) (hc:cells=(QM (n*s)).map (us.toArray[·%us.toArray.size]!)):
  cells.size=n*s∧∀(j:Nat) d,(fg m z)[j]?=some d→∃u,cells[j]?=some u∧u.oneCell'=true∧VR w x d u:=by
 subst hc;refine⟨by simp,fun j d hd=>?_⟩
 have hj:j<m*z.length:=by
  rcases φ j (m*z.length) with h'|h'
  ·exact h'
  ·rw[ν (by rw[fL];exact h')] at hd;cases hd
 rw[xh z m j hj] at hd;obtain⟨u,jh,lh,o5⟩:=h.at_ hd;have hl:=h.len
 have F_:j<n*s:=by
  have:=θ z.length hm;rw[←hz,←hl];omega
 refine⟨u,?_,lh,o5⟩;have EH:us[j %us.length]?=some u:=by rw[←hl];exact jh
 have hlt:j %us.length<us.length:=by
  rcases φ (j %us.length) us.length with h'|h'
  ·exact h'
  ·rw[ν h'] at EH;cases EH
 rw[π hlt] at EH;simp only[ο.injEq] at EH;simp[F_,hlt,EH]
section
variable{pv:Pv} {P:Program} (ok:pv.Ok P)
include ok
omit ok in
theorem Em {w:World} {st:St} {β:Nat→Option (Nat×Nat)} {Z:Nat→Prop} (h:gI w st β Z) {cs:List D} {v:Value} (hv:LR w (st.x β Z) cs v.cells.toList) (e:TypeId):
  ∃z w' β',((do pure (.pointer (some (←newVar e v))):Sem Value)).run P w=.ok z w'∧Nx w st β Z w' (st.push (.mem 0 false cs)) β' Z∧VR w' ((st.push (.mem 0 false cs)).x β' Z) (.ptr st.bs.length 0 0) z∧Quiet w w':=by
 obtain⟨hx,h1,h2,h3⟩:=Nx.lE (w':=w.alloc (.cells v.cells e)) h false cs v.cells e (0,0) rfl rfl rfl rfl (by rw[hv.len];simp) (qH.zero _) (fun j d hd=>by
  obtain⟨u,jh,lh,o5⟩:=hv.at_ hd
  exact⟨u,by simpa using jh,lh,o5⟩)
 refine⟨.pointer (some ⟨w.heap.size,0,none⟩),_,_,?_,hx,?_,Quiet.push rfl⟩
 ·simp only[newVar,newRow,ε,run_newObj,δ,μ];rfl
 ·refine .ptr _ _ _ _ ⟨_,by simp[St.x,eR];rfl⟩ (fun c hc=>?_) fun _=>⟨w.heap.size,0,by simp[St.x,eR],rfl⟩
  simp only[St.x] at hc;rw[h2] at hc;cases hc;exact η _
theorem FN {w:World} {st:St} {β:Nat→Option (Nat×Nat)} {Z:Nat→Prop} (h:gI w st β Z) {e:Nat} {cs:List D} (hz:dG pv e=some cs):
  ∃z w' β',(Jv e true (.tuple #[])).run P w=.ok z w'∧Nx w st β Z w' (st.push (.mem 0 false cs)) β' Z∧VR w' ((st.push (.mem 0 false cs)).x β' Z) (.ptr st.bs.length 0 0) z∧Quiet w w':=by
 obtain⟨v,hv,hc⟩:=gQ ok w (st.x β Z) hz;obtain⟨z,w',β',h1,h2,h3,h4⟩:=Em (P:=P) h hc e;refine⟨z,w',β',?_,h2,h3,h4⟩;simp only[Jv,ε,hv,δ] at*;exact h1
theorem tP {w:World} {st ai:St} {β:Nat→Option (Nat×Nat)} {Z:Nat→Prop} (h:gI w st β Z) {t len:Nat} {parts:List (Nat×D)} {parts':List (Nat×Value)} {r:D} (hl:parts.length=parts'.length)
  (hr:∀(i:Nat) p q,parts[i]?=some p→parts'[i]?=some q→p.1=q.1∧VR w (st.x β Z) p.2 q.2) (hs:ij pv t len parts st=some (r,ai)):
  ∃z w' β',(J1 t len parts'.toArray).run P w=.ok z w'∧Nx w st β Z w' ai β' Z∧VR w' (ai.x β' Z) r z∧Quiet w w':=by
 unfold ij at hs
 split at hs
 ·rename_i e ht;obtain⟨s,hsz,hs⟩:=γ.1 hs;obtain⟨z,hz,hs⟩:=γ.1 hs
  split at hs
  ·rename_i wJ;obtain⟨lg,Sk⟩:=wJ;obtain⟨cs,hf,hs⟩:=κ.1 hs;cases hs;obtain⟨v,hv,hc⟩:=gQ ok w (st.x β Z) hz;have Dd:v.cells.toList.length=s:=by rw[←hc.len,lg]
   have hzero:∃us:List Value,(if len*s=0 then#[] else v.cells:Array Value)=us.toArray∧((QM (len*s)).map ((if len*s=0 then#[] else v.cells:Array Value)[·%(if len*s=0 then#[] else v.cells:Array Value).size]!)).toList.length=len*s∧
     LR w (st.x β Z) (fg len z) ((QM (len*s)).map ((if len*s=0 then#[] else v.cells:Array Value)[·%(if len*s=0 then#[] else v.cells:Array Value).size]!)).toList:=by
    by_cases h0:len*s=0
    ·refine⟨[],by simp[h0],by simp,?_⟩;have:fg len z=[]:=ξ.1 (by rw[fL,lg];exact h0);rw[this,h0];exact⟨by simp,by simp,by simp⟩
    ·obtain⟨q1,q2⟩:=rf hc len len (η _) Dd _ rfl;simp only[h0,if_false];have e1:v.cells.toList.toArray=v.cells:=by simp
     rw[e1] at q1 q2;refine⟨v.cells.toList,by simp,by simp,⟨by rw[fL,lg];simp,fun u hu=>?_,fun i c u Aa hu=>?_⟩⟩
     ·obtain⟨j,hj⟩:=QH hu
      have jI:j<len*s:=by
       rcases φ j (len*s) with h'|h'
       ·exact h'
       ·rw[ν (by simpa using h')] at hj;cases hj
      obtain⟨u',jh,lh,_⟩:=q2 j _ (π (by rw[fL,lg];exact jI));rw[QV] at hj;rw[hj] at jh;cases jh;exact lh
     ·obtain⟨u',jh,_,o5⟩:=q2 i c Aa;rw[QV] at hu;rw[hu] at jh;cases jh;exact o5
   obtain⟨us,WO,_,yg⟩:=hzero;obtain⟨rs,f1,f2⟩:=wk (kD:=fun i=>some (i*s,s)) (fun _ _ e=>e) parts parts' hl hr yg hf
   have hcl:cs.length=len*s:=by
    have nT:∀(ps:List (Nat×D)) (a b:List D),ie (fun i=>some (i*s,s)) a ps=some b→b.length=a.length:=by
     intro ps
     induction ps with
     |nil=>intro a b e;simp[ie] at e;rw[e]
     |cons p ps ih=>
      intro a b e;obtain⟨pi,pd⟩:=p;simp only[ie] at e
      split at e
      ·split at e
       ·cases e
       ·rw[ih _ _ e,dX]
      ·cases e
    rw[nT _ _ _ hf,fL,lg]
   obtain⟨hx,x1,x2,x3⟩:=Nx.lE (w':=w.alloc (.cells rs.toArray e)) h true cs rs.toArray e (0,0) rfl rfl rfl rfl (by rw[f2.len];simp) (qH.zero _) (fun j d hd=>by
    obtain⟨u,jh,lh,o5⟩:=f2.at_ hd
    exact⟨u,by simpa using jh,lh,o5⟩)
   refine⟨.slice (some ⟨w.heap.size,0,none⟩) len len,_,_,?_,hx,l3 x2 x3 x1 (η _) (by simp only[QP];rw[←f2.len,hcl];exact η _),Quiet.push rfl⟩;have Vi:¬len*s>2^24:=by omega
   simp only[J1,ε,aN ok ht,δ,cg ok hsz,JW,if_neg Vi,μ]
   by_cases h0:len*s=0
   ·simp only[h0,if_true] at f1⊢;simp only[Qf] at f1;rw[f1];simp only[newRow,ε,run_newObj,δ,μ];rfl
   ·simp only[h0,if_false,δ,hv] at f1⊢;simp only[Qf] at f1;rw[f1];simp only[newRow,ε,run_newObj,δ,μ];rfl
  ·cases hs
 ·cases hs
theorem vJ {w:World} {st ai:St} {β:Nat→Option (Nat×Nat)} {Z:Nat→Prop} (h:gI w st β Z) {t:Nat} {l c r:D} {u v:Value} (hu:VR w (st.x β Z) l u) (hv:VR w (st.x β Z) c v) (hs:gZ pv t l c st=some (r,ai)):
  ∃z w' β',(J7 t u v).run P w=.ok z w'∧Nx w st β Z w' ai β' Z∧VR w' (ai.x β' Z) r z∧Quiet w w':=by
 unfold gZ at hs
 split at hs
 ·rename_i e k l k' c ht;obtain⟨i,hi,hs⟩:=γ.1 hs;obtain⟨z,hz,hs⟩:=γ.1 hs
  split at hs
  ·rename_i wJ;obtain⟨lg,MK,hlc,hcb,lQ⟩:=wJ;cases hs;rw[cO hu,cO hv];obtain⟨zv,Uh,Rp⟩:=gQ ok w (st.x β Z) hz;have Dd:zv.cells.toList.length=i.size:=by rw[←Rp.len,lg]
   have XQ:QC.wrap l=l:=wrap_small MK (by omega);have hwc:QC.wrap c=c:=wrap_small (by omega) hcb
   have gb:∃cells:Array Value,cells=(QM (c.toNat*i.size)).map ((if c.toNat*i.size=0 then#[] else zv.cells:Array Value)[·%(if c.toNat*i.size=0 then#[] else zv.cells:Array Value).size]!)∧cells.size=c.toNat*i.size∧
     ∀(j:Nat) d,(fg l.toNat z)[j]?=some d→∃u,cells[j]?=some u∧u.oneCell'=true∧VR w (st.x β Z) d u:=by
    refine⟨_,rfl,by simp,?_⟩
    by_cases h0:c.toNat*i.size=0
    ·intro j d hd
     have:fg l.toNat z=[]:=ξ.1 (by
      rw[fL,lg];have:=θ i.size (show l.toNat≤c.toNat by omega)
      omega)
     rw[this] at hd;simp at hd
    ·simp only[h0,if_false];have:=(rf Rp c.toNat l.toNat (by omega) Dd _ rfl).2
     simpa using this
   obtain⟨cells,dM,hsz,hrel⟩:=gb
   have hlen:(fg l.toNat z).length≤cells.size:=by
    rw[fL,lg,hsz];exact θ _ (by omega)
   obtain⟨hx,x1,x2,x3⟩:=Nx.lE (w':=w.alloc (.cells cells e)) h true (fg l.toNat z) cells e (0,0) rfl rfl rfl rfl hlen (qH.zero _) hrel;refine⟨.slice (some ⟨w.heap.size,0,none⟩) l.toNat c.toNat,_,_,?_,hx,l3 x2 x3 x1 (by omega) (by rw[hsz];exact η _),Quiet.push rfl⟩
   have ht1:(decide (c<0)||decide ((i.bytes:Int)*c>2^48))=false:=by
    have:¬c<0:=by omega
    have h2:(i.bytes:Int)*c=c*i.bytes:=Int.mul_comm _ _;simp only[this,decide_false,Bool.false_or,decide_eq_false_iff_not,h2];omega
   have wb:¬l<0:=by omega
   have o7:¬l>c:=by omega
   simp only[J7,ε,aN ok ht,δ,asInt,asIntOf,μ,nC ok hi,XQ,hwc,ht1,wb,o7,decide_false,Bool.or_self,Γ,or_self,if_false,JW,run_askRoom,cg ok (kj hi)]
   by_cases h0:c.toNat*i.size=0
   ·simp only[h0,if_true] at dM⊢;simp only[newRow,ε,run_newObj,δ,μ,dM];rfl
   ·simp only[h0,if_false,δ,Uh] at dM⊢;simp only[newRow,ε,run_newObj,δ,μ,dM];rfl
  ·cases hs
 ·cases hs
end
end Go.V
