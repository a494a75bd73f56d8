/-
 V: an evaluator of the model's code over pure values, and its soundness; no program in sight, no conditions.
-/
import GoSem.Step
import Derived.WalkKit
import Derived.WalkLawsBesides
import Derived.Laws.StructEq
import Derived.Laws.Slices
import Derived.Laws.Concat
set_option linter.unusedSimpArgs false
set_option linter.unusedVariables false
set_option linter.unusedSectionVars false
set_option linter.unnecessarySimpa false
open Option renaming bind_eq_some_iff→γ,map_eq_some_iff→κ,some→ο,bind_some→Qab,map_some→Qb7
open Go.Result renaming andThen_ok→δ
open Go.Sem renaming run_bind→ε,run_pure→μ,run_ite→Qbq
open Array renaming getElem?_setIfInBounds_self_of_lt→ζ,getElem?_setIfInBounds_ne→ρ,getElem?_toList→Qa2,getElem?_push→Qa6,ext_getElem?→Qa7,range→Qac,size_setIfInBounds→Qak,getElem?_eq_none→Qap,toArray_toList→Qaq,size_push→Qb8,ext'→Qbn
open Nat renaming le_refl→η,mul_le_mul_right→θ,lt_or_ge→φ,beq→χ,add_mul→Ξ,le_trans→Φ,ble→BY,add_zero→AN,add_assoc→Qa0,le_antisymm→Qaj,eq_of_mul_eq_mul_left→Qao,sub_self→Qat,zero_add→Qau,ble_eq_true_of_le→Qax,lt_of_lt_of_le→Qb6,min_eq_left→Qbk,sub_mul→Qbo,zero_le→Qbp,min→Qbt
open Go.Builtin renaming firstCells→ι,append_→Ψ,nextslicecap→IN,lenOf→Qa4,zeroCells→Qa8,copy_→Qah,growBy→Qb3
open List renaming getElem?_eq_none→ν,length_eq_zero_iff→ξ,getElem?_eq_getElem→π,getElem?_set_ne→ς,getElem?_cons_succ→τ,length_cons→υ,getElem?_append_left→ψ,getElem?_drop→Θ,getElem?_take→Ω,length_append→wt,getElem?_cons_zero→v8,getElem?_toArray→IS,getElem?_append→Pd,getElem?_set_self→Qa1,length_nil→Qa3,getElem?_of_mem→Qa5,size_toArray→Qaa,extract_eq_take_drop→Qan,mem_of_getElem?→Qav,mem_of_mem_take→Qaw,replicate_succ→Qaz,flatten_cons→Qb5,length_take→Qbb,take_length→Qbc,foldl_cons→Qbe,length_set→Qbf,drop_take→Qbi,replicate→Qbj
open Go.Op renaming equalIn→ω,bytesLess→Qae,equal→Qaf,eqFields→Qb1,stringOp→Qb2,intBits→Qbr
open Bool renaming false_eq_true→Γ,and_eq_true→Qb9,not_false→Qbg
open Decidable renaming not_not→Δ
open Go.Instr renaming sureAddr→GB,sliceAt→OF,indexAt→AT,sliceBound→AI,slice→Qad,fieldAt→Qal,build→Qar,index→Qas,fill→Qay,sliceBounds→Qb0,buildSlice→Qb4,makeSlice→Qba,storeAt→Qbh,alloc→Qbl,field→Qbm
open Go.ByteArray renaming toList_eq→IT
open ByteArray renaming size→Pe,data_extract→Qai,ext→Qbs
open Go.IntKind renaming i64→Qa9,signed→Qag,bits→Qam,wrap→Qbd
namespace Go.V
theorem z0 {p:Prop} (h:p:=by omega):p:=h
theorem z3 {p:Prop} (h:p:=by exact ev rfl):p:=h
theorem z4 {p:Prop} (h:p:=by rw[wrap_i64 (by omega) (by omega)]<;>omega):p:=h
theorem z5 {p:Prop} (h:p:=by assumption):p:=h
theorem z9 {p:Prop} (h:p:=by first|exact aJ|exact bt|exact cU|exact di|exact ie|exact ke|exact o7|exact oX):p:=h
theorem v9 {p:Prop} (h:p:=by dsimp only[ε,δ,γ]<;>rfl):p:=h
inductive D where
 |bool (b:Bool)
 |int (k:IntKind) (n:Int)
 |str (s:List UInt8)
 |nul
 |sl (es:List D)
 |win (k aB off len s:Nat)
 |pnil
 |ptr (k aB off:Nat)
 |mp (k:Nat)
 |ep (cells:List D)
 |fn (f:Nat) (lf:List D)
 |nilfn
 |agg (cs:List D)
 |tup (ds:List D)
 |nilif
 |bo
 deriving Inhabited
inductive jC where
 |mem (aB:Nat) (arr:Bool) (cells:List D)
 |iter (s:List UInt8) (pos:Nat)
 |map (es:List (D×D))
 |dead
 deriving Inhabited
structure St where
 bs:List jC
 flr:Nat
 ro:Nat
structure Fr where
 n:Nat
 loc:List D
 tmp:List (Nat×D)
def look (t:Nat):List (Nat×D)→D
 |[]=>.bo
 |(u,d)::l=>match χ t u with
  |true=>d
  |false=>look t l
def nth (d:D):List D→Nat→D
 |[],_=>d
 |x::_,0=>x
 |_::l,i+1=>nth d l i
def Fr.get (f:Fr) (t:Nat):D:=
 match BY f.n t with
 |false=>nth .bo f.loc t
 |true=>look t f.tmp
def Fr.put (f:Fr) (t:Nat) (d:D):Fr:=
 match BY f.n t with
 |false=>⟨f.n,f.loc.set t d,f.tmp⟩
 |true=>⟨f.n,f.loc,(t,d)::f.tmp⟩
def Fr.fN (f:Fr) (t:Option Nat) (d:D):Fr:=
 match t with
 |some t=>f.put t d
 |none=>f
def Fr.clean (f:Fr):Fr:=⟨f.n,f.loc,[]⟩
def D.cells?:D→Option (List D)
 | .agg cs=>some cs
 | .tup _=>none
 | .bo=>none
 |d=>some [d]
def D.cells:D→List D
 | .agg cs=>cs
 |d=>[d]
def uO:Value→D
 | .bool b=>.bool b
 | .int k n=>.int k n
 | .string s=>.str s.data.toList
 | .slice none 0 0=>.nul
 | .pointer none=>.pnil
 | .nilFunc=>.nilfn
 | .nilIface=>.nilif
 |_=>.bo
def FX:Value→Bool
 | .agg _| .tuple _=>false
 |_=>true
def nU:List Value→Option (List D)
 |[]=>some []
 |v::l=>match FX v with
  |true=>match nU l with
   |some r=>some (uO v::r)
   |none=>none
  |false=>none
def my:Value→D
 | .agg cs=>match nU cs.toList with
  |some l=>.agg l
  |none=>.bo
 |v=>uO v
def Fr.ev (f:Fr):Operand→D
 | .tmp t=>f.get t
 | .const v=>my v
 | .func g=>.fn g []
 | .global _=>.bo
mutual
def D.ref:D→Nat
 | .win k _ _ _ _=>k+1
 | .ptr k _ _=>k+1
 | .mp k=>k+1
 | .fn _ cs=>refs cs
 | .agg cs=>refs cs
 | .tup ds=>refs ds
 |_=>0
def refs:List D→Nat
 |[]=>0
 |d::ds=>max d.ref (refs ds)
end
def St.fX (st:St) (k aB:Nat):Option (Bool×List D):=
 match st.bs[k]? with
 |some (.mem v a c)=>if v=aB then some (a,c) else none
 |_=>none
def jC.cells:jC→List D
 | .mem _ _ c=>c
 |_=>[]
def St.yy (st:St) (k:Nat):Nat:=
 match st.bs[k]? with
 |some b=>refs b.cells
 |none=>0
def St.jr (st:St) (k r:Nat):Bool:=decide (st.ro≤k) &&(decide (st.flr≤k)||(decide (r≤k+1)||decide (r≤st.yy k)))
def setMany (c:List D) (off:Nat):List D→List D
 |[]=>c
 |x::xs=>setMany (c.set off x) (off+1) xs
def St.wr (st:St) (k aB off:Nat) (cs:List D):Option St:=
 match st.fX k aB with
 |some (a,c)=>if off+cs.length≤c.length∧st.jr k (refs cs)=true then some {st with bs:=st.bs.set k (.mem aB a (setMany c off cs))} else none
 |none=>none
def St.push (st:St) (b:jC):St:={st with bs:=st.bs++[b]}
inductive Mode where
 |ro|rw|cw|nw
abbrev fF:=Nat→List D→St→Option (D×St)
structure Fi where
 fn:Func
 nloc:Nat
 mode:Mode
 knul:Bool
 l7:Option (List D→St→Option (D×St)):=none
 dyn:List (Nat×List (Nat×Nat)):=[]
inductive Tr (α:Type) where
 |leaf (a:α)
 |node (k:Nat) (l r:Tr α)
def Tr.get {α:Type} (t:Nat):Tr α→α
 | .leaf a=>a
 | .node k l r=>match BY k t with
  |false=>l.get t
  |true=>r.get t
structure Pv where
 ty:Tr TypeInfo
 nty:Nat
 fs:Tr Fi
 nfs:Nat
 eqb:List Nat
 prm:List (Nat×(List D→St→Option (D×St))):=[]
def m_ (f:Nat):List (Nat×(List D→St→Option (D×St)))→Option (List D→St→Option (D×St))
 |[]=>none
 |(g,p)::l=>match χ f g with
  |true=>some p
  |false=>m_ f l
def Pv.info (P:Pv) (t:Nat):Option TypeInfo:=
 match BY P.nty t with
 |false=>some (P.ty.get t)
 |true=>none
def Pv.cy (P:Pv) (t:Nat):Option TypeDesc:=
 match P.info t with
 |some i=>match i.desc with
  | .named _ u=>match P.info u with
   |some j=>some j.desc
   |none=>none
  |d=>some d
 |none=>none
def Pv.fi (P:Pv) (f:Nat):Option Fi:=
 match BY P.nfs f with
 |false=>some (P.fs.get f)
 |true=>none
def gh:IntKind→Nat
 | .i8=>127| .i16=>32767| .i32=>2147483647| .i64=>9223372036854775807
 | .u8=>255| .u16=>65535| .u32=>4294967295| .u64=>18446744073709551615
def yL:IntKind→Nat
 | .i8=>128| .i16=>32768| .i32=>2147483648| .i64=>9223372036854775808
 |_=>0
def bp (k:IntKind) (n:Int):Int:=
 match n with
 | .ofNat m=>match BY m (gh k) with
  |true=>.ofNat m
  |false=>k.wrap (.ofNat m)
 | .negSucc m=>match BY (yL k) m with
  |false=>.negSucc m
  |true=>k.wrap (.negSucc m)
section
variable(P:Pv)
def cz (t:TypeId):Option Nat:=
 match P.info t with
 |some i=>some i.size
 |none=>none
def dY (t:TypeId) (c:List D):Option D:=
 match P.cy t with
 |none=>none
 |some (.struct _)|some (.array _ _)=>(cz P t).bind fun n=>if n≤c.length then some (.agg (c.take n)) else none
 |some _=>c.head?
def iM (t:TypeId) (d:D) (st:St):Option D:=
 match d with
 | .ptr k aB off=>(st.fX k aB).bind fun(_,c)=>dY P t (c.drop off)
 | .ep c=>dY P t c
 |_=>none
def lU (t:TypeId) (a v:D) (st:St):Option St:=
 match a,v.cells? with
 | .ptr k aB off,some cs=>if cz P t=some cs.length then st.wr k aB off cs else none
 |_,_=>none
def wQ (t:TypeId):Option D:=(P.info t).bind fun i=>i.zero.map my
def dc (t:TypeId):Option (List D):=
 match wQ P t with
 |some z=>z.cells?
 |none=>none
def sR (t:TypeId) (cs:List D) (off:Nat):Option D:=
 match P.cy t with
 |none=>none
 |some (.struct _)|some (.array _ _)=>(cz P t).bind fun n=>if off+n≤cs.length then some (.agg ((cs.drop off).take n)) else none
 |some _=>cs[off]?
def jz (place:Nat→Option (Nat×Nat)) (cells:List D):List (Nat×D)→Option (List D)
 |[]=>some cells
 |(i,v)::rest=>
  match place i,v.cells? with
  |some (off,size),some cs=>if cs.length≠size∨off+cs.length>cells.length then none else jz place (setMany cells off cs) rest
  |_,_=>none
def nR:List Field→Option (List (Nat×Nat))
 |[]=>some []
 |f::fs=>match cz P f.type with
  |some s=>match nR fs with
   |some r=>some ((f.offset,s)::r)
   |none=>none
  |none=>none
def zy (t:TypeId) (parts:List (Nat×D)):Option D:=
 match dc P t with
 |some z=>match P.cy t with
  |some (.struct fields)=>match nR P fields.toList with
   |some ps=>(jz (fun i=>ps[i]?) z parts).map .agg
   |none=>none
  |some (.array _ e)=>match cz P e with
   |some s=>(jz (fun i=>some (i*s,s)) z parts).map .agg
   |none=>none
  |_=>none
 |none=>none
def fV (n:Nat) (z:List D):List D:=(Qbj n z).flatten
def jh (t:TypeId) (len:Nat) (parts:List (Nat×D)) (st:St):Option (D×St):=
 match P.cy t with
 |some (.slice e)=>(cz P e).bind fun s=>(dc P e).bind fun z=>
   if z.length=s∧len*s≤16777216 then
    (jz (fun i=>some (i*s,s)) (fV len z) parts).map fun cs=>(.win st.bs.length 0 0 len s,st.push (.mem 0 true cs))
   else none
 |_=>none
def DJ (op:BinOp) (a b:Int):Option D:=
 match op with
 | .eql=>some (.bool (a==b))
 | .neq=>some (.bool (a !=b))
 | .lss=>some (.bool (a<b))
 | .leq=>some (.bool (a≤b))
 | .gtr=>some (.bool (a>b))
 | .geq=>some (.bool (a≥b))
 |_=>none
def Fe (op:BinOp) (k:IntKind) (x y:Int):Option D:=
 let a:=BitVec.ofInt k.bits x
 let b:=BitVec.ofInt k.bits y
 let back (r:BitVec k.bits):Option D:=some (.int k (bp k r.toNat))
 match op with
 | .and=>back (a &&&b)
 | .or=>back (a|||b)
 | .xor=>back (a^^^b)
 | .andNot=>back (a &&&~~~b)
 |_=>none
def wF (op:BinOp) (k:IntKind) (a b:Int):Option D:=
 match op with
 | .add=>some (.int k (bp k (a+b)))
 | .sub=>some (.int k (bp k (a-b)))
 | .mul=>some (.int k (bp k (a*b)))
 | .quo=>if b=0 then none else some (.int k (bp k (a.tdiv b)))
 | .rem=>if b=0 then none else some (.int k (a.tmod b))
 | .and| .or| .xor| .andNot=>Fe op k a b
 |_=>DJ op a b
def Cm (op:BinOp) (k:IntKind) (x y:Int):Option D:=
 if y<0 then none
 else match op with
  | .shl=>some (.int k (bp k (x*2^(min y.toNat k.bits))))
  | .shr=>some (.int k (x.fdiv (2^(min y.toNat k.bits))))
  |_=>none
def KL (op:BinOp) (a b:List UInt8):Option D:=
 match op with
 | .add=>if a.length+b.length≤9223372036854775807 then some (.str (a++b)) else none
 | .eql=>some (.bool (a==b))
 | .neq=>some (.bool !(a==b))
 | .lss=>some (.bool (Qae a b))
 | .leq=>some (.bool (Qae a b||a==b))
 | .gtr=>some (.bool !(Qae a b||a==b))
 | .geq=>some (.bool !(Qae a b))
 |_=>none
mutual
def Mk:Nat→TypeId→D→D→Option Bool
 |0,_,_,_=>none
 |d+1,t,x,y=>
  match P.cy t,x,y with
  |some .bool,.bool a,.bool b=>some (a==b)
  |some (.int _),.int k a,.int k' b=>if k=k' then some (a==b) else none
  |some .string,.str a,.str b=>some (a==b)
  |some (.pointer _),.pnil,.pnil=>some true
  |some (.pointer _),.pnil,.ptr _ _ _=>some false
  |some (.pointer _),.ptr _ _ _,.pnil=>some false
  |some (.slice _),.nul,.nul=>some true
  |some (.slice _),.win _ _ _ _ _,.nul=>some false
  |some (.slice _),.sl (_::_),.nul=>some false
  |some (.struct fields),.agg xs,.agg ys=>if P.eqb.contains t then eqFields d xs ys fields.toList else none
  |some (.array len e),.agg xs,.agg ys=>(cz P e).bind fun n=>oc d e n xs ys len 0
  |_,_,_=>none
def eqFields:Nat→List D→List D→List Field→Option Bool
 |0,_,_,_=>none
 |_+1,_,_,[]=>some true
 |d+1,xs,ys,f::fs=>
  if f.name= "_" then eqFields d xs ys fs else
  match sR P f.type xs f.offset,sR P f.type ys f.offset with
  |some x,some y=>match Mk d f.type x y with
   |some true=>eqFields d xs ys fs
   |some false=>some false
   |none=>none
  |_,_=>none
def oc:Nat→TypeId→Nat→List D→List D→Nat→Nat→Option Bool
 |0,_,_,_,_,_,_=>none
 |_+1,_,_,_,_,0,_=>some true
 |d+1,e,n,xs,ys,left+1,i=>
  match sR P e xs (i*n),sR P e ys (i*n) with
  |some x,some y=>match Mk d e x y with
   |some true=>oc d e n xs ys left (i+1)
   |some false=>some false
   |none=>none
  |_,_=>none
end
def vM:Nat:=64
def Pq:D→Bool
 | .agg _=>true
 |_=>false
def equalD (t:TypeId) (x y:D):Option Bool:=
 if Pq x &&!P.eqb.contains t then none else Mk P vM t x y
def fp (op:BinOp) (t:TypeId) (x y:D):Option D:=
 match x,y with
 | .int k a,.int k' b=>match op with
  | .shl| .shr=>Cm op k a b
  |_=>if k=k' then wF op k a b else none
 | .str a,.str b=>KL op a b
 |x,y=>match op with
  | .eql=>(equalD P t x y).map .bool
  | .neq=>(equalD P t x y).map fun b=>.bool !b
  |_=>none
def TD (op:UnOp) (x:D):Option D:=
 match op,x with
 | .neg,.int k n=>some (.int k (bp k (0-n)))
 | .xor,.int k n=>Fe .xor k (if k.signed then-1 else k.max) n
 | .not,.bool b=>some (.bool !b)
 |_,_=>none
def pk (st:St):D→Option (Nat×List D)
 | .sl es=>some (es.length,es.flatMap D.cells)
 | .nul=>some (0,[])
 | .win k aB off len s=>(st.fX k aB).bind fun(_,c)=>if off+len*s≤c.length then some (len,(c.drop off).take (len*s)) else none
 | .str b=>some (b.length,b.map fun x=>.int .u8 x.toNat)
 |_=>none
def mr:List D→Option (List UInt8)
 |[]=>some []
 | .int .u8 n::l=>(mr l).map fun r=>UInt8.ofNat n.toNat::r
 |_=>none
def iO (src dst:TypeId) (x:D) (st:St):Option (D×St):=
 match P.cy src,P.cy dst,x with
 |some _,some (.int k),.int _ n=>some (.int k (bp k n),st)
 |some _,some .string,.int _ n=>some (.str (Utf8.encode n).data.toList,st)
 |some _,some .string,.str s=>some (.str s,st)
 |some _,some (.slice e),.str s=>
  match P.cy e with
  |some (.int .u8)=>if s.length<1099511627776 then some (.win st.bs.length 0 0 s.length 1,st.push (.mem 0 true (s.map fun x=>.int .u8 x.toNat))) else none
  |_=>none
 |some (.slice _),some (.slice e),.win k aB off len sz=>
  match P.cy e,st.fX k aB with
  |some (.int .u8),some _=>if χ src dst=true∧0<len∧st.jr k 0=true then some (.win k aB off len sz,st) else none
  |_,_=>none
 |some (.slice e),some .string,x=>
  match P.cy e,pk st x with
  |some (.int .u8),some (n,cs)=>match x with
   | .str _=>none
   |_=>if cs.length=n then(mr cs).map fun b=>(.str b,st) else none
  |_,_=>none
 |_,_,_=>none
def Bd:D→Option Nat
 | .sl es=>some es.length
 | .nul=>some 0
 | .win _ _ _ len _=>some len
 | .str s=>some s.length
 |_=>none
def fh:TypeDesc→Bool
 | .int _=>true
 |_=>false
def iG (argTypes:List TypeId) (s x:D) (st:St):Option (D×St):=
 match argTypes with
 |sT::xT::_=>
  match P.cy sT,P.cy xT with
  |some (.slice e),some xd=>if fh xd=true then none else
   (P.info e).bind fun i=>(dc P e).bind fun z=>(pk st x).bind fun(n,ys)=>
   if ys.length≠n*i.size∨i.bytes=0∨z.length≠i.size then none else
   match s with
   | .nul=>if n=0 then some (.nul,st)
     else if n*i.bytes≤1099511627776 then some (.win st.bs.length 0 0 n i.size,st.push (.mem 0 true ys)) else none
   | .win k aB off len sz=>
    match st.fX k aB with
    |some (true,c)=>if sz≠i.size∨c.length<off+len*sz then none
      else if n=0 then some (.win k aB off len sz,st)
      else if(len+n)*i.bytes≤1099511627776∧st.jr k (refs ys)=true then
       some (.win k (aB+1) 0 (len+n) sz,{st with bs:=st.bs.set k (.mem (aB+1) true ((c.take (off+len*sz)).drop off++ys))})
      else none
    |_=>none
   |_=>none
  |_,_=>none
 |_=>none
def xU (argTypes:List TypeId) (d x:D) (st:St):Option (D×St):=
 match argTypes with
 |dT::_=>
  match P.cy dT with
  |some (.slice e)=>(cz P e).bind fun s=>(pk st x).bind fun(m,ys)=>
   if ys.length≠m*s then none else
   match d with
   | .win k aB off len sz=>if sz≠s then none else(st.wr k aB off (ys.take (min m len*s))).map fun ah=>(.int .i64 (min m len:Nat),ah)
   | .nul=>some (.int .i64 0,st)
   |_=>none
  |_=>none
 |_=>none
def nC (argTypes:List TypeId) (d:D) (st:St):Option (D×St):=
 match argTypes with
 |dT::_=>
  match P.cy dT with
  |some (.slice e)=>
   match d with
   | .nul=>some (.tup [],st)
   | .win k aB off len sz=>(dc P e).bind fun z=>if z.length=sz then(st.wr k aB off (fV len z)).map fun ah=>(.tup [],ah) else none
   |_=>none
  |_=>none
 |_=>none
def xl (sY:Bool):D→D→Option D
 | .int k x,.int _ y=>some (.int k (if sY then(if y<x then y else x) else(if y>x then y else x)))
 |_,_=>none
def tb (f:D→D→Option D):D→List D→Option D
 |x,[]=>some x
 |x,y::l=>(f x y).bind fun z=>tb f z l
def bu (b:Builtin) (argTypes:List TypeId) (args:List D) (st:St):Option (D×St):=
 match b,args with
 | .len,[x]=>match argTypes with
  |t::_=>match P.cy t with
   |some .string=>match x with
    | .str s=>some (.int .i64 s.length,st)
    |_=>none
   |some (.slice _)=>match x with
    | .str _=>none
    |x=>match Bd x with
     |some n=>some (.int .i64 (Int.ofNat n),st)
     |none=>none
   |some (.array n _)=>some (.int .i64 n,st)
   |_=>none
  |_=>none
 | .append,[s,x]=>iG P argTypes s x st
 | .copy,[d,x]=>xU P argTypes d x st
 | .clear,[d]=>nC P argTypes d st
 | .min,x::l=>(tb (xl true) x l).map fun d=>(d,st)
 | .max,x::l=>(tb (xl false) x l).map fun d=>(d,st)
 |_,_=>none
def gR (t:TypeId) (l c:D) (st:St):Option (D×St):=
 match P.cy t,l,c with
 |some (.slice e),.int _ l,.int _ c=>(P.info e).bind fun i=>(dc P e).bind fun z=>
   if z.length=i.size∧0≤l∧l≤c∧c≤9223372036854775807∧c*(i.bytes:Int)≤140737488355328 then
    some (.win st.bs.length 0 0 l.toNat i.size,st.push (.mem 0 true (fV l.toNat z)))
   else none
 |_,_,_=>none
def jt (x:D) (y:Nat):Option Nat:=
 match x with
 | .int _ i=>if 0≤i∧i≤(y:Int) then some i.toNat else none
 |_=>none
def gB (y X6:Nat):Option D→Option Nat
 |some v=>jt v y
 |none=>some X6
def bZ (len:Nat) (lo hi:Option D):Option (Nat×Nat):=
 (gB len len hi).bind fun h=>(gB h 0 lo).map fun l=>(l,h)
def oQ (s:Nat) (es:List D):Bool:=
 match es.head? with
 |none=>true
 |some e=>match e.cells? with
  |some cs=>cs.length==s
  |none=>false
def fM (t:TypeId) (x:D) (lo hi:Option D) (st:St):Option D:=
 match P.cy t,x with
 |some .string,.str s=>(bZ s.length lo hi).map fun(l,h)=>.str ((s.take h).drop l)
 |some (.slice e),.nul=>(cz P e).bind fun _=>(bZ 0 lo hi).map fun _=>.nul
 |some (.slice e),.sl es=>(cz P e).bind fun s=>if oQ s es then(bZ es.length lo hi).map fun(l,h)=>.sl ((es.take h).drop l) else none
 |some (.slice e),.win k aB off len sz=>(cz P e).bind fun s=>if s=sz then(bZ len lo hi).map fun(l,h)=>.win k aB (off+l*sz) (h-l) sz else none
 |some (.array n e),.ptr k aB off=>(cz P e).bind fun s=>(st.fX k aB).bind fun(_,c)=>
   if off+n*s≤c.length then(bZ n lo hi).map fun(l,h)=>.win k aB (off+l*s) (h-l) s else none
 |_,_=>none
def fQ (t:TypeId) (x:D) (i:Nat):Option D:=
 match P.cy t with
 |some (.struct fields)=>(fields[i]?).bind fun f=>if cz P f.type=some 0 then none else(cz P f.type).bind fun _=>
   match x with
   | .ptr k aB off=>some (.ptr k aB (off+f.offset))
   | .ep c=>some (.ep (c.drop f.offset))
   |_=>none
 |_=>none
def Dt (t:TypeId) (x:D) (i:Nat):Option D:=
 match P.cy t,x with
 |some (.struct fields),.agg cs=>(fields[i]?).bind fun f=>sR P f.type cs f.offset
 |_,_=>none
def bX (t:TypeId) (x ix:D) (st:St):Option D:=
 match ix with
 | .int _ i=>
  match P.cy t,x with
  |some (.array len e),.ptr k aB off=>(cz P e).bind fun s=>if 0≤i∧i<len then some (.ptr k aB (off+i.toNat*s)) else none
  |some (.array len e),.ep c=>(cz P e).bind fun s=>if 0≤i∧i<len then some (.ep (c.drop (i.toNat*s))) else none
  |some (.slice e),.sl es=>(cz P e).bind fun s=>if 0≤i then(es[i.toNat]?).bind fun d=>d.cells?.bind fun cs=>if cs.length=s then some (.ep cs) else none else none
  |some (.slice e),.win k aB off len sz=>(cz P e).bind fun s=>if s=sz∧0≤i∧i<len∧(st.fX k aB).isSome=true then some (.ptr k aB (off+i.toNat*sz)) else none
  |_,_=>none
 |_=>none
def vm (t:TypeId) (x ix:D):Option D:=
 match ix with
 | .int _ i=>
  match P.cy t,x with
  |some (.array len e),.agg cs=>(cz P e).bind fun s=>if 0≤i∧i<len then sR P e cs (i.toNat*s) else none
  |some .string,.str s=>if 0≤i then(s[i.toNat]?).map fun b=>.int .u8 b.toNat else none
  |_,_=>none
 |_=>none
def iv (kk:IntKind) (n:Int):List (D×D)→Nat→Option (Option (Nat×D))
 |[],_=>some none
 |(.int k' m,v)::l,i=>if kk=k' then(if n==m then some (some (i,v)) else iv kk n l (i+1)) else none
 |_::_,_=>none
def pC (t:TypeId) (r:Option D) (st:St):Option (D×St):=
 match r with
 |none=>some (.mp st.bs.length,st.push (.map []))
 |some (.int _ _)=>match P.cy t with
  |some (.map _ _)=>some (.mp st.bs.length,st.push (.map []))
  |_=>none
 |_=>none
def kA (t:TypeId) (m key v:D) (st:St):Option St:=
 match P.cy t,m,key,v with
 |some (.map kt _),.mp k,.int kk n,.int vk x=>match P.cy kt,st.bs[k]? with
  |some (.int _),some (.map es)=>match st.jr k 0 with
   |true=>match iv kk n es 0 with
    |some (some (i,_))=>some {st with bs:=st.bs.set k (.map (es.set i (.int kk n,.int vk x)))}
    |some none=>some {st with bs:=st.bs.set k (.map (es++[(.int kk n,.int vk x)]))}
    |none=>none
   |false=>none
  |_,_=>none
 |_,_,_,_=>none
def pD (t:TypeId) (m key:D) (st:St):Option D:=
 match P.cy t,m,key with
 |some (.map kt e),.mp k,.int kk n=>match P.cy kt,st.bs[k]? with
  |some (.int _),some (.map es)=>match iv kk n es 0 with
   |some (some (_,v))=>some v
   |some none=>wQ P e
   |none=>none
  |_,_=>none
 |_,_,_=>none
def yz (t:TypeId) (x:D) (st:St):Option (D×St):=
 match P.cy t,x with
 |some .string,.str s=>some (.ptr st.bs.length 0 0,st.push (.iter s 0))
 |_,_=>none
def xi (x:D) (isString:Bool) (st:St):Option (D×St):=
 match x,isString with
 | .ptr k 0 0,true=>
  match st.bs[k]? with
  |some (.iter s pos)=>
   if pos<s.length then
    if st.jr k 0 then
     let r:=Utf8.decode ⟨s.toArray⟩ pos
     some (.tup [.bool true,.int .i64 pos,.int .i32 r.1],{st with bs:=st.bs.set k (.iter s (pos+r.2))})
    else none
   else some (.tup [.bool false],st)
  |_=>none
 |_,_=>none
def dN (fr:Fr) (st:St) (op:Op) (ZE:TypeId):Option (D×St):=
 match op with
 | .move x| .assign x=>some (fr.ev x,st)
 | .pick c a b=>match fr.ev c with
  | .bool true=>some (fr.ev a,st)
  | .bool false=>some (fr.ev b,st)
  |_=>none
 | .alloc e=>(dc P e).map fun cs=>(.ptr st.bs.length 0 0,st.push (.mem 0 false cs))
 | .box _ x=>(fr.ev x).cells?.map fun cs=>(.ptr st.bs.length 0 0,st.push (.mem 0 false cs))
 | .build t parts=>(zy P t (parts.toList.map fun p=>(p.1,fr.ev p.2))).map fun d=>(d,st)
 | .buildSlice t len parts=>jh P t len (parts.toList.map fun p=>(p.1,fr.ev p.2)) st
 | .load t a=>(iM P t (fr.ev a) st).map fun d=>(d,st)
 | .store t a x=>(lU P t (fr.ev a) (fr.ev x) st).map fun ah=>(.tup [],ah)
 | .nilCheck x=>match fr.ev x with
  | .ptr k v o=>some (.ptr k v o,st)
  | .ep c=>some (.ep c,st)
  | .fn f c=>some (.fn f c,st)
  |_=>none
 | .binOp op t x y _=>(fp P op t (fr.ev x) (fr.ev y)).map fun d=>(d,st)
 | .unOp op _ x=>(TD op (fr.ev x)).map fun d=>(d,st)
 | .convert s d x=>iO P s d (fr.ev x) st
 | .makeFunc (.func f) first captured=>if first.isEmpty then some (.fn f (captured.toList.map fr.ev),st) else none
 | .makeSlice t l c=>gR P t (fr.ev l) (fr.ev c) st
 | .slice t x lo hi none=>(fM P t (fr.ev x) (lo.map fr.ev) (hi.map fr.ev) st).map fun d=>(d,st)
 | .fieldAddr t x f=>(fQ P t (fr.ev x) f).map fun d=>(d,st)
 | .field t x f=>(Dt P t (fr.ev x) f).map fun d=>(d,st)
 | .indexAddr t x i=>(bX P t (fr.ev x) (fr.ev i) st).map fun d=>(d,st)
 | .index t x i=>(vm P t (fr.ev x) (fr.ev i)).map fun d=>(d,st)
 | .range t x=>yz P t (fr.ev x) st
 | .makeMap t r=>pC P t (r.map fr.ev) st
 | .insert t m k x=>(kA P t (fr.ev m) (fr.ev k) (fr.ev x) st).map fun ah=>(.tup [],ah)
 | .mapUpdate t m k x=>(kA P t (fr.ev m) (fr.ev k) (fr.ev x) st).map fun ah=>(.tup [],ah)
 | .lookup t x i false=>(pD P t (fr.ev x) (fr.ev i) st).map fun d=>(d,st)
 | .next it s=>xi (fr.ev it) s st
 | .extract t i=>match fr.ev t with
  | .tup ds=>(ds[i]?).map fun d=>(d,st)
  |_=>none
 | .call ⟨.builtin b,args,argTypes⟩=>bu P b argTypes.toList (args.toList.map fr.ev) st
 |_=>none
end
section
variable(P:Pv) (cf:fF)
def gd (fr:Fr) (st:St) (o:Oper):Option (D×St):=
 match o.op with
 | .call ⟨.value f,args,_⟩=>match fr.ev f with
  | .fn g lf=>cf g (args.toList.map fr.ev++lf) st
  |_=>none
 |op=>dN P fr st op o.type
def aD (ops:Array Oper) (fr:Fr) (o:Oper):Option Bool:=
 match o.guard with
 |none=>some true
 |some (j,want)=>match(ops[j]?).bind (·.dst) with
  |none=>none
  |some t=>match fr.get t with
   | .bool b=>some (b==want)
   | .tup _=>some false
   |_=>none
def kj (ops:Array Oper):List Oper→Fr→St→Option (Fr×St)
 |[],fr,st=>some (fr,st)
 |o::rest,fr,st=>
  match aD ops fr o with
  |some true=>match gd P cf fr st o with
   |some (d,ah)=>kj ops rest (fr.fN o.dst d) ah
   |none=>none
  |some false=>kj ops rest (fr.fN o.dst (.tup [])) st
  |none=>none
mutual
def gq:D→D→Bool
 | .bool a,.bool b=>a==b
 | .int k n,.int k' m=>decide (k=k') &&n==m
 | .str s,.str t=>s==t
 | .nul,.nul=>true
 | .pnil,.pnil=>true
 | .nilfn,.nilfn=>true
 | .nilif,.nilif=>true
 | .bo,.bo=>true
 | .sl a,.sl b=>kc a b
 | .agg a,.agg b=>kc a b
 | .tup a,.tup b=>kc a b
 | .ep a,.ep b=>kc a b
 | .win k v o l s,.win k' v' o' l' s'=>χ k k' &&χ v v' &&χ o o' &&χ l l' &&χ s s'
 | .ptr k v o,.ptr k' v' o'=>χ k k' &&χ v v' &&χ o o'
 | .mp k,.mp k'=>χ k k'
 | .fn f a,.fn g b=>χ f g &&kc a b
 |_,_=>false
def kc:List D→List D→Bool
 |[],[]=>true
 |a::l,b::m=>gq a b &&kc l m
 |_,_=>false
end
def vY:jC→jC→Bool
 | .mem v a c,.mem v' a' c'=>χ v v' &&(a==a') &&kc c c'
 | .iter s p,.iter s' p'=>s==s' &&χ p p'
 | .dead,.dead=>true
 |_,_=>false
def D.oV:D→Option Nat
 | .win k _ _ _ _=>some k
 | .ptr k _ _=>some k
 |_=>none
def jb:Op→Option Operand
 | .load _ a=>some a
 | .indexAddr _ x _=>some x
 |_=>none
def re (k:Option Nat) (a b:St):Bool:=
 match k with
 |none=>true
 |some k=>match a.bs[k]?,b.bs[k]? with
  |some x,some y=>vY x y
  |_,_=>false
def oF (k:Option Nat) (a b:St):Bool:=
 match k with
 |none=>true
 |some k=>match χ a.bs.length b.bs.length with
  |true=>true
  |false=>match a.bs[k]? with
   |some (.mem _ _ c)=>BY (refs c) a.bs.length
   |_=>false
def jW (x:Oper) (fi:Fr) (si tJ:St) (y:Oper) (fj:Fr) (sj Kl:St):Bool:=
 match jb y.op with
 |some a=>re (fj.ev a).oV si tJ
 |none=>match jb x.op with
  |some a=>re (fi.ev a).oV sj Kl &&oF (fi.ev a).oV si Kl
  |none=>false
abbrev Log:=List (Oper×Fr×St×St)
def JY (dy:List (Nat×Nat)) (j:Nat) (log:Log) (o:Oper) (fr:Fr) (st ah:St):Bool:=
 dy.all fun p=>match χ p.2 j &&Nat.blt p.1 j with
  |true=>match log[j-1-p.1]? with
   |some (x,fi,si,tJ)=>jW x fi si tJ o fr st ah
   |none=>false
  |false=>true
def tl (ops:Array Oper) (dy:List (Nat×Nat)):Nat→Log→List Oper→Fr→St→Option (Fr×St)
 |_,_,[],fr,st=>some (fr,st)
 |j,log,o::rest,fr,st=>
  match aD ops fr o with
  |some true=>match gd P cf fr st o with
   |some (d,ah)=>match JY dy j log o fr st ah with
    |true=>tl ops dy (j+1) ((o,fr,st,ah)::log) rest (fr.fN o.dst d) ah
    |false=>none
   |none=>none
  |some false=>tl ops dy (j+1) ((o,fr,st,st)::log) rest (fr.fN o.dst (.tup [])) st
  |none=>none
def AB (ops:Array Oper) (dy:List (Nat×Nat)) (fr:Fr) (st:St):Option (Fr×St):=
 match dy with
 |[]=>kj P cf ops ops.toList fr st
 |_=>tl P cf ops dy 0 [] ops.toList fr st
def iU (id:Nat):List (Nat×List (Nat×Nat))→List (Nat×Nat)
 |[]=>[]
 |(i,l)::r=>match χ i id with
  |true=>l
  |false=>iU id r
inductive Out where
 |next
 |exit (id:Nat)
 |ret
def iter (step:Fr→St→Option (Out×Fr×St)):Nat→Fr→St→Option (Out×Fr×St)
 |0,_,_=>none
 |n+1,fr,st=>match step fr.clean st with
  |some (.next,aG,ah)=>iter step n aG ah
  |r=>r
def cv (dy:List (Nat×List (Nat×Nat))) (n:Nat):Code→Fr→St→Option (Out×Fr×St)
 | .skip,fr,st=>some (.next,fr,st)
 | .region id ops _,fr,st=>match AB P cf ops (iU id dy) fr.clean st with
  |some (aG,ah)=>some (.next,aG,ah)
  |none=>none
 | .seq a b,fr,st=>match cv dy n a fr st with
  |some (.next,aG,ah)=>cv dy n b aG ah
  |r=>r
 | .cond c a b,fr,st=>match fr.ev c with
  | .bool true=>cv dy n a fr st
  | .bool false=>cv dy n b fr st
  |_=>none
 | .block id c,fr,st=>match cv dy n c fr st with
  |some (.exit i,aG,ah)=>if i=id then some (.next,aG,ah) else some (.exit i,aG,ah)
  |r=>r
 | .loop c,fr,st=>iter (cv dy n c) n fr st
 | .exit id,fr,st=>some (.exit id,fr,st)
 | .ret,fr,st=>some (.ret,fr,st)
 |_,_,_=>none
def l4 (fr:Fr) (st:St):List ResultVar→Option (List D)
 |[]=>some []
 | .tmp t::l=>(l4 fr st l).map fun ds=>fr.get t::ds
 | .cell a t::l=>(iM P t (fr.get a) st).bind fun d=>(l4 fr st l).map fun ds=>d::ds
def wA:List D→D
 |[d]=>d
 |ds=>.tup ds
end
def chunk (s:Nat):Nat→List D→List D
 |0,_=>[]
 |n+1,c=>(match s with|1=>c.headD .bo|_=>.agg (c.take s))::chunk s n (c.drop s)
def iK (f:D→Option D):List D→Option (List D)
 |[]=>some []
 |d::ds=>match f d with
  |some x=>match iK f ds with
   |some xs=>some (x::xs)
   |none=>none
  |none=>none
def fu (st:St) (N:Nat):Nat→D→Option D
 |0,_=>none
 |n+1,d=>match d with
  | .bool b=>some (.bool b)
  | .int k i=>some (.int k i)
  | .str s=>some (.str s)
  | .nul=>some (.sl [])
  | .sl es=>some (.sl es)
  | .pnil=>some .pnil
  | .nilfn=>some .nilfn
  | .nilif=>some .nilif
  | .win k aB off len s=>if k<N then none else(st.fX k aB).bind fun(_,c)=>if off+len*s≤c.length then(iK (fu st N n) ((c.drop off).take (len*s))).map fun cs=>.sl (chunk s len cs) else none
  | .agg cs=>(iK (fu st N n) cs).map .agg
  |_=>none
def ba (st:St) (N:Nat) (kn:Bool):Nat→D→Option D
 |0,_=>none
 |n+1,d=>match d with
  | .win k aB off len s=>if k<N then some (.win k aB off len s) else fu st N n (.win k aB off len s)
  | .ptr k aB off=>if k<N then some (.ptr k aB off) else none
  | .mp k=>if k<N then some (.mp k) else none
  | .nul=>some (if kn then .nul else .sl [])
  | .agg cs=>(iK (ba st N kn n) cs).map .agg
  | .tup ds=>(iK (ba st N kn n) ds).map .tup
  | .fn f lf=>if refs lf≤N then some (.fn f lf) else none
  |d=>some d
def pad (n:Nat) (args:List D):Fr:=⟨n,args++Qbj (n-args.length) (.tup []),[]⟩
def ae (m:Mode) (st:St):St:=
 match m with
 | .ro=>{st with flr:=st.bs.length,ro:=st.bs.length}
 | .rw=>{st with flr:=st.bs.length}
 | .cw=>st
 | .nw=>{st with ro:=st.bs.length}
def dj (m:Mode) (kn:Bool) (st st1:St) (d:D):Option (D×St):=
 match m with
 | .cw=>some (d,st1)
 | .nw=>some (d,⟨st1.bs,st.flr,st.ro⟩)
 |_=>match ba st1 st.bs.length kn 16 d with
  |some d'=>some (d',⟨st1.bs.take st.bs.length,st.flr,st.ro⟩)
  |none=>none
def B1 (P:Pv) (cf:fF) (n:Nat) (x:Fi) (body:Code) (args:List D) (st:St):Option (D×St):=
 match cv P cf x.dyn n body (pad x.nloc args) (ae x.mode st) with
 |some (.exit _,_,_)=>none
 |some (_,fr,st1)=>match l4 P fr st1 x.fn.results.toList with
  |some ds=>dj x.mode x.knul st st1 (wA ds)
  |none=>none
 |none=>none
def cQ (P:Pv):Nat→fF
 |0=>fun _ _ _=>none
 |n+1=>fun f args st=>
  match m_ f P.prm with
  |some p=>p args st
  |none=>match P.fi f with
   |some x=>match x.l7 with
    |some p=>p args st
    |none=>match x.fn.body with
     |some body=>B1 P (cQ P n) n x body args st
     |none=>none
   |none=>none
mutual
theorem tW:∀(a b:D),gq a b=true→a=b
 | .bool a,b,h=>by cases b<;>simp[gq] at h;rw[h]
 | .int k n,b,h=>by cases b<;>simp[gq] at h;rw[h.1,h.2]
 | .str s,b,h=>by cases b<;>simp[gq] at h;rw[h]
 | .nul,b,h=>by cases b<;>simp[gq] at h;rfl
 | .pnil,b,h=>by cases b<;>simp[gq] at h;rfl
 | .nilfn,b,h=>by cases b<;>simp[gq] at h;rfl
 | .nilif,b,h=>by cases b<;>simp[gq] at h;rfl
 | .bo,b,h=>by cases b<;>simp[gq] at h;rfl
 | .sl a,b,h=>by cases b<;>simp[gq] at h;rw[iF _ _ h]
 | .agg a,b,h=>by cases b<;>simp[gq] at h;rw[iF _ _ h]
 | .tup a,b,h=>by cases b<;>simp[gq] at h;rw[iF _ _ h]
 | .ep a,b,h=>by cases b<;>simp[gq] at h;rw[iF _ _ h]
 | .win ..,b,h=>by cases b<;>simp[gq] at h;rw[h.1.1.1.1,h.1.1.1.2,h.1.1.2,h.1.2,h.2]
 | .ptr ..,b,h=>by cases b<;>simp[gq] at h;rw[h.1.1,h.1.2,h.2]
 | .mp ..,b,h=>by cases b<;>simp[gq] at h;rw[h]
 | .fn f a,b,h=>by cases b<;>simp[gq] at h;rw[h.1,iF _ _ h.2]
theorem iF:∀(a b:List D),kc a b=true→a=b
 |[],b,h=>by cases b<;>simp[kc] at h;rfl
 |a::l,b,h=>by
  cases b with
  |nil=>simp[kc] at h
  |cons b m=>
   simp only[kc,Qb9] at h;rw[tW a b h.1,iF l m h.2]
end
mutual
theorem GC:∀(a:D),gq a a=true
 | .bool a=>by simp[gq]
 | .int k n=>by simp[gq]
 | .str s=>by simp[gq]
 | .nul=>rfl
 | .pnil=>rfl
 | .nilfn=>rfl
 | .nilif=>rfl
 | .bo=>rfl
 | .sl a=>by simp only[gq];exact g_ a
 | .agg a=>by simp only[gq];exact g_ a
 | .tup a=>by simp only[gq];exact g_ a
 | .ep a=>by simp only[gq];exact g_ a
 | .win ..=>by simp[gq]
 | .ptr ..=>by simp[gq]
 | .mp ..=>by simp[gq]
 | .fn f a=>by simp only[gq];rw[g_ a];simp
theorem g_:∀(a:List D),kc a a=true
 |[]=>rfl
 |a::l=>by simp only[kc];rw[GC a,g_ l];rfl
end
theorem x9 {a b:jC} (h:vY a b=true):a=b:=by
 cases a<;>cases b<;>simp[vY] at h<;>try rfl
 ·rw[h.1.1,h.1.2,iF _ _ h.2]
 ·rw[h.1,h.2]
variable{a b:St}{k:Nat}
theorem wV (h:re (some k) a b=true):b.bs[k]?=a.bs[k]?:=by
 unfold re at h;simp only at h
 split at h
 ·rename_i x y h1 h2;rw[h1,h2,x9 h]
 ·cases h
theorem rb {v:Nat} {ar:Bool} {c:List D} (h:a.bs[k]?=some (.mem v ar c)) (h':b.bs[k]?=some (.mem v ar c)):re (some k) a b=true:=by
 unfold re;simp only[h,h',vY,g_];simp
end Go.V
namespace Go.V
open Go.RowKit
structure X where
 aB:Nat→Option Nat
 β:Nat→Option (Nat×Nat)
 Z:Nat→Prop
def dp:jC→Option Nat
 | .mem v _ _=>some v
 | .iter _ _=>some 0
 | .map _=>some 0
 |_=>none
def St.aB (st:St) (k:Nat):Option Nat:=(st.bs[k]?).bind dp
def St.x (st:St) (β:Nat→Option (Nat×Nat)) (Z:Nat→Prop):X:=⟨st.aB,β,Z⟩
def cV (w:World) (b:Nat):Option Nat:=
 match w.heap[b]? with
 |some (.cells c _ _)=>some c.size
 |_=>none
inductive IR (w:World) (Z:Nat→Prop):D→Value→Prop where
 |bool (b:Bool):IR w Z (.bool b) (.bool b)
 |int (k:IntKind) (n:Int):IR w Z (.int k n) (.int k n)
 |str (s:List UInt8):IR w Z (.str s) (.string ⟨s.toArray⟩)
 |nul:IR w Z .nul (.slice none 0 0)
 |pnil:IR w Z .pnil (.pointer none)
 |nilfn:IR w Z .nilfn .nilFunc
 |nilif:IR w Z .nilif .nilIface
 |emp (a:Option Addr) (cap:Nat):IR w Z (.sl []) (.slice a 0 cap)
 |sl (es:List D) (b off cap s:Nat) (f:Nat→Nat→Value) (hz:Z b) (hc:es.length≤cap)
   (hs:∀(i:Nat) e,es[i]?=some e→e.cells?=some e.cells∧e.cells.length=s)
   (hv:∀(i:Nat) e (j:Nat) c,es[i]?=some e→e.cells[j]?=some c→w.cell? ⟨b,off+(i*s+j),none⟩=some (f i j)∧(f i j).oneCell'=true)
   (hr:∀(i:Nat) e (j:Nat) c,es[i]?=some e→e.cells[j]?=some c→IR w Z c (f i j)):IR w Z (.sl es) (.slice (some ⟨b,off,none⟩) es.length cap)
 |ep (cs:List D) (b off:Nat) (f:Nat→Value) (hz:Z b)
   (hv:∀(j:Nat) c,cs[j]?=some c→w.cell? ⟨b,off+j,none⟩=some (f j)∧(f j).oneCell'=true)
   (hr:∀(j:Nat) c,cs[j]?=some c→IR w Z c (f j)):IR w Z (.ep cs) (.pointer (some ⟨b,off,none⟩))
 |agg (cs:List D) (vs:List Value) (hl:cs.length=vs.length) (h1:∀v∈vs,v.oneCell'=true)
   (hr:∀(i:Nat) c v,cs[i]?=some c→vs[i]?=some v→IR w Z c v):IR w Z (.agg cs) (.agg vs.toArray)
 |tup (cs:List D) (vs:List Value) (hl:cs.length=vs.length)
   (hr:∀(i:Nat) c v,cs[i]?=some c→vs[i]?=some v→IR w Z c v):IR w Z (.tup cs) (.tuple vs.toArray)
 |bo (v:Value):IR w Z .bo v
inductive VR (w:World) (x:X):D→Value→Prop where
 |im (d:D) (v:Value) (h:IR w x.Z d v):VR w x d v
 |win (k vr off len s:Nat) (a:Addr) (cap:Nat) (hc:len≤cap) (hk:∃p,x.β k=some p) (hm:∀c,x.aB k=some c→vr≤c)
   (h:x.aB k=some vr→∃b base sz,x.β k=some (b,base)∧cV w b=some sz∧(cap=0∨(a=⟨b,base+off,none⟩∧base+off+cap*s≤sz))):
   VR w x (.win k vr off len s) (.slice (some a) len cap)
 |ptr (k vr off:Nat) (a:Addr) (hk:∃p,x.β k=some p) (hm:∀c,x.aB k=some c→vr≤c)
   (h:x.aB k=some vr→∃b base,x.β k=some (b,base)∧a=⟨b,base+off,none⟩):VR w x (.ptr k vr off) (.pointer (some a))
 |mp (k r:Nat) (hk:∃p,x.β k=some p) (h:x.aB k=some 0→∃base,x.β k=some (r,base)):VR w x (.mp k) (.map (some r))
 |fn (f:Nat) (cs:List D) (vs:List Value) (hl:cs.length=vs.length)
   (hr:∀(i:Nat) c v,cs[i]?=some c→vs[i]?=some v→VR w x c v):VR w x (.fn f cs) (.func (.func f) #[] vs.toArray)
 |agg (cs:List D) (vs:List Value) (hl:cs.length=vs.length) (h1:∀v∈vs,v.oneCell'=true)
   (hr:∀(i:Nat) c v,cs[i]?=some c→vs[i]?=some v→VR w x c v):VR w x (.agg cs) (.agg vs.toArray)
 |tup (cs:List D) (vs:List Value) (hl:cs.length=vs.length)
   (hr:∀(i:Nat) c v,cs[i]?=some c→vs[i]?=some v→VR w x c v):VR w x (.tup cs) (.tuple vs.toArray)
variable{w w':World}
theorem BU {b o:Nat} (h:w'.heap[b]?=w.heap[b]?):w'.cell? ⟨b,o,none⟩=w.cell? ⟨b,o,none⟩:=by
 simp only[World.cell?,h]
variable{d:D}{v:Value}
theorem IR.mono {Z Z':Nat→Prop} (hz:∀b,Z b→Z' b∧w'.heap[b]?=w.heap[b]?) (h:IR w Z d v):IR w' Z' d v:=by
 induction h with
 |bool b=>exact .bool b
 |int k n=>exact .int k n
 |str s=>exact .str s
 |nul=>exact .nul
 |pnil=>exact .pnil
 |nilfn=>exact .nilfn
 |nilif=>exact .nilif
 |emp a cap=>exact .emp a cap
 |sl es b off cap s f hb hc hs hv hr ih=>
  exact .sl es b off cap s f (hz b hb).1 hc hs (fun i e j c he hj=>by rw[BU (hz b hb).2];exact hv i e j c he hj) ih
 |ep cs b off f hb hv hr ih=>exact .ep cs b off f (hz b hb).1 (fun j c hj=>by rw[BU (hz b hb).2];exact hv j c hj) ih
 |agg cs vs hl h1 hr ih=>exact .agg cs vs hl h1 ih
 |tup cs vs hl hr ih=>exact .tup cs vs hl ih
 |bo v=>exact .bo v
structure dS (w:World) (x:X) (w':World) (x':X):Prop where
 dm:∀k p,x.β k=some p→∃p',x'.β k=some p'
 z:∀b,x.Z b→x'.Z b∧w'.heap[b]?=w.heap[b]?
 aB:∀k c p,x.β k=some p→x'.aB k=some c→∃o,x.aB k=some o∧o≤c
 at_:∀k c,x'.aB k=some c→x.aB k=some c→∀b base,x.β k=some (b,base)→x'.β k=some (b,base)∧cV w' b=cV w b
theorem dS.refl (w:World) (x:X):dS w x w x:=
 ⟨fun _ p h=>⟨p,h⟩,fun _ h=>⟨h,rfl⟩,fun _ c _ _ h=>⟨c,h,η _⟩,fun _ _ _ _ _ _ h=>⟨h,rfl⟩⟩
variable{w1 w2 w3:World}
theorem dS.trans {x1 x2 x3:X} (h:dS w1 x1 w2 x2) (g:dS w2 x2 w3 x3):dS w1 x1 w3 x3 where
 dm k p hp:=by obtain⟨p',y7⟩:=h.dm k p hp;exact g.dm k p' y7
 z b hb:=⟨(g.z b (h.z b hb).1).1,((g.z b (h.z b hb).1).2).trans (h.z b hb).2⟩
 aB k c p hk hc:=by
  obtain⟨p',y7⟩:=h.dm k p hk;obtain⟨o,ho,hle⟩:=g.aB k c p' y7 hc;obtain⟨q,hq,IZ⟩:=h.aB k o p hk ho;exact⟨q,hq,Φ IZ hle⟩
 at_ k c h3 h1 b base hb:=by
  obtain⟨p',y7⟩:=h.dm k _ hb;obtain⟨o,ho,hle⟩:=g.aB k c p' y7 h3;obtain⟨p,hp,IZ⟩:=h.aB k o _ hb ho;rw[h1] at hp;cases hp;have:o=c:=Qaj hle IZ;subst this;obtain⟨hb2,LA⟩:=h.at_ k _ ho h1 b base hb;obtain⟨O0,PJ⟩:=g.at_ k _ h3 ho b base hb2;exact⟨O0,PJ.trans LA⟩
variable{x':X}
theorem VR.mono {x:X} (hk:dS w x w' x') (h:VR w x d v):VR w' x' d v:=by
 induction h with
 |im d v h=>exact .im d v (h.mono hk.z)
 |win k vr off len s a cap hc hkn hm h=>
  obtain⟨p,hp⟩:=hkn;refine .win k vr off len s a cap hc (hk.dm k p hp) ?_ ?_
  ·intro c I_;obtain⟨o,ho,hle⟩:=hk.aB k c p hp I_;exact Φ (hm o ho) hle
  ·intro hv;obtain⟨o,ho,hle⟩:=hk.aB k vr p hp hv;have:o=vr:=Qaj hle (hm o ho);subst this;obtain⟨b,base,sz,hb,hs,hr⟩:=h ho;obtain⟨eW,nW⟩:=hk.at_ k _ hv ho b base hb;exact⟨b,base,sz,eW,nW.trans hs,hr⟩
 |ptr k vr off a hkn hm h=>
  obtain⟨p,hp⟩:=hkn;refine .ptr k vr off a (hk.dm k p hp) ?_ ?_
  ·intro c I_;obtain⟨o,ho,hle⟩:=hk.aB k c p hp I_;exact Φ (hm o ho) hle
  ·intro hv;obtain⟨o,ho,hle⟩:=hk.aB k vr p hp hv;have:o=vr:=Qaj hle (hm o ho);subst this;obtain⟨b,base,hb,hr⟩:=h ho;exact⟨b,base,(hk.at_ k _ hv ho b base hb).1,hr⟩
 |mp k r hkn h=>
  obtain⟨p,hp⟩:=hkn;refine .mp k r (hk.dm k p hp) fun hv=>?_;obtain⟨o,ho,hle⟩:=hk.aB k 0 p hp hv;have:o=0:=by omega
  subst this;obtain⟨base,hb⟩:=h ho;exact⟨base,(hk.at_ k _ hv ho r base hb).1⟩
 |fn f cs vs hl hr ih=>exact .fn f cs vs hl ih
 |agg cs vs hl h1 hr ih=>exact .agg cs vs hl h1 ih
 |tup cs vs hl hr ih=>exact .tup cs vs hl ih
theorem VR.bo (w:World) (x:X) (v:Value):VR w x .bo v:=.im _ _ (.bo v)
def tC (n:Nat) (fr:Nat×Nat):Prop:=fr.1≤fr.2∧∀o,o<n→¬(fr.1≤o∧o<fr.2)
theorem tC.zero (n:Nat):tC n (0,0):=⟨η _,fun o _=>by omega⟩
def jB (w:World) (x:X) (b base:Nat):jC→Prop
 | .mem _ _ cells=>∃c el fr,w.heap[b]?=some (.cells c el fr)∧base+cells.length≤c.size∧tC c.size fr∧
   ∀(j:Nat) d,cells[j]?=some d→∃u,c[base+j]?=some u∧u.oneCell'=true∧VR w x d u
 | .iter s pos=>base=0∧w.heap[b]?=some (.stringIter ⟨s.toArray⟩ pos)
 | .map es=>base=0∧∃entries clock,w.heap[b]?=some (.map entries clock)∧entries.size=es.length∧∀(i:Nat) p,es[i]?=some p→∃kk n vk x e,p=(.int kk n,.int vk x)∧entries[i]?=some e∧e.key=.int kk n∧e.val=.int vk x
 | .dead=>False
structure iH (w:World) (st:St) (β:Nat→Option (Nat×Nat)) (Z:Nat→Prop):Prop where
 dom:∀k b base,β k=some (b,base)→k<st.bs.length
 lt:∀k b base,β k=some (b,base)→b<w.heap.size
 inj:∀k k' b x x',β k=some (b,x)→β k'=some (b,x')→k=k'
 zd:∀k b base,β k=some (b,base)→¬Z b
 zl:∀b,Z b→b<w.heap.size
 box:∀k b base bx,β k=some (b,base)→st.bs[k]?=some bx→jB w (st.x β Z) b base bx
 flr:st.flr≤st.bs.length
 ro:st.ro≤st.bs.length
structure Fq (M:Nat→Prop) (w w':World):Prop where
 os:w'.os=w.os
 tape:w'.tape=w.tape
 output:w'.output=w.output
 size:w.heap.size≤w'.heap.size
 block:∀b,b<w.heap.size→¬M b→w'.heap[b]?=w.heap[b]?
theorem Fq.refl (M:Nat→Prop) (w:World):Fq M w w:=⟨rfl,rfl,rfl,η _,fun _ _ _=>rfl⟩
variable{M M':Nat→Prop}
theorem Fq.trans {Yf:Nat→Prop} (h:Fq M w1 w2) (g:Fq M' w2 w3) (hM:∀b,M b→Yf b) (hM':∀b,b<w1.heap.size→M' b→Yf b):Fq Yf w1 w3:=
 ⟨g.os.trans h.os,g.tape.trans h.tape,g.output.trans h.output,Φ h.size g.size,fun b hb hn=>
  (g.block b (Qb6 hb h.size) fun hm=>hn (hM' b hb hm)).trans (h.block b hb fun hm=>hn (hM b hm))⟩
theorem Fq.mono (h:Fq M w w') (hM:∀b,M b→M' b):Fq M' w w':=
 ⟨h.os,h.tape,h.output,h.size,fun b hb hn=>h.block b hb fun hm=>hn (hM b hm)⟩
def Yl (st:St) (β:Nat→Option (Nat×Nat)) (b:Nat):Prop:=∃k base,β k=some (b,base)∧st.ro≤k
def qN (w:World) (x:X) (fr:Fr) (tmps:Array Value):Prop:=∀t,VR w x (fr.get t) (tmps.getD t undef)
theorem qN.mono {x:X} {fr:Fr} {tmps:Array Value} (h:qN w x fr tmps) (hk:dS w x w' x'):qN w' x' fr tmps:=fun t=>(h t).mono hk
structure Pv.Ok (pv:Pv) (P:Program):Prop where
 ty:∀t i,pv.info t=some i→P.info? t=some i
 fs:∀f x,pv.fi f=some x→x.l7=none→P.funcs[f]?=some x.fn∧∀b,x.fn.body=some b→x.fn.name≠ "runtime.NumGoroutine"
 eqb:∀t,pv.eqb.contains t=true→P.stoodInHeld t=false∧P.eqGuardType P.depth t=false
 mixed:P.follows .mixedOrders=true
section
variable{pv:Pv} {P:Program} (ok:pv.Ok P)
include ok
variable{t:Nat}
theorem Ce {d:TypeDesc} (h:pv.cy t=some d):P.underlying t=some d:=by
 unfold Pv.cy at h;unfold Program.underlying
 cases hi:pv.info t with
 |none=>simp[hi] at h
 |some i=>
  rw[ok.ty t i hi];simp only[hi] at h;obtain⟨desc,str,size,bytes,hp,al,fa,z,cmp,ms⟩:=i
  cases desc with
  |named nm u=>
   simp only at h
   cases hu:pv.info u with
   |none=>simp[hu] at h
   |some j=>rw[hu] at h;simp only[ok.ty u j hu];simpa using h
  |_=>simpa using h
theorem aN {d:TypeDesc} (h:pv.cy t=some d) (w:World):(underlying t).run P w=.ok d w:=by
 simp[underlying,Ce ok h]
theorem pj {i:TypeInfo} (h:pv.info t=some i) (w:World):(typeInfo t).run P w=.ok i w:=by
 simp[typeInfo,ok.ty t i h]
theorem cm {n:Nat} (h:cz pv t=some n) (w:World):(sizeOf t).run P w=.ok n w:=by
 unfold cz at h
 cases hi:pv.info t with
 |none=>simp[hi] at h
 |some i=>simp only[hi,ο.injEq] at h;simp[sizeOf,pj ok hi,h]
omit ok in
theorem lV {i:TypeInfo} (h:pv.info t=some i):cz pv t=some i.size:=by simp[cz,h]
def vj (d:TypeDesc):Bool:=
 match d with
 | .struct _| .array _ _=>true
 |_=>false
theorem tL {d:TypeDesc} (h:pv.cy t=some d) (w:World):(isAgg t).run P w=.ok (vj d) w:=by
 simp only[isAgg,ε,aN ok h,δ];cases d<;>rfl
theorem Av {z:D} (h:wQ pv t=some z) (w:World):∃v,(zeroValue t).run P w=.ok v w∧z=my v:=by
 unfold wQ at h
 cases hi:pv.info t with
 |none=>simp[hi] at h
 |some i=>
  rw[hi] at h
  cases hz:i.zero with
  |none=>simp[hz] at h
  |some v=>simp[hz] at h;exact⟨v,by simp[zeroValue,pj ok hi,hz],h.symm⟩
end
theorem K6 (v:Value):FX v=v.oneCell':=by cases v<;>rfl
theorem xe (w:World) (Z:Nat→Prop) (v:Value) (h:FX v=true):IR w Z (uO v) v:=by
 cases v with
 |bool b=>exact .bool b
 |int k n=>exact .int k n
 |string s=>
  have:=IR.str (w:=w) (Z:=Z) s.data.toList
  simpa[uO] using this
 |pointer a=>cases a with
  |none=>exact .pnil
  |some a=>exact .bo _
 |slice a l c=>
  unfold uO
  split<;>first|contradiction|skip
  all_goals first|(rename_i h;cases h;exact .nul)|exact .bo _
 |nilFunc=>exact .nilfn
 |nilIface=>exact .nilif
 |_=>exact .bo _
theorem yF {l:List Value}:∀{r:List D},nU l=some r→r.length=l.length∧(∀v∈l,v.oneCell'=true)∧∀(w:World) (Z:Nat→Prop) (i:Nat) c v,r[i]?=some c→l[i]?=some v→IR w Z c v:=by
 induction l with
 |nil=>intro r h;simp[nU] at h;subst h;simp
 |cons v l ih=>
  intro r h;unfold nU at h
  cases h1:FX v with
  |false=>simp[h1] at h
  |true=>
   simp only[h1] at h
   cases hr:nU l with
   |none=>simp[hr] at h
   |some r'=>
    simp only[hr,ο.injEq] at h;subst h;obtain⟨hl,ho,hi⟩:=ih hr;refine⟨by simp[hl],?_,?_⟩
    ·intro u hu
     rcases List.mem_cons.1 hu with rfl|hu
     ·rw[←K6];exact h1
     ·exact ho u hu
    ·intro w Z i c u hc hu
     cases i with
     |zero=>simp at hc hu;subst hc;subst hu;exact xe w Z _ h1
     |succ i=>simp at hc hu;exact hi w Z i c u hc hu
theorem uN (w:World) (Z:Nat→Prop) (v:Value):IR w Z (my v) v:=by
 unfold my
 split
 ·rename_i cs
  split
  ·rename_i l hl;obtain⟨h1,h2,h3⟩:=yF hl;have:=IR.agg (w:=w) (Z:=Z) l cs.toList h1 h2 (h3 w Z)
   simpa using this
  ·exact .bo _
 ·rename_i hn
  by_cases h:FX v=true
  ·exact xe w Z v h
  ·cases v with
   |agg cs=>exact absurd rfl (hn cs)
   |tuple vs=>exact .bo _
   |_=>simp[FX] at h
variable{w:World}{fr:Fr}{a:Act}
theorem xO {x:X} (h:qN w x fr a.tmps) (o:Operand):VR w x (fr.ev o) (a.eval o):=by
 cases o with
 |tmp t=>exact h t
 |const v=>exact .im _ _ (uN _ _ v)
 |global g=>exact .bo _ _ _
 |func f=>exact .fn f [] [] rfl (by simp)
theorem yG (d e:D):∀(l:List D) (t u:Nat),nth d (l.set t e) u=if u=t∧t<l.length then e else nth d l u
 |[],t,u=>by simp
 |x::l,0,u=>by cases u<;>simp[nth]
 |x::l,t+1,u=>by
  cases u with
  |zero=>simp[nth]
  |succ u=>simp only[List.set_cons_succ,nth,υ,Nat.add_lt_add_iff_right,Nat.add_right_cancel_iff];exact yG d e l t u
theorem Er (d:D):∀(l:List D) (t:Nat),l.length≤t→nth d l t=d
 |[],t,_=>by cases t<;>rfl
 |x::l,0,h=>by simp at h
 |x::l,t+1,h=>Er d l t (by simpa using h)
theorem E5 (fr:Fr) (t u:Nat) (d:D):(fr.put t d).get u=(if u=t then(if BY fr.n t=false∧fr.loc.length≤t then .bo else d) else fr.get u):=by
 unfold Fr.put
 by_cases hut:u=t
 ·subst hut;simp only[if_true]
  cases hb:BY fr.n u with
  |false=>
   simp only[Fr.get,hb,yG,true_and]
   by_cases hl:u<fr.loc.length
   ·rw[if_pos hl,if_neg z0]
   ·rw[if_neg hl,if_pos z0];exact Er _ _ _ z0
  |true=>simp[Fr.get,hb,look,Nat.beq_refl]
 ·simp only[hut,if_false]
  have hq:χ u t=false:=by
   cases hq:χ u t with
   |false=>rfl
   |true=>exact absurd (Nat.eq_of_beq_eq_true hq) hut
  cases hb:BY fr.n t<;>cases hbu:BY fr.n u<;>simp[Fr.get,hbu,look,hq,yG,hut]
theorem HI {x:X} {d:D} {v:Value} (h:qN w x fr a.tmps) (hd:VR w x d v) (dst:Option Nat) (hs:∀t,dst=some t→t<a.tmps.size):qN w x (fr.fN dst d) (a.put dst v).tmps:=by
 cases dst with
 |none=>exact h
 |some t=>
  intro u;have hu:=h u;have hs:=hs t rfl;simp only[Fr.fN,Act.put,E5]
  have Q0:(a.tmps.setIfInBounds t v).getD u undef=if u=t then v else a.tmps.getD u undef:=by
   simp only[Array.getD_eq_getD_getElem?,Array.getElem?_setIfInBounds]
   by_cases hut:t=u
   ·subst hut;simp[hs]
   ·have:¬u=t:=fun e=>hut e.symm;simp[hut,this]
  rw[Q0]
  by_cases hut:u=t
  ·simp only[hut,if_true]
   split
   ·exact .bo _ _ _
   ·exact hd
  ·simp only[hut,if_false];exact hu
end Go.V
namespace Go.V
open Go.RowKit
theorem ja (k:IntKind) (n:Int):bp k n=k.wrap n:=by
 unfold bp
 split
 ·rename_i m
  split
  ·rename_i h;have h:=Nat.le_of_ble_eq_true h;cases k<;>simp only[Qbd,gh,Qam,Qag] at*<;>simp<;>omega
  ·rfl
 ·rename_i m
  split
  ·rename_i h;have h:¬yL k≤m:=fun h'=>by rw[Qax h'] at h;cases h
   cases k<;>simp only[Qbd,yL,Qam,Qag] at*<;>simp<;>omega
  ·rfl
section
variable{w:World} {x:X}
variable{v:Value}
theorem cZ {k:IntKind} {n:Int} (h:VR w x (.int k n) v):v=.int k n:=by
 cases h with|im _ _ h=>cases h;rfl
theorem fq {b:Bool} (h:VR w x (.bool b) v):v=.bool b:=by
 cases h with|im _ _ h=>cases h;rfl
theorem gK {s:List UInt8} (h:VR w x (.str s) v):v=.string ⟨s.toArray⟩:=by
 cases h with|im _ _ h=>cases h;rfl
theorem fK (h:VR w x .nul v):v=.slice none 0 0:=by
 cases h with|im _ _ h=>cases h;rfl
theorem jE (h:VR w x .pnil v):v=.pointer none:=by
 cases h with|im _ _ h=>cases h;rfl
variable{cs:List D}
theorem jk (h:VR w x (.agg cs) v):∃vs:List Value,v=.agg vs.toArray∧cs.length=vs.length∧(∀u∈vs,u.oneCell'=true)∧
  ∀(i:Nat) c u,cs[i]?=some c→vs[i]?=some u→VR w x c u:=by
 cases h with
 |im _ _ h=>cases h with|agg _ vs hl h1 hr=>exact⟨vs,rfl,hl,h1,fun i c u hc hu=>.im _ _ (hr i c u hc hu)⟩
 |agg _ vs hl h1 hr=>exact⟨vs,rfl,hl,h1,hr⟩
theorem yh (h:VR w x (.tup cs) v):∃vs:List Value,v=.tuple vs.toArray∧cs.length=vs.length∧
  ∀(i:Nat) c u,cs[i]?=some c→vs[i]?=some u→VR w x c u:=by
 cases h with
 |im _ _ h=>cases h with|tup _ vs hl hr=>exact⟨vs,rfl,hl,fun i c u hc hu=>.im _ _ (hr i c u hc hu)⟩
 |tup _ vs hl hr=>exact⟨vs,rfl,hl,hr⟩
theorem Aa {f:Nat} (h:VR w x (.fn f cs) v):∃vs:List Value,v=.func (.func f) #[] vs.toArray∧cs.length=vs.length∧
  ∀(i:Nat) c u,cs[i]?=some c→vs[i]?=some u→VR w x c u:=by
 cases h with
 |im _ _ h=>cases h
 |fn _ _ vs hl hr=>exact⟨vs,rfl,hl,hr⟩
end
theorem pick {p:Nat→Value→Prop}:∀(n:Nat),(∀j,j<n→∃u,p j u)→∃us:List Value,us.length=n∧∀(j:Nat) u,us[j]?=some u→p j u
 |0,_=>⟨[],rfl,by simp⟩
 |n+1,h=>by
  obtain⟨us,hl,hp⟩:=pick n fun j hj=>h j z0;obtain⟨u,hu⟩:=h n z0;refine⟨us++[u],by simp[hl],fun j v hv=>?_⟩
  rcases Nat.lt_trichotomy j n with hj|hj|hj
  ·rw[ψ z0] at hv;exact hp j v hv
  ·subst hj;rw[←hl] at hv;simp at hv;subst hv;exact hu
  ·rw[ν (by simp;omega)] at hv;cases hv
def cK (w:World) (x:X) (b o:Nat) (c:List D):Prop:=
 ∀(j:Nat) d,c[j]?=some d→∃u,w.cell? ⟨b,o+j,none⟩=some u∧u.oneCell'=true∧VR w x d u
variable{w:World}{b o:Nat}{c:List D}
theorem cK.drop {x:X} (h:cK w x b o c) (n:Nat):cK w x b (o+n) (c.drop n):=by
 intro j d hd;rw[Θ] at hd;have:=h (n+j) d hd
 rwa [show o+(n+j)=o+n+j by omega] at this
theorem cK.take {x:X} (h:cK w x b o c) (n:Nat):cK w x b o (c.take n):=by
 intro j d hd;rw[Ω] at hd
 split at hd
 ·exact h j d hd
 ·cases hd
theorem cK.list {x:X} (h:cK w x b o c):∃us:List Value,us.length=c.length∧
  (∀(j:Nat) u,us[j]?=some u→w.cell? ⟨b,o+j,none⟩=some u)∧(∀u∈us,u.oneCell'=true)∧∀(j:Nat) d u,c[j]?=some d→us[j]?=some u→VR w x d u:=by
 obtain⟨us,hl,hp⟩:=pick (p:=fun j u=>∃d,c[j]?=some d∧w.cell? ⟨b,o+j,none⟩=some u∧u.oneCell'=true∧VR w x d u) c.length fun j hj=>by
  obtain⟨u,hu⟩:=h j c[j] (π hj);exact⟨u,c[j],π hj,hu⟩
 refine⟨us,hl,fun j u hu=>?_,fun u hu=>?_,fun j d u hd hu=>?_⟩
 ·obtain⟨_,_,h,_⟩:=hp j u hu;exact h
 ·obtain⟨j,hj⟩:=Qa5 hu;obtain⟨_,_,_,h,_⟩:=hp j u hj;exact h
 ·obtain⟨d',EY,_,_,h⟩:=hp j u hu;rw[hd] at EY;cases EY;exact h
theorem sN {P:Program} {us:List Value} (h:∀(j:Nat) u,us[j]?=some u→w.cell? ⟨b,o+j,none⟩=some u):
  (loadCells ⟨b,o,none⟩ us.length).run P w=.ok us.toArray w:=by
 refine run_loadCells_list w ⟨b,o,none⟩ us fun j v hv=>?_;have:=h j v hv;unfold Addr.add
 split
 ·rename_i hj;subst hj;simpa using this
 ·exact this
section
variable{pv:Pv} {P:Program} (ok:pv.Ok P)
include ok
variable{w:World}{t:Nat}{d:D}
theorem tG {x:X} {b o:Nat} {c:List D} (hc:cK w x b o c) (h:dY pv t c=some d):
  ∃v,(loadVar t ⟨b,o,none⟩).run P w=.ok v w∧VR w x d v:=by
 unfold dY at h
 have agg:∀td,pv.cy t=some td→vj td=true→(cz pv t).bind (fun n=>if n≤c.length then some (D.agg (c.take n)) else none)=some d→
   ∃v,(loadVar t ⟨b,o,none⟩).run P w=.ok v w∧VR w x d v:=by
  intro td hu ha h
  cases hs:cz pv t with
  |none=>simp[hs] at h
  |some n=>
   simp only[hs,Qab] at h
   split at h
   ·rename_i hn;simp only[ο.injEq] at h;subst h;obtain⟨us,hl,h1,h2,h3⟩:=(hc.take n).list;have TU:us.length=n:=by simp[hl];omega
    refine⟨.agg us.toArray,?_,.agg _ us hl.symm h2 h3⟩;simp only[loadVar,ε,tL ok hu,δ,ha,if_true,cm ok hs];have:=sN (P:=P) h1;rw[TU] at this;simp[this]
   ·cases h
 split at h
 ·cases h
 ·rename_i hu;exact agg _ hu rfl h
 ·rename_i hu;exact agg _ hu rfl h
 ·rename_i td h1 h2 hu
  have ha:vj td=false:=by
   cases td<;>first|rfl|(exfalso;first|exact h1 _ rfl|exact h2 _ _ rfl)
  cases c with
  |nil=>cases h
  |cons y l=>
   simp at h;subst h;obtain⟨u,jH,mJ,rW⟩:=hc 0 y rfl;refine⟨u,?_,rW⟩;simp only[AN] at jH;simp[loadVar,tL ok hu,ha,jH]
theorem nS {x:X} {off:Nat} {cs:List D} {vs:List Value} (hl:cs.length=vs.length) (h1:∀u∈vs,u.oneCell'=true) (hr:∀(i:Nat) c u,cs[i]?=some c→vs[i]?=some u→VR w x c u) (h:sR pv t cs off=some d):
  ∃v,(part t vs.toArray off).run P w=.ok v w∧VR w x d v:=by
 unfold sR at h
 have agg:∀td,pv.cy t=some td→vj td=true→(cz pv t).bind (fun n=>if off+n≤cs.length then some (D.agg ((cs.drop off).take n)) else none)=some d→
   ∃v,(part t vs.toArray off).run P w=.ok v w∧VR w x d v:=by
  intro td hu ha h
  cases hs:cz pv t with
  |none=>simp[hs] at h
  |some n=>
   simp only[hs,Qab] at h
   split at h
   ·rename_i hn;simp only[ο.injEq] at h;subst h;refine⟨.agg ((vs.drop off).take n).toArray,?_,.agg _ _ (by simp[hl]) (fun u hu=>h1 u (List.mem_of_mem_drop (Qaw hu))) ?_⟩
    ·simp only[part,ε,tL ok hu,δ,ha,if_true,cm ok hs,μ]
     congr 2
     apply Qbn;simp[Qan]
    ·intro i c u hc hu;rw[Ω] at hc hu
     split at hc
     ·rename_i hi;rw[if_pos hi] at hu;rw[Θ] at hc hu;exact hr _ c u hc hu
     ·cases hc
   ·cases h
 split at h
 ·cases h
 ·rename_i hu;exact agg _ hu rfl h
 ·rename_i hu;exact agg _ hu rfl h
 ·rename_i td Sc PY hu
  have ha:vj td=false:=by
   cases td<;>first|rfl|(exfalso;first|exact Sc _ rfl|exact PY _ _ rfl)
  have hlt:off<cs.length:=by
   rcases φ off cs.length with h'|h'
   ·exact h'
   ·rw[ν h'] at h;cases h
  obtain⟨u,QM⟩:∃u,vs[off]?=some u:=⟨vs[off]' z0,π _⟩
  exact⟨u,by simp[part,tL ok hu,ha,QM],hr off d u h QM⟩
end
end Go.V
namespace Go.V
open Go.RowKit
theorem yu (s t:List UInt8):((⟨s.toArray⟩:ByteArray).toList==(⟨t.toArray⟩:ByteArray).toList)=(s==t):=by
 rw[IT,IT]
variable{w:World}{k vr off:Nat}{v:Value}
theorem cH {x:X} (h:VR w x (.ptr k vr off) v):∃a,v=.pointer (some a)∧(∃p,x.β k=some p)∧
  (x.aB k=some vr→∃b base,x.β k=some (b,base)∧a=⟨b,base+off,none⟩):=by
 cases h with
 |im _ _ h=>cases h
 |ptr _ _ _ a hk hm h=>exact⟨a,rfl,hk,h⟩
theorem D1 {x:X} (h:VR w x (.mp k) v):∃r,v=.map (some r)∧(x.aB k=some 0→∃base,x.β k=some (r,base)):=by
 cases h with
 |im _ _ h=>cases h
 |mp _ r hk h=>exact⟨r,rfl,h⟩
theorem fJ {x:X} {len s:Nat} (h:VR w x (.win k vr off len s) v):∃a cap,v=.slice (some a) len cap∧len≤cap∧(∃p,x.β k=some p)∧
  (∀c,x.aB k=some c→vr≤c)∧
  (x.aB k=some vr→∃b base sz,x.β k=some (b,base)∧cV w b=some sz∧(cap=0∨(a=⟨b,base+off,none⟩∧base+off+cap*s≤sz))):=by
 cases h with
 |im _ _ h=>cases h
 |win _ _ _ _ _ a cap hc hk hm h=>exact⟨a,cap,rfl,hc,hk,hm,h⟩
theorem mM {x:X} {es:List D} (h:VR w x (.sl es) v):∃a cap,v=.slice a es.length cap∧es.length≤cap∧
  (es=[]∨∃b off s,a=some ⟨b,off,none⟩∧x.Z b∧(∀(i:Nat) e,es[i]?=some e→e.cells?=some e.cells∧e.cells.length=s)∧
   (∀(i:Nat) e,es[i]?=some e→cK w x b (off+i*s) e.cells)∧
   ∃f:Nat→Nat→Value,(∀(i:Nat) e (j:Nat) c,es[i]?=some e→e.cells[j]?=some c→w.cell? ⟨b,off+(i*s+j),none⟩=some (f i j)∧(f i j).oneCell'=true)∧
    ∀(i:Nat) e (j:Nat) c,es[i]?=some e→e.cells[j]?=some c→IR w x.Z c (f i j)):=by
 cases h with
 |im _ _ h=>
  cases h with
  |emp a cap=>exact⟨a,cap,rfl,by simp,.inl rfl⟩
  |sl _ b off cap s f hz hc hs hv hr=>
   refine⟨_,cap,rfl,hc,.inr ⟨b,off,s,rfl,hz,hs,?_,f,hv,hr⟩⟩;intro i e he j d hd;obtain⟨h1,h2⟩:=hv i e j d he hd;exact⟨f i j,by rw[←h1];congr 2;omega,h2,.im _ _ (hr i e j d he hd)⟩
theorem ub {x:X} {cs:List D} (h:VR w x (.ep cs) v):∃b off,v=.pointer (some ⟨b,off,none⟩)∧x.Z b∧cK w x b off cs∧
  ∃f:Nat→Value,(∀(j:Nat) c,cs[j]?=some c→w.cell? ⟨b,off+j,none⟩=some (f j)∧(f j).oneCell'=true)∧∀(j:Nat) c,cs[j]?=some c→IR w x.Z c (f j):=by
 cases h with
 |im _ _ h=>
  cases h with
  |ep _ b off f hz hv hr=>
   exact⟨b,off,rfl,hz,fun j d hd=>⟨f j,(hv j d hd).1,(hv j d hd).2,.im _ _ (hr j d hd)⟩,f,hv,hr⟩
section
variable{pv:Pv} {P:Program} (ok:pv.Ok P)
include ok
theorem Tn (n:Nat):(∀{w:World} {x:X} {t:Nat} {d e:D} {u v:Value} {b:Bool},VR w x d u→VR w x e v→Mk pv n t d e=some b→∀m,n≤m→(ω m t u v).run P w=.ok b w)∧
  (∀{w:World} {x:X} {xs ys:List D} {us vs:List Value} {fs:List Field} {b:Bool},xs.length=us.length→ys.length=vs.length→(∀u∈us,u.oneCell'=true)→(∀u∈vs,u.oneCell'=true)→
   (∀(i:Nat) c u,xs[i]?=some c→us[i]?=some u→VR w x c u)→(∀(i:Nat) c u,ys[i]?=some c→vs[i]?=some u→VR w x c u)→
   eqFields pv n xs ys fs=some b→∀m,n≤m→(Qb1 m us.toArray vs.toArray fs).run P w=.ok b w)∧
  (∀{w:World} {x:X} {t sz:Nat} {xs ys:List D} {us vs:List Value} {left i:Nat} {b:Bool},cz pv t=some sz→xs.length=us.length→ys.length=vs.length→(∀u∈us,u.oneCell'=true)→(∀u∈vs,u.oneCell'=true)→
   (∀(i:Nat) c u,xs[i]?=some c→us[i]?=some u→VR w x c u)→(∀(i:Nat) c u,ys[i]?=some c→vs[i]?=some u→VR w x c u)→
   oc pv n t sz xs ys left i=some b→∀m,n≤m→
   ((do
    for j in List.range' i left do
     if !(←ω m t (←part t us.toArray (j*sz)) (←part t vs.toArray (j*sz))) then return false
    pure true:Sem Bool)).run P w=.ok b w):=by
 induction n with
 |zero=>refine⟨?_,?_,?_⟩<;>intros<;>rename_i h _ _<;>simp[Mk,eqFields,oc] at h
 |succ n ih=>
  obtain⟨PF,EL,YP⟩:=ih;refine⟨?_,?_,?_⟩
  ·intro w x t d e u v b hu hv h m hm
   obtain⟨m,rfl⟩:∃m',m=m'+1:=⟨m-1,by omega⟩
   unfold Mk at h
   split at h
   ·rename_i ht;rw[fq hu,fq hv];simp only[ο.injEq] at h;subst h;simp[ω,aN ok ht]
   ·rename_i ht;rw[cZ hu,cZ hv]
    split at h
    ·rename_i hk;subst hk;simp only[ο.injEq] at h;subst h;simp[ω,aN ok ht]
    ·cases h
   ·rename_i ht;rw[gK hu,gK hv];simp only[ο.injEq] at h;subst h;simp only[ω,ε,aN ok ht,δ,μ,beq_toListBytes,yu]
   ·rename_i ht;rw[jE hu,jE hv];simp only[ο.injEq] at h;subst h;simp[ω,aN ok ht]
   ·rename_i ht;rw[jE hu];obtain⟨a,rfl,_⟩:=cH hv;simp only[ο.injEq] at h;subst h;simp[ω,aN ok ht]
   ·rename_i ht;rw[jE hv];obtain⟨a,rfl,_⟩:=cH hu;simp only[ο.injEq] at h;subst h;simp[ω,aN ok ht]
   ·rename_i ht;rw[fK hu,fK hv];simp only[ο.injEq] at h;subst h;simp[ω,aN ok ht]
   ·rename_i ht;rw[fK hv];obtain⟨a,cap,rfl,_⟩:=fJ hu;simp only[ο.injEq] at h;subst h;simp[ω,aN ok ht]
   ·rename_i ht;rw[fK hv];obtain⟨a,cap,rfl,_,h'|⟨bb,off,s,rfl,_⟩⟩:=mM hu
    ·cases h'
    simp only[ο.injEq] at h;subst h;simp[ω,aN ok ht]
   ·rename_i fields xs ys ht;obtain⟨us,rfl,za,ES,fU⟩:=jk hu;obtain⟨vs,rfl,oZ,zL,mB⟩:=jk hv
    split at h
    ·rename_i hq;have hp:=(ok.eqb t hq).1;have hf:P.underlying t=some (.struct (P.fieldsOf t)):=by simp[Program.fieldsOf,Ce ok ht]
     have Gc:P.fieldsOf t=fields:=by simp[Program.fieldsOf,Ce ok ht]
     rw[run_equalIn_struct w m t _ _ hf hp,Gc];exact EL za oZ ES zL fU mB h m z0
    ·cases h
   ·rename_i len el xs ys ht;obtain⟨us,rfl,za,ES,fU⟩:=jk hu;obtain⟨vs,rfl,oZ,zL,mB⟩:=jk hv
    cases hs:cz pv el with
    |none=>simp[hs] at h
    |some sz=>
     simp only[hs,Qab] at h;have:=YP hs za oZ ES zL fU mB h m z0;simp only[ω,ε,aN ok ht,δ,cm ok hs];rw[Std.Legacy.Range.forIn_eq_forIn_range']
     simpa[Std.Legacy.Range.size] using this
   ·cases h
  ·intro w x xs ys us vs fs b za oZ ES zL fU mB h m hm
   cases fs with
   |nil=>simp[eqFields] at h;subst h;simp[Qb1]
   |cons f fs=>
    unfold eqFields at h;unfold Qb1
    split at h
    ·rename_i hn;simp only[hn,ne_eq,not_true_eq_false,if_false];exact EL za oZ ES zL fU mB h m z0
    ·rename_i hn;simp only[ne_eq,hn,not_false_eq_true,if_true]
     split at h
     ·rename_i d e hd he;obtain⟨u,jH,mJ⟩:=nS ok za ES fU hd;obtain⟨v,Bl,rV⟩:=nS ok oZ zL mB he;simp only[ε,jH,Bl,δ]
      split at h
      ·rename_i hq;rw[PF mJ rV hq m z0]
       simpa using EL za oZ ES zL fU mB h m z0
      ·rename_i hq;rw[PF mJ rV hq m z0];simp only[ο.injEq] at h;subst h;simp
      ·cases h
     ·cases h
  ·intro w x t sz xs ys us vs left i b hsz za oZ ES zL fU mB h m hm
   cases left with
   |zero=>simp[oc] at h;subst h;simp
   |succ left=>
    unfold oc at h
    split at h
    ·rename_i d e hd he;obtain⟨u,jH,mJ⟩:=nS ok za ES fU hd;obtain⟨v,Bl,rV⟩:=nS ok oZ zL mB he;simp only[List.range'_succ,List.forIn_cons,ε,jH,Bl,δ]
     split at h
     ·rename_i hq;rw[PF mJ rV hq m z0];have:=YP hsz za oZ ES zL fU mB h m z0
      simpa using this
     ·rename_i hq;rw[PF mJ rV hq m z0];simp only[ο.injEq] at h;subst h;simp
     ·cases h
    ·cases h
end
end Go.V
namespace Go.V
open Go.RowKit
variable{P:Program}{w:World}
theorem kK (op : BinOp) (t : TypeId) (xo yo : Operand) (a b : Value) (h1 : ¬ (a = .nilIface ∧ b = .nilIface)) (h2 : ∀ c d, ¬ (a = .agg c ∧ b = .agg d)):
    (eqGuard op t xo yo a b).run P w = .ok () w := by
  cases op <;> first
    | rfl
    | (unfold eqGuard
       simp only [Bool.not_true, Γ, if_false]
       split
       · exact absurd ⟨rfl, rfl⟩ h1
       · exact absurd ⟨rfl, rfl⟩ (h2 _ _)
       · rfl)
variable{op:BinOp}{k:IntKind}{a b:Int}{d:D}
theorem Fc (h:Fe op k a b=some d):∃n,d=.int k n∧(Qbr op k a b).run P w=.ok (.int k n) w:=by
 unfold Fe at h
 split at h<;>first|(cases h;refine⟨_,rfl,?_⟩;simp[Qbr,ja];done)|(cases h;done)
theorem Ph (h:DJ op a b=some d):∃r,d=.bool r∧(Op.intCmp op a b).run P w=.ok (.bool r) w:=by
 unfold DJ at h
 split at h<;>first|(cases h;exact⟨_,rfl,rfl⟩)|(cases h;done)
theorem NQ {x : X} {t : TypeId} (hs : op ≠ .shl) (nW : op ≠ .shr) (h : wF op k a b = some d):
    ∃ v, (binOp op t (.int k a) (.int k b)).run P w = .ok v w ∧ VR w x d v := by
  cases op <;> simp only [binOp, ne_eq, not_true_eq_false, if_false] <;> simp only [wF] at h <;> first
    | exact absurd rfl hs
    | exact absurd rfl nW
    | (cases h; exact ⟨_, rfl, by rw [ja]; exact .im _ _ (.int _ _)⟩)
    | (split at h
       · cases h
       · rename_i hb; cases h
         refine ⟨_, by simp only [Op.intDiv, hb, if_false]; rfl, ?_⟩
         first | exact .im _ _ (.int _ _) | (rw [ja]; exact .im _ _ (.int _ _)))
    | (obtain ⟨n, rfl, hr⟩ := Fc (P := P) (w := w) h; exact ⟨_, hr, .im _ _ (.int _ _)⟩)
    | (obtain ⟨n, rfl, hr⟩ := Ph (P := P) (w := w) h; exact ⟨_, hr, .im _ _ (.bool _)⟩)
theorem Ai {x:X} {t:TypeId} {k':IntKind} (hs:op=.shl∨op=.shr) (h:Cm op k a b=some d):
  ∃v,(binOp op t (.int k a) (.int k' b)).run P w=.ok v w∧VR w x d v:=by
 unfold Cm at h
 split at h
 ·cases h
 ·rename_i hb
  rcases hs with rfl|rfl<;>simp only[ο.injEq] at h<;>subst h<;>
   refine⟨_,by simp only[binOp,Op.shift,hb,if_false];rfl,?_⟩<;>first|exact .im _ _ (.int _ _)|(rw[ja];exact .im _ _ (.int _ _))
theorem Np {x:X} {t:TypeId} {a b:List UInt8} (h:KL op a b=some d):
  ∃v,(binOp op t (.string ⟨a.toArray⟩) (.string ⟨b.toArray⟩)).run P w=.ok v w∧VR w x d v:=by
 have e:binOp op t (.string ⟨a.toArray⟩) (.string ⟨b.toArray⟩)=Qb2 op ⟨a.toArray⟩ ⟨b.toArray⟩:=by cases op<;>rfl
 rw[e];have l1:(⟨a.toArray⟩:ByteArray).toList=a:=by rw[IT]
 have l2:(⟨b.toArray⟩:ByteArray).toList=b:=by rw[IT]
 by_cases ib:op=.add
 ·subst ib;simp only[KL] at h
  split at h
  ·rename_i hb;cases h
   have hm:¬((((⟨a.toArray⟩:ByteArray).size+(⟨b.toArray⟩:ByteArray).size:Nat):Int)>Qa9.max):=by
    have h1:(⟨a.toArray⟩:ByteArray).size=a.length:=by simp[Pe]
    have h2:(⟨b.toArray⟩:ByteArray).size=b.length:=by simp[Pe]
    rw[h1,h2];simp only[IntKind.max,Qag,Qam,if_true];omega
   refine⟨.string ⟨(a++b).toArray⟩,?_,.im _ _ (.str _)⟩;simp only[Qb2,hm,if_false,μ]
   congr 2
  ·cases h
 ·cases op<;>simp only[KL] at h<;>first
   |exact absurd rfl ib
   |(cases h;done)
   |(cases h;exact⟨_,by simp only[Qb2,l1,l2];rfl,.im _ _ (.bool _)⟩)
section
variable{pv:Pv} {P:Program} (ok:pv.Ok P)
include ok
theorem JD {w:World} {x:X} {t:Nat} {d e:D} {u v:Value} {b:Bool} (hu:VR w x d u) (hv:VR w x e v) (h:equalD pv t d e=some b) (op:BinOp) (xo yo:Operand):
  (eqGuard op t xo yo u v).run P w=.ok () w∧(Qaf t u v).run P w=.ok b w:=by
 unfold equalD at h
 split at h
 ·cases h
 ·rename_i hg;have heq:=(Tn ok vM).1 hu hv h Op.maxDepth (by decide)
  have hgu:(eqGuard op t xo yo u v).run P w=.ok () w:=by
   by_cases ha:Pq d=true
   ·have hq:pv.eqb.contains t=true:=by
     simp only[ha,Bool.true_and,Bool.not_eq_true',Bool.not_eq_false] at hg;simpa using hg
    cases d with
    |agg cs=>
     obtain⟨us,rfl,_⟩:=jk hu
     cases v with
     |agg vs=>exact run_eqGuard_agg w op t xo yo _ _ (ok.eqb t hq).2
     |_=>exact kK _ _ _ _ _ _ (by simp) (by simp)
    |_=>simp[Pq] at ha
   ·refine kK _ _ _ _ _ _ ?_ ?_
    ·rintro⟨rfl,rfl⟩;unfold vM Mk at h
     split at h<;>first
      |(have:=fq hu;cases this)|(have:=cZ hu;cases this)|(have:=gK hu;cases this)|(have:=jE hu;cases this)|(have:=fK hu;cases this)
      |(obtain⟨_,h',_⟩:=cH hu;cases h')|(obtain⟨_,_,h',_⟩:=fJ hu;cases h')|(obtain⟨_,_,h',_⟩:=mM hu;cases h')|(obtain⟨_,h',_⟩:=jk hu;cases h')|cases h
    ·rintro c d' ⟨rfl,rfl⟩;unfold vM Mk at h
     split at h<;>first
      |(exfalso;exact ha rfl)
      |(have:=fq hu;cases this)|(have:=cZ hu;cases this)|(have:=gK hu;cases this)|(have:=jE hu;cases this)|(have:=fK hu;cases this)
      |(obtain⟨_,h',_⟩:=cH hu;cases h')|(obtain⟨_,_,h',_⟩:=fJ hu;cases h')|(obtain⟨_,_,h',_⟩:=mM hu;cases h')|cases h
  exact⟨hgu,heq⟩
end
end Go.V
namespace Go.V
open Go.RowKit
def CD (v:Value):Prop:=(∀k n,v≠.int k n)∧(∀s,v≠.string s)∧(∀k b,v≠.float k b)∧(∀k a b,v≠.complex k a b)
def CE:D→Bool
 | .int _ _| .str _| .bo=>false
 |_=>true
theorem G3 {w:World} {x:X} {d:D} {v:Value} (h:VR w x d v) (hp:CE d=true):CD v:=by
 unfold CD
 cases d with
 |int k n=>cases hp
 |str s=>cases hp
 |bo=>cases hp
 |bool b=>rw[fq h];simp
 |nul=>rw[fK h];simp
 |pnil=>rw[jE h];simp
 |sl es=>obtain⟨_,_,rfl,_⟩:=mM h;simp
 |win k v o l s=>obtain⟨_,_,rfl,_⟩:=fJ h;simp
 |ptr k v o=>obtain⟨_,rfl,_⟩:=cH h;simp
 |mp k=>obtain⟨_,rfl,_⟩:=D1 h;simp
 |ep c=>obtain⟨_,_,rfl,_⟩:=ub h;simp
 |fn f c=>obtain⟨_,rfl,_⟩:=Aa h;simp
 |nilfn=>cases h with|im _ _ h=>cases h;simp
 |nilif=>cases h with|im _ _ h=>cases h;simp
 |agg c=>obtain⟨_,rfl,_⟩:=jk h;simp
 |tup c=>obtain⟨_,rfl,_⟩:=yh h;simp
theorem binOp_eql {t:TypeId} {u v:Value} (h:CD u):
  binOp .eql t u v=(Qaf t u v>>=fun b=>pure (.bool b))∧binOp .neq t u v=(Qaf t u v>>=fun b=>pure (.bool (!b))):=by
 obtain⟨h1,h2,h3,h4⟩:=h;cases u<;>first
  |exact absurd rfl (h1 _ _)|exact absurd rfl (h2 _)|exact absurd rfl (h3 _ _)|exact absurd rfl (h4 _ _ _)
  |(cases v<;>exact⟨rfl,rfl⟩)
section
variable{pv:Pv} {P:Program} (ok:pv.Ok P)
include ok
variable{w:World}{d r:D}{u v:Value}
theorem Pm {x:X} {op:BinOp} {t:Nat} {e:D} (xo yo:Operand) (hu:VR w x d u) (hv:VR w x e v) (h:fp pv op t d e=some r):
  ∃z,((eqGuard op t xo yo u v>>=fun _=>binOp op t u v:Sem Value)).run P w=.ok z w∧VR w x r z:=by
 unfold fp at h
 split at h
 ·rename_i k a k' b;rw[cZ hu,cZ hv];have hg:=kK (P:=P) (w:=w) op t xo yo (.int k a) (.int k' b) (by simp) (by simp);simp only[ε,hg,δ]
  split at h
  ·exact Ai (.inl rfl) h
  ·exact Ai (.inr rfl) h
  ·rename_i h1 h2
   split at h
   ·rename_i hk;subst hk;exact NQ h1 h2 h
   ·cases h
 ·rename_i a b;rw[gK hu,gK hv];have hg:=kK (P:=P) (w:=w) op t xo yo (.string ⟨a.toArray⟩) (.string ⟨b.toArray⟩) (by simp) (by simp);simp only[ε,hg,δ];exact Np h
 ·rename_i h1 h2
  have key:∀b,equalD pv t d e=some b→(eqGuard op t xo yo u v).run P w=.ok () w∧(Qaf t u v).run P w=.ok b w∧
    (binOp .eql t u v=(Qaf t u v>>=fun b=>pure (.bool b))∧binOp .neq t u v=(Qaf t u v>>=fun b=>pure (.bool (!b)))):=by
   intro b hb;obtain⟨hg,he⟩:=JD ok hu hv hb op xo yo;refine⟨hg,he,binOp_eql ?_⟩;have eW:=hb;unfold equalD at hb
   split at hb
   ·cases hb
   ·unfold vM Mk at hb;refine G3 hu ?_
    cases hpd:CE d with
    |true=>rfl
    |false=>
     exfalso
     cases d<;>simp[CE] at hpd<;>(split at hb<;>first|(cases hb;done)|(exact h1 _ _ _ _ rfl rfl)|(exact h2 _ _ rfl rfl)|simp_all)
  split at h
  ·cases hb:equalD pv t d e with
   |none=>simp[hb] at h
   |some b=>
    simp only[hb,Qb7,ο.injEq] at h;subst h;obtain⟨hg,he,hq,_⟩:=key b hb;exact⟨.bool b,by simp[hg,hq,he],.im _ _ (.bool _)⟩
  ·cases hb:equalD pv t d e with
   |none=>simp[hb] at h
   |some b=>
    simp only[hb,Qb7,ο.injEq] at h;subst h;obtain⟨hg,he,_,hq⟩:=key b hb;exact⟨.bool (!b),by simp[hg,hq,he],.im _ _ (.bool _)⟩
  ·cases h
omit ok in
theorem P9 {x:X} {op:UnOp} (hu:VR w x d u) (h:TD op d=some r):∃z,(Op.unary op u).run P w=.ok z w∧VR w x r z:=by
 unfold TD at h
 split at h
 ·rename_i k n;rw[cZ hu];cases h;exact⟨_,rfl,by rw[ja];exact .im _ _ (.int _ _)⟩
 ·rename_i k n;rw[cZ hu];obtain⟨m,rfl,hr⟩:=Fc (P:=P) (w:=w) h;exact⟨_,hr,.im _ _ (.int _ _)⟩
 ·rw[fq hu];cases h;exact⟨_,rfl,.im _ _ (.bool _)⟩
 ·cases h
omit ok in
theorem qI {x:X} {y n:Nat} (hv:VR w x d v) (h:jt d y=some n) (code:BoundsCode):(AI v y code).run P w=.ok n w∧n≤y:=by
 unfold jt at h
 split at h
 ·rename_i k i;rw[cZ hv]
  split at h
  ·rename_i hi;cases h;refine⟨?_,by omega⟩;simp[AI,asIntOf,hi]
  ·cases h
 ·cases h
omit ok in
theorem lO {x:X} {len cap l h:Nat} {lo hi:Option D} {xy j7:Option Value} (lQ:Bool) (hc:len≤cap) (Cb:∀d v,lo=some d→xy=some v→VR w x d v) (EX:∀d v,hi=some d→j7=some v→VR w x d v) (el:lo.isSome=xy.isSome) (eh:hi.isSome=j7.isSome) (hb:bZ len lo hi=some (l,h)):
  (Qb0 lQ len cap xy j7 none).run P w=.ok (l,h,cap) w∧l≤h∧h≤len:=by
 unfold bZ at hb;obtain⟨hh,h1,h2⟩:=γ.1 hb;obtain⟨ll,h3,h4⟩:=κ.1 h2;simp only[Prod.mk.injEq] at h4;obtain⟨rfl,rfl⟩:=h4
 have hle:hh≤len:=by
  cases hi with
  |none=>cases h1;exact η _
  |some d=>exact(qI (P:=P) (EX d (j7.getD default) rfl (by cases j7<;>simp at eh⊢)) h1 .sliceB).2
 have IZ:ll≤hh:=by
  cases lo with
  |none=>cases h3;exact Qbp _
  |some d=>exact(qI (P:=P) (Cb d (xy.getD default) rfl (by cases xy<;>simp at el⊢)) h3 .sliceB).2
 refine⟨?_,IZ,hle⟩
 have VY:∀v,j7=some v→(AI v cap (if lQ then .sliceAcap else .sliceAlen)).run P w=.ok hh w:=by
  intro v hv
  cases hi with
  |none=>subst hv;simp at eh
  |some d=>
   have Sc:jt d cap=some hh:=by
    simp only[gB] at h1;unfold jt at h1⊢
    split at h1
    ·split at h1
     ·rename_i hq;cases h1;rw[if_pos z0]
     ·cases h1
    ·cases h1
   exact(qI (P:=P) (EX d v rfl hv) Sc _).1
 have Qx:∀v,xy=some v→(AI v hh .sliceB).run P w=.ok ll w:=by
  intro v hv
  cases lo with
  |none=>subst hv;simp at el
  |some d=>exact(qI (P:=P) (Cb d v rfl hv) h3 _).1
 have VZ:j7=none→hh=len:=by
  intro hv;subst hv
  cases hi with
  |none=>cases h1;rfl
  |some d=>simp at eh
 have Qy:xy=none→ll=0:=by
  intro hv;subst hv
  cases lo with
  |none=>cases h3;rfl
  |some d=>simp at el
 unfold Qb0
 cases j7 with
 |none=>
  obtain rfl:=VZ rfl
  cases xy with
  |none=>obtain rfl:=Qy rfl;rfl
  |some v=>simp[Qx v rfl]
 |some u=>
  have h5:=VY u rfl
  cases xy with
  |none=>obtain rfl:=Qy rfl;simp[h5]
  |some v=>simp[h5,Qx v rfl]
end
end Go.V
namespace Go.V
open Go.RowKit
structure Nx (w:World) (st:St) (β:Nat→Option (Nat×Nat)) (Z:Nat→Prop) (w':World) (ah:St) (β':Nat→Option (Nat×Nat)) (Z':Nat→Prop):Prop where
 sim:iH w' ah β' Z'
 keeps:dS w (st.x β Z) w' (ah.x β' Z')
 evo:Fq (Yl st β) w w'
 fresh:∀k b base,β' k=some (b,base)→(∃dx,β k=some (b,dx))∨w.heap.size≤b
 zfresh:∀b,Z' b→Z b∨w.heap.size≤b
 len:st.bs.length≤ah.bs.length
 flr:ah.flr=st.flr
 ro:ah.ro=st.ro
 low:∀k,k<st.ro→ah.bs[k]?=st.bs[k]?∧β' k=β k
 AX:∀k,k<st.bs.length→β k=none→β' k=none∧ah.bs[k]?=st.bs[k]?
variable{w w':World}{x':X}{b base:Nat}
theorem jB.cw {x:X} {bx:jC} (h:jB w x b base bx) (hk:dS w x w' x') (hb:w'.heap[b]?=w.heap[b]?):jB w' x' b base bx:=by
 cases bx with
 |mem v a cells=>
  obtain⟨c,el,fr,h1,h2,h3,h4⟩:=h;refine⟨c,el,fr,hb.trans h1,h2,h3,fun j d hd=>?_⟩;obtain⟨u,jH,mJ,rW⟩:=h4 j d hd;exact⟨u,jH,mJ,rW.mono hk⟩
 |iter s pos=>exact⟨h.1,hb.trans h.2⟩
 |map es=>
  obtain⟨h0,en,cl,h1,h2⟩:=h;exact⟨h0,en,cl,hb.trans h1,h2⟩
 |dead=>exact h
variable{st:St}{β:Nat→Option (Nat×Nat)}{Z:Nat→Prop}
theorem Nx.same (h:iH w st β Z):Nx w st β Z w st β Z:=
 ⟨h,dS.refl _ _,Fq.refl _ _,fun _ _ base hb=>.inl ⟨base,hb⟩,fun _ hz=>.inl hz,η _,rfl,rfl,fun _ _=>⟨rfl,rfl⟩,fun _ _ h=>⟨h,rfl⟩⟩
theorem Nx.trans {w1 w2 w3:World} {st1 st2 mP:St} {β1 β2 β3:Nat→Option (Nat×Nat)} {Z1 Z2 Z3:Nat→Prop} (h:Nx w1 st1 β1 Z1 w2 st2 β2 Z2) (g:Nx w2 st2 β2 Z2 w3 mP β3 Z3):
  Nx w1 st1 β1 Z1 w3 mP β3 Z3 where
 sim:=g.sim
 keeps:=h.keeps.trans g.keeps
 evo:=by
  refine h.evo.trans g.evo (fun _ hm=>hm) fun b hb hm=>?_;obtain⟨k,base,hk,db⟩:=hm
  rcases h.fresh k b base hk with⟨dx,eW⟩|hlt
  ·exact⟨k,dx,eW,by rw[←h.ro];exact db⟩
  ·omega
 fresh k b base hb:=by
  rcases g.fresh k b base hb with⟨dx,eW⟩|hlt
  ·exact h.fresh k b dx eW
  ·exact .inr (Φ h.evo.size hlt)
 zfresh b hz:=by
  rcases g.zfresh b hz with hz|hlt
  ·exact h.zfresh b hz
  ·exact .inr (Φ h.evo.size hlt)
 len:=Φ h.len g.len
 flr:=g.flr.trans h.flr
 ro:=g.ro.trans h.ro
 low k hk:=by
  obtain⟨h1,h2⟩:=h.low k hk;obtain⟨g1,g2⟩:=g.low k (by rw[h.ro];exact hk);exact⟨g1.trans h1,g2.trans h2⟩
 AX k hk h0:=by
  obtain⟨h1,h2⟩:=h.AX k hk h0;obtain⟨g1,g2⟩:=g.AX k (Qb6 hk h.len) h1;exact⟨g1,g2.trans h2⟩
theorem Nx.still (h:iH w st β Z) (hh:w'.heap=w.heap) (ho:w'.os=w.os) (ht:w'.tape=w.tape) (hp:w'.output=w.output):
  Nx w st β Z w' st β Z:=by
 have hk:dS w (st.x β Z) w' (st.x β Z):=
  ⟨fun _ p hp=>⟨p,hp⟩,fun b hb=>⟨hb,by rw[hh]⟩,fun _ c _ _ hc=>⟨c,hc,η _⟩,fun _ _ _ _ _ _ hb=>⟨hb,by simp[cV,hh]⟩⟩
 refine⟨⟨h.dom,fun k b base hb=>by rw[hh];exact h.lt k b base hb,h.inj,h.zd,fun b hb=>by rw[hh];exact h.zl b hb,?_,h.flr,h.ro⟩,hk,⟨ho,ht,hp,by rw[hh];exact η _,fun b _ _=>by rw[hh]⟩,
  fun _ _ base hb=>.inl ⟨base,hb⟩,fun _ hz=>.inl hz,η _,rfl,rfl,fun _ _=>⟨rfl,rfl⟩,fun _ _ h=>⟨h,rfl⟩⟩
 intro k b base bx hb ic;exact(h.box k b base bx hb ic).cw hk (by rw[hh])
def fz (β:Nat→Option (Nat×Nat)) (n b:Nat):Nat→Option (Nat×Nat):=fun k=>if k=n then some (b,0) else β k
theorem G6 (st:St) (bx:jC) (k:Nat) (hk:k<st.bs.length):(st.push bx).aB k=st.aB k:=by
 simp[St.aB,St.push,ψ hk]
theorem eM (h:w'.heap[b]?=w.heap[b]?):cV w' b=cV w b:=by simp[cV,h]
theorem Nx.push (h:iH w st β Z) (o:Obj) (hh:w'.heap=w.heap.push o) (ho:w'.os=w.os) (ht:w'.tape=w.tape) (hp:w'.output=w.output) (bx:jC) (hb:dS w (st.x β Z) w' ((st.push bx).x (fz β st.bs.length w.heap.size) Z)→jB w' ((st.push bx).x (fz β st.bs.length w.heap.size) Z) w.heap.size 0 bx):
  Nx w st β Z w' (st.push bx) (fz β st.bs.length w.heap.size) Z:=by
 have hold:∀b,b<w.heap.size→w'.heap[b]?=w.heap[b]?:=by
  intro b hb;rw[hh,Qa6,if_neg z0]
 have hk:dS w (st.x β Z) w' ((st.push bx).x (fz β st.bs.length w.heap.size) Z):=by
  have hdm:∀k p,β k=some p→k<st.bs.length:=fun k p hp=>h.dom k p.1 p.2 hp;refine⟨fun k p hp=>⟨p,?_⟩,fun b hb=>⟨hb,hold b (h.zl b hb)⟩,fun k c p hk hc=>?_,fun k c hc Dk b base hb=>?_⟩
  ·have:=hdm k p hp;simp only[St.x,fz] at hp⊢;rw[if_neg z0];exact hp
  ·refine⟨c,?_,η _⟩;have:=G6 st bx k (hdm k p hk);show st.aB k=some c;rw[←this];exact hc
  ·refine⟨?_,eM (hold b (h.lt k b base hb))⟩;have mg:k<st.bs.length:=hdm k _ hb;simp only[St.x,fz];rw[if_neg z0];exact hb
 have hsz:w'.heap.size=w.heap.size+1:=by rw[hh,Qb8]
 refine⟨⟨?_,?_,?_,?_,?_,?_,?_,?_⟩,hk,⟨ho,ht,hp,by omega,fun b hb _=>hold b hb⟩,?_,fun _ hz=>.inl hz,by simp[St.push],rfl,rfl,?_,fun k hk h0=>by simp only[fz,St.push];rw[if_neg z0,ψ hk];exact⟨h0,rfl⟩⟩
 ·intro k b base jj;simp only[fz] at jj;simp only[St.push,wt,List.length_singleton]
  split at jj
  ·omega
  ·have:=h.dom k b base jj;omega
 ·intro k b base jj;simp only[fz] at jj
  split at jj
  ·cases jj;omega
  ·have:=h.lt k b base jj;omega
 ·intro k k' b y y' h1 h2;simp only[fz] at h1 h2
  split at h1<;>split at h2
  ·omega
  ·cases h1;have:=h.lt k' _ _ h2;omega
  ·cases h2;have:=h.lt k _ _ h1;omega
  ·exact h.inj k k' b y y' h1 h2
 ·intro k b base jj hz;simp only[fz] at jj
  split at jj
  ·cases jj;have:=h.zl _ hz;omega
  ·exact h.zd k b base jj hz
 ·intro b hz;have:=h.zl b hz;omega
 ·intro k b base zx jj ic;simp only[fz] at jj
  split at jj
  ·rename_i hkn;subst hkn;cases jj;simp[St.push] at ic;subst ic;exact hb hk
  ·have hlt:=h.dom k b base jj;simp only[St.push,ψ hlt] at ic;exact(h.box k b base zx jj ic).cw hk (hold b (h.lt k b base jj))
 ·have:=h.flr;simp[St.push];omega
 ·have:=h.ro;simp[St.push];omega
 ·intro k b base jj;simp only[fz] at jj
  split at jj
  ·cases jj;exact .inr (η _)
  ·exact .inl ⟨base,jj⟩
 ·intro k mg;have:=h.ro;simp only[St.push,fz];rw[ψ z0,if_neg z0];exact⟨rfl,rfl⟩
theorem Nx.mT (h:iH w st β Z) (arr:Bool) (cs:List D) (c:Array Value) (el:TypeId) (fr:Nat×Nat) (hh:w'.heap=w.heap.push (.cells c el fr)) (ho:w'.os=w.os) (ht:w'.tape=w.tape) (hp:w'.output=w.output) (hl:cs.length≤c.size) (hfr:tC c.size fr) (hc:∀(j:Nat) d,cs[j]?=some d→∃u,c[j]?=some u∧u.oneCell'=true∧VR w (st.x β Z) d u):
  Nx w st β Z w' (st.push (.mem 0 arr cs)) (fz β st.bs.length w.heap.size) Z∧
   cV w' w.heap.size=some c.size∧(st.push (.mem 0 arr cs)).aB st.bs.length=some 0∧fz β st.bs.length w.heap.size st.bs.length=some (w.heap.size,0):=by
 have IM:w'.heap[w.heap.size]?=some (.cells c el fr):=by rw[hh];simp
 refine⟨Nx.push h _ hh ho ht hp _ fun hk=>⟨c,el,fr,IM,by omega,hfr,fun j d hd=>?_⟩,by simp[cV,IM],by simp[St.aB,St.push,dp],by simp[fz]⟩;obtain⟨u,h1,h2,h3⟩:=hc j d hd;exact⟨u,by rw[Qau];exact h1,h2,h3.mono hk⟩
variable{k:Nat}{a:Bool}{c:List D}
theorem dr {aB:Nat} (h:st.fX k aB=some (a,c)):st.bs[k]?=some (.mem aB a c)∧st.aB k=some aB:=by
 unfold St.fX at h
 split at h
 ·rename_i v a' c' hb
  split at h
  ·rename_i hv;subst hv;cases h;exact⟨hb,by simp[St.aB,hb,dp]⟩
  ·cases h
 ·cases h
theorem iH.row (h:iH w st β Z) {aB:Nat} (hm:st.fX k aB=some (a,c)) (hb:β k=some (b,base)):
  ∃cs el fr,w.heap[b]?=some (.cells cs el fr)∧base+c.length≤cs.size∧tC cs.size fr∧
   ∀(j:Nat) d,c[j]?=some d→∃u,cs[base+j]?=some u∧u.oneCell'=true∧VR w (st.x β Z) d u:=
 h.box k b base _ hb (dr hm).1
theorem iH.cells (h:iH w st β Z) {aB:Nat} (hm:st.fX k aB=some (a,c)) (hb:β k=some (b,base)):
  cK w (st.x β Z) b base c:=by
 obtain⟨cs,el,fr,h1,h2,h3,h4⟩:=h.row hm hb;intro j d hd;obtain⟨u,jH,mJ,rW⟩:=h4 j d hd;exact⟨u,by simp[World.cell?,h1,jH],mJ,rW⟩
theorem eu:∀(cs c:List D) (off:Nat),(setMany c off cs).length=c.length
 |[],c,off=>rfl
 |x::xs,c,off=>by simp only[setMany];rw[eu xs];simp
theorem ku:∀(cs c:List D) (off j:Nat),off+cs.length≤c.length→(setMany c off cs)[j]?=if off≤j∧j<off+cs.length then cs[j-off]? else c[j]?
 |[],c,off,j,_=>by simp only[setMany,Qa3,AN];rw[if_neg z0]
 |x::xs,c,off,j,h=>by
  simp only[υ] at h;simp only[setMany,υ];rw[ku xs (c.set off x) (off+1) j (by simp;omega)]
  by_cases h1:off+1≤j∧j<off+1+xs.length
  ·rw[if_pos h1,if_pos z0,show j-off=(j-(off+1))+1 by omega,τ]
  ·rw[if_neg h1]
   by_cases h2:j=off
   ·subst h2;rw[if_pos z0,Qat,Qa1 z0];rfl
   ·rw[if_neg z0,ς z0]
def wput (w:World) (b:Nat) (o:Obj):World:={w with heap:=w.heap.setIfInBounds b o}
variable{oo dx:Nat}{a':Bool}{c':List D}{cs':Array Value}{fr:Nat×Nat}
theorem Nx.GW (h:iH w st β Z) {aB:Nat} (hm:st.fX k aB=some (a,c)) (hb:β k=some (b,base)) (db:st.ro≤k) (hv:aB≤oo) (Jc:aB=oo→dx=base) {cs:Array Value} {el:TypeId} {aG:Nat×Nat} (hw:w.heap[b]?=some (.cells cs el fr)) (hfr:tC cs.size aG) (hsz:cs'.size=cs.size) (hl:dx+c'.length≤cs.size) (hc:∀(j:Nat) d,c'[j]?=some d→∃u,cs'[dx+j]?=some u∧u.oneCell'=true∧VR w (st.x β Z) d u):
  Nx w st β Z (wput w b (.cells cs' el aG)) {st with bs:=st.bs.set k (.mem oo a' c')} (fun i=>if i=k then some (b,dx) else β i) Z:=by
 obtain⟨ic,lK⟩:=dr hm;have jx:k<st.bs.length:=h.dom k b base hb;have hbl:b<w.heap.size:=h.lt k b base hb
 have hne:∀i,i≠b→(wput w b (.cells cs' el aG)).heap[i]?=w.heap[i]?:=by
  intro i hi;simp only[wput];rw[ρ z0]
 have heq:(wput w b (.cells cs' el aG)).heap[b]?=some (.cells cs' el aG):=by
  simp only[wput];rw[ζ hbl]
 have vp:∀i,i≠k→({st with bs:=st.bs.set k (.mem oo a' c')}:St).aB i=st.aB i:=by
  intro i hi;simp only[St.aB];rw[ς z0]
 have vn:({st with bs:=st.bs.set k (.mem oo a' c')}:St).aB k=some oo:=by
  simp[St.aB,jx,dp]
 have hk:dS w (st.x β Z) (wput w b (.cells cs' el aG)) (({st with bs:=st.bs.set k (.mem oo a' c')}:St).x (fun i=>if i=k then some (b,dx) else β i) Z):=by
  refine⟨fun i p hp=>?_,fun i hi=>⟨hi,hne i fun e=>h.zd k b base hb (e▸hi)⟩,fun i q p hi hq=>?_,fun i q hq pK i' y hy=>?_⟩
  ·by_cases hik:i=k
   ·subst hik;exact⟨(b,dx),by simp[St.x]⟩
   ·exact⟨p,by simp only[St.x] at hp⊢;rw[if_neg hik];exact hp⟩
  ·by_cases hik:i=k
   ·subst hik;simp only[St.x] at hq⊢;rw[vn] at hq;cases hq;exact⟨aB,lK,hv⟩
   ·simp only[St.x] at hq⊢;rw[vp i hik] at hq;exact⟨q,hq,η _⟩
  ·by_cases hik:i=k
   ·subst hik;simp only[St.x] at hq pK hy⊢;rw[vn] at hq;cases hq;rw[lK] at pK;cases pK;rw[hb] at hy;cases hy;refine⟨by simp[Jc rfl],by simp[cV,heq,hw,hsz]⟩
   ·simp only[St.x] at hy⊢;refine⟨by rw[if_neg hik];exact hy,eM (hne i' fun e=>?_)⟩;subst e;exact hik (h.inj i k _ _ _ hy hb)
 refine⟨⟨?_,?_,?_,?_,?_,?_,?_,?_⟩,hk,⟨rfl,rfl,rfl,by simp[wput],fun i hi hn=>hne i fun e=>hn ?_⟩,?_,fun _ hz=>.inl hz,by simp,rfl,rfl,?_,fun i _ h0=>by
   by_cases e:i=k
   ·subst e;rw[hb] at h0;cases h0
   ·simp only[if_neg e];rw[ς z0];exact⟨h0,rfl⟩⟩
 ·intro i q y hq;simp only[Qbf]
  split at hq
  ·rename_i e;subst e;exact jx
  ·exact h.dom i q y hq
 ·intro i q y hq;simp only[wput,Qak]
  split at hq
  ·cases hq;exact hbl
  ·exact h.lt i q y hq
 ·intro i i' q y y' h1 h2
  split at h1<;>split at h2
  ·omega
  ·rename_i e _;cases h1;subst e;exact h.inj _ _ _ _ _ hb h2
  ·rename_i _ e;cases h2;subst e;exact h.inj _ _ _ _ _ h1 hb
  ·exact h.inj i i' q y y' h1 h2
 ·intro i q y hq hz
  split at hq
  ·cases hq;exact h.zd k b base hb hz
  ·exact h.zd i q y hq hz
 ·intro i hz;simp only[wput,Qak];exact h.zl i hz
 ·intro i q y bx hq vz;(dsimp only at hq vz)
  split at hq
  ·rename_i e;subst e;cases hq;rw[Qa1 jx] at vz;cases vz;refine⟨cs',el,aG,heq,by omega,by rw[hsz];exact hfr,fun j d hd=>?_⟩
   ·obtain⟨u,jH,mJ,rW⟩:=hc j d hd;exact⟨u,jH,mJ,rW.mono hk⟩
  ·rename_i e;rw[ς z0] at vz;refine(h.box i q y bx hq vz).cw hk (hne q fun e'=>?_);subst e';exact e (h.inj i k _ _ _ hq hb)
 ·have:=h.flr;simp;omega
 ·have:=h.ro;simp;omega
 ·exact⟨k,base,e▸hb,db⟩
 ·intro i q y hq
  split at hq
  ·rename_i e;subst e;cases hq;exact .inl ⟨base,hb⟩
  ·exact .inl ⟨y,hq⟩
 ·intro i hi;dsimp only;rw[ς z0,if_neg z0];exact⟨rfl,rfl⟩
theorem Nx.write (h:iH w st β Z) {aB:Nat} (hm:st.fX k aB=some (a,c)) (hb:β k=some (b,base)) (db:st.ro≤k) (hv:aB≤oo) (Jc:aB=oo→dx=base) {cs:Array Value} {el:TypeId} (hw:w.heap[b]?=some (.cells cs el fr)) (hsz:cs'.size=cs.size) (hl:dx+c'.length≤cs.size) (hc:∀(j:Nat) d,c'[j]?=some d→∃u,cs'[dx+j]?=some u∧u.oneCell'=true∧VR w (st.x β Z) d u):
  Nx w st β Z (wput w b (.cells cs' el fr)) {st with bs:=st.bs.set k (.mem oo a' c')} (fun i=>if i=k then some (b,dx) else β i) Z:=
 Nx.GW h hm hb db hv Jc hw (by
  obtain⟨Pf,X2,WE,e1,_,e3,_⟩:=h.row hm hb;rw[hw] at e1;cases e1
  exact e3) hsz hl hc
structure LR (w:World) (x:X) (cs:List D) (us:List Value):Prop where
 len:cs.length=us.length
 one:∀u∈us,u.oneCell'=true
 rel:∀(i:Nat) c u,cs[i]?=some c→us[i]?=some u→VR w x c u
variable{cs:List D}{us:List Value}
theorem LR.mono {x:X} (h:LR w x cs us) (hk:dS w x w' x'):LR w' x' cs us:=
 ⟨h.len,h.one,fun i c u hc hu=>(h.rel i c u hc hu).mono hk⟩
variable{d:D}
theorem LR.at_ {x:X} (h:LR w x cs us) {j:Nat} (hd:cs[j]?=some d):∃u,us[j]?=some u∧u.oneCell'=true∧VR w x d u:=by
 have hj:j<cs.length:=by
  rcases φ j cs.length with h'|h'
  ·exact h'
  ·rw[ν h'] at hd;cases hd
 have Df:j<us.length:=by rw[←h.len];exact hj
 exact⟨us[j],π Df,h.one _ (List.getElem_mem Df),h.rel j d _ hd (π Df)⟩
theorem LR.agg {x:X} (h:LR w x cs us):VR w x (.agg cs) (.agg us.toArray):=.agg cs us h.len h.one h.rel
variable{v:Value}
theorem KB {x:X} (h:VR w x (.agg cs) v):∃us:List Value,v=.agg us.toArray∧LR w x cs us:=by
 obtain⟨us,rfl,h1,h2,h3⟩:=jk h;exact⟨us,rfl,h1,h2,h3⟩
theorem qz {x:X} (h:VR w x d v) (hc:d.cells?=some cs):LR w x cs v.cells.toList:=by
 have one:∀u:Value,u.oneCell'=true→v=u→cs=[d]→LR w x cs v.cells.toList:=by
  intro u hu e kh;subst e;subst kh
  have:v.cells.toList=[v]:=by cases v<;>first|rfl|simp[Value.oneCell'] at hu
  rw[this];refine⟨rfl,by simpa using hu,fun i c u hc hu=>?_⟩
  cases i with
  |zero=>simp at hc hu;subst hc;subst hu;exact h
  |succ i=>simp at hc
 cases d with
 |agg l=>
  cases hc;obtain⟨us,rfl,hl⟩:=KB h
  simpa[Value.cells] using hl
 |tup l=>cases hc
 |bo=>cases hc
 |bool b=>cases hc;exact one _ rfl (fq h) rfl
 |int k n=>cases hc;exact one _ rfl (cZ h) rfl
 |str s=>cases hc;exact one _ rfl (gK h) rfl
 |nul=>cases hc;exact one _ rfl (fK h) rfl
 |pnil=>cases hc;exact one _ rfl (jE h) rfl
 |sl es=>cases hc;obtain⟨_,_,e,_⟩:=mM h;exact one _ rfl e rfl
 |win k v o l s=>cases hc;obtain⟨_,_,e,_⟩:=fJ h;exact one _ rfl e rfl
 |ptr k v o=>cases hc;obtain⟨_,e,_⟩:=cH h;exact one _ rfl e rfl
 |mp k=>cases hc;obtain⟨_,e,_⟩:=D1 h;exact one _ rfl e rfl
 |ep c=>cases hc;obtain⟨_,_,e,_⟩:=ub h;exact one _ rfl e rfl
 |fn f c=>cases hc;obtain⟨_,e,_⟩:=Aa h;exact one _ rfl e rfl
 |nilfn=>cases hc;exact one .nilFunc rfl (by cases h with|im _ _ h=>cases h;rfl) rfl
 |nilif=>cases hc;exact one .nilIface rfl (by cases h with|im _ _ h=>cases h;rfl) rfl
theorem JZ (h:d.cells?=some cs):d.cells=cs:=by cases d<;>simp[D.cells?,D.cells] at*<;>exact h
theorem xJ (off:Nat):∀(l:List Value) (n:Nat) (cells:Array Value) (k:Nat),off+n+l.length≤cells.size→
  ((l.zipIdx n).foldl (fun cs (p:Value×Nat)=>cs.setIfInBounds (off+p.2) p.1) cells)[k]?=if off+n≤k∧k<off+n+l.length then l[k-(off+n)]? else cells[k]?
 |[],n,cells,k,_=>by simp only[List.zipIdx_nil,List.foldl_nil,Qa3,AN];rw[if_neg z0]
 |v::l,n,cells,k,h=>by
  simp only[υ] at h;simp only[List.zipIdx_cons,Qbe];rw[xJ off l (n+1) _ k (by simp;omega)];simp only[υ]
  by_cases h1:off+(n+1)≤k∧k<off+(n+1)+l.length
  ·rw[if_pos h1,if_pos z0,show k-(off+n)=(k-(off+(n+1)))+1 by omega,τ]
  ·rw[if_neg h1]
   by_cases h2:k=off+n
   ·subst h2;rw[if_pos z0,Qat,ζ z0];rfl
   ·rw[if_neg z0,ρ z0]
theorem vH (off:Nat):∀(l:List (Value×Nat)) (cells:Array Value),(l.foldl (fun cs (p:Value×Nat)=>cs.setIfInBounds (off+p.2) p.1) cells).size=cells.size
 |[],cells=>rfl
 |p::l,cells=>by simp only[Qbe];rw[vH off l];simp
theorem GU (off:Nat) (c cells:Array Value):(c.zipIdx.foldl (fun cs (c,j)=>cs.setIfInBounds (off+j) c) cells)=((c.toList.zipIdx 0).foldl (fun cs (p:Value×Nat)=>cs.setIfInBounds (off+p.2) p.1) cells):=by
 rw[←Array.foldl_toList,Array.toList_zipIdx]
theorem LR.setMany {x:X} {ds:List D} {vs:List Value} (h:LR w x cs us) (g:LR w x ds vs) (off:Nat) (hl:off+ds.length≤cs.length):
  LR w x (setMany cs off ds) (((vs.zipIdx 0).foldl (fun(cs:Array Value) (p:Value×Nat)=>cs.setIfInBounds (off+p.2) p.1) us.toArray)).toList:=by
 have hg:=fun k=>xJ off vs 0 us.toArray k (by simp;have:=h.len;have:=g.len;omega);simp only[AN] at hg;have hs:=vH off (vs.zipIdx 0) us.toArray
 have vw:∀k u,((((vs.zipIdx 0).foldl (fun(cs:Array Value) (p:Value×Nat)=>cs.setIfInBounds (off+p.2) p.1) us.toArray)).toList)[k]?=some u→
   (off≤k∧k<off+vs.length∧vs[k-off]?=some u)∨(¬(off≤k∧k<off+vs.length)∧us[k]?=some u):=by
  intro k u hk;rw[Qa2,hg k] at hk
  split at hk
  ·rename_i hc;exact .inl ⟨hc.1,hc.2,hk⟩
  ·rename_i hc;exact .inr ⟨hc,by simpa using hk⟩
 refine⟨?_,fun u hu=>?_,fun i c u hc hu=>?_⟩
 ·exact(eu ds cs off).trans (h.len.trans (Qaa.symm.trans (hs.symm.trans Array.length_toList.symm)))
 ·obtain⟨k,hk⟩:=Qa5 hu
  rcases vw k u hk with⟨_,_,h'⟩|⟨_,h'⟩
  ·exact g.one u (Qav h')
  ·exact h.one u (Qav h')
 ·rw[ku ds cs off i hl] at hc
  rcases vw i u hu with⟨h1,h2,h'⟩|⟨h1,h'⟩
  ·rw[if_pos ⟨h1,by rw[g.len];exact h2⟩] at hc;exact g.rel _ c u hc h'
  ·rw[if_neg (by rw[g.len];exact h1)] at hc;exact h.rel _ c u hc h'
theorem zn {w:World} {x:X} {place l8:Nat→Option (Nat×Nat)} (hp:∀i r,place i=some r→l8 i=some r):∀(parts:List (Nat×D)) (parts':List (Nat×Value)) {cs r:List D} {us:List Value},
  parts.length=parts'.length→(∀(i:Nat) p q,parts[i]?=some p→parts'[i]?=some q→p.1=q.1∧VR w x p.2 q.2)→LR w x cs us→jz place cs parts=some r→
  ∃rs:List Value,Qay l8 us.toArray parts'=some rs.toArray∧LR w x r rs
 |[],[],cs,r,us,_,_,h,hf=>by simp[jz] at hf;subst hf;exact⟨us,rfl,h⟩
 |[],_::_,_,_,_,hl,_,_,_=>by simp at hl
 |_::_,[],_,_,_,hl,_,_,_=>by simp at hl
 |(i,d)::parts,(i',v)::parts',cs,r,us,hl,hr,h,hf=>by
  obtain⟨rfl,hv⟩:=hr 0 _ _ rfl rfl;simp only[jz] at hf
  split at hf
  ·rename_i off size ds ia kh
   split at hf
   ·cases hf
   ·rename_i hn;have Zj:=qz hv kh;simp only[not_or] at hn;obtain⟨pM,IP⟩:=hn;have pM:ds.length=size:=Δ.1 pM;have hlen:off+ds.length≤cs.length:=by omega
    have hsz:v.cells.size=ds.length:=by rw[Zj.len];simp
    obtain⟨rs,h1,h2⟩:=zn hp parts parts' (by simpa using hl) (fun j p q hp hq=>hr (j+1) p q hp hq) (h.setMany Zj off hlen) hf;refine⟨rs,?_,h2⟩;simp only[Qay,hp _ _ ia];rw[if_neg (by simp[hsz,pM];have:=h.len;omega),GU]
    simpa using h1
  ·cases hf
section
variable{pv:Pv} {P:Program} (ok:pv.Ok P)
include ok
theorem w_ (w:World):∀(fs:List Field) {ps:List (Nat×Nat)},nR pv fs=some ps→(fs.mapM (fun f=>(do pure (f.offset,←sizeOf f.type):Sem (Nat×Nat)))).run P w=.ok ps w
 |[],ps,h=>by simp[nR] at h;subst h;simp
 |f::fs,ps,h=>by
  simp only[nR] at h
  split at h
  ·rename_i s hs
   split at h
   ·rename_i r hr;cases h;have:=w_ w fs hr;simp only[List.mapM_cons,ε,cm ok hs,δ,μ];rw[this]
    rfl
   ·cases h
  ·cases h
variable{t:Nat}
theorem iP (w:World) (x:X) {cs:List D} (h:dc pv t=some cs):∃v,(zeroValue t).run P w=.ok v w∧LR w x cs v.cells.toList:=by
 unfold dc at h
 split at h
 ·rename_i z hz;obtain⟨v,hv,rfl⟩:=Av ok hz w;exact⟨v,hv,qz (.im _ _ (uN _ _ v)) h⟩
 ·cases h
theorem J8 {w:World} {x:X} {parts:List (Nat×D)} {parts':List (Nat×Value)} {d:D} (hl:parts.length=parts'.length) (hr:∀(i:Nat) p q,parts[i]?=some p→parts'[i]?=some q→p.1=q.1∧VR w x p.2 q.2) (h:zy pv t parts=some d):
  ∃v,(Qar t parts'.toArray).run P w=.ok v w∧VR w x d v:=by
 unfold zy at h
 split at h
 ·rename_i z hz;obtain⟨v,hv,hc⟩:=iP ok w x hz
  have base:∀{r:List D} {place l8:Nat→Option (Nat×Nat)},(∀i r,place i=some r→l8 i=some r)→jz place z parts=some r→
    ∃rs:List Value,Qay l8 v.cells parts'=some rs.toArray∧LR w x r rs:=by
   intro r place l8 hp hf;obtain⟨rs,h2,h3⟩:=zn hp parts parts' hl hr hc hf;exact⟨rs,by simpa using h2,h3⟩
  split at h
  ·rename_i fields hu
   split at h
   ·rename_i ps EO;obtain⟨r,hf,rfl⟩:=κ.1 h;obtain⟨rs,h1,h2⟩:=base (l8:=fun i=>ps[i]?) (by simp) hf;refine⟨.agg rs.toArray,?_,h2.agg⟩;have hm:=w_ ok w _ EO;simp only[Qar,ε,hv,δ,aN ok hu,Array.mapM_eq_mapM_toList,Sem.run_map];rw[hm];simp[h1]
   ·cases h
  ·rename_i n e hu
   split at h
   ·rename_i s hs;obtain⟨r,hf,rfl⟩:=κ.1 h;obtain⟨rs,h1,h2⟩:=base (l8:=fun i=>some (i*s,s)) (by simp) hf;refine⟨.agg rs.toArray,?_,h2.agg⟩;simp[Qar,hv,aN ok hu,cm ok hs,h1]
   ·cases h
  ·cases h
 ·cases h
end
end Go.V
namespace Go.V
open Go.RowKit
variable{w:World}{b o:Nat}
theorem cK.append {x:X} {l r:List D} (h:cK w x b o l) (g:cK w x b (o+l.length) r):cK w x b o (l++r):=by
 intro j d hd;rw[Pd] at hd
 split at hd
 ·exact h j d hd
 ·have:=g _ d hd
  rwa [show o+l.length+(j-l.length)=o+j by omega] at this
theorem cK.nil {x:X}:cK w x b o []:=by intro j d hd;simp at hd
theorem qF {w:World} {x:X} {b s:Nat}:∀(es:List D) (off:Nat),(∀(i:Nat) e,es[i]?=some e→e.cells.length=s)→(∀(i:Nat) e,es[i]?=some e→cK w x b (off+i*s) e.cells)→
  cK w x b off (es.flatMap D.cells)∧(es.flatMap D.cells).length=es.length*s
 |[],off,_,_=>⟨.nil,by simp⟩
 |e::es,off,hs,hc=>by
  have h0:=hc 0 e rfl;have hl:=hs 0 e rfl
  obtain⟨h1,h2⟩:=qF es (off+s) (fun i e' he=>hs (i+1) e' he) (fun i e' he=>by
   have:=hc (i+1) e' he
   rwa [show off+(i+1)*s=off+s+i*s by rw[Ξ];omega] at this)
  simp only[List.flatMap_cons,wt,υ];refine⟨cK.append (by simpa using h0) (by rw[hl];exact h1),?_⟩;rw[h2,hl,Ξ];omega
variable{c:List D}
theorem cK.lr {x:X} (h:cK w x b o c) (P:Program):∃us:List Value,(loadCells ⟨b,o,none⟩ c.length).run P w=.ok us.toArray w∧LR w x c us:=by
 obtain⟨us,h1,h2,h3,h4⟩:=h.list;exact⟨us,by rw[←h1];exact sN h2,h1.symm,h3,h4⟩
variable{P:Program}
theorem rp (a:Addr):(loadCells a 0).run P w=.ok #[] w:=rfl
theorem BX (w:World) (x:X) (l:List UInt8):LR w x (l.map fun b=>.int .u8 b.toNat) (l.map fun b=>.int .u8 b.toNat):=by
 refine⟨by simp,fun u hu=>?_,fun i c u hc hu=>?_⟩
 ·obtain⟨b,_,rfl⟩:=List.mem_map.1 hu;rfl
 ·simp only[List.getElem?_map] at hc hu
  cases hb:l[i]? with
  |none=>simp[hb] at hc
  |some b=>simp[hb] at hc hu;subst hc;subst hu;exact .im _ _ (.int _ _)
variable{cs:List D}{us:List Value}
theorem LR.take {x:X} (h:LR w x cs us) (n:Nat):LR w x (cs.take n) (us.take n):=
 ⟨by simp[h.len],fun u hu=>h.one u (Qaw hu),fun i c u hc hu=>by
  rw[Ω] at hc hu
  split at hc
  ·rename_i hi;rw[if_pos hi] at hu;exact h.rel i c u hc hu
  ·cases hc⟩
variable{ds:List D}
theorem LR.append {x:X} {vs:List Value} (h:LR w x cs us) (g:LR w x ds vs):LR w x (cs++ds) (us++vs):=
 ⟨by simp[h.len,g.len],fun u hu=>(List.mem_append.1 hu).elim (h.one u) (g.one u),fun i c u hc hu=>by
  rw[Pd] at hc hu
  split at hc
  ·rename_i hi;rw[if_pos (by rw[←h.len];exact hi)] at hu;exact h.rel i c u hc hu
  ·rename_i hi;rw[if_neg (by rw[←h.len];exact hi)] at hu;rw[←h.len] at hu;exact g.rel _ c u hc hu⟩
variable{st:St}{β:Nat→Option (Nat×Nat)}{Z:Nat→Prop}
theorem uz (h:iH w st β Z) {d:D} {v:Value} {n:Nat} {ys:List D} (hv:VR w (st.x β Z) d v) (hr:pk st d=some (n,ys)):
  (Qa4 v).run P w=.ok n w∧∀s m,m≤n→ys.length=n*s→∃us:List Value,(ι s m v).run P w=.ok us.toArray w∧LR w (st.x β Z) (ys.take (m*s)) us:=by
 unfold pk at hr
 split at hr
 ·rename_i es;cases hr;obtain⟨a,cap,rfl,hc,wJ⟩:=mM hv;refine⟨rfl,fun s m hm hs=>?_⟩
  rcases wJ with rfl|⟨b,off,s0,rfl,hz,iA,hcl,_⟩
  ·have j6:m=0:=by simpa using hm
   subst j6;refine⟨[],?_,⟨by simp,by simp,by simp⟩⟩
   cases a with
   |none=>simp[ι]
   |some a=>simp[ι,rp]
  ·obtain⟨h1,h2⟩:=qF es off (fun i e he=>(iA i e he).2) hcl
   by_cases h0:es.length=0
   ·have j6:m=0:=by omega
    subst j6;exact⟨[],by simp[ι,rp],⟨by simp,by simp,by simp⟩⟩
   ·have hss:s0=s:=Qao z0 (h2.symm.trans hs);subst hss;obtain⟨us,jH,mJ⟩:=(h1.take (m*s0)).lr P;have hle:m*s0≤(es.flatMap D.cells).length:=by rw[h2];exact θ _ hm
    rw[Qbb,Qbk hle] at jH;exact⟨us,jH,mJ⟩
 ·cases hr;rw[fK hv];refine⟨rfl,fun s m hm hs=>⟨[],by simp[ι],⟨by simp,by simp,by simp⟩⟩⟩
 ·rename_i k aB off len sz;obtain⟨⟨a,c⟩,hm,hr⟩:=γ.1 hr;dsimp only at hr
  split at hr
  ·rename_i hle;cases hr;obtain⟨ad,cap,rfl,hc,hk,_,kH⟩:=fJ hv;obtain⟨b,base,KJ,hb,hsz,zf⟩:=kH (dr hm).2;have hcl:=((h.cells hm hb).drop off).take (n*sz);have hlen:((c.drop off).take (n*sz)).length=n*sz:=by simp;omega
   refine⟨rfl,fun s m GP hs=>?_⟩
   rcases zf with rfl|⟨rfl,_⟩
   ·have j6:m=0:=by omega
    subst j6;exact⟨[],by simp[ι,rp],⟨by simp,by simp,by simp⟩⟩
   ·obtain⟨us,jH,mJ⟩:=(hcl.take (m*s)).lr P;have hle:m*s≤((c.drop off).take (n*sz)).length:=by rw[hs];exact θ _ GP
    rw[Qbb,Qbk hle] at jH;exact⟨us,jH,mJ⟩
  ·cases hr
 ·rename_i l;cases hr;rw[gK hv];refine⟨by simp[Qa4,Pe],fun s m hm hs=>?_⟩;simp only[List.length_map] at hs
  by_cases h0:l.length=0
  ·have j6:m=0:=by omega
   subst j6;have hl:l=[]:=ξ.1 h0;subst hl;exact⟨[],by simp[ι],⟨by simp,by simp,by simp⟩⟩
  ·have hss:s=1:=by
    have:l.length*1=l.length*s:=by omega
    exact(Qao z0 this).symm
   subst hss;refine⟨(l.take m).map fun b=>.int .u8 b.toNat,?_,?_⟩
   ·simp only[ι,μ]
    congr 1
    apply Qbn;simp[Qai]
   ·have:=(BX w (st.x β Z) l).take (m*1)
    simpa[←List.map_take] using this
 ·cases hr
def uq (c:Array Value) (off:Nat):List Value→Array Value
 |[]=>c
 |v::vs=>uq (c.setIfInBounds off v) (off+1) vs
theorem nM:∀(vs:List Value) (c:Array Value) (off:Nat),(uq c off vs).size=c.size
 |[],c,off=>rfl
 |v::vs,c,off=>by simp only[uq];rw[nM vs];simp
theorem uo:∀(vs:List Value) (c:Array Value) (off j:Nat),off+vs.length≤c.size→(uq c off vs)[j]?=if off≤j∧j<off+vs.length then vs[j-off]? else c[j]?
 |[],c,off,j,_=>by simp only[uq,Qa3,AN];rw[if_neg z0]
 |v::vs,c,off,j,h=>by
  simp only[υ] at h;simp only[uq,υ];rw[uo vs _ (off+1) j (by simp;omega)]
  by_cases h1:off+1≤j∧j<off+1+vs.length
  ·rw[if_pos h1,if_pos z0,show j-off=(j-(off+1))+1 by omega,τ]
  ·rw[if_neg h1]
   by_cases h2:j=off
   ·subst h2;rw[if_pos z0,Qat,ζ z0];rfl
   ·rw[if_neg z0,ρ z0]
theorem lX {P:Program} {b:Nat} {el:TypeId} {fr:Nat×Nat}:∀(vs:List Value) (i o:Nat) (w:World) (c:Array Value),w.heap[b]?=some (.cells c el fr)→o+i+vs.length≤c.size→(∀q,q<c.size→¬(fr.1≤q∧q<fr.2))→
  (∀v∈vs,v.oneCell'=true)→(storeCells ⟨b,o,none⟩ vs i).run P w=.ok () (match vs with|[]=>w|_=>wput w b (.cells (uq c (o+i) vs) el fr))
 |[],i,o,w,c,_,_,_,_=>rfl
 |v::vs,i,o,w,c,hw,hl,hf,h1=>by
  simp only[υ] at hl
  have O2:(⟨b,o,none⟩:Addr).add i=⟨b,o+i,none⟩:=by
   unfold Addr.add;split
   ·rename_i e;subst e;rfl
   ·rfl
  have hcell:w.cell? ⟨b,o+i,none⟩=some (c[o+i]' z0):=by
   simp[World.cell?,hw,Array.getElem?_eq_getElem (show o+i<c.size by omega)]
  have hfr:w.frozen? ⟨b,o+i,none⟩=false:=by
   have:=hf (o+i) z0;simp only[World.frozen?,hw];simp only[Bool.and_eq_false_iff,decide_eq_false_iff_not];omega
  have gD:w.setCell ⟨b,o+i,none⟩ v=wput w b (.cells (c.setIfInBounds (o+i) v) el fr):=by
   simp only[World.setCell,wput]
   congr 1
   apply Qa7;intro j;rw[Array.getElem?_modify]
   by_cases hj:b=j
   ·subst hj
    have hb:b<w.heap.size:=by
     rcases φ b w.heap.size with h'|h'
     ·exact h'
     ·rw[Qap h'] at hw;cases hw
    rw[if_pos rfl,hw,ζ hb];simp
   ·rw[if_neg hj,ρ hj]
  have hb:b<w.heap.size:=by
   rcases φ b w.heap.size with h'|h'
   ·exact h'
   ·rw[Qap h'] at hw;cases hw
  have UL:(wput w b (.cells (c.setIfInBounds (o+i) v) el fr)).heap[b]?=some (.cells (c.setIfInBounds (o+i) v) el fr):=by
   simp only[wput];rw[ζ hb]
  have ih:=lX (P:=P) vs (i+1) o (wput w b (.cells (c.setIfInBounds (o+i) v) el fr)) _ UL (by simp;omega) (by simpa using hf) (fun u hu=>h1 u (List.mem_cons_of_mem _ hu));simp only[storeCells,ε,O2,run_store P w _ v .plain (h1 v (List.mem_cons_self ..)),hcell,hfr,Γ,if_false,δ,gD,ih]
  cases vs with
  |nil=>simp[uq]
  |cons v' vs=>
   simp only[uq]
   congr 1
   simp[wput,show o+(i+1)=o+i+1 by omega]
variable{k base:Nat}
theorem Nx.move {w':World} (h:iH w st β Z) {aB:Nat} {a a':Bool} {c':List D} (hm:st.fX k aB=some (a,c)) (hb:β k=some (b,base)) (db:st.ro≤k) {cs:Array Value} {el:TypeId} (hh:w'.heap=w.heap.push (.cells cs el (0,0))) (ho:w'.os=w.os) (ht:w'.tape=w.tape) (hp:w'.output=w.output) (hl:c'.length≤cs.size) (hc:∀(j:Nat) d,c'[j]?=some d→∃u,cs[j]?=some u∧u.oneCell'=true∧VR w (st.x β Z) d u):
  Nx w st β Z w' {st with bs:=st.bs.set k (.mem (aB+1) a' c')} (fun i=>if i=k then some (w.heap.size,0) else β i) Z:=by
 obtain⟨ic,lK⟩:=dr hm;have jx:k<st.bs.length:=h.dom k b base hb
 have hold:∀i,i<w.heap.size→w'.heap[i]?=w.heap[i]?:=by
  intro i hi;rw[hh,Qa6,if_neg z0]
 have heq:w'.heap[w.heap.size]?=some (.cells cs el (0,0)):=by rw[hh];simp
 have hsz:w'.heap.size=w.heap.size+1:=by rw[hh,Qb8]
 have vp:∀i,i≠k→({st with bs:=st.bs.set k (.mem (aB+1) a' c')}:St).aB i=st.aB i:=by
  intro i hi;simp only[St.aB];rw[ς z0]
 have vn:({st with bs:=st.bs.set k (.mem (aB+1) a' c')}:St).aB k=some (aB+1):=by
  simp[St.aB,jx,dp]
 have hk:dS w (st.x β Z) w' (({st with bs:=st.bs.set k (.mem (aB+1) a' c')}:St).x (fun i=>if i=k then some (w.heap.size,0) else β i) Z):=by
  refine⟨fun i p hp=>?_,fun i hi=>⟨hi,hold i (h.zl i hi)⟩,fun i q p hi hq=>?_,fun i q hq pK i' y hy=>?_⟩
  ·by_cases hik:i=k
   ·subst hik;exact⟨(w.heap.size,0),by simp[St.x]⟩
   ·exact⟨p,by simp only[St.x] at hp⊢;rw[if_neg hik];exact hp⟩
  ·by_cases hik:i=k
   ·subst hik;simp only[St.x] at hq⊢;rw[vn] at hq;cases hq;exact⟨aB,lK,by omega⟩
   ·simp only[St.x] at hq⊢;rw[vp i hik] at hq;exact⟨q,hq,η _⟩
  ·by_cases hik:i=k
   ·subst hik;simp only[St.x] at hq pK hy⊢;rw[vn] at hq;cases hq;rw[lK] at pK;simp at pK
   ·simp only[St.x] at hy⊢;exact⟨by rw[if_neg hik];exact hy,eM (hold i' (h.lt i i' y hy))⟩
 refine⟨⟨?_,?_,?_,?_,?_,?_,?_,?_⟩,hk,⟨ho,ht,hp,by omega,fun i hi _=>hold i hi⟩,?_,fun _ hz=>.inl hz,by simp,rfl,rfl,?_,fun i _ h0=>by
   by_cases e:i=k
   ·subst e;rw[hb] at h0;cases h0
   ·simp only[if_neg e];rw[ς z0];exact⟨h0,rfl⟩⟩
 ·intro i q y hq;simp only[Qbf]
  split at hq
  ·rename_i e;subst e;exact jx
  ·exact h.dom i q y hq
 ·intro i q y hq
  split at hq
  ·cases hq;omega
  ·have:=h.lt i q y hq;omega
 ·intro i i' q y y' h1 h2
  split at h1<;>split at h2
  ·omega
  ·rename_i e _;cases h1;have:=h.lt _ _ _ h2;omega
  ·rename_i _ e;cases h2;have:=h.lt _ _ _ h1;omega
  ·exact h.inj i i' q y y' h1 h2
 ·intro i q y hq hz
  split at hq
  ·cases hq;have:=h.zl _ hz;omega
  ·exact h.zd i q y hq hz
 ·intro i hz;have:=h.zl i hz;omega
 ·intro i q y bx hq vz;(dsimp only at hq vz)
  split at hq
  ·rename_i e;subst e;cases hq;rw[Qa1 jx] at vz;cases vz;refine⟨cs,el,(0,0),heq,by omega,tC.zero _,fun j d hd=>?_⟩;obtain⟨u,jH,mJ,rW⟩:=hc j d hd;exact⟨u,by rw[Qau];exact jH,mJ,rW.mono hk⟩
  ·rename_i e;rw[ς z0] at vz;exact(h.box i q y bx hq vz).cw hk (hold q (h.lt i q y hq))
 ·have:=h.flr;simp;omega
 ·have:=h.ro;simp;omega
 ·intro i q y hq
  split at hq
  ·cases hq;exact .inr (η _)
  ·exact .inl ⟨y,hq⟩
 ·intro i hi;dsimp only;rw[ς z0,if_neg z0];exact⟨rfl,rfl⟩
theorem eS {r:Nat} (h:st.jr k r=true):st.ro≤k:=by
 simp only[St.jr,Qb9,decide_eq_true_eq] at h;exact h.1
theorem D0 {ah:St} (h:iH w st β Z) {aB off:Nat} (hu:LR w (st.x β Z) ds us) (hw:st.wr k aB off ds=some ah) (hb:β k=some (b,base)) {a:Addr} (ha:us=[]∨a=⟨b,base+off,none⟩):∃w',(storeCells a us).run P w=.ok () w'∧∃β',Nx w st β Z w' ah β' Z∧β'=β:=by
 unfold St.wr at hw
 split at hw
 ·rename_i ar c hm
  split at hw
  ·rename_i hc;cases hw;obtain⟨cs,el,fr,h1,h2,h3,h4⟩:=h.row hm hb;have hlen:=hu.len
   have hx:(fun i=>if i=k then some (b,base) else β i)=β:=by
    funext i;split
    ·rename_i e;subst e;exact hb.symm
    ·rfl
   have key:∀cs':Array Value,cs'.size=cs.size→(∀j,cs'[base+j]?=if off≤j∧j<off+us.length then us[j-off]? else cs[base+j]?)→
     Nx w st β Z (wput w b (.cells cs' el fr)) {st with bs:=st.bs.set k (.mem aB ar (setMany c off ds))} β Z:=by
    intro cs' hs hg
    have:=Nx.write (a':=ar) (oo:=aB) (c':=setMany c off ds) (dx:=base) h hm hb (eS hc.2) (η _) (fun _=>rfl) h1 hs (by rw[eu];omega) (fun j d hd=>by
     rw[ku ds c off j hc.1] at hd;rw[hg j]
     split at hd
     ·rename_i hj;rw[if_pos z0];exact hu.at_ hd
     ·rename_i hj;rw[if_neg z0]
      exact h4 j d hd)
    rwa [hx] at this
   rcases Nat.eq_zero_or_pos us.length with h0|h0
   ·have TN:us=[]:=ξ.1 h0;subst TN;have eW:b<w.heap.size:=h.lt k b base hb
    have Bp:wput w b (.cells cs el fr)=w:=by
     simp only[wput]
     have:w.heap.setIfInBounds b (.cells cs el fr)=w.heap:=by
      apply Qa7;intro j
      by_cases hj:b=j
      ·subst hj;rw[ζ eW,h1]
      ·rw[ρ hj]
     rw[this]
    have:=key cs rfl (fun j=>by rw[if_neg (by simp only[Qa3,AN];omega)]);rw[Bp] at this;exact⟨w,rfl,β,this,rfl⟩
   ·rcases ha with rfl|rfl
    ·simp at h0
    ·have oN:=lX (P:=P) us 0 (base+off) w cs h1 z0 h3.2 hu.one;refine⟨_,oN,β,?_,rfl⟩
     cases us with
     |nil=>simp at h0
     |cons u us=>
      refine key _ (nM _ _ _) fun j=>?_;rw[uo _ _ _ _ z0]
      by_cases hj:off≤j∧j<off+(u::us).length
      ·rw[if_pos hj,if_pos z0];congr 1<;>omega
      ·rw[if_neg hj,if_neg z0]
  ·cases hw
 ·cases hw
section
variable{pv:Pv} {P:Program} (ok:pv.Ok P)
include ok
variable{w:World}{st ah:St}{β:Nat→Option (Nat×Nat)}{Z:Nat→Prop}{d e:D}{u v:Value}
theorem Hd (h:iH w st β Z) {t:Nat} (hu:VR w (st.x β Z) d u) (hv:VR w (st.x β Z) e v) (hs:lU pv t d e st=some ah):
  ∃w',(Qbh t u v).run P w=.ok () w'∧Nx w st β Z w' ah β Z:=by
 unfold lU at hs
 split at hs
 ·rename_i k aB off cs kh
  split at hs
  ·rename_i hsz;obtain⟨a,rfl,hk,kH⟩:=cH hu;have hc:=qz hv kh
   have lK:st.aB k=some aB:=by
    unfold St.wr at hs
    split at hs
    ·rename_i hm;exact(dr hm).2
    ·cases hs
   obtain⟨b,base,hb,rfl⟩:=kH lK;obtain⟨w',h1,β',h2,rfl⟩:=D0 (P:=P) h hc hs hb (.inr rfl);refine⟨w',?_,h2⟩;have Bn:v.cells.size=cs.length:=by rw[hc.len];simp
   simp[Qbh,GB,storeVar,cm ok hsz,Bn,h1]
  ·cases hs
 ·cases hs
theorem Mv (h:iH w st β Z) {qZ:List TypeId} {ty:TypeId} {r:D} (hu:VR w (st.x β Z) d u) (hv:VR w (st.x β Z) e v) (hs:xU pv qZ d e st=some (r,ah)):∃z w',(Qah qZ.toArray ty #[u,v]).run P w=.ok z w'∧Nx w st β Z w' ah β Z∧VR w' (ah.x β Z) r z:=by
 unfold xU at hs
 split at hs
 ·rename_i dT rest
  split at hs
  ·rename_i el OU;obtain⟨s,hsz,hs⟩:=γ.1 hs;obtain⟨⟨m,ys⟩,jI,hs⟩:=γ.1 hs;dsimp only at hs
   split at hs
   ·cases hs
   ·rename_i kD;have kD:ys.length=m*s:=Δ.1 kD;obtain⟨hlen,dW⟩:=uz (P:=P) h hv jI
    cases d with
    |win k aB off len sz=>
     simp only at hs
     split at hs
     ·cases hs
     ·rename_i hss;have hss:sz=s:=Δ.1 hss;subst hss;obtain⟨a,cap,rfl,hc,hk,_,kH⟩:=fJ hu;obtain⟨st1,hwr,hs⟩:=κ.1 hs;cases hs
      have lK:st.aB k=some aB:=by
       unfold St.wr at hwr
       split at hwr
       ·rename_i hm;exact(dr hm).2
       ·cases hwr
      obtain⟨b,base,KJ,hb,_,zf⟩:=kH lK;obtain⟨us,h1,h2⟩:=dW sz (min m len) (Nat.min_le_left _ _) kD
      have hla:us=[]∨a=⟨b,base+off,none⟩:=by
       rcases zf with rfl|⟨rfl,_⟩
       ·left;have:len=0:=by omega
        subst this;have:=h2.len;simp at this;exact ξ.1 this.symm
       ·exact .inr rfl
      obtain⟨w',h3,β',h4,rfl⟩:=D0 (P:=P) h h2 hwr hb hla;refine⟨_,w',?_,h4,.im _ _ (.int _ _)⟩;have Bs:Qbt m len=min m len:=rfl;simp only[Qah,IS,v8,τ,ε,aN ok OU,δ,hlen,cm ok hsz,Bs,h1,h3,μ,goInt]
    |nul=>
     cases hs;rw[fK hu];obtain⟨us,h1,h2⟩:=dW s 0 (Qbp _) kD;have TN:us=[]:=by have:=h2.len;simp at this;exact ξ.1 this.symm
     subst TN;refine⟨.int .i64 0,w,?_,Nx.same h,.im _ _ (.int _ _)⟩;have Bs:Qbt m 0=0:=Nat.min_zero m;simp only[Qah,IS,v8,τ,ε,aN ok OU,δ,hlen,cm ok hsz,Bs,h1,μ,goInt]
     rfl
    |_=>cases hs
  ·cases hs
 ·cases hs
end
end Go.V
namespace Go.V
open Go.RowKit
theorem E2:∀(r c n:Nat),c≤n+n/4+192→Qb3 n r c≤n+n/4+192
 |0,c,n,h=>h
 |r+1,c,n,h=>by
  unfold Qb3
  split
  ·exact h
  ·exact E2 r _ n z0
theorem Ld (n c:Nat) (h:c≤n):IN n c≤2*n+192:=by
 unfold IN
 split
 ·omega
 ·split
  ·omega
  ·have:=E2 4 c n z0;omega
theorem FZ {yJ c bytes:Nat} (hc:c≤yJ) (h1:1≤yJ) (h:yJ*bytes≤1099511627776):¬IN yJ c*bytes>2^48:=by
 have h2:=θ bytes (Ld yJ c hc);rw[Ξ,Nat.mul_assoc] at h2;have h3:bytes≤yJ*bytes:=by have:=θ bytes h1;omega
 have:192*bytes≤192*1099511627776:=Nat.mul_le_mul_left _ z0;omega
theorem J4 (yJ AX:Nat) (el:TypeId) (t:Nat):yJ≤(Question.appendCap yJ AX el).cut t:=by
 simp only[Question.cut];omega
theorem wC (w:World) (cs:Array Value) (el:TypeId) (fr:Nat×Nat):cV (w.alloc (.cells cs el fr)) w.heap.size=some cs.size:=by
 have:(w.alloc (.cells cs el fr)).heap[w.heap.size]?=some (.cells cs el fr):=by
  show(w.heap.push _)[w.heap.size]?=_;simp
 simp only[cV,this]
theorem nJ {w':World} {x:X} {k v len s cap b sz:Nat} (lK:x.aB k=some v) (hb:x.β k=some (b,0)) (hsz:cV w' b=some sz) (hl:len≤cap) (hc:cap*s≤sz):
  VR w' x (.win k v 0 len s) (.slice (some ⟨b,0,none⟩) len cap):=by
 refine .win k v 0 len s _ cap hl ⟨_,hb⟩ (fun c Dk=>?_) fun _=>⟨b,0,sz,hb,hsz,.inr ⟨rfl,by omega⟩⟩
 rw[lK] at Dk;cases Dk;exact η _
def B5 (i:TypeInfo) (base:Option Addr) (gy kU n:Nat) (v:Value):Sem Value:=do
 let new←ι i.size n v
 if let some a:=base then storeCells (a.add (gy*i.size)) new.toList
 pure (.slice base (gy+n) kU)
def DS (el:TypeId) (i:TypeInfo) (base:Option Addr) (gy kU n:Nat) (v:Value):Sem Value:=do
 let CK←choose (.appendCap (gy+n) kU el)
 askRoom (CK*i.bytes)
 let AX←ι i.size gy (.slice base gy kU)
 let new←ι i.size n v
 let z←zeroValue el
 pure (.slice (some (←newRow el (AX++new++Qa8 z.cells (CK-(gy+n))))) (gy+n) CK)
section
variable{pv:Pv} {P:Program} (ok:pv.Ok P)
include ok
variable{w:World}{sT xT el n gy kU:Nat}{base:Option Addr}{v:Value}
theorem DR {rest:List TypeId} {ty:TypeId} {xd:TypeDesc} {i:TypeInfo} (MZ:pv.cy sT=some (.slice el)) (MU:pv.cy xT=some xd) (M3:¬fh xd=true) (hi:pv.info el=some i) (hlen:(Qa4 v).run P w=.ok n w) (nr:gy+n≤kU):
  (Ψ (sT::xT::rest).toArray ty #[.slice base gy kU,v]).run P w=(B5 i base gy kU n v).run P w:=by
 have Bn:∀w':World,(sizeOf el).run P w'=.ok i.size w':=cm ok (lV hi);cases xd<;>first
  |exact absurd rfl M3
  |(simp only[Ψ,B5,IS,v8,τ,ε,aN ok MZ,aN ok MU,δ,Bn,μ,Γ,if_false,hlen,nr,if_true,Qbg];rfl)
theorem ME {rest:List TypeId} {ty:TypeId} {xd:TypeDesc} {i:TypeInfo} (MZ:pv.cy sT=some (.slice el)) (MU:pv.cy xT=some xd) (M3:¬fh xd=true) (hi:pv.info el=some i) (hlen:(Qa4 v).run P w=.ok n w) (nr:¬gy+n≤kU) (Wh:¬i.bytes=0) (ni:¬IN (gy+n) kU*i.bytes>2^48):
  (Ψ (sT::xT::rest).toArray ty #[.slice base gy kU,v]).run P w=(DS el i base gy kU n v).run P w:=by
 have Bn:∀w':World,(sizeOf el).run P w'=.ok i.size w':=cm ok (lV hi);have RH:∀w':World,(typeInfo el).run P w'=.ok i w':=pj ok hi;cases xd<;>first
  |exact absurd rfl M3
  |(simp only[Ψ,DS,IS,v8,τ,ε,aN ok MZ,aN ok MU,δ,Bn,μ,Γ,if_false,hlen,nr,RH,Wh,ni,or_self,and_false,Qbg,if_true];try rfl)
theorem GF {st ah:St} {β:Nat→Option (Nat×Nat)} {Z:Nat→Prop} (h:iH w st β Z) {qZ:List TypeId} {ty:TypeId} {d e r:D} {u:Value} (hu:VR w (st.x β Z) d u) (hv:VR w (st.x β Z) e v) (hs:iG pv qZ d e st=some (r,ah)):∃z w' β',(Ψ qZ.toArray ty #[u,v]).run P w=.ok z w'∧Nx w st β Z w' ah β' Z∧VR w' (ah.x β' Z) r z:=by
 unfold iG at hs
 split at hs
 ·rename_i sT xT rest
  split at hs
  ·rename_i el xd MZ MU
   split at hs
   ·cases hs
   ·rename_i M3;obtain⟨i,hi,hs⟩:=γ.1 hs;obtain⟨z,hz,hs⟩:=γ.1 hs;obtain⟨⟨n,ys⟩,jI,hs⟩:=γ.1 hs;dsimp only at hs
    split at hs
    ·cases hs
    ·rename_i tR;simp only[not_or] at tR;obtain⟨kD,Wh,mz⟩:=tR;have kD:ys.length=n*i.size:=Δ.1 kD;have mz:z.length=i.size:=Δ.1 mz;obtain⟨hlen,dW⟩:=uz (P:=P) h hv jI;obtain⟨us,NZ,F9⟩:=dW i.size n (η _) kD;rw[←kD,Qbc] at F9;have hS:Nx w st β Z w.drew st β Z:=Nx.still h rfl rfl rfl rfl;obtain⟨zv,QB,NV⟩:=iP ok w.drew (st.x β Z) hz;have hzs:zv.cells.size=i.size:=by have:=NV.len;rw[mz] at this;simpa using this.symm
     obtain⟨vs,UM,Lq⟩:=(uz (P:=P) hS.sim (hv.mono hS.keeps) jI).2 i.size n (η _) kD;rw[←kD,Qbc] at Lq
     have grow:∀(base:Option Addr) (gy kU:Nat) (os:List Value),u=.slice base gy kU→¬(gy+n≤kU)→(ι i.size gy u).run P w.drew=.ok os.toArray w.drew→os.length=gy*i.size→
       1≤gy+n→(gy+n)*i.bytes≤1099511627776→
       ∃cap cs,(Ψ (sT::xT::rest).toArray ty #[u,v]).run P w=.ok (.slice (some ⟨w.heap.size,0,none⟩) (gy+n) cap) (w.drew.alloc (.cells cs el))∧gy+n≤cap∧
        cap*i.size≤cs.size∧∀(j:Nat) q,(os++vs)[j]?=some q→cs[j]?=some q:=by
      intro base gy kU os hue nr hos Ow h1 ni;subst hue;have Ge:=J4 (gy+n) kU el (w.tape w.drawn (.appendCap (gy+n) kU el));generalize hq:(Question.appendCap (gy+n) kU el).cut (w.tape w.drawn (.appendCap (gy+n) kU el))=cap at Ge;refine⟨cap,os.toArray++vs.toArray++Qa8 zv.cells (cap-(gy+n)),?_,Ge,?_,?_⟩
      ·have N_:=FZ (bytes:=i.bytes) (Nat.le_of_lt (Nat.lt_of_not_le nr)) h1 ni;rw[ME ok MZ MU M3 hi hlen nr Wh N_,DS];simp only[ε,run_choose,Question.forced,Γ,if_false,δ,run_askRoom];have tw:({w with drawn:=w.drawn+1}:World)=w.drew:=rfl;rw[tw,hq];simp only[δ,hos,UM,QB,newRow,ε,run_newObj,μ]
       rfl
      ·simp only[Array.size_append,Qaa,Qa8,Array.size_map,Array.size_range,hzs];have:=Lq.len;rw[Ow,←this,kD,←Ξ,←Ξ];exact θ _ z0
      ·intro j q hj
       have hlt:j<(os++vs).length:=by
        rcases φ j (os++vs).length with h'|h'
        ·exact h'
        ·rw[ν h'] at hj;cases hj
       rw[Array.getElem?_append_left (by simpa using hlt)]
       simpa using hj
     cases d with
     |nul=>
      have QL:=fK hu;simp only at hs
      split at hs
      ·rename_i hn;cases hs;subst QL;subst hn;have N0:us=[]:=by have:=F9.len;rw[kD] at this;simp at this;exact ξ.1 this.symm
       subst N0;refine⟨.slice none 0 0,w,β,?_,Nx.same h,.im _ _ .nul⟩;rw[DR ok MZ MU M3 hi hlen z0,B5];simp only[ε,NZ,δ,μ]
      ·rename_i hn
       split at hs
       ·rename_i ni;cases hs;obtain⟨cap,cs,h1,h2,h3,h4⟩:=grow none 0 0 [] QL z0 (by rw[QL];simp[ι]) (by simp) z0 (by simpa using ni);simp only[Qau,List.nil_append] at h1 h2 h4
        obtain⟨hx,hx1,NX,hx3⟩:=Nx.mT (w':=w.drew.alloc (.cells cs el)) hS.sim true ys cs el (0,0) rfl rfl rfl rfl (by
         rw[kD];exact Φ (θ _ h2) h3) (tC.zero _) (fun j q hq=>by
          obtain⟨y,hy1,GL,Ir⟩:=Lq.at_ hq
          exact⟨y,h4 j y hy1,GL,Ir⟩)
        exact⟨_,_,_,h1,hS.trans hx,nJ NX hx3 hx1 h2 h3⟩
       ·cases hs
     |win k aB off len sz=>
      simp only at hs
      split at hs
      ·rename_i c hm
       split at hs
       ·cases hs
       ·rename_i hsz;simp only[not_or,Nat.not_lt] at hsz;obtain⟨hsz,hcl⟩:=hsz;have hsz:sz=i.size:=Δ.1 hsz;obtain⟨a,cap,rfl,hc,hk,_,kH⟩:=fJ hu;obtain⟨b,base,KJ,hb,pI,zf⟩:=kH (dr hm).2
        split at hs
        ·rename_i hn;cases hs;subst hn;have N0:us=[]:=by have:=F9.len;rw[kD] at this;simp at this;exact ξ.1 this.symm
         subst N0;refine⟨.slice (some a) len cap,w,β,?_,Nx.same h,hu⟩;rw[DR ok MZ MU M3 hi hlen z0,B5];simp only[ε,NZ,δ,μ]
         rfl
        ·rename_i hn
         split at hs
         ·rename_i ni;obtain⟨ni,Ky⟩:=ni;cases hs;subst hsz;have Bw:((c.take (off+len*i.size)).drop off).length=len*i.size:=by simp;omega
          obtain⟨Pf,X2,WE,r1,r2,r3,r4⟩:=h.row hm hb
          by_cases nr:len+n≤cap
          ·
           have Wn:a=⟨b,base+off,none⟩∧base+off+cap*i.size≤KJ:=by
            rcases zf with h0|h0
            ·omega
            ·exact h0
           obtain⟨rfl,RN⟩:=Wn;have aan:Pf.size=KJ:=by simp only[cV,r1] at pI;cases pI;rfl
           have aal:us.length=n*i.size:=by rw[←F9.len,kD]
           have RM:(len+n)*i.size≤cap*i.size:=θ _ nr;rw[Ξ] at RM;have oN:=lX (P:=P) us 0 (base+off+len*i.size) w Pf r1 z0 r3.2 F9.one
           have O2:(⟨b,base+off,none⟩:Addr).add (len*i.size)=⟨b,base+off+len*i.size,none⟩:=by
            unfold Addr.add;split
            ·rename_i e;rw[e];rfl
            ·rfl
           have hne:us≠[]∨us=[]:=by cases us<;>simp
           have OE:(storeCells ⟨b,base+off+len*i.size,none⟩ us).run P w=.ok () (wput w b (.cells (uq Pf (base+off+len*i.size) us) X2 WE)):=by
            rw[oN]
            cases us with
            |nil=>
             simp only[uq];have eW:b<w.heap.size:=h.lt k b base hb
             congr 1
             simp only[wput]
             have:w.heap.setIfInBounds b (.cells Pf X2 WE)=w.heap:=by
              apply Qa7;intro j
              by_cases hj:b=j
              ·subst hj;rw[ζ eW,r1]
              ·rw[ρ hj]
             rw[this]
            |cons _ _=>simp
           have hx:=Nx.write (a':=true) (oo:=aB+1) (c':=(c.take (off+len*i.size)).drop off++ys) (dx:=base+off) h hm hb (eS Ky) z0 (fun e=>by omega) r1
            (nM us Pf (base+off+len*i.size)) (by rw[wt,Bw,kD];omega) (fun j q hq=>by
             rw[uo _ _ _ _ z0];rw[Pd] at hq
             split at hq
             ·rename_i hj;rw[Bw] at hj;rw[if_neg z0];rw[Θ,Ω] at hq
              split at hq
              ·have:=r4 _ q hq
               rwa [show base+(off+j)=base+off+j by omega] at this
              ·cases hq
             ·rename_i hj;rw[Bw] at hj hq;obtain⟨y,hy1,GL,Ir⟩:=F9.at_ hq
              have nX:j-len*i.size<us.length:=by
               rcases φ (j-len*i.size) us.length with h'|h'
               ·exact h'
               ·rw[ν h'] at hy1;cases hy1
              rw[if_pos z0]
              exact⟨y,by rw[←hy1];congr 1;omega,GL,Ir⟩)
           have jx:k<st.bs.length:=h.dom k b base hb;refine⟨.slice (some ⟨b,base+off,none⟩) (len+n) cap,_,_,?_,hx,?_⟩
           ·rw[DR ok MZ MU M3 hi hlen nr,B5];simp only[ε,NZ,δ,μ,O2,OE]
           ·refine .win k (aB+1) 0 (len+n) i.size _ cap nr ⟨_,by simp[St.x];rfl⟩ (fun q hq=>?_) fun _=>⟨b,base+off,Pf.size,by simp[St.x],?_,.inr ⟨rfl,by omega⟩⟩
            ·simp[St.x,St.aB,jx,dp] at hq;omega
            ·have eW:b<w.heap.size:=h.lt k b base hb;simp only[cV,wput];rw[ζ eW];simp[nM]
          ·
           have hold:∃os:List Value,(ι i.size len (.slice (some a) len cap)).run P w.drew=.ok os.toArray w.drew∧LR w.drew (st.x β Z) ((c.take (off+len*i.size)).drop off) os:=by
            have QW:pk st (.win k aB off len i.size)=some (len,(c.drop off).take (len*i.size)):=by
             simp[pk,hm,hcl]
            have:=(uz (P:=P) hS.sim (hu.mono hS.keeps) QW).2 i.size len (η _) (by simp;omega);obtain⟨os,ES,zL⟩:=this;refine⟨os,ES,?_⟩;rw[List.take_take,Nat.min_self] at zL
            rwa [Qbi,Nat.add_sub_cancel_left]
           obtain⟨os,ES,zL⟩:=hold;have Ow:os.length=len*i.size:=by rw[←zL.len,Bw]
           obtain⟨X9,cs,h1,h2,h3,h4⟩:=grow (some a) len cap os rfl nr ES Ow z0 ni;have rX:=zL.append Lq
           have hx:=Nx.move (w':=w.drew.alloc (.cells cs el)) (a':=true) (c':=(c.take (off+len*i.size)).drop off++ys) hS.sim hm hb (eS Ky) rfl rfl rfl rfl (by
            rw[wt,Bw,kD,←Ξ];exact Φ (θ _ h2) h3) (fun j q hq=>by
             obtain⟨y,hy1,GL,Ir⟩:=rX.at_ hq
             exact⟨y,h4 j y hy1,GL,Ir⟩)
           have jx:k<st.bs.length:=h.dom k b base hb;refine⟨_,_,_,h1,hS.trans hx,?_⟩
           refine .win k (aB+1) 0 (len+n) i.size _ X9 h2 ⟨_,by simp[St.x];rfl⟩ (fun q hq=>?_) fun _=>⟨w.heap.size,0,cs.size,by simp[St.x],wC w.drew cs el (0,0),.inr ⟨rfl,by omega⟩⟩
           simp[St.x,St.aB,jx,dp] at hq;omega
         ·cases hs
      ·cases hs
     |_=>cases hs
  ·cases hs
 ·cases hs
end
end Go.V
namespace Go.V
open Go.RowKit
theorem nF (b o n:Nat):(⟨b,o,none⟩:Addr).add n=⟨b,o+n,none⟩:=by
 unfold Addr.add;split
 ·rename_i e;subst e;rfl
 ·rfl
variable{w:World}{off:Nat}
theorem IR.JF {Z:Nat→Prop} {cs:List D} {b:Nat} {f:Nat→Value} (hz:Z b) (hv:∀(j:Nat) c,cs[j]?=some c→w.cell? ⟨b,off+j,none⟩=some (f j)∧(f j).oneCell'=true) (hr:∀(j:Nat) c,cs[j]?=some c→IR w Z c (f j)) (n:Nat):IR w Z (.ep (cs.drop n)) (.pointer (some ⟨b,off+n,none⟩)):=by
 refine .ep _ b (off+n) (fun j=>f (n+j)) hz (fun j c hj=>?_) (fun j c hj=>?_)
 ·rw[Θ] at hj;have:=hv _ c hj
  rwa [show off+(n+j)=off+n+j by omega] at this
 ·rw[Θ] at hj;exact hr _ c hj
theorem VR.HK {x:X} {k vr:Nat} {a:Addr} (h:VR w x (.ptr k vr off) (.pointer (some a))) (n:Nat):VR w x (.ptr k vr (off+n)) (.pointer (some (a.add n))):=by
 cases h with
 |im _ _ h=>cases h
 |ptr _ _ _ _ hk hm h=>
  refine .ptr k vr (off+n) _ hk hm fun hv=>?_;obtain⟨b,base,hb,rfl⟩:=h hv;exact⟨b,base,hb,by rw[nF,Qa0]⟩
theorem wL (s:List UInt8) (l h:Nat):(⟨s.toArray⟩:ByteArray).extract l h=⟨((s.take h).drop l).toArray⟩:=by
 apply Qbs;simp[Qai,Qan,Qbi]
section
variable{pv:Pv} {P:Program} (ok:pv.Ok P)
include ok
variable{w:World}{t i:Nat}{d r:D}{u:Value}
theorem zo {x:X} (hu:VR w x d u) (h:fQ pv t d i=some r):∃z,(Qal t u i).run P w=.ok z w∧VR w x r z:=by
 unfold fQ at h
 split at h
 ·rename_i fields ht;obtain⟨f,hf,h⟩:=γ.1 h
  split at h
  ·cases h
  ·rename_i h0;obtain⟨s,hs,h⟩:=γ.1 h;have M0:¬s=0:=by intro e;subst e;exact h0 hs
   split at h
   ·cases h;obtain⟨a,rfl,_⟩:=cH hu;refine⟨.pointer (some (a.add f.offset)),?_,hu.HK _⟩;simp[Qal,aN ok ht,hf,GB,fieldPlace,cm ok hs,M0]
   ·cases h;obtain⟨b,off,rfl,hz,_,g,hv,hr⟩:=ub hu;refine⟨.pointer (some ((⟨b,off,none⟩:Addr).add f.offset)),?_,.im _ _ ?_⟩
    ·simp[Qal,aN ok ht,hf,GB,fieldPlace,cm ok hs,M0]
    ·rw[nF];exact IR.JF hz hv hr _
   ·cases h
 ·cases h
theorem JA {x:X} (hu:VR w x d u) (h:Dt pv t d i=some r):∃z,(Qbm t u i).run P w=.ok z w∧VR w x r z:=by
 unfold Dt at h
 split at h
 ·rename_i fields cs ht;obtain⟨f,hf,h⟩:=γ.1 h;obtain⟨us,rfl,hl,h1,hr⟩:=jk hu;obtain⟨z,hz,B9⟩:=nS ok hl h1 hr h;exact⟨z,by simp[Qbm,aN ok ht,hf,asAgg,hz],B9⟩
 ·cases h
variable{e:D}{v:Value}
theorem Iq {x:X} (hu:VR w x d u) (hv:VR w x e v) (h:vm pv t d e=some r):∃z,(Qas t u v).run P w=.ok z w∧VR w x r z:=by
 unfold vm at h
 split at h
 ·rename_i k i;rw[cZ hv]
  split at h
  ·rename_i len el cs ht;obtain⟨s,hs,h⟩:=γ.1 h
   split at h
   ·rename_i hi;obtain⟨us,rfl,hl,h1,hr⟩:=jk hu;obtain⟨z,hz,B9⟩:=nS ok hl h1 hr h;exact⟨z,by simp[Qas,asIntOf,aN ok ht,hi,cm ok hs,hz],B9⟩
   ·cases h
  ·rename_i l ht
   split at h
   ·rename_i hi;obtain⟨b,hb,rfl⟩:=κ.1 h;rw[gK hu];refine⟨.int .u8 b.toNat,?_,.im _ _ (.int _ _)⟩
    have:(⟨l.toArray⟩:ByteArray)[i.toNat]?=some b:=by
     have hlt:i.toNat<l.length:=by
      rcases φ i.toNat l.length with h'|h'
      ·exact h'
      ·rw[ν h'] at hb;cases hb
     rw[getElem?_pos (⟨l.toArray⟩:ByteArray) i.toNat (by simpa[Pe] using hlt)];rw[π hlt] at hb;cases hb
     rfl
    simp[Qas,asIntOf,aN ok ht,hi,this]
   ·cases h
  ·cases h
 ·cases h
variable{st:St}{β:Nat→Option (Nat×Nat)}{Z:Nat→Prop}
theorem y4 (hu:VR w (st.x β Z) d u) (hv:VR w (st.x β Z) e v) (h:bX pv t d e st=some r):
  ∃z,(AT t u v).run P w=.ok z w∧VR w (st.x β Z) r z:=by
 unfold bX at h
 split at h
 ·rename_i k i;rw[cZ hv]
  split at h
  ·rename_i len el k aB off ht;obtain⟨s,hs,h⟩:=γ.1 h
   split at h
   ·rename_i hi;cases h;obtain⟨a,rfl,_⟩:=cH hu;exact⟨.pointer (some (a.add (i.toNat*s))),by simp[AT,asIntOf,aN ok ht,GB,hi,cm ok hs],hu.HK _⟩
   ·cases h
  ·rename_i len el c ht;obtain⟨s,hs,h⟩:=γ.1 h
   split at h
   ·rename_i hi;cases h;obtain⟨b,off,rfl,hz,_,g,hv,hr⟩:=ub hu;refine⟨.pointer (some ((⟨b,off,none⟩:Addr).add (i.toNat*s))),by simp[AT,asIntOf,aN ok ht,GB,hi,cm ok hs],.im _ _ ?_⟩;rw[nF];exact IR.JF hz hv hr _
   ·cases h
  ·rename_i el es ht;obtain⟨s,hs,h⟩:=γ.1 h
   split at h
   ·rename_i hi;obtain⟨d,hd,h⟩:=γ.1 h;obtain⟨cs,kh,h⟩:=γ.1 h
    split at h
    ·rename_i hlen;cases h
     have hlt:i.toNat<es.length:=by
      rcases φ i.toNat es.length with h'|h'
      ·exact h'
      ·rw[ν h'] at hd;cases hd
     obtain⟨a,cap,rfl,hc,h'|⟨b,off,s0,rfl,hz,iA,_,f,hv,hr⟩⟩:=mM hu
     ·subst h';simp at hlt
     ·obtain⟨hd1,hd2⟩:=iA _ d hd;have nY:=JZ kh;rw[nY,hlen] at hd2;subst hd2;refine⟨.pointer (some ((⟨b,off,none⟩:Addr).add (i.toNat*s))),?_,.im _ _ ?_⟩
      ·have:(0:Int)≤i∧i<(es.length:Int):=by omega
       simp[AT,asIntOf,aN ok ht,this,cm ok hs]
      ·rw[nF];refine .ep cs b _ (f i.toNat) hz (fun j c hj=>?_) (fun j c hj=>hr _ d j c hd (by rw[nY];exact hj));have:=hv _ d j c hd (by rw[nY];exact hj)
       rwa [←Qa0] at this
    ·cases h
   ·cases h
  ·rename_i el k aB off len sz ht;obtain⟨s,hs,h⟩:=γ.1 h
   split at h
   ·rename_i hi;obtain⟨rfl,h0,h1,hm⟩:=hi;cases h;obtain⟨a,cap,rfl,hc,hk,PO,kH⟩:=fJ hu;refine⟨.pointer (some (a.add (i.toNat*s))),by simp[AT,asIntOf,aN ok ht,h0,h1,cm ok hs],?_⟩;refine .ptr k aB _ _ hk PO fun lK=>?_;obtain⟨b,base,KJ,hb,_,h'|⟨rfl,_⟩⟩:=kH lK
    ·omega
    ·exact⟨b,base,hb,by rw[nF,Qa0]⟩
   ·cases h
  ·cases h
 ·cases h
theorem Hk (h:iH w st β Z) {lo hi:Option D} {xy j7:Option Value} (hu:VR w (st.x β Z) d u) (Cb:∀d v,lo=some d→xy=some v→VR w (st.x β Z) d v) (EX:∀d v,hi=some d→j7=some v→VR w (st.x β Z) d v) (el:lo.isSome=xy.isSome) (eh:hi.isSome=j7.isSome) (hs:fM pv t d lo hi st=some r):∃z,(OF t u xy j7 none).run P w=.ok z w∧VR w (st.x β Z) r z:=by
 unfold fM at hs
 split at hs
 ·rename_i s ht;obtain⟨⟨l,hh⟩,hb,hr⟩:=κ.1 hs;(dsimp only at hr);subst hr;rw[gK hu];have hsz:(⟨s.toArray⟩:ByteArray).size=s.length:=by simp[Pe]
  obtain⟨h1,h2,h3⟩:=lO (P:=P) (w:=w) (x:=st.x β Z) false (η _) Cb EX el eh hb;refine⟨.string ⟨((s.take hh).drop l).toArray⟩,?_,.im _ _ (.str _)⟩;simp[OF,Qad,aN ok ht,hsz,h1,wL]
 ·rename_i e ht;obtain⟨s,hsz,hs⟩:=γ.1 hs;obtain⟨⟨l,hh⟩,hb,hr⟩:=κ.1 hs;subst hr;rw[fK hu];obtain⟨h1,h2,h3⟩:=lO (P:=P) (w:=w) (x:=st.x β Z) true (η _) Cb EX el eh hb;have Cc:l=0:=by omega
  have hh0:hh=0:=by omega
  subst Cc;subst hh0;refine⟨.slice none 0 0,?_,.im _ _ .nul⟩;simp[OF,Qad,aN ok ht,h1,cm ok hsz]
 ·rename_i e es ht;obtain⟨s,hsz,hs⟩:=γ.1 hs
  split at hs
  ·rename_i V1;obtain⟨⟨l,hh⟩,hb,hr⟩:=κ.1 hs;(dsimp only at hr);subst hr;obtain⟨a,cap,rfl,hc,wJ⟩:=mM hu;obtain⟨h1,h2,h3⟩:=lO (P:=P) (w:=w) (x:=st.x β Z) true hc Cb EX el eh hb;refine⟨.slice (if cap=l then a else a.map (·.add (l*s))) (hh-l) (cap-l),by simp[OF,Qad,aN ok ht,h1,cm ok hsz],.im _ _ ?_⟩;have hlen:((es.take hh).drop l).length=hh-l:=by simp;omega
   by_cases hz0:hh-l=0
   ·have:(es.take hh).drop l=[]:=ξ.1 (by rw[hlen];exact hz0);rw[this,hz0];exact .emp _ _
   ·rw[if_neg z0]
    rcases wJ with rfl|⟨b,off,s0,rfl,hz,iA,_,f,hv,hr⟩
    ·simp at h3;omega
    ·have M0:s0=s:=by
      cases es with
      |nil=>simp at h3;omega
      |cons e0 es=>
       obtain⟨q1,q2⟩:=iA 0 e0 rfl;simp only[oQ,List.head?_cons,q1,beq_iff_eq] at V1;omega
     subst M0
     have hget:∀(i:Nat) y,((es.take hh).drop l)[i]?=some y→es[l+i]?=some y:=by
      intro i y hy;rw[Θ,Ω] at hy
      split at hy
      ·exact hy
      ·cases hy
     have:=IR.sl (w:=w) (Z:=(st.x β Z).Z) ((es.take hh).drop l) b (off+l*s0) (cap-l) s0 (fun i j=>f (l+i) j) hz (by rw[hlen];omega) (fun i y hy=>iA _ y (hget i y hy)) (fun i y j c hy hj=>by
      have:=hv _ y j c (hget i y hy) hj
      rwa [show off+((l+i)*s0+j)=off+l*s0+(i*s0+j) by rw[Ξ];omega] at this) (fun i y j c hy hj=>hr _ y j c (hget i y hy) hj)
     rw[hlen] at this
     simpa[nF] using this
  ·cases hs
 ·rename_i e k aB off len sz ht;obtain⟨s,hsz,hs⟩:=γ.1 hs
  split at hs
  ·rename_i hss;subst hss;obtain⟨⟨l,hh⟩,hb,hr⟩:=κ.1 hs;(dsimp only at hr);subst hr;obtain⟨a,cap,rfl,hc,hk,PO,kH⟩:=fJ hu;obtain⟨h1,h2,h3⟩:=lO (P:=P) (w:=w) (x:=st.x β Z) true hc Cb EX el eh hb;refine⟨.slice (some (if cap=l then a else a.add (l*s))) (hh-l) (cap-l),?_,?_⟩
   ·simp only[OF,Qad,ε,aN ok ht,δ,h1,cm ok hsz,μ]
    split<;>rfl
   ·refine .win k aB _ _ s _ _ z0 hk PO fun lK=>?_;obtain⟨b,base,KJ,eW,pI,zf⟩:=kH lK;refine⟨b,base,KJ,eW,pI,?_⟩
    by_cases hcl:cap=l
    ·left;omega
    ·right
     rcases zf with h'|⟨rfl,RN⟩
     ·omega
     ·rw[if_neg hcl,nF];refine⟨by rw[Qa0],?_⟩;have hle:l≤cap:=by omega
      have:base+(off+l*s)+(cap-l)*s=base+off+cap*s:=by
       rw[Qbo];have:=θ s hle;omega
      omega
  ·cases hs
 ·rename_i n e k aB off ht;obtain⟨s,hsz,hs⟩:=γ.1 hs;obtain⟨⟨ar,c⟩,hm,hs⟩:=γ.1 hs;dsimp only at hs
  split at hs
  ·rename_i RN;obtain⟨⟨l,hh⟩,hb,hr⟩:=κ.1 hs;(dsimp only at hr);subst hr
   cases hu with
   |im _ _ hu=>cases hu
   |ptr _ _ _ a hk PO kH=>
    obtain⟨b,base,eW,rfl⟩:=kH (dr hm).2;obtain⟨cs,el',fr,r1,r2,_⟩:=h.row hm eW;obtain⟨h1,h2,h3⟩:=lO (P:=P) (w:=w) (x:=st.x β Z) false (η n) Cb EX el eh hb;refine⟨.slice (some (if n=l then⟨b,base+off,none⟩ else(⟨b,base+off,none⟩:Addr).add (l*s))) (hh-l) (n-l),?_,?_⟩
    ·simp[OF,aN ok ht,GB,h1,cm ok hsz]
    ·refine .win k aB _ _ s _ _ z0 hk PO fun lK=>⟨b,base,cs.size,eW,by simp[cV,r1],?_⟩
     by_cases hcl:n=l
     ·left;omega
     ·right;rw[if_neg hcl,nF];refine⟨by rw[Qa0],?_⟩;have hle:l≤n:=by omega
      have:base+(off+l*s)+(n-l)*s=base+off+n*s:=by
       rw[Qbo];have:=θ s hle;omega
      omega
  ·cases hs
 ·cases hs
end
end Go.V
namespace Go.V
open Go.RowKit
theorem wrap_small {n:Int} (h0:0≤n) (h1:n≤9223372036854775807):Qa9.wrap n=n:=by
 rw[←ja];obtain⟨m,rfl⟩:=Int.eq_ofNat_of_zero_le h0;have:BY m (gh .i64)=true:=Qax (by simp[gh];omega);simp[bp,this]
theorem gz (z:List D):∀n,(fV n z).length=n*z.length
 |0=>by simp[fV]
 |n+1=>by
  have:=gz z n;simp only[fV,Qaz,Qb5,wt] at*;rw[this,Ξ];omega
theorem Az (z:List D):∀(n j:Nat),j<n*z.length→(fV n z)[j]?=z[j %z.length]?
 |0,j,h=>by simp at h
 |n+1,j,h=>by
  have ih:=Az z n;simp only[fV,Qaz,Qb5] at*;rw[Pd]
  split
  ·rename_i hj;rw[Nat.mod_eq_of_lt hj]
  ·rename_i hj;rw[Ξ] at h;rw[ih _ z0,←Nat.mod_eq_sub_mod z0]
def Quiet (w w':World):Prop:=∀b,b<w.heap.size→w'.heap[b]?=w.heap[b]?
theorem Quiet.refl (w:World):Quiet w w:=fun _ _=>rfl
theorem Quiet.push {w w':World} {o:Obj} (h:w'.heap=w.heap.push o):Quiet w w':=fun b hb=>by rw[h,Qa6,if_neg z0]
theorem tZ {w:World} {x:X} {s:Nat} {z:List D} {us:List Value} (h:LR w x z us) (n m:Nat) (hm:m≤n) (hz:us.length=s) (cells:Array Value) (hc:cells=(Qac (n*s)).map (us.toArray[·%us.toArray.size]!)):
  cells.size=n*s∧∀(j:Nat) d,(fV m z)[j]?=some d→∃u,cells[j]?=some u∧u.oneCell'=true∧VR w x d u:=by
 subst hc;refine⟨by simp,fun j d hd=>?_⟩
 have hj:j<m*z.length:=by
  rcases φ j (m*z.length) with h'|h'
  ·exact h'
  ·rw[ν (by rw[gz];exact h')] at hd;cases hd
 rw[Az z m j hj] at hd;obtain⟨u,jH,mJ,rW⟩:=h.at_ hd;have hl:=h.len
 have Df:j<n*s:=by
  have:=θ z.length hm;rw[←hz,←hl];omega
 refine⟨u,?_,mJ,rW⟩;have Is:us[j %us.length]?=some u:=by rw[←hl];exact jH
 have hlt:j %us.length<us.length:=by
  rcases φ (j %us.length) us.length with h'|h'
  ·exact h'
  ·rw[ν h'] at Is;cases Is
 rw[π hlt] at Is;simp only[ο.injEq] at Is;simp[Df,hlt,Is]
section
variable{pv:Pv} {P:Program} (ok:pv.Ok P)
include ok
omit ok in
theorem H_ {w:World} {st:St} {β:Nat→Option (Nat×Nat)} {Z:Nat→Prop} (h:iH w st β Z) {cs:List D} {v:Value} (hv:LR w (st.x β Z) cs v.cells.toList) (e:TypeId):
  ∃z w' β',((do pure (.pointer (some (←newVar e v))):Sem Value)).run P w=.ok z w'∧Nx w st β Z w' (st.push (.mem 0 false cs)) β' Z∧VR w' ((st.push (.mem 0 false cs)).x β' Z) (.ptr st.bs.length 0 0) z∧Quiet w w':=by
 obtain⟨hx,h1,h2,h3⟩:=Nx.mT (w':=w.alloc (.cells v.cells e)) h false cs v.cells e (0,0) rfl rfl rfl rfl (by rw[hv.len];simp) (tC.zero _) (fun j d hd=>by
  obtain⟨u,jH,mJ,rW⟩:=hv.at_ hd
  exact⟨u,by simpa using jH,mJ,rW⟩)
 refine⟨.pointer (some ⟨w.heap.size,0,none⟩),_,_,?_,hx,?_,Quiet.push rfl⟩
 ·simp only[newVar,newRow,ε,run_newObj,δ,μ];rfl
 ·refine .ptr _ _ _ _ ⟨_,by simp[St.x,fz];rfl⟩ (fun c hc=>?_) fun _=>⟨w.heap.size,0,by simp[St.x,fz],rfl⟩
  simp only[St.x] at hc;rw[h2] at hc;cases hc;exact η _
theorem Kd {w:World} {st:St} {β:Nat→Option (Nat×Nat)} {Z:Nat→Prop} (h:iH w st β Z) {e:Nat} {cs:List D} (hz:dc pv e=some cs):
  ∃z w' β',(Qbl e true (.tuple #[])).run P w=.ok z w'∧Nx w st β Z w' (st.push (.mem 0 false cs)) β' Z∧VR w' ((st.push (.mem 0 false cs)).x β' Z) (.ptr st.bs.length 0 0) z∧Quiet w w':=by
 obtain⟨v,hv,hc⟩:=iP ok w (st.x β Z) hz;obtain⟨z,w',β',h1,h2,h3,h4⟩:=H_ (P:=P) h hc e;refine⟨z,w',β',?_,h2,h3,h4⟩;simp only[Qbl,ε,hv,δ] at*;exact h1
theorem wP {w:World} {st ah:St} {β:Nat→Option (Nat×Nat)} {Z:Nat→Prop} (h:iH w st β Z) {t len:Nat} {parts:List (Nat×D)} {parts':List (Nat×Value)} {r:D} (hl:parts.length=parts'.length)
  (hr:∀(i:Nat) p q,parts[i]?=some p→parts'[i]?=some q→p.1=q.1∧VR w (st.x β Z) p.2 q.2) (hs:jh pv t len parts st=some (r,ah)):
  ∃z w' β',(Qb4 t len parts'.toArray).run P w=.ok z w'∧Nx w st β Z w' ah β' Z∧VR w' (ah.x β' Z) r z∧Quiet w w':=by
 unfold jh at hs
 split at hs
 ·rename_i e ht;obtain⟨s,hsz,hs⟩:=γ.1 hs;obtain⟨z,hz,hs⟩:=γ.1 hs
  split at hs
  ·rename_i tR;obtain⟨mz,vA⟩:=tR;obtain⟨cs,hf,hs⟩:=κ.1 hs;cases hs;obtain⟨v,hv,hc⟩:=iP ok w (st.x β Z) hz;have GM:v.cells.toList.length=s:=by rw[←hc.len,mz]
   have hzero:∃us:List Value,(if len*s=0 then#[] else v.cells:Array Value)=us.toArray∧((Qac (len*s)).map ((if len*s=0 then#[] else v.cells:Array Value)[·%(if len*s=0 then#[] else v.cells:Array Value).size]!)).toList.length=len*s∧
     LR w (st.x β Z) (fV len z) ((Qac (len*s)).map ((if len*s=0 then#[] else v.cells:Array Value)[·%(if len*s=0 then#[] else v.cells:Array Value).size]!)).toList:=by
    by_cases h0:len*s=0
    ·refine⟨[],by simp[h0],by simp,?_⟩;have:fV len z=[]:=ξ.1 (by rw[gz,mz];exact h0);rw[this,h0];exact⟨by simp,by simp,by simp⟩
    ·obtain⟨q1,q2⟩:=tZ hc len len (η _) GM _ rfl;simp only[h0,if_false];have e1:v.cells.toList.toArray=v.cells:=by simp
     rw[e1] at q1 q2;refine⟨v.cells.toList,by simp,by simp,⟨by rw[gz,mz];simp,fun u hu=>?_,fun i c u Dk hu=>?_⟩⟩
     ·obtain⟨j,hj⟩:=Qa5 hu
      have nX:j<len*s:=by
       rcases φ j (len*s) with h'|h'
       ·exact h'
       ·rw[ν (by simpa using h')] at hj;cases hj
      obtain⟨u',jH,mJ,_⟩:=q2 j _ (π (by rw[gz,mz];exact nX));rw[Qa2] at hj;rw[hj] at jH;cases jH;exact mJ
     ·obtain⟨u',jH,_,rW⟩:=q2 i c Dk;rw[Qa2] at hu;rw[hu] at jH;cases jH;exact rW
   obtain⟨us,TN,_,rX⟩:=hzero;obtain⟨rs,f1,f2⟩:=zn (l8:=fun i=>some (i*s,s)) (fun _ _ e=>e) parts parts' hl hr rX hf
   have hcl:cs.length=len*s:=by
    have mi:∀(ps:List (Nat×D)) (a b:List D),jz (fun i=>some (i*s,s)) a ps=some b→b.length=a.length:=by
     intro ps
     induction ps with
     |nil=>intro a b e;simp[jz] at e;rw[e]
     |cons p ps ih=>
      intro a b e;obtain⟨pi,pd⟩:=p;simp only[jz] at e
      split at e
      ·split at e
       ·cases e
       ·rw[ih _ _ e,eu]
      ·cases e
    rw[mi _ _ _ hf,gz,mz]
   obtain⟨hx,x1,x2,x3⟩:=Nx.mT (w':=w.alloc (.cells rs.toArray e)) h true cs rs.toArray e (0,0) rfl rfl rfl rfl (by rw[f2.len];simp) (tC.zero _) (fun j d hd=>by
    obtain⟨u,jH,mJ,rW⟩:=f2.at_ hd
    exact⟨u,by simpa using jH,mJ,rW⟩)
   refine⟨.slice (some ⟨w.heap.size,0,none⟩) len len,_,_,?_,hx,nJ x2 x3 x1 (η _) (by simp only[Qaa];rw[←f2.len,hcl];exact η _),Quiet.push rfl⟩;have RV:¬len*s>2^24:=by omega
   simp only[Qb4,ε,aN ok ht,δ,cm ok hsz,Qbq,if_neg RV,μ]
   by_cases h0:len*s=0
   ·simp only[h0,if_true] at f1⊢;simp only[Qaq] at f1;rw[f1];simp only[newRow,ε,run_newObj,δ,μ];rfl
   ·simp only[h0,if_false,δ,hv] at f1⊢;simp only[Qaq] at f1;rw[f1];simp only[newRow,ε,run_newObj,δ,μ];rfl
  ·cases hs
 ·cases hs
theorem yV {w:World} {st ah:St} {β:Nat→Option (Nat×Nat)} {Z:Nat→Prop} (h:iH w st β Z) {t:Nat} {l c r:D} {u v:Value} (hu:VR w (st.x β Z) l u) (hv:VR w (st.x β Z) c v) (hs:gR pv t l c st=some (r,ah)):
  ∃z w' β',(Qba t u v).run P w=.ok z w'∧Nx w st β Z w' ah β' Z∧VR w' (ah.x β' Z) r z∧Quiet w w':=by
 unfold gR at hs
 split at hs
 ·rename_i e k l k' c ht;obtain⟨i,hi,hs⟩:=γ.1 hs;obtain⟨z,hz,hs⟩:=γ.1 hs
  split at hs
  ·rename_i tR;obtain⟨mz,Cc,hlc,hcb,ni⟩:=tR;cases hs;rw[cZ hu,cZ hv];obtain⟨zv,QB,NV⟩:=iP ok w (st.x β Z) hz;have GM:zv.cells.toList.length=i.size:=by rw[←NV.len,mz]
   have NY:Qa9.wrap l=l:=wrap_small Cc z0;have hwc:Qa9.wrap c=c:=wrap_small z0 hcb
   have gV:∃cells:Array Value,cells=(Qac (c.toNat*i.size)).map ((if c.toNat*i.size=0 then#[] else zv.cells:Array Value)[·%(if c.toNat*i.size=0 then#[] else zv.cells:Array Value).size]!)∧cells.size=c.toNat*i.size∧
     ∀(j:Nat) d,(fV l.toNat z)[j]?=some d→∃u,cells[j]?=some u∧u.oneCell'=true∧VR w (st.x β Z) d u:=by
    refine⟨_,rfl,by simp,?_⟩
    by_cases h0:c.toNat*i.size=0
    ·intro j d hd
     have:fV l.toNat z=[]:=ξ.1 (by
      rw[gz,mz];have:=θ i.size (show l.toNat≤c.toNat by omega)
      omega)
     rw[this] at hd;simp at hd
    ·simp only[h0,if_false];have:=(tZ NV c.toNat l.toNat z0 GM _ rfl).2
     simpa using this
   obtain⟨cells,dW,hsz,hrel⟩:=gV
   have hlen:(fV l.toNat z).length≤cells.size:=by
    rw[gz,mz,hsz];exact θ _ z0
   obtain⟨hx,x1,x2,x3⟩:=Nx.mT (w':=w.alloc (.cells cells e)) h true (fV l.toNat z) cells e (0,0) rfl rfl rfl rfl hlen (tC.zero _) hrel;refine⟨.slice (some ⟨w.heap.size,0,none⟩) l.toNat c.toNat,_,_,?_,hx,nJ x2 x3 x1 z0 (by rw[hsz];exact η _),Quiet.push rfl⟩
   have Ls:(decide (c<0)||decide ((i.bytes:Int)*c>2^48))=false:=by
    have:¬c<0:=by omega
    have h2:(i.bytes:Int)*c=c*i.bytes:=Int.mul_comm _ _;simp only[this,decide_false,Bool.false_or,decide_eq_false_iff_not,h2];omega
   have za:¬l<0:=by omega
   have oZ:¬l>c:=by omega
   simp only[Qba,ε,aN ok ht,δ,asInt,asIntOf,μ,pj ok hi,NY,hwc,Ls,za,oZ,decide_false,Bool.or_self,Γ,or_self,if_false,Qbq,run_askRoom,cm ok (lV hi)]
   by_cases h0:c.toNat*i.size=0
   ·simp only[h0,if_true] at dW⊢;simp only[newRow,ε,run_newObj,δ,μ,dW];rfl
   ·simp only[h0,if_false,δ,QB] at dW⊢;simp only[newRow,ε,run_newObj,δ,μ,dW];rfl
  ·cases hs
 ·cases hs
end
end Go.V
