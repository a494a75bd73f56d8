/-
 V: an evaluator of the model's code over pure values, and its soundness; no program in sight, no conditions.
-/
import GoSem.Step
import Derived.WalkKit
import Derived.WalkLawsBesides
import Derived.Laws.StructEq
import Derived.Laws.Slices
import Derived.Laws.Concat
set_option linter.unusedSimpArgs false
set_option linter.unusedVariables false
set_option linter.unusedSectionVars false
set_option linter.unnecessarySimpa false
open Option renaming bind_eq_some_iff→γ,map_eq_some_iff→κ,some→ο,bind_some→IS,map_some→Qae
open Go.Result renaming andThen_ok→δ
open Go.Sem renaming run_bind→ε,run_pure→μ,run_ite→Qax
open Array renaming getElem?_setIfInBounds_self_of_lt→ζ,getElem?_setIfInBounds_ne→ρ,getElem?_toList→VQ,getElem?_push→Bv,ext_getElem?→BY,range→IT,size_setIfInBounds→R3,getElem?_eq_none→cg,toArray_toList→hD,size_push→Qaf,ext'→Qau
open Nat renaming le_refl→η,mul_le_mul_right→θ,lt_or_ge→φ,beq→χ,add_mul→Ξ,le_trans→Φ,ble→ZD,add_zero→wt,add_assoc→ki,le_antisymm→R2,eq_of_mul_eq_mul_left→bU,sub_self→Qa0,zero_add→Qa1,ble_eq_true_of_le→Qa4,lt_of_lt_of_le→Qad,min_eq_left→Qar,sub_mul→Qav,zero_le→Qaw,min→Qb0
open Go.Builtin renaming firstCells→ι,append_→Ψ,nextslicecap→Zn,lenOf→VT,zeroCells→Cf,copy_→Pd,growBy→Qaa
open List renaming getElem?_eq_none→ν,length_eq_zero_iff→ξ,getElem?_eq_getElem→π,getElem?_set_ne→ς,getElem?_cons_succ→τ,length_cons→υ,getElem?_append_left→ψ,getElem?_drop→Θ,getElem?_take→Ω,length_append→Q5,getElem?_cons_zero→Wh,getElem?_toArray→Zt,getElem?_append→YH,getElem?_set_self→Ut,length_nil→VM,getElem?_of_mem→GB,size_toArray→IN,extract_eq_take_drop→AI,mem_of_getElem?→Qa2,mem_of_mem_take→Qa3,replicate_succ→Qa6,flatten_cons→Qac,length_take→Qai,take_length→Qaj,foldl_cons→Qal,length_set→Qam,drop_take→Qap,replicate→Qaq
open Go.Op renaming equalIn→ω,bytesLess→OF,equal→P8,eqFields→Qa8,stringOp→Qa9,intBits→Qay
open Bool renaming false_eq_true→Γ,and_eq_true→Qag,not_false→Qan
open Decidable renaming not_not→Δ
open Go.Instr renaming sureAddr→Z5,sliceAt→Y',indexAt→xw,sliceBound→v8,slice→LL,fieldAt→AN,build→lx,index→tn,fill→Qa5,sliceBounds→Qa7,buildSlice→Qab,makeSlice→Qah,storeAt→Qao,alloc→Qas,field→Qat
open Go.ByteArray renaming toList_eq→YQ
open ByteArray renaming size→JS,data_extract→Pe,ext→Qaz
open Go.IntKind renaming i64→Cr,signed→PR,bits→AT,wrap→Qak
namespace Go.V
inductive D where
 |bool (b:Bool)
 |int (k:IntKind) (n:Int)
 |str (s:List UInt8)
 |nul
 |sl (es:List D)
 |win (k aE off len s:Nat)
 |pnil
 |ptr (k aE off:Nat)
 |mp (k:Nat)
 |ep (cells:List D)
 |fn (f:Nat) (mU:List D)
 |nilfn
 |agg (cs:List D)
 |tup (ds:List D)
 |nilif
 |bI
 deriving Inhabited
inductive lu where
 |mem (aE:Nat) (arr:Bool) (cells:List D)
 |iter (s:List UInt8) (pos:Nat)
 |map (es:List (D×D))
 |dead
 deriving Inhabited
structure St where
 bs:List lu
 flr:Nat
 ro:Nat
structure Fr where
 n:Nat
 loc:List D
 tmp:List (Nat×D)
def look (t:Nat):List (Nat×D)→D
 |[]=>.bI
 |(u,d)::l=>match χ t u with
  |true=>d
  |false=>look t l
def nth (d:D):List D→Nat→D
 |[],_=>d
 |x::_,0=>x
 |_::l,i+1=>nth d l i
def Fr.get (f:Fr) (t:Nat):D:=
 match ZD f.n t with
 |false=>nth .bI f.loc t
 |true=>look t f.tmp
def Fr.put (f:Fr) (t:Nat) (d:D):Fr:=
 match ZD f.n t with
 |false=>⟨f.n,f.loc.set t d,f.tmp⟩
 |true=>⟨f.n,f.loc,(t,d)::f.tmp⟩
def Fr.eH (f:Fr) (t:Option Nat) (d:D):Fr:=
 match t with
 |some t=>f.put t d
 |none=>f
def Fr.clean (f:Fr):Fr:=⟨f.n,f.loc,[]⟩
def D.cells?:D→Option (List D)
 | .agg cs=>some cs
 | .tup _=>none
 | .bI=>none
 |d=>some [d]
def D.cells:D→List D
 | .agg cs=>cs
 |d=>[d]
def xx:Value→D
 | .bool b=>.bool b
 | .int k n=>.int k n
 | .string s=>.str s.data.toList
 | .slice none 0 0=>.nul
 | .pointer none=>.pnil
 | .nilFunc=>.nilfn
 | .nilIface=>.nilif
 |_=>.bI
def Ja:Value→Bool
 | .agg _| .tuple _=>false
 |_=>true
def qz:List Value→Option (List D)
 |[]=>some []
 |v::l=>match Ja v with
  |true=>match qz l with
   |some r=>some (xx v::r)
   |none=>none
  |false=>none
def jw:Value→D
 | .agg cs=>match qz cs.toList with
  |some l=>.agg l
  |none=>.bI
 |v=>xx v
def Fr.ev (f:Fr):Operand→D
 | .tmp t=>f.get t
 | .const v=>jw v
 | .func g=>.fn g []
 | .global _=>.bI
mutual
def D.ref:D→Nat
 | .win k _ _ _ _=>k+1
 | .ptr k _ _=>k+1
 | .mp k=>k+1
 | .fn _ cs=>refs cs
 | .agg cs=>refs cs
 | .tup ds=>refs ds
 |_=>0
def refs:List D→Nat
 |[]=>0
 |d::ds=>max d.ref (refs ds)
end
def St.ib (st:St) (k aE:Nat):Option (Bool×List D):=
 match st.bs[k]? with
 |some (.mem v a c)=>if v=aE then some (a,c) else none
 |_=>none
def lu.cells:lu→List D
 | .mem _ _ c=>c
 |_=>[]
def St.Bs (st:St) (k:Nat):Nat:=
 match st.bs[k]? with
 |some b=>refs b.cells
 |none=>0
def St.ku (st:St) (k r:Nat):Bool:=decide (st.ro≤k) &&(decide (st.flr≤k)||(decide (r≤k+1)||decide (r≤st.Bs k)))
def setMany (c:List D) (off:Nat):List D→List D
 |[]=>c
 |x::xs=>setMany (c.set off x) (off+1) xs
def St.wr (st:St) (k aE off:Nat) (cs:List D):Option St:=
 match st.ib k aE with
 |some (a,c)=>if off+cs.length≤c.length∧st.ku k (refs cs)=true then some {st with bs:=st.bs.set k (.mem aE a (setMany c off cs))} else none
 |none=>none
def St.push (st:St) (b:lu):St:={st with bs:=st.bs++[b]}
inductive Mode where
 |ro|rw|cw|nw
abbrev gO:=Nat→List D→St→Option (D×St)
structure Fi where
 fn:Func
 nloc:Nat
 mode:Mode
 knul:Bool
 fz:Option (List D→St→Option (D×St)):=none
 dyn:List (Nat×List (Nat×Nat)):=[]
inductive Tr (α:Type) where
 |leaf (a:α)
 |node (k:Nat) (l r:Tr α)
def Tr.get {α:Type} (t:Nat):Tr α→α
 | .leaf a=>a
 | .node k l r=>match ZD k t with
  |false=>l.get t
  |true=>r.get t
structure Pv where
 ty:Tr TypeInfo
 nty:Nat
 fs:Tr Fi
 nfs:Nat
 eqb:List Nat
 prm:List (Nat×(List D→St→Option (D×St))):=[]
def pf (f:Nat):List (Nat×(List D→St→Option (D×St)))→Option (List D→St→Option (D×St))
 |[]=>none
 |(g,p)::l=>match χ f g with
  |true=>some p
  |false=>pf f l
def Pv.info (P:Pv) (t:Nat):Option TypeInfo:=
 match ZD P.nty t with
 |false=>some (P.ty.get t)
 |true=>none
def Pv.db (P:Pv) (t:Nat):Option TypeDesc:=
 match P.info t with
 |some i=>match i.desc with
  | .named _ u=>match P.info u with
   |some j=>some j.desc
   |none=>none
  |d=>some d
 |none=>none
def Pv.fi (P:Pv) (f:Nat):Option Fi:=
 match ZD P.nfs f with
 |false=>some (P.fs.get f)
 |true=>none
def ic:IntKind→Nat
 | .i8=>127| .i16=>32767| .i32=>2147483647| .i64=>9223372036854775807
 | .u8=>255| .u16=>65535| .u32=>4294967295| .u64=>18446744073709551615
def BG:IntKind→Nat
 | .i8=>128| .i16=>32768| .i32=>2147483648| .i64=>9223372036854775808
 |_=>0
def bJ (k:IntKind) (n:Int):Int:=
 match n with
 | .ofNat m=>match ZD m (ic k) with
  |true=>.ofNat m
  |false=>k.wrap (.ofNat m)
 | .negSucc m=>match ZD (BG k) m with
  |false=>.negSucc m
  |true=>k.wrap (.negSucc m)
section
variable(P:Pv)
def c9 (t:TypeId):Option Nat:=
 match P.info t with
 |some i=>some i.size
 |none=>none
def fx (t:TypeId) (c:List D):Option D:=
 match P.db t with
 |none=>none
 |some (.struct _)|some (.array _ _)=>(c9 P t).bind fun n=>if n≤c.length then some (.agg (c.take n)) else none
 |some _=>c.head?
def j6 (t:TypeId) (d:D) (st:St):Option D:=
 match d with
 | .ptr k aE off=>(st.ib k aE).bind fun(_,c)=>fx P t (c.drop off)
 | .ep c=>fx P t c
 |_=>none
def mK (t:TypeId) (a v:D) (st:St):Option St:=
 match a,v.cells? with
 | .ptr k aE off,some cs=>if c9 P t=some cs.length then st.wr k aE off cs else none
 |_,_=>none
def zx (t:TypeId):Option D:=(P.info t).bind fun i=>i.zero.map jw
def ec (t:TypeId):Option (List D):=
 match zx P t with
 |some z=>z.cells?
 |none=>none
def vl (t:TypeId) (cs:List D) (off:Nat):Option D:=
 match P.db t with
 |none=>none
 |some (.struct _)|some (.array _ _)=>(c9 P t).bind fun n=>if off+n≤cs.length then some (.agg ((cs.drop off).take n)) else none
 |some _=>cs[off]?
def lj (place:Nat→Option (Nat×Nat)) (cells:List D):List (Nat×D)→Option (List D)
 |[]=>some cells
 |(i,v)::rest=>
  match place i,v.cells? with
  |some (off,size),some cs=>if cs.length≠size∨off+cs.length>cells.length then none else lj place (setMany cells off cs) rest
  |_,_=>none
def qk:List Field→Option (List (Nat×Nat))
 |[]=>some []
 |f::fs=>match c9 P f.type with
  |some s=>match qk fs with
   |some r=>some ((f.offset,s)::r)
   |none=>none
  |none=>none
def Cq (t:TypeId) (parts:List (Nat×D)):Option D:=
 match ec P t with
 |some z=>match P.db t with
  |some (.struct fields)=>match qk P fields.toList with
   |some ps=>(lj (fun i=>ps[i]?) z parts).map .agg
   |none=>none
  |some (.array _ e)=>match c9 P e with
   |some s=>(lj (fun i=>some (i*s,s)) z parts).map .agg
   |none=>none
  |_=>none
 |none=>none
def fV (n:Nat) (z:List D):List D:=(Qaq n z).flatten
def kP (t:TypeId) (len:Nat) (parts:List (Nat×D)) (st:St):Option (D×St):=
 match P.db t with
 |some (.slice e)=>(c9 P e).bind fun s=>(ec P e).bind fun z=>
   if z.length=s∧len*s≤16777216 then
    (lj (fun i=>some (i*s,s)) (fV len z) parts).map fun cs=>(.win st.bs.length 0 0 len s,st.push (.mem 0 true cs))
   else none
 |_=>none
def GR (op:BinOp) (a b:Int):Option D:=
 match op with
 | .eql=>some (.bool (a==b))
 | .neq=>some (.bool (a !=b))
 | .lss=>some (.bool (a<b))
 | .leq=>some (.bool (a≤b))
 | .gtr=>some (.bool (a>b))
 | .geq=>some (.bool (a≥b))
 |_=>none
def Io (op:BinOp) (k:IntKind) (x y:Int):Option D:=
 let a:=BitVec.ofInt k.bits x
 let b:=BitVec.ofInt k.bits y
 let back (r:BitVec k.bits):Option D:=some (.int k (bJ k r.toNat))
 match op with
 | .and=>back (a &&&b)
 | .or=>back (a|||b)
 | .xor=>back (a^^^b)
 | .andNot=>back (a &&&~~~b)
 |_=>none
def zi (op:BinOp) (k:IntKind) (a b:Int):Option D:=
 match op with
 | .add=>some (.int k (bJ k (a+b)))
 | .sub=>some (.int k (bJ k (a-b)))
 | .mul=>some (.int k (bJ k (a*b)))
 | .quo=>if b=0 then none else some (.int k (bJ k (a.tdiv b)))
 | .rem=>if b=0 then none else some (.int k (a.tmod b))
 | .and| .or| .xor| .andNot=>Io op k a b
 |_=>GR op a b
def Fo (op:BinOp) (k:IntKind) (x y:Int):Option D:=
 if y<0 then none
 else match op with
  | .shl=>some (.int k (bJ k (x*2^(min y.toNat k.bits))))
  | .shr=>some (.int k (x.fdiv (2^(min y.toNat k.bits))))
  |_=>none
def Ow (op:BinOp) (a b:List UInt8):Option D:=
 match op with
 | .add=>if a.length+b.length≤9223372036854775807 then some (.str (a++b)) else none
 | .eql=>some (.bool (a==b))
 | .neq=>some (.bool !(a==b))
 | .lss=>some (.bool (OF a b))
 | .leq=>some (.bool (OF a b||a==b))
 | .gtr=>some (.bool !(OF a b||a==b))
 | .geq=>some (.bool !(OF a b))
 |_=>none
mutual
def P6:Nat→TypeId→D→D→Option Bool
 |0,_,_,_=>none
 |d+1,t,x,y=>
  match P.db t,x,y with
  |some .bool,.bool a,.bool b=>some (a==b)
  |some (.int _),.int k a,.int k' b=>if k=k' then some (a==b) else none
  |some .string,.str a,.str b=>some (a==b)
  |some (.pointer _),.pnil,.pnil=>some true
  |some (.pointer _),.pnil,.ptr _ _ _=>some false
  |some (.pointer _),.ptr _ _ _,.pnil=>some false
  |some (.slice _),.nul,.nul=>some true
  |some (.slice _),.win _ _ _ _ _,.nul=>some false
  |some (.slice _),.sl (_::_),.nul=>some false
  |some (.struct fields),.agg xs,.agg ys=>if P.eqb.contains t then eqFields d xs ys fields.toList else none
  |some (.array len e),.agg xs,.agg ys=>(c9 P e).bind fun n=>qK d e n xs ys len 0
  |_,_,_=>none
def eqFields:Nat→List D→List D→List Field→Option Bool
 |0,_,_,_=>none
 |_+1,_,_,[]=>some true
 |d+1,xs,ys,f::fs=>
  if f.name= "_" then eqFields d xs ys fs else
  match vl P f.type xs f.offset,vl P f.type ys f.offset with
  |some x,some y=>match P6 d f.type x y with
   |some true=>eqFields d xs ys fs
   |some false=>some false
   |none=>none
  |_,_=>none
def qK:Nat→TypeId→Nat→List D→List D→Nat→Nat→Option Bool
 |0,_,_,_,_,_,_=>none
 |_+1,_,_,_,_,0,_=>some true
 |d+1,e,n,xs,ys,left+1,i=>
  match vl P e xs (i*n),vl P e ys (i*n) with
  |some x,some y=>match P6 d e x y with
   |some true=>qK d e n xs ys left (i+1)
   |some false=>some false
   |none=>none
  |_,_=>none
end
def yB:Nat:=64
def Tt:D→Bool
 | .agg _=>true
 |_=>false
def equalD (t:TypeId) (x y:D):Option Bool:=
 if Tt x &&!P.eqb.contains t then none else P6 P yB t x y
def fw (op:BinOp) (t:TypeId) (x y:D):Option D:=
 match x,y with
 | .int k a,.int k' b=>match op with
  | .shl| .shr=>Fo op k a b
  |_=>if k=k' then zi op k a b else none
 | .str a,.str b=>Ow op a b
 |x,y=>match op with
  | .eql=>(equalD P t x y).map .bool
  | .neq=>(equalD P t x y).map fun b=>.bool !b
  |_=>none
def Yl (op:UnOp) (x:D):Option D:=
 match op,x with
 | .neg,.int k n=>some (.int k (bJ k (0-n)))
 | .xor,.int k n=>Io .xor k (if k.signed then-1 else k.max) n
 | .not,.bool b=>some (.bool !b)
 |_,_=>none
def su (st:St):D→Option (Nat×List D)
 | .sl es=>some (es.length,es.flatMap D.cells)
 | .nul=>some (0,[])
 | .win k aE off len s=>(st.ib k aE).bind fun(_,c)=>if off+len*s≤c.length then some (len,(c.drop off).take (len*s)) else none
 | .str b=>some (b.length,b.map fun x=>.int .u8 x.toNat)
 |_=>none
def oy:List D→Option (List UInt8)
 |[]=>some []
 | .int .u8 n::l=>(oy l).map fun r=>UInt8.ofNat n.toNat::r
 |_=>none
def j8 (src dst:TypeId) (x:D) (st:St):Option (D×St):=
 match P.db src,P.db dst,x with
 |some _,some (.int k),.int _ n=>some (.int k (bJ k n),st)
 |some _,some .string,.int _ n=>some (.str (Utf8.encode n).data.toList,st)
 |some _,some .string,.str s=>some (.str s,st)
 |some _,some (.slice e),.str s=>
  match P.db e with
  |some (.int .u8)=>if s.length<1099511627776 then some (.win st.bs.length 0 0 s.length 1,st.push (.mem 0 true (s.map fun x=>.int .u8 x.toNat))) else none
  |_=>none
 |some (.slice _),some (.slice e),.win k aE off len sz=>
  match P.db e,st.ib k aE with
  |some (.int .u8),some _=>if χ src dst=true∧0<len∧st.ku k 0=true then some (.win k aE off len sz,st) else none
  |_,_=>none
 |some (.slice e),some .string,x=>
  match P.db e,su st x with
  |some (.int .u8),some (n,cs)=>match x with
   | .str _=>none
   |_=>if cs.length=n then(oy cs).map fun b=>(.str b,st) else none
  |_,_=>none
 |_,_,_=>none
def DP:D→Option Nat
 | .sl es=>some es.length
 | .nul=>some 0
 | .win _ _ _ len _=>some len
 | .str s=>some s.length
 |_=>none
def gD:TypeDesc→Bool
 | .int _=>true
 |_=>false
def jV (argTypes:List TypeId) (s x:D) (st:St):Option (D×St):=
 match argTypes with
 |sT::xT::_=>
  match P.db sT,P.db xT with
  |some (.slice e),some xd=>if gD xd=true then none else
   (P.info e).bind fun i=>(ec P e).bind fun z=>(su st x).bind fun(n,ys)=>
   if ys.length≠n*i.size∨i.bytes=0∨z.length≠i.size then none else
   match s with
   | .nul=>if n=0 then some (.nul,st)
     else if n*i.bytes≤1099511627776 then some (.win st.bs.length 0 0 n i.size,st.push (.mem 0 true ys)) else none
   | .win k aE off len sz=>
    match st.ib k aE with
    |some (true,c)=>if sz≠i.size∨c.length<off+len*sz then none
      else if n=0 then some (.win k aE off len sz,st)
      else if(len+n)*i.bytes≤1099511627776∧st.ku k (refs ys)=true then
       some (.win k (aE+1) 0 (len+n) sz,{st with bs:=st.bs.set k (.mem (aE+1) true ((c.take (off+len*sz)).drop off++ys))})
      else none
    |_=>none
   |_=>none
  |_,_=>none
 |_=>none
def AY (argTypes:List TypeId) (d x:D) (st:St):Option (D×St):=
 match argTypes with
 |dT::_=>
  match P.db dT with
  |some (.slice e)=>(c9 P e).bind fun s=>(su st x).bind fun(m,ys)=>
   if ys.length≠m*s then none else
   match d with
   | .win k aE off len sz=>if sz≠s then none else(st.wr k aE off (ys.take (min m len*s))).map fun ai=>(.int .i64 (min m len:Nat),ai)
   | .nul=>some (.int .i64 0,st)
   |_=>none
  |_=>none
 |_=>none
def pJ (argTypes:List TypeId) (d:D) (st:St):Option (D×St):=
 match argTypes with
 |dT::_=>
  match P.db dT with
  |some (.slice e)=>
   match d with
   | .nul=>some (.tup [],st)
   | .win k aE off len sz=>(ec P e).bind fun z=>if z.length=sz then(st.wr k aE off (fV len z)).map fun ai=>(.tup [],ai) else none
   |_=>none
  |_=>none
 |_=>none
def Ag (vx:Bool):D→D→Option D
 | .int k x,.int _ y=>some (.int k (if vx then(if y<x then y else x) else(if y>x then y else x)))
 |_,_=>none
def vC (f:D→D→Option D):D→List D→Option D
 |x,[]=>some x
 |x,y::l=>(f x y).bind fun z=>vC f z l
def bW (b:Builtin) (argTypes:List TypeId) (args:List D) (st:St):Option (D×St):=
 match b,args with
 | .len,[x]=>match argTypes with
  |t::_=>match P.db t with
   |some .string=>match x with
    | .str s=>some (.int .i64 s.length,st)
    |_=>none
   |some (.slice _)=>match x with
    | .str _=>none
    |x=>match DP x with
     |some n=>some (.int .i64 (Int.ofNat n),st)
     |none=>none
   |some (.array n _)=>some (.int .i64 n,st)
   |_=>none
  |_=>none
 | .append,[s,x]=>jV P argTypes s x st
 | .copy,[d,x]=>AY P argTypes d x st
 | .clear,[d]=>pJ P argTypes d st
 | .min,x::l=>(vC (Ag true) x l).map fun d=>(d,st)
 | .max,x::l=>(vC (Ag false) x l).map fun d=>(d,st)
 |_,_=>none
def jf (t:TypeId) (l c:D) (st:St):Option (D×St):=
 match P.db t,l,c with
 |some (.slice e),.int _ l,.int _ c=>(P.info e).bind fun i=>(ec P e).bind fun z=>
   if z.length=i.size∧0≤l∧l≤c∧c≤9223372036854775807∧c*(i.bytes:Int)≤140737488355328 then
    some (.win st.bs.length 0 0 l.toNat i.size,st.push (.mem 0 true (fV l.toNat z)))
   else none
 |_,_,_=>none
def ky (x:D) (y:Nat):Option Nat:=
 match x with
 | .int _ i=>if 0≤i∧i≤(y:Int) then some i.toNat else none
 |_=>none
def gW (y ace:Nat):Option D→Option Nat
 |some v=>ky v y
 |none=>some ace
def cF (len:Nat) (lo hi:Option D):Option (Nat×Nat):=
 (gW len len hi).bind fun h=>(gW h 0 lo).map fun l=>(l,h)
def rR (s:Nat) (es:List D):Bool:=
 match es.head? with
 |none=>true
 |some e=>match e.cells? with
  |some cs=>cs.length==s
  |none=>false
def fM (t:TypeId) (x:D) (lo hi:Option D) (st:St):Option D:=
 match P.db t,x with
 |some .string,.str s=>(cF s.length lo hi).map fun(l,h)=>.str ((s.take h).drop l)
 |some (.slice e),.nul=>(c9 P e).bind fun _=>(cF 0 lo hi).map fun _=>.nul
 |some (.slice e),.sl es=>(c9 P e).bind fun s=>if rR s es then(cF es.length lo hi).map fun(l,h)=>.sl ((es.take h).drop l) else none
 |some (.slice e),.win k aE off len sz=>(c9 P e).bind fun s=>if s=sz then(cF len lo hi).map fun(l,h)=>.win k aE (off+l*sz) (h-l) sz else none
 |some (.array n e),.ptr k aE off=>(c9 P e).bind fun s=>(st.ib k aE).bind fun(_,c)=>
   if off+n*s≤c.length then(cF n lo hi).map fun(l,h)=>.win k aE (off+l*s) (h-l) s else none
 |_,_=>none
def gZ (t:TypeId) (x:D) (i:Nat):Option D:=
 match P.db t with
 |some (.struct fields)=>(fields[i]?).bind fun f=>if c9 P f.type=some 0 then none else(c9 P f.type).bind fun _=>
   match x with
   | .ptr k aE off=>some (.ptr k aE (off+f.offset))
   | .ep c=>some (.ep (c.drop f.offset))
   |_=>none
 |_=>none
def Gz (t:TypeId) (x:D) (i:Nat):Option D:=
 match P.db t,x with
 |some (.struct fields),.agg cs=>(fields[i]?).bind fun f=>vl P f.type cs f.offset
 |_,_=>none
def cJ (t:TypeId) (x ix:D) (st:St):Option D:=
 match ix with
 | .int _ i=>
  match P.db t,x with
  |some (.array len e),.ptr k aE off=>(c9 P e).bind fun s=>if 0≤i∧i<len then some (.ptr k aE (off+i.toNat*s)) else none
  |some (.array len e),.ep c=>(c9 P e).bind fun s=>if 0≤i∧i<len then some (.ep (c.drop (i.toNat*s))) else none
  |some (.slice e),.sl es=>(c9 P e).bind fun s=>if 0≤i then(es[i.toNat]?).bind fun d=>d.cells?.bind fun cs=>if cs.length=s then some (.ep cs) else none else none
  |some (.slice e),.win k aE off len sz=>(c9 P e).bind fun s=>if s=sz∧0≤i∧i<len∧(st.ib k aE).isSome=true then some (.ptr k aE (off+i.toNat*sz)) else none
  |_,_=>none
 |_=>none
def x_ (t:TypeId) (x ix:D):Option D:=
 match ix with
 | .int _ i=>
  match P.db t,x with
  |some (.array len e),.agg cs=>(c9 P e).bind fun s=>if 0≤i∧i<len then vl P e cs (i.toNat*s) else none
  |some .string,.str s=>if 0≤i then(s[i.toNat]?).map fun b=>.int .u8 b.toNat else none
  |_,_=>none
 |_=>none
def jJ (kk:IntKind) (n:Int):List (D×D)→Nat→Option (Option (Nat×D))
 |[],_=>some none
 |(.int k' m,v)::l,i=>if kk=k' then(if n==m then some (some (i,v)) else jJ kk n l (i+1)) else none
 |_::_,_=>none
def sI (t:TypeId) (r:Option D) (st:St):Option (D×St):=
 match r with
 |none=>some (.mp st.bs.length,st.push (.map []))
 |some (.int _ _)=>match P.db t with
  |some (.map _ _)=>some (.mp st.bs.length,st.push (.map []))
  |_=>none
 |_=>none
def mw (t:TypeId) (m key v:D) (st:St):Option St:=
 match P.db t,m,key,v with
 |some (.map kt _),.mp k,.int kk n,.int vk x=>match P.db kt,st.bs[k]? with
  |some (.int _),some (.map es)=>match st.ku k 0 with
   |true=>match jJ kk n es 0 with
    |some (some (i,_))=>some {st with bs:=st.bs.set k (.map (es.set i (.int kk n,.int vk x)))}
    |some none=>some {st with bs:=st.bs.set k (.map (es++[(.int kk n,.int vk x)]))}
    |none=>none
   |false=>none
  |_,_=>none
 |_,_,_,_=>none
def sJ (t:TypeId) (m key:D) (st:St):Option D:=
 match P.db t,m,key with
 |some (.map kt e),.mp k,.int kk n=>match P.db kt,st.bs[k]? with
  |some (.int _),some (.map es)=>match jJ kk n es 0 with
   |some (some (_,v))=>some v
   |some none=>zx P e
   |none=>none
  |_,_=>none
 |_,_,_=>none
def Bt (t:TypeId) (x:D) (st:St):Option (D×St):=
 match P.db t,x with
 |some .string,.str s=>some (.ptr st.bs.length 0 0,st.push (.iter s 0))
 |_,_=>none
def Ad (x:D) (isString:Bool) (st:St):Option (D×St):=
 match x,isString with
 | .ptr k 0 0,true=>
  match st.bs[k]? with
  |some (.iter s pos)=>
   if pos<s.length then
    if st.ku k 0 then
     let r:=Utf8.decode ⟨s.toArray⟩ pos
     some (.tup [.bool true,.int .i64 pos,.int .i32 r.1],{st with bs:=st.bs.set k (.iter s (pos+r.2))})
    else none
   else some (.tup [.bool false],st)
  |_=>none
 |_,_=>none
def eS (fr:Fr) (st:St) (op:Op) (acy:TypeId):Option (D×St):=
 match op with
 | .move x| .assign x=>some (fr.ev x,st)
 | .pick c a b=>match fr.ev c with
  | .bool true=>some (fr.ev a,st)
  | .bool false=>some (fr.ev b,st)
  |_=>none
 | .alloc e=>(ec P e).map fun cs=>(.ptr st.bs.length 0 0,st.push (.mem 0 false cs))
 | .box _ x=>(fr.ev x).cells?.map fun cs=>(.ptr st.bs.length 0 0,st.push (.mem 0 false cs))
 | .build t parts=>(Cq P t (parts.toList.map fun p=>(p.1,fr.ev p.2))).map fun d=>(d,st)
 | .buildSlice t len parts=>kP P t len (parts.toList.map fun p=>(p.1,fr.ev p.2)) st
 | .load t a=>(j6 P t (fr.ev a) st).map fun d=>(d,st)
 | .store t a x=>(mK P t (fr.ev a) (fr.ev x) st).map fun ai=>(.tup [],ai)
 | .nilCheck x=>match fr.ev x with
  | .ptr k v o=>some (.ptr k v o,st)
  | .ep c=>some (.ep c,st)
  | .fn f c=>some (.fn f c,st)
  |_=>none
 | .binOp op t x y _=>(fw P op t (fr.ev x) (fr.ev y)).map fun d=>(d,st)
 | .unOp op _ x=>(Yl op (fr.ev x)).map fun d=>(d,st)
 | .convert s d x=>j8 P s d (fr.ev x) st
 | .makeFunc (.func f) first captured=>if first.isEmpty then some (.fn f (captured.toList.map fr.ev),st) else none
 | .makeSlice t l c=>jf P t (fr.ev l) (fr.ev c) st
 | .slice t x lo hi none=>(fM P t (fr.ev x) (lo.map fr.ev) (hi.map fr.ev) st).map fun d=>(d,st)
 | .fieldAddr t x f=>(gZ P t (fr.ev x) f).map fun d=>(d,st)
 | .field t x f=>(Gz P t (fr.ev x) f).map fun d=>(d,st)
 | .indexAddr t x i=>(cJ P t (fr.ev x) (fr.ev i) st).map fun d=>(d,st)
 | .index t x i=>(x_ P t (fr.ev x) (fr.ev i)).map fun d=>(d,st)
 | .range t x=>Bt P t (fr.ev x) st
 | .makeMap t r=>sI P t (r.map fr.ev) st
 | .insert t m k x=>(mw P t (fr.ev m) (fr.ev k) (fr.ev x) st).map fun ai=>(.tup [],ai)
 | .mapUpdate t m k x=>(mw P t (fr.ev m) (fr.ev k) (fr.ev x) st).map fun ai=>(.tup [],ai)
 | .lookup t x i false=>(sJ P t (fr.ev x) (fr.ev i) st).map fun d=>(d,st)
 | .next it s=>Ad (fr.ev it) s st
 | .extract t i=>match fr.ev t with
  | .tup ds=>(ds[i]?).map fun d=>(d,st)
  |_=>none
 | .call ⟨.builtin b,args,argTypes⟩=>bW P b argTypes.toList (args.toList.map fr.ev) st
 |_=>none
end
section
variable(P:Pv) (cf:gO)
def ir (fr:Fr) (st:St) (o:Oper):Option (D×St):=
 match o.op with
 | .call ⟨.value f,args,_⟩=>match fr.ev f with
  | .fn g mU=>cf g (args.toList.map fr.ev++mU) st
  |_=>none
 |op=>eS P fr st op o.type
def aH (ops:Array Oper) (fr:Fr) (o:Oper):Option Bool:=
 match o.guard with
 |none=>some true
 |some (j,want)=>match(ops[j]?).bind (·.dst) with
  |none=>none
  |some t=>match fr.get t with
   | .bool b=>some (b==want)
   | .tup _=>some false
   |_=>none
def mi (ops:Array Oper):List Oper→Fr→St→Option (Fr×St)
 |[],fr,st=>some (fr,st)
 |o::rest,fr,st=>
  match aH ops fr o with
  |some true=>match ir P cf fr st o with
   |some (d,ai)=>mi ops rest (fr.eH o.dst d) ai
   |none=>none
  |some false=>mi ops rest (fr.eH o.dst (.tup [])) st
  |none=>none
mutual
def iD:D→D→Bool
 | .bool a,.bool b=>a==b
 | .int k n,.int k' m=>decide (k=k') &&n==m
 | .str s,.str t=>s==t
 | .nul,.nul=>true
 | .pnil,.pnil=>true
 | .nilfn,.nilfn=>true
 | .nilif,.nilif=>true
 | .bI,.bI=>true
 | .sl a,.sl b=>mc a b
 | .agg a,.agg b=>mc a b
 | .tup a,.tup b=>mc a b
 | .ep a,.ep b=>mc a b
 | .win k v o l s,.win k' v' o' l' s'=>χ k k' &&χ v v' &&χ o o' &&χ l l' &&χ s s'
 | .ptr k v o,.ptr k' v' o'=>χ k k' &&χ v v' &&χ o o'
 | .mp k,.mp k'=>χ k k'
 | .fn f a,.fn g b=>χ f g &&mc a b
 |_,_=>false
def mc:List D→List D→Bool
 |[],[]=>true
 |a::l,b::m=>iD a b &&mc l m
 |_,_=>false
end
def yS:lu→lu→Bool
 | .mem v a c,.mem v' a' c'=>χ v v' &&(a==a') &&mc c c'
 | .iter s p,.iter s' p'=>s==s' &&χ p p'
 | .dead,.dead=>true
 |_,_=>false
def D.rU:D→Option Nat
 | .win k _ _ _ _=>some k
 | .ptr k _ _=>some k
 |_=>none
def kJ:Op→Option Operand
 | .load _ a=>some a
 | .indexAddr _ x _=>some x
 |_=>none
def tS (k:Option Nat) (a b:St):Bool:=
 match k with
 |none=>true
 |some k=>match a.bs[k]?,b.bs[k]? with
  |some x,some y=>yS x y
  |_,_=>false
def rD (k:Option Nat) (a b:St):Bool:=
 match k with
 |none=>true
 |some k=>match χ a.bs.length b.bs.length with
  |true=>true
  |false=>match a.bs[k]? with
   |some (.mem _ _ c)=>ZD (refs c) a.bs.length
   |_=>false
def lU (x:Oper) (fi:Fr) (si wb:St) (y:Oper) (fj:Fr) (sj NW:St):Bool:=
 match kJ y.op with
 |some a=>tS (fj.ev a).rU si wb
 |none=>match kJ x.op with
  |some a=>tS (fi.ev a).rU sj NW &&rD (fi.ev a).rU si NW
  |none=>false
abbrev Log:=List (Oper×Fr×St×St)
def Nu (dy:List (Nat×Nat)) (j:Nat) (log:Log) (o:Oper) (fr:Fr) (st ai:St):Bool:=
 dy.all fun p=>match χ p.2 j &&Nat.blt p.1 j with
  |true=>match log[j-1-p.1]? with
   |some (x,fi,si,wb)=>lU x fi si wb o fr st ai
   |none=>false
  |false=>true
def vI (ops:Array Oper) (dy:List (Nat×Nat)):Nat→Log→List Oper→Fr→St→Option (Fr×St)
 |_,_,[],fr,st=>some (fr,st)
 |j,log,o::rest,fr,st=>
  match aH ops fr o with
  |some true=>match ir P cf fr st o with
   |some (d,ai)=>match Nu dy j log o fr st ai with
    |true=>vI ops dy (j+1) ((o,fr,st,ai)::log) rest (fr.eH o.dst d) ai
    |false=>none
   |none=>none
  |some false=>vI ops dy (j+1) ((o,fr,st,st)::log) rest (fr.eH o.dst (.tup [])) st
  |none=>none
def Dh (ops:Array Oper) (dy:List (Nat×Nat)) (fr:Fr) (st:St):Option (Fr×St):=
 match dy with
 |[]=>mi P cf ops ops.toList fr st
 |_=>vI P cf ops dy 0 [] ops.toList fr st
def kf (id:Nat):List (Nat×List (Nat×Nat))→List (Nat×Nat)
 |[]=>[]
 |(i,l)::r=>match χ i id with
  |true=>l
  |false=>kf id r
inductive Out where
 |next
 |exit (id:Nat)
 |ret
def iter (step:Fr→St→Option (Out×Fr×St)):Nat→Fr→St→Option (Out×Fr×St)
 |0,_,_=>none
 |n+1,fr,st=>match step fr.clean st with
  |some (.next,aM,ai)=>iter step n aM ai
  |r=>r
def c8 (dy:List (Nat×List (Nat×Nat))) (n:Nat):Code→Fr→St→Option (Out×Fr×St)
 | .skip,fr,st=>some (.next,fr,st)
 | .region id ops _,fr,st=>match Dh P cf ops (kf id dy) fr.clean st with
  |some (aM,ai)=>some (.next,aM,ai)
  |none=>none
 | .seq a b,fr,st=>match c8 dy n a fr st with
  |some (.next,aM,ai)=>c8 dy n b aM ai
  |r=>r
 | .cond c a b,fr,st=>match fr.ev c with
  | .bool true=>c8 dy n a fr st
  | .bool false=>c8 dy n b fr st
  |_=>none
 | .block id c,fr,st=>match c8 dy n c fr st with
  |some (.exit i,aM,ai)=>if i=id then some (.next,aM,ai) else some (.exit i,aM,ai)
  |r=>r
 | .loop c,fr,st=>iter (c8 dy n c) n fr st
 | .exit id,fr,st=>some (.exit id,fr,st)
 | .ret,fr,st=>some (.ret,fr,st)
 |_,_,_=>none
def nT (fr:Fr) (st:St):List ResultVar→Option (List D)
 |[]=>some []
 | .tmp t::l=>(nT fr st l).map fun ds=>fr.get t::ds
 | .cell a t::l=>(j6 P t (fr.get a) st).bind fun d=>(nT fr st l).map fun ds=>d::ds
def zc:List D→D
 |[d]=>d
 |ds=>.tup ds
end
def chunk (s:Nat):Nat→List D→List D
 |0,_=>[]
 |n+1,c=>(match s with|1=>c.headD .bI|_=>.agg (c.take s))::chunk s n (c.drop s)
def jZ (f:D→Option D):List D→Option (List D)
 |[]=>some []
 |d::ds=>match f d with
  |some x=>match jZ f ds with
   |some xs=>some (x::xs)
   |none=>none
  |none=>none
def gJ (st:St) (N:Nat):Nat→D→Option D
 |0,_=>none
 |n+1,d=>match d with
  | .bool b=>some (.bool b)
  | .int k i=>some (.int k i)
  | .str s=>some (.str s)
  | .nul=>some (.sl [])
  | .sl es=>some (.sl es)
  | .pnil=>some .pnil
  | .nilfn=>some .nilfn
  | .nilif=>some .nilif
  | .win k aE off len s=>if k<N then none else(st.ib k aE).bind fun(_,c)=>if off+len*s≤c.length then(jZ (gJ st N n) ((c.drop off).take (len*s))).map fun cs=>.sl (chunk s len cs) else none
  | .agg cs=>(jZ (gJ st N n) cs).map .agg
  |_=>none
def bA (st:St) (N:Nat) (kn:Bool):Nat→D→Option D
 |0,_=>none
 |n+1,d=>match d with
  | .win k aE off len s=>if k<N then some (.win k aE off len s) else gJ st N n (.win k aE off len s)
  | .ptr k aE off=>if k<N then some (.ptr k aE off) else none
  | .mp k=>if k<N then some (.mp k) else none
  | .nul=>some (if kn then .nul else .sl [])
  | .agg cs=>(jZ (bA st N kn n) cs).map .agg
  | .tup ds=>(jZ (bA st N kn n) ds).map .tup
  | .fn f mU=>if refs mU≤N then some (.fn f mU) else none
  |d=>some d
def pad (n:Nat) (args:List D):Fr:=⟨n,args++Qaq (n-args.length) (.tup []),[]⟩
def ae (m:Mode) (st:St):St:=
 match m with
 | .ro=>{st with flr:=st.bs.length,ro:=st.bs.length}
 | .rw=>{st with flr:=st.bs.length}
 | .cw=>st
 | .nw=>{st with ro:=st.bs.length}
def ez (m:Mode) (kn:Bool) (st st1:St) (d:D):Option (D×St):=
 match m with
 | .cw=>some (d,st1)
 | .nw=>some (d,⟨st1.bs,st.flr,st.ro⟩)
 |_=>match bA st1 st.bs.length kn 16 d with
  |some d'=>some (d',⟨st1.bs.take st.bs.length,st.flr,st.ro⟩)
  |none=>none
def EP (P:Pv) (cf:gO) (n:Nat) (x:Fi) (body:Code) (args:List D) (st:St):Option (D×St):=
 match c8 P cf x.dyn n body (pad x.nloc args) (ae x.mode st) with
 |some (.exit _,_,_)=>none
 |some (_,fr,st1)=>match nT P fr st1 x.fn.results.toList with
  |some ds=>ez x.mode x.knul st st1 (zc ds)
  |none=>none
 |none=>none
def dQ (P:Pv):Nat→gO
 |0=>fun _ _ _=>none
 |n+1=>fun f args st=>
  match pf f P.prm with
  |some p=>p args st
  |none=>match P.fi f with
   |some x=>match x.fz with
    |some p=>p args st
    |none=>match x.fn.body with
     |some body=>EP P (dQ P n) n x body args st
     |none=>none
   |none=>none
mutual
theorem wC:∀(a b:D),iD a b=true→a=b
 | .bool a,b,h=>by cases b<;>simp[iD] at h;rw[h]
 | .int k n,b,h=>by cases b<;>simp[iD] at h;rw[h.1,h.2]
 | .str s,b,h=>by cases b<;>simp[iD] at h;rw[h]
 | .nul,b,h=>by cases b<;>simp[iD] at h;rfl
 | .pnil,b,h=>by cases b<;>simp[iD] at h;rfl
 | .nilfn,b,h=>by cases b<;>simp[iD] at h;rfl
 | .nilif,b,h=>by cases b<;>simp[iD] at h;rfl
 | .bI,b,h=>by cases b<;>simp[iD] at h;rfl
 | .sl a,b,h=>by cases b<;>simp[iD] at h;rw[jU _ _ h]
 | .agg a,b,h=>by cases b<;>simp[iD] at h;rw[jU _ _ h]
 | .tup a,b,h=>by cases b<;>simp[iD] at h;rw[jU _ _ h]
 | .ep a,b,h=>by cases b<;>simp[iD] at h;rw[jU _ _ h]
 | .win ..,b,h=>by cases b<;>simp[iD] at h;rw[h.1.1.1.1,h.1.1.1.2,h.1.1.2,h.1.2,h.2]
 | .ptr ..,b,h=>by cases b<;>simp[iD] at h;rw[h.1.1,h.1.2,h.2]
 | .mp ..,b,h=>by cases b<;>simp[iD] at h;rw[h]
 | .fn f a,b,h=>by cases b<;>simp[iD] at h;rw[h.1,jU _ _ h.2]
theorem jU:∀(a b:List D),mc a b=true→a=b
 |[],b,h=>by cases b<;>simp[mc] at h;rfl
 |a::l,b,h=>by
  cases b with
  |nil=>simp[mc] at h
  |cons b m=>
   simp only[mc,Qag] at h;rw[wC a b h.1,jU l m h.2]
end
mutual
theorem J0:∀(a:D),iD a a=true
 | .bool a=>by simp[iD]
 | .int k n=>by simp[iD]
 | .str s=>by simp[iD]
 | .nul=>rfl
 | .pnil=>rfl
 | .nilfn=>rfl
 | .nilif=>rfl
 | .bI=>rfl
 | .sl a=>by simp only[iD];exact jt a
 | .agg a=>by simp only[iD];exact jt a
 | .tup a=>by simp only[iD];exact jt a
 | .ep a=>by simp only[iD];exact jt a
 | .win ..=>by simp[iD]
 | .ptr ..=>by simp[iD]
 | .mp ..=>by simp[iD]
 | .fn f a=>by simp only[iD];rw[jt a];simp
theorem jt:∀(a:List D),mc a a=true
 |[]=>rfl
 |a::l=>by simp only[mc];rw[J0 a,jt l];rfl
end
theorem A7 {a b:lu} (h:yS a b=true):a=b:=by
 cases a<;>cases b<;>simp[yS] at h<;>try rfl
 ·rw[h.1.1,h.1.2,jU _ _ h.2]
 ·rw[h.1,h.2]
variable{a b:St}{k:Nat}
theorem zD (h:tS (some k) a b=true):b.bs[k]?=a.bs[k]?:=by
 unfold tS at h;simp only at h
 split at h
 ·rename_i x y h1 h2;rw[h1,h2,A7 h]
 ·cases h
theorem tR {v:Nat} {ar:Bool} {c:List D} (h:a.bs[k]?=some (.mem v ar c)) (h':b.bs[k]?=some (.mem v ar c)):tS (some k) a b=true:=by
 unfold tS;simp only[h,h',yS,jt];simp
end Go.V
namespace Go.V
open Go.RowKit
structure X where
 aE:Nat→Option Nat
 β:Nat→Option (Nat×Nat)
 Z:Nat→Prop
def eB:lu→Option Nat
 | .mem v _ _=>some v
 | .iter _ _=>some 0
 | .map _=>some 0
 |_=>none
def St.aE (st:St) (k:Nat):Option Nat:=(st.bs[k]?).bind eB
def St.x (st:St) (β:Nat→Option (Nat×Nat)) (Z:Nat→Prop):X:=⟨st.aE,β,Z⟩
def dS (w:World) (b:Nat):Option Nat:=
 match w.heap[b]? with
 |some (.cells c _ _)=>some c.size
 |_=>none
inductive IR (w:World) (Z:Nat→Prop):D→Value→Prop where
 |bool (b:Bool):IR w Z (.bool b) (.bool b)
 |int (k:IntKind) (n:Int):IR w Z (.int k n) (.int k n)
 |str (s:List UInt8):IR w Z (.str s) (.string ⟨s.toArray⟩)
 |nul:IR w Z .nul (.slice none 0 0)
 |pnil:IR w Z .pnil (.pointer none)
 |nilfn:IR w Z .nilfn .nilFunc
 |nilif:IR w Z .nilif .nilIface
 |emp (a:Option Addr) (cap:Nat):IR w Z (.sl []) (.slice a 0 cap)
 |sl (es:List D) (b off cap s:Nat) (f:Nat→Nat→Value) (hz:Z b) (hc:es.length≤cap)
   (hs:∀(i:Nat) e,es[i]?=some e→e.cells?=some e.cells∧e.cells.length=s)
   (hv:∀(i:Nat) e (j:Nat) c,es[i]?=some e→e.cells[j]?=some c→w.cell? ⟨b,off+(i*s+j),none⟩=some (f i j)∧(f i j).oneCell'=true)
   (hr:∀(i:Nat) e (j:Nat) c,es[i]?=some e→e.cells[j]?=some c→IR w Z c (f i j)):IR w Z (.sl es) (.slice (some ⟨b,off,none⟩) es.length cap)
 |ep (cs:List D) (b off:Nat) (f:Nat→Value) (hz:Z b)
   (hv:∀(j:Nat) c,cs[j]?=some c→w.cell? ⟨b,off+j,none⟩=some (f j)∧(f j).oneCell'=true)
   (hr:∀(j:Nat) c,cs[j]?=some c→IR w Z c (f j)):IR w Z (.ep cs) (.pointer (some ⟨b,off,none⟩))
 |agg (cs:List D) (vs:List Value) (hl:cs.length=vs.length) (h1:∀v∈vs,v.oneCell'=true)
   (hr:∀(i:Nat) c v,cs[i]?=some c→vs[i]?=some v→IR w Z c v):IR w Z (.agg cs) (.agg vs.toArray)
 |tup (cs:List D) (vs:List Value) (hl:cs.length=vs.length)
   (hr:∀(i:Nat) c v,cs[i]?=some c→vs[i]?=some v→IR w Z c v):IR w Z (.tup cs) (.tuple vs.toArray)
 |bI (v:Value):IR w Z .bI v
inductive VR (w:World) (x:X):D→Value→Prop where
 |im (d:D) (v:Value) (h:IR w x.Z d v):VR w x d v
 |win (k vr off len s:Nat) (a:Addr) (cap:Nat) (hc:len≤cap) (hk:∃p,x.β k=some p) (hm:∀c,x.aE k=some c→vr≤c)
   (h:x.aE k=some vr→∃b base sz,x.β k=some (b,base)∧dS w b=some sz∧(cap=0∨(a=⟨b,base+off,none⟩∧base+off+cap*s≤sz))):
   VR w x (.win k vr off len s) (.slice (some a) len cap)
 |ptr (k vr off:Nat) (a:Addr) (hk:∃p,x.β k=some p) (hm:∀c,x.aE k=some c→vr≤c)
   (h:x.aE k=some vr→∃b base,x.β k=some (b,base)∧a=⟨b,base+off,none⟩):VR w x (.ptr k vr off) (.pointer (some a))
 |mp (k r:Nat) (hk:∃p,x.β k=some p) (h:x.aE k=some 0→∃base,x.β k=some (r,base)):VR w x (.mp k) (.map (some r))
 |fn (f:Nat) (cs:List D) (vs:List Value) (hl:cs.length=vs.length)
   (hr:∀(i:Nat) c v,cs[i]?=some c→vs[i]?=some v→VR w x c v):VR w x (.fn f cs) (.func (.func f) #[] vs.toArray)
 |agg (cs:List D) (vs:List Value) (hl:cs.length=vs.length) (h1:∀v∈vs,v.oneCell'=true)
   (hr:∀(i:Nat) c v,cs[i]?=some c→vs[i]?=some v→VR w x c v):VR w x (.agg cs) (.agg vs.toArray)
 |tup (cs:List D) (vs:List Value) (hl:cs.length=vs.length)
   (hr:∀(i:Nat) c v,cs[i]?=some c→vs[i]?=some v→VR w x c v):VR w x (.tup cs) (.tuple vs.toArray)
variable{w w':World}
theorem EK {b o:Nat} (h:w'.heap[b]?=w.heap[b]?):w'.cell? ⟨b,o,none⟩=w.cell? ⟨b,o,none⟩:=by
 simp only[World.cell?,h]
variable{d:D}{v:Value}
theorem IR.mono {Z Z':Nat→Prop} (hz:∀b,Z b→Z' b∧w'.heap[b]?=w.heap[b]?) (h:IR w Z d v):IR w' Z' d v:=by
 induction h with
 |bool b=>exact .bool b
 |int k n=>exact .int k n
 |str s=>exact .str s
 |nul=>exact .nul
 |pnil=>exact .pnil
 |nilfn=>exact .nilfn
 |nilif=>exact .nilif
 |emp a cap=>exact .emp a cap
 |sl es b off cap s f hb hc hs hv hr ih=>
  exact .sl es b off cap s f (hz b hb).1 hc hs (fun i e j c he hj=>by rw[EK (hz b hb).2];exact hv i e j c he hj) ih
 |ep cs b off f hb hv hr ih=>exact .ep cs b off f (hz b hb).1 (fun j c hj=>by rw[EK (hz b hb).2];exact hv j c hj) ih
 |agg cs vs hl h1 hr ih=>exact .agg cs vs hl h1 ih
 |tup cs vs hl hr ih=>exact .tup cs vs hl ih
 |bI v=>exact .bI v
structure fq (w:World) (x:X) (w':World) (x':X):Prop where
 dm:∀k p,x.β k=some p→∃p',x'.β k=some p'
 z:∀b,x.Z b→x'.Z b∧w'.heap[b]?=w.heap[b]?
 aE:∀k c p,x.β k=some p→x'.aE k=some c→∃o,x.aE k=some o∧o≤c
 at_:∀k c,x'.aE k=some c→x.aE k=some c→∀b base,x.β k=some (b,base)→x'.β k=some (b,base)∧dS w' b=dS w b
theorem fq.refl (w:World) (x:X):fq w x w x:=
 ⟨fun _ p h=>⟨p,h⟩,fun _ h=>⟨h,rfl⟩,fun _ c _ _ h=>⟨c,h,η _⟩,fun _ _ _ _ _ _ h=>⟨h,rfl⟩⟩
variable{w1 w2 w3:World}
theorem fq.trans {x1 x2 x3:X} (h:fq w1 x1 w2 x2) (g:fq w2 x2 w3 x3):fq w1 x1 w3 x3 where
 dm k p hp:=by obtain⟨p',BZ⟩:=h.dm k p hp;exact g.dm k p' BZ
 z b hb:=⟨(g.z b (h.z b hb).1).1,((g.z b (h.z b hb).1).2).trans (h.z b hb).2⟩
 aE k c p hk hc:=by
  obtain⟨p',BZ⟩:=h.dm k p hk;obtain⟨o,ho,hle⟩:=g.aE k c p' BZ hc;obtain⟨q,hq,Mr⟩:=h.aE k o p hk ho;exact⟨q,hq,Φ Mr hle⟩
 at_ k c h3 h1 b base hb:=by
  obtain⟨p',BZ⟩:=h.dm k _ hb;obtain⟨o,ho,hle⟩:=g.aE k c p' BZ h3;obtain⟨p,hp,Mr⟩:=h.aE k o _ hb ho;rw[h1] at hp;cases hp;have:o=c:=R2 hle Mr;subst this;obtain⟨hb2,L6⟩:=h.at_ k _ ho h1 b base hb;obtain⟨B6,N7⟩:=g.at_ k _ h3 ho b base hb2;exact⟨B6,N7.trans L6⟩
variable{x':X}
theorem VR.mono {x:X} (hk:fq w x w' x') (h:VR w x d v):VR w' x' d v:=by
 induction h with
 |im d v h=>exact .im d v (h.mono hk.z)
 |win k vr off len s a cap hc hkn hm h=>
  obtain⟨p,hp⟩:=hkn;refine .win k vr off len s a cap hc (hk.dm k p hp) ?_ ?_
  ·intro c Jy;obtain⟨o,ho,hle⟩:=hk.aE k c p hp Jy;exact Φ (hm o ho) hle
  ·intro hv;obtain⟨o,ho,hle⟩:=hk.aE k vr p hp hv;have:o=vr:=R2 hle (hm o ho);subst this;obtain⟨b,base,sz,hb,hs,hr⟩:=h ho;obtain⟨gx,qG⟩:=hk.at_ k _ hv ho b base hb;exact⟨b,base,sz,gx,qG.trans hs,hr⟩
 |ptr k vr off a hkn hm h=>
  obtain⟨p,hp⟩:=hkn;refine .ptr k vr off a (hk.dm k p hp) ?_ ?_
  ·intro c Jy;obtain⟨o,ho,hle⟩:=hk.aE k c p hp Jy;exact Φ (hm o ho) hle
  ·intro hv;obtain⟨o,ho,hle⟩:=hk.aE k vr p hp hv;have:o=vr:=R2 hle (hm o ho);subst this;obtain⟨b,base,hb,hr⟩:=h ho;exact⟨b,base,(hk.at_ k _ hv ho b base hb).1,hr⟩
 |mp k r hkn h=>
  obtain⟨p,hp⟩:=hkn;refine .mp k r (hk.dm k p hp) fun hv=>?_;obtain⟨o,ho,hle⟩:=hk.aE k 0 p hp hv;have:o=0:=by omega
  subst this;obtain⟨base,hb⟩:=h ho;exact⟨base,(hk.at_ k _ hv ho r base hb).1⟩
 |fn f cs vs hl hr ih=>exact .fn f cs vs hl ih
 |agg cs vs hl h1 hr ih=>exact .agg cs vs hl h1 ih
 |tup cs vs hl hr ih=>exact .tup cs vs hl ih
theorem VR.bI (w:World) (x:X) (v:Value):VR w x .bI v:=.im _ _ (.bI v)
def vT (n:Nat) (fr:Nat×Nat):Prop:=fr.1≤fr.2∧∀o,o<n→¬(fr.1≤o∧o<fr.2)
theorem vT.zero (n:Nat):vT n (0,0):=⟨η _,fun o _=>by omega⟩
def lq (w:World) (x:X) (b base:Nat):lu→Prop
 | .mem _ _ cells=>∃c el fr,w.heap[b]?=some (.cells c el fr)∧base+cells.length≤c.size∧vT c.size fr∧
   ∀(j:Nat) d,cells[j]?=some d→∃u,c[base+j]?=some u∧u.oneCell'=true∧VR w x d u
 | .iter s pos=>base=0∧w.heap[b]?=some (.stringIter ⟨s.toArray⟩ pos)
 | .map es=>base=0∧∃entries clock,w.heap[b]?=some (.map entries clock)∧entries.size=es.length∧∀(i:Nat) p,es[i]?=some p→∃kk n vk x e,p=(.int kk n,.int vk x)∧entries[i]?=some e∧e.key=.int kk n∧e.val=.int vk x
 | .dead=>False
structure jW (w:World) (st:St) (β:Nat→Option (Nat×Nat)) (Z:Nat→Prop):Prop where
 dom:∀k b base,β k=some (b,base)→k<st.bs.length
 lt:∀k b base,β k=some (b,base)→b<w.heap.size
 inj:∀k k' b x x',β k=some (b,x)→β k'=some (b,x')→k=k'
 zd:∀k b base,β k=some (b,base)→¬Z b
 zl:∀b,Z b→b<w.heap.size
 box:∀k b base bx,β k=some (b,base)→st.bs[k]?=some bx→lq w (st.x β Z) b base bx
 flr:st.flr≤st.bs.length
 ro:st.ro≤st.bs.length
structure IA (M:Nat→Prop) (w w':World):Prop where
 os:w'.os=w.os
 tape:w'.tape=w.tape
 output:w'.output=w.output
 size:w.heap.size≤w'.heap.size
 block:∀b,b<w.heap.size→¬M b→w'.heap[b]?=w.heap[b]?
theorem IA.refl (M:Nat→Prop) (w:World):IA M w w:=⟨rfl,rfl,rfl,η _,fun _ _ _=>rfl⟩
variable{M M':Nat→Prop}
theorem IA.trans {M'':Nat→Prop} (h:IA M w1 w2) (g:IA M' w2 w3) (hM:∀b,M b→M'' b) (hM':∀b,b<w1.heap.size→M' b→M'' b):IA M'' w1 w3:=
 ⟨g.os.trans h.os,g.tape.trans h.tape,g.output.trans h.output,Φ h.size g.size,fun b hb hn=>
  (g.block b (Qad hb h.size) fun hm=>hn (hM' b hb hm)).trans (h.block b hb fun hm=>hn (hM b hm))⟩
theorem IA.mono (h:IA M w w') (hM:∀b,M b→M' b):IA M' w w':=
 ⟨h.os,h.tape,h.output,h.size,fun b hb hn=>h.block b hb fun hm=>hn (hM b hm)⟩
def wrt (st:St) (β:Nat→Option (Nat×Nat)) (b:Nat):Prop:=∃k base,β k=some (b,base)∧st.ro≤k
def tE (w:World) (x:X) (fr:Fr) (tmps:Array Value):Prop:=∀t,VR w x (fr.get t) (tmps.getD t undef)
theorem tE.mono {x:X} {fr:Fr} {tmps:Array Value} (h:tE w x fr tmps) (hk:fq w x w' x'):tE w' x' fr tmps:=fun t=>(h t).mono hk
structure Pv.Ok (pv:Pv) (P:Program):Prop where
 ty:∀t i,pv.info t=some i→P.info? t=some i
 fs:∀f x,pv.fi f=some x→x.fz=none→P.funcs[f]?=some x.fn∧∀b,x.fn.body=some b→x.fn.name≠ "runtime.NumGoroutine"
 eqb:∀t,pv.eqb.contains t=true→P.stoodInHeld t=false∧P.eqGuardType P.depth t=false
 mixed:P.follows .mixedOrders=true
section
variable{pv:Pv} {P:Program} (ok:pv.Ok P)
include ok
variable{t:Nat}
theorem Fe {d:TypeDesc} (h:pv.db t=some d):P.underlying t=some d:=by
 unfold Pv.db at h;unfold Program.underlying
 cases hi:pv.info t with
 |none=>simp[hi] at h
 |some i=>
  rw[ok.ty t i hi];simp only[hi] at h;obtain⟨desc,str,size,bytes,hp,al,fa,z,cmp,ms⟩:=i
  cases desc with
  |named nm u=>
   simp only at h
   cases hu:pv.info u with
   |none=>simp[hu] at h
   |some j=>rw[hu] at h;simp only[ok.ty u j hu];simpa using h
  |_=>simpa using h
theorem aT {d:TypeDesc} (h:pv.db t=some d) (w:World):(underlying t).run P w=.ok d w:=by
 simp[underlying,Fe ok h]
theorem sq {i:TypeInfo} (h:pv.info t=some i) (w:World):(typeInfo t).run P w=.ok i w:=by
 simp[typeInfo,ok.ty t i h]
theorem cV {n:Nat} (h:c9 pv t=some n) (w:World):(sizeOf t).run P w=.ok n w:=by
 unfold c9 at h
 cases hi:pv.info t with
 |none=>simp[hi] at h
 |some i=>simp only[hi,ο.injEq] at h;simp[sizeOf,sq ok hi,h]
omit ok in
theorem nP {i:TypeInfo} (h:pv.info t=some i):c9 pv t=some i.size:=by simp[c9,h]
def x7 (d:TypeDesc):Bool:=
 match d with
 | .struct _| .array _ _=>true
 |_=>false
theorem we {d:TypeDesc} (h:pv.db t=some d) (w:World):(isAgg t).run P w=.ok (x7 d) w:=by
 simp only[isAgg,ε,aT ok h,δ];cases d<;>rfl
theorem Db {z:D} (h:zx pv t=some z) (w:World):∃v,(zeroValue t).run P w=.ok v w∧z=jw v:=by
 unfold zx at h
 cases hi:pv.info t with
 |none=>simp[hi] at h
 |some i=>
  rw[hi] at h
  cases hz:i.zero with
  |none=>simp[hz] at h
  |some v=>simp[hz] at h;exact⟨v,by simp[zeroValue,sq ok hi,hz],h.symm⟩
end
theorem OO (v:Value):Ja v=v.oneCell':=by cases v<;>rfl
theorem z_ (w:World) (Z:Nat→Prop) (v:Value) (h:Ja v=true):IR w Z (xx v) v:=by
 cases v with
 |bool b=>exact .bool b
 |int k n=>exact .int k n
 |string s=>
  have:=IR.str (w:=w) (Z:=Z) s.data.toList
  simpa[xx] using this
 |pointer a=>cases a with
  |none=>exact .pnil
  |some a=>exact .bI _
 |slice a l c=>
  unfold xx
  split<;>first|contradiction|skip
  all_goals first|(rename_i h;cases h;exact .nul)|exact .bI _
 |nilFunc=>exact .nilfn
 |nilIface=>exact .nilif
 |_=>exact .bI _
theorem BA {l:List Value}:∀{r:List D},qz l=some r→r.length=l.length∧(∀v∈l,v.oneCell'=true)∧∀(w:World) (Z:Nat→Prop) (i:Nat) c v,r[i]?=some c→l[i]?=some v→IR w Z c v:=by
 induction l with
 |nil=>intro r h;simp[qz] at h;subst h;simp
 |cons v l ih=>
  intro r h;unfold qz at h
  cases h1:Ja v with
  |false=>simp[h1] at h
  |true=>
   simp only[h1] at h
   cases hr:qz l with
   |none=>simp[hr] at h
   |some r'=>
    simp only[hr,ο.injEq] at h;subst h;obtain⟨hl,ho,hi⟩:=ih hr;refine⟨by simp[hl],?_,?_⟩
    ·intro u hu
     rcases List.mem_cons.1 hu with rfl|hu
     ·rw[←OO];exact h1
     ·exact ho u hu
    ·intro w Z i c u hc hu
     cases i with
     |zero=>simp at hc hu;subst hc;subst hu;exact z_ w Z _ h1
     |succ i=>simp at hc hu;exact hi w Z i c u hc hu
theorem xv (w:World) (Z:Nat→Prop) (v:Value):IR w Z (jw v) v:=by
 unfold jw
 split
 ·rename_i cs
  split
  ·rename_i l hl;obtain⟨h1,h2,h3⟩:=BA hl;have:=IR.agg (w:=w) (Z:=Z) l cs.toList h1 h2 (h3 w Z)
   simpa using this
  ·exact .bI _
 ·rename_i hn
  by_cases h:Ja v=true
  ·exact z_ w Z v h
  ·cases v with
   |agg cs=>exact absurd rfl (hn cs)
   |tuple vs=>exact .bI _
   |_=>simp[Ja] at h
variable{w:World}{fr:Fr}{a:Act}
theorem AQ {x:X} (h:tE w x fr a.tmps) (o:Operand):VR w x (fr.ev o) (a.eval o):=by
 cases o with
 |tmp t=>exact h t
 |const v=>exact .im _ _ (xv _ _ v)
 |global g=>exact .bI _ _ _
 |func f=>exact .fn f [] [] rfl (by simp)
theorem BB (d e:D):∀(l:List D) (t u:Nat),nth d (l.set t e) u=if u=t∧t<l.length then e else nth d l u
 |[],t,u=>by simp
 |x::l,0,u=>by cases u<;>simp[nth]
 |x::l,t+1,u=>by
  cases u with
  |zero=>simp[nth]
  |succ u=>simp only[List.set_cons_succ,nth,υ,Nat.add_lt_add_iff_right,Nat.add_right_cancel_iff];exact BB d e l t u
theorem HE (d:D):∀(l:List D) (t:Nat),l.length≤t→nth d l t=d
 |[],t,_=>by cases t<;>rfl
 |x::l,0,h=>by simp at h
 |x::l,t+1,h=>HE d l t (by simpa using h)
theorem Ic (fr:Fr) (t u:Nat) (d:D):(fr.put t d).get u=(if u=t then(if ZD fr.n t=false∧fr.loc.length≤t then .bI else d) else fr.get u):=by
 unfold Fr.put
 by_cases hut:u=t
 ·subst hut;simp only[if_true]
  cases hb:ZD fr.n u with
  |false=>
   simp only[Fr.get,hb,BB,true_and]
   by_cases hl:u<fr.loc.length
   ·rw[if_pos hl,if_neg (by omega)]
   ·rw[if_neg hl,if_pos (by omega)];exact HE _ _ _ (by omega)
  |true=>simp[Fr.get,hb,look,Nat.beq_refl]
 ·simp only[hut,if_false]
  have hq:χ u t=false:=by
   cases hq:χ u t with
   |false=>rfl
   |true=>exact absurd (Nat.eq_of_beq_eq_true hq) hut
  cases hb:ZD fr.n t<;>cases hbu:ZD fr.n u<;>simp[Fr.get,hbu,look,hq,BB,hut]
theorem K9 {x:X} {d:D} {v:Value} (h:tE w x fr a.tmps) (hd:VR w x d v) (dst:Option Nat) (hs:∀t,dst=some t→t<a.tmps.size):tE w x (fr.eH dst d) (a.put dst v).tmps:=by
 cases dst with
 |none=>exact h
 |some t=>
  intro u;have hu:=h u;have hs:=hs t rfl;simp only[Fr.eH,Act.put,Ic]
  have U9:(a.tmps.setIfInBounds t v).getD u undef=if u=t then v else a.tmps.getD u undef:=by
   simp only[Array.getD_eq_getD_getElem?,Array.getElem?_setIfInBounds]
   by_cases hut:t=u
   ·subst hut;simp[hs]
   ·have:¬u=t:=fun e=>hut e.symm;simp[hut,this]
  rw[U9]
  by_cases hut:u=t
  ·simp only[hut,if_true]
   split
   ·exact .bI _ _ _
   ·exact hd
  ·simp only[hut,if_false];exact hu
end Go.V
namespace Go.V
open Go.RowKit
theorem kI (k:IntKind) (n:Int):bJ k n=k.wrap n:=by
 unfold bJ
 split
 ·rename_i m
  split
  ·rename_i h;have h:=Nat.le_of_ble_eq_true h;cases k<;>simp only[Qak,ic,AT,PR] at*<;>simp<;>omega
  ·rfl
 ·rename_i m
  split
  ·rename_i h;have h:¬BG k≤m:=fun h'=>by rw[Qa4 h'] at h;cases h
   cases k<;>simp only[Qak,BG,AT,PR] at*<;>simp<;>omega
  ·rfl
section
variable{w:World} {x:X}
variable{v:Value}
theorem dW {k:IntKind} {n:Int} (h:VR w x (.int k n) v):v=.int k n:=by
 cases h with|im _ _ h=>cases h;rfl
theorem gG {b:Bool} (h:VR w x (.bool b) v):v=.bool b:=by
 cases h with|im _ _ h=>cases h;rfl
theorem iW {s:List UInt8} (h:VR w x (.str s) v):v=.string ⟨s.toArray⟩:=by
 cases h with|im _ _ h=>cases h;rfl
theorem gT (h:VR w x .nul v):v=.slice none 0 0:=by
 cases h with|im _ _ h=>cases h;rfl
theorem lv (h:VR w x .pnil v):v=.pointer none:=by
 cases h with|im _ _ h=>cases h;rfl
variable{cs:List D}
theorem kR (h:VR w x (.agg cs) v):∃vs:List Value,v=.agg vs.toArray∧cs.length=vs.length∧(∀u∈vs,u.oneCell'=true)∧
  ∀(i:Nat) c u,cs[i]?=some c→vs[i]?=some u→VR w x c u:=by
 cases h with
 |im _ _ h=>cases h with|agg _ vs hl h1 hr=>exact⟨vs,rfl,hl,h1,fun i c u hc hu=>.im _ _ (hr i c u hc hu)⟩
 |agg _ vs hl h1 hr=>exact⟨vs,rfl,hl,h1,hr⟩
theorem Bc (h:VR w x (.tup cs) v):∃vs:List Value,v=.tuple vs.toArray∧cs.length=vs.length∧
  ∀(i:Nat) c u,cs[i]?=some c→vs[i]?=some u→VR w x c u:=by
 cases h with
 |im _ _ h=>cases h with|tup _ vs hl hr=>exact⟨vs,rfl,hl,fun i c u hc hu=>.im _ _ (hr i c u hc hu)⟩
 |tup _ vs hl hr=>exact⟨vs,rfl,hl,hr⟩
theorem CL {f:Nat} (h:VR w x (.fn f cs) v):∃vs:List Value,v=.func (.func f) #[] vs.toArray∧cs.length=vs.length∧
  ∀(i:Nat) c u,cs[i]?=some c→vs[i]?=some u→VR w x c u:=by
 cases h with
 |im _ _ h=>cases h
 |fn _ _ vs hl hr=>exact⟨vs,rfl,hl,hr⟩
end
theorem pick {p:Nat→Value→Prop}:∀(n:Nat),(∀j,j<n→∃u,p j u)→∃us:List Value,us.length=n∧∀(j:Nat) u,us[j]?=some u→p j u
 |0,_=>⟨[],rfl,by simp⟩
 |n+1,h=>by
  obtain⟨us,hl,hp⟩:=pick n fun j hj=>h j (by omega);obtain⟨u,hu⟩:=h n (by omega);refine⟨us++[u],by simp[hl],fun j v hv=>?_⟩
  rcases Nat.lt_trichotomy j n with hj|hj|hj
  ·rw[ψ (by omega)] at hv;exact hp j v hv
  ·subst hj;rw[←hl] at hv;simp at hv;subst hv;exact hu
  ·rw[ν (by simp;omega)] at hv;cases hv
def dC (w:World) (x:X) (b o:Nat) (c:List D):Prop:=
 ∀(j:Nat) d,c[j]?=some d→∃u,w.cell? ⟨b,o+j,none⟩=some u∧u.oneCell'=true∧VR w x d u
variable{w:World}{b o:Nat}{c:List D}
theorem dC.drop {x:X} (h:dC w x b o c) (n:Nat):dC w x b (o+n) (c.drop n):=by
 intro j d hd;rw[Θ] at hd;have:=h (n+j) d hd
 rwa [show o+(n+j)=o+n+j by omega] at this
theorem dC.take {x:X} (h:dC w x b o c) (n:Nat):dC w x b o (c.take n):=by
 intro j d hd;rw[Ω] at hd
 split at hd
 ·exact h j d hd
 ·cases hd
theorem dC.list {x:X} (h:dC w x b o c):∃us:List Value,us.length=c.length∧
  (∀(j:Nat) u,us[j]?=some u→w.cell? ⟨b,o+j,none⟩=some u)∧(∀u∈us,u.oneCell'=true)∧∀(j:Nat) d u,c[j]?=some d→us[j]?=some u→VR w x d u:=by
 obtain⟨us,hl,hp⟩:=pick (p:=fun j u=>∃d,c[j]?=some d∧w.cell? ⟨b,o+j,none⟩=some u∧u.oneCell'=true∧VR w x d u) c.length fun j hj=>by
  obtain⟨u,hu⟩:=h j c[j] (π hj);exact⟨u,c[j],π hj,hu⟩
 refine⟨us,hl,fun j u hu=>?_,fun u hu=>?_,fun j d u hd hu=>?_⟩
 ·obtain⟨_,_,h,_⟩:=hp j u hu;exact h
 ·obtain⟨j,hj⟩:=GB hu;obtain⟨_,_,_,h,_⟩:=hp j u hj;exact h
 ·obtain⟨d',H5,_,_,h⟩:=hp j u hu;rw[hd] at H5;cases H5;exact h
theorem vg {P:Program} {us:List Value} (h:∀(j:Nat) u,us[j]?=some u→w.cell? ⟨b,o+j,none⟩=some u):
  (loadCells ⟨b,o,none⟩ us.length).run P w=.ok us.toArray w:=by
 refine run_loadCells_list w ⟨b,o,none⟩ us fun j v hv=>?_;have:=h j v hv;unfold Addr.add
 split
 ·rename_i hj;subst hj;simpa using this
 ·exact this
section
variable{pv:Pv} {P:Program} (ok:pv.Ok P)
include ok
variable{w:World}{t:Nat}{d:D}
theorem vY {x:X} {b o:Nat} {c:List D} (hc:dC w x b o c) (h:fx pv t c=some d):
  ∃v,(loadVar t ⟨b,o,none⟩).run P w=.ok v w∧VR w x d v:=by
 unfold fx at h
 have agg:∀td,pv.db t=some td→x7 td=true→(c9 pv t).bind (fun n=>if n≤c.length then some (D.agg (c.take n)) else none)=some d→
   ∃v,(loadVar t ⟨b,o,none⟩).run P w=.ok v w∧VR w x d v:=by
  intro td hu ha h
  cases hs:c9 pv t with
  |none=>simp[hs] at h
  |some n=>
   simp only[hs,IS] at h
   split at h
   ·rename_i hn;simp only[ο.injEq] at h;subst h;obtain⟨us,hl,h1,h2,h3⟩:=(hc.take n).list;have YI:us.length=n:=by simp[hl];omega
    refine⟨.agg us.toArray,?_,.agg _ us hl.symm h2 h3⟩;simp only[loadVar,ε,we ok hu,δ,ha,if_true,cV ok hs];have:=vg (P:=P) h1;rw[YI] at this;simp[this]
   ·cases h
 split at h
 ·cases h
 ·rename_i hu;exact agg _ hu rfl h
 ·rename_i hu;exact agg _ hu rfl h
 ·rename_i td h1 h2 hu
  have ha:x7 td=false:=by
   cases td<;>first|rfl|(exfalso;first|exact h1 _ rfl|exact h2 _ _ rfl)
  cases c with
  |nil=>cases h
  |cons y l=>
   simp at h;subst h;obtain⟨u,lB,oP,uJ⟩:=hc 0 y rfl;refine⟨u,?_,uJ⟩;simp only[wt] at lB;simp[loadVar,we ok hu,ha,lB]
theorem qo {x:X} {off:Nat} {cs:List D} {vs:List Value} (hl:cs.length=vs.length) (h1:∀u∈vs,u.oneCell'=true) (hr:∀(i:Nat) c u,cs[i]?=some c→vs[i]?=some u→VR w x c u) (h:vl pv t cs off=some d):
  ∃v,(part t vs.toArray off).run P w=.ok v w∧VR w x d v:=by
 unfold vl at h
 have agg:∀td,pv.db t=some td→x7 td=true→(c9 pv t).bind (fun n=>if off+n≤cs.length then some (D.agg ((cs.drop off).take n)) else none)=some d→
   ∃v,(part t vs.toArray off).run P w=.ok v w∧VR w x d v:=by
  intro td hu ha h
  cases hs:c9 pv t with
  |none=>simp[hs] at h
  |some n=>
   simp only[hs,IS] at h
   split at h
   ·rename_i hn;simp only[ο.injEq] at h;subst h;refine⟨.agg ((vs.drop off).take n).toArray,?_,.agg _ _ (by simp[hl]) (fun u hu=>h1 u (List.mem_of_mem_drop (Qa3 hu))) ?_⟩
    ·simp only[part,ε,we ok hu,δ,ha,if_true,cV ok hs,μ]
     congr 2
     apply Qau;simp[AI]
    ·intro i c u hc hu;rw[Ω] at hc hu
     split at hc
     ·rename_i hi;rw[if_pos hi] at hu;rw[Θ] at hc hu;exact hr _ c u hc hu
     ·cases hc
   ·cases h
 split at h
 ·cases h
 ·rename_i hu;exact agg _ hu rfl h
 ·rename_i hu;exact agg _ hu rfl h
 ·rename_i td Wm TW hu
  have ha:x7 td=false:=by
   cases td<;>first|rfl|(exfalso;first|exact Wm _ rfl|exact TW _ _ rfl)
  have hlt:off<cs.length:=by
   rcases φ off cs.length with h'|h'
   ·exact h'
   ·rw[ν h'] at h;cases h
  obtain⟨u,UT⟩:∃u,vs[off]?=some u:=⟨vs[off]'(by omega),π _⟩
  exact⟨u,by simp[part,we ok hu,ha,UT],hr off d u h UT⟩
end
end Go.V
namespace Go.V
open Go.RowKit
theorem Bn (s t:List UInt8):((⟨s.toArray⟩:ByteArray).toList==(⟨t.toArray⟩:ByteArray).toList)=(s==t):=by
 rw[YQ,YQ]
variable{w:World}{k vr off:Nat}{v:Value}
theorem dx {x:X} (h:VR w x (.ptr k vr off) v):∃a,v=.pointer (some a)∧(∃p,x.β k=some p)∧
  (x.aE k=some vr→∃b base,x.β k=some (b,base)∧a=⟨b,base+off,none⟩):=by
 cases h with
 |im _ _ h=>cases h
 |ptr _ _ _ a hk hm h=>exact⟨a,rfl,hk,h⟩
theorem Hc {x:X} (h:VR w x (.mp k) v):∃r,v=.map (some r)∧(x.aE k=some 0→∃base,x.β k=some (r,base)):=by
 cases h with
 |im _ _ h=>cases h
 |mp _ r hk h=>exact⟨r,rfl,h⟩
theorem gS {x:X} {len s:Nat} (h:VR w x (.win k vr off len s) v):∃a cap,v=.slice (some a) len cap∧len≤cap∧(∃p,x.β k=some p)∧
  (∀c,x.aE k=some c→vr≤c)∧
  (x.aE k=some vr→∃b base sz,x.β k=some (b,base)∧dS w b=some sz∧(cap=0∨(a=⟨b,base+off,none⟩∧base+off+cap*s≤sz))):=by
 cases h with
 |im _ _ h=>cases h
 |win _ _ _ _ _ a cap hc hk hm h=>exact⟨a,cap,rfl,hc,hk,hm,h⟩
theorem oS {x:X} {es:List D} (h:VR w x (.sl es) v):∃a cap,v=.slice a es.length cap∧es.length≤cap∧
  (es=[]∨∃b off s,a=some ⟨b,off,none⟩∧x.Z b∧(∀(i:Nat) e,es[i]?=some e→e.cells?=some e.cells∧e.cells.length=s)∧
   (∀(i:Nat) e,es[i]?=some e→dC w x b (off+i*s) e.cells)∧
   ∃f:Nat→Nat→Value,(∀(i:Nat) e (j:Nat) c,es[i]?=some e→e.cells[j]?=some c→w.cell? ⟨b,off+(i*s+j),none⟩=some (f i j)∧(f i j).oneCell'=true)∧
    ∀(i:Nat) e (j:Nat) c,es[i]?=some e→e.cells[j]?=some c→IR w x.Z c (f i j)):=by
 cases h with
 |im _ _ h=>
  cases h with
  |emp a cap=>exact⟨a,cap,rfl,by simp,.inl rfl⟩
  |sl _ b off cap s f hz hc hs hv hr=>
   refine⟨_,cap,rfl,hc,.inr ⟨b,off,s,rfl,hz,hs,?_,f,hv,hr⟩⟩;intro i e he j d hd;obtain⟨h1,h2⟩:=hv i e j d he hd;exact⟨f i j,by rw[←h1];congr 2;omega,h2,.im _ _ (hr i e j d he hd)⟩
theorem wH {x:X} {cs:List D} (h:VR w x (.ep cs) v):∃b off,v=.pointer (some ⟨b,off,none⟩)∧x.Z b∧dC w x b off cs∧
  ∃f:Nat→Value,(∀(j:Nat) c,cs[j]?=some c→w.cell? ⟨b,off+j,none⟩=some (f j)∧(f j).oneCell'=true)∧∀(j:Nat) c,cs[j]?=some c→IR w x.Z c (f j):=by
 cases h with
 |im _ _ h=>
  cases h with
  |ep _ b off f hz hv hr=>
   exact⟨b,off,rfl,hz,fun j d hd=>⟨f j,(hv j d hd).1,(hv j d hd).2,.im _ _ (hr j d hd)⟩,f,hv,hr⟩
section
variable{pv:Pv} {P:Program} (ok:pv.Ok P)
include ok
theorem X6 (n:Nat):(∀{w:World} {x:X} {t:Nat} {d e:D} {u v:Value} {b:Bool},VR w x d u→VR w x e v→P6 pv n t d e=some b→∀m,n≤m→(ω m t u v).run P w=.ok b w)∧
  (∀{w:World} {x:X} {xs ys:List D} {us vs:List Value} {fs:List Field} {b:Bool},xs.length=us.length→ys.length=vs.length→(∀u∈us,u.oneCell'=true)→(∀u∈vs,u.oneCell'=true)→
   (∀(i:Nat) c u,xs[i]?=some c→us[i]?=some u→VR w x c u)→(∀(i:Nat) c u,ys[i]?=some c→vs[i]?=some u→VR w x c u)→
   eqFields pv n xs ys fs=some b→∀m,n≤m→(Qa8 m us.toArray vs.toArray fs).run P w=.ok b w)∧
  (∀{w:World} {x:X} {t sz:Nat} {xs ys:List D} {us vs:List Value} {left i:Nat} {b:Bool},c9 pv t=some sz→xs.length=us.length→ys.length=vs.length→(∀u∈us,u.oneCell'=true)→(∀u∈vs,u.oneCell'=true)→
   (∀(i:Nat) c u,xs[i]?=some c→us[i]?=some u→VR w x c u)→(∀(i:Nat) c u,ys[i]?=some c→vs[i]?=some u→VR w x c u)→
   qK pv n t sz xs ys left i=some b→∀m,n≤m→
   ((do
    for j in List.range' i left do
     if !(←ω m t (←part t us.toArray (j*sz)) (←part t vs.toArray (j*sz))) then return false
    pure true:Sem Bool)).run P w=.ok b w):=by
 induction n with
 |zero=>refine⟨?_,?_,?_⟩<;>intros<;>rename_i h _ _<;>simp[P6,eqFields,qK] at h
 |succ n ih=>
  obtain⟨TG,HT,ih3⟩:=ih;refine⟨?_,?_,?_⟩
  ·intro w x t d e u v b hu hv h m hm
   obtain⟨m,rfl⟩:∃m',m=m'+1:=⟨m-1,by omega⟩
   unfold P6 at h
   split at h
   ·rename_i ht;rw[gG hu,gG hv];simp only[ο.injEq] at h;subst h;simp[ω,aT ok ht]
   ·rename_i ht;rw[dW hu,dW hv]
    split at h
    ·rename_i hk;subst hk;simp only[ο.injEq] at h;subst h;simp[ω,aT ok ht]
    ·cases h
   ·rename_i ht;rw[iW hu,iW hv];simp only[ο.injEq] at h;subst h;simp only[ω,ε,aT ok ht,δ,μ,beq_toListBytes,Bn]
   ·rename_i ht;rw[lv hu,lv hv];simp only[ο.injEq] at h;subst h;simp[ω,aT ok ht]
   ·rename_i ht;rw[lv hu];obtain⟨a,rfl,_⟩:=dx hv;simp only[ο.injEq] at h;subst h;simp[ω,aT ok ht]
   ·rename_i ht;rw[lv hv];obtain⟨a,rfl,_⟩:=dx hu;simp only[ο.injEq] at h;subst h;simp[ω,aT ok ht]
   ·rename_i ht;rw[gT hu,gT hv];simp only[ο.injEq] at h;subst h;simp[ω,aT ok ht]
   ·rename_i ht;rw[gT hv];obtain⟨a,cap,rfl,_⟩:=gS hu;simp only[ο.injEq] at h;subst h;simp[ω,aT ok ht]
   ·rename_i ht;rw[gT hv];obtain⟨a,cap,rfl,_,h'|⟨bb,off,s,rfl,_⟩⟩:=oS hu
    ·cases h'
    simp only[ο.injEq] at h;subst h;simp[ω,aT ok ht]
   ·rename_i fields xs ys ht;obtain⟨us,rfl,B4,D6,gw⟩:=kR hu;obtain⟨vs,rfl,ry,Aw,nB⟩:=kR hv
    split at h
    ·rename_i hq;have hp:=(ok.eqb t hq).1;have hf:P.underlying t=some (.struct (P.fieldsOf t)):=by simp[Program.fieldsOf,Fe ok ht]
     have Jw:P.fieldsOf t=fields:=by simp[Program.fieldsOf,Fe ok ht]
     rw[run_equalIn_struct w m t _ _ hf hp,Jw];exact HT B4 ry D6 Aw gw nB h m (by omega)
    ·cases h
   ·rename_i len el xs ys ht;obtain⟨us,rfl,B4,D6,gw⟩:=kR hu;obtain⟨vs,rfl,ry,Aw,nB⟩:=kR hv
    cases hs:c9 pv el with
    |none=>simp[hs] at h
    |some sz=>
     simp only[hs,IS] at h;have:=ih3 hs B4 ry D6 Aw gw nB h m (by omega);simp only[ω,ε,aT ok ht,δ,cV ok hs];rw[Std.Legacy.Range.forIn_eq_forIn_range']
     simpa[Std.Legacy.Range.size] using this
   ·cases h
  ·intro w x xs ys us vs fs b B4 ry D6 Aw gw nB h m hm
   cases fs with
   |nil=>simp[eqFields] at h;subst h;simp[Qa8]
   |cons f fs=>
    unfold eqFields at h;unfold Qa8
    split at h
    ·rename_i hn;simp only[hn,ne_eq,not_true_eq_false,if_false];exact HT B4 ry D6 Aw gw nB h m (by omega)
    ·rename_i hn;simp only[ne_eq,hn,not_false_eq_true,if_true]
     split at h
     ·rename_i d e hd he;obtain⟨u,lB,oP⟩:=qo ok B4 D6 gw hd;obtain⟨v,DY,rO⟩:=qo ok ry Aw nB he;simp only[ε,lB,DY,δ]
      split at h
      ·rename_i hq;rw[TG oP rO hq m (by omega)]
       simpa using HT B4 ry D6 Aw gw nB h m (by omega)
      ·rename_i hq;rw[TG oP rO hq m (by omega)];simp only[ο.injEq] at h;subst h;simp
      ·cases h
     ·cases h
  ·intro w x t sz xs ys us vs left i b hsz B4 ry D6 Aw gw nB h m hm
   cases left with
   |zero=>simp[qK] at h;subst h;simp
   |succ left=>
    unfold qK at h
    split at h
    ·rename_i d e hd he;obtain⟨u,lB,oP⟩:=qo ok B4 D6 gw hd;obtain⟨v,DY,rO⟩:=qo ok ry Aw nB he;simp only[List.range'_succ,List.forIn_cons,ε,lB,DY,δ]
     split at h
     ·rename_i hq;rw[TG oP rO hq m (by omega)];have:=ih3 hsz B4 ry D6 Aw gw nB h m (by omega)
      simpa using this
     ·rename_i hq;rw[TG oP rO hq m (by omega)];simp only[ο.injEq] at h;subst h;simp
     ·cases h
    ·cases h
end
end Go.V
namespace Go.V
open Go.RowKit
variable{P:Program}{w:World}
theorem mE (op : BinOp) (t : TypeId) (xo yo : Operand) (a b : Value) (h1 : ¬ (a = .nilIface ∧ b = .nilIface)) (h2 : ∀ c d, ¬ (a = .agg c ∧ b = .agg d)):
    (eqGuard op t xo yo a b).run P w = .ok () w := by
  cases op <;> first
    | rfl
    | (unfold eqGuard
       simp only [Bool.not_true, Γ, if_false]
       split
       · exact absurd ⟨rfl, rfl⟩ h1
       · exact absurd ⟨rfl, rfl⟩ (h2 _ _)
       · rfl)
variable{op:BinOp}{k:IntKind}{a b:Int}{d:D}
theorem Im (h:Io op k a b=some d):∃n,d=.int k n∧(Qay op k a b).run P w=.ok (.int k n) w:=by
 unfold Io at h
 split at h<;>first|(cases h;refine⟨_,rfl,?_⟩;simp[Qay,kI];done)|(cases h;done)
theorem Tj (h:GR op a b=some d):∃r,d=.bool r∧(Op.intCmp op a b).run P w=.ok (.bool r) w:=by
 unfold GR at h
 split at h<;>first|(cases h;exact⟨_,rfl,rfl⟩)|(cases h;done)
theorem RF {x : X} {t : TypeId} (hs : op ≠ .shl) (qG : op ≠ .shr) (h : zi op k a b = some d):
    ∃ v, (binOp op t (.int k a) (.int k b)).run P w = .ok v w ∧ VR w x d v := by
  cases op <;> simp only [binOp, ne_eq, not_true_eq_false, if_false] <;> simp only [zi] at h <;> first
    | exact absurd rfl hs
    | exact absurd rfl qG
    | (cases h; exact ⟨_, rfl, by rw [kI]; exact .im _ _ (.int _ _)⟩)
    | (split at h
       · cases h
       · rename_i hb; cases h
         refine ⟨_, by simp only [Op.intDiv, hb, if_false]; rfl, ?_⟩
         first | exact .im _ _ (.int _ _) | (rw [kI]; exact .im _ _ (.int _ _)))
    | (obtain ⟨n, rfl, hr⟩ := Im (P := P) (w := w) h; exact ⟨_, hr, .im _ _ (.int _ _)⟩)
    | (obtain ⟨n, rfl, hr⟩ := Tj (P := P) (w := w) h; exact ⟨_, hr, .im _ _ (.bool _)⟩)
theorem CW {x:X} {t:TypeId} {k':IntKind} (hs:op=.shl∨op=.shr) (h:Fo op k a b=some d):
  ∃v,(binOp op t (.int k a) (.int k' b)).run P w=.ok v w∧VR w x d v:=by
 unfold Fo at h
 split at h
 ·cases h
 ·rename_i hb
  rcases hs with rfl|rfl<;>simp only[ο.injEq] at h<;>subst h<;>
   refine⟨_,by simp only[binOp,Op.shift,hb,if_false];rfl,?_⟩<;>first|exact .im _ _ (.int _ _)|(rw[kI];exact .im _ _ (.int _ _))
theorem Ra {x:X} {t:TypeId} {a b:List UInt8} (h:Ow op a b=some d):
  ∃v,(binOp op t (.string ⟨a.toArray⟩) (.string ⟨b.toArray⟩)).run P w=.ok v w∧VR w x d v:=by
 have e:binOp op t (.string ⟨a.toArray⟩) (.string ⟨b.toArray⟩)=Qa9 op ⟨a.toArray⟩ ⟨b.toArray⟩:=by cases op<;>rfl
 rw[e];have l1:(⟨a.toArray⟩:ByteArray).toList=a:=by rw[YQ]
 have l2:(⟨b.toArray⟩:ByteArray).toList=b:=by rw[YQ]
 by_cases jD:op=.add
 ·subst jD;simp only[Ow] at h
  split at h
  ·rename_i hb;cases h
   have hm:¬((((⟨a.toArray⟩:ByteArray).size+(⟨b.toArray⟩:ByteArray).size:Nat):Int)>Cr.max):=by
    have h1:(⟨a.toArray⟩:ByteArray).size=a.length:=by simp[JS]
    have h2:(⟨b.toArray⟩:ByteArray).size=b.length:=by simp[JS]
    rw[h1,h2];simp only[IntKind.max,PR,AT,if_true];omega
   refine⟨.string ⟨(a++b).toArray⟩,?_,.im _ _ (.str _)⟩;simp only[Qa9,hm,if_false,μ]
   congr 2
  ·cases h
 ·cases op<;>simp only[Ow] at h<;>first
   |exact absurd rfl jD
   |(cases h;done)
   |(cases h;exact⟨_,by simp only[Qa9,l1,l2];rfl,.im _ _ (.bool _)⟩)
section
variable{pv:Pv} {P:Program} (ok:pv.Ok P)
include ok
theorem M9 {w:World} {x:X} {t:Nat} {d e:D} {u v:Value} {b:Bool} (hu:VR w x d u) (hv:VR w x e v) (h:equalD pv t d e=some b) (op:BinOp) (xo yo:Operand):
  (eqGuard op t xo yo u v).run P w=.ok () w∧(P8 t u v).run P w=.ok b w:=by
 unfold equalD at h
 split at h
 ·cases h
 ·rename_i hg;have heq:=(X6 ok yB).1 hu hv h Op.maxDepth (by decide)
  have hgu:(eqGuard op t xo yo u v).run P w=.ok () w:=by
   by_cases ha:Tt d=true
   ·have hq:pv.eqb.contains t=true:=by
     simp only[ha,Bool.true_and,Bool.not_eq_true',Bool.not_eq_false] at hg;simpa using hg
    cases d with
    |agg cs=>
     obtain⟨us,rfl,_⟩:=kR hu
     cases v with
     |agg vs=>exact run_eqGuard_agg w op t xo yo _ _ (ok.eqb t hq).2
     |_=>exact mE _ _ _ _ _ _ (by simp) (by simp)
    |_=>simp[Tt] at ha
   ·refine mE _ _ _ _ _ _ ?_ ?_
    ·rintro⟨rfl,rfl⟩;unfold yB P6 at h
     split at h<;>first
      |(have:=gG hu;cases this)|(have:=dW hu;cases this)|(have:=iW hu;cases this)|(have:=lv hu;cases this)|(have:=gT hu;cases this)
      |(obtain⟨_,h',_⟩:=dx hu;cases h')|(obtain⟨_,_,h',_⟩:=gS hu;cases h')|(obtain⟨_,_,h',_⟩:=oS hu;cases h')|(obtain⟨_,h',_⟩:=kR hu;cases h')|cases h
    ·rintro c d' ⟨rfl,rfl⟩;unfold yB P6 at h
     split at h<;>first
      |(exfalso;exact ha rfl)
      |(have:=gG hu;cases this)|(have:=dW hu;cases this)|(have:=iW hu;cases this)|(have:=lv hu;cases this)|(have:=gT hu;cases this)
      |(obtain⟨_,h',_⟩:=dx hu;cases h')|(obtain⟨_,_,h',_⟩:=gS hu;cases h')|(obtain⟨_,_,h',_⟩:=oS hu;cases h')|cases h
  exact⟨hgu,heq⟩
end
end Go.V
namespace Go.V
open Go.RowKit
def FG (v:Value):Prop:=(∀k n,v≠.int k n)∧(∀s,v≠.string s)∧(∀k b,v≠.float k b)∧(∀k a b,v≠.complex k a b)
def FH:D→Bool
 | .int _ _| .str _| .bI=>false
 |_=>true
theorem Kq {w:World} {x:X} {d:D} {v:Value} (h:VR w x d v) (hp:FH d=true):FG v:=by
 unfold FG
 cases d with
 |int k n=>cases hp
 |str s=>cases hp
 |bI=>cases hp
 |bool b=>rw[gG h];simp
 |nul=>rw[gT h];simp
 |pnil=>rw[lv h];simp
 |sl es=>obtain⟨_,_,rfl,_⟩:=oS h;simp
 |win k v o l s=>obtain⟨_,_,rfl,_⟩:=gS h;simp
 |ptr k v o=>obtain⟨_,rfl,_⟩:=dx h;simp
 |mp k=>obtain⟨_,rfl,_⟩:=Hc h;simp
 |ep c=>obtain⟨_,_,rfl,_⟩:=wH h;simp
 |fn f c=>obtain⟨_,rfl,_⟩:=CL h;simp
 |nilfn=>cases h with|im _ _ h=>cases h;simp
 |nilif=>cases h with|im _ _ h=>cases h;simp
 |agg c=>obtain⟨_,rfl,_⟩:=kR h;simp
 |tup c=>obtain⟨_,rfl,_⟩:=Bc h;simp
theorem binOp_eql {t:TypeId} {u v:Value} (h:FG u):
  binOp .eql t u v=(P8 t u v>>=fun b=>pure (.bool b))∧binOp .neq t u v=(P8 t u v>>=fun b=>pure (.bool (!b))):=by
 obtain⟨h1,h2,h3,h4⟩:=h;cases u<;>first
  |exact absurd rfl (h1 _ _)|exact absurd rfl (h2 _)|exact absurd rfl (h3 _ _)|exact absurd rfl (h4 _ _ _)
  |(cases v<;>exact⟨rfl,rfl⟩)
section
variable{pv:Pv} {P:Program} (ok:pv.Ok P)
include ok
variable{w:World}{d r:D}{u v:Value}
theorem Tn {x:X} {op:BinOp} {t:Nat} {e:D} (xo yo:Operand) (hu:VR w x d u) (hv:VR w x e v) (h:fw pv op t d e=some r):
  ∃z,((eqGuard op t xo yo u v>>=fun _=>binOp op t u v:Sem Value)).run P w=.ok z w∧VR w x r z:=by
 unfold fw at h
 split at h
 ·rename_i k a k' b;rw[dW hu,dW hv];have hg:=mE (P:=P) (w:=w) op t xo yo (.int k a) (.int k' b) (by simp) (by simp);simp only[ε,hg,δ]
  split at h
  ·exact CW (.inl rfl) h
  ·exact CW (.inr rfl) h
  ·rename_i h1 h2
   split at h
   ·rename_i hk;subst hk;exact RF h1 h2 h
   ·cases h
 ·rename_i a b;rw[iW hu,iW hv];have hg:=mE (P:=P) (w:=w) op t xo yo (.string ⟨a.toArray⟩) (.string ⟨b.toArray⟩) (by simp) (by simp);simp only[ε,hg,δ];exact Ra h
 ·rename_i h1 h2
  have key:∀b,equalD pv t d e=some b→(eqGuard op t xo yo u v).run P w=.ok () w∧(P8 t u v).run P w=.ok b w∧
    (binOp .eql t u v=(P8 t u v>>=fun b=>pure (.bool b))∧binOp .neq t u v=(P8 t u v>>=fun b=>pure (.bool (!b)))):=by
   intro b hb;obtain⟨hg,he⟩:=M9 ok hu hv hb op xo yo;refine⟨hg,he,binOp_eql ?_⟩;have gx:=hb;unfold equalD at hb
   split at hb
   ·cases hb
   ·unfold yB P6 at hb;refine Kq hu ?_
    cases hpd:FH d with
    |true=>rfl
    |false=>
     exfalso
     cases d<;>simp[FH] at hpd<;>(split at hb<;>first|(cases hb;done)|(exact h1 _ _ _ _ rfl rfl)|(exact h2 _ _ rfl rfl)|simp_all)
  split at h
  ·cases hb:equalD pv t d e with
   |none=>simp[hb] at h
   |some b=>
    simp only[hb,Qae,ο.injEq] at h;subst h;obtain⟨hg,he,hq,_⟩:=key b hb;exact⟨.bool b,by simp[hg,hq,he],.im _ _ (.bool _)⟩
  ·cases hb:equalD pv t d e with
   |none=>simp[hb] at h
   |some b=>
    simp only[hb,Qae,ο.injEq] at h;subst h;obtain⟨hg,he,_,hq⟩:=key b hb;exact⟨.bool (!b),by simp[hg,hq,he],.im _ _ (.bool _)⟩
  ·cases h
omit ok in
theorem T6 {x:X} {op:UnOp} (hu:VR w x d u) (h:Yl op d=some r):∃z,(Op.unary op u).run P w=.ok z w∧VR w x r z:=by
 unfold Yl at h
 split at h
 ·rename_i k n;rw[dW hu];cases h;exact⟨_,rfl,by rw[kI];exact .im _ _ (.int _ _)⟩
 ·rename_i k n;rw[dW hu];obtain⟨m,rfl,hr⟩:=Im (P:=P) (w:=w) h;exact⟨_,hr,.im _ _ (.int _ _)⟩
 ·rw[gG hu];cases h;exact⟨_,rfl,.im _ _ (.bool _)⟩
 ·cases h
omit ok in
theorem tx {x:X} {y n:Nat} (hv:VR w x d v) (h:ky d y=some n) (code:BoundsCode):(v8 v y code).run P w=.ok n w∧n≤y:=by
 unfold ky at h
 split at h
 ·rename_i k i;rw[dW hv]
  split at h
  ·rename_i hi;cases h;refine⟨?_,by omega⟩;simp[v8,asIntOf,hi]
  ·cases h
 ·cases h
omit ok in
theorem nI {x:X} {len cap l h:Nat} {lo hi:Option D} {Ao l4:Option Value} (nL:Bool) (hc:len≤cap) (E_:∀d v,lo=some d→Ao=some v→VR w x d v) (H0:∀d v,hi=some d→l4=some v→VR w x d v) (el:lo.isSome=Ao.isSome) (eh:hi.isSome=l4.isSome) (hb:cF len lo hi=some (l,h)):
  (Qa7 nL len cap Ao l4 none).run P w=.ok (l,h,cap) w∧l≤h∧h≤len:=by
 unfold cF at hb;obtain⟨hh,h1,h2⟩:=γ.1 hb;obtain⟨ll,h3,h4⟩:=κ.1 h2;simp only[Prod.mk.injEq] at h4;obtain⟨rfl,rfl⟩:=h4
 have hle:hh≤len:=by
  cases hi with
  |none=>cases h1;exact η _
  |some d=>exact(tx (P:=P) (H0 d (l4.getD default) rfl (by cases l4<;>simp at eh⊢)) h1 .sliceB).2
 have Mr:ll≤hh:=by
  cases lo with
  |none=>cases h3;exact Qaw _
  |some d=>exact(tx (P:=P) (E_ d (Ao.getD default) rfl (by cases Ao<;>simp at el⊢)) h3 .sliceB).2
 refine⟨?_,Mr,hle⟩
 have aaG:∀v,l4=some v→(v8 v cap (if nL then .sliceAcap else .sliceAlen)).run P w=.ok hh w:=by
  intro v hv
  cases hi with
  |none=>subst hv;simp at eh
  |some d=>
   have Wm:ky d cap=some hh:=by
    simp only[gW] at h1;unfold ky at h1⊢
    split at h1
    ·split at h1
     ·rename_i hq;cases h1;rw[if_pos (by omega)]
     ·cases h1
    ·cases h1
   exact(tx (P:=P) (H0 d v rfl hv) Wm _).1
 have Ux:∀v,Ao=some v→(v8 v hh .sliceB).run P w=.ok ll w:=by
  intro v hv
  cases lo with
  |none=>subst hv;simp at el
  |some d=>exact(tx (P:=P) (E_ d v rfl hv) h3 _).1
 have aaH:l4=none→hh=len:=by
  intro hv;subst hv
  cases hi with
  |none=>cases h1;rfl
  |some d=>simp at eh
 have Uy:Ao=none→ll=0:=by
  intro hv;subst hv
  cases lo with
  |none=>cases h3;rfl
  |some d=>simp at el
 unfold Qa7
 cases l4 with
 |none=>
  obtain rfl:=aaH rfl
  cases Ao with
  |none=>obtain rfl:=Uy rfl;rfl
  |some v=>simp[Ux v rfl]
 |some u=>
  have h5:=aaG u rfl
  cases Ao with
  |none=>obtain rfl:=Uy rfl;simp[h5]
  |some v=>simp[h5,Ux v rfl]
end
end Go.V
namespace Go.V
open Go.RowKit
structure Nx (w:World) (st:St) (β:Nat→Option (Nat×Nat)) (Z:Nat→Prop) (w':World) (ai:St) (β':Nat→Option (Nat×Nat)) (Z':Nat→Prop):Prop where
 sim:jW w' ai β' Z'
 keeps:fq w (st.x β Z) w' (ai.x β' Z')
 evo:IA (wrt st β) w w'
 fresh:∀k b base,β' k=some (b,base)→(∃eL,β k=some (b,eL))∨w.heap.size≤b
 zfresh:∀b,Z' b→Z b∨w.heap.size≤b
 len:st.bs.length≤ai.bs.length
 flr:ai.flr=st.flr
 ro:ai.ro=st.ro
 low:∀k,k<st.ro→ai.bs[k]?=st.bs[k]?∧β' k=β k
 Dv:∀k,k<st.bs.length→β k=none→β' k=none∧ai.bs[k]?=st.bs[k]?
variable{w w':World}{x':X}{b base:Nat}
theorem lq.cw {x:X} {bx:lu} (h:lq w x b base bx) (hk:fq w x w' x') (hb:w'.heap[b]?=w.heap[b]?):lq w' x' b base bx:=by
 cases bx with
 |mem v a cells=>
  obtain⟨c,el,fr,h1,h2,h3,h4⟩:=h;refine⟨c,el,fr,hb.trans h1,h2,h3,fun j d hd=>?_⟩;obtain⟨u,lB,oP,uJ⟩:=h4 j d hd;exact⟨u,lB,oP,uJ.mono hk⟩
 |iter s pos=>exact⟨h.1,hb.trans h.2⟩
 |map es=>
  obtain⟨h0,en,cl,h1,h2⟩:=h;exact⟨h0,en,cl,hb.trans h1,h2⟩
 |dead=>exact h
variable{st:St}{β:Nat→Option (Nat×Nat)}{Z:Nat→Prop}
theorem Nx.same (h:jW w st β Z):Nx w st β Z w st β Z:=
 ⟨h,fq.refl _ _,IA.refl _ _,fun _ _ base hb=>.inl ⟨base,hb⟩,fun _ hz=>.inl hz,η _,rfl,rfl,fun _ _=>⟨rfl,rfl⟩,fun _ _ h=>⟨h,rfl⟩⟩
theorem Nx.trans {w1 w2 w3:World} {st1 st2 oO:St} {β1 β2 β3:Nat→Option (Nat×Nat)} {Z1 Z2 Z3:Nat→Prop} (h:Nx w1 st1 β1 Z1 w2 st2 β2 Z2) (g:Nx w2 st2 β2 Z2 w3 oO β3 Z3):
  Nx w1 st1 β1 Z1 w3 oO β3 Z3 where
 sim:=g.sim
 keeps:=h.keeps.trans g.keeps
 evo:=by
  refine h.evo.trans g.evo (fun _ hm=>hm) fun b hb hm=>?_;obtain⟨k,base,hk,du⟩:=hm
  rcases h.fresh k b base hk with⟨eL,gx⟩|hlt
  ·exact⟨k,eL,gx,by rw[←h.ro];exact du⟩
  ·omega
 fresh k b base hb:=by
  rcases g.fresh k b base hb with⟨eL,gx⟩|hlt
  ·exact h.fresh k b eL gx
  ·exact .inr (Φ h.evo.size hlt)
 zfresh b hz:=by
  rcases g.zfresh b hz with hz|hlt
  ·exact h.zfresh b hz
  ·exact .inr (Φ h.evo.size hlt)
 len:=Φ h.len g.len
 flr:=g.flr.trans h.flr
 ro:=g.ro.trans h.ro
 low k hk:=by
  obtain⟨h1,h2⟩:=h.low k hk;obtain⟨g1,g2⟩:=g.low k (by rw[h.ro];exact hk);exact⟨g1.trans h1,g2.trans h2⟩
 Dv k hk h0:=by
  obtain⟨h1,h2⟩:=h.Dv k hk h0;obtain⟨g1,g2⟩:=g.Dv k (Qad hk h.len) h1;exact⟨g1,g2.trans h2⟩
theorem Nx.still (h:jW w st β Z) (hh:w'.heap=w.heap) (ho:w'.os=w.os) (ht:w'.tape=w.tape) (hp:w'.output=w.output):
  Nx w st β Z w' st β Z:=by
 have hk:fq w (st.x β Z) w' (st.x β Z):=
  ⟨fun _ p hp=>⟨p,hp⟩,fun b hb=>⟨hb,by rw[hh]⟩,fun _ c _ _ hc=>⟨c,hc,η _⟩,fun _ _ _ _ _ _ hb=>⟨hb,by simp[dS,hh]⟩⟩
 refine⟨⟨h.dom,fun k b base hb=>by rw[hh];exact h.lt k b base hb,h.inj,h.zd,fun b hb=>by rw[hh];exact h.zl b hb,?_,h.flr,h.ro⟩,hk,⟨ho,ht,hp,by rw[hh];exact η _,fun b _ _=>by rw[hh]⟩,
  fun _ _ base hb=>.inl ⟨base,hb⟩,fun _ hz=>.inl hz,η _,rfl,rfl,fun _ _=>⟨rfl,rfl⟩,fun _ _ h=>⟨h,rfl⟩⟩
 intro k b base bx hb jm;exact(h.box k b base bx hb jm).cw hk (by rw[hh])
def gN (β:Nat→Option (Nat×Nat)) (n b:Nat):Nat→Option (Nat×Nat):=fun k=>if k=n then some (b,0) else β k
theorem Ks (st:St) (bx:lu) (k:Nat) (hk:k<st.bs.length):(st.push bx).aE k=st.aE k:=by
 simp[St.aE,St.push,ψ hk]
theorem gg (h:w'.heap[b]?=w.heap[b]?):dS w' b=dS w b:=by simp[dS,h]
theorem Nx.push (h:jW w st β Z) (o:Obj) (hh:w'.heap=w.heap.push o) (ho:w'.os=w.os) (ht:w'.tape=w.tape) (hp:w'.output=w.output) (bx:lu) (hb:fq w (st.x β Z) w' ((st.push bx).x (gN β st.bs.length w.heap.size) Z)→lq w' ((st.push bx).x (gN β st.bs.length w.heap.size) Z) w.heap.size 0 bx):
  Nx w st β Z w' (st.push bx) (gN β st.bs.length w.heap.size) Z:=by
 have hold:∀b,b<w.heap.size→w'.heap[b]?=w.heap[b]?:=by
  intro b hb;rw[hh,Bv,if_neg (by omega)]
 have hk:fq w (st.x β Z) w' ((st.push bx).x (gN β st.bs.length w.heap.size) Z):=by
  have hdm:∀k p,β k=some p→k<st.bs.length:=fun k p hp=>h.dom k p.1 p.2 hp;refine⟨fun k p hp=>⟨p,?_⟩,fun b hb=>⟨hb,hold b (h.zl b hb)⟩,fun k c p hk hc=>?_,fun k c hc Gr b base hb=>?_⟩
  ·have:=hdm k p hp;simp only[St.x,gN] at hp⊢;rw[if_neg (by omega)];exact hp
  ·refine⟨c,?_,η _⟩;have:=Ks st bx k (hdm k p hk);show st.aE k=some c;rw[←this];exact hc
  ·refine⟨?_,gg (hold b (h.lt k b base hb))⟩;have og:k<st.bs.length:=hdm k _ hb;simp only[St.x,gN];rw[if_neg (by omega)];exact hb
 have hsz:w'.heap.size=w.heap.size+1:=by rw[hh,Qaf]
 refine⟨⟨?_,?_,?_,?_,?_,?_,?_,?_⟩,hk,⟨ho,ht,hp,by omega,fun b hb _=>hold b hb⟩,?_,fun _ hz=>.inl hz,by simp[St.push],rfl,rfl,?_,fun k hk h0=>by simp only[gN,St.push];rw[if_neg (by omega),ψ hk];exact⟨h0,rfl⟩⟩
 ·intro k b base kQ;simp only[gN] at kQ;simp only[St.push,Q5,List.length_singleton]
  split at kQ
  ·omega
  ·have:=h.dom k b base kQ;omega
 ·intro k b base kQ;simp only[gN] at kQ
  split at kQ
  ·cases kQ;omega
  ·have:=h.lt k b base kQ;omega
 ·intro k k' b y y' h1 h2;simp only[gN] at h1 h2
  split at h1<;>split at h2
  ·omega
  ·cases h1;have:=h.lt k' _ _ h2;omega
  ·cases h2;have:=h.lt k _ _ h1;omega
  ·exact h.inj k k' b y y' h1 h2
 ·intro k b base kQ hz;simp only[gN] at kQ
  split at kQ
  ·cases kQ;have:=h.zl _ hz;omega
  ·exact h.zd k b base kQ hz
 ·intro b hz;have:=h.zl b hz;omega
 ·intro k b base Cp kQ jm;simp only[gN] at kQ
  split at kQ
  ·rename_i hkn;subst hkn;cases kQ;simp[St.push] at jm;subst jm;exact hb hk
  ·have hlt:=h.dom k b base kQ;simp only[St.push,ψ hlt] at jm;exact(h.box k b base Cp kQ jm).cw hk (hold b (h.lt k b base kQ))
 ·have:=h.flr;simp[St.push];omega
 ·have:=h.ro;simp[St.push];omega
 ·intro k b base kQ;simp only[gN] at kQ
  split at kQ
  ·cases kQ;exact .inr (η _)
  ·exact .inl ⟨base,kQ⟩
 ·intro k og;have:=h.ro;simp only[St.push,gN];rw[ψ (by omega),if_neg (by omega)];exact⟨rfl,rfl⟩
theorem Nx.o0 (h:jW w st β Z) (arr:Bool) (cs:List D) (c:Array Value) (el:TypeId) (fr:Nat×Nat) (hh:w'.heap=w.heap.push (.cells c el fr)) (ho:w'.os=w.os) (ht:w'.tape=w.tape) (hp:w'.output=w.output) (hl:cs.length≤c.size) (hfr:vT c.size fr) (hc:∀(j:Nat) d,cs[j]?=some d→∃u,c[j]?=some u∧u.oneCell'=true∧VR w (st.x β Z) d u):
  Nx w st β Z w' (st.push (.mem 0 arr cs)) (gN β st.bs.length w.heap.size) Z∧
   dS w' w.heap.size=some c.size∧(st.push (.mem 0 arr cs)).aE st.bs.length=some 0∧gN β st.bs.length w.heap.size st.bs.length=some (w.heap.size,0):=by
 have Ml:w'.heap[w.heap.size]?=some (.cells c el fr):=by rw[hh];simp
 refine⟨Nx.push h _ hh ho ht hp _ fun hk=>⟨c,el,fr,Ml,by omega,hfr,fun j d hd=>?_⟩,by simp[dS,Ml],by simp[St.aE,St.push,eB],by simp[gN]⟩;obtain⟨u,h1,h2,h3⟩:=hc j d hd;exact⟨u,by rw[Qa1];exact h1,h2,h3.mono hk⟩
variable{k:Nat}{a:Bool}{c:List D}
theorem eD {aE:Nat} (h:st.ib k aE=some (a,c)):st.bs[k]?=some (.mem aE a c)∧st.aE k=some aE:=by
 unfold St.ib at h
 split at h
 ·rename_i v a' c' hb
  split at h
  ·rename_i hv;subst hv;cases h;exact⟨hb,by simp[St.aE,hb,eB]⟩
  ·cases h
 ·cases h
theorem jW.row (h:jW w st β Z) {aE:Nat} (hm:st.ib k aE=some (a,c)) (hb:β k=some (b,base)):
  ∃cs el fr,w.heap[b]?=some (.cells cs el fr)∧base+c.length≤cs.size∧vT cs.size fr∧
   ∀(j:Nat) d,c[j]?=some d→∃u,cs[base+j]?=some u∧u.oneCell'=true∧VR w (st.x β Z) d u:=
 h.box k b base _ hb (eD hm).1
theorem jW.cells (h:jW w st β Z) {aE:Nat} (hm:st.ib k aE=some (a,c)) (hb:β k=some (b,base)):
  dC w (st.x β Z) b base c:=by
 obtain⟨cs,el,fr,h1,h2,h3,h4⟩:=h.row hm hb;intro j d hd;obtain⟨u,lB,oP,uJ⟩:=h4 j d hd;exact⟨u,by simp[World.cell?,h1,lB],oP,uJ⟩
theorem fN:∀(cs c:List D) (off:Nat),(setMany c off cs).length=c.length
 |[],c,off=>rfl
 |x::xs,c,off=>by simp only[setMany];rw[fN xs];simp
theorem mq:∀(cs c:List D) (off j:Nat),off+cs.length≤c.length→(setMany c off cs)[j]?=if off≤j∧j<off+cs.length then cs[j-off]? else c[j]?
 |[],c,off,j,_=>by simp only[setMany,VM,wt];rw[if_neg (by omega)]
 |x::xs,c,off,j,h=>by
  simp only[υ] at h;simp only[setMany,υ];rw[mq xs (c.set off x) (off+1) j (by simp;omega)]
  by_cases h1:off+1≤j∧j<off+1+xs.length
  ·rw[if_pos h1,if_pos (by omega),show j-off=(j-(off+1))+1 by omega,τ]
  ·rw[if_neg h1]
   by_cases h2:j=off
   ·subst h2;rw[if_pos (by omega),Qa0,Ut (by omega)];rfl
   ·rw[if_neg (by omega),ς (by omega)]
def wput (w:World) (b:Nat) (o:Obj):World:={w with heap:=w.heap.setIfInBounds b o}
variable{rb eL:Nat}{a':Bool}{c':List D}{cs':Array Value}{fr:Nat×Nat}
theorem Nx.Kj (h:jW w st β Z) {aE:Nat} (hm:st.ib k aE=some (a,c)) (hb:β k=some (b,base)) (du:st.ro≤k) (hv:aE≤rb) (MG:aE=rb→eL=base) {cs:Array Value} {el:TypeId} {aM:Nat×Nat} (hw:w.heap[b]?=some (.cells cs el fr)) (hfr:vT cs.size aM) (hsz:cs'.size=cs.size) (hl:eL+c'.length≤cs.size) (hc:∀(j:Nat) d,c'[j]?=some d→∃u,cs'[eL+j]?=some u∧u.oneCell'=true∧VR w (st.x β Z) d u):
  Nx w st β Z (wput w b (.cells cs' el aM)) {st with bs:=st.bs.set k (.mem rb a' c')} (fun i=>if i=k then some (b,eL) else β i) Z:=by
 obtain⟨jm,nz⟩:=eD hm;have kq:k<st.bs.length:=h.dom k b base hb;have hbl:b<w.heap.size:=h.lt k b base hb
 have hne:∀i,i≠b→(wput w b (.cells cs' el aM)).heap[i]?=w.heap[i]?:=by
  intro i hi;simp only[wput];rw[ρ (by omega)]
 have heq:(wput w b (.cells cs' el aM)).heap[b]?=some (.cells cs' el aM):=by
  simp only[wput];rw[ζ hbl]
 have yc:∀i,i≠k→({st with bs:=st.bs.set k (.mem rb a' c')}:St).aE i=st.aE i:=by
  intro i hi;simp only[St.aE];rw[ς (by omega)]
 have ya:({st with bs:=st.bs.set k (.mem rb a' c')}:St).aE k=some rb:=by
  simp[St.aE,kq,eB]
 have hk:fq w (st.x β Z) (wput w b (.cells cs' el aM)) (({st with bs:=st.bs.set k (.mem rb a' c')}:St).x (fun i=>if i=k then some (b,eL) else β i) Z):=by
  refine⟨fun i p hp=>?_,fun i hi=>⟨hi,hne i fun e=>h.zd k b base hb (e▸hi)⟩,fun i q p hi hq=>?_,fun i q hq sU i' y hy=>?_⟩
  ·by_cases hik:i=k
   ·subst hik;exact⟨(b,eL),by simp[St.x]⟩
   ·exact⟨p,by simp only[St.x] at hp⊢;rw[if_neg hik];exact hp⟩
  ·by_cases hik:i=k
   ·subst hik;simp only[St.x] at hq⊢;rw[ya] at hq;cases hq;exact⟨aE,nz,hv⟩
   ·simp only[St.x] at hq⊢;rw[yc i hik] at hq;exact⟨q,hq,η _⟩
  ·by_cases hik:i=k
   ·subst hik;simp only[St.x] at hq sU hy⊢;rw[ya] at hq;cases hq;rw[nz] at sU;cases sU;rw[hb] at hy;cases hy;refine⟨by simp[MG rfl],by simp[dS,heq,hw,hsz]⟩
   ·simp only[St.x] at hy⊢;refine⟨by rw[if_neg hik];exact hy,gg (hne i' fun e=>?_)⟩;subst e;exact hik (h.inj i k _ _ _ hy hb)
 refine⟨⟨?_,?_,?_,?_,?_,?_,?_,?_⟩,hk,⟨rfl,rfl,rfl,by simp[wput],fun i hi hn=>hne i fun e=>hn ?_⟩,?_,fun _ hz=>.inl hz,by simp,rfl,rfl,?_,fun i _ h0=>by
   by_cases e:i=k
   ·subst e;rw[hb] at h0;cases h0
   ·simp only[if_neg e];rw[ς (by omega)];exact⟨h0,rfl⟩⟩
 ·intro i q y hq;simp only[Qam];(try dsimp only at hq)
  split at hq
  ·rename_i e;subst e;exact kq
  ·exact h.dom i q y hq
 ·intro i q y hq;simp only[wput,R3];(try dsimp only at hq)
  split at hq
  ·cases hq;exact hbl
  ·exact h.lt i q y hq
 ·intro i i' q y y' h1 h2;(try dsimp only at h1 h2)
  split at h1<;>split at h2
  ·omega
  ·rename_i e _;cases h1;subst e;exact h.inj _ _ _ _ _ hb h2
  ·rename_i _ e;cases h2;subst e;exact h.inj _ _ _ _ _ h1 hb
  ·exact h.inj i i' q y y' h1 h2
 ·intro i q y hq hz;(try dsimp only at hq)
  split at hq
  ·cases hq;exact h.zd k b base hb hz
  ·exact h.zd i q y hq hz
 ·intro i hz;simp only[wput,R3];exact h.zl i hz
 ·intro i q y bx hq yj;(try dsimp only at hq yj)
  split at hq
  ·rename_i e;subst e;cases hq;rw[Ut kq] at yj;cases yj;refine⟨cs',el,aM,heq,by omega,by rw[hsz];exact hfr,fun j d hd=>?_⟩
   ·obtain⟨u,lB,oP,uJ⟩:=hc j d hd;exact⟨u,lB,oP,uJ.mono hk⟩
  ·rename_i e;rw[ς (by omega)] at yj;refine(h.box i q y bx hq yj).cw hk (hne q fun e'=>?_);subst e';exact e (h.inj i k _ _ _ hq hb)
 ·have:=h.flr;simp;omega
 ·have:=h.ro;simp;omega
 ·exact⟨k,base,e▸hb,du⟩
 ·intro i q y hq;(try dsimp only at hq)
  split at hq
  ·rename_i e;subst e;cases hq;exact .inl ⟨base,hb⟩
  ·exact .inl ⟨y,hq⟩
 ·intro i hi;dsimp only;rw[ς (by omega),if_neg (by omega)];exact⟨rfl,rfl⟩
theorem Nx.write (h:jW w st β Z) {aE:Nat} (hm:st.ib k aE=some (a,c)) (hb:β k=some (b,base)) (du:st.ro≤k) (hv:aE≤rb) (MG:aE=rb→eL=base) {cs:Array Value} {el:TypeId} (hw:w.heap[b]?=some (.cells cs el fr)) (hsz:cs'.size=cs.size) (hl:eL+c'.length≤cs.size) (hc:∀(j:Nat) d,c'[j]?=some d→∃u,cs'[eL+j]?=some u∧u.oneCell'=true∧VR w (st.x β Z) d u):
  Nx w st β Z (wput w b (.cells cs' el fr)) {st with bs:=st.bs.set k (.mem rb a' c')} (fun i=>if i=k then some (b,eL) else β i) Z:=
 Nx.Kj h hm hb du hv MG hw (by
  obtain⟨Ti,el0,fr0,e1,_,e3,_⟩:=h.row hm hb;rw[hw] at e1;cases e1
  exact e3) hsz hl hc
structure LR (w:World) (x:X) (cs:List D) (us:List Value):Prop where
 len:cs.length=us.length
 one:∀u∈us,u.oneCell'=true
 rel:∀(i:Nat) c u,cs[i]?=some c→us[i]?=some u→VR w x c u
variable{cs:List D}{us:List Value}
theorem LR.mono {x:X} (h:LR w x cs us) (hk:fq w x w' x'):LR w' x' cs us:=
 ⟨h.len,h.one,fun i c u hc hu=>(h.rel i c u hc hu).mono hk⟩
variable{d:D}
theorem LR.at_ {x:X} (h:LR w x cs us) {j:Nat} (hd:cs[j]?=some d):∃u,us[j]?=some u∧u.oneCell'=true∧VR w x d u:=by
 have hj:j<cs.length:=by
  rcases φ j cs.length with h'|h'
  ·exact h'
  ·rw[ν h'] at hd;cases hd
 have Gk:j<us.length:=by rw[←h.len];exact hj
 exact⟨us[j],π Gk,h.one _ (List.getElem_mem Gk),h.rel j d _ hd (π Gk)⟩
theorem LR.agg {x:X} (h:LR w x cs us):VR w x (.agg cs) (.agg us.toArray):=.agg cs us h.len h.one h.rel
variable{v:Value}
theorem Og {x:X} (h:VR w x (.agg cs) v):∃us:List Value,v=.agg us.toArray∧LR w x cs us:=by
 obtain⟨us,rfl,h1,h2,h3⟩:=kR h;exact⟨us,rfl,h1,h2,h3⟩
theorem tq {x:X} (h:VR w x d v) (hc:d.cells?=some cs):LR w x cs v.cells.toList:=by
 have one:∀u:Value,u.oneCell'=true→v=u→cs=[d]→LR w x cs v.cells.toList:=by
  intro u hu e kZ;subst e;subst kZ
  have:v.cells.toList=[v]:=by cases v<;>first|rfl|simp[Value.oneCell'] at hu
  rw[this];refine⟨rfl,by simpa using hu,fun i c u hc hu=>?_⟩
  cases i with
  |zero=>simp at hc hu;subst hc;subst hu;exact h
  |succ i=>simp at hc
 cases d with
 |agg l=>
  cases hc;obtain⟨us,rfl,hl⟩:=Og h
  simpa[Value.cells] using hl
 |tup l=>cases hc
 |bI=>cases hc
 |bool b=>cases hc;exact one _ rfl (gG h) rfl
 |int k n=>cases hc;exact one _ rfl (dW h) rfl
 |str s=>cases hc;exact one _ rfl (iW h) rfl
 |nul=>cases hc;exact one _ rfl (gT h) rfl
 |pnil=>cases hc;exact one _ rfl (lv h) rfl
 |sl es=>cases hc;obtain⟨_,_,e,_⟩:=oS h;exact one _ rfl e rfl
 |win k v o l s=>cases hc;obtain⟨_,_,e,_⟩:=gS h;exact one _ rfl e rfl
 |ptr k v o=>cases hc;obtain⟨_,e,_⟩:=dx h;exact one _ rfl e rfl
 |mp k=>cases hc;obtain⟨_,e,_⟩:=Hc h;exact one _ rfl e rfl
 |ep c=>cases hc;obtain⟨_,_,e,_⟩:=wH h;exact one _ rfl e rfl
 |fn f c=>cases hc;obtain⟨_,e,_⟩:=CL h;exact one _ rfl e rfl
 |nilfn=>cases hc;exact one .nilFunc rfl (by cases h with|im _ _ h=>cases h;rfl) rfl
 |nilif=>cases hc;exact one .nilIface rfl (by cases h with|im _ _ h=>cases h;rfl) rfl
theorem Nv (h:d.cells?=some cs):d.cells=cs:=by cases d<;>simp[D.cells?,D.cells] at*<;>exact h
theorem AK (off:Nat):∀(l:List Value) (n:Nat) (cells:Array Value) (k:Nat),off+n+l.length≤cells.size→
  ((l.zipIdx n).foldl (fun cs (p:Value×Nat)=>cs.setIfInBounds (off+p.2) p.1) cells)[k]?=if off+n≤k∧k<off+n+l.length then l[k-(off+n)]? else cells[k]?
 |[],n,cells,k,_=>by simp only[List.zipIdx_nil,List.foldl_nil,VM,wt];rw[if_neg (by omega)]
 |v::l,n,cells,k,h=>by
  simp only[υ] at h;simp only[List.zipIdx_cons,Qal];rw[AK off l (n+1) _ k (by simp;omega)];simp only[υ]
  by_cases h1:off+(n+1)≤k∧k<off+(n+1)+l.length
  ·rw[if_pos h1,if_pos (by omega),show k-(off+n)=(k-(off+(n+1)))+1 by omega,τ]
  ·rw[if_neg h1]
   by_cases h2:k=off+n
   ·subst h2;rw[if_pos (by omega),Qa0,ζ (by omega)];rfl
   ·rw[if_neg (by omega),ρ (by omega)]
theorem yu (off:Nat):∀(l:List (Value×Nat)) (cells:Array Value),(l.foldl (fun cs (p:Value×Nat)=>cs.setIfInBounds (off+p.2) p.1) cells).size=cells.size
 |[],cells=>rfl
 |p::l,cells=>by simp only[Qal];rw[yu off l];simp
theorem Ki (off:Nat) (c cells:Array Value):(c.zipIdx.foldl (fun cs (c,j)=>cs.setIfInBounds (off+j) c) cells)=((c.toList.zipIdx 0).foldl (fun cs (p:Value×Nat)=>cs.setIfInBounds (off+p.2) p.1) cells):=by
 rw[←Array.foldl_toList,Array.toList_zipIdx]
theorem LR.setMany {x:X} {ds:List D} {vs:List Value} (h:LR w x cs us) (g:LR w x ds vs) (off:Nat) (hl:off+ds.length≤cs.length):
  LR w x (setMany cs off ds) (((vs.zipIdx 0).foldl (fun(cs:Array Value) (p:Value×Nat)=>cs.setIfInBounds (off+p.2) p.1) us.toArray)).toList:=by
 have hg:=fun k=>AK off vs 0 us.toArray k (by simp;have:=h.len;have:=g.len;omega);simp only[wt] at hg;have hs:=yu off (vs.zipIdx 0) us.toArray
 have yh:∀k u,((((vs.zipIdx 0).foldl (fun(cs:Array Value) (p:Value×Nat)=>cs.setIfInBounds (off+p.2) p.1) us.toArray)).toList)[k]?=some u→
   (off≤k∧k<off+vs.length∧vs[k-off]?=some u)∨(¬(off≤k∧k<off+vs.length)∧us[k]?=some u):=by
  intro k u hk;rw[VQ,hg k] at hk
  split at hk
  ·rename_i hc;exact .inl ⟨hc.1,hc.2,hk⟩
  ·rename_i hc;exact .inr ⟨hc,by simpa using hk⟩
 refine⟨?_,fun u hu=>?_,fun i c u hc hu=>?_⟩
 ·exact(fN ds cs off).trans (h.len.trans (IN.symm.trans (hs.symm.trans Array.length_toList.symm)))
 ·obtain⟨k,hk⟩:=GB hu
  rcases yh k u hk with⟨_,_,h'⟩|⟨_,h'⟩
  ·exact g.one u (Qa2 h')
  ·exact h.one u (Qa2 h')
 ·rw[mq ds cs off i hl] at hc
  rcases yh i u hu with⟨h1,h2,h'⟩|⟨h1,h'⟩
  ·rw[if_pos ⟨h1,by rw[g.len];exact h2⟩] at hc;exact g.rel _ c u hc h'
  ·rw[if_neg (by rw[g.len];exact h1)] at hc;exact h.rel _ c u hc h'
theorem Cd {w:World} {x:X} {place nX:Nat→Option (Nat×Nat)} (hp:∀i r,place i=some r→nX i=some r):∀(parts:List (Nat×D)) (parts':List (Nat×Value)) {cs r:List D} {us:List Value},
  parts.length=parts'.length→(∀(i:Nat) p q,parts[i]?=some p→parts'[i]?=some q→p.1=q.1∧VR w x p.2 q.2)→LR w x cs us→lj place cs parts=some r→
  ∃rs:List Value,Qa5 nX us.toArray parts'=some rs.toArray∧LR w x r rs
 |[],[],cs,r,us,_,_,h,hf=>by simp[lj] at hf;subst hf;exact⟨us,rfl,h⟩
 |[],_::_,_,_,_,hl,_,_,_=>by simp at hl
 |_::_,[],_,_,_,hl,_,_,_=>by simp at hl
 |(i,d)::parts,(i',v)::parts',cs,r,us,hl,hr,h,hf=>by
  obtain⟨rfl,hv⟩:=hr 0 _ _ rfl rfl;simp only[lj] at hf
  split at hf
  ·rename_i off size ds fT kZ
   split at hf
   ·cases hf
   ·rename_i hn;have hds:=tq hv kZ;simp only[not_or] at hn;obtain⟨jX,CA⟩:=hn;have jX:ds.length=size:=Δ.1 jX;have hlen:off+ds.length≤cs.length:=by omega
    have hsz:v.cells.size=ds.length:=by rw[hds.len];simp
    obtain⟨rs,h1,h2⟩:=Cd hp parts parts' (by simpa using hl) (fun j p q hp hq=>hr (j+1) p q hp hq) (h.setMany hds off hlen) hf;refine⟨rs,?_,h2⟩;simp only[Qa5,hp _ _ fT];rw[if_neg (by simp[hsz,jX];have:=h.len;omega),Ki]
    simpa using h1
  ·cases hf
section
variable{pv:Pv} {P:Program} (ok:pv.Ok P)
include ok
theorem z6 (w:World):∀(fs:List Field) {ps:List (Nat×Nat)},qk pv fs=some ps→(fs.mapM (fun f=>(do pure (f.offset,←sizeOf f.type):Sem (Nat×Nat)))).run P w=.ok ps w
 |[],ps,h=>by simp[qk] at h;subst h;simp
 |f::fs,ps,h=>by
  simp only[qk] at h
  split at h
  ·rename_i s hs
   split at h
   ·rename_i r hr;cases h;have:=z6 w fs hr;simp only[List.mapM_cons,ε,cV ok hs,δ,μ];rw[this]
    rfl
   ·cases h
  ·cases h
variable{t:Nat}
theorem j9 (w:World) (x:X) {cs:List D} (h:ec pv t=some cs):∃v,(zeroValue t).run P w=.ok v w∧LR w x cs v.cells.toList:=by
 unfold ec at h
 split at h
 ·rename_i z hz;obtain⟨v,hv,rfl⟩:=Db ok hz w;exact⟨v,hv,tq (.im _ _ (xv _ _ v)) h⟩
 ·cases h
theorem NC {w:World} {x:X} {parts:List (Nat×D)} {parts':List (Nat×Value)} {d:D} (hl:parts.length=parts'.length) (hr:∀(i:Nat) p q,parts[i]?=some p→parts'[i]?=some q→p.1=q.1∧VR w x p.2 q.2) (h:Cq pv t parts=some d):
  ∃v,(lx t parts'.toArray).run P w=.ok v w∧VR w x d v:=by
 unfold Cq at h
 split at h
 ·rename_i z hz;obtain⟨v,hv,hc⟩:=j9 ok w x hz
  have base:∀{r:List D} {place nX:Nat→Option (Nat×Nat)},(∀i r,place i=some r→nX i=some r)→lj place z parts=some r→
    ∃rs:List Value,Qa5 nX v.cells parts'=some rs.toArray∧LR w x r rs:=by
   intro r place nX hp hf;obtain⟨rs,h2,h3⟩:=Cd hp parts parts' hl hr hc hf;exact⟨rs,by simpa using h2,h3⟩
  split at h
  ·rename_i fields hu
   split at h
   ·rename_i ps Cz;obtain⟨r,hf,rfl⟩:=κ.1 h;obtain⟨rs,h1,h2⟩:=base (nX:=fun i=>ps[i]?) (by simp) hf;refine⟨.agg rs.toArray,?_,h2.agg⟩;have hm:=z6 ok w _ Cz;simp only[lx,ε,hv,δ,aT ok hu,Array.mapM_eq_mapM_toList,Sem.run_map];rw[hm];simp[h1]
   ·cases h
  ·rename_i n e hu
   split at h
   ·rename_i s hs;obtain⟨r,hf,rfl⟩:=κ.1 h;obtain⟨rs,h1,h2⟩:=base (nX:=fun i=>some (i*s,s)) (by simp) hf;refine⟨.agg rs.toArray,?_,h2.agg⟩;simp[lx,hv,aT ok hu,cV ok hs,h1]
   ·cases h
  ·cases h
 ·cases h
end
end Go.V
namespace Go.V
open Go.RowKit
variable{w:World}{b o:Nat}
theorem dC.append {x:X} {l r:List D} (h:dC w x b o l) (g:dC w x b (o+l.length) r):dC w x b o (l++r):=by
 intro j d hd;rw[YH] at hd
 split at hd
 ·exact h j d hd
 ·have:=g _ d hd
  rwa [show o+l.length+(j-l.length)=o+j by omega] at this
theorem dC.nil {x:X}:dC w x b o []:=by intro j d hd;simp at hd
theorem tt {w:World} {x:X} {b s:Nat}:∀(es:List D) (off:Nat),(∀(i:Nat) e,es[i]?=some e→e.cells.length=s)→(∀(i:Nat) e,es[i]?=some e→dC w x b (off+i*s) e.cells)→
  dC w x b off (es.flatMap D.cells)∧(es.flatMap D.cells).length=es.length*s
 |[],off,_,_=>⟨.nil,by simp⟩
 |e::es,off,hs,hc=>by
  have h0:=hc 0 e rfl;have hl:=hs 0 e rfl
  obtain⟨h1,h2⟩:=tt es (off+s) (fun i e' he=>hs (i+1) e' he) (fun i e' he=>by
   have:=hc (i+1) e' he
   rwa [show off+(i+1)*s=off+s+i*s by rw[Ξ];omega] at this)
  simp only[List.flatMap_cons,Q5,υ];refine⟨dC.append (by simpa using h0) (by rw[hl];exact h1),?_⟩;rw[h2,hl,Ξ];omega
variable{c:List D}
theorem dC.lr {x:X} (h:dC w x b o c) (P:Program):∃us:List Value,(loadCells ⟨b,o,none⟩ c.length).run P w=.ok us.toArray w∧LR w x c us:=by
 obtain⟨us,h1,h2,h3,h4⟩:=h.list;exact⟨us,by rw[←h1];exact vg h2,h1.symm,h3,h4⟩
variable{P:Program}
theorem tY (a:Addr):(loadCells a 0).run P w=.ok #[] w:=rfl
theorem EO (w:World) (x:X) (l:List UInt8):LR w x (l.map fun b=>.int .u8 b.toNat) (l.map fun b=>.int .u8 b.toNat):=by
 refine⟨by simp,fun u hu=>?_,fun i c u hc hu=>?_⟩
 ·obtain⟨b,_,rfl⟩:=List.mem_map.1 hu;rfl
 ·simp only[List.getElem?_map] at hc hu
  cases hb:l[i]? with
  |none=>simp[hb] at hc
  |some b=>simp[hb] at hc hu;subst hc;subst hu;exact .im _ _ (.int _ _)
variable{cs:List D}{us:List Value}
theorem LR.take {x:X} (h:LR w x cs us) (n:Nat):LR w x (cs.take n) (us.take n):=
 ⟨by simp[h.len],fun u hu=>h.one u (Qa3 hu),fun i c u hc hu=>by
  rw[Ω] at hc hu
  split at hc
  ·rename_i hi;rw[if_pos hi] at hu;exact h.rel i c u hc hu
  ·cases hc⟩
variable{ds:List D}
theorem LR.append {x:X} {vs:List Value} (h:LR w x cs us) (g:LR w x ds vs):LR w x (cs++ds) (us++vs):=
 ⟨by simp[h.len,g.len],fun u hu=>(List.mem_append.1 hu).elim (h.one u) (g.one u),fun i c u hc hu=>by
  rw[YH] at hc hu
  split at hc
  ·rename_i hi;rw[if_pos (by rw[←h.len];exact hi)] at hu;exact h.rel i c u hc hu
  ·rename_i hi;rw[if_neg (by rw[←h.len];exact hi)] at hu;rw[←h.len] at hu;exact g.rel _ c u hc hu⟩
variable{st:St}{β:Nat→Option (Nat×Nat)}{Z:Nat→Prop}
theorem w7 (h:jW w st β Z) {d:D} {v:Value} {n:Nat} {ys:List D} (hv:VR w (st.x β Z) d v) (hr:su st d=some (n,ys)):
  (VT v).run P w=.ok n w∧∀s m,m≤n→ys.length=n*s→∃us:List Value,(ι s m v).run P w=.ok us.toArray w∧LR w (st.x β Z) (ys.take (m*s)) us:=by
 unfold su at hr
 split at hr
 ·rename_i es;cases hr;obtain⟨a,cap,rfl,hc,vN⟩:=oS hv;refine⟨rfl,fun s m hm hs=>?_⟩
  rcases vN with rfl|⟨b,off,s0,rfl,hz,jO,hcl,_⟩
  ·have lC:m=0:=by simpa using hm
   subst lC;refine⟨[],?_,⟨by simp,by simp,by simp⟩⟩
   cases a with
   |none=>simp[ι]
   |some a=>simp[ι,tY]
  ·obtain⟨h1,h2⟩:=tt es off (fun i e he=>(jO i e he).2) hcl
   by_cases h0:es.length=0
   ·have lC:m=0:=by omega
    subst lC;exact⟨[],by simp[ι,tY],⟨by simp,by simp,by simp⟩⟩
   ·have hss:s0=s:=bU (by omega) (h2.symm.trans hs);subst hss;obtain⟨us,lB,oP⟩:=(h1.take (m*s0)).lr P;have hle:m*s0≤(es.flatMap D.cells).length:=by rw[h2];exact θ _ hm
    rw[Qai,Qar hle] at lB;exact⟨us,lB,oP⟩
 ·cases hr;rw[gT hv];refine⟨rfl,fun s m hm hs=>⟨[],by simp[ι],⟨by simp,by simp,by simp⟩⟩⟩
 ·rename_i k aE off len sz;obtain⟨⟨a,c⟩,hm,hr⟩:=γ.1 hr;dsimp only at hr
  split at hr
  ·rename_i hle;cases hr;obtain⟨ad,cap,rfl,hc,hk,_,mB⟩:=gS hv;obtain⟨b,base,Ou,hb,hsz,B_⟩:=mB (eD hm).2;have hcl:=((h.cells hm hb).drop off).take (n*sz);have hlen:((c.drop off).take (n*sz)).length=n*sz:=by simp;omega
   refine⟨rfl,fun s m Kd hs=>?_⟩
   rcases B_ with rfl|⟨rfl,_⟩
   ·have lC:m=0:=by omega
    subst lC;exact⟨[],by simp[ι,tY],⟨by simp,by simp,by simp⟩⟩
   ·obtain⟨us,lB,oP⟩:=(hcl.take (m*s)).lr P;have hle:m*s≤((c.drop off).take (n*sz)).length:=by rw[hs];exact θ _ Kd
    rw[Qai,Qar hle] at lB;exact⟨us,lB,oP⟩
  ·cases hr
 ·rename_i l;cases hr;rw[iW hv];refine⟨by simp[VT,JS],fun s m hm hs=>?_⟩;simp only[List.length_map] at hs
  by_cases h0:l.length=0
  ·have lC:m=0:=by omega
   subst lC;have hl:l=[]:=ξ.1 h0;subst hl;exact⟨[],by simp[ι],⟨by simp,by simp,by simp⟩⟩
  ·have hss:s=1:=by
    have:l.length*1=l.length*s:=by omega
    exact(bU (by omega) this).symm
   subst hss;refine⟨(l.take m).map fun b=>.int .u8 b.toNat,?_,?_⟩
   ·simp only[ι,μ]
    congr 1
    apply Qau;simp[Pe]
   ·have:=(EO w (st.x β Z) l).take (m*1)
    simpa[←List.map_take] using this
 ·cases hr
def wU (c:Array Value) (off:Nat):List Value→Array Value
 |[]=>c
 |v::vs=>wU (c.setIfInBounds off v) (off+1) vs
theorem pT:∀(vs:List Value) (c:Array Value) (off:Nat),(wU c off vs).size=c.size
 |[],c,off=>rfl
 |v::vs,c,off=>by simp only[wU];rw[pT vs];simp
theorem wT:∀(vs:List Value) (c:Array Value) (off j:Nat),off+vs.length≤c.size→(wU c off vs)[j]?=if off≤j∧j<off+vs.length then vs[j-off]? else c[j]?
 |[],c,off,j,_=>by simp only[wU,VM,wt];rw[if_neg (by omega)]
 |v::vs,c,off,j,h=>by
  simp only[υ] at h;simp only[wU,υ];rw[wT vs _ (off+1) j (by simp;omega)]
  by_cases h1:off+1≤j∧j<off+1+vs.length
  ·rw[if_pos h1,if_pos (by omega),show j-off=(j-(off+1))+1 by omega,τ]
  ·rw[if_neg h1]
   by_cases h2:j=off
   ·subst h2;rw[if_pos (by omega),Qa0,ζ (by omega)];rfl
   ·rw[if_neg (by omega),ρ (by omega)]
theorem nR {P:Program} {b:Nat} {el:TypeId} {fr:Nat×Nat}:∀(vs:List Value) (i o:Nat) (w:World) (c:Array Value),w.heap[b]?=some (.cells c el fr)→o+i+vs.length≤c.size→(∀q,q<c.size→¬(fr.1≤q∧q<fr.2))→
  (∀v∈vs,v.oneCell'=true)→(storeCells ⟨b,o,none⟩ vs i).run P w=.ok () (match vs with|[]=>w|_=>wput w b (.cells (wU c (o+i) vs) el fr))
 |[],i,o,w,c,_,_,_,_=>rfl
 |v::vs,i,o,w,c,hw,hl,hf,h1=>by
  simp only[υ] at hl
  have SY:(⟨b,o,none⟩:Addr).add i=⟨b,o+i,none⟩:=by
   unfold Addr.add;split
   ·rename_i e;subst e;rfl
   ·rfl
  have hcell:w.cell? ⟨b,o+i,none⟩=some (c[o+i]'(by omega)):=by
   simp[World.cell?,hw,Array.getElem?_eq_getElem (show o+i<c.size by omega)]
  have hfr:w.frozen? ⟨b,o+i,none⟩=false:=by
   have:=hf (o+i) (by omega);simp only[World.frozen?,hw];simp only[Bool.and_eq_false_iff,decide_eq_false_iff_not];omega
  have iM:w.setCell ⟨b,o+i,none⟩ v=wput w b (.cells (c.setIfInBounds (o+i) v) el fr):=by
   simp only[World.setCell,wput]
   congr 1
   apply BY;intro j;rw[Array.getElem?_modify]
   by_cases hj:b=j
   ·subst hj
    have hb:b<w.heap.size:=by
     rcases φ b w.heap.size with h'|h'
     ·exact h'
     ·rw[cg h'] at hw;cases hw
    rw[if_pos rfl,hw,ζ hb];simp
   ·rw[if_neg hj,ρ hj]
  have hb:b<w.heap.size:=by
   rcases φ b w.heap.size with h'|h'
   ·exact h'
   ·rw[cg h'] at hw;cases hw
  have ZE:(wput w b (.cells (c.setIfInBounds (o+i) v) el fr)).heap[b]?=some (.cells (c.setIfInBounds (o+i) v) el fr):=by
   simp only[wput];rw[ζ hb]
  have ih:=nR (P:=P) vs (i+1) o (wput w b (.cells (c.setIfInBounds (o+i) v) el fr)) _ ZE (by simp;omega) (by simpa using hf) (fun u hu=>h1 u (List.mem_cons_of_mem _ hu));simp only[storeCells,ε,SY,run_store P w _ v .plain (h1 v (List.mem_cons_self ..)),hcell,hfr,Γ,if_false,δ,iM,ih]
  cases vs with
  |nil=>simp[wU]
  |cons v' vs=>
   simp only[wU]
   congr 1
   simp[wput,show o+(i+1)=o+i+1 by omega]
variable{k base:Nat}
theorem Nx.move {w':World} (h:jW w st β Z) {aE:Nat} {a a':Bool} {c':List D} (hm:st.ib k aE=some (a,c)) (hb:β k=some (b,base)) (du:st.ro≤k) {cs:Array Value} {el:TypeId} (hh:w'.heap=w.heap.push (.cells cs el (0,0))) (ho:w'.os=w.os) (ht:w'.tape=w.tape) (hp:w'.output=w.output) (hl:c'.length≤cs.size) (hc:∀(j:Nat) d,c'[j]?=some d→∃u,cs[j]?=some u∧u.oneCell'=true∧VR w (st.x β Z) d u):
  Nx w st β Z w' {st with bs:=st.bs.set k (.mem (aE+1) a' c')} (fun i=>if i=k then some (w.heap.size,0) else β i) Z:=by
 obtain⟨jm,nz⟩:=eD hm;have kq:k<st.bs.length:=h.dom k b base hb
 have hold:∀i,i<w.heap.size→w'.heap[i]?=w.heap[i]?:=by
  intro i hi;rw[hh,Bv,if_neg (by omega)]
 have heq:w'.heap[w.heap.size]?=some (.cells cs el (0,0)):=by rw[hh];simp
 have hsz:w'.heap.size=w.heap.size+1:=by rw[hh,Qaf]
 have yc:∀i,i≠k→({st with bs:=st.bs.set k (.mem (aE+1) a' c')}:St).aE i=st.aE i:=by
  intro i hi;simp only[St.aE];rw[ς (by omega)]
 have ya:({st with bs:=st.bs.set k (.mem (aE+1) a' c')}:St).aE k=some (aE+1):=by
  simp[St.aE,kq,eB]
 have hk:fq w (st.x β Z) w' (({st with bs:=st.bs.set k (.mem (aE+1) a' c')}:St).x (fun i=>if i=k then some (w.heap.size,0) else β i) Z):=by
  refine⟨fun i p hp=>?_,fun i hi=>⟨hi,hold i (h.zl i hi)⟩,fun i q p hi hq=>?_,fun i q hq sU i' y hy=>?_⟩
  ·by_cases hik:i=k
   ·subst hik;exact⟨(w.heap.size,0),by simp[St.x]⟩
   ·exact⟨p,by simp only[St.x] at hp⊢;rw[if_neg hik];exact hp⟩
  ·by_cases hik:i=k
   ·subst hik;simp only[St.x] at hq⊢;rw[ya] at hq;cases hq;exact⟨aE,nz,by omega⟩
   ·simp only[St.x] at hq⊢;rw[yc i hik] at hq;exact⟨q,hq,η _⟩
  ·by_cases hik:i=k
   ·subst hik;simp only[St.x] at hq sU hy⊢;rw[ya] at hq;cases hq;rw[nz] at sU;simp at sU
   ·simp only[St.x] at hy⊢;exact⟨by rw[if_neg hik];exact hy,gg (hold i' (h.lt i i' y hy))⟩
 refine⟨⟨?_,?_,?_,?_,?_,?_,?_,?_⟩,hk,⟨ho,ht,hp,by omega,fun i hi _=>hold i hi⟩,?_,fun _ hz=>.inl hz,by simp,rfl,rfl,?_,fun i _ h0=>by
   by_cases e:i=k
   ·subst e;rw[hb] at h0;cases h0
   ·simp only[if_neg e];rw[ς (by omega)];exact⟨h0,rfl⟩⟩
 ·intro i q y hq;simp only[Qam];(try dsimp only at hq)
  split at hq
  ·rename_i e;subst e;exact kq
  ·exact h.dom i q y hq
 ·intro i q y hq;(try dsimp only at hq)
  split at hq
  ·cases hq;omega
  ·have:=h.lt i q y hq;omega
 ·intro i i' q y y' h1 h2;(try dsimp only at h1 h2)
  split at h1<;>split at h2
  ·omega
  ·rename_i e _;cases h1;have:=h.lt _ _ _ h2;omega
  ·rename_i _ e;cases h2;have:=h.lt _ _ _ h1;omega
  ·exact h.inj i i' q y y' h1 h2
 ·intro i q y hq hz;(try dsimp only at hq)
  split at hq
  ·cases hq;have:=h.zl _ hz;omega
  ·exact h.zd i q y hq hz
 ·intro i hz;have:=h.zl i hz;omega
 ·intro i q y bx hq yj;(try dsimp only at hq yj)
  split at hq
  ·rename_i e;subst e;cases hq;rw[Ut kq] at yj;cases yj;refine⟨cs,el,(0,0),heq,by omega,vT.zero _,fun j d hd=>?_⟩;obtain⟨u,lB,oP,uJ⟩:=hc j d hd;exact⟨u,by rw[Qa1];exact lB,oP,uJ.mono hk⟩
  ·rename_i e;rw[ς (by omega)] at yj;exact(h.box i q y bx hq yj).cw hk (hold q (h.lt i q y hq))
 ·have:=h.flr;simp;omega
 ·have:=h.ro;simp;omega
 ·intro i q y hq;(try dsimp only at hq)
  split at hq
  ·cases hq;exact .inr (η _)
  ·exact .inl ⟨y,hq⟩
 ·intro i hi;dsimp only;rw[ς (by omega),if_neg (by omega)];exact⟨rfl,rfl⟩
theorem gq {r:Nat} (h:st.ku k r=true):st.ro≤k:=by
 simp only[St.ku,Qag,decide_eq_true_eq] at h;exact h.1
theorem Hb {ai:St} (h:jW w st β Z) {aE off:Nat} (hu:LR w (st.x β Z) ds us) (hw:st.wr k aE off ds=some ai) (hb:β k=some (b,base)) {a:Addr} (ha:us=[]∨a=⟨b,base+off,none⟩):∃w',(storeCells a us).run P w=.ok () w'∧∃β',Nx w st β Z w' ai β' Z∧β'=β:=by
 unfold St.wr at hw
 split at hw
 ·rename_i ar c hm
  split at hw
  ·rename_i hc;cases hw;obtain⟨cs,el,fr,h1,h2,h3,h4⟩:=h.row hm hb;have hlen:=hu.len
   have hx:(fun i=>if i=k then some (b,base) else β i)=β:=by
    funext i;split
    ·rename_i e;subst e;exact hb.symm
    ·rfl
   have key:∀cs':Array Value,cs'.size=cs.size→(∀j,cs'[base+j]?=if off≤j∧j<off+us.length then us[j-off]? else cs[base+j]?)→
     Nx w st β Z (wput w b (.cells cs' el fr)) {st with bs:=st.bs.set k (.mem aE ar (setMany c off ds))} β Z:=by
    intro cs' hs hg
    have:=Nx.write (a':=ar) (rb:=aE) (c':=setMany c off ds) (eL:=base) h hm hb (gq hc.2) (η _) (fun _=>rfl) h1 hs (by rw[fN];omega) (fun j d hd=>by
     rw[mq ds c off j hc.1] at hd;rw[hg j]
     split at hd
     ·rename_i hj;rw[if_pos (by omega)];exact hu.at_ hd
     ·rename_i hj;rw[if_neg (by omega)]
      exact h4 j d hd)
    rwa [hx] at this
   rcases Nat.eq_zero_or_pos us.length with h0|h0
   ·have Yx:us=[]:=ξ.1 h0;subst Yx;have gx:b<w.heap.size:=h.lt k b base hb
    have Av:wput w b (.cells cs el fr)=w:=by
     simp only[wput]
     have:w.heap.setIfInBounds b (.cells cs el fr)=w.heap:=by
      apply BY;intro j
      by_cases hj:b=j
      ·subst hj;rw[ζ gx,h1]
      ·rw[ρ hj]
     rw[this]
    have:=key cs rfl (fun j=>by rw[if_neg (by simp only[VM,wt];omega)]);rw[Av] at this;exact⟨w,rfl,β,this,rfl⟩
   ·rcases ha with rfl|rfl
    ·simp at h0
    ·have rP:=nR (P:=P) us 0 (base+off) w cs h1 (by omega) h3.2 hu.one;refine⟨_,rP,β,?_,rfl⟩
     cases us with
     |nil=>simp at h0
     |cons u us=>
      refine key _ (pT _ _ _) fun j=>?_;rw[wT _ _ _ _ (by omega)]
      by_cases hj:off≤j∧j<off+(u::us).length
      ·rw[if_pos hj,if_pos (by omega)];congr 1<;>omega
      ·rw[if_neg hj,if_neg (by omega)]
  ·cases hw
 ·cases hw
section
variable{pv:Pv} {P:Program} (ok:pv.Ok P)
include ok
variable{w:World}{st ai:St}{β:Nat→Option (Nat×Nat)}{Z:Nat→Prop}{d e:D}{u v:Value}
theorem KC (h:jW w st β Z) {t:Nat} (hu:VR w (st.x β Z) d u) (hv:VR w (st.x β Z) e v) (hs:mK pv t d e st=some ai):
  ∃w',(Qao t u v).run P w=.ok () w'∧Nx w st β Z w' ai β Z:=by
 unfold mK at hs
 split at hs
 ·rename_i k aE off cs kZ
  split at hs
  ·rename_i hsz;obtain⟨a,rfl,hk,mB⟩:=dx hu;have hc:=tq hv kZ
   have nz:st.aE k=some aE:=by
    unfold St.wr at hs
    split at hs
    ·rename_i hm;exact(eD hm).2
    ·cases hs
   obtain⟨b,base,hb,rfl⟩:=mB nz;obtain⟨w',h1,β',h2,rfl⟩:=Hb (P:=P) h hc hs hb (.inr rfl);refine⟨w',?_,h2⟩;have D0:v.cells.size=cs.length:=by rw[hc.len];simp
   simp[Qao,Z5,storeVar,cV ok hsz,D0,h1]
  ·cases hs
 ·cases hs
theorem Qg (h:jW w st β Z) {tL:List TypeId} {ty:TypeId} {r:D} (hu:VR w (st.x β Z) d u) (hv:VR w (st.x β Z) e v) (hs:AY pv tL d e st=some (r,ai)):∃z w',(Pd tL.toArray ty #[u,v]).run P w=.ok z w'∧Nx w st β Z w' ai β Z∧VR w' (ai.x β Z) r z:=by
 unfold AY at hs
 split at hs
 ·rename_i dT rest
  split at hs
  ·rename_i el SP;obtain⟨s,hsz,hs⟩:=γ.1 hs;obtain⟨⟨m,ys⟩,kL,hs⟩:=γ.1 hs;dsimp only at hs
   split at hs
   ·cases hs
   ·rename_i mz;have mz:ys.length=m*s:=Δ.1 mz;obtain⟨hlen,fu⟩:=w7 (P:=P) h hv kL
    cases d with
    |win k aE off len sz=>
     simp only at hs
     split at hs
     ·cases hs
     ·rename_i hss;have hss:sz=s:=Δ.1 hss;subst hss;obtain⟨a,cap,rfl,hc,hk,_,mB⟩:=gS hu;obtain⟨st1,hwr,hs⟩:=κ.1 hs;cases hs
      have nz:st.aE k=some aE:=by
       unfold St.wr at hwr
       split at hwr
       ·rename_i hm;exact(eD hm).2
       ·cases hwr
      obtain⟨b,base,Ou,hb,_,B_⟩:=mB nz;obtain⟨us,h1,h2⟩:=fu sz (min m len) (Nat.min_le_left _ _) mz
      have hla:us=[]∨a=⟨b,base+off,none⟩:=by
       rcases B_ with rfl|⟨rfl,_⟩
       ·left;have:len=0:=by omega
        subst this;have:=h2.len;simp at this;exact ξ.1 this.symm
       ·exact .inr rfl
      obtain⟨w',h3,β',h4,rfl⟩:=Hb (P:=P) h h2 hwr hb hla;refine⟨_,w',?_,h4,.im _ _ (.int _ _)⟩;have D8:Qb0 m len=min m len:=rfl;simp only[Pd,Zt,Wh,τ,ε,aT ok SP,δ,hlen,cV ok hsz,D8,h1,h3,μ,goInt]
    |nul=>
     cases hs;rw[gT hu];obtain⟨us,h1,h2⟩:=fu s 0 (Qaw _) mz;have Yx:us=[]:=by have:=h2.len;simp at this;exact ξ.1 this.symm
     subst Yx;refine⟨.int .i64 0,w,?_,Nx.same h,.im _ _ (.int _ _)⟩;have D8:Qb0 m 0=0:=Nat.min_zero m;simp only[Pd,Zt,Wh,τ,ε,aT ok SP,δ,hlen,cV ok hsz,D8,h1,μ,goInt]
     rfl
    |_=>cases hs
  ·cases hs
 ·cases hs
end
end Go.V
namespace Go.V
open Go.RowKit
theorem H_:∀(r c n:Nat),c≤n+n/4+192→Qaa n r c≤n+n/4+192
 |0,c,n,h=>h
 |r+1,c,n,h=>by
  unfold Qaa
  split
  ·exact h
  ·exact H_ r _ n (by omega)
theorem OW (n c:Nat) (h:c≤n):Zn n c≤2*n+192:=by
 unfold Zn
 split
 ·omega
 ·split
  ·omega
  ·have:=H_ 4 c n (by omega);omega
theorem Jb {BE c bytes:Nat} (hc:c≤BE) (h1:1≤BE) (h:BE*bytes≤1099511627776):¬Zn BE c*bytes>2^48:=by
 have h2:=θ bytes (OW BE c hc);rw[Ξ,Nat.mul_assoc] at h2;have h3:bytes≤BE*bytes:=by have:=θ bytes h1;omega
 have:192*bytes≤192*1099511627776:=Nat.mul_le_mul_left _ (by omega);omega
theorem NA (BE Dv:Nat) (el:TypeId) (t:Nat):BE≤(Question.appendCap BE Dv el).cut t:=by
 simp only[Question.cut];omega
theorem zf (w:World) (cs:Array Value) (el:TypeId) (fr:Nat×Nat):dS (w.alloc (.cells cs el fr)) w.heap.size=some cs.size:=by
 have:(w.alloc (.cells cs el fr)).heap[w.heap.size]?=some (.cells cs el fr):=by
  show(w.heap.push _)[w.heap.size]?=_;simp
 simp only[dS,this]
theorem pR {w':World} {x:X} {k v len s cap b sz:Nat} (nz:x.aE k=some v) (hb:x.β k=some (b,0)) (hsz:dS w' b=some sz) (hl:len≤cap) (hc:cap*s≤sz):
  VR w' x (.win k v 0 len s) (.slice (some ⟨b,0,none⟩) len cap):=by
 refine .win k v 0 len s _ cap hl ⟨_,hb⟩ (fun c Gr=>?_) fun _=>⟨b,0,sz,hb,hsz,.inr ⟨rfl,by omega⟩⟩
 rw[nz] at Gr;cases Gr;exact η _
def EW (i:TypeInfo) (base:Option Addr) (iI mL n:Nat) (v:Value):Sem Value:=do
 let new←ι i.size n v
 if let some a:=base then storeCells (a.add (iI*i.size)) new.toList
 pure (.slice base (iI+n) mL)
def G4 (el:TypeId) (i:TypeInfo) (base:Option Addr) (iI mL n:Nat) (v:Value):Sem Value:=do
 let FO←choose (.appendCap (iI+n) mL el)
 askRoom (FO*i.bytes)
 let Dv←ι i.size iI (.slice base iI mL)
 let new←ι i.size n v
 let z←zeroValue el
 pure (.slice (some (←newRow el (Dv++new++Cf z.cells (FO-(iI+n))))) (iI+n) FO)
section
variable{pv:Pv} {P:Program} (ok:pv.Ok P)
include ok
variable{w:World}{sT xT el n iI mL:Nat}{base:Option Addr}{v:Value}
theorem G3 {rest:List TypeId} {ty:TypeId} {xd:TypeDesc} {i:TypeInfo} (QI:pv.db sT=some (.slice el)) (QF:pv.db xT=some xd) (QL:¬gD xd=true) (hi:pv.info el=some i) (hlen:(VT v).run P w=.ok n w) (oJ:iI+n≤mL):
  (Ψ (sT::xT::rest).toArray ty #[.slice base iI mL,v]).run P w=(EW i base iI mL n v).run P w:=by
 have D0:∀w':World,(sizeOf el).run P w'=.ok i.size w':=cV ok (nP hi);cases xd<;>first
  |exact absurd rfl QL
  |(simp only[Ψ,EW,Zt,Wh,τ,ε,aT ok QI,aT ok QF,δ,D0,μ,Γ,if_false,hlen,oJ,if_true,Qan];rfl)
theorem Qn {rest:List TypeId} {ty:TypeId} {xd:TypeDesc} {i:TypeInfo} (QI:pv.db sT=some (.slice el)) (QF:pv.db xT=some xd) (QL:¬gD xd=true) (hi:pv.info el=some i) (hlen:(VT v).run P w=.ok n w) (oJ:¬iI+n≤mL) (hby:¬i.bytes=0) (pw:¬Zn (iI+n) mL*i.bytes>2^48):
  (Ψ (sT::xT::rest).toArray ty #[.slice base iI mL,v]).run P w=(G4 el i base iI mL n v).run P w:=by
 have D0:∀w':World,(sizeOf el).run P w'=.ok i.size w':=cV ok (nP hi);have VJ:∀w':World,(typeInfo el).run P w'=.ok i w':=sq ok hi;cases xd<;>first
  |exact absurd rfl QL
  |(simp only[Ψ,G4,Zt,Wh,τ,ε,aT ok QI,aT ok QF,δ,D0,μ,Γ,if_false,hlen,oJ,VJ,hby,pw,or_self,and_false,Qan,if_true];try rfl)
theorem J6 {st ai:St} {β:Nat→Option (Nat×Nat)} {Z:Nat→Prop} (h:jW w st β Z) {tL:List TypeId} {ty:TypeId} {d e r:D} {u:Value} (hu:VR w (st.x β Z) d u) (hv:VR w (st.x β Z) e v) (hs:jV pv tL d e st=some (r,ai)):∃z w' β',(Ψ tL.toArray ty #[u,v]).run P w=.ok z w'∧Nx w st β Z w' ai β' Z∧VR w' (ai.x β' Z) r z:=by
 unfold jV at hs
 split at hs
 ·rename_i sT xT rest
  split at hs
  ·rename_i el xd QI QF
   split at hs
   ·cases hs
   ·rename_i QL;obtain⟨i,hi,hs⟩:=γ.1 hs;obtain⟨z,hz,hs⟩:=γ.1 hs;obtain⟨⟨n,ys⟩,kL,hs⟩:=γ.1 hs;dsimp only at hs
    split at hs
    ·cases hs
    ·rename_i wv;simp only[not_or] at wv;obtain⟨mz,hby,oB⟩:=wv;have mz:ys.length=n*i.size:=Δ.1 mz;have oB:z.length=i.size:=Δ.1 oB;obtain⟨hlen,fu⟩:=w7 (P:=P) h hv kL;obtain⟨us,RM,Jn⟩:=fu i.size n (η _) mz;rw[←mz,Qaj] at Jn;have hS:Nx w st β Z w.drew st β Z:=Nx.still h rfl rfl rfl rfl;obtain⟨zv,UD,RK⟩:=j9 ok w.drew (st.x β Z) hz;have hzs:zv.cells.size=i.size:=by have:=RK.len;rw[oB] at this;simpa using this.symm
     obtain⟨vs,ZF,O'⟩:=(w7 (P:=P) hS.sim (hv.mono hS.keeps) kL).2 i.size n (η _) mz;rw[←mz,Qaj] at O'
     have grow:∀(base:Option Addr) (iI mL:Nat) (os:List Value),u=.slice base iI mL→¬(iI+n≤mL)→(ι i.size iI u).run P w.drew=.ok os.toArray w.drew→os.length=iI*i.size→
       1≤iI+n→(iI+n)*i.bytes≤1099511627776→
       ∃cap cs,(Ψ (sT::xT::rest).toArray ty #[u,v]).run P w=.ok (.slice (some ⟨w.heap.size,0,none⟩) (iI+n) cap) (w.drew.alloc (.cells cs el))∧iI+n≤cap∧
        cap*i.size≤cs.size∧∀(j:Nat) q,(os++vs)[j]?=some q→cs[j]?=some q:=by
      intro base iI mL os hue oJ hos Sn h1 pw;subst hue;have Jz:=NA (iI+n) mL el (w.tape w.drawn (.appendCap (iI+n) mL el));generalize hq:(Question.appendCap (iI+n) mL el).cut (w.tape w.drawn (.appendCap (iI+n) mL el))=cap at Jz;refine⟨cap,os.toArray++vs.toArray++Cf zv.cells (cap-(iI+n)),?_,Jz,?_,?_⟩
      ·have R4:=Jb (bytes:=i.bytes) (Nat.le_of_lt (Nat.lt_of_not_le oJ)) h1 pw;rw[Qn ok QI QF QL hi hlen oJ hby R4,G4];simp only[ε,run_choose,Question.forced,Γ,if_false,δ,run_askRoom];have vP:({w with drawn:=w.drawn+1}:World)=w.drew:=rfl;rw[vP,hq];simp only[δ,hos,ZF,UD,newRow,ε,run_newObj,μ]
       rfl
      ·simp only[Array.size_append,IN,Cf,Array.size_map,Array.size_range,hzs];have:=O'.len;rw[Sn,←this,mz,←Ξ,←Ξ];exact θ _ (by omega)
      ·intro j q hj
       have hlt:j<(os++vs).length:=by
        rcases φ j (os++vs).length with h'|h'
        ·exact h'
        ·rw[ν h'] at hj;cases hj
       rw[Array.getElem?_append_left (by simpa using hlt)]
       simpa using hj
     cases d with
     |nul=>
      have US:=gT hu;simp only at hs
      split at hs
      ·rename_i hn;cases hs;subst US;subst hn;have RN:us=[]:=by have:=Jn.len;rw[mz] at this;simp at this;exact ξ.1 this.symm
       subst RN;refine⟨.slice none 0 0,w,β,?_,Nx.same h,.im _ _ .nul⟩;rw[G3 ok QI QF QL hi hlen (by omega),EW];simp only[ε,RM,δ,μ]
      ·rename_i hn
       split at hs
       ·rename_i pw;cases hs;obtain⟨cap,cs,h1,h2,h3,h4⟩:=grow none 0 0 [] US (by omega) (by rw[US];simp[ι]) (by simp) (by omega) (by simpa using pw);simp only[Qa1,List.nil_append] at h1 h2 h4
        obtain⟨hx,hx1,Jm,hx3⟩:=Nx.o0 (w':=w.drew.alloc (.cells cs el)) hS.sim true ys cs el (0,0) rfl rfl rfl rfl (by
         rw[mz];exact Φ (θ _ h2) h3) (vT.zero _) (fun j q hq=>by
          obtain⟨y,hy1,F_,BV⟩:=O'.at_ hq
          exact⟨y,h4 j y hy1,F_,BV⟩)
        exact⟨_,_,_,h1,hS.trans hx,pR Jm hx3 hx1 h2 h3⟩
       ·cases hs
     |win k aE off len sz=>
      simp only at hs
      split at hs
      ·rename_i c hm
       split at hs
       ·cases hs
       ·rename_i hsz;simp only[not_or,Nat.not_lt] at hsz;obtain⟨hsz,hcl⟩:=hsz;have hsz:sz=i.size:=Δ.1 hsz;obtain⟨a,cap,rfl,hc,hk,_,mB⟩:=gS hu;obtain⟨b,base,Ou,hb,rh,B_⟩:=mB (eD hm).2
        split at hs
        ·rename_i hn;cases hs;subst hn;have RN:us=[]:=by have:=Jn.len;rw[mz] at this;simp at this;exact ξ.1 this.symm
         subst RN;refine⟨.slice (some a) len cap,w,β,?_,Nx.same h,hu⟩;rw[G3 ok QI QF QL hi hlen (by omega),EW];simp only[ε,RM,δ,μ]
         rfl
        ·rename_i hn
         split at hs
         ·rename_i pw;obtain⟨pw,Oc⟩:=pw;cases hs;subst hsz;have Eb:((c.take (off+len*i.size)).drop off).length=len*i.size:=by simp;omega
          obtain⟨Ti,el0,fr0,r1,r2,r3,r4⟩:=h.row hm hb
          by_cases oJ:len+n≤cap
          ·
           have aaZ:a=⟨b,base+off,none⟩∧base+off+cap*i.size≤Ou:=by
            rcases B_ with h0|h0
            ·omega
            ·exact h0
           obtain⟨rfl,VV⟩:=aaZ;have acL:Ti.size=Ou:=by simp only[dS,r1] at rh;cases rh;rfl
           have acJ:us.length=n*i.size:=by rw[←Jn.len,mz]
           have VU:(len+n)*i.size≤cap*i.size:=θ _ oJ;rw[Ξ] at VU;have rP:=nR (P:=P) us 0 (base+off+len*i.size) w Ti r1 (by omega) r3.2 Jn.one
           have SY:(⟨b,base+off,none⟩:Addr).add (len*i.size)=⟨b,base+off+len*i.size,none⟩:=by
            unfold Addr.add;split
            ·rename_i e;rw[e];rfl
            ·rfl
           have hne:us≠[]∨us=[]:=by cases us<;>simp
           have Sy:(storeCells ⟨b,base+off+len*i.size,none⟩ us).run P w=.ok () (wput w b (.cells (wU Ti (base+off+len*i.size) us) el0 fr0)):=by
            rw[rP]
            cases us with
            |nil=>
             simp only[wU];have gx:b<w.heap.size:=h.lt k b base hb
             congr 1
             simp only[wput]
             have:w.heap.setIfInBounds b (.cells Ti el0 fr0)=w.heap:=by
              apply BY;intro j
              by_cases hj:b=j
              ·subst hj;rw[ζ gx,r1]
              ·rw[ρ hj]
             rw[this]
            |cons _ _=>simp
           have hx:=Nx.write (a':=true) (rb:=aE+1) (c':=(c.take (off+len*i.size)).drop off++ys) (eL:=base+off) h hm hb (gq Oc) (by omega) (fun e=>by omega) r1
            (pT us Ti (base+off+len*i.size)) (by rw[Q5,Eb,mz];omega) (fun j q hq=>by
             rw[wT _ _ _ _ (by omega)];rw[YH] at hq
             split at hq
             ·rename_i hj;rw[Eb] at hj;rw[if_neg (by omega)];rw[Θ,Ω] at hq
              split at hq
              ·have:=r4 _ q hq
               rwa [show base+(off+j)=base+off+j by omega] at this
              ·cases hq
             ·rename_i hj;rw[Eb] at hj hq;obtain⟨y,hy1,F_,BV⟩:=Jn.at_ hq
              have oH:j-len*i.size<us.length:=by
               rcases φ (j-len*i.size) us.length with h'|h'
               ·exact h'
               ·rw[ν h'] at hy1;cases hy1
              rw[if_pos (by omega)]
              exact⟨y,by rw[←hy1];congr 1;omega,F_,BV⟩)
           have kq:k<st.bs.length:=h.dom k b base hb;refine⟨.slice (some ⟨b,base+off,none⟩) (len+n) cap,_,_,?_,hx,?_⟩
           ·rw[G3 ok QI QF QL hi hlen oJ,EW];simp only[ε,RM,δ,μ,SY,Sy]
           ·refine .win k (aE+1) 0 (len+n) i.size _ cap oJ ⟨_,by simp[St.x];rfl⟩ (fun q hq=>?_) fun _=>⟨b,base+off,Ti.size,by simp[St.x],?_,.inr ⟨rfl,by omega⟩⟩
            ·simp[St.x,St.aE,kq,eB] at hq;omega
            ·have gx:b<w.heap.size:=h.lt k b base hb;simp only[dS,wput];rw[ζ gx];simp[pT]
          ·
           have hold:∃os:List Value,(ι i.size len (.slice (some a) len cap)).run P w.drew=.ok os.toArray w.drew∧LR w.drew (st.x β Z) ((c.take (off+len*i.size)).drop off) os:=by
            have U4:su st (.win k aE off len i.size)=some (len,(c.drop off).take (len*i.size)):=by
             simp[su,hm,hcl]
            have:=(w7 (P:=P) hS.sim (hu.mono hS.keeps) U4).2 i.size len (η _) (by simp;omega);obtain⟨os,D6,Aw⟩:=this;refine⟨os,D6,?_⟩;rw[List.take_take,Nat.min_self] at Aw
            rwa [Qap,Nat.add_sub_cancel_left]
           obtain⟨os,D6,Aw⟩:=hold;have Sn:os.length=len*i.size:=by rw[←Aw.len,Eb]
           obtain⟨ach,cs,h1,h2,h3,h4⟩:=grow (some a) len cap os rfl oJ D6 Sn (by omega) pw;have sW:=Aw.append O'
           have hx:=Nx.move (w':=w.drew.alloc (.cells cs el)) (a':=true) (c':=(c.take (off+len*i.size)).drop off++ys) hS.sim hm hb (gq Oc) rfl rfl rfl rfl (by
            rw[Q5,Eb,mz,←Ξ];exact Φ (θ _ h2) h3) (fun j q hq=>by
             obtain⟨y,hy1,F_,BV⟩:=sW.at_ hq
             exact⟨y,h4 j y hy1,F_,BV⟩)
           have kq:k<st.bs.length:=h.dom k b base hb;refine⟨_,_,_,h1,hS.trans hx,?_⟩
           refine .win k (aE+1) 0 (len+n) i.size _ ach h2 ⟨_,by simp[St.x];rfl⟩ (fun q hq=>?_) fun _=>⟨w.heap.size,0,cs.size,by simp[St.x],zf w.drew cs el (0,0),.inr ⟨rfl,by omega⟩⟩
           simp[St.x,St.aE,kq,eB] at hq;omega
         ·cases hs
      ·cases hs
     |_=>cases hs
  ·cases hs
 ·cases hs
end
end Go.V
namespace Go.V
open Go.RowKit
theorem pO (b o n:Nat):(⟨b,o,none⟩:Addr).add n=⟨b,o+n,none⟩:=by
 unfold Addr.add;split
 ·rename_i e;subst e;rfl
 ·rfl
variable{w:World}{off:Nat}
theorem IR.Na {Z:Nat→Prop} {cs:List D} {b:Nat} {f:Nat→Value} (hz:Z b) (hv:∀(j:Nat) c,cs[j]?=some c→w.cell? ⟨b,off+j,none⟩=some (f j)∧(f j).oneCell'=true) (hr:∀(j:Nat) c,cs[j]?=some c→IR w Z c (f j)) (n:Nat):IR w Z (.ep (cs.drop n)) (.pointer (some ⟨b,off+n,none⟩)):=by
 refine .ep _ b (off+n) (fun j=>f (n+j)) hz (fun j c hj=>?_) (fun j c hj=>?_)
 ·rw[Θ] at hj;have:=hv _ c hj
  rwa [show off+(n+j)=off+n+j by omega] at this
 ·rw[Θ] at hj;exact hr _ c hj
theorem VR.K' {x:X} {k vr:Nat} {a:Addr} (h:VR w x (.ptr k vr off) (.pointer (some a))) (n:Nat):VR w x (.ptr k vr (off+n)) (.pointer (some (a.add n))):=by
 cases h with
 |im _ _ h=>cases h
 |ptr _ _ _ _ hk hm h=>
  refine .ptr k vr (off+n) _ hk hm fun hv=>?_;obtain⟨b,base,hb,rfl⟩:=h hv;exact⟨b,base,hb,by rw[pO,ki]⟩
theorem zr (s:List UInt8) (l h:Nat):(⟨s.toArray⟩:ByteArray).extract l h=⟨((s.take h).drop l).toArray⟩:=by
 apply Qaz;simp[Pe,AI,Qap]
section
variable{pv:Pv} {P:Program} (ok:pv.Ok P)
include ok
variable{w:World}{t i:Nat}{d r:D}{u:Value}
theorem Ce {x:X} (hu:VR w x d u) (h:gZ pv t d i=some r):∃z,(AN t u i).run P w=.ok z w∧VR w x r z:=by
 unfold gZ at h
 split at h
 ·rename_i fields ht;obtain⟨f,hf,h⟩:=γ.1 h
  split at h
  ·cases h
  ·rename_i h0;obtain⟨s,hs,h⟩:=γ.1 h;have QJ:¬s=0:=by intro e;subst e;exact h0 hs
   split at h
   ·cases h;obtain⟨a,rfl,_⟩:=dx hu;refine⟨.pointer (some (a.add f.offset)),?_,hu.K' _⟩;simp[AN,aT ok ht,hf,Z5,fieldPlace,cV ok hs,QJ]
   ·cases h;obtain⟨b,off,rfl,hz,_,g,hv,hr⟩:=wH hu;refine⟨.pointer (some ((⟨b,off,none⟩:Addr).add f.offset)),?_,.im _ _ ?_⟩
    ·simp[AN,aT ok ht,hf,Z5,fieldPlace,cV ok hs,QJ]
    ·rw[pO];exact IR.Na hz hv hr _
   ·cases h
 ·cases h
theorem M6 {x:X} (hu:VR w x d u) (h:Gz pv t d i=some r):∃z,(Qat t u i).run P w=.ok z w∧VR w x r z:=by
 unfold Gz at h
 split at h
 ·rename_i fields cs ht;obtain⟨f,hf,h⟩:=γ.1 h;obtain⟨us,rfl,hl,h1,hr⟩:=kR hu;obtain⟨z,hz,E6⟩:=qo ok hl h1 hr h;exact⟨z,by simp[Qat,aT ok ht,hf,asAgg,hz],E6⟩
 ·cases h
variable{e:D}{v:Value}
theorem LU {x:X} (hu:VR w x d u) (hv:VR w x e v) (h:x_ pv t d e=some r):∃z,(tn t u v).run P w=.ok z w∧VR w x r z:=by
 unfold x_ at h
 split at h
 ·rename_i k i;rw[dW hv]
  split at h
  ·rename_i len el cs ht;obtain⟨s,hs,h⟩:=γ.1 h
   split at h
   ·rename_i hi;obtain⟨us,rfl,hl,h1,hr⟩:=kR hu;obtain⟨z,hz,E6⟩:=qo ok hl h1 hr h;exact⟨z,by simp[tn,asIntOf,aT ok ht,hi,cV ok hs,hz],E6⟩
   ·cases h
  ·rename_i l ht
   split at h
   ·rename_i hi;obtain⟨b,hb,rfl⟩:=κ.1 h;rw[iW hu];refine⟨.int .u8 b.toNat,?_,.im _ _ (.int _ _)⟩
    have:(⟨l.toArray⟩:ByteArray)[i.toNat]?=some b:=by
     have hlt:i.toNat<l.length:=by
      rcases φ i.toNat l.length with h'|h'
      ·exact h'
      ·rw[ν h'] at hb;cases hb
     rw[getElem?_pos (⟨l.toArray⟩:ByteArray) i.toNat (by simpa[JS] using hlt)];rw[π hlt] at hb;cases hb
     rfl
    simp[tn,asIntOf,aT ok ht,hi,this]
   ·cases h
  ·cases h
 ·cases h
variable{st:St}{β:Nat→Option (Nat×Nat)}{Z:Nat→Prop}
theorem BU (hu:VR w (st.x β Z) d u) (hv:VR w (st.x β Z) e v) (h:cJ pv t d e st=some r):
  ∃z,(xw t u v).run P w=.ok z w∧VR w (st.x β Z) r z:=by
 unfold cJ at h
 split at h
 ·rename_i k i;rw[dW hv]
  split at h
  ·rename_i len el k aE off ht;obtain⟨s,hs,h⟩:=γ.1 h
   split at h
   ·rename_i hi;cases h;obtain⟨a,rfl,_⟩:=dx hu;exact⟨.pointer (some (a.add (i.toNat*s))),by simp[xw,asIntOf,aT ok ht,Z5,hi,cV ok hs],hu.K' _⟩
   ·cases h
  ·rename_i len el c ht;obtain⟨s,hs,h⟩:=γ.1 h
   split at h
   ·rename_i hi;cases h;obtain⟨b,off,rfl,hz,_,g,hv,hr⟩:=wH hu;refine⟨.pointer (some ((⟨b,off,none⟩:Addr).add (i.toNat*s))),by simp[xw,asIntOf,aT ok ht,Z5,hi,cV ok hs],.im _ _ ?_⟩;rw[pO];exact IR.Na hz hv hr _
   ·cases h
  ·rename_i el es ht;obtain⟨s,hs,h⟩:=γ.1 h
   split at h
   ·rename_i hi;obtain⟨d,hd,h⟩:=γ.1 h;obtain⟨cs,kZ,h⟩:=γ.1 h
    split at h
    ·rename_i hlen;cases h
     have hlt:i.toNat<es.length:=by
      rcases φ i.toNat es.length with h'|h'
      ·exact h'
      ·rw[ν h'] at hd;cases hd
     obtain⟨a,cap,rfl,hc,h'|⟨b,off,s0,rfl,hz,jO,_,f,hv,hr⟩⟩:=oS hu
     ·subst h';simp at hlt
     ·obtain⟨hd1,hd2⟩:=jO _ d hd;have nM:=Nv kZ;rw[nM,hlen] at hd2;subst hd2;refine⟨.pointer (some ((⟨b,off,none⟩:Addr).add (i.toNat*s))),?_,.im _ _ ?_⟩
      ·have:(0:Int)≤i∧i<(es.length:Int):=by omega
       simp[xw,asIntOf,aT ok ht,this,cV ok hs]
      ·rw[pO];refine .ep cs b _ (f i.toNat) hz (fun j c hj=>?_) (fun j c hj=>hr _ d j c hd (by rw[nM];exact hj));have:=hv _ d j c hd (by rw[nM];exact hj)
       rwa [←ki] at this
    ·cases h
   ·cases h
  ·rename_i el k aE off len sz ht;obtain⟨s,hs,h⟩:=γ.1 h
   split at h
   ·rename_i hi;obtain⟨rfl,h0,h1,hm⟩:=hi;cases h;obtain⟨a,cap,rfl,hc,hk,TN,mB⟩:=gS hu;refine⟨.pointer (some (a.add (i.toNat*s))),by simp[xw,asIntOf,aT ok ht,h0,h1,cV ok hs],?_⟩;refine .ptr k aE _ _ hk TN fun nz=>?_;obtain⟨b,base,Ou,hb,_,h'|⟨rfl,_⟩⟩:=mB nz
    ·omega
    ·exact⟨b,base,hb,by rw[pO,ki]⟩
   ·cases h
  ·cases h
 ·cases h
theorem KI (h:jW w st β Z) {lo hi:Option D} {Ao l4:Option Value} (hu:VR w (st.x β Z) d u) (E_:∀d v,lo=some d→Ao=some v→VR w (st.x β Z) d v) (H0:∀d v,hi=some d→l4=some v→VR w (st.x β Z) d v) (el:lo.isSome=Ao.isSome) (eh:hi.isSome=l4.isSome) (hs:fM pv t d lo hi st=some r):∃z,(Y' t u Ao l4 none).run P w=.ok z w∧VR w (st.x β Z) r z:=by
 unfold fM at hs
 split at hs
 ·rename_i s ht;obtain⟨⟨l,hh⟩,hb,hr⟩:=κ.1 hs;(try dsimp only at hr);subst hr;rw[iW hu];have hsz:(⟨s.toArray⟩:ByteArray).size=s.length:=by simp[JS]
  obtain⟨h1,h2,h3⟩:=nI (P:=P) (w:=w) (x:=st.x β Z) false (η _) E_ H0 el eh hb;refine⟨.string ⟨((s.take hh).drop l).toArray⟩,?_,.im _ _ (.str _)⟩;simp[Y',LL,aT ok ht,hsz,h1,zr]
 ·rename_i e ht;obtain⟨s,hsz,hs⟩:=γ.1 hs;obtain⟨⟨l,hh⟩,hb,hr⟩:=κ.1 hs;(try dsimp only at hr);subst hr;rw[gT hu];obtain⟨h1,h2,h3⟩:=nI (P:=P) (w:=w) (x:=st.x β Z) true (η _) E_ H0 el eh hb;have Fa:l=0:=by omega
  have hh0:hh=0:=by omega
  subst Fa;subst hh0;refine⟨.slice none 0 0,?_,.im _ _ .nul⟩;simp[Y',LL,aT ok ht,h1,cV ok hsz]
 ·rename_i e es ht;obtain⟨s,hsz,hs⟩:=γ.1 hs
  split at hs
  ·rename_i Oa;obtain⟨⟨l,hh⟩,hb,hr⟩:=κ.1 hs;(try dsimp only at hr);subst hr;obtain⟨a,cap,rfl,hc,vN⟩:=oS hu;obtain⟨h1,h2,h3⟩:=nI (P:=P) (w:=w) (x:=st.x β Z) true hc E_ H0 el eh hb;refine⟨.slice (if cap=l then a else a.map (·.add (l*s))) (hh-l) (cap-l),by simp[Y',LL,aT ok ht,h1,cV ok hsz],.im _ _ ?_⟩;have hlen:((es.take hh).drop l).length=hh-l:=by simp;omega
   by_cases hz0:hh-l=0
   ·have:(es.take hh).drop l=[]:=ξ.1 (by rw[hlen];exact hz0);rw[this,hz0];exact .emp _ _
   ·rw[if_neg (by omega)]
    rcases vN with rfl|⟨b,off,s0,rfl,hz,jO,_,f,hv,hr⟩
    ·simp at h3;omega
    ·have QJ:s0=s:=by
      cases es with
      |nil=>simp at h3;omega
      |cons e0 es=>
       obtain⟨q1,q2⟩:=jO 0 e0 rfl;simp only[rR,List.head?_cons,q1,beq_iff_eq] at Oa;omega
     subst QJ
     have hget:∀(i:Nat) y,((es.take hh).drop l)[i]?=some y→es[l+i]?=some y:=by
      intro i y hy;rw[Θ,Ω] at hy
      split at hy
      ·exact hy
      ·cases hy
     have:=IR.sl (w:=w) (Z:=(st.x β Z).Z) ((es.take hh).drop l) b (off+l*s0) (cap-l) s0 (fun i j=>f (l+i) j) hz (by rw[hlen];omega) (fun i y hy=>jO _ y (hget i y hy)) (fun i y j c hy hj=>by
      have:=hv _ y j c (hget i y hy) hj
      rwa [show off+((l+i)*s0+j)=off+l*s0+(i*s0+j) by rw[Ξ];omega] at this) (fun i y j c hy hj=>hr _ y j c (hget i y hy) hj)
     rw[hlen] at this
     simpa[pO] using this
  ·cases hs
 ·rename_i e k aE off len sz ht;obtain⟨s,hsz,hs⟩:=γ.1 hs
  split at hs
  ·rename_i hss;subst hss;obtain⟨⟨l,hh⟩,hb,hr⟩:=κ.1 hs;(try dsimp only at hr);subst hr;obtain⟨a,cap,rfl,hc,hk,TN,mB⟩:=gS hu;obtain⟨h1,h2,h3⟩:=nI (P:=P) (w:=w) (x:=st.x β Z) true hc E_ H0 el eh hb;refine⟨.slice (some (if cap=l then a else a.add (l*s))) (hh-l) (cap-l),?_,?_⟩
   ·simp only[Y',LL,ε,aT ok ht,δ,h1,cV ok hsz,μ]
    split<;>rfl
   ·refine .win k aE _ _ s _ _ (by omega) hk TN fun nz=>?_;obtain⟨b,base,Ou,gx,rh,B_⟩:=mB nz;refine⟨b,base,Ou,gx,rh,?_⟩
    by_cases hcl:cap=l
    ·left;omega
    ·right
     rcases B_ with h'|⟨rfl,VV⟩
     ·omega
     ·rw[if_neg hcl,pO];refine⟨by rw[ki],?_⟩;have hle:l≤cap:=by omega
      have:base+(off+l*s)+(cap-l)*s=base+off+cap*s:=by
       rw[Qav];have:=θ s hle;omega
      omega
  ·cases hs
 ·rename_i n e k aE off ht;obtain⟨s,hsz,hs⟩:=γ.1 hs;obtain⟨⟨ar,c⟩,hm,hs⟩:=γ.1 hs;dsimp only at hs
  split at hs
  ·rename_i VV;obtain⟨⟨l,hh⟩,hb,hr⟩:=κ.1 hs;(try dsimp only at hr);subst hr
   cases hu with
   |im _ _ hu=>cases hu
   |ptr _ _ _ a hk TN mB=>
    obtain⟨b,base,gx,rfl⟩:=mB (eD hm).2;obtain⟨cs,el',fr,r1,r2,_⟩:=h.row hm gx;obtain⟨h1,h2,h3⟩:=nI (P:=P) (w:=w) (x:=st.x β Z) false (η n) E_ H0 el eh hb;refine⟨.slice (some (if n=l then⟨b,base+off,none⟩ else(⟨b,base+off,none⟩:Addr).add (l*s))) (hh-l) (n-l),?_,?_⟩
    ·simp[Y',aT ok ht,Z5,h1,cV ok hsz]
    ·refine .win k aE _ _ s _ _ (by omega) hk TN fun nz=>⟨b,base,cs.size,gx,by simp[dS,r1],?_⟩
     by_cases hcl:n=l
     ·left;omega
     ·right;rw[if_neg hcl,pO];refine⟨by rw[ki],?_⟩;have hle:l≤n:=by omega
      have:base+(off+l*s)+(n-l)*s=base+off+n*s:=by
       rw[Qav];have:=θ s hle;omega
      omega
  ·cases hs
 ·cases hs
end
end Go.V
namespace Go.V
open Go.RowKit
theorem wrap_small {n:Int} (h0:0≤n) (h1:n≤9223372036854775807):Cr.wrap n=n:=by
 rw[←kI];obtain⟨m,rfl⟩:=Int.eq_ofNat_of_zero_le h0;have:ZD m (ic .i64)=true:=Qa4 (by simp[ic];omega);simp[bJ,this]
theorem iK (z:List D):∀n,(fV n z).length=n*z.length
 |0=>by simp[fV]
 |n+1=>by
  have:=iK z n;simp only[fV,Qa6,Qac,Q5] at*;rw[this,Ξ];omega
theorem Df (z:List D):∀(n j:Nat),j<n*z.length→(fV n z)[j]?=z[j %z.length]?
 |0,j,h=>by simp at h
 |n+1,j,h=>by
  have ih:=Df z n;simp only[fV,Qa6,Qac] at*;rw[YH]
  split
  ·rename_i hj;rw[Nat.mod_eq_of_lt hj]
  ·rename_i hj;rw[Ξ] at h;rw[ih _ (by omega),←Nat.mod_eq_sub_mod (by omega)]
def Quiet (w w':World):Prop:=∀b,b<w.heap.size→w'.heap[b]?=w.heap[b]?
theorem Quiet.refl (w:World):Quiet w w:=fun _ _=>rfl
theorem Quiet.push {w w':World} {o:Obj} (h:w'.heap=w.heap.push o):Quiet w w':=fun b hb=>by rw[h,Bv,if_neg (by omega)]
theorem wE {w:World} {x:X} {s:Nat} {z:List D} {us:List Value} (h:LR w x z us) (n m:Nat) (hm:m≤n) (hz:us.length=s) (cells:Array Value) (hc:cells=(IT (n*s)).map (us.toArray[·%us.toArray.size]!)):
  cells.size=n*s∧∀(j:Nat) d,(fV m z)[j]?=some d→∃u,cells[j]?=some u∧u.oneCell'=true∧VR w x d u:=by
 subst hc;refine⟨by simp,fun j d hd=>?_⟩
 have hj:j<m*z.length:=by
  rcases φ j (m*z.length) with h'|h'
  ·exact h'
  ·rw[ν (by rw[iK];exact h')] at hd;cases hd
 rw[Df z m j hj] at hd;obtain⟨u,lB,oP,uJ⟩:=h.at_ hd;have hl:=h.len
 have Gk:j<n*s:=by
  have:=θ z.length hm;rw[←hz,←hl];omega
 refine⟨u,?_,oP,uJ⟩;have LW:us[j %us.length]?=some u:=by rw[←hl];exact lB
 have hlt:j %us.length<us.length:=by
  rcases φ (j %us.length) us.length with h'|h'
  ·exact h'
  ·rw[ν h'] at LW;cases LW
 rw[π hlt] at LW;simp only[ο.injEq] at LW;simp[Gk,hlt,LW]
section
variable{pv:Pv} {P:Program} (ok:pv.Ok P)
include ok
omit ok in
theorem LC {w:World} {st:St} {β:Nat→Option (Nat×Nat)} {Z:Nat→Prop} (h:jW w st β Z) {cs:List D} {v:Value} (hv:LR w (st.x β Z) cs v.cells.toList) (e:TypeId):
  ∃z w' β',((do pure (.pointer (some (←newVar e v))):Sem Value)).run P w=.ok z w'∧Nx w st β Z w' (st.push (.mem 0 false cs)) β' Z∧VR w' ((st.push (.mem 0 false cs)).x β' Z) (.ptr st.bs.length 0 0) z∧Quiet w w':=by
 obtain⟨hx,h1,h2,h3⟩:=Nx.o0 (w':=w.alloc (.cells v.cells e)) h false cs v.cells e (0,0) rfl rfl rfl rfl (by rw[hv.len];simp) (vT.zero _) (fun j d hd=>by
  obtain⟨u,lB,oP,uJ⟩:=hv.at_ hd
  exact⟨u,by simpa using lB,oP,uJ⟩)
 refine⟨.pointer (some ⟨w.heap.size,0,none⟩),_,_,?_,hx,?_,Quiet.push rfl⟩
 ·simp only[newVar,newRow,ε,run_newObj,δ,μ];rfl
 ·refine .ptr _ _ _ _ ⟨_,by simp[St.x,gN];rfl⟩ (fun c hc=>?_) fun _=>⟨w.heap.size,0,by simp[St.x,gN],rfl⟩
  simp only[St.x] at hc;rw[h2] at hc;cases hc;exact η _
theorem NL {w:World} {st:St} {β:Nat→Option (Nat×Nat)} {Z:Nat→Prop} (h:jW w st β Z) {e:Nat} {cs:List D} (hz:ec pv e=some cs):
  ∃z w' β',(Qas e true (.tuple #[])).run P w=.ok z w'∧Nx w st β Z w' (st.push (.mem 0 false cs)) β' Z∧VR w' ((st.push (.mem 0 false cs)).x β' Z) (.ptr st.bs.length 0 0) z∧Quiet w w':=by
 obtain⟨v,hv,hc⟩:=j9 ok w (st.x β Z) hz;obtain⟨z,w',β',h1,h2,h3,h4⟩:=LC (P:=P) h hc e;refine⟨z,w',β',?_,h2,h3,h4⟩;simp only[Qas,ε,hv,δ] at*;exact h1
theorem zw {w:World} {st ai:St} {β:Nat→Option (Nat×Nat)} {Z:Nat→Prop} (h:jW w st β Z) {t len:Nat} {parts:List (Nat×D)} {parts':List (Nat×Value)} {r:D} (hl:parts.length=parts'.length)
  (hr:∀(i:Nat) p q,parts[i]?=some p→parts'[i]?=some q→p.1=q.1∧VR w (st.x β Z) p.2 q.2) (hs:kP pv t len parts st=some (r,ai)):
  ∃z w' β',(Qab t len parts'.toArray).run P w=.ok z w'∧Nx w st β Z w' ai β' Z∧VR w' (ai.x β' Z) r z∧Quiet w w':=by
 unfold kP at hs
 split at hs
 ·rename_i e ht;obtain⟨s,hsz,hs⟩:=γ.1 hs;obtain⟨z,hz,hs⟩:=γ.1 hs
  split at hs
  ·rename_i wv;obtain⟨oB,yk⟩:=wv;obtain⟨cs,hf,hs⟩:=κ.1 hs;cases hs;obtain⟨v,hv,hc⟩:=j9 ok w (st.x β Z) hz;have Ka:v.cells.toList.length=s:=by rw[←hc.len,oB]
   have hzero:∃us:List Value,(if len*s=0 then#[] else v.cells:Array Value)=us.toArray∧((IT (len*s)).map ((if len*s=0 then#[] else v.cells:Array Value)[·%(if len*s=0 then#[] else v.cells:Array Value).size]!)).toList.length=len*s∧
     LR w (st.x β Z) (fV len z) ((IT (len*s)).map ((if len*s=0 then#[] else v.cells:Array Value)[·%(if len*s=0 then#[] else v.cells:Array Value).size]!)).toList:=by
    by_cases h0:len*s=0
    ·refine⟨[],by simp[h0],by simp,?_⟩;have:fV len z=[]:=ξ.1 (by rw[iK,oB];exact h0);rw[this,h0];exact⟨by simp,by simp,by simp⟩
    ·obtain⟨q1,q2⟩:=wE hc len len (η _) Ka _ rfl;simp only[h0,if_false];have e1:v.cells.toList.toArray=v.cells:=by simp
     rw[e1] at q1 q2;refine⟨v.cells.toList,by simp,by simp,⟨by rw[iK,oB];simp,fun u hu=>?_,fun i c u Gr hu=>?_⟩⟩
     ·obtain⟨j,hj⟩:=GB hu
      have oH:j<len*s:=by
       rcases φ j (len*s) with h'|h'
       ·exact h'
       ·rw[ν (by simpa using h')] at hj;cases hj
      obtain⟨u',lB,oP,_⟩:=q2 j _ (π (by rw[iK,oB];exact oH));rw[VQ] at hj;rw[hj] at lB;cases lB;exact oP
     ·obtain⟨u',lB,_,uJ⟩:=q2 i c Gr;rw[VQ] at hu;rw[hu] at lB;cases lB;exact uJ
   obtain⟨us,Yx,_,sW⟩:=hzero;obtain⟨rs,f1,f2⟩:=Cd (nX:=fun i=>some (i*s,s)) (fun _ _ e=>e) parts parts' hl hr sW hf
   have hcl:cs.length=len*s:=by
    have mZ:∀(ps:List (Nat×D)) (a b:List D),lj (fun i=>some (i*s,s)) a ps=some b→b.length=a.length:=by
     intro ps
     induction ps with
     |nil=>intro a b e;simp[lj] at e;rw[e]
     |cons p ps ih=>
      intro a b e;obtain⟨pi,pd⟩:=p;simp only[lj] at e
      split at e
      ·split at e
       ·cases e
       ·rw[ih _ _ e,fN]
      ·cases e
    rw[mZ _ _ _ hf,iK,oB]
   obtain⟨hx,x1,x2,x3⟩:=Nx.o0 (w':=w.alloc (.cells rs.toArray e)) h true cs rs.toArray e (0,0) rfl rfl rfl rfl (by rw[f2.len];simp) (vT.zero _) (fun j d hd=>by
    obtain⟨u,lB,oP,uJ⟩:=f2.at_ hd
    exact⟨u,by simpa using lB,oP,uJ⟩)
   refine⟨.slice (some ⟨w.heap.size,0,none⟩) len len,_,_,?_,hx,pR x2 x3 x1 (η _) (by simp only[IN];rw[←f2.len,hcl];exact η _),Quiet.push rfl⟩;have V5:¬len*s>2^24:=by omega
   simp only[Qab,ε,aT ok ht,δ,cV ok hsz,Qax,if_neg V5,μ]
   by_cases h0:len*s=0
   ·simp only[h0,if_true,δ] at f1⊢;simp only[hD] at f1;rw[f1];simp only[newRow,ε,run_newObj,δ,μ];rfl
   ·simp only[h0,if_false,δ,hv,ε] at f1⊢;simp only[hD] at f1;rw[f1];simp only[newRow,ε,run_newObj,δ,μ];rfl
  ·cases hs
 ·cases hs
theorem BQ {w:World} {st ai:St} {β:Nat→Option (Nat×Nat)} {Z:Nat→Prop} (h:jW w st β Z) {t:Nat} {l c r:D} {u v:Value} (hu:VR w (st.x β Z) l u) (hv:VR w (st.x β Z) c v) (hs:jf pv t l c st=some (r,ai)):
  ∃z w' β',(Qah t u v).run P w=.ok z w'∧Nx w st β Z w' ai β' Z∧VR w' (ai.x β' Z) r z∧Quiet w w':=by
 unfold jf at hs
 split at hs
 ·rename_i e k l k' c ht;obtain⟨i,hi,hs⟩:=γ.1 hs;obtain⟨z,hz,hs⟩:=γ.1 hs
  split at hs
  ·rename_i wv;obtain⟨oB,Fa,hlc,hcb,pw⟩:=wv;cases hs;rw[dW hu,dW hv];obtain⟨zv,UD,RK⟩:=j9 ok w (st.x β Z) hz;have Ka:zv.cells.toList.length=i.size:=by rw[←RK.len,oB]
   have N5:Cr.wrap l=l:=wrap_small Fa (by omega);have hwc:Cr.wrap c=c:=wrap_small (by omega) hcb
   have jl:∃cells:Array Value,cells=(IT (c.toNat*i.size)).map ((if c.toNat*i.size=0 then#[] else zv.cells:Array Value)[·%(if c.toNat*i.size=0 then#[] else zv.cells:Array Value).size]!)∧cells.size=c.toNat*i.size∧
     ∀(j:Nat) d,(fV l.toNat z)[j]?=some d→∃u,cells[j]?=some u∧u.oneCell'=true∧VR w (st.x β Z) d u:=by
    refine⟨_,rfl,by simp,?_⟩
    by_cases h0:c.toNat*i.size=0
    ·intro j d hd
     have:fV l.toNat z=[]:=ξ.1 (by
      rw[iK,oB];have:=θ i.size (show l.toNat≤c.toNat by omega)
      omega)
     rw[this] at hd;simp at hd
    ·simp only[h0,if_false];have:=(wE RK c.toNat l.toNat (by omega) Ka _ rfl).2
     simpa using this
   obtain⟨cells,fu,hsz,hrel⟩:=jl
   have hlen:(fV l.toNat z).length≤cells.size:=by
    rw[iK,oB,hsz];exact θ _ (by omega)
   obtain⟨hx,x1,x2,x3⟩:=Nx.o0 (w':=w.alloc (.cells cells e)) h true (fV l.toNat z) cells e (0,0) rfl rfl rfl rfl hlen (vT.zero _) hrel;refine⟨.slice (some ⟨w.heap.size,0,none⟩) l.toNat c.toNat,_,_,?_,hx,pR x2 x3 x1 (by omega) (by rw[hsz];exact η _),Quiet.push rfl⟩
   have Pa:(decide (c<0)||decide ((i.bytes:Int)*c>2^48))=false:=by
    have:¬c<0:=by omega
    have h2:(i.bytes:Int)*c=c*i.bytes:=Int.mul_comm _ _;simp only[this,decide_false,Bool.false_or,decide_eq_false_iff_not,h2];omega
   have B4:¬l<0:=by omega
   have ry:¬l>c:=by omega
   simp only[Qah,ε,aT ok ht,δ,asInt,asIntOf,μ,sq ok hi,N5,hwc,Pa,B4,ry,decide_false,Bool.or_self,Γ,or_self,if_false,Qax,run_askRoom,cV ok (nP hi)]
   by_cases h0:c.toNat*i.size=0
   ·simp only[h0,if_true,δ] at fu⊢;simp only[newRow,ε,run_newObj,δ,μ,fu];rfl
   ·simp only[h0,if_false,δ,UD,ε] at fu⊢;simp only[newRow,ε,run_newObj,δ,μ,fu];rfl
  ·cases hs
 ·cases hs
end
end Go.V
