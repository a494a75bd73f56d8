/-
 V: an evaluator of the model's code over pure values, and its soundness; no program in sight, no conditions.
-/
import GoSem.Step
import Derived.WalkKit
import Derived.WalkLawsBesides
import Derived.Laws.StructEq
import Derived.Laws.Slices
import Derived.Laws.Concat
set_option linter.all false
open Option renaming bind_eq_some_iff->γ,map_eq_some_iff->κ,some->Φ,bind_some->YZ
open Go.Result renaming andThen_ok->δ
open Array renaming getElem?_setIfInBounds_self_of_lt->ε,getElem?_setIfInBounds_ne->π,getElem?_toList->QC,getElem?_push->W0,ext_getElem?->W4,range->Wv,getElem?_eq_none->ZF,toArray_toList->ZD,size_push->Yb,ext'->Jm
open Go.Sem renaming run_bind->ζ,run_pure->μ,run_ite->K7
open Nat renaming le_refl->η,mul_le_mul_right->θ,lt_or_ge->τ,beq->υ,add_mul->Δ,le_trans->Θ,ble->Q4,add_assoc->QG,add_zero->QT,le_antisymm->X7,eq_of_mul_eq_mul_left->ZK,sub_self->ZE,zero_add->Za,ble_eq_true_of_le->Zm,lt_of_lt_of_le->YS,min_eq_left->Jb,sub_mul->K4,zero_le->K5,min->Kz
open Go.Builtin renaming firstCells->ι,append_->Ξ,nextslicecap->Q6,lenOf->Qe,zeroCells->W5,copy_->WA,growBy->YJ
open List renaming getElem?_eq_none->ν,length_eq_zero_iff->ξ,getElem?_eq_getElem->ο,getElem?_set_ne->ρ,getElem?_cons_succ->ς,getElem?_append_left->φ,getElem?_drop->Γ,getElem?_take->Ψ,getElem?_cons_zero->Ω,getElem?_toArray->Q7,getElem?_append->QX,length_append->QY,getElem?_set_self->QH,length_nil->QS,getElem?_of_mem->Qu,extract_eq_take_drop->Z9,mem_of_getElem?->Zb,mem_of_mem_take->Zf,replicate_succ->Y1,flatten_cons->YD,length_cons->Yn,length_take->Yr,take_length->J4,drop_take->JP,replicate->JO
open Go.Op renaming equalIn->χ,bytesLess->W',equal->WM,eqFields->Y9,stringOp->YX,intBits->K8
open Bool renaming false_eq_true->ψ,not_false->Jz
open Decidable renaming not_not->ω
open Go.Instr renaming sureAddr->Q2,sliceAt->QQ,indexAt->QK,sliceBound->QV,slice->Wk,fieldAt->X8,build->ZC,index->ZT,fill->Y0,sliceBounds->Y3,buildSlice->YY,makeSlice->Ym,storeAt->JY,alloc->Jf
open Go.ByteArray renaming toList_eq->Q9
open ByteArray renaming size->QW,data_extract->Wg,ext->Kx
open Go.IntKind renaming i64->Wz,signed->WN,bits->X9,wrap->JJ
namespace Go.V
inductive D where
 |bool (b:Bool)
 |int (k:IntKind) (n:Int)
 |str (s:List UInt8)
 |nul
 |sl (es:List D)
 |win (k aj off len s:Nat)
 |pnil
 |ptr (k aj off:Nat)
 |mp (k:Nat)
 |ep (cells:List D)
 |fn (f:Nat) (fZ:List D)
 |nilfn
 |agg (cs:List D)
 |tup (ds:List D)
 |nilif
 |cT
 deriving Inhabited
inductive mc where
 |mem (aj:Nat) (arr:Bool) (cells:List D)
 |iter (s:List UInt8) (pos:Nat)
 |map (es:List (D×D))
 |dead
 deriving Inhabited
structure St where
 bs:List mc
 flr:Nat
 ro:Nat
structure Fr where
 n:Nat
 loc:List D
 tmp:List (Nat×D)
def look (t:Nat):List (Nat×D)->D
 |[]=>.cT
 |(aa,d)::l=>match υ t aa with
  |true=>d
  |false=>look t l
def nth (d:D):List D->Nat->D
 |[],_=>d
 |x::_,0=>x
 |_::l,i+1=>nth d l i
def Fr.get (f:Fr) (t:Nat):D:=
 match Q4 f.n t with
 |false=>nth .cT f.loc t
 |true=>look t f.tmp
def Fr.put (f:Fr) (t:Nat) (d:D):Fr:=
 match Q4 f.n t with
 |false=>⟨f.n,f.loc.set t d,f.tmp⟩
 |true=>⟨f.n,f.loc,(t,d)::f.tmp⟩
def Fr.eS (f:Fr) (t:Option Nat) (d:D):Fr:=
 match t with
 |some t=>f.put t d
 |none=>f
def Fr.clean (f:Fr):Fr:=⟨f.n,f.loc,[]⟩
def D.cells?:D->Option (List D)
 | .agg cs=>some cs
 | .tup _=>none
 | .cT=>none
 |d=>some [d]
def D.cells:D->List D
 | .agg cs=>cs
 |d=>[d]
def vP:Value->D
 | .bool b=>.bool b
 | .int k n=>.int k n
 | .string s=>.str s.data.toList
 | .slice none 0 0=>.nul
 | .pointer none=>.pnil
 | .nilFunc=>.nilfn
 | .nilIface=>.nilif
 |_=>.cT
def Iw:Value->Bool
 | .agg _| .tuple _=>false
 |_=>true
def oD:List Value->Option (List D)
 |[]=>some []
 |v::l=>match Iw v with
  |true=>match oD l with
   |some r=>some (vP v::r)
   |none=>none
  |false=>none
def mU:Value->D
 | .agg cs=>match oD cs.toList with
  |some l=>.agg l
  |none=>.cT
 |v=>vP v
def Fr.ev (f:Fr):Operand->D
 | .tmp t=>f.get t
 | .const v=>mU v
 | .func g=>.fn g []
 | .global _=>.cT
mutual
def D.ref:D->Nat
 | .win k _ _ _ _=>k+1
 | .ptr k _ _=>k+1
 | .mp k=>k+1
 | .fn _ cs=>refs cs
 | .agg cs=>refs cs
 | .tup ds=>refs ds
 |_=>0
def refs:List D->Nat
 |[]=>0
 |d::ds=>max d.ref (refs ds)
end
def St.cp (U:St) (k aj:Nat):Option (Bool×List D):=
 match U.bs[k]? with
 |some (.mem v a c)=>if v=aj then some (a,c) else none
 |_=>none
def mc.cells:mc->List D
 | .mem _ _ c=>c
 |_=>[]
def St.An (U:St) (k:Nat):Nat:=
 match U.bs[k]? with
 |some b=>refs b.cells
 |none=>0
def St.qH (U:St) (k r:Nat):Bool:=decide (U.ro<=k) &&(decide (U.flr<=k)||(decide (r<=k+1)||decide (r<=U.An k)))
def setMany (c:List D) (off:Nat):List D->List D
 |[]=>c
 |x::xs=>setMany (c.set off x) (off+1) xs
def St.wr (U:St) (k aj off:Nat) (cs:List D):Option St:=
 match U.cp k aj with
 |some (a,c)=>if off+cs.length<=c.length/\U.qH k (refs cs)=true then some {U with bs:=U.bs.set k (.mem aj a (setMany c off cs))} else none
 |none=>none
def St.push (U:St) (b:mc):St:={U with bs:=U.bs++[b]}
inductive Mode where
 |ro|rw|bW|nw
abbrev eJ:=Nat->List D->St->Option (D×St)
structure Fi where
 fn:Func
 nloc:Nat
 mode:Mode
 knul:Bool
 jG:Option (List D->St->Option (D×St)):=none
 dyn:List (Nat×List (Nat×Nat)):=[]
inductive Q (α:Type) where
 |leaf (a:α)
 |node (k:Nat) (l r:Q α)
def Q.get {α:Type} (t:Nat):Q α->α
 | .leaf a=>a
 | .node k l r=>match Q4 k t with
  |false=>l.get t
  |true=>r.get t
structure Pv where
 ty:Q TypeInfo
 JB:Nat
 fs:Q Fi
 GP:Nat
 BH:List Nat
 uO:List (Nat×(List D->St->Option (D×St))):=[]
def fT (f:Nat):List (Nat×(List D->St->Option (D×St)))->Option (List D->St->Option (D×St))
 |[]=>none
 |(g,p)::l=>match υ f g with
  |true=>some p
  |false=>fT f l
def Pv.info (P:Pv) (t:Nat):Option TypeInfo:=
 match Q4 P.JB t with
 |false=>some (P.ty.get t)
 |true=>none
def Pv.cF (P:Pv) (t:Nat):Option TypeDesc:=
 match P.info t with
 |some i=>match i.desc with
  | .named _ aa=>match P.info aa with
   |some j=>some j.desc
   |none=>none
  |d=>some d
 |none=>none
def Pv.fi (P:Pv) (f:Nat):Option Fi:=
 match Q4 P.GP f with
 |false=>some (P.fs.get f)
 |true=>none
def iQ:IntKind->Nat
 | .i8=>127| .i16=>32767| .i32=>2147483647| .i64=>9223372036854775807
 | .u8=>255| .u16=>65535| .u32=>4294967295| .u64=>18446744073709551615
def AG:IntKind->Nat
 | .i8=>128| .i16=>32768| .i32=>2147483648| .i64=>9223372036854775808
 |_=>0
def aR (k:IntKind) (n:Int):Int:=
 match n with
 | .ofNat m=>match Q4 m (iQ k) with
  |true=>.ofNat m
  |false=>k.wrap (.ofNat m)
 | .negSucc m=>match Q4 (AG k) m with
  |false=>.negSucc m
  |true=>k.wrap (.negSucc m)
section
variable(P:Pv)
def bS (t:TypeId):Option Nat:=
 match P.info t with
 |some i=>some i.size
 |none=>none
def da (t:TypeId) (c:List D):Option D:=
 match P.cF t with
 |none=>none
 |some (.struct _)|some (.array _ _)=>(bS P t).bind λn=>if n<=c.length then some (.agg (c.take n)) else none
 |some _=>c.head?
def gy (t:TypeId) (d:D) (U:St):Option D:=
 match d with
 | .ptr k aj off=>(U.cp k aj).bind λ(_,c)=>da P t (c.drop off)
 | .ep c=>da P t c
 |_=>none
def nC (t:TypeId) (a v:D) (U:St):Option St:=
 match a,v.cells? with
 | .ptr k aj off,some cs=>if bS P t=some cs.length then U.wr k aj off cs else none
 |_,_=>none
def JN (t:TypeId):Option D:=(P.info t).bind λi=>i.zero.map mU
def cO (t:TypeId):Option (List D):=
 match JN P t with
 |some z=>z.cells?
 |none=>none
def vM (t:TypeId) (cs:List D) (off:Nat):Option D:=
 match P.cF t with
 |none=>none
 |some (.struct _)|some (.array _ _)=>(bS P t).bind λn=>if off+n<=cs.length then some (.agg ((cs.drop off).take n)) else none
 |some _=>cs[off]?
def iK (place:Nat->Option (Nat×Nat)) (cells:List D):List (Nat×D)->Option (List D)
 |[]=>some cells
 |(i,v)::rest=>
  match place i,v.cells? with
  |some (off,size),some cs=>if cs.length≠size\/off+cs.length>cells.length then none else iK place (setMany cells off cs) rest
  |_,_=>none
def mw:List Field->Option (List (Nat×Nat))
 |[]=>some []
 |f::fs=>match bS P f.type with
  |some s=>match mw fs with
   |some r=>some ((f.offset,s)::r)
   |none=>none
  |none=>none
def tq (t:TypeId) (parts:List (Nat×D)):Option D:=
 match cO P t with
 |some z=>match P.cF t with
  |some (.struct fields)=>match mw P fields.toList with
   |some ps=>(iK (λi=>ps[i]?) z parts).map .agg
   |none=>none
  |some (.array _ e)=>match bS P e with
   |some s=>(iK (λi=>some (i*s,s)) z parts).map .agg
   |none=>none
  |_=>none
 |none=>none
def gu (n:Nat) (z:List D):List D:=(JO n z).flatten
def jk (t:TypeId) (len:Nat) (parts:List (Nat×D)) (U:St):Option (D×St):=
 match P.cF t with
 |some (.slice e)=>(bS P e).bind λs=>(cO P e).bind λz=>
   if z.length=s/\len*s<=16777216 then
    (iK (λi=>some (i*s,s)) (gu len z) parts).map λcs=>(.win U.bs.length 0 0 len s,U.push (.mem 0 true cs))
   else none
 |_=>none
def FV (op:BinOp) (a b:Int):Option D:=
 match op with
 | .eql=>some (.bool (a==b))
 | .neq=>some (.bool (a !=b))
 | .lss=>some (.bool (a<b))
 | .leq=>some (.bool (a<=b))
 | .gtr=>some (.bool (a>b))
 | .geq=>some (.bool (a>=b))
 |_=>none
def HM (op:BinOp) (k:IntKind) (x y:Int):Option D:=
 let a:=BitVec.ofInt k.bits x
 let b:=BitVec.ofInt k.bits y
 let back (r:BitVec k.bits):Option D:=some (.int k (aR k r.toNat))
 match op with
 | .and=>back (a &&&b)
 | .or=>back (a|||b)
 | .xor=>back (a^^^b)
 | .andNot=>back (a &&&~~~b)
 |_=>none
def xB (op:BinOp) (k:IntKind) (a b:Int):Option D:=
 match op with
 | .add=>some (.int k (aR k (a+b)))
 | .sub=>some (.int k (aR k (a-b)))
 | .mul=>some (.int k (aR k (a*b)))
 | .quo=>if b=0 then none else some (.int k (aR k (a.tdiv b)))
 | .rem=>if b=0 then none else some (.int k (a.tmod b))
 | .and| .or| .xor| .andNot=>HM op k a b
 |_=>FV op a b
def EC (op:BinOp) (k:IntKind) (x y:Int):Option D:=
 if y<0 then none
 else match op with
  | .shl=>some (.int k (aR k (x*2^(min y.toNat k.bits))))
  | .shr=>some (.int k (x.fdiv (2^(min y.toNat k.bits))))
  |_=>none
def J' (op:BinOp) (a b:List UInt8):Option D:=
 match op with
 | .add=>if a.length+b.length<=9223372036854775807 then some (.str (a++b)) else none
 | .eql=>some (.bool (a==b))
 | .neq=>some (.bool !(a==b))
 | .lss=>some (.bool (W' a b))
 | .leq=>some (.bool (W' a b||a==b))
 | .gtr=>some (.bool !(W' a b||a==b))
 | .geq=>some (.bool !(W' a b))
 |_=>none
mutual
def Pr:Nat->TypeId->D->D->Option Bool
 |0,_,_,_=>none
 |d+1,t,x,y=>
  match P.cF t,x,y with
  |some .bool,.bool a,.bool b=>some (a==b)
  |some (.int _),.int k a,.int k' b=>if k=k' then some (a==b) else none
  |some .string,.str a,.str b=>some (a==b)
  |some (.pointer _),.pnil,.pnil=>some true
  |some (.pointer _),.pnil,.ptr _ _ _=>some false
  |some (.pointer _),.ptr _ _ _,.pnil=>some false
  |some (.slice _),.nul,.nul=>some true
  |some (.slice _),.win _ _ _ _ _,.nul=>some false
  |some (.slice _),.sl (_::_),.nul=>some false
  |some (.struct fields),.agg xs,.agg ys=>if P.BH.contains t then eqFields d xs ys fields.toList else none
  |some (.array len e),.agg xs,.agg ys=>(bS P e).bind λn=>oN d e n xs ys len 0
  |_,_,_=>none
def eqFields:Nat->List D->List D->List Field->Option Bool
 |0,_,_,_=>none
 |_+1,_,_,[]=>some true
 |d+1,xs,ys,f::fs=>
  if f.name= "_" then eqFields d xs ys fs else
  match vM P f.type xs f.offset,vM P f.type ys f.offset with
  |some x,some y=>match Pr d f.type x y with
   |some true=>eqFields d xs ys fs
   |some false=>some false
   |none=>none
  |_,_=>none
def oN:Nat->TypeId->Nat->List D->List D->Nat->Nat->Option Bool
 |0,_,_,_,_,_,_=>none
 |_+1,_,_,_,_,0,_=>some true
 |d+1,e,n,xs,ys,left+1,i=>
  match vM P e xs (i*n),vM P e ys (i*n) with
  |some x,some y=>match Pr d e x y with
   |some true=>oN d e n xs ys left (i+1)
   |some false=>some false
   |none=>none
  |_,_=>none
end
def wY:Nat:=64
def Tq:D->Bool
 | .agg _=>true
 |_=>false
def equalD (t:TypeId) (x y:D):Option Bool:=
 if Tq x &&!P.BH.contains t then none else Pr P wY t x y
def iC (op:BinOp) (t:TypeId) (x y:D):Option D:=
 match x,y with
 | .int k a,.int k' b=>match op with
  | .shl| .shr=>EC op k a b
  |_=>if k=k' then xB op k a b else none
 | .str a,.str b=>J' op a b
 |x,y=>match op with
  | .eql=>(equalD P t x y).map .bool
  | .neq=>(equalD P t x y).map λb=>.bool !b
  |_=>none
def Yq (op:UnOp) (x:D):Option D:=
 match op,x with
 | .neg,.int k n=>some (.int k (aR k (0-n)))
 | .xor,.int k n=>HM .xor k (if k.signed then-1 else k.max) n
 | .not,.bool b=>some (.bool !b)
 |_,_=>none
def oT (U:St):D->Option (Nat×List D)
 | .sl es=>some (es.length,es.flatMap D.cells)
 | .nul=>some (0,[])
 | .win k aj off len s=>(U.cp k aj).bind λ(_,c)=>if off+len*s<=c.length then some (len,(c.drop off).take (len*s)) else none
 | .str b=>some (b.length,b.map λx=>.int .u8 x.toNat)
 |_=>none
def tp:List D->Option (List UInt8)
 |[]=>some []
 | .int .u8 n::l=>(tp l).map λr=>UInt8.ofNat n.toNat::r
 |_=>none
def pk (src dst:TypeId) (x:D) (U:St):Option (D×St):=
 match P.cF src,P.cF dst,x with
 |some _,some (.int k),.int _ n=>some (.int k (aR k n),U)
 |some _,some .string,.int _ n=>some (.str (Utf8.encode n).data.toList,U)
 |some _,some .string,.str s=>some (.str s,U)
 |some _,some (.slice e),.str s=>
  match P.cF e with
  |some (.int .u8)=>if s.length<1099511627776 then some (.win U.bs.length 0 0 s.length 1,U.push (.mem 0 true (s.map λx=>.int .u8 x.toNat))) else none
  |_=>none
 |some (.slice _),some (.slice e),.win k aj off len sz=>
  match P.cF e,U.cp k aj with
  |some (.int .u8),some _=>if υ src dst=true/\0<len/\U.qH k 0=true then some (.win k aj off len sz,U) else none
  |_,_=>none
 |some (.slice e),some .string,x=>
  match P.cF e,oT U x with
  |some (.int .u8),some (n,cs)=>match x with
   | .str _=>none
   |_=>if cs.length=n then(tp cs).map λb=>(.str b,U) else none
  |_,_=>none
 |_,_,_=>none
def C4:D->Option Nat
 | .sl es=>some es.length
 | .nul=>some 0
 | .win _ _ _ len _=>some len
 | .str s=>some s.length
 |_=>none
def fp:TypeDesc->Bool
 | .int _=>true
 |_=>false
def dK (argTypes:List TypeId) (s x:D) (U:St):Option (D×St):=
 match argTypes with
 |sT::xT::_=>
  match P.cF sT,P.cF xT with
  |some (.slice e),some xd=>if fp xd=true then none else
   (P.info e).bind λi=>(cO P e).bind λz=>(oT U x).bind λ(n,ys)=>
   if ys.length≠n*i.size\/i.bytes=0\/z.length≠i.size then none else
   match s with
   | .nul=>if n=0 then some (.nul,U)
     else if n*i.bytes<=1099511627776 then some (.win U.bs.length 0 0 n i.size,U.push (.mem 0 true ys)) else none
   | .win k aj off len sz=>
    match U.cp k aj with
    |some (true,c)=>if sz≠i.size\/c.length<off+len*sz then none
      else if n=0 then some (.win k aj off len sz,U)
      else if(len+n)*i.bytes<=1099511627776/\U.qH k (refs ys)=true then
       some (.win k (aj+1) 0 (len+n) sz,{U with bs:=U.bs.set k (.mem (aj+1) true ((c.take (off+len*sz)).drop off++ys))})
      else none
    |_=>none
   |_=>none
  |_,_=>none
 |_=>none
def DQ (argTypes:List TypeId) (d x:D) (U:St):Option (D×St):=
 match argTypes with
 |dT::_=>
  match P.cF dT with
  |some (.slice e)=>(bS P e).bind λs=>(oT U x).bind λ(m,ys)=>
   if ys.length≠m*s then none else
   match d with
   | .win k aj off len sz=>if sz≠s then none else(U.wr k aj off (ys.take (min m len*s))).map λR=>(.int .i64 (min m len:Nat),R)
   | .nul=>some (.int .i64 0,U)
   |_=>none
  |_=>none
 |_=>none
def qG (argTypes:List TypeId) (d:D) (U:St):Option (D×St):=
 match argTypes with
 |dT::_=>
  match P.cF dT with
  |some (.slice e)=>
   match d with
   | .nul=>some (.tup [],U)
   | .win k aj off len sz=>(cO P e).bind λz=>if z.length=sz then(U.wr k aj off (gu len z)).map λR=>(.tup [],R) else none
   |_=>none
  |_=>none
 |_=>none
def yK (tV:Bool):D->D->Option D
 | .int k x,.int _ y=>some (.int k (if tV then(if y<x then y else x) else(if y>x then y else x)))
 |_,_=>none
def ud (f:D->D->Option D):D->List D->Option D
 |x,[]=>some x
 |x,y::l=>(f x y).bind λz=>ud f z l
def bA (b:Builtin) (argTypes:List TypeId) (args:List D) (U:St):Option (D×St):=
 match b,args with
 | .len,[x]=>match argTypes with
  |t::_=>match P.cF t with
   |some .string=>match x with
    | .str s=>some (.int .i64 s.length,U)
    |_=>none
   |some (.slice _)=>match x with
    | .str _=>none
    |x=>match C4 x with
     |some n=>some (.int .i64 (Int.ofNat n),U)
     |none=>none
   |some (.array n _)=>some (.int .i64 n,U)
   |_=>none
  |_=>none
 | .append,[s,x]=>dK P argTypes s x U
 | .copy,[d,x]=>DQ P argTypes d x U
 | .clear,[d]=>qG P argTypes d U
 | .min,x::l=>(ud (yK true) x l).map λd=>(d,U)
 | .max,x::l=>(ud (yK false) x l).map λd=>(d,U)
 |_,_=>none
def gO (t:TypeId) (l c:D) (U:St):Option (D×St):=
 match P.cF t,l,c with
 |some (.slice e),.int _ l,.int _ c=>(P.info e).bind λi=>(cO P e).bind λz=>
   if z.length=i.size/\0<=l/\l<=c/\c<=9223372036854775807/\c*(i.bytes:Int)<=140737488355328 then
    some (.win U.bs.length 0 0 l.toNat i.size,U.push (.mem 0 true (gu l.toNat z)))
   else none
 |_,_,_=>none
def ke (x:D) (y:Nat):Option Nat:=
 match x with
 | .int _ i=>if 0<=i/\i<=(y:Int) then some i.toNat else none
 |_=>none
def ik (y acN:Nat):Option D->Option Nat
 |some v=>ke v y
 |none=>some acN
def cL (len:Nat) (lo hi:Option D):Option (Nat×Nat):=
 (ik len len hi).bind λh=>(ik h 0 lo).map λl=>(l,h)
def wL (s:Nat) (es:List D):Bool:=
 match es.head? with
 |none=>true
 |some e=>match e.cells? with
  |some cs=>cs.length==s
  |none=>false
def ib (t:TypeId) (x:D) (lo hi:Option D) (U:St):Option D:=
 match P.cF t,x with
 |some .string,.str s=>(cL s.length lo hi).map λ(l,h)=>.str ((s.take h).drop l)
 |some (.slice e),.nul=>(bS P e).bind λ_=>(cL 0 lo hi).map λ_=>.nul
 |some (.slice e),.sl es=>(bS P e).bind λs=>if wL s es then(cL es.length lo hi).map λ(l,h)=>.sl ((es.take h).drop l) else none
 |some (.slice e),.win k aj off len sz=>(bS P e).bind λs=>if s=sz then(cL len lo hi).map λ(l,h)=>.win k aj (off+l*sz) (h-l) sz else none
 |some (.array n e),.ptr k aj off=>(bS P e).bind λs=>(U.cp k aj).bind λ(_,c)=>
   if off+n*s<=c.length then(cL n lo hi).map λ(l,h)=>.win k aj (off+l*s) (h-l) s else none
 |_,_=>none
def fX (t:TypeId) (x:D) (i:Nat):Option D:=
 match P.cF t with
 |some (.struct fields)=>(fields[i]?).bind λf=>if bS P f.type=some 0 then none else(bS P f.type).bind λ_=>
   match x with
   | .ptr k aj off=>some (.ptr k aj (off+f.offset))
   | .ep c=>some (.ep (c.drop f.offset))
   |_=>none
 |_=>none
def cn (t:TypeId) (x ix:D) (U:St):Option D:=
 match ix with
 | .int _ i=>
  match P.cF t,x with
  |some (.array len e),.ptr k aj off=>(bS P e).bind λs=>if 0<=i/\i<len then some (.ptr k aj (off+i.toNat*s)) else none
  |some (.array len e),.ep c=>(bS P e).bind λs=>if 0<=i/\i<len then some (.ep (c.drop (i.toNat*s))) else none
  |some (.slice e),.sl es=>(bS P e).bind λs=>if 0<=i then(es[i.toNat]?).bind λd=>d.cells?.bind λcs=>if cs.length=s then some (.ep cs) else none else none
  |some (.slice e),.win k aj off len sz=>(bS P e).bind λs=>if s=sz/\0<=i/\i<len/\(U.cp k aj).isSome=true then some (.ptr k aj (off+i.toNat*sz)) else none
  |_,_=>none
 |_=>none
def s8 (t:TypeId) (x ix:D):Option D:=
 match ix with
 | .int _ i=>
  match P.cF t,x with
  |some (.array len e),.agg cs=>(bS P e).bind λs=>if 0<=i/\i<len then vM P e cs (i.toNat*s) else none
  |some .string,.str s=>if 0<=i then(s[i.toNat]?).map λb=>.int .u8 b.toNat else none
  |_,_=>none
 |_=>none
def dY (I:Fr) (U:St) (op:Op) (adf:TypeId):Option (D×St):=
 match op with
 | .move x| .assign x=>some (I.ev x,U)
 | .pick c a b=>match I.ev c with
  | .bool true=>some (I.ev a,U)
  | .bool false=>some (I.ev b,U)
  |_=>none
 | .alloc e=>(cO P e).map λcs=>(.ptr U.bs.length 0 0,U.push (.mem 0 false cs))
 | .box _ x=>(I.ev x).cells?.map λcs=>(.ptr U.bs.length 0 0,U.push (.mem 0 false cs))
 | .build t parts=>(tq P t (parts.toList.map λp=>(p.1,I.ev p.2))).map λd=>(d,U)
 | .buildSlice t len parts=>jk P t len (parts.toList.map λp=>(p.1,I.ev p.2)) U
 | .load t a=>(gy P t (I.ev a) U).map λd=>(d,U)
 | .store t a x=>(nC P t (I.ev a) (I.ev x) U).map λR=>(.tup [],R)
 | .nilCheck x=>match I.ev x with
  | .ptr k v o=>some (.ptr k v o,U)
  | .ep c=>some (.ep c,U)
  | .fn f c=>some (.fn f c,U)
  |_=>none
 | .binOp op t x y _=>(iC P op t (I.ev x) (I.ev y)).map λd=>(d,U)
 | .unOp op _ x=>(Yq op (I.ev x)).map λd=>(d,U)
 | .convert s d x=>pk P s d (I.ev x) U
 | .makeFunc (.func f) first captured=>if first.isEmpty then some (.fn f (captured.toList.map I.ev),U) else none
 | .makeSlice t l c=>gO P t (I.ev l) (I.ev c) U
 | .slice t x lo hi none=>(ib P t (I.ev x) (lo.map I.ev) (hi.map I.ev) U).map λd=>(d,U)
 | .fieldAddr t x f=>(fX P t (I.ev x) f).map λd=>(d,U)
 | .indexAddr t x i=>(cn P t (I.ev x) (I.ev i) U).map λd=>(d,U)
 | .index t x i=>(s8 P t (I.ev x) (I.ev i)).map λd=>(d,U)
 | .extract t i=>match I.ev t with
  | .tup ds=>(ds[i]?).map λd=>(d,U)
  |_=>none
 | .call ⟨.builtin b,args,argTypes⟩=>bA P b argTypes.toList (args.toList.map I.ev) U
 |_=>none
end
section
variable(P:Pv) (cf:eJ)
def eT (I:Fr) (U:St) (o:Oper):Option (D×St):=
 match o.op with
 | .call ⟨.value f,args,_⟩=>match I.ev f with
  | .fn g fZ=>cf g (args.toList.map I.ev++fZ) U
  |_=>none
 |op=>dY P I U op o.type
def au (ops:Array Oper) (I:Fr) (o:Oper):Option Bool:=
 match o.guard with
 |none=>some true
 |some (j,want)=>match(ops[j]?).bind (·.dst) with
  |none=>none
  |some t=>match I.get t with
   | .bool b=>some (b==want)
   | .tup _=>some false
   |_=>none
def ju (ops:Array Oper):List Oper->Fr->St->Option (Fr×St)
 |[],I,U=>some (I,U)
 |o::rest,I,U=>
  match au ops I o with
  |some true=>match eT P cf I U o with
   |some (d,R)=>ju ops rest (I.eS o.dst d) R
   |none=>none
  |some false=>ju ops rest (I.eS o.dst (.tup [])) U
  |none=>none
mutual
def gE:D->D->Bool
 | .bool a,.bool b=>a==b
 | .int k n,.int k' m=>decide (k=k') &&n==m
 | .str s,.str t=>s==t
 | .nul,.nul=>true
 | .pnil,.pnil=>true
 | .nilfn,.nilfn=>true
 | .nilif,.nilif=>true
 | .cT,.cT=>true
 | .sl a,.sl b=>kR a b
 | .agg a,.agg b=>kR a b
 | .tup a,.tup b=>kR a b
 | .ep a,.ep b=>kR a b
 | .win k v o l s,.win k' v' o' l' s'=>υ k k' &&υ v v' &&υ o o' &&υ l l' &&υ s s'
 | .ptr k v o,.ptr k' v' o'=>υ k k' &&υ v v' &&υ o o'
 | .mp k,.mp k'=>υ k k'
 | .fn f a,.fn g b=>υ f g &&kR a b
 |_,_=>false
def kR:List D->List D->Bool
 |[],[]=>true
 |a::l,b::m=>gE a b &&kR l m
 |_,_=>false
end
def xi:mc->mc->Bool
 | .mem v a c,.mem v' a' c'=>υ v v' &&(a==a') &&kR c c'
 | .iter s p,.iter s' p'=>s==s' &&υ p p'
 | .dead,.dead=>true
 |_,_=>false
def D.mO:D->Option Nat
 | .win k _ _ _ _=>some k
 | .ptr k _ _=>some k
 |_=>none
def fQ:Op->Option Operand
 | .load _ a=>some a
 | .indexAddr _ x _=>some x
 |_=>none
def py (k:Option Nat) (a b:St):Bool:=
 match k with
 |none=>true
 |some k=>match a.bs[k]?,b.bs[k]? with
  |some x,some y=>xi x y
  |_,_=>false
def mi (k:Option Nat) (a b:St):Bool:=
 match k with
 |none=>true
 |some k=>match υ a.bs.length b.bs.length with
  |true=>true
  |false=>match a.bs[k]? with
   |some (.mem _ _ c)=>Q4 (refs c) a.bs.length
   |_=>false
def fh (x:Oper) (fi:Fr) (si oo:St) (y:Oper) (fj:Fr) (sj Ad:St):Bool:=
 match fQ y.op with
 |some a=>py (fj.ev a).mO si oo
 |none=>match fQ x.op with
  |some a=>py (fi.ev a).mO sj Ad &&mi (fi.ev a).mO si Ad
  |none=>false
abbrev Log:=List (Oper×Fr×St×St)
def DW (dy:List (Nat×Nat)) (j:Nat) (log:Log) (o:Oper) (I:Fr) (U R:St):Bool:=
 dy.all λp=>match υ p.2 j &&Nat.blt p.1 j with
  |true=>match log[j-1-p.1]? with
   |some (x,fi,si,oo)=>fh x fi si oo o I U R
   |none=>false
  |false=>true
def pP (ops:Array Oper) (dy:List (Nat×Nat)):Nat->Log->List Oper->Fr->St->Option (Fr×St)
 |_,_,[],I,U=>some (I,U)
 |j,log,o::rest,I,U=>
  match au ops I o with
  |some true=>match eT P cf I U o with
   |some (d,R)=>match DW dy j log o I U R with
    |true=>pP ops dy (j+1) ((o,I,U,R)::log) rest (I.eS o.dst d) R
    |false=>none
   |none=>none
  |some false=>pP ops dy (j+1) ((o,I,U,U)::log) rest (I.eS o.dst (.tup [])) U
  |none=>none
def Am (ops:Array Oper) (dy:List (Nat×Nat)) (I:Fr) (U:St):Option (Fr×St):=
 match dy with
 |[]=>ju P cf ops ops.toList I U
 |_=>pP P cf ops dy 0 [] ops.toList I U
def iR (id:Nat):List (Nat×List (Nat×Nat))->List (Nat×Nat)
 |[]=>[]
 |(i,l)::r=>match υ i id with
  |true=>l
  |false=>iR id r
inductive Out where
 |next
 |exit (id:Nat)
 |ret
def iter (step:Fr->St->Option (Out×Fr×St)):Nat->Fr->St->Option (Out×Fr×St)
 |0,_,_=>none
 |n+1,I,U=>match step I.clean U with
  |some (.next,aA,R)=>iter step n aA R
  |r=>r
def bF (dy:List (Nat×List (Nat×Nat))) (n:Nat):Code->Fr->St->Option (Out×Fr×St)
 | .skip,I,U=>some (.next,I,U)
 | .region id ops _,I,U=>match Am P cf ops (iR id dy) I.clean U with
  |some (aA,R)=>some (.next,aA,R)
  |none=>none
 | .seq a b,I,U=>match bF dy n a I U with
  |some (.next,aA,R)=>bF dy n b aA R
  |r=>r
 | .cond c a b,I,U=>match I.ev c with
  | .bool true=>bF dy n a I U
  | .bool false=>bF dy n b I U
  |_=>none
 | .block id c,I,U=>match bF dy n c I U with
  |some (.exit i,aA,R)=>if i=id then some (.next,aA,R) else some (.exit i,aA,R)
  |r=>r
 | .loop c,I,U=>iter (bF dy n c) n I U
 | .exit id,I,U=>some (.exit id,I,U)
 | .ret,I,U=>some (.ret,I,U)
 |_,_,_=>none
def jr (I:Fr) (U:St):List ResultVar->Option (List D)
 |[]=>some []
 | .tmp t::l=>(jr I U l).map λds=>I.get t::ds
 | .cell a t::l=>(gy P t (I.get a) U).bind λd=>(jr I U l).map λds=>d::ds
def qP:List D->D
 |[d]=>d
 |ds=>.tup ds
end
def chunk (s:Nat):Nat->List D->List D
 |0,_=>[]
 |n+1,c=>(match s with|1=>c.headD .cT|_=>.agg (c.take s))::chunk s n (c.drop s)
def cE (f:D->Option D):List D->Option (List D)
 |[]=>some []
 |d::ds=>match f d with
  |some x=>match cE f ds with
   |some xs=>some (x::xs)
   |none=>none
  |none=>none
def b_ (U:St) (N:Nat):Nat->D->Option D
 |0,_=>none
 |n+1,d=>match d with
  | .bool b=>some (.bool b)
  | .int k i=>some (.int k i)
  | .str s=>some (.str s)
  | .nul=>some (.sl [])
  | .sl es=>some (.sl es)
  | .pnil=>some .pnil
  | .nilfn=>some .nilfn
  | .nilif=>some .nilif
  | .win k aj off len s=>if k<N then none else(U.cp k aj).bind λ(_,c)=>if off+len*s<=c.length then(cE (b_ U N n) ((c.drop off).take (len*s))).map λcs=>.sl (chunk s len cs) else none
  | .agg cs=>(cE (b_ U N n) cs).map .agg
  |_=>none
def aB (U:St) (N:Nat) (kn:Bool):Nat->D->Option D
 |0,_=>none
 |n+1,d=>match d with
  | .win k aj off len s=>if k<N then some (.win k aj off len s) else b_ U N n (.win k aj off len s)
  | .ptr k aj off=>if k<N then some (.ptr k aj off) else none
  | .mp k=>if k<N then some (.mp k) else none
  | .nul=>some (if kn then .nul else .sl [])
  | .agg cs=>(cE (aB U N kn n) cs).map .agg
  | .tup ds=>(cE (aB U N kn n) ds).map .tup
  | .fn f fZ=>if refs fZ<=N then some (.fn f fZ) else none
  |d=>some d
def pad (n:Nat) (args:List D):Fr:=⟨n,args++JO (n-args.length) (.tup []),[]⟩
def aw (m:Mode) (U:St):St:=
 match m with
 | .ro=>{U with flr:=U.bs.length,ro:=U.bs.length}
 | .rw=>{U with flr:=U.bs.length}
 | .bW=>U
 | .nw=>{U with ro:=U.bs.length}
def cZ (m:Mode) (kn:Bool) (U st1:St) (d:D):Option (D×St):=
 match m with
 | .bW=>some (d,st1)
 | .nw=>some (d,⟨st1.bs,U.flr,U.ro⟩)
 |_=>match aB st1 U.bs.length kn 16 d with
  |some d'=>some (d',⟨st1.bs.take U.bs.length,U.flr,U.ro⟩)
  |none=>none
def zu (P:Pv) (cf:eJ) (n:Nat) (x:Fi) (body:Code) (args:List D) (U:St):Option (D×St):=
 match bF P cf x.dyn n body (pad x.nloc args) (aw x.mode U) with
 |some (.exit _,_,_)=>none
 |some (_,I,st1)=>match jr P I st1 x.fn.results.toList with
  |some ds=>cZ x.mode x.knul U st1 (qP ds)
  |none=>none
 |none=>none
def cA (P:Pv):Nat->eJ
 |0=>λ_ _ _=>none
 |n+1=>λf args U=>
  match fT f P.uO with
  |some p=>p args U
  |none=>match P.fi f with
   |some x=>match x.jG with
    |some p=>p args U
    |none=>match x.fn.body with
     |some body=>zu P (cA P n) n x body args U
     |none=>none
   |none=>none
mutual
def HN:∀(a b:D),gE a b=true->a=b
 | .bool a,b,h=>by cases b<;>simp[gE] at h;rw[h]
 | .int k n,b,h=>by cases b<;>simp[gE] at h;rw[h.1,h.2]
 | .str s,b,h=>by cases b<;>simp[gE] at h;rw[h]
 | .nul,b,h=>by cases b<;>simp[gE] at h;rfl
 | .pnil,b,h=>by cases b<;>simp[gE] at h;rfl
 | .nilfn,b,h=>by cases b<;>simp[gE] at h;rfl
 | .nilif,b,h=>by cases b<;>simp[gE] at h;rfl
 | .cT,b,h=>by cases b<;>simp[gE] at h;rfl
 | .sl a,b,h=>by cases b<;>simp[gE] at h;rw[jl _ _ h]
 | .agg a,b,h=>by cases b<;>simp[gE] at h;rw[jl _ _ h]
 | .tup a,b,h=>by cases b<;>simp[gE] at h;rw[jl _ _ h]
 | .ep a,b,h=>by cases b<;>simp[gE] at h;rw[jl _ _ h]
 | .win ..,b,h=>by cases b<;>simp[gE] at h;rw[h.1.1.1.1,h.1.1.1.2,h.1.1.2,h.1.2,h.2]
 | .ptr ..,b,h=>by cases b<;>simp[gE] at h;rw[h.1.1,h.1.2,h.2]
 | .mp ..,b,h=>by cases b<;>simp[gE] at h;rw[h]
 | .fn f a,b,h=>by cases b<;>simp[gE] at h;rw[h.1,jl _ _ h.2]
def jl:∀(a b:List D),kR a b=true->a=b
 |[],b,h=>by cases b<;>simp[kR] at h;rfl
 |a::l,b,h=>by
  cases b with
  |nil=>simp[kR] at h
  |cons b m=>
   simp[kR] at h;rw[HN a b h.1,jl l m h.2]
end
mutual
theorem Jx:∀(a:D),gE a a=true
 | .bool a=>by simp[gE]
 | .int k n=>by simp[gE]
 | .str s=>by simp[gE]
 | .nul=>rfl
 | .pnil=>rfl
 | .nilfn=>rfl
 | .nilif=>rfl
 | .cT=>rfl
 | .sl a=>by simp[gE];exact gW a
 | .agg a=>by simp[gE];exact gW a
 | .tup a=>by simp[gE];exact gW a
 | .ep a=>by simp[gE];exact gW a
 | .win ..=>by simp[gE]
 | .ptr ..=>by simp[gE]
 | .mp ..=>by simp[gE]
 | .fn f a=>by simp only[gE];rw[gW a];simp
theorem gW:∀(a:List D),kR a a=true
 |[]=>rfl
 |a::l=>by simp only[kR];rw[Jx a,gW l];rfl
end
def Jy {a b} (h:xi a b=true):a=b:=by
 cases a<;>cases b<;>simp[xi] at h<;>try rfl
 .rw[h.1.1,h.1.2,jl _ _ h.2]
 rw[h.1,h.2]
variable{a b:St}{k:Nat}
def yc (h:py (some k) a b=true):b.bs[k]?=a.bs[k]?:=by
 unfold py at h;simp only at h
 split at h;next x y h1 X=>rw[h1,X,Jy h]
 cases h
theorem lF {v} {ar} {c} (h:a.bs[k]?=some (.mem v ar c)) (h':b.bs[k]?=some (.mem v ar c)):py (some k) a b=true:=by
 unfold py;simp only[h,h',xi,gW];simp
end Go.V
namespace Go.V
open Go.RowKit
structure h2 where
 aj:Nat->Option Nat
 β:Nat->Option (Nat×Nat)
 Z:Nat->Prop
def ej:mc->Option Nat
 | .mem v _ _=>some v
 | .iter _ _=>some 0
 | .map _=>some 0
 |_=>none
def St.aj (U:St) (k:Nat):Option Nat:=(U.bs[k]?).bind ej
def St.x (U:St) (β:Nat->Option (Nat×Nat)) (Z:Nat->Prop):h2:=⟨U.aj,β,Z⟩
def cH (w:World) (b:Nat):Option Nat:=
 match w.heap[b]? with
 |some (.cells c _ _)=>some c.size
 |_=>none
inductive IR (w:World) (Z:Nat->Prop):D->Value->Prop where
 |bool (b:Bool):IR w Z (.bool b) (.bool b)
 |int (k:IntKind) (n:Int):IR w Z (.int k n) (.int k n)
 |str (s:List UInt8):IR w Z (.str s) (.string ⟨s.toArray⟩)
 |nul:IR w Z .nul (.slice none 0 0)
 |pnil:IR w Z .pnil (.pointer none)
 |nilfn:IR w Z .nilfn .nilFunc
 |nilif:IR w Z .nilif .nilIface
 |emp (a:Option Addr) (cap:Nat):IR w Z (.sl []) (.slice a 0 cap)
 |sl (es:List D) (b off cap s:Nat) (f:Nat->Nat->Value) (hz:Z b) (hc:es.length<=cap)
   (hs:∀(i:Nat) e,es[i]?=some e->e.cells?=some e.cells/\e.cells.length=s)
   (hv:∀(i:Nat) e (j:Nat) c,es[i]?=some e->e.cells[j]?=some c->w.cell? ⟨b,off+(i*s+j),none⟩=some (f i j)/\(f i j).oneCell'=true)
   (hr:∀(i:Nat) e (j:Nat) c,es[i]?=some e->e.cells[j]?=some c->IR w Z c (f i j)):IR w Z (.sl es) (.slice (some ⟨b,off,none⟩) es.length cap)
 |ep (cs:List D) (b off:Nat) (f:Nat->Value) (hz:Z b)
   (hv:∀(j:Nat) c,cs[j]?=some c->w.cell? ⟨b,off+j,none⟩=some (f j)/\(f j).oneCell'=true)
   (hr:∀(j:Nat) c,cs[j]?=some c->IR w Z c (f j)):IR w Z (.ep cs) (.pointer (some ⟨b,off,none⟩))
 |agg (cs:List D) (vs:List Value) (hl:cs.length=vs.length) (h1:∀v∈vs,v.oneCell'=true)
   (hr:∀(i:Nat) c v,cs[i]?=some c->vs[i]?=some v->IR w Z c v):IR w Z (.agg cs) (.agg vs.toArray)
 |tup (cs:List D) (vs:List Value) (hl:cs.length=vs.length)
   (hr:∀(i:Nat) c v,cs[i]?=some c->vs[i]?=some v->IR w Z c v):IR w Z (.tup cs) (.tuple vs.toArray)
 |cT (v:Value):IR w Z .cT v
inductive VR (w:World) (x:h2):D->Value->Prop where
 |im (d:D) (v:Value) (h:IR w x.Z d v):VR w x d v
 |win (k vr off len s:Nat) (a:Addr) (cap:Nat) (hc:len<=cap) (A:∃p,x.β k=some p) (hm:∀c,x.aj k=some c->vr<=c)
   (h:x.aj k=some vr->∃b base sz,x.β k=some (b,base)/\cH w b=some sz/\(cap=0\/(a=⟨b,base+off,none⟩/\base+off+cap*s<=sz))):
   VR w x (.win k vr off len s) (.slice (some a) len cap)
 |ptr (k vr off:Nat) (a:Addr) (A:∃p,x.β k=some p) (hm:∀c,x.aj k=some c->vr<=c)
   (h:x.aj k=some vr->∃b base,x.β k=some (b,base)/\a=⟨b,base+off,none⟩):VR w x (.ptr k vr off) (.pointer (some a))
 |mp (k r:Nat) (A:∃p,x.β k=some p) (h:x.aj k=some 0->∃base,x.β k=some (r,base)):VR w x (.mp k) (.map (some r))
 |fn (f:Nat) (cs:List D) (vs:List Value) (hl:cs.length=vs.length)
   (hr:∀(i:Nat) c v,cs[i]?=some c->vs[i]?=some v->VR w x c v):VR w x (.fn f cs) (.func (.func f) #[] vs.toArray)
 |agg (cs:List D) (vs:List Value) (hl:cs.length=vs.length) (h1:∀v∈vs,v.oneCell'=true)
   (hr:∀(i:Nat) c v,cs[i]?=some c->vs[i]?=some v->VR w x c v):VR w x (.agg cs) (.agg vs.toArray)
 |tup (cs:List D) (vs:List Value) (hl:cs.length=vs.length)
   (hr:∀(i:Nat) c v,cs[i]?=some c->vs[i]?=some v->VR w x c v):VR w x (.tup cs) (.tuple vs.toArray)
variable{w w':World}
def DX {b o:Nat} (h:w'.heap[b]?=w.heap[b]?):w'.cell? ⟨b,o,none⟩=w.cell? ⟨b,o,none⟩:=by
 simp only[World.cell?,h]
variable{d:D}{v:Value}
def IR.mono {Z Z':Nat->Prop} (hz:∀b,Z b->Z' b/\w'.heap[b]?=w.heap[b]?) (h:IR w Z d v):IR w' Z' d v:=by
 induction h with
 |bool b=>exact .bool b
 |int k n=>exact .int k n
 |str s=>exact .str s
 |nul=>exact .nul
 |pnil=>exact .pnil
 |nilfn=>exact .nilfn
 |nilif=>exact .nilif
 |emp a cap=>exact .emp a cap
 |sl es b off cap s f F hc hs hv hr ih=>
  exact .sl es b off cap s f (hz b F).1 hc hs (λi e j c he hj=>by rw[DX (hz b F).2];exact hv i e j c he hj) ih
 |ep cs b off f F hv hr ih=>exact .ep cs b off f (hz b F).1 (λj c hj=>by rw[DX (hz b F).2];exact hv j c hj) ih
 |agg cs vs hl h1 hr ih=>exact .agg cs vs hl h1 ih
 |tup cs vs hl hr ih=>exact .tup cs vs hl ih
 |cT v=>exact .cT v
structure eI (w:World) (x:h2) (w':World) (x':h2):Prop where
 dm:∀k p,x.β k=some p->∃p',x'.β k=some p'
 z:∀b,x.Z b->x'.Z b/\w'.heap[b]?=w.heap[b]?
 aj:∀k c p,x.β k=some p->x'.aj k=some c->∃o,x.aj k=some o/\o<=c
 at_:∀k c,x'.aj k=some c->x.aj k=some c->∀b base,x.β k=some (b,base)->x'.β k=some (b,base)/\cH w' b=cH w b
def eI.refl w x:eI w x w x:=
 ⟨λ_ p h=>⟨p,h⟩,λ_ h=>⟨h,rfl⟩,λ_ c _ _ h=>⟨c,h,η _⟩,λ_ _ _ _ _ _ h=>⟨h,rfl⟩⟩
variable{w1 w2 w3:World}
def eI.trans {x1 x2 x3} (h:eI w1 x1 w2 x2) (g:eI w2 x2 w3 x3):eI w1 x1 w3 x3 where
 dm k p B:=by obtain⟨p',wE⟩:=h.dm k p B;exact g.dm k p' wE
 z b F:=⟨(g.z b (h.z b F).1).1,((g.z b (h.z b F).1).2).trans (h.z b F).2⟩
 aj k c p A hc:=by
  obtain⟨p',wE⟩:=h.dm k p A;obtain⟨o,ho,hle⟩:=g.aj k c p' wE hc;obtain⟨q,hq,L6⟩:=h.aj k o p A ho;exact⟨q,hq,Θ L6 hle⟩
 at_ k c h3 h1 b base F:=by
  obtain⟨p',wE⟩:=h.dm k _ F;obtain⟨o,ho,hle⟩:=g.aj k c p' wE h3;obtain⟨p,B,L6⟩:=h.aj k o _ F ho;rw[h1] at B;cases B;have:o=c:=X7 hle L6;subst this;obtain⟨hb2,OW⟩:=h.at_ k _ ho h1 b base F;obtain⟨hb3,Vv⟩:=g.at_ k _ h3 ho b base hb2;exact⟨hb3,Vv.trans OW⟩
variable{x':h2}
def VR.mono {x} (A:eI w x w' x') (h:VR w x d v):VR w' x' d v:=by
 induction h with
 |im d v h=>exact .im d v (h.mono A.z)
 |win k vr off len s a cap hc hkn hm h=>
  obtain⟨p,B⟩:=hkn;refine .win k vr off len s a cap hc (A.dm k p B) ?_ ?_;·intro c hcv;obtain⟨o,ho,hle⟩:=A.aj k c p B hcv;exact Θ (hm o ho) hle
  intro hv;obtain⟨o,ho,hle⟩:=A.aj k vr p B hv;have:o=vr:=X7 hle (hm o ho);subst this;obtain⟨b,base,sz,F,hs,hr⟩:=h ho;obtain⟨gB,Vx⟩:=A.at_ k _ hv ho b base F;exact⟨b,base,sz,gB,Vx.trans hs,hr⟩
 |ptr k vr off a hkn hm h=>
  obtain⟨p,B⟩:=hkn;refine .ptr k vr off a (A.dm k p B) ?_ ?_;·intro c hcv;obtain⟨o,ho,hle⟩:=A.aj k c p B hcv;exact Θ (hm o ho) hle
  intro hv;obtain⟨o,ho,hle⟩:=A.aj k vr p B hv;have:o=vr:=X7 hle (hm o ho);subst this;obtain⟨b,base,F,hr⟩:=h ho;exact⟨b,base,(A.at_ k _ hv ho b base F).1,hr⟩
 |mp k r hkn h=>
  obtain⟨p,B⟩:=hkn;refine .mp k r (A.dm k p B) λhv=>?_;obtain⟨o,ho,hle⟩:=A.aj k 0 p B hv;have:o=0:=by omega
  subst this;obtain⟨base,F⟩:=h ho;exact⟨base,(A.at_ k _ hv ho r base F).1⟩
 |fn f cs vs hl hr ih=>exact .fn f cs vs hl ih
 |agg cs vs hl h1 hr ih=>exact .agg cs vs hl h1 ih
 |tup cs vs hl hr ih=>exact .tup cs vs hl ih
theorem VR.cT w x v:VR w x .cT v:=.im _ _ (.cT v)
def qK (n:Nat) (I:Nat×Nat):Prop:=I.1<=I.2/\∀o,o<n->¬(I.1<=o/\o<I.2)
def qK.zero n:qK n (0,0):=⟨η _,λo _=>by omega⟩
def kj (w:World) (x:h2) (b base:Nat):mc->Prop
 | .mem _ _ cells=>∃c el I,w.heap[b]?=some (.cells c el I)/\base+cells.length<=c.size/\qK c.size I/\
   ∀(j:Nat) d,cells[j]?=some d->∃aa,c[base+j]?=some aa/\aa.oneCell'=true/\VR w x d aa
 | .iter s pos=>base=0/\w.heap[b]?=some (.stringIter ⟨s.toArray⟩ pos)
 | .map es=>base=0/\∃entries clock,w.heap[b]?=some (.map entries clock)/\entries.size=es.length/\∀(i:Nat) p,es[i]?=some p->∃kk n vk x e,p=(.int kk n,.int vk x)/\entries[i]?=some e/\e.key=.int kk n/\e.val=.int vk x
 | .dead=>False
structure iD (w:World) (U:St) (β:Nat->Option (Nat×Nat)) (Z:Nat->Prop):Prop where
 dom:∀k b base,β k=some (b,base)->k<U.bs.length
 lt:∀k b base,β k=some (b,base)->b<w.heap.size
 inj:∀k k' b x x',β k=some (b,x)->β k'=some (b,x')->k=k'
 zd:∀k b base,β k=some (b,base)->¬Z b
 zl:∀b,Z b->b<w.heap.size
 box:∀k b base bx,β k=some (b,base)->U.bs[k]?=some bx->kj w (U.x β Z) b base bx
 flr:U.flr<=U.bs.length
 ro:U.ro<=U.bs.length
structure HV (zB:Nat->Prop) (w w':World):Prop where
 os:w'.os=w.os
 tape:w'.tape=w.tape
 output:w'.output=w.output
 size:w.heap.size<=w'.heap.size
 block:∀b,b<w.heap.size->¬zB b->w'.heap[b]?=w.heap[b]?
def HV.refl (zB:Nat->Prop) w:HV zB w w:=⟨rfl,rfl,rfl,η _,λ_ _ _=>rfl⟩
variable{zB M':Nat->Prop}
def HV.trans {M'':Nat->Prop} (h:HV zB w1 w2) (g:HV M' w2 w3) (hM:∀b,zB b->M'' b) (hM':∀b,b<w1.heap.size->M' b->M'' b):HV M'' w1 w3:=
 ⟨g.os.trans h.os,g.tape.trans h.tape,g.output.trans h.output,Θ h.size g.size,λb F hn=>
  (g.block b (YS F h.size) λhm=>hn (hM' b F hm)).trans (h.block b F λhm=>hn (hM b hm))⟩
def HV.mono (h:HV zB w w') (hM:∀b,zB b->M' b):HV M' w w':=
 ⟨h.os,h.tape,h.output,h.size,λb F hn=>h.block b F λhm=>hn (hM b hm)⟩
def wrt (U:St) (β:Nat->Option (Nat×Nat)) (b:Nat):Prop:=∃k base,β k=some (b,base)/\U.ro<=k
def sq (w:World) (x:h2) (I:Fr) (tmps:Array Value):Prop:=∀t,VR w x (I.get t) (tmps.getD t undef)
def sq.mono {x} {I} {tmps} (h:sq w x I tmps) (A:eI w x w' x'):sq w' x' I tmps:=λt=>(h t).mono A
structure Pv.Ok (pv:Pv) (P:Program):Prop where
 ty:∀t i,pv.info t=some i->P.info? t=some i
 fs:∀f x,pv.fi f=some x->x.jG=none->P.funcs[f]?=some x.fn/\∀b,x.fn.body=some b->x.fn.name≠ "runtime.NumGoroutine"
 BH:∀t,pv.BH.contains t=true->P.stoodInHeld t=false/\P.eqGuardType P.depth t=false
 mixed:P.follows .mixedOrders=true
section
variable{pv:Pv} {P:Program} (ok:pv.Ok P)
include ok
variable{t:Nat}
theorem Em {d:TypeDesc} (h:pv.cF t=some d):P.underlying t=some d:=by
 unfold Pv.cF at h;unfold Program.underlying
 cases hi:pv.info t with
 |none=>simp[hi] at h
 |some i=>
  rw[ok.ty t i hi];simp[hi] at h;obtain⟨desc,str,size,bytes,B,al,fa,z,cmp,ms⟩:=i
  cases desc with
  |named nm aa=>
   simp only at h
   cases hu:pv.info aa with
   |none=>simp[hu] at h
   |some j=>rw[hu] at h;simp only[ok.ty aa j hu];simpa using h
  |_=>simpa using h
theorem aM {d:TypeDesc} (h:pv.cF t=some d) w:(underlying t).run P w=.ok d w:=by
 simp[underlying,Em ok h]
theorem q9 {i:TypeInfo} (h:pv.info t=some i) w:(typeInfo t).run P w=.ok i w:=by
 simp[typeInfo,ok.ty t i h]
theorem bU {n} (h:bS pv t=some n) w:(sizeOf t).run P w=.ok n w:=by
 unfold bS at h
 cases hi:pv.info t with
 |none=>simp[hi] at h
 |some i=>simp[hi] at h;simp[sizeOf,q9 ok hi,h]
omit ok in
theorem mj {i:TypeInfo} (h:pv.info t=some i):bS pv t=some i.size:=by simp[bS,h]
def wu (d:TypeDesc):Bool:=
 match d with
 | .struct _| .array _ _=>true
 |_=>false
theorem uM {d:TypeDesc} (h:pv.cF t=some d) w:(isAgg t).run P w=.ok (wu d) w:=by
 simp[isAgg,aM ok h];cases d<;>rfl
def Kp {z} (h:JN pv t=some z) w:∃v,(zeroValue t).run P w=.ok v w/\z=mU v:=by
 unfold JN at h
 cases hi:pv.info t with
 |none=>simp[hi] at h
 |some i=>
  rw[hi] at h
  cases hz:i.zero with
  |none=>simp[hz] at h
  |some v=>simp[hz] at h;exact⟨v,by simp[zeroValue,q9 ok hi,hz],h.symm⟩
end
def Og (v:Value):Iw v=v.oneCell':=by cases v<;>rfl
def yI w (Z:Nat->Prop) v (h:Iw v=true):IR w Z (vP v) v:=by
 cases v with
 |bool b=>exact .bool b
 |int k n=>exact .int k n
 |string s=>
  have:=IR.str (w:=w) (Z:=Z) s.data.toList
  simpa[vP] using this
 |pointer a=>cases a with
  |none=>exact .pnil
  |some a=>exact .cT _
 |slice a l c=>
  unfold vP
  split<;>first|contradiction|skip
  all_goals first|(rename_i h;cases h;exact .nul)|exact .cT _
 |nilFunc=>exact .nilfn
 |nilIface=>exact .nilif
 |_=>exact .cT _
def AA {l:List Value}:∀{r:List D},oD l=some r->r.length=l.length/\(∀v∈l,v.oneCell'=true)/\∀(w:World) (Z:Nat->Prop) (i:Nat) c v,r[i]?=some c->l[i]?=some v->IR w Z c v:=by
 induction l with
 |nil=>intro r h;simp[oD] at h;subst h;simp
 |cons v l ih=>
  intro r h;unfold oD at h
  cases h1:Iw v with
  |false=>simp[h1] at h
  |true=>
   simp[h1] at h
   cases hr:oD l with
   |none=>simp[hr] at h
   |some r'=>
    simp[hr] at h;subst h;obtain⟨hl,ho,hi⟩:=ih hr;refine⟨by simp[hl],?_,?_⟩
    .intro aa hu
     rcases List.mem_cons.1 hu with rfl|hu
     .rw[<-Og];exact h1
     exact ho aa hu
    intro w Z i c aa hc hu
    cases i with
    |zero=>simp at hc hu;subst hc;subst hu;exact yI w Z _ h1
    |succ i=>simp at hc hu;exact hi w Z i c aa hc hu
def CJ w (Z:Nat->Prop) v:IR w Z (mU v) v:=by
 unfold mU
 split
 .rename_i cs
  split
  .rename_i l hl;obtain⟨h1,X,h3⟩:=AA hl;have:=IR.agg (w:=w) (Z:=Z) l cs.toList h1 X (h3 w Z)
   simpa using this
  exact .cT _
 rename_i hn
 by_cases h:Iw v=true;·exact yI w Z v h
 cases v with
 |agg cs=>exact absurd rfl (hn cs)
 |tuple vs=>exact .cT _
 |_=>simp[Iw] at h
variable{w:World}{I:Fr}{a:Act}
def zh {x} (h:sq w x I a.tmps) o:VR w x (I.ev o) (a.eval o):=by
 cases o with
 |tmp t=>exact h t
 |const v=>exact .im _ _ (CJ _ _ v)
 |global g=>exact .cT _ _ _
 |func f=>exact .fn f [] [] rfl (by simp)
theorem AB d e:∀(l:List D) (t aa:Nat),nth d (l.set t e) aa=if aa=t/\t<l.length then e else nth d l aa
 |[],t,aa=>by simp
 |x::l,0,aa=>by cases aa<;>simp[nth]
 |x::l,t+1,aa=>by
  cases aa with
  |zero=>simp[nth]
  |succ aa=>simp[nth];exact AB d e l t aa
def GK d:∀(l:List D) (t:Nat),l.length<=t->nth d l t=d
 |[],t,_=>by cases t<;>rfl
 |x::l,0,h=>by simp at h
 |x::l,t+1,h=>GK d l t (by simpa using h)
theorem HA (I:Fr) t aa d:(I.put t d).get aa=(if aa=t then(if Q4 I.n t=false/\I.loc.length<=t then .cT else d) else I.get aa):=by
 unfold Fr.put
 by_cases hut:aa=t
 .subst hut;simp
  cases F:Q4 I.n aa with
  |false=>
   simp[Fr.get,F,AB]
   by_cases hl:aa<I.loc.length;·rw[if_pos hl,if_neg (by omega)]
   rw[if_neg hl,if_pos (by omega)];exact GK _ _ _ (by omega)
  |true=>simp[Fr.get,F,look,Nat.beq_refl]
 simp[hut]
 have hq:υ aa t=false:=by
  cases hq:υ aa t with
  |false=>rfl
  |true=>exact absurd (Nat.eq_of_beq_eq_true hq) hut
 cases F:Q4 I.n t<;>cases hbu:Q4 I.n aa<;>simp[Fr.get,hbu,look,hq,AB,hut]
def KH {x} {d} {v} (h:sq w x I a.tmps) (hd:VR w x d v) dst (hs:∀t,dst=some t->t<a.tmps.size):sq w x (I.eS dst d) (a.put dst v).tmps:=by
 cases dst with
 |none=>exact h
 |some t=>
  intro aa;have hu:=h aa;have hs:=hs t rfl;simp only[Fr.eS,Act.put,HA]
  have VA:(a.tmps.setIfInBounds t v).getD aa undef=if aa=t then v else a.tmps.getD aa undef:=by
   simp[Array.getElem?_setIfInBounds]
   by_cases hut:t=aa;·subst hut;simp[hs]
   have:¬aa=t:=λe=>hut e.symm;simp[hut,this]
  rw[VA]
  by_cases hut:aa=t
  .simp[hut]
   split;·exact .cT _ _ _
   exact hd
  simp only[hut,if_false];exact hu
end Go.V
namespace Go.V
open Go.RowKit
theorem ja (k:IntKind) n:aR k n=k.wrap n:=by
 unfold aR
 split
 .rename_i m
  split;·rename_i h;have h:=Nat.le_of_ble_eq_true h;cases k<;>simp only[JJ,iQ,X9,WN] at*<;>simp<;>omega
  rfl
 rename_i m
 split
 .rename_i h;have h:¬AG k<=m:=λh'=>by rw[Zm h'] at h;cases h
  cases k<;>simp only[JJ,AG,X9,WN] at*<;>simp<;>omega
 rfl
section
variable{w:World} {x:h2}
variable{v:Value}
def de {k} {n} (h:VR w x (.int k n) v):v=.int k n:=by
 cases h with|im _ _ h=>cases h;rfl
def eL {b} (h:VR w x (.bool b) v):v=.bool b:=by
 cases h with|im _ _ h=>cases h;rfl
def gJ {s:List UInt8} (h:VR w x (.str s) v):v=.string ⟨s.toArray⟩:=by
 cases h with|im _ _ h=>cases h;rfl
def fe (h:VR w x .nul v):v=.slice none 0 0:=by
 cases h with|im _ _ h=>cases h;rfl
def jE (h:VR w x .pnil v):v=.pointer none:=by
 cases h with|im _ _ h=>cases h;rfl
variable{cs:List D}
def jR (h:VR w x (.agg cs) v):∃vs:List Value,v=.agg vs.toArray/\cs.length=vs.length/\(∀aa∈vs,aa.oneCell'=true)/\
  ∀(i:Nat) c aa,cs[i]?=some c->vs[i]?=some aa->VR w x c aa:=by
 cases h with
 |im _ _ h=>cases h with|agg _ vs hl h1 hr=>exact⟨vs,rfl,hl,h1,λi c aa hc hu=>.im _ _ (hr i c aa hc hu)⟩
 |agg _ vs hl h1 hr=>exact⟨vs,rfl,hl,h1,hr⟩
def vh (h:VR w x (.tup cs) v):∃vs:List Value,v=.tuple vs.toArray/\cs.length=vs.length/\
  ∀(i:Nat) c aa,cs[i]?=some c->vs[i]?=some aa->VR w x c aa:=by
 cases h with
 |im _ _ h=>cases h with|tup _ vs hl hr=>exact⟨vs,rfl,hl,λi c aa hc hu=>.im _ _ (hr i c aa hc hu)⟩
 |tup _ vs hl hr=>exact⟨vs,rfl,hl,hr⟩
def BO {f} (h:VR w x (.fn f cs) v):∃vs:List Value,v=.func (.func f) #[] vs.toArray/\cs.length=vs.length/\
  ∀(i:Nat) c aa,cs[i]?=some c->vs[i]?=some aa->VR w x c aa:=by
 cases h with
 |im _ _ h=>cases h
 |fn _ _ vs hl hr=>exact⟨vs,rfl,hl,hr⟩
end
def pick {p:Nat->Value->Prop}:∀(n:Nat),(∀j,j<n->∃aa,p j aa)->∃us:List Value,us.length=n/\∀(j:Nat) aa,us[j]?=some aa->p j aa
 |0,_=>⟨[],rfl,by simp⟩
 |n+1,h=>by
  obtain⟨us,hl,B⟩:=pick n λj hj=>h j (by omega);obtain⟨aa,hu⟩:=h n (by omega);refine⟨us++[aa],by simp[hl],λj v hv=>?_⟩
  rcases Nat.lt_trichotomy j n with hj|hj|hj
  .rw[φ (by omega)] at hv;exact B j v hv
  .subst hj;rw[<-hl] at hv;simp at hv;subst hv;exact hu
  rw[ν (by simp;omega)] at hv;cases hv
def cC (w:World) (x:h2) (b o:Nat) (c:List D):Prop:=
 ∀(j:Nat) d,c[j]?=some d->∃aa,w.cell? ⟨b,o+j,none⟩=some aa/\aa.oneCell'=true/\VR w x d aa
variable{w:World}{b o:Nat}{c:List D}
def cC.drop {x} (h:cC w x b o c) n:cC w x b (o+n) (c.drop n):=by
 intro j d hd;rw[Γ] at hd;have:=h (n+j) d hd
 rwa [show o+(n+j)=o+n+j by omega] at this
def cC.take {x} (h:cC w x b o c) n:cC w x b o (c.take n):=by
 intro j d hd;rw[Ψ] at hd
 split at hd;·exact h j d hd
 cases hd
def cC.list {x} (h:cC w x b o c):∃us:List Value,us.length=c.length/\
  (∀(j:Nat) aa,us[j]?=some aa->w.cell? ⟨b,o+j,none⟩=some aa)/\(∀aa∈us,aa.oneCell'=true)/\∀(j:Nat) d aa,c[j]?=some d->us[j]?=some aa->VR w x d aa:=by
 obtain⟨us,hl,B⟩:=pick (p:=λj aa=>∃d,c[j]?=some d/\w.cell? ⟨b,o+j,none⟩=some aa/\aa.oneCell'=true/\VR w x d aa) c.length λj hj=>by
  obtain⟨aa,hu⟩:=h j c[j] (ο hj);exact⟨aa,c[j],ο hj,hu⟩
 refine⟨us,hl,λj aa hu=>?_,λaa hu=>?_,λj d aa hd hu=>?_⟩;·obtain⟨_,_,h,_⟩:=B j aa hu;exact h
 .obtain⟨j,hj⟩:=Qu hu;obtain⟨_,_,_,h,_⟩:=B j aa hj;exact h
 obtain⟨d',sG,_,_,h⟩:=B j aa hu;rw[hd] at sG;cases sG;exact h
def tH {P} {us:List Value} (h:∀(j:Nat) aa,us[j]?=some aa->w.cell? ⟨b,o+j,none⟩=some aa):
  (loadCells ⟨b,o,none⟩ us.length).run P w=.ok us.toArray w:=by
 refine run_loadCells_list w ⟨b,o,none⟩ us λj v hv=>?_;have:=h j v hv;unfold Addr.add
 split;next hj=>subst hj;simpa using this
 exact this
section
variable{pv:Pv} {P:Program} (ok:pv.Ok P)
include ok
variable{w:World}{t:Nat}{d:D}
def uK {x} {b o} {c} (hc:cC w x b o c) (h:da pv t c=some d):
  ∃v,(loadVar t ⟨b,o,none⟩).run P w=.ok v w/\VR w x d v:=by
 unfold da at h
 have agg:∀td,pv.cF t=some td->wu td=true->(bS pv t).bind (λn=>if n<=c.length then some (D.agg (c.take n)) else none)=some d->
   ∃v,(loadVar t ⟨b,o,none⟩).run P w=.ok v w/\VR w x d v:=by
  intro td hu ha h
  cases hs:bS pv t with
  |none=>simp[hs] at h
  |some n=>
   simp only[hs,YZ] at h
   split at h
   .rename_i hn;simp at h;subst h;obtain⟨us,hl,h1,X,h3⟩:=(hc.take n).list;have Nz:us.length=n:=by simp[hl];omega
    refine⟨.agg us.toArray,?_,.agg _ us hl.symm X h3⟩;simp only[loadVar,ζ,uM ok hu,δ,ha,if_true,bU ok hs];have:=tH (P:=P) h1;rw[Nz] at this;simp[this]
   cases h
 split at h;·cases h
 next hu=>exact agg _ hu rfl h
 next hu=>exact agg _ hu rfl h
 rename_i td h1 X hu
 have ha:wu td=false:=by
  cases td<;>first|rfl|(exfalso;first|exact h1 _ rfl|exact X _ _ rfl)
 cases c with
 |nil=>cases h
 |cons y l=>
  simp at h;subst h;obtain⟨aa,km,ns,s9⟩:=hc 0 y rfl;refine⟨aa,?_,s9⟩;simp at km;simp[loadVar,uM ok hu,ha,km]
def rp {x} {off} {cs:List D} {vs:List Value} (hl:cs.length=vs.length) (h1:∀aa∈vs,aa.oneCell'=true) (hr:∀(i:Nat) c aa,cs[i]?=some c->vs[i]?=some aa->VR w x c aa) (h:vM pv t cs off=some d):
  ∃v,(part t vs.toArray off).run P w=.ok v w/\VR w x d v:=by
 unfold vM at h
 have agg:∀td,pv.cF t=some td->wu td=true->(bS pv t).bind (λn=>if off+n<=cs.length then some (D.agg ((cs.drop off).take n)) else none)=some d->
   ∃v,(part t vs.toArray off).run P w=.ok v w/\VR w x d v:=by
  intro td hu ha h
  cases hs:bS pv t with
  |none=>simp[hs] at h
  |some n=>
   simp only[hs,YZ] at h
   split at h
   .rename_i hn;simp at h;subst h;refine⟨.agg ((vs.drop off).take n).toArray,?_,.agg _ _ (by simp[hl]) (λaa hu=>h1 aa (List.mem_of_mem_drop (Zf hu))) ?_⟩
    .simp only[part,ζ,uM ok hu,δ,ha,if_true,bU ok hs,μ]
     congr 2
     apply Jm;simp[Z9]
    intro i c aa hc hu;rw[Ψ] at hc hu
    split at hc;next hi=>rw[if_pos hi] at hu;rw[Γ] at hc hu;exact hr _ c aa hc hu
    cases hc
   cases h
 split at h;·cases h
 next hu=>exact agg _ hu rfl h
 next hu=>exact agg _ hu rfl h
 rename_i td QI h2' hu
 have ha:wu td=false:=by
  cases td<;>first|rfl|(exfalso;first|exact QI _ rfl|exact h2' _ _ rfl)
 have hlt:off<cs.length:=by
  rcases τ off cs.length with h'|h'
  .exact h'
  rw[ν h'] at h;cases h
 obtain⟨aa,hu'⟩:∃aa,vs[off]?=some aa:=⟨vs[off]'(by omega),ο _⟩
 exact⟨aa,by simp[part,uM ok hu,ha,hu'],hr off d aa h hu'⟩
end
end Go.V
namespace Go.V
open Go.RowKit
theorem Aj (s t:List UInt8):((⟨s.toArray⟩:ByteArray).toList==(⟨t.toArray⟩:ByteArray).toList)=(s==t):=by
 rw[Q9,Q9]
variable{w:World}{k vr off:Nat}{v:Value}
def cG {x:h2} (h:VR w x (.ptr k vr off) v):∃a,v=.pointer (some a)/\(∃p,x.β k=some p)/\
  (x.aj k=some vr->∃b base,x.β k=some (b,base)/\a=⟨b,base+off,none⟩):=by
 cases h with
 |im _ _ h=>cases h
 |ptr _ _ _ a A hm h=>exact⟨a,rfl,A,h⟩
def P6 {x:h2} (h:VR w x (.mp k) v):∃r,v=.map (some r)/\(x.aj k=some 0->∃base,x.β k=some (r,base)):=by
 cases h with
 |im _ _ h=>cases h
 |mp _ r A h=>exact⟨r,rfl,h⟩
def ec {x:h2} {len s} (h:VR w x (.win k vr off len s) v):∃a cap,v=.slice (some a) len cap/\len<=cap/\(∃p,x.β k=some p)/\
  (∀c,x.aj k=some c->vr<=c)/\
  (x.aj k=some vr->∃b base sz,x.β k=some (b,base)/\cH w b=some sz/\(cap=0\/(a=⟨b,base+off,none⟩/\base+off+cap*s<=sz))):=by
 cases h with
 |im _ _ h=>cases h
 |win _ _ _ _ _ a cap hc A hm h=>exact⟨a,cap,rfl,hc,A,hm,h⟩
def ny {x:h2} {es:List D} (h:VR w x (.sl es) v):∃a cap,v=.slice a es.length cap/\es.length<=cap/\
  (es=[]\/∃b off s,a=some ⟨b,off,none⟩/\x.Z b/\(∀(i:Nat) e,es[i]?=some e->e.cells?=some e.cells/\e.cells.length=s)/\
   (∀(i:Nat) e,es[i]?=some e->cC w x b (off+i*s) e.cells)/\
   ∃f:Nat->Nat->Value,(∀(i:Nat) e (j:Nat) c,es[i]?=some e->e.cells[j]?=some c->w.cell? ⟨b,off+(i*s+j),none⟩=some (f i j)/\(f i j).oneCell'=true)/\
    ∀(i:Nat) e (j:Nat) c,es[i]?=some e->e.cells[j]?=some c->IR w x.Z c (f i j)):=by
 cases h with
 |im _ _ h=>
  cases h with
  |emp a cap=>exact⟨a,cap,rfl,by simp,.inl rfl⟩
  |sl _ b off cap s f hz hc hs hv hr=>
   refine⟨_,cap,rfl,hc,.inr ⟨b,off,s,rfl,hz,hs,?_,f,hv,hr⟩⟩;intro i e he j d hd;obtain⟨h1,X⟩:=hv i e j d he hd;exact⟨f i j,by rw[<-h1];congr 2;omega,X,.im _ _ (hr i e j d he hd)⟩
def vi {x:h2} {cs} (h:VR w x (.ep cs) v):∃b off,v=.pointer (some ⟨b,off,none⟩)/\x.Z b/\cC w x b off cs/\
  ∃f:Nat->Value,(∀(j:Nat) c,cs[j]?=some c->w.cell? ⟨b,off+j,none⟩=some (f j)/\(f j).oneCell'=true)/\∀(j:Nat) c,cs[j]?=some c->IR w x.Z c (f j):=by
 cases h with
 |im _ _ h=>
  cases h with
  |ep _ b off f hz hv hr=>
   exact⟨b,off,rfl,hz,λj d hd=>⟨f j,(hv j d hd).1,(hv j d hd).2,.im _ _ (hr j d hd)⟩,f,hv,hr⟩
section
variable{pv:Pv} {P:Program} (ok:pv.Ok P)
include ok
def X' n:(∀{w:World} {x:h2} {t:Nat} {d e:D} {aa v:Value} {b:Bool},VR w x d aa->VR w x e v->Pr pv n t d e=some b->∀m,n<=m->(χ m t aa v).run P w=.ok b w)/\
  (∀{w:World} {x:h2} {xs ys:List D} {us vs:List Value} {fs:List Field} {b:Bool},xs.length=us.length->ys.length=vs.length->(∀aa∈us,aa.oneCell'=true)->(∀aa∈vs,aa.oneCell'=true)->
   (∀(i:Nat) c aa,xs[i]?=some c->us[i]?=some aa->VR w x c aa)->(∀(i:Nat) c aa,ys[i]?=some c->vs[i]?=some aa->VR w x c aa)->
   eqFields pv n xs ys fs=some b->∀m,n<=m->(Y9 m us.toArray vs.toArray fs).run P w=.ok b w)/\
  (∀{w:World} {x:h2} {t sz:Nat} {xs ys:List D} {us vs:List Value} {left i:Nat} {b:Bool},bS pv t=some sz->xs.length=us.length->ys.length=vs.length->(∀aa∈us,aa.oneCell'=true)->(∀aa∈vs,aa.oneCell'=true)->
   (∀(i:Nat) c aa,xs[i]?=some c->us[i]?=some aa->VR w x c aa)->(∀(i:Nat) c aa,ys[i]?=some c->vs[i]?=some aa->VR w x c aa)->
   oN pv n t sz xs ys left i=some b->∀m,n<=m->
   ((do
    for j in List.range' i left do
     if !(<-χ m t (<-part t us.toArray (j*sz)) (<-part t vs.toArray (j*sz))) then return false
    pure true:Sem Bool)).run P w=.ok b w):=by
 induction n with
 |zero=>refine⟨?_,?_,?_⟩<;>intros<;>rename_i h _ _<;>simp[Pr,eqFields,oN] at h
 |succ n ih=>
  obtain⟨Qm,Ha,ih3⟩:=ih;refine⟨?_,?_,?_⟩
  .intro w x t d e aa v b hu hv h m hm
   obtain⟨m,rfl⟩:∃m',m=m'+1:=⟨m-1,by omega⟩
   unfold Pr at h
   split at h;next ht=>rw[eL hu,eL hv];simp at h;subst h;simp[χ,aM ok ht]
   .rename_i ht;rw[de hu,de hv]
    split at h;next A=>subst A;simp at h;subst h;simp[χ,aM ok ht]
    cases h
   next ht=>rw[gJ hu,gJ hv];simp at h;subst h;simp only[χ,ζ,aM ok ht,δ,μ,beq_toListBytes,Aj]
   next ht=>rw[jE hu,jE hv];simp only[Φ.injEq] at h;subst h;simp[χ,aM ok ht]
   next ht=>rw[jE hu];obtain⟨a,rfl,_⟩:=cG hv;simp only[Φ.injEq] at h;subst h;simp[χ,aM ok ht]
   next ht=>rw[jE hv];obtain⟨a,rfl,_⟩:=cG hu;simp only[Φ.injEq] at h;subst h;simp[χ,aM ok ht]
   next ht=>rw[fe hu,fe hv];simp only[Φ.injEq] at h;subst h;simp[χ,aM ok ht]
   next ht=>rw[fe hv];obtain⟨a,cap,rfl,_⟩:=ec hu;simp only[Φ.injEq] at h;subst h;simp[χ,aM ok ht]
   .rename_i ht;rw[fe hv];obtain⟨a,cap,rfl,_,h'|⟨bb,off,s,rfl,_⟩⟩:=ny hu;·cases h'
    simp only[Φ.injEq] at h;subst h;simp[χ,aM ok ht]
   .rename_i fields xs ys ht;obtain⟨us,rfl,A6,Eg,dO⟩:=jR hu;obtain⟨vs,rfl,tY,A1,pe⟩:=jR hv
    split at h
    .rename_i hq;have B:=(ok.BH t hq).1;have hf:P.underlying t=some (.struct (P.fieldsOf t)):=by simp[Program.fieldsOf,Em ok ht]
     have ly:P.fieldsOf t=fields:=by simp[Program.fieldsOf,Em ok ht]
     rw[run_equalIn_struct w m t _ _ hf B,ly];exact Ha A6 tY Eg A1 dO pe h m (by omega)
    cases h
   .rename_i len el xs ys ht;obtain⟨us,rfl,A6,Eg,dO⟩:=jR hu;obtain⟨vs,rfl,tY,A1,pe⟩:=jR hv
    cases hs:bS pv el with
    |none=>simp[hs] at h
    |some sz=>
     simp[hs] at h;have:=ih3 hs A6 tY Eg A1 dO pe h m (by omega);simp only[χ,ζ,aM ok ht,δ,bU ok hs];rw[Std.Legacy.Range.forIn_eq_forIn_range']
     simpa[Std.Legacy.Range.size] using this
   cases h
  .intro w x xs ys us vs fs b A6 tY Eg A1 dO pe h m hm
   cases fs with
   |nil=>simp[eqFields] at h;subst h;simp[Y9]
   |cons f fs=>
    unfold eqFields at h;unfold Y9
    split at h;next hn=>simp[hn];exact Ha A6 tY Eg A1 dO pe h m (by omega)
    rename_i hn;simp only[ne_eq,hn,not_false_eq_true,if_true]
    split at h
    .rename_i d e hd he;obtain⟨aa,km,ns⟩:=rp ok A6 Eg dO hd;obtain⟨v,uV,uU⟩:=rp ok tY A1 pe he;simp only[ζ,km,uV,δ]
     split at h
     .rename_i hq;rw[Qm ns uU hq m (by omega)]
      simpa using Ha A6 tY Eg A1 dO pe h m (by omega)
     next hq=>rw[Qm ns uU hq m (by omega)];simp only[Φ.injEq] at h;subst h;simp
     cases h
    cases h
  intro w x t sz xs ys us vs left i b hsz A6 tY Eg A1 dO pe h m hm
  cases left with
  |zero=>simp[oN] at h;subst h;simp
  |succ left=>
   unfold oN at h
   split at h
   .rename_i d e hd he;obtain⟨aa,km,ns⟩:=rp ok A6 Eg dO hd;obtain⟨v,uV,uU⟩:=rp ok tY A1 pe he;simp only[List.range'_succ,List.forIn_cons,ζ,km,uV,δ]
    split at h
    .rename_i hq;rw[Qm ns uU hq m (by omega)];have:=ih3 hsz A6 tY Eg A1 dO pe h m (by omega)
     simpa using this
    next hq=>rw[Qm ns uU hq m (by omega)];simp only[Φ.injEq] at h;subst h;simp
    cases h
   cases h
end
end Go.V
namespace Go.V
open Go.RowKit
variable{P:Program}{w:World}
def kN (op : BinOp) (t : TypeId) (xo yo : Operand) (a b : Value) (h1 : ¬ (a = .nilIface /\ b = .nilIface)) (X : ∀ c d, ¬ (a = .agg c /\ b = .agg d)):
    (eqGuard op t xo yo a b).run P w = .ok () w := by
  cases op <;> first
    | rfl
    | (unfold eqGuard
       simp only [Bool.not_true, ψ, if_false]
       split
       . exact absurd ⟨rfl, rfl⟩ h1
       . exact absurd ⟨rfl, rfl⟩ (X _ _)
       . rfl)
variable{op:BinOp}{k:IntKind}{a b:Int}{d:D}
def HL (h:HM op k a b=some d):∃n,d=.int k n/\(K8 op k a b).run P w=.ok (.int k n) w:=by
 unfold HM at h
 split at h<;>first|(cases h;refine⟨_,rfl,?_⟩;simp[K8,ja];done)|(cases h;done)
def S7 (h:FV op a b=some d):∃r,d=.bool r/\(Op.intCmp op a b).run P w=.ok (.bool r) w:=by
 unfold FV at h
 split at h<;>first|(cases h;exact⟨_,rfl,rfl⟩)|(cases h;done)
def RD {x : h2} {t : TypeId} (hs : op ≠ .shl) (Vx : op ≠ .shr) (h : xB op k a b = some d):
    ∃ v, (binOp op t (.int k a) (.int k b)).run P w = .ok v w /\ VR w x d v := by
  cases op <;> simp only [binOp, ne_eq, not_true_eq_false, if_false] <;> simp only [xB] at h <;> first
    | exact absurd rfl hs
    | exact absurd rfl Vx
    | (cases h; exact ⟨_, rfl, by rw [ja]; exact .im _ _ (.int _ _)⟩)
    | (split at h
       . cases h
       . rename_i F; cases h
         refine ⟨_, by simp only [Op.intDiv, F, if_false]; rfl, ?_⟩
         first | exact .im _ _ (.int _ _) | (rw [ja]; exact .im _ _ (.int _ _)))
    | (obtain ⟨n, rfl, hr⟩ := HL (P := P) (w := w) h; exact ⟨_, hr, .im _ _ (.int _ _)⟩)
    | (obtain ⟨n, rfl, hr⟩ := S7 (P := P) (w := w) h; exact ⟨_, hr, .im _ _ (.bool _)⟩)
def B7 {x} {t:TypeId} {k'} (hs:op=.shl\/op=.shr) (h:EC op k a b=some d):
  ∃v,(binOp op t (.int k a) (.int k' b)).run P w=.ok v w/\VR w x d v:=by
 unfold EC at h
 split at h;·cases h
 rename_i F
 rcases hs with rfl|rfl<;>simp at h<;>subst h<;>
  refine⟨_,by simp only[binOp,Op.shift,F,if_false];rfl,?_⟩<;>first|exact .im _ _ (.int _ _)|(rw[ja];exact .im _ _ (.int _ _))
def Q1 {x} {t:TypeId} {a b:List UInt8} (h:J' op a b=some d):
  ∃v,(binOp op t (.string ⟨a.toArray⟩) (.string ⟨b.toArray⟩)).run P w=.ok v w/\VR w x d v:=by
 have e:binOp op t (.string ⟨a.toArray⟩) (.string ⟨b.toArray⟩)=YX op ⟨a.toArray⟩ ⟨b.toArray⟩:=by cases op<;>rfl
 rw[e];have l1:(⟨a.toArray⟩:ByteArray).toList=a:=by rw[Q9]
 have l2:(⟨b.toArray⟩:ByteArray).toList=b:=by rw[Q9]
 by_cases hop:op=.add
 .subst hop;simp only[J'] at h
  split at h
  .rename_i F;cases h
   have hm:¬((((⟨a.toArray⟩:ByteArray).size+(⟨b.toArray⟩:ByteArray).size:Nat):Int)>Wz.max):=by
    have h1:(⟨a.toArray⟩:ByteArray).size=a.length:=by simp[QW]
    have X:(⟨b.toArray⟩:ByteArray).size=b.length:=by simp[QW]
    rw[h1,X];simp only[IntKind.max,WN,X9,if_true];omega
   refine⟨.string ⟨(a++b).toArray⟩,?_,.im _ _ (.str _)⟩;simp only[YX,hm,if_false,μ]
   congr 2
  cases h
 cases op<;>simp only[J'] at h<;>first
  |exact absurd rfl hop
  |(cases h;done)
  |(cases h;exact⟨_,by simp only[YX,l1,l2];rfl,.im _ _ (.bool _)⟩)
section
variable{pv:Pv} {P:Program} (ok:pv.Ok P)
include ok
def MB {w} {x} {t} {d e} {aa v} {b} (hu:VR w x d aa) (hv:VR w x e v) (h:equalD pv t d e=some b) op xo yo:
  (eqGuard op t xo yo aa v).run P w=.ok () w/\(WM t aa v).run P w=.ok b w:=by
 unfold equalD at h
 split at h;·cases h
 rename_i hg;have heq:=(X' ok wY).1 hu hv h Op.maxDepth (by decide)
 have hgu:(eqGuard op t xo yo aa v).run P w=.ok () w:=by
  by_cases ha:Tq d=true
  .have hq:pv.BH.contains t=true:=by
    simp only[ha,Bool.true_and,Bool.not_eq_true',Bool.not_eq_false] at hg;simpa using hg
   cases d with
   |agg cs=>
    obtain⟨us,rfl,_⟩:=jR hu
    cases v with
    |agg vs=>exact run_eqGuard_agg w op t xo yo _ _ (ok.BH t hq).2
    |_=>exact kN _ _ _ _ _ _ (by simp) (by simp)
   |_=>simp[Tq] at ha
  refine kN _ _ _ _ _ _ ?_ ?_
  .rintro⟨rfl,rfl⟩;unfold wY Pr at h
   split at h<;>first
    |(have:=eL hu;cases this)|(have:=de hu;cases this)|(have:=gJ hu;cases this)|(have:=jE hu;cases this)|(have:=fe hu;cases this)
    |(obtain⟨_,h',_⟩:=cG hu;cases h')|(obtain⟨_,_,h',_⟩:=ec hu;cases h')|(obtain⟨_,_,h',_⟩:=ny hu;cases h')|(obtain⟨_,h',_⟩:=jR hu;cases h')|cases h
  rintro c d' ⟨rfl,rfl⟩;unfold wY Pr at h
  split at h<;>first
   |(exfalso;exact ha rfl)
   |(have:=eL hu;cases this)|(have:=de hu;cases this)|(have:=gJ hu;cases this)|(have:=jE hu;cases this)|(have:=fe hu;cases this)
   |(obtain⟨_,h',_⟩:=cG hu;cases h')|(obtain⟨_,_,h',_⟩:=ec hu;cases h')|(obtain⟨_,_,h',_⟩:=ny hu;cases h')|cases h
 exact⟨hgu,heq⟩
end
end Go.V
namespace Go.V
open Go.RowKit
def E4 (v:Value):Prop:=(∀k n,v≠.int k n)/\(∀s,v≠.string s)/\(∀k b,v≠.float k b)/\(∀k a b,v≠.complex k a b)
def E5:D->Bool
 | .int _ _| .str _| .cT=>false
 |_=>true
def JT {w} {x} {d} {v} (h:VR w x d v) (B:E5 d=true):E4 v:=by
 unfold E4
 cases d with
 |int k n=>cases B
 |str s=>cases B
 |cT=>cases B
 |bool b=>rw[eL h];simp
 |nul=>rw[fe h];simp
 |pnil=>rw[jE h];simp
 |sl es=>obtain⟨_,_,rfl,_⟩:=ny h;simp
 |win k v o l s=>obtain⟨_,_,rfl,_⟩:=ec h;simp
 |ptr k v o=>obtain⟨_,rfl,_⟩:=cG h;simp
 |mp k=>obtain⟨_,rfl,_⟩:=P6 h;simp
 |ep c=>obtain⟨_,_,rfl,_⟩:=vi h;simp
 |fn f c=>obtain⟨_,rfl,_⟩:=BO h;simp
 |nilfn=>cases h with|im _ _ h=>cases h;simp
 |nilif=>cases h with|im _ _ h=>cases h;simp
 |agg c=>obtain⟨_,rfl,_⟩:=jR h;simp
 |tup c=>obtain⟨_,rfl,_⟩:=vh h;simp
def binOp_eql {t:TypeId} {aa v} (h:E4 aa):
  binOp .eql t aa v=(WM t aa v>>=λb=>pure (.bool b))/\binOp .neq t aa v=(WM t aa v>>=λb=>pure (.bool (!b))):=by
 obtain⟨h1,X,h3,h4⟩:=h;cases aa<;>first
  |exact absurd rfl (h1 _ _)|exact absurd rfl (X _)|exact absurd rfl (h3 _ _)|exact absurd rfl (h4 _ _ _)
  |(cases v<;>exact⟨rfl,rfl⟩)
section
variable{pv:Pv} {P:Program} (ok:pv.Ok P)
include ok
variable{w:World}{d r:D}{aa v:Value}
def Tk {x} {op} {t} {e} xo yo (hu:VR w x d aa) (hv:VR w x e v) (h:iC pv op t d e=some r):
  ∃z,((eqGuard op t xo yo aa v>>=λ_=>binOp op t aa v:Sem Value)).run P w=.ok z w/\VR w x r z:=by
 unfold iC at h
 split at h
 .rename_i k a k' b;rw[de hu,de hv];have hg:=kN (P:=P) (w:=w) op t xo yo (.int k a) (.int k' b) (by simp) (by simp);simp[hg]
  split at h;·exact B7 (.inl rfl) h
  .exact B7 (.inr rfl) h
  rename_i h1 X
  split at h;next A=>subst A;exact RD h1 X h
  cases h
 next a b=>rw[gJ hu,gJ hv];have hg:=kN (P:=P) (w:=w) op t xo yo (.string ⟨a.toArray⟩) (.string ⟨b.toArray⟩) (by simp) (by simp);simp[hg];exact Q1 h
 rename_i h1 X
 have key:∀b,equalD pv t d e=some b->(eqGuard op t xo yo aa v).run P w=.ok () w/\(WM t aa v).run P w=.ok b w/\
   (binOp .eql t aa v=(WM t aa v>>=λb=>pure (.bool b))/\binOp .neq t aa v=(WM t aa v>>=λb=>pure (.bool (!b)))):=by
  intro b F;obtain⟨hg,he⟩:=MB ok hu hv F op xo yo;refine⟨hg,he,binOp_eql ?_⟩;have gB:=F;unfold equalD at F
  split at F;·cases F
  unfold wY Pr at F;refine JT hu ?_
  cases hpd:E5 d with
  |true=>rfl
  |false=>
   exfalso
   cases d<;>simp[E5] at hpd<;>(split at F<;>first|(cases F;done)|(exact h1 _ _ _ _ rfl rfl)|(exact X _ _ rfl rfl)|simp_all)
 split at h
 .cases F:equalD pv t d e with
  |none=>simp[F] at h
  |some b=>
   simp[F] at h;subst h;obtain⟨hg,he,hq,_⟩:=key b F;exact⟨.bool b,by simp[hg,hq,he],.im _ _ (.bool _)⟩
 .cases F:equalD pv t d e with
  |none=>simp[F] at h
  |some b=>
   simp[F] at h;subst h;obtain⟨hg,he,_,hq⟩:=key b F;exact⟨.bool (!b),by simp[hg,hq,he],.im _ _ (.bool _)⟩
 cases h
omit ok in
def UF {x} {op} (hu:VR w x d aa) (h:Yq op d=some r):∃z,(Op.unary op aa).run P w=.ok z w/\VR w x r z:=by
 unfold Yq at h
 split at h;next k n=>rw[de hu];cases h;exact⟨_,rfl,by rw[ja];exact .im _ _ (.int _ _)⟩
 next k n=>rw[de hu];obtain⟨m,rfl,hr⟩:=HL (P:=P) (w:=w) h;exact⟨_,hr,.im _ _ (.int _ _)⟩
 .rw[eL hu];cases h;exact⟨_,rfl,.im _ _ (.bool _)⟩
 cases h
omit ok in
def sf {x} {y n} (hv:VR w x d v) (h:ke d y=some n) code:(QV v y code).run P w=.ok n w/\n<=y:=by
 unfold ke at h
 split at h
 .rename_i k i;rw[de hv]
  split at h;next hi=>cases h;refine⟨?_,by omega⟩;simp[QV,asIntOf,hi]
  cases h
 cases h
omit ok in
def lX {x} {len cap l h} {lo hi:Option D} {G2 uw:Option Value} cy (hc:len<=cap) (Eh:∀d v,lo=some d->G2=some v->VR w x d v) (Hp:∀d v,hi=some d->uw=some v->VR w x d v) (el:lo.isSome=G2.isSome) (eh:hi.isSome=uw.isSome) (F:cL len lo hi=some (l,h)):
  (Y3 cy len cap G2 uw none).run P w=.ok (l,h,cap) w/\l<=h/\h<=len:=by
 unfold cL at F;obtain⟨hh,h1,X⟩:=γ.1 F;obtain⟨ll,h3,h4⟩:=κ.1 X;simp at h4;obtain⟨rfl,rfl⟩:=h4
 have hle:hh<=len:=by
  cases hi with
  |none=>cases h1;exact η _
  |some d=>exact(sf (P:=P) (Hp d (uw.getD default) rfl (by cases uw<;>simp at eh|-)) h1 .sliceB).2
 have L6:ll<=hh:=by
  cases lo with
  |none=>cases h3;exact K5 _
  |some d=>exact(sf (P:=P) (Eh d (G2.getD default) rfl (by cases G2<;>simp at el|-)) h3 .sliceB).2
 refine⟨?_,L6,hle⟩
 have aa4:∀v,uw=some v->(QV v cap (if cy then .sliceAcap else .sliceAlen)).run P w=.ok hh w:=by
  intro v hv
  cases hi with
  |none=>subst hv;simp at eh
  |some d=>
   have QI:ke d cap=some hh:=by
    simp[ik] at h1;unfold ke at h1|-
    split at h1
    .split at h1;next hq=>cases h1;rw[if_pos (by omega)]
     cases h1
    cases h1
   exact(sf (P:=P) (Hp d v rfl hv) QI _).1
 have Vi:∀v,G2=some v->(QV v hh .sliceB).run P w=.ok ll w:=by
  intro v hv
  cases lo with
  |none=>subst hv;simp at el
  |some d=>exact(sf (P:=P) (Eh d v rfl hv) h3 _).1
 have aa5:uw=none->hh=len:=by
  intro hv;subst hv
  cases hi with
  |none=>cases h1;rfl
  |some d=>simp at eh
 have Vj:G2=none->ll=0:=by
  intro hv;subst hv
  cases lo with
  |none=>cases h3;rfl
  |some d=>simp at el
 unfold Y3
 cases uw with
 |none=>
  obtain rfl:=aa5 rfl
  cases G2 with
  |none=>obtain rfl:=Vj rfl;rfl
  |some v=>simp[Vi v rfl]
 |some aa=>
  have h5:=aa4 aa rfl
  cases G2 with
  |none=>obtain rfl:=Vj rfl;simp[h5]
  |some v=>simp[h5,Vi v rfl]
end
end Go.V
namespace Go.V
open Go.RowKit
structure Nx (w:World) (U:St) (β:Nat->Option (Nat×Nat)) (Z:Nat->Prop) (w':World) (R:St) (β':Nat->Option (Nat×Nat)) (Z':Nat->Prop):Prop where
 sim:iD w' R β' Z'
 keeps:eI w (U.x β Z) w' (R.x β' Z')
 evo:HV (wrt U β) w w'
 fresh:∀k b base,β' k=some (b,base)->(∃dr,β k=some (b,dr))\/w.heap.size<=b
 zfresh:∀b,Z' b->Z b\/w.heap.size<=b
 len:U.bs.length<=R.bs.length
 flr:R.flr=U.flr
 ro:R.ro=U.ro
 low:∀k,k<U.ro->R.bs[k]?=U.bs[k]?/\β' k=β k
 oV:∀k,k<U.bs.length->β k=none->β' k=none/\R.bs[k]?=U.bs[k]?
variable{w w':World}{b base:Nat}
def kj.bW {x x'} {bx} (h:kj w x b base bx) (A:eI w x w' x') (F:w'.heap[b]?=w.heap[b]?):kj w' x' b base bx:=by
 cases bx with
 |mem v a cells=>
  obtain⟨c,el,I,h1,X,h3,h4⟩:=h;refine⟨c,el,I,F.trans h1,X,h3,λj d hd=>?_⟩;obtain⟨aa,km,ns,s9⟩:=h4 j d hd;exact⟨aa,km,ns,s9.mono A⟩
 |iter s pos=>exact⟨h.1,F.trans h.2⟩
 |map es=>
  obtain⟨h0,en,cl,h1,X⟩:=h;exact⟨h0,en,cl,F.trans h1,X⟩
 |dead=>exact h
variable{U:St}{β:Nat->Option (Nat×Nat)}{Z:Nat->Prop}
theorem Nx.same (h:iD w U β Z):Nx w U β Z w U β Z:=
 ⟨h,eI.refl _ _,HV.refl _ _,λ_ _ base F=>.inl ⟨base,F⟩,λ_ hz=>.inl hz,η _,rfl,rfl,λ_ _=>⟨rfl,rfl⟩,λ_ _ h=>⟨h,rfl⟩⟩
def Nx.trans {w1 w2 w3} {st1 st2 Kc} {β1 β2 β3:Nat->Option (Nat×Nat)} {Z1 Z2 Z3:Nat->Prop} (h:Nx w1 st1 β1 Z1 w2 st2 β2 Z2) (g:Nx w2 st2 β2 Z2 w3 Kc β3 Z3):
  Nx w1 st1 β1 Z1 w3 Kc β3 Z3 where
 sim:=g.sim
 keeps:=h.keeps.trans g.keeps
 evo:=by
  refine h.evo.trans g.evo (λ_ hm=>hm) λb F hm=>?_;obtain⟨k,base,A,fx⟩:=hm
  rcases h.fresh k b base A with⟨dr,gB⟩|hlt
  .exact⟨k,dr,gB,by rw[<-h.ro];exact fx⟩
  omega
 fresh k b base F:=by
  rcases g.fresh k b base F with⟨dr,gB⟩|hlt
  .exact h.fresh k b dr gB
  exact .inr (Θ h.evo.size hlt)
 zfresh b hz:=by
  rcases g.zfresh b hz with hz|hlt
  .exact h.zfresh b hz
  exact .inr (Θ h.evo.size hlt)
 len:=Θ h.len g.len
 flr:=g.flr.trans h.flr
 ro:=g.ro.trans h.ro
 low k A:=by
  obtain⟨h1,X⟩:=h.low k A;obtain⟨g1,g2⟩:=g.low k (by rw[h.ro];exact A);exact⟨g1.trans h1,g2.trans X⟩
 oV k A h0:=by
  obtain⟨h1,X⟩:=h.oV k A h0;obtain⟨g1,g2⟩:=g.oV k (YS A h.len) h1;exact⟨g1,g2.trans X⟩
def Nx.still (h:iD w U β Z) (hh:w'.heap=w.heap) (ho:w'.os=w.os) (ht:w'.tape=w.tape) (B:w'.output=w.output):
  Nx w U β Z w' U β Z:=by
 have A:eI w (U.x β Z) w' (U.x β Z):=
  ⟨λ_ p B=>⟨p,B⟩,λb F=>⟨F,by rw[hh]⟩,λ_ c _ _ hc=>⟨c,hc,η _⟩,λ_ _ _ _ _ _ F=>⟨F,by simp[cH,hh]⟩⟩
 refine⟨⟨h.dom,λk b base F=>by rw[hh];exact h.lt k b base F,h.inj,h.zd,λb F=>by rw[hh];exact h.zl b F,?_,h.flr,h.ro⟩,A,⟨ho,ht,B,by rw[hh];exact η _,λb _ _=>by rw[hh]⟩,
  λ_ _ base F=>.inl ⟨base,F⟩,λ_ hz=>.inl hz,η _,rfl,rfl,λ_ _=>⟨rfl,rfl⟩,λ_ _ h=>⟨h,rfl⟩⟩
 intro k b base bx F j_;exact(h.box k b base bx F j_).bW A (by rw[hh])
def eG (β:Nat->Option (Nat×Nat)) (n b:Nat):Nat->Option (Nat×Nat):=λk=>if k=n then some (b,0) else β k
def JU (U:St) bx k (A:k<U.bs.length):(U.push bx).aj k=U.aj k:=by
 simp[St.aj,St.push,φ A]
def gK (h:w'.heap[b]?=w.heap[b]?):cH w' b=cH w b:=by simp[cH,h]
theorem Nx.push (h:iD w U β Z) o (hh:w'.heap=w.heap.push o) (ho:w'.os=w.os) (ht:w'.tape=w.tape) (B:w'.output=w.output) bx (F:eI w (U.x β Z) w' ((U.push bx).x (eG β U.bs.length w.heap.size) Z)->kj w' ((U.push bx).x (eG β U.bs.length w.heap.size) Z) w.heap.size 0 bx):
  Nx w U β Z w' (U.push bx) (eG β U.bs.length w.heap.size) Z:=by
 have hold:∀b,b<w.heap.size->w'.heap[b]?=w.heap[b]?:=by
  intro b F;rw[hh,W0,if_neg (by omega)]
 have A:eI w (U.x β Z) w' ((U.push bx).x (eG β U.bs.length w.heap.size) Z):=by
  have Ei:∀k p,β k=some p->k<U.bs.length:=λk p B=>h.dom k p.1 p.2 B;refine⟨λk p B=>⟨p,?_⟩,λb F=>⟨F,hold b (h.zl b F)⟩,λk c p A hc=>?_,λk c hc FH b base F=>?_⟩;·have:=Ei k p B;simp[St.x,eG] at B|-;rw[if_neg (by omega)];exact B
  .refine⟨c,?_,η _⟩;have:=JU U bx k (Ei k p A);show U.aj k=some c;rw[<-this];exact hc
  refine⟨?_,gK (hold b (h.lt k b base F))⟩;have lx:k<U.bs.length:=Ei k _ F;simp[St.x,eG];rw[if_neg (by omega)];exact F
 have hsz:w'.heap.size=w.heap.size+1:=by rw[hh,Yb]
 refine⟨⟨?_,?_,?_,?_,?_,?_,?_,?_⟩,A,⟨ho,ht,B,by omega,λb F _=>hold b F⟩,?_,λ_ hz=>.inl hz,by simp[St.push],rfl,rfl,?_,λk A h0=>by simp[eG,St.push];rw[if_neg (by omega),φ A];exact⟨h0,rfl⟩⟩
 .intro k b base iE;simp[eG] at iE;simp[St.push]
  split at iE;·omega
  have:=h.dom k b base iE;omega
 .intro k b base iE;simp[eG] at iE
  split at iE;·cases iE;omega
  have:=h.lt k b base iE;omega
 .intro k k' b y y' h1 X;simp[eG] at h1 X
  split at h1<;>split at X;·omega
  .cases h1;have:=h.lt k' _ _ X;omega
  .cases X;have:=h.lt k _ _ h1;omega
  exact h.inj k k' b y y' h1 X
 .intro k b base iE hz;simp[eG] at iE
  split at iE;·cases iE;have:=h.zl _ hz;omega
  exact h.zd k b base iE hz
 .intro b hz;have:=h.zl b hz;omega
 .intro k b base MX iE j_;simp[eG] at iE
  split at iE;next hkn=>subst hkn;cases iE;simp[St.push] at j_;subst j_;exact F A
  have hlt:=h.dom k b base iE;simp[St.push,φ hlt] at j_;exact(h.box k b base MX iE j_).bW A (hold b (h.lt k b base iE))
 .have:=h.flr;simp[St.push];omega
 .have:=h.ro;simp[St.push];omega
 .intro k b base iE;simp[eG] at iE
  split at iE;·cases iE;exact .inr (η _)
  exact .inl ⟨base,iE⟩
 intro k lx;have:=h.ro;simp only[St.push,eG];rw[φ (by omega),if_neg (by omega)];exact⟨rfl,rfl⟩
def Nx.jX (h:iD w U β Z) arr (cs:List D) (c:Array Value) (el:TypeId) (I:Nat×Nat) (hh:w'.heap=w.heap.push (.cells c el I)) (ho:w'.os=w.os) (ht:w'.tape=w.tape) (B:w'.output=w.output) (hl:cs.length<=c.size) (hfr:qK c.size I) (hc:∀(j:Nat) d,cs[j]?=some d->∃aa,c[j]?=some aa/\aa.oneCell'=true/\VR w (U.x β Z) d aa):
  Nx w U β Z w' (U.push (.mem 0 arr cs)) (eG β U.bs.length w.heap.size) Z/\
   cH w' w.heap.size=some c.size/\(U.push (.mem 0 arr cs)).aj U.bs.length=some 0/\eG β U.bs.length w.heap.size U.bs.length=some (w.heap.size,0):=by
 have hnew:w'.heap[w.heap.size]?=some (.cells c el I):=by rw[hh];simp
 refine⟨Nx.push h _ hh ho ht B _ λA=>⟨c,el,I,hnew,by omega,hfr,λj d hd=>?_⟩,by simp[cH,hnew],by simp[St.aj,St.push,ej],by simp[eG]⟩;obtain⟨aa,h1,X,h3⟩:=hc j d hd;exact⟨aa,by rw[Za];exact h1,X,h3.mono A⟩
variable{k:Nat}{a:Bool}{c:List D}
def bE {aj} (h:U.cp k aj=some (a,c)):U.bs[k]?=some (.mem aj a c)/\U.aj k=some aj:=by
 unfold St.cp at h
 split at h
 .rename_i v a' c' F
  split at h;next hv=>subst hv;cases h;exact⟨F,by simp[St.aj,F,ej]⟩
  cases h
 cases h
def iD.row (h:iD w U β Z) {aj} (hm:U.cp k aj=some (a,c)) (F:β k=some (b,base)):
  ∃cs el I,w.heap[b]?=some (.cells cs el I)/\base+c.length<=cs.size/\qK cs.size I/\
   ∀(j:Nat) d,c[j]?=some d->∃aa,cs[base+j]?=some aa/\aa.oneCell'=true/\VR w (U.x β Z) d aa:=
 h.box k b base _ F (bE hm).1
theorem iD.cells (h:iD w U β Z) {aj} (hm:U.cp k aj=some (a,c)) (F:β k=some (b,base)):
  cC w (U.x β Z) b base c:=by
 obtain⟨cs,el,I,h1,X,h3,h4⟩:=h.row hm F;intro j d hd;obtain⟨aa,km,ns,s9⟩:=h4 j d hd;exact⟨aa,by simp[World.cell?,h1,km],ns,s9⟩
def ez:∀(cs c:List D) (off:Nat),(setMany c off cs).length=c.length
 |[],c,off=>rfl
 |x::xs,c,off=>by simp[setMany];rw[ez xs];simp
def je:∀(cs c:List D) (off j:Nat),off+cs.length<=c.length->(setMany c off cs)[j]?=if off<=j/\j<off+cs.length then cs[j-off]? else c[j]?
 |[],c,off,j,_=>by simp only[setMany,QS,QT];rw[if_neg (by omega)]
 |x::xs,c,off,j,h=>by
  simp at h;simp[setMany];rw[je xs (c.set off x) (off+1) j (by simp;omega)]
  by_cases h1:off+1<=j/\j<off+1+xs.length;·rw[if_pos h1,if_pos (by omega),show j-off=(j-(off+1))+1 by omega,ς]
  rw[if_neg h1]
  by_cases X:j=off;·subst X;rw[if_pos (by omega),ZE,QH (by omega)];rfl
  rw[if_neg (by omega),ρ (by omega)]
def wput (w:World) (b:Nat) (o:Obj):World:={w with heap:=w.heap.setIfInBounds b o}
variable{nz dr:Nat}{a':Bool}{c':List D}{cs':Array Value}{I:Nat×Nat}
def Nx.JQ (h:iD w U β Z) {aj} (hm:U.cp k aj=some (a,c)) (F:β k=some (b,base)) (fx:U.ro<=k) (hv:aj<=nz) (Mk:aj=nz->dr=base) {cs:Array Value} {el:TypeId} {aA:Nat×Nat} (hw:w.heap[b]?=some (.cells cs el I)) (hfr:qK cs.size aA) (hsz:cs'.size=cs.size) (hl:dr+c'.length<=cs.size) (hc:∀(j:Nat) d,c'[j]?=some d->∃aa,cs'[dr+j]?=some aa/\aa.oneCell'=true/\VR w (U.x β Z) d aa):
  Nx w U β Z (wput w b (.cells cs' el aA)) {U with bs:=U.bs.set k (.mem nz a' c')} (λi=>if i=k then some (b,dr) else β i) Z:=by
 obtain⟨j_,lS⟩:=bE hm;have lT:k<U.bs.length:=h.dom k b base F;have hbl:b<w.heap.size:=h.lt k b base F
 have hne:∀i,i≠b->(wput w b (.cells cs' el aA)).heap[i]?=w.heap[i]?:=by
  intro i hi;simp[wput];rw[π (by omega)]
 have heq:(wput w b (.cells cs' el aA)).heap[b]?=some (.cells cs' el aA):=by
  simp[wput];rw[ε hbl]
 have LJ:∀i,i≠k->({U with bs:=U.bs.set k (.mem nz a' c')}:St).aj i=U.aj i:=by
  intro i hi;simp[St.aj];rw[ρ (by omega)]
 have wz:({U with bs:=U.bs.set k (.mem nz a' c')}:St).aj k=some nz:=by
  simp[St.aj,lT,ej]
 have A:eI w (U.x β Z) (wput w b (.cells cs' el aA)) (({U with bs:=U.bs.set k (.mem nz a' c')}:St).x (λi=>if i=k then some (b,dr) else β i) Z):=by
  refine⟨λi p B=>?_,λi hi=>⟨hi,hne i λe=>h.zd k b base F (e▸hi)⟩,λi q p hi hq=>?_,λi q hq LN i' y hy=>?_⟩
  .by_cases hik:i=k;·subst hik;exact⟨(b,dr),by simp[St.x]⟩
   exact⟨p,by simp[St.x] at B|-;rw[if_neg hik];exact B⟩
  .by_cases hik:i=k;·subst hik;simp[St.x] at hq|-;rw[wz] at hq;cases hq;exact⟨aj,lS,hv⟩
   simp[St.x] at hq|-;rw[LJ i hik] at hq;exact⟨q,hq,η _⟩
  by_cases hik:i=k;·subst hik;simp only[St.x] at hq LN hy|-;rw[wz] at hq;cases hq;rw[lS] at LN;cases LN;rw[F] at hy;cases hy;refine⟨by simp[Mk rfl],by simp[cH,heq,hw,hsz]⟩
  simp[St.x] at hy|-;refine⟨by rw[if_neg hik];exact hy,gK (hne i' λe=>?_)⟩;subst e;exact hik (h.inj i k _ _ _ hy F)
 refine⟨⟨?_,?_,?_,?_,?_,?_,?_,?_⟩,A,⟨rfl,rfl,rfl,by simp[wput],λi hi hn=>hne i λe=>hn ?_⟩,?_,λ_ hz=>.inl hz,by simp,rfl,rfl,?_,λi _ h0=>by
   by_cases e:i=k;·subst e;rw[F] at h0;cases h0
   simp[if_neg e];rw[ρ (by omega)];exact⟨h0,rfl⟩⟩
 .intro i q y hq;simp;(try dsimp only at hq)
  split at hq;next e=>subst e;exact lT
  exact h.dom i q y hq
 .intro i q y hq;simp[wput];(try dsimp only at hq)
  split at hq;·cases hq;exact hbl
  exact h.lt i q y hq
 .intro i i' q y y' h1 X;(try dsimp only at h1 X)
  split at h1<;>split at X;·omega
  next e _=>cases h1;subst e;exact h.inj _ _ _ _ _ F X
  next _ e=>cases X;subst e;exact h.inj _ _ _ _ _ h1 F
  exact h.inj i i' q y y' h1 X
 .intro i q y hq hz;(try dsimp only at hq)
  split at hq;·cases hq;exact h.zd k b base F hz
  exact h.zd i q y hq hz
 .intro i hz;simp[wput];exact h.zl i hz
 .intro i q y bx hq wO;(try dsimp only at hq wO)
  split at hq
  .rename_i e;subst e;cases hq;rw[QH lT] at wO;cases wO;refine⟨cs',el,aA,heq,by omega,by rw[hsz];exact hfr,λj d hd=>?_⟩
   obtain⟨aa,km,ns,s9⟩:=hc j d hd;exact⟨aa,km,ns,s9.mono A⟩
  rename_i e;rw[ρ (by omega)] at wO;refine(h.box i q y bx hq wO).bW A (hne q λe'=>?_);subst e';exact e (h.inj i k _ _ _ hq F)
 .have:=h.flr;simp;omega
 .have:=h.ro;simp;omega
 .exact⟨k,base,e▸F,fx⟩
 .intro i q y hq;(try dsimp only at hq)
  split at hq;next e=>subst e;cases hq;exact .inl ⟨base,F⟩
  exact .inl ⟨y,hq⟩
 intro i hi;dsimp only;rw[ρ (by omega),if_neg (by omega)];exact⟨rfl,rfl⟩
def Nx.write (h:iD w U β Z) {aj} (hm:U.cp k aj=some (a,c)) (F:β k=some (b,base)) (fx:U.ro<=k) (hv:aj<=nz) (Mk:aj=nz->dr=base) {cs:Array Value} {el:TypeId} (hw:w.heap[b]?=some (.cells cs el I)) (hsz:cs'.size=cs.size) (hl:dr+c'.length<=cs.size) (hc:∀(j:Nat) d,c'[j]?=some d->∃aa,cs'[dr+j]?=some aa/\aa.oneCell'=true/\VR w (U.x β Z) d aa):
  Nx w U β Z (wput w b (.cells cs' el I)) {U with bs:=U.bs.set k (.mem nz a' c')} (λi=>if i=k then some (b,dr) else β i) Z:=
 Nx.JQ h hm F fx hv Mk hw (by
  obtain⟨S6,T5,JL,e1,_,e3,_⟩:=h.row hm F;rw[hw] at e1;cases e1
  exact e3) hsz hl hc
structure LR (w:World) (x:h2) (cs:List D) (us:List Value):Prop where
 len:cs.length=us.length
 one:∀aa∈us,aa.oneCell'=true
 rel:∀(i:Nat) c aa,cs[i]?=some c->us[i]?=some aa->VR w x c aa
variable{cs:List D}{us:List Value}{d:D}
def LR.at_ {x} (h:LR w x cs us) {j:Nat} (hd:cs[j]?=some d):∃aa,us[j]?=some aa/\aa.oneCell'=true/\VR w x d aa:=by
 have hj:j<cs.length:=by
  rcases τ j cs.length with h'|h'
  .exact h'
  rw[ν h'] at hd;cases hd
 have JH:j<us.length:=by rw[<-h.len];exact hj
 exact⟨us[j],ο JH,h.one _ (List.getElem_mem JH),h.rel j d _ hd (ο JH)⟩
theorem LR.agg {x} (h:LR w x cs us):VR w x (.agg cs) (.agg us.toArray):=.agg cs us h.len h.one h.rel
variable{v:Value}
def NN {x} (h:VR w x (.agg cs) v):∃us:List Value,v=.agg us.toArray/\LR w x cs us:=by
 obtain⟨us,rfl,h1,X,h3⟩:=jR h;exact⟨us,rfl,h1,X,h3⟩
def rZ {x} (h:VR w x d v) (hc:d.cells?=some cs):LR w x cs v.cells.toList:=by
 have one:∀aa:Value,aa.oneCell'=true->v=aa->cs=[d]->LR w x cs v.cells.toList:=by
  intro aa hu e hcs;subst e;subst hcs
  have:v.cells.toList=[v]:=by cases v<;>first|rfl|simp[Value.oneCell'] at hu
  rw[this];refine⟨rfl,by simpa using hu,λi c aa hc hu=>?_⟩
  cases i with
  |zero=>simp at hc hu;subst hc;subst hu;exact h
  |succ i=>simp at hc
 cases d with
 |agg l=>
  cases hc;obtain⟨us,rfl,hl⟩:=NN h
  simpa[Value.cells] using hl
 |tup l=>cases hc
 |cT=>cases hc
 |bool b=>cases hc;exact one _ rfl (eL h) rfl
 |int k n=>cases hc;exact one _ rfl (de h) rfl
 |str s=>cases hc;exact one _ rfl (gJ h) rfl
 |nul=>cases hc;exact one _ rfl (fe h) rfl
 |pnil=>cases hc;exact one _ rfl (jE h) rfl
 |sl es=>cases hc;obtain⟨_,_,e,_⟩:=ny h;exact one _ rfl e rfl
 |win k v o l s=>cases hc;obtain⟨_,_,e,_⟩:=ec h;exact one _ rfl e rfl
 |ptr k v o=>cases hc;obtain⟨_,e,_⟩:=cG h;exact one _ rfl e rfl
 |mp k=>cases hc;obtain⟨_,e,_⟩:=P6 h;exact one _ rfl e rfl
 |ep c=>cases hc;obtain⟨_,_,e,_⟩:=vi h;exact one _ rfl e rfl
 |fn f c=>cases hc;obtain⟨_,e,_⟩:=BO h;exact one _ rfl e rfl
 |nilfn=>cases hc;exact one .nilFunc rfl (by cases h with|im _ _ h=>cases h;rfl) rfl
 |nilif=>cases hc;exact one .nilIface rfl (by cases h with|im _ _ h=>cases h;rfl) rfl
def MS (h:d.cells?=some cs):d.cells=cs:=by cases d<;>simp[D.cells?,D.cells] at*<;>exact h
def zc off:∀(l:List Value) (n:Nat) (cells:Array Value) (k:Nat),off+n+l.length<=cells.size->
  ((l.zipIdx n).foldl (λcs (p:Value×Nat)=>cs.setIfInBounds (off+p.2) p.1) cells)[k]?=if off+n<=k/\k<off+n+l.length then l[k-(off+n)]? else cells[k]?
 |[],n,cells,k,_=>by simp only[List.zipIdx_nil,List.foldl_nil,QS,QT];rw[if_neg (by omega)]
 |v::l,n,cells,k,h=>by
  simp at h;simp only[List.zipIdx_cons,List.foldl_cons];rw[zc off l (n+1) _ k (by simp;omega)];simp only[Yn]
  by_cases h1:off+(n+1)<=k/\k<off+(n+1)+l.length;·rw[if_pos h1,if_pos (by omega),show k-(off+n)=(k-(off+(n+1)))+1 by omega,ς]
  rw[if_neg h1]
  by_cases X:k=off+n;·subst X;rw[if_pos (by omega),ZE,ε (by omega)];rfl
  rw[if_neg (by omega),π (by omega)]
def wS (off:Nat):∀(l:List (Value×Nat)) (cells:Array Value),(l.foldl (λcs (p:Value×Nat)=>cs.setIfInBounds (off+p.2) p.1) cells).size=cells.size
 |[],cells=>rfl
 |p::l,cells=>by simp;rw[wS off l];simp
def JM (off:Nat) (c cells:Array Value):(c.zipIdx.foldl (λcs (c,j)=>cs.setIfInBounds (off+j) c) cells)=((c.toList.zipIdx 0).foldl (λcs (p:Value×Nat)=>cs.setIfInBounds (off+p.2) p.1) cells):=by
 rw[<-Array.foldl_toList,Array.toList_zipIdx]
theorem LR.setMany {x} {ds:List D} {vs:List Value} (h:LR w x cs us) (g:LR w x ds vs) off (hl:off+ds.length<=cs.length):
  LR w x (setMany cs off ds) (((vs.zipIdx 0).foldl (λ(cs:Array Value) (p:Value×Nat)=>cs.setIfInBounds (off+p.2) p.1) us.toArray)).toList:=by
 have hg:=λk=>zc off vs 0 us.toArray k (by simp;have:=h.len;have:=g.len;omega);simp only[QT] at hg;have hs:=wS off (vs.zipIdx 0) us.toArray
 have nS:∀k aa,((((vs.zipIdx 0).foldl (λ(cs:Array Value) (p:Value×Nat)=>cs.setIfInBounds (off+p.2) p.1) us.toArray)).toList)[k]?=some aa->
   (off<=k/\k<off+vs.length/\vs[k-off]?=some aa)\/(¬(off<=k/\k<off+vs.length)/\us[k]?=some aa):=by
  intro k aa A;rw[QC,hg k] at A
  split at A;next hc=>exact .inl ⟨hc.1,hc.2,A⟩
  rename_i hc;exact .inr ⟨hc,by simpa using A⟩
 refine⟨?_,λaa hu=>?_,λi c aa hc hu=>?_⟩;·exact(ez ds cs off).trans (h.len.trans (List.size_toArray.symm.trans (hs.symm.trans Array.length_toList.symm)))
 .obtain⟨k,A⟩:=Qu hu
  rcases nS k aa A with⟨_,_,h'⟩|⟨_,h'⟩
  .exact g.one aa (Zb h')
  exact h.one aa (Zb h')
 rw[je ds cs off i hl] at hc
 rcases nS i aa hu with⟨h1,X,h'⟩|⟨h1,h'⟩
 .rw[if_pos ⟨h1,by rw[g.len];exact X⟩] at hc;exact g.rel _ c aa hc h'
 rw[if_neg (by rw[g.len];exact h1)] at hc;exact h.rel _ c aa hc h'
def Bj {w} {x} {place my:Nat->Option (Nat×Nat)} (B:∀i r,place i=some r->my i=some r):∀(parts:List (Nat×D)) (parts':List (Nat×Value)) {cs r:List D} {us:List Value},
  parts.length=parts'.length->(∀(i:Nat) p q,parts[i]?=some p->parts'[i]?=some q->p.1=q.1/\VR w x p.2 q.2)->LR w x cs us->iK place cs parts=some r->
  ∃rs:List Value,Y0 my us.toArray parts'=some rs.toArray/\LR w x r rs
 |[],[],cs,r,us,_,_,h,hf=>by simp[iK] at hf;subst hf;exact⟨us,rfl,h⟩
 |[],_::_,_,_,_,hl,_,_,_=>by simp at hl
 |_::_,[],_,_,_,hl,_,_,_=>by simp at hl
 |(i,d)::parts,(i',v)::parts',cs,r,us,hl,hr,h,hf=>by
  obtain⟨rfl,hv⟩:=hr 0 _ _ rfl rfl;simp only[iK] at hf
  split at hf
  .rename_i off size ds eY hcs
   split at hf;·cases hf
   rename_i hn;have hds:=rZ hv hcs;simp only[not_or] at hn;obtain⟨sB,dZ⟩:=hn;have sB:ds.length=size:=ω.1 sB;have hlen:off+ds.length<=cs.length:=by omega
   have hsz:v.cells.size=ds.length:=by rw[hds.len];simp
   obtain⟨rs,h1,X⟩:=Bj B parts parts' (by simpa using hl) (λj p q B hq=>hr (j+1) p q B hq) (h.setMany hds off hlen) hf;refine⟨rs,?_,X⟩;simp only[Y0,B _ _ eY];rw[if_neg (by simp[hsz,sB];have:=h.len;omega),JM]
   simpa using h1
  cases hf
section
variable{pv:Pv} {P:Program} (ok:pv.Ok P)
include ok
def yw w:∀(fs:List Field) {ps:List (Nat×Nat)},mw pv fs=some ps->(fs.mapM (λf=>(do pure (f.offset,<-sizeOf f.type):Sem (Nat×Nat)))).run P w=.ok ps w
 |[],ps,h=>by simp[mw] at h;subst h;simp
 |f::fs,ps,h=>by
  simp[mw] at h
  split at h
  .rename_i s hs
   split at h
   .rename_i r hr;cases h;have:=yw w fs hr;simp only[List.mapM_cons,ζ,bU ok hs,δ,μ];rw[this]
    rfl
   cases h
  cases h
variable{t:Nat}
def iM w x {cs} (h:cO pv t=some cs):∃v,(zeroValue t).run P w=.ok v w/\LR w x cs v.cells.toList:=by
 unfold cO at h
 split at h;next z hz=>obtain⟨v,hv,rfl⟩:=Kp ok hz w;exact⟨v,hv,rZ (.im _ _ (CJ _ _ v)) h⟩
 cases h
def M3 {w} {x} {parts:List (Nat×D)} {parts':List (Nat×Value)} {d} (hl:parts.length=parts'.length) (hr:∀(i:Nat) p q,parts[i]?=some p->parts'[i]?=some q->p.1=q.1/\VR w x p.2 q.2) (h:tq pv t parts=some d):
  ∃v,(ZC t parts'.toArray).run P w=.ok v w/\VR w x d v:=by
 unfold tq at h
 split at h
 .rename_i z hz;obtain⟨v,hv,hc⟩:=iM ok w x hz
  have base:∀{r:List D} {place my:Nat->Option (Nat×Nat)},(∀i r,place i=some r->my i=some r)->iK place z parts=some r->
    ∃rs:List Value,Y0 my v.cells parts'=some rs.toArray/\LR w x r rs:=by
   intro r place my B hf;obtain⟨rs,X,h3⟩:=Bj B parts parts' hl hr hc hf;exact⟨rs,by simpa using X,h3⟩
  split at h
  .rename_i fields hu
   split at h;next ps AW=>obtain⟨r,hf,rfl⟩:=κ.1 h;obtain⟨rs,h1,X⟩:=base (my:=λi=>ps[i]?) (by simp) hf;refine⟨.agg rs.toArray,?_,X.agg⟩;have hm:=yw ok w _ AW;simp only[ZC,ζ,hv,δ,aM ok hu,Array.mapM_eq_mapM_toList,Sem.run_map];rw[hm];simp[h1]
   cases h
  .rename_i n e hu
   split at h;next s hs=>obtain⟨r,hf,rfl⟩:=κ.1 h;obtain⟨rs,h1,X⟩:=base (my:=λi=>some (i*s,s)) (by simp) hf;refine⟨.agg rs.toArray,?_,X.agg⟩;simp[ZC,hv,aM ok hu,bU ok hs,h1]
   cases h
  cases h
 cases h
end
end Go.V
namespace Go.V
open Go.RowKit
variable{w:World}{b o:Nat}
def cC.append {x} {l r:List D} (h:cC w x b o l) (g:cC w x b (o+l.length) r):cC w x b o (l++r):=by
 intro j d hd;rw[QX] at hd
 split at hd;·exact h j d hd
 have:=g _ d hd
 rwa [show o+l.length+(j-l.length)=o+j by omega] at this
def cC.nil {x}:cC w x b o []:=by intro j d hd;simp at hd
def r_ {w} {x} {b s:Nat}:∀(es:List D) (off:Nat),(∀(i:Nat) e,es[i]?=some e->e.cells.length=s)->(∀(i:Nat) e,es[i]?=some e->cC w x b (off+i*s) e.cells)->
  cC w x b off (es.flatMap D.cells)/\(es.flatMap D.cells).length=es.length*s
 |[],off,_,_=>⟨.nil,by simp⟩
 |e::es,off,hs,hc=>by
  have h0:=hc 0 e rfl;have hl:=hs 0 e rfl
  obtain⟨h1,X⟩:=r_ es (off+s) (λi e' he=>hs (i+1) e' he) (λi e' he=>by
   have:=hc (i+1) e' he
   rwa [show off+(i+1)*s=off+s+i*s by rw[Δ];omega] at this)
  simp only[List.flatMap_cons,QY,Yn];refine⟨cC.append (by simpa using h0) (by rw[hl];exact h1),?_⟩;rw[X,hl,Δ];omega
variable{c:List D}
def cC.lr {x} (h:cC w x b o c) P:∃us:List Value,(loadCells ⟨b,o,none⟩ c.length).run P w=.ok us.toArray w/\LR w x c us:=by
 obtain⟨us,h1,X,h3,h4⟩:=h.list;exact⟨us,by rw[<-h1];exact tH X,h1.symm,h3,h4⟩
variable{P:Program}
theorem sN a:(loadCells a 0).run P w=.ok #[] w:=rfl
def D3 w x (l:List UInt8):LR w x (l.map λb=>.int .u8 b.toNat) (l.map λb=>.int .u8 b.toNat):=by
 refine⟨by simp,λaa hu=>?_,λi c aa hc hu=>?_⟩;·obtain⟨b,_,rfl⟩:=List.mem_map.1 hu;rfl
 simp only[List.getElem?_map] at hc hu
 cases F:l[i]? with
 |none=>simp[F] at hc
 |some b=>simp[F] at hc hu;subst hc;subst hu;exact .im _ _ (.int _ _)
variable{cs:List D}{us:List Value}
def LR.take {x} (h:LR w x cs us) n:LR w x (cs.take n) (us.take n):=
 ⟨by simp[h.len],λaa hu=>h.one aa (Zf hu),λi c aa hc hu=>by
  rw[Ψ] at hc hu
  split at hc;next hi=>rw[if_pos hi] at hu;exact h.rel i c aa hc hu
  cases hc⟩
variable{ds:List D}
def LR.append {x} {vs} (h:LR w x cs us) (g:LR w x ds vs):LR w x (cs++ds) (us++vs):=
 ⟨by simp[h.len,g.len],λaa hu=>(List.mem_append.1 hu).elim (h.one aa) (g.one aa),λi c aa hc hu=>by
  rw[QX] at hc hu
  split at hc;next hi=>rw[if_pos (by rw[<-h.len];exact hi)] at hu;exact h.rel i c aa hc hu
  rename_i hi;rw[if_neg (by rw[<-h.len];exact hi)] at hu;rw[<-h.len] at hu;exact g.rel _ c aa hc hu⟩
variable{U:St}{β:Nat->Option (Nat×Nat)}{Z:Nat->Prop}
def vC (h:iD w U β Z) {d} {v} {n} {ys:List D} (hv:VR w (U.x β Z) d v) (hr:oT U d=some (n,ys)):
  (Qe v).run P w=.ok n w/\∀s m,m<=n->ys.length=n*s->∃us:List Value,(ι s m v).run P w=.ok us.toArray w/\LR w (U.x β Z) (ys.take (m*s)) us:=by
 unfold oT at hr
 split at hr
 .rename_i es;cases hr;obtain⟨a,cap,rfl,hc,sE⟩:=ny hv;refine⟨rfl,λs m hm hs=>?_⟩
  rcases sE with rfl|⟨b,off,Y,rfl,hz,hst,hcl,_⟩
  .have pf:m=0:=by simpa using hm
   subst pf;refine⟨[],?_,⟨by simp,by simp,by simp⟩⟩
   cases a with
   |none=>simp[ι]
   |some a=>simp[ι,sN]
  obtain⟨h1,X⟩:=r_ es off (λi e he=>(hst i e he).2) hcl
  by_cases h0:es.length=0
  .have pf:m=0:=by omega
   subst pf;exact⟨[],by simp[ι,sN],⟨by simp,by simp,by simp⟩⟩
  have Hg:Y=s:=ZK (by omega) (X.symm.trans hs);subst Hg;obtain⟨us,km,ns⟩:=(h1.take (m*Y)).lr P;have hle:m*Y<=(es.flatMap D.cells).length:=by rw[X];exact θ _ hm
  rw[Yr,Jb hle] at km;exact⟨us,km,ns⟩
 .cases hr;rw[fe hv];refine⟨rfl,λs m hm hs=>⟨[],by simp[ι],⟨by simp,by simp,by simp⟩⟩⟩
 .rename_i k aj off len sz;obtain⟨⟨a,c⟩,hm,hr⟩:=γ.1 hr;dsimp only at hr
  split at hr
  .rename_i hle;cases hr;obtain⟨ad,cap,rfl,hc,A,_,hat⟩:=ec hv;obtain⟨b,base,NS,F,hsz,xJ⟩:=hat (bE hm).2;have hcl:=((h.cells hm F).drop off).take (n*sz);have hlen:((c.drop off).take (n*sz)).length=n*sz:=by simp;omega
   refine⟨rfl,λs m Hl hs=>?_⟩
   rcases xJ with rfl|⟨rfl,_⟩
   .have pf:m=0:=by omega
    subst pf;exact⟨[],by simp[ι,sN],⟨by simp,by simp,by simp⟩⟩
   obtain⟨us,km,ns⟩:=(hcl.take (m*s)).lr P;have hle:m*s<=((c.drop off).take (n*sz)).length:=by rw[hs];exact θ _ Hl
   rw[Yr,Jb hle] at km;exact⟨us,km,ns⟩
  cases hr
 .rename_i l;cases hr;rw[gJ hv];refine⟨by simp[Qe,QW],λs m hm hs=>?_⟩;simp at hs
  by_cases h0:l.length=0
  .have pf:m=0:=by omega
   subst pf;have hl:l=[]:=ξ.1 h0;subst hl;exact⟨[],by simp[ι],⟨by simp,by simp,by simp⟩⟩
  have Hg:s=1:=by
   have:l.length*1=l.length*s:=by omega
   exact(ZK (by omega) this).symm
  subst Hg;refine⟨(l.take m).map λb=>.int .u8 b.toNat,?_,?_⟩
  .simp only[ι,μ]
   congr 1
   apply Jm;simp[Wg]
  have:=(D3 w (U.x β Z) l).take (m*1)
  simpa[<-List.map_take] using this
 cases hr
def ic (c:Array Value) (off:Nat):List Value->Array Value
 |[]=>c
 |v::vs=>ic (c.setIfInBounds off v) (off+1) vs
theorem gf:∀(vs:List Value) (c:Array Value) (off:Nat),(ic c off vs).size=c.size
 |[],c,off=>rfl
 |v::vs,c,off=>by simp[ic];rw[gf vs];simp
def nD:∀(vs:List Value) (c:Array Value) (off j:Nat),off+vs.length<=c.size->(ic c off vs)[j]?=if off<=j/\j<off+vs.length then vs[j-off]? else c[j]?
 |[],c,off,j,_=>by simp only[ic,QS,QT];rw[if_neg (by omega)]
 |v::vs,c,off,j,h=>by
  simp at h;simp[ic];rw[nD vs _ (off+1) j (by simp;omega)]
  by_cases h1:off+1<=j/\j<off+1+vs.length;·rw[if_pos h1,if_pos (by omega),show j-off=(j-(off+1))+1 by omega,ς]
  rw[if_neg h1]
  by_cases X:j=off;·subst X;rw[if_pos (by omega),ZE,ε (by omega)];rfl
  rw[if_neg (by omega),π (by omega)]
def mo {P} {b} {el:TypeId} {I:Nat×Nat}:∀(vs:List Value) (i o:Nat) (w:World) (c:Array Value),w.heap[b]?=some (.cells c el I)->o+i+vs.length<=c.size->(∀q,q<c.size->¬(I.1<=q/\q<I.2))->
  (∀v∈vs,v.oneCell'=true)->(storeCells ⟨b,o,none⟩ vs i).run P w=.ok () (match vs with|[]=>w|_=>wput w b (.cells (ic c (o+i) vs) el I))
 |[],i,o,w,c,_,_,_,_=>rfl
 |v::vs,i,o,w,c,hw,hl,hf,h1=>by
  simp at hl
  have SH:(⟨b,o,none⟩:Addr).add i=⟨b,o+i,none⟩:=by
   unfold Addr.add;split;next e=>subst e;rfl
   rfl
  have hcell:w.cell? ⟨b,o+i,none⟩=some (c[o+i]'(by omega)):=by
   simp[World.cell?,hw,Array.getElem?_eq_getElem (show o+i<c.size by omega)]
  have hfr:w.frozen? ⟨b,o+i,none⟩=false:=by
   have:=hf (o+i) (by omega);simp only[World.frozen?,hw];simp only[Bool.and_eq_false_iff,decide_eq_false_iff_not];omega
  have eW:w.setCell ⟨b,o+i,none⟩ v=wput w b (.cells (c.setIfInBounds (o+i) v) el I):=by
   simp only[World.setCell,wput]
   congr 1
   apply W4;intro j;rw[Array.getElem?_modify]
   by_cases hj:b=j
   .subst hj
    have F:b<w.heap.size:=by
     rcases τ b w.heap.size with h'|h'
     .exact h'
     rw[ZF h'] at hw;cases hw
    rw[if_pos rfl,hw,ε F];simp
   rw[if_neg hj,π hj]
  have F:b<w.heap.size:=by
   rcases τ b w.heap.size with h'|h'
   .exact h'
   rw[ZF h'] at hw;cases hw
  have ZV:(wput w b (.cells (c.setIfInBounds (o+i) v) el I)).heap[b]?=some (.cells (c.setIfInBounds (o+i) v) el I):=by
   simp[wput];rw[ε F]
  have ih:=mo (P:=P) vs (i+1) o (wput w b (.cells (c.setIfInBounds (o+i) v) el I)) _ ZV (by simp;omega) (by simpa using hf) (λaa hu=>h1 aa (List.mem_cons_of_mem _ hu));simp only[storeCells,ζ,SH,run_store P w _ v .plain (h1 v (List.mem_cons_self ..)),hcell,hfr,ψ,if_false,δ,eW,ih]
  cases vs with
  |nil=>simp[ic]
  |cons v' vs=>
   simp only[ic]
   congr 1
   simp[wput,show o+(i+1)=o+i+1 by omega]
variable{k base:Nat}
def Nx.move {w':World} (h:iD w U β Z) {aj} {a a':Bool} {c':List D} (hm:U.cp k aj=some (a,c)) (F:β k=some (b,base)) (fx:U.ro<=k) {cs:Array Value} {el:TypeId} (hh:w'.heap=w.heap.push (.cells cs el (0,0))) (ho:w'.os=w.os) (ht:w'.tape=w.tape) (B:w'.output=w.output) (hl:c'.length<=cs.size) (hc:∀(j:Nat) d,c'[j]?=some d->∃aa,cs[j]?=some aa/\aa.oneCell'=true/\VR w (U.x β Z) d aa):
  Nx w U β Z w' {U with bs:=U.bs.set k (.mem (aj+1) a' c')} (λi=>if i=k then some (w.heap.size,0) else β i) Z:=by
 obtain⟨j_,lS⟩:=bE hm;have lT:k<U.bs.length:=h.dom k b base F
 have hold:∀i,i<w.heap.size->w'.heap[i]?=w.heap[i]?:=by
  intro i hi;rw[hh,W0,if_neg (by omega)]
 have heq:w'.heap[w.heap.size]?=some (.cells cs el (0,0)):=by rw[hh];simp
 have hsz:w'.heap.size=w.heap.size+1:=by rw[hh,Yb]
 have LJ:∀i,i≠k->({U with bs:=U.bs.set k (.mem (aj+1) a' c')}:St).aj i=U.aj i:=by
  intro i hi;simp[St.aj];rw[ρ (by omega)]
 have wz:({U with bs:=U.bs.set k (.mem (aj+1) a' c')}:St).aj k=some (aj+1):=by
  simp[St.aj,lT,ej]
 have A:eI w (U.x β Z) w' (({U with bs:=U.bs.set k (.mem (aj+1) a' c')}:St).x (λi=>if i=k then some (w.heap.size,0) else β i) Z):=by
  refine⟨λi p B=>?_,λi hi=>⟨hi,hold i (h.zl i hi)⟩,λi q p hi hq=>?_,λi q hq LN i' y hy=>?_⟩
  .by_cases hik:i=k;·subst hik;exact⟨(w.heap.size,0),by simp[St.x]⟩
   exact⟨p,by simp[St.x] at B|-;rw[if_neg hik];exact B⟩
  .by_cases hik:i=k;·subst hik;simp[St.x] at hq|-;rw[wz] at hq;cases hq;exact⟨aj,lS,by omega⟩
   simp[St.x] at hq|-;rw[LJ i hik] at hq;exact⟨q,hq,η _⟩
  by_cases hik:i=k;·subst hik;simp only[St.x] at hq LN hy|-;rw[wz] at hq;cases hq;rw[lS] at LN;simp at LN
  simp[St.x] at hy|-;exact⟨by rw[if_neg hik];exact hy,gK (hold i' (h.lt i i' y hy))⟩
 refine⟨⟨?_,?_,?_,?_,?_,?_,?_,?_⟩,A,⟨ho,ht,B,by omega,λi hi _=>hold i hi⟩,?_,λ_ hz=>.inl hz,by simp,rfl,rfl,?_,λi _ h0=>by
   by_cases e:i=k;·subst e;rw[F] at h0;cases h0
   simp[if_neg e];rw[ρ (by omega)];exact⟨h0,rfl⟩⟩
 .intro i q y hq;simp;(try dsimp only at hq)
  split at hq;next e=>subst e;exact lT
  exact h.dom i q y hq
 .intro i q y hq;(try dsimp only at hq)
  split at hq;·cases hq;omega
  have:=h.lt i q y hq;omega
 .intro i i' q y y' h1 X;(try dsimp only at h1 X)
  split at h1<;>split at X;·omega
  next e _=>cases h1;have:=h.lt _ _ _ X;omega
  next _ e=>cases X;have:=h.lt _ _ _ h1;omega
  exact h.inj i i' q y y' h1 X
 .intro i q y hq hz;(try dsimp only at hq)
  split at hq;·cases hq;have:=h.zl _ hz;omega
  exact h.zd i q y hq hz
 .intro i hz;have:=h.zl i hz;omega
 .intro i q y bx hq wO;(try dsimp only at hq wO)
  split at hq;next e=>subst e;cases hq;rw[QH lT] at wO;cases wO;refine⟨cs,el,(0,0),heq,by omega,qK.zero _,λj d hd=>?_⟩;obtain⟨aa,km,ns,s9⟩:=hc j d hd;exact⟨aa,by rw[Za];exact km,ns,s9.mono A⟩
  rename_i e;rw[ρ (by omega)] at wO;exact(h.box i q y bx hq wO).bW A (hold q (h.lt i q y hq))
 .have:=h.flr;simp;omega
 .have:=h.ro;simp;omega
 .intro i q y hq;(try dsimp only at hq)
  split at hq;·cases hq;exact .inr (η _)
  exact .inl ⟨y,hq⟩
 intro i hi;dsimp only;rw[ρ (by omega),if_neg (by omega)];exact⟨rfl,rfl⟩
def jL {r} (h:U.qH k r=true):U.ro<=k:=by
 simp only[St.qH,Bool.and_eq_true,decide_eq_true_eq] at h;exact h.1
def BK {R} (h:iD w U β Z) {aj off} (hu:LR w (U.x β Z) ds us) (hw:U.wr k aj off ds=some R) (F:β k=some (b,base)) {a} (ha:us=[]\/a=⟨b,base+off,none⟩):∃w',(storeCells a us).run P w=.ok () w'/\∃β',Nx w U β Z w' R β' Z/\β'=β:=by
 unfold St.wr at hw
 split at hw
 .rename_i ar c hm
  split at hw
  .rename_i hc;cases hw;obtain⟨cs,el,I,h1,X,h3,h4⟩:=h.row hm F;have hlen:=hu.len
   have hx:(λi=>if i=k then some (b,base) else β i)=β:=by
    funext i;split;next e=>subst e;exact F.symm
    rfl
   have key:∀cs':Array Value,cs'.size=cs.size->(∀j,cs'[base+j]?=if off<=j/\j<off+us.length then us[j-off]? else cs[base+j]?)->
     Nx w U β Z (wput w b (.cells cs' el I)) {U with bs:=U.bs.set k (.mem aj ar (setMany c off ds))} β Z:=by
    intro cs' hs hg
    have:=Nx.write (a':=ar) (nz:=aj) (c':=setMany c off ds) (dr:=base) h hm F (jL hc.2) (η _) (λ_=>rfl) h1 hs (by rw[ez];omega) (λj d hd=>by
     rw[je ds c off j hc.1] at hd;rw[hg j]
     split at hd;next hj=>rw[if_pos (by omega)];exact hu.at_ hd
     rename_i hj;rw[if_neg (by omega)]
     exact h4 j d hd)
    rwa [hx] at this
   rcases Nat.eq_zero_or_pos us.length with h0|h0
   .have YG:us=[]:=ξ.1 h0;subst YG;have gB:b<w.heap.size:=h.lt k b base F
    have tW:wput w b (.cells cs el I)=w:=by
     simp[wput]
     have:w.heap.setIfInBounds b (.cells cs el I)=w.heap:=by
      apply W4;intro j
      by_cases hj:b=j;·subst hj;rw[ε gB,h1]
      rw[π hj]
     rw[this]
    have:=key cs rfl (λj=>by rw[if_neg (by simp only[QS,QT];omega)]);rw[tW] at this;exact⟨w,rfl,β,this,rfl⟩
   rcases ha with rfl|rfl
   .simp at h0
   have hrun:=mo (P:=P) us 0 (base+off) w cs h1 (by omega) h3.2 hu.one;refine⟨_,hrun,β,?_,rfl⟩
   cases us with
   |nil=>simp at h0
   |cons aa us=>
    refine key _ (gf _ _ _) λj=>?_;rw[nD _ _ _ _ (by omega)]
    by_cases hj:off<=j/\j<off+(aa::us).length;·rw[if_pos hj,if_pos (by omega)];congr 1<;>omega
    rw[if_neg hj,if_neg (by omega)]
  cases hw
 cases hw
section
variable{pv:Pv} {P:Program} (ok:pv.Ok P)
include ok
variable{w:World}{U R:St}{β:Nat->Option (Nat×Nat)}{Z:Nat->Prop}{d e:D}{aa v:Value}
def Ka (h:iD w U β Z) {t} (hu:VR w (U.x β Z) d aa) (hv:VR w (U.x β Z) e v) (hs:nC pv t d e U=some R):
  ∃w',(JY t aa v).run P w=.ok () w'/\Nx w U β Z w' R β Z:=by
 unfold nC at hs
 split at hs
 .rename_i k aj off cs hcs
  split at hs
  .rename_i hsz;obtain⟨a,rfl,A,hat⟩:=cG hu;have hc:=rZ hv hcs
   have lS:U.aj k=some aj:=by
    unfold St.wr at hs
    split at hs;next hm=>exact(bE hm).2
    cases hs
   obtain⟨b,base,F,rfl⟩:=hat lS;obtain⟨w',h1,β',X,rfl⟩:=BK (P:=P) h hc hs F (.inr rfl);refine⟨w',?_,X⟩;have De:v.cells.size=cs.length:=by rw[hc.len];simp
   simp[JY,Q2,storeVar,bU ok hsz,De,h1]
  cases hs
 cases hs
def Py (h:iD w U β Z) {cj:List TypeId} {ty:TypeId} {r} (hu:VR w (U.x β Z) d aa) (hv:VR w (U.x β Z) e v) (hs:DQ pv cj d e U=some (r,R)):∃z w',(WA cj.toArray ty #[aa,v]).run P w=.ok z w'/\Nx w U β Z w' R β Z/\VR w' (R.x β Z) r z:=by
 unfold DQ at hs
 split at hs
 .rename_i dT rest
  split at hs
  .rename_i el SA;obtain⟨s,hsz,hs⟩:=γ.1 hs;obtain⟨⟨m,ys⟩,jI,hs⟩:=γ.1 hs;dsimp only at hs
   split at hs;·cases hs
   rename_i j8;have j8:ys.length=m*s:=ω.1 j8;obtain⟨hlen,ei⟩:=vC (P:=P) h hv jI
   cases d with
   |win k aj off len sz=>
    simp only at hs
    split at hs;·cases hs
    rename_i Hg;have Hg:sz=s:=ω.1 Hg;subst Hg;obtain⟨a,cap,rfl,hc,A,_,hat⟩:=ec hu;obtain⟨st1,hwr,hs⟩:=κ.1 hs;cases hs
    have lS:U.aj k=some aj:=by
     unfold St.wr at hwr
     split at hwr;next hm=>exact(bE hm).2
     cases hwr
    obtain⟨b,base,NS,F,_,xJ⟩:=hat lS;obtain⟨us,h1,X⟩:=ei sz (min m len) (Nat.min_le_left _ _) j8
    have hla:us=[]\/a=⟨b,base+off,none⟩:=by
     rcases xJ with rfl|⟨rfl,_⟩
     .left;have:len=0:=by omega
      subst this;have:=X.len;simp at this;exact ξ.1 this.symm
     exact .inr rfl
    obtain⟨w',h3,β',h4,rfl⟩:=BK (P:=P) h X hwr F hla;refine⟨_,w',?_,h4,.im _ _ (.int _ _)⟩;have Sg:Kz m len=min m len:=rfl;simp only[WA,Q7,Ω,ς,ζ,aM ok SA,δ,hlen,bU ok hsz,Sg,h1,h3,μ,goInt]
   |nul=>
    cases hs;rw[fe hu];obtain⟨us,h1,X⟩:=ei s 0 (K5 _) j8;have YG:us=[]:=by have:=X.len;simp at this;exact ξ.1 this.symm
    subst YG;refine⟨.int .i64 0,w,?_,Nx.same h,.im _ _ (.int _ _)⟩;have Sg:Kz m 0=0:=Nat.min_zero m;simp only[WA,Q7,Ω,ς,ζ,aM ok SA,δ,hlen,bU ok hsz,Sg,h1,μ,goInt]
    rfl
   |_=>cases hs
  cases hs
 cases hs
end
end Go.V
namespace Go.V
open Go.RowKit
def Hx:∀(r c n:Nat),c<=n+n/4+192->YJ n r c<=n+n/4+192
 |0,c,n,h=>h
 |r+1,c,n,h=>by
  unfold YJ
  split;·exact h
  exact Hx r _ n (by omega)
def Ow n c (h:c<=n):Q6 n c<=2*n+192:=by
 unfold Q6
 split;·omega
 split;·omega
 have:=Hx 4 c n (by omega);omega
def IA {AE c bytes:Nat} (hc:c<=AE) (h1:1<=AE) (h:AE*bytes<=1099511627776):¬Q6 AE c*bytes>2^48:=by
 have X:=θ bytes (Ow AE c hc);rw[Δ,Nat.mul_assoc] at X;have h3:bytes<=AE*bytes:=by have:=θ bytes h1;omega
 have:192*bytes<=192*1099511627776:=Nat.mul_le_mul_left _ (by omega);omega
def MV AE oV (el:TypeId) t:AE<=(Question.appendCap AE oV el).cut t:=by
 simp only[Question.cut];omega
def xy (w:World) (cs:Array Value) (el:TypeId) (I:Nat×Nat):cH (w.alloc (.cells cs el I)) w.heap.size=some cs.size:=by
 have:(w.alloc (.cells cs el I)).heap[w.heap.size]?=some (.cells cs el I):=by
  show(w.heap.push _)[w.heap.size]?=_;simp
 simp only[cH,this]
def lB {w'} {x:h2} {k v len s cap b sz} (lS:x.aj k=some v) (F:x.β k=some (b,0)) (hsz:cH w' b=some sz) (hl:len<=cap) (hc:cap*s<=sz):
  VR w' x (.win k v 0 len s) (.slice (some ⟨b,0,none⟩) len cap):=by
 refine .win k v 0 len s _ cap hl ⟨_,F⟩ (λc FH=>?_) λ_=>⟨b,0,sz,F,hsz,.inr ⟨rfl,by omega⟩⟩
 rw[lS] at FH;cases FH;exact η _
def D6 (i:TypeInfo) (base:Option Addr) (sLen sCap n:Nat) (v:Value):Sem Value:=do
 let new<-ι i.size n v
 if let some a:=base then storeCells (a.add (sLen*i.size)) new.toList
 pure (.slice base (sLen+n) sCap)
def F9 (el:TypeId) (i:TypeInfo) (base:Option Addr) (sLen sCap n:Nat) (v:Value):Sem Value:=do
 let Fb<-choose (.appendCap (sLen+n) sCap el)
 askRoom (Fb*i.bytes)
 let oV<-ι i.size sLen (.slice base sLen sCap)
 let new<-ι i.size n v
 let z<-zeroValue el
 pure (.slice (some (<-newRow el (oV++new++W5 z.cells (Fb-(sLen+n))))) (sLen+n) Fb)
section
variable{pv:Pv} {P:Program} (ok:pv.Ok P)
include ok
variable{w:World}{sT xT el n sLen sCap:Nat}{base:Option Addr}{v:Value}
def F8 {rest:List TypeId} {ty:TypeId} {xd:TypeDesc} {i:TypeInfo} (Qs:pv.cF sT=some (.slice el)) (Qp:pv.cF xT=some xd) (L0:¬fp xd=true) (hi:pv.info el=some i) (hlen:(Qe v).run P w=.ok n w) (mK:sLen+n<=sCap):
  (Ξ (sT::xT::rest).toArray ty #[.slice base sLen sCap,v]).run P w=(D6 i base sLen sCap n v).run P w:=by
 have De:∀w':World,(sizeOf el).run P w'=.ok i.size w':=bU ok (mj hi);cases xd<;>first
  |exact absurd rfl L0
  |(simp only[Ξ,D6,Q7,Ω,ς,ζ,aM ok Qs,aM ok Qp,δ,De,μ,ψ,if_false,hlen,mK,if_true,Jz];rfl)
def PQ {rest:List TypeId} {ty:TypeId} {xd:TypeDesc} {i:TypeInfo} (Qs:pv.cF sT=some (.slice el)) (Qp:pv.cF xT=some xd) (L0:¬fp xd=true) (hi:pv.info el=some i) (hlen:(Qe v).run P w=.ok n w) (mK:¬sLen+n<=sCap) (hby:¬i.bytes=0) (hroom:¬Q6 (sLen+n) sCap*i.bytes>2^48):
  (Ξ (sT::xT::rest).toArray ty #[.slice base sLen sCap,v]).run P w=(F9 el i base sLen sCap n v).run P w:=by
 have De:∀w':World,(sizeOf el).run P w'=.ok i.size w':=bU ok (mj hi);have Wq:∀w':World,(typeInfo el).run P w'=.ok i w':=q9 ok hi;cases xd<;>first
  |exact absurd rfl L0
  |(simp only[Ξ,F9,Q7,Ω,ς,ζ,aM ok Qs,aM ok Qp,δ,De,μ,ψ,if_false,hlen,mK,Wq,hby,hroom,or_self,and_false,Jz,if_true];try rfl)
def zw {U R:St} {β:Nat->Option (Nat×Nat)} {Z:Nat->Prop} (h:iD w U β Z) {cj:List TypeId} {ty:TypeId} {d e r:D} {aa:Value} (hu:VR w (U.x β Z) d aa) (hv:VR w (U.x β Z) e v) (hs:dK pv cj d e U=some (r,R)):∃z w' β',(Ξ cj.toArray ty #[aa,v]).run P w=.ok z w'/\Nx w U β Z w' R β' Z/\VR w' (R.x β' Z) r z:=by
 unfold dK at hs
 split at hs
 .rename_i sT xT rest
  split at hs
  .rename_i el xd Qs Qp
   split at hs
   .cases hs
   .rename_i L0;obtain⟨i,hi,hs⟩:=γ.1 hs;obtain⟨z,hz,hs⟩:=γ.1 hs;obtain⟨⟨n,ys⟩,jI,hs⟩:=γ.1 hs;dsimp only at hs
    split at hs
    .cases hs
    .rename_i I9;simp only[not_or] at I9;obtain⟨j8,hby,jP⟩:=I9;have j8:ys.length=n*i.size:=ω.1 j8;have jP:z.length=i.size:=ω.1 jP;obtain⟨hlen,ei⟩:=vC (P:=P) h hv jI;obtain⟨us,RH,IU⟩:=ei i.size n (η _) j8;rw[<-j8,J4] at IU;have hS:Nx w U β Z w.drew U β Z:=Nx.still h rfl rfl rfl rfl;obtain⟨zv,Vn,hzc⟩:=iM ok w.drew (U.x β Z) hz;have hzs:zv.cells.size=i.size:=by have:=hzc.len;rw[jP] at this;simpa using this.symm
     obtain⟨vs,ZW,OT⟩:=(vC (P:=P) hS.sim (hv.mono hS.keeps) jI).2 i.size n (η _) j8;rw[<-j8,J4] at OT
     have grow:∀(base:Option Addr) (sLen sCap:Nat) (os:List Value),aa=.slice base sLen sCap->¬(sLen+n<=sCap)->(ι i.size sLen aa).run P w.drew=.ok os.toArray w.drew->os.length=sLen*i.size->
       1<=sLen+n->(sLen+n)*i.bytes<=1099511627776->
       ∃cap cs,(Ξ (sT::xT::rest).toArray ty #[aa,v]).run P w=.ok (.slice (some ⟨w.heap.size,0,none⟩) (sLen+n) cap) (w.drew.alloc (.cells cs el))/\sLen+n<=cap/\
        cap*i.size<=cs.size/\∀(j:Nat) q,(os++vs)[j]?=some q->cs[j]?=some q:=by
      intro base sLen sCap os hue mK hos R_ h1 hroom;subst hue;have I8:=MV (sLen+n) sCap el (w.tape w.drawn (.appendCap (sLen+n) sCap el));generalize hq:(Question.appendCap (sLen+n) sCap el).cut (w.tape w.drawn (.appendCap (sLen+n) sCap el))=cap at I8;refine⟨cap,os.toArray++vs.toArray++W5 zv.cells (cap-(sLen+n)),?_,I8,?_,?_⟩
      .have RT:=IA (bytes:=i.bytes) (Nat.le_of_lt (Nat.lt_of_not_le mK)) h1 hroom;rw[PQ ok Qs Qp L0 hi hlen mK hby RT,F9];simp only[ζ,run_choose,Question.forced,ψ,if_false,δ,run_askRoom];have qd:({w with drawn:=w.drawn+1}:World)=w.drew:=rfl;rw[qd,hq];simp only[δ,hos,ZW,Vn,newRow,ζ,run_newObj,μ]
       rfl
      .simp[W5,hzs];have:=OT.len;rw[R_,<-this,j8,<-Δ,<-Δ];exact θ _ (by omega)
      .intro j q hj
       have hlt:j<(os++vs).length:=by
        rcases τ j (os++vs).length with h'|h'
        .exact h'
        .rw[ν h'] at hj;cases hj
       rw[Array.getElem?_append_left (by simpa using hlt)]
       simpa using hj
     cases d with
     |nul=>
      have ZZ:=fe hu;simp only at hs
      split at hs
      .rename_i hn;cases hs;subst ZZ;subst hn;have RI:us=[]:=by have:=IU.len;rw[j8] at this;simp at this;exact ξ.1 this.symm
       subst RI;refine⟨.slice none 0 0,w,β,?_,Nx.same h,.im _ _ .nul⟩;rw[F8 ok Qs Qp L0 hi hlen (by omega),D6];simp[RH]
      .rename_i hn
       split at hs
       .rename_i hroom;cases hs;obtain⟨cap,cs,h1,X,h3,h4⟩:=grow none 0 0 [] ZZ (by omega) (by rw[ZZ];simp[ι]) (by simp) (by omega) (by simpa using hroom);simp only[Za,List.nil_append] at h1 X h4
        obtain⟨hx,hx1,OS,hx3⟩:=Nx.jX (w':=w.drew.alloc (.cells cs el)) hS.sim true ys cs el (0,0) rfl rfl rfl rfl (by
         rw[j8];exact Θ (θ _ X) h3) (qK.zero _) (λj q hq=>by
          obtain⟨y,hy1,wv,IQ⟩:=OT.at_ hq
          exact⟨y,h4 j y hy1,wv,IQ⟩)
        exact⟨_,_,_,h1,hS.trans hx,lB OS hx3 hx1 X h3⟩
       .cases hs
     |win k aj off len sz=>
      simp only at hs
      split at hs
      .rename_i c hm
       split at hs
       .cases hs
       .rename_i hsz;simp only[not_or,Nat.not_lt] at hsz;obtain⟨hsz,hcl⟩:=hsz;have hsz:sz=i.size:=ω.1 hsz;obtain⟨a,cap,rfl,hc,A,_,hat⟩:=ec hu;obtain⟨b,base,NS,F,Ee,xJ⟩:=hat (bE hm).2
        split at hs
        .rename_i hn;cases hs;subst hn;have RI:us=[]:=by have:=IU.len;rw[j8] at this;simp at this;exact ξ.1 this.symm
         subst RI;refine⟨.slice (some a) len cap,w,β,?_,Nx.same h,hu⟩;rw[F8 ok Qs Qp L0 hi hlen (by omega),D6];simp only[ζ,RH,δ,μ]
         rfl
        .rename_i hn
         split at hs
         .rename_i hroom;obtain⟨hroom,QD⟩:=hroom;cases hs;subst hsz;have Dt:((c.take (off+len*i.size)).drop off).length=len*i.size:=by simp;omega
          obtain⟨S6,T5,JL,r1,r2,r3,r4⟩:=h.row hm F
          by_cases mK:len+n<=cap
          .
           have abj:a=⟨b,base+off,none⟩/\base+off+cap*i.size<=NS:=by
            rcases xJ with h0|h0
            .omega
            .exact h0
           obtain⟨rfl,gS⟩:=abj;have adx:S6.size=NS:=by simp only[cH,r1] at Ee;cases Ee;rfl
           have adv:us.length=n*i.size:=by rw[<-IU.len,j8]
           have Wy:(len+n)*i.size<=cap*i.size:=θ _ mK;rw[Δ] at Wy;have hrun:=mo (P:=P) us 0 (base+off+len*i.size) w S6 r1 (by omega) r3.2 IU.one
           have SH:(⟨b,base+off,none⟩:Addr).add (len*i.size)=⟨b,base+off+len*i.size,none⟩:=by
            unfold Addr.add;split
            .rename_i e;rw[e];rfl
            .rfl
           have hne:us≠[]\/us=[]:=by cases us<;>simp
           have aaK:(storeCells ⟨b,base+off+len*i.size,none⟩ us).run P w=.ok () (wput w b (.cells (ic S6 (base+off+len*i.size) us) T5 JL)):=by
            rw[hrun]
            cases us with
            |nil=>
             simp only[ic];have gB:b<w.heap.size:=h.lt k b base F
             congr 1
             simp[wput]
             have:w.heap.setIfInBounds b (.cells S6 T5 JL)=w.heap:=by
              apply W4;intro j
              by_cases hj:b=j
              .subst hj;rw[ε gB,r1]
              .rw[π hj]
             rw[this]
            |cons _ _=>simp
           have hx:=Nx.write (a':=true) (nz:=aj+1) (c':=(c.take (off+len*i.size)).drop off++ys) (dr:=base+off) h hm F (jL QD) (by omega) (λe=>by omega) r1
            (gf us S6 (base+off+len*i.size)) (by rw[QY,Dt,j8];omega) (λj q hq=>by
             rw[nD _ _ _ _ (by omega)];rw[QX] at hq
             split at hq
             .rename_i hj;rw[Dt] at hj;rw[if_neg (by omega)];rw[Γ,Ψ] at hq
              split at hq
              .have:=r4 _ q hq
               rwa [show base+(off+j)=base+off+j by omega] at this
              .cases hq
             .rename_i hj;rw[Dt] at hj hq;obtain⟨y,hy1,wv,IQ⟩:=IU.at_ hq
              have hjl:j-len*i.size<us.length:=by
               rcases τ (j-len*i.size) us.length with h'|h'
               .exact h'
               .rw[ν h'] at hy1;cases hy1
              rw[if_pos (by omega)]
              exact⟨y,by rw[<-hy1];congr 1;omega,wv,IQ⟩)
           have lT:k<U.bs.length:=h.dom k b base F;refine⟨.slice (some ⟨b,base+off,none⟩) (len+n) cap,_,_,?_,hx,?_⟩
           .rw[F8 ok Qs Qp L0 hi hlen mK,D6];simp[RH,SH,aaK]
           .refine .win k (aj+1) 0 (len+n) i.size _ cap mK ⟨_,by simp[St.x];rfl⟩ (λq hq=>?_) λ_=>⟨b,base+off,S6.size,by simp[St.x],?_,.inr ⟨rfl,by omega⟩⟩
            .simp[St.x,St.aj,lT,ej] at hq;omega
            .have gB:b<w.heap.size:=h.lt k b base F;simp only[cH,wput];rw[ε gB];simp[gf]
          .
           have hold:∃os:List Value,(ι i.size len (.slice (some a) len cap)).run P w.drew=.ok os.toArray w.drew/\LR w.drew (U.x β Z) ((c.take (off+len*i.size)).drop off) os:=by
            have Vy:oT U (.win k aj off len i.size)=some (len,(c.drop off).take (len*i.size)):=by
             simp[oT,hm,hcl]
            have:=(vC (P:=P) hS.sim (hu.mono hS.keeps) Vy).2 i.size len (η _) (by simp;omega);obtain⟨os,Eg,A1⟩:=this;refine⟨os,Eg,?_⟩;rw[List.take_take,Nat.min_self] at A1
            rwa [JP,Nat.add_sub_cancel_left]
           obtain⟨os,Eg,A1⟩:=hold;have R_:os.length=len*i.size:=by rw[<-A1.len,Dt]
           obtain⟨Tc,cs,h1,X,h3,h4⟩:=grow (some a) len cap os rfl mK Eg R_ (by omega) hroom;have Hm:=A1.append OT
           have hx:=Nx.move (w':=w.drew.alloc (.cells cs el)) (a':=true) (c':=(c.take (off+len*i.size)).drop off++ys) hS.sim hm F (jL QD) rfl rfl rfl rfl (by
            rw[QY,Dt,j8,<-Δ];exact Θ (θ _ X) h3) (λj q hq=>by
             obtain⟨y,hy1,wv,IQ⟩:=Hm.at_ hq
             exact⟨y,h4 j y hy1,wv,IQ⟩)
           have lT:k<U.bs.length:=h.dom k b base F;refine⟨_,_,_,h1,hS.trans hx,?_⟩
           refine .win k (aj+1) 0 (len+n) i.size _ Tc X ⟨_,by simp[St.x];rfl⟩ (λq hq=>?_) λ_=>⟨w.heap.size,0,cs.size,by simp[St.x],xy w.drew cs el (0,0),.inr ⟨rfl,by omega⟩⟩
           simp[St.x,St.aj,lT,ej] at hq;omega
         .cases hs
      .cases hs
     |_=>cases hs
  .cases hs
 .cases hs
end
end Go.V
namespace Go.V
open Go.RowKit
theorem n_ (b o n:Nat):(⟨b,o,none⟩:Addr).add n=⟨b,o+n,none⟩:=by
 unfold Addr.add;split;next e=>subst e;rfl
 rfl
variable{w:World}{off:Nat}
def IR.MD {Z:Nat->Prop} {cs:List D} {b} {f:Nat->Value} (hz:Z b) (hv:∀(j:Nat) c,cs[j]?=some c->w.cell? ⟨b,off+j,none⟩=some (f j)/\(f j).oneCell'=true) (hr:∀(j:Nat) c,cs[j]?=some c->IR w Z c (f j)) n:IR w Z (.ep (cs.drop n)) (.pointer (some ⟨b,off+n,none⟩)):=by
 refine .ep _ b (off+n) (λj=>f (n+j)) hz (λj c hj=>?_) (λj c hj=>?_)
 .rw[Γ] at hj;have:=hv _ c hj
  rwa [show off+(n+j)=off+n+j by omega] at this
 rw[Γ] at hj;exact hr _ c hj
def VR.KL {x} {k vr} {a:Addr} (h:VR w x (.ptr k vr off) (.pointer (some a))) n:VR w x (.ptr k vr (off+n)) (.pointer (some (a.add n))):=by
 cases h with
 |im _ _ h=>cases h
 |ptr _ _ _ _ A hm h=>
  refine .ptr k vr (off+n) _ A hm λhv=>?_;obtain⟨b,base,F,rfl⟩:=h hv;exact⟨b,base,F,by rw[n_,QG]⟩
theorem xK (s:List UInt8) l h:(⟨s.toArray⟩:ByteArray).extract l h=⟨((s.take h).drop l).toArray⟩:=by
 apply Kx;simp[Wg,Z9,JP]
section
variable{pv:Pv} {P:Program} (ok:pv.Ok P)
include ok
variable{w:World}{t:Nat}{d r:D}{aa:Value}
def Bl {x} {i} (hu:VR w x d aa) (h:fX pv t d i=some r):∃z,(X8 t aa i).run P w=.ok z w/\VR w x r z:=by
 unfold fX at h
 split at h
 .rename_i fields ht;obtain⟨f,hf,h⟩:=γ.1 h
  split at h;·cases h
  rename_i h0;obtain⟨s,hs,h⟩:=γ.1 h;have Vw:¬s=0:=by intro e;subst e;exact h0 hs
  split at h;·cases h;obtain⟨a,rfl,_⟩:=cG hu;refine⟨.pointer (some (a.add f.offset)),?_,hu.KL _⟩;simp[X8,aM ok ht,hf,Q2,fieldPlace,bU ok hs,Vw]
  .cases h;obtain⟨b,off,rfl,hz,_,g,hv,hr⟩:=vi hu;refine⟨.pointer (some ((⟨b,off,none⟩:Addr).add f.offset)),?_,.im _ _ ?_⟩;·simp[X8,aM ok ht,hf,Q2,fieldPlace,bU ok hs,Vw]
   rw[n_];exact IR.MD hz hv hr _
  cases h
 cases h
variable{e:D}{v:Value}
def LG {x} (hu:VR w x d aa) (hv:VR w x e v) (h:s8 pv t d e=some r):∃z,(ZT t aa v).run P w=.ok z w/\VR w x r z:=by
 unfold s8 at h
 split at h
 .rename_i k i;rw[de hv]
  split at h
  .rename_i len el cs ht;obtain⟨s,hs,h⟩:=γ.1 h
   split at h;next hi=>obtain⟨us,rfl,hl,h1,hr⟩:=jR hu;obtain⟨z,hz,Hc⟩:=rp ok hl h1 hr h;exact⟨z,by simp[ZT,asIntOf,aM ok ht,hi,bU ok hs,hz],Hc⟩
   cases h
  .rename_i l ht
   split at h
   .rename_i hi;obtain⟨b,F,rfl⟩:=κ.1 h;rw[gJ hu];refine⟨.int .u8 b.toNat,?_,.im _ _ (.int _ _)⟩
    have:(⟨l.toArray⟩:ByteArray)[i.toNat]?=some b:=by
     have hlt:i.toNat<l.length:=by
      rcases τ i.toNat l.length with h'|h'
      .exact h'
      rw[ν h'] at F;cases F
     rw[getElem?_pos (⟨l.toArray⟩:ByteArray) i.toNat (by simpa[QW] using hlt)];rw[ο hlt] at F;cases F
     rfl
    simp[ZT,asIntOf,aM ok ht,hi,this]
   cases h
  cases h
 cases h
variable{U:St}{β:Nat->Option (Nat×Nat)}{Z:Nat->Prop}
def AS (hu:VR w (U.x β Z) d aa) (hv:VR w (U.x β Z) e v) (h:cn pv t d e U=some r):
  ∃z,(QK t aa v).run P w=.ok z w/\VR w (U.x β Z) r z:=by
 unfold cn at h
 split at h
 .rename_i k i;rw[de hv]
  split at h
  .rename_i len el k aj off ht;obtain⟨s,hs,h⟩:=γ.1 h
   split at h;next hi=>cases h;obtain⟨a,rfl,_⟩:=cG hu;exact⟨.pointer (some (a.add (i.toNat*s))),by simp[QK,asIntOf,aM ok ht,Q2,hi,bU ok hs],hu.KL _⟩
   cases h
  .rename_i len el c ht;obtain⟨s,hs,h⟩:=γ.1 h
   split at h;next hi=>cases h;obtain⟨b,off,rfl,hz,_,g,hv,hr⟩:=vi hu;refine⟨.pointer (some ((⟨b,off,none⟩:Addr).add (i.toNat*s))),by simp[QK,asIntOf,aM ok ht,Q2,hi,bU ok hs],.im _ _ ?_⟩;rw[n_];exact IR.MD hz hv hr _
   cases h
  .rename_i el es ht;obtain⟨s,hs,h⟩:=γ.1 h
   split at h
   .rename_i hi;obtain⟨d,hd,h⟩:=γ.1 h;obtain⟨cs,hcs,h⟩:=γ.1 h
    split at h
    .rename_i hlen;cases h
     have hlt:i.toNat<es.length:=by
      rcases τ i.toNat es.length with h'|h'
      .exact h'
      rw[ν h'] at hd;cases hd
     obtain⟨a,cap,rfl,hc,h'|⟨b,off,Y,rfl,hz,hst,_,f,hv,hr⟩⟩:=ny hu;·subst h';simp at hlt
     obtain⟨wM,JI⟩:=hst _ d hd;have ux:=MS hcs;rw[ux,hlen] at JI;subst JI;refine⟨.pointer (some ((⟨b,off,none⟩:Addr).add (i.toNat*s))),?_,.im _ _ ?_⟩
     .have:(0:Int)<=i/\i<(es.length:Int):=by omega
      simp[QK,asIntOf,aM ok ht,this,bU ok hs]
     rw[n_];refine .ep cs b _ (f i.toNat) hz (λj c hj=>?_) (λj c hj=>hr _ d j c hd (by rw[ux];exact hj));have:=hv _ d j c hd (by rw[ux];exact hj)
     rwa [<-QG] at this
    cases h
   cases h
  .rename_i el k aj off len sz ht;obtain⟨s,hs,h⟩:=γ.1 h
   split at h
   .rename_i hi;obtain⟨rfl,h0,h1,hm⟩:=hi;cases h;obtain⟨a,cap,rfl,hc,A,V4,hat⟩:=ec hu;refine⟨.pointer (some (a.add (i.toNat*s))),by simp[QK,asIntOf,aM ok ht,h0,h1,bU ok hs],?_⟩;refine .ptr k aj _ _ A V4 λlS=>?_;obtain⟨b,base,NS,F,_,h'|⟨rfl,_⟩⟩:=hat lS;·omega
    exact⟨b,base,F,by rw[n_,QG]⟩
   cases h
  cases h
 cases h
def Kf (h:iD w U β Z) {lo hi:Option D} {G2 uw:Option Value} (hu:VR w (U.x β Z) d aa) (Eh:∀d v,lo=some d->G2=some v->VR w (U.x β Z) d v) (Hp:∀d v,hi=some d->uw=some v->VR w (U.x β Z) d v) (el:lo.isSome=G2.isSome) (eh:hi.isSome=uw.isSome) (hs:ib pv t d lo hi U=some r):∃z,(QQ t aa G2 uw none).run P w=.ok z w/\VR w (U.x β Z) r z:=by
 unfold ib at hs
 split at hs
 .rename_i s ht;obtain⟨⟨l,hh⟩,F,hr⟩:=κ.1 hs;(try dsimp only at hr);subst hr;rw[gJ hu];have hsz:(⟨s.toArray⟩:ByteArray).size=s.length:=by simp[QW]
  obtain⟨h1,X,h3⟩:=lX (P:=P) (w:=w) (x:=U.x β Z) false (η _) Eh Hp el eh F;refine⟨.string ⟨((s.take hh).drop l).toArray⟩,?_,.im _ _ (.str _)⟩;simp[QQ,Wk,aM ok ht,hsz,h1,xK]
 .rename_i e ht;obtain⟨s,hsz,hs⟩:=γ.1 hs;obtain⟨⟨l,hh⟩,F,hr⟩:=κ.1 hs;(try dsimp only at hr);subst hr;rw[fe hu];obtain⟨h1,X,h3⟩:=lX (P:=P) (w:=w) (x:=U.x β Z) true (η _) Eh Hp el eh F;have O_:l=0:=by omega
  have hh0:hh=0:=by omega
  subst O_;subst hh0;refine⟨.slice none 0 0,?_,.im _ _ .nul⟩;simp[QQ,Wk,aM ok ht,h1,bU ok hsz]
 .rename_i e es ht;obtain⟨s,hsz,hs⟩:=γ.1 hs
  split at hs
  .rename_i hhd;obtain⟨⟨l,hh⟩,F,hr⟩:=κ.1 hs;(try dsimp only at hr);subst hr;obtain⟨a,cap,rfl,hc,sE⟩:=ny hu;obtain⟨h1,X,h3⟩:=lX (P:=P) (w:=w) (x:=U.x β Z) true hc Eh Hp el eh F;refine⟨.slice (if cap=l then a else a.map (·.add (l*s))) (hh-l) (cap-l),by simp[QQ,Wk,aM ok ht,h1,bU ok hsz],.im _ _ ?_⟩;have hlen:((es.take hh).drop l).length=hh-l:=by simp;omega
   by_cases hz0:hh-l=0;·have:(es.take hh).drop l=[]:=ξ.1 (by rw[hlen];exact hz0);rw[this,hz0];exact .emp _ _
   rw[if_neg (by omega)]
   rcases sE with rfl|⟨b,off,Y,rfl,hz,hst,_,f,hv,hr⟩
   .simp at h3;omega
   have Vw:Y=s:=by
    cases es with
    |nil=>simp at h3;omega
    |cons e0 es=>
     obtain⟨q1,q2⟩:=hst 0 e0 rfl;simp[wL,q1] at hhd;omega
   subst Vw
   have hget:∀(i:Nat) y,((es.take hh).drop l)[i]?=some y->es[l+i]?=some y:=by
    intro i y hy;rw[Γ,Ψ] at hy
    split at hy;·exact hy
    cases hy
   have:=IR.sl (w:=w) (Z:=(U.x β Z).Z) ((es.take hh).drop l) b (off+l*Y) (cap-l) Y (λi j=>f (l+i) j) hz (by rw[hlen];omega) (λi y hy=>hst _ y (hget i y hy)) (λi y j c hy hj=>by
    have:=hv _ y j c (hget i y hy) hj
    rwa [show off+((l+i)*Y+j)=off+l*Y+(i*Y+j) by rw[Δ];omega] at this) (λi y j c hy hj=>hr _ y j c (hget i y hy) hj)
   rw[hlen] at this
   simpa[n_] using this
  cases hs
 .rename_i e k aj off len sz ht;obtain⟨s,hsz,hs⟩:=γ.1 hs
  split at hs
  .rename_i Hg;subst Hg;obtain⟨⟨l,hh⟩,F,hr⟩:=κ.1 hs;(try dsimp only at hr);subst hr;obtain⟨a,cap,rfl,hc,A,V4,hat⟩:=ec hu;obtain⟨h1,X,h3⟩:=lX (P:=P) (w:=w) (x:=U.x β Z) true hc Eh Hp el eh F;refine⟨.slice (some (if cap=l then a else a.add (l*s))) (hh-l) (cap-l),?_,?_⟩
   .simp only[QQ,Wk,ζ,aM ok ht,δ,h1,bU ok hsz,μ]
    split<;>rfl
   refine .win k aj _ _ s _ _ (by omega) A V4 λlS=>?_;obtain⟨b,base,NS,gB,Ee,xJ⟩:=hat lS;refine⟨b,base,NS,gB,Ee,?_⟩
   by_cases hcl:cap=l;·left;omega
   right
   rcases xJ with h'|⟨rfl,gS⟩
   .omega
   rw[if_neg hcl,n_];refine⟨by rw[QG],?_⟩;have hle:l<=cap:=by omega
   have:base+(off+l*s)+(cap-l)*s=base+off+cap*s:=by
    rw[K4];have:=θ s hle;omega
   omega
  cases hs
 .rename_i n e k aj off ht;obtain⟨s,hsz,hs⟩:=γ.1 hs;obtain⟨⟨ar,c⟩,hm,hs⟩:=γ.1 hs;dsimp only at hs
  split at hs
  .rename_i gS;obtain⟨⟨l,hh⟩,F,hr⟩:=κ.1 hs;(try dsimp only at hr);subst hr
   cases hu with
   |im _ _ hu=>cases hu
   |ptr _ _ _ a A V4 hat=>
    obtain⟨b,base,gB,rfl⟩:=hat (bE hm).2;obtain⟨cs,el',I,r1,r2,_⟩:=h.row hm gB;obtain⟨h1,X,h3⟩:=lX (P:=P) (w:=w) (x:=U.x β Z) false (η n) Eh Hp el eh F;refine⟨.slice (some (if n=l then⟨b,base+off,none⟩ else(⟨b,base+off,none⟩:Addr).add (l*s))) (hh-l) (n-l),?_,?_⟩;·simp[QQ,aM ok ht,Q2,h1,bU ok hsz]
    refine .win k aj _ _ s _ _ (by omega) A V4 λlS=>⟨b,base,cs.size,gB,by simp[cH,r1],?_⟩
    by_cases hcl:n=l;·left;omega
    right;rw[if_neg hcl,n_];refine⟨by rw[QG],?_⟩;have hle:l<=n:=by omega
    have:base+(off+l*s)+(n-l)*s=base+off+n*s:=by
     rw[K4];have:=θ s hle;omega
    omega
  cases hs
 cases hs
end
end Go.V
namespace Go.V
open Go.RowKit
def wrap_small {n} (h0:0<=n) (h1:n<=9223372036854775807):Wz.wrap n=n:=by
 rw[<-ja];obtain⟨m,rfl⟩:=Int.eq_ofNat_of_zero_le h0;have:Q4 m (iQ .i64)=true:=Zm (by simp[iQ];omega);simp[aR,this]
def gr (z:List D):∀n,(gu n z).length=n*z.length
 |0=>by simp[gu]
 |n+1=>by
  have:=gr z n;simp only[gu,Y1,YD,QY] at*;rw[this,Δ];omega
def Ch (z:List D):∀(n j:Nat),j<n*z.length->(gu n z)[j]?=z[j %z.length]?
 |0,j,h=>by simp at h
 |n+1,j,h=>by
  have ih:=Ch z n;simp only[gu,Y1,YD] at*;rw[QX]
  split;next hj=>rw[Nat.mod_eq_of_lt hj]
  rename_i hj;rw[Δ] at h;rw[ih _ (by omega),<-Nat.mod_eq_sub_mod (by omega)]
def Quiet (w w':World):Prop:=∀b,b<w.heap.size->w'.heap[b]?=w.heap[b]?
def Quiet.refl w:Quiet w w:=λ_ _=>rfl
theorem Quiet.push {w w':World} {o} (h:w'.heap=w.heap.push o):Quiet w w':=λb F=>by rw[h,W0,if_neg (by omega)]
def vf {w} {x} {s:Nat} {z} {us:List Value} (h:LR w x z us) (n m:Nat) (hm:m<=n) (hz:us.length=s) (cells:Array Value) (hc:cells=(Wv (n*s)).map (us.toArray[·%us.toArray.size]!)):
  cells.size=n*s/\∀(j:Nat) d,(gu m z)[j]?=some d->∃aa,cells[j]?=some aa/\aa.oneCell'=true/\VR w x d aa:=by
 subst hc;refine⟨by simp,λj d hd=>?_⟩
 have hj:j<m*z.length:=by
  rcases τ j (m*z.length) with h'|h'
  .exact h'
  rw[ν (by rw[gr];exact h')] at hd;cases hd
 rw[Ch z m j hj] at hd;obtain⟨aa,km,ns,s9⟩:=h.at_ hd;have hl:=h.len
 have JH:j<n*s:=by
  have:=θ z.length hm;rw[<-hz,<-hl];omega
 refine⟨aa,?_,ns,s9⟩;have LK:us[j %us.length]?=some aa:=by rw[<-hl];exact km
 have hlt:j %us.length<us.length:=by
  rcases τ (j %us.length) us.length with h'|h'
  .exact h'
  rw[ν h'] at LK;cases LK
 rw[ο hlt] at LK;simp at LK;simp[JH,hlt,LK]
section
variable{pv:Pv} {P:Program} (ok:pv.Ok P)
include ok
omit ok in
def Lg {w} {U:St} {β:Nat->Option (Nat×Nat)} {Z:Nat->Prop} (h:iD w U β Z) {cs} {v:Value} (hv:LR w (U.x β Z) cs v.cells.toList) (e:TypeId):
  ∃z w' β',((do pure (.pointer (some (<-newVar e v))):Sem Value)).run P w=.ok z w'/\Nx w U β Z w' (U.push (.mem 0 false cs)) β' Z/\VR w' ((U.push (.mem 0 false cs)).x β' Z) (.ptr U.bs.length 0 0) z/\Quiet w w':=by
 obtain⟨hx,h1,X,h3⟩:=Nx.jX (w':=w.alloc (.cells v.cells e)) h false cs v.cells e (0,0) rfl rfl rfl rfl (by rw[hv.len];simp) (qK.zero _) (λj d hd=>by
  obtain⟨aa,km,ns,s9⟩:=hv.at_ hd
  exact⟨aa,by simpa using km,ns,s9⟩)
 refine⟨.pointer (some ⟨w.heap.size,0,none⟩),_,_,?_,hx,?_,Quiet.push rfl⟩;·simp only[newVar,newRow,ζ,run_newObj,δ,μ];rfl
 refine .ptr _ _ _ _ ⟨_,by simp[St.x,eG];rfl⟩ (λc hc=>?_) λ_=>⟨w.heap.size,0,by simp[St.x,eG],rfl⟩
 simp[St.x] at hc;rw[X] at hc;cases hc;exact η _
def Nd {w} {U:St} {β:Nat->Option (Nat×Nat)} {Z:Nat->Prop} (h:iD w U β Z) {e} {cs} (hz:cO pv e=some cs):
  ∃z w' β',(Jf e true (.tuple #[])).run P w=.ok z w'/\Nx w U β Z w' (U.push (.mem 0 false cs)) β' Z/\VR w' ((U.push (.mem 0 false cs)).x β' Z) (.ptr U.bs.length 0 0) z/\Quiet w w':=by
 obtain⟨v,hv,hc⟩:=iM ok w (U.x β Z) hz;obtain⟨z,w',β',h1,X,h3,h4⟩:=Lg (P:=P) h hc e;refine⟨z,w',β',?_,X,h3,h4⟩;simp only[Jf,ζ,hv,δ] at*;exact h1
def xQ {w} {U R:St} {β:Nat->Option (Nat×Nat)} {Z:Nat->Prop} (h:iD w U β Z) {t len} {parts:List (Nat×D)} {parts':List (Nat×Value)} {r} (hl:parts.length=parts'.length)
  (hr:∀(i:Nat) p q,parts[i]?=some p->parts'[i]?=some q->p.1=q.1/\VR w (U.x β Z) p.2 q.2) (hs:jk pv t len parts U=some (r,R)):
  ∃z w' β',(YY t len parts'.toArray).run P w=.ok z w'/\Nx w U β Z w' R β' Z/\VR w' (R.x β' Z) r z/\Quiet w w':=by
 unfold jk at hs
 split at hs
 .rename_i e ht;obtain⟨s,hsz,hs⟩:=γ.1 hs;obtain⟨z,hz,hs⟩:=γ.1 hs
  split at hs
  .rename_i I9;obtain⟨jP,hbig⟩:=I9;obtain⟨cs,hf,hs⟩:=κ.1 hs;cases hs;obtain⟨v,hv,hc⟩:=iM ok w (U.x β Z) hz;have hvs:v.cells.toList.length=s:=by rw[<-hc.len,jP]
   have hzero:∃us:List Value,(if len*s=0 then#[] else v.cells:Array Value)=us.toArray/\((Wv (len*s)).map ((if len*s=0 then#[] else v.cells:Array Value)[·%(if len*s=0 then#[] else v.cells:Array Value).size]!)).toList.length=len*s/\
     LR w (U.x β Z) (gu len z) ((Wv (len*s)).map ((if len*s=0 then#[] else v.cells:Array Value)[·%(if len*s=0 then#[] else v.cells:Array Value).size]!)).toList:=by
    by_cases h0:len*s=0;·refine⟨[],by simp[h0],by simp,?_⟩;have:gu len z=[]:=ξ.1 (by rw[gr,jP];exact h0);rw[this,h0];exact⟨by simp,by simp,by simp⟩
    obtain⟨q1,q2⟩:=vf hc len len (η _) hvs _ rfl;simp only[h0,if_false];have e1:v.cells.toList.toArray=v.cells:=by simp
    rw[e1] at q1 q2;refine⟨v.cells.toList,by simp,by simp,⟨by rw[gr,jP];simp,λaa hu=>?_,λi c aa FH hu=>?_⟩⟩
    .obtain⟨j,hj⟩:=Qu hu
     have hjl:j<len*s:=by
      rcases τ j (len*s) with h'|h'
      .exact h'
      rw[ν (by simpa using h')] at hj;cases hj
     obtain⟨u',km,ns,_⟩:=q2 j _ (ο (by rw[gr,jP];exact hjl));rw[QC] at hj;rw[hj] at km;cases km;exact ns
    obtain⟨u',km,_,s9⟩:=q2 i c FH;rw[QC] at hu;rw[hu] at km;cases km;exact s9
   obtain⟨us,YG,_,Hm⟩:=hzero;obtain⟨rs,f1,f2⟩:=Bj (my:=λi=>some (i*s,s)) (λ_ _ e=>e) parts parts' hl hr Hm hf
   have hcl:cs.length=len*s:=by
    have iS:∀(ps:List (Nat×D)) (a b:List D),iK (λi=>some (i*s,s)) a ps=some b->b.length=a.length:=by
     intro ps
     induction ps with
     |nil=>intro a b e;simp[iK] at e;rw[e]
     |cons p ps ih=>
      intro a b e;obtain⟨pi,pd⟩:=p;simp only[iK] at e
      split at e
      .split at e;·cases e
       rw[ih _ _ e,ez]
      cases e
    rw[iS _ _ _ hf,gr,jP]
   obtain⟨hx,x1,x2,x3⟩:=Nx.jX (w':=w.alloc (.cells rs.toArray e)) h true cs rs.toArray e (0,0) rfl rfl rfl rfl (by rw[f2.len];simp) (qK.zero _) (λj d hd=>by
    obtain⟨aa,km,ns,s9⟩:=f2.at_ hd
    exact⟨aa,by simpa using km,ns,s9⟩)
   refine⟨.slice (some ⟨w.heap.size,0,none⟩) len len,_,_,?_,hx,lB x2 x3 x1 (η _) (by simp;rw[<-f2.len,hcl];exact η _),Quiet.push rfl⟩;have WJ:¬len*s>2^24:=by omega
   simp only[YY,ζ,aM ok ht,δ,bU ok hsz,K7,if_neg WJ,μ]
   by_cases h0:len*s=0;·simp only[h0,if_true,δ] at f1|-;simp only[ZD] at f1;rw[f1];simp only[newRow,ζ,run_newObj,δ,μ];rfl
   simp only[h0,if_false,δ,hv,ζ] at f1|-;simp only[ZD] at f1;rw[f1];simp only[newRow,ζ,run_newObj,δ,μ];rfl
  cases hs
 cases hs
def AO {w} {U R:St} {β:Nat->Option (Nat×Nat)} {Z:Nat->Prop} (h:iD w U β Z) {t} {l c r} {aa v} (hu:VR w (U.x β Z) l aa) (hv:VR w (U.x β Z) c v) (hs:gO pv t l c U=some (r,R)):
  ∃z w' β',(Ym t aa v).run P w=.ok z w'/\Nx w U β Z w' R β' Z/\VR w' (R.x β' Z) r z/\Quiet w w':=by
 unfold gO at hs
 split at hs
 .rename_i e k l k' c ht;obtain⟨i,hi,hs⟩:=γ.1 hs;obtain⟨z,hz,hs⟩:=γ.1 hs
  split at hs
  .rename_i I9;obtain⟨jP,O_,hlc,hcb,hroom⟩:=I9;cases hs;rw[de hu,de hv];obtain⟨zv,Vn,hzc⟩:=iM ok w (U.x β Z) hz;have hvs:zv.cells.toList.length=i.size:=by rw[<-hzc.len,jP]
   have TS:Wz.wrap l=l:=wrap_small O_ (by omega);have hwc:Wz.wrap c=c:=wrap_small (by omega) hcb
   have dC:∃cells:Array Value,cells=(Wv (c.toNat*i.size)).map ((if c.toNat*i.size=0 then#[] else zv.cells:Array Value)[·%(if c.toNat*i.size=0 then#[] else zv.cells:Array Value).size]!)/\cells.size=c.toNat*i.size/\
     ∀(j:Nat) d,(gu l.toNat z)[j]?=some d->∃aa,cells[j]?=some aa/\aa.oneCell'=true/\VR w (U.x β Z) d aa:=by
    refine⟨_,rfl,by simp,?_⟩
    by_cases h0:c.toNat*i.size=0
    .intro j d hd
     have:gu l.toNat z=[]:=ξ.1 (by
      rw[gr,jP];have:=θ i.size (show l.toNat<=c.toNat by omega)
      omega)
     rw[this] at hd;simp at hd
    simp only[h0,if_false];have:=(vf hzc c.toNat l.toNat (by omega) hvs _ rfl).2
    simpa using this
   obtain⟨cells,ei,hsz,hrel⟩:=dC
   have hlen:(gu l.toNat z).length<=cells.size:=by
    rw[gr,jP,hsz];exact θ _ (by omega)
   obtain⟨hx,x1,x2,x3⟩:=Nx.jX (w':=w.alloc (.cells cells e)) h true (gu l.toNat z) cells e (0,0) rfl rfl rfl rfl hlen (qK.zero _) hrel;refine⟨.slice (some ⟨w.heap.size,0,none⟩) l.toNat c.toNat,_,_,?_,hx,lB x2 x3 x1 (by omega) (by rw[hsz];exact η _),Quiet.push rfl⟩
   have ht1:(decide (c<0)||decide ((i.bytes:Int)*c>2^48))=false:=by
    have:¬c<0:=by omega
    have X:(i.bytes:Int)*c=c*i.bytes:=Int.mul_comm _ _;simp only[this,decide_false,Bool.false_or,decide_eq_false_iff_not,X];omega
   have A6:¬l<0:=by omega
   have tY:¬l>c:=by omega
   simp only[Ym,ζ,aM ok ht,δ,asInt,asIntOf,μ,q9 ok hi,TS,hwc,ht1,A6,tY,decide_false,Bool.or_self,ψ,or_self,if_false,K7,run_askRoom,bU ok (mj hi)]
   by_cases h0:c.toNat*i.size=0;·simp only[h0,if_true,δ] at ei|-;simp only[newRow,ζ,run_newObj,δ,μ,ei];rfl
   simp[h0,Vn] at ei|-;simp only[newRow,ζ,run_newObj,δ,μ,ei];rfl
  cases hs
 cases hs
end
end Go.V
