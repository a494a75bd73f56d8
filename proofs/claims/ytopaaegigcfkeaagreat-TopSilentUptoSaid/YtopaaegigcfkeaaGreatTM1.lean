/- own -/
import GoSem.Step
import Derived.WalkKit
import Derived.WalkLawsBesides
import Derived.Laws.StructEq
import Derived.Laws.Slices
import Derived.Laws.Concat
set_option linter.unusedSimpArgs false
set_option linter.unusedVariables false
set_option linter.unusedSectionVars false
set_option linter.unnecessarySimpa false
namespace Go.V
inductive D where
  | bool (b : Bool)
  | int (k : IntKind) (n : Int)
  | str (s : List UInt8)
  | nul
  | sl (es : List D)
  | win (k ver off len s : Nat)
  | pnil
  | ptr (k ver off : Nat)
  | mp (k : Nat)
  | ep (cells : List D)
  | fn (f : Nat) (caps : List D)
  | nilfn
  | agg (cs : List D)
  | tup (ds : List D)
  | nilif
  | junk
  deriving Inhabited
inductive Box where
  | mem (ver : Nat) (arr : Bool) (cells : List D)
  | iter (s : List UInt8) (pos : Nat)
  | map (es : List (D × D))
  | dead
  deriving Inhabited
structure St where
  bs : List Box
  flr : Nat
  ro : Nat
structure Fr where
  n : Nat
  loc : List D
  tmp : List (Nat × D)
def look (t : Nat) : List (Nat × D) -> D
  | [] => .junk
  | (u,d) :: l => match Nat.beq t u with
    | true => d
    | false => look t l
def nth (d : D) : List D -> Nat -> D
  | [],_ => d
  | x :: _,0 => x
  | _ :: l,i + 1 => nth d l i
def Fr.get (f : Fr) (t : Nat) : D :=
  match Nat.ble f.n t with
  | false => nth .junk f.loc t
  | true => look t f.tmp
def Fr.put (f : Fr) (t : Nat) (d : D) : Fr :=
  match Nat.ble f.n t with
  | false => ⟨f.n,f.loc.set t d,f.tmp⟩
  | true => ⟨f.n,f.loc,(t,d) :: f.tmp⟩
def Fr.putO (f : Fr) (t : Option Nat) (d : D) : Fr :=
  match t with
  | some t => f.put t d
  | none => f
def Fr.clean (f : Fr) : Fr := ⟨f.n,f.loc, []⟩
def D.cells? : D -> Option (List D)
  | .agg cs => some cs
  | .tup _ => none
  | .junk => none
  | d => some [d]
def D.cells : D -> List D
  | .agg cs => cs
  | d => [d]
def ofCell : Value -> D
  | .bool b => .bool b
  | .int k n => .int k n
  | .string s => .str s.data.toList
  | .slice none 0 0 => .nul
  | .pointer none => .pnil
  | .nilFunc => .nilfn
  | .nilIface => .nilif
  | _ => .junk
def oneC : Value -> Bool
  | .agg _ | .tuple _ => false
  | _ => true
def ofCells : List Value -> Option (List D)
  | [] => some []
  | v :: l => match oneC v with
    | true => match ofCells l with
      | some r => some (ofCell v :: r)
      | none => none
    | false => none
def ofVal : Value -> D
  | .agg cs => match ofCells cs.toList with
    | some l => .agg l
    | none => .junk
  | v => ofCell v
def Fr.ev (f : Fr) : Operand -> D
  | .tmp t => f.get t
  | .const v => ofVal v
  | .func g => .fn g []
  | .global _ => .junk
mutual
def D.ref : D -> Nat
  | .win k _ _ _ _ => k + 1
  | .ptr k _ _ => k + 1
  | .mp k => k + 1
  | .fn _ cs => refs cs
  | .agg cs => refs cs
  | .tup ds => refs ds
  | _ => 0
def refs : List D -> Nat
  | [] => 0
  | d :: ds => max d.ref (refs ds)
end
def St.mem? (st : St) (k ver : Nat) : Option (Bool × List D) :=
  match st.bs[k]? with
  | some (.mem v a c) => if v = ver then some (a,c) else none
  | _ => none
def Box.cells : Box -> List D
  | .mem _ _ c => c
  | _ => []
def St.refsAt (st : St) (k : Nat) : Nat :=
  match st.bs[k]? with
  | some b => refs b.cells
  | none => 0
def St.canW (st : St) (k r : Nat) : Bool := decide (st.ro <= k) && (decide (st.flr <= k) || (decide (r <= k + 1) || decide (r <= st.refsAt k)))
def setMany (c : List D) (off : Nat) : List D -> List D
  | [] => c
  | x :: xs => setMany (c.set off x) (off + 1) xs
def St.wr (st : St) (k ver off : Nat) (cs : List D) : Option St :=
  match st.mem? k ver with
  | some (a,c) => if off + cs.length <= c.length /\ st.canW k (refs cs) = true then some { st with bs := st.bs.set k (.mem ver a (setMany c off cs)) } else none
  | none => none
def St.push (st : St) (b : Box) : St := { st with bs := st.bs ++ [b] }
inductive Mode where
  | ro | rw | keep | nw
abbrev CallF := Nat -> List D -> St -> Option (D × St)
structure Fi where
  fn : Func
  nloc : Nat
  mode : Mode
  knul : Bool
  prim : Option (List D -> St -> Option (D × St)) := none
  dyn : List (Nat × List (Nat × Nat)) := []
inductive Tr (α : Type) where
  | leaf (a : α)
  | node (k : Nat) (l r : Tr α)
def Tr.get {α : Type} (t : Nat) : Tr α -> α
  | .leaf a => a
  | .node k l r => match Nat.ble k t with
    | false => l.get t
    | true => r.get t
structure Pv where
  ty : Tr TypeInfo
  nty : Nat
  fs : Tr Fi
  nfs : Nat
  eqb : List Nat
  prm : List (Nat × (List D -> St -> Option (D × St))) := []
def lookP (f : Nat) : List (Nat × (List D -> St -> Option (D × St))) -> Option (List D -> St -> Option (D × St))
  | [] => none
  | (g,p) :: l => match Nat.beq f g with
    | true => some p
    | false => lookP f l
def Pv.info (P : Pv) (t : Nat) : Option TypeInfo :=
  match Nat.ble P.nty t with
  | false => some (P.ty.get t)
  | true => none
def Pv.und (P : Pv) (t : Nat) : Option TypeDesc :=
  match P.info t with
  | some i => match i.desc with
    | .named _ u => match P.info u with
      | some j => some j.desc
      | none => none
    | d => some d
  | none => none
def Pv.fi (P : Pv) (f : Nat) : Option Fi :=
  match Nat.ble P.nfs f with
  | false => some (P.fs.get f)
  | true => none
def maxN : IntKind -> Nat
  | .i8 => 127 | .i16 => 32767 | .i32 => 2147483647 | .i64 => 9223372036854775807
  | .u8 => 255 | .u16 => 65535 | .u32 => 4294967295 | .u64 => 18446744073709551615
def minN : IntKind -> Nat
  | .i8 => 128 | .i16 => 32768 | .i32 => 2147483648 | .i64 => 9223372036854775808
  | _ => 0
def wrapD (k : IntKind) (n : Int) : Int :=
  match n with
  | .ofNat m => match Nat.ble m (maxN k) with
    | true => .ofNat m
    | false => k.wrap (.ofNat m)
  | .negSucc m => match Nat.ble (minN k) m with
    | false => .negSucc m
    | true => k.wrap (.negSucc m)
section
variable (P : Pv)
def szOf (t : TypeId) : Option Nat :=
  match P.info t with
  | some i => some i.size
  | none => none
def takeD (t : TypeId) (c : List D) : Option D :=
  match P.und t with
  | none => none
  | some (.struct _) | some (.array _ _) => (szOf P t).bind fun n => if n <= c.length then some (.agg (c.take n)) else none
  | some _ => c.head?
def loadD (t : TypeId) (d : D) (st : St) : Option D :=
  match d with
  | .ptr k ver off => (st.mem? k ver).bind fun (_,c) => takeD P t (c.drop off)
  | .ep c => takeD P t c
  | _ => none
def storeD (t : TypeId) (a v : D) (st : St) : Option St :=
  match a,v.cells? with
  | .ptr k ver off,some cs => if szOf P t = some cs.length then st.wr k ver off cs else none
  | _,_ => none
def zeroD (t : TypeId) : Option D := (P.info t).bind fun i => i.zero.map ofVal
def zeroC (t : TypeId) : Option (List D) :=
  match zeroD P t with
  | some z => z.cells?
  | none => none
def partD (t : TypeId) (cs : List D) (off : Nat) : Option D :=
  match P.und t with
  | none => none
  | some (.struct _) | some (.array _ _) => (szOf P t).bind fun n => if off + n <= cs.length then some (.agg ((cs.drop off).take n)) else none
  | some _ => cs[off]?
def fillD (place : Nat -> Option (Nat × Nat)) (cells : List D) : List (Nat × D) -> Option (List D)
  | [] => some cells
  | (i,v) :: rest =>
    match place i,v.cells? with
    | some (off,size),some cs => if cs.length ≠ size \/ off + cs.length > cells.length then none else fillD place (setMany cells off cs) rest
    | _,_ => none
def placesD : List Field -> Option (List (Nat × Nat))
  | [] => some []
  | f :: fs => match szOf P f.type with
    | some s => match placesD fs with
      | some r => some ((f.offset,s) :: r)
      | none => none
    | none => none
def buildD (t : TypeId) (parts : List (Nat × D)) : Option D :=
  match zeroC P t with
  | some z => match P.und t with
    | some (.struct fields) => match placesD P fields.toList with
      | some ps => (fillD (fun i => ps[i]?) z parts).map .agg
      | none => none
    | some (.array _ e) => match szOf P e with
      | some s => (fillD (fun i => some (i * s,s)) z parts).map .agg
      | none => none
    | _ => none
  | none => none
def repl (n : Nat) (z : List D) : List D := (List.replicate n z).flatten
def buildSliceD (t : TypeId) (len : Nat) (parts : List (Nat × D)) (st : St) : Option (D × St) :=
  match P.und t with
  | some (.slice e) => (szOf P e).bind fun s => (zeroC P e).bind fun z =>
      if z.length = s /\ len * s <= 16777216 then
        (fillD (fun i => some (i * s,s)) (repl len z) parts).map fun cs => (.win st.bs.length 0 0 len s,st.push (.mem 0 true cs))
      else none
  | _ => none
def cmpInt (op : BinOp) (a b : Int) : Option D :=
  match op with
  | .eql => some (.bool (a == b))
  | .neq => some (.bool (a != b))
  | .lss => some (.bool (a < b))
  | .leq => some (.bool (a <= b))
  | .gtr => some (.bool (a > b))
  | .geq => some (.bool (a >= b))
  | _ => none
def bitsD (op : BinOp) (k : IntKind) (x y : Int) : Option D :=
  let a := BitVec.ofInt k.bits x
  let b := BitVec.ofInt k.bits y
  let back (r : BitVec k.bits) : Option D := some (.int k (wrapD k r.toNat))
  match op with
  | .and => back (a &&& b)
  | .or => back (a ||| b)
  | .xor => back (a ^^^ b)
  | .andNot => back (a &&& ~~~b)
  | _ => none
def intD (op : BinOp) (k : IntKind) (a b : Int) : Option D :=
  match op with
  | .add => some (.int k (wrapD k (a + b)))
  | .sub => some (.int k (wrapD k (a - b)))
  | .mul => some (.int k (wrapD k (a * b)))
  | .quo => if b = 0 then none else some (.int k (wrapD k (a.tdiv b)))
  | .rem => if b = 0 then none else some (.int k (a.tmod b))
  | .and | .or | .xor | .andNot => bitsD op k a b
  | _ => cmpInt op a b
def shiftD (op : BinOp) (k : IntKind) (x y : Int) : Option D :=
  if y < 0 then none
  else match op with
    | .shl => some (.int k (wrapD k (x * 2 ^ (min y.toNat k.bits))))
    | .shr => some (.int k (x.fdiv (2 ^ (min y.toNat k.bits))))
    | _ => none
def strD (op : BinOp) (a b : List UInt8) : Option D :=
  match op with
  | .add => if a.length + b.length <= 9223372036854775807 then some (.str (a ++ b)) else none
  | .eql => some (.bool (a == b))
  | .neq => some (.bool !(a == b))
  | .lss => some (.bool (Op.bytesLess a b))
  | .leq => some (.bool (Op.bytesLess a b || a == b))
  | .gtr => some (.bool !(Op.bytesLess a b || a == b))
  | .geq => some (.bool !(Op.bytesLess a b))
  | _ => none
mutual
def eqD : Nat -> TypeId -> D -> D -> Option Bool
  | 0,_,_,_ => none
  | d + 1,t,x,y =>
    match P.und t,x,y with
    | some .bool, .bool a, .bool b => some (a == b)
    | some (.int _), .int k a, .int k' b => if k = k' then some (a == b) else none
    | some .string, .str a, .str b => some (a == b)
    | some (.pointer _), .pnil, .pnil => some true
    | some (.pointer _), .pnil, .ptr _ _ _ => some false
    | some (.pointer _), .ptr _ _ _, .pnil => some false
    | some (.slice _), .nul, .nul => some true
    | some (.slice _), .win _ _ _ _ _, .nul => some false
    | some (.slice _), .sl (_ :: _), .nul => some false
    | some (.struct fields), .agg xs, .agg ys => if P.eqb.contains t then eqFields d xs ys fields.toList else none
    | some (.array len e), .agg xs, .agg ys => (szOf P e).bind fun n => eqElems d e n xs ys len 0
    | _,_,_ => none
def eqFields : Nat -> List D -> List D -> List Field -> Option Bool
  | 0,_,_,_ => none
  | _ + 1,_,_, [] => some true
  | d + 1,xs,ys,f :: fs =>
    if f.name = "_" then eqFields d xs ys fs else
    match partD P f.type xs f.offset,partD P f.type ys f.offset with
    | some x,some y => match eqD d f.type x y with
      | some true => eqFields d xs ys fs
      | some false => some false
      | none => none
    | _,_ => none
def eqElems : Nat -> TypeId -> Nat -> List D -> List D -> Nat -> Nat -> Option Bool
  | 0,_,_,_,_,_,_ => none
  | _ + 1,_,_,_,_,0,_ => some true
  | d + 1,e,n,xs,ys,left + 1,i =>
    match partD P e xs (i * n),partD P e ys (i * n) with
    | some x,some y => match eqD d e x y with
      | some true => eqElems d e n xs ys left (i + 1)
      | some false => some false
      | none => none
    | _,_ => none
end
def eqFuel : Nat := 64
def aggD : D -> Bool
  | .agg _ => true
  | _ => false
def equalD (t : TypeId) (x y : D) : Option Bool :=
  if aggD x && !P.eqb.contains t then none else eqD P eqFuel t x y
def binD (op : BinOp) (t : TypeId) (x y : D) : Option D :=
  match x,y with
  | .int k a, .int k' b => match op with
    | .shl | .shr => shiftD op k a b
    | _ => if k = k' then intD op k a b else none
  | .str a, .str b => strD op a b
  | x,y => match op with
    | .eql => (equalD P t x y).map .bool
    | .neq => (equalD P t x y).map fun b => .bool !b
    | _ => none
def unD (op : UnOp) (x : D) : Option D :=
  match op,x with
  | .neg, .int k n => some (.int k (wrapD k (0 - n)))
  | .xor, .int k n => bitsD .xor k (if k.signed then -1 else k.max) n
  | .not, .bool b => some (.bool !b)
  | _,_ => none
def rowD (st : St) : D -> Option (Nat × List D)
  | .sl es => some (es.length,es.flatMap D.cells)
  | .nul => some (0, [])
  | .win k ver off len s => (st.mem? k ver).bind fun (_,c) => if off + len * s <= c.length then some (len,(c.drop off).take (len * s)) else none
  | .str b => some (b.length,b.map fun x => .int .u8 x.toNat)
  | _ => none
def bytesD : List D -> Option (List UInt8)
  | [] => some []
  | .int .u8 n :: l => (bytesD l).map fun r => UInt8.ofNat n.toNat :: r
  | _ => none
def convD (src dst : TypeId) (x : D) (st : St) : Option (D × St) :=
  match P.und src,P.und dst,x with
  | some _,some (.int k), .int _ n => some (.int k (wrapD k n),st)
  | some _,some .string, .int _ n => some (.str (Utf8.encode n).data.toList,st)
  | some _,some .string, .str s => some (.str s,st)
  | some _,some (.slice e), .str s =>
    match P.und e with
    | some (.int .u8) => if s.length < 1099511627776 then some (.win st.bs.length 0 0 s.length 1,st.push (.mem 0 true (s.map fun x => .int .u8 x.toNat))) else none
    | _ => none
  | some (.slice _),some (.slice e), .win k ver off len sz =>
    match P.und e,st.mem? k ver with
    | some (.int .u8),some _ => if Nat.beq src dst = true /\ 0 < len /\ st.canW k 0 = true then some (.win k ver off len sz,st) else none
    | _,_ => none
  | some (.slice e),some .string,x =>
    match P.und e,rowD st x with
    | some (.int .u8),some (n,cs) => match x with
      | .str _ => none
      | _ => if cs.length = n then (bytesD cs).map fun b => (.str b,st) else none
    | _,_ => none
  | _,_,_ => none
def lenD : D -> Option Nat
  | .sl es => some es.length
  | .nul => some 0
  | .win _ _ _ len _ => some len
  | .str s => some s.length
  | _ => none
def isIntT : TypeDesc -> Bool
  | .int _ => true
  | _ => false
def appendD (argTypes : List TypeId) (s x : D) (st : St) : Option (D × St) :=
  match argTypes with
  | sT :: xT :: _ =>
    match P.und sT,P.und xT with
    | some (.slice e),some xd => if isIntT xd = true then none else
      (P.info e).bind fun i => (zeroC P e).bind fun z => (rowD st x).bind fun (n,ys) =>
      if ys.length ≠ n * i.size \/ i.bytes = 0 \/ z.length ≠ i.size then none else
      match s with
      | .nul => if n = 0 then some (.nul,st)
          else if n * i.bytes <= 1099511627776 then some (.win st.bs.length 0 0 n i.size,st.push (.mem 0 true ys)) else none
      | .win k ver off len sz =>
        match st.mem? k ver with
        | some (true,c) => if sz ≠ i.size \/ c.length < off + len * sz then none
            else if n = 0 then some (.win k ver off len sz,st)
            else if (len + n) * i.bytes <= 1099511627776 /\ st.canW k (refs ys) = true then
              some (.win k (ver + 1) 0 (len + n) sz, { st with bs := st.bs.set k (.mem (ver + 1) true ((c.take (off + len * sz)).drop off ++ ys)) })
            else none
        | _ => none
      | _ => none
    | _,_ => none
  | _ => none
def copyD (argTypes : List TypeId) (d x : D) (st : St) : Option (D × St) :=
  match argTypes with
  | dT :: _ =>
    match P.und dT with
    | some (.slice e) => (szOf P e).bind fun s => (rowD st x).bind fun (m,ys) =>
      if ys.length ≠ m * s then none else
      match d with
      | .win k ver off len sz => if sz ≠ s then none else (st.wr k ver off (ys.take (min m len * s))).map fun st' => (.int .i64 (min m len : Nat),st')
      | .nul => some (.int .i64 0,st)
      | _ => none
    | _ => none
  | _ => none
def clearD (argTypes : List TypeId) (d : D) (st : St) : Option (D × St) :=
  match argTypes with
  | dT :: _ =>
    match P.und dT with
    | some (.slice e) =>
      match d with
      | .nul => some (.tup [],st)
      | .win k ver off len sz => (zeroC P e).bind fun z => if z.length = sz then (st.wr k ver off (repl len z)).map fun st' => (.tup [],st') else none
      | _ => none
    | _ => none
  | _ => none
def min2D (isMin : Bool) : D -> D -> Option D
  | .int k x, .int _ y => some (.int k (if isMin then (if y < x then y else x) else (if y > x then y else x)))
  | _,_ => none
def foldD (f : D -> D -> Option D) : D -> List D -> Option D
  | x, [] => some x
  | x,y :: l => (f x y).bind fun z => foldD f z l
def builtinD (b : Builtin) (argTypes : List TypeId) (args : List D) (st : St) : Option (D × St) :=
  match b,args with
  | .len, [x] => match argTypes with
    | t :: _ => match P.und t with
      | some .string => match x with
        | .str s => some (.int .i64 s.length,st)
        | _ => none
      | some (.slice _) => match x with
        | .str _ => none
        | x => match lenD x with
          | some n => some (.int .i64 (Int.ofNat n),st)
          | none => none
      | some (.array n _) => some (.int .i64 n,st)
      | _ => none
    | _ => none
  | .append, [s,x] => appendD P argTypes s x st
  | .copy, [d,x] => copyD P argTypes d x st
  | .clear, [d] => clearD P argTypes d st
  | .min,x :: l => (foldD (min2D true) x l).map fun d => (d,st)
  | .max,x :: l => (foldD (min2D false) x l).map fun d => (d,st)
  | _,_ => none
def makeSliceD (t : TypeId) (l c : D) (st : St) : Option (D × St) :=
  match P.und t,l,c with
  | some (.slice e), .int _ l, .int _ c => (P.info e).bind fun i => (zeroC P e).bind fun z =>
      if z.length = i.size /\ 0 <= l /\ l <= c /\ c <= 9223372036854775807 /\ c * (i.bytes : Int) <= 140737488355328 then
        some (.win st.bs.length 0 0 l.toNat i.size,st.push (.mem 0 true (repl l.toNat z)))
      else none
  | _,_,_ => none
def boundD (x : D) (y : Nat) : Option Nat :=
  match x with
  | .int _ i => if 0 <= i /\ i <= (y : Int) then some i.toNat else none
  | _ => none
def optBound (y dflt : Nat) : Option D -> Option Nat
  | some v => boundD v y
  | none => some dflt
def boundsD (len : Nat) (lo hi : Option D) : Option (Nat × Nat) :=
  (optBound len len hi).bind fun h => (optBound h 0 lo).map fun l => (l,h)
def headOk (s : Nat) (es : List D) : Bool :=
  match es.head? with
  | none => true
  | some e => match e.cells? with
    | some cs => cs.length == s
    | none => false
def sliceD (t : TypeId) (x : D) (lo hi : Option D) (st : St) : Option D :=
  match P.und t,x with
  | some .string, .str s => (boundsD s.length lo hi).map fun (l,h) => .str ((s.take h).drop l)
  | some (.slice e), .nul => (szOf P e).bind fun _ => (boundsD 0 lo hi).map fun _ => .nul
  | some (.slice e), .sl es => (szOf P e).bind fun s => if headOk s es then (boundsD es.length lo hi).map fun (l,h) => .sl ((es.take h).drop l) else none
  | some (.slice e), .win k ver off len sz => (szOf P e).bind fun s => if s = sz then (boundsD len lo hi).map fun (l,h) => .win k ver (off + l * sz) (h - l) sz else none
  | some (.array n e), .ptr k ver off => (szOf P e).bind fun s => (st.mem? k ver).bind fun (_,c) =>
      if off + n * s <= c.length then (boundsD n lo hi).map fun (l,h) => .win k ver (off + l * s) (h - l) s else none
  | _,_ => none
def slice3D (t : TypeId) (x hi mx : D) : Option D :=
  match P.und t,x,hi,mx with
  | some (.slice e), .nul, .int _ i, .int _ j => (szOf P e).bind fun _ => if i = 0 /\ j = 0 then some .nul else none
  | some (.slice e), .win k ver off len sz, .int _ i, .int _ j => (szOf P e).bind fun s => if s = sz /\ 0 <= i /\ i = j /\ j <= (len : Int) then some (.win k ver off i.toNat sz) else none
  | _,_,_,_ => none
def fieldAddrD (t : TypeId) (x : D) (i : Nat) : Option D :=
  match P.und t with
  | some (.struct fields) => (fields[i]?).bind fun f => if szOf P f.type = some 0 then none else (szOf P f.type).bind fun _ =>
      match x with
      | .ptr k ver off => some (.ptr k ver (off + f.offset))
      | .ep c => some (.ep (c.drop f.offset))
      | _ => none
  | _ => none
def fieldD (t : TypeId) (x : D) (i : Nat) : Option D :=
  match P.und t,x with
  | some (.struct fields), .agg cs => (fields[i]?).bind fun f => partD P f.type cs f.offset
  | _,_ => none
def indexAddrD (t : TypeId) (x ix : D) (st : St) : Option D :=
  match ix with
  | .int _ i =>
    match P.und t,x with
    | some (.array len e), .ptr k ver off => (szOf P e).bind fun s => if 0 <= i /\ i < len then some (.ptr k ver (off + i.toNat * s)) else none
    | some (.array len e), .ep c => (szOf P e).bind fun s => if 0 <= i /\ i < len then some (.ep (c.drop (i.toNat * s))) else none
    | some (.slice e), .sl es => (szOf P e).bind fun s => if 0 <= i then (es[i.toNat]?).bind fun d => d.cells?.bind fun cs => if cs.length = s then some (.ep cs) else none else none
    | some (.slice e), .win k ver off len sz => (szOf P e).bind fun s => if s = sz /\ 0 <= i /\ i < len /\ (st.mem? k ver).isSome = true then some (.ptr k ver (off + i.toNat * sz)) else none
    | _,_ => none
  | _ => none
def indexD (t : TypeId) (x ix : D) : Option D :=
  match ix with
  | .int _ i =>
    match P.und t,x with
    | some (.array len e), .agg cs => (szOf P e).bind fun s => if 0 <= i /\ i < len then partD P e cs (i.toNat * s) else none
    | some .string, .str s => if 0 <= i then (s[i.toNat]?).map fun b => .int .u8 b.toNat else none
    | _,_ => none
  | _ => none
def mapFind (kk : IntKind) (n : Int) : List (D × D) -> Nat -> Option (Option (Nat × D))
  | [],_ => some none
  | (.int k' m,v) :: l,i => if kk = k' then (if n == m then some (some (i,v)) else mapFind kk n l (i + 1)) else none
  | _ :: _,_ => none
def makeMapD (t : TypeId) (r : Option D) (st : St) : Option (D × St) :=
  match r with
  | none => some (.mp st.bs.length,st.push (.map []))
  | some (.int _ _) => match P.und t with
    | some (.map _ _) => some (.mp st.bs.length,st.push (.map []))
    | _ => none
  | _ => none
def keyOkD (cs : List D) : List Field -> Bool
  | [] => true
  | f :: fs => (match P.und f.type with
    | some (.int _) | some .string => (partD P f.type cs f.offset).isSome
    | _ => false) && keyOkD cs fs
def mapSetD (t : TypeId) (m key v : D) (st : St) : Option St :=
  match P.und t,m,key,v with
  | some (.map kt _), .mp k, .int kk n, .int vk x => match P.und kt,st.bs[k]? with
    | some (.int _),some (.map es) => match st.canW k 0 with
      | true => match mapFind kk n es 0 with
        | some (some (i,_)) => some { st with bs := st.bs.set k (.map (es.set i (.int kk n, .int vk x))) }
        | some none => some { st with bs := st.bs.set k (.map (es ++ [(.int kk n, .int vk x)])) }
        | none => none
      | false => none
    | _,_ => none
  | some (.map kt _), .mp k, .agg cs,_ => match P.und kt,st.bs[k]? with
    | some (.struct fs),some (.map []) => match st.canW k 0 && keyOkD P cs fs.toList with
      | true => some { st with bs := st.bs.set k (.map [(.junk, .junk)]) }
      | false => none
    | _,_ => none
  | _,_,_,_ => none
def lookupD (t : TypeId) (m key : D) (st : St) : Option D :=
  match P.und t,m,key with
  | some (.map kt e), .mp k, .int kk n => match P.und kt,st.bs[k]? with
    | some (.int _),some (.map es) => match mapFind kk n es 0 with
      | some (some (_,v)) => some v
      | some none => zeroD P e
      | none => none
    | _,_ => none
  | some (.map kt e), .mp k, .agg cs => match P.und kt,st.bs[k]? with
    | some (.struct fs),some (.map []) => match keyOkD P cs fs.toList with
      | true => zeroD P e
      | false => none
    | _,_ => none
  | _,_,_ => none
def rangeD (t : TypeId) (x : D) (st : St) : Option (D × St) :=
  match P.und t,x with
  | some .string, .str s => some (.ptr st.bs.length 0 0,st.push (.iter s 0))
  | _,_ => none
def nextD (x : D) (isString : Bool) (st : St) : Option (D × St) :=
  match x,isString with
  | .ptr k 0 0,true =>
    match st.bs[k]? with
    | some (.iter s pos) =>
      if pos < s.length then
        if st.canW k 0 then
          let r := Utf8.decode ⟨s.toArray⟩ pos
          some (.tup [.bool true, .int .i64 pos, .int .i32 r.1], { st with bs := st.bs.set k (.iter s (pos + r.2)) })
        else none
      else some (.tup [.bool false],st)
    | _ => none
  | _,_ => none
def opD (fr : Fr) (st : St) (op : Op) (_type : TypeId) : Option (D × St) :=
  match op with
  | .move x | .assign x => some (fr.ev x,st)
  | .pick c a b => match fr.ev c with
    | .bool true => some (fr.ev a,st)
    | .bool false => some (fr.ev b,st)
    | _ => none
  | .alloc e => (zeroC P e).map fun cs => (.ptr st.bs.length 0 0,st.push (.mem 0 false cs))
  | .box _ x => (fr.ev x).cells?.map fun cs => (.ptr st.bs.length 0 0,st.push (.mem 0 false cs))
  | .build t parts => (buildD P t (parts.toList.map fun p => (p.1,fr.ev p.2))).map fun d => (d,st)
  | .buildSlice t len parts => buildSliceD P t len (parts.toList.map fun p => (p.1,fr.ev p.2)) st
  | .load t a => (loadD P t (fr.ev a) st).map fun d => (d,st)
  | .store t a x => (storeD P t (fr.ev a) (fr.ev x) st).map fun st' => (.tup [],st')
  | .nilCheck x => match fr.ev x with
    | .ptr k v o => some (.ptr k v o,st)
    | .ep c => some (.ep c,st)
    | .fn f c => some (.fn f c,st)
    | _ => none
  | .binOp op t x y _ => (binD P op t (fr.ev x) (fr.ev y)).map fun d => (d,st)
  | .unOp op _ x => (unD op (fr.ev x)).map fun d => (d,st)
  | .convert s d x => convD P s d (fr.ev x) st
  | .makeFunc (.func f) first captured => if first.isEmpty then some (.fn f (captured.toList.map fr.ev),st) else none
  | .makeSlice t l c => makeSliceD P t (fr.ev l) (fr.ev c) st
  | .slice t x lo hi none => (sliceD P t (fr.ev x) (lo.map fr.ev) (hi.map fr.ev) st).map fun d => (d,st)
  | .slice t x none (some hi) (some mx) => (slice3D P t (fr.ev x) (fr.ev hi) (fr.ev mx)).map fun d => (d,st)
  | .fieldAddr t x f => (fieldAddrD P t (fr.ev x) f).map fun d => (d,st)
  | .field t x f => (fieldD P t (fr.ev x) f).map fun d => (d,st)
  | .indexAddr t x i => (indexAddrD P t (fr.ev x) (fr.ev i) st).map fun d => (d,st)
  | .index t x i => (indexD P t (fr.ev x) (fr.ev i)).map fun d => (d,st)
  | .range t x => rangeD P t (fr.ev x) st
  | .makeMap t r => makeMapD P t (r.map fr.ev) st
  | .insert t m k x => (mapSetD P t (fr.ev m) (fr.ev k) (fr.ev x) st).map fun st' => (.tup [],st')
  | .mapUpdate t m k x => (mapSetD P t (fr.ev m) (fr.ev k) (fr.ev x) st).map fun st' => (.tup [],st')
  | .lookup t x i false => (lookupD P t (fr.ev x) (fr.ev i) st).map fun d => (d,st)
  | .next it s => nextD (fr.ev it) s st
  | .extract t i => match fr.ev t with
    | .tup ds => (ds[i]?).map fun d => (d,st)
    | _ => none
  | .call ⟨.builtin b,args,argTypes⟩ => builtinD P b argTypes.toList (args.toList.map fr.ev) st
  | _ => none
end
section
variable (P : Pv) (cf : CallF)
def operD (fr : Fr) (st : St) (o : Oper) : Option (D × St) :=
  match o.op with
  | .call ⟨.value f,args,_⟩ => match fr.ev f with
    | .fn g caps => cf g (args.toList.map fr.ev ++ caps) st
    | _ => none
  | op => opD P fr st op o.type
def wantD (ops : Array Oper) (fr : Fr) (o : Oper) : Option Bool :=
  match o.guard with
  | none => some true
  | some (j,want) => match (ops[j]?).bind (·.dst) with
    | none => none
    | some t => match fr.get t with
      | .bool b => some (b == want)
      | .tup _ => some false
      | _ => none
def opsD (ops : Array Oper) : List Oper -> Fr -> St -> Option (Fr × St)
  | [],fr,st => some (fr,st)
  | o :: rest,fr,st =>
    match wantD ops fr o with
    | some true => match operD P cf fr st o with
      | some (d,st') => opsD ops rest (fr.putO o.dst d) st'
      | none => none
    | some false => opsD ops rest (fr.putO o.dst (.tup [])) st
    | none => none
mutual
def beqD : D -> D -> Bool
  | .bool a, .bool b => a == b
  | .int k n, .int k' m => decide (k = k') && n == m
  | .str s, .str t => s == t
  | .nul, .nul => true
  | .pnil, .pnil => true
  | .nilfn, .nilfn => true
  | .nilif, .nilif => true
  | .junk, .junk => true
  | .sl a, .sl b => beqDs a b
  | .agg a, .agg b => beqDs a b
  | .tup a, .tup b => beqDs a b
  | .ep a, .ep b => beqDs a b
  | .win k v o l s, .win k' v' o' l' s' => Nat.beq k k' && Nat.beq v v' && Nat.beq o o' && Nat.beq l l' && Nat.beq s s'
  | .ptr k v o, .ptr k' v' o' => Nat.beq k k' && Nat.beq v v' && Nat.beq o o'
  | .mp k, .mp k' => Nat.beq k k'
  | .fn f a, .fn g b => Nat.beq f g && beqDs a b
  | _,_ => false
def beqDs : List D -> List D -> Bool
  | [], [] => true
  | a :: l,b :: m => beqD a b && beqDs l m
  | _,_ => false
end
def beqPs : List (D × D) -> List (D × D) -> Bool
  | [], [] => true
  | (a,b) :: l,(c,d) :: m => beqD a c && beqD b d && beqPs l m
  | _,_ => false
def beqBox : Box -> Box -> Bool
  | .map l, .map m => beqPs l m
  | .mem v a c, .mem v' a' c' => Nat.beq v v' && (a == a') && beqDs c c'
  | .iter s p, .iter s' p' => s == s' && Nat.beq p p'
  | .dead, .dead => true
  | _,_ => false
def D.box? : D -> Option Nat
  | .win k _ _ _ _ => some k
  | .ptr k _ _ => some k
  | _ => none
def rdOp? : Op -> Option Operand
  | .load _ a => some a
  | .indexAddr _ x _ => some x
  | _ => none
def stillB (k : Option Nat) (a b : St) : Bool :=
  match k with
  | none => true
  | some k => match a.bs[k]?,b.bs[k]? with
    | some x,some y => beqBox x y
    | _,_ => false
def smallB (k : Option Nat) (a b : St) : Bool :=
  match k with
  | none => true
  | some k => match Nat.beq a.bs.length b.bs.length with
    | true => true
    | false => match a.bs[k]? with
      | some (.mem _ _ c) => Nat.ble (refs c) a.bs.length
      | _ => false
def pairOk (x : Oper) (fi : Fr) (si si' : St) (y : Oper) (fj : Fr) (sj sj' : St) : Bool :=
  match rdOp? y.op with
  | some a => stillB (fj.ev a).box? si si'
  | none => match rdOp? x.op with
    | some a => stillB (fi.ev a).box? sj sj' && smallB (fi.ev a).box? si sj'
    | none => false
abbrev Log := List (Oper × Fr × St × St)
def chkY (dy : List (Nat × Nat)) (j : Nat) (log : Log) (o : Oper) (fr : Fr) (st st' : St) : Bool :=
  dy.all fun p => match Nat.beq p.2 j && Nat.blt p.1 j with
    | true => match log[j - 1 - p.1]? with
      | some (x,fi,si,si') => pairOk x fi si si' o fr st st'
      | none => false
    | false => true
def opsY (ops : Array Oper) (dy : List (Nat × Nat)) : Nat -> Log -> List Oper -> Fr -> St -> Option (Fr × St)
  | _,_, [],fr,st => some (fr,st)
  | j,log,o :: rest,fr,st =>
    match wantD ops fr o with
    | some true => match operD P cf fr st o with
      | some (d,st') => match chkY dy j log o fr st st' with
        | true => opsY ops dy (j + 1) ((o,fr,st,st') :: log) rest (fr.putO o.dst d) st'
        | false => none
      | none => none
    | some false => opsY ops dy (j + 1) ((o,fr,st,st) :: log) rest (fr.putO o.dst (.tup [])) st
    | none => none
def regD (ops : Array Oper) (dy : List (Nat × Nat)) (fr : Fr) (st : St) : Option (Fr × St) :=
  match dy with
  | [] => opsD P cf ops ops.toList fr st
  | _ => opsY P cf ops dy 0 [] ops.toList fr st
def lookDy (id : Nat) : List (Nat × List (Nat × Nat)) -> List (Nat × Nat)
  | [] => []
  | (i,l) :: r => match Nat.beq i id with
    | true => l
    | false => lookDy id r
inductive Out where
  | next
  | exit (id : Nat)
  | ret
def iter (step : Fr -> St -> Option (Out × Fr × St)) : Nat -> Fr -> St -> Option (Out × Fr × St)
  | 0,_,_ => none
  | n + 1,fr,st => match step fr.clean st with
    | some (.next,fr',st') => iter step n fr' st'
    | r => r
def codeD (dy : List (Nat × List (Nat × Nat))) (n : Nat) : Code -> Fr -> St -> Option (Out × Fr × St)
  | .skip,fr,st => some (.next,fr,st)
  | .region id ops _,fr,st => match regD P cf ops (lookDy id dy) fr.clean st with
    | some (fr',st') => some (.next,fr',st')
    | none => none
  | .seq a b,fr,st => match codeD dy n a fr st with
    | some (.next,fr',st') => codeD dy n b fr' st'
    | r => r
  | .cond c a b,fr,st => match fr.ev c with
    | .bool true => codeD dy n a fr st
    | .bool false => codeD dy n b fr st
    | _ => none
  | .block id c,fr,st => match codeD dy n c fr st with
    | some (.exit i,fr',st') => if i = id then some (.next,fr',st') else some (.exit i,fr',st')
    | r => r
  | .loop c,fr,st => iter (codeD dy n c) n fr st
  | .exit id,fr,st => some (.exit id,fr,st)
  | .ret,fr,st => some (.ret,fr,st)
  | _,_,_ => none
def resD (fr : Fr) (st : St) : List ResultVar -> Option (List D)
  | [] => some []
  | .tmp t :: l => (resD fr st l).map fun ds => fr.get t :: ds
  | .cell a t :: l => (loadD P t (fr.get a) st).bind fun d => (resD fr st l).map fun ds => d :: ds
def tupD : List D -> D
  | [d] => d
  | ds => .tup ds
end
def chunk (s : Nat) : Nat -> List D -> List D
  | 0,_ => []
  | n + 1,c => (match s with | 1 => c.headD .junk | _ => .agg (c.take s)) :: chunk s n (c.drop s)
def mapO (f : D -> Option D) : List D -> Option (List D)
  | [] => some []
  | d :: ds => match f d with
    | some x => match mapO f ds with
      | some xs => some (x :: xs)
      | none => none
    | none => none
def pureD (st : St) (N : Nat) : Nat -> D -> Option D
  | 0,_ => none
  | n + 1,d => match d with
    | .bool b => some (.bool b)
    | .int k i => some (.int k i)
    | .str s => some (.str s)
    | .nul => some (.sl [])
    | .sl es => some (.sl es)
    | .pnil => some .pnil
    | .nilfn => some .nilfn
    | .nilif => some .nilif
    | .win k ver off len s => if k < N then none else (st.mem? k ver).bind fun (_,c) => if off + len * s <= c.length then (mapO (pureD st N n) ((c.drop off).take (len * s))).map fun cs => .sl (chunk s len cs) else none
    | .agg cs => (mapO (pureD st N n) cs).map .agg
    | _ => none
def freezeD (st : St) (N : Nat) (kn : Bool) : Nat -> D -> Option D
  | 0,_ => none
  | n + 1,d => match d with
    | .win k ver off len s => if k < N then some (.win k ver off len s) else pureD st N n (.win k ver off len s)
    | .ptr k ver off => if k < N then some (.ptr k ver off) else none
    | .mp k => if k < N then some (.mp k) else none
    | .nul => some (if kn then .nul else .sl [])
    | .agg cs => (mapO (freezeD st N kn n) cs).map .agg
    | .tup ds => (mapO (freezeD st N kn n) ds).map .tup
    | .fn f caps => if refs caps <= N then some (.fn f caps) else none
    | d => some d
def pad (n : Nat) (args : List D) : Fr := ⟨n,args ++ List.replicate (n - args.length) (.tup []), []⟩
def enterSt (m : Mode) (st : St) : St :=
  match m with
  | .ro => { st with flr := st.bs.length,ro := st.bs.length }
  | .rw => { st with flr := st.bs.length }
  | .keep => st
  | .nw => { st with ro := st.bs.length }
def leaveD (m : Mode) (kn : Bool) (st st1 : St) (d : D) : Option (D × St) :=
  match m with
  | .keep => some (d,st1)
  | .nw => some (d,⟨st1.bs,st.flr,st.ro⟩)
  | _ => match freezeD st1 st.bs.length kn 16 d with
    | some d' => some (d',⟨st1.bs.take st.bs.length,st.flr,st.ro⟩)
    | none => none
def bodyD (P : Pv) (cf : CallF) (n : Nat) (x : Fi) (body : Code) (args : List D) (st : St) : Option (D × St) :=
  match codeD P cf x.dyn n body (pad x.nloc args) (enterSt x.mode st) with
  | some (.exit _,_,_) => none
  | some (_,fr,st1) => match resD P fr st1 x.fn.results.toList with
    | some ds => leaveD x.mode x.knul st st1 (tupD ds)
    | none => none
  | none => none
def callD (P : Pv) : Nat -> CallF
  | 0 => fun _ _ _ => none
  | n + 1 => fun f args st =>
    match lookP f P.prm with
    | some p => p args st
    | none => match P.fi f with
      | some x => match x.prim with
        | some p => p args st
        | none => match x.fn.body with
          | some body => bodyD P (callD P n) n x body args st
          | none => none
      | none => none
mutual
theorem beqD_eq : ∀ (a b : D),beqD a b = true -> a = b
  | .bool a,b,h => by cases b <;> simp [beqD] at h; rw [h]
  | .int k n,b,h => by cases b <;> simp [beqD] at h; rw [h.1,h.2]
  | .str s,b,h => by cases b <;> simp [beqD] at h; rw [h]
  | .nul,b,h => by cases b <;> simp [beqD] at h; rfl
  | .pnil,b,h => by cases b <;> simp [beqD] at h; rfl
  | .nilfn,b,h => by cases b <;> simp [beqD] at h; rfl
  | .nilif,b,h => by cases b <;> simp [beqD] at h; rfl
  | .junk,b,h => by cases b <;> simp [beqD] at h; rfl
  | .sl a,b,h => by cases b <;> simp [beqD] at h; rw [beqDs_eq _ _ h]
  | .agg a,b,h => by cases b <;> simp [beqD] at h; rw [beqDs_eq _ _ h]
  | .tup a,b,h => by cases b <;> simp [beqD] at h; rw [beqDs_eq _ _ h]
  | .ep a,b,h => by cases b <;> simp [beqD] at h; rw [beqDs_eq _ _ h]
  | .win ..,b,h => by cases b <;> simp [beqD] at h; rw [h.1.1.1.1,h.1.1.1.2,h.1.1.2,h.1.2,h.2]
  | .ptr ..,b,h => by cases b <;> simp [beqD] at h; rw [h.1.1,h.1.2,h.2]
  | .mp ..,b,h => by cases b <;> simp [beqD] at h; rw [h]
  | .fn f a,b,h => by cases b <;> simp [beqD] at h; rw [h.1,beqDs_eq _ _ h.2]
theorem beqDs_eq : ∀ (a b : List D),beqDs a b = true -> a = b
  | [],b,h => by cases b <;> simp [beqDs] at h; rfl
  | a :: l,b,h => by
    cases b with
    | nil => simp [beqDs] at h
    | cons b m =>
      simp only [beqDs,Bool.and_eq_true] at h
      rw [beqD_eq a b h.1,beqDs_eq l m h.2]
end
mutual
theorem beqD_refl : ∀ (a : D),beqD a a = true
  | .bool a => by simp [beqD]
  | .int k n => by simp [beqD]
  | .str s => by simp [beqD]
  | .nul => rfl
  | .pnil => rfl
  | .nilfn => rfl
  | .nilif => rfl
  | .junk => rfl
  | .sl a => by simp only [beqD]; exact beqDs_refl a
  | .agg a => by simp only [beqD]; exact beqDs_refl a
  | .tup a => by simp only [beqD]; exact beqDs_refl a
  | .ep a => by simp only [beqD]; exact beqDs_refl a
  | .win .. => by simp [beqD]
  | .ptr .. => by simp [beqD]
  | .mp .. => by simp [beqD]
  | .fn f a => by simp only [beqD]; rw [beqDs_refl a]; simp
theorem beqDs_refl : ∀ (a : List D),beqDs a a = true
  | [] => rfl
  | a :: l => by simp only [beqDs]; rw [beqD_refl a,beqDs_refl l]; rfl
end
theorem beqPs_eq : ∀ (a b : List (D × D)),beqPs a b = true -> a = b
  | [],b,h => by cases b <;> simp [beqPs] at h; rfl
  | (a,c) :: l,b,h => by
    cases b with
    | nil => simp [beqPs] at h
    | cons b m =>
      obtain ⟨b,d⟩ := b
      simp only [beqPs,Bool.and_eq_true] at h
      rw [beqD_eq a b h.1.1,beqD_eq c d h.1.2,beqPs_eq l m h.2]
theorem beqBox_eq {a b : Box} (h : beqBox a b = true) : a = b := by
  cases a <;> cases b <;> simp [beqBox] at h <;> try rfl
  · rw [h.1.1,h.1.2,beqDs_eq _ _ h.2]
  · rw [h.1,h.2]
  · rw [beqPs_eq _ _ h]
theorem stillB_eq {k : Nat} {a b : St} (h : stillB (some k) a b = true) : b.bs[k]? = a.bs[k]? := by
  unfold stillB at h
  simp only at h
  split at h
  · rename_i x y h1 h2; rw [h1,h2,beqBox_eq h]
  · cases h
end Go.V
namespace Go.V
open Go.RowKit
structure X where
  ver : Nat -> Option Nat
  β : Nat -> Option (Nat × Nat)
  Z : Nat -> Prop
def boxVer : Box -> Option Nat
  | .mem v _ _ => some v
  | .iter _ _ => some 0
  | .map _ => some 0
  | _ => none
def St.ver (st : St) (k : Nat) : Option Nat := (st.bs[k]?).bind boxVer
def St.x (st : St) (β : Nat -> Option (Nat × Nat)) (Z : Nat -> Prop) : X := ⟨st.ver,β,Z⟩
def rowSize (w : World) (b : Nat) : Option Nat :=
  match w.heap[b]? with
  | some (.cells c _ _) => some c.size
  | _ => none
inductive IR (w : World) (Z : Nat -> Prop) : D -> Value -> Prop where
  | bool (b : Bool) : IR w Z (.bool b) (.bool b)
  | int (k : IntKind) (n : Int) : IR w Z (.int k n) (.int k n)
  | str (s : List UInt8) : IR w Z (.str s) (.string ⟨s.toArray⟩)
  | nul : IR w Z .nul (.slice none 0 0)
  | pnil : IR w Z .pnil (.pointer none)
  | nilfn : IR w Z .nilfn .nilFunc
  | nilif : IR w Z .nilif .nilIface
  | emp (a : Option Addr) (cap : Nat) : IR w Z (.sl []) (.slice a 0 cap)
  | sl (es : List D) (b off cap s : Nat) (f : Nat -> Nat -> Value) (hz : Z b) (hc : es.length <= cap)
      (hs : ∀ (i : Nat) e,es[i]? = some e -> e.cells? = some e.cells /\ e.cells.length = s)
      (hv : ∀ (i : Nat) e (j : Nat) c,es[i]? = some e -> e.cells[j]? = some c -> w.cell? ⟨b,off + (i * s + j),none⟩ = some (f i j) /\ (f i j).oneCell' = true)
      (hr : ∀ (i : Nat) e (j : Nat) c,es[i]? = some e -> e.cells[j]? = some c -> IR w Z c (f i j)) : IR w Z (.sl es) (.slice (some ⟨b,off,none⟩) es.length cap)
  | ep (cs : List D) (b off : Nat) (f : Nat -> Value) (hz : Z b)
      (hv : ∀ (j : Nat) c,cs[j]? = some c -> w.cell? ⟨b,off + j,none⟩ = some (f j) /\ (f j).oneCell' = true)
      (hr : ∀ (j : Nat) c,cs[j]? = some c -> IR w Z c (f j)) : IR w Z (.ep cs) (.pointer (some ⟨b,off,none⟩))
  | agg (cs : List D) (vs : List Value) (hl : cs.length = vs.length) (h1 : ∀ v ∈ vs,v.oneCell' = true)
      (hr : ∀ (i : Nat) c v,cs[i]? = some c -> vs[i]? = some v -> IR w Z c v) : IR w Z (.agg cs) (.agg vs.toArray)
  | tup (cs : List D) (vs : List Value) (hl : cs.length = vs.length)
      (hr : ∀ (i : Nat) c v,cs[i]? = some c -> vs[i]? = some v -> IR w Z c v) : IR w Z (.tup cs) (.tuple vs.toArray)
  | junk (v : Value) : IR w Z .junk v
inductive VR (w : World) (x : X) : D -> Value -> Prop where
  | im (d : D) (v : Value) (h : IR w x.Z d v) : VR w x d v
  | win (k vr off len s : Nat) (a : Addr) (cap : Nat) (hc : len <= cap) (hk : ∃ p,x.β k = some p) (hm : ∀ c,x.ver k = some c -> vr <= c)
      (h : x.ver k = some vr -> ∃ b base sz,x.β k = some (b,base) /\ rowSize w b = some sz /\ (cap = 0 \/ (a = ⟨b,base + off,none⟩ /\ base + off + cap * s <= sz))) :
      VR w x (.win k vr off len s) (.slice (some a) len cap)
  | ptr (k vr off : Nat) (a : Addr) (hk : ∃ p,x.β k = some p) (hm : ∀ c,x.ver k = some c -> vr <= c)
      (h : x.ver k = some vr -> ∃ b base,x.β k = some (b,base) /\ a = ⟨b,base + off,none⟩) : VR w x (.ptr k vr off) (.pointer (some a))
  | mp (k r : Nat) (hk : ∃ p,x.β k = some p) (h : x.ver k = some 0 -> ∃ base,x.β k = some (r,base)) : VR w x (.mp k) (.map (some r))
  | fn (f : Nat) (cs : List D) (vs : List Value) (hl : cs.length = vs.length)
      (hr : ∀ (i : Nat) c v,cs[i]? = some c -> vs[i]? = some v -> VR w x c v) : VR w x (.fn f cs) (.func (.func f) #[] vs.toArray)
  | agg (cs : List D) (vs : List Value) (hl : cs.length = vs.length) (h1 : ∀ v ∈ vs,v.oneCell' = true)
      (hr : ∀ (i : Nat) c v,cs[i]? = some c -> vs[i]? = some v -> VR w x c v) : VR w x (.agg cs) (.agg vs.toArray)
  | tup (cs : List D) (vs : List Value) (hl : cs.length = vs.length)
      (hr : ∀ (i : Nat) c v,cs[i]? = some c -> vs[i]? = some v -> VR w x c v) : VR w x (.tup cs) (.tuple vs.toArray)
theorem cell?_eq {w w' : World} {b o : Nat} (h : w'.heap[b]? = w.heap[b]?) : w'.cell? ⟨b,o,none⟩ = w.cell? ⟨b,o,none⟩ := by
  simp only [World.cell?,h]
theorem IR.mono {w w' : World} {Z Z' : Nat -> Prop} (hz : ∀ b,Z b -> Z' b /\ w'.heap[b]? = w.heap[b]?) {d : D} {v : Value} (h : IR w Z d v) : IR w' Z' d v := by
  induction h with
  | bool b => exact .bool b
  | int k n => exact .int k n
  | str s => exact .str s
  | nul => exact .nul
  | pnil => exact .pnil
  | nilfn => exact .nilfn
  | nilif => exact .nilif
  | emp a cap => exact .emp a cap
  | sl es b off cap s f hb hc hs hv hr ih =>
    exact .sl es b off cap s f (hz b hb).1 hc hs (fun i e j c he hj => by rw [cell?_eq (hz b hb).2]; exact hv i e j c he hj) ih
  | ep cs b off f hb hv hr ih => exact .ep cs b off f (hz b hb).1 (fun j c hj => by rw [cell?_eq (hz b hb).2]; exact hv j c hj) ih
  | agg cs vs hl h1 hr ih => exact .agg cs vs hl h1 ih
  | tup cs vs hl hr ih => exact .tup cs vs hl ih
  | junk v => exact .junk v
structure Keeps (w : World) (x : X) (w' : World) (x' : X) : Prop where
  dm : ∀ k p,x.β k = some p -> ∃ p',x'.β k = some p'
  z : ∀ b,x.Z b -> x'.Z b /\ w'.heap[b]? = w.heap[b]?
  ver : ∀ k c p,x.β k = some p -> x'.ver k = some c -> ∃ o,x.ver k = some o /\ o <= c
  at_ : ∀ k c,x'.ver k = some c -> x.ver k = some c -> ∀ b base,x.β k = some (b,base) -> x'.β k = some (b,base) /\ rowSize w' b = rowSize w b
theorem Keeps.refl (w : World) (x : X) : Keeps w x w x :=
  ⟨fun _ p h => ⟨p,h⟩,fun _ h => ⟨h,rfl⟩,fun _ c _ _ h => ⟨c,h,Nat.le_refl _⟩,fun _ _ _ _ _ _ h => ⟨h,rfl⟩⟩
theorem Keeps.trans {w1 w2 w3 : World} {x1 x2 x3 : X} (h : Keeps w1 x1 w2 x2) (g : Keeps w2 x2 w3 x3) : Keeps w1 x1 w3 x3 where
  dm k p hp := by obtain ⟨p',hp'⟩ := h.dm k p hp; exact g.dm k p' hp'
  z b hb := ⟨(g.z b (h.z b hb).1).1,((g.z b (h.z b hb).1).2).trans (h.z b hb).2⟩
  ver k c p hk hc := by
    obtain ⟨p',hp'⟩ := h.dm k p hk
    obtain ⟨o,ho,hle⟩ := g.ver k c p' hp' hc
    obtain ⟨q,hq,hle'⟩ := h.ver k o p hk ho
    exact ⟨q,hq,Nat.le_trans hle' hle⟩
  at_ k c h3 h1 b base hb := by
    obtain ⟨p',hp'⟩ := h.dm k _ hb
    obtain ⟨o,ho,hle⟩ := g.ver k c p' hp' h3
    obtain ⟨p,hp,hle'⟩ := h.ver k o _ hb ho
    rw [h1] at hp; cases hp
    have : o = c := Nat.le_antisymm hle hle'
    subst this
    obtain ⟨hb2,hs2⟩ := h.at_ k _ ho h1 b base hb
    obtain ⟨hb3,hs3⟩ := g.at_ k _ h3 ho b base hb2
    exact ⟨hb3,hs3.trans hs2⟩
theorem VR.mono {w w' : World} {x x' : X} (hk : Keeps w x w' x') {d : D} {v : Value} (h : VR w x d v) : VR w' x' d v := by
  induction h with
  | im d v h => exact .im d v (h.mono hk.z)
  | win k vr off len s a cap hc hkn hm h =>
    obtain ⟨p,hp⟩ := hkn
    refine .win k vr off len s a cap hc (hk.dm k p hp) ?_ ?_
    · intro c hcv
      obtain ⟨o,ho,hle⟩ := hk.ver k c p hp hcv
      exact Nat.le_trans (hm o ho) hle
    · intro hv
      obtain ⟨o,ho,hle⟩ := hk.ver k vr p hp hv
      have : o = vr := Nat.le_antisymm hle (hm o ho)
      subst this
      obtain ⟨b,base,sz,hb,hs,hr⟩ := h ho
      obtain ⟨hb',hs'⟩ := hk.at_ k _ hv ho b base hb
      exact ⟨b,base,sz,hb',hs'.trans hs,hr⟩
  | ptr k vr off a hkn hm h =>
    obtain ⟨p,hp⟩ := hkn
    refine .ptr k vr off a (hk.dm k p hp) ?_ ?_
    · intro c hcv
      obtain ⟨o,ho,hle⟩ := hk.ver k c p hp hcv
      exact Nat.le_trans (hm o ho) hle
    · intro hv
      obtain ⟨o,ho,hle⟩ := hk.ver k vr p hp hv
      have : o = vr := Nat.le_antisymm hle (hm o ho)
      subst this
      obtain ⟨b,base,hb,hr⟩ := h ho
      exact ⟨b,base,(hk.at_ k _ hv ho b base hb).1,hr⟩
  | mp k r hkn h =>
    obtain ⟨p,hp⟩ := hkn
    refine .mp k r (hk.dm k p hp) fun hv => ?_
    obtain ⟨o,ho,hle⟩ := hk.ver k 0 p hp hv
    have : o = 0 := by omega
    subst this
    obtain ⟨base,hb⟩ := h ho
    exact ⟨base,(hk.at_ k _ hv ho r base hb).1⟩
  | fn f cs vs hl hr ih => exact .fn f cs vs hl ih
  | agg cs vs hl h1 hr ih => exact .agg cs vs hl h1 ih
  | tup cs vs hl hr ih => exact .tup cs vs hl ih
theorem VR.junk (w : World) (x : X) (v : Value) : VR w x .junk v := .im _ _ (.junk v)
def FrOk (n : Nat) (fr : Nat × Nat) : Prop := fr.1 <= fr.2 /\ ∀ o,o < n -> ¬ (fr.1 <= o /\ o < fr.2)
theorem FrOk.zero (n : Nat) : FrOk n (0,0) := ⟨Nat.le_refl _,fun o _ => by omega⟩
def BoxOk (w : World) (x : X) (b base : Nat) : Box -> Prop
  | .mem _ _ cells => ∃ c el fr,w.heap[b]? = some (.cells c el fr) /\ base + cells.length <= c.size /\ FrOk c.size fr /\
      ∀ (j : Nat) d,cells[j]? = some d -> ∃ u,c[base + j]? = some u /\ u.oneCell' = true /\ VR w x d u
  | .iter s pos => base = 0 /\ w.heap[b]? = some (.stringIter ⟨s.toArray⟩ pos)
  | .map es => base = 0 /\ ∃ entries clock,w.heap[b]? = some (.map entries clock) /\ entries.size = es.length /\ ∀ (i : Nat) p,es[i]? = some p -> p.1 = .junk \/ ∃ kk n vk x e,p = (.int kk n, .int vk x) /\ entries[i]? = some e /\ e.key = .int kk n /\ e.val = .int vk x
  | .dead => False
structure Sim (w : World) (st : St) (β : Nat -> Option (Nat × Nat)) (Z : Nat -> Prop) : Prop where
  dom : ∀ k b base,β k = some (b,base) -> k < st.bs.length
  lt : ∀ k b base,β k = some (b,base) -> b < w.heap.size
  inj : ∀ k k' b x x',β k = some (b,x) -> β k' = some (b,x') -> k = k'
  zd : ∀ k b base,β k = some (b,base) -> ¬ Z b
  zl : ∀ b,Z b -> b < w.heap.size
  box : ∀ k b base bx,β k = some (b,base) -> st.bs[k]? = some bx -> BoxOk w (st.x β Z) b base bx
  flr : st.flr <= st.bs.length
  ro : st.ro <= st.bs.length
structure Evo (M : Nat -> Prop) (w w' : World) : Prop where
  os : w'.os = w.os
  tape : w'.tape = w.tape
  output : w'.output = w.output
  size : w.heap.size <= w'.heap.size
  block : ∀ b,b < w.heap.size -> ¬ M b -> w'.heap[b]? = w.heap[b]?
theorem Evo.refl (M : Nat -> Prop) (w : World) : Evo M w w := ⟨rfl,rfl,rfl,Nat.le_refl _,fun _ _ _ => rfl⟩
theorem Evo.trans {M M' M'' : Nat -> Prop} {w1 w2 w3 : World} (h : Evo M w1 w2) (g : Evo M' w2 w3) (hM : ∀ b,M b -> M'' b) (hM' : ∀ b,b < w1.heap.size -> M' b -> M'' b) : Evo M'' w1 w3 :=
  ⟨g.os.trans h.os,g.tape.trans h.tape,g.output.trans h.output,Nat.le_trans h.size g.size,fun b hb hn =>
    (g.block b (Nat.lt_of_lt_of_le hb h.size) fun hm => hn (hM' b hb hm)).trans (h.block b hb fun hm => hn (hM b hm))⟩
theorem Evo.mono {M M' : Nat -> Prop} {w w' : World} (h : Evo M w w') (hM : ∀ b,M b -> M' b) : Evo M' w w' :=
  ⟨h.os,h.tape,h.output,h.size,fun b hb hn => h.block b hb fun hm => hn (hM b hm)⟩
def wrt (st : St) (β : Nat -> Option (Nat × Nat)) (b : Nat) : Prop := ∃ k base,β k = some (b,base) /\ st.ro <= k
def FrR (w : World) (x : X) (fr : Fr) (tmps : Array Value) : Prop := ∀ t,VR w x (fr.get t) (tmps.getD t undef)
theorem FrR.mono {w w' : World} {x x' : X} {fr : Fr} {tmps : Array Value} (h : FrR w x fr tmps) (hk : Keeps w x w' x') : FrR w' x' fr tmps := fun t => (h t).mono hk
end Go.V
namespace Go.V
open Go.RowKit
structure Pv.Ok (pv : Pv) (P : Program) : Prop where
  ty : ∀ t i,pv.info t = some i -> P.info? t = some i
  fs : ∀ f x,pv.fi f = some x -> x.prim = none -> P.funcs[f]? = some x.fn /\ ∀ b,x.fn.body = some b -> x.fn.name ≠ "runtime.NumGoroutine"
  eqb : ∀ t,pv.eqb.contains t = true -> P.stoodInHeld t = false /\ P.eqGuardType P.depth t = false
  mixed : P.follows .mixedOrders = true
section
variable {pv : Pv} {P : Program} (ok : pv.Ok P)
include ok
theorem und_ok {t : Nat} {d : TypeDesc} (h : pv.und t = some d) : P.underlying t = some d := by
  unfold Pv.und at h
  unfold Program.underlying
  cases hi : pv.info t with
  | none => simp [hi] at h
  | some i =>
    rw [ok.ty t i hi]
    simp only [hi] at h
    obtain ⟨desc,str,size,bytes,hp,al,fa,z,cmp,ms⟩ := i
    cases desc with
    | named nm u =>
      simp only at h
      cases hu : pv.info u with
      | none => simp [hu] at h
      | some j => rw [hu] at h; simp only [ok.ty u j hu]; simpa using h
    | _ => simpa using h
theorem run_und {t : Nat} {d : TypeDesc} (h : pv.und t = some d) (w : World) : (underlying t).run P w = .ok d w := by
  simp [underlying,und_ok ok h]
theorem run_info {t : Nat} {i : TypeInfo} (h : pv.info t = some i) (w : World) : (typeInfo t).run P w = .ok i w := by
  simp [typeInfo,ok.ty t i h]
theorem run_size {t n : Nat} (h : szOf pv t = some n) (w : World) : (sizeOf t).run P w = .ok n w := by
  unfold szOf at h
  cases hi : pv.info t with
  | none => simp [hi] at h
  | some i => simp only [hi,Option.some.injEq] at h; simp [sizeOf,run_info ok hi,h]
omit ok in
theorem size_of_info {t : Nat} {i : TypeInfo} (h : pv.info t = some i) : szOf pv t = some i.size := by simp [szOf,h]
def isAggD (d : TypeDesc) : Bool :=
  match d with
  | .struct _ | .array _ _ => true
  | _ => false
theorem run_agg {t : Nat} {d : TypeDesc} (h : pv.und t = some d) (w : World) : (isAgg t).run P w = .ok (isAggD d) w := by
  simp only [isAgg,Sem.run_bind,run_und ok h,Result.andThen_ok]
  cases d <;> rfl
theorem run_zero {t : Nat} {z : D} (h : zeroD pv t = some z) (w : World) : ∃ v,(zeroValue t).run P w = .ok v w /\ z = ofVal v := by
  unfold zeroD at h
  cases hi : pv.info t with
  | none => simp [hi] at h
  | some i =>
    rw [hi] at h
    cases hz : i.zero with
    | none => simp [hz] at h
    | some v => simp [hz] at h; exact ⟨v,by simp [zeroValue,run_info ok hi,hz],h.symm⟩
end
theorem oneC_eq (v : Value) : oneC v = v.oneCell' := by cases v <;> rfl
theorem ofCell_ir (w : World) (Z : Nat -> Prop) (v : Value) (h : oneC v = true) : IR w Z (ofCell v) v := by
  cases v with
  | bool b => exact .bool b
  | int k n => exact .int k n
  | string s =>
    have := IR.str (w := w) (Z := Z) s.data.toList
    simpa [ofCell] using this
  | pointer a => cases a with
    | none => exact .pnil
    | some a => exact .junk _
  | slice a l c =>
    unfold ofCell
    split <;> first | contradiction | skip
    all_goals first | (rename_i h; cases h; exact .nul) | exact .junk _
  | nilFunc => exact .nilfn
  | nilIface => exact .nilif
  | _ => exact .junk _
theorem ofCells_spec {l : List Value} : ∀ {r : List D},ofCells l = some r -> r.length = l.length /\ (∀ v ∈ l,v.oneCell' = true) /\ ∀ (w : World) (Z : Nat -> Prop) (i : Nat) c v,r[i]? = some c -> l[i]? = some v -> IR w Z c v := by
  induction l with
  | nil => intro r h; simp [ofCells] at h; subst h; simp
  | cons v l ih =>
    intro r h
    unfold ofCells at h
    cases h1 : oneC v with
    | false => simp [h1] at h
    | true =>
      simp only [h1] at h
      cases hr : ofCells l with
      | none => simp [hr] at h
      | some r' =>
        simp only [hr,Option.some.injEq] at h
        subst h
        obtain ⟨hl,ho,hi⟩ := ih hr
        refine ⟨by simp [hl],?_,?_⟩
        · intro u hu
          rcases List.mem_cons.1 hu with rfl | hu
          · rw [<- oneC_eq]; exact h1
          · exact ho u hu
        · intro w Z i c u hc hu
          cases i with
          | zero => simp at hc hu; subst hc; subst hu; exact ofCell_ir w Z _ h1
          | succ i => simp at hc hu; exact hi w Z i c u hc hu
theorem ofVal_ir (w : World) (Z : Nat -> Prop) (v : Value) : IR w Z (ofVal v) v := by
  unfold ofVal
  split
  · rename_i cs
    split
    · rename_i l hl
      obtain ⟨h1,h2,h3⟩ := ofCells_spec hl
      have := IR.agg (w := w) (Z := Z) l cs.toList h1 h2 (h3 w Z)
      simpa using this
    · exact .junk _
  · rename_i hn
    by_cases h : oneC v = true
    · exact ofCell_ir w Z v h
    · cases v with
      | agg cs => exact absurd rfl (hn cs)
      | tuple vs => exact .junk _
      | _ => simp [oneC] at h
theorem ev_ok {w : World} {x : X} {fr : Fr} {a : Act} (h : FrR w x fr a.tmps) (o : Operand) : VR w x (fr.ev o) (a.eval o) := by
  cases o with
  | tmp t => exact h t
  | const v => exact .im _ _ (ofVal_ir _ _ v)
  | global g => exact .junk _ _ _
  | func f => exact .fn f [] [] rfl (by simp)
theorem nth_set (d e : D) : ∀ (l : List D) (t u : Nat),nth d (l.set t e) u = if u = t /\ t < l.length then e else nth d l u
  | [],t,u => by simp
  | x :: l,0,u => by cases u <;> simp [nth]
  | x :: l,t + 1,u => by
    cases u with
    | zero => simp [nth]
    | succ u => simp only [List.set_cons_succ,nth,List.length_cons,Nat.add_lt_add_iff_right,Nat.add_right_cancel_iff]; exact nth_set d e l t u
theorem nth_out (d : D) : ∀ (l : List D) (t : Nat),l.length <= t -> nth d l t = d
  | [],t,_ => by cases t <;> rfl
  | x :: l,0,h => by simp at h
  | x :: l,t + 1,h => nth_out d l t (by simpa using h)
theorem get_put (fr : Fr) (t u : Nat) (d : D) : (fr.put t d).get u = (if u = t then (if Nat.ble fr.n t = false /\ fr.loc.length <= t then .junk else d) else fr.get u) := by
  unfold Fr.put
  by_cases hut : u = t
  · subst hut
    simp only [if_true]
    cases hb : Nat.ble fr.n u with
    | false =>
      simp only [Fr.get,hb,nth_set,true_and]
      by_cases hl : u < fr.loc.length
      · rw [if_pos hl,if_neg (by omega)]
      · rw [if_neg hl,if_pos (by omega)]; exact nth_out _ _ _ (by omega)
    | true => simp [Fr.get,hb,look,Nat.beq_refl]
  · simp only [hut,if_false]
    have hq : Nat.beq u t = false := by
      cases hq : Nat.beq u t with
      | false => rfl
      | true => exact absurd (Nat.eq_of_beq_eq_true hq) hut
    cases hb : Nat.ble fr.n t <;> cases hbu : Nat.ble fr.n u <;> simp [Fr.get,hbu,look,hq,nth_set,hut]
theorem put_ok {w : World} {x : X} {fr : Fr} {a : Act} {d : D} {v : Value} (h : FrR w x fr a.tmps) (hd : VR w x d v) (dst : Option Nat)
    (hs : ∀ t,dst = some t -> t < a.tmps.size) : FrR w x (fr.putO dst d) (a.put dst v).tmps := by
  cases dst with
  | none => exact h
  | some t =>
    intro u
    have hu := h u
    have hs := hs t rfl
    simp only [Fr.putO,Act.put,get_put]
    have hreal : (a.tmps.setIfInBounds t v).getD u undef = if u = t then v else a.tmps.getD u undef := by
      simp only [Array.getD_eq_getD_getElem?,Array.getElem?_setIfInBounds]
      by_cases hut : t = u
      · subst hut; simp [hs]
      · have : ¬ u = t := fun e => hut e.symm
        simp [hut,this]
    rw [hreal]
    by_cases hut : u = t
    · simp only [hut,if_true]
      split
      · exact .junk _ _ _
      · exact hd
    · simp only [hut,if_false]; exact hu
end Go.V
namespace Go.V
open Go.RowKit
theorem wrapD_eq (k : IntKind) (n : Int) : wrapD k n = k.wrap n := by
  unfold wrapD
  split
  · rename_i m
    split
    · rename_i h
      have h := Nat.le_of_ble_eq_true h
      cases k <;> simp only [IntKind.wrap,maxN,IntKind.bits,IntKind.signed] at * <;> simp <;> omega
    · rfl
  · rename_i m
    split
    · rename_i h
      have h : ¬ minN k <= m := fun h' => by rw [Nat.ble_eq_true_of_le h'] at h; cases h
      cases k <;> simp only [IntKind.wrap,minN,IntKind.bits,IntKind.signed] at * <;> simp <;> omega
    · rfl
section
variable {w : World} {x : X}
theorem vr_int {k : IntKind} {n : Int} {v : Value} (h : VR w x (.int k n) v) : v = .int k n := by
  cases h with | im _ _ h => cases h; rfl
theorem vr_bool {b : Bool} {v : Value} (h : VR w x (.bool b) v) : v = .bool b := by
  cases h with | im _ _ h => cases h; rfl
theorem vr_str {s : List UInt8} {v : Value} (h : VR w x (.str s) v) : v = .string ⟨s.toArray⟩ := by
  cases h with | im _ _ h => cases h; rfl
theorem vr_nul {v : Value} (h : VR w x .nul v) : v = .slice none 0 0 := by
  cases h with | im _ _ h => cases h; rfl
theorem vr_pnil {v : Value} (h : VR w x .pnil v) : v = .pointer none := by
  cases h with | im _ _ h => cases h; rfl
theorem vr_agg {cs : List D} {v : Value} (h : VR w x (.agg cs) v) : ∃ vs : List Value,v = .agg vs.toArray /\ cs.length = vs.length /\ (∀ u ∈ vs,u.oneCell' = true) /\
    ∀ (i : Nat) c u,cs[i]? = some c -> vs[i]? = some u -> VR w x c u := by
  cases h with
  | im _ _ h => cases h with | agg _ vs hl h1 hr => exact ⟨vs,rfl,hl,h1,fun i c u hc hu => .im _ _ (hr i c u hc hu)⟩
  | agg _ vs hl h1 hr => exact ⟨vs,rfl,hl,h1,hr⟩
theorem vr_tup {cs : List D} {v : Value} (h : VR w x (.tup cs) v) : ∃ vs : List Value,v = .tuple vs.toArray /\ cs.length = vs.length /\
    ∀ (i : Nat) c u,cs[i]? = some c -> vs[i]? = some u -> VR w x c u := by
  cases h with
  | im _ _ h => cases h with | tup _ vs hl hr => exact ⟨vs,rfl,hl,fun i c u hc hu => .im _ _ (hr i c u hc hu)⟩
  | tup _ vs hl hr => exact ⟨vs,rfl,hl,hr⟩
theorem vr_fn {f : Nat} {cs : List D} {v : Value} (h : VR w x (.fn f cs) v) : ∃ vs : List Value,v = .func (.func f) #[] vs.toArray /\ cs.length = vs.length /\
    ∀ (i : Nat) c u,cs[i]? = some c -> vs[i]? = some u -> VR w x c u := by
  cases h with
  | im _ _ h => cases h
  | fn _ _ vs hl hr => exact ⟨vs,rfl,hl,hr⟩
end
theorem pick {p : Nat -> Value -> Prop} : ∀ (n : Nat),(∀ j,j < n -> ∃ u,p j u) -> ∃ us : List Value,us.length = n /\ ∀ (j : Nat) u,us[j]? = some u -> p j u
  | 0,_ => ⟨[],rfl,by simp⟩
  | n + 1,h => by
    obtain ⟨us,hl,hp⟩ := pick n fun j hj => h j (by omega)
    obtain ⟨u,hu⟩ := h n (by omega)
    refine ⟨us ++ [u],by simp [hl],fun j v hv => ?_⟩
    rcases Nat.lt_trichotomy j n with hj | hj | hj
    · rw [List.getElem?_append_left (by omega)] at hv; exact hp j v hv
    · subst hj; rw [<- hl] at hv; simp at hv; subst hv; exact hu
    · rw [List.getElem?_eq_none (by simp; omega)] at hv; cases hv
def CellsAt (w : World) (x : X) (b o : Nat) (c : List D) : Prop :=
  ∀ (j : Nat) d,c[j]? = some d -> ∃ u,w.cell? ⟨b,o + j,none⟩ = some u /\ u.oneCell' = true /\ VR w x d u
theorem CellsAt.drop {w : World} {x : X} {b o : Nat} {c : List D} (h : CellsAt w x b o c) (n : Nat) : CellsAt w x b (o + n) (c.drop n) := by
  intro j d hd
  rw [List.getElem?_drop] at hd
  have := h (n + j) d hd
  rwa [show o + (n + j) = o + n + j by omega] at this
theorem CellsAt.take {w : World} {x : X} {b o : Nat} {c : List D} (h : CellsAt w x b o c) (n : Nat) : CellsAt w x b o (c.take n) := by
  intro j d hd
  rw [List.getElem?_take] at hd
  split at hd
  · exact h j d hd
  · cases hd
theorem CellsAt.list {w : World} {x : X} {b o : Nat} {c : List D} (h : CellsAt w x b o c) : ∃ us : List Value,us.length = c.length /\
    (∀ (j : Nat) u,us[j]? = some u -> w.cell? ⟨b,o + j,none⟩ = some u) /\ (∀ u ∈ us,u.oneCell' = true) /\ ∀ (j : Nat) d u,c[j]? = some d -> us[j]? = some u -> VR w x d u := by
  obtain ⟨us,hl,hp⟩ := pick (p := fun j u => ∃ d,c[j]? = some d /\ w.cell? ⟨b,o + j,none⟩ = some u /\ u.oneCell' = true /\ VR w x d u) c.length fun j hj => by
    obtain ⟨u,hu⟩ := h j c[j] (List.getElem?_eq_getElem hj)
    exact ⟨u,c[j],List.getElem?_eq_getElem hj,hu⟩
  refine ⟨us,hl,fun j u hu => ?_,fun u hu => ?_,fun j d u hd hu => ?_⟩
  · obtain ⟨_,_,h,_⟩ := hp j u hu; exact h
  · obtain ⟨j,hj⟩ := List.getElem?_of_mem hu
    obtain ⟨_,_,_,h,_⟩ := hp j u hj; exact h
  · obtain ⟨d',hd',_,_,h⟩ := hp j u hu
    rw [hd] at hd'; cases hd'; exact h
theorem run_loadRow {P : Program} {w : World} {b o : Nat} {us : List Value} (h : ∀ (j : Nat) u,us[j]? = some u -> w.cell? ⟨b,o + j,none⟩ = some u) :
    (loadCells ⟨b,o,none⟩ us.length).run P w = .ok us.toArray w := by
  refine run_loadCells_list w ⟨b,o,none⟩ us fun j v hv => ?_
  have := h j v hv
  unfold Addr.add
  split
  · rename_i hj; subst hj; simpa using this
  · exact this
section
variable {pv : Pv} {P : Program} (ok : pv.Ok P)
include ok
theorem take_ok {w : World} {x : X} {b o t : Nat} {c : List D} {d : D} (hc : CellsAt w x b o c) (h : takeD pv t c = some d) :
    ∃ v,(loadVar t ⟨b,o,none⟩).run P w = .ok v w /\ VR w x d v := by
  unfold takeD at h
  have agg : ∀ td,pv.und t = some td -> isAggD td = true -> (szOf pv t).bind (fun n => if n <= c.length then some (D.agg (c.take n)) else none) = some d ->
      ∃ v,(loadVar t ⟨b,o,none⟩).run P w = .ok v w /\ VR w x d v := by
    intro td hu ha h
    cases hs : szOf pv t with
    | none => simp [hs] at h
    | some n =>
      simp only [hs,Option.bind_some] at h
      split at h
      · rename_i hn
        simp only [Option.some.injEq] at h; subst h
        obtain ⟨us,hl,h1,h2,h3⟩ := (hc.take n).list
        have hln : us.length = n := by simp [hl]; omega
        refine ⟨.agg us.toArray,?_, .agg _ us hl.symm h2 h3⟩
        simp only [loadVar,Sem.run_bind,run_agg ok hu,Result.andThen_ok,ha,if_true,run_size ok hs]
        have := run_loadRow (P := P) h1
        rw [hln] at this
        simp [this]
      · cases h
  split at h
  · cases h
  · rename_i hu; exact agg _ hu rfl h
  · rename_i hu; exact agg _ hu rfl h
  · rename_i td h1 h2 hu
    have ha : isAggD td = false := by
      cases td <;> first | rfl | (exfalso; first | exact h1 _ rfl | exact h2 _ _ rfl)
    cases c with
    | nil => cases h
    | cons y l =>
      simp at h; subst h
      obtain ⟨u,hu1,hu2,hu3⟩ := hc 0 y rfl
      refine ⟨u,?_,hu3⟩
      simp only [Nat.add_zero] at hu1
      simp [loadVar,run_agg ok hu,ha,hu1]
theorem part_ok {w : World} {x : X} {t off : Nat} {cs : List D} {vs : List Value} {d : D} (hl : cs.length = vs.length) (h1 : ∀ u ∈ vs,u.oneCell' = true)
    (hr : ∀ (i : Nat) c u,cs[i]? = some c -> vs[i]? = some u -> VR w x c u) (h : partD pv t cs off = some d) :
    ∃ v,(part t vs.toArray off).run P w = .ok v w /\ VR w x d v := by
  unfold partD at h
  have agg : ∀ td,pv.und t = some td -> isAggD td = true -> (szOf pv t).bind (fun n => if off + n <= cs.length then some (D.agg ((cs.drop off).take n)) else none) = some d ->
      ∃ v,(part t vs.toArray off).run P w = .ok v w /\ VR w x d v := by
    intro td hu ha h
    cases hs : szOf pv t with
    | none => simp [hs] at h
    | some n =>
      simp only [hs,Option.bind_some] at h
      split at h
      · rename_i hn
        simp only [Option.some.injEq] at h; subst h
        refine ⟨.agg ((vs.drop off).take n).toArray,?_, .agg _ _ (by simp [hl]) (fun u hu => h1 u (List.mem_of_mem_drop (List.mem_of_mem_take hu))) ?_⟩
        · simp only [part,Sem.run_bind,run_agg ok hu,Result.andThen_ok,ha,if_true,run_size ok hs,Sem.run_pure]
          congr 2
          apply Array.ext'
          simp [List.extract_eq_take_drop]
        · intro i c u hc hu
          rw [List.getElem?_take] at hc hu
          split at hc
          · rename_i hi
            rw [if_pos hi] at hu
            rw [List.getElem?_drop] at hc hu
            exact hr _ c u hc hu
          · cases hc
      · cases h
  split at h
  · cases h
  · rename_i hu; exact agg _ hu rfl h
  · rename_i hu; exact agg _ hu rfl h
  · rename_i td h1' h2' hu
    have ha : isAggD td = false := by
      cases td <;> first | rfl | (exfalso; first | exact h1' _ rfl | exact h2' _ _ rfl)
    have hlt : off < cs.length := by
      rcases Nat.lt_or_ge off cs.length with h' | h'
      · exact h'
      · rw [List.getElem?_eq_none h'] at h; cases h
    obtain ⟨u,hu'⟩ : ∃ u,vs[off]? = some u := ⟨vs[off]'(by omega),List.getElem?_eq_getElem _⟩
    exact ⟨u,by simp [part,run_agg ok hu,ha,hu'],hr off d u h hu'⟩
end
end Go.V
namespace Go.V
open Go.RowKit
theorem run_bytes_eq (s t : List UInt8) : ((⟨s.toArray⟩ : ByteArray).toList == (⟨t.toArray⟩ : ByteArray).toList) = (s == t) := by
  rw [ByteArray.toList_eq,ByteArray.toList_eq]
theorem vr_pointer {w : World} {x : X} {k vr off : Nat} {v : Value} (h : VR w x (.ptr k vr off) v) : ∃ a,v = .pointer (some a) /\ (∃ p,x.β k = some p) /\
    (x.ver k = some vr -> ∃ b base,x.β k = some (b,base) /\ a = ⟨b,base + off,none⟩) := by
  cases h with
  | im _ _ h => cases h
  | ptr _ _ _ a hk hm h => exact ⟨a,rfl,hk,h⟩
theorem vr_mp {w : World} {x : X} {k : Nat} {v : Value} (h : VR w x (.mp k) v) : ∃ r,v = .map (some r) /\ (x.ver k = some 0 -> ∃ base,x.β k = some (r,base)) := by
  cases h with
  | im _ _ h => cases h
  | mp _ r hk h => exact ⟨r,rfl,h⟩
theorem vr_win {w : World} {x : X} {k vr off len s : Nat} {v : Value} (h : VR w x (.win k vr off len s) v) : ∃ a cap,v = .slice (some a) len cap /\ len <= cap /\ (∃ p,x.β k = some p) /\
    (∀ c,x.ver k = some c -> vr <= c) /\
    (x.ver k = some vr -> ∃ b base sz,x.β k = some (b,base) /\ rowSize w b = some sz /\ (cap = 0 \/ (a = ⟨b,base + off,none⟩ /\ base + off + cap * s <= sz))) := by
  cases h with
  | im _ _ h => cases h
  | win _ _ _ _ _ a cap hc hk hm h => exact ⟨a,cap,rfl,hc,hk,hm,h⟩
theorem vr_sl {w : World} {x : X} {es : List D} {v : Value} (h : VR w x (.sl es) v) : ∃ a cap,v = .slice a es.length cap /\ es.length <= cap /\
    (es = [] \/ ∃ b off s,a = some ⟨b,off,none⟩ /\ x.Z b /\ (∀ (i : Nat) e,es[i]? = some e -> e.cells? = some e.cells /\ e.cells.length = s) /\
      (∀ (i : Nat) e,es[i]? = some e -> CellsAt w x b (off + i * s) e.cells) /\
      ∃ f : Nat -> Nat -> Value,(∀ (i : Nat) e (j : Nat) c,es[i]? = some e -> e.cells[j]? = some c -> w.cell? ⟨b,off + (i * s + j),none⟩ = some (f i j) /\ (f i j).oneCell' = true) /\
        ∀ (i : Nat) e (j : Nat) c,es[i]? = some e -> e.cells[j]? = some c -> IR w x.Z c (f i j)) := by
  cases h with
  | im _ _ h =>
    cases h with
    | emp a cap => exact ⟨a,cap,rfl,by simp, .inl rfl⟩
    | sl _ b off cap s f hz hc hs hv hr =>
      refine ⟨_,cap,rfl,hc, .inr ⟨b,off,s,rfl,hz,hs,?_,f,hv,hr⟩⟩
      intro i e he j d hd
      obtain ⟨h1,h2⟩ := hv i e j d he hd
      exact ⟨f i j,by rw [<- h1]; congr 2; omega,h2, .im _ _ (hr i e j d he hd)⟩
theorem vr_ep {w : World} {x : X} {cs : List D} {v : Value} (h : VR w x (.ep cs) v) : ∃ b off,v = .pointer (some ⟨b,off,none⟩) /\ x.Z b /\ CellsAt w x b off cs /\
    ∃ f : Nat -> Value,(∀ (j : Nat) c,cs[j]? = some c -> w.cell? ⟨b,off + j,none⟩ = some (f j) /\ (f j).oneCell' = true) /\ ∀ (j : Nat) c,cs[j]? = some c -> IR w x.Z c (f j) := by
  cases h with
  | im _ _ h =>
    cases h with
    | ep _ b off f hz hv hr =>
      exact ⟨b,off,rfl,hz,fun j d hd => ⟨f j,(hv j d hd).1,(hv j d hd).2, .im _ _ (hr j d hd)⟩,f,hv,hr⟩
section
variable {pv : Pv} {P : Program} (ok : pv.Ok P)
include ok
theorem eq_ok (n : Nat) : (∀ {w : World} {x : X} {t : Nat} {d e : D} {u v : Value} {b : Bool},VR w x d u -> VR w x e v -> eqD pv n t d e = some b -> ∀ m,n <= m -> (Op.equalIn m t u v).run P w = .ok b w) /\
    (∀ {w : World} {x : X} {xs ys : List D} {us vs : List Value} {fs : List Field} {b : Bool},xs.length = us.length -> ys.length = vs.length -> (∀ u ∈ us,u.oneCell' = true) -> (∀ u ∈ vs,u.oneCell' = true) ->
      (∀ (i : Nat) c u,xs[i]? = some c -> us[i]? = some u -> VR w x c u) -> (∀ (i : Nat) c u,ys[i]? = some c -> vs[i]? = some u -> VR w x c u) ->
      eqFields pv n xs ys fs = some b -> ∀ m,n <= m -> (Op.eqFields m us.toArray vs.toArray fs).run P w = .ok b w) /\
    (∀ {w : World} {x : X} {t sz : Nat} {xs ys : List D} {us vs : List Value} {left i : Nat} {b : Bool},szOf pv t = some sz -> xs.length = us.length -> ys.length = vs.length -> (∀ u ∈ us,u.oneCell' = true) -> (∀ u ∈ vs,u.oneCell' = true) ->
      (∀ (i : Nat) c u,xs[i]? = some c -> us[i]? = some u -> VR w x c u) -> (∀ (i : Nat) c u,ys[i]? = some c -> vs[i]? = some u -> VR w x c u) ->
      eqElems pv n t sz xs ys left i = some b -> ∀ m,n <= m ->
      ((do
        for j in List.range' i left do
          if !(<- Op.equalIn m t (<- part t us.toArray (j * sz)) (<- part t vs.toArray (j * sz))) then return false
        pure true : Sem Bool)).run P w = .ok b w) := by
  induction n with
  | zero => refine ⟨?_,?_,?_⟩ <;> intros <;> rename_i h _ _ <;> simp [eqD,eqFields,eqElems] at h
  | succ n ih =>
    obtain ⟨ih1,ih2,ih3⟩ := ih
    refine ⟨?_,?_,?_⟩
    · intro w x t d e u v b hu hv h m hm
      obtain ⟨m,rfl⟩ : ∃ m',m = m' + 1 := ⟨m - 1,by omega⟩
      unfold eqD at h
      split at h
      · rename_i ht
        rw [vr_bool hu,vr_bool hv]
        simp only [Option.some.injEq] at h; subst h
        simp [Op.equalIn,run_und ok ht]
      · rename_i ht
        rw [vr_int hu,vr_int hv]
        split at h
        · rename_i hk; subst hk
          simp only [Option.some.injEq] at h; subst h
          simp [Op.equalIn,run_und ok ht]
        · cases h
      · rename_i ht
        rw [vr_str hu,vr_str hv]
        simp only [Option.some.injEq] at h; subst h
        simp only [Op.equalIn,Sem.run_bind,run_und ok ht,Result.andThen_ok,Sem.run_pure,beq_toListBytes,run_bytes_eq]
      · rename_i ht
        rw [vr_pnil hu,vr_pnil hv]
        simp only [Option.some.injEq] at h; subst h
        simp [Op.equalIn,run_und ok ht]
      · rename_i ht
        rw [vr_pnil hu]
        obtain ⟨a,rfl,_⟩ := vr_pointer hv
        simp only [Option.some.injEq] at h; subst h
        simp [Op.equalIn,run_und ok ht]
      · rename_i ht
        rw [vr_pnil hv]
        obtain ⟨a,rfl,_⟩ := vr_pointer hu
        simp only [Option.some.injEq] at h; subst h
        simp [Op.equalIn,run_und ok ht]
      · rename_i ht
        rw [vr_nul hu,vr_nul hv]
        simp only [Option.some.injEq] at h; subst h
        simp [Op.equalIn,run_und ok ht]
      · rename_i ht
        rw [vr_nul hv]
        obtain ⟨a,cap,rfl,_⟩ := vr_win hu
        simp only [Option.some.injEq] at h; subst h
        simp [Op.equalIn,run_und ok ht]
      · rename_i ht
        rw [vr_nul hv]
        obtain ⟨a,cap,rfl,_,h' | ⟨bb,off,s,rfl,_⟩⟩ := vr_sl hu
        · cases h'
        simp only [Option.some.injEq] at h; subst h
        simp [Op.equalIn,run_und ok ht]
      · rename_i fields xs ys ht
        obtain ⟨us,rfl,hl1,ho1,hr1⟩ := vr_agg hu
        obtain ⟨vs,rfl,hl2,ho2,hr2⟩ := vr_agg hv
        split at h
        · rename_i hq
          have hp := (ok.eqb t hq).1
          have hf : P.underlying t = some (.struct (P.fieldsOf t)) := by simp [Program.fieldsOf,und_ok ok ht]
          have hff : P.fieldsOf t = fields := by simp [Program.fieldsOf,und_ok ok ht]
          rw [run_equalIn_struct w m t _ _ hf hp,hff]
          exact ih2 hl1 hl2 ho1 ho2 hr1 hr2 h m (by omega)
        · cases h
      · rename_i len el xs ys ht
        obtain ⟨us,rfl,hl1,ho1,hr1⟩ := vr_agg hu
        obtain ⟨vs,rfl,hl2,ho2,hr2⟩ := vr_agg hv
        cases hs : szOf pv el with
        | none => simp [hs] at h
        | some sz =>
          simp only [hs,Option.bind_some] at h
          have := ih3 hs hl1 hl2 ho1 ho2 hr1 hr2 h m (by omega)
          simp only [Op.equalIn,Sem.run_bind,run_und ok ht,Result.andThen_ok,run_size ok hs]
          rw [Std.Legacy.Range.forIn_eq_forIn_range']
          simpa [Std.Legacy.Range.size] using this
      · cases h
    · intro w x xs ys us vs fs b hl1 hl2 ho1 ho2 hr1 hr2 h m hm
      cases fs with
      | nil => simp [eqFields] at h; subst h; simp [Op.eqFields]
      | cons f fs =>
        unfold eqFields at h
        unfold Op.eqFields
        split at h
        · rename_i hn
          simp only [hn,ne_eq,not_true_eq_false,if_false]
          exact ih2 hl1 hl2 ho1 ho2 hr1 hr2 h m (by omega)
        · rename_i hn
          simp only [ne_eq,hn,not_false_eq_true,if_true]
          split at h
          · rename_i d e hd he
            obtain ⟨u,hu1,hu2⟩ := part_ok ok hl1 ho1 hr1 hd
            obtain ⟨v,hv1,hv2⟩ := part_ok ok hl2 ho2 hr2 he
            simp only [Sem.run_bind,hu1,hv1,Result.andThen_ok]
            split at h
            · rename_i hq
              rw [ih1 hu2 hv2 hq m (by omega)]
              simpa using ih2 hl1 hl2 ho1 ho2 hr1 hr2 h m (by omega)
            · rename_i hq
              rw [ih1 hu2 hv2 hq m (by omega)]
              simp only [Option.some.injEq] at h; subst h
              simp
            · cases h
          · cases h
    · intro w x t sz xs ys us vs left i b hsz hl1 hl2 ho1 ho2 hr1 hr2 h m hm
      cases left with
      | zero => simp [eqElems] at h; subst h; simp
      | succ left =>
        unfold eqElems at h
        split at h
        · rename_i d e hd he
          obtain ⟨u,hu1,hu2⟩ := part_ok ok hl1 ho1 hr1 hd
          obtain ⟨v,hv1,hv2⟩ := part_ok ok hl2 ho2 hr2 he
          simp only [List.range'_succ,List.forIn_cons,Sem.run_bind,hu1,hv1,Result.andThen_ok]
          split at h
          · rename_i hq
            rw [ih1 hu2 hv2 hq m (by omega)]
            have := ih3 hsz hl1 hl2 ho1 ho2 hr1 hr2 h m (by omega)
            simpa using this
          · rename_i hq
            rw [ih1 hu2 hv2 hq m (by omega)]
            simp only [Option.some.injEq] at h; subst h
            simp
          · cases h
        · cases h
end
end Go.V
namespace Go.V
open Go.RowKit
theorem guard_other {P : Program} {w : World} (op : BinOp) (t : TypeId) (xo yo : Operand) (a b : Value) (h1 : ¬ (a = .nilIface /\ b = .nilIface)) (h2 : ∀ c d, ¬ (a = .agg c /\ b = .agg d)) :
    (eqGuard op t xo yo a b).run P w = .ok () w := by
  cases op <;> first
    | rfl
    | (unfold eqGuard
       simp only [Bool.not_true,Bool.false_eq_true,if_false]
       split
       · exact absurd ⟨rfl,rfl⟩ h1
       · exact absurd ⟨rfl,rfl⟩ (h2 _ _)
       · rfl)
theorem bits_ok {P : Program} {w : World} {op : BinOp} {k : IntKind} {a b : Int} {d : D} (h : bitsD op k a b = some d) : ∃ n,d = .int k n /\ (Op.intBits op k a b).run P w = .ok (.int k n) w := by
  unfold bitsD at h
  split at h <;> first | (cases h; refine ⟨_,rfl,?_⟩; simp [Op.intBits,wrapD_eq]; done) | (cases h; done)
theorem cmp_ok {P : Program} {w : World} {op : BinOp} {a b : Int} {d : D} (h : cmpInt op a b = some d) : ∃ r,d = .bool r /\ (Op.intCmp op a b).run P w = .ok (.bool r) w := by
  unfold cmpInt at h
  split at h <;> first | (cases h; exact ⟨_,rfl,rfl⟩) | (cases h; done)
theorem int_ok {P : Program} {w : World} {x : X} {op : BinOp} {t : TypeId} {k : IntKind} {a b : Int} {d : D} (hs : op ≠ .shl) (hs' : op ≠ .shr) (h : intD op k a b = some d) :
    ∃ v,(binOp op t (.int k a) (.int k b)).run P w = .ok v w /\ VR w x d v := by
  cases op <;> simp only [binOp,ne_eq,not_true_eq_false,if_false] <;> simp only [intD] at h <;> first
    | exact absurd rfl hs
    | exact absurd rfl hs'
    | (cases h; exact ⟨_,rfl,by rw [wrapD_eq]; exact .im _ _ (.int _ _)⟩)
    | (split at h
       · cases h
       · rename_i hb; cases h
         refine ⟨_,by simp only [Op.intDiv,hb,if_false]; rfl,?_⟩
         first | exact .im _ _ (.int _ _) | (rw [wrapD_eq]; exact .im _ _ (.int _ _)))
    | (obtain ⟨n,rfl,hr⟩ := bits_ok (P := P) (w := w) h; exact ⟨_,hr, .im _ _ (.int _ _)⟩)
    | (obtain ⟨n,rfl,hr⟩ := cmp_ok (P := P) (w := w) h; exact ⟨_,hr, .im _ _ (.bool _)⟩)
theorem shift_ok {P : Program} {w : World} {x : X} {op : BinOp} {t : TypeId} {k k' : IntKind} {a b : Int} {d : D} (hs : op = .shl \/ op = .shr) (h : shiftD op k a b = some d) :
    ∃ v,(binOp op t (.int k a) (.int k' b)).run P w = .ok v w /\ VR w x d v := by
  unfold shiftD at h
  split at h
  · cases h
  · rename_i hb
    rcases hs with rfl | rfl <;> simp only [Option.some.injEq] at h <;> subst h <;>
      refine ⟨_,by simp only [binOp,Op.shift,hb,if_false]; rfl,?_⟩ <;> first | exact .im _ _ (.int _ _) | (rw [wrapD_eq]; exact .im _ _ (.int _ _))
theorem str_ok {P : Program} {w : World} {x : X} {op : BinOp} {t : TypeId} {a b : List UInt8} {d : D} (h : strD op a b = some d) :
    ∃ v,(binOp op t (.string ⟨a.toArray⟩) (.string ⟨b.toArray⟩)).run P w = .ok v w /\ VR w x d v := by
  have e : binOp op t (.string ⟨a.toArray⟩) (.string ⟨b.toArray⟩) = Op.stringOp op ⟨a.toArray⟩ ⟨b.toArray⟩ := by cases op <;> rfl
  rw [e]
  have l1 : (⟨a.toArray⟩ : ByteArray).toList = a := by rw [ByteArray.toList_eq]
  have l2 : (⟨b.toArray⟩ : ByteArray).toList = b := by rw [ByteArray.toList_eq]
  by_cases hop : op = .add
  · subst hop
    simp only [strD] at h
    split at h
    · rename_i hb; cases h
      have hm : ¬ ((((⟨a.toArray⟩ : ByteArray).size + (⟨b.toArray⟩ : ByteArray).size : Nat) : Int) > IntKind.i64.max) := by
        have h1 : (⟨a.toArray⟩ : ByteArray).size = a.length := by simp [ByteArray.size]
        have h2 : (⟨b.toArray⟩ : ByteArray).size = b.length := by simp [ByteArray.size]
        rw [h1,h2]
        simp only [IntKind.max,IntKind.signed,IntKind.bits,if_true]
        omega
      refine ⟨.string ⟨(a ++ b).toArray⟩,?_, .im _ _ (.str _)⟩
      simp only [Op.stringOp,hm,if_false,Sem.run_pure]
      congr 2
    · cases h
  · cases op <;> simp only [strD] at h <;> first
      | exact absurd rfl hop
      | (cases h; done)
      | (cases h; exact ⟨_,by simp only [Op.stringOp,l1,l2]; rfl, .im _ _ (.bool _)⟩)
section
variable {pv : Pv} {P : Program} (ok : pv.Ok P)
include ok
theorem equal_ok {w : World} {x : X} {t : Nat} {d e : D} {u v : Value} {b : Bool} (hu : VR w x d u) (hv : VR w x e v) (h : equalD pv t d e = some b) (op : BinOp) (xo yo : Operand) :
    (eqGuard op t xo yo u v).run P w = .ok () w /\ (Op.equal t u v).run P w = .ok b w := by
  unfold equalD at h
  split at h
  · cases h
  · rename_i hg
    have heq := (eq_ok ok eqFuel).1 hu hv h Op.maxDepth (by decide)
    have hgu : (eqGuard op t xo yo u v).run P w = .ok () w := by
      by_cases ha : aggD d = true
      · have hq : pv.eqb.contains t = true := by
          simp only [ha,Bool.true_and,Bool.not_eq_true',Bool.not_eq_false] at hg; simpa using hg
        cases d with
        | agg cs =>
          obtain ⟨us,rfl,_⟩ := vr_agg hu
          cases v with
          | agg vs => exact run_eqGuard_agg w op t xo yo _ _ (ok.eqb t hq).2
          | _ => exact guard_other _ _ _ _ _ _ (by simp) (by simp)
        | _ => simp [aggD] at ha
      · refine guard_other _ _ _ _ _ _ ?_ ?_
        · rintro ⟨rfl,rfl⟩
          unfold eqFuel eqD at h
          split at h <;> first
            | (have := vr_bool hu; cases this) | (have := vr_int hu; cases this) | (have := vr_str hu; cases this) | (have := vr_pnil hu; cases this) | (have := vr_nul hu; cases this)
            | (obtain ⟨_,h',_⟩ := vr_pointer hu; cases h') | (obtain ⟨_,_,h',_⟩ := vr_win hu; cases h') | (obtain ⟨_,_,h',_⟩ := vr_sl hu; cases h') | (obtain ⟨_,h',_⟩ := vr_agg hu; cases h') | cases h
        · rintro c d' ⟨rfl,rfl⟩
          unfold eqFuel eqD at h
          split at h <;> first
            | (exfalso; exact ha rfl)
            | (have := vr_bool hu; cases this) | (have := vr_int hu; cases this) | (have := vr_str hu; cases this) | (have := vr_pnil hu; cases this) | (have := vr_nul hu; cases this)
            | (obtain ⟨_,h',_⟩ := vr_pointer hu; cases h') | (obtain ⟨_,_,h',_⟩ := vr_win hu; cases h') | (obtain ⟨_,_,h',_⟩ := vr_sl hu; cases h') | cases h
    exact ⟨hgu,heq⟩
end
end Go.V
namespace Go.V
open Go.RowKit
def plainV (v : Value) : Prop := (∀ k n,v ≠ .int k n) /\ (∀ s,v ≠ .string s) /\ (∀ k b,v ≠ .float k b) /\ (∀ k a b,v ≠ .complex k a b)
def plainD : D -> Bool
  | .int _ _ | .str _ | .junk => false
  | _ => true
theorem vr_plain {w : World} {x : X} {d : D} {v : Value} (h : VR w x d v) (hp : plainD d = true) : plainV v := by
  unfold plainV
  cases d with
  | int k n => cases hp
  | str s => cases hp
  | junk => cases hp
  | bool b => rw [vr_bool h]; simp
  | nul => rw [vr_nul h]; simp
  | pnil => rw [vr_pnil h]; simp
  | sl es => obtain ⟨_,_,rfl,_⟩ := vr_sl h; simp
  | win k v o l s => obtain ⟨_,_,rfl,_⟩ := vr_win h; simp
  | ptr k v o => obtain ⟨_,rfl,_⟩ := vr_pointer h; simp
  | mp k => obtain ⟨_,rfl,_⟩ := vr_mp h; simp
  | ep c => obtain ⟨_,_,rfl,_⟩ := vr_ep h; simp
  | fn f c => obtain ⟨_,rfl,_⟩ := vr_fn h; simp
  | nilfn => cases h with | im _ _ h => cases h; simp
  | nilif => cases h with | im _ _ h => cases h; simp
  | agg c => obtain ⟨_,rfl,_⟩ := vr_agg h; simp
  | tup c => obtain ⟨_,rfl,_⟩ := vr_tup h; simp
theorem binOp_eql {t : TypeId} {u v : Value} (h : plainV u) :
    binOp .eql t u v = (Op.equal t u v >>= fun b => pure (.bool b)) /\ binOp .neq t u v = (Op.equal t u v >>= fun b => pure (.bool (!b))) := by
  obtain ⟨h1,h2,h3,h4⟩ := h
  cases u <;> first
    | exact absurd rfl (h1 _ _) | exact absurd rfl (h2 _) | exact absurd rfl (h3 _ _) | exact absurd rfl (h4 _ _ _)
    | (cases v <;> exact ⟨rfl,rfl⟩)
section
variable {pv : Pv} {P : Program} (ok : pv.Ok P)
include ok
theorem bin_ok {w : World} {x : X} {op : BinOp} {t : Nat} {d e r : D} {u v : Value} (xo yo : Operand) (hu : VR w x d u) (hv : VR w x e v) (h : binD pv op t d e = some r) :
    ∃ z,((eqGuard op t xo yo u v >>= fun _ => binOp op t u v : Sem Value)).run P w = .ok z w /\ VR w x r z := by
  unfold binD at h
  split at h
  · rename_i k a k' b
    rw [vr_int hu,vr_int hv]
    have hg := guard_other (P := P) (w := w) op t xo yo (.int k a) (.int k' b) (by simp) (by simp)
    simp only [Sem.run_bind,hg,Result.andThen_ok]
    split at h
    · exact shift_ok (.inl rfl) h
    · exact shift_ok (.inr rfl) h
    · rename_i h1 h2
      split at h
      · rename_i hk; subst hk; exact int_ok h1 h2 h
      · cases h
  · rename_i a b
    rw [vr_str hu,vr_str hv]
    have hg := guard_other (P := P) (w := w) op t xo yo (.string ⟨a.toArray⟩) (.string ⟨b.toArray⟩) (by simp) (by simp)
    simp only [Sem.run_bind,hg,Result.andThen_ok]
    exact str_ok h
  · rename_i h1 h2
    have key : ∀ b,equalD pv t d e = some b -> (eqGuard op t xo yo u v).run P w = .ok () w /\ (Op.equal t u v).run P w = .ok b w /\
        (binOp .eql t u v = (Op.equal t u v >>= fun b => pure (.bool b)) /\ binOp .neq t u v = (Op.equal t u v >>= fun b => pure (.bool (!b)))) := by
      intro b hb
      obtain ⟨hg,he⟩ := equal_ok ok hu hv hb op xo yo
      refine ⟨hg,he,binOp_eql ?_⟩
      have hb' := hb
      unfold equalD at hb
      split at hb
      · cases hb
      · unfold eqFuel eqD at hb
        refine vr_plain hu ?_
        cases hpd : plainD d with
        | true => rfl
        | false =>
          exfalso
          cases d <;> simp [plainD] at hpd <;> (split at hb <;> first | (cases hb; done) | (exact h1 _ _ _ _ rfl rfl) | (exact h2 _ _ rfl rfl) | simp_all)
    split at h
    · cases hb : equalD pv t d e with
      | none => simp [hb] at h
      | some b =>
        simp only [hb,Option.map_some,Option.some.injEq] at h; subst h
        obtain ⟨hg,he,hq,_⟩ := key b hb
        exact ⟨.bool b,by simp [hg,hq,he], .im _ _ (.bool _)⟩
    · cases hb : equalD pv t d e with
      | none => simp [hb] at h
      | some b =>
        simp only [hb,Option.map_some,Option.some.injEq] at h; subst h
        obtain ⟨hg,he,_,hq⟩ := key b hb
        exact ⟨.bool (!b),by simp [hg,hq,he], .im _ _ (.bool _)⟩
    · cases h
omit ok in
theorem un_ok {w : World} {x : X} {op : UnOp} {d r : D} {u : Value} (hu : VR w x d u) (h : unD op d = some r) : ∃ z,(Op.unary op u).run P w = .ok z w /\ VR w x r z := by
  unfold unD at h
  split at h
  · rename_i k n
    rw [vr_int hu]; cases h
    exact ⟨_,rfl,by rw [wrapD_eq]; exact .im _ _ (.int _ _)⟩
  · rename_i k n
    rw [vr_int hu]
    obtain ⟨m,rfl,hr⟩ := bits_ok (P := P) (w := w) h
    exact ⟨_,hr, .im _ _ (.int _ _)⟩
  · rw [vr_bool hu]; cases h
    exact ⟨_,rfl, .im _ _ (.bool _)⟩
  · cases h
omit ok in
theorem bound_ok {w : World} {x : X} {d : D} {v : Value} {y n : Nat} (hv : VR w x d v) (h : boundD d y = some n) (code : BoundsCode) : (Instr.sliceBound v y code).run P w = .ok n w /\ n <= y := by
  unfold boundD at h
  split at h
  · rename_i k i
    rw [vr_int hv]
    split at h
    · rename_i hi; cases h
      refine ⟨?_,by omega⟩
      simp [Instr.sliceBound,asIntOf,hi]
    · cases h
  · cases h
omit ok in
theorem bounds_ok {w : World} {x : X} {len cap l h : Nat} {lo hi : Option D} {lo' hi' : Option Value} (isS : Bool) (hc : len <= cap) (hlo : ∀ d v,lo = some d -> lo' = some v -> VR w x d v) (hhi : ∀ d v,hi = some d -> hi' = some v -> VR w x d v)
    (el : lo.isSome = lo'.isSome) (eh : hi.isSome = hi'.isSome) (hb : boundsD len lo hi = some (l,h)) :
    (Instr.sliceBounds isS len cap lo' hi' none).run P w = .ok (l,h,cap) w /\ l <= h /\ h <= len := by
  unfold boundsD at hb
  obtain ⟨hh,h1,h2⟩ := Option.bind_eq_some_iff.1 hb
  obtain ⟨ll,h3,h4⟩ := Option.map_eq_some_iff.1 h2
  simp only [Prod.mk.injEq] at h4
  obtain ⟨rfl,rfl⟩ := h4
  have hle : hh <= len := by
    cases hi with
    | none => cases h1; exact Nat.le_refl _
    | some d => exact (bound_ok (P := P) (hhi d (hi'.getD default) rfl (by cases hi' <;> simp at eh ⊢)) h1 .sliceB).2
  have hle' : ll <= hh := by
    cases lo with
    | none => cases h3; exact Nat.zero_le _
    | some d => exact (bound_ok (P := P) (hlo d (lo'.getD default) rfl (by cases lo' <;> simp at el ⊢)) h3 .sliceB).2
  refine ⟨?_,hle',hle⟩
  have hiOk : ∀ v,hi' = some v -> (Instr.sliceBound v cap (if isS then .sliceAcap else .sliceAlen)).run P w = .ok hh w := by
    intro v hv
    cases hi with
    | none => subst hv; simp at eh
    | some d =>
      have h1' : boundD d cap = some hh := by
        simp only [optBound] at h1
        unfold boundD at h1 ⊢
        split at h1
        · split at h1
          · rename_i hq; cases h1; rw [if_pos (by omega)]
          · cases h1
        · cases h1
      exact (bound_ok (P := P) (hhi d v rfl hv) h1' _).1
  have loOk : ∀ v,lo' = some v -> (Instr.sliceBound v hh .sliceB).run P w = .ok ll w := by
    intro v hv
    cases lo with
    | none => subst hv; simp at el
    | some d => exact (bound_ok (P := P) (hlo d v rfl hv) h3 _).1
  have hiNo : hi' = none -> hh = len := by
    intro hv; subst hv
    cases hi with
    | none => cases h1; rfl
    | some d => simp at eh
  have loNo : lo' = none -> ll = 0 := by
    intro hv; subst hv
    cases lo with
    | none => cases h3; rfl
    | some d => simp at el
  unfold Instr.sliceBounds
  cases hi' with
  | none =>
    obtain rfl := hiNo rfl
    cases lo' with
    | none => obtain rfl := loNo rfl; rfl
    | some v => simp [loOk v rfl]
  | some u =>
    have h5 := hiOk u rfl
    cases lo' with
    | none => obtain rfl := loNo rfl; simp [h5]
    | some v => simp [h5,loOk v rfl]
end
end Go.V
namespace Go.V
open Go.RowKit
structure Nx (w : World) (st : St) (β : Nat -> Option (Nat × Nat)) (Z : Nat -> Prop) (w' : World) (st' : St) (β' : Nat -> Option (Nat × Nat)) (Z' : Nat -> Prop) : Prop where
  sim : Sim w' st' β' Z'
  keeps : Keeps w (st.x β Z) w' (st'.x β' Z')
  evo : Evo (wrt st β) w w'
  fresh : ∀ k b base,β' k = some (b,base) -> (∃ base',β k = some (b,base')) \/ w.heap.size <= b
  zfresh : ∀ b,Z' b -> Z b \/ w.heap.size <= b
  len : st.bs.length <= st'.bs.length
  flr : st'.flr = st.flr
  ro : st'.ro = st.ro
  low : ∀ k,k < st.ro -> st'.bs[k]? = st.bs[k]? /\ β' k = β k
  old : ∀ k,k < st.bs.length -> β k = none -> β' k = none /\ st'.bs[k]? = st.bs[k]?
theorem BoxOk.keep {w w' : World} {x x' : X} {b base : Nat} {bx : Box} (h : BoxOk w x b base bx) (hk : Keeps w x w' x') (hb : w'.heap[b]? = w.heap[b]?) : BoxOk w' x' b base bx := by
  cases bx with
  | mem v a cells =>
    obtain ⟨c,el,fr,h1,h2,h3,h4⟩ := h
    refine ⟨c,el,fr,hb.trans h1,h2,h3,fun j d hd => ?_⟩
    obtain ⟨u,hu1,hu2,hu3⟩ := h4 j d hd
    exact ⟨u,hu1,hu2,hu3.mono hk⟩
  | iter s pos => exact ⟨h.1,hb.trans h.2⟩
  | map es =>
    obtain ⟨h0,en,cl,h1,h2⟩ := h
    exact ⟨h0,en,cl,hb.trans h1,h2⟩
  | dead => exact h
theorem Nx.same {w : World} {st : St} {β : Nat -> Option (Nat × Nat)} {Z : Nat -> Prop} (h : Sim w st β Z) : Nx w st β Z w st β Z :=
  ⟨h,Keeps.refl _ _,Evo.refl _ _,fun _ _ base hb => .inl ⟨base,hb⟩,fun _ hz => .inl hz,Nat.le_refl _,rfl,rfl,fun _ _ => ⟨rfl,rfl⟩,fun _ _ h => ⟨h,rfl⟩⟩
theorem Nx.trans {w1 w2 w3 : World} {st1 st2 st3 : St} {β1 β2 β3 : Nat -> Option (Nat × Nat)} {Z1 Z2 Z3 : Nat -> Prop} (h : Nx w1 st1 β1 Z1 w2 st2 β2 Z2) (g : Nx w2 st2 β2 Z2 w3 st3 β3 Z3) :
    Nx w1 st1 β1 Z1 w3 st3 β3 Z3 where
  sim := g.sim
  keeps := h.keeps.trans g.keeps
  evo := by
    refine h.evo.trans g.evo (fun _ hm => hm) fun b hb hm => ?_
    obtain ⟨k,base,hk,hro⟩ := hm
    rcases h.fresh k b base hk with ⟨base',hb'⟩ | hlt
    · exact ⟨k,base',hb',by rw [<- h.ro]; exact hro⟩
    · omega
  fresh k b base hb := by
    rcases g.fresh k b base hb with ⟨base',hb'⟩ | hlt
    · exact h.fresh k b base' hb'
    · exact .inr (Nat.le_trans h.evo.size hlt)
  zfresh b hz := by
    rcases g.zfresh b hz with hz | hlt
    · exact h.zfresh b hz
    · exact .inr (Nat.le_trans h.evo.size hlt)
  len := Nat.le_trans h.len g.len
  flr := g.flr.trans h.flr
  ro := g.ro.trans h.ro
  low k hk := by
    obtain ⟨h1,h2⟩ := h.low k hk
    obtain ⟨g1,g2⟩ := g.low k (by rw [h.ro]; exact hk)
    exact ⟨g1.trans h1,g2.trans h2⟩
  old k hk h0 := by
    obtain ⟨h1,h2⟩ := h.old k hk h0
    obtain ⟨g1,g2⟩ := g.old k (Nat.lt_of_lt_of_le hk h.len) h1
    exact ⟨g1,g2.trans h2⟩
theorem Nx.still {w w' : World} {st : St} {β : Nat -> Option (Nat × Nat)} {Z : Nat -> Prop} (h : Sim w st β Z) (hh : w'.heap = w.heap) (ho : w'.os = w.os) (ht : w'.tape = w.tape) (hp : w'.output = w.output) :
    Nx w st β Z w' st β Z := by
  have hk : Keeps w (st.x β Z) w' (st.x β Z) :=
    ⟨fun _ p hp => ⟨p,hp⟩,fun b hb => ⟨hb,by rw [hh]⟩,fun _ c _ _ hc => ⟨c,hc,Nat.le_refl _⟩,fun _ _ _ _ _ _ hb => ⟨hb,by simp [rowSize,hh]⟩⟩
  refine ⟨⟨h.dom,fun k b base hb => by rw [hh]; exact h.lt k b base hb,h.inj,h.zd,fun b hb => by rw [hh]; exact h.zl b hb,?_,h.flr,h.ro⟩,hk,⟨ho,ht,hp,by rw [hh]; exact Nat.le_refl _,fun b _ _ => by rw [hh]⟩,
    fun _ _ base hb => .inl ⟨base,hb⟩,fun _ hz => .inl hz,Nat.le_refl _,rfl,rfl,fun _ _ => ⟨rfl,rfl⟩,fun _ _ h => ⟨h,rfl⟩⟩
  intro k b base bx hb hbx
  exact (h.box k b base bx hb hbx).keep hk (by rw [hh])
def bpush (β : Nat -> Option (Nat × Nat)) (n b : Nat) : Nat -> Option (Nat × Nat) := fun k => if k = n then some (b,0) else β k
theorem ver_push (st : St) (bx : Box) (k : Nat) (hk : k < st.bs.length) : (st.push bx).ver k = st.ver k := by
  simp [St.ver,St.push,List.getElem?_append_left hk]
theorem rowSize_eq {w w' : World} {b : Nat} (h : w'.heap[b]? = w.heap[b]?) : rowSize w' b = rowSize w b := by simp [rowSize,h]
theorem Nx.push {w w' : World} {st : St} {β : Nat -> Option (Nat × Nat)} {Z : Nat -> Prop} (h : Sim w st β Z) (o : Obj) (hh : w'.heap = w.heap.push o) (ho : w'.os = w.os) (ht : w'.tape = w.tape) (hp : w'.output = w.output) (bx : Box)
    (hb : Keeps w (st.x β Z) w' ((st.push bx).x (bpush β st.bs.length w.heap.size) Z) -> BoxOk w' ((st.push bx).x (bpush β st.bs.length w.heap.size) Z) w.heap.size 0 bx) :
    Nx w st β Z w' (st.push bx) (bpush β st.bs.length w.heap.size) Z := by
  have hold : ∀ b,b < w.heap.size -> w'.heap[b]? = w.heap[b]? := by
    intro b hb
    rw [hh,Array.getElem?_push,if_neg (by omega)]
  have hk : Keeps w (st.x β Z) w' ((st.push bx).x (bpush β st.bs.length w.heap.size) Z) := by
    have hdm : ∀ k p,β k = some p -> k < st.bs.length := fun k p hp => h.dom k p.1 p.2 hp
    refine ⟨fun k p hp => ⟨p,?_⟩,fun b hb => ⟨hb,hold b (h.zl b hb)⟩,fun k c p hk hc => ?_,fun k c hc hc' b base hb => ?_⟩
    · have := hdm k p hp
      simp only [St.x,bpush] at hp ⊢
      rw [if_neg (by omega)]; exact hp
    · refine ⟨c,?_,Nat.le_refl _⟩
      have := ver_push st bx k (hdm k p hk)
      show st.ver k = some c
      rw [<- this]; exact hc
    · refine ⟨?_,rowSize_eq (hold b (h.lt k b base hb))⟩
      have hk' : k < st.bs.length := hdm k _ hb
      simp only [St.x,bpush]
      rw [if_neg (by omega)]; exact hb
  have hsz : w'.heap.size = w.heap.size + 1 := by rw [hh,Array.size_push]
  refine ⟨⟨?_,?_,?_,?_,?_,?_,?_,?_⟩,hk,⟨ho,ht,hp,by omega,fun b hb _ => hold b hb⟩,?_,fun _ hz => .inl hz,by simp [St.push],rfl,rfl,?_,fun k hk h0 => by simp only [bpush,St.push]; rw [if_neg (by omega),List.getElem?_append_left hk]; exact ⟨h0,rfl⟩⟩
  · intro k b base hkb
    simp only [bpush] at hkb
    simp only [St.push,List.length_append,List.length_singleton]
    split at hkb
    · omega
    · have := h.dom k b base hkb; omega
  · intro k b base hkb
    simp only [bpush] at hkb
    split at hkb
    · cases hkb; omega
    · have := h.lt k b base hkb; omega
  · intro k k' b y y' h1 h2
    simp only [bpush] at h1 h2
    split at h1 <;> split at h2
    · omega
    · cases h1; have := h.lt k' _ _ h2; omega
    · cases h2; have := h.lt k _ _ h1; omega
    · exact h.inj k k' b y y' h1 h2
  · intro k b base hkb hz
    simp only [bpush] at hkb
    split at hkb
    · cases hkb; have := h.zl _ hz; omega
    · exact h.zd k b base hkb hz
  · intro b hz; have := h.zl b hz; omega
  · intro k b base bx' hkb hbx
    simp only [bpush] at hkb
    split at hkb
    · rename_i hkn; subst hkn
      cases hkb
      simp [St.push] at hbx
      subst hbx
      exact hb hk
    · have hlt := h.dom k b base hkb
      simp only [St.push,List.getElem?_append_left hlt] at hbx
      exact (h.box k b base bx' hkb hbx).keep hk (hold b (h.lt k b base hkb))
  · have := h.flr; simp [St.push]; omega
  · have := h.ro; simp [St.push]; omega
  · intro k b base hkb
    simp only [bpush] at hkb
    split at hkb
    · cases hkb; exact .inr (Nat.le_refl _)
    · exact .inl ⟨base,hkb⟩
  · intro k hk'
    have := h.ro
    simp only [St.push,bpush]
    rw [List.getElem?_append_left (by omega),if_neg (by omega)]
    exact ⟨rfl,rfl⟩
theorem Nx.push_mem {w w' : World} {st : St} {β : Nat -> Option (Nat × Nat)} {Z : Nat -> Prop} (h : Sim w st β Z) (arr : Bool) (cs : List D) (c : Array Value) (el : TypeId) (fr : Nat × Nat)
    (hh : w'.heap = w.heap.push (.cells c el fr)) (ho : w'.os = w.os) (ht : w'.tape = w.tape) (hp : w'.output = w.output) (hl : cs.length <= c.size) (hfr : FrOk c.size fr)
    (hc : ∀ (j : Nat) d,cs[j]? = some d -> ∃ u,c[j]? = some u /\ u.oneCell' = true /\ VR w (st.x β Z) d u) :
    Nx w st β Z w' (st.push (.mem 0 arr cs)) (bpush β st.bs.length w.heap.size) Z /\
      rowSize w' w.heap.size = some c.size /\ (st.push (.mem 0 arr cs)).ver st.bs.length = some 0 /\ bpush β st.bs.length w.heap.size st.bs.length = some (w.heap.size,0) := by
  have hnew : w'.heap[w.heap.size]? = some (.cells c el fr) := by rw [hh]; simp
  refine ⟨Nx.push h _ hh ho ht hp _ fun hk => ⟨c,el,fr,hnew,by omega,hfr,fun j d hd => ?_⟩,by simp [rowSize,hnew],by simp [St.ver,St.push,boxVer],by simp [bpush]⟩
  obtain ⟨u,h1,h2,h3⟩ := hc j d hd
  exact ⟨u,by rw [Nat.zero_add]; exact h1,h2,h3.mono hk⟩
theorem mem_spec {st : St} {k ver : Nat} {a : Bool} {c : List D} (h : st.mem? k ver = some (a,c)) : st.bs[k]? = some (.mem ver a c) /\ st.ver k = some ver := by
  unfold St.mem? at h
  split at h
  · rename_i v a' c' hb
    split at h
    · rename_i hv; subst hv; cases h
      exact ⟨hb,by simp [St.ver,hb,boxVer]⟩
    · cases h
  · cases h
theorem Sim.row {w : World} {st : St} {β : Nat -> Option (Nat × Nat)} {Z : Nat -> Prop} (h : Sim w st β Z) {k ver : Nat} {a : Bool} {c : List D} (hm : st.mem? k ver = some (a,c)) {b base : Nat} (hb : β k = some (b,base)) :
    ∃ cs el fr,w.heap[b]? = some (.cells cs el fr) /\ base + c.length <= cs.size /\ FrOk cs.size fr /\
      ∀ (j : Nat) d,c[j]? = some d -> ∃ u,cs[base + j]? = some u /\ u.oneCell' = true /\ VR w (st.x β Z) d u :=
  h.box k b base _ hb (mem_spec hm).1
theorem Sim.cells {w : World} {st : St} {β : Nat -> Option (Nat × Nat)} {Z : Nat -> Prop} (h : Sim w st β Z) {k ver : Nat} {a : Bool} {c : List D} (hm : st.mem? k ver = some (a,c)) {b base : Nat} (hb : β k = some (b,base)) :
    CellsAt w (st.x β Z) b base c := by
  obtain ⟨cs,el,fr,h1,h2,h3,h4⟩ := h.row hm hb
  intro j d hd
  obtain ⟨u,hu1,hu2,hu3⟩ := h4 j d hd
  exact ⟨u,by simp [World.cell?,h1,hu1],hu2,hu3⟩
theorem setMany_length : ∀ (cs c : List D) (off : Nat),(setMany c off cs).length = c.length
  | [],c,off => rfl
  | x :: xs,c,off => by simp only [setMany]; rw [setMany_length xs]; simp
theorem setMany_get : ∀ (cs c : List D) (off j : Nat),off + cs.length <= c.length -> (setMany c off cs)[j]? = if off <= j /\ j < off + cs.length then cs[j - off]? else c[j]?
  | [],c,off,j,_ => by simp only [setMany,List.length_nil,Nat.add_zero]; rw [if_neg (by omega)]
  | x :: xs,c,off,j,h => by
    simp only [List.length_cons] at h
    simp only [setMany,List.length_cons]
    rw [setMany_get xs (c.set off x) (off + 1) j (by simp; omega)]
    by_cases h1 : off + 1 <= j /\ j < off + 1 + xs.length
    · rw [if_pos h1,if_pos (by omega),show j - off = (j - (off + 1)) + 1 by omega,List.getElem?_cons_succ]
    · rw [if_neg h1]
      by_cases h2 : j = off
      · subst h2; rw [if_pos (by omega),Nat.sub_self,List.getElem?_set_self (by omega)]; rfl
      · rw [if_neg (by omega),List.getElem?_set_ne (by omega)]
def wput (w : World) (b : Nat) (o : Obj) : World := { w with heap := w.heap.setIfInBounds b o }
theorem Nx.writeF {w : World} {st : St} {β : Nat -> Option (Nat × Nat)} {Z : Nat -> Prop} (h : Sim w st β Z) {k ver ver' : Nat} {a a' : Bool} {c c' : List D} (hm : st.mem? k ver = some (a,c)) {b base base' : Nat} (hb : β k = some (b,base))
    (hro : st.ro <= k) (hv : ver <= ver') (hbase : ver = ver' -> base' = base) {cs cs' : Array Value} {el : TypeId} {fr fr' : Nat × Nat} (hw : w.heap[b]? = some (.cells cs el fr)) (hfr : FrOk cs.size fr') (hsz : cs'.size = cs.size) (hl : base' + c'.length <= cs.size)
    (hc : ∀ (j : Nat) d,c'[j]? = some d -> ∃ u,cs'[base' + j]? = some u /\ u.oneCell' = true /\ VR w (st.x β Z) d u) :
    Nx w st β Z (wput w b (.cells cs' el fr')) { st with bs := st.bs.set k (.mem ver' a' c') } (fun i => if i = k then some (b,base') else β i) Z := by
  obtain ⟨hbx,hver⟩ := mem_spec hm
  have hkl : k < st.bs.length := h.dom k b base hb
  have hbl : b < w.heap.size := h.lt k b base hb
  have hne : ∀ i,i ≠ b -> (wput w b (.cells cs' el fr')).heap[i]? = w.heap[i]? := by
    intro i hi
    simp only [wput]
    rw [Array.getElem?_setIfInBounds_ne (by omega)]
  have heq : (wput w b (.cells cs' el fr')).heap[b]? = some (.cells cs' el fr') := by
    simp only [wput]
    rw [Array.getElem?_setIfInBounds_self_of_lt hbl]
  have hverk : ∀ i,i ≠ k -> ({ st with bs := st.bs.set k (.mem ver' a' c') } : St).ver i = st.ver i := by
    intro i hi; simp only [St.ver]; rw [List.getElem?_set_ne (by omega)]
  have hverk' : ({ st with bs := st.bs.set k (.mem ver' a' c') } : St).ver k = some ver' := by
    simp [St.ver,hkl,boxVer]
  have hk : Keeps w (st.x β Z) (wput w b (.cells cs' el fr')) (({ st with bs := st.bs.set k (.mem ver' a' c') } : St).x (fun i => if i = k then some (b,base') else β i) Z) := by
    refine ⟨fun i p hp => ?_,fun i hi => ⟨hi,hne i fun e => h.zd k b base hb (e ▸ hi)⟩,fun i q p hi hq => ?_,fun i q hq hq' i' y hy => ?_⟩
    · by_cases hik : i = k
      · subst hik; exact ⟨(b,base'),by simp [St.x]⟩
      · exact ⟨p,by simp only [St.x] at hp ⊢; rw [if_neg hik]; exact hp⟩
    · by_cases hik : i = k
      · subst hik
        simp only [St.x] at hq ⊢
        rw [hverk'] at hq; cases hq
        exact ⟨ver,hver,hv⟩
      · simp only [St.x] at hq ⊢
        rw [hverk i hik] at hq
        exact ⟨q,hq,Nat.le_refl _⟩
    · by_cases hik : i = k
      · subst hik
        simp only [St.x] at hq hq' hy ⊢
        rw [hverk'] at hq; cases hq
        rw [hver] at hq'; cases hq'
        rw [hb] at hy; cases hy
        refine ⟨by simp [hbase rfl],by simp [rowSize,heq,hw,hsz]⟩
      · simp only [St.x] at hy ⊢
        refine ⟨by rw [if_neg hik]; exact hy,rowSize_eq (hne i' fun e => ?_)⟩
        subst e; exact hik (h.inj i k _ _ _ hy hb)
  refine ⟨⟨?_,?_,?_,?_,?_,?_,?_,?_⟩,hk,⟨rfl,rfl,rfl,by simp [wput],fun i hi hn => hne i fun e => hn ?_⟩,?_,fun _ hz => .inl hz,by simp,rfl,rfl,?_,fun i _ h0 => by
      by_cases e : i = k
      · subst e; rw [hb] at h0; cases h0
      · simp only [if_neg e]; rw [List.getElem?_set_ne (by omega)]; exact ⟨h0,rfl⟩⟩
  · intro i q y hq
    simp only [List.length_set]
    try dsimp only at hq
    split at hq
    · rename_i e; subst e; exact hkl
    · exact h.dom i q y hq
  · intro i q y hq
    simp only [wput,Array.size_setIfInBounds]
    try dsimp only at hq
    split at hq
    · cases hq; exact hbl
    · exact h.lt i q y hq
  · intro i i' q y y' h1 h2
    try dsimp only at h1 h2
    split at h1 <;> split at h2
    · omega
    · rename_i e _; cases h1; subst e; exact h.inj _ _ _ _ _ hb h2
    · rename_i _ e; cases h2; subst e; exact h.inj _ _ _ _ _ h1 hb
    · exact h.inj i i' q y y' h1 h2
  · intro i q y hq hz
    try dsimp only at hq
    split at hq
    · cases hq; exact h.zd k b base hb hz
    · exact h.zd i q y hq hz
  · intro i hz; simp only [wput,Array.size_setIfInBounds]; exact h.zl i hz
  · intro i q y bx hq hbx'
    try dsimp only at hq hbx'
    split at hq
    · rename_i e; subst e; cases hq
      rw [List.getElem?_set_self hkl] at hbx'
      cases hbx'
      refine ⟨cs',el,fr',heq,by omega,by rw [hsz]; exact hfr,fun j d hd => ?_⟩
      · obtain ⟨u,hu1,hu2,hu3⟩ := hc j d hd
        exact ⟨u,hu1,hu2,hu3.mono hk⟩
    · rename_i e
      rw [List.getElem?_set_ne (by omega)] at hbx'
      refine (h.box i q y bx hq hbx').keep hk (hne q fun e' => ?_)
      subst e'; exact e (h.inj i k _ _ _ hq hb)
  · have := h.flr; simp; omega
  · have := h.ro; simp; omega
  · exact ⟨k,base,e ▸ hb,hro⟩
  · intro i q y hq
    try dsimp only at hq
    split at hq
    · rename_i e; subst e; cases hq; exact .inl ⟨base,hb⟩
    · exact .inl ⟨y,hq⟩
  · intro i hi
    dsimp only
    rw [List.getElem?_set_ne (by omega),if_neg (by omega)]
    exact ⟨rfl,rfl⟩
theorem Nx.write {w : World} {st : St} {β : Nat -> Option (Nat × Nat)} {Z : Nat -> Prop} (h : Sim w st β Z) {k ver ver' : Nat} {a a' : Bool} {c c' : List D} (hm : st.mem? k ver = some (a,c)) {b base base' : Nat} (hb : β k = some (b,base))
    (hro : st.ro <= k) (hv : ver <= ver') (hbase : ver = ver' -> base' = base) {cs cs' : Array Value} {el : TypeId} {fr : Nat × Nat} (hw : w.heap[b]? = some (.cells cs el fr)) (hsz : cs'.size = cs.size) (hl : base' + c'.length <= cs.size)
    (hc : ∀ (j : Nat) d,c'[j]? = some d -> ∃ u,cs'[base' + j]? = some u /\ u.oneCell' = true /\ VR w (st.x β Z) d u) :
    Nx w st β Z (wput w b (.cells cs' el fr)) { st with bs := st.bs.set k (.mem ver' a' c') } (fun i => if i = k then some (b,base') else β i) Z :=
  Nx.writeF h hm hb hro hv hbase hw (by
    obtain ⟨cs0,el0,fr0,e1,_,e3,_⟩ := h.row hm hb
    rw [hw] at e1; cases e1
    exact e3) hsz hl hc
end Go.V
namespace Go.V
open Go.RowKit
structure LR (w : World) (x : X) (cs : List D) (us : List Value) : Prop where
  len : cs.length = us.length
  one : ∀ u ∈ us,u.oneCell' = true
  rel : ∀ (i : Nat) c u,cs[i]? = some c -> us[i]? = some u -> VR w x c u
theorem LR.mono {w w' : World} {x x' : X} {cs : List D} {us : List Value} (h : LR w x cs us) (hk : Keeps w x w' x') : LR w' x' cs us :=
  ⟨h.len,h.one,fun i c u hc hu => (h.rel i c u hc hu).mono hk⟩
theorem LR.at_ {w : World} {x : X} {cs : List D} {us : List Value} (h : LR w x cs us) {j : Nat} {d : D} (hd : cs[j]? = some d) : ∃ u,us[j]? = some u /\ u.oneCell' = true /\ VR w x d u := by
  have hj : j < cs.length := by
    rcases Nat.lt_or_ge j cs.length with h' | h'
    · exact h'
    · rw [List.getElem?_eq_none h'] at hd; cases hd
  have hj' : j < us.length := by rw [<- h.len]; exact hj
  exact ⟨us[j],List.getElem?_eq_getElem hj',h.one _ (List.getElem_mem hj'),h.rel j d _ hd (List.getElem?_eq_getElem hj')⟩
theorem LR.agg {w : World} {x : X} {cs : List D} {us : List Value} (h : LR w x cs us) : VR w x (.agg cs) (.agg us.toArray) := .agg cs us h.len h.one h.rel
theorem vr_aggL {w : World} {x : X} {cs : List D} {v : Value} (h : VR w x (.agg cs) v) : ∃ us : List Value,v = .agg us.toArray /\ LR w x cs us := by
  obtain ⟨us,rfl,h1,h2,h3⟩ := vr_agg h
  exact ⟨us,rfl,h1,h2,h3⟩
theorem cells_ok {w : World} {x : X} {d : D} {v : Value} {cs : List D} (h : VR w x d v) (hc : d.cells? = some cs) : LR w x cs v.cells.toList := by
  have one : ∀ u : Value,u.oneCell' = true -> v = u -> cs = [d] -> LR w x cs v.cells.toList := by
    intro u hu e hcs
    subst e; subst hcs
    have : v.cells.toList = [v] := by cases v <;> first | rfl | simp [Value.oneCell'] at hu
    rw [this]
    refine ⟨rfl,by simpa using hu,fun i c u hc hu => ?_⟩
    cases i with
    | zero => simp at hc hu; subst hc; subst hu; exact h
    | succ i => simp at hc
  cases d with
  | agg l =>
    cases hc
    obtain ⟨us,rfl,hl⟩ := vr_aggL h
    simpa [Value.cells] using hl
  | tup l => cases hc
  | junk => cases hc
  | bool b => cases hc; exact one _ rfl (vr_bool h) rfl
  | int k n => cases hc; exact one _ rfl (vr_int h) rfl
  | str s => cases hc; exact one _ rfl (vr_str h) rfl
  | nul => cases hc; exact one _ rfl (vr_nul h) rfl
  | pnil => cases hc; exact one _ rfl (vr_pnil h) rfl
  | sl es => cases hc; obtain ⟨_,_,e,_⟩ := vr_sl h; exact one _ rfl e rfl
  | win k v o l s => cases hc; obtain ⟨_,_,e,_⟩ := vr_win h; exact one _ rfl e rfl
  | ptr k v o => cases hc; obtain ⟨_,e,_⟩ := vr_pointer h; exact one _ rfl e rfl
  | mp k => cases hc; obtain ⟨_,e,_⟩ := vr_mp h; exact one _ rfl e rfl
  | ep c => cases hc; obtain ⟨_,_,e,_⟩ := vr_ep h; exact one _ rfl e rfl
  | fn f c => cases hc; obtain ⟨_,e,_⟩ := vr_fn h; exact one _ rfl e rfl
  | nilfn => cases hc; exact one .nilFunc rfl (by cases h with | im _ _ h => cases h; rfl) rfl
  | nilif => cases hc; exact one .nilIface rfl (by cases h with | im _ _ h => cases h; rfl) rfl
theorem cells_of {d : D} {cs : List D} (h : d.cells? = some cs) : d.cells = cs := by cases d <;> simp [D.cells?,D.cells] at * <;> exact h
theorem foldl_set (off : Nat) : ∀ (l : List Value) (n : Nat) (cells : Array Value) (k : Nat),off + n + l.length <= cells.size ->
    ((l.zipIdx n).foldl (fun cs (p : Value × Nat) => cs.setIfInBounds (off + p.2) p.1) cells)[k]? = if off + n <= k /\ k < off + n + l.length then l[k - (off + n)]? else cells[k]?
  | [],n,cells,k,_ => by simp only [List.zipIdx_nil,List.foldl_nil,List.length_nil,Nat.add_zero]; rw [if_neg (by omega)]
  | v :: l,n,cells,k,h => by
    simp only [List.length_cons] at h
    simp only [List.zipIdx_cons,List.foldl_cons]
    rw [foldl_set off l (n + 1) _ k (by simp; omega)]
    simp only [List.length_cons]
    by_cases h1 : off + (n + 1) <= k /\ k < off + (n + 1) + l.length
    · rw [if_pos h1,if_pos (by omega),show k - (off + n) = (k - (off + (n + 1))) + 1 by omega,List.getElem?_cons_succ]
    · rw [if_neg h1]
      by_cases h2 : k = off + n
      · subst h2
        rw [if_pos (by omega),Nat.sub_self,Array.getElem?_setIfInBounds_self_of_lt (by omega)]; rfl
      · rw [if_neg (by omega),Array.getElem?_setIfInBounds_ne (by omega)]
theorem foldl_size (off : Nat) : ∀ (l : List (Value × Nat)) (cells : Array Value),(l.foldl (fun cs (p : Value × Nat) => cs.setIfInBounds (off + p.2) p.1) cells).size = cells.size
  | [],cells => rfl
  | p :: l,cells => by simp only [List.foldl_cons]; rw [foldl_size off l]; simp
theorem zip_fold (off : Nat) (c cells : Array Value) : (c.zipIdx.foldl (fun cs (c,j) => cs.setIfInBounds (off + j) c) cells) = ((c.toList.zipIdx 0).foldl (fun cs (p : Value × Nat) => cs.setIfInBounds (off + p.2) p.1) cells) := by
  rw [<- Array.foldl_toList,Array.toList_zipIdx]
theorem LR.setMany {w : World} {x : X} {cs ds : List D} {us vs : List Value} (h : LR w x cs us) (g : LR w x ds vs) (off : Nat) (hl : off + ds.length <= cs.length) :
    LR w x (setMany cs off ds) (((vs.zipIdx 0).foldl (fun (cs : Array Value) (p : Value × Nat) => cs.setIfInBounds (off + p.2) p.1) us.toArray)).toList := by
  have hg := fun k => foldl_set off vs 0 us.toArray k (by simp; have := h.len; have := g.len; omega)
  simp only [Nat.add_zero] at hg
  have hs := foldl_size off (vs.zipIdx 0) us.toArray
  have hgl : ∀ k u,((((vs.zipIdx 0).foldl (fun (cs : Array Value) (p : Value × Nat) => cs.setIfInBounds (off + p.2) p.1) us.toArray)).toList)[k]? = some u ->
      (off <= k /\ k < off + vs.length /\ vs[k - off]? = some u) \/ (¬ (off <= k /\ k < off + vs.length) /\ us[k]? = some u) := by
    intro k u hk
    rw [Array.getElem?_toList,hg k] at hk
    split at hk
    · rename_i hc; exact .inl ⟨hc.1,hc.2,hk⟩
    · rename_i hc; exact .inr ⟨hc,by simpa using hk⟩
  refine ⟨?_,fun u hu => ?_,fun i c u hc hu => ?_⟩
  · exact (setMany_length ds cs off).trans (h.len.trans (List.size_toArray.symm.trans (hs.symm.trans Array.length_toList.symm)))
  · obtain ⟨k,hk⟩ := List.getElem?_of_mem hu
    rcases hgl k u hk with ⟨_,_,h'⟩ | ⟨_,h'⟩
    · exact g.one u (List.mem_of_getElem? h')
    · exact h.one u (List.mem_of_getElem? h')
  · rw [setMany_get ds cs off i hl] at hc
    rcases hgl i u hu with ⟨h1,h2,h'⟩ | ⟨h1,h'⟩
    · rw [if_pos ⟨h1,by rw [g.len]; exact h2⟩] at hc
      exact g.rel _ c u hc h'
    · rw [if_neg (by rw [g.len]; exact h1)] at hc
      exact h.rel _ c u hc h'
theorem fill_ok {w : World} {x : X} {place place' : Nat -> Option (Nat × Nat)} (hp : ∀ i r,place i = some r -> place' i = some r) : ∀ (parts : List (Nat × D)) (parts' : List (Nat × Value)) {cs r : List D} {us : List Value},
    parts.length = parts'.length -> (∀ (i : Nat) p q,parts[i]? = some p -> parts'[i]? = some q -> p.1 = q.1 /\ VR w x p.2 q.2) -> LR w x cs us -> fillD place cs parts = some r ->
    ∃ rs : List Value,Instr.fill place' us.toArray parts' = some rs.toArray /\ LR w x r rs
  | [], [],cs,r,us,_,_,h,hf => by simp [fillD] at hf; subst hf; exact ⟨us,rfl,h⟩
  | [],_ :: _,_,_,_,hl,_,_,_ => by simp at hl
  | _ :: _, [],_,_,_,hl,_,_,_ => by simp at hl
  | (i,d) :: parts,(i',v) :: parts',cs,r,us,hl,hr,h,hf => by
    obtain ⟨rfl,hv⟩ := hr 0 _ _ rfl rfl
    simp only [fillD] at hf
    split at hf
    · rename_i off size ds hpl hcs
      split at hf
      · cases hf
      · rename_i hn
        have hds := cells_ok hv hcs
        simp only [not_or] at hn
        obtain ⟨hn1,hn2⟩ := hn
        have hn1 : ds.length = size := Decidable.not_not.1 hn1
        have hlen : off + ds.length <= cs.length := by omega
        have hsz : v.cells.size = ds.length := by rw [hds.len]; simp
        obtain ⟨rs,h1,h2⟩ := fill_ok hp parts parts' (by simpa using hl) (fun j p q hp hq => hr (j + 1) p q hp hq) (h.setMany hds off hlen) hf
        refine ⟨rs,?_,h2⟩
        simp only [Instr.fill,hp _ _ hpl]
        rw [if_neg (by simp [hsz,hn1]; have := h.len; omega),zip_fold]
        simpa using h1
    · cases hf
section
variable {pv : Pv} {P : Program} (ok : pv.Ok P)
include ok
theorem places_ok (w : World) : ∀ (fs : List Field) {ps : List (Nat × Nat)},placesD pv fs = some ps -> (fs.mapM (fun f => (do pure (f.offset, <- sizeOf f.type) : Sem (Nat × Nat)))).run P w = .ok ps w
  | [],ps,h => by simp [placesD] at h; subst h; simp
  | f :: fs,ps,h => by
    simp only [placesD] at h
    split at h
    · rename_i s hs
      split at h
      · rename_i r hr
        cases h
        have := places_ok w fs hr
        simp only [List.mapM_cons,Sem.run_bind,run_size ok hs,Result.andThen_ok,Sem.run_pure]
        rw [this]
        rfl
      · cases h
    · cases h
theorem zero_cells (w : World) (x : X) {t : Nat} {cs : List D} (h : zeroC pv t = some cs) : ∃ v,(zeroValue t).run P w = .ok v w /\ LR w x cs v.cells.toList := by
  unfold zeroC at h
  split at h
  · rename_i z hz
    obtain ⟨v,hv,rfl⟩ := run_zero ok hz w
    exact ⟨v,hv,cells_ok (.im _ _ (ofVal_ir _ _ v)) h⟩
  · cases h
theorem build_ok {w : World} {x : X} {t : Nat} {parts : List (Nat × D)} {parts' : List (Nat × Value)} {d : D} (hl : parts.length = parts'.length)
    (hr : ∀ (i : Nat) p q,parts[i]? = some p -> parts'[i]? = some q -> p.1 = q.1 /\ VR w x p.2 q.2) (h : buildD pv t parts = some d) :
    ∃ v,(Instr.build t parts'.toArray).run P w = .ok v w /\ VR w x d v := by
  unfold buildD at h
  split at h
  · rename_i z hz
    obtain ⟨v,hv,hc⟩ := zero_cells ok w x hz
    have base : ∀ {r : List D} {place place' : Nat -> Option (Nat × Nat)},(∀ i r,place i = some r -> place' i = some r) -> fillD place z parts = some r ->
        ∃ rs : List Value,Instr.fill place' v.cells parts' = some rs.toArray /\ LR w x r rs := by
      intro r place place' hp hf
      obtain ⟨rs,h2,h3⟩ := fill_ok hp parts parts' hl hr hc hf
      exact ⟨rs,by simpa using h2,h3⟩
    split at h
    · rename_i fields hu
      split at h
      · rename_i ps hps
        obtain ⟨r,hf,rfl⟩ := Option.map_eq_some_iff.1 h
        obtain ⟨rs,h1,h2⟩ := base (place' := fun i => ps[i]?) (by simp) hf
        refine ⟨.agg rs.toArray,?_,h2.agg⟩
        have hm := places_ok ok w _ hps
        simp only [Instr.build,Sem.run_bind,hv,Result.andThen_ok,run_und ok hu,Array.mapM_eq_mapM_toList,Sem.run_map]
        rw [hm]
        simp [h1]
      · cases h
    · rename_i n e hu
      split at h
      · rename_i s hs
        obtain ⟨r,hf,rfl⟩ := Option.map_eq_some_iff.1 h
        obtain ⟨rs,h1,h2⟩ := base (place' := fun i => some (i * s,s)) (by simp) hf
        refine ⟨.agg rs.toArray,?_,h2.agg⟩
        simp [Instr.build,hv,run_und ok hu,run_size ok hs,h1]
      · cases h
    · cases h
  · cases h
end
end Go.V
namespace Go.V
open Go.RowKit
theorem CellsAt.append {w : World} {x : X} {b o : Nat} {l r : List D} (h : CellsAt w x b o l) (g : CellsAt w x b (o + l.length) r) : CellsAt w x b o (l ++ r) := by
  intro j d hd
  rw [List.getElem?_append] at hd
  split at hd
  · exact h j d hd
  · have := g _ d hd
    rwa [show o + l.length + (j - l.length) = o + j by omega] at this
theorem CellsAt.nil {w : World} {x : X} {b o : Nat} : CellsAt w x b o [] := by intro j d hd; simp at hd
theorem cellsAt_flat {w : World} {x : X} {b s : Nat} : ∀ (es : List D) (off : Nat),(∀ (i : Nat) e,es[i]? = some e -> e.cells.length = s) -> (∀ (i : Nat) e,es[i]? = some e -> CellsAt w x b (off + i * s) e.cells) ->
    CellsAt w x b off (es.flatMap D.cells) /\ (es.flatMap D.cells).length = es.length * s
  | [],off,_,_ => ⟨.nil,by simp⟩
  | e :: es,off,hs,hc => by
    have h0 := hc 0 e rfl
    have hl := hs 0 e rfl
    obtain ⟨h1,h2⟩ := cellsAt_flat es (off + s) (fun i e' he => hs (i + 1) e' he) (fun i e' he => by
      have := hc (i + 1) e' he
      rwa [show off + (i + 1) * s = off + s + i * s by rw [Nat.add_mul]; omega] at this)
    simp only [List.flatMap_cons,List.length_append,List.length_cons]
    refine ⟨CellsAt.append (by simpa using h0) (by rw [hl]; exact h1),?_⟩
    rw [h2,hl,Nat.add_mul]; omega
theorem CellsAt.lr {w : World} {x : X} {b o : Nat} {c : List D} (h : CellsAt w x b o c) (P : Program) : ∃ us : List Value,(loadCells ⟨b,o,none⟩ c.length).run P w = .ok us.toArray w /\ LR w x c us := by
  obtain ⟨us,h1,h2,h3,h4⟩ := h.list
  exact ⟨us,by rw [<- h1]; exact run_loadRow h2,h1.symm,h3,h4⟩
theorem run_load0 {P : Program} {w : World} (a : Addr) : (loadCells a 0).run P w = .ok #[] w := rfl
theorem bytes_lr (w : World) (x : X) (l : List UInt8) : LR w x (l.map fun b => .int .u8 b.toNat) (l.map fun b => .int .u8 b.toNat) := by
  refine ⟨by simp,fun u hu => ?_,fun i c u hc hu => ?_⟩
  · obtain ⟨b,_,rfl⟩ := List.mem_map.1 hu; rfl
  · simp only [List.getElem?_map] at hc hu
    cases hb : l[i]? with
    | none => simp [hb] at hc
    | some b => simp [hb] at hc hu; subst hc; subst hu; exact .im _ _ (.int _ _)
theorem LR.take {w : World} {x : X} {cs : List D} {us : List Value} (h : LR w x cs us) (n : Nat) : LR w x (cs.take n) (us.take n) :=
  ⟨by simp [h.len],fun u hu => h.one u (List.mem_of_mem_take hu),fun i c u hc hu => by
    rw [List.getElem?_take] at hc hu
    split at hc
    · rename_i hi; rw [if_pos hi] at hu; exact h.rel i c u hc hu
    · cases hc⟩
theorem LR.append {w : World} {x : X} {cs ds : List D} {us vs : List Value} (h : LR w x cs us) (g : LR w x ds vs) : LR w x (cs ++ ds) (us ++ vs) :=
  ⟨by simp [h.len,g.len],fun u hu => (List.mem_append.1 hu).elim (h.one u) (g.one u),fun i c u hc hu => by
    rw [List.getElem?_append] at hc hu
    split at hc
    · rename_i hi; rw [if_pos (by rw [<- h.len]; exact hi)] at hu; exact h.rel i c u hc hu
    · rename_i hi; rw [if_neg (by rw [<- h.len]; exact hi)] at hu; rw [<- h.len] at hu; exact g.rel _ c u hc hu⟩
theorem row_ok {P : Program} {w : World} {st : St} {β : Nat -> Option (Nat × Nat)} {Z : Nat -> Prop} (h : Sim w st β Z) {d : D} {v : Value} {n : Nat} {ys : List D} (hv : VR w (st.x β Z) d v) (hr : rowD st d = some (n,ys)) :
    (Builtin.lenOf v).run P w = .ok n w /\ ∀ s m,m <= n -> ys.length = n * s -> ∃ us : List Value,(Builtin.firstCells s m v).run P w = .ok us.toArray w /\ LR w (st.x β Z) (ys.take (m * s)) us := by
  unfold rowD at hr
  split at hr
  · rename_i es
    cases hr
    obtain ⟨a,cap,rfl,hc,hes⟩ := vr_sl hv
    refine ⟨rfl,fun s m hm hs => ?_⟩
    rcases hes with rfl | ⟨b,off,s0,rfl,hz,hst,hcl,_⟩
    · have hm0 : m = 0 := by simpa using hm
      subst hm0
      refine ⟨[],?_,⟨by simp,by simp,by simp⟩⟩
      cases a with
      | none => simp [Builtin.firstCells]
      | some a => simp [Builtin.firstCells,run_load0]
    · obtain ⟨h1,h2⟩ := cellsAt_flat es off (fun i e he => (hst i e he).2) hcl
      by_cases h0 : es.length = 0
      · have hm0 : m = 0 := by omega
        subst hm0
        exact ⟨[],by simp [Builtin.firstCells,run_load0],⟨by simp,by simp,by simp⟩⟩
      · have hss : s0 = s := Nat.eq_of_mul_eq_mul_left (by omega) (h2.symm.trans hs)
        subst hss
        obtain ⟨us,hu1,hu2⟩ := (h1.take (m * s0)).lr P
        have hle : m * s0 <= (es.flatMap D.cells).length := by rw [h2]; exact Nat.mul_le_mul_right _ hm
        rw [List.length_take,Nat.min_eq_left hle] at hu1
        exact ⟨us,hu1,hu2⟩
  · cases hr
    rw [vr_nul hv]
    refine ⟨rfl,fun s m hm hs => ⟨[],by simp [Builtin.firstCells],⟨by simp,by simp,by simp⟩⟩⟩
  · rename_i k ver off len sz
    obtain ⟨⟨a,c⟩,hm,hr⟩ := Option.bind_eq_some_iff.1 hr
    dsimp only at hr
    split at hr
    · rename_i hle
      cases hr
      obtain ⟨ad,cap,rfl,hc,hk,_,hat⟩ := vr_win hv
      obtain ⟨b,base,sz',hb,hsz,had⟩ := hat (mem_spec hm).2
      have hcl := ((h.cells hm hb).drop off).take (n * sz)
      have hlen : ((c.drop off).take (n * sz)).length = n * sz := by simp; omega
      refine ⟨rfl,fun s m hmn hs => ?_⟩
      rcases had with rfl | ⟨rfl,_⟩
      · have hm0 : m = 0 := by omega
        subst hm0
        exact ⟨[],by simp [Builtin.firstCells,run_load0],⟨by simp,by simp,by simp⟩⟩
      · obtain ⟨us,hu1,hu2⟩ := (hcl.take (m * s)).lr P
        have hle : m * s <= ((c.drop off).take (n * sz)).length := by rw [hs]; exact Nat.mul_le_mul_right _ hmn
        rw [List.length_take,Nat.min_eq_left hle] at hu1
        exact ⟨us,hu1,hu2⟩
    · cases hr
  · rename_i l
    cases hr
    rw [vr_str hv]
    refine ⟨by simp [Builtin.lenOf,ByteArray.size],fun s m hm hs => ?_⟩
    simp only [List.length_map] at hs
    by_cases h0 : l.length = 0
    · have hm0 : m = 0 := by omega
      subst hm0
      have hl : l = [] := List.length_eq_zero_iff.1 h0
      subst hl
      exact ⟨[],by simp [Builtin.firstCells],⟨by simp,by simp,by simp⟩⟩
    · have hss : s = 1 := by
        have : l.length * 1 = l.length * s := by omega
        exact (Nat.eq_of_mul_eq_mul_left (by omega) this).symm
      subst hss
      refine ⟨(l.take m).map fun b => .int .u8 b.toNat,?_,?_⟩
      · simp only [Builtin.firstCells,Sem.run_pure]
        congr 1
        apply Array.ext'
        simp [ByteArray.data_extract]
      · have := (bytes_lr w (st.x β Z) l).take (m * 1)
        simpa [<- List.map_take] using this
  · cases hr
def setV (c : Array Value) (off : Nat) : List Value -> Array Value
  | [] => c
  | v :: vs => setV (c.setIfInBounds off v) (off + 1) vs
theorem setV_size : ∀ (vs : List Value) (c : Array Value) (off : Nat),(setV c off vs).size = c.size
  | [],c,off => rfl
  | v :: vs,c,off => by simp only [setV]; rw [setV_size vs]; simp
theorem setV_get : ∀ (vs : List Value) (c : Array Value) (off j : Nat),off + vs.length <= c.size -> (setV c off vs)[j]? = if off <= j /\ j < off + vs.length then vs[j - off]? else c[j]?
  | [],c,off,j,_ => by simp only [setV,List.length_nil,Nat.add_zero]; rw [if_neg (by omega)]
  | v :: vs,c,off,j,h => by
    simp only [List.length_cons] at h
    simp only [setV,List.length_cons]
    rw [setV_get vs _ (off + 1) j (by simp; omega)]
    by_cases h1 : off + 1 <= j /\ j < off + 1 + vs.length
    · rw [if_pos h1,if_pos (by omega),show j - off = (j - (off + 1)) + 1 by omega,List.getElem?_cons_succ]
    · rw [if_neg h1]
      by_cases h2 : j = off
      · subst h2; rw [if_pos (by omega),Nat.sub_self,Array.getElem?_setIfInBounds_self_of_lt (by omega)]; rfl
      · rw [if_neg (by omega),Array.getElem?_setIfInBounds_ne (by omega)]
theorem run_storeRow {P : Program} {b : Nat} {el : TypeId} {fr : Nat × Nat} : ∀ (vs : List Value) (i o : Nat) (w : World) (c : Array Value),w.heap[b]? = some (.cells c el fr) -> o + i + vs.length <= c.size -> (∀ q,q < c.size -> ¬ (fr.1 <= q /\ q < fr.2)) ->
    (∀ v ∈ vs,v.oneCell' = true) -> (storeCells ⟨b,o,none⟩ vs i).run P w = .ok () (match vs with | [] => w | _ => wput w b (.cells (setV c (o + i) vs) el fr))
  | [],i,o,w,c,_,_,_,_ => rfl
  | v :: vs,i,o,w,c,hw,hl,hf,h1 => by
    simp only [List.length_cons] at hl
    have hadd : (⟨b,o,none⟩ : Addr).add i = ⟨b,o + i,none⟩ := by
      unfold Addr.add; split
      · rename_i e; subst e; rfl
      · rfl
    have hcell : w.cell? ⟨b,o + i,none⟩ = some (c[o + i]'(by omega)) := by
      simp [World.cell?,hw,Array.getElem?_eq_getElem (show o + i < c.size by omega)]
    have hfr : w.frozen? ⟨b,o + i,none⟩ = false := by
      have := hf (o + i) (by omega)
      simp only [World.frozen?,hw]
      simp only [Bool.and_eq_false_iff,decide_eq_false_iff_not]
      omega
    have hset : w.setCell ⟨b,o + i,none⟩ v = wput w b (.cells (c.setIfInBounds (o + i) v) el fr) := by
      simp only [World.setCell,wput]
      congr 1
      apply Array.ext_getElem?
      intro j
      rw [Array.getElem?_modify]
      by_cases hj : b = j
      · subst hj
        have hb : b < w.heap.size := by
          rcases Nat.lt_or_ge b w.heap.size with h' | h'
          · exact h'
          · rw [Array.getElem?_eq_none h'] at hw; cases hw
        rw [if_pos rfl,hw,Array.getElem?_setIfInBounds_self_of_lt hb]
        simp
      · rw [if_neg hj,Array.getElem?_setIfInBounds_ne hj]
    have hb : b < w.heap.size := by
      rcases Nat.lt_or_ge b w.heap.size with h' | h'
      · exact h'
      · rw [Array.getElem?_eq_none h'] at hw; cases hw
    have hw' : (wput w b (.cells (c.setIfInBounds (o + i) v) el fr)).heap[b]? = some (.cells (c.setIfInBounds (o + i) v) el fr) := by
      simp only [wput]; rw [Array.getElem?_setIfInBounds_self_of_lt hb]
    have ih := run_storeRow (P := P) vs (i + 1) o (wput w b (.cells (c.setIfInBounds (o + i) v) el fr)) _ hw' (by simp; omega) (by simpa using hf) (fun u hu => h1 u (List.mem_cons_of_mem _ hu))
    simp only [storeCells,Sem.run_bind,hadd,run_store P w _ v .plain (h1 v (List.mem_cons_self ..)),hcell,hfr,Bool.false_eq_true,if_false,Result.andThen_ok,hset,ih]
    cases vs with
    | nil => simp [setV]
    | cons v' vs =>
      simp only [setV]
      congr 1
      simp [wput,show o + (i + 1) = o + i + 1 by omega]
end Go.V
namespace Go.V
open Go.RowKit
theorem Nx.move {w w' : World} {st : St} {β : Nat -> Option (Nat × Nat)} {Z : Nat -> Prop} (h : Sim w st β Z) {k ver : Nat} {a a' : Bool} {c c' : List D} (hm : st.mem? k ver = some (a,c)) {b base : Nat} (hb : β k = some (b,base))
    (hro : st.ro <= k) {cs : Array Value} {el : TypeId} (hh : w'.heap = w.heap.push (.cells cs el (0,0))) (ho : w'.os = w.os) (ht : w'.tape = w.tape) (hp : w'.output = w.output) (hl : c'.length <= cs.size)
    (hc : ∀ (j : Nat) d,c'[j]? = some d -> ∃ u,cs[j]? = some u /\ u.oneCell' = true /\ VR w (st.x β Z) d u) :
    Nx w st β Z w' { st with bs := st.bs.set k (.mem (ver + 1) a' c') } (fun i => if i = k then some (w.heap.size,0) else β i) Z := by
  obtain ⟨hbx,hver⟩ := mem_spec hm
  have hkl : k < st.bs.length := h.dom k b base hb
  have hold : ∀ i,i < w.heap.size -> w'.heap[i]? = w.heap[i]? := by
    intro i hi; rw [hh,Array.getElem?_push,if_neg (by omega)]
  have heq : w'.heap[w.heap.size]? = some (.cells cs el (0,0)) := by rw [hh]; simp
  have hsz : w'.heap.size = w.heap.size + 1 := by rw [hh,Array.size_push]
  have hverk : ∀ i,i ≠ k -> ({ st with bs := st.bs.set k (.mem (ver + 1) a' c') } : St).ver i = st.ver i := by
    intro i hi; simp only [St.ver]; rw [List.getElem?_set_ne (by omega)]
  have hverk' : ({ st with bs := st.bs.set k (.mem (ver + 1) a' c') } : St).ver k = some (ver + 1) := by
    simp [St.ver,hkl,boxVer]
  have hk : Keeps w (st.x β Z) w' (({ st with bs := st.bs.set k (.mem (ver + 1) a' c') } : St).x (fun i => if i = k then some (w.heap.size,0) else β i) Z) := by
    refine ⟨fun i p hp => ?_,fun i hi => ⟨hi,hold i (h.zl i hi)⟩,fun i q p hi hq => ?_,fun i q hq hq' i' y hy => ?_⟩
    · by_cases hik : i = k
      · subst hik; exact ⟨(w.heap.size,0),by simp [St.x]⟩
      · exact ⟨p,by simp only [St.x] at hp ⊢; rw [if_neg hik]; exact hp⟩
    · by_cases hik : i = k
      · subst hik
        simp only [St.x] at hq ⊢
        rw [hverk'] at hq; cases hq
        exact ⟨ver,hver,by omega⟩
      · simp only [St.x] at hq ⊢
        rw [hverk i hik] at hq
        exact ⟨q,hq,Nat.le_refl _⟩
    · by_cases hik : i = k
      · subst hik
        simp only [St.x] at hq hq' hy ⊢
        rw [hverk'] at hq; cases hq
        rw [hver] at hq'; simp at hq'
      · simp only [St.x] at hy ⊢
        exact ⟨by rw [if_neg hik]; exact hy,rowSize_eq (hold i' (h.lt i i' y hy))⟩
  refine ⟨⟨?_,?_,?_,?_,?_,?_,?_,?_⟩,hk,⟨ho,ht,hp,by omega,fun i hi _ => hold i hi⟩,?_,fun _ hz => .inl hz,by simp,rfl,rfl,?_,fun i _ h0 => by
      by_cases e : i = k
      · subst e; rw [hb] at h0; cases h0
      · simp only [if_neg e]; rw [List.getElem?_set_ne (by omega)]; exact ⟨h0,rfl⟩⟩
  · intro i q y hq
    simp only [List.length_set]
    try dsimp only at hq
    split at hq
    · rename_i e; subst e; exact hkl
    · exact h.dom i q y hq
  · intro i q y hq
    try dsimp only at hq
    split at hq
    · cases hq; omega
    · have := h.lt i q y hq; omega
  · intro i i' q y y' h1 h2
    try dsimp only at h1 h2
    split at h1 <;> split at h2
    · omega
    · rename_i e _; cases h1; have := h.lt _ _ _ h2; omega
    · rename_i _ e; cases h2; have := h.lt _ _ _ h1; omega
    · exact h.inj i i' q y y' h1 h2
  · intro i q y hq hz
    try dsimp only at hq
    split at hq
    · cases hq; have := h.zl _ hz; omega
    · exact h.zd i q y hq hz
  · intro i hz; have := h.zl i hz; omega
  · intro i q y bx hq hbx'
    try dsimp only at hq hbx'
    split at hq
    · rename_i e; subst e; cases hq
      rw [List.getElem?_set_self hkl] at hbx'
      cases hbx'
      refine ⟨cs,el,(0,0),heq,by omega,FrOk.zero _,fun j d hd => ?_⟩
      obtain ⟨u,hu1,hu2,hu3⟩ := hc j d hd
      exact ⟨u,by rw [Nat.zero_add]; exact hu1,hu2,hu3.mono hk⟩
    · rename_i e
      rw [List.getElem?_set_ne (by omega)] at hbx'
      exact (h.box i q y bx hq hbx').keep hk (hold q (h.lt i q y hq))
  · have := h.flr; simp; omega
  · have := h.ro; simp; omega
  · intro i q y hq
    try dsimp only at hq
    split at hq
    · cases hq; exact .inr (Nat.le_refl _)
    · exact .inl ⟨y,hq⟩
  · intro i hi
    dsimp only
    rw [List.getElem?_set_ne (by omega),if_neg (by omega)]
    exact ⟨rfl,rfl⟩
theorem canW_ro {st : St} {k r : Nat} (h : st.canW k r = true) : st.ro <= k := by
  simp only [St.canW,Bool.and_eq_true,decide_eq_true_eq] at h; exact h.1
theorem wr_ok {P : Program} {w : World} {st st' : St} {β : Nat -> Option (Nat × Nat)} {Z : Nat -> Prop} (h : Sim w st β Z) {k ver off : Nat} {ds : List D} {us : List Value} (hu : LR w (st.x β Z) ds us) (hw : st.wr k ver off ds = some st')
    {b base : Nat} (hb : β k = some (b,base)) {a : Addr} (ha : us = [] \/ a = ⟨b,base + off,none⟩) : ∃ w',(storeCells a us).run P w = .ok () w' /\ ∃ β',Nx w st β Z w' st' β' Z /\ β' = β := by
  unfold St.wr at hw
  split at hw
  · rename_i ar c hm
    split at hw
    · rename_i hc
      cases hw
      obtain ⟨cs,el,fr,h1,h2,h3,h4⟩ := h.row hm hb
      have hlen := hu.len
      have hx : (fun i => if i = k then some (b,base) else β i) = β := by
        funext i; split
        · rename_i e; subst e; exact hb.symm
        · rfl
      have key : ∀ cs' : Array Value,cs'.size = cs.size -> (∀ j,cs'[base + j]? = if off <= j /\ j < off + us.length then us[j - off]? else cs[base + j]?) ->
          Nx w st β Z (wput w b (.cells cs' el fr)) { st with bs := st.bs.set k (.mem ver ar (setMany c off ds)) } β Z := by
        intro cs' hs hg
        have := Nx.write (a' := ar) (ver' := ver) (c' := setMany c off ds) (base' := base) h hm hb (canW_ro hc.2) (Nat.le_refl _) (fun _ => rfl) h1 hs (by rw [setMany_length]; omega) (fun j d hd => by
          rw [setMany_get ds c off j hc.1] at hd
          rw [hg j]
          split at hd
          · rename_i hj
            rw [if_pos (by omega)]
            exact hu.at_ hd
          · rename_i hj
            rw [if_neg (by omega)]
            exact h4 j d hd)
        rwa [hx] at this
      rcases Nat.eq_zero_or_pos us.length with h0 | h0
      · have hus : us = [] := List.length_eq_zero_iff.1 h0
        subst hus
        have hb' : b < w.heap.size := h.lt k b base hb
        have hsame : wput w b (.cells cs el fr) = w := by
          simp only [wput]
          have : w.heap.setIfInBounds b (.cells cs el fr) = w.heap := by
            apply Array.ext_getElem?
            intro j
            by_cases hj : b = j
            · subst hj; rw [Array.getElem?_setIfInBounds_self_of_lt hb',h1]
            · rw [Array.getElem?_setIfInBounds_ne hj]
          rw [this]
        have := key cs rfl (fun j => by rw [if_neg (by simp only [List.length_nil,Nat.add_zero]; omega)])
        rw [hsame] at this
        exact ⟨w,rfl,β,this,rfl⟩
      · rcases ha with rfl | rfl
        · simp at h0
        · have hrun := run_storeRow (P := P) us 0 (base + off) w cs h1 (by omega) h3.2 hu.one
          refine ⟨_,hrun,β,?_,rfl⟩
          cases us with
          | nil => simp at h0
          | cons u us =>
            refine key _ (setV_size _ _ _) fun j => ?_
            rw [setV_get _ _ _ _ (by omega)]
            by_cases hj : off <= j /\ j < off + (u :: us).length
            · rw [if_pos hj,if_pos (by omega)]; congr 1 <;> omega
            · rw [if_neg hj,if_neg (by omega)]
    · cases hw
  · cases hw
section
variable {pv : Pv} {P : Program} (ok : pv.Ok P)
include ok
theorem store_ok {w : World} {st st' : St} {β : Nat -> Option (Nat × Nat)} {Z : Nat -> Prop} (h : Sim w st β Z) {t : Nat} {d e : D} {u v : Value} (hu : VR w (st.x β Z) d u) (hv : VR w (st.x β Z) e v) (hs : storeD pv t d e st = some st') :
    ∃ w',(Instr.storeAt t u v).run P w = .ok () w' /\ Nx w st β Z w' st' β Z := by
  unfold storeD at hs
  split at hs
  · rename_i k ver off cs hcs
    split at hs
    · rename_i hsz
      obtain ⟨a,rfl,hk,hat⟩ := vr_pointer hu
      have hc := cells_ok hv hcs
      have hver : st.ver k = some ver := by
        unfold St.wr at hs
        split at hs
        · rename_i hm; exact (mem_spec hm).2
        · cases hs
      obtain ⟨b,base,hb,rfl⟩ := hat hver
      obtain ⟨w',h1,β',h2,rfl⟩ := wr_ok (P := P) h hc hs hb (.inr rfl)
      refine ⟨w',?_,h2⟩
      have hsize : v.cells.size = cs.length := by rw [hc.len]; simp
      simp [Instr.storeAt,Instr.sureAddr,storeVar,run_size ok hsz,hsize,h1]
    · cases hs
  · cases hs
theorem copy_ok {w : World} {st st' : St} {β : Nat -> Option (Nat × Nat)} {Z : Nat -> Prop} (h : Sim w st β Z) {ats : List TypeId} {ty : TypeId} {d e r : D} {u v : Value} (hu : VR w (st.x β Z) d u) (hv : VR w (st.x β Z) e v)
    (hs : copyD pv ats d e st = some (r,st')) : ∃ z w',(Builtin.copy_ ats.toArray ty #[u,v]).run P w = .ok z w' /\ Nx w st β Z w' st' β Z /\ VR w' (st'.x β Z) r z := by
  unfold copyD at hs
  split at hs
  · rename_i dT rest
    split at hs
    · rename_i el hdt
      obtain ⟨s,hsz,hs⟩ := Option.bind_eq_some_iff.1 hs
      obtain ⟨⟨m,ys⟩,hrow,hs⟩ := Option.bind_eq_some_iff.1 hs
      dsimp only at hs
      split at hs
      · cases hs
      · rename_i hys
        have hys : ys.length = m * s := Decidable.not_not.1 hys
        obtain ⟨hlen,hcells⟩ := row_ok (P := P) h hv hrow
        cases d with
        | win k ver off len sz =>
          simp only at hs
          split at hs
          · cases hs
          · rename_i hss
            have hss : sz = s := Decidable.not_not.1 hss
            subst hss
            obtain ⟨a,cap,rfl,hc,hk,_,hat⟩ := vr_win hu
            obtain ⟨st1,hwr,hs⟩ := Option.map_eq_some_iff.1 hs
            cases hs
            have hver : st.ver k = some ver := by
              unfold St.wr at hwr
              split at hwr
              · rename_i hm; exact (mem_spec hm).2
              · cases hwr
            obtain ⟨b,base,sz',hb,_,had⟩ := hat hver
            obtain ⟨us,h1,h2⟩ := hcells sz (min m len) (Nat.min_le_left _ _) hys
            have hla : us = [] \/ a = ⟨b,base + off,none⟩ := by
              rcases had with rfl | ⟨rfl,_⟩
              · left
                have : len = 0 := by omega
                subst this
                have := h2.len
                simp at this
                exact List.length_eq_zero_iff.1 this.symm
              · exact .inr rfl
            obtain ⟨w',h3,β',h4,rfl⟩ := wr_ok (P := P) h h2 hwr hb hla
            refine ⟨_,w',?_,h4, .im _ _ (.int _ _)⟩
            have hmin : Nat.min m len = min m len := rfl
            simp only [Builtin.copy_,List.getElem?_toArray,List.getElem?_cons_zero,List.getElem?_cons_succ,Sem.run_bind,run_und ok hdt,Result.andThen_ok,hlen,run_size ok hsz,hmin,h1,h3,Sem.run_pure,goInt]
        | nul =>
          cases hs
          rw [vr_nul hu]
          obtain ⟨us,h1,h2⟩ := hcells s 0 (Nat.zero_le _) hys
          have hus : us = [] := by have := h2.len; simp at this; exact List.length_eq_zero_iff.1 this.symm
          subst hus
          refine ⟨.int .i64 0,w,?_,Nx.same h, .im _ _ (.int _ _)⟩
          have hmin : Nat.min m 0 = 0 := Nat.min_zero m
          simp only [Builtin.copy_,List.getElem?_toArray,List.getElem?_cons_zero,List.getElem?_cons_succ,Sem.run_bind,run_und ok hdt,Result.andThen_ok,hlen,run_size ok hsz,hmin,h1,Sem.run_pure,goInt]
          rfl
        | _ => cases hs
    · cases hs
  · cases hs
end
end Go.V
namespace Go.V
open Go.RowKit
theorem grow_le : ∀ (r c n : Nat),c <= n + n / 4 + 192 -> Builtin.growBy n r c <= n + n / 4 + 192
  | 0,c,n,h => h
  | r + 1,c,n,h => by
    unfold Builtin.growBy
    split
    · exact h
    · exact grow_le r _ n (by omega)
theorem next_le (n c : Nat) (h : c <= n) : Builtin.nextslicecap n c <= 2 * n + 192 := by
  unfold Builtin.nextslicecap
  split
  · omega
  · split
    · omega
    · have := grow_le 4 c n (by omega); omega
theorem next_room {need c bytes : Nat} (hc : c <= need) (h1 : 1 <= need) (h : need * bytes <= 1099511627776) : ¬ Builtin.nextslicecap need c * bytes > 2 ^ 48 := by
  have h2 := Nat.mul_le_mul_right bytes (next_le need c hc)
  rw [Nat.add_mul,Nat.mul_assoc] at h2
  have h3 : bytes <= need * bytes := by have := Nat.mul_le_mul_right bytes h1; omega
  have : 192 * bytes <= 192 * 1099511627776 := Nat.mul_le_mul_left _ (by omega)
  omega
theorem cap_ge (need old : Nat) (el : TypeId) (t : Nat) : need <= (Question.appendCap need old el).cut t := by
  simp only [Question.cut]; omega
theorem rowSize_alloc (w : World) (cs : Array Value) (el : TypeId) (fr : Nat × Nat) : rowSize (w.alloc (.cells cs el fr)) w.heap.size = some cs.size := by
  have : (w.alloc (.cells cs el fr)).heap[w.heap.size]? = some (.cells cs el fr) := by
    show (w.heap.push _)[w.heap.size]? = _
    simp
  simp only [rowSize,this]
theorem win_fresh {w' : World} {x : X} {k v len s cap b sz : Nat} (hver : x.ver k = some v) (hb : x.β k = some (b,0)) (hsz : rowSize w' b = some sz) (hl : len <= cap) (hc : cap * s <= sz) :
    VR w' x (.win k v 0 len s) (.slice (some ⟨b,0,none⟩) len cap) := by
  refine .win k v 0 len s _ cap hl ⟨_,hb⟩ (fun c hc' => ?_) fun _ => ⟨b,0,sz,hb,hsz, .inr ⟨rfl,by omega⟩⟩
  rw [hver] at hc'; cases hc'; exact Nat.le_refl _
def appIn (i : TypeInfo) (base : Option Addr) (sLen sCap n : Nat) (v : Value) : Sem Value := do
  let new <- Builtin.firstCells i.size n v
  if let some a := base then storeCells (a.add (sLen * i.size)) new.toList
  pure (.slice base (sLen + n) sCap)
def appOut (el : TypeId) (i : TypeInfo) (base : Option Addr) (sLen sCap n : Nat) (v : Value) : Sem Value := do
  let newCap <- choose (.appendCap (sLen + n) sCap el)
  askRoom (newCap * i.bytes)
  let old <- Builtin.firstCells i.size sLen (.slice base sLen sCap)
  let new <- Builtin.firstCells i.size n v
  let z <- zeroValue el
  pure (.slice (some (<- newRow el (old ++ new ++ Builtin.zeroCells z.cells (newCap - (sLen + n))))) (sLen + n) newCap)
section
variable {pv : Pv} {P : Program} (ok : pv.Ok P)
include ok
theorem app_in {w : World} {sT xT el n : Nat} {rest : List TypeId} {ty : TypeId} {xd : TypeDesc} {i : TypeInfo} {base : Option Addr} {sLen sCap : Nat} {v : Value} (hsT : pv.und sT = some (.slice el)) (hxT : pv.und xT = some xd) (hnz : ¬ isIntT xd = true)
    (hi : pv.info el = some i) (hlen : (Builtin.lenOf v).run P w = .ok n w) (hcap : sLen + n <= sCap) :
    (Builtin.append_ (sT :: xT :: rest).toArray ty #[.slice base sLen sCap,v]).run P w = (appIn i base sLen sCap n v).run P w := by
  have hsize : ∀ w' : World,(sizeOf el).run P w' = .ok i.size w' := run_size ok (size_of_info hi)
  cases xd <;> first
    | exact absurd rfl hnz
    | (simp only [Builtin.append_,appIn,List.getElem?_toArray,List.getElem?_cons_zero,List.getElem?_cons_succ,Sem.run_bind,run_und ok hsT,run_und ok hxT,Result.andThen_ok,hsize,Sem.run_pure,Bool.false_eq_true,if_false,hlen,hcap,if_true,Bool.not_false]; rfl)
theorem app_out {w : World} {sT xT el n : Nat} {rest : List TypeId} {ty : TypeId} {xd : TypeDesc} {i : TypeInfo} {base : Option Addr} {sLen sCap : Nat} {v : Value} (hsT : pv.und sT = some (.slice el)) (hxT : pv.und xT = some xd) (hnz : ¬ isIntT xd = true)
    (hi : pv.info el = some i) (hlen : (Builtin.lenOf v).run P w = .ok n w) (hcap : ¬ sLen + n <= sCap) (hby : ¬ i.bytes = 0) (hroom : ¬ Builtin.nextslicecap (sLen + n) sCap * i.bytes > 2 ^ 48) :
    (Builtin.append_ (sT :: xT :: rest).toArray ty #[.slice base sLen sCap,v]).run P w = (appOut el i base sLen sCap n v).run P w := by
  have hsize : ∀ w' : World,(sizeOf el).run P w' = .ok i.size w' := run_size ok (size_of_info hi)
  have hinfo : ∀ w' : World,(typeInfo el).run P w' = .ok i w' := run_info ok hi
  cases xd <;> first
    | exact absurd rfl hnz
    | (simp only [Builtin.append_,appOut,List.getElem?_toArray,List.getElem?_cons_zero,List.getElem?_cons_succ,Sem.run_bind,run_und ok hsT,run_und ok hxT,Result.andThen_ok,hsize,Sem.run_pure,Bool.false_eq_true,if_false,hlen,hcap,hinfo,hby,hroom,or_self,and_false,Bool.not_false,if_true]; try rfl)
theorem append_ok {w : World} {st st' : St} {β : Nat -> Option (Nat × Nat)} {Z : Nat -> Prop} (h : Sim w st β Z) {ats : List TypeId} {ty : TypeId} {d e r : D} {u v : Value} (hu : VR w (st.x β Z) d u) (hv : VR w (st.x β Z) e v)
    (hs : appendD pv ats d e st = some (r,st')) : ∃ z w' β',(Builtin.append_ ats.toArray ty #[u,v]).run P w = .ok z w' /\ Nx w st β Z w' st' β' Z /\ VR w' (st'.x β' Z) r z := by
  unfold appendD at hs
  split at hs
  · rename_i sT xT rest
    split at hs
    · rename_i el xd hsT hxT
      split at hs
      · cases hs
      · rename_i hnz
        obtain ⟨i,hi,hs⟩ := Option.bind_eq_some_iff.1 hs
        obtain ⟨z,hz,hs⟩ := Option.bind_eq_some_iff.1 hs
        obtain ⟨⟨n,ys⟩,hrow,hs⟩ := Option.bind_eq_some_iff.1 hs
        dsimp only at hs
        split at hs
        · cases hs
        · rename_i hck
          simp only [not_or] at hck
          obtain ⟨hys,hby,hzl⟩ := hck
          have hys : ys.length = n * i.size := Decidable.not_not.1 hys
          have hzl : z.length = i.size := Decidable.not_not.1 hzl
          obtain ⟨hlen,hcells⟩ := row_ok (P := P) h hv hrow
          obtain ⟨us,hus1,hus2⟩ := hcells i.size n (Nat.le_refl _) hys
          rw [<- hys,List.take_length] at hus2
          have hS : Nx w st β Z w.drew st β Z := Nx.still h rfl rfl rfl rfl
          obtain ⟨zv,hzv,hzc⟩ := zero_cells ok w.drew (st.x β Z) hz
          have hzs : zv.cells.size = i.size := by have := hzc.len; rw [hzl] at this; simpa using this.symm
          obtain ⟨vs,hvs1,hvs2⟩ := (row_ok (P := P) hS.sim (hv.mono hS.keeps) hrow).2 i.size n (Nat.le_refl _) hys
          rw [<- hys,List.take_length] at hvs2
          have grow : ∀ (base : Option Addr) (sLen sCap : Nat) (os : List Value),u = .slice base sLen sCap -> ¬ (sLen + n <= sCap) -> (Builtin.firstCells i.size sLen u).run P w.drew = .ok os.toArray w.drew -> os.length = sLen * i.size ->
              1 <= sLen + n -> (sLen + n) * i.bytes <= 1099511627776 ->
              ∃ cap cs,(Builtin.append_ (sT :: xT :: rest).toArray ty #[u,v]).run P w = .ok (.slice (some ⟨w.heap.size,0,none⟩) (sLen + n) cap) (w.drew.alloc (.cells cs el)) /\ sLen + n <= cap /\
                cap * i.size <= cs.size /\ ∀ (j : Nat) q,(os ++ vs)[j]? = some q -> cs[j]? = some q := by
            intro base sLen sCap os hue hcap hos hosl h1 hroom
            subst hue
            have hcut := cap_ge (sLen + n) sCap el (w.tape w.drawn (.appendCap (sLen + n) sCap el))
            generalize hq : (Question.appendCap (sLen + n) sCap el).cut (w.tape w.drawn (.appendCap (sLen + n) sCap el)) = cap at hcut
            refine ⟨cap,os.toArray ++ vs.toArray ++ Builtin.zeroCells zv.cells (cap - (sLen + n)),?_,hcut,?_,?_⟩
            · have hroom' := next_room (bytes := i.bytes) (Nat.le_of_lt (Nat.lt_of_not_le hcap)) h1 hroom
              rw [app_out ok hsT hxT hnz hi hlen hcap hby hroom',appOut]
              simp only [Sem.run_bind,run_choose,Question.forced,Bool.false_eq_true,if_false,Result.andThen_ok,run_askRoom]
              have hdr : ({ w with drawn := w.drawn + 1 } : World) = w.drew := rfl
              rw [hdr,hq]
              simp only [Result.andThen_ok,hos,hvs1,hzv,newRow,Sem.run_bind,run_newObj,Sem.run_pure]
              rfl
            · simp only [Array.size_append,List.size_toArray,Builtin.zeroCells,Array.size_map,Array.size_range,hzs]
              have := hvs2.len
              rw [hosl, <- this,hys, <- Nat.add_mul, <- Nat.add_mul]
              exact Nat.mul_le_mul_right _ (by omega)
            · intro j q hj
              have hlt : j < (os ++ vs).length := by
                rcases Nat.lt_or_ge j (os ++ vs).length with h' | h'
                · exact h'
                · rw [List.getElem?_eq_none h'] at hj; cases hj
              rw [Array.getElem?_append_left (by simpa using hlt)]
              simpa using hj
          cases d with
          | nul =>
            have hu0 := vr_nul hu
            simp only at hs
            split at hs
            · rename_i hn
              cases hs
              subst hu0; subst hn
              have hus0 : us = [] := by have := hus2.len; rw [hys] at this; simp at this; exact List.length_eq_zero_iff.1 this.symm
              subst hus0
              refine ⟨.slice none 0 0,w,β,?_,Nx.same h, .im _ _ .nul⟩
              rw [app_in ok hsT hxT hnz hi hlen (by omega),appIn]
              simp only [Sem.run_bind,hus1,Result.andThen_ok,Sem.run_pure]
            · rename_i hn
              split at hs
              · rename_i hroom
                cases hs
                obtain ⟨cap,cs,h1,h2,h3,h4⟩ := grow none 0 0 [] hu0 (by omega) (by rw [hu0]; simp [Builtin.firstCells]) (by simp) (by omega) (by simpa using hroom)
                simp only [Nat.zero_add,List.nil_append] at h1 h2 h4
                obtain ⟨hx,hx1,hx2,hx3⟩ := Nx.push_mem (w' := w.drew.alloc (.cells cs el)) hS.sim true ys cs el (0,0) rfl rfl rfl rfl (by
                  rw [hys]; exact Nat.le_trans (Nat.mul_le_mul_right _ h2) h3) (FrOk.zero _) (fun j q hq => by
                    obtain ⟨y,hy1,hy2,hy3⟩ := hvs2.at_ hq
                    exact ⟨y,h4 j y hy1,hy2,hy3⟩)
                exact ⟨_,_,_,h1,hS.trans hx,win_fresh hx2 hx3 hx1 h2 h3⟩
              · cases hs
          | win k ver off len sz =>
            simp only at hs
            split at hs
            · rename_i c hm
              split at hs
              · cases hs
              · rename_i hsz
                simp only [not_or,Nat.not_lt] at hsz
                obtain ⟨hsz,hcl⟩ := hsz
                have hsz : sz = i.size := Decidable.not_not.1 hsz
                obtain ⟨a,cap,rfl,hc,hk,_,hat⟩ := vr_win hu
                obtain ⟨b,base,sz',hb,hrs,had⟩ := hat (mem_spec hm).2
                split at hs
                · rename_i hn
                  cases hs
                  subst hn
                  have hus0 : us = [] := by have := hus2.len; rw [hys] at this; simp at this; exact List.length_eq_zero_iff.1 this.symm
                  subst hus0
                  refine ⟨.slice (some a) len cap,w,β,?_,Nx.same h,hu⟩
                  rw [app_in ok hsT hxT hnz hi hlen (by omega),appIn]
                  simp only [Sem.run_bind,hus1,Result.andThen_ok,Sem.run_pure]
                  rfl
                · rename_i hn
                  split at hs
                  · rename_i hroom
                    obtain ⟨hroom,hcw⟩ := hroom
                    cases hs
                    subst hsz
                    have hclen : ((c.take (off + len * i.size)).drop off).length = len * i.size := by simp; omega
                    obtain ⟨cs0,el0,fr0,r1,r2,r3,r4⟩ := h.row hm hb
                    by_cases hcap : len + n <= cap
                    ·
                      have had' : a = ⟨b,base + off,none⟩ /\ base + off + cap * i.size <= sz' := by
                        rcases had with h0 | h0
                        · omega
                        · exact h0
                      obtain ⟨rfl,hfit⟩ := had'
                      have hsz' : cs0.size = sz' := by simp only [rowSize,r1] at hrs; cases hrs; rfl
                      have husl : us.length = n * i.size := by rw [<- hus2.len,hys]
                      have hfit2 : (len + n) * i.size <= cap * i.size := Nat.mul_le_mul_right _ hcap
                      rw [Nat.add_mul] at hfit2
                      have hrun := run_storeRow (P := P) us 0 (base + off + len * i.size) w cs0 r1 (by omega) r3.2 hus2.one
                      have hadd : (⟨b,base + off,none⟩ : Addr).add (len * i.size) = ⟨b,base + off + len * i.size,none⟩ := by
                        unfold Addr.add; split
                        · rename_i e; rw [e]; rfl
                        · rfl
                      have hne : us ≠ [] \/ us = [] := by cases us <;> simp
                      have hkey : (storeCells ⟨b,base + off + len * i.size,none⟩ us).run P w = .ok () (wput w b (.cells (setV cs0 (base + off + len * i.size) us) el0 fr0)) := by
                        rw [hrun]
                        cases us with
                        | nil =>
                          simp only [setV]
                          have hb' : b < w.heap.size := h.lt k b base hb
                          congr 1
                          simp only [wput]
                          have : w.heap.setIfInBounds b (.cells cs0 el0 fr0) = w.heap := by
                            apply Array.ext_getElem?
                            intro j
                            by_cases hj : b = j
                            · subst hj; rw [Array.getElem?_setIfInBounds_self_of_lt hb',r1]
                            · rw [Array.getElem?_setIfInBounds_ne hj]
                          rw [this]
                        | cons _ _ => simp
                      have hx := Nx.write (a' := true) (ver' := ver + 1) (c' := (c.take (off + len * i.size)).drop off ++ ys) (base' := base + off) h hm hb (canW_ro hcw) (by omega) (fun e => by omega) r1
                        (setV_size us cs0 (base + off + len * i.size)) (by rw [List.length_append,hclen,hys]; omega) (fun j q hq => by
                          rw [setV_get _ _ _ _ (by omega)]
                          rw [List.getElem?_append] at hq
                          split at hq
                          · rename_i hj
                            rw [hclen] at hj
                            rw [if_neg (by omega)]
                            rw [List.getElem?_drop,List.getElem?_take] at hq
                            split at hq
                            · have := r4 _ q hq
                              rwa [show base + (off + j) = base + off + j by omega] at this
                            · cases hq
                          · rename_i hj
                            rw [hclen] at hj hq
                            obtain ⟨y,hy1,hy2,hy3⟩ := hus2.at_ hq
                            have hjl : j - len * i.size < us.length := by
                              rcases Nat.lt_or_ge (j - len * i.size) us.length with h' | h'
                              · exact h'
                              · rw [List.getElem?_eq_none h'] at hy1; cases hy1
                            rw [if_pos (by omega)]
                            exact ⟨y,by rw [<- hy1]; congr 1; omega,hy2,hy3⟩)
                      have hkl : k < st.bs.length := h.dom k b base hb
                      refine ⟨.slice (some ⟨b,base + off,none⟩) (len + n) cap,_,_,?_,hx,?_⟩
                      · rw [app_in ok hsT hxT hnz hi hlen hcap,appIn]
                        simp only [Sem.run_bind,hus1,Result.andThen_ok,Sem.run_pure,hadd,hkey]
                      · refine .win k (ver + 1) 0 (len + n) i.size _ cap hcap ⟨_,by simp [St.x]; rfl⟩ (fun q hq => ?_) fun _ => ⟨b,base + off,cs0.size,by simp [St.x],?_, .inr ⟨rfl,by omega⟩⟩
                        · simp [St.x,St.ver,hkl,boxVer] at hq; omega
                        · have hb' : b < w.heap.size := h.lt k b base hb
                          simp only [rowSize,wput]
                          rw [Array.getElem?_setIfInBounds_self_of_lt hb']
                          simp [setV_size]
                    ·
                      have hold : ∃ os : List Value,(Builtin.firstCells i.size len (.slice (some a) len cap)).run P w.drew = .ok os.toArray w.drew /\ LR w.drew (st.x β Z) ((c.take (off + len * i.size)).drop off) os := by
                        have hrow' : rowD st (.win k ver off len i.size) = some (len,(c.drop off).take (len * i.size)) := by
                          simp [rowD,hm,hcl]
                        have := (row_ok (P := P) hS.sim (hu.mono hS.keeps) hrow').2 i.size len (Nat.le_refl _) (by simp; omega)
                        obtain ⟨os,ho1,ho2⟩ := this
                        refine ⟨os,ho1,?_⟩
                        rw [List.take_take,Nat.min_self] at ho2
                        rwa [List.drop_take,Nat.add_sub_cancel_left]
                      obtain ⟨os,ho1,ho2⟩ := hold
                      have hosl : os.length = len * i.size := by rw [<- ho2.len,hclen]
                      obtain ⟨cap',cs,h1,h2,h3,h4⟩ := grow (some a) len cap os rfl hcap ho1 hosl (by omega) hroom
                      have hlr := ho2.append hvs2
                      have hx := Nx.move (w' := w.drew.alloc (.cells cs el)) (a' := true) (c' := (c.take (off + len * i.size)).drop off ++ ys) hS.sim hm hb (canW_ro hcw) rfl rfl rfl rfl (by
                        rw [List.length_append,hclen,hys, <- Nat.add_mul]; exact Nat.le_trans (Nat.mul_le_mul_right _ h2) h3) (fun j q hq => by
                          obtain ⟨y,hy1,hy2,hy3⟩ := hlr.at_ hq
                          exact ⟨y,h4 j y hy1,hy2,hy3⟩)
                      have hkl : k < st.bs.length := h.dom k b base hb
                      refine ⟨_,_,_,h1,hS.trans hx,?_⟩
                      refine .win k (ver + 1) 0 (len + n) i.size _ cap' h2 ⟨_,by simp [St.x]; rfl⟩ (fun q hq => ?_) fun _ => ⟨w.heap.size,0,cs.size,by simp [St.x],rowSize_alloc w.drew cs el (0,0), .inr ⟨rfl,by omega⟩⟩
                      simp [St.x,St.ver,hkl,boxVer] at hq; omega
                  · cases hs
            · cases hs
          | _ => cases hs
    · cases hs
  · cases hs
end
end Go.V
namespace Go.V
open Go.RowKit
theorem add_mk (b o n : Nat) : (⟨b,o,none⟩ : Addr).add n = ⟨b,o + n,none⟩ := by
  unfold Addr.add; split
  · rename_i e; subst e; rfl
  · rfl
theorem IR.epDrop {w : World} {Z : Nat -> Prop} {cs : List D} {b off : Nat} {f : Nat -> Value} (hz : Z b) (hv : ∀ (j : Nat) c,cs[j]? = some c -> w.cell? ⟨b,off + j,none⟩ = some (f j) /\ (f j).oneCell' = true)
    (hr : ∀ (j : Nat) c,cs[j]? = some c -> IR w Z c (f j)) (n : Nat) : IR w Z (.ep (cs.drop n)) (.pointer (some ⟨b,off + n,none⟩)) := by
  refine .ep _ b (off + n) (fun j => f (n + j)) hz (fun j c hj => ?_) (fun j c hj => ?_)
  · rw [List.getElem?_drop] at hj
    have := hv _ c hj
    rwa [show off + (n + j) = off + n + j by omega] at this
  · rw [List.getElem?_drop] at hj
    exact hr _ c hj
theorem VR.ptrAdd {w : World} {x : X} {k vr off : Nat} {a : Addr} (h : VR w x (.ptr k vr off) (.pointer (some a))) (n : Nat) : VR w x (.ptr k vr (off + n)) (.pointer (some (a.add n))) := by
  cases h with
  | im _ _ h => cases h
  | ptr _ _ _ _ hk hm h =>
    refine .ptr k vr (off + n) _ hk hm fun hv => ?_
    obtain ⟨b,base,hb,rfl⟩ := h hv
    exact ⟨b,base,hb,by rw [add_mk,Nat.add_assoc]⟩
theorem extract_bytes (s : List UInt8) (l h : Nat) : (⟨s.toArray⟩ : ByteArray).extract l h = ⟨((s.take h).drop l).toArray⟩ := by
  apply ByteArray.ext
  simp [ByteArray.data_extract,List.extract_eq_take_drop,List.drop_take]
section
variable {pv : Pv} {P : Program} (ok : pv.Ok P)
include ok
theorem fieldAddr_ok {w : World} {x : X} {t i : Nat} {d r : D} {u : Value} (hu : VR w x d u) (h : fieldAddrD pv t d i = some r) : ∃ z,(Instr.fieldAt t u i).run P w = .ok z w /\ VR w x r z := by
  unfold fieldAddrD at h
  split at h
  · rename_i fields ht
    obtain ⟨f,hf,h⟩ := Option.bind_eq_some_iff.1 h
    split at h
    · cases h
    · rename_i h0
      obtain ⟨s,hs,h⟩ := Option.bind_eq_some_iff.1 h
      have hs0 : ¬ s = 0 := by intro e; subst e; exact h0 hs
      split at h
      · cases h
        obtain ⟨a,rfl,_⟩ := vr_pointer hu
        refine ⟨.pointer (some (a.add f.offset)),?_,hu.ptrAdd _⟩
        simp [Instr.fieldAt,run_und ok ht,hf,Instr.sureAddr,fieldPlace,run_size ok hs,hs0]
      · cases h
        obtain ⟨b,off,rfl,hz,_,g,hv,hr⟩ := vr_ep hu
        refine ⟨.pointer (some ((⟨b,off,none⟩ : Addr).add f.offset)),?_, .im _ _ ?_⟩
        · simp [Instr.fieldAt,run_und ok ht,hf,Instr.sureAddr,fieldPlace,run_size ok hs,hs0]
        · rw [add_mk]; exact IR.epDrop hz hv hr _
      · cases h
  · cases h
theorem field_ok {w : World} {x : X} {t i : Nat} {d r : D} {u : Value} (hu : VR w x d u) (h : fieldD pv t d i = some r) : ∃ z,(Instr.field t u i).run P w = .ok z w /\ VR w x r z := by
  unfold fieldD at h
  split at h
  · rename_i fields cs ht
    obtain ⟨f,hf,h⟩ := Option.bind_eq_some_iff.1 h
    obtain ⟨us,rfl,hl,h1,hr⟩ := vr_agg hu
    obtain ⟨z,hz,hz'⟩ := part_ok ok hl h1 hr h
    exact ⟨z,by simp [Instr.field,run_und ok ht,hf,asAgg,hz],hz'⟩
  · cases h
theorem index_ok {w : World} {x : X} {t : Nat} {d e r : D} {u v : Value} (hu : VR w x d u) (hv : VR w x e v) (h : indexD pv t d e = some r) : ∃ z,(Instr.index t u v).run P w = .ok z w /\ VR w x r z := by
  unfold indexD at h
  split at h
  · rename_i k i
    rw [vr_int hv]
    split at h
    · rename_i len el cs ht
      obtain ⟨s,hs,h⟩ := Option.bind_eq_some_iff.1 h
      split at h
      · rename_i hi
        obtain ⟨us,rfl,hl,h1,hr⟩ := vr_agg hu
        obtain ⟨z,hz,hz'⟩ := part_ok ok hl h1 hr h
        exact ⟨z,by simp [Instr.index,asIntOf,run_und ok ht,hi,run_size ok hs,hz],hz'⟩
      · cases h
    · rename_i l ht
      split at h
      · rename_i hi
        obtain ⟨b,hb,rfl⟩ := Option.map_eq_some_iff.1 h
        rw [vr_str hu]
        refine ⟨.int .u8 b.toNat,?_, .im _ _ (.int _ _)⟩
        have : (⟨l.toArray⟩ : ByteArray)[i.toNat]? = some b := by
          have hlt : i.toNat < l.length := by
            rcases Nat.lt_or_ge i.toNat l.length with h' | h'
            · exact h'
            · rw [List.getElem?_eq_none h'] at hb; cases hb
          rw [getElem?_pos (⟨l.toArray⟩ : ByteArray) i.toNat (by simpa [ByteArray.size] using hlt)]
          rw [List.getElem?_eq_getElem hlt] at hb
          cases hb
          rfl
        simp [Instr.index,asIntOf,run_und ok ht,hi,this]
      · cases h
    · cases h
  · cases h
theorem indexAddr_ok {w : World} {st : St} {β : Nat -> Option (Nat × Nat)} {Z : Nat -> Prop} {t : Nat} {d e r : D} {u v : Value} (hu : VR w (st.x β Z) d u) (hv : VR w (st.x β Z) e v) (h : indexAddrD pv t d e st = some r) :
    ∃ z,(Instr.indexAt t u v).run P w = .ok z w /\ VR w (st.x β Z) r z := by
  unfold indexAddrD at h
  split at h
  · rename_i k i
    rw [vr_int hv]
    split at h
    · rename_i len el k ver off ht
      obtain ⟨s,hs,h⟩ := Option.bind_eq_some_iff.1 h
      split at h
      · rename_i hi
        cases h
        obtain ⟨a,rfl,_⟩ := vr_pointer hu
        exact ⟨.pointer (some (a.add (i.toNat * s))),by simp [Instr.indexAt,asIntOf,run_und ok ht,Instr.sureAddr,hi,run_size ok hs],hu.ptrAdd _⟩
      · cases h
    · rename_i len el c ht
      obtain ⟨s,hs,h⟩ := Option.bind_eq_some_iff.1 h
      split at h
      · rename_i hi
        cases h
        obtain ⟨b,off,rfl,hz,_,g,hv,hr⟩ := vr_ep hu
        refine ⟨.pointer (some ((⟨b,off,none⟩ : Addr).add (i.toNat * s))),by simp [Instr.indexAt,asIntOf,run_und ok ht,Instr.sureAddr,hi,run_size ok hs], .im _ _ ?_⟩
        rw [add_mk]; exact IR.epDrop hz hv hr _
      · cases h
    · rename_i el es ht
      obtain ⟨s,hs,h⟩ := Option.bind_eq_some_iff.1 h
      split at h
      · rename_i hi
        obtain ⟨d,hd,h⟩ := Option.bind_eq_some_iff.1 h
        obtain ⟨cs,hcs,h⟩ := Option.bind_eq_some_iff.1 h
        split at h
        · rename_i hlen
          cases h
          have hlt : i.toNat < es.length := by
            rcases Nat.lt_or_ge i.toNat es.length with h' | h'
            · exact h'
            · rw [List.getElem?_eq_none h'] at hd; cases hd
          obtain ⟨a,cap,rfl,hc,h' | ⟨b,off,s0,rfl,hz,hst,_,f,hv,hr⟩⟩ := vr_sl hu
          · subst h'; simp at hlt
          · obtain ⟨hd1,hd2⟩ := hst _ d hd
            have hcd := cells_of hcs
            rw [hcd,hlen] at hd2; subst hd2
            refine ⟨.pointer (some ((⟨b,off,none⟩ : Addr).add (i.toNat * s))),?_, .im _ _ ?_⟩
            · have : (0 : Int) <= i /\ i < (es.length : Int) := by omega
              simp [Instr.indexAt,asIntOf,run_und ok ht,this,run_size ok hs]
            · rw [add_mk]
              refine .ep cs b _ (f i.toNat) hz (fun j c hj => ?_) (fun j c hj => hr _ d j c hd (by rw [hcd]; exact hj))
              have := hv _ d j c hd (by rw [hcd]; exact hj)
              rwa [<- Nat.add_assoc] at this
        · cases h
      · cases h
    · rename_i el k ver off len sz ht
      obtain ⟨s,hs,h⟩ := Option.bind_eq_some_iff.1 h
      split at h
      · rename_i hi
        obtain ⟨rfl,h0,h1,hm⟩ := hi
        cases h
        obtain ⟨a,cap,rfl,hc,hk,hmx,hat⟩ := vr_win hu
        refine ⟨.pointer (some (a.add (i.toNat * s))),by simp [Instr.indexAt,asIntOf,run_und ok ht,h0,h1,run_size ok hs],?_⟩
        refine .ptr k ver _ _ hk hmx fun hver => ?_
        obtain ⟨b,base,sz',hb,_,h' | ⟨rfl,_⟩⟩ := hat hver
        · omega
        · exact ⟨b,base,hb,by rw [add_mk,Nat.add_assoc]⟩
      · cases h
    · cases h
  · cases h
theorem slice3_ok {w : World} {x : X} {t : Nat} {d dh dm r : D} {u uh um : Value} (hu : VR w x d u) (hh : VR w x dh uh) (hm : VR w x dm um) (hs : slice3D pv t d dh dm = some r) :
    ∃ z,(Instr.sliceAt t u none (some uh) (some um)).run P w = .ok z w /\ VR w x r z := by
  unfold slice3D at hs
  split at hs
  · rename_i e k1 i k2 j ht
    obtain ⟨s,hsz,hs2⟩ := Option.bind_eq_some_iff.1 hs
    clear hs
    split at hs2
    · rename_i hij
      obtain ⟨rfl,rfl⟩ := hij
      cases hs2
      rw [vr_nul hu,vr_int hh,vr_int hm]
      refine ⟨.slice none 0 0,?_, .im _ _ .nul⟩
      simp [Instr.sliceAt,Instr.slice,Instr.sliceBounds,Instr.sliceBound,asIntOf,run_und ok ht,run_size ok hsz]
    · cases hs2
  · rename_i e k ver off len sz k1 i k2 j ht
    obtain ⟨s,hsz,hs2⟩ := Option.bind_eq_some_iff.1 hs
    clear hs
    split at hs2
    · rename_i hij
      obtain ⟨rfl,h0,rfl,h1⟩ := hij
      cases hs2
      rw [vr_int hh,vr_int hm]
      obtain ⟨a,cap,rfl,hc,hk,hmx,hat⟩ := vr_win hu
      refine ⟨.slice (some (if i.toNat = 0 then a else a.add 0)) i.toNat i.toNat,?_,?_⟩
      · have hi1 : 0 <= i /\ i <= (cap : Int) := by omega
        have hi2 : 0 <= i /\ i <= (i.toNat : Int) := by omega
        simp only [Instr.sliceAt,Instr.slice,Instr.sliceBounds,Instr.sliceBound,asIntOf,Sem.run_bind,run_und ok ht,Result.andThen_ok,run_size ok hsz,Sem.run_pure,if_pos hi1,if_pos hi2,Nat.zero_mul,Nat.sub_zero]
        split <;> rfl
      · refine .win k ver _ _ s _ _ (Nat.le_refl _) hk hmx fun hver => ?_
        obtain ⟨b,base,sz',hb',hrs,had⟩ := hat hver
        refine ⟨b,base,sz',hb',hrs,?_⟩
        by_cases hi0 : i.toNat = 0
        · left; omega
        · right
          rcases had with h' | ⟨rfl,hfit⟩
          · omega
          · rw [if_neg hi0,add_mk]
            refine ⟨by simp,?_⟩
            have := Nat.mul_le_mul_right s (show i.toNat <= cap by omega)
            omega
    · cases hs2
  · cases hs
theorem slice_ok {w : World} {st : St} {β : Nat -> Option (Nat × Nat)} {Z : Nat -> Prop} (h : Sim w st β Z) {t : Nat} {d r : D} {u : Value} {lo hi : Option D} {lo' hi' : Option Value} (hu : VR w (st.x β Z) d u)
    (hlo : ∀ d v,lo = some d -> lo' = some v -> VR w (st.x β Z) d v) (hhi : ∀ d v,hi = some d -> hi' = some v -> VR w (st.x β Z) d v) (el : lo.isSome = lo'.isSome) (eh : hi.isSome = hi'.isSome)
    (hs : sliceD pv t d lo hi st = some r) : ∃ z,(Instr.sliceAt t u lo' hi' none).run P w = .ok z w /\ VR w (st.x β Z) r z := by
  unfold sliceD at hs
  split at hs
  · rename_i s ht
    obtain ⟨⟨l,hh⟩,hb,hr⟩ := Option.map_eq_some_iff.1 hs
    try dsimp only at hr
    subst hr
    rw [vr_str hu]
    have hsz : (⟨s.toArray⟩ : ByteArray).size = s.length := by simp [ByteArray.size]
    obtain ⟨h1,h2,h3⟩ := bounds_ok (P := P) (w := w) (x := st.x β Z) false (Nat.le_refl _) hlo hhi el eh hb
    refine ⟨.string ⟨((s.take hh).drop l).toArray⟩,?_, .im _ _ (.str _)⟩
    simp [Instr.sliceAt,Instr.slice,run_und ok ht,hsz,h1,extract_bytes]
  · rename_i e ht
    obtain ⟨s,hsz,hs⟩ := Option.bind_eq_some_iff.1 hs
    obtain ⟨⟨l,hh⟩,hb,hr⟩ := Option.map_eq_some_iff.1 hs
    try dsimp only at hr
    subst hr
    rw [vr_nul hu]
    obtain ⟨h1,h2,h3⟩ := bounds_ok (P := P) (w := w) (x := st.x β Z) true (Nat.le_refl _) hlo hhi el eh hb
    have hl0 : l = 0 := by omega
    have hh0 : hh = 0 := by omega
    subst hl0; subst hh0
    refine ⟨.slice none 0 0,?_, .im _ _ .nul⟩
    simp [Instr.sliceAt,Instr.slice,run_und ok ht,h1,run_size ok hsz]
  · rename_i e es ht
    obtain ⟨s,hsz,hs⟩ := Option.bind_eq_some_iff.1 hs
    split at hs
    · rename_i hhd
      obtain ⟨⟨l,hh⟩,hb,hr⟩ := Option.map_eq_some_iff.1 hs
      try dsimp only at hr
      subst hr
      obtain ⟨a,cap,rfl,hc,hes⟩ := vr_sl hu
      obtain ⟨h1,h2,h3⟩ := bounds_ok (P := P) (w := w) (x := st.x β Z) true hc hlo hhi el eh hb
      refine ⟨.slice (if cap = l then a else a.map (·.add (l * s))) (hh - l) (cap - l),by simp [Instr.sliceAt,Instr.slice,run_und ok ht,h1,run_size ok hsz], .im _ _ ?_⟩
      have hlen : ((es.take hh).drop l).length = hh - l := by simp; omega
      by_cases hz0 : hh - l = 0
      · have : (es.take hh).drop l = [] := List.length_eq_zero_iff.1 (by rw [hlen]; exact hz0)
        rw [this,hz0]; exact .emp _ _
      · rw [if_neg (by omega)]
        rcases hes with rfl | ⟨b,off,s0,rfl,hz,hst,_,f,hv,hr⟩
        · simp at h3; omega
        · have hs0 : s0 = s := by
            cases es with
            | nil => simp at h3; omega
            | cons e0 es =>
              obtain ⟨q1,q2⟩ := hst 0 e0 rfl
              simp only [headOk,List.head?_cons,q1,beq_iff_eq] at hhd
              omega
          subst hs0
          have hget : ∀ (i : Nat) y,((es.take hh).drop l)[i]? = some y -> es[l + i]? = some y := by
            intro i y hy
            rw [List.getElem?_drop,List.getElem?_take] at hy
            split at hy
            · exact hy
            · cases hy
          have := IR.sl (w := w) (Z := (st.x β Z).Z) ((es.take hh).drop l) b (off + l * s0) (cap - l) s0 (fun i j => f (l + i) j) hz (by rw [hlen]; omega) (fun i y hy => hst _ y (hget i y hy)) (fun i y j c hy hj => by
            have := hv _ y j c (hget i y hy) hj
            rwa [show off + ((l + i) * s0 + j) = off + l * s0 + (i * s0 + j) by rw [Nat.add_mul]; omega] at this) (fun i y j c hy hj => hr _ y j c (hget i y hy) hj)
          rw [hlen] at this
          simpa [add_mk] using this
    · cases hs
  · rename_i e k ver off len sz ht
    obtain ⟨s,hsz,hs⟩ := Option.bind_eq_some_iff.1 hs
    split at hs
    · rename_i hss; subst hss
      obtain ⟨⟨l,hh⟩,hb,hr⟩ := Option.map_eq_some_iff.1 hs
      try dsimp only at hr
      subst hr
      obtain ⟨a,cap,rfl,hc,hk,hmx,hat⟩ := vr_win hu
      obtain ⟨h1,h2,h3⟩ := bounds_ok (P := P) (w := w) (x := st.x β Z) true hc hlo hhi el eh hb
      refine ⟨.slice (some (if cap = l then a else a.add (l * s))) (hh - l) (cap - l),?_,?_⟩
      · simp only [Instr.sliceAt,Instr.slice,Sem.run_bind,run_und ok ht,Result.andThen_ok,h1,run_size ok hsz,Sem.run_pure]
        split <;> rfl
      · refine .win k ver _ _ s _ _ (by omega) hk hmx fun hver => ?_
        obtain ⟨b,base,sz',hb',hrs,had⟩ := hat hver
        refine ⟨b,base,sz',hb',hrs,?_⟩
        by_cases hcl : cap = l
        · left; omega
        · right
          rcases had with h' | ⟨rfl,hfit⟩
          · omega
          · rw [if_neg hcl,add_mk]
            refine ⟨by rw [Nat.add_assoc],?_⟩
            have hle : l <= cap := by omega
            have : base + (off + l * s) + (cap - l) * s = base + off + cap * s := by
              rw [Nat.sub_mul]
              have := Nat.mul_le_mul_right s hle
              omega
            omega
    · cases hs
  · rename_i n e k ver off ht
    obtain ⟨s,hsz,hs⟩ := Option.bind_eq_some_iff.1 hs
    obtain ⟨⟨ar,c⟩,hm,hs⟩ := Option.bind_eq_some_iff.1 hs
    dsimp only at hs
    split at hs
    · rename_i hfit
      obtain ⟨⟨l,hh⟩,hb,hr⟩ := Option.map_eq_some_iff.1 hs
      try dsimp only at hr
      subst hr
      cases hu with
      | im _ _ hu => cases hu
      | ptr _ _ _ a hk hmx hat =>
        obtain ⟨b,base,hb',rfl⟩ := hat (mem_spec hm).2
        obtain ⟨cs,el',fr,r1,r2,_⟩ := h.row hm hb'
        obtain ⟨h1,h2,h3⟩ := bounds_ok (P := P) (w := w) (x := st.x β Z) false (Nat.le_refl n) hlo hhi el eh hb
        refine ⟨.slice (some (if n = l then ⟨b,base + off,none⟩ else (⟨b,base + off,none⟩ : Addr).add (l * s))) (hh - l) (n - l),?_,?_⟩
        · simp [Instr.sliceAt,run_und ok ht,Instr.sureAddr,h1,run_size ok hsz]
        · refine .win k ver _ _ s _ _ (by omega) hk hmx fun hver => ⟨b,base,cs.size,hb',by simp [rowSize,r1],?_⟩
          by_cases hcl : n = l
          · left; omega
          · right
            rw [if_neg hcl,add_mk]
            refine ⟨by rw [Nat.add_assoc],?_⟩
            have hle : l <= n := by omega
            have : base + (off + l * s) + (n - l) * s = base + off + n * s := by
              rw [Nat.sub_mul]
              have := Nat.mul_le_mul_right s hle
              omega
            omega
    · cases hs
  · cases hs
end
end Go.V
namespace Go.V
open Go.RowKit
theorem wrap_small {n : Int} (h0 : 0 <= n) (h1 : n <= 9223372036854775807) : IntKind.i64.wrap n = n := by
  rw [<- wrapD_eq]
  obtain ⟨m,rfl⟩ := Int.eq_ofNat_of_zero_le h0
  have : Nat.ble m (maxN .i64) = true := Nat.ble_eq_true_of_le (by simp [maxN]; omega)
  simp [wrapD,this]
theorem repl_len (z : List D) : ∀ n,(repl n z).length = n * z.length
  | 0 => by simp [repl]
  | n + 1 => by
    have := repl_len z n
    simp only [repl,List.replicate_succ,List.flatten_cons,List.length_append] at *
    rw [this,Nat.add_mul]; omega
theorem repl_get (z : List D) : ∀ (n j : Nat),j < n * z.length -> (repl n z)[j]? = z[j % z.length]?
  | 0,j,h => by simp at h
  | n + 1,j,h => by
    have ih := repl_get z n
    simp only [repl,List.replicate_succ,List.flatten_cons] at *
    rw [List.getElem?_append]
    split
    · rename_i hj; rw [Nat.mod_eq_of_lt hj]
    · rename_i hj
      rw [Nat.add_mul] at h
      rw [ih _ (by omega), <- Nat.mod_eq_sub_mod (by omega)]
def Quiet (w w' : World) : Prop := ∀ b,b < w.heap.size -> w'.heap[b]? = w.heap[b]?
theorem Quiet.refl (w : World) : Quiet w w := fun _ _ => rfl
theorem Quiet.push {w w' : World} {o : Obj} (h : w'.heap = w.heap.push o) : Quiet w w' := fun b hb => by rw [h,Array.getElem?_push,if_neg (by omega)]
theorem zeros_lr {w : World} {x : X} {s : Nat} {z : List D} {us : List Value} (h : LR w x z us) (n m : Nat) (hm : m <= n) (hz : us.length = s) (cells : Array Value) (hc : cells = (Array.range (n * s)).map (us.toArray[· % us.toArray.size]!)) :
    cells.size = n * s /\ ∀ (j : Nat) d,(repl m z)[j]? = some d -> ∃ u,cells[j]? = some u /\ u.oneCell' = true /\ VR w x d u := by
  subst hc
  refine ⟨by simp,fun j d hd => ?_⟩
  have hj : j < m * z.length := by
    rcases Nat.lt_or_ge j (m * z.length) with h' | h'
    · exact h'
    · rw [List.getElem?_eq_none (by rw [repl_len]; exact h')] at hd; cases hd
  rw [repl_get z m j hj] at hd
  obtain ⟨u,hu1,hu2,hu3⟩ := h.at_ hd
  have hl := h.len
  have hj' : j < n * s := by
    have := Nat.mul_le_mul_right z.length hm
    rw [<- hz, <- hl]; omega
  refine ⟨u,?_,hu2,hu3⟩
  have hu1' : us[j % us.length]? = some u := by rw [<- hl]; exact hu1
  have hlt : j % us.length < us.length := by
    rcases Nat.lt_or_ge (j % us.length) us.length with h' | h'
    · exact h'
    · rw [List.getElem?_eq_none h'] at hu1'; cases hu1'
  rw [List.getElem?_eq_getElem hlt] at hu1'
  simp only [Option.some.injEq] at hu1'
  simp [hj',hlt,hu1']
section
variable {pv : Pv} {P : Program} (ok : pv.Ok P)
include ok
omit ok in
theorem new_ok {w : World} {st : St} {β : Nat -> Option (Nat × Nat)} {Z : Nat -> Prop} (h : Sim w st β Z) {cs : List D} {v : Value} (hv : LR w (st.x β Z) cs v.cells.toList) (e : TypeId) :
    ∃ z w' β',((do pure (.pointer (some (<- newVar e v))) : Sem Value)).run P w = .ok z w' /\ Nx w st β Z w' (st.push (.mem 0 false cs)) β' Z /\ VR w' ((st.push (.mem 0 false cs)).x β' Z) (.ptr st.bs.length 0 0) z /\ Quiet w w' := by
  obtain ⟨hx,h1,h2,h3⟩ := Nx.push_mem (w' := w.alloc (.cells v.cells e)) h false cs v.cells e (0,0) rfl rfl rfl rfl (by rw [hv.len]; simp) (FrOk.zero _) (fun j d hd => by
    obtain ⟨u,hu1,hu2,hu3⟩ := hv.at_ hd
    exact ⟨u,by simpa using hu1,hu2,hu3⟩)
  refine ⟨.pointer (some ⟨w.heap.size,0,none⟩),_,_,?_,hx,?_,Quiet.push rfl⟩
  · simp only [newVar,newRow,Sem.run_bind,run_newObj,Result.andThen_ok,Sem.run_pure]; rfl
  · refine .ptr _ _ _ _ ⟨_,by simp [St.x,bpush]; rfl⟩ (fun c hc => ?_) fun _ => ⟨w.heap.size,0,by simp [St.x,bpush],rfl⟩
    simp only [St.x] at hc; rw [h2] at hc; cases hc; exact Nat.le_refl _
theorem alloc_ok {w : World} {st : St} {β : Nat -> Option (Nat × Nat)} {Z : Nat -> Prop} (h : Sim w st β Z) {e : Nat} {cs : List D} (hz : zeroC pv e = some cs) :
    ∃ z w' β',(Instr.alloc e true (.tuple #[])).run P w = .ok z w' /\ Nx w st β Z w' (st.push (.mem 0 false cs)) β' Z /\ VR w' ((st.push (.mem 0 false cs)).x β' Z) (.ptr st.bs.length 0 0) z /\ Quiet w w' := by
  obtain ⟨v,hv,hc⟩ := zero_cells ok w (st.x β Z) hz
  obtain ⟨z,w',β',h1,h2,h3,h4⟩ := new_ok (P := P) h hc e
  refine ⟨z,w',β',?_,h2,h3,h4⟩
  simp only [Instr.alloc,Sem.run_bind,hv,Result.andThen_ok] at *
  exact h1
theorem buildSlice_ok {w : World} {st st' : St} {β : Nat -> Option (Nat × Nat)} {Z : Nat -> Prop} (h : Sim w st β Z) {t len : Nat} {parts : List (Nat × D)} {parts' : List (Nat × Value)} {r : D} (hl : parts.length = parts'.length)
    (hr : ∀ (i : Nat) p q,parts[i]? = some p -> parts'[i]? = some q -> p.1 = q.1 /\ VR w (st.x β Z) p.2 q.2) (hs : buildSliceD pv t len parts st = some (r,st')) :
    ∃ z w' β',(Instr.buildSlice t len parts'.toArray).run P w = .ok z w' /\ Nx w st β Z w' st' β' Z /\ VR w' (st'.x β' Z) r z /\ Quiet w w' := by
  unfold buildSliceD at hs
  split at hs
  · rename_i e ht
    obtain ⟨s,hsz,hs⟩ := Option.bind_eq_some_iff.1 hs
    obtain ⟨z,hz,hs⟩ := Option.bind_eq_some_iff.1 hs
    split at hs
    · rename_i hck
      obtain ⟨hzl,hbig⟩ := hck
      obtain ⟨cs,hf,hs⟩ := Option.map_eq_some_iff.1 hs
      cases hs
      obtain ⟨v,hv,hc⟩ := zero_cells ok w (st.x β Z) hz
      have hvs : v.cells.toList.length = s := by rw [<- hc.len,hzl]
      have hzero : ∃ us : List Value,(if len * s = 0 then #[] else v.cells : Array Value) = us.toArray /\ ((Array.range (len * s)).map ((if len * s = 0 then #[] else v.cells : Array Value)[· % (if len * s = 0 then #[] else v.cells : Array Value).size]!)).toList.length = len * s /\
          LR w (st.x β Z) (repl len z) ((Array.range (len * s)).map ((if len * s = 0 then #[] else v.cells : Array Value)[· % (if len * s = 0 then #[] else v.cells : Array Value).size]!)).toList := by
        by_cases h0 : len * s = 0
        · refine ⟨[],by simp [h0],by simp,?_⟩
          have : repl len z = [] := List.length_eq_zero_iff.1 (by rw [repl_len,hzl]; exact h0)
          rw [this,h0]
          exact ⟨by simp,by simp,by simp⟩
        · obtain ⟨q1,q2⟩ := zeros_lr hc len len (Nat.le_refl _) hvs _ rfl
          simp only [h0,if_false]
          have e1 : v.cells.toList.toArray = v.cells := by simp
          rw [e1] at q1 q2
          refine ⟨v.cells.toList,by simp,by simp,⟨by rw [repl_len,hzl]; simp,fun u hu => ?_,fun i c u hc' hu => ?_⟩⟩
          · obtain ⟨j,hj⟩ := List.getElem?_of_mem hu
            have hjl : j < len * s := by
              rcases Nat.lt_or_ge j (len * s) with h' | h'
              · exact h'
              · rw [List.getElem?_eq_none (by simpa using h')] at hj; cases hj
            obtain ⟨u',hu1,hu2,_⟩ := q2 j _ (List.getElem?_eq_getElem (by rw [repl_len,hzl]; exact hjl))
            rw [Array.getElem?_toList] at hj
            rw [hj] at hu1; cases hu1; exact hu2
          · obtain ⟨u',hu1,_,hu3⟩ := q2 i c hc'
            rw [Array.getElem?_toList] at hu
            rw [hu] at hu1; cases hu1; exact hu3
      obtain ⟨us,hus,_,hlr⟩ := hzero
      obtain ⟨rs,f1,f2⟩ := fill_ok (place' := fun i => some (i * s,s)) (fun _ _ e => e) parts parts' hl hr hlr hf
      have hcl : cs.length = len * s := by
        have hfl : ∀ (ps : List (Nat × D)) (a b : List D),fillD (fun i => some (i * s,s)) a ps = some b -> b.length = a.length := by
          intro ps
          induction ps with
          | nil => intro a b e; simp [fillD] at e; rw [e]
          | cons p ps ih =>
            intro a b e
            obtain ⟨pi,pd⟩ := p
            simp only [fillD] at e
            split at e
            · split at e
              · cases e
              · rw [ih _ _ e,setMany_length]
            · cases e
        rw [hfl _ _ _ hf,repl_len,hzl]
      obtain ⟨hx,x1,x2,x3⟩ := Nx.push_mem (w' := w.alloc (.cells rs.toArray e)) h true cs rs.toArray e (0,0) rfl rfl rfl rfl (by rw [f2.len]; simp) (FrOk.zero _) (fun j d hd => by
        obtain ⟨u,hu1,hu2,hu3⟩ := f2.at_ hd
        exact ⟨u,by simpa using hu1,hu2,hu3⟩)
      refine ⟨.slice (some ⟨w.heap.size,0,none⟩) len len,_,_,?_,hx,win_fresh x2 x3 x1 (Nat.le_refl _) (by simp only [List.size_toArray]; rw [<- f2.len,hcl]; exact Nat.le_refl _),Quiet.push rfl⟩
      have hbig' : ¬ len * s > 2 ^ 24 := by omega
      simp only [Instr.buildSlice,Sem.run_bind,run_und ok ht,Result.andThen_ok,run_size ok hsz,Sem.run_ite,if_neg hbig',Sem.run_pure]
      by_cases h0 : len * s = 0
      · simp only [h0,if_true,Result.andThen_ok] at f1 ⊢
        simp only [Array.toArray_toList] at f1
        rw [f1]
        simp only [newRow,Sem.run_bind,run_newObj,Result.andThen_ok,Sem.run_pure]; rfl
      · simp only [h0,if_false,Result.andThen_ok,hv,Sem.run_bind] at f1 ⊢
        simp only [Array.toArray_toList] at f1
        rw [f1]
        simp only [newRow,Sem.run_bind,run_newObj,Result.andThen_ok,Sem.run_pure]; rfl
    · cases hs
  · cases hs
theorem makeSlice_ok {w : World} {st st' : St} {β : Nat -> Option (Nat × Nat)} {Z : Nat -> Prop} (h : Sim w st β Z) {t : Nat} {l c r : D} {u v : Value} (hu : VR w (st.x β Z) l u) (hv : VR w (st.x β Z) c v) (hs : makeSliceD pv t l c st = some (r,st')) :
    ∃ z w' β',(Instr.makeSlice t u v).run P w = .ok z w' /\ Nx w st β Z w' st' β' Z /\ VR w' (st'.x β' Z) r z /\ Quiet w w' := by
  unfold makeSliceD at hs
  split at hs
  · rename_i e k l k' c ht
    obtain ⟨i,hi,hs⟩ := Option.bind_eq_some_iff.1 hs
    obtain ⟨z,hz,hs⟩ := Option.bind_eq_some_iff.1 hs
    split at hs
    · rename_i hck
      obtain ⟨hzl,hl0,hlc,hcb,hroom⟩ := hck
      cases hs
      rw [vr_int hu,vr_int hv]
      obtain ⟨zv,hzv,hzc⟩ := zero_cells ok w (st.x β Z) hz
      have hvs : zv.cells.toList.length = i.size := by rw [<- hzc.len,hzl]
      have hwl : IntKind.i64.wrap l = l := wrap_small hl0 (by omega)
      have hwc : IntKind.i64.wrap c = c := wrap_small (by omega) hcb
      have hfin : ∃ cells : Array Value,cells = (Array.range (c.toNat * i.size)).map ((if c.toNat * i.size = 0 then #[] else zv.cells : Array Value)[· % (if c.toNat * i.size = 0 then #[] else zv.cells : Array Value).size]!) /\ cells.size = c.toNat * i.size /\
          ∀ (j : Nat) d,(repl l.toNat z)[j]? = some d -> ∃ u,cells[j]? = some u /\ u.oneCell' = true /\ VR w (st.x β Z) d u := by
        refine ⟨_,rfl,by simp,?_⟩
        by_cases h0 : c.toNat * i.size = 0
        · intro j d hd
          have : repl l.toNat z = [] := List.length_eq_zero_iff.1 (by
            rw [repl_len,hzl]
            have := Nat.mul_le_mul_right i.size (show l.toNat <= c.toNat by omega)
            omega)
          rw [this] at hd; simp at hd
        · simp only [h0,if_false]
          have := (zeros_lr hzc c.toNat l.toNat (by omega) hvs _ rfl).2
          simpa using this
      obtain ⟨cells,hcells,hsz,hrel⟩ := hfin
      have hlen : (repl l.toNat z).length <= cells.size := by
        rw [repl_len,hzl,hsz]; exact Nat.mul_le_mul_right _ (by omega)
      obtain ⟨hx,x1,x2,x3⟩ := Nx.push_mem (w' := w.alloc (.cells cells e)) h true (repl l.toNat z) cells e (0,0) rfl rfl rfl rfl hlen (FrOk.zero _) hrel
      refine ⟨.slice (some ⟨w.heap.size,0,none⟩) l.toNat c.toNat,_,_,?_,hx,win_fresh x2 x3 x1 (by omega) (by rw [hsz]; exact Nat.le_refl _),Quiet.push rfl⟩
      have ht1 : (decide (c < 0) || decide ((i.bytes : Int) * c > 2 ^ 48)) = false := by
        have : ¬ c < 0 := by omega
        have h2 : (i.bytes : Int) * c = c * i.bytes := Int.mul_comm _ _
        simp only [this,decide_false,Bool.false_or,decide_eq_false_iff_not,h2]
        omega
      have hl1 : ¬ l < 0 := by omega
      have hl2 : ¬ l > c := by omega
      simp only [Instr.makeSlice,Sem.run_bind,run_und ok ht,Result.andThen_ok,asInt,asIntOf,Sem.run_pure,run_info ok hi,hwl,hwc,ht1,hl1,hl2,decide_false,Bool.or_self,Bool.false_eq_true,or_self,if_false,Sem.run_ite,run_askRoom,run_size ok (size_of_info hi)]
      by_cases h0 : c.toNat * i.size = 0
      · simp only [h0,if_true,Result.andThen_ok] at hcells ⊢
        simp only [newRow,Sem.run_bind,run_newObj,Result.andThen_ok,Sem.run_pure,hcells]; rfl
      · simp only [h0,if_false,Result.andThen_ok,hzv,Sem.run_bind] at hcells ⊢
        simp only [newRow,Sem.run_bind,run_newObj,Result.andThen_ok,Sem.run_pure,hcells]; rfl
    · cases hs
  · cases hs
end
end Go.V
