/-
  V: a computable evaluator of the model's code over pure values. No program in sight.
-/
import GoSem.Step
namespace Go.V
set_option linter.unusedSimpArgs false
set_option linter.unusedVariables false
set_option linter.unusedSectionVars false
set_option linter.unnecessarySimpa false

/-- Values. sl: a slice that nobody writes any more (whether it is nil, if it is empty, is not said). nul: the nil slice.
    win k ver off len s: len elements of s cells from cell off on of box k, as it was at version ver. ep: a pointer to cells that nobody writes. -/
inductive D where
  | bool (b : Bool)
  | int (k : IntKind) (n : Int)
  | str (s : List UInt8)
  | nul
  | sl (es : List D)
  | win (k ver off len s : Nat)
  | pnil
  | ptr (k ver off : Nat)
  | mp (k : Nat)
  | ep (cells : List D)
  | fn (f : Nat) (caps : List D)
  | nilfn
  | agg (cs : List D)
  | tup (ds : List D)
  | nilif
  | junk
  deriving Inhabited

/-- A box. mem: a row of cells; arr: it is an array by itself (made by make, append, a literal). -/
inductive Box where
  | mem (ver : Nat) (arr : Bool) (cells : List D)
  | iter (s : List UInt8) (pos : Nat)
  | map (es : List (D × D))
  | dead
  deriving Inhabited

structure St where
  bs : List Box
  flr : Nat
  ro : Nat

structure Fr where
  n : Nat
  loc : List D
  tmp : List (Nat × D)

def look (t : Nat) : List (Nat × D) → D
  | [] => .junk
  | (u, d) :: l => match Nat.beq t u with
    | true => d
    | false => look t l

def nth (d : D) : List D → Nat → D
  | [], _ => d
  | x :: _, 0 => x
  | _ :: l, i + 1 => nth d l i

def Fr.get (f : Fr) (t : Nat) : D :=
  match Nat.ble f.n t with
  | false => nth .junk f.loc t
  | true => look t f.tmp

def Fr.put (f : Fr) (t : Nat) (d : D) : Fr :=
  match Nat.ble f.n t with
  | false => ⟨f.n, f.loc.set t d, f.tmp⟩
  | true => ⟨f.n, f.loc, (t, d) :: f.tmp⟩

def Fr.putO (f : Fr) (t : Option Nat) (d : D) : Fr :=
  match t with
  | some t => f.put t d
  | none => f

def Fr.clean (f : Fr) : Fr := ⟨f.n, f.loc, []⟩

/-- the cells of a value that is stored -/
def D.cells? : D → Option (List D)
  | .agg cs => some cs
  | .tup _ => none
  | .junk => none
  | d => some [d]

def D.cells : D → List D
  | .agg cs => cs
  | d => [d]

/-- a constant's cell -/
def ofCell : Value → D
  | .bool b => .bool b
  | .int k n => .int k n
  | .string s => .str s.data.toList
  | .slice none 0 0 => .nul
  | .pointer none => .pnil
  | .nilFunc => .nilfn
  | .nilIface => .nilif
  | _ => .junk

def oneC : Value → Bool
  | .agg _ | .tuple _ => false
  | _ => true

def ofCells : List Value → Option (List D)
  | [] => some []
  | v :: l => match oneC v with
    | true => match ofCells l with
      | some r => some (ofCell v :: r)
      | none => none
    | false => none

def ofVal : Value → D
  | .agg cs => match ofCells cs.toList with
    | some l => .agg l
    | none => .junk
  | v => ofCell v

def Fr.ev (f : Fr) : Operand → D
  | .tmp t => f.get t
  | .const v => ofVal v
  | .func g => .fn g []
  | .global _ => .junk

mutual
def D.ref : D → Nat
  | .win k _ _ _ _ => k + 1
  | .ptr k _ _ => k + 1
  | .mp k => k + 1
  | .fn _ cs => refs cs
  | .agg cs => refs cs
  | .tup ds => refs ds
  | _ => 0
def refs : List D → Nat
  | [] => 0
  | d :: ds => max d.ref (refs ds)
end

def St.mem? (st : St) (k ver : Nat) : Option (Bool × List D) :=
  match st.bs[k]? with
  | some (.mem v a c) => if v = ver then some (a, c) else none
  | _ => none

def Box.cells : Box → List D
  | .mem _ _ c => c
  | _ => []

/-- the youngest box that box k looks at -/
def St.refsAt (st : St) (k : Nat) : Nat :=
  match st.bs[k]? with
  | some b => refs b.cells
  | none => 0

def St.canW (st : St) (k r : Nat) : Bool := decide (st.ro ≤ k) && (decide (st.flr ≤ k) || (decide (r ≤ k + 1) || decide (r ≤ st.refsAt k)))

def setMany (c : List D) (off : Nat) : List D → List D
  | [] => c
  | x :: xs => setMany (c.set off x) (off + 1) xs

/-- cells are written over -/
def St.wr (st : St) (k ver off : Nat) (cs : List D) : Option St :=
  match st.mem? k ver with
  | some (a, c) => if off + cs.length ≤ c.length ∧ st.canW k (refs cs) = true then some { st with bs := st.bs.set k (.mem ver a (setMany c off cs)) } else none
  | none => none

def St.push (st : St) (b : Box) : St := { st with bs := st.bs ++ [b] }

/-- how a function is entered and left. ro: nothing that was there is written, its own boxes are given up; rw; keep: nothing is given up; nw: nothing that was there is written, nothing is given up -/
inductive Mode where
  | ro | rw | keep | nw

abbrev CallF := Nat → List D → St → Option (D × St)

structure Fi where
  fn : Func
  nloc : Nat
  mode : Mode
  knul : Bool
  prim : Option (List D → St → Option (D × St)) := none
  dyn : List (Nat × List (Nat × Nat)) := []

inductive Tr (α : Type) where
  | leaf (a : α)
  | node (k : Nat) (l r : Tr α)

def Tr.get {α : Type} (t : Nat) : Tr α → α
  | .leaf a => a
  | .node k l r => match Nat.ble k t with
    | false => l.get t
    | true => r.get t

/-- the program as V reads it -/
structure Pv where
  ty : Tr TypeInfo
  nty : Nat
  fs : Tr Fi
  nfs : Nat
  eqb : List Nat
  prm : List (Nat × (List D → St → Option (D × St))) := []

def lookP (f : Nat) : List (Nat × (List D → St → Option (D × St))) → Option (List D → St → Option (D × St))
  | [] => none
  | (g, p) :: l => match Nat.beq f g with
    | true => some p
    | false => lookP f l

def Pv.info (P : Pv) (t : Nat) : Option TypeInfo :=
  match Nat.ble P.nty t with
  | false => some (P.ty.get t)
  | true => none

def Pv.und (P : Pv) (t : Nat) : Option TypeDesc :=
  match P.info t with
  | some i => match i.desc with
    | .named _ u => match P.info u with
      | some j => some j.desc
      | none => none
    | d => some d
  | none => none

def Pv.fi (P : Pv) (f : Nat) : Option Fi :=
  match Nat.ble P.nfs f with
  | false => some (P.fs.get f)
  | true => none

def maxN : IntKind → Nat
  | .i8 => 127 | .i16 => 32767 | .i32 => 2147483647 | .i64 => 9223372036854775807
  | .u8 => 255 | .u16 => 65535 | .u32 => 4294967295 | .u64 => 18446744073709551615

def minN : IntKind → Nat
  | .i8 => 128 | .i16 => 32768 | .i32 => 2147483648 | .i64 => 9223372036854775808
  | _ => 0

/-- the model's wrap, quick where nothing wraps -/
def wrapD (k : IntKind) (n : Int) : Int :=
  match n with
  | .ofNat m => match Nat.ble m (maxN k) with
    | true => .ofNat m
    | false => k.wrap (.ofNat m)
  | .negSucc m => match Nat.ble (minN k) m with
    | false => .negSucc m
    | true => k.wrap (.negSucc m)

section
variable (P : Pv)

def szOf (t : TypeId) : Option Nat :=
  match P.info t with
  | some i => some i.size
  | none => none

def takeD (t : TypeId) (c : List D) : Option D :=
  match P.und t with
  | none => none
  | some (.struct _) | some (.array _ _) => (szOf P t).bind fun n => if n ≤ c.length then some (.agg (c.take n)) else none
  | some _ => c.head?

def loadD (t : TypeId) (d : D) (st : St) : Option D :=
  match d with
  | .ptr k ver off => (st.mem? k ver).bind fun (_, c) => takeD P t (c.drop off)
  | .ep c => takeD P t c
  | _ => none

def storeD (t : TypeId) (a v : D) (st : St) : Option St :=
  match a, v.cells? with
  | .ptr k ver off, some cs => if szOf P t = some cs.length then st.wr k ver off cs else none
  | _, _ => none

def zeroD (t : TypeId) : Option D := (P.info t).bind fun i => i.zero.map ofVal

def zeroC (t : TypeId) : Option (List D) :=
  match zeroD P t with
  | some z => z.cells?
  | none => none

def partD (t : TypeId) (cs : List D) (off : Nat) : Option D :=
  match P.und t with
  | none => none
  | some (.struct _) | some (.array _ _) => (szOf P t).bind fun n => if off + n ≤ cs.length then some (.agg ((cs.drop off).take n)) else none
  | some _ => cs[off]?

def fillD (place : Nat → Option (Nat × Nat)) (cells : List D) : List (Nat × D) → Option (List D)
  | [] => some cells
  | (i, v) :: rest =>
    match place i, v.cells? with
    | some (off, size), some cs => if cs.length ≠ size ∨ off + cs.length > cells.length then none else fillD place (setMany cells off cs) rest
    | _, _ => none

def placesD : List Field → Option (List (Nat × Nat))
  | [] => some []
  | f :: fs => match szOf P f.type with
    | some s => match placesD fs with
      | some r => some ((f.offset, s) :: r)
      | none => none
    | none => none

def buildD (t : TypeId) (parts : List (Nat × D)) : Option D :=
  match zeroC P t with
  | some z => match P.und t with
    | some (.struct fields) => match placesD P fields.toList with
      | some ps => (fillD (fun i => ps[i]?) z parts).map .agg
      | none => none
    | some (.array _ e) => match szOf P e with
      | some s => (fillD (fun i => some (i * s, s)) z parts).map .agg
      | none => none
    | _ => none
  | none => none

def repl (n : Nat) (z : List D) : List D := (List.replicate n z).flatten

def buildSliceD (t : TypeId) (len : Nat) (parts : List (Nat × D)) (st : St) : Option (D × St) :=
  match P.und t with
  | some (.slice e) => (szOf P e).bind fun s => (zeroC P e).bind fun z =>
      if z.length = s ∧ len * s ≤ 16777216 then
        (fillD (fun i => some (i * s, s)) (repl len z) parts).map fun cs => (.win st.bs.length 0 0 len s, st.push (.mem 0 true cs))
      else none
  | _ => none

def cmpInt (op : BinOp) (a b : Int) : Option D :=
  match op with
  | .eql => some (.bool (a == b))
  | .neq => some (.bool (a != b))
  | .lss => some (.bool (a < b))
  | .leq => some (.bool (a ≤ b))
  | .gtr => some (.bool (a > b))
  | .geq => some (.bool (a ≥ b))
  | _ => none

def bitsD (op : BinOp) (k : IntKind) (x y : Int) : Option D :=
  let a := BitVec.ofInt k.bits x
  let b := BitVec.ofInt k.bits y
  let back (r : BitVec k.bits) : Option D := some (.int k (wrapD k r.toNat))
  match op with
  | .and => back (a &&& b)
  | .or => back (a ||| b)
  | .xor => back (a ^^^ b)
  | .andNot => back (a &&& ~~~b)
  | _ => none

def intD (op : BinOp) (k : IntKind) (a b : Int) : Option D :=
  match op with
  | .add => some (.int k (wrapD k (a + b)))
  | .sub => some (.int k (wrapD k (a - b)))
  | .mul => some (.int k (wrapD k (a * b)))
  | .quo => if b = 0 then none else some (.int k (wrapD k (a.tdiv b)))
  | .rem => if b = 0 then none else some (.int k (a.tmod b))
  | .and | .or | .xor | .andNot => bitsD op k a b
  | _ => cmpInt op a b

def shiftD (op : BinOp) (k : IntKind) (x y : Int) : Option D :=
  if y < 0 then none
  else match op with
    | .shl => some (.int k (wrapD k (x * 2 ^ (min y.toNat k.bits))))
    | .shr => some (.int k (x.fdiv (2 ^ (min y.toNat k.bits))))
    | _ => none

def strD (op : BinOp) (a b : List UInt8) : Option D :=
  match op with
  | .add => if a.length + b.length ≤ 9223372036854775807 then some (.str (a ++ b)) else none
  | .eql => some (.bool (a == b))
  | .neq => some (.bool !(a == b))
  | .lss => some (.bool (Op.bytesLess a b))
  | .leq => some (.bool (Op.bytesLess a b || a == b))
  | .gtr => some (.bool !(Op.bytesLess a b || a == b))
  | .geq => some (.bool !(Op.bytesLess a b))
  | _ => none

mutual
def eqD : Nat → TypeId → D → D → Option Bool
  | 0, _, _, _ => none
  | d + 1, t, x, y =>
    match P.und t, x, y with
    | some .bool, .bool a, .bool b => some (a == b)
    | some (.int _), .int k a, .int k' b => if k = k' then some (a == b) else none
    | some .string, .str a, .str b => some (a == b)
    | some (.pointer _), .pnil, .pnil => some true
    | some (.pointer _), .pnil, .ptr _ _ _ => some false
    | some (.pointer _), .ptr _ _ _, .pnil => some false
    | some (.slice _), .nul, .nul => some true
    | some (.slice _), .win _ _ _ _ _, .nul => some false
    | some (.slice _), .sl (_ :: _), .nul => some false
    | some (.struct fields), .agg xs, .agg ys => if P.eqb.contains t then eqFields d xs ys fields.toList else none
    | some (.array len e), .agg xs, .agg ys => (szOf P e).bind fun n => eqElems d e n xs ys len 0
    | _, _, _ => none
def eqFields : Nat → List D → List D → List Field → Option Bool
  | 0, _, _, _ => none
  | _ + 1, _, _, [] => some true
  | d + 1, xs, ys, f :: fs =>
    if f.name = "_" then eqFields d xs ys fs else
    match partD P f.type xs f.offset, partD P f.type ys f.offset with
    | some x, some y => match eqD d f.type x y with
      | some true => eqFields d xs ys fs
      | some false => some false
      | none => none
    | _, _ => none
def eqElems : Nat → TypeId → Nat → List D → List D → Nat → Nat → Option Bool
  | 0, _, _, _, _, _, _ => none
  | _ + 1, _, _, _, _, 0, _ => some true
  | d + 1, e, n, xs, ys, left + 1, i =>
    match partD P e xs (i * n), partD P e ys (i * n) with
    | some x, some y => match eqD d e x y with
      | some true => eqElems d e n xs ys left (i + 1)
      | some false => some false
      | none => none
    | _, _ => none
end

def eqFuel : Nat := 64

def aggD : D → Bool
  | .agg _ => true
  | _ => false

def equalD (t : TypeId) (x y : D) : Option Bool :=
  if aggD x && !P.eqb.contains t then none else eqD P eqFuel t x y

def binD (op : BinOp) (t : TypeId) (x y : D) : Option D :=
  match x, y with
  | .int k a, .int k' b => match op with
    | .shl | .shr => shiftD op k a b
    | _ => if k = k' then intD op k a b else none
  | .str a, .str b => strD op a b
  | x, y => match op with
    | .eql => (equalD P t x y).map .bool
    | .neq => (equalD P t x y).map fun b => .bool !b
    | _ => none

def unD (op : UnOp) (x : D) : Option D :=
  match op, x with
  | .neg, .int k n => some (.int k (wrapD k (0 - n)))
  | .xor, .int k n => bitsD .xor k (if k.signed then -1 else k.max) n
  | .not, .bool b => some (.bool !b)
  | _, _ => none

/-- how many elements a slice or a string has, and their cells -/
def rowD (st : St) : D → Option (Nat × List D)
  | .sl es => some (es.length, es.flatMap D.cells)
  | .nul => some (0, [])
  | .win k ver off len s => (st.mem? k ver).bind fun (_, c) => if off + len * s ≤ c.length then some (len, (c.drop off).take (len * s)) else none
  | .str b => some (b.length, b.map fun x => .int .u8 x.toNat)
  | _ => none

def bytesD : List D → Option (List UInt8)
  | [] => some []
  | .int .u8 n :: l => (bytesD l).map fun r => UInt8.ofNat n.toNat :: r
  | _ => none

def convD (src dst : TypeId) (x : D) (st : St) : Option (D × St) :=
  match P.und src, P.und dst, x with
  | some _, some (.int k), .int _ n => some (.int k (wrapD k n), st)
  | some _, some .string, .int _ n => some (.str (Utf8.encode n).data.toList, st)
  | some _, some .string, .str s => some (.str s, st)
  | some _, some (.slice e), .str s =>
    match P.und e with
    | some (.int .u8) => if s.length < 1099511627776 then some (.win st.bs.length 0 0 s.length 1, st.push (.mem 0 true (s.map fun x => .int .u8 x.toNat))) else none
    | _ => none
  | some (.slice _), some (.slice e), .win k ver off len sz =>
    match P.und e, st.mem? k ver with
    | some (.int .u8), some _ => if Nat.beq src dst = true ∧ 0 < len ∧ st.canW k 0 = true then some (.win k ver off len sz, st) else none
    | _, _ => none
  | some (.slice e), some .string, x =>
    match P.und e, rowD st x with
    | some (.int .u8), some (n, cs) => match x with
      | .str _ => none
      | _ => if cs.length = n then (bytesD cs).map fun b => (.str b, st) else none
    | _, _ => none
  | _, _, _ => none

def lenD : D → Option Nat
  | .sl es => some es.length
  | .nul => some 0
  | .win _ _ _ len _ => some len
  | .str s => some s.length
  | _ => none

def isIntT : TypeDesc → Bool
  | .int _ => true
  | _ => false

def appendD (argTypes : List TypeId) (s x : D) (st : St) : Option (D × St) :=
  match argTypes with
  | sT :: xT :: _ =>
    match P.und sT, P.und xT with
    | some (.slice e), some xd => if isIntT xd = true then none else
      (P.info e).bind fun i => (zeroC P e).bind fun z => (rowD st x).bind fun (n, ys) =>
      if ys.length ≠ n * i.size ∨ i.bytes = 0 ∨ z.length ≠ i.size then none else
      match s with
      | .nul => if n = 0 then some (.nul, st)
          else if n * i.bytes ≤ 1099511627776 then some (.win st.bs.length 0 0 n i.size, st.push (.mem 0 true ys)) else none
      | .win k ver off len sz =>
        match st.mem? k ver with
        | some (true, c) => if sz ≠ i.size ∨ c.length < off + len * sz then none
            else if n = 0 then some (.win k ver off len sz, st)
            else if (len + n) * i.bytes ≤ 1099511627776 ∧ st.canW k (refs ys) = true then
              some (.win k (ver + 1) 0 (len + n) sz, { st with bs := st.bs.set k (.mem (ver + 1) true ((c.take (off + len * sz)).drop off ++ ys)) })
            else none
        | _ => none
      | _ => none
    | _, _ => none
  | _ => none

def copyD (argTypes : List TypeId) (d x : D) (st : St) : Option (D × St) :=
  match argTypes with
  | dT :: _ =>
    match P.und dT with
    | some (.slice e) => (szOf P e).bind fun s => (rowD st x).bind fun (m, ys) =>
      if ys.length ≠ m * s then none else
      match d with
      | .win k ver off len sz => if sz ≠ s then none else (st.wr k ver off (ys.take (min m len * s))).map fun st' => (.int .i64 (min m len : Nat), st')
      | .nul => some (.int .i64 0, st)
      | _ => none
    | _ => none
  | _ => none

def clearD (argTypes : List TypeId) (d : D) (st : St) : Option (D × St) :=
  match argTypes with
  | dT :: _ =>
    match P.und dT with
    | some (.slice e) =>
      match d with
      | .nul => some (.tup [], st)
      | .win k ver off len sz => (zeroC P e).bind fun z => if z.length = sz then (st.wr k ver off (repl len z)).map fun st' => (.tup [], st') else none
      | _ => none
    | _ => none
  | _ => none

def min2D (isMin : Bool) : D → D → Option D
  | .int k x, .int _ y => some (.int k (if isMin then (if y < x then y else x) else (if y > x then y else x)))
  | _, _ => none

def foldD (f : D → D → Option D) : D → List D → Option D
  | x, [] => some x
  | x, y :: l => (f x y).bind fun z => foldD f z l

def builtinD (b : Builtin) (argTypes : List TypeId) (args : List D) (st : St) : Option (D × St) :=
  match b, args with
  | .len, [x] => match argTypes with
    | t :: _ => match P.und t with
      | some .string => match x with
        | .str s => some (.int .i64 s.length, st)
        | _ => none
      | some (.slice _) => match x with
        | .str _ => none
        | x => match lenD x with
          | some n => some (.int .i64 (Int.ofNat n), st)
          | none => none
      | some (.array n _) => some (.int .i64 n, st)
      | _ => none
    | _ => none
  | .append, [s, x] => appendD P argTypes s x st
  | .copy, [d, x] => copyD P argTypes d x st
  | .clear, [d] => clearD P argTypes d st
  | .min, x :: l => (foldD (min2D true) x l).map fun d => (d, st)
  | .max, x :: l => (foldD (min2D false) x l).map fun d => (d, st)
  | _, _ => none

def makeSliceD (t : TypeId) (l c : D) (st : St) : Option (D × St) :=
  match P.und t, l, c with
  | some (.slice e), .int _ l, .int _ c => (P.info e).bind fun i => (zeroC P e).bind fun z =>
      if z.length = i.size ∧ 0 ≤ l ∧ l ≤ c ∧ c ≤ 9223372036854775807 ∧ c * (i.bytes : Int) ≤ 140737488355328 then
        some (.win st.bs.length 0 0 l.toNat i.size, st.push (.mem 0 true (repl l.toNat z)))
      else none
  | _, _, _ => none

def boundD (x : D) (y : Nat) : Option Nat :=
  match x with
  | .int _ i => if 0 ≤ i ∧ i ≤ (y : Int) then some i.toNat else none
  | _ => none

def optBound (y dflt : Nat) : Option D → Option Nat
  | some v => boundD v y
  | none => some dflt

def boundsD (len : Nat) (lo hi : Option D) : Option (Nat × Nat) :=
  (optBound len len hi).bind fun h => (optBound h 0 lo).map fun l => (l, h)

def headOk (s : Nat) (es : List D) : Bool :=
  match es.head? with
  | none => true
  | some e => match e.cells? with
    | some cs => cs.length == s
    | none => false

def sliceD (t : TypeId) (x : D) (lo hi : Option D) (st : St) : Option D :=
  match P.und t, x with
  | some .string, .str s => (boundsD s.length lo hi).map fun (l, h) => .str ((s.take h).drop l)
  | some (.slice e), .nul => (szOf P e).bind fun _ => (boundsD 0 lo hi).map fun _ => .nul
  | some (.slice e), .sl es => (szOf P e).bind fun s => if headOk s es then (boundsD es.length lo hi).map fun (l, h) => .sl ((es.take h).drop l) else none
  | some (.slice e), .win k ver off len sz => (szOf P e).bind fun s => if s = sz then (boundsD len lo hi).map fun (l, h) => .win k ver (off + l * sz) (h - l) sz else none
  | some (.array n e), .ptr k ver off => (szOf P e).bind fun s => (st.mem? k ver).bind fun (_, c) =>
      if off + n * s ≤ c.length then (boundsD n lo hi).map fun (l, h) => .win k ver (off + l * s) (h - l) s else none
  | _, _ => none

def fieldAddrD (t : TypeId) (x : D) (i : Nat) : Option D :=
  match P.und t with
  | some (.struct fields) => (fields[i]?).bind fun f => if szOf P f.type = some 0 then none else (szOf P f.type).bind fun _ =>
      match x with
      | .ptr k ver off => some (.ptr k ver (off + f.offset))
      | .ep c => some (.ep (c.drop f.offset))
      | _ => none
  | _ => none

def fieldD (t : TypeId) (x : D) (i : Nat) : Option D :=
  match P.und t, x with
  | some (.struct fields), .agg cs => (fields[i]?).bind fun f => partD P f.type cs f.offset
  | _, _ => none

def indexAddrD (t : TypeId) (x ix : D) (st : St) : Option D :=
  match ix with
  | .int _ i =>
    match P.und t, x with
    | some (.array len e), .ptr k ver off => (szOf P e).bind fun s => if 0 ≤ i ∧ i < len then some (.ptr k ver (off + i.toNat * s)) else none
    | some (.array len e), .ep c => (szOf P e).bind fun s => if 0 ≤ i ∧ i < len then some (.ep (c.drop (i.toNat * s))) else none
    | some (.slice e), .sl es => (szOf P e).bind fun s => if 0 ≤ i then (es[i.toNat]?).bind fun d => d.cells?.bind fun cs => if cs.length = s then some (.ep cs) else none else none
    | some (.slice e), .win k ver off len sz => (szOf P e).bind fun s => if s = sz ∧ 0 ≤ i ∧ i < len ∧ (st.mem? k ver).isSome = true then some (.ptr k ver (off + i.toNat * sz)) else none
    | _, _ => none
  | _ => none

def indexD (t : TypeId) (x ix : D) : Option D :=
  match ix with
  | .int _ i =>
    match P.und t, x with
    | some (.array len e), .agg cs => (szOf P e).bind fun s => if 0 ≤ i ∧ i < len then partD P e cs (i.toNat * s) else none
    | some .string, .str s => if 0 ≤ i then (s[i.toNat]?).map fun b => .int .u8 b.toNat else none
    | _, _ => none
  | _ => none

/-- an entry of a map whose keys are numbers -/
def mapFind (kk : IntKind) (n : Int) : List (D × D) → Nat → Option (Option (Nat × D))
  | [], _ => some none
  | (.int k' m, v) :: l, i => if kk = k' then (if n == m then some (some (i, v)) else mapFind kk n l (i + 1)) else none
  | _ :: _, _ => none

def makeMapD (t : TypeId) (r : Option D) (st : St) : Option (D × St) :=
  match r with
  | none => some (.mp st.bs.length, st.push (.map []))
  | some (.int _ _) => match P.und t with
    | some (.map _ _) => some (.mp st.bs.length, st.push (.map []))
    | _ => none
  | _ => none

def mapSetD (t : TypeId) (m key v : D) (st : St) : Option St :=
  match P.und t, m, key, v with
  | some (.map kt _), .mp k, .int kk n, .int vk x => match P.und kt, st.bs[k]? with
    | some (.int _), some (.map es) => match st.canW k 0 with
      | true => match mapFind kk n es 0 with
        | some (some (i, _)) => some { st with bs := st.bs.set k (.map (es.set i (.int kk n, .int vk x))) }
        | some none => some { st with bs := st.bs.set k (.map (es ++ [(.int kk n, .int vk x)])) }
        | none => none
      | false => none
    | _, _ => none
  | _, _, _, _ => none

def lookupD (t : TypeId) (m key : D) (st : St) : Option D :=
  match P.und t, m, key with
  | some (.map kt e), .mp k, .int kk n => match P.und kt, st.bs[k]? with
    | some (.int _), some (.map es) => match mapFind kk n es 0 with
      | some (some (_, v)) => some v
      | some none => zeroD P e
      | none => none
    | _, _ => none
  | _, _, _ => none

def rangeD (t : TypeId) (x : D) (st : St) : Option (D × St) :=
  match P.und t, x with
  | some .string, .str s => some (.ptr st.bs.length 0 0, st.push (.iter s 0))
  | _, _ => none

def nextD (x : D) (isString : Bool) (st : St) : Option (D × St) :=
  match x, isString with
  | .ptr k 0 0, true =>
    match st.bs[k]? with
    | some (.iter s pos) =>
      if pos < s.length then
        if st.canW k 0 then
          let r := Utf8.decode ⟨s.toArray⟩ pos
          some (.tup [.bool true, .int .i64 pos, .int .i32 r.1], { st with bs := st.bs.set k (.iter s (pos + r.2)) })
        else none
      else some (.tup [.bool false], st)
    | _ => none
  | _, _ => none

/-- one operation that is no call of a function -/
def opD (fr : Fr) (st : St) (op : Op) (_type : TypeId) : Option (D × St) :=
  match op with
  | .move x | .assign x => some (fr.ev x, st)
  | .pick c a b => match fr.ev c with
    | .bool true => some (fr.ev a, st)
    | .bool false => some (fr.ev b, st)
    | _ => none
  | .alloc e => (zeroC P e).map fun cs => (.ptr st.bs.length 0 0, st.push (.mem 0 false cs))
  | .box _ x => (fr.ev x).cells?.map fun cs => (.ptr st.bs.length 0 0, st.push (.mem 0 false cs))
  | .build t parts => (buildD P t (parts.toList.map fun p => (p.1, fr.ev p.2))).map fun d => (d, st)
  | .buildSlice t len parts => buildSliceD P t len (parts.toList.map fun p => (p.1, fr.ev p.2)) st
  | .load t a => (loadD P t (fr.ev a) st).map fun d => (d, st)
  | .store t a x => (storeD P t (fr.ev a) (fr.ev x) st).map fun st' => (.tup [], st')
  | .nilCheck x => match fr.ev x with
    | .ptr k v o => some (.ptr k v o, st)
    | .ep c => some (.ep c, st)
    | .fn f c => some (.fn f c, st)
    | _ => none
  | .binOp op t x y _ => (binD P op t (fr.ev x) (fr.ev y)).map fun d => (d, st)
  | .unOp op _ x => (unD op (fr.ev x)).map fun d => (d, st)
  | .convert s d x => convD P s d (fr.ev x) st
  | .makeFunc (.func f) first captured => if first.isEmpty then some (.fn f (captured.toList.map fr.ev), st) else none
  | .makeSlice t l c => makeSliceD P t (fr.ev l) (fr.ev c) st
  | .slice t x lo hi none => (sliceD P t (fr.ev x) (lo.map fr.ev) (hi.map fr.ev) st).map fun d => (d, st)
  | .fieldAddr t x f => (fieldAddrD P t (fr.ev x) f).map fun d => (d, st)
  | .field t x f => (fieldD P t (fr.ev x) f).map fun d => (d, st)
  | .indexAddr t x i => (indexAddrD P t (fr.ev x) (fr.ev i) st).map fun d => (d, st)
  | .index t x i => (indexD P t (fr.ev x) (fr.ev i)).map fun d => (d, st)
  | .range t x => rangeD P t (fr.ev x) st
  | .makeMap t r => makeMapD P t (r.map fr.ev) st
  | .insert t m k x => (mapSetD P t (fr.ev m) (fr.ev k) (fr.ev x) st).map fun st' => (.tup [], st')
  | .mapUpdate t m k x => (mapSetD P t (fr.ev m) (fr.ev k) (fr.ev x) st).map fun st' => (.tup [], st')
  | .lookup t x i false => (lookupD P t (fr.ev x) (fr.ev i) st).map fun d => (d, st)
  | .next it s => nextD (fr.ev it) s st
  | .extract t i => match fr.ev t with
    | .tup ds => (ds[i]?).map fun d => (d, st)
    | _ => none
  | .call ⟨.builtin b, args, argTypes⟩ => builtinD P b argTypes.toList (args.toList.map fr.ev) st
  | _ => none

end

section
variable (P : Pv) (cf : CallF)

/-- one operation, calls among them -/
def operD (fr : Fr) (st : St) (o : Oper) : Option (D × St) :=
  match o.op with
  | .call ⟨.value f, args, _⟩ => match fr.ev f with
    | .fn g caps => cf g (args.toList.map fr.ev ++ caps) st
    | _ => none
  | op => opD P fr st op o.type

/-- is a guarded operation wanted? -/
def wantD (ops : Array Oper) (fr : Fr) (o : Oper) : Option Bool :=
  match o.guard with
  | none => some true
  | some (j, want) => match (ops[j]?).bind (·.dst) with
    | none => none
    | some t => match fr.get t with
      | .bool b => some (b == want)
      | .tup _ => some false
      | _ => none

def opsD (ops : Array Oper) : List Oper → Fr → St → Option (Fr × St)
  | [], fr, st => some (fr, st)
  | o :: rest, fr, st =>
    match wantD ops fr o with
    | some true => match operD P cf fr st o with
      | some (d, st') => opsD ops rest (fr.putO o.dst d) st'
      | none => none
    | some false => opsD ops rest (fr.putO o.dst (.tup [])) st
    | none => none

mutual
def beqD : D → D → Bool
  | .bool a, .bool b => a == b
  | .int k n, .int k' m => decide (k = k') && n == m
  | .str s, .str t => s == t
  | .nul, .nul => true
  | .pnil, .pnil => true
  | .nilfn, .nilfn => true
  | .nilif, .nilif => true
  | .junk, .junk => true
  | .sl a, .sl b => beqDs a b
  | .agg a, .agg b => beqDs a b
  | .tup a, .tup b => beqDs a b
  | .ep a, .ep b => beqDs a b
  | .win k v o l s, .win k' v' o' l' s' => Nat.beq k k' && Nat.beq v v' && Nat.beq o o' && Nat.beq l l' && Nat.beq s s'
  | .ptr k v o, .ptr k' v' o' => Nat.beq k k' && Nat.beq v v' && Nat.beq o o'
  | .mp k, .mp k' => Nat.beq k k'
  | .fn f a, .fn g b => Nat.beq f g && beqDs a b
  | _, _ => false
def beqDs : List D → List D → Bool
  | [], [] => true
  | a :: l, b :: m => beqD a b && beqDs l m
  | _, _ => false
end

def beqBox : Box → Box → Bool
  | .mem v a c, .mem v' a' c' => Nat.beq v v' && (a == a') && beqDs c c'
  | .iter s p, .iter s' p' => s == s' && Nat.beq p p'
  | .dead, .dead => true
  | _, _ => false

/-- the box that a value looks into by itself -/
def D.box? : D → Option Nat
  | .win k _ _ _ _ => some k
  | .ptr k _ _ => some k
  | _ => none

/-- what is read is read through this -/
def rdOp? : Op → Option Operand
  | .load _ a => some a
  | .indexAddr _ x _ => some x
  | _ => none

/-- is a box the same in both states? -/
def stillB (k : Option Nat) (a b : St) : Bool :=
  match k with
  | none => true
  | some k => match a.bs[k]?, b.bs[k]? with
    | some x, some y => beqBox x y
    | _, _ => false

/-- does a box of a look at none that b has and a has not? -/
def smallB (k : Option Nat) (a b : St) : Bool :=
  match k with
  | none => true
  | some k => match Nat.beq a.bs.length b.bs.length with
    | true => true
    | false => match a.bs[k]? with
      | some (.mem _ _ c) => Nat.ble (refs c) a.bs.length
      | _ => false

/-- two operations that no edge orders: what one of them reads the other leaves -/
def pairOk (x : Oper) (fi : Fr) (si si' : St) (y : Oper) (fj : Fr) (sj sj' : St) : Bool :=
  match rdOp? y.op with
  | some a => stillB (fj.ev a).box? si si'
  | none => match rdOp? x.op with
    | some a => stillB (fi.ev a).box? sj sj' && smallB (fi.ev a).box? si sj'
    | none => false

abbrev Log := List (Oper × Fr × St × St)

def chkY (dy : List (Nat × Nat)) (j : Nat) (log : Log) (o : Oper) (fr : Fr) (st st' : St) : Bool :=
  dy.all fun p => match Nat.beq p.2 j && Nat.blt p.1 j with
    | true => match log[j - 1 - p.1]? with
      | some (x, fi, si, si') => pairOk x fi si si' o fr st st'
      | none => false
    | false => true

/-- a region some of whose operations no edge orders: looked at while it runs -/
def opsY (ops : Array Oper) (dy : List (Nat × Nat)) : Nat → Log → List Oper → Fr → St → Option (Fr × St)
  | _, _, [], fr, st => some (fr, st)
  | j, log, o :: rest, fr, st =>
    match wantD ops fr o with
    | some true => match operD P cf fr st o with
      | some (d, st') => match chkY dy j log o fr st st' with
        | true => opsY ops dy (j + 1) ((o, fr, st, st') :: log) rest (fr.putO o.dst d) st'
        | false => none
      | none => none
    | some false => opsY ops dy (j + 1) ((o, fr, st, st) :: log) rest (fr.putO o.dst (.tup [])) st
    | none => none

def regD (ops : Array Oper) (dy : List (Nat × Nat)) (fr : Fr) (st : St) : Option (Fr × St) :=
  match dy with
  | [] => opsD P cf ops ops.toList fr st
  | _ => opsY P cf ops dy 0 [] ops.toList fr st

def lookDy (id : Nat) : List (Nat × List (Nat × Nat)) → List (Nat × Nat)
  | [] => []
  | (i, l) :: r => match Nat.beq i id with
    | true => l
    | false => lookDy id r

inductive Out where
  | next
  | exit (id : Nat)
  | ret

def iter (step : Fr → St → Option (Out × Fr × St)) : Nat → Fr → St → Option (Out × Fr × St)
  | 0, _, _ => none
  | n + 1, fr, st => match step fr.clean st with
    | some (.next, fr', st') => iter step n fr' st'
    | r => r

def codeD (dy : List (Nat × List (Nat × Nat))) (n : Nat) : Code → Fr → St → Option (Out × Fr × St)
  | .skip, fr, st => some (.next, fr, st)
  | .region id ops _, fr, st => match regD P cf ops (lookDy id dy) fr.clean st with
    | some (fr', st') => some (.next, fr', st')
    | none => none
  | .seq a b, fr, st => match codeD dy n a fr st with
    | some (.next, fr', st') => codeD dy n b fr' st'
    | r => r
  | .cond c a b, fr, st => match fr.ev c with
    | .bool true => codeD dy n a fr st
    | .bool false => codeD dy n b fr st
    | _ => none
  | .block id c, fr, st => match codeD dy n c fr st with
    | some (.exit i, fr', st') => if i = id then some (.next, fr', st') else some (.exit i, fr', st')
    | r => r
  | .loop c, fr, st => iter (codeD dy n c) n fr st
  | .exit id, fr, st => some (.exit id, fr, st)
  | .ret, fr, st => some (.ret, fr, st)
  | _, _, _ => none

def resD (fr : Fr) (st : St) : List ResultVar → Option (List D)
  | [] => some []
  | .tmp t :: l => (resD fr st l).map fun ds => fr.get t :: ds
  | .cell a t :: l => (loadD P t (fr.get a) st).bind fun d => (resD fr st l).map fun ds => d :: ds

def tupD : List D → D
  | [d] => d
  | ds => .tup ds
end

/- what is told by a function is frozen: lists that are in boxes of its own become plain lists -/
def chunk (s : Nat) : Nat → List D → List D
  | 0, _ => []
  | n + 1, c => (match s with | 1 => c.headD .junk | _ => .agg (c.take s)) :: chunk s n (c.drop s)

def mapO (f : D → Option D) : List D → Option (List D)
  | [] => some []
  | d :: ds => match f d with
    | some x => match mapO f ds with
      | some xs => some (x :: xs)
      | none => none
    | none => none

/-- without any reference to a box -/
def pureD (st : St) (N : Nat) : Nat → D → Option D
  | 0, _ => none
  | n + 1, d => match d with
    | .bool b => some (.bool b)
    | .int k i => some (.int k i)
    | .str s => some (.str s)
    | .nul => some (.sl [])
    | .sl es => some (.sl es)
    | .pnil => some .pnil
    | .nilfn => some .nilfn
    | .nilif => some .nilif
    | .win k ver off len s => if k < N then none else (st.mem? k ver).bind fun (_, c) => if off + len * s ≤ c.length then (mapO (pureD st N n) ((c.drop off).take (len * s))).map fun cs => .sl (chunk s len cs) else none
    | .agg cs => (mapO (pureD st N n) cs).map .agg
    | _ => none

/-- a result, as it is told to the caller who knows the boxes below N alone -/
def freezeD (st : St) (N : Nat) (kn : Bool) : Nat → D → Option D
  | 0, _ => none
  | n + 1, d => match d with
    | .win k ver off len s => if k < N then some (.win k ver off len s) else pureD st N n (.win k ver off len s)
    | .ptr k ver off => if k < N then some (.ptr k ver off) else none
    | .mp k => if k < N then some (.mp k) else none
    | .nul => some (if kn then .nul else .sl [])
    | .agg cs => (mapO (freezeD st N kn n) cs).map .agg
    | .tup ds => (mapO (freezeD st N kn n) ds).map .tup
    | .fn f caps => if refs caps ≤ N then some (.fn f caps) else none
    | d => some d

def pad (n : Nat) (args : List D) : Fr := ⟨n, args ++ List.replicate (n - args.length) (.tup []), []⟩

def enterSt (m : Mode) (st : St) : St :=
  match m with
  | .ro => { st with flr := st.bs.length, ro := st.bs.length }
  | .rw => { st with flr := st.bs.length }
  | .keep => st
  | .nw => { st with ro := st.bs.length }

def leaveD (m : Mode) (kn : Bool) (st st1 : St) (d : D) : Option (D × St) :=
  match m with
  | .keep => some (d, st1)
  | .nw => some (d, ⟨st1.bs, st.flr, st.ro⟩)
  | _ => match freezeD st1 st.bs.length kn 16 d with
    | some d' => some (d', ⟨st1.bs.take st.bs.length, st.flr, st.ro⟩)
    | none => none

def bodyD (P : Pv) (cf : CallF) (n : Nat) (x : Fi) (body : Code) (args : List D) (st : St) : Option (D × St) :=
  match codeD P cf x.dyn n body (pad x.nloc args) (enterSt x.mode st) with
  | some (.exit _, _, _) => none
  | some (_, fr, st1) => match resD P fr st1 x.fn.results.toList with
    | some ds => leaveD x.mode x.knul st st1 (tupD ds)
    | none => none
  | none => none

def callD (P : Pv) : Nat → CallF
  | 0 => fun _ _ _ => none
  | n + 1 => fun f args st =>
    match lookP f P.prm with
    | some p => p args st
    | none => match P.fi f with
      | some x => match x.prim with
        | some p => p args st
        | none => match x.fn.body with
          | some body => bodyD P (callD P n) n x body args st
          | none => none
      | none => none

mutual
theorem beqD_eq : ∀ (a b : D), beqD a b = true → a = b
  | .bool a, b, h => by cases b <;> simp [beqD] at h; rw [h]
  | .int k n, b, h => by cases b <;> simp [beqD] at h; rw [h.1, h.2]
  | .str s, b, h => by cases b <;> simp [beqD] at h; rw [h]
  | .nul, b, h => by cases b <;> simp [beqD] at h; rfl
  | .pnil, b, h => by cases b <;> simp [beqD] at h; rfl
  | .nilfn, b, h => by cases b <;> simp [beqD] at h; rfl
  | .nilif, b, h => by cases b <;> simp [beqD] at h; rfl
  | .junk, b, h => by cases b <;> simp [beqD] at h; rfl
  | .sl a, b, h => by cases b <;> simp [beqD] at h; rw [beqDs_eq _ _ h]
  | .agg a, b, h => by cases b <;> simp [beqD] at h; rw [beqDs_eq _ _ h]
  | .tup a, b, h => by cases b <;> simp [beqD] at h; rw [beqDs_eq _ _ h]
  | .ep a, b, h => by cases b <;> simp [beqD] at h; rw [beqDs_eq _ _ h]
  | .win .., b, h => by cases b <;> simp [beqD] at h; rw [h.1.1.1.1, h.1.1.1.2, h.1.1.2, h.1.2, h.2]
  | .ptr .., b, h => by cases b <;> simp [beqD] at h; rw [h.1.1, h.1.2, h.2]
  | .mp .., b, h => by cases b <;> simp [beqD] at h; rw [h]
  | .fn f a, b, h => by cases b <;> simp [beqD] at h; rw [h.1, beqDs_eq _ _ h.2]
theorem beqDs_eq : ∀ (a b : List D), beqDs a b = true → a = b
  | [], b, h => by cases b <;> simp [beqDs] at h; rfl
  | a :: l, b, h => by
    cases b with
    | nil => simp [beqDs] at h
    | cons b m =>
      simp only [beqDs, Bool.and_eq_true] at h
      rw [beqD_eq a b h.1, beqDs_eq l m h.2]
end

mutual
theorem beqD_refl : ∀ (a : D), beqD a a = true
  | .bool a => by simp [beqD]
  | .int k n => by simp [beqD]
  | .str s => by simp [beqD]
  | .nul => rfl
  | .pnil => rfl
  | .nilfn => rfl
  | .nilif => rfl
  | .junk => rfl
  | .sl a => by simp only [beqD]; exact beqDs_refl a
  | .agg a => by simp only [beqD]; exact beqDs_refl a
  | .tup a => by simp only [beqD]; exact beqDs_refl a
  | .ep a => by simp only [beqD]; exact beqDs_refl a
  | .win .. => by simp [beqD]
  | .ptr .. => by simp [beqD]
  | .mp .. => by simp [beqD]
  | .fn f a => by simp only [beqD]; rw [beqDs_refl a]; simp
theorem beqDs_refl : ∀ (a : List D), beqDs a a = true
  | [] => rfl
  | a :: l => by simp only [beqDs]; rw [beqD_refl a, beqDs_refl l]; rfl
end

theorem beqBox_eq {a b : Box} (h : beqBox a b = true) : a = b := by
  cases a <;> cases b <;> simp [beqBox] at h <;> try rfl
  · rw [h.1.1, h.1.2, beqDs_eq _ _ h.2]
  · rw [h.1, h.2]

theorem stillB_eq {k : Nat} {a b : St} (h : stillB (some k) a b = true) : b.bs[k]? = a.bs[k]? := by
  unfold stillB at h
  simp only at h
  split at h
  · rename_i x y h1 h2; rw [h1, h2, beqBox_eq h]
  · cases h

theorem stillB_of {k : Nat} {a b : St} {v : Nat} {ar : Bool} {c : List D} (h : a.bs[k]? = some (.mem v ar c)) (h' : b.bs[k]? = some (.mem v ar c)) : stillB (some k) a b = true := by
  unfold stillB
  simp only [h, h', beqBox, beqDs_refl]
  simp

end Go.V
