/- An abstract, executable evaluator of the model's code: what is not written is a value, what is written lies in a small store. -/
import Derived.Calls
import Derived.Defers
set_option linter.unusedVariables false
set_option linter.unusedSimpArgs false
namespace Go.Ab

/-- What a temporary or a cell holds. -/
inductive AV where
  | undef
  | skp
  | bool (b : Bool)
  | int (k : IntKind) (n : Int)
  | str (s : List UInt8)
  | agg (cs : List AV)
  | tup (vs : List AV)
  | slc (x : Bool) (es : List AV)
  | sref (b v off len : Nat)
  | ptr (b v i off : Nat)
  | eptr (e : AV) (off : Nat)
  | pnil
  | fn (f : FuncId) (first captured : List AV)
  | fnil
  | iface (t : TypeId) (v : AV)
  | inil

instance : Inhabited AV := ⟨.undef⟩

def AV.cells : AV → List AV
  | .agg cs => cs
  | v => [v]

def AV.recell : AV → List AV → AV
  | .agg _, cs => .agg cs
  | _, [c] => c
  | v, _ => v

inductive BK where
  | dead | box | row
  deriving DecidableEq

structure Blk where
  v : Nat
  k : BK
  fz : Bool
  sz : Nat
  es : List AV

def look {α : Type} : List (Nat × α) → Nat → Option α
  | [], _ => none
  | (j, a) :: r, i => if j = i then some a else look r i

structure St where
  fr : List (Nat × AV)
  bs : List (Nat × Blk)
  df : List (AV × List AV)

/-- What is handed to a call, and what comes back: the blocks that both know, the new ones. -/
structure Ret where
  pan : Bool
  res : AV
  out : List Blk
  new : List Blk

structure Cfg where
  isF : FuncId → Bool
  keep : FuncId → Nat → Option (List Nat × List Nat)
  dyn : FuncId → Nat → List (Nat × Nat)
  byref : FuncId → Bool
  thaw : FuncId → Bool
  prim : FuncId → Option (List AV → List Blk → Option Ret)
  spl : FuncId → Nat → Nat := fun _ _ => 0
  keepX : FuncId → Nat → Option (List Nat × List Nat) := fun _ _ => none
  inp : FuncId → Bool := fun _ => false

def ofCell : Value → AV
  | .bool b => .bool b
  | .int k n => .int k n
  | .string s => .str s.data.toList
  | .pointer none => .pnil
  | .slice none 0 0 => .slc true []
  | .nilFunc => .fnil
  | .nilIface => .inil
  | _ => .undef

def ofVal : Value → AV
  | .agg cs => .agg (cs.toList.map ofCell)
  | v => ofCell v

def St.ev (s : St) : Operand → AV
  | .tmp t => (look s.fr t).getD .undef
  | .const v => ofCell v
  | .func f => .fn f [] []
  | .global _ => .undef

def isAggT (P : Program) (t : TypeId) : Option Bool :=
  match P.underlying t with
  | some (.struct _) => some true
  | some (.array _ _) => some true
  | some _ => some false
  | none => none

/-- May it be a cell's content? -/
def AV.okC : AV → Bool
  | .undef | .skp | .agg _ | .tup _ => false
  | _ => true

def ldBlk (bs : List (Nat × Blk)) (b v : Nat) : Option Blk :=
  match look bs b with
  | some x => if x.v = v ∧ x.k ≠ .dead then some x else none
  | none => none

def cellsAt (bs : List (Nat × Blk)) : AV → Option (List AV × Nat)
  | .ptr b v i off =>
    match ldBlk bs b v with
    | some x =>
      match x.k with
      | .box => if i = 0 then some (x.es, off) else none
      | .row => match x.es[i]? with
        | some e => some (e.cells, off)
        | none => none
      | .dead => none
    | none => none
  | .eptr e off => some (e.cells, off)
  | _ => none

def part (P : Program) (t : TypeId) (cs : List AV) (off : Nat) : Option AV :=
  match isAggT P t with
  | some true => if off + P.cellsOf t ≤ cs.length then some (.agg ((cs.drop off).take (P.cellsOf t))) else none
  | some false => cs[off]?
  | none => none

def aLoad (P : Program) (bs : List (Nat × Blk)) (t : TypeId) (p : AV) : Option AV :=
  match cellsAt bs p with
  | some (cs, off) => part P t cs off
  | none => none

def splice (cs : List AV) (off : Nat) (xs : List AV) : Option (List AV) :=
  if off + xs.length ≤ cs.length then some (cs.take off ++ (xs ++ cs.drop (off + xs.length))) else none

def AV.simpleC : AV → Bool
  | .bool _ | .int _ _ | .str _ | .pnil | .fnil | .inil => true
  | _ => false

def AV.simple : AV → Bool
  | .agg cs => cs.all AV.simpleC
  | v => v.simpleC

def rowAt (bs : List (Nat × Blk)) (b v off len : Nat) : Option (List AV) :=
  match ldBlk bs b v with
  | some x => if x.k = .row ∧ off + len ≤ x.es.length then some ((x.es.drop off).take len) else none
  | none => none

/-- What a name of a block becomes: another name, or what the row holds, as a value. -/
inductive Nm where
  | key (b v : Nat)
  | row (es : List AV)

def mapO {α β : Type} (f : α → Option β) : List α → Option (List β)
  | [] => some []
  | a :: r => match f a with
    | some b => match mapO f r with
      | some bs => some (b :: bs)
      | none => none
    | none => none

def mapN {α : Type} (f : Nat → Option α) : List Nat → Option (List α)
  | [] => some []
  | a :: r => match f a with
    | some b => match mapN f r with
      | some bs => some (b :: bs)
      | none => none
    | none => none

/-- A cell under other names. -/
def renC (m : Nat → Nat → Option Nm) : AV → Option AV
  | .bool b => some (.bool b)
  | .int k n => some (.int k n)
  | .str s => some (.str s)
  | .slc x es => some (.slc x es)
  | .pnil => some .pnil
  | .fnil => some .fnil
  | .inil => some .inil
  | .eptr e off => some (.eptr e off)
  | .iface t v => if v.simple then some (.iface t v) else none
  | .fn f [] [] => some (.fn f [] [])
  | .sref b v off len => match m b v with
    | some (.key b' v') => some (.sref b' v' off len)
    | some (.row es) => if off + len ≤ es.length then some (.slc false ((es.drop off).take len)) else none
    | none => none
  | .ptr b v i off => match m b v with
    | some (.key b' v') => some (.ptr b' v' i off)
    | _ => none
  | _ => none

def renD (m : Nat → Nat → Option Nm) : AV → Option AV
  | .fn f fs cs => match mapO (renC m) fs with
    | some fs' => match mapO (renC m) cs with
      | some cs' => some (.fn f fs' cs')
      | none => none
    | none => none
  | v => renC m v

def renA (m : Nat → Nat → Option Nm) : AV → Option AV
  | .agg cs => match mapO (renD m) cs with
    | some l => some (.agg l)
    | none => none
  | v => renD m v

def renT (m : Nat → Nat → Option Nm) : AV → Option AV
  | .tup vs => match mapO (renA m) vs with
    | some l => some (.tup l)
    | none => none
  | v => renA m v

def pureM (bs : List (Nat × Blk)) (b v : Nat) : Option Nm :=
  match ldBlk bs b v with
  | some x => if x.k = .row then some (.row x.es) else none
  | none => none

/-- As something that is not in the store. -/
def pureC (bs : List (Nat × Blk)) : AV → Option AV
  | .eptr _ _ => none
  | .ptr _ _ _ _ => none
  | a => renC (pureM bs) a
def pureA (bs : List (Nat × Blk)) : AV → Option AV
  | .agg cs => match mapO (pureC bs) cs with
    | some l => some (.agg l)
    | none => none
  | v => pureC bs v

/-- The rows that a value leads to, itself. -/
def rowsC : AV → List Nat
  | .sref b _ _ _ => [b]
  | _ => []
def rowsA : AV → List Nat
  | .agg cs => cs.flatMap rowsC
  | v => rowsC v
def rowsT : AV → List Nat
  | .tup vs => vs.flatMap rowsA
  | v => rowsA v

def freeze (bs : List (Nat × Blk)) : List Nat → List (Nat × Blk)
  | [] => []
  | b :: r => match look bs b with
    | some x => (b, { x with fz := true }) :: freeze bs r
    | none => freeze bs r

def nextV (bs : List (Nat × Blk)) (b : Nat) : Nat :=
  match look bs b with
  | some x => x.v + 1
  | none => 0

/-- What an operation comes to. -/
inductive Res where
  | val (v : AV) (ds : List (Nat × Blk))
  | pan (v : AV) (ds : List (Nat × Blk))
  | dfr (f : AV) (args : List AV)

def keyOf (d : Option Tmp) : Option Nat :=
  match d with
  | some t => some (16 * t)
  | none => none

def newBlk (bs : List (Nat × Blk)) (b : Nat) (k : BK) (sz : Nat) (es : List AV) : Nat × Blk := (b, { v := nextV bs b, k := k, fz := false, sz := sz, es := es })

def newBox (bs : List (Nat × Blk)) (d : Option Tmp) (cs : List AV) : Option Res :=
  match keyOf d with
  | some b => if cs.all AV.okC then some (.val (.ptr b (nextV bs b) 0 0) [newBlk bs b .box 0 cs]) else none
  | none => none

def newRow (bs : List (Nat × Blk)) (d : Option Tmp) (sz : Nat) (es : List AV) (more : List (Nat × Blk)) : Option Res :=
  match keyOf d with
  | some b => some (.val (.sref b (nextV bs b) 0 es.length) (newBlk bs b .row sz es :: more))
  | none => none

def zeroOf (P : Program) (t : TypeId) : Option AV :=
  match P.info? t with
  | some i => match i.zero with
    | some z => if (ofVal z).cells.all AV.okC = true ∧ (ofVal z).cells.length = P.cellsOf t then some (ofVal z) else none
    | none => none
  | none => none

def fillC (place : Nat → Option (Nat × Nat)) (cells : List AV) : List (Nat × AV) → Option (List AV)
  | [] => some cells
  | (i, v) :: rest =>
    match place i with
    | none => none
    | some (off, size) =>
      if v.cells.length = size ∧ v.cells.all AV.okC = true then
        match splice cells off v.cells with
        | some cells => fillC place cells rest
        | none => none
      else none

def placesOf (P : Program) (fs : Array Field) : Option (List (Nat × Nat)) := fs.toList.mapM (fun f => (P.info? f.type).map fun i => (f.offset, i.size))

def aBuild (P : Program) (t : TypeId) (parts : List (Nat × AV)) : Option Res :=
  match zeroOf P t with
  | some z =>
    match P.underlying t with
    | some (.struct fs) => match placesOf P fs with
      | some places => match fillC (places.toArray[·]?) z.cells parts with
        | some cs => some (.val (.agg cs) [])
        | none => none
      | none => none
    | some (.array _ e) => if P.cellsOf e = 0 then none else match fillC (fun i => some (i * P.cellsOf e, P.cellsOf e)) z.cells parts with
      | some cs => some (.val (.agg cs) [])
      | none => none
    | _ => none
  | none => none

def setAll (bs : List (Nat × Blk)) (sz : Nat) (es : List AV) : List (Nat × AV) → Option (List AV)
  | [] => some es
  | (i, x) :: r => match pureA bs x with
    | some y => if i < es.length ∧ y.cells.length = sz ∧ y.cells.all AV.okC = true then setAll bs sz (es.set i y) r else none
    | none => none

def aBuildSlice (P : Program) (bs : List (Nat × Blk)) (d : Option Tmp) (t : TypeId) (len : Nat) (parts : List (Nat × AV)) : Option Res :=
  match P.underlying t with
  | some (.slice e) =>
    match zeroOf P e with
    | some z =>
      if len * P.cellsOf e ≤ 1000000 ∧ P.cellsOf e ≠ 0 then
        match setAll bs (P.cellsOf e) (List.replicate len z) parts with
        | some es => newRow bs d (P.cellsOf e) es (freeze bs (parts.flatMap fun x => rowsA x.2))
        | none => none
      else none
    | none => none
  | _ => none

def aStore (P : Program) (bs : List (Nat × Blk)) (t : TypeId) (p x : AV) : Option (List (Nat × Blk)) :=
  if x.cells.length = P.cellsOf t ∧ x.cells.all AV.okC = true ∧ (P.info? t).isSome = true then
    match p with
    | .ptr b v i off =>
      match ldBlk bs b v with
      | some blk =>
        match blk.k with
        | .box => if i = 0 ∧ blk.fz = false then
            match splice blk.es off x.cells with
            | some es => some [(b, { blk with es := es })]
            | none => none
          else none
        | .row => if blk.fz then none else
          match blk.es[i]? with
          | some e => match mapO (pureC bs) x.cells with
            | some xs => match splice e.cells off xs with
              | some cs => if (rowsA x).contains b then none else some ((b, { blk with es := blk.es.set i (e.recell cs) }) :: freeze bs (rowsA x))
              | none => none
            | none => none
          | none => none
        | .dead => none
      | none => none
    | _ => none
  else none

def aIndexAddr (P : Program) (bs : List (Nat × Blk)) (t : TypeId) (x i : AV) : Option AV :=
  match P.underlying t with
  | some (.slice e) =>
    match x with
    | .slc _ es => match i with
      | .int _ n => if 0 ≤ n then
          match es[n.toNat]? with
          | some el => if el.cells.length = P.cellsOf e ∧ P.cellsOf e ≠ 0 then some (.eptr el 0) else none
          | none => none
        else none
      | _ => none
    | .sref b v off len => match i with
      | .int _ n => if 0 ≤ n ∧ n < len then
          match ldBlk bs b v with
          | some x => if x.k = .row ∧ x.sz = P.cellsOf e ∧ P.cellsOf e ≠ 0 then some (.ptr b v (off + n.toNat) 0) else none
          | none => none
        else none
      | _ => none
    | _ => none
  | some (.array len e) =>
    match i with
    | .int _ n => if 0 ≤ n ∧ n < len ∧ P.cellsOf e ≠ 0 then
        match x with
        | .ptr b v j off => match cellsAt bs (.ptr b v j off) with
          | some _ => some (.ptr b v j (off + n.toNat * P.cellsOf e))
          | none => none
        | .eptr el off => some (.eptr el (off + n.toNat * P.cellsOf e))
        | _ => none
      else none
    | _ => none
  | _ => none

def aFieldAddr (P : Program) (bs : List (Nat × Blk)) (s : TypeId) (x : AV) (f : Nat) : Option AV :=
  match P.underlying s with
  | some (.struct fs) =>
    match fs[f]? with
    | some fl => if P.cellsOf fl.type = 0 then none else
      match x with
      | .ptr b v j off => match cellsAt bs (.ptr b v j off) with
        | some _ => some (.ptr b v j (off + fl.offset))
        | none => none
      | .eptr el off => some (.eptr el (off + fl.offset))
      | _ => none
    | none => none
  | _ => none

def aField (P : Program) (xT : TypeId) (x : AV) (f : Nat) : Option AV :=
  match P.underlying xT with
  | some (.struct fs) =>
    match fs[f]? with
    | some fl => match x with
      | .agg cs => part P fl.type cs fl.offset
      | _ => none
    | none => none
  | _ => none

def aIndex (P : Program) (xT : TypeId) (x i : AV) : Option AV :=
  match i with
  | .int _ n =>
    if 0 ≤ n then
      match P.underlying xT with
      | some (.array len e) => match x with
        | .agg cs => if n < len then part P e cs (n.toNat * P.cellsOf e) else none
        | _ => none
      | some .string => match x with
        | .str s => match s[n.toNat]? with
          | some b => some (.int .u8 b.toNat)
          | none => none
        | _ => none
      | _ => none
    else none
  | _ => none

def boundOf (d : Nat) : Option AV → Option Nat
  | none => some d
  | some (.int _ n) => if 0 ≤ n then some n.toNat else none
  | some _ => none

def aSlice (P : Program) (bs : List (Nat × Blk)) (t : TypeId) (x : AV) (lo hi mx : Option AV) : Option AV :=
  match boundOf 0 lo with
  | none => none
  | some l =>
    match x with
    | .str s =>
      match P.underlying t with
      | some .string =>
        match boundOf s.length hi with
        | some h => if l ≤ h ∧ h ≤ s.length ∧ mx.isNone then some (.str ((s.drop l).take (h - l))) else none
        | none => none
      | _ => none
    | .slc c es =>
      match P.underlying t with
      | some (.slice e) =>
        if es.all (fun y => decide (y.cells.length = P.cellsOf e)) = true ∧ P.cellsOf e ≠ 0 then
        match boundOf es.length hi with
        | some h =>
          match mx with
          | none => if l ≤ h ∧ h ≤ es.length then some (.slc (c && decide (h = es.length)) ((es.drop l).take (h - l))) else none
          | some m => match boundOf 0 (some m) with
            | some m => if l ≤ h ∧ h ≤ m ∧ m ≤ es.length ∧ hi.isSome then some (.slc (decide (h = m)) ((es.drop l).take (h - l))) else none
            | none => none
        | none => none
        else none
      | _ => none
    | .sref b v off len =>
      match P.underlying t with
      | some (.slice e) =>
        match ldBlk bs b v with
        | some x =>
          if x.k = .row ∧ x.sz = P.cellsOf e ∧ P.cellsOf e ≠ 0 then
          match boundOf len hi with
          | some h =>
            match mx with
            | none => if l ≤ h ∧ off + h ≤ x.es.length then (if l = 0 ∨ off + l < x.es.length then some (.sref b v (off + l) (h - l)) else some (.slc false [])) else none
            | some m => match boundOf 0 (some m) with
              | some m => if l ≤ h ∧ h ≤ m ∧ off + m ≤ x.es.length ∧ hi.isSome then (if m = l then some (.slc true []) else some .undef) else none
              | none => none
          | none => none
          else none
        | none => none
      | _ => none
    | _ => none

def aEqF (P : Program) (eq : TypeId → AV → AV → Option Bool) (xs ys : List AV) : List Field → Option Bool
  | [] => some true
  | f :: r =>
    if f.name = "_" then aEqF P eq xs ys r else
    match part P f.type xs f.offset with
    | some a => match part P f.type ys f.offset with
      | some b => match eq f.type a b with
        | some c => match aEqF P eq xs ys r with
          | some c' => some (c && c')
          | none => none
        | none => none
      | none => none
    | none => none

def aEqN (P : Program) (eq : TypeId → AV → AV → Option Bool) (xs ys : List AV) (e : TypeId) : Nat → Nat → Option Bool
  | 0, _ => some true
  | n + 1, i =>
    match part P e xs (i * P.cellsOf e) with
    | some a => match part P e ys (i * P.cellsOf e) with
      | some b => match eq e a b with
        | some c => match aEqN P eq xs ys e n (i + 1) with
          | some c' => some (c && c')
          | none => none
        | none => none
      | none => none
    | none => none

/-- '==' of two values of a type of numbers, bools, strings and structs and arrays of these. -/
def aEq (P : Program) : Nat → TypeId → AV → AV → Option Bool
  | 0, _, _, _ => none
  | d + 1, t, x, y =>
    match P.underlying t with
    | some .bool => match x, y with
      | .bool a, .bool b => some (a == b)
      | _, _ => none
    | some (.int _) => match x, y with
      | .int k a, .int k' b => if k = k' then some (decide (a = b)) else none
      | _, _ => none
    | some .string => match x, y with
      | .str a, .str b => some (decide (a = b))
      | _, _ => none
    | some (.interface _) => match x, y with
      | .inil, .inil => some true
      | .inil, .iface _ _ => some false
      | .iface _ _, .inil => some false
      | _, _ => none
    | some (.struct fs) => match x, y with
      | .agg xs, .agg ys => if P.stoodInHeld t then none else aEqF P (aEq P d) xs ys fs.toList
      | _, _ => none
    | some (.array n e) => match x, y with
      | .agg xs, .agg ys => if P.cellsOf e = 0 then none else aEqN P (aEq P d) xs ys e n 0
      | _, _ => none
    | _ => none

def aInts (op : BinOp) (k : IntKind) (a b : Int) : Option AV :=
  match op with
  | .add => some (.int k (k.wrap (a + b)))
  | .sub => some (.int k (k.wrap (a - b)))
  | .mul => some (.int k (k.wrap (a * b)))
  | .quo => if b = 0 then none else some (.int k (k.wrap (a.tdiv b)))
  | .rem => if b = 0 then none else some (.int k (a.tmod b))
  | .and => some (.int k (k.wrap (BitVec.ofInt k.bits a &&& BitVec.ofInt k.bits b).toNat))
  | .or => some (.int k (k.wrap (BitVec.ofInt k.bits a ||| BitVec.ofInt k.bits b).toNat))
  | .xor => some (.int k (k.wrap (BitVec.ofInt k.bits a ^^^ BitVec.ofInt k.bits b).toNat))
  | .andNot => some (.int k (k.wrap (BitVec.ofInt k.bits a &&& ~~~(BitVec.ofInt k.bits b)).toNat))
  | .eql => some (.bool (decide (a = b)))
  | .neq => some (.bool (!decide (a = b)))
  | .lss => some (.bool (decide (a < b)))
  | .leq => some (.bool (decide (a ≤ b)))
  | .gtr => some (.bool (decide (b < a)))
  | .geq => some (.bool (decide (b ≤ a)))
  | _ => none

def aBin (P : Program) (op : BinOp) (t : TypeId) (x y : AV) : Option AV :=
  match x, y with
  | .int k a, .int k' b =>
    match op with
    | .shl => if b < 0 then none else some (.int k (k.wrap (a * 2 ^ (min b.toNat k.bits))))
    | .shr => if b < 0 then none else some (.int k (a.fdiv (2 ^ (min b.toNat k.bits))))
    | _ => if k = k' then aInts op k a b else none
  | .str a, .str b =>
    match op with
    | .add => if a.length + b.length < 1000000000 then some (.str (a ++ b)) else none
    | .eql => some (.bool (decide (a = b)))
    | .neq => some (.bool (!decide (a = b)))
    | _ => none
  | x, y =>
    match op with
    | .eql => match aEq P 20 t x y with
      | some c => some (.bool c)
      | none => none
    | .neq => match aEq P 20 t x y with
      | some c => some (.bool (!c))
      | none => none
    | _ => none

def aUn (op : UnOp) (x : AV) : Option AV :=
  match op, x with
  | .not, .bool b => some (.bool (!b))
  | .neg, .int k n => some (.int k (k.wrap (0 - n)))
  | .xor, .int k n => some (.int k (k.wrap (BitVec.ofInt k.bits (if k.signed then -1 else k.max) ^^^ BitVec.ofInt k.bits n).toNat))
  | _, _ => none

/-- What is in a slice or a string, as elements. -/
def elemsOf (bs : List (Nat × Blk)) : AV → Option (List AV)
  | .slc _ es => some es
  | .sref b v off len => rowAt bs b v off len
  | .str s => some (s.map fun c => .int .u8 c.toNat)
  | _ => none

def bytesOf? : List AV → Option (List UInt8)
  | [] => some []
  | .int .u8 n :: r => match bytesOf? r with
    | some l => some (UInt8.ofNat n.toNat :: l)
    | none => none
  | _ :: _ => none

def aConv (P : Program) (bs : List (Nat × Blk)) (d : Option Tmp) (src dst : TypeId) (x : AV) : Option Res :=
  match x with
  | .int _ n => match P.underlying dst with
    | some (.int k) => if (P.underlying src).isSome then some (.val (.int k (k.wrap n)) []) else none
    | _ => none
  | .str s => match P.underlying dst with
    | some .string => if (P.underlying src).isSome then some (.val (.str s) []) else none
    | some (.slice e) => match P.underlying e with
      | some (.int .u8) => if (P.underlying src).isSome ∧ s.length < 1000000000 then newRow bs d 1 (s.map fun c => .int .u8 c.toNat) [] else none
      | _ => none
    | _ => none
  | x => match P.underlying src with
    | some (.slice e) => match P.underlying dst with
      | some .string => match P.underlying e with
        | some (.int .u8) => match elemsOf bs x with
          | some es => match bytesOf? es with
            | some l => some (.val (.str l) [])
            | none => none
          | none => none
        | _ => none
      | some (.slice e') => match x with
        | .sref b v off len => match ldBlk bs b v with
          | some y => match P.underlying e' with
            | some (.int .u8) => if src = dst ∧ y.k = .row ∧ y.fz = false then some (.val (.sref b v off len) [(b, y)]) else none
            | _ => none
          | none => none
        | _ => none
      | _ => none
    | _ => none

def aLen (P : Program) (bs : List (Nat × Blk)) (t : TypeId) (x : AV) : Option AV :=
  match P.underlying t with
  | some .string => match x with
    | .str s => some (.int .i64 s.length)
    | _ => none
  | some (.slice _) => match x with
    | .slc _ es => some (.int .i64 es.length)
    | .sref b v off len => match rowAt bs b v off len with
      | some _ => some (.int .i64 len)
      | none => none
    | _ => none
  | some (.array n _) => some (.int .i64 n)
  | _ => none

def bytesFit (P : Program) (e : TypeId) (n : Nat) : Bool := decide (n * P.bytesOf e ≤ 1000000000000 ∧ n ≤ 1000000000000 ∧ 0 < P.bytesOf e)

/-- The elements that 'append' puts behind: of a slice, of a string. -/
def appended (P : Program) (bs : List (Nat × Blk)) (xT : TypeId) (x : AV) : Option (List AV) :=
  match P.underlying xT with
  | some .string => match x with
    | .str s => some (s.map fun c => .int .u8 c.toNat)
    | _ => none
  | some (.slice _) => match x with
    | .str _ => none
    | x => elemsOf bs x
  | _ => none

def aAppend (P : Program) (bs : List (Nat × Blk)) (d : Option Tmp) (sT xT : TypeId) (s x : AV) : Option Res :=
  match P.underlying sT with
  | some (.slice e) =>
    match appended P bs xT x with
    | some xs =>
      if xs.all (fun y => decide (y.cells.length = P.cellsOf e)) = true ∧ P.cellsOf e ≠ 0 ∧ (zeroOf P e).isSome = true then
      match s with
      | .slc c es =>
        if xs.isEmpty = true then some (.val s [])
        else if c = true ∧ bytesFit P e (es.length + xs.length) = true ∧ es.all (fun y => decide (y.cells.length = P.cellsOf e)) = true then newRow bs d (P.cellsOf e) (es ++ xs) []
        else none
      | .sref b v off len =>
        match ldBlk bs b v with
        | some blk =>
          if blk.k = .row ∧ off + len ≤ blk.es.length ∧ blk.sz = P.cellsOf e then
            if xs.isEmpty = true then some (.val s [])
            else if blk.fz = true then none
            else if off + len + xs.length ≤ blk.es.length then
              some (.val (.sref b v off (len + xs.length)) [(b, { blk with es := blk.es.take (off + len) ++ (xs ++ blk.es.drop (off + len + xs.length)) })])
            else if off = 0 ∧ bytesFit P e (len + xs.length) = true then
              match keyOf d with
              | some k => some (.val (.sref k (nextV bs k) 0 (len + xs.length)) ((k, { v := nextV bs k, k := .row, fz := false, sz := blk.sz, es := blk.es.take len ++ xs }) :: (if k = b then [] else [(b, { blk with k := .dead })])))
              | none => none
            else none
          else none
        | none => none
      | _ => none
      else none
    | none => none
  | _ => none

def aCopy (P : Program) (bs : List (Nat × Blk)) (dT : TypeId) (s x : AV) : Option Res :=
  match P.underlying dT with
  | some (.slice e) =>
    match (match x with | .str _ => none | x => elemsOf bs x) with
    | some xs =>
      match s with
      | .sref b v off len =>
        match ldBlk bs b v with
        | some blk =>
          if P.cellsOf e ≠ 0 ∧ blk.k = .row ∧ off + len ≤ blk.es.length ∧ blk.fz = false ∧ blk.sz = P.cellsOf e ∧ xs.all (fun y => decide (y.cells.length = P.cellsOf e)) = true then
            some (.val (.int .i64 ((min xs.length len : Nat) : Int)) [(b, { blk with es := blk.es.take off ++ (xs.take (min xs.length len) ++ blk.es.drop (off + min xs.length len)) })])
          else none
        | none => none
      | _ => none
    | none => none
  | _ => none

def aClear (P : Program) (bs : List (Nat × Blk)) (t : TypeId) (x : AV) : Option Res :=
  match P.underlying t with
  | some (.slice e) =>
    match x with
    | .slc _ [] => some (.val (.tup []) [])
    | .sref b v off len =>
      match ldBlk bs b v with
      | some blk =>
        match zeroOf P e with
        | some z =>
          if P.cellsOf e ≠ 0 ∧ blk.k = .row ∧ off + len ≤ blk.es.length ∧ blk.fz = false ∧ blk.sz = P.cellsOf e then
            some (.val (.tup []) [(b, { blk with es := blk.es.take off ++ (List.replicate len z ++ blk.es.drop (off + len)) })])
          else none
        | none => none
      | none => none
    | _ => none
  | _ => none

def minI (a b : Int) : Int := if b < a then b else a
def maxI (a b : Int) : Int := if b > a then b else a

def aMin : AV → List AV → Option AV
  | v, [] => some v
  | .int k a, .int k' b :: r => if k = k' then aMin (.int k (minI a b)) r else none
  | _, _ => none
def aMax : AV → List AV → Option AV
  | v, [] => some v
  | .int k a, .int k' b :: r => if k = k' then aMax (.int k (maxI a b)) r else none
  | _, _ => none

def aMakeSlice (P : Program) (bs : List (Nat × Blk)) (d : Option Tmp) (t : TypeId) (l c : AV) : Option Res :=
  match P.underlying t with
  | some (.slice e) =>
    match l with
    | .int _ n => match c with
      | .int _ m => match zeroOf P e with
        | some z => if n = m ∧ 0 ≤ n ∧ n ≤ 1000000000 ∧ bytesFit P e n.toNat = true ∧ P.cellsOf e ≠ 0 then newRow bs d (P.cellsOf e) (List.replicate n.toNat z) [] else none
        | none => none
      | _ => none
    | _ => none
  | _ => none

/-- Asked for an interface: are its methods there? -/
def aAssertI (P : Program) (want : Array (String × TypeId)) (x : AV) (asserted : TypeId) (ok : Bool) : Option AV :=
  match x with
  | .inil => if ok then (match zeroOf P asserted with
    | some z => some (.tup [z, .bool false])
    | none => none) else none
  | .iface t v => match P.info? t with
    | some i => match Instr.missingMethod want i.methods with
      | none => if ok then some (.tup [.iface t v, .bool true]) else some (.iface t v)
      | some _ => if ok then (match zeroOf P asserted with
        | some z => some (.tup [z, .bool false])
        | none => none) else none
    | none => none
  | _ => none

def aAssert (P : Program) (x : AV) (asserted : TypeId) (ok : Bool) : Option AV :=
  match P.underlying asserted with
  | some (.interface ms) => aAssertI P ms x asserted ok
  | some _ =>
    match x with
    | .inil => if ok then (match zeroOf P asserted with
      | some z => some (.tup [z, .bool false])
      | none => none) else none
    | .iface t v => if t = asserted then (if ok then some (.tup [v, .bool true]) else some v) else
      if ok then (match zeroOf P asserted with
      | some z => some (.tup [z, .bool false])
      | none => none) else none
    | _ => none
  | none => none

/-- The blocks that a value leads to: of a cell; of a value. -/
def refsC : AV → List Nat
  | .sref b _ _ _ => [b]
  | .ptr b _ _ _ => [b]
  | .fn _ fs cs => (fs ++ cs).flatMap fun
    | .sref b _ _ _ => [b]
    | .ptr b _ _ _ => [b]
    | _ => []
  | _ => []
def refsA : AV → List Nat
  | .agg cs => cs.flatMap refsC
  | v => refsC v
def refsT : AV → List Nat
  | .tup vs => vs.flatMap refsA
  | v => refsA v

def addNew : List Nat → List Nat → List Nat
  | acc, [] => acc
  | acc, x :: r => if acc.contains x then addNew acc r else addNew (acc ++ [x]) r

def blkRefs (bs : List (Nat × Blk)) (b : Nat) : List Nat :=
  match look bs b with
  | some x => match x.k with
    | .box => x.es.flatMap refsC
    | _ => []
  | none => []

/-- All that can be reached: so many rounds. -/
def closeR (bs : List (Nat × Blk)) : Nat → List Nat → List Nat
  | 0, l => l
  | n + 1, l => closeR bs n (addNew l (l.flatMap (blkRefs bs)))

def outBase : Nat := 1000000
def newBase : Nat := 2000000

def idx? : List Nat → Nat → Nat → Option Nat
  | [], _, _ => none
  | x :: r, b, i => if x = b then some i else idx? r b (i + 1)

/-- Blocks under the names from 'base' on, all of them of version 0; what is old has none. -/
def nameM (bs : List (Nat × Blk)) (ks : List Nat) (base : Nat) (b v : Nat) : Option Nm :=
  match ldBlk bs b v with
  | some _ => match idx? ks b 0 with
    | some i => some (.key (base + i) 0)
    | none => none
  | none => none

def renBlk (m : Nat → Nat → Option Nm) (x : Blk) : Option Blk :=
  match x.k with
  | .dead => some { v := 0, k := .dead, fz := x.fz, sz := x.sz, es := [] }
  | .row => some { v := 0, k := .row, fz := x.fz, sz := x.sz, es := x.es }
  | .box => match mapO (renD m) x.es with
    | some es => some { v := 0, k := .box, fz := x.fz, sz := x.sz, es := es }
    | none => none

def renAt (bs : List (Nat × Blk)) (m : Nat → Nat → Option Nm) (b : Nat) : Option Blk :=
  match look bs b with
  | some x => renBlk m x
  | none => none

def withKeys (base : Nat) : Nat → List Blk → List (Nat × Blk)
  | _, [] => []
  | i, x :: r => (base + i, x) :: withKeys base (i + 1) r

/-- The store under which a call's body begins. -/
def outerSt (out : List Blk) : List (Nat × Blk) := withKeys outBase 0 out

def paramsFr : Nat → List AV → List (Nat × AV)
  | _, [] => []
  | i, a :: r => (i, a) :: paramsFr (i + 1) r

/-- An argument: rows are handed on as values, but where the call writes. -/
def argOf (bs : List (Nat × Blk)) (byref : Bool) (v : AV) : Option AV :=
  if byref then some v else
  match v with
  | .ptr b w i off => some (.ptr b w i off)
  | .fn f fs cs => some (.fn f fs cs)
  | v => pureA bs v

def argRows (byref : Bool) (v : AV) : List Nat := if byref then [] else rowsA v

def AV.noSlcC : AV → Bool
  | .bool _ | .int _ _ | .str _ | .pnil | .fnil | .inil => true
  | .iface _ v => v.simple
  | _ => false
def AV.noSlcA : AV → Bool
  | .agg cs => cs.all AV.noSlcC
  | v => v.noSlcC
def AV.noSlc : AV → Bool
  | .tup vs => vs.all AV.noSlcA
  | v => v.noSlcA

def BK.isRow : BK → Bool
  | .row => true
  | _ => false
def allNoSlc (l : List Blk) : Bool := l.all fun x => !x.k.isRow && x.es.all AV.noSlcA

/-- What comes back, under the caller's names. -/
def backM (bs : List (Nat × Blk)) (ks : List Nat) (r : Ret) (full : Bool) (d : Nat) (b v : Nat) : Option Nm :=
  if b < outBase then none else
  if v ≠ 0 then none else
  if b < newBase then
    match r.out[b - outBase]?, ks[b - outBase]? with
    | some x, some k => if x.k = .dead then none else match look bs k with
      | some y => some (.key k y.v)
      | none => none
    | _, _ => none
  else
    match r.new[b - newBase]? with
    | some x => match x.k with
      | .dead => none
      | .box => if full then some (.key (16 * d + (b - newBase)) (nextV bs (16 * d + (b - newBase)))) else none
      | .row => if full then some (.key (16 * d + (b - newBase)) (nextV bs (16 * d + (b - newBase)))) else some (.row x.es)
    | none => none

def backOut (bs : List (Nat × Blk)) (m : Nat → Nat → Option Nm) : List Nat → List Blk → Option (List (Nat × Blk))
  | [], [] => some []
  | k :: ks, x :: xs =>
    match look bs k with
    | some y => match renBlk m x with
      | some z => match backOut bs m ks xs with
        | some r => some ((k, { z with v := y.v }) :: r)
        | none => none
      | none => none
    | none => none
  | _, _ => none

def backNew (bs : List (Nat × Blk)) (m : Nat → Nat → Option Nm) (d : Nat) : Nat → List Blk → Option (List (Nat × Blk))
  | _, [] => some []
  | j, x :: xs =>
    match renBlk m x with
    | some z => match backNew bs m d (j + 1) xs with
      | some r => some ((16 * d + j, { z with v := nextV bs (16 * d + j) }) :: r)
      | none => none
    | none => none

abbrev CallF := FuncId → List AV → List Blk → Option Ret

def callIn (bs : List (Nat × Blk)) (byref : Bool) (args : List AV) : Option (List AV × List Nat × List Blk) :=
  match mapO (argOf bs byref) args with
  | none => none
  | some args1 =>
    let ks := closeR bs 3 (addNew [] (args1.flatMap refsA))
    match mapO (renA (nameM bs ks outBase)) args1 with
    | none => none
    | some args2 => match mapN (renAt bs (nameM bs ks outBase)) ks with
      | none => none
      | some out => if (args.flatMap (argRows byref)).all (fun b => !ks.contains b) then some (args2, ks, out) else none

def callOut (bs : List (Nat × Blk)) (thaw : Bool) (d : Option Tmp) (ks l : List Nat) (r : Ret) : Option Res :=
  let full := (thaw || r.new.any fun x => decide (x.k = .box)) && d.isSome
  let m := backM bs ks r full (d.getD 0)
  if (r.out.length ≤ 1000 ∧ (r.out.all fun x => decide (x.v = 0)) = true ∧ (r.new.all fun x => decide (x.v = 0)) = true) then
  let fr := if r.res.noSlc && allNoSlc r.out && allNoSlc r.new then [] else freeze bs l
  match renT m r.res with
  | none => none
  | some res => match backOut bs m ks r.out with
    | none => none
    | some o =>
      match (if full then (if r.new.length ≤ 16 then backNew bs m (d.getD 0) 0 r.new else none) else some []) with
      | none => none
      | some n => if r.pan then some (.pan res (n ++ (o ++ fr))) else some (.val res (n ++ (o ++ fr)))
  else none

def aCall (cfg : Cfg) (callF : CallF) (bs : List (Nat × Blk)) (d : Option Tmp) (f : FuncId) (args : List AV) : Option Res :=
  match callIn bs (cfg.byref f) args with
  | none => none
  | some (args2, ks, out) => match callF f args2 out with
    | none => none
    | some r => callOut bs (cfg.thaw f) d ks (args.flatMap (argRows (cfg.byref f))) r

def aBuiltin (P : Program) (bs : List (Nat × Blk)) (d : Option Tmp) (b : Builtin) (ts : List TypeId) (args : List AV) : Option Res :=
  match b with
  | .len => match ts with
    | t :: _ => match args with
      | x :: _ => match aLen P bs t x with
        | some v => some (.val v [])
        | none => none
      | _ => none
    | _ => none
  | .append => match ts with
    | [sT, xT] => match args with
      | [s, x] => aAppend P bs d sT xT s x
      | _ => none
    | _ => none
  | .copy => match ts with
    | [dT, _] => match args with
      | [s, x] => aCopy P bs dT s x
      | _ => none
    | _ => none
  | .clear => match ts with
    | t :: _ => match args with
      | x :: _ => aClear P bs t x
      | _ => none
    | _ => none
  | .min => match args with
    | .int k n :: r => match aMin (.int k n) r with
      | some v => some (.val v [])
      | none => none
    | _ => none
  | .max => match args with
    | .int k n :: r => match aMax (.int k n) r with
      | some v => some (.val v [])
      | none => none
    | _ => none
  | _ => none

def pv (o : Option AV) : Option Res :=
  match o with
  | some v => some (.val v [])
  | none => none

def isConstO : Operand → Bool
  | .const _ => true
  | _ => false

/-- No two nil values of an interface, but for a literal one. -/
def eqFree (P : Program) (t : TypeId) (x y : Operand) : AV → AV → Bool
  | .inil, .inil => isConstO x || isConstO y
  | .agg _, .agg _ => !P.eqGuardType P.depth t
  | .inil, .iface _ _ => true
  | .iface _ _, .inil => true
  | .int _ _, .int _ _ => true
  | .str _, .str _ => true
  | .bool _, .bool _ => true
  | _, _ => false

/-- A slice that is not empty against a literal nil. -/
def aNil (P : Program) (op : BinOp) (t : TypeId) (y : Operand) (a : AV) : Option AV :=
  match y with
  | .const (.slice none 0 0) => match P.underlying t with
    | some (.slice _) => match a with
      | .slc _ (_ :: _) => match op with
        | .eql => some (.bool false)
        | .neq => some (.bool true)
        | _ => none
      | _ => none
    | _ => none
  | _ => none

/-- One operation. -/
def aOp (P : Program) (cfg : Cfg) (callF : CallF) (st : St) (o : Oper) : Option Res :=
  match o.op with
  | .move x => pv (some (st.ev x))
  | .assign x => pv (some (st.ev x))
  | .pick c a b => match st.ev c with
    | .bool t => pv (some (if t then st.ev a else st.ev b))
    | _ => none
  | .alloc t => match zeroOf P t with
    | some z => newBox st.bs o.dst z.cells
    | none => none
  | .box _ x => newBox st.bs o.dst (st.ev x).cells
  | .build t ps => aBuild P t (ps.toList.map fun x => (x.1, st.ev x.2))
  | .buildSlice t len ps => aBuildSlice P st.bs o.dst t len (ps.toList.map fun x => (x.1, st.ev x.2))
  | .load t a => pv (aLoad P st.bs t (st.ev a))
  | .store t a x => match aStore P st.bs t (st.ev a) (st.ev x) with
    | some ds => some (.val .skp ds)
    | none => none
  | .nilCheck x => match st.ev x with
    | .ptr b v i off => match cellsAt st.bs (.ptr b v i off) with
      | some _ => pv (some (.ptr b v i off))
      | none => none
    | .eptr e off => pv (some (.eptr e off))
    | .fn f fs cs => pv (some (.fn f fs cs))
    | _ => none
  | .binOp op t x y _ => if eqFree P t x y (st.ev x) (st.ev y) = true then pv (aBin P op t (st.ev x) (st.ev y)) else pv (aNil P op t y (st.ev x))
  | .unOp op _ x => pv (aUn op (st.ev x))
  | .convert src dst x => aConv P st.bs o.dst src dst (st.ev x)
  | .makeInterface t x => match P.underlying t with
    | some (.interface _) => none
    | some _ => if (st.ev x).simple then pv (some (.iface t (st.ev x))) else none
    | none => none
  | .makeFunc (.func f) first captured => if (first.toList.map st.ev).all AV.okC = true ∧ (captured.toList.map st.ev).all AV.okC = true then pv (some (.fn f (first.toList.map st.ev) (captured.toList.map st.ev))) else none
  | .makeSlice t l c => aMakeSlice P st.bs o.dst t (st.ev l) (st.ev c)
  | .slice t x lo hi mx => pv (aSlice P st.bs t (st.ev x) (lo.map st.ev) (hi.map st.ev) (mx.map st.ev))
  | .fieldAddr s x f => pv (aFieldAddr P st.bs s (st.ev x) f)
  | .field t x f => pv (aField P t (st.ev x) f)
  | .indexAddr t x i => pv (aIndexAddr P st.bs t (st.ev x) (st.ev i))
  | .index t x i => pv (aIndex P t (st.ev x) (st.ev i))
  | .extract t i => match st.ev t with
    | .tup vs => pv vs[i]?
    | _ => none
  | .typeAssert x _ asserted ok => pv (aAssert P (st.ev x) asserted ok)
  | .call { callee := .value f, args, .. } => match st.ev f with
    | .fn g first captured => aCall cfg callF st.bs o.dst g (first ++ args.toList.map st.ev ++ captured)
    | _ => none
  | .call { callee := .builtin b, args, argTypes } => aBuiltin P st.bs o.dst b argTypes.toList (args.toList.map st.ev)
  | .defer { callee := .value f, args, .. } => match st.ev f with
    | .fn g first captured => some (.dfr (.fn g first captured) (args.toList.map st.ev))
    | _ => none
  | .panic x => match st.ev x with
    | .iface t v => if v.simple then some (.pan (.iface t v) []) else none
    | _ => none
  | _ => none

/-- Is it wanted? -/
def aWanted (ops : Array Oper) (st : St) (o : Oper) : Option Bool :=
  match o.guard with
  | none => some true
  | some (j, want) => match ops[j]? with
    | some g => match g.dst with
      | some d => match (look st.fr d).getD .undef with
        | .bool b => some (b == want)
        | .skp => some false
        | _ => none
      | none => some false
    | none => some false

def St.put (st : St) (n : Nat) (d : Option Tmp) (v : AV) (ds : List (Nat × Blk)) : Option St :=
  match d with
  | some t => if t < n then some { st with fr := (t, v) :: st.fr, bs := ds ++ st.bs } else none
  | none => some { st with bs := ds ++ st.bs }

inductive Ex where
  | norm
  | exit (id : Nat)
  | ret
  | pan (v : AV)

def keysOf (ds : List (Nat × Blk)) : List Nat := ds.map (·.1)

/-- It knows no store. -/
def valueOp : Op → Bool
  | .move _ | .assign _ | .pick _ _ _ | .build _ _ | .unOp _ _ _ | .binOp _ _ _ _ _ | .field _ _ _ | .index _ _ _ | .extract _ _ | .makeInterface _ _ | .typeAssert _ _ _ _ | .makeFunc _ _ _ => true
  | _ => false

def ownK (d : Option Tmp) : List Nat :=
  match d with
  | some t => (List.range 16).map (16 * t + ·)
  | none => []

def callReads (bs : List (Nat × Blk)) (byref : Bool) (args : List AV) : List Nat :=
  args.flatMap rowsA ++ match mapO (argOf bs byref) args with
    | some args1 => closeR bs 3 (addNew [] (args1.flatMap refsA))
    | none => []

/-- The keys that an operation reads. -/
def readsK (cfg : Cfg) (st : St) (o : Oper) : List Nat :=
  match o.op with
  | .call { callee := .value f, args, .. } => match st.ev f with
    | .fn g first captured => callReads st.bs (cfg.byref g) (first ++ args.toList.map st.ev ++ captured) ++ ownK o.dst
    | _ => []
  | op => if valueOp op then [] else op.operands.toList.flatMap (fun x => refsT (st.ev x)) ++ ownK o.dst

abbrev Trk := List (Nat × List Nat × List Nat)

/-- The operations of a region, in the text's order. -/
def aOps (P : Program) (cfg : Cfg) (callF : CallF) (n : Nat) (ops : Array Oper) (trk : Bool) : Nat → List Oper → St → Trk → Option (Ex × St × Trk)
  | _, [], st, t => some (.norm, st, t)
  | i, o :: rest, st, t =>
    match aWanted ops st o with
    | none => none
    | some false => match st.put n o.dst .skp [] with
      | some st' => aOps P cfg callF n ops trk (i + 1) rest st' t
      | none => none
    | some true => match aOp P cfg callF st o with
      | none => none
      | some (.val v ds) => match st.put n o.dst v ds with
        | some st' => aOps P cfg callF n ops trk (i + 1) rest st' (if trk then (i, readsK cfg st o, keysOf ds) :: t else t)
        | none => none
      | some (.dfr f args) => match st.put n o.dst .skp [] with
        | some st' => aOps P cfg callF n ops trk (i + 1) rest { st' with df := (f, args) :: st'.df } t
        | none => none
      | some (.pan v ds) => some (.pan v, { st with bs := ds ++ st.bs }, t)

def trkAt (t : Trk) (i : Nat) : List Nat × List Nat := (look t i).getD ([], [])

def apartKeys (a b : List Nat) : Bool := a.all fun x => !b.contains x

def dynOk (t : Trk) (ps : List (Nat × Nat)) : Bool :=
  ps.all fun (i, j) => apartKeys (trkAt t i).2 ((trkAt t j).1 ++ (trkAt t j).2) && apartKeys (trkAt t j).2 ((trkAt t i).1 ++ (trkAt t i).2)

/-- May it write? -/
def effOp : Op → Bool
  | .call { callee := .builtin .len, .. } => false
  | .call { callee := .builtin .min, .. } => false
  | .call { callee := .builtin .max, .. } => false
  | .call _ => true
  | .alloc _ | .box _ _ | .buildSlice _ _ _ | .store _ _ _ | .convert _ _ _ | .makeSlice _ _ _ => true
  | _ => false

def anc1 (acc : List (List Nat)) (l : List Edge) : List Nat :=
  l.foldl (fun cur e => if Region.binds .any e then addNew cur (e.on :: acc.getD e.on []) else cur) []

def ancAll : List (List Nat) → List Oper → List (List Nat)
  | acc, [] => acc
  | acc, o :: r => ancAll (acc ++ [anc1 acc o.after.toList]) r

/-- Up to the one that throws. -/
def aOpsP (P : Program) (cfg : Cfg) (callF : CallF) (n : Nat) (ops : Array Oper) : Nat → List Oper → St → Option (Nat × St)
  | _, [], _ => none
  | i, o :: rest, st =>
    match aWanted ops st o with
    | none => none
    | some false => match st.put n o.dst .skp [] with
      | some st' => aOpsP P cfg callF n ops (i + 1) rest st'
      | none => none
    | some true => match aOp P cfg callF st o with
      | some (.val v ds) => match st.put n o.dst v ds with
        | some st' => aOpsP P cfg callF n ops (i + 1) rest st'
        | none => none
      | some (.pan _ _) => some (i, st)
      | _ => none

/-- All that writes is done before it, nothing that stands behind it. -/
def panOk (dyn : List (Nat × Nat)) (ops : Array Oper) (p : Nat) : Bool :=
  let A := ancAll [] ops.toList
  (dyn.all fun x => decide (p ≤ x.2)) && ((List.range p).all fun j => match ops[j]? with
    | some o => (A.getD p []).contains j || !effOp o.op
    | none => true) && (List.range ops.size).all fun j => decide (j ≤ p) || (A.getD j []).contains p

/-- What is known whatever was done. -/
def knownAt (ops : Array Oper) (p t : Nat) : Bool :=
  (List.range ops.size).all fun j => match ops[j]? with
    | some o => o.dst != some t || ((ancAll [] ops.toList).getD p []).contains j
    | none => true

def aRegP (P : Program) (cfg : Cfg) (callF : CallF) (dyn : List (Nat × Nat)) (n : Nat) (ops : Array Oper) (st : St) : Option (Ex × St) :=
  match aOpsP P cfg callF n ops 0 ops.toList st with
  | some (p, stp) => match ops[p]? with
    | some o =>
      if panOk dyn ops p = true ∧ stp.df.length = st.df.length then
        let stq : St := { stp with fr := stp.fr.filter fun x => knownAt ops p x.1 }
        match aWanted ops stq o with
        | some true => match aOp P cfg callF stq o with
          | some (.pan v ds) => some (.pan v, { stq with bs := ds ++ stq.bs })
          | _ => none
        | _ => none
      else none
    | none => none
  | none => none

def aRegion (P : Program) (cfg : Cfg) (callF : CallF) (f : FuncId) (n : Nat) (id : Nat) (ops : Array Oper) (draw : Bool) (st : St) : Option (Ex × St) :=
  if draw then
    match cfg.dyn f id with
    | [] => match aOps P cfg callF n ops false 0 ops.toList st [] with
      | some (.norm, st', _) => if st'.df.length = st.df.length then some (.norm, st') else none
      | some (.pan _, _, _) => aRegP P cfg callF [] n ops st
      | _ => none
    | p :: ps => match aOps P cfg callF n ops true 0 ops.toList st [] with
      | some (.norm, st', t) => if dynOk t (p :: ps) = true ∧ st'.df.length = st.df.length then some (.norm, st') else none
      | some (.pan _, _, _) => aRegP P cfg callF (p :: ps) n ops st
      | _ => none
  else
    match aOps P cfg callF n ops false 0 ops.toList st [] with
    | some (e, st', _) => some (e, st')
    | none => none

/-- Only these temporaries and blocks. -/
def keepFr (fr : List (Nat × AV)) : List Nat → List (Nat × AV)
  | [] => []
  | i :: r => match look fr i with
    | some v => (i, v) :: keepFr fr r
    | none => keepFr fr r

def keepBs (bs : List (Nat × Blk)) : List Nat → List (Nat × Blk)
  | [] => []
  | b :: r => match look bs b with
    | some x => (b, x) :: keepBs bs r
    | none => keepBs bs r

def ok1 (ks : List Nat) : AV → Bool
  | .sref b _ _ _ => ks.contains b
  | .ptr b _ _ _ => ks.contains b
  | .fn _ [] [] => true
  | .fn _ _ _ => false
  | .agg _ => false
  | .tup _ => false
  | _ => true
def okK (ks : List Nat) : AV → Bool
  | .fn _ fs cs => fs.all (ok1 ks) && cs.all (ok1 ks)
  | v => ok1 ks v
def okA (ks : List Nat) : AV → Bool
  | .agg cs => cs.all (okK ks)
  | v => okK ks v
def okRefs (ks : List Nat) : AV → Bool
  | .tup vs => vs.all (okA ks)
  | v => okA ks v

def restrict0 (k : Option (List Nat × List Nat)) (st : St) : Option St :=
  match k with
  | none => some st
  | some (fs, ks) =>
    let fr := keepFr st.fr fs
    let bs := keepBs st.bs (addNew [] (ks ++ (st.bs.map (·.1)).filter (outBase ≤ ·)))
    let all := bs.map (·.1)
    if (fr.all fun x => okRefs all x.2) && (bs.all fun x => match x.2.k with | .box => x.2.es.all (okRefs all) | _ => true) && (st.df.all fun x => okRefs all x.1 && x.2.all (okRefs all)) then some { st with fr := fr, bs := bs } else none

def mapV {α β : Type} (f : α → Option β) : List (Nat × α) → Option (List (Nat × β))
  | [] => some []
  | (i, a) :: r => match f a with
    | some b => match mapV f r with
      | some l => some ((i, b) :: l)
      | none => none
    | none => none

/-- All versions at their beginning. -/
def vzero (st : St) : Option St :=
  if (st.bs.all fun x => decide (x.1 < outBase) || decide (x.2.v = 0)) = true then
    let m := fun b v => match ldBlk st.bs b v with
      | some _ => some (Nm.key b 0)
      | none => none
    match mapV (renT m) st.fr with
    | none => none
    | some fr => match mapV (renBlk m) st.bs with
      | none => none
      | some bs => match mapO (fun x => match renT m x.1 with
          | some f => match mapO (renT m) x.2 with
            | some l => some (f, l)
            | none => none
          | none => none) st.df with
        | none => none
        | some df => some { fr := fr, bs := bs, df := df }
  else none

def restrict (k : Option (List Nat × List Nat)) (st : St) : Option St :=
  match k with
  | none => some st
  | some p => match restrict0 (some p) st with
    | some s => vzero s
    | none => none

def aLoop (res : St → Option St) (body : St → Option (Ex × St)) : Nat → St → Option (Ex × St)
  | 0, _ => none
  | k + 1, st =>
    match res st with
    | none => none
    | some st => match body st with
      | some (.norm, st') => aLoop res body k st'
      | r => r

/-- Behind a loop: only what is looked at there. -/
def exitX (res : St → Option St) (r : Option (Ex × St)) : Option (Ex × St) :=
  match r with
  | some (.pan v, st) => some (.pan v, st)
  | some (e, st) => match res st with
    | some s => some (e, s)
    | none => none
  | none => none

def rounds : Nat := 1000000

def aCode (P : Program) (cfg : Cfg) (callF : CallF) (f : FuncId) (n : Nat) : Nat → Code → St → Option (Ex × St)
  | _, .skip, st => some (.norm, st)
  | _, .region id ops draw, st => aRegion P cfg callF f n id ops draw st
  | c, .seq a b, st => match aCode P cfg callF f n c a st with
    | some (.norm, st') => aCode P cfg callF f n c b st'
    | r => r
  | c, .cond x a b, st => match st.ev x with
    | .bool t => if t then aCode P cfg callF f n c a st else aCode P cfg callF f n c b st
    | _ => none
  | _, .block id b, st => match aCode P cfg callF f n id b st with
    | some (.exit j, st') => if j = id then some (.norm, st') else some (.exit j, st')
    | r => r
  | c, .loop b, st => exitX (restrict (cfg.keepX f c)) (aLoop (restrict (cfg.keep f c)) (aCode P cfg callF f n c b) rounds st)
  | _, .exit id, st => some (.exit id, st)
  | _, .ret, st => some (.ret, st)
  | _, .label _, st => some (.norm, st)
  | _, _, _ => none

def resultOf (P : Program) (st : St) : ResultVar → Option AV
  | .tmp t => look st.fr t
  | .cell a t => aLoad P st.bs t ((look st.fr a).getD .undef)

def resultsOf (P : Program) (st : St) (rs : List ResultVar) : Option AV :=
  match mapO (resultOf P st) rs with
  | some [v] => some v
  | some vs => some (.tup vs)
  | none => none

/-- What a body leaves: the result and the blocks, under the names that both know. -/
def leave (st : St) (m : Nat) (pan : Bool) (v : AV) : Option Ret :=
  let outs := (List.range m).map (outBase + ·)
  let ks := (closeR st.bs 3 (addNew [] (refsT v ++ outs.flatMap (blkRefs st.bs)))).filter (· < outBase)
  let nm := fun b w => match ldBlk st.bs b w with
    | some _ => if outBase ≤ b then (if b < outBase + m then some (Nm.key b 0) else none) else match idx? ks b 0 with
      | some i => some (.key (newBase + i) 0)
      | none => none
    | none => none
  if (outs.all fun b => match look st.bs b with
    | some x => decide (x.v = 0)
    | none => false) = false ∨ 1000 < m then none else
  match renT nm v with
  | none => none
  | some res => match mapN (renAt st.bs nm) outs with
    | none => none
    | some out => match mapN (renAt st.bs nm) ks with
      | none => none
      | some new => some { pan := pan, res := res, out := out, new := new }

/-- The operations of a call that was put off: 'recover' tells what was thrown. -/
def aOpsD (P : Program) (cfg : Cfg) (callF : CallF) (n : Nat) (ops : Array Oper) : List Oper → St → Option AV → Bool → Option (St × Option AV × Bool)
  | [], st, r, b => some (st, r, b)
  | o :: rest, st, r, b =>
    match aWanted ops st o with
    | none => none
    | some false => match st.put n o.dst .skp [] with
      | some st' => aOpsD P cfg callF n ops rest st' r b
      | none => none
    | some true =>
      match o.op with
      | .call { callee := .builtin .recover, .. } =>
        match r with
        | some v => if v.noSlcC = true then match st.put n o.dst v [] with
            | some st' => aOpsD P cfg callF n ops rest st' none true
            | none => none
          else none
        | none => match st.put n o.dst .inil [] with
          | some st' => aOpsD P cfg callF n ops rest st' none b
          | none => none
      | _ => match aOp P cfg callF st o with
        | some (.val v ds) => match st.put n o.dst v ds with
          | some st' => aOpsD P cfg callF n ops rest st' r b
          | none => none
        | _ => none

/-- Its code: one thing behind another, tests, the end. -/
def aCodeD (P : Program) (cfg : Cfg) (callF : CallF) (f : FuncId) (n : Nat) : Code → St → Option AV → Bool → Option (Bool × St × Option AV × Bool)
  | .skip, st, r, b => some (false, st, r, b)
  | .region _ ops false, st, r, b => match aOpsD P cfg callF n ops ops.toList st r b with
    | some x => some (false, x)
    | none => none
  | .region id ops true, st, r, b => match aRegion P cfg callF f n id ops true st with
    | some (.norm, st') => some (false, st', r, b)
    | _ => none
  | .seq x y, st, r, b => match aCodeD P cfg callF f n x st r b with
    | some (false, st', r', b') => aCodeD P cfg callF f n y st' r' b'
    | e => e
  | .cond c x y, st, r, b => match st.ev c with
    | .bool t => if t then aCodeD P cfg callF f n x st r b else aCodeD P cfg callF f n y st r b
    | _ => none
  | .ret, st, r, b => some (true, st, r, b)
  | _, _, _, _ => none

/-- A call that was put off, beside what was thrown: was it caught? -/
def aFuncD (P : Program) (cfg : Cfg) (callF : CallF) (r : Option AV) (f : FuncId) (args : List AV) (out : List Blk) : Option Ret :=
  if cfg.isF f then
    match P.funcs[f]? with
    | some fn => match fn.body with
      | some c => if args.length ≤ fn.ntmps ∧ fn.results.size = 0 then
          match aCodeD P cfg callF f fn.ntmps c { fr := paramsFr 0 args, bs := outerSt out, df := [] } r false with
          | some (_, st, _, b) => if st.df.isEmpty = true then leave st out.length false (.bool b) else none
          | none => none
        else none
      | none => none
    | none => none
  else none

/-- The calls that were put off, the last first. -/
def unwindA (P : Program) (cfg : Cfg) (callF : CallF) : List (AV × List AV) → Option AV → St → Option (Option AV × St)
  | [], r, st => some (r, st)
  | (.fn g first captured, args) :: ds, r, st =>
    match aCall cfg (aFuncD P cfg callF r) st.bs none g (first ++ args ++ captured) with
    | some (.val (.bool true) d) => unwindA P cfg callF ds none { st with bs := d ++ st.bs }
    | some (.val (.bool false) d) => unwindA P cfg callF ds r { st with bs := d ++ st.bs }
    | _ => none
  | _, _, _ => none

/-- What comes of a body. -/
def finish (P : Program) (cfg : Cfg) (callF : CallF) (fn : Func) (m : Nat) (ds : List (AV × List AV)) (r : Option AV) (st : St) : Option Ret :=
  match unwindA P cfg callF ds r st with
  | some (none, st') => match resultsOf P st' fn.results.toList with
    | some v => leave st' m false v
    | none => none
  | some (some v, st') => leave st' m true v
  | none => none

/-- A function. -/
def aFunc (P : Program) (cfg : Cfg) (callF : CallF) (f : FuncId) (args : List AV) (out : List Blk) : Option Ret :=
  if cfg.isF f then
    match P.funcs[f]? with
    | some fn => match fn.body with
      | some c => if args.length ≤ fn.ntmps then
          match aCode P cfg callF f fn.ntmps 0 c { fr := paramsFr 0 args, bs := outerSt out, df := [] } with
          | some (.pan v, st) => finish P cfg callF fn out.length st.df (some v) st
          | some (.exit _, _) => none
          | some (_, st) => finish P cfg callF fn out.length st.df none st
          | none => none
        else none
      | none => none
    | none => none
  else none

def evF (P : Program) (cfg : Cfg) : Nat → CallF
  | 0 => fun _ _ _ => none
  | k + 1 => fun f args out =>
    match cfg.prim f with
    | some g => g args out
    | none => aFunc P cfg (evF P cfg k) f args out

/-- slices.Clone: a new row. -/
def primClone (args : List AV) (out : List Blk) : Option Ret :=
  match args with
  | [.slc _ []] => some { pan := false, res := .slc true [], out := out, new := [] }
  | [.slc _ (e :: es)] => some { pan := false, res := .sref newBase 0 0 (e :: es).length, out := out, new := [{ v := 0, k := .row, fz := false, sz := e.cells.length, es := e :: es }] }
  | _ => none

/-- strings.Repeat. -/
def primRepeat (args : List AV) (out : List Blk) : Option Ret :=
  match args with
  | [.str s, .int _ n] => if 0 ≤ n ∧ n ≤ 1000 ∧ s.length ≤ 1000 then some { pan := false, res := .str (List.replicate n.toNat s).flatten, out := out, new := [] } else none
  | _ => none

end Go.Ab
