/- A part of the proof: an evaluator of code on values and its soundness. -/
import Derived.Calls
import Derived.Defers
import Derived.Laws.CopyRow
import Derived.Laws.Append
import Derived.Laws.Sem
import Derived.Laws.Entries
import Derived.Laws.Cells
import Derived.Laws.Strings
import Derived.Laws.Strings2
import Derived.Lib.Strings
import Derived.Laws.StructEq
import Derived.ChangeKeysEq
import Derived.Laws.Tables
import Derived.Laws.BytesString
set_option linter.unusedVariables false
set_option linter.unusedSimpArgs false
/- An abstract, executable evaluator of the model's code: what is not written is a value, what is written lies in a small store. -/
namespace Go.Ab

/-- What a temporary or a cell holds. -/
inductive AV where
  | undef
  | skp
  | bool (b : Bool)
  | int (k : IntKind) (n : Int)
  | str (s : List UInt8)
  | agg (cs : List AV)
  | tup (vs : List AV)
  | slc (x : Bool) (es : List AV)
  | sref (b v off len : Nat)
  | ptr (b v i off : Nat)
  | eptr (e : AV) (off : Nat)
  | pnil
  | fn (f : FuncId) (first captured : List AV)
  | fnil
  | iface (t : TypeId) (v : AV)
  | inil

instance : Inhabited AV := ⟨.undef⟩

def AV.cells : AV → List AV
  | .agg cs => cs
  | v => [v]

def AV.recell : AV → List AV → AV
  | .agg _, cs => .agg cs
  | _, [c] => c
  | v, _ => v

inductive BK where
  | dead | box | row
  deriving DecidableEq

structure Blk where
  v : Nat
  k : BK
  fz : Bool
  sz : Nat
  es : List AV

def look {α : Type} : List (Nat × α) → Nat → Option α
  | [], _ => none
  | (j, a) :: r, i => if j = i then some a else look r i

structure St where
  fr : List (Nat × AV)
  bs : List (Nat × Blk)
  df : List (AV × List AV)

/-- What is handed to a call, and what comes back: the blocks that both know, the new ones. -/
structure Ret where
  pan : Bool
  res : AV
  out : List Blk
  new : List Blk

structure Cfg where
  isF : FuncId → Bool
  keep : FuncId → Nat → Option (List Nat × List Nat)
  dyn : FuncId → Nat → List (Nat × Nat)
  byref : FuncId → Bool
  thaw : FuncId → Bool
  prim : FuncId → Option (List AV → List Blk → Option Ret)
  spl : FuncId → Nat → Nat := fun _ _ => 0
  keepX : FuncId → Nat → Option (List Nat × List Nat) := fun _ _ => none
  inp : FuncId → Bool := fun _ => false

def ofCell : Value → AV
  | .bool b => .bool b
  | .int k n => .int k n
  | .string s => .str s.data.toList
  | .pointer none => .pnil
  | .slice none 0 0 => .slc true []
  | .nilFunc => .fnil
  | .nilIface => .inil
  | _ => .undef

def ofVal : Value → AV
  | .agg cs => .agg (cs.toList.map ofCell)
  | v => ofCell v

def St.ev (s : St) : Operand → AV
  | .tmp t => (look s.fr t).getD .undef
  | .const v => ofCell v
  | .func f => .fn f [] []
  | .global _ => .undef

def isAggT (P : Program) (t : TypeId) : Option Bool :=
  match P.underlying t with
  | some (.struct _) => some true
  | some (.array _ _) => some true
  | some _ => some false
  | none => none

/-- May it be a cell's content? -/
def AV.okC : AV → Bool
  | .undef | .skp | .agg _ | .tup _ => false
  | _ => true

def ldBlk (bs : List (Nat × Blk)) (b v : Nat) : Option Blk :=
  match look bs b with
  | some x => if x.v = v ∧ x.k ≠ .dead then some x else none
  | none => none

def cellsAt (bs : List (Nat × Blk)) : AV → Option (List AV × Nat)
  | .ptr b v i off =>
    match ldBlk bs b v with
    | some x =>
      match x.k with
      | .box => if i = 0 then some (x.es, off) else none
      | .row => match x.es[i]? with
        | some e => some (e.cells, off)
        | none => none
      | .dead => none
    | none => none
  | .eptr e off => some (e.cells, off)
  | _ => none

def part (P : Program) (t : TypeId) (cs : List AV) (off : Nat) : Option AV :=
  match isAggT P t with
  | some true => if off + P.cellsOf t ≤ cs.length then some (.agg ((cs.drop off).take (P.cellsOf t))) else none
  | some false => cs[off]?
  | none => none

def aLoad (P : Program) (bs : List (Nat × Blk)) (t : TypeId) (p : AV) : Option AV :=
  match cellsAt bs p with
  | some (cs, off) => part P t cs off
  | none => none

def splice (cs : List AV) (off : Nat) (xs : List AV) : Option (List AV) :=
  if off + xs.length ≤ cs.length then some (cs.take off ++ (xs ++ cs.drop (off + xs.length))) else none

def AV.simpleC : AV → Bool
  | .bool _ | .int _ _ | .str _ | .pnil | .fnil | .inil => true
  | _ => false

def AV.simple : AV → Bool
  | .agg cs => cs.all AV.simpleC
  | v => v.simpleC

def rowAt (bs : List (Nat × Blk)) (b v off len : Nat) : Option (List AV) :=
  match ldBlk bs b v with
  | some x => if x.k = .row ∧ off + len ≤ x.es.length then some ((x.es.drop off).take len) else none
  | none => none

/-- What a name of a block becomes: another name, or what the row holds, as a value. -/
inductive Nm where
  | key (b v : Nat)
  | row (es : List AV)

def mapO {α β : Type} (f : α → Option β) : List α → Option (List β)
  | [] => some []
  | a :: r => match f a with
    | some b => match mapO f r with
      | some bs => some (b :: bs)
      | none => none
    | none => none

def mapN {α : Type} (f : Nat → Option α) : List Nat → Option (List α)
  | [] => some []
  | a :: r => match f a with
    | some b => match mapN f r with
      | some bs => some (b :: bs)
      | none => none
    | none => none

/-- A cell under other names. -/
def renC (m : Nat → Nat → Option Nm) : AV → Option AV
  | .bool b => some (.bool b)
  | .int k n => some (.int k n)
  | .str s => some (.str s)
  | .slc x es => some (.slc x es)
  | .pnil => some .pnil
  | .fnil => some .fnil
  | .inil => some .inil
  | .eptr e off => some (.eptr e off)
  | .iface t v => if v.simple then some (.iface t v) else none
  | .fn f [] [] => some (.fn f [] [])
  | .sref b v off len => match m b v with
    | some (.key b' v') => some (.sref b' v' off len)
    | some (.row es) => if off + len ≤ es.length then some (.slc false ((es.drop off).take len)) else none
    | none => none
  | .ptr b v i off => match m b v with
    | some (.key b' v') => some (.ptr b' v' i off)
    | _ => none
  | _ => none

def renD (m : Nat → Nat → Option Nm) : AV → Option AV
  | .fn f fs cs => match mapO (renC m) fs with
    | some fs' => match mapO (renC m) cs with
      | some cs' => some (.fn f fs' cs')
      | none => none
    | none => none
  | v => renC m v

def renA (m : Nat → Nat → Option Nm) : AV → Option AV
  | .agg cs => match mapO (renD m) cs with
    | some l => some (.agg l)
    | none => none
  | v => renD m v

def renT (m : Nat → Nat → Option Nm) : AV → Option AV
  | .tup vs => match mapO (renA m) vs with
    | some l => some (.tup l)
    | none => none
  | v => renA m v

def pureM (bs : List (Nat × Blk)) (b v : Nat) : Option Nm :=
  match ldBlk bs b v with
  | some x => if x.k = .row then some (.row x.es) else none
  | none => none

/-- As something that is not in the store. -/
def pureC (bs : List (Nat × Blk)) : AV → Option AV
  | .eptr _ _ => none
  | .ptr _ _ _ _ => none
  | a => renC (pureM bs) a
def pureA (bs : List (Nat × Blk)) : AV → Option AV
  | .agg cs => match mapO (pureC bs) cs with
    | some l => some (.agg l)
    | none => none
  | v => pureC bs v

/-- The rows that a value leads to, itself. -/
def rowsC : AV → List Nat
  | .sref b _ _ _ => [b]
  | _ => []
def rowsA : AV → List Nat
  | .agg cs => cs.flatMap rowsC
  | v => rowsC v
def rowsT : AV → List Nat
  | .tup vs => vs.flatMap rowsA
  | v => rowsA v

def freeze (bs : List (Nat × Blk)) : List Nat → List (Nat × Blk)
  | [] => []
  | b :: r => match look bs b with
    | some x => (b, { x with fz := true }) :: freeze bs r
    | none => freeze bs r

def nextV (bs : List (Nat × Blk)) (b : Nat) : Nat :=
  match look bs b with
  | some x => x.v + 1
  | none => 0

/-- What an operation comes to. -/
inductive Res where
  | val (v : AV) (ds : List (Nat × Blk))
  | pan (v : AV) (ds : List (Nat × Blk))
  | dfr (f : AV) (args : List AV)

def keyOf (d : Option Tmp) : Option Nat :=
  match d with
  | some t => some (16 * t)
  | none => none

def newBlk (bs : List (Nat × Blk)) (b : Nat) (k : BK) (sz : Nat) (es : List AV) : Nat × Blk := (b, { v := nextV bs b, k := k, fz := false, sz := sz, es := es })

def newBox (bs : List (Nat × Blk)) (d : Option Tmp) (cs : List AV) : Option Res :=
  match keyOf d with
  | some b => if cs.all AV.okC then some (.val (.ptr b (nextV bs b) 0 0) [newBlk bs b .box 0 cs]) else none
  | none => none

def newRow (bs : List (Nat × Blk)) (d : Option Tmp) (sz : Nat) (es : List AV) (more : List (Nat × Blk)) : Option Res :=
  match keyOf d with
  | some b => some (.val (.sref b (nextV bs b) 0 es.length) (newBlk bs b .row sz es :: more))
  | none => none

def zeroOf (P : Program) (t : TypeId) : Option AV :=
  match P.info? t with
  | some i => match i.zero with
    | some z => if (ofVal z).cells.all AV.okC = true ∧ (ofVal z).cells.length = P.cellsOf t then some (ofVal z) else none
    | none => none
  | none => none

def fillC (place : Nat → Option (Nat × Nat)) (cells : List AV) : List (Nat × AV) → Option (List AV)
  | [] => some cells
  | (i, v) :: rest =>
    match place i with
    | none => none
    | some (off, size) =>
      if v.cells.length = size ∧ v.cells.all AV.okC = true then
        match splice cells off v.cells with
        | some cells => fillC place cells rest
        | none => none
      else none

def placesOf (P : Program) (fs : Array Field) : Option (List (Nat × Nat)) := fs.toList.mapM (fun f => (P.info? f.type).map fun i => (f.offset, i.size))

def aBuild (P : Program) (t : TypeId) (parts : List (Nat × AV)) : Option Res :=
  match zeroOf P t with
  | some z =>
    match P.underlying t with
    | some (.struct fs) => match placesOf P fs with
      | some places => match fillC (places.toArray[·]?) z.cells parts with
        | some cs => some (.val (.agg cs) [])
        | none => none
      | none => none
    | some (.array _ e) => if P.cellsOf e = 0 then none else match fillC (fun i => some (i * P.cellsOf e, P.cellsOf e)) z.cells parts with
      | some cs => some (.val (.agg cs) [])
      | none => none
    | _ => none
  | none => none

def setAll (bs : List (Nat × Blk)) (sz : Nat) (es : List AV) : List (Nat × AV) → Option (List AV)
  | [] => some es
  | (i, x) :: r => match pureA bs x with
    | some y => if i < es.length ∧ y.cells.length = sz ∧ y.cells.all AV.okC = true then setAll bs sz (es.set i y) r else none
    | none => none

def aBuildSlice (P : Program) (bs : List (Nat × Blk)) (d : Option Tmp) (t : TypeId) (len : Nat) (parts : List (Nat × AV)) : Option Res :=
  match P.underlying t with
  | some (.slice e) =>
    match zeroOf P e with
    | some z =>
      if len * P.cellsOf e ≤ 1000000 ∧ P.cellsOf e ≠ 0 then
        match setAll bs (P.cellsOf e) (List.replicate len z) parts with
        | some es => newRow bs d (P.cellsOf e) es (freeze bs (parts.flatMap fun x => rowsA x.2))
        | none => none
      else none
    | none => none
  | _ => none

def aStore (P : Program) (bs : List (Nat × Blk)) (t : TypeId) (p x : AV) : Option (List (Nat × Blk)) :=
  if x.cells.length = P.cellsOf t ∧ x.cells.all AV.okC = true ∧ (P.info? t).isSome = true then
    match p with
    | .ptr b v i off =>
      match ldBlk bs b v with
      | some blk =>
        match blk.k with
        | .box => if i = 0 ∧ blk.fz = false then
            match splice blk.es off x.cells with
            | some es => some [(b, { blk with es := es })]
            | none => none
          else none
        | .row => if blk.fz then none else
          match blk.es[i]? with
          | some e => match mapO (pureC bs) x.cells with
            | some xs => match splice e.cells off xs with
              | some cs => if (rowsA x).contains b then none else some ((b, { blk with es := blk.es.set i (e.recell cs) }) :: freeze bs (rowsA x))
              | none => none
            | none => none
          | none => none
        | .dead => none
      | none => none
    | _ => none
  else none

def aIndexAddr (P : Program) (bs : List (Nat × Blk)) (t : TypeId) (x i : AV) : Option AV :=
  match P.underlying t with
  | some (.slice e) =>
    match x with
    | .slc _ es => match i with
      | .int _ n => if 0 ≤ n then
          match es[n.toNat]? with
          | some el => if el.cells.length = P.cellsOf e ∧ P.cellsOf e ≠ 0 then some (.eptr el 0) else none
          | none => none
        else none
      | _ => none
    | .sref b v off len => match i with
      | .int _ n => if 0 ≤ n ∧ n < len then
          match ldBlk bs b v with
          | some x => if x.k = .row ∧ x.sz = P.cellsOf e ∧ P.cellsOf e ≠ 0 then some (.ptr b v (off + n.toNat) 0) else none
          | none => none
        else none
      | _ => none
    | _ => none
  | some (.array len e) =>
    match i with
    | .int _ n => if 0 ≤ n ∧ n < len ∧ P.cellsOf e ≠ 0 then
        match x with
        | .ptr b v j off => match cellsAt bs (.ptr b v j off) with
          | some _ => some (.ptr b v j (off + n.toNat * P.cellsOf e))
          | none => none
        | .eptr el off => some (.eptr el (off + n.toNat * P.cellsOf e))
        | _ => none
      else none
    | _ => none
  | _ => none

def aFieldAddr (P : Program) (bs : List (Nat × Blk)) (s : TypeId) (x : AV) (f : Nat) : Option AV :=
  match P.underlying s with
  | some (.struct fs) =>
    match fs[f]? with
    | some fl => if P.cellsOf fl.type = 0 then none else
      match x with
      | .ptr b v j off => match cellsAt bs (.ptr b v j off) with
        | some _ => some (.ptr b v j (off + fl.offset))
        | none => none
      | .eptr el off => some (.eptr el (off + fl.offset))
      | _ => none
    | none => none
  | _ => none

def aField (P : Program) (xT : TypeId) (x : AV) (f : Nat) : Option AV :=
  match P.underlying xT with
  | some (.struct fs) =>
    match fs[f]? with
    | some fl => match x with
      | .agg cs => part P fl.type cs fl.offset
      | _ => none
    | none => none
  | _ => none

def aIndex (P : Program) (xT : TypeId) (x i : AV) : Option AV :=
  match i with
  | .int _ n =>
    if 0 ≤ n then
      match P.underlying xT with
      | some (.array len e) => match x with
        | .agg cs => if n < len then part P e cs (n.toNat * P.cellsOf e) else none
        | _ => none
      | some .string => match x with
        | .str s => match s[n.toNat]? with
          | some b => some (.int .u8 b.toNat)
          | none => none
        | _ => none
      | _ => none
    else none
  | _ => none

def boundOf (d : Nat) : Option AV → Option Nat
  | none => some d
  | some (.int _ n) => if 0 ≤ n then some n.toNat else none
  | some _ => none

def aSlice (P : Program) (bs : List (Nat × Blk)) (t : TypeId) (x : AV) (lo hi mx : Option AV) : Option AV :=
  match boundOf 0 lo with
  | none => none
  | some l =>
    match x with
    | .str s =>
      match P.underlying t with
      | some .string =>
        match boundOf s.length hi with
        | some h => if l ≤ h ∧ h ≤ s.length ∧ mx.isNone then some (.str ((s.drop l).take (h - l))) else none
        | none => none
      | _ => none
    | .slc c es =>
      match P.underlying t with
      | some (.slice e) =>
        if es.all (fun y => decide (y.cells.length = P.cellsOf e)) = true ∧ P.cellsOf e ≠ 0 then
        match boundOf es.length hi with
        | some h =>
          match mx with
          | none => if l ≤ h ∧ h ≤ es.length then some (.slc (c && decide (h = es.length)) ((es.drop l).take (h - l))) else none
          | some m => match boundOf 0 (some m) with
            | some m => if l ≤ h ∧ h ≤ m ∧ m ≤ es.length ∧ hi.isSome then some (.slc (decide (h = m)) ((es.drop l).take (h - l))) else none
            | none => none
        | none => none
        else none
      | _ => none
    | .sref b v off len =>
      match P.underlying t with
      | some (.slice e) =>
        match ldBlk bs b v with
        | some x =>
          if x.k = .row ∧ x.sz = P.cellsOf e ∧ P.cellsOf e ≠ 0 then
          match boundOf len hi with
          | some h =>
            match mx with
            | none => if l ≤ h ∧ off + h ≤ x.es.length then (if l = 0 ∨ off + l < x.es.length then some (.sref b v (off + l) (h - l)) else some (.slc false [])) else none
            | some m => match boundOf 0 (some m) with
              | some m => if l ≤ h ∧ h ≤ m ∧ off + m ≤ x.es.length ∧ hi.isSome then (if m = l then some (.slc true []) else some .undef) else none
              | none => none
          | none => none
          else none
        | none => none
      | _ => none
    | _ => none

def aEqF (P : Program) (eq : TypeId → AV → AV → Option Bool) (xs ys : List AV) : List Field → Option Bool
  | [] => some true
  | f :: r =>
    if f.name = "_" then aEqF P eq xs ys r else
    match part P f.type xs f.offset with
    | some a => match part P f.type ys f.offset with
      | some b => match eq f.type a b with
        | some c => match aEqF P eq xs ys r with
          | some c' => some (c && c')
          | none => none
        | none => none
      | none => none
    | none => none

def aEqN (P : Program) (eq : TypeId → AV → AV → Option Bool) (xs ys : List AV) (e : TypeId) : Nat → Nat → Option Bool
  | 0, _ => some true
  | n + 1, i =>
    match part P e xs (i * P.cellsOf e) with
    | some a => match part P e ys (i * P.cellsOf e) with
      | some b => match eq e a b with
        | some c => match aEqN P eq xs ys e n (i + 1) with
          | some c' => some (c && c')
          | none => none
        | none => none
      | none => none
    | none => none

/-- '==' of two values of a type of numbers, bools, strings and structs and arrays of these. -/
def aEq (P : Program) : Nat → TypeId → AV → AV → Option Bool
  | 0, _, _, _ => none
  | d + 1, t, x, y =>
    match P.underlying t with
    | some .bool => match x, y with
      | .bool a, .bool b => some (a == b)
      | _, _ => none
    | some (.int _) => match x, y with
      | .int k a, .int k' b => if k = k' then some (decide (a = b)) else none
      | _, _ => none
    | some .string => match x, y with
      | .str a, .str b => some (decide (a = b))
      | _, _ => none
    | some (.interface _) => match x, y with
      | .inil, .inil => some true
      | .inil, .iface _ _ => some false
      | .iface _ _, .inil => some false
      | _, _ => none
    | some (.struct fs) => match x, y with
      | .agg xs, .agg ys => if P.stoodInHeld t then none else aEqF P (aEq P d) xs ys fs.toList
      | _, _ => none
    | some (.array n e) => match x, y with
      | .agg xs, .agg ys => if P.cellsOf e = 0 then none else aEqN P (aEq P d) xs ys e n 0
      | _, _ => none
    | _ => none

def aInts (op : BinOp) (k : IntKind) (a b : Int) : Option AV :=
  match op with
  | .add => some (.int k (k.wrap (a + b)))
  | .sub => some (.int k (k.wrap (a - b)))
  | .mul => some (.int k (k.wrap (a * b)))
  | .quo => if b = 0 then none else some (.int k (k.wrap (a.tdiv b)))
  | .rem => if b = 0 then none else some (.int k (a.tmod b))
  | .and => some (.int k (k.wrap (BitVec.ofInt k.bits a &&& BitVec.ofInt k.bits b).toNat))
  | .or => some (.int k (k.wrap (BitVec.ofInt k.bits a ||| BitVec.ofInt k.bits b).toNat))
  | .xor => some (.int k (k.wrap (BitVec.ofInt k.bits a ^^^ BitVec.ofInt k.bits b).toNat))
  | .andNot => some (.int k (k.wrap (BitVec.ofInt k.bits a &&& ~~~(BitVec.ofInt k.bits b)).toNat))
  | .eql => some (.bool (decide (a = b)))
  | .neq => some (.bool (!decide (a = b)))
  | .lss => some (.bool (decide (a < b)))
  | .leq => some (.bool (decide (a ≤ b)))
  | .gtr => some (.bool (decide (b < a)))
  | .geq => some (.bool (decide (b ≤ a)))
  | _ => none

def aBin (P : Program) (op : BinOp) (t : TypeId) (x y : AV) : Option AV :=
  match x, y with
  | .int k a, .int k' b =>
    match op with
    | .shl => if b < 0 then none else some (.int k (k.wrap (a * 2 ^ (min b.toNat k.bits))))
    | .shr => if b < 0 then none else some (.int k (a.fdiv (2 ^ (min b.toNat k.bits))))
    | _ => if k = k' then aInts op k a b else none
  | .str a, .str b =>
    match op with
    | .add => if a.length + b.length < 1000000000 then some (.str (a ++ b)) else none
    | .eql => some (.bool (decide (a = b)))
    | .neq => some (.bool (!decide (a = b)))
    | _ => none
  | x, y =>
    match op with
    | .eql => match aEq P 20 t x y with
      | some c => some (.bool c)
      | none => none
    | .neq => match aEq P 20 t x y with
      | some c => some (.bool (!c))
      | none => none
    | _ => none

def aUn (op : UnOp) (x : AV) : Option AV :=
  match op, x with
  | .not, .bool b => some (.bool (!b))
  | .neg, .int k n => some (.int k (k.wrap (0 - n)))
  | .xor, .int k n => some (.int k (k.wrap (BitVec.ofInt k.bits (if k.signed then -1 else k.max) ^^^ BitVec.ofInt k.bits n).toNat))
  | _, _ => none

/-- What is in a slice or a string, as elements. -/
def elemsOf (bs : List (Nat × Blk)) : AV → Option (List AV)
  | .slc _ es => some es
  | .sref b v off len => rowAt bs b v off len
  | .str s => some (s.map fun c => .int .u8 c.toNat)
  | _ => none

def bytesOf? : List AV → Option (List UInt8)
  | [] => some []
  | .int .u8 n :: r => match bytesOf? r with
    | some l => some (UInt8.ofNat n.toNat :: l)
    | none => none
  | _ :: _ => none

def aConv (P : Program) (bs : List (Nat × Blk)) (d : Option Tmp) (src dst : TypeId) (x : AV) : Option Res :=
  match x with
  | .int _ n => match P.underlying dst with
    | some (.int k) => if (P.underlying src).isSome then some (.val (.int k (k.wrap n)) []) else none
    | _ => none
  | .str s => match P.underlying dst with
    | some .string => if (P.underlying src).isSome then some (.val (.str s) []) else none
    | some (.slice e) => match P.underlying e with
      | some (.int .u8) => if (P.underlying src).isSome ∧ s.length < 1000000000 then newRow bs d 1 (s.map fun c => .int .u8 c.toNat) [] else none
      | _ => none
    | _ => none
  | x => match P.underlying src with
    | some (.slice e) => match P.underlying dst with
      | some .string => match P.underlying e with
        | some (.int .u8) => match elemsOf bs x with
          | some es => match bytesOf? es with
            | some l => some (.val (.str l) [])
            | none => none
          | none => none
        | _ => none
      | some (.slice e') => match x with
        | .sref b v off len => match ldBlk bs b v with
          | some y => match P.underlying e' with
            | some (.int .u8) => if src = dst ∧ y.k = .row ∧ y.fz = false ∧ y.sz = 1 then some (.val (.sref b v off len) [(b, y)]) else none
            | _ => none
          | none => none
        | _ => none
      | _ => none
    | _ => none

def aLen (P : Program) (bs : List (Nat × Blk)) (t : TypeId) (x : AV) : Option AV :=
  match P.underlying t with
  | some .string => match x with
    | .str s => some (.int .i64 s.length)
    | _ => none
  | some (.slice _) => match x with
    | .slc _ es => some (.int .i64 es.length)
    | .sref b v off len => match rowAt bs b v off len with
      | some _ => some (.int .i64 len)
      | none => none
    | _ => none
  | some (.array n _) => some (.int .i64 n)
  | _ => none

def bytesFit (P : Program) (e : TypeId) (n : Nat) : Bool := decide (n * P.bytesOf e ≤ 1000000000000 ∧ n ≤ 1000000000000 ∧ 0 < P.bytesOf e)

/-- The elements that 'append' puts behind: of a slice, of a string. -/
def appended (P : Program) (bs : List (Nat × Blk)) (xT : TypeId) (x : AV) : Option (List AV) :=
  match P.underlying xT with
  | some .string => match x with
    | .str s => some (s.map fun c => .int .u8 c.toNat)
    | _ => none
  | some (.slice _) => match x with
    | .str _ => none
    | x => elemsOf bs x
  | _ => none

def aAppend (P : Program) (bs : List (Nat × Blk)) (d : Option Tmp) (sT xT : TypeId) (s x : AV) : Option Res :=
  match P.underlying sT with
  | some (.slice e) =>
    match appended P bs xT x with
    | some xs =>
      if xs.all (fun y => decide (y.cells.length = P.cellsOf e)) = true ∧ P.cellsOf e ≠ 0 ∧ (zeroOf P e).isSome = true then
      match s with
      | .slc c es =>
        if xs.isEmpty = true then some (.val s [])
        else if c = true ∧ bytesFit P e (es.length + xs.length) = true ∧ es.all (fun y => decide (y.cells.length = P.cellsOf e)) = true then newRow bs d (P.cellsOf e) (es ++ xs) []
        else none
      | .sref b v off len =>
        match ldBlk bs b v with
        | some blk =>
          if blk.k = .row ∧ off + len ≤ blk.es.length ∧ blk.sz = P.cellsOf e then
            if xs.isEmpty = true then some (.val s [])
            else if blk.fz = true then none
            else if off + len + xs.length ≤ blk.es.length then
              some (.val (.sref b v off (len + xs.length)) [(b, { blk with es := blk.es.take (off + len) ++ (xs ++ blk.es.drop (off + len + xs.length)) })])
            else if off = 0 ∧ bytesFit P e (len + xs.length) = true then
              match keyOf d with
              | some k => some (.val (.sref k (nextV bs k) 0 (len + xs.length)) ((k, { v := nextV bs k, k := .row, fz := false, sz := blk.sz, es := blk.es.take len ++ xs }) :: (if k = b then [] else [(b, { blk with k := .dead })])))
              | none => none
            else none
          else none
        | none => none
      | _ => none
      else none
    | none => none
  | _ => none

def aCopy (P : Program) (bs : List (Nat × Blk)) (dT : TypeId) (s x : AV) : Option Res :=
  match P.underlying dT with
  | some (.slice e) =>
    match (match x with | .str _ => none | x => elemsOf bs x) with
    | some xs =>
      match s with
      | .sref b v off len =>
        match ldBlk bs b v with
        | some blk =>
          if P.cellsOf e ≠ 0 ∧ blk.k = .row ∧ off + len ≤ blk.es.length ∧ blk.fz = false ∧ blk.sz = P.cellsOf e ∧ xs.all (fun y => decide (y.cells.length = P.cellsOf e)) = true then
            some (.val (.int .i64 ((min xs.length len : Nat) : Int)) [(b, { blk with es := blk.es.take off ++ (xs.take (min xs.length len) ++ blk.es.drop (off + min xs.length len)) })])
          else none
        | none => none
      | _ => none
    | none => none
  | _ => none

def aClear (P : Program) (bs : List (Nat × Blk)) (t : TypeId) (x : AV) : Option Res :=
  match P.underlying t with
  | some (.slice e) =>
    match x with
    | .slc _ [] => some (.val (.tup []) [])
    | .sref b v off len =>
      match ldBlk bs b v with
      | some blk =>
        match zeroOf P e with
        | some z =>
          if P.cellsOf e ≠ 0 ∧ blk.k = .row ∧ off + len ≤ blk.es.length ∧ blk.fz = false ∧ blk.sz = P.cellsOf e then
            some (.val (.tup []) [(b, { blk with es := blk.es.take off ++ (List.replicate len z ++ blk.es.drop (off + len)) })])
          else none
        | none => none
      | none => none
    | _ => none
  | _ => none

def minI (a b : Int) : Int := if b < a then b else a
def maxI (a b : Int) : Int := if b > a then b else a

def aMin : AV → List AV → Option AV
  | v, [] => some v
  | .int k a, .int k' b :: r => if k = k' then aMin (.int k (minI a b)) r else none
  | _, _ => none
def aMax : AV → List AV → Option AV
  | v, [] => some v
  | .int k a, .int k' b :: r => if k = k' then aMax (.int k (maxI a b)) r else none
  | _, _ => none

def aMakeSlice (P : Program) (bs : List (Nat × Blk)) (d : Option Tmp) (t : TypeId) (l c : AV) : Option Res :=
  match P.underlying t with
  | some (.slice e) =>
    match l with
    | .int _ n => match c with
      | .int _ m => match zeroOf P e with
        | some z => if n = m ∧ 0 ≤ n ∧ n ≤ 1000000000 ∧ bytesFit P e n.toNat = true ∧ P.cellsOf e ≠ 0 then newRow bs d (P.cellsOf e) (List.replicate n.toNat z) [] else none
        | none => none
      | _ => none
    | _ => none
  | _ => none

/-- Asked for an interface: are its methods there? -/
def aAssertI (P : Program) (want : Array (String × TypeId)) (x : AV) (asserted : TypeId) (ok : Bool) : Option AV :=
  match x with
  | .inil => if ok then (match zeroOf P asserted with
    | some z => some (.tup [z, .bool false])
    | none => none) else none
  | .iface t v => match P.info? t with
    | some i => match Instr.missingMethod want i.methods with
      | none => if ok then some (.tup [.iface t v, .bool true]) else some (.iface t v)
      | some _ => if ok then (match zeroOf P asserted with
        | some z => some (.tup [z, .bool false])
        | none => none) else none
    | none => none
  | _ => none

def aAssert (P : Program) (x : AV) (asserted : TypeId) (ok : Bool) : Option AV :=
  match P.underlying asserted with
  | some (.interface ms) => aAssertI P ms x asserted ok
  | some _ =>
    match x with
    | .inil => if ok then (match zeroOf P asserted with
      | some z => some (.tup [z, .bool false])
      | none => none) else none
    | .iface t v => if t = asserted then (if ok then some (.tup [v, .bool true]) else some v) else
      if ok then (match zeroOf P asserted with
      | some z => some (.tup [z, .bool false])
      | none => none) else none
    | _ => none
  | none => none

/-- The blocks that a value leads to: of a cell; of a value. -/
def refsC : AV → List Nat
  | .sref b _ _ _ => [b]
  | .ptr b _ _ _ => [b]
  | .fn _ fs cs => (fs ++ cs).flatMap fun
    | .sref b _ _ _ => [b]
    | .ptr b _ _ _ => [b]
    | _ => []
  | _ => []
def refsA : AV → List Nat
  | .agg cs => cs.flatMap refsC
  | v => refsC v
def refsT : AV → List Nat
  | .tup vs => vs.flatMap refsA
  | v => refsA v

def addNew : List Nat → List Nat → List Nat
  | acc, [] => acc
  | acc, x :: r => if acc.contains x then addNew acc r else addNew (acc ++ [x]) r

def blkRefs (bs : List (Nat × Blk)) (b : Nat) : List Nat :=
  match look bs b with
  | some x => match x.k with
    | .box => x.es.flatMap refsC
    | _ => []
  | none => []

/-- All that can be reached: so many rounds. -/
def closeR (bs : List (Nat × Blk)) : Nat → List Nat → List Nat
  | 0, l => l
  | n + 1, l => closeR bs n (addNew l (l.flatMap (blkRefs bs)))

def outBase : Nat := 1000000
def newBase : Nat := 2000000

def idx? : List Nat → Nat → Nat → Option Nat
  | [], _, _ => none
  | x :: r, b, i => if x = b then some i else idx? r b (i + 1)

/-- Blocks under the names from 'base' on, all of them of version 0; what is old has none. -/
def nameM (bs : List (Nat × Blk)) (ks : List Nat) (base : Nat) (b v : Nat) : Option Nm :=
  match ldBlk bs b v with
  | some _ => match idx? ks b 0 with
    | some i => some (.key (base + i) 0)
    | none => none
  | none => none

def renBlk (m : Nat → Nat → Option Nm) (x : Blk) : Option Blk :=
  match x.k with
  | .dead => some { v := 0, k := .dead, fz := x.fz, sz := x.sz, es := [] }
  | .row => some { v := 0, k := .row, fz := x.fz, sz := x.sz, es := x.es }
  | .box => match mapO (renD m) x.es with
    | some es => some { v := 0, k := .box, fz := x.fz, sz := x.sz, es := es }
    | none => none

def renAt (bs : List (Nat × Blk)) (m : Nat → Nat → Option Nm) (b : Nat) : Option Blk :=
  match look bs b with
  | some x => renBlk m x
  | none => none

def withKeys (base : Nat) : Nat → List Blk → List (Nat × Blk)
  | _, [] => []
  | i, x :: r => (base + i, x) :: withKeys base (i + 1) r

/-- The store under which a call's body begins. -/
def outerSt (out : List Blk) : List (Nat × Blk) := withKeys outBase 0 out

def paramsFr : Nat → List AV → List (Nat × AV)
  | _, [] => []
  | i, a :: r => (i, a) :: paramsFr (i + 1) r

/-- An argument: rows are handed on as values, but where the call writes. -/
def argOf (bs : List (Nat × Blk)) (byref : Bool) (v : AV) : Option AV :=
  if byref then some v else
  match v with
  | .ptr b w i off => some (.ptr b w i off)
  | .fn f fs cs => some (.fn f fs cs)
  | v => pureA bs v

def argRows (byref : Bool) (v : AV) : List Nat := if byref then [] else rowsA v

def AV.noSlcC : AV → Bool
  | .bool _ | .int _ _ | .str _ | .pnil | .fnil | .inil => true
  | .iface _ v => v.simple
  | _ => false
def AV.noSlcA : AV → Bool
  | .agg cs => cs.all AV.noSlcC
  | v => v.noSlcC
def AV.noSlc : AV → Bool
  | .tup vs => vs.all AV.noSlcA
  | v => v.noSlcA

def BK.isRow : BK → Bool
  | .row => true
  | _ => false
def allNoSlc (l : List Blk) : Bool := l.all fun x => !x.k.isRow && x.es.all AV.noSlcA

/-- What comes back, under the caller's names. -/
def backM (bs : List (Nat × Blk)) (ks : List Nat) (r : Ret) (full : Bool) (d : Nat) (b v : Nat) : Option Nm :=
  if b < outBase then none else
  if v ≠ 0 then none else
  if b < newBase then
    match r.out[b - outBase]?, ks[b - outBase]? with
    | some x, some k => if x.k = .dead then none else match look bs k with
      | some y => some (.key k y.v)
      | none => none
    | _, _ => none
  else
    match r.new[b - newBase]? with
    | some x => match x.k with
      | .dead => none
      | .box => if full then some (.key (16 * d + (b - newBase)) (nextV bs (16 * d + (b - newBase)))) else none
      | .row => if full then some (.key (16 * d + (b - newBase)) (nextV bs (16 * d + (b - newBase)))) else some (.row x.es)
    | none => none

def backOut (bs : List (Nat × Blk)) (m : Nat → Nat → Option Nm) : List Nat → List Blk → Option (List (Nat × Blk))
  | [], [] => some []
  | k :: ks, x :: xs =>
    match look bs k with
    | some y => match renBlk m x with
      | some z => match backOut bs m ks xs with
        | some r => some ((k, { z with v := y.v }) :: r)
        | none => none
      | none => none
    | none => none
  | _, _ => none

def backNew (bs : List (Nat × Blk)) (m : Nat → Nat → Option Nm) (d : Nat) : Nat → List Blk → Option (List (Nat × Blk))
  | _, [] => some []
  | j, x :: xs =>
    match renBlk m x with
    | some z => match backNew bs m d (j + 1) xs with
      | some r => some ((16 * d + j, { z with v := nextV bs (16 * d + j) }) :: r)
      | none => none
    | none => none

abbrev CallF := FuncId → List AV → List Blk → Option Ret

def callIn (bs : List (Nat × Blk)) (byref : Bool) (args : List AV) : Option (List AV × List Nat × List Blk) :=
  match mapO (argOf bs byref) args with
  | none => none
  | some args1 =>
    let ks := closeR bs 3 (addNew [] (args1.flatMap refsA))
    match mapO (renA (nameM bs ks outBase)) args1 with
    | none => none
    | some args2 => match mapN (renAt bs (nameM bs ks outBase)) ks with
      | none => none
      | some out => if (args.flatMap (argRows byref)).all (fun b => !ks.contains b) then some (args2, ks, out) else none

def callOut (bs : List (Nat × Blk)) (thaw : Bool) (d : Option Tmp) (ks l : List Nat) (r : Ret) : Option Res :=
  let full := (thaw || r.new.any fun x => decide (x.k = .box)) && d.isSome
  let m := backM bs ks r full (d.getD 0)
  if (r.out.length ≤ 1000 ∧ (r.out.all fun x => decide (x.v = 0)) = true ∧ (r.new.all fun x => decide (x.v = 0)) = true) then
  let fr := if r.res.noSlc && allNoSlc r.out && allNoSlc r.new then [] else freeze bs l
  match renT m r.res with
  | none => none
  | some res => match backOut bs m ks r.out with
    | none => none
    | some o =>
      match (if full then (if r.new.length ≤ 16 then backNew bs m (d.getD 0) 0 r.new else none) else some []) with
      | none => none
      | some n => if r.pan then some (.pan res (n ++ (o ++ fr))) else some (.val res (n ++ (o ++ fr)))
  else none

def aCall (cfg : Cfg) (callF : CallF) (bs : List (Nat × Blk)) (d : Option Tmp) (f : FuncId) (args : List AV) : Option Res :=
  match callIn bs (cfg.byref f) args with
  | none => none
  | some (args2, ks, out) => match callF f args2 out with
    | none => none
    | some r => callOut bs (cfg.thaw f) d ks (args.flatMap (argRows (cfg.byref f))) r

def aBuiltin (P : Program) (bs : List (Nat × Blk)) (d : Option Tmp) (b : Builtin) (ts : List TypeId) (args : List AV) : Option Res :=
  match b with
  | .len => match ts with
    | t :: _ => match args with
      | x :: _ => match aLen P bs t x with
        | some v => some (.val v [])
        | none => none
      | _ => none
    | _ => none
  | .append => match ts with
    | [sT, xT] => match args with
      | [s, x] => aAppend P bs d sT xT s x
      | _ => none
    | _ => none
  | .copy => match ts with
    | [dT, _] => match args with
      | [s, x] => aCopy P bs dT s x
      | _ => none
    | _ => none
  | .clear => match ts with
    | t :: _ => match args with
      | x :: _ => aClear P bs t x
      | _ => none
    | _ => none
  | .min => match args with
    | .int k n :: r => match aMin (.int k n) r with
      | some v => some (.val v [])
      | none => none
    | _ => none
  | .max => match args with
    | .int k n :: r => match aMax (.int k n) r with
      | some v => some (.val v [])
      | none => none
    | _ => none
  | _ => none

def pv (o : Option AV) : Option Res :=
  match o with
  | some v => some (.val v [])
  | none => none

def isConstO : Operand → Bool
  | .const _ => true
  | _ => false

/-- No two nil values of an interface, but for a literal one. -/
def eqFree (P : Program) (t : TypeId) (x y : Operand) : AV → AV → Bool
  | .inil, .inil => isConstO x || isConstO y
  | .agg _, .agg _ => !P.eqGuardType P.depth t
  | .inil, .iface _ _ => true
  | .iface _ _, .inil => true
  | .int _ _, .int _ _ => true
  | .str _, .str _ => true
  | .bool _, .bool _ => true
  | _, _ => false

/-- A slice that is not empty against a literal nil. -/
def aNil (P : Program) (op : BinOp) (t : TypeId) (y : Operand) (a : AV) : Option AV :=
  match y with
  | .const (.slice none 0 0) => match P.underlying t with
    | some (.slice _) => match a with
      | .slc _ (_ :: _) => match op with
        | .eql => some (.bool false)
        | .neq => some (.bool true)
        | _ => none
      | _ => none
    | _ => none
  | _ => none

/-- One operation. -/
def aOp (P : Program) (cfg : Cfg) (callF : CallF) (st : St) (o : Oper) : Option Res :=
  match o.op with
  | .move x => pv (some (st.ev x))
  | .assign x => pv (some (st.ev x))
  | .pick c a b => match st.ev c with
    | .bool t => pv (some (if t then st.ev a else st.ev b))
    | _ => none
  | .alloc t => match zeroOf P t with
    | some z => newBox st.bs o.dst z.cells
    | none => none
  | .box _ x => newBox st.bs o.dst (st.ev x).cells
  | .build t ps => aBuild P t (ps.toList.map fun x => (x.1, st.ev x.2))
  | .buildSlice t len ps => aBuildSlice P st.bs o.dst t len (ps.toList.map fun x => (x.1, st.ev x.2))
  | .load t a => pv (aLoad P st.bs t (st.ev a))
  | .store t a x => match aStore P st.bs t (st.ev a) (st.ev x) with
    | some ds => some (.val .skp ds)
    | none => none
  | .nilCheck x => match st.ev x with
    | .ptr b v i off => match cellsAt st.bs (.ptr b v i off) with
      | some _ => pv (some (.ptr b v i off))
      | none => none
    | .eptr e off => pv (some (.eptr e off))
    | .fn f fs cs => pv (some (.fn f fs cs))
    | _ => none
  | .binOp op t x y _ => if eqFree P t x y (st.ev x) (st.ev y) = true then pv (aBin P op t (st.ev x) (st.ev y)) else pv (aNil P op t y (st.ev x))
  | .unOp op _ x => pv (aUn op (st.ev x))
  | .convert src dst x => aConv P st.bs o.dst src dst (st.ev x)
  | .makeInterface t x => match P.underlying t with
    | some (.interface _) => none
    | some _ => if (st.ev x).simple then pv (some (.iface t (st.ev x))) else none
    | none => none
  | .makeFunc (.func f) first captured => if (first.toList.map st.ev).all AV.okC = true ∧ (captured.toList.map st.ev).all AV.okC = true then pv (some (.fn f (first.toList.map st.ev) (captured.toList.map st.ev))) else none
  | .makeSlice t l c => aMakeSlice P st.bs o.dst t (st.ev l) (st.ev c)
  | .slice t x lo hi mx => pv (aSlice P st.bs t (st.ev x) (lo.map st.ev) (hi.map st.ev) (mx.map st.ev))
  | .fieldAddr s x f => pv (aFieldAddr P st.bs s (st.ev x) f)
  | .field t x f => pv (aField P t (st.ev x) f)
  | .indexAddr t x i => pv (aIndexAddr P st.bs t (st.ev x) (st.ev i))
  | .index t x i => pv (aIndex P t (st.ev x) (st.ev i))
  | .extract t i => match st.ev t with
    | .tup vs => pv vs[i]?
    | _ => none
  | .typeAssert x _ asserted ok => pv (aAssert P (st.ev x) asserted ok)
  | .call { callee := .value f, args, .. } => match st.ev f with
    | .fn g first captured => aCall cfg callF st.bs o.dst g (first ++ args.toList.map st.ev ++ captured)
    | _ => none
  | .call { callee := .builtin b, args, argTypes } => aBuiltin P st.bs o.dst b argTypes.toList (args.toList.map st.ev)
  | .defer { callee := .value f, args, .. } => match st.ev f with
    | .fn g first captured => some (.dfr (.fn g first captured) (args.toList.map st.ev))
    | _ => none
  | .panic x => match st.ev x with
    | .iface t v => if v.simple then some (.pan (.iface t v) []) else none
    | _ => none
  | _ => none

/-- Is it wanted? -/
def aWanted (ops : Array Oper) (st : St) (o : Oper) : Option Bool :=
  match o.guard with
  | none => some true
  | some (j, want) => match ops[j]? with
    | some g => match g.dst with
      | some d => match (look st.fr d).getD .undef with
        | .bool b => some (b == want)
        | .skp => some false
        | _ => none
      | none => some false
    | none => some false

def St.put (st : St) (n : Nat) (d : Option Tmp) (v : AV) (ds : List (Nat × Blk)) : Option St :=
  match d with
  | some t => if t < n then some { st with fr := (t, v) :: st.fr, bs := ds ++ st.bs } else none
  | none => some { st with bs := ds ++ st.bs }

inductive Ex where
  | norm
  | exit (id : Nat)
  | ret
  | pan (v : AV)

def keysOf (ds : List (Nat × Blk)) : List Nat := ds.map (·.1)

/-- It knows no store. -/
def valueOp : Op → Bool
  | .move _ | .assign _ | .pick _ _ _ | .build _ _ | .unOp _ _ _ | .binOp _ _ _ _ _ | .field _ _ _ | .index _ _ _ | .extract _ _ | .makeInterface _ _ | .typeAssert _ _ _ _ | .makeFunc _ _ _ => true
  | _ => false

def ownK (d : Option Tmp) : List Nat :=
  match d with
  | some t => (List.range 16).map (16 * t + ·)
  | none => []

def callReads (bs : List (Nat × Blk)) (byref : Bool) (args : List AV) : List Nat :=
  args.flatMap rowsA ++ match mapO (argOf bs byref) args with
    | some args1 => closeR bs 3 (addNew [] (args1.flatMap refsA))
    | none => []

/-- The keys that an operation reads. -/
def readsK (cfg : Cfg) (st : St) (o : Oper) : List Nat :=
  match o.op with
  | .call { callee := .value f, args, .. } => match st.ev f with
    | .fn g first captured => callReads st.bs (cfg.byref g) (first ++ args.toList.map st.ev ++ captured) ++ ownK o.dst
    | _ => []
  | op => if valueOp op then [] else op.operands.toList.flatMap (fun x => refsT (st.ev x)) ++ ownK o.dst

abbrev Trk := List (Nat × List Nat × List Nat)

/-- The operations of a region, in the text's order. -/
def aOps (P : Program) (cfg : Cfg) (callF : CallF) (n : Nat) (ops : Array Oper) (trk : Bool) : Nat → List Oper → St → Trk → Option (Ex × St × Trk)
  | _, [], st, t => some (.norm, st, t)
  | i, o :: rest, st, t =>
    match aWanted ops st o with
    | none => none
    | some false => match st.put n o.dst .skp [] with
      | some st' => aOps P cfg callF n ops trk (i + 1) rest st' t
      | none => none
    | some true => match aOp P cfg callF st o with
      | none => none
      | some (.val v ds) => match st.put n o.dst v ds with
        | some st' => aOps P cfg callF n ops trk (i + 1) rest st' (if trk then (i, readsK cfg st o, keysOf ds) :: t else t)
        | none => none
      | some (.dfr f args) => match st.put n o.dst .skp [] with
        | some st' => aOps P cfg callF n ops trk (i + 1) rest { st' with df := (f, args) :: st'.df } t
        | none => none
      | some (.pan v ds) => some (.pan v, { st with bs := ds ++ st.bs }, t)

def trkAt (t : Trk) (i : Nat) : List Nat × List Nat := (look t i).getD ([], [])

def apartKeys (a b : List Nat) : Bool := a.all fun x => !b.contains x

def dynOk (t : Trk) (ps : List (Nat × Nat)) : Bool :=
  ps.all fun (i, j) => apartKeys (trkAt t i).2 ((trkAt t j).1 ++ (trkAt t j).2) && apartKeys (trkAt t j).2 ((trkAt t i).1 ++ (trkAt t i).2)

/-- May it write? -/
def effOp : Op → Bool
  | .call { callee := .builtin .len, .. } => false
  | .call { callee := .builtin .min, .. } => false
  | .call { callee := .builtin .max, .. } => false
  | .call _ => true
  | .alloc _ | .box _ _ | .buildSlice _ _ _ | .store _ _ _ | .convert _ _ _ | .makeSlice _ _ _ => true
  | _ => false

def anc1 (acc : List (List Nat)) (l : List Edge) : List Nat :=
  l.foldl (fun cur e => if Region.binds .any e then addNew cur (e.on :: acc.getD e.on []) else cur) []

def ancAll : List (List Nat) → List Oper → List (List Nat)
  | acc, [] => acc
  | acc, o :: r => ancAll (acc ++ [anc1 acc o.after.toList]) r

/-- Up to the one that throws. -/
def aOpsP (P : Program) (cfg : Cfg) (callF : CallF) (n : Nat) (ops : Array Oper) : Nat → List Oper → St → Option (Nat × St)
  | _, [], _ => none
  | i, o :: rest, st =>
    match aWanted ops st o with
    | none => none
    | some false => match st.put n o.dst .skp [] with
      | some st' => aOpsP P cfg callF n ops (i + 1) rest st'
      | none => none
    | some true => match aOp P cfg callF st o with
      | some (.val v ds) => match st.put n o.dst v ds with
        | some st' => aOpsP P cfg callF n ops (i + 1) rest st'
        | none => none
      | some (.pan _ _) => some (i, st)
      | _ => none

/-- All that writes is done before it, nothing that stands behind it. -/
def panOk (dyn : List (Nat × Nat)) (ops : Array Oper) (p : Nat) : Bool :=
  let A := ancAll [] ops.toList
  (dyn.all fun x => decide (p ≤ x.2)) && ((List.range p).all fun j => match ops[j]? with
    | some o => (A.getD p []).contains j || !effOp o.op
    | none => true) && (List.range ops.size).all fun j => decide (j ≤ p) || (A.getD j []).contains p

/-- What is known whatever was done. -/
def knownAt (ops : Array Oper) (p t : Nat) : Bool :=
  (List.range ops.size).all fun j => match ops[j]? with
    | some o => o.dst != some t || ((ancAll [] ops.toList).getD p []).contains j
    | none => true

def aRegP (P : Program) (cfg : Cfg) (callF : CallF) (dyn : List (Nat × Nat)) (n : Nat) (ops : Array Oper) (st : St) : Option (Ex × St) :=
  match aOpsP P cfg callF n ops 0 ops.toList st with
  | some (p, stp) => match ops[p]? with
    | some o =>
      if panOk dyn ops p = true ∧ stp.df.length = st.df.length then
        let stq : St := { stp with fr := stp.fr.filter fun x => knownAt ops p x.1 }
        match aWanted ops stq o with
        | some true => match aOp P cfg callF stq o with
          | some (.pan v ds) => some (.pan v, { stq with bs := ds ++ stq.bs })
          | _ => none
        | _ => none
      else none
    | none => none
  | none => none

def aRegion (P : Program) (cfg : Cfg) (callF : CallF) (f : FuncId) (n : Nat) (id : Nat) (ops : Array Oper) (draw : Bool) (st : St) : Option (Ex × St) :=
  if draw then
    match cfg.dyn f id with
    | [] => match aOps P cfg callF n ops false 0 ops.toList st [] with
      | some (.norm, st', _) => if st'.df.length = st.df.length then some (.norm, st') else none
      | some (.pan _, _, _) => aRegP P cfg callF [] n ops st
      | _ => none
    | p :: ps => match aOps P cfg callF n ops true 0 ops.toList st [] with
      | some (.norm, st', t) => if dynOk t (p :: ps) = true ∧ st'.df.length = st.df.length then some (.norm, st') else none
      | some (.pan _, _, _) => aRegP P cfg callF (p :: ps) n ops st
      | _ => none
  else
    match aOps P cfg callF n ops false 0 ops.toList st [] with
    | some (e, st', _) => some (e, st')
    | none => none

/-- Only these temporaries and blocks. -/
def keepFr (fr : List (Nat × AV)) : List Nat → List (Nat × AV)
  | [] => []
  | i :: r => match look fr i with
    | some v => (i, v) :: keepFr fr r
    | none => keepFr fr r

def keepBs (bs : List (Nat × Blk)) : List Nat → List (Nat × Blk)
  | [] => []
  | b :: r => match look bs b with
    | some x => (b, x) :: keepBs bs r
    | none => keepBs bs r

def ok1 (ks : List Nat) : AV → Bool
  | .sref b _ _ _ => ks.contains b
  | .ptr b _ _ _ => ks.contains b
  | .fn _ [] [] => true
  | .fn _ _ _ => false
  | .agg _ => false
  | .tup _ => false
  | _ => true
def okK (ks : List Nat) : AV → Bool
  | .fn _ fs cs => fs.all (ok1 ks) && cs.all (ok1 ks)
  | v => ok1 ks v
def okA (ks : List Nat) : AV → Bool
  | .agg cs => cs.all (okK ks)
  | v => okK ks v
def okRefs (ks : List Nat) : AV → Bool
  | .tup vs => vs.all (okA ks)
  | v => okA ks v

def restrict0 (k : Option (List Nat × List Nat)) (st : St) : Option St :=
  match k with
  | none => some st
  | some (fs, ks) =>
    let fr := keepFr st.fr fs
    let bs := keepBs st.bs (addNew [] (ks ++ (st.bs.map (·.1)).filter (outBase ≤ ·)))
    let all := bs.map (·.1)
    if (fr.all fun x => okRefs all x.2) && (bs.all fun x => match x.2.k with | .box => x.2.es.all (okRefs all) | _ => true) && (st.df.all fun x => okRefs all x.1 && x.2.all (okRefs all)) then some { st with fr := fr, bs := bs } else none

def mapV {α β : Type} (f : α → Option β) : List (Nat × α) → Option (List (Nat × β))
  | [] => some []
  | (i, a) :: r => match f a with
    | some b => match mapV f r with
      | some l => some ((i, b) :: l)
      | none => none
    | none => none

/-- All versions at their beginning. -/
def vzero (st : St) : Option St :=
  if (st.bs.all fun x => decide (x.1 < outBase) || decide (x.2.v = 0)) = true then
    let m := fun b v => match ldBlk st.bs b v with
      | some _ => some (Nm.key b 0)
      | none => none
    match mapV (renT m) st.fr with
    | none => none
    | some fr => match mapV (renBlk m) st.bs with
      | none => none
      | some bs => match mapO (fun x => match renT m x.1 with
          | some f => match mapO (renT m) x.2 with
            | some l => some (f, l)
            | none => none
          | none => none) st.df with
        | none => none
        | some df => some { fr := fr, bs := bs, df := df }
  else none

def restrict (k : Option (List Nat × List Nat)) (st : St) : Option St :=
  match k with
  | none => some st
  | some p => match restrict0 (some p) st with
    | some s => vzero s
    | none => none

def aLoop (res : St → Option St) (body : St → Option (Ex × St)) : Nat → St → Option (Ex × St)
  | 0, _ => none
  | k + 1, st =>
    match res st with
    | none => none
    | some st => match body st with
      | some (.norm, st') => aLoop res body k st'
      | r => r

/-- Behind a loop: only what is looked at there. -/
def exitX (res : St → Option St) (r : Option (Ex × St)) : Option (Ex × St) :=
  match r with
  | some (.pan v, st) => some (.pan v, st)
  | some (e, st) => match res st with
    | some s => some (e, s)
    | none => none
  | none => none

def rounds : Nat := 1000000

def aCode (P : Program) (cfg : Cfg) (callF : CallF) (f : FuncId) (n : Nat) : Nat → Code → St → Option (Ex × St)
  | _, .skip, st => some (.norm, st)
  | _, .region id ops draw, st => aRegion P cfg callF f n id ops draw st
  | c, .seq a b, st => match aCode P cfg callF f n c a st with
    | some (.norm, st') => aCode P cfg callF f n c b st'
    | r => r
  | c, .cond x a b, st => match st.ev x with
    | .bool t => if t then aCode P cfg callF f n c a st else aCode P cfg callF f n c b st
    | _ => none
  | _, .block id b, st => match aCode P cfg callF f n id b st with
    | some (.exit j, st') => if j = id then some (.norm, st') else some (.exit j, st')
    | r => r
  | c, .loop b, st => exitX (restrict (cfg.keepX f c)) (aLoop (restrict (cfg.keep f c)) (aCode P cfg callF f n c b) rounds st)
  | _, .exit id, st => some (.exit id, st)
  | _, .ret, st => some (.ret, st)
  | _, .label _, st => some (.norm, st)
  | _, _, _ => none

def resultOf (P : Program) (st : St) : ResultVar → Option AV
  | .tmp t => look st.fr t
  | .cell a t => aLoad P st.bs t ((look st.fr a).getD .undef)

def resultsOf (P : Program) (st : St) (rs : List ResultVar) : Option AV :=
  match mapO (resultOf P st) rs with
  | some [v] => some v
  | some vs => some (.tup vs)
  | none => none

/-- What a body leaves: the result and the blocks, under the names that both know. -/
def leave (st : St) (m : Nat) (pan : Bool) (v : AV) : Option Ret :=
  let outs := (List.range m).map (outBase + ·)
  let ks := (closeR st.bs 3 (addNew [] (refsT v ++ outs.flatMap (blkRefs st.bs)))).filter (· < outBase)
  let nm := fun b w => match ldBlk st.bs b w with
    | some _ => if outBase ≤ b then (if b < outBase + m then some (Nm.key b 0) else none) else match idx? ks b 0 with
      | some i => some (.key (newBase + i) 0)
      | none => none
    | none => none
  if (outs.all fun b => match look st.bs b with
    | some x => decide (x.v = 0)
    | none => false) = false ∨ 1000 < m then none else
  match renT nm v with
  | none => none
  | some res => match mapN (renAt st.bs nm) outs with
    | none => none
    | some out => match mapN (renAt st.bs nm) ks with
      | none => none
      | some new => some { pan := pan, res := res, out := out, new := new }

/-- The operations of a call that was put off: 'recover' tells what was thrown. -/
def aOpsD (P : Program) (cfg : Cfg) (callF : CallF) (n : Nat) (ops : Array Oper) : List Oper → St → Option AV → Bool → Option (St × Option AV × Bool)
  | [], st, r, b => some (st, r, b)
  | o :: rest, st, r, b =>
    match aWanted ops st o with
    | none => none
    | some false => match st.put n o.dst .skp [] with
      | some st' => aOpsD P cfg callF n ops rest st' r b
      | none => none
    | some true =>
      match o.op with
      | .call { callee := .builtin .recover, .. } =>
        match r with
        | some v => if v.noSlcC = true then match st.put n o.dst v [] with
            | some st' => aOpsD P cfg callF n ops rest st' none true
            | none => none
          else none
        | none => match st.put n o.dst .inil [] with
          | some st' => aOpsD P cfg callF n ops rest st' none b
          | none => none
      | _ => match aOp P cfg callF st o with
        | some (.val v ds) => match st.put n o.dst v ds with
          | some st' => aOpsD P cfg callF n ops rest st' r b
          | none => none
        | _ => none

/-- Its code: one thing behind another, tests, the end. -/
def aCodeD (P : Program) (cfg : Cfg) (callF : CallF) (f : FuncId) (n : Nat) : Code → St → Option AV → Bool → Option (Bool × St × Option AV × Bool)
  | .skip, st, r, b => some (false, st, r, b)
  | .region _ ops false, st, r, b => match aOpsD P cfg callF n ops ops.toList st r b with
    | some x => some (false, x)
    | none => none
  | .region id ops true, st, r, b => match aRegion P cfg callF f n id ops true st with
    | some (.norm, st') => some (false, st', r, b)
    | _ => none
  | .seq x y, st, r, b => match aCodeD P cfg callF f n x st r b with
    | some (false, st', r', b') => aCodeD P cfg callF f n y st' r' b'
    | e => e
  | .cond c x y, st, r, b => match st.ev c with
    | .bool t => if t then aCodeD P cfg callF f n x st r b else aCodeD P cfg callF f n y st r b
    | _ => none
  | .ret, st, r, b => some (true, st, r, b)
  | _, _, _, _ => none

/-- A call that was put off, beside what was thrown: was it caught? -/
def aFuncD (P : Program) (cfg : Cfg) (callF : CallF) (r : Option AV) (f : FuncId) (args : List AV) (out : List Blk) : Option Ret :=
  if cfg.isF f then
    match P.funcs[f]? with
    | some fn => match fn.body with
      | some c => if args.length ≤ fn.ntmps ∧ fn.results.size = 0 then
          match aCodeD P cfg callF f fn.ntmps c { fr := paramsFr 0 args, bs := outerSt out, df := [] } r false with
          | some (_, st, _, b) => if st.df.isEmpty = true then leave st out.length false (.bool b) else none
          | none => none
        else none
      | none => none
    | none => none
  else none

/-- The calls that were put off, the last first. -/
def unwindA (P : Program) (cfg : Cfg) (callF : CallF) : List (AV × List AV) → Option AV → St → Option (Option AV × St)
  | [], r, st => some (r, st)
  | (.fn g first captured, args) :: ds, r, st =>
    match aCall cfg (aFuncD P cfg callF r) st.bs none g (first ++ args ++ captured) with
    | some (.val (.bool true) d) => unwindA P cfg callF ds none { st with bs := d ++ st.bs }
    | some (.val (.bool false) d) => unwindA P cfg callF ds r { st with bs := d ++ st.bs }
    | _ => none
  | _, _, _ => none

/-- What comes of a body. -/
def finish (P : Program) (cfg : Cfg) (callF : CallF) (fn : Func) (m : Nat) (ds : List (AV × List AV)) (r : Option AV) (st : St) : Option Ret :=
  match unwindA P cfg callF ds r st with
  | some (none, st') => match resultsOf P st' fn.results.toList with
    | some v => leave st' m false v
    | none => none
  | some (some v, st') => leave st' m true v
  | none => none

/-- A function. -/
def aFunc (P : Program) (cfg : Cfg) (callF : CallF) (f : FuncId) (args : List AV) (out : List Blk) : Option Ret :=
  if cfg.isF f then
    match P.funcs[f]? with
    | some fn => match fn.body with
      | some c => if args.length ≤ fn.ntmps then
          match aCode P cfg callF f fn.ntmps 0 c { fr := paramsFr 0 args, bs := outerSt out, df := [] } with
          | some (.pan v, st) => finish P cfg callF fn out.length st.df (some v) st
          | some (.exit _, _) => none
          | some (_, st) => finish P cfg callF fn out.length st.df none st
          | none => none
        else none
      | none => none
    | none => none
  else none

def evF (P : Program) (cfg : Cfg) : Nat → CallF
  | 0 => fun _ _ _ => none
  | k + 1 => fun f args out =>
    match cfg.prim f with
    | some g => g args out
    | none => aFunc P cfg (evF P cfg k) f args out

/-- slices.Clone: a new row. -/
def primClone (args : List AV) (out : List Blk) : Option Ret :=
  match args with
  | [.slc _ []] => some { pan := false, res := .slc true [], out := out, new := [] }
  | [.slc _ (e :: es)] => some { pan := false, res := .sref newBase 0 0 (e :: es).length, out := out, new := [{ v := 0, k := .row, fz := false, sz := e.cells.length, es := e :: es }] }
  | _ => none

/-- strings.Repeat. -/
def primRepeat (args : List AV) (out : List Blk) : Option Ret :=
  match args with
  | [.str s, .int _ n] => if 0 ≤ n ∧ n ≤ 1000 ∧ s.length ≤ 1000 then some { pan := false, res := .str (List.replicate n.toNat s).flatten, out := out, new := [] } else none
  | _ => none

end Go.Ab
/- What the evaluator's values and blocks mean in a world of the model. -/
namespace Go.Ab

inductive PV (w : World) (F : Nat → Prop) : AV → Value → Prop
  | undef (v : Value) : PV w F .undef v
  | skp : PV w F .skp Go.undef
  | bool (b : Bool) : PV w F (.bool b) (.bool b)
  | int (k : IntKind) (n : Int) : PV w F (.int k n) (.int k n)
  | str (s : List UInt8) : PV w F (.str s) (.string ⟨s.toArray⟩)
  | agg (cs : List AV) (vs : List Value) (hl : cs.length = vs.length) (hc : ∀ c ∈ cs, c.okC = true)
      (h : ∀ (i : Nat) a v, cs[i]? = some a → vs[i]? = some v → PV w F a v) : PV w F (.agg cs) (.agg vs.toArray)
  | tup (cs : List AV) (vs : List Value) (hl : cs.length = vs.length)
      (h : ∀ (i : Nat) a v, cs[i]? = some a → vs[i]? = some v → PV w F a v) : PV w F (.tup cs) (.tuple vs.toArray)
  | slc (x : Bool) (es : List AV) (a : Option Addr) (cap sz : Nat) (vals : List Value)
      (hx : x = true → cap = es.length) (hcap : es.length ≤ cap)
      (hsz : ∀ e ∈ es, e.cells.length = sz ∧ ∀ c ∈ e.cells, c.okC = true)
      (ha : es ≠ [] → ∃ b o, a = some ⟨b, o, none⟩ ∧ b < w.heap.size ∧ ¬ F b ∧ ∀ (k : Nat) v, vals[k]? = some v → w.cell? ⟨b, o + k, none⟩ = some v)
      (hl : vals.length = (es.flatMap AV.cells).length)
      (hv : ∀ (k : Nat) c v, (es.flatMap AV.cells)[k]? = some c → vals[k]? = some v → PV w F c v) : PV w F (.slc x es) (.slice a es.length cap)
  | pnil : PV w F .pnil (.pointer none)
  | fnil : PV w F .fnil .nilFunc
  | inil : PV w F .inil .nilIface
  | fn (f : FuncId) : PV w F (.fn f [] []) (.func (.func f) #[] #[])
  | iface (t : TypeId) (a : AV) (v : Value) (hs : a.simple = true) (h : PV w F a v) : PV w F (.iface t a) (.iface t v)

structure Cx where
  w : World
  F : Nat → Prop
  R : Nat → Nat
  S : List (Nat × Blk)

inductive V (c : Cx) : AV → Value → Prop
  | pure {a : AV} {v : Value} (h : PV c.w c.F a v) : V c a v
  | agg (cs : List AV) (vs : List Value) (hl : cs.length = vs.length) (hc : ∀ c ∈ cs, c.okC = true)
      (h : ∀ (i : Nat) a v, cs[i]? = some a → vs[i]? = some v → V c a v) : V c (.agg cs) (.agg vs.toArray)
  | tup (cs : List AV) (vs : List Value) (hl : cs.length = vs.length)
      (h : ∀ (i : Nat) a v, cs[i]? = some a → vs[i]? = some v → V c a v) : V c (.tup cs) (.tuple vs.toArray)
  | sref (b v off len : Nat) (val : Value) (h1 : val.oneCell' = true) (x : Blk) (hb : look c.S b = some x) (hv : v ≤ x.v)
      (h : v = x.v → x.k = .row → ∃ cap cells t fr, val = .slice (some ⟨c.R b, off * x.sz, none⟩) len cap ∧ x.es.length ≤ off + cap ∧ len ≤ cap ∧
        c.w.heap[c.R b]? = some (.cells cells t fr) ∧ (off + cap) * x.sz ≤ cells.size) : V c (.sref b v off len) val
  | ptr (b v i off : Nat) (val : Value) (h1 : val.oneCell' = true) (x : Blk) (hb : look c.S b = some x) (hv : v ≤ x.v)
      (h : v = x.v → (x.k = .box → i = 0 → val = .pointer (some ⟨c.R b, off, none⟩)) ∧ (x.k = .row → val = .pointer (some ⟨c.R b, i * x.sz + off, none⟩))) :
      V c (.ptr b v i off) val
  | eptr (e : AV) (off b o : Nat) (vals : List Value) (hb : b < c.w.heap.size) (hF : ¬ c.F b) (hl : vals.length = e.cells.length) (hc : ∀ a ∈ e.cells, a.okC = true)
      (ha : ∀ (k : Nat) v, vals[k]? = some v → c.w.cell? ⟨b, o + k, none⟩ = some v)
      (hv : ∀ (k : Nat) a v, e.cells[k]? = some a → vals[k]? = some v → PV c.w c.F a v) : V c (.eptr e off) (.pointer (some ⟨b, o + off, none⟩))
  | fn (f : FuncId) (fs cs : List AV) (vfs vcs : List Value) (hl1 : fs.length = vfs.length) (hl2 : cs.length = vcs.length)
      (h1 : ∀ (i : Nat) a v, fs[i]? = some a → vfs[i]? = some v → V c a v)
      (h2 : ∀ (i : Nat) a v, cs[i]? = some a → vcs[i]? = some v → V c a v) : V c (.fn f fs cs) (.func (.func f) vfs.toArray vcs.toArray)

/-- Nothing is lost between two states. -/
structure Le (c c' : Cx) : Prop where
  size : c.w.heap.size ≤ c'.w.heap.size
  hF : ∀ b, b < c.w.heap.size → ¬ c.F b → ¬ c'.F b
  hw : ∀ b, b < c.w.heap.size → ¬ c.F b → c'.w.heap[b]? = c.w.heap[b]?
  hS : ∀ b x, look c.S b = some x → ∃ x', look c'.S b = some x' ∧ x.v ≤ x'.v ∧
    (x'.v = x.v → x'.k ≠ .dead → x.k = x'.k ∧ c'.R b = c.R b ∧ x'.sz = x.sz ∧ (x.k = .row → x'.es.length = x.es.length) ∧ (x.fz = true → x'.fz = true) ∧
      ∀ cells t fr, c.w.heap[c.R b]? = some (.cells cells t fr) → ∃ cells' t' fr', c'.w.heap[c'.R b]? = some (.cells cells' t' fr') ∧ cells'.size = cells.size)

theorem cell_of_heap {w w' : World} {b : Nat} (h : w'.heap[b]? = w.heap[b]?) (o : Nat) : w'.cell? ⟨b, o, none⟩ = w.cell? ⟨b, o, none⟩ := by
  simp [World.cell?, h]

theorem PV.mono {w w' : World} {F F' : Nat → Prop} (hs : w.heap.size ≤ w'.heap.size) (hF : ∀ b, b < w.heap.size → ¬ F b → ¬ F' b)
    (hw : ∀ b, b < w.heap.size → ¬ F b → w'.heap[b]? = w.heap[b]?) {a : AV} {v : Value} (h : PV w F a v) : PV w' F' a v := by
  induction h with
  | undef v => exact .undef v
  | skp => exact .skp
  | bool b => exact .bool b
  | int k n => exact .int k n
  | str s => exact .str s
  | agg cs vs hl hc h ih => exact .agg cs vs hl hc ih
  | tup cs vs hl h ih => exact .tup cs vs hl ih
  | slc x es a cap sz vals hx hcap hsz ha hl hv ih =>
    refine .slc x es a cap sz vals hx hcap hsz (fun hne => ?_) hl ih
    obtain ⟨b, o, h1, h2, h3, h4⟩ := ha hne
    exact ⟨b, o, h1, by omega, hF b h2 h3, fun k v hk => by rw [cell_of_heap (hw b h2 h3)]; exact h4 k v hk⟩
  | pnil => exact .pnil
  | fnil => exact .fnil
  | inil => exact .inil
  | fn f => exact .fn f
  | iface t a v hs' h ih => exact .iface t a v hs' ih

theorem V.mono {c c' : Cx} (L : Le c c') {a : AV} {v : Value} (h : V c a v) : V c' a v := by
  induction h with
  | pure h => exact .pure (h.mono L.size L.hF L.hw)
  | agg cs vs hl hc h ih => exact .agg cs vs hl hc ih
  | tup cs vs hl h ih => exact .tup cs vs hl ih
  | sref b v off len val hone x hb hv h =>
    obtain ⟨x', h1, h2, h3⟩ := L.hS b x hb
    refine .sref b v off len val hone x' h1 (by omega) (fun e k => ?_)
    have hxv : x'.v = x.v := by omega
    obtain ⟨k1, k2, k3, k4, _, k5⟩ := h3 hxv (by rw [k]; decide)
    rw [k] at k1
    obtain ⟨cap, cells, t, fr, e1, e2, e3, e4, e5⟩ := h (by omega) k1
    obtain ⟨cells', t', fr', e6, e7⟩ := k5 cells t fr e4
    exact ⟨cap, cells', t', fr', by rw [k2, k3]; exact e1, by rw [k4 k1]; exact e2, e3, e6, by rw [k3, e7]; exact e5⟩
  | ptr b v i off val hone x hb hv h =>
    obtain ⟨x', h1, h2, h3⟩ := L.hS b x hb
    refine .ptr b v i off val hone x' h1 (by omega) (fun e => ⟨fun k hi => ?_, fun k => ?_⟩)
    · have hxv : x'.v = x.v := by omega
      obtain ⟨k1, k2, k3, k4, _, k5⟩ := h3 hxv (by rw [k]; decide)
      rw [k] at k1
      rw [k2]
      exact (h (by omega)).1 k1 hi
    · have hxv : x'.v = x.v := by omega
      obtain ⟨k1, k2, k3, k4, _, k5⟩ := h3 hxv (by rw [k]; decide)
      rw [k] at k1
      rw [k2, k3]
      exact (h (by omega)).2 k1
  | eptr e off b o vals hb hF hl hc ha hv =>
    exact .eptr e off b o vals (by have := L.size; omega) (L.hF b hb hF) hl hc (fun k v hk => by rw [cell_of_heap (L.hw b hb hF)]; exact ha k v hk)
      (fun k a v h1 h2 => (hv k a v h1 h2).mono L.size L.hF L.hw)
  | fn f fs cs vfs vcs hl1 hl2 h1 h2 ih1 ih2 => exact .fn f fs cs vfs vcs hl1 hl2 ih1 ih2

theorem Le.refl (c : Cx) : Le c c :=
  ⟨Nat.le_refl _, fun _ _ h => h, fun _ _ _ => rfl, fun _ x h => ⟨x, h, Nat.le_refl _, fun _ _ => ⟨rfl, rfl, rfl, fun _ => rfl, id, fun cells t fr h => ⟨cells, t, fr, h, rfl⟩⟩⟩⟩

theorem Le.trans {a b c : Cx} (h : Le a b) (h' : Le b c) : Le a c where
  size := Nat.le_trans h.size h'.size
  hF := fun i hi hf => h'.hF i (Nat.lt_of_lt_of_le hi h.size) (h.hF i hi hf)
  hw := fun i hi hf => by rw [h'.hw i (Nat.lt_of_lt_of_le hi h.size) (h.hF i hi hf), h.hw i hi hf]
  hS := fun i x hx => by
    obtain ⟨x1, a1, a2, a3⟩ := h.hS i x hx
    obtain ⟨x2, b1, b2, b3⟩ := h'.hS i x1 a1
    refine ⟨x2, b1, by omega, fun e k => ?_⟩
    obtain ⟨k1, k2, k3, k4, k6, k5⟩ := b3 (by omega) k
    obtain ⟨j1, j2, j3, j4, j6, j5⟩ := a3 (by omega) (by rw [k1]; exact k)
    refine ⟨j1.trans k1, k2.trans j2, k3.trans j3, fun hr => by rw [k4 (by rw [← j1]; exact hr), j4 hr], fun hh => k6 (j6 hh), fun cells t fr hc => ?_⟩
    obtain ⟨c1, t1, f1, m1, m2⟩ := j5 cells t fr hc
    obtain ⟨c2, t2, f2, n1, n2⟩ := k5 c1 t1 f1 m1
    exact ⟨c2, t2, f2, n1, n2.trans m2⟩

/-- Cells that mean these. -/
def Content (c : Cx) (es : List AV) (cells : Array Value) : Prop := ∀ (k : Nat) a, es[k]? = some a → a.okC = true ∧ ∃ v, cells[k]? = some v ∧ V c a v
def PContent (c : Cx) (es : List AV) (cells : Array Value) : Prop := ∀ (k : Nat) a, es[k]? = some a → ∃ v, cells[k]? = some v ∧ PV c.w c.F a v

structure BR (c : Cx) (b : Nat) (x : Blk) : Prop where
  here : ∃ cells t lo hi, c.w.heap[c.R b]? = some (.cells cells t (lo, hi)) ∧ (lo = hi ∨ (cells.size ≤ lo ∧ x.sz = 1)) ∧
    (x.k = .box → Content c x.es cells) ∧
    (x.k = .row → (∀ e ∈ x.es, e.cells.length = x.sz ∧ ∀ a ∈ e.cells, a.okC = true) ∧ PContent c (x.es.flatMap AV.cells) cells)

structure WR (w0 : World) (G X Lo : Nat → Prop) (c : Cx) : Prop where
  size : w0.heap.size ≤ c.w.heap.size
  kept : ∀ i, i < w0.heap.size → ¬ G i → c.w.heap[i]? = w0.heap[i]?
  os : c.w.os = w0.os
  out : c.w.output = w0.output
  xs : ∀ i, X i → i < w0.heap.size
  own : ∀ b x, look c.S b = some x → x.k ≠ .dead → (x.fz = false → w0.heap.size ≤ c.R b ∨ G (c.R b)) ∧ ¬ X (c.R b)
  low : ∀ b x, look c.S b = some x → x.k ≠ .dead → w0.heap.size ≤ c.R b ∨ Lo (c.R b)
  inj : ∀ b b' x x', look c.S b = some x → x.k ≠ .dead → look c.S b' = some x' → x'.k ≠ .dead → c.R b = c.R b' → b = b'
  blk : ∀ b x, look c.S b = some x → x.k ≠ .dead → BR c b x
  hF : ∀ i, c.F i ↔ (X i ∨ ∃ b x, look c.S b = some x ∧ x.k ≠ .dead ∧ x.fz = false ∧ c.R b = i)

def fOf (X : Nat → Prop) (R : Nat → Nat) (S : List (Nat × Blk)) (i : Nat) : Prop := X i ∨ ∃ b x, look S b = some x ∧ x.k ≠ .dead ∧ x.fz = false ∧ R b = i

theorem BR.lt {c : Cx} {b : Nat} {x : Blk} (h : BR c b x) : c.R b < c.w.heap.size := by
  obtain ⟨cells, t, lo, hi, h1, _⟩ := h.here
  exact (Array.getElem?_eq_some_iff.1 h1).1

theorem Content.mono {c c' : Cx} (L : Le c c') {es : List AV} {cells : Array Value} (h : Content c es cells) : Content c' es cells :=
  fun k a hk => let ⟨h1, v, h2, h3⟩ := h k a hk; ⟨h1, v, h2, h3.mono L⟩
theorem PContent.mono {c c' : Cx} (L : Le c c') {es : List AV} {cells : Array Value} (h : PContent c es cells) : PContent c' es cells :=
  fun k a hk => let ⟨v, h2, h3⟩ := h k a hk; ⟨v, h2, h3.mono L.size L.hF L.hw⟩

theorem look_cons {α : Type} (j : Nat) (a : α) (r : List (Nat × α)) (i : Nat) : look ((j, a) :: r) i = if j = i then some a else look r i := rfl

def updR (R : Nat → Nat) (b n : Nat) : Nat → Nat := fun i => if i = b then n else R i

/-- A new block. -/
theorem WR.push {w0 : World} {G X Lo : Nat → Prop} {c : Cx} (h : WR w0 G X Lo c) (w1 : World) (hw1 : w1.heap = c.w.heap) (hos : w1.os = c.w.os) (hou : w1.output = c.w.output)
    (b : Nat) (x : Blk) (hxv : x.v = nextV c.S b) (hk : x.k ≠ .dead) (hfz : x.fz = false)
    (cells : Array Value) (t : TypeId) (lo hi : Nat) (hfr : lo = hi ∨ (cells.size ≤ lo ∧ x.sz = 1))
    (hbox : x.k = .box → Content c x.es cells)
    (hrow : x.k = .row → (∀ e ∈ x.es, e.cells.length = x.sz ∧ ∀ a ∈ e.cells, a.okC = true) ∧ PContent c (x.es.flatMap AV.cells) cells) :
    let c' : Cx := { w := { w1 with heap := w1.heap.push (.cells cells t (lo, hi)) }, F := fOf X (updR c.R b c.w.heap.size) ((b, x) :: c.S), R := updR c.R b c.w.heap.size, S := (b, x) :: c.S }
    WR w0 G X Lo c' ∧ Le c c' := by
  intro c'
  have hold : ∀ i, i < c.w.heap.size → c'.w.heap[i]? = c.w.heap[i]? := by
    intro i hi
    show (w1.heap.push _)[i]? = _
    rw [hw1, Array.getElem?_push_lt hi, Array.getElem?_eq_getElem hi]
  have hnew : c'.w.heap[c.w.heap.size]? = some (.cells cells t (lo, hi)) := by
    show (w1.heap.push _)[c.w.heap.size]? = _
    rw [hw1, Array.getElem?_push_size]
  have hR : ∀ i, i ≠ b → c'.R i = c.R i := fun i hi => by show updR _ _ _ i = _; simp [updR, hi]
  have hRb : c'.R b = c.w.heap.size := by show updR _ _ _ b = _; simp [updR]
  have hlook : ∀ i y, look c'.S i = some y → (i = b ∧ y = x) ∨ (i ≠ b ∧ look c.S i = some y) := by
    intro i y hy
    have : look ((b, x) :: c.S) i = some y := hy
    rw [look_cons] at this
    by_cases e : b = i
    · rw [if_pos e] at this; exact .inl ⟨e.symm, (Option.some.inj this).symm⟩
    · rw [if_neg e] at this; exact .inr ⟨fun h => e h.symm, this⟩
  have L : Le c c' := by
    refine ⟨?_, ?_, ?_, ?_⟩
    · show _ ≤ (w1.heap.push _).size
      rw [hw1, Array.size_push]; omega
    · intro i hi hf hf'
      rcases hf' with hx | ⟨b', x', h1, h2, h3, h4⟩
      · exact hf ((h.hF i).2 (.inl hx))
      · rcases hlook b' x' h1 with ⟨rfl, rfl⟩ | ⟨hne, h1'⟩
        · have : c.w.heap.size = i := by rw [← hRb]; exact h4
          omega
        · exact hf ((h.hF i).2 (.inr ⟨b', x', h1', h2, h3, by rw [← hR b' hne]; exact h4⟩))
    · intro i hi _; exact hold i hi
    · intro i y hy
      by_cases e : i = b
      · subst e
        refine ⟨x, by show look ((i, x) :: c.S) i = some x; simp [look_cons], ?_, fun e' _ => ?_⟩
        · rw [hxv]; simp only [nextV, hy]; omega
        · rw [hxv] at e'; simp only [nextV, hy] at e'; omega
      · refine ⟨y, by show look ((b, x) :: c.S) i = some y; rw [look_cons, if_neg (fun h => e h.symm)]; exact hy, Nat.le_refl _, fun _ hd => ?_⟩
        refine ⟨rfl, hR i e, rfl, fun _ => rfl, id, fun cl t' fr hc => ⟨cl, t', fr, ?_, rfl⟩⟩
        rw [hR i e, hold _ (Array.getElem?_eq_some_iff.1 hc).1]; exact hc
  refine ⟨?_, L⟩
  have hlive : ∀ i y, look c.S i = some y → y.k ≠ .dead → c.R i < c.w.heap.size := fun i y h1 h2 => (h.blk i y h1 h2).lt
  refine ⟨?_, ?_, ?_, ?_, h.xs, ?_, ?_, ?_, ?_, fun i => Iff.rfl⟩
  · exact Nat.le_trans h.size L.size
  · intro i hi hg
    rw [hold i (Nat.lt_of_lt_of_le hi h.size)]; exact h.kept i hi hg
  · show w1.os = _; rw [hos]; exact h.os
  · show w1.output = _; rw [hou]; exact h.out
  · intro b' x' h1 h2
    rcases hlook b' x' h1 with ⟨rfl, rfl⟩ | ⟨hne, h1'⟩
    · rw [hRb]
      refine ⟨fun _ => .inl h.size, fun hx => ?_⟩
      have := h.xs _ hx
      have := h.size
      omega
    · rw [hR b' hne]; exact h.own b' x' h1' h2
  · intro b' x' h1 h2
    rcases hlook b' x' h1 with ⟨rfl, rfl⟩ | ⟨hne, h1'⟩
    · rw [hRb]; exact .inl h.size
    · rw [hR b' hne]; exact h.low b' x' h1' h2
  · intro b1 b2 x1 x2 h1 k1 h2 k2 e
    rcases hlook b1 x1 h1 with ⟨e1, _⟩ | ⟨n1, h1'⟩
    · rcases hlook b2 x2 h2 with ⟨e2, _⟩ | ⟨n2, h2'⟩
      · rw [e1, e2]
      · rw [e1, hRb, hR b2 n2] at e
        have := hlive b2 x2 h2' k2
        omega
    · rcases hlook b2 x2 h2 with ⟨e2, _⟩ | ⟨n2, h2'⟩
      · rw [e2, hRb, hR b1 n1] at e
        have := hlive b1 x1 h1' k1
        omega
      · rw [hR b1 n1, hR b2 n2] at e
        exact h.inj b1 b2 x1 x2 h1' k1 h2' k2 e
  · intro b' x' h1 h2
    rcases hlook b' x' h1 with ⟨rfl, rfl⟩ | ⟨hne, h1'⟩
    · refine ⟨cells, t, lo, hi, by rw [hRb]; exact hnew, hfr, fun k => (hbox k).mono L, fun k => ⟨(hrow k).1, (hrow k).2.mono L⟩⟩
    · obtain ⟨cl, t', lo', hi', g1, g2, g3, g4⟩ := (h.blk b' x' h1' h2).here
      refine ⟨cl, t', lo', hi', ?_, g2, fun k => (g3 k).mono L, fun k => ⟨(g4 k).1, (g4 k).2.mono L⟩⟩
      rw [hR b' hne, hold _ (Array.getElem?_eq_some_iff.1 g1).1]; exact g1

theorem look_set {S : List (Nat × Blk)} {b : Nat} {x' : Blk} {i : Nat} {y : Blk} (h : look ((b, x') :: S) i = some y) : (i = b ∧ y = x') ∨ (i ≠ b ∧ look S i = some y) := by
  rw [look_cons] at h
  by_cases e : b = i
  · rw [if_pos e] at h; exact .inl ⟨e.symm, (Option.some.inj h).symm⟩
  · rw [if_neg e] at h; exact .inr ⟨fun h => e h.symm, h⟩

/-- A block's cells are written. -/
theorem WR.setW {w0 : World} {G X Lo : Nat → Prop} {c : Cx} (h : WR w0 G X Lo c) (b : Nat) (x x' : Blk) (hx : look c.S b = some x) (hk : x.k ≠ .dead) (hz : x.fz = false)
    (hv : x'.v = x.v) (hsz : x'.sz = x.sz) (hkk : x'.k = x.k) (hfz : x'.fz = false) (hlen : x.k = .row → x'.es.length = x.es.length)
    (cells cells' : Array Value) (t t' : TypeId) (fr : Nat × Nat) (lo hi : Nat) (hc : c.w.heap[c.R b]? = some (.cells cells t fr)) (hs : cells'.size = cells.size)
    (hfr : lo = hi ∨ (cells'.size ≤ lo ∧ x'.sz = 1))
    (w1 : World) (hw1 : w1.heap = c.w.heap.setIfInBounds (c.R b) (.cells cells' t' (lo, hi))) (hos : w1.os = c.w.os) (hou : w1.output = c.w.output)
    (hbox : x.k = .box → Content c x'.es cells')
    (hrow : x.k = .row → (∀ e ∈ x'.es, e.cells.length = x.sz ∧ ∀ a ∈ e.cells, a.okC = true) ∧ PContent c (x'.es.flatMap AV.cells) cells') :
    let c' : Cx := { w := w1, F := fOf X c.R ((b, x') :: c.S), R := c.R, S := (b, x') :: c.S }
    WR w0 G X Lo c' ∧ Le c c' := by
  intro c'
  have hRlt : c.R b < c.w.heap.size := (Array.getElem?_eq_some_iff.1 hc).1
  have hbF : c.F (c.R b) := (h.hF _).2 (.inr ⟨b, x, hx, hk, hz, rfl⟩)
  have hold : ∀ i, i ≠ c.R b → c'.w.heap[i]? = c.w.heap[i]? := by
    intro i hi
    show w1.heap[i]? = _
    rw [hw1, Array.getElem?_setIfInBounds_ne (fun e => hi e.symm)]
  have hnew : c'.w.heap[c.R b]? = some (.cells cells' t' (lo, hi)) := by
    show w1.heap[_]? = _
    rw [hw1, Array.getElem?_setIfInBounds_self_of_lt hRlt]
  have hb' : look ((b, x') :: c.S) b = some x' := by simp [look_cons]
  have L : Le c c' := by
    refine ⟨?_, ?_, ?_, ?_⟩
    · show _ ≤ w1.heap.size
      rw [hw1, Array.size_setIfInBounds]; exact Nat.le_refl _
    · intro i _ hf hf'
      rcases hf' with hx' | ⟨b', y, h1, h2, h3, h4⟩
      · exact hf ((h.hF i).2 (.inl hx'))
      · rcases look_set h1 with ⟨rfl, rfl⟩ | ⟨_, h1'⟩
        · exact hf (h4 ▸ hbF)
        · exact hf ((h.hF i).2 (.inr ⟨b', y, h1', h2, h3, h4⟩))
    · intro i _ hf
      exact hold i (fun e => hf (e ▸ hbF))
    · intro i y hy
      by_cases e : i = b
      · subst e
        have : y = x := Option.some.inj (hy.symm.trans hx)
        subst this
        refine ⟨x', hb', by omega, fun _ _ => ⟨hkk.symm, rfl, hsz, hlen, fun hh => (by rw [hz] at hh; cases hh), fun cl t1 f1 hc1 => ⟨cells', t', (lo, hi), hnew, ?_⟩⟩⟩
        rw [hc] at hc1
        injection hc1 with hc1
        injection hc1 with hc1
        rw [hs, hc1]
      · refine ⟨y, by show look ((b, x') :: c.S) i = some y; rw [look_cons, if_neg (fun h => e h.symm)]; exact hy, Nat.le_refl _, fun _ hd => ?_⟩
        have hne : c.R i ≠ c.R b := fun e' => e (h.inj i b y x hy hd hx hk e')
        exact ⟨rfl, rfl, rfl, fun _ => rfl, id, fun cl t1 f1 hc1 => ⟨cl, t1, f1, by rw [hold _ hne]; exact hc1, rfl⟩⟩
  refine ⟨?_, L⟩
  refine ⟨Nat.le_trans h.size L.size, ?_, by show w1.os = _; rw [hos]; exact h.os, by show w1.output = _; rw [hou]; exact h.out, h.xs, ?_, ?_, ?_, ?_, fun i => Iff.rfl⟩
  · intro i hi hg
    have hne : i ≠ c.R b := by
      rintro rfl
      rcases (h.own b x hx hk).1 hz with h1 | h1
      · omega
      · exact hg h1
    rw [hold i hne]; exact h.kept i hi hg
  · intro b' y h1 h2
    rcases look_set h1 with ⟨rfl, rfl⟩ | ⟨_, h1'⟩
    · exact ⟨fun _ => (h.own b' x hx hk).1 hz, (h.own b' x hx hk).2⟩
    · exact h.own b' y h1' h2
  · intro b' y h1 h2
    rcases look_set h1 with ⟨rfl, rfl⟩ | ⟨_, h1'⟩
    · exact h.low b' x hx hk
    · exact h.low b' y h1' h2
  · intro b1 b2 x1 x2 h1 k1 h2 k2 e
    have g : ∀ i y, look c'.S i = some y → y.k ≠ .dead → ∃ z, look c.S i = some z ∧ z.k ≠ .dead := by
      intro i y hy hd
      rcases look_set hy with ⟨rfl, rfl⟩ | ⟨_, hy'⟩
      · exact ⟨x, hx, hk⟩
      · exact ⟨y, hy', hd⟩
    obtain ⟨z1, a1, a2⟩ := g b1 x1 h1 k1
    obtain ⟨z2, a3, a4⟩ := g b2 x2 h2 k2
    exact h.inj b1 b2 z1 z2 a1 a2 a3 a4 e
  · intro b' y h1 h2
    rcases look_set h1 with ⟨rfl, rfl⟩ | ⟨hne, h1'⟩
    · exact ⟨cells', t', lo, hi, hnew, hfr, fun k => (hbox (hkk ▸ k)).mono L, fun k => by
        have := hrow (hkk ▸ k)
        exact ⟨by rw [hsz]; exact this.1, this.2.mono L⟩⟩
    · have hne' : c.R b' ≠ c.R b := fun e' => hne (h.inj b' b y x h1' h2 hx hk e')
      obtain ⟨cl, t1, lo1, hi1, g1, g2, g3, g4⟩ := (h.blk b' y h1' h2).here
      exact ⟨cl, t1, lo1, hi1, by rw [hold _ hne']; exact g1, g2, fun k => (g3 k).mono L, fun k => ⟨(g4 k).1, (g4 k).2.mono L⟩⟩

/-- A block is written no more, or is no more. -/
theorem WR.setA {w0 : World} {G X Lo : Nat → Prop} {c : Cx} (h : WR w0 G X Lo c) (b : Nat) (x x' : Blk) (hx : look c.S b = some x)
    (hv : x'.v = x.v) (hsz : x'.sz = x.sz) (hes : x'.es = x.es) (hkk : x'.k = x.k ∨ x'.k = .dead) (hfz : x'.fz = x.fz ∨ x'.fz = true) :
    let c' : Cx := { w := c.w, F := fOf X c.R ((b, x') :: c.S), R := c.R, S := (b, x') :: c.S }
    WR w0 G X Lo c' ∧ Le c c' := by
  intro c'
  have hb' : look ((b, x') :: c.S) b = some x' := by simp [look_cons]
  have g : ∀ i y, look c'.S i = some y → y.k ≠ .dead → ∃ z, look c.S i = some z ∧ z.k = y.k ∧ (y.fz = false → z.fz = false) ∧ z.es = y.es ∧ z.sz = y.sz := by
    intro i y hy hd
    rcases look_set hy with ⟨rfl, rfl⟩ | ⟨_, hy'⟩
    · rcases hkk with e | e
      · refine ⟨x, hx, e.symm, fun hf => ?_, hes.symm, hsz.symm⟩
        rcases hfz with e2 | e2
        · rw [← e2]; exact hf
        · rw [hf] at e2; cases e2
      · exact absurd e hd
    · exact ⟨y, hy', rfl, fun hf => hf, rfl, rfl⟩
  have hsub : ∀ i, c'.F i → c.F i := by
    intro i hf
    rcases hf with hx' | ⟨b', y, h1, h2, h3, h4⟩
    · exact (h.hF i).2 (.inl hx')
    · obtain ⟨z, a1, a2, a3, _⟩ := g b' y h1 h2
      exact (h.hF i).2 (.inr ⟨b', z, a1, by rw [a2]; exact h2, a3 h3, h4⟩)
  have L : Le c c' := by
    refine ⟨Nat.le_refl _, fun i _ hf hf' => hf (hsub i hf'), fun _ _ _ => rfl, fun i y hy => ?_⟩
    by_cases e : i = b
    · subst e
      have : y = x := Option.some.inj (hy.symm.trans hx)
      subst this
      refine ⟨x', hb', by omega, fun _ hd => ⟨?_, rfl, hsz, fun _ => by rw [hes], ?_, fun cl t1 f1 hc1 => ⟨cl, t1, f1, hc1, rfl⟩⟩⟩
      · rcases hkk with e | e
        · exact e.symm
        · exact absurd e hd
      · intro hh
        rcases hfz with e | e
        · rw [e]; exact hh
        · exact e
    · exact ⟨y, by show look ((b, x') :: c.S) i = some y; rw [look_cons, if_neg (fun h => e h.symm)]; exact hy, Nat.le_refl _, fun _ _ => ⟨rfl, rfl, rfl, fun _ => rfl, id, fun cl t1 f1 hc1 => ⟨cl, t1, f1, hc1, rfl⟩⟩⟩
  refine ⟨⟨h.size, h.kept, h.os, h.out, h.xs, ?_, ?_, ?_, ?_, fun i => Iff.rfl⟩, L⟩
  · intro b' y h1 h2
    obtain ⟨z, a1, a2, a3, _⟩ := g b' y h1 h2
    obtain ⟨o1, o2⟩ := h.own b' z a1 (by rw [a2]; exact h2)
    exact ⟨fun hf => o1 (a3 hf), o2⟩
  · intro b' y h1 h2
    obtain ⟨z, a1, a2, _⟩ := g b' y h1 h2
    exact h.low b' z a1 (by rw [a2]; exact h2)
  · intro b1 b2 x1 x2 h1 k1 h2 k2 e
    obtain ⟨z1, a1, a2, _⟩ := g b1 x1 h1 k1
    obtain ⟨z2, a3, a4, _⟩ := g b2 x2 h2 k2
    exact h.inj b1 b2 z1 z2 a1 (by rw [a2]; exact k1) a3 (by rw [a4]; exact k2) e
  · intro b' y h1 h2
    obtain ⟨z, a1, a2, _, a4, a5⟩ := g b' y h1 h2
    obtain ⟨cl, t1, lo1, hi1, g1, g2, g3, g4⟩ := (h.blk b' z a1 (by rw [a2]; exact h2)).here
    rw [a2, a4] at g3 g4
    rw [a5] at g4 g2
    exact ⟨cl, t1, lo1, hi1, g1, g2, fun k => (g3 k).mono L, fun k => ⟨(g4 k).1, (g4 k).2.mono L⟩⟩

/-- A world that is the same but for what was drawn. -/
theorem WR.same {w0 : World} {G X Lo : Nat → Prop} {c : Cx} (h : WR w0 G X Lo c) (w1 : World) (hw1 : w1.heap = c.w.heap) (hos : w1.os = c.w.os) (hou : w1.output = c.w.output) :
    WR w0 G X Lo { c with w := w1 } ∧ Le c { c with w := w1 } := by
  have L : Le c { c with w := w1 } := by
    refine ⟨by show _ ≤ w1.heap.size; rw [hw1]; exact Nat.le_refl _, fun i _ hf => hf, fun i _ _ => by show w1.heap[i]? = _; rw [hw1], fun i y hy => ⟨y, hy, Nat.le_refl _, fun _ _ => ⟨rfl, rfl, rfl, fun _ => rfl, id, fun cl t1 f1 hc1 => ⟨cl, t1, f1, ?_, rfl⟩⟩⟩⟩
    show w1.heap[c.R i]? = _
    rw [hw1]; exact hc1
  refine ⟨⟨Nat.le_trans h.size L.size, fun i hi hg => ?_, by show w1.os = _; rw [hos]; exact h.os, by show w1.output = _; rw [hou]; exact h.out, h.xs, h.own, h.low, h.inj, ?_, h.hF⟩, L⟩
  · show w1.heap[i]? = _
    rw [hw1]; exact h.kept i hi hg
  · intro b' y h1 h2
    obtain ⟨cl, t1, lo1, hi1, g1, g2, g3, g4⟩ := (h.blk b' y h1 h2).here
    refine ⟨cl, t1, lo1, hi1, ?_, g2, fun k => (g3 k).mono L, fun k => ⟨(g4 k).1, (g4 k).2.mono L⟩⟩
    show w1.heap[c.R b']? = _
    rw [hw1]; exact g1

def deadIf (k b : Nat) (x : Blk) (S : List (Nat × Blk)) : List (Nat × Blk) := if k = b then S else (b, { x with k := .dead }) :: S

theorem look_deadIf {k b : Nat} {x : Blk} {S : List (Nat × Blk)} {i : Nat} (hik : i ≠ k) {y : Blk} (h : look (deadIf k b x S) i = some y) (hd : y.k ≠ .dead) : i ≠ b ∧ look S i = some y := by
  unfold deadIf at h
  split at h
  · rename_i e; subst e; exact ⟨hik, h⟩
  · rcases look_set h with ⟨_, rfl⟩ | ⟨h1, h2⟩
    · exact absurd rfl hd
    · exact ⟨h1, h2⟩

/-- A row grows where it lies: under a new name. -/
theorem WR.regrow {w0 : World} {G X Lo : Nat → Prop} {c : Cx} (h : WR w0 G X Lo c) (b : Nat) (x x' : Blk) (hx : look c.S b = some x) (hk : x.k ≠ .dead) (hz : x.fz = false)
    (k : Nat) (hv : x'.v = nextV c.S k) (hk' : x'.k = .row) (hfz : x'.fz = false)
    (cells cells' : Array Value) (t t' : TypeId) (fr : Nat × Nat) (lo hi : Nat) (hc : c.w.heap[c.R b]? = some (.cells cells t fr))
    (hfr : lo = hi ∨ (cells'.size ≤ lo ∧ x'.sz = 1))
    (w1 : World) (hw1 : w1.heap = c.w.heap.setIfInBounds (c.R b) (.cells cells' t' (lo, hi))) (hos : w1.os = c.w.os) (hou : w1.output = c.w.output)
    (hrow : (∀ e ∈ x'.es, e.cells.length = x'.sz ∧ ∀ a ∈ e.cells, a.okC = true) ∧ PContent c (x'.es.flatMap AV.cells) cells') :
    let c' : Cx := { w := w1, F := fOf X (updR c.R k (c.R b)) ((k, x') :: deadIf k b x c.S), R := updR c.R k (c.R b), S := (k, x') :: deadIf k b x c.S }
    WR w0 G X Lo c' ∧ Le c c' := by
  intro c'
  have hRlt : c.R b < c.w.heap.size := (Array.getElem?_eq_some_iff.1 hc).1
  have hbF : c.F (c.R b) := (h.hF _).2 (.inr ⟨b, x, hx, hk, hz, rfl⟩)
  have hold : ∀ i, i ≠ c.R b → c'.w.heap[i]? = c.w.heap[i]? := by
    intro i hi
    show w1.heap[i]? = _
    rw [hw1, Array.getElem?_setIfInBounds_ne (fun e => hi e.symm)]
  have hnew : c'.w.heap[c.R b]? = some (.cells cells' t' (lo, hi)) := by
    show w1.heap[_]? = _
    rw [hw1, Array.getElem?_setIfInBounds_self_of_lt hRlt]
  have hRk : c'.R k = c.R b := by show updR _ _ _ k = _; simp [updR]
  have hRn : ∀ i, i ≠ k → c'.R i = c.R i := fun i hi => by show updR _ _ _ i = _; simp [updR, hi]
  have hlook : ∀ i y, look c'.S i = some y → y.k ≠ .dead → (i = k ∧ y = x') ∨ (i ≠ k ∧ i ≠ b ∧ look c.S i = some y) := by
    intro i y hy hd
    rcases look_set hy with ⟨rfl, rfl⟩ | ⟨hne, hy'⟩
    · exact .inl ⟨rfl, rfl⟩
    · obtain ⟨h1, h2⟩ := look_deadIf hne hy' hd
      exact .inr ⟨hne, h1, h2⟩
  have L : Le c c' := by
    refine ⟨?_, ?_, ?_, ?_⟩
    · show _ ≤ w1.heap.size
      rw [hw1, Array.size_setIfInBounds]; exact Nat.le_refl _
    · intro i _ hf hf'
      rcases hf' with hx' | ⟨b', y, h1, h2, h3, h4⟩
      · exact hf ((h.hF i).2 (.inl hx'))
      · rcases hlook b' y h1 h2 with ⟨rfl, rfl⟩ | ⟨n1, n2, h1'⟩
        · exact hf (by rw [← h4]; show c.F (c'.R b'); rw [hRk]; exact hbF)
        · exact hf ((h.hF i).2 (.inr ⟨b', y, h1', h2, h3, by rw [← hRn b' n1]; exact h4⟩))
    · intro i _ hf
      exact hold i (fun e => hf (e ▸ hbF))
    · intro i y hy
      by_cases e : i = k
      · subst e
        refine ⟨x', by show look ((i, x') :: _) i = _; simp [look_cons], ?_, fun e' _ => ?_⟩
        · rw [hv]; simp only [nextV, hy]; omega
        · rw [hv] at e'; simp only [nextV, hy] at e'; omega
      · by_cases e2 : i = b
        · subst e2
          have : y = x := Option.some.inj (hy.symm.trans hx)
          subst this
          refine ⟨{ y with k := .dead }, ?_, Nat.le_refl _, fun _ hd => absurd rfl hd⟩
          show look ((k, x') :: _) i = _
          rw [look_cons, if_neg (fun h => e h.symm)]
          unfold deadIf
          rw [if_neg (fun h => e h.symm)]
          simp [look_cons]
        · refine ⟨y, ?_, Nat.le_refl _, fun _ hd => ?_⟩
          · show look ((k, x') :: _) i = _
            rw [look_cons, if_neg (fun h => e h.symm)]
            unfold deadIf
            split
            · exact hy
            · rw [look_cons, if_neg (fun h => e2 h.symm)]; exact hy
          · have hne : c.R i ≠ c.R b := fun e' => e2 (h.inj i b y x hy hd hx hk e')
            exact ⟨rfl, hRn i e, rfl, fun _ => rfl, id, fun cl t1 f1 hc1 => ⟨cl, t1, f1, by rw [hRn i e, hold _ hne]; exact hc1, rfl⟩⟩
  refine ⟨?_, L⟩
  refine ⟨Nat.le_trans h.size L.size, ?_, by show w1.os = _; rw [hos]; exact h.os, by show w1.output = _; rw [hou]; exact h.out, h.xs, ?_, ?_, ?_, ?_, fun i => Iff.rfl⟩
  · intro i hi hg
    have hne : i ≠ c.R b := by
      rintro rfl
      rcases (h.own b x hx hk).1 hz with h1 | h1
      · omega
      · exact hg h1
    rw [hold i hne]; exact h.kept i hi hg
  · intro b' y h1 h2
    rcases hlook b' y h1 h2 with ⟨rfl, rfl⟩ | ⟨n1, n2, h1'⟩
    · rw [hRk]; exact ⟨fun _ => (h.own b x hx hk).1 hz, (h.own b x hx hk).2⟩
    · rw [hRn b' n1]; exact h.own b' y h1' h2
  · intro b' y h1 h2
    rcases hlook b' y h1 h2 with ⟨rfl, rfl⟩ | ⟨n1, n2, h1'⟩
    · rw [hRk]; exact h.low b x hx hk
    · rw [hRn b' n1]; exact h.low b' y h1' h2
  · intro b1 b2 x1 x2 h1 k1 h2 k2 e
    rcases hlook b1 x1 h1 k1 with ⟨e1, _⟩ | ⟨n1, m1, h1'⟩
    · rcases hlook b2 x2 h2 k2 with ⟨e2, _⟩ | ⟨n2, m2, h2'⟩
      · rw [e1, e2]
      · rw [e1, hRk, hRn b2 n2] at e
        exact absurd (h.inj b2 b x2 x h2' k2 hx hk e.symm) m2
    · rcases hlook b2 x2 h2 k2 with ⟨e2, _⟩ | ⟨n2, m2, h2'⟩
      · rw [e2, hRk, hRn b1 n1] at e
        exact absurd (h.inj b1 b x1 x h1' k1 hx hk e) m1
      · rw [hRn b1 n1, hRn b2 n2] at e
        exact h.inj b1 b2 x1 x2 h1' k1 h2' k2 e
  · intro b' y h1 h2
    rcases hlook b' y h1 h2 with ⟨rfl, rfl⟩ | ⟨n1, n2, h1'⟩
    · refine ⟨cells', t', lo, hi, by rw [hRk]; exact hnew, hfr, ?_, ?_⟩
      · intro e; rw [hk'] at e; cases e
      · exact fun _ => ⟨hrow.1, hrow.2.mono L⟩
    · have hne' : c.R b' ≠ c.R b := fun e' => n2 (h.inj b' b y x h1' h2 hx hk e')
      obtain ⟨cl, t1, lo1, hi1, g1, g2, g3, g4⟩ := (h.blk b' y h1' h2).here
      exact ⟨cl, t1, lo1, hi1, by rw [hRn b' n1, hold _ hne']; exact g1, g2, fun k => (g3 k).mono L, fun k => ⟨(g4 k).1, (g4 k).2.mono L⟩⟩

end Go.Ab
/- What the model's operations do where the evaluator says what they come to: those that only read. -/
namespace Go.Ab
open Go

section inv
variable {c : Cx} {v : Value}
theorem V.bool_inv {b : Bool} (h : V c (.bool b) v) : v = .bool b := by cases h with | pure h => cases h; rfl
theorem V.int_inv {k : IntKind} {n : Int} (h : V c (.int k n) v) : v = .int k n := by cases h with | pure h => cases h; rfl
theorem V.str_inv {s : List UInt8} (h : V c (.str s) v) : v = .string ⟨s.toArray⟩ := by cases h with | pure h => cases h; rfl
theorem V.skp_inv (h : V c .skp v) : v = Go.undef := by cases h with | pure h => cases h; rfl
theorem V.pnil_inv (h : V c .pnil v) : v = .pointer none := by cases h with | pure h => cases h; rfl
theorem V.fnil_inv (h : V c .fnil v) : v = .nilFunc := by cases h with | pure h => cases h; rfl
theorem V.inil_inv (h : V c .inil v) : v = .nilIface := by cases h with | pure h => cases h; rfl
theorem V.slc_inv {x : Bool} {es : List AV} (h : V c (.slc x es) v) : PV c.w c.F (.slc x es) v := by cases h with | pure h => exact h
theorem V.iface_inv {t : TypeId} {a : AV} (h : V c (.iface t a) v) : ∃ u, v = .iface t u ∧ a.simple = true ∧ PV c.w c.F a u := by
  cases h with | pure h => cases h with | iface _ _ u hs h => exact ⟨u, rfl, hs, h⟩
theorem V.agg_inv {cs : List AV} (h : V c (.agg cs) v) : ∃ vs : List Value, v = .agg vs.toArray ∧ cs.length = vs.length ∧ (∀ c ∈ cs, c.okC = true) ∧ ∀ (i : Nat) a u, cs[i]? = some a → vs[i]? = some u → V c a u := by
  cases h with
  | pure h => cases h with | agg _ vs hl hc h => exact ⟨vs, rfl, hl, hc, fun i a u h1 h2 => .pure (h i a u h1 h2)⟩
  | agg _ vs hl hc h => exact ⟨vs, rfl, hl, hc, h⟩
theorem V.tup_inv {cs : List AV} (h : V c (.tup cs) v) : ∃ vs : List Value, v = .tuple vs.toArray ∧ cs.length = vs.length ∧ ∀ (i : Nat) a u, cs[i]? = some a → vs[i]? = some u → V c a u := by
  cases h with
  | pure h => cases h with | tup _ vs hl h => exact ⟨vs, rfl, hl, fun i a u h1 h2 => .pure (h i a u h1 h2)⟩
  | tup _ vs hl h => exact ⟨vs, rfl, hl, h⟩
theorem V.fn_inv {f : FuncId} {fs cs : List AV} (h : V c (.fn f fs cs) v) : ∃ vfs vcs : List Value, v = .func (.func f) vfs.toArray vcs.toArray ∧ fs.length = vfs.length ∧ cs.length = vcs.length ∧
    (∀ (i : Nat) a u, fs[i]? = some a → vfs[i]? = some u → V c a u) ∧ ∀ (i : Nat) a u, cs[i]? = some a → vcs[i]? = some u → V c a u := by
  cases h with
  | pure h => cases h with | fn => exact ⟨[], [], rfl, rfl, rfl, fun _ _ _ h => by simp at h, fun _ _ _ h => by simp at h⟩
  | fn _ _ _ vfs vcs h1 h2 h3 h4 => exact ⟨vfs, vcs, rfl, h1, h2, h3, h4⟩
theorem V.sref_inv {b w off len : Nat} (h : V c (.sref b w off len) v) : ∃ x, look c.S b = some x ∧ w ≤ x.v ∧ (w = x.v → x.k = .row → ∃ cap cells t fr, v = .slice (some ⟨c.R b, off * x.sz, none⟩) len cap ∧ x.es.length ≤ off + cap ∧ len ≤ cap ∧
        c.w.heap[c.R b]? = some (.cells cells t fr) ∧ (off + cap) * x.sz ≤ cells.size) := by
  cases h with
  | pure h => cases h
  | sref _ _ _ _ _ _ x hb hv h => exact ⟨x, hb, hv, h⟩
theorem V.ptr_inv {b w i off : Nat} (h : V c (.ptr b w i off) v) : ∃ x, look c.S b = some x ∧ w ≤ x.v ∧
    (w = x.v → (x.k = .box → i = 0 → v = .pointer (some ⟨c.R b, off, none⟩)) ∧ (x.k = .row → v = .pointer (some ⟨c.R b, i * x.sz + off, none⟩))) := by
  cases h with
  | pure h => cases h
  | ptr _ _ _ _ _ _ x hb hv h => exact ⟨x, hb, hv, h⟩
theorem V.eptr_inv {e : AV} {off : Nat} (h : V c (.eptr e off) v) : ∃ b o, ∃ vals : List Value, v = .pointer (some ⟨b, o + off, none⟩) ∧ b < c.w.heap.size ∧ ¬ c.F b ∧ vals.length = e.cells.length ∧ (∀ a ∈ e.cells, a.okC = true) ∧
    (∀ (k : Nat) v, vals[k]? = some v → c.w.cell? ⟨b, o + k, none⟩ = some v) ∧ ∀ (k : Nat) a v, e.cells[k]? = some a → vals[k]? = some v → PV c.w c.F a v := by
  cases h with
  | pure h => cases h
  | eptr _ _ b o vals hb hF hl hc ha hv => exact ⟨b, o, vals, rfl, hb, hF, hl, hc, ha, hv⟩
end inv

theorem V.oneCell {c : Cx} {a : AV} {v : Value} (h : V c a v) (ha : a.okC = true) : v.oneCell' = true := by
  cases h with
  | pure h => cases h <;> first | rfl | cases ha
  | agg => cases ha
  | tup => cases ha
  | sref _ _ _ _ _ h1 => exact h1
  | ptr _ _ _ _ _ h1 => exact h1
  | eptr => rfl
  | fn => rfl

theorem cells_one {v : Value} (h : v.oneCell' = true) : v.cells = #[v] := by cases v <;> first | rfl | cases h

/-- The cells of a value. -/
theorem V.cells {c : Cx} {a : AV} {v : Value} (h : V c a v) (ha : a.cells.all AV.okC = true) : ∃ vs : List Value, v.cells = vs.toArray ∧ a.cells.length = vs.length ∧
    (∀ u ∈ vs, u.oneCell' = true) ∧ ∀ (i : Nat) b u, a.cells[i]? = some b → vs[i]? = some u → V c b u := by
  by_cases hagg : ∃ cs, a = .agg cs
  · obtain ⟨cs, rfl⟩ := hagg
    obtain ⟨vs, rfl, hl, hc, hp⟩ := h.agg_inv
    refine ⟨vs, rfl, hl, fun u hu => ?_, hp⟩
    obtain ⟨i, hi, rfl⟩ := List.getElem_of_mem hu
    have hi' : i < cs.length := by omega
    exact (hp i cs[i] vs[i] (List.getElem?_eq_getElem hi') (List.getElem?_eq_getElem hi)).oneCell (hc _ (List.getElem_mem hi'))
  · have hcs : a.cells = [a] := by cases a <;> first | rfl | exact absurd ⟨_, rfl⟩ hagg
    rw [hcs] at ha ⊢
    have ha' : a.okC = true := by simpa using ha
    have h1 := h.oneCell ha'
    refine ⟨[v], cells_one h1, rfl, fun u hu => ?_, fun i b u h2 h3 => ?_⟩
    · rw [List.mem_singleton.1 hu]; exact h1
    · cases i with
      | zero => simp at h2 h3; subst h2; subst h3; exact h
      | succ i => simp at h2

theorem flat_get {es : List AV} {sz : Nat} (h : ∀ e ∈ es, e.cells.length = sz) {i : Nat} {e : AV} (he : es[i]? = some e) {j : Nat} (hj : j < sz) :
    (es.flatMap AV.cells)[i * sz + j]? = e.cells[j]? := by
  induction es generalizing i with
  | nil => simp at he
  | cons a r ih =>
    have ha : a.cells.length = sz := h a (by simp)
    rw [List.flatMap_cons]
    cases i with
    | zero =>
      simp at he; subst he
      rw [Nat.zero_mul, Nat.zero_add, List.getElem?_append_left (by omega)]
    | succ i =>
      simp at he
      rw [List.getElem?_append_right (by rw [Nat.succ_mul]; omega), ha]
      rw [show (i + 1) * sz + j - sz = i * sz + j by rw [Nat.succ_mul]; omega]
      exact ih (fun e he => h e (by simp [he])) he

theorem flat_len {es : List AV} {sz : Nat} (h : ∀ e ∈ es, e.cells.length = sz) : (es.flatMap AV.cells).length = es.length * sz := by
  induction es with
  | nil => simp
  | cons a r ih =>
    rw [List.flatMap_cons, List.length_append, ih (fun e he => h e (by simp [he])), h a (by simp), List.length_cons, Nat.succ_mul]; omega

/-- A piece of memory that a pointer leads into: cells that can be read. -/
def Lies (c : Cx) (cs : List AV) (b o : Nat) (vals : List Value) : Prop :=
  b < c.w.heap.size ∧ vals.length = cs.length ∧ (∀ (k : Nat) v, vals[k]? = some v → c.w.cell? ⟨b, o + k, none⟩ = some v) ∧
    ∀ (k : Nat) a v, cs[k]? = some a → vals[k]? = some v → V c a v ∧ a.okC = true

theorem ldBlk_some {bs : List (Nat × Blk)} {b v : Nat} {x : Blk} (h : ldBlk bs b v = some x) : look bs b = some x ∧ x.v = v ∧ x.k ≠ .dead := by
  unfold ldBlk at h
  split at h
  · rename_i y hy
    split at h
    · rename_i hc
      cases h
      exact ⟨hy, hc.1, hc.2⟩
    · cases h
  · cases h

theorem lies_box {c : Cx} {b : Nat} {x : Blk} (h : BR c b x) (hk : x.k = .box) : ∃ vals, Lies c x.es (c.R b) 0 vals := by
  obtain ⟨cells, t, lo, hi, h1, h2, h3, _⟩ := h.here
  have h3 := h3 hk
  refine ⟨cells.toList.take x.es.length, h.lt, ?_, ?_, ?_⟩
  · rw [List.length_take]
    have : x.es.length ≤ cells.toList.length := by
      rcases Nat.lt_or_ge cells.toList.length x.es.length with hlt | hge
      · obtain ⟨_, v, hv, _⟩ := h3 cells.toList.length x.es[cells.toList.length] (List.getElem?_eq_getElem hlt)
        have := (Array.getElem?_eq_some_iff.1 hv).1
        simp at this
      · exact hge
    omega
  · intro k v hk
    rw [List.getElem?_take] at hk
    split at hk
    · rw [Array.getElem?_toList] at hk
      simp [World.cell?, h1, hk]
    · cases hk
  · intro k a v hk1 hk2
    rw [List.getElem?_take] at hk2
    split at hk2
    · rw [Array.getElem?_toList] at hk2
      obtain ⟨ho, u, hu, hV⟩ := h3 k a hk1
      rw [hk2] at hu
      cases hu
      exact ⟨hV, ho⟩
    · cases hk2

theorem lies_row {c : Cx} {b : Nat} {x : Blk} (h : BR c b x) (hk : x.k = .row) {i : Nat} {e : AV} (he : x.es[i]? = some e) : ∃ vals, Lies c e.cells (c.R b) (i * x.sz) vals := by
  obtain ⟨cells, t, lo, hi, h1, h2, _, h4⟩ := h.here
  obtain ⟨h3, h4⟩ := h4 hk
  have hsz : e.cells.length = x.sz := (h3 e (List.mem_of_getElem? he)).1
  have hcell : ∀ j a, e.cells[j]? = some a → ∃ v, cells[i * x.sz + j]? = some v ∧ PV c.w c.F a v := by
    intro j a ha
    have hj : j < x.sz := by rw [← hsz]; exact (List.getElem?_eq_some_iff.1 ha).1
    exact h4 _ a (by rw [flat_get (fun e he => (h3 e he).1) he hj]; exact ha)
  refine ⟨(cells.toList.drop (i * x.sz)).take e.cells.length, h.lt, ?_, ?_, ?_⟩
  · rw [List.length_take, List.length_drop]
    rcases Nat.eq_zero_or_pos e.cells.length with h0 | h0
    · omega
    · obtain ⟨v, hv, _⟩ := hcell (e.cells.length - 1) e.cells[e.cells.length - 1] (List.getElem?_eq_getElem (by omega))
      have := (Array.getElem?_eq_some_iff.1 hv).1
      have hs : cells.toList.length = cells.size := Array.length_toList
      omega
  · intro k v hk
    rw [List.getElem?_take] at hk
    split at hk
    · rw [List.getElem?_drop, Array.getElem?_toList] at hk
      simp [World.cell?, h1, hk]
    · cases hk
  · intro k a v hk1 hk2
    rw [List.getElem?_take] at hk2
    split at hk2
    · rw [List.getElem?_drop, Array.getElem?_toList] at hk2
      obtain ⟨u, hu, hV⟩ := hcell k a hk1
      rw [hk2] at hu
      cases hu
      exact ⟨.pure hV, (h3 e (List.mem_of_getElem? he)).2 a (List.mem_of_getElem? hk1)⟩
    · cases hk2

section
variable {P : Program} {w0 : World} {G X Lo : Nat → Prop} {c : Cx}

theorem cellsAt_lies (h : WR w0 G X Lo c) {p : AV} {val : Value} (hp : V c p val) {cs : List AV} {off : Nat} (hc : cellsAt c.S p = some (cs, off)) :
    ∃ b o vals, val = .pointer (some ⟨b, o + off, none⟩) ∧ Lies c cs b o vals := by
  cases p with
  | ptr b v i o =>
    obtain ⟨x, hx, hv, hq⟩ := hp.ptr_inv
    simp only [cellsAt] at hc
    split at hc
    · rename_i y hy
      obtain ⟨h1, h2, h3⟩ := ldBlk_some hy
      have : y = x := Option.some.inj (h1.symm.trans hx)
      subst this
      have hB := h.blk b y hx h3
      obtain ⟨q1, q2⟩ := hq h2.symm
      split at hc
      · rename_i hk
        split at hc
        · rename_i hi
          cases hc
          obtain ⟨vals, hl⟩ := lies_box hB hk
          exact ⟨_, 0, vals, by rw [q1 hk hi, Nat.zero_add], hl⟩
        · cases hc
      · rename_i hk
        split at hc
        · rename_i e he
          cases hc
          obtain ⟨vals, hl⟩ := lies_row hB hk he
          exact ⟨_, _, vals, q2 hk, hl⟩
        · cases hc
      · cases hc
    · cases hc
  | eptr e o =>
    obtain ⟨b, o', vals, rfl, h1, h2, h3, h4, h5, h6⟩ := hp.eptr_inv
    simp only [cellsAt] at hc
    cases hc
    exact ⟨b, o', vals, rfl, h1, h3, h5, fun k a v h7 h8 => ⟨.pure (h6 k a v h7 h8), h4 a (List.mem_of_getElem? h7)⟩⟩
  | _ => cases hc

theorem cellsOf_some {t : TypeId} {d : TypeDesc} (h : P.underlying t = some d) : ∃ i, P.info? t = some i ∧ P.cellsOf t = i.size := by
  cases hi : P.info? t with
  | none => simp [Program.underlying, hi] at h
  | some i => exact ⟨i, rfl, by simp [Program.cellsOf, hi]⟩

theorem run_isAgg {t : TypeId} {g : Bool} (h : isAggT P t = some g) (w : World) : (isAgg t).run P w = .ok g w := by
  unfold isAggT at h
  split at h <;> first | cases h | skip
  all_goals (rename_i hd; simp [isAgg, run_underlying hd])
  all_goals (rename_i d _ _ _; cases d <;> first | rfl | simp_all)

theorem isAggT_cells {t : TypeId} {g : Bool} (h : isAggT P t = some g) : ∃ i, P.info? t = some i ∧ P.cellsOf t = i.size := by
  unfold isAggT at h
  split at h
  · rename_i hd; exact cellsOf_some hd
  · rename_i hd; exact cellsOf_some hd
  · rename_i hd; exact cellsOf_some hd
  · cases h

theorem add_zero (a : Addr) (k : Nat) (h : a.spot = none) : a.add k = ⟨a.block, a.off + k, none⟩ := by
  unfold Addr.add
  split
  · subst_vars; cases a; simp_all
  · rfl

theorem run_loadVar (t : TypeId) {cs : List AV} {b o off : Nat} {vals : List Value} (hl : Lies c cs b o vals) {r : AV} (hr : part P t cs off = some r) :
    ∃ v, (loadVar t ⟨b, o + off, none⟩).run P c.w = .ok v c.w ∧ V c r v := by
  obtain ⟨h1, h2, h3, h4⟩ := hl
  unfold part at hr
  split at hr
  · rename_i hg
    split at hr
    · rename_i hle
      cases hr
      obtain ⟨i, hi, hsz⟩ := isAggT_cells hg
      have hc : ∀ j v, ((vals.drop off).take (P.cellsOf t))[j]? = some v → c.w.cell? ((⟨b, o + off, none⟩ : Addr).add j) = some v := by
        intro j v hj
        rw [List.getElem?_take] at hj
        split at hj
        · rw [List.getElem?_drop] at hj
          rw [add_zero _ _ rfl]
          have := h3 _ v hj
          simpa [Nat.add_assoc] using this
        · cases hj
      have hlen : ((vals.drop off).take (P.cellsOf t)).length = i.size := by
        rw [List.length_take, List.length_drop, h2, ← hsz]; omega
      have hrun := run_loadCells_list (P := P) c.w ⟨b, o + off, none⟩ _ hc
      rw [hlen] at hrun
      refine ⟨.agg ((vals.drop off).take (P.cellsOf t)).toArray, ?_, ?_⟩
      · simp [loadVar, run_isAgg hg, sizeOf, typeInfo, hi, hrun]
      · refine .agg _ _ ?_ (fun a ha => ?_) (fun k a v hk1 hk2 => ?_)
        · rw [hlen, List.length_take, List.length_drop, ← hsz]; omega
        · have := List.mem_of_mem_drop (List.mem_of_mem_take ha)
          obtain ⟨k, hk, rfl⟩ := List.getElem_of_mem this
          exact (h4 k cs[k] vals[k] (List.getElem?_eq_getElem hk) (List.getElem?_eq_getElem (by omega))).2
        · rw [List.getElem?_take] at hk1 hk2
          split at hk1
          · rename_i hlt
            rw [if_pos hlt] at hk2
            rw [List.getElem?_drop] at hk1 hk2
            exact (h4 _ a v hk1 hk2).1
          · cases hk1
    · cases hr
  · rename_i hg
    have hlt := (List.getElem?_eq_some_iff.1 hr).1
    have hv := h3 off vals[off] (List.getElem?_eq_getElem (by omega))
    refine ⟨vals[off], ?_, (h4 off r vals[off] hr (List.getElem?_eq_getElem (by omega))).1⟩
    simp [loadVar, run_isAgg hg, hv]
  · cases hr

theorem load_ok (h : WR w0 G X Lo c) {t : TypeId} {p r : AV} {val : Value} (hp : V c p val) (hr : aLoad P c.S t p = some r) :
    ∃ v, (Instr.loadAt t val).run P c.w = .ok v c.w ∧ V c r v := by
  unfold aLoad at hr
  split at hr
  · rename_i cs off hc
    obtain ⟨b, o, vals, rfl, hl⟩ := cellsAt_lies h hp hc
    obtain ⟨v, h1, h2⟩ := run_loadVar t hl hr
    exact ⟨v, by simp [Instr.loadAt, Instr.sureAddr, h1], h2⟩
  · cases hr


theorem run_sizeOf {t : TypeId} {i : TypeInfo} (h : P.info? t = some i) (w : World) : (sizeOf t).run P w = .ok (P.cellsOf t) w := by
  simp [sizeOf, typeInfo, h, Program.cellsOf]

theorem part_ok (w : World) {t : TypeId} {cs : List AV} {vs : List Value} (hl : cs.length = vs.length) (hc : ∀ a ∈ cs, a.okC = true)
    (hp : ∀ (i : Nat) a u, cs[i]? = some a → vs[i]? = some u → V c a u) {off : Nat} {r : AV} (hr : part P t cs off = some r) :
    ∃ v, (Go.part t vs.toArray off).run P w = .ok v w ∧ V c r v := by
  unfold part at hr
  split at hr
  · rename_i hg
    split at hr
    · rename_i hle
      cases hr
      obtain ⟨i, hi, hsz⟩ := isAggT_cells hg
      refine ⟨.agg ((vs.drop off).take (P.cellsOf t)).toArray, ?_, ?_⟩
      · have : vs.toArray.extract off (off + P.cellsOf t) = ((vs.drop off).take (P.cellsOf t)).toArray := by
          simp [List.extract_toArray, List.extract]
        simp [Go.part, run_isAgg hg, run_sizeOf hi, this]
      · refine .agg _ _ ?_ (fun a ha => ?_) (fun k a v hk1 hk2 => ?_)
        · rw [List.length_take, List.length_take, List.length_drop, List.length_drop, hl]
        · exact hc _ (List.mem_of_mem_drop (List.mem_of_mem_take ha))
        · rw [List.getElem?_take] at hk1 hk2
          split at hk1
          · rename_i hlt
            rw [if_pos hlt] at hk2
            rw [List.getElem?_drop] at hk1 hk2
            exact hp _ a v hk1 hk2
          · cases hk1
    · cases hr
  · rename_i hg
    have hlt := (List.getElem?_eq_some_iff.1 hr).1
    have hv : vs[off]? = some vs[off] := List.getElem?_eq_getElem (by omega)
    refine ⟨vs[off], ?_, hp off r _ hr hv⟩
    simp [Go.part, run_isAgg hg, hv]
  · cases hr

theorem field_ok (w : World) {t : TypeId} {x r : AV} {val : Value} {f : Nat} (hx : V c x val) (hr : aField P t x f = some r) :
    ∃ v, (Instr.field t val f).run P w = .ok v w ∧ V c r v := by
  unfold aField at hr
  split at hr
  · rename_i fs hu
    split at hr
    · rename_i fl hf
      split at hr
      · obtain ⟨vs, rfl, hl, hc, hp⟩ := hx.agg_inv
        obtain ⟨v, h1, h2⟩ := part_ok w hl hc hp hr
        exact ⟨v, by simp [Instr.field, run_underlying hu, hf, asAgg, h1], h2⟩
      · cases hr
    · cases hr
  · cases hr

theorem index_ok (w : World) {t : TypeId} {x i r : AV} {val iv : Value} (hx : V c x val) (hi : V c i iv) (hr : aIndex P t x i = some r) :
    ∃ v, (Instr.index t val iv).run P w = .ok v w ∧ V c r v := by
  unfold aIndex at hr
  split at hr
  · rename_i k n
    have := hi.int_inv
    subst this
    split at hr
    · rename_i h0
      split at hr
      · rename_i len e hu
        split at hr
        · split at hr
          · rename_i hn
            obtain ⟨vs, rfl, hl, hc, hp⟩ := hx.agg_inv
            obtain ⟨v, h1, h2⟩ := part_ok w hl hc hp hr
            have hsz : ∃ i, P.info? e = some i := by
              unfold part at hr
              cases hg : isAggT P e with
              | none => simp [hg] at hr
              | some g => obtain ⟨i, hi, _⟩ := isAggT_cells hg; exact ⟨i, hi⟩
            obtain ⟨ti, hti⟩ := hsz
            exact ⟨v, by simp [Instr.index, asIntOf, run_underlying hu, h0, hn, run_sizeOf hti, h1], h2⟩
          · cases hr
        · cases hr
      · rename_i hu
        split at hr
        · rename_i s
          have := hx.str_inv
          subst this
          split at hr
          · rename_i b hb
            cases hr
            have hb' : (⟨s.toArray⟩ : ByteArray)[n.toNat]? = some b := by
              have hlt := (List.getElem?_eq_some_iff.1 hb).1
              have hlt' : n.toNat < (⟨s.toArray⟩ : ByteArray).size := by simpa [ByteArray.size] using hlt
              rw [getElem?_pos (⟨s.toArray⟩ : ByteArray) n.toNat hlt']
              rw [List.getElem?_eq_getElem hlt] at hb
              have : (⟨s.toArray⟩ : ByteArray)[n.toNat] = s[n.toNat] := rfl
              rw [this]; exact hb
            exact ⟨_, by simp [Instr.index, asIntOf, run_underlying hu, h0, hb'], .pure (.int _ _)⟩
          · cases hr
        · cases hr
      · cases hr
    · cases hr
  · cases hr

theorem extract_ok (w : World) {x r : AV} {vs : List AV} {val : Value} {i : Nat} (hx : V c (.tup vs) val) (hr : vs[i]? = some r) :
    ∃ v, (Instr.extract val i).run P w = .ok v w ∧ V c r v := by
  obtain ⟨us, rfl, hl, hp⟩ := hx.tup_inv
  have hlt := (List.getElem?_eq_some_iff.1 hr).1
  have hu : us[i]? = some us[i] := List.getElem?_eq_getElem (by omega)
  exact ⟨us[i], by simp [Instr.extract, hu], hp i r _ hr hu⟩

/-- An element of a slice that nobody writes. -/
theorem slc_elem {x : Bool} {es : List AV} {val : Value} (h : PV c.w c.F (.slc x es) val) {i : Nat} {e : AV} (he : es[i]? = some e) :
    ∃ b o cap, ∃ vals : List Value, val = .slice (some ⟨b, o, none⟩) es.length cap ∧ b < c.w.heap.size ∧ ¬ c.F b ∧ vals.length = e.cells.length ∧ (∀ a ∈ e.cells, a.okC = true) ∧
      (∀ (k : Nat) v, vals[k]? = some v → c.w.cell? ⟨b, o + i * e.cells.length + k, none⟩ = some v) ∧ ∀ (k : Nat) a v, e.cells[k]? = some a → vals[k]? = some v → PV c.w c.F a v := by
  cases h with
  | slc _ _ a cap sz vals hx hcap hsz ha hl hv =>
    obtain ⟨b, o, rfl, h1, h2, h3⟩ := ha (by rintro rfl; simp at he)
    have hes := hsz e (List.mem_of_getElem? he)
    have hu : ∀ e ∈ es, e.cells.length = sz := fun e he => (hsz e he).1
    have hlen := flat_len hu
    have hlt := (List.getElem?_eq_some_iff.1 he).1
    have hmul : i * sz + sz ≤ es.length * sz := by
      have := Nat.mul_le_mul_right sz (show i + 1 ≤ es.length by omega)
      rw [Nat.succ_mul] at this; exact this
    refine ⟨b, o, cap, (vals.drop (i * sz)).take sz, rfl, h1, h2, ?_, hes.2, ?_, ?_⟩
    · rw [List.length_take, List.length_drop, hl, hlen, hes.1]; omega
    · intro k v hk
      rw [List.getElem?_take] at hk
      split at hk
      · rw [List.getElem?_drop] at hk
        rw [hes.1, Nat.add_assoc]
        exact h3 _ v hk
      · cases hk
    · intro k a v hk1 hk2
      rw [List.getElem?_take] at hk2
      split at hk2
      · rename_i hk
        rw [List.getElem?_drop] at hk2
        exact hv _ a v (by rw [flat_get hu he hk]; exact hk1) hk2
      · cases hk2

theorem Lies.ptr_of {b v i o : Nat} {val : Value} (hp : V c (.ptr b v i o) val) {cs : List AV} {off : Nat} (hc : cellsAt c.S (.ptr b v i o) = some (cs, off)) :
    ∃ B O, val = .pointer (some ⟨B, O, none⟩) ∧ ∀ k, V c (.ptr b v i (o + k)) (.pointer (some ⟨B, O + k, none⟩)) := by
  obtain ⟨x, hx, hv, hq⟩ := hp.ptr_inv
  simp only [cellsAt] at hc
  split at hc
  · rename_i y hy
    obtain ⟨h1, h2, h3⟩ := ldBlk_some hy
    have : y = x := Option.some.inj (h1.symm.trans hx)
    subst this
    obtain ⟨q1, q2⟩ := hq h2.symm
    split at hc
    · rename_i hk
      split at hc
      · rename_i hi
        refine ⟨_, _, q1 hk hi, fun k => .ptr _ _ _ _ _ rfl y hx hv (fun _ => ⟨fun _ _ => by rw [], fun hk' => ?_⟩)⟩
        rw [hk] at hk'; cases hk'
      · cases hc
    · rename_i hk
      refine ⟨_, _, q2 hk, fun k => .ptr _ _ _ _ _ rfl y hx hv (fun _ => ⟨fun hk' => ?_, fun _ => by rw [Nat.add_assoc]⟩)⟩
      rw [hk] at hk'; cases hk'
    · cases hc
  · cases hc

theorem info_of_cells {t : TypeId} (h : P.cellsOf t ≠ 0) : ∃ i, P.info? t = some i := by
  cases hi : P.info? t with
  | some i => exact ⟨i, rfl⟩
  | none => simp [Program.cellsOf, hi] at h

theorem indexAddr_ok {t : TypeId} {x i r : AV} {val iv : Value} (hx : V c x val) (hi : V c i iv) (hr : aIndexAddr P c.S t x i = some r) :
    ∃ v, (Instr.indexAt t val iv).run P c.w = .ok v c.w ∧ V c r v := by
  unfold aIndexAddr at hr
  split at hr
  · rename_i e hu
    split at hr
    · rename_i xx es
      split at hr
      · rename_i k n
        have := hi.int_inv
        subst this
        split at hr
        · rename_i h0
          split at hr
          · rename_i el hel
            split at hr
            · rename_i hsz
              cases hr
              obtain ⟨b, o, cap, vals, rfl, h1, h2, h3, h4, h5, h6⟩ := slc_elem hx.slc_inv hel
              have hlt := (List.getElem?_eq_some_iff.1 hel).1
              have hin : 0 ≤ n ∧ n < (es.length : Int) := by omega
              obtain ⟨ti, hti⟩ := info_of_cells hsz.2
              refine ⟨_, by simp [Instr.indexAt, asIntOf, run_underlying hu, hin, run_sizeOf hti]; rfl, ?_⟩
              rw [add_zero _ _ rfl, ← hsz.1]
              have := V.eptr el 0 b (o + n.toNat * el.cells.length) vals h1 h2 h3 h4 h5 h6
              simpa using this
            · cases hr
          · cases hr
        · cases hr
      · cases hr
    · rename_i b v off len
      split at hr
      · rename_i k n
        have := hi.int_inv
        subst this
        split at hr
        · rename_i hn
          split at hr
          · rename_i y hy
            split at hr
            · rename_i hk
              cases hr
              obtain ⟨h1, h2, h3⟩ := ldBlk_some hy
              obtain ⟨x, hx1, hx2, hx3⟩ := hx.sref_inv
              have : y = x := Option.some.inj (h1.symm.trans hx1)
              subst this
              obtain ⟨cap, cells, tt, fr, rfl, e2, e3, e4, e5⟩ := hx3 h2.symm hk.1
              obtain ⟨ti, hti⟩ := info_of_cells hk.2.2
              refine ⟨_, by simp [Instr.indexAt, asIntOf, run_underlying hu, hn, run_sizeOf hti]; rfl, ?_⟩
              rw [add_zero _ _ rfl]
              refine .ptr _ _ _ _ _ rfl y hx1 hx2 (fun _ => ⟨fun hk' => ?_, fun _ => ?_⟩)
              · rw [hk.1] at hk'; cases hk'
              · rw [← hk.2.1, Nat.add_mul, Nat.add_zero]
            · cases hr
          · cases hr
        · cases hr
      · cases hr
    · cases hr
  · rename_i len e hu
    split at hr
    · rename_i k n
      have := hi.int_inv
      subst this
      split at hr
      · rename_i hn
        obtain ⟨ti, hti⟩ := info_of_cells hn.2.2
        have hn' : 0 ≤ n ∧ n < (len : Int) := ⟨hn.1, hn.2.1⟩
        split at hr
        · split at hr
          · rename_i b v j off y hy
            cases hr
            obtain ⟨B, O, rfl, hq⟩ := Lies.ptr_of hx (cs := y.1) (off := y.2) hy
            refine ⟨_, by simp [Instr.indexAt, asIntOf, run_underlying hu, hn', run_sizeOf hti, Instr.sureAddr]; rfl, ?_⟩
            rw [add_zero _ _ rfl]
            exact hq _
          · cases hr
        · rename_i el off
          cases hr
          obtain ⟨b, o, vals, rfl, h1, h2, h3, h4, h5, h6⟩ := hx.eptr_inv
          refine ⟨_, by simp [Instr.indexAt, asIntOf, run_underlying hu, hn', run_sizeOf hti, Instr.sureAddr]; rfl, ?_⟩
          rw [add_zero _ _ rfl]
          have := V.eptr el (off + n.toNat * P.cellsOf e) b o vals h1 h2 h3 h4 h5 h6
          simpa [Nat.add_assoc] using this
        · cases hr
      · cases hr
    · cases hr
  · cases hr

theorem fieldAddr_ok {t : TypeId} {x r : AV} {val : Value} {f : Nat} (hx : V c x val) (hr : aFieldAddr P c.S t x f = some r) :
    ∃ v, (Instr.fieldAt t val f).run P c.w = .ok v c.w ∧ V c r v := by
  unfold aFieldAddr at hr
  split at hr
  · rename_i fs hu
    split at hr
    · rename_i fl hf
      split at hr
      · cases hr
      · rename_i hne
        obtain ⟨ti, hti⟩ := info_of_cells hne
        split at hr
        · split at hr
          · rename_i b v j off y hy
            cases hr
            obtain ⟨B, O, rfl, hq⟩ := Lies.ptr_of hx (cs := y.1) (off := y.2) hy
            refine ⟨_, by simp [Instr.fieldAt, run_underlying hu, hf, Instr.sureAddr, fieldPlace, run_sizeOf hti, hne]; rfl, ?_⟩
            rw [add_zero _ _ rfl]
            exact hq _
          · cases hr
        · rename_i el off
          cases hr
          obtain ⟨b, o, vals, rfl, h1, h2, h3, h4, h5, h6⟩ := hx.eptr_inv
          refine ⟨_, by simp [Instr.fieldAt, run_underlying hu, hf, Instr.sureAddr, fieldPlace, run_sizeOf hti, hne]; rfl, ?_⟩
          rw [add_zero _ _ rfl]
          have := V.eptr el (off + fl.offset) b o vals h1 h2 h3 h4 h5 h6
          simpa [Nat.add_assoc] using this
        · cases hr
    · cases hr
  · cases hr

end
end Go.Ab
/- More of what only reads: slices, tests, numbers, texts, what is built. -/
namespace Go.Ab
open Go

section
variable {P : Program} {w0 : World} {G X Lo : Nat → Prop} {c : Cx}

/-- An operand that may be missing. -/
inductive OV (c : Cx) : Option AV → Option Value → Prop
  | none : OV c none none
  | some {a : AV} {v : Value} (h : V c a v) : OV c (some a) (some v)

theorem sb_ok (w : World) {d n y : Nat} (code : BoundsCode) {a : AV} {v : Value} (h : V c a v) (hb : boundOf d (some a) = some n) (hn : n ≤ y) :
    (Instr.sliceBound v y code).run P w = .ok n w := by
  cases a with
  | int k m =>
    have := h.int_inv
    subst this
    simp only [boundOf] at hb
    split at hb
    · rename_i h0
      cases hb
      have : 0 ≤ m ∧ m ≤ (y : Int) := by omega
      simp [Instr.sliceBound, asIntOf, this]
    · cases hb
  | _ => simp [boundOf] at hb

theorem bounds_ok (w : World) (isS : Bool) {len cap l h m : Nat} {lo hi mx : Option AV} {vlo vhi vmx : Option Value} (hlo : OV c lo vlo) (hhi : OV c hi vhi) (hmx : OV c mx vmx)
    (hl : boundOf 0 lo = some l) (hh : boundOf len hi = some h) (hm : boundOf cap mx = some m) (h1 : l ≤ h) (h2 : h ≤ m) (h3 : m ≤ cap) (hs : mx.isSome = true → hi.isSome = true) :
    (Instr.sliceBounds isS len cap vlo vhi vmx).run P w = .ok (l, h, m) w := by
  cases hmx with
  | none =>
    simp [boundOf] at hm
    subst hm
    cases hhi with
    | none =>
      simp [boundOf] at hh
      subst hh
      cases hlo with
      | none => simp [boundOf] at hl; subst hl; simp [Instr.sliceBounds]
      | some hv => simp [Instr.sliceBounds, sb_ok (P := P) w _ hv hl h1]
    | some hv2 =>
      cases hlo with
      | none => simp [boundOf] at hl; subst hl; simp [Instr.sliceBounds, sb_ok (P := P) w _ hv2 hh h2]
      | some hv => simp [Instr.sliceBounds, sb_ok (P := P) w _ hv hl h1, sb_ok (P := P) w _ hv2 hh h2]
  | some hv3 =>
    cases hhi with
    | none => simp at hs
    | some hv2 =>
      cases hlo with
      | none => simp [boundOf] at hl; subst hl; simp [Instr.sliceBounds, sb_ok (P := P) w _ hv2 hh h2, sb_ok (P := P) w _ hv3 hm h3]
      | some hv => simp [Instr.sliceBounds, sb_ok (P := P) w _ hv hl h1, sb_ok (P := P) w _ hv2 hh h2, sb_ok (P := P) w _ hv3 hm h3]

theorem take_cells (es : List AV) (l n : Nat) (sz : Nat) (h : ∀ e ∈ es, e.cells.length = sz) : ((es.drop l).take n).flatMap AV.cells = ((es.flatMap AV.cells).drop (l * sz)).take (n * sz) := by
  have hd : ∀ (l : Nat) (es : List AV), (∀ e ∈ es, e.cells.length = sz) → (es.drop l).flatMap AV.cells = (es.flatMap AV.cells).drop (l * sz) := by
    intro l
    induction l with
    | zero => intro es _; simp
    | succ l ih =>
      intro es h
      cases es with
      | nil => simp
      | cons a r =>
        rw [List.drop_succ_cons, List.flatMap_cons, ih r (fun e he => h e (by simp [he]))]
        have ha := h a (by simp)
        have e1 : List.drop ((l + 1) * sz) a.cells = [] := List.drop_eq_nil_of_le (by rw [ha, Nat.succ_mul]; omega)
        rw [List.drop_append, show (l + 1) * sz - a.cells.length = l * sz by rw [ha, Nat.succ_mul]; omega, e1, List.nil_append]
  have ht : ∀ (n : Nat) (es : List AV), (∀ e ∈ es, e.cells.length = sz) → (es.take n).flatMap AV.cells = (es.flatMap AV.cells).take (n * sz) := by
    intro n
    induction n with
    | zero => intro es _; simp
    | succ n ih =>
      intro es h
      cases es with
      | nil => simp
      | cons a r =>
        have ha := h a (by simp)
        rw [List.take_succ_cons, List.flatMap_cons, List.flatMap_cons, ih r (fun e he => h e (by simp [he]))]
        rw [List.take_append, show (n + 1) * sz - a.cells.length = n * sz by rw [ha, Nat.succ_mul]; omega,
          List.take_of_length_le (l := a.cells) (by rw [ha, Nat.succ_mul]; omega)]
  rw [ht n _ (fun e he => h e (List.mem_of_mem_drop he)), hd l es h]

/-- A piece of a slice that nobody writes. -/
theorem slc_piece {w : World} {F : Nat → Prop} {x : Bool} {es : List AV} {a : Option Addr} {n cap : Nat} {sz : Nat} (h : PV w F (.slc x es) (.slice a n cap)) (hsz : ∀ e ∈ es, e.cells.length = sz)
    {l m cap' : Nat} (hl : l + m ≤ es.length) (x' : Bool) (hx' : x' = true → cap' = m) (hcap : m ≤ cap') (a' : Option Addr) (ha' : m ≠ 0 → a' = a.map fun b => ⟨b.block, b.off + l * sz, none⟩) :
    PV w F (.slc x' ((es.drop l).take m)) (.slice a' m cap') := by
  cases h with
  | slc _ _ _ _ sz' vals hx hc hs ha hl' hv =>
    have hlen : ((es.drop l).take m).length = m := by rw [List.length_take, List.length_drop]; omega
    have hmem : ∀ e ∈ (es.drop l).take m, e ∈ es := fun e he => List.mem_of_mem_drop (List.mem_of_mem_take he)
    have key := PV.slc (w := w) (F := F) x' ((es.drop l).take m) a' cap' sz ((vals.drop (l * sz)).take (m * sz)) (fun h => by rw [hlen]; exact hx' h) (by rw [hlen]; exact hcap)
      (fun e he => ⟨hsz e (hmem e he), (hs e (hmem e he)).2⟩) (fun hne => ?_) ?_ (fun k cc v h1 h2 => ?_)
    · rw [hlen] at key; exact key
    · have hm : m ≠ 0 := by rintro rfl; simp at hne
      obtain ⟨b, o, rfl, h1, h2, h3⟩ := ha (by rintro rfl; simp at hne)
      refine ⟨b, o + l * sz, by rw [ha' hm]; rfl, h1, h2, fun k v hk => ?_⟩
      rw [List.getElem?_take] at hk
      split at hk
      · rw [List.getElem?_drop] at hk
        rw [Nat.add_assoc]; exact h3 _ v hk
      · cases hk
    · rw [take_cells es l m sz hsz, List.length_take, List.length_take, List.length_drop, List.length_drop, hl']
    · rw [take_cells es l m sz hsz, List.getElem?_take] at h1
      rw [List.getElem?_take] at h2
      split at h1
      · rename_i hk
        rw [if_pos hk] at h2
        rw [List.getElem?_drop] at h1 h2
        exact hv _ cc v h1 h2
      · cases h1

theorem all_sz {es : List AV} {n : Nat} (h : es.all (fun y => decide (y.cells.length = n)) = true) : ∀ e ∈ es, e.cells.length = n := by
  intro e he
  have := List.all_eq_true.1 h e he
  simpa using this

theorem boundOf_some {d e n : Nat} {o : Option AV} (h : boundOf d o = some n) (ho : o.isSome = true) : boundOf e o = some n := by
  cases o with
  | none => cases ho
  | some a => cases a <;> first | exact h | simp [boundOf] at h

theorem slice_ok (w : World) {t : TypeId} {x r : AV} {val : Value} {lo hi mx : Option AV} {vlo vhi vmx : Option Value} (hx : V c x val) (hlo : OV c lo vlo) (hhi : OV c hi vhi) (hmx : OV c mx vmx)
    (hr : aSlice P c.S t x lo hi mx = some r) : ∃ v, (Instr.sliceAt t val vlo vhi vmx).run P w = .ok v w ∧ V c r v := by
  unfold aSlice at hr
  split at hr
  · cases hr
  · rename_i l hl
    split at hr
    · rename_i s
      split at hr
      · rename_i hu
        split at hr
        · rename_i h hh
          split at hr
          · rename_i hc
            cases hr
            have := hx.str_inv
            subst this
            have hmx' : mx = none := by simpa using hc.2.2
            subst hmx'
            have hsz : (⟨s.toArray⟩ : ByteArray).size = s.length := by simp [ByteArray.size]
            have e : (⟨s.toArray⟩ : ByteArray).extract l h = ⟨((s.drop l).take (h - l)).toArray⟩ := by
              rw [ByteArray.extract_mk]
            have hb := bounds_ok (P := P) w false (len := s.length) (cap := s.length) hlo hhi hmx hl hh rfl hc.1 hc.2.1 (Nat.le_refl _) (by simp)
            cases hmx
            exact ⟨.string ⟨((s.drop l).take (h - l)).toArray⟩, by simp [Instr.sliceAt, run_underlying hu, Instr.slice, hsz, hb, e], .pure (.str _)⟩
          · cases hr
        · cases hr
      · cases hr
    · rename_i cc es
      split at hr
      · rename_i e hu
        split at hr
        · rename_i hall0
          have hall := all_sz hall0.1
          obtain ⟨ti, hti⟩ := info_of_cells hall0.2
          split at hr
          · rename_i h hh
            have hpv := hx.slc_inv
            obtain ⟨a, n, cap, rfl⟩ : ∃ a n cap, val = .slice a n cap := by cases hpv; exact ⟨_, _, _, rfl⟩
            have hn : n = es.length := by cases hpv; rfl
            subst hn
            have hcap : es.length ≤ cap := by cases hpv; assumption
            have hcc : cc = true → cap = es.length := by cases hpv; assumption
            have hsp : es ≠ [] → ∃ b o, a = some ⟨b, o, none⟩ := by
              intro hne
              cases hpv with
              | slc _ _ _ _ _ _ _ _ _ ha => obtain ⟨b, o, h1, _⟩ := ha hne; exact ⟨b, o, h1⟩
            have haddr : ∀ m', (if m' = l then a else a.map fun z => z.add (l * P.cellsOf e)) = a ∨ (if m' = l then a else a.map fun z => z.add (l * P.cellsOf e)) = a.map fun z => z.add (l * P.cellsOf e) := by
              intro m'; split <;> simp
            have piece : ∀ m' (x' : Bool), l ≤ h → h ≤ es.length → h ≤ m' → m' ≤ cap → (x' = true → h = m') →
                PV c.w c.F (.slc x' ((es.drop l).take (h - l))) (.slice (if m' = l then a else a.map fun z => z.add (l * P.cellsOf e)) (h - l) (m' - l)) := by
              intro m' x' g1 g2 g3 g4 g5
              refine slc_piece hpv hall (by omega) x' (fun hx' => by rw [g5 hx']) (by omega) _ (fun hm => ?_)
              rw [if_neg (by omega)]
              obtain ⟨b, o, rfl⟩ := hsp (by rintro rfl; simp at g2; omega)
              simp [add_zero]
            split at hr
            · rename_i hmxn
              split at hr
              · rename_i hc
                cases hr
                have hb := bounds_ok (P := P) w true (len := es.length) (cap := cap) hlo hhi hmx hl hh (m := cap) rfl hc.1 (by omega) (Nat.le_refl _) (by simp)
                refine ⟨_, by simp [Instr.sliceAt, run_underlying hu, Instr.slice, hb, run_sizeOf hti], .pure (piece cap _ hc.1 hc.2 (by omega) (Nat.le_refl _) (fun hx' => ?_))⟩
                simp at hx'
                rw [hcc hx'.1, hx'.2]
              · cases hr
            · rename_i mm hmxs
              split at hr
              · rename_i m hm
                split at hr
                · rename_i hc
                  cases hr
                  have hb := bounds_ok (P := P) w true (len := es.length) (cap := cap) hlo hhi hmx hl hh (m := m) (boundOf_some hm rfl) hc.1 hc.2.1 (by omega) (fun _ => hc.2.2.2)
                  refine ⟨_, by simp [Instr.sliceAt, run_underlying hu, Instr.slice, hb, run_sizeOf hti], .pure (piece m _ hc.1 (by omega) hc.2.1 (by omega) (fun hx' => ?_))⟩
                  simpa using hx'
                · cases hr
              · cases hr
          · cases hr
        · cases hr
      · cases hr
    · rename_i b v off len
      split at hr
      · rename_i e hu
        split at hr
        · rename_i y hy
          split at hr
          · rename_i hk
            obtain ⟨ti, hti⟩ := info_of_cells hk.2.2
            obtain ⟨h1, h2, h3⟩ := ldBlk_some hy
            obtain ⟨x, hx1, hx2, hx3⟩ := hx.sref_inv
            have : y = x := Option.some.inj (h1.symm.trans hx1)
            subst this
            obtain ⟨cap, cells, tt, fr, rfl, e2, e3, e4, e5⟩ := hx3 h2.symm hk.1
            split at hr
            · rename_i h hh
              split at hr
              · split at hr
                · rename_i hc
                  have hb := bounds_ok (P := P) w true (len := len) (cap := cap) hlo hhi hmx hl hh (m := cap) rfl hc.1 (by omega) (Nat.le_refl _) (by simp)
                  split at hr
                  · rename_i hcase
                    cases hr
                    refine ⟨_, by simp [Instr.sliceAt, run_underlying hu, Instr.slice, hb, run_sizeOf hti]; rfl, ?_⟩
                    refine .sref _ _ _ _ _ rfl y hx1 hx2 (fun _ _ => ⟨cap - l, cells, tt, fr, ?_, by omega, by omega, e4, ?_⟩)
                    · congr 1
                      split
                      · rename_i hcl
                        have : l = 0 := by omega
                        subst this
                        rfl
                      · simp [add_zero, hk.2.1, Nat.add_mul]
                    · rw [show off + l + (cap - l) = off + cap by omega]; exact e5
                  · rename_i hcase
                    cases hr
                    refine ⟨_, by simp [Instr.sliceAt, run_underlying hu, Instr.slice, hb, run_sizeOf hti]; rfl, .pure ?_⟩
                    have : h - l = 0 := by omega
                    rw [this]
                    exact .slc false [] _ _ 0 [] (fun h => by cases h) (Nat.zero_le _) (fun e he => by simp at he) (fun h => absurd rfl h) rfl (fun _ _ _ h => by simp at h)
                · cases hr
              · split at hr
                · rename_i m hm
                  split at hr
                  · rename_i hc
                    have hb := bounds_ok (P := P) w true (len := len) (cap := cap) hlo hhi hmx hl hh (m := m) (boundOf_some hm rfl) hc.1 hc.2.1 (by omega) (fun _ => hc.2.2.2)
                    split at hr
                    · rename_i hml
                      cases hr
                      subst hml
                      refine ⟨_, by simp [Instr.sliceAt, run_underlying hu, Instr.slice, hb, run_sizeOf hti]; rfl, .pure ?_⟩
                      have : h - m = 0 := by omega
                      rw [this]
                      exact .slc true [] _ _ 0 [] (fun _ => by simp) (Nat.zero_le _) (fun e he => by simp at he) (fun h => absurd rfl h) rfl (fun _ _ _ h => by simp at h)
                    · cases hr
                      exact ⟨_, by simp [Instr.sliceAt, run_underlying hu, Instr.slice, hb, run_sizeOf hti]; rfl, .pure (.undef _)⟩
                  · cases hr
                · cases hr
            · cases hr
          · cases hr
        · cases hr
      · cases hr
    · cases hr


theorem toList_str (s : List UInt8) : (⟨s.toArray⟩ : ByteArray).toList = s := by rw [ByteArray.toList_eq]

theorem aEqF_ok (w : World) (D : Nat) {eq : TypeId → AV → AV → Option Bool} (heq : ∀ t a b r x y, eq t a b = some r → V c a x → V c b y → (Op.equalIn D t x y).run P w = .ok r w)
    {xs ys : List AV} {us vs : List Value} (hl1 : xs.length = us.length) (hc1 : ∀ a ∈ xs, a.okC = true) (hp1 : ∀ (i : Nat) a u, xs[i]? = some a → us[i]? = some u → V c a u)
    (hl2 : ys.length = vs.length) (hc2 : ∀ a ∈ ys, a.okC = true) (hp2 : ∀ (i : Nat) a u, ys[i]? = some a → vs[i]? = some u → V c a u) :
    ∀ (fs : List Field) (r : Bool), aEqF P eq xs ys fs = some r → (Op.eqFields D us.toArray vs.toArray fs).run P w = .ok r w
  | [], r, h => by simp [aEqF] at h; subst h; simp [Op.eqFields]
  | f :: fs, r, h => by
    simp only [aEqF] at h
    split at h
    · rename_i hn
      have ih := aEqF_ok w D heq hl1 hc1 hp1 hl2 hc2 hp2 fs r h
      simp [Op.eqFields, hn, ih]
    · rename_i hn
      split at h
      · rename_i a ha
        split at h
        · rename_i b hb
          split at h
          · rename_i r1 hr1
            split at h
            · rename_i r2 hr2
              cases h
              obtain ⟨x, hx1, hx2⟩ := part_ok w hl1 hc1 hp1 ha
              obtain ⟨y, hy1, hy2⟩ := part_ok w hl2 hc2 hp2 hb
              have ih := aEqF_ok w D heq hl1 hc1 hp1 hl2 hc2 hp2 fs r2 hr2
              have he := heq _ _ _ _ _ _ hr1 hx2 hy2
              cases r1 <;> simp [Op.eqFields, hn, hx1, hy1, he, ih]
            · cases h
          · cases h
        · cases h
      · cases h

theorem aEqN_ok (w : World) (D : Nat) {eq : TypeId → AV → AV → Option Bool} (heq : ∀ t a b r x y, eq t a b = some r → V c a x → V c b y → (Op.equalIn D t x y).run P w = .ok r w)
    {xs ys : List AV} {us vs : List Value} (hl1 : xs.length = us.length) (hc1 : ∀ a ∈ xs, a.okC = true) (hp1 : ∀ (i : Nat) a u, xs[i]? = some a → us[i]? = some u → V c a u)
    (hl2 : ys.length = vs.length) (hc2 : ∀ a ∈ ys, a.okC = true) (hp2 : ∀ (i : Nat) a u, ys[i]? = some a → vs[i]? = some u → V c a u) (e : TypeId) :
    ∀ (n k : Nat) (r : Bool), aEqN P eq xs ys e n k = some r → (Op.eqItems D e (P.cellsOf e) us.toArray vs.toArray (List.range' k n)).run P w = .ok r w
  | 0, k, r, h => by simp [aEqN] at h; subst h; simp [Op.eqItems]
  | n + 1, k, r, h => by
    simp only [aEqN] at h
    split at h
    · rename_i a ha
      split at h
      · rename_i b hb
        split at h
        · rename_i r1 hr1
          split at h
          · rename_i r2 hr2
            cases h
            obtain ⟨x, hx1, hx2⟩ := part_ok w hl1 hc1 hp1 ha
            obtain ⟨y, hy1, hy2⟩ := part_ok w hl2 hc2 hp2 hb
            have ih := aEqN_ok w D heq hl1 hc1 hp1 hl2 hc2 hp2 e n (k + 1) r2 hr2
            have he := heq _ _ _ _ _ _ hr1 hx2 hy2
            cases r1 <;> simp [Op.eqItems, List.range'_succ, hx1, hy1, he, ih]
          · cases h
        · cases h
      · cases h
    · cases h

theorem aEq_ok (w : World) : ∀ (d : Nat) (D : Nat) (t : TypeId) (a b : AV) (r : Bool) (x y : Value), aEq P d t a b = some r → V c a x → V c b y → (Op.equalIn (d + D) t x y).run P w = .ok r w
  | 0, D, t, a, b, r, x, y, h, _, _ => by simp [aEq] at h
  | d + 1, D, t, a, b, r, x, y, h, hx, hy => by
    have ih := aEq_ok w d D
    rw [show d + 1 + D = (d + D) + 1 by omega]
    simp only [aEq] at h
    split at h
    · rename_i hu
      split at h
      · cases h
        rw [hx.bool_inv, hy.bool_inv]
        exact run_equalIn_bool w _ t _ _ hu
      · cases h
    · rename_i hu
      split at h
      · split at h
        · rename_i hk
          cases h
          subst hk
          rw [hx.int_inv, hy.int_inv]
          rw [run_equalIn_int (P := P) w (d + D) t _ _ _ _ hu]
          rfl
        · cases h
      · cases h
    · rename_i hu
      split at h
      · cases h
        rw [hx.str_inv, hy.str_inv, run_equalIn_string w _ t _ _ hu, toList_str, toList_str]
        congr 1
        rw [Bool.eq_iff_iff]; simp
      · cases h
    · rename_i hu
      split at h
      · cases h; rw [hx.inil_inv, hy.inil_inv]; simp [Op.equalIn, run_underlying hu]
      · cases h; obtain ⟨u, rfl, _⟩ := hy.iface_inv; rw [hx.inil_inv]; simp [Op.equalIn, run_underlying hu]
      · cases h; obtain ⟨u, rfl, _⟩ := hx.iface_inv; rw [hy.inil_inv]; simp [Op.equalIn, run_underlying hu]
      · cases h
    · rename_i fs hu
      split at h
      · split at h
        · cases h
        · rename_i hst
          obtain ⟨us, rfl, hl1, hc1, hp1⟩ := hx.agg_inv
          obtain ⟨vs, rfl, hl2, hc2, hp2⟩ := hy.agg_inv
          have hf : P.fieldsOf t = fs := by simp [Program.fieldsOf, hu]
          have := run_equalIn_struct (P := P) w (d + D) t us.toArray vs.toArray (by rw [hf]; exact hu) (by simpa using hst)
          rw [this, hf]
          exact aEqF_ok w (d + D) ih hl1 hc1 hp1 hl2 hc2 hp2 _ _ h
      · cases h
    · rename_i n e hu
      split at h
      · rename_i xs ys
        obtain ⟨us, rfl, hl1, hc1, hp1⟩ := hx.agg_inv
        obtain ⟨vs, rfl, hl2, hc2, hp2⟩ := hy.agg_inv
        split at h
        · cases h
        · rename_i hne
          obtain ⟨i, hi⟩ := info_of_cells hne
          have := run_equalIn_array (P := P) w (d + D) us.toArray vs.toArray hu hi
          rw [this, List.range_eq_range']
          exact aEqN_ok w (d + D) ih hl1 hc1 hp1 hl2 hc2 hp2 e _ _ _ h
      · cases h
    · cases h


theorem eq_val (w : World) {t : TypeId} {a b : AV} {r : Bool} {x y : Value} (h : aEq P 20 t a b = some r) (hx : V c a x) (hy : V c b y) :
    (Op.equal t x y).run P w = .ok r w := by
  have := aEq_ok w 20 9980 t a b r x y h hx hy
  exact this

theorem eqGuard_ok (w : World) {op : BinOp} {t : TypeId} {ox oy : Operand} {a b : AV} {x y : Value} (h : eqFree P t ox oy a b = true) (hx : V c a x) (hy : V c b y) :
    (eqGuard op t ox oy x y).run P w = .ok () w := by
  unfold eqFree at h
  split at h
  · rw [hx.inil_inv, hy.inil_inv]
    rcases ox with _ | _ | _ | _ <;> rcases oy with _ | _ | _ | _ <;> simp [isConstO] at h <;> cases op <;> simp [eqGuard]
  · obtain ⟨us, rfl, _⟩ := hx.agg_inv
    obtain ⟨vs, rfl, _⟩ := hy.agg_inv
    have h' : P.eqGuardType P.depth t = false := by simpa using h
    cases op <;> simp [eqGuard, h']
  · obtain ⟨u, rfl, _⟩ := hy.iface_inv; rw [hx.inil_inv]; cases op <;> simp [eqGuard]
  · obtain ⟨u, rfl, _⟩ := hx.iface_inv; rw [hy.inil_inv]; cases op <;> simp [eqGuard]
  · rw [hx.int_inv, hy.int_inv]; cases op <;> simp [eqGuard]
  · rw [hx.str_inv, hy.str_inv]; cases op <;> simp [eqGuard]
  · rw [hx.bool_inv, hy.bool_inv]; cases op <;> simp [eqGuard]
  · cases h

theorem ints_ok (w : World) {op : BinOp} {t : TypeId} {k : IntKind} {m n : Int} {r : AV} (h : aInts op k m n = some r) :
    ∃ v, (binOp op t (.int k m) (.int k n)).run P w = .ok v w ∧ V c r v := by
  cases op <;> simp only [aInts] at h
  case add => cases h; exact ⟨_, by simp [binOp, Op.intArith], .pure (.int _ _)⟩
  case sub => cases h; exact ⟨_, by simp [binOp, Op.intArith], .pure (.int _ _)⟩
  case mul => cases h; exact ⟨_, by simp [binOp, Op.intArith], .pure (.int _ _)⟩
  case quo =>
    split at h
    · cases h
    · rename_i hn; cases h; exact ⟨_, by simp [binOp, Op.intDiv, hn], .pure (.int _ _)⟩
  case rem =>
    split at h
    · cases h
    · rename_i hn; cases h; exact ⟨_, by simp [binOp, Op.intDiv, hn], .pure (.int _ _)⟩
  case and => cases h; exact ⟨.int k _, by simp only [binOp, Op.intBits, if_neg (fun h : k ≠ k => h rfl)]; rfl, .pure (.int _ _)⟩
  case or => cases h; exact ⟨.int k _, by simp only [binOp, Op.intBits, if_neg (fun h : k ≠ k => h rfl)]; rfl, .pure (.int _ _)⟩
  case xor => cases h; exact ⟨.int k _, by simp only [binOp, Op.intBits, if_neg (fun h : k ≠ k => h rfl)]; rfl, .pure (.int _ _)⟩
  case andNot => cases h; exact ⟨.int k _, by simp only [binOp, Op.intBits, if_neg (fun h : k ≠ k => h rfl)]; rfl, .pure (.int _ _)⟩
  case eql => cases h; exact ⟨.bool (decide (m = n)), by simp only [binOp, Op.intCmp, if_neg (fun h : k ≠ k => h rfl)]; rfl, .pure (.bool _)⟩
  case neq => cases h; exact ⟨.bool (!decide (m = n)), by simp only [binOp, Op.intCmp, if_neg (fun h : k ≠ k => h rfl)]; rfl, .pure (.bool _)⟩
  case lss => cases h; exact ⟨.bool (decide (m < n)), by simp only [binOp, Op.intCmp, if_neg (fun h : k ≠ k => h rfl)]; rfl, .pure (.bool _)⟩
  case leq => cases h; exact ⟨.bool (decide (m ≤ n)), by simp only [binOp, Op.intCmp, if_neg (fun h : k ≠ k => h rfl)]; rfl, .pure (.bool _)⟩
  case gtr => cases h; exact ⟨.bool (decide (n < m)), by simp only [binOp, Op.intCmp, if_neg (fun h : k ≠ k => h rfl)]; rfl, .pure (.bool _)⟩
  case geq => cases h; exact ⟨.bool (decide (n ≤ m)), by simp only [binOp, Op.intCmp, if_neg (fun h : k ≠ k => h rfl)]; rfl, .pure (.bool _)⟩
  all_goals cases h

theorem append_str (s u : List UInt8) : (⟨s.toArray⟩ : ByteArray) ++ ⟨u.toArray⟩ = ⟨(s ++ u).toArray⟩ := by
  apply ByteArray.ext
  simp [ByteArray.data_append]

theorem run_eql_any (w : World) {t : TypeId} {x y : Value} {r : Bool} (h : (Op.equal t x y).run P w = .ok r w)
    (hx : (∀ k n, x ≠ .int k n) ∧ (∀ s, x ≠ .string s) ∧ (∀ k n, x ≠ .float k n) ∧ (∀ k n m, x ≠ .complex k n m)) :
    (binOp .eql t x y).run P w = .ok (.bool r) w ∧ (binOp .neq t x y).run P w = .ok (.bool (!r)) w := by
  obtain ⟨h1, h2, h3, h4⟩ := hx
  constructor <;> (cases x <;> first | (exact absurd rfl (h1 _ _)) | (exact absurd rfl (h2 _)) | (exact absurd rfl (h3 _ _)) | (exact absurd rfl (h4 _ _ _)) | (simp [binOp, h]))

theorem aEq_shape {d : Nat} {t : TypeId} {a b : AV} {r : Bool} (h : aEq P d t a b = some r) :
    (∃ b, a = .bool b) ∨ (∃ k n, a = .int k n) ∨ (∃ s, a = .str s) ∨ a = .inil ∨ (∃ t v, a = .iface t v) ∨ ∃ cs, a = .agg cs := by
  cases d with
  | zero => simp [aEq] at h
  | succ d =>
    simp only [aEq] at h
    cases a <;> simp
    all_goals (repeat' split at h) <;> simp_all

theorem bin_ok (w : World) {op : BinOp} {t : TypeId} {a b r : AV} {x y : Value} (hx : V c a x) (hy : V c b y) (h : aBin P op t a b = some r) :
    ∃ v, (binOp op t x y).run P w = .ok v w ∧ V c r v := by
  unfold aBin at h
  split at h
  · rename_i k m k' n
    rw [hx.int_inv, hy.int_inv]
    split at h
    · split at h
      · cases h
      · rename_i hn
        cases h
        exact ⟨_, by simp [binOp, Op.shift, hn], .pure (.int _ _)⟩
    · split at h
      · cases h
      · rename_i hn
        cases h
        exact ⟨_, by simp [binOp, Op.shift, hn], .pure (.int _ _)⟩
    · split at h
      · rename_i hk
        subst hk
        exact ints_ok w h
      · cases h
  · rename_i s u
    rw [hx.str_inv, hy.str_inv]
    split at h
    · split at h
      · rename_i hlen
        cases h
        refine ⟨.string ⟨(s ++ u).toArray⟩, ?_, .pure (.str _)⟩
        have h1 : ¬ (((⟨s.toArray⟩ : ByteArray).size + (⟨u.toArray⟩ : ByteArray).size : Nat) : Int) > IntKind.i64.max := by
          simp [ByteArray.size, IntKind.max, IntKind.signed, IntKind.bits]; omega
        simp only [binOp, Op.stringOp, h1, if_false, append_str]
        rfl
      · cases h
    · cases h
      refine ⟨.bool (decide (s = u)), ?_, .pure (.bool _)⟩
      simp only [binOp, Op.stringOp, toList_str]
      rw [show (s == u) = decide (s = u) by rw [Bool.eq_iff_iff]; simp]
      rfl
    · cases h
      refine ⟨.bool (!decide (s = u)), ?_, .pure (.bool _)⟩
      simp only [binOp, Op.stringOp, toList_str]
      rw [show (s == u) = decide (s = u) by rw [Bool.eq_iff_iff]; simp]
      rfl
    · cases h
  · rename_i hni hns
    have hxs : ∀ d r', aEq P d t a b = some r' → (∀ k n, x ≠ .int k n) ∧ (∀ s, x ≠ .string s) ∧ (∀ k n, x ≠ .float k n) ∧ (∀ k n m, x ≠ .complex k n m) := by
      intro d r' hr
      rcases aEq_shape hr with ⟨_, rfl⟩ | ⟨k, n, rfl⟩ | ⟨s, rfl⟩ | rfl | ⟨_, _, rfl⟩ | ⟨_, rfl⟩
      · rw [hx.bool_inv]; simp
      · exfalso
        cases d with
        | zero => simp [aEq] at hr
        | succ d =>
          simp only [aEq] at hr
          cases b <;> first | exact hni _ _ _ _ rfl rfl | ((repeat' split at hr) <;> simp_all)
      · exfalso
        cases d with
        | zero => simp [aEq] at hr
        | succ d =>
          simp only [aEq] at hr
          cases b <;> first | exact hns _ _ rfl rfl | ((repeat' split at hr) <;> simp_all)
      · rw [hx.inil_inv]; simp
      · obtain ⟨u, rfl, _⟩ := hx.iface_inv; simp
      · obtain ⟨u, rfl, _⟩ := hx.agg_inv; simp
    split at h
    · split at h
      · rename_i r' hr
        cases h
        exact ⟨_, (run_eql_any w (eq_val (c := c) w hr hx hy) (hxs _ _ hr)).1, .pure (.bool _)⟩
      · cases h
    · split at h
      · rename_i r' hr
        cases h
        exact ⟨_, (run_eql_any w (eq_val (c := c) w hr hx hy) (hxs _ _ hr)).2, .pure (.bool _)⟩
      · cases h
    · cases h


theorem nil_const {op : BinOp} {t : TypeId} {y : Operand} {x v : AV} (h : aNil P op t y x = some v) : y = .const (.slice none 0 0) := by
  unfold aNil at h
  split at h
  · rfl
  · cases h

theorem run_equalIn_nilS (w : World) (d : Nat) {t e : TypeId} {g : Addr} {n cap : Nat} (hu : P.underlying t = some (.slice e)) :
    (Op.equalIn (d + 1) t (.slice (some g) n cap) (.slice none 0 0)).run P w = .ok false w := by
  simp [Op.equalIn, run_underlying hu]

theorem slc_some {w : World} {F : Nat → Prop} {x : Bool} {e : AV} {es : List AV} {v : Value} (h : PV w F (.slc x (e :: es)) v) : ∃ g n cap, v = .slice (some g) n cap := by
  cases h with
  | slc _ _ a cap sz vals _ _ _ ha =>
    obtain ⟨b, o, rfl, _⟩ := ha (by simp)
    exact ⟨_, _, _, rfl⟩

theorem nil_ok (w : World) {op : BinOp} {t : TypeId} {x y : Operand} {a r : AV} {v : Value} (ha : V c a v) (h : aNil P op t y a = some r) :
    ∃ u, (do eqGuard op t x (.const (.slice none 0 0)) v (.slice none 0 0); binOp op t v (.slice none 0 0)).run P w = .ok u w ∧ V c r u := by
  unfold aNil at h
  split at h
  · split at h
    · rename_i e' hu
      split at h
      · obtain ⟨g, n, cap, rfl⟩ := slc_some ha.slc_inv
        have he : (Op.equal t (.slice (some g) n cap) (.slice none 0 0)).run P w = .ok false w := by
          exact run_equalIn_nilS w 9999 hu
        have hxs : (∀ k m, (Value.slice (some g) n cap) ≠ .int k m) ∧ (∀ s, (Value.slice (some g) n cap) ≠ .string s) ∧ (∀ k m, (Value.slice (some g) n cap) ≠ .float k m) ∧ (∀ k m l, (Value.slice (some g) n cap) ≠ .complex k m l) := by simp
        split at h
        · cases h
          refine ⟨.bool false, ?_, .pure (.bool _)⟩
          have := (run_eql_any w he hxs).1
          simpa [eqGuard] using this
        · cases h
          refine ⟨.bool true, ?_, .pure (.bool _)⟩
          have := (run_eql_any w he hxs).2
          simpa [eqGuard] using this
        · cases h
      · cases h
    · cases h
  · cases h

theorem un_ok (w : World) {op : UnOp} {a r : AV} {x : Value} (hx : V c a x) (h : aUn op a = some r) : ∃ v, (Op.unary op x).run P w = .ok v w ∧ V c r v := by
  unfold aUn at h
  split at h
  · cases h; rw [hx.bool_inv]; exact ⟨_, by simp [Op.unary], .pure (.bool _)⟩
  · rename_i k n
    cases h; rw [hx.int_inv]; exact ⟨.int k (k.wrap (0 - n)), by simp [Op.unary, Op.intArith], .pure (.int _ _)⟩
  · rename_i k n
    cases h; rw [hx.int_inv]; exact ⟨.int k _, by simp only [Op.unary, Op.intBits]; rfl, .pure (.int _ _)⟩
  · cases h

theorem len_ok (w : World) {t ty : TypeId} {x r : AV} {val : Value} {ts : List TypeId} {vs : List Value} (hx : V c x val) (h : aLen P c.S t x = some r) :
    ∃ v, (Builtin.len_ (t :: ts).toArray ty (val :: vs).toArray).run P w = .ok v w ∧ V c r v := by
  unfold aLen at h
  split at h
  · rename_i hu
    split at h
    · rename_i s
      cases h
      rw [hx.str_inv]
      have hsz : (⟨s.toArray⟩ : ByteArray).size = s.length := by simp [ByteArray.size]
      exact ⟨.int .i64 s.length, by simp only [Builtin.len_]; simp [run_underlying hu, goInt, hsz], .pure (.int _ _)⟩
    · cases h
  · rename_i hu
    split at h
    · rename_i cc es
      cases h
      obtain ⟨a, n, cap, rfl, hn⟩ : ∃ a n cap, val = .slice a n cap ∧ n = es.length := by
        have := hx.slc_inv; cases this; exact ⟨_, _, _, rfl, rfl⟩
      exact ⟨_, by simp [Builtin.len_, run_underlying hu, goInt]; rfl, by rw [hn]; exact .pure (.int _ _)⟩
    · rename_i b v off len
      split at h
      · rename_i es hes
        cases h
        unfold rowAt at hes
        split at hes
        · rename_i y hy
          split at hes
          · rename_i hk
            obtain ⟨h1, h2, h3⟩ := ldBlk_some hy
            obtain ⟨x, hx1, hx2, hx3⟩ := hx.sref_inv
            have : y = x := Option.some.inj (h1.symm.trans hx1)
            subst this
            obtain ⟨cap, cells, tt, fr, rfl, e2, e3, e4, e5⟩ := hx3 h2.symm hk.1
            exact ⟨_, by simp [Builtin.len_, run_underlying hu, goInt], .pure (.int _ _)⟩
          · cases hes
        · cases hes
      · cases h
    · cases h
  · rename_i n e hu
    cases h
    exact ⟨.int .i64 n, by simp [Builtin.len_, run_underlying hu, goInt], .pure (.int _ _)⟩
  · cases h

theorem min_ok (w : World) : ∀ {as : List AV} {vs : List Value} {a r : AV} {x : Value} (_ : aMin a as = some r) (_ : V c a x) (_ : as.length = vs.length) (_ : ∀ (i : Nat) a u, as[i]? = some a → vs[i]? = some u → V c a u),
    ∃ v, (vs.foldlM Builtin.min2 x).run P w = .ok v w ∧ V c r v
  | [], [], a, r, x, h, hx, _, _ => by simp [aMin] at h; subst h; exact ⟨x, by simp, hx⟩
  | b :: as, u :: vs, a, r, x, h, hx, hl, hp => by
    cases a <;> cases b <;> simp only [aMin] at h <;> first | cases h | skip
    split at h
    · rename_i k m k' n hk
      rw [hx.int_inv]
      have hu := hp 0 _ _ rfl rfl
      rw [hu.int_inv]
      obtain ⟨v, h1, h2⟩ := min_ok w (as := as) (vs := vs) h (x := .int k (if n < m then n else m)) (.pure (.int _ _)) (by simpa using hl) (fun i a u h1 h2 => hp (i + 1) a u (by simpa using h1) (by simpa using h2))
      exact ⟨v, by simp [List.foldlM, Builtin.min2, h1], h2⟩
    · cases h
  | [], _ :: _, _, _, _, _, _, hl, _ => by simp at hl
  | _ :: _, [], _, _, _, _, _, hl, _ => by simp at hl

theorem max_ok (w : World) : ∀ {as : List AV} {vs : List Value} {a r : AV} {x : Value} (_ : aMax a as = some r) (_ : V c a x) (_ : as.length = vs.length) (_ : ∀ (i : Nat) a u, as[i]? = some a → vs[i]? = some u → V c a u),
    ∃ v, (vs.foldlM Builtin.max2 x).run P w = .ok v w ∧ V c r v
  | [], [], a, r, x, h, hx, _, _ => by simp [aMax] at h; subst h; exact ⟨x, by simp, hx⟩
  | b :: as, u :: vs, a, r, x, h, hx, hl, hp => by
    cases a <;> cases b <;> simp only [aMax] at h <;> first | cases h | skip
    split at h
    · rename_i k m k' n hk
      rw [hx.int_inv]
      have hu := hp 0 _ _ rfl rfl
      rw [hu.int_inv]
      obtain ⟨v, h1, h2⟩ := max_ok w (as := as) (vs := vs) h (x := .int k (if n > m then n else m)) (.pure (.int _ _)) (by simpa using hl) (fun i a u h1 h2 => hp (i + 1) a u (by simpa using h1) (by simpa using h2))
      exact ⟨v, by simp [List.foldlM, Builtin.max2, h1], h2⟩
    · cases h
  | [], _ :: _, _, _, _, _, _, hl, _ => by simp at hl
  | _ :: _, [], _, _, _, _, _, hl, _ => by simp at hl

/-- A value out of the program's tables. -/
theorem ofCell_V (v : Value) : PV c.w c.F (ofCell v) v := by
  unfold ofCell
  split
  · exact .bool _
  · exact .int _ _
  · rename_i s; exact .str s.data.toList
  · exact .pnil
  · exact .slc true [] none 0 0 [] (fun _ => rfl) (Nat.le_refl _) (fun e he => by simp at he) (fun h => absurd rfl h) rfl (fun _ _ _ h => by simp at h)
  · exact .fnil
  · exact .inil
  · exact .undef _

theorem ofVal_V (v : Value) (h : (ofVal v).cells.all AV.okC = true) : PV c.w c.F (ofVal v) v := by
  unfold ofVal at *
  split
  · rename_i cs
    simp only [AV.cells] at h
    have := PV.agg (w := c.w) (F := c.F) (cs.toList.map ofCell) cs.toList (by simp) (fun a ha => List.all_eq_true.1 h a ha) (fun i a u h1 h2 => by
      rw [List.getElem?_map, h2] at h1
      cases h1
      exact ofCell_V u)
    simpa using this
  · exact ofCell_V v

theorem zeroOf_ok (w : World) {t : TypeId} {z : AV} (h : zeroOf P t = some z) : ∃ v, (zeroValue t).run P w = .ok v w ∧ PV c.w c.F z v ∧ z.cells.all AV.okC = true ∧ z.cells.length = P.cellsOf t := by
  unfold zeroOf at h
  split at h
  · rename_i i hi
    split at h
    · rename_i v hv
      split at h
      · rename_i hok
        cases h
        exact ⟨v, by simp [zeroValue, typeInfo, hi, hv], ofVal_V v hok.1, hok⟩
      · cases h
    · cases h
  · cases h

theorem assertI_ok (w : World) {x r : AV} {val : Value} {xT asserted : TypeId} {ok : Bool} {ms : Array (String × TypeId)} (hu : P.underlying asserted = some (.interface ms)) (hx : V c x val) (h : aAssertI P ms x asserted ok = some r) :
    ∃ v, (Instr.typeAssert val xT asserted ok).run P w = .ok v w ∧ V c r v := by
  have hpair : ∀ z, zeroOf P asserted = some z → ∃ v, (zeroValue asserted).run P w = .ok v w ∧ V c (.tup [z, .bool false]) (.tuple #[v, .bool false]) := by
    intro z hz
    obtain ⟨v, h1, h2, _⟩ := zeroOf_ok (c := c) w hz
    refine ⟨v, h1, .tup [z, .bool false] [v, .bool false] rfl (fun i a u h3 h4 => ?_)⟩
    match i with
    | 0 => simp at h3 h4; subst h3; subst h4; exact .pure h2
    | 1 => simp at h3 h4; subst h3; subst h4; exact .pure (.bool _)
    | i + 2 => simp at h3
  unfold aAssertI at h
  split at h
  · split at h
    · rename_i hok
      subst hok
      split at h
      · rename_i z hz
        cases h
        obtain ⟨v, h1, h2⟩ := hpair z hz
        rw [hx.inil_inv]
        exact ⟨_, by simp [Instr.typeAssert, run_underlying hu, h1], h2⟩
      · cases h
    · cases h
  · rename_i t a
    obtain ⟨u, rfl, hs, hu'⟩ := hx.iface_inv
    split at h
    · rename_i i hi
      split at h
      · rename_i hm
        split at h
        · rename_i hok
          subst hok
          cases h
          refine ⟨.tuple #[.iface t u, .bool true], ?_, .tup [.iface t a, .bool true] [.iface t u, .bool true] rfl (fun i a' u' h3 h4 => ?_)⟩
          · simp [Instr.typeAssert, run_underlying hu, typeInfo, hi, hm]
          · match i with
            | 0 => simp at h3 h4; subst h3; subst h4; exact hx
            | 1 => simp at h3 h4; subst h3; subst h4; exact .pure (.bool _)
            | i + 2 => simp at h3
        · rename_i hok
          cases h
          have : ok = false := by simpa using hok
          subst this
          exact ⟨.iface t u, by simp [Instr.typeAssert, run_underlying hu, typeInfo, hi, hm], hx⟩
      · rename_i m hm
        split at h
        · rename_i hok
          subst hok
          split at h
          · rename_i z hz
            cases h
            obtain ⟨v, h1, h2⟩ := hpair z hz
            exact ⟨_, by simp [Instr.typeAssert, run_underlying hu, typeInfo, hi, hm, h1], h2⟩
          · cases h
        · cases h
    · cases h
  · cases h

theorem assert_ok (w : World) {x r : AV} {val : Value} {xT asserted : TypeId} {ok : Bool} (hx : V c x val) (h : aAssert P x asserted ok = some r) :
    ∃ v, (Instr.typeAssert val xT asserted ok).run P w = .ok v w ∧ V c r v := by
  unfold aAssert at h
  split at h
  · rename_i ms hu
    exact assertI_ok w hu hx h
  · rename_i d hni hu
    have hpair : ∀ z, zeroOf P asserted = some z → ∃ v, (zeroValue asserted).run P w = .ok v w ∧ V c (.tup [z, .bool false]) (.tuple #[v, .bool false]) := by
      intro z hz
      obtain ⟨v, h1, h2, _⟩ := zeroOf_ok (c := c) w hz
      refine ⟨v, h1, .tup [z, .bool false] [v, .bool false] rfl (fun i a u h3 h4 => ?_)⟩
      match i with
      | 0 => simp at h3 h4; subst h3; subst h4; exact .pure h2
      | 1 => simp at h3 h4; subst h3; subst h4; exact .pure (.bool _)
      | i + 2 => simp at h3
    split at h
    · split at h
      · rename_i hok
        subst hok
        split at h
        · rename_i z hz
          cases h
          obtain ⟨v, h1, h2⟩ := hpair z hz
          rw [hx.inil_inv]
          refine ⟨_, ?_, h2⟩
          cases d <;> first | exact absurd rfl (hni _) | simp [Instr.typeAssert, run_underlying hu, h1]
        · cases h
      · cases h
    · rename_i t a
      obtain ⟨u, rfl, hs, hu'⟩ := hx.iface_inv
      split at h
      · rename_i ht
        subst ht
        split at h
        · rename_i hok
          subst hok
          cases h
          refine ⟨.tuple #[u, .bool true], ?_, .tup [a, .bool true] [u, .bool true] rfl (fun i a' u' h3 h4 => ?_)⟩
          · cases d <;> first | exact absurd rfl (hni _) | simp [Instr.typeAssert, run_underlying hu]
          · match i with
            | 0 => simp at h3 h4; subst h3; subst h4; exact .pure hu'
            | 1 => simp at h3 h4; subst h3; subst h4; exact .pure (.bool _)
            | i + 2 => simp at h3
        · rename_i hok
          cases h
          refine ⟨u, ?_, .pure hu'⟩
          have : ok = false := by simpa using hok
          subst this
          cases d <;> first | exact absurd rfl (hni _) | simp [Instr.typeAssert, run_underlying hu]
      · rename_i ht
        split at h
        · rename_i hok
          subst hok
          split at h
          · rename_i z hz
            cases h
            obtain ⟨v, h1, h2⟩ := hpair z hz
            refine ⟨_, ?_, h2⟩
            cases d <;> first | exact absurd rfl (hni _) | simp [Instr.typeAssert, run_underlying hu, h1, ht]
          · cases h
        · cases h
    · cases h
  · cases h

end
end Go.Ab
/- What is built, and what changes memory. -/
namespace Go.Ab
open Go

section
variable {P : Program} {w0 : World} {G X Lo : Nat → Prop} {c : Cx}

/-- Values, one for each. -/
def VL (c : Cx) (as : List AV) (vs : List Value) : Prop := as.length = vs.length ∧ ∀ (i : Nat) a v, as[i]? = some a → vs[i]? = some v → V c a v

theorem VL.nil : VL c [] [] := ⟨rfl, fun _ _ _ h => by simp at h⟩
theorem VL.cons {a : AV} {v : Value} {as : List AV} {vs : List Value} (h : V c a v) (hs : VL c as vs) : VL c (a :: as) (v :: vs) :=
  ⟨by simp [hs.1], fun i x u h1 h2 => by
    cases i with
    | zero => simp at h1 h2; subst h1; subst h2; exact h
    | succ i => exact hs.2 i x u (by simpa using h1) (by simpa using h2)⟩
theorem VL.of_cons {a : AV} {as : List AV} {vs : List Value} (h : VL c (a :: as) vs) : ∃ v r, vs = v :: r ∧ V c a v ∧ VL c as r := by
  cases vs with
  | nil => have := h.1; simp at this
  | cons v r => exact ⟨v, r, rfl, h.2 0 _ _ rfl rfl, by have := h.1; simpa using this, fun i x u h1 h2 => h.2 (i + 1) x u (by simpa using h1) (by simpa using h2)⟩
theorem VL.append {as bs : List AV} {us vs : List Value} (h : VL c as us) (h' : VL c bs vs) : VL c (as ++ bs) (us ++ vs) := by
  refine ⟨by simp [h.1, h'.1], fun i a v h1 h2 => ?_⟩
  by_cases hi : i < as.length
  · rw [List.getElem?_append_left hi] at h1
    rw [List.getElem?_append_left (by have := h.1; omega)] at h2
    exact h.2 i a v h1 h2
  · rw [List.getElem?_append_right (by omega)] at h1
    rw [List.getElem?_append_right (by have := h.1; omega), ← h.1] at h2
    exact h'.2 _ a v h1 h2
theorem VL.take {as : List AV} {us : List Value} (h : VL c as us) (n : Nat) : VL c (as.take n) (us.take n) := by
  refine ⟨by simp [h.1], fun i a v h1 h2 => ?_⟩
  rw [List.getElem?_take] at h1 h2
  split at h1
  · rename_i hi; rw [if_pos hi] at h2; exact h.2 i a v h1 h2
  · cases h1
theorem VL.drop {as : List AV} {us : List Value} (h : VL c as us) (n : Nat) : VL c (as.drop n) (us.drop n) := by
  refine ⟨by simp [h.1], fun i a v h1 h2 => ?_⟩
  rw [List.getElem?_drop] at h1 h2
  exact h.2 _ a v h1 h2
theorem VL.mono {c' : Cx} (L : Le c c') {as : List AV} {us : List Value} (h : VL c as us) : VL c' as us := ⟨h.1, fun i a v h1 h2 => (h.2 i a v h1 h2).mono L⟩

theorem set_run (off : Nat) : ∀ (vs cs : List Value) (k : Nat), off + k + vs.length ≤ cs.length →
    (vs.zipIdx k).foldl (fun (cs : Array Value) (x : Value × Nat) => cs.setIfInBounds (off + x.2) x.1) cs.toArray = (cs.take (off + k) ++ vs ++ cs.drop (off + k + vs.length)).toArray
  | [], cs, k, _ => by simp
  | v :: vs, cs, k, h => by
    have hlen : off + k < cs.length := by simp at h; omega
    simp only [List.zipIdx_cons, List.foldl_cons]
    have : cs.toArray.setIfInBounds (off + k) v = (cs.set (off + k) v).toArray := by simp
    rw [this, set_run off vs (cs.set (off + k) v) (k + 1) (by simp at h ⊢; omega)]
    congr 1
    have e := list_seg_step cs (off + k) v vs (by simp at h ⊢; omega)
    simpa [Nat.add_assoc] using e

theorem splice_eq {as : List AV} {off : Nat} {xs r : List AV} (h : splice as off xs = some r) : off + xs.length ≤ as.length ∧ r = as.take off ++ (xs ++ as.drop (off + xs.length)) := by
  unfold splice at h
  split at h
  · rename_i hle; cases h; exact ⟨hle, rfl⟩
  · cases h

theorem fill_ok {place : Nat → Option (Nat × Nat)} : ∀ {parts : List (Nat × AV)} {vparts : List (Nat × Value)} {as r : List AV} {vs : List Value},
    fillC place as parts = some r → VL c as vs → (∀ a ∈ as, a.okC = true) → parts.map (·.1) = vparts.map (·.1) → VL c (parts.map (·.2)) (vparts.map (·.2)) →
    ∃ us : List Value, Instr.fill place vs.toArray vparts = some us.toArray ∧ VL c r us ∧ ∀ a ∈ r, a.okC = true
  | [], [], as, r, vs, h, hv, ho, _, _ => by simp [fillC] at h; subst h; exact ⟨vs, by simp [Instr.fill], hv, ho⟩
  | (i, a) :: parts, (j, v) :: vparts, as, r, vs, h, hv, ho, hi, hp => by
    simp at hi
    obtain ⟨rfl, hi⟩ := hi
    obtain ⟨v', r', he, hav, hp'⟩ := VL.of_cons hp
    simp at he
    obtain ⟨rfl, rfl⟩ := he
    simp only [fillC] at h
    split at h
    · cases h
    · rename_i off size hpl
      split at h
      · rename_i hc
        split at h
        · rename_i as' hs
          obtain ⟨hle, rfl⟩ := splice_eq hs
          obtain ⟨cs, e1, e2, e3, e4⟩ := hav.cells hc.2
          have hlen : off + cs.length ≤ vs.length := by rw [← e2, ← hv.1]; exact hle
          have hcell : VL c a.cells cs := ⟨e2, e4⟩
          have hnew : VL c (as.take off ++ (a.cells ++ as.drop (off + a.cells.length))) (vs.take off ++ (cs ++ vs.drop (off + cs.length))) := by
            rw [e2]
            exact (hv.take off).append (hcell.append (hv.drop _))
          obtain ⟨us, g1, g2, g3⟩ := fill_ok (parts := parts) (vparts := vparts) h hnew (fun b hb => by
            rcases List.mem_append.1 hb with hb | hb
            · exact ho b (List.mem_of_mem_take hb)
            · rcases List.mem_append.1 hb with hb | hb
              · exact List.all_eq_true.1 hc.2 b hb
              · exact ho b (List.mem_of_mem_drop hb)) hi hp'
          refine ⟨us, ?_, g2, g3⟩
          have hset := set_run off cs vs 0 (by omega)
          simp only [Nat.add_zero] at hset
          have hsz : v.cells.size = size := by rw [e1]; simp [← e2, hc.1]
          have hb : ¬ (v.cells.size ≠ size ∨ off + v.cells.size > vs.toArray.size) := by
            simp only [hsz, ne_eq, not_true, false_or, List.size_toArray]
            rw [e1] at hsz
            simp at hsz
            omega
          simp only [Instr.fill, hpl]
          rw [if_neg (by simpa using hb)]
          have hz : (v.cells.zipIdx.foldl (fun (cs : Array Value) (x : Value × Nat) => cs.setIfInBounds (off + x.2) x.1) vs.toArray) = (vs.take off ++ (cs ++ vs.drop (off + cs.length))).toArray := by
            rw [e1, ← Array.foldl_toList, Array.toList_zipIdx]
            rw [hset, List.append_assoc]
          rw [← g1]
          congr 1
        · cases h
      · cases h
  | [], _ :: _, _, _, _, _, _, _, hi, _ => by simp at hi
  | _ :: _, [], _, _, _, _, _, _, hi, _ => by simp at hi


theorem parts_rel {ps : Array (Nat × Operand)} {ev : Operand → AV} {rv : Operand → Value} (hrel : ∀ x, V c (ev x) (rv x)) :
    (ps.toList.map fun x => (x.1, ev x.2)).map (·.1) = (ps.map fun (i, x) => (i, rv x)).toList.map (·.1) ∧
    VL c ((ps.toList.map fun x => (x.1, ev x.2)).map (·.2)) ((ps.map fun (i, x) => (i, rv x)).toList.map (·.2)) := by
  rw [Array.toList_map]
  induction ps.toList with
  | nil => exact ⟨rfl, VL.nil⟩
  | cons p r ih =>
    refine ⟨by simp [ih.1], ?_⟩
    simp only [List.map_cons]
    exact VL.cons (hrel p.2) ih.2

theorem build_ok (w : World) {t : TypeId} {ps : Array (Nat × Operand)} {ev : Operand → AV} {rv : Operand → Value} (hrel : ∀ x, V c (ev x) (rv x)) {v : AV} {ds : List (Nat × Blk)}
    (h : aBuild P t (ps.toList.map fun x => (x.1, ev x.2)) = some (.val v ds)) : ds = [] ∧ ∃ u, (Instr.build t (ps.map fun (i, x) => (i, rv x))).run P w = .ok u w ∧ V c v u := by
  obtain ⟨hp1, hp2⟩ := parts_rel (c := c) (ps := ps) hrel
  unfold aBuild at h
  split at h
  · rename_i z hz
    have hz0 := hz
    unfold zeroOf at hz0
    split at hz0
    · rename_i it hit
      split at hz0
      · rename_i zv hzv
        split at hz0
        · rename_i hok0
          have hok := hok0.1
          cases hz0
          have hzV : V c (ofVal zv) zv := .pure (ofVal_V zv hok)
          obtain ⟨cs, e1, e2, e3, e4⟩ := hzV.cells hok
          have hokm : ∀ a ∈ (ofVal zv).cells, a.okC = true := fun a ha => List.all_eq_true.1 hok a ha
          split at h
          · rename_i fs hu
            split at h
            · rename_i places hpl
              split at h
              · rename_i r hr
                cases h
                obtain ⟨us, g1, g2, g3⟩ := fill_ok hr ⟨e2, e4⟩ hokm hp1 hp2
                refine ⟨rfl, .agg us.toArray, run_build w t _ us.toArray ?_, .agg _ _ g2.1 g3 g2.2⟩
                unfold Program.built
                unfold placesOf at hpl
                simp only [hit, hu, hzv, hpl]
                rw [e1]
                exact g1
              · cases h
            · cases h
          · rename_i n e hu
            split at h
            · cases h
            · rename_i hne
              split at h
              · rename_i r hr
                cases h
                obtain ⟨ti, hti⟩ := info_of_cells hne
                have hsz : P.cellsOf e = ti.size := by simp [Program.cellsOf, hti]
                obtain ⟨us, g1, g2, g3⟩ := fill_ok hr ⟨e2, e4⟩ hokm hp1 hp2
                refine ⟨rfl, .agg us.toArray, run_build w t _ us.toArray ?_, .agg _ _ g2.1 g3 g2.2⟩
                unfold Program.built
                simp only [hit, hu, hzv, hti]
                rw [e1, ← hsz]
                exact g1
              · cases h
          · cases h
        · cases hz0
      · cases hz0
    · cases hz0
  · cases h

end
end Go.Ab
/- Values under other names. -/
namespace Go.Ab
open Go

/-- What a new name must stand for. -/
def NmOk (c c' : Cx) (b v : Nat) : Nm → Prop
  | .key b' v' => ∃ x, look c.S b = some x ∧ x.v = v ∧ ∃ x', look c'.S b' = some x' ∧ v' ≤ x'.v ∧
      (x'.v = v' → x'.k ≠ .dead → x'.k = x.k ∧ c'.R b' = c.R b ∧ x'.sz = x.sz ∧ (x.k = .row → x'.es.length = x.es.length) ∧
        ∀ cells t fr, c.w.heap[c.R b]? = some (.cells cells t fr) → ∃ cells' t' fr', c'.w.heap[c'.R b']? = some (.cells cells' t' fr') ∧ cells'.size = cells.size)
  | .row es => ∃ x, look c.S b = some x ∧ x.v = v ∧ x.k = .row ∧ x.es.length = es.length ∧ (∀ e ∈ es, e.cells.length = x.sz ∧ ∀ a ∈ e.cells, a.okC = true) ∧ c.R b < c'.w.heap.size ∧ ¬ c'.F (c.R b) ∧
      ∃ cells t fr, c'.w.heap[c.R b]? = some (.cells cells t fr) ∧ PContent c' (es.flatMap AV.cells) cells

structure Ren (c c' : Cx) (m : Nat → Nat → Option Nm) : Prop where
  size : c.w.heap.size ≤ c'.w.heap.size
  hF : ∀ b, b < c.w.heap.size → ¬ c.F b → ¬ c'.F b
  hw : ∀ b, b < c.w.heap.size → ¬ c.F b → c'.w.heap[b]? = c.w.heap[b]?
  nm : ∀ b v n, m b v = some n → NmOk c c' b v n

section
variable {c c' : Cx} {m : Nat → Nat → Option Nm}

theorem simpleC_V {a : AV} {v : Value} (hs : a.simpleC = true) {w w' : World} {F F' : Nat → Prop} (h : PV w F a v) : PV w' F' a v := by
  cases h <;> first | (cases hs; done) | constructor

theorem simple_V {a : AV} {v : Value} (hs : a.simple = true) {w w' : World} {F F' : Nat → Prop} (h : PV w F a v) : PV w' F' a v := by
  cases h with
  | agg cs vs hl hc h => exact .agg cs vs hl hc (fun i a v h1 h2 => simpleC_V (List.all_eq_true.1 hs a (List.mem_of_getElem? h1)) (h i a v h1 h2))
  | undef => cases hs
  | skp => cases hs
  | bool => exact .bool _
  | int => exact .int _ _
  | str => exact .str _
  | tup => cases hs
  | slc => cases hs
  | pnil => exact .pnil
  | fnil => exact .fnil
  | inil => exact .inil
  | fn => cases hs
  | iface => cases hs

theorem Ren.pv (h : Ren c c' m) {a : AV} {v : Value} (hp : PV c.w c.F a v) : PV c'.w c'.F a v := hp.mono h.size h.hF h.hw

theorem flat_take_get {es : List AV} {sz : Nat} (h : ∀ e ∈ es, e.cells.length = sz) (off len : Nat) {k : Nat} {a : AV} (hk : (((es.drop off).take len).flatMap AV.cells)[k]? = some a) :
    (es.flatMap AV.cells)[off * sz + k]? = some a := by
  rw [take_cells es off len sz h, List.getElem?_take] at hk
  split at hk
  · rw [List.getElem?_drop] at hk; exact hk
  · cases hk

theorem renC_ok (h : Ren c c' m) {a a' : AV} {v : Value} (hv : V c a v) (hr : renC m a = some a') : V c' a' v ∧ a'.okC = true := by
  cases a with
  | sref b w off len =>
    simp only [renC] at hr
    obtain ⟨x, hx, hle, hq⟩ := hv.sref_inv
    split at hr
    · rename_i b' v' hm
      cases hr
      obtain ⟨y, hy, hyv, x', hx', hxv, hk⟩ := h.nm _ _ _ hm
      have : y = x := Option.some.inj (hy.symm.trans hx)
      subst this
      refine ⟨.sref _ _ _ _ _ (hv.oneCell rfl) x' hx' (by omega) (fun ev hrow => ?_), rfl⟩
      obtain ⟨k1, k2, k3, k4, k5⟩ := hk ev.symm (by rw [hrow]; decide)
      rw [hrow] at k1
      obtain ⟨cap, cells, t, fr, e1, e2, e3, e4, e5⟩ := hq hyv.symm k1.symm
      obtain ⟨cells', t', fr', e6, e7⟩ := k5 cells t fr e4
      exact ⟨cap, cells', t', fr', by rw [k2, k3]; exact e1, by rw [k4 k1.symm]; exact e2, e3, e6, by rw [k3, e7]; exact e5⟩
    · rename_i es hm
      split at hr
      · rename_i hle2
        cases hr
        obtain ⟨y, hy, hyv, hk, hlen, hel, hlt, hF, cells, t, fr, hc, hcont⟩ := h.nm _ _ _ hm
        have : y = x := Option.some.inj (hy.symm.trans hx)
        subst this
        obtain ⟨cap, cells0, t0, fr0, rfl, e2, e3, e4, e5⟩ := hq hyv.symm hk
        refine ⟨.pure ?_, rfl⟩
        have hu : ∀ e ∈ es, e.cells.length = y.sz := fun e he => (hel e he).1
        have hl : ((es.drop off).take len).length = len := by rw [List.length_take, List.length_drop]; omega
        have hflen : (((es.drop off).take len).flatMap AV.cells).length = len * y.sz := by
          rw [flat_len (fun e he => hu e (List.mem_of_mem_drop (List.mem_of_mem_take he))), hl]
        have hget : ∀ (k : Nat) a, (((es.drop off).take len).flatMap AV.cells)[k]? = some a → ∃ v, cells[off * y.sz + k]? = some v ∧ PV c'.w c'.F a v :=
          fun k a hk => hcont _ a (flat_take_get hu off len hk)
        have key := PV.slc (w := c'.w) (F := c'.F) false ((es.drop off).take len) (some ⟨c.R b, off * y.sz, none⟩) cap y.sz ((cells.toList.drop (off * y.sz)).take (len * y.sz))
          (fun h => by cases h) (by rw [hl]; exact e3) (fun e he => hel e (List.mem_of_mem_drop (List.mem_of_mem_take he)))
          (fun _ => ⟨_, _, rfl, hlt, hF, fun k u hk => ?_⟩) ?_ (fun k a u h1 h2 => ?_)
        · rw [hl] at key; exact key
        · rw [List.getElem?_take] at hk
          split at hk
          · rw [List.getElem?_drop, Array.getElem?_toList] at hk
            simp [World.cell?, hc, hk]
          · cases hk
        · rw [hflen, List.length_take, List.length_drop]
          rcases Nat.eq_zero_or_pos (len * y.sz) with h0 | h0
          · omega
          · obtain ⟨u, hu', _⟩ := hget (len * y.sz - 1) _ (List.getElem?_eq_getElem (by omega))
            have := (Array.getElem?_eq_some_iff.1 hu').1
            have hs : cells.toList.length = cells.size := Array.length_toList
            omega
        · obtain ⟨u', hu', hp⟩ := hget k a h1
          rw [List.getElem?_take] at h2
          split at h2
          · rw [List.getElem?_drop, Array.getElem?_toList, hu'] at h2
            cases h2
            exact hp
          · cases h2
      · cases hr
    · cases hr
  | ptr b w i off =>
    simp only [renC] at hr
    obtain ⟨x, hx, hle, hq⟩ := hv.ptr_inv
    split at hr
    · rename_i b' v' hm
      cases hr
      obtain ⟨y, hy, hyv, x', hx', hxv, hk⟩ := h.nm _ _ _ hm
      have : y = x := Option.some.inj (hy.symm.trans hx)
      subst this
      refine ⟨.ptr _ _ _ _ _ (hv.oneCell rfl) x' hx' (by omega) (fun ev => ⟨fun hb hi => ?_, fun hrow => ?_⟩), rfl⟩
      · obtain ⟨k1, k2, k3, k4, k5⟩ := hk ev.symm (by rw [hb]; decide)
        rw [hb] at k1
        rw [k2]
        exact (hq hyv.symm).1 k1.symm hi
      · obtain ⟨k1, k2, k3, k4, k5⟩ := hk ev.symm (by rw [hrow]; decide)
        rw [hrow] at k1
        rw [k2, k3]
        exact (hq hyv.symm).2 k1.symm
    · cases hr
  | eptr e off =>
    simp only [renC] at hr
    cases hr
    obtain ⟨b, o, vals, rfl, h1, h2, h3, h4, h5, h6⟩ := hv.eptr_inv
    exact ⟨.eptr e off b o vals (Nat.lt_of_lt_of_le h1 h.size) (h.hF b h1 h2) h3 h4 (fun k u hk => by rw [cell_of_heap (h.hw b h1 h2)]; exact h5 k u hk) (fun k a u g1 g2 => h.pv (h6 k a u g1 g2)), rfl⟩
  | iface t a =>
    simp only [renC] at hr
    split at hr
    · cases hr
      obtain ⟨u, rfl, hs, hp⟩ := hv.iface_inv
      exact ⟨.pure (.iface _ _ _ hs (h.pv hp)), rfl⟩
    · cases hr
  | fn f fs cs =>
    cases fs with
    | cons => simp [renC] at hr
    | nil => cases cs with
      | cons => simp [renC] at hr
      | nil =>
        simp only [renC] at hr
        cases hr
        obtain ⟨vfs, vcs, rfl, h1, h2, _⟩ := hv.fn_inv
        have e1 : vfs = [] := List.eq_nil_of_length_eq_zero (by simpa using h1.symm)
        have e2 : vcs = [] := List.eq_nil_of_length_eq_zero (by simpa using h2.symm)
        subst e1; subst e2
        exact ⟨.pure (.fn _), rfl⟩
  | bool b => simp only [renC] at hr; cases hr; rw [hv.bool_inv]; exact ⟨.pure (.bool _), rfl⟩
  | int k n => simp only [renC] at hr; cases hr; rw [hv.int_inv]; exact ⟨.pure (.int _ _), rfl⟩
  | str s => simp only [renC] at hr; cases hr; rw [hv.str_inv]; exact ⟨.pure (.str _), rfl⟩
  | slc x es => simp only [renC] at hr; cases hr; exact ⟨.pure (h.pv hv.slc_inv), rfl⟩
  | pnil => simp only [renC] at hr; cases hr; rw [hv.pnil_inv]; exact ⟨.pure .pnil, rfl⟩
  | fnil => simp only [renC] at hr; cases hr; rw [hv.fnil_inv]; exact ⟨.pure .fnil, rfl⟩
  | inil => simp only [renC] at hr; cases hr; rw [hv.inil_inv]; exact ⟨.pure .inil, rfl⟩
  | undef => simp [renC] at hr
  | skp => simp [renC] at hr
  | agg => simp [renC] at hr
  | tup => simp [renC] at hr

theorem mapO_ok {f : AV → Option AV} {p : AV → Prop} (hf : ∀ a a' v, V c a v → f a = some a' → V c' a' v ∧ p a') :
    ∀ {as rs : List AV} {vs : List Value}, mapO f as = some rs → VL c as vs → VL c' rs vs ∧ ∀ a ∈ rs, p a
  | [], rs, vs, h, hv => by
    simp [mapO] at h; subst h
    have : vs = [] := List.eq_nil_of_length_eq_zero (by simpa using hv.1.symm)
    subst this
    exact ⟨VL.nil, fun _ h => by simp at h⟩
  | a :: as, rs, vs, h, hv => by
    obtain ⟨v, r, rfl, h1, h2⟩ := VL.of_cons hv
    simp only [mapO] at h
    split at h
    · rename_i b hb
      split at h
      · rename_i bs hbs
        cases h
        obtain ⟨i1, i2⟩ := mapO_ok hf hbs h2
        obtain ⟨j1, j2⟩ := hf a b v h1 hb
        exact ⟨VL.cons j1 i1, fun x hx => by
          rcases List.mem_cons.1 hx with rfl | hx
          · exact j2
          · exact i2 x hx⟩
      · cases h
    · cases h

theorem renD_ok (h : Ren c c' m) {a a' : AV} {v : Value} (hv : V c a v) (hr : renD m a = some a') : V c' a' v ∧ a'.okC = true := by
  unfold renD at hr
  split at hr
  · rename_i f fs cs
    split at hr
    · rename_i fs' hfs
      split at hr
      · rename_i cs' hcs
        cases hr
        obtain ⟨vfs, vcs, rfl, h1, h2, h3, h4⟩ := hv.fn_inv
        have g1 := (mapO_ok (c := c) (c' := c') (p := fun a => a.okC = true) (fun a a' v hv hr => renC_ok h hv hr) hfs ⟨h1, h3⟩).1
        have g2 := (mapO_ok (c := c) (c' := c') (p := fun a => a.okC = true) (fun a a' v hv hr => renC_ok h hv hr) hcs ⟨h2, h4⟩).1
        exact ⟨.fn f fs' cs' vfs vcs g1.1 g2.1 g1.2 g2.2, rfl⟩
      · cases hr
    · cases hr
  · exact renC_ok h hv hr

theorem renA_ok (h : Ren c c' m) {a a' : AV} {v : Value} (hv : V c a v) (hr : renA m a = some a') : V c' a' v ∧ a'.cells.all AV.okC = true := by
  unfold renA at hr
  split at hr
  · rename_i cs
    split at hr
    · rename_i l hl
      cases hr
      obtain ⟨vs, rfl, h1, h2, h3⟩ := hv.agg_inv
      obtain ⟨g1, g2⟩ := mapO_ok (c := c) (c' := c') (p := fun a => a.okC = true) (fun a a' v hv hr => renD_ok h hv hr) hl ⟨h1, h3⟩
      exact ⟨.agg l vs g1.1 g2 g1.2, List.all_eq_true.2 g2⟩
    · cases hr
  · obtain ⟨g1, g2⟩ := renD_ok h hv hr
    refine ⟨g1, ?_⟩
    have : a'.cells = [a'] := by cases a' <;> first | rfl | cases g2
    rw [this]; simp [g2]

theorem renT_ok (h : Ren c c' m) {a a' : AV} {v : Value} (hv : V c a v) (hr : renT m a = some a') : V c' a' v := by
  unfold renT at hr
  split at hr
  · rename_i cs
    split at hr
    · rename_i l hl
      cases hr
      obtain ⟨vs, rfl, h1, h3⟩ := hv.tup_inv
      obtain ⟨g1, _⟩ := mapO_ok (c := c) (c' := c') (p := fun a => a.cells.all AV.okC = true) (fun a a' v hv hr => renA_ok h hv hr) hl ⟨h1, h3⟩
      exact .tup l vs g1.1 g1.2
    · cases hr
  · exact (renA_ok h hv hr).1
end

end Go.Ab
/- Operations that change memory. -/
namespace Go.Ab
open Go

section
variable {P : Program} {w0 : World} {G X Lo : Nat → Prop} {c : Cx}

/-- The same blocks, but that some are written no more. -/
structure Frz (c c' : Cx) (l : List Nat) : Prop where
  w : c'.w = c.w
  R : c'.R = c.R
  look : ∀ b, look c'.S b = (look c.S b).map fun x => if b ∈ l then { x with fz := true } else x

theorem look_freeze (bs : List (Nat × Blk)) : ∀ (l : List Nat) (b : Nat), look (freeze bs l ++ bs) b = (look bs b).map fun x => if b ∈ l then { x with fz := true } else x
  | [], b => by simp [freeze]
  | d :: r, b => by
    have ih := look_freeze bs r b
    simp only [freeze]
    split
    · rename_i x hx
      rw [List.cons_append, look_cons]
      by_cases e : d = b
      · subst e
        simp [hx]
      · rw [if_neg e, ih]
        congr 1
        funext y
        have : b ≠ d := fun h => e h.symm
        simp [this]
    · rename_i hx
      rw [ih]
      cases hb : look bs b with
      | none => rfl
      | some y =>
        have : b ≠ d := by rintro rfl; rw [hx] at hb; cases hb
        simp [this]

theorem freeze_wr (h : WR w0 G X Lo c) : ∀ (l : List Nat), ∃ c', c'.S = freeze c.S l ++ c.S ∧ WR w0 G X Lo c' ∧ Le c c' ∧ c'.w = c.w ∧ c'.R = c.R
  | [] => ⟨c, rfl, h, Le.refl _, rfl, rfl⟩
  | d :: r => by
    obtain ⟨c1, h1, h2, h3, h4, h5⟩ := freeze_wr h r
    simp only [freeze]
    split
    · rename_i x hx
      have hl : look c1.S d = some (if d ∈ r then { x with fz := true } else x) := by rw [h1, look_freeze, hx]; rfl
      obtain ⟨g1, g2⟩ := h2.setA d _ { x with fz := true } hl (by split <;> rfl) (by split <;> rfl) (by split <;> rfl) (by split <;> exact .inl rfl) (.inr rfl)
      exact ⟨_, by show _ :: c1.S = _; rw [h1]; rfl, g1, h3.trans g2, h4, h5⟩
    · exact ⟨c1, h1, h2, h3, h4, h5⟩

theorem nextV_freeze (bs : List (Nat × Blk)) (l : List Nat) (b : Nat) : nextV (freeze bs l ++ bs) b = nextV bs b := by
  unfold nextV
  rw [look_freeze]
  cases look bs b with
  | none => rfl
  | some x => simp only [Option.map_some]; split <;> rfl

/-- A frozen row as a value. -/
theorem pureM_ok (h : WR w0 G X Lo c) {l : List Nat} {c' : Cx} (hS : c'.S = freeze c.S l ++ c.S) (h' : WR w0 G X Lo c') (hL : Le c c') (hw : c'.w = c.w) (hR : c'.R = c.R)
    (b v : Nat) (n : Nm) (hm : (if b ∈ l then pureM c.S b v else none) = some n) : NmOk c c' b v n := by
  split at hm
  · rename_i hbl
    unfold pureM at hm
    split at hm
    · rename_i x hx
      split at hm
      · rename_i hk
        cases hm
        obtain ⟨h1, h2, h3⟩ := ldBlk_some hx
        obtain ⟨cells, t, lo, hi, g1, g2, g3, g4⟩ := (h.blk b x h1 h3).here
        obtain ⟨g5, g6⟩ := g4 hk
        have hcont : PContent c' (x.es.flatMap AV.cells) cells := g6.mono hL
        refine ⟨x, h1, h2, hk, rfl, g5, ?_, ?_, cells, t, (lo, hi), by rw [hw]; exact g1, hcont⟩
        · rw [hw]; exact (h.blk b x h1 h3).lt
        · intro hf
          rcases (h'.hF _).1 hf with hx' | ⟨b', y, k1, k2, k3, k4⟩
          · exact (h.own b x h1 h3).2 hx'
          · have hb : look c'.S b = some { x with fz := true } := by rw [hS, look_freeze, h1]; simp [hbl]
            have : b' = b := h'.inj b' b y _ k1 k2 hb h3 (by rw [k4, hR])
            subst this
            have := Option.some.inj (k1.symm.trans hb)
            subst this
            cases k3
      · cases hm
    · cases hm
  · cases hm

theorem renC_pure_rows {bs : List (Nat × Blk)} {l : List Nat} {a a' : AV} (hl : ∀ b ∈ rowsC a, b ∈ l) (hr : renC (pureM bs) a = some a') :
    renC (fun b v => if b ∈ l then pureM bs b v else none) a = some a' := by
  cases a with
  | sref b v off len =>
    simp only [renC] at hr ⊢
    rw [if_pos (hl b (by simp [rowsC]))]
    exact hr
  | ptr b v i off =>
    simp only [renC] at hr
    unfold pureM at hr
    split at hr
    · rename_i h
      (repeat' split at h) <;> first | cases h | skip
    · cases hr
  | fn f fs cs =>
    cases fs with
    | cons => simp [renC] at hr
    | nil => cases cs with
      | cons => simp [renC] at hr
      | nil => exact hr
  | _ => exact hr

theorem mapO_congr {f g : AV → Option AV} : ∀ {l r : List AV}, mapO f l = some r → (∀ a ∈ l, ∀ b, f a = some b → g a = some b) → mapO g l = some r
  | [], r, h, _ => h
  | a :: l, r, h, hfg => by
    simp only [mapO] at h ⊢
    split at h
    · rename_i b hb
      rw [hfg a (by simp) b hb]
      split at h
      · rename_i bs hbs
        rw [mapO_congr hbs (fun x hx => hfg x (by simp [hx]))]
        exact h
      · cases h
    · cases h

/-- Two states, the second with these rows written no more. -/
structure FrzTo (w0 : World) (G X Lo : Nat → Prop) (c c' : Cx) (l : List Nat) : Prop where
  S : c'.S = freeze c.S l ++ c.S
  wr : WR w0 G X Lo c'
  le : Le c c'
  w : c'.w = c.w
  R : c'.R = c.R

theorem freezeTo (h : WR w0 G X Lo c) (l : List Nat) : ∃ c', FrzTo w0 G X Lo c c' l := by
  obtain ⟨c', h1, h2, h3, h4, h5⟩ := freeze_wr h l
  exact ⟨c', h1, h2, h3, h4, h5⟩

theorem pureC_ok (h : WR w0 G X Lo c) {l : List Nat} {c' : Cx} (f : FrzTo w0 G X Lo c c' l) {a a' : AV} {v : Value} (hl : ∀ b ∈ rowsC a, b ∈ l) (hv : V c a v) (hr : pureC c.S a = some a') :
    PV c'.w c'.F a' v ∧ a'.okC = true := by
  have hren : Ren c c' (fun b v => if b ∈ l then pureM c.S b v else none) :=
    ⟨f.le.size, f.le.hF, f.le.hw, fun b v n hn => pureM_ok h f.S f.wr f.le f.w f.R b v n hn⟩
  have hr' : renC (pureM c.S) a = some a' := by cases a <;> first | exact hr | (simp [pureC] at hr)
  obtain ⟨g1, g2⟩ := renC_ok hren hv (renC_pure_rows hl hr')
  refine ⟨?_, g2⟩
  cases g1 with
  | pure h => exact h
  | agg => cases g2
  | tup => cases g2
  | sref b w off len =>
    exfalso
    cases a with
    | sref b' v' o n =>
      simp only [renC] at hr'
      unfold pureM at hr'
      split at hr'
      · rename_i k1 k2 h1
        (repeat' split at h1) <;> cases h1
      · split at hr' <;> cases hr'
      · cases hr'
    | fn f fs cs => cases fs <;> cases cs <;> simp [renC] at hr'
    | ptr => simp [pureC] at hr
    | eptr => simp [pureC] at hr
    | iface t v => simp only [renC] at hr'; split at hr' <;> cases hr'
    | _ => simp [renC] at hr'
  | ptr b w i off =>
    exfalso
    cases a with
    | sref b' v' o n =>
      simp only [renC] at hr'
      split at hr'
      · cases hr'
      · split at hr' <;> cases hr'
      · cases hr'
    | fn f fs cs => cases fs <;> cases cs <;> simp [renC] at hr'
    | ptr => simp [pureC] at hr
    | eptr => simp [pureC] at hr
    | iface t v => simp only [renC] at hr'; split at hr' <;> cases hr'
    | _ => simp [renC] at hr'
  | eptr e off =>
    exfalso
    cases a with
    | sref b' v' o n =>
      simp only [renC] at hr'
      split at hr'
      · cases hr'
      · split at hr' <;> cases hr'
      · cases hr'
    | fn f fs cs => cases fs <;> cases cs <;> simp [renC] at hr'
    | ptr => simp [pureC] at hr
    | eptr => simp [pureC] at hr
    | iface t v => simp only [renC] at hr'; split at hr' <;> cases hr'
    | _ => simp [renC] at hr'
  | fn g fs cs vfs vcs h1 h2 =>
    cases a with
    | sref b' v' o n =>
      simp only [renC] at hr'
      split at hr'
      · cases hr'
      · split at hr' <;> cases hr'
      · cases hr'
    | fn f fs' cs' =>
      cases fs' with
      | cons => simp [renC] at hr'
      | nil => cases cs' with
        | cons => simp [renC] at hr'
        | nil =>
          simp only [renC] at hr'
          cases hr'
          have e1 : vfs = [] := List.eq_nil_of_length_eq_zero (by simpa using h1.symm)
          have e2 : vcs = [] := List.eq_nil_of_length_eq_zero (by simpa using h2.symm)
          subst e1; subst e2
          exact .fn _
    | ptr => simp [pureC] at hr
    | eptr => simp [pureC] at hr
    | iface t v => simp only [renC] at hr'; split at hr' <;> cases hr'
    | _ => simp [renC] at hr'

/-- Values, one for each, that are not in the store. -/
def PL (c : Cx) (as : List AV) (vs : List Value) : Prop := as.length = vs.length ∧ ∀ (i : Nat) a v, as[i]? = some a → vs[i]? = some v → PV c.w c.F a v

theorem mapO_pure (h : WR w0 G X Lo c) {l : List Nat} {c' : Cx} (f : FrzTo w0 G X Lo c c' l) : ∀ {as rs : List AV} {vs : List Value}, (∀ b ∈ as.flatMap rowsC, b ∈ l) → VL c as vs → mapO (pureC c.S) as = some rs →
    PL c' rs vs ∧ ∀ a ∈ rs, a.okC = true
  | [], rs, vs, _, hv, hr => by
    simp [mapO] at hr; subst hr
    have : vs = [] := List.eq_nil_of_length_eq_zero (by simpa using hv.1.symm)
    subst this
    exact ⟨⟨rfl, fun _ _ _ h => by simp at h⟩, fun _ h => by simp at h⟩
  | a :: as, rs, vs, hl, hv, hr => by
    obtain ⟨v, r, rfl, h1, h2⟩ := VL.of_cons hv
    simp only [mapO] at hr
    split at hr
    · rename_i b hb
      split at hr
      · rename_i bs hbs
        cases hr
        obtain ⟨i1, i2⟩ := mapO_pure h f (fun x hx => hl x (by simp [List.flatMap_cons]; exact .inr (by simpa using hx))) h2 hbs
        obtain ⟨j1, j2⟩ := pureC_ok h f (fun x hx => hl x (by simp [List.flatMap_cons]; exact .inl hx)) h1 hb
        refine ⟨⟨by simp [i1.1], fun i x u g1 g2 => ?_⟩, fun x hx => ?_⟩
        · cases i with
          | zero => simp at g1 g2; subst g1; subst g2; exact j1
          | succ i => exact i1.2 i x u (by simpa using g1) (by simpa using g2)
        · rcases List.mem_cons.1 hx with rfl | hx
          · exact j2
          · exact i2 x hx
      · cases hr
    · cases hr

/-- The cells of what is handed on as a value. -/
theorem pureA_ok (h : WR w0 G X Lo c) {l : List Nat} {c' : Cx} (f : FrzTo w0 G X Lo c c' l) {a a' : AV} {v : Value} (hl : ∀ b ∈ rowsA a, b ∈ l) (hv : V c a v) (hr : pureA c.S a = some a') :
    PV c'.w c'.F a' v ∧ a'.cells.all AV.okC = true := by
  unfold pureA at hr
  split at hr
  · rename_i cs
    split at hr
    · rename_i r hr'
      cases hr
      obtain ⟨vs, rfl, h1, h2, h3⟩ := hv.agg_inv
      obtain ⟨g1, g2⟩ := mapO_pure h f (by simpa [rowsA] using hl) ⟨h1, h3⟩ hr'
      exact ⟨.agg r vs g1.1 g2 g1.2, List.all_eq_true.2 g2⟩
    · cases hr
  · rename_i hna
    have hrows : rowsA a = rowsC a := by
      cases a <;> first | rfl | exact absurd rfl (hna _)
    rw [hrows] at hl
    obtain ⟨g1, g2⟩ := pureC_ok h f hl hv hr
    refine ⟨g1, ?_⟩
    have : a'.cells = [a'] := by cases a' <;> first | rfl | cases g2
    rw [this]; simp [g2]


/-- An operation that comes to 'v' and writes these blocks. -/
def MOk (P : Program) (w0 : World) (G X Lo : Nat → Prop) (c : Cx) (s : Sem Value) (v : AV) (ds : List (Nat × Blk)) : Prop :=
  ∃ u c1, s.run P c.w = .ok u c1.w ∧ c1.S = ds ++ c.S ∧ WR w0 G X Lo c1 ∧ Le c c1 ∧ V c1 v u

theorem box_push (h : WR w0 G X Lo c) {d : Option Tmp} {as : List AV} {vs : List Value} (hvs : VL c as vs) {v : AV} {ds : List (Nat × Blk)} (hr : newBox c.S d as = some (.val v ds)) (t : TypeId) :
    ∃ c1, c1.w = { c.w with heap := c.w.heap.push (.cells vs.toArray t) } ∧ c1.S = ds ++ c.S ∧ WR w0 G X Lo c1 ∧ Le c c1 ∧ V c1 v (.pointer (some ⟨c.w.heap.size, 0, none⟩)) := by
  unfold newBox at hr
  split at hr
  · rename_i b hb
    split at hr
    · rename_i hok
      cases hr
      have hc : Content c as vs.toArray := fun k a hk => by
        have hlt := (List.getElem?_eq_some_iff.1 hk).1
        have hlv : k < vs.length := by have := hvs.1; omega
        have hv : vs[k]? = some vs[k] := List.getElem?_eq_getElem hlv
        exact ⟨List.all_eq_true.1 hok a (List.mem_of_getElem? hk), vs[k], by simp [hlv], hvs.2 k a _ hk hv⟩
      obtain ⟨g1, g2⟩ := h.push c.w rfl rfl rfl b { v := nextV c.S b, k := .box, fz := false, sz := 0, es := as } rfl (by simp) rfl vs.toArray t 0 0 (.inl rfl) (fun _ => hc) (fun h => by cases h)
      refine ⟨_, rfl, rfl, g1, g2, ?_⟩
      refine .ptr _ _ _ _ _ rfl { v := nextV c.S b, k := .box, fz := false, sz := 0, es := as } (by simp [look_cons]) (Nat.le_refl _) (fun _ => ⟨fun _ _ => by simp [updR], fun h => by cases h⟩)
    · cases hr
  · cases hr

theorem box_ok (h : WR w0 G X Lo c) {d : Option Tmp} {a : AV} {val : Value} (hv : V c a val) {v : AV} {ds : List (Nat × Blk)} (hr : newBox c.S d a.cells = some (.val v ds)) (t : TypeId) :
    MOk P w0 G X Lo c (Instr.box t val) v ds := by
  have hok : a.cells.all AV.okC = true := by
    unfold newBox at hr
    split at hr
    · split at hr
      · assumption
      · cases hr
    · cases hr
  obtain ⟨vs, e1, e2, e3, e4⟩ := hv.cells hok
  obtain ⟨c1, g1, g2, g3, g4, g5⟩ := box_push h ⟨e2, e4⟩ hr t
  exact ⟨_, c1, by rw [g1]; simp [Instr.box, newVar, Go.newRow, e1], g2, g3, g4, g5⟩

theorem alloc_ok (h : WR w0 G X Lo c) {d : Option Tmp} {t : TypeId} {z : AV} (hz : zeroOf P t = some z) {v : AV} {ds : List (Nat × Blk)} (hr : newBox c.S d z.cells = some (.val v ds)) :
    MOk P w0 G X Lo c (Instr.alloc t true (.tuple #[])) v ds := by
  obtain ⟨zv, g1, g2, g3, _⟩ := zeroOf_ok (c := c) c.w hz
  obtain ⟨vs, e1, e2, e3, e4⟩ := (V.pure g2).cells g3
  obtain ⟨c1, k1, k2, k3, k4, k5⟩ := box_push h ⟨e2, e4⟩ hr t
  exact ⟨_, c1, by rw [k1]; simp [Instr.alloc, g1, newVar, Go.newRow, e1], k2, k3, k4, k5⟩

/-- A new row, behind others that are written no more. -/
theorem row_push {l : List Nat} {cF : Cx} (f : FrzTo w0 G X Lo c cF l) (w1 : World) (hw1 : w1.heap = c.w.heap) (hos : w1.os = c.w.os) (hou : w1.output = c.w.output)
    {d : Option Tmp} {sz : Nat} {es : List AV} {v : AV} {ds : List (Nat × Blk)} (hr : newRow c.S d sz es (freeze c.S l) = some (.val v ds))
    (cells : Array Value) (t : TypeId) (lo hi : Nat) (hfr : lo = hi ∨ (cells.size ≤ lo ∧ sz = 1)) (hel : ∀ e ∈ es, e.cells.length = sz ∧ ∀ a ∈ e.cells, a.okC = true)
    (hc : PContent cF (es.flatMap AV.cells) cells) (cap : Nat) (hcap : es.length ≤ cap) (hsz : cap * sz ≤ cells.size) :
    ∃ c1, c1.w = { w1 with heap := w1.heap.push (.cells cells t (lo, hi)) } ∧ c1.S = ds ++ c.S ∧ WR w0 G X Lo c1 ∧ Le c c1 ∧ V c1 v (.slice (some ⟨c.w.heap.size, 0, none⟩) es.length cap) := by
  unfold newRow at hr
  split at hr
  · rename_i b hb
    cases hr
    obtain ⟨g1, g2⟩ := f.wr.push w1 (by rw [hw1, f.w]) (by rw [hos, f.w]) (by rw [hou, f.w]) b { v := nextV c.S b, k := .row, fz := false, sz := sz, es := es }
      (by show nextV c.S b = nextV cF.S b; rw [f.S, nextV_freeze]) (by simp) rfl cells t lo hi hfr (fun h => by cases h) (fun _ => ⟨hel, hc⟩)
    refine ⟨_, rfl, ?_, g1, f.le.trans g2, ?_⟩
    · show _ :: cF.S = _; rw [f.S]; rfl
    · refine .sref _ _ _ _ _ rfl { v := nextV c.S b, k := .row, fz := false, sz := sz, es := es } (by simp [look_cons]) (Nat.le_refl _) (fun _ _ => ⟨cap, cells, t, (lo, hi), ?_, by simpa using hcap, hcap, ?_, by simpa using hsz⟩)
      · simp [updR, f.w]
      · show (w1.heap.push _)[updR _ _ _ b]? = _
        simp [updR, f.w, hw1]
  · cases hr

theorem setRow_heap_eq (w : World) (g : Nat) (old cs : Array Value) (t : TypeId) (fr : Nat × Nat) (hg : w.heap[g]? = some (.cells old t fr)) : (w.setRow g cs).heap = w.heap.setIfInBounds g (.cells cs t fr) := by
  have hlt : g < w.heap.size := (Array.getElem?_eq_some_iff.1 hg).1
  apply Array.ext_getElem?
  intro k
  by_cases e : k = g
  · subst e
    rw [setRow_heap w k old cs t fr hg, Array.getElem?_setIfInBounds_self_of_lt hlt]
  · rw [setRow_other w g k cs e, Array.getElem?_setIfInBounds_ne (fun h => e h.symm)]

theorem fr_ok {lo hi n : Nat} {p : Prop} (h : lo = hi ∨ (n ≤ lo ∧ p)) : ∀ k, k < n → ¬ (lo ≤ k ∧ k < hi) := by
  intro k hk hh
  omega

theorem run_storeCells (g o : Nat) (t : TypeId) (lo hi : Nat) : ∀ (vs : List Value) (i : Nat) (cur : Array Value) (w : World), w.heap[g]? = some (.cells cur t (lo, hi)) →
    (∀ k, k < cur.size → ¬ (lo ≤ k ∧ k < hi)) → o + i + vs.length ≤ cur.size → (∀ v ∈ vs, v.oneCell' = true) →
    (storeCells ⟨g, o, none⟩ vs i).run P w = .ok () (w.setRow g (cur.toList.take (o + i) ++ vs ++ cur.toList.drop (o + i + vs.length)).toArray)
  | [], i, cur, w, hg, _, _, _ => by
    simp only [storeCells, List.append_nil, List.length_nil, Nat.add_zero, List.take_append_drop, Array.toArray_toList]
    rw [setRow_self w g cur t (lo, hi) hg]
    rfl
  | v :: rest, i, cur, w, hg, hfz, hl, h1 => by
    have hi : o + i < cur.size := by simp at hl; omega
    have hadd : (⟨g, o, none⟩ : Addr).add i = ⟨g, o + i, none⟩ := by unfold Addr.add; split <;> simp_all
    have hcell : w.cell? ⟨g, o + i, none⟩ = some cur[o + i] := by simp [World.cell?, hg, hi]
    have hfro : w.frozen? ⟨g, o + i, none⟩ = false := by
      have := hfz (o + i) hi
      simp only [World.frozen?, hg, Bool.and_eq_false_iff, decide_eq_false_iff_not]
      omega
    have hst : (store ((⟨g, o, none⟩ : Addr).add i) v).run P w = .ok () (w.setRow g (cur.setIfInBounds (o + i) v)) := by
      rw [hadd, run_store P w _ v _ (h1 v (by simp)), hcell]
      simp [hfro, setCell_eq_setRow w g (o + i) cur t (lo, _) v hg]
    have ih := run_storeCells g o t lo _ rest (i + 1) (cur.setIfInBounds (o + i) v) (w.setRow g (cur.setIfInBounds (o + i) v)) (setRow_heap w g cur _ t _ hg) (by simpa using hfz) (by simp at hl ⊢; omega) (fun x hx => h1 x (by simp [hx]))
    simp only [storeCells, Sem.run_bind, hst, Result.andThen_ok, ih, setRow_setRow]
    congr 3
    have e := list_seg_step cur.toList (o + i) v rest (by simp at hl ⊢; omega)
    simpa [Array.toList_setIfInBounds, Nat.add_assoc] using e

end
end Go.Ab
/- Stores, appends, copies. -/
namespace Go.Ab
open Go

section
variable {P : Program} {w0 : World} {G X Lo : Nat → Prop} {c : Cx}

theorem arr_splice_get {cells : Array Value} {vs : List Value} {o : Nat} (hle : o + vs.length ≤ cells.size) (k : Nat) :
    ((cells.toList.take o ++ vs ++ cells.toList.drop (o + vs.length)).toArray)[k]? = if o ≤ k ∧ k < o + vs.length then vs[k - o]? else cells[k]? := by
  have hs : cells.toList.length = cells.size := Array.length_toList
  rw [List.getElem?_toArray, List.append_assoc]
  by_cases h1 : k < o
  · rw [List.getElem?_append_left (by rw [List.length_take]; omega), List.getElem?_take, if_pos h1, if_neg (by omega), Array.getElem?_toList]
  · rw [List.getElem?_append_right (by rw [List.length_take]; omega), List.length_take, show k - min o cells.toList.length = k - o by omega]
    by_cases h2 : k < o + vs.length
    · rw [List.getElem?_append_left (by omega), if_pos (by omega)]
    · rw [List.getElem?_append_right (by omega), if_neg (by omega), List.getElem?_drop, Array.getElem?_toList]
      congr 1; omega

theorem list_splice_get {es xs : List AV} {o : Nat} (hle : o + xs.length ≤ es.length) (k : Nat) :
    (es.take o ++ (xs ++ es.drop (o + xs.length)))[k]? = if o ≤ k ∧ k < o + xs.length then xs[k - o]? else es[k]? := by
  by_cases h1 : k < o
  · rw [List.getElem?_append_left (by rw [List.length_take]; omega), List.getElem?_take, if_pos h1, if_neg (by omega)]
  · rw [List.getElem?_append_right (by rw [List.length_take]; omega), List.length_take, show k - min o es.length = k - o by omega]
    by_cases h2 : k < o + xs.length
    · rw [List.getElem?_append_left (by omega), if_pos (by omega)]
    · rw [List.getElem?_append_right (by omega), if_neg (by omega), List.getElem?_drop]
      congr 1; omega

theorem arr_splice_size {cells : Array Value} {vs : List Value} {o : Nat} (hle : o + vs.length ≤ cells.size) : ((cells.toList.take o ++ vs ++ cells.toList.drop (o + vs.length)).toArray).size = cells.size := by
  have hs : cells.toList.length = cells.size := Array.length_toList
  simp only [List.size_toArray, List.length_append, List.length_take, List.length_drop]; omega

theorem content_le {es : List AV} {cells : Array Value} (h : ∀ (k : Nat) a, es[k]? = some a → ∃ v, cells[k]? = some v) : es.length ≤ cells.size := by
  rcases Nat.eq_zero_or_pos es.length with h0 | h0
  · omega
  · obtain ⟨v, hv⟩ := h (es.length - 1) _ (List.getElem?_eq_getElem (by omega))
    have := (Array.getElem?_eq_some_iff.1 hv).1
    omega

theorem Content.splice {es xs : List AV} {cells : Array Value} {vs : List Value} {o : Nat} (h : Content c es cells) (hx : VL c xs vs) (hok : ∀ a ∈ xs, a.okC = true) (hle : o + xs.length ≤ es.length) :
    Content c (es.take o ++ (xs ++ es.drop (o + xs.length))) (cells.toList.take o ++ vs ++ cells.toList.drop (o + vs.length)).toArray := by
  have hcs := content_le (fun k a hk => let ⟨_, v, h1, _⟩ := h k a hk; ⟨v, h1⟩)
  intro k a hk
  rw [list_splice_get hle] at hk
  rw [arr_splice_get (by rw [← hx.1]; omega), ← hx.1]
  split at hk
  · rename_i hr
    rw [if_pos hr]
    have hlt := (List.getElem?_eq_some_iff.1 hk).1
    have hlv : k - o < vs.length := by rw [← hx.1]; exact hlt
    have hv : vs[k - o]? = some vs[k - o] := List.getElem?_eq_getElem hlv
    exact ⟨hok a (List.mem_of_getElem? hk), vs[k - o], hv, hx.2 _ _ _ hk hv⟩
  · rename_i hr
    rw [if_neg hr]
    exact h k a hk

theorem PContent.splice {es xs : List AV} {cells : Array Value} {vs : List Value} {o : Nat} (h : PContent c es cells) (hx : PL c xs vs) (hle : o + xs.length ≤ es.length) :
    PContent c (es.take o ++ (xs ++ es.drop (o + xs.length))) (cells.toList.take o ++ vs ++ cells.toList.drop (o + vs.length)).toArray := by
  have hcs := content_le (fun k a hk => let ⟨v, h1, _⟩ := h k a hk; ⟨v, h1⟩)
  intro k a hk
  rw [list_splice_get hle] at hk
  rw [arr_splice_get (by rw [← hx.1]; omega), ← hx.1]
  split at hk
  · rename_i hr
    rw [if_pos hr]
    have hlt := (List.getElem?_eq_some_iff.1 hk).1
    have hlv : k - o < vs.length := by rw [← hx.1]; exact hlt
    have hv : vs[k - o]? = some vs[k - o] := List.getElem?_eq_getElem hlv
    exact ⟨vs[k - o], hv, hx.2 _ _ _ hk hv⟩
  · rename_i hr
    rw [if_neg hr]
    exact h k a hk

theorem box_write (h : WR w0 G X Lo c) {b : Nat} {x : Blk} (hx : look c.S b = some x) (hk : x.k = .box) (hz : x.fz = false) {xs : List AV} {vs : List Value} (hv : VL c xs vs) (hok : ∀ a ∈ xs, a.okC = true)
    (h1 : ∀ v ∈ vs, v.oneCell' = true) {o : Nat} (ho : o + xs.length ≤ x.es.length) :
    ∃ c1, (storeCells ⟨c.R b, o, none⟩ vs).run P c.w = .ok () c1.w ∧ c1.S = (b, { x with es := x.es.take o ++ (xs ++ x.es.drop (o + xs.length)) }) :: c.S ∧ WR w0 G X Lo c1 ∧ Le c c1 := by
  have hd : x.k ≠ .dead := by rw [hk]; decide
  obtain ⟨cells, t, lo, hi, g1, g2, g3, _⟩ := (h.blk b x hx hd).here
  have hcont := g3 hk
  have hcs := content_le (fun k a hk => let ⟨_, v, h1, _⟩ := hcont k a hk; ⟨v, h1⟩)
  have hle : o + vs.length ≤ cells.size := by rw [← hv.1]; omega
  have hrun := run_storeCells (P := P) (c.R b) o t lo hi vs 0 cells c.w g1 (fr_ok g2) (by omega) h1
  simp only [Nat.add_zero] at hrun
  have hsz := arr_splice_size hle
  obtain ⟨k1, k2⟩ := h.setW b x { x with es := x.es.take o ++ (xs ++ x.es.drop (o + xs.length)) } hx hd hz rfl rfl rfl hz (fun hr => by rw [hk] at hr; cases hr)
    cells _ t t (lo, hi) lo hi g1 hsz (by rw [hsz]; exact g2) _ (setRow_heap_eq c.w (c.R b) cells _ t (lo, hi) g1) rfl rfl
    (fun _ => hcont.splice hv hok ho) (fun hr => by rw [hk] at hr; cases hr)
  exact ⟨_, hrun, rfl, k1, k2⟩

theorem row_write (h : WR w0 G X Lo c) {b : Nat} {x : Blk} (hx : look c.S b = some x) (hk : x.k = .row) (hz : x.fz = false) {xs : List AV} {vs : List Value} (hv : PL c xs vs)
    (h1 : ∀ v ∈ vs, v.oneCell' = true) {o : Nat} (ho : o + xs.length ≤ (x.es.flatMap AV.cells).length) {es' : List AV} (hlen : es'.length = x.es.length)
    (hflat : es'.flatMap AV.cells = (x.es.flatMap AV.cells).take o ++ (xs ++ (x.es.flatMap AV.cells).drop (o + xs.length)))
    (hel : ∀ e ∈ es', e.cells.length = x.sz ∧ ∀ a ∈ e.cells, a.okC = true) :
    ∃ c1, (storeCells ⟨c.R b, o, none⟩ vs).run P c.w = .ok () c1.w ∧ c1.S = (b, { x with es := es' }) :: c.S ∧ WR w0 G X Lo c1 ∧ Le c c1 := by
  have hd : x.k ≠ .dead := by rw [hk]; decide
  obtain ⟨cells, t, lo, hi, g1, g2, _, g4⟩ := (h.blk b x hx hd).here
  obtain ⟨g5, hcont⟩ := g4 hk
  have hcs := content_le (fun k a hk => let ⟨v, h1, _⟩ := hcont k a hk; ⟨v, h1⟩)
  have hle : o + vs.length ≤ cells.size := by rw [← hv.1]; omega
  have hrun := run_storeCells (P := P) (c.R b) o t lo hi vs 0 cells c.w g1 (fr_ok g2) (by omega) h1
  simp only [Nat.add_zero] at hrun
  have hsz := arr_splice_size hle
  obtain ⟨k1, k2⟩ := h.setW b x { x with es := es' } hx hd hz rfl rfl rfl hz (fun _ => hlen)
    cells _ t t (lo, hi) lo hi g1 hsz (by rw [hsz]; exact g2) _ (setRow_heap_eq c.w (c.R b) cells _ t (lo, hi) g1) rfl rfl
    (fun hr => by rw [hk] at hr; cases hr) (fun _ => ⟨hel, by show PContent c (es'.flatMap AV.cells) _; rw [hflat]; exact hcont.splice hv ho⟩)
  exact ⟨_, hrun, rfl, k1, k2⟩

theorem flat_take {es : List AV} {sz : Nat} (h : ∀ e ∈ es, e.cells.length = sz) (n : Nat) : (es.take n).flatMap AV.cells = (es.flatMap AV.cells).take (n * sz) := by
  have := take_cells es 0 n sz h
  simpa using this
theorem flat_drop {es : List AV} {sz : Nat} (h : ∀ e ∈ es, e.cells.length = sz) (n : Nat) : (es.drop n).flatMap AV.cells = (es.flatMap AV.cells).drop (n * sz) := by
  have := take_cells es n es.length sz h
  rw [List.take_of_length_le (by rw [List.length_drop]; omega), List.take_of_length_le] at this
  · exact this
  · rw [List.length_drop, flat_len h]; omega

theorem recell_cells {e : AV} {cs : List AV} (hl : cs.length = e.cells.length) (hok : ∀ a ∈ cs, a.okC = true) : (e.recell cs).cells = cs := by
  by_cases hagg : ∃ xs, e = .agg xs
  · obtain ⟨xs, rfl⟩ := hagg; rfl
  · have hc : e.cells = [e] := by cases e <;> first | rfl | exact absurd ⟨_, rfl⟩ hagg
    rw [hc] at hl
    match cs, hl with
    | [a], _ =>
      have ha : a.okC = true := hok a (by simp)
      have : e.recell [a] = a := by cases e <;> first | rfl | exact absurd ⟨_, rfl⟩ hagg
      rw [this]
      cases a <;> first | rfl | cases ha

theorem row_elems (h : WR w0 G X Lo c) {b : Nat} {x : Blk} (hx : look c.S b = some x) (hk : x.k = .row) : ∀ e ∈ x.es, e.cells.length = x.sz ∧ ∀ a ∈ e.cells, a.okC = true := by
  obtain ⟨cells, t, lo, hi, g1, g2, _, g4⟩ := (h.blk b x hx (by rw [hk]; decide)).here
  exact (g4 hk).1

theorem flat_set {sz : Nat} {xs : List AV} {off : Nat} : ∀ {es : List AV} {i : Nat} {e e' : AV}, (∀ e ∈ es, e.cells.length = sz) → es[i]? = some e → off + xs.length ≤ e.cells.length →
    e'.cells = e.cells.take off ++ (xs ++ e.cells.drop (off + xs.length)) →
    (es.set i e').flatMap AV.cells = (es.flatMap AV.cells).take (i * sz + off) ++ (xs ++ (es.flatMap AV.cells).drop (i * sz + off + xs.length))
  | [], _, _, _, _, he, _, _ => by simp at he
  | a :: r, 0, e, e', h, he, hle, h' => by
    simp at he; subst he
    rw [List.set_cons_zero, List.flatMap_cons, List.flatMap_cons, h', Nat.zero_mul, Nat.zero_add]
    rw [List.take_append_of_le_length (by omega), List.drop_append_of_le_length (by omega)]
    simp [List.append_assoc]
  | a :: r, i + 1, e, e', h, he, hle, h' => by
    simp at he
    have ha := h a (by simp)
    have ih := flat_set (es := r) (i := i) (fun e he => h e (by simp [he])) he hle h'
    rw [List.set_cons_succ, List.flatMap_cons, List.flatMap_cons, ih]
    have e1 : List.take ((i + 1) * sz + off) a.cells = a.cells := List.take_of_length_le (by rw [ha, Nat.succ_mul]; omega)
    have e2 : List.drop ((i + 1) * sz + off + xs.length) a.cells = [] := List.drop_eq_nil_of_le (by rw [ha, Nat.succ_mul]; omega)
    rw [List.take_append, List.drop_append, e1, e2, ha, show (i + 1) * sz + off - sz = i * sz + off by rw [Nat.succ_mul]; omega,
      show (i + 1) * sz + off + xs.length - sz = i * sz + off + xs.length by rw [Nat.succ_mul]; omega]
    simp [List.append_assoc]

theorem store_ok (h : WR w0 G X Lo c) {t : TypeId} {p x : AV} {pv xv : Value} (hp : V c p pv) (hx : V c x xv) {ds : List (Nat × Blk)} (hr : aStore P c.S t p x = some ds) :
    ∃ c1, (Instr.storeAt t pv xv).run P c.w = .ok () c1.w ∧ c1.S = ds ++ c.S ∧ WR w0 G X Lo c1 ∧ Le c c1 := by
  unfold aStore at hr
  split at hr
  · rename_i hc
    obtain ⟨ti, hti⟩ := Option.isSome_iff_exists.1 hc.2.2
    obtain ⟨vs, e1, e2, e3, e4⟩ := hx.cells hc.2.1
    have hsize : xv.cells.size = P.cellsOf t := by rw [e1]; simp [← e2, hc.1]
    have hcells : xv.cells.toList = vs := by rw [e1]
    have hok : ∀ a ∈ x.cells, a.okC = true := fun a ha => List.all_eq_true.1 hc.2.1 a ha
    split at hr
    · rename_i b v i off
      obtain ⟨y0, hy1, hy2, hq⟩ := hp.ptr_inv
      split at hr
      · rename_i blk hb
        obtain ⟨h1, h2, h3⟩ := ldBlk_some hb
        have : blk = y0 := Option.some.inj (h1.symm.trans hy1)
        subst this
        obtain ⟨q1, q2⟩ := hq h2.symm
        split at hr
        · rename_i hk
          split at hr
          · rename_i hi
            split at hr
            · rename_i es hes
              cases hr
              obtain ⟨hle, rfl⟩ := splice_eq hes
              have hpv := q1 hk hi.1
              subst hpv
              obtain ⟨c1, g1, g2, g3, g4⟩ := box_write (P := P) h h1 hk hi.2 ⟨e2, e4⟩ hok e3 (o := off) hle
              refine ⟨c1, ?_, g2, g3, g4⟩
              simp [Instr.storeAt, Instr.sureAddr, storeVar, run_sizeOf hti, hsize, hcells, g1]
            · cases hr
          · cases hr
        · rename_i hk
          split at hr
          · cases hr
          · rename_i hfz
            have hfz : blk.fz = false := by simpa using hfz
            split at hr
            · rename_i e he
              split at hr
              · rename_i xs hxs
                split at hr
                · rename_i cs hcs
                  split at hr
                  · cases hr
                  · rename_i hnb
                    cases hr
                    obtain ⟨hle, rfl⟩ := splice_eq hcs
                    have hpv := q2 hk
                    subst hpv
                    obtain ⟨cF, f⟩ := freezeTo h (rowsA x)
                    have hrows : ∀ b ∈ x.cells.flatMap rowsC, b ∈ rowsA x := by
                      intro b hb
                      cases x <;> first | exact hb | (simp [AV.cells, rowsC, rowsA] at hb ⊢; try exact hb)
                    obtain ⟨p1, p2⟩ := mapO_pure h f hrows ⟨e2, e4⟩ hxs
                    have hnb' : b ∉ rowsA x := by
                      intro hh; apply hnb; simpa using hh
                    have hbF : look cF.S b = some blk := by rw [f.S, look_freeze, h1]; simp [hnb']
                    have hel := row_elems h h1 hk
                    have hu : ∀ e ∈ blk.es, e.cells.length = blk.sz := fun e he => (hel e he).1
                    have hie : i < blk.es.length := (List.getElem?_eq_some_iff.1 he).1
                    have hesz : e.cells.length = blk.sz := hu e (List.mem_of_getElem? he)
                    have hxl : xs.length = vs.length := p1.1
                    have hcl : (e.cells.take off ++ (xs ++ e.cells.drop (off + xs.length))).length = e.cells.length := by
                      simp only [List.length_append, List.length_take, List.length_drop]; omega
                    have hcok : ∀ a ∈ e.cells.take off ++ (xs ++ e.cells.drop (off + xs.length)), a.okC = true := by
                      intro a ha
                      rcases List.mem_append.1 ha with ha | ha
                      · exact (hel e (List.mem_of_getElem? he)).2 a (List.mem_of_mem_take ha)
                      · rcases List.mem_append.1 ha with ha | ha
                        · exact p2 a ha
                        · exact (hel e (List.mem_of_getElem? he)).2 a (List.mem_of_mem_drop ha)
                    have hrc := recell_cells hcl hcok
                    have hmul : i * blk.sz + blk.sz ≤ blk.es.length * blk.sz := by
                      have := Nat.mul_le_mul_right blk.sz (show i + 1 ≤ blk.es.length by omega)
                      rw [Nat.succ_mul] at this; exact this
                    have hfl := flat_len hu
                    have hflat : (blk.es.set i (e.recell (e.cells.take off ++ (xs ++ e.cells.drop (off + xs.length))))).flatMap AV.cells =
                        (blk.es.flatMap AV.cells).take (i * blk.sz + off) ++ (xs ++ (blk.es.flatMap AV.cells).drop (i * blk.sz + off + xs.length)) := by
                      exact flat_set hu he hle hrc
                    obtain ⟨c1, g1, g2, g3, g4⟩ := row_write (P := P) f.wr hbF hk hfz p1 e3 (o := i * blk.sz + off) (es' := blk.es.set i (e.recell (e.cells.take off ++ (xs ++ e.cells.drop (off + xs.length))))) (by rw [hfl]; omega) (by simp) hflat
                      (fun a ha => by
                        rcases List.mem_or_eq_of_mem_set ha with ha | rfl
                        · exact hel a ha
                        · rw [hrc]; exact ⟨by rw [hcl, hesz], hcok⟩)
                    refine ⟨c1, ?_, ?_, g3, f.le.trans g4⟩
                    · rw [f.w, f.R] at g1
                      simp [Instr.storeAt, Instr.sureAddr, storeVar, run_sizeOf hti, hsize, hcells, g1]
                    · rw [g2, f.S]; rfl
                · cases hr
              · cases hr
            · cases hr
        · cases hr
      · cases hr
    · cases hr
  · cases hr


/-- What is in a slice, as cells that can be read. -/
theorem elems_read (h : WR w0 G X Lo c) {a : AV} {val : Value} (hv : V c a val) (hns : ∀ s, a ≠ .str s) {es : List AV} (he : elemsOf c.S a = some es) {sz : Nat} (hsz : ∀ e ∈ es, e.cells.length = sz) :
    ∃ ad cap, ∃ vs : List Value, val = .slice ad es.length cap ∧ vs.length = es.length * sz ∧ PL c (es.flatMap AV.cells) vs ∧ (∀ e ∈ es, ∀ a ∈ e.cells, a.okC = true) ∧
      (es ≠ [] → ∃ b o, ad = some ⟨b, o, none⟩ ∧ ∀ (j : Nat) v, vs[j]? = some v → c.w.cell? ((⟨b, o, none⟩ : Addr).add j) = some v) := by
  cases a with
  | slc x l =>
    simp only [elemsOf] at he
    cases he
    have := hv.slc_inv
    cases this with
    | slc _ _ ad cap sz' vals hx hcap hs ha hl hp =>
      refine ⟨ad, cap, vals, rfl, by rw [hl, flat_len hsz], ⟨hl.symm, fun i a v h1 h2 => hp i a v h1 h2⟩, fun e he => (hs e he).2, fun hne => ?_⟩
      obtain ⟨b, o, h1, h2, h3, h4⟩ := ha hne
      exact ⟨b, o, h1, fun j v hj => by rw [add_zero _ _ rfl]; exact h4 j v hj⟩
  | sref b v off len =>
    simp only [elemsOf] at he
    unfold rowAt at he
    split at he
    · rename_i y hy
      split at he
      · rename_i hk
        cases he
        obtain ⟨h1, h2, h3⟩ := ldBlk_some hy
        obtain ⟨x, hx1, hx2, hx3⟩ := hv.sref_inv
        have : y = x := Option.some.inj (h1.symm.trans hx1)
        subst this
        obtain ⟨cap, cells0, tt, fr, rfl, e2, e3, e4, e5⟩ := hx3 h2.symm hk.1
        obtain ⟨cells, t, lo, hi, g1, g2, _, g4⟩ := (h.blk b y h1 h3).here
        obtain ⟨g5, g6⟩ := g4 hk.1
        have hu : ∀ e ∈ y.es, e.cells.length = y.sz := fun e he => (g5 e he).1
        have hlen : ((y.es.drop off).take len).length = len := by rw [List.length_take, List.length_drop]; omega
        have hcs := content_le (fun k a hk => let ⟨v, h1, _⟩ := g6 k a hk; ⟨v, h1⟩)
        rw [flat_len hu] at hcs
        have hmul : (off + len) * y.sz ≤ y.es.length * y.sz := Nat.mul_le_mul_right _ hk.2
        rw [Nat.add_mul] at hmul
        have htl : cells.toList.length = cells.size := Array.length_toList
        have hne_sz : (y.es.drop off).take len ≠ [] → sz = y.sz := by
          intro hne
          obtain ⟨e, he⟩ := List.exists_mem_of_ne_nil _ hne
          rw [← hsz e he, hu e (List.mem_of_mem_drop (List.mem_of_mem_take he))]
        have hvl : ((cells.toList.drop (off * y.sz)).take (len * y.sz)).length = len * y.sz := by rw [List.length_take, List.length_drop]; omega
        refine ⟨_, cap, (cells.toList.drop (off * y.sz)).take (len * y.sz), by rw [hlen], ?_, ⟨?_, fun i a u h1 h2 => ?_⟩, fun e he => (g5 e (List.mem_of_mem_drop (List.mem_of_mem_take he))).2, fun hne => ⟨_, _, rfl, fun j u hj => ?_⟩⟩
        · rw [hvl, hlen]
          by_cases hne : (y.es.drop off).take len = []
          · have : len = 0 := by rw [hne] at hlen; simpa using hlen.symm
            subst this; simp
          · rw [hne_sz hne]
        · rw [hvl, take_cells y.es off len y.sz hu, List.length_take, List.length_drop, flat_len hu]; omega
        · have := flat_take_get hu off len h1
          obtain ⟨u', hu1, hu2⟩ := g6 _ a this
          rw [List.getElem?_take] at h2
          split at h2
          · rw [List.getElem?_drop, Array.getElem?_toList, hu1] at h2
            cases h2
            exact hu2
          · cases h2
        · rw [add_zero _ _ rfl]
          rw [List.getElem?_take] at hj
          split at hj
          · rw [List.getElem?_drop, Array.getElem?_toList] at hj
            simp [World.cell?, g1, hj]
          · cases hj
      · cases he
    · cases he
  | str s => exact absurd rfl (hns s)
  | _ => simp [elemsOf] at he

theorem PL.one {as : List AV} {vs : List Value} (h : PL c as vs) (hok : ∀ a ∈ as, a.okC = true) : ∀ v ∈ vs, v.oneCell' = true := by
  intro v hv
  obtain ⟨i, hi, rfl⟩ := List.getElem_of_mem hv
  have hi' : i < as.length := by rw [h.1]; exact hi
  exact (V.pure (h.2 i as[i] vs[i] (List.getElem?_eq_getElem hi') (List.getElem?_eq_getElem hi))).oneCell (hok _ (List.getElem_mem hi'))

end
end Go.Ab
/- append, copy, clear, make. -/
namespace Go.Ab
open Go

section
variable {P : Program} {w0 : World} {G X Lo : Nat → Prop} {c : Cx}

theorem flat_bytes (s : List UInt8) : (s.map fun b : UInt8 => AV.int .u8 b.toNat).flatMap AV.cells = s.map fun b : UInt8 => AV.int .u8 b.toNat := by
  induction s with
  | nil => rfl
  | cons b r ih => rw [List.map_cons, List.flatMap_cons, ih]; rfl

/-- What 'append' is handed: so many elements, these cells. -/
structure Src (P : Program) (w : World) (xT : TypeId) (val : Value) (sz n : Nat) (news : List Value) : Prop where
  ty : ∃ d, P.underlying xT = some d ∧ ∀ k, d ≠ .int k
  len : (Builtin.lenOf val).run P w = .ok n w
  len' : ∀ w', (Builtin.lenOf val).run P w' = .ok n w'
  get : ∀ w', w'.heap = w.heap → (Builtin.firstCells sz n val).run P w' = .ok news.toArray w'

theorem cell_heap {w w' : World} (h : w'.heap = w.heap) (a : Addr) : w'.cell? a = w.cell? a := by simp [World.cell?, h]

theorem src_of (h : WR w0 G X Lo c) {xT : TypeId} {x : AV} {val : Value} {xs : List AV} (hv : V c x val) (ha : appended P c.S xT x = some xs) {sz : Nat} (hsz : ∀ e ∈ xs, e.cells.length = sz) :
    ∃ news : List Value, Src P c.w xT val sz xs.length news ∧ news.length = xs.length * sz ∧ PL c (xs.flatMap AV.cells) news ∧ (∀ e ∈ xs, ∀ a ∈ e.cells, a.okC = true) := by
  unfold appended at ha
  split at ha
  · rename_i hu
    split at ha
    · rename_i s
      cases ha
      have := hv.str_inv
      subst this
      have hlen : (⟨s.toArray⟩ : ByteArray).size = s.length := by simp [ByteArray.size]
      have hsz1 : s ≠ [] → sz = 1 := by
        intro hne
        obtain ⟨b, hb⟩ := List.exists_mem_of_ne_nil _ hne
        have := hsz (.int .u8 b.toNat) (List.mem_map.2 ⟨b, hb, rfl⟩)
        simpa [AV.cells] using this.symm
      have hflat := flat_bytes s
      refine ⟨s.map fun b => .int .u8 b.toNat, ⟨⟨_, hu, by simp⟩, by simp [Builtin.lenOf, hlen], by simp [Builtin.lenOf, hlen], fun w' _ => ?_⟩, ?_, ?_, ?_⟩
      · have := @ByteArray.extract_mk
        simp only [Builtin.firstCells, List.length_map]
        have e : ((⟨s.toArray⟩ : ByteArray).extract 0 s.length).data.map (fun b => Value.int .u8 b.toNat) = (s.map fun b => Value.int .u8 (b.toNat : Int)).toArray := by
          rw [ByteArray.extract_mk]; simp
        rw [e]; rfl
      · rw [List.length_map, List.length_map]
        by_cases hne : s = []
        · subst hne; simp
        · rw [hsz1 hne, Nat.mul_one]
      · rw [hflat]
        refine ⟨by simp, fun i a v h1 h2 => ?_⟩
        rw [List.getElem?_map] at h1 h2
        cases hb : s[i]? with
        | none => rw [hb] at h1; cases h1
        | some b => rw [hb] at h1 h2; cases h1; cases h2; exact .int _ _
      · intro e he a ha
        obtain ⟨b, _, rfl⟩ := List.mem_map.1 he
        simp [AV.cells] at ha; subst ha; rfl
    · cases ha
  · rename_i e hu
    split at ha
    · cases ha
    · rename_i hns
      obtain ⟨ad, cap, vs, rfl, h1, h2, h3, h4⟩ := elems_read h hv hns ha hsz
      refine ⟨vs, ⟨⟨_, hu, by simp⟩, by simp [Builtin.lenOf], by simp [Builtin.lenOf], fun w' hw' => ?_⟩, h1, h2, h3⟩
      by_cases hne : xs = []
      · subst hne
        have : vs = [] := List.eq_nil_of_length_eq_zero (by simpa using h1)
        subst this
        cases ad <;> simp [Builtin.firstCells, loadCells, loadCellsFrom]
      · obtain ⟨b, o, rfl, h5⟩ := h4 hne
        exact run_firstCells_some w' sz xs.length ⟨b, o, none⟩ xs.length cap vs h1 (fun j v hj => by rw [cell_heap hw']; exact h5 j v hj)
  · cases ha

/-- 'append' where there is room. -/
theorem append_room {w w1 : World} {sT xT ty e : TypeId} {i : TypeInfo} (ht : P.underlying sT = some (.slice e)) (hi : P.info? e = some i) {val : Value} {n : Nat} {news : List Value}
    (hs : Src P w xT val i.size n news) (base : Option Addr) (sLen sCap : Nat) (hroom : sLen + n ≤ sCap)
    (hst : (match base with | some a => (storeCells (a.add (sLen * i.size)) news).run P w = .ok () w1 | none => w1 = w)) :
    (Builtin.append_ #[sT, xT] ty #[.slice base sLen sCap, val]).run P w = .ok (.slice base (sLen + n) sCap) w1 := by
  obtain ⟨d, hd, hni⟩ := hs.ty
  have hg := hs.get w rfl
  cases base with
  | none =>
    subst hst
    simp [Builtin.append_, run_underlying ht, run_underlying hd, sizeOf, typeInfo, hi, hs.len, hroom, hg]
  | some a =>
    simp [Builtin.append_, run_underlying ht, run_underlying hd, sizeOf, typeInfo, hi, hs.len, hroom, hg, hst]

theorem append_grow {w : World} {sT xT ty e : TypeId} {i : TypeInfo} {z : Value} (ht : P.underlying sT = some (.slice e)) (hi : P.info? e = some i) (hzv : i.zero = some z) {val : Value} {n : Nat} {news : List Value}
    (hs : Src P w xT val i.size n news) (base : Option Addr) (sLen sCap : Nat) (hroom : sCap < sLen + n) (olds : List Value)
    (hold : ∀ w', w'.heap = w.heap → (Builtin.firstCells i.size sLen (.slice base sLen sCap)).run P w' = .ok olds.toArray w')
    (hfit : (sLen + n) * i.bytes ≤ 1000000000000) (hn : sLen + n ≤ 1000000000000) :
    (Builtin.append_ #[sT, xT] ty #[.slice base sLen sCap, val]).run P w =
      .ok (.slice (some ⟨w.heap.size, 0, none⟩) (sLen + n) (grownCap w (sLen + n) sCap e))
        (w.drew.alloc (.cells (olds.toArray ++ (news.toArray ++ Builtin.zeroCells z.cells (grownCap w (sLen + n) sCap e - (sLen + n)))) e)) := by
  obtain ⟨d, hd, hni⟩ := hs.ty
  have hn' : ¬ (sLen + n ≤ sCap) := by omega
  have hfit2 : Builtin.nextslicecap (sLen + n) sCap * i.bytes ≤ 281474976710656 := growslice_fits hroom (by omega)
  have h63' : ¬ (9223372036854775807 < ((sLen : Int) + (n : Int))) := by omega
  have h48' : ¬ (281474976710656 < Builtin.nextslicecap (sLen + n) sCap * i.bytes) := by omega
  have hg := hs.get w.drew rfl
  have hfo := hold w.drew rfl
  simp [Builtin.append_, run_underlying ht, run_underlying hd, sizeOf, typeInfo, zeroValue, hi, hzv, hs.len, hn', h63', h48', Question.forced, hg, hfo, Go.newRow, grownCap]


theorem zeroOf_info {e : TypeId} (h : (zeroOf P e).isSome = true) : ∃ i z, P.info? e = some i ∧ i.zero = some z ∧ z.cells.size = i.size := by
  unfold zeroOf at h
  split at h
  · rename_i i hi
    split at h
    · rename_i z hz
      split at h
      · rename_i hok
        refine ⟨i, z, hi, hz, ?_⟩
        obtain ⟨vs, e1, e2, _⟩ := (V.pure (c := ⟨default, fun _ => False, id, []⟩) (ofVal_V z hok.1)).cells hok.1
        rw [e1]
        have : P.cellsOf e = i.size := by simp [Program.cellsOf, hi]
        rw [← this, ← hok.2, e2]; rfl
      · cases h
    · cases h
  · cases h

theorem grown_le (w : World) (need old : Nat) (e : TypeId) : need ≤ grownCap w need old e := by
  unfold grownCap Question.cut
  exact Nat.le_add_right _ _

theorem zeroCells_size (zero : Array Value) (n : Nat) : (Builtin.zeroCells zero n).size = n * zero.size := by simp [Builtin.zeroCells]

theorem PL.append {as bs : List AV} {us vs : List Value} (h : PL c as us) (h' : PL c bs vs) : PL c (as ++ bs) (us ++ vs) := by
  refine ⟨by simp [h.1, h'.1], fun i a v h1 h2 => ?_⟩
  by_cases hi : i < as.length
  · rw [List.getElem?_append_left hi] at h1
    rw [List.getElem?_append_left (by have := h.1; omega)] at h2
    exact h.2 i a v h1 h2
  · rw [List.getElem?_append_right (by omega)] at h1
    rw [List.getElem?_append_right (by have := h.1; omega), ← h.1] at h2
    exact h'.2 _ a v h1 h2

theorem PL.content {as : List AV} {us : List Value} (h : PL c as us) (rest : Array Value) : PContent c as (us.toArray ++ rest) := by
  intro k a hk
  have hlt := (List.getElem?_eq_some_iff.1 hk).1
  have hlu : k < us.length := by rw [← h.1]; exact hlt
  have hu : us[k]? = some us[k] := List.getElem?_eq_getElem hlu
  refine ⟨us[k], ?_, h.2 k a _ hk hu⟩
  rw [Array.getElem?_append_left (by simpa using hlu)]
  simp

theorem freeze_nil (bs : List (Nat × Blk)) : freeze bs [] = [] := rfl

theorem frz_nil (h : WR w0 G X Lo c) : FrzTo w0 G X Lo c c [] := ⟨rfl, h, Le.refl _, rfl, rfl⟩

theorem PContent.tail {L ps : List AV} {cells : Array Value} {vs : List Value} {o : Nat} (h : PContent c L cells) (hp : PL c ps vs) (ho : o ≤ L.length) (hle : o + vs.length ≤ cells.size) :
    PContent c (L.take o ++ ps) (cells.toList.take o ++ vs ++ cells.toList.drop (o + vs.length)).toArray := by
  intro k a hk
  rw [arr_splice_get hle]
  by_cases h1 : k < o
  · rw [List.getElem?_append_left (by rw [List.length_take]; omega), List.getElem?_take, if_pos h1] at hk
    rw [if_neg (by omega)]
    exact h k a hk
  · rw [List.getElem?_append_right (by rw [List.length_take]; omega), List.length_take, show k - min o L.length = k - o by omega] at hk
    have hlt := (List.getElem?_eq_some_iff.1 hk).1
    have hlv : k - o < vs.length := by rw [← hp.1]; exact hlt
    rw [if_pos (by omega)]
    have hv : vs[k - o]? = some vs[k - o] := List.getElem?_eq_getElem hlv
    exact ⟨_, hv, hp.2 _ _ _ hk hv⟩

theorem PContent.pl {L : List AV} {cells : Array Value} (h : PContent c L cells) {o : Nat} (ho : o ≤ L.length) : PL c (L.take o) (cells.toList.take o) := by
  have hcs := content_le (fun k a hk => let ⟨v, h1, _⟩ := h k a hk; ⟨v, h1⟩)
  have htl : cells.toList.length = cells.size := Array.length_toList
  refine ⟨by rw [List.length_take, List.length_take]; omega, fun i a v h1 h2 => ?_⟩
  rw [List.getElem?_take] at h1 h2
  split at h1
  · rename_i hi
    rw [if_pos hi, Array.getElem?_toList] at h2
    obtain ⟨u, g1, g2⟩ := h i a h1
    rw [g1] at h2; cases h2; exact g2
  · cases h1

theorem append_ok (h : WR w0 G X Lo c) {d : Option Tmp} {sT xT ty : TypeId} {s x : AV} {sv xv : Value} (hs : V c s sv) (hx : V c x xv) {v : AV} {ds : List (Nat × Blk)}
    (hr : aAppend P c.S d sT xT s x = some (.val v ds)) : MOk P w0 G X Lo c (Builtin.append_ #[sT, xT] ty #[sv, xv]) v ds := by
  unfold aAppend at hr
  split at hr
  · rename_i e hu
    split at hr
    · rename_i xs hxs
      split at hr
      · rename_i hc
        have hsz := all_sz hc.1
        obtain ⟨i, z, hi, hz, hzs⟩ := zeroOf_info hc.2.2
        have hcs : P.cellsOf e = i.size := by simp [Program.cellsOf, hi]
        rw [hcs] at hsz
        have hbo : P.bytesOf e = i.bytes := by simp [Program.bytesOf, hi]
        obtain ⟨news, hsrc, hnl, hpl, hok⟩ := src_of h hx hxs hsz
        split at hr
        · rename_i cc es
          obtain ⟨a, n0, cap, rfl, hn0, hcap0, hcc0⟩ : ∃ a n0 cap, sv = .slice a n0 cap ∧ n0 = es.length ∧ es.length ≤ cap ∧ (cc = true → cap = es.length) := by
            have := hs.slc_inv; cases this; exact ⟨_, _, _, rfl, rfl, by assumption, by assumption⟩
          subst hn0
          split at hr
          · rename_i he
            cases hr
            have hxe : xs = [] := by simpa using he
            subst hxe
            have hne : news = [] := List.eq_nil_of_length_eq_zero (by simpa using hnl)
            subst hne
            refine ⟨_, c, append_room (w1 := c.w) hu hi hsrc a es.length cap (by simpa using hcap0) (by cases a <;> simp [storeCells]), rfl, h, Le.refl _, ?_⟩
            simpa using hs
          · rename_i he
            split at hr
            · rename_i hg
              have hall := all_sz hg.2.2
              rw [hcs] at hall
              have hcap := hcc0 hg.1
              subst hcap
              have hfit := hg.2.1
              simp only [bytesFit, decide_eq_true_eq, hbo] at hfit
              have hpos : 0 < xs.length := by
                rcases Nat.eq_zero_or_pos xs.length with h0 | h0
                · exact absurd (by simp [List.eq_nil_of_length_eq_zero h0]) he
                · exact h0
              obtain ⟨ad, cap', olds, e1, o1, o2, o3, o4⟩ := elems_read (es := es) h hs (by simp) rfl hall
              cases e1
              have hold : ∀ w', w'.heap = c.w.heap → (Builtin.firstCells i.size es.length (.slice a es.length es.length)).run P w' = .ok olds.toArray w' := by
                intro w' hw'
                by_cases hne : es = []
                · subst hne
                  have : olds = [] := List.eq_nil_of_length_eq_zero (by simpa using o1)
                  subst this
                  cases a <;> simp [Builtin.firstCells, loadCells, loadCellsFrom]
                · obtain ⟨b, o, rfl, h5⟩ := o4 hne
                  exact run_firstCells_some w' i.size es.length ⟨b, o, none⟩ es.length es.length olds o1 (fun j v hj => by rw [cell_heap hw']; exact h5 j v hj)
              have hrun := append_grow (ty := ty) hu hi hz hsrc a es.length es.length (by omega) olds hold hfit.1 hfit.2.1
              have hgl := grown_le c.w (es.length + xs.length) es.length e
              have hsize : ((olds.toArray ++ (news.toArray ++ Builtin.zeroCells z.cells (grownCap c.w (es.length + xs.length) es.length e - (es.length + xs.length))))).size = grownCap c.w (es.length + xs.length) es.length e * i.size := by
                simp only [Array.size_append, List.size_toArray, zeroCells_size, hzs, o1, hnl]
                rw [← Nat.add_assoc, ← Nat.add_mul, ← Nat.add_mul]
                congr 1
                omega
              rw [hcs, ← freeze_nil c.S] at hr
              obtain ⟨c1, k1, k2, k3, k4, k5⟩ := row_push (frz_nil h) c.w.drew rfl rfl rfl hr _ e 0 0 (.inl rfl)
                (fun y hy => by
                  rcases List.mem_append.1 hy with hy | hy
                  · exact ⟨hall y hy, o3 y hy⟩
                  · exact ⟨hsz y hy, hok y hy⟩)
                (by
                  rw [List.flatMap_append]
                  have := (o2.append hpl).content (Builtin.zeroCells z.cells (grownCap c.w (es.length + xs.length) es.length e - (es.length + xs.length)))
                  have e2 : (olds ++ news).toArray ++ Builtin.zeroCells z.cells (grownCap c.w (es.length + xs.length) es.length e - (es.length + xs.length)) =
                    olds.toArray ++ (news.toArray ++ Builtin.zeroCells z.cells (grownCap c.w (es.length + xs.length) es.length e - (es.length + xs.length))) := by
                    apply Array.ext'; simp
                  rw [e2] at this
                  exact this)
                (grownCap c.w (es.length + xs.length) es.length e) (by simpa using hgl) (by rw [hsize]; exact Nat.le_refl _)
              refine ⟨.slice (some ⟨c.w.heap.size, 0, none⟩) (es.length + xs.length) (grownCap c.w (es.length + xs.length) es.length e), c1, ?_, k2, k3, k4, ?_⟩
              · rw [hrun, k1]; rfl
              · simpa using k5
            · cases hr
        · rename_i b v0 off len
          split at hr
          · rename_i blk hb
            split at hr
            · rename_i hk
              obtain ⟨h1, h2, h3⟩ := ldBlk_some hb
              obtain ⟨x', hx1, hx2, hx3⟩ := hs.sref_inv
              have : blk = x' := Option.some.inj (h1.symm.trans hx1)
              subst this
              obtain ⟨cap, cells0, tt, fr0, rfl, e2, e3, e4, e5⟩ := hx3 h2.symm hk.1
              have hbsz : blk.sz = i.size := by rw [hk.2.2, hcs]
              split at hr
              · rename_i he
                cases hr
                have hxe : xs = [] := by simpa using he
                subst hxe
                have hne : news = [] := List.eq_nil_of_length_eq_zero (by simpa using hnl)
                subst hne
                refine ⟨_, c, append_room (w1 := c.w) hu hi hsrc _ len cap (by simpa using e3) (by simp [storeCells]), rfl, h, Le.refl _, ?_⟩
                simpa using hs
              · rename_i he
                split at hr
                · cases hr
                · rename_i hfz
                  have hfz : blk.fz = false := by simpa using hfz
                  have hel := row_elems h h1 hk.1
                  have hue : ∀ e ∈ blk.es, e.cells.length = blk.sz := fun e he => (hel e he).1
                  have hfl := flat_len hue
                  have hone := hpl.one (fun a ha => by
                    obtain ⟨y, hy, hy2⟩ := List.mem_flatMap.1 ha
                    exact hok y hy a hy2)
                  have hxfl : (xs.flatMap AV.cells).length = xs.length * blk.sz := by rw [hbsz]; exact flat_len hsz
                  split at hr
                  · rename_i hin
                    cases hr
                    have hm1 : (off + len) * blk.sz + xs.length * blk.sz ≤ blk.es.length * blk.sz := by
                      rw [← Nat.add_mul]; exact Nat.mul_le_mul_right _ hin
                    obtain ⟨c1, g1, g2, g3, g4⟩ := row_write (P := P) h h1 hk.1 hfz hpl hone (o := (off + len) * blk.sz) (es' := blk.es.take (off + len) ++ (xs ++ blk.es.drop (off + len + xs.length)))
                      (by rw [hfl, hxfl]; exact hm1) (by simp only [List.length_append, List.length_take, List.length_drop]; omega)
                      (by
                        rw [List.flatMap_append, List.flatMap_append, flat_take hue, flat_drop hue, hxfl, ← Nat.add_mul])
                      (fun y hy => by
                        rcases List.mem_append.1 hy with hy | hy
                        · exact hel y (List.mem_of_mem_take hy)
                        · rcases List.mem_append.1 hy with hy | hy
                          · exact ⟨by rw [hbsz]; exact hsz y hy, hok y hy⟩
                          · exact hel y (List.mem_of_mem_drop hy))
                    have hroom : len + xs.length ≤ cap := by omega
                    have hadd : (⟨c.R b, off * blk.sz, none⟩ : Addr).add (len * i.size) = ⟨c.R b, (off + len) * blk.sz, none⟩ := by
                      rw [add_zero _ _ rfl, hbsz, Nat.add_mul]
                    refine ⟨.slice (some ⟨c.R b, off * blk.sz, none⟩) (len + xs.length) cap, c1, append_room (w1 := c1.w) hu hi hsrc _ len cap hroom (by simp only [hadd]; exact g1), g2, g3, g4, ?_⟩
                    have hb1 : look c1.S b = some { blk with es := blk.es.take (off + len) ++ (xs ++ blk.es.drop (off + len + xs.length)) } := by rw [g2]; simp [look_cons]
                    obtain ⟨xx, y1, y2, y3⟩ := g4.hS b blk h1
                    have : xx = { blk with es := blk.es.take (off + len) ++ (xs ++ blk.es.drop (off + len + xs.length)) } := Option.some.inj (y1.symm.trans hb1)
                    subst this
                    obtain ⟨z1, z2, z3, z4, _, z5⟩ := y3 rfl (by show blk.k ≠ .dead; exact h3)
                    obtain ⟨cells1, t1, f1, z6, z7⟩ := z5 _ _ _ e4
                    refine .sref _ _ _ _ _ rfl _ hb1 (by show v0 ≤ blk.v; omega) (fun _ _ => ⟨cap, cells1, t1, f1, by rw [z2], ?_, hroom, z6, by rw [z7]; exact e5⟩)
                    rw [z4 hk.1]; exact e2
                  · rename_i hin
                    split at hr
                    · rename_i hoff
                      split at hr
                      · rename_i k hkey
                        cases hr
                        have hoff0 := hoff.1
                        subst hoff0
                        have hfit := hoff.2
                        simp only [bytesFit, decide_eq_true_eq, hbo] at hfit
                        obtain ⟨cells, t, lo, hi', g1, g2, _, g4⟩ := (h.blk b blk h1 h3).here
                        obtain ⟨g5, g6⟩ := g4 hk.1
                        rw [e4] at g1
                        injection g1 with g1
                        injection g1 with g11 g12 g13
                        subst g11; subst g12; subst g13
                        have hlen : len ≤ blk.es.length := by omega
                        have hmlen : len * blk.sz ≤ blk.es.length * blk.sz := Nat.mul_le_mul_right _ hlen
                        have hnl' : news.length = xs.length * blk.sz := by rw [hnl, hbsz]
                        simp only [Nat.zero_mul, Nat.zero_add] at e5 e2 hin
                        have hel' : ∀ y ∈ blk.es.take len ++ xs, y.cells.length = blk.sz ∧ ∀ a ∈ y.cells, a.okC = true := by
                          intro y hy
                          rcases List.mem_append.1 hy with hy | hy
                          · exact hel y (List.mem_of_mem_take hy)
                          · exact ⟨by rw [hbsz]; exact hsz y hy, hok y hy⟩
                        have hflat' : (blk.es.take len ++ xs).flatMap AV.cells = (blk.es.flatMap AV.cells).take (len * blk.sz) ++ xs.flatMap AV.cells := by
                          rw [List.flatMap_append, flat_take hue]
                        have hlen' : (blk.es.take len ++ xs).length = len + xs.length := by rw [List.length_append, List.length_take]; omega
                        by_cases hroom : len + xs.length ≤ cap
                        · have hm2 : (len + xs.length) * blk.sz ≤ cap * blk.sz := Nat.mul_le_mul_right _ hroom
                          rw [Nat.add_mul] at hm2
                          have hle : len * blk.sz + news.length ≤ cells0.size := by rw [hnl']; omega
                          have hrun := run_storeCells (P := P) (c.R b) (len * blk.sz) tt lo hi' news 0 cells0 c.w e4 (fr_ok g2) (by omega) hone
                          simp only [Nat.add_zero] at hrun
                          have hss := arr_splice_size hle
                          obtain ⟨k1, k2⟩ := h.regrow b blk { v := nextV c.S k, k := .row, fz := false, sz := blk.sz, es := blk.es.take len ++ xs } h1 h3 hfz k rfl rfl rfl
                            cells0 _ tt tt (lo, hi') lo hi' e4 (by rw [hss]; exact g2) _ (setRow_heap_eq c.w (c.R b) cells0 _ tt (lo, hi') e4) rfl rfl
                            ⟨hel', by
                              show PContent c ((blk.es.take len ++ xs).flatMap AV.cells) _
                              rw [hflat']
                              exact g6.tail hpl (by rw [hfl]; exact hmlen) hle⟩
                          have hadd : (⟨c.R b, 0 * blk.sz, none⟩ : Addr).add (len * i.size) = ⟨c.R b, len * blk.sz, none⟩ := by
                            rw [add_zero _ _ rfl, hbsz]; simp
                          refine ⟨.slice (some ⟨c.R b, 0 * blk.sz, none⟩) (len + xs.length) cap, _, append_room hu hi hsrc _ len cap hroom (by simp only [hadd]; exact hrun), ?_, k1, k2, ?_⟩
                          · show (k, _) :: deadIf k b blk c.S = _
                            unfold deadIf
                            split <;> rfl
                          · refine .sref _ _ _ _ _ rfl { v := nextV c.S k, k := .row, fz := false, sz := blk.sz, es := blk.es.take len ++ xs } (by simp [look_cons]) (Nat.le_refl _) (fun _ _ => ⟨cap, (cells0.toList.take (len * blk.sz) ++ news ++ cells0.toList.drop (len * blk.sz + news.length)).toArray, tt, (lo, hi'), ?_, ?_, hroom, ?_, ?_⟩)
                            · show Value.slice (some ⟨c.R b, _, none⟩) _ _ = Value.slice (some ⟨updR c.R k (c.R b) k, _, none⟩) _ _
                              simp [updR]
                            · show (blk.es.take len ++ xs).length ≤ _
                              rw [hlen']; omega
                            · show (c.w.setRow (c.R b) _).heap[updR c.R k (c.R b) k]? = _
                              simp only [updR, if_true]
                              exact setRow_heap c.w (c.R b) cells0 _ tt (lo, hi') e4
                            · show (0 + cap) * blk.sz ≤ _
                              rw [hss, Nat.zero_add]; exact e5
                        · -- a new row; the old one is no more
                          have hpl0 := g6.pl (o := len * blk.sz) (by rw [hfl]; exact hmlen)
                          have hcs := content_le (fun k a hk => let ⟨v, h1, _⟩ := g6 k a hk; ⟨v, h1⟩)
                          rw [hfl] at hcs
                          have htl : cells0.toList.length = cells0.size := Array.length_toList
                          have hol : (cells0.toList.take (len * blk.sz)).length = len * i.size := by rw [List.length_take, ← hbsz]; omega
                          have hold : ∀ w', w'.heap = c.w.heap → (Builtin.firstCells i.size len (.slice (some ⟨c.R b, 0 * blk.sz, none⟩) len cap)).run P w' = .ok (cells0.toList.take (len * blk.sz)).toArray w' := by
                            intro w' hw'
                            refine run_firstCells_some w' i.size len ⟨c.R b, 0 * blk.sz, none⟩ len cap _ hol (fun j v hj => ?_)
                            rw [add_zero _ _ rfl, cell_heap hw']
                            rw [List.getElem?_take] at hj
                            split at hj
                            · rw [Array.getElem?_toList] at hj
                              simp [World.cell?, e4, hj]
                            · cases hj
                          have hrun := append_grow (ty := ty) hu hi hz hsrc (some ⟨c.R b, 0 * blk.sz, none⟩) len cap (by omega) _ hold hfit.1 hfit.2.1
                          have hgl := grown_le c.w (len + xs.length) cap e
                          have hsize : (((cells0.toList.take (len * blk.sz)).toArray ++ (news.toArray ++ Builtin.zeroCells z.cells (grownCap c.w (len + xs.length) cap e - (len + xs.length))))).size = grownCap c.w (len + xs.length) cap e * i.size := by
                            simp only [Array.size_append, List.size_toArray, zeroCells_size, hzs, hol, hnl]
                            rw [← Nat.add_assoc, ← Nat.add_mul, ← Nat.add_mul]
                            congr 1
                            omega
                          have hcont : PContent c ((blk.es.take len ++ xs).flatMap AV.cells) ((cells0.toList.take (len * blk.sz)).toArray ++ (news.toArray ++ Builtin.zeroCells z.cells (grownCap c.w (len + xs.length) cap e - (len + xs.length)))) := by
                            rw [hflat']
                            have := (hpl0.append hpl).content (Builtin.zeroCells z.cells (grownCap c.w (len + xs.length) cap e - (len + xs.length)))
                            have e2 : (cells0.toList.take (len * blk.sz) ++ news).toArray ++ Builtin.zeroCells z.cells (grownCap c.w (len + xs.length) cap e - (len + xs.length)) =
                              (cells0.toList.take (len * blk.sz)).toArray ++ (news.toArray ++ Builtin.zeroCells z.cells (grownCap c.w (len + xs.length) cap e - (len + xs.length))) := by
                              apply Array.ext'; simp
                            rw [e2] at this
                            exact this
                          have hkill : ∃ cK, cK.S = (if k = b then [] else [(b, { blk with k := .dead })]) ++ c.S ∧ WR w0 G X Lo cK ∧ Le c cK ∧ cK.w = c.w ∧ cK.R = c.R ∧ nextV cK.S k = nextV c.S k := by
                            by_cases hkb : k = b
                            · rw [if_pos hkb]
                              exact ⟨c, rfl, h, Le.refl _, rfl, rfl, rfl⟩
                            · rw [if_neg hkb]
                              obtain ⟨q1, q2⟩ := h.setA b blk { blk with k := .dead } h1 rfl rfl rfl (.inr rfl) (.inl rfl)
                              refine ⟨_, rfl, q1, q2, rfl, rfl, ?_⟩
                              show nextV ((b, _) :: c.S) k = _
                              simp only [nextV, look_cons]
                              rw [if_neg (fun h => hkb h.symm)]
                          obtain ⟨cK, q1, q2, q3, q4, q5, q6⟩ := hkill
                          obtain ⟨p1, p2⟩ := q2.push c.w.drew (by rw [q4]; rfl) (by rw [q4]; rfl) (by rw [q4]; rfl) k { v := nextV c.S k, k := .row, fz := false, sz := blk.sz, es := blk.es.take len ++ xs } q6.symm (by simp) rfl
                            _ e 0 0 (.inl rfl) (fun hh => by cases hh) (fun _ => ⟨hel', hcont.mono q3⟩)
                          refine ⟨.slice (some ⟨c.w.heap.size, 0, none⟩) (len + xs.length) (grownCap c.w (len + xs.length) cap e), _, ?_, ?_, p1, q3.trans p2, ?_⟩
                          · rw [hrun]; rfl
                          · show (k, _) :: cK.S = _; rw [q1]; rfl
                          · refine .sref _ _ _ _ _ rfl { v := nextV c.S k, k := .row, fz := false, sz := blk.sz, es := blk.es.take len ++ xs } (by simp [look_cons]) (Nat.le_refl _) (fun _ _ => ⟨grownCap c.w (len + xs.length) cap e, (cells0.toList.take (len * blk.sz)).toArray ++ (news.toArray ++ Builtin.zeroCells z.cells (grownCap c.w (len + xs.length) cap e - (len + xs.length))), e, (0, 0), ?_, ?_, hgl, ?_, ?_⟩)
                            · show Value.slice (some ⟨c.w.heap.size, _, none⟩) _ _ = Value.slice (some ⟨updR cK.R k cK.w.heap.size k, _, none⟩) _ _
                              simp [updR, q4]
                            · show (blk.es.take len ++ xs).length ≤ _
                              rw [hlen']; omega
                            · show (c.w.drew.heap.push _)[updR cK.R k cK.w.heap.size k]? = _
                              simp only [updR, if_true, q4]
                              exact Array.getElem?_push_size
                            · show (0 + _) * blk.sz ≤ _
                              rw [hsize, Nat.zero_add, hbsz]; exact Nat.le_refl _
                      · cases hr
                    · cases hr
            · cases hr
          · cases hr
        · cases hr
      · cases hr
    · cases hr
  · cases hr

end
end Go.Ab
/- copy, clear, make, a slice written out, bytes of a text. -/
namespace Go.Ab
open Go

section
variable {P : Program} {w0 : World} {G X Lo : Nat → Prop} {c : Cx}

theorem zero_get {z : AV} {n k : Nat} (hk : k < n * z.cells.length) : ((List.replicate n z).flatMap AV.cells)[k]? = z.cells[k % z.cells.length]? := by
  have hpos : 0 < z.cells.length := by
    rcases Nat.eq_zero_or_pos z.cells.length with h | h
    · rw [h] at hk; omega
    · exact h
  have hdiv : k / z.cells.length < n := by rw [Nat.div_lt_iff_lt_mul hpos]; exact hk
  have := flat_get (es := List.replicate n z) (sz := z.cells.length) (fun e he => by rw [(List.mem_replicate.1 he).2]) (i := k / z.cells.length) (e := z) (by simp [List.getElem?_replicate, hdiv]) (j := k % z.cells.length) (Nat.mod_lt _ hpos)
  rw [Nat.mul_comm, Nat.div_add_mod] at this
  exact this

/-- So many zeros. -/
theorem zero_PL {z : AV} {zv : Value} (h : PV c.w c.F z zv) (hok : z.cells.all AV.okC = true) (n : Nat) :
    PL c ((List.replicate n z).flatMap AV.cells) (Builtin.zeroCells zv.cells n).toList ∧ zv.cells.size = z.cells.length := by
  have hcells : ∃ vs : List Value, zv.cells = vs.toArray ∧ z.cells.length = vs.length ∧ ∀ (i : Nat) b u, z.cells[i]? = some b → vs[i]? = some u → PV c.w c.F b u := by
    by_cases hagg : ∃ cs, z = .agg cs
    · obtain ⟨cs, rfl⟩ := hagg
      cases h with
      | agg _ vs hl hc hp => exact ⟨vs, rfl, hl, hp⟩
    · have hcs : z.cells = [z] := by cases z <;> first | rfl | exact absurd ⟨_, rfl⟩ hagg
      rw [hcs] at hok ⊢
      have h1 := (V.pure h).oneCell (by simpa using hok)
      refine ⟨[zv], cells_one h1, rfl, fun i b u h2 h3 => ?_⟩
      cases i with
      | zero => simp at h2 h3; subst h2; subst h3; exact h
      | succ i => simp at h2
  obtain ⟨vs, e1, e2, e3⟩ := hcells
  have hsz : zv.cells.size = z.cells.length := by rw [e1, e2]; rfl
  have hl : ((List.replicate n z).flatMap AV.cells).length = n * z.cells.length := by
    rw [flat_len (sz := z.cells.length) (fun e he => by rw [(List.mem_replicate.1 he).2]), List.length_replicate]
  refine ⟨⟨?_, fun i a v h1 h2 => ?_⟩, hsz⟩
  · have e : (Builtin.zeroCells zv.cells n).toList.length = (Builtin.zeroCells zv.cells n).size := Array.length_toList
    rw [hl, e, zeroCells_size, hsz]
  · have hi : i < n * z.cells.length := by rw [← hl]; exact (List.getElem?_eq_some_iff.1 h1).1
    rw [zero_get hi] at h1
    have hpos : 0 < z.cells.length := by
      rcases Nat.eq_zero_or_pos z.cells.length with h | h
      · rw [h] at hi; omega
      · exact h
    have hm : i % z.cells.length < vs.length := by rw [← e2]; exact Nat.mod_lt _ hpos
    refine e3 _ a v h1 ?_
    rw [Array.getElem?_toList] at h2
    simp only [Builtin.zeroCells, hsz, Array.getElem?_map, Array.getElem?_range, hi, if_true, Option.map_some] at h2
    rw [← h2, List.getElem?_eq_getElem hm, e1]
    congr 1
    simp [hm]

theorem make_ok (h : WR w0 G X Lo c) {d : Option Tmp} {t : TypeId} {l m : AV} {lv mv : Value} (hl : V c l lv) (hm : V c m mv) {v : AV} {ds : List (Nat × Blk)}
    (hr : aMakeSlice P c.S d t l m = some (.val v ds)) : MOk P w0 G X Lo c (Instr.makeSlice t lv mv) v ds := by
  unfold aMakeSlice at hr
  split at hr
  · rename_i e hu
    split at hr
    · rename_i k n
      split at hr
      · rename_i k' n'
        split at hr
        · rename_i z hz
          split at hr
          · rename_i hc
            obtain ⟨hnm, h0, h1, hfit, hne⟩ := hc
            subst hnm
            rw [hl.int_inv, hm.int_inv]
            obtain ⟨zv, g1, g2, g3, g4⟩ := zeroOf_ok (c := c) c.w hz
            obtain ⟨ti, hti⟩ := info_of_cells hne
            have hcs : P.cellsOf e = ti.size := by simp [Program.cellsOf, hti]
            have hbo : P.bytesOf e = ti.bytes := by simp [Program.bytesOf, hti]
            simp only [bytesFit, decide_eq_true_eq, hbo] at hfit
            obtain ⟨p1, p2⟩ := zero_PL (c := c) g2 g3 n.toNat
            rw [← freeze_nil c.S] at hr
            have hsize : (Builtin.zeroCells zv.cells n.toNat).size = n.toNat * P.cellsOf e := by rw [zeroCells_size, p2, g4]
            obtain ⟨c1, k1, k2, k3, k4, k5⟩ := row_push (frz_nil h) c.w rfl rfl rfl hr (Builtin.zeroCells zv.cells n.toNat) e 0 0 (.inl rfl)
              (fun y hy => by rw [(List.mem_replicate.1 hy).2]; exact ⟨g4, fun a ha => List.all_eq_true.1 g3 a ha⟩)
              (by
                have := p1.content #[]
                simpa using this)
              n.toNat (by simp) (by rw [hsize]; exact Nat.le_refl _)
            have hw : IntKind.i64.wrap n = n := by
              unfold IntKind.wrap
              simp [IntKind.bits, IntKind.signed]
              omega
            have hbig : ¬ ((ti.bytes : Int) * n > 2 ^ 48) := by
              have : (ti.bytes : Int) * n = ((ti.bytes * n.toNat : Nat) : Int) := by rw [Int.natCast_mul, Int.toNat_of_nonneg h0]
              rw [this]
              have := hfit.1
              rw [Nat.mul_comm] at this
              omega
            refine ⟨.slice (some ⟨c.w.heap.size, 0, none⟩) n.toNat n.toNat, c1, ?_, k2, k3, k4, by simpa using k5⟩
            rw [k1]
            have hz2 : zv.cells.size = ti.size := by rw [p2, g4, hcs]
            have hneg : ¬ n < 0 := by omega
            have hbig' : ¬ (281474976710656 < (ti.bytes : Int) * n) := by simpa using hbig
            by_cases h00 : n.toNat = 0
            · have hn0 : n = 0 := by omega
              subst hn0
              have hz : Builtin.zeroCells zv.cells 0 = #[] := by simp [Builtin.zeroCells]
              simp [Instr.makeSlice, run_underlying hu, asInt, asIntOf, typeInfo, hti, sizeOf, hw, Go.newRow, hz]
              have : Array.map (fun _ => (default : Value)) (Array.range 0) = #[] := by apply Array.ext' ; simp [Array.range]
              rw [this]
            · have hts : ti.size ≠ 0 := by rw [← hcs]; exact hne
              have hrow : (Array.range (n.toNat * ti.size)).map (fun x => zv.cells[x % zv.cells.size]!) = Builtin.zeroCells zv.cells n.toNat := by
                unfold Builtin.zeroCells; rw [hz2]
              simp [Instr.makeSlice, run_underlying hu, asInt, asIntOf, typeInfo, hti, sizeOf, hw, Go.newRow, hneg, hbig', g1, hrow]
              intro h9
              rcases Nat.mul_eq_zero.1 h9 with h9 | h9
              · exact absurd h9 h00
              · exact absurd h9 hts
          · cases hr
        · cases hr
      · cases hr
    · cases hr
  · cases hr


theorem PL.take {as : List AV} {us : List Value} (h : PL c as us) (n : Nat) : PL c (as.take n) (us.take n) := by
  refine ⟨by simp [h.1], fun i a v h1 h2 => ?_⟩
  rw [List.getElem?_take] at h1 h2
  split at h1
  · rename_i hi; rw [if_pos hi] at h2; exact h.2 i a v h1 h2
  · cases h1

theorem run_first {w : World} {val : Value} {ad : Option Addr} {n cap sz m : Nat} {vs : List Value} (hval : val = .slice ad n cap) (hl : vs.length = n * sz) (hm : m ≤ n)
    (hget : n ≠ 0 → ∃ b o, ad = some ⟨b, o, none⟩ ∧ ∀ (j : Nat) v, vs[j]? = some v → w.cell? ((⟨b, o, none⟩ : Addr).add j) = some v) :
    (Builtin.firstCells sz m val).run P w = .ok (vs.take (m * sz)).toArray w := by
  subst hval
  by_cases hn : n = 0
  · subst hn
    have : m = 0 := by omega
    subst this
    cases ad <;> simp [Builtin.firstCells, loadCells, loadCellsFrom]
  · obtain ⟨b, o, rfl, hg⟩ := hget hn
    have hmn : m * sz ≤ n * sz := Nat.mul_le_mul_right _ hm
    refine run_firstCells_some w sz m ⟨b, o, none⟩ n cap _ (by rw [List.length_take]; omega) (fun j v hj => ?_)
    rw [List.getElem?_take] at hj
    split at hj
    · exact hg j v hj
    · cases hj

theorem copy_ok (h : WR w0 G X Lo c) {dT xT ty : TypeId} {s x : AV} {sv xv : Value} (hs : V c s sv) (hx : V c x xv) {v : AV} {ds : List (Nat × Blk)}
    (hr : aCopy P c.S dT s x = some (.val v ds)) : MOk P w0 G X Lo c (Builtin.copy_ #[dT, xT] ty #[sv, xv]) v ds := by
  unfold aCopy at hr
  split at hr
  · rename_i e hu
    split at hr
    · rename_i xs hxs
      split at hr
      · rename_i b v0 off len
        split at hr
        · rename_i blk hb
          split at hr
          · rename_i hk
            cases hr
            obtain ⟨hne, hkr, hle, hfz, hbs, hall⟩ := hk
            have hsz := all_sz hall
            rw [← hbs] at hsz
            obtain ⟨ti, hti⟩ := info_of_cells hne
            have hcs : P.cellsOf e = ti.size := by simp [Program.cellsOf, hti]
            obtain ⟨h1, h2, h3⟩ := ldBlk_some hb
            obtain ⟨x', hx1, hx2, hx3⟩ := hs.sref_inv
            have : blk = x' := Option.some.inj (h1.symm.trans hx1)
            subst this
            obtain ⟨cap, cells0, tt, fr0, rfl, e2, e3, e4, e5⟩ := hx3 h2.symm hkr
            have hns : ∀ s, x ≠ .str s := by rintro s rfl; cases hxs
            have hxs' : elemsOf c.S x = some xs := by cases x <;> first | exact hxs | cases hxs
            obtain ⟨ad, cap', vs, rfl, q1, q2, q3, q4⟩ := elems_read h hx hns hxs' hsz
            have hel := row_elems h h1 hkr
            have hue : ∀ e ∈ blk.es, e.cells.length = blk.sz := fun e he => (hel e he).1
            have hfl := flat_len hue
            have hmn : min xs.length len ≤ xs.length := Nat.min_le_left _ _
            have hfirst := run_first (P := P) (w := c.w) (cap := cap') (ad := ad) (m := min xs.length len) rfl q1 hmn (fun hn => q4 (by rintro rfl; simp at hn))
            have hp := q2.take (min xs.length len * blk.sz)
            have hone := hp.one (fun a ha => by
              obtain ⟨y, hy, hy2⟩ := List.mem_flatMap.1 (List.mem_of_mem_take ha)
              exact q3 y hy a hy2)
            have hpl : ((xs.flatMap AV.cells).take (min xs.length len * blk.sz)).length = min xs.length len * blk.sz := by
              rw [List.length_take, flat_len hsz]
              have := Nat.mul_le_mul_right blk.sz hmn
              omega
            have hm1 : off * blk.sz + min xs.length len * blk.sz ≤ blk.es.length * blk.sz := by
              rw [← Nat.add_mul]; exact Nat.mul_le_mul_right _ (by omega)
            obtain ⟨c1, g1, g2, g3, g4⟩ := row_write (P := P) h h1 hkr hfz hp hone (o := off * blk.sz) (es' := blk.es.take off ++ (xs.take (min xs.length len) ++ blk.es.drop (off + min xs.length len)))
              (by rw [hfl, hpl]; exact hm1) (by simp only [List.length_append, List.length_take, List.length_drop]; omega)
              (by rw [List.flatMap_append, List.flatMap_append, flat_take hue, flat_take hsz, flat_drop hue, hpl, ← Nat.add_mul])
              (fun y hy => by
                rcases List.mem_append.1 hy with hy | hy
                · exact hel y (List.mem_of_mem_take hy)
                · rcases List.mem_append.1 hy with hy | hy
                  · have := List.mem_of_mem_take hy; exact ⟨hsz y this, q3 y this⟩
                  · exact hel y (List.mem_of_mem_drop hy))
            refine ⟨.int .i64 (min xs.length len : Nat), c1, ?_, g2, g3, g4, .pure (.int _ _)⟩
            rw [hbs, hcs] at hfirst g1
            rw [hbs, hcs]
            have hmin : Nat.min xs.length len = min xs.length len := rfl
            simp [Builtin.copy_, run_underlying hu, sizeOf, typeInfo, hti, Builtin.lenOf, hfirst, g1, goInt, hmin]
          · cases hr
        · cases hr
      · cases hr
    · cases hr
  · cases hr

theorem clear_ok (h : WR w0 G X Lo c) {t ty : TypeId} {ts : List TypeId} {x : AV} {xv : Value} {xs : List Value} (hx : V c x xv) {v : AV} {ds : List (Nat × Blk)}
    (hr : aClear P c.S t x = some (.val v ds)) : MOk P w0 G X Lo c (Builtin.clear_ (t :: ts).toArray ty (xv :: xs).toArray) v ds := by
  unfold aClear at hr
  split at hr
  · rename_i e hu
    split at hr
    · cases hr
      obtain ⟨a, n, cap, rfl, hn⟩ : ∃ a n cap, xv = .slice a n cap ∧ n = 0 := by
        have := hx.slc_inv; cases this; exact ⟨_, _, _, rfl, rfl⟩
      subst hn
      refine ⟨.tuple #[], c, ?_, rfl, h, Le.refl _, .pure (.tup [] [] rfl (fun _ _ _ h => by simp at h))⟩
      cases a <;> simp [Builtin.clear_, run_underlying hu]
    · rename_i b v0 off len
      split at hr
      · rename_i blk hb
        split at hr
        · rename_i z hz
          split at hr
          · rename_i hk
            cases hr
            obtain ⟨hne, hkr, hle, hfz, hbs⟩ := hk
            obtain ⟨ti, hti⟩ := info_of_cells hne
            obtain ⟨zv, g1, g2, g3, g4⟩ := zeroOf_ok (c := c) c.w hz
            obtain ⟨h1, h2, h3⟩ := ldBlk_some hb
            obtain ⟨x', hx1, hx2, hx3⟩ := hx.sref_inv
            have : blk = x' := Option.some.inj (h1.symm.trans hx1)
            subst this
            obtain ⟨cap, cells0, tt, fr0, rfl, e2, e3, e4, e5⟩ := hx3 h2.symm hkr
            have hel := row_elems h h1 hkr
            have hue : ∀ e ∈ blk.es, e.cells.length = blk.sz := fun e he => (hel e he).1
            have hfl := flat_len hue
            obtain ⟨p1, p2⟩ := zero_PL (c := c) g2 g3 len
            have hzl : ((List.replicate len z).flatMap AV.cells).length = len * blk.sz := by
              rw [flat_len (sz := z.cells.length) (fun e he => by rw [(List.mem_replicate.1 he).2]), List.length_replicate, g4, hbs]
            have hone := p1.one (fun a ha => by
              obtain ⟨y, hy, hy2⟩ := List.mem_flatMap.1 ha
              rw [(List.mem_replicate.1 hy).2] at hy2
              exact List.all_eq_true.1 g3 a hy2)
            have hzs : ∀ y ∈ List.replicate len z, y.cells.length = blk.sz := fun y hy => by rw [(List.mem_replicate.1 hy).2, g4, hbs]
            have hm1 : off * blk.sz + len * blk.sz ≤ blk.es.length * blk.sz := by
              rw [← Nat.add_mul]; exact Nat.mul_le_mul_right _ hle
            obtain ⟨c1, k1, k2, k3, k4⟩ := row_write (P := P) h h1 hkr hfz p1 hone (o := off * blk.sz) (es' := blk.es.take off ++ (List.replicate len z ++ blk.es.drop (off + len)))
              (by rw [hfl, hzl]; exact hm1) (by simp only [List.length_append, List.length_take, List.length_drop, List.length_replicate]; omega)
              (by rw [List.flatMap_append, List.flatMap_append, flat_take hue, flat_drop hue, hzl, ← Nat.add_mul])
              (fun y hy => by
                rcases List.mem_append.1 hy with hy | hy
                · exact hel y (List.mem_of_mem_take hy)
                · rcases List.mem_append.1 hy with hy | hy
                  · exact ⟨hzs y hy, by rw [(List.mem_replicate.1 hy).2]; exact fun a ha => List.all_eq_true.1 g3 a ha⟩
                  · exact hel y (List.mem_of_mem_drop hy))
            refine ⟨.tuple #[], c1, ?_, k2, k3, k4, .pure (.tup [] [] rfl (fun _ _ _ h => by simp at h))⟩
            by_cases hl0 : len = 0
            · subst hl0
              have hz0 : Builtin.zeroCells zv.cells 0 = #[] := by simp [Builtin.zeroCells]
              rw [hz0] at k1
              simp [storeCells] at k1
              simp [Builtin.clear_, run_underlying hu, k1]
            · simp [Builtin.clear_, run_underlying hu, g1, k1, hl0]
          · cases hr
        · cases hr
      · cases hr
    · cases hr
  · cases hr


theorem setAll_ok (h : WR w0 G X Lo c) {l : List Nat} {cF : Cx} (f : FrzTo w0 G X Lo c cF l) {sz : Nat} : ∀ {parts : List (Nat × AV)} {vparts : List (Nat × Value)} {es r : List AV} {cells : List Value},
    setAll c.S sz es parts = some r → (∀ x ∈ parts, ∀ b ∈ rowsA x.2, b ∈ l) → parts.map (·.1) = vparts.map (·.1) → VL c (parts.map (·.2)) (vparts.map (·.2)) →
    (∀ e ∈ es, e.cells.length = sz ∧ ∀ a ∈ e.cells, a.okC = true) → PL cF (es.flatMap AV.cells) cells →
    r.length = es.length ∧ (∀ e ∈ r, e.cells.length = sz ∧ ∀ a ∈ e.cells, a.okC = true) ∧ ∃ us : List Value, Instr.fill (fun i => some (i * sz, sz)) cells.toArray vparts = some us.toArray ∧ PL cF (r.flatMap AV.cells) us
  | [], [], es, r, cells, hr, _, _, _, he, hp => by simp [setAll] at hr; subst hr; exact ⟨rfl, he, cells, by simp [Instr.fill], hp⟩
  | (i, x) :: parts, (j, v) :: vparts, es, r, cells, hr, hl, hi, hv, he, hp => by
    simp at hi
    obtain ⟨rfl, hi⟩ := hi
    obtain ⟨v', r', e1, hxv, hv'⟩ := VL.of_cons hv
    simp at e1
    obtain ⟨rfl, rfl⟩ := e1
    simp only [setAll] at hr
    split at hr
    · rename_i y hy
      split at hr
      · rename_i hc
        obtain ⟨hi1, hysz, hyok⟩ := hc
        obtain ⟨py, pok⟩ := pureA_ok h f (hl (i, x) (by simp)) hxv hy
        have hcells : ∃ cs : List Value, v.cells = cs.toArray ∧ PL cF y.cells cs := by
          by_cases hagg : ∃ as, y = .agg as
          · obtain ⟨as, rfl⟩ := hagg
            cases py with
            | agg _ vs hl hc hp => exact ⟨vs, rfl, hl, hp⟩
          · have hcs : y.cells = [y] := by cases y <;> first | rfl | exact absurd ⟨_, rfl⟩ hagg
            rw [hcs] at hyok ⊢
            have h1 := (V.pure py).oneCell (by simpa using hyok)
            refine ⟨[v], cells_one h1, rfl, fun k b u h2 h3 => ?_⟩
            cases k with
            | zero => simp at h2 h3; subst h2; subst h3; exact py
            | succ k => simp at h2
        obtain ⟨cs, e2, hcs⟩ := hcells
        have hcl : cs.length = sz := by rw [← hcs.1]; exact hysz
        have hu : ∀ e ∈ es, e.cells.length = sz := fun e h => (he e h).1
        obtain ⟨e0, he0⟩ : ∃ e0, es[i]? = some e0 := ⟨_, List.getElem?_eq_getElem hi1⟩
        have hflat := flat_set (xs := y.cells) (off := 0) (e' := y) hu he0 (by rw [hysz, hu e0 (List.mem_of_getElem? he0)]; omega) (by
          rw [List.take_zero, List.nil_append, List.drop_eq_nil_of_le (by rw [hysz, hu e0 (List.mem_of_getElem? he0)]; omega), List.append_nil])
        rw [Nat.add_zero] at hflat
        have hmul : i * sz + sz ≤ es.length * sz := by
          have := Nat.mul_le_mul_right sz (show i + 1 ≤ es.length by omega)
          rw [Nat.succ_mul] at this; exact this
        have hcl2 : cells.length = es.length * sz := by rw [← hp.1, flat_len hu]
        have hnew : PL cF ((es.set i y).flatMap AV.cells) (cells.take (i * sz) ++ (cs ++ cells.drop (i * sz + cs.length))) := by
          rw [hflat, hcs.1]
          refine (hp.take _).append (hcs.append ?_)
          refine ⟨by simp [hp.1], fun k a u h1 h2 => ?_⟩
          rw [List.getElem?_drop] at h1 h2
          exact hp.2 _ a u h1 h2
        obtain ⟨g1, g2, us, g3, g4⟩ := setAll_ok h f hr (fun x hx => hl x (by simp [hx])) hi hv' (fun e hm => by
          rcases List.mem_or_eq_of_mem_set hm with hm | rfl
          · exact he e hm
          · exact ⟨hysz, fun a ha => List.all_eq_true.1 hyok a ha⟩) hnew
        refine ⟨by rw [g1]; simp, g2, us, ?_, g4⟩
        have hset := set_run (i * sz) cs cells 0 (by omega)
        simp only [Nat.add_zero] at hset
        have hb : ¬ (v.cells.size ≠ sz ∨ i * sz + v.cells.size > cells.toArray.size) := by
          rw [e2]
          simp only [List.size_toArray, hcl, ne_eq, not_true, false_or]
          omega
        simp only [Instr.fill]
        rw [if_neg (by simpa using hb)]
        have hz : (v.cells.zipIdx.foldl (fun (cs : Array Value) (x : Value × Nat) => cs.setIfInBounds (i * sz + x.2) x.1) cells.toArray) = (cells.take (i * sz) ++ (cs ++ cells.drop (i * sz + cs.length))).toArray := by
          rw [e2, ← Array.foldl_toList, Array.toList_zipIdx]
          rw [hset, List.append_assoc]
        rw [← g3]
        congr 1
      · cases hr
    · cases hr
  | [], _ :: _, _, _, _, _, _, hi, _, _, _ => by simp at hi
  | _ :: _, [], _, _, _, _, _, hi, _, _, _ => by simp at hi

theorem buildSlice_ok (h : WR w0 G X Lo c) {d : Option Tmp} {t : TypeId} {len : Nat} {ps : Array (Nat × Operand)} {ev : Operand → AV} {rv : Operand → Value} (hrel : ∀ x, V c (ev x) (rv x)) {v : AV} {ds : List (Nat × Blk)}
    (hr : aBuildSlice P c.S d t len (ps.toList.map fun x => (x.1, ev x.2)) = some (.val v ds)) : MOk P w0 G X Lo c (Instr.buildSlice t len (ps.map fun (i, x) => (i, rv x))) v ds := by
  obtain ⟨hp1, hp2⟩ := parts_rel (c := c) (ps := ps) hrel
  unfold aBuildSlice at hr
  split at hr
  · rename_i e hu
    split at hr
    · rename_i z hz
      split at hr
      · rename_i hc
        split at hr
        · rename_i es hes
          obtain ⟨ti, hti⟩ := info_of_cells hc.2
          have hcs : P.cellsOf e = ti.size := by simp [Program.cellsOf, hti]
          obtain ⟨zv, g1, g2, g3, g4⟩ := zeroOf_ok (c := c) c.w hz
          obtain ⟨cF, f⟩ := freezeTo h ((ps.toList.map fun x => (x.1, ev x.2)).flatMap fun x => rowsA x.2)
          have g2F : PV cF.w cF.F z zv := g2.mono f.le.size f.le.hF f.le.hw
          obtain ⟨p1, p2⟩ := zero_PL (c := cF) g2F g3 len
          obtain ⟨k1, k2, us, k3, k4⟩ := setAll_ok h f hes (fun x hx b hb => List.mem_flatMap.2 ⟨x, hx, hb⟩) hp1 hp2
            (fun y hy => by rw [(List.mem_replicate.1 hy).2]; exact ⟨g4, fun a ha => List.all_eq_true.1 g3 a ha⟩) p1
          have hul : us.length = len * P.cellsOf e := by
            rw [← k4.1, flat_len (fun e he => (k2 e he).1), k1, List.length_replicate]
          have hlen : es.length = len := by rw [k1, List.length_replicate]
          obtain ⟨c1, m1, m2, m3, m4, m5⟩ := row_push f c.w rfl rfl rfl hr us.toArray e 0 0 (.inl rfl) k2
            (by have := k4.content #[]; simpa using this) len (by omega) (by simp [hul])
          refine ⟨.slice (some ⟨c.w.heap.size, 0, none⟩) len len, c1, ?_, m2, m3, m4, by rw [hlen] at m5; exact m5⟩
          rw [m1]
          have hz2 : zv.cells.size = ti.size := by rw [p2, g4, hcs]
          have hts : ti.size ≠ 0 := by rw [← hcs]; exact hc.2
          have hbig : ¬ (16777216 < len * ti.size) := by rw [← hcs]; omega
          have hz : (Builtin.zeroCells zv.cells len).toList.toArray = Builtin.zeroCells zv.cells len := by simp
          rw [hz, hcs, Array.toList_map] at k3
          by_cases h00 : len = 0
          · subst h00
            have hz0 : Builtin.zeroCells zv.cells 0 = #[] := by simp [Builtin.zeroCells]
            have h9 : Array.map (fun _ => (default : Value)) (Array.range 0) = #[] := by apply Array.ext' ; simp [Array.range]
            rw [hz0] at k3
            simp [Instr.buildSlice, run_underlying hu, sizeOf, typeInfo, hti, Go.newRow, h9, k3]
          · have hrow : (Array.range (len * ti.size)).map (fun x => zv.cells[x % zv.cells.size]!) = Builtin.zeroCells zv.cells len := by
              unfold Builtin.zeroCells; rw [hz2]
            have h0 : ¬ (len * ti.size = 0) := Nat.mul_ne_zero h00 hts
            simp only [Instr.buildSlice, Sem.run_bind, run_underlying hu, Result.andThen_ok, run_sizeOf hti, hcs]
            simp [hbig, h0, g1, hrow, k3, Go.newRow]
        · cases hr
      · cases hr
    · cases hr
  · cases hr

end
end Go.Ab
/- Conversions. -/
namespace Go.Ab
open Go

section
variable {P : Program} {w0 : World} {G X Lo : Nat → Prop} {c : Cx}

theorem bytesOf_cells : ∀ {es : List AV} {l : List UInt8}, bytesOf? es = some l → ∃ ns : List Int, es = ns.map (AV.int .u8) ∧ l = ns.map fun n => UInt8.ofNat n.toNat
  | [], l, h => by simp [bytesOf?] at h; subst h; exact ⟨[], rfl, rfl⟩
  | a :: r, l, h => by
    cases a with
    | int k n =>
      cases k <;> simp only [bytesOf?] at h <;> first | cases h | skip
      split at h
      · rename_i l' hl
        cases h
        obtain ⟨ns, h1, h2⟩ := bytesOf_cells hl
        exact ⟨n :: ns, by rw [h1]; rfl, by rw [h2]; rfl⟩
      · cases h
    | _ => simp [bytesOf?] at h

theorem fold_push : ∀ (l : List UInt8) (s : List UInt8), l.foldl (fun (r : ByteArray) b => r.push b) ⟨s.toArray⟩ = ⟨(s ++ l).toArray⟩
  | [], s => by simp
  | b :: l, s => by
    simp only [List.foldl_cons]
    have : (⟨s.toArray⟩ : ByteArray).push b = ⟨(s ++ [b]).toArray⟩ := by
      apply ByteArray.ext; simp [ByteArray.push]
    rw [this, fold_push l (s ++ [b]), List.append_assoc]; rfl

theorem bytes_run (h : WR w0 G X Lo c) {x : AV} {val : Value} (hv : V c x val) (hns : ∀ s, x ≠ .str s) {es : List AV} (he : elemsOf c.S x = some es) {l : List UInt8} (hb : bytesOf? es = some l) :
    (Conv.bytesToString val).run P c.w = .ok (.string ⟨l.toArray⟩) c.w := by
  obtain ⟨ns, rfl, rfl⟩ := bytesOf_cells hb
  have hsz : ∀ e ∈ ns.map (AV.int .u8), e.cells.length = 1 := fun e he => by
    obtain ⟨n, _, rfl⟩ := List.mem_map.1 he; rfl
  obtain ⟨ad, cap, vs, rfl, h1, h2, h3, h4⟩ := elems_read h hv hns he hsz
  by_cases hne : ns = []
  · subst hne
    have hvs : vs = [] := List.eq_nil_of_length_eq_zero (by simpa using h1)
    cases ad with
    | none => simp [Conv.bytesToString]; rfl
    | some a =>
      have := run_bytesToString (P := P) c.w a 0 cap [] (by simp [loadCells, loadCellsFrom])
      exact this
  · obtain ⟨b, o, rfl, h5⟩ := h4 (by simpa using hne)
    have hflat : (ns.map (AV.int .u8)).flatMap AV.cells = ns.map (AV.int .u8) := by
      clear h1 h2 h3 h4 h5 hsz hne he hv hb
      induction ns with
      | nil => rfl
      | cons n r ih => rw [List.map_cons, List.flatMap_cons, ih]; rfl
    rw [hflat] at h2
    have hvs : vs = ns.map (Value.int .u8) := by
      apply List.ext_getElem?
      intro i
      rw [List.getElem?_map]
      have hl := h2.1
      rw [List.length_map] at hl
      cases hn : ns[i]? with
      | none =>
        have := List.getElem?_eq_none_iff.1 hn
        rw [List.getElem?_eq_none (by omega)]; rfl
      | some n =>
        have hlt := (List.getElem?_eq_some_iff.1 hn).1
        have hu : vs[i]? = some (vs[i]'(by omega)) := List.getElem?_eq_getElem (by omega)
        have := h2.2 i (.int .u8 n) _ (by rw [List.getElem?_map, hn]; rfl) hu
        rw [hu]
        have e := (V.pure (c := c) this).int_inv
        rw [e]; rfl
    have hlen : (ns.map (AV.int .u8)).length = vs.length := by rw [hvs]; simp
    have hload := run_loadCells_list (P := P) c.w ⟨b, o, none⟩ vs h5
    have := run_bytesToString (P := P) c.w ⟨b, o, none⟩ (ns.map (AV.int .u8)).length cap ns (by rw [hlen, hload, hvs])
    rw [this]
    congr 2
    have := fold_push (ns.map fun n => UInt8.ofNat n.toNat) []
    rw [List.foldl_map] at this
    exact this

theorem freeze_push (w : World) (cells : Array Value) (e : TypeId) : ({ w with heap := w.heap.push (.cells cells e (0, 0)) } : World).freeze { block := w.heap.size, off := cells.size } 1 =
    { w with heap := w.heap.push (.cells cells e (cells.size, cells.size + 1)) } := by
  unfold World.freeze
  simp only [Nat.succ_ne_zero, if_false]
  congr 1
  apply Array.ext_getElem?
  intro k
  rw [Array.getElem?_modify]
  by_cases hk : w.heap.size = k
  · subst hk
    simp
  · rw [if_neg hk]
    rw [Array.getElem?_push, Array.getElem?_push, if_neg (fun h => hk h.symm), if_neg (fun h => hk h.symm)]

theorem freeze_other (w : World) (b n k : Nat) (hk : k ≠ b) : (w.freeze { block := b, off := n } 1).heap[k]? = w.heap[k]? := by
  unfold World.freeze
  simp only [Nat.succ_ne_zero, if_false]
  rw [Array.getElem?_modify, if_neg (fun h => hk h.symm)]

theorem conv_ok (h : WR w0 G X Lo c) {d : Option Tmp} {src dst : TypeId} {x : AV} {val : Value} (hv : V c x val) {v : AV} {ds : List (Nat × Blk)}
    (hr : aConv P c.S d src dst x = some (.val v ds)) : MOk P w0 G X Lo c (convert src dst val) v ds := by
  unfold aConv at hr
  split at hr
  · rename_i k n
    rw [hv.int_inv]
    split at hr
    · rename_i k' hd
      split at hr
      · rename_i hs
        cases hr
        obtain ⟨sd, hsd⟩ := Option.isSome_iff_exists.1 hs
        exact ⟨_, c, by simp [convert, run_underlying hsd, run_underlying hd, Conv.intToInt], rfl, h, Le.refl _, .pure (.int _ _)⟩
      · cases hr
    · cases hr
  · rename_i s
    rw [hv.str_inv]
    split at hr
    · rename_i hd
      split at hr
      · rename_i hs
        cases hr
        obtain ⟨sd, hsd⟩ := Option.isSome_iff_exists.1 hs
        exact ⟨_, c, by simp [convert, run_underlying hsd, run_underlying hd], rfl, h, Le.refl _, .pure (.str _)⟩
      · cases hr
    · rename_i e hd
      split at hr
      · rename_i he
        split at hr
        · rename_i hs
          obtain ⟨sd, hsd⟩ := Option.isSome_iff_exists.1 hs.1
          have hlen : (⟨s.toArray⟩ : ByteArray).size = s.length := by simp [ByteArray.size]
          have hgl := grown_le c.w s.length 0 e
          have helems : (s.map fun b : UInt8 => Value.int .u8 (b.toNat : Int)).toArray.size = s.length := by simp
          have hsize : ((s.map fun b : UInt8 => Value.int .u8 (b.toNat : Int)).toArray ++ Array.replicate (grownCap c.w s.length 0 e - s.length) (Value.int .u8 0)).size = grownCap c.w s.length 0 e := by
            simp; omega
          rw [← freeze_nil c.S] at hr
          obtain ⟨c1, k1, k2, k3, k4, k5⟩ := row_push (frz_nil h) c.w.drew rfl rfl rfl hr ((s.map fun b : UInt8 => Value.int .u8 (b.toNat : Int)).toArray ++ Array.replicate (grownCap c.w s.length 0 e - s.length) (Value.int .u8 0)) e (grownCap c.w s.length 0 e) (grownCap c.w s.length 0 e + 1)
            (.inr ⟨by rw [hsize]; exact Nat.le_refl _, rfl⟩)
            (fun y hy => by
              obtain ⟨b, _, rfl⟩ := List.mem_map.1 hy
              exact ⟨rfl, fun a ha => by simp [AV.cells] at ha; subst ha; rfl⟩)
            (by
              rw [flat_bytes]
              have hp : PL c (s.map fun b : UInt8 => AV.int .u8 b.toNat) (s.map fun b : UInt8 => Value.int .u8 (b.toNat : Int)) := by
                refine ⟨by simp, fun i a v h1 h2 => ?_⟩
                rw [List.getElem?_map] at h1 h2
                cases hb : s[i]? with
                | none => rw [hb] at h1; cases h1
                | some b => rw [hb] at h1 h2; cases h1; cases h2; exact .int _ _
              exact hp.content _)
            (grownCap c.w s.length 0 e) (by simpa using hgl) (by rw [hsize]; omega)
          refine ⟨.slice (some ⟨c.w.heap.size, 0, none⟩) s.length (grownCap c.w s.length 0 e), c1, ?_, k2, k3, k4, by simpa using k5⟩
          rw [k1]
          have hfp := freeze_push c.w.drew ((s.map fun b : UInt8 => Value.int .u8 (b.toNat : Int)).toArray ++ Array.replicate (grownCap c.w s.length 0 e - s.length) (Value.int .u8 0)) e
          rw [hsize] at hfp
          have harr : Array.map (fun b : UInt8 => Value.int .u8 (b.toNat : Int)) s.toArray = (s.map fun b : UInt8 => Value.int .u8 (b.toNat : Int)).toArray := by simp
          have hsh : (({ c.w.drew with heap := c.w.drew.heap.push (.cells ((s.map fun b : UInt8 => Value.int .u8 (b.toNat : Int)).toArray ++ Array.replicate (grownCap c.w s.length 0 e - s.length) (Value.int .u8 0)) e (0, 0)) } : World).shape? c.w.heap.size) = some (e, grownCap c.w s.length 0 e) := by
            have h9 : (c.w.drew.heap.push (.cells ((s.map fun b : UInt8 => Value.int .u8 (b.toNat : Int)).toArray ++ Array.replicate (grownCap c.w s.length 0 e - s.length) (Value.int .u8 0)) e (0, 0)))[c.w.heap.size]? = some (.cells ((s.map fun b : UInt8 => Value.int .u8 (b.toNat : Int)).toArray ++ Array.replicate (grownCap c.w s.length 0 e - s.length) (Value.int .u8 0)) e (0, 0)) := Array.getElem?_push_size
            simp only [World.shape?, h9, hsize]
          have hconv : (convert src dst (.string ⟨s.toArray⟩)).run P c.w = (Conv.stringToBytes e ⟨s.toArray⟩).run P c.w := by
            simp [convert, run_underlying hsd, run_underlying hd, run_underlying he]
          rw [hconv]
          have hch : (choose (.appendCap s.length 0 e)).run P c.w = .ok (grownCap c.w s.length 0 e) c.w.drew := by
            simp [Question.forced, grownCap]
          simp only [Conv.stringToBytes, hlen, Sem.run_bind, hch, Result.andThen_ok, Go.newRow, run_newObj, Sem.run_pure, markStringish, run_shape]
          rw [harr]
          rw [show (c.w.drew.heap.size) = c.w.heap.size from rfl, hsh]
          simp only [run_freeze, Result.andThen_ok]
          exact congrArg (Result.ok _) hfp
        · cases hr
      · cases hr
    · cases hr
  · rename_i hni hns
    split at hr
    · rename_i e hs
      split at hr
      · rename_i hd
        split at hr
        · rename_i he
          split at hr
          · rename_i es hes
            split at hr
            · rename_i l hl
              cases hr
              obtain ⟨ad, n, cap, rfl⟩ : ∃ ad n cap, val = .slice ad n cap := by
                cases x with
                | slc => have := hv.slc_inv; cases this; exact ⟨_, _, _, rfl⟩
                | sref b v0 off len =>
                  simp only [elemsOf] at hes
                  unfold rowAt at hes
                  split at hes
                  · rename_i y hy
                    split at hes
                    · rename_i hk
                      obtain ⟨h1, h2, h3⟩ := ldBlk_some hy
                      obtain ⟨x, hx1, hx2, hx3⟩ := hv.sref_inv
                      have : y = x := Option.some.inj (h1.symm.trans hx1)
                      subst this
                      obtain ⟨cap, cells0, tt, fr, rfl, _⟩ := hx3 h2.symm hk.1
                      exact ⟨_, _, _, rfl⟩
                    · cases hes
                  · cases hes
                | str s => exact absurd rfl (hns s)
                | _ => simp [elemsOf] at hes
              refine ⟨_, c, ?_, rfl, h, Le.refl _, .pure (.str l)⟩
              rw [run_convert_bytes_string c.w src dst e ad n cap hs he hd]
              exact bytes_run h hv hns hes hl
            · cases hr
          · cases hr
        · cases hr
      · rename_i e' hd
        split at hr
        · rename_i b v0 off len
          split at hr
          · rename_i y hy
            split at hr
            · rename_i he'
              split at hr
              · rename_i hk
                cases hr
                obtain ⟨h1, h2, h3⟩ := ldBlk_some hy
                obtain ⟨x, hx1, hx2, hx3⟩ := hv.sref_inv
                have : y = x := Option.some.inj (h1.symm.trans hx1)
                subst this
                obtain ⟨cap, cells0, tt, fr, rfl, e2, e3, e4, e5⟩ := hx3 h2.symm hk.2.1
                obtain ⟨cells, t, lo, hi, g1, g2, g3, g4⟩ := (h.blk b y h1 h3).here
                have hsd := hk.1
                subst hsd
                have hee : e' = e := by rw [hs] at hd; cases hd; rfl
                subst hee
                have hsh : c.w.shape? (c.R b) = some (t, cells.size) := by simp [World.shape?, g1]
                have hfz := hk.2.2.1
                have hfrz : (c.w.freeze { block := c.R b, off := cells.size } 1).heap = c.w.heap.setIfInBounds (c.R b) (.cells cells t (if lo == hi then (cells.size, cells.size + 1) else (min lo cells.size, max hi (cells.size + 1)))) := by
                  apply Array.ext_getElem?
                  intro k
                  by_cases hkk : k = c.R b
                  · subst hkk
                    rw [Array.getElem?_setIfInBounds_self_of_lt (Array.getElem?_eq_some_iff.1 g1).1]
                    unfold World.freeze
                    simp only [Nat.succ_ne_zero, if_false]
                    rw [Array.getElem?_modify, if_pos rfl, g1]
                    rfl
                  · rw [freeze_other c.w _ _ k hkk, Array.getElem?_setIfInBounds_ne (fun h => hkk h.symm)]
                obtain ⟨w1, w2⟩ := h.setW b y y h1 h3 hfz rfl rfl rfl hfz (fun _ => rfl) cells cells t t (lo, hi)
                  (if lo == hi then (cells.size, cells.size + 1) else (min lo cells.size, max hi (cells.size + 1))).1 (if lo == hi then (cells.size, cells.size + 1) else (min lo cells.size, max hi (cells.size + 1))).2 g1 rfl
                  (by
                    right
                    refine ⟨?_, hk.2.2.2⟩
                    split
                    · exact Nat.le_refl _
                    · rename_i q
                      rcases g2 with q2 | q2
                      · exact absurd (by simp [q2]) q
                      · simp only; omega)
                  (c.w.freeze { block := c.R b, off := cells.size } 1) hfrz (by unfold World.freeze; rfl) (by unfold World.freeze; rfl) g3 g4
                refine ⟨.slice (some ⟨c.R b, off * y.sz, none⟩) len cap, _, ?_, ?_, w1, w2, ?_⟩
                · have hm : (markStringish ⟨c.R b, off * y.sz, none⟩).run P c.w = .ok () (c.w.freeze { block := c.R b, off := cells.size } 1) := by
                    simp [markStringish, hsh]
                  simp [convert, run_underlying hs, run_underlying he', hm]
                · rfl
                · exact hv.mono w2
              · cases hr
            · cases hr
          · cases hr
        · cases hr
      · cases hr
    · cases hr

end
end Go.Ab
